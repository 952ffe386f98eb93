/-
  Package ideal: its map gone through.
-/
import Derived.Test.YtinfbpldgobmfaaIdT
import Derived.Test.YtinfbpldgobmfaaTd1
import Derived.Test.YtinfbpldgobmfaaTdP
namespace Go.Proofs.Ytinfbpldgobmfaa
open Go.RowKit
set_option linter.unusedSimpArgs false
set_option linter.unusedVariables false

def bornAt (es : Array MapEntry) (i : Nat) : Nat := (es[i]?.map (·.born)).getD 0
def seenAt (es : Array MapEntry) (I : List Nat) : Array Nat := (I.map (bornAt es)).toArray
theorem born_inj2 {es : Array MapEntry} {clock : Nat} (h : Go.MapKept.Stamped es clock) {i j : Nat} (hi : i < es.size) (hj : j < es.size) (e : bornAt es i = bornAt es j) : i = j := by
  unfold bornAt at e
  rw [Array.getElem?_eq_getElem hi, Array.getElem?_eq_getElem hj] at e
  simp only [Option.map_some, Option.getD_some] at e
  have hn := h.2.1
  have h1 : (es.toList.map (·.born))[i]'(by simpa using hi) = (es.toList.map (·.born))[j]'(by simpa using hj) := by simpa using e
  exact (List.getElem_inj hn).1 h1
theorem seen_mem {es : Array MapEntry} {clock : Nat} (h : Go.MapKept.Stamped es clock) {I : List Nat} (hI : ∀ i ∈ I, i < es.size) {i : Nat} (hi : i < es.size) : (seenAt es I).contains es[i].born = true ↔ i ∈ I := by
  have hb : es[i].born = bornAt es i := by unfold bornAt; rw [Array.getElem?_eq_getElem hi]; rfl
  unfold seenAt
  rw [hb, List.contains_toArray, List.contains_iff_mem]
  constructor
  · intro hm
    obtain ⟨j, hj, e⟩ := List.mem_map.1 hm
    rw [born_inj2 h (hI j hj) hi e] at hj
    exact hj
  · exact fun hm => List.mem_map.2 ⟨i, hm, rfl⟩
theorem may_next {wr : World} {r mb clock : Nat} {es : Array MapEntry} {I : List Nat} (hr : wr.heap[r]? = some (.mapIter (some mb) clock (seenAt es I) clock)) (hb : wr.heap[mb]? = some (.map es clock)) (hst : Go.MapKept.Stamped es clock) (hI : ∀ i ∈ I, i < es.size) :
    ((∀ i, i < es.size → i ∈ I) ∧ ∀ ty, (Instr.next (.pointer (some ⟨r, 0, none⟩)) false ty).run Try.prog wr = .ok (.tuple #[.bool false]) wr) ∨
    ∃ i, ∃ hi : i < es.size, i ∉ I ∧ ∃ q, (∀ ty, (Instr.next (.pointer (some ⟨r, 0, none⟩)) false ty).run Try.prog wr = .ok (.tuple #[.bool true, es[i].key, es[i].val]) (Go.ChangeMaps.setBlock (wr.drewN q) r (.mapIter (some mb) clock (seenAt es (I ++ [i])) clock))) ∧
      ∀ wx : World, wx.heap[r]? = some (.mapIter (some mb) clock (seenAt es (I ++ [i])) clock) → wx.heap[mb]? = some (.map es clock) → (Instr.entry (.pointer (some ⟨r, 0, none⟩))).run Try.prog wx = .ok (.tuple #[es[i].key, es[i].val]) wx := by
  rcases Go.run_next_at (P := Try.prog) wr 0 r mb clock clock (seenAt es I) es clock hr hb hst.1 (Nat.le_refl _) with ⟨h1, h2⟩ | ⟨e, he, w1, hw1, h2⟩
  · left
    refine ⟨fun i hi => ?_, fun ty => h2⟩
    have hall := all_seen es (seenAt es I) h1 es[i] (by simp)
    exact (seen_mem hst hI hi).1 hall
  · right
    obtain ⟨hem, hes⟩ := mem_left he
    obtain ⟨i, hi, rfl⟩ := List.mem_iff_getElem.1 hem
    have hi' : i < es.size := by simpa using hi
    have hpush : (seenAt es I).push es.toList[i].born = seenAt es (I ++ [i]) := by
      unfold seenAt bornAt
      rw [List.map_append, List.map_singleton, Array.getElem?_eq_getElem hi']
      simp
    rw [hpush] at h2
    obtain ⟨q, rfl⟩ : ∃ q, w1 = wr.drewN q := by
      rcases hw1 with rfl | rfl
      · exact ⟨0, rfl⟩
      · exact ⟨1, rfl⟩
    refine ⟨i, hi', fun hm => ?_, q, fun ty => ?_, fun wx hx1 hx2 => ?_⟩
    · have := (seen_mem hst hI hi').2 hm
      simp only [Array.getElem_toList] at hes
      rw [hes] at this
      cases this
    · exact h2
    · rw [← hpush] at hx1
      exact Go.run_entry_at wx r mb clock (seenAt es I) es clock es.toList[i] hx1 hx2 hem hst.2.1
/-! ### closures -/
theorem idaddrs11_any (x : BK) (W : World) : Calls Try.prog 40 #[.agg x.cells.toArray] W fun en w' => en = .returned (.bool x.some) ∧ w' = W.alloc (.cells x.cells.toArray 71) := by
  obtain ⟨x0, x1, x2⟩ := x
  simp only [BK.cells, strB]
  go_enter Try.func40, Try.ntmps40
  go_wp2_with fail
  go_ret
  exact ⟨rfl, rfl⟩
def someB (l : List BK) : Bool := l.any (·.some)
def sureB (l : List BK) : Bool := (onlyB false l).length == 0
def mayD (l : List BK) : Bool := decide (0 < (onlyB true l).length)
theorem idaddrs1_any (v : Value) (l : List BK) (w : World) (Fr : HL) (hv : BksAt w v l) (hH : Holds w Fr) (hsm : l.length ≤ 1000000) : Calls Try.prog 38 #[v] w (RetFr (.bool (someB l)) w Fr) := by
  have HC := Lib.hid (idhasF_any 40 #[] (·.some) (enters_of Try.func40 (by kernel_rfl) rfl) v l w Fr (pred_boxed idaddrs11_any) hv hH)
  obtain ⟨A, c, rfl⟩ := hv.val
  change Hid (Calls Try.prog 39 _ w (RetFr (.bool (someB l)) w Fr)) at HC
  generalize someB l = r at *
  clear hv
  go_enter Try.func38, Try.ntmps38
  go_wp2_with fail
  refine HC.out.mono ?_
  rintro e w' ⟨rfl, h1, h2⟩
  go_wp2_with fail
  go_ret
  exact ⟨rfl, h1, h2⟩
set_option maxRecDepth 20000 in
theorem idonly_any (v : Value) (l : List BK) (d : Bool) (w : World) (Fr : HL) (hv : BksAt w v l) (hH : Holds w Fr) (hsm : l.length ≤ 1000000) : Calls Try.prog 36 #[v, .bool d] w (RetNew (fun v' H' => IsBks v' (onlyB d l) H') w Fr) := by
  have hH1 := hH.alloc (.cells #[.bool d] 4)
  have HC := Lib.hid (idclone_any v l _ _ (hv.keep (w' := w.alloc (.cells #[.bool d] 4)) fun p u hu => by rw [World.cell?_alloc_lt w _ p (World.block_lt_of_cell? w p hu)]; exact hu) hH1 hsm)
  have hg1 := (Grew.refl w).alloc (.cells #[.bool d] 4)
  obtain ⟨A, c, rfl⟩ := hv.val
  have HL := Lib.hid hsm
  clear hv hH hH1 hsm
  go_enter Try.func36, Try.ntmps36
  go_wp2_with fail
  refine HC.out.mono ?_
  rintro e w2 ⟨v2, H2, rfl, hr2, hH2, hg2⟩
  have HD := Lib.hid (iddel_any d w.heap.size v2 l H2 Fr w2 hr2 hH2 HL.out)
  obtain ⟨A2, c2, rfl⟩ := hr2.val
  clear hr2 hH2 HC
  go_wp2_with fail
  refine HD.out.mono ?_
  rintro e w3 ⟨v3, H3, rfl, hr3, hH3, hg3⟩
  have HR3 := Lib.hid hr3
  obtain ⟨A3, c3, rfl⟩ := hr3.val
  clear hr3 HD
  go_wp2_with fail
  go_ret
  exact ⟨_, H3, rfl, HR3.out, Holds.mid (B := [_]) hH3, (hg1.trans hg2).trans hg3⟩
theorem iddirty1_any (v : Value) (l : List BK) (w : World) (Fr : HL) (hv : BksAt w v l) (hH : Holds w Fr) (hsm : l.length ≤ 1000000) : Calls Try.prog 35 #[v] w (RetFr (.bool (sureB l)) w Fr) := by
  have HC := Lib.hid (idonly_any v l false w Fr hv hH hsm)
  obtain ⟨A, c, rfl⟩ := hv.val
  have HE := Lib.hid (show sureB l = ((onlyB false l).length == 0) from rfl)
  clear hv
  go_enter Try.func35, Try.ntmps35
  go_wp2_with fail
  refine HC.out.mono ?_
  rintro e w' ⟨v', H', rfl, hr, h1, h2⟩
  obtain ⟨A2, c2, rfl⟩ := hr.val
  generalize hn : (onlyB false l).length = n at *
  have HN := Lib.hid hn
  clear hr hn
  go_wp2_with fail
  go_ret
  exact ⟨ret_b (by unfold sureB; rw [HN.out]; first | done | rfl | (cases n <;> rfl) | (cases n <;> simp)), h1.right, h2⟩
theorem iddirty2_any (v : Value) (l : List BK) (w : World) (Fr : HL) (hv : BksAt w v l) (hH : Holds w Fr) (hsm : l.length ≤ 1000000) : Calls Try.prog 37 #[v] w (RetFr (.bool (mayD l)) w Fr) := by
  have HC := Lib.hid (idonly_any v l true w Fr hv hH hsm)
  obtain ⟨A, c, rfl⟩ := hv.val
  have HE := Lib.hid (show mayD l = decide (0 < (onlyB true l).length) from rfl)
  clear hv
  go_enter Try.func37, Try.ntmps37
  go_wp2_with fail
  refine HC.out.mono ?_
  rintro e w' ⟨v', H', rfl, hr, h1, h2⟩
  obtain ⟨A2, c2, rfl⟩ := hr.val
  generalize hn : (onlyB true l).length = n at *
  have HN := Lib.hid hn
  clear hr hn
  go_wp2_with fail
  go_ret
  exact ⟨ret_b (by unfold mayD; rw [HN.out]; first | done | rfl | (cases n <;> rfl) | (cases n <;> simp)), h1.right, h2⟩

/-! ### the addresses -/
def outI (M : List (Int × List BK)) (P : List BK → Bool) (I : List Nat) : List Int := I.filterMap fun i => (M[i]?).bind fun p => if P p.2 then some p.1 else none
theorem outI_snoc {M : List (Int × List BK)} {P : List BK → Bool} {I : List Nat} {i : Nat} (h : i < M.length) : outI M P (I ++ [i]) = outI M P I ++ (if P M[i].2 then [M[i].1] else []) := by
  unfold outI
  rw [List.filterMap_append, List.filterMap_cons, List.getElem?_eq_getElem h]
  by_cases hp : P M[i].2 = true <;> simp [hp]
theorem outI_len {M : List (Int × List BK)} {P : List BK → Bool} {I : List Nat} : (outI M P I).length ≤ I.length := List.length_filterMap_le _ _
theorem outI_all {M : List (Int × List BK)} {P : List BK → Bool} {I : List Nat} (hn : I.Nodup) (h1 : ∀ i ∈ I, i < M.length) (h2 : ∀ i, i < M.length → i ∈ I) : (outI M P I).Perm ((M.filter fun p => P p.2).map (·.1)) := by
  have hp : I.Perm (List.range M.length) := (List.perm_ext_iff_of_nodup hn List.nodup_range).2 fun i => by rw [List.mem_range]; exact ⟨h1 i, h2 i⟩
  have h3 : (outI M P I).Perm (outI M P (List.range M.length)) := hp.filterMap _
  refine h3.trans ?_
  have h4 : outI M P (List.range M.length) = (M.filter fun p => P p.2).map (·.1) := by
    clear h3 hp h1 h2 hn
    have key : ∀ (M : List (Int × List BK)), (List.range M.length).filterMap (fun i => (M[i]?).bind fun p => if P p.2 then some p.1 else none) = M.filterMap fun p => if P p.2 then some p.1 else none := by
      intro M
      induction M with
      | nil => rfl
      | cons p M ih =>
        rw [List.length_cons, List.range_succ_eq_map, List.filterMap_cons, List.filterMap_map, List.filterMap_cons]
        have e : (List.range M.length).filterMap ((fun i => ((p :: M)[i]?).bind fun p => if P p.2 then some p.1 else none) ∘ Nat.succ) = M.filterMap fun p => if P p.2 then some p.1 else none := ih
        rw [e]
        rfl
    have k2 : ∀ (M : List (Int × List BK)), (M.filterMap fun p => if P p.2 then some p.1 else none) = (M.filter fun p => P p.2).map (·.1) := by
      intro M
      induction M with
      | nil => rfl
      | cons p M ih =>
        by_cases hp : P p.2 = true
        · rw [List.filterMap_cons, if_pos hp, List.filter_cons_of_pos (by simpa using hp), List.map_cons, ih]
        · rw [List.filterMap_cons, if_neg hp, List.filter_cons_of_neg (by simpa using hp), ih]
    exact (key M).trans (k2 M)
  rw [h4]
theorem nodup_below : ∀ (n : Nat) (I : List Nat), I.Nodup → (∀ i ∈ I, i < n) → I.length ≤ n := by
  intro n
  induction n with
  | zero =>
    intro I _ h
    cases I with
    | nil => simp
    | cons i I => exact absurd (h i (by simp)) (by omega)
  | succ n ih =>
    intro I hn h
    by_cases hm : n ∈ I
    · have h1 := ih (I.erase n) (hn.erase n) (fun i hi => by
        obtain ⟨h2, h3⟩ := hn.mem_erase_iff.1 hi
        have := h i h3
        omega)
      rw [List.length_erase_of_mem hm] at h1
      omega
    · have h1 := ih I hn (fun i hi => by
        have := h i hi
        have : i ≠ n := fun e => hm (e ▸ hi)
        omega)
      omega
def addrsM (M : List (Int × List BK)) (P : List BK → Bool) : List Int := srt ((M.filter fun p => P p.2).map (·.1))
theorem srt_perm {a b : List Int} (h : a.Perm b) : srt a = srt b :=
  List.Perm.eq_of_pairwise (le := (· ≤ ·)) (fun x y _ _ h1 h2 => Int.le_antisymm h1 h2) (srt_sorted a) (srt_sorted b) (((List.mergeSort_perm a _).trans h).trans (List.mergeSort_perm b _).symm)
def AddrTo (es : Array MapEntry) (M : List (Int × List BK)) (P : List BK → Bool) (r mb clock : Nat) (w : World) (F : HL) (out : Value) (wr : World) : Prop :=
  ∃ (I : List Nat) (Ho : HL), I.Nodup ∧ (∀ i ∈ I, i < es.size) ∧ IsWs out (outI M P I) Ho ∧ Holds wr ((r, .mapIter (some mb) clock (seenAt es I) clock) :: (Ho ++ F)) ∧ Grew w wr
theorem iter_size {w : World} {r mb clock : Nat} {es : Array MapEntry} {I : List Nat} {F : HL} (h : Holds w ((r, .mapIter (some mb) clock (seenAt es I) clock) :: F)) : (w.iterSeen r).size = I.length := by
  have := h.get (b := r) (o := .mapIter (some mb) clock (seenAt es I) clock) (by simp)
  unfold World.iterSeen
  rw [this]
  simp [seenAt]
set_option maxRecDepth 20000 in
set_option maxHeartbeats 2000000 in
theorem idaddrsOf_idAddrs1 (v : Value) (size : Int) (M : List (Int × List BK)) (H Fr : HL) (w : World) (h : IsIdeal v size M H) (hM : MOk M) (hlen : M.length ≤ 100000) (hls : ∀ p ∈ M, p.2.length ≤ 1000000) (hH : Holds w (H ++ Fr)) :
    Calls Try.prog 34 #[v, .func (.func 38) #[] #[]] w (RetNew (fun v' H' => IsWs v' (addrsM M someB) H') w (H ++ Fr)) := by
  obtain ⟨b, mb, es, clock, Hm, rfl, hmay, hst, rfl⟩ := h
  have hc1 : w.cell? ⟨b, 1, none⟩ = some (.map (some mb)) := hH.hcell 1
  have hmb : w.heap[mb]? = some (.map es clock) := (Holds.tail hH).get (by simp)
  have hrg := run_range_map (P := Try.prog) w 59 _ _ mb es clock Try.underlying59 hmb
  have hH1 := hH.alloc (.mapIter (some mb) clock #[] clock)
  have hg1 := (Grew.refl w).alloc (.mapIter (some mb) clock #[] clock)
  have HLEN := Lib.hid (show es.size = M.length by have := hmay.len; simpa using this)
  have HMAY := Lib.hid hmay
  have HST := Lib.hid hst
  have HLS := Lib.hid hls
  have HML : Hid (M.length ≤ 100000) := Lib.hid hlen
  clear hmay hst hls hlen hH hmb
  go_enter Try.func34, Try.ntmps34
  go_wp2_with fail
  generalize w.alloc (.mapIter (some mb) clock #[] clock) = w1 at *
  generalize w.heap.size = r at *
  clear hrg hc1
  go_loopw [5] (fun out wr => AddrTo es M someB r mb clock w (((b, .cells #[.int .i64 size, .map (some mb)] 61) :: (mb, .map es clock) :: Hm) ++ Fr) out wr) (fun _ wr => es.size - (wr.iterSeen r).size)
  case atStart => exact ⟨[], [], List.Pairwise.nil, by simp, IsRow.nil _ _, hH1, hg1⟩
  case round =>
    clear hH1 hg1
    obtain ⟨I, Ho, hnd, hI, hrow, hHr, hgr⟩ := hrel
    have hir : wr.heap[r]? = some (.mapIter (some mb) clock (seenAt es I) clock) := hHr.get (by simp)
    have himb : wr.heap[mb]? = some (.map es clock) := hHr.get (by simp)
    have HROW := Lib.hid hrow
    have HHR := Lib.hid hHr
    have HND := Lib.hid hnd
    have HI := Lib.hid hI
    have hIl : (outI M someB I).length ≤ 100000 := by
      have h1 := outI_len (M := M) (P := someB) (I := I)
      have h2 : I.length ≤ es.size := by
        exact nodup_below _ I hnd hI
      have := HLEN.out
      have := HML.out
      omega
    obtain ⟨A5, c5, rfl⟩ := hrow.val
    rcases may_next hir himb HST.out hI with ⟨hall, hnx⟩ | ⟨i, hi, hni, q, hnx, hent⟩
    · have HP := Lib.hid (outI_all (P := someB) HND.out (fun i hi => by rw [← HLEN.out]; exact HI.out i hi) (fun i hi => hall i (by rw [HLEN.out]; exact hi)))
      have HSO := Lib.hid (sort64_any _ _ Ho (((b, .cells #[.int .i64 size, .map (some mb)] 61) :: (mb, .map es clock) :: Hm) ++ Fr) wr HROW.out HHR.out.tail (by omega))
      rw [srt_perm HP.out] at HSO
      generalize (outI M someB I).length = zn at *
      have hnx1 := hnx 0
      clear hall hrow hHr hnd hI hir himb hnx
      go_wp2_with fail
      refine HSO.out.mono ?_
      rintro e w3 ⟨rfl, H3, hr3, hH3, hg3⟩
      have HR3 := Lib.hid hr3
      clear hr3 HSO hnx1
      go_wp2_with fail
      go_ret
      exact ⟨_, H3, rfl, HR3.out, hH3, hgr.trans hg3⟩
    · have hiM : i < M.length := by rw [← HLEN.out]; exact hi
      have hk := HMAY.out.key i (by simpa using hi) hiM
      have HHN : Hid (Holds (Go.ChangeMaps.setBlock (wr.drewN q) r (.mapIter (some mb) clock (seenAt es (I ++ [i])) clock)) ((r, .mapIter (some mb) clock (seenAt es (I ++ [i])) clock) :: (Ho ++ (((b, .cells #[.int .i64 size, .map (some mb)] 61) :: (mb, .map es clock) :: Hm) ++ Fr)))) := Lib.hid ((hHr.drewN q).setBlk _)
      have hg2 := (hgr.drewN q).setBlk r (.mapIter (some mb) clock (seenAt es (I ++ [i])) clock)
      have HSN := Lib.hid (outI_snoc (P := someB) (I := I) hiM)
      have HLI := Lib.hid (HLS.out _ (List.getElem_mem hiM))
      have HRD := Lib.hid (fun (wx : World) (F : HL) (hx : Holds wx (Hm ++ F)) => HMAY.out.at_ hx i (by simpa using hi) hiM)
      simp only [Array.getElem_toList] at hk HRD
      rw [hk] at hnx hent
      generalize Go.ChangeMaps.setBlock (wr.drewN q) r (.mapIter (some mb) clock (seenAt es (I ++ [i])) clock) = w2 at *
      have hent2 := hent w2 (HHN.out.get (by simp)) (HHN.out.get (by simp))
      have hBA : BksAt w2 es[i].val M[i].2 := HRD.out w2 ((r, .mapIter (some mb) clock (seenAt es (I ++ [i])) clock) :: (Ho ++ ((b, .cells #[.int .i64 size, .map (some mb)] 61) :: ((mb, .map es clock) :: Fr)))) (by
        have h : Holds w2 (Hm ++ ((r, .mapIter (some mb) clock (seenAt es (I ++ [i])) clock) :: (Ho ++ ((b, .cells #[.int .i64 size, .map (some mb)] 61) :: ((mb, .map es clock) :: Fr))))) := HHN.out.sub (by (repeat' (first | refine sub_append ?_ ?_ | refine sub_cons ?_ ?_ | exact sub_nil)); all_goals first | (intro p hp; simp only [List.mem_append, List.mem_cons, hp, true_or, or_true]) | simp only [List.mem_append, List.mem_cons, true_or, or_true]) (fun b => by simp only [keyc_append, keyc_cons, keyc_nil]; omega)
        exact h)
      have HCL := Lib.hid (idaddrs1_any es[i].val M[i].2 w2 _ hBA HHN.out HLI.out)
      have hnx1 := hnx 0
      have hiter := iter_size HHN.out
      have hiter0 := iter_size HHR.out
      have HMS : Hid (es.size - (I.length + 1) < es.size - I.length) := Lib.hid (by
        have h2 : (I ++ [i]).length ≤ es.size := by
          exact nodup_below _ _ (List.nodup_append.2 ⟨HND.out, by simp, fun x hx y hy e => hni (by rw [List.mem_singleton] at hy; rw [← hy, ← e]; exact hx)⟩) (fun j hj => by
            rcases List.mem_append.1 hj with hj | hj
            · exact HI.out j hj
            · rw [List.mem_singleton.1 hj]; exact hi)
        simp at h2
        omega)
      have HNW : Hid ((I ++ [i]).Nodup ∧ ∀ j ∈ I ++ [i], j < es.size) := Lib.hid ⟨List.nodup_append.2 ⟨HND.out, by simp, fun x hx y hy e => hni (by rw [List.mem_singleton] at hy; rw [← hy, ← e]; exact hx)⟩, fun j hj => by
        rcases List.mem_append.1 hj with hj | hj
        · exact HI.out j hj
        · rw [List.mem_singleton.1 hj]; exact hi⟩
      obtain ⟨Ae, ce, hev⟩ := hBA.val
      rw [hev] at hnx1 hent2 HCL
      generalize M[i].2 = l at *
      generalize M[i].1 = a at *
      generalize outI M someB I = z at *
      cases hp : someB l with
      | false =>
        rw [hp] at HCL
        have HS2 := Lib.hid (HSN.out.trans (by rw [if_neg (by rw [hp]; decide), List.append_nil]))
        clear HSN hp hrow hHr hnd hI hir himb hnx hent hBA hev HRD
        go_wp2_with fail
        refine HCL.out.mono ?_
        rintro e w3 ⟨rfl, hH3, hg3⟩
        have hiter3 := iter_size hH3
        clear hnx1 hent2 HCL
        go_wp2_with fail
        go_roundw
        case rel => exact ⟨I ++ [i], Ho, HNW.out.1, HNW.out.2, by rw [HS2.out]; exact HROW.out, hH3, hg2.trans hg3⟩
        case measure => rw [hiter3, hiter0, List.length_append, List.length_singleton]; exact HMS.out
      | true =>
        rw [hp] at HCL
        have HS2 := Lib.hid (HSN.out.trans (by rw [if_pos hp]))
        clear HSN hp hrow hHr hnd hI hir himb hnx hent hBA hev HRD
        go_wp2_with fail
        refine HCL.out.mono ?_
        rintro e w3 ⟨rfl, hH3, hg3⟩
        have hsrc : ReadsAt (w3.alloc (.cells #[.int .u64 a] 26)) 1 (.slice (some ⟨w3.heap.size, 0, none⟩) 1 1) 1 [.int .u64 a] := ReadsAt.one
        have HSRC := Lib.hid hsrc
        have hH4 : Holds (w3.alloc (.cells #[.int .u64 a] 26)) (Ho ++ ((r, .mapIter (some mb) clock (seenAt es (I ++ [i])) clock) :: (((b, .cells #[.int .i64 size, .map (some mb)] 61) :: (mb, .map es clock) :: Hm) ++ Fr))) := Holds.swap (A := [_]) (hH3.alloc' _)
        have hg4 := (hg2.trans hg3).alloc (.cells #[.int .u64 a] 26)
        clear hnx1 hent2 HCL hsrc hH3 hg3
        go_wp2_with (at_builtin; refine wpList_append_T tWs (by rfl) (.tmp 23) (.tmp 25) (by rfl) (by rfl) (by rfl) HROW.out hH4 HSRC.out (by simp [Value.oneCell']) (by simp [maxLen]; omega) (by omega) ?_; intro A' c' w' H' hrow6 hH7 hg7)
        have hH8 : Holds w' ((r, .mapIter (some mb) clock (seenAt es (I ++ [i])) clock) :: (H' ++ (((b, .cells #[.int .i64 size, .map (some mb)] 61) :: (mb, .map es clock) :: Hm) ++ Fr))) := Holds.swap (A := H') (B := [_]) hH7
        have hiter3 := iter_size hH8
        go_roundw
        case rel => exact ⟨I ++ [i], H', HNW.out.1, HNW.out.2, by rw [HS2.out]; unfold IsWs; rw [List.length_append, List.map_append]; exact hrow6, hH8, hg4.trans hg7⟩
        case measure => rw [hiter3, hiter0, List.length_append, List.length_singleton]; exact HMS.out
set_option maxRecDepth 20000 in
set_option maxHeartbeats 2000000 in
theorem idaddrsOf_idDirty1 (v : Value) (size : Int) (M : List (Int × List BK)) (H Fr : HL) (w : World) (h : IsIdeal v size M H) (hM : MOk M) (hlen : M.length ≤ 100000) (hls : ∀ p ∈ M, p.2.length ≤ 1000000) (hH : Holds w (H ++ Fr)) :
    Calls Try.prog 34 #[v, .func (.func 35) #[] #[]] w (RetNew (fun v' H' => IsWs v' (addrsM M sureB) H') w (H ++ Fr)) := by
  obtain ⟨b, mb, es, clock, Hm, rfl, hmay, hst, rfl⟩ := h
  have hc1 : w.cell? ⟨b, 1, none⟩ = some (.map (some mb)) := hH.hcell 1
  have hmb : w.heap[mb]? = some (.map es clock) := (Holds.tail hH).get (by simp)
  have hrg := run_range_map (P := Try.prog) w 59 _ _ mb es clock Try.underlying59 hmb
  have hH1 := hH.alloc (.mapIter (some mb) clock #[] clock)
  have hg1 := (Grew.refl w).alloc (.mapIter (some mb) clock #[] clock)
  have HLEN := Lib.hid (show es.size = M.length by have := hmay.len; simpa using this)
  have HMAY := Lib.hid hmay
  have HST := Lib.hid hst
  have HLS := Lib.hid hls
  have HML : Hid (M.length ≤ 100000) := Lib.hid hlen
  clear hmay hst hls hlen hH hmb
  go_enter Try.func34, Try.ntmps34
  go_wp2_with fail
  generalize w.alloc (.mapIter (some mb) clock #[] clock) = w1 at *
  generalize w.heap.size = r at *
  clear hrg hc1
  go_loopw [5] (fun out wr => AddrTo es M sureB r mb clock w (((b, .cells #[.int .i64 size, .map (some mb)] 61) :: (mb, .map es clock) :: Hm) ++ Fr) out wr) (fun _ wr => es.size - (wr.iterSeen r).size)
  case atStart => exact ⟨[], [], List.Pairwise.nil, by simp, IsRow.nil _ _, hH1, hg1⟩
  case round =>
    clear hH1 hg1
    obtain ⟨I, Ho, hnd, hI, hrow, hHr, hgr⟩ := hrel
    have hir : wr.heap[r]? = some (.mapIter (some mb) clock (seenAt es I) clock) := hHr.get (by simp)
    have himb : wr.heap[mb]? = some (.map es clock) := hHr.get (by simp)
    have HROW := Lib.hid hrow
    have HHR := Lib.hid hHr
    have HND := Lib.hid hnd
    have HI := Lib.hid hI
    have hIl : (outI M sureB I).length ≤ 100000 := by
      have h1 := outI_len (M := M) (P := sureB) (I := I)
      have h2 : I.length ≤ es.size := by
        exact nodup_below _ I hnd hI
      have := HLEN.out
      have := HML.out
      omega
    obtain ⟨A5, c5, rfl⟩ := hrow.val
    rcases may_next hir himb HST.out hI with ⟨hall, hnx⟩ | ⟨i, hi, hni, q, hnx, hent⟩
    · have HP := Lib.hid (outI_all (P := sureB) HND.out (fun i hi => by rw [← HLEN.out]; exact HI.out i hi) (fun i hi => hall i (by rw [HLEN.out]; exact hi)))
      have HSO := Lib.hid (sort64_any _ _ Ho (((b, .cells #[.int .i64 size, .map (some mb)] 61) :: (mb, .map es clock) :: Hm) ++ Fr) wr HROW.out HHR.out.tail (by omega))
      rw [srt_perm HP.out] at HSO
      generalize (outI M sureB I).length = zn at *
      have hnx1 := hnx 0
      clear hall hrow hHr hnd hI hir himb hnx
      go_wp2_with fail
      refine HSO.out.mono ?_
      rintro e w3 ⟨rfl, H3, hr3, hH3, hg3⟩
      have HR3 := Lib.hid hr3
      clear hr3 HSO hnx1
      go_wp2_with fail
      go_ret
      exact ⟨_, H3, rfl, HR3.out, hH3, hgr.trans hg3⟩
    · have hiM : i < M.length := by rw [← HLEN.out]; exact hi
      have hk := HMAY.out.key i (by simpa using hi) hiM
      have HHN : Hid (Holds (Go.ChangeMaps.setBlock (wr.drewN q) r (.mapIter (some mb) clock (seenAt es (I ++ [i])) clock)) ((r, .mapIter (some mb) clock (seenAt es (I ++ [i])) clock) :: (Ho ++ (((b, .cells #[.int .i64 size, .map (some mb)] 61) :: (mb, .map es clock) :: Hm) ++ Fr)))) := Lib.hid ((hHr.drewN q).setBlk _)
      have hg2 := (hgr.drewN q).setBlk r (.mapIter (some mb) clock (seenAt es (I ++ [i])) clock)
      have HSN := Lib.hid (outI_snoc (P := sureB) (I := I) hiM)
      have HLI := Lib.hid (HLS.out _ (List.getElem_mem hiM))
      have HRD := Lib.hid (fun (wx : World) (F : HL) (hx : Holds wx (Hm ++ F)) => HMAY.out.at_ hx i (by simpa using hi) hiM)
      simp only [Array.getElem_toList] at hk HRD
      rw [hk] at hnx hent
      generalize Go.ChangeMaps.setBlock (wr.drewN q) r (.mapIter (some mb) clock (seenAt es (I ++ [i])) clock) = w2 at *
      have hent2 := hent w2 (HHN.out.get (by simp)) (HHN.out.get (by simp))
      have hBA : BksAt w2 es[i].val M[i].2 := HRD.out w2 ((r, .mapIter (some mb) clock (seenAt es (I ++ [i])) clock) :: (Ho ++ ((b, .cells #[.int .i64 size, .map (some mb)] 61) :: ((mb, .map es clock) :: Fr)))) (by
        have h : Holds w2 (Hm ++ ((r, .mapIter (some mb) clock (seenAt es (I ++ [i])) clock) :: (Ho ++ ((b, .cells #[.int .i64 size, .map (some mb)] 61) :: ((mb, .map es clock) :: Fr))))) := HHN.out.sub (by (repeat' (first | refine sub_append ?_ ?_ | refine sub_cons ?_ ?_ | exact sub_nil)); all_goals first | (intro p hp; simp only [List.mem_append, List.mem_cons, hp, true_or, or_true]) | simp only [List.mem_append, List.mem_cons, true_or, or_true]) (fun b => by simp only [keyc_append, keyc_cons, keyc_nil]; omega)
        exact h)
      have HCL := Lib.hid (iddirty1_any es[i].val M[i].2 w2 _ hBA HHN.out HLI.out)
      have hnx1 := hnx 0
      have hiter := iter_size HHN.out
      have hiter0 := iter_size HHR.out
      have HMS : Hid (es.size - (I.length + 1) < es.size - I.length) := Lib.hid (by
        have h2 : (I ++ [i]).length ≤ es.size := by
          exact nodup_below _ _ (List.nodup_append.2 ⟨HND.out, by simp, fun x hx y hy e => hni (by rw [List.mem_singleton] at hy; rw [← hy, ← e]; exact hx)⟩) (fun j hj => by
            rcases List.mem_append.1 hj with hj | hj
            · exact HI.out j hj
            · rw [List.mem_singleton.1 hj]; exact hi)
        simp at h2
        omega)
      have HNW : Hid ((I ++ [i]).Nodup ∧ ∀ j ∈ I ++ [i], j < es.size) := Lib.hid ⟨List.nodup_append.2 ⟨HND.out, by simp, fun x hx y hy e => hni (by rw [List.mem_singleton] at hy; rw [← hy, ← e]; exact hx)⟩, fun j hj => by
        rcases List.mem_append.1 hj with hj | hj
        · exact HI.out j hj
        · rw [List.mem_singleton.1 hj]; exact hi⟩
      obtain ⟨Ae, ce, hev⟩ := hBA.val
      rw [hev] at hnx1 hent2 HCL
      generalize M[i].2 = l at *
      generalize M[i].1 = a at *
      generalize outI M sureB I = z at *
      cases hp : sureB l with
      | false =>
        rw [hp] at HCL
        have HS2 := Lib.hid (HSN.out.trans (by rw [if_neg (by rw [hp]; decide), List.append_nil]))
        clear HSN hp hrow hHr hnd hI hir himb hnx hent hBA hev HRD
        go_wp2_with fail
        refine HCL.out.mono ?_
        rintro e w3 ⟨rfl, hH3, hg3⟩
        have hiter3 := iter_size hH3
        clear hnx1 hent2 HCL
        go_wp2_with fail
        go_roundw
        case rel => exact ⟨I ++ [i], Ho, HNW.out.1, HNW.out.2, by rw [HS2.out]; exact HROW.out, hH3, hg2.trans hg3⟩
        case measure => rw [hiter3, hiter0, List.length_append, List.length_singleton]; exact HMS.out
      | true =>
        rw [hp] at HCL
        have HS2 := Lib.hid (HSN.out.trans (by rw [if_pos hp]))
        clear HSN hp hrow hHr hnd hI hir himb hnx hent hBA hev HRD
        go_wp2_with fail
        refine HCL.out.mono ?_
        rintro e w3 ⟨rfl, hH3, hg3⟩
        have hsrc : ReadsAt (w3.alloc (.cells #[.int .u64 a] 26)) 1 (.slice (some ⟨w3.heap.size, 0, none⟩) 1 1) 1 [.int .u64 a] := ReadsAt.one
        have HSRC := Lib.hid hsrc
        have hH4 : Holds (w3.alloc (.cells #[.int .u64 a] 26)) (Ho ++ ((r, .mapIter (some mb) clock (seenAt es (I ++ [i])) clock) :: (((b, .cells #[.int .i64 size, .map (some mb)] 61) :: (mb, .map es clock) :: Hm) ++ Fr))) := Holds.swap (A := [_]) (hH3.alloc' _)
        have hg4 := (hg2.trans hg3).alloc (.cells #[.int .u64 a] 26)
        clear hnx1 hent2 HCL hsrc hH3 hg3
        go_wp2_with (at_builtin; refine wpList_append_T tWs (by rfl) (.tmp 23) (.tmp 25) (by rfl) (by rfl) (by rfl) HROW.out hH4 HSRC.out (by simp [Value.oneCell']) (by simp [maxLen]; omega) (by omega) ?_; intro A' c' w' H' hrow6 hH7 hg7)
        have hH8 : Holds w' ((r, .mapIter (some mb) clock (seenAt es (I ++ [i])) clock) :: (H' ++ (((b, .cells #[.int .i64 size, .map (some mb)] 61) :: (mb, .map es clock) :: Hm) ++ Fr))) := Holds.swap (A := H') (B := [_]) hH7
        have hiter3 := iter_size hH8
        go_roundw
        case rel => exact ⟨I ++ [i], H', HNW.out.1, HNW.out.2, by rw [HS2.out]; unfold IsWs; rw [List.length_append, List.map_append]; exact hrow6, hH8, hg4.trans hg7⟩
        case measure => rw [hiter3, hiter0, List.length_append, List.length_singleton]; exact HMS.out
set_option maxRecDepth 20000 in
set_option maxHeartbeats 2000000 in
theorem idaddrsOf_idDirty2 (v : Value) (size : Int) (M : List (Int × List BK)) (H Fr : HL) (w : World) (h : IsIdeal v size M H) (hM : MOk M) (hlen : M.length ≤ 100000) (hls : ∀ p ∈ M, p.2.length ≤ 1000000) (hH : Holds w (H ++ Fr)) :
    Calls Try.prog 34 #[v, .func (.func 37) #[] #[]] w (RetNew (fun v' H' => IsWs v' (addrsM M mayD) H') w (H ++ Fr)) := by
  obtain ⟨b, mb, es, clock, Hm, rfl, hmay, hst, rfl⟩ := h
  have hc1 : w.cell? ⟨b, 1, none⟩ = some (.map (some mb)) := hH.hcell 1
  have hmb : w.heap[mb]? = some (.map es clock) := (Holds.tail hH).get (by simp)
  have hrg := run_range_map (P := Try.prog) w 59 _ _ mb es clock Try.underlying59 hmb
  have hH1 := hH.alloc (.mapIter (some mb) clock #[] clock)
  have hg1 := (Grew.refl w).alloc (.mapIter (some mb) clock #[] clock)
  have HLEN := Lib.hid (show es.size = M.length by have := hmay.len; simpa using this)
  have HMAY := Lib.hid hmay
  have HST := Lib.hid hst
  have HLS := Lib.hid hls
  have HML : Hid (M.length ≤ 100000) := Lib.hid hlen
  clear hmay hst hls hlen hH hmb
  go_enter Try.func34, Try.ntmps34
  go_wp2_with fail
  generalize w.alloc (.mapIter (some mb) clock #[] clock) = w1 at *
  generalize w.heap.size = r at *
  clear hrg hc1
  go_loopw [5] (fun out wr => AddrTo es M mayD r mb clock w (((b, .cells #[.int .i64 size, .map (some mb)] 61) :: (mb, .map es clock) :: Hm) ++ Fr) out wr) (fun _ wr => es.size - (wr.iterSeen r).size)
  case atStart => exact ⟨[], [], List.Pairwise.nil, by simp, IsRow.nil _ _, hH1, hg1⟩
  case round =>
    clear hH1 hg1
    obtain ⟨I, Ho, hnd, hI, hrow, hHr, hgr⟩ := hrel
    have hir : wr.heap[r]? = some (.mapIter (some mb) clock (seenAt es I) clock) := hHr.get (by simp)
    have himb : wr.heap[mb]? = some (.map es clock) := hHr.get (by simp)
    have HROW := Lib.hid hrow
    have HHR := Lib.hid hHr
    have HND := Lib.hid hnd
    have HI := Lib.hid hI
    have hIl : (outI M mayD I).length ≤ 100000 := by
      have h1 := outI_len (M := M) (P := mayD) (I := I)
      have h2 : I.length ≤ es.size := by
        exact nodup_below _ I hnd hI
      have := HLEN.out
      have := HML.out
      omega
    obtain ⟨A5, c5, rfl⟩ := hrow.val
    rcases may_next hir himb HST.out hI with ⟨hall, hnx⟩ | ⟨i, hi, hni, q, hnx, hent⟩
    · have HP := Lib.hid (outI_all (P := mayD) HND.out (fun i hi => by rw [← HLEN.out]; exact HI.out i hi) (fun i hi => hall i (by rw [HLEN.out]; exact hi)))
      have HSO := Lib.hid (sort64_any _ _ Ho (((b, .cells #[.int .i64 size, .map (some mb)] 61) :: (mb, .map es clock) :: Hm) ++ Fr) wr HROW.out HHR.out.tail (by omega))
      rw [srt_perm HP.out] at HSO
      generalize (outI M mayD I).length = zn at *
      have hnx1 := hnx 0
      clear hall hrow hHr hnd hI hir himb hnx
      go_wp2_with fail
      refine HSO.out.mono ?_
      rintro e w3 ⟨rfl, H3, hr3, hH3, hg3⟩
      have HR3 := Lib.hid hr3
      clear hr3 HSO hnx1
      go_wp2_with fail
      go_ret
      exact ⟨_, H3, rfl, HR3.out, hH3, hgr.trans hg3⟩
    · have hiM : i < M.length := by rw [← HLEN.out]; exact hi
      have hk := HMAY.out.key i (by simpa using hi) hiM
      have HHN : Hid (Holds (Go.ChangeMaps.setBlock (wr.drewN q) r (.mapIter (some mb) clock (seenAt es (I ++ [i])) clock)) ((r, .mapIter (some mb) clock (seenAt es (I ++ [i])) clock) :: (Ho ++ (((b, .cells #[.int .i64 size, .map (some mb)] 61) :: (mb, .map es clock) :: Hm) ++ Fr)))) := Lib.hid ((hHr.drewN q).setBlk _)
      have hg2 := (hgr.drewN q).setBlk r (.mapIter (some mb) clock (seenAt es (I ++ [i])) clock)
      have HSN := Lib.hid (outI_snoc (P := mayD) (I := I) hiM)
      have HLI := Lib.hid (HLS.out _ (List.getElem_mem hiM))
      have HRD := Lib.hid (fun (wx : World) (F : HL) (hx : Holds wx (Hm ++ F)) => HMAY.out.at_ hx i (by simpa using hi) hiM)
      simp only [Array.getElem_toList] at hk HRD
      rw [hk] at hnx hent
      generalize Go.ChangeMaps.setBlock (wr.drewN q) r (.mapIter (some mb) clock (seenAt es (I ++ [i])) clock) = w2 at *
      have hent2 := hent w2 (HHN.out.get (by simp)) (HHN.out.get (by simp))
      have hBA : BksAt w2 es[i].val M[i].2 := HRD.out w2 ((r, .mapIter (some mb) clock (seenAt es (I ++ [i])) clock) :: (Ho ++ ((b, .cells #[.int .i64 size, .map (some mb)] 61) :: ((mb, .map es clock) :: Fr)))) (by
        have h : Holds w2 (Hm ++ ((r, .mapIter (some mb) clock (seenAt es (I ++ [i])) clock) :: (Ho ++ ((b, .cells #[.int .i64 size, .map (some mb)] 61) :: ((mb, .map es clock) :: Fr))))) := HHN.out.sub (by (repeat' (first | refine sub_append ?_ ?_ | refine sub_cons ?_ ?_ | exact sub_nil)); all_goals first | (intro p hp; simp only [List.mem_append, List.mem_cons, hp, true_or, or_true]) | simp only [List.mem_append, List.mem_cons, true_or, or_true]) (fun b => by simp only [keyc_append, keyc_cons, keyc_nil]; omega)
        exact h)
      have HCL := Lib.hid (iddirty2_any es[i].val M[i].2 w2 _ hBA HHN.out HLI.out)
      have hnx1 := hnx 0
      have hiter := iter_size HHN.out
      have hiter0 := iter_size HHR.out
      have HMS : Hid (es.size - (I.length + 1) < es.size - I.length) := Lib.hid (by
        have h2 : (I ++ [i]).length ≤ es.size := by
          exact nodup_below _ _ (List.nodup_append.2 ⟨HND.out, by simp, fun x hx y hy e => hni (by rw [List.mem_singleton] at hy; rw [← hy, ← e]; exact hx)⟩) (fun j hj => by
            rcases List.mem_append.1 hj with hj | hj
            · exact HI.out j hj
            · rw [List.mem_singleton.1 hj]; exact hi)
        simp at h2
        omega)
      have HNW : Hid ((I ++ [i]).Nodup ∧ ∀ j ∈ I ++ [i], j < es.size) := Lib.hid ⟨List.nodup_append.2 ⟨HND.out, by simp, fun x hx y hy e => hni (by rw [List.mem_singleton] at hy; rw [← hy, ← e]; exact hx)⟩, fun j hj => by
        rcases List.mem_append.1 hj with hj | hj
        · exact HI.out j hj
        · rw [List.mem_singleton.1 hj]; exact hi⟩
      obtain ⟨Ae, ce, hev⟩ := hBA.val
      rw [hev] at hnx1 hent2 HCL
      generalize M[i].2 = l at *
      generalize M[i].1 = a at *
      generalize outI M mayD I = z at *
      cases hp : mayD l with
      | false =>
        rw [hp] at HCL
        have HS2 := Lib.hid (HSN.out.trans (by rw [if_neg (by rw [hp]; decide), List.append_nil]))
        clear HSN hp hrow hHr hnd hI hir himb hnx hent hBA hev HRD
        go_wp2_with fail
        refine HCL.out.mono ?_
        rintro e w3 ⟨rfl, hH3, hg3⟩
        have hiter3 := iter_size hH3
        clear hnx1 hent2 HCL
        go_wp2_with fail
        go_roundw
        case rel => exact ⟨I ++ [i], Ho, HNW.out.1, HNW.out.2, by rw [HS2.out]; exact HROW.out, hH3, hg2.trans hg3⟩
        case measure => rw [hiter3, hiter0, List.length_append, List.length_singleton]; exact HMS.out
      | true =>
        rw [hp] at HCL
        have HS2 := Lib.hid (HSN.out.trans (by rw [if_pos hp]))
        clear HSN hp hrow hHr hnd hI hir himb hnx hent hBA hev HRD
        go_wp2_with fail
        refine HCL.out.mono ?_
        rintro e w3 ⟨rfl, hH3, hg3⟩
        have hsrc : ReadsAt (w3.alloc (.cells #[.int .u64 a] 26)) 1 (.slice (some ⟨w3.heap.size, 0, none⟩) 1 1) 1 [.int .u64 a] := ReadsAt.one
        have HSRC := Lib.hid hsrc
        have hH4 : Holds (w3.alloc (.cells #[.int .u64 a] 26)) (Ho ++ ((r, .mapIter (some mb) clock (seenAt es (I ++ [i])) clock) :: (((b, .cells #[.int .i64 size, .map (some mb)] 61) :: (mb, .map es clock) :: Hm) ++ Fr))) := Holds.swap (A := [_]) (hH3.alloc' _)
        have hg4 := (hg2.trans hg3).alloc (.cells #[.int .u64 a] 26)
        clear hnx1 hent2 HCL hsrc hH3 hg3
        go_wp2_with (at_builtin; refine wpList_append_T tWs (by rfl) (.tmp 23) (.tmp 25) (by rfl) (by rfl) (by rfl) HROW.out hH4 HSRC.out (by simp [Value.oneCell']) (by simp [maxLen]; omega) (by omega) ?_; intro A' c' w' H' hrow6 hH7 hg7)
        have hH8 : Holds w' ((r, .mapIter (some mb) clock (seenAt es (I ++ [i])) clock) :: (H' ++ (((b, .cells #[.int .i64 size, .map (some mb)] 61) :: (mb, .map es clock) :: Hm) ++ Fr))) := Holds.swap (A := H') (B := [_]) hH7
        have hiter3 := iter_size hH8
        go_roundw
        case rel => exact ⟨I ++ [i], H', HNW.out.1, HNW.out.2, by rw [HS2.out]; unfold IsWs; rw [List.length_append, List.map_append]; exact hrow6, hH8, hg4.trans hg7⟩
        case measure => rw [hiter3, hiter0, List.length_append, List.length_singleton]; exact HMS.out
end Go.Proofs.Ytinfbpldgobmfaa
