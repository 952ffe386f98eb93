/-
  Package ideal: its state; what a map with slices of blocks is.
-/
import Derived.Test.YtinfbpldgobmfaaBkZ
import Derived.Maps.Keyed
import Derived.Maps.RangeRun
import Derived.Carry
namespace Go.Proofs.Ytinfbpldgobmfaa
open Go.RowKit
set_option linter.unusedSimpArgs false
set_option linter.unusedVariables false

/-! ### blocks of the heap that hold a map -/
theorem Holds.setBlk {w : World} {b : Nat} {o : Obj} {H : HL} (h : Holds w ((b, o) :: H)) (o' : Obj) : Holds (Go.ChangeMaps.setBlock w b o') ((b, o') :: H) := by
  refine ⟨fun c => ?_, fun p hp => ?_⟩
  · have := h.one c; rw [keyc_cons] at this ⊢; exact this
  · have hb := h.get (o := o) (List.mem_cons_self)
    have hs := Go.MapKept.heap_set (o' := o') hb
    rcases List.mem_cons.1 hp with rfl | hp
    · exact hs.1
    · have hne := Holds.apart (A := [(b, o)]) (B := H) (by simpa using h) (List.mem_singleton.2 rfl) hp
      exact (hs.2 p.1 (fun e => hne e.symm)).trans (h.mem p (List.mem_cons_of_mem _ hp))
theorem Grew.setBlk {a w : World} (h : Grew a w) (b : Nat) (o : Obj) : Grew a (Go.ChangeMaps.setBlock w b o) := ⟨h.os, h.tape, h.output, by have := h.size; simp only [Go.ChangeMaps.setBlock, Array.size_setIfInBounds]; exact this⟩

/-- entries, and what they hold -/
def MayOk : List MapEntry → List (Int × List BK) → HL → Prop
  | [], [], H => H = []
  | e :: es, p :: M, H => e.key = .int .u64 p.1 ∧ ∃ H1 H2, IsBks e.val p.2 H1 ∧ MayOk es M H2 ∧ H = H1 ++ H2
  | [], _ :: _, _ => False
  | _ :: _, [], _ => False
theorem MayOk.len : ∀ {es : List MapEntry} {M : List (Int × List BK)} {H : HL}, MayOk es M H → es.length = M.length
  | [], [], _, _ => rfl
  | _ :: es, _ :: M, _, ⟨_, _, _, _, h, _⟩ => by simp [MayOk.len h]
theorem MayOk.key : ∀ {es : List MapEntry} {M : List (Int × List BK)} {H : HL}, MayOk es M H → ∀ i (h1 : i < es.length) (h2 : i < M.length), es[i].key = .int .u64 M[i].1
  | _ :: _, _ :: _, _, ⟨hk, _⟩, 0, _, _ => hk
  | _ :: es, _ :: M, _, ⟨_, _, _, _, h, _⟩, i + 1, h1, h2 => by simpa using MayOk.key h i (by simpa using h1) (by simpa using h2)
theorem MayOk.at_ : ∀ {es : List MapEntry} {M : List (Int × List BK)} {H Fr : HL} {w : World}, MayOk es M H → Holds w (H ++ Fr) → ∀ i (h1 : i < es.length) (h2 : i < M.length), BksAt w es[i].val M[i].2
  | _ :: _, _ :: _, _, _, _, ⟨_, H1, H2, hb, _, rfl⟩, hH, 0, _, _ => hb.at_ hH.assoc
  | _ :: es, _ :: M, _, _, _, ⟨_, H1, H2, _, h, rfl⟩, hH, i + 1, h1, h2 => by simpa using MayOk.at_ h hH.assoc.right i (by simpa using h1) (by simpa using h2)
theorem MayOk.push : ∀ {es : List MapEntry} {M : List (Int × List BK)} {H : HL} {e : MapEntry} {a : Int} {l : List BK} {Hv : HL}, MayOk es M H → e.key = .int .u64 a → IsBks e.val l Hv → MayOk (es ++ [e]) (M ++ [(a, l)]) (H ++ Hv)
  | [], [], _, e, a, l, Hv, rfl, hk, hb => ⟨hk, Hv, [], hb, rfl, by simp⟩
  | _ :: es, _ :: M, _, e, a, l, Hv, ⟨hk0, H1, H2, hb0, h, rfl⟩, hk, hb => ⟨hk0, H1, H2 ++ Hv, hb0, MayOk.push h hk hb, by simp⟩
theorem MayOk.set : ∀ {es : List MapEntry} {M : List (Int × List BK)} {H : HL} (i : Nat) {e : MapEntry} {a : Int} {l : List BK} {Hv : HL}, MayOk es M H → i < es.length → e.key = .int .u64 a → IsBks e.val l Hv →
    ∃ H', MayOk (es.set i e) (M.set i (a, l)) H' ∧ ∀ (w : World) (Fr : HL), Holds w (Hv ++ (H ++ Fr)) → Holds w (H' ++ Fr)
  | _ :: es, _ :: M, _, 0, e, a, l, Hv, ⟨hk0, H1, H2, hb0, h, rfl⟩, _, hk, hb => ⟨Hv ++ H2, ⟨hk, Hv, H2, hb, h, rfl⟩, fun w Fr hH => by
      have h1 : Holds w (Hv ++ (H1 ++ (H2 ++ Fr))) := by simpa using hH
      simpa using h1.mid⟩
  | _ :: es, _ :: M, _, i + 1, e, a, l, Hv, ⟨hk0, H1, H2, hb0, h, rfl⟩, hi, hk, hb => by
    obtain ⟨H', h1, h2⟩ := MayOk.set i h (by simpa using hi) hk hb
    refine ⟨H1 ++ H', ⟨hk0, H1, H', hb0, h1, rfl⟩, fun w Fr hH => ?_⟩
    have h3 : Holds w (Hv ++ (H2 ++ (H1 ++ Fr))) := by
      have h4 : Holds w (Hv ++ (H1 ++ (H2 ++ Fr))) := by simpa using hH
      exact h4.swap2
    have h5 := (h2 w _ h3).swap
    simpa using h5
theorem MayOk.erase : ∀ {es : List MapEntry} {M : List (Int × List BK)} {H : HL} (i : Nat), MayOk es M H → i < es.length →
    ∃ H', MayOk (es.eraseIdx i) (M.eraseIdx i) H' ∧ ∀ (w : World) (Fr : HL), Holds w (H ++ Fr) → Holds w (H' ++ Fr)
  | _ :: es, _ :: M, _, 0, ⟨hk0, H1, H2, hb0, h, rfl⟩, _ => ⟨H2, h, fun w Fr hH => hH.assoc.right⟩
  | _ :: es, _ :: M, _, i + 1, ⟨hk0, H1, H2, hb0, h, rfl⟩, hi => by
    obtain ⟨H', h1, h2⟩ := MayOk.erase i h (by simpa using hi)
    refine ⟨H1 ++ H', ⟨hk0, H1, H', hb0, h1, rfl⟩, fun w Fr hH => ?_⟩
    have h3 : Holds w (H2 ++ (H1 ++ Fr)) := by
      have h4 : Holds w (H1 ++ (H2 ++ Fr)) := by simpa using hH
      exact h4.swap
    have h5 := (h2 w _ h3).swap
    simpa using h5

/-! ### the model -/
def lookM (M : List (Int × List BK)) (a : Int) : List BK := ((M.find? fun p => p.1 == a).map (·.2)).getD []
def putM (M : List (Int × List BK)) (a : Int) (l : List BK) : List (Int × List BK) := match M.findIdx? fun p => p.1 == a with | some i => M.set i (a, l) | none => M ++ [(a, l)]
def delM (M : List (Int × List BK)) (a : Int) : List (Int × List BK) := match M.findIdx? fun p => p.1 == a with | some i => M.eraseIdx i | none => M
/-- what may be: as the code keeps it -/
def insB (x : BK) : List BK → List BK
  | [] => [x]
  | y :: r => if bless x y then x :: y :: r else if x = y then y :: r else y :: insB x r
def canon (l : List BK) : List BK := l.foldr insB []
theorem mem_insB {x y : BK} {l : List BK} : y ∈ insB x l ↔ y = x ∨ y ∈ l := by
  induction l with
  | nil => simp [insB]
  | cons z r ih =>
    unfold insB
    split
    · simp
    · split
      · rename_i h; subst h; simp
      · simp only [List.mem_cons, ih]; constructor
        · rintro (h | h | h) <;> simp [h]
        · rintro (h | h | h) <;> simp [h]
theorem mem_canon {y : BK} {l : List BK} : y ∈ canon l ↔ y ∈ l := by
  unfold canon
  induction l with
  | nil => simp
  | cons x l ih => rw [List.foldr_cons, mem_insB, ih, List.mem_cons]
theorem insB_inc {x : BK} {l : List BK} (h : BInc l) (hx : x.Ok) (hl : ∀ y ∈ l, y.Ok) : BInc (insB x l) := by
  induction l with
  | nil => exact List.pairwise_singleton _ _
  | cons z r ih =>
    obtain ⟨h1, h2⟩ := List.pairwise_cons.1 h
    unfold insB
    split
    · rename_i hlt
      refine List.pairwise_cons.2 ⟨fun y hy => ?_, h⟩
      rcases List.mem_cons.1 hy with rfl | hy
      · exact hlt
      · exact bless_trans hlt (h1 y hy)
    · rename_i hlt
      split
      · exact h
      · rename_i hne
        refine List.pairwise_cons.2 ⟨fun y hy => ?_, ih h2 (fun y hy => hl y (List.mem_cons_of_mem _ hy))⟩
        rcases mem_insB.1 hy with rfl | hy
        · by_cases hg : bless z y
          · exact hg
          · exact absurd (bless_total hx (hl z (by simp)) hlt hg) hne
        · exact h1 y hy
theorem canon_inc {l : List BK} (hl : ∀ y ∈ l, y.Ok) : BInc (canon l) := by
  unfold canon
  induction l with
  | nil => exact List.Pairwise.nil
  | cons x l ih =>
    rw [List.foldr_cons]
    refine insB_inc (ih fun y hy => hl y (List.mem_cons_of_mem _ hy)) (hl x (by simp)) fun y hy => hl y (List.mem_cons_of_mem _ ?_)
    exact mem_canon.1 hy
theorem canon_of {l l' : List BK} (hp : l'.Perm l) (hs : BAsc l') (hl : ∀ y ∈ l, y.Ok) : compB l' = canon l := by
  refine binc_ext (compB_inc hs fun x hx => hl x (hp.mem_iff.1 hx)) (canon_inc hl) fun e => ?_
  rw [compB_mem, mem_canon, hp.mem_iff]
def hasClean (l : List BK) : Bool := l.any fun x => x.some && !x.dirty
def normB (l : List BK) : List BK := canon (if hasClean l then l ++ [BK.none] else l)
def setM (M : List (Int × List BK)) (a : Int) (l : List BK) : List (Int × List BK) := if normB l = [BK.none] then delM M a else putM M a (normB l)
def atM (M : List (Int × List BK)) (a : Int) : List BK := if lookM M a = [] then [BK.none] else lookM M a
def U64 (a : Int) : Prop := 0 ≤ a ∧ a < 18446744073709551616
structure MOk (M : List (Int × List BK)) : Prop where
  nodup : (M.map (·.1)).Nodup
  u64 : ∀ p ∈ M, U64 p.1
  ok : ∀ p ∈ M, BInc p.2 ∧ (∀ x ∈ p.2, x.Ok) ∧ p.2 ≠ [] ∧ p.2 ≠ [BK.none] ∧ (hasClean p.2 = true → BK.none ∈ p.2)
def IsIdeal (v : Value) (size : Int) (M : List (Int × List BK)) (H : HL) : Prop :=
  ∃ b mb es clock Hm, v = .pointer (some ⟨b, 0, none⟩) ∧ MayOk es.toList M Hm ∧ Go.MapKept.Stamped es clock ∧ H = (b, .cells #[.int .i64 size, .map (some mb)] 61) :: (mb, .map es clock) :: Hm
theorem IsIdeal.ptr {v : Value} {size : Int} {M : List (Int × List BK)} {H : HL} (h : IsIdeal v size M H) : ∃ b, v = .pointer (some ⟨b, 0, none⟩) := by obtain ⟨b, _, _, _, _, h, _⟩ := h; exact ⟨b, h⟩

/-! ### the map's operations -/
theorem keyed64 : Go.Maps.Keyed Try.prog 26 := Go.Maps.int_keyed Try.underlying26
set_option maxRecDepth 20000 in
theorem key64 {a : Int} (h : U64 a) : keyOf Try.prog 26 (.int .u64 a) = some (.int .u64 a) := Go.Maps.keyOf_int_mk Try.underlying26 (by
  unfold U64 at h
  have h1 : IntKind.min .u64 = 0 := rfl
  have h2 : IntKind.max .u64 = 18446744073709551615 := rfl
  simp only [Lit.wf, h1, h2, Bool.and_eq_true, decide_eq_true_eq]
  omega)
/-- where an address stands -/
theorem may_find {es : Array MapEntry} {M : List (Int × List BK)} {Hm : HL} (h : MayOk es.toList M Hm) (hu : ∀ p ∈ M, U64 p.1) (hn : (M.map (·.1)).Nodup) {a : Int} (ha : U64 a) (w : World) :
    ((M.findIdx? fun p => p.1 == a) = none ∧ (Instr.findKey 26 (.int .u64 a) es.toList).run Try.prog w = .ok none w ∧ ∀ e ∈ es.toList, e.key ≠ .int .u64 a) ∨
    ∃ j e, (M.findIdx? fun p => p.1 == a) = some j ∧ (Instr.findKey 26 (.int .u64 a) es.toList).run Try.prog w = .ok (some (j, e.val)) w ∧ es.toList[j]? = some e ∧ e.key = .int .u64 a := by
  have hlen := h.len
  have hks : ∀ e ∈ es.toList, ∃ l, keyOf Try.prog 26 e.key = some l := by
    intro e he
    obtain ⟨i, hi, rfl⟩ := List.mem_iff_getElem.1 he
    rw [h.key i hi (by omega)]
    exact ⟨_, key64 (hu _ (List.getElem_mem (by omega)))⟩
  rcases keyed64.find w (key64 ha) es.toList hks with ⟨h1, h2⟩ | ⟨j, e, h1, h2, h3⟩
  · refine .inl ⟨?_, h1, h2⟩
    rw [List.findIdx?_eq_none_iff]
    intro p hp
    obtain ⟨i, hi, rfl⟩ := List.mem_iff_getElem.1 hp
    have := h2 _ (List.getElem_mem (show i < es.toList.length by omega))
    rw [h.key i (by omega) hi] at this
    simpa using this
  · obtain ⟨hj, he⟩ := List.getElem?_eq_some_iff.1 h2
    refine .inr ⟨j, e, ?_, h1, h2, h3⟩
    have hjM : j < M.length := by omega
    have hk := h.key j hj hjM
    rw [he, h3] at hk
    have hja : M[j].1 = a := by simp only [Value.int.injEq, true_and] at hk; exact hk.symm
    rw [List.findIdx?_eq_some_iff_getElem]
    refine ⟨hjM, by simpa using hja, fun i hij => ?_⟩
    have := List.pairwise_iff_getElem.1 hn i j (by simp; omega) (by simpa using hjM) hij
    simp only [List.getElem_map] at this
    simp only [beq_iff_eq]
    intro hia
    exact this (hia.trans hja.symm)
theorem look_none {M : List (Int × List BK)} {a : Int} (h : (M.findIdx? fun p => p.1 == a) = none) : lookM M a = [] := by
  unfold lookM
  rw [List.find?_eq_none.2 fun p hp => by simpa using (List.findIdx?_eq_none_iff.1 h) p hp]
  rfl
theorem look_some {M : List (Int × List BK)} {a : Int} {j : Nat} (h : (M.findIdx? fun p => p.1 == a) = some j) : ∃ hj : j < M.length, M[j].1 = a ∧ lookM M a = M[j].2 := by
  obtain ⟨hj, h1, h2⟩ := List.findIdx?_eq_some_iff_getElem.1 h
  refine ⟨hj, by simpa using h1, ?_⟩
  unfold lookM
  have : M.find? (fun p => p.1 == a) = some M[j] := by
    rw [List.find?_eq_some_iff_getElem]
    exact ⟨h1, j, hj, rfl, fun i hi => by simpa using h2 i hi⟩
  rw [this]
  rfl
theorem may_look {w : World} {mb clock : Nat} {es : Array MapEntry} {M : List (Int × List BK)} {Hm : HL} (hb : w.heap[mb]? = some (.map es clock)) (h : MayOk es.toList M Hm) (hu : ∀ p ∈ M, U64 p.1) (hn : (M.map (·.1)).Nodup) {a : Int} (ha : U64 a) :
    ((Instr.lookup 59 (.map (some mb)) (.int .u64 a) false).run Try.prog w = .ok (.slice none 0 0) w ∧ lookM M a = []) ∨
    ∃ j e, es.toList[j]? = some e ∧ (M.findIdx? fun p => p.1 == a) = some j ∧ (Instr.lookup 59 (.map (some mb)) (.int .u64 a) false).run Try.prog w = .ok e.val w := by
  have hz : (zeroValue 66).run Try.prog w = .ok (.slice none 0 0) w := Try.zeroValue66 w
  rcases may_find h hu hn ha w with ⟨h1, h2, h3⟩ | ⟨j, e, h1, h2, h3, h4⟩
  · exact .inl ⟨by simp [Instr.lookup, run_underlying Try.underlying59, Go.MapKept.run_getObj_map hb, keyed64.check w _ (key64 ha), h2, hz, Result.andThen], look_none h1⟩
  · exact .inr ⟨j, e, h3, h1, by simp [Instr.lookup, run_underlying Try.underlying59, Go.MapKept.run_getObj_map hb, keyed64.check w _ (key64 ha), h2, Result.andThen]⟩
end Go.Proofs.Ytinfbpldgobmfaa
