/-
  Package ideal: what is put into its map, and taken out of it.
-/
import Derived.Test.YtinfbpldgobmfaaId
namespace Go.Proofs.Ytinfbpldgobmfaa
open Go.RowKit
set_option linter.unusedSimpArgs false
set_option linter.unusedVariables false

theorem modify_list {es : Array MapEntry} {j : Nat} {e : MapEntry} (he : es.toList[j]? = some e) (f : MapEntry → MapEntry) : (es.modify j f).toList = es.toList.set j (f e) := by
  rw [Array.toList_modify, Go.ChangeMaps.modify_eq_set _ _ _ _ he]
theorem may_put {w : World} {mb clock : Nat} {es : Array MapEntry} {M : List (Int × List BK)} {Hm : HL} (hb : w.heap[mb]? = some (.map es clock)) (h : MayOk es.toList M Hm) (hu : ∀ p ∈ M, U64 p.1) (hn : (M.map (·.1)).Nodup) (hst : Go.MapKept.Stamped es clock) {a : Int} (ha : U64 a)
    {v : Value} {l : List BK} {Hv : HL} (hv : IsBks v l Hv) :
    ∃ es' clock', (Instr.mapUpdate 59 (.map (some mb)) (.int .u64 a) v).run Try.prog w = .ok () (Go.ChangeMaps.setBlock w mb (.map es' clock')) ∧ Go.MapKept.Stamped es' clock' ∧ ∃ H', MayOk es'.toList (putM M a l) H' ∧ ∀ (wx : World) (Fr : HL), Holds wx (Hv ++ (Hm ++ Fr)) → Holds wx (H' ++ Fr) := by
  rcases may_find h hu hn ha w with ⟨h1, h2, h3⟩ | ⟨j, e, h1, h2, h3, h4⟩
  · refine ⟨es.push ⟨.int .u64 a, v, clock⟩, clock + 1, ?_, Go.MapKept.stamped_push hst h3, Hm ++ Hv, ?_, ?_⟩
    · simp [Instr.mapUpdate, run_underlying Try.underlying59, Go.MapKept.run_getObj_map hb, keyed64.check w false (key64 ha), h2, Go.MapKept.run_setObj_map _ hb, Result.andThen, Go.ChangeMaps.setBlock]
    · unfold putM
      rw [h1, Array.toList_push]
      exact h.push rfl hv
    · intro wx Fr hx
      have := hx.swap
      simpa using this
  · have hj : es[j]? = some e := by simpa using h3
    have hjl : j < es.toList.length := (List.getElem?_eq_some_iff.1 h3).1
    have hkeyf : ∀ e', es[j]? = some e' → ({ e' with key := .int .u64 a, val := v } : MapEntry).key = e'.key := fun e' he' => by rw [hj] at he'; cases he'; exact h4.symm
    obtain ⟨H', hs1, hs2⟩ := MayOk.set j (e := { e with key := .int .u64 a, val := v }) (a := a) h hjl rfl hv
    refine ⟨es.modify j (fun e' => { e' with key := .int .u64 a, val := v }), clock, ?_, Go.MapKept.stamped_modify hst _ _ (fun _ _ => rfl) (fun e' _ he' => hkeyf e' he'), H', ?_, hs2⟩
    · simp [Instr.mapUpdate, run_underlying Try.underlying59, Go.MapKept.run_getObj_map hb, keyed64.check w false (key64 ha), h2, hj, h4, keyed64.stays w (key64 ha), Go.MapKept.run_setObj_map _ hb, Result.andThen, Go.ChangeMaps.setBlock]
    · unfold putM
      rw [h1, modify_list h3]
      exact hs1
theorem may_del {w : World} {mb clock : Nat} {es : Array MapEntry} {M : List (Int × List BK)} {Hm : HL} (hb : w.heap[mb]? = some (.map es clock)) (h : MayOk es.toList M Hm) (hu : ∀ p ∈ M, U64 p.1) (hn : (M.map (·.1)).Nodup) (hst : Go.MapKept.Stamped es clock) {a : Int} (ha : U64 a) :
    ∃ es', (∀ ty, (Builtin.delete_ #[59, 26] ty #[.map (some mb), .int .u64 a]).run Try.prog w = .ok (.tuple #[]) (Go.ChangeMaps.setBlock w mb (.map es' clock))) ∧ Go.MapKept.Stamped es' clock ∧ ∃ H', MayOk es'.toList (delM M a) H' ∧ ∀ (wx : World) (Fr : HL), Holds wx (Hm ++ Fr) → Holds wx (H' ++ Fr) := by
  rcases may_find h hu hn ha w with ⟨h1, h2, h3⟩ | ⟨j, e, h1, h2, h3, h4⟩
  · refine ⟨es, fun ty => ?_, hst, Hm, ?_, fun wx Fr hx => hx⟩
    · simp [Builtin.delete_, run_underlying Try.underlying59, Go.MapKept.run_getObj_map hb, keyed64.check w _ (key64 ha), h2, Go.MapKept.run_setObj_map _ hb, Result.andThen, Go.ChangeMaps.setBlock]
    · unfold delM
      rw [h1]
      exact h
  · have hjl : j < es.toList.length := (List.getElem?_eq_some_iff.1 h3).1
    have hjs : j < es.size := by simpa using hjl
    have hsub : (es.eraseIdxIfInBounds j).toList = es.toList.eraseIdx j := by
      unfold Array.eraseIdxIfInBounds
      rw [dif_pos hjs]
      simp
    obtain ⟨H', hs1, hs2⟩ := MayOk.erase j h hjl
    refine ⟨es.eraseIdxIfInBounds j, fun ty => ?_, Go.MapKept.stamped_erase hst j, H', ?_, hs2⟩
    · simp [Builtin.delete_, run_underlying Try.underlying59, Go.MapKept.run_getObj_map hb, keyed64.check w _ (key64 ha), h2, Go.MapKept.run_setObj_map _ hb, Result.andThen, Go.ChangeMaps.setBlock]
    · unfold delM
      rw [h1, hsub]
      exact hs1

/-! ### the model -/
theorem putM_mem {M : List (Int × List BK)} {a : Int} {l : List BK} {p : Int × List BK} (h : p ∈ putM M a l) : p = (a, l) ∨ p ∈ M := by
  unfold putM at h
  split at h
  · rcases List.mem_or_eq_of_mem_set h with h | h
    · exact .inr h
    · exact .inl h
  · rcases List.mem_append.1 h with h | h
    · exact .inr h
    · exact .inl (by simpa using h)
theorem putM_keys {M : List (Int × List BK)} {a : Int} {l : List BK} : (putM M a l).map (·.1) = if a ∈ M.map (·.1) then M.map (·.1) else M.map (·.1) ++ [a] := by
  unfold putM
  cases h : M.findIdx? fun p => p.1 == a with
  | none =>
    have hn := List.findIdx?_eq_none_iff.1 h
    rw [if_neg]
    · simp
    · intro ha
      obtain ⟨p, hp, rfl⟩ := List.mem_map.1 ha
      simpa using hn p hp
  | some i =>
    obtain ⟨hi, h1, _⟩ := List.findIdx?_eq_some_iff_getElem.1 h
    have h1' : M[i].1 = a := by simpa using h1
    rw [if_pos (List.mem_map.2 ⟨_, List.getElem_mem hi, h1'⟩)]
    simp only [List.map_set]
    rw [← h1']
    have := List.set_getElem_self (show i < (M.map (·.1)).length by simpa using hi)
    simpa using this
theorem delM_sub {M : List (Int × List BK)} {a : Int} : (delM M a).Sublist M := by
  unfold delM
  split
  · exact List.eraseIdx_sublist _ _
  · exact List.Sublist.refl _
def LOk (l : List BK) : Prop := BInc l ∧ (∀ x ∈ l, x.Ok) ∧ l ≠ [] ∧ l ≠ [BK.none] ∧ (hasClean l = true → BK.none ∈ l)
theorem MOk.put {M : List (Int × List BK)} (h : MOk M) {a : Int} {l : List BK} (ha : U64 a) (hl : LOk l) : MOk (putM M a l) where
  nodup := by
    rw [putM_keys]
    split
    · exact h.nodup
    · rename_i hn
      exact List.nodup_append.2 ⟨h.nodup, by simp, fun x hx y hy e => hn (by rw [List.mem_singleton] at hy; rw [← hy, ← e]; exact hx)⟩
  u64 p hp := by
    rcases putM_mem hp with rfl | hp
    · exact ha
    · exact h.u64 p hp
  ok p hp := by
    rcases putM_mem hp with rfl | hp
    · exact hl
    · exact h.ok p hp
theorem MOk.del {M : List (Int × List BK)} (h : MOk M) (a : Int) : MOk (delM M a) where
  nodup := (delM_sub.map _).nodup h.nodup
  u64 p hp := h.u64 p (delM_sub.subset hp)
  ok p hp := h.ok p (delM_sub.subset hp)
theorem BK.none_ok : BK.none.Ok := fun _ => rfl
theorem norm_pre {l : List BK} (hl : ∀ x ∈ l, x.Ok) : ∀ x ∈ (if hasClean l then l ++ [BK.none] else l), x.Ok := by
  split
  · intro x hx
    rcases List.mem_append.1 hx with hx | hx
    · exact hl x hx
    · rw [List.mem_singleton.1 hx]; exact BK.none_ok
  · exact hl
theorem normB_ok {l : List BK} (hl : ∀ x ∈ l, x.Ok) (h0 : l ≠ []) (hne : normB l ≠ [BK.none]) : LOk (normB l) := by
  have hp := norm_pre hl
  refine ⟨canon_inc hp, fun x hx => hp x (mem_canon.1 hx), ?_, hne, fun hc => ?_⟩
  · intro h
    obtain ⟨x, hx⟩ := List.exists_mem_of_ne_nil l h0
    have : x ∈ normB l := mem_canon.2 (by split <;> simp [hx])
    rw [h] at this
    cases this
  · unfold hasClean at hc
    rw [List.any_eq_true] at hc
    obtain ⟨x, hx, hxc⟩ := hc
    have hxl := mem_canon.1 hx
    refine mem_canon.2 ?_
    by_cases hcl : hasClean l = true
    · rw [if_pos hcl]; simp
    · rw [if_neg hcl] at hxl
      exact absurd (List.any_eq_true.2 ⟨x, hxl, hxc⟩) hcl
theorem MOk.set {M : List (Int × List BK)} (h : MOk M) {a : Int} {l : List BK} (ha : U64 a) (hl : ∀ x ∈ l, x.Ok) (h0 : l ≠ []) : MOk (setM M a l) := by
  unfold setM
  split
  · exact h.del a
  · rename_i hne
    exact h.put ha (normB_ok hl h0 hne)
theorem MOk.nil : MOk [] := ⟨List.Pairwise.nil, by simp, by simp⟩
end Go.Proofs.Ytinfbpldgobmfaa
