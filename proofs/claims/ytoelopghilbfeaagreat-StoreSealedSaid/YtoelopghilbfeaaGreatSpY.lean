/-
  Texts put together: YtoelopghilbfeaaGreatSpI, YtoelopghilbfeaaGreatSpJ, YtoelopghilbfeaaGreatSpK, YtoelopghilbfeaaGreatSpL.
-/
import Derived.Test.YtoelopghilbfeaaGreatSpX
namespace Go.Proofs.YtoelopghilbfeaaGreat
open Go.RowKit
set_option linter.unusedSimpArgs false
set_option linter.unusedVariables false

variable {s s' : SM} {c c' : CM}
theorem new_at {B P Z : Nat} {marks : List Int} {ms : List Mi} {k : Nat} {x : CB} (h : (CM.new B P Z marks ms).blocks[k]? = some x) : k < B ∧ x = CB.new P Z (marks.contains (k : Int)) := by
  have hk : k < B := by have := (List.getElem?_eq_some_iff.1 h).1; simpa [CM.new] using this
  refine ⟨hk, ?_⟩
  have h2 : (CM.new B P Z marks ms).blocks[k]? = some (CB.new P Z (marks.contains (k : Int))) := by
    show ((List.range B).map fun k : Nat => CB.new P Z (marks.contains (k : Int)))[k]? = _
    rw [List.getElem?_map, List.getElem?_range hk]
    rfl
  rw [h2] at h
  injection h with h
  exact h.symm
theorem new_shape {B P Z : Nat} {marks : List Int} {ms : List Mi} (k : Nat) (x : CB) (h : (CM.new B P Z marks ms).blocks[k]? = some x) : x.shape P Z := by
  obtain ⟨_, rfl⟩ := new_at h
  refine ⟨?_, Int.le_refl _, by show (0 : Int) ≤ P; omega, fun p _ hp => blankB_at hp⟩
  show (blankB P Z).length = P
  unfold blankB
  rw [List.length_replicate]
theorem lookI_chip {k : Int} (h1 : c.nextOf k = 0) : (lookI s c k).2 = (c, 0) := by
  have hA : lookA s c k = (s, c, 0) := by unfold lookA; rw [if_neg (by omega)]
  unfold lookI
  rw [hA, if_neg (by simp)]
  unfold lookB
  split <;> rfl
theorem lookAll_chip (h : ∀ k : Nat, c.nextOf k = 0) (n : Nat) : ∀ (k : Nat) (s : SM), (lookAll n k s c).2 = (c, 0) := by
  induction n with
  | zero => intro k s; rfl
  | succ n ih =>
    intro k s
    have e := lookI_chip (s := s) (h k)
    rw [lookAll, show (lookI s c k).2.2 = 0 by rw [e], if_neg (by simp), show (lookI s c k).2.1 = c by rw [e]]
    exact ih (k + 1) _
/-- a new store over a new chip -/
theorem new_start (marks : List Int) (ms : List Mi) (hpl : planB ((CM.new 16 4 128 marks ms).blocks.length : Int) (CM.new 16 4 128 marks ms).P (CM.new 16 4 128 marks ms).Z = true) :
    (newS (CM.new 16 4 128 marks ms)).2 = (CM.new 16 4 128 marks ms, 0) ∧ Cont (newS (CM.new 16 4 128 marks ms)).1 (CM.new 16 4 128 marks ms) ∧ Live (newS (CM.new 16 4 128 marks ms)).1 (CM.new 16 4 128 marks ms) ∧ (newS (CM.new 16 4 128 marks ms)).1.op = -1 ∧
      ((newS (CM.new 16 4 128 marks ms)).1.B = 16 ∧ (newS (CM.new 16 4 128 marks ms)).1.P = 4 ∧ (newS (CM.new 16 4 128 marks ms)).1.Z = 128) ∧ ∀ j q : Nat, j < 16 → q < 4 → lookS (newS (CM.new 16 4 128 marks ms)).1.hs ((j : Int) * 4 + q) = none := by
  have hch : (newS (CM.new 16 4 128 marks ms)).2 = (CM.new 16 4 128 marks ms, 0) := lookAll_chip (fun k => new_next 16 4 128 marks ms k) _ _ _
  have hlen : (CM.new 16 4 128 marks ms).blocks.length = 16 := by simp [CM.new]
  obtain ⟨a1, a2⟩ := newS_spec (c := CM.new 16 4 128 marks ms) hpl rfl (fun k x h => new_shape k x h)
  have hv : ∀ j q : Nat, j < 16 → q < 4 → (CM.new 16 4 128 marks ms).vAt j q = none := by
    intro j q hj hq
    cases hb : (CM.new 16 4 128 marks ms).blocks[j]? with
    | none => exact vAt_none hb q
    | some x =>
      rw [vAt_of hb]
      obtain ⟨_, rfl⟩ := new_at hb
      exact pgV_rep 4 156 255 _ rfl (by omega) q
  generalize newS (CM.new 16 4 128 marks ms) = r at *
  obtain ⟨r1, r2⟩ := r
  dsimp only at hch
  subst hch
  dsimp only at a2
  rcases a2 with ⟨h4, _⟩ | ⟨_, b1, b2, b3, b4, b5, b6, b7⟩
  · exact absurd h4 (by decide)
  · refine ⟨rfl, b1, b2, b3, ⟨b4.trans hlen, b5, b6⟩, fun j q hj hq => ?_⟩
    have := b7 j q (by rw [hlen]; exact hj) hq
    rw [hv j q hj hq] at this
    exact this
set_option maxRecDepth 20000 in
theorem aw_plan' : planB ((CM.new 16 4 128 [] []).blocks.length : Int) (CM.new 16 4 128 [] []).P (CM.new 16 4 128 [] []).Z = true := by kernel_rfl
end Go.Proofs.YtoelopghilbfeaaGreat
namespace Go.Proofs.YtoelopghilbfeaaGreat
open Go.RowKit
set_option linter.unusedSimpArgs false
set_option linter.unusedVariables false

variable {s s' : SM} {c c' : CM}
def hdK (κ : Int) (i : Nat) : Hd := ⟨κ, i, 1 + i, 0⟩
theorem fillL_len (n : Int) : (fillL n 128).length = 128 := by unfold fillL; simp
theorem hdK_may {κ : Int} {i : Nat} (hκ : κ = 1 ∨ κ = 2) (hi : i ≤ 1000) : (hdK κ i).may = true ∧ HdIn (hdK κ i) := by
  refine ⟨?_, by show (0 : Int) ≤ i; omega, by show (i : Int) < 18446744073709551616; omega⟩
  unfold Hd.may hdK
  simp
  omega
/-- pages L (number, what was put) are there -/
structure HasI (κ : Int) (L : List (Nat × Nat)) (s : SM) (c : CM) : Prop where
  cont : Cont s c
  geo : s.B = 16 ∧ s.P = 4 ∧ s.Z = 128
  has : ∀ n i, (n, i) ∈ L → n < 64 ∧ lookS s.hs (n : Int) = some (hdK κ i) ∧ c.vAt (n / 4) (n % 4) = some (fillL i 128, hdK κ i)
/-- and these alone are needed; blocks but the open one are full, or have none -/
structure LawI (N κ : Int) (mk : Nat → Bool) (M : Int) (L : List (Nat × Nat)) (s : SM) (c : CM) : Prop where
  has : HasI κ L s c
  live : Live s c
  calm : Calm c N
  mis : c.misuse = 0
  only : ∀ n : Nat, n < 64 → lookS s.hs (n : Int) ≠ none → ∃ i, (n, i) ∈ L
  nodup : (L.map (·.1)).Nodup
  shut : ∀ (j : Nat) (x : CB), c.blocks[j]? = some x → s.op ≠ (j : Int) → x.next = 0 ∨ x.next = 4
  mark : ∀ (j : Nat) (x : CB), c.blocks[j]? = some x → x.mark = mk j
  ops : 0 ≤ c.ops ∧ c.ops ≤ M
  msk : ∀ m ∈ c.ms, m.kind ≠ 2
def FullS (mk : Nat → Bool) (s : SM) (c : CM) : Prop := ∀ j : Nat, j < 16 → mk j = false → c.nextOf j = 4 ∧ ∃ q : Nat, q < 4 ∧ lookS s.hs ((j * 4 + q : Nat) : Int) ≠ none
theorem nat_key (k p : Nat) : ((k * 4 + p : Nat) : Int) = (k : Int) * ((4 : Nat) : Int) + p := by simp
theorem nat_split (n : Nat) : n / 4 * 4 + n % 4 = n := by omega
theorem LawI.put {N κ : Int} {mk : Nat → Bool} {M : Int} {L : List (Nat × Nat)} (I : LawI N κ mk M L s c) (hN : M + 2 ≤ N) {i : Nat} (hi : i ≤ 1000) (hκ : κ = 1 ∨ κ = 2) :
    (putA s c (hdK κ i) (fillL i 128) = (s, c, 0, 7) ∧ FullS mk s c) ∨
    ∃ p : Nat, (putA s c (hdK κ i) (fillL i 128)).2.2 = ((p : Int), 0) ∧ p < 64 ∧ lookS s.hs (p : Int) = none ∧ mk (p / 4) = false ∧ LawI N κ mk (M + 2) ((p, i) :: L) (putA s c (hdK κ i) (fillL i 128)).1 (putA s c (hdK κ i) (fillL i 128)).2.1 ∧
      (∀ j : Nat, j ≠ p / 4 → (putA s c (hdK κ i) (fillL i 128)).2.1.nextOf j = c.nextOf j) ∧ (putA s c (hdK κ i) (fillL i 128)).2.1.nextOf (p / 4 : Nat) ≤ c.nextOf (p / 4 : Nat) + 1 ∧
      ((∀ j : Nat, j < 16 → 0 < c.nextOf j → ¬ noneed s j) → (putA s c (hdK κ i) (fillL i 128)).2.1.ops = c.ops + 1 ∧ ∀ j : Nat, j < 16 → 0 < (putA s c (hdK κ i) (fillL i 128)).2.1.nextOf j → ¬ noneed (putA s c (hdK κ i) (fillL i 128)).1 j) := by
  obtain ⟨⟨hC, ⟨hB, hP, hZ⟩, hhas⟩, hL, hK, hmis, honly, hnd, hshut, hmark, hops, hmsk⟩ := I
  obtain ⟨hm, hin⟩ := hdK_may hκ hi
  have hop := hC.opb
  obtain ⟨R, hcase⟩ := put_calm hC hL hK (by omega) hm hin (d := fillL i 128) (by rw [hZ]; exact fillL_len _)
  rcases hcase with ⟨e, h0, hE⟩ | ⟨k, p, x, x', Q⟩
  · refine Or.inl ⟨e, fun j hj hmj => ?_⟩
    obtain ⟨x, hx⟩ := hC.bget (k := j) (by omega)
    have hxm : x.mark = false := (hmark j x hx).trans hmj
    have hnn : ¬ noneed s j := by
      intro hn
      have : (j : Int) ∈ emptyL s c := (emptyL_mem hC).2 ⟨j, rfl, by omega, (countB_iff hC hx).2 ⟨hxm, hn, Or.inr h0⟩⟩
      rw [hE] at this
      exact absurd this (by simp)
    have hq : ∃ q : Nat, q < 4 ∧ lookS s.hs ((j * 4 + q : Nat) : Int) ≠ none := by
      refine Classical.byContradiction fun hne => hnn fun q hq => ?_
      rw [hP] at hq ⊢
      refine Classical.byContradiction fun h2 => hne ⟨q, hq, ?_⟩
      rw [nat_key]
      exact h2
    refine ⟨?_, hq⟩
    rw [next_at hx]
    obtain ⟨q, hq1, hq2⟩ := hq
    by_cases ho : s.op = (j : Int)
    · rw [left_at hC ho hx, hP] at h0
      omega
    · rcases hshut j x hx ho with h | h
      · have := (hC.above hx (p := q) (by rw [hP]; exact hq1) (by omega)).1
        rw [hP, ← nat_key] at this
        exact absurd this hq2
      · exact h
  · refine Or.inr ⟨k * 4 + p, ?_⟩
    generalize putA s c (hdK κ i) (fillL i 128) = r at R Q
    have hkB : k < 16 := by rw [← hB]; exact Q.kb
    have hpP : p < 4 := by rw [← hP]; exact Q.pb
    have hi0 := (List.getElem?_eq_some_iff.1 Q.blk).1
    have e1 : (k * 4 + p) / 4 = k := by omega
    have e2 : (k * 4 + p) % 4 = p := by omega
    have hfree : lookS s.hs ((k * 4 + p : Nat) : Int) = none := by have f := Q.free; rw [hP, ← nat_key] at f; exact f
    have hlk : ∀ m, lookS r.1.hs m = if m = ((k * 4 + p : Nat) : Int) then some (hdK κ i) else lookS s.hs m := by
      intro m
      have e := Q.hs
      rw [hP, ← nat_key] at e
      rw [e]
      exact lookS_put _ m hfree
    have hxk' : r.2.1.blocks[k]? = some x' := by rw [Q.blks, set_at _ _ _ _ hi0, if_pos rfl]
    have hxj : ∀ j : Nat, j ≠ k → r.2.1.blocks[j]? = c.blocks[j]? := by intro j hj; rw [Q.blks, set_at _ _ _ _ hi0, if_neg (Ne.symm hj)]
    have hnj : ∀ j : Nat, j ≠ k → r.2.1.nextOf j = c.nextOf j := by intro j hj; unfold CM.nextOf; rw [blk_at, blk_at, hxj j hj]
    have hnk := next_at hxk'
    have hnk0 := next_at Q.blk
    have hnx := Q.next
    have hshx := (hC.shape k x Q.blk).2.1
    rw [e1]
    refine ⟨by rw [Q.code, hP, ← nat_key], by omega, hfree, ?_, ⟨⟨R.cont, ⟨R.B.trans hB, R.P.trans hP, R.Z.trans hZ⟩, ?_⟩, Q.live, Q.calm, R.mis.trans hmis, ?_, ?_, ?_, ?_, ?_, by rw [R.ms]; exact hmsk⟩, hnj, ?_, ?_⟩
    · rw [← hmark k x Q.blk]; exact Q.mark.1
    · intro n a ha
      rcases List.mem_cons.1 ha with h | h
      · injection h with h1 h2
        subst h1 h2
        refine ⟨by omega, by rw [hlk, if_pos rfl], ?_⟩
        rw [e1, e2]
        exact Q.val
      · obtain ⟨h1, h2, h3⟩ := hhas n a h
        have hne : n ≠ k * 4 + p := by intro e; rw [e, hfree] at h2; exact absurd h2 (by simp)
        refine ⟨h1, by rw [hlk, if_neg (by omega)]; exact h2, ?_⟩
        have hl2 : lookS s.hs ((n / 4 : Nat) * (s.P : Int) + (n % 4 : Nat)) = some (hdK κ a) := by
          rw [hP, ← nat_key, nat_split]
          exact h2
        rw [R.keep (n / 4) (n % 4) _ (by omega) (by omega) hl2]
        exact h3
    · intro n hn hne
      rw [hlk] at hne
      by_cases e : (n : Int) = ((k * 4 + p : Nat) : Int)
      · exact ⟨i, by have : n = k * 4 + p := by omega
                     rw [this]; exact List.mem_cons_self⟩
      · rw [if_neg e] at hne
        obtain ⟨a, ha⟩ := honly n hn hne
        exact ⟨a, List.mem_cons_of_mem _ ha⟩
    · rw [List.map_cons, List.nodup_cons]
      refine ⟨fun hmem => ?_, hnd⟩
      obtain ⟨⟨n, a⟩, h1, h2⟩ := List.mem_map.1 hmem
      have h2' : n = k * 4 + p := h2
      obtain ⟨_, h3, _⟩ := hhas n a h1
      rw [h2', hfree] at h3
      exact absurd h3 (by simp)
    · intro j xj hj hne
      rw [Q.op] at hne
      have hjk : j ≠ k := by omega
      rw [hxj j hjk] at hj
      by_cases ho : s.op = (j : Int)
      · rcases Q.way with ⟨_, h2, _⟩ | ⟨h1, _⟩
        · omega
        · rw [left_at hC ho hj, hP] at h1
          exact Or.inr (by omega)
      · exact hshut j xj hj ho
    · intro j xj hj
      by_cases e : j = k
      · subst e
        rw [hxk'] at hj
        injection hj with hj
        rw [← hj, ← hmark j x Q.blk, Q.mark.1, Q.mark.2]
      · rw [hxj j e] at hj
        exact hmark j xj hj
    · have := Q.ops
      omega
    · rw [hnk, hnk0]
      rcases Q.way with ⟨_, _, h3, _⟩ | ⟨_, h2, _⟩ <;> omega
    · intro hu
      constructor
      · rcases Q.way with ⟨_, _, _, _, h5⟩ | ⟨_, _, _, h4, _, h6⟩
        · exact h5
        · rw [h6, if_neg]
          intro hpos
          exact hu k hkB (by rw [hnk0]; exact hpos) h4
      · intro j hj hpos hn
        have hPr : r.1.P = 4 := R.P.trans hP
        by_cases e : j = k
        · subst e
          have := hn p (by rw [hPr]; exact hpP)
          rw [hPr, ← nat_key, hlk, if_pos rfl] at this
          exact absurd this (by simp)
        · rw [hnj j e] at hpos
          refine hu j hj hpos fun q hq => ?_
          have h1 := hn q (by rw [hPr, ← hP]; exact hq)
          rw [hP] at hq ⊢
          rw [hPr, ← nat_key, hlk] at h1
          rw [← nat_key]
          split at h1
          · exact absurd h1 (by simp)
          · exact h1
theorem LawI.drop {N κ : Int} {mk : Nat → Bool} {M : Int} {L : List (Nat × Nat)} (I : LawI N κ mk M L s c) {n i : Nat} (hn : (n, i) ∈ L) : (dropS s n).2 = 0 ∧ LawI N κ mk M (L.filter fun q => decide (q.1 ≠ n)) (dropS s n).1 c := by
  obtain ⟨⟨hC, ⟨hB, hP, hZ⟩, hhas⟩, hL, hK, hmis, honly, hnd, hshut, hmark, hops, hmsk⟩ := I
  obtain ⟨h1, h2, h3⟩ := hhas n i hn
  have hl2 : lookS s.hs ((n / 4 : Nat) * (s.P : Int) + (n % 4 : Nat)) = some (hdK κ i) := by
    rw [hP, ← nat_key, nat_split]
    exact h2
  obtain ⟨d1, d2, d3, d4, d5, d6, d7, d8⟩ := drop_spec hC (k := n / 4) (p := n % 4) (by omega) (by omega) hl2
  rw [hP, ← nat_key, nat_split] at d1 d2 d3 d4 d5 d6 d7 d8
  refine ⟨d1, ⟨⟨d2, ⟨d4.trans hB, d5, d6.trans hZ⟩, ?_⟩, d3 hL, hK, hmis, ?_, ?_, ?_, hmark, hops, hmsk⟩⟩
  · intro m a ha
    obtain ⟨ha1, ha2⟩ := List.mem_filter.1 ha
    obtain ⟨q1, q2, q3⟩ := hhas m a ha1
    have hne : m ≠ n := by simpa using ha2
    exact ⟨q1, by rw [d8, if_neg (by omega)]; exact q2, q3⟩
  · intro m hm hne
    rw [d8] at hne
    by_cases e : (m : Int) = n
    · rw [if_pos e] at hne; exact absurd rfl hne
    · rw [if_neg e] at hne
      obtain ⟨a, ha⟩ := honly m hm hne
      exact ⟨a, List.mem_filter.2 ⟨ha, by simp; omega⟩⟩
  · exact hnd.sublist (List.filter_sublist.map _)
  · rw [d7]; exact hshut
theorem HasI.get {κ : Int} {L : List (Nat × Nat)} (I : HasI κ L s c) (hon : c.on = true) (hms : ∀ m ∈ c.ms, m.kind ≠ 2) {n i : Nat} (hn : (n, i) ∈ L) :
    (getS s c n).2 = (fillL i 128, hdK κ i, 0) ∧ Reads c (getS s c n).1 ∧ (getS s c n).1.on = true := by
  obtain ⟨hC, ⟨hB, hP, hZ⟩, hhas⟩ := I
  obtain ⟨h1, h2, h3⟩ := hhas n i hn
  have hl2 : lookS s.hs ((n / 4 : Nat) * (s.P : Int) + (n % 4 : Nat)) = some (hdK κ i) := by
    rw [hP, ← nat_key, nat_split]
    exact h2
  obtain ⟨g1, g2⟩ := get_spec hC (k := n / 4) (p := n % 4) (by omega) (by omega) hl2 h3
  rw [hP, ← nat_key, nat_split] at g1 g2
  rcases g2 with ⟨q1, q2, q3⟩ | ⟨_, _, q3⟩
  · exact ⟨q1, g1, q3⟩
  · obtain ⟨_, m, m1, m2, _⟩ := q3 hon
    exact absurd m2 (hms m m1)
theorem HasI.reads {κ : Int} {L : List (Nat × Nat)} (I : HasI κ L s c) (g : Reads c c') : HasI κ L s c' := ⟨I.cont.reads g, I.geo, fun n i h => by rw [g.vAt]; exact I.has n i h⟩
theorem pigeon : ∀ (n : Nat) (L : List Nat), (∀ j, j < n → j ∈ L) → n ≤ L.length := by
  intro n
  induction n with
  | zero => intro L _; omega
  | succ n ih =>
    intro L h
    have hn := h n (by omega)
    have h1 := ih (L.erase n) fun j hj => (List.mem_erase_of_ne (by omega)).2 (h j (by omega))
    rw [List.length_erase_of_mem hn] at h1
    have := List.length_pos_of_mem hn
    omega
theorem LawI.few {N κ : Int} {mk : Nat → Bool} {M : Int} {L : List (Nat × Nat)} (I : LawI N κ mk M L s c) (hmk : ∀ j, mk j = false) (hl : L.length < 16) : ¬ FullS mk s c := by
  intro hf
  have := pigeon 16 (L.map fun q => q.1 / 4) fun j hj => by
    obtain ⟨_, q, hq, hne⟩ := hf j hj (hmk j)
    obtain ⟨i, hi⟩ := I.only (j * 4 + q) (by omega) hne
    exact List.mem_map.2 ⟨_, hi, by show (j * 4 + q) / 4 = j; omega⟩
  rw [List.length_map] at this
  omega
end Go.Proofs.YtoelopghilbfeaaGreat
namespace Go.Proofs.YtoelopghilbfeaaGreat
open Go.RowKit
set_option linter.unusedSimpArgs false
set_option linter.unusedVariables false

variable {s s' : SM} {c c' : CM}
structure KeepI (n : Nat) (pg : List Nat) (o : Int) (s : SM) (c : CM) (L : List (Nat × Nat)) : Prop where
  law : LawI 1000000 1 (fun _ => false) (2 * n) L s c
  has : ∀ j (h : j < pg.length), (pg[j], j) ∈ L
  few : L.length ≤ pg.length + (if o < 0 then 0 else 1)
  neg : o < 0 → o = -1
  old : 0 ≤ o → ∃ on i : Nat, o = on ∧ (on, i) ∈ L ∧ ∀ q ∈ pg, q ≠ on
theorem filter_lt' {α : Type} (p : α → Bool) (l : List α) {a : α} (h : a ∈ l) (hp : p a = false) : (l.filter p).length + 1 ≤ l.length := by
  have := filter_lt p (fun _ => true) l (fun _ _ => rfl) h rfl hp
  rw [List.filter_eq_self.2 (fun _ _ => rfl)] at this
  omega
theorem KeepI.put {n : Nat} {pg : List Nat} {o : Int} {L : List (Nat × Nat)} (I : KeepI n pg o s c L) (hpg : pg.length ≤ 12) (hn : n ≤ 320) :
    ∃ p : Nat, (putA s c (hdK 1 n) (fillL n 128)).2.2 = ((p : Int), 0) ∧ p < 64 ∧
      (o < 0 → o = -1 ∧ ∃ L', KeepI (n + 1) pg p (putA s c (hdK 1 n) (fillL n 128)).1 (putA s c (hdK 1 n) (fillL n 128)).2.1 L' ∧ (pg.length = n → KeepI (n + 1) (pg ++ [p]) (-1) (putA s c (hdK 1 n) (fillL n 128)).1 (putA s c (hdK 1 n) (fillL n 128)).2.1 L')) ∧
      (0 ≤ o → (dropS (putA s c (hdK 1 n) (fillL n 128)).1 o).2 = 0 ∧ ∃ L', KeepI (n + 1) pg p (dropS (putA s c (hdK 1 n) (fillL n 128)).1 o).1 (putA s c (hdK 1 n) (fillL n 128)).2.1 L' ∧ (pg.length = n → KeepI (n + 1) (pg ++ [p]) (-1) (dropS (putA s c (hdK 1 n) (fillL n 128)).1 o).1 (putA s c (hdK 1 n) (fillL n 128)).2.1 L')) := by
  obtain ⟨hI, hhas, hfew, hneg, hold⟩ := I
  have hL16 : L.length < 16 := by split at hfew <;> omega
  rcases hI.put (by omega) (i := n) (by omega) (Or.inl rfl) with ⟨_, hf⟩ | ⟨p, e1, e2, e3, e4, e5, _⟩
  · exact absurd hf (hI.few (fun _ => rfl) hL16)
  · generalize putA s c (hdK 1 n) (fillL n 128) = r at *
    have e5' : LawI 1000000 1 (fun _ => false) (2 * ((n + 1 : Nat) : Int)) ((p, n) :: L) r.1 r.2.1 := by
      have e : 2 * ((n + 1 : Nat) : Int) = 2 * (n : Int) + 2 := by omega
      rw [e]; exact e5
    have hpq : ∀ q i, (q, i) ∈ L → q ≠ p := by
      intro q i h e
      have := (hI.has.has q i h).2.1
      rw [e, e3] at this
      exact absurd this (by simp)
    -- whatever list holds
    have fin : ∀ (t : SM) (L' : List (Nat × Nat)), LawI 1000000 1 (fun _ => false) (2 * ((n + 1 : Nat) : Int)) L' t r.2.1 → (∀ j (h : j < pg.length), (pg[j], j) ∈ L') → (p, n) ∈ L' → L'.length ≤ pg.length + 1 →
        KeepI (n + 1) pg p t r.2.1 L' ∧ (pg.length = n → KeepI (n + 1) (pg ++ [p]) (-1) t r.2.1 L') := by
      intro t L' h1 h2 h3 h4
      constructor
      · refine ⟨h1, h2, by rw [if_neg (by omega)]; exact h4, by omega, fun _ => ⟨p, n, rfl, h3, fun q hq => ?_⟩⟩
        obtain ⟨j, hj, rfl⟩ := List.mem_iff_getElem.1 hq
        exact hpq _ _ (hhas j hj)
      · intro hlen
        refine ⟨h1, ?_, by rw [if_pos (by omega), List.length_append]; simp; omega, fun _ => rfl, by omega⟩
        intro j hj
        rw [List.length_append] at hj
        by_cases e : j < pg.length
        · rw [List.getElem_append_left e]; exact h2 j e
        · have : j = pg.length := by simp at hj; omega
          subst this
          rw [List.getElem_append_right (Nat.le_refl _)]
          simp only [Nat.sub_self, List.getElem_cons_zero]
          rw [hlen]
          exact h3
    refine ⟨p, e1, e2, ?_, ?_⟩
    · intro ho
      refine ⟨hneg ho, _, fin r.1 _ e5' (fun j hj => List.mem_cons_of_mem _ (hhas j hj)) List.mem_cons_self ?_⟩
      rw [if_pos ho] at hfew
      rw [List.length_cons]
      omega
    · intro ho
      obtain ⟨on, i, rfl, h2, h3⟩ := hold ho
      rw [if_neg (by omega)] at hfew
      obtain ⟨d1, d2⟩ := e5'.drop (List.mem_cons_of_mem _ h2)
      refine ⟨d1, _, fin _ _ d2 ?_ ?_ ?_⟩
      · intro j hj
        exact List.mem_filter.2 ⟨List.mem_cons_of_mem _ (hhas j hj), by simpa using h3 _ (List.getElem_mem hj)⟩
      · exact List.mem_filter.2 ⟨List.mem_cons_self, by simpa using (hpq on i h2).symm⟩
      · have := filter_lt' (fun q : Nat × Nat => decide (q.1 ≠ on)) ((p, n) :: L) (List.mem_cons_of_mem _ h2) (by simp)
        rw [List.length_cons] at this
        omega
end Go.Proofs.YtoelopghilbfeaaGreat
namespace Go.Proofs.YtoelopghilbfeaaGreat
open Go.RowKit
set_option linter.unusedSimpArgs false
set_option linter.unusedVariables false

variable {s s' : SM} {c c' : CM}
theorem lawI_new (κ : Int) (marks : List Int) (ms : List Mi) {N : Int} (hms : ∀ m ∈ ms, N < m.at_) (hk : ∀ m ∈ ms, m.kind ≠ 2) :
    (newS (CM.new 16 4 128 marks ms)).2 = (CM.new 16 4 128 marks ms, 0) ∧ LawI N κ (fun j => marks.contains (j : Int)) 0 [] (newS (CM.new 16 4 128 marks ms)).1 (CM.new 16 4 128 marks ms) := by
  have hpl : planB ((CM.new 16 4 128 marks ms).blocks.length : Int) (CM.new 16 4 128 marks ms).P (CM.new 16 4 128 marks ms).Z = true := by
    have e : (CM.new 16 4 128 marks ms).blocks.length = (CM.new 16 4 128 [] []).blocks.length := by simp [CM.new]
    rw [e]
    exact aw_plan'
  obtain ⟨h1, h2, h3, h4, ⟨h5, h6, h7⟩, h8⟩ := new_start marks ms hpl
  refine ⟨h1, ⟨⟨h2, ⟨h5, h6, h7⟩, fun n i h => absurd h (by simp)⟩, h3, ⟨hms, fun k x h => by obtain ⟨_, rfl⟩ := new_at h; rfl⟩, rfl, ?_, by simp, ?_, ?_, ⟨Int.le_refl _, Int.le_refl _⟩, hk⟩⟩
  · intro n hn hne
    have := h8 (n / 4) (n % 4) (by omega) (by omega)
    have e : ((n / 4 : Nat) : Int) * 4 + (n % 4 : Nat) = n := by omega
    rw [e] at this
    exact absurd this hne
  · intro j x hx _; obtain ⟨_, rfl⟩ := new_at hx; exact Or.inl rfl
  · intro j x hx; obtain ⟨_, rfl⟩ := new_at hx; rfl
/-- so many blocks below n are marked -/
def mkTo (mk : Nat → Bool) (n : Nat) : Nat := ((List.range n).filter mk).length
theorem mkTo_succ (mk : Nat → Bool) (n : Nat) : mkTo mk (n + 1) = if mk n then mkTo mk n + 1 else mkTo mk n := by
  unfold mkTo
  rw [filter_snoc]
  split
  · rw [List.length_append]; rfl
  · rfl
theorem mkTo_zero {mk : Nat → Bool} (h : ∀ j, mk j = false) (n : Nat) : mkTo mk n = 0 := by
  induction n with
  | zero => rfl
  | succ n ih => rw [mkTo_succ, h, if_neg (by simp), ih]
theorem badS_eq {mk : Nat → Bool} (h : ∀ j : Nat, j < s.B → c.markOf (j : Int) = mk j) : badS s c = (mkTo mk s.B : Int) := by
  unfold badS onlyI numsTo mkTo
  rw [List.filter_map, List.length_map]
  congr 2
  refine List.filter_congr fun j hj => ?_
  have := h j (List.mem_range.1 hj)
  show (!(!c.markOf (j : Int))) = mk j
  rw [Bool.not_not, this]
theorem LawI.markOf {N κ : Int} {mk : Nat → Bool} {M : Int} {L : List (Nat × Nat)} (I : LawI N κ mk M L s c) {j : Nat} (hj : j < 16) : c.markOf (j : Int) = mk j := by
  obtain ⟨x, hx⟩ := I.has.cont.bget (k := j) (by rw [I.has.geo.1]; exact hj)
  rw [mark_at hx]
  exact I.mark j x hx
end Go.Proofs.YtoelopghilbfeaaGreat
