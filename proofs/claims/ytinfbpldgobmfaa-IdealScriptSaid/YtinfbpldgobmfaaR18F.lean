/-
  Chapter 18's own answer: listed.
-/
import Derived.Test.YtinfbpldgobmfaaR18E
namespace Go.Proofs.Ytinfbpldgobmfaa
open Go.RowKit
set_option linter.unusedSimpArgs false
set_option linter.unusedVariables false

def condR (P : List PV) (a0 : Int) (z : List Int) (j : Nat) : Bool := decide (0 < (dirtyF (atP P z[j]!).l).length) && (!decide (z[j]! < a0) && (decide (j = 0) || decide (z[j - 1]! < z[j]!)))
/-- what a place becomes that is within: none if it may not be left out -/
def stepR (z : List Int) (p : PV) : Option PV :=
  if z.contains p.a then some ⟨p.a, false, dirtyF p.l⟩ else if (cleanF p.l).length = 0 ∧ p.n = false then none else some ⟨p.a, p.n, cleanF p.l⟩
def picksR (a0 m : Int) (z : List Int) (P : List PV) : List PV := (P.filter fun p => withinB a0 m z p.a).filterMap (stepR z)
def askR (P : List PV) (o : OV) (z : List Int) : Bool := decide ((z.length : Int) ≤ o.m) && ((List.range z.length).all (condR P o.a z) && P.all fun p => !withinB o.a o.m z p.a || (stepR z p).isSome)
def listP (P : List PV) (o : OV) (z : List Int) : Bool × List PV := if askR P o z then (true, (picksR o.a o.m z P).foldl putP P) else (false, P)
theorem listP_many {P : List PV} {o : OV} {z : List Int} (h : o.m < z.length) : listP P o z = (false, P) := by unfold listP askR; rw [if_neg (by simp; omega)]
theorem listP_cond {P : List PV} {o : OV} {z : List Int} {j : Nat} (hj : j < z.length) (h : condR P o.a z j = false) : listP P o z = (false, P) := by
  unfold listP askR
  rw [if_neg]
  intro e
  simp only [Bool.and_eq_true, List.all_eq_true, List.mem_range] at e
  rw [e.2.1 j hj] at h
  cases h
theorem listP_step {P : List PV} {o : OV} {z : List Int} {p : PV} (hp : p ∈ P) (h1 : withinB o.a o.m z p.a = true) (h : stepR z p = none) : listP P o z = (false, P) := by
  unfold listP askR
  rw [if_neg]
  intro e
  simp only [Bool.and_eq_true, List.all_eq_true, List.mem_range] at e
  have := e.2.2 p hp
  rw [h1, h] at this
  cases this
theorem listP_yes {P : List PV} {o : OV} {z : List Int} (h2 : (z.length : Int) ≤ o.m) (h3 : ∀ j, j < z.length → condR P o.a z j = true) (h4 : ∀ p ∈ P, withinB o.a o.m z p.a = true → (stepR z p).isSome = true) :
    listP P o z = (true, (picksR o.a o.m z P).foldl putP P) := by
  unfold listP askR
  rw [if_pos]
  simp only [Bool.and_eq_true, List.all_eq_true, List.mem_range, decide_eq_true_eq]
  refine ⟨h2, h3, fun p hp => ?_⟩
  cases hw : withinB o.a o.m z p.a with
  | false => rfl
  | true => simpa using h4 p hp hw
theorem picksR_snoc {a0 m : Int} {z : List Int} {P : List PV} {k : Nat} (h : k < P.length) : picksR a0 m z (P.take (k + 1)) = picksR a0 m z (P.take k) ++ (if withinB a0 m z P[k].a then (stepR z P[k]).toList else []) := by
  unfold picksR
  rw [List.take_succ_eq_append_getElem h, List.filter_append, List.filterMap_append]
  congr 1
  cases hw : withinB a0 m z P[k].a with
  | false => rw [List.filter_cons_of_neg (by rw [hw]; decide)]; rfl
  | true =>
    rw [List.filter_cons_of_pos (by rw [hw]), List.filter_nil, if_pos rfl]
    cases h : stepR z P[k] <;> simp [List.filterMap_cons, h]
theorem picksR_len {a0 m : Int} {z : List Int} {P : List PV} : (picksR a0 m z P).length ≤ P.length := by
  unfold picksR
  exact Nat.le_trans (List.length_filterMap_le _ _) (List.length_filter_le _ _)
theorem condR_no {P : List PV} {a0 : Int} {z : List Int} {j : Nat} (hj : j < z.length) (h : (dirtyF (atP P z[j]).l).length = 0) : condR P a0 z j = false := by
  unfold condR; rw [getElem!_pos z j hj, h]; simp
theorem condR_lo {P : List PV} {a0 : Int} {z : List Int} {j : Nat} (hj : j < z.length) (h : z[j] < a0) : condR P a0 z j = false := by
  unfold condR; rw [getElem!_pos z j hj, decide_eq_true h]; simp
theorem condR_dn {P : List PV} {a0 : Int} {z : List Int} {j : Nat} (hj : j < z.length) (h0 : 0 < j) (h : z[j] ≤ z[j - 1]) : condR P a0 z j = false := by
  unfold condR; rw [getElem!_pos z j hj, getElem!_pos z (j - 1) (by omega)]
  have h1 : ¬ z[j - 1] < z[j] := by omega
  have h2 : ¬ j = 0 := by omega
  simp [h1, h2]
theorem condR_yes {P : List PV} {a0 : Int} {z : List Int} {j : Nat} (hj : j < z.length) (h : ¬ (dirtyF (atP P z[j]).l).length = 0) (h1 : ¬ z[j] < a0) (h2 : j = 0 ∨ z[j - 1] < z[j]) : condR P a0 z j = true := by
  unfold condR; rw [getElem!_pos z j hj, decide_eq_true (show 0 < (dirtyF (atP P z[j]).l).length by omega), decide_eq_false h1]
  rcases h2 with h2 | h2
  · simp [h2]
  · rw [getElem!_pos z (j - 1) (by omega), decide_eq_true h2]; simp
theorem putP_len {P : List PV} {p : PV} : (putP P p).length ≤ P.length + 1 := by
  have key : ∀ (q : PV) (Q : List PV) (s : List PV × Bool), (Q.foldl (putStep q) s).1.length + (if (Q.foldl (putStep q) s).2 then 0 else 1) ≤ s.1.length + (if s.2 then 0 else 1) + Q.length := by
    intro q Q
    induction Q with
    | nil => intro s; exact Nat.le_refl _
    | cons x Q ih =>
      intro s
      have h1 := ih (putStep q s x)
      have h2 : (putStep q s x).1.length + (if (putStep q s x).2 then 0 else 1) ≤ s.1.length + (if s.2 then 0 else 1) + 1 := by
        unfold putStep
        split
        · omega
        · split
          · rename_i h
            simp [h.1]
          · simp only [List.length_append, List.length_singleton]; omega
      rw [List.foldl_cons, List.length_cons]
      omega
  unfold putP putTo
  have h := key ⟨p.a, p.n || cleanL p.l, p.l⟩ P ([], decide (p.l.length = 0))
  dsimp only at h ⊢
  split
  · rename_i h1
    rw [if_pos h1] at h
    simp only [List.length_nil] at h
    split at h <;> omega
  · rename_i h1
    rw [if_neg h1] at h
    simp only [List.length_nil, List.length_append, List.length_singleton] at h ⊢
    split at h <;> omega
def ListR1 (P : List PV) (a : Int) (z : List Int) (w : World) (F : HL) (i : Value) (wr : World) : Prop := ∃ k : Nat, i = .int .i64 k ∧ k ≤ z.length ∧ (∀ j, j < k → condR P a z j = true) ∧ Holds wr F ∧ Grew w wr
def ListR2 (P : List PV) (a m : Int) (z : List Int) (Hp : HL) (w : World) (B : Nat × Obj) (G : HL) (out i : Value) (wr : World) : Prop :=
  ∃ (k : Nat) (Eo : List PE) (Ho Hn : HL), i = .int .i64 k ∧ k ≤ P.length ∧ (∀ p ∈ P.take k, withinB a m z p.a = true → (stepR z p).isSome = true) ∧ Eo.map (·.2) = picksR a m z (P.take k) ∧ IsRow 79 3 out Eo.length (peC Eo) Ho ∧
    (∀ e ∈ Eo, FrCans (Hn ++ Hp) e.1 e.2.l) ∧ Holds wr (Ho ++ (B :: ((Hn ++ Hp) ++ G))) ∧ Grew w wr
def ListR3 (P S : List PV) (Hq : HL) (b : Nat) (size : Int) (w : World) (G : HL) (i : Value) (wr : World) : Prop :=
  ∃ (k : Nat) (pv' : Value) (Hx : HL), i = .int .i64 k ∧ k ≤ S.length ∧ FrPlaces (Hx ++ Hq) pv' ((S.take k).foldl putP P) ∧ Holds wr ((b, .cells #[.int .i64 size, pv'] 76) :: ((Hx ++ Hq) ++ G)) ∧ Grew w wr
theorem foldP_len {S P : List PV} : (S.foldl putP P).length ≤ P.length + S.length := by
  induction S generalizing P with
  | nil => simp
  | cons x S ih =>
    have h1 := ih (P := putP P x)
    have h2 := putP_len (P := P) (p := x)
    rw [List.foldl_cons, List.length_cons]
    omega
/-- the third loop: all that was picked is put -/
def ThirdAt (b : Nat) (size : Int) (P S : List PV) (Hq : HL) : Prop := True
theorem within_lo {a m : Int} {z : List Int} {x : Int} (h : x < a) : withinB a m z x = false := by
  unfold withinB
  have h2 : decide (a ≤ x) = false := decide_eq_false (by omega)
  split <;> simp [h2]
theorem within_all {a m : Int} {z : List Int} {x : Int} (h : ¬ x < a) (h2 : (z.length : Int) < m) : withinB a m z x = true := by
  unfold withinB; rw [if_pos h2]; exact decide_eq_true (by omega)
theorem within_none {a m : Int} {z : List Int} {x : Int} (h : z.length = 0) (h2 : ¬ (z.length : Int) < m) : withinB a m z x = false := by
  unfold withinB; rw [if_neg h2, h]; rfl
theorem within_hi {a m : Int} {z : List Int} {x : Int} (h2 : ¬ (z.length : Int) < m) (h3 : z.getLast?.getD 0 < x) : withinB a m z x = false := by
  unfold withinB; rw [if_neg h2, decide_eq_false (show ¬ x ≤ z.getLast?.getD 0 by omega)]; simp
theorem within_in {a m : Int} {z : List Int} {x : Int} (h : ¬ x < a) (h1 : z.length ≠ 0) (h2 : ¬ (z.length : Int) < m) (h3 : ¬ z.getLast?.getD 0 < x) : withinB a m z x = true := by
  unfold withinB; rw [if_neg h2, decide_eq_true (show x ≤ z.getLast?.getD 0 by omega), decide_eq_true (show a ≤ x by omega), decide_eq_true (show 0 < z.length by omega)]; rfl
set_option maxRecDepth 20000 in
set_option maxHeartbeats 16000000 in
theorem r18listed_any (b : Nat) (size : Int) (pv : Value) (P : List PV) (o : OV) (dv av : Value) (z : List Int) (Hp Fr : HL) (w : World) (hl : FrPlaces Hp pv P) (hs : SmP P) (hd : FrBytes Hp dv o.d) (hz : FrWs Hp av z) (hH : Holds w ((b, .cells #[.int .i64 size, pv] 76) :: (Hp ++ Fr))) :
    Calls Try.prog 46 #[.pointer (some ⟨b, 0, none⟩), o.agg dv, av] w (RetR18 b size (listP P o z).2 (.bool (listP P o z).1) w Hp Fr) := by
  have HL0 := Lib.hid hl
  have HSL := Lib.hid hs
  have HZ := Lib.hid hz
  obtain ⟨A0, c0, hdv⟩ := hd.sl hH.tail
  subst hdv
  obtain ⟨A, c, hav⟩ : ∃ A c, av = .slice A z.length c := by obtain ⟨_, A, c, h, _⟩ := hz w hH.tail.left; exact ⟨A, c, h⟩
  subst hav
  have HATC := Lib.hid (fun (x : Int) (wx : World) (F : HL) (h : Holds wx ((b, .cells #[.int .i64 size, pv] 76) :: (Hp ++ F))) => r18at_any b size pv P x Hp F wx hl h)
  obtain ⟨E, hE, hE2⟩ := hl
  have HCE := Lib.hid hE2
  have HLE : Hid (E.map (·.2) = P) := Lib.hid hE
  have hlen : E.length = P.length := by rw [← hE, List.length_map]
  obtain ⟨Ap, cp, hpv, hnc, hcm⟩ := hE2.1.val hH.tail
  rw [hlen] at hpv hnc
  subst hpv
  unfold maxLen at hcm
  have hpl := hs.1
  obtain ⟨k6, a, d, m⟩ := o
  dsimp only [OV.agg] at *
  have hH1 : Holds (w.alloc (.cells #[.int .i64 k6, .int .u64 a, .slice A0 d.length c0, .int .i64 m] 31)) ((b, .cells #[.int .i64 size, .slice Ap P.length cp] 76) :: (Hp ++ ((w.heap.size, (.cells #[.int .i64 k6, .int .u64 a, .slice A0 d.length c0, .int .i64 m] 31)) :: Fr))) := (hH.alloc _).sub (by (repeat' (first | refine sub_append ?_ ?_ | refine sub_cons ?_ ?_ | exact sub_nil)); all_goals first | (intro p hp; simp only [List.mem_append, List.mem_cons, hp, true_or, or_true]) | simp only [List.mem_append, List.mem_cons, true_or, or_true]) (fun b => by simp only [keyc_append, keyc_cons, keyc_nil]; omega)
  have hg1 := (Grew.refl w).alloc (.cells #[.int .i64 k6, .int .u64 a, .slice A0 d.length c0, .int .i64 m] 31)
  have HB : Hid (∀ (wx : World) (X F : HL), Holds wx (X ++ ((w.heap.size, (.cells #[.int .i64 k6, .int .u64 a, .slice A0 d.length c0, .int .i64 m] 31)) :: F)) → wx.cell? ⟨w.heap.size, 1, none⟩ = some (.int .u64 a) ∧ wx.cell? ⟨w.heap.size, 3, none⟩ = some (.int .i64 m)) := Lib.hid (fun wx X F h => ⟨h.right.hcell 1, h.right.hcell 3⟩)
  obtain ⟨q1, q3⟩ := HB.out _ ((b, .cells #[.int .i64 size, .slice Ap P.length cp] 76) :: Hp) Fr (by simpa using hH1)
  have HOUT : Hid (∀ (v : Bool) (wx : World), Holds wx ((b, .cells #[.int .i64 size, .slice Ap P.length cp] 76) :: (Hp ++ ((w.heap.size, (.cells #[.int .i64 k6, .int .u64 a, .slice A0 d.length c0, .int .i64 m] 31)) :: Fr))) → Grew w wx → RetR18 b size P (.bool v) w Hp Fr (.returned (.bool v)) wx) := Lib.hid (fun v wx h hg => by
    have h2 : Holds wx (((b, .cells #[.int .i64 size, .slice Ap P.length cp] 76) :: Hp) ++ ([(w.heap.size, (.cells #[.int .i64 k6, .int .u64 a, .slice A0 d.length c0, .int .i64 m] 31))] ++ Fr)) := h
    exact ⟨rfl, _, [], HL0.out, h2.mid, hg⟩)
  clear hE hE2 hs hd hz hH
  by_cases hmz : m < (z.length : Int)
  case pos =>
    have HR := Lib.hid (listP_many (P := P) (o := ⟨k6, a, d, m⟩) (z := z) hmz)
    go_enter Try.func46, Try.ntmps46
    go_wp2_with fail
    go_ret
    rw [HR.out]
    exact HOUT.out false _ hH1 hg1
  have HMZ : Hid ((z.length : Int) ≤ m) := Lib.hid (by omega)
  go_enter Try.func46, Try.ntmps46
  go_wp2_with fail
  generalize w.alloc (.cells #[.int .i64 k6, .int .u64 a, .slice A0 d.length c0, .int .i64 m] 31) = w1 at *
  generalize w.heap.size = g at *
  generalize (Obj.cells #[.int .i64 k6, .int .u64 a, .slice A0 d.length c0, .int .i64 m] 31) = ob at *
  clear q1 q3 hmz
  go_loopw [7] (fun i wr => ListR1 P a z w ((b, .cells #[.int .i64 size, .slice Ap P.length cp] 76) :: (Hp ++ ((g, ob) :: Fr))) i wr) (fun i _ => z.length - (intOf i).toNat)
  case atStart => exact ⟨0, rfl, by omega, by simp, hH1, hg1⟩
  case round =>
    clear hH1 hg1
    obtain ⟨k, rfl, hk, hpre, hHr, hgr⟩ := hrel
    have HPRE := Lib.hid hpre
    have HHR := Lib.hid hHr
    clear hpre
    by_cases hlt : k < z.length
    · obtain ⟨_, A', c', hv, hzc1, hzc2, hcz⟩ := HZ.out wr hHr.tail.left
      injection hv with e1 e2 e3
      subst e1 e3
      unfold maxLen at hzc2
      obtain ⟨b1, o1, rfl, hcl⟩ := hcz (by omega)
      have HCZ : Hid (∀ (wx : World) (F : HL), Holds wx (Hp ++ F) → wx.cell? ⟨b1, o1 + k, none⟩ = some (.int .u64 z[k]) ∧ (0 < k → wx.cell? ⟨b1, o1 + (k - 1), none⟩ = some (.int .u64 z[k - 1]!))) := Lib.hid (fun wx F hx => by
        obtain ⟨_, A', c', hv, _, _, hcz⟩ := HZ.out wx hx.left
        injection hv with e1 e2 e3
        obtain ⟨b2, o2, h1, hcl⟩ := hcz (by omega)
        rw [← e1] at h1
        injection h1 with h1
        injection h1 with h1 h2
        subst h1 h2
        exact ⟨hcl k _ (by simp [hlt]), fun h0 => hcl (k - 1) _ (by simp [show k - 1 < z.length by omega])⟩)
      obtain ⟨c1, _⟩ := HCZ.out wr _ hHr.tail
      have HNO := Lib.hid (condR_no (P := P) (a0 := a) hlt)
      have HLO := Lib.hid (condR_lo (P := P) (a0 := a) hlt)
      have HDN := Lib.hid (condR_dn (P := P) (a0 := a) hlt)
      have HYE := Lib.hid (condR_yes (P := P) (a0 := a) hlt)
      have HZK : Hid (0 < k → z[k - 1]'(by omega) = z[k - 1]!) := Lib.hid (fun h0 => (getElem!_pos z (k - 1) (by omega)).symm)
      have HFA : Hid (condR P a z k = false → listP P ⟨k6, a, d, m⟩ z = (false, P)) := Lib.hid (fun h => listP_cond (o := ⟨k6, a, d, m⟩) hlt h)
      generalize hy : z[k] = y at *
      have HAT := Lib.hid (HSL.out.at_ y)
      have HC1 := Lib.hid (HATC.out y wr _ hHr)
      generalize atP P y = p at *
      obtain ⟨pa, pn, pl⟩ := p
      dsimp only [PV.agg] at *
      clear hcl hcz hHr hy
      go_wp2_with fail
      refine HC1.out.mono ?_
      rintro e w2 ⟨lv, rfl, hf2, hH2, hg2⟩
      dsimp only at hf2
      have HDC := Lib.hid (r18dirties_any ⟨pa, pn, pl⟩ lv Hp ((b, .cells #[.int .i64 size, .slice Ap P.length cp] 76) :: ((g, ob) :: Fr)) w2 hf2 (by have := HAT.out.1; dsimp only; omega) (by
        have h : Holds w2 (Hp ++ ((b, .cells #[.int .i64 size, .slice Ap P.length cp] 76) :: ((g, ob) :: Fr))) := hH2.sub (by (repeat' (first | refine sub_append ?_ ?_ | refine sub_cons ?_ ?_ | exact sub_nil)); all_goals first | (intro p hp; simp only [List.mem_append, List.mem_cons, hp, true_or, or_true]) | simp only [List.mem_append, List.mem_cons, true_or, or_true]) (fun b => by simp only [keyc_append, keyc_cons, keyc_nil]; omega)
        exact h))
      dsimp only [PV.agg] at HDC
      obtain ⟨Al, cl, hlv, _, _⟩ := hf2.sl hH2.tail
      subst hlv
      clear hf2 hH2 HC1 c1
      go_wp2_with fail
      refine HDC.out.mono ?_
      rintro e w3 ⟨l1, l2, Hn, rfl, hf1, hf2, hH3, hg3⟩
      obtain ⟨A1, c1x, hv1, _, _⟩ := hf1.sl hH3
      obtain ⟨A2, c2, hv2, _, _⟩ := hf2.sl hH3
      subst hv1 hv2
      generalize hdn : (dirtyF pl).length = dn at *
      generalize hcn : (cleanF pl).length = cn at *
      have hH4 : Holds (w3.alloc (.cells #[.int .u64 pa, .bool pn, .slice A2 cn c2] 79)) ((b, .cells #[.int .i64 size, .slice Ap P.length cp] 76) :: (Hp ++ ((g, ob) :: Fr))) := by
        have h : Holds w3 (Hn ++ ((b, .cells #[.int .i64 size, .slice Ap P.length cp] 76) :: (Hp ++ ((g, ob) :: Fr)))) := hH3.sub (by (repeat' (first | refine sub_append ?_ ?_ | refine sub_cons ?_ ?_ | exact sub_nil)); all_goals first | (intro p hp; simp only [List.mem_append, List.mem_cons, hp, true_or, or_true]) | simp only [List.mem_append, List.mem_cons, true_or, or_true]) (fun b => by simp only [keyc_append, keyc_cons, keyc_nil]; omega)
        exact h.right.alloc' _
      have hg4 := ((hgr.trans hg2).trans hg3).alloc (.cells #[.int .u64 pa, .bool pn, .slice A2 cn c2] 79)
      obtain ⟨q1, q3⟩ := HB.out (w3.alloc (.cells #[.int .u64 pa, .bool pn, .slice A2 cn c2] 79)) ((b, .cells #[.int .i64 size, .slice Ap P.length cp] 76) :: Hp) Fr (by simpa using hH4)
      obtain ⟨c1, c1x2⟩ := HCZ.out _ _ hH4.tail
      clear hf1 hf2 hH3 hg2 hg3 hgr HDC hdn hcn
      have HH4 := Lib.hid hH4
      go_upto_region 7 with fail
      generalize w3.alloc (.cells #[.int .u64 pa, .bool pn, .slice A2 cn c2] 79) = w4 at *
      clear hH4
      by_cases hd0 : dn = 0
      · have hd0i : (dn : Int) = 0 := by omega
        have HR := Lib.hid (HFA.out (HNO.out hd0))
        clear HNO HLO HDN HYE
        go_wp2_with fail
        go_quiet (fail)
        go_wp2_with fail
        go_ret
        rw [HR.out]
        exact HOUT.out false _ (HH4.out.drewN nq) (hg4.drewN nq)
      have hd1 : ¬ (dn : Int) = 0 := by omega
      have ed : ((dn : Int) == 0) = false := by simpa using hd0
      by_cases hya : y < a
      · have hyd : decide (y < a) = true := decide_eq_true hya
        have HR := Lib.hid (HFA.out (HLO.out hya))
        clear HNO HLO HDN HYE
        go_wp2_with fail
        go_quiet (fail)
        go_wp2_with fail
        go_ret
        rw [HR.out]
        exact HOUT.out false _ (HH4.out.drewN nq) (hg4.drewN nq)
      have hyd : decide (y < a) = false := decide_eq_false hya
      by_cases hk0 : k = 0
      · subst hk0
        have c1z : w4.cell? ⟨b1, o1, none⟩ = some (.int .u64 y) := c1
        clear c1 c1x2
        have HT := Lib.hid (HYE.out hd0 (by omega) (.inl rfl))
        clear HNO HLO HDN HYE HFA
        go_wp2_with fail
        go_quiet (fail)
        go_wp2_with fail
        go_roundw
        case rel =>
          refine ⟨0 + 1, by go_num, by omega, fun j hj => ?_, HH4.out.drewN nq, hg4.drewN nq⟩
          rcases Nat.lt_or_ge j 0 with h | h
          · exact HPRE.out j h
          · have : j = 0 := by omega
            subst this
            exact HT.out
        case measure => simp [intOf]; omega
      · have c0' := c1x2 (by omega)
        have hki : (0 : Int) < k := by omega
        have hkd : decide ((0 : Int) < (k : Int)) = true := decide_eq_true hki
        have hkp : 0 < k := by omega
        have hkd2 : decide (0 < k) = true := decide_eq_true hkp
        have hkw : IntKind.i64.wrap ((k : Int) - 1) = ((k - 1 : Nat) : Int) := by simp [IntKind.wrap, IntKind.signed, IntKind.bits]; omega
        have hkn : (k : Int) - 1 = ((k - 1 : Nat) : Int) := by omega
        have HZ1 := Lib.hid (HZK.out (by omega))
        clear c1x2
        by_cases hyp : y ≤ z[k - 1]!
        · have HCF := Lib.hid (HDN.out (by omega) (by rw [HZ1.out]; exact hyp))
          have hypd : decide (y ≤ z[k - 1]!) = true := decide_eq_true hyp
          generalize z[k - 1]! = y0 at *
          have HR := Lib.hid (HFA.out (HCF.out))
          clear HNO HLO HDN HYE
          go_wp2_with fail
          go_quiet (fail)
          go_wp2_with fail
          go_ret
          rw [HR.out]
          exact HOUT.out false _ (HH4.out.drewN nq) (hg4.drewN nq)
        · have HCT := Lib.hid (HYE.out hd0 (by omega) (.inr (by rw [HZ1.out]; omega)))
          have hypd : decide (y ≤ z[k - 1]!) = false := decide_eq_false hyp
          generalize z[k - 1]! = y0 at *
          have HT := Lib.hid (HCT.out)
          clear HNO HLO HDN HYE HFA
          go_wp2_with fail
          go_quiet (fail)
          go_wp2_with fail
          go_roundw
          case rel =>
            refine ⟨k + 1, by go_num, by omega, fun j hj => ?_, HH4.out.drewN nq, hg4.drewN nq⟩
            rcases Nat.lt_or_ge j k with h | h
            · exact HPRE.out j h
            · have : j = k := by omega
              subst this
              exact HT.out
          case measure => simp [intOf]; omega
    · have hk2 : k = z.length := by omega
      subst hk2
      have HALL := HPRE
      obtain ⟨q1, q3⟩ := HB.out wr ((b, .cells #[.int .i64 size, .slice Ap P.length cp] 76) :: Hp) Fr (by simpa using hHr)
      have HLT : Hid (0 < z.length → ∃ b1 o1, A = some ⟨b1, o1, none⟩ ∧ ∀ (wx : World) (F : HL), Holds wx (Hp ++ F) → wx.cell? ⟨b1, o1 + (z.length - 1), none⟩ = some (.int .u64 (z.getLast?.getD 0))) := Lib.hid (fun h0 => by
        obtain ⟨_, A', c', hv, hzc1, hzc2, hcz⟩ := HZ.out wr hHr.tail.left
        injection hv with e1 e2 e3
        obtain ⟨b1, o1, hA, hcl⟩ := hcz h0
        refine ⟨b1, o1, e1.trans hA, fun wx F hx => ?_⟩
        obtain ⟨_, A2, c2, hv2, _, _, hcz2⟩ := HZ.out wx hx.left
        injection hv2 with f1 f2 f3
        obtain ⟨b2, o2, h1, hcl2⟩ := hcz2 h0
        rw [← f1, e1, hA] at h1
        injection h1 with h1
        injection h1 with h1 h2
        subst h1 h2
        have hlast : z.getLast? = some (z[z.length - 1]'(by omega)) := by rw [List.getLast?_eq_getElem?, List.getElem?_eq_getElem (by omega)]
        refine hcl2 _ _ ?_
        rw [List.getElem?_map, List.getElem?_eq_getElem (by omega), hlast]
        rfl)
      have HL0Z : Hid (z.length = 0 → z.getLast?.getD 0 = 0) := Lib.hid (fun h => by rw [List.eq_nil_of_length_eq_zero h]; rfl)
      have HZL : Hid (z.length ≤ 9223372036854775807) := Lib.hid (by
        obtain ⟨_, A', c', hv, hzc1, hzc2, _⟩ := HZ.out wr hHr.tail.left
        unfold maxLen at hzc2
        omega)
      have HZW : Hid (∀ (wx : World) (F : HL), Holds wx (Hp ++ F) → WsAt wx (.slice A z.length c) z) := Lib.hid (fun wx F h => HZ.out wx h.left)
      have HRY := Lib.hid (listP_yes (P := P) (o := ⟨k6, a, d, m⟩) (z := z) HMZ.out HALL.out)
      clear HPRE hk hlt hHr HALL
      generalize hzn0 : z.length = zn at *
      have HZN := Lib.hid hzn0
      clear hzn0
      go_wp2_with fail
      go_quiet (fail)
      have hH2 := HHR.out.drewN nq
      have hg2 := hgr.drewN nq
      generalize wr.drewN nq = w2 at *
      clear q1 q3 hgr
      generalize hzl0 : z.getLast?.getD 0 = zl at *
      have HZLD := Lib.hid hzl0
      clear hzl0
      go_upto_if 74 with fail
      go_cut [10] (fun s10 wx => s10 = .int .u64 zl ∧ Holds wx ((b, .cells #[.int .i64 size, .slice Ap P.length cp] 76) :: (Hp ++ ((g, ob) :: Fr))) ∧ Grew w wx)
      case first =>
        by_cases hz0 : zn = 0
        · have e := HL0Z.out hz0
          subst e
          have HH2 := Lib.hid hH2
          obtain ⟨t, ht1, ht2⟩ : ∃ t : Int, (zn : Int) ≤ t ∧ t < 1 := ⟨0, by omega, by omega⟩
          clear hH2 hz0
          go_wp2_with fail
          go_meet
          exact ⟨rfl, HH2.out, hg2⟩
        · obtain ⟨b1, o1, rfl, hcl⟩ := HLT.out (by omega)
          have c1 := hcl w2 _ hH2.tail
          have hzi : (0 : Int) < zn := by omega
          have hzn : (zn : Int) - 1 = ((zn - 1 : Nat) : Int) := by omega
          have hzl := HZL.out
          have hzw : wrap64 ((zn : Int) - 1) = ((zn - 1 : Nat) : Int) := by unfold wrap64; omega
          have hzlt : zn - 1 < zn := by omega
          have HH2 := Lib.hid hH2
          clear hcl hH2
          go_wp2_with fail
          go_meet
          exact ⟨rfl, HH2.out, hg2⟩
      case rest =>
        obtain ⟨rfl, hH3, hg3⟩ := hcut
        clear hH2 hg2
        have HBX : Hid (∀ (wx : World) (X Y : HL), Holds wx (X ++ ((b, .cells #[.int .i64 size, .slice Ap P.length cp] 76) :: ((Y ++ Hp) ++ ((g, ob) :: Fr)))) → wx.cell? ⟨g, 1, none⟩ = some (.int .u64 a) ∧ wx.cell? ⟨g, 3, none⟩ = some (.int .i64 m) ∧ wx.cell? ⟨b, 1, none⟩ = some (.slice Ap P.length cp)) := Lib.hid (fun wx X Y h => by
          obtain ⟨h1, h2⟩ := HB.out wx (X ++ ((b, .cells #[.int .i64 size, .slice Ap P.length cp] 76) :: (Y ++ Hp))) Fr (by simpa using h)
          exact ⟨h1, h2, h.right.hcell 1⟩)
        by_cases hzm : (zn : Int) < m
        · have hzd : decide ((zn : Int) < m) = true := decide_eq_true hzm
          rw [hzd]
          go_wp2_with fail
          go_loopw [12, 13] (fun out i wr => ListR2 P a m z Hp w (b, .cells #[.int .i64 size, .slice Ap P.length cp] 76) ((g, ob) :: Fr) out i wr) (fun _ i _ => P.length - (intOf i).toNat)
          case atStart => exact ⟨0, [], [], [], rfl, by omega, by simp, rfl, IsRow.nil _ _, (fun e he => by cases he), hH3, hg3⟩
          case round =>
            clear hH3 hg3
            obtain ⟨k, Eo, Ho, Hn, rfl, hk, hpass, hEo, hrow, hfe, hHr, hgr⟩ := hrel
            have HPASS := Lib.hid hpass
            have HEO := Lib.hid hEo
            have HROW := Lib.hid hrow
            have HFE := Lib.hid hfe
            obtain ⟨Ao, co, hov⟩ := hrow.val
            subst hov
            have HEL : Hid (Eo.length ≤ 5000) := Lib.hid (by
              have h1 := picksR_len (a0 := a) (m := m) (z := z) (P := P.take k)
              rw [← hEo, List.length_map, List.length_take] at h1
              omega)
            clear hpass hEo hrow hfe
            obtain ⟨q1, q3, q4⟩ := HBX.out wr Ho Hn hHr
            by_cases hlt : k < P.length
            · have hkE : k < E.length := by omega
              obtain ⟨b1, o, c', hv, hc1, hc2, hcl⟩ := HCE.out.get (w := wr) hHr.right.tail.assoc.right k hkE
              rw [hlen] at hv
              injection hv with e1 e2 e3
              subst e1 e3
              clear e2
              have hLk : E[k].2 = P[k] := by
                have : (E.map (·.2))[k]'(by simpa using hkE) = P[k] := by simp only [HLE.out]
                simpa using this
              have hfb := HCE.out.2 E[k] (List.getElem_mem hkE)
              rw [hLk] at hfb hcl
              have HFB := Lib.hid hfb
              have HPL := Lib.hid (HSL.out.2 P[k] (List.getElem_mem hlt))
              obtain ⟨Ax, cx, hxv, _, _⟩ := hfb.sl hHr.right.tail.assoc.right
              rw [hxv] at HFB hcl
              have HPM := Lib.hid (List.getElem_mem hlt)
              have HSN := Lib.hid (picksR_snoc (a0 := a) (m := m) (z := z) hlt)
              have HTK := Lib.hid (List.take_succ_eq_append_getElem hlt)
              obtain ⟨c0, c1, c2⟩ := hcl wr _ hHr.right.tail.assoc.right
              generalize P[k] = X at *
              obtain ⟨xa, xn, xl⟩ := X
              dsimp only at c0 c1 c2 HFB HPL HSN
              generalize hlx : xl.length = lx at *
              have HLX := Lib.hid hlx
              clear hcl hfb hxv hLk hlx
              have hHX : Holds (wr.alloc (.cells #[.int .u64 xa, .bool xn, .slice Ax lx cx] 79)) ((Ho ++ [(wr.heap.size, (.cells #[.int .u64 xa, .bool xn, .slice Ax lx cx] 79))]) ++ ((b, .cells #[.int .i64 size, .slice (some ⟨b1, o, none⟩) P.length cp] 76) :: ((Hn ++ Hp) ++ ((g, ob) :: Fr)))) := (hHr.alloc (.cells #[.int .u64 xa, .bool xn, .slice Ax lx cx] 79)).sub (by (repeat' (first | refine sub_append ?_ ?_ | refine sub_cons ?_ ?_ | exact sub_nil)); all_goals first | (intro p hp; simp only [List.mem_append, List.mem_cons, hp, true_or, or_true]) | simp only [List.mem_append, List.mem_cons, true_or, or_true]) (fun b => by simp only [keyc_append, keyc_cons, keyc_nil]; omega)
              have hgx := hgr.alloc (.cells #[.int .u64 xa, .bool xn, .slice Ax lx cx] 79)
              have HHX := Lib.hid hHX
              obtain ⟨q1, q3, q4⟩ := HBX.out (wr.alloc (.cells #[.int .u64 xa, .bool xn, .slice Ax lx cx] 79)) _ Hn hHX
              have HSKIP : Hid (withinB a m z xa = false → ∀ wx, Holds wx ((Ho ++ [(wr.heap.size, (.cells #[.int .u64 xa, .bool xn, .slice Ax lx cx] 79))]) ++ ((b, .cells #[.int .i64 size, .slice (some ⟨b1, o, none⟩) P.length cp] 76) :: ((Hn ++ Hp) ++ ((g, ob) :: Fr)))) → Grew w wx → ListR2 P a m z Hp w (b, .cells #[.int .i64 size, .slice (some ⟨b1, o, none⟩) P.length cp] 76) ((g, ob) :: Fr) (.slice Ao Eo.length co) (.int .i64 ((k : Int) + 1)) wx) := Lib.hid (fun hw wx hx hg => by
                refine ⟨k + 1, Eo, Ho, Hn, by go_num, by omega, fun p hp hwp => ?_, by rw [HSN.out, hw]; simpa using HEO.out, HROW.out, HFE.out, ?_, hg⟩
                · rw [HTK.out] at hp
                  rcases List.mem_append.1 hp with hp | hp
                  · exact HPASS.out p hp hwp
                  · rw [List.mem_singleton.1 hp] at hwp
                    rw [hw] at hwp
                    cases hwp
                · have h : Holds wx (Ho ++ ([(wr.heap.size, (.cells #[.int .u64 xa, .bool xn, .slice Ax lx cx] 79))] ++ ((b, .cells #[.int .i64 size, .slice (some ⟨b1, o, none⟩) P.length cp] 76) :: ((Hn ++ Hp) ++ ((g, ob) :: Fr))))) := by simpa using hx
                  exact h.mid)
              have HIN : Hid True := Lib.hid trivial
              have HDC := Lib.hid (r18dirties_any ⟨xa, xn, xl⟩ (.slice Ax lx cx) (Hn ++ Hp) (((g, ob) :: Fr) ++ ((Ho ++ [(wr.heap.size, (.cells #[.int .u64 xa, .bool xn, .slice Ax lx cx] 79))]) ++ [(b, .cells #[.int .i64 size, .slice (some ⟨b1, o, none⟩) P.length cp] 76)])) (wr.alloc (.cells #[.int .u64 xa, .bool xn, .slice Ax lx cx] 79)) HFB.out.more (by have h1 := HPL.out.1; have h2 := HLX.out; dsimp only; omega) (by
                have h : Holds (wr.alloc (.cells #[.int .u64 xa, .bool xn, .slice Ax lx cx] 79)) ((Hn ++ Hp) ++ (((g, ob) :: Fr) ++ ((Ho ++ [(wr.heap.size, (.cells #[.int .u64 xa, .bool xn, .slice Ax lx cx] 79))]) ++ [(b, .cells #[.int .i64 size, .slice (some ⟨b1, o, none⟩) P.length cp] 76)]))) := hHX.sub (by (repeat' (first | refine sub_append ?_ ?_ | refine sub_cons ?_ ?_ | exact sub_nil)); all_goals first | (intro p hp; simp only [List.mem_append, List.mem_cons, hp, true_or, or_true]) | simp only [List.mem_append, List.mem_cons, true_or, or_true]) (fun b => by simp only [keyc_append, keyc_cons, keyc_nil]; omega)
                exact h))
              dsimp only [PV.agg] at HDC
              clear hHX hHr hgr
              by_cases hxa : xa < a
              · have hxd : decide (xa < a) = true := decide_eq_true hxa
                have HFIN := Lib.hid (HSKIP.out (within_lo hxa) (wr.alloc (.cells #[.int .u64 xa, .bool xn, .slice Ax lx cx] 79)) HHX.out hgx)
                clear HSKIP HIN
                go_wp2_with fail
                go_roundw
                case rel => exact HFIN.out
                case measure => simp [intOf]; omega
              have hxd : decide (xa < a) = false := decide_eq_false hxa
              have HWI := Lib.hid (within_all (a := a) (m := m) (z := z) (x := xa) (by omega) (by rw [HZN.out]; omega))
              clear HSKIP
              go_wp2_with fail
              refine HDC.out.mono ?_
              generalize wr.heap.size = g14 at *
              rintro e w3 ⟨l1, l2, Hd, rfl, hf1, hf2, hH5, hg5⟩
              obtain ⟨A1, c1y, hv1, _, _⟩ := hf1.sl hH5
              obtain ⟨A2, c2y, hv2, _, _⟩ := hf2.sl hH5
              subst hv1 hv2
              have HS0 := Lib.hid (show stepR z ⟨xa, xn, xl⟩ = if z.contains xa then some ⟨xa, false, dirtyF xl⟩ else if (cleanF xl).length = 0 ∧ xn = false then none else some ⟨xa, xn, cleanF xl⟩ from rfl)
              generalize hdn : (dirtyF xl).length = dn at *
              generalize hcn : (cleanF xl).length = cn at *
              have HF1 := Lib.hid hf1
              have HF2 := Lib.hid hf2
              have hH6 : Holds (w3.alloc (.cells #[.int .u64 xa, .bool xn, .slice A2 cn c2y] 79)) (Ho ++ (([(g14, (.cells #[.int .u64 xa, .bool xn, .slice Ax lx cx] 79)), (w3.heap.size, (.cells #[.int .u64 xa, .bool xn, .slice A2 cn c2y] 79))] ++ [(b, .cells #[.int .i64 size, .slice (some ⟨b1, o, none⟩) P.length cp] 76)]) ++ (((Hd ++ Hn) ++ Hp) ++ ((g, ob) :: Fr)))) := (hH5.alloc (.cells #[.int .u64 xa, .bool xn, .slice A2 cn c2y] 79)).sub (by (repeat' (first | refine sub_append ?_ ?_ | refine sub_cons ?_ ?_ | exact sub_nil)); all_goals first | (intro p hp; simp only [List.mem_append, List.mem_cons, hp, true_or, or_true]) | simp only [List.mem_append, List.mem_cons, true_or, or_true]) (fun b => by simp only [keyc_append, keyc_cons, keyc_nil]; omega)
              have hg6 := (hgx.trans hg5).alloc (.cells #[.int .u64 xa, .bool xn, .slice A2 cn c2y] 79)
              have HHC := Lib.hid (r18has_any (.slice A zn c) z xa (w3.alloc (.cells #[.int .u64 xa, .bool xn, .slice A2 cn c2y] 79)) (HZW.out _ ((g, ob) :: Fr) (by
                have h : Holds (w3.alloc (.cells #[.int .u64 xa, .bool xn, .slice A2 cn c2y] 79)) ((Ho ++ (([(g14, (.cells #[.int .u64 xa, .bool xn, .slice Ax lx cx] 79)), (w3.heap.size, (.cells #[.int .u64 xa, .bool xn, .slice A2 cn c2y] 79))] ++ [(b, .cells #[.int .i64 size, .slice (some ⟨b1, o, none⟩) P.length cp] 76)]) ++ (Hd ++ Hn))) ++ (Hp ++ ((g, ob) :: Fr))) := by simpa using hH6
                exact h.right)))
              have HBY : Hid (∀ (wx : World) (g16 : Nat) (X : HL), Holds wx (X ++ (([(g14, (.cells #[.int .u64 xa, .bool xn, .slice Ax lx cx] 79)), (g16, (.cells #[.int .u64 xa, .bool xn, .slice A2 cn c2y] 79))] ++ [(b, .cells #[.int .i64 size, .slice (some ⟨b1, o, none⟩) P.length cp] 76)]) ++ (((Hd ++ Hn) ++ Hp) ++ ((g, ob) :: Fr)))) → wx.cell? ⟨g14, 0, none⟩ = some (.int .u64 xa) ∧ (wx.cell? ⟨g16, 0, none⟩ = some (.int .u64 xa) ∧ wx.cell? ⟨g16, 1, none⟩ = some (.bool xn) ∧ wx.cell? ⟨g16, 2, none⟩ = some (.slice A2 cn c2y))) := Lib.hid (fun wx g16 X h => by
                have h2 := h.right
                exact ⟨h2.hcell 0, h2.tail.hcell 0, h2.tail.hcell 1, h2.tail.hcell 2⟩)
              obtain ⟨r0, r1, r2, r3⟩ := HBY.out _ _ _ hH6
              have HOUT2 : Hid (∀ (wx : World) (g16 : Nat), Holds wx (Ho ++ (([(g14, (.cells #[.int .u64 xa, .bool xn, .slice Ax lx cx] 79)), (g16, (.cells #[.int .u64 xa, .bool xn, .slice A2 cn c2y] 79))] ++ [(b, .cells #[.int .i64 size, .slice (some ⟨b1, o, none⟩) P.length cp] 76)]) ++ (((Hd ++ Hn) ++ Hp) ++ ((g, ob) :: Fr)))) → Holds wx ((b, .cells #[.int .i64 size, .slice (some ⟨b1, o, none⟩) P.length cp] 76) :: (Hp ++ ((g, ob) :: Fr)))) := Lib.hid (fun wx g16 h => by
                have h2 : Holds wx ((Ho ++ [(g14, (.cells #[.int .u64 xa, .bool xn, .slice Ax lx cx] 79)), (g16, (.cells #[.int .u64 xa, .bool xn, .slice A2 cn c2y] 79))]) ++ ([(b, .cells #[.int .i64 size, .slice (some ⟨b1, o, none⟩) P.length cp] 76)] ++ ((Hd ++ Hn) ++ (Hp ++ ((g, ob) :: Fr))))) := by simpa using h
                exact Holds.mid (A := [(b, .cells #[.int .i64 size, .slice (some ⟨b1, o, none⟩) P.length cp] 76)]) (B := Hd ++ Hn) h2.right)
              have HPM2 : Hid (withinB a m z xa = true → stepR z ⟨xa, xn, xl⟩ = none → listP P ⟨k6, a, d, m⟩ z = (false, P)) := Lib.hid (fun h1 h2 => listP_step (o := ⟨k6, a, d, m⟩) HPM.out h1 h2)
              clear hf1 hf2 hH5 hg5 HDC hdn hcn q1 q3 q4 c0 c1 c2
              go_wp2_with fail
              refine HHC.out.mono ?_
              generalize w3.alloc (.cells #[.int .u64 xa, .bool xn, .slice A2 cn c2y] 79) = wq at *
              generalize w3.heap.size = g16 at *
              rintro e w4 ⟨rfl, rfl⟩
              clear HHC
              generalize z.contains xa = zc at *
              cases zc with
              | true =>
                have HS := Lib.hid (HS0.out.trans (if_pos rfl))
                clear HS0
                have hs1 : Holds (wq.alloc (.cells #[.int .u64 xa, .bool false, .slice A1 dn c1y] 79)) (Ho ++ ((wq.heap.size, (.cells #[.int .u64 xa, .bool false, .slice A1 dn c1y] 79)) :: (([(g14, (.cells #[.int .u64 xa, .bool xn, .slice Ax lx cx] 79)), (g16, (.cells #[.int .u64 xa, .bool xn, .slice A2 cn c2y] 79))] ++ [(b, .cells #[.int .i64 size, .slice (some ⟨b1, o, none⟩) P.length cp] 76)]) ++ (((Hd ++ Hn) ++ Hp) ++ ((g, ob) :: Fr))))) := (hH6.alloc (.cells #[.int .u64 xa, .bool false, .slice A1 dn c1y] 79)).sub (by (repeat' (first | refine sub_append ?_ ?_ | refine sub_cons ?_ ?_ | exact sub_nil)); all_goals first | (intro p hp; simp only [List.mem_append, List.mem_cons, hp, true_or, or_true]) | simp only [List.mem_append, List.mem_cons, true_or, or_true]) (fun b => by simp only [keyc_append, keyc_cons, keyc_nil]; omega)
                have hg7 := hg6.alloc (.cells #[.int .u64 xa, .bool false, .slice A1 dn c1y] 79)
                have HSRC := Lib.hid (ReadsAt.of_block (n := 1) (c := 1) (o := 0) (size := 3) (hs1.get (b := wq.heap.size) (o := (.cells #[.int .u64 xa, .bool false, .slice A1 dn c1y] 79)) (by simp)) [.int .u64 xa, .bool false, .slice A1 dn c1y] rfl (by omega) (by simp [maxLen]) (by intro j u hu; simpa using hu))
                have hel := HEL.out
                clear hH6
                go_wp2_with (at_builtin; refine wpList_append_T tPlaces (by rfl) (.tmp 126) (.tmp 131) (by rfl) (by rfl) (by rfl) HROW.out hs1 HSRC.out (by simp [Value.oneCell']) (by simp [maxLen]; omega) (by omega) ?_; intro A' c' w' H' hrow6 hH7 hg8)
                have HFIN := Lib.hid (show ListR2 P a m z Hp w (b, .cells #[.int .i64 size, .slice (some ⟨b1, o, none⟩) P.length cp] 76) ((g, ob) :: Fr) (.slice A' (Eo.length + 1) c') (.int .i64 ((k : Int) + 1)) w' from ⟨k + 1, Eo ++ [(.slice A1 dn c1y, ⟨xa, false, dirtyF xl⟩)], H', Hd ++ Hn, by go_num, by omega, fun p hp hwp => by
                  rw [HTK.out] at hp
                  rcases List.mem_append.1 hp with hp | hp
                  · exact HPASS.out p hp hwp
                  · rw [List.mem_singleton.1 hp, HS.out]; rfl, by rw [HSN.out, HWI.out, if_pos rfl, HS.out, List.map_append, HEO.out]; rfl, by rw [List.length_append, peC_append]; exact hrow6, fun e he => by
                  rw [List.append_assoc]
                  rcases List.mem_append.1 he with he | he
                  · exact (HFE.out e he).more
                  · rw [List.mem_singleton.1 he]; exact HF1.out, by
                  have h2 : Holds w' (H' ++ (([(g14, (.cells #[.int .u64 xa, .bool xn, .slice Ax lx cx] 79)), (g16, (.cells #[.int .u64 xa, .bool xn, .slice A2 cn c2y] 79))] ++ [(b, .cells #[.int .i64 size, .slice (some ⟨b1, o, none⟩) P.length cp] 76)]) ++ (((Hd ++ Hn) ++ Hp) ++ ((g, ob) :: Fr)))) := Holds.mid (B := [_]) hH7
                  have h3 : Holds w' (H' ++ ([(g14, (.cells #[.int .u64 xa, .bool xn, .slice Ax lx cx] 79)), (g16, (.cells #[.int .u64 xa, .bool xn, .slice A2 cn c2y] 79))] ++ ((b, .cells #[.int .i64 size, .slice (some ⟨b1, o, none⟩) P.length cp] 76) :: (((Hd ++ Hn) ++ Hp) ++ ((g, ob) :: Fr))))) := by simpa using h2
                  exact h3.mid, hg7.trans hg8⟩)
                clear hrow6 hH7 hg8 hg7 hs1
                go_wp2_with fail
                go_roundw
                case rel => exact HFIN.out
                case measure => simp [intOf]; omega
              | false =>
                by_cases hc0 : cn = 0
                · have hce : ((cn : Int) == 0) = true := by simpa using hc0
                  cases xn with
                  | false =>
                    have HS := Lib.hid (HS0.out.trans (by rw [if_neg (by decide), if_pos ⟨hc0, rfl⟩]))
                    have HR := Lib.hid (HPM2.out HWI.out HS.out)
                    have HH6 := Lib.hid hH6
                    clear HS0 hH6 hc0
                    go_wp2_with fail
                    go_ret
                    rw [HR.out]
                    exact HOUT.out false _ (HOUT2.out _ _ HH6.out) hg6
                  | true =>
                    have HS := Lib.hid (HS0.out.trans (by rw [if_neg (by decide), if_neg (fun h => by cases h.2)]))
                    clear HS0 hc0
                    have hs1 : Holds (wq.alloc (.cells #[.int .u64 xa, .bool true, .slice A2 cn c2y] 79)) (Ho ++ ((wq.heap.size, (.cells #[.int .u64 xa, .bool true, .slice A2 cn c2y] 79)) :: (([(g14, (.cells #[.int .u64 xa, .bool true, .slice Ax lx cx] 79)), (g16, (.cells #[.int .u64 xa, .bool true, .slice A2 cn c2y] 79))] ++ [(b, .cells #[.int .i64 size, .slice (some ⟨b1, o, none⟩) P.length cp] 76)]) ++ (((Hd ++ Hn) ++ Hp) ++ ((g, ob) :: Fr))))) := (hH6.alloc (.cells #[.int .u64 xa, .bool true, .slice A2 cn c2y] 79)).sub (by (repeat' (first | refine sub_append ?_ ?_ | refine sub_cons ?_ ?_ | exact sub_nil)); all_goals first | (intro p hp; simp only [List.mem_append, List.mem_cons, hp, true_or, or_true]) | simp only [List.mem_append, List.mem_cons, true_or, or_true]) (fun b => by simp only [keyc_append, keyc_cons, keyc_nil]; omega)
                    have hg7 := hg6.alloc (.cells #[.int .u64 xa, .bool true, .slice A2 cn c2y] 79)
                    have HSRC := Lib.hid (ReadsAt.of_block (n := 1) (c := 1) (o := 0) (size := 3) (hs1.get (b := wq.heap.size) (o := (.cells #[.int .u64 xa, .bool true, .slice A2 cn c2y] 79)) (by simp)) [.int .u64 xa, .bool true, .slice A2 cn c2y] rfl (by omega) (by simp [maxLen]) (by intro j u hu; simpa using hu))
                    have hel := HEL.out
                    clear hH6
                    go_wp2_with (at_builtin; refine wpList_append_T tPlaces (by rfl) (.tmp 142) (.tmp 144) (by rfl) (by rfl) (by rfl) HROW.out hs1 HSRC.out (by simp [Value.oneCell']) (by simp [maxLen]; omega) (by omega) ?_; intro A' c' w' H' hrow6 hH7 hg8)
                    have HFIN := Lib.hid (show ListR2 P a m z Hp w (b, .cells #[.int .i64 size, .slice (some ⟨b1, o, none⟩) P.length cp] 76) ((g, ob) :: Fr) (.slice A' (Eo.length + 1) c') (.int .i64 ((k : Int) + 1)) w' from ⟨k + 1, Eo ++ [(.slice A2 cn c2y, ⟨xa, true, cleanF xl⟩)], H', Hd ++ Hn, by go_num, by omega, fun p hp hwp => by
                      rw [HTK.out] at hp
                      rcases List.mem_append.1 hp with hp | hp
                      · exact HPASS.out p hp hwp
                      · rw [List.mem_singleton.1 hp, HS.out]; rfl, by rw [HSN.out, HWI.out, if_pos rfl, HS.out, List.map_append, HEO.out]; rfl, by rw [List.length_append, peC_append]; exact hrow6, fun e he => by
                      rw [List.append_assoc]
                      rcases List.mem_append.1 he with he | he
                      · exact (HFE.out e he).more
                      · rw [List.mem_singleton.1 he]; exact HF2.out, by
                      have h2 : Holds w' (H' ++ (([(g14, (.cells #[.int .u64 xa, .bool true, .slice Ax lx cx] 79)), (g16, (.cells #[.int .u64 xa, .bool true, .slice A2 cn c2y] 79))] ++ [(b, .cells #[.int .i64 size, .slice (some ⟨b1, o, none⟩) P.length cp] 76)]) ++ (((Hd ++ Hn) ++ Hp) ++ ((g, ob) :: Fr)))) := Holds.mid (B := [_]) hH7
                      have h3 : Holds w' (H' ++ ([(g14, (.cells #[.int .u64 xa, .bool true, .slice Ax lx cx] 79)), (g16, (.cells #[.int .u64 xa, .bool true, .slice A2 cn c2y] 79))] ++ ((b, .cells #[.int .i64 size, .slice (some ⟨b1, o, none⟩) P.length cp] 76) :: (((Hd ++ Hn) ++ Hp) ++ ((g, ob) :: Fr))))) := by simpa using h2
                      exact h3.mid, hg7.trans hg8⟩)
                    clear hrow6 hH7 hg8 hg7 hs1
                    go_wp2_with fail
                    go_roundw
                    case rel => exact HFIN.out
                    case measure => simp [intOf]; omega
                · have hce : ((cn : Int) == 0) = false := by simpa using hc0
                  have HS := Lib.hid (HS0.out.trans (by rw [if_neg (by decide), if_neg (fun h => hc0 h.1)]))
                  clear HS0 hc0
                  have hs1 : Holds (wq.alloc (.cells #[.int .u64 xa, .bool xn, .slice A2 cn c2y] 79)) (Ho ++ ((wq.heap.size, (.cells #[.int .u64 xa, .bool xn, .slice A2 cn c2y] 79)) :: (([(g14, (.cells #[.int .u64 xa, .bool xn, .slice Ax lx cx] 79)), (g16, (.cells #[.int .u64 xa, .bool xn, .slice A2 cn c2y] 79))] ++ [(b, .cells #[.int .i64 size, .slice (some ⟨b1, o, none⟩) P.length cp] 76)]) ++ (((Hd ++ Hn) ++ Hp) ++ ((g, ob) :: Fr))))) := (hH6.alloc (.cells #[.int .u64 xa, .bool xn, .slice A2 cn c2y] 79)).sub (by (repeat' (first | refine sub_append ?_ ?_ | refine sub_cons ?_ ?_ | exact sub_nil)); all_goals first | (intro p hp; simp only [List.mem_append, List.mem_cons, hp, true_or, or_true]) | simp only [List.mem_append, List.mem_cons, true_or, or_true]) (fun b => by simp only [keyc_append, keyc_cons, keyc_nil]; omega)
                  have hg7 := hg6.alloc (.cells #[.int .u64 xa, .bool xn, .slice A2 cn c2y] 79)
                  have HSRC := Lib.hid (ReadsAt.of_block (n := 1) (c := 1) (o := 0) (size := 3) (hs1.get (b := wq.heap.size) (o := (.cells #[.int .u64 xa, .bool xn, .slice A2 cn c2y] 79)) (by simp)) [.int .u64 xa, .bool xn, .slice A2 cn c2y] rfl (by omega) (by simp [maxLen]) (by intro j u hu; simpa using hu))
                  have hel := HEL.out
                  clear hH6
                  go_wp2_with (at_builtin; refine wpList_append_T tPlaces (by rfl) (.tmp 142) (.tmp 144) (by rfl) (by rfl) (by rfl) HROW.out hs1 HSRC.out (by simp [Value.oneCell']) (by simp [maxLen]; omega) (by omega) ?_; intro A' c' w' H' hrow6 hH7 hg8)
                  have HFIN := Lib.hid (show ListR2 P a m z Hp w (b, .cells #[.int .i64 size, .slice (some ⟨b1, o, none⟩) P.length cp] 76) ((g, ob) :: Fr) (.slice A' (Eo.length + 1) c') (.int .i64 ((k : Int) + 1)) w' from ⟨k + 1, Eo ++ [(.slice A2 cn c2y, ⟨xa, xn, cleanF xl⟩)], H', Hd ++ Hn, by go_num, by omega, fun p hp hwp => by
                    rw [HTK.out] at hp
                    rcases List.mem_append.1 hp with hp | hp
                    · exact HPASS.out p hp hwp
                    · rw [List.mem_singleton.1 hp, HS.out]; rfl, by rw [HSN.out, HWI.out, if_pos rfl, HS.out, List.map_append, HEO.out]; rfl, by rw [List.length_append, peC_append]; exact hrow6, fun e he => by
                    rw [List.append_assoc]
                    rcases List.mem_append.1 he with he | he
                    · exact (HFE.out e he).more
                    · rw [List.mem_singleton.1 he]; exact HF2.out, by
                    have h2 : Holds w' (H' ++ (([(g14, (.cells #[.int .u64 xa, .bool xn, .slice Ax lx cx] 79)), (g16, (.cells #[.int .u64 xa, .bool xn, .slice A2 cn c2y] 79))] ++ [(b, .cells #[.int .i64 size, .slice (some ⟨b1, o, none⟩) P.length cp] 76)]) ++ (((Hd ++ Hn) ++ Hp) ++ ((g, ob) :: Fr)))) := Holds.mid (B := [_]) hH7
                    have h3 : Holds w' (H' ++ ([(g14, (.cells #[.int .u64 xa, .bool xn, .slice Ax lx cx] 79)), (g16, (.cells #[.int .u64 xa, .bool xn, .slice A2 cn c2y] 79))] ++ ((b, .cells #[.int .i64 size, .slice (some ⟨b1, o, none⟩) P.length cp] 76) :: (((Hd ++ Hn) ++ Hp) ++ ((g, ob) :: Fr))))) := by simpa using h2
                    exact h3.mid, hg7.trans hg8⟩)
                  clear hrow6 hH7 hg8 hg7 hs1
                  go_wp2_with fail
                  go_roundw
                  case rel => exact HFIN.out
                  case measure => simp [intOf]; omega
            · have hk2 : k = P.length := by omega
              subst hk2
              have hp0 := HPASS.out
              have he0 := HEO.out
              rw [List.take_length] at hp0 he0
              have HRES := Lib.hid (HRY.out hp0)
              have HES : Hid (Eo.map (·.2) = picksR a m z P) := Lib.hid he0
              have hPE : PlacesE (Ho ++ (Hn ++ Hp)) (.slice Ao Eo.length co) Eo := ⟨fun wx hx => HROW.out.reads hx, fun e he => (HFE.out e he).more⟩
              have HPE := Lib.hid hPE
              have hH8 : Holds wr ((b, .cells #[.int .i64 size, .slice Ap P.length cp] 76) :: (([] ++ (Ho ++ (Hn ++ Hp))) ++ ((g, ob) :: Fr))) := hHr.sub (by (repeat' (first | refine sub_append ?_ ?_ | refine sub_cons ?_ ?_ | exact sub_nil)); all_goals first | (intro p hp; simp only [List.mem_append, List.mem_cons, hp, true_or, or_true]) | simp only [List.mem_append, List.mem_cons, true_or, or_true]) (fun b => by simp only [keyc_append, keyc_cons, keyc_nil]; omega)
              have HFP0 : Hid (FrPlaces ([] ++ (Ho ++ (Hn ++ Hp))) (.slice Ap P.length cp) P) := Lib.hid (HL0.out.more (A := Hn)).more
              have hel := HEL.out
              clear hp0 he0 hPE hHr q1 q3 HPASS
              go_wp2_with fail
              clear q4
              go_loopw [17] (fun i wr => ListR3 P (picksR a m z P) (Ho ++ (Hn ++ Hp)) b size w ((g, ob) :: Fr) i wr) (fun i _ => (picksR a m z P).length - (intOf i).toNat)
              case atStart => exact ⟨0, _, [], rfl, by omega, by rw [List.take_zero]; exact HFP0.out, hH8, hgr⟩
              case round =>
                clear hH8 hgr
                obtain ⟨j, pv', Hx, rfl, hj, hfp, hHr, hgr⟩ := hrel
                have HFP := Lib.hid hfp
                have HESL : Hid (Eo.length = (picksR a m z P).length) := Lib.hid (by rw [← HES.out, List.length_map])
                have hjE : j ≤ Eo.length := by rw [HESL.out]; exact hj
                clear hfp hj
                by_cases hlt : j < Eo.length
                · obtain ⟨b1, o, c', hv, hc1, hc2, hcl⟩ := HPE.out.get (w := wr) hHr.tail.assoc.right j hlt
                  injection hv with e1 e2 e3
                  subst e1 e3
                  clear e2
                  obtain ⟨c0, c1, c2⟩ := hcl wr _ hHr.tail.assoc.right
                  have HFB := Lib.hid (HPE.out.2 Eo[j] (List.getElem_mem hlt))
                  have hlS : j < (picksR a m z P).length := by rw [← HESL.out]; exact hlt
                  have HTK := Lib.hid (show ((picksR a m z P).take (j + 1)).foldl putP P = putP (((picksR a m z P).take j).foldl putP P) Eo[j].2 by
                    rw [List.take_succ_eq_append_getElem hlS, List.foldl_append]
                    have : (picksR a m z P)[j] = Eo[j].2 := by
                      have h : (Eo.map (·.2))[j]'(by simpa using hlt) = (picksR a m z P)[j] := by simp only [HES.out]
                      rw [← h]; simp
                    rw [this]; rfl)
                  have HPT := Lib.hid (r18put_any b size pv' (((picksR a m z P).take j).foldl putP P) Eo[j].2 Eo[j].1 (Hx ++ (Ho ++ (Hn ++ Hp))) ((g, ob) :: Fr) wr HFP.out HFB.out.more (by
                    have h1 := foldP_len (S := (picksR a m z P).take j) (P := P)
                    rw [List.length_take] at h1
                    omega) hHr)
                  dsimp only [PV.agg] at HPT
                  generalize Eo[j] = e5 at *
                  obtain ⟨lv5, xa, xn, xl⟩ := e5
                  dsimp only at c0 c1 c2 HPT HTK HFB
                  obtain ⟨A5, c5, hv5, _, _⟩ := HFB.out.sl (w := wr) hHr.tail.assoc.right
                  subst hv5
                  clear hcl hHr
                  go_wp2_with fail
                  refine HPT.out.mono ?_
                  rintro e w5 ⟨rfl, pv2, Hy, hfp2, hH9, hg9⟩
                  have HFIN := Lib.hid (show ListR3 P (picksR a m z P) (Ho ++ (Hn ++ Hp)) b size w ((g, ob) :: Fr) (.int .i64 ((j : Int) + 1)) w5 from ⟨j + 1, pv2, Hy ++ Hx, by go_num, by have := HESL.out; omega, by rw [HTK.out, List.append_assoc]; exact hfp2, by rw [List.append_assoc Hy]; exact hH9, hgr.trans hg9⟩)
                  clear hfp2 hH9 hg9 hgr HPT
                  go_wp2_with fail
                  go_roundw
                  case rel => exact HFIN.out
                  case measure => have := HESL.out; simp [intOf]; omega
                · have hj2 : j = (picksR a m z P).length := by rw [← HESL.out]; omega
                  have HRS := Lib.hid (show (((picksR a m z P).take j).foldl putP P) = (picksR a m z P).foldl putP P by rw [hj2, List.take_length])
                  clear hj2
                  go_wp2_with fail
                  go_ret
                  rw [HRES.out]
                  have h : Holds wr (((b, .cells #[.int .i64 size, pv'] 76) :: (Hx ++ (Ho ++ (Hn ++ Hp)))) ++ ([(g, ob)] ++ Fr)) := hHr
                  refine ⟨rfl, pv', (Hx ++ (Ho ++ Hn)), ?_, ?_, hgr⟩
                  · have h2 := HFP.out
                    rw [HRS.out] at h2
                    simpa using h2
                  · have h3 := h.mid
                    simpa using h3
        have hzd : decide ((zn : Int) < m) = false := decide_eq_false hzm
        rw [hzd]
        by_cases hz0 : zn = 0
        · subst hz0
          clear hzd
          go_wp2_with fail
          go_loopw [12, 13] (fun out i wr => ListR2 P a m z Hp w (b, .cells #[.int .i64 size, .slice Ap P.length cp] 76) ((g, ob) :: Fr) out i wr) (fun _ i _ => P.length - (intOf i).toNat)
          case atStart => exact ⟨0, [], [], [], rfl, by omega, by simp, rfl, IsRow.nil _ _, (fun e he => by cases he), hH3, hg3⟩
          case round =>
            clear hH3 hg3
            obtain ⟨k, Eo, Ho, Hn, rfl, hk, hpass, hEo, hrow, hfe, hHr, hgr⟩ := hrel
            have HPASS := Lib.hid hpass
            have HEO := Lib.hid hEo
            have HROW := Lib.hid hrow
            have HFE := Lib.hid hfe
            obtain ⟨Ao, co, hov⟩ := hrow.val
            subst hov
            have HEL : Hid (Eo.length ≤ 5000) := Lib.hid (by
              have h1 := picksR_len (a0 := a) (m := m) (z := z) (P := P.take k)
              rw [← hEo, List.length_map, List.length_take] at h1
              omega)
            clear hpass hEo hrow hfe
            obtain ⟨q1, q3, q4⟩ := HBX.out wr Ho Hn hHr
            by_cases hlt : k < P.length
            · have hkE : k < E.length := by omega
              obtain ⟨b1, o, c', hv, hc1, hc2, hcl⟩ := HCE.out.get (w := wr) hHr.right.tail.assoc.right k hkE
              rw [hlen] at hv
              injection hv with e1 e2 e3
              subst e1 e3
              clear e2
              have hLk : E[k].2 = P[k] := by
                have : (E.map (·.2))[k]'(by simpa using hkE) = P[k] := by simp only [HLE.out]
                simpa using this
              have hfb := HCE.out.2 E[k] (List.getElem_mem hkE)
              rw [hLk] at hfb hcl
              have HFB := Lib.hid hfb
              have HPL := Lib.hid (HSL.out.2 P[k] (List.getElem_mem hlt))
              obtain ⟨Ax, cx, hxv, _, _⟩ := hfb.sl hHr.right.tail.assoc.right
              rw [hxv] at HFB hcl
              have HPM := Lib.hid (List.getElem_mem hlt)
              have HSN := Lib.hid (picksR_snoc (a0 := a) (m := m) (z := z) hlt)
              have HTK := Lib.hid (List.take_succ_eq_append_getElem hlt)
              obtain ⟨c0, c1, c2⟩ := hcl wr _ hHr.right.tail.assoc.right
              generalize P[k] = X at *
              obtain ⟨xa, xn, xl⟩ := X
              dsimp only at c0 c1 c2 HFB HPL HSN
              generalize hlx : xl.length = lx at *
              have HLX := Lib.hid hlx
              clear hcl hfb hxv hLk hlx
              have hHX : Holds (wr.alloc (.cells #[.int .u64 xa, .bool xn, .slice Ax lx cx] 79)) ((Ho ++ [(wr.heap.size, (.cells #[.int .u64 xa, .bool xn, .slice Ax lx cx] 79))]) ++ ((b, .cells #[.int .i64 size, .slice (some ⟨b1, o, none⟩) P.length cp] 76) :: ((Hn ++ Hp) ++ ((g, ob) :: Fr)))) := (hHr.alloc (.cells #[.int .u64 xa, .bool xn, .slice Ax lx cx] 79)).sub (by (repeat' (first | refine sub_append ?_ ?_ | refine sub_cons ?_ ?_ | exact sub_nil)); all_goals first | (intro p hp; simp only [List.mem_append, List.mem_cons, hp, true_or, or_true]) | simp only [List.mem_append, List.mem_cons, true_or, or_true]) (fun b => by simp only [keyc_append, keyc_cons, keyc_nil]; omega)
              have hgx := hgr.alloc (.cells #[.int .u64 xa, .bool xn, .slice Ax lx cx] 79)
              have HHX := Lib.hid hHX
              obtain ⟨q1, q3, q4⟩ := HBX.out (wr.alloc (.cells #[.int .u64 xa, .bool xn, .slice Ax lx cx] 79)) _ Hn hHX
              have HSKIP : Hid (withinB a m z xa = false → ∀ wx, Holds wx ((Ho ++ [(wr.heap.size, (.cells #[.int .u64 xa, .bool xn, .slice Ax lx cx] 79))]) ++ ((b, .cells #[.int .i64 size, .slice (some ⟨b1, o, none⟩) P.length cp] 76) :: ((Hn ++ Hp) ++ ((g, ob) :: Fr)))) → Grew w wx → ListR2 P a m z Hp w (b, .cells #[.int .i64 size, .slice (some ⟨b1, o, none⟩) P.length cp] 76) ((g, ob) :: Fr) (.slice Ao Eo.length co) (.int .i64 ((k : Int) + 1)) wx) := Lib.hid (fun hw wx hx hg => by
                refine ⟨k + 1, Eo, Ho, Hn, by go_num, by omega, fun p hp hwp => ?_, by rw [HSN.out, hw]; simpa using HEO.out, HROW.out, HFE.out, ?_, hg⟩
                · rw [HTK.out] at hp
                  rcases List.mem_append.1 hp with hp | hp
                  · exact HPASS.out p hp hwp
                  · rw [List.mem_singleton.1 hp] at hwp
                    rw [hw] at hwp
                    cases hwp
                · have h : Holds wx (Ho ++ ([(wr.heap.size, (.cells #[.int .u64 xa, .bool xn, .slice Ax lx cx] 79))] ++ ((b, .cells #[.int .i64 size, .slice (some ⟨b1, o, none⟩) P.length cp] 76) :: ((Hn ++ Hp) ++ ((g, ob) :: Fr))))) := by simpa using hx
                  exact h.mid)
              have HIN : Hid True := Lib.hid trivial
              have HDC := Lib.hid (r18dirties_any ⟨xa, xn, xl⟩ (.slice Ax lx cx) (Hn ++ Hp) (((g, ob) :: Fr) ++ ((Ho ++ [(wr.heap.size, (.cells #[.int .u64 xa, .bool xn, .slice Ax lx cx] 79))]) ++ [(b, .cells #[.int .i64 size, .slice (some ⟨b1, o, none⟩) P.length cp] 76)])) (wr.alloc (.cells #[.int .u64 xa, .bool xn, .slice Ax lx cx] 79)) HFB.out.more (by have h1 := HPL.out.1; have h2 := HLX.out; dsimp only; omega) (by
                have h : Holds (wr.alloc (.cells #[.int .u64 xa, .bool xn, .slice Ax lx cx] 79)) ((Hn ++ Hp) ++ (((g, ob) :: Fr) ++ ((Ho ++ [(wr.heap.size, (.cells #[.int .u64 xa, .bool xn, .slice Ax lx cx] 79))]) ++ [(b, .cells #[.int .i64 size, .slice (some ⟨b1, o, none⟩) P.length cp] 76)]))) := hHX.sub (by (repeat' (first | refine sub_append ?_ ?_ | refine sub_cons ?_ ?_ | exact sub_nil)); all_goals first | (intro p hp; simp only [List.mem_append, List.mem_cons, hp, true_or, or_true]) | simp only [List.mem_append, List.mem_cons, true_or, or_true]) (fun b => by simp only [keyc_append, keyc_cons, keyc_nil]; omega)
                exact h))
              dsimp only [PV.agg] at HDC
              clear hHX hHr hgr
              by_cases hxa : xa < a
              · have hxd : decide (xa < a) = true := decide_eq_true hxa
                have HFIN := Lib.hid (HSKIP.out (within_lo hxa) (wr.alloc (.cells #[.int .u64 xa, .bool xn, .slice Ax lx cx] 79)) HHX.out hgx)
                clear HSKIP HIN
                go_wp2_with fail
                go_roundw
                case rel => exact HFIN.out
                case measure => simp [intOf]; omega
              have hxd : decide (xa < a) = false := decide_eq_false hxa
              have HFIN := Lib.hid (HSKIP.out (within_none (a := a) (m := m) (z := z) (x := xa) HZN.out (by rw [HZN.out]; omega)) (wr.alloc (.cells #[.int .u64 xa, .bool xn, .slice Ax lx cx] 79)) HHX.out hgx)
              clear HSKIP HIN
              go_wp2_with fail
              go_roundw
              case rel => exact HFIN.out
              case measure => simp [intOf]; omega
            · have hk2 : k = P.length := by omega
              subst hk2
              have hp0 := HPASS.out
              have he0 := HEO.out
              rw [List.take_length] at hp0 he0
              have HRES := Lib.hid (HRY.out hp0)
              have HES : Hid (Eo.map (·.2) = picksR a m z P) := Lib.hid he0
              have hPE : PlacesE (Ho ++ (Hn ++ Hp)) (.slice Ao Eo.length co) Eo := ⟨fun wx hx => HROW.out.reads hx, fun e he => (HFE.out e he).more⟩
              have HPE := Lib.hid hPE
              have hH8 : Holds wr ((b, .cells #[.int .i64 size, .slice Ap P.length cp] 76) :: (([] ++ (Ho ++ (Hn ++ Hp))) ++ ((g, ob) :: Fr))) := hHr.sub (by (repeat' (first | refine sub_append ?_ ?_ | refine sub_cons ?_ ?_ | exact sub_nil)); all_goals first | (intro p hp; simp only [List.mem_append, List.mem_cons, hp, true_or, or_true]) | simp only [List.mem_append, List.mem_cons, true_or, or_true]) (fun b => by simp only [keyc_append, keyc_cons, keyc_nil]; omega)
              have HFP0 : Hid (FrPlaces ([] ++ (Ho ++ (Hn ++ Hp))) (.slice Ap P.length cp) P) := Lib.hid (HL0.out.more (A := Hn)).more
              have hel := HEL.out
              clear hp0 he0 hPE hHr q1 q3 HPASS
              go_wp2_with fail
              clear q4
              go_loopw [17] (fun i wr => ListR3 P (picksR a m z P) (Ho ++ (Hn ++ Hp)) b size w ((g, ob) :: Fr) i wr) (fun i _ => (picksR a m z P).length - (intOf i).toNat)
              case atStart => exact ⟨0, _, [], rfl, by omega, by rw [List.take_zero]; exact HFP0.out, hH8, hgr⟩
              case round =>
                clear hH8 hgr
                obtain ⟨j, pv', Hx, rfl, hj, hfp, hHr, hgr⟩ := hrel
                have HFP := Lib.hid hfp
                have HESL : Hid (Eo.length = (picksR a m z P).length) := Lib.hid (by rw [← HES.out, List.length_map])
                have hjE : j ≤ Eo.length := by rw [HESL.out]; exact hj
                clear hfp hj
                by_cases hlt : j < Eo.length
                · obtain ⟨b1, o, c', hv, hc1, hc2, hcl⟩ := HPE.out.get (w := wr) hHr.tail.assoc.right j hlt
                  injection hv with e1 e2 e3
                  subst e1 e3
                  clear e2
                  obtain ⟨c0, c1, c2⟩ := hcl wr _ hHr.tail.assoc.right
                  have HFB := Lib.hid (HPE.out.2 Eo[j] (List.getElem_mem hlt))
                  have hlS : j < (picksR a m z P).length := by rw [← HESL.out]; exact hlt
                  have HTK := Lib.hid (show ((picksR a m z P).take (j + 1)).foldl putP P = putP (((picksR a m z P).take j).foldl putP P) Eo[j].2 by
                    rw [List.take_succ_eq_append_getElem hlS, List.foldl_append]
                    have : (picksR a m z P)[j] = Eo[j].2 := by
                      have h : (Eo.map (·.2))[j]'(by simpa using hlt) = (picksR a m z P)[j] := by simp only [HES.out]
                      rw [← h]; simp
                    rw [this]; rfl)
                  have HPT := Lib.hid (r18put_any b size pv' (((picksR a m z P).take j).foldl putP P) Eo[j].2 Eo[j].1 (Hx ++ (Ho ++ (Hn ++ Hp))) ((g, ob) :: Fr) wr HFP.out HFB.out.more (by
                    have h1 := foldP_len (S := (picksR a m z P).take j) (P := P)
                    rw [List.length_take] at h1
                    omega) hHr)
                  dsimp only [PV.agg] at HPT
                  generalize Eo[j] = e5 at *
                  obtain ⟨lv5, xa, xn, xl⟩ := e5
                  dsimp only at c0 c1 c2 HPT HTK HFB
                  obtain ⟨A5, c5, hv5, _, _⟩ := HFB.out.sl (w := wr) hHr.tail.assoc.right
                  subst hv5
                  clear hcl hHr
                  go_wp2_with fail
                  refine HPT.out.mono ?_
                  rintro e w5 ⟨rfl, pv2, Hy, hfp2, hH9, hg9⟩
                  have HFIN := Lib.hid (show ListR3 P (picksR a m z P) (Ho ++ (Hn ++ Hp)) b size w ((g, ob) :: Fr) (.int .i64 ((j : Int) + 1)) w5 from ⟨j + 1, pv2, Hy ++ Hx, by go_num, by have := HESL.out; omega, by rw [HTK.out, List.append_assoc]; exact hfp2, by rw [List.append_assoc Hy]; exact hH9, hgr.trans hg9⟩)
                  clear hfp2 hH9 hg9 hgr HPT
                  go_wp2_with fail
                  go_roundw
                  case rel => exact HFIN.out
                  case measure => have := HESL.out; simp [intOf]; omega
                · have hj2 : j = (picksR a m z P).length := by rw [← HESL.out]; omega
                  have HRS := Lib.hid (show (((picksR a m z P).take j).foldl putP P) = (picksR a m z P).foldl putP P by rw [hj2, List.take_length])
                  clear hj2
                  go_wp2_with fail
                  go_ret
                  rw [HRES.out]
                  have h : Holds wr (((b, .cells #[.int .i64 size, pv'] 76) :: (Hx ++ (Ho ++ (Hn ++ Hp)))) ++ ([(g, ob)] ++ Fr)) := hHr
                  refine ⟨rfl, pv', (Hx ++ (Ho ++ Hn)), ?_, ?_, hgr⟩
                  · have h2 := HFP.out
                    rw [HRS.out] at h2
                    simpa using h2
                  · have h3 := h.mid
                    simpa using h3
        · have hzne : ((zn : Int) == 0) = false := by simpa using hz0
          go_wp2_with fail
          go_loopw [12, 13] (fun out i wr => ListR2 P a m z Hp w (b, .cells #[.int .i64 size, .slice Ap P.length cp] 76) ((g, ob) :: Fr) out i wr) (fun _ i _ => P.length - (intOf i).toNat)
          case atStart => exact ⟨0, [], [], [], rfl, by omega, by simp, rfl, IsRow.nil _ _, (fun e he => by cases he), hH3, hg3⟩
          case round =>
            clear hH3 hg3
            obtain ⟨k, Eo, Ho, Hn, rfl, hk, hpass, hEo, hrow, hfe, hHr, hgr⟩ := hrel
            have HPASS := Lib.hid hpass
            have HEO := Lib.hid hEo
            have HROW := Lib.hid hrow
            have HFE := Lib.hid hfe
            obtain ⟨Ao, co, hov⟩ := hrow.val
            subst hov
            have HEL : Hid (Eo.length ≤ 5000) := Lib.hid (by
              have h1 := picksR_len (a0 := a) (m := m) (z := z) (P := P.take k)
              rw [← hEo, List.length_map, List.length_take] at h1
              omega)
            clear hpass hEo hrow hfe
            obtain ⟨q1, q3, q4⟩ := HBX.out wr Ho Hn hHr
            by_cases hlt : k < P.length
            · have hkE : k < E.length := by omega
              obtain ⟨b1, o, c', hv, hc1, hc2, hcl⟩ := HCE.out.get (w := wr) hHr.right.tail.assoc.right k hkE
              rw [hlen] at hv
              injection hv with e1 e2 e3
              subst e1 e3
              clear e2
              have hLk : E[k].2 = P[k] := by
                have : (E.map (·.2))[k]'(by simpa using hkE) = P[k] := by simp only [HLE.out]
                simpa using this
              have hfb := HCE.out.2 E[k] (List.getElem_mem hkE)
              rw [hLk] at hfb hcl
              have HFB := Lib.hid hfb
              have HPL := Lib.hid (HSL.out.2 P[k] (List.getElem_mem hlt))
              obtain ⟨Ax, cx, hxv, _, _⟩ := hfb.sl hHr.right.tail.assoc.right
              rw [hxv] at HFB hcl
              have HPM := Lib.hid (List.getElem_mem hlt)
              have HSN := Lib.hid (picksR_snoc (a0 := a) (m := m) (z := z) hlt)
              have HTK := Lib.hid (List.take_succ_eq_append_getElem hlt)
              obtain ⟨c0, c1, c2⟩ := hcl wr _ hHr.right.tail.assoc.right
              generalize P[k] = X at *
              obtain ⟨xa, xn, xl⟩ := X
              dsimp only at c0 c1 c2 HFB HPL HSN
              generalize hlx : xl.length = lx at *
              have HLX := Lib.hid hlx
              clear hcl hfb hxv hLk hlx
              have hHX : Holds (wr.alloc (.cells #[.int .u64 xa, .bool xn, .slice Ax lx cx] 79)) ((Ho ++ [(wr.heap.size, (.cells #[.int .u64 xa, .bool xn, .slice Ax lx cx] 79))]) ++ ((b, .cells #[.int .i64 size, .slice (some ⟨b1, o, none⟩) P.length cp] 76) :: ((Hn ++ Hp) ++ ((g, ob) :: Fr)))) := (hHr.alloc (.cells #[.int .u64 xa, .bool xn, .slice Ax lx cx] 79)).sub (by (repeat' (first | refine sub_append ?_ ?_ | refine sub_cons ?_ ?_ | exact sub_nil)); all_goals first | (intro p hp; simp only [List.mem_append, List.mem_cons, hp, true_or, or_true]) | simp only [List.mem_append, List.mem_cons, true_or, or_true]) (fun b => by simp only [keyc_append, keyc_cons, keyc_nil]; omega)
              have hgx := hgr.alloc (.cells #[.int .u64 xa, .bool xn, .slice Ax lx cx] 79)
              have HHX := Lib.hid hHX
              obtain ⟨q1, q3, q4⟩ := HBX.out (wr.alloc (.cells #[.int .u64 xa, .bool xn, .slice Ax lx cx] 79)) _ Hn hHX
              have HSKIP : Hid (withinB a m z xa = false → ∀ wx, Holds wx ((Ho ++ [(wr.heap.size, (.cells #[.int .u64 xa, .bool xn, .slice Ax lx cx] 79))]) ++ ((b, .cells #[.int .i64 size, .slice (some ⟨b1, o, none⟩) P.length cp] 76) :: ((Hn ++ Hp) ++ ((g, ob) :: Fr)))) → Grew w wx → ListR2 P a m z Hp w (b, .cells #[.int .i64 size, .slice (some ⟨b1, o, none⟩) P.length cp] 76) ((g, ob) :: Fr) (.slice Ao Eo.length co) (.int .i64 ((k : Int) + 1)) wx) := Lib.hid (fun hw wx hx hg => by
                refine ⟨k + 1, Eo, Ho, Hn, by go_num, by omega, fun p hp hwp => ?_, by rw [HSN.out, hw]; simpa using HEO.out, HROW.out, HFE.out, ?_, hg⟩
                · rw [HTK.out] at hp
                  rcases List.mem_append.1 hp with hp | hp
                  · exact HPASS.out p hp hwp
                  · rw [List.mem_singleton.1 hp] at hwp
                    rw [hw] at hwp
                    cases hwp
                · have h : Holds wx (Ho ++ ([(wr.heap.size, (.cells #[.int .u64 xa, .bool xn, .slice Ax lx cx] 79))] ++ ((b, .cells #[.int .i64 size, .slice (some ⟨b1, o, none⟩) P.length cp] 76) :: ((Hn ++ Hp) ++ ((g, ob) :: Fr))))) := by simpa using hx
                  exact h.mid)
              have HIN : Hid True := Lib.hid trivial
              have HDC := Lib.hid (r18dirties_any ⟨xa, xn, xl⟩ (.slice Ax lx cx) (Hn ++ Hp) (((g, ob) :: Fr) ++ ((Ho ++ [(wr.heap.size, (.cells #[.int .u64 xa, .bool xn, .slice Ax lx cx] 79))]) ++ [(b, .cells #[.int .i64 size, .slice (some ⟨b1, o, none⟩) P.length cp] 76)])) (wr.alloc (.cells #[.int .u64 xa, .bool xn, .slice Ax lx cx] 79)) HFB.out.more (by have h1 := HPL.out.1; have h2 := HLX.out; dsimp only; omega) (by
                have h : Holds (wr.alloc (.cells #[.int .u64 xa, .bool xn, .slice Ax lx cx] 79)) ((Hn ++ Hp) ++ (((g, ob) :: Fr) ++ ((Ho ++ [(wr.heap.size, (.cells #[.int .u64 xa, .bool xn, .slice Ax lx cx] 79))]) ++ [(b, .cells #[.int .i64 size, .slice (some ⟨b1, o, none⟩) P.length cp] 76)]))) := hHX.sub (by (repeat' (first | refine sub_append ?_ ?_ | refine sub_cons ?_ ?_ | exact sub_nil)); all_goals first | (intro p hp; simp only [List.mem_append, List.mem_cons, hp, true_or, or_true]) | simp only [List.mem_append, List.mem_cons, true_or, or_true]) (fun b => by simp only [keyc_append, keyc_cons, keyc_nil]; omega)
                exact h))
              dsimp only [PV.agg] at HDC
              clear hHX hHr hgr
              by_cases hxa : xa < a
              · have hxd : decide (xa < a) = true := decide_eq_true hxa
                have HFIN := Lib.hid (HSKIP.out (within_lo hxa) (wr.alloc (.cells #[.int .u64 xa, .bool xn, .slice Ax lx cx] 79)) HHX.out hgx)
                clear HSKIP HIN
                go_wp2_with fail
                go_roundw
                case rel => exact HFIN.out
                case measure => simp [intOf]; omega
              have hxd : decide (xa < a) = false := decide_eq_false hxa
              by_cases hzl : zl < xa
              · have hzld : decide (zl < xa) = true := decide_eq_true hzl
                have HFIN := Lib.hid (HSKIP.out (within_hi (a := a) (m := m) (z := z) (x := xa) (by rw [HZN.out]; omega) (by rw [HZLD.out]; omega)) (wr.alloc (.cells #[.int .u64 xa, .bool xn, .slice Ax lx cx] 79)) HHX.out hgx)
                clear HSKIP HIN
                go_wp2_with fail
                go_roundw
                case rel => exact HFIN.out
                case measure => simp [intOf]; omega
              have hzld : decide (zl < xa) = false := decide_eq_false hzl
              have HWI := Lib.hid (within_in (a := a) (m := m) (z := z) (x := xa) (by omega) (by rw [HZN.out]; omega) (by rw [HZN.out]; omega) (by rw [HZLD.out]; omega))
              clear HSKIP
              go_wp2_with fail
              refine HDC.out.mono ?_
              generalize wr.heap.size = g14 at *
              rintro e w3 ⟨l1, l2, Hd, rfl, hf1, hf2, hH5, hg5⟩
              obtain ⟨A1, c1y, hv1, _, _⟩ := hf1.sl hH5
              obtain ⟨A2, c2y, hv2, _, _⟩ := hf2.sl hH5
              subst hv1 hv2
              have HS0 := Lib.hid (show stepR z ⟨xa, xn, xl⟩ = if z.contains xa then some ⟨xa, false, dirtyF xl⟩ else if (cleanF xl).length = 0 ∧ xn = false then none else some ⟨xa, xn, cleanF xl⟩ from rfl)
              generalize hdn : (dirtyF xl).length = dn at *
              generalize hcn : (cleanF xl).length = cn at *
              have HF1 := Lib.hid hf1
              have HF2 := Lib.hid hf2
              have hH6 : Holds (w3.alloc (.cells #[.int .u64 xa, .bool xn, .slice A2 cn c2y] 79)) (Ho ++ (([(g14, (.cells #[.int .u64 xa, .bool xn, .slice Ax lx cx] 79)), (w3.heap.size, (.cells #[.int .u64 xa, .bool xn, .slice A2 cn c2y] 79))] ++ [(b, .cells #[.int .i64 size, .slice (some ⟨b1, o, none⟩) P.length cp] 76)]) ++ (((Hd ++ Hn) ++ Hp) ++ ((g, ob) :: Fr)))) := (hH5.alloc (.cells #[.int .u64 xa, .bool xn, .slice A2 cn c2y] 79)).sub (by (repeat' (first | refine sub_append ?_ ?_ | refine sub_cons ?_ ?_ | exact sub_nil)); all_goals first | (intro p hp; simp only [List.mem_append, List.mem_cons, hp, true_or, or_true]) | simp only [List.mem_append, List.mem_cons, true_or, or_true]) (fun b => by simp only [keyc_append, keyc_cons, keyc_nil]; omega)
              have hg6 := (hgx.trans hg5).alloc (.cells #[.int .u64 xa, .bool xn, .slice A2 cn c2y] 79)
              have HHC := Lib.hid (r18has_any (.slice A zn c) z xa (w3.alloc (.cells #[.int .u64 xa, .bool xn, .slice A2 cn c2y] 79)) (HZW.out _ ((g, ob) :: Fr) (by
                have h : Holds (w3.alloc (.cells #[.int .u64 xa, .bool xn, .slice A2 cn c2y] 79)) ((Ho ++ (([(g14, (.cells #[.int .u64 xa, .bool xn, .slice Ax lx cx] 79)), (w3.heap.size, (.cells #[.int .u64 xa, .bool xn, .slice A2 cn c2y] 79))] ++ [(b, .cells #[.int .i64 size, .slice (some ⟨b1, o, none⟩) P.length cp] 76)]) ++ (Hd ++ Hn))) ++ (Hp ++ ((g, ob) :: Fr))) := by simpa using hH6
                exact h.right)))
              have HBY : Hid (∀ (wx : World) (g16 : Nat) (X : HL), Holds wx (X ++ (([(g14, (.cells #[.int .u64 xa, .bool xn, .slice Ax lx cx] 79)), (g16, (.cells #[.int .u64 xa, .bool xn, .slice A2 cn c2y] 79))] ++ [(b, .cells #[.int .i64 size, .slice (some ⟨b1, o, none⟩) P.length cp] 76)]) ++ (((Hd ++ Hn) ++ Hp) ++ ((g, ob) :: Fr)))) → wx.cell? ⟨g14, 0, none⟩ = some (.int .u64 xa) ∧ (wx.cell? ⟨g16, 0, none⟩ = some (.int .u64 xa) ∧ wx.cell? ⟨g16, 1, none⟩ = some (.bool xn) ∧ wx.cell? ⟨g16, 2, none⟩ = some (.slice A2 cn c2y))) := Lib.hid (fun wx g16 X h => by
                have h2 := h.right
                exact ⟨h2.hcell 0, h2.tail.hcell 0, h2.tail.hcell 1, h2.tail.hcell 2⟩)
              obtain ⟨r0, r1, r2, r3⟩ := HBY.out _ _ _ hH6
              have HOUT2 : Hid (∀ (wx : World) (g16 : Nat), Holds wx (Ho ++ (([(g14, (.cells #[.int .u64 xa, .bool xn, .slice Ax lx cx] 79)), (g16, (.cells #[.int .u64 xa, .bool xn, .slice A2 cn c2y] 79))] ++ [(b, .cells #[.int .i64 size, .slice (some ⟨b1, o, none⟩) P.length cp] 76)]) ++ (((Hd ++ Hn) ++ Hp) ++ ((g, ob) :: Fr)))) → Holds wx ((b, .cells #[.int .i64 size, .slice (some ⟨b1, o, none⟩) P.length cp] 76) :: (Hp ++ ((g, ob) :: Fr)))) := Lib.hid (fun wx g16 h => by
                have h2 : Holds wx ((Ho ++ [(g14, (.cells #[.int .u64 xa, .bool xn, .slice Ax lx cx] 79)), (g16, (.cells #[.int .u64 xa, .bool xn, .slice A2 cn c2y] 79))]) ++ ([(b, .cells #[.int .i64 size, .slice (some ⟨b1, o, none⟩) P.length cp] 76)] ++ ((Hd ++ Hn) ++ (Hp ++ ((g, ob) :: Fr))))) := by simpa using h
                exact Holds.mid (A := [(b, .cells #[.int .i64 size, .slice (some ⟨b1, o, none⟩) P.length cp] 76)]) (B := Hd ++ Hn) h2.right)
              have HPM2 : Hid (withinB a m z xa = true → stepR z ⟨xa, xn, xl⟩ = none → listP P ⟨k6, a, d, m⟩ z = (false, P)) := Lib.hid (fun h1 h2 => listP_step (o := ⟨k6, a, d, m⟩) HPM.out h1 h2)
              clear hf1 hf2 hH5 hg5 HDC hdn hcn q1 q3 q4 c0 c1 c2
              go_wp2_with fail
              refine HHC.out.mono ?_
              generalize w3.alloc (.cells #[.int .u64 xa, .bool xn, .slice A2 cn c2y] 79) = wq at *
              generalize w3.heap.size = g16 at *
              rintro e w4 ⟨rfl, rfl⟩
              clear HHC
              generalize z.contains xa = zc at *
              cases zc with
              | true =>
                have HS := Lib.hid (HS0.out.trans (if_pos rfl))
                clear HS0
                have hs1 : Holds (wq.alloc (.cells #[.int .u64 xa, .bool false, .slice A1 dn c1y] 79)) (Ho ++ ((wq.heap.size, (.cells #[.int .u64 xa, .bool false, .slice A1 dn c1y] 79)) :: (([(g14, (.cells #[.int .u64 xa, .bool xn, .slice Ax lx cx] 79)), (g16, (.cells #[.int .u64 xa, .bool xn, .slice A2 cn c2y] 79))] ++ [(b, .cells #[.int .i64 size, .slice (some ⟨b1, o, none⟩) P.length cp] 76)]) ++ (((Hd ++ Hn) ++ Hp) ++ ((g, ob) :: Fr))))) := (hH6.alloc (.cells #[.int .u64 xa, .bool false, .slice A1 dn c1y] 79)).sub (by (repeat' (first | refine sub_append ?_ ?_ | refine sub_cons ?_ ?_ | exact sub_nil)); all_goals first | (intro p hp; simp only [List.mem_append, List.mem_cons, hp, true_or, or_true]) | simp only [List.mem_append, List.mem_cons, true_or, or_true]) (fun b => by simp only [keyc_append, keyc_cons, keyc_nil]; omega)
                have hg7 := hg6.alloc (.cells #[.int .u64 xa, .bool false, .slice A1 dn c1y] 79)
                have HSRC := Lib.hid (ReadsAt.of_block (n := 1) (c := 1) (o := 0) (size := 3) (hs1.get (b := wq.heap.size) (o := (.cells #[.int .u64 xa, .bool false, .slice A1 dn c1y] 79)) (by simp)) [.int .u64 xa, .bool false, .slice A1 dn c1y] rfl (by omega) (by simp [maxLen]) (by intro j u hu; simpa using hu))
                have hel := HEL.out
                clear hH6
                go_wp2_with (at_builtin; refine wpList_append_T tPlaces (by rfl) (.tmp 126) (.tmp 131) (by rfl) (by rfl) (by rfl) HROW.out hs1 HSRC.out (by simp [Value.oneCell']) (by simp [maxLen]; omega) (by omega) ?_; intro A' c' w' H' hrow6 hH7 hg8)
                have HFIN := Lib.hid (show ListR2 P a m z Hp w (b, .cells #[.int .i64 size, .slice (some ⟨b1, o, none⟩) P.length cp] 76) ((g, ob) :: Fr) (.slice A' (Eo.length + 1) c') (.int .i64 ((k : Int) + 1)) w' from ⟨k + 1, Eo ++ [(.slice A1 dn c1y, ⟨xa, false, dirtyF xl⟩)], H', Hd ++ Hn, by go_num, by omega, fun p hp hwp => by
                  rw [HTK.out] at hp
                  rcases List.mem_append.1 hp with hp | hp
                  · exact HPASS.out p hp hwp
                  · rw [List.mem_singleton.1 hp, HS.out]; rfl, by rw [HSN.out, HWI.out, if_pos rfl, HS.out, List.map_append, HEO.out]; rfl, by rw [List.length_append, peC_append]; exact hrow6, fun e he => by
                  rw [List.append_assoc]
                  rcases List.mem_append.1 he with he | he
                  · exact (HFE.out e he).more
                  · rw [List.mem_singleton.1 he]; exact HF1.out, by
                  have h2 : Holds w' (H' ++ (([(g14, (.cells #[.int .u64 xa, .bool xn, .slice Ax lx cx] 79)), (g16, (.cells #[.int .u64 xa, .bool xn, .slice A2 cn c2y] 79))] ++ [(b, .cells #[.int .i64 size, .slice (some ⟨b1, o, none⟩) P.length cp] 76)]) ++ (((Hd ++ Hn) ++ Hp) ++ ((g, ob) :: Fr)))) := Holds.mid (B := [_]) hH7
                  have h3 : Holds w' (H' ++ ([(g14, (.cells #[.int .u64 xa, .bool xn, .slice Ax lx cx] 79)), (g16, (.cells #[.int .u64 xa, .bool xn, .slice A2 cn c2y] 79))] ++ ((b, .cells #[.int .i64 size, .slice (some ⟨b1, o, none⟩) P.length cp] 76) :: (((Hd ++ Hn) ++ Hp) ++ ((g, ob) :: Fr))))) := by simpa using h2
                  exact h3.mid, hg7.trans hg8⟩)
                clear hrow6 hH7 hg8 hg7 hs1
                go_wp2_with fail
                go_roundw
                case rel => exact HFIN.out
                case measure => simp [intOf]; omega
              | false =>
                by_cases hc0 : cn = 0
                · have hce : ((cn : Int) == 0) = true := by simpa using hc0
                  cases xn with
                  | false =>
                    have HS := Lib.hid (HS0.out.trans (by rw [if_neg (by decide), if_pos ⟨hc0, rfl⟩]))
                    have HR := Lib.hid (HPM2.out HWI.out HS.out)
                    have HH6 := Lib.hid hH6
                    clear HS0 hH6 hc0
                    go_wp2_with fail
                    go_ret
                    rw [HR.out]
                    exact HOUT.out false _ (HOUT2.out _ _ HH6.out) hg6
                  | true =>
                    have HS := Lib.hid (HS0.out.trans (by rw [if_neg (by decide), if_neg (fun h => by cases h.2)]))
                    clear HS0 hc0
                    have hs1 : Holds (wq.alloc (.cells #[.int .u64 xa, .bool true, .slice A2 cn c2y] 79)) (Ho ++ ((wq.heap.size, (.cells #[.int .u64 xa, .bool true, .slice A2 cn c2y] 79)) :: (([(g14, (.cells #[.int .u64 xa, .bool true, .slice Ax lx cx] 79)), (g16, (.cells #[.int .u64 xa, .bool true, .slice A2 cn c2y] 79))] ++ [(b, .cells #[.int .i64 size, .slice (some ⟨b1, o, none⟩) P.length cp] 76)]) ++ (((Hd ++ Hn) ++ Hp) ++ ((g, ob) :: Fr))))) := (hH6.alloc (.cells #[.int .u64 xa, .bool true, .slice A2 cn c2y] 79)).sub (by (repeat' (first | refine sub_append ?_ ?_ | refine sub_cons ?_ ?_ | exact sub_nil)); all_goals first | (intro p hp; simp only [List.mem_append, List.mem_cons, hp, true_or, or_true]) | simp only [List.mem_append, List.mem_cons, true_or, or_true]) (fun b => by simp only [keyc_append, keyc_cons, keyc_nil]; omega)
                    have hg7 := hg6.alloc (.cells #[.int .u64 xa, .bool true, .slice A2 cn c2y] 79)
                    have HSRC := Lib.hid (ReadsAt.of_block (n := 1) (c := 1) (o := 0) (size := 3) (hs1.get (b := wq.heap.size) (o := (.cells #[.int .u64 xa, .bool true, .slice A2 cn c2y] 79)) (by simp)) [.int .u64 xa, .bool true, .slice A2 cn c2y] rfl (by omega) (by simp [maxLen]) (by intro j u hu; simpa using hu))
                    have hel := HEL.out
                    clear hH6
                    go_wp2_with (at_builtin; refine wpList_append_T tPlaces (by rfl) (.tmp 142) (.tmp 144) (by rfl) (by rfl) (by rfl) HROW.out hs1 HSRC.out (by simp [Value.oneCell']) (by simp [maxLen]; omega) (by omega) ?_; intro A' c' w' H' hrow6 hH7 hg8)
                    have HFIN := Lib.hid (show ListR2 P a m z Hp w (b, .cells #[.int .i64 size, .slice (some ⟨b1, o, none⟩) P.length cp] 76) ((g, ob) :: Fr) (.slice A' (Eo.length + 1) c') (.int .i64 ((k : Int) + 1)) w' from ⟨k + 1, Eo ++ [(.slice A2 cn c2y, ⟨xa, true, cleanF xl⟩)], H', Hd ++ Hn, by go_num, by omega, fun p hp hwp => by
                      rw [HTK.out] at hp
                      rcases List.mem_append.1 hp with hp | hp
                      · exact HPASS.out p hp hwp
                      · rw [List.mem_singleton.1 hp, HS.out]; rfl, by rw [HSN.out, HWI.out, if_pos rfl, HS.out, List.map_append, HEO.out]; rfl, by rw [List.length_append, peC_append]; exact hrow6, fun e he => by
                      rw [List.append_assoc]
                      rcases List.mem_append.1 he with he | he
                      · exact (HFE.out e he).more
                      · rw [List.mem_singleton.1 he]; exact HF2.out, by
                      have h2 : Holds w' (H' ++ (([(g14, (.cells #[.int .u64 xa, .bool true, .slice Ax lx cx] 79)), (g16, (.cells #[.int .u64 xa, .bool true, .slice A2 cn c2y] 79))] ++ [(b, .cells #[.int .i64 size, .slice (some ⟨b1, o, none⟩) P.length cp] 76)]) ++ (((Hd ++ Hn) ++ Hp) ++ ((g, ob) :: Fr)))) := Holds.mid (B := [_]) hH7
                      have h3 : Holds w' (H' ++ ([(g14, (.cells #[.int .u64 xa, .bool true, .slice Ax lx cx] 79)), (g16, (.cells #[.int .u64 xa, .bool true, .slice A2 cn c2y] 79))] ++ ((b, .cells #[.int .i64 size, .slice (some ⟨b1, o, none⟩) P.length cp] 76) :: (((Hd ++ Hn) ++ Hp) ++ ((g, ob) :: Fr))))) := by simpa using h2
                      exact h3.mid, hg7.trans hg8⟩)
                    clear hrow6 hH7 hg8 hg7 hs1
                    go_wp2_with fail
                    go_roundw
                    case rel => exact HFIN.out
                    case measure => simp [intOf]; omega
                · have hce : ((cn : Int) == 0) = false := by simpa using hc0
                  have HS := Lib.hid (HS0.out.trans (by rw [if_neg (by decide), if_neg (fun h => hc0 h.1)]))
                  clear HS0 hc0
                  have hs1 : Holds (wq.alloc (.cells #[.int .u64 xa, .bool xn, .slice A2 cn c2y] 79)) (Ho ++ ((wq.heap.size, (.cells #[.int .u64 xa, .bool xn, .slice A2 cn c2y] 79)) :: (([(g14, (.cells #[.int .u64 xa, .bool xn, .slice Ax lx cx] 79)), (g16, (.cells #[.int .u64 xa, .bool xn, .slice A2 cn c2y] 79))] ++ [(b, .cells #[.int .i64 size, .slice (some ⟨b1, o, none⟩) P.length cp] 76)]) ++ (((Hd ++ Hn) ++ Hp) ++ ((g, ob) :: Fr))))) := (hH6.alloc (.cells #[.int .u64 xa, .bool xn, .slice A2 cn c2y] 79)).sub (by (repeat' (first | refine sub_append ?_ ?_ | refine sub_cons ?_ ?_ | exact sub_nil)); all_goals first | (intro p hp; simp only [List.mem_append, List.mem_cons, hp, true_or, or_true]) | simp only [List.mem_append, List.mem_cons, true_or, or_true]) (fun b => by simp only [keyc_append, keyc_cons, keyc_nil]; omega)
                  have hg7 := hg6.alloc (.cells #[.int .u64 xa, .bool xn, .slice A2 cn c2y] 79)
                  have HSRC := Lib.hid (ReadsAt.of_block (n := 1) (c := 1) (o := 0) (size := 3) (hs1.get (b := wq.heap.size) (o := (.cells #[.int .u64 xa, .bool xn, .slice A2 cn c2y] 79)) (by simp)) [.int .u64 xa, .bool xn, .slice A2 cn c2y] rfl (by omega) (by simp [maxLen]) (by intro j u hu; simpa using hu))
                  have hel := HEL.out
                  clear hH6
                  go_wp2_with (at_builtin; refine wpList_append_T tPlaces (by rfl) (.tmp 142) (.tmp 144) (by rfl) (by rfl) (by rfl) HROW.out hs1 HSRC.out (by simp [Value.oneCell']) (by simp [maxLen]; omega) (by omega) ?_; intro A' c' w' H' hrow6 hH7 hg8)
                  have HFIN := Lib.hid (show ListR2 P a m z Hp w (b, .cells #[.int .i64 size, .slice (some ⟨b1, o, none⟩) P.length cp] 76) ((g, ob) :: Fr) (.slice A' (Eo.length + 1) c') (.int .i64 ((k : Int) + 1)) w' from ⟨k + 1, Eo ++ [(.slice A2 cn c2y, ⟨xa, xn, cleanF xl⟩)], H', Hd ++ Hn, by go_num, by omega, fun p hp hwp => by
                    rw [HTK.out] at hp
                    rcases List.mem_append.1 hp with hp | hp
                    · exact HPASS.out p hp hwp
                    · rw [List.mem_singleton.1 hp, HS.out]; rfl, by rw [HSN.out, HWI.out, if_pos rfl, HS.out, List.map_append, HEO.out]; rfl, by rw [List.length_append, peC_append]; exact hrow6, fun e he => by
                    rw [List.append_assoc]
                    rcases List.mem_append.1 he with he | he
                    · exact (HFE.out e he).more
                    · rw [List.mem_singleton.1 he]; exact HF2.out, by
                    have h2 : Holds w' (H' ++ (([(g14, (.cells #[.int .u64 xa, .bool xn, .slice Ax lx cx] 79)), (g16, (.cells #[.int .u64 xa, .bool xn, .slice A2 cn c2y] 79))] ++ [(b, .cells #[.int .i64 size, .slice (some ⟨b1, o, none⟩) P.length cp] 76)]) ++ (((Hd ++ Hn) ++ Hp) ++ ((g, ob) :: Fr)))) := Holds.mid (B := [_]) hH7
                    have h3 : Holds w' (H' ++ ([(g14, (.cells #[.int .u64 xa, .bool xn, .slice Ax lx cx] 79)), (g16, (.cells #[.int .u64 xa, .bool xn, .slice A2 cn c2y] 79))] ++ ((b, .cells #[.int .i64 size, .slice (some ⟨b1, o, none⟩) P.length cp] 76) :: (((Hd ++ Hn) ++ Hp) ++ ((g, ob) :: Fr))))) := by simpa using h2
                    exact h3.mid, hg7.trans hg8⟩)
                  clear hrow6 hH7 hg8 hg7 hs1
                  go_wp2_with fail
                  go_roundw
                  case rel => exact HFIN.out
                  case measure => simp [intOf]; omega
            · have hk2 : k = P.length := by omega
              subst hk2
              have hp0 := HPASS.out
              have he0 := HEO.out
              rw [List.take_length] at hp0 he0
              have HRES := Lib.hid (HRY.out hp0)
              have HES : Hid (Eo.map (·.2) = picksR a m z P) := Lib.hid he0
              have hPE : PlacesE (Ho ++ (Hn ++ Hp)) (.slice Ao Eo.length co) Eo := ⟨fun wx hx => HROW.out.reads hx, fun e he => (HFE.out e he).more⟩
              have HPE := Lib.hid hPE
              have hH8 : Holds wr ((b, .cells #[.int .i64 size, .slice Ap P.length cp] 76) :: (([] ++ (Ho ++ (Hn ++ Hp))) ++ ((g, ob) :: Fr))) := hHr.sub (by (repeat' (first | refine sub_append ?_ ?_ | refine sub_cons ?_ ?_ | exact sub_nil)); all_goals first | (intro p hp; simp only [List.mem_append, List.mem_cons, hp, true_or, or_true]) | simp only [List.mem_append, List.mem_cons, true_or, or_true]) (fun b => by simp only [keyc_append, keyc_cons, keyc_nil]; omega)
              have HFP0 : Hid (FrPlaces ([] ++ (Ho ++ (Hn ++ Hp))) (.slice Ap P.length cp) P) := Lib.hid (HL0.out.more (A := Hn)).more
              have hel := HEL.out
              clear hp0 he0 hPE hHr q1 q3 HPASS
              go_wp2_with fail
              clear q4
              go_loopw [17] (fun i wr => ListR3 P (picksR a m z P) (Ho ++ (Hn ++ Hp)) b size w ((g, ob) :: Fr) i wr) (fun i _ => (picksR a m z P).length - (intOf i).toNat)
              case atStart => exact ⟨0, _, [], rfl, by omega, by rw [List.take_zero]; exact HFP0.out, hH8, hgr⟩
              case round =>
                clear hH8 hgr
                obtain ⟨j, pv', Hx, rfl, hj, hfp, hHr, hgr⟩ := hrel
                have HFP := Lib.hid hfp
                have HESL : Hid (Eo.length = (picksR a m z P).length) := Lib.hid (by rw [← HES.out, List.length_map])
                have hjE : j ≤ Eo.length := by rw [HESL.out]; exact hj
                clear hfp hj
                by_cases hlt : j < Eo.length
                · obtain ⟨b1, o, c', hv, hc1, hc2, hcl⟩ := HPE.out.get (w := wr) hHr.tail.assoc.right j hlt
                  injection hv with e1 e2 e3
                  subst e1 e3
                  clear e2
                  obtain ⟨c0, c1, c2⟩ := hcl wr _ hHr.tail.assoc.right
                  have HFB := Lib.hid (HPE.out.2 Eo[j] (List.getElem_mem hlt))
                  have hlS : j < (picksR a m z P).length := by rw [← HESL.out]; exact hlt
                  have HTK := Lib.hid (show ((picksR a m z P).take (j + 1)).foldl putP P = putP (((picksR a m z P).take j).foldl putP P) Eo[j].2 by
                    rw [List.take_succ_eq_append_getElem hlS, List.foldl_append]
                    have : (picksR a m z P)[j] = Eo[j].2 := by
                      have h : (Eo.map (·.2))[j]'(by simpa using hlt) = (picksR a m z P)[j] := by simp only [HES.out]
                      rw [← h]; simp
                    rw [this]; rfl)
                  have HPT := Lib.hid (r18put_any b size pv' (((picksR a m z P).take j).foldl putP P) Eo[j].2 Eo[j].1 (Hx ++ (Ho ++ (Hn ++ Hp))) ((g, ob) :: Fr) wr HFP.out HFB.out.more (by
                    have h1 := foldP_len (S := (picksR a m z P).take j) (P := P)
                    rw [List.length_take] at h1
                    omega) hHr)
                  dsimp only [PV.agg] at HPT
                  generalize Eo[j] = e5 at *
                  obtain ⟨lv5, xa, xn, xl⟩ := e5
                  dsimp only at c0 c1 c2 HPT HTK HFB
                  obtain ⟨A5, c5, hv5, _, _⟩ := HFB.out.sl (w := wr) hHr.tail.assoc.right
                  subst hv5
                  clear hcl hHr
                  go_wp2_with fail
                  refine HPT.out.mono ?_
                  rintro e w5 ⟨rfl, pv2, Hy, hfp2, hH9, hg9⟩
                  have HFIN := Lib.hid (show ListR3 P (picksR a m z P) (Ho ++ (Hn ++ Hp)) b size w ((g, ob) :: Fr) (.int .i64 ((j : Int) + 1)) w5 from ⟨j + 1, pv2, Hy ++ Hx, by go_num, by have := HESL.out; omega, by rw [HTK.out, List.append_assoc]; exact hfp2, by rw [List.append_assoc Hy]; exact hH9, hgr.trans hg9⟩)
                  clear hfp2 hH9 hg9 hgr HPT
                  go_wp2_with fail
                  go_roundw
                  case rel => exact HFIN.out
                  case measure => have := HESL.out; simp [intOf]; omega
                · have hj2 : j = (picksR a m z P).length := by rw [← HESL.out]; omega
                  have HRS := Lib.hid (show (((picksR a m z P).take j).foldl putP P) = (picksR a m z P).foldl putP P by rw [hj2, List.take_length])
                  clear hj2
                  go_wp2_with fail
                  go_ret
                  rw [HRES.out]
                  have h : Holds wr (((b, .cells #[.int .i64 size, pv'] 76) :: (Hx ++ (Ho ++ (Hn ++ Hp)))) ++ ([(g, ob)] ++ Fr)) := hHr
                  refine ⟨rfl, pv', (Hx ++ (Ho ++ Hn)), ?_, ?_, hgr⟩
                  · have h2 := HFP.out
                    rw [HRS.out] at h2
                    simpa using h2
                  · have h3 := h.mid
                    simpa using h3
end Go.Proofs.Ytinfbpldgobmfaa
