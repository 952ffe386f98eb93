/-
  Chapter 18's own answer: put.
-/
import Derived.Test.YtinfbpldgobmfaaR18P
namespace Go.Proofs.Ytinfbpldgobmfaa
open Go.RowKit
set_option linter.unusedSimpArgs false
set_option linter.unusedVariables false

def cleanL (l : List CB) : Bool := l.any fun c => !c.2
theorem cleanL_snoc {l : List CB} {k : Nat} (h : k < l.length) (n : Bool) : (n || cleanL (l.take (k + 1))) = ((n || cleanL (l.take k)) || !l[k].2) := by
  unfold cleanL
  rw [List.take_succ_eq_append_getElem h, List.any_append]
  simp [Bool.or_assoc]
def putStep (q : PV) (s : List PV × Bool) (x : PV) : List PV × Bool :=
  if x.a = q.a then s else if s.2 = false ∧ q.a < x.a then (s.1 ++ [q] ++ [x], true) else (s.1 ++ [x], s.2)
def putTo (P : List PV) (q : PV) : List PV × Bool := P.foldl (putStep q) ([], decide (q.l.length = 0))
def putP (P : List PV) (p : PV) : List PV :=
  let q : PV := ⟨p.a, p.n || cleanL p.l, p.l⟩
  if (putTo P q).2 then (putTo P q).1 else (putTo P q).1 ++ [q]
theorem putTo_snoc {P : List PV} {q : PV} {k : Nat} (h : k < P.length) : putTo (P.take (k + 1)) q = putStep q (putTo (P.take k) q) P[k] := by
  unfold putTo
  rw [List.take_succ_eq_append_getElem h, List.foldl_append]
  rfl
theorem putTo_len {P : List PV} {q : PV} : (putTo P q).1.length ≤ P.length * 2 := by
  have key : ∀ (Q : List PV) (s : List PV × Bool), (Q.foldl (putStep q) s).1.length ≤ s.1.length + Q.length * 2 := by
    intro Q
    induction Q with
    | nil => intro s; simp
    | cons x Q ih =>
      intro s
      have h1 := ih (putStep q s x)
      have h2 : (putStep q s x).1.length ≤ s.1.length + 2 := by
        unfold putStep
        split
        · omega
        · split
          · simp
          · simp
      rw [List.foldl_cons, List.length_cons]
      omega
  have := key P ([], decide (q.l.length = 0))
  simpa [putTo] using this
def PutTo1 (l : List CB) (n : Bool) (a : Int) (lv : Value) (g : Nat) (w : World) (F : HL) (i : Value) (wr : World) : Prop :=
  ∃ k : Nat, i = .int .i64 k ∧ k ≤ l.length ∧ Holds wr ((g, .cells #[.int .u64 a, .bool (n || cleanL (l.take k)), lv] 79) :: F) ∧ Grew w wr
def PutTo2 (P : List PV) (q : PV) (Hp : HL) (w : World) (F : HL) (out dn i : Value) (wr : World) : Prop :=
  ∃ (k : Nat) (Eo : List PE) (Ho : HL), i = .int .i64 k ∧ k ≤ P.length ∧ Eo.map (·.2) = (putTo (P.take k) q).1 ∧ IsRow 79 3 out Eo.length (peC Eo) Ho ∧ (∀ e ∈ Eo, FrCans Hp e.1 e.2.l) ∧ dn = .bool (putTo (P.take k) q).2 ∧ Holds wr (Ho ++ F) ∧ Grew w wr
set_option maxRecDepth 20000 in
set_option maxHeartbeats 8000000 in
theorem r18put_any (b : Nat) (size : Int) (pv : Value) (P : List PV) (p : PV) (lv : Value) (Hp Fr : HL) (w : World) (hl : FrPlaces Hp pv P) (hc : FrCans Hp lv p.l) (hsm : P.length ≤ 10000) (hH : Holds w ((b, .cells #[.int .i64 size, pv] 76) :: (Hp ++ Fr))) :
    Calls Try.prog 60 #[.pointer (some ⟨b, 0, none⟩), p.agg lv] w fun e w' => e = .returned (.tuple #[]) ∧ ∃ pv' Hn, FrPlaces (Hn ++ Hp) pv' (putP P p) ∧ Holds w' ((b, .cells #[.int .i64 size, pv'] 76) :: ((Hn ++ Hp) ++ Fr)) ∧ Grew w w' := by
  have HLV : Hid (FrCans Hp lv p.l) := Lib.hid hc
  have HPP := Lib.hid (show putP P p = if (putTo P ⟨p.a, p.n || cleanL p.l, p.l⟩).2 then (putTo P ⟨p.a, p.n || cleanL p.l, p.l⟩).1 else (putTo P ⟨p.a, p.n || cleanL p.l, p.l⟩).1 ++ [⟨p.a, p.n || cleanL p.l, p.l⟩] from rfl)
  generalize putP P p = res at *
  obtain ⟨E, hE, hE2⟩ := hl
  have HCE := Lib.hid hE2
  have HLE : Hid (E.map (·.2) = P) := Lib.hid hE
  have hlen : E.length = P.length := by rw [← hE, List.length_map]
  obtain ⟨A, c, hpv, hnc, hcm⟩ := hE2.1.val hH.tail
  rw [hlen] at hpv hnc
  subst hpv
  unfold maxLen at hcm
  obtain ⟨C, hC, hC2⟩ := hc
  have HCC := Lib.hid hC2
  have HLC : Hid (C.map (·.2) = p.l) := Lib.hid hC
  have hclen : C.length = p.l.length := by rw [← hC, List.length_map]
  obtain ⟨A1, c1, hlv, hnc1, hcm1⟩ := hC2.1.val hH.tail
  rw [hclen] at hlv hnc1
  subst hlv
  unfold maxLen at hcm1
  obtain ⟨a, n, l⟩ := p
  dsimp only [PV.agg] at *
  have hH1 := hH.alloc (.cells #[.int .u64 a, .bool n, .slice A1 l.length c1] 79)
  have hg1 := (Grew.refl w).alloc (.cells #[.int .u64 a, .bool n, .slice A1 l.length c1] 79)
  clear hE hE2 hC hC2 hH
  go_enter Try.func60, Try.ntmps60
  go_wp2_with fail
  generalize w.alloc (.cells #[.int .u64 a, .bool n, .slice A1 l.length c1] 79) = w0 at *
  generalize w.heap.size = g at *
  go_loopw [4] (fun i wr => PutTo1 l n a (.slice A1 l.length c1) g w ((b, .cells #[.int .i64 size, .slice A P.length c] 76) :: (Hp ++ Fr)) i wr) (fun i _ => l.length - (intOf i).toNat)
  case atStart => exact ⟨0, rfl, by omega, by simpa [cleanL] using hH1, hg1⟩
  case round =>
    clear hH1 hg1
    obtain ⟨k, rfl, hk, hHr, hgr⟩ := hrel
    obtain ⟨o0, o1, o2, f0, f1, f2, _⟩ := openP hHr
    by_cases hlt : k < l.length
    · have hkE : k < C.length := by omega
      obtain ⟨b1, o, c', hv, hc1, hc2, hcl⟩ := HCC.out.get hHr.tail.tail k hkE
      rw [hclen] at hv
      injection hv with e1 e2 e3
      subst e1 e3
      obtain ⟨c0, c2⟩ := hcl wr _ hHr.tail.tail
      have hLk : C[k].2 = l[k] := by
        have : (C.map (·.2))[k]'(by simpa using hkE) = l[k] := by simp only [HLC.out]
        simpa using this
      rw [hLk] at c2
      have HSN := Lib.hid (cleanL_snoc hlt n)
      have hH2 := hHr.set' 1 (.bool ((n || cleanL (l.take k)) || !l[k].2))
      have hg2 := hgr.setCell ⟨g, 1, none⟩ (.bool ((n || cleanL (l.take k)) || !l[k].2))
      have hH3 : Holds (wr.setCell ⟨g, 1, none⟩ (.bool ((n || cleanL (l.take k)) || !l[k].2))) ((g, .cells #[.int .u64 a, .bool ((n || cleanL (l.take k)) || !l[k].2), .slice (some ⟨b1, o, none⟩) l.length c1] 79) :: ((b, .cells #[.int .i64 size, .slice A P.length c] 76) :: (Hp ++ Fr))) := hH2
      have HH3 := Lib.hid hH3
      generalize (n || cleanL (l.take k)) = nk at *
      generalize l[k].2 = y at *
      clear hcl hLk hH2 hHr c0 hH3
      cases nk
      · go_wp2_with fail
        go_roundw
        case rel => exact ⟨k + 1, by go_num, by omega, by rw [HSN.out]; exact HH3.out, hg2⟩
        case measure => simp [intOf]; omega
      · go_wp2_with fail
        go_roundw
        case rel => exact ⟨k + 1, by go_num, by omega, by rw [HSN.out]; exact HH3.out, hg2⟩
        case measure => simp [intOf]; omega
    · have hk2 : k = l.length := by omega
      subst hk2
      rw [List.take_length] at hHr
      generalize hnn : (n || cleanL l) = nn at *
      have hH1 := hHr
      have hg1 := hgr
      have p1 := hH1.tail.hcell 1
      obtain ⟨o0, o1, o2, f0, f1, f2, _⟩ := openP hH1
      have HNN := Lib.hid hnn
      have HTL := Lib.hid (fun k => putTo_len (P := P.take k) (q := ⟨a, nn, l⟩))
      have HD0 : Hid (putTo [] (⟨a, nn, l⟩ : PV) = ([], decide (l.length = 0))) := Lib.hid rfl
      generalize hln : l.length = ln at *
      have HBX : Hid (∀ (wx : World) (X : HL), Holds wx (X ++ ((g, (.cells #[.int .u64 a, .bool nn, .slice A1 ln c1] 79)) :: ((b, .cells #[.int .i64 size, .slice A P.length c] 76) :: (Hp ++ Fr)))) → wx.cell? ⟨g, 0, none⟩ = some (.int .u64 a) ∧ wx.cell? ⟨g, 1, none⟩ = some (.bool nn) ∧ wx.cell? ⟨g, 2, none⟩ = some (.slice A1 ln c1) ∧ wx.cell? ⟨b, 1, none⟩ = some (.slice A P.length c)) := Lib.hid (fun wx X h => ⟨h.right.hcell 0, h.right.hcell 1, h.right.hcell 2, h.right.tail.hcell 1⟩)
      clear hnn hgr hHr hk hlt
      have hd0 : (((ln : Int) == 0) : Bool) = decide (ln = 0) := by
        rw [Bool.eq_iff_iff]; simp
      have HD2 := Lib.hid hd0
      clear hd0
      go_wp2_with fail
      go_loopw [5, 6, 7] (fun out dn i wr => PutTo2 P ⟨a, nn, l⟩ Hp w ((g, (.cells #[.int .u64 a, .bool nn, .slice A1 ln c1] 79)) :: ((b, .cells #[.int .i64 size, .slice A P.length c] 76) :: (Hp ++ Fr))) out dn i wr) (fun _ _ i _ => P.length - (intOf i).toNat)
      case atStart => exact ⟨0, [], [], rfl, by omega, by rw [List.take_zero, HD0.out]; rfl, IsRow.nil _ _, (fun e he => by cases he), by rw [List.take_zero, HD0.out]; exact congrArg Value.bool HD2.out, hH1, hg1⟩
      case round =>
        clear hH1 hg1 o0 o1 o2 f0 f1 f2 p1
        obtain ⟨k, Eo, Ho, rfl, hk, hEo, hrow, hfe, rfl, hHr, hgr⟩ := hrel
        have HROW := Lib.hid hrow
        have HFE := Lib.hid hfe
        have HEO := Lib.hid hEo
        obtain ⟨o0, o1, o2, p1⟩ := HBX.out wr Ho hHr
        obtain ⟨Ao, co, hov⟩ := hrow.val
        subst hov
        have HEL : Hid (Eo.length ≤ 20000) := Lib.hid (by
          have h1 := HTL.out k
          rw [← hEo, List.length_map, List.length_take] at h1
          omega)
        clear hrow hfe hEo
        by_cases hlt : k < P.length
        · have hkE : k < E.length := by omega
          obtain ⟨b1, o, c', hv, hc1, hc2, hcl⟩ := HCE.out.get (Fr := Fr) (w := wr) hHr.right.tail.tail k hkE
          rw [hlen] at hv
          injection hv with e1 e2 e3
          subst e1 e3
          clear e2
          have HCL : Hid (∀ (wx : World) (X : HL), Holds wx (X ++ ((g, (.cells #[.int .u64 a, .bool nn, .slice A1 ln c1] 79)) :: ((b, .cells #[.int .i64 size, .slice (some ⟨b1, o, none⟩) P.length c] 76) :: (Hp ++ Fr)))) → _) := Lib.hid (fun wx X hx => hcl wx Fr hx.right.tail.tail)
          obtain ⟨c0, c1', c2⟩ := HCL.out wr Ho hHr
          have hLk : E[k].2 = P[k] := by
            have : (E.map (·.2))[k]'(by simpa using hkE) = P[k] := by simp only [HLE.out]
            simpa using this
          have hfb := HCE.out.2 E[k] (List.getElem_mem hkE)
          rw [hLk] at hfb c0 c1' HCL
          have HFB := Lib.hid hfb
          have HSN := Lib.hid (putTo_snoc (q := ⟨a, nn, l⟩) hlt)
          have HLX := Lib.hid hlt
          obtain ⟨Ax, cx, hxv, _, _⟩ := hfb.sl (Fr := Fr) hHr.right.tail.tail
          rw [hxv] at HFB c2 HCL
          have HST := Lib.hid (show putStep ⟨a, nn, l⟩ (putTo (P.take k) ⟨a, nn, l⟩) P[k] = if P[k].a = a then putTo (P.take k) ⟨a, nn, l⟩ else if (putTo (P.take k) ⟨a, nn, l⟩).2 = false ∧ a < P[k].a then ((putTo (P.take k) ⟨a, nn, l⟩).1 ++ [⟨a, nn, l⟩] ++ [P[k]], true) else ((putTo (P.take k) ⟨a, nn, l⟩).1 ++ [P[k]], (putTo (P.take k) ⟨a, nn, l⟩).2) from rfl)
          have HSR : Hid (∀ wx Ht, Holds wx (Ht ++ ((g, (.cells #[.int .u64 a, .bool nn, .slice A1 ln c1] 79)) :: ((b, .cells #[.int .i64 size, .slice (some ⟨b1, o, none⟩) P.length c] 76) :: (Hp ++ Fr)))) → wx.cell? ⟨b, 1, none⟩ = some (.slice (some ⟨b1, o, none⟩) P.length c)) := Lib.hid (fun wx Ht h => (HBX.out wx Ht h).2.2.2)
          generalize hXk : P[k] = X at *
          obtain ⟨xa, xn, xl⟩ := X
          dsimp only at c0 c1' HCL HFB HST hxv
          generalize hst : putTo (P.take k) ⟨a, nn, l⟩ = s at *
          obtain ⟨s1, s2⟩ := s
          dsimp only at HST HEO
          have HXL : Hid (xl.length = xl.length) := Lib.hid rfl
          generalize hlx : xl.length = lx at *
          have HLX2 := Lib.hid hlx
          clear hlx hcl hfb hxv hLk hXk hst HXL hlt
          have HH := Lib.hid hHr
          by_cases hx : xa = a
          · have ex : (xa == a) = true := by simpa using hx
            have HR := Lib.hid (HST.out.trans (if_pos hx))
            clear HST
            subst hx
            go_wp2_with fail
            go_quiet (fail)
            go_wp2_with fail
            go_roundw
            case rel => exact ⟨k + 1, Eo, Ho, by go_num, by have := HLX.out; omega, by rw [HSN.out, HR.out]; exact HEO.out, HROW.out, HFE.out, by rw [HSN.out, HR.out], HH.out.drewN nq, hgr.drewN nq⟩
            case measure => have := HLX.out; simp [intOf]; omega
          · have ex : (xa == a) = false := by simpa using hx
            have HR0 := Lib.hid (HST.out.trans (if_neg hx))
            clear HST
            go_wp2_with fail
            go_quiet (fail)
            have hHq := HH.out.drewN nq
            have hgq := hgr.drewN nq
            generalize wr.drewN nq = wq at *
            clear HH hHr hgr o0 o1 o2 p1 c0 c1' c2
            obtain ⟨o0, o1, o2, p1⟩ := HBX.out wq Ho hHq
            obtain ⟨c0, c1', c2⟩ := HCL.out wq Ho hHq
            cases s2 with
            | true =>
              have HR := Lib.hid (HR0.out.trans (if_neg (by simp)))
              clear HR0
              go_wp2_with fail
              go_quiet (fail)
              have hHz := hHq.drewN nq
              have hgz := hgq.drewN nq
              generalize wq.drewN nq = wz at *
              clear hHq hgq o0 o1 o2 p1 c0 c1' c2
              obtain ⟨o0, o1, o2, p1⟩ := HBX.out wz Ho hHz
              obtain ⟨c0, c1', c2⟩ := HCL.out wz Ho hHz
              have hs1 : Holds (wz.alloc (.cells #[.int .u64 xa, .bool xn, .slice Ax lx cx] 79)) (Ho ++ ((wz.heap.size, (.cells #[.int .u64 xa, .bool xn, .slice Ax lx cx] 79)) :: ((g, (.cells #[.int .u64 a, .bool nn, .slice A1 ln c1] 79)) :: ((b, .cells #[.int .i64 size, .slice (some ⟨b1, o, none⟩) P.length c] 76) :: (Hp ++ Fr))))) := Holds.swap (A := [_]) (hHz.alloc (.cells #[.int .u64 xa, .bool xn, .slice Ax lx cx] 79))
              have hg2 := hgz.alloc (.cells #[.int .u64 xa, .bool xn, .slice Ax lx cx] 79)
              have HSRC := Lib.hid (ReadsAt.of_block (n := 1) (c := 1) (o := 0) (size := 3) (hs1.get (b := wz.heap.size) (o := (.cells #[.int .u64 xa, .bool xn, .slice Ax lx cx] 79)) (by simp)) [.int .u64 xa, .bool xn, .slice Ax lx cx] rfl (by omega) (by simp [maxLen]) (by intro j u hu; simpa using hu))
              have hel := HEL.out
              clear hHz hgz
              go_wp2_with (at_builtin; refine wpList_append_T tPlaces (by rfl) (.tmp 70) (.tmp 78) (by rfl) (by rfl) (by rfl) HROW.out hs1 HSRC.out (by simp [Value.oneCell']) (by simp [maxLen]; omega) (by omega) ?_; intro A' c' w' H' hrow6 hH7 hg7)
              have HFIN := Lib.hid (show PutTo2 P ⟨a, nn, l⟩ Hp w ((g, (.cells #[.int .u64 a, .bool nn, .slice A1 ln c1] 79)) :: ((b, .cells #[.int .i64 size, .slice (some ⟨b1, o, none⟩) P.length c] 76) :: (Hp ++ Fr))) (.slice A' (Eo.length + 1) c') (.bool true) (.int .i64 ((k : Int) + 1)) w' from ⟨k + 1, Eo ++ [(.slice Ax lx cx, ⟨xa, xn, xl⟩)], H', by go_num, by have := HLX.out; omega, by rw [HSN.out, HR.out, List.map_append, HEO.out]; rfl, by rw [List.length_append, peC_append]; exact hrow6, fun e he => by
                rcases List.mem_append.1 he with he | he
                · exact HFE.out e he
                · rw [List.mem_singleton.1 he]; exact HFB.out, by rw [HSN.out, HR.out], Holds.mid (B := [_]) hH7, hg2.trans hg7⟩)
              clear hrow6 hH7 hg7 hg2 hs1
              go_wp2_with fail
              go_roundw
              case rel => exact HFIN.out
              case measure => have := HLX.out; simp [intOf]; omega
            | false =>
              by_cases hax : a < xa
              · have HR := Lib.hid (HR0.out.trans (if_pos ⟨rfl, hax⟩))
                clear HR0
                go_wp2_with fail
                go_quiet (fail)
                have hHz := hHq.drewN nq
                have hgz := hgq.drewN nq
                generalize wq.drewN nq = wz at *
                clear hHq hgq o0 o1 o2 p1 c0 c1' c2
                obtain ⟨o0, o1, o2, p1⟩ := HBX.out wz Ho hHz
                obtain ⟨c0, c1', c2⟩ := HCL.out wz Ho hHz
                have hs1 : Holds (wz.alloc (.cells #[.int .u64 a, .bool nn, .slice A1 ln c1] 79)) (Ho ++ ((wz.heap.size, (.cells #[.int .u64 a, .bool nn, .slice A1 ln c1] 79)) :: ((g, (.cells #[.int .u64 a, .bool nn, .slice A1 ln c1] 79)) :: ((b, .cells #[.int .i64 size, .slice (some ⟨b1, o, none⟩) P.length c] 76) :: (Hp ++ Fr))))) := Holds.swap (A := [_]) (hHz.alloc (.cells #[.int .u64 a, .bool nn, .slice A1 ln c1] 79))
                have hg2 := hgz.alloc (.cells #[.int .u64 a, .bool nn, .slice A1 ln c1] 79)
                have HSRC := Lib.hid (ReadsAt.of_block (n := 1) (c := 1) (o := 0) (size := 3) (hs1.get (b := wz.heap.size) (o := (.cells #[.int .u64 a, .bool nn, .slice A1 ln c1] 79)) (by simp)) [.int .u64 a, .bool nn, .slice A1 ln c1] rfl (by omega) (by simp [maxLen]) (by intro j u hu; simpa using hu))
                have hel := HEL.out
                clear hHz hgz
                go_wp2_with (first
                  | (at_builtin; refine wpList_append_T tPlaces (by rfl) (.tmp 66) (.tmp 68) (by rfl) (by rfl) (by rfl) HROW.out hs1 HSRC.out (by simp [Value.oneCell']) (by simp [maxLen]; omega) (by omega) ?_; intro A2' c2' w2' H2' hrow2 hH2 hg3; have hHz : Holds w2' (H2' ++ ((g, (.cells #[.int .u64 a, .bool nn, .slice A1 ln c1] 79)) :: ((b, .cells #[.int .i64 size, .slice (some ⟨b1, o, none⟩) P.length c] 76) :: (Hp ++ Fr)))) := Holds.mid (B := [_]) hH2; have hgz := hg2.trans hg3; have HROW2 : Hid (IsRow 79 3 (.slice A2' (Eo.length + 1) c2') (Eo.length + 1) (peC Eo ++ [.int .u64 a, .bool nn, .slice A1 ln c1]) H2') := Lib.hid hrow2; clear hs1 hg2 HSRC hrow2 hH2 hg3 o0 o1 o2 p1 c0 c1' c2; obtain ⟨o0, o1, o2, p1⟩ := HBX.out w2' H2' hHz; obtain ⟨c0, c1', c2⟩ := HCL.out w2' H2' hHz)
                  | (at_builtin; have hs1 : Holds (w2'.alloc (.cells #[.int .u64 xa, .bool xn, .slice Ax lx cx] 79)) (H2' ++ ((w2'.heap.size, (.cells #[.int .u64 xa, .bool xn, .slice Ax lx cx] 79)) :: ((g, (.cells #[.int .u64 a, .bool nn, .slice A1 ln c1] 79)) :: ((b, .cells #[.int .i64 size, .slice (some ⟨b1, o, none⟩) P.length c] 76) :: (Hp ++ Fr))))) := Holds.swap (A := [_]) (hHz.alloc (.cells #[.int .u64 xa, .bool xn, .slice Ax lx cx] 79)); have hg2 := hgz.alloc (.cells #[.int .u64 xa, .bool xn, .slice Ax lx cx] 79); have HSRC := Lib.hid (ReadsAt.of_block (n := 1) (c := 1) (o := 0) (size := 3) (hs1.get (b := w2'.heap.size) (o := (.cells #[.int .u64 xa, .bool xn, .slice Ax lx cx] 79)) (by simp)) [.int .u64 xa, .bool xn, .slice Ax lx cx] rfl (by omega) (by simp [maxLen]) (by intro j u hu; simpa using hu)); refine wpList_append_T tPlaces (by rfl) (.tmp 70) (.tmp 78) (by rfl) (by rfl) (by rfl) HROW2.out hs1 HSRC.out (by simp [Value.oneCell']) (by simp [maxLen]; omega) (by omega) ?_; intro A' c' w' H' hrow6 hH7 hg7))
                have HFIN := Lib.hid (show PutTo2 P ⟨a, nn, l⟩ Hp w ((g, (.cells #[.int .u64 a, .bool nn, .slice A1 ln c1] 79)) :: ((b, .cells #[.int .i64 size, .slice (some ⟨b1, o, none⟩) P.length c] 76) :: (Hp ++ Fr))) (.slice A' (Eo.length + 1 + 1) c') (.bool true) (.int .i64 ((k : Int) + 1)) w' from ⟨k + 1, Eo ++ [(.slice A1 ln c1, ⟨a, nn, l⟩)] ++ [(.slice Ax lx cx, ⟨xa, xn, xl⟩)], H', by go_num, by have := HLX.out; omega, by rw [HSN.out, HR.out, List.map_append, List.map_append, HEO.out]; rfl, by rw [List.length_append, List.length_append, peC_append, peC_append]; exact hrow6, fun e he => by
                  rcases List.mem_append.1 he with he | he
                  · rcases List.mem_append.1 he with he | he
                    · exact HFE.out e he
                    · rw [List.mem_singleton.1 he]; exact HLV.out
                  · rw [List.mem_singleton.1 he]; exact HFB.out, by rw [HSN.out, HR.out], Holds.mid (B := [_]) hH7, hg2.trans hg7⟩)
                clear hrow6 hH7 hg7 hg2 hs1
                go_wp2_with fail
                go_roundw
                case rel => exact HFIN.out
                case measure => have := HLX.out; simp [intOf]; omega
              · have HR := Lib.hid (HR0.out.trans (if_neg (fun h => hax h.2)))
                clear HR0
                go_wp2_with fail
                go_quiet (fail)
                have hHz := hHq.drewN nq
                have hgz := hgq.drewN nq
                generalize wq.drewN nq = wz at *
                clear hHq hgq o0 o1 o2 p1 c0 c1' c2
                obtain ⟨o0, o1, o2, p1⟩ := HBX.out wz Ho hHz
                obtain ⟨c0, c1', c2⟩ := HCL.out wz Ho hHz
                have hs1 : Holds (wz.alloc (.cells #[.int .u64 xa, .bool xn, .slice Ax lx cx] 79)) (Ho ++ ((wz.heap.size, (.cells #[.int .u64 xa, .bool xn, .slice Ax lx cx] 79)) :: ((g, (.cells #[.int .u64 a, .bool nn, .slice A1 ln c1] 79)) :: ((b, .cells #[.int .i64 size, .slice (some ⟨b1, o, none⟩) P.length c] 76) :: (Hp ++ Fr))))) := Holds.swap (A := [_]) (hHz.alloc (.cells #[.int .u64 xa, .bool xn, .slice Ax lx cx] 79))
                have hg2 := hgz.alloc (.cells #[.int .u64 xa, .bool xn, .slice Ax lx cx] 79)
                have HSRC := Lib.hid (ReadsAt.of_block (n := 1) (c := 1) (o := 0) (size := 3) (hs1.get (b := wz.heap.size) (o := (.cells #[.int .u64 xa, .bool xn, .slice Ax lx cx] 79)) (by simp)) [.int .u64 xa, .bool xn, .slice Ax lx cx] rfl (by omega) (by simp [maxLen]) (by intro j u hu; simpa using hu))
                have hel := HEL.out
                clear hHz hgz
                go_wp2_with (at_builtin; refine wpList_append_T tPlaces (by rfl) (.tmp 70) (.tmp 78) (by rfl) (by rfl) (by rfl) HROW.out hs1 HSRC.out (by simp [Value.oneCell']) (by simp [maxLen]; omega) (by omega) ?_; intro A' c' w' H' hrow6 hH7 hg7)
                have HFIN := Lib.hid (show PutTo2 P ⟨a, nn, l⟩ Hp w ((g, (.cells #[.int .u64 a, .bool nn, .slice A1 ln c1] 79)) :: ((b, .cells #[.int .i64 size, .slice (some ⟨b1, o, none⟩) P.length c] 76) :: (Hp ++ Fr))) (.slice A' (Eo.length + 1) c') (.bool false) (.int .i64 ((k : Int) + 1)) w' from ⟨k + 1, Eo ++ [(.slice Ax lx cx, ⟨xa, xn, xl⟩)], H', by go_num, by have := HLX.out; omega, by rw [HSN.out, HR.out, List.map_append, HEO.out]; rfl, by rw [List.length_append, peC_append]; exact hrow6, fun e he => by
                  rcases List.mem_append.1 he with he | he
                  · exact HFE.out e he
                  · rw [List.mem_singleton.1 he]; exact HFB.out, by rw [HSN.out, HR.out], Holds.mid (B := [_]) hH7, hg2.trans hg7⟩)
                clear hrow6 hH7 hg7 hg2 hs1
                go_wp2_with fail
                go_roundw
                case rel => exact HFIN.out
                case measure => have := HLX.out; simp [intOf]; omega
        · have hk2 : k = P.length := by omega
          subst hk2
          rw [List.take_length] at HEO ⊢
          have HEL2 := HEL.out
          generalize hst : putTo P ⟨a, nn, l⟩ = s at *
          obtain ⟨s1, s2⟩ := s
          dsimp only at HEO HPP
          have HH := Lib.hid hHr
          clear hst hHr hk hlt
          cases s2 with
          | true =>
            have HR := Lib.hid (HPP.out.trans (if_pos rfl))
            have hB : Holds wr ((b, .cells #[.int .i64 size, .slice A P.length c] 76) :: (Ho ++ ((g, (.cells #[.int .u64 a, .bool nn, .slice A1 ln c1] 79)) :: (Hp ++ Fr)))) := HH.out.sub (by (repeat' (first | refine sub_append ?_ ?_ | refine sub_cons ?_ ?_ | exact sub_nil)); all_goals first | (intro p hp; simp only [List.mem_append, List.mem_cons, hp, true_or, or_true]) | simp only [List.mem_append, List.mem_cons, true_or, or_true]) (fun b => by simp only [keyc_append, keyc_cons, keyc_nil]; omega)
            have b1f := hB.hfrozen 1
            have hB2 := hB.set' 1 (.slice Ao Eo.length co)
            have hg2 := hgr.setCell ⟨b, 1, none⟩ (.slice Ao Eo.length co)
            have HB2 := Lib.hid hB2
            clear hB hB2 HPP
            go_wp2_with fail
            go_end0
            refine ⟨rfl, .slice Ao Eo.length co, Ho ++ [(g, (.cells #[.int .u64 a, .bool nn, .slice A1 ln c1] 79))], ⟨Eo, by rw [HR.out]; exact HEO.out, ?_, fun e he => (HFE.out e he).more⟩, ?_, hg2⟩
            · intro wx hx
              exact HROW.out.reads (Fr := [(g, (.cells #[.int .u64 a, .bool nn, .slice A1 ln c1] 79))] ++ Hp) (by simpa using hx)
            · simpa using HB2.out
          | false =>
            have HR := Lib.hid (HPP.out.trans (if_neg (by simp)))
            have hs1 : Holds (wr.alloc (.cells #[.int .u64 a, .bool nn, .slice A1 ln c1] 79)) (Ho ++ ((wr.heap.size, (.cells #[.int .u64 a, .bool nn, .slice A1 ln c1] 79)) :: ((g, (.cells #[.int .u64 a, .bool nn, .slice A1 ln c1] 79)) :: ((b, .cells #[.int .i64 size, .slice A P.length c] 76) :: (Hp ++ Fr))))) := Holds.swap (A := [_]) (HH.out.alloc (.cells #[.int .u64 a, .bool nn, .slice A1 ln c1] 79))
            have hg2 := hgr.alloc (.cells #[.int .u64 a, .bool nn, .slice A1 ln c1] 79)
            have HSRC := Lib.hid (ReadsAt.of_block (n := 1) (c := 1) (o := 0) (size := 3) (hs1.get (b := wr.heap.size) (o := (.cells #[.int .u64 a, .bool nn, .slice A1 ln c1] 79)) (by simp)) [.int .u64 a, .bool nn, .slice A1 ln c1] rfl (by omega) (by simp [maxLen]) (by intro j u hu; simpa using hu))
            clear HPP HH hgr
            go_wp2_with (at_builtin; refine wpList_append_T tPlaces (by rfl) (.tmp 82) (.tmp 84) (by rfl) (by rfl) (by rfl) HROW.out hs1 HSRC.out (by simp [Value.oneCell']) (by simp [maxLen]; omega) (by omega) ?_; intro A2' c2' w2' H2' hrow2 hH2 hg3; have hB : Holds w2' ((b, .cells #[.int .i64 size, .slice A P.length c] 76) :: (H2' ++ ((wr.heap.size, (.cells #[.int .u64 a, .bool nn, .slice A1 ln c1] 79)) :: ((g, (.cells #[.int .u64 a, .bool nn, .slice A1 ln c1] 79)) :: (Hp ++ Fr))))) := hH2.sub (by (repeat' (first | refine sub_append ?_ ?_ | refine sub_cons ?_ ?_ | exact sub_nil)); all_goals first | (intro p hp; simp only [List.mem_append, List.mem_cons, hp, true_or, or_true]) | simp only [List.mem_append, List.mem_cons, true_or, or_true]) (fun b => by simp only [keyc_append, keyc_cons, keyc_nil]; omega); have b1f := hB.hfrozen 1; have b1c := hB.hcell 1)
            have hB2 := hB.set' 1 (.slice A2' (Eo.length + 1) c2')
            have hg4 := (hg2.trans hg3).setCell ⟨b, 1, none⟩ (.slice A2' (Eo.length + 1) c2')
            have HB2 := Lib.hid hB2
            have HROW2 := Lib.hid hrow2
            clear hB hB2 hH2 hrow2 hs1
            go_end0
            refine ⟨rfl, .slice A2' (Eo.length + 1) c2', H2' ++ [(wr.heap.size, (.cells #[.int .u64 a, .bool nn, .slice A1 ln c1] 79)), (g, (.cells #[.int .u64 a, .bool nn, .slice A1 ln c1] 79))], ⟨Eo ++ [(.slice A1 ln c1, ⟨a, nn, l⟩)], by rw [HR.out, List.map_append, HEO.out]; rfl, ?_, fun e he => ?_⟩, ?_, hg4⟩
            · intro wx hx
              have h := HROW2.out.reads (w := wx) (Fr := [(wr.heap.size, (.cells #[.int .u64 a, .bool nn, .slice A1 ln c1] 79)), (g, (.cells #[.int .u64 a, .bool nn, .slice A1 ln c1] 79))] ++ Hp) (by simpa using hx)
              rw [List.length_append, peC_append]
              exact h
            · rcases List.mem_append.1 he with he | he
              · exact (HFE.out e he).more
              · rw [List.mem_singleton.1 he]; exact HLV.out.more
            · simpa using HB2.out
end Go.Proofs.Ytinfbpldgobmfaa
