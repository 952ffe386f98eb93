/-
  Package store: Head, Get, Drop.
-/
import Derived.Test.YtoelopghilbfeaaGreatSt13
import Derived.Laws.ResultCell
namespace Go.Proofs.YtoelopghilbfeaaGreat
open Go.RowKit
set_option linter.unusedSimpArgs false
set_option linter.unusedVariables false

variable {b cb g cap : Nat} {mv : Value} {c : CM} {s : SM} {H Hc Fr : HL} {w : World}
set_option maxRecDepth 20000 in
theorem head_nil (n : Int) (w : World) (Fr : HL) (hH : Holds w Fr) : Calls Tryz.prog 31 #[.pointer none, .int .i64 n] w (RetFr (.tuple #[Hd.zero.agg, .bool false]) w Fr) := by
  have hH1 := hH.alloc (.cells #[.int .i64 0, .int .u64 0, .int .i64 0, .int .i64 0] 37)
  have hg1 := (Grew.refl w).alloc (.cells #[.int .i64 0, .int .u64 0, .int .i64 0, .int .i64 0] 37)
  clear hH
  simp only [Hd.agg, Hd.cells, Hd.zero]
  go_enter Tryz.func31, Tryz.ntmps31
  go_wp2_with fail
  refine bodyPost_ret (v := .tuple #[.agg #[.int .i64 0, .int .u64 0, .int .i64 0, .int .i64 0], .bool false]) (by rw [results_cell_tmp rfl]; go_simp) rfl ⟨rfl, ?_, ?_⟩
  · exact hH1.tail
  · exact hg1
set_option maxRecDepth 20000 in
set_option maxHeartbeats 2000000 in
theorem head_any (n : Int) (h : StAt b cb s H) (hH : Holds w (H ++ Fr)) (hn : 0 ≤ n) (hn1 : n ≤ 9223372036854775807) : Calls Tryz.prog 31 #[.pointer (some ⟨b, 0, none⟩), .int .i64 n] w (RetFr (.tuple #[((lookS s.hs n).getD Hd.zero).agg, .bool (lookS s.hs n).isSome]) w (H ++ Fr)) := by
  obtain ⟨yb, mb, hcl, hlk⟩ := h.look
  have HLK := Lib.hid (fun (wx : World) (F : HL) (hx : Holds wx (H ++ F)) => hlk n wx F hx hn hn1)
  have HCL := Lib.hid hcl
  generalize lookS s.hs n = q at *
  generalize hq : q.getD Hd.zero = r at *
  generalize q.isSome = z at *
  obtain ⟨hdk, hda, hds, hdg⟩ := r
  simp only [Hd.agg, Hd.cells] at HLK ⊢
  have hH1 := hH.alloc (.cells #[.int .i64 0, .int .u64 0, .int .i64 0, .int .i64 0] 37)
  have hg1 := (Grew.refl w).alloc (.cells #[.int .i64 0, .int .u64 0, .int .i64 0, .int .i64 0] 37)
  clear h hH hcl hlk hq
  go_enter Tryz.func31, Tryz.ntmps31
  go_upto_region 3 with fail
  generalize w.alloc (.cells #[.int .i64 0, .int .u64 0, .int .i64 0, .int .i64 0] 37) = w1 at *
  generalize w.heap.size = gh at *
  have hH2 : Holds w1 (H ++ (Fr ++ [(gh, .cells #[.int .i64 0, .int .u64 0, .int .i64 0, .int .i64 0] 37)])) := hH1.sub (by (repeat' (first | refine sub_append ?_ ?_ | refine sub_cons ?_ ?_ | exact sub_nil)); all_goals first | (intro p hp; simp only [List.mem_append, List.mem_cons, hp, true_or, or_true]) | simp only [List.mem_append, List.mem_cons, true_or, or_true]) (fun b => by simp only [keyc_append, keyc_cons, keyc_nil]; omega)
  have hlk := HLK.out w1 _ hH2
  obtain ⟨x0, x1, x2, x3, x4, x5, x6⟩ := HCL.out w1 _ hH2
  have hH3 := hH1.alloc (.cells #[.int .i64 hdk, .int .u64 hda, .int .i64 hds, .int .i64 hdg] 37)
  have hg3 := hg1.alloc (.cells #[.int .i64 hdk, .int .u64 hda, .int .i64 hds, .int .i64 hdg] 37)
  clear hH1 hg1 hH2
  go_upto_region 4 with fail
  generalize w1.alloc (.cells #[.int .i64 hdk, .int .u64 hda, .int .i64 hds, .int .i64 hdg] 37) = w2 at *
  generalize w1.heap.size = g2 at *
  obtain ⟨s0, s1, s2, s3, _⟩ := hH3.get4
  obtain ⟨r0, r1, r2, r3, f0, f1, f2, f3⟩ := hH3.tail.get4
  have rl := hH3.tail.hlt
  have hH4 := Holds.set4 (hH3.tail) (.int .i64 hdk) (.int .u64 hda) (.int .i64 hds) (.int .i64 hdg)
  have hg4 := hg3.set4 gh (.int .i64 hdk) (.int .u64 hda) (.int .i64 hds) (.int .i64 hdg)
  have HH3 := Lib.hid hH3
  clear hH3 x0 x1 x2 x3 x4 x5 x6
  go_wp2_with fail
  obtain ⟨t0, t1, t2, t3, _⟩ := hH4.get4
  refine bodyPost_ret (v := .tuple #[.agg #[.int .i64 hdk, .int .u64 hda, .int .i64 hds, .int .i64 hdg], .bool z]) (by rw [results_cell_tmp rfl]; go_simp) rfl ⟨rfl, ?_, ?_⟩
  · exact hH4.tail
  · exact hg4
/-- returned bytes, a head and an error; the chip is another one -/
def RetGet (cb g cap : Nat) (mv : Value) (r : CM × List UInt8 × Hd × Int) (w : World) (H Fr : HL) (e : Ending) (w' : World) : Prop :=
  ∃ v Hv ve He Hc', e = .returned (.tuple #[v, r.2.2.1.agg, ve]) ∧ IsBytes v r.2.1 Hv ∧ IsErr ve r.2.2.2 He ∧ ChipAt cb g cap mv r.1 Hc' ∧ Holds w' (H ++ (Hc' ++ (Hv ++ (He ++ Fr)))) ∧ Grew w w'
def getS (s : SM) (c : CM) (n : Int) : CM × List UInt8 × Hd × Int :=
  if (askedS s n).2.2 ≠ 0 then (c, [], Hd.zero, (askedS s n).2.2)
  else if (c.read (askedS s n).1 (askedS s n).2.1).2.2 ≠ 0 then ((c.read (askedS s n).1 (askedS s n).2.1).1, [], Hd.zero, (c.read (askedS s n).1 (askedS s n).2.1).2.2)
  else match readF (c.read (askedS s n).1 (askedS s n).2.1).2.1 with
    | some q => ((c.read (askedS s n).1 (askedS s n).2.1).1, q.1, q.2, 0)
    | none => ((c.read (askedS s n).1 (askedS s n).2.1).1, [], Hd.zero, 0)
theorem results_tct2 {fn : Func} {p q r : Tmp} {ty : TypeId} (h : fn.results = #[.tmp p, .cell q ty, .tmp r]) (tmps : Array Value) (P : Program) (w : World) :
    (results fn tmps).run P w = ((asAddr (tmps.getD q undef)).run P w).andThen fun a w₁ => ((loadVar ty a).run P w₁).andThen fun v w₂ => .ok (.tuple #[tmps.getD p undef, v, tmps.getD r undef]) w₂ := results_tct h tmps P w
set_option maxRecDepth 20000 in
set_option maxHeartbeats 2000000 in
theorem get_nil (n : Int) (w : World) (Fr : HL) (hH : Holds w Fr) : Calls Tryz.prog 23 #[.pointer none, .int .i64 n] w (fun e w' => ∃ ve He, e = .returned (.tuple #[.slice none 0 0, Hd.zero.agg, ve]) ∧ IsErr ve 1 He ∧ Holds w' (He ++ Fr) ∧ Grew w w') := by
  have hH1 := hH.alloc (.cells #[.int .i64 0, .int .u64 0, .int .i64 0, .int .i64 0] 37)
  have hg1 := (Grew.refl w).alloc (.cells #[.int .i64 0, .int .u64 0, .int .i64 0, .int .i64 0] 37)
  have HA := Lib.hid (asked_nil n _ _ hH1)
  have k1 := err_ne
  clear hH hH1
  simp only [Hd.agg, Hd.cells, Hd.zero]
  go_enter Tryz.func23, Tryz.ntmps23
  go_upto_region 2 with fail
  refine HA.out.mono ?_
  rintro e w1 ⟨ve, He, rfl, he, hH2, hg2⟩
  obtain ⟨be, se, rfl, rfl⟩ := isErrP8 he (by decide)
  have HE := Lib.hid he
  have hH3 : Holds w1 ((w.heap.size, .cells #[.int .i64 0, .int .u64 0, .int .i64 0, .int .i64 0] 37) :: ([(be, .cells #[.int .i64 1, .string se] 119)] ++ Fr)) := hH2.sub (by (repeat' (first | refine sub_append ?_ ?_ | refine sub_cons ?_ ?_ | exact sub_nil)); all_goals first | (intro p hp; simp only [List.mem_append, List.mem_cons, hp, true_or, or_true]) | simp only [List.mem_append, List.mem_cons, true_or, or_true]) (fun b => by simp only [keyc_append, keyc_cons, keyc_nil]; omega)
  obtain ⟨r0, r1, r2, r3, f0, f1, f2, f3⟩ := hH3.get4
  have rl := hH3.hlt
  have hH4 := Holds.set4 hH3 (.int .i64 0) (.int .u64 0) (.int .i64 0) (.int .i64 0)
  have hg4 := (hg1.trans hg2).set4 w.heap.size (.int .i64 0) (.int .u64 0) (.int .i64 0) (.int .i64 0)
  have HH4 := Lib.hid hH4
  clear he hH2 hH3 HA hH4
  go_wp2_with fail
  obtain ⟨t0, t1, t2, t3, _⟩ := HH4.out.get4
  exact bodyPost_ret (v := .tuple #[.slice none 0 0, .agg #[.int .i64 0, .int .u64 0, .int .i64 0, .int .i64 0], .iface 117 (.pointer (some ⟨be, 0, none⟩))]) (by rw [results_tct rfl]; go_simp) rfl ⟨_, _, rfl, HE.out, HH4.out.tail, hg4⟩
set_option maxRecDepth 20000 in
set_option maxHeartbeats 4000000 in
theorem get_any (n : Int) (h : StAt b cb s H) (hch : ChipAt cb g cap mv c Hc) (hH : Holds w (H ++ (Hc ++ Fr))) (hops : c.ops ≤ 999999999999) : Calls Tryz.prog 23 #[.pointer (some ⟨b, 0, none⟩), .int .i64 n] w (RetGet cb g cap mv (getS s c n) w H Fr) := by
  have hH1 := hH.alloc (.cells #[.int .i64 0, .int .u64 0, .int .i64 0, .int .i64 0] 37)
  have hg1 := (Grew.refl w).alloc (.cells #[.int .i64 0, .int .u64 0, .int .i64 0, .int .i64 0] 37)
  have hH2 : Holds (w.alloc (.cells #[.int .i64 0, .int .u64 0, .int .i64 0, .int .i64 0] 37)) (H ++ (Hc ++ (Fr ++ [(w.heap.size, .cells #[.int .i64 0, .int .u64 0, .int .i64 0, .int .i64 0] 37)]))) := hH1.sub (by (repeat' (first | refine sub_append ?_ ?_ | refine sub_cons ?_ ?_ | exact sub_nil)); all_goals first | (intro p hp; simp only [List.mem_append, List.mem_cons, hp, true_or, or_true]) | simp only [List.mem_append, List.mem_cons, true_or, or_true]) (fun b => by simp only [keyc_append, keyc_cons, keyc_nil]; omega)
  have HA := Lib.hid (asked_any n h hH2)
  have HCH := Lib.hid hch
  have HO := Lib.hid hops
  have HR := Lib.hid (show getS s c n = if (askedS s n).2.2 ≠ 0 then (c, [], Hd.zero, (askedS s n).2.2)
    else if (c.read (askedS s n).1 (askedS s n).2.1).2.2 ≠ 0 then ((c.read (askedS s n).1 (askedS s n).2.1).1, [], Hd.zero, (c.read (askedS s n).1 (askedS s n).2.1).2.2)
    else match readF (c.read (askedS s n).1 (askedS s n).2.1).2.1 with
      | some q => ((c.read (askedS s n).1 (askedS s n).2.1).1, q.1, q.2, 0)
      | none => ((c.read (askedS s n).1 (askedS s n).2.1).1, [], Hd.zero, 0) from rfl)
  generalize getS s c n = res at *
  generalize askedS s n = ak at *
  obtain ⟨ab, ap, acode⟩ := ak
  dsimp only at *
  obtain ⟨yb, mb, hcl⟩ := h.cells
  have HCL := Lib.hid hcl
  have k1 := err_ne
  have k2 := nil_ne
  clear hH hH1 hH2 h hch hops hcl
  go_enter Tryz.func23, Tryz.ntmps23
  go_upto_region 2 with fail
  generalize w.alloc (.cells #[.int .i64 0, .int .u64 0, .int .i64 0, .int .i64 0] 37) = w0 at *
  generalize w.heap.size = gh at *
  refine HA.out.mono ?_
  rintro e w1 ⟨ve, He, rfl, he, hH2, hg2⟩
  dsimp only at he
  have HE := Lib.hid he
  have hG2 := hg1.trans hg2
  clear hg1 hg2 HA
  by_cases hc : acode = 0
  · subst hc
    obtain ⟨rfl, rfl⟩ := isErr0 he
    clear he
    rw [if_neg (by simp)] at HR
    have hH3 : Holds w1 (H ++ (Hc ++ (Fr ++ [(gh, .cells #[.int .i64 0, .int .u64 0, .int .i64 0, .int .i64 0] 37)]))) := hH2
    obtain ⟨x0, x1, x2, x3, x4, x5, x6⟩ := HCL.out w1 _ hH3
    have HRD := Lib.hid (nread_any ab ap HCH.out (hH3.swap) (by have := HO.out; omega))
    have HRL := Lib.hid (read_len HCH.out.cok ab ap)
    clear hH2 hH3
    generalize c.read ab ap = rd at *
    obtain ⟨c4, raw, code⟩ := rd
    dsimp only at *
    go_upto_region 5 with fail
    refine HRD.out.mono ?_
    rintro e w4 ⟨vr, ve4, Hc4, Hv, He4, G4, rfl, hv, he4, hch4, hH5, hg5⟩
    dsimp only at hv he4 hch4
    have HCX := Lib.hid hch4
    have HV := Lib.hid hv
    have HE := Lib.hid he4
    have hGX := hG2.trans hg5
    have hHX : Holds w4 ((gh, .cells #[.int .i64 0, .int .u64 0, .int .i64 0, .int .i64 0] 37) :: (H ++ (Hc4 ++ (Hv ++ (He4 ++ Fr))))) := hH5.sub (by (repeat' (first | refine sub_append ?_ ?_ | refine sub_cons ?_ ?_ | exact sub_nil)); all_goals first | (intro p hp; simp only [List.mem_append, List.mem_cons, hp, true_or, or_true]) | simp only [List.mem_append, List.mem_cons, true_or, or_true]) (fun b => by simp only [keyc_append, keyc_cons, keyc_nil]; omega)
    clear hv hch4 hH5 hg5 hG2 HRD x0 x1 x2 x3 x4 x5 x6
    by_cases hc4 : code = 0
    · subst hc4
      obtain ⟨rfl, rfl⟩ := isErr0 he4
      clear he4
      rw [if_neg (by simp)] at HR
      have hH6 : Holds w4 (H ++ (Hc4 ++ (Hv ++ (Fr ++ [(gh, .cells #[.int .i64 0, .int .u64 0, .int .i64 0, .int .i64 0] 37)])))) := hHX.sub (by (repeat' (first | refine sub_append ?_ ?_ | refine sub_cons ?_ ?_ | exact sub_nil)); all_goals first | (intro p hp; simp only [List.mem_append, List.mem_cons, hp, true_or, or_true]) | simp only [List.mem_append, List.mem_cons, true_or, or_true]) (fun b => by simp only [keyc_append, keyc_cons, keyc_nil]; omega)
      have HHD := Lib.hid (read_any vr raw w4 _ (fun wx hx => HV.out.at_ (hx.sub (by (repeat' (first | refine sub_append ?_ ?_ | refine sub_cons ?_ ?_ | exact sub_nil)); all_goals first | (intro p hp; simp only [List.mem_append, List.mem_cons, hp, true_or, or_true]) | simp only [List.mem_append, List.mem_cons, true_or, or_true]) (fun b => by simp only [keyc_append, keyc_cons, keyc_nil]; omega) : Holds wx (Hv ++ (H ++ (Hc4 ++ (Fr ++ [(gh, .cells #[.int .i64 0, .int .u64 0, .int .i64 0, .int .i64 0] 37)])))))) hH6 (by have := HRL.out; omega))
      clear hH6 hHX
      cases hrf : readF raw with
      | none =>
        rw [hrf] at HHD HR
        have HR2 := Lib.hid (show res = (c4, [], Hd.zero, 0) from HR.out)
        clear hrf
        go_upto_region 8 with fail
        refine HHD.out.mono ?_
        rintro e w5 ⟨st, hst1, rfl, hH6, hg6⟩
        simp only [Hd.agg, Hd.cells, Hd.zero]
        go_upto_region 8 with fail
        have hH7 := hH6.alloc (.cells #[.int .i64 0, .int .u64 0, .int .i64 0, .int .i64 0] 37)
        have hG7 := (hGX.trans hg6).alloc (.cells #[.int .i64 0, .int .u64 0, .int .i64 0, .int .i64 0] 37)
        clear hH6 hg6 hGX
        generalize w5.alloc (.cells #[.int .i64 0, .int .u64 0, .int .i64 0, .int .i64 0] 37) = w6 at *
        generalize w5.heap.size = g2 at *
        have hH8 : Holds w6 ((gh, .cells #[.int .i64 0, .int .u64 0, .int .i64 0, .int .i64 0] 37) :: ((g2, .cells #[.int .i64 0, .int .u64 0, .int .i64 0, .int .i64 0] 37) :: (H ++ (Hc4 ++ (([] : HL) ++ Fr))))) := hH7.sub (by (repeat' (first | refine sub_append ?_ ?_ | refine sub_cons ?_ ?_ | exact sub_nil)); all_goals first | (intro p hp; simp only [List.mem_append, List.mem_cons, hp, true_or, or_true]) | simp only [List.mem_append, List.mem_cons, true_or, or_true]) (fun b => by simp only [keyc_append, keyc_cons, keyc_nil]; omega)
        clear hH7
        have HSW := Lib.hid (fun (wx : World) (hX : Holds wx ((gh, .cells #[.int .i64 0, .int .u64 0, .int .i64 0, .int .i64 0] 37) :: ((g2, .cells #[.int .i64 0, .int .u64 0, .int .i64 0, .int .i64 0] 37) :: (H ++ (Hc4 ++ (([] : HL) ++ Fr)))))) => show wx.cell? ⟨g2, 0, none⟩ = some (.int .i64 0) ∧ wx.cell? ⟨g2, 1, none⟩ = some (.int .u64 0) ∧ wx.cell? ⟨g2, 2, none⟩ = some (.int .i64 0) ∧ wx.cell? ⟨g2, 3, none⟩ = some (.int .i64 0) from ⟨hX.tail.hcell 0, hX.tail.hcell 1, hX.tail.hcell 2, hX.tail.hcell 3⟩)
        refine Y_begin (fun wx => wx.cell? ⟨g2, 0, none⟩ = some (.int .i64 0) ∧ wx.cell? ⟨g2, 1, none⟩ = some (.int .u64 0) ∧ wx.cell? ⟨g2, 2, none⟩ = some (.int .i64 0) ∧ wx.cell? ⟨g2, 3, none⟩ = some (.int .i64 0)) 3 (by kernel_rfl) (fun w1 hd => HSW.out _ (hH8.dr hd)) (fun w1 hd hs => ?_)
        have hHc := hH8.dr hd; have hGc := hG7.trans (Grew.dr hd); clear hd hH8 hG7
        refine Y_takeT 0 (some 45) (v := ?_) rfl rfl (by kernel_rfl) (fun _ _ _ h => h) (by rfl) hs ?_ ?_
        rotate_left
        · intro wx; go_simp; try with_reducible rfl
        simp only [Act.put, List.setIfInBounds_toArray, List.set_cons_succ, List.set_cons_zero]
        refine Y_takeD 1 (some 46) (v := ?_) rfl rfl (by kernel_rfl) (fun _ _ _ h => h) (by rfl) hs ?_ ?_
        rotate_left
        · intro wx hx; obtain ⟨s0, s1, s2, s3⟩ := hx; go_simp; try with_reducible rfl
        simp only [Act.put, List.setIfInBounds_toArray, List.set_cons_succ, List.set_cons_zero]
        refine Y_takeT 2 (some 4) (v := ?_) rfl rfl (by kernel_rfl) (fun _ _ _ h => h) (by rfl) hs ?_ ?_
        rotate_left
        · intro wx; go_simp; try with_reducible rfl
        simp only [Act.put, List.setIfInBounds_toArray, List.set_cons_succ, List.set_cons_zero]
        refine Y_late 3 rfl (by kernel_rfl) (by kernel_rfl) (fun K hK => ?_)
        have ⟨s0, s1, s2, s3⟩ := hs
        obtain ⟨r0, r1, r2, r3, f0, f1, f2, f3⟩ := hHc.get4; have rl := hHc.hlt; have hH9 := Holds.set4 hHc (.int .i64 0) (.int .u64 0) (.int .i64 0) (.int .i64 0); have hg9 := hGc.set4 gh (.int .i64 0) (.int .u64 0) (.int .i64 0) (.int .i64 0); go_simp; clear r0 r1 r2 r3 f0 f1 f2 f3 hHc hGc   -- store
        clear s0 s1 s2 s3 hs
        refine hK _ _ ?_; clear hK K
        refine Y_late 4 rfl (by kernel_rfl) (by kernel_rfl) (fun K hK => ?_)
        go_simp   -- assign
        refine hK _ _ ?_; clear hK K
        refine Y_done (by kernel_rfl) ?_ _
        have HH9 := Lib.hid hH9
        clear hH9
        go_wp2_with fail
        obtain ⟨t0, t1, t2, t3, _⟩ := HH9.out.get4
        rw [HR2.out]
        refine bodyPost_ret (v := .tuple #[.slice none 0 0, .agg #[.int .i64 0, .int .u64 0, .int .i64 0, .int .i64 0], .nilIface]) (by rw [results_tct rfl]; go_simp) rfl ⟨_, ([] : HL), _, [], _, rfl, (IsRow.nil _ _), IsErr.none, HCX.out, HH9.out.sub (by (repeat' (first | refine sub_append ?_ ?_ | refine sub_cons ?_ ?_ | exact sub_nil)); all_goals first | (intro p hp; simp only [List.mem_append, List.mem_cons, hp, true_or, or_true]) | simp only [List.mem_append, List.mem_cons, true_or, or_true]) (fun b => by simp only [keyc_append, keyc_cons, keyc_nil]; omega), hg9⟩
      | some q =>
        rw [hrf] at HHD HR
        obtain ⟨dq, hdk, hda, hds, hdg⟩ := q
        have HR2 := Lib.hid (show res = (c4, dq, ⟨hdk, hda, hds, hdg⟩, 0) from HR.out)
        clear hrf
        go_upto_region 8 with fail
        refine HHD.out.mono ?_
        rintro e w5 ⟨vd, Hd5, rfl, hd5, hH6, hg6⟩
        dsimp only at hd5
        have HD5 := Lib.hid hd5
        clear hd5
        simp only [Hd.agg, Hd.cells]
        go_upto_region 8 with fail
        have hH7 := hH6.alloc (.cells #[.int .i64 hdk, .int .u64 hda, .int .i64 hds, .int .i64 hdg] 37)
        have hG7 := (hGX.trans hg6).alloc (.cells #[.int .i64 hdk, .int .u64 hda, .int .i64 hds, .int .i64 hdg] 37)
        clear hH6 hg6 hGX
        generalize w5.alloc (.cells #[.int .i64 hdk, .int .u64 hda, .int .i64 hds, .int .i64 hdg] 37) = w6 at *
        generalize w5.heap.size = g2 at *
        have hH8 : Holds w6 ((gh, .cells #[.int .i64 0, .int .u64 0, .int .i64 0, .int .i64 0] 37) :: ((g2, .cells #[.int .i64 hdk, .int .u64 hda, .int .i64 hds, .int .i64 hdg] 37) :: (H ++ (Hc4 ++ (Hd5 ++ Fr))))) := hH7.sub (by (repeat' (first | refine sub_append ?_ ?_ | refine sub_cons ?_ ?_ | exact sub_nil)); all_goals first | (intro p hp; simp only [List.mem_append, List.mem_cons, hp, true_or, or_true]) | simp only [List.mem_append, List.mem_cons, true_or, or_true]) (fun b => by simp only [keyc_append, keyc_cons, keyc_nil]; omega)
        clear hH7
        have HSW := Lib.hid (fun (wx : World) (hX : Holds wx ((gh, .cells #[.int .i64 0, .int .u64 0, .int .i64 0, .int .i64 0] 37) :: ((g2, .cells #[.int .i64 hdk, .int .u64 hda, .int .i64 hds, .int .i64 hdg] 37) :: (H ++ (Hc4 ++ (Hd5 ++ Fr)))))) => show wx.cell? ⟨g2, 0, none⟩ = some (.int .i64 hdk) ∧ wx.cell? ⟨g2, 1, none⟩ = some (.int .u64 hda) ∧ wx.cell? ⟨g2, 2, none⟩ = some (.int .i64 hds) ∧ wx.cell? ⟨g2, 3, none⟩ = some (.int .i64 hdg) from ⟨hX.tail.hcell 0, hX.tail.hcell 1, hX.tail.hcell 2, hX.tail.hcell 3⟩)
        refine Y_begin (fun wx => wx.cell? ⟨g2, 0, none⟩ = some (.int .i64 hdk) ∧ wx.cell? ⟨g2, 1, none⟩ = some (.int .u64 hda) ∧ wx.cell? ⟨g2, 2, none⟩ = some (.int .i64 hds) ∧ wx.cell? ⟨g2, 3, none⟩ = some (.int .i64 hdg)) 3 (by kernel_rfl) (fun w1 hd => HSW.out _ (hH8.dr hd)) (fun w1 hd hs => ?_)
        have hHc := hH8.dr hd; have hGc := hG7.trans (Grew.dr hd); clear hd hH8 hG7
        refine Y_takeT 0 (some 45) (v := ?_) rfl rfl (by kernel_rfl) (fun _ _ _ h => h) (by rfl) hs ?_ ?_
        rotate_left
        · intro wx; go_simp; try with_reducible rfl
        simp only [Act.put, List.setIfInBounds_toArray, List.set_cons_succ, List.set_cons_zero]
        refine Y_takeD 1 (some 46) (v := ?_) rfl rfl (by kernel_rfl) (fun _ _ _ h => h) (by rfl) hs ?_ ?_
        rotate_left
        · intro wx hx; obtain ⟨s0, s1, s2, s3⟩ := hx; go_simp; try with_reducible rfl
        simp only [Act.put, List.setIfInBounds_toArray, List.set_cons_succ, List.set_cons_zero]
        refine Y_takeT 2 (some 4) (v := ?_) rfl rfl (by kernel_rfl) (fun _ _ _ h => h) (by rfl) hs ?_ ?_
        rotate_left
        · intro wx; go_simp; try with_reducible rfl
        simp only [Act.put, List.setIfInBounds_toArray, List.set_cons_succ, List.set_cons_zero]
        refine Y_late 3 rfl (by kernel_rfl) (by kernel_rfl) (fun K hK => ?_)
        have ⟨s0, s1, s2, s3⟩ := hs
        obtain ⟨r0, r1, r2, r3, f0, f1, f2, f3⟩ := hHc.get4; have rl := hHc.hlt; have hH9 := Holds.set4 hHc (.int .i64 hdk) (.int .u64 hda) (.int .i64 hds) (.int .i64 hdg); have hg9 := hGc.set4 gh (.int .i64 hdk) (.int .u64 hda) (.int .i64 hds) (.int .i64 hdg); go_simp; clear r0 r1 r2 r3 f0 f1 f2 f3 hHc hGc   -- store
        clear s0 s1 s2 s3 hs
        refine hK _ _ ?_; clear hK K
        refine Y_late 4 rfl (by kernel_rfl) (by kernel_rfl) (fun K hK => ?_)
        go_simp   -- assign
        refine hK _ _ ?_; clear hK K
        refine Y_done (by kernel_rfl) ?_ _
        have HH9 := Lib.hid hH9
        clear hH9
        go_wp2_with fail
        obtain ⟨t0, t1, t2, t3, _⟩ := HH9.out.get4
        rw [HR2.out]
        refine bodyPost_ret (v := .tuple #[vd, .agg #[.int .i64 hdk, .int .u64 hda, .int .i64 hds, .int .i64 hdg], .nilIface]) (by rw [results_tct rfl]; go_simp) rfl ⟨_, Hd5, _, [], _, rfl, HD5.out, IsErr.none, HCX.out, HH9.out.sub (by (repeat' (first | refine sub_append ?_ ?_ | refine sub_cons ?_ ?_ | exact sub_nil)); all_goals first | (intro p hp; simp only [List.mem_append, List.mem_cons, hp, true_or, or_true]) | simp only [List.mem_append, List.mem_cons, true_or, or_true]) (fun b => by simp only [keyc_append, keyc_cons, keyc_nil]; omega), hg9⟩
    · obtain ⟨be4, se4, rfl, rfl⟩ := isErrP8 he4 hc4
      clear he4
      have HR2 := Lib.hid (show res = (c4, [], Hd.zero, code) by rw [HR.out, if_pos hc4])
      obtain ⟨r0, r1, r2, r3, f0, f1, f2, f3⟩ := hHX.get4
      have rl := hHX.hlt
      have hH4 := Holds.set4 hHX (.int .i64 0) (.int .u64 0) (.int .i64 0) (.int .i64 0)
      have hg4 := hGX.set4 gh (.int .i64 0) (.int .u64 0) (.int .i64 0) (.int .i64 0)
      have HH4 := Lib.hid hH4
      clear hHX hH4 hGX
      go_wp2_with fail
      obtain ⟨t0, t1, t2, t3, _⟩ := HH4.out.get4
      rw [HR2.out]
      refine bodyPost_ret (v := .tuple #[.slice none 0 0, .agg #[.int .i64 0, .int .u64 0, .int .i64 0, .int .i64 0], .iface 117 (.pointer (some ⟨be4, 0, none⟩))]) (by rw [results_tct rfl]; go_simp) rfl ⟨_, [], _, _, _, rfl, IsRow.nil _ _, HE.out, HCX.out, HH4.out.sub (by (repeat' (first | refine sub_append ?_ ?_ | refine sub_cons ?_ ?_ | exact sub_nil)); all_goals first | (intro p hp; simp only [List.mem_append, List.mem_cons, hp, true_or, or_true]) | simp only [List.mem_append, List.mem_cons, true_or, or_true]) (fun b => by simp only [keyc_append, keyc_cons, keyc_nil]; omega), hg4⟩
  · obtain ⟨be, se, rfl, rfl⟩ := isErrP8 he hc
    clear he
    have HR2 := Lib.hid (show res = (c, [], Hd.zero, acode) by rw [HR.out, if_pos hc])
    have HCX := HCH
    have hGX := hG2
    have hHX : Holds w1 ((gh, .cells #[.int .i64 0, .int .u64 0, .int .i64 0, .int .i64 0] 37) :: (H ++ (Hc ++ ([(be, .cells #[.int .i64 acode, .string se] 119)] ++ Fr)))) := hH2.sub (by (repeat' (first | refine sub_append ?_ ?_ | refine sub_cons ?_ ?_ | exact sub_nil)); all_goals first | (intro p hp; simp only [List.mem_append, List.mem_cons, hp, true_or, or_true]) | simp only [List.mem_append, List.mem_cons, true_or, or_true]) (fun b => by simp only [keyc_append, keyc_cons, keyc_nil]; omega)
    clear hH2 hG2
    obtain ⟨r0, r1, r2, r3, f0, f1, f2, f3⟩ := hHX.get4
    have rl := hHX.hlt
    have hH4 := Holds.set4 hHX (.int .i64 0) (.int .u64 0) (.int .i64 0) (.int .i64 0)
    have hg4 := hGX.set4 gh (.int .i64 0) (.int .u64 0) (.int .i64 0) (.int .i64 0)
    have HH4 := Lib.hid hH4
    clear hHX hH4 hGX
    go_wp2_with fail
    obtain ⟨t0, t1, t2, t3, _⟩ := HH4.out.get4
    rw [HR2.out]
    refine bodyPost_ret (v := .tuple #[.slice none 0 0, .agg #[.int .i64 0, .int .u64 0, .int .i64 0, .int .i64 0], .iface 117 (.pointer (some ⟨be, 0, none⟩))]) (by rw [results_tct rfl]; go_simp) rfl ⟨_, [], _, _, _, rfl, IsRow.nil _ _, HE.out, HCX.out, HH4.out.sub (by (repeat' (first | refine sub_append ?_ ?_ | refine sub_cons ?_ ?_ | exact sub_nil)); all_goals first | (intro p hp; simp only [List.mem_append, List.mem_cons, hp, true_or, or_true]) | simp only [List.mem_append, List.mem_cons, true_or, or_true]) (fun b => by simp only [keyc_append, keyc_cons, keyc_nil]; omega), hg4⟩
end Go.Proofs.YtoelopghilbfeaaGreat
