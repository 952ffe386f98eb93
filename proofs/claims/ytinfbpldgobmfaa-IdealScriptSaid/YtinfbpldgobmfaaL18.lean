/-
  Chapter 18: what every program answers that is one.
-/
import Derived.Test.YtinfbpldgobmfaaIdL
namespace Go.Proofs.Ytinfbpldgobmfaa
open Go.RowKit
set_option linter.unusedSimpArgs false
set_option linter.unusedVariables false

theorem idaddrs_any (v : Value) (size : Int) (M : List (Int × List BK)) (H Fr : HL) (w : World) (h : IsIdeal v size M H) (hM : MOk M) (hlen : M.length ≤ 100000) (hls : ∀ p ∈ M, p.2.length ≤ 1000000) (hH : Holds w (H ++ Fr)) :
    Calls Try.prog 15 #[v] w (RetNew (fun v' H' => IsWs v' (addrsM M someB) H') w (H ++ Fr)) := by
  have HC := Lib.hid (idaddrsOf_idAddrs1 v size M H Fr w h hM hlen hls hH)
  obtain ⟨b, rfl⟩ := h.ptr
  clear h hM hlen hls hH
  go_enter Try.func15, Try.ntmps15
  go_wp2_with fail
  refine HC.out.mono ?_
  rintro e w' ⟨v', H', rfl, hr, h1, h2⟩
  have HR := Lib.hid hr
  obtain ⟨A2, c2, rfl⟩ := hr.val
  clear hr
  go_wp2_with fail
  go_ret
  exact ⟨_, H', rfl, HR.out, h1, h2⟩
theorem idaddrsOf_nil (F : FuncId) (w : World) : Calls Try.prog 34 #[.pointer none, .func (.func F) #[] #[]] w fun e w' => e = .returned (.slice none 0 0) ∧ w = w' := by
  go_enter Try.func34, Try.ntmps34
  go_wp2_with fail
  go_ret
  exact ⟨rfl, rfl⟩
theorem idaddrs_nil (w : World) : Calls Try.prog 15 #[.pointer none] w fun e w' => e = .returned (.slice none 0 0) ∧ w = w' := by
  have HC := Lib.hid (idaddrsOf_nil 38 w)
  go_enter Try.func15, Try.ntmps15
  go_wp2_with fail
  refine HC.out.mono ?_
  rintro e w' ⟨rfl, rfl⟩
  go_wp2_with fail
  go_ret
  exact ⟨rfl, rfl⟩
theorem iddirty_nil (w : World) : Calls Try.prog 12 #[.pointer none] w fun e w' => e = .returned (.tuple #[.slice none 0 0, .slice none 0 0]) ∧ w = w' := by
  have HC := Lib.hid (idaddrsOf_nil 35 w)
  have HC2 := Lib.hid (idaddrsOf_nil 37 w)
  go_enter Try.func12, Try.ntmps12
  go_wp2_with fail
  refine HC.out.mono ?_
  rintro e w' ⟨rfl, rfl⟩
  go_wp2_with fail
  refine HC2.out.mono ?_
  rintro e w' ⟨rfl, rfl⟩
  go_wp2_with fail
  go_ret2
  exact ⟨rfl, rfl⟩
theorem iddirty_any (v : Value) (size : Int) (M : List (Int × List BK)) (H Fr : HL) (w : World) (h : IsIdeal v size M H) (hM : MOk M) (hlen : M.length ≤ 100000) (hls : ∀ p ∈ M, p.2.length ≤ 1000000) (hH : Holds w (H ++ Fr)) :
    Calls Try.prog 12 #[v] w fun e w' => ∃ v1 v2 H1 H2, e = .returned (.tuple #[v1, v2]) ∧ IsWs v1 (addrsM M sureB) H1 ∧ IsWs v2 (addrsM M mayD) H2 ∧ Holds w' (H1 ++ (H2 ++ (H ++ Fr))) ∧ Grew w w' := by
  have HC := Lib.hid (idaddrsOf_idDirty1 v size M H Fr w h hM hlen hls hH)
  have HC2 := Lib.hid (fun (w : World) (F : HL) (hx : Holds w (H ++ F)) => idaddrsOf_idDirty2 v size M H F w h hM hlen hls hx)
  obtain ⟨b, rfl⟩ := h.ptr
  clear h hM hlen hls hH
  go_enter Try.func12, Try.ntmps12
  go_wp2_with fail
  refine HC.out.mono ?_
  rintro e w' ⟨v1, H1, rfl, hr1, h1, h2⟩
  have HR1 := Lib.hid hr1
  obtain ⟨A1, c1, rfl⟩ := hr1.val
  have HC3 := Lib.hid (HC2.out w' _ h1.swap)
  clear hr1 HC HC2
  go_wp2_with fail
  refine HC3.out.mono ?_
  rintro e w3 ⟨v3, H3, rfl, hr3, h3, h4⟩
  have HR3 := Lib.hid hr3
  obtain ⟨A3, c3, rfl⟩ := hr3.val
  clear hr3
  go_wp2_with fail
  go_ret2
  refine ⟨_, _, H1, H3, rfl, HR1.out, HR3.out, ?_, h2.trans h4⟩
  have h5 : Holds w3 (H3 ++ (H ++ (H1 ++ Fr))) := h3
  exact h5.sub (by (repeat' (first | refine sub_append ?_ ?_ | refine sub_cons ?_ ?_ | exact sub_nil)); all_goals first | (intro p hp; simp only [List.mem_append, List.mem_cons, hp, true_or, or_true]) | simp only [List.mem_append, List.mem_cons, true_or, or_true]) (fun b => by simp only [keyc_append, keyc_cons, keyc_nil]; omega)

theorem IsIdeal.size_at {b : Nat} {size : Int} {M : List (Int × List BK)} {H : HL} (h : IsIdeal (.pointer (some ⟨b, 0, none⟩)) size M H) : ∀ (wx : World) (F : HL), Holds wx (H ++ F) → wx.cell? ⟨b, 0, none⟩ = some (.int .i64 size) := by
  obtain ⟨b', mb, es, clock, Hm, hb', hmay, hst, rfl⟩ := h
  injection hb' with hb'
  injection hb' with hb'
  injection hb' with hb'
  subst hb'
  exact fun wx F hx => hx.hcell 0
theorem fr_nil (Fr : HL) : FrBytes Fr (.slice none 0 0) [] := fun w _ => ⟨rfl, none, 0, rfl, Nat.le_refl _, by simp [maxLen], fun h => absurd h (by simp)⟩
theorem frw_nil (Fr : HL) : FrWs Fr (.slice none 0 0) [] := fun w _ => ⟨rfl, none, 0, rfl, Nat.le_refl _, by simp [maxLen], fun h => absurd h (by simp)⟩
/-! ### one block at one address -/
theorem canon_one (x : BK) : canon [x] = [x] := rfl
theorem norm_dirty {x : BK} (h : x.dirty = true) : normB [x] = [x] := by
  unfold normB hasClean
  simp [h, canon_one]
theorem set_one {a : Int} {x : BK} (hs : x.some = true) (hd : x.dirty = true) : setM [] a [x] = [(a, [x])] := by
  unfold setM
  rw [norm_dirty hd, if_neg]
  · rfl
  · intro h
    injection h with h _
    rw [h] at hs
    cases hs
theorem set_again {a : Int} {x y : BK} (hs : x.some = true) (hd : x.dirty = true) : setM [(a, [y])] a [x] = [(a, [x])] := by
  unfold setM
  rw [norm_dirty hd, if_neg]
  · simp [putM, List.findIdx?_cons]
  · intro h
    injection h with h _
    rw [h] at hs
    cases hs
theorem at_one {a : Int} {l : List BK} (h : l ≠ []) : atM [(a, l)] a = l := by
  unfold atM lookM
  simp [h]
theorem mok_one {a : Int} {x : BK} (ha : U64 a) (hs : x.some = true) (hd : x.dirty = true) : MOk [(a, [x])] := by
  have h := MOk.set MOk.nil ha (l := [x]) (fun y hy => by rw [List.mem_singleton.1 hy]; intro h; rw [hs] at h; cases h) (by simp)
  rw [set_one hs hd] at h
  exact h

/-! ### what is told of an order -/
theorem take_dirty {size : Int} {M : List (Int × List BK)} {a : Int} {d : List UInt8} (hd : (d.length : Int) = size) : takeM size M ⟨1, a, d, 0⟩ ⟨1, 0, [], false, []⟩ = (true, setM M a [⟨true, true, d⟩]) := by
  have h1 : mayB size 1 d.length 0 = true := by simp [mayB, hd]
  unfold takeM
  rw [if_neg (by decide), if_neg (by simp only [h1]; decide), if_pos rfl]
  rfl
theorem take_dark {size : Int} {M : List (Int × List BK)} {a : Int} {d : List UInt8} (hd : (d.length : Int) = size) : takeM size M ⟨1, a, d, 0⟩ ⟨4, 4, [], false, []⟩ = (true, setM M a (atM M a ++ (atM M a).map fun _ => ⟨true, true, d⟩)) := by
  have h1 : mayB size 1 d.length 0 = true := by simp [mayB, hd]
  unfold takeM
  rw [if_neg (by decide), if_neg (by simp only [h1]; decide), if_neg (by decide), if_neg (by decide)]
  rfl
theorem take_none {size : Int} {M : List (Int × List BK)} {a : Int} : takeM size M ⟨3, a, [], 0⟩ ⟨4, 8, [], false, []⟩ = if (atM M a).any (fun x => BK.none == x) = true then (true, setM M a [BK.none]) else (false, M) := by
  unfold takeM refM
  rw [if_neg (by decide), if_neg (by simp [mayB]), if_neg (by decide), if_neg (by decide), if_neg (by decide), if_neg (by decide), if_neg (by decide), if_pos rfl]
  simp
theorem take_got {size : Int} {M : List (Int × List BK)} {a : Int} {d : List UInt8} {y : Bool} : takeM size M ⟨3, a, [], 0⟩ ⟨2, 0, d, y, []⟩ = if (atM M a).any (fun x => (⟨true, y, d⟩ : BK) == x) = true then (true, setM M a [⟨true, y, d⟩]) else (false, M) := by
  unfold takeM gotM
  rw [if_neg (by simp [RV.fits, repB]), if_neg (by simp [mayB]), if_neg (show ¬ (2 : Int) = 1 by decide), if_pos rfl, if_pos rfl]
theorem take_clean {size : Int} {M : List (Int × List BK)} {a : Int} : takeM size M ⟨5, a, [], 0⟩ ⟨1, 0, [], false, []⟩ = doneM M ⟨5, a, [], 0⟩ := by
  unfold takeM
  rw [if_neg (by decide), if_neg (by simp [mayB]), if_pos rfl]
theorem fill128 (n : Int) : (fillL n 128).length = 128 := by unfold fillL; simp
theorem none_ne (y : Bool) (d : List UInt8) : (BK.none == (⟨true, y, d⟩ : BK)) = false := by
  rw [beq_eq_false_iff_ne]; intro h; cases h
set_option maxRecDepth 20000 in
set_option maxHeartbeats 2000000 in
theorem awake18_any (w : World) (Fr : HL) (hH : Holds w Fr) : Calls Try.prog 14 #[] w (RetFr (.bool true) w Fr) := by
  have HN := Lib.hid (idnew_any 128 w Fr hH (by decide) (by decide))
  have HN1 := Lib.hid (fun w => idnew_nil 1 w (.inl (by decide)))
  have HFL := Lib.hid (fun (w : World) (F : HL) (h : Holds w F) => fill_any 3 128 w F h (by decide))
  have hF := fill128 3
  have hu0 : U64 0 := ⟨by decide, by decide⟩
  have hu1 : U64 1 := ⟨by decide, by decide⟩
  have HT1 := Lib.hid (fun (v : Value) (H F : HL) (w : World) (h : IsIdeal v 128 [] H) (hH : Holds w (H ++ F)) => idtake_any v 128 [] ⟨3, 0, [], 0⟩ (.slice none 0 0) ⟨4, 8, [], false, []⟩ (.slice none 0 0) (.slice none 0 0) H F w h MOk.nil hu0 (fr_nil F) (fr_nil F) (frw_nil F) (by decide) (by simp [atM_none (M := []) rfl]) hH)
  rw [take_none, atM_none (M := []) rfl, if_pos (by decide), show setM [] 0 [BK.none] = [] from rfl] at HT1
  generalize fillL 3 128 = f at *
  have HT2 := Lib.hid (fun (v dv : Value) (H F : HL) (w : World) (h : IsIdeal v 128 [] H) (hd : FrBytes F dv f) (hH : Holds w (H ++ F)) => idtake_any v 128 [] ⟨1, 1, f, 0⟩ dv ⟨1, 0, [], false, []⟩ (.slice none 0 0) (.slice none 0 0) H F w h MOk.nil hu1 hd (fr_nil F) (frw_nil F) (by decide) (by simp [atM_none (M := []) rfl]) hH)
  rw [take_dirty (by rw [hF]; rfl), set_one rfl rfl] at HT2
  have hM := mok_one (x := ⟨true, true, f⟩) hu1 rfl rfl
  have HT3 := Lib.hid (fun (v : Value) (H F : HL) (w : World) (h : IsIdeal v 128 [(1, [⟨true, true, f⟩])] H) (hH : Holds w (H ++ F)) => idtake_any v 128 _ ⟨3, 1, [], 0⟩ (.slice none 0 0) ⟨4, 8, [], false, []⟩ (.slice none 0 0) (.slice none 0 0) H F w h hM hu1 (fr_nil F) (fr_nil F) (frw_nil F) (by decide) (by rw [at_one (by simp)]; simp) hH)
  rw [take_none, at_one (by simp), if_neg (by simp [none_ne])] at HT3
  have HT4 := Lib.hid (fun (v dv : Value) (H F : HL) (w : World) (h : IsIdeal v 128 [(1, [⟨true, true, f⟩])] H) (hd : FrBytes F dv f) (hH : Holds w (H ++ F)) => idtake_any v 128 _ ⟨3, 1, [], 0⟩ (.slice none 0 0) ⟨2, 0, f, true, []⟩ dv (.slice none 0 0) H F w h hM hu1 (fr_nil F) hd (frw_nil F) (show (2 : Int) ≠ 3 by decide) (by rw [at_one (by simp)]; simp) hH)
  rw [take_got, at_one (by simp), if_pos (by simp), set_again rfl rfl] at HT4
  have HAD := Lib.hid (fun (v : Value) (H F : HL) (w : World) (h : IsIdeal v 128 [(1, [⟨true, true, f⟩])] H) (hH : Holds w (H ++ F)) => idaddrs_any v 128 _ H F w h hM (by simp) (by simp) hH)
  rw [show addrsM [(1, [⟨true, true, f⟩])] someB = [1] from by simp [addrsM, someB, srt]] at HAD
  simp only [OV.agg, RV.agg] at HT1 HT2 HT3 HT4
  go_enter Try.func14, Try.ntmps14
  go_wp2_with fail
  refine HN.out.mono ?_
  rintro e w1 ⟨v1, H1, rfl, hi1, hH1, hg1⟩
  obtain ⟨b, rfl⟩ := hi1.ptr
  have HC1 := Lib.hid (HT1.out _ _ _ _ hi1 hH1)
  clear HN HT1 hi1 hH1
  go_wp2_with fail
  refine HC1.out.mono ?_
  rintro e w2 ⟨rfl, H2, hi2, hH2, hg2⟩
  have HI2 := Lib.hid hi2
  have HC2 := Lib.hid (HFL.out _ _ hH2)
  have hg3 := hg1.trans hg2
  clear HC1 hi2 hH2 hg1 hg2
  go_wp2_with fail
  refine HC2.out.mono ?_
  rintro e w3 ⟨v3, H3, rfl, hb3, hH3, hg4⟩
  have hH4 : Holds w3 (H2 ++ (H3 ++ Fr)) := hH3.swap
  have hfr3 : FrBytes (H3 ++ Fr) v3 f := FrBytes.left (fun wx hx => hb3.at_ (Fr := []) (by simpa using hx))
  have HC3 := Lib.hid (HT2.out _ v3 _ _ _ HI2.out hfr3 hH4)
  obtain ⟨A3, c3, rfl⟩ := hb3.val
  rw [hF] at HC3 ⊢
  have hg5 := hg3.trans hg4
  clear HC2 HT2 hb3 hH3 hH4 hfr3 hg3 hg4
  go_wp2_with fail
  refine HC3.out.mono ?_
  rintro e w4 ⟨rfl, H4, hi4, hH4, hg6⟩
  have hg7 := hg5.trans hg6
  have HC4 := Lib.hid (HT3.out _ _ _ _ hi4 hH4)
  clear HC3 HT3 hi4 hH4 hg5 hg6
  go_wp2_with fail
  refine HC4.out.mono ?_
  rintro e w5 ⟨rfl, H5, hi5, hH5, hg8⟩
  have HI5 := Lib.hid hi5
  have HC5 := Lib.hid (HFL.out _ _ hH5)
  have hg9 := hg7.trans hg8
  clear HC4 hi5 hH5 hg7 hg8
  go_wp2_with fail
  refine HC5.out.mono ?_
  rintro e w6 ⟨v6, H6, rfl, hb6, hH6, hg10⟩
  have hH7 : Holds w6 (H5 ++ (H6 ++ (H3 ++ Fr))) := hH6.swap
  have hfr6 : FrBytes (H6 ++ (H3 ++ Fr)) v6 f := FrBytes.left (fun wx hx => hb6.at_ (Fr := []) (by simpa using hx))
  have HC6 := Lib.hid (HT4.out _ v6 _ _ _ HI5.out hfr6 hH7)
  obtain ⟨A6, c6, rfl⟩ := hb6.val
  rw [hF] at HC6 ⊢
  have hg11 := hg9.trans hg10
  clear HC5 HT4 hb6 hH6 hH7 hfr6 hg9 hg10
  go_wp2_with fail
  refine HC6.out.mono ?_
  rintro e w7 ⟨rfl, H7, hi7, hH7, hg12⟩
  have HI7 := Lib.hid hi7
  have HSZ := Lib.hid (IsIdeal.size_at hi7)
  have hg13 := hg11.trans hg12
  have HM1 := Lib.hid (fun wx h => idmay_any b 128 4 0 none 0 0 0 wx h)
  have HM2 := Lib.hid (fun wx h => idmay_any b 128 0 0 none 0 0 0 wx h)
  rw [show mayB 128 4 0 0 = true from by decide] at HM1
  rw [show mayB 128 0 0 0 = false from by decide] at HM2
  have hsz7 := HSZ.out w7 _ hH7
  have HH7 := Lib.hid hH7
  clear HC6 hi7 hg11 hg12 hH7
  go_wp2_with fail
  refine (HM1.out _ hsz7).mono ?_
  rintro e w8 ⟨rfl, rfl⟩
  have hH8 := HH7.out.alloc' (.cells #[.int .i64 4, .int .u64 0, .slice none 0 0, .int .i64 0] 31)
  have hg14 := hg13.alloc (.cells #[.int .i64 4, .int .u64 0, .slice none 0 0, .int .i64 0] 31)
  generalize w7.alloc (.cells #[.int .i64 4, .int .u64 0, .slice none 0 0, .int .i64 0] 31) = w8 at *
  have hsz8 := HSZ.out w8 _ hH8
  have HH8 := Lib.hid hH8
  clear hsz7 HH7 hg13 HM1 hH8
  go_wp2_with fail
  refine (HM2.out _ hsz8).mono ?_
  rintro e w9 ⟨rfl, rfl⟩
  have hH9 := HH8.out.alloc' (.cells #[.int .i64 0, .int .u64 0, .slice none 0 0, .int .i64 0] 31)
  have hg15 := hg14.alloc (.cells #[.int .i64 0, .int .u64 0, .slice none 0 0, .int .i64 0] 31)
  generalize w8.alloc (.cells #[.int .i64 0, .int .u64 0, .slice none 0 0, .int .i64 0] 31) = w9 at *
  have HC9 := Lib.hid (HAD.out _ _ _ _ HI7.out hH9)
  clear hsz8 HH8 hg14 HM2 hH9
  go_wp2_with fail
  refine HC9.out.mono ?_
  rintro e w10 ⟨v10, H10, rfl, hr10, hH10, hg16⟩
  obtain ⟨A10, c10, rfl⟩ := hr10.val
  have HH10 := Lib.hid hH10
  clear hr10 hH10 HC9
  go_wp2_with fail
  refine (HN1.out _).mono ?_
  rintro e w11 ⟨rfl, rfl⟩
  go_wp2_with fail
  go_ret
  exact ⟨rfl, HH10.out.right.right.right.right, hg15.trans hg16⟩
end Go.Proofs.Ytinfbpldgobmfaa
