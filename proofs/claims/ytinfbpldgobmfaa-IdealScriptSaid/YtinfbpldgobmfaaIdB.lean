/-
  Package ideal: made, done, got, refused.
-/
import Derived.Test.YtinfbpldgobmfaaIdA
namespace Go.Proofs.Ytinfbpldgobmfaa
open Go.RowKit
set_option linter.unusedSimpArgs false
set_option linter.unusedVariables false

/-- an order -/
structure OV where
  k : Int
  a : Int
  d : List UInt8
  m : Int
def OV.agg (o : OV) (dv : Value) : Value := .agg #[.int .i64 o.k, .int .u64 o.a, dv, .int .i64 o.m]
def madeB (o : OV) (b : BK) : BK := if o.k = 1 then ⟨true, true, o.d⟩ else if o.k = 2 then ⟨true, false, o.d⟩ else if o.k = 4 then BK.none else if o.k = 5 then ⟨b.some, false, b.data⟩ else b
theorem madeB_ok (o : OV) {b : BK} (hb : b.Ok) : (madeB o b).Ok := by
  intro h
  by_cases h1 : o.k = 1
  · rw [show madeB o b = ⟨true, true, o.d⟩ from if_pos h1] at h; cases h
  · by_cases h2 : o.k = 2
    · rw [show madeB o b = ⟨true, false, o.d⟩ by unfold madeB; rw [if_neg h1, if_pos h2]] at h; cases h
    · by_cases h4 : o.k = 4
      · unfold madeB; rw [if_neg h1, if_neg h2, if_pos h4]
      · by_cases h5 : o.k = 5
        · have e : madeB o b = ⟨b.some, false, b.data⟩ := by unfold madeB; rw [if_neg h1, if_neg h2, if_neg h4, if_pos h5]
          rw [e] at h ⊢
          rw [hb h]; rfl
        · have e : madeB o b = b := by unfold madeB; rw [if_neg h1, if_neg h2, if_neg h4, if_neg h5]
          rw [e] at h ⊢
          exact hb h
theorem results_cell1 {fn : Func} {p : Tmp} {ty : TypeId} (h : fn.results = #[.cell p ty]) (tmps : Array Value) (P : Program) (w : World) :
    (results fn tmps).run P w = ((asAddr (tmps.getD p undef)).run P w).andThen fun a w₁ => (loadVar ty a).run P w₁ := by
  simp [results, h]
theorem conv_str {w : World} {dv : Value} {d : List UInt8} (h : BytesAt w dv d) : (convert 28 9 dv).run Try.prog w = .ok (.string ⟨d.toArray⟩) w := run_string tBytes.under (by kernel_rfl) (by kernel_rfl) h
set_option maxRecDepth 20000 in
set_option maxHeartbeats 1000000 in
theorem idmade_any (o : OV) (dv : Value) (b : BK) (w : World) (Fr : HL) (hd : FrBytes Fr dv o.d) (hH : Holds w Fr) :
    Calls Try.prog 49 #[o.agg dv, .agg b.cells.toArray] w (RetFr (.agg (madeB o b).cells.toArray) w Fr) := by
  obtain ⟨k, a, d, m⟩ := o
  obtain ⟨b0, b1, b2⟩ := b
  have hb0 := hd w hH
  obtain ⟨A, c, hv⟩ := hb0.val
  subst hv
  simp only [OV.agg, BK.cells, strB] at *
  have hH1 := ((hH.alloc (.cells #[.int .i64 k, .int .u64 a, .slice A d.length c, .int .i64 m] 31)).alloc (.cells #[.bool b0, .bool b1, .string ⟨b2.toArray⟩] 71)).alloc (.cells #[.bool false, .bool false, .string ⟨#[]⟩] 71)
  have hg1 := (((Grew.refl w).alloc (.cells #[.int .i64 k, .int .u64 a, .slice A d.length c, .int .i64 m] 31)).alloc (.cells #[.bool b0, .bool b1, .string ⟨b2.toArray⟩] 71)).alloc (.cells #[.bool false, .bool false, .string ⟨#[]⟩] 71)
  have HCV := Lib.hid (fun (wx : World) (hx : Holds wx Fr) => conv_str (hd wx hx))
  have hcv := HCV.out _ hH1.tail.tail.tail
  have HE := Lib.hid (fun (x y z : Value) => ((((hH.alloc (.cells #[.int .i64 k, .int .u64 a, .slice A d.length c, .int .i64 m] 31)).alloc (.cells #[.bool b0, .bool b1, .string ⟨b2.toArray⟩] 71)).alloc (.cells #[x, y, z] 71)).tail.tail.tail))
  have HE5 := Lib.hid (fun (x y z x' y' z' : Value) => ((((hH.alloc (.cells #[.int .i64 k, .int .u64 a, .slice A d.length c, .int .i64 m] 31)).alloc (.cells #[x', y', z'] 71)).alloc (.cells #[x, y, z] 71)).tail.tail.tail))
  have HG := Lib.hid (fun (x y z x' y' z' : Value) => ((((Grew.refl w).alloc (.cells #[.int .i64 k, .int .u64 a, .slice A d.length c, .int .i64 m] 31)).alloc (.cells #[x', y', z'] 71)).alloc (.cells #[x, y, z] 71)))
  clear hd hb0 hH hH1 hg1
  by_cases h1 : k = 1
  · have HM := Lib.hid (show madeB ⟨k, a, d, m⟩ ⟨b0, b1, b2⟩ = ⟨true, true, d⟩ from if_pos h1)
    generalize madeB ⟨k, a, d, m⟩ ⟨b0, b1, b2⟩ = r at *
    subst h1
    go_enter Try.func49, Try.ntmps49
    go_wp2_with fail
    refine ⟨rfl, _, (by rw [results_cell1 rfl]; go_simp; rfl), by rw [HM.out], HE.out _ _ _, HG.out _ _ _ _ _ _⟩
  by_cases h2 : k = 2
  · have HM := Lib.hid (show madeB ⟨k, a, d, m⟩ ⟨b0, b1, b2⟩ = ⟨true, false, d⟩ by unfold madeB; rw [if_neg h1, if_pos h2])
    generalize madeB ⟨k, a, d, m⟩ ⟨b0, b1, b2⟩ = r at *
    subst h2
    go_enter Try.func49, Try.ntmps49
    go_wp2_with fail
    refine ⟨rfl, _, (by rw [results_cell1 rfl]; go_simp; rfl), by rw [HM.out], HE.out _ _ _, HG.out _ _ _ _ _ _⟩
  by_cases h4 : k = 4
  · have HM := Lib.hid (show madeB ⟨k, a, d, m⟩ ⟨b0, b1, b2⟩ = ⟨false, false, []⟩ by unfold madeB; rw [if_neg h1, if_neg h2, if_pos h4]; rfl)
    generalize madeB ⟨k, a, d, m⟩ ⟨b0, b1, b2⟩ = r at *
    subst h4
    go_enter Try.func49, Try.ntmps49
    go_wp2_with fail
    refine ⟨rfl, _, (by rw [results_cell1 rfl]; go_simp; rfl), by rw [HM.out], HE.out _ _ _, HG.out _ _ _ _ _ _⟩
  by_cases h5 : k = 5
  · have HM := Lib.hid (show madeB ⟨k, a, d, m⟩ ⟨b0, b1, b2⟩ = ⟨b0, false, b2⟩ by unfold madeB; rw [if_neg h1, if_neg h2, if_neg h4, if_pos h5])
    generalize madeB ⟨k, a, d, m⟩ ⟨b0, b1, b2⟩ = r at *
    subst h5
    go_enter Try.func49, Try.ntmps49
    go_wp2_with fail
    refine ⟨rfl, _, (by rw [results_cell1 rfl]; go_simp; rfl), by rw [HM.out], HE5.out _ _ _ _ _ _, HG.out _ _ _ _ _ _⟩
  · have HM := Lib.hid (show madeB ⟨k, a, d, m⟩ ⟨b0, b1, b2⟩ = ⟨b0, b1, b2⟩ by unfold madeB; rw [if_neg h1, if_neg h2, if_neg h4, if_neg h5])
    generalize madeB ⟨k, a, d, m⟩ ⟨b0, b1, b2⟩ = r at *
    go_enter Try.func49, Try.ntmps49
    go_wp2_with fail
    refine ⟨rfl, _, (by rw [results_cell1 rfl]; go_simp; rfl), by rw [HM.out], HE.out _ _ _, HG.out _ _ _ _ _ _⟩

def doneM (M : List (Int × List BK)) (o : OV) : Bool × List (Int × List BK) :=
  if o.k = 1 ∨ o.k = 2 ∨ o.k = 4 then (true, setM M o.a [madeB o BK.none])
  else if o.k = 5 then (if ((atM M o.a).filter (·.some)).map (madeB o) = [] then (false, M) else (true, setM M o.a (((atM M o.a).filter (·.some)).map (madeB o))))
  else (false, M)
def nextB (o : OV) (l : List BK) : List BK := (l.filter (·.some)).map (madeB o)
theorem nextB_yes {o : OV} {l : List BK} {i : Nat} (h : i < l.length) (hs : l[i].some = true) : nextB o (l.take (i + 1)) = nextB o (l.take i) ++ [madeB o l[i]] := by
  unfold nextB
  rw [List.take_succ_eq_append_getElem h, List.filter_append, List.filter_cons_of_pos (by simpa using hs), List.filter_nil, List.map_append, List.map_singleton]
theorem nextB_no {o : OV} {l : List BK} {i : Nat} (h : i < l.length) (hs : l[i].some = false) : nextB o (l.take (i + 1)) = nextB o (l.take i) := by
  unfold nextB
  rw [List.take_succ_eq_append_getElem h, List.filter_append, List.filter_cons_of_neg (by simpa using hs), List.filter_nil, List.append_nil]
theorem nextB_len {o : OV} (l : List BK) : (nextB o l).length ≤ l.length := by
  unfold nextB; rw [List.length_map]; exact List.length_filter_le _ _
theorem MOk.at_ok {M : List (Int × List BK)} (h : MOk M) (a : Int) : ∀ x ∈ atM M a, x.Ok := by
  intro x hx
  unfold atM at hx
  split at hx
  · rw [List.mem_singleton.1 hx]; exact BK.none_ok
  · rename_i hne
    unfold lookM at hx hne
    cases hf : M.find? (fun p => p.1 == a) with
    | none => rw [hf] at hne; exact absurd rfl hne
    | some p =>
      rw [hf] at hx
      exact (h.ok p (List.mem_of_find?_eq_some hf)).2.1 x hx
def DoneTo (o : OV) (l : List BK) (w : World) (F : HL) (nv i : Value) (wr : World) : Prop := ∃ (k : Nat) (Hn : HL), k ≤ l.length ∧ i = .int .i64 k ∧ IsBks nv (nextB o (l.take k)) Hn ∧ Holds wr (Hn ++ F) ∧ Grew w wr
theorem one_bks {w : World} {x : BK} {F : HL} (hH : Holds (w.alloc (.cells x.cells.toArray 71)) ((w.heap.size, .cells x.cells.toArray 71) :: F)) : IsBks (.slice (some ⟨w.heap.size, 0, none⟩) 1 1) [x] [(w.heap.size, .cells x.cells.toArray 71)] := by
  refine ⟨by rw [bkC_len], .inr ⟨w.heap.size, 1, x.cells.toArray, (0, 0), rfl, by simp, by simp [maxLen], by simp [BK.cells], ?_, by simp [okfz], rfl⟩⟩
  simp [bkC, BK.cells]
set_option maxRecDepth 20000 in
set_option maxHeartbeats 2000000 in
theorem iddone_any (v : Value) (size : Int) (M : List (Int × List BK)) (o : OV) (dv : Value) (H Fr : HL) (w : World) (h : IsIdeal v size M H) (hM : MOk M) (ha : U64 o.a) (hd : FrBytes Fr dv o.d) (hsm : (atM M o.a).length ≤ 50000) (hH : Holds w (H ++ Fr)) :
    Calls Try.prog 30 #[v, o.agg dv] w (RetUpd (fun H' => IsIdeal v size (doneM M o).2 H') (.bool (doneM M o).1) w Fr) := by
  have HI := Lib.hid h
  have HM := Lib.hid hM
  have HA := Lib.hid ha
  have HD := Lib.hid hd
  have HOKL := Lib.hid (hM.at_ok o.a)
  obtain ⟨b, rfl⟩ := h.ptr
  have hb0 := hd w hH.right
  obtain ⟨A, c, hv⟩ := hb0.val
  subst hv
  have hH1 := Holds.swap (A := [_]) (hH.alloc (.cells #[.int .i64 o.k, .int .u64 o.a, .slice A o.d.length c, .int .i64 o.m] 31))
  have hg1 := (Grew.refl w).alloc (.cells #[.int .i64 o.k, .int .u64 o.a, .slice A o.d.length c, .int .i64 o.m] 31)
  have HMD := Lib.hid (fun (b : BK) (wx : World) (F : HL) (h1 : FrBytes F (.slice A o.d.length c) o.d) (h2 : Holds wx F) => idmade_any o (.slice A o.d.length c) b wx F h1 h2)
  have HSET := Lib.hid (fun (lv : Value) (l : List BK) (Hl F : HL) (wx : World) (h1 : IsBks lv l Hl) (h2 : ∀ x ∈ l, x.Ok) (h3 : l ≠ []) (h4 : l.length ≤ 100000) (h5 : Holds wx (Hl ++ (H ++ F))) => idset_any (.pointer (some ⟨b, 0, none⟩)) size M o.a lv l H Hl F wx h hM ha h1 h2 h3 h4 h5)
  have HDN1 := Lib.hid (fun (hk : o.k = 1 ∨ o.k = 2 ∨ o.k = 4) => show doneM M o = (true, setM M o.a [madeB o BK.none]) from if_pos hk)
  have HDN5 := Lib.hid (fun (hk : o.k = 5) => show doneM M o = (if nextB o (atM M o.a) = [] then (false, M) else (true, setM M o.a (nextB o (atM M o.a)))) by unfold doneM nextB; rw [if_neg (by omega), if_pos hk])
  have HDN0 := Lib.hid (fun (h1 : ¬ (o.k = 1 ∨ o.k = 2 ∨ o.k = 4)) (h2 : ¬ o.k = 5) => show doneM M o = (false, M) by unfold doneM; rw [if_neg h1, if_neg h2])
  have HAT := Lib.hid (idat_any (.pointer (some ⟨b, 0, none⟩)) size M o.a H _ _ h hM ha hH1)
  clear h hM ha hd hb0
  obtain ⟨k, a, d, m⟩ := o
  simp only [OV.agg] at *
  have HORD : Hid (∀ (wx : World) (X : HL), Holds wx (X ++ ((w.heap.size, .cells #[.int .i64 k, .int .u64 a, .slice A d.length c, .int .i64 m] 31) :: Fr)) → wx.cell? ⟨w.heap.size, 0, none⟩ = some (.int .i64 k) ∧ wx.cell? ⟨w.heap.size, 1, none⟩ = some (.int .u64 a) ∧ wx.cell? ⟨w.heap.size, 2, none⟩ = some (.slice A d.length c) ∧ wx.cell? ⟨w.heap.size, 3, none⟩ = some (.int .i64 m)) := Lib.hid (fun wx X hX => ⟨hX.right.hcell 0, hX.right.hcell 1, hX.right.hcell 2, hX.right.hcell 3⟩)
  obtain ⟨q0, q1, q2, q3⟩ := HORD.out _ H hH1
  by_cases hk : k = 1 ∨ k = 2 ∨ k = 4
  · have HDN := Lib.hid (HDN1.out hk)
    clear HDN1 HDN5 HDN0 HAT
    rw [HDN.out]
    have HMN := Lib.hid (HMD.out BK.none)
    have HRO := Lib.hid (madeB_ok ⟨k, a, d, m⟩ BK.none_ok)
    generalize madeB ⟨k, a, d, m⟩ BK.none = r at *
    obtain ⟨r0, r1, r2⟩ := r
    simp only [BK.cells, BK.none, strB] at HMN
    have HFR := Lib.hid (FrBytes.right (A := H) (FrBytes.right (A := [(w.heap.size, Obj.cells #[.int .i64 k, .int .u64 a, .slice A d.length c, .int .i64 m] 31)]) HD.out))
    rcases hk with rfl | rfl | rfl
    all_goals
      go_enter Try.func30, Try.ntmps30
      go_upto_region 5 with fail
      generalize w.alloc (.cells #[.int .i64 _, .int .u64 a, .slice A d.length c, .int .i64 m] 31) = w0 at *
      generalize w.heap.size = g at *
      refine Z_begin (fun wx => wx.cell? ⟨g, 0, none⟩ = some (.int .i64 _) ∧ wx.cell? ⟨g, 1, none⟩ = some (.int .u64 a) ∧ wx.cell? ⟨g, 2, none⟩ = some (.slice A d.length c) ∧ wx.cell? ⟨g, 3, none⟩ = some (.int .i64 m)) 8 (by kernel_rfl) (fun w1 hd => HORD.out _ _ (hH1.dr hd)) (fun w1 hd hs => ?_)
      have hH2 := hH1.dr hd; have hG2 := hg1.trans (Grew.dr hd); clear hd hH1 hg1 q0 q1 q2 q3
      refine Z_takeD 0 (some 14) (v := ?_) rfl rfl (by kernel_rfl) (fun _ _ _ h => h) (by rfl) hs ?_ ?_
      rotate_left
      · intro wx hx; obtain ⟨s0, s1, s2, s3⟩ := hx; go_simp; try with_reducible rfl
      simp only [Act.put, List.setIfInBounds_toArray, List.set_cons_succ, List.set_cons_zero]
      refine Z_takeD 1 (some 15) (v := ?_) rfl rfl (by kernel_rfl) (fun _ _ _ h => h) (by rfl) hs ?_ ?_
      rotate_left
      · intro wx hx; obtain ⟨s0, s1, s2, s3⟩ := hx; go_simp; try with_reducible rfl
      simp only [Act.put, List.setIfInBounds_toArray, List.set_cons_succ, List.set_cons_zero]
      refine Z_takeD 2 (some 16) (v := ?_) rfl rfl (by kernel_rfl) (fun _ _ _ h => h) (by rfl) hs ?_ ?_
      rotate_left
      · intro wx hx; obtain ⟨s0, s1, s2, s3⟩ := hx; go_simp; try with_reducible rfl
      simp only [Act.put, List.setIfInBounds_toArray, List.set_cons_succ, List.set_cons_zero]
      refine Z_takeD 3 (some 17) (v := ?_) rfl rfl (by kernel_rfl) (fun _ _ _ h => h) (by rfl) hs ?_ ?_
      rotate_left
      · intro wx hx; obtain ⟨s0, s1, s2, s3⟩ := hx; go_simp; try with_reducible rfl
      simp only [Act.put, List.setIfInBounds_toArray, List.set_cons_succ, List.set_cons_zero]
      refine Z_takeD 4 (some 18) (v := ?_) rfl rfl (by kernel_rfl) (fun _ _ _ h => h) (by rfl) hs ?_ ?_
      rotate_left
      · intro wx hx; obtain ⟨s0, s1, s2, s3⟩ := hx; go_simp; try with_reducible rfl
      simp only [Act.put, List.setIfInBounds_toArray, List.set_cons_succ, List.set_cons_zero]
      refine Z_mid 5 rfl (by kernel_rfl) (fun K hK => ?_)
      have ⟨s0, s1, s2, s3⟩ := hs
      go_simp; refine (HMN.out w1 _ HFR.out hH2).mono ?_; rintro e w2 ⟨rfl, hH3, hg3⟩; have hG3 := hG2.trans hg3; clear hH2 hG2 hg3   -- call w
      clear s0 s1 s2 s3
      refine hK _ _ (HORD.out _ _ hH3) (fun hs2 => ?_); clear hK K hs; have hs := hs2; clear hs2
      refine Z_mid 6 rfl (by kernel_rfl) (fun K hK => ?_)
      have ⟨s0, s1, s2, s3⟩ := hs
      go_simp; have hH4 := hH3.alloc (.cells #[.bool r0, .bool r1, .string ⟨r2.toArray⟩] 71); have hG4 := hG3.alloc (.cells #[.bool r0, .bool r1, .string ⟨r2.toArray⟩] 71); have HB := Lib.hid (one_bks (x := ⟨r0, r1, r2⟩) hH4)   -- buildSlice w
      clear s0 s1 s2 s3
      refine hK _ _ (HORD.out _ (_ :: H) hH4) (fun hs2 => ?_); clear hK K hs; have hs := hs2; clear hs2
      refine Z_mid 7 rfl (by kernel_rfl) (fun K hK => ?_)
      have ⟨s0, s1, s2, s3⟩ := hs
      go_simp; refine (HSET.out _ [⟨r0, r1, r2⟩] _ _ _ HB.out (fun x hx => by rw [List.mem_singleton.1 hx]; exact HRO.out) (by simp) (by simp) hH4).mono ?_; rintro e w5 ⟨rfl, H5, hi5, hH5, hg5⟩; have hG5 := hG4.trans hg5   -- call w
      clear s0 s1 s2 s3
      refine hK _ _ (HORD.out _ _ hH5) (fun hs2 => ?_); clear hK K hs; have hs := hs2; clear hs2
      refine Z_done (by kernel_rfl) ?_ _
      have HI5 := Lib.hid hi5
      clear hs hi5 hH4 hH3
      go_wp2_with fail
      go_ret
      exact ⟨rfl, H5, HI5.out, Holds.mid (B := [_]) hH5, hG5⟩
  · by_cases hk5 : k = 5
    · have HDN := Lib.hid (HDN5.out hk5)
      clear HDN1 HDN5 HDN0 hk
      subst hk5
      generalize doneM M ⟨5, a, d, m⟩ = R at *
      have HFR := Lib.hid (FrBytes.right (A := H) (FrBytes.right (A := [(w.heap.size, Obj.cells #[.int .i64 5, .int .u64 a, .slice A d.length c, .int .i64 m] 31)]) HD.out))
      generalize atM M a = l at *
      go_enter Try.func30, Try.ntmps30
      go_wp2_with fail
      refine HAT.out.mono ?_
      rintro e w2 ⟨v2, H2, rfl, hat, hH2, hg2⟩
      obtain ⟨A2, c2, rfl⟩ := (hat w2 hH2).val
      have HATS := Lib.hid hat
      have hg3 := hg1.trans hg2
      generalize hn : l.length = n at *
      have HN := Lib.hid hn
      generalize w.heap.size = g at *
      clear hat hg1 hg2 HAT hH1 hn q0 q1 q2 q3
      go_wp2_with fail
      go_loopw [5, 29] (fun nv i wr => DoneTo ⟨5, a, d, m⟩ l w (H2 ++ (H ++ ((g, .cells #[.int .i64 5, .int .u64 a, .slice A d.length c, .int .i64 m] 31) :: Fr))) nv i wr) (fun _ i _ => n - (intOf i).toNat)
      case atStart => exact ⟨0, [], by omega, rfl, by simpa [nextB] using IsBks.nil, hH2, hg3⟩
      case round =>
        clear hH2 hg3
        obtain ⟨j, Hn, hj, rfl, hrow, hHr, hgr⟩ := hrel
        rw [HN.out] at hj
        have HROW := Lib.hid hrow
        have HHR := Lib.hid hHr
        have hx : Holds wr (H2 ++ (Hn ++ (H ++ ((g, .cells #[.int .i64 5, .int .u64 a, .slice A d.length c, .int .i64 m] 31) :: Fr)))) := hHr.swap
        have hx2 : Holds wr (H2 ++ (H ++ ((g, .cells #[.int .i64 5, .int .u64 a, .slice A d.length c, .int .i64 m] 31) :: Fr))) := hHr.right
        obtain ⟨A', c', hv', _, _, hce⟩ := (HATS.out wr hx2).cells
        injection hv' with e1 e2 e3
        clear e2
        have e4 := e3.symm
        subst e1 e4
        by_cases hlt : j < n
        · have hjl : j < l.length := by rw [HN.out]; exact hlt
          obtain ⟨bb, oo, rfl, hcc⟩ := hce (by omega)
          obtain ⟨d0, d1, d2⟩ := hcc j hjl
          have HY := Lib.hid (nextB_yes (o := ⟨5, a, d, m⟩) hjl)
          have HNO := Lib.hid (nextB_no (o := ⟨5, a, d, m⟩) hjl)
          have hnl := nextB_len (o := ⟨5, a, d, m⟩) (l.take j)
          rw [List.length_take] at hnl
          have hnl2 : (nextB ⟨5, a, d, m⟩ (l.take j)).length ≤ 50000 := by omega
          clear hcc hce hx hx2 hrow hnl
          generalize l[j] = x at *
          obtain ⟨A5, c5, rfl⟩ := HROW.out.val
          generalize nextB ⟨5, a, d, m⟩ (l.take j) = z at *
          have hH3 := hHr.alloc (.cells x.cells.toArray 71)
          have hg3 := hgr.alloc (.cells x.cells.toArray 71)
          have HMX := Lib.hid (HMD.out x _ _ (FrBytes.right (A := [(wr.heap.size, Obj.cells x.cells.toArray 71)]) (FrBytes.right (A := Hn) (FrBytes.right (A := H2) HFR.out))) hH3)
          obtain ⟨q0, q1, q2, q3⟩ := HORD.out _ (_ :: (Hn ++ (H2 ++ H))) (by simpa using hH3)
          obtain ⟨x0, x1, x2⟩ := x
          simp only [BK.cells, strB] at d0 d1 d2 hH3 hg3 HMX q0 q1 q2 q3
          have t0 := hH3.hcell 0
          have t1 := hH3.hcell 1
          have t2 := hH3.hcell 2
          have HH3 := Lib.hid hH3
          cases x0 with
          | false =>
            have HN2 := Lib.hid (HNO.out rfl)
            clear HY HNO HMX hH3 hHr q0 q1 q2 q3
            go_wp2_with fail
            go_roundw
            case rel => exact ⟨j + 1, Hn, by rw [HN.out]; omega, by go_num, by rw [HN2.out]; exact HROW.out, HH3.out.tail, hg3⟩
            case measure => simp [intOf] <;> omega
          | true =>
            have HN2 := Lib.hid (HY.out rfl)
            generalize madeB ⟨5, a, d, m⟩ ⟨true, x1, x2⟩ = r at *
            obtain ⟨r0, r1, r2⟩ := r
            simp only at HMX
            clear HY HNO hH3 hHr
            go_wp2_with fail
            refine HMX.out.mono ?_
            rintro e w4 ⟨rfl, hH4, hg4⟩
            have hsrc : ReadsAt (w4.alloc (.cells #[.bool r0, .bool r1, .string ⟨r2.toArray⟩] 71)) 3 (.slice (some ⟨w4.heap.size, 0, none⟩) 1 1) 1 [.bool r0, .bool r1, .string ⟨r2.toArray⟩] := ReadsAt.many (n := 1) (size := 3) (cs := #[.bool r0, .bool r1, .string ⟨r2.toArray⟩]) (by rfl) (by simp [maxLen])
            have HSRC := Lib.hid hsrc
            have hH5 : Holds (w4.alloc (.cells #[.bool r0, .bool r1, .string ⟨r2.toArray⟩] 71)) (Hn ++ (H2 ++ (H ++ ((g, .cells #[.int .i64 5, .int .u64 a, .slice A d.length c, .int .i64 m] 31) :: Fr)))) := (hH4.alloc' _).tail
            have hg5 := (hg3.trans hg4).alloc (.cells #[.bool r0, .bool r1, .string ⟨r2.toArray⟩] 71)
            clear hsrc HMX hH4 hg4 q0 q1 q2 q3 d0 d1 d2 t0 t1 t2
            go_wp2_with (at_builtin; refine wpList_append_T tBlks (by rfl) (.tmp 35) (.tmp 39) (by rfl) (by rfl) (by rfl) HROW.out hH5 HSRC.out (by simp [Value.oneCell']) (by simp [maxLen]; omega) (by omega) ?_; intro A' c' w' H' hrow6 hH6 hg6)
            go_roundw
            case rel => exact ⟨j + 1, H', by rw [HN.out]; omega, by go_num, by rw [HN2.out]; unfold IsBks; rw [List.length_append, bkC_append]; exact hrow6, hH6, hg5.trans hg6⟩
            case measure => simp [intOf] <;> omega
        · have hjn : j = n := by omega
          have htk : l.take j = l := by rw [hjn, ← HN.out, List.take_length]
          rw [htk] at HROW hrow
          have hnl := nextB_len (o := ⟨5, a, d, m⟩) l
          have HNOK := Lib.hid (show ∀ x ∈ nextB ⟨5, a, d, m⟩ l, x.Ok from fun x hx => by
            unfold nextB at hx
            obtain ⟨y, hy, rfl⟩ := List.mem_map.1 hx
            exact madeB_ok _ (HOKL.out y (List.mem_filter.1 hy).1))
          obtain ⟨A5, c5, rfl⟩ := hrow.val
          clear hce hx hx2 hrow htk hjn HATS
          by_cases hnil : nextB ⟨5, a, d, m⟩ l = []
          · have HRR := Lib.hid (HDN.out.trans (if_pos hnil))
            rw [hnil] at HROW ⊢
            simp only [List.length_nil]
            have hfin : Holds wr (H ++ Fr) := Holds.mid (B := [_]) HHR.out.right.right
            have HFIN := Lib.hid hfin
            clear hfin hHr hnl hnil HROW
            go_wp2_with fail
            go_ret
            rw [HRR.out]
            exact ⟨rfl, H, HI.out, HFIN.out, hgr⟩
          · have HRR := Lib.hid (HDN.out.trans (if_neg hnil))
            have hH7 : Holds wr (Hn ++ (H ++ (H2 ++ ((g, .cells #[.int .i64 5, .int .u64 a, .slice A d.length c, .int .i64 m] 31) :: Fr)))) := HHR.out.swap2
            have HSX := Lib.hid (HSET.out _ (nextB ⟨5, a, d, m⟩ l) Hn _ wr HROW.out HNOK.out hnil (by rw [HN.out] at hnl; omega) hH7)
            have hz : (nextB ⟨5, a, d, m⟩ l).length ≠ 0 := fun h => hnil (List.eq_nil_of_length_eq_zero h)
            obtain ⟨q0, q1, q2, q3⟩ := HORD.out _ (Hn ++ (H2 ++ H)) (by simpa using hHr)
            generalize nextB ⟨5, a, d, m⟩ l = z at *
            generalize z.length = zn at *
            have hz2 : 0 < zn := by omega
            clear hnil hH7 hHr HROW hz
            go_wp2_with fail
            refine HSX.out.mono ?_
            rintro e w8 ⟨rfl, H8, hi8, hH8, hg8⟩
            have HI8 := Lib.hid hi8
            clear hi8 HSX q0 q1 q2 q3
            go_wp2_with fail
            go_ret
            rw [HRR.out]
            exact ⟨rfl, H8, HI8.out, Holds.mid (B := [_]) (Holds.mid hH8), hgr.trans hg8⟩
    · have HDN := Lib.hid (HDN0.out hk hk5)
      clear HDN1 HDN5 HDN0 HAT
      rw [HDN.out]
      have HE := Lib.hid hH1.mid
      have h1 : ¬ k = 1 := fun e => hk (.inl e)
      have h2 : ¬ k = 2 := fun e => hk (.inr (.inl e))
      have h4 : ¬ k = 4 := fun e => hk (.inr (.inr e))
      clear hk hH1 hH
      go_enter Try.func30, Try.ntmps30
      go_wp2_with fail
      go_ret
      exact ⟨rfl, H, HI.out, HE.out, hg1⟩
end Go.Proofs.Ytinfbpldgobmfaa
