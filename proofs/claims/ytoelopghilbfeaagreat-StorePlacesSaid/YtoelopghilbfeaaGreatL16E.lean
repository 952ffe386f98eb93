/-
  Chapter 16: StorePlaces.
-/
import Derived.Test.YtoelopghilbfeaaGreatSpM
import Derived.Test.YtoelopghilbfeaaGreatL16
namespace Go.Proofs.YtoelopghilbfeaaGreat
open Go.RowKit
set_option linter.unusedSimpArgs false
set_option linter.unusedVariables false

theorem hdK_agg2 (κ : Int) (n : Nat) : (hdK κ n).agg = .agg #[.int .i64 κ, .int .u64 n, .int .i64 (1 + n), .int .i64 0] := rfl
def arrI (at_ : Nat → Nat) : Obj := .cells ((List.range 64).map fun j => Value.int .i64 (at_ j : Nat)).toArray 70
def arrB (is : Nat → Bool) : Obj := .cells ((List.range 64).map fun j => Value.bool (is j)).toArray 71
theorem get_free {κ : Int} {L : List (Nat × Nat)} {s : SM} {c : CM} (I : HasI κ L s c) (hon : c.on = true) (hms : ∀ m ∈ c.ms, m.kind ≠ 2) {n : Nat} (hn : n < 64) : Reads c (getS s c n).1 ∧ (getS s c n).1.on = true := by
  obtain ⟨hC, ⟨hB, hP, hZ⟩, _⟩ := I
  have e : ((n / 4 : Nat) : Int) * (s.P : Int) + ((n % 4 : Nat) : Int) = n := by rw [hP, ← nat_key, nat_split]
  cases hl : lookS s.hs (n : Int) with
  | some h =>
    rw [← e] at hl
    obtain ⟨d, hv⟩ := hC.page (n / 4) (n % 4) h (by omega) (by omega) hl
    obtain ⟨g1, g2⟩ := get_spec hC (k := n / 4) (p := n % 4) (by omega) (by omega) hl hv
    rw [e] at g1 g2
    rcases g2 with ⟨_, _, q3⟩ | ⟨_, _, q3⟩
    · exact ⟨g1, q3⟩
    · obtain ⟨_, m, m1, m2, _⟩ := q3 hon
      exact absurd m2 (hms m m1)
  | none =>
    have ha : askedS s n = (0, 0, 8) := by
      have hp := place_key hC (k := n / 4) (p := n % 4) (by omega) (by omega)
      rw [e] at hp
      unfold askedS
      rw [hp, if_neg (by dsimp only; omega), hl, if_pos (by rfl)]
    have : getS s c n = (c, [], Hd.zero, 8) := by unfold getS; rw [ha, if_pos (by decide)]
    rw [this]
    exact ⟨Reads.refl c, hon⟩
theorem alloc_size (w : World) (o : Obj) : (w.alloc o).heap.size = w.heap.size + 1 := by unfold World.alloc; exact Array.size_push _
theorem left_bd {s : SM} {c : CM} (hC : Cont s c) : 0 ≤ leftI s c := by
  have hop := hC.opb
  by_cases e : s.op = -1
  · unfold leftI; rw [if_pos e]; omega
  · obtain ⟨k, hk⟩ : ∃ k : Nat, s.op = (k : Int) := ⟨s.op.toNat, by omega⟩
    obtain ⟨x, hx⟩ := hC.bget (k := k) (by omega)
    rw [left_at hC hk hx]
    have := (hC.shape k x hx).2.2.1
    omega
theorem room_bd {s : SM} {c : CM} (hC : Cont s c) : 0 ≤ roomS s c := by
  have := left_bd hC
  have h2 : 0 ≤ (s.P : Int) * ((emptyL s c).length : Int) := Int.mul_nonneg (by omega) (by omega)
  unfold roomS
  omega
theorem arr_at {α : Type} (f : Nat → α) {p : Nat} (hp : p < 64) : (((List.range 64).map f).toArray)[p]? = some (f p) := by
  rw [List.getElem?_toArray, List.getElem?_map, List.getElem?_range hp]
  rfl
theorem arr_set {α : Type} (f : Nat → α) (p : Nat) (x : α) : ((List.range 64).map f).toArray.setIfInBounds p x = ((List.range 64).map (updF f p x)).toArray := by
  rw [List.setIfInBounds_toArray]
  congr 1
  refine List.ext_getElem? fun j => ?_
  rw [List.getElem?_set, List.getElem?_map, List.getElem?_map]
  unfold updF
  by_cases hj : j < 64
  · rw [List.getElem?_range hj]
    by_cases e : p = j
    · subst e; rw [if_pos rfl, if_pos (by simpa using hj)]; simp
    · rw [if_neg e]; simp [Ne.symm e]
  · have hn : (List.range 64)[j]? = none := List.getElem?_eq_none_iff.2 (by simpa using hj)
    rw [hn]
    by_cases e : p = j
    · subst e; rw [if_pos rfl, if_neg (by simpa using hj)]; rfl
    · rw [if_neg e]; rfl
theorem arrI_set {w : World} {ga : Nat} {at_ : Nat → Nat} {H : HL} (h : Holds w ((ga, arrI at_) :: H)) (p x : Nat) : Holds (w.setCell ⟨ga, p, none⟩ (.int .i64 x)) ((ga, arrI (updF at_ p x)) :: H) := by
  have h2 := Holds.set h p (.int .i64 x)
  rw [arr_set] at h2
  have e : updF (fun j => Value.int .i64 (at_ j : Nat)) p (.int .i64 x) = fun j => Value.int .i64 (updF at_ p x j : Nat) := by
    funext j; unfold updF; split <;> rfl
  rw [e] at h2
  exact h2
theorem arrB_set {w : World} {gb : Nat} {is : Nat → Bool} {H : HL} (h : Holds w ((gb, arrB is) :: H)) (p : Nat) (x : Bool) : Holds (w.setCell ⟨gb, p, none⟩ (.bool x)) ((gb, arrB (updF is p x)) :: H) := by
  have h2 := Holds.set h p (.bool x)
  rw [arr_set] at h2
  have e : updF (fun j => Value.bool (is j)) p (.bool x) = fun j => Value.bool (updF is p x j) := by
    funext j; unfold updF; split <;> rfl
  rw [e] at h2
  exact h2
theorem arrI_cell {w : World} {ga : Nat} {at_ : Nat → Nat} {H : HL} (h : Holds w ((ga, arrI at_) :: H)) {p : Nat} (hp : p < 64) : w.cell? ⟨ga, p, none⟩ = some (.int .i64 (at_ p : Nat)) ∧ w.frozen? ⟨ga, p, none⟩ = false := by
  refine ⟨?_, h.hfrozen p⟩
  have := h.hcell p
  rw [arr_at _ hp] at this
  exact this
theorem arrB_cell {w : World} {gb : Nat} {is : Nat → Bool} {H : HL} (h : Holds w ((gb, arrB is) :: H)) {p : Nat} (hp : p < 64) : w.cell? ⟨gb, p, none⟩ = some (.bool (is p)) ∧ w.frozen? ⟨gb, p, none⟩ = false := by
  refine ⟨?_, h.hfrozen p⟩
  have := h.hcell p
  rw [arr_at _ hp] at this
  exact this
/-- behind n puts -/
def PlTo (M sb cb g cap ga gb : Nat) (mv : Value) (W : World) (lv iv : Value) (wr : World) : Prop :=
  ∃ (n left : Nat) (is : Nat → Bool) (at_ : Nat → Nat) (L : List (Nat × Nat)) (s : SM) (c : CM) (Hs Hc : HL), n ≤ M ∧ iv = .int .i64 n ∧ lv = .int .i64 left ∧ left ≤ n ∧ PlI n is at_ left s c L ∧ StAt sb cb s Hs ∧ ChipAt cb g cap mv c Hc ∧
    Holds wr ((ga, arrI at_) :: ((gb, arrB is) :: (Hs ++ (Hc ++ allOf W)))) ∧ Grew W wr
/-- pages looked at so far -/
def PgTo (cb g cap ga gb : Nat) (mv : Value) (W : World) (c : CM) (at_ : Nat → Nat) (is : Nat → Bool) (Hs : HL) (iv : Value) (wr : World) : Prop :=
  ∃ (k : Nat) (c' : CM) (Hc : HL), k ≤ 64 ∧ iv = .int .i64 k ∧ Reads c c' ∧ c'.on = true ∧ c'.ops ≤ c.ops + k ∧ ChipAt cb g cap mv c' Hc ∧ Holds wr ((ga, arrI at_) :: ((gb, arrB is) :: (Hs ++ (Hc ++ allOf W)))) ∧ Grew W wr
set_option maxRecDepth 100000 in
set_option maxHeartbeats 4000000 in
theorem places16_walk (many drop : Int) (W : World) : Calls Tryz.prog 7 #[.int .i64 many, .int .i64 drop] W (RetFr (.bool true) W (allOf W)) := by
  have hH := holds_all W
  have k1 := err_eq
  have k2 := nil_eq
  have k3 := err_ne
  have k4 := nil_ne
  have HLO := Lib.hid (low_any many 61 W (by decide) (by decide))
  obtain ⟨hl1, hl2⟩ := low_bd many 61 (by decide) (by decide)
  generalize lowI many 61 = mz at *
  obtain ⟨M, rfl⟩ : ∃ m : Nat, mz = (m : Int) := ⟨mz.toNat, by omega⟩
  have HGE := Lib.hid (l16geo_any W (allOf W) hH)
  clear hH
  go_enter Tryz.func7, Tryz.ntmps7
  go_wp2_with fail
  refine HLO.out.mono ?_
  rintro e wx ⟨rfl, rfl⟩
  go_wp2_with fail
  refine HGE.out.mono ?_
  rintro e w1 ⟨rfl, hH1, hg1⟩
  have HN := Lib.hid (nnew_plain w1 _ hH1)
  clear hH1 HGE HLO
  go_wp2_with fail
  refine HN.out.mono ?_
  rintro e w2 ⟨dv, H0, rfl, ⟨cb, g, cap, mv, rfl, hc0⟩, hH2, hg2⟩
  have hG2 := hg1.trans hg2
  have HNW := Lib.hid (new_any hc0 hH2 aw_plan rfl (by show (0 : Int) ≤ 999999998000; omega))
  rw [awN] at HNW
  clear hc0 hH2 hg1 hg2 HN
  go_wp2_with fail
  refine HNW.out.mono ?_
  rintro e w3 (⟨h0, sb, Hs, Hc, rfl, hs, hch, hH3, hg3⟩ | ⟨h0, _⟩)
  rotate_left
  · exact absurd rfl h0
  dsimp only at hs hch
  have hG3 := hG2.trans hg3
  have hHa := hH3.alloc (arrI fun _ => 0)
  have hHb := hHa.alloc (arrB fun _ => false)
  have e3 : (w3.alloc (arrI fun _ => 0)).heap.size = w3.heap.size + 1 := alloc_size _ _
  rw [e3] at hHb
  have hst : PlTo M sb cb g cap w3.heap.size (w3.heap.size + 1) mv W (.int .i64 0) (.int .i64 0) ((w3.alloc (arrI fun _ => 0)).alloc (arrB fun _ => false)) :=
    ⟨0, 0, _, _, [], _, _, Hs, Hc, by omega, rfl, rfl, by omega, plI_start, hs, hch, hHb.sub (by (repeat' (first | refine sub_append ?_ ?_ | refine sub_cons ?_ ?_ | exact sub_nil)); all_goals first | (intro p hp; simp only [List.mem_append, List.mem_cons, hp, true_or, or_true]) | simp only [List.mem_append, List.mem_cons, true_or, or_true]) (fun b => by simp only [keyc_append, keyc_cons, keyc_nil]; omega), (hG3.alloc _).alloc _⟩
  clear h0 hs hch hg3 hG2 HNW hHa hHb hH3 hG3 e3
  go_wp2_with fail
  generalize w3.heap.size + 1 = gb at *
  generalize w3.heap.size = ga at *
  go_loopw [10, 11] (fun lv iv wr => PlTo M sb cb g cap ga gb mv W lv iv wr) (fun _ i _ => M - (intOf i).toNat)
  case atStart => exact hst
  case round =>
    clear hst
    obtain ⟨n, left, is, at_, L, s, c, Hs, Hc, hnm, rfl, rfl, hln, hI, hs, hch, hH3, hG3⟩ := hrel
    by_cases hlt : n < M
    · have hnlt : (n : Int) < M := by omega
      have hw2 : IntKind.i64.wrap (1 + (n : Int)) = 1 + n := wrap_i64_id (by omega) (by omega)
      have hw4 : wrap64 (1 + (n : Int)) = 1 + n := by unfold wrap64; omega
      have hw5 : IntKind.i64.wrap ((n : Int) + 1) = n + 1 := wrap_i64_id (by omega) (by omega)
      have hw6 : IntKind.u64.wrap (n : Int) = n := by rw [IntKind.wrap_u64]; omega
      have HFL := Lib.hid (fill_any (n : Int) 128 wr _ hH3 (by decide))
      have hDl := fillL_len (n : Int)
      have hgeo := hI.law.has.geo
      have HP := Lib.hid (hI.put (by omega))
      have HPU := Lib.hid (fun (w : World) (F : HL) (dv : Value) (h : Holds w (Hs ++ (Hc ++ F))) (hf : FrBytes (Hs ++ (Hc ++ F)) dv (fillL n 128)) => put_any (hdK 2 n) (fillL n 128) dv hs hch h hI.law.has.cont.yok (by omega) (by have := hI.law.ops; omega) hI.law.has.cont.B hI.law.has.cont.Z hf (hdK_may (Or.inr rfl) (by omega)).2)
      rw [hdK_agg2] at HPU
      generalize fillL (n : Int) 128 = D at *
      have HDL := Lib.hid hDl
      have HG3 := Lib.hid hG3
      obtain ⟨r, hr⟩ : ∃ r, r = putA s c (hdK 2 n) D := ⟨_, rfl⟩
      rw [← hr] at HP HPU
      obtain ⟨s5, c5, p5, code5⟩ := r
      dsimp only at HPU HP
      clear hr hDl hI hs hch hH3 hG3 hgeo
      go_wp2_with fail
      refine HFL.out.mono ?_
      rintro e w4 ⟨v4, H4, rfl, hb4, hH4, hg4⟩
      have hG4 := HG3.out.trans hg4
      have HPW := Lib.hid (HPU.out w4 ((ga, arrI at_) :: ((gb, arrB is) :: (H4 ++ allOf W))) v4 (hH4.sub (by (repeat' (first | refine sub_append ?_ ?_ | refine sub_cons ?_ ?_ | exact sub_nil)); all_goals first | (intro p hp; simp only [List.mem_append, List.mem_cons, hp, true_or, or_true]) | simp only [List.mem_append, List.mem_cons, true_or, or_true]) (fun b => by simp only [keyc_append, keyc_cons, keyc_nil]; omega)) (fun wx hx => hb4.at_ (Fr := Hs ++ (Hc ++ ((ga, arrI at_) :: ((gb, arrB is) :: allOf W)))) (hx.sub (by (repeat' (first | refine sub_append ?_ ?_ | refine sub_cons ?_ ?_ | exact sub_nil)); all_goals first | (intro p hp; simp only [List.mem_append, List.mem_cons, hp, true_or, or_true]) | simp only [List.mem_append, List.mem_cons, true_or, or_true]) (fun b => by simp only [keyc_append, keyc_cons, keyc_nil]; omega))))
      obtain ⟨A4, q4, rfl⟩ := hb4.val
      rw [HDL.out] at HPW ⊢
      clear hH4 hg4 HPU hb4 HG3 HFL
      go_wp2_with fail
      refine HPW.out.mono ?_
      rintro e w5 ⟨ve5, He5, Hs5, Hc5, rfl, he5, hs5, hch5, hH5, hg5⟩
      dsimp only at he5 hs5 hch5
      have hG5 := hG4.trans hg5
      obtain ⟨p, hp1, hp64, hp2, hp3, hp4⟩ := HP.out
      simp only [Prod.mk.injEq] at hp1
      obtain ⟨f1, f2⟩ := hp1
      subst f1 f2
      obtain ⟨rfl, rfl⟩ := isErr0 he5
      have hH6 : Holds w5 ((ga, arrI at_) :: ((gb, arrB is) :: (Hs5 ++ (Hc5 ++ allOf W)))) := by
        have h6 : Holds w5 (Hs5 ++ (Hc5 ++ ([] ++ ((ga, arrI at_) :: ((gb, arrB is) :: (H4 ++ allOf W)))))) := hH5
        exact h6.sub (by (repeat' (first | refine sub_append ?_ ?_ | refine sub_cons ?_ ?_ | exact sub_nil)); all_goals first | (intro p hp; simp only [List.mem_append, List.mem_cons, hp, true_or, or_true]) | simp only [List.mem_append, List.mem_cons, true_or, or_true]) (fun b => by simp only [keyc_append, keyc_cons, keyc_nil]; omega)
      have hgeo5 := hp4.law.has.geo
      have HRM := Lib.hid (room_any hs5 hch5 (hH6.sub (by (repeat' (first | refine sub_append ?_ ?_ | refine sub_cons ?_ ?_ | exact sub_nil)); all_goals first | (intro p hp; simp only [List.mem_append, List.mem_cons, hp, true_or, or_true]) | simp only [List.mem_append, List.mem_cons, true_or, or_true]) (fun b => by simp only [keyc_append, keyc_cons, keyc_nil]; omega) : Holds w5 (Hs5 ++ (Hc5 ++ ((ga, arrI at_) :: ((gb, arrB is) :: allOf W))))) (by omega))
      have hgb := (arrB_cell hH6.tail (p := p) hp64).1
      rw [hp2] at hgb
      have HI5 := Lib.hid hp4
      have hI6 := Lib.hid hp4
      have HS5 := Lib.hid hs5
      have HC5 := Lib.hid hch5
      have hpI : (p : Int) < 64 := by omega
      have hp0 : ¬ (p : Int) < 0 := by omega
      have hp63 : ¬ (63 : Int) < p := by omega
      have hrm0 : 0 ≤ roomS s5 c5 := room_bd hp4.law.has.cont
      generalize roomS s5 c5 = rz at *
      have hr1 : IntKind.i64.wrap (rz + left) = rz + left := wrap_i64_id (by omega) (by omega)
      have hr2 : IntKind.i64.wrap (rz + left + 1) = rz + left + 1 := wrap_i64_id (by omega) (by omega)
      have hr3 : wrap64 (rz + left) = rz + left := by unfold wrap64; omega
      have hr4 : wrap64 (rz + left + 1) = rz + left + 1 := by unfold wrap64; omega
      have hr5 : ¬ (64 : Int) < rz + left + 1 := by omega
      clear he5 hs5 hch5 hH5 hg5 hG4 HPW HDL HP hp4 hgeo5
      go_wp2_with fail
      refine HRM.out.mono ?_
      rintro e w6 ⟨rfl, hH7, hg7⟩
      have hH8 : Holds w6 ((ga, arrI at_) :: ((gb, arrB is) :: (Hs5 ++ (Hc5 ++ allOf W)))) := hH7.sub (by (repeat' (first | refine sub_append ?_ ?_ | refine sub_cons ?_ ?_ | exact sub_nil)); all_goals first | (intro p hp; simp only [List.mem_append, List.mem_cons, hp, true_or, or_true]) | simp only [List.mem_append, List.mem_cons, true_or, or_true]) (fun b => by simp only [keyc_append, keyc_cons, keyc_nil]; omega)
      have hG8 := hG5.trans hg7
      have hc1 := arrI_cell hH8 (p := p) hp64
      have hc2 := arrB_cell hH8.tail (p := p) hp64
      clear HRM hH7 hg7 hG5 hH6 hgb
      obtain ⟨hc11, hc12⟩ := hc1
      obtain ⟨hc21, hc22⟩ := hc2
      have hH9 := arrI_set hH8 p n
      obtain ⟨hc31, hc32⟩ := arrB_cell hH9.tail (p := p) hp64
      have hH10 : Holds ((w6.setCell ⟨ga, p, none⟩ (.int .i64 n)).setCell ⟨gb, p, none⟩ (.bool true)) ((ga, arrI (updF at_ p n)) :: ((gb, arrB (updF is p true)) :: (Hs5 ++ (Hc5 ++ allOf W)))) := by
        have h := arrB_set (hH9.sub (by (repeat' (first | refine sub_append ?_ ?_ | refine sub_cons ?_ ?_ | exact sub_nil)); all_goals first | (intro p hp; simp only [List.mem_append, List.mem_cons, hp, true_or, or_true]) | simp only [List.mem_append, List.mem_cons, true_or, or_true]) (fun b => by simp only [keyc_append, keyc_cons, keyc_nil]; omega) : Holds _ ((gb, arrB is) :: ((ga, arrI (updF at_ p n)) :: (Hs5 ++ (Hc5 ++ allOf W))))) p true
        exact h.sub (by (repeat' (first | refine sub_append ?_ ?_ | refine sub_cons ?_ ?_ | exact sub_nil)); all_goals first | (intro p hp; simp only [List.mem_append, List.mem_cons, hp, true_or, or_true]) | simp only [List.mem_append, List.mem_cons, true_or, or_true]) (fun b => by simp only [keyc_append, keyc_cons, keyc_nil]; omega)
      have hG10 := (hG8.setCell ⟨ga, p, none⟩ (.int .i64 n)).setCell ⟨gb, p, none⟩ (.bool true)
      have HH10 := Lib.hid hH10
      have HG10 := Lib.hid hG10
      clear hH8 hH9 hH10 hG8 hG10
      go_upto_region 17 with fail
      generalize (w6.setCell ⟨ga, p, none⟩ (.int .i64 n)).setCell ⟨gb, p, none⟩ (.bool true) = w8 at *
      have hHr := HH10.out
      have hGr := HG10.out
      clear HH10 HG10 hc11 hc12 hc21 hc22 hc31 hc32 hr1 hr2 hr3 hr4 hr5 hrm0 hw2 hw4 hw6 hp0 hp63
      have hn60 : (n : Int).tmod 60 = n := Int.tmod_eq_of_lt (by omega) (by omega)
      have hn63 : (n : Int) < 64 := by omega
      cases hbit : (bits BinOp.and IntKind.i64 (drop / 2 ^ n) 1 == 1)
      · clear HI5
        have HI6 := Lib.hid hI6.out
        clear hI6
        go_wp2_with fail
        go_roundw
        case rel => exact ⟨n + 1, left + 1, _, _, _, s5, c5, Hs5, Hc5, by omega, by go_num, by go_num, by omega, HI6.out, HS5.out, HC5.out, hHr, hGr⟩
        case measure => simp [intOf]; omega
      · obtain ⟨hd1, hd2⟩ := hI6.out.drop hp64 (by unfold updF; rw [if_pos rfl])
        have HDR := Lib.hid (drop_any (p : Int) HS5.out (hHr.sub (by (repeat' (first | refine sub_append ?_ ?_ | refine sub_cons ?_ ?_ | exact sub_nil)); all_goals first | (intro p hp; simp only [List.mem_append, List.mem_cons, hp, true_or, or_true]) | simp only [List.mem_append, List.mem_cons, true_or, or_true]) (fun b => by simp only [keyc_append, keyc_cons, keyc_nil]; omega) : Holds w8 (Hs5 ++ (Hc5 ++ ((ga, arrI (updF at_ p n)) :: ((gb, arrB (updF is p true)) :: allOf W))))))
        rw [hd1] at HDR
        have HD2 := Lib.hid hd2
        have hlw : IntKind.i64.wrap ((left : Int) + 1 - 1) = left := by rw [wrap_i64_id (by omega) (by omega)]; omega
        have hlw2 : wrap64 ((left : Int) + 1 - 1) = left := by unfold wrap64; omega
        have hlw3 : IntKind.i64.wrap (left : Int) = left := wrap_i64_id (by omega) (by omega)
        have hlw4 : wrap64 (left : Int) = left := by unfold wrap64; omega
        generalize (dropS s5 p).1 = s6 at *
        clear hHr hd1 hd2 hI6 HI5
        go_wp2_with fail
        refine HDR.out.mono ?_
        rintro e w9 ⟨ve9, He9, Hs9, rfl, he9, hs9, hH9, hg9⟩
        obtain ⟨rfl, rfl⟩ := isErr0 he9
        have hH10 : Holds w9 ((gb, arrB (updF is p true)) :: ((ga, arrI (updF at_ p n)) :: (Hs9 ++ (Hc5 ++ allOf W)))) := hH9.sub (by (repeat' (first | refine sub_append ?_ ?_ | refine sub_cons ?_ ?_ | exact sub_nil)); all_goals first | (intro p hp; simp only [List.mem_append, List.mem_cons, hp, true_or, or_true]) | simp only [List.mem_append, List.mem_cons, true_or, or_true]) (fun b => by simp only [keyc_append, keyc_cons, keyc_nil]; omega)
        obtain ⟨hc1, hc2⟩ := arrB_cell hH10 (p := p) hp64
        have hH11 := arrB_set hH10 p false
        have HH11 := Lib.hid (hH11.sub (by (repeat' (first | refine sub_append ?_ ?_ | refine sub_cons ?_ ?_ | exact sub_nil)); all_goals first | (intro p hp; simp only [List.mem_append, List.mem_cons, hp, true_or, or_true]) | simp only [List.mem_append, List.mem_cons, true_or, or_true]) (fun b => by simp only [keyc_append, keyc_cons, keyc_nil]; omega) : Holds (w9.setCell ⟨gb, p, none⟩ (.bool false)) ((ga, arrI (updF at_ p n)) :: ((gb, arrB (updF (updF is p true) p false)) :: (Hs9 ++ (Hc5 ++ allOf W)))))
        have HG11 := Lib.hid ((hGr.trans hg9).setCell ⟨gb, p, none⟩ (.bool false))
        clear HDR hg9 hGr he9 hH9 hH10 hH11
        go_wp2_with fail
        clear hlw hlw2 hlw3 hlw4
        have q1 := HD2.out
        have q2 := HH11.out
        have q3 := HG11.out
        have q4 : PlTo M sb cb g cap ga gb mv W (.int .i64 left) (.int .i64 ((n : Int) + 1)) (w9.setCell ⟨gb, p, none⟩ (.bool false)) :=
          ⟨n + 1, left, updF (updF is p true) p false, updF at_ p n, _, s6, c5, Hs9, Hc5, by omega, by go_num, rfl, by omega, q1, hs9, HC5.out, q2, q3⟩
        refine ⟨q4, ?_⟩
        simp [intOf]; omega
    · obtain rfl : n = M := by omega
      have hnl : ¬ (n : Int) < n := by omega
      have hP4 := hI.law.has.geo.2.1
      have hndl := hI.law.neededLen
      rw [hI.cnt] at hndl
      have HND := Lib.hid (needed_any hs (hH3.sub (by (repeat' (first | refine sub_append ?_ ?_ | refine sub_cons ?_ ?_ | exact sub_nil)); all_goals first | (intro p hp; simp only [List.mem_append, List.mem_cons, hp, true_or, or_true]) | simp only [List.mem_append, List.mem_cons, true_or, or_true]) (fun b => by simp only [keyc_append, keyc_cons, keyc_nil]; omega) : Holds wr (Hs ++ (Hc ++ ((ga, arrI at_) :: ((gb, arrB is) :: allOf W))))) hI.law.has.cont.yok)
      have HI := Lib.hid hI
      have hopb : 0 ≤ c.ops ∧ c.ops ≤ 200 := by have := hI.law.ops; omega
      generalize neededS s = ND at *
      have HNL := Lib.hid hndl
      clear hI hs hH3 hnm hlt hndl hP4
      go_wp2_with fail
      refine HND.out.mono ?_
      rintro e w4 ⟨v4, H4, rfl, hv4, hH4, hg4⟩
      have hG4 := hG3.trans hg4
      obtain ⟨A4, c4', rfl⟩ := hv4.val
      rw [HNL.out]
      have hah : ahead c < 25 := by have := ahead_le c; have := hch.cok.2.2.2.2.2.2.1; omega
      obtain ⟨q1, t, q2, q3, q4⟩ := HI.out.law.has.lost hah
      obtain ⟨q5, q6⟩ := lostN_sim 25 c hch.cok hch.cok.2.2.2.2.2.1
      have hc3 := HI.out.law.has.cont
      have hlo := lost_any hch (hH4.sub (by (repeat' (first | refine sub_append ?_ ?_ | refine sub_cons ?_ ?_ | exact sub_nil)); all_goals first | (intro p hp; simp only [List.mem_append, List.mem_cons, hp, true_or, or_true]) | simp only [List.mem_append, List.mem_cons, true_or, or_true]) (fun b => by simp only [keyc_append, keyc_cons, keyc_nil]; omega) : Holds w4 (Hc ++ ((ga, arrI at_) :: ((gb, arrB is) :: allOf W)))) (by rw [hc3.B, hc3.P, hc3.Z]; exact hc3.pl) (by omega)
      have e : lostN 25 c = (some t, (lostN 25 c).2) := by rw [← q2]
      have hop4 := q5.2.2.2.2.2
      generalize (lostN 25 c).2 = c4 at *
      rw [e] at hlo
      have HLO := Lib.hid hlo
      have HI4 := Lib.hid q3
      have hon4 := q4.on
      have HMS4 := Lib.hid (show ∀ m ∈ c4.ms, m.kind ≠ 2 by rw [q1.ms]; exact HI.out.law.msk)
      have HMI4 := Lib.hid (show c4.misuse = 0 by rw [q1.mis]; exact HI.out.law.mis)
      have hop5 : c4.ops ≤ 10000 := by omega
      have HIFF := Lib.hid HI.out.iff
      have HSML := Lib.hid (show ∀ p i, (p, i) ∈ L → (i : Int) < 61 from fun p i h => by have := HI.out.small p i h; omega)
      clear q1 q2 q3 q4 q5 q6 hc3 hlo e hop4 hah hv4 hg4 hH4 HND HNL hG3 hch hnl HI hopb
      go_wp2_with fail
      refine HLO.out.mono ?_
      rintro e w5 ⟨nn, sb5, Hs5, Hc5, rfl, hs5, hch5, hH5, hg5⟩
      have HS5 := Lib.hid hs5
      have hst2 : PgTo cb g cap ga gb mv W c4 at_ is Hs5 (.int .i64 0) w5 := ⟨0, c4, Hc5, by omega, rfl, Reads.refl c4, hon4, by simp, hch5, hH5.sub (by (repeat' (first | refine sub_append ?_ ?_ | refine sub_cons ?_ ?_ | exact sub_nil)); all_goals first | (intro p hp; simp only [List.mem_append, List.mem_cons, hp, true_or, or_true]) | simp only [List.mem_append, List.mem_cons, true_or, or_true]) (fun b => by simp only [keyc_append, keyc_cons, keyc_nil]; omega), hG4.trans hg5⟩
      clear HLO hs5 hch5 hg5 hG4 hH5 hon4
      go_wp2_with fail
      clear hl1 hl2 hln
      go_loopw [17] (fun iv wr => PgTo cb g cap ga gb mv W c4 at_ is Hs5 iv wr) (fun i _ => 64 - (intOf i).toNat)
      case atStart => exact hst2
      case round =>
        clear hst2
        obtain ⟨kk, c6, Hc6, hkk, rfl, hrd6, hon6, hops6, hch6, hH6, hG6⟩ := hrel
        by_cases hkl : kk < 64
        · have hkkl : (kk : Int) < 64 := by omega
          have hkw : IntKind.i64.wrap ((kk : Int) + 1) = kk + 1 := wrap_i64_id (by omega) (by omega)
          have HHD := Lib.hid (head_any (kk : Int) HS5.out (hH6.sub (by (repeat' (first | refine sub_append ?_ ?_ | refine sub_cons ?_ ?_ | exact sub_nil)); all_goals first | (intro p hp; simp only [List.mem_append, List.mem_cons, hp, true_or, or_true]) | simp only [List.mem_append, List.mem_cons, true_or, or_true]) (fun b => by simp only [keyc_append, keyc_cons, keyc_nil]; omega) : Holds wr (Hs5 ++ (Hc6 ++ ((ga, arrI at_) :: ((gb, arrB is) :: allOf W))))) (by omega) (by omega))
          have HGE := Lib.hid (fun (w : World) (F : HL) (h : Holds w (Hs5 ++ (Hc6 ++ F))) => get_any (kk : Int) HS5.out hch6 h (by omega))
          have HAC := Lib.hid (fun (wx : World) (F : HL) (h : Holds wx ((ga, arrI at_) :: ((gb, arrB is) :: F))) => And.intro (arrI_cell h hkl).1 (arrB_cell h.tail hkl).1)
          cases his : is kk with
          | false =>
            have hgr := getS_sim t c6 (kk : Int)
            obtain ⟨hg1, hg2⟩ := get_free (HI4.out.reads hrd6) hon6 (by rw [hrd6.ms]; exact HMS4.out) hkl
            rw [his] at HAC
            generalize getS t c6 (kk : Int) = r at *
            obtain ⟨c7, rd, ⟨y1, y2, y3, y4⟩, rcode⟩ := r
            dsimp only at hg1 hg2 hgr
            have HR7 := Lib.hid (hrd6.trans hg1)
            have HON7 := Lib.hid hg2
            have HO7 := Lib.hid (show c7.ops ≤ c4.ops + (kk + 1 : Nat) by have := hgr.2.2.2.2.2; omega)
            obtain ⟨⟨x1, x2, x3, x4⟩, hx⟩ : ∃ h : Hd, h = (lookS t.hs (kk : Int)).getD Hd.zero := ⟨_, rfl⟩
            rw [← hx] at HHD
            generalize (lookS t.hs (kk : Int)).isSome = ok at *
            simp only [Hd.agg, Hd.cells] at HHD
            clear hx hg1 hg2 hgr his hrd6 hon6 hops6 hch6 hkl hkk
            go_wp2_with fail
            refine HHD.out.mono ?_
            rintro e w7 ⟨rfl, hH7, hg7⟩
            have hG7 := hG6.trans hg7
            clear HHD hg7 hG6 hH6
            go_upto_region 30 with fail
            have hH8 := hH7.alloc (.cells #[.int .i64 x1, .int .u64 x2, .int .i64 x3, .int .i64 x4] 37)
            have hG8 := hG7.alloc (.cells #[.int .i64 x1, .int .u64 x2, .int .i64 x3, .int .i64 x4] 37)
            generalize w7.alloc (.cells #[.int .i64 x1, .int .u64 x2, .int .i64 x3, .int .i64 x4] 37) = w8 at *
            generalize w7.heap.size = gh at *
            have hge2 := HGE.out w8 ((gh, .cells #[.int .i64 x1, .int .u64 x2, .int .i64 x3, .int .i64 x4] 37) :: ((ga, arrI at_) :: ((gb, arrB is) :: allOf W))) (hH8.sub (by (repeat' (first | refine sub_append ?_ ?_ | refine sub_cons ?_ ?_ | exact sub_nil)); all_goals first | (intro p hp; simp only [List.mem_append, List.mem_cons, hp, true_or, or_true]) | simp only [List.mem_append, List.mem_cons, true_or, or_true]) (fun b => by simp only [keyc_append, keyc_cons, keyc_nil]; omega))
            have HGT := Lib.hid hge2
            clear HGE hH7 hG7 hH8 hge2
            go_wp2_with fail
            refine HGT.out.mono ?_
            rintro e w9 ⟨v9, Hv9, ve9, He9, Hc9, rfl, hb9, he9, hch9, hH9, hg9⟩
            dsimp only at hb9 he9 hch9
            simp only [Hd.agg, Hd.cells]
            have HC9 := Lib.hid hch9
            have hG9 := hG8.trans hg9
            clear he9 hb9 hch9 hg9 hG8 HGT
            go_upto_region 31 with fail
            have hHA := hH9.alloc (.cells #[.int .i64 y1, .int .u64 y2, .int .i64 y3, .int .i64 y4] 37)
            have hGA := hG9.alloc (.cells #[.int .i64 y1, .int .u64 y2, .int .i64 y3, .int .i64 y4] 37)
            generalize w9.alloc (.cells #[.int .i64 y1, .int .u64 y2, .int .i64 y3, .int .i64 y4] 37) = wA at *
            generalize w9.heap.size = gi at *
            have hHB : Holds wA ((ga, arrI at_) :: ((gb, arrB is) :: (Hs5 ++ (Hc9 ++ allOf W)))) := hHA.sub (by (repeat' (first | refine sub_append ?_ ?_ | refine sub_cons ?_ ?_ | exact sub_nil)); all_goals first | (intro p hp; simp only [List.mem_append, List.mem_cons, hp, true_or, or_true]) | simp only [List.mem_append, List.mem_cons, true_or, or_true]) (fun b => by simp only [keyc_append, keyc_cons, keyc_nil]; omega)
            clear hH9 hG9 hHA
            refine Z_begin (fun wx => wx.cell? ⟨gb, kk, none⟩ = some (.bool false) ∧ True) 29 (by kernel_rfl) (fun w1 hd => ⟨(HAC.out _ _ (hHB.dr hd)).2, trivial⟩) (fun w1 hd hs => ?_)
            have hHc := hHB.dr hd; have hGc := hGA.trans (Grew.dr hd); clear hd hHB hGA
            refine Z_takeD 0 (some 135) (v := ?_) rfl rfl (by kernel_rfl) (fun _ _ _ h => h) (by rfl) hs ?_ ?_
            rotate_left
            · intro wx hx; obtain ⟨s1, s2⟩ := hx; go_simp; try with_reducible rfl
            simp only [Act.put, List.setIfInBounds_toArray, List.set_cons_succ, List.set_cons_zero]
            refine Z_takeD 1 (some 136) (v := ?_) rfl rfl (by kernel_rfl) (fun _ _ _ h => h) (by rfl) hs ?_ ?_
            rotate_left
            · intro wx hx; obtain ⟨s1, s2⟩ := hx; go_simp; try with_reducible rfl
            simp only [Act.put, List.setIfInBounds_toArray, List.set_cons_succ, List.set_cons_zero]
            refine Z_takeD 2 (some 137) (v := ?_) rfl rfl (by kernel_rfl) (fun _ _ _ h => h) (by rfl) hs ?_ ?_
            rotate_left
            · intro wx hx; obtain ⟨s1, s2⟩ := hx; go_simp; try with_reducible rfl
            simp only [Act.put, List.setIfInBounds_toArray, List.set_cons_succ, List.set_cons_zero]
            refine Z_takeD 3 (some 138) (v := ?_) rfl rfl (by kernel_rfl) (fun _ _ _ h => h) (by rfl) hs ?_ ?_
            rotate_left
            · intro wx hx; obtain ⟨s1, s2⟩ := hx; go_simp; try with_reducible rfl
            simp only [Act.put, List.setIfInBounds_toArray, List.set_cons_succ, List.set_cons_zero]
            refine Z_skipD 4 (some 139) rfl rfl (by kernel_rfl) (fun _ _ _ h => h) (by rfl) hs ?_
            simp only [Act.put, List.setIfInBounds_toArray, List.set_cons_succ, List.set_cons_zero]
            refine Z_skipD 5 (some 140) rfl rfl (by kernel_rfl) (fun _ _ _ h => h) (by rfl) hs ?_
            simp only [Act.put, List.setIfInBounds_toArray, List.set_cons_succ, List.set_cons_zero]
            refine Z_skipD 6 (some 141) rfl rfl (by kernel_rfl) (fun _ _ _ h => h) (by rfl) hs ?_
            simp only [Act.put, List.setIfInBounds_toArray, List.set_cons_succ, List.set_cons_zero]
            refine Z_skipD 7 (some 142) rfl rfl (by kernel_rfl) (fun _ _ _ h => h) (by rfl) hs ?_
            simp only [Act.put, List.setIfInBounds_toArray, List.set_cons_succ, List.set_cons_zero]
            refine Z_skipD 8 (some 143) rfl rfl (by kernel_rfl) (fun _ _ _ h => h) (by rfl) hs ?_
            simp only [Act.put, List.setIfInBounds_toArray, List.set_cons_succ, List.set_cons_zero]
            refine Z_skipD 9 (some 144) rfl rfl (by kernel_rfl) (fun _ _ _ h => h) (by rfl) hs ?_
            simp only [Act.put, List.setIfInBounds_toArray, List.set_cons_succ, List.set_cons_zero]
            refine Z_skipD 10 (some 145) rfl rfl (by kernel_rfl) (fun _ _ _ h => h) (by rfl) hs ?_
            simp only [Act.put, List.setIfInBounds_toArray, List.set_cons_succ, List.set_cons_zero]
            refine Z_skipD 11 (some 146) rfl rfl (by kernel_rfl) (fun _ _ _ h => h) (by rfl) hs ?_
            simp only [Act.put, List.setIfInBounds_toArray, List.set_cons_succ, List.set_cons_zero]
            refine Z_skipD 12 (some 147) rfl rfl (by kernel_rfl) (fun _ _ _ h => h) (by rfl) hs ?_
            simp only [Act.put, List.setIfInBounds_toArray, List.set_cons_succ, List.set_cons_zero]
            refine Z_skipD 13 (some 148) rfl rfl (by kernel_rfl) (fun _ _ _ h => h) (by rfl) hs ?_
            simp only [Act.put, List.setIfInBounds_toArray, List.set_cons_succ, List.set_cons_zero]
            refine Z_skipD 14 (some 149) rfl rfl (by kernel_rfl) (fun _ _ _ h => h) (by rfl) hs ?_
            simp only [Act.put, List.setIfInBounds_toArray, List.set_cons_succ, List.set_cons_zero]
            refine Z_skipD 15 (some 150) rfl rfl (by kernel_rfl) (fun _ _ _ h => h) (by rfl) hs ?_
            simp only [Act.put, List.setIfInBounds_toArray, List.set_cons_succ, List.set_cons_zero]
            refine Z_skipD 16 (some 151) rfl rfl (by kernel_rfl) (fun _ _ _ h => h) (by rfl) hs ?_
            simp only [Act.put, List.setIfInBounds_toArray, List.set_cons_succ, List.set_cons_zero]
            refine Z_skipD 17 (some 152) rfl rfl (by kernel_rfl) (fun _ _ _ h => h) (by rfl) hs ?_
            simp only [Act.put, List.setIfInBounds_toArray, List.set_cons_succ, List.set_cons_zero]
            refine Z_skipD 18 (some 153) rfl rfl (by kernel_rfl) (fun _ _ _ h => h) (by rfl) hs ?_
            simp only [Act.put, List.setIfInBounds_toArray, List.set_cons_succ, List.set_cons_zero]
            refine Z_skipD 19 (some 154) rfl rfl (by kernel_rfl) (fun _ _ _ h => h) (by rfl) hs ?_
            simp only [Act.put, List.setIfInBounds_toArray, List.set_cons_succ, List.set_cons_zero]
            refine Z_skipD 20 (some 155) rfl rfl (by kernel_rfl) (fun _ _ _ h => h) (by rfl) hs ?_
            simp only [Act.put, List.setIfInBounds_toArray, List.set_cons_succ, List.set_cons_zero]
            refine Z_skipD 21 (some 156) rfl rfl (by kernel_rfl) (fun _ _ _ h => h) (by rfl) hs ?_
            simp only [Act.put, List.setIfInBounds_toArray, List.set_cons_succ, List.set_cons_zero]
            refine Z_skipD 22 (some 157) rfl rfl (by kernel_rfl) (fun _ _ _ h => h) (by rfl) hs ?_
            simp only [Act.put, List.setIfInBounds_toArray, List.set_cons_succ, List.set_cons_zero]
            refine Z_skipD 23 (some 158) rfl rfl (by kernel_rfl) (fun _ _ _ h => h) (by rfl) hs ?_
            simp only [Act.put, List.setIfInBounds_toArray, List.set_cons_succ, List.set_cons_zero]
            refine Z_skipD 24 (some 159) rfl rfl (by kernel_rfl) (fun _ _ _ h => h) (by rfl) hs ?_
            simp only [Act.put, List.setIfInBounds_toArray, List.set_cons_succ, List.set_cons_zero]
            refine Z_skipD 25 (some 160) rfl rfl (by kernel_rfl) (fun _ _ _ h => h) (by rfl) hs ?_
            simp only [Act.put, List.setIfInBounds_toArray, List.set_cons_succ, List.set_cons_zero]
            refine Z_skipD 26 (some 161) rfl rfl (by kernel_rfl) (fun _ _ _ h => h) (by rfl) hs ?_
            simp only [Act.put, List.setIfInBounds_toArray, List.set_cons_succ, List.set_cons_zero]
            refine Z_skipD 27 (some 162) rfl rfl (by kernel_rfl) (fun _ _ _ h => h) (by rfl) hs ?_
            simp only [Act.put, List.setIfInBounds_toArray, List.set_cons_succ, List.set_cons_zero]
            refine Z_takeD 28 (some 163) (v := ?_) rfl rfl (by kernel_rfl) (fun _ _ _ h => h) (by rfl) hs ?_ ?_
            rotate_left
            · intro wx hx; obtain ⟨s1, s2⟩ := hx; go_simp; try with_reducible rfl
            simp only [Act.put, List.setIfInBounds_toArray, List.set_cons_succ, List.set_cons_zero]
            refine Z_done (by kernel_rfl) ?_ _
            go_wp2_with fail
            exact ⟨⟨kk + 1, c7, Hc9, by omega, by go_num, HR7.out, HON7.out, HO7.out, HC9.out, hHc, hGc⟩, by simp [intOf]; omega⟩
          | true =>
            have hmem := (HIFF.out kk (at_ kk)).2 ⟨hkl, his, rfl⟩
            obtain ⟨c7, hg1, hg2, hg3, hg4⟩ := (HI4.out.reads hrd6).getE hon6 (by rw [hrd6.ms]; exact HMS4.out) hmem
            have hlk := (HI4.out.has kk (at_ kk) hmem).2.1
            rw [hlk] at HHD
            rw [hg1] at HGE
            have HR7 := Lib.hid (hrd6.trans hg2)
            have HON7 := Lib.hid hg3
            have HO7 := Lib.hid (show c7.ops ≤ c4.ops + (kk + 1 : Nat) by omega)
            rw [his] at HAC
            have hat := HSML.out kk (at_ kk) hmem
            have hatw : IntKind.i64.wrap (1 + (at_ kk : Nat)) = 1 + (at_ kk : Nat) := wrap_i64_id (by omega) (by omega)
            have hatw2 : wrap64 (1 + (at_ kk : Nat)) = 1 + (at_ kk : Nat) := by unfold wrap64; omega
            have HFL := Lib.hid (fun (w : World) (F : HL) (h : Holds w F) => fill_any (at_ kk : Nat) 128 w F h (by decide))
            have HDL := Lib.hid (fillL_len (at_ kk : Nat))
            generalize fillL (at_ kk : Nat) 128 = D at *
            clear hmem hg1 hg2 hg3 hg4 hlk his hrd6 hon6 hops6 hch6 hkl hkk
            go_wp2_with fail
            refine HHD.out.mono ?_
            rintro e w7 ⟨rfl, hH7, hg7⟩
            have hG7 := hG6.trans hg7
            rw [show ((some (hdK 2 (at_ kk))).getD Hd.zero).agg = .agg #[.int .i64 2, .int .u64 (at_ kk : Nat), .int .i64 (1 + (at_ kk : Nat)), .int .i64 0] from rfl, show (some (hdK 2 (at_ kk))).isSome = true from rfl]
            clear HHD hg7 hG6 hH6
            go_upto_region 30 with fail
            have hH8 := hH7.alloc (.cells #[.int .i64 2, .int .u64 (at_ kk : Nat), .int .i64 (1 + (at_ kk : Nat)), .int .i64 0] 37)
            have hG8 := hG7.alloc (.cells #[.int .i64 2, .int .u64 (at_ kk : Nat), .int .i64 (1 + (at_ kk : Nat)), .int .i64 0] 37)
            generalize w7.alloc (.cells #[.int .i64 2, .int .u64 (at_ kk : Nat), .int .i64 (1 + (at_ kk : Nat)), .int .i64 0] 37) = w8 at *
            generalize w7.heap.size = gh at *
            have HGT := Lib.hid (HGE.out w8 ((gh, .cells #[.int .i64 2, .int .u64 (at_ kk : Nat), .int .i64 (1 + (at_ kk : Nat)), .int .i64 0] 37) :: ((ga, arrI at_) :: ((gb, arrB is) :: allOf W))) (hH8.sub (by (repeat' (first | refine sub_append ?_ ?_ | refine sub_cons ?_ ?_ | exact sub_nil)); all_goals first | (intro p hp; simp only [List.mem_append, List.mem_cons, hp, true_or, or_true]) | simp only [List.mem_append, List.mem_cons, true_or, or_true]) (fun b => by simp only [keyc_append, keyc_cons, keyc_nil]; omega)))
            clear HGE hH7 hG7 hH8
            go_wp2_with fail
            refine HGT.out.mono ?_
            rintro e w9 ⟨v9, Hv9, ve9, He9, Hc9, rfl, hb9, he9, hch9, hH9, hg9⟩
            dsimp only at hb9 he9 hch9
            obtain ⟨rfl, rfl⟩ := isErr0 he9
            rw [hdK_agg2]
            have HC9 := Lib.hid hch9
            have HB9 := Lib.hid hb9
            obtain ⟨A9, q9, rfl⟩ := hb9.val
            rw [HDL.out] at HB9 ⊢
            have hG9 := hG8.trans hg9
            clear he9 hb9 hch9 hg9 hG8 HGT
            go_upto_region 31 with fail
            have hHA := hH9.alloc (.cells #[.int .i64 2, .int .u64 (at_ kk : Nat), .int .i64 (1 + (at_ kk : Nat)), .int .i64 0] 37)
            have hGA := hG9.alloc (.cells #[.int .i64 2, .int .u64 (at_ kk : Nat), .int .i64 (1 + (at_ kk : Nat)), .int .i64 0] 37)
            generalize w9.alloc (.cells #[.int .i64 2, .int .u64 (at_ kk : Nat), .int .i64 (1 + (at_ kk : Nat)), .int .i64 0] 37) = wA at *
            generalize w9.heap.size = gi at *
            have hHB : Holds wA ((ga, arrI at_) :: ((gb, arrB is) :: ((gh, .cells #[.int .i64 2, .int .u64 (at_ kk : Nat), .int .i64 (1 + (at_ kk : Nat)), .int .i64 0] 37) :: (Hv9 ++ (Hs5 ++ (Hc9 ++ allOf W)))))) := hHA.sub (by (repeat' (first | refine sub_append ?_ ?_ | refine sub_cons ?_ ?_ | exact sub_nil)); all_goals first | (intro p hp; simp only [List.mem_append, List.mem_cons, hp, true_or, or_true]) | simp only [List.mem_append, List.mem_cons, true_or, or_true]) (fun b => by simp only [keyc_append, keyc_cons, keyc_nil]; omega)
            clear hH9 hG9 hHA
            have HSW := Lib.hid (fun (wx : World) (F : HL) (h : Holds wx ((ga, arrI at_) :: ((gb, arrB is) :: ((gh, .cells #[.int .i64 2, .int .u64 (at_ kk : Nat), .int .i64 (1 + (at_ kk : Nat)), .int .i64 0] 37) :: F)))) => show wx.cell? ⟨ga, kk, none⟩ = some (.int .i64 (at_ kk : Nat)) ∧ wx.cell? ⟨gb, kk, none⟩ = some (.bool true) ∧ wx.cell? ⟨gh, 2, none⟩ = some (.int .i64 (1 + (at_ kk : Nat))) from ⟨(HAC.out wx _ h).1, (HAC.out wx _ h).2, h.tail.tail.hcell 2⟩)
            generalize (at_ kk : Int) = az at *
            refine Z_begin (fun wx => wx.cell? ⟨ga, kk, none⟩ = some (.int .i64 az) ∧ wx.cell? ⟨gb, kk, none⟩ = some (.bool true) ∧ wx.cell? ⟨gh, 2, none⟩ = some (.int .i64 (1 + az))) 29 (by kernel_rfl) (fun w1 hd => HSW.out _ _ (hHB.dr hd)) (fun w1 hd hs => ?_)
            have hHc := hHB.dr hd; have hGc := hGA.trans (Grew.dr hd); clear hd hHB hGA
            refine Z_takeD 0 (some 135) (v := ?_) rfl rfl (by kernel_rfl) (fun _ _ _ h => h) (by rfl) hs ?_ ?_
            rotate_left
            · intro wx hx; obtain ⟨s1, s2, s3⟩ := hx; go_simp; try with_reducible rfl
            simp only [Act.put, List.setIfInBounds_toArray, List.set_cons_succ, List.set_cons_zero]
            refine Z_takeD 1 (some 136) (v := ?_) rfl rfl (by kernel_rfl) (fun _ _ _ h => h) (by rfl) hs ?_ ?_
            rotate_left
            · intro wx hx; obtain ⟨s1, s2, s3⟩ := hx; go_simp; try with_reducible rfl
            simp only [Act.put, List.setIfInBounds_toArray, List.set_cons_succ, List.set_cons_zero]
            refine Z_takeD 2 (some 137) (v := ?_) rfl rfl (by kernel_rfl) (fun _ _ _ h => h) (by rfl) hs ?_ ?_
            rotate_left
            · intro wx hx; obtain ⟨s1, s2, s3⟩ := hx; go_simp; try with_reducible rfl
            simp only [Act.put, List.setIfInBounds_toArray, List.set_cons_succ, List.set_cons_zero]
            refine Z_takeD 3 (some 138) (v := ?_) rfl rfl (by kernel_rfl) (fun _ _ _ h => h) (by rfl) hs ?_ ?_
            rotate_left
            · intro wx hx; obtain ⟨s1, s2, s3⟩ := hx; go_simp; try with_reducible rfl
            simp only [Act.put, List.setIfInBounds_toArray, List.set_cons_succ, List.set_cons_zero]
            refine Z_takeD 4 (some 139) (v := ?_) rfl rfl (by kernel_rfl) (fun _ _ _ h => h) (by rfl) hs ?_ ?_
            rotate_left
            · intro wx hx; obtain ⟨s1, s2, s3⟩ := hx; go_simp; try with_reducible rfl
            simp only [Act.put, List.setIfInBounds_toArray, List.set_cons_succ, List.set_cons_zero]
            refine Z_takeD 5 (some 140) (v := ?_) rfl rfl (by kernel_rfl) (fun _ _ _ h => h) (by rfl) hs ?_ ?_
            rotate_left
            · intro wx hx; obtain ⟨s1, s2, s3⟩ := hx; go_simp; try with_reducible rfl
            simp only [Act.put, List.setIfInBounds_toArray, List.set_cons_succ, List.set_cons_zero]
            refine Z_takeD 6 (some 141) (v := ?_) rfl rfl (by kernel_rfl) (fun _ _ _ h => h) (by rfl) hs ?_ ?_
            rotate_left
            · intro wx hx; obtain ⟨s1, s2, s3⟩ := hx; go_simp; try with_reducible rfl
            simp only [Act.put, List.setIfInBounds_toArray, List.set_cons_succ, List.set_cons_zero]
            refine Z_takeD 7 (some 142) (v := ?_) rfl rfl (by kernel_rfl) (fun _ _ _ h => h) (by rfl) hs ?_ ?_
            rotate_left
            · intro wx hx; obtain ⟨s1, s2, s3⟩ := hx; go_simp; try with_reducible rfl
            simp only [Act.put, List.setIfInBounds_toArray, List.set_cons_succ, List.set_cons_zero]
            refine Z_takeD 8 (some 143) (v := ?_) rfl rfl (by kernel_rfl) (fun _ _ _ h => h) (by rfl) hs ?_ ?_
            rotate_left
            · intro wx hx; obtain ⟨s1, s2, s3⟩ := hx; go_simp; try with_reducible rfl
            simp only [Act.put, List.setIfInBounds_toArray, List.set_cons_succ, List.set_cons_zero]
            refine Z_takeD 9 (some 144) (v := ?_) rfl rfl (by kernel_rfl) (fun _ _ _ h => h) (by rfl) hs ?_ ?_
            rotate_left
            · intro wx hx; obtain ⟨s1, s2, s3⟩ := hx; go_simp; try with_reducible rfl
            simp only [Act.put, List.setIfInBounds_toArray, List.set_cons_succ, List.set_cons_zero]
            refine Z_takeD 10 (some 145) (v := ?_) rfl rfl (by kernel_rfl) (fun _ _ _ h => h) (by rfl) hs ?_ ?_
            rotate_left
            · intro wx hx; obtain ⟨s1, s2, s3⟩ := hx; go_simp; try with_reducible rfl
            simp only [Act.put, List.setIfInBounds_toArray, List.set_cons_succ, List.set_cons_zero]
            refine Z_takeD 11 (some 146) (v := ?_) rfl rfl (by kernel_rfl) (fun _ _ _ h => h) (by rfl) hs ?_ ?_
            rotate_left
            · intro wx hx; obtain ⟨s1, s2, s3⟩ := hx; go_simp; try with_reducible rfl
            simp only [Act.put, List.setIfInBounds_toArray, List.set_cons_succ, List.set_cons_zero]
            refine Z_takeD 12 (some 147) (v := ?_) rfl rfl (by kernel_rfl) (fun _ _ _ h => h) (by rfl) hs ?_ ?_
            rotate_left
            · intro wx hx; obtain ⟨s1, s2, s3⟩ := hx; go_simp; try with_reducible rfl
            simp only [Act.put, List.setIfInBounds_toArray, List.set_cons_succ, List.set_cons_zero]
            refine Z_takeD 13 (some 148) (v := ?_) rfl rfl (by kernel_rfl) (fun _ _ _ h => h) (by rfl) hs ?_ ?_
            rotate_left
            · intro wx hx; obtain ⟨s1, s2, s3⟩ := hx; go_simp; try with_reducible rfl
            simp only [Act.put, List.setIfInBounds_toArray, List.set_cons_succ, List.set_cons_zero]
            refine Z_takeD 14 (some 149) (v := ?_) rfl rfl (by kernel_rfl) (fun _ _ _ h => h) (by rfl) hs ?_ ?_
            rotate_left
            · intro wx hx; obtain ⟨s1, s2, s3⟩ := hx; go_simp; try with_reducible rfl
            simp only [Act.put, List.setIfInBounds_toArray, List.set_cons_succ, List.set_cons_zero]
            refine Z_takeD 15 (some 150) (v := ?_) rfl rfl (by kernel_rfl) (fun _ _ _ h => h) (by rfl) hs ?_ ?_
            rotate_left
            · intro wx hx; obtain ⟨s1, s2, s3⟩ := hx; go_simp; try with_reducible rfl
            simp only [Act.put, List.setIfInBounds_toArray, List.set_cons_succ, List.set_cons_zero]
            refine Z_takeD 16 (some 151) (v := ?_) rfl rfl (by kernel_rfl) (fun _ _ _ h => h) (by rfl) hs ?_ ?_
            rotate_left
            · intro wx hx; obtain ⟨s1, s2, s3⟩ := hx; go_simp; try with_reducible rfl
            simp only [Act.put, List.setIfInBounds_toArray, List.set_cons_succ, List.set_cons_zero]
            refine Z_takeD 17 (some 152) (v := ?_) rfl rfl (by kernel_rfl) (fun _ _ _ h => h) (by rfl) hs ?_ ?_
            rotate_left
            · intro wx hx; obtain ⟨s1, s2, s3⟩ := hx; go_simp; try with_reducible rfl
            simp only [Act.put, List.setIfInBounds_toArray, List.set_cons_succ, List.set_cons_zero]
            refine Z_takeD 18 (some 153) (v := ?_) rfl rfl (by kernel_rfl) (fun _ _ _ h => h) (by rfl) hs ?_ ?_
            rotate_left
            · intro wx hx; obtain ⟨s1, s2, s3⟩ := hx; go_simp; try with_reducible rfl
            simp only [Act.put, List.setIfInBounds_toArray, List.set_cons_succ, List.set_cons_zero]
            refine Z_takeD 19 (some 154) (v := ?_) rfl rfl (by kernel_rfl) (fun _ _ _ h => h) (by rfl) hs ?_ ?_
            rotate_left
            · intro wx hx; obtain ⟨s1, s2, s3⟩ := hx; go_simp; try with_reducible rfl
            simp only [Act.put, List.setIfInBounds_toArray, List.set_cons_succ, List.set_cons_zero]
            refine Z_takeD 20 (some 155) (v := ?_) rfl rfl (by kernel_rfl) (fun _ _ _ h => h) (by rfl) hs ?_ ?_
            rotate_left
            · intro wx hx; obtain ⟨s1, s2, s3⟩ := hx; go_simp; try with_reducible rfl
            simp only [Act.put, List.setIfInBounds_toArray, List.set_cons_succ, List.set_cons_zero]
            refine Z_takeD 21 (some 156) (v := ?_) rfl rfl (by kernel_rfl) (fun _ _ _ h => h) (by rfl) hs ?_ ?_
            rotate_left
            · intro wx hx; obtain ⟨s1, s2, s3⟩ := hx; go_simp; try with_reducible rfl
            simp only [Act.put, List.setIfInBounds_toArray, List.set_cons_succ, List.set_cons_zero]
            refine Z_takeD 22 (some 157) (v := ?_) rfl rfl (by kernel_rfl) (fun _ _ _ h => h) (by rfl) hs ?_ ?_
            rotate_left
            · intro wx hx; obtain ⟨s1, s2, s3⟩ := hx; go_simp; try with_reducible rfl
            simp only [Act.put, List.setIfInBounds_toArray, List.set_cons_succ, List.set_cons_zero]
            refine Z_takeD 23 (some 158) (v := ?_) rfl rfl (by kernel_rfl) (fun _ _ _ h => h) (by rfl) hs ?_ ?_
            rotate_left
            · intro wx hx; obtain ⟨s1, s2, s3⟩ := hx; go_simp; try with_reducible rfl
            simp only [Act.put, List.setIfInBounds_toArray, List.set_cons_succ, List.set_cons_zero]
            refine Z_mid 24 rfl (by kernel_rfl) (fun K hK => ?_)
            have ⟨s1, s2, s3⟩ := hs
            go_simp; refine (HFL.out w1 _ hHc).mono ?_; rintro e wB ⟨vB, HB, rfl, hbB, hHd, hgB⟩; have hGd := hGc.trans hgB; have HSM := Lib.hid (same_any (.slice A9 128 q9) vB D D wB (HB9.out.at_ (Fr := []) (hHd.sub (by (repeat' (first | refine sub_append ?_ ?_ | refine sub_cons ?_ ?_ | exact sub_nil)); all_goals first | (intro p hp; simp only [List.mem_append, List.mem_cons, hp, true_or, or_true]) | simp only [List.mem_append, List.mem_cons, true_or, or_true]) (fun b => by simp only [keyc_append, keyc_cons, keyc_nil]; omega))) (hbB.at_ hHd)); rw [decide_eq_true (rfl : D = D)] at HSM; obtain ⟨AB, qB, rfl⟩ := hbB.val; rw [HDL.out] at HSM ⊢; clear hHc hGc hbB hgB   -- call w
            clear s1 s2 s3
            refine hK _ _ (HSW.out _ _ (hHd.sub (by (repeat' (first | refine sub_append ?_ ?_ | refine sub_cons ?_ ?_ | exact sub_nil)); all_goals first | (intro p hp; simp only [List.mem_append, List.mem_cons, hp, true_or, or_true]) | simp only [List.mem_append, List.mem_cons, true_or, or_true]) (fun b => by simp only [keyc_append, keyc_cons, keyc_nil]; omega) : Holds wB ((ga, arrI at_) :: ((gb, arrB is) :: (_ :: (HB ++ (Hv9 ++ (Hs5 ++ (Hc9 ++ allOf W))))))))) (fun hs2 => ?_); clear hK K hs; have hs := hs2; clear hs2
            refine Z_mid 25 rfl (by kernel_rfl) (fun K hK => ?_)
            have ⟨s1, s2, s3⟩ := hs
            go_simp; refine HSM.out.mono ?_; rintro e wC ⟨rfl, q, rfl⟩; have hHe := hHd.drewN q; have hGe := hGd.trans (Grew.dr ⟨q, rfl⟩); clear hHd hGd HSM   -- call w
            clear s1 s2 s3
            refine hK _ _ (HSW.out _ _ (hHe.sub (by (repeat' (first | refine sub_append ?_ ?_ | refine sub_cons ?_ ?_ | exact sub_nil)); all_goals first | (intro p hp; simp only [List.mem_append, List.mem_cons, hp, true_or, or_true]) | simp only [List.mem_append, List.mem_cons, true_or, or_true]) (fun b => by simp only [keyc_append, keyc_cons, keyc_nil]; omega) : Holds _ ((ga, arrI at_) :: ((gb, arrB is) :: (_ :: (HB ++ (Hv9 ++ (Hs5 ++ (Hc9 ++ allOf W))))))))) (fun hs2 => ?_); clear hK K hs; have hs := hs2; clear hs2
            refine Z_takeD 26 (some 161) (v := ?_) rfl rfl (by kernel_rfl) (fun _ _ _ h => h) (by rfl) hs ?_ ?_
            rotate_left
            · intro wx hx; obtain ⟨s1, s2, s3⟩ := hx; go_simp; try with_reducible rfl
            simp only [Act.put, List.setIfInBounds_toArray, List.set_cons_succ, List.set_cons_zero]
            refine Z_takeD 27 (some 162) (v := ?_) rfl rfl (by kernel_rfl) (fun _ _ _ h => h) (by rfl) hs ?_ ?_
            rotate_left
            · intro wx hx; obtain ⟨s1, s2, s3⟩ := hx; go_simp; try with_reducible rfl
            simp only [Act.put, List.setIfInBounds_toArray, List.set_cons_succ, List.set_cons_zero]
            refine Z_takeD 28 (some 163) (v := ?_) rfl rfl (by kernel_rfl) (fun _ _ _ h => h) (by rfl) hs ?_ ?_
            rotate_left
            · intro wx hx; obtain ⟨s1, s2, s3⟩ := hx; go_simp; try with_reducible rfl
            simp only [Act.put, List.setIfInBounds_toArray, List.set_cons_succ, List.set_cons_zero]
            refine Z_done (by kernel_rfl) ?_ _
            have hHf : Holds _ ((ga, arrI at_) :: ((gb, arrB is) :: (Hs5 ++ (Hc9 ++ allOf W)))) := hHe.sub (by (repeat' (first | refine sub_append ?_ ?_ | refine sub_cons ?_ ?_ | exact sub_nil)); all_goals first | (intro p hp; simp only [List.mem_append, List.mem_cons, hp, true_or, or_true]) | simp only [List.mem_append, List.mem_cons, true_or, or_true]) (fun b => by simp only [keyc_append, keyc_cons, keyc_nil]; omega)
            clear hHe hs
            go_wp2_with fail
            exact ⟨⟨kk + 1, c7, Hc9, by omega, by go_num, HR7.out, HON7.out, HO7.out, HC9.out, hHf, hGe⟩, by simp [intOf]; omega⟩
        · have hkx : ¬ (kk : Int) < 64 := by omega
          have hmi := nmisuse_any hch6 (hH6.sub (by (repeat' (first | refine sub_append ?_ ?_ | refine sub_cons ?_ ?_ | exact sub_nil)); all_goals first | (intro p hp; simp only [List.mem_append, List.mem_cons, hp, true_or, or_true]) | simp only [List.mem_append, List.mem_cons, true_or, or_true]) (fun b => by simp only [keyc_append, keyc_cons, keyc_nil]; omega) : Holds wr (Hc6 ++ allOf W))
          rw [show c6.misuse = 0 by rw [hrd6.mis]; exact HMI4.out] at hmi
          have HMI := Lib.hid hmi
          have HAW := Lib.hid (awake16_any wr (allOf W) hH6.tail.tail.right.right)
          clear hmi hrd6 hon6 hops6 hch6 hH6
          go_wp2_with fail
          refine HMI.out.mono ?_
          rintro e wx ⟨rfl, rfl⟩
          go_wp2_with fail
          refine HAW.out.mono ?_
          rintro e wy ⟨rfl, hHy, hgy⟩
          have hGy := hG6.trans hgy
          clear HMI HAW hgy hG6
          go_wp2_with fail
          go_ret
          exact ⟨rfl, hHy, hGy⟩
end Go.Proofs.YtoelopghilbfeaaGreat
