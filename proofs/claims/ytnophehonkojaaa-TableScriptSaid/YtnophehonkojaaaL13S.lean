/-
  Chapter 13: TableScript.
-/
import Derived.Test.YtnophehonkojaaaL13O
import Derived.Test.YtnophehonkojaaaL13P
import Derived.Test.YtnophehonkojaaaR13C
import Derived.Test.YtnophehonkojaaaOpenT
import Derived.Deep.CutBlock
namespace Go.Proofs.Ytnophehonkojaaa
open Go.RowKit
set_option linter.unusedSimpArgs false
set_option linter.unusedVariables false

theorem Holds.put4 {w : World} {A Fr : HL} {z : Nat} {e : Ent} (h : Holds w (A ++ ((z, .cells (entCs e) 28) :: Fr))) (x : Ent) : Holds (setEnt w z 0 x) (A ++ ((z, .cells (entCs x) 28) :: Fr)) := by
  have h2 : Holds w ((z, .cells (entCs e) 28) :: (A ++ Fr)) := by
    have := Holds.swap (A := A) (B := [(z, Obj.cells (entCs e) 28)]) (C := Fr) (by simpa using h)
    simpa using this
  have h3 := (((h2.set' 0 (.int .u64 x.addr)).set' 1 (.int .i64 x.page)).set' 2 (.bool x.dirty)).set' 3 (.int .i64 x.seq)
  have h4 : Holds (setEnt w z 0 x) ([(z, .cells (entCs x) 28)] ++ (A ++ Fr)) := h3
  exact h4.swap
def ScTo (n : Nat) (t r : Value) (W : World) (i : Value) (wr : World) : Prop :=
  ∃ (k : Nat) (L : List Ent) (Ht Hr : HL), k ≤ n ∧ i = .int .i64 k ∧ L.length ≤ k ∧ IsTable t L Ht ∧ IsRT r L Hr ∧ Holds wr (Ht ++ (Hr ++ allOf W)) ∧ Grew W wr
def ScMid (k : Nat) (t r : Value) (g7 g8 : Nat) (W : World) (s9 s10 : Value) (wx : World) : Prop :=
  ∃ (L : List Ent) (Ht Hr : HL) (y : Ent) (bo : Bool), L.length ≤ k + 1 ∧ s9 = .bool bo ∧ s10 = .bool bo ∧ IsTable t L Ht ∧ IsRT r L Hr ∧ Holds wx (Ht ++ (Hr ++ ((g7, .cells (entCs y) 28) :: ((g8, .cells (entCs y) 28) :: allOf W)))) ∧ Grew W wx
theorem actCells {w : World} {A Fr : HL} {g : Nat} {o n a p s : Int} {d1 d2 : Bool} (h : Holds w (A ++ ((g, .cells #[.int .i64 o, .int .i64 n, .int .u64 a, .int .i64 p, .bool d1, .int .i64 s, .bool d2] 43) :: Fr))) :
    w.cell? ⟨g, 0, none⟩ = some (.int .i64 o) ∧ w.cell? ⟨g, 1, none⟩ = some (.int .i64 n) ∧ w.cell? ⟨g, 2, none⟩ = some (.int .u64 a) ∧ w.cell? ⟨g, 3, none⟩ = some (.int .i64 p) ∧ w.cell? ⟨g, 4, none⟩ = some (.bool d1) ∧ w.cell? ⟨g, 5, none⟩ = some (.int .i64 s) ∧ w.cell? ⟨g, 6, none⟩ = some (.bool d2) :=
  ⟨h.right.hcell 0, h.right.hcell 1, h.right.hcell 2, h.right.hcell 3, h.right.hcell 4, h.right.hcell 5, h.right.hcell 6⟩
theorem IsRT.new (b : Nat) : IsRT (.pointer (some ⟨b, 0, none⟩)) [] [(b, .cells #[.slice none 0 0] 41)] := ⟨List.Pairwise.nil, by simp, by simp, b, _, [], rfl, IsEnts.nil, rfl⟩

theorem Holds.unwatch {w : World} {A B R : HL} {p q g : Nat × Obj} (h : Holds w (A ++ (B ++ (p :: (q :: (g :: R)))))) : Holds w (A ++ (B ++ (p :: (q :: R)))) := by
  have h11 : Holds w ((A ++ (B ++ [p, q])) ++ ([g] ++ R)) := by simpa using h
  simpa using h11.mid
theorem sameEn_eq (va vb : Value) (xs : List Ent) (w : World) (ha : EntsAt w va xs) (hb : EntsAt w vb xs) : Calls Try.prog 15 #[va, vb] w (RetQ w (.bool true)) := by
  have h := sameEn_any va vb xs xs w ha hb
  rw [show decide (xs = xs) = true from decide_eq_true rfl] at h
  exact h
/-- the document's table, wherever it lies -/
theorem IsRT.fix {v : Value} {L : List Ent} {H : HL} (h : IsRT v L H) : ∃ b A c, v = .pointer (some ⟨b, 0, none⟩) ∧ ∀ (wx : World) (F : HL), Holds wx (H ++ F) → wx.cell? ⟨b, 0, none⟩ = some (.slice A L.length c) ∧ EntsAt wx (.slice A L.length c) L := by
  obtain ⟨_, _, _, b, sv, Hs, rfl, hrow, rfl⟩ := h
  obtain ⟨A, c, rfl⟩ := hrow.val
  exact ⟨b, A, c, rfl, fun wx F hx => ⟨hx.hcell 0, hrow.at_ (w := wx) (Fr := (b, .cells #[.slice A L.length c] 41) :: F) (Holds.swap (A := [_]) hx)⟩⟩

set_option maxRecDepth 20000 in
set_option maxHeartbeats 4000000 in
theorem script13_walk (v : Value) (l : List A13) (W : World) (hv : ActsIn13 W v l) : Calls Try.prog 4 #[v] W (RetFr (.bool true) W (allOf W)) := by
  obtain ⟨hat, hok⟩ := hv
  have hH := holds_all W
  have HA := Lib.hid (fun (w : World) (H : HL) (hx : Holds w (H ++ allOf W)) => awake13_any w _ hx)
  have HAT := Lib.hid hat
  have HOK := Lib.hid hok
  have hel := ReadsAt.le hat
  unfold maxLen at hel
  obtain ⟨A0, c0, rfl⟩ := hat.val
  clear hat hok
  obtain ⟨n, hn⟩ : ∃ n, n = l.length := ⟨_, rfl⟩
  have HN := Lib.hid hn
  rw [← hn] at hel ⊢
  clear hn
  have HAW := Lib.hid (awake13_any W _ hH)
  have HT1 := Lib.hid (tbnewT_any W _ hH)
  clear hH
  by_cases hb1 : 80 < n
  · clear HT1
    go_enter Try.func4, Try.ntmps4
    go_wp2_with fail
    refine HAW.out.mono ?_
    rintro e w' ⟨rfl, h1, h2⟩
    go_wp2_with fail
    go_ret
    exact ⟨rfl, h1, h2⟩
  clear HAW
  go_enter Try.func4, Try.ntmps4
  go_wp2_with fail
  refine HT1.out.mono ?_
  rintro e w1 ⟨t1, H1, rfl, ht1, hH1, hg1⟩
  obtain ⟨b1, rfl⟩ := ht1.ptr
  have HTA := Lib.hid ht1
  have hH2 := Holds.swap (A := [_]) (hH1.alloc (.cells #[.slice none 0 0] 41))
  have hg2 := hg1.alloc (.cells #[.slice none 0 0] 41)
  have HRT := Lib.hid (IsRT.new w1.heap.size)
  clear HT1 ht1 hH1 hg1
  have hd80 : decide ((80 : Int) < (n : Int)) = false := decide_eq_false (by omega)
  go_wp2_with fail
  generalize w1.heap.size = b2 at *
  go_loopw [5] (fun i wr => ScTo n (.pointer (some ⟨b1, 0, none⟩)) (.pointer (some ⟨b2, 0, none⟩)) W i wr) (fun i _ => n - (intOf i).toNat)
  case atStart => exact ⟨0, [], H1, _, by omega, rfl, by simp, HTA.out, HRT.out, hH2, hg2⟩
  case round =>
    clear hH2 hg2 HTA HRT
    obtain ⟨k, L, Ht, Hr, hk, rfl, hLk, ht, hr, hHr, hgr⟩ := hrel
    have HT := Lib.hid ht
    have HR := Lib.hid hr
    have HHR := Lib.hid hHr
    clear ht hr
    by_cases hlt : k < n
    · have hlt2 : k < l.length := by rw [← HN.out]; exact hlt
      obtain ⟨bb, oo, rfl, hce⟩ := (HAT.out.all (H := Ht ++ Hr) (by simpa using hHr)).act (by omega)
      obtain ⟨d0, d1, d2, d3, d4, d5, d6⟩ := hce k hlt2
      have hnn := (HOK.out _ (List.getElem_mem hlt2)).1.1
      clear hce hHr
      generalize l[k] = x at *
      obtain ⟨op, nn, ⟨e0, e1, e2, e3⟩, ed⟩ := x
      simp only at d0 d1 d2 d3 d4 d5 d6 hnn
      have hH3 := ((HHR.out.alloc (.cells #[.int .i64 op, .int .i64 nn, .int .u64 e0, .int .i64 e1, .bool e2, .int .i64 e3, .bool ed] 43)).alloc (.cells #[.int .u64 0, .int .i64 0, .bool false, .int .i64 0] 28)).alloc (.cells #[.int .u64 0, .int .i64 0, .bool false, .int .i64 0] 28)
      have hg3 := ((hgr.alloc (.cells #[.int .i64 op, .int .i64 nn, .int .u64 e0, .int .i64 e1, .bool e2, .int .i64 e3, .bool ed] 43)).alloc (.cells #[.int .u64 0, .int .i64 0, .bool false, .int .i64 0] 28)).alloc (.cells #[.int .u64 0, .int .i64 0, .bool false, .int .i64 0] 28)
      simp only [World.size_alloc] at hH3
      go_upto_block 2 with fail
      clear d0 d1 d2 d3 d4 d5 d6
      have hH4 : Holds (((wr.alloc (.cells #[.int .i64 op, .int .i64 nn, .int .u64 e0, .int .i64 e1, .bool e2, .int .i64 e3, .bool ed] 43)).alloc (.cells #[.int .u64 0, .int .i64 0, .bool false, .int .i64 0] 28)).alloc (.cells #[.int .u64 0, .int .i64 0, .bool false, .int .i64 0] 28)) (Ht ++ (Hr ++ ((wr.heap.size + 1, .cells (entCs ⟨0, 0, false, 0⟩) 28) :: ((wr.heap.size + 1 + 1, .cells (entCs ⟨0, 0, false, 0⟩) 28) :: ((wr.heap.size, (.cells #[.int .i64 op, .int .i64 nn, .int .u64 e0, .int .i64 e1, .bool e2, .int .i64 e3, .bool ed] 43)) :: allOf W))))) := by
        have h : Holds _ (Ht ++ (Hr ++ ((wr.heap.size + 1, .cells #[.int .u64 0, .int .i64 0, .bool false, .int .i64 0] 28) :: ((wr.heap.size + 1 + 1, .cells #[.int .u64 0, .int .i64 0, .bool false, .int .i64 0] 28) :: ((wr.heap.size, (.cells #[.int .i64 op, .int .i64 nn, .int .u64 e0, .int .i64 e1, .bool e2, .int .i64 e3, .bool ed] 43)) :: allOf W))))) := hH3.sub (by (repeat' (first | refine sub_append ?_ ?_ | refine sub_cons ?_ ?_ | exact sub_nil)); all_goals first | (intro p hp; simp only [List.mem_append, List.mem_cons, hp, true_or, or_true]) | simp only [List.mem_append, List.mem_cons, true_or, or_true]) (fun b => by simp only [keyc_append, keyc_cons, keyc_nil]; omega)
        exact h
      have hg4 := hg3
      clear hH3 hg3 HHR hgr
      generalize ((wr.alloc (.cells #[.int .i64 op, .int .i64 nn, .int .u64 e0, .int .i64 e1, .bool e2, .int .i64 e3, .bool ed] 43)).alloc (.cells #[.int .u64 0, .int .i64 0, .bool false, .int .i64 0] 28)).alloc (.cells #[.int .u64 0, .int .i64 0, .bool false, .int .i64 0] 28) = wA at *
      generalize wr.heap.size + 1 + 1 = g8 at *
      generalize wr.heap.size + 1 = g7 at *
      generalize wr.heap.size = g6 at *
      go_cut [9, 10] (fun s9 s10 wx => ScMid k (.pointer (some ⟨b1, 0, none⟩)) (.pointer (some ⟨b2, 0, none⟩)) g7 g8 W s9 s10 wx)
      case first =>
        by_cases o0 : op = 0
        · subst o0
          have HP1 := Lib.hid (tbput_any (.pointer (some ⟨b1, 0, none⟩)) L ⟨e0, e1, e2, e3⟩ Ht (Hr ++ ((g7, .cells (entCs ⟨0, 0, false, 0⟩) 28) :: ((g8, .cells (entCs ⟨0, 0, false, 0⟩) 28) :: ((g6, (.cells #[.int .i64 0, .int .i64 nn, .int .u64 e0, .int .i64 e1, .bool e2, .int .i64 e3, .bool ed] 43)) :: allOf W)))) wA HT.out hH4 hnn (by omega))
          have HP2 := Lib.hid (fun (wx : World) (F : HL) (hx : Holds wx (Hr ++ F)) => r13put_any (.pointer (some ⟨b2, 0, none⟩)) L ⟨e0, e1, e2, e3⟩ Hr F wx HR.out hx hnn (by omega))
          obtain ⟨a0, a1, a2, a3, a4, a5, a6⟩ := actCells (A := Ht ++ (Hr ++ [(g7, .cells (entCs ⟨0, 0, false, 0⟩) 28), (g8, .cells (entCs ⟨0, 0, false, 0⟩) 28)])) (by simpa using hH4)
          have HLEN := Lib.hid (show (putT L ⟨e0, e1, e2, e3⟩).length ≤ k + 1 from Nat.le_trans (putT_le HT.out.inc _).1 (by omega))
          unfold optE at HP1 HP2
          generalize (findE e0 L).getD Ent.zero = y at *
          generalize (findE e0 L).isSome = bo at *
          obtain ⟨y0, y1, y2, y3⟩ := y
          simp only [Ent.agg] at HP1 HP2
          clear hH4
          go_wp2_with fail
          refine HP1.out.mono ?_
          rintro e w4 ⟨rfl, Ht4, ht4, hH5, hg5⟩
          have HT4 := Lib.hid ht4
          have hH5b : Holds w4 ((Ht4 ++ Hr) ++ ((g7, .cells (entCs ⟨0, 0, false, 0⟩) 28) :: ((g8, .cells (entCs ⟨0, 0, false, 0⟩) 28) :: ((g6, (.cells #[.int .i64 0, .int .i64 nn, .int .u64 e0, .int .i64 e1, .bool e2, .int .i64 e3, .bool ed] 43)) :: allOf W)))) := by simpa using hH5
          obtain ⟨j0, j1, j2, j3, j4, j5, j6, j7, _⟩ := open4 (e := ⟨0, 0, false, 0⟩) hH5b
          have hH6 := hH5b.put4 ⟨y0, y1, y2, y3⟩
          have hg6 := (hg4.trans hg5).setEnt g7 0 ⟨y0, y1, y2, y3⟩
          clear ht4 HP1 hH5 hH5b hg5 a0 a1 a2 a3 a4 a5 a6
          go_upto_region 15 with fail
          simp only [setEnt, Nat.zero_add] at hH6 hg6
          generalize (((w4.setCell ⟨g7, 0, none⟩ (.int .u64 y0)).setCell ⟨g7, 1, none⟩ (.int .i64 y1)).setCell ⟨g7, 2, none⟩ (.bool y2)).setCell ⟨g7, 3, none⟩ (.int .i64 y3) = w5 at *
          have hH7 : Holds w5 (Hr ++ (Ht4 ++ ((g7, .cells (entCs ⟨y0, y1, y2, y3⟩) 28) :: ((g8, .cells (entCs ⟨0, 0, false, 0⟩) 28) :: ((g6, (.cells #[.int .i64 0, .int .i64 nn, .int .u64 e0, .int .i64 e1, .bool e2, .int .i64 e3, .bool ed] 43)) :: allOf W))))) := by
            have h : Holds w5 (Ht4 ++ (Hr ++ ((g7, .cells (entCs ⟨y0, y1, y2, y3⟩) 28) :: ((g8, .cells (entCs ⟨0, 0, false, 0⟩) 28) :: ((g6, (.cells #[.int .i64 0, .int .i64 nn, .int .u64 e0, .int .i64 e1, .bool e2, .int .i64 e3, .bool ed] 43)) :: allOf W))))) := by simpa using hH6
            exact h.swap
          obtain ⟨a0, a1, a2, a3, a4, a5, a6⟩ := actCells (A := Hr ++ (Ht4 ++ [(g7, .cells (entCs ⟨y0, y1, y2, y3⟩) 28), (g8, .cells (entCs ⟨0, 0, false, 0⟩) 28)])) (by simpa using hH7)
          have HP3 := Lib.hid (HP2.out w5 _ hH7)
          clear HP2 hH6 hH7 j0 j1 j2 j3 j4 j5 j6 j7
          go_wp2_with fail
          refine HP3.out.mono ?_
          rintro e w6 ⟨rfl, Hr6, hr6, hH8, hg8⟩
          have HR6 := Lib.hid hr6
          have hH8b : Holds w6 ((Hr6 ++ (Ht4 ++ [(g7, .cells (entCs ⟨y0, y1, y2, y3⟩) 28)])) ++ ((g8, .cells (entCs ⟨0, 0, false, 0⟩) 28) :: ((g6, (.cells #[.int .i64 0, .int .i64 nn, .int .u64 e0, .int .i64 e1, .bool e2, .int .i64 e3, .bool ed] 43)) :: allOf W))) := by simpa using hH8
          obtain ⟨j0, j1, j2, j3, j4, j5, j6, j7, _⟩ := open4 (e := ⟨0, 0, false, 0⟩) hH8b
          have hH9 := hH8b.put4 ⟨y0, y1, y2, y3⟩
          have hg9 := (hg6.trans hg8).setEnt g8 0 ⟨y0, y1, y2, y3⟩
          simp only [setEnt, Nat.zero_add] at hH9 hg9
          have HH9 := Lib.hid hH9; have HG9 := Lib.hid hg9
          clear hr6 HP3 hH8 hH8b hg8 hH9 hg9 a0 a1 a2 a3 a4 a5 a6
          go_wp2_with fail
          go_meet
          refine ⟨(putT L ⟨e0, e1, e2, e3⟩), Ht4, Hr6, ⟨y0, y1, y2, y3⟩, bo, HLEN.out, rfl, rfl, HT4.out, HR6.out, ?_, HG9.out⟩
          have h9 := HH9.out
          simp only [List.append_assoc, List.cons_append, List.nil_append] at h9
          have h10 : Holds _ (Ht4 ++ (Hr6 ++ ((g7, .cells (entCs ⟨y0, y1, y2, y3⟩) 28) :: ((g8, .cells (entCs ⟨y0, y1, y2, y3⟩) 28) :: ((g6, (.cells #[.int .i64 0, .int .i64 nn, .int .u64 e0, .int .i64 e1, .bool e2, .int .i64 e3, .bool ed] 43)) :: allOf W))))) := h9.swap
          exact h10.unwatch
        by_cases o1 : op = 1
        · subst o1
          clear o0
          have HP1 := Lib.hid (tbgetT_any (.pointer (some ⟨b1, 0, none⟩)) L e0 Ht (Hr ++ ((g7, .cells (entCs ⟨0, 0, false, 0⟩) 28) :: ((g8, .cells (entCs ⟨0, 0, false, 0⟩) 28) :: ((g6, (.cells #[.int .i64 1, .int .i64 nn, .int .u64 e0, .int .i64 e1, .bool e2, .int .i64 e3, .bool ed] 43)) :: allOf W)))) wA HT.out hH4)
          have HP2 := Lib.hid (fun (wx : World) (F : HL) (hx : Holds wx (Hr ++ F)) => r13get_any (.pointer (some ⟨b2, 0, none⟩)) L e0 Hr F wx HR.out hx)
          obtain ⟨a0, a1, a2, a3, a4, a5, a6⟩ := actCells (A := Ht ++ (Hr ++ [(g7, .cells (entCs ⟨0, 0, false, 0⟩) 28), (g8, .cells (entCs ⟨0, 0, false, 0⟩) 28)])) (by simpa using hH4)
          have HLEN := Lib.hid (show L.length ≤ k + 1 from by omega)
          unfold optE at HP1 HP2
          generalize (findE e0 L).getD Ent.zero = y at *
          generalize (findE e0 L).isSome = bo at *
          obtain ⟨y0, y1, y2, y3⟩ := y
          simp only [Ent.agg] at HP1 HP2
          clear hH4
          go_wp2_with fail
          refine HP1.out.mono ?_
          rintro e w4 ⟨rfl, hH5, hg5⟩
          have ht4 := HT.out
          obtain ⟨Ht4, hHt4⟩ : ∃ H, H = Ht := ⟨_, rfl⟩
          rw [← hHt4] at hH5 ht4
          clear hHt4
          have HT4 := Lib.hid ht4
          have hH5b : Holds w4 ((Ht4 ++ Hr) ++ ((g7, .cells (entCs ⟨0, 0, false, 0⟩) 28) :: ((g8, .cells (entCs ⟨0, 0, false, 0⟩) 28) :: ((g6, (.cells #[.int .i64 1, .int .i64 nn, .int .u64 e0, .int .i64 e1, .bool e2, .int .i64 e3, .bool ed] 43)) :: allOf W)))) := by simpa using hH5
          obtain ⟨j0, j1, j2, j3, j4, j5, j6, j7, _⟩ := open4 (e := ⟨0, 0, false, 0⟩) hH5b
          have hH6 := hH5b.put4 ⟨y0, y1, y2, y3⟩
          have hg6 := (hg4.trans hg5).setEnt g7 0 ⟨y0, y1, y2, y3⟩
          clear ht4 HP1 hH5 hH5b hg5 a0 a1 a2 a3 a4 a5 a6
          go_upto_region 18 with fail
          simp only [setEnt, Nat.zero_add] at hH6 hg6
          generalize (((w4.setCell ⟨g7, 0, none⟩ (.int .u64 y0)).setCell ⟨g7, 1, none⟩ (.int .i64 y1)).setCell ⟨g7, 2, none⟩ (.bool y2)).setCell ⟨g7, 3, none⟩ (.int .i64 y3) = w5 at *
          have hH7 : Holds w5 (Hr ++ (Ht4 ++ ((g7, .cells (entCs ⟨y0, y1, y2, y3⟩) 28) :: ((g8, .cells (entCs ⟨0, 0, false, 0⟩) 28) :: ((g6, (.cells #[.int .i64 1, .int .i64 nn, .int .u64 e0, .int .i64 e1, .bool e2, .int .i64 e3, .bool ed] 43)) :: allOf W))))) := by
            have h : Holds w5 (Ht4 ++ (Hr ++ ((g7, .cells (entCs ⟨y0, y1, y2, y3⟩) 28) :: ((g8, .cells (entCs ⟨0, 0, false, 0⟩) 28) :: ((g6, (.cells #[.int .i64 1, .int .i64 nn, .int .u64 e0, .int .i64 e1, .bool e2, .int .i64 e3, .bool ed] 43)) :: allOf W))))) := by simpa using hH6
            exact h.swap
          obtain ⟨a0, a1, a2, a3, a4, a5, a6⟩ := actCells (A := Hr ++ (Ht4 ++ [(g7, .cells (entCs ⟨y0, y1, y2, y3⟩) 28), (g8, .cells (entCs ⟨0, 0, false, 0⟩) 28)])) (by simpa using hH7)
          have HP3 := Lib.hid (HP2.out w5 _ hH7)
          clear HP2 hH6 hH7 j0 j1 j2 j3 j4 j5 j6 j7
          go_wp2_with fail
          refine HP3.out.mono ?_
          rintro e w6 ⟨rfl, hH8, hg8⟩
          have hr6 := HR.out
          obtain ⟨Hr6, hHr6⟩ : ∃ H, H = Hr := ⟨_, rfl⟩
          rw [← hHr6] at hH8 hr6
          clear hHr6
          have HR6 := Lib.hid hr6
          have hH8b : Holds w6 ((Hr6 ++ (Ht4 ++ [(g7, .cells (entCs ⟨y0, y1, y2, y3⟩) 28)])) ++ ((g8, .cells (entCs ⟨0, 0, false, 0⟩) 28) :: ((g6, (.cells #[.int .i64 1, .int .i64 nn, .int .u64 e0, .int .i64 e1, .bool e2, .int .i64 e3, .bool ed] 43)) :: allOf W))) := by simpa using hH8
          obtain ⟨j0, j1, j2, j3, j4, j5, j6, j7, _⟩ := open4 (e := ⟨0, 0, false, 0⟩) hH8b
          have hH9 := hH8b.put4 ⟨y0, y1, y2, y3⟩
          have hg9 := (hg6.trans hg8).setEnt g8 0 ⟨y0, y1, y2, y3⟩
          simp only [setEnt, Nat.zero_add] at hH9 hg9
          have HH9 := Lib.hid hH9; have HG9 := Lib.hid hg9
          clear hr6 HP3 hH8 hH8b hg8 hH9 hg9 a0 a1 a2 a3 a4 a5 a6
          go_wp2_with fail
          go_meet
          refine ⟨L, Ht4, Hr6, ⟨y0, y1, y2, y3⟩, bo, HLEN.out, rfl, rfl, HT4.out, HR6.out, ?_, HG9.out⟩
          have h9 := HH9.out
          simp only [List.append_assoc, List.cons_append, List.nil_append] at h9
          have h10 : Holds _ (Ht4 ++ (Hr6 ++ ((g7, .cells (entCs ⟨y0, y1, y2, y3⟩) 28) :: ((g8, .cells (entCs ⟨y0, y1, y2, y3⟩) 28) :: ((g6, (.cells #[.int .i64 1, .int .i64 nn, .int .u64 e0, .int .i64 e1, .bool e2, .int .i64 e3, .bool ed] 43)) :: allOf W))))) := h9.swap
          exact h10.unwatch
        by_cases o2 : op = 2
        · subst o2
          clear o0 o1
          have HP1 := Lib.hid (tbdrop_any (.pointer (some ⟨b1, 0, none⟩)) L e0 Ht (Hr ++ ((g7, .cells (entCs ⟨0, 0, false, 0⟩) 28) :: ((g8, .cells (entCs ⟨0, 0, false, 0⟩) 28) :: ((g6, (.cells #[.int .i64 2, .int .i64 nn, .int .u64 e0, .int .i64 e1, .bool e2, .int .i64 e3, .bool ed] 43)) :: allOf W)))) wA HT.out hH4)
          have HP2 := Lib.hid (fun (wx : World) (F : HL) (hx : Holds wx (Hr ++ F)) => r13drop_any (.pointer (some ⟨b2, 0, none⟩)) L e0 Hr F wx HR.out hx)
          obtain ⟨a0, a1, a2, a3, a4, a5, a6⟩ := actCells (A := Ht ++ (Hr ++ [(g7, .cells (entCs ⟨0, 0, false, 0⟩) 28), (g8, .cells (entCs ⟨0, 0, false, 0⟩) 28)])) (by simpa using hH4)
          have HLEN := Lib.hid (show (dropT L e0).length ≤ k + 1 from Nat.le_trans (dropT_le L e0) (by omega))
          unfold optE at HP1 HP2
          generalize (findE e0 L).getD Ent.zero = y at *
          generalize (findE e0 L).isSome = bo at *
          obtain ⟨y0, y1, y2, y3⟩ := y
          simp only [Ent.agg] at HP1 HP2
          clear hH4
          go_wp2_with fail
          refine HP1.out.mono ?_
          rintro e w4 ⟨rfl, Ht4, ht4, hH5, hg5⟩
          have HT4 := Lib.hid ht4
          have hH5b : Holds w4 ((Ht4 ++ Hr) ++ ((g7, .cells (entCs ⟨0, 0, false, 0⟩) 28) :: ((g8, .cells (entCs ⟨0, 0, false, 0⟩) 28) :: ((g6, (.cells #[.int .i64 2, .int .i64 nn, .int .u64 e0, .int .i64 e1, .bool e2, .int .i64 e3, .bool ed] 43)) :: allOf W)))) := by simpa using hH5
          obtain ⟨j0, j1, j2, j3, j4, j5, j6, j7, _⟩ := open4 (e := ⟨0, 0, false, 0⟩) hH5b
          have hH6 := hH5b.put4 ⟨y0, y1, y2, y3⟩
          have hg6 := (hg4.trans hg5).setEnt g7 0 ⟨y0, y1, y2, y3⟩
          clear ht4 HP1 hH5 hH5b hg5 a0 a1 a2 a3 a4 a5 a6
          go_upto_region 21 with fail
          simp only [setEnt, Nat.zero_add] at hH6 hg6
          generalize (((w4.setCell ⟨g7, 0, none⟩ (.int .u64 y0)).setCell ⟨g7, 1, none⟩ (.int .i64 y1)).setCell ⟨g7, 2, none⟩ (.bool y2)).setCell ⟨g7, 3, none⟩ (.int .i64 y3) = w5 at *
          have hH7 : Holds w5 (Hr ++ (Ht4 ++ ((g7, .cells (entCs ⟨y0, y1, y2, y3⟩) 28) :: ((g8, .cells (entCs ⟨0, 0, false, 0⟩) 28) :: ((g6, (.cells #[.int .i64 2, .int .i64 nn, .int .u64 e0, .int .i64 e1, .bool e2, .int .i64 e3, .bool ed] 43)) :: allOf W))))) := by
            have h : Holds w5 (Ht4 ++ (Hr ++ ((g7, .cells (entCs ⟨y0, y1, y2, y3⟩) 28) :: ((g8, .cells (entCs ⟨0, 0, false, 0⟩) 28) :: ((g6, (.cells #[.int .i64 2, .int .i64 nn, .int .u64 e0, .int .i64 e1, .bool e2, .int .i64 e3, .bool ed] 43)) :: allOf W))))) := by simpa using hH6
            exact h.swap
          obtain ⟨a0, a1, a2, a3, a4, a5, a6⟩ := actCells (A := Hr ++ (Ht4 ++ [(g7, .cells (entCs ⟨y0, y1, y2, y3⟩) 28), (g8, .cells (entCs ⟨0, 0, false, 0⟩) 28)])) (by simpa using hH7)
          have HP3 := Lib.hid (HP2.out w5 _ hH7)
          clear HP2 hH6 hH7 j0 j1 j2 j3 j4 j5 j6 j7
          go_wp2_with fail
          refine HP3.out.mono ?_
          rintro e w6 ⟨rfl, Hr6, hr6, hH8, hg8⟩
          have HR6 := Lib.hid hr6
          have hH8b : Holds w6 ((Hr6 ++ (Ht4 ++ [(g7, .cells (entCs ⟨y0, y1, y2, y3⟩) 28)])) ++ ((g8, .cells (entCs ⟨0, 0, false, 0⟩) 28) :: ((g6, (.cells #[.int .i64 2, .int .i64 nn, .int .u64 e0, .int .i64 e1, .bool e2, .int .i64 e3, .bool ed] 43)) :: allOf W))) := by simpa using hH8
          obtain ⟨j0, j1, j2, j3, j4, j5, j6, j7, _⟩ := open4 (e := ⟨0, 0, false, 0⟩) hH8b
          have hH9 := hH8b.put4 ⟨y0, y1, y2, y3⟩
          have hg9 := (hg6.trans hg8).setEnt g8 0 ⟨y0, y1, y2, y3⟩
          simp only [setEnt, Nat.zero_add] at hH9 hg9
          have HH9 := Lib.hid hH9; have HG9 := Lib.hid hg9
          clear hr6 HP3 hH8 hH8b hg8 hH9 hg9 a0 a1 a2 a3 a4 a5 a6
          go_wp2_with fail
          go_meet
          refine ⟨(dropT L e0), Ht4, Hr6, ⟨y0, y1, y2, y3⟩, bo, HLEN.out, rfl, rfl, HT4.out, HR6.out, ?_, HG9.out⟩
          have h9 := HH9.out
          simp only [List.append_assoc, List.cons_append, List.nil_append] at h9
          have h10 : Holds _ (Ht4 ++ (Hr6 ++ ((g7, .cells (entCs ⟨y0, y1, y2, y3⟩) 28) :: ((g8, .cells (entCs ⟨y0, y1, y2, y3⟩) 28) :: ((g6, (.cells #[.int .i64 2, .int .i64 nn, .int .u64 e0, .int .i64 e1, .bool e2, .int .i64 e3, .bool ed] 43)) :: allOf W))))) := h9.swap
          exact h10.unwatch
        by_cases o3 : op = 3
        · subst o3
          clear o0 o1 o2
          have HF1 := Lib.hid (tbfromT_any (.pointer (some ⟨b1, 0, none⟩)) L e0 nn ed Ht (Hr ++ ((g7, .cells (entCs ⟨0, 0, false, 0⟩) 28) :: ((g8, .cells (entCs ⟨0, 0, false, 0⟩) 28) :: ((g6, (.cells #[.int .i64 3, .int .i64 nn, .int .u64 e0, .int .i64 e1, .bool e2, .int .i64 e3, .bool ed] 43)) :: allOf W)))) wA HT.out hH4)
          have HF2 := Lib.hid (fun (wx : World) (F : HL) (hx : Holds wx (Hr ++ F)) => r13from_any (.pointer (some ⟨b2, 0, none⟩)) L e0 nn ed Hr F wx HR.out hx)
          have hfl := fromL_len L e0 nn ed
          obtain ⟨a0, a1, a2, a3, a4, a5, a6⟩ := actCells (A := Ht ++ (Hr ++ [(g7, .cells (entCs ⟨0, 0, false, 0⟩) 28), (g8, .cells (entCs ⟨0, 0, false, 0⟩) 28)])) (by simpa using hH4)
          generalize fromL L e0 nn ed = z at *
          have hLk1 : L.length ≤ k + 1 := by omega
          have hz6 : z.length ≤ 1000000 := by omega
          clear hH4
          go_wp2_with fail
          refine HF1.out.mono ?_
          rintro e w4 ⟨v4, H4, rfl, hr4, hH5, hg5⟩
          have HR4 := Lib.hid hr4
          obtain ⟨A4, c4, rfl⟩ := hr4.val
          have hH6 : Holds w4 (Hr ++ (H4 ++ (Ht ++ ((g7, .cells (entCs ⟨0, 0, false, 0⟩) 28) :: ((g8, .cells (entCs ⟨0, 0, false, 0⟩) 28) :: ((g6, (.cells #[.int .i64 3, .int .i64 nn, .int .u64 e0, .int .i64 e1, .bool e2, .int .i64 e3, .bool ed] 43)) :: allOf W)))))) := hH5.sub (by (repeat' (first | refine sub_append ?_ ?_ | refine sub_cons ?_ ?_ | exact sub_nil)); all_goals first | (intro p hp; simp only [List.mem_append, List.mem_cons, hp, true_or, or_true]) | simp only [List.mem_append, List.mem_cons, true_or, or_true]) (fun b => by simp only [keyc_append, keyc_cons, keyc_nil]; omega)
          have HF3 := Lib.hid (HF2.out w4 _ hH6)
          obtain ⟨a0, a1, a2, a3, a4, a5, a6⟩ := actCells (A := Hr ++ (H4 ++ (Ht ++ [(g7, .cells (entCs ⟨0, 0, false, 0⟩) 28), (g8, .cells (entCs ⟨0, 0, false, 0⟩) 28)]))) (by simpa using hH6)
          have hg6 := hg4.trans hg5
          clear HF1 HF2 hr4 hH5 hg5 hH6
          go_wp2_with fail
          refine HF3.out.mono ?_
          rintro e w5 ⟨v5, H5, rfl, hr5, hH7, hg7⟩
          have hH8 : Holds w5 (H4 ++ (H5 ++ (Hr ++ (Ht ++ ((g7, .cells (entCs ⟨0, 0, false, 0⟩) 28) :: ((g8, .cells (entCs ⟨0, 0, false, 0⟩) 28) :: ((g6, (.cells #[.int .i64 3, .int .i64 nn, .int .u64 e0, .int .i64 e1, .bool e2, .int .i64 e3, .bool ed] 43)) :: allOf W))))))) := hH7.sub (by (repeat' (first | refine sub_append ?_ ?_ | refine sub_cons ?_ ?_ | exact sub_nil)); all_goals first | (intro p hp; simp only [List.mem_append, List.mem_cons, hp, true_or, or_true]) | simp only [List.mem_append, List.mem_cons, true_or, or_true]) (fun b => by simp only [keyc_append, keyc_cons, keyc_nil]; omega)
          have HSM := Lib.hid (sameEn_eq _ _ z w5 (HR4.out.at_ hH8) (hr5.at_ hH7))
          obtain ⟨A5, c5, rfl⟩ := hr5.val
          have hg8 := hg6.trans hg7
          clear HF3 hr5 hH7 hg7 hg6 a0 a1 a2 a3 a4 a5 a6
          go_wp2_with fail
          refine HSM.out.mono ?_
          rintro e w6 ⟨rfl, q6, rfl⟩
          have hH9 := hH8.drewN q6
          have hg9 := hg8.drewN q6
          generalize w5.drewN q6 = w6 at *
          have HOV := Lib.hid (overEn_any _ z H4 _ w6 HR4.out hH9 hz6)
          clear HSM hH8 hg8
          go_wp2_with fail
          refine HOV.out.mono ?_
          rintro e w7 ⟨rfl, hH10, hg10⟩
          go_wp2_with fail
          go_meet
          refine ⟨L, Ht, Hr, ⟨0, 0, false, 0⟩, false, hLk1, rfl, rfl, HT.out, HR.out, ?_, hg9.trans hg10⟩
          have h11 : Holds w7 (Ht ++ (Hr ++ ((g7, .cells (entCs ⟨0, 0, false, 0⟩) 28) :: ((g8, .cells (entCs ⟨0, 0, false, 0⟩) 28) :: ((g6, (.cells #[.int .i64 3, .int .i64 nn, .int .u64 e0, .int .i64 e1, .bool e2, .int .i64 e3, .bool ed] 43)) :: allOf W))))) := by
            have h : Holds w7 (H5 ++ (Ht ++ (Hr ++ ((g7, .cells (entCs ⟨0, 0, false, 0⟩) 28) :: ((g8, .cells (entCs ⟨0, 0, false, 0⟩) 28) :: ((g6, (.cells #[.int .i64 3, .int .i64 nn, .int .u64 e0, .int .i64 e1, .bool e2, .int .i64 e3, .bool ed] 43)) :: allOf W)))))) := hH10.sub (by (repeat' (first | refine sub_append ?_ ?_ | refine sub_cons ?_ ?_ | exact sub_nil)); all_goals first | (intro p hp; simp only [List.mem_append, List.mem_cons, hp, true_or, or_true]) | simp only [List.mem_append, List.mem_cons, true_or, or_true]) (fun b => by simp only [keyc_append, keyc_cons, keyc_nil]; omega)
            exact h.right
          exact h11.unwatch
        by_cases o4 : op = 4
        · subst o4
          clear o0 o1 o2 o3
          have HCP := Lib.hid (tbcopy_any _ _ _ _ _ HT.out hH4)
          have hLsm : L.length ≤ 80 := by omega
          obtain ⟨b2', A2, c2, hb2, hfix⟩ := HR.out.fix
          injection hb2 with hb2
          injection hb2 with hb2
          injection hb2 with hb2
          subst hb2
          have HFIX := Lib.hid hfix
          clear hH4 hfix
          go_wp2_with fail
          refine HCP.out.mono ?_
          rintro e w2 ⟨v2, Hc, rfl, hc2, hH2, hg2⟩
          have HC := Lib.hid hc2
          obtain ⟨b3, rfl⟩ := hc2.ptr
          have HSW : Hid (∀ (wx : World) (X : HL), Holds wx (X ++ (Hr ++ (Ht ++ ((g7, .cells (entCs ⟨0, 0, false, 0⟩) 28) :: ((g8, .cells (entCs ⟨0, 0, false, 0⟩) 28) :: ((g6, (.cells #[.int .i64 4, .int .i64 nn, .int .u64 e0, .int .i64 e1, .bool e2, .int .i64 e3, .bool ed] 43)) :: allOf W)))))) → wx.cell? ⟨b2, 0, none⟩ = some (.slice A2 L.length c2) ∧ EntsAt wx (.slice A2 L.length c2) L) := Lib.hid (by
            intro wx X hX
            exact HFIX.out wx _ hX.right)
          have hH3 : Holds w2 (Hc ++ (Hr ++ (Ht ++ ((g7, .cells (entCs ⟨0, 0, false, 0⟩) 28) :: ((g8, .cells (entCs ⟨0, 0, false, 0⟩) 28) :: ((g6, (.cells #[.int .i64 4, .int .i64 nn, .int .u64 e0, .int .i64 e1, .bool e2, .int .i64 e3, .bool ed] 43)) :: allOf W)))))) := hH2.sub (by (repeat' (first | refine sub_append ?_ ?_ | refine sub_cons ?_ ?_ | exact sub_nil)); all_goals first | (intro p hp; simp only [List.mem_append, List.mem_cons, hp, true_or, or_true]) | simp only [List.mem_append, List.mem_cons, true_or, or_true]) (fun b => by simp only [keyc_append, keyc_cons, keyc_nil]; omega)
          have hg3 := hg4.trans hg2
          clear HCP hc2 hH2 hg2
          go_upto_region 29 with fail
          refine Z_begin (fun wx => wx.cell? ⟨b2, 0, none⟩ = some (.slice A2 L.length c2) ∧ EntsAt wx (.slice A2 L.length c2) L) 19 (by kernel_rfl) (fun w1 hd => HSW.out _ _ (hH3.dr hd)) (fun w1 hd hs => ?_)
          have hH5 := hH3.dr hd; have hG5 := hg3.trans (Grew.dr hd); clear hd hH3 hg3
          refine Z_takeD 0 (some 116) (v := ?_) rfl rfl (by kernel_rfl) (fun _ _ _ h => h) (by rfl) hs ?_ ?_
          rotate_left
          · intro wx hx; obtain ⟨s1, s2⟩ := hx; go_simp; try with_reducible rfl
          simp only [Act.put, List.setIfInBounds_toArray, List.set_cons_succ, List.set_cons_zero]
          refine Z_takeD 1 (some 117) (v := ?_) rfl rfl (by kernel_rfl) (fun _ _ _ h => h) (by rfl) hs ?_ ?_
          rotate_left
          · intro wx hx; obtain ⟨s1, s2⟩ := hx; go_simp; try with_reducible rfl
          simp only [Act.put, List.setIfInBounds_toArray, List.set_cons_succ, List.set_cons_zero]
          refine Z_takeD 2 (some 118) (v := ?_) rfl rfl (by kernel_rfl) (fun _ _ _ h => h) (by rfl) hs ?_ ?_
          rotate_left
          · intro wx hx; obtain ⟨s1, s2⟩ := hx; go_simp; try with_reducible rfl
          simp only [Act.put, List.setIfInBounds_toArray, List.set_cons_succ, List.set_cons_zero]
          refine Z_takeD 3 (some 119) (v := ?_) rfl rfl (by kernel_rfl) (fun _ _ _ h => h) (by rfl) hs ?_ ?_
          rotate_left
          · intro wx hx; obtain ⟨s1, s2⟩ := hx; go_simp; try with_reducible rfl
          simp only [Act.put, List.setIfInBounds_toArray, List.set_cons_succ, List.set_cons_zero]
          refine Z_takeD 5 (some 121) (v := ?_) rfl rfl (by kernel_rfl) (fun _ _ _ h => h) (by rfl) hs ?_ ?_
          rotate_left
          · intro wx hx; obtain ⟨s1, s2⟩ := hx; go_simp; try with_reducible rfl
          simp only [Act.put, List.setIfInBounds_toArray, List.set_cons_succ, List.set_cons_zero]
          refine Z_takeD 6 (some 122) (v := ?_) rfl rfl (by kernel_rfl) (fun _ _ _ h => h) (by rfl) hs ?_ ?_
          rotate_left
          · intro wx hx; obtain ⟨s1, s2⟩ := hx; go_simp; try with_reducible rfl
          simp only [Act.put, List.setIfInBounds_toArray, List.set_cons_succ, List.set_cons_zero]
          refine Z_takeD 7 (some 123) (v := ?_) rfl rfl (by kernel_rfl) (fun _ _ _ h => h) (by rfl) hs ?_ ?_
          rotate_left
          · intro wx hx; obtain ⟨s1, s2⟩ := hx; go_simp; try with_reducible rfl
          simp only [Act.put, List.setIfInBounds_toArray, List.set_cons_succ, List.set_cons_zero]
          refine Z_takeD 8 (some 124) (v := ?_) rfl rfl (by kernel_rfl) (fun _ _ _ h => h) (by rfl) hs ?_ ?_
          rotate_left
          · intro wx hx; obtain ⟨s1, s2⟩ := hx; go_simp; try with_reducible rfl
          simp only [Act.put, List.setIfInBounds_toArray, List.set_cons_succ, List.set_cons_zero]
          refine Z_mid 4 rfl (by kernel_rfl) (fun K hK => ?_)
          have ⟨s1, s2⟩ := hs
          go_simp; refine (tballT_any _ L Hc _ w1 HC.out hH5).mono ?_; rintro e w4 ⟨v4, H4, rfl, hr4, hH6, hg6⟩; have hG6 := hG5.trans hg6; have HEA := Lib.hid (hr4.at_ hH6); obtain ⟨A4, c4, rfl⟩ := hr4.val; clear hH5 hG5 hg6 hr4   -- call w
          clear s1 s2
          refine hK _ _ (HSW.out _ (H4 ++ Hc) (by simpa using hH6)) (fun hs2 => ?_); clear hK K hs; have hs := hs2; clear hs2
          refine Z_mid 9 rfl (by kernel_rfl) (fun K hK => ?_)
          have ⟨s1, s2⟩ := hs
          go_simp; refine (sameEn_eq _ _ L w4 HEA.out s2).mono ?_; rintro e w5 ⟨rfl, q5, rfl⟩; have hH7 := hH6.drewN q5; have hG7 := hG6.drewN q5; clear HEA; generalize w4.drewN q5 = w5 at *; clear hH6 hG6   -- call w
          clear s1 s2
          refine hK _ _ (HSW.out _ (H4 ++ Hc) (by simpa using hH7)) (fun hs2 => ?_); clear hK K hs; have hs := hs2; clear hs2
          refine Z_takeD 10 (some 126) (v := ?_) rfl rfl (by kernel_rfl) (fun _ _ _ h => h) (by rfl) hs ?_ ?_
          rotate_left
          · intro wx hx; obtain ⟨s1, s2⟩ := hx; go_simp; try with_reducible rfl
          simp only [Act.put, List.setIfInBounds_toArray, List.set_cons_succ, List.set_cons_zero]
          refine Z_takeD 11 (some 127) (v := ?_) rfl rfl (by kernel_rfl) (fun _ _ _ h => h) (by rfl) hs ?_ ?_
          rotate_left
          · intro wx hx; obtain ⟨s1, s2⟩ := hx; go_simp; try with_reducible rfl
          simp only [Act.put, List.setIfInBounds_toArray, List.set_cons_succ, List.set_cons_zero]
          refine Z_takeD 12 (some 128) (v := ?_) rfl rfl (by kernel_rfl) (fun _ _ _ h => h) (by rfl) hs ?_ ?_
          rotate_left
          · intro wx hx; obtain ⟨s1, s2⟩ := hx; go_simp; try with_reducible rfl
          simp only [Act.put, List.setIfInBounds_toArray, List.set_cons_succ, List.set_cons_zero]
          refine Z_takeD 13 (some 129) (v := ?_) rfl rfl (by kernel_rfl) (fun _ _ _ h => h) (by rfl) hs ?_ ?_
          rotate_left
          · intro wx hx; obtain ⟨s1, s2⟩ := hx; go_simp; try with_reducible rfl
          simp only [Act.put, List.setIfInBounds_toArray, List.set_cons_succ, List.set_cons_zero]
          refine Z_takeD 15 (some 131) (v := ?_) rfl rfl (by kernel_rfl) (fun _ _ _ h => h) (by rfl) hs ?_ ?_
          rotate_left
          · intro wx hx; obtain ⟨s1, s2⟩ := hx; go_simp; try with_reducible rfl
          simp only [Act.put, List.setIfInBounds_toArray, List.set_cons_succ, List.set_cons_zero]
          refine Z_mid 14 rfl (by kernel_rfl) (fun K hK => ?_)
          have ⟨s1, s2⟩ := hs
          go_simp; refine (tbdirty_any _ L Hc _ w5 HC.out (Holds.swap (A := H4) hH7)).mono ?_; rintro e w6 ⟨rfl, hH8, hg8⟩; have hG8 := hG7.trans hg8; clear hH7 hG7 hg8   -- call w
          clear s1 s2
          refine hK _ _ (HSW.out _ (Hc ++ H4) (by simpa using hH8)) (fun hs2 => ?_); clear hK K hs; have hs := hs2; clear hs2
          refine Z_mid 16 rfl (by kernel_rfl) (fun K hK => ?_)
          have ⟨s1, s2⟩ := hs
          go_simp; have hH8b : Holds w6 (Hr ++ (Hc ++ (H4 ++ (Ht ++ ((g7, .cells (entCs ⟨0, 0, false, 0⟩) 28) :: ((g8, .cells (entCs ⟨0, 0, false, 0⟩) 28) :: ((g6, (.cells #[.int .i64 4, .int .i64 nn, .int .u64 e0, .int .i64 e1, .bool e2, .int .i64 e3, .bool ed] 43)) :: allOf W))))))) := hH8.sub (by (repeat' (first | refine sub_append ?_ ?_ | refine sub_cons ?_ ?_ | exact sub_nil)); all_goals first | (intro p hp; simp only [List.mem_append, List.mem_cons, hp, true_or, or_true]) | simp only [List.mem_append, List.mem_cons, true_or, or_true]) (fun b => by simp only [keyc_append, keyc_cons, keyc_nil]; omega); refine (r13dirty_any _ L Hr _ w6 HR.out hH8b).mono ?_; clear hH8b; rintro e w7 ⟨rfl, hH9, hg9⟩; have hH9 : Holds w7 (Hc ++ (H4 ++ (Hr ++ (Ht ++ ((g7, .cells (entCs ⟨0, 0, false, 0⟩) 28) :: ((g8, .cells (entCs ⟨0, 0, false, 0⟩) 28) :: ((g6, (.cells #[.int .i64 4, .int .i64 nn, .int .u64 e0, .int .i64 e1, .bool e2, .int .i64 e3, .bool ed] 43)) :: allOf W))))))) := hH9.sub (by (repeat' (first | refine sub_append ?_ ?_ | refine sub_cons ?_ ?_ | exact sub_nil)); all_goals first | (intro p hp; simp only [List.mem_append, List.mem_cons, hp, true_or, or_true]) | simp only [List.mem_append, List.mem_cons, true_or, or_true]) (fun b => by simp only [keyc_append, keyc_cons, keyc_nil]; omega); have hG9 := hG8.trans hg9; clear hH8 hG8 hg9   -- call w
          clear s1 s2
          refine hK _ _ (HSW.out _ (Hc ++ H4) (by simpa using hH9)) (fun hs2 => ?_); clear hK K hs; have hs := hs2; clear hs2
          refine Z_takeD 17 (some 133) (v := ?_) rfl rfl (by kernel_rfl) (fun _ _ _ h => h) (by rfl) hs ?_ ?_
          rotate_left
          · intro wx hx; obtain ⟨s1, s2⟩ := hx; go_simp; try with_reducible rfl
          simp only [Act.put, List.setIfInBounds_toArray, List.set_cons_succ, List.set_cons_zero]
          refine Z_takeD 18 (some 134) (v := ?_) rfl rfl (by kernel_rfl) (fun _ _ _ h => h) (by rfl) hs ?_ ?_
          rotate_left
          · intro wx hx; obtain ⟨s1, s2⟩ := hx; go_simp; try with_reducible rfl
          simp only [Act.put, List.setIfInBounds_toArray, List.set_cons_succ, List.set_cons_zero]
          refine Z_done (by kernel_rfl) ?_ _
          have HP1 := Lib.hid (tbput_any (.pointer (some ⟨b3, 0, none⟩)) L ⟨e0, e1, e2, e3⟩ Hc _ w7 HC.out hH9 hnn (by omega))
          obtain ⟨a0, a1, a2, a3, a4, a5, a6⟩ := actCells (A := Hc ++ (H4 ++ (Hr ++ (Ht ++ [(g7, .cells (entCs ⟨0, 0, false, 0⟩) 28), (g8, .cells (entCs ⟨0, 0, false, 0⟩) 28)])))) (by simpa using hH9)
          simp only [Ent.agg] at HP1
          clear hs hH9 HFIX
          go_wp2_with fail
          refine HP1.out.mono ?_
          rintro e w8 ⟨rfl, H8, ht8, hH10, hg10⟩
          have HDR := Lib.hid (tbdrop_any _ _ 0 _ _ _ ht8 hH10)
          have hg11 := hG9.trans hg10
          clear HP1 ht8 hH10 hg10 hG9 a0 a1 a2 a3 a4 a5 a6
          go_wp2_with fail
          refine HDR.out.mono ?_
          rintro e w9 ⟨rfl, H9, ht9, hH12, hg12⟩
          clear ht9
          go_wp2_with fail
          go_meet
          refine ⟨L, Ht, Hr, ⟨0, 0, false, 0⟩, false, by omega, rfl, rfl, HT.out, HR.out, ?_, hg11.trans hg12⟩
          have h11 : Holds w9 (Ht ++ (Hr ++ ((g7, .cells (entCs ⟨0, 0, false, 0⟩) 28) :: ((g8, .cells (entCs ⟨0, 0, false, 0⟩) 28) :: ((g6, (.cells #[.int .i64 4, .int .i64 nn, .int .u64 e0, .int .i64 e1, .bool e2, .int .i64 e3, .bool ed] 43)) :: allOf W))))) := by
            have h : Holds w9 ((H9 ++ H4) ++ (Ht ++ (Hr ++ ((g7, .cells (entCs ⟨0, 0, false, 0⟩) 28) :: ((g8, .cells (entCs ⟨0, 0, false, 0⟩) 28) :: ((g6, (.cells #[.int .i64 4, .int .i64 nn, .int .u64 e0, .int .i64 e1, .bool e2, .int .i64 e3, .bool ed] 43)) :: allOf W)))))) := hH12.sub (by (repeat' (first | refine sub_append ?_ ?_ | refine sub_cons ?_ ?_ | exact sub_nil)); all_goals first | (intro p hp; simp only [List.mem_append, List.mem_cons, hp, true_or, or_true]) | simp only [List.mem_append, List.mem_cons, true_or, or_true]) (fun b => by simp only [keyc_append, keyc_cons, keyc_nil]; omega)
            exact h.right
          exact h11.unwatch
        have HH4 := Lib.hid hH4
        clear hH4
        go_wp2_with fail
        go_meet
        refine ⟨L, Ht, Hr, ⟨0, 0, false, 0⟩, false, by omega, rfl, rfl, HT.out, HR.out, ?_, hg4⟩
        exact HH4.out.unwatch
      case rest =>
        clear HT HR hH4 hg4 hnn hLk
        obtain ⟨L, Ht, Hr, y, bo, hL, rfl, rfl, ht, hr, hHx, hgx⟩ := hcut
        have HT := Lib.hid ht
        have HR := Lib.hid hr
        have HALL := Lib.hid (tballT_any _ _ _ _ _ ht hHx)
        obtain ⟨b2', A2, c2, hb2, hfix⟩ := hr.fix
        injection hb2 with hb2
        injection hb2 with hb2
        injection hb2 with hb2
        subst hb2
        have HFIX := Lib.hid hfix
        have hLsm : L.length ≤ 1000000 := by omega
        obtain ⟨y0, y1, y2, y3⟩ := y
        clear ht hr hHx hfix
        go_wp2_with fail
        refine HALL.out.mono ?_
        rintro e w2 ⟨v2, H2, rfl, hr2, hH2, hg2⟩
        have HR2 := Lib.hid hr2
        obtain ⟨Aa, ca, rfl⟩ := hr2.val
        have HSW : Hid (∀ (wx : World) (X : HL), Holds wx (X ++ (Ht ++ (Hr ++ ((g7, .cells (entCs ⟨y0, y1, y2, y3⟩) 28) :: ((g8, .cells (entCs ⟨y0, y1, y2, y3⟩) 28) :: allOf W))))) → wx.cell? ⟨b2, 0, none⟩ = some (.slice A2 L.length c2) ∧ wx.cell? ⟨g7, 0, none⟩ = some (.int .u64 y0) ∧ wx.cell? ⟨g7, 1, none⟩ = some (.int .i64 y1) ∧ wx.cell? ⟨g7, 2, none⟩ = some (.bool y2) ∧ wx.cell? ⟨g7, 3, none⟩ = some (.int .i64 y3) ∧ wx.cell? ⟨g8, 0, none⟩ = some (.int .u64 y0) ∧ wx.cell? ⟨g8, 1, none⟩ = some (.int .i64 y1) ∧ wx.cell? ⟨g8, 2, none⟩ = some (.bool y2) ∧ wx.cell? ⟨g8, 3, none⟩ = some (.int .i64 y3)) := Lib.hid (by
          intro wx X hX
          have h1 := hX.right.right
          have h7 := h1.right
          exact ⟨(HFIX.out wx _ h1).1, h7.hcell 0, h7.hcell 1, h7.hcell 2, h7.hcell 3, h7.tail.hcell 0, h7.tail.hcell 1, h7.tail.hcell 2, h7.tail.hcell 3⟩)
        have hg3 := hgx.trans hg2
        clear HALL hr2 hgx hg2
        go_upto_region 34 with fail
        refine Z_begin (fun wx => wx.cell? ⟨b2, 0, none⟩ = some (.slice A2 L.length c2) ∧ wx.cell? ⟨g7, 0, none⟩ = some (.int .u64 y0) ∧ wx.cell? ⟨g7, 1, none⟩ = some (.int .i64 y1) ∧ wx.cell? ⟨g7, 2, none⟩ = some (.bool y2) ∧ wx.cell? ⟨g7, 3, none⟩ = some (.int .i64 y3) ∧ wx.cell? ⟨g8, 0, none⟩ = some (.int .u64 y0) ∧ wx.cell? ⟨g8, 1, none⟩ = some (.int .i64 y1) ∧ wx.cell? ⟨g8, 2, none⟩ = some (.bool y2) ∧ wx.cell? ⟨g8, 3, none⟩ = some (.int .i64 y3)) 34 (by kernel_rfl) (fun w1 hd => HSW.out _ _ (hH2.dr hd)) (fun w1 hd hs => ?_)
        have hH3 := hH2.dr hd; have hG3 := hg3.trans (Grew.dr hd); clear hd hH2 hg3
        refine Z_takeD 0 (some 143) (v := ?_) rfl rfl (by kernel_rfl) (fun _ _ _ h => h) (by rfl) hs ?_ ?_
        rotate_left
        · intro wx hx; obtain ⟨s1, s2, s3, s4, s5, s6, s7, s8, s9⟩ := hx; go_simp; try with_reducible rfl
        simp only [Act.put, List.setIfInBounds_toArray, List.set_cons_succ, List.set_cons_zero]
        refine Z_takeD 1 (some 144) (v := ?_) rfl rfl (by kernel_rfl) (fun _ _ _ h => h) (by rfl) hs ?_ ?_
        rotate_left
        · intro wx hx; obtain ⟨s1, s2, s3, s4, s5, s6, s7, s8, s9⟩ := hx; go_simp; try with_reducible rfl
        simp only [Act.put, List.setIfInBounds_toArray, List.set_cons_succ, List.set_cons_zero]
        refine Z_takeD 2 (some 145) (v := ?_) rfl rfl (by kernel_rfl) (fun _ _ _ h => h) (by rfl) hs ?_ ?_
        rotate_left
        · intro wx hx; obtain ⟨s1, s2, s3, s4, s5, s6, s7, s8, s9⟩ := hx; go_simp; try with_reducible rfl
        simp only [Act.put, List.setIfInBounds_toArray, List.set_cons_succ, List.set_cons_zero]
        refine Z_takeD 3 (some 146) (v := ?_) rfl rfl (by kernel_rfl) (fun _ _ _ h => h) (by rfl) hs ?_ ?_
        rotate_left
        · intro wx hx; obtain ⟨s1, s2, s3, s4, s5, s6, s7, s8, s9⟩ := hx; go_simp; try with_reducible rfl
        simp only [Act.put, List.setIfInBounds_toArray, List.set_cons_succ, List.set_cons_zero]
        refine Z_takeD 4 (some 147) (v := ?_) rfl rfl (by kernel_rfl) (fun _ _ _ h => h) (by rfl) hs ?_ ?_
        rotate_left
        · intro wx hx; obtain ⟨s1, s2, s3, s4, s5, s6, s7, s8, s9⟩ := hx; go_simp; try with_reducible rfl
        simp only [Act.put, List.setIfInBounds_toArray, List.set_cons_succ, List.set_cons_zero]
        refine Z_takeD 5 (some 148) (v := ?_) rfl rfl (by kernel_rfl) (fun _ _ _ h => h) (by rfl) hs ?_ ?_
        rotate_left
        · intro wx hx; obtain ⟨s1, s2, s3, s4, s5, s6, s7, s8, s9⟩ := hx; go_simp; try with_reducible rfl
        simp only [Act.put, List.setIfInBounds_toArray, List.set_cons_succ, List.set_cons_zero]
        refine Z_takeD 6 (some 149) (v := ?_) rfl rfl (by kernel_rfl) (fun _ _ _ h => h) (by rfl) hs ?_ ?_
        rotate_left
        · intro wx hx; obtain ⟨s1, s2, s3, s4, s5, s6, s7, s8, s9⟩ := hx; go_simp; try with_reducible rfl
        simp only [Act.put, List.setIfInBounds_toArray, List.set_cons_succ, List.set_cons_zero]
        refine Z_takeD 7 (some 150) (v := ?_) rfl rfl (by kernel_rfl) (fun _ _ _ h => h) (by rfl) hs ?_ ?_
        rotate_left
        · intro wx hx; obtain ⟨s1, s2, s3, s4, s5, s6, s7, s8, s9⟩ := hx; go_simp; try with_reducible rfl
        simp only [Act.put, List.setIfInBounds_toArray, List.set_cons_succ, List.set_cons_zero]
        refine Z_takeD 8 (some 151) (v := ?_) rfl rfl (by kernel_rfl) (fun _ _ _ h => h) (by rfl) hs ?_ ?_
        rotate_left
        · intro wx hx; obtain ⟨s1, s2, s3, s4, s5, s6, s7, s8, s9⟩ := hx; go_simp; try with_reducible rfl
        simp only [Act.put, List.setIfInBounds_toArray, List.set_cons_succ, List.set_cons_zero]
        refine Z_takeD 9 (some 152) (v := ?_) rfl rfl (by kernel_rfl) (fun _ _ _ h => h) (by rfl) hs ?_ ?_
        rotate_left
        · intro wx hx; obtain ⟨s1, s2, s3, s4, s5, s6, s7, s8, s9⟩ := hx; go_simp; try with_reducible rfl
        simp only [Act.put, List.setIfInBounds_toArray, List.set_cons_succ, List.set_cons_zero]
        refine Z_takeD 10 (some 153) (v := ?_) rfl rfl (by kernel_rfl) (fun _ _ _ h => h) (by rfl) hs ?_ ?_
        rotate_left
        · intro wx hx; obtain ⟨s1, s2, s3, s4, s5, s6, s7, s8, s9⟩ := hx; go_simp; try with_reducible rfl
        simp only [Act.put, List.setIfInBounds_toArray, List.set_cons_succ, List.set_cons_zero]
        refine Z_takeD 11 (some 154) (v := ?_) rfl rfl (by kernel_rfl) (fun _ _ _ h => h) (by rfl) hs ?_ ?_
        rotate_left
        · intro wx hx; obtain ⟨s1, s2, s3, s4, s5, s6, s7, s8, s9⟩ := hx; go_simp; try with_reducible rfl
        simp only [Act.put, List.setIfInBounds_toArray, List.set_cons_succ, List.set_cons_zero]
        refine Z_takeD 12 (some 155) (v := ?_) rfl rfl (by kernel_rfl) (fun _ _ _ h => h) (by rfl) hs ?_ ?_
        rotate_left
        · intro wx hx; obtain ⟨s1, s2, s3, s4, s5, s6, s7, s8, s9⟩ := hx; go_simp; try with_reducible rfl
        simp only [Act.put, List.setIfInBounds_toArray, List.set_cons_succ, List.set_cons_zero]
        refine Z_takeD 13 (some 156) (v := ?_) rfl rfl (by kernel_rfl) (fun _ _ _ h => h) (by rfl) hs ?_ ?_
        rotate_left
        · intro wx hx; obtain ⟨s1, s2, s3, s4, s5, s6, s7, s8, s9⟩ := hx; go_simp; try with_reducible rfl
        simp only [Act.put, List.setIfInBounds_toArray, List.set_cons_succ, List.set_cons_zero]
        refine Z_mid 14 rfl (by kernel_rfl) (fun K hK => ?_)
        have ⟨s1, s2, s3, s4, s5, s6, s7, s8, s9⟩ := hs
        go_simp; have hH3b : Holds w1 (Hr ++ (H2 ++ (Ht ++ ((g7, .cells (entCs ⟨y0, y1, y2, y3⟩) 28) :: ((g8, .cells (entCs ⟨y0, y1, y2, y3⟩) 28) :: allOf W))))) := hH3.sub (by (repeat' (first | refine sub_append ?_ ?_ | refine sub_cons ?_ ?_ | exact sub_nil)); all_goals first | (intro p hp; simp only [List.mem_append, List.mem_cons, hp, true_or, or_true]) | simp only [List.mem_append, List.mem_cons, true_or, or_true]) (fun b => by simp only [keyc_append, keyc_cons, keyc_nil]; omega); refine (sameEn_eq _ _ L w1 (HR2.out.at_ hH3) (HFIX.out w1 _ hH3b).2).mono ?_; clear hH3b; rintro e w4 ⟨rfl, q4, rfl⟩; have hH4 := hH3.drewN q4; have hG4 := hG3.drewN q4; generalize w1.drewN q4 = w4 at *; clear hH3 hG3   -- call w
        clear s1 s2 s3 s4 s5 s6 s7 s8 s9
        refine hK _ _ (HSW.out _ _ hH4) (fun hs2 => ?_); clear hK K hs; have hs := hs2; clear hs2
        refine Z_takeD 15 (some 158) (v := ?_) rfl rfl (by kernel_rfl) (fun _ _ _ h => h) (by rfl) hs ?_ ?_
        rotate_left
        · intro wx hx; obtain ⟨s1, s2, s3, s4, s5, s6, s7, s8, s9⟩ := hx; go_simp; try with_reducible rfl
        simp only [Act.put, List.setIfInBounds_toArray, List.set_cons_succ, List.set_cons_zero]
        refine Z_takeD 16 (some 159) (v := ?_) rfl rfl (by kernel_rfl) (fun _ _ _ h => h) (by rfl) hs ?_ ?_
        rotate_left
        · intro wx hx; obtain ⟨s1, s2, s3, s4, s5, s6, s7, s8, s9⟩ := hx; go_simp; try with_reducible rfl
        simp only [Act.put, List.setIfInBounds_toArray, List.set_cons_succ, List.set_cons_zero]
        refine Z_takeD 17 (some 160) (v := ?_) rfl rfl (by kernel_rfl) (fun _ _ _ h => h) (by rfl) hs ?_ ?_
        rotate_left
        · intro wx hx; obtain ⟨s1, s2, s3, s4, s5, s6, s7, s8, s9⟩ := hx; go_simp; try with_reducible rfl
        simp only [Act.put, List.setIfInBounds_toArray, List.set_cons_succ, List.set_cons_zero]
        refine Z_takeD 18 (some 161) (v := ?_) rfl rfl (by kernel_rfl) (fun _ _ _ h => h) (by rfl) hs ?_ ?_
        rotate_left
        · intro wx hx; obtain ⟨s1, s2, s3, s4, s5, s6, s7, s8, s9⟩ := hx; go_simp; try with_reducible rfl
        simp only [Act.put, List.setIfInBounds_toArray, List.set_cons_succ, List.set_cons_zero]
        refine Z_takeD 20 (some 163) (v := ?_) rfl rfl (by kernel_rfl) (fun _ _ _ h => h) (by rfl) hs ?_ ?_
        rotate_left
        · intro wx hx; obtain ⟨s1, s2, s3, s4, s5, s6, s7, s8, s9⟩ := hx; go_simp; try with_reducible rfl
        simp only [Act.put, List.setIfInBounds_toArray, List.set_cons_succ, List.set_cons_zero]
        refine Z_takeD 21 (some 164) (v := ?_) rfl rfl (by kernel_rfl) (fun _ _ _ h => h) (by rfl) hs ?_ ?_
        rotate_left
        · intro wx hx; obtain ⟨s1, s2, s3, s4, s5, s6, s7, s8, s9⟩ := hx; go_simp; try with_reducible rfl
        simp only [Act.put, List.setIfInBounds_toArray, List.set_cons_succ, List.set_cons_zero]
        refine Z_takeD 22 (some 165) (v := ?_) rfl rfl (by kernel_rfl) (fun _ _ _ h => h) (by rfl) hs ?_ ?_
        rotate_left
        · intro wx hx; obtain ⟨s1, s2, s3, s4, s5, s6, s7, s8, s9⟩ := hx; go_simp; try with_reducible rfl
        simp only [Act.put, List.setIfInBounds_toArray, List.set_cons_succ, List.set_cons_zero]
        refine Z_takeD 23 (some 166) (v := ?_) rfl rfl (by kernel_rfl) (fun _ _ _ h => h) (by rfl) hs ?_ ?_
        rotate_left
        · intro wx hx; obtain ⟨s1, s2, s3, s4, s5, s6, s7, s8, s9⟩ := hx; go_simp; try with_reducible rfl
        simp only [Act.put, List.setIfInBounds_toArray, List.set_cons_succ, List.set_cons_zero]
        refine Z_takeD 24 (some 167) (v := ?_) rfl rfl (by kernel_rfl) (fun _ _ _ h => h) (by rfl) hs ?_ ?_
        rotate_left
        · intro wx hx; obtain ⟨s1, s2, s3, s4, s5, s6, s7, s8, s9⟩ := hx; go_simp; try with_reducible rfl
        simp only [Act.put, List.setIfInBounds_toArray, List.set_cons_succ, List.set_cons_zero]
        refine Z_mid 19 rfl (by kernel_rfl) (fun K hK => ?_)
        have ⟨s1, s2, s3, s4, s5, s6, s7, s8, s9⟩ := hs
        go_simp; refine (tblenT_any _ L Ht _ w4 HT.out (Holds.swap (A := H2) hH4)).mono ?_; rintro e w5 ⟨rfl, q5, rfl⟩; have hH5 := hH4.drewN q5; have hG5 := hG4.drewN q5; generalize w4.drewN q5 = w5 at *; clear hH4 hG4   -- call w
        clear s1 s2 s3 s4 s5 s6 s7 s8 s9
        refine hK _ _ (HSW.out _ _ hH5) (fun hs2 => ?_); clear hK K hs; have hs := hs2; clear hs2
        refine Z_takeD 25 (some 168) (v := ?_) rfl rfl (by kernel_rfl) (fun _ _ _ h => h) (by rfl) hs ?_ ?_
        rotate_left
        · intro wx hx; obtain ⟨s1, s2, s3, s4, s5, s6, s7, s8, s9⟩ := hx; go_simp; try with_reducible rfl
        simp only [Act.put, List.setIfInBounds_toArray, List.set_cons_succ, List.set_cons_zero]
        refine Z_takeD 26 (some 169) (v := ?_) rfl rfl (by kernel_rfl) (fun _ _ _ h => h) (by rfl) hs ?_ ?_
        rotate_left
        · intro wx hx; obtain ⟨s1, s2, s3, s4, s5, s6, s7, s8, s9⟩ := hx; go_simp; try with_reducible rfl
        simp only [Act.put, List.setIfInBounds_toArray, List.set_cons_succ, List.set_cons_zero]
        refine Z_takeD 27 (some 170) (v := ?_) rfl rfl (by kernel_rfl) (fun _ _ _ h => h) (by rfl) hs ?_ ?_
        rotate_left
        · intro wx hx; obtain ⟨s1, s2, s3, s4, s5, s6, s7, s8, s9⟩ := hx; go_simp; try with_reducible rfl
        simp only [Act.put, List.setIfInBounds_toArray, List.set_cons_succ, List.set_cons_zero]
        refine Z_takeD 28 (some 171) (v := ?_) rfl rfl (by kernel_rfl) (fun _ _ _ h => h) (by rfl) hs ?_ ?_
        rotate_left
        · intro wx hx; obtain ⟨s1, s2, s3, s4, s5, s6, s7, s8, s9⟩ := hx; go_simp; try with_reducible rfl
        simp only [Act.put, List.setIfInBounds_toArray, List.set_cons_succ, List.set_cons_zero]
        refine Z_takeD 30 (some 173) (v := ?_) rfl rfl (by kernel_rfl) (fun _ _ _ h => h) (by rfl) hs ?_ ?_
        rotate_left
        · intro wx hx; obtain ⟨s1, s2, s3, s4, s5, s6, s7, s8, s9⟩ := hx; go_simp; try with_reducible rfl
        simp only [Act.put, List.setIfInBounds_toArray, List.set_cons_succ, List.set_cons_zero]
        refine Z_mid 29 rfl (by kernel_rfl) (fun K hK => ?_)
        have ⟨s1, s2, s3, s4, s5, s6, s7, s8, s9⟩ := hs
        go_simp; refine (tbdirty_any _ L Ht _ w5 HT.out (Holds.swap (A := H2) hH5)).mono ?_; rintro e w6 ⟨rfl, hH6, hg6⟩; have hG6 := hG5.trans hg6; clear hH5 hG5 hg6   -- call w
        clear s1 s2 s3 s4 s5 s6 s7 s8 s9
        refine hK _ _ (HSW.out _ _ hH6.swap) (fun hs2 => ?_); clear hK K hs; have hs := hs2; clear hs2
        refine Z_mid 31 rfl (by kernel_rfl) (fun K hK => ?_)
        have ⟨s1, s2, s3, s4, s5, s6, s7, s8, s9⟩ := hs
        go_simp; have hH6b : Holds w6 (Hr ++ (Ht ++ (H2 ++ ((g7, .cells (entCs ⟨y0, y1, y2, y3⟩) 28) :: ((g8, .cells (entCs ⟨y0, y1, y2, y3⟩) 28) :: allOf W))))) := hH6.sub (by (repeat' (first | refine sub_append ?_ ?_ | refine sub_cons ?_ ?_ | exact sub_nil)); all_goals first | (intro p hp; simp only [List.mem_append, List.mem_cons, hp, true_or, or_true]) | simp only [List.mem_append, List.mem_cons, true_or, or_true]) (fun b => by simp only [keyc_append, keyc_cons, keyc_nil]; omega); refine (r13dirty_any _ L Hr _ w6 HR.out hH6b).mono ?_; clear hH6b; rintro e w7 ⟨rfl, hH7, hg7⟩; have hH7 : Holds w7 (H2 ++ (Ht ++ (Hr ++ ((g7, .cells (entCs ⟨y0, y1, y2, y3⟩) 28) :: ((g8, .cells (entCs ⟨y0, y1, y2, y3⟩) 28) :: allOf W))))) := hH7.sub (by (repeat' (first | refine sub_append ?_ ?_ | refine sub_cons ?_ ?_ | exact sub_nil)); all_goals first | (intro p hp; simp only [List.mem_append, List.mem_cons, hp, true_or, or_true]) | simp only [List.mem_append, List.mem_cons, true_or, or_true]) (fun b => by simp only [keyc_append, keyc_cons, keyc_nil]; omega); have hG7 := hG6.trans hg7; clear hH6 hG6 hg7   -- call w
        clear s1 s2 s3 s4 s5 s6 s7 s8 s9
        refine hK _ _ (HSW.out _ _ hH7) (fun hs2 => ?_); clear hK K hs; have hs := hs2; clear hs2
        refine Z_takeD 32 (some 175) (v := ?_) rfl rfl (by kernel_rfl) (fun _ _ _ h => h) (by rfl) hs ?_ ?_
        rotate_left
        · intro wx hx; obtain ⟨s1, s2, s3, s4, s5, s6, s7, s8, s9⟩ := hx; go_simp; try with_reducible rfl
        simp only [Act.put, List.setIfInBounds_toArray, List.set_cons_succ, List.set_cons_zero]
        refine Z_takeD 33 (some 176) (v := ?_) rfl rfl (by kernel_rfl) (fun _ _ _ h => h) (by rfl) hs ?_ ?_
        rotate_left
        · intro wx hx; obtain ⟨s1, s2, s3, s4, s5, s6, s7, s8, s9⟩ := hx; go_simp; try with_reducible rfl
        simp only [Act.put, List.setIfInBounds_toArray, List.set_cons_succ, List.set_cons_zero]
        refine Z_done (by kernel_rfl) ?_ _
        have HOV := Lib.hid (overEn_any _ L H2 _ w7 HR2.out hH7 hLsm)
        clear hs hH7
        go_wp2_with fail
        refine HOV.out.mono ?_
        rintro e w8 ⟨rfl, hH8, hg8⟩
        go_wp2_with fail
        go_roundw
        case rel =>
          refine ⟨k + 1, L, Ht, Hr, by omega, by go_num, hL, HT.out, HR.out, ?_, hG7.trans hg8⟩
          have h : Holds w8 ((Ht ++ Hr) ++ ([(g7, .cells (entCs ⟨y0, y1, y2, y3⟩) 28), (g8, .cells (entCs ⟨y0, y1, y2, y3⟩) 28)] ++ allOf W)) := by simpa using hH8
          simpa using h.mid
        case measure => simp [intOf] <;> omega
    · clear hHr
      have HAW := Lib.hid (HA.out wr (Ht ++ Hr) (by simpa using HHR.out))
      go_wp2_with fail
      refine HAW.out.mono ?_
      rintro e w5 ⟨rfl, hH5, hg5⟩
      go_wp2_with fail
      go_ret
      exact ⟨rfl, hH5.right, hgr.trans hg5⟩
end Go.Proofs.Ytnophehonkojaaa
