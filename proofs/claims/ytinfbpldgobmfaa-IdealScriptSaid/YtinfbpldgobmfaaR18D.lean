/-
  Chapter 18's own answer: dark, done, got, refused, lists, Take.
-/
import Derived.Test.YtinfbpldgobmfaaR18Q
import Derived.Test.YtinfbpldgobmfaaIdU
namespace Go.Proofs.Ytinfbpldgobmfaa
open Go.RowKit
set_option linter.unusedSimpArgs false
set_option linter.unusedVariables false

def SmP (P : List PV) : Prop := P.length ≤ 5000 ∧ ∀ p ∈ P, p.l.length ≤ 1000 ∧ ∀ c ∈ p.l, c.1.length ≤ 1000
theorem SmP.at_ {P : List PV} (h : SmP P) (a : Int) : (atP P a).l.length ≤ 1000 ∧ ∀ c ∈ (atP P a).l, c.1.length ≤ 1000 := by
  unfold atP
  cases hf : P.find? (fun p => p.a == a) with
  | none => exact ⟨by simp, fun c hc => by simp at hc⟩
  | some p => exact h.2 p (List.mem_of_find?_eq_some hf)
def RetR18 (b : Nat) (size : Int) (P' : List PV) (v : Value) (w : World) (Hp Fr : HL) (e : Ending) (w' : World) : Prop :=
  e = .returned v ∧ ∃ pv' Hn, FrPlaces (Hn ++ Hp) pv' P' ∧ Holds w' ((b, .cells #[.int .i64 size, pv'] 76) :: ((Hn ++ Hp) ++ Fr)) ∧ Grew w w'
def moreL (l m : List CB) : List CB := m.foldl withL l
def darkP (P : List PV) (o : OV) : List PV :=
  if o.k = 1 then putP P ⟨(atP P o.a).a, (atP P o.a).n, withL (atP P o.a).l (o.d, true)⟩
  else if o.k = 2 then putP P ⟨(atP P o.a).a, (atP P o.a).n, withL (atP P o.a).l (o.d, false)⟩
  else if o.k = 4 then putP P ⟨(atP P o.a).a, true, (atP P o.a).l⟩
  else if o.k = 5 then putP P ⟨(atP P o.a).a, (atP P o.a).n, moreL (atP P o.a).l (washedL (atP P o.a).l)⟩
  else P
theorem moreL_snoc {l m : List CB} {k : Nat} (h : k < m.length) : moreL l (m.take (k + 1)) = withL (moreL l (m.take k)) m[k] := by
  unfold moreL
  rw [List.take_succ_eq_append_getElem h, List.foldl_append]
  rfl
theorem moreL_len {l m : List CB} : (moreL l m).length ≤ l.length + m.length := by
  unfold moreL
  induction m generalizing l with
  | nil => simp
  | cons c m ih =>
    have h1 := ih (l := withL l c)
    have h2 := withL_len (L := l) (c := c)
    rw [List.foldl_cons, List.length_cons]
    omega
theorem RetR18.more {b : Nat} {size : Int} {P' : List PV} {v : Value} {w w0 : World} {Hn Hp A Fr : HL} {e : Ending} {w' : World} (h : RetR18 b size P' v w0 (Hn ++ Hp) (A ++ Fr) e w') (hg : Grew w w0) : RetR18 b size P' v w Hp Fr e w' := by
  obtain ⟨h1, pv', Hn2, h2, h3, h4⟩ := h
  refine ⟨h1, pv', Hn2 ++ Hn, by rw [List.append_assoc]; exact h2, ?_, hg.trans h4⟩
  have h5 : Holds w' (((b, .cells #[.int .i64 size, pv'] 76) :: (Hn2 ++ (Hn ++ Hp))) ++ (A ++ Fr)) := by simpa using h3
  have h6 := Holds.mid (A := (b, .cells #[.int .i64 size, pv'] 76) :: (Hn2 ++ (Hn ++ Hp))) (B := A) (C := Fr) h5
  simpa using h6
def DarkTo (l m : List CB) (g : Nat) (x y : Value) (Hp : HL) (w : World) (F G : HL) (i : Value) (wr : World) : Prop :=
  ∃ (k : Nat) (Hn : HL) (lv : Value), i = .int .i64 k ∧ k ≤ m.length ∧ FrCans (Hn ++ Hp) lv (moreL l (m.take k)) ∧ Holds wr (F ++ ((g, .cells #[x, y, lv] 79) :: ((Hn ++ Hp) ++ G))) ∧ Grew w wr
set_option maxRecDepth 20000 in
set_option maxHeartbeats 8000000 in
theorem r18dark_any (b : Nat) (size : Int) (pv : Value) (P : List PV) (o : OV) (dv : Value) (Hp Fr : HL) (w : World) (hl : FrPlaces Hp pv P) (hs : SmP P) (hd : FrBytes Hp dv o.d) (hdl : o.d.length ≤ 1000) (hH : Holds w ((b, .cells #[.int .i64 size, pv] 76) :: (Hp ++ Fr))) :
    Calls Try.prog 59 #[.pointer (some ⟨b, 0, none⟩), o.agg dv] w (RetR18 b size (darkP P o) (.tuple #[]) w Hp Fr) := by
  have HL0 := Lib.hid hl
  have HD := Lib.hid hd
  have HAT := Lib.hid (hs.at_ o.a)
  have HSL := Lib.hid hs
  have HPM := Lib.hid (show darkP P o = if o.k = 1 then putP P ⟨(atP P o.a).a, (atP P o.a).n, withL (atP P o.a).l (o.d, true)⟩
  else if o.k = 2 then putP P ⟨(atP P o.a).a, (atP P o.a).n, withL (atP P o.a).l (o.d, false)⟩
  else if o.k = 4 then putP P ⟨(atP P o.a).a, true, (atP P o.a).l⟩
  else if o.k = 5 then putP P ⟨(atP P o.a).a, (atP P o.a).n, moreL (atP P o.a).l (washedL (atP P o.a).l)⟩
  else P from rfl)
  generalize darkP P o = res at *
  have HDL : Hid (o.d.length ≤ 1000) := Lib.hid hdl
  obtain ⟨Ad, cd, hdv⟩ := hd.sl hH.tail
  subst hdv
  have HATC := Lib.hid (fun (wx : World) (F : HL) (h : Holds wx ((b, .cells #[.int .i64 size, pv] 76) :: (Hp ++ F))) => r18at_any b size pv P o.a Hp F wx hl h)
  obtain ⟨k, a, d, m⟩ := o
  dsimp only [OV.agg] at *
  have hH1 : Holds (w.alloc (.cells #[.int .i64 k, .int .u64 a, .slice Ad d.length cd, .int .i64 m] 31)) ((b, .cells #[.int .i64 size, pv] 76) :: (Hp ++ ((w.heap.size, .cells #[.int .i64 k, .int .u64 a, .slice Ad d.length cd, .int .i64 m] 31) :: Fr))) := (hH.alloc _).sub (by (repeat' (first | refine sub_append ?_ ?_ | refine sub_cons ?_ ?_ | exact sub_nil)); all_goals first | (intro p hp; simp only [List.mem_append, List.mem_cons, hp, true_or, or_true]) | simp only [List.mem_append, List.mem_cons, true_or, or_true]) (fun b => by simp only [keyc_append, keyc_cons, keyc_nil]; omega)
  have hg1 := (Grew.refl w).alloc (.cells #[.int .i64 k, .int .u64 a, .slice Ad d.length cd, .int .i64 m] 31)
  have HB : Hid (∀ (wx : World) (X F : HL), Holds wx (X ++ ((w.heap.size, .cells #[.int .i64 k, .int .u64 a, .slice Ad d.length cd, .int .i64 m] 31) :: F)) → wx.cell? ⟨w.heap.size, 0, none⟩ = some (.int .i64 k) ∧ wx.cell? ⟨w.heap.size, 1, none⟩ = some (.int .u64 a) ∧ wx.cell? ⟨w.heap.size, 2, none⟩ = some (.slice Ad d.length cd)) := Lib.hid (fun wx X F h => ⟨h.right.hcell 0, h.right.hcell 1, h.right.hcell 2⟩)
  obtain ⟨q0, q1, q2⟩ := HB.out _ ((b, _) :: Hp) Fr (by simpa using hH1)
  have HC1 := Lib.hid (HATC.out _ _ hH1)
  clear hl hs hd hdl hH hH1 HATC
  go_enter Try.func59, Try.ntmps59
  go_wp2_with fail
  refine HC1.out.mono ?_
  generalize w.alloc (.cells #[.int .i64 k, .int .u64 a, .slice Ad d.length cd, .int .i64 m] 31) = w0 at *
  generalize w.heap.size = g at *
  generalize (Obj.cells #[.int .i64 k, .int .u64 a, .slice Ad d.length cd, .int .i64 m] 31) = ob at *
  rintro e w1 ⟨lv, rfl, hc1, hH2, hg2⟩
  have hg3 := hg1.trans hg2
  generalize atP P a = p at *
  obtain ⟨pa, pn, pl⟩ := p
  dsimp only [PV.agg] at *
  obtain ⟨Al, cl, hlv, _, _⟩ := hc1.sl hH2.tail
  subst hlv
  have HC := Lib.hid hc1
  have HH2 := Lib.hid hH2
  have HG3 := Lib.hid hg3
  have hH3 := hH2.alloc (.cells #[.int .u64 pa, .bool pn, .slice Al pl.length cl] 79)
  have hgp := hg3.alloc (.cells #[.int .u64 pa, .bool pn, .slice Al pl.length cl] 79)
  obtain ⟨q0, q1, q2⟩ := HB.out (w1.alloc (.cells #[.int .u64 pa, .bool pn, .slice Al pl.length cl] 79)) ((w1.heap.size, (.cells #[.int .u64 pa, .bool pn, .slice Al pl.length cl] 79)) :: ((b, _) :: Hp)) Fr (by simpa using hH3)
  obtain ⟨o0, o1, o2, f0, f1, f2, _⟩ := openP hH3
  clear hc1 hH2 hg1 hg2 hg3 HC1
  by_cases hk1 : k = 1
  · have HR := Lib.hid (HPM.out.trans (by rw [if_pos hk1]))
    have HW := Lib.hid (r18with_any (.slice Al pl.length cl) pl (.slice Ad d.length cd) d true Hp _ (w1.alloc (.cells #[.int .u64 pa, .bool pn, .slice Al pl.length cl] 79)) HC.out HD.out (by have := HAT.out.1; omega) (by have := HDL.out; omega) (show Holds (w1.alloc (.cells #[.int .u64 pa, .bool pn, .slice Al pl.length cl] 79)) (Hp ++ ((w1.heap.size, (.cells #[.int .u64 pa, .bool pn, .slice Al pl.length cl] 79)) :: ((b, .cells #[.int .i64 size, pv] 76) :: ((g, ob) :: Fr)))) from hH3.sub (by (repeat' (first | refine sub_append ?_ ?_ | refine sub_cons ?_ ?_ | exact sub_nil)); all_goals first | (intro p hp; simp only [List.mem_append, List.mem_cons, hp, true_or, or_true]) | simp only [List.mem_append, List.mem_cons, true_or, or_true]) (fun b => by simp only [keyc_append, keyc_cons, keyc_nil]; omega)))
    subst hk1
    clear HPM hH3
    go_wp2_with fail
    refine HW.out.mono ?_
    generalize w1.heap.size = g4 at *
    clear o0 o1 o2 f0 f1 f2 q0 q1 q2
    rintro e w3 ⟨v3, H3, rfl, hf3, hH4, hg4⟩
    obtain ⟨A3, c3, hv3, _, _⟩ := hf3.sl hH4
    subst hv3
    have hH5 : Holds w3 ((g4, (.cells #[.int .u64 pa, .bool pn, .slice Al pl.length cl] 79)) :: ((b, .cells #[.int .i64 size, pv] 76) :: ((H3 ++ Hp) ++ ((g, ob) :: Fr)))) := hH4.sub (by (repeat' (first | refine sub_append ?_ ?_ | refine sub_cons ?_ ?_ | exact sub_nil)); all_goals first | (intro p hp; simp only [List.mem_append, List.mem_cons, hp, true_or, or_true]) | simp only [List.mem_append, List.mem_cons, true_or, or_true]) (fun b => by simp only [keyc_append, keyc_cons, keyc_nil]; omega)
    obtain ⟨o0, o1, o2, f0, f1, f2, _⟩ := openP hH5
    have hH6 : Holds (w3.setCell ⟨g4, 2, none⟩ (.slice A3 (withL pl (d, true)).length c3)) ((b, .cells #[.int .i64 size, pv] 76) :: ((H3 ++ Hp) ++ ([(g4, .cells #[.int .u64 pa, .bool pn, .slice A3 (withL pl (d, true)).length c3] 79), (g, ob)] ++ Fr))) := by
      have h : Holds (w3.setCell ⟨g4, 2, none⟩ (.slice A3 (withL pl (d, true)).length c3)) ((g4, .cells #[.int .u64 pa, .bool pn, .slice A3 (withL pl (d, true)).length c3] 79) :: ((b, .cells #[.int .i64 size, pv] 76) :: ((H3 ++ Hp) ++ ((g, ob) :: Fr)))) := hH5.set' 2 _
      exact h.sub (by (repeat' (first | refine sub_append ?_ ?_ | refine sub_cons ?_ ?_ | exact sub_nil)); all_goals first | (intro p hp; simp only [List.mem_append, List.mem_cons, hp, true_or, or_true]) | simp only [List.mem_append, List.mem_cons, true_or, or_true]) (fun b => by simp only [keyc_append, keyc_cons, keyc_nil]; omega)
    have hg5 := (hgp.trans hg4).setCell ⟨g4, 2, none⟩ (.slice A3 (withL pl (d, true)).length c3)
    have HPT := Lib.hid (r18put_any b size pv P ⟨pa, pn, withL pl (d, true)⟩ (.slice A3 (withL pl (d, true)).length c3) (H3 ++ Hp) _ _ HL0.out.more hf3 (by have := HSL.out.1; omega) hH6)
    dsimp only [PV.agg] at HPT
    clear HW hf3 hH4 hH5 hH6 hg4
    go_wp2_with fail
    refine HPT.out.mono ?_
    rintro e w4 hret
    have hret2 : RetR18 b size (putP P ⟨pa, pn, withL pl (d, true)⟩) (.tuple #[]) w Hp Fr e w4 := RetR18.more (Hn := H3) (A := [(g4, .cells #[.int .u64 pa, .bool pn, .slice A3 (withL pl (d, true)).length c3] 79), (g, ob)]) hret hg5
    obtain ⟨rfl, hret3⟩ := hret2
    clear hret HPT
    go_wp2_with fail
    go_end0
    rw [HR.out]
    exact ⟨rfl, hret3⟩
  by_cases hk2 : k = 2
  · have HR := Lib.hid (HPM.out.trans (by rw [if_neg hk1, if_pos hk2]))
    have HW := Lib.hid (r18with_any (.slice Al pl.length cl) pl (.slice Ad d.length cd) d false Hp _ (w1.alloc (.cells #[.int .u64 pa, .bool pn, .slice Al pl.length cl] 79)) HC.out HD.out (by have := HAT.out.1; omega) (by have := HDL.out; omega) (show Holds (w1.alloc (.cells #[.int .u64 pa, .bool pn, .slice Al pl.length cl] 79)) (Hp ++ ((w1.heap.size, (.cells #[.int .u64 pa, .bool pn, .slice Al pl.length cl] 79)) :: ((b, .cells #[.int .i64 size, pv] 76) :: ((g, ob) :: Fr)))) from hH3.sub (by (repeat' (first | refine sub_append ?_ ?_ | refine sub_cons ?_ ?_ | exact sub_nil)); all_goals first | (intro p hp; simp only [List.mem_append, List.mem_cons, hp, true_or, or_true]) | simp only [List.mem_append, List.mem_cons, true_or, or_true]) (fun b => by simp only [keyc_append, keyc_cons, keyc_nil]; omega)))
    subst hk2
    clear HPM hH3
    go_wp2_with fail
    refine HW.out.mono ?_
    generalize w1.heap.size = g4 at *
    clear o0 o1 o2 f0 f1 f2 q0 q1 q2
    rintro e w3 ⟨v3, H3, rfl, hf3, hH4, hg4⟩
    obtain ⟨A3, c3, hv3, _, _⟩ := hf3.sl hH4
    subst hv3
    have hH5 : Holds w3 ((g4, (.cells #[.int .u64 pa, .bool pn, .slice Al pl.length cl] 79)) :: ((b, .cells #[.int .i64 size, pv] 76) :: ((H3 ++ Hp) ++ ((g, ob) :: Fr)))) := hH4.sub (by (repeat' (first | refine sub_append ?_ ?_ | refine sub_cons ?_ ?_ | exact sub_nil)); all_goals first | (intro p hp; simp only [List.mem_append, List.mem_cons, hp, true_or, or_true]) | simp only [List.mem_append, List.mem_cons, true_or, or_true]) (fun b => by simp only [keyc_append, keyc_cons, keyc_nil]; omega)
    obtain ⟨o0, o1, o2, f0, f1, f2, _⟩ := openP hH5
    have hH6 : Holds (w3.setCell ⟨g4, 2, none⟩ (.slice A3 (withL pl (d, false)).length c3)) ((b, .cells #[.int .i64 size, pv] 76) :: ((H3 ++ Hp) ++ ([(g4, .cells #[.int .u64 pa, .bool pn, .slice A3 (withL pl (d, false)).length c3] 79), (g, ob)] ++ Fr))) := by
      have h : Holds (w3.setCell ⟨g4, 2, none⟩ (.slice A3 (withL pl (d, false)).length c3)) ((g4, .cells #[.int .u64 pa, .bool pn, .slice A3 (withL pl (d, false)).length c3] 79) :: ((b, .cells #[.int .i64 size, pv] 76) :: ((H3 ++ Hp) ++ ((g, ob) :: Fr)))) := hH5.set' 2 _
      exact h.sub (by (repeat' (first | refine sub_append ?_ ?_ | refine sub_cons ?_ ?_ | exact sub_nil)); all_goals first | (intro p hp; simp only [List.mem_append, List.mem_cons, hp, true_or, or_true]) | simp only [List.mem_append, List.mem_cons, true_or, or_true]) (fun b => by simp only [keyc_append, keyc_cons, keyc_nil]; omega)
    have hg5 := (hgp.trans hg4).setCell ⟨g4, 2, none⟩ (.slice A3 (withL pl (d, false)).length c3)
    have HPT := Lib.hid (r18put_any b size pv P ⟨pa, pn, withL pl (d, false)⟩ (.slice A3 (withL pl (d, false)).length c3) (H3 ++ Hp) _ _ HL0.out.more hf3 (by have := HSL.out.1; omega) hH6)
    dsimp only [PV.agg] at HPT
    clear HW hf3 hH4 hH5 hH6 hg4
    go_wp2_with fail
    refine HPT.out.mono ?_
    rintro e w4 hret
    have hret2 : RetR18 b size (putP P ⟨pa, pn, withL pl (d, false)⟩) (.tuple #[]) w Hp Fr e w4 := RetR18.more (Hn := H3) (A := [(g4, .cells #[.int .u64 pa, .bool pn, .slice A3 (withL pl (d, false)).length c3] 79), (g, ob)]) hret hg5
    obtain ⟨rfl, hret3⟩ := hret2
    clear hret HPT
    go_wp2_with fail
    go_end0
    rw [HR.out]
    exact ⟨rfl, hret3⟩
  by_cases hk4 : k = 4
  · have HR := Lib.hid (HPM.out.trans (by rw [if_neg hk1, if_neg hk2, if_pos hk4]))
    subst hk4
    have hH6 : Holds (w1.alloc (.cells #[.int .u64 pa, .bool true, .slice Al pl.length cl] 79)) ((b, .cells #[.int .i64 size, pv] 76) :: (Hp ++ ([(w1.heap.size, (.cells #[.int .u64 pa, .bool true, .slice Al pl.length cl] 79)), (g, ob)] ++ Fr))) := by
      have h := HH2.out.alloc (.cells #[.int .u64 pa, .bool true, .slice Al pl.length cl] 79)
      exact h.sub (by (repeat' (first | refine sub_append ?_ ?_ | refine sub_cons ?_ ?_ | exact sub_nil)); all_goals first | (intro p hp; simp only [List.mem_append, List.mem_cons, hp, true_or, or_true]) | simp only [List.mem_append, List.mem_cons, true_or, or_true]) (fun b => by simp only [keyc_append, keyc_cons, keyc_nil]; omega)
    have hgt := HG3.out.alloc (.cells #[.int .u64 pa, .bool true, .slice Al pl.length cl] 79)
    have HPT := Lib.hid (r18put_any b size pv P ⟨pa, true, pl⟩ (.slice Al pl.length cl) Hp _ _ HL0.out HC.out (by have := HSL.out.1; omega) hH6)
    dsimp only [PV.agg] at HPT
    clear HPM hH3 hH6
    go_wp2_with fail
    refine HPT.out.mono ?_
    rintro e w4 hret
    have hret2 : RetR18 b size (putP P ⟨pa, true, pl⟩) (.tuple #[]) w Hp Fr e w4 := RetR18.more (Hn := []) (A := [(w1.heap.size, (.cells #[.int .u64 pa, .bool true, .slice Al pl.length cl] 79)), (g, ob)]) hret hgt
    obtain ⟨rfl, hret3⟩ := hret2
    clear hret HPT
    go_wp2_with fail
    go_end0
    rw [HR.out]
    exact ⟨rfl, hret3⟩
  by_cases hk5 : k = 5
  · have HR := Lib.hid (HPM.out.trans (by rw [if_neg hk1, if_neg hk2, if_neg hk4, if_pos hk5]))
    have HW := Lib.hid (r18washed_any (.slice Al pl.length cl) pl Hp _ (w1.alloc (.cells #[.int .u64 pa, .bool pn, .slice Al pl.length cl] 79)) HC.out (by have := HAT.out.1; omega) (fun c hc => by have := HAT.out.2 c hc; omega) (show Holds (w1.alloc (.cells #[.int .u64 pa, .bool pn, .slice Al pl.length cl] 79)) (Hp ++ ((w1.heap.size, (.cells #[.int .u64 pa, .bool pn, .slice Al pl.length cl] 79)) :: ((b, .cells #[.int .i64 size, pv] 76) :: ((g, ob) :: Fr)))) from hH3.sub (by (repeat' (first | refine sub_append ?_ ?_ | refine sub_cons ?_ ?_ | exact sub_nil)); all_goals first | (intro p hp; simp only [List.mem_append, List.mem_cons, hp, true_or, or_true]) | simp only [List.mem_append, List.mem_cons, true_or, or_true]) (fun b => by simp only [keyc_append, keyc_cons, keyc_nil]; omega)))
    subst hk5
    have HWL := Lib.hid (washedL_len pl)
    have HML := Lib.hid (fun k => moreL_len (l := pl) (m := (washedL pl).take k))
    have HWD : Hid (∀ c ∈ washedL pl, c.1.length ≤ 1000) := Lib.hid (by
      have key : ∀ (M A : List CB), (∀ c ∈ A, c.1.length ≤ 1000) → (∀ c ∈ M, c.1.length ≤ 1000) → ∀ c ∈ M.foldl withL A, c.1.length ≤ 1000 := by
        intro M
        induction M with
        | nil => intro A hA _; exact hA
        | cons x M ih =>
          intro A hA hM
          refine ih (withL A x) (fun c hc => ?_) (fun c hc => hM c (by simp [hc]))
          unfold withL at hc
          split at hc
          · exact hA c hc
          · rcases List.mem_append.1 hc with hc | hc
            · exact hA c hc
            · rw [List.mem_singleton.1 hc]; exact hM x (by simp)
      refine key _ _ (fun c hc => by cases hc) (fun c hc => ?_)
      obtain ⟨y, hy, rfl⟩ := List.mem_map.1 hc
      exact HAT.out.2 y hy)
    clear HPM hH3
    go_wp2_with fail
    refine HW.out.mono ?_
    generalize w1.heap.size = g4 at *
    clear o0 o1 o2 f0 f1 f2 q0 q1 q2
    rintro e w3 ⟨v3, H3, rfl, hf3, hH4, hg4⟩
    obtain ⟨A3, c3, hv3, hc3a, hc3b⟩ := hf3.sl hH4
    subst hv3
    unfold maxLen at hc3b
    obtain ⟨E3, hE3, hCE3⟩ := hf3
    have HCE := Lib.hid hCE3
    have HLE : Hid (E3.map (·.2) = washedL pl) := Lib.hid hE3
    have hlen : E3.length = (washedL pl).length := by rw [← hE3, List.length_map]
    have hg5 := hgp.trans hg4
    have hH5 : Holds w3 ([(b, .cells #[.int .i64 size, pv] 76)] ++ ((g4, (.cells #[.int .u64 pa, .bool pn, .slice Al pl.length cl] 79)) :: (([] ++ (H3 ++ Hp)) ++ ((g, ob) :: Fr)))) := hH4.sub (by (repeat' (first | refine sub_append ?_ ?_ | refine sub_cons ?_ ?_ | exact sub_nil)); all_goals first | (intro p hp; simp only [List.mem_append, List.mem_cons, hp, true_or, or_true]) | simp only [List.mem_append, List.mem_cons, true_or, or_true]) (fun b => by simp only [keyc_append, keyc_cons, keyc_nil]; omega)
    have HC5 : Hid (FrCans ([] ++ (H3 ++ Hp)) (.slice Al pl.length cl) (moreL pl ((washedL pl).take 0))) := Lib.hid (by rw [List.take_zero]; show FrCans (H3 ++ Hp) _ pl; exact FrCans.more HC.out)
    generalize washedL pl = m5 at *
    clear HW hE3 hCE3 hH4 hg4 HH2 HG3 HC
    go_wp2_with fail
    go_loopw [6] (fun i wr => DarkTo pl m5 g4 (.int .u64 pa) (.bool pn) (H3 ++ Hp) w [(b, .cells #[.int .i64 size, pv] 76)] ((g, ob) :: Fr) i wr) (fun i _ => m5.length - (intOf i).toNat)
    case atStart => exact ⟨0, [], _, rfl, by omega, HC5.out, hH5, hg5⟩
    case round =>
      clear hH5 hg5 HC5
      obtain ⟨j, Hn, lv, rfl, hj, hcn, hHr, hgr⟩ := hrel
      have HCN := Lib.hid hcn
      have hHr2 : Holds wr ((g4, .cells #[.int .u64 pa, .bool pn, lv] 79) :: ((b, .cells #[.int .i64 size, pv] 76) :: ((Hn ++ (H3 ++ Hp)) ++ ((g, ob) :: Fr)))) := hHr.sub (by (repeat' (first | refine sub_append ?_ ?_ | refine sub_cons ?_ ?_ | exact sub_nil)); all_goals first | (intro p hp; simp only [List.mem_append, List.mem_cons, hp, true_or, or_true]) | simp only [List.mem_append, List.mem_cons, true_or, or_true]) (fun b => by simp only [keyc_append, keyc_cons, keyc_nil]; omega)
      obtain ⟨An, cn, hvn, _, _⟩ := hcn.sl hHr2.tail.tail
      subst hvn
      have hln : (moreL pl (m5.take j)).length ≤ 90000 := by
        have h1 := HML.out j
        have h2 := HAT.out.1
        have h3 := HWL.out
        simp at h1
        omega
      have HSN := Lib.hid (fun (h : j < m5.length) => moreL_snoc (l := pl) h)
      generalize hlj : moreL pl (m5.take j) = lj at *
      have HLJ := Lib.hid hlj
      clear hlj hcn hHr
      obtain ⟨o0, o1, o2, f0, f1, f2, hset⟩ := openP hHr2
      by_cases hlt : j < m5.length
      · have hkE : j < E3.length := by omega
        have hHr3 : Holds wr ((H3 ++ Hp) ++ ((g4, .cells #[.int .u64 pa, .bool pn, .slice An lj.length cn] 79) :: ((b, .cells #[.int .i64 size, pv] 76) :: (Hn ++ ((g, ob) :: Fr))))) := hHr2.sub (by (repeat' (first | refine sub_append ?_ ?_ | refine sub_cons ?_ ?_ | exact sub_nil)); all_goals first | (intro p hp; simp only [List.mem_append, List.mem_cons, hp, true_or, or_true]) | simp only [List.mem_append, List.mem_cons, true_or, or_true]) (fun b => by simp only [keyc_append, keyc_cons, keyc_nil]; omega)
        obtain ⟨b1, o, c', hv, hc1, hc2, hcl⟩ := HCE.out.get hHr3 j hkE
        rw [hlen] at hv
        injection hv with e1 e2 e3
        subst e1 e3
        clear e2
        have hLk : E3[j].2 = m5[j] := by
          have : (E3.map (·.2))[j]'(by simpa using hkE) = m5[j] := by simp only [HLE.out]
          simpa using this
        have hfb := HCE.out.2 E3[j] (List.getElem_mem hkE)
        rw [hLk] at hfb hcl
        have HFB := Lib.hid hfb
        have HDJ := Lib.hid (HWD.out m5[j] (List.getElem_mem hlt))
        obtain ⟨Ax, cx, hxv⟩ := hfb.sl hHr3
        rw [hxv] at hcl HFB
        have HSJ := Lib.hid (HSN.out hlt)
        have HCL := Lib.hid hcl
        generalize m5[j] = xj at *
        obtain ⟨xd, xc⟩ := xj
        dsimp only at HCL HFB HDJ
        have HSS : Hid (∀ (wx : World) (X : HL), Holds wx (X ++ ((g4, .cells #[.int .u64 pa, .bool pn, .slice An lj.length cn] 79) :: ((b, .cells #[.int .i64 size, pv] 76) :: ((Hn ++ (H3 ++ Hp)) ++ ((g, ob) :: Fr))))) → wx.cell? ⟨g4, 2, none⟩ = some (.slice An lj.length cn) ∧ wx.frozen? ⟨g4, 2, none⟩ = false ∧ wx.cell? ⟨b1, o + j * 2, none⟩ = some (.slice Ax xd.length cx) ∧ wx.cell? ⟨b1, o + j * 2 + 1, none⟩ = some (.bool xc)) := Lib.hid (fun wx X h => by
          have h2 := h.right
          obtain ⟨k1, k2⟩ := HCL.out wx ((g, ob) :: Fr) h2.tail.tail.assoc.right
          exact ⟨h2.hcell 2, h2.hfrozen 2, k1, k2⟩)
        have HHR := Lib.hid hHr2
        clear hcl hfb hxv hLk hHr2 hHr3 hset o0 o1 o2 f0 f1 f2
        go_upto_region 14 with fail
        refine Z_begin (fun wx => wx.cell? ⟨g4, 2, none⟩ = some (.slice An lj.length cn) ∧ wx.frozen? ⟨g4, 2, none⟩ = false ∧ wx.cell? ⟨b1, o + j * 2, none⟩ = some (.slice Ax xd.length cx) ∧ wx.cell? ⟨b1, o + j * 2 + 1, none⟩ = some (.bool xc)) 8 (by kernel_rfl) (fun w1 hd => HSS.out _ [] (HHR.out.dr hd)) (fun w1 hd hs => ?_)
        have hH6 := HHR.out.dr hd; have hG6 := hgr.trans (Grew.dr hd); clear hd
        refine Z_takeD 0 (some 45) (v := ?_) rfl rfl (by kernel_rfl) (fun _ _ _ h => h) (by rfl) hs ?_ ?_
        rotate_left
        · intro wx hx; obtain ⟨s0, s1, s2, s3⟩ := hx; go_simp; try with_reducible rfl
        simp only [Act.put, List.setIfInBounds_toArray, List.set_cons_succ, List.set_cons_zero]
        refine Z_takeD 1 (some 46) (v := ?_) rfl rfl (by kernel_rfl) (fun _ _ _ h => h) (by rfl) hs ?_ ?_
        rotate_left
        · intro wx hx; obtain ⟨s0, s1, s2, s3⟩ := hx; go_simp; try with_reducible rfl
        simp only [Act.put, List.setIfInBounds_toArray, List.set_cons_succ, List.set_cons_zero]
        refine Z_takeD 2 (some 47) (v := ?_) rfl rfl (by kernel_rfl) (fun _ _ _ h => h) (by rfl) hs ?_ ?_
        rotate_left
        · intro wx hx; obtain ⟨s0, s1, s2, s3⟩ := hx; go_simp; try with_reducible rfl
        simp only [Act.put, List.setIfInBounds_toArray, List.set_cons_succ, List.set_cons_zero]
        refine Z_takeD 3 (some 48) (v := ?_) rfl rfl (by kernel_rfl) (fun _ _ _ h => h) (by rfl) hs ?_ ?_
        rotate_left
        · intro wx hx; obtain ⟨s0, s1, s2, s3⟩ := hx; go_simp; try with_reducible rfl
        simp only [Act.put, List.setIfInBounds_toArray, List.set_cons_succ, List.set_cons_zero]
        refine Z_takeD 4 (some 49) (v := ?_) rfl rfl (by kernel_rfl) (fun _ _ _ h => h) (by rfl) hs ?_ ?_
        rotate_left
        · intro wx hx; obtain ⟨s0, s1, s2, s3⟩ := hx; go_simp; try with_reducible rfl
        simp only [Act.put, List.setIfInBounds_toArray, List.set_cons_succ, List.set_cons_zero]
        refine Z_takeD 5 (some 50) (v := ?_) rfl rfl (by kernel_rfl) (fun _ _ _ h => h) (by rfl) hs ?_ ?_
        rotate_left
        · intro wx hx; obtain ⟨s0, s1, s2, s3⟩ := hx; go_simp; try with_reducible rfl
        simp only [Act.put, List.setIfInBounds_toArray, List.set_cons_succ, List.set_cons_zero]
        refine Z_mid 6 rfl (by kernel_rfl) (fun K hK => ?_)
        have ⟨s0, s1, s2, s3⟩ := hs
        go_simp; refine (r18with_any (.slice An lj.length cn) lj (.slice Ax xd.length cx) xd xc (Hn ++ (H3 ++ Hp)) _ w1 HCN.out HFB.out.right (by omega) (by have := HDJ.out; omega) (show Holds w1 ((Hn ++ (H3 ++ Hp)) ++ ((g4, .cells #[.int .u64 pa, .bool pn, .slice An lj.length cn] 79) :: ((b, .cells #[.int .i64 size, pv] 76) :: ((g, ob) :: Fr)))) from hH6.sub (by (repeat' (first | refine sub_append ?_ ?_ | refine sub_cons ?_ ?_ | exact sub_nil)); all_goals first | (intro p hp; simp only [List.mem_append, List.mem_cons, hp, true_or, or_true]) | simp only [List.mem_append, List.mem_cons, true_or, or_true]) (fun b => by simp only [keyc_append, keyc_cons, keyc_nil]; omega))).mono ?_; rintro e w4 ⟨v4, H4, rfl, hf4, hH7, hg7⟩; obtain ⟨A4, c4, hv4, _, _⟩ := hf4.sl hH7; subst hv4; have HF4 := Lib.hid hf4; clear hf4   -- call w
        clear s0 s1 s2 s3
        refine hK _ _ (HSS.out _ H4 (by have h : Holds w4 (H4 ++ ((g4, .cells #[.int .u64 pa, .bool pn, .slice An lj.length cn] 79) :: ((b, .cells #[.int .i64 size, pv] 76) :: ((Hn ++ (H3 ++ Hp)) ++ ((g, ob) :: Fr))))) := hH7.sub (by (repeat' (first | refine sub_append ?_ ?_ | refine sub_cons ?_ ?_ | exact sub_nil)); all_goals first | (intro p hp; simp only [List.mem_append, List.mem_cons, hp, true_or, or_true]) | simp only [List.mem_append, List.mem_cons, true_or, or_true]) (fun b => by simp only [keyc_append, keyc_cons, keyc_nil]; omega); exact h)) (fun hs2 => ?_); clear hK K hs; have hs := hs2; clear hs2
        refine Z_takeD 7 (some 52) (v := ?_) rfl rfl (by kernel_rfl) (fun _ _ _ h => h) (by rfl) hs ?_ ?_
        rotate_left
        · intro wx hx; obtain ⟨s0, s1, s2, s3⟩ := hx; go_simp; try with_reducible rfl
        simp only [Act.put, List.setIfInBounds_toArray, List.set_cons_succ, List.set_cons_zero]
        refine Z_last 8 rfl (by kernel_rfl) rfl (fun K hK => ?_)
        have ⟨s0, s1, s2, s3⟩ := hs
        go_simp   -- store w
        clear s0 s1 s2 s3
        refine hK _ _ ?_; clear hK K hs
        refine Z_done (by kernel_rfl) ?_ _
        have hH8 : Holds w4 ((g4, .cells #[.int .u64 pa, .bool pn, .slice An lj.length cn] 79) :: ((b, .cells #[.int .i64 size, pv] 76) :: ((H4 ++ (Hn ++ (H3 ++ Hp))) ++ ((g, ob) :: Fr)))) := hH7.sub (by (repeat' (first | refine sub_append ?_ ?_ | refine sub_cons ?_ ?_ | exact sub_nil)); all_goals first | (intro p hp; simp only [List.mem_append, List.mem_cons, hp, true_or, or_true]) | simp only [List.mem_append, List.mem_cons, true_or, or_true]) (fun b => by simp only [keyc_append, keyc_cons, keyc_nil]; omega)
        have hH9 : Holds (w4.setCell ⟨g4, 2, none⟩ (.slice A4 (withL lj (xd, xc)).length c4)) ((g4, .cells #[.int .u64 pa, .bool pn, .slice A4 (withL lj (xd, xc)).length c4] 79) :: ((b, .cells #[.int .i64 size, pv] 76) :: ((H4 ++ (Hn ++ (H3 ++ Hp))) ++ ((g, ob) :: Fr)))) := hH8.set' 2 _
        have hH10 : Holds (w4.setCell ⟨g4, 2, none⟩ (.slice A4 (withL lj (xd, xc)).length c4)) ([(b, .cells #[.int .i64 size, pv] 76)] ++ ((g4, .cells #[.int .u64 pa, .bool pn, .slice A4 (withL lj (xd, xc)).length c4] 79) :: (((H4 ++ Hn) ++ (H3 ++ Hp)) ++ ((g, ob) :: Fr)))) := hH9.sub (by (repeat' (first | refine sub_append ?_ ?_ | refine sub_cons ?_ ?_ | exact sub_nil)); all_goals first | (intro p hp; simp only [List.mem_append, List.mem_cons, hp, true_or, or_true]) | simp only [List.mem_append, List.mem_cons, true_or, or_true]) (fun b => by simp only [keyc_append, keyc_cons, keyc_nil]; omega)
        have HFIN := Lib.hid (show DarkTo pl m5 g4 (.int .u64 pa) (.bool pn) (H3 ++ Hp) w [(b, .cells #[.int .i64 size, pv] 76)] ((g, ob) :: Fr) (.int .i64 ((j : Int) + 1)) (w4.setCell ⟨g4, 2, none⟩ (.slice A4 (withL lj (xd, xc)).length c4)) from ⟨j + 1, H4 ++ Hn, _, by go_num, by omega, by rw [HSJ.out, List.append_assoc]; exact HF4.out, hH10, (hG6.trans hg7).setCell _ _⟩)
        clear hH7 hH8 hH9 hH10 hH6 hG6 hg7 hgr
        go_wp2_with fail
        go_roundw
        case rel => exact HFIN.out
        case measure => simp [intOf]; omega
      · have hj2 : j = m5.length := by omega
        subst hj2
        have HMJ := Lib.hid (show moreL pl m5 = lj by have h := HLJ.out; rw [List.take_length] at h; exact h)
        have hH6 : Holds wr ((b, .cells #[.int .i64 size, pv] 76) :: ((Hn ++ (H3 ++ Hp)) ++ ([(g4, .cells #[.int .u64 pa, .bool pn, .slice An lj.length cn] 79), (g, ob)] ++ Fr))) := hHr2.sub (by (repeat' (first | refine sub_append ?_ ?_ | refine sub_cons ?_ ?_ | exact sub_nil)); all_goals first | (intro p hp; simp only [List.mem_append, List.mem_cons, hp, true_or, or_true]) | simp only [List.mem_append, List.mem_cons, true_or, or_true]) (fun b => by simp only [keyc_append, keyc_cons, keyc_nil]; omega)
        have HPT := Lib.hid (r18put_any b size pv P ⟨pa, pn, lj⟩ (.slice An lj.length cn) (Hn ++ (H3 ++ Hp)) _ wr HL0.out.more.more HCN.out (by have := HSL.out.1; omega) hH6)
        dsimp only [PV.agg] at HPT
        clear hH6 hHr2 hset
        go_wp2_with fail
        refine HPT.out.mono ?_
        rintro e w4 hret
        have hret1 : RetR18 b size (putP P ⟨pa, pn, lj⟩) (.tuple #[]) wr ((Hn ++ H3) ++ Hp) ([(g4, .cells #[.int .u64 pa, .bool pn, .slice An lj.length cn] 79), (g, ob)] ++ Fr) e w4 := by rw [List.append_assoc]; exact hret
        have hret2 : RetR18 b size (putP P ⟨pa, pn, lj⟩) (.tuple #[]) w Hp Fr e w4 := RetR18.more hret1 hgr
        obtain ⟨rfl, hret3⟩ := hret2
        clear hret hret1 HPT
        go_wp2_with fail
        go_end0
        rw [HR.out, HMJ.out]
        exact ⟨rfl, hret3⟩
  · have HR := Lib.hid (HPM.out.trans (by rw [if_neg hk1, if_neg hk2, if_neg hk4, if_neg hk5]))
    have HH := Lib.hid hH3
    clear HPM hH3
    go_wp2_with fail
    go_end0
    rw [HR.out]
    refine ⟨rfl, pv, [], HL0.out, ?_, hgp⟩
    have h : Holds (w1.alloc (.cells #[.int .u64 pa, .bool pn, .slice Al pl.length cl] 79)) (((b, .cells #[.int .i64 size, pv] 76) :: Hp) ++ ([(w1.heap.size, (.cells #[.int .u64 pa, .bool pn, .slice Al pl.length cl] 79)), (g, ob)] ++ Fr)) := HH.out.sub (by (repeat' (first | refine sub_append ?_ ?_ | refine sub_cons ?_ ?_ | exact sub_nil)); all_goals first | (intro p hp; simp only [List.mem_append, List.mem_cons, hp, true_or, or_true]) | simp only [List.mem_append, List.mem_cons, true_or, or_true]) (fun b => by simp only [keyc_append, keyc_cons, keyc_nil]; omega)
    simpa using h.mid
def doneP (P : List PV) (o : OV) : Bool × List PV :=
  if o.k = 1 then (true, putP P ⟨o.a, false, [(o.d, true)]⟩)
  else if o.k = 2 then (true, putP P ⟨o.a, false, [(o.d, false)]⟩)
  else if o.k = 4 then (true, putP P ⟨o.a, true, []⟩)
  else if o.k = 5 then if (atP P o.a).l.length = 0 then (false, P) else (true, putP P ⟨o.a, false, washedL (atP P o.a).l⟩)
  else (false, P)
set_option maxRecDepth 20000 in
set_option maxHeartbeats 8000000 in
theorem r18done_any (b : Nat) (size : Int) (pv : Value) (P : List PV) (o : OV) (dv : Value) (Hp Fr : HL) (w : World) (hl : FrPlaces Hp pv P) (hs : SmP P) (hd : FrBytes Hp dv o.d) (hdl : o.d.length ≤ 1000) (hH : Holds w ((b, .cells #[.int .i64 size, pv] 76) :: (Hp ++ Fr))) :
    Calls Try.prog 44 #[.pointer (some ⟨b, 0, none⟩), o.agg dv] w (RetR18 b size (doneP P o).2 (.bool (doneP P o).1) w Hp Fr) := by
  have HL0 := Lib.hid hl
  have HD := Lib.hid hd
  have HAT := Lib.hid (hs.at_ o.a)
  have HSL := Lib.hid hs
  have HPM := Lib.hid (show doneP P o = if o.k = 1 then (true, putP P ⟨o.a, false, [(o.d, true)]⟩)
  else if o.k = 2 then (true, putP P ⟨o.a, false, [(o.d, false)]⟩)
  else if o.k = 4 then (true, putP P ⟨o.a, true, []⟩)
  else if o.k = 5 then if (atP P o.a).l.length = 0 then (false, P) else (true, putP P ⟨o.a, false, washedL (atP P o.a).l⟩)
  else (false, P) from rfl)
  generalize doneP P o = res at *
  have HDL : Hid (o.d.length ≤ 1000) := Lib.hid hdl
  obtain ⟨Ad, cd, hdv⟩ := hd.sl hH.tail
  subst hdv
  have HATC := Lib.hid (fun (wx : World) (F : HL) (h : Holds wx ((b, .cells #[.int .i64 size, pv] 76) :: (Hp ++ F))) => r18at_any b size pv P o.a Hp F wx hl h)
  obtain ⟨k, a, d, m⟩ := o
  dsimp only [OV.agg] at *
  have hH1 : Holds (w.alloc (.cells #[.int .i64 k, .int .u64 a, .slice Ad d.length cd, .int .i64 m] 31)) ((b, .cells #[.int .i64 size, pv] 76) :: (Hp ++ ((w.heap.size, (.cells #[.int .i64 k, .int .u64 a, .slice Ad d.length cd, .int .i64 m] 31)) :: Fr))) := (hH.alloc _).sub (by (repeat' (first | refine sub_append ?_ ?_ | refine sub_cons ?_ ?_ | exact sub_nil)); all_goals first | (intro p hp; simp only [List.mem_append, List.mem_cons, hp, true_or, or_true]) | simp only [List.mem_append, List.mem_cons, true_or, or_true]) (fun b => by simp only [keyc_append, keyc_cons, keyc_nil]; omega)
  have hg1 := (Grew.refl w).alloc (.cells #[.int .i64 k, .int .u64 a, .slice Ad d.length cd, .int .i64 m] 31)
  have HB : Hid (∀ (wx : World) (X F : HL), Holds wx (X ++ ((w.heap.size, (.cells #[.int .i64 k, .int .u64 a, .slice Ad d.length cd, .int .i64 m] 31)) :: F)) → wx.cell? ⟨w.heap.size, 0, none⟩ = some (.int .i64 k) ∧ wx.cell? ⟨w.heap.size, 1, none⟩ = some (.int .u64 a) ∧ wx.cell? ⟨w.heap.size, 2, none⟩ = some (.slice Ad d.length cd)) := Lib.hid (fun wx X F h => ⟨h.right.hcell 0, h.right.hcell 1, h.right.hcell 2⟩)
  obtain ⟨q0, q1, q2⟩ := HB.out _ ((b, _) :: Hp) Fr (by simpa using hH1)
  have HC1 := Lib.hid (HATC.out _ _ hH1)
  clear hl hs hd hdl hH hH1 HATC
  go_enter Try.func44, Try.ntmps44
  go_wp2_with fail
  refine HC1.out.mono ?_
  generalize w.alloc (.cells #[.int .i64 k, .int .u64 a, .slice Ad d.length cd, .int .i64 m] 31) = w0 at *
  generalize w.heap.size = g at *
  generalize (Obj.cells #[.int .i64 k, .int .u64 a, .slice Ad d.length cd, .int .i64 m] 31) = ob at *
  rintro e w1 ⟨lv, rfl, hc1, hH2, hg2⟩
  have hg3 := hg1.trans hg2
  generalize atP P a = p at *
  obtain ⟨pa, pn, pl⟩ := p
  dsimp only [PV.agg] at *
  obtain ⟨Al, cl, hlv, _, _⟩ := hc1.sl hH2.tail
  subst hlv
  have HC := Lib.hid hc1
  have hH3 : Holds (w1.alloc (.cells #[.int .u64 pa, .bool pn, .slice Al pl.length cl] 79)) ((b, .cells #[.int .i64 size, pv] 76) :: (Hp ++ ([(w1.heap.size, (.cells #[.int .u64 pa, .bool pn, .slice Al pl.length cl] 79)), (g, ob)] ++ Fr))) := (hH2.alloc (.cells #[.int .u64 pa, .bool pn, .slice Al pl.length cl] 79)).sub (by (repeat' (first | refine sub_append ?_ ?_ | refine sub_cons ?_ ?_ | exact sub_nil)); all_goals first | (intro p hp; simp only [List.mem_append, List.mem_cons, hp, true_or, or_true]) | simp only [List.mem_append, List.mem_cons, true_or, or_true]) (fun b => by simp only [keyc_append, keyc_cons, keyc_nil]; omega)
  have hgp := hg3.alloc (.cells #[.int .u64 pa, .bool pn, .slice Al pl.length cl] 79)
  obtain ⟨q0, q1, q2⟩ := HB.out (w1.alloc (.cells #[.int .u64 pa, .bool pn, .slice Al pl.length cl] 79)) ((b, _) :: (Hp ++ [(w1.heap.size, (.cells #[.int .u64 pa, .bool pn, .slice Al pl.length cl] 79))])) Fr (by simpa using hH3)
  have HBP : Hid (∀ (wx : World) (X F : HL), Holds wx (X ++ ([(w1.heap.size, (.cells #[.int .u64 pa, .bool pn, .slice Al pl.length cl] 79)), (g, ob)] ++ F)) → (wx.cell? ⟨g, 0, none⟩ = some (.int .i64 k) ∧ wx.cell? ⟨g, 1, none⟩ = some (.int .u64 a) ∧ wx.cell? ⟨g, 2, none⟩ = some (.slice Ad d.length cd)) ∧ wx.cell? ⟨w1.heap.size, 2, none⟩ = some (.slice Al pl.length cl)) := Lib.hid (fun wx X F h => ⟨HB.out wx (X ++ [_]) F (by simpa using h), h.right.hcell 2⟩)
  have HH3 := Lib.hid hH3
  clear hc1 hH2 hg1 hg2 hg3 HC1
  by_cases hk1 : k = 1
  · have HR := Lib.hid (HPM.out.trans (by rw [if_pos hk1]))
    subst hk1
    clear HPM hH3
    go_upto_region 5 with fail
    generalize w1.alloc (.cells #[.int .u64 pa, .bool pn, .slice Al pl.length cl] 79) = w2 at *
    generalize w1.heap.size = g4 at *
    refine Z_begin (fun wx => wx.cell? ⟨g, 0, none⟩ = some (.int .i64 1) ∧ wx.cell? ⟨g, 1, none⟩ = some (.int .u64 a) ∧ wx.cell? ⟨g, 2, none⟩ = some (.slice Ad d.length cd) ∧ wx.cell? ⟨g4, 2, none⟩ = some (.slice Al pl.length cl)) 8 (by kernel_rfl) (fun w1 hd => (by obtain ⟨⟨a0, a1, a2⟩, a3⟩ := HBP.out _ ((b, _) :: Hp) Fr (HH3.out.dr hd); exact ⟨a0, a1, a2, a3⟩)) (fun w1 hd hs => ?_)
    have hH6 := HH3.out.dr hd; have hG6 := hgp.trans (Grew.dr hd); clear hd
    refine Z_takeD 0 (some 14) (v := ?_) rfl rfl (by kernel_rfl) (fun _ _ _ h => h) (by rfl) hs ?_ ?_
    rotate_left
    · intro wx hx; obtain ⟨s0, s1, s2, s3⟩ := hx; go_simp; try with_reducible rfl
    simp only [Act.put, List.setIfInBounds_toArray, List.set_cons_succ, List.set_cons_zero]
    refine Z_takeD 1 (some 15) (v := ?_) rfl rfl (by kernel_rfl) (fun _ _ _ h => h) (by rfl) hs ?_ ?_
    rotate_left
    · intro wx hx; obtain ⟨s0, s1, s2, s3⟩ := hx; go_simp; try with_reducible rfl
    simp only [Act.put, List.setIfInBounds_toArray, List.set_cons_succ, List.set_cons_zero]
    refine Z_takeD 2 (some 16) (v := ?_) rfl rfl (by kernel_rfl) (fun _ _ _ h => h) (by rfl) hs ?_ ?_
    rotate_left
    · intro wx hx; obtain ⟨s0, s1, s2, s3⟩ := hx; go_simp; try with_reducible rfl
    simp only [Act.put, List.setIfInBounds_toArray, List.set_cons_succ, List.set_cons_zero]
    refine Z_takeD 3 (some 17) (v := ?_) rfl rfl (by kernel_rfl) (fun _ _ _ h => h) (by rfl) hs ?_ ?_
    rotate_left
    · intro wx hx; obtain ⟨s0, s1, s2, s3⟩ := hx; go_simp; try with_reducible rfl
    simp only [Act.put, List.setIfInBounds_toArray, List.set_cons_succ, List.set_cons_zero]
    refine Z_takeD 4 (some 18) (v := ?_) rfl rfl (by kernel_rfl) (fun _ _ _ h => h) (by rfl) hs ?_ ?_
    rotate_left
    · intro wx hx; obtain ⟨s0, s1, s2, s3⟩ := hx; go_simp; try with_reducible rfl
    simp only [Act.put, List.setIfInBounds_toArray, List.set_cons_succ, List.set_cons_zero]
    refine Z_takeD 5 (some 19) (v := ?_) rfl rfl (by kernel_rfl) (fun _ _ _ h => h) (by rfl) hs ?_ ?_
    rotate_left
    · intro wx hx; obtain ⟨s0, s1, s2, s3⟩ := hx; go_simp; try with_reducible rfl
    simp only [Act.put, List.setIfInBounds_toArray, List.set_cons_succ, List.set_cons_zero]
    refine Z_mid 6 rfl (by kernel_rfl) (fun K hK => ?_)
    have ⟨s0, s1, s2, s3⟩ := hs
    go_simp; refine (r18with_any (.slice none 0 0) [] (.slice Ad d.length cd) d true Hp _ w1 (FrCans.nil _) HD.out (by simp) (by have := HDL.out; omega) (show Holds w1 (Hp ++ ((b, .cells #[.int .i64 size, pv] 76) :: ([(g4, (.cells #[.int .u64 pa, .bool pn, .slice Al pl.length cl] 79)), (g, ob)] ++ Fr))) from hH6.sub (by (repeat' (first | refine sub_append ?_ ?_ | refine sub_cons ?_ ?_ | exact sub_nil)); all_goals first | (intro p hp; simp only [List.mem_append, List.mem_cons, hp, true_or, or_true]) | simp only [List.mem_append, List.mem_cons, true_or, or_true]) (fun b => by simp only [keyc_append, keyc_cons, keyc_nil]; omega))).mono ?_; rintro e w4 ⟨v4, H4, rfl, hf4, hH7, hg7⟩; obtain ⟨A4, c4, hv4, _, _⟩ := hf4.sl hH7; subst hv4; have HF4 : Hid (FrCans (H4 ++ Hp) (.slice A4 1 c4) [(d, true)]) := Lib.hid hf4; clear hf4; have hH8 : Holds w4 ((b, .cells #[.int .i64 size, pv] 76) :: ((H4 ++ Hp) ++ ([(g4, (.cells #[.int .u64 pa, .bool pn, .slice Al pl.length cl] 79)), (g, ob)] ++ Fr))) := hH7.sub (by (repeat' (first | refine sub_append ?_ ?_ | refine sub_cons ?_ ?_ | exact sub_nil)); all_goals first | (intro p hp; simp only [List.mem_append, List.mem_cons, hp, true_or, or_true]) | simp only [List.mem_append, List.mem_cons, true_or, or_true]) (fun b => by simp only [keyc_append, keyc_cons, keyc_nil]; omega); clear hH7 hH6   -- call w
    clear s0 s1 s2 s3
    refine hK _ _ ((by obtain ⟨⟨a0, a1, a2⟩, a3⟩ := HBP.out _ ((b, _) :: (H4 ++ Hp)) Fr hH8; exact ⟨a0, a1, a2, a3⟩)) (fun hs2 => ?_); clear hK K hs; have hs := hs2; clear hs2
    refine Z_takeD 7 (some 21) (v := ?_) rfl rfl (by kernel_rfl) (fun _ _ _ h => h) (by rfl) hs ?_ ?_
    rotate_left
    · intro wx hx; obtain ⟨s0, s1, s2, s3⟩ := hx; go_simp; try with_reducible rfl
    simp only [Act.put, List.setIfInBounds_toArray, List.set_cons_succ, List.set_cons_zero]
    refine Z_last 8 rfl (by kernel_rfl) rfl (fun K hK => ?_)
    have ⟨s0, s1, s2, s3⟩ := hs
    go_simp; refine (r18put_any b size pv P ⟨a, false, [(d, true)]⟩ (.slice A4 1 c4) (H4 ++ Hp) _ w4 HL0.out.more HF4.out (by have := HSL.out.1; omega) hH8).mono ?_; rintro e w5 hret; have hret2 : RetR18 b size (putP P ⟨a, false, [(d, true)]⟩) (.tuple #[]) w Hp Fr e w5 := RetR18.more hret (hG6.trans hg7); obtain ⟨rfl, hret3⟩ := hret2; clear hret   -- call w
    clear s0 s1 s2 s3
    refine hK _ _ ?_; clear hK K hs
    refine Z_done (by kernel_rfl) ?_ _
    clear hH8 hG6 hg7
    go_wp2_with fail
    go_ret
    rw [HR.out]
    exact ⟨rfl, hret3⟩
  by_cases hk2 : k = 2
  · have HR := Lib.hid (HPM.out.trans (by rw [if_neg hk1, if_pos hk2]))
    subst hk2
    clear HPM hH3
    go_upto_region 7 with fail
    generalize w1.alloc (.cells #[.int .u64 pa, .bool pn, .slice Al pl.length cl] 79) = w2 at *
    generalize w1.heap.size = g4 at *
    refine Z_begin (fun wx => wx.cell? ⟨g, 0, none⟩ = some (.int .i64 2) ∧ wx.cell? ⟨g, 1, none⟩ = some (.int .u64 a) ∧ wx.cell? ⟨g, 2, none⟩ = some (.slice Ad d.length cd) ∧ wx.cell? ⟨g4, 2, none⟩ = some (.slice Al pl.length cl)) 8 (by kernel_rfl) (fun w1 hd => (by obtain ⟨⟨a0, a1, a2⟩, a3⟩ := HBP.out _ ((b, _) :: Hp) Fr (HH3.out.dr hd); exact ⟨a0, a1, a2, a3⟩)) (fun w1 hd hs => ?_)
    have hH6 := HH3.out.dr hd; have hG6 := hgp.trans (Grew.dr hd); clear hd
    refine Z_takeD 0 (some 25) (v := ?_) rfl rfl (by kernel_rfl) (fun _ _ _ h => h) (by rfl) hs ?_ ?_
    rotate_left
    · intro wx hx; obtain ⟨s0, s1, s2, s3⟩ := hx; go_simp; try with_reducible rfl
    simp only [Act.put, List.setIfInBounds_toArray, List.set_cons_succ, List.set_cons_zero]
    refine Z_takeD 1 (some 26) (v := ?_) rfl rfl (by kernel_rfl) (fun _ _ _ h => h) (by rfl) hs ?_ ?_
    rotate_left
    · intro wx hx; obtain ⟨s0, s1, s2, s3⟩ := hx; go_simp; try with_reducible rfl
    simp only [Act.put, List.setIfInBounds_toArray, List.set_cons_succ, List.set_cons_zero]
    refine Z_takeD 2 (some 27) (v := ?_) rfl rfl (by kernel_rfl) (fun _ _ _ h => h) (by rfl) hs ?_ ?_
    rotate_left
    · intro wx hx; obtain ⟨s0, s1, s2, s3⟩ := hx; go_simp; try with_reducible rfl
    simp only [Act.put, List.setIfInBounds_toArray, List.set_cons_succ, List.set_cons_zero]
    refine Z_takeD 3 (some 28) (v := ?_) rfl rfl (by kernel_rfl) (fun _ _ _ h => h) (by rfl) hs ?_ ?_
    rotate_left
    · intro wx hx; obtain ⟨s0, s1, s2, s3⟩ := hx; go_simp; try with_reducible rfl
    simp only [Act.put, List.setIfInBounds_toArray, List.set_cons_succ, List.set_cons_zero]
    refine Z_takeD 4 (some 29) (v := ?_) rfl rfl (by kernel_rfl) (fun _ _ _ h => h) (by rfl) hs ?_ ?_
    rotate_left
    · intro wx hx; obtain ⟨s0, s1, s2, s3⟩ := hx; go_simp; try with_reducible rfl
    simp only [Act.put, List.setIfInBounds_toArray, List.set_cons_succ, List.set_cons_zero]
    refine Z_takeD 5 (some 30) (v := ?_) rfl rfl (by kernel_rfl) (fun _ _ _ h => h) (by rfl) hs ?_ ?_
    rotate_left
    · intro wx hx; obtain ⟨s0, s1, s2, s3⟩ := hx; go_simp; try with_reducible rfl
    simp only [Act.put, List.setIfInBounds_toArray, List.set_cons_succ, List.set_cons_zero]
    refine Z_mid 6 rfl (by kernel_rfl) (fun K hK => ?_)
    have ⟨s0, s1, s2, s3⟩ := hs
    go_simp; refine (r18with_any (.slice none 0 0) [] (.slice Ad d.length cd) d false Hp _ w1 (FrCans.nil _) HD.out (by simp) (by have := HDL.out; omega) (show Holds w1 (Hp ++ ((b, .cells #[.int .i64 size, pv] 76) :: ([(g4, (.cells #[.int .u64 pa, .bool pn, .slice Al pl.length cl] 79)), (g, ob)] ++ Fr))) from hH6.sub (by (repeat' (first | refine sub_append ?_ ?_ | refine sub_cons ?_ ?_ | exact sub_nil)); all_goals first | (intro p hp; simp only [List.mem_append, List.mem_cons, hp, true_or, or_true]) | simp only [List.mem_append, List.mem_cons, true_or, or_true]) (fun b => by simp only [keyc_append, keyc_cons, keyc_nil]; omega))).mono ?_; rintro e w4 ⟨v4, H4, rfl, hf4, hH7, hg7⟩; obtain ⟨A4, c4, hv4, _, _⟩ := hf4.sl hH7; subst hv4; have HF4 : Hid (FrCans (H4 ++ Hp) (.slice A4 1 c4) [(d, false)]) := Lib.hid hf4; clear hf4; have hH8 : Holds w4 ((b, .cells #[.int .i64 size, pv] 76) :: ((H4 ++ Hp) ++ ([(g4, (.cells #[.int .u64 pa, .bool pn, .slice Al pl.length cl] 79)), (g, ob)] ++ Fr))) := hH7.sub (by (repeat' (first | refine sub_append ?_ ?_ | refine sub_cons ?_ ?_ | exact sub_nil)); all_goals first | (intro p hp; simp only [List.mem_append, List.mem_cons, hp, true_or, or_true]) | simp only [List.mem_append, List.mem_cons, true_or, or_true]) (fun b => by simp only [keyc_append, keyc_cons, keyc_nil]; omega); clear hH7 hH6   -- call w
    clear s0 s1 s2 s3
    refine hK _ _ ((by obtain ⟨⟨a0, a1, a2⟩, a3⟩ := HBP.out _ ((b, _) :: (H4 ++ Hp)) Fr hH8; exact ⟨a0, a1, a2, a3⟩)) (fun hs2 => ?_); clear hK K hs; have hs := hs2; clear hs2
    refine Z_takeD 7 (some 32) (v := ?_) rfl rfl (by kernel_rfl) (fun _ _ _ h => h) (by rfl) hs ?_ ?_
    rotate_left
    · intro wx hx; obtain ⟨s0, s1, s2, s3⟩ := hx; go_simp; try with_reducible rfl
    simp only [Act.put, List.setIfInBounds_toArray, List.set_cons_succ, List.set_cons_zero]
    refine Z_last 8 rfl (by kernel_rfl) rfl (fun K hK => ?_)
    have ⟨s0, s1, s2, s3⟩ := hs
    go_simp; refine (r18put_any b size pv P ⟨a, false, [(d, false)]⟩ (.slice A4 1 c4) (H4 ++ Hp) _ w4 HL0.out.more HF4.out (by have := HSL.out.1; omega) hH8).mono ?_; rintro e w5 hret; have hret2 : RetR18 b size (putP P ⟨a, false, [(d, false)]⟩) (.tuple #[]) w Hp Fr e w5 := RetR18.more hret (hG6.trans hg7); obtain ⟨rfl, hret3⟩ := hret2; clear hret   -- call w
    clear s0 s1 s2 s3
    refine hK _ _ ?_; clear hK K hs
    refine Z_done (by kernel_rfl) ?_ _
    clear hH8 hG6 hg7
    go_wp2_with fail
    go_ret
    rw [HR.out]
    exact ⟨rfl, hret3⟩
  by_cases hk4 : k = 4
  · have HR := Lib.hid (HPM.out.trans (by rw [if_neg hk1, if_neg hk2, if_pos hk4]))
    subst hk4
    have HPT := Lib.hid (r18put_any b size pv P ⟨a, true, []⟩ (.slice none 0 0) Hp _ _ HL0.out (FrCans.nil _) (by have := HSL.out.1; omega) hH3)
    dsimp only [PV.agg] at HPT
    clear HPM hH3
    go_wp2_with fail
    refine HPT.out.mono ?_
    rintro e w4 hret
    have hret2 : RetR18 b size (putP P ⟨a, true, []⟩) (.tuple #[]) w Hp Fr e w4 := RetR18.more (Hn := []) hret hgp
    obtain ⟨rfl, hret3⟩ := hret2
    clear hret HPT
    go_wp2_with fail
    go_ret
    rw [HR.out]
    exact ⟨rfl, hret3⟩
  by_cases hk5 : k = 5
  · by_cases hl0 : pl.length = 0
    · have HR := Lib.hid (HPM.out.trans (by rw [if_neg hk1, if_neg hk2, if_neg hk4, if_pos hk5, if_pos hl0]))
      subst hk5
      obtain rfl : pl = [] := List.eq_nil_of_length_eq_zero hl0
      simp only [List.length_nil] at *
      clear HPM hH3
      go_wp2_with fail
      go_ret
      rw [HR.out]
      refine ⟨rfl, pv, [], HL0.out, ?_, hgp⟩
      have h : Holds (w1.alloc (.cells #[.int .u64 pa, .bool pn, .slice Al 0 cl] 79)) (((b, .cells #[.int .i64 size, pv] 76) :: Hp) ++ ([(w1.heap.size, (.cells #[.int .u64 pa, .bool pn, .slice Al 0 cl] 79)), (g, ob)] ++ Fr)) := HH3.out
      exact h.mid
    · have HR := Lib.hid (HPM.out.trans (by rw [if_neg hk1, if_neg hk2, if_neg hk4, if_pos hk5, if_neg hl0]))
      have hl0i : ¬ (pl.length : Int) = 0 := by omega
      subst hk5
      clear HPM hH3
      go_upto_region 13 with fail
      generalize w1.alloc (.cells #[.int .u64 pa, .bool pn, .slice Al pl.length cl] 79) = w2 at *
      generalize w1.heap.size = g4 at *
      refine Z_begin (fun wx => wx.cell? ⟨g, 0, none⟩ = some (.int .i64 5) ∧ wx.cell? ⟨g, 1, none⟩ = some (.int .u64 a) ∧ wx.cell? ⟨g, 2, none⟩ = some (.slice Ad d.length cd) ∧ wx.cell? ⟨g4, 2, none⟩ = some (.slice Al pl.length cl)) 7 (by kernel_rfl) (fun w1 hd => (by obtain ⟨⟨a0, a1, a2⟩, a3⟩ := HBP.out _ ((b, _) :: Hp) Fr (HH3.out.dr hd); exact ⟨a0, a1, a2, a3⟩)) (fun w1 hd hs => ?_)
      have hH6 := HH3.out.dr hd; have hG6 := hgp.trans (Grew.dr hd); clear hd
      refine Z_takeD 0 (some 47) (v := ?_) rfl rfl (by kernel_rfl) (fun _ _ _ h => h) (by rfl) hs ?_ ?_
      rotate_left
      · intro wx hx; obtain ⟨s0, s1, s2, s3⟩ := hx; go_simp; try with_reducible rfl
      simp only [Act.put, List.setIfInBounds_toArray, List.set_cons_succ, List.set_cons_zero]
      refine Z_takeD 1 (some 48) (v := ?_) rfl rfl (by kernel_rfl) (fun _ _ _ h => h) (by rfl) hs ?_ ?_
      rotate_left
      · intro wx hx; obtain ⟨s0, s1, s2, s3⟩ := hx; go_simp; try with_reducible rfl
      simp only [Act.put, List.setIfInBounds_toArray, List.set_cons_succ, List.set_cons_zero]
      refine Z_takeD 2 (some 49) (v := ?_) rfl rfl (by kernel_rfl) (fun _ _ _ h => h) (by rfl) hs ?_ ?_
      rotate_left
      · intro wx hx; obtain ⟨s0, s1, s2, s3⟩ := hx; go_simp; try with_reducible rfl
      simp only [Act.put, List.setIfInBounds_toArray, List.set_cons_succ, List.set_cons_zero]
      refine Z_takeD 3 (some 50) (v := ?_) rfl rfl (by kernel_rfl) (fun _ _ _ h => h) (by rfl) hs ?_ ?_
      rotate_left
      · intro wx hx; obtain ⟨s0, s1, s2, s3⟩ := hx; go_simp; try with_reducible rfl
      simp only [Act.put, List.setIfInBounds_toArray, List.set_cons_succ, List.set_cons_zero]
      refine Z_takeD 4 (some 51) (v := ?_) rfl rfl (by kernel_rfl) (fun _ _ _ h => h) (by rfl) hs ?_ ?_
      rotate_left
      · intro wx hx; obtain ⟨s0, s1, s2, s3⟩ := hx; go_simp; try with_reducible rfl
      simp only [Act.put, List.setIfInBounds_toArray, List.set_cons_succ, List.set_cons_zero]
      refine Z_mid 5 rfl (by kernel_rfl) (fun K hK => ?_)
      have ⟨s0, s1, s2, s3⟩ := hs
      go_simp; refine (r18washed_any (.slice Al pl.length cl) pl Hp _ w1 HC.out (by have := HAT.out.1; omega) (fun c hc => by have := HAT.out.2 c hc; omega) (show Holds w1 (Hp ++ ((b, .cells #[.int .i64 size, pv] 76) :: ([(g4, (.cells #[.int .u64 pa, .bool pn, .slice Al pl.length cl] 79)), (g, ob)] ++ Fr))) from hH6.sub (by (repeat' (first | refine sub_append ?_ ?_ | refine sub_cons ?_ ?_ | exact sub_nil)); all_goals first | (intro p hp; simp only [List.mem_append, List.mem_cons, hp, true_or, or_true]) | simp only [List.mem_append, List.mem_cons, true_or, or_true]) (fun b => by simp only [keyc_append, keyc_cons, keyc_nil]; omega))).mono ?_; rintro e w4 ⟨v4, H4, rfl, hf4, hH7, hg7⟩; obtain ⟨A4, c4, hv4, _, _⟩ := hf4.sl hH7; subst hv4; have HF4 := Lib.hid hf4; clear hf4; have hH8 : Holds w4 ((b, .cells #[.int .i64 size, pv] 76) :: ((H4 ++ Hp) ++ ([(g4, (.cells #[.int .u64 pa, .bool pn, .slice Al pl.length cl] 79)), (g, ob)] ++ Fr))) := hH7.sub (by (repeat' (first | refine sub_append ?_ ?_ | refine sub_cons ?_ ?_ | exact sub_nil)); all_goals first | (intro p hp; simp only [List.mem_append, List.mem_cons, hp, true_or, or_true]) | simp only [List.mem_append, List.mem_cons, true_or, or_true]) (fun b => by simp only [keyc_append, keyc_cons, keyc_nil]; omega); clear hH7 hH6   -- call w
      clear s0 s1 s2 s3
      refine hK _ _ ((by obtain ⟨⟨a0, a1, a2⟩, a3⟩ := HBP.out _ ((b, _) :: (H4 ++ Hp)) Fr hH8; exact ⟨a0, a1, a2, a3⟩)) (fun hs2 => ?_); clear hK K hs; have hs := hs2; clear hs2
      refine Z_takeD 6 (some 53) (v := ?_) rfl rfl (by kernel_rfl) (fun _ _ _ h => h) (by rfl) hs ?_ ?_
      rotate_left
      · intro wx hx; obtain ⟨s0, s1, s2, s3⟩ := hx; go_simp; try with_reducible rfl
      simp only [Act.put, List.setIfInBounds_toArray, List.set_cons_succ, List.set_cons_zero]
      refine Z_last 7 rfl (by kernel_rfl) rfl (fun K hK => ?_)
      have ⟨s0, s1, s2, s3⟩ := hs
      go_simp; refine (r18put_any b size pv P ⟨a, false, washedL pl⟩ (.slice A4 (washedL pl).length c4) (H4 ++ Hp) _ w4 HL0.out.more HF4.out (by have := HSL.out.1; omega) hH8).mono ?_; rintro e w5 hret; have hret2 : RetR18 b size (putP P ⟨a, false, washedL pl⟩) (.tuple #[]) w Hp Fr e w5 := RetR18.more hret (hG6.trans hg7); obtain ⟨rfl, hret3⟩ := hret2; clear hret   -- call w
      clear s0 s1 s2 s3
      refine hK _ _ ?_; clear hK K hs
      refine Z_done (by kernel_rfl) ?_ _
      clear hH8 hG6 hg7
      go_wp2_with fail
      go_ret
      rw [HR.out]
      exact ⟨rfl, hret3⟩
  · have HR := Lib.hid (HPM.out.trans (by rw [if_neg hk1, if_neg hk2, if_neg hk4, if_neg hk5]))
    clear HPM hH3
    go_wp2_with fail
    go_ret
    rw [HR.out]
    refine ⟨rfl, pv, [], HL0.out, ?_, hgp⟩
    have h : Holds (w1.alloc (.cells #[.int .u64 pa, .bool pn, .slice Al pl.length cl] 79)) (((b, .cells #[.int .i64 size, pv] 76) :: Hp) ++ ([(w1.heap.size, (.cells #[.int .u64 pa, .bool pn, .slice Al pl.length cl] 79)), (g, ob)] ++ Fr)) := HH3.out
    exact h.mid
def gotP (P : List PV) (a : Int) (d : List UInt8) (y : Bool) : Bool × List PV := if (d, y) ∈ (atP P a).l then (true, putP P ⟨a, false, [(d, y)]⟩) else (false, P)
def GotTo (L : List CB) (c : CB) (w : World) (i : Value) (wr : World) : Prop := ∃ k q : Nat, i = .int .i64 k ∧ k ≤ L.length ∧ c ∉ L.take k ∧ wr = w.drewN q
set_option maxRecDepth 20000 in
set_option maxHeartbeats 8000000 in
theorem r18got_any (b : Nat) (size : Int) (pv : Value) (P : List PV) (a : Int) (r : RV) (rdv : Value) (A2 : Option Addr) (c2 : Nat) (Hp Fr : HL) (w : World) (hl : FrPlaces Hp pv P) (hs : SmP P) (hd : FrBytes Hp rdv r.d) (hH : Holds w ((b, .cells #[.int .i64 size, pv] 76) :: (Hp ++ Fr))) :
    Calls Try.prog 45 #[.pointer (some ⟨b, 0, none⟩), .int .u64 a, r.agg rdv (.slice A2 r.z.length c2)] w (RetR18 b size (gotP P a r.d r.y).2 (.bool (gotP P a r.d r.y).1) w Hp Fr) := by
  have HL0 := Lib.hid hl
  have HD := Lib.hid hd
  have HAT := Lib.hid (hs.at_ a)
  have HSL := Lib.hid hs
  have HPM := Lib.hid (show gotP P a r.d r.y = if (r.d, r.y) ∈ (atP P a).l then (true, putP P ⟨a, false, [(r.d, r.y)]⟩) else (false, P) from rfl)
  generalize gotP P a r.d r.y = res at *
  obtain ⟨Ad, cd, hdv⟩ := hd.sl hH.tail
  subst hdv
  have HATC := Lib.hid (fun (wx : World) (F : HL) (h : Holds wx ((b, .cells #[.int .i64 size, pv] 76) :: (Hp ++ F))) => r18at_any b size pv P a Hp F wx hl h)
  obtain ⟨rk, rc, d, y, z⟩ := r
  dsimp only [RV.agg] at *
  have hH1 : Holds (w.alloc (.cells #[.int .i64 rk, .int .i64 rc, .slice Ad d.length cd, .bool y, .slice A2 z.length c2] 34)) ((b, .cells #[.int .i64 size, pv] 76) :: (Hp ++ ((w.heap.size, (.cells #[.int .i64 rk, .int .i64 rc, .slice Ad d.length cd, .bool y, .slice A2 z.length c2] 34)) :: Fr))) := (hH.alloc _).sub (by (repeat' (first | refine sub_append ?_ ?_ | refine sub_cons ?_ ?_ | exact sub_nil)); all_goals first | (intro p hp; simp only [List.mem_append, List.mem_cons, hp, true_or, or_true]) | simp only [List.mem_append, List.mem_cons, true_or, or_true]) (fun b => by simp only [keyc_append, keyc_cons, keyc_nil]; omega)
  have hg1 := (Grew.refl w).alloc (.cells #[.int .i64 rk, .int .i64 rc, .slice Ad d.length cd, .bool y, .slice A2 z.length c2] 34)
  have HC1 := Lib.hid (HATC.out _ _ hH1)
  clear hl hs hd hH HATC
  go_enter Try.func45, Try.ntmps45
  go_wp2_with fail
  refine HC1.out.mono ?_
  generalize w.alloc (.cells #[.int .i64 rk, .int .i64 rc, .slice Ad d.length cd, .bool y, .slice A2 z.length c2] 34) = w0 at *
  generalize w.heap.size = g at *
  rintro e w1 ⟨lv, rfl, hc1, hH2, hg2⟩
  have hg3 := hg1.trans hg2
  generalize atP P a = p at *
  obtain ⟨pa, pn, pl⟩ := p
  dsimp only [PV.agg] at *
  obtain ⟨E, hE, hE2⟩ := hc1
  have HCE := Lib.hid hE2
  have HLE : Hid (E.map (·.2) = pl) := Lib.hid hE
  have hlen : E.length = pl.length := by rw [← hE, List.length_map]
  obtain ⟨Al, cl, hlv, hnc, hcm⟩ := hE2.1.val hH2.tail
  rw [hlen] at hlv hnc
  subst hlv
  unfold maxLen at hcm
  have hH3 : Holds (w1.alloc (.cells #[.int .u64 pa, .bool pn, .slice Al pl.length cl] 79)) ((b, .cells #[.int .i64 size, pv] 76) :: (Hp ++ ([(w1.heap.size, (.cells #[.int .u64 pa, .bool pn, .slice Al pl.length cl] 79)), (g, (.cells #[.int .i64 rk, .int .i64 rc, .slice Ad d.length cd, .bool y, .slice A2 z.length c2] 34))] ++ Fr))) := (hH2.alloc (.cells #[.int .u64 pa, .bool pn, .slice Al pl.length cl] 79)).sub (by (repeat' (first | refine sub_append ?_ ?_ | refine sub_cons ?_ ?_ | exact sub_nil)); all_goals first | (intro p hp; simp only [List.mem_append, List.mem_cons, hp, true_or, or_true]) | simp only [List.mem_append, List.mem_cons, true_or, or_true]) (fun b => by simp only [keyc_append, keyc_cons, keyc_nil]; omega)
  have hgp := hg3.alloc (.cells #[.int .u64 pa, .bool pn, .slice Al pl.length cl] 79)
  have hX : Holds (w1.alloc (.cells #[.int .u64 pa, .bool pn, .slice Al pl.length cl] 79)) (((b, .cells #[.int .i64 size, pv] 76) :: Hp) ++ ([(w1.heap.size, (.cells #[.int .u64 pa, .bool pn, .slice Al pl.length cl] 79)), (g, (.cells #[.int .i64 rk, .int .i64 rc, .slice Ad d.length cd, .bool y, .slice A2 z.length c2] 34))] ++ Fr)) := hH3
  have p0 := hX.right.tail.hcell 2
  have p1 := hX.right.tail.hcell 3
  have p2 := hX.right.hcell 2
  have HH3 := Lib.hid hH3
  clear hE hE2 hH2 hg1 hg2 hg3 HC1 hH3 hX
  go_wp2_with fail
  generalize w1.alloc (.cells #[.int .u64 pa, .bool pn, .slice Al pl.length cl] 79) = w2 at *
  generalize w1.heap.size = g4 at *
  go_loopw [8] (fun i wr => GotTo pl (d, y) w2 i wr) (fun i _ => pl.length - (intOf i).toNat)
  case atStart => exact ⟨0, 0, rfl, by omega, by simp, rfl⟩
  case round =>
    obtain ⟨k, q, rfl, hk, hnm, rfl⟩ := hrel
    have HNM := Lib.hid hnm
    clear hnm
    by_cases hlt : k < pl.length
    · have hkE : k < E.length := by omega
      obtain ⟨b1, o, c', hv, hc1, hc2, hcl⟩ := HCE.out.get HH3.out.tail k hkE
      rw [hlen] at hv
      injection hv with e1 e2 e3
      subst e1 e3
      clear e2
      obtain ⟨c0, c1⟩ := hcl w2 _ HH3.out.tail
      have hLk : E[k].2 = pl[k] := by
        have : (E.map (·.2))[k]'(by simpa using hkE) = pl[k] := by simp only [HLE.out]
        simpa using this
      have hfb := HCE.out.2 E[k] (List.getElem_mem hkE)
      rw [hLk] at hfb c1 hcl
      have HFB := Lib.hid hfb
      obtain ⟨Ax, cx, hxv⟩ := hfb.sl HH3.out.tail
      rw [hxv] at c0 HFB hcl
      have hcv1 : ∀ q, (convert 28 9 (.slice Ax pl[k].1.length cx)).run Try.prog (w2.drewN q) = .ok (.string ⟨pl[k].1.toArray⟩) (w2.drewN q) := fun q => conv18 (ReadsAt.drewN (HFB.out w2 HH3.out.tail.left) q)
      have hcv2 : ∀ q, (convert 28 9 (.slice Ad d.length cd)).run Try.prog (w2.drewN q) = .ok (.string ⟨d.toArray⟩) (w2.drewN q) := fun q => conv18 (ReadsAt.drewN (HD.out w2 HH3.out.tail.left) q)
      have HT := Lib.hid (List.take_succ_eq_append_getElem hlt)
      have HM := Lib.hid (List.getElem_mem hlt)
      have HCL := Lib.hid hcl
      clear hcl hfb hxv hLk
      generalize pl[k] = xz at *
      obtain ⟨x, zz⟩ := xz
      dsimp only at c0 c1 hcv1 HFB HCL
      by_cases hz : zz = y
      · subst hz
        by_cases hx : x = d
        · subst hx
          have HR := Lib.hid (HPM.out.trans (if_pos HM.out))
          have hHq : Holds ((w2.drewN q)) ((b, .cells #[.int .i64 size, pv] 76) :: (Hp ++ ([(g4, .cells #[.int .u64 pa, .bool pn, .slice (some ⟨b1, o, none⟩) pl.length cl] 79), (g, .cells #[.int .i64 rk, .int .i64 rc, .slice Ad x.length cd, .bool zz, .slice A2 z.length c2] 34)] ++ Fr))) := HH3.out.drewN q
          clear HT HM HPM
          go_wp2_with fail
          go_quiet (fail)
          have hH5 := hHq.drewN nq
          have hg5 := (hgp.drewN q).drewN nq
          have hX5 : Holds ((w2.drewN q).drewN nq) (((b, .cells #[.int .i64 size, pv] 76) :: Hp) ++ ([(g4, .cells #[.int .u64 pa, .bool pn, .slice (some ⟨b1, o, none⟩) pl.length cl] 79), (g, .cells #[.int .i64 rk, .int .i64 rc, .slice Ad x.length cd, .bool zz, .slice A2 z.length c2] 34)] ++ Fr)) := hH5
          generalize (w2.drewN q).drewN nq = w5 at *
          clear p0 p1 p2 c0 c1 hcv1 hcv2 hHq
          have p2 := hX5.right.hcell 2
          obtain ⟨c0, c1⟩ := HCL.out w5 _ hH5.tail
          have hH6 : Holds (w5.alloc (.cells #[.slice Ax x.length cx, .bool zz] 81)) ((b, .cells #[.int .i64 size, pv] 76) :: (([(w5.heap.size, .cells #[.slice Ax x.length cx, .bool zz] 81)] ++ Hp) ++ ([(g4, .cells #[.int .u64 pa, .bool pn, .slice (some ⟨b1, o, none⟩) pl.length cl] 79), (g, .cells #[.int .i64 rk, .int .i64 rc, .slice Ad x.length cd, .bool zz, .slice A2 z.length c2] 34)] ++ Fr))) := (hH5.alloc _).sub (by (repeat' (first | refine sub_append ?_ ?_ | refine sub_cons ?_ ?_ | exact sub_nil)); all_goals first | (intro p hp; simp only [List.mem_append, List.mem_cons, hp, true_or, or_true]) | simp only [List.mem_append, List.mem_cons, true_or, or_true]) (fun b => by simp only [keyc_append, keyc_cons, keyc_nil]; omega)
          have hfc : FrCans ([(w5.heap.size, .cells #[.slice Ax x.length cx, .bool zz] 81)] ++ Hp) (.slice (some ⟨w5.heap.size, 0, none⟩) 1 1) [(x, zz)] := ⟨[(.slice Ax x.length cx, (x, zz))], rfl, fun wx hx => ReadsAt.of_block (n := 1) (c := 1) (o := 0) (size := 2) (hx.get (b := w5.heap.size) (o := .cells #[.slice Ax x.length cx, .bool zz] 81) (by simp)) [.slice Ax x.length cx, .bool zz] rfl (by omega) (by simp [maxLen]) (by intro j u hu; simpa using hu), fun e he => by rw [List.mem_singleton.1 he]; exact HFB.out.right⟩
          have hg6 := hg5.alloc (.cells #[.slice Ax x.length cx, .bool zz] 81)
          have HPT := Lib.hid (r18put_any b size pv P ⟨a, false, [(x, zz)]⟩ (.slice (some ⟨w5.heap.size, 0, none⟩) 1 1) ([(w5.heap.size, .cells #[.slice Ax x.length cx, .bool zz] 81)] ++ Hp) _ _ HL0.out.more hfc (by have := HSL.out.1; omega) hH6)
          dsimp only [PV.agg] at HPT
          clear hH5 hX5 hH6 hfc
          go_wp2_with fail
          refine HPT.out.mono ?_
          rintro e w6 hret
          have hret2 : RetR18 b size (putP P ⟨a, false, [(x, zz)]⟩) (.tuple #[]) w Hp Fr e w6 := RetR18.more hret hg6
          obtain ⟨rfl, hret3⟩ := hret2
          clear hret HPT
          go_wp2_with fail
          go_ret
          rw [HR.out]
          exact ⟨rfl, hret3⟩
        · have HX := Lib.hid hx
          have e1 : (x == d) = false := by simpa using hx
          go_wp2_with fail
          go_quiet (fail)
          go_wp2_with fail
          go_roundw
          case rel =>
            refine ⟨k + 1, q + nq, by go_num, by omega, ?_, rfl⟩
            rw [HT.out]
            intro hm
            rcases List.mem_append.1 hm with hm | hm
            · exact HNM.out hm
            · rw [List.mem_singleton] at hm; exact HX.out (congrArg Prod.fst hm).symm
          case measure => simp [intOf]; omega
      · have HX := Lib.hid hz
        go_wp2_with fail
        go_quiet (fail)
        go_wp2_with fail
        go_roundw
        case rel =>
          refine ⟨k + 1, q + nq, by go_num, by omega, ?_, rfl⟩
          rw [HT.out]
          intro hm
          rcases List.mem_append.1 hm with hm | hm
          · exact HNM.out hm
          · rw [List.mem_singleton] at hm; exact HX.out (congrArg Prod.snd hm).symm
        case measure => simp [intOf]; omega
    · have hk2 : k = pl.length := by omega
      have HR := Lib.hid (HPM.out.trans (if_neg (by have h := HNM.out; rw [hk2, List.take_length] at h; exact h)))
      subst hk2
      clear HNM
      go_wp2_with fail
      go_ret
      rw [HR.out]
      refine ⟨rfl, pv, [], HL0.out, ?_, hgp.drewN q⟩
      have h : Holds (w2.drewN q) (((b, .cells #[.int .i64 size, pv] 76) :: Hp) ++ ([(g4, (.cells #[.int .u64 pa, .bool pn, .slice Al pl.length cl] 79)), (g, (.cells #[.int .i64 rk, .int .i64 rc, .slice Ad d.length cd, .bool y, .slice A2 z.length c2] 34))] ++ Fr)) := HH3.out.drewN q
      exact h.mid
def refP (P : List PV) (o : OV) (c : Int) : Bool × List PV :=
  if c = 4 then (true, darkP P o)
  else if (c = 7 ∨ c = 5 ∨ c = 10) ∧ (o.k = 1 ∨ o.k = 2 ∨ o.k = 4 ∨ o.k = 5) ∨ c = 5 ∧ o.k = 3 then (true, P)
  else if c = 8 ∧ (o.k = 3 ∨ o.k = 5) ∧ (atP P o.a).n = true then (true, putP P ⟨o.a, true, []⟩)
  else (false, P)
set_option maxRecDepth 20000 in
set_option maxHeartbeats 16000000 in
theorem r18ref_any (b : Nat) (size : Int) (pv : Value) (P : List PV) (o : OV) (dv : Value) (c : Int) (Hp Fr : HL) (w : World) (hl : FrPlaces Hp pv P) (hs : SmP P) (hd : FrBytes Hp dv o.d) (hdl : o.d.length ≤ 1000) (hH : Holds w ((b, .cells #[.int .i64 size, pv] 76) :: (Hp ++ Fr))) :
    Calls Try.prog 43 #[.pointer (some ⟨b, 0, none⟩), o.agg dv, .int .i64 c] w (RetR18 b size (refP P o c).2 (.bool (refP P o c).1) w Hp Fr) := by
  have HL0 := Lib.hid hl
  have HSL := Lib.hid hs
  have HPM := Lib.hid (show refP P o c = if c = 4 then (true, darkP P o)
  else if (c = 7 ∨ c = 5 ∨ c = 10) ∧ (o.k = 1 ∨ o.k = 2 ∨ o.k = 4 ∨ o.k = 5) ∨ c = 5 ∧ o.k = 3 then (true, P)
  else if c = 8 ∧ (o.k = 3 ∨ o.k = 5) ∧ (atP P o.a).n = true then (true, putP P ⟨o.a, true, []⟩)
  else (false, P) from rfl)
  generalize refP P o c = res at *
  obtain ⟨Ad, cd, hdv⟩ := hd.sl hH.tail
  subst hdv
  have HATC := Lib.hid (fun (wx : World) (F : HL) (h : Holds wx ((b, .cells #[.int .i64 size, pv] 76) :: (Hp ++ F))) => r18at_any b size pv P o.a Hp F wx hl h)
  have HDK := Lib.hid (fun (wx : World) (F : HL) (h : Holds wx ((b, .cells #[.int .i64 size, pv] 76) :: (Hp ++ F))) => r18dark_any b size pv P o (.slice Ad o.d.length cd) Hp F wx hl hs hd hdl h)
  generalize hdk : darkP P o = dk at *
  obtain ⟨k, a, d, m⟩ := o
  dsimp only [OV.agg] at *
  have hH1 : Holds (w.alloc (.cells #[.int .i64 k, .int .u64 a, .slice Ad d.length cd, .int .i64 m] 31)) ((b, .cells #[.int .i64 size, pv] 76) :: (Hp ++ ((w.heap.size, (.cells #[.int .i64 k, .int .u64 a, .slice Ad d.length cd, .int .i64 m] 31)) :: Fr))) := (hH.alloc _).sub (by (repeat' (first | refine sub_append ?_ ?_ | refine sub_cons ?_ ?_ | exact sub_nil)); all_goals first | (intro p hp; simp only [List.mem_append, List.mem_cons, hp, true_or, or_true]) | simp only [List.mem_append, List.mem_cons, true_or, or_true]) (fun b => by simp only [keyc_append, keyc_cons, keyc_nil]; omega)
  have hg1 := (Grew.refl w).alloc (.cells #[.int .i64 k, .int .u64 a, .slice Ad d.length cd, .int .i64 m] 31)
  have HB : Hid (∀ (wx : World) (X F : HL), Holds wx (X ++ ((w.heap.size, (.cells #[.int .i64 k, .int .u64 a, .slice Ad d.length cd, .int .i64 m] 31)) :: F)) → wx.cell? ⟨w.heap.size, 0, none⟩ = some (.int .i64 k) ∧ wx.cell? ⟨w.heap.size, 1, none⟩ = some (.int .u64 a) ∧ wx.cell? ⟨w.heap.size, 2, none⟩ = some (.slice Ad d.length cd) ∧ wx.cell? ⟨w.heap.size, 3, none⟩ = some (.int .i64 m)) := Lib.hid (fun wx X F h => ⟨h.right.hcell 0, h.right.hcell 1, h.right.hcell 2, h.right.hcell 3⟩)
  obtain ⟨q0, q1, q2, q3⟩ := HB.out _ ((b, _) :: Hp) Fr (by simpa using hH1)
  have HC1 := Lib.hid (HATC.out _ _ hH1)
  clear hl hs hd hdl hH hH1 HATC hdk
  go_enter Try.func43, Try.ntmps43
  go_wp2_with fail
  refine HC1.out.mono ?_
  generalize w.alloc (.cells #[.int .i64 k, .int .u64 a, .slice Ad d.length cd, .int .i64 m] 31) = w0 at *
  generalize w.heap.size = g at *
  generalize (Obj.cells #[.int .i64 k, .int .u64 a, .slice Ad d.length cd, .int .i64 m] 31) = ob at *
  rintro e w1 ⟨lv, rfl, hc1, hH2, hg2⟩
  have hg3 := hg1.trans hg2
  generalize atP P a = p at *
  obtain ⟨pa, pn, pl⟩ := p
  dsimp only [PV.agg] at *
  obtain ⟨Al, cl, hlv, _, _⟩ := hc1.sl hH2.tail
  subst hlv
  have hH3 : Holds (w1.alloc (.cells #[.int .u64 pa, .bool pn, .slice Al pl.length cl] 79)) ((b, .cells #[.int .i64 size, pv] 76) :: (Hp ++ ([(w1.heap.size, (.cells #[.int .u64 pa, .bool pn, .slice Al pl.length cl] 79)), (g, ob)] ++ Fr))) := (hH2.alloc (.cells #[.int .u64 pa, .bool pn, .slice Al pl.length cl] 79)).sub (by (repeat' (first | refine sub_append ?_ ?_ | refine sub_cons ?_ ?_ | exact sub_nil)); all_goals first | (intro p hp; simp only [List.mem_append, List.mem_cons, hp, true_or, or_true]) | simp only [List.mem_append, List.mem_cons, true_or, or_true]) (fun b => by simp only [keyc_append, keyc_cons, keyc_nil]; omega)
  have hgp := hg3.alloc (.cells #[.int .u64 pa, .bool pn, .slice Al pl.length cl] 79)
  obtain ⟨q0, q1, q2, q3⟩ := HB.out (w1.alloc (.cells #[.int .u64 pa, .bool pn, .slice Al pl.length cl] 79)) ((b, _) :: (Hp ++ [(w1.heap.size, (.cells #[.int .u64 pa, .bool pn, .slice Al pl.length cl] 79))])) Fr (by simpa using hH3)
  have HDC := Lib.hid (HDK.out _ _ hH3)
  have HPC := Lib.hid (r18put_any b size pv P ⟨a, true, []⟩ (.slice none 0 0) Hp _ _ HL0.out (FrCans.nil _) (by have := HSL.out.1; omega) hH3)
  have HNO : Hid (RetR18 b size P (.bool false) w Hp Fr (.returned (.bool false)) (w1.alloc (.cells #[.int .u64 pa, .bool pn, .slice Al pl.length cl] 79)) ∧ RetR18 b size P (.bool true) w Hp Fr (.returned (.bool true)) (w1.alloc (.cells #[.int .u64 pa, .bool pn, .slice Al pl.length cl] 79))) := Lib.hid (by
    have h : Holds (w1.alloc (.cells #[.int .u64 pa, .bool pn, .slice Al pl.length cl] 79)) (((b, .cells #[.int .i64 size, pv] 76) :: Hp) ++ ([(w1.heap.size, (.cells #[.int .u64 pa, .bool pn, .slice Al pl.length cl] 79)), (g, ob)] ++ Fr)) := hH3
    exact ⟨⟨rfl, pv, [], HL0.out, h.mid, hgp⟩, ⟨rfl, pv, [], HL0.out, h.mid, hgp⟩⟩)
  have HMD : Hid (∀ e w4, RetR18 b size dk (.tuple #[]) (w1.alloc (.cells #[.int .u64 pa, .bool pn, .slice Al pl.length cl] 79)) Hp ([(w1.heap.size, (.cells #[.int .u64 pa, .bool pn, .slice Al pl.length cl] 79)), (g, ob)] ++ Fr) e w4 → RetR18 b size dk (.tuple #[]) w Hp Fr e w4) := Lib.hid (fun e w4 h => RetR18.more (Hn := []) h hgp)
  have HMP : Hid (∀ e w4, RetR18 b size (putP P ⟨a, true, []⟩) (.tuple #[]) (w1.alloc (.cells #[.int .u64 pa, .bool pn, .slice Al pl.length cl] 79)) Hp ([(w1.heap.size, (.cells #[.int .u64 pa, .bool pn, .slice Al pl.length cl] 79)), (g, ob)] ++ Fr) e w4 → RetR18 b size (putP P ⟨a, true, []⟩) (.tuple #[]) w Hp Fr e w4) := Lib.hid (fun e w4 h => RetR18.more (Hn := []) h hgp)
  dsimp only [PV.agg] at HPC
  clear hc1 hH2 hg1 hg2 hg3 HC1 HDK hH3
  by_cases hk1 : k = 1
  · subst hk1
    by_cases hc4 : c = 4
    · subst hc4
      have HR := Lib.hid (HPM.out.trans (if_pos rfl))
      clear HPM HNO HMP HPC
      go_wp2_with fail
      refine HDC.out.mono ?_
      rintro e w4 hret
      obtain ⟨rfl, hret3⟩ := HMD.out _ _ hret
      clear hret HDC
      go_wp2_with fail
      go_ret
      rw [HR.out]
      exact ⟨rfl, hret3⟩
    by_cases hc7 : c = 7
    · subst hc7
      have HR := Lib.hid (show res = (true, P) from HPM.out.trans (by simp))
      clear HPM HDC HMD HMP HPC
      go_wp2_with fail
      go_ret
      rw [HR.out]
      exact HNO.out.2
    by_cases hc5 : c = 5
    · subst hc5
      have HR := Lib.hid (show res = (true, P) from HPM.out.trans (by simp))
      clear HPM HDC HMD HMP HPC
      go_wp2_with fail
      go_ret
      rw [HR.out]
      exact HNO.out.2
    by_cases hc10 : c = 10
    · subst hc10
      have HR := Lib.hid (show res = (true, P) from HPM.out.trans (by simp))
      clear HPM HDC HMD HMP HPC
      go_wp2_with fail
      go_ret
      rw [HR.out]
      exact HNO.out.2
    by_cases hc8 : c = 8
    · subst hc8
      have HR := Lib.hid (show res = (false, P) from HPM.out.trans (by simp))
      clear HPM HDC HMD HMP HPC
      go_wp2_with fail
      go_ret
      rw [HR.out]
      exact HNO.out.1
    have ec4 : (c == 4) = false := by simpa using hc4
    have ec7 : (c == 7) = false := by simpa using hc7
    have ec5 : (c == 5) = false := by simpa using hc5
    have ec10 : (c == 10) = false := by simpa using hc10
    have ec8 : (c == 8) = false := by simpa using hc8
    have HR := Lib.hid (show res = (false, P) from HPM.out.trans (by simp [hc4, hc7, hc5, hc10, hc8]))
    clear HPM HDC HMD HMP HPC
    go_wp2_with fail
    go_ret
    rw [HR.out]
    exact HNO.out.1
  by_cases hk2 : k = 2
  · subst hk2
    by_cases hc4 : c = 4
    · subst hc4
      have HR := Lib.hid (HPM.out.trans (if_pos rfl))
      clear HPM HNO HMP HPC
      go_wp2_with fail
      refine HDC.out.mono ?_
      rintro e w4 hret
      obtain ⟨rfl, hret3⟩ := HMD.out _ _ hret
      clear hret HDC
      go_wp2_with fail
      go_ret
      rw [HR.out]
      exact ⟨rfl, hret3⟩
    by_cases hc7 : c = 7
    · subst hc7
      have HR := Lib.hid (show res = (true, P) from HPM.out.trans (by simp))
      clear HPM HDC HMD HMP HPC
      go_wp2_with fail
      go_ret
      rw [HR.out]
      exact HNO.out.2
    by_cases hc5 : c = 5
    · subst hc5
      have HR := Lib.hid (show res = (true, P) from HPM.out.trans (by simp))
      clear HPM HDC HMD HMP HPC
      go_wp2_with fail
      go_ret
      rw [HR.out]
      exact HNO.out.2
    by_cases hc10 : c = 10
    · subst hc10
      have HR := Lib.hid (show res = (true, P) from HPM.out.trans (by simp))
      clear HPM HDC HMD HMP HPC
      go_wp2_with fail
      go_ret
      rw [HR.out]
      exact HNO.out.2
    by_cases hc8 : c = 8
    · subst hc8
      have HR := Lib.hid (show res = (false, P) from HPM.out.trans (by simp))
      clear HPM HDC HMD HMP HPC
      go_wp2_with fail
      go_ret
      rw [HR.out]
      exact HNO.out.1
    have ec4 : (c == 4) = false := by simpa using hc4
    have ec7 : (c == 7) = false := by simpa using hc7
    have ec5 : (c == 5) = false := by simpa using hc5
    have ec10 : (c == 10) = false := by simpa using hc10
    have ec8 : (c == 8) = false := by simpa using hc8
    have HR := Lib.hid (show res = (false, P) from HPM.out.trans (by simp [hc4, hc7, hc5, hc10, hc8]))
    clear HPM HDC HMD HMP HPC
    go_wp2_with fail
    go_ret
    rw [HR.out]
    exact HNO.out.1
  by_cases hk4 : k = 4
  · subst hk4
    by_cases hc4 : c = 4
    · subst hc4
      have HR := Lib.hid (HPM.out.trans (if_pos rfl))
      clear HPM HNO HMP HPC
      go_wp2_with fail
      refine HDC.out.mono ?_
      rintro e w4 hret
      obtain ⟨rfl, hret3⟩ := HMD.out _ _ hret
      clear hret HDC
      go_wp2_with fail
      go_ret
      rw [HR.out]
      exact ⟨rfl, hret3⟩
    by_cases hc7 : c = 7
    · subst hc7
      have HR := Lib.hid (show res = (true, P) from HPM.out.trans (by simp))
      clear HPM HDC HMD HMP HPC
      go_wp2_with fail
      go_ret
      rw [HR.out]
      exact HNO.out.2
    by_cases hc5 : c = 5
    · subst hc5
      have HR := Lib.hid (show res = (true, P) from HPM.out.trans (by simp))
      clear HPM HDC HMD HMP HPC
      go_wp2_with fail
      go_ret
      rw [HR.out]
      exact HNO.out.2
    by_cases hc10 : c = 10
    · subst hc10
      have HR := Lib.hid (show res = (true, P) from HPM.out.trans (by simp))
      clear HPM HDC HMD HMP HPC
      go_wp2_with fail
      go_ret
      rw [HR.out]
      exact HNO.out.2
    by_cases hc8 : c = 8
    · subst hc8
      have HR := Lib.hid (show res = (false, P) from HPM.out.trans (by simp))
      clear HPM HDC HMD HMP HPC
      go_wp2_with fail
      go_ret
      rw [HR.out]
      exact HNO.out.1
    have ec4 : (c == 4) = false := by simpa using hc4
    have ec7 : (c == 7) = false := by simpa using hc7
    have ec5 : (c == 5) = false := by simpa using hc5
    have ec10 : (c == 10) = false := by simpa using hc10
    have ec8 : (c == 8) = false := by simpa using hc8
    have HR := Lib.hid (show res = (false, P) from HPM.out.trans (by simp [hc4, hc7, hc5, hc10, hc8]))
    clear HPM HDC HMD HMP HPC
    go_wp2_with fail
    go_ret
    rw [HR.out]
    exact HNO.out.1
  by_cases hk5 : k = 5
  · subst hk5
    by_cases hc4 : c = 4
    · subst hc4
      have HR := Lib.hid (HPM.out.trans (if_pos rfl))
      clear HPM HNO HMP HPC
      go_wp2_with fail
      refine HDC.out.mono ?_
      rintro e w4 hret
      obtain ⟨rfl, hret3⟩ := HMD.out _ _ hret
      clear hret HDC
      go_wp2_with fail
      go_ret
      rw [HR.out]
      exact ⟨rfl, hret3⟩
    by_cases hc7 : c = 7
    · subst hc7
      have HR := Lib.hid (show res = (true, P) from HPM.out.trans (by simp))
      clear HPM HDC HMD HMP HPC
      go_wp2_with fail
      go_ret
      rw [HR.out]
      exact HNO.out.2
    by_cases hc5 : c = 5
    · subst hc5
      have HR := Lib.hid (show res = (true, P) from HPM.out.trans (by simp))
      clear HPM HDC HMD HMP HPC
      go_wp2_with fail
      go_ret
      rw [HR.out]
      exact HNO.out.2
    by_cases hc10 : c = 10
    · subst hc10
      have HR := Lib.hid (show res = (true, P) from HPM.out.trans (by simp))
      clear HPM HDC HMD HMP HPC
      go_wp2_with fail
      go_ret
      rw [HR.out]
      exact HNO.out.2
    by_cases hc8 : c = 8
    · subst hc8
      cases pn with
      | true =>
        have HR := Lib.hid (show res = (true, putP P ⟨a, true, []⟩) from HPM.out.trans (by simp))
        clear HPM HNO HDC HMD
        go_wp2_with fail
        refine HPC.out.mono ?_
        rintro e w4 hret
        obtain ⟨rfl, hret3⟩ := HMP.out _ _ hret
        clear hret HPC
        go_wp2_with fail
        go_ret
        rw [HR.out]
        exact ⟨rfl, hret3⟩
      | false =>
        have HR := Lib.hid (show res = (false, P) from HPM.out.trans (by simp))
        clear HPM HDC HMD HMP HPC
        go_wp2_with fail
        go_ret
        rw [HR.out]
        exact HNO.out.1
    have ec4 : (c == 4) = false := by simpa using hc4
    have ec7 : (c == 7) = false := by simpa using hc7
    have ec5 : (c == 5) = false := by simpa using hc5
    have ec10 : (c == 10) = false := by simpa using hc10
    have ec8 : (c == 8) = false := by simpa using hc8
    have HR := Lib.hid (show res = (false, P) from HPM.out.trans (by simp [hc4, hc7, hc5, hc10, hc8]))
    clear HPM HDC HMD HMP HPC
    go_wp2_with fail
    go_ret
    rw [HR.out]
    exact HNO.out.1
  by_cases hk3 : k = 3
  · subst hk3
    by_cases hc4 : c = 4
    · subst hc4
      have HR := Lib.hid (HPM.out.trans (if_pos rfl))
      clear HPM HNO HMP HPC
      go_wp2_with fail
      refine HDC.out.mono ?_
      rintro e w4 hret
      obtain ⟨rfl, hret3⟩ := HMD.out _ _ hret
      clear hret HDC
      go_wp2_with fail
      go_ret
      rw [HR.out]
      exact ⟨rfl, hret3⟩
    by_cases hc7 : c = 7
    · subst hc7
      have HR := Lib.hid (show res = (false, P) from HPM.out.trans (by simp))
      clear HPM HDC HMD HMP HPC
      go_wp2_with fail
      go_ret
      rw [HR.out]
      exact HNO.out.1
    by_cases hc5 : c = 5
    · subst hc5
      have HR := Lib.hid (show res = (true, P) from HPM.out.trans (by simp))
      clear HPM HDC HMD HMP HPC
      go_wp2_with fail
      go_ret
      rw [HR.out]
      exact HNO.out.2
    by_cases hc10 : c = 10
    · subst hc10
      have HR := Lib.hid (show res = (false, P) from HPM.out.trans (by simp))
      clear HPM HDC HMD HMP HPC
      go_wp2_with fail
      go_ret
      rw [HR.out]
      exact HNO.out.1
    by_cases hc8 : c = 8
    · subst hc8
      cases pn with
      | true =>
        have HR := Lib.hid (show res = (true, putP P ⟨a, true, []⟩) from HPM.out.trans (by simp))
        clear HPM HNO HDC HMD
        go_wp2_with fail
        refine HPC.out.mono ?_
        rintro e w4 hret
        obtain ⟨rfl, hret3⟩ := HMP.out _ _ hret
        clear hret HPC
        go_wp2_with fail
        go_ret
        rw [HR.out]
        exact ⟨rfl, hret3⟩
      | false =>
        have HR := Lib.hid (show res = (false, P) from HPM.out.trans (by simp))
        clear HPM HDC HMD HMP HPC
        go_wp2_with fail
        go_ret
        rw [HR.out]
        exact HNO.out.1
    have ec4 : (c == 4) = false := by simpa using hc4
    have ec7 : (c == 7) = false := by simpa using hc7
    have ec5 : (c == 5) = false := by simpa using hc5
    have ec10 : (c == 10) = false := by simpa using hc10
    have ec8 : (c == 8) = false := by simpa using hc8
    have HR := Lib.hid (show res = (false, P) from HPM.out.trans (by simp [hc4, hc7, hc5, hc10, hc8]))
    clear HPM HDC HMD HMP HPC
    go_wp2_with fail
    go_ret
    rw [HR.out]
    exact HNO.out.1
  have ek1 : (k == 1) = false := by simpa using hk1
  have ek2 : (k == 2) = false := by simpa using hk2
  have ek4 : (k == 4) = false := by simpa using hk4
  have ek5 : (k == 5) = false := by simpa using hk5
  have ek3 : (k == 3) = false := by simpa using hk3
  by_cases hc4 : c = 4
  · subst hc4
    have HR := Lib.hid (HPM.out.trans (if_pos rfl))
    clear HPM HNO HMP HPC
    go_wp2_with fail
    refine HDC.out.mono ?_
    rintro e w4 hret
    obtain ⟨rfl, hret3⟩ := HMD.out _ _ hret
    clear hret HDC
    go_wp2_with fail
    go_ret
    rw [HR.out]
    exact ⟨rfl, hret3⟩
  by_cases hc7 : c = 7
  · subst hc7
    have HR := Lib.hid (show res = (false, P) from HPM.out.trans (by simp [hk1, hk2, hk4, hk5, hk3]))
    clear HPM HDC HMD HMP HPC
    go_wp2_with fail
    go_ret
    rw [HR.out]
    exact HNO.out.1
  by_cases hc5 : c = 5
  · subst hc5
    have HR := Lib.hid (show res = (false, P) from HPM.out.trans (by simp [hk1, hk2, hk4, hk5, hk3]))
    clear HPM HDC HMD HMP HPC
    go_wp2_with fail
    go_ret
    rw [HR.out]
    exact HNO.out.1
  by_cases hc10 : c = 10
  · subst hc10
    have HR := Lib.hid (show res = (false, P) from HPM.out.trans (by simp [hk1, hk2, hk4, hk5, hk3]))
    clear HPM HDC HMD HMP HPC
    go_wp2_with fail
    go_ret
    rw [HR.out]
    exact HNO.out.1
  by_cases hc8 : c = 8
  · subst hc8
    have HR := Lib.hid (show res = (false, P) from HPM.out.trans (by simp [hk1, hk2, hk4, hk5, hk3]))
    clear HPM HDC HMD HMP HPC
    go_wp2_with fail
    go_ret
    rw [HR.out]
    exact HNO.out.1
  have ec4 : (c == 4) = false := by simpa using hc4
  have ec7 : (c == 7) = false := by simpa using hc7
  have ec5 : (c == 5) = false := by simpa using hc5
  have ec10 : (c == 10) = false := by simpa using hc10
  have ec8 : (c == 8) = false := by simpa using hc8
  have HR := Lib.hid (show res = (false, P) from HPM.out.trans (by simp [hk1, hk2, hk4, hk5, hk3, hc4, hc7, hc5, hc10, hc8]))
  clear HPM HDC HMD HMP HPC
  go_wp2_with fail
  go_ret
  rw [HR.out]
  exact HNO.out.1
def dirtyF (l : List CB) : List CB := l.filter fun c => c.2
def cleanF (l : List CB) : List CB := l.filter fun c => !c.2
theorem results_tmp_cell {fn : Func} {p q : Tmp} {ty : TypeId} (h : fn.results = #[.tmp p, .cell q ty]) (tmps : Array Value) (P : Program) (w : World) :
    (results fn tmps).run P w = ((asAddr (tmps.getD q undef)).run P w).andThen fun a w₁ => ((loadVar ty a).run P w₁).andThen fun v w₂ => .ok (.tuple #[tmps.getD p undef, v]) w₂ := by
  simp [results, h]
theorem dirtyF_snoc {l : List CB} {k : Nat} (h : k < l.length) : dirtyF (l.take (k + 1)) = dirtyF (l.take k) ++ (if l[k].2 then [l[k]] else []) := by
  unfold dirtyF
  rw [List.take_succ_eq_append_getElem h, List.filter_append]
  cases hx : l[k].2 <;> simp [hx]
theorem cleanF_snoc {l : List CB} {k : Nat} (h : k < l.length) : cleanF (l.take (k + 1)) = cleanF (l.take k) ++ (if l[k].2 then [] else [l[k]]) := by
  unfold cleanF
  rw [List.take_succ_eq_append_getElem h, List.filter_append]
  cases hx : l[k].2 <;> simp [hx]
def DirTo (L : List CB) (g5 : Nat) (a : Int) (n : Bool) (Hp : HL) (w : World) (F : HL) (l1 i : Value) (wr : World) : Prop :=
  ∃ (k : Nat) (E1 E2 : List CE) (H1 H2 : HL) (l2 : Value), i = .int .i64 k ∧ k ≤ L.length ∧ E1.map (·.2) = dirtyF (L.take k) ∧ E2.map (·.2) = cleanF (L.take k) ∧ IsRow 81 2 l1 E1.length (ceC E1) H1 ∧ IsRow 81 2 l2 E2.length (ceC E2) H2 ∧
    (∀ e ∈ E1, FrBytes Hp e.1 e.2.1) ∧ (∀ e ∈ E2, FrBytes Hp e.1 e.2.1) ∧ Holds wr (H1 ++ (H2 ++ ((g5, .cells #[.int .u64 a, .bool n, l2] 79) :: F))) ∧ Grew w wr
set_option maxRecDepth 20000 in
set_option maxHeartbeats 8000000 in
theorem r18dirties_any (p : PV) (lv : Value) (Hp Fr : HL) (w : World) (hc : FrCans Hp lv p.l) (hsm : p.l.length ≤ 10000) (hH : Holds w (Hp ++ Fr)) :
    Calls Try.prog 47 #[p.agg lv] w fun e w' => ∃ l1 l2 Hn, e = .returned (.tuple #[l1, .agg #[.int .u64 p.a, .bool p.n, l2]]) ∧ FrCans (Hn ++ Hp) l1 (dirtyF p.l) ∧ FrCans (Hn ++ Hp) l2 (cleanF p.l) ∧ Holds w' ((Hn ++ Hp) ++ Fr) ∧ Grew w w' := by
  obtain ⟨E, hE, hE2⟩ := hc
  have HCE := Lib.hid hE2
  have HLE : Hid (E.map (·.2) = p.l) := Lib.hid hE
  have hlen : E.length = p.l.length := by rw [← hE, List.length_map]
  obtain ⟨Al, cl, hlv, hnc, hcm⟩ := hE2.1.val hH
  rw [hlen] at hlv hnc
  subst hlv
  unfold maxLen at hcm
  obtain ⟨a, n, l⟩ := p
  dsimp only [PV.agg] at *
  have hH1 := ((hH.alloc (.cells #[.int .u64 a, .bool n, .slice Al l.length cl] 79)).alloc (.cells #[.int .u64 0, .bool false, .slice none 0 0] 79)).alloc (.cells #[.int .u64 a, .bool n, .slice none 0 0] 79)
  simp only [World.size_alloc] at hH1
  have hg1 := (((Grew.refl w).alloc (.cells #[.int .u64 a, .bool n, .slice Al l.length cl] 79)).alloc (.cells #[.int .u64 0, .bool false, .slice none 0 0] 79)).alloc (.cells #[.int .u64 a, .bool n, .slice none 0 0] 79)
  clear hE hE2 hH
  go_enter Try.func47, Try.ntmps47
  go_wp2_with fail
  generalize hwx : ((w.alloc (.cells #[.int .u64 a, .bool n, .slice Al l.length cl] 79)).alloc (.cells #[.int .u64 0, .bool false, .slice none 0 0] 79)).alloc (.cells #[.int .u64 a, .bool n, .slice none 0 0] 79) = w0 at *
  generalize w.heap.size + 1 + 1 = g5 at *
  generalize w.heap.size + 1 = g3 at *
  generalize w.heap.size = g1 at *
  clear hwx
  have HF : Hid (∀ (wx : World) (X : HL), Holds wx (X ++ ((g3, (.cells #[.int .u64 0, .bool false, .slice none 0 0] 79)) :: ((g1, (.cells #[.int .u64 a, .bool n, .slice Al l.length cl] 79)) :: (Hp ++ Fr)))) → wx.cell? ⟨g1, 2, none⟩ = some (.slice Al l.length cl) ∧ wx.cell? ⟨g3, 0, none⟩ = some (.int .u64 0) ∧ wx.cell? ⟨g3, 1, none⟩ = some (.bool false) ∧ wx.cell? ⟨g3, 2, none⟩ = some (.slice none 0 0) ∧ wx.frozen? ⟨g3, 0, none⟩ = false ∧ wx.frozen? ⟨g3, 1, none⟩ = false ∧ wx.frozen? ⟨g3, 2, none⟩ = false ∧ Holds wx (Hp ++ Fr)) := Lib.hid (fun wx X h => by
    have h2 := h.right
    exact ⟨h2.tail.hcell 2, h2.hcell 0, h2.hcell 1, h2.hcell 2, h2.hfrozen 0, h2.hfrozen 1, h2.hfrozen 2, h2.tail.tail⟩)
  generalize hF : ((g3, (.cells #[.int .u64 0, .bool false, .slice none 0 0] 79)) :: ((g1, (.cells #[.int .u64 a, .bool n, .slice Al l.length cl] 79)) :: (Hp ++ Fr))) = F at *
  have HFE := Lib.hid hF
  clear hF
  go_loopw [4, 6] (fun l1 i wr => DirTo l g5 a n Hp w F l1 i wr) (fun _ i _ => l.length - (intOf i).toNat)
  case atStart => exact ⟨0, [], [], [], [], _, rfl, by omega, rfl, rfl, IsRow.nil _ _, IsRow.nil _ _, (fun e he => by cases he), (fun e he => by cases he), hH1, hg1⟩
  case round =>
    clear hH1 hg1
    obtain ⟨k, E1, E2, H1, H2, l2, rfl, hk, he1, he2, hr1, hr2, hf1, hf2, hHr, hgr⟩ := hrel
    have HE1 := Lib.hid he1
    have HE2 := Lib.hid he2
    have HR1 := Lib.hid hr1
    have HR2 := Lib.hid hr2
    have HF1 := Lib.hid hf1
    have HF2 := Lib.hid hf2
    obtain ⟨A1, c1, hv1⟩ := hr1.val
    obtain ⟨A2, c2, hv2⟩ := hr2.val
    subst hv1 hv2
    have HLN : Hid (E1.length ≤ 10000 ∧ E2.length ≤ 10000) := Lib.hid (by
      have h1 : E1.length = (dirtyF (l.take k)).length := by rw [← he1, List.length_map]
      have h2 : E2.length = (cleanF (l.take k)).length := by rw [← he2, List.length_map]
      have h3 := List.length_filter_le (fun c : CB => c.2) (l.take k)
      have h4 := List.length_filter_le (fun c : CB => !c.2) (l.take k)
      rw [List.length_take] at h3 h4
      unfold dirtyF at h1
      unfold cleanF at h2
      omega)
    obtain ⟨s1, z0, z1, z2, y0, y1, y2, hHF⟩ := HF.out wr (H1 ++ (H2 ++ [_])) (by simpa using hHr)
    have HHR := Lib.hid hHr
    clear he1 he2 hr1 hr2 hf1 hf2 hHr
    by_cases hlt : k < l.length
    · have hkE : k < E.length := by omega
      obtain ⟨b1, o, c', hv, hc1, hc2, hcl⟩ := HCE.out.get hHF k hkE
      rw [hlen] at hv
      injection hv with e1 e2 e3
      subst e1 e3
      clear e2
      have hLk : E[k].2 = l[k] := by
        have : (E.map (·.2))[k]'(by simpa using hkE) = l[k] := by simp only [HLE.out]
        simpa using this
      have hfb := HCE.out.2 E[k] (List.getElem_mem hkE)
      rw [hLk] at hfb hcl
      have HFB := Lib.hid hfb
      obtain ⟨Ax, cx, hxv⟩ := hfb.sl hHF
      rw [hxv] at HFB hcl
      have HD1 := Lib.hid (dirtyF_snoc hlt)
      have HD2 := Lib.hid (cleanF_snoc hlt)
      have HCL : Hid (∀ (wx : World) (X : HL), Holds wx (X ++ F) → _) := Lib.hid (fun wx X h => hcl wx Fr (HF.out wx X h).2.2.2.2.2.2.2)
      generalize l[k] = xz at *
      obtain ⟨x, zz⟩ := xz
      dsimp only at HFB HCL HD1 HD2
      obtain ⟨d0, d1⟩ := HCL.out wr (H1 ++ (H2 ++ [_])) (by simpa using HHR.out)
      clear hcl hfb hxv hLk hHF
      cases zz with
      | true =>
        have HS1 := Lib.hid (HD1.out.trans (by rw [if_pos rfl]))
        have HS2 := Lib.hid (HD2.out.trans (by rw [if_pos rfl, List.append_nil]))
        have hs1 : Holds (wr.alloc (.cells #[.slice Ax x.length cx, .bool true] 81)) (H1 ++ ((wr.heap.size, .cells #[.slice Ax x.length cx, .bool true] 81) :: (H2 ++ ((g5, .cells #[.int .u64 a, .bool n, .slice A2 E2.length c2] 79) :: F)))) := Holds.swap (A := [_]) (HHR.out.alloc _)
        have hg2 := hgr.alloc (.cells #[.slice Ax x.length cx, .bool true] 81)
        have HSRC := Lib.hid (ReadsAt.of_block (n := 1) (c := 1) (o := 0) (size := 2) (hs1.get (b := wr.heap.size) (o := .cells #[.slice Ax x.length cx, .bool true] 81) (by simp)) [.slice Ax x.length cx, .bool true] rfl (by omega) (by simp [maxLen]) (by intro j u hu; simpa using hu))
        have hel := HLN.out
        clear HD1 HD2
        go_wp2_with (at_builtin; refine wpList_append_T tCans (by rfl) (.tmp 25) (.tmp 31) (by rfl) (by rfl) (by rfl) HR1.out hs1 HSRC.out (by simp [Value.oneCell']) (by simp [maxLen]; omega) (by omega) ?_; intro A' c' w' H' hrow6 hH7 hg7)
        have HFIN := Lib.hid (show DirTo l g5 a n Hp w F (.slice A' (E1.length + 1) c') (.int .i64 ((k : Int) + 1)) w' from ⟨k + 1, E1 ++ [(.slice Ax x.length cx, (x, true))], E2, H', H2, _, by go_num, by omega, by rw [HS1.out, List.map_append, HE1.out]; rfl, by rw [HS2.out]; exact HE2.out, by rw [List.length_append, ceC_append]; exact hrow6, HR2.out, fun e he => by
          rcases List.mem_append.1 he with he | he
          · exact HF1.out e he
          · rw [List.mem_singleton.1 he]; exact HFB.out, HF2.out, Holds.mid (B := [_]) hH7, hg2.trans hg7⟩)
        clear hrow6 hH7 hg7 hg2 hs1
        go_wp2_with fail
        go_roundw
        case rel => exact HFIN.out
        case measure => simp [intOf]; omega
      | false =>
        have HS1 := Lib.hid (HD1.out.trans (by rw [if_neg (by decide), List.append_nil]))
        have HS2 := Lib.hid (HD2.out.trans (by rw [if_neg (by decide)]))
        have hel := HLN.out
        have HSS : Hid (∀ (wx : World) (X Y : HL), Holds wx (X ++ ((g5, .cells #[.int .u64 a, .bool n, .slice A2 E2.length c2] 79) :: (Y ++ F))) → wx.cell? ⟨g1, 2, none⟩ = some (.slice (some ⟨b1, o, none⟩) l.length cl) ∧ wx.cell? ⟨g5, 2, none⟩ = some (.slice A2 E2.length c2) ∧ wx.frozen? ⟨g5, 2, none⟩ = false ∧ wx.cell? ⟨b1, o + k * 2, none⟩ = some (.slice Ax x.length cx) ∧ wx.cell? ⟨b1, o + k * 2 + 1, none⟩ = some (.bool false)) := Lib.hid (fun wx X Y h => by
          have h2 := h.right
          have h3 : Holds wx ((X ++ ((g5, .cells #[.int .u64 a, .bool n, .slice A2 E2.length c2] 79) :: Y)) ++ F) := by simpa using h
          obtain ⟨k1, k2⟩ := HCL.out wx _ h3
          exact ⟨(HF.out wx _ h3).1, h2.hcell 2, h2.hfrozen 2, k1, k2⟩)
        clear HD1 HD2 d0
        go_upto_region 8 with fail
        clear s1 z0 z1 z2 y0 y1 y2 d1
        refine Z_begin (fun wx => wx.cell? ⟨g1, 2, none⟩ = some (.slice (some ⟨b1, o, none⟩) l.length cl) ∧ wx.cell? ⟨g5, 2, none⟩ = some (.slice A2 E2.length c2) ∧ wx.frozen? ⟨g5, 2, none⟩ = false ∧ wx.cell? ⟨b1, o + k * 2, none⟩ = some (.slice Ax x.length cx) ∧ wx.cell? ⟨b1, o + k * 2 + 1, none⟩ = some (.bool false)) 10 (by kernel_rfl) (fun w1 hd => HSS.out _ (H1 ++ H2) [] (by simpa using HHR.out.dr hd)) (fun w1 hd hs => ?_)
        have hH6 := HHR.out.dr hd; have hG6 := hgr.trans (Grew.dr hd); clear hd
        refine Z_takeD 0 (some 33) (v := ?_) rfl rfl (by kernel_rfl) (fun _ _ _ h => h) (by rfl) hs ?_ ?_
        rotate_left
        · intro wx hx; obtain ⟨s1, s2, s3, s4, s5⟩ := hx; go_simp; try with_reducible rfl
        simp only [Act.put, List.setIfInBounds_toArray, List.set_cons_succ, List.set_cons_zero]
        refine Z_takeD 1 (some 34) (v := ?_) rfl rfl (by kernel_rfl) (fun _ _ _ h => h) (by rfl) hs ?_ ?_
        rotate_left
        · intro wx hx; obtain ⟨s1, s2, s3, s4, s5⟩ := hx; go_simp; try with_reducible rfl
        simp only [Act.put, List.setIfInBounds_toArray, List.set_cons_succ, List.set_cons_zero]
        refine Z_takeD 2 (some 35) (v := ?_) rfl rfl (by kernel_rfl) (fun _ _ _ h => h) (by rfl) hs ?_ ?_
        rotate_left
        · intro wx hx; obtain ⟨s1, s2, s3, s4, s5⟩ := hx; go_simp; try with_reducible rfl
        simp only [Act.put, List.setIfInBounds_toArray, List.set_cons_succ, List.set_cons_zero]
        refine Z_takeD 3 (some 36) (v := ?_) rfl rfl (by kernel_rfl) (fun _ _ _ h => h) (by rfl) hs ?_ ?_
        rotate_left
        · intro wx hx; obtain ⟨s1, s2, s3, s4, s5⟩ := hx; go_simp; try with_reducible rfl
        simp only [Act.put, List.setIfInBounds_toArray, List.set_cons_succ, List.set_cons_zero]
        refine Z_takeD 4 (some 37) (v := ?_) rfl rfl (by kernel_rfl) (fun _ _ _ h => h) (by rfl) hs ?_ ?_
        rotate_left
        · intro wx hx; obtain ⟨s1, s2, s3, s4, s5⟩ := hx; go_simp; try with_reducible rfl
        simp only [Act.put, List.setIfInBounds_toArray, List.set_cons_succ, List.set_cons_zero]
        refine Z_takeD 5 (some 38) (v := ?_) rfl rfl (by kernel_rfl) (fun _ _ _ h => h) (by rfl) hs ?_ ?_
        rotate_left
        · intro wx hx; obtain ⟨s1, s2, s3, s4, s5⟩ := hx; go_simp; try with_reducible rfl
        simp only [Act.put, List.setIfInBounds_toArray, List.set_cons_succ, List.set_cons_zero]
        refine Z_takeD 6 (some 39) (v := ?_) rfl rfl (by kernel_rfl) (fun _ _ _ h => h) (by rfl) hs ?_ ?_
        rotate_left
        · intro wx hx; obtain ⟨s1, s2, s3, s4, s5⟩ := hx; go_simp; try with_reducible rfl
        simp only [Act.put, List.setIfInBounds_toArray, List.set_cons_succ, List.set_cons_zero]
        refine Z_mid 7 rfl (by kernel_rfl) (fun K hK => ?_)
        have ⟨s1, s2, s3, s4, s5⟩ := hs
        have hs1 : Holds (w1.alloc (.cells #[.slice Ax x.length cx, .bool false] 81)) (H2 ++ ((w1.heap.size, .cells #[.slice Ax x.length cx, .bool false] 81) :: (H1 ++ ((g5, .cells #[.int .u64 a, .bool n, .slice A2 E2.length c2] 79) :: F)))) := (hH6.alloc _).sub (by (repeat' (first | refine sub_append ?_ ?_ | refine sub_cons ?_ ?_ | exact sub_nil)); all_goals first | (intro p hp; simp only [List.mem_append, List.mem_cons, hp, true_or, or_true]) | simp only [List.mem_append, List.mem_cons, true_or, or_true]) (fun b => by simp only [keyc_append, keyc_cons, keyc_nil]; omega); go_simp   -- buildSlice w
        clear s1 s2 s3 s4 s5
        refine hK _ _ (HSS.out _ (H2 ++ ((w1.heap.size, .cells #[.slice Ax x.length cx, .bool false] 81) :: H1)) [] (by simpa using hs1)) (fun hs2 => ?_); clear hK K hs; have hs := hs2; clear hs2
        refine Z_mid 8 rfl (by kernel_rfl) (fun K hK => ?_)
        have ⟨s1, s2, s3, s4, s5⟩ := hs
        refine step_append_T tCans (by rfl) _ _ (by rfl) (by rfl) (by rfl) HR2.out hs1 (ReadsAt.of_block (n := 1) (c := 1) (o := 0) (g := w1.heap.size) (hs1.get (b := w1.heap.size) (o := .cells #[.slice Ax x.length cx, .bool false] 81) (by simp)) [.slice Ax x.length cx, .bool false] rfl (by omega) (by simp [maxLen]) (by intro j u hu; simpa using hu)) (by simp [Value.oneCell']) (by simp [maxLen] <;> omega) (by omega) ?_; intro A7 c7 w7 H7 hrow7 hH7 hg7   -- call w
        clear s1 s2 s3 s4 s5
        refine hK _ _ (HSS.out _ (H7 ++ ((w1.heap.size, .cells #[.slice Ax x.length cx, .bool false] 81) :: H1)) [] (by simpa using hH7)) (fun hs2 => ?_); clear hK K hs; have hs := hs2; clear hs2
        refine Z_takeD 9 (some 42) (v := ?_) rfl rfl (by kernel_rfl) (fun _ _ _ h => h) (by rfl) hs ?_ ?_
        rotate_left
        · intro wx hx; obtain ⟨s1, s2, s3, s4, s5⟩ := hx; go_simp; try with_reducible rfl
        simp only [Act.put, List.setIfInBounds_toArray, List.set_cons_succ, List.set_cons_zero]
        refine Z_last 10 rfl (by kernel_rfl) rfl (fun K hK => ?_)
        have ⟨s1, s2, s3, s4, s5⟩ := hs
        go_simp   -- store w
        clear s1 s2 s3 s4 s5
        refine hK _ _ ?_; clear hK K hs
        refine Z_done (by kernel_rfl) ?_ _
        have hH8 : Holds w7 ((g5, .cells #[.int .u64 a, .bool n, .slice A2 E2.length c2] 79) :: (H1 ++ (H7 ++ F))) := by
          have h : Holds w7 (H7 ++ (H1 ++ ((g5, .cells #[.int .u64 a, .bool n, .slice A2 E2.length c2] 79) :: F))) := Holds.mid (B := [_]) hH7
          exact h.sub (by (repeat' (first | refine sub_append ?_ ?_ | refine sub_cons ?_ ?_ | exact sub_nil)); all_goals first | (intro p hp; simp only [List.mem_append, List.mem_cons, hp, true_or, or_true]) | simp only [List.mem_append, List.mem_cons, true_or, or_true]) (fun b => by simp only [keyc_append, keyc_cons, keyc_nil]; omega)
        have hH9 : Holds (w7.setCell ⟨g5, 2, none⟩ (.slice A7 (E2.length + 1) c7)) (H1 ++ (H7 ++ ((g5, .cells #[.int .u64 a, .bool n, .slice A7 (E2.length + 1) c7] 79) :: F))) := by
          have h : Holds (w7.setCell ⟨g5, 2, none⟩ (.slice A7 (E2.length + 1) c7)) ((g5, .cells #[.int .u64 a, .bool n, .slice A7 (E2.length + 1) c7] 79) :: (H1 ++ (H7 ++ F))) := hH8.set' 2 _
          exact h.sub (by (repeat' (first | refine sub_append ?_ ?_ | refine sub_cons ?_ ?_ | exact sub_nil)); all_goals first | (intro p hp; simp only [List.mem_append, List.mem_cons, hp, true_or, or_true]) | simp only [List.mem_append, List.mem_cons, true_or, or_true]) (fun b => by simp only [keyc_append, keyc_cons, keyc_nil]; omega)
        have HFIN := Lib.hid (show DirTo l g5 a n Hp w F (.slice A1 E1.length c1) (.int .i64 ((k : Int) + 1)) (w7.setCell ⟨g5, 2, none⟩ (.slice A7 (E2.length + 1) c7)) from ⟨k + 1, E1, E2 ++ [(.slice Ax x.length cx, (x, false))], H1, H7, _, by go_num, by omega, by rw [HS1.out]; exact HE1.out, by rw [HS2.out, List.map_append, HE2.out]; rfl, HR1.out, by rw [List.length_append, ceC_append]; exact hrow7, HF1.out, fun e he => by
          rcases List.mem_append.1 he with he | he
          · exact HF2.out e he
          · rw [List.mem_singleton.1 he]; exact HFB.out, hH9, ((hG6.alloc _).trans hg7).setCell _ _⟩)
        clear hrow7 hH7 hH8 hH9 hg7 hG6 hs1 hH6
        go_wp2_with fail
        go_roundw
        case rel => exact HFIN.out
        case measure => simp [intOf]; omega
    · have hk2 : k = l.length := by omega
      subst hk2
      rw [List.take_length] at HE1 HE2
      have hH6 : Holds wr ((g3, (.cells #[.int .u64 0, .bool false, .slice none 0 0] 79)) :: ((H1 ++ (H2 ++ ((g5, .cells #[.int .u64 a, .bool n, .slice A2 E2.length c2] 79) :: ((g1, (.cells #[.int .u64 a, .bool n, .slice Al l.length cl] 79)) :: [])))) ++ (Hp ++ Fr))) := by
        have h := HHR.out
        rw [← HFE.out] at h
        exact h.sub (by (repeat' (first | refine sub_append ?_ ?_ | refine sub_cons ?_ ?_ | exact sub_nil)); all_goals first | (intro p hp; simp only [List.mem_append, List.mem_cons, hp, true_or, or_true]) | simp only [List.mem_append, List.mem_cons, true_or, or_true]) (fun b => by simp only [keyc_append, keyc_cons, keyc_nil]; omega)
      have HOP := Lib.hid (fun (wx : World) (h : Holds wx ((g3, (.cells #[.int .u64 0, .bool false, .slice none 0 0] 79)) :: ((H1 ++ (H2 ++ ((g5, .cells #[.int .u64 a, .bool n, .slice A2 E2.length c2] 79) :: ((g1, (.cells #[.int .u64 a, .bool n, .slice Al l.length cl] 79)) :: [])))) ++ (Hp ++ Fr)))) => openP h)
      have HSS : Hid (∀ (wx : World), Holds wx ((g3, (.cells #[.int .u64 0, .bool false, .slice none 0 0] 79)) :: ((H1 ++ (H2 ++ ((g5, .cells #[.int .u64 a, .bool n, .slice A2 E2.length c2] 79) :: ((g1, (.cells #[.int .u64 a, .bool n, .slice Al l.length cl] 79)) :: [])))) ++ (Hp ++ Fr))) → wx.cell? ⟨g5, 0, none⟩ = some (.int .u64 a) ∧ wx.cell? ⟨g5, 1, none⟩ = some (.bool n) ∧ wx.cell? ⟨g5, 2, none⟩ = some (.slice A2 E2.length c2) ∧ wx.cell? ⟨g3, 0, none⟩ = some (.int .u64 0) ∧ wx.cell? ⟨g3, 1, none⟩ = some (.bool false) ∧ wx.cell? ⟨g3, 2, none⟩ = some (.slice none 0 0) ∧ wx.frozen? ⟨g3, 0, none⟩ = false ∧ wx.frozen? ⟨g3, 1, none⟩ = false ∧ wx.frozen? ⟨g3, 2, none⟩ = false) := Lib.hid (fun wx h => by
        have h1 : Holds wx ((g5, .cells #[.int .u64 a, .bool n, .slice A2 E2.length c2] 79) :: ((g1, (.cells #[.int .u64 a, .bool n, .slice Al l.length cl] 79)) :: (Hp ++ Fr))) := (show Holds wx (((g3, (.cells #[.int .u64 0, .bool false, .slice none 0 0] 79)) :: (H1 ++ H2)) ++ ((g5, .cells #[.int .u64 a, .bool n, .slice A2 E2.length c2] 79) :: ((g1, (.cells #[.int .u64 a, .bool n, .slice Al l.length cl] 79)) :: (Hp ++ Fr)))) by simpa using h).right
        obtain ⟨o0, o1, o2, f0, f1, f2, _⟩ := openP h
        exact ⟨h1.hcell 0, h1.hcell 1, h1.hcell 2, o0, o1, o2, f0, f1, f2⟩)
      have HH6 := Lib.hid hH6
      clear hH6 hHF
      go_upto_region 9 with fail
      clear s1 z0 z1 z2 y0 y1 y2
      refine Z_begin (fun wx => wx.cell? ⟨g5, 0, none⟩ = some (.int .u64 a) ∧ wx.cell? ⟨g5, 1, none⟩ = some (.bool n) ∧ wx.cell? ⟨g5, 2, none⟩ = some (.slice A2 E2.length c2) ∧ wx.cell? ⟨g3, 0, none⟩ = some (.int .u64 0) ∧ wx.cell? ⟨g3, 1, none⟩ = some (.bool false) ∧ wx.cell? ⟨g3, 2, none⟩ = some (.slice none 0 0) ∧ wx.frozen? ⟨g3, 0, none⟩ = false ∧ wx.frozen? ⟨g3, 1, none⟩ = false ∧ wx.frozen? ⟨g3, 2, none⟩ = false) 3 (by kernel_rfl) (fun w1 hd => HSS.out _ (HH6.out.dr hd)) (fun w1 hd hs => ?_)
      have hH7 := HH6.out.dr hd; have hG7 := hgr.trans (Grew.dr hd); clear hd
      refine Z_takeD 0 (some 43) (v := ?_) rfl rfl (by kernel_rfl) (fun _ _ _ h => h) (by rfl) hs ?_ ?_
      rotate_left
      · intro wx hx; obtain ⟨s1, s2, s3, s4, s5, s6, s7, s8, s9⟩ := hx; go_simp; try with_reducible rfl
      simp only [Act.put, List.setIfInBounds_toArray, List.set_cons_succ, List.set_cons_zero]
      refine Z_takeD 1 (some 44) (v := ?_) rfl rfl (by kernel_rfl) (fun _ _ _ h => h) (by rfl) hs ?_ ?_
      rotate_left
      · intro wx hx; obtain ⟨s1, s2, s3, s4, s5, s6, s7, s8, s9⟩ := hx; go_simp; try with_reducible rfl
      simp only [Act.put, List.setIfInBounds_toArray, List.set_cons_succ, List.set_cons_zero]
      refine Z_takeD 2 (some 2) (v := ?_) rfl rfl (by kernel_rfl) (fun _ _ _ h => h) (by rfl) hs ?_ ?_
      rotate_left
      · intro wx hx; obtain ⟨s1, s2, s3, s4, s5, s6, s7, s8, s9⟩ := hx; go_simp; try with_reducible rfl
      simp only [Act.put, List.setIfInBounds_toArray, List.set_cons_succ, List.set_cons_zero]
      refine Z_last 3 rfl (by kernel_rfl) rfl (fun K hK => ?_)
      have ⟨s1, s2, s3, s4, s5, s6, s7, s8, s9⟩ := hs
      go_simp   -- store w
      clear s1 s2 s3 s4 s5 s6 s7 s8 s9
      refine hK _ _ ?_; clear hK K hs
      refine Z_done (by kernel_rfl) ?_ _
      have hfin := (HOP.out w1 hH7).2.2.2.2.2.2 (.int .u64 a) (.bool n) (.slice A2 E2.length c2)
      have HFI : Hid (Holds (setP w1 g3 (.int .u64 a) (.bool n) (.slice A2 E2.length c2)) (((H1 ++ H2) ++ Hp) ++ Fr)) := Lib.hid (by
        have h : Holds (setP w1 g3 (.int .u64 a) (.bool n) (.slice A2 E2.length c2)) ((H1 ++ H2) ++ ([(g5, .cells #[.int .u64 a, .bool n, .slice A2 E2.length c2] 79), (g1, (.cells #[.int .u64 a, .bool n, .slice Al l.length cl] 79))] ++ (Hp ++ Fr))) := by simpa using hfin.tail
        simpa using h.mid)
      have HGF := Lib.hid (hG7.setP g3 (.int .u64 a) (.bool n) (.slice A2 E2.length c2))
      have hX := HSS.out w1 hH7
      obtain ⟨s1, s2, s3, s4, s5, s6, s7, s8, s9⟩ := hX
      clear hfin hH7 hG7
      go_wp2_with fail
      refine ⟨rfl, .tuple #[.slice A1 E1.length c1, .agg #[.int .u64 a, .bool n, .slice A2 E2.length c2]], (by rw [results_tmp_cell rfl]; go_simp), .slice A1 E1.length c1, .slice A2 E2.length c2, H1 ++ H2, rfl, ⟨E1, HE1.out, ?_, fun e he => (HF1.out e he).right⟩, ⟨E2, HE2.out, ?_, fun e he => (HF2.out e he).right⟩, HFI.out, HGF.out⟩
      · intro wx hx
        exact HR1.out.reads (Fr := H2 ++ Hp) (by simpa using hx)
      · intro wx hx
        have h : Holds wx (H2 ++ (H1 ++ Hp)) := hx.sub (by (repeat' (first | refine sub_append ?_ ?_ | refine sub_cons ?_ ?_ | exact sub_nil)); all_goals first | (intro p hp; simp only [List.mem_append, List.mem_cons, hp, true_or, or_true]) | simp only [List.mem_append, List.mem_cons, true_or, or_true]) (fun b => by simp only [keyc_append, keyc_cons, keyc_nil]; omega)
        exact HR2.out.reads h
end Go.Proofs.Ytinfbpldgobmfaa
