/-
  Chapter 13: TableNone.
-/
import Derived.Test.YtnophehonkojaaaL13
import Derived.Test.YtnophehonkojaaaTbN
namespace Go.Proofs.Ytnophehonkojaaa
open Go.RowKit
set_option linter.unusedSimpArgs false
set_option linter.unusedVariables false

set_option maxRecDepth 20000 in
set_option maxHeartbeats 1000000 in
theorem none13_walk (e : Ent) (n : Int) (W : World) : Calls Try.prog 5 #[e.agg, .int .i64 n] W (RetFr (.bool true) W (allOf W)) := by
  obtain ⟨e0, e1, e2, e3⟩ := e
  have hH := holds_all W
  have h1 := hH.alloc (.cells #[.int .u64 e0, .int .i64 e1, .bool e2, .int .i64 e3] 28)
  have HP := Lib.hid (tbput_nil ⟨e0, e1, e2, e3⟩ _ _ h1)
  have hg0 := (Grew.refl W).alloc (.cells #[.int .u64 e0, .int .i64 e1, .bool e2, .int .i64 e3] 28)
  clear hH h1
  simp only [Ent.agg] at *
  go_enter Try.func5, Try.ntmps5
  go_wp2_with fail
  refine HP.out.mono ?_
  rintro e w1 ⟨rfl, hH1, hg1⟩
  simp only [optE, Option.getD, Option.isSome, Ent.agg, Ent.zero]
  have hH2 := hH1.alloc (.cells #[.int .u64 0, .int .i64 0, .bool false, .int .i64 0] 28)
  have hg2 := (hg0.trans hg1).alloc (.cells #[.int .u64 0, .int .i64 0, .bool false, .int .i64 0] 28)
  have c0 := hH2.tail.hcell 0
  have HG := Lib.hid (tbget_nil e0 _ _ hH2)
  clear HP hH1 hg1 hg0 hH2
  go_wp2_with fail
  refine HG.out.mono ?_
  rintro e w2 ⟨rfl, hH3, hg3⟩
  simp only [optE, Option.getD, Option.isSome, Ent.agg, Ent.zero]
  have hH4 := hH3.alloc (.cells #[.int .u64 0, .int .i64 0, .bool false, .int .i64 0] 28)
  have hg4 := (hg2.trans hg3).alloc (.cells #[.int .u64 0, .int .i64 0, .bool false, .int .i64 0] 28)
  have d0 := hH4.tail.tail.hcell 0
  have HD := Lib.hid (tbdrop_nil e0 _ _ hH4)
  clear HG hH3 hg2 hg3 hH4 c0
  go_wp2_with fail
  refine HD.out.mono ?_
  rintro e w3 ⟨rfl, hH5, hg5⟩
  simp only [optE, Option.getD, Option.isSome, Ent.agg, Ent.zero]
  have hH6 := hH5.alloc (.cells #[.int .u64 0, .int .i64 0, .bool false, .int .i64 0] 28)
  have hg6 := (hg4.trans hg5).alloc (.cells #[.int .u64 0, .int .i64 0, .bool false, .int .i64 0] 28)
  clear HD hH5 hg4 hg5 d0
  have x0 := hH6.hcell 0
  have x1 := hH6.hcell 1
  have x2 := hH6.hcell 2
  have x3 := hH6.hcell 3
  have y0 := hH6.tail.hcell 0
  have y1 := hH6.tail.hcell 1
  have y2 := hH6.tail.hcell 2
  have y3 := hH6.tail.hcell 3
  have z0 := hH6.tail.tail.hcell 0
  have z1 := hH6.tail.tail.hcell 1
  have z2 := hH6.tail.tail.hcell 2
  have z3 := hH6.tail.tail.hcell 3
  have KL := Lib.hid (tblen_nil (w3.alloc (.cells #[.int .u64 0, .int .i64 0, .bool false, .int .i64 0] 28)))
  have KD := Lib.hid (tbdirty_nil (w3.alloc (.cells #[.int .u64 0, .int .i64 0, .bool false, .int .i64 0] 28)))
  have KA := Lib.hid (tball_nil (w3.alloc (.cells #[.int .u64 0, .int .i64 0, .bool false, .int .i64 0] 28)))
  have KF := Lib.hid (tbfrom_nil 0 n true (w3.alloc (.cells #[.int .u64 0, .int .i64 0, .bool false, .int .i64 0] 28)))
  have KC := Lib.hid (tbcopy_nil (w3.alloc (.cells #[.int .u64 0, .int .i64 0, .bool false, .int .i64 0] 28)))
  have KW := Lib.hid (awake13_any (w3.alloc (.cells #[.int .u64 0, .int .i64 0, .bool false, .int .i64 0] 28)) _ hH6.tail.tail.tail.tail)
  clear hH6
  go_wp2_with (first | (go_at_call 16; refine KL.out.mono ?_; rintro e w' ⟨rfl, rfl⟩) | (go_at_call 24; refine KD.out.mono ?_; rintro e w' ⟨rfl, rfl⟩) | (go_at_call 12; refine KA.out.mono ?_; rintro e w' ⟨rfl, rfl⟩) | (go_at_call 14; refine KF.out.mono ?_; rintro e w' ⟨rfl, rfl⟩) | (go_at_call 23; refine KC.out.mono ?_; rintro e w' ⟨rfl, rfl⟩) | (go_at_call 8; refine KW.out.mono ?_; rintro e w' ⟨rfl, hHf, hgf⟩))
  go_ret
  exact ⟨rfl, hHf, hg6.trans hgf⟩
end Go.Proofs.Ytnophehonkojaaa
