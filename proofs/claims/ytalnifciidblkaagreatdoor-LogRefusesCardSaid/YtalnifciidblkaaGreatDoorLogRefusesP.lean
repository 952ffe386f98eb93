/-
  LogRefuses: notes that may not be, and such as would give two addresses one page, are refused, and nothing changes; of none each call says so.
-/
import Derived.Test.YtalnifciidblkaaGreatDoorROpenR
import Derived.Test.YtalnifciidblkaaGreatDoorG16
import Derived.Test.YtalnifciidblkaaGreatDoorTie
import Derived.Test.YtalnifciidblkaaGreatDoorCards
import Derived.Lay
import Derived.LaidMore
import Derived.SevenTiedAt
namespace Go.Proofs.YtalnifciidblkaaGreatDoor.logRefuses
set_option linter.unusedVariables false
set_option maxRecDepth 100000
open Go.ChangeShapes Go.WideShapes Go.ChangeAt Go.RowKit
theorem lifted(os:Os)(started:os.Started)(H:Type)(enc:TypeId×Value->H):
  ReturnsInHanded {} Tryz.checked os 3 .any (fun w args=>(Rows.logRefusesSpec.pre enc Tryz.prog Tryz.f3 Rows.logRefusesRow.domain false w args∧laidMetH Tryz.prog Rows.logRefusesRow.laid w)∧sizedMet enc Tryz.prog Tryz.f3 (OpenSpec.ofChange Rows.logRefusesSpec) false w args)
   (Rows.logRefusesSpec.post enc Tryz.prog Tryz.f3 false true false false):=by
 refine returnsInHanded_of_change_and (C:=Tryz.checked) (X:=fun w _=>laidMetH Tryz.prog Rows.logRefusesRow.laid w) (fun _ _ _ hh h=>h.of_heap hh) own started (by kernel_rfl) Tryz.func3
  (ChangeSpec.witness_shaped (enc:=enc) (C:=Tryz.checked) (os:=os) (X:=fun w _=>laidMetH Tryz.prog Rows.logRefusesRow.laid w) false (World.laidAll Tryz.prog os Rows.logRefusesRow.laid) #[.agg #[.bool false,.int .u64 0,.int .i64 0,.bool false,.int .i64 0],.int .u64 0,.int .u64 0,.string ⟨#[]⟩] 8 (World.laidAll_os _ _ _)
   (World.shaped_of_ZipB (by kernel_rfl) (by kernel_rfl)) (by kernel_rfl) (by kernel_rfl) (by kernel_rfl)
   (by rw[MakeChecks.laidMetH_plain _ _ _ (by kernel_rfl)];exact laidMet_laidAll _ (by kernel_rfl) (by kernel_rfl))) ?_
 intro W base args ds gs before mZ hW _ _ _ _;have kK:∀(j:Nat) t v,Tryz.f3.params[j]?=some t->args[j]?=some v->Value.okWide Tryz.prog W .any base t v:=mZ;have TN:=hW;obtain⟨p,q,Jl,hV,rfl,DG,vf⟩:=hW;have hA:DataW.TrodAll enc Tryz.prog W 0 (fun _=>true) true Tryz.f3.params.toList args.toList ds p:=Jl;rw[Tryz.params3]at hA kK;obtain⟨v0,vs0,d0,ds0,p0,q0,JL,rfl,rfl,h0,r0⟩:=trodAll_cons hA;obtain⟨v1,vs1,d1,ds1,p1,q1,rfl,rfl,rfl,h1,r1⟩:=trodAll_cons r0;obtain⟨v2,vs2,d2,ds2,p2,q2,rfl,rfl,rfl,h2,r2⟩:=trodAll_cons r1;obtain⟨v3,vs3,d3,ds3,p3,q3,rfl,rfl,rfl,h3,r3⟩:=trodAll_cons r2;obtain⟨rfl,rfl,rfl⟩:=trodAll_nil r3;obtain rfl:args=#[v0,v1,v2,v3]:=by cases args;simp_all
 obtain⟨rfl,rfl⟩:=trodVars_none hV;have lt0:∀x∈p0,x.block<W.heap.size:=by obtain⟨m,hm⟩:=h0;exact DataW.trod_lt m _ _ _ hm
 obtain⟨a0,w0⟩:=open_note17 (kK 0 26 v0 rfl rfl) h0;obtain⟨a1,rfl,rfl,rfl,w1⟩:=open_int Tryz.underlying22 (kK 1 22 v1 rfl rfl) h1;obtain⟨a2,rfl,rfl,rfl,w2⟩:=open_int Tryz.underlying22 (kK 2 22 v2 rfl rfl) h2;have lt3:∀x∈p3,x.block<W.heap.size:=by obtain⟨m,hm⟩:=h3;exact DataW.trod_lt m _ _ _ hm
 obtain⟨a3,w3⟩:=open_str17 (kK 3 9 v3 rfl rfl) h3;clear Jl mZ;refine(Ac v0 a0 a1 a2 v3 a3 W w0 w1 w2 w3).mono fun e W' ⟨he,hH,hg⟩=>?_;subst he;have Lw:=mB hH hg;exact⟨_,rfl,_,_,_,[],_,[],TN,trodAll_mk1 (shut_bool Tryz.underlying4 _),(trodAll_cons_mk (Below.trod laidOut (by kernel_rfl) (of_decide_eq_true (by kernel_rfl)) h0 Lw lt0) (trodAll_cons_mk (shut_int Tryz.underlying22 w1) (trodAll_cons_mk (shut_int Tryz.underlying22 w2) (trodAll_cons_mk (Below.trod laidOut (by kernel_rfl) (of_decide_eq_true (by kernel_rfl)) h3 Lw lt3) trodAll_mk0)))),rfl,Lw.frame _,fun h=>by cases h⟩
theorem over:Rows.logRefusesRow.holds Tryz.pinned (OpenSpec.ofChange Rows.logRefusesSpec):=
 OpenClaim.holds_of_wide 3 Tryz.f3 rfl rfl rfl rfl rfl rfl rfl ⟨rfl,rfl,rfl,rfl,rfl⟩ rfl rfl rfl rfl rfl (by kernel_rfl) Tryz.func3 (by kernel_rfl)
  (of_decide_eq_true (by kernel_rfl)) (by unfold Func.isWrapper;first|(rw[if_pos (by decide+kernel)];kernel_rfl)|(rw[if_neg (by decide+kernel)];exact⟨rfl,rfl⟩))
  (fun os started H enc _=>lifted os started H enc)
theorem proved:Rows.LogRefusesCardSaid:=
 Claim7.holds_tied_plain_at .later [] [.data, .pinned] true (true, "79a7dd9590514200b518c3bbc5d5b4ee932f443178269afdd89765bc055c0421") true over (fun _ h=>by cases h) (by kernel_rfl) (fun _ h=>by cases h) logRefuses_row_tie rfl ⟨rfl,rfl⟩ (by kernel_rfl) rfl
  (fun f fn hf Jj=>by
   obtain rfl:f=3:=Option.some.inj ((show Tryz.prog.funcNamed Rows.logRefusesRow.func=some 3 by kernel_rfl).symm.trans hf)|>.symm;obtain rfl:fn=Tryz.f3:=(Option.some.inj (Tryz.func3.symm.trans Jj)).symm;exact⟨by kernel_rfl,fun j t ht=>by
    rw[Tryz.params3]at ht;have hm:t∈[26,22,22,9]:=by simpa using Array.mem_of_getElem? ht
    have eB:([26,22,22,9].all fun u=>!Tryz.prog.wantsStandIn u)=true:=by kernel_rfl
    exact(show Tryz.prog.wantsStandIn t=false by simpa using List.all_eq_true.1 eB t hm)⟩)
  (by kernel_rfl)
#print axioms proved
end Go.Proofs.YtalnifciidblkaaGreatDoor.logRefuses
