/-
  LogSwaps: two addresses may change their pages by one commit, as often as one likes; behind each crash each has the one that it had last; nothing else changes.
-/
import Derived.Test.YtalnifciidblkaaGreatDoorWL17W
import Derived.Test.YtalnifciidblkaaGreatDoorG16
import Derived.Test.YtalnifciidblkaaGreatDoorTie
import Derived.Test.YtalnifciidblkaaGreatDoorCards
import Derived.Lay
import Derived.LaidMore
import Derived.SevenTiedAt
namespace Go.Proofs.YtalnifciidblkaaGreatDoor.logSwaps
set_option linter.unusedVariables false
set_option maxRecDepth 100000
open Go.ChangeShapes Go.WideShapes Go.ChangeAt Go.RowKit
theorem lifted(os:Os)(started:os.Started)(H:Type)(enc:TypeId×Value->H):
  ReturnsInHanded {} Tryz.checked os 4 .any (fun w args=>(Rows.logSwapsSpec.pre enc Tryz.prog Tryz.f4 Rows.logSwapsRow.domain false w args∧laidMetH Tryz.prog Rows.logSwapsRow.laid w)∧sizedMet enc Tryz.prog Tryz.f4 (OpenSpec.ofChange Rows.logSwapsSpec) false w args)
   (Rows.logSwapsSpec.post enc Tryz.prog Tryz.f4 false true false false):=by
 refine returnsInHanded_of_change_and (C:=Tryz.checked) (X:=fun w _=>laidMetH Tryz.prog Rows.logSwapsRow.laid w) (fun _ _ _ hh h=>h.of_heap hh) own started (by kernel_rfl) Tryz.func4
  (ChangeSpec.witness_shaped (enc:=enc) (C:=Tryz.checked) (os:=os) (X:=fun w _=>laidMetH Tryz.prog Rows.logSwapsRow.laid w) false (World.laidAll Tryz.prog os Rows.logSwapsRow.laid) #[.int .i64 0,.int .i64 0,.int .i64 0] 8 (World.laidAll_os _ _ _)
   (World.shaped_of_ZipB (by kernel_rfl) (by kernel_rfl)) (by kernel_rfl) (by kernel_rfl) (by kernel_rfl)
   (by rw[MakeChecks.laidMetH_plain _ _ _ (by kernel_rfl)];exact laidMet_laidAll _ (by kernel_rfl) (by kernel_rfl))) ?_
 intro W base args ds gs before mZ hW _ _ _ _;have kK:∀(j:Nat) t v,Tryz.f4.params[j]?=some t->args[j]?=some v->Value.okWide Tryz.prog W .any base t v:=mZ;have TN:=hW;obtain⟨p,q,Jl,hV,rfl,DG,vf⟩:=hW;have hA:DataW.TrodAll enc Tryz.prog W 0 (fun _=>true) true Tryz.f4.params.toList args.toList ds p:=Jl;rw[Tryz.params4]at hA kK;obtain⟨v0,vs0,d0,ds0,p0,q0,JL,rfl,rfl,h0,r0⟩:=trodAll_cons hA;obtain⟨v1,vs1,d1,ds1,p1,q1,rfl,rfl,rfl,h1,r1⟩:=trodAll_cons r0;obtain⟨v2,vs2,d2,ds2,p2,q2,rfl,rfl,rfl,h2,r2⟩:=trodAll_cons r1;obtain⟨rfl,rfl,rfl⟩:=trodAll_nil r2;obtain rfl:args=#[v0,v1,v2]:=by cases args;simp_all
 obtain⟨rfl,rfl⟩:=trodVars_none hV;obtain⟨a0,rfl,rfl,rfl,w0⟩:=open_int Tryz.underlying3 (kK 0 3 v0 rfl rfl) h0;obtain⟨a1,rfl,rfl,rfl,w1⟩:=open_int Tryz.underlying3 (kK 1 3 v1 rfl rfl) h1;obtain⟨a2,rfl,rfl,rfl,w2⟩:=open_int Tryz.underlying3 (kK 2 3 v2 rfl rfl) h2;clear Jl mZ;refine(Ij a0 a1 a2 W).mono fun e W' ⟨he,hH,hg⟩=>?_;subst he;have Lw:=mB hH hg;exact⟨_,rfl,_,_,_,[],_,[],TN,trodAll_mk1 (shut_bool Tryz.underlying4 _),(trodAll_cons_mk (shut_int Tryz.underlying3 w0) (trodAll_cons_mk (shut_int Tryz.underlying3 w1) (trodAll_cons_mk (shut_int Tryz.underlying3 w2) trodAll_mk0))),rfl,Lw.frame _,fun h=>by cases h⟩
theorem over:Rows.logSwapsRow.holds Tryz.pinned (OpenSpec.ofChange Rows.logSwapsSpec):=
 OpenClaim.holds_of_wide 4 Tryz.f4 rfl rfl rfl rfl rfl rfl rfl ⟨rfl,rfl,rfl,rfl,rfl⟩ rfl rfl rfl rfl rfl (by kernel_rfl) Tryz.func4 (by kernel_rfl)
  (of_decide_eq_true (by kernel_rfl)) (by unfold Func.isWrapper;first|(rw[if_pos (by decide+kernel)];kernel_rfl)|(rw[if_neg (by decide+kernel)];exact⟨rfl,rfl⟩))
  (fun os started H enc _=>lifted os started H enc)
theorem proved:Rows.LogSwapsCardSaid:=
 Claim7.holds_tied_plain_at .later [] [.data, .pinned] true (true, "79a7dd9590514200b518c3bbc5d5b4ee932f443178269afdd89765bc055c0421") true over (fun _ h=>by cases h) (by kernel_rfl) (fun _ h=>by cases h) logSwaps_row_tie rfl ⟨rfl,rfl⟩ (by kernel_rfl) rfl
  (fun f fn hf Jj=>by
   obtain rfl:f=4:=Option.some.inj ((show Tryz.prog.funcNamed Rows.logSwapsRow.func=some 4 by kernel_rfl).symm.trans hf)|>.symm;obtain rfl:fn=Tryz.f4:=(Option.some.inj (Tryz.func4.symm.trans Jj)).symm;exact⟨by kernel_rfl,fun j t ht=>by
    rw[Tryz.params4]at ht;have hm:t∈[3,3,3]:=by simpa using Array.mem_of_getElem? ht
    have eB:([3,3,3].all fun u=>!Tryz.prog.wantsStandIn u)=true:=by kernel_rfl
    exact(show Tryz.prog.wantsStandIn t=false by simpa using List.all_eq_true.1 eB t hm)⟩)
  (by kernel_rfl)
#print axioms proved
end Go.Proofs.YtalnifciidblkaaGreatDoor.logSwaps
