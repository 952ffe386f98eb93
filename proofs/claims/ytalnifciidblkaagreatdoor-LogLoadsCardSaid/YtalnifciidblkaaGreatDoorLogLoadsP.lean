/-
  LogLoads: loaded again it is the same, and its store needs just its own pages and those that its entries name; numbers go on rising.
-/
import Derived.Test.YtalnifciidblkaaGreatDoorHL17L
import Derived.Test.YtalnifciidblkaaGreatDoorG16
import Derived.Test.YtalnifciidblkaaGreatDoorTie
import Derived.Test.YtalnifciidblkaaGreatDoorCards
import Derived.Lay
import Derived.LaidMore
import Derived.SevenTiedAt
namespace Go.Proofs.YtalnifciidblkaaGreatDoor.logLoads
set_option linter.unusedVariables false
set_option maxRecDepth 100000
open Go.ChangeShapes Go.WideShapes Go.ChangeAt Go.RowKit
theorem lifted(os:Os)(started:os.Started)(H:Type)(enc:TypeId×Value->H):
  ReturnsInHanded {} Tryz.checked os 6 .any (fun w args=>(Rows.logLoadsSpec.pre enc Tryz.prog Tryz.f6 Rows.logLoadsRow.domain false w args∧laidMetH Tryz.prog Rows.logLoadsRow.laid w)∧sizedMet enc Tryz.prog Tryz.f6 (OpenSpec.ofChange Rows.logLoadsSpec) false w args)
   (Rows.logLoadsSpec.post enc Tryz.prog Tryz.f6 false true false false):=by
 refine returnsInHanded_of_change_and (C:=Tryz.checked) (X:=fun w _=>laidMetH Tryz.prog Rows.logLoadsRow.laid w) (fun _ _ _ hh h=>h.of_heap hh) own started (by kernel_rfl) Tryz.func6
  (ChangeSpec.witness_shaped (enc:=enc) (C:=Tryz.checked) (os:=os) (X:=fun w _=>laidMetH Tryz.prog Rows.logLoadsRow.laid w) false (World.laidAll Tryz.prog os Rows.logLoadsRow.laid) #[.slice none 0 0] 8 (World.laidAll_os _ _ _)
   (World.shaped_of_ZipB (by kernel_rfl) (by kernel_rfl)) (by kernel_rfl) (by kernel_rfl) (by kernel_rfl)
   (by rw[MakeChecks.laidMetH_plain _ _ _ (by kernel_rfl)];exact laidMet_laidAll _ (by kernel_rfl) (by kernel_rfl))) ?_
 intro W base args ds gs before mZ hW _ _ _ _;have kK:∀(j:Nat) t v,Tryz.f6.params[j]?=some t->args[j]?=some v->Value.okWide Tryz.prog W .any base t v:=mZ;have TN:=hW;obtain⟨p,q,Jl,hV,rfl,DG,vf⟩:=hW;have hA:DataW.TrodAll enc Tryz.prog W 0 (fun _=>true) true Tryz.f6.params.toList args.toList ds p:=Jl;rw[Tryz.params6]at hA kK;obtain⟨v0,vs0,d0,ds0,p0,q0,JL,rfl,rfl,h0,r0⟩:=trodAll_cons hA;obtain⟨rfl,rfl,rfl⟩:=trodAll_nil r0;obtain rfl:args=#[v0]:=by cases args;simp_all
 obtain⟨rfl,rfl⟩:=trodVars_none hV;have lt0:∀x∈p0,x.block<W.heap.size:=by obtain⟨m,hm⟩:=h0;exact DataW.trod_lt m _ _ _ hm
 obtain⟨a0,w0⟩:=open_acts17 (kK 0 65 v0 rfl rfl) h0;clear Jl mZ;refine(Ih v0 a0 W w0).mono fun e W' ⟨he,hH,hg⟩=>?_;subst he;have Lw:=mB hH hg;exact⟨_,rfl,_,_,_,[],_,[],TN,trodAll_mk1 (shut_bool Tryz.underlying4 _),(trodAll_cons_mk (Below.trod laidOut (by kernel_rfl) (of_decide_eq_true (by kernel_rfl)) h0 Lw lt0) trodAll_mk0),rfl,Lw.frame _,fun h=>by cases h⟩
theorem over:Rows.logLoadsRow.holds Tryz.pinned (OpenSpec.ofChange Rows.logLoadsSpec):=
 OpenClaim.holds_of_wide 6 Tryz.f6 rfl rfl rfl rfl rfl rfl rfl ⟨rfl,rfl,rfl,rfl,rfl⟩ rfl rfl rfl rfl rfl (by kernel_rfl) Tryz.func6 (by kernel_rfl)
  (of_decide_eq_true (by kernel_rfl)) (by unfold Func.isWrapper;first|(rw[if_pos (by decide+kernel)];kernel_rfl)|(rw[if_neg (by decide+kernel)];exact⟨rfl,rfl⟩))
  (fun os started H enc _=>lifted os started H enc)
theorem proved:Rows.LogLoadsCardSaid:=
 Claim7.holds_tied_plain_at .later [] [.data, .pinned] true (true, "79a7dd9590514200b518c3bbc5d5b4ee932f443178269afdd89765bc055c0421") true over (fun _ h=>by cases h) (by kernel_rfl) (fun _ h=>by cases h) logLoads_row_tie rfl ⟨rfl,rfl⟩ (by kernel_rfl) rfl
  (fun f fn hf Jj=>by
   obtain rfl:f=6:=Option.some.inj ((show Tryz.prog.funcNamed Rows.logLoadsRow.func=some 6 by kernel_rfl).symm.trans hf)|>.symm;obtain rfl:fn=Tryz.f6:=(Option.some.inj (Tryz.func6.symm.trans Jj)).symm;exact⟨by kernel_rfl,fun j t ht=>by
    rw[Tryz.params6]at ht;have hm:t∈[65]:=by simpa using Array.mem_of_getElem? ht
    have eB:([65].all fun u=>!Tryz.prog.wantsStandIn u)=true:=by kernel_rfl
    exact(show Tryz.prog.wantsStandIn t=false by simpa using List.all_eq_true.1 eB t hm)⟩)
  (by kernel_rfl)
#print axioms proved
end Go.Proofs.YtalnifciidblkaaGreatDoor.logLoads
