/-
  Lemmas.
-/
import Derived.Test.YtalnifciidblkaaGreatDoorG28
import Derived.Test.YtalnifciidblkaaGreatDoorRL17R
namespace Go.Proofs.YtalnifciidblkaaGreatDoor
set_option linter.unusedSimpArgs false
set_option maxRecDepth 20000
section
open Go.ChangeShapes Go.WideShapes Go.ChangeAt Go.RowKit Go.Deep
theorem Ky{n:Int}(h:(Lit.int .i64 n).wf=true):-9223372036854775808<=n∧n<=9223372036854775807:=by
 have h1:IntKind.min .i64=-9223372036854775808:=rfl;have h2:IntKind.max .i64=9223372036854775807:=rfl;simp only[Lit.wf,h1,h2,fW,decide_eq_true_eq]at h;exact h
theorem Dh{H:Type}{enc:TypeId×Value->H}{P:Program}{W:World}{spare:Nat->Bool}{held:Bool}{e:TypeId}{fs:Array Field}{fuel:Nat}{cs:List Value}{y:DataW H×List MemPlace}(he:P.underlying e=some (.struct fs))
  (h:DataW.trod enc P W 0 spare held fuel e cs=some y)(j:Nat)(f:Field)(hj:fs[j]?=some f)(o k:Nat)(ho:f.offset=o)(hk:P.cellsOf f.type=k):
  ∃(n:Nat) (y:DataW H×List MemPlace),DataW.trod enc P W 0 spare held n f.type ((cs.drop o).take k)=some y:=by
 obtain⟨ys,n',_,_,_,Lp,hf⟩:=DataW.trod_struct he h;have I6:j<fs.size:=(Array.getElem?_eq_some_iff.1 hj).1;have h1:=hf j f hj;rw[ho,hk,bF (by omega)]at h1;exact⟨_,_,h1⟩
theorem open_ent_cellsR{H:Type}{enc:TypeId×Value->H}{W:World}{spare:Nat->Bool}{held:Bool}{fuel:Nat}{cs:List Value}{y:DataW H×List MemPlace}(hl:cs.length=4)
  (hy:DataW.trod enc Tryz.prog W 0 spare held fuel 24 cs=some y):∃e:az,cs=e.cells∧Nt.vg ⟨false,e⟩:=by
 have hf:=pX Tryz.underlying24 (by kernel_rfl) (by rw[hl];rfl) hy;obtain⟨v0,n0,y0,e0,t0⟩:=hf 0 _ rfl;obtain⟨v1,n1,y1,e1,t1⟩:=hf 1 _ rfl;obtain⟨v2,n2,y2,e2,t2⟩:=hf 2 _ rfl;obtain⟨v3,n3,y3,e3,t3⟩:=hf 3 _ rfl;obtain⟨i0,r0,_,w0⟩:=DataW.trod_int Tryz.underlying22 t0;obtain⟨i1,r1,_,w1⟩:=DataW.trod_int Tryz.underlying3 t1;obtain⟨b2,r2,_⟩:=DataW.trod_bool Tryz.underlying4 t2;obtain⟨i3,r3,_,w3⟩:=DataW.trod_int Tryz.underlying3 t3;simp only[List.cons.injEq,and_true]at r0 r1 r2 r3;subst r0 r1 r2 r3
 match cs,hl with
 |[c0,c1,c2,c3],_=>
  simp only[iK,mS,Option.some.injEq]at e0 e1 e2 e3;subst e0 e1 e2 e3;exact⟨⟨i0,i1,b2,i3⟩,rfl,wU w0,Ky w1,Ky w3⟩
theorem open_note17{H:Type}{enc:TypeId×Value->H}{W:World}{spare:Nat->Bool}{held:Bool}{v:Value}{d:DataW H}{p:List MemPlace}(hv:Value.okWide Tryz.prog W .any 0 26 v)
  (h:DataW.Trod enc Tryz.prog W 0 spare held 26 v d p):∃n:Nt,v=n.agg∧n.vg:=by
 obtain⟨cs,rfl,hs⟩:=okWide_struct Tryz.underlying26 hv;obtain⟨fuel,hf⟩:=h;have hl:cs.toList.length=5:=by rw[vP,hs];kernel_rfl
 have hf:=Dh Tryz.underlying26 hf;obtain⟨n0,y0,t0⟩:=hf 0 _ rfl 0 1 rfl (by kernel_rfl);obtain⟨n1,y1,t1⟩:=hf 1 _ rfl 1 4 rfl (by kernel_rfl);obtain⟨cs⟩:=cs
 match cs,hl with
 |[c0,c1,c2,c3,c4],_=>
  simp only[Value.cells,List.drop_succ_cons,List.drop_zero,zc,List.take_zero]at t0 t1;obtain⟨b0,r0,_⟩:=DataW.trod_bool Tryz.underlying4 t0;obtain⟨e,re,we⟩:=open_ent_cellsR rfl t1;unfold az.cells at re;simp only[List.cons.injEq,and_true]at r0 re;obtain⟨q0,q1,q2,q3⟩:=re;subst r0 q0 q1 q2 q3;exact⟨⟨b0,e⟩,rfl,we⟩
theorem open_str17{H:Type}{enc:TypeId×Value->H}{W:World}{spare:Nat->Bool}{held:Bool}{v:Value}{d:DataW H}{p:List MemPlace}(hv:Value.okWide Tryz.prog W .any 0 9 v)
  (h:DataW.Trod enc Tryz.prog W 0 spare held 9 v d p):∃s,v=.string s:=by
 obtain⟨s,rfl,_⟩:=Go.ChangeMaps.open_string Tryz.underlying9 hv h;exact⟨s,rfl⟩
theorem Ac(v0:Value)(n:Nt)(a bb:Int)(v3:Value)(str:_)(W:World)(h0:v0=n.agg∧n.vg)(ha:(Lit.int .u64 a).wf=true)(hb:(Lit.int .u64 bb).wf=true)(h3:v3=.string str):Calls Tryz.prog 3 #[v0,.int .u64 a,.int .u64 bb,v3] W (cM (.bool true) W (ao W)):=by
 obtain⟨rfl,hn⟩:=h0;subst h3;exact Dg n a bb str W hn (wU ha) (wU hb)
end
end Go.Proofs.YtalnifciidblkaaGreatDoor
