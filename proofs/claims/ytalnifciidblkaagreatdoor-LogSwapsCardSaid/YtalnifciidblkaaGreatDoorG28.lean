/-
  Lemmas.
-/
import Derived.Test.YtalnifciidblkaaGreatDoorG16
import Derived.Test.YtalnifciidblkaaGreatDoorG12
import Derived.Test.YtalnifciidblkaaGreatDoorG02
namespace Go.Proofs.YtalnifciidblkaaGreatDoor
set_option linter.unusedSimpArgs false
set_option maxRecDepth 20000
section
open Go.ChangeShapes Go.WideShapes Go.ChangeAt Go.RowKit Go.Deep
theorem Y7{n:Int}(h:(Lit.int .u8 n).wf=true):0<=n∧n<256:=by
 have h1:IntKind.min .u8=0:=rfl;have h2:IntKind.max .u8=255:=rfl;simp only[Lit.wf,h1,h2,fW,decide_eq_true_eq]at h;omega
theorem open_ms{H:Type}{enc:TypeId×Value->H}{W:World}{spare:Nat->Bool}{held:Bool}{v:Value}{d:DataW H}{p:List MemPlace}(hv:Value.okWide Tryz.prog W .any 0 64 v)
  (h:DataW.Trod enc Tryz.prog W 0 spare held 64 v d p):∃l:List Mi,L6 W v l:=by
 obtain⟨Eu,h1,h2⟩:=open_rows (size:=4) (Pc:=fun cs=>∃x:Mi,cs=x.cells∧True) Tryz.underlying64 (by kernel_rfl) (by omega) (fun fuel cs y hl hy=>by
  have hf:=pX Tryz.underlying87 (by kernel_rfl) (by rw[hl];rfl) hy;obtain⟨v0,n0,y0,e0,t0⟩:=hf 0 _ rfl;obtain⟨v1,n1,y1,e1,t1⟩:=hf 1 _ rfl;obtain⟨v2,n2,y2,e2,t2⟩:=hf 2 _ rfl;obtain⟨v3,n3,y3,e3,t3⟩:=hf 3 _ rfl;obtain⟨i0,r0,_,w0⟩:=DataW.trod_int Tryz.underlying3 t0;obtain⟨i1,r1,_,w1⟩:=DataW.trod_int Tryz.underlying3 t1;obtain⟨i2,r2,_,w2⟩:=DataW.trod_int Tryz.underlying3 t2;obtain⟨i3,r3,_,w3⟩:=DataW.trod_int Tryz.underlying5 t3;simp only[List.cons.injEq,and_true]at r0 r1 r2 r3;subst r0 r1 r2 r3;have hb:=Y7 w3
  match cs,hl with
  |[c0,c1,c2,c3],_=>
   simp only[iK,mS,Option.some.injEq]at e0 e1 e2 e3;subst e0 e1 e2 e3;refine⟨⟨i0,i1,i2,UInt8.ofNat i3.toNat⟩,?_,trivial⟩;unfold Mi.cells;have:((UInt8.ofNat i3.toNat).toNat:Int)=i3:=by simp;omega
   show _=[Value.int .i64 i0,.int .i64 i1,.int .i64 i2,.int .u8 ((UInt8.ofNat i3.toNat).toNat:Int)];rw[this]) hv h
 obtain⟨l,rfl,_⟩:=uY Mi.cells (fun _=>True) Eu (fun c hc=>(h2 c hc).2);exact⟨l,by unfold L6;simpa using h1⟩
structure aix where
 d:Int
 n:Int
 k:Int
def aix.cells(x:aix):List Value:=[.int .i64 x.d,.int .i64 x.n,.int .i64 x.k]
end
section
open Go.ChangeShapes Go.WideShapes Go.ChangeAt Go.RowKit Go.Deep
structure sB where
 d:Int
 n:Int
 a:Int
 y:Bool
def sB.cells(x:sB):List Value:=[.int .i64 x.d,.int .i64 x.n,.int .u64 x.a,.bool x.y]
def sB.ok(x:sB):Prop:=0<=x.a∧x.a<18446744073709551616
def EE(w:World)(v:Value)(l:List sB):Prop:=ag w 4 v l.length (l.map sB.cells).flatten
theorem wU{n:Int}(h:(Lit.int .u64 n).wf=true):0<=n∧n<18446744073709551616:=by
 have h1:IntKind.min .u64=0:=rfl;have h2:IntKind.max .u64=18446744073709551615:=rfl;simp only[Lit.wf,h1,h2,fW,decide_eq_true_eq]at h;omega
theorem open_acts17{H:Type}{enc:TypeId×Value->H}{W:World}{spare:Nat->Bool}{held:Bool}{v:Value}{d:DataW H}{p:List MemPlace}(hv:Value.okWide Tryz.prog W .any 0 65 v)
  (h:DataW.Trod enc Tryz.prog W 0 spare held 65 v d p):∃l:List sB,EE W v l∧∀x∈l,x.ok:=by
 obtain⟨Eu,h1,h2⟩:=open_rows (size:=4) (Pc:=fun cs=>∃x:sB,cs=x.cells∧x.ok) Tryz.underlying65 (by kernel_rfl) (by omega) (fun fuel cs y hl hy=>by
  have hf:=pX Tryz.underlying78 (by kernel_rfl) (by rw[hl];rfl) hy;obtain⟨v0,n0,y0,e0,t0⟩:=hf 0 _ rfl;obtain⟨v1,n1,y1,e1,t1⟩:=hf 1 _ rfl;obtain⟨v2,n2,y2,e2,t2⟩:=hf 2 _ rfl;obtain⟨v3,n3,y3,e3,t3⟩:=hf 3 _ rfl;obtain⟨i0,r0,_,w0⟩:=DataW.trod_int Tryz.underlying3 t0;obtain⟨i1,r1,_,w1⟩:=DataW.trod_int Tryz.underlying3 t1;obtain⟨i2,r2,_,w2⟩:=DataW.trod_int Tryz.underlying22 t2;obtain⟨b3,r3,_⟩:=DataW.trod_bool Tryz.underlying4 t3;simp only[List.cons.injEq,and_true]at r0 r1 r2 r3;subst r0 r1 r2 r3
  match cs,hl with
  |[c0,c1,c2,c3],_=>
   simp only[iK,mS,Option.some.injEq]at e0 e1 e2 e3;subst e0 e1 e2 e3;exact⟨⟨i0,i1,i2,b3⟩,rfl,wU w2⟩) hv h
 obtain⟨l,rfl,hl⟩:=uY sB.cells sB.ok Eu (fun c hc=>(h2 c hc).2);exact⟨l,by unfold EE;simpa using h1,hl⟩
end
end Go.Proofs.YtalnifciidblkaaGreatDoor
