/-
  What the arguments that come in are: mishaps, and acts of three numbers.
-/
import Derived.Test.YtoelopghilbfeaaGreatOpen
import Derived.Test.YtoelopghilbfeaaGreatNdA
namespace Go.Proofs.YtoelopghilbfeaaGreat
set_option linter.unusedSimpArgs false
open Go.ChangeShapes Go.WideShapes Go.ChangeAt Go.RowKit Go.Deep
theorem lit_u8M {n:Int} (h:(Lit.int .u8 n).wf=true):0≤n∧n<256:=by
 have h1:IntKind.min .u8=0:=rfl
 have h2:IntKind.max .u8=255:=rfl
 simp only [Lit.wf,h1,h2,Bool.and_eq_true,decide_eq_true_eq] at h
 omega
set_option maxRecDepth 20000 in
theorem open_ms {H:Type} {enc:TypeId × Value→H} {W:World} {spare:Nat→Bool} {held:Bool} {v:Value} {d:DataW H} {p:List MemPlace} (hv:Value.okWide Tryz.prog W .any 0 46 v)
  (h:DataW.Trod enc Tryz.prog W 0 spare held 46 v d p):∃ l:List Mi,MsAt W v l:=by
 obtain ⟨css,h1,h2⟩:=open_rows (size:=4) (Pc:=fun cs=>∃ x:Mi,cs=x.cells∧True) Tryz.underlying46 (by kernel_rfl) (by omega) (fun fuel cs y hl hy=>by
  have hf:=struct_fields Tryz.underlying48 (by kernel_rfl) (by rw [hl];rfl) hy
  obtain ⟨v0,n0,y0,e0,t0⟩:=hf 0 _ rfl
  obtain ⟨v1,n1,y1,e1,t1⟩:=hf 1 _ rfl
  obtain ⟨v2,n2,y2,e2,t2⟩:=hf 2 _ rfl
  obtain ⟨v3,n3,y3,e3,t3⟩:=hf 3 _ rfl
  obtain ⟨i0,r0,_,w0⟩:=DataW.trod_int Tryz.underlying3 t0
  obtain ⟨i1,r1,_,w1⟩:=DataW.trod_int Tryz.underlying3 t1
  obtain ⟨i2,r2,_,w2⟩:=DataW.trod_int Tryz.underlying3 t2
  obtain ⟨i3,r3,_,w3⟩:=DataW.trod_int Tryz.underlying5 t3
  simp only [List.cons.injEq,and_true] at r0 r1 r2 r3
  subst r0 r1 r2 r3
  have hb:=lit_u8M w3
  match cs,hl with
  |[c0,c1,c2,c3],_ =>
   simp only [List.getElem?_cons_zero,List.getElem?_cons_succ,Option.some.injEq] at e0 e1 e2 e3
   subst e0 e1 e2 e3
   refine ⟨⟨i0,i1,i2,UInt8.ofNat i3.toNat⟩,?_,trivial⟩
   unfold Mi.cells
   have:((UInt8.ofNat i3.toNat).toNat:Int)=i3:=by simp;omega
   show _=[Value.int .i64 i0,.int .i64 i1,.int .i64 i2,.int .u8 ((UInt8.ofNat i3.toNat).toNat:Int)]
   rw [this]) hv h
 obtain ⟨l,rfl,_⟩:=choose_map Mi.cells (fun _=>True) css (fun c hc=>(h2 c hc).2)
 exact ⟨l,by unfold MsAt;simpa using h1⟩
structure ActS where
 d:Int
 n:Int
 k:Int
def ActS.cells (x:ActS):List Value:=[.int .i64 x.d,.int .i64 x.n,.int .i64 x.k]
def ActsS (w:World) (v:Value) (l:List ActS):Prop:=ReadsAt w 3 v l.length (l.map ActS.cells).flatten
set_option maxRecDepth 20000 in
theorem open_acts16 {H:Type} {enc:TypeId × Value→H} {W:World} {spare:Nat→Bool} {held:Bool} {v:Value} {d:DataW H} {p:List MemPlace} (hv:Value.okWide Tryz.prog W .any 0 57 v)
  (h:DataW.Trod enc Tryz.prog W 0 spare held 57 v d p):∃ l:List ActS,ActsS W v l:=by
 obtain ⟨css,h1,h2⟩:=open_rows (size:=3) (Pc:=fun cs=>∃ x:ActS,cs=x.cells∧True) Tryz.underlying57 (by kernel_rfl) (by omega) (fun fuel cs y hl hy=>by
  have hf:=struct_fields Tryz.underlying68 (by kernel_rfl) (by rw [hl];rfl) hy
  obtain ⟨v0,n0,y0,e0,t0⟩:=hf 0 _ rfl
  obtain ⟨v1,n1,y1,e1,t1⟩:=hf 1 _ rfl
  obtain ⟨v2,n2,y2,e2,t2⟩:=hf 2 _ rfl
  obtain ⟨i0,r0,_,w0⟩:=DataW.trod_int Tryz.underlying3 t0
  obtain ⟨i1,r1,_,w1⟩:=DataW.trod_int Tryz.underlying3 t1
  obtain ⟨i2,r2,_,w2⟩:=DataW.trod_int Tryz.underlying3 t2
  simp only [List.cons.injEq,and_true] at r0 r1 r2
  subst r0 r1 r2
  match cs,hl with
  |[c0,c1,c2],_ =>
   simp only [List.getElem?_cons_zero,List.getElem?_cons_succ,Option.some.injEq] at e0 e1 e2
   subst e0 e1 e2
   exact ⟨⟨i0,i1,i2⟩,rfl,trivial⟩) hv h
 obtain ⟨l,rfl,_⟩:=choose_map ActS.cells (fun _=>True) css (fun c hc=>(h2 c hc).2)
 exact ⟨l,by unfold ActsS;simpa using h1⟩
end Go.Proofs.YtoelopghilbfeaaGreat
