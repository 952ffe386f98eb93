/-
  Lemmas.
-/
import Derived.Test.YtalnifciidblkaaGreatDoorG26
import Derived.Test.YtalnifciidblkaaGreatDoorG09
import Derived.Test.YtalnifciidblkaaGreatDoorG21
import Derived.Test.YtalnifciidblkaaGreatDoorG29
import Derived.Test.YtalnifciidblkaaGreatDoorG20
import Derived.Test.YtalnifciidblkaaGreatDoorG33
import Derived.Maps.Keyed
import Derived.Carry
import Derived.Test.YtalnifciidblkaaGreatDoorG16
import Derived.Test.YtalnifciidblkaaGreatDoorG00
namespace Go.Proofs.YtalnifciidblkaaGreatDoor
open _root_.Go.Proofs.Tryz
open Go.RowKit
set_option linter.unusedSimpArgs false
set_option linter.unusedVariables false
set_option maxRecDepth 20000
set_option maxHeartbeats 8000000
section
variable{b g cap:Nat}{mv:Value}{c:CM}{H Fr:HL}{w:World}
def CM.dX(c:CM)(k:Nat)(x:CB):CM×Int:=
 let r:=c.jE true
 if r.2.2≠0 then(r.1,r.2.2)else if r.2.1.kind=2 then({r.1 with on:=false},4)else(r.1.db k {x with mark:=true},0)
theorem QE(k:Nat)(x:CB)(h:ai b g cap mv c H)(hH:Holds w (H++Fr))(fI:c.ops<1000000000000)(hx:c.blocks[k]?=some x):
  Calls Tryz.prog 147 #[.pointer (some ⟨b,0,none⟩),.int .i64 (k:Int)] w (BV b g cap mv (c.dX k x) w Fr):=by
 have FM:c.there (k:Int)=true:=by have:=(List.getElem?_eq_some_iff.1 hx).1;unfold CM.there;exact decide_eq_true (by omega)
 have HT:=aa (kQ (w:=w) (k:Int) h hH);rw[FM]at HT;clear FM;have h32:=h.o7.2.2.2.2.2.1;have og:=h.Bl;unfold maxLen at og;have Tc:=rm (w:=w) true h hH (by omega);have cm:c.dX k x=if(c.jE true).2.2≠0 then((c.jE true).1,(c.jE true).2.2)else if(c.jE true).2.1.kind=2 then({(c.jE true).1 with on:=false},4)else((c.jE true).1.db k {x with mark:=true},0):=rfl;have k1:=cS;have k2:=cC;have HX:=aa hx;have Ai:=yp c true;obtain⟨⟨c9,⟨ma,mk,mb,mf⟩,ec⟩,u9⟩:∃r,r=c.jE true:=⟨_,rfl⟩;rw[<-u9]at Ai cm Tc;simp only at Ai cm;have IJ:=aa Ai;have HB9:=aa Tc;have jo:=aa cm;clear h hx cm Ai Tc u9;go_enter func147,ntmps147;go_wp2_with fail
 refine HT.o.mono ?_;rintro e wx⟨rfl,rfl⟩;clear HT;go_wp2_with fail
 refine HB9.o.mono ?_;rintro e w1⟨ve,H1,He,G,rfl,he,ff,ax,aK⟩;simp only[Mi.agg,bh]at he ff ax⊢;have sc:=aa ff;have Ir:=aa (ax.alloc (.cells #[.int .i64 ma,.int .i64 mk,.int .i64 mb,.int .u8 (mf.toNat:Int)] 87));have cJ:=aK.alloc (.cells #[.int .i64 ma,.int .i64 mk,.int .i64 mb,.int .u8 (mf.toNat:Int)] 87);clear ff;by_cases pc:ec=0
 ·subst pc;obtain⟨rfl,rfl⟩:=de he;obtain⟨h9,_,fi⟩:(c9,(⟨ma,mk,mb,mf⟩:Mi),(0:Int))=({c with ops:=c.ops+1},c.mi,0)∧True∧c.on=true:=by
   rcases IJ.o with⟨h1,_⟩|⟨h1,_,h3⟩
   ·exact absurd rfl h1
   ·exact⟨h1,trivial,h3⟩
  injection h9 with h9 Td;have Lk:=aa (show c9.blocks[k]?=some x by rw[h9];exact HX.o);have dZ:Holds (w1.alloc (.cells #[.int .i64 ma,.int .i64 mk,.int .i64 mb,.int .u8 (mf.toNat:Int)] 87)) (H1++(G++((w1.heap.size,.cells #[.int .i64 ma,.int .i64 mk,.int .i64 mb,.int .u8 (mf.toNat:Int)] 87)::Fr))):=Ir.o.p;have d3:=(sc.o.gX dZ).2.2.2.1;have Gb:c9.blocks.length=c.blocks.length:=by rw[h9]
  rw[Gb]at d3;have Dn:k<c.blocks.length:=(List.getElem?_eq_some_iff.1 HX.o).1;obtain⟨z0,z1,z2,z3,_⟩:=Ir.o.hJ;have XO:=aa (show c.dX k x=if mk=2 then({c9 with on:=false},4)else(c9.db k {x with mark:=true},0) by rw[jo.o,if_neg (by simp)]);clear he Ir ax h9 Td fi jo;by_cases qO:mk=2
  ·subst qO;have gO:=aa (show c.dX k x=({c9 with on:=false},4) by rw[XO.o,if_pos rfl]);have HDK:=aa (nX sc.o dZ);clear dZ XO;go_wp2_with fail
   refine HDK.o.mono ?_;rintro e w9⟨ve9,H9,Is,rfl,p5,xu,di,jG⟩;have Tg:=aa p5;have Dq:=aa xu;clear p5 xu;go_wp2_with fail
   go_ret;rw[gO.o];exact⟨G++[(w1.heap.size,.cells #[.int .i64 ma,.int .i64 2,.int .i64 mb,.int .u8 (mf.toNat:Int)] 87)],_,H9,Is,rfl,Tg.o,Dq.o,di.p,cJ.trans jG⟩
  ·have am4:(mk==2)=false:=by simpa using qO
   have gO:=aa (show c.dX k x=(c9.db k {x with mark:=true},0) by rw[XO.o,if_neg qO]);obtain⟨pv,hB⟩:=sc.o.open_ Lk.o;have d4:=(hB.cells _ _ dZ).2.2.2.2.1;have f4:=(hB.cells _ _ dZ).2.2.2.2.2.2.2.2.2;obtain⟨H9,xu,di⟩:=hB.P5 _ _ true dZ;have Dq:=aa xu;have DJ:=aa di;have iU:=cJ.setCell ⟨g,k*5+4,none⟩ (.bool true);clear hB xu di dZ XO qO;go_wp2_with fail
   go_ret;rw[gO.o];exact⟨G++[(w1.heap.size,.cells #[.int .i64 ma,.int .i64 mk,.int .i64 mb,.int .u8 (mf.toNat:Int)] 87)],.nilIface,H9,[],rfl,bJ.none,Dq.o,DJ.o.p,iU⟩
 ·obtain⟨b9,s9,rfl,_⟩:=cI he pc;have gO:=aa (show c.dX k x=(c9,ec) by rw[jo.o,if_pos pc]);have HE:=aa he;clear he jo pc ax;go_wp2_with fail
  go_ret;rw[gO.o];exact⟨G++[(w1.heap.size,.cells #[.int .i64 ma,.int .i64 mk,.int .i64 mb,.int .u8 (mf.toNat:Int)] 87)],_,H1,He,rfl,HE.o,sc.o,Ir.o.p,cJ⟩
end
theorem Holds.aaM{w:World}{b:Nat}{o:Obj}{H:HL}(h:Holds w ((b,o)::H))(o':Obj):Holds (Go.ChangeMaps.setBlock w b o') ((b,o')::H):=by
 refine⟨fun c=>?_,fun p hp=>?_⟩
 ·have:=h.one c;rw[bU]at this⊢;exact this
 ·have hb:b<w.heap.size:=h.lt (p:=(b,o)) (by simp);rcases List.mem_cons.1 hp with rfl|hp
  ·simp[Go.ChangeMaps.setBlock,hb]
  ·have ei:b≠p.1:=Holds.apart (A:=[(b,o)]) (B:=H) h (x:=(b,o)) (by simp) hp;have:=h.mem p (fA _ hp);simp only[Go.ChangeMaps.setBlock];rw[Array.getElem?_setIfInBounds_ne ei];exact this
theorem af.aaM{a w:World}(h:af a w)(b:Nat)(o:Obj):af a (Go.ChangeMaps.setBlock w b o):=⟨h.os,h.tape,h.output,by have:=h.size;simp only[Go.ChangeMaps.setBlock,Array.size_setIfInBounds];exact this⟩
def vH(es:List MapEntry)(hs:List (Int×Hd)):Prop:=es.map (fun e=>(e.key,e.val))=hs.map fun p=>(.int .i64 p.1,p.2.agg)
def aq(hs:List (Int×Hd))(a:Int):Option Hd:=(hs.find? fun p=>p.1==a).map (·.2)
def pN(hs:List (Int×Hd))(a:Int)(h:Hd):List (Int×Hd):=match hs.findIdx? fun p=>p.1==a with|some i=>hs.set i (a,h)|none=>hs++[(a,h)]
def vI(hs:List (Int×Hd))(a:Int):List (Int×Hd):=match hs.findIdx? fun p=>p.1==a with|some i=>hs.eraseIdx i|none=>hs
structure uB(hs:List (Int×Hd)):Prop where
 nodup:(hs.map (·.1)).Nodup
 rng:∀p∈hs,0<=p.1∧p.1<=1000000
theorem sG:Go.Maps.Keyed Tryz.prog 3:=Go.Maps.int_keyed Tryz.underlying3
theorem P7{a:Int}(h0:0<=a)(h1:a<=9223372036854775807):keyOf Tryz.prog 3 (.int .i64 a)=some (.int .i64 a):=Go.Maps.keyOf_int_mk Tryz.underlying3 (by
 have h1:IntKind.min .i64=-9223372036854775808:=rfl;have h2:IntKind.max .i64=9223372036854775807:=rfl;simp only[Lit.wf,h1,h2,fW,decide_eq_true_eq];omega)
theorem vH.len{es:List MapEntry}{hs:List (Int×Hd)}(h:vH es hs):es.length=hs.length:=by have:=congrArg List.length h;simpa using this
theorem vH.get{es:List MapEntry}{hs:List (Int×Hd)}(h:vH es hs)(i:Nat)(h1:i<es.length)(h2:i<hs.length):es[i].key=.int .i64 hs[i].1∧es[i].val=hs[i].2.agg:=by
 have h3:(es.map fun e=>(e.key,e.val))[i]?=(hs.map fun p=>(Value.int .i64 p.1,p.2.agg))[i]?:=by rw[show es.map _=_ from h]
 rw[dW,dW,bF h1,bF h2]at h3;simpa using h3
theorem GG{es:Array MapEntry}{hs:List (Int×Hd)}(h:vH es.toList hs)(yW:uB hs){a:Int}(h0:0<=a)(h1:a<=9223372036854775807)(w:World):
  ((hs.findIdx? fun p=>p.1==a)=none∧(Instr.findKey 3 (.int .i64 a) es.toList).run Tryz.prog w=.ok none w∧∀e∈es.toList,e.key≠.int .i64 a)∨
  ∃j e,(hs.findIdx? fun p=>p.1==a)=some j∧(Instr.findKey 3 (.int .i64 a) es.toList).run Tryz.prog w=.ok (some (j,e.val)) w∧es.toList[j]?=some e∧e.key=.int .i64 a:=by
 have hlen:=h.len;have hks:∀e∈es.toList,∃l,keyOf Tryz.prog 3 e.key=some l:=by
  intro e he;obtain⟨i,hi,rfl⟩:=List.mem_iff_getElem.1 he;rw[(h.get i hi (by omega)).1];have:=yW.rng _ (cX (show i<hs.length by omega));exact⟨_,P7 this.1 (by omega)⟩
 rcases sG.find w (P7 h0 h1) es.toList hks with⟨h1,h2⟩|⟨j,e,h1,h2,h3⟩
 ·refine .inl ⟨?_,h1,h2⟩;rw[List.findIdx?_eq_none_iff];intro p hp;obtain⟨i,hi,rfl⟩:=List.mem_iff_getElem.1 hp;have:=h2 _ (cX (show i<es.toList.length by omega));rw[(h.get i (by omega) hi).1]at this;simpa using this
 ·obtain⟨hj,he⟩:=List.getElem?_eq_some_iff.1 h2;refine .inr ⟨j,e,?_,h1,h2,h3⟩;have hjM:j<hs.length:=by omega
  have hk:=(h.get j hj hjM).1;rw[he,h3]at hk;have hja:hs[j].1=a:=by simp only[Value.int.injEq,true_and]at hk;exact hk.symm
  rw[List.findIdx?_eq_some_iff_getElem];refine⟨hjM,by simpa using hja,fun i rF=>?_⟩;have:=List.pairwise_iff_getElem.1 yW.nodup i j (by simp;omega) (by simpa using hjM) rF;simp only[List.getElem_map]at this;simp only[beq_iff_eq];intro hia;exact this (hia.trans hja.symm)
theorem MY{hs:List (Int×Hd)}{a:Int}(h:(hs.findIdx? fun p=>p.1==a)=none):aq hs a=none:=by
 unfold aq;rw[List.find?_eq_none.2 fun p hp=>by simpa using(List.findIdx?_eq_none_iff.1 h) p hp];rfl
theorem CF{hs:List (Int×Hd)}{a:Int}{j:Nat}(h:(hs.findIdx? fun p=>p.1==a)=some j):∃hj:j<hs.length,hs[j].1=a∧aq hs a=some hs[j].2:=by
 obtain⟨hj,h1,h2⟩:=List.findIdx?_eq_some_iff_getElem.1 h;refine⟨hj,by simpa using h1,?_⟩;unfold aq;have:hs.find? (fun p=>p.1==a)=some hs[j]:=by
  rw[List.find?_eq_some_iff_getElem];exact⟨h1,j,hj,rfl,fun i hi=>by simpa using h2 i hi⟩
 rw[this];rfl
theorem YO{w:World}{mb clock:Nat}{es:Array MapEntry}{hs:List (Int×Hd)}(hb:w.heap[mb]?=some (.map es clock))(h:vH es.toList hs)(yW:uB hs){a:Int}(h0:0<=a)(h1:a<=9223372036854775807):
  (Instr.lookup 105 (.map (some mb)) (.int .i64 a) true).run Tryz.prog w=.ok (.tuple #[((aq hs a).getD Hd.zero).agg,.bool (aq hs a).isSome]) w:=by
 have hz:(zeroValue 59).run Tryz.prog w=.ok Hd.zero.agg w:=by kernel_rfl
 rcases GG h yW h0 h1 w with⟨g1,g2,g3⟩|⟨j,e,g1,g2,g3,g4⟩
 ·rw[MY g1];simp[Instr.lookup,run_underlying Tryz.underlying105,Go.MapKept.run_getObj_map hb,sG.check w _ (P7 h0 h1),g2,hz,Result.andThen]
 ·obtain⟨hj,e1,e2⟩:=CF g1;rw[e2];obtain⟨hj2,he⟩:=List.getElem?_eq_some_iff.1 g3;have e3:=(h.get j hj2 hj).2;rw[he]at e3;simp[Instr.lookup,run_underlying Tryz.underlying105,Go.MapKept.run_getObj_map hb,sG.check w _ (P7 h0 h1),g2,e3,Result.andThen]
theorem GY{es:Array MapEntry}{j:Nat}{e:MapEntry}(he:es.toList[j]?=some e)(f:MapEntry->MapEntry):(es.modify j f).toList=es.toList.set j (f e):=by
 rw[Array.toList_modify,Go.ChangeMaps.modify_eq_set _ _ _ _ he]
theorem pV{α β:Type}(f:α->β):∀(l:List α) (i:Nat),(l.eraseIdx i).map f=(l.map f).eraseIdx i
 |[],_=>rfl
 |_::_,0=>rfl
 |x::l,i+1=>by simp[pV f l i]
theorem adC{w:World}{mb clock:Nat}{es:Array MapEntry}{hs:List (Int×Hd)}(hb:w.heap[mb]?=some (.map es clock))(h:vH es.toList hs)(yW:uB hs)(bD:Go.MapKept.Stamped es clock){a:Int}(h0:0<=a)(h1:a<=1000000)(x:Hd):
  ∃nk Vd,(Instr.mapUpdate 105 (.map (some mb)) (.int .i64 a) x.agg).run Tryz.prog w=.ok () (Go.ChangeMaps.setBlock w mb (.map nk Vd))∧Go.MapKept.Stamped nk Vd∧vH nk.toList (pN hs a x):=by
 have hk:=P7 h0 (show a<=9223372036854775807 by omega);rcases GG h yW h0 (show a<=9223372036854775807 by omega) w with⟨h1,h2,h3⟩|⟨j,e,h1,h2,h3,h4⟩
 ·refine⟨es.push ⟨.int .i64 a,x.agg,clock⟩,clock+1,?_,Go.MapKept.stamped_push bD h3,?_⟩
  ·simp[Instr.mapUpdate,run_underlying Tryz.underlying105,Go.MapKept.run_getObj_map hb,sG.check w false hk,h2,Go.MapKept.run_setObj_map _ hb,Result.andThen,Go.ChangeMaps.setBlock]
  ·unfold pN vH;rw[h1,Array.toList_push,dm,dm,show es.toList.map _=_ from h];rfl
 ·have hj:es[j]?=some e:=by simpa using h3
  have ai6:∀e',es[j]?=some e'->({e' with key:=.int .i64 a,val:=x.agg}:MapEntry).key=e'.key:=fun e' he'=>by rw[hj]at he';cases he';exact h4.symm
  refine⟨es.modify j (fun e'=>{e' with key:=.int .i64 a,val:=x.agg}),clock,?_,Go.MapKept.stamped_modify bD _ _ (fun _ _=>rfl) (fun e' _ he'=>ai6 e' he'),?_⟩
  ·simp[Instr.mapUpdate,run_underlying Tryz.underlying105,Go.MapKept.run_getObj_map hb,sG.check w false hk,h2,hj,h4,sG.stays w hk,Go.MapKept.run_setObj_map _ hb,Result.andThen,Go.ChangeMaps.setBlock]
  ·unfold pN vH;rw[h1,GY h3,List.map_set,List.map_set,show es.toList.map _=_ from h]
theorem adD{w:World}{mb clock:Nat}{es:Array MapEntry}{hs:List (Int×Hd)}(hb:w.heap[mb]?=some (.map es clock))(h:vH es.toList hs)(yW:uB hs)(bD:Go.MapKept.Stamped es clock){a:Int}(h0:0<=a)(h1:a<=1000000):
  ∃nk,(∀ty,(Builtin.delete_ #[105,3] ty #[.map (some mb),.int .i64 a]).run Tryz.prog w=.ok (.tuple #[]) (Go.ChangeMaps.setBlock w mb (.map nk clock)))∧Go.MapKept.Stamped nk clock∧vH nk.toList (vI hs a):=by
 have hk:=P7 h0 (show a<=9223372036854775807 by omega);rcases GG h yW h0 (show a<=9223372036854775807 by omega) w with⟨h1,h2,h3⟩|⟨j,e,h1,h2,h3,h4⟩
 ·refine⟨es,fun ty=>?_,bD,?_⟩
  ·simp[Builtin.delete_,run_underlying Tryz.underlying105,Go.MapKept.run_getObj_map hb,sG.check w _ hk,h2,Go.MapKept.run_setObj_map _ hb,Result.andThen,Go.ChangeMaps.setBlock]
  ·unfold vI;rw[h1];exact h
 ·have I6:j<es.toList.length:=(List.getElem?_eq_some_iff.1 h3).1;have Wt:j<es.size:=by simpa using I6
  have XS:(es.eraseIdxIfInBounds j).toList=es.toList.eraseIdx j:=by
   unfold Array.eraseIdxIfInBounds;rw[dif_pos Wt];simp
  refine⟨es.eraseIdxIfInBounds j,fun ty=>?_,Go.MapKept.stamped_erase bD j,?_⟩
  ·simp[Builtin.delete_,run_underlying Tryz.underlying105,Go.MapKept.run_getObj_map hb,sG.check w _ hk,h2,Go.MapKept.run_setObj_map _ hb,Result.andThen,Go.ChangeMaps.setBlock]
  ·unfold vI vH;rw[h1,XS,pV,pV,show es.toList.map _=_ from h]
structure SM where
 B:Nat
 P:Nat
 Z:Nat
 y:List YB
 hs:List (Int×Hd)
 op:Int
def FR(yb cb mb:Nat)(s:SM):Obj:=.cells #[.pointer (some ⟨yb,0,none⟩),.pointer (some ⟨cb,0,none⟩),.int .i64 (s.B:Int),.int .i64 (s.P:Int),.int .i64 (s.Z:Int),.map (some mb),.int .i64 s.op] 107
def cr(b cb:Nat)(s:SM)(H:HL):Prop:=
 ∃yb mb es clock Hy,dw (.pointer (some ⟨yb,0,none⟩)) s.y Hy∧vH es.toList s.hs∧Go.MapKept.Stamped es clock∧uB s.hs∧lH s.B s.P s.Z=true∧(-1<=s.op∧s.op<s.B)∧s.y.length=s.B∧
  H=(b,FR yb cb mb s)::((mb,.map es clock)::Hy)
theorem cr.sm{b cb:Nat}{s:SM}{H:HL}(h:cr b cb s H):lH s.B s.P s.Z=true:=by obtain⟨_,_,_,_,_,_,_,_,_,h,_⟩:=h;exact h
section
variable{b cb g cap:Nat}{mv:Value}{c:CM}{s:SM}{H Hc Fr:HL}{w:World}
theorem cr.cells(h:cr b cb s H):∃yb mb,∀(w:World) (F:HL),Holds w (H++F)->w.cell? ⟨b,0,none⟩=some (.pointer (some ⟨yb,0,none⟩))∧w.cell? ⟨b,1,none⟩=some (.pointer (some ⟨cb,0,none⟩))∧
  w.cell? ⟨b,2,none⟩=some (.int .i64 (s.B:Int))∧w.cell? ⟨b,3,none⟩=some (.int .i64 (s.P:Int))∧w.cell? ⟨b,4,none⟩=some (.int .i64 (s.Z:Int))∧w.cell? ⟨b,5,none⟩=some (.map (some mb))∧w.cell? ⟨b,6,none⟩=some (.int .i64 s.op):=by
 obtain⟨yb,mb,es,clock,Hy,_,_,_,_,_,_,_,rfl⟩:=h;exact⟨yb,mb,fun w F hX=>⟨hX.ae 0,hX.ae 1,hX.ae 2,hX.ae 3,hX.ae 4,hX.ae 5,hX.ae 6⟩⟩
def dK(s:SM)(c:CM):Int:=if s.op=-1 then 0 else(s.P:Int)-c.bu s.op
theorem wj(h:c.ok)(k:Int):0<=c.bu k∧c.bu k<=8:=by
 unfold CM.bu;cases hb:c.pY k with
 |none=>simp
 |some x=>
  obtain⟨i,rfl,hi,hx,_⟩:=CM.lN hb;have h2:=h.2.2.2.2.2.2.2.2.2.2.2.2.2 x (gD hx);have h3:=h.2.1;unfold CB.ok at h2;simp only;omega
theorem JW(h:cr b cb s H)(cz:ai cb g cap mv c Hc)(hH:Holds w (H++(Hc++Fr))):Calls Tryz.prog 66 #[.pointer (some ⟨b,0,none⟩)] w (zQ w (.int .i64 (dK s c))):=by
 obtain⟨yb,mb,bm⟩:=h.cells;have HN:=aa (fun q=>yo s.op cz ((hH.right).drewN q));have WA:=wj cz.o7 s.op;have DK:=bO h.sm;obtain⟨x0,x1,x2,x3,x4,x5,x6⟩:=bm w _ hH;have HL:=aa (show dK s c=if s.op=-1 then 0 else(s.P:Int)-c.bu s.op from rfl);generalize dK s c=r at*;obtain⟨B,P,Z,y,hs,op⟩:=s;dsimp only at*;clear h cz hH bm;generalize c.bu op=nx at*;by_cases ho:op=-1
 ·have e1:(op== -1)=true:=by simpa using ho
  rw[if_pos ho]at HL;go_enter func66,ntmps66;go_wp2_with fail
  go_ret;rw[HL.o];exact⟨rfl,0,rfl⟩
 ·have e1:(op== -1)=false:=by simpa using ho
  rw[if_neg ho]at HL;go_enter func66,ntmps66;go_wp2_with fail
  go_quiet ((go_at_call 83;exact adl (HN.o _)))
  go_wp2_with fail
  go_ret;rw[HL.o];exact⟨rfl,nq,rfl⟩
theorem mC(k:Int)(w:World)(Fr:HL)(hc:k≠0)(hH:Holds w Fr):Calls Tryz.prog 42 #[.int .i64 k] w (pR k w Fr):=by
 have DE:=aa hc;clear hc;go_enter func42,ntmps42;go_wp2_with fail
 go_ret;exact⟨_,_,rfl,.inr ⟨DE.o,_,_,rfl,rfl⟩,hH.alloc _,(af.refl w).alloc _⟩
end
section
variable{b cb g cap:Nat}{mv:Value}{c:CM}{s:SM}{H Hc Fr:HL}{w:World}
theorem EN{hs:List (Int×Hd)}{a:Int}{h:Hd}:(pN hs a h).map (·.1)=if a∈hs.map (·.1)then hs.map (·.1)else hs.map (·.1)++[a]:=by
 unfold pN;cases hf:hs.findIdx? fun p=>p.1==a with
 |none=>
  have hn:=List.findIdx?_eq_none_iff.1 hf;rw[if_neg]
  ·simp
  ·intro ha;obtain⟨p,hp,rfl⟩:=List.mem_map.1 ha;simpa using hn p hp
 |some i=>
  obtain⟨hi,h1,_⟩:=List.findIdx?_eq_some_iff_getElem.1 hf;have DH:hs[i].1=a:=by simpa using h1
  rw[if_pos (List.mem_map.2 ⟨_,cX hi,DH⟩)];simp only[List.map_set];rw[<-DH];have:=List.set_getElem_self (show i<(hs.map (·.1)).length by simpa using hi);simpa using this
theorem uB.put{hs:List (Int×Hd)}(h:uB hs){a:Int}{x:Hd}(h0:0<=a)(h1:a<=1000000):uB (pN hs a x) where
 nodup:=by
  rw[EN];split
  ·exact h.nodup
  ·rename_i hn;exact List.nodup_append.2 ⟨h.nodup,by simp,fun x hx y hy e=>hn (by rw[List.mem_singleton]at hy;rw[<-hy,<-e];exact hx)⟩
 rng p hp:=by
  have h2:p.1∈(pN hs a x).map (·.1):=List.mem_map.2 ⟨p,hp,rfl⟩;rw[EN]at h2;have h3:p.1=a∨p.1∈hs.map (·.1):=by
   split at h2
   ·exact .inr h2
   ·rcases List.mem_append.1 h2 with h2|h2
    ·exact .inr h2
    ·exact .inl (by simpa using h2)
  rcases h3 with h3|h3
  ·rw[h3];exact⟨h0,h1⟩
  ·obtain⟨q,hq,e⟩:=List.mem_map.1 h3;rw[<-e];exact h.rng q hq
theorem oK(y:List YB)(k:Int)(x:YB):(lB y k x).length=y.length:=by
 unfold lB;simp
def oC(s:SM)(k p:Int)(h:Hd):SM:={s with y:=(oB s.y k p (decide (h.k=1))).1,hs:=pN s.hs (k*s.P+p) h}
def ai7(b cb:Nat)(s':SM)(v:Value)(w:World)(Fr:HL)(e:Ending)(w':World):Prop:=e=.returned v∧∃H',cr b cb s' H'∧Holds w' (H'++Fr)∧af w w'
theorem QU(y:List YB)(k p:Int)(d:Bool):(oB y k p d).1.length=y.length:=by
 unfold oB;split
 ·rfl
 ·split
  ·rfl
  ·exact oK _ _ _
theorem JX(k p:Int)(hd:Hd)(h:cr b cb s H)(hH:Holds w (H++Fr))(rQ:0<=k)(p6:k<s.B)(IK:0<=p)(rH:p<s.P):
  Calls Tryz.prog 70 #[.pointer (some ⟨b,0,none⟩),.int .i64 k,.int .i64 p,hd.agg] w (ai7 b cb (oC s k p hd) (.int .i64 (k*s.P+p)) w Fr):=by
 obtain⟨yb,mb,es,clock,Hy,hy,cj,bD,yW,ik,im,Lp,rfl⟩:=h;have DK:=bO ik;have hmb:=MC (B:=(s.B:Int)) (P:=(s.P:Int)) rQ (by omega) DK.2.1 (by omega) DK.2.2.2.1;have od:=aa ik;have HY:=aa (fun(wx:World) (F:HL) (hx:Holds wx (Hy++F))=>QL k p (decide (hd.k=1)) hy hx);have qF:=aa (fun(wx:World) (F:HL) (hx:Holds wx F)=>JT (s.B:Int) (s.P:Int) (s.Z:Int) k p wx F hx ik rQ p6 IK rH);have ank:=aa (fun(wx:World) (hx:wx.heap[mb]?=some (.map es clock))=>adC hx cj yW bD (a:=k*s.P+p) (by omega) (by omega) hd);have HWF:=aa (yW.put (a:=k*s.P+p) (x:=hd) (by omega) (by omega));have HYL:=aa (show(oB s.y k p (decide (hd.k=1))).1.length=s.B by rw[QU,Lp]);have I7:=aa im;have HKS:=aa (show oC s k p hd={s with y:=(oB s.y k p (decide (hd.k=1))).1,hs:=pN s.hs (k*s.P+p) hd}from rfl);generalize oC s k p hd=s2 at*;generalize(oB s.y k p (decide (hd.k=1)))=yn at*;generalize pN s.hs (k*s.P+p) hd=tg at*;obtain⟨B,P,Z,y,hs,op⟩:=s;unfold FR at hH;dsimp only at*;obtain⟨cZ,ez,dy,dP⟩:=hd;simp only[Hd.agg,Hd.cells]at*;have ab2:(cZ==1)=decide (cZ=1):=rfl;have auI:=aa ab2;rw[<-ab2]at HY;clear ab2 hy cj bD yW im Lp ik;have ax:=hH.alloc (.cells #[.int .i64 cZ,.int .u64 ez,.int .i64 dy,.int .i64 dP] 59);have aK:=(af.refl w).alloc (.cells #[.int .i64 cZ,.int .u64 ez,.int .i64 dy,.int .i64 dP] 59);have fU:Holds (w.alloc (.cells #[.int .i64 cZ,.int .u64 ez,.int .i64 dy,.int .i64 dP] 59)) (Hy++((w.heap.size,.cells #[.int .i64 cZ,.int .u64 ez,.int .i64 dy,.int .i64 dP] 59)::((b,.cells #[.pointer (some ⟨yb,0,none⟩),.pointer (some ⟨cb,0,none⟩),.int .i64 (B:Int),.int .i64 (P:Int),.int .i64 (Z:Int),.map (some mb),.int .i64 op] 107)::((mb,.map es clock)::Fr)))):=ax.p;clear ax hH;have dj:Zh (∀(wx:World) (X:HL) (gh:Nat),Holds wx (X++((gh,(.cells #[.int .i64 cZ,.int .u64 ez,.int .i64 dy,.int .i64 dP] 59))::((b,(.cells #[.pointer (some ⟨yb,0,none⟩),.pointer (some ⟨cb,0,none⟩),.int .i64 (B:Int),.int .i64 (P:Int),.int .i64 (Z:Int),.map (some mb),.int .i64 op] 107))::((mb,.map es clock)::Fr))))->wx.cell? ⟨gh,0,none⟩=some (.int .i64 cZ)∧wx.cell? ⟨gh,1,none⟩=some (.int .u64 ez)∧wx.cell? ⟨gh,2,none⟩=some (.int .i64 dy)∧wx.cell? ⟨gh,3,none⟩=some (.int .i64 dP)∧wx.cell? ⟨b,0,none⟩=some (.pointer (some ⟨yb,0,none⟩))∧wx.cell? ⟨b,2,none⟩=some (.int .i64 (B:Int))∧wx.cell? ⟨b,3,none⟩=some (.int .i64 (P:Int))∧wx.cell? ⟨b,4,none⟩=some (.int .i64 (Z:Int))∧wx.cell? ⟨b,5,none⟩=some (.map (some mb))∧wx.heap[mb]?=some (.map es clock)):=aa (fun wx X gh hX=>⟨hX.right.ae 0,hX.right.ae 1,hX.right.ae 2,hX.right.ae 3,hX.right.tail.ae 0,hX.right.tail.ae 2,hX.right.tail.ae 3,hX.right.tail.ae 4,hX.right.tail.ae 5,hX.right.tail.tail.get (dC)⟩);go_enter func70,ntmps70;go_upto_region 1 with fail
 generalize w.alloc (.cells #[.int .i64 cZ,.int .u64 ez,.int .i64 dy,.int .i64 dP] 59)=w0 at*;generalize w.heap.size=gh at*;refine aF (fun wx=>wx.cell? ⟨gh,0,none⟩=some (.int .i64 cZ)∧wx.cell? ⟨gh,1,none⟩=some (.int .u64 ez)∧wx.cell? ⟨gh,2,none⟩=some (.int .i64 dy)∧wx.cell? ⟨gh,3,none⟩=some (.int .i64 dP)∧wx.cell? ⟨b,0,none⟩=some (.pointer (some ⟨yb,0,none⟩))∧wx.cell? ⟨b,2,none⟩=some (.int .i64 (B:Int))∧wx.cell? ⟨b,3,none⟩=some (.int .i64 (P:Int))∧wx.cell? ⟨b,4,none⟩=some (.int .i64 (Z:Int))∧wx.cell? ⟨b,5,none⟩=some (.map (some mb))∧wx.heap[mb]?=some (.map es clock)) 10 (by kernel_rfl) (fun w1 hd=>dj.o _ _ _ (fU.dr hd)) (fun w1 hd hs=>?_);have aD:=fU.dr hd;have cf:=aK.trans (af.dr hd);clear hd fU aK;refine dY 0 1 2 3 ?_;refine dY 4 5 6 7 ?_;refine ji 8 ?_;refine Zm 9 fun K hK=>?_;go_simp;refine(HY.o w1 _ aD).mono ?_;rintro e w4 ⟨ve,Hy2,He,rfl,j9,hy4,aU,bV⟩;have bI:=cf.trans bV;have HY4:=aa hy4;have bg:Holds w4 (Hy2++((gh,(.cells #[.int .i64 cZ,.int .u64 ez,.int .i64 dy,.int .i64 dP] 59))::((b,(.cells #[.pointer (some ⟨yb,0,none⟩),.pointer (some ⟨cb,0,none⟩),.int .i64 (B:Int),.int .i64 (P:Int),.int .i64 (Z:Int),.map (some mb),.int .i64 op] 107))::((mb,.map es clock)::Fr)))):=by(have h:Holds w4 (He++(Hy2++((gh,(.cells #[.int .i64 cZ,.int .u64 ez,.int .i64 dy,.int .i64 dP] 59))::((b,(.cells #[.pointer (some ⟨yb,0,none⟩),.pointer (some ⟨cb,0,none⟩),.int .i64 (B:Int),.int .i64 (P:Int),.int .i64 (Z:Int),.map (some mb),.int .i64 op] 107))::((mb,.map es clock)::Fr))))):=aU.swap);exact h.right
 refine hK _ _ (dj.o _ _ _ bg) (fun _=>?_);clear hK K hs;rename_i hs;refine Ze ?_;clear hs aD cf hy4 aU bV j9;have P8:=aa (qF.o w4 _ bg);obtain⟨s0,s1,s2',s3,s4,s5,s6,s7,s8,s9⟩:=dj.o _ _ _ bg;clear bg;go_wp2_with fail
 refine P8.o.mono ?_;rintro e w6⟨rfl,bC,eJ⟩;have jn:=bI.trans eJ;generalize Oe:k*(P:Int)+p=pn at*;clear Oe s0 s1 s2' s3 s4 s5 s6 s7 s8 s9 bI eJ P8;go_upto_region 3 with fail
 refine nR (fun wx=>wx.cell? ⟨gh,0,none⟩=some (.int .i64 cZ)∧wx.cell? ⟨gh,1,none⟩=some (.int .u64 ez)∧wx.cell? ⟨gh,2,none⟩=some (.int .i64 dy)∧wx.cell? ⟨gh,3,none⟩=some (.int .i64 dP)∧wx.cell? ⟨b,0,none⟩=some (.pointer (some ⟨yb,0,none⟩))∧wx.cell? ⟨b,2,none⟩=some (.int .i64 (B:Int))∧wx.cell? ⟨b,3,none⟩=some (.int .i64 (P:Int))∧wx.cell? ⟨b,4,none⟩=some (.int .i64 (Z:Int))∧wx.cell? ⟨b,5,none⟩=some (.map (some mb))∧wx.heap[mb]?=some (.map es clock)) 6 (by kernel_rfl) (fun w1 hd=>dj.o _ _ _ (bC.dr hd)) (fun w1 hd hs=>?_);have cA:=bC.dr hd;have fx:=jn.trans (af.dr hd);clear hd bC jn;refine Yv 0 ?_;refine Yv 1 ?_;refine Yv 2 ?_;refine Yu 3 ?_;simp only[pt,sA,sS,sZ];refine Yv 4 ?_;refine Yu 5 ?_;simp only[pt,sA,sS,sZ];refine Yl 6 fun K hK=>?_;have⟨s0,s1,s2,s3,s4,s5,s6,s7,s8,s9⟩:=hs;obtain⟨DM,Zz,Bm,kp,vD⟩:=ank.o w1 s9;go_simp;clear s0 s1 s2 s3 s4 s5 s6 s7 s8 s9 hs;refine hK _ _ ?_;clear hK K;refine Ye ?_;have cT:Holds w1 ((mb,.map es clock)::((b,(.cells #[.pointer (some ⟨yb,0,none⟩),.pointer (some ⟨cb,0,none⟩),.int .i64 (B:Int),.int .i64 (P:Int),.int .i64 (Z:Int),.map (some mb),.int .i64 op] 107))::(Hy2++Fr))):=cA.p;have di:=cT.aaM (.map DM Zz);have iU:=fx.aaM mb (.map DM Zz);have anl:=aa kp;have Gd:=aa vD;change Exit.then _ _ _ _ (Go.ChangeMaps.setBlock w1 mb (.map DM Zz));generalize Go.ChangeMaps.setBlock w1 mb (.map DM Zz)=w9 at*;clear Bm kp vD cA fx cT;go_wp2_with fail
 go_ret;rw[HKS.o];refine⟨rfl,(b,(.cells #[.pointer (some ⟨yb,0,none⟩),.pointer (some ⟨cb,0,none⟩),.int .i64 (B:Int),.int .i64 (P:Int),.int .i64 (Z:Int),.map (some mb),.int .i64 op] 107))::((mb,.map DM Zz)::Hy2),⟨yb,mb,DM,Zz,Hy2,HY4.o,Gd.o,anl.o,HWF.o,od.o,I7.o,HYL.o,rfl⟩,?_,iU⟩;exact di.p
end
section
variable{b cb g cap:Nat}{mv:Value}{c:CM}{s:SM}{H Hc Fr:HL}{w:World}
def OP(b cb g cap:Nat)(mv:Value)(s':SM)(c':CM)(code:Int)(w:World)(Fr:HL)(e:Ending)(w':World):Prop:=
 ∃ve He H' cO,e=.returned ve∧bJ ve code He∧cr b cb s' H'∧ai cb g cap mv c' cO∧Holds w' (H'++(cO++(He++Fr)))∧af w w'
def nL(s:SM)(c:CM)(k:Nat)(x:CB):SM×CM×Int:=
 if(c.dX k x).2≠0 then(s,(c.dX k x).1,(c.dX k x).2)else({s with y:=(dL s.y k).1,op:=if s.op=k then-1 else s.op},(c.dX k x).1,0)
theorem pD(y:List YB)(k:Int):(dL y k).1.length=y.length:=by
 unfold dL;split
 ·rfl
 ·split
  ·rfl
  ·exact oK _ _ _
theorem Pa{yb:Nat}{B P Z:Int}{m op:Value}(h:Holds w ((b,.cells #[.pointer (some ⟨yb,0,none⟩),.pointer (some ⟨cb,0,none⟩),.int .i64 B,.int .i64 P,.int .i64 Z,m,op] 107)::Fr))(u:Value):
  Holds (w.setCell ⟨b,6,none⟩ u) ((b,.cells #[.pointer (some ⟨yb,0,none⟩),.pointer (some ⟨cb,0,none⟩),.int .i64 B,.int .i64 P,.int .i64 Z,m,u] 107)::Fr):=h.ej 6 u
theorem VE(k:Nat)(x:CB)(h:cr b cb s H)(cz:ai cb g cap mv c Hc)(hH:Holds w (H++(Hc++Fr)))(fI:c.ops<1000000000000)(hx:c.blocks[k]?=some x):
  Calls Tryz.prog 71 #[.pointer (some ⟨b,0,none⟩),.int .i64 k] w (OP b cb g cap mv (nL s c k x).1 (nL s c k x).2.1 (nL s c k x).2.2 w Fr):=by
 have kV:=aa h;obtain⟨yb,mb,es,clock,Hy,hy,cj,bD,yW,ik,im,Lp,rfl⟩:=h;unfold FR at hH;have HM:=aa (QE (w:=w) k x cz (Holds.swap hH) fI hx);have HG:=aa (show nL s c k x=if(c.dX k x).2≠0 then(s,(c.dX k x).1,(c.dX k x).2)else({s with y:=(dL s.y k).1,op:=if s.op=k then-1 else s.op},(c.dX k x).1,0)from rfl);generalize nL s c k x=res at*;have x0:=hH.ae 0;have x1:=hH.ae 1;have x6:=hH.ae 6;generalize(c.dX k x)=mr at*;obtain⟨c2,code⟩:=mr;have HY:=aa (fun(wx:World) (F:HL) (hx:Holds wx (Hy++F))=>zn (k:Int) hy hx);have HYL:=aa (show(dL s.y k).1.length=s.B by rw[pD,Lp]);have lR:=aa cj;have ag1:=aa bD;have HWF:=aa yW;have od:=aa ik;have I7:=aa im;clear cz hH hx hy cj bD yW ik Lp;dsimp only at*;have k1:=cS;have k2:=cC;go_enter func71,ntmps71;go_wp2_with fail
 refine HM.o.mono ?_;rintro e w2⟨G,ve,oS,He,rfl,he,pO,aB,aX⟩;have lS:=aa pO;clear x0 x1 x6;by_cases jQ:code=0
 ·subst jQ;obtain⟨rfl,rfl⟩:=de he;have aD:Holds w2 (Hy++((b,(.cells #[.pointer (some ⟨yb,0,none⟩),.pointer (some ⟨cb,0,none⟩),.int .i64 (s.B:Int),.int .i64 (s.P:Int),.int .i64 (s.Z:Int),.map (some mb),.int .i64 s.op] 107))::((mb,.map es clock)::(oS++Fr)))):=aB.p;have HY2:=aa (HY.o w2 _ aD);have x0:=aD.right.ae 0;clear aB he pO HM aD HY;generalize hyr:dL s.y (k:Int)=yr at*;clear hyr;go_wp2_with fail
  refine HY2.o.mono ?_;rintro e w3⟨Xi,Hy3,Xj,rfl,pe,hy3,aD,bj⟩;have HY3:=aa hy3;have bV:=aX.trans bj;have aU:Holds w3 ((b,(.cells #[.pointer (some ⟨yb,0,none⟩),.pointer (some ⟨cb,0,none⟩),.int .i64 (s.B:Int),.int .i64 (s.P:Int),.int .i64 (s.Z:Int),.map (some mb),.int .i64 s.op] 107))::((mb,.map es clock)::(Hy3++(oS++Fr)))):=aD.p;clear x0 HY2 pe hy3 aD bj aX;have x6:=aU.ae 6;by_cases ho:s.op=(k:Int)
  ·have HGE:=aa (show res=({s with y:=yr.1,op:=-1},c2,0) by rw[HG.o];simp[ho]);have e1:(s.op==(k:Int))=true:=by simpa using ho
   have zJ:=aa (Pa aU (.int .i64 (-1)));have Of:=aa (bV.setCell ⟨b,6,none⟩ (.int .i64 (-1)));have f6:=aU.ah 6;have fl:=aU.aG;generalize s.op=op at*;clear aU bV ho;go_wp2_with fail
   go_ret;rw[HGE.o];refine⟨_,[],_,oS,rfl,bJ.none,⟨yb,mb,es,clock,Hy3,HY3.o,lR.o,ag1.o,HWF.o,od.o,⟨bG _,by have:=bO od.o;dsimp only;omega⟩,HYL.o,rfl⟩,lS.o,?_,Of.o⟩;have h9:=zJ.o;unfold FR;exact h9.p
  ·have HGE:=aa (show res=({s with y:=yr.1},c2,0) by rw[HG.o];simp[ho]);have e1:(s.op==(k:Int))=false:=by simpa using ho
   have zJ:=aa aU;have Of:=aa bV;clear aU bV ho;go_wp2_with fail
   go_ret;rw[HGE.o];refine⟨_,[],_,oS,rfl,bJ.none,⟨yb,mb,es,clock,Hy3,HY3.o,lR.o,ag1.o,HWF.o,od.o,I7.o,HYL.o,rfl⟩,lS.o,?_,Of.o⟩;have h9:=zJ.o;unfold FR;exact h9.p
 ·have HGE:=aa (show res=(s,c2,code) by rw[HG.o,if_pos jQ]);obtain⟨be,se,rfl,rfl⟩:=cI he jQ;have HH:=aa aB;have HE:=aa he;clear aB he pO HM;go_wp2_with fail
  go_ret;rw[HGE.o];refine⟨_,_,_,oS,rfl,HE.o,kV.o,lS.o,?_,aX⟩;have h9:=HH.o;unfold FR;exact h9.p
end
section
variable{b cb g cap:Nat}{mv:Value}{c:CM}{s:SM}{H Hc Fr:HL}{w:World}
def bq(s:SM)(c:CM)(k:Nat):Bool:=!c.eZ k&&(decide ((cN s.y k).length=0)&&(decide ((k:Int)≠s.op)||decide (dK s c=0)))
def yd(s:SM)(c:CM):List Int:=(List.range s.B).map fun k=>c.fY (k:Nat)
def dV(s:SM)(c:CM):List Bool:=(List.range s.B).map (bq s c)
def dR(s:SM)(c:CM):List Int:=pU (yd s c) (dV s c)
def xP(f:Nat->Int)(k n:Nat):List Int:=(List.range k).map f++List.replicate (n-k) 0
def zX(f:Nat->Bool)(k n:Nat):List Bool:=(List.range k).map f++List.replicate (n-k) false
theorem Pb{α:Type}(f:Nat->α)(d:α){k n:Nat}(h:k<n):((List.range k).map f++List.replicate (n-k) d).set k (f k)=(List.range (k+1)).map f++List.replicate (n-(k+1)) d:=by
 have e:n-k=(n-(k+1))+1:=by omega
 rw[e,List.replicate_succ,List.set_append_right _ _ (by simp),bY,fP,qg,List.set_cons_zero,ub,dm,cE];rfl
theorem GH{α:Type}(f:Nat->α)(d:α){k n:Nat}(h:k<=n):((List.range k).map f++List.replicate (n-k) d).length=n:=by simp;omega
def ag2(s:SM)(c:CM)(gi gb n:Nat)(w:World)(F:HL)(i:Value)(wr:World):Prop:=
 ∃(k:Nat) (HI HB:HL),k<=n∧i=.int .i64 k∧aZ (.slice (some ⟨gi,0,none⟩) n n) (xP (fun k=>c.fY (k:Nat)) k n) HI∧
  au 4 1 (.slice (some ⟨gb,0,none⟩) n n) n ((zX (bq s c) k n).map Value.bool) HB∧Holds wr (HI++(HB++F))∧af w wr
theorem cr.ye(h:cr b cb s H):∃yb mb,(∀(w:World) (F:HL),Holds w (H++F)->w.cell? ⟨b,0,none⟩=some (.pointer (some ⟨yb,0,none⟩))∧w.cell? ⟨b,1,none⟩=some (.pointer (some ⟨cb,0,none⟩))∧
  w.cell? ⟨b,2,none⟩=some (.int .i64 (s.B:Int))∧w.cell? ⟨b,3,none⟩=some (.int .i64 (s.P:Int))∧w.cell? ⟨b,4,none⟩=some (.int .i64 (s.Z:Int))∧w.cell? ⟨b,5,none⟩=some (.map (some mb))∧w.cell? ⟨b,6,none⟩=some (.int .i64 s.op))∧
  ∀(k:Int) (w:World) (F:HL),Holds w (H++F)->Calls Tryz.prog 150 #[.pointer (some ⟨yb,0,none⟩),.int .i64 k] w (cB (fun v H'=>aZ v (cN s.y k) H') w (H++F)):=by
 obtain⟨yb,mb,es,clock,Hy,hy,_,_,_,_,_,_,rfl⟩:=h;refine⟨yb,mb,fun w F hX=>⟨hX.ae 0,hX.ae 1,hX.ae 2,hX.ae 3,hX.ae 4,hX.ae 5,hX.ae 6⟩,fun k w F hX=>?_⟩;have h1:Holds w (Hy++((b,FR yb cb mb s)::((mb,.map es clock)::F))):=hX.p;refine(xb k hy h1).mono ?_;rintro e w'⟨v,H',rfl,hv,gK,hg⟩;exact⟨v,H',rfl,hv,gK.p,hg⟩
theorem QV(h:cr b cb s H)(cz:ai cb g cap mv c Hc)(hH:Holds w (H++(Hc++Fr)))(hB:s.B<20):
  Calls Tryz.prog 135 #[.pointer (some ⟨b,0,none⟩)] w (cB (fun v H'=>aZ v (dR s c) H') w (H++(Hc++Fr))):=by
 have kV:=aa h;have DK:=bO h.sm;obtain⟨yb,mb,bm,Ln⟩:=h.ye;have pd:=aa bm;have Xk:=aa Ln;have HWE:=aa (fun(k:Int) (wx:World) (F:HL) (hx:Holds wx (Hc++F))=>QC k cz hx);have PQ:=aa (fun(k:Int) (wx:World) (F:HL) (hx:Holds wx (Hc++F))=>sN k cz hx);have HLF:=aa (fun(wx:World) (F:HL) (hx:Holds wx (H++(Hc++F)))=>JW h cz hx);have Xl:=aa (show dR s c=pU (yd s c) (dV s c)from rfl);generalize dR s c=res at*;obtain⟨n,hn⟩:∃n,n=s.B:=⟨_,rfl⟩;have HN:=aa hn;have Lm:=fun w=>qt (P:=Tryz.prog) ud n n (aN _) (by omega) (by simp[maxLen];omega) w;have hmb:=fun w=>qt (P:=Tryz.prog) adk n n (aN _) (by omega) (by simp[maxLen];omega) w;obtain⟨is,W4⟩:∃is,is=madeCells (Value.int .i64 0).cells (n*1):=⟨_,rfl⟩;obtain⟨bs,Lj⟩:∃bs,bs=madeCells (Value.bool false).cells (n*1):=⟨_,rfl⟩;rw[<-W4]at Lm;rw[<-Lj]at hmb;have HI0:Zh (∀gi:Nat,aZ (.slice (some ⟨gi,0,none⟩) n n) (xP (fun k=>c.fY (k:Nat)) 0 n) [(gi,.cells is 3)]):=aa (fun gi=>by
  have h:=au.made (size:=1) (e:=3) gi n is (by rw[W4,tt]) (by simp[maxLen];omega);have e:is.toList=(xP (fun k=>c.fY (k:Nat)) 0 n).map (Value.int .i64):=by
   rw[W4];apply aaN
   ·simp[madeCells,xP]
   ·intro i h1 h2;simp[madeCells,Value.cells,Nat.mod_one,xP]
  rw[e]at h;unfold aZ;rw[show(xP (fun k=>c.fY (k:Nat)) 0 n).length=n by unfold xP;exact GH _ _ (by omega)];exact h)
 have HB0:Zh (∀gb:Nat,au 4 1 (.slice (some ⟨gb,0,none⟩) n n) n ((zX (bq s c) 0 n).map Value.bool) [(gb,.cells bs 4)]):=aa (fun gb=>by
  have h:=au.made (size:=1) (e:=4) gb n bs (by rw[Lj,tt]) (by simp[maxLen];omega);have e:bs.toList=(zX (bq s c) 0 n).map Value.bool:=by
   rw[Lj];apply aaN
   ·simp[madeCells,zX]
   ·intro i h1 h2;simp[madeCells,Value.cells,Nat.mod_one,zX]
  rw[e]at h;exact h)
 have dj:Zh (∀(wx:World) (X F:HL),Holds wx (X++(H++F))->wx.cell? ⟨b,2,none⟩=some (.int .i64 (n:Int))∧wx.cell? ⟨b,3,none⟩=some (.int .i64 (s.P:Int))):=aa (fun wx X F hX=>by rw[hn];exact⟨(bm wx _ hX.right).2.2.1,(bm wx _ hX.right).2.2.2.1⟩);rw[<-hn]at hB DK;clear W4 Lj bm Ln h cz hn;have jD:=af.refl w;go_enter func135,ntmps135;go_upto_region 1 with fail
 refine nR (fun wx=>wx.cell? ⟨b,2,none⟩=some (.int .i64 (n:Int))∧wx.cell? ⟨b,3,none⟩=some (.int .i64 (s.P:Int))) 13 (by kernel_rfl) (fun w1 hd=>dj.o _ [] _ (hH.dr hd)) (fun w1 hd hs=>?_);have fy:=hH.dr hd;have mN:=jD.trans (af.dr hd);clear hd hH jD;refine Yv 0 ?_;refine Yv 1 ?_;refine Yv 2 ?_;refine Yv 3 ?_;simp only[pt,sA,sS,sZ];refine Yu 4 ?_;refine Yv 6 ?_;refine Yv 7 ?_;refine Yv 8 ?_;simp only[pt,sA,sS,sZ];refine Yv 9 ?_;refine Yu 10 ?_;simp only[pt,sA,sS,sZ];refine UE 5 11 rfl rfl (by kernel_rfl) (fun K hK=>?_) (fun K hK=>?_);have⟨s0,s1⟩:=hs;have Tj:=fy.alloc (.cells is 3);have Tk:=mN.alloc (.cells is 3);go_simp;clear fy mN;have fy:=Tj;have mN:=Tk;clear Tj Tk;clear s0 s1;refine hK _ _ ((by first|exact dj.o _ [_] _ fy|exact dj.o _ [_,_] _ fy)) (fun _=>?_);clear hK K hs;rename_i hs;refine Yv 12 ?_;simp only[pt,sA,sS,sZ];refine Ym 11 fun K hK=>?_;have⟨s0,s1⟩:=hs;have Tj:=fy.alloc (.cells bs 4);have Tk:=mN.alloc (.cells bs 4);go_simp;clear fy mN;have fy:=Tj;have mN:=Tk;clear Tj Tk;clear s0 s1;refine hK _ _ ((by first|exact dj.o _ [_] _ fy|exact dj.o _ [_,_] _ fy)) (fun _=>?_);clear hK K hs;rename_i hs;refine Yl 13 fun K hK=>?_;have⟨s0,s1⟩:=hs;go_simp;clear s0 s1 hs;refine hK _ _ ?_;clear hK K;refine Ye ?_;rotate_left;have⟨s0,s1⟩:=hs;have Tj:=fy.alloc (.cells bs 4);have Tk:=mN.alloc (.cells bs 4);go_simp;clear fy mN;have fy:=Tj;have mN:=Tk;clear Tj Tk;clear s0 s1;refine hK _ _ ((by first|exact dj.o _ [_] _ fy|exact dj.o _ [_,_] _ fy)) (fun _=>?_);clear hK K hs;rename_i hs;refine Ym 5 fun K hK=>?_;have⟨s0,s1⟩:=hs;have Tj:=fy.alloc (.cells is 3);have Tk:=mN.alloc (.cells is 3);go_simp;clear fy mN;have fy:=Tj;have mN:=Tk;clear Tj Tk;clear s0 s1;refine hK _ _ ((by first|exact dj.o _ [_] _ fy|exact dj.o _ [_,_] _ fy)) (fun _=>?_);clear hK K hs;rename_i hs;refine Yv 12 ?_;simp only[pt,sA,sS,sZ];refine Yl 13 fun K hK=>?_;have⟨s0,s1⟩:=hs;go_simp;clear s0 s1 hs;refine hK _ _ ?_;clear hK K;refine Ye ?_;rotate_left;all_goals
  simp only[World.size_alloc]at fy;first
  |have hZ:Holds ((w1.alloc (.cells is 3)).alloc (.cells bs 4)) ([(w1.heap.size,(.cells is 3))]++([(w1.heap.size+1,(.cells bs 4))]++(H++(Hc++Fr)))):=by(have h:=fy;exact Holds.swap (A:=[_]) (B:=[_]) h)
   change Exit.then _ _ _ _ ((w1.alloc (.cells is 3)).alloc (.cells bs 4));have lT:=mN;clear fy mN;generalize(w1.alloc (.cells is 3)).alloc (.cells bs 4)=wz at*;generalize w1.heap.size+1=gb at*;generalize w1.heap.size=gi at*
  |have hZ:Holds ((w1.alloc (.cells bs 4)).alloc (.cells is 3)) ([(w1.heap.size+1,(.cells is 3))]++([(w1.heap.size,(.cells bs 4))]++(H++(Hc++Fr)))):=fy
   change Exit.then _ _ _ _ ((w1.alloc (.cells bs 4)).alloc (.cells is 3));have lT:=mN;clear fy mN;generalize(w1.alloc (.cells bs 4)).alloc (.cells is 3)=wz at*;generalize w1.heap.size+1=gi at*;generalize w1.heap.size=gb at*
  have x2:=(dj.o wz ([_]++[_]) _ (by simpa using hZ)).1;go_wp2_with fail
  go_loopw [23] (fun i wr=>ag2 s c gi gb n w (H++(Hc++Fr)) i wr) (fun i _=>n-(intOf i).toNat)
  case atStart=>exact⟨0,_,_,by omega,rfl,HI0.o gi,HB0.o gb,hZ,lT⟩
  case round=>
   clear x2 hZ lT;obtain⟨k,HI,HB,hk,rfl,hi,hb,eh,gf⟩:=hrel;have HBI:=aa hi;have HBB:=aa hb;have Wz:(xP (fun k=>c.fY (k:Nat)) k n).length=n:=GH _ _ hk;have jq:((zX (bq s c) k n).map Value.bool).length=n:=by rw[bY];exact GH _ _ hk
   clear hi hb;by_cases aG:k<n
   ·obtain⟨x0,x1,x2,x3,x4,x5,x6⟩:=pd.o wr (Hc++(HI++(HB++Fr))) (eh.p);obtain⟨gi',ci,gM,_,auJ,anm,hci,hfi,OQ⟩:=HBI.o.cell eh (j:=k) (by omega);injection gM with gM mg kS;injection gM with gM;injection gM with gM _;subst gM kS;clear mg;have HSI:=aa OQ;have HW:=aa (HWE.o (k:Int) wr (H++(HI++(HB++Fr))) (eh.p));clear OQ;generalize(xP (fun k=>c.fY (k:Nat)) k n)[k]=auK at*;clear Wz;have zN:(k:Int)<(n:Int):=by omega
    go_wp2_with fail
    refine HW.o.mono ?_;rintro e w'⟨rfl,rfl⟩;go_upto_region 6 with fail
    obtain⟨PR,tJ,aB⟩:=HSI.o wr (HB++(H++(Hc++Fr))) eh (c.fY (k:Nat));rw[show(xP (fun k=>c.fY (k:Nat)) k n).set k (c.fY (k:Nat))=xP (fun k=>c.fY (k:Nat)) (k+1) n from Pb (fun k=>c.fY (k:Nat)) 0 aG]at tJ;have HI3:=aa tJ;have aX:=gf.setCell ⟨gi,k,none⟩ (.int .i64 (c.fY (k:Nat)));clear x0 x1 x2 x3 x4 x5 x6 tJ hci hfi anm HSI HW HBI eh gf;generalize wr.setCell ⟨gi,k,none⟩ (.int .i64 (c.fY (k:Nat)))=w2 at*;obtain⟨x0,x1,x2,x3,x4,x5,x6⟩:=pd.o w2 (Hc++(PR++(HB++Fr))) (aB.p);have HM:=aa (PQ.o (k:Int) w2 (H++(PR++(HB++Fr))) (aB.p));have ZA:=aa (show((zX (bq s c) k n).map Value.bool).set k (.bool (bq s c k))=(zX (bq s c) (k+1) n).map Value.bool by
     rw[<-List.map_set,show(zX (bq s c) k n).set k (bq s c k)=zX (bq s c) (k+1) n from Pb (bq s c) false aG])
    have Ge:=aa (fun(w3:World) (h3:Holds w3 (PR++(HB++(H++(Hc++Fr))))) (g3:af w w3) (u:Bool) (hu:u=bq s c k)=>show ag2 s c gi gb n w (H++(Hc++Fr)) (.int .i64 ((k:Int)+1)) (w3.setCell ⟨gb,k,none⟩ (.bool u)) by
     have hp:Holds w3 (HB++(PR++(H++(Hc++Fr)))):=h3.p;obtain⟨gb',cb',gM,_,_,_,_,_,OQ⟩:=HBB.o.cell hp (j:=k) (by omega);injection gM with gM mg kS;injection gM with gM;injection gM with gM _;subst gM kS hu;obtain⟨PK,fZ,hh⟩:=OQ w3 _ hp (.bool (bq s c k));rw[ZA.o]at fZ;exact⟨k+1,PR,PK,by omega,by go_num,HI3.o,fZ,hh.p,g3.setCell _ _⟩)
    have HCB:=aa (fun(w3:World) (h3:Holds w3 (PR++(HB++(H++(Hc++Fr)))))=>show∃old,gb<w3.heap.size∧w3.cell? ⟨gb,k,none⟩=some old∧w3.frozen? ⟨gb,k,none⟩=false by
     have hp:Holds w3 (HB++(PR++(H++(Hc++Fr)))):=h3.p;obtain⟨gb',cb',gM,_,_,h1,h2,h3,_⟩:=HBB.o.cell hp (j:=k) (by omega);injection gM with gM mg kS;injection gM with gM;injection gM with gM _;subst gM kS;exact⟨_,h1,h2,h3⟩)
    by_cases hm:c.eZ (k:Nat)=true
    ·have SC:=aa (show false=bq s c k by unfold bq;rw[hm];rfl);rw[hm]at HM;obtain⟨old,h1,h2,h3⟩:=HCB.o w2 aB;go_wp2_with fail
     refine HM.o.mono ?_;rintro e w3⟨rfl,rfl⟩;go_wp2_with fail
     go_roundw
     case rel=>exact Ge.o _ aB aX _ SC.o
     case measure=>simp[intOf];omega
    ·rw[show c.eZ (k:Nat)=false by simpa using hm]at HM;have Dp:=aa (Xk.o (k:Int) w2 (Hc++(PR++(HB++Fr))) (aB.p));clear aB;go_wp2_with fail
     refine HM.o.mono ?_;rintro e w3⟨rfl,rfl⟩;go_upto_region 7 with fail
     refine Dp.o.mono ?_;rintro e w3⟨vn,Hn,rfl,hvn,P9,ag3⟩;have aD:Holds w3 (PR++(HB++(H++(Hc++Fr)))):=(P9.right.p);have bj:=aX.trans ag3;obtain⟨A2,c2,rfl⟩:=hvn.val;obtain⟨x0,x1,x2,x3,x4,x5,x6⟩:=pd.o w3 (Hc++(PR++(HB++Fr))) (aD.p);obtain⟨old,h1,h2,h3⟩:=HCB.o w3 aD;clear hvn P9 ag3 aX;have HMH:=aa hm;by_cases hl:(cN s.y (k:Nat)).length=0
     ·have e1:(((cN s.y (k:Nat)).length:Int)==0)=true:=by simpa using hl
      have HLH:=aa hl;clear hl hm;by_cases ho:(k:Int)=s.op
      ·rw[<-ho]at x6;have HLE:=aa (fun q=>HLF.o (w3.drewN q) (PR++(HB++Fr)) ((aD.drewN q).p));have HOH:=aa ho;clear ho;have SC:=aa (show decide (dK s c=0)=bq s c k by unfold bq;rw[show c.eZ (k:Nat)=false by simpa using HMH.o,HLH.o];simp[<-HOH.o]);have e3:((dK s c:Int)==0)=decide (dK s c=0):=by rw[Bool.eq_iff_iff];simp
       generalize decide (dK s c=0)=dz at*;generalize dK s c=lz at*;go_upto_region 7 with fail
       refine(HLE.o 0).mono ?_;rintro e w4⟨rfl,q,rfl⟩;have aU:=aD.drewN q;have bV:=bj.drewN q;go_wp2_with fail
       go_roundw
       case rel=>exact Ge.o _ aU bV _ SC.o
       case measure=>simp[intOf];omega
      ·have e2:((k:Int)==s.op)=false:=by simpa using ho
       have HOH:=aa ho;clear ho;have SC:=aa (show true=bq s c k by unfold bq;simp[HMH.o,HLH.o,HOH.o]);go_wp2_with fail
       go_roundw
       case rel=>exact Ge.o _ aD bj _ SC.o
       case measure=>simp[intOf];omega
     ·have e1:(((cN s.y (k:Nat)).length:Int)==0)=false:=by simpa using hl
      have SC:=aa (show false=bq s c k by unfold bq;simp[hl]);clear hl;go_wp2_with fail
      go_roundw
      case rel=>exact Ge.o _ aD bj _ SC.o
      case measure=>simp[intOf];omega
   ·obtain rfl:k=n:=by omega
    have It:=aa (QT _ _ (yd s c) (dV s c) wr (HI++(HB++(H++(Hc++Fr)))) (fun wx hx=>by
      have:=HBI.o.at_ hx;rwa[show xP (fun k=>c.fY (k:Nat)) k k=yd s c by unfold xP yd;rw[qg,List.replicate_zero,kZ,HN.o]]at this)
     (fun wx hx=>by
      have hp:Holds wx (HB++(HI++(H++(Hc++Fr)))):=hx.p;have:=HBB.o.reads hp;have e:zX (bq s c) k k=dV s c:=by unfold zX dV;rw[qg,List.replicate_zero,kZ,HN.o]
      rw[e]at this;unfold aac;have e2:(dV s c).length=k:=by unfold dV;rw[HN.o];simp
      rw[e2];exact this)
     eh (by simp[yd,dV]) (by have:=HN.o;simp[dV];omega))
    rw[<-Xl.o]at It;clear eh Wz jq;have zN:¬(k:Int)<(k:Int):=by omega
    go_wp2_with fail
    refine It.o.mono ?_;rintro e w'⟨v,H',rfl,hv,gK,nD⟩;have HV:=aa hv;clear hv;go_wp2_with fail
    go_ret;exact⟨_,H',rfl,HV.o,gK.p,gf.trans nD⟩
end
section
variable{b cb g cap:Nat}{mv:Value}{c:CM}{s:SM}{H Hc Fr:HL}{w:World}
def CM.iV(c c':CM)(n:Int):Prop:=c'.P=c.P∧c'.Z=c.Z∧c'.blocks.length=c.blocks.length∧c'.ms=c.ms∧c.ops<=c'.ops∧c'.ops<=c.ops+n
theorem CM.iV.refl(c:CM):c.iV c 0:=⟨rfl,rfl,rfl,rfl,bG _,by omega⟩
theorem CM.iV.trans{c1 c2 c3:CM}{n m:Int}(h:c1.iV c2 n)(h2:c2.iV c3 m):c1.iV c3 (n+m):=by
 obtain⟨a1,a2,a3,a4,a5,a6⟩:=h;obtain⟨b1,b2,b3,b4,b5,b6⟩:=h2;exact⟨b1.trans a1,b2.trans a2,b3.trans a3,b4.trans a4,by omega,by omega⟩
theorem CM.iV.mono{c1 c2:CM}{n m:Int}(h:c1.iV c2 n)(hm:n<=m):c1.iV c2 m:=by
 obtain⟨a1,a2,a3,a4,a5,a6⟩:=h;exact⟨a1,a2,a3,a4,a5,by omega⟩
theorem CM.kG(c:CM)(good:Bool):c.iV (c.jE good).1 1:=by
 unfold CM.jE;split
 ·exact(CM.iV.refl c).mono (by omega)
 ·split
  ·exact(CM.iV.refl c).mono (by omega)
  ·exact⟨rfl,rfl,rfl,rfl,by show c.ops<=c.ops+1;omega,by show c.ops+1<=c.ops+1;omega⟩
theorem CM.Pf(c:CM)(m:Mi)(good:Bool):c.iV (c.ord m good).1 0:=by
 unfold CM.ord;split
 ·exact CM.iV.refl c
 ·split
  ·exact⟨rfl,rfl,rfl,rfl,bG _,by show c.ops<=c.ops+0;omega⟩
  ·exact⟨rfl,rfl,rfl,rfl,bG _,by show c.ops<=c.ops+0;omega⟩
theorem CM.wI(c:CM)(k:Nat)(x:CB):c.iV (c.db k x) 0:=⟨rfl,rfl,by simp[CM.db],rfl,bG _,by show c.ops<=c.ops+0;omega⟩
theorem GZ(c:CM)(m:Mi)(k:Nat)(x:CB):c.iV (kC c m k x).1 0:=by
 unfold kC;split
 ·split
  ·exact⟨rfl,rfl,rfl,rfl,bG _,by show c.ops<=c.ops+0;omega⟩
  ·exact⟨rfl,rfl,by simp[CM.db],rfl,bG _,by show c.ops<=c.ops+0;omega⟩
 ·split
  ·exact CM.wI _ _ _
  ·exact CM.wI _ _ _
theorem zp(c:CM)(m:Mi)(k:Nat)(x:CB)(i:Nat)(raw:List UInt8):c.iV (px c m k x i raw).1 0:=by
 unfold px;split
 ·exact⟨rfl,rfl,by simp[CM.db],rfl,bG _,by show c.ops<=c.ops+0;omega⟩
 ·split
  ·exact CM.wI _ _ _
  ·exact⟨rfl,rfl,by simp[CM.db],rfl,bG _,by show c.ops<=c.ops+0;omega⟩
theorem CM.QW(c:CM)(k:Nat)(x:CB):c.iV (c.erase k x).1 1:=by
 unfold CM.erase;dsimp only;split
 ·exact c.kG true
 ·split
  ·exact(c.kG true).trans (CM.Pf _ _ _)
  ·exact(c.kG true).trans (GZ _ _ _ _)
theorem CM.JY(c:CM)(k:Nat)(x:CB)(p:Int)(raw:List UInt8):c.iV (c.prog k x p raw).1 1:=by
 unfold CM.prog;dsimp only;split
 ·exact c.kG _
 ·split
  ·exact(c.kG _).trans (CM.Pf _ _ _)
  ·exact(c.kG _).trans (zp _ _ _ _ _ _)
theorem CM.EO(c:CM)(k:Nat)(x:CB):c.iV (c.dX k x).1 1:=by
 unfold CM.dX;dsimp only;split
 ·exact c.kG true
 ·split
  ·exact(c.kG true).trans ⟨rfl,rfl,rfl,rfl,bG _,by show(c.jE true).1.ops<=(c.jE true).1.ops+0;omega⟩
  ·exact(c.kG true).trans (CM.wI _ _ _)
theorem CM.sJ(c:CM)(k p:Int):c.iV (c.read k p).1 1:=by
 unfold CM.read;dsimp only;split
 ·exact c.kG _
 ·split
  ·exact(c.kG _).trans ⟨rfl,rfl,rfl,rfl,bG _,by show(c.jE _).1.ops<=(c.jE _).1.ops+0;omega⟩
  ·exact c.kG _
def EA(b cb:Nat)(s':SM)(code:Int)(w:World)(Fr:HL)(e:Ending)(w':World):Prop:=
 ∃ve He H',e=.returned ve∧bJ ve code He∧cr b cb s' H'∧Holds w' (H'++(He++Fr))∧af w w'
theorem cr.ag4(h:cr b cb s H):∃yb mb,(∀(w:World) (F:HL),Holds w (H++F)->w.cell? ⟨b,0,none⟩=some (.pointer (some ⟨yb,0,none⟩))∧w.cell? ⟨b,1,none⟩=some (.pointer (some ⟨cb,0,none⟩))∧
  w.cell? ⟨b,2,none⟩=some (.int .i64 (s.B:Int))∧w.cell? ⟨b,3,none⟩=some (.int .i64 (s.P:Int))∧w.cell? ⟨b,4,none⟩=some (.int .i64 (s.Z:Int))∧w.cell? ⟨b,5,none⟩=some (.map (some mb))∧w.cell? ⟨b,6,none⟩=some (.int .i64 s.op))∧
  ∀(fn:FuncId) (args:Array Value) (r:List YB×Int),(∀(Hy:HL) (w:World) (F:HL),dw (.pointer (some ⟨yb,0,none⟩)) s.y Hy->Holds w (Hy++F)->Calls Tryz.prog fn args w (uf (.pointer (some ⟨yb,0,none⟩)) r w F))->r.1.length=s.y.length->
   ∀(w:World) (F:HL),Holds w (H++F)->Calls Tryz.prog fn args w (EA b cb {s with y:=r.1} r.2 w F):=by
 obtain⟨yb,mb,es,clock,Hy,hy,cj,bD,yW,ik,im,Lp,rfl⟩:=h;refine⟨yb,mb,fun w F hX=>⟨hX.ae 0,hX.ae 1,hX.ae 2,hX.ae 3,hX.ae 4,hX.ae 5,hX.ae 6⟩,fun fn args r hr hl w F hX=>?_⟩;have h1:Holds w (Hy++((b,FR yb cb mb s)::((mb,.map es clock)::F))):=hX.p;refine(hr Hy w _ hy h1).mono ?_;rintro e w'⟨ve,Hy',He,rfl,he,uv,gK,nD⟩;refine⟨ve,He,(b,FR yb cb mb s)::((mb,.map es clock)::Hy'),rfl,he,⟨yb,mb,es,clock,Hy',uv,cj,bD,yW,ik,im,hl.trans Lp,rfl⟩,gK.p,nD⟩
theorem cr.OR(h:cr b cb s H)(op:Int)(h0:-1<=op)(h1:op<s.B):∃H',cr b cb {s with op:=op} H'∧∀(w:World) (F:HL),Holds w (H++F)->Holds (w.setCell ⟨b,6,none⟩ (.int .i64 op)) (H'++F)∧w.frozen? ⟨b,6,none⟩=false∧b<w.heap.size:=by
 obtain⟨yb,mb,es,clock,Hy,hy,cj,bD,yW,ik,im,Lp,rfl⟩:=h;refine⟨(b,FR yb cb mb {s with op:=op})::((mb,.map es clock)::Hy),⟨yb,mb,es,clock,Hy,hy,cj,bD,yW,ik,⟨h0,h1⟩,Lp,rfl⟩,fun w F hX=>⟨?_,hX.ah 6,hX.aG⟩⟩;unfold FR at hX⊢;exact Pa hX (.int .i64 op)
theorem yw(y:List YB)(k a d:Int):(fX y k a d).1.length=y.length:=by
 unfold fX;split
 ·rfl
 ·split
  ·exact oK _ _ _
  ·rfl
theorem yx(y:List YB)(k:Int):(l8 y k).1.length=y.length:=by
 unfold l8;split
 ·rfl
 ·split
  ·exact oK _ _ _
  ·rfl
theorem EP(y:List YB)(k:Int):(nI y k).1.length=y.length:=by
 unfold nI;split
 ·rfl
 ·split
  ·rfl
  ·exact oK _ _ _
theorem cr.jU(h:cr b cb s H):∃yb mb,(∀(w:World) (F:HL),Holds w (H++F)->w.cell? ⟨b,0,none⟩=some (.pointer (some ⟨yb,0,none⟩))∧w.cell? ⟨b,1,none⟩=some (.pointer (some ⟨cb,0,none⟩))∧
  w.cell? ⟨b,2,none⟩=some (.int .i64 (s.B:Int))∧w.cell? ⟨b,3,none⟩=some (.int .i64 (s.P:Int))∧w.cell? ⟨b,4,none⟩=some (.int .i64 (s.Z:Int))∧w.cell? ⟨b,5,none⟩=some (.map (some mb))∧w.cell? ⟨b,6,none⟩=some (.int .i64 s.op))∧
  (∀(k:Int) (w:World) (F:HL),Holds w (H++F)->Calls Tryz.prog 87 #[.pointer (some ⟨yb,0,none⟩),.int .i64 k] w (EA b cb {s with y:=(fX s.y k 2 3).1} (fX s.y k 2 3).2 w F))∧
  (∀(k:Int) (w:World) (F:HL),Holds w (H++F)->Calls Tryz.prog 137 #[.pointer (some ⟨yb,0,none⟩),.int .i64 k] w (EA b cb {s with y:=(nI s.y k).1} (nI s.y k).2 w F))∧
  (∀(k:Int) (w:World) (F:HL),Holds w (H++F)->Calls Tryz.prog 84 #[.pointer (some ⟨yb,0,none⟩),.int .i64 k] w (EA b cb {s with y:=(l8 s.y k).1} (l8 s.y k).2 w F))∧
  (∀(k:Int) (w:World) (F:HL),Holds w (H++F)->Calls Tryz.prog 89 #[.pointer (some ⟨yb,0,none⟩),.int .i64 k] w (EA b cb {s with y:=(dL s.y k).1} (dL s.y k).2 w F)):=by
 obtain⟨yb,mb,hc,hf⟩:=h.ag4;exact⟨yb,mb,hc,fun k w F hX=>hf _ _ _ (fun Hy w F hy hH=>QF k hy hH) (yw _ _ _ _) w F hX,
  fun k w F hX=>hf _ _ _ (fun Hy w F hy hH=>QI k hy hH) (EP _ _) w F hX,
  fun k w F hX=>hf _ _ _ (fun Hy w F hy hH=>QG k hy hH) (yx _ _) w F hX,
  fun k w F hX=>hf _ _ _ (fun Hy w F hy hH=>zn k hy hH) (pD _ _) w F hX⟩
def gw(s:SM):SM:=if s.op=-1 then s else{s with y:=(fX s.y s.op 2 3).1}
def sD(s:SM)(k:Int):SM:={s with y:=(nI s.y k).1}
def fH(s:SM)(k:Int):SM:={s with y:=(l8 s.y k).1}
def nM(s:SM)(k:Int):SM:={fH (sD (gw s) k) k with op:=k}
def bT(c:CM)(k:Int):CM×Int:=match c.pY k with|some x=>c.erase k.toNat x|none=>(c,2)
def bS(s:SM)(c:CM)(k:Int):SM×CM×Int:=match c.pY k with|some x=>nL s c k.toNat x|none=>(s,c,2)
def k7:List Int->SM->CM->SM×CM×Int
 |[],s,c=>(s,c,7)
 |k::ks,s,c=>
  if 0<c.bu k then
   if(bT c k).2=5 then
    if(bS s (bT c k).1 k).2.2≠0 then bS s (bT c k).1 k
    else k7 ks (bS s (bT c k).1 k).1 (bS s (bT c k).1 k).2.1
   else if(bT c k).2≠0 then(s,(bT c k).1,(bT c k).2)
   else(nM s k,(bT c k).1,0)
  else(nM s k,c,0)
def je(s:SM)(c:CM):SM×CM×Int:=k7 (dR s c) s c
theorem CG(c:CM)(k:Int):c.iV (bT c k).1 1:=by
 unfold bT;split
 ·exact CM.QW _ _ _
 ·exact(CM.iV.refl c).mono (by omega)
theorem qv(s:SM)(c:CM)(k:Int):c.iV (bS s c k).2.1 1∧(bS s c k).1.B=s.B:=by
 unfold bS;split
 ·unfold nL;split
  ·exact⟨CM.EO _ _ _,rfl⟩
  ·exact⟨CM.EO _ _ _,rfl⟩
 ·exact⟨(CM.iV.refl c).mono (by omega),rfl⟩
theorem MD{c:CM}{k:Int}(h:c.there k=true):∃(i:Nat) (x:CB),k=i∧c.blocks[i]?=some x∧c.pY k=some x:=by
 have h1:=of_decide_eq_true h;obtain⟨i,rfl⟩:=Int.eq_ofNat_of_zero_le h1.1;have h2:i<c.blocks.length:=by omega
 refine⟨i,c.blocks[i],rfl,bF h2,?_⟩;unfold CM.pY;rw[if_pos (by omega)];simp[h2]
theorem MZ(k:Int)(cz:ai cb g cap mv c Hc)(hH:Holds w (Hc++Fr))(fI:c.ops<1000000000000)(hk:c.there k=true):
  Calls Tryz.prog 136 #[.pointer (some ⟨cb,0,none⟩),.int .i64 k] w (BV cb g cap mv (bT c k) w Fr):=by
 obtain⟨i,x,rfl,hx,hb⟩:=MD hk;rw[show bT c (i:Int)=c.erase i x by unfold bT;rw[hb];rfl];exact KF i x cz hH fI hx
theorem yy(k:Int)(h:cr b cb s H)(cz:ai cb g cap mv c Hc)(hH:Holds w (H++(Hc++Fr)))(fI:c.ops<1000000000000)(hk:c.there k=true):
  Calls Tryz.prog 71 #[.pointer (some ⟨b,0,none⟩),.int .i64 k] w (OP b cb g cap mv (bS s c k).1 (bS s c k).2.1 (bS s c k).2.2 w Fr):=by
 obtain⟨i,x,rfl,hx,hb⟩:=MD hk;rw[show bS s c (i:Int)=nL s c i x by unfold bS;rw[hb];rfl];exact VE i x h cz hH fI hx
theorem Cc(v:Value)(k:Int)(He F:HL)(w:World)(h:bJ v k He)(hH:Holds w (He++F)):Calls Tryz.prog 56 #[v] w fun e w'=>e=.returned (.int .i64 k)∧w=w':=by
 rcases h with⟨rfl,rfl,rfl⟩|⟨hc,b,s,rfl,rfl⟩
 ·have k1:=nil_eq;go_enter func56,ntmps56;go_wp2
  go_ret;exact⟨rfl,rfl⟩
 ·exact EG b k w (hH.cell (dC) 0)
end
section
variable{b cb g cap:Nat}{mv:Value}{c:CM}{s:SM}{H Hc Fr:HL}{w:World}
theorem zq(s:SM)(c:CM):(dV s c).length=s.B:=by simp[dV]
theorem CH{s:SM}{c:CM}{x:Int}:x∈dR s c↔∃i:Nat,x=i∧i<s.B∧bq s c i=true:=by
 unfold dR pU;rw[yv,pC,zq];constructor
 ·rintro⟨i,rfl,hi,h⟩;refine⟨i,rfl,hi,?_⟩;simpa[dV,jR,dW,pf hi]using h
 ·rintro⟨i,rfl,hi,h⟩;refine⟨i,rfl,hi,?_⟩;simpa[dV,jR,dW,pf hi]using h
theorem CI(s:SM)(c:CM):(dR s c).length<=s.B:=by
 unfold dR pU;rw[tw];have:=sO (dV s c) (dV s c).length;rw[zq]at this⊢;exact this
def ann(b cb g cap:Nat)(mv:Value)(L:List Int)(res:SM×CM×Int)(s0:SM)(c0:CM)(w:World)(F:HL)(i:Value)(wr:World):Prop:=
 ∃(k:Nat) (s':SM) (c':CM) (H' cO:HL),k<=L.length∧i=.int .i64 k∧k7 (L.drop k) s' c'=res∧c0.iV c' (2*k)∧s'.B=s0.B∧cr b cb s' H'∧ai cb g cap mv c' cO∧Holds wr (H'++(cO++F))∧af w wr
theorem VF(h:cr b cb s H)(cz:ai cb g cap mv c Hc)(hH:Holds w (H++(Hc++Fr)))(hB:s.B<20)(fI:c.ops<=999999999000)(hBc:c.blocks.length=s.B):
  Calls Tryz.prog 67 #[.pointer (some ⟨b,0,none⟩)] w (OP b cb g cap mv (je s c).1 (je s c).2.1 (je s c).2.2 w Fr):=by
 have HE:=aa (QV h cz hH hB);have kV:=aa h;have lS:=aa cz;have SA:=aa (show k7 (dR s c) s c=je s c from rfl);have HLM:Zh (∀x∈dR s c,∃i:Nat,x=i∧i<s.B):=aa (fun x hx=>by obtain⟨i,h1,h2,_⟩:=CH.1 hx;exact⟨i,h1,h2⟩);have Xm:=CI s c;generalize je s c=res at*;generalize dR s c=L at*;clear h cz hH;have k1:=cS;have k2:=cC;go_enter func67,ntmps67;go_upto_region 1 with fail
 go_upto_region 2 with fail
 refine HE.o.mono ?_;rintro e w1⟨v,Hl,rfl,hv,ax,aK⟩;have HVL:=aa hv;obtain⟨Al,cl,rfl⟩:=hv.val;clear hv HE;have On:L.length<20:=by omega
 go_wp2_with fail
 go_loopw [10] (fun i wr=>ann b cb g cap mv L res s c w (Hl++Fr) i wr) (fun i _=>L.length-(intOf i).toNat)
 case atStart=>exact⟨0,s,c,H,Hc,by omega,rfl,SA.o,CM.iV.refl c,rfl,kV.o,lS.o,ax.p,aK⟩
 case round=>
  clear ax aK;obtain⟨k,s',c',H',cO,hk,rfl,cH,jK,hsB,bD,cz,eh,gf⟩:=hrel;have Jq:=aa bD;have Gf:=aa cz;have Qa:=aa jK;have Ix:=aa hsB;by_cases aG:k<L.length
  ·have hp:Holds wr (Hl++(H'++(cO++Fr))):=eh.p;obtain⟨_,A,c9,gM,DI,FL,ha⟩:=HVL.o.at_ hp;injection gM with gM _ kS;subst gM kS;obtain⟨bl,ol,rfl,bm⟩:=ha (by omega);have ff:=bm k (.int .i64 L[k]) (by simp[aG]);clear bm;rw[nF aG]at cH;obtain⟨xi,hxi,hxB⟩:=HLM.o L[k] (cX aG);rw[hxi]at ff cH;obtain⟨x,hx⟩:∃x:Int,x=(xi:Int):=⟨_,rfl⟩;rw[<-hx]at ff cH;have HX:=aa hx;clear hxi;have FM:c'.there x=true:=by unfold CM.there;rw[jK.2.2.1,hBc];exact decide_eq_true (by omega)
   have eV:c'.ops<999999999900:=by have:=jK.2.2.2.2.2;omega
   have cP:=aa cH;obtain⟨yb,mb,cg,ai8,rM,fg,_⟩:=bD.jU;have pd:=aa cg;obtain⟨x0,x1,x2,x3,x4,x5,x6⟩:=cg wr _ eh;have LC:=aa (yo x cz (eh.right));have Xn:=aa eh;have zN:(k:Int)<(L.length:Int):=by omega
   have WA:=wj cz.o7 x;obtain⟨nx,Dr⟩:∃nx,nx=c'.bu x:=⟨_,rfl⟩;rw[<-Dr]at LC WA;have Dp:=aa Dr;clear Dr;clear hx ha hp cH jK hsB bD cz ai8 rM fg cg eh;by_cases uZ:0<nx
   ·have WG:=aa FM;clear FM;go_upto_region 5 with fail
    refine LC.o.mono ?_;rintro e w2⟨rfl,rfl⟩;have HER:=aa (MZ x Gf.o (Xn.o.swap) (by omega) WG.o);go_upto_region 6 with fail
    refine HER.o.mono ?_;rintro e w2⟨G,ve,oS,He,rfl,he,pO,aB,aX⟩;have TV:=aa pO;have UM:=aa (CG c' x);have aD:Holds w2 (He++(H'++(oS++(Hl++Fr)))):=aB.p;have I8:=aa (Cc ve _ He _ w2 he aD);have cY:=gf.trans aX;have HHE:=aa he;have ano:=aa aD;have vq:=aa (show k7 (x::L.drop (k+1)) s' c'=if(bT c' x).2=5 then
      if(bS s' (bT c' x).1 x).2.2≠0 then bS s' (bT c' x).1 x
      else k7 (L.drop (k+1)) (bS s' (bT c' x).1 x).1 (bS s' (bT c' x).1 x).2.1
     else if(bT c' x).2≠0 then(s',(bT c' x).1,(bT c' x).2)
     else(nM s' x,(bT c' x).1,0) by rw[k7,if_pos (by rw[<-Dp.o];exact uZ)])
    have anp:=aa (show(bT c' x).1.there x=true by have:=WG.o;unfold CM.there at this⊢;rw[UM.o.2.2.1];exact this);clear he pO aB aX gf HER x0 x1 x2 x3 x4 x5 x6;generalize bT c' x=er at*;obtain⟨c2,code⟩:=er;dsimp only at*;have aU:Holds w2 (H'++(oS++(Hl++Fr))):=aD.right;clear aD;by_cases h5:code=5
    ·subst h5;rw[if_pos rfl]at vq;have ZB:=aa (yy x Jq.o TV.o aU (by have:=UM.o.2.2.2.2.2;omega) anp.o);have aad:=aa (qv s' c2 x);clear aU;generalize bS s' c2 x=gv at*;obtain⟨s3,c3,aae⟩:=gv;dsimp only at*;go_upto_region 7 with fail
     refine I8.o.mono ?_;rintro e w3⟨rfl,rfl⟩;go_upto_region 8 with fail
     refine ZB.o.mono ?_;rintro e w3⟨Xi,Xj,H3,rS,rfl,pe,nE,uC,bg,bj⟩;have cf:=cY.trans bj;have xw:=aa nE;have TW:=aa uC;have ab3:=aa pe;have zJ:=aa bg;clear nE uC bj cY bg ZB I8;by_cases II:aae=0
     ·subst II;obtain⟨rfl,rfl⟩:=de pe;clear pe;go_wp2_with fail
      go_roundw
      case rel=>
       refine⟨k+1,s3,c3,H3,rS,by omega,by go_num,?_,?_,aad.o.2.trans Ix.o,xw.o,TW.o,zJ.o.p,cf⟩
       ·rw[if_neg (by simp)]at vq;rw[<-vq.o];exact cP.o
       ·exact((Qa.o.trans UM.o).trans aad.o.1).mono (by omega)
      case measure=>simp[intOf];omega
     ·obtain⟨be3,se3,rfl,rfl⟩:=cI pe II;rw[if_pos II]at vq;clear pe;go_wp2_with fail
      go_ret;rw[<-cP.o,vq.o];exact⟨_,_,H3,rS,rfl,ab3.o,xw.o,TW.o,zJ.o.p,cf⟩
    ·rw[if_neg h5]at vq;have e5:(code==5)=false:=by simpa using h5
     by_cases jQ:code=0
     ·subst jQ;rw[if_neg (by simp)]at vq;obtain⟨rfl,rfl⟩:=de HHE.o;go_upto_region 7 with fail
      refine I8.o.mono ?_;rintro e w1⟨rfl,rfl⟩;go_upto_region 12 with fail
      have IX:=Jq;have Au:=TV;have ax:Holds w2 (H'++(oS++Fr)):=aU.p;have gY:=cY;have Xo:=aa (show res=(nM s' x,c2,0) by rw[<-cP.o];exact vq.o);have TX:=aa (show-1<=x∧x<(s'.B:Int) by have:=HX.o;have:=Ix.o;omega);clear aU cY I8;obtain⟨yb1,mb1,nS,uJ,_⟩:=IX.o.jU;have TY:=aa nS;obtain⟨x0,x1,x2,x3,x4,x5,x6⟩:=nS w2 _ ax;by_cases ho:s'.op=-1
      ·have pJ:=aa (show res=({fH (sD s' x) x with op:=x},c2,0) by rw[Xo.o];unfold nM gw;rw[if_pos ho]);have Tl:=aa (show-1<=x∧x<(s'.B:Int)from TX.o);rw[ho]at x6;clear nS uJ ho;go_upto_region 14 with fail
       have kh:=IX;have aB:=ax;have cY:=gY;clear x0 x1 x2 x3 x4 x5 x6 ax gY;obtain⟨yb2,mb2,lL,_,oH,_,_⟩:=kh.o.jU;obtain⟨x0,x1,x2,x3,x4,x5,x6⟩:=lL w2 _ aB;have HF:=aa (oH x w2 _ aB);clear lL oH aB;go_upto_region 15 with fail
       refine HF.o.mono ?_;rintro e w3⟨Xi,Xj,H3,rfl,pe,nE,aD,bj⟩;have xw:=aa nE;have aU:Holds w3 (H3++(oS++Fr)):=aD.p;have cf:=cY.trans bj;clear pe nE aD bj cY HF x0 x1 x2 x3 x4 x5 x6;obtain⟨yb3,mb3,gG,_,_,oI,_⟩:=xw.o.jU;obtain⟨x0,x1,x2,x3,x4,x5,x6⟩:=gG w3 _ aU;have HO:=aa (oI x w3 _ aU);clear gG oI aU;go_upto_region 16 with fail
       refine HO.o.mono ?_;rintro e w4⟨Te,AU,H4,rfl,j9,sj,bg,bV⟩;have vt:=aa sj;have bC:Holds w4 (H4++(oS++Fr)):=bg.p;have bI:=cf.trans bV;clear j9 sj bg bV cf HO x0 x1 x2 x3 x4 x5 x6;obtain⟨yb4,mb4,jh,_⟩:=vt.o.jU;obtain⟨x0,x1,x2,x3,x4,x5,x6⟩:=jh w4 _ bC;obtain⟨H5,lu,bz⟩:=vt.o.OR x Tl.o.1 Tl.o.2;obtain⟨h7,f7,l7⟩:=bz w4 _ bC;have H7:=aa h7;have jH:=aa lu;clear jh bz bC h7 lu;go_wp2_with fail
       go_ret;rw[pJ.o];exact⟨_,[],H5,oS,rfl,bJ.none,jH.o,Au.o,H7.o,bI.setCell _ _⟩
      ·have pJ:=aa (show res=({fH (sD {s' with y:=(fX s'.y s'.op 2 3).1} x) x with op:=x},c2,0) by rw[Xo.o];unfold nM gw;rw[if_neg ho]);have Tl:=aa (show-1<=x∧x<(s'.B:Int)from TX.o);have e6:(s'.op != -1)=true:=by simpa using ho
       have SD:=aa (uJ s'.op);clear nS uJ ho;go_upto_region 13 with fail
       clear x0 x1 x2 x3 x4 x5 x6;refine aF (fun wx=>wx.cell? ⟨b,0,none⟩=some (.pointer (some ⟨yb1,0,none⟩))∧wx.cell? ⟨b,6,none⟩=some (.int .i64 s'.op)) 8 (by kernel_rfl) (fun w1 hd=>⟨(TY.o _ _ (ax.dr hd)).1,(TY.o _ _ (ax.dr hd)).2.2.2.2.2.2⟩) (fun w1 hd hs=>?_);have fU:=ax.dr hd;have FT:=gY.trans (af.dr hd);clear hd ax gY;refine dY 0 1 2 3 ?_;refine dY 4 5 6 7 ?_;refine Zl 8 fun K hK=>?_;go_simp;refine(SD.o w1 _ fU).mono ?_;rintro e wb ⟨veb,Heb,Hb,rfl,heb,hsb,lY,ZC⟩;have kh:=aa hsb;have aB:Holds wb (Hb++(oS++Fr)):=lY.p;have cY:=FT.trans ZC;clear fU FT heb hsb lY ZC;refine hK _ _ ?_;clear hK K hs;refine Ze ?_;go_upto_region 14 with fail
       obtain⟨yb2,mb2,lL,_,oH,_,_⟩:=kh.o.jU;obtain⟨x0,x1,x2,x3,x4,x5,x6⟩:=lL wb _ aB;have HF:=aa (oH x wb _ aB);clear lL oH aB;go_upto_region 15 with fail
       refine HF.o.mono ?_;rintro e w3⟨Xi,Xj,H3,rfl,pe,nE,aD,bj⟩;have xw:=aa nE;have aU:Holds w3 (H3++(oS++Fr)):=aD.p;have cf:=cY.trans bj;clear pe nE aD bj cY HF x0 x1 x2 x3 x4 x5 x6;obtain⟨yb3,mb3,gG,_,_,oI,_⟩:=xw.o.jU;obtain⟨x0,x1,x2,x3,x4,x5,x6⟩:=gG w3 _ aU;have HO:=aa (oI x w3 _ aU);clear gG oI aU;go_upto_region 16 with fail
       refine HO.o.mono ?_;rintro e w4⟨Te,AU,H4,rfl,j9,sj,bg,bV⟩;have vt:=aa sj;have bC:Holds w4 (H4++(oS++Fr)):=bg.p;have bI:=cf.trans bV;clear j9 sj bg bV cf HO x0 x1 x2 x3 x4 x5 x6;obtain⟨yb4,mb4,jh,_⟩:=vt.o.jU;obtain⟨x0,x1,x2,x3,x4,x5,x6⟩:=jh w4 _ bC;obtain⟨H5,lu,bz⟩:=vt.o.OR x Tl.o.1 Tl.o.2;obtain⟨h7,f7,l7⟩:=bz w4 _ bC;have H7:=aa h7;have jH:=aa lu;clear jh bz bC h7 lu;go_wp2_with fail
       go_ret;rw[pJ.o];exact⟨_,[],H5,oS,rfl,bJ.none,jH.o,Au.o,H7.o,bI.setCell _ _⟩
     ·obtain⟨be3,se3,rfl,rfl⟩:=cI HHE.o jQ;rw[if_pos jQ]at vq;go_upto_region 7 with fail
      refine I8.o.mono ?_;rintro e w1⟨rfl,rfl⟩;go_wp2_with fail
      go_ret;rw[<-cP.o,vq.o];exact⟨_,_,H',oS,rfl,HHE.o,Jq.o,TV.o,ano.o.p,cY⟩
   ·have Xo:=aa (show res=(nM s' x,c',0) by rw[<-cP.o,k7,if_neg (by rw[<-Dp.o];exact uZ)]);obtain rfl:nx=0:=by omega
    go_upto_region 5 with fail
    refine LC.o.mono ?_;rintro e w1⟨rfl,rfl⟩;go_upto_region 12 with fail
    have IX:=Jq;have Au:=Gf;have ax:Holds wr (H'++(cO++Fr)):=Xn.o.p;have gY:=gf;have TX:=aa (show-1<=x∧x<(s'.B:Int) by have:=HX.o;have:=Ix.o;omega);clear gf x0 x1 x2 x3 x4 x5 x6;obtain⟨yb1,mb1,nS,uJ,_⟩:=IX.o.jU;have TY:=aa nS;obtain⟨x0,x1,x2,x3,x4,x5,x6⟩:=nS wr _ ax;by_cases ho:s'.op=-1
    ·have pJ:=aa (show res=({fH (sD s' x) x with op:=x},c',0) by rw[Xo.o];unfold nM gw;rw[if_pos ho]);have Tl:=aa (show-1<=x∧x<(s'.B:Int)from TX.o);rw[ho]at x6;clear nS uJ ho;go_upto_region 14 with fail
     have kh:=IX;have aB:=ax;have cY:=gY;clear x0 x1 x2 x3 x4 x5 x6 ax gY;obtain⟨yb2,mb2,lL,_,oH,_,_⟩:=kh.o.jU;obtain⟨x0,x1,x2,x3,x4,x5,x6⟩:=lL wr _ aB;have HF:=aa (oH x wr _ aB);clear lL oH aB;go_upto_region 15 with fail
     refine HF.o.mono ?_;rintro e w3⟨Xi,Xj,H3,rfl,pe,nE,aD,bj⟩;have xw:=aa nE;have aU:Holds w3 (H3++(cO++Fr)):=aD.p;have cf:=cY.trans bj;clear pe nE aD bj cY HF x0 x1 x2 x3 x4 x5 x6;obtain⟨yb3,mb3,gG,_,_,oI,_⟩:=xw.o.jU;obtain⟨x0,x1,x2,x3,x4,x5,x6⟩:=gG w3 _ aU;have HO:=aa (oI x w3 _ aU);clear gG oI aU;go_upto_region 16 with fail
     refine HO.o.mono ?_;rintro e w4⟨Te,AU,H4,rfl,j9,sj,bg,bV⟩;have vt:=aa sj;have bC:Holds w4 (H4++(cO++Fr)):=bg.p;have bI:=cf.trans bV;clear j9 sj bg bV cf HO x0 x1 x2 x3 x4 x5 x6;obtain⟨yb4,mb4,jh,_⟩:=vt.o.jU;obtain⟨x0,x1,x2,x3,x4,x5,x6⟩:=jh w4 _ bC;obtain⟨H5,lu,bz⟩:=vt.o.OR x Tl.o.1 Tl.o.2;obtain⟨h7,f7,l7⟩:=bz w4 _ bC;have H7:=aa h7;have jH:=aa lu;clear jh bz bC h7 lu;go_wp2_with fail
     go_ret;rw[pJ.o];exact⟨_,[],H5,cO,rfl,bJ.none,jH.o,Au.o,H7.o,bI.setCell _ _⟩
    ·have pJ:=aa (show res=({fH (sD {s' with y:=(fX s'.y s'.op 2 3).1} x) x with op:=x},c',0) by rw[Xo.o];unfold nM gw;rw[if_neg ho]);have Tl:=aa (show-1<=x∧x<(s'.B:Int)from TX.o);have e6:(s'.op != -1)=true:=by simpa using ho
     have SD:=aa (uJ s'.op);clear nS uJ ho;go_upto_region 13 with fail
     clear x0 x1 x2 x3 x4 x5 x6;refine aF (fun wx=>wx.cell? ⟨b,0,none⟩=some (.pointer (some ⟨yb1,0,none⟩))∧wx.cell? ⟨b,6,none⟩=some (.int .i64 s'.op)) 8 (by kernel_rfl) (fun w1 hd=>⟨(TY.o _ _ (ax.dr hd)).1,(TY.o _ _ (ax.dr hd)).2.2.2.2.2.2⟩) (fun w1 hd hs=>?_);have fU:=ax.dr hd;have FT:=gY.trans (af.dr hd);clear hd ax gY;refine dY 0 1 2 3 ?_;refine dY 4 5 6 7 ?_;refine Zl 8 fun K hK=>?_;go_simp;refine(SD.o w1 _ fU).mono ?_;rintro e wb ⟨veb,Heb,Hb,rfl,heb,hsb,lY,ZC⟩;have kh:=aa hsb;have aB:Holds wb (Hb++(cO++Fr)):=lY.p;have cY:=FT.trans ZC;clear fU FT heb hsb lY ZC;refine hK _ _ ?_;clear hK K hs;refine Ze ?_;go_upto_region 14 with fail
     obtain⟨yb2,mb2,lL,_,oH,_,_⟩:=kh.o.jU;obtain⟨x0,x1,x2,x3,x4,x5,x6⟩:=lL wb _ aB;have HF:=aa (oH x wb _ aB);clear lL oH aB;go_upto_region 15 with fail
     refine HF.o.mono ?_;rintro e w3⟨Xi,Xj,H3,rfl,pe,nE,aD,bj⟩;have xw:=aa nE;have aU:Holds w3 (H3++(cO++Fr)):=aD.p;have cf:=cY.trans bj;clear pe nE aD bj cY HF x0 x1 x2 x3 x4 x5 x6;obtain⟨yb3,mb3,gG,_,_,oI,_⟩:=xw.o.jU;obtain⟨x0,x1,x2,x3,x4,x5,x6⟩:=gG w3 _ aU;have HO:=aa (oI x w3 _ aU);clear gG oI aU;go_upto_region 16 with fail
     refine HO.o.mono ?_;rintro e w4⟨Te,AU,H4,rfl,j9,sj,bg,bV⟩;have vt:=aa sj;have bC:Holds w4 (H4++(cO++Fr)):=bg.p;have bI:=cf.trans bV;clear j9 sj bg bV cf HO x0 x1 x2 x3 x4 x5 x6;obtain⟨yb4,mb4,jh,_⟩:=vt.o.jU;obtain⟨x0,x1,x2,x3,x4,x5,x6⟩:=jh w4 _ bC;obtain⟨H5,lu,bz⟩:=vt.o.OR x Tl.o.1 Tl.o.2;obtain⟨h7,f7,l7⟩:=bz w4 _ bC;have H7:=aa h7;have jH:=aa lu;clear jh bz bC h7 lu;go_wp2_with fail
     go_ret;rw[pJ.o];exact⟨_,[],H5,cO,rfl,bJ.none,jH.o,Au.o,H7.o,bI.setCell _ _⟩
  ·obtain rfl:k=L.length:=by omega
   rw[List.drop_length,k7]at cH;have HW:=aa (mC 7 wr _ (by omega) eh);have HR:=aa cH;have zN:¬(L.length:Int)<(L.length:Int):=by omega
   clear cH bD cz eh jK hsB;go_upto_region 19 with fail
   go_wp2_with fail
   refine HW.o.mono ?_;rintro e w3⟨Xi,Xj,rfl,pe,aD,bj⟩;have ab3:=aa pe;have Iy:=aa aD;clear pe aD;go_wp2_with fail
   go_ret;rw[<-HR.o];exact⟨_,_,H',cO,rfl,ab3.o,Jq.o,Gf.o,Iy.o.p,gf.trans bj⟩
end
section
variable{b cb g cap:Nat}{mv:Value}{c:CM}{s:SM}{H Hc Fr:HL}{w:World}
def oV(P:Nat)(y:List YB):Prop:=∀x∈y,x.ad.length=P∧0<=x.taken
theorem oV.set{P:Nat}{y:List YB}(h:oV P y){k:Int}{x:YB}(hx:x.ad.length=P)(ht:0<=x.taken):oV P (lB y k x):=fun z hz=>by
 unfold lB at hz;rcases vM hz with hz|rfl
 ·exact h z hz
 ·exact⟨hx,ht⟩
theorem oV.at_{P:Nat}{y:List YB}(h:oV P y){k:Int}{x:YB}(hx:uu y k=some x):x.ad.length=P∧0<=x.taken:=by
 obtain⟨i,rfl,_,hi⟩:=iR hx;exact h x (gD hi)
theorem oV.turn{P:Nat}{y:List YB}(h:oV P y)(k a d:Int):oV P (fX y k a d).1:=by
 unfold fX;split
 ·exact h
 ·rename_i x hx;split
  ·exact h.set (h.at_ hx).1 (h.at_ hx).2
  ·exact h
theorem oV.Jz{P:Nat}{y:List YB}(h:oV P y)(k:Int):oV P (l8 y k).1:=by
 unfold l8;split
 ·exact h
 ·rename_i x hx;split
  ·exact h.set (h.at_ hx).1 (bG _)
  ·exact h
theorem oV.free{P:Nat}{y:List YB}(h:oV P y)(k:Int):oV P (nI y k).1:=by
 unfold nI;split
 ·exact h
 ·rename_i x hx;split
  ·exact h
  ·exact h.set (h.at_ hx).1 (bG _)
theorem oV.Gy{P:Nat}{y:List YB}(h:oV P y)(k:Int):oV P (dL y k).1:=by
 unfold dL;split
 ·exact h
 ·rename_i x hx;split
  ·exact h
  ·exact h.set (h.at_ hx).1 (h.at_ hx).2
theorem oV.next{P:Nat}{y:List YB}(h:oV P y)(k:Int):oV P (bX y k).1:=by
 unfold bX;split
 ·exact h
 ·rename_i x hx;split
  ·exact h
  ·split
   ·exact h
   ·exact h.set (h.at_ hx).1 (by show 0<=x.taken+1;have:=(h.at_ hx).2;omega)
theorem oV.UN{P:Nat}{y:List YB}(h:oV P y)(hP:0<P)(k:Int):0<=(bX y k).2.1∧(bX y k).2.1<P:=by
 unfold bX;split
 ·exact⟨bG _,by show(0:Int)<P;omega⟩
 ·rename_i x hx;have:=h.at_ hx;split
  ·exact⟨bG _,by show(0:Int)<P;omega⟩
  ·split
   ·exact⟨bG _,by show(0:Int)<P;omega⟩
   ·show 0<=x.taken∧x.taken<P;omega
theorem Ve{y:List YB}{k n:Int}{x:YB}{p:Bool×Bool}(h:IQ y k n=some (x,p)):uu y k=some x:=by
 unfold IQ at h;split at h
 ·simp at h
 ·rename_i z hz;split at h
  ·injection h with h;injection h with h1 h2;subst h1;exact hz
  ·simp at h
theorem oV.need{P:Nat}{y:List YB}(h:oV P y)(k n:Int)(d:Bool):oV P (oB y k n d).1:=by
 unfold oB;split
 ·exact h
 ·rename_i x p hx;have:=h.at_ (Ve hx);split
  ·exact h
  ·exact h.set (by simpa using this.1) this.2
theorem yz(y:List YB)(k:Int):(bX y k).1.length=y.length:=by
 unfold bX;split
 ·rfl
 ·split
  ·rfl
  ·split
   ·rfl
   ·exact oK _ _ _
def bL(s:SM)(k:Int):SM:={s with y:=(bX s.y k).1}
def adE(b cb:Nat)(s':SM)(p code:Int)(w:World)(Fr:HL)(e:Ending)(w':World):Prop:=
 ∃ve He H',e=.returned (.tuple #[.int .i64 p,ve])∧bJ ve code He∧cr b cb s' H'∧Holds w' (H'++(He++Fr))∧af w w'
theorem cr.next(h:cr b cb s H):∃yb mb,(∀(w:World) (F:HL),Holds w (H++F)->w.cell? ⟨b,0,none⟩=some (.pointer (some ⟨yb,0,none⟩))∧w.cell? ⟨b,1,none⟩=some (.pointer (some ⟨cb,0,none⟩))∧
  w.cell? ⟨b,2,none⟩=some (.int .i64 (s.B:Int))∧w.cell? ⟨b,3,none⟩=some (.int .i64 (s.P:Int))∧w.cell? ⟨b,4,none⟩=some (.int .i64 (s.Z:Int))∧w.cell? ⟨b,5,none⟩=some (.map (some mb))∧w.cell? ⟨b,6,none⟩=some (.int .i64 s.op))∧
  ∀(k:Int) (w:World) (F:HL),Holds w (H++F)->Calls Tryz.prog 68 #[.pointer (some ⟨yb,0,none⟩),.int .i64 k] w (adE b cb (bL s k) (bX s.y k).2.1 (bX s.y k).2.2 w F):=by
 obtain⟨yb,mb,es,clock,Hy,hy,cj,bD,yW,ik,im,Lp,rfl⟩:=h;refine⟨yb,mb,fun w F hX=>⟨hX.ae 0,hX.ae 1,hX.ae 2,hX.ae 3,hX.ae 4,hX.ae 5,hX.ae 6⟩,fun k w F hX=>?_⟩;have h1:Holds w (Hy++((b,FR yb cb mb s)::((mb,.map es clock)::F))):=hX.p;refine(QH k hy h1).mono ?_;rintro e w'⟨ve,Hy',He,rfl,he,uv,gK,nD⟩;refine⟨ve,He,(b,FR yb cb mb s)::((mb,.map es clock)::Hy'),rfl,he,⟨yb,mb,es,clock,Hy',uv,cj,bD,yW,ik,im,(yz _ _).trans Lp,rfl⟩,gK.p,nD⟩
def eW:Nat->SM->CM->Int->SM×CM×Int
 |0,s,c,_=>(s,c,0)
 |n+1,s,c,k=>
  if(c.read k (bX s.y k).2.1).2.2≠0 then(bL s k,(c.read k (bX s.y k).2.1).1,(c.read k (bX s.y k).2.1).2.2)
  else match fE (c.read k (bX s.y k).2.1).2.1 with
   |some q=>eW n (oC (bL s k) k (bX s.y k).2.1 q.2) (c.read k (bX s.y k).2.1).1 k
   |none=>eW n (bL s k) (c.read k (bX s.y k).2.1).1 k
def fq(s:SM)(c:CM)(k:Int):SM×CM×Int:=
 if 0<c.bu k then
  if(eW (c.bu k).toNat (fH s k) c k).2.2≠0 then eW (c.bu k).toNat (fH s k) c k
  else({(eW (c.bu k).toNat (fH s k) c k).1 with y:=(fX (eW (c.bu k).toNat (fH s k) c k).1.y k 2 3).1},(eW (c.bu k).toNat (fH s k) c k).2.1,0)
 else(s,c,0)
def qj(r:SM×CM×Int)(k:Int):SM×CM×Int:=if r.2.1.eZ k=true then({r.1 with y:=(dL r.1.y k).1},r.2.1,0)else r
def fJ(s:SM)(c:CM)(k:Int):SM×CM×Int:=if(fq s c k).2.2≠0 then fq s c k else qj (fq s c k) k
def anq(b cb g cap:Nat)(mv:Value)(n:Nat)(x:Int)(res:SM×CM×Int)(s0:SM)(c0:CM)(w:World)(F:HL)(i:Value)(wr:World):Prop:=
 ∃(k:Nat) (s':SM) (c':CM) (H' cO:HL),k<=n∧i=.int .i64 k∧eW (n-k) s' c' x=res∧c0.iV c' k∧s'.B=s0.B∧s'.P=s0.P∧oV s'.P s'.y∧cr b cb s' H'∧ai cb g cap mv c' cO∧Holds wr (H'++(cO++F))∧af w wr
theorem JZ{c:CM}(h:c.ok)(k p:Int):(c.read k p).2.1.length<=284:=by
 unfold CM.read;dsimp only;split
 ·simp
 ·split
  ·simp
  ·show(c.pS k p).length<=284;unfold CM.pS;split
   ·rename_i x hx;obtain⟨i,rfl,hi,th,_⟩:=CM.lN hx;have o9:=h.2.2.2.2.2.2.2.2.2.2.2.2.2 x (gD th);unfold CM.ok at h;rw[jR];cases hq:x.ad[p.toNat]? with
    |none=>simp
    |some q=>have:=o9.2.1 q (gD hq);simp;omega
   ·simp
end
section
variable{b cb g cap:Nat}{mv:Value}{c:CM}{s:SM}{H Hc Fr:HL}{w:World}
theorem VG(x:Int)(h:cr b cb s H)(cz:ai cb g cap mv c Hc)(hH:Holds w (H++(Hc++Fr)))(fI:c.ops<=999999999000)(hy:oV s.P s.y)(hx0:0<=x)(hx1:x<s.B):
  Calls Tryz.prog 46 #[.pointer (some ⟨b,0,none⟩),.int .i64 x] w (OP b cb g cap mv (fJ s c x).1 (fJ s c x).2.1 (fJ s c x).2.2 w Fr):=by
 have kV:=aa h;have lS:=aa cz;have HYO:=aa hy;have HX:=aa (aS hx0 hx1);have SA:=aa (show fJ s c x=if(fq s c x).2.2≠0 then fq s c x else qj (fq s c x) x from rfl);have Ol:=aa (bO h.sm);generalize fJ s c x=res at*;have LC:=aa (yo x cz (hH.right));have WA:=wj cz.o7 x;obtain⟨nx,Dr⟩:∃nx,nx=c.bu x:=⟨_,rfl⟩;rw[<-Dr]at LC WA;have Dp:=aa Dr;obtain⟨yb,mb,cg,_,_,fg,_⟩:=h.jU;obtain⟨x0,x1,x2,x3,x4,x5,x6⟩:=cg w _ hH;have I7:=aa (fg x w _ hH);have HH:=aa hH;have Oo:=af.refl w;clear h cz hH hy hx0 hx1 Dr cg fg;have k1:=cS;have k2:=cC;go_enter func46,ntmps46;go_upto_region 2 with fail
 refine LC.o.mono ?_;rintro e w1⟨rfl,rfl⟩;by_cases uZ:0<nx
 ·have PS:=aa (show fq s c x=if(eW (c.bu x).toNat (fH s x) c x).2.2≠0 then eW (c.bu x).toNat (fH s x) c x
   else({(eW (c.bu x).toNat (fH s x) c x).1 with y:=(fX (eW (c.bu x).toNat (fH s x) c x).1.y x 2 3).1},(eW (c.bu x).toNat (fH s x) c x).2.1,0) by unfold fq;rw[if_pos (by rw[<-Dp.o];exact uZ)])
  rw[<-Dp.o]at PS;obtain⟨n,rfl⟩:=Int.eq_ofNat_of_zero_le WA.1;rw[show((n:Int)).toNat=n from rfl]at PS;obtain⟨lr,hlr⟩:∃lr,lr=eW n (fH s x) c x:=⟨_,rfl⟩;rw[<-hlr]at PS;have HLR:=aa hlr;clear hlr;go_upto_region 4 with fail
  refine I7.o.mono ?_;rintro e w2⟨ve2,St,H2,rfl,oU,tg,aB,aX⟩;have kh:=aa tg;have aD:Holds w2 (H2++(Hc++Fr)):=aB.p;have hn8:n<=8:=by omega
  clear oU tg aB I7 LC x0 x1 x2 x3 x4 x5 x6 WA Oo uZ;go_wp2_with fail
  go_loopw [28] (fun i wr=>anq b cb g cap mv n x lr s c w Fr i wr) (fun i _=>n-(intOf i).toNat)
  case atStart=>exact⟨0,fH s x,c,H2,Hc,by omega,rfl,HLR.o.symm,CM.iV.refl c,rfl,rfl,HYO.o.Jz x,kh.o,lS.o,aD,aX⟩
  case round=>
   clear aD aX;obtain⟨k,s',c',H',cO,hk,rfl,cH,jK,hsB,hsP,hyo,bD,cz,eh,gf⟩:=hrel;have Jq:=aa bD;have Gf:=aa cz;have Qa:=aa jK;have Ix:=aa (aS hsB hsP);have ag5:=aa hyo;by_cases aG:k<n
   ·have zN:(k:Int)<(n:Int):=by omega
    have ab4:=aa (show c'.ops<=999999999900 by have:=jK.2.2.2.2.2;omega);rw[show n-k=(n-(k+1))+1 by omega,eW]at cH;have cP:=aa cH;obtain⟨yb3,mb3,gG,Vf⟩:=bD.next;obtain⟨x0,x1,x2,x3,x4,x5,x6⟩:=gG wr _ eh;have SE:=aa (Vf x wr _ eh);have qF:=aa (hyo.UN (by have:=Ol.o;omega) x);clear cH jK hsB hsP hyo bD cz eh gG Vf;go_upto_region 7 with fail
    refine SE.o.mono ?_;rintro e w3⟨Xi,Xj,H3,rfl,pe,nE,aD,bj⟩;have xw:=aa nE;have aU:Holds w3 (H3++(cO++Fr)):=aD.p;have cf:=gf.trans bj;clear pe nE aD bj gf SE x0 x1 x2 x3 x4 x5 x6;obtain⟨pg,kg⟩:∃pg,pg=(bX s'.y x).2.1:=⟨_,rfl⟩;rw[<-kg]at cP qF⊢;have auL:=aa kg;clear kg;obtain⟨yb4,mb4,jh,_⟩:=xw.o.jU;obtain⟨x0,x1,x2,x3,x4,x5,x6⟩:=jh w3 _ aU;have jo:=aa (EI x pg Gf.o (aU.swap) (by have:=ab4.o;omega));have aaf:=aa (CM.sJ c' x pg);have Od:=aa (JZ Gf.o.o7 x pg);clear jh aU;generalize c'.read x pg=rd at*;obtain⟨c4,raw,code⟩:=rd;dsimp only at*;go_upto_region 8 with fail
    refine jo.o.mono ?_;rintro e w4⟨vr,Te,tK,Hv,AU,G4,rfl,hv,j9,lU,bg,dJ⟩;have ab5:=aa lU;have HV:=aa hv;have LF:=aa j9;have zJ:=aa bg;have eY:=cf.trans dJ;clear hv lU bg dJ cf jo x0 x1 x2 x3 x4 x5 x6;by_cases hc:code=0
    ·subst hc;obtain⟨rfl,rfl⟩:=de j9;clear j9;have pj:=aa (cP.o);rw[if_neg (by simp)]at pj;have Dl:=aa (JS vr raw w4 (H3++(tK++(Hv++Fr))) (fun wx hx=>HV.o.at_ (hx.p:Holds wx (Hv++(H3++(tK++Fr))))) (zJ.o.p) (by have:=Od.o;omega));clear cP;cases PM:fE raw with
     |none=>
      rw[PM]at Dl pj;clear PM;go_upto_region 11 with fail
      refine Dl.o.mono ?_;rintro e w5⟨st,ab6,rfl,bC,eJ⟩;have e1:(st==1)=false:=by simpa using ab6
      clear ab6;simp only[Hd.agg,Hd.cells,Hd.zero];go_upto_region 11 with fail
      have cA:=bC.alloc (.cells #[.int .i64 0,.int .u64 0,.int .i64 0,.int .i64 0] 59);have fx:=(eY.trans eJ).alloc (.cells #[.int .i64 0,.int .u64 0,.int .i64 0,.int .i64 0] 59);clear bC eJ eY;go_wp2_with fail
      go_roundw
      case rel=>
       refine⟨k+1,bL s' x,c4,H3,tK,by omega,by go_num,pj.o,(Qa.o.trans aaf.o).mono (by omega),Ix.o.1,Ix.o.2,ag5.o.next x,xw.o,ab5.o,cA.p,fx⟩
      case measure=>simp[intOf];omega
     |some q=>
      rw[PM]at Dl pj;clear PM;go_upto_region 11 with fail
      refine Dl.o.mono ?_;rintro e w5⟨vd,Hd5,rfl,hd5,bC,eJ⟩;obtain⟨dq,hq⟩:=q;have HKP:=aa (fun(wx:World) (F:HL) (hX:Holds wx (H3++F))=>JX x pg hq xw.o hX HX.o.1 (by rw[show(bL s' x).B=s'.B from rfl,Ix.o.1];exact HX.o.2) qF.o.1 qF.o.2);dsimp only at pj⊢;obtain⟨cZ,ez,dy,dP⟩:=hq;simp only[Hd.agg,Hd.cells]at HKP⊢;clear hd5;go_upto_region 11 with fail
      have cA:=bC.alloc (.cells #[.int .i64 cZ,.int .u64 ez,.int .i64 dy,.int .i64 dP] 59);have fx:=(eY.trans eJ).alloc (.cells #[.int .i64 cZ,.int .u64 ez,.int .i64 dy,.int .i64 dP] 59);clear bC eJ eY;generalize w5.alloc (.cells #[.int .i64 cZ,.int .u64 ez,.int .i64 dy,.int .i64 dP] 59)=w6 at*;generalize w5.heap.size=gh at*;have s0:=cA.ae 0;have s1:=cA.ae 1;have s2:=cA.ae 2;have s3:=cA.ae 3;have cT:Holds w6 (H3++(tK++Fr)):=cA.p;have ZD:=aa (HKP.o w6 _ cT);clear cA cT HKP;go_upto_region 13 with fail
      refine ZD.o.mono ?_;rintro e w7⟨rfl,H7,Tm,di,jG⟩;have Oq:=aa Tm;have DJ:=aa di;have iU:=fx.trans jG;clear Tm di jG fx s0 s1 s2 s3 ZD;go_wp2_with fail
      go_roundw
      case rel=>
       refine⟨k+1,oC (bL s' x) x pg ⟨cZ,ez,dy,dP⟩,c4,H7,tK,by omega,by go_num,pj.o,(Qa.o.trans aaf.o).mono (by omega),Ix.o.1,Ix.o.2,(ag5.o.next x).need x pg _,Oq.o,ab5.o,DJ.o.p,iU⟩
      case measure=>simp[intOf];omega
    ·obtain⟨be4,se4,rfl,rfl⟩:=cI j9 hc;have pj:=aa (cP.o);rw[if_pos hc]at pj;clear j9;go_wp2_with fail
     go_ret;have ag6:=aa PS.o;rw[<-pj.o,if_pos hc]at ag6;rw[SA.o,ag6.o,if_pos hc];exact⟨_,_,H3,tK,rfl,LF.o,xw.o,ab5.o,zJ.o.p,eY⟩
   ·obtain rfl:k=n:=by omega
    rw[qg,eW]at cH;rw[<-cH,if_neg (by simp)]at PS;dsimp only at PS;obtain⟨yb3,mb3,gG,Vg,_⟩:=bD.jU;obtain⟨x0,x1,x2,x3,x4,x5,x6⟩:=gG wr _ eh;have SD:=aa (Vg x wr _ eh);have zN:¬(k:Int)<(k:Int):=by omega
    clear cH jK hsB hsP hyo bD cz eh gG Vg;go_upto_region 15 with fail
    refine SD.o.mono ?_;rintro e w3⟨Xi,Xj,H3,rfl,pe,nE,aD,bj⟩;have Ds:=aa nE;have ew:Holds w3 (H3++(cO++Fr)):=aD.p;have qQ:=gf.trans bj;have Au:=Gf;have Zo:=aa (show res=qj ({s' with y:=(fX s'.y x 2 3).1},c',0) x by rw[SA.o,PS.o,if_neg (by simp)]);clear pe nE aD bj gf SD x0 x1 x2 x3 x4 x5 x6;obtain⟨yb9,mb9,wk,_,_,_,JA⟩:=Ds.o.jU;obtain⟨x0,x1,x2,x3,x4,x5,x6⟩:=wk w3 _ ew;have PQ:=aa (sN x Au.o (ew.swap));have LO:=aa (JA x w3 _ ew);have HHX:=aa ew;clear wk JA ew;by_cases hm:(c').eZ x=true
    ·have cP:=aa (show res=({({s' with y:=(fX s'.y x 2 3).1})with y:=(dL ({s' with y:=(fX s'.y x 2 3).1}).y x).1},c',0) by rw[Zo.o];unfold qj;exact if_pos hm);rw[hm]at PQ;clear hm;go_upto_region 16 with fail
     refine PQ.o.mono ?_;rintro e w8⟨rfl,rfl⟩;go_upto_region 17 with fail
     refine LO.o.mono ?_;rintro e w8⟨ve8,He8,H8,rfl,FU,LP,cT,ka⟩;have SF:=aa LP;have IP:=aa cT;have iT:=qQ.trans ka;clear FU LP cT ka qQ LO x0 x1 x2 x3 x4 x5 x6;go_wp2_with fail
     go_ret;rw[cP.o];exact⟨_,[],H8,_,rfl,bJ.none,SF.o,Au.o,IP.o.p,iT⟩
    ·have cP:=aa (show res=({s' with y:=(fX s'.y x 2 3).1},c',0) by rw[Zo.o];unfold qj;exact if_neg hm);rw[show(c').eZ x=false by simpa using hm]at PQ;clear hm;go_upto_region 16 with fail
     refine PQ.o.mono ?_;rintro e w8⟨rfl,rfl⟩;clear x0 x1 x2 x3 x4 x5 x6;go_wp2_with fail
     go_ret;rw[cP.o];exact⟨_,[],_,_,rfl,bJ.none,Ds.o,Au.o,HHX.o.p,qQ⟩
 ·obtain rfl:nx=0:=by omega
  have Zo:=aa (show res=qj (s,c,0) x by rw[SA.o,show fq s c x=(s,c,0) by unfold fq;rw[if_neg (by rw[<-Dp.o];omega)],if_neg (by simp)]);have Ds:=kV;have Au:=lS;have ew:=HH.o;have qQ:=Oo;clear x0 x1 x2 x3 x4 x5 x6 Oo;obtain⟨yb9,mb9,wk,_,_,_,JA⟩:=Ds.o.jU;obtain⟨x0,x1,x2,x3,x4,x5,x6⟩:=wk w _ ew;have PQ:=aa (sN x Au.o (ew.swap));have LO:=aa (JA x w _ ew);have HHX:=aa ew;clear wk JA ew;by_cases hm:(c).eZ x=true
  ·have cP:=aa (show res=({(s)with y:=(dL (s).y x).1},c,0) by rw[Zo.o];unfold qj;exact if_pos hm);rw[hm]at PQ;clear hm;go_upto_region 16 with fail
   refine PQ.o.mono ?_;rintro e w8⟨rfl,rfl⟩;go_upto_region 17 with fail
   refine LO.o.mono ?_;rintro e w8⟨ve8,He8,H8,rfl,FU,LP,cT,ka⟩;have SF:=aa LP;have IP:=aa cT;have iT:=qQ.trans ka;clear FU LP cT ka qQ LO x0 x1 x2 x3 x4 x5 x6;go_wp2_with fail
   go_ret;rw[cP.o];exact⟨_,[],H8,_,rfl,bJ.none,SF.o,Au.o,IP.o.p,iT⟩
  ·have cP:=aa (show res=(s,c,0) by rw[Zo.o];unfold qj;exact if_neg hm);rw[show(c).eZ x=false by simpa using hm]at PQ;clear hm;go_upto_region 16 with fail
   refine PQ.o.mono ?_;rintro e w8⟨rfl,rfl⟩;clear x0 x1 x2 x3 x4 x5 x6;go_wp2_with fail
   go_ret;rw[cP.o];exact⟨_,[],_,_,rfl,bJ.none,Ds.o,Au.o,HHX.o.p,qQ⟩
end
section
variable{b cb g cap:Nat}{mv:Value}{c:CM}{s:SM}{H Hc Fr:HL}{w:World}
def SM.iV(s s':SM):Prop:=s'.B=s.B∧s'.P=s.P∧s'.Z=s.Z∧s'.op=s.op∧(oV s.P s.y->oV s.P s'.y)
theorem SM.iV.refl(s:SM):s.iV s:=⟨rfl,rfl,rfl,rfl,id⟩
theorem SM.iV.trans{s1 s2 s3:SM}(h:s1.iV s2)(h2:s2.iV s3):s1.iV s3:=by
 obtain⟨a1,a2,a3,a4,a5⟩:=h;obtain⟨b1,b2,b3,b4,b5⟩:=h2;rw[a2]at b5;exact⟨b1.trans a1,b2.trans a2,b3.trans a3,b4.trans a4,fun h=>b5 (a5 h)⟩
theorem yA(s:SM)(k:Int):s.iV (bL s k):=⟨rfl,rfl,rfl,rfl,fun h=>h.next k⟩
theorem QX(s:SM)(k p:Int)(h:Hd):s.iV (oC s k p h):=⟨rfl,rfl,rfl,rfl,fun h=>h.need k p _⟩
theorem QY(n:Nat):∀(s:SM) (c:CM) (k:Int),s.iV (eW n s c k).1∧c.iV (eW n s c k).2.1 n:=by
 induction n with
 |zero=>intro s c k;exact⟨SM.iV.refl s,CM.iV.refl c⟩
 |succ n ih=>
  intro s c k;have hr:=CM.sJ c k (bX s.y k).2.1;rw[eW];split
  ·exact⟨yA s k,hr.mono (by omega)⟩
  ·split
   ·rename_i q _;obtain⟨h1,h2⟩:=ih (oC (bL s k) k (bX s.y k).2.1 q.2) (c.read k (bX s.y k).2.1).1 k;exact⟨((yA s k).trans (QX _ _ _ _)).trans h1,(hr.trans h2).mono (by omega)⟩
   ·obtain⟨h1,h2⟩:=ih (bL s k) (c.read k (bX s.y k).2.1).1 k;exact⟨(yA s k).trans h1,(hr.trans h2).mono (by omega)⟩
theorem QZ(s:SM)(c:CM)(k:Int)(h8:c.bu k<=8):s.iV (fq s c k).1∧c.iV (fq s c k).2.1 8:=by
 unfold fq;split
 ·obtain⟨h1,h2⟩:=QY (c.bu k).toNat (fH s k) c k;have h0:s.iV (fH s k):=⟨rfl,rfl,rfl,rfl,fun h=>h.Jz k⟩;split
  ·exact⟨h0.trans h1,h2.mono (by omega)⟩
  ·exact⟨(h0.trans h1).trans ⟨rfl,rfl,rfl,rfl,fun h=>h.turn _ _ _⟩,h2.mono (by omega)⟩
 ·exact⟨SM.iV.refl s,(CM.iV.refl c).mono (by omega)⟩
theorem ER(s:SM)(c:CM)(k:Int)(h8:c.bu k<=8):s.iV (fJ s c k).1∧c.iV (fJ s c k).2.1 8:=by
 obtain⟨h1,h2⟩:=QZ s c k h8;unfold fJ;split
 ·exact⟨h1,h2⟩
 ·unfold qj;split
  ·exact⟨h1.trans ⟨rfl,rfl,rfl,rfl,fun h=>h.Gy _⟩,h2⟩
  ·exact⟨h1,h2⟩
def SM.fresh(B P Z:Nat):SM:=⟨B,P,Z,vE B P,[],-1⟩
def dM:Nat->Nat->SM->CM->SM×CM×Int
 |0,_,s,c=>(s,c,0)
 |n+1,k,s,c=>if(fJ s c k).2.2≠0 then fJ s c k else dM n (k+1) (fJ s c k).1 (fJ s c k).2.1
def bW(c:CM):SM×CM×Int:=dM c.blocks.length 0 (SM.fresh c.blocks.length c.P c.Z) c
def adF(cb g cap:Nat)(mv:Value)(res:SM×CM×Int)(w:World)(Fr:HL)(e:Ending)(w':World):Prop:=
 (res.2.2=0∧∃b H' cO,e=.returned (.tuple #[.pointer (some ⟨b,0,none⟩),.nilIface])∧cr b cb res.1 H'∧ai cb g cap mv res.2.1 cO∧Holds w' (H'++(cO++Fr))∧af w w')∨
 (res.2.2≠0∧∃ve He cO,e=.returned (.tuple #[.pointer none,ve])∧bJ ve res.2.2 He∧ai cb g cap mv res.2.1 cO∧Holds w' (cO++(He++Fr))∧af w w')
def anr(b cb g cap:Nat)(mv:Value)(n:Nat)(res:SM×CM×Int)(s0:SM)(c0:CM)(w:World)(F:HL)(i:Value)(wr:World):Prop:=
 ∃(k:Nat) (s':SM) (c':CM) (H' cO:HL),k<=n∧i=.int .i64 k∧dM (n-k) k s' c'=res∧c0.iV c' (8*k)∧s0.iV s'∧cr b cb s' H'∧ai cb g cap mv c' cO∧Holds wr (H'++(cO++F))∧af w wr
theorem nT(cz:ai cb g cap mv c Hc)(hH:Holds w (Hc++Fr))(hp:lH c.blocks.length c.P c.Z=true)(fi:c.on=true)(fI:c.ops<=999999998000):
  Calls Tryz.prog 11 #[.pointer (some ⟨cb,0,none⟩)] w (adF cb g cap mv (bW c) w Fr):=by
 have HG:=aa (fun(wx:World) (F:HL) (hx:Holds wx (Hc++F))=>J0 cz hx);have HP:=aa (fun(wx:World) (F:HL) (hx:Holds wx F)=>yu c.blocks.length c.P c.Z wx F hx);rw[hp]at HP;have Lq:=aa (fun(wx:World) (F:HL) (hx:Holds wx (Hc++F))=>wg cz hx);rw[fi]at Lq;have DK:=bO hp;have Xk:=aa (fun(wx:World) (F:HL) (hx:Holds wx F)=>QM c.blocks.length c.P F wx hx (by omega) (by omega) (by omega) (by omega));have od:=aa hp;have lS:=aa cz;have ab4:=aa fI;have qI:=aa (show bW c=dM c.blocks.length 0 (SM.fresh c.blocks.length c.P c.Z) c from rfl);generalize bW c=res at*;have k1:=cS;have k2:=cC;have yU:=run_makeMap (P:=Tryz.prog) 105;obtain⟨n,hn⟩:∃n,n=c.blocks.length:=⟨_,rfl⟩;rw[<-hn]at HG HP Xk qI DK od;have HN:=aa hn;obtain⟨P,hP⟩:∃P,P=c.P:=⟨_,rfl⟩;obtain⟨Z,hZ⟩:∃Z,Z=c.Z:=⟨_,rfl⟩;rw[<-hP]at HG HP Xk qI DK od;rw[<-hZ]at HG HP qI DK od;have HPE:=aa (aS hP hZ);clear hn hP hZ cz hp fi fI;go_enter func11,ntmps11;go_upto_region 4 with fail
 refine(HG.o w _ hH).mono ?_;rintro e w1⟨rfl,ax,aK⟩;have Lr:=aa (HP.o w1 _ ax);go_upto_region 4 with fail
 refine Lr.o.mono ?_;rintro e w2⟨rfl,aB,aX⟩;have ag7:=aa (Lq.o w2 _ aB);have cY:=aK.trans aX;clear hH ax aK aX Lr Lq HP;go_upto_region 7 with fail
 refine ag7.o.mono ?_;rintro e w3⟨rfl,rfl⟩;have SG:=aa (HG.o w2 _ aB);clear aB HG ag7;go_upto_region 8 with fail
 refine SG.o.mono ?_;rintro e w3⟨rfl,aD,bj⟩;have cf:=cY.trans bj;clear SG bj cY;go_upto_region 8 with fail
 have aU:=aD.alloc (.cells #[.int .i64 (n:Int),.int .i64 (P:Int),.int .i64 (Z:Int)] 31);have bI:=cf.alloc (.cells #[.int .i64 (n:Int),.int .i64 (P:Int),.int .i64 (Z:Int)] 31);clear aD cf;generalize w3.alloc (.cells #[.int .i64 (n:Int),.int .i64 (P:Int),.int .i64 (Z:Int)] 31)=w4 at*;generalize w3.heap.size=gt at*;have dj:=aa (fun(wx:World) (X F:HL) (hX:Holds wx (X++((gt,(.cells #[.int .i64 (n:Int),.int .i64 (P:Int),.int .i64 (Z:Int)] 31))::F)))=>show wx.cell? ⟨gt,0,none⟩=some (.int .i64 (n:Int))∧wx.cell? ⟨gt,1,none⟩=some (.int .i64 (P:Int))∧wx.cell? ⟨gt,2,none⟩=some (.int .i64 (Z:Int))from⟨hX.right.ae 0,hX.right.ae 1,hX.right.ae 2⟩);refine nR (fun wx=>wx.cell? ⟨gt,0,none⟩=some (.int .i64 (n:Int))∧wx.cell? ⟨gt,1,none⟩=some (.int .i64 (P:Int))∧wx.cell? ⟨gt,2,none⟩=some (.int .i64 (Z:Int))) 9 (by kernel_rfl) (fun w1 hd=>dj.o _ [] _ (aU.dr hd)) (fun w1 hd hs=>?_);have fy:=aU.dr hd;have mN:=bI.trans (af.dr hd);clear hd aU bI;refine Yv 0 ?_;refine Yu 1 ?_;refine Yv 2 ?_;refine Yu 3 ?_;simp only[pt,sA,sS,sZ];refine Yv 5 ?_;refine Yu 6 ?_;simp only[pt,sA,sS,sZ];refine UE 4 7 rfl rfl (by kernel_rfl) (fun K hK=>?_) (fun K hK=>?_);have⟨s0,s1,s2⟩:=hs;go_simp;refine(Xk.o _ _ fy).mono ?_;rintro e wy ⟨vy,Hy,rfl,hy,DN,ZE⟩;have I9:=mN.trans ZE;have HYD:=aa hy;obtain⟨yb,rfl⟩:=hy.ptr;clear fy mN ZE hy;have fy:=DN;have mN:=I9;clear DN I9;clear s0 s1 s2;refine hK _ _ ((by first|exact dj.o _ _ _ fy|exact dj.o _ (_++[_]) _ (by simpa using fy))) (fun _=>?_);clear hK K hs;rename_i hs;refine Ym 7 fun K hK=>?_;have⟨s0,s1,s2⟩:=hs;have DN:=fy.alloc (.map #[] 0);have I9:=mN.alloc (.map #[] 0);go_simp;clear fy mN;have fy:=DN;have mN:=I9;clear DN I9;clear s0 s1 s2;refine hK _ _ ((by first|exact dj.o _ [_] _ fy|exact dj.o _ (_::_) _ fy)) (fun _=>?_);clear hK K hs;rename_i hs;first|(generalize wy.alloc (.map #[] 0)=wm at*;generalize wy.heap.size=mb at*)|(generalize w1.alloc (.map #[] 0)=wm at*;generalize w1.heap.size=mb at*)
 refine Yv 8 ?_;simp only[pt,sA,sS,sZ];refine Yl 9 fun K hK=>?_;have⟨s0,s1,s2⟩:=hs;have DN:=fy.alloc (.cells #[.pointer (some ⟨yb,0,none⟩),.pointer (some ⟨cb,0,none⟩),.int .i64 (n:Int),.int .i64 (P:Int),.int .i64 (Z:Int),.map (some mb),.int .i64 (-1)] 107);have I9:=mN.alloc (.cells #[.pointer (some ⟨yb,0,none⟩),.pointer (some ⟨cb,0,none⟩),.int .i64 (n:Int),.int .i64 (P:Int),.int .i64 (Z:Int),.map (some mb),.int .i64 (-1)] 107);go_simp;clear fy mN;have fy:=DN;have mN:=I9;clear DN I9;clear s0 s1 s2 hs;refine hK _ _ ?_;clear hK K;first|(have hZ:Holds (wm.alloc (.cells #[.pointer (some ⟨yb,0,none⟩),.pointer (some ⟨cb,0,none⟩),.int .i64 (n:Int),.int .i64 (P:Int),.int .i64 (Z:Int),.map (some mb),.int .i64 (-1)] 107)) ((wm.heap.size,(.cells #[.pointer (some ⟨yb,0,none⟩),.pointer (some ⟨cb,0,none⟩),.int .i64 (n:Int),.int .i64 (P:Int),.int .i64 (Z:Int),.map (some mb),.int .i64 (-1)] 107))::(Hy++((mb,.map #[] 0)::((gt,(.cells #[.int .i64 (n:Int),.int .i64 (P:Int),.int .i64 (Z:Int)] 31))::(Hc++Fr))))):=fy.p;clear fy;generalize wm.alloc (.cells #[.pointer (some ⟨yb,0,none⟩),.pointer (some ⟨cb,0,none⟩),.int .i64 (n:Int),.int .i64 (P:Int),.int .i64 (Z:Int),.map (some mb),.int .i64 (-1)] 107)=w5 at*;generalize wm.heap.size=b at*)|(have hZ:Holds (wy.alloc (.cells #[.pointer (some ⟨yb,0,none⟩),.pointer (some ⟨cb,0,none⟩),.int .i64 (n:Int),.int .i64 (P:Int),.int .i64 (Z:Int),.map (some mb),.int .i64 (-1)] 107)) ((wy.heap.size,(.cells #[.pointer (some ⟨yb,0,none⟩),.pointer (some ⟨cb,0,none⟩),.int .i64 (n:Int),.int .i64 (P:Int),.int .i64 (Z:Int),.map (some mb),.int .i64 (-1)] 107))::(Hy++((mb,.map #[] 0)::((gt,(.cells #[.int .i64 (n:Int),.int .i64 (P:Int),.int .i64 (Z:Int)] 31))::(Hc++Fr))))):=fy.p;clear fy;generalize wy.alloc (.cells #[.pointer (some ⟨yb,0,none⟩),.pointer (some ⟨cb,0,none⟩),.int .i64 (n:Int),.int .i64 (P:Int),.int .i64 (Z:Int),.map (some mb),.int .i64 (-1)] 107)=w5 at*;generalize wy.heap.size=b at*)
 refine Yl 10 fun K hK=>?_;go_simp;refine hK _ _ ?_;clear hK K;refine Ye ?_;rotate_left;have⟨s0,s1,s2⟩:=hs;have DN:=fy.alloc (.map #[] 0);have I9:=mN.alloc (.map #[] 0);go_simp;clear fy mN;have fy:=DN;have mN:=I9;clear DN I9;clear s0 s1 s2;refine hK _ _ ((by first|exact dj.o _ [_] _ fy|exact dj.o _ (_::_) _ fy)) (fun _=>?_);clear hK K hs;rename_i hs;first|(generalize wy.alloc (.map #[] 0)=wm at*;generalize wy.heap.size=mb at*)|(generalize w1.alloc (.map #[] 0)=wm at*;generalize w1.heap.size=mb at*)
 refine Ym 4 fun K hK=>?_;have⟨s0,s1,s2⟩:=hs;go_simp;refine(Xk.o _ _ fy).mono ?_;rintro e wy ⟨vy,Hy,rfl,hy,DN,ZE⟩;have I9:=mN.trans ZE;have HYD:=aa hy;obtain⟨yb,rfl⟩:=hy.ptr;clear fy mN ZE hy;have fy:=DN;have mN:=I9;clear DN I9;clear s0 s1 s2;refine hK _ _ ((by first|exact dj.o _ _ _ fy|exact dj.o _ (_++[_]) _ (by simpa using fy))) (fun _=>?_);clear hK K hs;rename_i hs;refine Yv 8 ?_;simp only[pt,sA,sS,sZ];refine Yl 9 fun K hK=>?_;have⟨s0,s1,s2⟩:=hs;have DN:=fy.alloc (.cells #[.pointer (some ⟨yb,0,none⟩),.pointer (some ⟨cb,0,none⟩),.int .i64 (n:Int),.int .i64 (P:Int),.int .i64 (Z:Int),.map (some mb),.int .i64 (-1)] 107);have I9:=mN.alloc (.cells #[.pointer (some ⟨yb,0,none⟩),.pointer (some ⟨cb,0,none⟩),.int .i64 (n:Int),.int .i64 (P:Int),.int .i64 (Z:Int),.map (some mb),.int .i64 (-1)] 107);go_simp;clear fy mN;have fy:=DN;have mN:=I9;clear DN I9;clear s0 s1 s2 hs;refine hK _ _ ?_;clear hK K;first|(have hZ:Holds (wm.alloc (.cells #[.pointer (some ⟨yb,0,none⟩),.pointer (some ⟨cb,0,none⟩),.int .i64 (n:Int),.int .i64 (P:Int),.int .i64 (Z:Int),.map (some mb),.int .i64 (-1)] 107)) ((wm.heap.size,(.cells #[.pointer (some ⟨yb,0,none⟩),.pointer (some ⟨cb,0,none⟩),.int .i64 (n:Int),.int .i64 (P:Int),.int .i64 (Z:Int),.map (some mb),.int .i64 (-1)] 107))::(Hy++((mb,.map #[] 0)::((gt,(.cells #[.int .i64 (n:Int),.int .i64 (P:Int),.int .i64 (Z:Int)] 31))::(Hc++Fr))))):=fy.p;clear fy;generalize wm.alloc (.cells #[.pointer (some ⟨yb,0,none⟩),.pointer (some ⟨cb,0,none⟩),.int .i64 (n:Int),.int .i64 (P:Int),.int .i64 (Z:Int),.map (some mb),.int .i64 (-1)] 107)=w5 at*;generalize wm.heap.size=b at*)|(have hZ:Holds (wy.alloc (.cells #[.pointer (some ⟨yb,0,none⟩),.pointer (some ⟨cb,0,none⟩),.int .i64 (n:Int),.int .i64 (P:Int),.int .i64 (Z:Int),.map (some mb),.int .i64 (-1)] 107)) ((wy.heap.size,(.cells #[.pointer (some ⟨yb,0,none⟩),.pointer (some ⟨cb,0,none⟩),.int .i64 (n:Int),.int .i64 (P:Int),.int .i64 (Z:Int),.map (some mb),.int .i64 (-1)] 107))::(Hy++((mb,.map #[] 0)::((gt,(.cells #[.int .i64 (n:Int),.int .i64 (P:Int),.int .i64 (Z:Int)] 31))::(Hc++Fr))))):=fy.p;clear fy;generalize wy.alloc (.cells #[.pointer (some ⟨yb,0,none⟩),.pointer (some ⟨cb,0,none⟩),.int .i64 (n:Int),.int .i64 (P:Int),.int .i64 (Z:Int),.map (some mb),.int .i64 (-1)] 107)=w5 at*;generalize wy.heap.size=b at*)
 refine Yl 10 fun K hK=>?_;go_simp;refine hK _ _ ?_;clear hK K;refine Ye ?_;rotate_left;all_goals
  have ag8:Holds w5 (((b,(.cells #[.pointer (some ⟨yb,0,none⟩),.pointer (some ⟨cb,0,none⟩),.int .i64 (n:Int),.int .i64 (P:Int),.int .i64 (Z:Int),.map (some mb),.int .i64 (-1)] 107))::((mb,.map #[] 0)::Hy))++(Hc++Fr)):=hZ.p;have IW:Holds w5 (((b,FR yb cb mb (SM.fresh n P Z))::((mb,.map #[] 0)::Hy))++(Hc++Fr)):=ag8;have kV:Zh (cr b cb (SM.fresh n P Z) ((b,FR yb cb mb (SM.fresh n P Z))::((mb,.map #[] 0)::Hy))):=aa ⟨yb,mb,#[],0,Hy,HYD.o,rfl,Go.MapKept.stamped_empty 0,⟨List.Pairwise.nil,fun p hp=>by simp[SM.fresh]at hp⟩,od.o,⟨bG _,by show(-1:Int)<(n:Int);omega⟩,by simp[SM.fresh,vE],rfl⟩;have hZ3:Holds w5 ([]++((gt,(.cells #[.int .i64 (n:Int),.int .i64 (P:Int),.int .i64 (Z:Int)] 31))::[])):=hZ.p;obtain⟨s0,s1,s2⟩:=dj.o w5 _ _ hZ3;have hZ4:=aa IW;have hGz:=mN;clear hZ ag8 IW hZ3 mN yU;generalize((b,FR yb cb mb (SM.fresh n P Z))::((mb,.map #[] 0)::Hy))=H0 at*;go_wp2_with fail
  go_loopw [37] (fun i wr=>anr b cb g cap mv n res (SM.fresh n P Z) c w Fr i wr) (fun i _=>n-(intOf i).toNat)
  case atStart=>exact⟨0,_,c,_,Hc,by omega,rfl,qI.o.symm,CM.iV.refl c,SM.iV.refl _,kV.o,lS.o,hZ4.o,hGz⟩
  case round=>
   clear s0 s1 s2 hGz;obtain⟨k,s',c',H',cO,hk,rfl,cH,jK,hsS,bD,cz,eh,gf⟩:=hrel;have Jq:=aa bD;have Gf:=aa cz;have Qa:=aa jK;have iJ:=aa hsS;by_cases aG:k<n
   ·have zN:(k:Int)<(n:Int):=by omega
    rw[show n-k=(n-(k+1))+1 by omega,dM]at cH;have cP:=aa cH;have Dv:=aa (VG (k:Int) bD cz eh (by have:=jK.2.2.2.2.2;have:=ab4.o;omega) (by rw[hsS.2.1];exact hsS.2.2.2.2 (fun x hx=>by
      have:=ow (show x∈List.replicate n ⟨1,0,List.replicate P (false,false)⟩from hx);subst this;exact⟨by simp[SM.fresh],bG _⟩)) (by omega) (by rw[hsS.1];exact zN))
    have HLS:=aa (ER s' c' (k:Int) (wj cz.o7 _).2);clear cH jK hsS bD cz eh;generalize fJ s' c' (k:Int)=lk at*;obtain⟨s3,c3,code⟩:=lk;dsimp only at*;go_upto_region 13 with fail
    refine Dv.o.mono ?_;rintro e w6⟨ve,He,H3,rS,rfl,he,nE,uC,aD,bj⟩;have xw:=aa nE;have TW:=aa uC;have Ja:=aa he;have Iy:=aa aD;have cf:=gf.trans bj;clear nE uC aD bj gf Dv;by_cases hc:code=0
    ·subst hc;obtain⟨rfl,rfl⟩:=de he;clear he;rw[if_neg (by simp)]at cP;go_wp2_with fail
     go_roundw
     case rel=>
      exact⟨k+1,s3,c3,H3,rS,by omega,by go_num,cP.o,(Qa.o.trans HLS.o.2).mono (by omega),iJ.o.trans HLS.o.1,xw.o,TW.o,Iy.o.p,cf⟩
     case measure=>simp[intOf];omega
    ·obtain⟨be,se,rfl,rfl⟩:=cI he hc;clear he;rw[if_pos hc]at cP;go_wp2_with fail
     go_ret2
     rw[<-cP.o];exact .inr ⟨hc,_,_,rS,rfl,Ja.o,TW.o,Iy.o.p,cf⟩
   ·obtain rfl:k=n:=by omega
    rw[qg,dM]at cH;have cP:=aa cH;have Xn:=aa eh;have zN:¬(k:Int)<(k:Int):=by omega
    clear cH jK hsS bD cz eh;go_wp2_with fail
    go_ret2
    rw[<-cP.o];exact .inl ⟨rfl,b,H',cO,rfl,Jq.o,Gf.o,Xn.o,gf⟩
end
section
variable{b cb g cap:Nat}{mv:Value}{c:CM}{s:SM}{H Hc Fr:HL}{w:World}
def SM.Ba(s s':SM):Prop:=s'.B=s.B∧s'.P=s.P∧s'.Z=s.Z∧(oV s.P s.y->oV s.P s'.y)
theorem SM.Ba.refl(s:SM):s.Ba s:=⟨rfl,rfl,rfl,id⟩
theorem SM.Ba.trans{s1 s2 s3:SM}(h:s1.Ba s2)(h2:s2.Ba s3):s1.Ba s3:=by
 obtain⟨a1,a2,a3,a5⟩:=h;obtain⟨b1,b2,b3,b5⟩:=h2;rw[a2]at b5;exact⟨b1.trans a1,b2.trans a2,b3.trans a3,fun h=>b5 (a5 h)⟩
theorem Q0(s:SM):s.Ba (gw s):=by
 unfold gw;split
 ·exact SM.Ba.refl s
 ·exact⟨rfl,rfl,rfl,fun h=>h.turn _ _ _⟩
theorem ES(s:SM)(k:Int):s.Ba (nM s k):=
 ((Q0 s).trans (⟨rfl,rfl,rfl,fun h=>h.free k⟩:(gw s).Ba (sD (gw s) k))).trans ⟨rfl,rfl,rfl,fun h=>h.Jz k⟩
theorem yB(s:SM)(c:CM)(k:Int):s.Ba (bS s c k).1:=by
 unfold bS;split
 ·unfold nL;split
  ·exact SM.Ba.refl s
  ·exact⟨rfl,rfl,rfl,fun h=>h.Gy _⟩
 ·exact SM.Ba.refl s
theorem Q1(L:List Int):∀(s:SM) (c:CM),s.Ba (k7 L s c).1∧c.iV (k7 L s c).2.1 (2*L.length)∧((∀x∈L,0<=x)->(k7 L s c).2.2=0->0<=(k7 L s c).1.op):=by
 induction L with
 |nil=>intro s c;exact⟨SM.Ba.refl s,CM.iV.refl c,fun _ h=>absurd h (by simp[k7])⟩
 |cons k ks ih=>
  intro s c;have he:=CG c k;have hg:=qv s (bT c k).1 k;have Xp:=yB s (bT c k).1 k;obtain⟨i1,i2,i3⟩:=ih (bS s (bT c k).1 k).1 (bS s (bT c k).1 k).2.1;have IE:(((k::ks).length:Nat):Int)=(ks.length:Int)+1:=by simp
  rw[k7];split
  ·split
   ·split
    ·rename_i ei;exact⟨Xp,(he.trans hg.1).mono (by omega),fun _ h=>absurd h ei⟩
    ·exact⟨Xp.trans i1,((he.trans hg.1).trans i2).mono (by omega),fun hL h=>i3 (fun x hx=>hL x (fA _ hx)) h⟩
   ·split
    ·rename_i ei;exact⟨SM.Ba.refl s,he.mono (by omega),fun _ h=>absurd h ei⟩
    ·exact⟨ES s k,he.mono (by omega),fun hL _=>hL k (dC)⟩
  ·exact⟨ES s k,(CM.iV.refl c).mono (by omega),fun hL _=>hL k (dC)⟩
theorem Q2(s:SM)(c:CM):s.Ba (je s c).1∧c.iV (je s c).2.1 (2*s.B)∧((je s c).2.2=0->0<=(je s c).1.op):=by
 obtain⟨h1,h2,h3⟩:=Q1 (dR s c) s c;have:=CI s c;exact⟨h1,h2.mono (by omega),h3 (fun x hx=>by obtain⟨i,rfl,_⟩:=CH.1 hx;omega)⟩
def CM.marks(c:CM):List Bool:=c.blocks.map (·.mark)
def CM.tV(c:CM):Nat:=c.marks.count false
theorem mD{k:Nat}{x:CB}(hx:c.blocks[k]?=some x){x':CB}(h:x'.mark=x.mark):(c.db k x').marks=c.marks:=by
 unfold CM.db CM.marks;apply List.ext_getElem?;intro i;simp only[dW,List.getElem?_set];split
 ·rename_i he;subst he;obtain⟨hk,th⟩:=List.getElem?_eq_some_iff.1 hx;rw[if_pos hk,hx];simp[h]
 ·rfl
theorem yC(c:CM)(good:Bool):(c.jE good).1.marks=c.marks∧(c.jE good).1.blocks=c.blocks:=by
 unfold CM.jE;split
 ·exact⟨rfl,rfl⟩
 ·split<;>exact⟨rfl,rfl⟩
theorem ET(c:CM)(m:Mi)(good:Bool):(c.ord m good).1.marks=c.marks:=by
 unfold CM.ord;split
 ·rfl
 ·split<;>rfl
theorem Dc{m:Mi}{k:Nat}{x:CB}(hx:c.blocks[k]?=some x):(kC c m k x).1.marks=c.marks:=by
 unfold kC;split
 ·split
  ·rfl
  ·exact(show _=(c.db k _).marks from rfl).trans (mD hx rfl)
 ·split
  ·exact mD hx rfl
  ·exact mD hx rfl
theorem KJ{k:Nat}{x:CB}(hx:c.blocks[k]?=some x):(c.erase k x).1.marks=c.marks:=by
 obtain⟨h1,h2⟩:=yC c true;unfold CM.erase;dsimp only;split
 ·exact h1
 ·split
  ·exact(ET _ _ _).trans h1
  ·exact(Dc (by rw[h2];exact hx)).trans h1
theorem Ea{m:Mi}{k i:Nat}{x:CB}{raw:List UInt8}(hx:c.blocks[k]?=some x):(px c m k x i raw).1.marks=c.marks:=by
 unfold px;split
 ·exact(show _=(c.db k _).marks from rfl).trans (mD hx rfl)
 ·split
  ·exact mD hx rfl
  ·exact(show _=(c.db k _).marks from rfl).trans (mD hx rfl)
theorem J1(c:CM)(good:Bool):(c.jE good).2.2≠5:=by
 unfold CM.jE;split
 ·simp
 ·split<;>simp
theorem M0{k:Nat}{x:CB}{p:Int}{raw:List UInt8}(hx:c.blocks[k]?=some x):(c.prog k x p raw).1.marks=c.marks∧((c.prog k x p raw).2=5->x.mark=false):=by
 have h1:=yC c (decide (0<=p∧p<=(c.P:Int)-1));have hb:=J1 c (decide (0<=p∧p<=(c.P:Int)-1));unfold CM.prog;dsimp only;split
 ·exact⟨h1.1,fun h=>absurd h hb⟩
 ·split
  ·refine⟨(ET _ _ _).trans h1.1,fun h=>?_⟩;unfold CM.ord at h;rw[if_neg (by simp)]at h;split at h<;>simp at h
  ·rename_i hm;exact⟨(Ea (by rw[h1.2];exact hx)).trans h1.1,fun _=>by simpa using fun h=>hm (.inl h)⟩
theorem KK{k:Nat}{x:CB}(hx:c.blocks[k]?=some x):(c.dX k x).1.marks=if(c.dX k x).2=0 then c.marks.set k true else c.marks:=by
 obtain⟨h1,h2⟩:=yC c true;unfold CM.dX;dsimp only;split
 ·rename_i ei;first|exact h1|(rw[if_neg ei];exact h1)
 ·split
  ·first|exact h1|(rw[if_neg (by simp)];exact h1)
  ·show(CM.db _ _ _).marks=_;first|(rw[if_pos rfl];unfold CM.db CM.marks at*;rw[List.map_set,h1])|(unfold CM.db CM.marks at*;rw[List.map_set,h1])
theorem G0{l:List Bool}{k:Nat}(h:l[k]?=some false):(l.set k true).count false+1=l.count false:=by
 obtain⟨hk,h2⟩:=List.getElem?_eq_some_iff.1 h;rw[List.count_set hk,h2];have:0<l.count false:=List.count_pos_iff.2 (gD h);simp;try omega
theorem G1(l:List Bool)(k:Nat):(l.set k true).count false<=l.count false:=by
 by_cases hk:k<l.length
 ·rw[List.count_set hk];simp
 ·rw[List.set_eq_of_length_le (by omega)];exact aN _
theorem M1(c:CM)(k:Int):(bT c k).1.tV=c.tV:=by
 unfold bT;split
 ·rename_i x hx;obtain⟨i,rfl,_,th,_⟩:=CM.lN hx;show(c.erase i x).1.tV=_;unfold CM.tV;rw[KJ th]
 ·rfl
theorem Q3{s:SM}{c:CM}{i:Nat}{x:CB}(hx:c.blocks[i]?=some x):(nL s c i x).2.1.tV<=c.tV∧((nL s c i x).2.2=0->x.mark=false->(nL s c i x).2.1.tV+1=c.tV):=by
 have hm:=KK (c:=c) hx;unfold nL;split
 ·rename_i ei;rw[if_neg ei]at hm;refine⟨?_,fun h=>absurd h ei⟩;show(c.dX i x).1.marks.count false<=c.marks.count false;rw[hm];exact aN _
 ·rename_i he;rw[if_pos (by simpa using he)]at hm;refine⟨?_,fun _ Dw=>?_⟩
  ·show(c.dX i x).1.marks.count false<=c.marks.count false;rw[hm];exact G1 _ _
  ·show(c.dX i x).1.marks.count false+1=c.marks.count false;rw[hm];exact G0 (by unfold CM.marks;rw[dW,hx];simp[Dw])
theorem tz(s:SM)(c:CM)(k:Int):(bS s c k).2.1.tV<=c.tV∧((bS s c k).2.2=0->∀x,c.pY k=some x->x.mark=false->(bS s c k).2.1.tV+1=c.tV):=by
 cases hx:c.pY k with
 |none=>
  rw[show bS s c k=(s,c,2) by unfold bS;rw[hx]];exact⟨aN _,fun h=>absurd (show(2:Int)=0 from h) (by decide)⟩
 |some x=>
  obtain⟨i,rfl,_,th,_⟩:=CM.lN hx;rw[show bS s c (i:Int)=nL s c i x by unfold bS;rw[hx];rfl];obtain⟨h1,h2⟩:=Q3 (s:=s) th;exact⟨h1,fun h y hy hm=>by injection hy with hy;subst hy;exact h2 h hm⟩
theorem Q4(L:List Int):∀(s:SM) (c:CM),(k7 L s c).2.1.tV<=c.tV:=by
 induction L with
 |nil=>intro s c;exact aN _
 |cons k ks ih=>
  intro s c;have he:=M1 c k;have hg:=(tz s (bT c k).1 k).1;have hi:=ih (bS s (bT c k).1 k).1 (bS s (bT c k).1 k).2.1;rw[k7];split
  ·split
   ·split
    ·omega
    ·omega
   ·split
    ·exact Nat.le_of_eq he
    ·exact Nat.le_of_eq he
  ·exact aN _
def fQ(c:CM)(k p:Int)(raw:List UInt8):CM×Int:=match c.pY k with|some x=>c.prog k.toNat x p raw|none=>(c,2)
theorem yD(c:CM)(k p:Int)(raw:List UInt8):c.iV (fQ c k p raw).1 1:=by
 unfold fQ;split
 ·exact CM.JY _ _ _ _ _
 ·exact(CM.iV.refl c).mono (by omega)
theorem yE(c:CM)(k p:Int)(raw:List UInt8):(fQ c k p raw).1.tV=c.tV∧((fQ c k p raw).2=5->∃x,(fQ c k p raw).1.pY k=some x∧x.mark=false):=by
 unfold fQ;split
 ·rename_i x hx;obtain⟨i,rfl,hi,th,_⟩:=CM.lN hx;obtain⟨h1,h2⟩:=M0 (c:=c) (p:=p) (raw:=raw) th;refine⟨by show(c.prog i x p raw).1.tV=_;unfold CM.tV;rw[h1],fun h5=>?_⟩;have hm:=h2 h5;have hl:(c.prog i x p raw).1.blocks.length=c.blocks.length:=(CM.JY c i x p raw).2.2.1;have tJ:i<(c.prog i x p raw).1.blocks.length:=by omega
  refine⟨(c.prog i x p raw).1.blocks[i],?_,?_⟩
  ·show(c.prog i x p raw).1.pY i=_;unfold CM.pY;rw[if_pos (by omega)];simp[tJ]
  ·have h3:(c.prog i x p raw).1.marks[i]?=some x.mark:=by
    rw[h1];unfold CM.marks;rw[dW,th];rfl
   unfold CM.marks at h3;rw[dW,bF tJ]at h3;simpa[hm]using h3
 ·exact⟨rfl,fun h=>absurd (show(2:Int)=5 from h) (by decide)⟩
theorem EU(k p:Int){rv:Value}{raw:List UInt8}(cz:ai cb g cap mv c Hc)(hH:Holds w (Hc++Fr))(fI:c.ops<1000000000000)(hk:c.there k=true)(DT:bN Fr rv raw)(Zk:raw.length=c.Z+28):
  Calls Tryz.prog 69 #[.pointer (some ⟨cb,0,none⟩),.int .i64 k,.int .i64 p,rv] w (BV cb g cap mv (fQ c k p raw) w Fr):=by
 obtain⟨i,x,rfl,hx,hb⟩:=MD hk;rw[show fQ c (i:Int) p raw=c.prog i x p raw by unfold fQ;rw[hb];rfl];exact D8 i x p rv raw cz hH fI hx DT Zk
def eE(s:SM)(c:CM):SM×CM×Int:=if dK s c=0 then je s c else(s,c,0)
def DW(r:SM->CM->SM×CM×Int×Int)(s:SM)(c:CM)(p:Int)(h:Hd)(q:CM×Int):SM×CM×Int×Int:=
 if q.2=0 then(oC (bL s s.op) s.op p h,q.1,s.op*s.P+p,0)
 else if q.2=5 then
  if(bS (bL s s.op) q.1 s.op).2.2≠0 then((bS (bL s s.op) q.1 s.op).1,(bS (bL s s.op) q.1 s.op).2.1,0,(bS (bL s s.op) q.1 s.op).2.2)
  else r (bS (bL s s.op) q.1 s.op).1 (bS (bL s s.op) q.1 s.op).2.1
 else(bL s s.op,q.1,0,q.2)
def xQ(h:Hd)(raw:List UInt8):Nat->SM->CM->SM×CM×Int×Int
 |0,s,c=>(s,c,0,99)
 |n+1,s,c=>
  if(eE s c).2.2≠0 then((eE s c).1,(eE s c).2.1,0,(eE s c).2.2)
  else DW (xQ h raw n) (eE s c).1 (eE s c).2.1 (bX (eE s c).1.y (eE s c).1.op).2.1 h (fQ (eE s c).2.1 (eE s c).1.op (bX (eE s c).1.y (eE s c).1.op).2.1 raw)
def XT(s:SM)(c:CM)(h:Hd)(d:List UInt8):SM×CM×Int×Int:=xQ h (gC d h) (c.tV+1) s c
theorem yF(s:SM)(c:CM):s.Ba (eE s c).1∧c.iV (eE s c).2.1 (2*s.B)∧(eE s c).2.1.tV<=c.tV∧((eE s c).2.2=0->-1<=s.op->0<=(eE s c).1.op):=by
 unfold eE;split
 ·obtain⟨h1,h2,h3⟩:=Q2 s c;exact⟨h1,h2,Q4 _ _ _,fun h _=>h3 h⟩
 ·rename_i ei;refine⟨SM.Ba.refl s,(CM.iV.refl c).mono (by omega),aN _,fun _ h=>?_⟩;show 0<=s.op;unfold dK at ei;by_cases ho:s.op=-1
  ·rw[if_pos ho]at ei;exact absurd rfl ei
  ·omega
theorem Vh(c:CM):c.tV<=c.blocks.length:=by
 unfold CM.tV CM.marks;have:=List.count_le_length (a:=false) (l:=c.blocks.map (·.mark));simpa using this
theorem YP{c:CM}{good:Bool}(h:(c.jE good).2.2=0):(c.jE good).1.ops=c.ops+1:=by rw[(GF h).2.2]
theorem EV{c:CM}{k p:Int}{raw:List UInt8}(h:(fQ c k p raw).2=5):c.ops<(fQ c k p raw).1.ops:=by
 unfold fQ at h⊢;split at h
 ·rename_i x hx;try rw[hx]
  show c.ops<(c.prog k.toNat x p raw).1.ops;unfold CM.prog at h⊢;dsimp only at h⊢;split at h
  ·exact absurd h (J1 _ _)
  ·rename_i h0;have h1:=YP (c:=c) (good:=decide (0<=p∧p<=(c.P:Int)-1)) (by simpa using h0);rw[if_neg h0];split at h
   ·unfold CM.ord at h;rw[if_neg (by simp)]at h;split at h<;>simp at h
   ·rename_i hm;rw[if_neg hm];have:=(zp (c.jE (decide (0<=p∧p<=(c.P:Int)-1))).1 (c.jE (decide (0<=p∧p<=(c.P:Int)-1))).2.1 k.toNat x p.toNat raw).2.2.2.2.1;omega
 ·exact absurd (show(2:Int)=5 from h) (by decide)
def bn(s:SM)(c:CM)(h:Hd)(d:List UInt8):SM×CM×Int×Int:=
 if(sizedB d.length&&h.may)=false∨d.length≠s.Z then(s,c,0,2)else if c.on=false then(s,c,0,4)else XT s c h d
end
end Go.Proofs.YtalnifciidblkaaGreatDoor
