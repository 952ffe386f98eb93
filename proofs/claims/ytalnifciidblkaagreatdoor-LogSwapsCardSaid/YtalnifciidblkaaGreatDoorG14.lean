/-
  Lemmas.
-/
import Derived.Test.YtalnifciidblkaaGreatDoorG02
import Derived.Test.YtalnifciidblkaaGreatDoorG12
import Derived.Laws.ResultCell
import Derived.BigQuiet
import Derived.Test.YtalnifciidblkaaGreatDoorG34
import Derived.Test.YtalnifciidblkaaGreatDoorG00
namespace Go.Proofs.YtalnifciidblkaaGreatDoor
open _root_.Go.Proofs.Tryz
open Go.RowKit
set_option linter.unusedSimpArgs false
set_option linter.unusedVariables false
set_option maxRecDepth 20000
set_option maxHeartbeats 1000000
theorem YW:∀x:Fin 256,bits BinOp.andNot IntKind.u64 (x.val:Int) 32768=(x.val:Int):=by decide+kernel
theorem YX:∀x:Fin 256,bits BinOp.andNot IntKind.u64 ((x.val:Int)+32768) 32768=(x.val:Int):=by decide+kernel
theorem YY:∀x:Fin 256,bits BinOp.and IntKind.u64 (x.val:Int) 32768=0:=by decide+kernel
theorem YZ:∀x:Fin 256,bits BinOp.and IntKind.u64 ((x.val:Int)+32768) 32768=32768:=by decide+kernel
theorem V8(n:Int)(m:Nat)(tl:List UInt8):(fG n m++tl).take m=fG n m:=by
 rw[BK (by rw[cG];omega),gU (by rw[cG];omega)]
theorem V9(n:Int)(m:Nat)(tl:List UInt8):(fG n m++tl).drop m=tl:=by
 rw[List.drop_append_of_le_length (by rw[cG];omega),List.drop_of_length_le (by rw[cG];omega),jS]
def GC(n:Int)(tl:List UInt8)(w:World)(Fr:HL)(e:Ending)(w':World):Prop:=∃v' H',e=.returned (.tuple #[.int .u64 n,v',.bool true])∧ar v' tl H'∧Holds w' (H'++Fr)∧af w w'
theorem Co(v:Value)(n:Int)(m:Nat)(tl:List UInt8)(w:World)(Fr:HL)(hb:aJ w v (fG n m++tl))(hH:Holds w Fr)(hm:m<=8)(h0:0<=n)(h1:n<256^m)(kJ:tl.length<=1000):
  Calls Tryz.prog 159 #[v,.int .i64 m] w (GC n tl w Fr):=by
 refine(tu v _ m w Fr hb hH hm (by rw[aY,cG];omega) (by rw[aY,cG];omega)).mono ?_;rintro e w1⟨v1,H1,rfl,jj,ax,aK⟩;rw[V8,wJ h0 h1];rw[V9]at jj;exact⟨v1,H1,rfl,jj,ax,aK⟩
theorem UY(v:Value)(n:Int)(tl:List UInt8)(w:World)(Fr:HL)(hb:aJ w v (fG n 2++tl))(hH:Holds w Fr)(h0:0<=n)(h1:n<65536)(kJ:tl.length<=1000):Calls Tryz.prog 159 #[v,.int .i64 2] w (GC n tl w Fr):=Co v n 2 tl w Fr hb hH (by omega) h0 (by simpa using h1) kJ
theorem ajo(v:Value)(n:Int)(tl:List UInt8)(w:World)(Fr:HL)(hb:aJ w v (fG n 5++tl))(hH:Holds w Fr)(h0:0<=n)(h1:n<=1099511627775)(kJ:tl.length<=1000):Calls Tryz.prog 159 #[v,.int .i64 5] w (GC n tl w Fr):=Co v n 5 tl w Fr hb hH (by omega) h0 (by rw[show(256:Int)^5=1099511627776 by decide];omega) kJ
theorem ajp(v:Value)(n:Int)(tl:List UInt8)(w:World)(Fr:HL)(hb:aJ w v (fG n 8++tl))(hH:Holds w Fr)(h0:0<=n)(h1:n<18446744073709551616)(kJ:tl.length<=1000):Calls Tryz.prog 159 #[v,.int .i64 8] w (GC n tl w Fr):=Co v n 8 tl w Fr hb hH (by omega) h0 (by rw[show(256:Int)^8=18446744073709551616 by decide];exact h1) kJ
theorem aJ.two{w:World}{A:Option Addr}{n c:Nat}{x y:UInt8}{tl:List UInt8}(h:aJ w (.slice A n c) (x::y::tl)):∃b o,A=some ⟨b,o,none⟩∧w.cell? ⟨b,o,none⟩=some (bh x)∧w.cell? ⟨b,o+1,none⟩=some (bh y):=by
 obtain⟨_,A',c',hv,_,_,cm⟩:=h;injection hv with e1 e2 e3;subst e1;obtain⟨b,o,rfl,bm⟩:=cm (by simp);have h0:=bm 0 (bh x) rfl;have h1:=bm 1 (bh y) rfl;rw[fD]at h0;exact⟨b,o,rfl,h0,h1⟩
theorem aJ.Bl{w:World}{A:Option Addr}{n c:Nat}{bs:List UInt8}(h:aJ w (.slice A n c) bs):bs.length<=c∧c<=maxLen:=by
 obtain⟨_,A',c',hv,h1,h2,_⟩:=h;injection hv with e1 e2 e3;subst e3;exact⟨h1,h2⟩
def Po(number parts:Nat)(name:List UInt8)(es:List az)(w:World)(Fr:HL)(e:Ending)(w':World):Prop:=
 ∃ZI H',e=.returned (.tuple #[.agg #[.int .i64 (number:Int),.int .i64 (parts:Int),.string (cq name),ZI],.bool true])∧aP ZI es H'∧Holds w' (H'++Fr)∧af w w'
def ahv(pb number parts:Nat)(name:List UInt8)(es:List az)(z:Nat)(w:World)(Fr:HL)(rv iv:Value)(wr:World):Prop:=
 ∃(k:Nat) (H Ho:HL) (ov:Value),k<=es.length∧iv=.int .i64 k∧bN H rv (kA (es.drop k)++List.replicate z 0)∧aP ov (es.take k) Ho∧Holds wr ((pb,dE number parts name ov)::(H++(Ho++Fr)))∧af w wr
theorem NF(Z number parts:Nat)(name:List UInt8)(es:List az)(v:Value)(w:World)(Fr:HL)(hv:bN Fr v (xT Z number parts name es))(hH:Holds w Fr)(hl:yZ name)(hr:dd es)(h1:number<parts)(h2:parts<=65535)
  (h3:number+1<parts->(es.length:Int)=iN Z)(h4:number+1=parts->0<es.length∨number=0)(he:(es.length:Int)<=iN Z)(qH:128<=Z)(tW:Z<=256):
  Calls Tryz.prog 182 #[v] w (Po number parts name es w Fr):=by
 have HV:=aa hv;have ahw:=aa hl;have HR:=aa hr;have qP:name.length<=36:=by have:=hl.2.1;omega
 have oR:=AE (Z:=(Z:Int)) (by omega) (by omega);have ahx:42+es.length*15<=Z:=by
  have h5:iN Z*15<=Z-42:=Int.ediv_mul_le _ (by decide);omega
 have hLL:=Ka (number:=number) (parts:=parts) (name:=name) (es:=es) (size:=Z) qP ahx;obtain⟨z,hz⟩:∃z,z=Z-(42+es.length*15):=⟨_,rfl⟩;obtain⟨T3,hT3⟩:∃T,T=name++(List.replicate (36-name.length) 0++(kA es++List.replicate z 0)):=⟨_,rfl⟩;obtain⟨L3,PY⟩:∃T,T=UInt8.ofNat es.length::UInt8.ofNat name.length::T3:=⟨_,rfl⟩;obtain⟨L2,WH⟩:∃T,T=fG parts 2++L3:=⟨_,rfl⟩;have HSP:=aa (show xT Z number parts name es=fG number 2++L2 by
  rw[WH,PY,hT3,hz];unfold xT Qf;simp only[cE,tZ,jS])
 have ahy:=aa (show L2.length<=300 by
  have h5:=congrArg List.length HSP.o;rw[hLL,aY]at h5;omega)
 have anV:=aa (show L3.length<=300 by
  have h5:=congrArg List.length WH;rw[aY]at h5;have:=ahy.o;omega)
 obtain⟨A,c,rfl⟩:=(hv w hH).val;rw[hLL]at HV⊢;have ax:=hH.alloc (.cells #[.int .i64 0,.int .i64 0,.string ⟨#[]⟩,.slice none 0 0] 246);have aK:=(af.refl w).alloc (.cells #[.int .i64 0,.int .i64 0,.string ⟨#[]⟩,.slice none 0 0] 246);have HE:=aa (fun wx=>wH (Z:Int) wx (by omega) (by omega));have ei:(iN (Z:Int)==0)=false:=beq_eq_false_iff_ne.2 (by omega);have LB:=aa WH;have Ja:=aa PY;have HT:=aa hT3;clear WH PY hT3;clear hv hl hr hH;go_enter func182,ntmps182;go_upto_region 1 with fail
 generalize w.alloc (.cells #[.int .i64 0,.int .i64 0,.string ⟨#[]⟩,.slice none 0 0] 246)=w1 at*;generalize w.heap.size=rb at*;have HU1:=aa (UY (.slice A Z c) (number:Int) L2 w1 _ (by have h:=HV.o w1 ax.tail;rw[HSP.o]at h;exact h) ax (by omega) (by omega) (by have:=ahy.o;omega));go_wp2_with fail
 refine(HE.o w1).mono ?_;rintro e w2⟨rfl,rfl⟩;go_wp2_with fail
 refine HU1.o.mono ?_;rintro e w2⟨v2,H2,rfl,fZ,aB,aX⟩;have cY:=aK.trans aX;have HU2:=aa (UY v2 (parts:Int) L3 w2 _ (by rw[<-LB.o];exact fZ.at_ aB) aB (by omega) (by omega) (by have:=anV.o;omega));obtain⟨A2,c2,rfl⟩:=fZ.val;clear HU1 fZ aB aX aK;go_wp2_with fail
 refine HU2.o.mono ?_;rintro e w3⟨v3,H3,rfl,jF,aD,bj⟩;have cf:=cY.trans bj;clear HU2 cY bj;have vm:=aa jF;have Iy:=aa aD;have Jn:=jF.at_ aD;obtain⟨A3,c3,rfl⟩:=jF.val;obtain⟨II,vc⟩:=Jn.Bl;rw[Ja.o]at Jn;obtain⟨b3,o3,rfl,y0,y1⟩:=Jn.two;rw[<-AJ (n:=es.length) (by omega)]at y0;rw[<-AJ (n:=name.length) (by omega)]at y1;clear jF aD Jn;have hw3:IntKind.i64.wrap (es.length:Int)=es.length:=by rw[IntKind.wrap_i64];omega
 have WL:IntKind.i64.wrap (name.length:Int)=name.length:=by rw[IntKind.wrap_i64];omega
 go_upto_region 6 with fail
 have DF:(0:Int)<L3.length:=by have:=congrArg List.length Ja.o;simp at this;omega
 have iY:(1:Int)<L3.length:=by have:=congrArg List.length Ja.o;simp at this;omega
 go_quiet (fail)
 have Uc:¬(36:Int)<name.length:=by omega
 have Qh:¬iN (Z:Int)<es.length:=by omega
 have aU:=Iy.o.drewN nq;have bI:=cf.drewN nq;generalize w3.drewN nq=w4 at*;have anW:name.length+36-name.length<=T3.length∧name.length<=T3.length:=by rw[HT.o,aY,aY,gV];omega
 have ahz:L3.length=T3.length+2:=by rw[Ja.o];rfl
 have IG:(L3.drop 2).take name.length=name:=by rw[Ja.o];show T3.take _=_;rw[HT.o,BK (aN _),gU (aN _)]
 have SJ:=((vm.o.at_ aU).drop (k:=2) (by omega)).pre (m:=name.length) (by rw[dA];omega);rw[IG]at SJ;simp only[kt,cV]at SJ;obtain⟨m2,si⟩:∃m:Nat,m=2+name.length:=⟨_,rfl⟩;have hbm:aJ w4 (.slice (some ⟨b3,o3+2,none⟩) (m2-2) (c3-2)) name:=by rw[show m2-2=name.length by omega];exact SJ
 have k1:=uQ hbm;have og:m2<=c3:=by omega
 have ajq:(m2:Int)<=c3:=by omega
 have ajr:2<=m2:=by omega
 have ajs:(2:Int)<=m2:=by omega
 have anX:T3.length=Z-6:=by rw[HT.o,aY,aY,aY,gV,gV,tB];omega
 have auQ:¬c3=2:=by omega
 have arB:¬c3=38:=by omega
 have h38:38<=L3.length:=by omega
 have auR:(38:Int)<=(L3.length:Int):=by omega
 have hw5:IntKind.i64.wrap (2+(name.length:Int))=(m2:Int):=by rw[IntKind.wrap_i64];omega
 have hw6:wrap64 (2+(name.length:Int))=(m2:Int):=by unfold wrap64;omega
 have hw7:IntKind.i64.wrap (number:Int)=number:=by rw[IntKind.wrap_i64];omega
 have hw8:IntKind.i64.wrap (parts:Int)=parts:=by rw[IntKind.wrap_i64];omega
 have auS:=aa ahz;clear y0 y1 SJ IG hbm si anW Uc Qh hw3 WL DF iY ei ahz anX;go_upto_region 10 with fail
 rw[show w4.alloc (Obj.cells #[.int .i64 (number:Int),.int .i64 (parts:Int),.string (cq name),.slice none 0 0] 246)=w4.alloc (dE number parts name (.slice none 0 0))from rfl];have bg:=aU.alloc (dE number parts name (.slice none 0 0));have eY:=bI.alloc (dE number parts name (.slice none 0 0));have hR0:bN H3 (.slice (some ⟨b3,o3+38,none⟩) (L3.length-38) (c3-38)) (kA es++List.replicate z 0):=fun wx hx=>by
  have h:=(vm.o.at_ (Fr:=[]) (by simpa using hx)).drop (k:=38) h38;have hd:L3.drop 38=kA es++List.replicate z 0:=by
   rw[Ja.o];show T3.drop 36=_;rw[HT.o,<-cE,List.drop_append_of_le_length (by rw[aY,gV];omega),List.drop_of_length_le (by rw[aY,gV];omega),jS]
  rw[hd]at h;simp only[kt,cV]at h;exact h
 generalize w4.alloc (dE number parts name (.slice none 0 0))=w5 at*;generalize w4.heap.size=pb at*;have bD:ahv pb number parts name es z w ((rb,.cells #[.int .i64 0,.int .i64 0,.string ⟨#[]⟩,.slice none 0 0] 246)::Fr) (.slice (some ⟨b3,o3+38,none⟩) (L3.length-38) (c3-38)) (.int .i64 0) w5:=
  ⟨0,H3,[],.slice none 0 0,by omega,rfl,hR0,aP.nil,(show Holds w5 (((pb,dE number parts name (.slice none 0 0))::(H3++([]++((rb,.cells #[.int .i64 0,.int .i64 0,.string ⟨#[]⟩,.slice none 0 0] 246)::Fr)))))from bg.p),eY⟩
 clear k1 hw5 hw6 hw7 hw8 og ajq ajr ajs aU bI bg eY hR0 vm Iy cf ax;go_wp2_with fail
 go_loopw [6,63] (fun rv iv wr=>ahv pb number parts name es z w ((rb,.cells #[.int .i64 0,.int .i64 0,.string ⟨#[]⟩,.slice none 0 0] 246)::Fr) rv iv wr) (fun _ iv _=>es.length-(intOf iv).toNat)
 case atStart=>exact bD
 case round=>
  clear bD;obtain⟨k,H,Ho,ov,hk,rfl,hb,ho,hH,hg⟩:=hrel;by_cases aG:k<es.length
  ·have dQ:(k:Int)<es.length:=by omega
   have xE:=aa (HR.o.1 _ (cX aG));have jP:=aa (show es.take (k+1)=es.take k++[es[k]]from gB aG);have tU:=tB (es.drop (k+1));rw[dA]at tU;obtain⟨R3,hR3⟩:∃R,R=kA (es.drop (k+1))++List.replicate z 0:=⟨_,rfl⟩;have acx:=aa (show R3.length<=300 by rw[hR3,aY,tU,gV];omega);have FN:=aa hR3;rw[nF aG]at hb;generalize es[k]=n at*;obtain⟨ea,ep,ed,eq⟩:=n;obtain⟨⟨AY,As⟩,⟨rH,sk⟩,kU,nE⟩:=xE.o;dsimp only at AY As rH sk kU nE;obtain⟨pv,OA⟩:∃pv,pv=ep+(if ed=true then 32768 else 0):=⟨_,rfl⟩;have DK:0<=pv∧pv<65536:=by rw[OA];cases ed<;>simp<;>omega
   obtain⟨R2,hR2⟩:∃R,R=fG pv 2++R3:=⟨_,rfl⟩;obtain⟨R1,hR1⟩:∃R,R=fG eq 5++R2:=⟨_,rfl⟩;have acy:R2.length=R3.length+2:=by rw[hR2,aY,cG];omega
   have anY:R1.length=R3.length+7:=by rw[hR1,aY,cG,acy];omega
   have Zi:kA (⟨ea,ep,ed,eq⟩::es.drop (k+1))++List.replicate z 0=fG ea 8++R1:=by
    rw[hR1,hR2,hR3,OA];unfold kA;rw[ku,kr];unfold Qe;simp only[cE]
   rw[Zi]at hb;obtain⟨R0,hR0⟩:∃R,R=fG ea 8++R1:=⟨_,rfl⟩;rw[<-hR0]at hb;have hbw:=hb wr hH.tail.left;obtain⟨A4,c4,rfl⟩:=hbw.val;have HU1:=aa (ajp (.slice A4 R0.length c4) ea R1 wr _ (by rw[<-hR0];exact hbw) hH AY As (by have:=acx.o;omega));have HE1:=aa hR1;have anZ:=aa hR2;have SP:=aa OA;have an0:=aa acy;clear hR0 hR1 hR2 hR3 anY acy Zi hb hbw OA tU;go_wp2_with fail
   refine HU1.o.mono ?_;rintro e w6⟨v6,H6,rfl,LJ,bC,eJ⟩;have jn:=hg.trans eJ;have HU2:=aa (ajo v6 eq R2 w6 _ (by rw[<-HE1.o];exact LJ.at_ bC) bC (by omega) nE (by have:=acx.o;have:=an0.o;omega));obtain⟨A6,c6,rfl⟩:=LJ.val;clear HU1 LJ bC eJ hg;go_wp2_with fail
   refine HU2.o.mono ?_;rintro e w7⟨v7,H7,rfl,PL,cA,jk⟩;have fx:=jn.trans jk;have HU3:=aa (UY v7 pv R3 w7 _ (by rw[<-anZ.o];exact PL.at_ cA) cA DK.1 DK.2 (by have:=acx.o;omega));obtain⟨A7,c7,rfl⟩:=PL.val;clear HU2 PL cA jk jn;go_wp2_with fail
   refine HU3.o.mono ?_;rintro e w8⟨v8,H8,rfl,sg,cT,ka⟩;have iT:=fx.trans ka;have Er:=aa sg;obtain⟨A8,c8,rfl⟩:=sg.val;have HO:=aa ho;obtain⟨A5,c5,rfl⟩:=ho.val;clear HU3 sg ka fx ho;obtain⟨tk,oT⟩:∃tk,tk=es.take k:=⟨_,rfl⟩;have Ip:tk.length<=14:=by rw[oT,dG];omega
   rw[<-oT]at HO jP;have di:Holds w8 ((pb,dE number parts name (.slice A5 tk.length c5))::(Ho++(H8++((rb,.cells #[.int .i64 0,.int .i64 0,.string ⟨#[]⟩,.slice none 0 0] 246)::Fr)))):=by rw[oT];exact cT.p
   have FX:Holds w8 (Ho++((pb,dE number parts name (.slice A5 tk.length c5))::(H8++((rb,.cells #[.int .i64 0,.int .i64 0,.string ⟨#[]⟩,.slice none 0 0] 246)::Fr)))):=di.p;obtain⟨_,_,_,c3'⟩:=fR di;have hf3:=di.ah 3;have hwq:IntKind.i64.wrap eq=eq:=by rw[IntKind.wrap_i64];omega
   have hwp:IntKind.i64.wrap ep=ep:=by rw[IntKind.wrap_i64];omega
   have IV:=aa Ip;clear cT hH oT Ip hf3;obtain⟨p,rfl⟩:=Int.eq_ofNat_of_zero_le rH;have hpx:p<256:=by omega
   cases ed with
   |true=>
    obtain rfl:pv=(p:Int)+32768:=by have:=SP.o;simpa using this
    have jj:=YX ⟨p,hpx⟩;have fZ:=YZ ⟨p,hpx⟩;dsimp only at jj fZ;clear rH sk AY As kU nE DK;go_wp2_with (at_builtin;refine al ix (by rfl) (.tmp 84) (.tmp 95) (by rfl) (by rfl) (by rfl) HO.o (FX.bP _) (ag.many (w:=w8) (n:=1) (size:=4) (cs:=#[.int .u64 ea,.int .i64 (p:Int),.bool true,.int .i64 eq]) (by rfl) (by simp[maxLen])) (by simp[Value.oneCell']) (by have:=IV.o;simp only[maxLen];omega) (by have:=IV.o;omega) ?_;intro A' c' w' H' ay dU gj;have iq:Holds w' ((pb,dE number parts name (.slice A5 tk.length c5))::(H'++(H8++((rb,.cells #[.int .i64 0,.int .i64 0,.string ⟨#[]⟩,.slice none 0 0] 246)::Fr)))):=dU.p;obtain⟨_,_,_,c4'⟩:=fR iq;have hf3:=iq.ah 3;have p7:=iq.aG)
    have nQ:Holds (w'.setCell ⟨pb,3,none⟩ (.slice A' (tk.length+1) c')) ((pb,dE number parts name (.slice A' (tk.length+1) c'))::(H'++(H8++((rb,.cells #[.int .i64 0,.int .i64 0,.string ⟨#[]⟩,.slice none 0 0] 246)::Fr)))):=Holds.set iq 3 (.slice A' (tk.length+1) c');have xW:=((iT.alloc _).trans gj).setCell ⟨pb,3,none⟩ (.slice A' (tk.length+1) c');go_roundw
    case rel=>
     refine⟨k+1,H8,H',.slice A' (tk.length+1) c',aG,by go_num,?_,?_,?_,xW⟩
     ·rw[<-FN.o];exact fun wx hx=>Er.o.at_ (Fr:=[]) (by simpa using hx)
     ·rw[jP.o];unfold aP;rw[aY,eM];exact ay
     ·exact nQ.p
    case measure=>simp[intOf];omega
   |false=>
    obtain rfl:pv=(p:Int):=by have:=SP.o;simpa using this
    have jj:=YW ⟨p,hpx⟩;have fZ:=YY ⟨p,hpx⟩;dsimp only at jj fZ;clear rH sk AY As kU nE DK;go_wp2_with (at_builtin;refine al ix (by rfl) (.tmp 84) (.tmp 95) (by rfl) (by rfl) (by rfl) HO.o (FX.bP _) (ag.many (w:=w8) (n:=1) (size:=4) (cs:=#[.int .u64 ea,.int .i64 (p:Int),.bool false,.int .i64 eq]) (by rfl) (by simp[maxLen])) (by simp[Value.oneCell']) (by have:=IV.o;simp only[maxLen];omega) (by have:=IV.o;omega) ?_;intro A' c' w' H' ay dU gj;have iq:Holds w' ((pb,dE number parts name (.slice A5 tk.length c5))::(H'++(H8++((rb,.cells #[.int .i64 0,.int .i64 0,.string ⟨#[]⟩,.slice none 0 0] 246)::Fr)))):=dU.p;obtain⟨_,_,_,c4'⟩:=fR iq;have hf3:=iq.ah 3;have p7:=iq.aG)
    have nQ:Holds (w'.setCell ⟨pb,3,none⟩ (.slice A' (tk.length+1) c')) ((pb,dE number parts name (.slice A' (tk.length+1) c'))::(H'++(H8++((rb,.cells #[.int .i64 0,.int .i64 0,.string ⟨#[]⟩,.slice none 0 0] 246)::Fr)))):=Holds.set iq 3 (.slice A' (tk.length+1) c');have xW:=((iT.alloc _).trans gj).setCell ⟨pb,3,none⟩ (.slice A' (tk.length+1) c');go_roundw
    case rel=>
     refine⟨k+1,H8,H',.slice A' (tk.length+1) c',aG,by go_num,?_,?_,?_,xW⟩
     ·rw[<-FN.o];exact fun wx hx=>Er.o.at_ (Fr:=[]) (by simpa using hx)
     ·rw[jP.o];unfold aP;rw[aY,eM];exact ay
     ·exact nQ.p
    case measure=>simp[intOf];omega
  ·have dQ:¬(k:Int)<es.length:=by omega
   obtain rfl:k=es.length:=by omega
   rw[fB]at ho;have HO:=aa ho;obtain⟨A5,c5,rfl⟩:=ho.val;have di:Holds wr ((pb,dE number parts name (.slice A5 es.length c5))::((rb,.cells #[.int .i64 0,.int .i64 0,.string ⟨#[]⟩,.slice none 0 0] 246)::(Ho++Fr))):=hH.p;have WK:=aa (show∀(F:HL),jy (F++(Ho++Fr)) (.slice A5 es.length c5) es from fun F wx hx=>HO.o.at_ (Fr:=Fr) hx.right);clear hb ho hH;have HPM:=aa fun(wx:World) (F:HL) (hx:Holds wx (F++(Ho++Fr)))=>RD number parts (iN Z).toNat name (.slice A5 es.length c5) es wx (F++(Ho++Fr)) (WK.o F) hx ahw.o HR.o (by omega) h1 h2 (fun h=>by have:=h3 h;omega) h4;have Et:=aa fun(wx:World) (F:HL) (hx:Holds wx (F++(Ho++Fr)))=>CZ Z number parts name (.slice A5 es.length c5) es wx (F++(Ho++Fr)) (WK.o F) hx HR.o.1 qP (by omega) (by omega) ahx tW;have pe:(((iN Z).toNat:Nat):Int)=iN Z:=by omega
   rw[pe]at HPM;clear pe;have vq:=aa fun(wx:World) (F:HL) (vx:Value) (Hx:HL) (hb:ar vx (xT Z number parts name es) Hx) (hx:Holds wx (Hx++(F++(Ho++Fr))))=>show Calls Tryz.prog 187 #[vx,.slice A Z c] wx (fun e w'=>e=.returned (.bool true)∧wx=w') by
    have h:=CX vx (.slice A Z c) _ _ wx (hb.at_ hx) (HV.o wx hx.right.right.right);rw[decide_eq_true rfl]at h;exact h
   obtain⟨S,hS⟩:∃S,S=cq name:=⟨_,rfl⟩;have dj:=aa (fun(wx:World) (F:HL) (h:Holds wx ((pb,dE number parts name (.slice A5 es.length c5))::F))=>show wx.cell? ⟨pb,0,none⟩=some (.int .i64 (number:Int))∧wx.cell? ⟨pb,1,none⟩=some (.int .i64 (parts:Int))∧wx.cell? ⟨pb,2,none⟩=some (.string (cq name))∧wx.cell? ⟨pb,3,none⟩=some (.slice A5 es.length c5)from⟨h.ae 0,h.ae 1,h.ae 2,h.ae 3⟩);go_upto_region 19 with fail
   refine aF (fun wx=>wx.cell? ⟨pb,0,none⟩=some (.int .i64 (number:Int))∧wx.cell? ⟨pb,1,none⟩=some (.int .i64 (parts:Int))∧wx.cell? ⟨pb,2,none⟩=some (.string (cq name))∧wx.cell? ⟨pb,3,none⟩=some (.slice A5 es.length c5)) 21 (by kernel_rfl) (fun w1 hd=>dj.o _ _ (di.dr hd)) (fun w1 hd hs=>?_);have bM:=di.dr hd;have cJ:=hg.trans (af.dr hd);clear hd di hg;refine Ag 0 1 2 ?_;refine Zm 3 fun K hK=>?_;go_simp;refine(HPM.o w1 [_,_] bM).mono ?_;rintro e w3 ⟨rfl,dZ,hgB⟩;have iZ:=cJ.trans hgB;clear bM hgB cJ;refine hK _ _ (dj.o _ _ dZ) (fun _=>?_);clear hK K hs;rename_i hs;refine dY 4 5 6 7 ?_;refine dY 8 9 10 11 ?_;refine dY 12 13 14 16 ?_;refine Zm 15 fun K hK=>?_;go_simp;refine(Et.o w3 [_,_] dZ).mono ?_;rintro e w4 ⟨v4,H4,rfl,pG,qJ,hgC⟩;have ZN:=iZ.trans hgC;have Du:=aa pG;have Bf:Holds w4 ((pb,dE number parts name (.slice A5 es.length c5))::(H4++((rb,.cells #[.int .i64 0,.int .i64 0,.string ⟨#[]⟩,.slice none 0 0] 246)::(Ho++Fr)))):=qJ.p;obtain⟨A6,c6,rfl⟩:=pG.val;rw[hLL]at Du;clear dZ hgC iZ pG;refine hK _ _ (dj.o _ _ Bf) (fun _=>?_);clear hK K hs;rename_i hs;refine Zm 17 fun K hK=>?_;go_simp;refine(vq.o w4 [_,_] _ H4 Du.o qJ).mono ?_;rintro e w5 ⟨rfl,rfl⟩;refine hK _ _ (hs) (fun _=>?_);clear hK K hs;rename_i hs;refine ji 18 ?_;refine Zm 19 fun K hK=>?_;have hHR:Holds w4 ((rb,.cells #[.int .i64 0,.int .i64 0,.string ⟨#[]⟩,.slice none 0 0] 246)::((pb,dE number parts name (.slice A5 es.length c5))::(H4++(Ho++Fr)))):=Bf.p;obtain⟨r0,r1,r2,r3,f0,f1,f2,f3⟩:=hHR.hJ;have rl:=hHR.aG;have XB:=hHR.nz (.int .i64 (number:Int)) (.int .i64 (parts:Int)) (.string (cq name)) (.slice A5 es.length c5);have Ah:=ZN.nz rb (.int .i64 (number:Int)) (.int .i64 (parts:Int)) (.string (cq name)) (.slice A5 es.length c5);go_simp;refine hK _ _ (dj.o _ _ (show Holds _ ((pb,dE number parts name (.slice A5 es.length c5))::((rb,.cells #[.int .i64 (number:Int),.int .i64 (parts:Int),.string (cq name),.slice A5 es.length c5] 246)::(H4++(Ho++Fr))))from XB.p)) (fun _=>?_);clear hK K hs;rename_i hs;refine ji 20 ?_;refine Ze ?_;clear hs;go_wp2_with fail
   obtain⟨t0,t1,t2,t3,_⟩:=XB.hJ;refine bodyPost_ret (v:=.tuple #[.agg #[.int .i64 (number:Int),.int .i64 (parts:Int),.string (cq name),.slice A5 es.length c5],.bool true]) (by rw[results_cell_tmp rfl];go_simp) rfl ?_;exact⟨_,Ho,rfl,HO.o,XB.p,Ah⟩
theorem tF{Z m:Nat}(h:m<=256):aM Z m<=257:=by
 unfold aM;have:=Nat.div_le_self m (bA Z);split<;>omega
theorem sU(Z k:Nat)(nm:List UInt8)(es:List az)(v:Value)(w:World)(Fr:HL)(hv:bN Fr v (cW Z nm es k))(hH:Holds w Fr)(hl:yZ nm)(hr:dd es)(hn:es.length<=256)(hk:k<aM Z es.length)(qH:128<=Z)(tW:Z<=256):
  Calls Tryz.prog 182 #[v] w (Po k (aM Z es.length) nm (eS (bA Z) es k) w Fr):=by
 have hb:=Cm qH tW;have ik:=tF (Z:=Z) hn;refine NF Z k (aM Z es.length) nm _ v w Fr hv hH hl (hr.chunk _ _) hk (by omega) ?_ ?_ ?_ qH tW
 ·intro h;rw[V4 h,AK (by omega)]
 ·exact RB (by omega)
 ·rw[AK (by omega)];have:=uS Z es k;omega
theorem xe(Z k:Nat)(nm:List UInt8)(es:List az)(v:Value)(w:World)(Fr:HL)(hv:bN Fr v (cW Z nm es k))(hH:Holds w Fr)(hl:yZ nm)(hr:dd es)(hn:es.length<=256)(hk:k<aM Z es.length)(qH:128<=Z)(tW:Z<=256):
  Calls Tryz.prog 118 #[v] w (cM (.tuple #[.int .i64 (k:Int),.int .i64 ((aM Z es.length:Nat):Int),.nilIface]) w Fr):=by
 have HR:=aa (sU Z k nm es v w Fr hv hH hl hr hn hk qH tW);generalize aM Z es.length=P at*;clear hv hH hl hr;go_enter func118,ntmps118;go_wp2_with fail
 refine HR.o.mono ?_;rintro e w1⟨ev,H1,rfl,Tr,ax,aK⟩;obtain⟨A5,c5,rfl⟩:=Tr.val;generalize(eS (bA Z) es k).length=n5 at*;have aB:=ax.right.alloc (dE k P nm (.slice A5 n5 c5));have cY:=aK.alloc (dE k P nm (.slice A5 n5 c5));clear Tr ax HR;go_upto_region 2 with fail
 rw[show w1.alloc (Obj.cells #[.int .i64 (k:Int),.int .i64 (P:Int),.string (cq nm),.slice A5 n5 c5] 246)=w1.alloc (dE k P nm (.slice A5 n5 c5))from rfl];generalize w1.alloc (dE k P nm (.slice A5 n5 c5))=w2 at*;generalize w1.heap.size=b at*;obtain⟨c0,c1,_,_⟩:=fR aB;go_upto_region 4 with fail
 go_quiet (fail)
 go_wp2_with fail
 go_ret3
 exact⟨rfl,aB.tail.drewN _,cY.drewN _⟩
def ra(Fr:HL)(v:Value)(ds:List (List UInt8)):Prop:=∃vs:List Value,vs.length=ds.length∧(∀w,Holds w Fr->ag w 1 v ds.length vs)∧∀i (h:i<vs.length) (h':i<ds.length),bN Fr vs[i] ds[i]
theorem ra.open_{Fr:HL}{v:Value}{ds:List (List UInt8)}(h:ra Fr v ds){w:World}(hH:Holds w Fr)(h0:0<ds.length):∃(vs:List Value) (b o c:Nat),v=.slice (some ⟨b,o,none⟩) ds.length c∧vs.length=ds.length∧
  (∀wx,Holds wx Fr->∀i (h:i<vs.length),wx.cell? ⟨b,o+i,none⟩=some vs[i])∧∀i (h:i<vs.length) (h':i<ds.length),bN Fr vs[i] ds[i]:=by
 obtain⟨vs,hl,hr,hf⟩:=h;obtain⟨_,A,c,rfl,_,_,cm⟩:=hr w hH;obtain⟨b,o,rfl,_⟩:=cm h0;refine⟨vs,b,o,c,rfl,hl,fun wx hx i hi=>?_,hf⟩;obtain⟨_,A',c',hv,_,_,Bu⟩:=hr wx hx;injection hv with e1 e2 e3;obtain⟨b',o',e,hc⟩:=Bu h0;rw[e]at e1;injection e1 with e1;injection e1 with e4 e5;subst e4 e5;exact hc i _ (bF hi)
def ahA(n:Nat)(nm:List UInt8)(es:List az)(P:Nat)(w:World)(Fr:HL)(ev nv iv:Value)(wr:World):Prop:=
 ∃(k:Nat) (H:HL),k<=P∧iv=.int .i64 k∧(nv=if k=0 then .string ⟨#[]⟩else .string (cq nm))∧aP ev (es.take (k*n)) H∧Holds wr (H++Fr)∧af w wr
theorem NG(A:Option Addr)(c:Nat)(es:List az)(w:World)(H Fr:HL)(he:aP (.slice A es.length c) es H)(hH:Holds w (H++Fr)):Calls Tryz.prog 184 #[.slice A es.length c] w (cB (fun v H'=>aP v es H') w Fr):=by
 obtain⟨hl,h|⟨g,cap,cur,fz,hv,h1,h2,h3,h4,h5,rfl⟩⟩:=he
 ·obtain⟨hv,hn,rfl⟩:=h;injection hv with e1 e2 e3;subst e1 e3;have mJ:es=[]:=jW hn;subst mJ;go_enter func184,ntmps184;go_wp2_with fail
  go_ret;exact⟨_,[],rfl,aP.nil,hH,af.refl w⟩
 ·injection hv with e1 e2 e3;subst e1 e3;have hcI:(es.length:Int)<=c:=by omega
  have HC:=aa (show aP (.slice (some ⟨g,0,none⟩) es.length es.length) es [(g,Obj.cells cur 24 fz)]from⟨hl,aE ⟨g,es.length,cur,fz,rfl,aN _,by omega,by have:=kY 4 h1;omega,h4,h5,rfl⟩⟩);clear h3 h4 h5;go_enter func184,ntmps184;go_wp2_with fail
  go_ret;exact⟨_,_,rfl,HC.o,hH,af.refl w⟩
theorem NH(Z:Nat)(nm:List UInt8)(es:List az)(v:Value)(w:World)(Fr:HL)(hv:ra Fr v ((List.range (aM Z es.length)).map (cW Z nm es)))(hH:Holds w Fr)(hl:yZ nm)(hr:dd es)(hn:es.length<=256)(qH:128<=Z)(tW:Z<=256):
  Calls Tryz.prog 120 #[v] w (fun e w'=>∃ev H',e=.returned (.tuple #[.string (cq nm),ev,.nilIface])∧aP ev es H'∧Holds w' (H'++Fr)∧af w w'):=by
 have ahw:=aa hl;have HR:=aa hr;have hb:=Cm qH tW;have ik:=tF (Z:=Z) hn;have Dz:=jB Z es.length;have bD:ahA (bA Z) nm es (aM Z es.length) w Fr (.slice none 0 0) (.string ⟨#[]⟩) (.int .i64 0) w:=⟨0,[],by omega,rfl,rfl,by simpa using aP.nil,hH,af.refl w⟩;have jo:=aa fun(k:Nat) (vx:Value) (wx:World) (F:HL) (hx:bN Fr vx (cW Z nm es k)) (hk:k<aM Z es.length) (hw:Holds wx (F++Fr))=>sU Z k nm es vx wx (F++Fr) hx.right hw hl hr hn hk qH tW;have ajt:=aa (Ny (Z:=Z) (m:=es.length) (by omega));have od:=aa fun(k:Nat)=>lh qH tW hl es k;obtain⟨vs,b,o,c,rfl,hvl,bm,tM⟩:=hv.open_ hH (by rw[bY,fP];exact Dz);rw[bY,fP]at hvl⊢;have HC:=aa bm;have HF:=aa tM;generalize hP:aM Z es.length=P at*;clear hv hl hr hH bm tM;go_enter func120,ntmps120;go_wp2_with fail
 go_loopw [5,6,13] (fun ev nv iv wr=>ahA (bA Z) nm es P w Fr ev nv iv wr) (fun _ _ iv _=>P-(intOf iv).toNat)
 case atStart=>exact bD
 case round=>
  clear bD;obtain⟨k,H,hk,rfl,FO,he,hH,hg⟩:=hrel;by_cases aG:k<P
  ·have dQ:(k:Int)<P:=by omega
   have p6:k<vs.length:=by omega
   have vp:=HC.o wr hH.right k p6;have hfk:=HF.o k p6 (by rw[bY,fP];omega);have Og:=HF.o 0 (by omega) (by rw[bY,fP];omega);have HC0:=aa fun wx hx=>HC.o wx hx 0 (by omega);simp only[List.getElem_map,List.getElem_range,fD]at hfk Og HC0;generalize vs[k]=vk at*;generalize(vs[0]'(by omega))=v0 at*;obtain⟨A1,c1,rfl⟩:=(hfk wr hH.right).val;obtain⟨A0,c0,rfl⟩:=(Og wr hH.right).val;rw[od.o]at*;have X2:=aa (jo.o k _ wr H hfk aG hH);have HE:=aa he;have jP:=aa (Nx (bA Z) es k);have X3:=uS Z es k;generalize eS (bA Z) es k=ch at*;obtain⟨tk,oT⟩:∃tk,tk=es.take (k*bA Z):=⟨_,rfl⟩;have X4:=aa (show tk.length<=256 by rw[oT,dG];omega);rw[<-oT]at HE jP;obtain⟨A3,c3,rfl⟩:=HE.o.val;have hPI:((P:Int)==(P:Int))=true:=beq_self_eq_true _;clear he hfk Og hH oT;by_cases rQ:k=0
   ·have hkI:¬(0:Int)<k:=by omega
    rw[if_pos rQ]at FO;subst FO;clear rQ;go_wp2_with fail
    refine X2.o.mono ?_;rintro e w1⟨ev2,H1,rfl,oU,ax,aK⟩;have gY:=hg.trans aK;have LB:=aa oU;obtain⟨A4,c4,rfl⟩:=oU.val;have aB:=ax.alloc (dE k P nm (.slice A4 ch.length c4));have cY:=gY.alloc (dE k P nm (.slice A4 ch.length c4));clear oU ax gY aK hg X2;go_upto_region 7 with fail
    rw[show w1.alloc (Obj.cells #[.int .i64 (k:Int),.int .i64 (P:Int),.string (cq nm),.slice A4 ch.length c4] 246)=w1.alloc (dE k P nm (.slice A4 ch.length c4))from rfl];generalize w1.alloc (dE k P nm (.slice A4 ch.length c4))=w2 at*;generalize w1.heap.size=pb at*;obtain⟨d0,d1,d2,d3⟩:=fR aB;have jQ:=HC0.o w2 aB.tail.right.right;have hkE:((k:Int)==(k:Int))=true:=beq_self_eq_true _;go_upto_region 10 with fail
    have FX:Holds w2 (H++((pb,dE k P nm (.slice A4 ch.length c4))::(H1++Fr))):=aB.p;have hAt:=LB.o.at_ (Fr:=(pb,dE k P nm (.slice A4 ch.length c4))::(H++Fr)) (show Holds w2 (H1++((pb,dE k P nm (.slice A4 ch.length c4))::(H++Fr)))from aB.p);have LU:=aa hAt;clear hAt jQ hkE;go_wp2_with (at_builtin;refine al ix (by rfl) (.tmp 60) (.tmp 62) (by rfl) (by rfl) (by rfl) HE.o FX LU.o gH (by have:=X4.o;simp only[maxLen];omega) (by have:=X4.o;omega) ?_;intro A' c' w' H' ay dU gj)
    go_roundw
    case rel=>
     refine⟨k+1,H',aG,by go_num,by rw[if_neg (by omega)],?_,dU.p,cY.trans gj⟩;rw[<-jP.o];unfold aP;rw[aY,eM];exact ay
    case measure=>simp[intOf];omega
   ·have hkI:(0:Int)<k:=by omega
    rw[if_neg rQ]at FO;subst FO;clear rQ;go_wp2_with fail
    refine X2.o.mono ?_;rintro e w1⟨ev2,H1,rfl,oU,ax,aK⟩;have gY:=hg.trans aK;have LB:=aa oU;obtain⟨A4,c4,rfl⟩:=oU.val;have aB:=ax.alloc (dE k P nm (.slice A4 ch.length c4));have cY:=gY.alloc (dE k P nm (.slice A4 ch.length c4));clear oU ax gY aK hg X2;go_upto_region 7 with fail
    rw[show w1.alloc (Obj.cells #[.int .i64 (k:Int),.int .i64 (P:Int),.string (cq nm),.slice A4 ch.length c4] 246)=w1.alloc (dE k P nm (.slice A4 ch.length c4))from rfl];generalize w1.alloc (dE k P nm (.slice A4 ch.length c4))=w2 at*;generalize w1.heap.size=pb at*;obtain⟨d0,d1,d2,d3⟩:=fR aB;have jQ:=HC0.o w2 aB.tail.right.right;have hkE:((k:Int)==(k:Int))=true:=beq_self_eq_true _;go_upto_region 10 with fail
    have FX:Holds w2 (H++((pb,dE k P nm (.slice A4 ch.length c4))::(H1++Fr))):=aB.p;have hAt:=LB.o.at_ (Fr:=(pb,dE k P nm (.slice A4 ch.length c4))::(H++Fr)) (show Holds w2 (H1++((pb,dE k P nm (.slice A4 ch.length c4))::(H++Fr)))from aB.p);have LU:=aa hAt;clear hAt jQ hkE;go_wp2_with (at_builtin;refine al ix (by rfl) (.tmp 60) (.tmp 62) (by rfl) (by rfl) (by rfl) HE.o FX LU.o gH (by have:=X4.o;simp only[maxLen];omega) (by have:=X4.o;omega) ?_;intro A' c' w' H' ay dU gj)
    go_roundw
    case rel=>
     refine⟨k+1,H',aG,by go_num,by rw[if_neg (by omega)],?_,dU.p,cY.trans gj⟩;rw[<-jP.o];unfold aP;rw[aY,eM];exact ay
    case measure=>simp[intOf];omega
  ·have dQ:¬(k:Int)<P:=by omega
   obtain rfl:k=P:=by omega
   rw[gU (ajt.o)]at he;have HE:=aa he;obtain⟨A3,c3,rfl⟩:=he.val;have HM:=aa (Fu _ es wr (H++Fr) (fun wx hx=>HE.o.at_ hx) hH HR.o hn);have hP0:((k:Int)==0)=false:=beq_eq_false_iff_ne.2 (by omega);rw[if_neg (by omega)]at FO;subst FO;clear he hH;go_wp2_with fail
   refine HM.o.mono ?_;rintro e w1⟨rfl,ax,aK⟩;have pd:=aa (NG A3 c3 es w1 H Fr HE.o ax);clear HM ax;go_wp2_with fail
   refine pd.o.mono ?_;rintro e w2⟨v2,H2,rfl,oU,aB,aX⟩;go_wp2_with fail
   go_ret3
   exact⟨v2,H2,rfl,oU,aB,(hg.trans aK).trans aX⟩
theorem zE(k:Int)(w:World)(Fr:HL)(hc:k≠0)(hH:Holds w Fr):Calls Tryz.prog 127 #[.int .i64 k] w (pR k w Fr):=by
 have DE:=aa hc;clear hc;go_enter func127,ntmps127;go_wp2_with fail
 go_ret;exact⟨_,_,rfl,.inr ⟨DE.o,_,_,rfl,rfl⟩,hH.alloc _,(af.refl w).alloc _⟩
def uU(w:World)(Fr:HL)(e:Ending)(w':World):Prop:=∃ve He,e=.returned (.tuple #[.string ⟨#[]⟩,.slice none 0 0,ve])∧bJ ve 3 He∧Holds w' (He++Fr)∧af w w'
theorem K5(v:Value)(w:World)(Fr:HL)(hv:ra Fr v [])(hH:Holds w Fr):Calls Tryz.prog 120 #[v] w (uU w Fr):=by
 have HW:=aa (zE 3 w Fr (by omega) hH);obtain⟨vs,hl,hr,-⟩:=hv;obtain⟨-,A,c,rfl,-,-,-⟩:=hr w hH;clear hr hl;go_enter func120,ntmps120;go_wp2_with fail
 go_loopw [5,6,13] (fun ev nv iv wr=>iv=.int .i64 0∧wr=w) (fun _ _ iv _=>0)
 case atStart=>exact⟨rfl,rfl⟩
 case round=>
  obtain⟨rfl,rfl⟩:=hrel;go_wp2_with fail
  all_goals
   refine HW.o.mono ?_;rintro e w1⟨ve,He,rfl,he,ax,aK⟩;go_wp2_with fail
   go_ret3
   exact⟨ve,He,rfl,he,ax,aK⟩
theorem NI(Z i:Nat)(nm:List UInt8)(es:List az)(ds:List (List UInt8))(v:Value)(w:World)(Fr:HL)(hv:ra Fr v ds)(hH:Holds w Fr)(h0:0<ds.length)(hd:ds[0]=cW Z nm es i)(hi:i<aM Z es.length)(ei:ds.length≠aM Z es.length)
  (hl:yZ nm)(hr:dd es)(hn:es.length<=256)(qH:128<=Z)(tW:Z<=256):Calls Tryz.prog 120 #[v] w (uU w Fr):=by
 obtain⟨vs,b,o,c,rfl,hvl,bm,tM⟩:=hv.open_ hH h0;have Og:=tM 0 (by omega) h0;have jQ:=bm w hH 0 (by omega);rw[hd]at Og;rw[fD]at jQ;have jo:=aa (sU Z i nm es vs[0] w Fr Og hH hl hr hn hi qH tW);have HW:=aa fun wx (F:HL) (hx:Holds wx (F++Fr))=>zE 3 wx (F++Fr) (by omega) hx;obtain⟨A1,c1,e1⟩:=(Og w hH).val;generalize(cW Z nm es i).length=n1 at*;rw[e1]at jQ jo;generalize aM Z es.length=P at*;generalize eS (bA Z) es i=ch at*;have h0I:(0:Int)<ds.length:=by omega
 have auT:((P:Int)==(ds.length:Int))=false:=beq_eq_false_iff_ne.2 (by omega);clear hv bm tM Og hd hl hr hvl e1;generalize ds.length=n at*;have auU:(P==n)=false:=beq_eq_false_iff_ne.2 (Ne.symm ei);have auV:¬P=n:=Ne.symm ei;clear h0 ei;go_enter func120,ntmps120;go_wp2_with fail
 go_loopw [5,6,13] (fun ev nv iv wr=>iv=.int .i64 0∧wr=w) (fun _ _ iv _=>0)
 case atStart=>exact⟨rfl,rfl⟩
 case round=>
  obtain⟨rfl,rfl⟩:=hrel;go_wp2_with fail
  refine jo.o.mono ?_;rintro e w1⟨ev2,H1,rfl,oU,ax,aK⟩;obtain⟨A4,c4,rfl⟩:=oU.val;have aB:=ax.alloc (dE i P nm (.slice A4 ch.length c4));have cY:=aK.alloc (dE i P nm (.slice A4 ch.length c4));clear oU ax aK jo;go_upto_region 7 with fail
  rw[show w1.alloc (Obj.cells #[.int .i64 (i:Int),.int .i64 (P:Int),.string (cq nm),.slice A4 ch.length c4] 246)=w1.alloc (dE i P nm (.slice A4 ch.length c4))from rfl];generalize w1.alloc (dE i P nm (.slice A4 ch.length c4))=w2 at*;generalize w1.heap.size=pb at*;obtain⟨d0,d1,d2,d3⟩:=fR aB;have HW1:=aa (HW.o w2 (_::H1) aB);have Xf:=aa fun(wx:World) (F:HL) (hx:Holds wx (F++(((pb,dE i P nm (.slice A4 ch.length c4))::H1)++Fr)))=>(show Holds wx (F++Fr)from hx.p);go_wp2_with fail
  all_goals
   refine HW1.o.mono ?_;rintro e w3⟨ve,He,rfl,he,aD,bj⟩;go_wp2_with fail
   go_ret3
   exact⟨ve,He,rfl,he,Xf.o _ _ aD,cY.trans bj⟩
theorem ag.OU{w:World}{size n c k:Nat}{A:Option Addr}{xs:List Value}(h:ag w size (.slice A n c) n xs)(hk:k<=n):ag w size (.slice (A.map fun x=>x.add (k*size)) (n-k) (c-k)) (n-k) (xs.drop (k*size)):=by
 obtain⟨h0,A',c',hv,h1,h2,h3⟩:=h;injection hv with e1 e2 e3;subst e1 e3;refine⟨by rw[dA,h0,Nat.sub_mul],_,_,rfl,by omega,by omega,fun hp=>?_⟩;obtain⟨b,o,rfl,hc⟩:=h3 (by omega);refine⟨b,o+k*size,by simp[cV],fun j u hu=>?_⟩;rw[List.getElem?_drop]at hu;rw[gW];exact hc _ u hu
theorem ag.ahB{w:World}{size n c m:Nat}{A:Option Addr}{xs:List Value}(h:ag w size (.slice A n c) n xs)(hm:m<=n):ag w size (.slice A m c) m (xs.take (m*size)):=by
 obtain⟨h0,A',c',hv,h1,h2,h3⟩:=h;injection hv with e1 e2 e3;subst e1 e3;refine⟨by rw[dG,h0,uc (kY _ hm)],_,_,rfl,by omega,by omega,fun hp=>?_⟩;obtain⟨b,o,rfl,hc⟩:=h3 (by omega);refine⟨b,o,rfl,fun j u hu=>hc j u ?_⟩;rw[lE]at hu;split at hu
 ·exact hu
 ·cases hu
theorem NJ(es:List az)(k:Nat):cQ (es.drop k)=(cQ es).drop (k*4):=by
 induction k generalizing es with
 |zero=>simp
 |succ k ih=>
  cases es with
  |nil=>simp[cQ]
  |cons e es=>
   rw[List.drop_succ_cons,ih,show(k+1)*4=4+k*4 by omega,<-List.drop_drop];rfl
theorem NK(es:List az)(k:Nat):cQ (es.take k)=(cQ es).take (k*4):=by
 have h:cQ es=cQ (es.take k)++cQ (es.drop k):=by rw[<-eM,oz]
 by_cases hk:k<=es.length
 ·conv=>rhs;rw[h]
  rw[BK (by rw[eu,dG];omega),List.take_of_length_le (l:=cQ (es.take k)) (by rw[eu,dG];omega)]
 ·rw[List.take_of_length_le (l:=es) (by omega),List.take_of_length_le (l:=cQ es) (by rw[eu];omega)]
theorem jy.sub{Fr:HL}{A:Option Addr}{c lo hi:Nat}{es:List az}(h:jy Fr (.slice A es.length c) es)(h1:lo<=hi)(h2:hi<=es.length):jy Fr (.slice (A.map fun x=>x.add (lo*4)) (hi-lo) (c-lo)) ((es.drop lo).take (hi-lo)):=by
 intro w hw;have h3:=(ag.OU (h w hw) (k:=lo) (by omega)).ahB (m:=hi-lo) (by omega);rw[<-NJ,<-NK]at h3;have e:((es.drop lo).take (hi-lo)).length=hi-lo:=by rw[dG,dA];omega
 unfold eC;rw[e];exact h3
theorem jy.nK{Fr:HL}{A:Option Addr}{c:Nat}(hc:c<=maxLen):jy Fr (.slice A 0 c) []:=fun w _=>⟨rfl,A,c,rfl,Nat.zero_le _,hc,fun h=>absurd h (by simp)⟩
def aau(Z:Nat)(nm:List UInt8)(es:List az)(P:Nat)(w:World)(Fr:HL)(ov iv:Value)(wr:World):Prop:=
 ∃(k:Nat) (H:HL),k<=P∧iv=.int .i64 k∧iw ov ((List.range k).map (cW Z nm es)) H∧Holds wr (H++Fr)∧af w wr
theorem RE(Z:Nat)(nm:List UInt8)(es:List az)(ev:Value)(w:World)(Fr:HL)(hv:jy Fr ev es)(hH:Holds w Fr)(hl:yZ nm)(hr:dd es)(hn:es.length<=256)(qH:128<=Z)(tW:Z<=256):
  Calls Tryz.prog 63 #[.int .i64 (Z:Int),.string (cq nm),ev] w (fun e w'=>∃v H',e=.returned (.tuple #[v,.nilIface])∧iw v ((List.range (aM Z es.length)).map (cW Z nm es)) H'∧Holds w' (H'++Fr)∧af w w'):=by
 have hb:=Cm qH tW;have ik:=tF (Z:=Z) hn;have qP:nm.length<=36:=by have:=hl.2.1;omega
 have HV:=aa hv;have HE:=aa fun wx=>wH (Z:Int) wx (by omega) (by omega);have HP:=aa fun wx=>EM (Z:Int) (es.length:Int) wx (by omega) (by omega) (by omega) (by omega);rw[AK (by omega)]at HE;rw[V3 (by omega)]at HP;have SQ:=aa fun wx=>yL nm wx hl;have HM:=aa fun wx hx=>Fu ev es wx Fr hv hx hr hn;obtain⟨-,A,c,rfl,ff,gT,-⟩:=hv w hH;have Et:=aa fun(k:Nat) (vx:Value) (wx:World) (F:HL) (hk:k<aM Z es.length) (hx:jy Fr vx (eS (bA Z) es k)) (hw:Holds wx (F++Fr))=>
  CZ Z k (aM Z es.length) nm vx (eS (bA Z) es k) wx (F++Fr) (fun wy hy=>hx wy hy.right) hw (hr.chunk _ _).1 qP (by omega) (by omega) (by
   have h1:=uS Z es k;have h4:bA Z*15<=Z-42:=Nat.div_mul_le_self _ _;have:=kY 15 h1;omega) tW
 have Aq:=aa fun(k:Nat) (hk:k+1<=aM Z es.length)=>show k*bA Z<=es.length by
  by_cases h:k=0
  ·subst h;simp
  ·have:=Cn (Z:=Z) (m:=es.length) (k:=k-1) (by omega);rw[show k-1+1=k by omega]at this;exact this
 have HG:=aa (af.refl w);have vA:=aa fun(k:Nat) (hk:k<aM Z es.length) (h0:0<es.length)=>show k*bA Z<es.length by
  by_cases h:k+1=aM Z es.length
  ·rcases Fs (by omega) h with e|e
   ·exact e
   ·rw[e];omega
  ·have:=Cn (Z:=Z) (m:=es.length) (k:=k) (by omega);rw[Nat.succ_mul]at this;omega
 have HPT:=aa fun(k:Nat)=>show cW Z nm es k=xT Z k (aM Z es.length) nm (eS (bA Z) es k)from rfl;generalize hPd:aM Z es.length=P at*;have ei:((bA Z:Int)==0)=false:=beq_eq_false_iff_ne.2 (by omega);clear hv hr hl hPd;go_enter func63,ntmps63;go_wp2_with fail
 refine(HE.o w).mono ?_;rintro e w1⟨rfl,rfl⟩;go_wp2_with fail
 refine(SQ.o w).mono ?_;rintro e w2⟨rfl,fZ⟩;obtain⟨aB,aX⟩:=wD hH fZ;clear fZ;go_wp2_with fail
 refine(HM.o w2 aB).mono ?_;rintro e w3⟨rfl,aD,bj⟩;have bD:aau Z nm es P w Fr (.slice none 0 0) (.int .i64 0) w3:=⟨0,[],by omega,rfl,eK.nil _ _ _,aD,aX.trans bj⟩;clear hH aB aX aD bj HM HG;go_wp2_with fail
 refine(HP.o w3).mono ?_;rintro e w4⟨rfl,rfl⟩;clear HP;go_wp2_with fail
 go_loopw [9,32] (fun ov iv wr=>aau Z nm es P w Fr ov iv wr) (fun _ iv _=>P-(intOf iv).toNat)
 case atStart=>exact bD
 case round=>
  clear bD;obtain⟨k,H,hk,rfl,ho,hH,hg⟩:=hrel;by_cases aG:k<P
  ·have dQ:(k:Int)<P:=by omega
   have hlo:=Aq.o k aG;obtain⟨lo,Mm⟩:∃lo,lo=k*bA Z:=⟨_,rfl⟩;obtain⟨hi,Ql⟩:∃hi,hi=min ((k+1)*bA Z) es.length:=⟨_,rfl⟩;have cz:eS (bA Z) es k=(es.drop lo).take (hi-lo):=by
    unfold eS;rw[<-Mm,Ql,Nat.succ_mul,<-Mm];by_cases hx:lo+bA Z<=es.length
    ·rw[uc hx];congr 1;omega
    ·rw[Nat.min_eq_right (by omega),gU (by rw[dA];omega),gU (by rw[dA];omega)]
   have hhi:hi<=es.length:=by rw[Ql];exact Nat.min_le_right _ _
   have hlh:lo<=hi:=by rw[Ql,Mm];exact Nat.le_min.2 ⟨kY _ (by omega),hlo⟩
   obtain⟨m1,oc⟩:∃m,m=(k+1)*bA Z:=⟨_,rfl⟩;have FZ:lo<=4096∧m1<=4096:=by
    have h1:k*bA Z<=257*14:=Nat.mul_le_mul (by omega) hb.2;have h2:(k+1)*bA Z<=258*14:=Nat.mul_le_mul (by omega) hb.2;omega
   have u7:IntKind.i64.wrap ((k:Int)*(bA Z:Int))=(lo:Int):=by rw[show(k:Int)*(bA Z:Int)=(lo:Int) by rw[Mm];rfl,IntKind.wrap_i64];omega
   have PE:wrap64 (((k:Int)+1)*(bA Z:Int))=(m1:Int):=by rw[show((k:Int)+1)*(bA Z:Int)=(m1:Int) by rw[oc];rfl];unfold wrap64;omega
   have DS:min (m1:Int) (es.length:Int)=(hi:Int):=by rw[Ql,<-oc];omega
   obtain⟨A3,c3,rfl,-,-⟩:=ho.val;obtain⟨cells,H0,H1,rfl,ay,kM⟩:=ho.Gv;have hLk:((List.range k).map (cW Z nm es)).length=k:=by rw[bY,fP]
   rw[hLk]at ay kM⊢;have jm:=aa ay;have MJ:=aa kM;clear ay kM hLk;have HRG:=aa (show(List.range (k+1)).map (cW Z nm es)=(List.range k).map (cW Z nm es)++[cW Z nm es k] by rw[ub,dm];rfl);by_cases mJ:0<es.length
   ·have hlm:=vA.o k aG mJ;rw[<-Mm]at hlm;clear Mm Ql oc ho;obtain⟨-,A',c',xD,-,-,cm⟩:=HV.o wr hH.right;injection xD with e1 e2 e3;subst e1;obtain⟨b,o,rfl,-⟩:=cm mJ;have Dv:=aa (Et.o k (.slice (some ⟨b,o+lo*4,none⟩) (hi-lo) (c-lo)) wr (H0++H1) aG (by have h:=HV.o.sub hlh hhi;rw[<-cz]at h;simpa[cV]using h) hH);have W6:lo<c:=by omega
    have auW:¬c=lo:=by omega
    have auX:(lo:Int)<=hi:=by omega
    have auY:(hi:Int)<=c:=by omega
    clear cm e2 e3 hH cz;go_wp2_with fail
    refine(HE.o wr).mono ?_;rintro e w1⟨rfl,rfl⟩;go_wp2_with fail
    refine(HE.o wr).mono ?_;rintro e w1⟨rfl,rfl⟩;go_wp2_with fail
    refine Dv.o.mono ?_;rintro e w1⟨v4,H4,rfl,pG,aU,bV⟩;have bI:=hg.trans bV;have Du:=aa pG;obtain⟨A4,c4,rfl⟩:=pG.val;generalize(xT Z k P nm (eS (bA Z) es k)).length=n4 at*;have bg:Holds w1 (H0++(H1++(H4++Fr))):=aU.p;clear pG aU bV hg Dv u7 PE DS;go_wp2_with (at_builtin;refine al wG (by rfl) (.tmp 47) (.tmp 57) (by rfl) (by rfl) (by rfl) jm.o (bg.bP _) ag.one (by simp[Value.oneCell']) (by simp only[maxLen];omega) (by omega) ?_;intro A' c' w' H' ay bC eJ)
    refine⟨⟨k+1,H'++(H1++H4),aG,by go_num,?_,?_,(bI.alloc _).trans eJ⟩,by simp[intOf];omega⟩
    ·rw[HRG.o];exact MJ.o.2 _ _ [_] _ H4 rfl ⟨_,rfl,by rw[HPT.o];exact Du.o⟩ ay
    ·exact bC.p
   ·have pc:es.length=0:=by omega
    obtain rfl:lo=0:=by omega
    obtain rfl:hi=0:=by omega
    have jQ:eS (bA Z) es k=[]:=by rw[cz];rfl
    have an1:=aa fun A9=>Et.o k (.slice A9 0 c) wr (H0++H1) aG (by rw[jQ];exact jy.nK gT) hH;have Dv:=aa (an1.o A);have aju:min (m1:Int) (es.length:Int)=0:=by omega
    clear hH cz Mm Ql oc DS;have DS:=aju;clear pc;cases A with
    |none=>
     go_wp2_with fail
     refine(HE.o wr).mono ?_;rintro e w1⟨rfl,rfl⟩;go_wp2_with fail
     refine(HE.o wr).mono ?_;rintro e w1⟨rfl,rfl⟩;go_wp2_with fail
     refine Dv.o.mono ?_;rintro e w1⟨v4,H4,rfl,pG,aU,bV⟩;have bI:=hg.trans bV;have Du:=aa pG;obtain⟨A4,c4,rfl⟩:=pG.val;generalize(xT Z k P nm (eS (bA Z) es k)).length=n4 at*;have bg:Holds w1 (H0++(H1++(H4++Fr))):=aU.p;clear pG aU bV hg Dv u7 PE DS;go_wp2_with (at_builtin;refine al wG (by rfl) (.tmp 47) (.tmp 57) (by rfl) (by rfl) (by rfl) jm.o (bg.bP _) ag.one (by simp[Value.oneCell']) (by simp only[maxLen];omega) (by omega) ?_;intro A' c' w' H' ay bC eJ)
     refine⟨⟨k+1,H'++(H1++H4),aG,by go_num,?_,?_,(bI.alloc _).trans eJ⟩,by simp[intOf];omega⟩
     ·rw[HRG.o];exact MJ.o.2 _ _ [_] _ H4 rfl ⟨_,rfl,by rw[HPT.o];exact Du.o⟩ ay
     ·exact bC.p
    |some a=>
     go_wp2_with fail
     refine(HE.o wr).mono ?_;rintro e w1⟨rfl,rfl⟩;go_wp2_with fail
     refine(HE.o wr).mono ?_;rintro e w1⟨rfl,rfl⟩;go_wp2_with fail
     refine Dv.o.mono ?_;rintro e w1⟨v4,H4,rfl,pG,aU,bV⟩;have bI:=hg.trans bV;have Du:=aa pG;obtain⟨A4,c4,rfl⟩:=pG.val;generalize(xT Z k P nm (eS (bA Z) es k)).length=n4 at*;have bg:Holds w1 (H0++(H1++(H4++Fr))):=aU.p;clear pG aU bV hg Dv u7 PE DS;go_wp2_with (at_builtin;refine al wG (by rfl) (.tmp 47) (.tmp 57) (by rfl) (by rfl) (by rfl) jm.o (bg.bP _) ag.one (by simp[Value.oneCell']) (by simp only[maxLen];omega) (by omega) ?_;intro A' c' w' H' ay bC eJ)
     refine⟨⟨k+1,H'++(H1++H4),aG,by go_num,?_,?_,(bI.alloc _).trans eJ⟩,by simp[intOf];omega⟩
     ·rw[HRG.o];exact MJ.o.2 _ _ [_] _ H4 rfl ⟨_,rfl,by rw[HPT.o];exact Du.o⟩ ay
     ·exact bC.p
  ·have dQ:¬(k:Int)<P:=by omega
   obtain rfl:k=P:=by omega
   have HO:=aa ho;obtain⟨A3,c3,rfl,-,-⟩:=ho.val;rw[show((List.range k).map (cW Z nm es)).length=k by rw[bY,fP]]at HO;clear ho;go_wp2_with fail
   go_ret2
   exact⟨_,rfl,H,HO.o,hH,hg⟩
end Go.Proofs.YtalnifciidblkaaGreatDoor
