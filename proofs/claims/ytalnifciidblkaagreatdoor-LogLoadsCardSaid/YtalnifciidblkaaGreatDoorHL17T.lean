/-
  Lemmas.
-/
import Derived.Test.YtalnifciidblkaaGreatDoorHL17S
namespace Go.Proofs.YtalnifciidblkaaGreatDoor
open _root_.Go.Proofs.Tryz
open Go.RowKit
set_option linter.unusedSimpArgs false
set_option linter.unusedVariables false
set_option maxRecDepth 100000
set_option maxHeartbeats 8000000
theorem Za(ms:List Mi):bW (CM.new 16 4 128 [] ms)=(SM.fresh 16 4 128,CM.new 16 4 128 [] ms,0):=by kernel_rfl
theorem FJ(ms:List Mi):dR (bW (CM.new 16 4 128 [] ms)).1 (CM.new 16 4 128 [] ms)≠[]:=by
 rw[Za,show dR (SM.fresh 16 4 128) (CM.new 16 4 128 [] ms)=adI 16 by kernel_rfl];decide
theorem Kv{ms:List Mi}{N:Int}(h:∀m∈ms,N<m.at_):Calm (CM.new 16 4 128 [] ms) N:=⟨h,fun k x hx=>by
 obtain⟨_,h2⟩:=B6 (marks:=[]) (ms:=ms) hx;rw[h2];rfl⟩
section
variable{s:SM}{c:CM}{nm:List UInt8}{N:Int}
theorem zH(hn:yZ nm)(hC:aV s c)(hL:Live s c)(hK:Calm c N)(hN:c.ops+2<=N)(hg:s.B=16∧s.P=4∧s.Z=128)(hm:c.bZ=0)(h0:∀n:Nat,n<64->c.vN n=none)(he:dR s c≠[]):(aL nm s c).2.2.2=0:=by
 obtain⟨b1,b2,b3,b4,b5,b6⟩:=fO hn hC hL hg hm h0;obtain⟨m1,m2⟩:=mz (q:=1) (g:=1) (by omega) (by omega) (by omega) (by omega);have hd:(cW 128 nm [] 0).length=s.Z:=by rw[hg.2.2];exact lh (by omega) (by omega) hn [] _
 obtain⟨_,hw⟩:=Cg (d:=cW 128 nm [] 0) hC hL hK hN m1 m2 hd;rcases hw with⟨_,_,e2⟩|⟨k,p,x,x',g⟩
 ·exact absurd e2 he
 ·rw[Da (nm:=nm) (c:=c) b1 b2 hg.2.2 (by rw[g.code])]
end
def Ys(n k0 mb cb g cap:Nat)(mv:Value)(W:World)(Fr:HL)(gv iv:Value)(wr:World):Prop:=
 ∃(k b sb:Nat) (l:LM) (s:SM) (c:CM) (Ms:List (List az)) (Hm H Hs Hc:HL),k<=n∧iv=.int .i64 k∧gv=.pointer (some ⟨b,0,none⟩)∧gy aR (1+300*(k0+k)) l s c∧ek mb aR l.T Ms Hm∧(k=0∨l.T∈Ms∧Ms.length<=100)∧c.ops<=2400+4000000*(k0+k)∧aT b sb l H∧cr sb cb s Hs∧ai cb g cap mv c Hc∧Holds wr (Hm++(H++(Hs++(Hc++Fr))))∧af W wr
theorem Lg(many at_ bytes:Int)(fl:UInt8)(W:World):Calls Tryz.prog 8 #[.int .i64 many,.int .i64 at_,.int .i64 bytes,.int .u8 (fl.toNat:Int)] W (cM (.bool true) W (ao W)):=by
 have hH:=holds_all W;have k1:=oF;have k2:=nil_eq;have k3:=cS;have k4:=cC;have jD:=af.refl W;have AB:=aa (fun wx=>qY many 9 wx (by omega) (by omega));have PS:=aa (fun wx=>qY at_ 60 wx (by omega) (by omega));have SQ:=aa (fun wx=>qY bytes 157 wx (by omega) (by omega));obtain⟨a1,a2⟩:=uI many 9 (by omega) (by omega);obtain⟨a3,a4⟩:=uI at_ 60 (by omega) (by omega);obtain⟨a5,a6⟩:=uI bytes 157 (by omega) (by omega);generalize zR many 9=M at*;generalize zR at_ 60=A at*;generalize zR bytes 157=B at*;obtain⟨mn,rfl⟩:∃n:Nat,M=(n:Int):=⟨M.toNat,by omega⟩;go_enter func8,ntmps8;go_wp2_with fail
 refine(AB.o _).mono ?_;rintro e wx⟨rfl,rfl⟩;go_wp2_with fail
 refine(PS.o _).mono ?_;rintro e wx⟨rfl,rfl⟩;go_wp2_with fail
 refine(SQ.o _).mono ?_;rintro e wx⟨rfl,rfl⟩;have bM:=hH.alloc (.cells #[.int .i64 (64+A),.int .i64 2,.int .i64 B,.int .u8 (fl.toNat:Int)] 87);have cJ:=jD.alloc (.cells #[.int .i64 (64+A),.int .i64 2,.int .i64 B,.int .u8 (fl.toNat:Int)] 87);obtain⟨g0,aiP⟩:∃g0,g0=W.heap.size:=⟨_,rfl⟩;rw[<-aiP]at bM;have hFM:F9 ((g0,.cells #[.int .i64 (64+A),.int .i64 2,.int .i64 B,.int .u8 (fl.toNat:Int)] 87)::ao W) (.slice (some ⟨g0,0,none⟩) 1 1) [⟨64+A,2,B,fl⟩]:=fun wx hx=>
  ag.ft (n:=1) (c:=1) (o:=0) (g:=g0) (hx.get (b:=g0) (o:=(.cells #[.int .i64 (64+A),.int .i64 2,.int .i64 B,.int .u8 (fl.toNat:Int)] 87)) (by simp)) _ rfl (by omega) (by simp[maxLen]) (by intro j u hu;simpa[Mi.cells,bh]using hu)
 have AR:JK [⟨64+A,2,B,fl⟩]:=⟨by simp,fun m hm=>by rw[List.mem_singleton.1 hm];exact⟨by show(1:Int)<=64+A;omega,by show(64+A:Int)<=1073741824;omega,aE rfl,a5,by show B<=65536;omega⟩,by simp⟩;have Jd:∀m∈[(⟨64+A,2,B,fl⟩:Mi)],63<m.at_:=fun m hm=>by rw[List.mem_singleton.1 hm];show(63:Int)<64+A;omega
 clear hH AB PS SQ a5 a6 jD;generalize tM:(g0,Obj.cells #[.int .i64 (64+A),.int .i64 2,.int .i64 B,.int .u8 (fl.toNat:Int)] 87)::ao W=Fr at*;have Xf:=aa tM;have HN:=aa (yG 16 4 128 (.slice none 0 0) (.slice (some ⟨g0,0,none⟩) 1 1) [] _ _ _ bM (Cf _) hFM (fun wx F hx=>Pz _ _ wx _ (fun wy hy=>hFM wy hy.right) hx AR) (by omega) (by omega) (by omega) (by omega) (by omega) (by omega) AR.1 AR.2.1 (by simp));generalize[(⟨64+A,2,B,fl⟩:Mi)]=ms at*;clear tM bM hFM AR;go_wp2_with fail
 rw[<-aiP];refine HN.o.mono ?_;rintro e w2⟨dv,H0,rfl,⟨cb,g,cap,mv,rfl,jQ⟩,aB,aX⟩;have cY:=cJ.trans aX;obtain⟨qM,pK,rT,gF,ju,ir⟩:=pA ms;have qI:=aa (nT jQ aB (mA [] ms) rfl (by rw[ir];omega));have tS:bW (CM.new 16 4 128 [] ms)=((bW (CM.new 16 4 128 [] ms)).1,CM.new 16 4 128 [] ms,0):=mG qM;have jq:=fO (nm:=aR) eI pK rT gF ju (fun n _=>nB [] ms n);have yT:=zH (nm:=aR) (N:=63) eI pK rT (Kv Jd) (by rw[ir];omega) gF ju (fun n _=>nB [] ms n) (FJ ms);generalize(bW (CM.new 16 4 128 [] ms)).1=s0 at*;generalize CM.new 16 4 128 [] ms=c0 at*;rw[tS]at qI;have xJ:eT s0 (aC s0)=0∧dp s0 (aC s0)=0:=by
  rw[cL pK,jq.1];exact⟨rfl,rfl⟩
 have rI:=aa (aS yT jq);have mO:=aa (aS pK (aS rT (aS gF (aS ir xJ))));clear jQ aB aX HN qM tS jq pK rT gF ju ir xJ cJ yT Jd;go_wp2_with fail
 refine qI.o.mono ?_;rintro e w3 (⟨h0,sb,Hs,Hc,rfl,hs,cz,aD,bj⟩|⟨h0,_⟩);rotate_left
 ·exact absurd rfl h0
 dsimp only at hs cz;have cf:=cY.trans bj;have xB:=aa (show Calls Tryz.prog 12 #[.pointer (some ⟨sb,0,none⟩),.string {data:=#[115,104,101,108,102]}] w3 (zh sb cb g cap mv (aL aR s0 c0) w3 Fr)from
  iI aR eI hs cz aD mO.o.1 mO.o.2.1 (by rw[mO.o.2.2.1.1];omega) (by rw[mO.o.2.2.2.1];omega) (by rw[mO.o.2.2.2.2.1];omega) (by rw[mO.o.2.2.2.2.2];omega))
 have fZ:=rI.o.2.2.2.2.2;have jj:=rI.o.1;generalize aL aR s0 c0=r at*;have ir:=mO.o.2.2.2.1;have uz:gy aR 1 r.1 r.2.1 r.2.2.1∧r.1.T=[]∧r.2.2.1.ops<=2400:=by
  rcases fZ.2 with⟨_,a,b,_⟩|h|⟨h,_⟩
  ·exact⟨a,b,by have:=fZ.1;omega⟩
  ·exact absurd (show r.2.2.2=7 from h) (by rw[jj];decide)
  ·exact absurd (show r.2.2.2=4 from h) (by rw[jj];decide)
 have jH:=aa uz;have zI:=aa jj;clear hs cz aD bj h0 qI cY fZ jj ir uz;go_wp2_with fail
 refine xB.o.mono ?_;rintro e w5⟨jl,pZ,lu,fS,dJ,(⟨h0,b,H5,rfl,ki,bg⟩|⟨h0,ve,He,rfl,he,bg⟩)⟩;rotate_left
 ·exact absurd zI.o h0
 have eY:=cf.trans dJ;have pL:=aa ki;have xz:=aa lu;have tN:=aa fS;have bM:=bg.alloc (.cells #[.slice none 0 0] 70);have cJ:=eY.alloc (.cells #[.slice none 0 0] 70);clear ki lu fS bg dJ rI cf eY xB h0 mO zI;go_upto_region 10 with fail
 have dZ:=bM.alloc (tQ w5.heap.size aR);have iZ:=cJ.alloc (tQ w5.heap.size aR);rw[World.size_alloc]at dZ;rw[show Obj.cells ((Tryz.zeroCells74.setIfInBounds 0 (.pointer (some ⟨w5.heap.size,0,none⟩))).setIfInBounds 2 (.string {data:=#[115,104,101,108,102]})) 74=tQ w5.heap.size aR by rw[GU];rfl];generalize(w5.alloc (.cells #[.slice none 0 0] 70)).alloc (tQ w5.heap.size aR)=w6 at*;have bD:Ys mn 0 (w5.heap.size+1) cb g cap mv W Fr (.pointer (some ⟨b,0,none⟩)) (.int .i64 0) w6:=
  ⟨0,b,sb,r.1,r.2.1,r.2.2.1,[],_,H5,jl,pZ,by omega,rfl,rfl,jH.o.1,by rw[jH.o.2.1];exact GV (w:=w6) (F:=[]),aQ rfl,by have:=jH.o.2.2;omega,pL.o,xz.o,tN.o,
   (show Holds w6 (((w5.heap.size+1,tQ w5.heap.size aR)::((w5.heap.size,.cells #[.slice none 0 0] 70)::([]++[])))++(H5++(jl++(pZ++Fr))))from dZ),iZ⟩
 generalize w5.heap.size+1=mb at*;clear bM cJ dZ iZ jH pL xz tN;go_wp2_with fail
 go_loopw [12,15] (fun gv iv wr=>Ys mn 0 mb cb g cap mv W Fr gv iv wr) (fun _ i _=>mn-(intOf i).toNat)
 case atStart=>exact bD
 case round=>
  clear bD;obtain⟨k,b1,sb1,l1,s1,c1,Ms,Hm,H1,kE,jJ,hk,rfl,rfl,hS,hm,AR,im,iY,kU,jr,hH,hG⟩:=hrel;by_cases aG:k<mn
  ·have Dn:(k:Int)<(mn:Int):=by omega
   have TL:=aa (fun(a:Int) (ha:0<=a∧a<18446744073709551616)=>pE 0 (k:Int) a true hS (by omega) hm iY kU jr hH (by omega) ha);have HK:=aa (aS im (show(k:Int)<=9 by omega));clear hS hm AR iY kU jr hH im;go_wp2_with fail
   refine(TL.o _ (by omega)).mono ?_;rintro e w7⟨b',ID,l',s',c',rV,tY,H',ke,cO,rfl,S0,uy,iu,tT,_,Ut,vh,vo,eG,gK,nD⟩;have WX:=hG.trans nD;have LZ:=aa (aS S0 (aS uy (aS iu tT)));have TC:=aa vh;have WY:=aa vo;have HC':=aa eG;clear S0 uy vh vo eG nD hG TL iu tT;go_wp2_with fail
   go_roundw
   case rel=>exact⟨k+1,b',ID,l',s',c',rV,tY,H',ke,cO,by omega,by go_num,rfl,LZ.o.1.mono (by omega),LZ.o.2.1,aE LZ.o.2.2,by have:=HK.o.1;omega,TC.o,WY.o,HC'.o,gK,WX⟩
   case measure=>simp[intOf];omega
  ·have Dn:¬(k:Int)<(mn:Int):=by omega
   have kp:Ys 4 mn mb cb g cap mv W Fr (.pointer (some ⟨b1,0,none⟩)) (.int .i64 0) wr:=
    ⟨0,b1,sb1,l1,s1,c1,Ms,Hm,H1,kE,jJ,by omega,rfl,rfl,hS.mono (by omega),hm,aQ rfl,by omega,iY,kU,jr,hH,hG⟩
   clear hS hm AR iY kU jr hH im hG;go_wp2_with fail
   go_loopw [12,17] (fun gv iv wr=>Ys 4 mn mb cb g cap mv W Fr gv iv wr) (fun _ i _=>4-(intOf i).toNat)
   case atStart=>exact kp
   case round=>
    clear kp;obtain⟨q,b2,sb2,l2,s2,c2,Ms2,Hm2,H2,OK,oS,hq,rfl,rfl,hS,hm,AR,im,lP,tg,pO,hH,hG⟩:=hrel;by_cases xJ:q<4
    ·have hkq:(q:Int)<4:=by omega
     have TL:=aa (pE 3 0 0 false hS (by omega) hm lP tg pO hH (by omega) (by omega));have HK:=aa (aS im (show(q:Int)<=4 by omega));clear hS hm AR lP tg pO hH im;go_wp2_with fail
     refine TL.o.mono ?_;rintro e w7⟨b',ID,l',s',c',rV,tY,H',ke,cO,rfl,S0,uy,iu,tT,_,Ut,vh,vo,eG,gK,nD⟩;have WX:=hG.trans nD;have LZ:=aa (aS S0 (aS uy (aS iu tT)));have TC:=aa vh;have WY:=aa vo;have HC':=aa eG;clear S0 uy vh vo eG nD hG TL iu tT;go_wp2_with fail
     go_roundw
     case rel=>exact⟨q+1,b',ID,l',s',c',rV,tY,H',ke,cO,by omega,by go_num,rfl,LZ.o.1.mono (by omega),LZ.o.2.1,aE LZ.o.2.2,by have:=HK.o.1;omega,TC.o,WY.o,HC'.o,gK,WX⟩
     case measure=>simp[intOf];omega
    ·have hkq:¬(q:Int)<4:=by omega
     obtain⟨iu,tT⟩:l2.T∈Ms2∧Ms2.length<=100:=by
      rcases AR with h|h
      ·omega
      ·exact h
     have IC:ahead c2<25:=by have:=sK c2;have:=pO.o7.2.2.2.2.2.2.1;omega
     have AB:=aa (ni hS.toD pO (show Holds wr (oS++(Hm2++Fr))from hH.p) IC (by omega));have HM:=aa (aS hm (aS iu tT));clear hS hm AR iu tT lP tg pO hH im IC;go_wp2_with fail
     refine AB.o.mono ?_;rintro e w5⟨b5,XI,l5,s5,c5,H5,jl,pZ,rfl,S5,⟨⟨XJ,-⟩,-⟩,ou,Gs,ki,lu,fS,bg,dJ⟩;have eY:=hG.trans dJ;have D6:aR=l5.name:=S5.name.symm;have aiQ:=S5.kT;obtain⟨es5,aim,ain,q5,I5⟩:=S5.inv;have FZ:ek mb l5.name l2.T Ms2 Hm2:=by rw[<-D6];exact HM.o.1
     have xB:=aa (rE FZ ki (show Holds w5 (Hm2++(H5++(jl++(pZ++Fr))))from bg.p) (by rw[XJ];exact HM.o.2.1) I5.lA.inc (fun e he=>(I5.lA.1 e he).1.1) (by have:=I5.len;omega) (by have:=HM.o.2.2;omega));have tN:=aa fS;clear S5 I5 FZ ki lu fS bg dJ AB hG XJ ou HM Gs D6;go_wp2_with fail
     refine xB.o.mono ?_;rintro e w6⟨rfl,H6,OD,bC,eJ⟩;have jn:=eY.trans eJ;have fy:Holds w6 (pZ++(H6++(H5++(jl++Fr)))):=bC.p;have Lm:=nh tN.o fy;rw[aiQ]at Lm;have xE:=aa Lm;have Bj:=aa (eN w6 Fr (show Holds w6 Fr from fy.right.right.right.right));clear OD bC eJ xB Lm eY fy aiQ;go_wp2_with fail
     refine xE.o.mono ?_;rintro e wx⟨rfl,rfl⟩;go_wp2_with fail
     refine Bj.o.mono ?_;rintro e wa⟨rfl,fU,vC⟩;rw[<-Xf.o]at fU;have FT:=jn.trans vC;clear Bj vC jn xE;go_wp2_with fail
     go_ret;exact⟨rfl,fU.tail,FT⟩
theorem Ii(many at_ bytes fb:Int)(W:World)(hf:(Lit.int .u8 fb).wf=true):Calls Tryz.prog 8 #[.int .i64 many,.int .i64 at_,.int .i64 bytes,.int .u8 fb] W (cM (.bool true) W (ao W)):=by
 have h:0<=fb∧fb<=255:=by
  simp[Lit.wf,IntKind.min,IntKind.max,IntKind.signed,IntKind.bits]at hf;omega
 have e:((UInt8.ofNat fb.toNat).toNat:Int)=fb:=by rw[UInt8.toNat_ofNat_of_lt' (by show fb.toNat<256;omega)];omega
 rw[<-e];exact Lg many at_ bytes _ W
end Go.Proofs.YtalnifciidblkaaGreatDoor
