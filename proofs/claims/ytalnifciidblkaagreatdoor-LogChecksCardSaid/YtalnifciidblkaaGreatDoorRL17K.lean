/-
  Lemmas.
-/
import Derived.Test.YtalnifciidblkaaGreatDoorRMl12
namespace Go.Proofs.YtalnifciidblkaaGreatDoor
open _root_.Go.Proofs.Tryz
open Go.RowKit
set_option linter.unusedSimpArgs false
set_option linter.unusedVariables false
set_option maxRecDepth 100000
set_option maxHeartbeats 8000000
theorem FH:(aL aR (bW (CM.new 16 4 128 [] [])).1 (CM.new 16 4 128 [] [])).2.2.2=0∧xK [] 1 (aL aR (bW (CM.new 16 4 128 [] [])).1 (CM.new 16 4 128 [] [])).1 (aL aR (bW (CM.new 16 4 128 [] [])).1 (CM.new 16 4 128 [] [])).2.1 (aL aR (bW (CM.new 16 4 128 [] [])).1 (CM.new 16 4 128 [] [])).2.2.1∧63<=bE (aL aR (bW (CM.new 16 4 128 [] [])).1 (CM.new 16 4 128 [] [])).2.1 (aL aR (bW (CM.new 16 4 128 [] [])).1 (CM.new 16 4 128 [] [])).2.2.1∧(aL aR (bW (CM.new 16 4 128 [] [])).1 (CM.new 16 4 128 [] [])).2.2.1.ops<=2400∧(aL aR (bW (CM.new 16 4 128 [] [])).1 (CM.new 16 4 128 [] [])).1.gen=1:=by
 obtain⟨_,pK,rT,gF,ju,ir⟩:=pA [];have hr:bE (bW (CM.new 16 4 128 [] [])).1 (CM.new 16 4 128 [] [])=64:=by have:=AQ;rw[Px];exact this
 obtain⟨f1,f2,f3,f4,f5,f6,f7,f8,f9,f10,f11⟩:=Cu (nm:=aR) eI pK rT yQ gF ju (fun n _=>nB [] [] n) (by rw[hr];omega);rw[hr]at f8;rw[ir]at f11;generalize aL aR (bW (CM.new 16 4 128 [] [])).1 (CM.new 16 4 128 [] [])=r at*;exact⟨f1,⟨f2,f3,f4,[],f10,rfl⟩,by rw[f8];omega,by omega,f6⟩
section
variable{nm:List UInt8}{N:Int}{l:LM}{s:SM}{c:CM}{b sb cb g cap:Nat}{mv:Value}{H Hs Hc Fr:HL}{w:World}
theorem gy.oL(S:gy nm N l s c)(hN:N<=100000)(v:Value)(ns:List Nt)(h:aT b sb l H)(hs:cr sb cb s Hs)(cz:ai cb g cap mv c Hc)(hH:Holds w (H++(Hs++(Hc++Fr))))(fI:c.ops<=900000000000)
  (hv:cU Fr v ns)(iu:∀n∈ns,n.vg)(hlen:ns.length<=1000):Calls Tryz.prog 13 #[.pointer (some ⟨b,0,none⟩),v] w (JF b sb cb g cap mv (aA l s c ns) w Fr):=by
 obtain⟨es,bK,nps,q0,I⟩:=S.inv;have h1:=S.last;have h2:=S.aj;have h3:=I.kX.g0;have h4:=I.kX.gt;have h5:=I.kX.l0;have h6:=I.len;have h7:=S.ad;exact jO v ns h hs cz hH I.sin.cont I.live (by rw[S.ja.1];omega) fI hv iu hlen (fun e he=>(I.lA.1 e he).2.1) (by omega) I.lA.inc ⟨h5,by omega⟩ ⟨h3,by omega⟩ (by omega)
theorem gy.PA(S:gy nm N l s c)(hN:N<=100000)(h:aT b sb l H)(hs:cr sb cb s Hs)(cz:ai cb g cap mv c Hc)(hH:Holds w (H++(Hs++(Hc++Fr))))(fI:c.ops<=900000000000):
  Calls Tryz.prog 20 #[.pointer (some ⟨b,0,none⟩)] w (JF b sb cb g cap mv (aH l s c) w Fr):=by
 obtain⟨es,bK,nps,q0,I⟩:=S.inv;have h1:=S.last;have h2:=S.aj;have h3:=I.kX.g0;have h4:=I.kX.gt;have h5:=I.kX.l0;have h6:=I.len;have h7:=S.ad;exact sV h hs cz hH I.sin.cont I.live (by rw[S.ja.1];omega) fI I.kX.low I.lA (by omega) ⟨h5,by omega⟩ ⟨by omega,by omega⟩ (by omega)
end
def CkA(n b sb cb g cap:Nat)(mv:Value)(W:World)(wv iv:Value)(wr:World):Prop:=
 ∃(k:Nat) (l:LM) (s:SM) (c:CM) (E:List az) (H Hs Hc Hw:HL),k<=n∧iv=.int .i64 k∧E.length=k∧(∀e∈E,e.addr<k)∧xK E (1+2*k) l s c∧63-2*(k:Int)<=bE s c∧c.ops<=2400+4800*k∧
  aT b sb l H∧cr sb cb s Hs∧ai cb g cap mv c Hc∧aP wv E Hw∧Holds wr (H++(Hs++(Hc++(Hw++ao W))))∧af W wr
def CkB(n b sb cb g cap:Nat)(mv:Value)(E:List az)(F:HL)(W:World)(gv iv:Value)(wr:World):Prop:=
 ∃(k:Nat) (l:LM) (s:SM) (c:CM) (H Hs Hc:HL),k<=n∧iv=.int .i64 k∧gv=.int .i64 l.gen∧xK E (100+40*k) l s c∧10<=bE s c∧c.ops<=100000+110000*k∧
  aT b sb l H∧cr sb cb s Hs∧ai cb g cap mv c Hc∧Holds wr (H++(Hs++(Hc++F)))∧af W wr
def CkC(n b sb cb g cap:Nat)(mv:Value)(E:List az)(F:HL)(W:World)(G M O:Int)(iv:Value)(wr:World):Prop:=
 ∃(k:Nat) (l:LM) (s:SM) (c:CM) (H Hs Hc:HL),k<=n∧iv=.int .i64 k∧l.gen=G∧xK E (M+k) l s c∧10-(k:Int)<=bE s c∧c.ops<=O+2400*k∧
  aT b sb l H∧cr sb cb s Hs∧ai cb g cap mv c Hc∧Holds wr (H++(Hs++(Hc++F)))∧af W wr
theorem Em(many GD notes:Int)(W:World):Calls Tryz.prog 7 #[.int .i64 many,.int .i64 GD,.int .i64 notes] W (cM (.bool true) W (ao W)):=by
 have hH:=holds_all W;have k1:=oF;have k2:=nil_eq;have k3:=cS;have k4:=cC;have jD:=af.refl W;have AB:=aa (fun wx=>qY many 9 wx (by omega) (by omega));have PS:=aa (fun wx=>qY GD 31 wx (by omega) (by omega));have SQ:=aa (fun wx=>qY notes 3 wx (by omega) (by omega));obtain⟨a1,a2⟩:=uI many 9 (by omega) (by omega);obtain⟨a3,a4⟩:=uI GD 31 (by omega) (by omega);obtain⟨a5,a6⟩:=uI notes 3 (by omega) (by omega);generalize zR many 9=M at*;generalize zR GD 31=A at*;generalize zR notes 3=B at*;obtain⟨mn,rfl⟩:∃n:Nat,M=(n:Int):=⟨M.toNat,by omega⟩;obtain⟨cn,rfl⟩:∃n:Nat,A=(n:Int):=⟨A.toNat,by omega⟩;obtain⟨nn,rfl⟩:∃n:Nat,B=(n:Int):=⟨B.toNat,by omega⟩;go_enter func7,ntmps7;go_wp2_with fail
 refine(AB.o _).mono ?_;rintro e wx⟨rfl,rfl⟩;go_wp2_with fail
 refine(PS.o _).mono ?_;rintro e wx⟨rfl,rfl⟩;go_wp2_with fail
 refine(SQ.o _).mono ?_;rintro e wx⟨rfl,rfl⟩;have HN:=aa (oN _ _ hH);clear hH;go_wp2_with fail
 refine HN.o.mono ?_;rintro e w2⟨dv,H0,rfl,⟨cb,g,cap,mv,rfl,jQ⟩,aB,aX⟩;have jQ:ai cb g cap mv (CM.new 16 4 128 [] []) H0:=jQ;have cY:=jD.trans aX;obtain⟨qM,pK,rT,gF,ju,ir⟩:=pA [];have qI:=aa (nT jQ aB (mA [] []) rfl (by rw[ir];omega));have tS:bW (CM.new 16 4 128 [] [])=((bW (CM.new 16 4 128 [] [])).1,CM.new 16 4 128 [] [],0):=mG qM;have jq:=fO (nm:=aR) eI pK rT gF ju (fun n _=>nB [] [] n);have TI:=FH;have yT:=TI.1;generalize(bW (CM.new 16 4 128 [] [])).1=s0 at*;generalize CM.new 16 4 128 [] []=c0 at*;rw[tS]at qI;have xJ:eT s0 (aC s0)=0∧dp s0 (aC s0)=0:=by
  rw[cL pK,jq.1];exact⟨rfl,rfl⟩
 have rI:=aa (aS yT jq);have HQF:=aa TI.2;have mO:=aa (aS pK (aS rT (aS gF (aS ir xJ))));clear jQ aB aX HN qM tS jq pK rT gF ju ir xJ yT TI jD;go_wp2_with fail
 refine qI.o.mono ?_;rintro e w3 (⟨h0,sb,Hs,Hc,rfl,hs,cz,aD,bj⟩|⟨h0,_⟩);rotate_left
 ·exact absurd rfl h0
 dsimp only at hs cz;have cf:=cY.trans bj;have xB:=aa (show Calls Tryz.prog 12 #[.pointer (some ⟨sb,0,none⟩),.string {data:=#[115,104,101,108,102]}] w3 (zh sb cb g cap mv (aL aR s0 c0) w3 (ao W))from
  iI aR eI hs cz aD mO.o.1 mO.o.2.1 (by rw[mO.o.2.2.1.1];omega) (by rw[mO.o.2.2.2.1];omega) (by rw[mO.o.2.2.2.2.1];omega) (by rw[mO.o.2.2.2.2.2];omega))
 have fZ:=rI.o.2.2.2.2.2;have jj:=rI.o.1;generalize aL aR s0 c0=r at*;have ir:=mO.o.2.2.2.1;have uz:xK [] 1 r.1 r.2.1 r.2.2.1∧63<=bE r.2.1 r.2.2.1∧r.2.2.1.ops<=2400∧r.1.gen=1:=HQF.o;have jH:=aa uz;have zI:=aa jj;clear hs cz aD bj h0 qI cY fZ jj ir uz;go_wp2_with fail
 refine xB.o.mono ?_;rintro e w5⟨jl,pZ,lu,fS,dJ,(⟨h0,b,H5,rfl,ki,bg⟩|⟨h0,ve,He,rfl,he,bg⟩)⟩;rotate_left
 ·exact absurd zI.o h0
 have eY:=cf.trans dJ;have pL:=aa ki;have xz:=aa lu;have tN:=aa fS;have bD:CkA mn b sb cb g cap mv W (.slice none 0 0) (.int .i64 0) w5:=
  ⟨0,r.1,r.2.1,r.2.2.1,[],H5,jl,pZ,[],by omega,rfl,rfl,fun e he=>absurd he (by simp),jH.o.1,by have:=jH.o.2.1;omega,by have:=jH.o.2.2.1;omega,pL.o,xz.o,tN.o,aP.nil,by simpa using bg,eY⟩
 clear xB h0 mO zI ki lu fS dJ cf bg eY pL xz tN jH AB PS SQ;go_wp2_with fail
 go_loopw [12,13] (fun wv iv wr=>CkA mn b sb cb g cap mv W wv iv wr) (fun _ i _=>mn-(intOf i).toNat)
 case atStart=>exact bD
 case round=>
  clear bD;obtain⟨k,l1,s1,c1,E,H1,kE,jJ,Hw,hk,rfl,hEl,hEa,hQ,hr,im,iY,kU,jr,hw,hH,hG⟩:=hrel;by_cases aG:k<mn
  ·have Xl:=aa hEl;clear hEl;have Dn:(k:Int)<(mn:Int):=by omega
   have hk9:(k:Int)<9:=by omega
   have OJ:=aa (dg iY hH hQ.S.BU (by have:=hQ.S.last;omega));have HW:=aa hw;have HR:=aa (aS hr im);have HQ:=aa hQ;have HEA:=aa hEa;have xv:=hQ.S.yk;have sn:=hQ.S.ja;have ko:=aa fun(dv:Value) (wx:World) (F:HL) (hx:Holds wx (kE++(jJ++F))) (Dx:bN (kE++(jJ++F)) dv (br (k:Int) 128))=>show Calls Tryz.prog 25 #[.pointer (some ⟨sb,0,none⟩),.agg #[.int .i64 1,.int .u64 (k:Int),.int .i64 (l1.last+1),.int .i64 0],dv] wx (vU sb cb g cap mv (bn s1 c1 ⟨1,k,l1.last+1,0⟩ (br (k:Int) 128)) wx F)from
    py ⟨1,k,l1.last+1,0⟩ (br (k:Int) 128) dv kU jr hx xv.2 (by rw[sn.1];omega) (by omega) xv.1.B xv.1.Z Dx ⟨by show(0:Int)<=(k:Int);omega,by show(k:Int)<18446744073709551616;omega⟩
   have Ji:Zh (∀(w:World) (F:HL) (h:Holds w F),Calls Tryz.prog 26 #[.int .i64 (k:Int),.int .i64 128] w (cB (fun v H=>ar v (br (k:Int) 128) H) w F)):=aa (fun w F h=>qo k 128 w F h (by decide));have tU:(br (k:Int) 128).length=128:=by simp[br]
   generalize br (k:Int) 128=D at*;have Aq:=aa (fun(b:Bool)=>hQ.put (by omega) (a:=(k:Int)) (d:=D) (by omega) tU (by omega) (b:=b) (sq:=1+(k:Int)) (by omega) hEa);clear hH hQ hr im hEa xv sn iY kU jr hw tU;go_wp2_with fail
   refine OJ.o.mono ?_;rintro e w7⟨rfl,H7,vB,cA,jk⟩;have fx:=hG.trans jk;have LY:=aa vB;clear vB jk hG OJ;go_wp2_with fail
   refine(Ji.o w7 _ cA).mono ?_;rintro e w8⟨v8,H8,rfl,sg,cT,ka⟩;have iT:=fx.trans ka;have Er:=aa sg;have BF:Holds w8 (kE++(jJ++(H8++(H7++(Hw++ao W))))):=cT.p;clear cA cT ka fx sg Ji;go_wp2_with fail
   refine(ko.o v8 w8 _ BF (fun wx hx=>Er.o.at_ (Fr:=kE++(jJ++(H7++(Hw++ao W)))) hx.p)).mono ?_;rintro e w9⟨ve,He,L0,L1,rfl,p5,AZ,BG,di,jG⟩;have IK:=Aq.o true;rw[IK.1]at p5;obtain⟨rfl,rfl⟩:=de p5;have iU:=iT.trans jG;have HS9:=aa AZ;have Dq:=aa BG;clear p5 AZ BG jG iT BF IK;go_upto_region 15 with fail
   generalize((k:Int)%2==0)=bo at*;obtain⟨-,p,hp,Jw,SN,Mw,TJ,TK,u9,BH⟩:=Aq.o bo;rw[hp];generalize bn s1 c1 ⟨1,(k:Int),l1.last+1,0⟩ D=r9 at*;have ew:=di.alloc (.cells #[.int .u64 (k:Int),.int .i64 (p:Int),.bool bo,.int .i64 (1+(k:Int))] 24);have qQ:=iU.alloc (.cells #[.int .u64 (k:Int),.int .i64 (p:Int),.bool bo,.int .i64 (1+(k:Int))] 24);generalize w9.alloc (.cells #[.int .u64 (k:Int),.int .i64 (p:Int),.bool bo,.int .i64 (1+(k:Int))] 24)=wa at*;generalize w9.heap.size=gx at*;have ac5:Holds wa ((gx,(.cells #[.int .u64 (k:Int),.int .i64 (p:Int),.bool bo,.int .i64 (1+(k:Int))] 24))::(H7++(L0++(L1++(Hw++ao W))))):=ew.p;have hxc:=ac5.hJ;obtain⟨x0,x1,x2,x3,-⟩:=hxc;have ur:=ac5.alloc (.cells #[.bool false,.int .u64 (k:Int),.int .i64 (p:Int),.bool bo,.int .i64 (1+(k:Int))] 26);have AW:=qQ.alloc (.cells #[.bool false,.int .u64 (k:Int),.int .i64 (p:Int),.bool bo,.int .i64 (1+(k:Int))] 26);obtain⟨gn,y7⟩:∃x,x=wa.heap.size:=⟨_,rfl⟩;rw[<-y7]at ur;have pF:=aa (SN.oL (by omega) (.slice (some ⟨gn,0,none⟩) 1 1) [⟨false,⟨(k:Int),p,bo,1+(k:Int)⟩⟩] LY.o HS9.o Dq.o (show Holds _ (H7++(L0++(L1++((gn,(.cells #[.bool false,.int .u64 (k:Int),.int .i64 (p:Int),.bool bo,.int .i64 (1+(k:Int))] 26))::((gx,(.cells #[.int .u64 (k:Int),.int .i64 (p:Int),.bool bo,.int .i64 (1+(k:Int))] 24))::(Hw++ao W))))))from ur.p) (by have:=HR.o.2;omega)
    (iB gn ⟨false,⟨(k:Int),p,bo,1+(k:Int)⟩⟩ ((gx,(.cells #[.int .u64 (k:Int),.int .i64 (p:Int),.bool bo,.int .i64 (1+(k:Int))] 24))::(Hw++ao W))) (fun n hn=>by
     rw[List.mem_singleton.1 hn];exact⟨by show(0:Int)<=(k:Int)∧(k:Int)<18446744073709551616;omega,by show(-9223372036854775808:Int)<=(p:Int)∧(p:Int)<=9223372036854775807;omega,by show(-9223372036854775808:Int)<=1+(k:Int)∧1+(k:Int)<=9223372036854775807;omega⟩) (by simp))
   have F6:=aa (aS TJ (aS TK (aS u9 BH)));generalize aA {l1 with last:=l1.last+1} r9.1 r9.2.1 [⟨false,⟨(k:Int),p,bo,1+(k:Int)⟩⟩]=xL at*;clear TJ TK u9 BH SN Mw Aq ur ew ac5 qQ di iU ko hp;go_wp2_with fail
   rw[<-y7];refine pF.o.mono ?_;rintro e lQ⟨Mx,iD,iC,lD,kL,rfl,kq,jX,mq,iz,dU,gj⟩;rw[F6.o.1]at kq;obtain⟨rfl,rfl⟩:=de kq;have ia:=AW.trans gj;have oZ:=aa jX;have vK:=aa mq;have xY:=aa iz;have oe:Holds lQ (Hw++((gx,(.cells #[.int .u64 (k:Int),.int .i64 (p:Int),.bool bo,.int .i64 (1+(k:Int))] 24))::(iC++(lD++(kL++ao W))))):=dU.p;have hxc:=oe.right.hJ;clear x0 x1 x2 x3 jX mq iz kq dU gj AW pF;obtain⟨x0,x1,x2,x3,-⟩:=hxc;have oR:E.length+1<=maxLen:=by rw[Xl.o];simp[maxLen];omega
   have Ju:(E.length+1)*32<=140737488355328:=by rw[Xl.o];omega
   obtain⟨Aw,cw,rfl⟩:=HW.o.val;go_wp2_with (at_builtin;refine al ix (by rfl) (.tmp 87) (.tmp 89) (by rfl) (by rfl) (by rfl) HW.o (oe.bP _) (ag.many (w:=lQ) (n:=1) (size:=4) (cs:=#[.int .u64 (k:Int),.int .i64 (p:Int),.bool bo,.int .i64 (1+(k:Int))]) (by rfl) (by simp[maxLen])) (by simp[Value.oneCell']) oR Ju ?_;intro A6 c6 w6 H6 gE bC eJ)
   go_roundw
   case rel=>exact⟨k+1,xL.1,xL.2.1,xL.2.2.1,E++[⟨(k:Int),p,bo,1+(k:Int)⟩],iC,lD,kL,H6,by omega,by go_num,by rw[aY,Xl.o];rfl,fun e he=>by
     rcases List.mem_append.1 he with he|he
     ·have:=HEA.o e he;omega
     ·rw[List.mem_singleton.1 he];show(k:Int)<((k+1:Nat):Int);omega,F6.o.2.1.mono (by omega),by have:=F6.o.2.2.1;have:=HR.o.1;omega,by have:=F6.o.2.2.2;have:=HR.o.2;omega,oZ.o,vK.o,xY.o,by unfold aP;rw[eM];simpa[cQ,az.cells]using gE,bC.p,(ia.alloc _).trans eJ⟩
   case measure=>simp[intOf];omega
  ·have Dn:¬(k:Int)<(mn:Int):=by omega
   have hkm:k=mn:=by omega
   have HEA:Zh (E.length=mn∧∀e∈E,e.addr<100):=aa ⟨by omega,fun e he=>by have:=hEa e he;omega⟩;have HW:=aa hw;have AX:=aa (lj iY (Fr:=kE++(jJ++(Hw++ao W))) hH);have kp:CkB cn b sb cb g cap mv E (Hw++ao W) W (.int .i64 l1.gen) (.int .i64 0) wr:=
    ⟨0,l1,s1,c1,H1,kE,jJ,by omega,rfl,rfl,hQ.mono (by omega),by omega,by omega,iY,kU,jr,hH,hG⟩
   clear hQ hr im iY kU jr hw hH hG hEl hEa hkm;go_wp2_with fail
   refine AX.o.mono ?_;rintro e wx⟨rfl,rfl⟩;clear AX;go_wp2_with fail
   go_loopw [17,18] (fun gv iv wr=>CkB cn b sb cb g cap mv E (Hw++ao W) W gv iv wr) (fun _ i _=>cn-(intOf i).toNat)
   case atStart=>exact kp
   case round=>
    clear kp;obtain⟨q,l2,s2,c2,H2,OK,oS,hq,rfl,rfl,Xb,Tu,Yk,lP,tg,pO,aB,cY⟩:=hrel;by_cases xJ:q<cn
    ·have XG:(q:Int)<(cn:Int):=by omega
     have avj:(q:Int)<31:=by omega
     have BB:CkC nn b sb cb g cap mv E (Hw++ao W) W l2.gen (100+40*q) (100000+110000*q) (.int .i64 0) wr:=
      ⟨0,l2,s2,c2,H2,OK,oS,by omega,rfl,rfl,Xb.mono (by omega),by omega,by omega,lP,tg,pO,aB,cY⟩
     generalize l2.gen=G at*;clear Xb Tu Yk lP tg pO aB cY;go_wp2_with fail
     go_loopw [19] (fun iv wr=>CkC nn b sb cb g cap mv E (Hw++ao W) W G (100+40*q) (100000+110000*q) iv wr) (fun i _=>nn-(intOf i).toNat)
     case atStart=>exact BB
     case round=>
      clear BB;obtain⟨j,l3,s3,c3,H3,xG,rS,hj,rfl,WC,Sr,Oc,zY,p7,nE,uC,aD,cf⟩:=hrel;by_cases ZH:j<nn
      ·have I6:(j:Int)<(nn:Int):=by omega
       have hj3:(j:Int)<3:=by omega
       have ur:=aD.alloc (.cells #[.bool true,.int .u64 1099511627776,.int .i64 0,.bool false,.int .i64 9] 26);have AW:=cf.alloc (.cells #[.bool true,.int .u64 1099511627776,.int .i64 0,.bool false,.int .i64 9] 26);obtain⟨gn,y7⟩:∃x,x=wr.heap.size:=⟨_,rfl⟩;rw[<-y7]at ur;have pF:=aa (Sr.S.oL (by omega) (.slice (some ⟨gn,0,none⟩) 1 1) [qm] p7 nE uC (show Holds _ (H3++(xG++(rS++((gn,(.cells #[.bool true,.int .u64 1099511627776,.int .i64 0,.bool false,.int .i64 9] 26))::(Hw++ao W)))))from ur.p) (by omega)
        (iB gn qm (Hw++ao W)) (fun n hn=>by
         rw[List.mem_singleton.1 hn];exact⟨by show(0:Int)<=1099511627776∧(1099511627776:Int)<18446744073709551616;omega,by show(-9223372036854775808:Int)<=0∧(0:Int)<=9223372036854775807;omega,by show(-9223372036854775808:Int)<=9∧(9:Int)<=9223372036854775807;omega⟩) (by simp))
       have HGO:=aa (Sr.gone (by omega) HEA.o.2 (by omega));have HRR:=aa (aS Oc (aS zY WC));generalize aA l3 s3 c3 [qm]=xL at*;clear Sr Oc zY p7 nE uC aD cf ur WC;go_wp2_with fail
       rw[<-y7];refine pF.o.mono ?_;rintro e lQ⟨Mx,iD,iC,lD,kL,rfl,kq,jX,mq,iz,dU,gj⟩;rw[HGO.o.1]at kq;obtain⟨rfl,rfl⟩:=de kq;have ia:=AW.trans gj;have oZ:=aa jX;have vK:=aa mq;have xY:=aa iz;have oe:Holds lQ (iC++(lD++(kL++(Hw++ao W)))):=dU.p;clear jX mq iz kq dU gj AW pF;go_wp2_with fail
       go_roundw
       case rel=>exact⟨j+1,xL.1,xL.2.1,xL.2.2.1,iC,lD,kL,by omega,by go_num,HGO.o.2.2.1.trans HRR.o.2.2,HGO.o.2.1.mono (by omega),by have:=HGO.o.2.2.2.1;have:=HRR.o.1;omega,by have:=HGO.o.2.2.2.2;have:=HRR.o.2.1;omega,oZ.o,vK.o,xY.o,oe,ia⟩
       case measure=>simp[intOf];omega
      ·have I6:¬(j:Int)<(nn:Int):=by omega
       have FQ:=aa (Sr.S.PA (by omega) p7 nE uC aD (by omega));have ZZ:=aa (Sr.check (by omega) (by rw[HEA.o.1];omega) (by omega));have HRR:=aa (aS zY (aS WC (show(j:Int)<=2 by omega)));generalize aH l3 s3 c3=xL at*;clear Sr Oc p7 nE uC aD zY WC;go_upto_region 27 with fail
       go_cut [136]from 109 to 135 (fun bv wx=>bv=.bool false∧∃H Hs Hc,aT b sb xL.1 H∧cr sb cb xL.2.1 Hs∧ai cb g cap mv xL.2.2.1 Hc∧Holds wx (H++(Hs++(Hc++(Hw++ao W))))∧af W wx)
       case first=>
        go_wp2_with fail
        refine FQ.o.mono ?_;rintro e lQ⟨Mx,iD,iC,lD,kL,rfl,kq,jX,mq,iz,dU,gj⟩;rw[ZZ.o.1]at kq;obtain⟨rfl,rfl⟩:=de kq;have ia:=cf.trans gj;have oZ:=aa jX;have vK:=aa mq;have xY:=aa iz;have oe:Holds lQ (iC++(lD++(kL++(Hw++ao W)))):=dU.p;have AX:=aa (lj jX (Fr:=lD++(kL++(Hw++ao W))) oe);have qF:=aa (lp jX (Fr:=lD++(kL++(Hw++ao W))) oe);have AA:=aa (jz mq (Fr:=iC++(kL++(Hw++ao W))) (w:=lQ) oe.p ZZ.o.2.1.S.yk.2);have PN:=ZZ.o.2.1.count;have ik:=ZZ.o.2.2.2.1;have bj:=ZZ.o.2.2.1;rw[HRR.o.2.1]at bj;have y7:¬xL.1.gen<=G:=by omega
        rw[HEA.o.1]at PN ik;have qF:Zh (Calls Tryz.prog 34 #[.pointer (some ⟨b,0,none⟩)] lQ (fun e w'=>e=.returned (.int .i64 (((max mn 1+4)/5:Nat):Int))∧lQ=w')):=aa (by rw[<-ik];exact qF.o);clear jX mq iz kq dU gj FQ cf bj;go_wp2_with fail
        refine AX.o.mono ?_;rintro e wx⟨rfl,rfl⟩;go_wp2_with fail
        refine qF.o.mono ?_;rintro e wx⟨rfl,rfl⟩;go_wp2_with fail
        refine AA.o.mono ?_;rintro e Lo⟨vn,Hn,rfl,hn,nQ,BI⟩;obtain⟨An,cn',rfl⟩:=hn.val;rw[PN,ik];have xW:=ia.trans BI;have xH:Holds Lo (iC++(lD++(kL++(Hw++ao W)))):=nQ.p;have P8:=aa (lp oZ.o (Fr:=lD++(kL++(Hw++ao W))) xH);have P8:Zh (Calls Tryz.prog 34 #[.pointer (some ⟨b,0,none⟩)] Lo (fun e w'=>e=.returned (.int .i64 (((max mn 1+4)/5:Nat):Int))∧Lo=w')):=aa (by rw[<-ik];exact P8.o);clear hn nQ BI ia AA oe qF;go_wp2_with fail
        refine P8.o.mono ?_;rintro e wx⟨rfl,rfl⟩;go_wp2_with fail
        go_meet
        exact⟨congrArg Value.bool (decide_eq_false (Int.not_le.2 (by omega))),iC,lD,kL,oZ.o,vK.o,xY.o,xH,xW⟩
       case rest=>
        obtain⟨rfl,iC,lD,kL,jX,mq,iz,dU,ia⟩:=hcut;have AX:=aa (lj jX (Fr:=lD++(kL++(Hw++ao W))) dU);have oZ:=aa jX;have vK:=aa mq;have xY:=aa iz;clear jX mq iz FQ cf;go_wp2_with fail
        refine AX.o.mono ?_;rintro e wx⟨rfl,rfl⟩;go_wp2_with fail
        go_roundw
        case rel=>exact⟨q+1,xL.1,xL.2.1,xL.2.2.1,iC,lD,kL,by omega,by go_num,rfl,ZZ.o.2.1.mono (by have:=HRR.o.2.2;omega),by have:=ZZ.o.2.2.2.2.1;omega,by have:=ZZ.o.2.2.2.2.2;have:=HRR.o;omega,oZ.o,vK.o,xY.o,dU,ia⟩
        case measure=>simp[intOf];omega
    ·have XG:¬(q:Int)<(cn:Int):=by omega
     have IC:ahead c2<25:=by have:=sK c2;have:=pO.o7.2.2.2.2.2.2.1;omega
     have AB:=aa (ni Xb.S.toD pO (show Holds wr (oS++(Hw++ao W))from aB.p) IC (by omega));have WJ:=aa Xb.T;clear Xb Tu Yk lP tg pO aB IC;go_wp2_with fail
     refine AB.o.mono ?_;rintro e w5'⟨b5,XI,l5,s5,c5,H5',Ux,ac6,rfl,S5,⟨⟨TH,-,Uy⟩,-⟩,-,-,ki,lu,fS,bg,dJ⟩;have eY:=cY.trans dJ;have Lm:=nh fS (Fr:=H5'++(Ux++(Hw++ao W))) (w:=w5') bg.p;have pL:=aa ki;have F3:=aa (cD ki bg);have aiy:=aa (aS TH Uy);have aoK:=aa fS;have HM5:=aa S5.kT;clear S5 TH Uy ki lu fS bg dJ cY AB Lm;go_wp2_with fail
     refine F3.o.mono ?_;rintro e w6⟨v6,ti,rfl,zO,bC,eJ⟩;have jn:=eY.trans eJ;have pH:=aa (mH v6 _ E w6 (by have h:=zO.at_ bC;rw[aiy.o.1,WJ.o]at h;exact h) (HW.o.at_ (Fr:=ti++(H5'++(Ux++(ac6++ao W)))) bC.p));have HH6:=aa (show Holds w6 (ac6++(H5'++(Ux++ao W)))from bC.p);clear zO bC eJ eY F3;go_wp2_with fail
     refine pH.o.mono ?_;rintro e w7⟨rfl,q7,rfl⟩;have cA:=HH6.o.drewN q7;have fx:=jn.drewN q7;generalize w6.drewN q7=w7 at*;have AX:=aa (show Calls Tryz.prog 33 #[.pointer (some ⟨b5,0,none⟩)] w7 (fun e w'=>e=.returned (.int .i64 l2.gen)∧w7=w') by
      have h:=lj pL.o (w:=w7) (Fr:=ac6++(Ux++ao W)) cA.p;rwa[aiy.o.2]at h)
     have xE:=aa (show Calls Tryz.prog 28 #[.pointer (some ⟨cb,0,none⟩)] w7 (fun e w'=>e=.returned (.int .i64 0)∧w7=w') by
      have h:=nh aoK.o (w:=w7) (Fr:=H5'++(Ux++ao W)) cA;rwa[HM5.o]at h)
     have Bj:=aa (eN w7 (ao W) cA.right.right.right);have uO:(l2.gen==l2.gen)=true:=by simp
     clear cA jn pH;go_wp2_with fail
     refine AX.o.mono ?_;rintro e wx⟨rfl,rfl⟩;go_wp2_with fail
     refine xE.o.mono ?_;rintro e wx⟨rfl,rfl⟩;go_wp2_with fail
     refine Bj.o.mono ?_;rintro e wa⟨rfl,fU,vC⟩;have FT:=fx.trans vC;clear Bj vC fx;go_wp2_with fail
     go_ret;exact⟨rfl,fU,FT⟩
end Go.Proofs.YtalnifciidblkaaGreatDoor
