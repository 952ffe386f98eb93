/-
  Lemmas.
-/
import Derived.Test.YtalnifciidblkaaGreatDoorG06
namespace Go.Proofs.YtalnifciidblkaaGreatDoor
open _root_.Go.Proofs.Tryz
open Go.RowKit
set_option linter.unusedSimpArgs false
set_option linter.unusedVariables false
set_option maxRecDepth 20000
set_option maxHeartbeats 8000000
section
variable{b sb cb g cap:Nat}{mv:Value}{s:SM}{c:CM}{l:LM}{H Hs Hc Fr:HL}{w:World}
theorem aT.qK(h:aT b sb l H):∃A cp,∀(w:World) (F:HL),Holds w (H++F)->w.cell? ⟨b,6,none⟩=some (.slice A l.ad.length cp)∧sF w (.slice A l.ad.length cp) (nu l.ad):=by
 obtain⟨tv,pv,Ht,Hp,rfl,h1,h2⟩:=h;obtain⟨A,cp,rfl⟩:=h2.val;have hlen:(nu l.ad).length=l.ad.length:=by simp[nu]
 rw[hlen]at h2;exact⟨A,cp,fun w F hX=>⟨by have:=hX.ae 6;rw[hlen]at this;exact this,h2.at_ (Fr:=(b,.cells (Bg tv sb l (.slice A l.ad.length cp)) 113)::(Ht++F)) (by have hX2:Holds w ((b,.cells (Bg tv sb l (.slice A (nu l.ad).length cp)) 113)::(Ht++(Hp++F))):=hX.p;rw[hlen]at hX2;exact hX2.p)⟩⟩
theorem nA{n j:Nat}{x:Int}(h:x=(j:Int)+1)(hj:j<n):n-(intOf (.int .i64 x)).toNat<n-(intOf (.int .i64 (j:Int))).toNat:=by
 subst h;show n-((j:Int)+1).toNat<n-((j:Int)).toNat;omega
theorem Ib(L:List Nat)(x:Nat):(nu L).contains (x:Int)=L.contains x:=by
 unfold nu
 induction L with
 |nil=>rfl
 |cons a L ih=>
  rw[ku,List.contains_cons,List.contains_cons,ih];congr 1;rw[Bool.eq_iff_iff,beq_iff_eq,beq_iff_eq];omega
def AP(cb g cap:Nat)(mv:Value)(c:CM)(w:World)(Hs Fr:HL)(e:Ending)(w':World):Prop:=
 ∃(c':CM) (ve:Value) (He cO:HL),Reads c c'∧jx c c'∧c'.ops<=c.ops+100000∧e=.returned (.tuple #[.pointer none,ve])∧bJ ve 4 He∧ai cb g cap mv c' cO∧Holds w' (Hs++(cO++(He++Fr)))∧af w w'
def Pt(sb cb g cap:Nat)(mv:Value)(s:SM)(c:CM)(l':LM)(w:World)(Fr:HL)(e:Ending)(w':World):Prop:=
 ∃(b:Nat) (c':CM) (H' ke cO:HL),Reads c c'∧c'.on=true∧c'.ops<=c.ops+100000∧e=.returned (.tuple #[.pointer (some ⟨b,0,none⟩),.nilIface])∧aT b sb l' H'∧cr sb cb (Bv s l') ke∧ai cb g cap mv c' cO∧Holds w' (H'++(ke++(cO++Fr)))∧af w w'
def ah2(cb g cap:Nat)(mv:Value)(c:CM)(k0:Nat)(H Hs:HL)(w:World)(Fr:HL)(iv:Value)(wr:World):Prop:=
 ∃(k:Nat) (c':CM) (cO:HL),k<=k0∧iv=.int .i64 k∧Reads c c'∧c'.on=true∧c'.ops<=c.ops+256*k∧ai cb g cap mv c' cO∧Holds wr (H++(Hs++(cO++Fr)))∧af w wr
def Yd(gb n:Nat)(f:Nat->Nat->Bool)(w:World)(F:HL)(iv:Value)(wr:World):Prop:=
 ∃k,k<=n∧iv=.int .i64 (k:Nat)∧Holds wr ((gb,fK (f k))::F)∧af w wr
def ah3(sb cb:Nat)(s:SM)(l:LM)(n:Nat)(w:World)(F:HL)(iv:Value)(wr:World):Prop:=
 ∃(k:Nat) (ke:HL),k<=n∧iv=.int .i64 (k:Nat)∧cr sb cb (ql s l k) ke∧Holds wr (ke++F)∧af w wr
theorem C6{nm:List UInt8}{gn q0 last aj:Int}{es:List az}{bK:List Nat}{nps:List NP}(hs:cr sb cb s Hs)(cz:ai cb g cap mv c Hc)(hH:Holds w (Hs++(Hc++Fr)))(I:iy s c nm gn es bK nps q0 last aj)(fi:c.on=true)(fI:c.ops<=800000000000)(PW:nps.length<=100)
  (hR:dd (aI es (nps.map NP.ns).flatten))(ZV:(aI es (nps.map NP.ns).flatten).length<=64):
  Calls Tryz.prog 18 #[.pointer (some ⟨sb,0,none⟩)] w (fun e w'=>AP cb g cap mv c w Hs Fr e w'∨Pt sb cb g cap mv s c (P2 s nm gn es bK nps) w Fr e w'):=by
 have k1:=nil_eq;have k2:=cC;have k3:=cS;have Ob:=aa (sW (Fr:=Hc++Fr) hs I.cont hH I.cont.vu);have AX:=aa fun(wx:World) (F:HL) (hx:Holds wx (Hs++F))=>C5 (w:=wx) (Fr:=F) hs I.cont hx;obtain⟨k0,rQ,SI,DL⟩:=I.aog;have SB:=Wj I.cont;obtain⟨G,hG⟩:∃G,G=nN s:=⟨_,rfl⟩;rw[<-hG]at AX SB;subst hG;have HGK:=aa SI;have Iw:=aa DL;have HI:=aa I;have kV:=aa hs;have lS:=aa cz;have HR:=aa (aS hR ZV);clear hs cz I SI DL hR ZV;generalize nN s=G at*;go_enter func18,ntmps18;go_wp2_with fail
 refine Ob.o.mono ?_;rintro e w1⟨b,H,rfl,hl,ax,aK⟩;have HL:=aa hl;clear hl Ob;go_wp2_with fail
 refine(AX.o w1 (H++(Hc++Fr)) ax.p).mono ?_;rintro e w2⟨v,Hn,rfl,hn,aB,aX⟩;obtain⟨A,cn,rfl⟩:=hn.val;have HN:=aa hn;have bD:ah2 cb g cap mv c k0 H Hs w (Hn++Fr) (.int .i64 0) w2:=⟨0,c,Hc,by omega,rfl,Reads.refl c,fi,by omega,lS.o,aB.p,aK.trans aX⟩;clear hn aB aX aK ax AX fi;go_wp2_with fail
 go_loopw [28] (fun iv wr=>ah2 cb g cap mv c k0 H Hs w (Hn++Fr) iv wr) (fun iv _=>G.length-(intOf iv).toNat)
 case atStart=>exact bD
 case round=>
  clear bD;obtain⟨k,c1,jJ,hk,rfl,cm,fi,im,cz,hH,hg⟩:=hrel;have aG:k<G.length:=by omega
  have dQ:(k:Int)<G.length:=by omega
  obtain⟨-,A',cn',Oz,-,-,Bu⟩:=HN.o.at_ (Fr:=H++(Hs++(jJ++Fr))) (show Holds wr (Hn++(H++(Hs++(jJ++Fr))))from hH.p);injection Oz with e1 e2 e3;subst e1 e3;clear e2;obtain⟨nb,no,rfl,bm⟩:=Bu (by omega);have vp:=bm k (.int .i64 G[k]) (by rw[dW,bF aG];rfl);have HI1:=aa (HI.o.reads cm);by_cases xt:k<k0
  ·have Xp:=Iw.o k aG xt;have TF:=aa (Hu (w:=wr) (Fr:=Hn++Fr) G[k] HL.o kV.o cz hH HI1.o Xp fi (by omega));generalize G[k]=x at*;have jo:=aa cm;have zP:=kH (k:=k) (by omega);clear Bu bm cz hH Xp cm fi;go_wp2_with fail
   refine TF.o.mono ?_;rintro e w3 (⟨c',ve,He,cO,cm,cZ,eV,rfl,he,eG,aD,bj⟩|⟨c',cO,cm,fi,eV,rfl,eG,aD,bj⟩)
   ·obtain⟨h0,_⟩|⟨h0,eb,DM,rfl,rfl⟩:=he
    ·exact absurd h0 (by decide)
    have lx:=aa (show AP cb g cap mv c w Hs Fr (.returned (.tuple #[.pointer none,.iface 141 (.pointer (some ⟨eb,0,none⟩))])) w3 from⟨c',_,_,cO,jo.o.trans cm,cZ.before jo.o,by omega,rfl,.inr ⟨h0,eb,DM,rfl,rfl⟩,eG,aD.p,hg.trans bj⟩);clear cm cZ eV eG aD bj TF zP;go_wp2_with fail
    go_ret2
    exact .inl lx.o
   ·have gO:=aa (jo.o.trans cm);clear cm TF jo;go_wp2_with fail
    go_roundw
    case rel=>exact⟨k+1,c',cO,by omega,by simp,gO.o,fi,by omega,eG,aD,hg.trans bj⟩
    case measure=>clear zP;simp[intOf];omega
  ·obtain rfl:k=k0:=by omega
   have hT0:(kN s).T.length<=1000:=by show([]:List az).length<=1000;simp
   have ah4:eU (kN s).T:=List.Pairwise.nil;have Ya:(kN s).ad.length<=1000:=by show([]:List Nat).length<=1000;simp
   have Xp:=HGK.o;obtain⟨l1,iY⟩:∃l1:LM,l1={kN s with name:=nm,gen:=gn,T:=k8 (kN s).T es,ad:=(kN s).ad++bK}:=⟨_,rfl⟩;have TF:=Hz (w:=wr) (Fr:=Hn++Fr) HL.o kV.o cz hH HI1.o fi (by omega) hT0 ah4 Ya;rw[<-iY]at TF;have ah5:l1=⟨nm,gn,dp s (aC s),eT s (aC s),bK,es⟩:=by
    rw[iY];show(⟨nm,gn,_,_,[]++bK,k8 [] es⟩:LM)=_;have xv:=RG HI.o.kX.lA es.length (aN _);rw[fB]at xv;rw[xv,jS];rfl
   have Up:=aa ah5;rw[<-Xp]at TF;have TF:=aa TF;generalize G[k]=x at*;have jo:=aa cm;clear Bu bm cz hH Xp cm fi iY ah5 Iw HGK hT0 ah4 Ya HL;have Th:=kV;clear kV;go_wp2_with fail
   refine TF.o.mono ?_;rintro e w3 (⟨c',ve,He,cO,cm,cZ,eV,rfl,he,eG,aD,bj⟩|⟨c',H3,cO,cm,fi,eV,rfl,p7,eG,aD,bj⟩)
   ·obtain⟨h0,_⟩|⟨h0,eb,DM,rfl,rfl⟩:=he
    ·exact absurd h0 (by decide)
    have lx:=aa (show AP cb g cap mv c w Hs Fr (.returned (.tuple #[.pointer none,.iface 141 (.pointer (some ⟨eb,0,none⟩))])) w3 from⟨c',_,_,cO,jo.o.trans cm,cZ.before jo.o,by omega,rfl,.inr ⟨h0,eb,DM,rfl,rfl⟩,eG,aD.p,hg.trans bj⟩);clear cm cZ eV eG aD bj TF;go_wp2_with fail
    go_ret2
    exact .inl lx.o
   ·have kV:=aa Th.o;have Bs:=jo.o.trans cm;have PR:=aa (HI.o.reads Bs);have acM:l1.T=es:=by rw[Up.o]
    have Bw:l1.ad=bK:=by rw[Up.o]
    have Dz:=RX HI.o.cont HI.o.kX;have Dk:=HI.o.Ps;have au3:=HI.o.kX.len;have SV:=Lb (w:=w3) (Fr:=Hn++Fr) p7 kV.o eG aD PR.o (by rw[Up.o]) fi (by omega) (by rw[acM];omega) (by rw[acM];exact HI.o.kX.lA.inc) (by rw[Bw];omega) PW;obtain⟨l2,lP⟩:∃l2:LM,l2=P2 s nm gn es bK nps:=⟨_,rfl⟩;rw[show({l1 with T:=aI l1.T (nps.map NP.ns).flatten,ad:=l1.ad++nps.map NP.p}:LM)=l2 by rw[lP,Up.o];rfl]at SV;have SV:=aa SV;have Uq:=aa lP;obtain⟨A6,cp6,kg⟩:=p7.qK;have x6:=(kg w3 _ aD).1;have IE:l1.ad.length=bK.length:=by rw[Bw]
    have hle:(l1.ad.length:Int)≠0:=by omega
    have au4:((l1.ad.length:Int)==0)=false:=beq_eq_false_iff_ne.2 hle;generalize l1.ad.length=np at*;have SG:=aa (hg.trans bj);have gO:=aa Bs;have hoo:c'.ops<=c.ops+70000:=by omega
    clear kg p7 aD cm Bs fi eG bj hg acM Bw lP TF jo Up eV;go_wp2_with fail
    refine SV.o.mono ?_;rintro e w4 (⟨c2,ve,He,oS,cm,cZ,eV,rfl,he,eG,aD,bj⟩|⟨c2,H4,oS,cm,fi,eV,rfl,Bh,eG,aD,bj⟩)
    ·obtain⟨h0,_⟩|⟨h0,eb,DM,rfl,rfl⟩:=he
     ·exact absurd h0 (by decide)
     have lx:=aa (show AP cb g cap mv c w Hs Fr (.returned (.tuple #[.pointer none,.iface 141 (.pointer (some ⟨eb,0,none⟩))])) w4 from⟨c2,_,_,oS,gO.o.trans cm,cZ.before gO.o,by omega,rfl,.inr ⟨h0,eb,DM,rfl,rfl⟩,eG,aD.p,SG.o.trans bj⟩);clear cm cZ eV eG aD bj SV;go_wp2_with fail
     go_ret2
     exact .inl lx.o
    ·obtain⟨A7,cp7,kg⟩:=Bh.qK;have acN:l2.ad=bK++nps.map NP.p:=by rw[Uq.o];rfl
     have LN:=aa (show∀n∈l2.ad,n<256 from fun n hn=>by rw[acN]at hn;have:=Ko HI.o.kX n hn;have:=(wT HI.o.cont).2;omega);have od:=aa (show l2.ad.length<=256 by rw[acN,aY,bY];exact Dz);have qF:=aa fun(wx:World) (F:HL) (hx:Holds wx (H4++F))=>(kg wx F hx).2;have HP6:=aa fun(wx:World) (F:HL) (hx:Holds wx (H4++F))=>(kg wx F hx).1;have WS:=aa Bh;have TV:=aa eG;have Bn:=aa (aS (gO.o.trans cm) (aS fi (show c2.ops<=c.ops+100000 by omega)));have dZ:=aD.alloc (fK fun _=>false);have iZ:=(SG.o.trans bj).alloc (fK fun _=>false);clear kg Bh aD cm fi eV eG bj SV acN gO;go_upto_region 18 with fail
     rw[show Obj.cells Tryz.zeroCells72 72=fK fun _=>false by kernel_rfl];generalize w4.alloc (fK fun _=>false)=w5 at*;generalize w4.heap.size=gb at*;have x6:=HP6.o w5 _ (show Holds w5 (H4++((gb,fK fun _=>false)::(Hs++(oS++(Hn++Fr)))))from dZ.p);have kp:Yd gb l2.ad.length (zg l2.ad) w (H4++(Hs++(oS++(Hn++Fr)))) (.int .i64 0) w5:=⟨0,by omega,rfl,dZ,iZ⟩;clear dZ iZ;go_wp2_with fail
     go_loopw [60] (fun iv wr=>Yd gb l2.ad.length (zg l2.ad) w (H4++(Hs++(oS++(Hn++Fr)))) iv wr) (fun iv _=>l2.ad.length-(intOf iv).toNat)
     case atStart=>exact kp
     case round=>
      clear kp x6;obtain⟨j,hj,rfl,hH,hg⟩:=hrel;by_cases mQ:j<l2.ad.length
      ·have ajB:(j:Int)<l2.ad.length:=by omega
       obtain⟨_,A',c5,hv,_,_,cm⟩:=qF.o wr _ (show Holds wr (H4++((gb,fK (zg l2.ad j))::(Hs++(oS++(Hn++Fr)))))from hH.p);injection hv with e1 e2 e3;subst e1 e3;clear e2;obtain⟨pb,o,rfl,bm⟩:=cm (by simp[nu];omega);have ae:=bm j (.int .i64 (l2.ad[j]:Nat)) (by simp[nu,mQ]);have ajC:=LN.o _ (cX mQ);obtain⟨z4,z5⟩:=my hH ajC;have hX:=sL hH l2.ad[j] true;rw[RY mQ]at hX;have qQ:=hg.setCell ⟨gb,l2.ad[j],none⟩ (.bool true);have SB:=hH.aG;have aoi:=od.o;have HKW:=aa (kH (k:=j) (by omega));generalize l2.ad[j]=p at*;have hpI:(p:Int)<256:=by omega
       clear cm bm hH hg aoi;go_wp2_with fail
       go_roundw
       case rel=>exact⟨j+1,mQ,congrArg (Value.int .i64) HKW.o,hX,qQ⟩
       case measure=>exact nA HKW.o mQ
      ·have ajB:¬(j:Int)<l2.ad.length:=by omega
       obtain rfl:j=l2.ad.length:=by omega
       rw[R4 l2.ad l2.T]at hH;obtain⟨F,hF⟩:∃F,F=Hs++(oS++(Hn++Fr)):=⟨_,rfl⟩;rw[<-hF]at hH;have WK:=aa hF;obtain⟨tb,Ht,Ho,OB,OC,rU,-⟩:=WS.o.table;have qJ:Holds wr (H4++((gb,fK (dX l2.ad l2.T 0))::F)):=hH.p;have x0:=OB wr _ qJ;have HA:=aa (ru _ _ Ht _ wr OC ((rU wr _).1 qJ));have dj:=aa fun wx F=>(rU wx F).2;have HTR:=aa (show dd l2.T∧l2.T.length<=64 by rw[Uq.o];exact HR.o);clear OB OC rU qJ hH hF;go_wp2_with fail
       refine HA.o.mono ?_;rintro e w6⟨ev,He,rfl,he,bC,eJ⟩;have cA:Holds w6 ((gb,fK (dX l2.ad l2.T 0))::(He++(H4++F))):=(dj.o w6 (((gb,fK (dX l2.ad l2.T 0))::F)++He) (show Holds w6 (Ht++(Ho++(((gb,fK (dX l2.ad l2.T 0))::F)++He)))from bC.p)).p;have BB:Yd gb l2.T.length (dX l2.ad l2.T) w (He++(H4++F)) (.int .i64 0) w6:=⟨0,by omega,rfl,cA,hg.trans eJ⟩;have HE:=aa he;obtain⟨A5,c5,rfl⟩:=he.val;clear he bC cA eJ HA dj hg x0;go_wp2_with fail
       go_loopw [73] (fun iv wr=>Yd gb l2.T.length (dX l2.ad l2.T) w (He++(H4++F)) iv wr) (fun iv _=>l2.T.length-(intOf iv).toNat)
       case atStart=>exact BB
       case round=>
        clear BB;obtain⟨i,hi,rfl,hH,hg⟩:=hrel;by_cases Bo:i<l2.T.length
        ·have U2:(i:Int)<l2.T.length:=by omega
         obtain⟨A9,c9,Ay,_,_,bm⟩:=(HE.o.at_ (Fr:=(gb,fK (dX l2.ad l2.T i))::(H4++F)) hH.p).cells;injection Ay with zZ Gi DZ;subst zZ DZ;clear Gi;obtain⟨b2,o2,rfl,ae⟩:=bm (by omega);obtain⟨y0,y1,y2,y3⟩:=ae i Bo;obtain⟨-,⟨rH,sk⟩,-⟩:=HTR.o.1.1 _ (cX Bo);have Ox:=aa (fun p hp=>RZ (L:=l2.ad) (es:=l2.T) (p:=p) Bo hp);generalize l2.T[i]=n at*;obtain⟨ea,ep,ed,eq⟩:=n;dsimp only at y0 y1 y2 y3 rH sk Ox;obtain⟨p,rfl⟩:=Int.eq_ofNat_of_zero_le rH;have Ty:=Ox.o p rfl;have ZJ:p<256:=by omega
         have hpI:(p:Int)<256:=by omega
         have bM:=hH.alloc (.cells #[.int .u64 ea,.int .i64 (p:Int),.bool ed,.int .i64 eq] 24);have cJ:=hg.alloc (.cells #[.int .u64 ea,.int .i64 (p:Int),.bool ed,.int .i64 eq] 24);clear rH sk Ox bm ae hH hg;go_upto_region 26 with fail
         generalize wr.alloc (.cells #[.int .u64 ea,.int .i64 (p:Int),.bool ed,.int .i64 eq] 24)=w7 at*;generalize wr.heap.size=eb at*;clear y0 y1 y2 y3;have z1:=bM.ae 1;have ew:Holds w7 ((gb,fK (dX l2.ad l2.T i))::((eb,.cells #[.int .u64 ea,.int .i64 (p:Int),.bool ed,.int .i64 eq] 24)::(He++(H4++F)))):=bM.p;obtain⟨z4,z5⟩:=my ew ZJ;have hX:=sL ew p true;have qQ:=cJ.setCell ⟨gb,p,none⟩ (.bool true);have SB:=ew.aG;rw[Ty]at hX;have HKW:=aa (kH (k:=i) (by have:=HTR.o.2;omega));clear Ty ew bM cJ;go_wp2_with fail
         go_roundw
         case rel=>exact⟨i+1,Bo,congrArg (Value.int .i64) HKW.o,hX.p,qQ⟩
         case measure=>exact nA HKW.o Bo
        ·have U2:¬(i:Int)<l2.T.length:=by omega
         obtain rfl:i=l2.T.length:=by omega
         rw[show(dX l2.ad l2.T l2.T.length)=gS l2 from funext fun p=>R5 l2 p]at hH;have bg:Holds wr (Hs++((gb,fK (gS l2))::(He++(H4++(oS++(Hn++Fr)))))):=by rw[WK.o]at hH;exact hH.p
         obtain⟨F2,hF2⟩:∃F2,F2=He++(H4++(oS++(Hn++Fr))):=⟨_,rfl⟩;rw[<-hF2]at bg;have Iv:=aa hF2;have AA:=aa (jz kV.o bg HI.o.cont.vu);have qG:=wT HI.o.cont;have qP:(bc s).length<=256:=by have:=qG.1;rw[cL HI.o.cont,bY]at this;exact this
         have LC:=aa (show∀n∈bc s,n<256 from fun n hn=>by have:=(ig.1 hn).1;have:=qG.2;omega);rw[cL HI.o.cont]at AA;clear hH bg hF2 qG HTR HE WK;go_wp2_with fail
         refine AA.o.mono ?_;rintro e w7⟨nv,WU,rfl,tS,cA,jk⟩;obtain⟨A8,c8,rfl⟩:=tS.val;have Jf:=aa tS;have ah6:ah3 sb cb s l2 (bc s).length w ((gb,fK (gS l2))::(WU++F2)) (.int .i64 0) w7:=⟨0,Hs,by omega,rfl,by simpa[ql,dI]using kV.o,cA.p,hg.trans jk⟩;have Ur:((bc s).map fun n:Nat=>(n:Int)).length=(bc s).length:=bY ..;rw[Ur]at Jf⊢;clear tS cA jk hg AA Ur;go_wp2_with fail
         go_loopw [84] (fun iv wr=>ah3 sb cb s l2 (bc s).length w ((gb,fK (gS l2))::(WU++F2)) iv wr) (fun iv _=>(bc s).length-(intOf iv).toNat)
         case atStart=>exact ah6
         case round=>
          clear ah6;obtain⟨k,ke,hk,rfl,vo,hH,hg⟩:=hrel;by_cases qa:k<(bc s).length
          ·have ajD:(k:Int)<(bc s).length:=by omega
           obtain⟨_,A',c9,hv,_,_,cm⟩:=Jf.o.at_ (Fr:=ke++((gb,fK (gS l2))::F2)) (show Holds wr (WU++(ke++((gb,fK (gS l2))::F2)))from hH.p);injection hv with e1 e2 e3;subst e1 e3;clear e2;obtain⟨nb,no,rfl,bm⟩:=cm (by simp;omega);have vp:=bm k (.int .i64 ((bc s)[k]:Nat)) (by simp[qa]);have aaB:=LC.o _ (cX qa);have jP:=aa (R6 (l:=l2) qa);have vt:=aa vo;have vi:=qq (((bc s)[k]:Nat):Int) vo hH (by omega) (by omega);rw[show(aq (ql s l2 k).hs (((bc s)[k]:Nat):Int)).getD Hd.zero=du (ql s l2 k) ((bc s)[k]:Nat)from rfl,NX HI.o.cont l2 qa]at vi;have vi:=aa vi;have Eo:=aa (show uG s l2 (bc s)[k]=(!gS l2 (bc s)[k]||((decide ((du s ((bc s)[k]:Nat)).k=4)||decide ((du s ((bc s)[k]:Nat)).k=3))&& !l2.ad.contains (bc s)[k]))from rfl);have vv:=aa fun(wx:World) (F:HL) (hx:Holds wx (ke++F))=>Cd (w:=wx) (Fr:=F) (((bc s)[k]:Nat):Int) vo hx;have tP:0<l2.ad.length:=by rw[Uq.o];show 0<(bK++nps.map NP.p).length;have:=HI.o.Ps;rw[aY];omega
           have acO:=aa fun(wx:World) (F:HL) (hx:Holds wx (H4++F))=>Wh _ _ (((bc s)[k]:Nat):Int) wx (qF.o wx F hx) (by simpa[nu]using tP);rw[Ib]at acO;have TG:=aa fun(wx:World) (F:HL) (hx:Holds wx ((gb,fK (gS l2))::F))=>(my hx aaB).1;generalize du s ((bc s)[k]:Nat)=hd at*;generalize(aq (ql s l2 k).hs (((bc s)[k]:Nat):Int)).isSome=z at*;generalize uG s l2 (bc s)[k]=bb at*;generalize gS l2 (bc s)[k]=nm at*;generalize l2.ad.contains (bc s)[k]=ct at*;generalize(bc s)[k]=x at*;have hxI:(x:Int)<256:=by omega
           obtain⟨cZ,ez,dy,dP⟩:=hd;simp only[Hd.agg,Hd.cells]at vi;dsimp only at Eo;clear cm bm vo hH tP aaB;go_wp2_with fail
           refine vi.o.mono ?_;rintro e w8⟨rfl,cT,ka⟩;have di:=cT.alloc (.cells #[.int .i64 cZ,.int .u64 ez,.int .i64 dy,.int .i64 dP] 59);have iU:=(hg.trans ka).alloc (.cells #[.int .i64 cZ,.int .u64 ez,.int .i64 dy,.int .i64 dP] 59);clear cT ka hg vi vp;go_upto_region 32 with fail
           generalize w8.alloc (.cells #[.int .i64 cZ,.int .u64 ez,.int .i64 dy,.int .i64 dP] 59)=w9 at*;generalize w8.heap.size=hb at*;have r0:=di.ae 0;have z4:=TG.o w9 ((hb,.cells #[.int .i64 cZ,.int .u64 ez,.int .i64 dy,.int .i64 dP] 59)::(ke++(WU++F2))) di.p;have Mq:Holds w9 (H4++(He++(oS++(Hn++((hb,.cells #[.int .i64 cZ,.int .u64 ez,.int .i64 dy,.int .i64 dP] 59)::(ke++((gb,fK (gS l2))::WU))))))):=by have:=di;rw[Iv.o]at this;exact this.p
           have z6:=HP6.o w9 _ Mq;have HCT:=aa (acO.o w9 _ Mq);clear Mq TG acO;by_cases h4:cZ=4
           ·subst h4;have h4:=k1;cases nm with
            |false=>
             clear z6;go_wp2_with fail
             refine(vv.o w9 _ (show Holds w9 (ke++((hb,.cells #[.int .i64 4,.int .u64 ez,.int .i64 dy,.int .i64 dP] 59)::((gb,fK (gS l2))::(WU++F2))))from di.p)).mono ?_;rintro e uw⟨ve,Is,H9,rfl,_,AZ,ew,vj⟩;clear di r0 z4;go_wp2_with fail
             go_roundw
             case rel=>exact⟨k+1,H9,qa,rfl,by rw[jP.o,if_pos (by rw[Eo.o];rfl)];exact AZ,ew.p,iU.trans vj⟩
             case measure=>exact nA rfl qa
            |true=>
             go_wp2_with fail
             refine HCT.o.mono ?_;rintro e lQ⟨rfl,Xe⟩;subst Xe;cases ct with
             |false=>
              clear z6;go_wp2_with fail
              refine(vv.o lQ _ (show Holds lQ (ke++((hb,.cells #[.int .i64 4,.int .u64 ez,.int .i64 dy,.int .i64 dP] 59)::((gb,fK (gS l2))::(WU++F2))))from di.p)).mono ?_;rintro e uw⟨ve,Is,H9,rfl,_,AZ,ew,vj⟩;clear di r0 z4;go_wp2_with fail
              go_roundw
              case rel=>exact⟨k+1,H9,qa,rfl,by rw[jP.o,if_pos (by rw[Eo.o];rfl)];exact AZ,ew.p,iU.trans vj⟩
              case measure=>exact nA rfl qa
             |true=>
              clear z6;go_wp2_with fail
              go_roundw
              case rel=>exact⟨k+1,ke,qa,rfl,by rw[jP.o,if_neg (by rw[Eo.o];simp[h4])];exact vt.o,di.p,iU⟩
              case measure=>exact nA rfl qa
           ·by_cases h3:cZ=3
            ·subst h3;cases nm with
             |false=>
              clear z6;go_wp2_with fail
              refine(vv.o w9 _ (show Holds w9 (ke++((hb,.cells #[.int .i64 3,.int .u64 ez,.int .i64 dy,.int .i64 dP] 59)::((gb,fK (gS l2))::(WU++F2))))from di.p)).mono ?_;rintro e uw⟨ve,Is,H9,rfl,_,AZ,ew,vj⟩;clear di r0 z4;go_wp2_with fail
              go_roundw
              case rel=>exact⟨k+1,H9,qa,rfl,by rw[jP.o,if_pos (by rw[Eo.o];rfl)];exact AZ,ew.p,iU.trans vj⟩
              case measure=>exact nA rfl qa
             |true=>
              go_wp2_with fail
              refine HCT.o.mono ?_;rintro e lQ⟨rfl,Xe⟩;subst Xe;cases ct with
              |false=>
               clear z6;go_wp2_with fail
               refine(vv.o lQ _ (show Holds lQ (ke++((hb,.cells #[.int .i64 3,.int .u64 ez,.int .i64 dy,.int .i64 dP] 59)::((gb,fK (gS l2))::(WU++F2))))from di.p)).mono ?_;rintro e uw⟨ve,Is,H9,rfl,_,AZ,ew,vj⟩;clear di r0 z4;go_wp2_with fail
               go_roundw
               case rel=>exact⟨k+1,H9,qa,rfl,by rw[jP.o,if_pos (by rw[Eo.o];rfl)];exact AZ,ew.p,iU.trans vj⟩
               case measure=>exact nA rfl qa
              |true=>
               clear z6;go_wp2_with fail
               go_roundw
               case rel=>exact⟨k+1,ke,qa,rfl,by rw[jP.o,if_neg (by rw[Eo.o];simp[h4])];exact vt.o,di.p,iU⟩
               case measure=>exact nA rfl qa
            ·have h4n:(cZ==4)=false:=beq_eq_false_iff_ne.2 h4;have h3n:(cZ==3)=false:=beq_eq_false_iff_ne.2 h3;cases nm with
             |false=>
              clear z6;go_wp2_with fail
              refine(vv.o w9 _ (show Holds w9 (ke++((hb,.cells #[.int .i64 cZ,.int .u64 ez,.int .i64 dy,.int .i64 dP] 59)::((gb,fK (gS l2))::(WU++F2))))from di.p)).mono ?_;rintro e uw⟨ve,Is,H9,rfl,_,AZ,ew,vj⟩;clear di r0 z4;go_wp2_with fail
              go_roundw
              case rel=>exact⟨k+1,H9,qa,rfl,by rw[jP.o,if_pos (by rw[Eo.o];rfl)];exact AZ,ew.p,iU.trans vj⟩
              case measure=>exact nA rfl qa
             |true=>
              clear z6;go_wp2_with fail
              go_roundw
              case rel=>exact⟨k+1,ke,qa,rfl,by rw[jP.o,if_neg (by rw[Eo.o];simp[h4,h3])];exact vt.o,di.p,iU⟩
              case measure=>exact nA rfl qa
          ·have ajD:¬(k:Int)<(bc s).length:=by omega
           obtain rfl:k=(bc s).length:=by omega
           rw[R7]at vo;have vt:=aa vo;have xH:Holds wr (H4++(ke++(oS++Fr))):=by rw[Iv.o]at hH;exact hH.p
           have lx:=aa (show Pt sb cb g cap mv s c (P2 s nm gn es bK nps) w Fr (.returned (.tuple #[.pointer (some ⟨b,0,none⟩),.nilIface])) wr from⟨b,c2,H4,ke,oS,Bn.o.1,Bn.o.2.1,Bn.o.2.2,rfl,by rw[<-Uq.o];exact WS.o,by rw[<-Uq.o];exact vt.o,TV.o,xH,hg⟩);clear vo hH xH hg;go_wp2_with fail
           go_ret2
           exact .inr lx.o
end
end Go.Proofs.YtalnifciidblkaaGreatDoor
