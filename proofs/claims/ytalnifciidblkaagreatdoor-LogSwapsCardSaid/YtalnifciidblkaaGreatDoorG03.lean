/-
  Lemmas.
-/
import Derived.Test.YtalnifciidblkaaGreatDoorG31
import Derived.Test.YtalnifciidblkaaGreatDoorG29
import Derived.Test.YtalnifciidblkaaGreatDoorG18
import Derived.Test.YtalnifciidblkaaGreatDoorG13
import Derived.Test.YtalnifciidblkaaGreatDoorG01
import Derived.Test.YtalnifciidblkaaGreatDoorG30
import Derived.Test.YtalnifciidblkaaGreatDoorG24
import Derived.Deep.CutBlock
namespace Go.Proofs.YtalnifciidblkaaGreatDoor
open _root_.Go.Proofs.Tryz
open Go.RowKit
set_option linter.unusedSimpArgs false
set_option linter.unusedVariables false
set_option maxRecDepth 20000
set_option maxHeartbeats 8000000
section
variable{b sb cb g cap:Nat}{mv:Value}{s:SM}{c:CM}{l:LM}{H Hs Hc Fr:HL}{w:World}
theorem aT.ajE(h:aT b sb l H)(nm:List UInt8):∃H',aT b sb {l with name:=nm} H'∧∀(w:World) (F:HL),Holds w (H++F)->Holds (w.setCell ⟨b,2,none⟩ (.string (cq nm))) (H'++F)∧w.frozen? ⟨b,2,none⟩=false∧b<w.heap.size:=by
 obtain⟨tv,pv,Ht,Hp,rfl,h1,h2⟩:=h;refine⟨_,⟨tv,pv,Ht,Hp,rfl,h1,h2⟩,fun w F hX=>⟨?_,hX.ah 2,hX.aG⟩⟩;exact Holds.set hX 2 (.string (cq nm))
theorem Ic(nv:Value)(w:World)(Fr:HL)(hH:Holds w Fr):Calls Tryz.prog 12 #[.pointer none,nv] w (fun e w'=>∃ve He,e=.returned (.tuple #[.pointer none,ve])∧bJ ve 1 He∧Holds w' (He++Fr)∧af w w'):=by
 have HW:=aa (lq 1 w Fr (by decide) hH);clear hH;go_enter func12,ntmps12;go_wp2_with fail
 refine HW.o.mono ?_;rintro e w1⟨ve,He,rfl,he,ax,aK⟩;go_wp2_with fail
 go_ret2
 exact⟨_,He,rfl,he,ax,aK⟩
theorem NZ(w:World)(Fr:HL)(hH:Holds w Fr):Calls Tryz.prog 18 #[.pointer none] w (fun e w'=>∃ve He,e=.returned (.tuple #[.pointer none,ve])∧bJ ve 1 He∧Holds w' (He++Fr)∧af w w'):=by
 have HW:=aa (lq 1 w Fr (by decide) hH);clear hH;go_enter func18,ntmps18;go_wp2_with fail
 refine HW.o.mono ?_;rintro e w1⟨ve,He,rfl,he,ax,aK⟩;go_wp2_with fail
 go_ret2
 exact⟨_,He,rfl,he,ax,aK⟩
def zh(sb cb g cap:Nat)(mv:Value)(r:LM×SM×CM×Int)(w:World)(Fr:HL)(e:Ending)(w':World):Prop:=
 ∃ke cO,cr sb cb r.2.1 ke∧ai cb g cap mv r.2.2.1 cO∧af w w'∧
  ((r.2.2.2=0∧∃b H',e=.returned (.tuple #[.pointer (some ⟨b,0,none⟩),.nilIface])∧aT b sb r.1 H'∧Holds w' (H'++(ke++(cO++Fr))))∨
   (r.2.2.2≠0∧∃ve He,e=.returned (.tuple #[.pointer none,ve])∧bJ ve r.2.2.2 He∧Holds w' (ke++(cO++(He++Fr)))))
def ah7(sb cb:Nat)(s:SM)(w:World)(F:HL)(iv:Value)(wr:World):Prop:=
 ∃(k:Nat) (ke:HL),k<=(bc s).length∧iv=.int .i64 (k:Nat)∧cr sb cb (dI s ((bc s).take k)) ke∧Holds wr (ke++F)∧af w wr
theorem iI(nm:List UInt8)(Mo:yZ nm)(hs:cr sb cb s Hs)(cz:ai cb g cap mv c Hc)(hH:Holds w (Hs++(Hc++Fr)))(hC:aV s c)(hL:Live s c)(hB:s.B<20)(fI:c.ops<=900000000000)
  (hq:eT s (aC s)<=1000000000)(ht:dp s (aC s)<=16000000):
  Calls Tryz.prog 12 #[.pointer (some ⟨sb,0,none⟩),.string (cq nm)] w (zh sb cb g cap mv (aL nm s c) w Fr):=by
 have k1:=nil_eq;have k2:=cC;have k3:=cS;have HMY:=aa fun wx=>yL nm wx Mo;have lY:Holds w (Hs++(Hc++Fr)):=hH;have Ob:=aa fun(wx:World) (hx:Holds wx (Hs++(Hc++Fr)))=>sW (w:=wx) (Fr:=Hc++Fr) hs hC hx hC.vu;have AA:=aa fun(wx:World) (F:HL) (hx:Holds wx (Hs++F))=>jz (w:=wx) (Fr:=F) hs hx hC.vu;have hq0:=(GQ hC (a:=1000000000) (b:=16000000) (by omega) (by omega) fun n x hx=>by have:=GP hC hx;omega);have oR:=bO hC.pl;have IG:aV (dI s (bc s)) c∧Live (dI s (bc s)) c∧(dI s (bc s)).B=s.B:=by
  have D:=yh (c:=c) (bc s) s hC (List.nodup_range.filter _) fun n hn=>(ig.1 hn).2;exact⟨D.cont,D.live hL,D.B⟩
 have vv:=aa IG;have qP:(bc s).length<=256:=by have:=(wT hC).1;rw[cL hC,bY]at this;exact this
 have hNE:=cL hC;have kV:=aa hs;have lS:=aa cz;have HQ:=aa hq0;have HL:=aa Mo;have jD:=af.refl w;clear hs cz hC hL Mo IG hq0 oR hq ht;go_enter func12,ntmps12;go_wp2_with fail
 refine(HMY.o w).mono ?_;rintro e w1⟨rfl,jq⟩;obtain⟨ax,ah8⟩:=wD hH jq;have aK:=jD.trans ah8;clear jq ah8 jD hH lY;go_wp2_with fail
 refine(Ob.o w1 ax).mono ?_;rintro e w2⟨b,H,rfl,hl,aB,aX⟩;obtain⟨H',vh,bz⟩:=hl.ajE nm;obtain⟨aD,f2,aoj⟩:=bz w2 _ aB;obtain⟨_,_,bm⟩:=hl.cells;have x2:=(bm w2 _ aB).2.2.1;have cf:=(aK.trans aX).setCell ⟨b,2,none⟩ (.string (cq nm));have TC:=aa vh;clear Ob bz hl vh bm ax aB aK aX;go_upto_region 7 with fail
 generalize w2.setCell ⟨b,2,none⟩ (.string (cq nm))=w3 at*;clear x2 f2 aoj;go_wp2_with fail
 refine(AA.o w3 (H'++(Hc++Fr)) aD.p).mono ?_;rintro e w4⟨nv,Hn,rfl,hn,aU,bV⟩;rw[hNE]at hn;obtain⟨A,cn,rfl⟩:=hn.val;have HN:=aa hn;have Ur:((bc s).map fun n:Nat=>(n:Int)).length=(bc s).length:=bY ..;rw[Ur]at HN⊢;have bD:ah7 sb cb s w (H'++(Hc++(Hn++Fr))) (.int .i64 0) w4:=⟨0,Hs,by omega,rfl,by simpa[dI]using kV.o,aU.p,cf.trans bV⟩;clear hn aU bV cf AA Ur aD;go_wp2_with fail
 go_loopw [28] (fun iv wr=>ah7 sb cb s w (H'++(Hc++(Hn++Fr))) iv wr) (fun iv _=>(bc s).length-(intOf iv).toNat)
 case atStart=>exact bD
 case round=>
  clear bD;obtain⟨k,ke,hk,rfl,vo,hH,hg⟩:=hrel;by_cases aG:k<(bc s).length
  ·have dQ:(k:Int)<(bc s).length:=by omega
   obtain⟨_,A',c9,hv,_,_,cm⟩:=HN.o.at_ (Fr:=ke++(H'++(Hc++Fr))) (show Holds wr (Hn++(ke++(H'++(Hc++Fr))))from hH.p);injection hv with e1 e2 e3;subst e1 e3;clear e2;obtain⟨nb,no,rfl,bm⟩:=cm (by simp;omega);have vp:=bm k (.int .i64 ((bc s)[k]:Nat)) (by simp[aG]);have HDP:=aa (Cd (((bc s)[k]:Nat):Int) vo hH);have HT:=aa (show dI s ((bc s).take (k+1))=(fF (dI s ((bc s).take k)) ((bc s)[k]:Nat)).1 by rw[gB aG,sQ]);generalize(((bc s)[k]:Nat):Int)=n at*;have zP:=kH (k:=k) (by omega);clear cm bm vo hH;go_wp2_with fail
   refine HDP.o.mono ?_;rintro e w5⟨ve,He,H1,rfl,_,kU,ax,aK⟩;go_wp2_with fail
   go_roundw
   case rel=>exact⟨k+1,H1,aG,by simp[zP],by rw[HT.o];exact kU,ax.p,hg.trans aK⟩
   case measure=>first|exact nA zP aG|exact nA rfl aG
  ·have dQ:¬(k:Int)<(bc s).length:=by omega
   obtain rfl:k=(bc s).length:=by omega
   rw[fB]at vo;obtain⟨WV,hL',XE⟩:=vv.o;have ew:Holds wr (H'++(ke++(Hc++(Hn++Fr)))):=hH.p;have FQ:=aa (sV TC.o vo lS.o ew WV hL' (by omega) fI HL.o tE (by show([]:List az).length<=256;simp) (by have:=HQ.o;show 0<=eT s (aC s)∧eT s (aC s)<=_;omega) (by have:=HQ.o;show 0<=dp s (aC s)∧dp s (aC s)<=_;omega) (by show([]:List Nat).length<=1000;simp));rw[show aH {kN s with name:=nm} (dI s (bc s)) c=aL nm s c from rfl]at FQ;generalize aL nm s c=r at*;clear vo hH ew WV hL' XE;go_wp2_with fail
   refine FQ.o.mono ?_;rintro e w5⟨ve,He,H5,jl,pZ,rfl,he,ki,lu,fS,bg,dJ⟩;have pL:=aa ki;have jH:=aa lu;have tN:=aa fS;have eY:=hg.trans dJ;clear ki lu fS dJ hg FQ;rcases he with⟨h0,rfl,rfl⟩|⟨h0,eb,es,rfl,rfl⟩
   ·have HH:=aa bg;clear bg;go_wp2_with fail
    go_ret2
    exact⟨jl,pZ,jH.o,tN.o,eY,.inl ⟨h0,b,H5,rfl,pL.o,HH.o.p⟩⟩
   ·have HH:=aa bg;have Ou:=aa h0;clear bg h0;go_wp2_with fail
    go_ret2
    exact⟨jl,pZ,jH.o,tN.o,eY,.inr ⟨Ou.o,_,_,rfl,.inr ⟨Ou.o,eb,es,rfl,rfl⟩,HH.o.p⟩⟩
end
section
variable{b sb cb mb g cap:Nat}{mv:Value}{nm:List UInt8}{N:Int}{s:SM}{c:CM}{l:LM}{H Hs Hc Fr:HL}{w:World}
def Vp(cb g cap:Nat)(mv:Value)(nm:List UInt8)(N:Int)(P:List az->List Nat->Int->Prop)(c:CM)(w:World)(Fr:HL)(e:Ending)(w':World):Prop:=
 ∃(b sb:Nat) (l':LM) (s':SM) (c':CM) (H' ke cO:HL),e=.returned (.pointer (some ⟨b,0,none⟩))∧gy nm N l' s' c'∧(P l'.T l'.ad l'.gen∧Jv l' s')∧Reads c c'∧c'.ops<=c.ops+3000000∧aT b sb l' H'∧cr sb cb s' ke∧ai cb g cap mv c' cO∧
  Holds w' (H'++(ke++(cO++Fr)))∧af w w'
def ah9(cb g cap:Nat)(mv:Value)(c:CM)(w:World)(Fr:HL)(iv:Value)(wr:World):Prop:=
 ∃(k:Nat) (c':CM) (cO:HL),iv=.int .i64 k∧Reads c c'∧ahead c'+k<25∧c'.ops<=c.ops+101000*k∧ai cb g cap mv c' cO∧Holds wr (cO++Fr)∧af w wr
theorem Reads.ahead{c c':CM}(r:Reads c c'):ahead c'<=ahead c:=by
 unfold Go.Proofs.YtalnifciidblkaaGreatDoor.ahead;rw[r.ms];have hf:∀L:List Mi,(L.filter fun m=>decide (c'.ops<m.at_)).length<=(L.filter fun m=>decide (c.ops<m.at_)).length:=by
  intro L
  induction L with
  |nil=>simp
  |cons m L ih=>
   have:=r.ops;rw[qf,qf];by_cases h1:c'.ops<m.at_
   ·have h2:c.ops<m.at_:=by omega
    simp only[h1,h2,decide_true,if_true,fC];omega
   ·simp only[h1,decide_false,Bool.false_eq_true,if_false];split
    ·rw[fC];omega
    ·exact ih
 exact hf _
theorem jx.ahead{c c':CM}(h:jx c c')(r:Reads c c'):ahead c'<ahead c:=by
 obtain⟨_,m,h1,h2,h3,h4⟩:=h;exact VM r.ms r.ops h1 h3 h4
theorem ni{P:List az->List Nat->Int->Prop}(D:Bi nm N P c)(cz:ai cb g cap mv c Hc)(hH:Holds w (Hc++Fr))(IC:ahead c<25)(fI:c.ops<=100000000000):
  Calls Tryz.prog 27 #[.pointer (some ⟨cb,0,none⟩)] w (Vp cb g cap mv nm N P c w Fr):=by
 have k1:=cS;have k2:=cC;have k3:=nil_eq;have k4:=oF;have bD:ah9 cb g cap mv c w Fr (.int .i64 0) w:=⟨0,c,Hc,rfl,Reads.refl c,by omega,by omega,cz,hH,af.refl w⟩;have HD:=aa D;clear D cz hH IC;go_enter func27,ntmps27;go_wp2_with fail
 go_loopw [3] (fun i wr=>ah9 cb g cap mv c w Fr i wr) (fun i _=>26-(intOf i).toNat)
 case atStart=>exact bD
 case round=>
  clear bD;obtain⟨k,c',cO,rfl,cm,IC,im,cz,eh,gf⟩:=hrel;have zN:(k:Int)<=25:=by omega
  have jo:=aa cm;have HOF:=aa (VH cz eh);have zP:=kH (k:=k) (by omega);clear cm cz eh;go_upto_region 5 with fail
  refine HOF.o.mono ?_;rintro e w1⟨rfl,H1,ff,ax,aK⟩;have S9:=aa (QD ff ax);have gY:=gf.trans aK;clear ff ax aK gf HOF;go_upto_region 7 with fail
  refine S9.o.mono ?_;rintro e w2⟨ve,H2,He,rfl,he,gT,aB,aX⟩;have oU:bJ ve 0 He:=he;obtain⟨rfl,rfl⟩:=de oU;have II:ai cb g cap mv {c' with on:=true} H2:=gT;have aD:Holds w2 (H2++Fr):=aB;have cY:=gY.trans aX;clear he oU gT aB aX gY S9;go_upto_region 7 with fail
  have PV:Reads c {c' with on:=true}:=jo.o.trans ⟨rfl,rfl,rfl,rfl,rfl,bG _⟩;have AY:ahead {c' with on:=true}+k<25:=IC;have ho1:({c' with on:=true}:CM).ops<=c.ops+101000*k:=im;have Yf:({c' with on:=true}:CM).on=true:=rfl;generalize({c' with on:=true}:CM)=c1 at*;have D1:=HD.o.reads PV;have qI:=aa (nT II aD D1.sm Yf (by omega));have Xz:=tA D1.sm Yf D1.shape;have hnm:=J3 II.o7;have hLD:=D1.load Yf;have jq:=D1.ja.1;generalize bW c1=nw at*;obtain⟨s4,c4,code⟩:=nw;dsimp only at*;obtain⟨Je,WL⟩:=Xz;have Dl:=aa PV;have Iy:=aa aD;have acP:=aa (PV.trans Je);have aok:c4.ops<=c1.ops+512:=by have:=hnm.1.2.2.2.2.2;rw[jq]at this;omega
  clear hnm aD II D1 PV;rcases WL with⟨e4,cZ⟩|⟨e0,-⟩
  ·subst e4;have ha4:=cZ.ahead Je;clear cZ Je hLD;go_upto_region 8 with fail
   refine qI.o.mono ?_;rintro e w3 (⟨h0,_⟩|⟨h0,Te,AU,tK,rfl,j9,lU,aU,bV⟩)
   ·exact absurd (show(4:Int)=0 from h0) (by decide)
   dsimp only at h0 j9 lU;obtain⟨be,se,rfl,rfl⟩:=cI j9 h0;have bg:Holds w3 ([(be,.cells #[.int .i64 4,.string se] 143)]++(tK++Fr)):=aU.p;have tX:=aa (jL _ 4 _ _ w3 j9 bg (by omega));have Aj:=aa lU;clear j9 lU aU h0 qI;go_upto_region 13 with fail
   go_wp2_with fail
   refine tX.o.mono ?_;rintro e w4⟨rfl,rfl⟩;go_wp2_with fail
   go_roundw
   case rel=>exact⟨k+1,c4,tK,by go_num,acP.o,by omega,by omega,Aj.o,bg.tail,cY.trans bV⟩
   case measure=>clear zP;simp[intOf];omega
  ·obtain⟨gg,es,bK,nps,q0,last,aj,I,hL4,aol,PW,hR,ZV,hP,dN⟩:=hLD e0;subst e0;have acQ:=hL4.on;clear aol;go_upto_region 8 with fail
   refine qI.o.mono ?_;rintro e w3 (⟨h0,sb,H4,tK,rfl,sj,lU,aU,bV⟩|⟨h0,_⟩);rotate_left
   ·exact absurd rfl h0
   dsimp only at sj lU;have Et:=aa (C6 sj lU aU I acQ (by omega) (by omega) hR ZV);have fj:=aa dN;have HP:=aa hP;have WM:=aa Je;clear sj lU aU I hL4 hR ZV dN hP h0 qI Je;go_wp2_with fail
   refine Et.o.mono ?_;rintro e w4 (⟨c5,ve,He,pZ,ou,aia,Gs,rfl,Xt,fS,bg,dJ⟩|⟨b5,c5,H5,jl,pZ,ou,Yg,Gs,rfl,ki,lu,fS,bg,dJ⟩)
   ·have ha5:=aia.ahead ou;have ha4:ahead c4<=ahead c1:=WM.o.ahead;obtain⟨be,se,rfl,rfl⟩:=cI Xt (by decide);have bC:Holds w4 ([(be,.cells #[.int .i64 4,.string se] 143)]++(pZ++Fr)):=bg.p;have tX:=aa (jL _ 4 _ _ w4 Xt bC (by omega));have tN:=aa fS;have aom:=aa (acP.o.trans ou);clear Xt fS bg ou aia Et fj HP WM;go_wp2_with fail
    refine tX.o.mono ?_;rintro e w5⟨rfl,rfl⟩;go_wp2_with fail
    go_roundw
    case rel=>exact⟨k+1,c5,pZ,by go_num,aom.o,by omega,by omega,tN.o,bC.tail,(cY.trans bV).trans dJ⟩
    case measure=>clear zP;simp[intOf];omega
   ·have lx:=aa (show Vp cb g cap mv nm N P c w Fr (.returned (.pointer (some ⟨b5,0,none⟩))) w4 from
     ⟨b5,sb,_,_,c5,H5,jl,pZ,rfl,(fj.o c5 ou Yg).1,⟨HP.o,(fj.o c5 ou Yg).2⟩,acP.o.trans ou,by omega,ki,lu,fS,bg,(cY.trans bV).trans dJ⟩)
    clear ou ki lu fS bg Et fj HP WM zP;go_wp2_with fail
    go_ret;exact lx.o
end
section
variable{b sb cb mb g cap:Nat}{mv:Value}{nm:List UInt8}{N:Int}{s:SM}{c:CM}{l:LM}{H Hs Hc Hm Fr:HL}{w:World}{T:List az}{Ms:List (List az)}
theorem tH(w:World)(h:w.cell? ⟨b,1,none⟩=some (.pointer (some ⟨sb,0,none⟩))):Calls Tryz.prog 23 #[.pointer (some ⟨b,0,none⟩)] w (fun e w'=>e=.returned (.pointer (some ⟨sb,0,none⟩))∧w=w'):=by
 go_enter func23,ntmps23;go_wp2_with fail
 go_ret;exact⟨rfl,rfl⟩
theorem ek.rd(h:ek mb nm T Ms Hm):∃tb A c',∀(w:World) (F:HL),Holds w (Hm++F)->w.cell? ⟨mb,0,none⟩=some (.pointer (some ⟨tb,0,none⟩))∧w.cell? ⟨tb,0,none⟩=some (.slice A T.length c')∧eC w (.slice A T.length c') T:=by
 obtain⟨tv,Ht,Ho,hc,ht,rU,_⟩:=h.Iz;obtain⟨tb,A,c',rfl,hx⟩:=ht.cell;exact⟨tb,A,c',fun w F hX=>⟨hc w F hX,hx w _ ((rU w F).1 hX)⟩⟩
theorem Wk(ns:List Nt)(n:Nt):yX (ns++[n])=yX ns++n.cells:=by simp[yX]
theorem fM.snoc{A:Option Addr}{c':Nat}{ns:List Nt}{n:Nt}{H:HL}{us:List Value}(h:au 26 5 (.slice A (ns.length+1) c') (ns.length+1) (yX ns++us) H)(hu:us=n.cells):fM (.slice A (ns.length+1) c') (ns++[n]) H:=by
 unfold fM;rw[Wk,<-hu,aY,mT];exact h
def B8(T:List az)(n:Nt):Prop:=(n.vg∧n.ok=true)∧U4 T n
def acR(b sb:Nat)(l:LM)(T:List az)(w:World)(F:HL)(nv iv:Value)(wr:World):Prop:=
 ∃(k j:Nat) (ns:List Nt) (H Hn:HL),k<=T.length∧iv=.int .i64 k∧j<=k∧ns.length<=k∧(∀n∈ns,B8 T n)∧fM nv ns Hn∧aT b sb {l with last:=l.last+j} H∧Holds wr (H++(Hn++F))∧af w wr
def ad5(b sb:Nat)(l:LM)(T:List az)(w:World)(F:HL)(e:Ending)(w':World):Prop:=
 ∃(v:Value) (j:Nat) (ns:List Nt) (H Hn:HL),e=.returned (.tuple #[v,.nilIface])∧j<=T.length∧ns.length<=T.length∧(∀n∈ns,B8 T n)∧fM v ns Hn∧aT b sb {l with last:=l.last+j} H∧Holds w' (H++(Hn++F))∧af w w'
theorem Pu(T:List az){a q:Int}(ha:0<=a∧a<18446744073709551616)(hq:1<=q∧q<=1099511627775):B8 T ⟨true,⟨a,0,false,q⟩⟩:=by
 refine⟨⟨⟨ha,by show(-9223372036854775808:Int)<=0∧(0:Int)<=9223372036854775807;omega,by show(-9223372036854775808:Int)<=q∧q<=9223372036854775807;omega⟩,?_⟩,aQ rfl⟩;unfold Nt.ok;simp;omega
theorem Y5{T:List az}{e:az}(he:e∈T)(hf:e.fit)(d:Bool):B8 T ⟨false,⟨e.addr,e.aW,d,e.seq⟩⟩:=by
 obtain⟨h1,h2,h3⟩:=hf;refine⟨⟨⟨h1,by show(-9223372036854775808:Int)<=e.aW∧e.aW<=9223372036854775807;omega,by show(-9223372036854775808:Int)<=e.seq∧e.seq<=9223372036854775807;omega⟩,?_⟩,aE ⟨e,he,rfl,rfl,rfl⟩⟩;unfold Nt.ok;simp;omega
theorem Ld(d n a:Int)(y:Bool)(hd:d=1∨d=2)(hm:ek mb nm T Ms Hm)(hl:aT b sb l H)(hH:Holds w (H++(Hm++Fr)))(hT:dd T)(WO:T.length<=64)(hq:0<=l.last∧l.last<=1000000000):
  Calls Tryz.prog 75 #[.pointer (some ⟨mb,0,none⟩),.pointer (some ⟨b,0,none⟩),.agg #[.int .i64 d,.int .i64 n,.int .u64 a,.bool y]] w (ad5 b sb l T w (Hm++Fr)):=by
 have bM:=hH.alloc (.cells #[.int .i64 d,.int .i64 n,.int .u64 a,.bool y] 78);have cJ:=(af.refl w).alloc (.cells #[.int .i64 d,.int .i64 n,.int .u64 a,.bool y] 78);obtain⟨ab,Ls⟩:∃ab,ab=w.heap.size:=⟨_,rfl⟩;obtain⟨ob,IB⟩:∃ob,ob=Obj.cells #[.int .i64 d,.int .i64 n,.int .u64 a,.bool y] 78:=⟨_,rfl⟩;rw[<-Ls,<-IB]at bM;rw[<-IB]at cJ;obtain⟨tb,A,ct,cm⟩:=hm.rd;have jo:=aa cm;have Jh:=aa fun(wx:World) (F:HL) (hx:Holds wx ((ab,ob)::F))=>show wx.cell? ⟨ab,0,none⟩=some (.int .i64 d)∧wx.cell? ⟨ab,1,none⟩=some (.int .i64 n)∧wx.cell? ⟨ab,2,none⟩=some (.int .u64 a)∧wx.cell? ⟨ab,3,none⟩=some (.bool y)from by
  rw[IB]at hx;exact⟨hx.ae 0,hx.ae 1,hx.ae 2,hx.ae 3⟩
 have HT:=aa hT;have HL0:=aa hl;clear cm hm hl hH hT;go_enter func75,ntmps75;go_upto_region 2 with fail
 rw[<-IB,<-Ls]at*;generalize w.alloc ob=w1 at*;obtain⟨x0,x1,x2,x3⟩:=Jh.o w1 _ bM;have bD:acR b sb l T w ((ab,ob)::(Hm++Fr)) (.slice none 0 0) (.int .i64 0) w1:=⟨0,0,[],H,[],by omega,rfl,by omega,by simp,fun n hn=>absurd hn (by simp),au.nil _ _,by simpa using HL0.o,bM.p,cJ⟩;have Li:(d==0)=false:=beq_eq_false_iff_ne.2 (by omega);clear bM cJ HL0;rcases hd with rfl|rfl
 ·skip
  go_wp2_with fail
  go_loopw [8,12] (fun nv iv wr=>acR b sb l T w ((ab,ob)::(Hm++Fr)) nv iv wr) (fun _ iv _=>T.length-(intOf iv).toNat)
  case atStart=>exact bD
  case round=>
   clear bD x0 x1 x2 x3;obtain⟨k,j,ns,H,Hn,hk,rfl,hj,qP,cj,hn,hl,hH,hg⟩:=hrel;obtain⟨An,cn,rfl⟩:=hn.val;obtain⟨y0,y1,hE⟩:=jo.o wr (H++(Hn++((ab,ob)::Fr))) hH.p;obtain⟨x0,x1,x2,x3⟩:=Jh.o wr (H++(Hn++(Hm++Fr))) hH.p;by_cases aG:k<T.length
   ·have dQ:(k:Int)<T.length:=by omega
    have X7:(k:Int).tmod 60=((k%60:Nat):Int):=by rw[Int.tmod_eq_emod_of_nonneg (by omega)];omega
    obtain⟨A9,c9,Ay,_,_,bm⟩:=hE.cells;injection Ay with e1 e2 e3;subst e1;clear e2 e3;obtain⟨eb,eo,rfl,ae⟩:=bm (by omega);obtain⟨z0,z1,z2,z3⟩:=ae k aG;have iJ:=aa fun(wx:World) (F:HL) (hx:Holds wx (Hm++F))=>show wx.cell? ⟨mb,0,none⟩=some (.pointer (some ⟨tb,0,none⟩))∧wx.cell? ⟨tb,0,none⟩=some (.slice (some ⟨eb,eo,none⟩) T.length ct)∧wx.cell? ⟨eb,eo+k*4,none⟩=some (.int .u64 T[k].addr)from by
     obtain⟨z0,z1,hE⟩:=jo.o wx F hx;obtain⟨A8,c8,hv,_,_,bm⟩:=hE.cells;injection hv with e1 e2 e3;obtain⟨b3,o3,e4,ae⟩:=bm (by omega);rw[<-e1]at e4;injection e4 with e4;injection e4 with e5 e6;subst e5 e6;exact⟨z0,z1,(ae k aG).1⟩
    have Qg:=aa (cX aG);have uE:=aa (HT.o.1 _ (cX aG));generalize T[k]=x at*;have HO:=aa cj;have HN:=aa hn;have qR:=aa hl;have XG:0<=l.last+j∧l.last+j<=1000000000000:=by omega
    have oR:ns.length+1<=maxLen:=by simp only[maxLen];omega
    have Ju:(ns.length+1)*40<=140737488355328:=by omega
    clear bm ae hE cj hn hl;cases L9:(bits BinOp.and IntKind.i64 (n/2^(k%60)) 1==1)with
    |true=>
     go_upto_region 15 with fail
     clear y0 y1 x0 x1 x2 x3 z0 z1 z2 z3 L9;refine aF (fun wx=>wx.cell? ⟨mb,0,none⟩=some (.pointer (some ⟨tb,0,none⟩))∧wx.cell? ⟨tb,0,none⟩=some (.slice (some ⟨eb,eo,none⟩) T.length ct)∧wx.cell? ⟨eb,eo+k*4,none⟩=some (.int .u64 x.addr)) 19 (by kernel_rfl) (fun w1 hd=>iJ.o _ (H++(Hn++((ab,ob)::Fr))) (show Holds _ (Hm++(H++(Hn++((ab,ob)::Fr))))from(hH.dr hd).p)) (fun w1 hd hs=>?_);have dZ:=hH.dr hd;have iZ:=hg.trans (af.dr hd);clear hd hH hg;refine dY 0 1 2 3 ?_;refine dY 4 5 6 7 ?_;refine dY 8 9 10 11 ?_;refine ji 12 ?_;refine Zm 13 fun K hK=>?_;go_simp;refine(dg qR.o dZ XG.1 (by show l.last+j<=_;omega)).mono ?_;rintro e w3 ⟨rfl,H3,p7,aD,bj⟩;have Lt:=aa p7;have cf:=iZ.trans bj;clear p7 bj iZ dZ;dsimp only;refine hK _ _ (iJ.o _ (H3++(Hn++((ab,ob)::Fr))) aD.p) (fun _=>?_);clear hK K hs;rename_i hs;refine qL 14 15 ?_;refine Zm 16 fun K hK=>?_;go_simp;refine hK _ _ (iJ.o _ ((w3.heap.size,(.cells #[.bool true,.int .u64 x.addr,.int .i64 0,.bool false,.int .i64 (l.last+j+1)] 26))::(H3++(Hn++((ab,ob)::Fr)))) (show Holds (w3.alloc (.cells #[.bool true,.int .u64 x.addr,.int .i64 0,.bool false,.int .i64 (l.last+j+1)] 26)) _ from(aD.alloc _).p)) (fun _=>?_);clear hK K hs;rename_i hs;refine Zm 17 fun K hK=>?_;have hZ:Holds (w3.alloc (.cells #[.bool true,.int .u64 x.addr,.int .i64 0,.bool false,.int .i64 (l.last+j+1)] 26)) (Hn++((w3.heap.size,(.cells #[.bool true,.int .u64 x.addr,.int .i64 0,.bool false,.int .i64 (l.last+j+1)] 26))::(H3++((ab,ob)::(Hm++Fr))))):=(aD.alloc _).p;have lT:=cf.alloc (.cells #[.bool true,.int .u64 x.addr,.int .i64 0,.bool false,.int .i64 (l.last+j+1)] 26);generalize w3.alloc (.cells #[.bool true,.int .u64 x.addr,.int .i64 0,.bool false,.int .i64 (l.last+j+1)] 26)=wz at*;generalize w3.heap.size=gz at*;clear aD cf;refine bf B0 (by rfl) _ _ (by rfl) (by rfl) (by rfl) HN.o hZ (ag.ft (n:=1) (c:=1) (o:=0) (g:=gz) (hZ.get (b:=gz) (o:=(.cells #[.bool true,.int .u64 x.addr,.int .i64 0,.bool false,.int .i64 (l.last+j+1)] 26)) (by simp)) [.bool true,.int .u64 x.addr,.int .i64 0,.bool false,.int .i64 (l.last+j+1)] rfl (by omega) (by simp[maxLen]) (by intro j u hu;simpa using hu)) (by simp[Value.oneCell']) oR Ju ?_;intro A6 c6 w6 H6 gE bC eJ;refine hK _ _ (iJ.o _ (H3++(H6++((ab,ob)::Fr))) (show Holds w6 _ from bC.p)) (fun _=>?_);clear hK K hs;rename_i hs;refine ji 18 ?_;refine Ze ?_;clear hs iJ;have DQ:=aa (show fM (.slice A6 (ns.length+1) c6) (ns++[⟨true,⟨x.addr,0,false,l.last+j+1⟩⟩]) H6 from fM.snoc gE rfl);have di:Holds w6 (H3++(H6++((ab,ob)::(Hm++Fr)))):=bC.p;have iU:=lT.trans eJ;clear gE bC hZ lT eJ;go_wp2_with fail
     go_roundw
     case rel=>
      refine⟨k+1,j+1,_,H3,H6,by omega,rfl,by omega,by rw[aY,mT];omega,?_,DQ.o,?_,di,iU⟩
      ·intro m hm;rcases List.mem_append.1 hm with hm|hm
       ·exact HO.o m hm
       ·rw[List.mem_singleton.1 hm];exact Pu T uE.o.1 (by omega)
      ·rw[show l.last+((j+1:Nat):Int)=l.last+j+1 by omega];exact Lt.o
     case measure=>exact rj rfl aG
    |false=>
     clear iJ z0 z1 z2 z3;go_wp2_with fail
     go_roundw
     case rel=>exact⟨k+1,j,ns,H,Hn,by omega,rfl,by omega,by omega,HO.o,HN.o,qR.o,hH,hg⟩
     case measure=>exact rj rfl aG
   ·have dQ:¬(k:Int)<T.length:=by omega
    obtain rfl:k=T.length:=by omega
    have HN:=aa hn;have HO:=aa cj;have qR:=aa hl;clear hE cj hn hl;go_wp2_with fail
    go_ret2
    exact⟨_,j,ns,H,Hn,rfl,hj,qP,HO.o,HN.o,qR.o,hH.p,hg⟩
 ·skip
  go_wp2_with fail
  go_loopw [8,12] (fun nv iv wr=>acR b sb l T w ((ab,ob)::(Hm++Fr)) nv iv wr) (fun _ iv _=>T.length-(intOf iv).toNat)
  case atStart=>exact bD
  case round=>
   clear bD x0 x1 x2 x3;obtain⟨k,j,ns,H,Hn,hk,rfl,hj,qP,cj,hn,hl,hH,hg⟩:=hrel;obtain⟨An,cn,rfl⟩:=hn.val;obtain⟨y0,y1,hE⟩:=jo.o wr (H++(Hn++((ab,ob)::Fr))) hH.p;obtain⟨x0,x1,x2,x3⟩:=Jh.o wr (H++(Hn++(Hm++Fr))) hH.p;by_cases aG:k<T.length
   ·have dQ:(k:Int)<T.length:=by omega
    have X7:(k:Int).tmod 60=((k%60:Nat):Int):=by rw[Int.tmod_eq_emod_of_nonneg (by omega)];omega
    obtain⟨A9,c9,Ay,_,_,bm⟩:=hE.cells;injection Ay with e1 e2 e3;subst e1;clear e2 e3;obtain⟨eb,eo,rfl,ae⟩:=bm (by omega);obtain⟨z0,z1,z2,z3⟩:=ae k aG;have iJ:=aa fun(wx:World) (F:HL) (hx:Holds wx (Hm++F))=>show wx.cell? ⟨mb,0,none⟩=some (.pointer (some ⟨tb,0,none⟩))∧wx.cell? ⟨tb,0,none⟩=some (.slice (some ⟨eb,eo,none⟩) T.length ct)∧wx.cell? ⟨eb,eo+k*4,none⟩=some (.int .u64 T[k].addr)from by
     obtain⟨z0,z1,hE⟩:=jo.o wx F hx;obtain⟨A8,c8,hv,_,_,bm⟩:=hE.cells;injection hv with e1 e2 e3;obtain⟨b3,o3,e4,ae⟩:=bm (by omega);rw[<-e1]at e4;injection e4 with e4;injection e4 with e5 e6;subst e5 e6;exact⟨z0,z1,(ae k aG).1⟩
    have Qg:=aa (cX aG);have uE:=aa (HT.o.1 _ (cX aG));generalize T[k]=x at*;have HO:=aa cj;have HN:=aa hn;have qR:=aa hl;have XG:0<=l.last+j∧l.last+j<=1000000000000:=by omega
    have oR:ns.length+1<=maxLen:=by simp only[maxLen];omega
    have Ju:(ns.length+1)*40<=140737488355328:=by omega
    clear bm ae hE cj hn hl;cases L9:(bits BinOp.and IntKind.i64 (n/2^(k%60)) 1==1)with
    |true=>
     go_upto_region 15 with fail
     clear y0 y1 x0 x1 x2 x3 z0 z1 z2 z3 L9;refine aF (fun wx=>wx.cell? ⟨mb,0,none⟩=some (.pointer (some ⟨tb,0,none⟩))∧wx.cell? ⟨tb,0,none⟩=some (.slice (some ⟨eb,eo,none⟩) T.length ct)∧wx.cell? ⟨eb,eo+k*4,none⟩=some (.int .u64 x.addr)) 19 (by kernel_rfl) (fun w1 hd=>iJ.o _ (H++(Hn++((ab,ob)::Fr))) (show Holds _ (Hm++(H++(Hn++((ab,ob)::Fr))))from(hH.dr hd).p)) (fun w1 hd hs=>?_);have dZ:=hH.dr hd;have iZ:=hg.trans (af.dr hd);clear hd hH hg;refine dY 0 1 2 3 ?_;refine dY 4 5 6 7 ?_;refine dY 8 9 10 11 ?_;refine ji 12 ?_;refine Zm 13 fun K hK=>?_;go_simp;refine(dg qR.o dZ XG.1 (by show l.last+j<=_;omega)).mono ?_;rintro e w3 ⟨rfl,H3,p7,aD,bj⟩;have Lt:=aa p7;have cf:=iZ.trans bj;clear p7 bj iZ dZ;dsimp only;refine hK _ _ (iJ.o _ (H3++(Hn++((ab,ob)::Fr))) aD.p) (fun _=>?_);clear hK K hs;rename_i hs;refine qL 14 15 ?_;refine Zm 16 fun K hK=>?_;go_simp;refine hK _ _ (iJ.o _ ((w3.heap.size,(.cells #[.bool true,.int .u64 x.addr,.int .i64 0,.bool false,.int .i64 (l.last+j+1)] 26))::(H3++(Hn++((ab,ob)::Fr)))) (show Holds (w3.alloc (.cells #[.bool true,.int .u64 x.addr,.int .i64 0,.bool false,.int .i64 (l.last+j+1)] 26)) _ from(aD.alloc _).p)) (fun _=>?_);clear hK K hs;rename_i hs;refine Zm 17 fun K hK=>?_;have hZ:Holds (w3.alloc (.cells #[.bool true,.int .u64 x.addr,.int .i64 0,.bool false,.int .i64 (l.last+j+1)] 26)) (Hn++((w3.heap.size,(.cells #[.bool true,.int .u64 x.addr,.int .i64 0,.bool false,.int .i64 (l.last+j+1)] 26))::(H3++((ab,ob)::(Hm++Fr))))):=(aD.alloc _).p;have lT:=cf.alloc (.cells #[.bool true,.int .u64 x.addr,.int .i64 0,.bool false,.int .i64 (l.last+j+1)] 26);generalize w3.alloc (.cells #[.bool true,.int .u64 x.addr,.int .i64 0,.bool false,.int .i64 (l.last+j+1)] 26)=wz at*;generalize w3.heap.size=gz at*;clear aD cf;refine bf B0 (by rfl) _ _ (by rfl) (by rfl) (by rfl) HN.o hZ (ag.ft (n:=1) (c:=1) (o:=0) (g:=gz) (hZ.get (b:=gz) (o:=(.cells #[.bool true,.int .u64 x.addr,.int .i64 0,.bool false,.int .i64 (l.last+j+1)] 26)) (by simp)) [.bool true,.int .u64 x.addr,.int .i64 0,.bool false,.int .i64 (l.last+j+1)] rfl (by omega) (by simp[maxLen]) (by intro j u hu;simpa using hu)) (by simp[Value.oneCell']) oR Ju ?_;intro A6 c6 w6 H6 gE bC eJ;refine hK _ _ (iJ.o _ (H3++(H6++((ab,ob)::Fr))) (show Holds w6 _ from bC.p)) (fun _=>?_);clear hK K hs;rename_i hs;refine ji 18 ?_;refine Ze ?_;clear hs iJ;have DQ:=aa (show fM (.slice A6 (ns.length+1) c6) (ns++[⟨true,⟨x.addr,0,false,l.last+j+1⟩⟩]) H6 from fM.snoc gE rfl);have di:Holds w6 (H3++(H6++((ab,ob)::(Hm++Fr)))):=bC.p;have iU:=lT.trans eJ;clear gE bC hZ lT eJ;go_wp2_with fail
     go_roundw
     case rel=>
      refine⟨k+1,j+1,_,H3,H6,by omega,rfl,by omega,by rw[aY,mT];omega,?_,DQ.o,?_,di,iU⟩
      ·intro m hm;rcases List.mem_append.1 hm with hm|hm
       ·exact HO.o m hm
       ·rw[List.mem_singleton.1 hm];exact Pu T uE.o.1 (by omega)
      ·rw[show l.last+((j+1:Nat):Int)=l.last+j+1 by omega];exact Lt.o
     case measure=>exact rj rfl aG
    |false=>
     have ew:=hH.alloc (.cells #[.bool false,.int .u64 x.addr,.int .i64 x.aW,.bool x.bR,.int .i64 x.seq] 26);have qQ:=hg.alloc (.cells #[.bool false,.int .u64 x.addr,.int .i64 x.aW,.bool x.bR,.int .i64 x.seq] 26);go_upto_region 18 with fail
     generalize wr.alloc (.cells #[.bool false,.int .u64 x.addr,.int .i64 x.aW,.bool x.bR,.int .i64 x.seq] 26)=wX at*;generalize wr.heap.size=nb at*;clear y0 y1 z0 z1 z2 z3 x0 x1 x2 x3 L9 iJ;have x3:=(Jh.o wX ((nb,.cells #[.bool false,.int .u64 x.addr,.int .i64 x.aW,.bool x.bR,.int .i64 x.seq] 26)::(H++(Hn++(Hm++Fr)))) ew.p).2.2.2;have u3:=ew.ae 3;have f3:=ew.ah 3;have aon:=ew.aG;have oe:Holds (wX.setCell ⟨nb,3,none⟩ (.bool y)) ((nb,.cells #[.bool false,.int .u64 x.addr,.int .i64 x.aW,.bool y,.int .i64 x.seq] 26)::(H++(Hn++((ab,ob)::(Hm++Fr))))):=Holds.set ew 3 (.bool y);have WW:=qQ.setCell ⟨nb,3,none⟩ (.bool y);clear ew qQ hH hg;go_upto_region 19 with fail
     generalize wX.setCell ⟨nb,3,none⟩ (.bool y)=wY at*;clear u3 f3 aon x3;obtain⟨t0,t1,t2,t3,t4⟩:=oe.note;have xH:Holds wY (Hn++((nb,.cells #[.bool false,.int .u64 x.addr,.int .i64 x.aW,.bool y,.int .i64 x.seq] 26)::(H++((ab,ob)::(Hm++Fr))))):=oe.p;clear oe;go_wp2_with (at_builtin;refine al B0 (by rfl) (.tmp 105) (.tmp 107) (by rfl) (by rfl) (by rfl) HN.o (xH.bP _) (ag.many (w:=wY) (n:=1) (size:=5) (cs:=#[.bool false,.int .u64 x.addr,.int .i64 x.aW,.bool y,.int .i64 x.seq]) (by rfl) (by simp[maxLen])) (by simp[Value.oneCell']) oR Ju ?_;intro A6 c6 w6 H6 gE bC eJ)
     refine⟨⟨k+1,j,ns++[⟨false,⟨x.addr,x.aW,y,x.seq⟩⟩],H,H6,by omega,rfl,by omega,by rw[aY,mT];omega,?_,fM.snoc gE rfl,qR.o,bC.p,(WW.alloc _).trans eJ⟩,rj rfl aG⟩;intro m hm;rcases List.mem_append.1 hm with hm|hm
     ·exact HO.o m hm
     ·rw[List.mem_singleton.1 hm];exact Y5 Qg.o uE.o y
   ·have dQ:¬(k:Int)<T.length:=by omega
    obtain rfl:k=T.length:=by omega
    have HN:=aa hn;have HO:=aa cj;have qR:=aa hl;clear hE cj hn hl;go_wp2_with fail
    go_ret2
    exact⟨_,j,ns,H,Hn,rfl,hj,qP,HO.o,HN.o,qR.o,hH.p,hg⟩
theorem Le(d n a:Int)(y:Bool)(h0:d≠0)(h1:d≠1)(h2:d≠2)(pv lv:Value)(hH:Holds w Fr):
  Calls Tryz.prog 75 #[pv,lv,.agg #[.int .i64 d,.int .i64 n,.int .u64 a,.bool y]] w (cM (.tuple #[.slice none 0 0,.nilIface]) w Fr):=by
 have bM:=hH.alloc (.cells #[.int .i64 d,.int .i64 n,.int .u64 a,.bool y] 78);have cJ:=(af.refl w).alloc (.cells #[.int .i64 d,.int .i64 n,.int .u64 a,.bool y] 78);have b0:(d==0)=false:=beq_eq_false_iff_ne.2 h0;have b1:(d==1)=false:=beq_eq_false_iff_ne.2 h1;have b2:(d==2)=false:=beq_eq_false_iff_ne.2 h2;clear hH;go_enter func75,ntmps75;go_upto_region 2 with fail
 generalize w.alloc (.cells #[.int .i64 d,.int .i64 n,.int .u64 a,.bool y] 78)=w1 at*;generalize w.heap.size=ab at*;have x0:=bM.ae 0;go_wp2_with fail
 go_ret2
 exact⟨rfl,bM.tail,cJ⟩
def ad6(b sb cb g cap:Nat)(mv:Value)(l:LM)(r:SM×CM×Int×Int)(a:Int)(y:Bool)(w:World)(F:HL)(e:Ending)(w':World):Prop:=
 ∃H' ke cO,aT b sb {l with last:=l.last+1} H'∧cr sb cb r.1 ke∧ai cb g cap mv r.2.1 cO∧af w w'∧
  ((r.2.2.2=0∧∃v Hn,e=.returned (.tuple #[v,.nilIface])∧fM v [⟨false,⟨a,r.2.2.1,y,l.last+1⟩⟩] Hn∧Holds w' (H'++(ke++(cO++(Hn++F)))))∨
   (r.2.2.2≠0∧∃ve He,e=.returned (.tuple #[.slice none 0 0,ve])∧bJ ve r.2.2.2 He∧Holds w' (H'++(ke++(cO++(He++F))))))
theorem Ie(n a:Int)(y:Bool)(pv:Value)(hl:aT b sb l H)(hs:cr sb cb s Hs)(cz:ai cb g cap mv c Hc)(hH:Holds w (H++(Hs++(Hc++Fr))))(hC:aV s c)(hB:s.B<20)(fI:c.ops<=900000000000)(hq:0<=l.last∧l.last<=1000000000)(ha:0<=a∧a<18446744073709551616):
  Calls Tryz.prog 75 #[pv,.pointer (some ⟨b,0,none⟩),.agg #[.int .i64 0,.int .i64 n,.int .u64 a,.bool y]] w (ad6 b sb cb g cap mv l (bn s c ⟨1,a,l.last+1,0⟩ (br n 128)) a y w Fr):=by
 have k2:=cC;have k3:=cS;have bM:=hH.alloc (.cells #[.int .i64 0,.int .i64 n,.int .u64 a,.bool y] 78);have cJ:=(af.refl w).alloc (.cells #[.int .i64 0,.int .i64 n,.int .u64 a,.bool y] 78);obtain⟨ab,Ls⟩:∃ab,ab=w.heap.size:=⟨_,rfl⟩;obtain⟨ob,IB⟩:∃ob,ob=Obj.cells #[.int .i64 0,.int .i64 n,.int .u64 a,.bool y] 78:=⟨_,rfl⟩;rw[<-Ls,<-IB]at bM;rw[<-IB]at cJ;have Jh:=aa fun(wx:World) (F:HL) (hx:Holds wx ((ab,ob)::F))=>show wx.cell? ⟨ab,0,none⟩=some (.int .i64 0)∧wx.cell? ⟨ab,1,none⟩=some (.int .i64 n)∧wx.cell? ⟨ab,2,none⟩=some (.int .u64 a)∧wx.cell? ⟨ab,3,none⟩=some (.bool y)from by
  rw[IB]at hx;exact⟨hx.ae 0,hx.ae 1,hx.ae 2,hx.ae 3⟩
 have qR:=aa hl;have ZO:=hC.vu;have Tf:=hC.B;have Ts:=hC.Z;have ko:=aa fun(dv:Value) (wx:World) (F:HL) (hx:Holds wx (Hs++(Hc++F))) (Dx:bN (Hs++(Hc++F)) dv (br n 128))=>show Calls Tryz.prog 25 #[.pointer (some ⟨sb,0,none⟩),.agg #[.int .i64 1,.int .u64 a,.int .i64 (l.last+1),.int .i64 0],dv] wx (vU sb cb g cap mv (bn s c ⟨1,a,l.last+1,0⟩ (br n 128)) wx F)from
  py ⟨1,a,l.last+1,0⟩ (br n 128) dv hs cz hx ZO hB (by omega) Tf Ts Dx ha
 have Ji:Zh (∀(w:World) (F:HL) (h:Holds w F),Calls Tryz.prog 26 #[.int .i64 n,.int .i64 128] w (cB (fun v H=>ar v (br n 128) H) w F)):=aa (fun w F h=>qo n 128 w F h (by decide));generalize br n 128=D at*;generalize bn s c ⟨1,a,l.last+1,0⟩ D=r at*;have aoo:(0:Nat)+1<=maxLen:=by simp[maxLen]
 clear hl hs cz hH hC ZO Tf Ts;go_enter func75,ntmps75;go_upto_region 2 with fail
 rw[<-IB,<-Ls]at*;generalize w.alloc ob=w1 at*;obtain⟨x0,x1,x2,x3⟩:=Jh.o w1 _ bM;have TG:=aa (dg qR.o (show Holds w1 (H++((ab,ob)::(Hs++(Hc++Fr))))from bM.p) hq.1 (by omega));clear bM;go_wp2_with fail
 refine TG.o.mono ?_;rintro e w2⟨rfl,H2,lP,aB,aX⟩;have cY:=cJ.trans aX;obtain⟨_,_,bm⟩:=lP.cells;have SL:=aa lP;have iJ:=aa fun(wx:World) (F:HL) (hx:Holds wx (H2++((ab,ob)::F)))=>show wx.cell? ⟨b,1,none⟩=some (.pointer (some ⟨sb,0,none⟩))∧wx.cell? ⟨ab,1,none⟩=some (.int .i64 n)∧wx.cell? ⟨ab,2,none⟩=some (.int .u64 a)∧wx.cell? ⟨ab,3,none⟩=some (.bool y)from
  ⟨(bm wx _ hx).2.1,(Jh.o wx _ hx.right).2⟩
 clear lP aX cJ TG bm qR x0 x1 x2 x3;go_upto_region 5 with fail
 refine aF (fun wx=>wx.cell? ⟨b,1,none⟩=some (.pointer (some ⟨sb,0,none⟩))∧wx.cell? ⟨ab,1,none⟩=some (.int .i64 n)∧wx.cell? ⟨ab,2,none⟩=some (.int .u64 a)∧wx.cell? ⟨ab,3,none⟩=some (.bool y)) 15 (by kernel_rfl) (fun w1 hd=>iJ.o _ (Hs++(Hc++Fr)) (aB.dr hd)) (fun w1 hd hs=>?_);have dZ:=aB.dr hd;have iZ:=cY.trans (af.dr hd);clear hd aB cY;refine ji 0 ?_;refine lK 1 (some 22) rfl rfl (by kernel_rfl) (fun _ _ _ h=>h) (by rfl) hs (fun wx=>by go_simp) (fun wx hx=>tH wx hx.1) ?_;simp only[pt,sA,sS,sZ];refine dY 2 3 4 5 ?_;refine qL 6 7 ?_;refine Zm 8 fun K hK=>?_;go_simp;refine(Ji.o w1 _ dZ).mono ?_;rintro e w3 ⟨v3,H3,rfl,jF,aD,bj⟩;have vm:=aa jF;have cf:=iZ.trans bj;clear jF bj iZ dZ;refine hK _ _ (iJ.o _ (H3++(Hs++(Hc++Fr))) (show Holds w3 (H2++((ab,ob)::(H3++(Hs++(Hc++Fr)))))from aD.p)) (fun _=>?_);clear hK K hs;rename_i hs;refine Zm 9 fun K hK=>?_;go_simp;refine(ko.o v3 w3 (H3++(H2++((ab,ob)::Fr))) (show Holds w3 (Hs++(Hc++(H3++(H2++((ab,ob)::Fr)))))from aD.p) (fun wx hx=>vm.o.at_ (Fr:=Hs++(Hc++(H2++((ab,ob)::Fr)))) hx.p)).mono ?_;rintro e w4 ⟨ve,He,LX,tK,rfl,j9,sj,lU,aU,bV⟩;have LF:=aa j9;have vt:=aa sj;have Aj:=aa lU;have bI:=cf.trans bV;clear sj lU bV cf aD j9;refine hK _ _ (iJ.o _ (LX++(tK++(He++(H3++Fr)))) (show Holds w4 (H2++((ab,ob)::(LX++(tK++(He++(H3++Fr))))))from aU.p)) (fun _=>?_);clear hK K hs;rename_i hs;refine dY 10 11 12 13 ?_;refine ji 14 ?_;refine Ze ?_;clear hs ko Ji vm;have hY:Holds w4 (H2++((ab,ob)::(LX++(tK++(He++Fr))))):=aU.p;obtain⟨s0,s1,s2,s3⟩:=iJ.o _ _ hY;clear aU iJ;rcases LF.o with⟨h0,rfl,rfl⟩|⟨h0,eb,es,rfl,rfl⟩
 ·have hZ:Holds w4 (([]:HL)++(H2++((ab,ob)::(LX++(tK++Fr))))):=hY.p;obtain⟨pg,kg⟩:∃pg,pg=r.2.2.1:=⟨_,rfl⟩;rw[<-kg];have qF:=aa kg;have HR0:=aa h0;clear hY LF kg h0;go_wp2_with (at_builtin;refine al B0 (by rfl) (.tmp 36) (.tmp 45) (by rfl) (by rfl) (by rfl) (au.nil _ _) (hZ.bP _) (ag.many (w:=w4) (n:=1) (size:=5) (cs:=#[.bool false,.int .u64 a,.int .i64 pg,.bool y,.int .i64 (l.last+1)]) (by rfl) (by simp[maxLen])) (by simp[Value.oneCell']) aoo (by omega) ?_;intro A6 c6 w6 H6 gE bC eJ)
  go_ret2
  refine⟨H2,LX,tK,SL.o,vt.o,Aj.o,(bI.alloc _).trans eJ,.inl ⟨HR0.o,_,H6,rfl,?_,bC.p⟩⟩;rw[<-qF.o];exact gE
 ·have HH:=aa hY;have HR0:=aa h0;clear hY h0;go_wp2_with fail
  go_ret2
  exact⟨H2,LX,tK,SL.o,vt.o,Aj.o,bI,.inr ⟨HR0.o,_,_,rfl,LF.o,HH.o.p⟩⟩
end
section
variable{b sb cb mb g cap:Nat}{mv:Value}{nm:List UInt8}{N:Int}{s:SM}{c:CM}{l:LM}{H Hs Hc Hm Fr:HL}{w:World}{T:List az}{Ms:List (List az)}
theorem Sa(w:World){A:Option Addr}{n cp:Nat}(h:w.cell? ⟨b,6,none⟩=some (.slice A n cp)):Calls Tryz.prog 34 #[.pointer (some ⟨b,0,none⟩)] w (fun e w'=>e=.returned (.int .i64 (n:Int))∧w=w'):=by
 go_enter func34,ntmps34;go_wp2_with fail
 go_ret;exact⟨rfl,rfl⟩
def BD(T:List az)(s:SM)(ns:List Nt):Prop:=ns.length<=64∧(∀n∈ns,n.vg∧n.ok=true)∧∀j,j<=ns.length->dd (aI T (ns.take j))∧pP s (aI T (ns.take j))
theorem gy.acS(S:gy nm N l s c){ns:List Nt}(h1:ns.length<=64)(h2:∀n∈ns,B8 l.T n):BD l.T s ns:=by
 obtain⟨es,bK,nps,q0,I⟩:=S.inv;refine⟨h1,fun n hn=>(h2 n hn).1,fun j hj=>?_⟩;have XS:z8 l.T (aI l.T (ns.take j)):=(z8.refl l.T).apps fun n hn=>(h2 n (rJ hn)).2;exact⟨(I.lA.sub XS (qA I.lA.inc _)).1,S.F4.sub XS⟩
theorem gy.one(S:gy nm N l s c){e:az}(he:e.fit){p:Nat}{h:Hd}(hp:e.aW=(p:Int))(hl:aq s.hs (p:Int)=some h)(h3:h.k≠3)(h4:h.k≠4)(ei:∀x∈l.T,x.aW≠(p:Int)):BD l.T s [⟨false,e⟩]:=by
 obtain⟨es,bK,nps,q0,I⟩:=S.inv;obtain⟨h1,h2,h5⟩:=he;refine⟨by simp,fun n hn=>?_,fun j hj=>?_⟩
 ·rw[List.mem_singleton.1 hn];refine⟨⟨h1,by show(-9223372036854775808:Int)<=e.aW∧e.aW<=9223372036854775807;omega,by show(-9223372036854775808:Int)<=e.seq∧e.seq<=9223372036854775807;omega⟩,?_⟩;unfold Nt.ok;simp;omega
 ·have hj1:j=0∨j=1:=by simp at hj;omega
  rcases hj1 with rfl|rfl
  ·exact⟨I.lA,S.F4⟩
  ·show dd (fV l.T e)∧pP s (fV l.T e);refine⟨Ct (I.lA.inc.put e) (fun x hx=>?_) fun x hx y hy ha=>?_,fun x hx=>?_⟩
   ·rcases iS.1 hx with rfl|⟨hx,_⟩
    ·exact⟨h1,h2,h5⟩
    ·exact I.lA.1 x hx
   ·rcases iS.1 hx with qN|⟨qN,_⟩
    ·rcases iS.1 hy with uv|⟨uv,_⟩
     ·exact absurd (by rw[qN,uv]) ha
     ·rw[qN,hp];exact(ei y uv).symm
    ·rcases iS.1 hy with uv|⟨uv,_⟩
     ·rw[uv,hp];exact ei x qN
     ·exact I.lA.B7 qN uv ha
   ·rcases iS.1 hx with rfl|⟨hx,_⟩
    ·exact⟨p,h,hp,hl,h3,h4⟩
    ·exact S.F4 x hx
theorem BD.may(S:gy nm N l s c){ns:List Nt}(h:BD l.T s ns):lW l.T ns=true:=by
 obtain⟨es,bK,nps,q0,I⟩:=S.inv;obtain⟨h1,h2,h3⟩:=h;obtain⟨r1,r2⟩:=h3 ns.length (aN _);rw[fB]at r1 r2;have hl:=tG r1 (r2.ZU I.sin.cont S.F5);unfold lW;rw[List.all_eq_true.2 fun n hn=>(h2 n hn).2,Kg fun i j hi hj rF=>(r1.2 i j hi hj rF).2,decide_eq_true (by omega)];rfl
theorem gy.ad(S:gy nm N l s c):l.ad.length<=64:=by
 obtain⟨es,bK,nps,q0,I⟩:=S.inv;have:=kD l.ad (List.range 64) I.sin.nd fun n hn=>by
  obtain⟨h,d,_,_,h3⟩:=I.sin.look hn;rw[S.F5]at h3;exact List.mem_range.2 h3
 rwa[fP]at this
def JH(mb b sb cb g cap:Nat)(mv:Value)(nm:List UInt8)(N:Int)(d:Int)(l:LM)(c:CM)(Hm:HL)(w:World)(F:HL)(nv ev:Value)(wx:World):Prop:=
 ∃(l1:LM) (s1:SM) (c1:CM) (H1 kE jJ:HL),l1.T=l.T∧c1.ms=c.ms∧c1.ops<=c.ops+3000∧aT b sb l1 H1∧cr sb cb s1 kE∧ai cb g cap mv c1 jJ∧af w wx∧
  ((ev=.nilIface∧c1.on=true∧gy nm (N+70) l1 s1 c1∧∃ns Hn,fM nv ns Hn∧BD l.T s1 ns∧Holds wx (Hm++(H1++(kE++(jJ++(Hn++F))))))∨
   (∃code He,bJ ev code He∧d=0∧((code=7∧c1.on=true∧gy nm (N+70) l1 s1 c1)∨(code=4∧c1.on=false∧Bi nm (N+70) (fun T _ _=>T=l.T) c1))∧Holds wx (Hm++(H1++(kE++(jJ++(He++F)))))))
def JI(mb b sb cb g cap:Nat)(mv:Value)(nm:List UInt8)(N:Int)(d:Int)(c:CM)(w:World)(F:HL)(ev:Value)(wx:World):Prop:=
 ∃(l':LM) (s':SM) (c':CM) (T':List az) (rV:List (List az)) (tY H' ke cO He:HL) (code:Int),bJ ev code He∧(code=0∨code=4∨code=7)∧ek mb nm T' rV tY∧rV.length<=100∧
  (c'.on=true->gy nm (N+200) l' s' c'∧l'.T=T'∧T'∈rV)∧(d=4∨c'.on=false->Bi nm (N+200) (fun T _ _=>T∈rV) c')∧c'.ms=c.ms∧c'.ops<=c.ops+400000∧
  aT b sb l' H'∧cr sb cb s' ke∧ai cb g cap mv c' cO∧Holds wx (tY++(H'++(ke++(cO++(He++F)))))∧af w wx
def ajF(mb cb g cap:Nat)(mv:Value)(nm:List UInt8)(N:Int)(c:CM)(w:World)(F:HL)(e:Ending)(w':World):Prop:=
 ∃(b' ID:Nat) (l':LM) (s':SM) (c':CM) (rV:List (List az)) (tY H' ke cO:HL),e=.returned (.tuple #[.pointer (some ⟨b',0,none⟩),.bool true])∧gy nm N l' s' c'∧ek mb nm l'.T rV tY∧l'.T∈rV∧rV.length<=100∧c'.ms=c.ms∧c'.ops<=c.ops+4000000∧
  aT b' ID l' H'∧cr ID cb s' ke∧ai cb g cap mv c' cO∧Holds w' (tY++(H'++(ke++(cO++F))))∧af w w'
theorem pE(d n a:Int)(y:Bool)(S:gy nm N l s c)(hN:N<=100000)(hm:ek mb nm l.T Ms Hm)(hl:aT b sb l H)(hs:cr sb cb s Hs)(cz:ai cb g cap mv c Hc)(hH:Holds w (Hm++(H++(Hs++(Hc++Fr)))))(fI:c.ops<=10000000000)(ha:0<=a∧a<18446744073709551616):
  Calls Tryz.prog 30 #[.pointer (some ⟨mb,0,none⟩),.pointer (some ⟨cb,0,none⟩),.pointer (some ⟨b,0,none⟩),.agg #[.int .i64 d,.int .i64 n,.int .u64 a,.bool y]] w (ajF mb cb g cap mv nm (N+300) c w Fr):=by
 have k1:=nil_eq;have k2:=cC;have k3:=cS;have k4:=oF;have bM:=hH.alloc (.cells #[.int .i64 d,.int .i64 n,.int .u64 a,.bool y] 78);have cJ:=(af.refl w).alloc (.cells #[.int .i64 d,.int .i64 n,.int .u64 a,.bool y] 78);obtain⟨ab,Ls⟩:∃ab,ab=w.heap.size:=⟨_,rfl⟩;obtain⟨ob,IB⟩:∃ob,ob=Obj.cells #[.int .i64 d,.int .i64 n,.int .u64 a,.bool y] 78:=⟨_,rfl⟩;rw[<-Ls,<-IB]at bM;rw[<-IB]at cJ;have Jh:=aa fun(wx:World) (F:HL) (hx:Holds wx ((ab,ob)::F))=>show wx.cell? ⟨ab,0,none⟩=some (.int .i64 d)∧wx.cell? ⟨ab,1,none⟩=some (.int .i64 n)∧wx.cell? ⟨ab,2,none⟩=some (.int .u64 a)∧wx.cell? ⟨ab,3,none⟩=some (.bool y)from by
  rw[IB]at hx;exact⟨hx.ae 0,hx.ae 1,hx.ae 2,hx.ae 3⟩
 have HS:=aa S;have kV:=aa hs;have lS:=aa cz;have qR:=aa hl;have HM0:=aa hm;obtain⟨es0,au5,au6,q00,I0⟩:=S.inv;have aib:=I0.lA;have hlen:=I0.len;have hC:=I0.sin.cont;have hq:0<=l.last∧l.last<=1000000000:=⟨I0.kX.l0,by have:=S.last;omega⟩;have hB:s.B<20:=by rw[S.ja.1];omega
 have od:=aa (aS aib (aS hlen (aS hC (aS hq hB))));have acT:=I0.live.on;clear S hs cz hl hm hH I0 aib hlen hC hq hB;go_enter func30,ntmps30;go_upto_region 1 with fail
 rw[<-IB,<-Ls]at*;generalize w.alloc ob=w1 at*;obtain⟨tv,Dk⟩:=HM0.o.copied;obtain⟨c0,Dk⟩:=Dk w1 ((ab,ob)::(H++(Hs++(Hc++Fr)))) bM.p;have Ll:=aa Dk;clear Dk bM;go_wp2_with fail
 refine Ll.o.mono ?_;rintro e w2⟨v2,St,rfl,oU,aB,aX⟩;have oc:=uj.one oU (gb:=w2.heap.size);have dZ:=aB.alloc (.cells #[v2] 42);have iZ:=(cJ.trans aX).alloc (.cells #[v2] 42);obtain⟨DR,aaC,bz⟩:=HM0.o.P5 oc;obtain⟨aD,f1,jj,u1,x1⟩:=bz (w2.alloc (.cells #[v2] 42)) ((ab,ob)::(H++(Hs++(Hc++Fr)))) dZ.p;have cf:=iZ.setCell ⟨mb,1,none⟩ (.slice (some ⟨w2.heap.size,0,none⟩) 1 1);obtain⟨A2,c2,rfl⟩:=oU.val;have HM1:=aa aaC;clear Ll oc dZ iZ bz oU aB aX cJ HM0 aaC c0;go_upto_region 2 with fail
 generalize(w2.alloc (.cells #[.slice A2 l.T.length c2] 42)).setCell ⟨mb,1,none⟩ (.slice (some ⟨w2.heap.size,0,none⟩) 1 1)=w3 at*;clear f1 jj x1;go_cut [10,11]from 25 to 31 (fun nv ev wx=>JH mb b sb cb g cap mv nm N d l c DR w ((ab,ob)::Fr) nv ev wx)
 case first=>
  have SG:=aa cf;by_cases d0:d=0
  ·subst d0;have qJ:Holds w3 (H++(Hs++(Hc++(DR++((ab,ob)::Fr))))):=aD.p;obtain⟨x0,x1,x2,x3⟩:=Jh.o w3 _ (show Holds w3 ((ab,ob)::(H++(Hs++(Hc++(DR++Fr)))))from aD.p);have DA:=aa (Ie n a y (.pointer (some ⟨mb,0,none⟩)) qR.o kV.o lS.o qJ od.o.2.2.1 od.o.2.2.2.2 (by omega) od.o.2.2.2.1 ha);have rX:=HS.o.put (by omega) ha (yN n);have jK:=jC od.o.2.2.1 ⟨1,a,l.last+1,0⟩ (br n 128);dsimp only at rX;generalize bn s c ⟨1,a,l.last+1,0⟩ (br n 128)=r at*;have im:=jK.2.2.2.2.2;have ko:=aa rX;clear rX jK aD qJ cf;go_wp2_with fail
   refine DA.o.mono ?_;rintro e w4⟨H4,LX,tK,Bh,sj,lU,bV,Je⟩;have WS:=aa Bh;have vt:=aa sj;have Aj:=aa lU;have bI:=SG.o.trans bV;rcases Je with⟨h0,v,Hn,rfl,hn,aU⟩|⟨h0,ve,He,rfl,he,aU⟩
   ·rcases ko.o.2 with⟨_,S1,p,hp,Jw,nV,ei⟩|⟨h7,_⟩|⟨h4,_⟩;rotate_left
    ·omega
    ·omega
    have HN:=aa hn;have cP:=aa (show JH mb b sb cb g cap mv nm N 0 l c DR w ((ab,ob)::Fr) v .nilIface w4 from
     ⟨{l with last:=l.last+1},r.1,r.2.1,H4,LX,tK,rfl,ko.o.1,by omega,WS.o,vt.o,Aj.o,bI,.inl ⟨rfl,(by obtain⟨_,_,_,_,I⟩:=S1.inv;exact I.live.on),S1.mono (by omega),_,Hn,HN.o,
      S1.one (e:=⟨a,r.2.2.1,y,l.last+1⟩) ⟨ha,by rw[hp];show(0:Int)<=p∧(p:Int)<=255;omega,by show 1<=l.last+1∧l.last+1<=_;have:=od.o.2.2.2.1;omega⟩ hp nV (by show(1:Int)≠3;decide) (by show(1:Int)≠4;decide) ei,aU.p⟩⟩)
    clear Bh sj lU bV hn aU DA ko x0 x1 x2 x3;go_wp2_with fail
    go_meet
    exact cP.o
   ·have zi:(r.2.2.2=7∧r.2.1.on=true∧gy nm (N+70) {l with last:=l.last+1} r.1 r.2.1)∨(r.2.2.2=4∧r.2.1.on=false∧Bi nm (N+70) (fun T _ _=>T=l.T) r.2.1):=by
     rcases ko.o.2 with⟨h1,_⟩|⟨h7,S1⟩|⟨h4,yV,_,D1⟩
     ·exact absurd h1 h0
     ·exact .inl ⟨h7,(by obtain⟨_,_,_,_,I⟩:=S1.inv;exact I.live.on),S1.mono (by omega)⟩
     ·exact .inr ⟨h4,yV,D1.mono (by omega) fun _ _ _ h=>h⟩
    have cP:=aa (show JH mb b sb cb g cap mv nm N 0 l c DR w ((ab,ob)::Fr) (.slice none 0 0) ve w4 from
     ⟨{l with last:=l.last+1},r.1,r.2.1,H4,LX,tK,rfl,ko.o.1,by omega,WS.o,vt.o,Aj.o,bI,.inr ⟨r.2.2.2,He,he,rfl,zi,aU.p⟩⟩)
    obtain⟨be,se,rfl,rfl⟩:=cI he h0;clear Bh sj lU bV aU DA ko x0 x1 x2 x3 he zi;go_wp2_with fail
    go_meet
    exact cP.o
  ·by_cases d12:d=1∨d=2
   ·have qJ:Holds w3 (H++(DR++(Hs++(Hc++((ab,ob)::Fr))))):=aD.p;obtain⟨x0,x1,x2,x3⟩:=Jh.o w3 _ (show Holds w3 ((ab,ob)::(H++(Hs++(Hc++(DR++Fr)))))from aD.p);have DA:=aa (Ld d n a y d12 HM1.o qR.o qJ od.o.1 od.o.2.1 od.o.2.2.2.1);clear aD qJ cf;go_wp2_with fail
    refine DA.o.mono ?_;rintro e w4⟨v,j,ns,H4,Hn,rfl,hj,qP,cj,hn,Bh,aU,bV⟩;have HN:=aa hn;have WS:=aa Bh;have bI:=SG.o.trans bV;have au7:=od.o.2.1;have S1:=HS.o.num (k:=(j:Int)) (by omega);have cP:=aa (show JH mb b sb cb g cap mv nm N d l c DR w ((ab,ob)::Fr) v .nilIface w4 from
     ⟨{l with last:=l.last+j},s,c,H4,Hs,Hc,rfl,rfl,by omega,WS.o,kV.o,lS.o,bI,.inl ⟨rfl,acT,S1.mono (by omega),ns,Hn,HN.o,S1.acS (by omega) cj,aU.p⟩⟩)
    clear hn Bh bV aU DA x0 x1 x2 x3 cj S1;go_wp2_with fail
    go_meet
    exact cP.o
   ·obtain⟨x0,x1,x2,x3⟩:=Jh.o w3 _ (show Holds w3 ((ab,ob)::(H++(Hs++(Hc++(DR++Fr)))))from aD.p);have DA:=aa (Le d n a y d0 (fun h=>d12 (.inl h)) (fun h=>d12 (.inr h)) (.pointer (some ⟨mb,0,none⟩)) (.pointer (some ⟨b,0,none⟩)) aD);clear aD cf;go_wp2_with fail
    refine DA.o.mono ?_;rintro e w4⟨rfl,aU,bV⟩;have bI:=SG.o.trans bV;have cP:=aa (show JH mb b sb cb g cap mv nm N d l c DR w ((ab,ob)::Fr) (.slice none 0 0) .nilIface w4 from
     ⟨l,s,c,H,Hs,Hc,rfl,rfl,by omega,qR.o,kV.o,lS.o,bI,.inl ⟨rfl,acT,HS.o.mono (by omega),[],[],au.nil _ _,HS.o.acS (by simp) (fun n hn=>absurd hn (by simp)),aU.p⟩⟩)
    clear bV aU DA x0 x1 x2 x3;go_wp2_with fail
    go_meet
    exact cP.o
 case rest=>
  have DF:=od.o.2.1;have hr0:=od.o.1;clear aD cf qR kV lS HS od acT;obtain⟨l1,s1,c1,H1,kE,jJ,OG,Us,au8,iY,kU,jr,gY,uD⟩:=hcut;have FV:=aa iY;have IX:=aa kU;have sc:=aa jr;have hYY:∃F,Holds wc (H1++F):=by
   rcases uD with⟨_,_,_,ns,Hn,_,_,ax⟩|⟨code,He,_,_,_,ax⟩
   ·exact⟨_,(show Holds wc (H1++(DR++(kE++(jJ++(Hn++((ab,ob)::Fr))))))from ax.p)⟩
   ·exact⟨_,(show Holds wc (H1++(DR++(kE++(jJ++(He++((ab,ob)::Fr))))))from ax.p)⟩
  obtain⟨FY,hY⟩:=hYY;have AX:=aa (lj FV.o hY);have qF:=aa (lp FV.o hY);have HWY:=aa uD;have IF:=aa gY;obtain⟨pI,hpI⟩:∃pI:Int,pI=(l1.ad.length:Int):=⟨_,rfl⟩;rw[<-hpI]at qF;have LN:=aa hpI;clear iY kU jr gY uD hY hpI;go_wp2_with fail
  refine AX.o.mono ?_;rintro e w5⟨rfl,rfl⟩;go_wp2_with fail
  refine qF.o.mono ?_;rintro e w5⟨rfl,rfl⟩
  go_upto_block 0 with fail
  go_cut [11]from 14 to 105 (fun ev wx=>JI mb b sb cb g cap mv nm N d c w ((ab,ob)::Fr) ev wx)
  case first=>
   obtain⟨x0,x1,x2,x3⟩:wc.cell? ⟨ab,0,none⟩=some (.int .i64 d)∧wc.cell? ⟨ab,1,none⟩=some (.int .i64 n)∧wc.cell? ⟨ab,2,none⟩=some (.int .u64 a)∧wc.cell? ⟨ab,3,none⟩=some (.bool y):=by
    rcases HWY.o with⟨_,_,_,ns,Hn,_,_,ax⟩|⟨code,He,_,_,_,ax⟩
    ·exact Jh.o wc (DR++(H1++(kE++(jJ++(Hn++Fr))))) ax.p
    ·exact Jh.o wc (DR++(H1++(kE++(jJ++(He++Fr))))) ax.p
   rcases HWY.o with⟨rfl,Yf,S1,ns,Hn,hn,Xz,ax⟩|⟨code,He,he,rfl,zi,ax⟩
   ·have Mr:=aa S1;have WT:=aa Xz;have DQ:=aa hn;have Jw:=S1.ad;obtain⟨es,bK,nps,q0,I⟩:=S1.inv;have HI:=aa I;have hC:=I.sin.cont;have hL:=I.live;have sn:=S1.ja;have ui:=S1.last;have aoZ:=S1.aj;have aic:=I.kX.l0;have aop:=I.kX.g0;have au9:=I.kX.gt;have bm:c1.ops<=20000000000:=by omega
    obtain⟨An,cn,rfl⟩:=hn.val;clear S1 I hn Xz HWY;by_cases d3:d=3
    ·subst d3;have hYc:Holds wc (H1++(kE++(jJ++(DR++(Hn++((ab,ob)::Fr)))))):=ax.p;have FQ:=aa (sV FV.o IX.o sc.o hYc hC hL (by rw[sn.1];omega) (by omega) HI.o.kX.low HI.o.lA (by have:=HI.o.len;omega) ⟨aic,by omega⟩ ⟨by omega,by omega⟩ (by omega));have vp:=Mr.o.check (by omega);have SH:=Mr.o.yO (by omega);generalize aH l1 s1 c1=r at*;have D5:=aa (aS vp SH);clear ax hYc hC hL vp SH;go_wp2_with fail
     refine FQ.o.mono ?_;rintro e w6⟨ve,He,H6,Hs6,DO,rfl,he,Az,hs6,Bq,bC,eJ⟩;have aoq:=aa (lj Az bC);have hHR:Holds w6 (DR++(H6++(Hs6++(DO++(He++((ab,ob)::Fr)))))):=bC.p;have cP:=aa (show JI mb b sb cb g cap mv nm N 3 c w ((ab,ob)::Fr) ve w6 from
      ⟨r.1,r.2.1,r.2.2.1,l.T,[l.T],DR,H6,Hs6,DO,He,r.2.2.2,he,by rcases D5.o.1.2.2 with⟨h,_⟩|⟨h,_⟩|⟨h,_⟩<;>omega,HM1.o,by simp,
       fun fi=>by
        rcases D5.o.1.2.2 with⟨_,S2,_⟩|⟨_,S2⟩|⟨_,yV,_⟩
        ·exact⟨S2.mono (by omega),D5.o.1.1.trans OG,dC⟩
        ·exact⟨S2.mono (by omega),D5.o.1.1.trans OG,dC⟩
        ·rw[yV]at fi;exact absurd fi (by decide),
       fun yV=>by
        have yV:r.2.2.1.on=false:=by
         rcases yV with h|h
         ·exact absurd h (by decide)
         ·exact h
        rcases D5.o.1.2.2 with⟨_,S2,_⟩|⟨_,S2⟩|⟨_,_,_,D2⟩
        ·obtain⟨_,_,_,_,I2⟩:=S2.inv;rw[I2.live.on]at yV;exact absurd yV (by decide)
        ·obtain⟨_,_,_,_,I2⟩:=S2.inv;rw[I2.live.on]at yV;exact absurd yV (by decide)
        ·exact D2.mono (by omega) (fun T _ _ h=>by rw[h,OG];exact dC),
       D5.o.1.2.1.trans Us,by have:=D5.o.2;omega,Az,hs6,Bq,hHR,IF.o.trans eJ⟩)
     by_cases jQ:r.2.2.2=0
     ·rw[jQ]at he;obtain⟨rfl,rfl⟩:=de he;have hle:¬r.1.gen<=l1.gen:=by
       rcases D5.o.1.2.2 with⟨_,_,h,_⟩|⟨h,_⟩|⟨h,_⟩<;>omega
      clear he Az hs6 Bq bC eJ hHR FQ D5;go_wp2_with fail
      refine aoq.o.mono ?_;rintro e wx⟨rfl,rfl⟩;go_wp2_with fail
      go_meet
      exact cP.o
     ·obtain⟨be,se,rfl,rfl⟩:=cI he jQ;clear he Az hs6 Bq bC eJ hHR FQ D5 jQ;go_wp2_with fail
      go_meet
      exact cP.o
    ·by_cases d4:d=4
     ·subst d4;have cP:=aa (show JI mb b sb cb g cap mv nm N 4 c w ((ab,ob)::Fr) .nilIface wc from
       ⟨l1,s1,c1,l.T,[l.T],DR,H1,kE,jJ,[],0,bJ.none,.inl rfl,HM1.o,by simp,fun _=>⟨Mr.o.mono (by omega),OG,dC⟩,fun _=>Mr.o.toD.mono (by omega) (fun T _ _ h=>by rw[h.1,OG];exact dC),Us,by omega,FV.o,IX.o,sc.o,ax.p,IF.o⟩)
      clear ax hC hL;go_wp2_with fail
      go_meet
      exact cP.o
     ·have d3b:(d==3)=false:=beq_eq_false_iff_ne.2 d3;have d4b:(d !=4)=true:=by simpa using d4
      obtain⟨tv5,Yh⟩:=HM1.o.copied;obtain⟨c05,Yh⟩:=Yh wc _ ax;have aid:=aa Yh;have aie:s1.B<20∧c1.ops<=900000000000∧l1.T.length<=1000∧eU l1.T∧D4 l1.T∧l1.last<=1000000000∧l1.gen<=16000001∧l1.ad.length<=1000∧ns.length<=1000:=by
       refine⟨by rw[sn.1];omega,by omega,by have:=HI.o.len;omega,HI.o.lA.inc,fun e he=>(HI.o.lA.1 e he).2.1,by omega,by omega,by omega,by have:=WT.o.1;omega⟩
      have Dy:=aa aie;have hCM:=fun(wx:World) (F:HL) (hx:Holds wx (H1++(kE++(jJ++(Hn++F)))))=>jO (w:=wx) (Fr:=Hn++F) (.slice An ns.length cn) ns FV.o IX.o sc.o hx hC hL Dy.o.1 Dy.o.2.1 DQ.o.fr (fun n hn=>(WT.o.2.1 n hn).1) Dy.o.2.2.2.2.2.2.2.2 Dy.o.2.2.2.2.1 Dy.o.2.2.1 Dy.o.2.2.2.1 ⟨aic,Dy.o.2.2.2.2.2.1⟩ ⟨aop,Dy.o.2.2.2.2.2.2.1⟩ Dy.o.2.2.2.2.2.2.2.1;have oX:lW l1.T ns=true:=BD.may Mr.o (by rw[OG];exact WT.o);rw[show aA l1 s1 c1 ns=jI s1.Z (aO s1.Z ns) l1 s1 c1 by unfold aA;rw[if_pos oX]]at hCM;have nO:=Mr.o.ym (by omega) Dy.o.2.2.2.2.2.2.2.2 WT.o.2.1 (by rw[OG];exact WT.o.2.2);have SH:=Mr.o.uW (by omega) Dy.o.2.2.2.2.2.2.2.2 WT.o.2.1;dsimp only at nO;generalize jI s1.Z (aO s1.Z ns) l1 s1 c1=r at*;have pF:=aa hCM;have BE:=aa (aS nO SH);clear Yh ax hCM nO SH hC hL aie oX;go_wp2_with fail
      refine aid.o.mono ?_;rintro e w6⟨v6,ti,rfl,zO,bC,eJ⟩;obtain⟨A6,c6,rfl⟩:=zO.val;have Ov:=aa zO;have hYc:Holds w6 (H1++(kE++(jJ++(Hn++(ti++(DR++((ab,ob)::Fr))))))):=bC.p;have jn:=IF.o.trans eJ;clear aid zO bC eJ c05 x0 x1 x2 x3;go_wp2_with fail
      refine(pF.o w6 _ hYc).mono ?_;rintro e w7⟨ve,He,H7,SX,SY,rfl,he,vB,Tm,aif,cA,jk⟩;have hZ:Holds w7 (DR++(Hn++(H7++(SX++(SY++(He++(ti++((ab,ob)::Fr)))))))):=cA.p;have HMC:=aa (Ei (.slice An ns.length cn) ns HM1.o hZ DQ.o.fr WT.o.2.1 Dy.o.2.2.2.2.2.2.2.2 (by omega) hr0.inc);have fx:=jn.trans jk;have LY:=aa vB;have Oq:=aa Tm;have HC7:=aa aif;have HE7:=aa he;clear hYc pF vB Tm aif cA jk jn he hZ;have qP:ns.length<=64:=WT.o.1;go_wp2_with fail
      refine HMC.o.mono ?_;rintro e w8⟨rfl,XH,hm8,cT,ka⟩;have HM8:=aa hm8;have iT:=fx.trans ka;have SZ:Holds w8 (XH++(H7++(SX++(SY++(He++(ti++((ab,ob)::Fr))))))):=cT.p;clear hm8 cT ka fx HMC;obtain⟨A8,c8,Yi⟩:=HM8.o.getM;obtain⟨A9,c9,Yj⟩:=LY.o.qK;have iJ:=aa fun(wx:World) (F:HL) (hx:Holds wx (XH++(H7++F)))=>show wx.cell? ⟨b,6,none⟩=some (.slice A9 r.1.ad.length c9)∧wx.cell? ⟨mb,1,none⟩=some (.slice A8 (sx l.T (aO 128 ns)).length c8)from
       ⟨(Yj wx (XH++F) hx.p).1,(Yi wx _ hx).1⟩
      obtain⟨ml,tT⟩:∃ml,ml=(sx l.T (aO 128 ns)).length:=⟨_,rfl⟩;obtain⟨np,PW⟩:∃np,np=r.1.ad.length:=⟨_,rfl⟩;have acU:ml=(aO 128 ns).length+1:=by rw[tT];exact Wf _ _
      have X3:(aO 128 ns).length<=ns.length:=(fN (Z:=128) (aN _) ns.length ns (aN _)).2;have eB:aI l.T ns=aI l.T ((aO 128 ns).take (aO 128 ns).length).flatten:=by rw[fB,(fN (Z:=128) (aN _) ns.length ns (aN _)).1]
      rw[<-tT,<-PW]at iJ;have cP:=aa (show r.2.2.2=0∨r.2.2.2=4->∀wx,Holds wx (XH++(H7++(SX++(SY++(He++(ti++((ab,ob)::Fr)))))))->af w wx->JI mb b sb cb g cap mv nm N d c w ((ab,ob)::Fr) ve wx from fun ava wx hx Zw=>
       ⟨r.1,r.2.1,r.2.2.1,aI l.T ns,sx l.T (aO 128 ns),XH,H7,SX,SY,He,r.2.2.2,HE7.o,by omega,HM8.o,by rw[<-tT];omega,
        fun fi=>by
         rcases BE.o.1.2 with⟨_,S2,ZW,_⟩|⟨h7,_⟩|⟨_,yV,_⟩
         ·exact⟨S2.mono (by omega),by rw[ZW,OG],by rw[eB];exact wR _ _ _ (aN _)⟩
         ·omega
         ·rw[yV]at fi;exact absurd fi (by decide),
        fun yV=>by
         have yV:r.2.2.1.on=false:=by
          rcases yV with h|h
          ·exact absurd h d4
          ·exact h
         rcases BE.o.1.2 with⟨_,S2,_⟩|⟨h7,_⟩|⟨_,_,_,D2⟩
         ·obtain⟨_,_,_,_,I2⟩:=S2.inv;rw[I2.live.on]at yV;exact absurd yV (by decide)
         ·omega
         ·exact D2.mono (by omega) (fun T _ _ h=>by obtain⟨k,hk,h⟩:=h;rw[h,OG];exact wR _ _ _ hk),
        BE.o.1.1.trans Us,by have:=BE.o.2;omega,LY.o,Oq.o,HC7.o,hx.p,Zw⟩)
      have DK:0<=pI∧pI<=64:=by rw[LN.o];omega
      have avb:(ml:Int)<=65:=by omega
      rcases BE.o.1.2 with⟨c0',S2,ZW,vF,_⟩|⟨c7,S2,k,hk,ZW⟩|⟨c4,yV,_,D2⟩
      ·have pc:=HE7.o;rw[c0']at pc;obtain⟨rfl,rfl⟩:=de pc;have aih:(np:Int)=pI+(ml:Int)-1:=by rw[PW,vF,LN.o];omega
       have avc:((np:Int)!=IntKind.i64.wrap (IntKind.i64.wrap (pI+(ml:Int))-1))=false:=by
        have e:IntKind.i64.wrap (IntKind.i64.wrap (pI+(ml:Int))-1)=pI+(ml:Int)-1:=by rw[IntKind.wrap_i64,IntKind.wrap_i64];omega
        rw[e,aih];simp
       have pJ:=aa (cP.o (.inl c0'));clear pc S2 ZW vF aih cP BE tT PW acU X3 eB Yi Yj c0';go_upto_region 13 with fail
       refine aF (fun wx=>wx.cell? ⟨b,6,none⟩=some (.slice A9 np c9)∧wx.cell? ⟨mb,1,none⟩=some (.slice A8 ml c8)) 15 (by kernel_rfl) (fun w1 hd=>iJ.o _ _ (SZ.dr hd)) (fun w1 hd hs=>?_);have di:=SZ.dr hd;have iU:=iT.trans (af.dr hd);clear hd SZ iT;refine dY 0 1 2 3 ?_;refine lK 4 (some 73) rfl rfl (by kernel_rfl) (fun _ _ _ h=>h) (by rfl) hs (fun wx=>by go_simp) (fun wx hx=>Sa wx hx.1) ?_;simp only[pt,sA,sS,sZ];refine dY 5 6 7 8 ?_;refine dY 9 10 11 12 ?_;refine qL 13 14 ?_;refine Ze ?_;clear hs iJ;go_wp2_with fail
       go_meet
       exact pJ.o _ di iU
      ·have pc:=HE7.o;obtain⟨be,se,rfl,rfl⟩:=cI pc (by omega);have aor:r.2.2.1.on=true:=by obtain⟨_,_,_,_,I2⟩:=S2.inv;exact I2.live.on
       have kh:=aa S2;have WJ:=aa (show r.1.T∈sx l.T (aO 128 ns) by rw[ZW,OG];exact wR _ _ _ (by omega));have HML:=aa (show(sx l.T (aO 128 ns)).length<=100 by rw[<-tT];omega);have hHe:Holds w8 ([(be,.cells #[.int .i64 r.2.2.2,.string se] 143)]++(XH++(H7++(SX++(SY++(ti++((ab,ob)::Fr))))))):=SZ.p;rw[c7]at pc hHe;have avd:=aa c7;clear ZW S2;clear cP tT PW acU X3 eB Yi Yj;go_upto_region 13 with fail
       refine aF (fun wx=>wx.cell? ⟨b,6,none⟩=some (.slice A9 np c9)∧wx.cell? ⟨mb,1,none⟩=some (.slice A8 ml c8)) 15 (by kernel_rfl) (fun w1 hd=>iJ.o _ _ (SZ.dr hd)) (fun w1 hd hs=>?_);have di:=hHe.dr hd;have iU:=iT.trans (af.dr hd);clear hd SZ hHe iT;refine Ag 0 1 2 ?_;refine Zs 3 72 rfl hs ?_;simp only[pt,sA,sS,sZ];refine Zs 5 74 rfl hs ?_;simp only[pt,sA,sS,sZ];refine Zs 6 75 rfl hs ?_;simp only[pt,sA,sS,sZ];refine Zs 7 76 rfl hs ?_;simp only[pt,sA,sS,sZ];refine Zs 8 77 rfl hs ?_;simp only[pt,sA,sS,sZ];refine Zs 9 78 rfl hs ?_;simp only[pt,sA,sS,sZ];refine Zs 10 79 rfl hs ?_;simp only[pt,sA,sS,sZ];refine Zs 11 80 rfl hs ?_;simp only[pt,sA,sS,sZ];refine Zs 12 81 rfl hs ?_;simp only[pt,sA,sS,sZ];refine Zs 4 73 rfl hs ?_;simp only[pt,sA,sS,sZ];refine Zs 13 82 rfl hs ?_;simp only[pt,sA,sS,sZ];refine ji 14 ?_;refine Ze ?_;clear hs iJ;have tX:=aa (jL _ 7 _ _ w1 pc di (by omega));have Lq:=aa (wg HC7.o (show Holds w1 (SY++((be,.cells #[.int .i64 7,.string se] 143)::(XH++(H7++(SX++(ti++((ab,ob)::Fr)))))))from di.p));rw[aor]at Lq;have lY:Holds w1 (XH++(ti++([(be,.cells #[.int .i64 7,.string se] 143)]++(H7++(SX++(SY++((ab,ob)::Fr))))))):=di.p;have bM:=lY.alloc (.cells #[.slice A6 l.T.length c6] 70);have aii:=iU.alloc (.cells #[.slice A6 l.T.length c6] 70);have hrt:mR (.pointer (some ⟨w1.heap.size,0,none⟩)) l.T ((w1.heap.size,.cells #[.slice A6 l.T.length c6] 70)::ti):=⟨hr0.inc,fun e he=>(hr0.1 e he).1.1,by omega,_,_,ti,rfl,Ov.o,rfl⟩;obtain⟨Hm9,hm9,bz⟩:=HM8.o.ahJ hrt;obtain⟨dU,f0,Wu,u0,y0⟩:=bz (w1.alloc (.cells #[.slice A6 l.T.length c6] 70)) ([(be,.cells #[.int .i64 7,.string se] 143)]++(H7++(SX++(SY++((ab,ob)::Fr))))) bM.p;have ia:=aii.setCell ⟨mb,0,none⟩ (.pointer (some ⟨w1.heap.size,0,none⟩));have HM9:=aa hm9;clear lY bM aii hrt bz hm9 di iU;go_wp2_with fail
       refine Lq.o.mono ?_;rintro e wx⟨rfl,rfl⟩;go_upto_region 17 with fail
       generalize(w1.alloc (.cells #[.slice A6 l.T.length c6] 70)).setCell ⟨mb,0,none⟩ (.pointer (some ⟨w1.heap.size,0,none⟩))=lQ at*;clear f0 Wu y0 tX Lq;have aij:Holds lQ ([(be,.cells #[.int .i64 7,.string se] 143)]++(Hm9++(H7++(SX++(SY++((ab,ob)::Fr)))))):=dU.p;have tX:=aa (jL _ 7 _ _ lQ pc aij (by omega));have acV:nm=r.1.name:=kh.o.name.symm;have FZ:ek mb r.1.name l.T (sx l.T (aO 128 ns)) Hm9:=by rw[<-acV];exact HM9.o
       obtain⟨DM,ave,avf,q2,I2⟩:=kh.o.inv;have HSO:=aa (La FZ LY.o (show Holds lQ (Hm9++(H7++([(be,.cells #[.int .i64 7,.string se] 143)]++(SX++(SY++((ab,ob)::Fr))))))from dU.p) WJ.o I2.lA.inc (fun e he=>(I2.lA.1 e he).1.1) (by have:=I2.len;omega) (by have:=HML.o;omega));clear aij FZ I2 dU;go_wp2_with fail
       refine tX.o.mono ?_;rintro e wx⟨rfl,rfl⟩;go_wp2_with fail
       refine HSO.o.mono ?_;rintro e uw⟨rfl,H11,aik,iq,ss⟩;have aos:=aa (show ek mb nm r.1.T [r.1.T] H11 by rw[acV];exact aik);have aot:=aa iq;have aou:=BE.o.1.1;have Yk:=BE.o.2;clear aik iq acV;go_wp2_with fail
       go_ret2
       exact⟨b,sb,r.1,r.2.1,r.2.2.1,[r.1.T],H11,H7,SX,SY,rfl,kh.o.mono (by omega),aos.o,dC,by simp,aou.trans Us,by omega,LY.o,Oq.o,HC7.o,aot.o.p,ia.trans ss⟩
      ·have pc:=HE7.o;obtain⟨be,se,rfl,rfl⟩:=cI pc (by omega);have pJ:=aa (cP.o (.inr c4));have hHe:=SZ;clear D2;clear cP tT PW acU X3 eB Yi Yj;go_upto_region 13 with fail
       refine aF (fun wx=>wx.cell? ⟨b,6,none⟩=some (.slice A9 np c9)∧wx.cell? ⟨mb,1,none⟩=some (.slice A8 ml c8)) 15 (by kernel_rfl) (fun w1 hd=>iJ.o _ _ (SZ.dr hd)) (fun w1 hd hs=>?_);have di:=hHe.dr hd;have iU:=iT.trans (af.dr hd);clear hd SZ hHe iT;refine Ag 0 1 2 ?_;refine Zs 3 72 rfl hs ?_;simp only[pt,sA,sS,sZ];refine Zs 5 74 rfl hs ?_;simp only[pt,sA,sS,sZ];refine Zs 6 75 rfl hs ?_;simp only[pt,sA,sS,sZ];refine Zs 7 76 rfl hs ?_;simp only[pt,sA,sS,sZ];refine Zs 8 77 rfl hs ?_;simp only[pt,sA,sS,sZ];refine Zs 9 78 rfl hs ?_;simp only[pt,sA,sS,sZ];refine Zs 10 79 rfl hs ?_;simp only[pt,sA,sS,sZ];refine Zs 11 80 rfl hs ?_;simp only[pt,sA,sS,sZ];refine Zs 12 81 rfl hs ?_;simp only[pt,sA,sS,sZ];refine Zs 4 73 rfl hs ?_;simp only[pt,sA,sS,sZ];refine Zs 13 82 rfl hs ?_;simp only[pt,sA,sS,sZ];refine ji 14 ?_;refine Ze ?_;clear hs iJ;have Lq:=aa (wg HC7.o (show Holds w1 (SY++(XH++(H7++(SX++([(be,.cells #[.int .i64 r.2.2.2,.string se] 143)]++(ti++((ab,ob)::Fr)))))))from di.p));rw[yV]at Lq;go_wp2_with fail
       refine Lq.o.mono ?_;rintro e wx⟨rfl,rfl⟩;go_wp2_with fail
       go_meet
       exact pJ.o _ di iU
   ·have cP:=aa (show JI mb b sb cb g cap mv nm N 0 c w ((ab,ob)::Fr) _ wc from
     ⟨l1,s1,c1,l.T,[l.T],DR,H1,kE,jJ,He,code,he,by omega,HM1.o,by simp,
      fun fi=>by
       rcases zi with⟨_,_,S1⟩|⟨_,yV,_⟩
       ·exact⟨S1.mono (by omega),OG,dC⟩
       ·rw[yV]at fi;exact absurd fi (by decide),
      fun yV=>by
       rcases zi with⟨_,fi,_⟩|⟨_,_,D1⟩
       ·rcases yV with h|h
        ·exact absurd h (by decide)
        ·rw[h]at fi;exact absurd fi (by decide)
       ·exact D1.mono (by omega) (fun T _ _ h=>by rw[h];exact dC),
      Us,by omega,FV.o,IX.o,sc.o,ax,IF.o⟩)
    have jQ:code≠0:=by omega
    obtain⟨be,se,rfl,rfl⟩:=cI he jQ;clear he ax zi HWY;go_wp2_with fail
    go_meet
    exact cP.o
  case rest=>
   clear HWY LN AX qF sc IX FV IF HM1;obtain⟨l',s',c',T',rV,tY,H',ke,cO,He,code,he,zi,uy,aov,fi,L5,acW,Ut,vh,vo,eG,gK,WX⟩:=hcut;have HL:=aa vh;have HS:=aa vo;have HC:=aa eG;have HM:=aa uy;have Lq:=aa fi;have acX:=aa L5;have HG:=aa WX;clear vh vo uy fi L5 WX;go_upto_region 18 with fail
   go_cut [117]from 106 to 116 (fun bv wx=>bv=.bool false∧wx=wc)
   case first=>
    have HE:=aa he;have tX:=aa (fun(h0:0<=code)=>jL _ code He _ wc he (gK.p:Holds wc (He++(tY++(H'++(ke++(cO++((ab,ob)::Fr))))))) h0);rcases zi with rfl|rfl|rfl
    ·obtain⟨rfl,rfl⟩:=de he;clear he gK eG;go_wp2_with fail
     go_meet
     exact⟨rfl,rfl⟩
    ·obtain⟨be,se,rfl,_⟩:=cI he (by decide);have HN:=aa (tX.o (by omega));clear he gK eG tX;go_wp2_with fail
     refine HN.o.mono ?_;rintro e wx⟨rfl,rfl⟩;go_wp2_with fail
     go_meet
     exact⟨rfl,rfl⟩
    ·obtain⟨be,se,rfl,_⟩:=cI he (by decide);have HN:=aa (tX.o (by omega));clear he gK eG tX;go_wp2_with fail
     refine HN.o.mono ?_;rintro e wx⟨rfl,rfl⟩;go_wp2_with fail
     refine HN.o.mono ?_;rintro e wx⟨rfl,rfl⟩;go_wp2_with fail
     go_meet
     exact⟨rfl,rfl⟩
   case rest=>
    obtain⟨rfl,hwe⟩:=hcut;subst hwe;have fU:Holds wc (cO++((ab,ob)::(tY++(H'++(ke++Fr))))):=gK.p;obtain⟨x0,-⟩:=Jh.o wc (cO++(tY++(H'++(ke++Fr)))) fU.p;have ail:=aa (wg eG fU);have IC:ahead c'<25:=by have:=sK c';have:=eG.o7.2.2.2.2.2.2.1;omega
    clear he gK eG;go_upto_region 20 with fail
    go_cut [126]from 119 to 125 (fun bv wx=>bv=.bool (decide (d=4∨c'.on=false))∧wx=wc)
    case first=>
     by_cases h4:d=4
     ·subst h4;clear fU;go_wp2_with fail
      go_meet
      exact⟨by simp,rfl⟩
     ·have h4b:(d==4)=false:=beq_eq_false_iff_ne.2 h4;have lX:=ail.o;clear fU IC acW Ut;generalize c'.on=co at*;have DA:=aa lX;clear lX;cases co
      ·go_wp2_with fail
       refine DA.o.mono ?_;rintro e wx⟨rfl,rfl⟩;go_wp2_with fail
       go_meet
       exact⟨by simp,rfl⟩
      ·go_wp2_with fail
       refine DA.o.mono ?_;rintro e wx⟨rfl,rfl⟩;go_wp2_with fail
       go_meet
       exact⟨by simp[h4],rfl⟩
    case rest=>
     obtain⟨rfl,hwe⟩:=hcut;subst hwe;clear ail x0;by_cases ED:d=4∨c'.on=false
     ·rw[decide_eq_true ED];have AB:=aa (ni (acX.o ED) HC.o (show Holds wc (cO++(tY++Fr))from fU.p) IC (by omega));clear fU ED Lq acX HL HS HC;go_wp2_with fail
      refine AB.o.mono ?_;rintro e w5⟨b5,XI,l5,s5,c5,H5,jl,pZ,rfl,S5,⟨XJ,-⟩,ou,Gs,ki,lu,fS,bg,dJ⟩;have jH:=aa S5;have D6:nm=l5.name:=S5.name.symm;obtain⟨es5,aim,ain,q5,I5⟩:=S5.inv;have FZ:ek mb l5.name T' rV tY:=by rw[<-D6];exact HM.o
      have xB:=aa (rE FZ ki (show Holds w5 (tY++(H5++(jl++(pZ++Fr))))from bg.p) XJ I5.lA.inc (fun e he=>(I5.lA.1 e he).1.1) (by have:=I5.len;omega) (by omega));have pL:=aa ki;have xz:=aa lu;have tN:=aa fS;have eY:=HG.o.trans dJ;have aow:=ou.ms;clear S5 I5 FZ ki lu fS bg dJ AB HG XJ ou HM;go_wp2_with fail
      refine xB.o.mono ?_;rintro e w6⟨rfl,H6,OD,bC,eJ⟩;have HM6:=aa (show ek mb nm l5.T [l5.T] H6 by rw[D6];exact OD);have HH6:=aa bC;clear OD bC D6 xB;go_wp2_with fail
      go_ret2
      exact⟨b5,XI,l5,s5,c5,[l5.T],H6,H5,jl,pZ,rfl,jH.o.mono (by omega),HM6.o,dC,by simp,aow.trans acW,by omega,pL.o,xz.o,tN.o,HH6.o,eY.trans eJ⟩
     ·rw[decide_eq_false ED];have qU:c'.on=true:=by
       cases h:c'.on with
       |true=>rfl
       |false=>exact absurd (aE h) ED
      obtain⟨S',hT',aaD⟩:=Lq.o qU;have LZ:=aa S';have Qg:=aa aaD;have WY:=aa hT';have lY:Holds wc (H'++(tY++(ke++(cO++Fr)))):=fU.p;obtain⟨tb,At,ct,cm⟩:=HM.o.rd;have jo:=aa cm;have pH:=aa (show∀(wx:World) (va vb:Value),eC wx va l'.T->eC wx vb T'->Calls Tryz.prog 17 #[va,vb] wx (zQ wx (.bool true))from fun wx va vb h1 h2=>by
       have:=rr va vb l'.T T' wx h1 h2;rwa[decide_eq_true hT']at this)
      have Oo:=HG.o;clear S' hT' aaD cm Lq acX fU ED qU;go_upto_region 23 with fail
      refine aF (fun wx=>wx.cell? ⟨mb,0,none⟩=some (.pointer (some ⟨tb,0,none⟩))∧wx.cell? ⟨tb,0,none⟩=some (.slice At T'.length ct)) 13 (by kernel_rfl) (fun w1 hd=>(fun h=>aS h.1 h.2.1) (jo.o _ (H'++(ke++(cO++Fr))) (lY.dr hd).p)) (fun w1 hd hs=>?_);have di:=lY.dr hd;have iU:=Oo.trans (af.dr hd);clear hd lY Oo;refine dY 0 1 3 4 ?_;refine dY 5 6 7 8 ?_;refine ji 9 ?_;refine Zm 2 fun K hK=>?_;go_simp;refine(cD HL.o di).mono ?_;rintro e w3 ⟨v3,H3,rfl,pe,aD,bj⟩;have Ja:=aa pe;have OI:Holds w3 (tY++(H3++(H'++(ke++(cO++Fr))))):=aD.p;have cf:=iU.trans bj;clear pe aD bj iU di;refine hK _ _ ((fun h=>aS h.1 h.2.1) (jo.o _ _ OI)) (fun _=>?_);clear hK K hs;rename_i hs;refine Zm 10 fun K hK=>?_;go_simp;refine(pH.o w3 v3 (.slice At T'.length ct) (Ja.o.at_ (Fr:=tY++(H'++(ke++(cO++Fr)))) OI.p) (jo.o _ _ OI).2.2).mono ?_;rintro e w4 ⟨rfl,q,rfl⟩;have hY4:=OI.drewN q;have bI:=cf.drewN q;refine hK _ _ ((fun h=>aS h.1 h.2.1) (jo.o _ _ hY4)) (fun _=>?_);clear hK K hs;rename_i hs;refine qL 11 12 ?_;refine Ze ?_;have HY4:=aa hY4;clear hs OI hY4;go_wp2_with fail
      go_ret2
      exact⟨b,sb,l',s',c',rV,tY,H',ke,cO,rfl,LZ.o.mono (by omega),by rw[WY.o];exact HM.o,by rw[WY.o];exact Qg.o,aov,acW,by omega,HL.o,HS.o,HC.o,HY4.o.p,bI⟩
end
section
variable{b sb cb g cap:Nat}{mv:Value}{s:SM}{c:CM}{l:LM}{H Hs Hc Fr:HL}{w:World}
theorem N1(hC:aV s c)(lX:bc s=[]):nN s=[]:=by
 rw[List.eq_nil_iff_forall_not_mem];intro x hx;rw[(uV s).2 x,cL hC,lX]at hx;exact absurd hx (by simp[iQ])
theorem Ig(hs:cr sb cb s Hs)(hC:aV s c)(hH:Holds w (Hs++Fr))(lX:bc s=[])(hb:kN s=⟨[],0,0,0,[],[]⟩):
  Calls Tryz.prog 18 #[.pointer (some ⟨sb,0,none⟩)] w (fun e w'=>∃ve He,e=.returned (.tuple #[.pointer none,ve])∧bJ ve 8 He∧Holds w' (He++(Hs++Fr))∧af w w'):=by
 have Ob:=aa (sW (Fr:=Fr) hs hC hH hC.vu);rw[hb]at Ob;have AX:=aa fun(wx:World) (F:HL) (hx:Holds wx (Hs++F))=>C5 (w:=wx) (Fr:=F) hs hC hx;rw[N1 hC lX]at AX;have jD:=af.refl w;clear hs hH;go_enter func18,ntmps18;go_wp2_with fail
 refine Ob.o.mono ?_;rintro e w1⟨b,H,rfl,hl,ax,aK⟩;go_wp2_with fail
 refine(AX.o w1 (H++Fr) ax.p).mono ?_;rintro e w2⟨v,Hn,rfl,hn,aB,aX⟩;obtain⟨A,cn,rfl⟩:=hn.val;have bD:Holds w2 (H++(Hs++Fr))∧af w w2:=⟨aB.p,(jD.trans aK).trans aX⟩;have HL:=aa hl;clear hn aB aX aK ax AX hl Ob jD;go_wp2_with fail
 go_loopw [28] (fun iv wr=>iv=.int .i64 0∧Holds wr (H++(Hs++Fr))∧af w wr) (fun iv _=>0)
 case atStart=>exact⟨rfl,bD⟩
 case round=>
  clear bD;obtain⟨rfl,hH,hg⟩:=hrel;obtain⟨A6,cp6,kg⟩:=HL.o.qK;have x6:=(kg wr _ hH).1;have HW:=aa (lq 8 wr _ (by decide) (show Holds wr (Hs++Fr)from hH.p));clear kg hH;go_wp2_with fail
  refine HW.o.mono ?_;rintro e w3⟨ve,He,rfl,he,aD,bj⟩;go_wp2_with fail
  go_ret2
  exact⟨_,He,rfl,he,aD,hg.trans bj⟩
end
end Go.Proofs.YtalnifciidblkaaGreatDoor
