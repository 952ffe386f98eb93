/-
  Lemmas.
-/
import Derived.Test.YtalnifciidblkaaGreatDoorG05
import Derived.Test.YtalnifciidblkaaGreatDoorG14
import Derived.Test.YtalnifciidblkaaGreatDoorG24
import Derived.Test.YtalnifciidblkaaGreatDoorG17
import Derived.Test.YtalnifciidblkaaGreatDoorG33
namespace Go.Proofs.YtalnifciidblkaaGreatDoor
open _root_.Go.Proofs.Tryz
open Go.RowKit
set_option linter.unusedSimpArgs false
set_option linter.unusedVariables false
set_option maxRecDepth 20000
set_option maxHeartbeats 2000000
section
variable{b sb cb g cap:Nat}{mv:Value}{s:SM}{c:CM}{l:LM}{H Hs Hc Fr:HL}{w:World}
def uF(es:List az):Bool:=decide ((es.map (·.aW)).Nodup)
def lW(T:List az)(ns:List Nt):Bool:=ns.all Nt.ok&&(uF (aI T ns)&&decide ((aI T ns).length<=256))
def D4(es:List az):Prop:=∀e∈es,0<=e.aW∧e.aW<=255
theorem D4.app{T:List az}(h:D4 T){n:Nt}(hn:n.ok=true):D4 (su T n):=by
 intro e he;unfold su at he;split at he
 ·exact h e (qx.1 he).1
 ·rcases iS.1 he with rfl|⟨he,_⟩
  ·next hg=>
   unfold Nt.ok at hn;rw[if_neg hg]at hn;simp only[fW,decide_eq_true_eq]at hn;exact hn.2
  ·exact h e he
theorem ry(T:List az)(ns:List Nt)(n:Nt):aI T (ns++[n])=su (aI T ns) n:=by simp[aI]
theorem Wa{T:List az}(h:eU T)(n:Nt):(su T n).length<=T.length+1:=by
 unfold su;split
 ·have:=VT T n.e.addr;omega
 ·exact(GL h n.e).1
theorem jN{T:List az}(h:eU T):∀ns:List Nt,(aI T ns).length<=T.length+ns.length:=by
 intro ns
 induction ns generalizing T with
 |nil=>exact aN _
 |cons n ns ih=>
  have h1:=ih (Kd h n);have h2:=Wa h n;show(aI (su T n) ns).length<=_;rw[fC];omega
theorem D4.apps{T:List az}(h:D4 T):∀{ns:List Nt},(∀n∈ns,n.ok=true)->D4 (aI T ns):=by
 intro ns
 induction ns generalizing T with
 |nil=>intro _;exact h
 |cons n ns ih=>intro hn;exact ih (h.app (hn n dC)) fun m hm=>hn m (fA _ hm)
theorem Y0{es:List az}{k:Nat}{p:Nat}(h:jf es k p=false):∀i (hi:i<es.length),i<k->es[i].aW≠(p:Int):=by
 intro i hi hik e;unfold jf at h;rw[List.any_eq_false]at h;have:=h es[i] (List.mem_take_iff_getElem.2 ⟨i,by omega,rfl⟩);simp[e]at this
theorem Wb{es:List az}{k:Nat}{p:Nat}(h:jf es k p=true):∃i,∃hi:i<es.length,i<k∧es[i].aW=(p:Int):=by
 unfold jf at h;rw[List.any_eq_true]at h;obtain⟨x,hx,e⟩:=h;obtain⟨i,hi,rfl⟩:=List.mem_take_iff_getElem.1 hx;exact⟨i,by omega,by omega,by simpa using e⟩
theorem Y1{es:List az}{i k:Nat}(hi:i<es.length)(hk:k<es.length)(hik:i<k)(he:es[i].aW=es[k].aW):uF es=false:=by
 unfold uF;rw[decide_eq_false_iff_not,vL,rK,BM];intro h;exact h i k hi hk hik he
theorem Kg{es:List az}(h:∀i j (hi:i<es.length) (hj:j<es.length),i<j->es[i].aW≠es[j].aW):uF es=true:=by
 unfold uF;rw[decide_eq_true_eq,vL,rK,BM];exact h
def ahC(tv:Value)(T:List az)(ns:List Nt)(w:World)(F:HL)(iv:Value)(wr:World):Prop:=
 ∃(k:Nat) (Ht:HL),k<=ns.length∧iv=.int .i64 k∧(∀n∈ns.take k,n.ok=true)∧IsTable tv (aI T (ns.take k)) Ht∧Holds wr (Ht++F)∧af w wr
def ahD(gb:Nat)(es:List az)(ev:Value)(w:World)(F:HL)(iv:Value)(wr:World):Prop:=
 ∃(k:Nat) (He:HL),k<=es.length∧iv=.int .i64 k∧(∀i j (hi:i<es.length) (hj:j<es.length),j<k->i<j->es[i].aW≠es[j].aW)∧aP ev es He∧Holds wr ((gb,fK (jf es k))::(He++F))∧af w wr
theorem RF(v:Value)(ns:List Nt)(h:aT b sb l H)(hH:Holds w (H++Fr))(hv:cU Fr v ns)(iu:∀n∈ns,n.vg)(hlen:ns.length<=1000)(hT:D4 l.T)(WO:l.T.length<=1000)(F0:eU l.T):
  Calls Tryz.prog 51 #[.pointer (some ⟨b,0,none⟩),v] w (cM (.bool (lW l.T ns)) w (H++Fr)):=by
 obtain⟨tb,Ht,Ho,hc,ht,rU,-⟩:=h.table;have c0:=hc w Fr hH;have HA:=aa (Nz _ _ Ht (Ho++Fr) w ht ((rU w Fr).1 hH));have dj:=aa fun wx F=>(rU wx F).2;have HV:=aa hv;have Am:=aa iu;have HT:=aa hT;have HTI:=aa F0;obtain⟨-,A,cn,rfl,-,-,-⟩:=hv w hH.right;obtain⟨res,cH⟩:∃r,r=lW l.T ns:=⟨_,rfl⟩;rw[<-cH];have cP:=aa cH;generalize l.T=T at*;clear h hc rU hH hv iu hT F0 ht cH;go_enter func51,ntmps51;go_wp2_with fail
 refine HA.o.mono ?_;rintro e w1⟨tv,Hx,rfl,hx,ax,aK⟩;have bD:ahC tv T ns w (H++Fr) (.int .i64 0) w1:=⟨0,Hx,by omega,rfl,fun n hn=>absurd hn (by simp),hx,(dj.o w1 (Hx++Fr) (show Holds w1 (Ht++(Ho++(Hx++Fr)))from ax.p)).p,aK⟩;obtain⟨tx,rfl⟩:=hx.ptr;clear HA hx ax aK c0;go_wp2_with fail
 go_loopw [18] (fun iv wr=>ahC (.pointer (some ⟨tx,0,none⟩)) T ns w (H++Fr) iv wr) (fun iv _=>ns.length-(intOf iv).toNat)
 case atStart=>exact bD
 case round=>
  clear bD;obtain⟨k,Ht,hk,rfl,cj,ht,hH,hg⟩:=hrel;by_cases aG:k<ns.length
  ·have dQ:(k:Int)<ns.length:=by omega
   obtain⟨b1,o1,rfl,y0,y1,y2,y3,y4⟩:=(HV.o wr hH.right.right).get aG;have HNI:=aa (Am.o _ (cX aG));have jP:=aa (show ns.take (k+1)=ns.take k++[ns[k]]from gB aG);have DA:=aa (show ns[k].ok=false->lW T ns=false from fun h=>by
    unfold lW;rw[show ns.all Nt.ok=false from List.all_eq_false.2 ⟨_,cX aG,by simp[h]⟩];rfl)
   generalize ns[k]=n at*;obtain⟨gn,⟨ea,ep,ed,eq⟩⟩:=n;dsimp only at y0 y1 y2 y3 y4;have bM:=hH.alloc (.cells #[.bool gn,.int .u64 ea,.int .i64 ep,.bool ed,.int .i64 eq] 26);have cJ:=hg.alloc (.cells #[.bool gn,.int .u64 ea,.int .i64 ep,.bool ed,.int .i64 eq] 26);have Xh:=aa ht;clear hH hg ht;go_upto_region 5 with fail
   generalize wr.alloc (.cells #[.bool gn,.int .u64 ea,.int .i64 ep,.bool ed,.int .i64 eq] 26)=w2 at*;generalize wr.heap.size=nb at*;clear y0 y1 y2 y3 y4;obtain⟨z0,z1,z2,z3,z4⟩:=bM.note;have tX:=aa (show Calls Tryz.prog 98 #[.agg #[.bool gn,.int .u64 ea,.int .i64 ep,.bool ed,.int .i64 eq]] w2 _ from Fo ⟨gn,⟨ea,ep,ed,eq⟩⟩ w2 _ bM);have auZ:(aI T (ns.take k)).length<=2000:=by have:=jN HTI.o (ns.take k);rw[dG]at this;omega
   have hea:0<=ea:=HNI.o.1.1;clear bM;cases Qm:Nt.ok ⟨gn,⟨ea,ep,ed,eq⟩⟩with
   |false=>
    rw[Qm]at tX;have cH:res=false:=by rw[cP.o,DA.o Qm]
    clear Qm;subst cH;go_wp2_with fail
    refine tX.o.mono ?_;rintro e w3⟨rfl,aD,bj⟩;go_wp2_with fail
    go_ret;exact⟨rfl,aD.tail.right,cJ.trans bj⟩
   |true=>
    rw[Qm]at tX;have Ud:=aa Qm;clear Qm;go_wp2_with fail
    refine tX.o.mono ?_;rintro e w3⟨rfl,aD,bj⟩;have aU:Holds w3 (Ht++((nb,.cells #[.bool gn,.int .u64 ea,.int .i64 ep,.bool ed,.int .i64 eq] 26)::(H++Fr))):=aD.p;have SR:=aa (show Calls Tryz.prog 55 #[.pointer (some ⟨tx,0,none⟩),.agg #[.bool gn,.int .u64 ea,.int .i64 ep,.bool ed,.int .i64 eq]] w3 _ from sR _ _ ⟨gn,⟨ea,ep,ed,eq⟩⟩ Xh.o aU hea (by omega));have cf:=cJ.trans bj;obtain⟨z0,z1,z2,z3,z4⟩:=aD.note;clear aD aU bj cJ tX Xh;have zP:=kH (k:=k) (by omega);go_wp2_with fail
    refine SR.o.mono ?_;rintro e w4⟨rfl,H4,ht4,bg,dJ⟩;go_wp2_with fail
    go_roundw
    case rel=>
     refine⟨k+1,H4,aG,by simp,?_,?_,bg.p,cf.trans dJ⟩
     ·rw[jP.o];intro n hn;rcases List.mem_append.1 hn with hn|hn
      ·exact cj n hn
      ·rw[List.mem_singleton.1 hn];exact Ud.o
     ·rw[jP.o,ry];exact ht4
    case measure=>
     clear zP;simp[intOf];omega
  ·have dQ:¬(k:Int)<ns.length:=by omega
   obtain rfl:k=ns.length:=by omega
   rw[fB]at cj ht;have HIP:=aa (HT.o.apps cj);have sr:=aa (show ns.all Nt.ok=true from List.all_eq_true.2 cj);have Xm:=jN HTI.o ns;have SA:=aa (show res=(uF (aI T ns)&&decide ((aI T ns).length<=256)) by rw[cP.o];unfold lW;rw[sr.o,Bool.true_and]);generalize aI T ns=L at*;have Xh:=aa ht;have dZ:=hH.alloc (fK fun _=>false);have iZ:=hg.alloc (fK fun _=>false);clear cj hH hg ht sr cP;go_upto_region 10 with fail
   rw[show Obj.cells Tryz.zeroCells72 72=fK fun _=>false by kernel_rfl];generalize wr.alloc (fK fun _=>false)=w2 at*;generalize wr.heap.size=gb at*;have qJ:Holds w2 (Ht++((gb,fK fun _=>false)::(H++Fr))):=dZ.p;have HA:=aa (ru _ _ Ht _ w2 Xh.o qJ);clear dZ qJ;go_wp2_with fail
   refine HA.o.mono ?_;rintro e w3⟨ev,He,rfl,he,aD,bj⟩;have kp:ahD gb L ev w (Ht++(H++Fr)) (.int .i64 0) w3:=⟨0,He,by omega,rfl,fun i j _ _ hj=>by omega,he,(show Holds w3 ((gb,fK fun _=>false)::(He++(Ht++(H++Fr))))from aD.p),iZ.trans bj⟩;obtain⟨A5,c5,rfl⟩:=he.val;clear he aD bj iZ HA;go_wp2_with fail
   go_loopw [32] (fun iv wr=>ahD gb L (.slice A5 L.length c5) w (Ht++(H++Fr)) iv wr) (fun iv _=>L.length-(intOf iv).toNat)
   case atStart=>exact kp
   case round=>
    clear kp;obtain⟨k,He,hk,rfl,Qj,he,hH,hg⟩:=hrel;by_cases aG:k<L.length
    ·have dQ:(k:Int)<L.length:=by omega
     obtain⟨A9,c9,Ay,_,_,bm⟩:=(he.at_ (Fr:=(gb,fK (jf L k))::(Ht++(H++Fr))) hH.p).cells;injection Ay with zZ Gi DZ;subst zZ DZ;clear Gi;obtain⟨b2,o2,rfl,ae⟩:=bm (by omega);obtain⟨y0,y1,y2,y3⟩:=ae k aG;obtain⟨rH,sk⟩:=HIP.o _ (cX aG);have Ox:=aa (fun p hp=>uR (es:=L) (p:=p) aG hp);have HPE:=aa (show L[k].aW=L[k].aW from rfl);have DA:=aa (show∀p:Nat,L[k].aW=(p:Int)->jf L k p=true->res=false from fun p hp WQ=>by
      obtain⟨i,hi,hik,e⟩:=Wb WQ;rw[SA.o,Y1 hi aG hik (by rw[e,hp])];rfl)
     have HDI:=aa (show∀p:Nat,L[k].aW=(p:Int)->jf L k p=false->∀i j (hi:i<L.length) (hj:j<L.length),j<k+1->i<j->L[i].aW≠L[j].aW from fun p hp WQ i j hi hj qE rF=>by
      by_cases e:j=k
      ·subst e;rw[hp];exact Y0 WQ i hi rF
      ·exact Qj i j hi hj (by omega) rF)
     generalize L[k]=n at*;obtain⟨ea,ep,ed,eq⟩:=n;dsimp only at y0 y1 y2 y3 rH sk Ox DA HDI;obtain⟨p,rfl⟩:=Int.eq_ofNat_of_zero_le rH;have Ty:=Ox.o p rfl;have lX:=DA.o p rfl;have ahE:=aa (HDI.o p rfl);have ZJ:p<256:=by omega
     have hpI:(p:Int)<256:=by omega
     have HHE:=aa he;have bM:=hH.alloc (.cells #[.int .u64 ea,.int .i64 (p:Int),.bool ed,.int .i64 eq] 24);have cJ:=hg.alloc (.cells #[.int .u64 ea,.int .i64 (p:Int),.bool ed,.int .i64 eq] 24);clear rH sk Ox DA HDI Qj bm ae hH hg he HPE;go_upto_region 13 with fail
     generalize wr.alloc (.cells #[.int .u64 ea,.int .i64 (p:Int),.bool ed,.int .i64 eq] 24)=w4 at*;generalize wr.heap.size=eb at*;clear y0 y1 y2 y3;have z1:=bM.ae 1;obtain⟨z4,z5⟩:=my bM.tail ZJ;cases WQ:jf L k p with
     |true=>
      have cH:=lX WQ;rw[WQ]at z4;clear lX Ty WQ;subst cH;have Ir:=aa bM;clear bM;go_wp2_with fail
      go_ret;exact⟨rfl,Ir.o.p,cJ⟩
     |false=>
      rw[WQ]at z4;have HD3:=aa (ahE.o WQ);have zP:=kH (k:=k) (by omega);have ew:Holds w4 ((gb,fK (jf L k))::((eb,.cells #[.int .u64 ea,.int .i64 (p:Int),.bool ed,.int .i64 eq] 24)::(He++(Ht++(H++Fr))))):=bM.p;have hX:=sL ew p true;have qQ:=cJ.setCell ⟨gb,p,none⟩ (.bool true);have SB:=ew.aG;rw[Ty]at hX;clear lX Ty WQ ahE ew bM cJ;go_wp2_with fail
      go_roundw
      case rel=>exact⟨k+1,He,aG,by simp,HD3.o,HHE.o,hX.p,qQ⟩
      case measure=>
       clear zP;simp[intOf];omega
    ·have dQ:¬(k:Int)<L.length:=by omega
     obtain rfl:k=L.length:=by omega
     have ahF:uF L=true:=Kg fun i j hi hj rF=>Qj i j hi hj hj rF;have cH:res=decide (L.length<=256):=by rw[SA.o,ahF,Bool.true_and]
     have nW:=aa (Np _ _ Ht _ wr Xh.o (show Holds wr (Ht++((gb,fK (jf L L.length))::(He++(H++Fr))))from hH.p));have vi:=aa (show Holds wr (H++Fr)from hH.p);clear ahF Qj he hH;have iP:res=decide ((L.length:Int)<=256):=by rw[cH];exact decide_eq_decide.2 (by omega)
     clear cH;subst iP;go_wp2_with fail
     refine nW.o.mono ?_;rintro e w5⟨rfl,q,rfl⟩;go_wp2_with fail
     go_ret;exact⟨rfl,vi.o.drewN q,hg.drewN q⟩
end
section
variable{s s':SM}{c c':CM}
theorem NM(h:Hd)(raw:List UInt8):∀(n:Nat) (s:SM) (c:CM),s.B<=32->c.iV (xQ h raw n s c).2.1 (70*n):=by
 intro n
 induction n with
 |zero=>intro s c _;exact CM.iV.refl c
 |succ n ih=>
  intro s c hB;have ht:=yF s c;have Be:=ht.2.1;have htB:=ht.1.1;rw[xQ];split
  ·exact Be.mono (by omega)
  ·generalize eE s c=r at*;obtain⟨s1,c1,k1⟩:=r;dsimp only at Be htB⊢;have hp:=yD c1 s1.op (bX s1.y s1.op).2.1 raw;generalize fQ c1 s1.op (bX s1.y s1.op).2.1 raw=q at*;obtain⟨c2,k2⟩:=q;dsimp only at hp;unfold DW;split
   ·exact(Be.trans hp).mono (by omega)
   ·split
    ·have hg:=qv (bL s1 s1.op) c2 s1.op;split
     ·exact((Be.trans hp).trans hg.1).mono (by omega)
     ·have:=ih (bS (bL s1 s1.op) c2 s1.op).1 (bS (bL s1 s1.op) c2 s1.op).2.1 (by rw[hg.2];show s1.B<=32;rw[htB];exact hB);exact(((Be.trans hp).trans hg.1).trans this).mono (by omega)
    ·exact(Be.trans hp).mono (by omega)
theorem jC(hC:aV s c)(h:Hd)(d:List UInt8):c.iV (bn s c h d).2.1 2400:=by
 have ik:=bO hC.pl;unfold bn;split
 ·exact(CM.iV.refl c).mono (by omega)
 ·split
  ·exact(CM.iV.refl c).mono (by omega)
  ·unfold XT;have h1:=Vh c;rw[hC.B]at h1;exact(NM h (gC d h) (c.tV+1) s c (by omega)).mono (by omega)
end
section
variable{b sb cb g cap:Nat}{mv:Value}{s:SM}{c:CM}{l:LM}{H Hs Hc Fr:HL}{w:World}
theorem lq(k:Int)(w:World)(Fr:HL)(hc:k≠0)(hH:Holds w Fr):Calls Tryz.prog 47 #[.int .i64 k] w (pR k w Fr):=by
 have DE:=aa hc;clear hc;go_enter func47,ntmps47;go_wp2_with fail
 go_ret;exact⟨_,_,rfl,.inr ⟨DE.o,_,_,rfl,rfl⟩,hH.alloc _,(af.refl w).alloc _⟩
theorem K7(w:World)(Fr:HL)(hH:Holds w Fr):Calls Tryz.prog 20 #[.pointer none] w (pR 1 w Fr):=by
 have HW:=aa (lq 1 w Fr (by omega) hH);go_enter func20,ntmps20;go_wp2_with fail
 refine HW.o.mono ?_;rintro e w1⟨ve,He,rfl,he,ax,aK⟩;go_wp2_with fail
 go_ret;exact⟨ve,He,rfl,he,ax,aK⟩
theorem iw.parts{v:Value}{ds:List (List UInt8)}{H:HL}(h:iw v ds H):ra H v ds:=by
 obtain⟨kf,H0,Hs,ay,iY,lP,fT,hR,rfl⟩:=h;have h1:kf.flatten.length=kf.length:=by rw[kB kf fT];omega
 refine⟨kf.flatten,by omega,fun w hw=>ay.reads hw,fun i hi LW w hw=>?_⟩;have hc:kf[i]?=some (kf[i]'(by omega)):=bF (by omega);have hh:Hs[i]?=some (Hs[i]'(by omega)):=bF (by omega);generalize kf[i]'(by omega)=c at hc;generalize Hs[i]'(by omega)=Hi at hh;obtain⟨ev,rfl,hb⟩:=hR i c ds[i] Hi hc (bF LW) hh;have h2:=dS kf fT i 0 _ hc (by omega);rw[jc,fD,bF hi]at h2;simp only[iK,Option.some.injEq]at h2;rw[h2];have hsp:=fm Hs i Hi hh;rw[hsp]at hw;exact hb.at_ (Fr:=(H0++((Hs.take i).flatten++(Hs.drop (i+1)).flatten))) hw.p
def JF(b sb cb g cap:Nat)(mv:Value)(r:LM×SM×CM×Int)(w:World)(Fr:HL)(e:Ending)(w':World):Prop:=
 ∃ve He H' ke cO,e=.returned ve∧bJ ve r.2.2.2 He∧aT b sb r.1 H'∧cr sb cb r.2.1 ke∧ai cb g cap mv r.2.2.1 cO∧Holds w' (H'++(ke++(cO++(He++Fr))))∧af w w'
def ahG(b sb cb g cap:Nat)(mv:Value)(l0:LM)(c0:CM)(bs:List (List UInt8))(res:LM×SM×CM×List Nat×Int)(w:World)(F:HL)(pv iv:Value)(wr:World):Prop:=
 ∃(k:Nat) (l':LM) (s':SM) (c':CM) (put:List Nat) (H Hs Hc Hp:HL),k<=bs.length∧iv=.int .i64 k∧put.length=k∧aZ pv (nu put) Hp∧aT b sb l' H∧cr sb cb s' Hs∧ai cb g cap mv c' Hc∧
  aV s' c'∧Live s' c'∧(s'.B<20∧s'.Z=c0.Z∧c'.ops<=c0.ops+2400*k∧l'.last=l0.last+k∧l'.aj=l0.aj∧l'.ad=l0.ad)∧jg (bs.drop k) l' s' c' put=res∧Holds wr (H++(Hs++(Hc++(Hp++F))))∧af w wr
theorem aT.Wd(h:aT b sb l H)(x:Int){PF:Value}{ps:List Nat}{rR:HL}(hp:aZ PF (nu ps) rR):∃H' Ho,aT b sb {l with ad:=ps,gen:=x} H'∧∀(w:World) (F:HL),Holds w (H++(rR++F))->
  Holds ((w.setCell ⟨b,6,none⟩ PF).setCell ⟨b,3,none⟩ (.int .i64 x)) (H'++(Ho++F))∧w.frozen? ⟨b,6,none⟩=false∧w.frozen? ⟨b,3,none⟩=false∧b<w.heap.size:=by
 obtain⟨tv,pv,Ht,Hp,rfl,h1,h2⟩:=h;refine⟨(b,.cells (Bg tv sb {l with ad:=ps,gen:=x} PF) 113)::(Ht++rR),Hp,⟨tv,PF,Ht,rR,rfl,h1,hp⟩,fun w F hX=>⟨?_,hX.ah 6,hX.ah 3,hX.aG⟩⟩;have h6:=Holds.set (show Holds w ((b,.cells (Bg tv sb l pv) 113)::(Ht++(Hp++(rR++F))))from hX.p) 6 PF;have h3:=Holds.set h6 3 (.int .i64 x);have h9:Holds ((w.setCell ⟨b,6,none⟩ PF).setCell ⟨b,3,none⟩ (.int .i64 x)) ((b,.cells (Bg tv sb {l with ad:=ps,gen:=x} PF) 113)::(Ht++(Hp++(rR++F)))):=h3;exact h9.p
theorem sV(h:aT b sb l H)(hs:cr sb cb s Hs)(cz:ai cb g cap mv c Hc)(hH:Holds w (H++(Hs++(Hc++Fr))))(hC:aV s c)(hL:Live s c)(hB:s.B<20)(fI:c.ops<=900000000000)(Mo:yZ l.name)(hr:dd l.T)(hn:l.T.length<=256)
  (hq:0<=l.last∧l.last<=1000000000)(ht:0<=l.aj∧l.aj<=16000000)(ik:l.ad.length<=1000):
  Calls Tryz.prog 20 #[.pointer (some ⟨b,0,none⟩)] w (JF b sb cb g cap mv (aH l s c) w Fr):=by
 have k1:=nil_eq;have k2:=cC;have oR:=bO hC.pl;have Tw:=aa fun(wx:World) (F:HL) (hx:Holds wx (H++(Hs++(Hc++F))))=>C1 (w:=wx) (Fr:=F) h hs cz hx;rw[show c.Z=s.Z from hC.Z]at Tw;obtain⟨tb,Ht,Ho,OB,OC,rU,-⟩:=h.table;obtain⟨_,_,bm⟩:=h.cells;have TA:=aa fun(wx:World) (F:HL) (hx:Holds wx (H++F))=>aS (OB wx F hx) (bm wx F hx).2.2.1;have TB:=aa fun(wx:World) (F:HL) (hx:Holds wx (H++F))=>ru (.pointer (some ⟨tb,0,none⟩)) l.T Ht (Ho++F) wx OC ((rU wx F).1 hx);have dj:=aa fun wx F=>(rU wx F).2;have rZ:=aa fun(ev:Value) (wx:World) (F:HL) (hv:jy F ev l.T) (hx:Holds wx F)=>show Calls Tryz.prog 63 #[.int .i64 (s.Z:Int),.string (cq l.name),ev] wx (fun e w'=>∃v H',e=.returned (.tuple #[v,.nilIface])∧iw v (lV s.Z l.name l.T) H'∧Holds w' (H'++F)∧af wx w')from RE s.Z l.name l.T ev wx F hv hx Mo hr hn (by omega) (by omega);have rI:=aa (show(∀x∈lV s.Z l.name l.T,x.length=s.Z)∧0<(lV s.Z l.name l.T).length∧(lV s.Z l.name l.T).length<=257 from by
  unfold lV;refine⟨fun x hx=>?_,?_,?_⟩
  ·obtain⟨i,_,rfl⟩:=List.mem_map.1 hx;exact lh (by omega) (by omega) Mo _ _
  ·rw[bY,fP];exact jB _ _
  ·rw[bY,fP];exact tF hn)
 have Ge:=aa (show aH l s c=uh l (jg (lV s.Z l.name l.T) {l with aj:=l.aj+1} s c [])from rfl);have HCZ:=aa hC.Z;have qR:=aa h;have kV:=aa hs;have lS:=aa cz;have HCT:=aa (aS hC hL);clear hC hL h hs cz OB OC rU bm Mo hr oR;go_enter func20,ntmps20;go_upto_region 3 with fail
 refine aF (fun wx=>wx.cell? ⟨b,0,none⟩=some (.pointer (some ⟨tb,0,none⟩))∧wx.cell? ⟨b,2,none⟩=some (.string (cq l.name))) 17 (by kernel_rfl) (fun w1 hd=>TA.o _ _ (hH.dr hd)) (fun w1 hd hs=>?_);have ax:=hH.dr hd;have gY:=af.dr hd;clear hd hH;refine dY 0 2 3 4 ?_;refine dY 5 6 7 8 ?_;refine ji 9 ?_;refine Zm 1 fun K hK=>?_;go_simp;refine(Tw.o w1 Fr ax).mono ?_;rintro e w2 ⟨rfl,aB,aX⟩;have cY:=gY.trans aX;clear ax aX gY;refine hK _ _ (TA.o _ _ aB) (fun _=>?_);clear hK K hs;rename_i hs;refine Zm 10 fun K hK=>?_;go_simp;refine(TB.o w2 _ aB).mono ?_;rintro e w3 ⟨v3,H3,rfl,pe,aD,bj⟩;have cf:=cY.trans bj;have aU:Holds w3 (H3++(H++(Hs++(Hc++Fr)))):=(dj.o w3 ((Hs++(Hc++Fr))++H3) (show Holds w3 (Ht++(Ho++((Hs++(Hc++Fr))++H3)))from aD.p)).p;have Ja:=aa pe;obtain⟨A3,c3,rfl⟩:=pe.val;clear aB aD bj cY pe;refine hK _ _ (TA.o _ _ (show Holds _ (H++(H3++(Hs++(Hc++Fr))))from aU.p)) (fun _=>?_);clear hK K hs;rename_i hs;refine Zm 11 fun K hK=>?_;go_simp;refine(rZ.o _ w3 _ (fun wx hx=>Ja.o.at_ hx) aU).mono ?_;rintro e w4 ⟨v4,H4,rfl,pG,bg,bV⟩;have bI:=cf.trans bV;have Du:=aa pG;obtain⟨A4,c4,rfl,-,-⟩:=pG.val;clear aU bV cf pG;refine hK _ _ (TA.o _ _ (show Holds _ (H++(H4++(H3++(Hs++(Hc++Fr)))))from bg.p)) (fun _=>?_);clear hK K hs;rename_i hs;refine dY 12 13 14 15 ?_;refine ji 16 ?_;refine Ze ?_;clear hs rZ TB Tw;generalize lV s.Z l.name l.T=bs at*;obtain⟨l1,iY⟩:∃l1:LM,l1={l with aj:=l.aj+1}:=⟨_,rfl⟩;rw[<-iY]at Ge;obtain⟨H6,Az,aav⟩:=qR.o.Ke (l.aj+1);rw[<-iY]at Az;have SU:=aa Az;have bC:Holds w4 (H++(Hs++(Hc++(H4++Fr)))):=bg.p;obtain⟨cA,f4,pG⟩:=aav w4 _ bC;obtain⟨_,_,bm⟩:=qR.o.cells;obtain⟨_,_,_,_,x4,_,_⟩:=bm w4 _ bC;have fx:=bI.setCell ⟨b,4,none⟩ (.int .i64 (l.aj+1));have hwt:IntKind.i64.wrap (l.aj+1)=l.aj+1:=by rw[IntKind.wrap_i64];omega
 have an2:wrap64 (l.aj+1)=l.aj+1:=by unfold wrap64;omega
 clear Az aav bm bC bg bI;go_upto_region 7 with fail
 generalize w4.setCell ⟨b,4,none⟩ (.int .i64 (l.aj+1))=w5 at*;obtain⟨vs,pb,po,c5,e5,hvl,bm,tM⟩:=Du.o.parts.open_ cA.right.right.right.left rI.o.2.1;injection e5 with e6 e7 e8;subst e6 e8;clear e7;have HVC:=aa bm;have HVF:=aa tM;obtain⟨res,cH⟩:∃r,r=jg bs l1 s c []:=⟨_,rfl⟩;rw[<-cH]at Ge;have bD:ahG b sb cb g cap mv l1 c bs res w (H4++Fr) (.slice none 0 0) (.int .i64 0) w5:=
  ⟨0,l1,s,c,[],H6,Hs,Hc,[],by omega,rfl,rfl,au.nil _ _,SU.o,kV.o,lS.o,HCT.o.1,HCT.o.2,⟨hB,HCT.o.1.Z.symm,by omega,by omega,rfl,rfl⟩,by rw[cH];rfl,cA,fx⟩
 have Ue:1<=l1.last+1∧l1.last<=1000000000:=by rw[iY];exact⟨by have:=hq.1;show 1<=l.last+1;omega,hq.2⟩
 have Uf:0<=l1.aj∧l1.aj<=16000001:=by rw[iY];exact⟨by have:=ht.1;show 0<=l.aj+1;omega,by have:=ht.2;show l.aj+1<=16000001;omega⟩
 have Bw:l1.ad=l.ad:=by rw[iY]
 have FV:=aa (aS Ue (aS Uf Bw));clear bm tM cA fx x4 f4 pG hwt an2 iY cH hq ht Ue Uf Bw kV lS HCT SU qR TA dj;go_wp2_with fail
 go_loopw [5,40] (fun pv iv wr=>ahG b sb cb g cap mv l1 c bs res w (H4++Fr) pv iv wr) (fun _ iv _=>bs.length-(intOf iv).toNat)
 case atStart=>exact bD
 case round=>
  clear bD;obtain⟨k,l2,s2,c2,put,H,Hs,Hc,Hp,hk,rfl,P0,OA,hl,hs,cz,hC,hL,⟨Dj,IW,BS,FL,Be,sk⟩,cH,hH,hg⟩:=hrel;obtain⟨Ue,Uf,Bw⟩:=FV.o;have jq:=rI.o.2.2;have qR:=aa hl;have kV:=aa hs;have lS:=aa cz;have SP:=aa OA;obtain⟨A7,c7,rfl⟩:=OA.val;rw[show(nu put).length=k by simp[nu,P0]]at*;by_cases aG:k<bs.length
  ·have dQ:(k:Int)<bs.length:=by omega
   have p6:k<vs.length:=by omega
   have vp:=HVC.o wr hH.right.right.right.right.left k p6;have HFK:=aa (HVF.o k p6 aG);have HBK:=aa (rI.o.1 _ (cX aG));rw[nF aG]at cH;generalize vs[k]=vk at*;generalize bs[k]=bk at*;obtain⟨Ak,ck,rfl⟩:=(HFK.o wr hH.right.right.right.right.left).val;have cP:=aa cH;obtain⟨_,_,bm⟩:=hl.cells;have Ix:=aa fun(wx:World) (F:HL) (hx:Holds wx (H++F))=>aS (bm wx F hx).2.1 (bm wx F hx).2.2.2.2.1;obtain⟨hd,XC⟩:∃hd,hd=fh (l2.last+1) l2.aj:=⟨_,rfl⟩;obtain⟨m1,m2⟩:=mz (q:=l2.last+1) (g:=l2.aj) (by omega) (by omega) (by omega) (by omega);rw[<-XC]at m1 m2;have LD:=aa (xU (d:=bk) hC hL m1 m2 (by rw[HBK.o,IW];exact HCZ.o.symm));have ZO:=hC.vu;have Tf:=hC.B;have Ts:=hC.Z;have jK:=jC hC hd bk;have Ug:hd.agg=.agg #[.int .i64 4,.int .u64 0,.int .i64 (l2.last+1),.int .i64 l2.aj]:=by rw[XC];rfl
   have ko:=aa fun(dv:Value) (wx:World) (F:HL) (hx:Holds wx (Hs++(Hc++F))) (Dx:bN (Hs++(Hc++F)) dv bk)=>show Calls Tryz.prog 25 #[.pointer (some ⟨sb,0,none⟩),.agg #[.int .i64 4,.int .u64 0,.int .i64 (l2.last+1),.int .i64 l2.aj],dv] wx (vU sb cb g cap mv (bn s2 c2 hd bk) wx F)from by
    rw[<-Ug];exact py hd bk dv kV.o lS.o hx ZO Dj (by omega) Tf Ts Dx m2
   have pj:=aa (show(if(bn s2 c2 hd bk).2.2.2≠0 then({l2 with last:=l2.last+1},dI (bn s2 c2 hd bk).1 put,(bn s2 c2 hd bk).2.1,put,(bn s2 c2 hd bk).2.2.2)
    else jg (bs.drop (k+1)) {l2 with last:=l2.last+1} (bn s2 c2 hd bk).1 (bn s2 c2 hd bk).2.1 (put++[(bn s2 c2 hd bk).2.2.1.toNat]))=res from by rw[XC];exact cH)
   generalize bn s2 c2 hd bk=r at*;have hla:0<=l2.last∧l2.last<=1000000000000000:=by omega
   have HQ2:=aa (aS IW (aS BS (aS FL (aS Be (aS sk P0)))));have S8:=aa Dj;clear bm cH hl hs cz OA Ug XC m1 m2 ZO Tf Ts IW BS FL Be sk P0 Ue Uf Bw;go_upto_region 11 with fail
   refine aF (fun wx=>wx.cell? ⟨b,1,none⟩=some (.pointer (some ⟨sb,0,none⟩))∧wx.cell? ⟨b,4,none⟩=some (.int .i64 l2.aj)) 18 (by kernel_rfl) (fun w1 hd=>Ix.o _ _ (hH.dr hd)) (fun w1 hd hs=>?_);have ax:=hH.dr hd;have gY:=hg.trans (af.dr hd);clear hd hH hg;refine dY 0 1 2 3 ?_;refine dY 4 6 7 8 ?_;refine qL 9 11 ?_;refine Zm 5 fun K hK=>?_;go_simp;refine(dg qR.o ax hla.1 hla.2).mono ?_;rintro e w2 ⟨rfl,H2,p7,aB,aX⟩;have cY:=gY.trans aX;have Lt:=aa p7;obtain⟨_,_,vJ⟩:=p7.cells;have Gk:=aa (show∀(wx:World) (F:HL),Holds wx (H2++F)->wx.cell? ⟨b,1,none⟩=some (.pointer (some ⟨sb,0,none⟩))∧wx.cell? ⟨b,4,none⟩=some (.int .i64 l2.aj)from fun wx F hx=>aS (vJ wx F hx).2.1 (vJ wx F hx).2.2.2.2.1);clear ax aX gY p7 vJ;refine hK _ _ (Gk.o _ _ aB) (fun _=>?_);clear hK K hs;rename_i hs;refine ji 10 ?_;refine Zm 12 fun K hK=>?_;go_simp;have aD:Holds w2 (Hs++(Hc++(H2++(Hp++(H4++Fr))))):=aB.p;refine(ko.o _ w2 _ aD (fun wx hx=>HFK.o wx hx.right.right.right.right.left)).mono ?_;rintro e w3 ⟨ve,He,xG,rS,rfl,he,nE,II,bg,bj⟩;have cf:=cY.trans bj;have HE:=aa he;have xw:=aa nE;have HC3:=aa II;clear aB aD bj cY nE II;refine hK _ _ (Gk.o _ (xG++(rS++(He++(Hp++(H4++Fr))))) bg.p) (fun _=>?_);clear hK K hs;rename_i hs;refine dY 13 14 15 16 ?_;refine ji 17 ?_;refine Ze ?_;clear hs HFK ko Ix Gk;have HN:=aa LD.o;rcases HE.o with⟨h0,rfl,rfl⟩|⟨h0,eb,es,rfl,rfl⟩
   ·have iP:=pj.o;rw[if_neg (by omega)]at iP;have FN:=aa iP;clear HE iP pj;go_upto_region 15 with fail
    have uD:=HN.o.Bd;rcases uD with⟨_,PY,n,_,Oe,_⟩|⟨h7,_⟩|⟨h7,_⟩;rotate_left
    ·omega
    ·omega
    obtain⟨IW,BS,FL,Be,sk,P0⟩:=HQ2.o;have jm:=aa (show au 3 1 (.slice A7 k c7) k ((nu put).map (.int .i64)) Hp by
     have h:=SP.o;unfold aZ at h;rw[show(nu put).length=k by simp[nu,P0]]at h;exact h)
    have fj:=aa (show(r.1.B<20∧r.1.Z=c.Z∧r.2.1.ops<=c.ops+2400*((k+1:Nat):Int)∧l2.last+1=l1.last+((k+1:Nat):Int)∧l2.aj=l1.aj∧l2.ad=l1.ad)∧(put++[n]).length=k+1∧r.2.2.1.toNat=n from
     ⟨⟨by rw[HN.o.B];exact S8.o,by rw[HN.o.Z];exact IW,by have:=jK.2.2.2.2.2;omega,by omega,Be,sk⟩,by simp[P0],by rw[Oe];rfl⟩)
    have Uh:=aa Oe;have an3:=aa PY;have bC:Holds w3 (Hp++(H2++(xG++(rS++(H4++Fr))))):=(show Holds w3 (xG++(rS++(H2++(Hp++(H4++Fr)))))from bg).p;have hk6:k+1<=maxLen:=by simp only[maxLen];omega
    have hk7:(k+1)*8<=140737488355328:=by omega
    clear IW BS FL Be sk P0 Oe jK PY bg h0;go_upto_region 16 with(at_builtin;refine al ud (by rfl) (.tmp 66) (.tmp 68) (by rfl) (by rfl) (by rfl) jm.o (bC.bP _) ag.one (by simp[Value.oneCell']) hk6 hk7 ?_;intro A' c' w' H' ay cA jk)
    clear hk6 hk7;go_wp2_with fail
    refine⟨⟨k+1,{l2 with last:=l2.last+1},r.1,r.2.1,put++[n],H2,xG,rS,H',aG,by go_num,fj.o.2.1,?_,Lt.o,xw.o,HC3.o,HN.o.cont,an3.o,fj.o.1,?_,cA.p,(cf.alloc _).trans jk⟩,?_⟩
    ·unfold aZ;rw[show(nu (put++[n])).length=k+1 by simp[nu];have:=fj.o.2.1;simpa using this,show(nu (put++[n])).map (Value.int .i64)=(nu put).map (.int .i64)++[.int .i64 r.2.2.1] by rw[Uh.o];simp[nu]];exact ay
    ·have h:=FN.o;rw[fj.o.2.2]at h;exact h
    ·skip
     simp[intOf];omega
   ·have iP:=pj.o;rw[if_pos h0]at iP;have FN:=aa iP;have vv:=aa (C2 (w:=w3) (Fr:=rS++([(eb,.cells #[.int .i64 r.2.2.2,.string es] 143)]++(Hp++(H4++Fr)))) (.slice A7 k c7) put Lt.o xw.o bg.p (fun wx hx=>by
     have h:=SP.o.at_ (Fr:=H2++(rS++([(eb,.cells #[.int .i64 r.2.2.2,.string es] 143)]++(H4++Fr)))) (w:=wx) hx.p;exact h) (by have:=HQ2.o.2.2.2.2.2;omega))
    have k3:=cS;clear iP pj bg;go_upto_region 13 with fail
    go_wp2_with fail
    refine vv.o.mono ?_;rintro e w4⟨rfl,LX,sj,bC,bV⟩;have LO:=aa (show JF b sb cb g cap mv (aH l s c) w Fr (.returned (.iface 141 (.pointer (some ⟨eb,0,none⟩)))) w4 by
     rw[Ge.o,<-FN.o];unfold uh;dsimp only;rw[if_pos h0];exact⟨_,_,H2,LX,rS,rfl,HE.o,Lt.o,sj,HC3.o,bC.p,cf.trans bV⟩)
    clear sj bC bV cf vv;go_wp2_with fail
    go_ret;exact LO.o
  ·have dQ:¬(k:Int)<bs.length:=by omega
   have xt:k=bs.length:=by omega
   rw[xt,List.drop_length]at cH;have cP:=aa (show(l2,s2,c2,put,(0:Int))=res from cH);have Aq:=aa (sk.trans Bw);obtain⟨tv,A8,c8,kg⟩:=hl.ad;obtain⟨_,_,bm⟩:=hl.cells;have cT:Holds wr (Hs++(H++(Hc++(Hp++(H4++Fr))))):=hH.p;have vv:=aa (C2 (w:=wr) (Fr:=Hc++(Hp++(H4++Fr))) (.slice A8 l2.ad.length c8) l2.ad hl hs cT (fun wx hx=>(kg wx _ hx).2.2) (by rw[sk,Bw];exact ik));obtain⟨_,x6,_⟩:=kg wr _ hH;obtain⟨H',Ho,vh,bz⟩:=hl.Wd l2.aj (show aZ (.slice A7 k c7) (nu put) Hp from SP.o);have xO:=aa bz;have TC:=aa vh;have pd:=aa fun(wx:World) (F:HL) (hx:Holds wx (H++F))=>(bm wx F hx).2.2.2.2.1;have HX6:=aa fun(wx:World) (F:HL) (hx:Holds wx (H++F))=>(kg wx F hx).2.1;have Gk:=aa fun(wx:World) (F:HL) (hx:Holds wx (H++F))=>(bm wx F hx).2.2.2.1;clear cH xt bm kg bz vh hH cT hl hs cz OA hC hL Dj IW BS FL Be sk Ue Uf Bw jq;go_wp2_with fail
   refine vv.o.mono ?_;rintro e w4⟨rfl,LX,sj,bC,bV⟩;have cA:Holds w4 (H++(Hp++(LX++(Hc++(H4++Fr))))):=bC.p;have x4:=pd.o w4 _ cA;have x3:=Gk.o w4 _ cA;have y6:=HX6.o w4 _ cA;obtain⟨di,f6,f3,jq⟩:=xO.o w4 _ cA;have iU:=((hg.trans bV).setCell ⟨b,6,none⟩ (.slice A7 k c7)).setCell ⟨b,3,none⟩ (.int .i64 l2.aj);have vt:=aa sj;clear bC cA sj bV hg vv x6;go_wp2_with fail
   go_ret;rw[Ge.o,<-cP.o];unfold uh;dsimp only;rw[if_neg (by decide),<-Aq.o];exact⟨.nilIface,[],H',LX,Hc,rfl,.inl ⟨rfl,rfl,rfl⟩,TC.o,vt.o,lS.o,di.p,iU⟩
end
section
variable{b sb cb g cap:Nat}{mv:Value}{s:SM}{c:CM}{l:LM}{H Hs Hc Fr:HL}{w:World}
def ri(Z:Nat):Nat->List Nt->List (List Nt)
 |0,_=>[]
 |f+1,ns=>if ns=[]then[]else ns.take (p9 Z ns)::ri Z f (ns.drop (p9 Z ns))
def aO(Z:Nat)(ns:List Nt):List (List Nt):=ri Z ns.length ns
def aA(l:LM)(s:SM)(c:CM)(ns:List Nt):LM×SM×CM×Int:=if lW l.T ns then jI s.Z (aO s.Z ns) l s c else(l,s,c,2)
theorem Kh(Z:Nat)(ns:List Nt):∀k,mY Z ns k<=k
 |0=>aN _
 |k+1=>by
  rw[mY];split
  ·exact aN _
  ·exact Nat.le_succ_of_le (Kh Z ns k)
theorem C3(Z:Nat)(ns:List Nt):∀k,0<mY Z ns k->(dB (ns.take (mY Z ns k))).length<=Z
 |0,h=>absurd h (by simp[mY])
 |k+1,h=>by
  rw[mY]at h⊢;split
  ·next h1=>exact h1
  ·next h1=>rw[if_neg h1]at h;exact C3 Z ns k h
theorem Fv{Z:Nat}{ns:List Nt}(h1:(dB (ns.take 1)).length<=Z):∀k,0<k->0<mY Z ns k
 |0,h=>absurd h (by simp)
 |k+1,_=>by
  rw[mY];split
  ·omega
  ·next h2=>
   by_cases hk:0<k
   ·exact Fv h1 k hk
   ·exfalso;obtain rfl:k=0:=by omega
    exact h2 h1
theorem tp{Z:Nat}(hz:128<=Z){ns:List Nt}(h:0<ns.length):1<=p9 Z ns∧p9 Z ns<=ns.length∧(dB (ns.take (p9 Z ns))).length<=Z:=by
 have h1:(dB (ns.take 1)).length<=Z:=by
  have:=CV (ns.take 1);have h2:(ns.take 1).length<=1:=by rw[dG];omega
  have:=kY 31 h2;omega
 have hp:=Fv h1 ns.length h;exact⟨hp,Kh _ _ _,C3 _ _ _ hp⟩
theorem xg{Z:Nat}(hz:128<=Z):∀(f g:Nat) (ns:List Nt),ns.length<=f->ns.length<=g->ri Z f ns=ri Z g ns
 |0,0,_,_,_=>rfl
 |0,g+1,ns,h,_=>by rw[jW (by omega:ns.length=0)];rfl
 |f+1,0,ns,_,h=>by rw[jW (by omega:ns.length=0)];rfl
 |f+1,g+1,ns,h1,h2=>by
  rw[ri,ri];split
  ·rfl
  ·next ei=>
   have hp:=(tp hz (List.length_pos_iff.2 ei)).1;rw[xg hz f g _ (by rw[dA];omega) (by rw[dA];omega)]
theorem lO{Z:Nat}(hz:128<=Z){ns:List Nt}(h:0<ns.length):aO Z ns=ns.take (p9 Z ns)::aO Z (ns.drop (p9 Z ns)):=by
 unfold aO;have ei:ns≠[]:=List.length_pos_iff.1 h;obtain⟨f,hf⟩:∃f,ns.length=f+1:=⟨ns.length-1,by omega⟩;have hp:=(tp hz h).1;rw[hf,ri,if_neg ei];congr 1;exact xg hz _ _ _ (by rw[dA];omega) (aN _)
theorem zF(Z:Nat):aO Z []=[]:=rfl
theorem fN{Z:Nat}(hz:128<=Z):∀(n:Nat) (ns:List Nt),ns.length<=n->(aO Z ns).flatten=ns∧(aO Z ns).length<=ns.length
 |0,ns,h=>by rw[jW (by omega:ns.length=0)];exact⟨rfl,aN _⟩
 |n+1,ns,h=>by
  by_cases h0:0<ns.length
  ·obtain⟨hp,hl,_⟩:=tp hz h0;obtain⟨h1,h2⟩:=fN hz n (ns.drop (p9 Z ns)) (by rw[dA];omega);rw[lO hz h0,kr,h1,oz,fC];rw[dA]at h2;exact⟨rfl,by omega⟩
  ·rw[jW (by omega:ns.length=0)];exact⟨rfl,aN _⟩
theorem mF{Z:Nat}(hz:128<=Z):∀(n:Nat) (ns:List Nt),ns.length<=n->n<=1000->(∀x∈ns,x.vg∧x.ok=true)->∀ch∈aO Z ns,(NP.mk 0 0 ch).ok Z
 |0,ns,h,_,_=>by rw[jW (by omega:ns.length=0)];intro ch hc;exact absurd hc (by simp[zF])
 |n+1,ns,h,hn,cj=>by
  intro ch hc;by_cases h0:0<ns.length
  ·obtain⟨hp,hl,hf⟩:=tp hz h0;rw[lO hz h0]at hc;rcases List.mem_cons.1 hc with rfl|hc
   ·refine⟨?_,fun x hx=>cj x (rJ hx),hf,?_⟩
    ·intro e;have:=congrArg List.length e;rw[dG,List.length_nil]at this;omega
    ·show(ns.take _).length<=1000;rw[dG];omega
   ·exact mF hz n _ (by rw[dA];omega) (by omega) (fun x hx=>cj x (List.mem_of_mem_drop hx)) ch hc
  ·rw[jW (by omega:ns.length=0)]at hc;exact absurd hc (by simp[zF])
theorem GR(ns:List Nt):(yX ns).length=ns.length*5:=by
 induction ns with
 |nil=>rfl
 |cons n ns ih=>show(n.cells++yX ns).length=_;rw[aY,ih];show 5+_=_;rw[fC];omega
theorem RH(ns:List Nt)(k:Nat):yX (ns.drop k)=(yX ns).drop (k*5):=by
 induction k generalizing ns with
 |zero=>simp
 |succ k ih=>
  cases ns with
  |nil=>simp[yX]
  |cons n ns=>
   rw[List.drop_succ_cons,ih,show(k+1)*5=5+k*5 by omega,<-List.drop_drop];rfl
theorem RI(ns:List Nt)(k:Nat):yX (ns.take k)=(yX ns).take (k*5):=by
 have h:yX ns=yX (ns.take k)++yX (ns.drop k):=by rw[<-CY,oz]
 by_cases hk:k<=ns.length
 ·conv=>rhs;rw[h]
  rw[BK (by rw[GR,dG];omega),List.take_of_length_le (l:=yX (ns.take k)) (by rw[GR,dG];omega)]
 ·rw[List.take_of_length_le (l:=ns) (by omega),List.take_of_length_le (l:=yX ns) (by rw[GR];omega)]
theorem cU.pre{Fr:HL}{A:Option Addr}{cn k:Nat}{ns:List Nt}(h:cU Fr (.slice A ns.length cn) ns)(hk:k<=ns.length):cU Fr (.slice A k cn) (ns.take k):=by
 intro w hw;have h1:=ag.ahB (h w hw) hk;rw[<-RI]at h1;unfold tm;rw[show(ns.take k).length=k by rw[dG];omega];exact h1
theorem cU.drop{Fr:HL}{A:Option Addr}{cn k:Nat}{ns:List Nt}(h:cU Fr (.slice A ns.length cn) ns)(hk:k<=ns.length):cU Fr (.slice (A.map fun x=>x.add (k*5)) (ns.length-k) (cn-k)) (ns.drop k):=by
 intro w hw;have h1:=ag.OU (h w hw) hk;rw[<-RH]at h1;unfold tm;rw[show(ns.drop k).length=ns.length-k by rw[dA]];exact h1
theorem cU.nK{Fr:HL}{A:Option Addr}{cn:Nat}(hc:cn<=maxLen):cU Fr (.slice A 0 cn) []:=fun w _=>⟨rfl,A,cn,rfl,Nat.zero_le _,hc,fun h=>absurd h (by simp)⟩
theorem Hh(v:Value)(w:World)(Fr:HL)(hH:Holds w Fr):Calls Tryz.prog 13 #[.pointer none,v] w (pR 1 w Fr):=by
 have HW:=aa (lq 1 w Fr (by omega) hH);go_enter func13,ntmps13;go_wp2_with fail
 refine HW.o.mono ?_;rintro e w1⟨ve,He,rfl,he,ax,aK⟩;go_wp2_with fail
 go_ret;exact⟨ve,He,rfl,he,ax,aK⟩
end
section
variable{b sb cb g cap:Nat}{mv:Value}{s:SM}{c:CM}{l:LM}{H Hs Hc Fr:HL}{w:World}
theorem aT.Y2(h:aT b sb l H):∃A cp Hp Ho,(∀(w:World) (F:HL),Holds w (H++F)->w.cell? ⟨b,6,none⟩=some (.slice A l.ad.length cp)∧Holds w (Hp++(Ho++F)))∧au 3 1 (.slice A l.ad.length cp) l.ad.length ((nu l.ad).map (.int .i64)) Hp∧
  ∀(A':Option Addr) (c' n:Nat) (rR:HL),au 3 1 (.slice A' (l.ad.length+1) c') (l.ad.length+1) ((nu l.ad).map (.int .i64)++[.int .i64 (n:Int)]) rR->∃H',aT b sb {l with ad:=l.ad++[n]} H'∧
   ∀(w:World) (F:HL),Holds w (rR++(Ho++F))->Holds (w.setCell ⟨b,6,none⟩ (.slice A' (l.ad.length+1) c')) (H'++F)∧w.frozen? ⟨b,6,none⟩=false∧b<w.heap.size∧∃u,w.cell? ⟨b,6,none⟩=some u:=by
 obtain⟨tv,pv,Ht,Hp,rfl,h1,h2⟩:=h;obtain⟨A,cp,rfl⟩:=h2.val;have hlen:(nu l.ad).length=l.ad.length:=by simp[nu]
 unfold aZ at h2;rw[hlen]at h2⊢;refine⟨A,cp,Hp,(b,.cells (Bg tv sb l (.slice A l.ad.length cp)) 113)::Ht,fun w F hX=>⟨hX.ae 6,hX.p⟩,h2,fun A' c' n rR hr=>?_⟩;refine⟨(b,.cells (Bg tv sb {l with ad:=l.ad++[n]} (.slice A' (l.ad.length+1) c')) 113)::(Ht++rR),⟨tv,_,Ht,rR,rfl,h1,?_⟩,fun w F hX=>?_⟩
 ·unfold aZ;rw[show(nu (l.ad++[n])).length=l.ad.length+1 by simp[nu],show(nu (l.ad++[n])).map (Value.int .i64)=(nu l.ad).map (.int .i64)++[.int .i64 (n:Int)] by simp[nu]];exact hr
 ·have hY:Holds w ((b,.cells (Bg tv sb l (.slice A l.ad.length cp)) 113)::(Ht++(rR++F))):=hX.p;have h6:=Holds.set hY 6 (.slice A' (l.ad.length+1) c');have h7:Holds (w.setCell ⟨b,6,none⟩ (.slice A' (l.ad.length+1) c')) ((b,.cells (Bg tv sb {l with ad:=l.ad++[n]} (.slice A' (l.ad.length+1) c')) 113)::(Ht++(rR++F))):=h6;exact⟨h7.p,hY.ah 6,hY.aG,_,hY.ae 6⟩
def X8(b sb:Nat)(l4:LM)(ch:List Nt)(w:World)(F:HL)(iv:Value)(wr:World):Prop:=
 ∃(i:Nat) (H':HL),i<=ch.length∧iv=.int .i64 i∧aT b sb {l4 with T:=aI l4.T (ch.take i)} H'∧Holds wr (H'++F)∧af w wr
def acB(b sb cb g cap:Nat)(mv:Value)(l0:LM)(c0:CM)(n0 Z:Nat)(res:LM×SM×CM×Int)(w:World)(Fr:HL)(nv:Value)(wr:World):Prop:=
 ∃(j:Nat) (ns:List Nt) (l':LM) (s':SM) (c':CM) (H Hs Hc:HL),cU Fr nv ns∧(∀x∈ns,x.vg∧x.ok=true)∧ns.length+j<=n0∧aT b sb l' H∧cr sb cb s' Hs∧ai cb g cap mv c' Hc∧
  aV s' c'∧Live s' c'∧(s'.B<20∧s'.Z=Z∧c'.ops<=c0.ops+2400*j∧l'.last=l0.last+j∧l'.gen=l0.gen∧l'.ad.length<=l0.ad.length+j∧l'.T.length+ns.length<=l0.T.length+n0∧eU l'.T)∧jI Z (aO Z ns) l' s' c'=res∧Holds wr (H++(Hs++(Hc++Fr)))∧af w wr
theorem jO(v:Value)(ns:List Nt)(h:aT b sb l H)(hs:cr sb cb s Hs)(cz:ai cb g cap mv c Hc)(hH:Holds w (H++(Hs++(Hc++Fr))))(hC:aV s c)(hL:Live s c)(hB:s.B<20)(fI:c.ops<=900000000000)
  (hv:cU Fr v ns)(iu:∀n∈ns,n.vg)(hlen:ns.length<=1000)(hT:D4 l.T)(WO:l.T.length<=1000)(F0:eU l.T)(hq:0<=l.last∧l.last<=1000000000)(y7:0<=l.gen∧l.gen<=16000001)(ik:l.ad.length<=1000):
  Calls Tryz.prog 13 #[.pointer (some ⟨b,0,none⟩),v] w (JF b sb cb g cap mv (aA l s c ns) w Fr):=by
 have k1:=nil_eq;have k2:=cC;have oR:=bO hC.pl;have HM:=aa (RF (w:=w) (Fr:=Hs++(Hc++Fr)) v ns h hH (fun wx hx=>hv wx hx.right.right) iu hlen hT WO F0);have qR:=aa h;have kV:=aa hs;have lS:=aa cz;have HV:=aa hv;have Am:=aa iu;obtain⟨-,A,cn,rfl,-,-,-⟩:=hv w hH.right.right.right;obtain⟨res,cH⟩:∃r,r=aA l s c ns:=⟨_,rfl⟩;rw[<-cH];have cP:=aa (show res=if lW l.T ns then jI s.Z (aO s.Z ns) l s c else(l,s,c,2)from cH);have acC:=aa (show lW l.T ns=true->∀x∈ns,x.ok=true from fun h=>by
  unfold lW at h;rw[fW]at h;exact List.all_eq_true.1 h.1)
 have qH:128<=s.Z:=by omega
 have tW:s.Z<=256:=by omega
 have HW:=aa fun(wx:World) (hx:Holds wx (H++(Hs++(Hc++Fr))))=>lq 2 wx _ (by omega) hx;clear h hs cz hv iu cH oR;cases hmy:lW l.T ns with
 |false=>
  rw[hmy]at HM;have iP:=cP.o;rw[hmy]at iP;have pJ:=aa (show res=(l,s,c,2)from iP);clear iP cP acC hmy;go_enter func13,ntmps13;go_wp2_with fail
  refine HM.o.mono ?_;rintro e w1⟨rfl,ax,aK⟩;go_wp2_with fail
  refine(HW.o w1 ax).mono ?_;rintro e w2⟨ve,He,rfl,he,aB,aX⟩;go_wp2_with fail
  go_ret;rw[pJ.o];exact⟨ve,He,H,Hs,Hc,rfl,he,qR.o,kV.o,lS.o,aB.p,aK.trans aX⟩
 |true=>
  rw[hmy]at HM;have iP:=cP.o;rw[hmy]at iP;have Jt:∀wr,Holds wr (H++(Hs++(Hc++Fr)))->af w wr->acB b sb cb g cap mv l c ns.length s.Z res w Fr (.slice A ns.length cn) wr:=fun wr h1 h2=>
   ⟨0,ns,l,s,c,H,Hs,Hc,HV.o,fun x hx=>⟨Am.o x hx,acC.o hmy x hx⟩,by omega,qR.o,kV.o,lS.o,hC,hL,⟨hB,rfl,by omega,by omega,rfl,by omega,by omega,F0⟩,iP.symm,h1,h2⟩
  have HS0:=aa Jt;obtain⟨n0,uZ⟩:∃n0,n0=ns.length:=⟨_,rfl⟩;have qM:n0<=1000:=by omega
  clear iP cP acC Jt hC hL qR kV lS HV Am;go_enter func13,ntmps13;go_wp2_with fail
  refine HM.o.mono ?_;rintro e w1⟨rfl,ax,aK⟩;have bD:=HS0.o w1 ax aK;rw[<-uZ]at bD;clear HM ax aK HS0;go_wp2_with fail
  go_loopw [1] (fun nv wr=>acB b sb cb g cap mv l c n0 s.Z res w Fr nv wr) (fun nv _=>match nv with| .slice _ n _=>n|_=>0)
  case atStart=>rw[uZ];rw[uZ]at bD;exact bD
  case round=>
   clear bD;obtain⟨j,nt,l',s',c',H,Hs,Hc,hv,cj,hj,hl,hs,cz,hC,hL,⟨XE,hZ',eV,PU,acD,acE,hTn,acF⟩,cH,hH,hg⟩:=hrel;have Oz:=hv wr hH.right.right.right;obtain⟨-,A5,c5,rfl,hc5,Iu,-⟩:=Oz;by_cases h0:0<nt.length
   ·have h0I:(0:Int)<nt.length:=by omega
    obtain⟨b1,o1,rfl,-⟩:=(hv wr hH.right.right.right).get h0;obtain⟨k,ZP⟩:∃k,k=p9 s.Z nt:=⟨_,rfl⟩;obtain⟨p6,qO,Lu⟩:=tp qH h0;rw[<-ZP]at p6 qO Lu;have eB:nt.all Nt.ok=true:=List.all_eq_true.2 fun x hx=>(cj x hx).2;have Tw:=aa fun(wx:World) (F:HL) (hx:Holds wx (H++(Hs++(Hc++F))))=>show Calls Tryz.prog 53 #[.pointer (some ⟨b,0,none⟩)] wx (cM (.int .i64 (s.Z:Int)) wx (H++(Hs++(Hc++F))))from by
     have h:=C1 (w:=wx) (Fr:=F) hl hs cz hx;rw[hC.Z,hZ']at h;exact h
    have uE:=aa fun(wx:World) (F:HL) (hx:Holds wx (F++Fr))=>show Calls Tryz.prog 52 #[.int .i64 (s.Z:Int),.slice (some ⟨b1,o1,none⟩) nt.length c5] wx (cM (.int .i64 (k:Int)) wx (F++Fr))from by
     have h:=Rt s.Z (.slice (some ⟨b1,o1,none⟩) nt.length c5) nt wx (F++Fr) (fun wy hy=>hv wy hy.right) hx (fun x hx=>(cj x hx).1) (by omega) (by omega);rw[eB,if_pos rfl,<-ZP]at h;exact h
    have X6:=aa (hv.pre qO);have ajw:=aa (hv.drop qO);have oT:(nt.take k).length=k:=by rw[dG];omega
    have Mb:=aa fun(wx:World) (F:HL) (hx:Holds wx (F++Fr))=>Fq s.Z (.slice (some ⟨b1,o1,none⟩) k c5) (nt.take k) wx (F++Fr) (fun wy hy=>X6.o wy hy.right) hx (fun x hx=>(cj x (rJ hx)).1) (by omega) (List.all_eq_true.2 fun x hx=>(cj x (rJ hx)).2) qH tW Lu;obtain⟨hd,XC⟩:∃hd,hd=gA (l'.last+1) l'.gen:=⟨_,rfl⟩;obtain⟨bk,hbk⟩:∃bk,bk=eX (nt.take k) s.Z:=⟨_,rfl⟩;rw[<-hbk]at Mb;obtain⟨m1,m2⟩:=oP (q:=l'.last+1) (g:=l'.gen) (by omega) (by omega) (by omega) (by omega);rw[<-XC]at m1 m2;have LD:=aa (xU (d:=bk) hC hL m1 m2 (by rw[hbk,nY Lu,hZ']));have ZO:=hC.vu;have Tf:=hC.B;have Ts:=hC.Z;have jK:=jC hC hd bk;have Ug:hd.agg=.agg #[.int .i64 3,.int .u64 0,.int .i64 (l'.last+1),.int .i64 l'.gen]:=by rw[XC];rfl
    have ko:=aa fun(dv:Value) (wx:World) (F:HL) (hx:Holds wx (Hs++(Hc++F))) (Dx:bN (Hs++(Hc++F)) dv bk)=>show Calls Tryz.prog 25 #[.pointer (some ⟨sb,0,none⟩),.agg #[.int .i64 3,.int .u64 0,.int .i64 (l'.last+1),.int .i64 l'.gen],dv] wx (vU sb cb g cap mv (bn s' c' hd bk) wx F)from by
     rw[<-Ug];exact py hd bk dv hs cz hx ZO XE (by omega) Tf Ts Dx m2
    have U1:=cH;rw[lO qH h0,<-ZP,jI,<-XC,<-hbk]at U1;have cP:=aa U1;generalize bn s' c' hd bk=r at*;have qR:=aa hl;obtain⟨_,_,bm⟩:=hl.cells;have Ix:=aa fun(wx:World) (F:HL) (hx:Holds wx (H++F))=>aS (bm wx F hx).2.1 (bm wx F hx).2.2.2.1;have hla:0<=l'.last∧l'.last<=1000000000000000:=by omega
    have HQ:=aa (aS XE (aS hZ' (aS eV (aS PU (aS acD (aS acE (aS hTn (aS acF hj))))))));have lR:=aa cj;have hkI:(k:Int)<=nt.length:=by omega
    have hkc:(k:Int)<=c5:=by omega
    have an7:k<=c5:=by omega
    clear bm cH U1 hl hs cz hC hL Ug XC hbk m1 m2 ZO Tf Ts XE hZ' eV PU acD acE hTn acF cj eB hv Lu ZP hj;go_wp2_with fail
    refine(Tw.o wr Fr hH).mono ?_;rintro e w2⟨rfl,aB,aX⟩;go_wp2_with fail
    refine(uE.o w2 (H++(Hs++Hc)) aB.p).mono ?_;rintro e w3⟨rfl,aD,bj⟩;have aU:Holds w3 (H++(Hs++(Hc++Fr))):=aD.p;have cf:=(hg.trans aX).trans bj;clear hH aB aD hg aX bj uE;go_upto_region 7 with fail
    refine aF (fun wx=>wx.cell? ⟨b,1,none⟩=some (.pointer (some ⟨sb,0,none⟩))∧wx.cell? ⟨b,3,none⟩=some (.int .i64 l'.gen)) 11 (by kernel_rfl) (fun w1 hd=>Ix.o _ _ (aU.dr hd)) (fun w1 hd hs=>?_);have bg:=aU.dr hd;have eY:=cf.trans (af.dr hd);clear hd aU cf;refine dY 0 2 3 4 ?_;refine Zm 1 fun K hK=>?_;go_simp;refine(Tw.o w1 Fr bg).mono ?_;rintro e w4 ⟨rfl,bC,eJ⟩;have jn:=eY.trans eJ;clear bg eJ eY;refine hK _ _ (Ix.o _ _ bC) (fun _=>?_);clear hK K hs;rename_i hs;refine Zm 5 fun K hK=>?_;go_simp;refine(Mb.o w4 (H++(Hs++Hc)) bC.p).mono ?_;rintro e w5 ⟨v5,H5,rfl,zM,cA,jk⟩;have fx:=jn.trans jk;have PI:=aa zM;obtain⟨A6,c6,rfl⟩:=zM.val;have cT:Holds w5 (H++(Hs++(Hc++(H5++Fr)))):=cA.p;clear bC cA jk jn zM;refine hK _ _ (Ix.o _ _ cT) (fun _=>?_);clear hK K hs;rename_i hs;refine dY 6 7 8 9 ?_;refine ji 10 ?_;refine Ze ?_;clear hs Mb Tw;generalize bk.length=bl at*;go_upto_region 10 with fail
    refine aF (fun wx=>wx.cell? ⟨b,1,none⟩=some (.pointer (some ⟨sb,0,none⟩))∧wx.cell? ⟨b,3,none⟩=some (.int .i64 l'.gen)) 18 (by kernel_rfl) (fun w1 hd=>Ix.o _ _ (cT.dr hd)) (fun w1 hd hs=>?_);have di:=cT.dr hd;have iU:=fx.trans (af.dr hd);clear hd cT fx;refine dY 0 1 2 3 ?_;refine dY 4 6 7 8 ?_;refine qL 9 11 ?_;refine Zm 5 fun K hK=>?_;go_simp;refine(dg qR.o di hla.1 hla.2).mono ?_;rintro e w6 ⟨rfl,H2,p7,aB,aX⟩;have cY:=iU.trans aX;have Lt:=aa p7;obtain⟨_,_,vJ⟩:=p7.cells;have Gk:=aa (show∀(wx:World) (F:HL),Holds wx (H2++F)->wx.cell? ⟨b,1,none⟩=some (.pointer (some ⟨sb,0,none⟩))∧wx.cell? ⟨b,3,none⟩=some (.int .i64 l'.gen)from fun wx F hx=>aS (vJ wx F hx).2.1 (vJ wx F hx).2.2.2.1);clear di aX iU p7 vJ;refine hK _ _ (Gk.o _ _ aB) (fun _=>?_);clear hK K hs;rename_i hs;refine ji 10 ?_;refine Zm 12 fun K hK=>?_;go_simp;have aD:Holds w6 (Hs++(Hc++(H2++(H5++Fr)))):=aB.p;refine(ko.o _ w6 _ aD (fun wx hx=>PI.o.at_ (Fr:=Hs++(Hc++(H2++Fr))) hx.p)).mono ?_;rintro e w7 ⟨ve,He,xG,rS,rfl,he,nE,II,dU,bj⟩;have ia:=cY.trans bj;have HE:=aa he;have xw:=aa nE;have HC3:=aa II;clear aB aD bj cY nE II;refine hK _ _ (Gk.o _ (xG++(rS++(He++(H5++Fr)))) dU.p) (fun _=>?_);clear hK K hs;rename_i hs;refine dY 13 14 15 16 ?_;refine ji 17 ?_;refine Ze ?_;clear hs ko Ix Gk PI;rcases HE.o with⟨h0',rfl,rfl⟩|⟨h0',eb,es,rfl,rfl⟩
    ·have iP:=cP.o;rw[if_neg (by omega)]at iP;have FN:=aa iP;rcases LD.o.Bd with⟨_,PY,n,_,Oe,_⟩|⟨h7,_⟩|⟨h7,_⟩;rotate_left
     ·omega
     ·omega
     have Uh:=aa Oe;have HLV:=aa PY;obtain⟨A7,c7,Hp,Ho,hX,ay,kM⟩:=Lt.o.Y2;have iq:Holds w7 (H2++(xG++(rS++Fr))):=(show Holds w7 (xG++(rS++(H2++(H5++Fr))))from dU).p;obtain⟨x6,nQ⟩:=hX w7 _ iq;have pd:=aa kM;have jm:=aa ay;have oc:l'.ad.length+1<=maxLen:=by obtain⟨_,_,_,_,_,a,_,_,b⟩:=HQ.o;simp only[maxLen];omega
     have si:(l'.ad.length+1)*8<=140737488355328:=by obtain⟨_,_,_,_,_,a,_,_,b⟩:=HQ.o;omega
     dsimp only at x6;clear HE iP cP PY Oe hX ay kM dU iq h0';go_upto_region 14 with(at_builtin;refine al ud (by rfl) (.tmp 63) (.tmp 65) (by rfl) (by rfl) (by rfl) jm.o (nQ.bP _) ag.one (by simp[Value.oneCell']) oc si ?_;intro A' c' w' H' ay Ui jk;dsimp only at ay Ui;rw[Uh.o]at ay;obtain⟨H'',Bh,bz⟩:=pd.o A' c' n H' ay;obtain⟨ahQ,f6,jq,u6,x6'⟩:=bz w' _ Ui;have ahR:=((ia.alloc _).trans jk).setCell ⟨b,6,none⟩ (.slice A' (l'.ad.length+1) c');have WS:=aa Bh;clear ay bz Bh Ui jk x6)
     have Iw:=aa fun(wx:World) (hx:Holds wx Fr) (i:Nat) (hi:i<k)=>show∃LW:i<nt.length,wx.cell? ⟨b1,o1+i*5,none⟩=some (.bool nt[i].gone)∧wx.cell? ⟨b1,o1+i*5+1,none⟩=some (.int .u64 nt[i].e.addr)∧
       wx.cell? ⟨b1,o1+i*5+2,none⟩=some (.int .i64 nt[i].e.aW)∧wx.cell? ⟨b1,o1+i*5+3,none⟩=some (.bool nt[i].e.bR)∧wx.cell? ⟨b1,o1+i*5+4,none⟩=some (.int .i64 nt[i].e.seq)from by
      obtain⟨b2,o2,e2,y⟩:=(X6.o wx hx).get (k:=i) (by rw[oT];exact hi);injection e2 with e2;injection e2 with e3 e4;subst e3 e4;rw[List.getElem_take]at y;exact⟨by omega,y⟩
     obtain⟨l4,Bh⟩:∃l4:LM,l4={l' with last:=l'.last+1,ad:=l'.ad++[n]}:=⟨_,rfl⟩;have ahS:=aa (show aT b sb l4 H'' from by rw[Bh];exact WS.o);have Qn:=aa Bh;have hTE:l4.T=l'.T:=by rw[Bh]
     have HTE:=aa hTE;have hTb:l4.T.length<=2000∧eU l4.T∧k<=2000:=by rw[hTE];obtain⟨_,_,_,_,_,_,a,b,c⟩:=HQ.o;exact⟨by omega,b,by omega⟩
     generalize w'.setCell ⟨b,6,none⟩ (.slice A' (l'.ad.length+1) c')=w8 at*;have kp:X8 b sb l4 (nt.take k) w (xG++(rS++Fr)) (.int .i64 0) w8:=⟨0,H'',by omega,rfl,ahS.o,(show Holds w8 (H''++(xG++(rS++Fr)))from ahQ),ahR⟩;clear nQ ahQ ahR WS ahS Bh hTE pd jm f6 jq x6';go_wp2_with fail
     go_loopw [73] (fun iv wr=>X8 b sb l4 (nt.take k) w (xG++(rS++Fr)) iv wr) (fun iv _=>k-(intOf iv).toNat)
     case atStart=>exact kp
     case round=>
      clear kp;obtain⟨i,H1,hi,rfl,ki,Bx,dJ⟩:=hrel;rw[oT]at hi;by_cases aG:i<k
      ·have dQ:(i:Int)<k:=by omega
       obtain⟨LW,y0,y1,y2,y3,y4⟩:=Iw.o wr Bx.right.right.right i aG;have jP:=aa (show su (aI l4.T ((nt.take k).take i)) nt[i]=aI l4.T ((nt.take k).take (i+1)) by
        rw[gB (by rw[oT];exact aG),ry,List.getElem_take])
       have HIT:=aa (lR.o _ (cX LW)).1;generalize nt[i]=x at*;obtain⟨gn,⟨ea,ep,ed,eq⟩⟩:=x;dsimp only at y0 y1 y2 y3 y4;obtain⟨tb,Ht,ZQ,OB,OC,rU,Bz⟩:=ki.table;have hea:0<=ea:=HIT.o.1.1;have Uj:(aI l4.T ((nt.take k).take i)).length<200000:=by have:=jN hTb.2.1 ((nt.take k).take i);rw[dG,oT]at this;have:=hTb.2.2;omega
       have bM:=Bx.alloc (.cells #[.bool gn,.int .u64 ea,.int .i64 ep,.bool ed,.int .i64 eq] 26);have cJ:=dJ.alloc (.cells #[.bool gn,.int .u64 ea,.int .i64 ep,.bool ed,.int .i64 eq] 26);have ZR:=aa OC;have dj:=aa rU;have Uk:=aa Bz;have TA:=aa OB;clear OC rU Bz OB Bx dJ ki;go_upto_region 17 with fail
       generalize wr.alloc (.cells #[.bool gn,.int .u64 ea,.int .i64 ep,.bool ed,.int .i64 eq] 26)=w9 at*;generalize wr.heap.size=nb at*;clear y0 y1 y2 y3 y4;have iJ:=aa fun(wx:World) (hx:Holds wx ((nb,.cells #[.bool gn,.int .u64 ea,.int .i64 ep,.bool ed,.int .i64 eq] 26)::(H1++(xG++(rS++Fr)))))=>show wx.cell? ⟨b,0,none⟩=some (.pointer (some ⟨tb,0,none⟩))∧wx.cell? ⟨nb,0,none⟩=some (.bool gn)∧wx.cell? ⟨nb,1,none⟩=some (.int .u64 ea)∧wx.cell? ⟨nb,2,none⟩=some (.int .i64 ep)∧wx.cell? ⟨nb,3,none⟩=some (.bool ed)∧wx.cell? ⟨nb,4,none⟩=some (.int .i64 eq)from⟨TA.o wx _ hx.tail,hx.note⟩;have SR:=aa fun(wx:World) (hx:Holds wx ((nb,.cells #[.bool gn,.int .u64 ea,.int .i64 ep,.bool ed,.int .i64 eq] 26)::(H1++(xG++(rS++Fr)))))=>show Calls Tryz.prog 55 #[.pointer (some ⟨tb,0,none⟩),.agg #[.bool gn,.int .u64 ea,.int .i64 ep,.bool ed,.int .i64 eq]] wx (fun e w'=>e=.returned (.tuple #[])∧∃H',aT b sb {l4 with T:=aI l4.T ((nt.take k).take (i+1))} H'∧Holds w' (H'++(xG++(rS++Fr)))∧af wx w')from by
        have hy:Holds wx (Ht++(ZQ++(((nb,.cells #[.bool gn,.int .u64 ea,.int .i64 ep,.bool ed,.int .i64 eq] 26)::[])++(xG++(rS++Fr))))):=(dj.o wx _).1 (show Holds wx (H1++(((nb,.cells #[.bool gn,.int .u64 ea,.int .i64 ep,.bool ed,.int .i64 eq] 26)::[])++(xG++(rS++Fr))))from hx.p);refine(sR _ _ ⟨gn,⟨ea,ep,ed,eq⟩⟩ ZR.o hy hea Uj).mono ?_;rintro e w'⟨rfl,H',Es,gK,nD⟩;rw[jP.o]at Es;obtain⟨H6,Az,Gm⟩:=Uk.o _ _ Es;exact⟨rfl,H6,Az,(Gm w' _ (show Holds w' (H'++(ZQ++(xG++(rS++Fr))))from gK.p)),nD⟩
       refine aF (fun wx=>wx.cell? ⟨b,0,none⟩=some (.pointer (some ⟨tb,0,none⟩))∧wx.cell? ⟨nb,0,none⟩=some (.bool gn)∧wx.cell? ⟨nb,1,none⟩=some (.int .u64 ea)∧wx.cell? ⟨nb,2,none⟩=some (.int .i64 ep)∧wx.cell? ⟨nb,3,none⟩=some (.bool ed)∧wx.cell? ⟨nb,4,none⟩=some (.int .i64 eq)) 5 (by kernel_rfl) (fun w1 hd=>iJ.o _ (bM.dr hd)) (fun w1 hd hs=>?_);have dZ:=bM.dr hd;have iZ:=cJ.trans (af.dr hd);clear hd bM cJ;refine dY 0 1 2 3 ?_;refine ji 4 ?_;refine Zl 5 fun K hK=>?_;go_simp;refine(SR.o w1 dZ).mono ?_;rintro e lQ ⟨rfl,H6,Az,Gn,eJ⟩;have Gp:=iZ.trans eJ;have SU:=aa Az;clear dZ eJ iZ Az;refine hK _ _ ?_;clear hK K hs;refine Ze ?_;go_wp2_with fail
       go_roundw
       case rel=>exact⟨i+1,H6,by rw[oT];exact aG,by simp,SU.o,Gn,Gp⟩
       case measure=>simp[intOf];omega
      ·have dQ:¬(i:Int)<k:=by omega
       obtain rfl:i=k:=by omega
       have hTK:(nt.take i).take i=nt.take i:=by rw[List.take_take,Nat.min_self]
       rw[hTK]at ki;obtain⟨l5,acG⟩:∃l5:LM,l5={l4 with T:=aI l4.T (nt.take i)}:=⟨_,rfl⟩;rw[<-acG]at ki;have pL:=aa ki;have vq:=aa (show l5={l' with last:=l'.last+1,ad:=l'.ad++[n],T:=aI l'.T (nt.take i)} by rw[acG,Qn.o]);have Gq:=aa (show∀nv,cU Fr nv (nt.drop i)->acB b sb cb g cap mv l c n0 s.Z res w Fr nv wr from fun nv FO=>by
        obtain⟨q1,q2,q3,q4,q5,q6,q7,q8,q9⟩:=HQ.o;refine⟨j+1,nt.drop i,l5,r.1,r.2.1,H1,xG,rS,FO,fun x hx=>lR.o x (List.mem_of_mem_drop hx),by rw[dA];omega,pL.o,xw.o,HC3.o,LD.o.cont,HLV.o,?_,?_,Bx,dJ⟩
        ·rw[vq.o];refine⟨by rw[LD.o.B];exact q1,by rw[LD.o.Z];exact q2,by have:=jK.2.2.2.2.2;omega,by show l'.last+1=_;omega,q5,by show(l'.ad++[n]).length<=_;rw[aY,mT];omega,?_,qA q8 _⟩;show(aI l'.T (nt.take i)).length+(nt.drop i).length<=_;have:=jN q8 (nt.take i);rw[oT]at this;rw[dA];omega
        ·rw[vq.o,<-FN.o,Uh.o];rfl)
       have vv:=aa ajw.o;clear ki acG hTK pL vq FN Uh hTb jK Qn Iw HQ lR;by_cases vp:c5=i
       ·have hni:nt.length=i:=by omega
        have Li:nt.drop i=[]:=BN (by omega);have Jf:=aa fun A9=>Gq.o (.slice A9 0 0) (by rw[Li];exact cU.nK (by simp[maxLen]));clear vv Gq;subst vp;go_wp2_with fail
        exact⟨Jf.o _,by show 0<nt.length;omega⟩
       ·have hic:i<c5:=by omega
        have hN:=Gq.o _ vv.o;simp only[kt,cV]at hN;have Jf:=aa hN;clear hN vv Gq;go_wp2_with fail
        exact⟨Jf.o,by show nt.length-i<nt.length;omega⟩
    ·have iP:=cP.o;rw[if_pos h0']at iP;have FN:=aa iP;have k3:=cS;have HH:=aa dU;clear iP cP dU;go_wp2_with fail
     go_ret;rw[<-FN.o];exact⟨_,_,H2,xG,rS,rfl,HE.o,Lt.o,xw.o,HC3.o,HH.o.p,ia⟩
   ·have hnt:nt=[]:=jW (by omega);subst hnt;have h0I:¬(0:Int)<(([]:List Nt).length:Int):=by simp
    have HR:=aa (show(l',s',c',(0:Int))=res from cH);have qR:=aa hl;have kV:=aa hs;have lS:=aa cz;clear cH hl hs cz hC hL XE hZ' eV PU acD acE hTn acF cj hv hj;go_wp2_with fail
    go_ret;rw[<-HR.o];exact⟨.nilIface,[],H,Hs,Hc,rfl,.inl ⟨rfl,rfl,rfl⟩,qR.o,kV.o,lS.o,hH.p,hg⟩
end
def Ej:Go.Shelf.Ren:=⟨fun|6=>179|15=>175|14=>223|28=>212|29=>213|20=>224|21=>246|22=>247|23=>248|24=>249|25=>250|26=>251|27=>252|46=>257|47=>239|48=>240|49=>258|50=>259|57=>263|n=>n,fun|22=>178|24=>183|25=>185|3=>3|39=>128|0=>0|53=>198|55=>22|4=>4|46=>271|45=>270|50=>275|5=>5|9=>9|66=>293|70=>296|76=>305|77=>228|n=>n,fun|n=>n⟩
theorem Fy:Go.Proofs.SlLaysF0.n6 Tryz.prog Ej where
 mixed:=by kernel_rfl
 f6:=⟨ "slices.SortFunc[[]scullery/maplog.paged,scullery/maplog.paged]",by decide,func179.trans (congrArg some (by kernel_rfl))⟩
 f14:=⟨ "slices.pdqsortCmpFunc[scullery/maplog.paged]",by decide,func223.trans (congrArg some (by kernel_rfl))⟩
 f15:=func175.trans (congrArg some (by kernel_rfl))
 f20:=⟨ "slices.insertionSortCmpFunc[scullery/maplog.paged]",by decide,func224.trans (congrArg some (by kernel_rfl))⟩
 f21:=⟨ "slices.heapSortCmpFunc[scullery/maplog.paged]",by decide,func246.trans (congrArg some (by kernel_rfl))⟩
 f22:=⟨ "slices.breakPatternsCmpFunc[scullery/maplog.paged]",by decide,func247.trans (congrArg some (by kernel_rfl))⟩
 f23:=⟨ "slices.choosePivotCmpFunc[scullery/maplog.paged]",by decide,func248.trans (congrArg some (by kernel_rfl))⟩
 f24:=⟨ "slices.reverseRangeCmpFunc[scullery/maplog.paged]",by decide,func249.trans (congrArg some (by kernel_rfl))⟩
 f25:=⟨ "slices.partialInsertionSortCmpFunc[scullery/maplog.paged]",by decide,func250.trans (congrArg some (by kernel_rfl))⟩
 f26:=⟨ "slices.partitionEqualCmpFunc[scullery/maplog.paged]",by decide,func251.trans (congrArg some (by kernel_rfl))⟩
 f27:=⟨ "slices.partitionCmpFunc[scullery/maplog.paged]",by decide,func252.trans (congrArg some (by kernel_rfl))⟩
 f28:=func212.trans (congrArg some (by kernel_rfl))
 f29:=func213.trans (congrArg some (by kernel_rfl))
 f46:=⟨ "slices.siftDownCmpFunc[scullery/maplog.paged]",by decide,func257.trans (congrArg some (by kernel_rfl))⟩
 f47:=func239.trans (congrArg some (by kernel_rfl))
 f48:=func240.trans (congrArg some (by kernel_rfl))
 f49:=⟨ "slices.medianAdjacentCmpFunc[scullery/maplog.paged]",by decide,func258.trans (congrArg some (by kernel_rfl))⟩
 f50:=⟨ "slices.medianCmpFunc[scullery/maplog.paged]",by decide,func259.trans (congrArg some (by kernel_rfl))⟩
 f57:=⟨ "slices.order2CmpFunc[scullery/maplog.paged]",by decide,func263.trans (congrArg some (by kernel_rfl))⟩
 t0:=Tryz.underlying0
 a0:=Tryz.isAgg0
 z0:=Tryz.sizeOf0
 v0:=Tryz.zeroValue0
 t3:=Tryz.underlying3
 a3:=Tryz.isAgg3
 z3:=Tryz.sizeOf3
 v3:=Tryz.zeroValue3
 t4:=Tryz.underlying4
 a4:=Tryz.isAgg4
 z4:=Tryz.sizeOf4
 v4:=Tryz.zeroValue4
 t5:=Tryz.underlying5
 a5:=Tryz.isAgg5
 z5:=Tryz.sizeOf5
 v5:=Tryz.zeroValue5
 t9:=Tryz.underlying9
 a9:=Tryz.isAgg9
 z9:=Tryz.sizeOf9
 v9:=Tryz.zeroValue9
 t22:=Tryz.underlying178
 a22:=Tryz.isAgg178
 z22:=Tryz.sizeOf178
 v22:=Tryz.zeroValue178
 t25:=Tryz.underlying185
 a25:=Tryz.isAgg185
 z25:=Tryz.sizeOf185
 v25:=Tryz.zeroValue185
 t39:=Tryz.underlying128
 a39:=Tryz.isAgg128
 z39:=Tryz.sizeOf128
 v39:=Tryz.zeroValue128
 t45:=Tryz.underlying270
 a45:=Tryz.isAgg270
 z45:=Tryz.sizeOf270
 v45:=Tryz.zeroValue270
 t46:=Tryz.underlying271
 a46:=Tryz.isAgg271
 z46:=Tryz.sizeOf271
 v46:=Tryz.zeroValue271
 t50:=Tryz.underlying275
 a50:=Tryz.isAgg275
 z50:=Tryz.sizeOf275
 v50:=Tryz.zeroValue275
 t53:=Tryz.underlying198
 a53:=Tryz.isAgg198
 z53:=Tryz.sizeOf198
 v53:=Tryz.zeroValue198
 t55:=Tryz.underlying22
 a55:=Tryz.isAgg22
 z55:=Tryz.sizeOf22
 v55:=Tryz.zeroValue22
 t66:=Tryz.underlying293
 a66:=Tryz.isAgg293
 z66:=Tryz.sizeOf293
 v66:=Tryz.zeroValue293
 t70:=Tryz.underlying296
 a70:=Tryz.isAgg296
 z70:=Tryz.sizeOf296
 v70:=Tryz.zeroValue296
 t76:=Tryz.underlying305
 a76:=Tryz.isAgg305
 z76:=Tryz.sizeOf305
 v76:=Tryz.zeroValue305
 t77:=Tryz.underlying228
 a77:=Tryz.isAgg228
 z77:=Tryz.sizeOf228
 v77:=Tryz.zeroValue228
structure kj where
 n:Int
 h:Hd
 da:Option Addr
 dn:Nat
 dc:Nat
deriving Inhabited
def kj.cells(x:kj):List Value:=[.int .i64 x.n,.int .i64 x.h.k,.int .u64 x.h.a,.int .i64 x.h.s,.int .i64 x.h.g,.slice x.da x.dn x.dc]
def xA(ps:List kj):List Value:=ps.flatMap kj.cells
def BT(v:Value)(ps:List kj)(H:HL):Prop:=au 183 6 v ps.length (xA ps) H
theorem an8:rP Tryz.prog 178 183 6 64 (.agg #[.int .i64 0,.int .i64 0,.int .u64 0,.int .i64 0,.int .i64 0,.slice none 0 0]):=rP.mk' (by kernel_rfl) (by kernel_rfl) (by rfl) (by decide)
theorem tq(ps:List kj):(xA ps).length=ps.length*6:=by
 induction ps with
 |nil=>rfl
 |cons p ps ih=>show(p.cells++xA ps).length=_;rw[aY,ih,fC];show 6+_=_;omega
theorem NN(a b:List kj):xA (a++b)=xA a++xA b:=by simp[xA]
theorem GS:∀(ps:List kj) (i:Nat) (h:i<ps.length) (j:Nat),j<6->(xA ps)[i*6+j]?=ps[i].cells[j]?
 |p::ps,0,_,j,hj=>by
  show(p.cells++xA ps)[0*6+j]?=_;rw[y9 (by show 0*6+j<6;omega)];simp
 |p::ps,i+1,h,j,hj=>by
  show(p.cells++xA ps)[(i+1)*6+j]?=_;rw[y8 (by show 6<=_;omega)];have:=GS ps i (by simpa using h) j hj;rw[show(i+1)*6+j-p.cells.length=i*6+j by show(i+1)*6+j-6=_;omega];simpa using this
theorem Fz(ps:List kj):Go.Sort.flatK kj.cells 6 ps.toArray=(xA ps).toArray:=by
 refine Go.Sort.ext_get! (by simp[tq]) fun t ht=>?_;have Es:t<ps.toArray.size*6:=by simpa using ht
 rw[Go.Sort.get_flatK _ _ _ _ Es];have hi:t/6<ps.length:=by simp at Es;omega
 have hx:ps.toArray[t/6]! =ps[t/6]:=by rw[getElem!_pos ps.toArray (t/6) (by simpa using hi)];rfl
 rw[hx];have h6:=GS ps (t/6) hi (t%6) (Nat.mod_lt _ (by decide));rw[show t/6*6+t%6=t by omega]at h6;have aG:t<(xA ps).length:=by rw[tq];omega
 have lP:t%6<ps[t/6].cells.length:=by show t%6<6;omega
 rw[bF aG,bF lP]at h6;injection h6 with h6;rw[getElem!_pos (xA ps).toArray t (by simpa using aG),getElem!_pos (ps[t/6].cells) (t%6) lP];simpa using h6.symm
theorem NO(x y:kj)(W:World):Calls Tryz.prog 180 #[.agg x.cells.toArray,.agg y.cells.toArray] W fun e w'=>e=.returned (.int .i64 (lI x.h.s y.h.s))∧∃q os',w'=Go.Sort.grow (W.drewN q) os':=by
 obtain⟨xn,⟨x0,x1,x2,x3⟩,xa,xl,xc⟩:=x;obtain⟨yn,⟨y0,y1,y2,y3⟩,ya,yl,yc⟩:=y;have HC:=aa (fun W'=>Cb x2 y2 W');simp only[kj.cells];generalize lI x2 y2=r at*;go_enter func180,ntmps180;go_wp2_with fail
 refine(HC.o _).mono ?_;rintro e w1⟨rfl,rfl⟩;go_wp2_with fail
 go_ret;exact⟨rfl,0,_,by rw[Go.Sort.alloc_eq_grow,Go.Sort.alloc_eq_grow,Go.Sort.grow_grow];rfl⟩
theorem AL(x y:kj):ltOf (fun x y:kj=>lI x.h.s y.h.s) x y=decide (x.h.s<y.h.s):=by
 unfold ltOf lI;by_cases h1:x.h.s<y.h.s
 ·simp[h1]
 ·by_cases h2:y.h.s<x.h.s<;>simp[h1,h2]
theorem ajx:Go.Sort.SWO (ltOf fun x y:kj=>lI x.h.s y.h.s) where
 irrefl x:=by rw[AL];simp
 trans x y z h1 h2:=by rw[AL]at*;simp at*;omega
 ntrans x y z h1 h2:=by rw[AL]at*;simp at*;omega
abbrev Ul(l:List kj):Prop:=l.Pairwise fun x y=>x.h.s<=y.h.s
theorem NQ(v:Value)(es:List kj)(H Fr:HL)(w:World)(hv:BT v es H)(hH:Holds w (H++Fr))(kJ:es.length<=1000000):
  Calls Tryz.prog 179 #[v,.func (.func 180) #[] #[]] w (mu (fun H'=>∃nk:List kj,nk.Perm es∧Ul nk∧BT v nk H') (.tuple #[]) w Fr):=by
 unfold BT at hv;rcases hv with⟨hl,⟨rfl,h0,rfl⟩|⟨g,cap,cur,fz,rfl,hn,hc,hs,ht,hf,rfl⟩⟩
 ·obtain rfl:es=[]:=List.length_eq_zero_iff.1 h0;refine Calls.mono (AnyF.slices_SortFunc_none Fy none 0 (.func (.func 180) #[] #[]) w) ?_;rintro e w'⟨rfl,rfl⟩;exact⟨rfl,[],⟨[],List.Perm.nil,List.Pairwise.nil,au.nil _ _⟩,hH,af.refl _⟩
 ·have eg:∀args w,(callFunc 180 args).run Tryz.prog w=.ok (.enter 180 args) w:=enters_of func180 (by kernel_rfl) rfl;have PJ:=Fz es;have hHK:Go.Sort.HoldsK kj.cells 6 w g 0 es.toArray:=by
   unfold Go.Sort.HoldsK;rw[PJ];intro j hj;have xF:j<(xA es).length:=by simpa using hj
   refine⟨?_,?_⟩
   ·rw[fp,hH.cell (t:=183) (cs:=cur) (fz:=fz) (by simp)];have h1:(cur.toList.take (es.length*6))[j]?=(xA es)[j]?:=by rw[ht]
    rw[lE,if_pos (by rw[tq]at xF;exact xF)]at h1;rw[<-Array.getElem?_toList,h1,bF xF,getElem!_pos _ j hj];rfl
   ·rw[fp];exact eO (t:=183) (cs:=cur) (fz:=fz) (hH.get (by simp)) hf (by rw[tq]at xF;omega)
  have T8:=AnyQ.slices_SortFunc Fy 6 Tryz.isAgg183 Tryz.sizeOf183 kj.cells (fun _=>rfl) (fun x v hv=>by simp[kj.cells]at hv;rcases hv with rfl|rfl|rfl|rfl|rfl|rfl<;>rfl) (fun x y=>lI x.h.s y.h.s) ajx 180 #[] g 0 cap es.toArray w eg
   (fun _ _ _ _ x y=>NO x y _) hHK (hH.lt (p:=(g,.cells cur 183 fz)) (by simp)) (by simp;omega)
  refine Calls.mono T8 ?_;rintro e w'⟨rfl,d',n,os,hp,hso,rfl⟩;unfold sortWorldK Go.Sort.putRowK;have dy:d'.size=es.length:=by have:=hp.1;simpa using this
  have UR:d'.toList.Perm es:=by
   have h:=hp.2.2;simp only[vR]at h;rw[<-dy]at h;have h':d'.toList.Perm (es.take d'.size):=by simpa using h
   rwa[dy,gU (aN _)]at h'
  have acm:Ul d'.toList:=by
   refine List.pairwise_iff_getElem.2 fun i j hi hj rF=>?_;have h:=hso i j (Nat.zero_le _) rF (by simpa[dy]using hj);rw[AL]at h;have h2:=of_decide_eq_false h;rw[getElem!_pos d' i (by simpa using hi),getElem!_pos d' j (by simpa using hj)]at h2;simp only[Array.getElem_toList];omega
  have hfd:Go.Sort.flatK kj.cells 6 d'=(xA d'.toList).toArray:=by have:=Fz d'.toList;simpa using this
  rw[hfd];obtain⟨h1,h2⟩:=sP id (g:=g) (cur:=cur) (t:=183) (fz:=fz) (H:=Fr) n os (xA d'.toList).toArray (by simpa using hH);refine⟨rfl,[(g,.cells (Go.Sort.putCells id 0 (xA d'.toList).toArray cur) 183 fz)],⟨d'.toList,UR,acm,?_⟩,h1,h2⟩;have lP:(xA d'.toList).length=es.length*6:=by rw[tq];simp[dy]
  have e1:=oQ id (xA d'.toList) cur (by rw[lP];omega);rw[lP]at e1;have p7:d'.toList.length=es.length:=by simpa using dy
  exact⟨by rw[tq],.inr ⟨g,cap,_,fz,by rw[p7],by rw[p7];exact hn,hc,by rw[ij];omega,by rw[p7,e1,List.map_id],by rw[ij];exact hf,rfl⟩⟩
end Go.Proofs.YtalnifciidblkaaGreatDoor
