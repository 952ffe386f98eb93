/-
  Lemmas.
-/
import Derived.Test.YtalnifciidblkaaGreatDoorG31
import Derived.Test.YtalnifciidblkaaGreatDoorG13
import Derived.Test.YtalnifciidblkaaGreatDoorG24
namespace Go.Proofs.YtalnifciidblkaaGreatDoor
open _root_.Go.Proofs.Tryz
open Go.RowKit
set_option linter.unusedSimpArgs false
set_option linter.unusedVariables false
set_option maxRecDepth 20000
set_option maxHeartbeats 2000000
section
variable{b sb cb g cap:Nat}{mv:Value}{s:SM}{c:CM}{H Hs Hc Fr:HL}{w:World}
def kj.dv(x:kj):Value:=.slice x.da x.dn x.dc
def Lv(c:CM)(x:kj):SS:=⟨x.n.toNat,x.h,((c.vN x.n.toNat).map (·.1)).getD []⟩
def kO(s:SM)(c:CM)(kind gen:Int)(Hp:HL)(x:kj):Prop:=∃(n:Nat) (d:List UInt8),x.n=n∧aq s.hs (n:Int)=some x.h∧c.vN n=some (d,x.h)∧bN Hp x.dv d∧x.h.k=kind∧x.h.g=gen
def BA(s:SM)(kind gen:Int)(n:Int):Bool:=decide ((du s n).k=kind)&&decide ((du s n).g=gen)
theorem kO.more{kind gen:Int}{Hp Hq:HL}{x:kj}(h:kO s c kind gen Hp x):kO s c kind gen (Hq++Hp) x:=by
 obtain⟨n,d,h1,h2,h3,h4,h5⟩:=h;exact⟨n,d,h1,h2,h3,h4.right,h5⟩
theorem kO.reads{kind gen:Int}{Hp:HL}{x:kj}{c':CM}(h:kO s c kind gen Hp x):Lv c x=⟨x.n.toNat,x.h,((c.vN x.n.toNat).map (·.1)).getD []⟩:=rfl
theorem Reads.vN{c c':CM}(h:Reads c c')(n:Nat):c'.vN n=c.vN n:=by unfold CM.vN;rw[h.P,oM h.blocks]
theorem Y3(hC:aV s c){kind gen:Int}{Hp:HL}{dk:List kj}(hg:∀x∈dk,kO s c kind gen Hp x)(hn:(dk.map (·.n)).Perm ((aC s).filter (BA s kind gen)))(ha:Ul dk):B5 s c kind gen (dk.map (Lv c)):=by
 have qG:∀x∈dk,(Lv c x).n=x.n.toNat:=fun x _=>rfl;refine⟨fun m=>?_,?_,?_⟩
 ·rw[List.mem_map];constructor
  ·rintro⟨x,hx,rfl⟩;obtain⟨n,d,h1,h2,h3,h4,h5,h6⟩:=hg x hx;unfold Lv;rw[h1,Int.toNat_natCast,h3];exact⟨h2,rfl,h5,h6⟩
  ·rintro⟨h1,h2,h3,h4⟩;have hm:(m.n:Int)∈dk.map (·.n):=hn.mem_iff.2 (List.mem_filter.2 ⟨hC.ye h1,by
    unfold BA du;rw[h1];simp[h3,h4]⟩)
   obtain⟨x,hx,e⟩:=List.mem_map.1 hm;obtain⟨n,d,g1,g2,g3,g4,g5,g6⟩:=hg x hx;have e2:m.n=n:=by omega
   refine⟨x,hx,?_⟩;unfold Lv;rw[g1,Int.toNat_natCast,g3];rw[e2,g3]at h2;injection h2 with h2;injection h2 with e3 e4;obtain⟨mn,mh,md⟩:=m;dsimp only at e2 e3 e4⊢;rw[e2,<-e3,<-e4];rfl
 ·rw[rK];exact ha
 ·rw[List.map_map];have vf:(dk.map (·.n)).Nodup:=by
   rw[hn.nodup_iff];refine List.Pairwise.filter _ ?_;rw[cL hC,rK];have h0:(bc s).Nodup:=List.nodup_range.filter _;rw[vL]at h0;exact h0.imp fun h e=>h (by omega)
  rw[vL,rK]at vf⊢;refine vf.imp_of_mem fun ha hb h e=>h ?_;obtain⟨n,_,h1,_⟩:=hg _ ha;obtain⟨m,_,h2,_⟩:=hg _ hb;have e':(_:Int).toNat=(_:Int).toNat:=e;rw[h1,h2]at e'⊢;have:n=m:=by simpa using e'
  omega
theorem RM(s:SM)(c:CM)(n:Int):c.iV (oq s c n).1 1:=by
 unfold oq;split
 ·exact(CM.iV.refl c).mono (by omega)
 ·split
  ·exact CM.sJ _ _ _
  ·split
   ·exact CM.sJ _ _ _
   ·exact CM.sJ _ _ _
def wE(sb cb g cap:Nat)(mv:Value)(s:SM)(c:CM)(kind gen:Int)(w:World)(Hs Fr:HL)(e:Ending)(w':World):Prop:=
 (∃(c':CM) (dk:List kj) (v:Value) (Hv Hp cO:HL),(∀x∈dk,kO s c kind gen Hp x)∧B5 s c kind gen (dk.map (Lv c))∧Reads c c'∧c'.on=true∧c'.ops<=c.ops+256∧e=.returned (.tuple #[v,.nilIface])∧BT v dk Hv∧ai cb g cap mv c' cO∧Holds w' (Hs++(cO++(Hv++(Hp++Fr))))∧af w w')∨
 (∃(c':CM) (ve:Value) (He cO:HL),Reads c c'∧jx c c'∧c'.ops<=c.ops+256∧e=.returned (.tuple #[.slice none 0 0,ve])∧bJ ve 4 He∧ai cb g cap mv c' cO∧Holds w' (Hs++(cO++(He++Fr)))∧af w w')
def Um(sb cb g cap:Nat)(mv:Value)(s:SM)(c:CM)(kind gen:Int)(L:List Int)(nv:Value)(w:World)(Hs Fr:HL)(ov iv:Value)(wr:World):Prop:=
 ∃(k:Nat) (c':CM) (dk:List kj) (Hv Hp Hn cO:HL),k<=L.length∧iv=.int .i64 k∧aZ nv L Hn∧BT ov dk Hv∧(∀x∈dk,kO s c kind gen Hp x)∧dk.map (·.n)=(L.take k).filter (BA s kind gen)∧dk.length<=k∧
  Reads c c'∧c'.on=true∧c'.ops<=c.ops+k∧ai cb g cap mv c' cO∧Holds wr (Hs++(cO++(Hv++(Hp++(Hn++Fr)))))∧af w wr
theorem rz(kind gen:Int)(hs:cr sb cb s Hs)(cz:ai cb g cap mv c Hc)(hH:Holds w (Hs++(Hc++Fr)))(hC:aV s c)(fi:c.on=true)(fI:c.ops<=900000000000):
  Calls Tryz.prog 115 #[.pointer (some ⟨sb,0,none⟩),.int .i64 kind,.int .i64 gen] w (wE sb cb g cap mv s c kind gen w Hs Fr):=by
 have k1:=nil_eq;have k2:=cC;have AA:=aa (jz (w:=w) (Fr:=Hc++Fr) hs hH hC.vu);have Dl:=aa fun(n:Int) (wx:World) (F:HL) (hx:Holds wx (Hs++F)) (h0:0<=n) (h1:n<=9223372036854775807)=>qq (w:=wx) (Fr:=F) n hs hx h0 h1;have Iw:=aa fun(n:Int) (c':CM) (cO:HL) (wx:World) (F:HL) (hc:ai cb g cap mv c' cO) (hx:Holds wx (Hs++(cO++F))) (ho:c'.ops<=999999999999)=>YQ (w:=wx) (Fr:=F) n hs hc hx ho;have oR:=bO hC.pl;have hBP:s.B*s.P<=256:=by
  have h2:s.B*s.P<=32*8:=Nat.mul_le_mul (by omega) (by omega);omega
 have DQ:=aa (show∀n∈aC s,∃(m:Nat) (h:Hd) (d:List UInt8),n=m∧m<256∧aq s.hs (m:Int)=some h∧c.vN m=some (d,h)from fun n hn=>by
  rw[cL hC]at hn;obtain⟨j,hj,rfl⟩:=List.mem_map.1 hn;obtain⟨h1,h2⟩:=ig.1 hj;obtain⟨h,hh⟩:=Option.isSome_iff_exists.1 h2;obtain⟨m,e,hm,d,hd⟩:=hC.has hh;obtain rfl:j=m:=by omega
  exact⟨j,h,d,rfl,by omega,hh,hd⟩)
 have Xm:(aC s).length<=256:=by
  rw[cL hC,bY];have h1:(bc s).length<=s.B*s.P:=by unfold bc;have:=mU (kW s) (List.range (s.B*s.P));rwa[fP]at this
  omega
 have HK:=aa fun(Hp:HL) (dk:List kj) (h1:∀x∈dk,kO s c kind gen Hp x) (h2:(dk.map (·.n)).Perm ((aC s).filter (BA s kind gen))) (h3:Ul dk)=>Y3 hC h1 h2 h3;have AX:=aa fun(n:Nat) (c':CM) (h:Hd) (d:List UInt8) (hr:Reads c c') (hl:aq s.hs (n:Int)=some h) (hv:c.vN n=some (d,h))=>anK (hC.reads hr) hl (by rw[hr.vN];exact hv);have Jt:∀(nv:Value) (Hn:HL) (wr:World),aZ nv (aC s) Hn->Holds wr (Hn++(Hs++(Hc++Fr)))->af w wr->Um sb cb g cap mv s c kind gen (aC s) nv w Hs Fr (.slice none 0 0) (.int .i64 0) wr:=fun nv Hn wr h1 h2 h3=>
  ⟨0,c,[],[],[],Hn,Hc,by omega,rfl,h1,au.nil _ _,fun x hx=>absurd hx (by simp),rfl,by simp,Reads.refl c,fi,by omega,cz,(show Holds wr (Hs++(Hc++(Hn++Fr)))from h2.p),h3⟩
 have HS0:=aa Jt;generalize hLd:aC s=L at*;clear hs cz hC Jt oR hBP hLd fi;go_enter func115,ntmps115;go_wp2_with fail
 refine AA.o.mono ?_;rintro e w1⟨nv,Hn,rfl,hn,ax,aK⟩;have bD:=HS0.o nv Hn w1 hn ax aK;obtain⟨A,cn,rfl⟩:=hn.val;clear hn ax aK AA HS0 hH;go_wp2_with fail
 go_loopw [8,19] (fun ov iv wr=>Um sb cb g cap mv s c kind gen L (.slice A L.length cn) w Hs Fr ov iv wr) (fun _ iv _=>L.length-(intOf iv).toNat)
 case atStart=>exact bD
 case round=>
  clear bD;obtain⟨k,c',dk,Hv,Hp,Hn,cO,hk,rfl,hn,hv,nj,hmp,ik,cm,qU,eV,eG,hH,hg⟩:=hrel;by_cases aG:k<L.length
  ·have dQ:(k:Int)<L.length:=by omega
   obtain⟨-,A',cn',Oz,-,-,Bu⟩:=hn.at_ (Fr:=Hs++(cO++(Hv++(Hp++Fr)))) (show Holds wr (Hn++(Hs++(cO++(Hv++(Hp++Fr)))))from hH.p);injection Oz with e1 e2 e3;subst e1 e3;clear e2;obtain⟨nb,no,rfl,bm⟩:=Bu (by omega);have vp:=bm k (.int .i64 L[k]) (by rw[dW,bF aG];rfl);obtain⟨n,hd,d,qM,tS,nV,hvn⟩:=DQ.o _ (cX aG);have oT:L.take (k+1)=L.take k++[(n:Int)]:=by rw[gB aG,qM]
   rw[qM]at vp;have hhs:du s (n:Int)=hd:=by unfold du;rw[nV];rfl
   have Un:=aa (show(L.take (k+1)).filter (BA s kind gen)=dk.map (·.n)++(if BA s kind gen n then[(n:Int)]else[]) by
    rw[oT,oA,<-hmp];congr 1;rw[qf];split<;>rfl)
   have HSE:=aa (show BA s kind gen n=(decide (hd.k=kind)&&decide (hd.g=gen)) by unfold BA;rw[hhs]);have OE:=Dl.o n wr (cO++(Hv++(Hp++(Hn++Fr)))) hH (by omega) (by omega);rw[nV,Option.getD_some,Option.isSome_some]at OE;have vi:=aa OE;have IF:=aa (AX.o n c' hd d cm nV hvn);have Dv:=aa (aS nV hvn);have HGD:=aa nj;have lS:=aa eG;have HN:=aa hn;have HV:=aa hv;obtain⟨cZ,ez,dy,dP⟩:=hd;obtain⟨A8,c8,rfl⟩:=au.val (hv:au 183 6 _ dk.length (xA dk) Hv);simp only[Hd.agg,Hd.cells]at vi;have hn5:(n:Int)<=256:=by omega
   have hoA:c'.ops<=999999999999:=by omega
   have hlB:=Xm;clear bm Bu hhs oT OE nV hvn nj eG hn hv qM hmp;go_wp2_with fail
   refine vi.o.mono ?_;rintro e w4⟨rfl,bg,dJ⟩;have cA:=bg.alloc (.cells #[.int .i64 cZ,.int .u64 ez,.int .i64 dy,.int .i64 dP] 59);have fx:=(hg.trans dJ).alloc (.cells #[.int .i64 cZ,.int .u64 ez,.int .i64 dy,.int .i64 dP] 59);clear bg dJ hH hg vi vp;go_upto_region 6 with fail
   generalize w4.alloc (.cells #[.int .i64 cZ,.int .u64 ez,.int .i64 dy,.int .i64 dP] 59)=w5 at*;generalize w4.heap.size=hb at*;obtain⟨r0,r1,r2,r3,-⟩:=cA.hJ;have cT:Holds w5 (Hs++(cO++(Hv++(Hp++(Hn++Fr))))):=cA.tail;by_cases p6:cZ=kind
   ·by_cases aK:dP=gen
    ·have hkE:(cZ==kind)=true:=beq_iff_eq.2 p6;have hgE:(dP==gen)=true:=beq_iff_eq.2 aK;have IU:BA s kind gen n=true:=by rw[HSE.o];simp[p6,aK]
     have SD:=aa (aS IU (aS p6 aK));have hkT:(cZ !=kind)=false:=by simp[p6]
     have hgT:(dP !=gen)=false:=by simp[aK]
     have jK:=(RM s c' (n:Int)).2.2.2.2.2;have DX:=aa (Iw.o n c' cO w5 (Hv++(Hp++(Hn++Fr))) lS.o cT hoA);have gY:=IF.o;generalize oq s c' n=r at*;obtain⟨rc,rd,rh,rk⟩:=r;dsimp only at gY;clear IU p6 aK cA cT IF;go_wp2_with fail
     refine DX.o.mono ?_;rintro e w6⟨v,Hb,ve,He,DO,rfl,hb,he,Iu,di,jG⟩;dsimp only at hb he Iu⊢;have iU:=fx.trans jG;have HB:=aa hb;obtain⟨Ab,cb',rfl⟩:=hb.val;rcases gY.2 with⟨e9,_,ahU⟩|⟨e9,L5,aoa⟩
     ·injection e9 with e1 e9;injection e9 with e2 e3;subst e1 e2 e3;obtain⟨_,rfl,rfl⟩|⟨h0,_⟩:=he;rotate_left
      ·exact absurd rfl h0
      obtain⟨dl,tU⟩:∃dl,dl=rd.length:=⟨_,rfl⟩;rw[<-tU]at HB⊢;have Bs:=cm.trans gY.1;have BS:rc.ops<=c'.ops+1:=jK;have Gr:=aa (show∀(A':Option Addr) (c2:Nat) (H':HL) (w':World),au 183 6 (.slice A' (dk.length+1) c2) (dk.length+1) (xA dk++[.int .i64 (n:Int),.int .i64 cZ,.int .u64 ez,.int .i64 dy,.int .i64 dP,.slice Ab dl cb']) H'->Holds w' (H'++(Hs++(DO++(Hb++(Hp++(Hn++Fr))))))->af w w'->
        Um sb cb g cap mv s c kind gen L (.slice (some ⟨nb,no,none⟩) L.length cn) w Hs Fr (.slice A' (dk.length+1) c2) (.int .i64 ((k:Int)+1)) w' from fun A' c2 H' w' ay hX vj=>
       ⟨k+1,rc,dk++[⟨n,⟨cZ,ez,dy,dP⟩,Ab,dl,cb'⟩],H',Hb++Hp,Hn,DO,aG,rfl,HN.o,by
        unfold BT;rw[aY,mT,NN];exact ay,fun x hx=>by
        rcases List.mem_append.1 hx with hx|hx
        ·exact(HGD.o x hx).more
        ·rw[List.mem_singleton.1 hx];exact⟨n,rd,rfl,Dv.o.1,Dv.o.2,bN.left (fun wx hx=>HB.o.at_ (Fr:=[]) (by simpa using hx)),SD.o.2.1,SD.o.2.2⟩,by rw[Un.o,SD.o.1];simp,by rw[aY,mT];omega,Bs,ahU,by omega,Iu,hX.p,vj⟩)
      have fU:=di.alloc (.cells #[.int .i64 cZ,.int .u64 ez,.int .i64 dy,.int .i64 dP] 59);have FT:=iU.alloc (.cells #[.int .i64 cZ,.int .u64 ez,.int .i64 dy,.int .i64 dP] 59);have jm:=aa (show au 183 6 (.slice A8 dk.length c8) dk.length (xA dk) Hv from HV.o);have oc:dk.length+1<=maxLen:=by simp only[maxLen];omega
      have si:(dk.length+1)*64<=140737488355328:=by omega
      simp only[Hd.agg,Hd.cells];clear hb di jG iU DX r0 r1 r2 r3 fx tU gY cm Bs BS jK ahU qU eV hoA ik Iu HGD HSE Un SD Dv HB HV HN lS;go_upto_region 8 with fail
      generalize w6.alloc (.cells #[.int .i64 cZ,.int .u64 ez,.int .i64 dy,.int .i64 dP] 59)=w7 at*;generalize w6.heap.size=h2 at*;obtain⟨q0,q1,q2,q3,-⟩:=fU.hJ;have FX:Holds w7 (Hv++(Hs++(DO++(Hb++(Hp++(Hn++((h2,.cells #[.int .i64 cZ,.int .u64 ez,.int .i64 dy,.int .i64 dP] 59)::Fr))))))):=fU.p;clear fU;go_wp2_with (at_builtin;refine al an8 (by rfl) (.tmp 49) (.tmp 54) (by rfl) (by rfl) (by rfl) jm.o (FX.bP _) (ag.many (w:=w7) (n:=1) (size:=6) (cs:=#[.int .i64 (n:Int),.int .i64 cZ,.int .u64 ez,.int .i64 dy,.int .i64 dP,.slice Ab dl cb']) (by rfl) (by simp[maxLen])) (by simp[Value.oneCell']) oc si ?_;intro A' c2 w' H' ay hX vj)
      exact⟨Gr.o A' c2 H' w' ay hX.p ((FT.alloc _).trans vj),by simp[intOf];omega⟩
     ·injection e9 with e1 e9;injection e9 with e2 e3;subst e1 e2 e3;obtain⟨h0,_⟩|⟨h0,eb,es,rfl,rfl⟩:=he
      ·exact absurd h0 (by decide)
      have k3:=cS;have lx:=aa (show∀(w':World),Holds w' ([(eb,.cells #[.int .i64 4,.string es] 143)]++(Hs++(DO++Fr)))->af w w'->wE sb cb g cap mv s c kind gen w Hs Fr (.returned (.tuple #[.slice none 0 0,.iface 141 (.pointer (some ⟨eb,0,none⟩))])) w' from fun w' hX vj=>
       .inr ⟨rc,_,_,DO,cm.trans gY.1,(aoa qU).before cm,by omega,rfl,.inr ⟨h0,eb,es,rfl,rfl⟩,Iu,hX.p,vj⟩)
      have HH:=aa (show Holds w6 ([(eb,.cells #[.int .i64 4,.string es] 143)]++(Hs++(DO++Fr)))from di.p);simp only[Hd.zero,Hd.agg,Hd.cells];clear hb di jG DX r0 r1 r2 r3 fx gY cm jK qU eV hoA ik Iu HGD HSE Un SD Dv HB HV HN lS;go_wp2_with fail
      go_ret2
      exact lx.o _ (HH.o.bP _) (iU.alloc _)
    ·have hkE:(cZ==kind)=true:=beq_iff_eq.2 p6;have hgE:(dP==gen)=false:=beq_eq_false_iff_ne.2 aK;have IU:BA s kind gen n=false:=by rw[HSE.o];simp[aK]
     have Gr:=aa (show Um sb cb g cap mv s c kind gen L (.slice (some ⟨nb,no,none⟩) L.length cn) w Hs Fr (.slice A8 dk.length c8) (.int .i64 ((k:Int)+1)) w5 from
      ⟨k+1,c',dk,Hv,Hp,Hn,cO,aG,rfl,HN.o,HV.o,HGD.o,by rw[Un.o,IU];simp,by omega,cm,qU,by omega,lS.o,cT,fx⟩)
     clear IU cT fx cA;go_wp2_with fail
     all_goals exact⟨Gr.o,by simp[intOf];omega⟩
   ·have hkE:(cZ==kind)=false:=beq_eq_false_iff_ne.2 p6;have IU:BA s kind gen n=false:=by rw[HSE.o];simp[p6]
    have Gr:=aa (show Um sb cb g cap mv s c kind gen L (.slice (some ⟨nb,no,none⟩) L.length cn) w Hs Fr (.slice A8 dk.length c8) (.int .i64 ((k:Int)+1)) w5 from
     ⟨k+1,c',dk,Hv,Hp,Hn,cO,aG,rfl,HN.o,HV.o,HGD.o,by rw[Un.o,IU];simp,by omega,cm,qU,by omega,lS.o,cT,fx⟩)
    clear IU cT fx cA;go_wp2_with fail
    all_goals exact⟨Gr.o,by simp[intOf];omega⟩
  ·have dQ:¬(k:Int)<L.length:=by omega
   obtain rfl:k=L.length:=by omega
   rw[fB]at hmp;obtain⟨A8,c8,rfl⟩:=au.val (hv:au 183 6 _ dk.length (xA dk) Hv);have aaz:=aa (NQ (.slice A8 dk.length c8) dk Hv (Hs++(cO++(Hp++(Hn++Fr)))) wr hv hH.p (by omega));have lx:=aa (show∀(es:List kj) (H':HL) (w':World),es.Perm dk->Ul es->BT (.slice A8 dk.length c8) es H'->Holds w' (H'++(Hs++(cO++(Hp++(Hn++Fr)))))->af w w'->wE sb cb g cap mv s c kind gen w Hs Fr (.returned (.tuple #[.slice A8 dk.length c8,.nilIface])) w' from fun es H' w' hp ha xD hX vj=>by
    have aX:∀x∈es,kO s c kind gen Hp x:=fun x hx=>nj x (hp.mem_iff.1 hx);exact .inl ⟨c',es,_,H',Hp,cO,aX,HK.o Hp es aX (by rw[<-hmp];exact hp.map _) ha,cm,qU,by omega,rfl,xD,eG,hX.p,vj⟩)
   clear hmp nj hv eG hn hH cm qU eV ik;go_wp2_with fail
   refine aaz.o.mono ?_;rintro e w2⟨rfl,H',⟨es,hp,ha,xD⟩,hX,vj⟩;have pJ:=aa (lx.o es H' w2 hp ha xD hX (hg.trans vj));clear hp ha xD hX vj lx aaz hg;go_wp2_with fail
   go_ret2
   exact pJ.o
end
end Go.Proofs.YtalnifciidblkaaGreatDoor
