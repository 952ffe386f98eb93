/-
  Lemmas.
-/
import Derived.Test.YtalnifciidblkaaGreatDoorG02
import Derived.Test.YtalnifciidblkaaGreatDoorG31
import Derived.Test.YtalnifciidblkaaGreatDoorG05
import Derived.Test.YtalnifciidblkaaGreatDoorG25
import Derived.Test.YtalnifciidblkaaGreatDoorG15
namespace Go.Proofs.YtalnifciidblkaaGreatDoor
open _root_.Go.Proofs.Tryz
open Go.RowKit
set_option linter.unusedSimpArgs false
set_option linter.unusedVariables false
set_option maxRecDepth 20000
set_option maxHeartbeats 2000000
theorem qB(v:Value)(bs:List UInt8)(n:Int)(w:World)(Fr:HL)(hb:aJ w v bs)(hH:Holds w Fr)(h0:0<=n)(h1:n<18446744073709551616)(kJ:bs.length<=100000):
  Calls Tryz.prog 235 #[v,.int .u64 n] w (cB (fun v H=>ar v (bs++dH n) H) w Fr):=by
 have HB0:=aa hb;obtain⟨A,c,rfl⟩:=hb.val;obtain⟨n0,rfl⟩:=Int.eq_ofNat_of_zero_le h0;have HN:=aa (show n0<18446744073709551616 by omega);have jD:=af.refl w;clear hb h0 h1;go_enter func235,ntmps235;go_wp2_with (at_builtin;refine al ee (by rfl) (.const (.slice none 0 0)) (.tmp 6) (by rfl) (by rfl) (by rfl) (au.nil _ _) (show Holds w (([]:HL)++Fr)from hH) HB0.o (by intro y hy;obtain⟨x,_,rfl⟩:=List.mem_map.1 hy;rfl) (by simp[maxLen];omega) (by omega) ?_;intro A1 c1 w1 H1 OW ax aK)
 have jj:ar (.slice A1 bs.length c1) bs H1:=by
  unfold ar;have:=OW;simp only[jS,fp]at this;exact this
 have bD:XY bs n0 w Fr (.int .u64 n0) (.slice A1 bs.length c1) w1:=⟨9,n0,[],H1,by omega,Cl HN.o,aN _,rfl,by simpa using jj,rfl,by simp,ax,jD.trans aK⟩;clear jj ax aK OW hH jD HB0;go_wp2_with fail
 go_loopw [1,5] (fun nv out wr=>XY bs n0 w Fr nv out wr) (fun nv _ _=>(intOf nv).toNat)
 case atStart=>exact bD
 case round=>
  clear bD;obtain⟨f,m,pre,H,hf,hm,S6,rfl,hb,hp,ik,hH,hg⟩:=hrel;have HB:=aa hb;have HL:=aa (show(bs++pre).length<=200000 by rw[aY];omega);by_cases h:127<m
  ·have hI:(128:Int)<=(m:Int):=by omega
   obtain⟨g,rfl,si⟩:=GM h hm;rw[Ck h]at hp;have HP:=aa (show(pre++[UInt8.ofNat (m%128+128)])++jt g (m/128)=jt 9 n0 by rw[<-hp,cE];rfl);have HM:=aa (aS si S6);have Dx:(m:Int)/2^7=((m/128:Nat):Int):=by omega
   clear hp hm si hb S6;go_wp2_with (at_builtin;refine al ee (by rfl) (.tmp 10) (.tmp 14) (by rfl) (by rfl) (by rfl) HB.o (hH.bP _) ag.one (by simp[Value.oneCell']) (by have:=HL.o;simp only[maxLen];omega) (by have:=HL.o;omega) ?_;intro A' c' w' H' ay aB aX)
   refine⟨⟨g,m/128,pre++[UInt8.ofNat (m%128+128)],H',by omega,HM.o.1,by have:=HM.o.2;omega,congrArg (Value.int .u64) (by omega),?_,HP.o,by simp;omega,aB,(hg.alloc _).trans aX⟩,by simp[intOf];omega⟩;rw[<-cE];rw[aY]at ay;exact ar.snoc (by rw[aY];exact ay) (Kc m)
  ·have hI:¬(128:Int)<=(m:Int):=by omega
   have tT:m<=127:=by omega
   have hwm:IntKind.u8.wrap (m:Int)=m:=by rw[IntKind.wrap_u8];omega
   rw[Cj tT]at hp;have HP:=aa hp;clear hp hm S6 hb;go_wp2_with (at_builtin;refine al ee (by rfl) (.tmp 18) (.tmp 21) (by rfl) (by rfl) (by rfl) HB.o (hH.bP _) ag.one (by simp[Value.oneCell']) (by have:=HL.o;simp only[maxLen];omega) (by have:=HL.o;omega) ?_;intro A' c' w' H' ay aB aX)
   go_ret;refine⟨_,H',rfl,?_,aB,(hg.alloc _).trans aX⟩;show ar _ (bs++jt 9 n0) H';rw[<-HP.o,<-cE];rw[aY]at ay;exact ar.snoc (by rw[aY];exact ay) (by first|exact GN tT|(rw[hwm];exact GN tT))
theorem Fw(n:Nt)(w:World)(Fr:HL)(hH:Holds w Fr):Calls Tryz.prog 16 #[n.agg] w (cM (.bool n.ok) w Fr):=by
 obtain⟨g,⟨a,p,d,s⟩⟩:=n;obtain⟨ok,cj⟩:∃ok,ok=Nt.ok ⟨g,⟨a,p,d,s⟩⟩:=⟨_,rfl⟩;rw[<-cj];have lR:=aa (show ok=(decide (1<=s)&&decide (s<=1099511627775)&&(if g then decide (p=0)&& !d else decide (0<=p)&&decide (p<=255)))from cj);clear cj;simp only[Nt.agg];cases g with
 |false=>
  have ax:=hH.alloc (.cells #[.bool false,.int .u64 a,.int .i64 p,.bool d,.int .i64 s] 26);have aK:=(af.refl w).alloc (.cells #[.bool false,.int .u64 a,.int .i64 p,.bool d,.int .i64 s] 26);have aB:=(ax.alloc (.cells #[.int .u64 a,.int .i64 p,.bool d,.int .i64 s] 24)).tail.tail;have aX:=aK.alloc (.cells #[.int .u64 a,.int .i64 p,.bool d,.int .i64 s] 24);clear hH ax aK;go_enter func16,ntmps16;go_wp2_with fail
  all_goals go_ret
  all_goals refine⟨?_,aB,aX⟩
  all_goals rw[lR.o]
  all_goals clear lR aB aX
  all_goals simp_all
  all_goals (intros;exfalso;omega)
 |true=>
  by_cases hp:p=0
  ·subst hp;have ax:=hH.alloc (.cells #[.bool true,.int .u64 a,.int .i64 0,.bool d,.int .i64 s] 26);have aK:=(af.refl w).alloc (.cells #[.bool true,.int .u64 a,.int .i64 0,.bool d,.int .i64 s] 26);have aB:=(ax.alloc (.cells #[.int .u64 a,.int .i64 0,.bool d,.int .i64 s] 24)).tail.tail;have aX:=aK.alloc (.cells #[.int .u64 a,.int .i64 0,.bool d,.int .i64 s] 24);clear hH ax aK;go_enter func16,ntmps16;go_wp2_with fail
   all_goals go_ret
   all_goals refine⟨?_,aB,aX⟩
   all_goals rw[lR.o]
   all_goals clear lR aB aX
   all_goals simp_all
   all_goals (intros;exfalso;omega)
  ·have DK:(p==0)=false:=beq_eq_false_iff_ne.2 hp;have ax:=hH.alloc (.cells #[.bool true,.int .u64 a,.int .i64 p,.bool d,.int .i64 s] 26);have aK:=(af.refl w).alloc (.cells #[.bool true,.int .u64 a,.int .i64 p,.bool d,.int .i64 s] 26);have aB:=(ax.alloc (.cells #[.int .u64 a,.int .i64 p,.bool d,.int .i64 s] 24)).tail.tail;have aX:=aK.alloc (.cells #[.int .u64 a,.int .i64 p,.bool d,.int .i64 s] 24);clear hH ax aK;go_enter func16,ntmps16;go_wp2_with fail
   all_goals go_ret
   all_goals refine⟨?_,aB,aX⟩
   all_goals rw[lR.o]
   all_goals clear lR aB aX
   all_goals simp_all
theorem rj{n j:Nat}{x:Int}(h:x=(j:Int)+1)(hj:j<n):n-(intOf (.int .i64 x)).toNat<n-(intOf (.int .i64 (j:Int))).toNat:=by
 subst h;show n-((j:Int)+1).toNat<n-((j:Int)).toNat;omega
def ahH(ns:List Nt)(w:World)(Fr:HL)(iv:Value)(wr:World):Prop:=
 ∃k:Nat,k<=ns.length∧iv=.int .i64 k∧(∀n∈ns.take k,n.ok=true)∧Holds wr Fr∧af w wr
theorem RJ(v:Value)(ns:List Nt)(w:World)(Fr:HL)(hv:cU Fr v ns)(hH:Holds w Fr)(hlen:ns.length<=1000):Calls Tryz.prog 196 #[v] w (cM (.bool (ns.all Nt.ok)) w Fr):=by
 have HV:=aa hv;obtain⟨_,A,c,rfl,_,_,_⟩:=hv w hH;have bD:ahH ns w Fr (.int .i64 0) w:=⟨0,by omega,rfl,by simp,hH,af.refl w⟩;obtain⟨res,cH⟩:∃r,r=ns.all Nt.ok:=⟨_,rfl⟩;rw[<-cH];have cP:=aa cH;clear hv hH cH;go_enter func196,ntmps196;go_wp2_with fail
 go_loopw [3] (fun iv wr=>ahH ns w Fr iv wr) (fun iv _=>ns.length-(intOf iv).toNat)
 case atStart=>exact bD
 case round=>
  clear bD;obtain⟨k,hk,rfl,cj,hH,hg⟩:=hrel;by_cases aG:k<ns.length
  ·have dQ:(k:Int)<ns.length:=by omega
   obtain⟨b,o,rfl,y0,y1,y2,y3,y4⟩:=(HV.o wr hH).get aG;have jP:=aa (show ns.take (k+1)=ns.take k++[ns[k]]from gB aG);have SK:=aa (show ns[k].ok=false->res=false from fun h=>by
    rw[cP.o,List.all_eq_false];exact⟨_,cX aG,by simp[h]⟩)
   have lR:=aa cj;generalize ns[k]=n at*;have HM:=aa (Fw n wr _ hH);rw[show n.agg=.agg #[.bool n.gone,.int .u64 n.e.addr,.int .i64 n.e.aW,.bool n.e.bR,.int .i64 n.e.seq]from rfl]at HM;obtain⟨ok,hoe⟩:∃ok,ok=n.ok:=⟨_,rfl⟩;rw[<-hoe]at HM SK;have HO:=aa hoe;have zP:=kH (k:=k) (by omega);clear hoe cj hH;cases ok with
   |false=>
    have cH:=SK.o rfl;go_wp2_with fail
    refine HM.o.mono ?_;rintro e w2⟨rfl,aB,aX⟩;clear HM y0 y1 y2 y3 y4;go_wp2_with fail
    go_ret;exact⟨by rw[cH];rfl,aB,hg.trans aX⟩
   |true=>
    go_wp2_with fail
    refine HM.o.mono ?_;rintro e w2⟨rfl,aB,aX⟩;clear HM y0 y1 y2 y3 y4 SK;go_wp2_with fail
    go_roundw
    case rel=>
     refine⟨k+1,aG,by simp[zP],?_,aB,hg.trans aX⟩;intro m hm;rw[jP.o]at hm;rcases List.mem_append.1 hm with h|h
     ·exact lR.o m h
     ·rw[List.mem_singleton.1 h,<-HO.o]
    case measure=>clear zP;simp[intOf];omega
  ·have dQ:¬(k:Int)<ns.length:=by omega
   obtain rfl:k=ns.length:=by omega
   rw[fB]at cj;have eB:res=true:=by rw[cP.o,List.all_eq_true];exact cj
   clear cj;go_wp2_with fail
   go_ret;exact⟨rfl,hH,hg⟩
theorem Holds.entry{w:World}{b:Nat}{a p q:Int}{d:Bool}{H:HL}(h:Holds w ((b,.cells #[.int .u64 a,.int .i64 p,.bool d,.int .i64 q] 24)::H)):
  w.cell? ⟨b,0,none⟩=some (.int .u64 a)∧w.cell? ⟨b,1,none⟩=some (.int .i64 p)∧w.cell? ⟨b,2,none⟩=some (.bool d)∧w.cell? ⟨b,3,none⟩=some (.int .i64 q):=⟨h.ae 0,h.ae 1,h.ae 2,h.ae 3⟩
def ahI(ns:List Nt)(w:World)(Fr:HL)(bv iv:Value)(wr:World):Prop:=
 ∃(k:Nat) (H:HL),k<=ns.length∧iv=.int .i64 k∧ar bv (dH ns.length++((ns.take k).map dD).flatten) H∧Holds wr (H++Fr)∧af w wr
theorem K8(v:Value)(ns:List Nt)(w:World)(Fr:HL)(hv:cU Fr v ns)(hH:Holds w Fr)(iu:∀n∈ns,n.vg)(cj:∀n∈ns,n.ok=true)(hlen:ns.length<=1000):Calls Tryz.prog 197 #[v] w (cB (fun v H=>ar v (dB ns) H) w Fr):=by
 have HV:=aa hv;have Am:=aa iu;have lR:=aa cj;obtain⟨_,A,c,rfl,_,_,_⟩:=hv w hH;have hwl:IntKind.u64.wrap (ns.length:Int)=ns.length:=by rw[IntKind.wrap_u64];omega
 have HP:=aa (qB (.slice none 0 0) [] (ns.length:Int) w _ (aJ.nK (by simp[maxLen])) hH (by omega) (by omega) (by simp));clear hv iu hH cj;go_enter func197,ntmps197;go_wp2_with fail
 refine HP.o.mono ?_;rintro e w1⟨v1,H1,rfl,jj,ax,aK⟩;have bD:ahI ns w Fr v1 (.int .i64 0) w1:=⟨0,H1,by omega,rfl,by simpa using jj,ax,aK⟩;clear HP jj ax aK hwl;go_wp2_with fail
 go_loopw [3,4] (fun bv iv wr=>ahI ns w Fr bv iv wr) (fun _ iv _=>ns.length-(intOf iv).toNat)
 case atStart=>exact bD
 case round=>
  clear bD;obtain⟨k,H,hk,rfl,hb,hH,hg⟩:=hrel;by_cases aG:k<ns.length
  ·have dQ:(k:Int)<ns.length:=by omega
   have DX:=aa fun(wx:World) (hx:Holds wx Fr)=>(HV.o wx hx).get aG;obtain⟨b,o,rfl,y0,y1,y2,y3,y4⟩:=DX.o wr hH.right;have xE:=aa (Am.o _ (cX aG));have HMO:=aa (lR.o _ (cX aG));have jP:=aa (show ns.take (k+1)=ns.take k++[ns[k]]from gB aG);have nW:=aa (show(dH ns.length++((ns.take k).map dD).flatten).length<=40000 by
    have h1:=qy (ns.take k);have h2:=ie ns.length;rw[dG]at h1;rw[aY];omega)
   obtain⟨BL,Tv⟩:∃BL,BL=dH ns.length++((ns.take k).map dD).flatten:=⟨_,rfl⟩;have rI:=aa Tv;rw[<-Tv]at hb nW;have HB:=aa hb;clear Tv hb;generalize ns[k]=n at*;obtain⟨g,⟨a,p,d,s⟩⟩:=n;dsimp only at y0 y1 y2 y3 y4 DX;have HS:=aa (show 1<=s∧s<=1099511627775 by
    have:=HMO.o;unfold Nt.ok at this;simp only[fW,decide_eq_true_eq]at this;exact this.1)
   have qF:=aa (show g=false->0<=p∧p<=255 from fun h=>by
    subst h;have:=HMO.o;unfold Nt.ok at this;simp only[fW,decide_eq_true_eq]at this;simpa using this.2)
   have HA:=aa (show 0<=a∧a<18446744073709551616 from xE.o.1);have bM:=hH.alloc (.cells #[.int .u64 a,.int .i64 p,.bool d,.int .i64 s] 24);have cJ:=hg.alloc (.cells #[.int .u64 a,.int .i64 p,.bool d,.int .i64 s] 24);have hws:IntKind.u64.wrap s=s:=by have:=HS.o;rw[IntKind.wrap_u64];omega
   have HTN:=aa (show((ns.take (k+1)).map dD).flatten=((ns.take k).map dD).flatten++((dH a++dH s)++(if g then[0]else(if d then[2]else[1])++dH p)) by rw[jP.o,dm,qe];simp[dD]);clear hH hg jP xE HMO;go_upto_region 6 with fail
   clear y0 y1 y2 y3 y4;generalize wr.alloc (.cells #[.int .u64 a,.int .i64 p,.bool d,.int .i64 s] 24)=wA at*;generalize wr.heap.size=t at*;have dj:=aa fun(wx:World) (F:HL) (hx:Holds wx ((t,.cells #[.int .u64 a,.int .i64 p,.bool d,.int .i64 s] 24)::F))=>hx.entry;refine aF (fun wx=>wx.cell? ⟨t,0,none⟩=some (.int .u64 a)∧wx.cell? ⟨t,1,none⟩=some (.int .i64 p)∧wx.cell? ⟨t,2,none⟩=some (.bool d)∧wx.cell? ⟨t,3,none⟩=some (.int .i64 s)) 9 (by kernel_rfl) (fun w1 hd=>dj.o _ _ (bM.dr hd)) (fun w1 hd hs=>?_);have aB:=bM.dr hd;have cY:=cJ.trans (af.dr hd);clear hd bM cJ;refine dY 0 1 2 4 ?_;refine qL 5 6 ?_;refine Zm 3 fun K hK=>?_;go_simp;refine(qB _ BL a w1 _ (HB.o.at_ (Fr:=(t,.cells #[.int .u64 a,.int .i64 p,.bool d,.int .i64 s] 24)::Fr) aB.p) aB HA.o.1 HA.o.2 (by have:=nW.o;omega)).mono ?_;rintro e w3 ⟨v3,H3,rfl,jF,aD,bj⟩;have vm:=aa jF;have cf:=cY.trans bj;have fU:Holds w3 ((t,.cells #[.int .u64 a,.int .i64 p,.bool d,.int .i64 s] 24)::(H3++Fr)):=aD.p;clear jF aD aB bj cY;refine hK _ _ (dj.o _ _ fU) (fun _=>?_);clear hK K hs;rename_i hs;refine Zm 7 fun K hK=>?_;go_simp;refine(qB _ (BL++dH a) s w3 _ (vm.o.at_ (Fr:=(t,.cells #[.int .u64 a,.int .i64 p,.bool d,.int .i64 s] 24)::Fr) fU.p) fU (by have:=HS.o;omega) (by have:=HS.o;omega) (by have:=ie a;have:=nW.o;rw[aY];omega)).mono ?_;rintro e w4 ⟨v4,H4,rfl,pG,aU,bV⟩;have Du:=aa pG;have bI:=cf.trans bV;have lY:Holds w4 ((t,.cells #[.int .u64 a,.int .i64 p,.bool d,.int .i64 s] 24)::(H4++Fr)):=aU.p;clear pG aU fU bV cf;refine hK _ _ (dj.o _ _ lY) (fun _=>?_);clear hK K hs;rename_i hs;refine ji 8 ?_;refine Ze ?_;obtain⟨z0,z1,z2,z3⟩:=dj.o _ _ lY;obtain⟨b',o',XD,y0,y1,y2,y3,y4⟩:=DX.o w4 lY.tail.right;have Gl:=aa (show((BL++dH a)++dH s).length<=40020 by have:=nW.o;have:=ie a;have:=ie s;rw[aY,aY];omega);obtain⟨AS,XA⟩:∃AS,AS=(BL++dH a)++dH s:=⟨_,rfl⟩;rw[<-XA]at Gl;have PI:Zh (ar v4 AS H4):=aa (by rw[XA];exact Du.o);have HAS:=aa XA;obtain⟨A4,c4,rfl⟩:=PI.o.val;injection XD with XD;injection XD with an4 an5;subst an4 an5;clear Du vm hs XA;cases g with
   |true=>
    have hI4:Holds w4 (H4++((t,.cells #[.int .u64 a,.int .i64 p,.bool d,.int .i64 s] 24)::Fr)):=lY.p;clear lY;go_wp2_with (at_builtin;refine al ee (by rfl) (.tmp 42) (.tmp 43) (by rfl) (by rfl) (by rfl) PI.o (hI4.bP _) ag.one (by simp[Value.oneCell']) (by have:=Gl.o;simp only[maxLen];omega) (by have:=Gl.o;omega) ?_;intro A' c' w' H' ay aB aX)
    refine⟨⟨k+1,H',by omega,by go_num,?_,aB.p,(bI.alloc _).trans aX⟩,by simp[intOf];omega⟩;have e:AS++[0]=dH ns.length++((ns.take (k+1)).map dD).flatten:=by rw[HTN.o,HAS.o,rI.o];simp
    rw[<-e];exact ar.snoc (x:=0) ay rfl
   |false=>
    obtain⟨IK,rH⟩:=qF.o rfl;have hwp:IntKind.u64.wrap p=p:=by rw[IntKind.wrap_u64];omega
    cases d with
    |true=>
     go_upto_region 11 with fail
     refine aF (fun wx=>wx.cell? ⟨t,0,none⟩=some (.int .u64 a)∧wx.cell? ⟨t,1,none⟩=some (.int .i64 p)∧wx.cell? ⟨t,2,none⟩=some (.bool true)∧wx.cell? ⟨t,3,none⟩=some (.int .i64 s)) 8 (by kernel_rfl) (fun w1 hd=>dj.o _ _ (lY.dr hd)) (fun w1 hd hs=>?_);have fy:=lY.dr hd;have mN:=bI.trans (af.dr hd);clear hd lY bI;refine dY 0 3 4 5 ?_;refine Zm 1 fun K hK=>?_;go_simp;refine hK _ _ (dj.o _ ((w1.heap.size,.cells #[.int .u8 2] 5)::(H4++Fr)) (show Holds (w1.alloc (.cells #[.int .u8 2] 5)) _ from(fy.alloc _).p)) (fun _=>?_);clear hK K hs;rename_i hs;refine Zm 2 fun K hK=>?_;have hZ:Holds (w1.alloc (.cells #[.int .u8 2] 5)) (H4++((w1.heap.size,.cells #[.int .u8 2] 5)::((t,.cells #[.int .u64 a,.int .i64 p,.bool true,.int .i64 s] 24)::Fr))):=(fy.alloc _).p;have lT:=mN.alloc (.cells #[.int .u8 2] 5);generalize w1.alloc (.cells #[.int .u8 2] 5)=wz at*;generalize w1.heap.size=gz at*;clear fy mN;refine bf ee (by rfl) _ _ (by rfl) (by rfl) (by rfl) PI.o hZ (ag.ft (n:=1) (c:=1) (o:=0) (g:=gz) (hZ.get (b:=gz) (o:=(.cells #[.int .u8 2] 5)) (by simp)) [.int .u8 2] rfl (by omega) (by simp[maxLen]) (by intro j u hu;simpa using hu)) (by simp[Value.oneCell']) (by have:=Gl.o;simp only[maxLen];omega) (by have:=Gl.o;omega) ?_;intro A6 c6 w6 H6 gE bC eJ;refine hK _ _ (dj.o _ _ (show Holds w6 ((t,.cells #[.int .u64 a,.int .i64 p,.bool true,.int .i64 s] 24)::(H6++Fr))from bC.p)) (fun _=>?_);clear hK K hs;rename_i hs;refine Zm 6 fun K hK=>?_;have LJ:ar (.slice A6 (AS.length+1) c6) (AS++[2]) H6:=ar.snoc gE rfl;have cA:Holds w6 ((t,.cells #[.int .u64 a,.int .i64 p,.bool true,.int .i64 s] 24)::(H6++Fr)):=bC.p;have fx:=lT.trans eJ;clear hZ bC eJ lT gE;go_simp;refine(qB _ _ p w6 _ (LJ.at_ (Fr:=(t,.cells #[.int .u64 a,.int .i64 p,.bool true,.int .i64 s] 24)::Fr) cA.p) cA (by omega) (by omega) (by have:=Gl.o;rw[aY,mT];omega)).mono ?_;rintro e w8 ⟨v8,H8,rfl,sg,cT,ka⟩;have iT:=fx.trans ka;have Er:=aa sg;have di:Holds w8 ((t,.cells #[.int .u64 a,.int .i64 p,.bool true,.int .i64 s] 24)::(H8++Fr)):=cT.p;clear LJ cA sg cT ka fx;refine hK _ _ (dj.o _ _ di) (fun _=>?_);clear hK K hs;rename_i hs;refine ji 7 ?_;refine Ze ?_;clear hs;have ui:ar v8 (dH ns.length++((ns.take (k+1)).map dD).flatten) H8:=by
      have e:AS++[2]++dH p=dH ns.length++((ns.take (k+1)).map dD).flatten:=by rw[HTN.o,HAS.o,rI.o];simp
      rw[<-e];exact Er.o
     have U0:=aa ui;clear ui;go_wp2_with fail
     go_roundw
     case rel=>exact⟨k+1,H8,by omega,by go_num,U0.o,di.tail,iT⟩
     case measure=>simp[intOf];omega
    |false=>
     go_upto_region 7 with fail
     refine aF (fun wx=>wx.cell? ⟨t,0,none⟩=some (.int .u64 a)∧wx.cell? ⟨t,1,none⟩=some (.int .i64 p)∧wx.cell? ⟨t,2,none⟩=some (.bool false)∧wx.cell? ⟨t,3,none⟩=some (.int .i64 s)) 8 (by kernel_rfl) (fun w1 hd=>dj.o _ _ (lY.dr hd)) (fun w1 hd hs=>?_);have fy:=lY.dr hd;have mN:=bI.trans (af.dr hd);clear hd lY bI;refine dY 0 3 4 5 ?_;refine Zm 1 fun K hK=>?_;go_simp;refine hK _ _ (dj.o _ ((w1.heap.size,.cells #[.int .u8 1] 5)::(H4++Fr)) (show Holds (w1.alloc (.cells #[.int .u8 1] 5)) _ from(fy.alloc _).p)) (fun _=>?_);clear hK K hs;rename_i hs;refine Zm 2 fun K hK=>?_;have hZ:Holds (w1.alloc (.cells #[.int .u8 1] 5)) (H4++((w1.heap.size,.cells #[.int .u8 1] 5)::((t,.cells #[.int .u64 a,.int .i64 p,.bool false,.int .i64 s] 24)::Fr))):=(fy.alloc _).p;have lT:=mN.alloc (.cells #[.int .u8 1] 5);generalize w1.alloc (.cells #[.int .u8 1] 5)=wz at*;generalize w1.heap.size=gz at*;clear fy mN;refine bf ee (by rfl) _ _ (by rfl) (by rfl) (by rfl) PI.o hZ (ag.ft (n:=1) (c:=1) (o:=0) (g:=gz) (hZ.get (b:=gz) (o:=(.cells #[.int .u8 1] 5)) (by simp)) [.int .u8 1] rfl (by omega) (by simp[maxLen]) (by intro j u hu;simpa using hu)) (by simp[Value.oneCell']) (by have:=Gl.o;simp only[maxLen];omega) (by have:=Gl.o;omega) ?_;intro A6 c6 w6 H6 gE bC eJ;refine hK _ _ (dj.o _ _ (show Holds w6 ((t,.cells #[.int .u64 a,.int .i64 p,.bool false,.int .i64 s] 24)::(H6++Fr))from bC.p)) (fun _=>?_);clear hK K hs;rename_i hs;refine Zm 6 fun K hK=>?_;have LJ:ar (.slice A6 (AS.length+1) c6) (AS++[1]) H6:=ar.snoc gE rfl;have cA:Holds w6 ((t,.cells #[.int .u64 a,.int .i64 p,.bool false,.int .i64 s] 24)::(H6++Fr)):=bC.p;have fx:=lT.trans eJ;clear hZ bC eJ lT gE;go_simp;refine(qB _ _ p w6 _ (LJ.at_ (Fr:=(t,.cells #[.int .u64 a,.int .i64 p,.bool false,.int .i64 s] 24)::Fr) cA.p) cA (by omega) (by omega) (by have:=Gl.o;rw[aY,mT];omega)).mono ?_;rintro e w8 ⟨v8,H8,rfl,sg,cT,ka⟩;have iT:=fx.trans ka;have Er:=aa sg;have di:Holds w8 ((t,.cells #[.int .u64 a,.int .i64 p,.bool false,.int .i64 s] 24)::(H8++Fr)):=cT.p;clear LJ cA sg cT ka fx;refine hK _ _ (dj.o _ _ di) (fun _=>?_);clear hK K hs;rename_i hs;refine ji 7 ?_;refine Ze ?_;clear hs;have ui:ar v8 (dH ns.length++((ns.take (k+1)).map dD).flatten) H8:=by
      have e:AS++[1]++dH p=dH ns.length++((ns.take (k+1)).map dD).flatten:=by rw[HTN.o,HAS.o,rI.o];simp
      rw[<-e];exact Er.o
     have U0:=aa ui;clear ui;go_wp2_with fail
     go_roundw
     case rel=>exact⟨k+1,H8,by omega,by go_num,U0.o,di.tail,iT⟩
     case measure=>simp[intOf];omega
  ·have dQ:¬(k:Int)<ns.length:=by omega
   obtain rfl:k=ns.length:=by omega
   rw[fB]at hb;have HB:=aa (show ar _ (dB ns) H from hb);clear hb dQ aG hk;obtain⟨NL,hNL⟩:∃NL,NL=dB ns:=⟨_,rfl⟩;have HNL:=aa hNL;rw[<-hNL]at HB;clear hNL;obtain⟨A5,c5,rfl⟩:=HB.o.val;go_wp2_with fail
   go_ret;exact⟨_,H,rfl,by rw[<-HNL.o];exact HB.o,hH,hg⟩
def aaw(size:Nat)(ns:List Nt)(w:World)(Fr:HL)(iv:Value)(wr:World):Prop:=
 ∃k:Nat,k<=ns.length∧iv=.int .i64 k∧mY size ns k=p9 size ns∧Holds wr Fr∧af w wr
theorem RL(size:Nat)(v:Value)(ns:List Nt)(w:World)(Fr:HL)(hv:cU Fr v ns)(hH:Holds w Fr)(iu:∀n∈ns,n.vg)(cj:∀n∈ns,n.ok=true)(hlen:ns.length<=1000)(hs:size<=100000):Calls Tryz.prog 148 #[.int .i64 size,v] w (cM (.int .i64 (p9 size ns:Nat)) w Fr):=by
 have HV:=aa hv;have Am:=aa iu;have lR:=aa cj;obtain⟨_,A,c,rfl,hc,gT,_⟩:=hv w hH;have TB:=aa (RJ (.slice A ns.length c) ns w Fr hv hH hlen);rw[show ns.all Nt.ok=true from List.all_eq_true.2 cj]at TB;have jD:=af.refl w;clear hv iu cj hH;go_enter func148,ntmps148;go_wp2_with fail
 refine TB.o.mono ?_;rintro e w1⟨rfl,ax,aK⟩;have bD:aaw size ns w Fr (.int .i64 ns.length) w1:=⟨ns.length,aN _,rfl,rfl,ax,jD.trans aK⟩;clear TB ax aK jD;go_wp2_with fail
 go_loopw [5] (fun iv wr=>aaw size ns w Fr iv wr) (fun iv _=>(intOf iv).toNat)
 case atStart=>exact bD
 case round=>
  clear bD;obtain⟨k,hk,rfl,hf,hH,hg⟩:=hrel;by_cases h0:0<k
  ·have h0I:(0:Int)<k:=by omega
   obtain⟨j,rfl⟩:∃j,k=j+1:=⟨k-1,by omega⟩;have hkc:((j+1:Nat):Int)<=c:=by omega
   have X6:=aa ((cU.pre HV.o hk):cU Fr (.slice A (j+1) c) (ns.take (j+1)));have oT:(ns.take (j+1)).length=j+1:=by rw[dG];omega
   have HBY:=aa (K8 (.slice A (j+1) c) (ns.take (j+1)) wr Fr X6.o hH (fun n hn=>Am.o n (rJ hn)) (fun n hn=>lR.o n (rJ hn)) (by omega));rw[mY]at hf;have HF:=aa hf;generalize dB (ns.take (j+1))=NL at*;obtain⟨kI,hkI⟩:∃kI:Int,kI=((j+1:Nat):Int):=⟨_,rfl⟩;clear hf hH oT;go_wp2_with fail
   refine HBY.o.mono ?_;rintro e w2⟨v2,H2,rfl,fZ,aB,aX⟩;obtain⟨A2,c2,rfl⟩:=fZ.val;have xH:=aB.right;have cY:=hg.trans aX;clear fZ aB aX hg HBY;by_cases pM:NL.length<=size
   ·have hfI:(NL.length:Int)<=size:=by omega
    have hr:=HF.o;rw[if_pos pM]at hr;have HR:=aa hr;clear hr HF pM;go_wp2_with fail
    go_ret;exact⟨by rw[<-HR.o];rfl,xH,cY⟩
   ·have hfI:¬(NL.length:Int)<=size:=by omega
    have hr:=HF.o;rw[if_neg pM]at hr;have HR:=aa hr;have e1:((j+1:Nat):Int)-1=j:=by omega
    have hwj:wrap64 (((j+1:Nat):Int)-1)=j:=by unfold wrap64;omega
    clear hr HF pM;go_wp2_with fail
    go_roundw
    case rel=>exact⟨j,by omega,by simp[hwj],HR.o,xH,cY⟩
    case measure=>clear hwj;simp[intOf]
  ·have h0I:¬(0:Int)<k:=by omega
   obtain rfl:k=0:=by omega
   have Og:p9 size ns=0:=hf.symm;clear hf;go_wp2_with fail
   go_ret;exact⟨rfl,hH,hg⟩
section
variable{b sb cb mb g cap:Nat}{nm:List UInt8}{l:LM}{H Fr:HL}{w:World}{T:List az}{Ms:List (List az)}
def m17(us:List Value)(tv mv:Value)(nm:List UInt8):Obj:=.cells ((tv::mv::.string (cq nm)::us).toArray) 74
def uj(v:Value)(Ms:List (List az))(H:HL):Prop:=∃(vs:List Value) (Hr Hp:HL),H=Hr++Hp∧au 42 1 v Ms.length vs Hr∧vs.length=Ms.length∧(∀x∈vs,x.oneCell'=true)∧∀w,Holds w Hp->∀i (h:i<vs.length) (h':i<Ms.length),eC w vs[i] Ms[i]
def ek(mb:Nat)(nm:List UInt8)(T:List az)(Ms:List (List az))(H:HL):Prop:=∃us tv v Ht Hm,H=(mb,m17 us tv v nm)::(Ht++Hm)∧mR tv T Ht∧uj v Ms Hm
theorem uj.one{v:Value}{L:List az}{He:HL}(h:aP v L He){gb:Nat}:uj (.slice (some ⟨gb,0,none⟩) 1 1) [L] ((gb,.cells #[v] 42)::He):=by
 refine⟨[v],[(gb,.cells #[v] 42)],He,rfl,?_,rfl,?_,?_⟩
 ·exact au.made gb 1 #[v] (by simp) (by simp[maxLen])
 ·intro x hx;rw[List.mem_singleton.1 hx];obtain⟨A,c,rfl⟩:=h.val;rfl
 ·intro w hw i hi LW;obtain rfl:i=0:=by simp at hi;omega
  exact h.at_ (Fr:=[]) (by simpa using hw)
theorem We(us:List Value)(tv TD mv:Value)(nm:List UInt8){w:World}{F:HL}(h:Holds w ((mb,m17 us tv mv nm)::F)):Holds (w.setCell ⟨mb,0,none⟩ TD) ((mb,m17 us TD mv nm)::F):=by
 have h2:=Holds.set h 0 TD;rw[show(tv::mv::.string (cq nm)::us).toArray.setIfInBounds 0 TD=(TD::mv::.string (cq nm)::us).toArray by simp]at h2;exact h2
theorem Ki(us:List Value)(tv mv mv':Value)(nm:List UInt8){w:World}{F:HL}(h:Holds w ((mb,m17 us tv mv nm)::F)):Holds (w.setCell ⟨mb,1,none⟩ mv') ((mb,m17 us tv mv' nm)::F):=by
 have h2:=Holds.set h 1 mv';rw[show(tv::mv::.string (cq nm)::us).toArray.setIfInBounds 1 mv'=(tv::mv'::.string (cq nm)::us).toArray by simp]at h2;exact h2
theorem qC{us:List Value}{tv mv:Value}{nm:List UInt8}{w:World}{F:HL}(h:Holds w ((mb,m17 us tv mv nm)::F)):w.cell? ⟨mb,0,none⟩=some tv∧w.cell? ⟨mb,1,none⟩=some mv∧w.cell? ⟨mb,2,none⟩=some (.string (cq nm)):=by
 have h0:=h.ae 0;have h1:=h.ae 1;have h2:=h.ae 2;exact⟨by simpa using h0,by simpa using h1,by simpa using h2⟩
theorem mR.cell{v:Value}{L:List az}(h:mR v L H):∃b A c,v=.pointer (some ⟨b,0,none⟩)∧∀(w:World) (F:HL),Holds w (H++F)->w.cell? ⟨b,0,none⟩=some (.slice A L.length c)∧eC w (.slice A L.length c) L:=by
 obtain⟨_,_,_,b,sv,Hs,rfl,he,rfl⟩:=h;obtain⟨A,c,rfl⟩:=he.val;exact⟨b,A,c,rfl,fun w F hX=>⟨hX.ae 0,he.at_ (Fr:=(b,.cells #[.slice A L.length c] 70)::F) hX.p⟩⟩
theorem uq(tv:Value)(L:List az)(w:World)(h:mR tv L H)(hH:Holds w (H++Fr)):Calls Tryz.prog 74 #[tv] w (cB (fun v H'=>aP v L H') w (H++Fr)):=by
 obtain⟨b,A,c,rfl,hc⟩:=h.cell;have hl:=h.le;obtain⟨c0,he⟩:=hc w Fr hH;have HE:=aa he;have jD:=af.refl w;clear hc he h;go_enter func74,ntmps74;go_wp2_with (at_builtin;refine al ix (by rfl) (.const (.slice none 0 0)) (.tmp 6) (by rfl) (by rfl) (by rfl) (au.nil _ _) (show Holds w (([]:HL)++(H++Fr))from hH) HE.o gH (by simp[maxLen];omega) (by omega) ?_;intro A1 c1 w1 H1 OW ax aK)
 go_ret;refine⟨_,H1,rfl,?_,ax,jD.trans aK⟩;unfold aP;have:=OW;simp only[jS,fp]at this⊢;exact this
theorem ek.Iz(h:ek mb nm T Ms H):∃tv Ht Ho,(∀(w:World) (F:HL),Holds w (H++F)->w.cell? ⟨mb,0,none⟩=some tv)∧mR tv T Ht∧(∀(w:World) (F:HL),Holds w (H++F)↔Holds w (Ht++(Ho++F)))∧
  (∀(T':List az) (IA:HL),mR tv T' IA->∃H',ek mb nm T' Ms H'∧∀(w:World) (F:HL),Holds w (IA++(Ho++F))->Holds w (H'++F)):=by
 obtain⟨us,tv,v,Ht,Hm,rfl,h1,h2⟩:=h;refine⟨tv,Ht,(mb,m17 us tv v nm)::Hm,fun w F hX=>(qC hX).1,h1,fun w F=>⟨fun hX=>hX.p,fun hX=>hX.p⟩,fun T' IA ht=>⟨_,⟨us,tv,v,IA,Hm,rfl,ht,h2⟩,fun w F hX=>?_⟩⟩;exact(show Holds w (((mb,m17 us tv v nm)::(IA++Hm))++F)from hX.p)
theorem ek.P5(h:ek mb nm T Ms H){v':Value}{rV:List (List az)}{tY:HL}(hm:uj v' rV tY):∃H',ek mb nm T rV H'∧∀(w:World) (F:HL),Holds w (H++(tY++F))->
  Holds (w.setCell ⟨mb,1,none⟩ v') (H'++F)∧w.frozen? ⟨mb,1,none⟩=false∧mb<w.heap.size∧∃u,w.cell? ⟨mb,1,none⟩=some u:=by
 obtain⟨us,tv,v,Ht,Hm,rfl,h1,h2⟩:=h;refine⟨_,⟨us,tv,v',Ht,tY,rfl,h1,hm⟩,fun w F hX=>⟨?_,hX.ah 1,hX.aG,_,hX.ae 1⟩⟩;have hY:Holds w ((mb,m17 us tv v nm)::(Ht++(tY++F))):=(show Holds w ((mb,m17 us tv v nm)::((Ht++Hm)++(tY++F)))from hX).p;exact(show Holds _ ((mb,m17 us tv v' nm)::(Ht++(tY++F)))from Ki us tv v v' nm hY).p
theorem ek.ahJ(h:ek mb nm T Ms H){TD:Value}{T':List az}{IA:HL}(ht:mR TD T' IA):∃H',ek mb nm T' Ms H'∧∀(w:World) (F:HL),Holds w (H++(IA++F))->
  Holds (w.setCell ⟨mb,0,none⟩ TD) (H'++F)∧w.frozen? ⟨mb,0,none⟩=false∧mb<w.heap.size∧∃u,w.cell? ⟨mb,0,none⟩=some u:=by
 obtain⟨us,tv,v,Ht,Hm,rfl,h1,h2⟩:=h;refine⟨_,⟨us,TD,v,IA,Hm,rfl,ht,h2⟩,fun w F hX=>⟨?_,hX.ah 0,hX.aG,_,hX.ae 0⟩⟩;have hY:Holds w ((mb,m17 us tv v nm)::(IA++(Hm++F))):=(show Holds w ((mb,m17 us tv v nm)::((Ht++Hm)++(IA++F)))from hX).p;exact(show Holds _ ((mb,m17 us TD v nm)::(IA++(Hm++F)))from We us tv TD v nm hY).p
theorem ek.an6(h:ek mb nm T Ms H):∃tv A c Hr Ho vs,(∀(w:World) (F:HL),Holds w (H++F)->Holds w (Hr++(Ho++F))∧Calls Tryz.prog 74 #[tv] w (cB (fun v H'=>aP v T H') w (H++F)))∧
  (∀(w:World) (F:HL),Holds w (Ho++F)->w.cell? ⟨mb,0,none⟩=some tv∧w.cell? ⟨mb,1,none⟩=some (.slice A Ms.length c))∧au 42 1 (.slice A Ms.length c) Ms.length vs Hr∧
  ∀(A':Option Addr) (c':Nat) (v:Value) (L:List az) (ZM He:HL),aP v L He->au 42 1 (.slice A' (Ms.length+1) c') (Ms.length+1) (vs++[v]) ZM->∃H',ek mb nm T (Ms++[L]) H'∧
   ∀(w:World) (F:HL),Holds w (ZM++(Ho++(He++F)))->Holds (w.setCell ⟨mb,1,none⟩ (.slice A' (Ms.length+1) c')) (H'++F)∧w.frozen? ⟨mb,1,none⟩=false∧mb<w.heap.size:=by
 obtain⟨us,tv,v,Ht,Hm,rfl,h1,vs,Hr,Hp,rfl,h2,h3,h4,h5⟩:=h;obtain⟨A,c,rfl⟩:=h2.val;refine⟨tv,A,c,Hr,(mb,m17 us tv (.slice A Ms.length c) nm)::(Ht++Hp),vs,fun w F hX=>⟨hX.p,?_⟩,fun w F hX=>⟨(qC hX).1,(qC hX).2.1⟩,h2,fun A' c' v L ZM He he hr=>?_⟩
 ·have hY:Holds w (Ht++((mb,m17 us tv (.slice A Ms.length c) nm)::((Hr++Hp)++F))):=(show Holds w ((mb,m17 us tv (.slice A Ms.length c) nm)::((Ht++(Hr++Hp))++F))from hX).p;refine(uq tv T w h1 hY).mono ?_;rintro e w'⟨v,He,rfl,he,hH,hg⟩;exact⟨v,He,rfl,he,(show Holds w' (He++((mb,m17 us tv (.slice A Ms.length c) nm)::((Ht++(Hr++Hp))++F)))from hH.p),hg⟩
 refine⟨_,⟨us,tv,.slice A' (Ms.length+1) c',Ht,ZM++(Hp++He),rfl,h1,vs++[v],ZM,Hp++He,rfl,by rw[aY,mT];exact hr,by simp[h3],?_,?_⟩,fun w F hX=>?_⟩
 ·intro x hx;rcases List.mem_append.1 hx with hx|hx
  ·exact h4 x hx
  ·rw[List.mem_singleton.1 hx];obtain⟨A,c,rfl⟩:=he.val;rfl
 ·intro w hw i hi LW;by_cases e:i<vs.length
  ·rw[Ev e,Ev (by omega)];exact h5 w hw.left i e (by omega)
  ·rw[aY,mT]at hi;obtain rfl:i=vs.length:=by omega
   rw[List.getElem_append_right (aN _),List.getElem_append_right (by omega)];simp only[qg,List.getElem_cons_zero,h3];exact he.at_ (Fr:=Hp) hw.p
 ·have hY:Holds w ((mb,m17 us tv (.slice A Ms.length c) nm)::(Ht++(ZM++(Hp++(He++F))))):=hX.p;refine⟨?_,hY.ah 1,hY.aG⟩;exact(show Holds _ ((mb,m17 us tv (.slice A' (Ms.length+1) c') nm)::(Ht++(ZM++(Hp++(He++F)))))from Ki us tv _ _ nm hY).p
theorem ek.getM(h:ek mb nm T Ms H):∃A c,∀(w:World) (F:HL),Holds w (H++F)->w.cell? ⟨mb,1,none⟩=some (.slice A Ms.length c)∧w.cell? ⟨mb,2,none⟩=some (.string (cq nm))∧
  ∀k (hk:k<Ms.length),∃gb o u,A=some ⟨gb,o,none⟩∧w.cell? ⟨gb,o+k,none⟩=some u∧eC w u Ms[k]:=by
 obtain⟨us,tv,v,Ht,Hm,rfl,h1,vs,Hr,Hp,rfl,h2,h3,h4,h5⟩:=h;obtain⟨A,c,rfl⟩:=h2.val;refine⟨A,c,fun w F hX=>⟨(qC hX).2.1,(qC hX).2.2,fun k hk=>?_⟩⟩;have hY:Holds w (Hr++((mb,m17 us tv (.slice A Ms.length c) nm)::(Ht++(Hp++F)))):=(show Holds w ((mb,m17 us tv (.slice A Ms.length c) nm)::((Ht++(Hr++Hp))++F))from hX).p;obtain⟨_,A',c',hv,_,_,cm⟩:=au.reads h2 hY;injection hv with e1 e2 e3;subst e1;obtain⟨gb,o,rfl,bm⟩:=cm (by omega);refine⟨gb,o,vs[k]'(by omega),rfl,bm k _ (by rw[bF (by omega)]),h5 w ?_ k (by omega) hk⟩;exact(hY.p:Holds w (Hp++(Hr++((mb,m17 us tv (.slice (some ⟨gb,o,none⟩) Ms.length c) nm)::(Ht++F))))).left
theorem K9(n:Nt)(h:ek mb nm T Ms H)(hH:Holds w (H++Fr))(h0:0<=n.e.addr)(hl:T.length<100000):
  Calls Tryz.prog 149 #[.pointer (some ⟨mb,0,none⟩),n.agg] w (fun e w'=>e=.returned (.tuple #[])∧∃H',ek mb nm (su T n) Ms H'∧Holds w' (H'++Fr)∧af w w'):=by
 obtain⟨gn,e⟩:=n;dsimp only at h0;have ax:=hH.alloc (.cells #[.bool gn,.int .u64 e.addr,.int .i64 e.aW,.bool e.bR,.int .i64 e.seq] 26);have aK:=(af.refl w).alloc (.cells #[.bool gn,.int .u64 e.addr,.int .i64 e.aW,.bool e.bR,.int .i64 e.seq] 26);rw[Nt.MI];dsimp only;obtain⟨tv,Ht,Ho,hc,ht,rU,bm⟩:=h.Iz;obtain⟨tb,rfl⟩:=ht.ptr;obtain⟨bx,PH⟩:∃bx,bx=w.heap.size:=⟨_,rfl⟩;rw[<-PH]at ax;have iJ:=aa fun(wx:World) (hx:Holds wx ((bx,.cells #[.bool gn,.int .u64 e.addr,.int .i64 e.aW,.bool e.bR,.int .i64 e.seq] 26)::(H++Fr)))=>show wx.cell? ⟨mb,0,none⟩=some (.pointer (some ⟨tb,0,none⟩))∧wx.cell? ⟨bx,0,none⟩=some (.bool gn)∧wx.cell? ⟨bx,1,none⟩=some (.int .u64 e.addr)∧wx.cell? ⟨bx,2,none⟩=some (.int .i64 e.aW)∧wx.cell? ⟨bx,3,none⟩=some (.bool e.bR)∧wx.cell? ⟨bx,4,none⟩=some (.int .i64 e.seq)from⟨hc wx _ hx.tail,hx.note⟩;have vv:=aa fun(wx:World) (hx:Holds wx ((bx,.cells #[.bool gn,.int .u64 e.addr,.int .i64 e.aW,.bool e.bR,.int .i64 e.seq] 26)::(H++Fr)))=>show Calls Tryz.prog 198 #[.pointer (some ⟨tb,0,none⟩),.int .u64 e.addr] wx (fun en w'=>en=.returned (mo (eL e.addr T))∧∃H',ek mb nm (iO T e.addr) Ms H'∧Holds w' (H'++Fr)∧af wx w')from by
  have hy:Holds wx (Ht++(Ho++((bx,.cells #[.bool gn,.int .u64 e.addr,.int .i64 e.aW,.bool e.bR,.int .i64 e.seq] 26)::Fr))):=(rU wx _).1 (show Holds wx (H++((bx,.cells #[.bool gn,.int .u64 e.addr,.int .i64 e.aW,.bool e.bR,.int .i64 e.seq] 26)::Fr))from hx.p);refine(K4 _ T e.addr Ht _ wx ht hy).mono ?_;rintro en w'⟨rfl,H',Es,gK,nD⟩;obtain⟨H6,OD,Gm⟩:=bm _ _ Es;exact⟨rfl,H6,OD,Gm w' _ (show Holds w' (H'++(Ho++Fr))from gK.p),nD⟩
 have HPU:=aa fun(wx:World) (hx:Holds wx ((bx,.cells #[.bool gn,.int .u64 e.addr,.int .i64 e.aW,.bool e.bR,.int .i64 e.seq] 26)::(H++Fr)))=>show Calls Tryz.prog 199 #[.pointer (some ⟨tb,0,none⟩),.agg #[.int .u64 e.addr,.int .i64 e.aW,.bool e.bR,.int .i64 e.seq]] wx (fun en w'=>en=.returned (mo (eL e.addr T))∧∃H',ek mb nm (fV T e) Ms H'∧Holds w' (H'++Fr)∧af wx w')from by
  have hy:Holds wx (Ht++(Ho++((bx,.cells #[.bool gn,.int .u64 e.addr,.int .i64 e.aW,.bool e.bR,.int .i64 e.seq] 26)::Fr))):=(rU wx _).1 (show Holds wx (H++((bx,.cells #[.bool gn,.int .u64 e.addr,.int .i64 e.aW,.bool e.bR,.int .i64 e.seq] 26)::Fr))from hx.p);refine(ND _ T e Ht _ wx ht hy h0 (by omega)).mono ?_;rintro en w'⟨rfl,H',Es,gK,nD⟩;obtain⟨H6,OD,Gm⟩:=bm _ _ Es;exact⟨rfl,H6,OD,Gm w' _ (show Holds w' (H'++(Ho++Fr))from gK.p),nD⟩
 clear hc ht rU bm h hH;cases gn with
 |true=>
  go_enter func149,ntmps149;go_upto_region 1 with fail
  rw[<-PH]at*;generalize w.alloc (.cells #[.bool true,.int .u64 e.addr,.int .i64 e.aW,.bool e.bR,.int .i64 e.seq] 26)=w1 at*;obtain⟨z0,z1,z2,z3,z4,z5⟩:=iJ.o w1 ax;go_upto_region 2 with fail
  clear z0 z1 z2 z3 z4 z5;refine aF (fun wx=>wx.cell? ⟨mb,0,none⟩=some (.pointer (some ⟨tb,0,none⟩))∧wx.cell? ⟨bx,0,none⟩=some (.bool true)∧wx.cell? ⟨bx,1,none⟩=some (.int .u64 e.addr)∧wx.cell? ⟨bx,2,none⟩=some (.int .i64 e.aW)∧wx.cell? ⟨bx,3,none⟩=some (.bool e.bR)∧wx.cell? ⟨bx,4,none⟩=some (.int .i64 e.seq)) 7 (by kernel_rfl) (fun w1 hd=>iJ.o _ (ax.dr hd)) (fun w1 hd hs=>?_);have dZ:=ax.dr hd;have iZ:=aK.trans (af.dr hd);clear hd ax aK;refine dY 0 1 2 3 ?_;refine Ag 4 5 6 ?_;refine Zl 7 fun K hK=>?_;go_simp;refine(vv.o w1 dZ).mono ?_;rintro en lQ ⟨rfl,H6,OD,Gn,eJ⟩;have Gp:=iZ.trans eJ;have HM6:=aa OD;clear dZ eJ iZ OD;refine hK _ _ ?_;clear hK K hs;refine Ze ?_;go_wp2_with fail
  exact bodyPost_end (v:=.tuple #[]) (results_none rfl _ _ _) rfl ⟨rfl,H6,HM6.o,Gn,Gp⟩
 |false=>
  go_enter func149,ntmps149;go_upto_region 1 with fail
  rw[<-PH]at*;generalize w.alloc (.cells #[.bool false,.int .u64 e.addr,.int .i64 e.aW,.bool e.bR,.int .i64 e.seq] 26)=w1 at*;obtain⟨z0,z1,z2,z3,z4,z5⟩:=iJ.o w1 ax;go_upto_region 3 with fail
  clear z0 z1 z2 z3 z4 z5;refine aF (fun wx=>wx.cell? ⟨mb,0,none⟩=some (.pointer (some ⟨tb,0,none⟩))∧wx.cell? ⟨bx,0,none⟩=some (.bool false)∧wx.cell? ⟨bx,1,none⟩=some (.int .u64 e.addr)∧wx.cell? ⟨bx,2,none⟩=some (.int .i64 e.aW)∧wx.cell? ⟨bx,3,none⟩=some (.bool e.bR)∧wx.cell? ⟨bx,4,none⟩=some (.int .i64 e.seq)) 6 (by kernel_rfl) (fun w1 hd=>iJ.o _ (ax.dr hd)) (fun w1 hd hs=>?_);have dZ:=ax.dr hd;have iZ:=aK.trans (af.dr hd);clear hd ax aK;refine dY 0 1 2 3 ?_;refine qL 4 5 ?_;refine Zl 6 fun K hK=>?_;go_simp;refine(HPU.o w1 dZ).mono ?_;rintro en lQ ⟨rfl,H6,OD,Gn,eJ⟩;have Gp:=iZ.trans eJ;have HM6:=aa OD;clear dZ eJ iZ OD;refine hK _ _ ?_;clear hK K hs;refine Ze ?_;go_wp2_with fail
  exact bodyPost_end (v:=.tuple #[]) (results_none rfl _ _ _) rfl ⟨rfl,H6,HM6.o,Gn,Gp⟩
end
section
variable{b sb cb mb g cap:Nat}{nm:List UInt8}{l:LM}{H Fr:HL}{w:World}{T:List az}{Ms:List (List az)}
def sx:List az->List (List Nt)->List (List az)
 |T,[]=>[T]
 |T,ch::eA=>T::sx (aI T ch) eA
theorem Fx(T:List az)(eA:List (List Nt)):sx T eA=T::(sx T eA).tail:=by cases eA<;>rfl
theorem Wf(T:List az)(eA:List (List Nt)):(sx T eA).length=eA.length+1:=by
 induction eA generalizing T with
 |nil=>rfl
 |cons ch eA ih=>rw[sx,fC,ih,fC]
theorem wR:∀(eA:List (List Nt)) (T:List az) (k:Nat),k<=eA.length->aI T (eA.take k).flatten∈sx T eA
 |[],T,k,h=>by
  obtain rfl:k=0:=by simpa using h
  exact dC
 |ch::eA,T,0,h=>dC
 |ch::eA,T,k+1,h=>by
  rw[sx,zc,kr,fk];exact fA _ (wR eA _ k (by simpa using h))
theorem ek.copied(h:ek mb nm T Ms H):∃tv,∀(w:World) (F:HL),Holds w (H++F)->w.cell? ⟨mb,0,none⟩=some tv∧Calls Tryz.prog 74 #[tv] w (cB (fun v H'=>aP v T H') w (H++F)):=by
 obtain⟨tv,Ht,Ho,hc,ht,rU,_⟩:=h.Iz;refine⟨tv,fun w F hX=>⟨hc w F hX,?_⟩⟩;refine(uq tv T w ht ((rU w F).1 hX)).mono ?_;rintro e w'⟨v,He,rfl,he,hH,hg⟩;exact⟨v,He,rfl,he,((rU w' (F++He)).2 (show Holds w' (Ht++(Ho++(F++He)))from hH.p)).p,hg⟩
def acA(mb:Nat)(nm:List UInt8)(Tn:List az)(all:List (List az))(w:World)(Fr:HL)(nv:Value)(wr:World):Prop:=
 ∃(nt:List Nt) (T':List az) (rV:List (List az)) (H':HL),cU Fr nv nt∧(∀n∈nt,n.vg∧n.ok=true)∧nt.length<=1000∧T'.length+nt.length<=2000∧rV.length+nt.length<=1001∧eU T'∧
  ek mb nm T' rV H'∧rV++(sx T' (aO 128 nt)).tail=all∧aI T' nt=Tn∧Holds wr (H'++Fr)∧af w wr
def ahK(mb:Nat)(nm:List UInt8)(T:List az)(Ms:List (List az))(ns:List Nt)(w:World)(Fr:HL)(iv:Value)(wr:World):Prop:=
 ∃(k:Nat) (H':HL),k<=ns.length∧iv=.int .i64 k∧ek mb nm (aI T (ns.take k)) Ms H'∧Holds wr (H'++Fr)∧af w wr
def ajv(mb:Nat)(nm:List UInt8)(T:List az)(Ms:List (List az))(w:World)(Fr:HL)(e:Ending)(w':World):Prop:=
 e=.returned (.tuple #[])∧∃H',ek mb nm T Ms H'∧Holds w' (H'++Fr)∧af w w'
theorem Ei(v:Value)(ns:List Nt)(h:ek mb nm T Ms H)(hH:Holds w (H++Fr))(hv:cU Fr v ns)(iu:∀n∈ns,n.vg∧n.ok=true)(hlen:ns.length<=1000)(hT:T.length<=1000)(F0:eU T):
  Calls Tryz.prog 76 #[.pointer (some ⟨mb,0,none⟩),v] w (ajv mb nm (aI T ns) (sx T (aO 128 ns)) w Fr):=by
 obtain⟨tv,Dk⟩:=h.copied;obtain⟨c0,Ll⟩:=Dk w Fr hH;have Ll:=aa Ll;have HM0:=aa h;have HV:=aa hv;have jD:=af.refl w;obtain⟨-,A,cn,rfl,-,-,-⟩:=hv w hH.right;obtain⟨all,eB⟩:∃all,all=sx T (aO 128 ns):=⟨_,rfl⟩;obtain⟨Tn,hTn⟩:∃Tn,Tn=aI T ns:=⟨_,rfl⟩;rw[<-eB,<-hTn];have sr:=aa eB;have HTN:=aa hTn;obtain⟨n0,uZ⟩:∃n0,n0=ns.length:=⟨_,rfl⟩;rw[<-uZ];have Ou:=aa uZ;clear Dk h hv eB hTn;go_enter func76,ntmps76;go_wp2_with fail
 refine Ll.o.mono ?_;rintro e w1⟨v1,He,rfl,he,ax,aK⟩;have oc:=uj.one he (gb:=w1.heap.size);have bM:=ax.alloc (.cells #[v1] 42);have cJ:=(jD.trans aK).alloc (.cells #[v1] 42);obtain⟨H2,X7,bz⟩:=HM0.o.P5 oc;obtain⟨aB,f1,jj,u1,x1⟩:=bz (w1.alloc (.cells #[v1] 42)) Fr bM.p;have cY:=cJ.setCell ⟨mb,1,none⟩ (.slice (some ⟨w1.heap.size,0,none⟩) 1 1);obtain⟨A1,c1,rfl⟩:=he.val;have HMD:=aa X7;clear Ll oc bM cJ bz he ax aK jD HM0 X7 hH c0;go_upto_region 1 with fail
 generalize(w1.alloc (.cells #[.slice A1 T.length c1] 42)).setCell ⟨mb,1,none⟩ (.slice (some ⟨w1.heap.size,0,none⟩) 1 1)=w2 at*;clear f1 jj x1;have bD:acA mb nm Tn all w Fr (.slice A ns.length cn) w2:=⟨ns,T,[T],H2,HV.o,iu,hlen,by omega,by simp;omega,F0,HMD.o,by rw[sr.o];exact(Fx _ _).symm,HTN.o.symm,aB,cY⟩;clear aB cY HMD iu hlen hT F0;rw[<-uZ]at bD;clear HV sr HTN;go_wp2_with fail
 go_loopw [1] (fun nv wr=>acA mb nm Tn all w Fr nv wr) (fun nv _=>match nv with| .slice _ n _=>n|_=>0)
 case atStart=>rw[<-Ou.o];exact bD
 case round=>
  clear bD;obtain⟨nt,T',rV,H,hv,cj,iY,lP,p7,F0,hm,hal,hap,hH,hg⟩:=hrel;obtain⟨-,A5,c5,rfl,hc5,Iu,-⟩:=hv wr hH.right;by_cases h0:0<nt.length
  ·have h0I:(0:Int)<nt.length:=by omega
   obtain⟨b1,o1,rfl,-⟩:=(hv wr hH.right).get h0;obtain⟨k,ZP⟩:∃k,k=p9 128 nt:=⟨_,rfl⟩;obtain⟨p6,qO,Lu⟩:=tp (Z:=128) (aN _) h0;rw[lO (aN _) h0,sx,List.tail_cons]at hal;rw[<-ZP]at p6 qO Lu hal;have uE:=RL 128 (.slice (some ⟨b1,o1,none⟩) nt.length c5) nt wr (H++Fr) (fun wy hy=>hv wy hy.right) hH (fun x hx=>(cj x hx).1) (fun x hx=>(cj x hx).2) iY (by omega);rw[<-ZP]at uE;have uE:=aa uE;have HV:=aa hv;have lR:=aa cj;have TB:=aa hal;have SR:=aa hap;have vv:=aa (hv.drop qO);have HM:=aa hm;have oT:(nt.take k).length=k:=by rw[dG];omega
   have FZ:max (k:Int) 1=k:=by omega
   have hkI:(k:Int)<=nt.length:=by omega
   have hkc:(k:Int)<=c5:=by omega
   have an7:k<=c5:=by omega
   clear hal hap ZP Lu hv cj hm;go_wp2_with fail
   refine uE.o.mono ?_;rintro e w3⟨rfl,aD,bj⟩;have kp:ahK mb nm T' rV (nt.take k) w Fr (.int .i64 0) w3:=⟨0,H,by omega,rfl,by simpa[aI]using HM.o,aD,hg.trans bj⟩;clear uE hH hg aD bj HM;go_wp2_with fail
   go_loopw [5] (fun iv wr=>ahK mb nm T' rV (nt.take k) w Fr iv wr) (fun iv _=>k-(intOf iv).toNat)
   case atStart=>exact kp
   case round=>
    clear kp;obtain⟨i,H1,hi,rfl,oc,aU,bV⟩:=hrel;rw[oT]at hi;by_cases aG:i<k
    ·have dQ:(i:Int)<k:=by omega
     have LW:i<nt.length:=by omega
     obtain⟨b2,o2,e2,y0,y1,y2,y3,y4⟩:=(HV.o wr aU.right).get LW;injection e2 with e2;injection e2 with e3 e4;subst e3 e4;have HIT:=(lR.o _ (cX LW)).1;have WO:(aI T' ((nt.take k).take i)).length<100000:=by have:=jN F0 ((nt.take k).take i);rw[dG,oT]at this;omega
     have SV:=K9 nt[i] oc aU HIT.1.1 WO;rw[show su (aI T' ((nt.take k).take i)) nt[i]=aI T' ((nt.take k).take (i+1)) by
      rw[gB (by rw[oT];exact aG),ry,List.getElem_take],Nt.MI]at SV
     have SV:=aa SV;generalize nt[i]=x at*;obtain⟨gn,⟨ea,ep,ed,eq⟩⟩:=x;dsimp only at y0 y1 y2 y3 y4 SV;clear oc aU HIT WO;go_wp2_with fail
     refine SV.o.mono ?_;rintro e w5⟨rfl,H5,hm5,bg,dJ⟩;go_wp2_with fail
     go_roundw
     case rel=>exact⟨i+1,H5,by rw[oT];exact aG,rfl,hm5,bg,bV.trans dJ⟩
     case measure=>exact rj rfl aG
    ·have dQ:¬(i:Int)<k:=by omega
     obtain rfl:i=k:=by omega
     rw[List.take_take,Nat.min_self]at oc;have HIL:=aa (qA F0 (nt.take i));have HLL:=aa (show(aI T' (nt.take i)).length<=T'.length+i by have:=jN F0 (nt.take i);rw[oT]at this;exact this);have ahL:=aa (show aI (aI T' (nt.take i)) (nt.drop i)=Tn by rw[<-fk,oz];exact SR.o);generalize aI T' (nt.take i)=L at*;obtain⟨tv,A6,c6,Hr,Ho,vs,hX,hY,ay,bm⟩:=oc.an6;have HX:=aa fun(wx:World) (F:HL) (hx:Holds wx (H1++F))=>(hX wx F hx).1;have Ll:=aa fun(wx:World) (hx:Holds wx (H1++Fr))=>(hX wx Fr hx).2;have iJ:=aa fun(wx:World) (F:HL) (hx:Holds wx (Ho++F))=>hY wx F hx;have jm:=aa ay;have pd:=aa bm;have tT:rV.length<=1001:=by omega
     have oR:rV.length+1<=maxLen:=by simp only[maxLen];omega
     have Ju:(rV.length+1)*24<=140737488355328:=by omega
     generalize S6:rV.length=mn at*;clear hX hY ay bm oc;go_upto_region 7 with fail
     refine aF (fun wx=>wx.cell? ⟨mb,0,none⟩=some tv∧wx.cell? ⟨mb,1,none⟩=some (.slice A6 mn c6)) 14 (by kernel_rfl) (fun w1 hd=>iJ.o _ (Hr++Fr) (show Holds _ (Ho++(Hr++Fr))from(HX.o _ _ (aU.dr hd)).p)) (fun w1 hd hs=>?_);have dZ:=aU.dr hd;have iZ:=bV.trans (af.dr hd);clear hd aU bV;refine dY 0 1 2 3 ?_;refine dY 4 5 6 7 ?_;refine ji 8 ?_;refine Zm 9 fun K hK=>?_;go_simp;refine(Ll.o w1 dZ).mono ?_;rintro e w7 ⟨v7,He,rfl,he,cA,jk⟩;obtain⟨A7,c7,rfl⟩:=he.val;have HE:=aa he;have cT:Holds w7 (Ho++(Hr++(He++Fr))):=(HX.o w7 (Fr++He) (show Holds w7 (H1++(Fr++He))from cA.p)).p;have iT:=iZ.trans jk;clear dZ iZ he cA jk;refine hK _ _ (iJ.o _ (Hr++(He++Fr)) cT) (fun _=>?_);clear hK K hs;rename_i hs;refine Zm 10 fun K hK=>?_;go_simp;refine hK _ _ (iJ.o _ ((w7.heap.size,.cells #[.slice A7 L.length c7] 42)::(Hr++(He++Fr))) (show Holds (w7.alloc (.cells #[.slice A7 L.length c7] 42)) _ from(cT.alloc _).p)) (fun _=>?_);clear hK K hs;rename_i hs;refine Zm 11 fun K hK=>?_;have hZ:Holds (w7.alloc (.cells #[.slice A7 L.length c7] 42)) (Hr++((w7.heap.size,.cells #[.slice A7 L.length c7] 42)::(Ho++(He++Fr)))):=(cT.alloc _).p;have lT:=iT.alloc (.cells #[.slice A7 L.length c7] 42);generalize w7.alloc (.cells #[.slice A7 L.length c7] 42)=wz at*;generalize w7.heap.size=gz at*;clear cT iT;refine bf MF (by rfl) _ _ (by rfl) (by rfl) (by rfl) jm.o hZ (ag.ft (n:=1) (c:=1) (o:=0) (g:=gz) (hZ.get (b:=gz) (o:=(.cells #[.slice A7 L.length c7] 42)) (by simp)) [.slice A7 L.length c7] rfl (by omega) (by simp[maxLen]) (by intro j u hu;simpa using hu)) (by simp[Value.oneCell']) oR Ju ?_;intro A9 c9 w9 H9 aax di jG;refine hK _ _ (iJ.o _ (H9++(He++Fr)) (show Holds w9 (Ho++(H9++(He++Fr)))from di.p)) (fun _=>?_);clear hK K hs;rename_i hs;refine qL 12 13 ?_;refine Zl 14 fun K hK=>?_;obtain⟨iC,ahM,bz⟩:=pd.o A9 c9 _ L H9 He HE.o aax;obtain⟨dU,f6,LJ⟩:=bz w9 Fr (show Holds w9 (H9++(Ho++(He++Fr)))from di.p);have ia:=(lT.trans jG).setCell ⟨mb,1,none⟩ (.slice A9 (mn+1) c9);have ahN:=aa ahM;clear ahM bz hZ lT jG aax di;go_simp;refine hK _ _ ?_;clear hK K hs;refine Ze ?_;clear Ll HX iJ pd jm f6 LJ;generalize w9.setCell ⟨mb,1,none⟩ (.slice A9 (mn+1) c9)=lQ at*;have Gq:=aa (show∀nv,cU Fr nv (nt.drop i)->acA mb nm Tn all w Fr nv lQ from fun nv FO=>
      ⟨nt.drop i,L,rV++[L],iC,FO,fun x hx=>lR.o x (List.mem_of_mem_drop hx),by rw[dA];omega,by rw[dA];have:=HLL.o;omega,by rw[dA,aY,mT];omega,HIL.o,ahN.o,
       by rw[cE,List.singleton_append,<-Fx];exact TB.o,ahL.o,dU,ia⟩)
     clear HIL HLL ahL TB SR ahN HE;by_cases vp:c5=i
     ·have hni:nt.length=i:=by omega
      have Li:nt.drop i=[]:=BN (by omega);have Jf:=aa fun A9=>Gq.o (.slice A9 0 0) (by rw[Li];exact cU.nK (by simp[maxLen]));clear vv Gq HV lR;subst vp;go_wp2_with fail
      exact⟨Jf.o _,by show 0<nt.length;omega⟩
     ·have hic:i<c5:=by omega
      have hN:=Gq.o _ vv.o;simp only[kt,cV]at hN;have Jf:=aa hN;clear hN vv Gq HV lR;go_wp2_with fail
      exact⟨Jf.o,by show nt.length-i<nt.length;omega⟩
  ·have hnt:nt=[]:=jW (by omega);subst hnt;have h0I:¬(0:Int)<(([]:List Nt).length:Int):=by simp
   have TB:=aa (show rV=all by rw[<-hal];show rV=rV++[];rw[kZ]);have SR:=aa (show T'=Tn from hap);have HM:=aa hm;clear hal hap hm hv cj F0;go_wp2_with fail
   exact bodyPost_end (v:=.tuple #[]) (results_none rfl _ _ _) rfl ⟨rfl,H,by rw[<-TB.o,<-SR.o];exact HM.o,hH,hg⟩
theorem Kj{α:Type}[DecidableEq α]{x:α}:∀{L:List α},x∈L->∃k,∃h:k<L.length,L[k]=x∧∀j (hj:j<L.length),j<k->L[j]≠x
 |[],h=>absurd h (by simp)
 |y::L,h=>by
  by_cases e:y=x
  ·exact⟨0,by simp,e,fun j _ hj=>by omega⟩
  ·have h2:x∈L:=by
    rcases List.mem_cons.1 h with h|h
    ·exact absurd h.symm e
    ·exact h
   obtain⟨k,hk,h1,h3⟩:=Kj h2;refine⟨k+1,by simpa using hk,by simpa using h1,fun j hj qE=>?_⟩;cases j with
   |zero=>exact e
   |succ j=>simpa using h3 j (by simpa using hj) (by omega)
def ahO(w:World)(k0:Nat)(F:HL)(iv:Value)(wr:World):Prop:=
 ∃k:Nat,k<=k0∧iv=.int .i64 k∧Holds wr F∧af w wr
def aay(mb:Nat)(nm:List UInt8)(T:List az)(w:World)(Fr:HL)(e:Ending)(w':World):Prop:=
 e=.returned (.bool true)∧∃H',ek mb nm T [T] H'∧Holds w' (H'++Fr)∧af w w'
theorem rE{Hl:HL}(h:ek mb l.name T Ms H)(hl:aT b sb l Hl)(hH:Holds w (H++(Hl++Fr)))(oY:l.T∈Ms)(hi:eU l.T)(hn:∀e∈l.T,0<=e.addr)(hlen:l.T.length<=1000)(hMs:Ms.length<=2000):
  Calls Tryz.prog 37 #[.pointer (some ⟨mb,0,none⟩),.pointer (some ⟨b,0,none⟩)] w (aay mb l.name l.T w (Hl++Fr)):=by
 have F3:=aa (cD hl (w:=w) (Fr:=H++Fr) hH.p);obtain⟨k0,rQ,hke,zN⟩:=Kj oY;obtain⟨A,c,Zd⟩:=h.getM;have HGM:=aa Zd;have HM:=aa h;have SQ:=aa fun(wx:World) (F:HL) (hx:Holds wx (Hl++F))=>zC hl (w:=wx) hx;have HKE:=aa hke;have HKN:=aa zN;have HI:=aa (aS hi (aS hn hlen));have jD:=af.refl w;clear Zd h hl hke zN hi hn oY;go_enter func37,ntmps37;go_wp2_with fail
 refine F3.o.mono ?_;rintro e w1⟨ev,He,rfl,he,ax,aK⟩;have HE:=aa he;obtain⟨A2,c2,rfl⟩:=he.val;have bD:ahO w k0 (H++(He++(Hl++Fr))) (.int .i64 0) w1:=⟨0,by omega,rfl,ax.p,jD.trans aK⟩;clear F3 he ax aK jD hH;go_wp2_with fail
 go_loopw [6] (fun iv wr=>ahO w k0 (H++(He++(Hl++Fr))) iv wr) (fun iv _=>Ms.length-(intOf iv).toNat)
 case atStart=>exact bD
 case round=>
  clear bD;obtain⟨k,hk,rfl,hH,hg⟩:=hrel;have aG:k<Ms.length:=by omega
  have dQ:(k:Int)<Ms.length:=by omega
  obtain⟨x1,x2,Oj⟩:=HGM.o wr _ hH;obtain⟨gb,o,u,rfl,x3,hE2⟩:=Oj k aG;have pH:=aa (rr _ _ l.T Ms[k] wr (HE.o.at_ (Fr:=H++(Hl++Fr)) hH.p) hE2);obtain⟨A4,c4,rfl⟩:=hE2.val;clear Oj hE2;by_cases xt:k<k0
  ·have ei:decide (l.T=Ms[k])=false:=decide_eq_false fun e=>HKN.o k aG xt e.symm;rw[ei]at pH;generalize Ms[k]=L at*;have zP:=kH (k:=k) (by omega);clear ei;go_wp2_with fail
   refine pH.o.mono ?_;rintro e w2⟨rfl,q,rfl⟩;clear x1 x2 x3;go_wp2_with fail
   go_roundw
   case rel=>exact⟨k+1,by omega,by simp[zP],hH.drewN q,hg.drewN q⟩
   case measure=>first|exact rj zP aG|exact rj rfl aG
  ·obtain rfl:k=k0:=by omega
   have heq:=HKE.o;rw[heq,decide_eq_true rfl]at pH;generalize Ms[k]=L at*;subst heq;clear HKN;go_wp2_with fail
   refine pH.o.mono ?_;rintro e w2⟨rfl,q,rfl⟩;have aB:=hH.drewN q;have cY:=hg.drewN q;generalize wr.drewN q=w2 at*;have bM:=aB.alloc (.cells #[.slice A2 l.T.length c2] 70);have cJ:=cY.alloc (.cells #[.slice A2 l.T.length c2] 70);have hrt:mR (.pointer (some ⟨w2.heap.size,0,none⟩)) l.T ((w2.heap.size,.cells #[.slice A2 l.T.length c2] 70)::He):=⟨HI.o.1,HI.o.2.1,by have:=HI.o.2.2;omega,_,_,He,rfl,HE.o,rfl⟩;obtain⟨H3,Sv,bz⟩:=HM.o.ahJ hrt;obtain⟨aD,f0,Wu,u0,y0⟩:=bz (w2.alloc (.cells #[.slice A2 l.T.length c2] 70)) (Hl++Fr) bM.p;have cf:=cJ.setCell ⟨mb,0,none⟩ (.pointer (some ⟨w2.heap.size,0,none⟩));have Tb:=aa Sv;clear x1 x2 x3 hH hg bM cJ hrt bz aB cY Sv pH HM HE HGM;go_upto_region 7 with fail
   generalize(w2.alloc (.cells #[.slice A2 l.T.length c2] 70)).setCell ⟨mb,0,none⟩ (.pointer (some ⟨w2.heap.size,0,none⟩))=w3 at*;clear f0 Wu y0;obtain⟨tv,Dk⟩:=Tb.o.copied;obtain⟨z0,Dk⟩:=Dk w3 (Hl++Fr) aD;have Ll:=aa Dk;clear Dk aD;go_wp2_with fail
   refine Ll.o.mono ?_;rintro e w4⟨v4,AU,rfl,j9,aU,bV⟩;have oc:=uj.one j9 (gb:=w4.heap.size);have bM:=aU.alloc (.cells #[v4] 42);have cJ:=(cf.trans bV).alloc (.cells #[v4] 42);obtain⟨H5,hm5,bz⟩:=Tb.o.P5 oc;obtain⟨bg,f1,jj,u1,y1⟩:=bz (w4.alloc (.cells #[v4] 42)) (Hl++Fr) bM.p;have eY:=cJ.setCell ⟨mb,1,none⟩ (.slice (some ⟨w4.heap.size,0,none⟩) 1 1);obtain⟨A4',c4',rfl⟩:=j9.val;have HM5:=aa hm5;obtain⟨_,_,ahP⟩:=hm5.getM;have iJ:=aa fun(wx:World) (F:HL) (hx:Holds wx (H5++F))=>aS (ahP wx F hx).2.1 trivial;clear oc bM cJ bz j9 aU bV hm5 ahP Ll Tb z0 cf;go_upto_region 8 with fail
   generalize(w4.alloc (.cells #[.slice A4' l.T.length c4'] 42)).setCell ⟨mb,1,none⟩ (.slice (some ⟨w4.heap.size,0,none⟩) 1 1)=w5 at*;clear f1 jj y1;refine aF (fun wx=>wx.cell? ⟨mb,2,none⟩=some (.string (cq l.name))∧True) 8 (by kernel_rfl) (fun w1 hd=>iJ.o _ (Hl++Fr) (bg.dr hd)) (fun w1 hd hs=>?_);have dZ:=bg.dr hd;have iZ:=eY.trans (af.dr hd);clear hd bg eY;refine dY 0 2 3 4 ?_;refine ji 5 ?_;refine Zm 1 fun K hK=>?_;go_simp;refine(SQ.o w1 (H5++Fr) dZ.p).mono ?_;rintro e w6 ⟨rfl,rfl⟩;refine hK _ _ (iJ.o _ (Hl++Fr) dZ) (fun _=>?_);clear hK K hs;rename_i hs;refine qL 6 7 ?_;refine Ze ?_;go_wp2_with fail
   go_ret;exact⟨by simp,H5,HM5.o,dZ,iZ⟩
theorem La{Hl:HL}(h:ek mb l.name T Ms H)(hl:aT b sb l Hl)(hH:Holds w (H++(Hl++Fr)))(oY:l.T∈Ms)(hi:eU l.T)(hn:∀e∈l.T,0<=e.addr)(hlen:l.T.length<=1000)(hMs:Ms.length<=2000):
  Calls Tryz.prog 77 #[.pointer (some ⟨mb,0,none⟩),.pointer (some ⟨b,0,none⟩)] w (aay mb l.name l.T w (Hl++Fr)):=by
 have HF:=aa (rE h hl hH oY hi hn hlen hMs);clear h hl hH oY hi hn hlen hMs;go_enter func77,ntmps77;go_wp2_with fail
 refine HF.o.mono ?_;rintro e w1⟨rfl,H',hm,ax,aK⟩;go_wp2_with fail
 go_ret;exact⟨rfl,H',hm,ax,aK⟩
end
end Go.Proofs.YtalnifciidblkaaGreatDoor
