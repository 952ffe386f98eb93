/-
  Lemmas.
-/
import Derived.Test.YtalnifciidblkaaGreatDoorG12
import Derived.Test.YtalnifciidblkaaGreatDoorG16
namespace Go.Proofs.YtalnifciidblkaaGreatDoor
open _root_.Go.Proofs.Tryz
open Go.RowKit
set_option linter.unusedSimpArgs false
set_option linter.unusedVariables false
set_option maxRecDepth 20000
set_option maxHeartbeats 4000000
theorem iw.ads{pv:Value}{ps:List (List UInt8)}{H:HL}(h:iw pv ps H){i n:Nat}(hi:i<ps.length)(hn:ps[i].length=n)(uZ:0<n):
  ∃gp cp A q,pv=.slice (some ⟨gp,0,none⟩) ps.length cp∧q<=maxLen∧cp<=maxLen∧ps.length<=cp∧n<=q∧(∀(w:World) (F:HL),Holds w (H++F)->w.cell? ⟨gp,i,none⟩=some (.slice (some ⟨A,0,none⟩) n q))∧
  ∀(w:World) (F:HL) (src:Value) (m:Nat) (bs:List UInt8),Holds w (H++F)->ag w 1 src m (bs.map bh)->m<=n->
   ∃w' H',(Builtin.copy_ #[60,60] 3 #[.slice (some ⟨A,0,none⟩) n q,src]).run Tryz.prog w=.ok (.int .i64 (m:Int)) w'∧
    iw pv (ps.set i (bs++ps[i].drop m)) H'∧Holds w' (H'++F)∧af w w':=by
 have hpi:ps[i]?=some ps[i]:=bF hi;obtain⟨gp,cp,cs,Hi,Hr2,rfl,ff,gT,_,bm,⟨v,rfl,Iq⟩,ae,fg,UG,_⟩:=eK.sC h hpi;have TR:=Iq;generalize ps[i]=old at*;rcases TR.2 with⟨_,h0,_⟩|⟨A,q,cur,fz,rfl,DI,FL,hq3,oT,DG,rfl⟩
 ·omega
 ·rw[hn]at DI oT;refine⟨gp,cp,A,q,rfl,FL,gT,by omega,DI,fun w F hH=>?_,fun w F src m bs hH nP hm=>?_⟩
  ·have h2:=fg w _ hH;have e0:=((ae w _ h2.right).2 0 (by omega)).1;rw[hn]at e0;simpa using e0
  ·have h2:=fg w _ hH;have jq:bs.length=m:=by have:=nP.1;simpa using this
   have DS:min m n=m:=by omega
   have Bm:=pB (P:=Tryz.prog) 60 60 3 5 ee.under (by kernel_rfl) (g:=A) (off:=0) (dLen:=n) (dCap:=q) (h2.get (dC)) DG nP (by omega) (by intro y hy;obtain⟨z,_,rfl⟩:=List.mem_map.1 hy;rfl);rw[DS]at Bm;have bz:=Holds.pw (w:=w) (b:=A) (cs:=cur) (t:=5) (fz:=fz) (H:=Hr2++F) h2 (cur.toList.take 0++(bs.map bh).take m++cur.toList.drop (0+m)).toArray;have fT:(cur.toList.take 0++(bs.map bh).take m++cur.toList.drop (0+m)).toArray.size=cur.size:=by simp;omega
   have qP:(bs++old.drop m).length=n:=by simp[jq,hn];omega
   have zT:ar (.slice (some ⟨A,0,none⟩) n q) (bs++old.drop m) [(A,.cells (cur.toList.take 0++(bs.map bh).take m++cur.toList.drop (0+m)).toArray 5 fz)]:=by
    unfold ar;rw[qP];refine⟨by simp[jq,hn];omega,.inr ⟨A,q,_,fz,rfl,DI,FL,by rw[fT];exact hq3,?_,by rw[fT];exact DG,rfl⟩⟩;show List.take (n*1) (cur.toList.take 0++(bs.map bh).take m++cur.toList.drop (0+m))=(bs++old.drop m).map bh;have e1:(bs.map bh).take m=bs.map bh:=gU (by simp;omega);rw[List.take_zero,jS,fp,e1,jc,List.take_append,gU (by simp;omega),dm];congr 1;rw[bY,jq,List.map_drop,<-oT,jc,List.drop_take]
   obtain⟨H3,Oc,aD⟩:=UG _ F (bs++old.drop m) _ ⟨_,rfl,by rw[hn];exact zT⟩ (by simpa using bz);exact⟨_,H3,Bm,Oc,by simp only[List.take_zero,jS,fp];exact aD,(af.refl w).setRow _ _⟩
def mw(ps:List (List UInt8))(j n:Nat)(u:UInt8):List (List UInt8):=List.replicate j (List.replicate n u)++ps.drop j
theorem KD{ps:List (List UInt8)}{j n:Nat}{u:UInt8}(h:j<ps.length):(mw ps j n u).set j (List.replicate n u)=mw ps (j+1) n u:=by
 unfold mw;rw[nF h,List.set_append_right _ _ (by simp),gV,qg,List.set_cons_zero,List.replicate_succ',cE];rfl
theorem MQ{ps:List (List UInt8)}{j n:Nat}{u:UInt8}(h:j<ps.length)(h2:j<(mw ps j n u).length):(mw ps j n u)[j]=ps[j]:=by
 simp[mw]
theorem D9{ps:List (List UInt8)}{j n:Nat}{u:UInt8}(h:j<=ps.length):(mw ps j n u).length=ps.length:=by
 unfold mw;simp;omega
theorem MR{ps:List (List UInt8)}{n:Nat}{u:UInt8}:mw ps ps.length n u=List.replicate ps.length (List.replicate n u):=by
 unfold mw;simp
def YF(pv:Value)(ps:List (List UInt8))(n:Nat)(u:UInt8)(w:World)(B:HL)(iv:Value)(wr:World):Prop:=
 ∃(j:Nat) (Hp F2:HL),j<=ps.length∧iv=.int .i64 j∧iw pv (mw ps j n u) Hp∧Holds wr (Hp++(F2++B))∧af w wr
def kC(c:CM)(m:Mi)(k:Nat)(x:CB):CM×Int:=
 if m.kind=2 then(if x.failed=true then({c with on:=false},4)else({c.db k {x with ad:=List.replicate c.P (List.replicate (c.Z+28) m.fill),next:=if m.fill=255 then 0 else(c.P:Int),df:=x.df+1}with on:=false},4))
 else if m.kind=1∨x.failed=true then(c.db k {x with failed:=true},5)
 else(c.db k {x with ad:=gQ c.P c.Z,next:=0,df:=x.df+1},0)
def CM.erase(c:CM)(k:Nat)(x:CB):CM×Int:=
 let r:=c.jE true
 if r.2.2≠0 then(r.1,r.2.2)else if x.mark=true then r.1.ord r.2.1 false else kC r.1 r.2.1 k x
def anj(Fr:HL)(v:Value)(ws:List Int):Prop:=∀w,Holds w Fr->sF w v ws
def aac(w:World)(v:Value)(cs:List Bool):Prop:=ag w 1 v cs.length (cs.map Value.bool)
def ai4(Fr:HL)(v:Value)(cs:List Bool):Prop:=∀w,Holds w Fr->aac w v cs
def ga(cs:List Bool)(k:Nat):List Int:=((List.range k).filter fun i=>cs.getD i false).map fun i:Nat=>(i:Int)
theorem GX(cs:List Bool)(k:Nat)(h:k<cs.length):ga cs (k+1)=if cs[k]then ga cs k++[(k:Int)]else ga cs k:=by
 unfold ga;rw[ub,oA];cases hk:cs[k]<;>simp[hk,bF h,qf]
theorem sO(cs:List Bool)(k:Nat):(ga cs k).length<=k:=by
 unfold ga;rw[bY];have:=mU (fun i=>cs.getD i false) (List.range k);simpa using this
theorem pC{cs:List Bool}{k:Nat}{x:Int}:x∈ga cs k↔∃i:Nat,x=i∧i<k∧cs.getD i false=true:=by
 unfold ga;rw[List.mem_map];constructor
 ·rintro⟨i,hi,rfl⟩;obtain⟨h1,h2⟩:=List.mem_filter.1 hi;exact⟨i,rfl,List.mem_range.1 h1,h2⟩
 ·rintro⟨i,rfl,h1,h2⟩;exact⟨i,List.mem_filter.2 ⟨List.mem_range.2 h1,h2⟩,rfl⟩
def pU(ws:List Int)(cs:List Bool):List Int:=jd (DV ws) (ga cs cs.length)
def ai5(cs:List Bool)(w:World)(Fr:HL)(out i:Value)(wr:World):Prop:=
 ∃(k:Nat) (H:HL),k<=cs.length∧i=.int .i64 k∧aZ out (ga cs k) H∧Holds wr (H++Fr)∧af w wr
theorem QT(wsv cv:Value)(ws:List Int)(cs:List Bool)(w:World)(Fr:HL)(hw:anj Fr wsv ws)(hc:ai4 Fr cv cs)(hH:Holds w Fr)(hl:ws.length=cs.length)(kJ:cs.length<20):
  Calls Tryz.prog 193 #[wsv,cv] w (cB (fun v H=>aZ v (pU ws cs) H) w Fr):=by
 have HCB:=aa hc;obtain⟨_,A,c,rfl,ff,gT,ha⟩:=hc w hH;obtain⟨_,A1,c1,rfl,Zc,Io,_⟩:=hw w hH;unfold maxLen at gT Io;have ax:=hH.alloc (.cells #[.slice A1 ws.length c1] 80);have aK:=(af.refl w).alloc (.cells #[.slice A1 ws.length c1] 80);have x0:=ax.ae 0;have TU:Zh (UL w.heap.size (DV ws) (ga cs cs.length) ((w.heap.size,.cells #[.slice A1 ws.length c1] 80)::Fr)):=aa (by
  intro x hx y hy wx hX;obtain⟨i,rfl,hi,_⟩:=pC.1 hx;obtain⟨j,rfl,hj,_⟩:=pC.1 hy;exact MV i j w.heap.size (.slice A1 ws.length c1) ws wx (hX.ae 0) (hw wx hX.tail) (by omega) (by omega))
 obtain⟨n,hn⟩:∃n,n=cs.length:=⟨_,rfl⟩;have HN:=aa hn;rw[hl,<-hn]at ax aK x0 TU Zc⊢;rw[<-hn]at ff kJ ha;have HA:=aa ha;have HX0:=aa (fun(wx:World) (X:HL) (hX:Holds wx (X++((w.heap.size,.cells #[.slice A1 n c1] 80)::Fr)))=>hX.right.ae 0);have HOW:=aa (show pU ws cs=jd (DV ws) (ga cs cs.length)from rfl);rw[<-hn]at HOW;clear ha hn hw hc hH;generalize pU ws cs=res at*;go_enter func193,ntmps193;go_wp2_with fail
 generalize w.alloc (.cells #[.slice A1 n c1] 80)=w1 at*;generalize w.heap.size=g at*;go_loopw [5,15] (fun out i wr=>ai5 cs w ((g,.cells #[.slice A1 n c1] 80)::Fr) out i wr) (fun _ i _=>n-(intOf i).toNat)
 case atStart=>exact⟨0,[],by omega,rfl,au.nil _ _,ax,aK⟩
 case round=>
  clear x0 ax aK;obtain⟨k,H,hk,rfl,hz,aB,aX⟩:=hrel;rw[<-HN.o]at hk;have HZ:=aa hz;clear hz;by_cases aG:k<n
  ·have mQ:k<cs.length:=by rw[<-HN.o];exact aG
   obtain⟨b,o,rfl,bm⟩:=HA.o (by omega);have hCw:=HCB.o wr aB.right.tail;have LH:wr.cell? ⟨b,o+k,none⟩=some (.bool cs[k]):=by
    obtain⟨_,A',c',xD,_,_,ha'⟩:=hCw;injection xD with e1 _ _;obtain⟨b',o',e2,DE⟩:=ha' (by omega);rw[e2]at e1;injection e1 with e1;injection e1 with e1 e3;subst e1 e3;exact DE k _ (by rw[dW,bF mQ];rfl)
   have HT:=aa (GX cs k mQ);have nW:=aa (sO cs k);clear bm hCw;generalize cs[k]=bb at*;cases bb with
   |true=>
    go_wp2_with (at_builtin;refine al ud (by rfl) (.tmp 21) (.tmp 23) (by rfl) (by rfl) (by rfl) HZ.o (aB.bP _) ag.one (by simp[Value.oneCell']) (by have:=nW.o;simp only[maxLen];omega) (by have:=nW.o;omega) ?_;intro A' c' w' H' ay aD bj)
    go_roundw
    case rel=>
     refine⟨k+1,H',by rw[<-HN.o];omega,by go_num,?_,aD,(aX.alloc _).trans bj⟩;rw[HT.o,if_pos rfl];unfold aZ;rw[aY,dm];exact ay
    case measure=>simp only[intOf];omega
   |false=>
    go_wp2_with fail
    go_roundw
    case rel=>
     refine⟨k+1,H,by rw[<-HN.o];omega,by go_num,?_,aB,aX⟩;rw[HT.o,if_neg (by decide)];exact HZ.o
    case measure=>simp only[intOf];omega
  ·have qO:k=n:=by omega
   subst qO;have kV:=aa (MX _ (ga cs k) g (DV ws) wr H _ HZ.o aB TU.o (by have:=sO cs k;omega));obtain⟨Ao,co,rfl⟩:=HZ.o.val;generalize(ga cs k).length=lo at*;clear HA;go_wp2_with fail
   refine kV.o.mono ?_;rintro e w3⟨rfl,H3,Om,aD,bj⟩;have HZ3:=aa Om;have bV:=aX.trans bj;have dN:Holds w3 (H3++Fr):=Holds.DD (B:=[_]) aD;clear Om bj aD;go_wp2_with fail
   go_ret;rw[HOW.o];exact⟨_,H3,rfl,HZ3.o,dN,bV⟩
end Go.Proofs.YtalnifciidblkaaGreatDoor
