/-
  Lemmas.
-/
import Derived.Test.YtalnifciidblkaaGreatDoorG29
import Derived.Test.YtalnifciidblkaaGreatDoorG17
import Derived.Test.YtalnifciidblkaaGreatDoorG11
import Derived.Test.YtalnifciidblkaaGreatDoorG00
import Derived.BigQuiet
import Derived.Test.YtalnifciidblkaaGreatDoorG20
import Derived.Test.YtalnifciidblkaaGreatDoorG04
namespace Go.Proofs.YtalnifciidblkaaGreatDoor
open _root_.Go.Proofs.Tryz
open Go.RowKit
set_option linter.unusedSimpArgs false
set_option linter.unusedVariables false
set_option maxRecDepth 100000
set_option maxHeartbeats 4000000
theorem ajj:∀x:Fin 256,bits BinOp.or IntKind.u8 (x.val:Int) 128=((x.val%128+128:Nat):Int):=by decide+kernel
theorem Vk:∀x:Fin 256,bits BinOp.and IntKind.u8 (x.val:Int) 127=((x.val%128:Nat):Int):=by decide+kernel
theorem Kc(m:Nat):Value.int .u8 (bits BinOp.or IntKind.u8 (IntKind.u8.wrap (m:Int)) 128)=bh (UInt8.ofNat (m%128+128)):=by
 have h:=ajj ⟨m%256,by omega⟩;have e:IntKind.u8.wrap (m:Int)=((m%256:Nat):Int):=by rw[IntKind.wrap_u8];omega
 rw[e,h];unfold bh;congr 1;simp only[vQ];omega
theorem GN{m:Nat}(h:m<=127):Value.int .u8 (m:Int)=bh (UInt8.ofNat m):=by
 unfold bh;congr 1;simp only[vQ];omega
theorem ar.snoc{v:Value}{bs:List UInt8}{H:HL}{u:Value}{x:UInt8}(h:au 5 1 v (bs.length+1) (bs.map bh++[u]) H)(hu:u=bh x):ar v (bs++[x]) H:=by
 unfold ar;rw[aY,dm,List.map_singleton,<-hu];exact h
def XY(bs:List UInt8)(n0:Nat)(w:World)(Fr:HL)(nv out:Value)(wr:World):Prop:=
 ∃(f m:Nat) (pre:List UInt8) (H:HL),f<=9∧m<128^(f+1)∧m<=n0∧nv=.int .u64 (m:Int)∧ar out (bs++pre) H∧pre++jt f m=jt 9 n0∧pre.length+f<=9∧Holds wr (H++Fr)∧af w wr
theorem qs(v:Value)(bs:List UInt8)(n:Int)(w:World)(Fr:HL)(hb:aJ w v bs)(hH:Holds w Fr)(h0:0<=n)(h1:n<18446744073709551616)(kJ:bs.length<=100000):
  Calls Tryz.prog 102 #[v,.int .u64 n] w (cB (fun v H=>ar v (bs++dH n) H) w Fr):=by
 have HC:=aa (lf v bs w Fr hb hH (by omega));obtain⟨A,c,rfl⟩:=hb.val;obtain⟨n0,rfl⟩:=Int.eq_ofNat_of_zero_le h0;have HN:=aa (show n0<18446744073709551616 by omega);clear hb hH h0 h1;go_enter func102,ntmps102;go_wp2_with fail
 refine HC.o.mono ?_;rintro e w1⟨v1,H1,rfl,jj,ax,aK⟩;have bD:XY bs n0 w Fr (.int .u64 n0) v1 w1:=⟨9,n0,[],H1,by omega,Cl HN.o,aN _,rfl,by simpa using jj,rfl,by simp,ax,aK⟩;clear HC jj ax aK;go_wp2_with fail
 go_loopw [1,5] (fun nv out wr=>XY bs n0 w Fr nv out wr) (fun nv _ _=>(intOf nv).toNat)
 case atStart=>exact bD
 case round=>
  clear bD;obtain⟨f,m,pre,H,hf,hm,S6,rfl,hb,hp,ik,hH,hg⟩:=hrel;have HB:=aa hb;have HL:=aa (show(bs++pre).length<=200000 by rw[aY];omega);by_cases h:127<m
  ·have hI:(127:Int)<(m:Int):=by omega
   obtain⟨g,rfl,si⟩:=GM h hm;rw[Ck h]at hp;have HP:=aa (show(pre++[UInt8.ofNat (m%128+128)])++jt g (m/128)=jt 9 n0 by rw[<-hp,cE];rfl);have HM:=aa (aS si S6);have Dx:(m:Int)/2^7=((m/128:Nat):Int):=by omega
   clear hp hm si hb S6;go_wp2_with (at_builtin;refine al ee (by rfl) (.tmp 12) (.tmp 16) (by rfl) (by rfl) (by rfl) HB.o (hH.bP _) ag.one (by simp[Value.oneCell']) (by have:=HL.o;simp only[maxLen];omega) (by have:=HL.o;omega) ?_;intro A' c' w' H' ay aB aX)
   refine⟨⟨g,m/128,pre++[UInt8.ofNat (m%128+128)],H',by omega,HM.o.1,by have:=HM.o.2;omega,congrArg (Value.int .u64) (by omega),?_,HP.o,by simp;omega,aB,(hg.alloc _).trans aX⟩,by simp[intOf];omega⟩;rw[<-cE];rw[aY]at ay;exact ar.snoc (by rw[aY];exact ay) (Kc m)
  ·have hI:¬(127:Int)<(m:Int):=by omega
   have tT:m<=127:=by omega
   rw[Cj tT]at hp;have HP:=aa hp;clear hp hm S6 hb;go_wp2_with (at_builtin;refine al ee (by rfl) (.tmp 18) (.tmp 21) (by rfl) (by rfl) (by rfl) HB.o (hH.bP _) ag.one (by simp[Value.oneCell']) (by have:=HL.o;simp only[maxLen];omega) (by have:=HL.o;omega) ?_;intro A' c' w' H' ay aB aX)
   go_ret;refine⟨_,H',rfl,?_,aB,(hg.alloc _).trans aX⟩;show ar _ (bs++jt 9 n0) H';rw[<-HP.o,<-cE];rw[aY]at ay;exact ar.snoc (by rw[aY];exact ay) (GN tT)
theorem anL(i:Nat):(2:Int)^(7*i)=((128^i:Nat):Int):=by rw[Int.pow_mul,Int.natCast_pow];rfl
theorem Vl{acc low i:Nat}{L:Int}(h:acc<128^i)(hL:L=(low:Int))(hb:low*128^i+acc<18446744073709551616)(hl:low<18446744073709551616):
  bits BinOp.or IntKind.u64 (acc:Int) (IntKind.u64.wrap (IntKind.u64.wrap L*2^(7*i)))=((low*128^i+acc:Nat):Int):=by
 have e1:IntKind.u64.wrap L=(low:Int):=by rw[hL,IntKind.wrap_u64];omega
 have h2:(128:Nat)^i=2^(7*i):=by rw[Nat.pow_mul]
 rw[e1,anL,<-Int.natCast_mul];generalize hq:low*128^i=q at*;have e2:IntKind.u64.wrap (q:Int)=(q:Int):=by rw[IntKind.wrap_u64];omega
 rw[e2,bits_or_u64_nat _ _ (by omega) (by omega)];congr 1;have h3:=Nat.two_pow_add_eq_or_of_lt (i:=7*i) (b:=acc) (by rw[<-h2];exact h) low;rw[<-h2,Nat.mul_comm,hq]at h3;rw[Nat.or_comm,<-h3]
theorem adW(m:Nat):bits BinOp.and IntKind.u8 ((m:Int)%128+128) 127=((m%128:Nat):Int):=by
 have:=Vk ⟨m%128+128,by omega⟩;have e:(((m%128+128:Nat)):Int)=(m:Int)%128+128:=by omega
 rw[<-e,this];congr 1;show(m%128+128)%128=m%128;omega
theorem adX{m:Nat}(h:m<=127):bits BinOp.and IntKind.u8 (m:Int) 127=(m:Int):=by
 have:=Vk ⟨m,by omega⟩;rw[this];congr 1;show m%128=m;omega
def acp(n0:Nat)(bs tl:List UInt8)(w:World)(nv iv:Value)(wr:World):Prop:=
 ∃(i f m acc:Nat),i+f=9∧m<128^(f+1)∧(0<i->1<=m)∧n0=m*128^i+acc∧acc<128^i∧bs.drop i=jt f m++tl∧nv=.int .u64 (acc:Int)∧iv=.int .i64 (i:Int)∧wr=w
theorem drop_cons{bs t:List UInt8}{i:Nat}{x:UInt8}(h:bs.drop i=x::t):∃hi:i<bs.length,bs[i]=x∧bs.drop (i+1)=t:=by
 have hi:i<bs.length:=by
  rcases Nat.lt_or_ge i bs.length with h1|h1
  ·exact h1
  ·rw[BN h1]at h;exact absurd h (by simp)
 rw[nF hi]at h;injection h with h1 h2;exact⟨hi,h1,h2⟩
theorem VV(v:Value)(n0:Nat)(tl:List UInt8)(w:World)(Fr:HL)(hb:aJ w v (dH n0++tl))(hH:Holds w Fr)(h1:n0<18446744073709551616)(kJ:(dH n0++tl).length<=100000):
  Calls Tryz.prog 227 #[v] w fun e w'=>∃v' H',e=.returned (.tuple #[.int .u64 (n0:Int),v',.bool true])∧ar v' tl H'∧Holds w' (H'++Fr)∧af w w':=by
 obtain⟨bs,Lj⟩:∃bs,bs=dH n0++tl:=⟨_,rfl⟩;rw[<-Lj]at hb kJ;have HB:=aa hb;obtain⟨_,A,c,rfl,ff,gT,ha⟩:=hb;have HA:=aa ha;have bD:acp n0 bs tl w (.int .u64 0) (.int .i64 0) w:=⟨0,9,n0,0,rfl,Cl h1,by omega,by simp,by simp,by rw[List.drop_zero,Lj];rfl,rfl,rfl,rfl⟩;have HN:=aa h1;clear ha Lj h1;go_enter func227,ntmps227;go_wp2_with fail
 go_loopw [5,11] (fun nv iv wr=>acp n0 bs tl w nv iv wr) (fun _ i _=>bs.length-(intOf i).toNat)
 case atStart=>exact bD
 case round=>
  clear bD;obtain⟨i,f,m,acc,hif,hm,xC,hn,XZ,IG,rfl,rfl,rfl⟩:=hrel;have hi9:¬(9:Int)<(i:Int):=by omega
  by_cases h:127<m
  ·obtain⟨g,rfl,si⟩:=GM h hm;rw[Ck h,tZ]at IG;obtain⟨aG,hx,Io⟩:=drop_cons IG;obtain⟨b,o,rfl,bm⟩:=HA.o (by omega);have vp:wr.cell? ⟨b,o+i,none⟩=some (.int .u8 ((m%128+128:Nat):Int)):=by
    have:=bm i _ (by rw[dW,bF aG];rfl);rw[this,hx];unfold bh;congr 2;simp only[vQ];omega
   have dQ:(i:Int)<bs.length:=by omega
   have hi8:((i:Int)==9)=false:=beq_eq_false_iff_ne.2 (by omega);have hA:=adW m;obtain⟨L,hL⟩:∃L,L=bits BinOp.and IntKind.u8 ((m:Int)%128+128) 127:=⟨_,rfl⟩;have hL1:L=((m%128:Nat):Int):=by rw[hL,hA]
   have It:=aa (Vl (acc:=acc) (low:=m%128) (i:=i) (L:=L) XZ hL1 (by
    have:=HN.o;have h5:m%128*128^i<=m*128^i:=kY _ (Nat.mod_le _ _);omega) (by omega))
   have HL:=aa hL;have fj:=aa (show acp n0 bs tl wr (.int .u64 ((m%128*128^i+acc:Nat):Int)) (.int .i64 ((i:Int)+1)) wr from
    ⟨i+1,g,m/128,m%128*128^i+acc,by omega,si,by omega,by rw[MG];rw[hn];have:=Nat.div_add_mod m 128;generalize 128^i=Q at*;generalize m/128=a at*;generalize m%128=b at*;rw[<-this,nH,Nat.mul_comm Q 128,<-Nat.mul_assoc,Nat.mul_comm a 128];omega,by rw[MG];have:m%128<128:=Nat.mod_lt _ (by omega);generalize 128^i=Q at*;generalize m%128=b at*;have h6:b*Q+Q<=128*Q:=by{rw[<-Nat.succ_mul];exact kY _ this};omega,Io,rfl,by simp,rfl⟩)
   clear IG hm bm hA hL hL1 XZ hn si Io hx xC;go_wp2_with fail
   rw[<-HL.o,It.o];refine⟨fj.o,by simp[intOf];omega⟩
  ·have tT:m<=127:=by omega
   rw[Cj tT,tZ,jS]at IG;obtain⟨aG,hx,Io⟩:=drop_cons IG;obtain⟨b,o,rfl,bm⟩:=HA.o (by omega);have vp:wr.cell? ⟨b,o+i,none⟩=some (.int .u8 (m:Int)):=by
    have:=bm i _ (by rw[dW,bF aG];rfl);rw[this,hx];unfold bh;congr 2;simp only[vQ];omega
   have dQ:(i:Int)<bs.length:=by omega
   have hA:=adX tT;have u7:IntKind.u64.wrap (m:Int)=m:=by rw[IntKind.wrap_u64];omega
   have It:=aa (Vl (acc:=acc) (low:=m) (i:=i) (L:=(m:Int)) XZ rfl (by have:=HN.o;omega) (by omega));rw[<-hn]at It;have UU:=HB.o.drop (k:=i+1) aG;rw[Io]at UU;have aoY:(m:Int)<128:=by omega
   have h91:((i:Int)==9)=true->¬(1:Int)<(m:Int):=by
    intro h9;have:i=9:=by have:=of_decide_eq_true h9;omega
    subst this;have:=HN.o;have h7:(128:Nat)^9=9223372036854775808:=by decide
    rw[h7]at hn;omega
   have Zf:((m:Int)==0)=true->¬(0:Int)<(i:Int):=by
    intro h9;have:=of_decide_eq_true h9;omega
   have HC:=aa (fun(v':Value) (hx:aJ wr v' tl)=>lf v' tl wr Fr hx hH (by rw[<-Io];simp;omega));clear IG hm bm XZ hn hx xC h;have hiw:IntKind.i64.wrap ((i:Int)+1)=((i+1:Nat):Int):=by rw[IntKind.wrap_i64];omega
   have auM:((i+1:Nat):Int)<=(bs.length:Int):=by omega
   have Xx:=aa hA;have vv:=aa UU;have Sz:=aa Io;clear hA UU Io;cases h9:((i:Int)==9)
   ·cases h0:((m:Int)==0)
    ·clear h91 Zf;go_wp2_with fail
     ·have hz:bs.length-(i+1)=0:=by omega
      have ht:tl=[]:=by rw[<-Sz.o];exact jW (by simp;omega)
      subst ht;rw[hz];refine(HC.o _ (aJ.nK (by simp[maxLen]))).mono ?_;rintro e w2⟨v2,H2,rfl,fZ,aB,aX⟩;go_wp2_with fail
      go_ret3
      exact⟨v2,H2,congrArg (fun z=>Ending.returned (.tuple #[.int .u64 z,v2,.bool true])) (by rw[Xx.o,It.o]),fZ,aB,aX⟩
     ·refine(HC.o _ vv.o).mono ?_;rintro e w2⟨v2,H2,rfl,fZ,aB,aX⟩;go_wp2_with fail
      go_ret3
      exact⟨v2,H2,congrArg (fun z=>Ending.returned (.tuple #[.int .u64 z,v2,.bool true])) (by rw[Xx.o,It.o]),fZ,aB,aX⟩
    ·have h02:=Zf h0;clear h91 Zf;go_wp2_with fail
     ·have hz:bs.length-(i+1)=0:=by omega
      have ht:tl=[]:=by rw[<-Sz.o];exact jW (by simp;omega)
      subst ht;rw[hz];refine(HC.o _ (aJ.nK (by simp[maxLen]))).mono ?_;rintro e w2⟨v2,H2,rfl,fZ,aB,aX⟩;go_wp2_with fail
      go_ret3
      exact⟨v2,H2,congrArg (fun z=>Ending.returned (.tuple #[.int .u64 z,v2,.bool true])) (by rw[Xx.o,It.o]),fZ,aB,aX⟩
     ·refine(HC.o _ vv.o).mono ?_;rintro e w2⟨v2,H2,rfl,fZ,aB,aX⟩;go_wp2_with fail
      go_ret3
      exact⟨v2,H2,congrArg (fun z=>Ending.returned (.tuple #[.int .u64 z,v2,.bool true])) (by rw[Xx.o,It.o]),fZ,aB,aX⟩
   ·have h92:¬(1:Int)<IntKind.u64.wrap (bits BinOp.and IntKind.u8 (m:Int) 127):=by rw[Xx.o,u7];exact h91 h9
    have h93:=h91 h9;have tI:((m:Int)==0)=false:=beq_eq_false_iff_ne.2 (fun h=>Zf (by simpa using h) (by have:=of_decide_eq_true h9;omega));clear h91 Zf;go_wp2_with fail
    ·have hz:bs.length-(i+1)=0:=by omega
     have ht:tl=[]:=by rw[<-Sz.o];exact jW (by simp;omega)
     subst ht;rw[hz];refine(HC.o _ (aJ.nK (by simp[maxLen]))).mono ?_;rintro e w2⟨v2,H2,rfl,fZ,aB,aX⟩;go_wp2_with fail
     go_ret3
     exact⟨v2,H2,congrArg (fun z=>Ending.returned (.tuple #[.int .u64 z,v2,.bool true])) (by rw[Xx.o,It.o]),fZ,aB,aX⟩
    ·refine(HC.o _ vv.o).mono ?_;rintro e w2⟨v2,H2,rfl,fZ,aB,aX⟩;go_wp2_with fail
     go_ret3
     exact⟨v2,H2,congrArg (fun z=>Ending.returned (.tuple #[.int .u64 z,v2,.bool true])) (by rw[Xx.o,It.o]),fZ,aB,aX⟩
def Nt.agg(n:Nt):Value:=.agg #[.bool n.gone,.int .u64 n.e.addr,.int .i64 n.e.aW,.bool n.e.bR,.int .i64 n.e.seq]
def yX(ns:List Nt):List Value:=(ns.map Nt.cells).flatten
def tm(w:World)(v:Value)(ns:List Nt):Prop:=ag w 5 v ns.length (yX ns)
def fM(v:Value)(ns:List Nt)(H:HL):Prop:=au 26 5 v ns.length (yX ns) H
def cU(Fr:HL)(v:Value)(ns:List Nt):Prop:=∀w,Holds w Fr->tm w v ns
def Nt.vg(n:Nt):Prop:=(0<=n.e.addr∧n.e.addr<18446744073709551616)∧(-9223372036854775808<=n.e.aW∧n.e.aW<=9223372036854775807)∧(-9223372036854775808<=n.e.seq∧n.e.seq<=9223372036854775807)
theorem Fo(n:Nt)(w:World)(Fr:HL)(hH:Holds w Fr):Calls Tryz.prog 98 #[n.agg] w (cM (.bool n.ok) w Fr):=by
 obtain⟨g,⟨a,p,d,s⟩⟩:=n;obtain⟨ok,cj⟩:∃ok,ok=Nt.ok ⟨g,⟨a,p,d,s⟩⟩:=⟨_,rfl⟩;rw[<-cj];have lR:=aa (show ok=(decide (1<=s)&&decide (s<=1099511627775)&&(if g then decide (p=0)&& !d else decide (0<=p)&&decide (p<=255)))from cj);clear cj;simp only[Nt.agg];cases g with
 |false=>
  have ax:=hH.alloc (.cells #[.bool false,.int .u64 a,.int .i64 p,.bool d,.int .i64 s] 26);have aK:=(af.refl w).alloc (.cells #[.bool false,.int .u64 a,.int .i64 p,.bool d,.int .i64 s] 26);have aB:=(ax.alloc (.cells #[.int .u64 a,.int .i64 p,.bool d,.int .i64 s] 24)).tail.tail;have aX:=aK.alloc (.cells #[.int .u64 a,.int .i64 p,.bool d,.int .i64 s] 24);clear hH ax aK;go_enter func98,ntmps98;go_wp2_with fail
  all_goals go_ret
  all_goals refine⟨?_,aB,aX⟩
  all_goals rw[lR.o]
  all_goals clear lR aB aX
  all_goals simp_all
  all_goals (intros;exfalso;omega)
 |true=>
  by_cases hp:p=0
  ·subst hp;have ax:=hH.alloc (.cells #[.bool true,.int .u64 a,.int .i64 0,.bool d,.int .i64 s] 26);have aK:=(af.refl w).alloc (.cells #[.bool true,.int .u64 a,.int .i64 0,.bool d,.int .i64 s] 26);have aB:=(ax.alloc (.cells #[.int .u64 a,.int .i64 0,.bool d,.int .i64 s] 24)).tail.tail;have aX:=aK.alloc (.cells #[.int .u64 a,.int .i64 0,.bool d,.int .i64 s] 24);clear hH ax aK;go_enter func98,ntmps98;go_wp2_with fail
   all_goals go_ret
   all_goals refine⟨?_,aB,aX⟩
   all_goals rw[lR.o]
   all_goals clear lR aB aX
   all_goals simp_all
   all_goals (intros;exfalso;omega)
  ·have DK:(p==0)=false:=beq_eq_false_iff_ne.2 hp;have ax:=hH.alloc (.cells #[.bool true,.int .u64 a,.int .i64 p,.bool d,.int .i64 s] 26);have aK:=(af.refl w).alloc (.cells #[.bool true,.int .u64 a,.int .i64 p,.bool d,.int .i64 s] 26);have aB:=(ax.alloc (.cells #[.int .u64 a,.int .i64 p,.bool d,.int .i64 s] 24)).tail.tail;have aX:=aK.alloc (.cells #[.int .u64 a,.int .i64 p,.bool d,.int .i64 s] 24);clear hH ax aK;go_enter func98,ntmps98;go_wp2_with fail
   all_goals go_ret
   all_goals refine⟨?_,aB,aX⟩
   all_goals rw[lR.o]
   all_goals clear lR aB aX
   all_goals simp_all
theorem Holds.note{w:World}{b:Nat}{g:Bool}{a p s:Int}{d:Bool}{H:HL}(h:Holds w ((b,.cells #[.bool g,.int .u64 a,.int .i64 p,.bool d,.int .i64 s] 26)::H)):
  w.cell? ⟨b,0,none⟩=some (.bool g)∧w.cell? ⟨b,1,none⟩=some (.int .u64 a)∧w.cell? ⟨b,2,none⟩=some (.int .i64 p)∧w.cell? ⟨b,3,none⟩=some (.bool d)∧w.cell? ⟨b,4,none⟩=some (.int .i64 s):=⟨h.ae 0,h.ae 1,h.ae 2,h.ae 3,h.ae 4⟩
theorem CU(n:Nt)(w:World)(Fr:HL)(hH:Holds w Fr)(iu:n.vg)(cj:n.ok=true):Calls Tryz.prog 101 #[n.agg] w (cB (fun v H=>ar v (dD n) H) w Fr):=by
 obtain⟨g,⟨a,p,d,s⟩⟩:=n;obtain⟨⟨AY,As⟩,hp,hs⟩:=iu;dsimp only at AY As hp hs;have tg:1<=s∧s<=1099511627775:=by
  unfold Nt.ok at cj;simp only[fW,decide_eq_true_eq]at cj;exact cj.1
 have Dz:g=false->0<=p∧p<=255:=by
  intro h;subst h;unfold Nt.ok at cj;simp only[fW,decide_eq_true_eq]at cj;simpa using cj.2
 clear cj hp hs;simp only[Nt.agg];have ax:=hH.alloc (.cells #[.bool g,.int .u64 a,.int .i64 p,.bool d,.int .i64 s] 26);have aK:=(af.refl w).alloc (.cells #[.bool g,.int .u64 a,.int .i64 p,.bool d,.int .i64 s] 26);have hws:IntKind.u64.wrap s=s:=by rw[IntKind.wrap_u64];omega
 go_enter func101,ntmps101;go_upto_region 1 with fail
 generalize w.alloc (.cells #[.bool g,.int .u64 a,.int .i64 p,.bool d,.int .i64 s] 26)=w1 at*;generalize w.heap.size=b at*;have dj:=aa (fun(wx:World) (F:HL) (h:Holds wx ((b,.cells #[.bool g,.int .u64 a,.int .i64 p,.bool d,.int .i64 s] 26)::F))=>h.note);have DY:aJ w1 (.slice none 0 0) []:=aJ.nK (by simp[maxLen]);clear hH DY;refine aF (fun wx=>wx.cell? ⟨b,0,none⟩=some (.bool g)∧wx.cell? ⟨b,1,none⟩=some (.int .u64 a)∧wx.cell? ⟨b,2,none⟩=some (.int .i64 p)∧wx.cell? ⟨b,3,none⟩=some (.bool d)∧wx.cell? ⟨b,4,none⟩=some (.int .i64 s)) 10 (by kernel_rfl) (fun w1 hd=>dj.o _ _ (ax.dr hd)) (fun w1 hd hs=>?_);have aB:=ax.dr hd;have cY:=aK.trans (af.dr hd);clear hd ax aK;refine dY 0 1 2 4 ?_;refine Ag 5 6 7 ?_;refine Zm 3 fun K hK=>?_;go_simp;refine(qs (.slice none 0 0) [] a w1 _ (aJ.nK (by simp[maxLen])) aB AY As (by simp)).mono ?_;rintro e w3 ⟨v3,H3,rfl,jF,aD,bj⟩;have vm:=aa jF;have cf:=cY.trans bj;have fU:Holds w3 ((b,.cells #[.bool g,.int .u64 a,.int .i64 p,.bool d,.int .i64 s] 26)::(H3++Fr)):=aD.p;clear jF aD aB bj cY;refine hK _ _ (dj.o _ _ fU) (fun _=>?_);clear hK K hs;rename_i hs;refine Zm 8 fun K hK=>?_;go_simp;refine(qs _ (dH a) s w3 _ (vm.o.at_ (Fr:=(b,.cells #[.bool g,.int .u64 a,.int .i64 p,.bool d,.int .i64 s] 26)::Fr) fU.p) fU (by omega) (by omega) (by have:=ie a;omega)).mono ?_;rintro e w4 ⟨v4,H4,rfl,pG,aU,bV⟩;have Du:=aa pG;have bI:=cf.trans bV;have lY:Holds w4 ((b,.cells #[.bool g,.int .u64 a,.int .i64 p,.bool d,.int .i64 s] 26)::(H4++Fr)):=aU.p;clear pG aU fU bV cf;refine hK _ _ (dj.o _ _ lY) (fun _=>?_);clear hK K hs;rename_i hs;refine ji 9 ?_;refine Ze ?_;obtain⟨y0,y1,y2,y3,y4⟩:=dj.o _ _ lY;have nW:=aa (show(dH a++dH s).length<=20 by have:=ie a;have:=ie s;rw[aY];omega);obtain⟨AS,XA⟩:∃AS,AS=dH a++dH s:=⟨_,rfl⟩;have HB:Zh (ar v4 AS H4):=aa (by rw[XA];exact Du.o);have HAS:=aa XA;rw[<-XA]at nW;obtain⟨A4,c4,rfl⟩:=HB.o.val;clear Du vm hs XA;cases g with
 |true=>
  go_wp2_with (at_builtin;refine al ee (by rfl) (.tmp 19) (.tmp 20) (by rfl) (by rfl) (by rfl) HB.o ((show Holds w4 (H4++((b,.cells #[.bool true,.int .u64 a,.int .i64 p,.bool d,.int .i64 s] 26)::Fr))from lY.p).bP _) ag.one (by simp[Value.oneCell']) (by have:=nW.o;simp only[maxLen];omega) (by have:=nW.o;omega) ?_;intro A' c' w' H' ay aB aX)
  go_ret;refine⟨_,H',rfl,?_,aB.p,(bI.alloc _).trans aX⟩;show ar _ ((dH a++dH s)++[0]) H';rw[<-HAS.o];exact ar.snoc ay rfl
 |false=>
  obtain⟨IK,rH⟩:=Dz rfl;have hwp:IntKind.u64.wrap p=p:=by rw[IntKind.wrap_u64];omega
  cases d with
  |true=>
   have hI4:Holds w4 (H4++((b,.cells #[.bool false,.int .u64 a,.int .i64 p,.bool true,.int .i64 s] 26)::Fr)):=lY.p;go_upto_region 7 with(at_builtin;refine al ee (by rfl) (.tmp 26) (.tmp 27) (by rfl) (by rfl) (by rfl) HB.o (hI4.bP _) ag.one (by simp[Value.oneCell']) (by have:=nW.o;simp only[maxLen];omega) (by have:=nW.o;omega) ?_;intro A' c' w' H' ay aB aX)
   have fy:Holds w' ((b,.cells #[.bool false,.int .u64 a,.int .i64 p,.bool true,.int .i64 s] 26)::(H'++Fr)):=aB.p;have mN:=(bI.alloc _).trans aX;have Ai:ar (.slice A' (AS.length+1) c') (AS++[2]) H':=ar.snoc ay rfl;have HV:=aa (qs (.slice A' (AS.length+1) c') (AS++[2]) p w' _ (Ai.at_ aB) fy (by omega) (by omega) (by have:=nW.o;simp;omega));obtain⟨z0,z1,z2,z3,z4⟩:=dj.o _ _ fy;clear y0 y1 y2 y3 y4 hI4 lY ay aB aX Ai;go_wp2_with fail
   refine HV.o.mono ?_;rintro e w8⟨v8,H8,rfl,sg,cT,ka⟩;go_wp2_with fail
   go_ret;refine⟨_,H8,rfl,?_,cT.p,mN.trans ka⟩;show ar _ ((dH a++dH s)++([2]++dH p)) H8;rw[<-HAS.o,<-cE];exact sg
  |false=>
   have hI4:Holds w4 (H4++((b,.cells #[.bool false,.int .u64 a,.int .i64 p,.bool false,.int .i64 s] 26)::Fr)):=lY.p;go_upto_region 7 with(at_builtin;refine al ee (by rfl) (.tmp 13) (.tmp 14) (by rfl) (by rfl) (by rfl) HB.o (hI4.bP _) ag.one (by simp[Value.oneCell']) (by have:=nW.o;simp only[maxLen];omega) (by have:=nW.o;omega) ?_;intro A' c' w' H' ay aB aX)
   have fy:Holds w' ((b,.cells #[.bool false,.int .u64 a,.int .i64 p,.bool false,.int .i64 s] 26)::(H'++Fr)):=aB.p;have mN:=(bI.alloc _).trans aX;have Ai:ar (.slice A' (AS.length+1) c') (AS++[1]) H':=ar.snoc ay rfl;have HV:=aa (qs (.slice A' (AS.length+1) c') (AS++[1]) p w' _ (Ai.at_ aB) fy (by omega) (by omega) (by have:=nW.o;simp;omega));obtain⟨z0,z1,z2,z3,z4⟩:=dj.o _ _ fy;clear y0 y1 y2 y3 y4 hI4 lY ay aB aX Ai;go_wp2_with fail
   refine HV.o.mono ?_;rintro e w8⟨v8,H8,rfl,sg,cT,ka⟩;go_wp2_with fail
   go_ret;refine⟨_,H8,rfl,?_,cT.p,mN.trans ka⟩;show ar _ ((dH a++dH s)++([1]++dH p)) H8;rw[<-HAS.o,<-cE];exact sg
theorem tD(n:Nt):(dD n).length<=31:=by
 have:=ie n.e.addr;have:=ie n.e.seq;have:=ie n.e.aW;unfold dD;rw[aY,aY];split
 ·simp;omega
 ·rw[aY];split<;>simp<;>omega
theorem qy(ns:List Nt):((ns.map dD).flatten).length<=ns.length*31:=by
 induction ns with
 |nil=>simp
 |cons n ns ih=>rw[ku,kr,aY,fC];have:=tD n;omega
theorem CV(ns:List Nt):(dB ns).length<=10+ns.length*31:=by
 unfold dB;have:=ie ns.length;have:=qy ns;rw[aY];omega
theorem tm.get{w:World}{A:Option Addr}{n c:Nat}{ns:List Nt}(h:tm w (.slice A n c) ns){k:Nat}(hk:k<ns.length):∃b o,A=some ⟨b,o,none⟩∧w.cell? ⟨b,o+k*5,none⟩=some (.bool ns[k].gone)∧w.cell? ⟨b,o+k*5+1,none⟩=some (.int .u64 ns[k].e.addr)∧
  w.cell? ⟨b,o+k*5+2,none⟩=some (.int .i64 ns[k].e.aW)∧w.cell? ⟨b,o+k*5+3,none⟩=some (.bool ns[k].e.bR)∧w.cell? ⟨b,o+k*5+4,none⟩=some (.int .i64 ns[k].e.seq):=by
 obtain⟨_,A',c',hv,_,_,cm⟩:=h;injection hv with gM mg kS;subst gM;obtain⟨b,o,rfl,bm⟩:=cm (by omega);have hf:∀q u,q<5->(ns[k].cells)[q]?=some u->w.cell? ⟨b,o+(k*5+q),none⟩=some u:=fun q u hq hu=>by
  refine bm _ _ ?_;unfold yX;rw[dS (size:=5) (ns.map Nt.cells) (fun x hx=>by obtain⟨m,_,rfl⟩:=List.mem_map.1 hx;rfl) k q _ (by rw[dW,bF hk];rfl) hq,hu]
 refine⟨b,o,rfl,?_,?_,?_,?_,?_⟩
 ·have:=hf 0 _ (by omega) rfl;rw[fD]at this;exact this
 ·have:=hf 1 _ (by omega) rfl;rw[<-gW]at this;exact this
 ·have:=hf 2 _ (by omega) rfl;rw[<-gW]at this;exact this
 ·have:=hf 3 _ (by omega) rfl;rw[<-gW]at this;exact this
 ·have:=hf 4 _ (by omega) rfl;rw[<-gW]at this;exact this
def adY(ns:List Nt)(w:World)(Fr:HL)(e:Ending)(w':World):Prop:=
 ∃v' H',e=.returned (.tuple #[v',.bool (ns.all Nt.ok)])∧ar v' (if ns.all Nt.ok then dB ns else[]) H'∧Holds w' (H'++Fr)∧af w w'
def aao(ns:List Nt)(w:World)(Fr:HL)(bv iv:Value)(wr:World):Prop:=
 ∃(k:Nat) (H:HL),k<=ns.length∧iv=.int .i64 k∧(∀n∈ns.take k,n.ok=true)∧ar bv (dH ns.length++((ns.take k).map dD).flatten) H∧Holds wr (H++Fr)∧af w wr
theorem Fp(v:Value)(ns:List Nt)(w:World)(Fr:HL)(hv:cU Fr v ns)(hH:Holds w Fr)(iu:∀n∈ns,n.vg)(hlen:ns.length<=1000):Calls Tryz.prog 100 #[v] w (adY ns w Fr):=by
 have HV:=aa hv;have Am:=aa iu;obtain⟨_,A,c,rfl,ff,gT,_⟩:=hv w hH;have hwl:IntKind.u64.wrap (ns.length:Int)=ns.length:=by rw[IntKind.wrap_u64];omega
 have HP:=aa (qs (.slice none 0 0) [] (ns.length:Int) w _ (aJ.nK (by simp[maxLen])) hH (by omega) (by omega) (by simp));clear hv iu hH;go_enter func100,ntmps100;go_wp2_with fail
 refine HP.o.mono ?_;rintro e w1⟨v1,H1,rfl,jj,ax,aK⟩;have bD:aao ns w Fr v1 (.int .i64 0) w1:=⟨0,H1,by omega,rfl,by simp,by simpa using jj,ax,aK⟩;clear HP jj ax aK;go_wp2_with fail
 go_loopw [4,13] (fun bv iv wr=>aao ns w Fr bv iv wr) (fun _ iv _=>ns.length-(intOf iv).toNat)
 case atStart=>exact bD
 case round=>
  clear bD;obtain⟨k,H,hk,rfl,cj,hb,hH,hg⟩:=hrel;by_cases aG:k<ns.length
  ·have dQ:(k:Int)<ns.length:=by omega
   obtain⟨b,o,rfl,y0,y1,y2,y3,y4⟩:=(HV.o wr hH.right).get aG;have xE:=aa (Am.o _ (cX aG));have jP:=aa (show ns.take (k+1)=ns.take k++[ns[k]]from gB aG);have Qg:=aa (cX aG);have lR:=aa cj;have HB:=aa hb;have nW:=aa (show(dH ns.length++((ns.take k).map dD).flatten).length<=40000 by
    have h1:=qy (ns.take k);have h2:=ie ns.length;rw[dG]at h1;rw[aY];omega)
   obtain⟨BL,Tv⟩:∃BL,BL=dH ns.length++((ns.take k).map dD).flatten:=⟨_,rfl⟩;have rI:=aa Tv;rw[<-Tv]at HB nW;clear Tv;generalize ns[k]=n at*;have bM:=hH.alloc (.cells #[.bool n.gone,.int .u64 n.e.addr,.int .i64 n.e.aW,.bool n.e.bR,.int .i64 n.e.seq] 26);have cJ:=hg.alloc (.cells #[.bool n.gone,.int .u64 n.e.addr,.int .i64 n.e.aW,.bool n.e.bR,.int .i64 n.e.seq] 26);clear cj hb hH hg ff gT;go_upto_region 5 with fail
   clear y0 y1 y2 y3 y4;generalize wr.alloc (.cells #[.bool n.gone,.int .u64 n.e.addr,.int .i64 n.e.aW,.bool n.e.bR,.int .i64 n.e.seq] 26)=wA at*;generalize wr.heap.size=t at*;obtain⟨z0,z1,z2,z3,z4⟩:=bM.note;have HM:=aa (Fo n wA _ bM);have SK:=aa (show n.ok=false->ns.all Nt.ok=false from fun h=>by
    rw[List.all_eq_false];exact⟨n,Qg.o,by simp[h]⟩)
   have Et:=aa (fun(h:n.ok=true) (wx:World) (F:HL) (hx:Holds wx F)=>CU n wx F hx xE.o h);rw[show n.agg=.agg #[.bool n.gone,.int .u64 n.e.addr,.int .i64 n.e.aW,.bool n.e.bR,.int .i64 n.e.seq]from rfl]at HM Et;have Xs:=aa (show n.ok=n.ok from rfl);obtain⟨ok,hoe⟩:∃ok,ok=n.ok:=⟨_,rfl⟩;rw[<-hoe]at HM SK Et;have HO:=aa hoe;clear hoe Xs;cases ok with
   |false=>
    go_wp2_with fail
    refine HM.o.mono ?_;rintro e w2⟨rfl,aB,aX⟩;have cY:=cJ.trans aX;clear HM aX cJ z0 z1 z2 z3 z4;go_wp2_with fail
    go_ret2
    exact⟨.slice none 0 0,[],congrArg (fun z=>Ending.returned (.tuple #[.slice none 0 0,.bool z])) (SK.o trivial).symm,by rw[SK.o trivial];exact au.nil _ _,aB.tail.right,cY⟩
   |true=>
    go_wp2_with fail
    refine HM.o.mono ?_;rintro e w2⟨rfl,aB,aX⟩;have cY:=cJ.trans aX;have SL:=aa (Et.o trivial w2 _ aB);clear HM aX cJ z0 z1 z2 z3 z4 SK;obtain⟨z0,z1,z2,z3,z4⟩:=aB.note;go_upto_region 7 with fail
    clear aB Et;go_wp2_with fail
    refine SL.o.mono ?_;rintro e w3⟨v3,H3,rfl,jF,aD,bj⟩;have vm:=aa jF;have HN3:=aa (tD n);have fy:Holds w3 (H++(H3++Fr)):=aD.p;have cf:=cY.trans bj;obtain⟨L3,PY⟩:∃L3,L3=dD n:=⟨_,rfl⟩;have Lt:=aa PY;rw[<-PY]at vm HN3;clear PY;obtain⟨A3,c3,rfl⟩:=vm.o.val;clear jF aD bj cY SL z0 z1 z2 z3 z4;go_wp2_with (at_builtin;refine al ee (by rfl) (.tmp 20) (.tmp 22) (by rfl) (by rfl) (by rfl) HB.o fy (vm.o.at_ (Fr:=H++Fr) fy.p) (by intro x hx;obtain⟨y,_,rfl⟩:=List.mem_map.1 hx;rfl) (by have:=nW.o;have:=HN3.o;simp only[maxLen];omega) (by have:=nW.o;have:=HN3.o;omega) ?_;intro A' c' w' H' ay aB aX)
    have zM:ar (.slice A' (BL.length+L3.length) c') (BL++L3) H':=by
     unfold ar;rw[aY,dm];exact ay
    refine⟨⟨k+1,H',by omega,by go_num,?_,?_,aB.p,cf.trans aX⟩,by simp[intOf];omega⟩
    ·intro m hm;rw[jP.o]at hm;rcases List.mem_append.1 hm with h|h
     ·exact lR.o m h
     ·rw[List.mem_singleton.1 h,<-HO.o]
    ·rw[jP.o,dm,qe,<-cE,<-rI.o];simpa[<-Lt.o]using zM
  ·have dQ:¬(k:Int)<ns.length:=by omega
   obtain rfl:k=ns.length:=by omega
   rw[fB]at hb cj;have eB:ns.all Nt.ok=true:=by rw[List.all_eq_true];exact cj
   have sr:=aa eB;have HB:=aa (show ar _ (dB ns) H from hb);clear cj hb eB dQ aG hk;obtain⟨NL,hNL⟩:∃NL,NL=dB ns:=⟨_,rfl⟩;have HNL:=aa hNL;rw[<-hNL]at HB;clear hNL;obtain⟨A5,c5,rfl⟩:=HB.o.val;go_wp2_with fail
   go_ret2
   exact⟨_,H,congrArg (fun z=>Ending.returned (.tuple #[.slice A5 NL.length c5,.bool z])) sr.o.symm,by rw[sr.o,if_pos rfl,<-HNL.o];exact HB.o,hH,hg⟩
theorem CW:∀(f n m:Nat),n<=m->(jt f n).length<=(jt f m).length
 |0,n,m,_=>aN _
 |f+1,n,m,h=>by
  rw[jt,jt];split
  ·split
   ·exact aN _
   ·simp
  ·next hn=>
   rw[if_neg (by omega),fC,fC];have:=CW f (n/128) (m/128) (Nat.div_le_div_right h);omega
theorem KW(ns:List Nt){j k:Nat}(h:j<=k):(dB (ns.take j)).length<=(dB (ns.take k)).length:=by
 unfold dB;rw[aY,aY];have h1:(dH (ns.take j).length).length<=(dH (ns.take k).length).length:=by
  unfold dH;refine CW 9 _ _ ?_;rw[dG,dG];omega
 have h2:(((ns.take j).map dD).flatten).length<=(((ns.take k).map dD).flatten).length:=by
  rw[show ns.take j=(ns.take k).take j by rw[List.take_take,uc h]];generalize ns.take k=l;rw[<-oz j l,dm,qe,aY,oz];omega
 omega
def JE(size:Nat)(ns:List Nt)(k:Nat):Prop:=k<=ns.length∧(1<=k->(dB (ns.take k)).length<=size)∧(k<ns.length->size<(dB (ns.take (k+1))).length)
theorem VW{size:Nat}{ns:List Nt}{k:Nat}(h:JE size ns k):∀n,k<=n->n<=ns.length->mY size ns n=k:=by
 intro n
 induction n with
 |zero=>intro h1 _;rw[mY];omega
 |succ n ih=>
  intro h1 h2;rw[mY];by_cases e:k=n+1
  ·subst e;rw[if_pos (h.2.1 (by omega))]
  ·have h3:=h.2.2 (by omega);have h4:=KW ns (j:=k+1) (k:=n+1) (by omega);rw[if_neg (by omega)];exact ih (by omega) (by omega)
theorem JE.eq{size:Nat}{ns:List Nt}{k:Nat}(h:JE size ns k):p9 size ns=k:=VW h _ h.1 (aN _)
theorem Rs(ns:List Nt)(n:Nt):((ns++[n]).map dD).flatten=(ns.map dD).flatten++dD n:=by simp
def aap(size:Nat)(ns:List Nt)(w:World)(Fr:HL)(bv fv iv:Value)(wr:World):Prop:=
 ∃k:Nat,k<=ns.length∧iv=.int .i64 k∧fv=.int .i64 k∧bv=.int .i64 (((ns.take k).map dD).flatten.length:Nat)∧(1<=k->(dB (ns.take k)).length<=size)∧Holds wr Fr∧af w wr
theorem Rt(size:Nat)(v:Value)(ns:List Nt)(w:World)(Fr:HL)(hv:cU Fr v ns)(hH:Holds w Fr)(iu:∀n∈ns,n.vg)(hlen:ns.length<=1000)(fT:size<=1000):
  Calls Tryz.prog 52 #[.int .i64 (size:Int),v] w (cM (.int .i64 ((if ns.all Nt.ok then p9 size ns else 0:Nat):Int)) w Fr):=by
 have HV:=aa hv;have Am:=aa iu;obtain⟨_,A,c,rfl,ff,gT,_⟩:=hv w hH;have HA:=aa (Fp (.slice A ns.length c) ns w Fr hv hH iu hlen);obtain⟨res,cH⟩:∃res:Int,res=((if ns.all Nt.ok then p9 size ns else 0:Nat):Int):=⟨_,rfl⟩;rw[<-cH];have cP:=aa cH;clear hv iu hH cH;go_enter func52,ntmps52;go_wp2_with fail
 refine HA.o.mono ?_;rintro e w1⟨v1,H1,rfl,_,ax,aK⟩;have ax:=ax.right;have sr:Zh (∀n∈ns,ns.all Nt.ok=true->n.ok=true):=aa (fun n hn h=>List.all_eq_true.1 h n hn);have vq:=aa (show ns.all Nt.ok=ns.all Nt.ok from rfl);generalize ns.all Nt.ok=ok at*;clear HA vq;cases ok with
 |false=>
  go_wp2_with fail
  go_ret;exact⟨congrArg (fun z=>Ending.returned (.int .i64 z)) (show(0:Int)=res by rw[cP.o];simp),ax,aK⟩
 |true=>
  have bD:aap size ns w Fr (.int .i64 0) (.int .i64 0) (.int .i64 0) w1:=⟨0,by omega,rfl,rfl,rfl,by omega,ax,aK⟩;clear ax aK;go_wp2_with fail
  go_loopw [7,8,20] (fun bv fv iv wr=>aap size ns w Fr bv fv iv wr) (fun _ _ iv _=>ns.length-(intOf iv).toNat)
  case atStart=>exact bD
  case round=>
   clear bD;obtain⟨k,hk,rfl,rfl,rfl,pM,hH,hg⟩:=hrel;have PJ:=qy (ns.take k);rw[dG]at PJ;by_cases aG:k<ns.length
   ·have dQ:(k:Int)<ns.length:=by omega
    obtain⟨b,o,rfl,y0,y1,y2,y3,y4⟩:=(HV.o wr hH).get aG;have xE:=aa (Am.o _ (cX aG));have jP:=aa (show ns.take (k+1)=ns.take k++[ns[k]]from gB aG);have lR:=aa (sr.o _ (cX aG) trivial);have uE:=aa pM;have Ub:=aa (show((ns.take (k+1)).map dD).flatten.length=((ns.take k).map dD).flatten.length+(dD ns[k]).length by rw[jP.o,Rs,aY]);have HNL:=aa (show(dB (ns.take (k+1))).length=(dH ((k:Int)+1)).length+((ns.take (k+1)).map dD).flatten.length by
     unfold dB;rw[aY,dG,uc (by omega)];rfl)
    have qP:=tD ns[k];generalize ns[k]=n at*;obtain⟨bl,jq⟩:∃bl,bl=((ns.take k).map dD).flatten.length:=⟨_,rfl⟩;rw[<-jq]at Ub PJ⊢;have rI:=aa jq;have bM:=hH.alloc (.cells #[.bool n.gone,.int .u64 n.e.addr,.int .i64 n.e.aW,.bool n.e.bR,.int .i64 n.e.seq] 26);have cJ:=hg.alloc (.cells #[.bool n.gone,.int .u64 n.e.addr,.int .i64 n.e.aW,.bool n.e.bR,.int .i64 n.e.seq] 26);clear pM hH hg ff gT jq;go_upto_region 8 with fail
    clear y0 y1 y2 y3 y4;generalize wr.alloc (.cells #[.bool n.gone,.int .u64 n.e.addr,.int .i64 n.e.aW,.bool n.e.bR,.int .i64 n.e.seq] 26)=wA at*;generalize wr.heap.size=t at*;obtain⟨z0,z1,z2,z3,z4⟩:=bM.note;have Et:=aa (CU n wA _ bM xE.o lR.o);rw[show n.agg=.agg #[.bool n.gone,.int .u64 n.e.addr,.int .i64 n.e.aW,.bool n.e.bR,.int .i64 n.e.seq]from rfl]at Et;obtain⟨nl,Uc⟩:∃nl,nl=(dD n).length:=⟨_,rfl⟩;have anM:=aa Uc;rw[<-Uc]at qP Ub;clear bM Uc;go_wp2_with fail
    refine Et.o.mono ?_;rintro e w2⟨v2,H2,rfl,fZ,aB,aX⟩;obtain⟨A2,c2,rfl⟩:=fZ.val;rw[<-anM.o];have aD:Holds w2 Fr:=aB.right.tail;have cf:=cJ.trans aX;have u7:IntKind.i64.wrap ((bl:Int)+nl)=bl+nl:=fu (by omega) (by omega);have PE:IntKind.i64.wrap ((k:Int)+1)=k+1:=fu (by omega) (by omega);have hw3:IntKind.u64.wrap ((k:Int)+1)=k+1:=by rw[IntKind.wrap_u64];omega
    have HVP:=aa (qs (.slice none 0 0) [] ((k:Int)+1) w2 _ (aJ.nK (by simp[maxLen])) aD (by omega) (by omega) (by simp));clear fZ aB aX cJ Et aD z0 z1 z2 z3 z4;go_wp2_with fail
    refine HVP.o.mono ?_;rintro e w3⟨v3,H3,rfl,jF,aD,bj⟩;obtain⟨A3,c3,rfl⟩:=jF.val;have hvl:=ie ((k:Int)+1);obtain⟨vl,acq⟩:∃vl,vl=([]++dH ((k:Int)+1)).length:=⟨_,rfl⟩;rw[<-acq];have ahj:vl=(dH ((k:Int)+1)).length:=acq;rw[<-ahj]at hvl HNL;have aU:=aD.right;have bI:=cf.trans bj;have WL:IntKind.i64.wrap ((vl:Int)+(bl+nl))=vl+(bl+nl):=fu (by omega) (by omega);clear jF aD bj cf HVP acq ahj;by_cases DL:size<vl+(bl+nl)
    ·have hgI:(size:Int)<(vl:Int)+((bl:Int)+(nl:Int)):=by omega
     have PZ:=aa (show p9 size ns=k from JE.eq ⟨hk,uE.o,fun _=>by rw[HNL.o,Ub.o];omega⟩);go_wp2_with fail
     go_ret;exact⟨congrArg (fun z=>Ending.returned (.int .i64 z)) (show(k:Int)=res by rw[cP.o];simp[PZ.o]),aU,bI⟩
    ·have hgI:¬(size:Int)<(vl:Int)+((bl:Int)+(nl:Int)):=by omega
     go_wp2_with fail
     refine⟨⟨k+1,by omega,by go_num,by go_num,congrArg (Value.int .i64) (by rw[Ub.o];omega),fun _=>by rw[HNL.o,Ub.o];omega,aU,bI⟩,by simp[intOf];omega⟩
   ·have dQ:¬(k:Int)<ns.length:=by omega
    obtain rfl:k=ns.length:=by omega
    have PZ:=aa (show p9 size ns=ns.length from JE.eq ⟨hk,pM,fun h=>absurd h (by omega)⟩);clear pM hk dQ aG PJ;go_wp2_with fail
    go_ret;exact⟨congrArg (fun z=>Ending.returned (.int .i64 z)) (show(ns.length:Int)=res by rw[cP.o];simp[PZ.o]),hH,hg⟩
theorem KX(n:Int)(w:World)(h1:128<=n)(h2:n<=256):Calls Tryz.prog 104 #[.int .i64 n] w fun e w'=>e=.returned (.bool true)∧w=w':=by
 have h3:¬n<128:=by omega
 have h4:¬256<n:=by omega
 go_enter func104,ntmps104;go_wp2_with fail
 go_ret;exact⟨rfl,rfl⟩
theorem ar.aaq{v:Value}{bs:List UInt8}{k:Nat}{H:HL}(h:au 5 1 v (bs.length+k) (bs.map bh++List.replicate k (.int .u8 0)) H):ar v (bs++List.replicate k 0) H:=by
 unfold ar;rw[aY,gV,dm,List.map_replicate];exact h
theorem Fq(size:Nat)(v:Value)(ns:List Nt)(w:World)(Fr:HL)(hv:cU Fr v ns)(hH:Holds w Fr)(iu:∀n∈ns,n.vg)(hlen:ns.length<=1000)(cj:ns.all Nt.ok=true)(kU:128<=size)(tg:size<=256)(hf:(dB ns).length<=size):
  Calls Tryz.prog 54 #[.int .i64 (size:Int),v] w fun e w'=>∃v' H',e=.returned (.tuple #[v',.nilIface])∧ar v' (eX ns size) H'∧Holds w' (H'++Fr)∧af w w':=by
 obtain⟨_,A,c,rfl,ff,gT,_⟩:=hv w hH;have HA:=aa (Fp (.slice A ns.length c) ns w Fr hv hH iu hlen);have lR:=aa cj;have Tw:=aa (fun wx=>KX (size:Int) wx (by omega) (by omega));have HP:=aa (show eX ns size=dB ns++List.replicate (size-(dB ns).length) 0 from rfl);clear hv iu hH cj ff gT;go_enter func54,ntmps54;go_wp2_with fail
 refine HA.o.mono ?_;rintro e w1⟨v1,H1,rfl,jj,ax,aK⟩;rw[lR.o,if_pos rfl]at jj;rw[lR.o];have HB:=aa jj;generalize dB ns=NL at*;obtain⟨A1,c1,rfl⟩:=HB.o.val;have hfI:¬(size:Int)<(NL.length:Int):=by omega
 obtain⟨k,hk⟩:∃k:Nat,k=size-NL.length:=⟨_,rfl⟩;have hkI:IntKind.i64.wrap ((size:Int)-NL.length)=(k:Int):=by rw[fu (by omega) (by omega)];omega
 have auN:wrap64 ((size:Int)-NL.length)=(k:Int):=by unfold wrap64;omega
 have HK:=aa hk;have HF:=aa (show NL.length+k<=1000 by omega);clear HA jj hk hf;go_wp2_with fail
 refine(Tw.o _).mono ?_;rintro e wx⟨rfl,rfl⟩;go_wp2_with (at_builtin;refine mI ee (u:=.int .u8 0) (it:=3) (by kernel_rfl) (by rfl) (.tmp 28) (.tmp 32) (by rfl) (by rfl) (by rfl) (k:=k) (by rfl) (by first|rfl|simp) HB.o ax (by have:=HF.o;omega) ?_;intro A' c' w' H' ay aB aX)
 go_ret2
 refine⟨_,H',rfl,?_,aB,aK.trans aX⟩;rw[HP.o,<-HK.o];exact ar.aaq ay
def Bt(rb:Nat)(L:List UInt8)(G H:HL):Prop:=∃(v:Value) (Hp:HL),H=(rb,.cells #[v,.bool false] 251)::Hp∧bN (Hp++G) v L
def MH(rb:Nat)(u:Value)(L:List UInt8)(w:World)(G F:HL)(e:Ending)(w':World):Prop:=∃H',e=.returned u∧Bt rb L G H'∧Holds w' (H'++(G++F))∧af w w'
theorem qz(rb:Nat)(n0:Nat)(tl:List UInt8)(w:World)(H G F:HL)(hr:Bt rb (dH n0++tl) G H)(hH:Holds w (H++(G++F)))(h1:n0<18446744073709551616)(kJ:(dH n0++tl).length<=100000):
  Calls Tryz.prog 185 #[.pointer (some ⟨rb,0,none⟩)] w (MH rb (.int .u64 (n0:Int)) tl w G F):=by
 obtain⟨v,Hp,rfl,hf⟩:=hr;have hH:Holds w ((rb,.cells #[v,.bool false] 251)::(Hp++(G++F))):=hH.p;have HG:=aa (VV v n0 tl w _ (hf w hH.p) hH h1 kJ);have c0:=hH.ae 0;have c1:=hH.ae 1;have f0:=hH.ah 0;have f1:=hH.ah 1;simp only[vO,iK,mS]at c0 c1;clear hH hf;go_enter func185,ntmps185;go_wp2_with fail
 refine HG.o.mono ?_;rintro e w1⟨v1,H1,rfl,jj,ax,aK⟩;have fU:Holds w1 ((rb,.cells #[v,.bool false] 251)::(H1++(Hp++(G++F)))):=ax.p;have HB:=aa jj;clear c0 c1 f0 f1 HG jj ax;have c0:=fU.ae 0;have c1:=fU.ae 1;have f0:=fU.ah 0;have f1:=fU.ah 1;have hS:=Holds.set (Holds.set fU 0 v1) 1 (.bool false);simp only[vO,iK,mS]at c0 c1;obtain⟨A1,q1,rfl⟩:=HB.o.val;have hG:=(aK.setCell ⟨rb,0,none⟩ (.slice A1 tl.length q1)).setCell ⟨rb,1,none⟩ (.bool false);go_wp2_with fail
 go_ret;refine⟨(rb,.cells #[.slice A1 tl.length q1,.bool false] 251)::(H1++Hp),rfl,⟨_,H1++Hp,rfl,fun wx hx=>HB.o.at_ (Fr:=Hp++G) hx.p⟩,?_,hG⟩;have h:Holds ((w1.setCell ⟨rb,0,none⟩ (.slice A1 tl.length q1)).setCell ⟨rb,1,none⟩ (.bool false)) ((rb,.cells #[.slice A1 tl.length q1,.bool false] 251)::(H1++(Hp++(G++F)))):=hS;exact h.p
theorem yJ(rb:Nat)(x:UInt8)(tl:List UInt8)(w:World)(H G F:HL)(hr:Bt rb (x::tl) G H)(hH:Holds w (H++(G++F)))(kJ:tl.length<=100000):
  Calls Tryz.prog 228 #[.pointer (some ⟨rb,0,none⟩)] w (MH rb (.int .u8 (x.toNat:Int)) tl w G F):=by
 obtain⟨v,Hp,rfl,hf⟩:=hr;have hH:Holds w ((rb,.cells #[v,.bool false] 251)::(Hp++(G++F))):=hH.p;have HF:=aa hf;obtain⟨_,A,c,rfl,ff,gT,cm⟩:=hf w hH.p;obtain⟨b,o,rfl,bm⟩:=cm (by simp);have hx0:=bm 0 (.int .u8 (x.toNat:Int)) rfl;rw[fD]at hx0;have c0:=hH.ae 0;have f0:=hH.ah 0;simp only[vO,iK]at c0;have jD:=af.refl w;rw[fC]at ff c0;have HC:=aa (aS ff gT);have HH:=aa hH;have ei:(((tl.length+1:Nat):Int)==0)=false:=beq_eq_false_iff_ne.2 (by omega);clear cm bm hH hf;go_enter func228,ntmps228;go_wp2_with fail
 ·have ht:tl=[]:=jW (by have:=HC.o.1;omega);subst ht;go_ret;refine⟨(rb,.cells #[.slice (some ⟨b,o,none⟩) 0 0,.bool false] 251)::Hp,rfl,⟨_,Hp,rfl,fun wx hx=>aJ.nK (by simp[maxLen])⟩,?_,jD.setCell _ _⟩;have h:Holds _ ((rb,.cells #[.slice (some ⟨b,o,none⟩) 0 0,.bool false] 251)::(Hp++(G++F))):=Holds.set HH.o 0 (.slice (some ⟨b,o,none⟩) 0 0);exact h.p
 ·go_ret;refine⟨(rb,.cells #[.slice (some ⟨b,o+1,none⟩) tl.length (c-1),.bool false] 251)::Hp,rfl,⟨_,Hp,rfl,fun wx hx=>?_⟩,?_,jD.setCell _ _⟩
  ·have h:=(HF.o wx hx).drop (k:=1) (by simp);simp only[List.drop_succ_cons,List.drop_zero,fC,Nat.add_sub_cancel,kt,cV]at h;exact h
  ·have h:Holds _ ((rb,.cells #[.slice (some ⟨b,o+1,none⟩) tl.length (c-1),.bool false] 251)::(Hp++(G++F))):=Holds.set HH.o 0 (.slice (some ⟨b,o+1,none⟩) tl.length (c-1));exact h.p
theorem Nr(rb:Nat)(n:Nt)(tl:List UInt8)(w:World)(H G F:HL)(hr:Bt rb (dD n++tl) G H)(hH:Holds w (H++(G++F)))(iu:n.vg)(cj:n.ok=true)(kJ:(dD n++tl).length<=100000):
  Calls Tryz.prog 186 #[.pointer (some ⟨rb,0,none⟩)] w (MH rb n.agg tl w G F):=by
 obtain⟨g,⟨a,p,d,s⟩⟩:=n;obtain⟨⟨AY,As⟩,hp,hs⟩:=iu;dsimp only at AY As hp hs;have tg:1<=s∧s<=1099511627775:=by
  unfold Nt.ok at cj;simp only[fW,decide_eq_true_eq]at cj;exact cj.1
 have Dz:if g=true then p=0∧d=false else 0<=p∧p<=255:=by
  unfold Nt.ok at cj;simp only[fW,decide_eq_true_eq]at cj;have h2:=cj.2;cases g<;>simpa using h2
 clear cj hp hs;obtain⟨A,rfl⟩:=Int.eq_ofNat_of_zero_le AY;obtain⟨S,rfl⟩:=Int.eq_ofNat_of_zero_le (show 0<=s by omega);obtain⟨T,hT⟩:∃T,T=(if g=true then[0]else(if d=true then[2]else[1])++dH p)++tl:=⟨_,rfl⟩;have e:dD ⟨g,⟨(A:Int),p,d,(S:Int)⟩⟩++tl=dH (A:Int)++(dH (S:Int)++T):=by rw[hT];unfold dD;simp[cE]
 rw[e]at hr kJ;have HT:=aa hT;have ax:=(hH.alloc (.cells #[.bool false,.int .u64 0,.int .i64 0,.bool false,.int .i64 0] 26));have aK:=(af.refl w).alloc (.cells #[.bool false,.int .u64 0,.int .i64 0,.bool false,.int .i64 0] 26);clear hT e hH;simp only[Nt.agg];go_enter func186,ntmps186;go_upto_region 1 with fail
 generalize w.alloc (.cells #[.bool false,.int .u64 0,.int .i64 0,.bool false,.int .i64 0] 26)=w1 at*;generalize w.heap.size=t0 at*;have fU:Holds w1 (H++(G++((t0,.cells #[.bool false,.int .u64 0,.int .i64 0,.bool false,.int .i64 0] 26)::F))):=ax.p;have HN1:=aa (qz rb A (dH (S:Int)++T) w1 H G _ hr fU (by omega) kJ);have aci:(dH (S:Int)++T).length<=100000:=by rw[aY]at kJ;omega
 have acr:T.length<=100000:=by rw[aY]at aci;omega
 clear hr ax fU kJ AY As;go_wp2_with fail
 refine HN1.o.mono ?_;rintro e w2⟨H2,rfl,Tu,aB,aX⟩;have cY:=aK.trans aX;have lY:=aB.alloc (.cells #[.bool false,.int .u64 (A:Int),.int .i64 0,.bool false,.int .i64 0] 26);have hGb:=cY.alloc (.cells #[.bool false,.int .u64 (A:Int),.int .i64 0,.bool false,.int .i64 0] 26);clear HN1 aK aX cY aB;go_upto_region 2 with fail
 generalize w2.alloc (.cells #[.bool false,.int .u64 (A:Int),.int .i64 0,.bool false,.int .i64 0] 26)=w3 at*;generalize w2.heap.size=t1 at*;have fy:Holds w3 (H2++(G++((t1,.cells #[.bool false,.int .u64 (A:Int),.int .i64 0,.bool false,.int .i64 0] 26)::((t0,.cells #[.bool false,.int .u64 0,.int .i64 0,.bool false,.int .i64 0] 26)::F)))):=lY.p;have Jf:=aa (qz rb S T w3 H2 G _ Tu fy (by omega) aci);clear Tu lY fy;go_wp2_with fail
 refine Jf.o.mono ?_;rintro e w4⟨H4,rfl,Je,aU,bV⟩;have bI:=hGb.trans bV;have WM:=aa Je;clear Jf hGb bV Je;have hwS:IntKind.i64.wrap (S:Int)=S:=by rw[IntKind.wrap_i64];omega
 have auO:wrap64 (S:Int)=S:=by unfold wrap64;omega
 have SN:¬(1099511627775:Int)<(S:Int):=by omega
 cases g with
 |true=>
  rw[if_pos rfl]at Dz;obtain⟨rfl,rfl⟩:=Dz;have yY:=WM.o;rw[HT.o,if_pos rfl]at yY;have yY:Bt rb (0::tl) _ H4:=yY;have Ip:tl.length<=100000:=by have h:=acr;rw[HT.o,if_pos rfl]at h;simp at h;omega
  have HO:=aa (yJ rb 0 tl w4 H4 G _ yY aU Ip);rw[show(((0:UInt8).toNat:Nat):Int)=0 from rfl]at HO;clear yY aU WM HT;go_wp2_with fail
  refine HO.o.mono ?_;rintro e w5⟨H5,rfl,yY,bg,dJ⟩;have eY:=bI.trans dJ;have Bb:=aa yY;clear HO dJ yY bI;have vz:Holds w5 ((t1,.cells #[.bool false,.int .u64 (A:Int),.int .i64 0,.bool false,.int .i64 0] 26)::((t0,.cells #[.bool false,.int .u64 0,.int .i64 0,.bool false,.int .i64 0] 26)::(H5++(G++F)))):=bg.p;obtain⟨z0,z1,z2,z3,z4⟩:=vz.note;have u0:=vz.ah 0;have u1:=vz.ah 1;have u2:=vz.ah 2;have u3:=vz.ah 3;have u4:=vz.ah 4;have ul:=vz.aG;have WN:=Holds.set (Holds.set (Holds.set (Holds.set vz 0 (.bool true)) 3 (.bool false)) 4 (.int .i64 (S:Int))) 2 (.int .i64 0);have Ly:Holds ((((w5.setCell ⟨t1,0,none⟩ (.bool true)).setCell ⟨t1,3,none⟩ (.bool false)).setCell ⟨t1,4,none⟩ (.int .i64 (S:Int))).setCell ⟨t1,2,none⟩ (.int .i64 0)) ((t0,.cells #[.bool false,.int .u64 0,.int .i64 0,.bool false,.int .i64 0] 26)::((t1,.cells #[.bool true,.int .u64 (A:Int),.int .i64 0,.bool false,.int .i64 (S:Int)] 26)::(H5++(G++F)))):=by
   have h:Holds ((((w5.setCell ⟨t1,0,none⟩ (.bool true)).setCell ⟨t1,3,none⟩ (.bool false)).setCell ⟨t1,4,none⟩ (.int .i64 (S:Int))).setCell ⟨t1,2,none⟩ (.int .i64 0)) ((t1,.cells #[.bool true,.int .u64 (A:Int),.int .i64 0,.bool false,.int .i64 (S:Int)] 26)::((t0,.cells #[.bool false,.int .u64 0,.int .i64 0,.bool false,.int .i64 0] 26)::(H5++(G++F)))):=WN;exact h.p
  have Ah:=(((eY.setCell ⟨t1,0,none⟩ (.bool true)).setCell ⟨t1,3,none⟩ (.bool false)).setCell ⟨t1,4,none⟩ (.int .i64 (S:Int))).setCell ⟨t1,2,none⟩ (.int .i64 0);have kh:=aa Ly;have Tx:=aa Ah;clear WN vz bg eY Ly Ah;go_upto_region 12 with fail
  clear z0 z1 z2 z3 z4 u0 u1 u2 u3 u4 ul;generalize(((w5.setCell ⟨t1,0,none⟩ (.bool true)).setCell ⟨t1,3,none⟩ (.bool false)).setCell ⟨t1,4,none⟩ (.int .i64 (S:Int))).setCell ⟨t1,2,none⟩ (.int .i64 0)=wS at*;obtain⟨z0,z1,z2,z3,z4⟩:=kh.o.tail.note;obtain⟨o0,o1,o2,o3,o4⟩:=kh.o.note;have u0:=kh.o.ah 0;have u1:=kh.o.ah 1;have u2:=kh.o.ah 2;have u3:=kh.o.ah 3;have u4:=kh.o.ah 4;have ul:=kh.o.aG;have uz:=Holds.set (Holds.set (Holds.set (Holds.set (Holds.set kh.o 0 (.bool true)) 1 (.int .u64 (A:Int))) 2 (.int .i64 0)) 3 (.bool false)) 4 (.int .i64 (S:Int));have Js:=((((Tx.o.setCell ⟨t0,0,none⟩ (.bool true)).setCell ⟨t0,1,none⟩ (.int .u64 (A:Int))).setCell ⟨t0,2,none⟩ (.int .i64 0)).setCell ⟨t0,3,none⟩ (.bool false)).setCell ⟨t0,4,none⟩ (.int .i64 (S:Int));have zJ:=aa (show Holds (((((wS.setCell ⟨t0,0,none⟩ (.bool true)).setCell ⟨t0,1,none⟩ (.int .u64 (A:Int))).setCell ⟨t0,2,none⟩ (.int .i64 0)).setCell ⟨t0,3,none⟩ (.bool false)).setCell ⟨t0,4,none⟩ (.int .i64 (S:Int))) ((t0,.cells #[.bool true,.int .u64 (A:Int),.int .i64 0,.bool false,.int .i64 (S:Int)] 26)::((t1,.cells #[.bool true,.int .u64 (A:Int),.int .i64 0,.bool false,.int .i64 (S:Int)] 26)::(H5++(G++F))))from uz);have Of:=aa Js;clear uz Js kh Tx;go_wp2_with fail
  clear z0 z1 z2 z3 z4 u0 u1 u2 u3 u4 ul o0 o1 o2 o3 o4;obtain⟨z0,z1,z2,z3,z4⟩:=zJ.o.note;have hF5:=zJ.o;have iU:=Of.o;generalize((((wS.setCell ⟨t0,0,none⟩ (.bool true)).setCell ⟨t0,1,none⟩ (.int .u64 (A:Int))).setCell ⟨t0,2,none⟩ (.int .i64 0)).setCell ⟨t0,3,none⟩ (.bool false)).setCell ⟨t0,4,none⟩ (.int .i64 (S:Int))=w9 at*;refine bodyPost_ret (v:=.agg #[.bool true,.int .u64 (A:Int),.int .i64 0,.bool false,.int .i64 (S:Int)]) (by rw[eP rfl];go_simp) rfl ⟨H5,rfl,Bb.o,hF5.p,iU⟩
 |false=>
  rw[if_neg (by simp)]at Dz;obtain⟨pn,rfl⟩:=Int.eq_ofNat_of_zero_le Dz.1;have hp9:¬(255:Int)<(pn:Int):=by omega
  have hpu:pn<18446744073709551616:=by omega
  have hwP:IntKind.i64.wrap (pn:Int)=pn:=by rw[IntKind.wrap_i64];omega
  cases d with
  |true=>
   have yY:=WM.o;rw[HT.o,if_neg (by simp)]at yY;have yY:Bt rb (2::(dH (pn:Int)++tl)) G H4:=yY;have Ip:(dH (pn:Int)++tl).length<=100000:=by have h:=acr;rw[HT.o,if_neg (by simp)]at h;simp at h⊢;omega
   have HO:=aa (yJ rb 2 (dH (pn:Int)++tl) w4 H4 G _ yY aU Ip);rw[show(((2:UInt8).toNat:Nat):Int)=2 from rfl]at HO;have Aq:=aa Dz;have HPU:=aa hpu;have IV:=aa Ip;clear yY aU WM HT Dz hpu Ip;go_wp2_with fail
   refine HO.o.mono ?_;rintro e w5⟨H5,rfl,yY,bg,dJ⟩;have eY:=bI.trans dJ;have HN6:=aa (qz rb pn tl w5 H5 G _ yY bg HPU.o IV.o);clear HO dJ yY bI bg;go_wp2_with fail
   refine HN6.o.mono ?_;rintro e w6⟨H6,rfl,hr6,bC,eJ⟩;have jn:=eY.trans eJ;have HR6:=aa hr6;clear HN6 eJ hr6 eY;have vz:Holds w6 ((t1,.cells #[.bool false,.int .u64 (A:Int),.int .i64 0,.bool false,.int .i64 0] 26)::((t0,.cells #[.bool false,.int .u64 0,.int .i64 0,.bool false,.int .i64 0] 26)::(H6++(G++F)))):=bC.p;obtain⟨z0,z1,z2,z3,z4⟩:=vz.note;have u0:=vz.ah 0;have u1:=vz.ah 1;have u2:=vz.ah 2;have u3:=vz.ah 3;have u4:=vz.ah 4;have ul:=vz.aG;have WN:=Holds.set (Holds.set (Holds.set (Holds.set vz 0 (.bool false)) 3 (.bool true)) 4 (.int .i64 (S:Int))) 2 (.int .i64 (pn:Int));have Ly:Holds ((((w6.setCell ⟨t1,0,none⟩ (.bool false)).setCell ⟨t1,3,none⟩ (.bool true)).setCell ⟨t1,4,none⟩ (.int .i64 (S:Int))).setCell ⟨t1,2,none⟩ (.int .i64 (pn:Int))) ((t0,.cells #[.bool false,.int .u64 0,.int .i64 0,.bool false,.int .i64 0] 26)::((t1,.cells #[.bool false,.int .u64 (A:Int),.int .i64 (pn:Int),.bool true,.int .i64 (S:Int)] 26)::(H6++(G++F)))):=by
    have h:Holds ((((w6.setCell ⟨t1,0,none⟩ (.bool false)).setCell ⟨t1,3,none⟩ (.bool true)).setCell ⟨t1,4,none⟩ (.int .i64 (S:Int))).setCell ⟨t1,2,none⟩ (.int .i64 (pn:Int))) ((t1,.cells #[.bool false,.int .u64 (A:Int),.int .i64 (pn:Int),.bool true,.int .i64 (S:Int)] 26)::((t0,.cells #[.bool false,.int .u64 0,.int .i64 0,.bool false,.int .i64 0] 26)::(H6++(G++F)))):=WN;exact h.p
   have Ah:=(((jn.setCell ⟨t1,0,none⟩ (.bool false)).setCell ⟨t1,3,none⟩ (.bool true)).setCell ⟨t1,4,none⟩ (.int .i64 (S:Int))).setCell ⟨t1,2,none⟩ (.int .i64 (pn:Int));have kh:=aa Ly;have Tx:=aa Ah;clear WN vz bC jn Ly Ah;go_upto_region 12 with fail
   clear z0 z1 z2 z3 z4 u0 u1 u2 u3 u4 ul;generalize(((w6.setCell ⟨t1,0,none⟩ (.bool false)).setCell ⟨t1,3,none⟩ (.bool true)).setCell ⟨t1,4,none⟩ (.int .i64 (S:Int))).setCell ⟨t1,2,none⟩ (.int .i64 (pn:Int))=wS at*;obtain⟨z0,z1,z2,z3,z4⟩:=kh.o.tail.note;obtain⟨o0,o1,o2,o3,o4⟩:=kh.o.note;have u0:=kh.o.ah 0;have u1:=kh.o.ah 1;have u2:=kh.o.ah 2;have u3:=kh.o.ah 3;have u4:=kh.o.ah 4;have ul:=kh.o.aG;have uz:=Holds.set (Holds.set (Holds.set (Holds.set (Holds.set kh.o 0 (.bool false)) 1 (.int .u64 (A:Int))) 2 (.int .i64 (pn:Int))) 3 (.bool true)) 4 (.int .i64 (S:Int));have Js:=((((Tx.o.setCell ⟨t0,0,none⟩ (.bool false)).setCell ⟨t0,1,none⟩ (.int .u64 (A:Int))).setCell ⟨t0,2,none⟩ (.int .i64 (pn:Int))).setCell ⟨t0,3,none⟩ (.bool true)).setCell ⟨t0,4,none⟩ (.int .i64 (S:Int));have zJ:=aa (show Holds (((((wS.setCell ⟨t0,0,none⟩ (.bool false)).setCell ⟨t0,1,none⟩ (.int .u64 (A:Int))).setCell ⟨t0,2,none⟩ (.int .i64 (pn:Int))).setCell ⟨t0,3,none⟩ (.bool true)).setCell ⟨t0,4,none⟩ (.int .i64 (S:Int))) ((t0,.cells #[.bool false,.int .u64 (A:Int),.int .i64 (pn:Int),.bool true,.int .i64 (S:Int)] 26)::((t1,.cells #[.bool false,.int .u64 (A:Int),.int .i64 (pn:Int),.bool true,.int .i64 (S:Int)] 26)::(H6++(G++F))))from uz);have Of:=aa Js;clear uz Js kh Tx;go_wp2_with fail
   clear z0 z1 z2 z3 z4 u0 u1 u2 u3 u4 ul o0 o1 o2 o3 o4;obtain⟨z0,z1,z2,z3,z4⟩:=zJ.o.note;have hF5:=zJ.o;have iU:=Of.o;generalize((((wS.setCell ⟨t0,0,none⟩ (.bool false)).setCell ⟨t0,1,none⟩ (.int .u64 (A:Int))).setCell ⟨t0,2,none⟩ (.int .i64 (pn:Int))).setCell ⟨t0,3,none⟩ (.bool true)).setCell ⟨t0,4,none⟩ (.int .i64 (S:Int))=w9 at*;refine bodyPost_ret (v:=.agg #[.bool false,.int .u64 (A:Int),.int .i64 (pn:Int),.bool true,.int .i64 (S:Int)]) (by rw[eP rfl];go_simp) rfl ⟨H6,rfl,HR6.o,hF5.p,iU⟩
  |false=>
   have yY:=WM.o;rw[HT.o,if_neg (by simp)]at yY;have yY:Bt rb (1::(dH (pn:Int)++tl)) G H4:=yY;have Ip:(dH (pn:Int)++tl).length<=100000:=by have h:=acr;rw[HT.o,if_neg (by simp)]at h;simp at h⊢;omega
   have HO:=aa (yJ rb 1 (dH (pn:Int)++tl) w4 H4 G _ yY aU Ip);rw[show(((1:UInt8).toNat:Nat):Int)=1 from rfl]at HO;have Aq:=aa Dz;have HPU:=aa hpu;have IV:=aa Ip;clear yY aU WM HT Dz hpu Ip;go_wp2_with fail
   refine HO.o.mono ?_;rintro e w5⟨H5,rfl,yY,bg,dJ⟩;have eY:=bI.trans dJ;have HN6:=aa (qz rb pn tl w5 H5 G _ yY bg HPU.o IV.o);clear HO dJ yY bI bg;go_wp2_with fail
   refine HN6.o.mono ?_;rintro e w6⟨H6,rfl,hr6,bC,eJ⟩;have jn:=eY.trans eJ;have HR6:=aa hr6;clear HN6 eJ hr6 eY;have vz:Holds w6 ((t1,.cells #[.bool false,.int .u64 (A:Int),.int .i64 0,.bool false,.int .i64 0] 26)::((t0,.cells #[.bool false,.int .u64 0,.int .i64 0,.bool false,.int .i64 0] 26)::(H6++(G++F)))):=bC.p;obtain⟨z0,z1,z2,z3,z4⟩:=vz.note;have u0:=vz.ah 0;have u1:=vz.ah 1;have u2:=vz.ah 2;have u3:=vz.ah 3;have u4:=vz.ah 4;have ul:=vz.aG;have WN:=Holds.set (Holds.set (Holds.set (Holds.set vz 0 (.bool false)) 3 (.bool false)) 4 (.int .i64 (S:Int))) 2 (.int .i64 (pn:Int));have Ly:Holds ((((w6.setCell ⟨t1,0,none⟩ (.bool false)).setCell ⟨t1,3,none⟩ (.bool false)).setCell ⟨t1,4,none⟩ (.int .i64 (S:Int))).setCell ⟨t1,2,none⟩ (.int .i64 (pn:Int))) ((t0,.cells #[.bool false,.int .u64 0,.int .i64 0,.bool false,.int .i64 0] 26)::((t1,.cells #[.bool false,.int .u64 (A:Int),.int .i64 (pn:Int),.bool false,.int .i64 (S:Int)] 26)::(H6++(G++F)))):=by
    have h:Holds ((((w6.setCell ⟨t1,0,none⟩ (.bool false)).setCell ⟨t1,3,none⟩ (.bool false)).setCell ⟨t1,4,none⟩ (.int .i64 (S:Int))).setCell ⟨t1,2,none⟩ (.int .i64 (pn:Int))) ((t1,.cells #[.bool false,.int .u64 (A:Int),.int .i64 (pn:Int),.bool false,.int .i64 (S:Int)] 26)::((t0,.cells #[.bool false,.int .u64 0,.int .i64 0,.bool false,.int .i64 0] 26)::(H6++(G++F)))):=WN;exact h.p
   have Ah:=(((jn.setCell ⟨t1,0,none⟩ (.bool false)).setCell ⟨t1,3,none⟩ (.bool false)).setCell ⟨t1,4,none⟩ (.int .i64 (S:Int))).setCell ⟨t1,2,none⟩ (.int .i64 (pn:Int));have kh:=aa Ly;have Tx:=aa Ah;clear WN vz bC jn Ly Ah;go_upto_region 12 with fail
   clear z0 z1 z2 z3 z4 u0 u1 u2 u3 u4 ul;generalize(((w6.setCell ⟨t1,0,none⟩ (.bool false)).setCell ⟨t1,3,none⟩ (.bool false)).setCell ⟨t1,4,none⟩ (.int .i64 (S:Int))).setCell ⟨t1,2,none⟩ (.int .i64 (pn:Int))=wS at*;obtain⟨z0,z1,z2,z3,z4⟩:=kh.o.tail.note;obtain⟨o0,o1,o2,o3,o4⟩:=kh.o.note;have u0:=kh.o.ah 0;have u1:=kh.o.ah 1;have u2:=kh.o.ah 2;have u3:=kh.o.ah 3;have u4:=kh.o.ah 4;have ul:=kh.o.aG;have uz:=Holds.set (Holds.set (Holds.set (Holds.set (Holds.set kh.o 0 (.bool false)) 1 (.int .u64 (A:Int))) 2 (.int .i64 (pn:Int))) 3 (.bool false)) 4 (.int .i64 (S:Int));have Js:=((((Tx.o.setCell ⟨t0,0,none⟩ (.bool false)).setCell ⟨t0,1,none⟩ (.int .u64 (A:Int))).setCell ⟨t0,2,none⟩ (.int .i64 (pn:Int))).setCell ⟨t0,3,none⟩ (.bool false)).setCell ⟨t0,4,none⟩ (.int .i64 (S:Int));have zJ:=aa (show Holds (((((wS.setCell ⟨t0,0,none⟩ (.bool false)).setCell ⟨t0,1,none⟩ (.int .u64 (A:Int))).setCell ⟨t0,2,none⟩ (.int .i64 (pn:Int))).setCell ⟨t0,3,none⟩ (.bool false)).setCell ⟨t0,4,none⟩ (.int .i64 (S:Int))) ((t0,.cells #[.bool false,.int .u64 (A:Int),.int .i64 (pn:Int),.bool false,.int .i64 (S:Int)] 26)::((t1,.cells #[.bool false,.int .u64 (A:Int),.int .i64 (pn:Int),.bool false,.int .i64 (S:Int)] 26)::(H6++(G++F))))from uz);have Of:=aa Js;clear uz Js kh Tx;go_wp2_with fail
   clear z0 z1 z2 z3 z4 u0 u1 u2 u3 u4 ul o0 o1 o2 o3 o4;obtain⟨z0,z1,z2,z3,z4⟩:=zJ.o.note;have hF5:=zJ.o;have iU:=Of.o;generalize((((wS.setCell ⟨t0,0,none⟩ (.bool false)).setCell ⟨t0,1,none⟩ (.int .u64 (A:Int))).setCell ⟨t0,2,none⟩ (.int .i64 (pn:Int))).setCell ⟨t0,3,none⟩ (.bool false)).setCell ⟨t0,4,none⟩ (.int .i64 (S:Int))=w9 at*;refine bodyPost_ret (v:=.agg #[.bool false,.int .u64 (A:Int),.int .i64 (pn:Int),.bool false,.int .i64 (S:Int)]) (by rw[eP rfl];go_simp) rfl ⟨H6,rfl,HR6.o,hF5.p,iU⟩
theorem B0:rP Tryz.prog 114 26 5 40 (.agg #[.bool false,.int .u64 0,.int .i64 0,.bool false,.int .i64 0]):=rP.mk' (by kernel_rfl) (by kernel_rfl) (by rfl) (by decide)
theorem Bt.bad{rb:Nat}{L:List UInt8}{G H X:HL}{w:World}(h:Bt rb L G H)(hH:Holds w (H++X)):w.cell? ⟨rb,1,none⟩=some (.bool false):=by
 obtain⟨v,Hp,rfl,_⟩:=h;exact(show Holds w ((rb,.cells #[v,.bool false] 251)::(Hp++X))from hH).ae 1
theorem fM.val{v:Value}{ns:List Nt}{H:HL}(h:fM v ns H):∃A c,v=.slice A ns.length c:=au.val h
theorem CY(a b:List Nt):yX (a++b)=yX a++yX b:=by unfold yX;rw[dm,qe]
theorem fM.fr{v:Value}{ns:List Nt}{H F:HL}(h:fM v ns H):cU (H++F) v ns:=fun w hw=>au.reads h hw
def ahk(rb z:Nat)(ns:List Nt)(w:World)(Fr:HL)(ov iv:Value)(wr:World):Prop:=
 ∃(k:Nat) (H Ho:HL),k<=ns.length∧iv=.int .u64 k∧Bt rb (((ns.drop k).map dD).flatten++List.replicate z 0) Fr H∧fM ov (ns.take k) Ho∧Holds wr (H++(Fr++Ho))∧af w wr
theorem Ns(size:Nat)(v:Value)(ns:List Nt)(w:World)(Fr:HL)(hv:bN Fr v (eX ns size))(hH:Holds w Fr)(iu:∀n∈ns,n.vg)(hlen:ns.length<=1000)(cj:ns.all Nt.ok=true)(kU:128<=size)(tg:size<=256)(hf:(dB ns).length<=size):
  Calls Tryz.prog 121 #[v] w fun e w'=>∃v' H',e=.returned (.tuple #[v',.nilIface])∧fM v' ns H'∧Holds w' (H'++Fr)∧af w w':=by
 have HV:=aa hv;have Am:=aa iu;have lR:=aa (List.all_eq_true.1 cj);have sr:=aa cj;have k1:=nil_eq;have k2:=cC;have ik:=nY hf;obtain⟨z,hz⟩:∃z,z=size-(dB ns).length:=⟨_,rfl⟩;have HSP:=aa (show eX ns size=dH (ns.length:Int)++((ns.map dD).flatten++List.replicate z 0) by rw[hz];unfold eX dB;rw[cE]);have HF:=aa hf;obtain⟨_,A,c,rfl,ff,gT,cm⟩:=hv w hH;have ax:=hH.alloc (.cells #[.slice A (eX ns size).length c,.bool false] 251);have aK:=(af.refl w).alloc (.cells #[.slice A (eX ns size).length c,.bool false] 251);have hr0:Bt w.heap.size (dH (ns.length:Int)++((ns.map dD).flatten++List.replicate z 0)) Fr [(w.heap.size,.cells #[.slice A (eX ns size).length c,.bool false] 251)]:=by
  rw[<-HSP.o];exact⟨_,[],rfl,fun wx hx=>HV.o wx hx⟩
 rw[ik]at ax aK hr0 HV⊢;clear hv iu cj hH cm ff gT hz;go_enter func121,ntmps121;go_upto_region 2 with fail
 generalize w.alloc (.cells #[.slice A size c,.bool false] 251)=w1 at*;generalize w.heap.size=rb at*;have hlz:(dH (ns.length:Int)++((ns.map dD).flatten++List.replicate z 0)).length=size:=by rw[<-HSP.o,ik]
 have HN:=aa (qz rb ns.length ((ns.map dD).flatten++List.replicate z 0) w1 _ Fr [] hr0 (by simpa using ax) (by omega) (by rw[hlz];omega));have HLZ:=aa (show((ns.map dD).flatten++List.replicate z 0).length<=256 by rw[aY]at hlz;omega);clear hr0 ax hlz ik;go_wp2_with fail
 refine HN.o.mono ?_;rintro e w2⟨H2,rfl,Tu,aB,aX⟩;have bD:ahk rb z ns w Fr (.slice none 0 0) (.int .u64 0) w2:=⟨0,H2,[],by omega,rfl,Tu,au.nil _ _,aB,aK.trans aX⟩;clear HN Tu aB aX aK;go_wp2_with fail
 go_loopw [6,7] (fun ov iv wr=>ahk rb z ns w Fr ov iv wr) (fun _ iv _=>ns.length-(intOf iv).toNat)
 case atStart=>exact bD
 case round=>
  clear bD;obtain⟨k,H,Ho,hk,rfl,hr,ho,hH,hg⟩:=hrel;have tO:=hr.bad hH;by_cases aG:k<ns.length
  ·have dQ:(k:Int)<ns.length:=by omega
   have hwk:IntKind.u64.wrap ((k:Int)+1)=k+1:=by rw[IntKind.wrap_u64];omega
   have xE:=aa (Am.o _ (cX aG));have HMO:=aa (lR.o _ (cX aG));have jP:=aa (show ns.take (k+1)=ns.take k++[ns[k]]from gB aG);rw[nF aG,ku,kr,cE]at hr;have tU:(dD ns[k]++(((ns.drop (k+1)).map dD).flatten++List.replicate z 0)).length<=100000:=by
    have h1:=tD ns[k];have h2:=qy (ns.drop (k+1));have h3:=HLZ.o;rw[aY,gV]at h3;rw[dA]at h2;rw[aY,aY,gV];omega
   generalize ns[k]=n at*;have HRN:=aa (Nr rb n (((ns.drop (k+1)).map dD).flatten++List.replicate z 0) wr H Fr Ho hr hH xE.o HMO.o tU);have HO:=aa ho;have HOL:=aa (show(ns.take k).length<=1000 by rw[dG];omega);obtain⟨tk,oT⟩:∃tk,tk=ns.take k:=⟨_,rfl⟩;rw[<-oT]at HO HOL jP;obtain⟨A5,c5,rfl⟩:=HO.o.val;clear hr ho hH tU oT;go_wp2_with fail
   refine HRN.o.mono ?_;rintro e w3⟨H3,rfl,Oc,aD,bj⟩;have cf:=hg.trans bj;have FN:=aa Oc;have FX:Holds w3 (Ho++(H3++Fr)):=aD.p;rw[show n.agg=.agg #[.bool n.gone,.int .u64 n.e.addr,.int .i64 n.e.aW,.bool n.e.bR,.int .i64 n.e.seq]from rfl];clear Oc aD bj hg HRN tO;go_wp2_with (at_builtin;refine al B0 (by rfl) (.tmp 27) (.tmp 30) (by rfl) (by rfl) (by rfl) HO.o (FX.bP _) (ag.many (w:=w3) (n:=1) (size:=5) (cs:=#[.bool n.gone,.int .u64 n.e.addr,.int .i64 n.e.aW,.bool n.e.bR,.int .i64 n.e.seq]) (by rfl) (by simp[maxLen])) (by simp[Value.oneCell']) (by have:=HOL.o;simp only[maxLen];omega) (by have:=HOL.o;omega) ?_;intro A' c' w' H' ay di jG)
   refine⟨⟨k+1,H3,H',by omega,by go_num,FN.o,?_,di.p,(cf.alloc _).trans jG⟩,by simp[intOf];omega⟩;rw[jP.o];unfold fM;rw[aY,CY];exact ay
  ·have dQ:¬(k:Int)<ns.length:=by omega
   obtain rfl:k=ns.length:=by omega
   rw[fB]at ho;have HO:=aa ho;obtain⟨A5,c5,rfl⟩:=ho.val;have FX:Holds wr (Ho++(H++Fr)):=hH.p;have HL:=aa (Fq size (.slice A5 ns.length c5) ns wr _ (HO.o.fr (F:=H++Fr)) FX Am.o hlen sr.o kU tg HF.o);clear hr ho hH FX hk aG;go_wp2_with fail
   refine HL.o.mono ?_;rintro e w3⟨v3,H3,rfl,jF,aD,bj⟩;have cf:=hg.trans bj;have vq:=aa (CX v3 (.slice A size c) _ _ w3 (jF.at_ aD) (HV.o w3 aD.p));rw[decide_eq_true rfl]at vq;have Iy:=aa aD;clear HL bj hg aD tO dQ;obtain⟨A6,c6,rfl⟩:=jF.val;clear jF;go_wp2_with fail
   refine vq.o.mono ?_;rintro e wx⟨rfl,rfl⟩;go_wp2_with fail
   go_ret2
   exact⟨_,Ho,rfl,HO.o,Iy.o.p,cf⟩
def jy(Fr:HL)(v:Value)(es:List az):Prop:=∀w,Holds w Fr->eC w v es
def az.fit(e:az):Prop:=(0<=e.addr∧e.addr<18446744073709551616)∧(0<=e.aW∧e.aW<=255)∧(1<=e.seq∧e.seq<=1099511627775)
theorem Ru(bs:List UInt8):(cq bs).size=bs.length:=by show bs.toArray.size=_;simp
theorem AJ{n:Nat}(h:n<256):Value.int .u8 (n:Int)=bh (UInt8.ofNat n):=by
 unfold bh;congr 1;simp only[vQ];omega
theorem ar.two{v:Value}{bs:List UInt8}{H:HL}{u1 u2:Value}{x y:UInt8}(h:au 5 1 v (bs.length+2) (bs.map bh++[u1,u2]) H)(hu:u1=bh x)(hv:u2=bh y):ar v (bs++[x,y]) H:=by
 unfold ar;rw[aY,dm,ku,List.map_singleton,<-hu,<-hv];exact h
theorem Nu(l:List az)(e:az):kA (l++[e])=kA l++Qe e:=by unfold kA;rw[dm,qe];simp
theorem VX{p:Int}(h0:0<=p)(h1:p<=255):bits BinOp.or IntKind.u64 p 32768=p+32768:=by
 obtain⟨n,rfl⟩:=Int.eq_ofNat_of_zero_le h0;rw[show(32768:Int)=((32768:Nat):Int)from rfl,bits_or_u64_nat _ _ (by omega) (by omega)];have h3:=Nat.two_pow_add_eq_or_of_lt (i:=15) (b:=n) (by omega) 1;rw[Nat.or_comm,show(32768:Nat)=2^15*1 from rfl,<-h3];omega
def ahl(hd:List UInt8)(es:List az)(w:World)(Fr:HL)(bv iv:Value)(wr:World):Prop:=
 ∃(k:Nat) (H:HL),k<=es.length∧iv=.int .i64 k∧ar bv (hd++kA (es.take k)) H∧Holds wr (H++Fr)∧af w wr
theorem CZ(size number parts:Nat)(name:List UInt8)(ev:Value)(es:List az)(w:World)(Fr:HL)(hv:jy Fr ev es)(hH:Holds w Fr)(iu:∀e∈es,e.fit)(qP:name.length<=36)(qM:number<65536)(tS:parts<65536)(fT:42+es.length*15<=size)(tg:size<=256):
  Calls Tryz.prog 129 #[.int .i64 (size:Int),.int .i64 (number:Int),.int .i64 (parts:Int),.string (cq name),ev] w (cB (fun v H=>ar v (xT size number parts name es) H) w Fr):=by
 have HV:=aa hv;have Am:=aa iu;obtain⟨A,c,rfl⟩:=(hv w hH).val;have u7:IntKind.u64.wrap (number:Int)=number:=by rw[IntKind.wrap_u64];omega
 have PE:IntKind.u64.wrap (parts:Int)=parts:=by rw[IntKind.wrap_u64];omega
 have hw3:IntKind.u8.wrap (es.length:Int)=es.length:=by rw[IntKind.wrap_u8];omega
 have WL:IntKind.u8.wrap (name.length:Int)=name.length:=by rw[IntKind.wrap_u8];omega
 have hss:=Ru name;have Sy:=aa (jM (.slice none 0 0) [] (number:Int) 2 w _ (aJ.nK (by simp[maxLen])) hH (by omega) (by omega) (by simp));obtain⟨S,hS⟩:∃S,S=cq name:=⟨_,rfl⟩;rw[<-hS]at hss⊢;have HS:=aa hS;have Oj:es.length<=14:=by omega
 clear hv iu hH hS;go_enter func129,ntmps129;go_wp2_with fail
 refine Sy.o.mono ?_;rintro e w1⟨v1,H1,rfl,jj,ax,aK⟩;have Iv:=aa (jM v1 _ (parts:Int) 2 w1 _ (jj.at_ ax) ax (by omega) (by omega) (by rw[jS,cG];omega));clear Sy jj ax;go_wp2_with fail
 refine Iv.o.mono ?_;rintro e w2⟨v2,H2,rfl,fZ,aB,aX⟩;have cY:=aK.trans aX;have fU:Holds w2 (H2++Fr):=aB.p;obtain⟨B2,Dj⟩:∃B,B=[]++fG (number:Int) 2++fG (parts:Int) 2:=⟨_,rfl⟩;have ahm:B2.length=4:=by rw[Dj,aY,aY,cG,cG];rfl
 rw[<-Dj]at fZ;have PK:=aa Dj;have HB:=aa fZ;obtain⟨A2,c2,rfl⟩:=fZ.val;have rI:=aa ahm;clear Iv fZ aB aK aX Dj ahm;go_upto_region 3 with(at_builtin;refine al ee (by rfl) (.tmp 21) (.tmp 28) (by rfl) (by rfl) (by rfl) HB.o (fU.bP _) (ag.many (w:=w2) (n:=2) (size:=1) (cs:=#[.int .u8 (es.length:Int),.int .u8 (name.length:Int)]) (by rfl) (by simp[maxLen])) (by simp[Value.oneCell']) (by have:=rI.o;simp only[maxLen];omega) (by have:=rI.o;omega) ?_;intro A' c' w' H' ay di jG)
 have jF:ar (.slice A' (B2.length+2) c') (B2++[UInt8.ofNat es.length,UInt8.ofNat name.length]) H':=ar.two ay (AJ (by omega)) (AJ (by omega));obtain⟨B3,hB3⟩:∃B,B=B2++[UInt8.ofNat es.length,UInt8.ofNat name.length]:=⟨_,rfl⟩;have p7:B3.length=B2.length+2:=by rw[hB3];simp
 rw[<-hB3]at jF;have vm:=aa hB3;have HBY:=aa (show au 5 1 (.slice A' (B2.length+2) c') (B2.length+2) (B3.map bh) H' by rw[<-p7];have h:au 5 1 _ B3.length (B3.map bh) H':=jF;rw[p7]at h⊢;exact h);have Lt:=aa p7;have iU:=(cY.alloc _).trans jG;have hwk:IntKind.i64.wrap (36-(name.length:Int))=((36-name.length:Nat):Int):=by rw[fu (by omega) (by omega)];omega
 have anN:wrap64 (36-(name.length:Int))=((36-name.length:Nat):Int):=by unfold wrap64;omega
 clear ay hB3 jF p7 cY jG fU;go_upto_region 4 with(first
  |(at_builtin;refine xp ee (u:=9) (by kernel_rfl) (by rfl) (.tmp 30) (.tmp 31) (by rfl) name (by rfl) (by rw[<-show S=⟨name.toArray⟩from HS.o];rfl) HBY.o di (by have:=rI.o;omega) ?_;intro A8 c8 w8 H8 aar cT ka;have HR8:=aa aar;clear aar)
  |(at_builtin;refine mI ee (u:=.int .u8 0) (it:=3) (by kernel_rfl) (by rfl) (.tmp 32) (.tmp 35) (by rfl) (by rfl) (by rfl) (k:=36-name.length) (by rfl) (by first|rfl|simp) HR8.o cT (by have:=rI.o;omega) ?_;intro A7 c7 w7 H7 zf cA jk))
 obtain⟨HD,Bf⟩:∃HD,HD=Qf number parts name es.length:=⟨_,rfl⟩;have acs:HD.length=42:=by rw[Bf];exact J9 qP
 have ahn:HD=(B3++name)++List.replicate (36-name.length) 0:=by rw[Bf,vm.o,PK.o];unfold Qf;simp[cE]
 have UW:B2.length+2+name.length+(36-name.length)=HD.length:=by rw[acs,rI.o];omega
 have PL:ar (.slice A7 HD.length c7) (HD++kA (es.take 0)) H7:=by
  have h0:kA (es.take 0)=[]:=by simp[kA]
  rw[h0,kZ];have h:au 5 1 (.slice A7 (B2.length+2+name.length+(36-name.length)) c7) (B2.length+2+name.length+(36-name.length)) ((B3.map bh++name.map bh)++List.replicate (36-name.length) (.int .u8 0)) H7:=zf;rw[UW]at h;unfold ar;rw[show HD.map bh=(B3.map bh++name.map bh)++List.replicate (36-name.length) (.int .u8 0) by rw[ahn,dm,dm,List.map_replicate];rfl];exact h
 have fx:=(iU.trans ka).trans jk;have bD:ahl HD es w Fr (.slice A7 HD.length c7) (.int .i64 0) w7:=⟨0,H7,by omega,rfl,PL,cA,fx⟩;rw[UW];have Dl:=aa Bf;have HHL:=aa acs;clear Bf acs ahn UW PL zf cA jk fx ka iU HR8 cT HBY Lt vm PK rI HB di hwk anN;go_wp2_with fail
 go_loopw [11,39] (fun bv iv wr=>ahl HD es w Fr bv iv wr) (fun _ iv _=>es.length-(intOf iv).toNat)
 case atStart=>exact bD
 case round=>
  clear bD;obtain⟨k,H,hk,rfl,hb,hH,hg⟩:=hrel;have Qh:=tB (es.take k);rw[dG]at Qh;by_cases aG:k<es.length
  ·have dQ:(k:Int)<es.length:=by omega
   obtain⟨A9,c9,Ay,_,_,bm⟩:=(HV.o wr hH.right).cells;injection Ay with zZ Gi DZ;subst zZ DZ;obtain⟨b,o,rfl,ae⟩:=bm (by omega);obtain⟨y0,y1,y2,y3⟩:=ae k aG;have xE:=aa (Am.o _ (cX aG));have jP:=aa (show HD++kA (es.take (k+1))=((((HD++kA (es.take k))++fG es[k].addr 8)++fG es[k].seq 5)++fG (es[k].aW+if es[k].bR then 32768 else 0) 2) by
    rw[gB aG,Nu];unfold Qe;simp only[cE])
   generalize es[k]=n at*;obtain⟨ea,ep,ed,eq⟩:=n;dsimp only at y0 y1 y2 y3 jP;obtain⟨⟨AY,As⟩,⟨rH,sk⟩,kU,nE⟩:=xE.o;dsimp only at AY As rH sk kU nE;obtain⟨BL,Tv⟩:∃BL,BL=HD++kA (es.take k):=⟨_,rfl⟩;have Qi:=aa (show BL.length<=300 by rw[Tv,aY,HHL.o,Qh];omega);rw[<-Tv]at hb jP;have HB:=aa hb;obtain⟨A5,c5,rfl⟩:=hb.val;have bM:=hH.alloc (.cells #[.int .u64 ea,.int .i64 ep,.bool ed,.int .i64 eq] 24);have cJ:=hg.alloc (.cells #[.int .u64 ea,.int .i64 ep,.bool ed,.int .i64 eq] 24);clear hb hH hg Tv ae bm xE;go_upto_region 7 with fail
   clear y0 y1 y2 y3;generalize wr.alloc (.cells #[.int .u64 ea,.int .i64 ep,.bool ed,.int .i64 eq] 24)=wA at*;generalize wr.heap.size=t at*;have dj:=aa (fun(wx:World) (F:HL) (h:Holds wx ((t,.cells #[.int .u64 ea,.int .i64 ep,.bool ed,.int .i64 eq] 24)::F))=>show wx.cell? ⟨t,0,none⟩=some (.int .u64 ea)∧wx.cell? ⟨t,1,none⟩=some (.int .i64 ep)∧wx.cell? ⟨t,2,none⟩=some (.bool ed)∧wx.cell? ⟨t,3,none⟩=some (.int .i64 eq)from⟨h.ae 0,h.ae 1,h.ae 2,h.ae 3⟩);obtain⟨z0,z1,z2,z3⟩:=dj.o _ _ bM;have hwp:IntKind.u64.wrap ep=ep:=by rw[IntKind.wrap_u64];omega
   have hwq:IntKind.u64.wrap eq=eq:=by rw[IntKind.wrap_u64];omega
   cases ed with
   |true=>
    have hor:=VX rH sk;go_upto_region 10 with fail
    clear z0 z1 z2 z3 hor;refine aF (fun wx=>wx.cell? ⟨t,0,none⟩=some (.int .u64 ea)∧wx.cell? ⟨t,1,none⟩=some (.int .i64 ep)∧wx.cell? ⟨t,2,none⟩=some (.bool true)∧wx.cell? ⟨t,3,none⟩=some (.int .i64 eq)) 11 (by kernel_rfl) (fun w1 hd=>dj.o _ _ (bM.dr hd)) (fun w1 hd hs=>?_);have dZ:=bM.dr hd;have iZ:=cJ.trans (af.dr hd);clear hd bM cJ;refine dY 0 1 2 4 ?_;refine Ag 5 6 8 ?_;refine Zm 3 fun K hK=>?_;go_simp;refine(jM _ BL ea 8 w1 _ (HB.o.at_ (Fr:=(t,.cells #[.int .u64 ea,.int .i64 ep,.bool true,.int .i64 eq] 24)::Fr) dZ.p) dZ (by omega) (by omega) (by have:=Qi.o;omega)).mono ?_;rintro e w3 ⟨v3,H3,rfl,jF,aD,bj⟩;have vm:=aa jF;have cf:=iZ.trans bj;have qJ:Holds w3 ((t,.cells #[.int .u64 ea,.int .i64 ep,.bool true,.int .i64 eq] 24)::(H3++Fr)):=aD.p;clear jF aD dZ bj iZ;refine hK _ _ (dj.o _ _ qJ) (fun _=>?_);clear hK K hs;rename_i hs;refine Zm 7 fun K hK=>?_;go_simp;refine(jM _ _ eq 5 w3 _ (vm.o.at_ (Fr:=(t,.cells #[.int .u64 ea,.int .i64 ep,.bool true,.int .i64 eq] 24)::Fr) qJ.p) qJ (by omega) (by omega) (by have:=Qi.o;simp[cG];omega)).mono ?_;rintro e w4 ⟨v4,H4,rfl,pG,aU,bV⟩;have Du:=aa pG;have bI:=cf.trans bV;have Bf:Holds w4 ((t,.cells #[.int .u64 ea,.int .i64 ep,.bool true,.int .i64 eq] 24)::(H4++Fr)):=aU.p;clear pG aU qJ bV cf;refine hK _ _ (dj.o _ _ Bf) (fun _=>?_);clear hK K hs;rename_i hs;refine Zm 9 fun K hK=>?_;go_simp;refine(jM _ _ (ep+32768) 2 w4 _ (Du.o.at_ (Fr:=(t,.cells #[.int .u64 ea,.int .i64 ep,.bool true,.int .i64 eq] 24)::Fr) Bf.p) Bf (by omega) (by omega) (by have:=Qi.o;simp[cG];omega)).mono ?_;rintro e w5 ⟨v5,H5,rfl,zM,bg,dJ⟩;have PI:=aa zM;have eY:=bI.trans dJ;have zL:Holds w5 ((t,.cells #[.int .u64 ea,.int .i64 ep,.bool true,.int .i64 eq] 24)::(H5++Fr)):=bg.p;clear zM bg Bf dJ bI;refine hK _ _ (dj.o _ _ zL) (fun _=>?_);clear hK K hs;rename_i hs;refine ji 10 ?_;refine Ze ?_;clear hs;go_wp2_with fail
    refine⟨⟨k+1,H5,by omega,by go_num,?_,zL.tail,eY⟩,by simp[intOf];omega⟩;rw[jP.o,show(ep+if true=true then(32768:Int)else 0)=(ep+32768) by simp];exact PI.o
   |false=>
    go_upto_region 10 with fail
    clear z0 z1 z2 z3;refine aF (fun wx=>wx.cell? ⟨t,0,none⟩=some (.int .u64 ea)∧wx.cell? ⟨t,1,none⟩=some (.int .i64 ep)∧wx.cell? ⟨t,2,none⟩=some (.bool false)∧wx.cell? ⟨t,3,none⟩=some (.int .i64 eq)) 11 (by kernel_rfl) (fun w1 hd=>dj.o _ _ (bM.dr hd)) (fun w1 hd hs=>?_);have dZ:=bM.dr hd;have iZ:=cJ.trans (af.dr hd);clear hd bM cJ;refine dY 0 1 2 4 ?_;refine Ag 5 6 8 ?_;refine Zm 3 fun K hK=>?_;go_simp;refine(jM _ BL ea 8 w1 _ (HB.o.at_ (Fr:=(t,.cells #[.int .u64 ea,.int .i64 ep,.bool false,.int .i64 eq] 24)::Fr) dZ.p) dZ (by omega) (by omega) (by have:=Qi.o;omega)).mono ?_;rintro e w3 ⟨v3,H3,rfl,jF,aD,bj⟩;have vm:=aa jF;have cf:=iZ.trans bj;have qJ:Holds w3 ((t,.cells #[.int .u64 ea,.int .i64 ep,.bool false,.int .i64 eq] 24)::(H3++Fr)):=aD.p;clear jF aD dZ bj iZ;refine hK _ _ (dj.o _ _ qJ) (fun _=>?_);clear hK K hs;rename_i hs;refine Zm 7 fun K hK=>?_;go_simp;refine(jM _ _ eq 5 w3 _ (vm.o.at_ (Fr:=(t,.cells #[.int .u64 ea,.int .i64 ep,.bool false,.int .i64 eq] 24)::Fr) qJ.p) qJ (by omega) (by omega) (by have:=Qi.o;simp[cG];omega)).mono ?_;rintro e w4 ⟨v4,H4,rfl,pG,aU,bV⟩;have Du:=aa pG;have bI:=cf.trans bV;have Bf:Holds w4 ((t,.cells #[.int .u64 ea,.int .i64 ep,.bool false,.int .i64 eq] 24)::(H4++Fr)):=aU.p;clear pG aU qJ bV cf;refine hK _ _ (dj.o _ _ Bf) (fun _=>?_);clear hK K hs;rename_i hs;refine Zm 9 fun K hK=>?_;go_simp;refine(jM _ _ ep 2 w4 _ (Du.o.at_ (Fr:=(t,.cells #[.int .u64 ea,.int .i64 ep,.bool false,.int .i64 eq] 24)::Fr) Bf.p) Bf (by omega) (by omega) (by have:=Qi.o;simp[cG];omega)).mono ?_;rintro e w5 ⟨v5,H5,rfl,zM,bg,dJ⟩;have PI:=aa zM;have eY:=bI.trans dJ;have zL:Holds w5 ((t,.cells #[.int .u64 ea,.int .i64 ep,.bool false,.int .i64 eq] 24)::(H5++Fr)):=bg.p;clear zM bg Bf dJ bI;refine hK _ _ (dj.o _ _ zL) (fun _=>?_);clear hK K hs;rename_i hs;refine ji 10 ?_;refine Ze ?_;clear hs;go_wp2_with fail
    refine⟨⟨k+1,H5,by omega,by go_num,?_,zL.tail,eY⟩,by simp[intOf];omega⟩;rw[jP.o,show(ep+if false=true then(32768:Int)else 0)=ep by simp];exact PI.o
  ·have dQ:¬(k:Int)<es.length:=by omega
   obtain rfl:k=es.length:=by omega
   rw[fB]at hb Qh;obtain⟨L,hL⟩:∃L,L=HD++kA es:=⟨_,rfl⟩;have Xm:L.length=42+es.length*15:=by rw[hL,aY,HHL.o,Qh,Nat.min_self]
   rw[<-hL]at hb;have HL:=aa hL;have HLL:=aa Xm;have HB:=aa hb;obtain⟨A5,c5,rfl⟩:=hb.val;have hwz:IntKind.i64.wrap ((size:Int)-L.length)=((size-L.length:Nat):Int):=by rw[fu (by omega) (by omega)];omega
   have auP:wrap64 ((size:Int)-L.length)=((size-L.length:Nat):Int):=by unfold wrap64;omega
   clear hb hL Xm aG hk;go_wp2_with (at_builtin;refine mI ee (u:=.int .u8 0) (it:=3) (by kernel_rfl) (by rfl) (.tmp 61) (.tmp 65) (by rfl) (by rfl) (by rfl) (k:=size-L.length) (by rfl) (by first|rfl|simp) HB.o hH (by have:=HLL.o;omega) ?_;intro A' c' w' H' ay aB aX)
   go_ret;refine⟨_,H',rfl,?_,aB,hg.trans aX⟩;rw[show xT size number parts name es=L++List.replicate (size-L.length) 0 by rw[HLL.o,HL.o,Dl.o];rfl];exact ar.aaq ay
theorem C0(e:az)(w:World)(iu:e.fit):Calls Tryz.prog 229 #[e.agg] w fun e w'=>e=.returned (.bool true)∧Below w.heap.size w w':=by
 obtain⟨a,p,d,s⟩:=e;obtain⟨⟨AY,As⟩,⟨rH,sk⟩,kU,tg⟩:=iu;dsimp only at AY As rH sk kU tg;simp only[az.agg];go_enter func229,ntmps229;go_wp2_with fail
 go_ret;exact⟨rfl,(Below.refl _ _).alloc (aN _) _⟩
def Gj(f:Nat->Bool)(p:Nat)(x:Bool):Nat->Bool:=fun q=>if q=p then x else f q
def fK(is:Nat->Bool):Obj:=.cells ((List.range 256).map fun j=>Value.bool (is j)).toArray 72
theorem sL{w:World}{gb:Nat}{is:Nat->Bool}{H:HL}(h:Holds w ((gb,fK is)::H))(p:Nat)(x:Bool):Holds (w.setCell ⟨gb,p,none⟩ (.bool x)) ((gb,fK (Gj is p x))::H):=by
 have h2:=Holds.set h p (.bool x);have e:((List.range 256).map fun j=>Value.bool (is j)).toArray.setIfInBounds p (.bool x)=((List.range 256).map fun j=>Value.bool (Gj is p x j)).toArray:=by
  rw[List.setIfInBounds_toArray];congr 1;refine List.ext_getElem? fun j=>?_;rw[List.getElem?_set,dW,dW];unfold Gj;by_cases hj:j<256
  ·rw[pf hj];by_cases e:p=j
   ·subst e;rw[if_pos rfl,if_pos (by simpa using hj)];simp
   ·rw[if_neg e];simp[Ne.symm e]
  ·have hn:(List.range 256)[j]?=none:=List.getElem?_eq_none_iff.2 (by simpa using hj);rw[hn];by_cases e:p=j
   ·subst e;rw[if_pos rfl,if_neg (by simpa using hj)];rfl
   ·rw[if_neg e];rfl
 rw[e]at h2;exact h2
theorem my{w:World}{gb:Nat}{is:Nat->Bool}{H:HL}(h:Holds w ((gb,fK is)::H)){p:Nat}(hp:p<256):w.cell? ⟨gb,p,none⟩=some (.bool (is p))∧w.frozen? ⟨gb,p,none⟩=false:=by
 refine⟨?_,h.ah p⟩;have:=h.ae p;rw[vO,dW,pf hp]at this;exact this
def dd(es:List az):Prop:=(∀e∈es,e.fit)∧(∀i j (hi:i<es.length) (hj:j<es.length),i<j->es[i].addr<es[j].addr∧es[i].aW≠es[j].aW)
def jf(es:List az)(k:Nat):Nat->Bool:=fun p=>(es.take k).any fun e=>decide (e.aW=(p:Int))
theorem uR{es:List az}{k:Nat}(h:k<es.length){p:Nat}(hp:es[k].aW=(p:Int)):Gj (jf es k) p true=jf es (k+1):=by
 funext q;unfold Gj jf;rw[gB h,List.any_append];by_cases e:q=p
 ·subst e;simp[hp]
 ·rw[if_neg e];have:decide (es[k].aW=(q:Int))=false:=decide_eq_false (by omega);simp[this]
theorem VY{es:List az}(h:dd es){k:Nat}(hk:k<es.length){p:Nat}(hp:es[k].aW=(p:Int)):jf es k p=false:=by
 unfold jf;rw[List.any_eq_false];intro e he;obtain⟨i,hi,rfl⟩:=List.getElem_of_mem he;rw[dG]at hi;have:=(h.2 i k (by omega) hk (by omega)).2;rw[List.getElem_take];simp only[decide_eq_true_eq];omega
theorem wD{w w':World}{H:HL}(h:Holds w H)(hb:Below w.heap.size w w'):Holds w' H∧af w w':=⟨h.below hb (fun p hp=>h.lt hp),⟨hb.os,hb.tape,hb.output,hb.size⟩⟩
theorem swR{eb gb p:Nat}{is:Nat->Bool}{ea eq:Int}{ed:Bool}{H:HL}{wx:World}(h:Holds wx ((eb,.cells #[.int .u64 ea,.int .i64 (p:Int),.bool ed,.int .i64 eq] 24)::((gb,fK is)::H)))(hp:p<256)(lX:is p=false):
  wx.cell? ⟨eb,0,none⟩=some (.int .u64 ea)∧wx.cell? ⟨eb,1,none⟩=some (.int .i64 (p:Int))∧wx.cell? ⟨eb,2,none⟩=some (.bool ed)∧wx.cell? ⟨eb,3,none⟩=some (.int .i64 eq)∧wx.cell? ⟨gb,p,none⟩=some (.bool false):=
 ⟨h.ae 0,h.ae 1,h.ae 2,h.ae 3,by rw[<-lX];exact(my h.tail hp).1⟩
theorem anO{eb gb p:Nat}{is:Nat->Bool}{ea eq:Int}{ed:Bool}{H:HL}{wx:World}{Q:Prop}(h:Holds wx ((eb,.cells #[.int .u64 ea,.int .i64 (p:Int),.bool ed,.int .i64 eq] 24)::((gb,fK is)::H)))(hp:p<256)(lX:is p=false)(q:Q):
  wx.cell? ⟨eb,0,none⟩=some (.int .u64 ea)∧wx.cell? ⟨eb,1,none⟩=some (.int .i64 (p:Int))∧wx.cell? ⟨eb,2,none⟩=some (.bool ed)∧wx.cell? ⟨eb,3,none⟩=some (.int .i64 eq)∧wx.cell? ⟨gb,p,none⟩=some (.bool false)∧Q:=
 have⟨a,b,c,d,e⟩:=swR h hp lX
 ⟨a,b,c,d,e,q⟩
theorem jy.addr{Fr:HL}{es:List az}{b o c:Nat}(hv:jy Fr (.slice (some ⟨b,o,none⟩) es.length c) es){wx:World}(h:Holds wx Fr){i:Nat}(hi:i<es.length):wx.cell? ⟨b,o+i*4,none⟩=some (.int .u64 es[i].addr):=by
 obtain⟨A9,c9,Ay,_,_,bm⟩:=(hv wx h).cells;injection Ay with zZ Gi DZ;obtain⟨b',o',hA,ae⟩:=bm (by omega);rw[hA]at zZ;injection zZ with e;injection e with e1 e2;subst e1 e2;exact(ae i hi).1
theorem kH{k:Nat}(h:k<1000000):wrap64 ((k:Int)+1)=k+1:=by unfold wrap64;omega
theorem VZ{k:Nat}(h:k<1000000):IntKind.i64.wrap ((k:Int)+1)=k+1:=by rw[IntKind.wrap_i64];omega
theorem V0{k:Nat}(h0:0<k)(h:k<1000000):wrap64 ((k:Int)-1)=((k-1:Nat):Int):=by unfold wrap64;omega
theorem Rv{k:Nat}(h0:0<k)(h:k<1000000):IntKind.i64.wrap ((k:Int)-1)=((k-1:Nat):Int):=by rw[IntKind.wrap_i64];omega
def aho(gb:Nat)(es:List az)(w:World)(Fr:HL)(iv:Value)(wr:World):Prop:=
 ∃k:Nat,k<=es.length∧iv=.int .i64 k∧Holds wr ((gb,fK (jf es k))::Fr)∧af w wr
theorem zA(ev:Value)(es:List az)(w:World)(Fr:HL)(hv:jy Fr ev es)(hH:Holds w Fr)(hr:dd es)(hn:es.length<=256):Calls Tryz.prog 190 #[ev] w (cM (.bool true) w Fr):=by
 have HV:=aa hv;have HR:=aa hr;obtain⟨A,c,rfl⟩:=(hv w hH).val;have dZ:=hH.alloc (fK fun _=>false);have iZ:=(af.refl w).alloc (fK fun _=>false);clear hv hr hH;go_enter func190,ntmps190;go_upto_region 2 with fail
 rw[show Obj.cells Tryz.zeroCells72 72=fK fun _=>false by kernel_rfl];generalize w.alloc (fK fun _=>false)=w2 at*;generalize w.heap.size=gb at*;have Jt:aho gb es w Fr (.int .i64 0) w2:=⟨0,by omega,rfl,dZ,iZ⟩;clear dZ iZ;go_wp2_with fail
 go_loopw [8] (fun iv wr=>aho gb es w Fr iv wr) (fun i _=>es.length-(intOf i).toNat)
 case atStart=>exact Jt
 case round=>
  clear Jt;obtain⟨k,hk,rfl,eh,gf⟩:=hrel;by_cases aG:k<es.length
  ·have dQ:(k:Int)<es.length:=by omega
   obtain⟨A9,c9,Ay,_,_,bm⟩:=(HV.o wr eh.tail).cells;injection Ay with zZ Gi DZ;subst zZ DZ;obtain⟨b,o,rfl,ae⟩:=bm (by omega);obtain⟨y0,y1,y2,y3⟩:=ae k aG;have PZ:=aa (HR.o.1 _ (cX aG));have HAD:=aa (show 0<k->∀h:k-1<es.length,es[k-1].addr<es[k].addr from fun h0 h=>(HR.o.2 (k-1) k h aG (by omega)).1);have DA:=aa (fun p hp=>VY (p:=p) HR.o aG hp);have Ox:=aa (fun p hp=>uR (es:=es) (p:=p) aG hp);generalize es[k]=n at*;obtain⟨ea,ep,ed,eq⟩:=n;dsimp only at y0 y1 y2 y3 HAD DA Ox;obtain⟨⟨AY,As⟩,⟨rH,sk⟩,kU,nE⟩:=PZ.o;dsimp only at AY As rH sk kU nE;obtain⟨p,rfl⟩:=Int.eq_ofNat_of_zero_le rH;have lX:=DA.o p rfl;have Ty:=Ox.o p rfl;have ZJ:p<256:=by omega
   have hpI:(p:Int)<256:=by omega
   clear rH sk AY As kU nE DA Ox;have bM:=eh.alloc (.cells #[.int .u64 ea,.int .i64 (p:Int),.bool ed,.int .i64 eq] 24);have cJ:=gf.alloc (.cells #[.int .u64 ea,.int .i64 (p:Int),.bool ed,.int .i64 eq] 24);clear ae bm eh gf;go_upto_region 5 with fail
   generalize wr.alloc (.cells #[.int .u64 ea,.int .i64 (p:Int),.bool ed,.int .i64 eq] 24)=w1 at*;generalize wr.heap.size=eb at*;clear y0 y1 y2 y3;by_cases rQ:k=0
   ·subst rQ;have dj:=aa (fun(wx:World) (h:Holds wx ((eb,.cells #[.int .u64 ea,.int .i64 (p:Int),.bool ed,.int .i64 eq] 24)::((gb,fK (jf es 0))::Fr)))=>swR h ZJ lX);refine aF (fun wx=>wx.cell? ⟨eb,0,none⟩=some (.int .u64 ea)∧wx.cell? ⟨eb,1,none⟩=some (.int .i64 (p:Int))∧wx.cell? ⟨eb,2,none⟩=some (.bool ed)∧wx.cell? ⟨eb,3,none⟩=some (.int .i64 eq)∧wx.cell? ⟨gb,p,none⟩=some (.bool false)) 24 (by kernel_rfl) (fun w1 hd=>dj.o _ (bM.dr hd)) (fun w1 hd hs=>?_);have aB:=bM.dr hd;have cY:=cJ.trans (af.dr hd);clear hd bM cJ;refine ji 0 ?_;refine Zm 1 fun K hK=>?_;go_simp;refine(C0 ⟨ea,(p:Int),ed,eq⟩ w1 PZ.o).mono ?_;rintro e w3 ⟨rfl,jF⟩;obtain⟨aD,bj⟩:=wD aB jF;have cf:=cY.trans bj;clear jF bj cY;refine hK _ _ (dj.o _ aD) (fun _=>?_);clear hK K hs;rename_i hs;refine dY 2 3 4 5 ?_;refine dY 6 7 8 9 ?_;refine Ag 10 11 12 ?_;refine Zs 13 26 rfl hs ?_;simp only[pt,sA,sS,sZ];refine Zs 14 27 rfl hs ?_;simp only[pt,sA,sS,sZ];refine Zs 15 28 rfl hs ?_;simp only[pt,sA,sS,sZ];refine Zs 16 29 rfl hs ?_;simp only[pt,sA,sS,sZ];refine Zs 17 30 rfl hs ?_;simp only[pt,sA,sS,sZ];refine Zs 18 31 rfl hs ?_;simp only[pt,sA,sS,sZ];refine Zs 19 32 rfl hs ?_;simp only[pt,sA,sS,sZ];refine Zs 20 33 rfl hs ?_;simp only[pt,sA,sS,sZ];refine Zs 21 34 rfl hs ?_;simp only[pt,sA,sS,sZ];refine qL 22 23 ?_;refine Ze ?_;obtain⟨_,z1,_⟩:=dj.o _ aD;obtain⟨z4,z5⟩:=my aD.tail ZJ;rw[lX]at z4;have bg:Holds (w3.setCell ⟨gb,p,none⟩ (.bool true)) ((gb,fK (jf es (0+1)))::Fr):=by rw[<-Ty];exact sL aD.tail p true
    have eY:=cf.setCell ⟨gb,p,none⟩ (.bool true);have zP:wrap64 ((0:Int)+1)=0+1:=by unfold wrap64;omega
    have ahp:IntKind.i64.wrap ((0:Int)+1)=0+1:=by rw[IntKind.wrap_i64];omega
    clear dj aD cf lX Ty PZ HAD;go_wp2_with fail
    go_roundw
    case rel=>exact⟨0+1,by omega,by simp,bg,eY⟩
    case measure=>
     simp[intOf];omega
   ·have hkI:(0:Int)<k:=by omega
    have Sx:k-1<es.length:=by omega
    have X0:0<k:=by omega
    have hpa:=HAD.o X0 Sx;have Sw:∀wx,Holds wx Fr->wx.cell? ⟨b,o+(k-1)*4,none⟩=some (.int .u64 (es[k-1]'Sx).addr):=fun wx h=>jy.addr HV.o h Sx;generalize(es[k-1]'Sx).addr=pa at Sw hpa;clear Sx;have HPC:=aa Sw;clear Sw;have hle:¬ea<=pa:=by omega
    have p6:((k-1:Nat):Int)<es.length:=by omega
    have qO:(0:Int)<=((k-1:Nat):Int):=by omega
    have hkm:k<1000000:=by omega
    have hks:=Rv X0 hkm;have anP:=V0 X0 hkm;have dj:=aa (fun(wx:World) (h:Holds wx ((eb,.cells #[.int .u64 ea,.int .i64 (p:Int),.bool ed,.int .i64 eq] 24)::((gb,fK (jf es k))::Fr)))=>anO h ZJ lX (HPC.o _ h.tail.tail));refine aF (fun wx=>wx.cell? ⟨eb,0,none⟩=some (.int .u64 ea)∧wx.cell? ⟨eb,1,none⟩=some (.int .i64 (p:Int))∧wx.cell? ⟨eb,2,none⟩=some (.bool ed)∧wx.cell? ⟨eb,3,none⟩=some (.int .i64 eq)∧wx.cell? ⟨gb,p,none⟩=some (.bool false)∧wx.cell? ⟨b,o+(k-1)*4,none⟩=some (.int .u64 pa)) 24 (by kernel_rfl) (fun w1 hd=>dj.o _ (bM.dr hd)) (fun w1 hd hs=>?_);have aB:=bM.dr hd;have cY:=cJ.trans (af.dr hd);clear hd bM cJ;refine ji 0 ?_;refine Zm 1 fun K hK=>?_;go_simp;refine(C0 ⟨ea,(p:Int),ed,eq⟩ w1 PZ.o).mono ?_;rintro e w3 ⟨rfl,jF⟩;obtain⟨aD,bj⟩:=wD aB jF;have cf:=cY.trans bj;clear jF bj cY;refine hK _ _ (dj.o _ aD) (fun _=>?_);clear hK K hs;rename_i hs;refine dY 2 3 4 5 ?_;refine dY 6 7 8 9 ?_;refine ji 10 ?_;refine Zt 11 24 (.bool true) rfl hs ?_ ?_
    ·intro wx hx;obtain⟨x0,x1,x2,x3,x4,x5⟩:=hx;go_simp
    simp only[pt,sA,sS,sZ];refine dY 12 13 14 15 ?_;refine ji 16 ?_;refine Zt 17 30 (.int .i64 ((k-1:Nat):Int)) rfl hs ?_ ?_
    ·intro wx hx;obtain⟨x0,x1,x2,x3,x4,x5⟩:=hx;go_simp
    simp only[pt,sA,sS,sZ];refine Ag 18 19 20 ?_;refine Zt 21 34 (.bool false) rfl hs ?_ ?_
    ·intro wx hx;obtain⟨x0,x1,x2,x3,x4,x5⟩:=hx;go_simp
    simp only[pt,sA,sS,sZ];refine qL 22 23 ?_;refine Ze ?_;obtain⟨_,z1,_⟩:=dj.o _ aD;obtain⟨z4,z5⟩:=my aD.tail ZJ;rw[lX]at z4;have bg:Holds (w3.setCell ⟨gb,p,none⟩ (.bool true)) ((gb,fK (jf es (k+1)))::Fr):=by rw[<-Ty];exact sL aD.tail p true
    have eY:=cf.setCell ⟨gb,p,none⟩ (.bool true);clear hks anP;have zP:=kH hkm;have ahp:=VZ hkm;clear dj aD cf lX Ty PZ HAD p6 qO hle hpa HPC X0;generalize((k-1:Nat):Int)=km at*;generalize o+(k-1)*4=om at*;go_wp2_with fail
    go_roundw
    case rel=>exact⟨k+1,aG,by simp,bg,eY⟩
    case measure=>
     clear zP ahp;simp[intOf];omega
  ·have xt:k=es.length:=by omega
   subst xt;have hnI:¬((es.length:Nat):Int)<es.length:=by omega
   go_wp2_with fail
   go_ret;exact⟨rfl,eh.tail,gf⟩
def bA(Z:Nat):Nat:=(Z-42)/15
def aM(Z m:Nat):Nat:=m/bA Z+(if m%bA Z≠0∨m/bA Z=0 then 1 else 0)
def eS(n:Nat)(es:List az)(k:Nat):List az:=(es.drop (k*n)).take n
def cW(Z:Nat)(nm:List UInt8)(es:List az)(k:Nat):List UInt8:=xT Z k (aM Z es.length) nm (eS (bA Z) es k)
theorem Cm{Z:Nat}(h1:128<=Z)(h2:Z<=256):5<=bA Z∧bA Z<=14:=by unfold bA;omega
theorem jB(Z m:Nat):0<aM Z m:=by
 unfold aM;by_cases h:m/bA Z=0
 ·rw[if_pos (aE h)];exact Nat.succ_pos _
 ·exact Nat.lt_of_lt_of_le (Nat.pos_of_ne_zero h) (Nat.le_add_right _ _)
theorem lh{Z:Nat}(h1:128<=Z)(h2:Z<=256){nm:List UInt8}(hn:yZ nm)(es:List az)(k:Nat):(cW Z nm es k).length=Z:=by
 unfold cW;refine Ka (by have:=hn.2.1;omega) ?_;have h3:(eS (bA Z) es k).length<=bA Z:=by unfold eS;rw[dG];omega
 have h4:bA Z*15<=Z-42:=Nat.div_mul_le_self _ _;have:=kY 15 h3;omega
theorem tE:dd []:=⟨fun e he=>absurd he (by simp),fun i j hi=>absurd hi (by simp)⟩
theorem AK{Z:Nat}(h:42<=Z):iN (Z:Int)=(bA Z:Int):=by unfold iN bA;omega
theorem V3{Z m:Nat}(h:42<=Z):jY (Z:Int) (m:Int)=(aM Z m:Int):=by
 unfold jY aM;rw[AK h];have e1:(m:Int)/(bA Z:Int)=((m/bA Z:Nat):Int):=rfl;have e2:(m:Int)%(bA Z:Int)=((m%bA Z:Nat):Int):=rfl;rw[e1,e2];generalize m/bA Z=a;generalize m%bA Z=b;by_cases h:b≠0∨a=0
 ·rw[if_pos h,if_pos (by omega),Int.natCast_add];rfl
 ·rw[if_neg h,if_neg (by omega),Int.natCast_add];rfl
theorem Nx(n:Nat)(es:List az)(k:Nat):es.take (k*n)++eS n es k=es.take ((k+1)*n):=by unfold eS;rw[Nat.succ_mul,List.take_add]
theorem Ny{Z m:Nat}(h:0<bA Z):m<=aM Z m*bA Z:=by
 unfold aM;have h1:=Nat.div_add_mod m (bA Z);have h2:=Nat.mod_lt m h;generalize hq:m/bA Z=q at*;generalize m%bA Z=r at*;by_cases e:r≠0∨q=0
 ·rw[if_pos e,nH,Nat.one_mul,Nat.mul_comm q];omega
 ·rw[if_neg e,fD,Nat.mul_comm q];omega
theorem Cn{Z m k:Nat}(h:k+1<aM Z m):(k+1)*bA Z<=m:=by
 have h1:=Nat.div_mul_le_self m (bA Z);have h2:k+1<=m/bA Z:=by
  unfold aM at h;split at h<;>omega
 have:=kY (bA Z) h2;omega
theorem Fs{Z m k:Nat}(h0:0<bA Z)(h:k+1=aM Z m):k*bA Z<m∨k=0:=by
 unfold aM at h;have h1:=Nat.div_add_mod m (bA Z);have h2:=Nat.mod_lt m h0;generalize hn:bA Z=n at*;generalize m/n=q at*;generalize m%n=r at*;rw[Nat.mul_comm]at h1;by_cases e:r≠0∨q=0
 ·rw[if_pos e]at h;obtain rfl:k=q:=by omega
  rcases e with e|e
  ·left;omega
  ·right;exact e
 ·rw[if_neg e]at h
  left
  have:q=k+1:=by omega
  rw[this,Nat.succ_mul]at h1;omega
theorem uS(Z:Nat)(es:List az)(k:Nat):(eS (bA Z) es k).length<=bA Z:=by unfold eS;rw[dG];omega
theorem V4{Z:Nat}{es:List az}{k:Nat}(h:k+1<aM Z es.length):(eS (bA Z) es k).length=bA Z:=by
 have:=Cn h;rw[Nat.succ_mul]at this;unfold eS;rw[dG,dA];omega
theorem RB{Z:Nat}{es:List az}{k:Nat}(h0:0<bA Z)(h:k+1=aM Z es.length):0<(eS (bA Z) es k).length∨k=0:=by
 rcases Fs h0 h with e|e
 ·left
  unfold eS;rw[dG,dA];omega
 ·exact aE e
theorem dd.chunk{es:List az}(h:dd es)(n k:Nat):dd (eS n es k):=by
 have hg:∀i (hi:i<(eS n es k).length),∃hj:k*n+i<es.length,(eS n es k)[i]=es[k*n+i]:=by
  intro i hi;have LW:=hi;unfold eS at LW;rw[dG,dA]at LW;refine⟨by omega,?_⟩;have tJ:i<((es.drop (k*n)).take n).length:=hi;show((es.drop (k*n)).take n)[i]'tJ=_;rw[List.getElem_take,List.getElem_drop]
 refine⟨fun e he=>?_,fun i j hi hj rF=>?_⟩
 ·obtain⟨i,hi,rfl⟩:=List.getElem_of_mem he;obtain⟨hj,e⟩:=hg i hi;rw[e];exact h.1 _ (cX hj)
 ·obtain⟨a1,a2⟩:=hg i hi;obtain⟨b1,b2⟩:=hg j hj;rw[a2,b2];exact h.2 _ _ a1 b1 (by omega)
theorem Fu(ev:Value)(es:List az)(w:World)(Fr:HL)(hv:jy Fr ev es)(hH:Holds w Fr)(hr:dd es)(hn:es.length<=256):Calls Tryz.prog 126 #[ev] w (cM (.bool true) w Fr):=by
 have H1:=aa (zA ev es w Fr hv hH hr hn);obtain⟨A,c,rfl⟩:=(hv w hH).val;have hnI:(es.length:Int)<=256:=by omega
 clear hv hr hH hn;go_enter func126,ntmps126;go_wp2_with fail
 refine H1.o.mono ?_;rintro e w1⟨rfl,ax,aK⟩;go_wp2_with fail
 go_ret;exact⟨rfl,ax,aK⟩
def dE(number parts:Nat)(name:List UInt8)(ev:Value):Obj:=.cells #[.int .i64 (number:Int),.int .i64 (parts:Int),.string (cq name),ev] 246
theorem fR{w:World}{b number parts:Nat}{name:List UInt8}{ev:Value}{H:HL}(h:Holds w ((b,dE number parts name ev)::H)):
  w.cell? ⟨b,0,none⟩=some (.int .i64 (number:Int))∧w.cell? ⟨b,1,none⟩=some (.int .i64 (parts:Int))∧w.cell? ⟨b,2,none⟩=some (.string (cq name))∧w.cell? ⟨b,3,none⟩=some ev:=⟨h.ae 0,h.ae 1,h.ae 2,h.ae 3⟩
theorem RD(number parts n:Nat)(name:List UInt8)(ev:Value)(es:List az)(w:World)(Fr:HL)(hv:jy Fr ev es)(hH:Holds w Fr)(hl:yZ name)(hr:dd es)(hn:es.length<=256)(h1:number<parts)(h2:parts<=65535)
  (h3:number+1<parts->es.length=n)(h4:number+1=parts->0<es.length∨number=0):
  Calls Tryz.prog 226 #[.agg #[.int .i64 (number:Int),.int .i64 (parts:Int),.string (cq name),ev],.int .i64 (n:Int)] w (cM (.bool true) w Fr):=by
 have HM:=aa (fun wx=>yL name wx hl);have HR:=aa (fun wx (F:HL) (hx:Holds wx (F++Fr))=>zA ev es wx (F++Fr) (fun wy hy=>hv wy hy.right) hx hr hn);obtain⟨A,c,rfl⟩:=(hv w hH).val;have ax:=hH.alloc (dE number parts name (.slice A es.length c));have aK:=(af.refl w).alloc (dE number parts name (.slice A es.length c));have h1I:¬(number:Int)>=parts:=by omega
 have hw:IntKind.i64.wrap ((parts:Int)-1)=((parts-1:Nat):Int):=by rw[IntKind.wrap_i64];omega
 obtain⟨S,hS⟩:∃S,S=cq name:=⟨_,rfl⟩;clear hv hl hr hH;go_enter func226,ntmps226;go_upto_region 1 with fail
 rw[show w.alloc (Obj.cells #[.int .i64 (number:Int),.int .i64 (parts:Int),.string (cq name),.slice A es.length c] 246)=w.alloc (dE number parts name (.slice A es.length c))from rfl];generalize w.alloc (dE number parts name (.slice A es.length c))=w1 at*;generalize w.heap.size=b at*;obtain⟨c0,c1,c2,c3⟩:=fR ax;go_wp2_with fail
 refine(HM.o w1).mono ?_;rintro e w2⟨rfl,fZ⟩;obtain⟨aB,aX⟩:=wD ax fZ;have cY:=aK.trans aX;clear c0 c1 c2 c3 ax aK aX fZ HM;obtain⟨c0,c1,c2,c3⟩:=fR aB;go_wp2_with fail
 refine(HR.o w2 [_] aB).mono ?_;rintro e w3⟨rfl,aD,bj⟩;have cf:=cY.trans bj;clear c0 c1 c2 c3 aB cY bj HR;obtain⟨c0,c1,c2,c3⟩:=fR aD;have aU:Holds w3 Fr:=aD.tail;clear aD;by_cases hk:number+1=parts
 ·have hE:((number:Int)==((parts-1:Nat):Int))=true:=by rw[beq_iff_eq];omega
  by_cases hz:0<es.length
  ·have hzI:(0:Int)<es.length:=by omega
   clear h3 h4;go_wp2_with fail
   go_ret;exact⟨rfl,aU,cf⟩
  ·have uZ:number=0:=by rcases h4 hk with h|h;exact absurd h hz;exact h
   have hzI:¬(0:Int)<es.length:=by omega
   have hE2:((number:Int)==0)=true:=by rw[beq_iff_eq];omega
   clear h3 h4 uZ;go_wp2_with fail
   go_ret;exact⟨rfl,aU,cf⟩
 ·have hE:((number:Int)==((parts-1:Nat):Int))=false:=beq_eq_false_iff_ne.2 (by omega);have hE3:((es.length:Int)==(n:Int))=true:=by rw[beq_iff_eq];have:=h3 (by omega);omega
  clear h3 h4;go_wp2_with fail
  go_ret;exact⟨rfl,aU,cf⟩
end Go.Proofs.YtalnifciidblkaaGreatDoor
