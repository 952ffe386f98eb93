/-
  Lemmas.
-/
import Derived.Test.YtalnifciidblkaaGreatDoorG00
import Derived.BigQuiet
import Derived.Deep.DeepCutAuto
import Derived.Test.YtalnifciidblkaaGreatDoorG15
import Derived.Test.YtalnifciidblkaaGreatDoorG17
import Derived.Test.YtalnifciidblkaaGreatDoorRows
import Derived.WalkKit
import Derived.ProofKit
import Derived.OpenShut
import Derived.ShutString
import Derived.ChangeOld
import Derived.Below
import Derived.Deep.Slices
import Derived.Deep.Fields
import Derived.ChangeSame
namespace Go.Proofs.YtalnifciidblkaaGreatDoor
open _root_.Go.Proofs.Tryz
open Go.RowKit
set_option linter.unusedSimpArgs false
set_option linter.unusedVariables false
set_option maxRecDepth 20000
set_option maxHeartbeats 4000000
def WE(n:Int):Int:=if n<0∨1073741824<n then 0 else n
def lI(x y:Int):Int:=if x<y then-1 else if y<x then 1 else 0
def vG(key:Int->Int)(L:List Int)(x:Int):List Int:=L.filter (fun y=>decide (key y<=key x))++x::L.filter (fun y=>decide (key x<key y))
def jd(key:Int->Int)(xs:List Int):List Int:=xs.foldl (vG key) []
theorem yR(L:List Int)(p q:Int->Bool)(h:∀x,q x=!p x):(L.filter p).length+(L.filter q).length=L.length:=by
 induction L with
 |nil=>rfl
 |cons x L ih=>
  rw[qf,qf,h x];cases p x<;>simp<;>omega
theorem VD(key:Int->Int)(L:List Int)(x:Int):(vG key L x).length=L.length+1:=by
 unfold vG;have:=yR L (fun y=>decide (key y<=key x)) (fun y=>decide (key x<key y)) (fun y=>by rw[<-decide_not];congr 1;exact propext (by omega));rw[aY,fC];omega
theorem xV(key:Int->Int)(xs:List Int)(x:Int):jd key (xs++[x])=vG key (jd key xs) x:=by unfold jd;rw[List.foldl_append];rfl
theorem tw(key:Int->Int)(xs:List Int):(jd key xs).length=xs.length:=by
 have h:∀(n:Nat) (xs:List Int),xs.length=n->(jd key xs).length=n:=by
  intro n
  induction n with
  |zero=>intro xs h;rw[jW h];rfl
  |succ n ih=>
   intro xs h;obtain⟨ys,x,rfl⟩:∃ys x,xs=ys++[x]:=by
    rcases List.eq_nil_or_concat xs with e|⟨a,x,e⟩
    ·simp[e]at h
    ·exact⟨a,x,by simpa using e⟩
   rw[xV,VD,ih ys (by simpa using h)]
 exact h _ xs rfl
theorem JU{key:Int->Int}{L:List Int}{x y:Int}:y∈vG key L x↔y=x∨y∈L:=by
 unfold vG;simp only[lZ,l6,List.mem_filter,decide_eq_true_eq];constructor
 ·rintro(h|h|h)
  ·exact .inr h.1
  ·exact .inl h
  ·exact .inr h.1
 ·rintro(h|h)
  ·exact .inr (.inl h)
  ·rcases Int.lt_or_le (key x) (key y)with h2|h2
   ·exact .inr (.inr ⟨h,h2⟩)
   ·exact .inl ⟨h,h2⟩
theorem yv{key:Int->Int}{xs:List Int}{y:Int}:y∈jd key xs↔y∈xs:=by
 have h:∀(n:Nat) (xs:List Int),xs.length=n->(y∈jd key xs↔y∈xs):=by
  intro n
  induction n with
  |zero=>intro xs h;rw[jW h];simp[jd]
  |succ n ih=>
   intro xs h;obtain⟨ys,x,rfl⟩:∃ys x,xs=ys++[x]:=by
    rcases List.eq_nil_or_concat xs with e|⟨a,x,e⟩
    ·simp[e]at h
    ·exact⟨a,x,by simpa using e⟩
   rw[xV,JU,ih ys (by simpa using h)];simp[or_comm]
 exact h _ xs rfl
theorem KI{key:Int->Int}{L:List Int}{x:Int}(h:L.Pairwise fun a b=>key a<=key b):(vG key L x).Pairwise fun a b=>key a<=key b:=by
 unfold vG;refine List.pairwise_append.2 ⟨h.filter _,List.pairwise_cons.2 ⟨fun y hy=>?_,h.filter _⟩,fun a ha b hb=>?_⟩
 ·have:=(List.mem_filter.1 hy).2;simp at this;omega
 ·have h1:=(List.mem_filter.1 ha).2;simp only[decide_eq_true_eq]at h1;rcases List.mem_cons.1 hb with rfl|hb
  ·exact h1
  ·have h2:=(List.mem_filter.1 hb).2;simp only[decide_eq_true_eq]at h2;omega
theorem GW(key:Int->Int)(xs:List Int):(jd key xs).Pairwise fun a b=>key a<=key b:=by
 have h:∀(n:Nat) (xs:List Int),xs.length=n->(jd key xs).Pairwise fun a b=>key a<=key b:=by
  intro n
  induction n with
  |zero=>intro xs h;rw[jW h];exact List.Pairwise.nil
  |succ n ih=>
   intro xs h;obtain⟨ys,x,rfl⟩:∃ys x,xs=ys++[x]:=by
    rcases List.eq_nil_or_concat xs with e|⟨a,x,e⟩
    ·simp[e]at h
    ·exact⟨a,x,by simpa using e⟩
   rw[xV];exact KI (ih ys (by simpa using h))
 exact h _ xs rfl
theorem O9{key:Int->Int}{L:List Int}{x:Int}{j:Nat}(hs:L.Pairwise fun a b=>key a<=key b)(hj:j<=L.length)(h1:∀y∈L.drop j,key x<key y)(h2:j=0∨∃h:j-1<L.length,key L[j-1]<=key x):L.take j++x::L.drop j=vG key L x:=by
 have h3:∀y∈L.take j,key y<=key x:=by
  intro y hy;rcases h2 with rfl|⟨hl,h⟩
  ·simp at hy
  ·obtain⟨i,hi,rfl⟩:=List.mem_iff_getElem.1 hy;rw[dG]at hi;rw[List.getElem_take];rcases Nat.lt_or_ge i (j-1)with h4|h4
   ·have:=List.pairwise_iff_getElem.1 hs i (j-1) (by omega) hl h4;omega
   ·have:i=j-1:=by omega
    subst this;exact h
 unfold vG;have e:L=L.take j++L.drop j:=(oz j L).symm;have e1:L.filter (fun y=>decide (key y<=key x))=L.take j:=by
  conv=>lhs;rw[e]
  rw[oA,List.filter_eq_self.2 (fun y hy=>by simpa using h3 y hy),List.filter_eq_nil_iff.2 (fun y hy=>by have:=h1 y hy;simp;omega),kZ]
 have e2:L.filter (fun y=>decide (key x<key y))=L.drop j:=by
  conv=>lhs;rw[e]
  rw[oA,List.filter_eq_nil_iff.2 (fun y hy=>by have:=h3 y hy;simp;omega),List.filter_eq_self.2 (fun y hy=>by simpa using h1 y hy),jS]
 rw[e1,e2]
theorem CE(n:Int)(w:World):Calls Tryz.prog 232 #[.int .i64 n] w fun e w'=>e=.returned (.int .i64 (WE n))∧w=w':=by
 have HR:=aa (show WE n=if n<0∨1073741824<n then 0 else n from rfl);generalize WE n=r at*;by_cases h1:n<0
 ·have e1:decide (n<0)=true:=decide_eq_true h1;rw[if_pos (.inl h1)]at HR;go_enter func232,ntmps232;go_wp2_with fail
  go_ret;rw[HR.o];exact⟨rfl,rfl⟩
 ·have e1:decide (n<0)=false:=decide_eq_false h1;by_cases h2:1073741824<n
  ·have e2:decide (1073741824<n)=true:=decide_eq_true h2;rw[if_pos (.inr h2)]at HR;go_enter func232,ntmps232;go_wp2_with fail
   go_ret;rw[HR.o];exact⟨rfl,rfl⟩
  ·have e2:decide (1073741824<n)=false:=decide_eq_false h2;rw[if_neg (by omega)]at HR;go_enter func232,ntmps232;go_wp2_with fail
   go_ret;rw[HR.o];exact⟨rfl,rfl⟩
theorem JV(x:Int)(w:World):Calls Tryz.prog 183 #[.int .i64 x] w fun e w'=>e=.returned (.bool false)∧w=w':=by
 go_enter func183,ntmps183;go_wp2_with fail
 go_ret;simp
theorem Cb(x y:Int)(w:World):Calls Tryz.prog 119 #[.int .i64 x,.int .i64 y] w fun e w'=>e=.returned (.int .i64 (lI x y))∧w=w':=by
 have H1:=aa (JV x w);have H2:=aa (JV y w);have HC:=aa (show lI x y=if x<y then-1 else if y<x then 1 else 0 from rfl);generalize lI x y=r at*;rcases(show x<y∨¬x<y∧y<x∨¬x<y∧¬y<x by omega)with h1|⟨h1,h2⟩|⟨h1,h2⟩
 ·rw[if_pos h1]at HC;go_enter func119,ntmps119;go_wp2_with fail
  refine H1.o.mono ?_;rintro e w1⟨rfl,rfl⟩;go_wp2_with fail
  refine H2.o.mono ?_;rintro e w1⟨rfl,rfl⟩;go_wp2_with fail
  go_ret;rw[HC.o];exact⟨rfl,rfl⟩
 ·rw[if_neg h1,if_pos h2]at HC;go_enter func119,ntmps119;go_wp2_with fail
  refine H1.o.mono ?_;rintro e w1⟨rfl,rfl⟩;go_wp2_with fail
  refine H2.o.mono ?_;rintro e w1⟨rfl,rfl⟩;go_wp2_with fail
  go_ret;rw[HC.o];exact⟨rfl,rfl⟩
 ·rw[if_neg h1,if_neg h2]at HC;go_enter func119,ntmps119;go_wp2_with fail
  refine H1.o.mono ?_;rintro e w1⟨rfl,rfl⟩;go_wp2_with fail
  refine H2.o.mono ?_;rintro e w1⟨rfl,rfl⟩;go_wp2_with fail
  go_ret;rw[HC.o];exact⟨rfl,rfl⟩
section
variable{P:Program}{ops:Array Oper}{Q:Exit->Act->World->Prop}{md:Region.Mode}{S:World->Prop}{z:Nat}
theorem lK(i:Nat)(d:Option Nat){oi:Oper}{v:Value}{fuel:Nat}{listed:Array Bool}{a:Act}{w:World}{f:FuncId}{args:Array Value}(hi:ops[i]?=some oi)(qT:oi.dst=d)(hB:kz md ops z listed i=true)
  (hQ:∀c a w,Q (.panic c) (a.put d v) w->Q (.panic c) a w)(hw:Region.wanted oi (yielded ops a.tmps)=true)(hS:S w)(hr:∀wx,(execOp a.eval oi).run P wx=.ok (.enter f args) wx)
  (hy:∀wx,S wx->Calls P f args wx fun e w'=>e=.returned v∧wx=w')(h:cy P md ops Q S z fuel (listed.setIfInBounds i true) (a.put d v) w):cy P md ops Q S z (fuel+1) listed a w:=by
 subst qT;exact Gt i hi hB hQ hw hS hr hy h
end
def DV(ws:List Int)(b:Int):Int:=WE (ws.getD b.toNat 0)
theorem MV(x y:Nat)(g:Nat)(wsv:Value)(ws:List Int)(w:World)(hc:w.cell? ⟨g,0,none⟩=some wsv)(hw:sF w wsv ws)(hx:x<ws.length)(hy:y<ws.length):
  Calls Tryz.prog 231 #[.int .i64 x,.int .i64 y,.pointer (some ⟨g,0,none⟩)] w (zQ w (.int .i64 (lI (DV ws x) (DV ws y)))):=by
 have kx:DV ws x=WE ws[x]:=by unfold DV;rw[Int.toNat_natCast,jR,bF hx];rfl
 have ky:DV ws y=WE ws[y]:=by unfold DV;rw[Int.toNat_natCast,jR,bF hy];rfl
 rw[kx,ky];obtain⟨_,A,c,rfl,ff,gT,ha⟩:=hw;obtain⟨b,o,rfl,bm⟩:=ha (by omega);have c1:w.cell? ⟨b,o+x,none⟩=some (.int .i64 ws[x]):=bm x _ (by rw[dW,bF hx];rfl);have c2:w.cell? ⟨b,o+y,none⟩=some (.int .i64 ws[y]):=bm y _ (by rw[dW,bF hy];rfl);clear ha bm kx ky;have K1:=aa (fun w=>CE ws[x] w);have K2:=aa (fun w=>CE ws[y] w);generalize ws[x]=p at*;generalize ws[y]=q at*;have K3:=aa (fun w=>Cb (WE p) (WE q) w);unfold maxLen at gT;have hxc:x<c:=by omega
 have Xa:y<c:=by omega
 generalize ws.length=n at*;generalize WE p=p' at*;generalize WE q=q' at*;generalize lI p' q'=r at*;have HW:Zh (∀wx:World,(∃k,wx=w.drewN k)->wx.cell? ⟨g,0,none⟩=some (.slice (some ⟨b,o,none⟩) n c)∧wx.cell? ⟨b,o+x,none⟩=some (.int .i64 p)∧wx.cell? ⟨b,o+y,none⟩=some (.int .i64 q)):=aa (fun wx h=>by obtain⟨k,rfl⟩:=h;exact⟨hc,c1,c2⟩);have HD:Zh (∀wx:World,(∃k,wx=w.drewN k)->∃k,wx=w.drewN k):=aa (fun wx h=>h);clear hc c1 c2;go_enter func231,ntmps231;go_upto_region 1 with fail
 refine aF (fun wx=>wx.cell? ⟨g,0,none⟩=some (.slice (some ⟨b,o,none⟩) n c)∧wx.cell? ⟨b,o+x,none⟩=some (.int .i64 p)∧wx.cell? ⟨b,o+y,none⟩=some (.int .i64 q)) 12 (by kernel_rfl) (fun w1 hd=>HW.o w1 hd) (fun w1 hd hs=>?_);have hD:=hd;clear hd;refine dY 0 1 2 3 ?_;refine lK 4 (some 10) rfl rfl (by kernel_rfl) (fun _ _ _ h=>h) (by rfl) hs (fun wx=>by go_simp) (fun wx hx=>K1.o wx) ?_;simp only[pt,sA,sS,sZ];refine dY 5 6 7 8 ?_;refine lK 9 (some 15) rfl rfl (by kernel_rfl) (fun _ _ _ h=>h) (by rfl) hs (fun wx=>by go_simp) (fun wx hx=>K2.o wx) ?_;simp only[pt,sA,sS,sZ];refine lK 10 (some 16) rfl rfl (by kernel_rfl) (fun _ _ _ h=>h) (by rfl) hs (fun wx=>by go_simp) (fun wx hx=>K3.o wx) ?_;simp only[pt,sA,sS,sZ];refine ji 11 ?_;refine Ze ?_;obtain⟨k,rfl⟩:=hD;go_wp2_with fail
 go_ret;exact⟨rfl,k,rfl⟩
def UL(g:Nat)(key:Int->Int)(xs:List Int)(Fr:HL):Prop:=∀x∈xs,∀y∈xs,∀wx,Holds wx Fr->Calls Tryz.prog 231 #[.int .i64 x,.int .i64 y,.pointer (some ⟨g,0,none⟩)] wx (zQ wx (.int .i64 (lI (key x) (key y))))
def anh(key:Int->Int)(xs:List Int)(v:Value)(w:World)(Fr:HL)(i:Value)(wr:World):Prop:=
 ∃(k:Nat) (H:HL),1<=k∧k<=xs.length∧i=.int .i64 k∧aZ v (jd key (xs.take k)++xs.drop k) H∧Holds wr (H++Fr)∧af w wr
def ani(key:Int->Int)(L:List Int)(x:Int)(R:List Int)(v:Value)(w:World)(Fr:HL)(j:Value)(wr:World):Prop:=
 ∃(k:Nat) (H:HL),k<=L.length∧j=.int .i64 k∧aZ v (L.take k++x::(L.drop k++R)) H∧(∀y∈L.drop k,key x<key y)∧Holds wr (H++Fr)∧af w wr
theorem QS{L R:List Int}{x:Int}{k:Nat}(hk:k+1<=L.length):
  ((L.take (k+1)++x::(L.drop (k+1)++R)).set (k+1) (L[k]'(by omega))).set k x=L.take k++x::(L.drop k++R):=by
 have e1:L.take (k+1)=L.take k++[L[k]'(by omega)]:=gB (by omega);have e2:L.drop k=L[k]'(by omega)::L.drop (k+1):=nF (by omega);have hl:(L.take k).length=k:=by rw[dG];omega
 rw[e1,e2];simp only[cE,List.singleton_append,tZ];rw[List.set_append_right _ _ (by omega),hl];have e3:k+1-k=1:=by omega
 rw[e3,List.set_append_right _ _ (by omega),hl,qg];rfl
theorem aZ.cell{v:Value}{zs:List Int}{H Fr:HL}{w:World}(h:aZ v zs H)(hH:Holds w (H++Fr)){j:Nat}(hj:j<zs.length):
  ∃g cap,v=.slice (some ⟨g,0,none⟩) zs.length cap∧zs.length<=cap∧cap<=maxLen∧g<w.heap.size∧w.cell? ⟨g,j,none⟩=some (.int .i64 zs[j])∧w.frozen? ⟨g,j,none⟩=false∧
   ∀(w':World) (N9:HL),Holds w' (H++N9)->∀u:Int,∃H',aZ v (zs.set j u) H'∧Holds (w'.setCell ⟨g,j,none⟩ (.int .i64 u)) (H'++N9):=by
 obtain⟨g,cap,hv,h1,h2,h3,h4,h5,h6⟩:=au.cell h hH (j:=j) (by simpa using hj);refine⟨g,cap,hv,h1,h2,h3,by simpa using h4,h5,fun w' N9 h' u=>?_⟩;obtain⟨H',hr,hh⟩:=h6 w' N9 h' (.int .i64 u);refine⟨H',?_,hh⟩;unfold aZ;rw[k5,List.map_set];exact hr
theorem MW(v:Value)(xs:List Int)(g:Nat)(key:Int->Int)(w:World)(H Fr:HL)(h:aZ v xs H)(hH:Holds w (H++Fr))(hc:UL g key xs Fr)(h1:1<=xs.length)(kJ:xs.length<=1000):
  Calls Tryz.prog 261 #[v,.int .i64 0,.int .i64 xs.length,.func (Fn.func 231) #[] #[.pointer (some ⟨g,0,none⟩)]] w (mu (fun H'=>aZ v (jd key xs) H') (.tuple #[]) w Fr):=by
 have HC:=aa hc;have HI:=aa h;obtain⟨A,c,rfl⟩:=h.val;obtain⟨n,hn⟩:∃n,n=xs.length:=⟨_,rfl⟩;have HN:=aa hn;rw[<-hn]at h1 kJ HI⊢;clear h hc hn;go_enter func261,ntmps261;go_wp2_with fail
 go_loopw [8] (fun i wr=>anh key xs (.slice A n c) w Fr i wr) (fun i _=>n-(intOf i).toNat)
 case atStart=>
  refine⟨1,H,by omega,by rw[<-HN.o];exact h1,rfl,?_,hH,af.refl w⟩;have e:jd key (xs.take 1)++xs.drop 1=xs:=by
   have h2:0<xs.length:=by rw[<-HN.o];omega
   have e1:xs.take 1=[xs[0]'h2]:=by
    have:=List.take_succ_eq_append_getElem (l:=xs) (i:=0) h2;simpa using this
   rw[e1];show[xs[0]'h2]++xs.drop 1=xs;rw[<-e1,oz]
  rw[e];exact HI.o
 case round=>
  obtain⟨k,H2,p6,qO,rfl,hz,aB,aX⟩:=hrel;rw[<-HN.o]at qO;by_cases aG:k<n
  ·have mQ:k<xs.length:=by rw[<-HN.o];exact aG
   have HLl:=aa (show(jd key (xs.take k)).length=k by rw[tw,dG];omega);have HLs:=aa (GW key (xs.take k));have HLm:=aa (show∀y∈jd key (xs.take k),y∈xs from fun y hy=>rJ (yv.1 hy));have HXm:=aa (cX mQ);have LC:=aa (show jd key (xs.take (k+1))=vG key (jd key (xs.take k)) xs[k] by rw[gB mQ,xV]);rw[nF mQ]at hz;have HZ:=aa hz;have HRl:=aa (show(xs.drop (k+1)).length=n-(k+1) by rw[dA,<-HN.o]);clear hz;generalize jd key (xs.take k)=L at*;generalize xs[k]=x at*;obtain⟨R,hR⟩:∃R,R=xs.drop (k+1):=⟨_,rfl⟩;rw[<-hR]at HZ HRl;have Wx:=aa hR;clear hR;go_wp2_with fail
   go_loopw [9] (fun j wr=>ani key L x R (.slice A n c) w Fr j wr) (fun j _=>(intOf j).toNat)
   case atStart=>exact⟨k,H2,by rw[HLl.o];exact aN _,rfl,by rw[gU (by rw[HLl.o];exact aN _),List.drop_of_length_le (by rw[HLl.o];exact aN _)];exact HZ.o,by rw[List.drop_of_length_le (by rw[HLl.o];exact aN _)];simp,aB,aX⟩
   case round=>
    obtain⟨j,H3,hj,rfl,hz,DL,aD,bj⟩:=hrel;rw[HLl.o]at hj;have Iw:=aa DL;have HZ3:=aa hz;clear hz DL;have Dm:(L.take j++x::(L.drop j++R)).length=n:=by
     have h1:=HLl.o;have h2:=HRl.o;simp only[aY,dG,fC,dA];omega
    rcases nG j with rfl|hj0
    ·have HE:=aa (O9 (x:=x) (j:=0) HLs.o (by omega) Iw.o (.inl rfl));go_wp2_with fail
     go_quiet (fail)
     have aU:=aD.drewN nq;have bV:=bj.drewN nq;go_wp2_with fail
     go_roundw
     case rel=>
      refine⟨k+1,H3,by omega,by rw[<-HN.o];omega,by go_num,?_,aU,bV⟩;rw[LC.o,<-HE.o,cE,tZ,<-Wx.o];exact HZ3.o
     case measure=>simp[intOf];omega
    ·obtain⟨i,rfl⟩:∃i,j=i+1:=⟨j-1,by omega⟩;have hiL:i<L.length:=by rw[HLl.o];omega
     have e1:(L.take (i+1)++x::(L.drop (i+1)++R))[i]'(by omega)=L[i]:=by
      rw[Ev (by rw[dG];omega),List.getElem_take]
     have e2:(L.take (i+1)++x::(L.drop (i+1)++R))[i+1]'(by omega)=x:=by
      rw[List.getElem_append_right (by rw[dG];omega)];simp only[dG,uc (show i+1<=L.length by omega),qg,List.getElem_cons_zero]
     obtain⟨gd,cap,hv,qM,tS,SB,ff,hf1,BO⟩:=HZ3.o.cell aD (j:=i+1) (by omega);obtain⟨gd',L7,xD,_,_,_,jQ,Og,_⟩:=HZ3.o.cell aD (j:=i) (by omega);rw[Dm]at hv xD qM;injection hv with gM mg kS;subst gM kS;injection xD with gM mg kS;injection gM with gM;injection gM with gM _;subst gM kS;unfold maxLen at tS;rw[e2]at ff;rw[e1]at jQ;have HCC:=aa (fun q=>HC.o x HXm.o L[i] (HLm.o _ (cX hiL)) (wr.drewN q) (aD.right.drewN q));have dj:=aa (QS (R:=R) (x:=x) hiL);have ag0:=aa (show key x<key L[i]->∀y∈L.drop i,key x<key y from fun hh y hy=>by
      rw[nF hiL]at hy;rcases List.mem_cons.1 hy with rfl|hy
      ·exact hh
      ·exact Iw.o y hy)
     have HE:=aa (fun hh:¬key x<key L[i]=>O9 (x:=x) (j:=i+1) HLs.o (by omega) Iw.o (.inr ⟨hiL,by simp only[Nat.add_sub_cancel];omega⟩));have IX:=aa BO;have HC0:Zh (∀w':World,Holds w' (H3++Fr)->w'.cell? ⟨gd,i,none⟩=some (.int .i64 L[i])∧w'.frozen? ⟨gd,i,none⟩=false∧gd<w'.heap.size):=aa (fun w' h'=>by
      obtain⟨_,_,IY,_,_,IZ,xu,hf9,_⟩:=HZ3.o.cell h' (j:=i) (by omega);injection IY with IY _ _;injection IY with IY;injection IY with IY _;subst IY;rw[e1]at xu;exact⟨xu,hf9,IZ⟩)
     clear BO e1 e2 mg;generalize L[i]=y at*;obtain⟨kx,hkx⟩:∃kx,kx=key x:=⟨_,rfl⟩;rw[<-hkx]at HCC ag0 HE;have HKX:=aa hkx;clear hkx;generalize key y=ky at*;have iu:(i:Int)<(n:Int):=by omega
     have XR:(i:Int)+1<(n:Int):=by omega
     have tI:(0:Int)<=(i:Int):=by omega
     have xC:(0:Int)<=(i:Int)+1:=by omega
     have hwi:IntKind.i64.wrap (i:Int)=(i:Int):=by
      simp only[IntKind.wrap,IntKind.bits,IntKind.signed];simp;omega
     by_cases hk:kx<ky
     ·have HK:=aa hk;rw[show lI kx ky=-1 by unfold lI;rw[if_pos hk]]at HCC;go_wp2_with fail
      go_quiet ((go_at_call 231;exact U7 (HCC.o _)))
      have aU:=aD.drewN nq;have bV:=bj.drewN nq;have pd:Zh ((wr.drewN nq).cell? ⟨gd,i,none⟩=some (.int .i64 y)∧(wr.drewN nq).cell? ⟨gd,i+1,none⟩=some (.int .i64 x)∧(wr.drewN nq).frozen? ⟨gd,i,none⟩=false∧(wr.drewN nq).frozen? ⟨gd,i+1,none⟩=false∧gd<(wr.drewN nq).heap.size):=aa ⟨jQ,ff,Og,hf1,SB⟩;have kh:Zh (∀(w':World),Holds w' (H3++Fr)->∃H',aZ (.slice (some ⟨gd,0,none⟩) n c) (L.take i++x::(L.drop i++R)) H'∧Holds ((w'.setCell ⟨gd,i+1,none⟩ (.int .i64 y)).setCell ⟨gd,i,none⟩ (.int .i64 x)) (H'++Fr)∧(w'.setCell ⟨gd,i+1,none⟩ (.int .i64 y)).frozen? ⟨gd,i,none⟩=false∧((w'.setCell ⟨gd,i+1,none⟩ (.int .i64 y)).cell? ⟨gd,i,none⟩).isSome=true∧gd<(w'.setCell ⟨gd,i+1,none⟩ (.int .i64 y)).heap.size):=aa (by
       intro w' h';obtain⟨Ha,AY,As⟩:=IX.o w' Fr h' y;obtain⟨_,_,IY,_,_,IZ,xu,hf9,AZ⟩:=AY.cell As (j:=i) (by rw[k5];omega);obtain⟨Hb,jj,fZ⟩:=AZ _ Fr As x;rw[dj.o]at jj;injection IY with IY _ _;injection IY with IY;injection IY with IY _;subst IY;exact⟨Hb,jj,fZ,hf9,by rw[xu];rfl,IZ⟩)
      generalize wr.drewN nq=w4 at*;clear jQ ff Og hf1 SB aD bj;go_upto_region 6 with fail
      refine nR (fun wx=>wx.cell? ⟨gd,i,none⟩=some (.int .i64 y)∧wx.cell? ⟨gd,i+1,none⟩=some (.int .i64 x)∧wx.frozen? ⟨gd,i,none⟩=false∧wx.frozen? ⟨gd,i+1,none⟩=false∧gd<wx.heap.size) 15 (by kernel_rfl) (fun w1 hd=>(by obtain⟨kd,rfl⟩:=hd;exact pd.o)) (fun w1 hd hs=>?_);have bg:=aU.dr hd;have eY:=bV.trans (af.dr hd);clear hd aU bV;refine Yv 0 ?_;refine Yv 1 ?_;refine Yv 2 ?_;refine Yv 3 ?_;simp only[pt,sA,sS,sZ];refine Yv 4 ?_;refine Yv 5 ?_;refine Yv 6 ?_;refine Yv 7 ?_;simp only[pt,sA,sS,sZ];refine Yv 8 ?_;refine Yu 9 ?_;refine Yv 10 ?_;refine Yv 11 ?_;simp only[pt,sA,sS,sZ];refine Yv 12 ?_;refine Yu 13 ?_;refine Yv 14 ?_;simp only[pt,sA,sS,sZ];refine Yl 15 fun K hK=>?_;have⟨s0,s1,s2,s3,s4⟩:=hs;have z9:=s3;go_simp;clear s0 s1 s2 s3 s4 hs;refine hK _ _ ?_;clear hK K;refine Yl 16 fun K hK=>?_;go_simp;refine hK _ _ ?_;clear hK K;refine Yl 17 fun K hK=>?_;obtain⟨H9,hz9,di,f9,c9,l9⟩:=kh.o w1 bg;obtain⟨k9,m9,n9⟩:=HC0.o w1 bg;have iU:=(eY.setCell ⟨gd,i+1,none⟩ (.int .i64 y)).setCell ⟨gd,i,none⟩ (.int .i64 x);go_simp;refine hK _ _ ?_;clear hK K;refine Ye ?_;have HZ9:=aa hz9;clear hz9 f9 c9 l9 k9 m9 n9 bg eY;change Exit.inBlock _ _ _ _ ((w1.setCell ⟨gd,i+1,none⟩ (.int .i64 y)).setCell ⟨gd,i,none⟩ (.int .i64 x));generalize(w1.setCell ⟨gd,i+1,none⟩ (.int .i64 y)).setCell ⟨gd,i,none⟩ (.int .i64 x)=w9 at*;go_wp2_with fail
      go_roundw
      case rel=>exact⟨i,H9,by omega,by go_num,HZ9.o,by rw[<-HKX.o];exact ag0.o HK.o,di,iU⟩
      case measure=>simp[intOf]
     ·have HK:=aa hk;rw[show lI kx ky=(if ky<kx then 1 else 0) by unfold lI;rw[if_neg hk]]at HCC;have uO:decide ((if ky<kx then(1:Int)else 0)<0)=false:=by split<;>decide
      generalize(if ky<kx then(1:Int)else 0)=cc at*;have LH:decide (cc<0)=false:=uO;clear uO hk;go_wp2_with fail
      go_quiet ((go_at_call 231;exact U7 (HCC.o _)))
      have aU:=aD.drewN nq;have bV:=bj.drewN nq;go_wp2_with fail
      go_roundw
      case rel=>
       refine⟨k+1,H3,by omega,by rw[<-HN.o];omega,by go_num,?_,aU,bV⟩;rw[LC.o,<-HE.o HK.o,cE,tZ,<-Wx.o];exact HZ3.o
      case measure=>simp[intOf];omega
  ·have hk3:k=n:=by omega
   subst hk3;rw[HN.o,fB,List.drop_length,kZ]at hz;have HZ:=aa hz;clear hz;go_wp2_with fail
   go_end0
   rw[HN.o];exact⟨rfl,H2,HZ.o,aB,aX⟩
theorem MX(v:Value)(xs:List Int)(g:Nat)(key:Int->Int)(w:World)(H Fr:HL)(h:aZ v xs H)(hH:Holds w (H++Fr))(hc:UL g key xs Fr)(kJ:xs.length<20):
  Calls Tryz.prog 230 #[v,.func (Fn.func 231) #[] #[.pointer (some ⟨g,0,none⟩)]] w (mu (fun H'=>aZ v (jd key xs) H') (.tuple #[]) w Fr):=by
 have HS:Calls Tryz.prog 254 #[v,.int .i64 xs.length,.func (Fn.func 231) #[] #[.pointer (some ⟨g,0,none⟩)]] w (mu (fun H'=>aZ v (jd key xs) H') (.tuple #[]) w Fr):=by
  have HI:Zh (Calls Tryz.prog 261 #[v,.int .i64 0,.int .i64 xs.length,.func (Fn.func 231) #[] #[.pointer (some ⟨g,0,none⟩)]] w (mu (fun H'=>aZ v (jd key xs) H') (.tuple #[]) w Fr)):=aa (by
   rcases nG xs.length with h0|h0
   ·have hx:xs=[]:=jW h0;have HI0:=aa h;obtain⟨A,c,rfl⟩:=h.val;subst hx;simp only[List.length_nil,Int.natCast_zero]at*;clear hc h kJ h0;go_enter func261,ntmps261;go_wp2_with fail
    go_loopw [8] (fun i wr=>i=.int .i64 1∧w=wr) (fun i _=>0)
    case atStart=>exact⟨rfl,rfl⟩
    case round=>
     obtain⟨rfl,rfl⟩:=hrel;go_wp2_with fail
     go_end0
     exact⟨rfl,H,HI0.o,hH,af.refl w⟩
   ·exact MW v xs g key w H Fr h hH hc h0 (by omega))
  obtain⟨A,c,rfl⟩:=h.val;generalize hn:xs.length=n at*;have h20:decide ((20:Int)<=(n:Int))=false:=decide_eq_false (by omega);have h21:decide ((20:Int)<(n:Int))=false:=decide_eq_false (by omega);clear h hH hc hn;go_enter func254,ntmps254;go_wp2_with fail
  go_loopw [7,8] (fun a b wr=>a=.int .i64 0∧b=.int .i64 20∧w=wr) (fun _ _ _=>0)
  case atStart=>exact⟨rfl,rfl,rfl⟩
  case round=>
   obtain⟨rfl,rfl,rfl⟩:=hrel;go_wp2_with fail
   refine HI.o.mono ?_;rintro e w2⟨rfl,H2,hz,aB,aX⟩;have HZ:=aa hz;clear hz HI;go_wp2_with fail
   go_loopw [6] (fun a wr=>a=.int .i64 20∧w2=wr) (fun _ _=>0)
   case atStart=>exact⟨rfl,rfl⟩
   case round=>
    obtain⟨rfl,rfl⟩:=hrel;go_wp2_with fail
    go_end0
    exact⟨rfl,H2,HZ.o,aB,aX⟩
 have kh:=aa HS;obtain⟨A,c,rfl⟩:=h.val;have hle:=ag.le (h.at_ hH);unfold maxLen at hle;generalize xs.length=n at*;clear h hH hc HS;go_enter func230,ntmps230;go_wp2_with fail
 refine kh.o.mono ?_;rintro e w2⟨rfl,H2,hz,aB,aX⟩;have HZ:=aa hz;clear hz kh;go_wp2_with fail
 go_end0
 exact⟨rfl,H2,HZ.o,aB,aX⟩
theorem step_append_room{P:Program}{t e:TypeId}{size bytes n:Nat}{z:Value}{w:World}{Fr:HL}{ops:Array Oper}{o:Oper}{a:Act}{K:Act->World->Prop}{Q:Exit->Act->World->Prop}{E:Prop}(hT:rP P t e size bytes z)(nj:o.guard=none)(s x:Operand)
  (ho:o.op=.call {callee:=.builtin .append,args:=#[s,x],argTypes:=#[t,t]}){g cap:Nat}{cur:Array Value}{fz:Nat×Nat}
  (hs:a.eval s=.slice (some ⟨g,0,none⟩) n cap){u:Value}(hx:a.eval x=u)(hH:Holds w ((g,.cells cur e fz)::Fr))(hf:Bk fz cur.size){m:Nat}{news:List Value}(nP:ag w size u m news)(h1:∀x∈news,x.oneCell'=true)
  (lG:n+m<=cap)(mM:cap*size<=cur.size)
  (h:∀w' Af,Af.size=cur.size->Af=(cur.toList.take (n*size)++news++cur.toList.drop (n*size+news.length)).toArray->Holds w' ((g,.cells Af e fz)::Fr)->af w w'->K (a.put o.dst (.slice (some ⟨g,0,none⟩) (n+m) cap)) w'):
  if Region.wanted o (yielded ops a.tmps)=true then Oper.wp P o a w K Q else E:=by
 have hw:Region.wanted o (yielded ops a.tmps)=true:=by simp[Region.wanted,nj]
 rw[if_pos hw];obtain⟨i,hi,hz,fT,xr⟩:=hT.info;subst fT;obtain⟨hl,A,c,rfl,hmc,nO,hsr⟩:=nP;have pM:n*i.size+news.length<=cur.size:=by
  rw[hl,<-nH];exact Nat.le_trans (kY _ lG) mM
 have hg:w.heap[g]?=some (.cells cur e fz):=hH.get (by simp);have yT:(Builtin.firstCells i.size m (.slice A m c)).run P w=.ok news.toArray w:=by
  rcases nG m with h0|h0
  ·subst h0;have uZ:news=[]:=jW (by simpa using hl);subst uZ;cases A<;>simp[Builtin.firstCells,loadCells,loadCellsFrom]
  ·obtain⟨b,o,rfl,Mz⟩:=hsr h0;exact run_firstCells_some (P:=P) w i.size m ⟨b,o,none⟩ m c news hl (fun j u hu=>by rw[cV];exact Mz j u hu)
 have bD:=iW (P:=P) g (n*i.size) e fz news 0 cur w hg hf (by simpa using pM) h1;simp only[fD]at bD;have hr:(Builtin.append_ #[t,t] o.type #[.slice (some ⟨g,0,none⟩) n cap,.slice A m c]).run P w=
   .ok (.slice (some ⟨g,0,none⟩) (n+m) cap) (w.setRow g (cur.toList.take (n*i.size)++news++cur.toList.drop (n*i.size+news.length)).toArray):=by
  simp[Builtin.append_,run_underlying hT.under,sizeOf,typeInfo,hi,Builtin.lenOf,lG,yT,Addr.add_lit,bD]
 unfold Oper.wp execOp;simp only[ho,resolve,invoke,builtin,Sem.run_bind,Sem.run_pure,Result.andThen_ok,List.map_toArray,ku,List.map_nil,hs,hx,hr];exact h _ _ (by simp only[vR,aY,dG,dA,vP];omega) rfl (Holds.pw hH _) ((af.refl w).setRow _ _)
theorem Fh(es:List az)(k:Nat):cQ (es.take k)=(cQ es).take (k*4):=by
 induction es generalizing k with
 |nil=>simp[cQ]
 |cons r rs ih=>
  match k with
  |0=>simp[cQ]
  |k+1=>
   have:=ih k;unfold cQ at*;rw[zc,List.flatMap_cons,List.flatMap_cons,this,show(k+1)*4=k*4+1+1+1+1 by omega];simp[az.cells]
theorem Fi(es:List az)(k:Nat):cQ (es.drop k)=(cQ es).drop (k*4):=by
 induction es generalizing k with
 |nil=>simp[cQ]
 |cons r rs ih=>
  match k with
  |0=>simp[cQ]
  |k+1=>
   have:=ih k;unfold cQ at*;rw[List.drop_succ_cons,List.flatMap_cons,this,show(k+1)*4=k*4+1+1+1+1 by omega];simp[az.cells]
theorem G9(v:Value)(es:List az)(H Fr:HL)(w:World)(i:Nat)(hb:aP v es H)(hH:Holds w (H++Fr))(hi:i<es.length)(kJ:es.length<=1000000):
  Calls Tryz.prog 171 #[v,.int .i64 i,.int .i64 (i+1:Nat)] w (cB (fun v' H'=>aP v' (es.eraseIdx i) H') w Fr):=by
 unfold aP at hb;rcases hb with⟨hl,⟨rfl,h0,rfl⟩|⟨g,cap,cur,fz,rfl,hn,hc,hcz,ht,hf,rfl⟩⟩
 ·omega
 have ux:Holds w ((g,.cells cur 24 fz)::Fr):=by simpa using hH
 obtain⟨k,hk⟩:∃k,es.length=k+1:=⟨es.length-1,by omega⟩;generalize ei:es.length=n at*;subst hk;obtain⟨m,hm⟩:∃m,m=k+1-(i+1):=⟨_,rfl⟩;have Lm:i+m=k:=by omega
 have Dp:=aa ei;clear ei;obtain⟨oi,hoi,ack⟩:∃oi,(if cap=i+1 then some (⟨g,0,none⟩:Addr)else some ⟨g,(i+1)*4,none⟩)=some ⟨g,oi,none⟩∧(0<m->oi=(i+1)*4):=by
  by_cases h:cap=i+1
  ·exact⟨0,by rw[if_pos h],by omega⟩
  ·exact⟨_,by rw[if_neg h],fun _=>rfl⟩
 have nP:Zh (∀wx,Holds wx ((g,.cells cur 24 fz)::Fr)->ag wx 4 (.slice (some ⟨g,oi,none⟩) m (cap-(i+1))) m ((cQ es).drop ((i+1)*4))):=aa (by
  intro wx hx;refine⟨by rw[dA,eu,Dp.o];omega,_,_,rfl,by omega,by omega,fun h0=>⟨g,oi,rfl,fun j u hu=>?_⟩⟩;rw[ack (by omega)];have hj:j<((cQ es).drop ((i+1)*4)).length:=(List.getElem?_eq_some_iff.1 hu).1;rw[dA,eu,Dp.o]at hj;rw[hx.ae];rw[List.getElem?_drop,<-ht,lE,if_pos (by omega)]at hu;rw[<-Array.getElem?_toList];exact hu)
 unfold maxLen at hc;have HT:=aa ht;have HF:=aa hf;have HL:=aa hl;have hic:i<=cap:=by omega
 have HM:=aa hm;clear hl ht hf hm;go_enter func171,ntmps171;go_upto_region 5 with fail
 refine nR (fun wx=>True∧lF w wx) 6 (by kernel_rfl) (fun w1 hd=>⟨trivial,lF.dr hd⟩) (fun w1 hd hs=>?_);have aK:=af.dr hd;refine Yv 0 ?_;refine Yv 1 ?_;simp only[pt,sA,sS,sZ];refine Yt 2 22 (.slice (some ⟨g,0,none⟩) i cap) rfl hs ?_ ?_
 ·intro wx;go_simp
 simp only[pt,sA,sS,sZ];refine Yv 3 ?_;refine Yv 4 ?_;simp only[pt,sA,sS,sZ];refine Yt 5 25 (.slice (some ⟨g,oi,none⟩) m (cap-(i+1))) rfl hs ?_ ?_
 ·intro wx;go_simp;rw[if_pos (by omega),show k-i=m by omega]
 simp only[pt,sA,sS,sZ];refine Yl 6 fun K hK=>?_;have⟨s0,hL⟩:=hs;refine step_append_room ix (by rfl) _ _ (by rfl) (by rfl) (by rfl) (hL.holds ux) HF.o (nP.o _ (hL.holds ux)) (by intro z hz;exact gH z (List.mem_of_mem_drop hz)) (by omega) hcz ?_;intro w5 cs5 XX anE bg dJ;clear s0 hL hs;refine hK _ _ ?_;clear hK K;refine Yl 7 fun K hK=>?_;go_simp;refine hK _ _ ?_;clear hK K;refine Ye ?_;rotate_left;all_goals
 obtain⟨cs6,h6a,h6b,bC,bm⟩:=Nh (P:=Tryz.prog) ix (by decide) bg (by rw[XX];exact HF.o) k 1 (cap-k) (by omega) (by rw[XX];omega);go_wp2_with fail
 go_ret;have ei:=Dp.o;have ki:(cur.toList.take (i*4)++(cQ es).drop ((i+1)*4)).length=k*4:=by
  rw[aY,dG,dA,eu,vP,ei];omega
 have Xt:cs6.toList.take (k*4)=cQ (es.eraseIdx i):=by
  rw[h6b,anE,<-ki];show((cur.toList.take (i*4)++(cQ es).drop ((i+1)*4))++_).take _=_;rw[List.take_left,List.eraseIdx_eq_take_drop_succ,eM,Fh,Fi,<-HT.o,List.take_take,uc (by omega)]
 have hle:(es.eraseIdx i).length=k:=by rw[List.length_eraseIdx_of_lt (by omega)];omega
 refine⟨.slice (some ⟨g,0,none⟩) k cap,[(g,.cells cs6 24 fz)],rfl,⟨by rw[eu],.inr ⟨g,cap,cs6,fz,by rw[hle],by rw[hle];omega,by unfold maxLen;omega,by rw[h6a,XX];exact hcz,by rw[hle];exact Xt,by rw[h6a,XX];exact HF.o,rfl⟩⟩,bC,?_⟩;exact(aK.trans dJ).setRow _ _
def eL(a:Int)(es:List az):Option az:=es.find? (·.addr==a)
theorem Ci(a:Int)(es:List az):(atI a es=-1∧eL a es=none)∨∃(i:Nat) (h:i<es.length),atI a es=i∧eL a es=some es[i]∧es[i].addr=a:=by
 unfold atI eL Lib.idxBy;have key:∀(es:List az) (k:Nat),(Lib.idxByFrom (fun _ y:az=>y.addr==a) default es k=-1∧es.find? (·.addr==a)=none)∨∃(i:Nat) (h:i<es.length),Lib.idxByFrom (fun _ y:az=>y.addr==a) default es k=(k+i:Nat)∧es.find? (·.addr==a)=some es[i]∧es[i].addr=a:=by
  intro es
  induction es with
  |nil=>intro k;exact .inl ⟨rfl,rfl⟩
  |cons r rs ih=>
   intro k;unfold Lib.idxByFrom;by_cases hr:(r.addr==a)=true
   ·rw[if_pos hr];refine .inr ⟨0,by simp,rfl,by rw[List.find?_cons];simp[hr],by simpa using hr⟩
   ·rw[if_neg hr,show(r::rs).find? (·.addr==a)=rs.find? (·.addr==a) by rw[List.find?_cons];simp[hr]];rcases ih (k+1)with h|⟨i,hi,h1,h2,h3⟩
    ·exact .inl h
    ·exact .inr ⟨i+1,by simpa using hi,by rw[h1];congr 1;omega,by simpa using h2,by simpa using h3⟩
 rcases key es 0 with h|⟨i,hi,h1,h2⟩
 ·exact .inl h
 ·exact .inr ⟨i,hi,by simpa using h1,h2⟩
def mo(o:Option az):Value:=.tuple #[(o.getD az.zero).agg,.bool o.isSome]
theorem Ro(v:Value)(bk:List (List az))(m:Int)(es:List az)(a:Int)(H Fr:HL)(w:World)(hv:jV v bk m H)(hH:Holds w (H++Fr))(hn:bk.length<=1000000)(mJ:bk[cu a bk.length]?=some es)(kJ:es.length<=1000000):
  Calls Tryz.prog 62 #[v,.int .u64 a] w (cM (mo (eL a es)) w (H++Fr)):=by
 obtain⟨b,g,cap,ev,Hi,Hr,rfl,ff,gT,hk,ay,ae,fg,qi,bz⟩:=hv.open_ mJ;have h0:0<bk.length:=by omega
 have fU:=hH.alloc (.cells #[.int .u64 0,.int .i64 0,.bool false,.int .i64 0] 24);obtain⟨c1,c2,c3,c4,c5,c6,c7⟩:=ae _ _ (fg _ _ fU.tail).right;have HB:=aa (nU b g bk.length cap a _ c1 h0 hn);have HF:=aa fU;have HE:Zh (∀wy (o:Nat×Obj),Holds wy (o::(H++Fr))->eC wy ev es):=aa fun wy o hy=>ay.at_ (fg wy Fr hy.tail);clear ae fg qi bz fU mJ;obtain⟨A,c,rfl⟩:=ay.val;clear ay;generalize bk.length=n at*;go_enter func62,ntmps62;go_wp2_with fail
 refine HB.o.mono ?_;rintro e w'⟨rfl,q,rfl⟩;have LU:=aa (Ch (.slice A es.length c) es a _ _ (fun wy hy=>HE.o wy _ hy) (HF.o.drewN q) kJ);have aK:=((af.refl w).alloc (.cells #[.int .u64 0,.int .i64 0,.bool false,.int .i64 0] 24)).drewN q;clear HB;go_wp2_with fail
 refine LU.o.mono ?_;rintro e w2⟨rfl,aB,aX⟩;have Oi:=aa aB;have z0:=aB.ae 0;have z1:=aB.ae 1;have z2:=aB.ae 2;have z3:=aB.ae 3;have y0:=aB.ah 0;have y1:=aB.ah 1;have y2:=aB.ah 2;have y3:=aB.ah 3;have HG:=aa (aK.trans aX);clear LU aB aK aX;have HS:Zh (∀x:az,Holds ((((w2.setCell ⟨w.heap.size,0,none⟩ (.int .u64 x.addr)).setCell ⟨w.heap.size,1,none⟩ (.int .i64 x.aW)).setCell ⟨w.heap.size,2,none⟩ (.bool x.bR)).setCell ⟨w.heap.size,3,none⟩ (.int .i64 x.seq)) (H++Fr)∧
   af w ((((w2.setCell ⟨w.heap.size,0,none⟩ (.int .u64 x.addr)).setCell ⟨w.heap.size,1,none⟩ (.int .i64 x.aW)).setCell ⟨w.heap.size,2,none⟩ (.bool x.bR)).setCell ⟨w.heap.size,3,none⟩ (.int .i64 x.seq))):=aa fun x=>
  ⟨((((Oi.o.ej 0 _).ej 1 _).ej 2 _).ej 3 _).tail,(((HG.o.setCell _ _).setCell _ _).setCell _ _).setCell _ _⟩
 rcases Ci a es with⟨h1,h2⟩|⟨i,hi,h1,h2,h3⟩
 ·rw[h1];have HX:=aa h2;clear h1 h2;go_wp2_with fail
  refine⟨rfl,mo none,(by rw[results_cell_tmp rfl];go_simp;rfl),by rw[HX.o],HS.o az.zero⟩
 ·rw[h1];clear h1 h3;obtain⟨A',c',xD,_,_,AV⟩:=(HE.o w2 _ Oi.o).cells;injection xD with gM _ kS;subst gM kS;obtain⟨bb,oo,rfl,LH⟩:=AV (by omega);obtain⟨d0,d1,d2,d3⟩:=LH i hi;clear AV LH;generalize es[i]=x at*;obtain⟨x0,x1,x2,x3⟩:=x;simp only at d0 d1 d2 d3;have HX:=aa h2;clear h2;go_wp2_with fail
  refine⟨rfl,mo (some ⟨x0,x1,x2,x3⟩),(by rw[results_cell_tmp rfl];go_simp;rfl),by rw[HX.o],HS.o ⟨x0,x1,x2,x3⟩⟩
abbrev eU(l:List az):Prop:=l.Pairwise fun x y=>x.addr<y.addr
theorem Pj(bk:List (List az)):mj (bk.map fun es=>(es.length,cQ es))=bk.flatten.length:=by
 unfold mj
 induction bk with
 |nil=>rfl
 |cons b bs ih=>simp only[ku,List.sum_cons,kr,aY]at*;omega
theorem Pk(bk:List (List az)):xR (bk.map fun es=>(es.length,cQ es))=cQ bk.flatten:=by
 unfold xR
 induction bk with
 |nil=>rfl
 |cons b bs ih=>simp only[ku,kr,eM,ih]
theorem adU{l es:List az}(hi:eU l)(ha:Asc es)(hp:es.Perm l):es=l:=by
 induction l generalizing es with
 |nil=>exact hp.eq_nil
 |cons x xs ih=>
  match es,hp,ha with
  |[],hp,_=>exact absurd hp.symm.eq_nil (by simp)
  |y::ys,hp,ha=>
   have hxy:y=x:=by
    have hy:y∈x::xs:=hp.mem_iff.1 (by simp);have hx:x∈y::ys:=hp.mem_iff.2 (by simp);rcases List.mem_cons.1 hy with h|h
    ·exact h
    ·rcases List.mem_cons.1 hx with h2|h2
     ·exact h2.symm
     ·have h3:=(List.pairwise_cons.1 hi).1 y h;have h4:=(List.pairwise_cons.1 ha).1 x h2;omega
   subst hxy;rw[ih (List.pairwise_cons.1 hi).2 (List.pairwise_cons.1 ha).2 (List.perm_cons y|>.1 hp)]
theorem Fj(v:Value)(bk:List (List az))(m:Int)(L:List az)(H Fr:HL)(w:World)(hv:jV v bk m H)(hH:Holds w (H++Fr))(hi:eU L)(hp:L.Perm bk.flatten)(kJ:L.length<=1000000):
  Calls Tryz.prog 57 #[v] w (cB (fun v' H'=>aP v' L H') w (H++Fr)):=by
 obtain⟨b,A,c,rfl,hl,hc,ae,_,_,cm⟩:=hv.view;obtain⟨c1,c2,c3,c4⟩:=ae w Fr hH;have ik:=hp.length_eq;have ahi:=aa (VR (.slice A bk.length c) _ w (H++Fr) (fun wx hx=>cm wx Fr hx) hH (by rw[Pj];omega) (by rw[Pk];exact gH));clear ae cm;go_enter func57,ntmps57;go_wp2_with fail
 refine ahi.o.mono ?_;rintro e w1⟨v1,H1,rfl,PV,ax,aK⟩;rw[Pj,Pk]at PV;clear ahi;generalize bk.flatten=z at*;have HSO:=aa (Nk v1 z H1 (H++Fr) w1 PV ax (by omega));obtain⟨A1,q1,rfl⟩:=PV.val;clear PV;go_wp2_with fail
 refine HSO.o.mono ?_;rintro e w2⟨rfl,H2,⟨nk,Tr,oU,pe⟩,aB,aX⟩;have HE:Zh (aP (.slice A1 z.length q1) L H2):=aa (by rw[<-adU hi oU (Tr.trans hp.symm)];exact pe);clear HSO Tr oU pe;go_wp2_with fail
 go_ret;exact⟨_,H2,rfl,HE.o,aB,aK.trans aX⟩
def fV(L:List az)(e:az):List az:=L.filter (fun x=>decide (x.addr<e.addr))++e::L.filter (fun x=>decide (e.addr<x.addr))
def iO(L:List az)(a:Int):List az:=L.filter (fun x=>decide (x.addr≠a))
theorem iS{L:List az}{e x:az}:x∈fV L e↔x=e∨(x∈L∧x.addr≠e.addr):=by
 unfold fV;simp only[lZ,List.mem_filter,l6,decide_eq_true_eq];constructor
 ·rintro(⟨h1,h2⟩|h|⟨h1,h2⟩)
  ·exact .inr ⟨h1,by omega⟩
  ·exact .inl h
  ·exact .inr ⟨h1,by omega⟩
 ·rintro(h|⟨h1,h2⟩)
  ·exact .inr (.inl h)
  ·rcases Int.lt_or_lt_of_ne h2 with h|h
   ·exact .inl ⟨h1,h⟩
   ·exact .inr (.inr ⟨h1,h⟩)
theorem qx{L:List az}{a:Int}{x:az}:x∈iO L a↔x∈L∧x.addr≠a:=by simp[iO,List.mem_filter]
theorem eU.put{L:List az}(h:eU L)(e:az):eU (fV L e):=by
 unfold fV;refine List.pairwise_append.2 ⟨h.filter _,List.pairwise_cons.2 ⟨fun y hy=>by simpa using(List.mem_filter.1 hy).2,h.filter _⟩,fun x hx y hy=>?_⟩;have h1:x.addr<e.addr:=by simpa using(List.mem_filter.1 hx).2
 rcases List.mem_cons.1 hy with rfl|hy
 ·exact h1
 ·have h2:e.addr<y.addr:=by simpa using(List.mem_filter.1 hy).2
  omega
theorem eU.drop{L:List az}(h:eU L)(a:Int):eU (iO L a):=h.filter _
theorem J7{L:List az}(h:eU L){x y:az}(hx:x∈L)(hy:y∈L)(he:x.addr=y.addr):x=y:=by
 induction L with
 |nil=>cases hx
 |cons z zs ih=>
  obtain⟨h1,h2⟩:=List.pairwise_cons.1 h;rcases List.mem_cons.1 hx with ex|qN<;>rcases List.mem_cons.1 hy with ey|uv
  ·rw[ex,ey]
  ·have:=h1 y uv;rw[ex]at he;omega
  ·have:=h1 x qN;rw[ey]at he;omega
  ·exact ih h2 qN uv
theorem uP{a:Int}{L:List az}{e:az}(h:eL a L=some e):e∈L∧e.addr=a:=by
 unfold eL at h;exact⟨List.mem_of_find?_eq_some h,by simpa using List.find?_some h⟩
theorem jA{a:Int}{L:List az}:eL a L=none↔∀x∈L,x.addr≠a:=by
 unfold eL;simp[List.find?_eq_none]
theorem yI{L:List az}(h:eU L){e:az}(he:e∈L):eL e.addr L=some e:=by
 cases hf:eL e.addr L with
 |none=>exact absurd rfl (jA.1 hf e he)
 |some x=>
  obtain⟨h1,h2⟩:=uP hf;rw[J7 h h1 he h2]
theorem Nl(a:Int)(x:az)(xs:List az):eL a (x::xs)=if x.addr=a then some x else eL a xs:=by
 unfold eL;by_cases h:x.addr=a
 ·rw[if_pos h,List.find?_cons_of_pos (by simpa using h)]
 ·rw[if_neg h,List.find?_cons_of_neg (by simpa using h)]
theorem Pm{L:List az}(h:eU L)(a:Int):(L.filter fun x=>decide (x.addr=a)).length=(eL a L).toList.length:=by
 induction L with
 |nil=>rfl
 |cons x xs ih=>
  obtain⟨h1,h2⟩:=List.pairwise_cons.1 h;by_cases hx:x.addr=a
  ·have e1:(xs.filter fun x=>decide (x.addr=a))=[]:=List.filter_eq_nil_iff.2 fun y hy=>by have:=h1 y hy;simp;omega
   have e2:eL a (x::xs)=some x:=by rw[<-hx];exact yI h (by simp)
   rw[e2,za (by simpa using hx),e1];rfl
  ·rw[qd (by simpa using hx),ih h2];rw[Nl,if_neg hx]
theorem Rp(L:List az)(a:Int):(L.filter fun x=>decide (x.addr<a)).length+(L.filter fun x=>decide (a<x.addr)).length+(L.filter fun x=>decide (x.addr=a)).length=L.length:=by
 induction L with
 |nil=>rfl
 |cons x xs ih=>
  rcases Int.lt_trichotomy x.addr a with h|h|h
  ·rw[za (by simpa using h),qd (by simp;omega),qd (by simp;omega)];simp;omega
  ·rw[qd (by simp;omega),qd (by simp;omega),za (by simpa using h)];simp;omega
  ·rw[qd (by simp;omega),za (by simpa using h),qd (by simp;omega)];simp;omega
theorem J8{L:List az}(h:eU L)(e:az):(fV L e).length+(eL e.addr L).toList.length=L.length+1:=by
 have h1:=Rp L e.addr;have h2:=Pm h e.addr;unfold fV;rw[aY,fC];omega
theorem YS(L:List az)(a:Int):(iO L a).length+(L.filter fun x=>decide (x.addr=a)).length=L.length:=by
 unfold iO
 induction L with
 |nil=>rfl
 |cons x xs ih=>
  by_cases h:x.addr=a
  ·rw[qd (by simpa using h),za (by simpa using h)];simp only[fC];omega
  ·rw[za (by simpa using h),qd (by simpa using h)];simp only[fC];omega
theorem VS{L:List az}(h:eU L)(a:Int):(iO L a).length+(eL a L).toList.length=L.length:=by
 have h1:=YS L a;have h2:=Pm h a;omega
structure DP(bk:List (List az))(L:List az):Prop where
 pos:0<bk.length
 le:bk.length<=250000
 inc:eU L
 nn:∀e∈L,0<=e.addr
 home:∀(i:Nat) (es:List az),bk[i]?=some es->∀e∈es,cu e.addr bk.length=i
 T9:∀es∈bk,es.Pairwise fun x y=>x.addr≠y.addr
 mem:∀e,e∈L↔∃es∈bk,e∈es
section
variable{bk:List (List az)}{L:List az}
theorem DP.perm(h:DP bk L):L.Perm bk.flatten:=by
 have n1:L.Nodup:=h.inc.imp (fun{x y} h e=>by subst e;omega);have n2:bk.flatten.Nodup:=by
  unfold List.Nodup;refine List.pairwise_flatten.2 ⟨fun es mJ=>(h.T9 es mJ).imp fun{x y} ei e=>by subst e;exact ei rfl,?_⟩;refine List.pairwise_iff_getElem.2 fun i j hi hj rF x hx y hy e=>?_;subst e;have h1:=h.home i _ (bF hi) x hx;have h2:=h.home j _ (bF hj) x hy;omega
 refine(List.perm_ext_iff_of_nodup n1 n2).2 fun x=>?_;rw[h.mem,List.mem_flatten]
theorem DP.bucket(h:DP bk L)(a:Int):∃es,bk[cu a bk.length]?=some es∧eL a es=eL a L∧(∀x∈es,x∈L)∧es.length<=L.length:=by
 have hl:=wO a bk.length h.pos;refine⟨bk[cu a bk.length],bF hl,?_,fun x hx=>(h.mem x).2 ⟨_,cX hl,hx⟩,?_⟩
 ·cases hf:eL a L with
  |none=>exact jA.2 fun x hx=>jA.1 hf x ((h.mem x).2 ⟨_,cX hl,hx⟩)
  |some e=>
   obtain⟨h1,h2⟩:=uP hf;obtain⟨es,mJ,hee⟩:=(h.mem e).1 h1;obtain⟨i,hi,rfl⟩:=List.mem_iff_getElem.1 mJ;have hh:=h.home i _ (bF hi) e hee;rw[h2]at hh;subst hh;cases hg:eL a bk[cu a bk.length]with
   |none=>exact absurd h2 (jA.1 hg e hee)
   |some x=>
    obtain⟨h3,h4⟩:=uP hg;rw[J7 h.inc ((h.mem x).2 ⟨_,cX hl,h3⟩) h1 (by omega)]
 ·have h1:=h.perm.length_eq;have h2:=congrArg List.length (fm bk _ _ (bF hl));rw[aY,aY]at h2;omega
theorem DP.inb(h:DP bk L){i:Nat}{es:List az}(mJ:bk[i]?=some es)(x:az):x∈es↔x∈L∧cu x.addr bk.length=i:=by
 constructor
 ·intro hx;exact⟨(h.mem x).2 ⟨es,gD mJ,hx⟩,h.home i es mJ x hx⟩
 ·rintro⟨h1,h2⟩;obtain⟨DM,oU,th⟩:=(h.mem x).1 h1;obtain⟨j,hj,rfl⟩:=List.mem_iff_getElem.1 oU;have h3:=h.home j _ (bF hj) x th;have rF:i=j:=by omega
  subst rF;rw[bF hj]at mJ;rw[<-Option.some.inj mJ];exact th
theorem DP.set(h:DP bk L){i:Nat}{es:List az}(mJ:bk[i]?=some es){nk L':List az}(h1:∀e∈nk,cu e.addr bk.length=i)(h2:nk.Pairwise fun x y=>x.addr≠y.addr)(hi:eU L')(hn:∀e∈L',0<=e.addr)
  (hm:∀e,e∈L'↔e∈nk∨(e∈L∧cu e.addr bk.length≠i)):DP (bk.set i nk) L':=by
 have aG:i<bk.length:=(List.getElem?_eq_some_iff.1 mJ).1;refine⟨by rw[k5];exact h.pos,by rw[k5];exact h.le,hi,hn,fun j fs hj e he=>?_,fun fs hf=>?_,fun e=>?_⟩
 ·rw[k5];rw[List.getElem?_set]at hj;by_cases rF:i=j
  ·subst rF;rw[if_pos rfl,if_pos aG]at hj;exact h1 e (by rw[Option.some.inj hj];exact he)
  ·rw[if_neg rF]at hj;exact h.home j fs hj e he
 ·rcases vM hf with hf|rfl
  ·exact h.T9 fs hf
  ·exact h2
 ·rw[hm];constructor
  ·rintro(he|⟨he,ei⟩)
   ·exact⟨nk,List.mem_set aG _,he⟩
   ·obtain⟨fs,hf,Xy⟩:=(h.mem e).1 he;obtain⟨j,hj,rfl⟩:=List.mem_iff_getElem.1 hf;have h3:=h.home j _ (bF hj) e Xy;refine⟨bk[j],List.mem_of_getElem? (i:=j) ?_,Xy⟩;rw[List.getElem?_set,if_neg (by omega),bF hj]
  ·rintro⟨fs,hf,Xy⟩;obtain⟨j,hj,rfl⟩:=List.mem_iff_getElem.1 hf;rw[List.getElem_set]at Xy;by_cases rF:i=j
   ·rw[if_pos rF]at Xy;exact .inl Xy
   ·rw[if_neg rF]at Xy;have xF:j<bk.length:=by simpa using hj
    have h3:=h.home j _ (bF xF) e Xy;exact .inr ⟨(h.mem e).2 ⟨_,cX xF,Xy⟩,by omega⟩
theorem DP.old(h:DP bk L){e:az}{es:List az}(mJ:bk[cu e.addr bk.length]?=some es){i:Nat}(hi:i<es.length)(ha:es[i].addr=e.addr)(h0:0<=e.addr):DP (bk.set (cu e.addr bk.length) (es.set i e)) (fV L e):=by
 have hd:=h.T9 es (gD mJ);have Io:∀j (hj:j<es.length),j≠i->es[j].addr≠e.addr:=by
  intro j hj Ad he;rcases Nat.lt_or_lt_of_ne Ad with aG|aG
  ·exact List.pairwise_iff_getElem.1 hd j i hj hi aG (by omega)
  ·exact List.pairwise_iff_getElem.1 hd i j hi hj aG (by omega)
 have oY:∀x,x∈es.set i e↔x=e∨(x∈es∧x.addr≠e.addr):=by
  intro x;constructor
  ·intro hx;obtain⟨j,hj,rfl⟩:=List.mem_iff_getElem.1 hx;rw[List.getElem_set];by_cases rF:i=j
   ·rw[if_pos rF];exact .inl rfl
   ·rw[if_neg rF];exact .inr ⟨cX _,Io j (by simpa using hj) (by omega)⟩
  ·rintro(rfl|⟨hx,ei⟩)
   ·exact List.mem_set hi _
   ·obtain⟨j,hj,rfl⟩:=List.mem_iff_getElem.1 hx;have Ad:i≠j:=by rintro rfl;exact ei ha
    exact List.mem_of_getElem? (i:=j) (by rw[List.getElem?_set,if_neg Ad,bF hj])
 refine h.set mJ ?_ ?_ (h.inc.put e) ?_ fun x=>?_
 ·intro x hx;rcases(oY x).1 hx with rfl|⟨hx,_⟩
  ·rfl
  ·exact((h.inb mJ x).1 hx).2
 ·refine List.pairwise_iff_getElem.2 fun j k hj hk qE=>?_;have xF:j<es.length:=by simpa using hj
  have hk':k<es.length:=by simpa using hk
  rw[List.getElem_set,List.getElem_set];by_cases h1:i=j
  ·rw[if_pos h1,if_neg (by omega)];exact fun he=>Io k hk' (by omega) he.symm
  ·rw[if_neg h1];by_cases h2:i=k
   ·rw[if_pos h2];exact Io j xF (by omega)
   ·rw[if_neg h2];exact List.pairwise_iff_getElem.1 hd j k xF hk' qE
 ·intro x hx;rcases iS.1 hx with rfl|⟨hx,_⟩
  ·exact h0
  ·exact h.nn x hx
 ·rw[iS,oY,h.inb mJ];constructor
  ·rintro(rfl|⟨h1,h2⟩)
   ·exact .inl (.inl rfl)
   ·by_cases hh:cu x.addr bk.length=cu e.addr bk.length
    ·exact .inl (.inr ⟨⟨h1,hh⟩,h2⟩)
    ·exact .inr ⟨h1,hh⟩
  ·rintro((rfl|⟨⟨h1,_⟩,h2⟩)|⟨h1,h2⟩)
   ·exact .inl rfl
   ·exact .inr ⟨h1,h2⟩
   ·exact .inr ⟨h1,fun he=>h2 (by rw[he])⟩
theorem DP.new(h:DP bk L){e:az}{es:List az}(mJ:bk[cu e.addr bk.length]?=some es)(hn:eL e.addr es=none)(h0:0<=e.addr):DP (bk.set (cu e.addr bk.length) (es++[e])) (fV L e):=by
 have hd:=h.T9 es (gD mJ);have ei:=jA.1 hn;refine h.set mJ ?_ ?_ (h.inc.put e) ?_ fun x=>?_
 ·intro x hx;rcases List.mem_append.1 hx with hx|hx
  ·exact((h.inb mJ x).1 hx).2
  ·rw[List.mem_singleton.1 hx]
 ·exact List.pairwise_append.2 ⟨hd,List.pairwise_singleton _ _,fun x hx y hy=>by rw[List.mem_singleton.1 hy];exact ei x hx⟩
 ·intro x hx;rcases iS.1 hx with rfl|⟨hx,_⟩
  ·exact h0
  ·exact h.nn x hx
 ·rw[iS,lZ,List.mem_singleton,h.inb mJ];constructor
  ·rintro(rfl|⟨h1,h2⟩)
   ·exact .inl (.inr rfl)
   ·by_cases hh:cu x.addr bk.length=cu e.addr bk.length
    ·exact .inl (.inl ⟨h1,hh⟩)
    ·exact .inr ⟨h1,hh⟩
  ·rintro((⟨h1,h2⟩|rfl)|⟨h1,h2⟩)
   ·exact .inr ⟨h1,ei x ((h.inb mJ x).2 ⟨h1,h2⟩)⟩
   ·exact .inl rfl
   ·exact .inr ⟨h1,fun he=>h2 (by rw[he])⟩
theorem DP.o(h:DP bk L){a:Int}{es:List az}(mJ:bk[cu a bk.length]?=some es){i:Nat}(hi:i<es.length)(ha:es[i].addr=a):DP (bk.set (cu a bk.length) (es.eraseIdx i)) (iO L a):=by
 have hd:=h.T9 es (gD mJ);have oY:∀x,x∈es.eraseIdx i↔(x∈es∧x.addr≠a):=by
  intro x;rw[List.mem_eraseIdx_iff_getElem];constructor
  ·rintro⟨j,hj,Ad,rfl⟩;refine⟨cX _,fun he=>?_⟩;rcases Nat.lt_or_lt_of_ne Ad with aG|aG
   ·exact List.pairwise_iff_getElem.1 hd j i hj hi aG (by omega)
   ·exact List.pairwise_iff_getElem.1 hd i j hi hj aG (by omega)
  ·rintro⟨hx,ei⟩;obtain⟨j,hj,rfl⟩:=List.mem_iff_getElem.1 hx;exact⟨j,hj,by rintro rfl;exact ei ha,rfl⟩
 refine h.set mJ ?_ ?_ (h.inc.drop a) ?_ fun x=>?_
 ·exact fun x hx=>((h.inb mJ x).1 ((oY x).1 hx).1).2
 ·exact hd.sublist (List.eraseIdx_sublist _ _)
 ·exact fun x hx=>h.nn x (qx.1 hx).1
 ·rw[qx,oY,h.inb mJ];constructor
  ·rintro⟨h1,h2⟩;by_cases hh:cu x.addr bk.length=cu a bk.length
   ·exact .inl ⟨⟨h1,hh⟩,h2⟩
   ·exact .inr ⟨h1,hh⟩
  ·rintro(⟨⟨h1,_⟩,h2⟩|⟨h1,h2⟩)
   ·exact⟨h1,h2⟩
   ·exact⟨h1,fun he=>h2 (by rw[he])⟩
end
def spread(L:List az)(n:Nat):List (List az):=(List.range n).map fun i=>L.filter fun e=>decide (cu e.addr n=i)
theorem oO(L:List az)(n:Nat):(spread L n).length=n:=by simp[spread]
theorem CQ(L:List az)(n:Nat){i:Nat}(hi:i<n):(spread L n)[i]?=some (L.filter fun e=>decide (cu e.addr n=i)):=by simp[spread,hi]
theorem CR(n:Nat):spread [] n=List.replicate n []:=by
 apply aaN
 ·simp[spread]
 ·intro i h1 h2;simp[spread]
theorem KV(L:List az)(n k:Nat)(hn:0<n)(hk:k<L.length):(spread (L.take k) n).set (cu L[k].addr n) ((L.take k).filter (fun e=>decide (cu e.addr n=cu L[k].addr n))++[L[k]])=spread (L.take (k+1)) n:=by
 apply aaN
 ·simp[spread]
 ·intro i h1 h2;rw[List.getElem_set];have hi:i<n:=by simpa[spread]using h2
  have e1:∀M:List az,(spread M n)[i]'(by simpa[spread]using hi)=M.filter fun e=>decide (cu e.addr n=i):=fun M=>by simp[spread]
  rw[e1,e1,gB hk,oA];by_cases hh:cu L[k].addr n=i
  ·rw[if_pos hh,za (by simpa using hh),hh];rfl
  ·rw[if_neg hh,qd (by simpa using hh)];simp
theorem Fk{L:List az}{n:Nat}(hn:0<n)(tS:n<=250000)(hi:eU L)(h0:∀e∈L,0<=e.addr):DP (spread L n) L:=by
 refine⟨by rw[oO];exact hn,by rw[oO];exact tS,hi,h0,fun i es mJ e he=>?_,fun es mJ=>?_,fun e=>?_⟩
 ·rw[oO];have aG:i<n:=by have:=(List.getElem?_eq_some_iff.1 mJ).1;rwa[oO]at this
  rw[CQ L n aG]at mJ;rw[<-Option.some.inj mJ]at he;simpa using(List.mem_filter.1 he).2
 ·obtain⟨i,_,rfl⟩:=List.mem_map.1 mJ;exact(hi.filter _).imp fun{x y} h=>by omega
 ·constructor
  ·intro he;exact⟨_,List.mem_map.2 ⟨cu e.addr n,List.mem_range.2 (wO _ _ hn),rfl⟩,List.mem_filter.2 ⟨he,by simp⟩⟩
  ·rintro⟨es,mJ,he⟩;obtain⟨i,_,rfl⟩:=List.mem_map.1 mJ;exact(List.mem_filter.1 he).1
def adV(L:List az)(n:Nat)(m:Int)(v:Value)(w:World)(F:HL)(i:Value)(wr:World):Prop:=
 ∃(k:Nat) (Hk:HL),k<=L.length∧i=.int .i64 k∧jV v (spread (L.take k) n) m Hk∧Holds wr (Hk++F)∧af w wr
theorem Nn(v:Value)(bk:List (List az))(m:Int)(L:List az)(H Fr:HL)(w:World)(hv:jV v bk m H)(hH:Holds w (H++Fr))(hp:L.Perm bk.flatten)(hi:eU L)(h0:0<bk.length)(hn:2*bk.length<=250000)(kJ:L.length<=200001):
  Calls Tryz.prog 172 #[v] w (mu (fun H'=>jV v (spread L (2*bk.length)) m H') (.tuple #[]) w Fr):=by
 have sr:=aa (Fj v bk m L H Fr w hv hH hi hp (by omega));obtain⟨b,A,c,rfl,hl,hc,ae,aje,bz,cm⟩:=hv.view;have HC:=aa ae;have xO:=aa bz;generalize bk.length=n0 at*;obtain⟨n,qG⟩:∃n,n=2*n0:=⟨_,rfl⟩;have DQ:=aa qG;have tS:(2:Int)*(n0:Int)=(n:Int):=by omega
 have PW:0<n:=by omega
 have Xz:n<=250000:=by omega
 obtain⟨cs,ay,yU⟩:=CN n (by omega);have HR:=aa ay;rw[<-qG];clear ae aje bz cm ay hv hp qG;go_enter func172,ntmps172;go_wp2_with fail
 refine sr.o.mono ?_;rintro e w1⟨v1,H1,rfl,PV,ax,aK⟩;have rG:=aa ax;have Xo:=aa PV;obtain⟨A1,q1,rfl⟩:=PV.val;obtain⟨c1,c2,_,_⟩:=HC.o w1 (H1++Fr) ax.swap;obtain⟨d1,_,d3,_⟩:=HC.o (w1.alloc (.cells cs 42)) (H1++Fr) (ax.swap.bP _);clear PV sr ax;go_wp2_with fail
 obtain⟨Hk0,p6,qO⟩:=xO.o _ (H1++Fr) (.slice (some ⟨w1.heap.size,0,none⟩) n n) _ _ (HR.o w1.heap.size) (by
  have h:=Holds.swap (A:=[(w1.heap.size,Obj.cells cs 42)]) (B:=H) (C:=H1++Fr) (by simpa using rG.o.swap.alloc (.cells cs 42));simpa using h)
 rw[<-CR n]at p6;have SI:=(aK.alloc (.cells cs 42)).setCell ⟨b,0,none⟩ (.slice (some ⟨w1.heap.size,0,none⟩) n n);go_loopw [20] (fun i wr=>adV L n m (.pointer (some ⟨b,0,none⟩)) w (H1++Fr) i wr) (fun i _=>L.length-(intOf i).toNat)
 case atStart=>exact⟨0,Hk0,by omega,rfl,by simpa using p6,qO,SI⟩
 case round=>
  clear p6 qO SI;obtain⟨k,Hk,hk,rfl,p8,LS,gf⟩:=hrel;by_cases aG:k<L.length
  ·have kV:=aa (KV L n k PW aG);have hlen:=wO L[k].addr n PW;obtain⟨b',g,cap,ev,Hi,Hr,hb,ff,gT,xt,ay,ae,fg,qi,bz⟩:=p8.open_ (CQ (L.take k) n hlen);injection hb with hb;injection hb with hb;injection hb with hb;subst hb;rw[oO]at ae ff;have Jd:=aP.at_ Xo.o (Fr:=Hk++Fr) LS.swap;obtain⟨A2,q2,mg,_,_,AV⟩:=Jd.cells;injection mg with anF _ anG;subst anF anG;obtain⟨bb,oo,rfl,LH⟩:=AV (by omega);obtain⟨d0,d1,d2,d3⟩:=LH k aG;have Oj:((L.take k).filter fun e=>decide (cu e.addr n=cu L[k].addr n)).length<=300000:=by
    have:=mU (fun e=>decide (cu e.addr n=cu L[k].addr n)) (L.take k);rw[dG]at this;omega
   clear Jd AV LH qi xt;generalize(L.take k).filter (fun e=>decide (cu e.addr n=cu L[k].addr n))=es at*;generalize hx:L[k]=x at*;obtain⟨x0,x1,x2,x3⟩:=x;simp only at d0 d1 d2 d3 hlen ae bz;obtain⟨W1,hW1⟩:∃W1,W1=wr.alloc (.cells #[.int .u64 x0,.int .i64 x1,.bool x2,.int .i64 x3] 24):=⟨_,rfl⟩;have LV:Holds W1 (Hi++(Hr++((wr.heap.size,.cells #[.int .u64 x0,.int .i64 x1,.bool x2,.int .i64 x3] 24)::(H1++Fr)))):=by
    rw[hW1];exact fg _ _ (Holds.swap (A:=[(wr.heap.size,Obj.cells #[.int .u64 x0,.int .i64 x1,.bool x2,.int .i64 x3] 24)]) (B:=Hk) (C:=H1++Fr) (by simpa using LS.alloc (.cells #[.int .u64 x0,.int .i64 x1,.bool x2,.int .i64 x3] 24)))
   have aX:af w W1:=by rw[hW1];exact gf.alloc _
   have HS:Zh (∀(wx:World) (X:HL),Holds wx (X++(Hr++((wr.heap.size,.cells #[.int .u64 x0,.int .i64 x1,.bool x2,.int .i64 x3] 24)::(H1++Fr))))->wx.cell? ⟨g,cu x0 n,none⟩=some ev∧wx.frozen? ⟨g,cu x0 n,none⟩=false∧wx.cell? ⟨wr.heap.size,0,none⟩=some (.int .u64 x0)∧wx.cell? ⟨wr.heap.size,1,none⟩=some (.int .i64 x1)∧wx.cell? ⟨wr.heap.size,2,none⟩=some (.bool x2)∧wx.cell? ⟨wr.heap.size,3,none⟩=some (.int .i64 x3)):=aa (by
    intro wx X hX;obtain⟨_,_,e3,e4,_⟩:=ae wx _ hX.right;have h2:=hX.right.right;exact⟨e3,e4,h2.ae 0,h2.ae 1,h2.ae 2,h2.ae 3⟩)
   obtain⟨f1,_⟩:=ae W1 _ LV.right;have HB:=aa (nU b g n cap x0 W1 f1 PW (by omega));have ajf:=aa bz;have jm:=aa ay;have HHI:=aa LV;rw[hW1]at HB;obtain⟨Ae,ce,rfl⟩:=ay.val;clear ae fg bz ay LV p8 LS f1;go_wp2_with fail
   refine HB.o.mono ?_;rintro e w'⟨rfl,q,rfl⟩;rw[<-hW1];have bj:=aX.drewN q;have LV:=HHI.o.drewN q;clear HB hW1 aX;go_upto_region 6 with fail
   refine aF (fun wx=>wx.cell? ⟨g,cu x0 n,none⟩=some (.slice Ae es.length ce)∧wx.frozen? ⟨g,cu x0 n,none⟩=false∧wx.cell? ⟨wr.heap.size,0,none⟩=some (.int .u64 x0)∧wx.cell? ⟨wr.heap.size,1,none⟩=some (.int .i64 x1)∧wx.cell? ⟨wr.heap.size,2,none⟩=some (.bool x2)∧wx.cell? ⟨wr.heap.size,3,none⟩=some (.int .i64 x3)) 8 (by kernel_rfl) (fun w1 hd=>HS.o _ _ (LV.dr hd)) (fun w1 hd hs=>?_);have aB:=LV.dr hd;have cY:=bj.trans (af.dr hd);clear hd LV bj;refine dY 0 1 2 3 ?_;refine ji 4 ?_;refine Zm 5 fun K hK=>?_;go_simp;refine hK _ _ (HS.o _ _ (aB.bP _)) (fun _=>?_);clear hK K hs;rename_i hs;refine Zm 6 fun K hK=>?_;refine bf ix (by rfl) _ _ (by rfl) (by rfl) (by rfl) jm.o (Fr:=Hr++((wr.heap.size,.cells #[.int .u64 x0,.int .i64 x1,.bool x2,.int .i64 x3] 24)::(H1++Fr))) (aB.bP _) (ag.many (n:=1) (size:=4) (by rfl) (by simp[maxLen])) (by simp[Value.oneCell']) (by simp[maxLen];omega) (by omega) ?_;intro A' c3 w' H' jT bC bV;refine hK _ _ (HS.o _ _ bC) (fun _=>?_);clear hK K hs;rename_i hs;refine ji 7 ?_;refine Zl 8 fun K hK=>?_;go_simp;refine hK _ _ ?_;clear hK K hs;refine Ze ?_;have JD:aP (.slice A' (es.length+1) c3) (es++[⟨x0,x1,x2,x3⟩]) H':=by unfold aP;rw[aY,eM];exact jT
   obtain⟨Hk2,Be,Oh⟩:=ajf.o w' _ _ _ H' JD bC;rw[kV.o]at Be;have hh3:=Holds.DD (A:=Hk2) (B:=[(wr.heap.size,Obj.cells #[.int .u64 x0,.int .i64 x1,.bool x2,.int .i64 x3] 24)]) (C:=H1++Fr) (by simpa using Oh);have dJ:=((cY.alloc _).trans bV).setCell ⟨g,cu x0 n,none⟩ (.slice A' (es.length+1) c3);have WJ:=aa Be;clear jT JD bC aB cY bV Oh Be;go_wp2_with fail
   exact⟨⟨k+1,Hk2,by omega,by go_num,WJ.o,hh3,dJ⟩,by simp[intOf];omega⟩
  ·have zN:k=L.length:=by omega
   subst zN;rw[fB]at p8;have HTA:=aa p8;clear p8;go_wp2_with fail
   go_end0
   exact⟨rfl,Hk,HTA.o,LS.DD,gf⟩
def IsTable(v:Value)(L:List az)(H:HL):Prop:=∃bk,jV v bk L.length H∧DP bk L∧L.length<=200000
theorem IsTable.ptr{v:Value}{L:List az}{H:HL}(h:IsTable v L H):∃b,v=.pointer (some ⟨b,0,none⟩):=by obtain⟨_,h,_⟩:=h;exact h.ptr
theorem IsTable.inc{v:Value}{L:List az}{H:HL}(h:IsTable v L H):eU L:=by obtain⟨_,_,h,_⟩:=h;exact h.inc
theorem IsTable.nn{v:Value}{L:List az}{H:HL}(h:IsTable v L H):∀e∈L,0<=e.addr:=by obtain⟨_,_,h,_⟩:=h;exact h.nn
def js(e:az):Array Value:=#[.int .u64 e.addr,.int .i64 e.aW,.bool e.bR,.int .i64 e.seq]
def jb(w:World)(z o:Nat)(x:az):World:=(((w.setCell ⟨z,o,none⟩ (.int .u64 x.addr)).setCell ⟨z,o+1,none⟩ (.int .i64 x.aW)).setCell ⟨z,o+2,none⟩ (.bool x.bR)).setCell ⟨z,o+3,none⟩ (.int .i64 x.seq)
theorem vX{w:World}{A Fr:HL}{z:Nat}{e:az}(h:Holds w (A++((z,.cells (js e) 24)::Fr))):
  w.cell? ⟨z,0,none⟩=some (.int .u64 e.addr)∧w.cell? ⟨z,1,none⟩=some (.int .i64 e.aW)∧w.cell? ⟨z,2,none⟩=some (.bool e.bR)∧w.cell? ⟨z,3,none⟩=some (.int .i64 e.seq)∧
   w.frozen? ⟨z,0,none⟩=false∧w.frozen? ⟨z,1,none⟩=false∧w.frozen? ⟨z,2,none⟩=false∧w.frozen? ⟨z,3,none⟩=false∧
   ∀x:az,Holds (jb w z 0 x) (A++Fr):=by
 have h1:=h.right;refine⟨h1.ae 0,h1.ae 1,h1.ae 2,h1.ae 3,h1.ah 0,h1.ah 1,h1.ah 2,h1.ah 3,fun x=>?_⟩;have h2:Holds w ((z,.cells (js e) 24)::(A++Fr)):=by
  have:=Holds.swap (A:=A) (B:=[(z,Obj.cells (js e) 24)]) (C:=Fr) (by simpa using h);simpa using this
 exact((((h2.ej 0 _).ej 1 _).ej 2 _).ej 3 _).tail
theorem af.jb{a w:World}(h:af a w)(z o:Nat)(x:az):af a (jb w z o x):=(((h.setCell _ _).setCell _ _).setCell _ _).setCell _ _
theorem Fl(v:Value)(L:List az)(e:az)(H Fr:HL)(w:World)(hv:IsTable v L H)(hH:Holds w (H++Fr))(h0:0<=e.addr)(hl:L.length<200000):
  Calls Tryz.prog 107 #[v,e.agg] w (mu (fun H'=>IsTable v (fV L e) H') (mo (eL e.addr L)) w Fr):=by
 obtain⟨bk,p8,cj,_⟩:=hv;obtain⟨es,mJ,Wy,_,hlen⟩:=cj.bucket e.addr;have tP:=cj.pos;have hle:=cj.le;obtain⟨b,g,cap,ev,Hi,Hr,rfl,ff,gT,xt,ay,ae,fg,qi,bz⟩:=p8.open_ mJ;have lR:=aa cj;have HES:=aa mJ;have WK:=aa Wy;have zd:=aa ae;have ajg:=aa qi;have xO:=aa bz;have ko:=aa (J8 cj.inc e);have LV:Holds ((w.alloc (.cells (js e) 24)).alloc (.cells (js az.zero) 24)) (Hi++(Hr++((w.heap.size+1,.cells (js az.zero) 24)::((w.heap.size,.cells (js e) 24)::Fr)))):=by
  refine fg _ _ ?_;have h1:=(hH.alloc (.cells (js e) 24)).alloc (.cells (js az.zero) 24);rw[World.size_alloc]at h1;have h2:=Holds.swap (A:=[(w.heap.size+1,Obj.cells (js az.zero) 24),(w.heap.size,Obj.cells (js e) 24)]) (B:=H) (C:=Fr) (by simpa using h1);simpa using h2
 obtain⟨e0,e1,e2,e3⟩:=e;simp only[js,az.agg,az.zero]at*;generalize SJ:bk.length=n at*;have Dy:=aa SJ;clear SJ;have HS:Zh (∀(wx:World) (X F:HL),Holds wx (X++(Hr++((w.heap.size+1,.cells #[.int .u64 0,.int .i64 0,.bool false,.int .i64 0] 24)::((w.heap.size,.cells #[.int .u64 e0,.int .i64 e1,.bool e2,.int .i64 e3] 24)::F))))->wx.cell? ⟨g,cu e0 n,none⟩=some ev∧wx.frozen? ⟨g,cu e0 n,none⟩=false∧wx.cell? ⟨w.heap.size,0,none⟩=some (.int .u64 e0)∧wx.cell? ⟨w.heap.size,1,none⟩=some (.int .i64 e1)∧wx.cell? ⟨w.heap.size,2,none⟩=some (.bool e2)∧wx.cell? ⟨w.heap.size,3,none⟩=some (.int .i64 e3)):=aa (by
  intro wx X F hX;obtain⟨_,_,f3,f4,_⟩:=ae wx _ hX.right;have h2:=hX.right.right.tail;exact⟨f3,f4,h2.ae 0,h2.ae 1,h2.ae 2,h2.ae 3⟩)
 obtain⟨f1,_⟩:=ae _ _ LV.right;have HB:=aa (nU b g n cap e0 _ f1 tP (by omega));have jm:=aa ay;have HHI:=aa LV;obtain⟨Ae,ce,rfl⟩:=ay.val;clear ae fg qi bz ay LV p8 hH f1 cj mJ Wy;go_enter func107,ntmps107;go_wp2_with fail
 refine HB.o.mono ?_;rintro e w'⟨rfl,q,rfl⟩;have LV:=HHI.o.drewN q;have aK:=(((af.refl w).alloc (.cells #[.int .u64 e0,.int .i64 e1,.bool e2,.int .i64 e3] 24)).alloc (.cells #[.int .u64 0,.int .i64 0,.bool false,.int .i64 0] 24)).drewN q;generalize((w.alloc (.cells #[.int .u64 e0,.int .i64 e1,.bool e2,.int .i64 e3] 24)).alloc (.cells #[.int .u64 0,.int .i64 0,.bool false,.int .i64 0] 24)).drewN q=W1 at*;clear HB HHI;go_upto_region 4 with fail
 refine aF (fun wx=>wx.cell? ⟨g,cu e0 n,none⟩=some (.slice Ae es.length ce)∧wx.frozen? ⟨g,cu e0 n,none⟩=false∧wx.cell? ⟨w.heap.size,0,none⟩=some (.int .u64 e0)∧wx.cell? ⟨w.heap.size,1,none⟩=some (.int .i64 e1)∧wx.cell? ⟨w.heap.size,2,none⟩=some (.bool e2)∧wx.cell? ⟨w.heap.size,3,none⟩=some (.int .i64 e3)) 7 (by kernel_rfl) (fun w1 hd=>HS.o _ _ _ (LV.dr hd)) (fun w1 hd hs=>?_);have aB:=LV.dr hd;have cY:=aK.trans (af.dr hd);clear hd LV aK;refine dY 0 1 2 3 ?_;refine ji 4 ?_;refine Zm 5 fun K hK=>?_;go_simp;refine(Ch (.slice Ae es.length ce) es e0 w1 _ (fun wx hx=>jm.o.at_ hx) aB (by omega)).mono ?_;rintro e w4 ⟨rfl,aU,bV⟩;refine hK _ _ (HS.o _ _ _ aU) (fun _=>?_);clear hK K hs;rename_i hs;refine ji 6 ?_;refine Ze ?_;have dJ:=cY.trans bV;have Of:=aa dJ;clear aB cY bV hs dJ;rcases Ci e0 es with⟨h1,h2⟩|⟨i,hi,h1,h2,h3⟩
 ·rw[h1];have HX:=aa h2;clear h1 h2;go_upto_region 9 with fail
  refine aF (fun wx=>wx.cell? ⟨g,cu e0 n,none⟩=some (.slice Ae es.length ce)∧wx.frozen? ⟨g,cu e0 n,none⟩=false∧wx.cell? ⟨w.heap.size,0,none⟩=some (.int .u64 e0)∧wx.cell? ⟨w.heap.size,1,none⟩=some (.int .i64 e1)∧wx.cell? ⟨w.heap.size,2,none⟩=some (.bool e2)∧wx.cell? ⟨w.heap.size,3,none⟩=some (.int .i64 e3)) 8 (by kernel_rfl) (fun w1 hd=>HS.o _ _ _ (aU.dr hd)) (fun w1 hd hs=>?_);have bg:=aU.dr hd;have jn:=Of.o.trans (af.dr hd);clear hd aU;refine dY 0 1 2 3 ?_;refine ji 4 ?_;refine Zm 5 fun K hK=>?_;go_simp;refine hK _ _ (HS.o _ _ _ (bg.bP _)) (fun _=>?_);clear hK K hs;rename_i hs;refine Zm 6 fun K hK=>?_;refine bf ix (by rfl) _ _ (by rfl) (by rfl) (by rfl) jm.o (Fr:=Hr++((w.heap.size+1,.cells #[.int .u64 0,.int .i64 0,.bool false,.int .i64 0] 24)::((w.heap.size,.cells #[.int .u64 e0,.int .i64 e1,.bool e2,.int .i64 e3] 24)::Fr))) (bg.bP _) (ag.many (n:=1) (size:=4) (by rfl) (by simp[maxLen])) (by simp[Value.oneCell']) (by simp[maxLen];omega) (by omega) ?_;intro A' c3 w6 H' jT bC eJ;refine hK _ _ (HS.o _ _ _ bC) (fun _=>?_);clear hK K hs;rename_i hs;refine ji 7 ?_;refine Zl 8 fun K hK=>?_;go_simp;refine hK _ _ ?_;clear hK K hs;refine Ze ?_;have JD:aP (.slice A' (es.length+1) c3) (es++[⟨e0,e1,e2,e3⟩]) H':=by unfold aP;rw[aY,eM];exact jT
  obtain⟨H2,Be,Oh⟩:=xO.o w6 _ _ _ H' JD bC;have jk:=((jn.alloc _).trans eJ).setCell ⟨g,cu e0 n,none⟩ (.slice A' (es.length+1) c3);generalize w6.setCell ⟨g,cu e0 n,none⟩ (.slice A' (es.length+1) c3)=w7 at*;have vD:DP (bk.set (cu e0 n) (es++[⟨e0,e1,e2,e3⟩])) (fV L ⟨e0,e1,e2,e3⟩):=by
   have:=lR.o.new (e:=⟨e0,e1,e2,e3⟩) (by rw[Dy.o];exact HES.o) HX.o h0;rw[Dy.o]at this;exact this
  have jq:(bk.set (cu e0 n) (es++[⟨e0,e1,e2,e3⟩])).length=n:=by rw[k5];exact Dy.o
  have hx:eL e0 L=none:=by have:=HX.o;rw[WK.o]at this;exact this
  have vF:(fV L ⟨e0,e1,e2,e3⟩).length=L.length+1:=by have:=ko.o;rw[hx]at this;simpa using this
  have Gd:=aa vD;have HX2:=aa hx;have od:=aa vF;obtain⟨b',A9,c9,hb,IZ,xu,hc,hm,_,_⟩:=Be.view;injection hb with hb;injection hb with hb;injection hb with hb;subst hb;rw[jq]at hc IZ;obtain⟨f1,f2,f3,f4⟩:=hc _ _ Oh;obtain⟨H3,ht3,hh3⟩:=hm _ _ ((L.length:Int)+1) Oh;have ka:=jk.setCell ⟨b,1,none⟩ (.int .i64 ((L.length:Int)+1));have Iy:=aa hh3;have HT3:=aa ht3;generalize(bk.set (cu e0 n) (es++[⟨e0,e1,e2,e3⟩]))=bk2 at*;clear jT JD bC bg jn eJ Oh Be jk hc hm vD hx vF hh3 ht3;go_wp2_with fail
  generalize w7.setCell ⟨b,1,none⟩ (.int .i64 ((L.length:Int)+1))=w8 at*;obtain⟨b',Zu,Zv,hb,_,_,hc,_,_,_⟩:=HT3.o.view;injection hb with hb;injection hb with hb;injection hb with hb;subst hb;rw[jq]at hc;obtain⟨k1,k2,_,_⟩:=hc _ _ Iy.o;clear hc f1 f2 f3 f4;have WL:IntKind.i64.wrap (4*(n:Int))=4*(n:Int):=by simp only[IntKind.wrap,IntKind.signed,IntKind.bits];simp;omega
  go_upto_region 11 with fail
  refine aF (fun wx=>wx.cell? ⟨b,0,none⟩=some (.slice Zu n Zv)∧wx.cell? ⟨b,1,none⟩=some (.int .i64 ((L.length:Int)+1))) 11 (by kernel_rfl) (fun w1 hd=>by obtain⟨q,rfl⟩:=hd;exact⟨k1,k2⟩) (fun w1 hd hs=>?_);have di:=Iy.o.dr hd;have jG:=ka.trans (af.dr hd);clear hd;refine dY 0 1 2 3 ?_;refine dY 4 5 6 7 ?_;refine Ag 8 9 10 ?_;refine Ze ?_;clear hs k1 k2 ka Iy;rcases Bool.eq_false_or_eq_true (decide (4*(n:Int)<(L.length:Int)+1))with jj|jj
  ·have aG:=of_decide_eq_true jj;have HGR:=aa (Nn (.pointer (some ⟨b,0,none⟩)) bk2 ((L.length:Int)+1) (fV L ⟨e0,e1,e2,e3⟩) H3 _ w1 HT3.o di Gd.o.perm Gd.o.inc (by omega) (by omega) (by rw[od.o];omega));rw[jq]at HGR;clear di;go_wp2_with fail
   refine HGR.o.mono ?_;rintro e w9⟨rfl,H4,ht4,hh4,gj⟩;have ss:=jG.trans gj;have HT4:=aa ht4;clear HGR ht4 jG gj;obtain⟨j0,j1,j2,j3,j4,j5,j6,j7,dN⟩:=vX (e:=⟨0,0,false,0⟩) (A:=H4) hh4;have fj:=aa (dN ⟨0,0,false,0⟩);have IM:=aa (ss.jb (w.heap.size+1) 0 ⟨0,0,false,0⟩);clear dN;go_wp2_with fail
   refine⟨rfl,mo none,(by rw[results_cell_tmp rfl];go_simp;rfl),by rw[HX2.o],H4,⟨_,by rw[od.o,Int.natCast_succ];exact HT4.o,Fk (by omega) (by omega) Gd.o.inc Gd.o.nn,by rw[od.o];omega⟩,?_,IM.o⟩;exact(Holds.DD (A:=H4) (B:=[_]) (C:=Fr) fj.o)
  ·have aG:=of_decide_eq_false jj;obtain⟨j0,j1,j2,j3,j4,j5,j6,j7,dN⟩:=vX (e:=⟨0,0,false,0⟩) (A:=H3) di;have fj:=aa (dN ⟨0,0,false,0⟩);have IM:=aa (jG.jb (w.heap.size+1) 0 ⟨0,0,false,0⟩);clear dN;go_wp2_with fail
   refine⟨rfl,mo none,(by rw[results_cell_tmp rfl];go_simp;rfl),by rw[HX2.o],H3,⟨_,by rw[od.o,Int.natCast_succ];exact HT3.o,Gd.o,by rw[od.o];omega⟩,?_,IM.o⟩;exact(Holds.DD (A:=H3) (B:=[_]) (C:=Fr) fj.o)
 ·rw[h1];have HX:=aa h2;have HX3:=aa h3;have HIS:=aa (fun(wx:World) (F:HL) (hx:Holds wx (Hi++F))=>jm.o.store hx hi);obtain⟨gg,cc,xD,PC,nO,⟨d0,d1,d2,d3⟩,tM,SB,bD⟩:=HIS.o w4 _ aU;injection xD with gM _ kS;subst gM kS;obtain⟨f1,f2,f3,f4,f5,f6⟩:=HS.o w4 _ _ aU;clear h1 h2 h3 bD tM SB;have S8:=aa (aU.alloc (.cells #[.int .u64 es[i].addr,.int .i64 es[i].aW,.bool es[i].bR,.int .i64 es[i].seq] 24));generalize hy:es[i]=y at*;obtain⟨y0,y1,y2,y3⟩:=y;simp only at d0 d1 d2 d3 S8 HX3;have Oq:Zh (∀(wx:World) (F:HL),Holds wx (Hi++(Hr++((w.heap.size+1,.cells #[.int .u64 0,.int .i64 0,.bool false,.int .i64 0] 24)::((w.heap.size,.cells #[.int .u64 e0,.int .i64 e1,.bool e2,.int .i64 e3] 24)::F))))->(wx.cell? ⟨g,cu e0 n,none⟩=some (.slice (some ⟨gg,0,none⟩) es.length ce)∧wx.cell? ⟨w.heap.size,0,none⟩=some (.int .u64 e0)∧wx.cell? ⟨w.heap.size,1,none⟩=some (.int .i64 e1)∧wx.cell? ⟨w.heap.size,2,none⟩=some (.bool e2)∧wx.cell? ⟨w.heap.size,3,none⟩=some (.int .i64 e3)∧wx.cell? ⟨gg,i*4,none⟩=some (.int .u64 y0)∧wx.cell? ⟨gg,i*4+1,none⟩=some (.int .i64 y1)∧wx.cell? ⟨gg,i*4+2,none⟩=some (.bool y2)∧wx.cell? ⟨gg,i*4+3,none⟩=some (.int .i64 y3)∧
    wx.frozen? ⟨gg,i*4,none⟩=false∧wx.frozen? ⟨gg,i*4+1,none⟩=false∧wx.frozen? ⟨gg,i*4+2,none⟩=false∧wx.frozen? ⟨gg,i*4+3,none⟩=false)∧∃H',aP (.slice (some ⟨gg,0,none⟩) es.length ce) (es.set i ⟨e0,e1,e2,e3⟩) H'∧Holds (jb wx gg (i*4) ⟨e0,e1,e2,e3⟩) (H'++(Hr++((w.heap.size+1,.cells #[.int .u64 0,.int .i64 0,.bool false,.int .i64 0] 24)::((w.heap.size,.cells #[.int .u64 e0,.int .i64 e1,.bool e2,.int .i64 e3] 24)::F))))):=aa (by
   intro wx F hx;obtain⟨a1,_,a3,a4,a5,a6⟩:=HS.o wx _ _ hx;obtain⟨g2,c2,hw,_,_,⟨b0,b1,b2,b3⟩,tM,_,bD⟩:=HIS.o wx _ hx;injection hw with u7 _ _;injection u7 with u7;injection u7 with u7;subst u7;have q0:=tM 0 (by omega);rw[fD]at q0;obtain⟨H',h1,h2⟩:=bD wx _ hx ⟨e0,e1,e2,e3⟩;exact⟨⟨a1,a3,a4,a5,a6,b0,b1,b2,b3,q0,tM 1 (by omega),tM 2 (by omega),tM 3 (by omega)⟩,H',h1,h2⟩)
  have lY:=S8.o;have fy:Holds (w4.alloc (.cells #[.int .u64 y0,.int .i64 y1,.bool y2,.int .i64 y3] 24)) (Hi++(Hr++((w.heap.size+1,.cells #[.int .u64 0,.int .i64 0,.bool false,.int .i64 0] 24)::((w.heap.size,.cells #[.int .u64 e0,.int .i64 e1,.bool e2,.int .i64 e3] 24)::((w4.heap.size,.cells #[.int .u64 y0,.int .i64 y1,.bool y2,.int .i64 y3] 24)::Fr))))):=lY.p;clear lY S8 aU;go_wp2_with fail
  go_upto_region 7 with fail
  refine aF (fun wx=>wx.cell? ⟨g,cu e0 n,none⟩=some (.slice (some ⟨gg,0,none⟩) es.length ce)∧wx.cell? ⟨w.heap.size,0,none⟩=some (.int .u64 e0)∧wx.cell? ⟨w.heap.size,1,none⟩=some (.int .i64 e1)∧wx.cell? ⟨w.heap.size,2,none⟩=some (.bool e2)∧wx.cell? ⟨w.heap.size,3,none⟩=some (.int .i64 e3)∧wx.cell? ⟨gg,i*4,none⟩=some (.int .u64 y0)∧wx.cell? ⟨gg,i*4+1,none⟩=some (.int .i64 y1)∧wx.cell? ⟨gg,i*4+2,none⟩=some (.bool y2)∧wx.cell? ⟨gg,i*4+3,none⟩=some (.int .i64 y3)∧wx.frozen? ⟨gg,i*4,none⟩=false∧wx.frozen? ⟨gg,i*4+1,none⟩=false∧wx.frozen? ⟨gg,i*4+2,none⟩=false∧wx.frozen? ⟨gg,i*4+3,none⟩=false) 6 (by kernel_rfl) (fun w1 hd=>(Oq.o _ _ (fy.dr hd)).1) (fun w1 hd hs=>?_);have cA:=fy.dr hd;have fx:=(Of.o.alloc (.cells #[.int .u64 y0,.int .i64 y1,.bool y2,.int .i64 y3] 24)).trans (af.dr hd);clear hd fy;refine dY 0 1 2 3 ?_;refine qL 4 5 ?_;refine Zl 6 fun K hK=>?_;go_simp;refine hK _ _ ?_;clear hK K hs;refine Ze ?_;obtain⟨_,nC,xC,tJ⟩:=Oq.o _ _ cA;have iT:=fx.jb gg (i*4) ⟨e0,e1,e2,e3⟩;obtain⟨H2,Be,Oh⟩:=ajg.o _ _ _ nC xC tJ;simp only[jb]at Oh iT;obtain⟨j0,j1,j2,j3,j4,j5,j6,j7,dN⟩:=vX (e:=⟨0,0,false,0⟩) (A:=H2) Oh;have Om:=Oh.right.tail.tail;have l0:=Om.ae 0;have l1:=Om.ae 1;have l2:=Om.ae 2;have l3:=Om.ae 3;have fj:=aa (dN ⟨y0,y1,y2,y3⟩);have anH:=aa Be;have IM:=aa (iT.jb (w.heap.size+1) 0 ⟨y0,y1,y2,y3⟩);generalize((((w1.setCell ⟨gg,i*4,none⟩ (.int .u64 e0)).setCell ⟨gg,i*4+1,none⟩ (.int .i64 e1)).setCell ⟨gg,i*4+2,none⟩ (.bool e2)).setCell ⟨gg,i*4+3,none⟩ (.int .i64 e3))=w7 at*;clear dN Om Oh Be xC tJ fx iT cA;go_wp2_with fail
  have hx:=HX.o;have ik:=ko.o;rw[WK.o]at hx;rw[hx]at ik;have vF:(fV L ⟨e0,e1,e2,e3⟩).length=L.length:=by simpa using ik
  refine⟨rfl,mo (some ⟨y0,y1,y2,y3⟩),(by rw[results_cell_tmp rfl];go_simp;rfl),by rw[hx],H2,⟨_,by rw[vF];exact anH.o,?_,by omega⟩,?_,IM.o⟩
  ·have:=lR.o.old (e:=⟨e0,e1,e2,e3⟩) (by rw[Dy.o];exact HES.o) hi (by rw[hy];exact HX3.o) h0;rw[Dy.o]at this;exact this
  ·exact(Holds.DD (A:=H2) (B:=[_,_]) (C:=Fr) fj.o)
theorem Eg(v:Value)(es:List az)(H Fr:HL)(w:World)(i:Nat)(hb:aP v es H)(hH:Holds w (H++Fr))(hi:i<es.length)(kJ:es.length<=1000000):
  Calls Tryz.prog 171 #[v,.int .i64 i,.int .i64 ((i:Int)+1)] w (cB (fun v' H'=>aP v' (es.eraseIdx i) H') w Fr):=by
 have h:=G9 v es H Fr w i hb hH hi kJ;rw[Int.natCast_succ]at h;exact h
theorem CS(v:Value)(L:List az)(a:Int)(H Fr:HL)(w:World)(hv:IsTable v L H)(hH:Holds w (H++Fr)):
  Calls Tryz.prog 62 #[v,.int .u64 a] w (cM (mo (eL a L)) w (H++Fr)):=by
 obtain⟨bk,p8,cj,hl⟩:=hv;obtain⟨es,mJ,Wy,_,hlen⟩:=cj.bucket a;have hle:=cj.le;rw[<-Wy];exact Ro v bk _ es a H Fr w p8 hH (by omega) mJ (by omega)
theorem ru(v:Value)(L:List az)(H Fr:HL)(w:World)(hv:IsTable v L H)(hH:Holds w (H++Fr)):
  Calls Tryz.prog 57 #[v] w (cB (fun v' H'=>aP v' L H') w (H++Fr)):=by
 obtain⟨bk,p8,cj,hl⟩:=hv;exact Fj v bk _ L H Fr w p8 hH cj.inc cj.perm (by omega)
theorem Np(v:Value)(L:List az)(H Fr:HL)(w:World)(hv:IsTable v L H)(hH:Holds w (H++Fr)):
  Calls Tryz.prog 99 #[v] w (zQ w (.int .i64 L.length)):=by
 obtain⟨bk,p8,cj,hl⟩:=hv;exact Rn v bk _ H Fr w p8 hH
theorem Nq(v:Value)(L:List az)(a:Int)(H Fr:HL)(w:World)(hv:IsTable v L H)(hH:Holds w (H++Fr)):
  Calls Tryz.prog 106 #[v,.int .u64 a] w (mu (fun H'=>IsTable v (iO L a) H') (mo (eL a L)) w Fr):=by
 have HV:=aa hv;obtain⟨bk,p8,cj,hlL⟩:=hv;obtain⟨es,mJ,Wy,_,hlen⟩:=cj.bucket a;have tP:=cj.pos;have hle:=cj.le;obtain⟨b,g,cap,ev,Hi,Hr,rfl,ff,gT,xt,ay,ae,fg,qi,bz⟩:=p8.open_ mJ;have ax:Holds (w.alloc (.cells (js az.zero) 24)) (H++((w.heap.size,.cells (js az.zero) 24)::Fr)):=by
  have:=Holds.swap (A:=[(w.heap.size,Obj.cells (js az.zero) 24)]) (B:=H) (C:=Fr) (by simpa using hH.alloc (.cells (js az.zero) 24));simpa using this
 have DX:=aa (CS (.pointer (some ⟨b,0,none⟩)) L a H _ _ HV.o ax);have lR:=aa cj;have HES:=aa mJ;have WK:=aa Wy;have ajh:=aa fg;have xO:=aa bz;have HDL:=aa (VS cj.inc a);have jm:=aa ay;generalize SJ:bk.length=n at*;have Dy:=aa SJ;clear SJ;have zd:=aa ae;simp only[js,az.zero]at*;obtain⟨Ae,ce,rfl⟩:=ay.val;have jD:=(af.refl w).alloc (.cells #[.int .u64 0,.int .i64 0,.bool false,.int .i64 0] 24);clear ae fg qi bz ay ax p8 hH cj mJ Wy;go_enter func106,ntmps106;go_wp2_with fail
 refine DX.o.mono ?_;rintro e w1⟨rfl,ax,aK⟩;have aX:=jD.trans aK;clear DX jD aK;cases hf:eL a L with
 |none=>
  have HF:=aa hf;clear hf;have aB:=ax.alloc (.cells #[.int .u64 0,.int .i64 0,.bool false,.int .i64 0] 24);have bj:=aX.alloc (.cells #[.int .u64 0,.int .i64 0,.bool false,.int .i64 0] 24);obtain⟨j0,j1,j2,j3,j4,j5,j6,j7,dN⟩:=vX (e:=⟨0,0,false,0⟩) (A:=H) aB.tail;have fj:=aa (dN ⟨0,0,false,0⟩);have IM:=aa (bj.jb w.heap.size 0 ⟨0,0,false,0⟩);clear dN aB bj ax aX;simp only[mo,Option.getD,Option.isSome,az.agg,az.zero];go_wp2_with fail
  have hd:iO L a=L:=List.filter_eq_self.2 fun x hx=>by simpa using jA.1 HF.o x hx
  refine⟨rfl,mo none,(by rw[results_cell_tmp rfl];go_simp;rfl),by rw[HF.o],H,by rw[hd];exact HV.o,fj.o,IM.o⟩
 |some y=>
  obtain⟨y0,y1,y2,y3⟩:=y;have HF:=aa hf;clear hf;have aB:Holds (w1.alloc (.cells #[.int .u64 y0,.int .i64 y1,.bool y2,.int .i64 y3] 24)) (H++((w1.heap.size,.cells #[.int .u64 y0,.int .i64 y1,.bool y2,.int .i64 y3] 24)::((w.heap.size,.cells #[.int .u64 0,.int .i64 0,.bool false,.int .i64 0] 24)::Fr))):=by
   have:=Holds.swap (A:=[(w1.heap.size,Obj.cells #[.int .u64 y0,.int .i64 y1,.bool y2,.int .i64 y3] 24)]) (B:=H) (C:=(w.heap.size,.cells #[.int .u64 0,.int .i64 0,.bool false,.int .i64 0] 24)::Fr) (by simpa using ax.alloc (.cells #[.int .u64 y0,.int .i64 y1,.bool y2,.int .i64 y3] 24));simpa using this
  have bj:=aX.alloc (.cells #[.int .u64 y0,.int .i64 y1,.bool y2,.int .i64 y3] 24);have aD:=ajh.o _ _ aB;obtain⟨f1,_⟩:=zd.o _ _ aD.right;have HB:=aa (nU b g n cap a _ f1 tP (by omega));have Iy:=aa aD;clear ax aB aD f1 aX;simp only[mo,Option.getD,Option.isSome,az.agg,az.zero];go_wp2_with fail
  refine HB.o.mono ?_;rintro e w2⟨rfl,q,rfl⟩;have aU:=Iy.o.drewN q;have bV:=bj.drewN q;generalize(w1.alloc (.cells #[.int .u64 y0,.int .i64 y1,.bool y2,.int .i64 y3] 24)).drewN q=W2 at*;obtain⟨_,_,f3,f4,_⟩:=zd.o _ _ aU.right;have LU:=aa (Ch (.slice Ae es.length ce) es a W2 _ (fun wx hx=>jm.o.at_ hx) aU (by omega));clear HB Iy bj aU;go_wp2_with fail
  refine LU.o.mono ?_;rintro e w3⟨rfl,bg,dJ⟩;have eJ:=bV.trans dJ;clear LU bV dJ f3 f4;rcases Ci a es with⟨h1,h2⟩|⟨i,hi,h1,h2,h3⟩
  ·rw[WK.o,HF.o]at h2;cases h2
  ·rw[h1];have HX3:=aa h3;have HDE:=aa (Eg (.slice Ae es.length ce) es Hi _ w3 i jm.o bg hi (by omega));obtain⟨_,_,f3,f4,_⟩:=zd.o _ _ bg.right;clear h1 h2 h3 bg;go_wp2_with fail
   refine HDE.o.mono ?_;rintro e w4⟨v4,H4,rfl,Je,bC,jk⟩;have ka:=eJ.trans jk;obtain⟨_,_,k3,k4,_⟩:=zd.o _ _ bC.right;obtain⟨H5,ht5,hh5⟩:=xO.o _ _ _ _ _ Je bC;obtain⟨A4,q4,rfl⟩:=Je.val;obtain⟨el,Oj⟩:∃el,el=(es.eraseIdx i).length:=⟨_,rfl⟩;rw[<-Oj]at hh5⊢;have jG:=ka.setCell ⟨g,cu a n,none⟩ (.slice A4 el q4);clear Oj Je HDE f3 f4 eJ jk bC ka;have xz:=aa ht5;have jq:(bk.set (cu a n) (es.eraseIdx i)).length=n:=by rw[k5];exact Dy.o
   obtain⟨b',A9,c9,hb,IZ,xu,hc,hm,_,_⟩:=ht5.view;injection hb with hb;injection hb with hb;injection hb with hb;subst hb;rw[jq]at hc;obtain⟨m1,m2,m3,m4⟩:=hc _ _ hh5;obtain⟨H7,ht7,hh7⟩:=hm _ _ ((L.length:Int)-1) hh5;have gj:=jG.setCell ⟨b,1,none⟩ (.int .i64 ((L.length:Int)-1));have HH7:=aa hh7;have HT7:=aa ht7;obtain⟨j0,j1,j2,j3,j4,j5,j6,j7,dN⟩:=vX (e:=⟨0,0,false,0⟩) (A:=H7++[(w1.heap.size,.cells #[.int .u64 y0,.int .i64 y1,.bool y2,.int .i64 y3] 24)]) (Fr:=Fr) (z:=w.heap.size) (by rw[cE];exact hh7);have fj:=aa (dN ⟨y0,y1,y2,y3⟩);have anI:=aa (gj.jb w.heap.size 0 ⟨y0,y1,y2,y3⟩);have l0:=hh7.right.ae 0;have l1:=hh7.right.ae 1;have l2:=hh7.right.ae 2;have l3:=hh7.right.ae 3;clear dN gj;clear hc hm ht5 hh5 jG hh7 ht7 xz;have hLp:0<L.length:=by have:=hlen;omega
   go_wp2_with fail
   have tU:=HDL.o;rw[HF.o]at tU;have anJ:((iO L a).length:Int)=(L.length:Int)-1:=by
    have h9:(iO L a).length+1=L.length:=by simpa using tU
    omega
   have vD:=lR.o.o (a:=a) (by rw[Dy.o];exact HES.o) hi HX3.o;rw[Dy.o]at vD;refine⟨rfl,mo (some ⟨y0,y1,y2,y3⟩),(by rw[results_cell_tmp rfl];go_simp;rfl),by rw[HF.o],H7,⟨_,by rw[anJ];exact HT7.o,vD,by omega⟩,?_,anI.o⟩;have dN:=fj.o;rw[cE]at dN;exact Holds.DD dN
def k8(L:List az)(es:List az):List az:=es.foldl fV L
theorem CT(L es:List az)(e:az):k8 L (es++[e])=fV (k8 L es) e:=by simp[k8]
theorem GL{L:List az}(h:eU L)(e:az):(fV L e).length<=L.length+1∧L.length<=(fV L e).length:=by
 have h1:=J8 h e;have h2:(eL e.addr L).toList.length<=1:=by cases eL e.addr L<;>simp
 omega
theorem Rq{L:List az}(h:eU L)(es:List az):(k8 L es).length<=L.length+es.length∧L.length<=(k8 L es).length:=by
 induction es generalizing L with
 |nil=>exact⟨by simp[k8],by simp[k8]⟩
 |cons e es ih=>
  have h1:=GL h e;have h2:=ih (h.put e);simp only[fC];show(k8 (fV L e) es).length<=_∧_<=(k8 (fV L e) es).length;omega
theorem VT(L:List az)(a:Int):(iO L a).length<=L.length:=mU _ _
def mX(L:List az)(s:Nat)(f:Int):Prop:=∀i (h:i<L.length),i<s↔L[i].addr<f
section
open Go.ChangeShapes Go.WideShapes Go.ChangeAt Go.RowKit Go.Deep
theorem own:ownKnob Tryz.prog.godebug=none:=by kernel_rfl
theorem laidOut:laidOutB Tryz.prog=true:=by kernel_rfl
section
variable{H:Type}{enc:TypeId×Value->H}{P:Program}{W:World}{spare:Nat->Bool}{held:Bool}
theorem open_rows{t e:TypeId}{size:Nat}(Pc:List Value->Prop)(ht:P.underlying t=some (.slice e))(hC:P.cellsOf e=size)(hs:0<size)
  (ajJ:∀(fuel:Nat) (cs:List Value) (y:DataW H×List MemPlace),cs.length=size->DataW.trod enc P W 0 spare held fuel e cs=some y->Pc cs)
  {v:Value}{d:DataW H}{p:List MemPlace}(hv:Value.okWide P W .any 0 t v)(h:DataW.Trod enc P W 0 spare held t v d p):
  ∃Eu:List (List Value),ag W size v Eu.length Eu.flatten∧∀c,c∈Eu->c.length=size∧Pc c:=by
 obtain⟨a0,Yn,agS,rfl⟩:=okWide_slice ht hv;obtain⟨fuel,hf⟩:=h;rcases open_slice ht hf with⟨mM,_⟩|⟨a,len,cap,m,n,D,Pl,mM,hb,hl,hm,AR,hx,hi⟩
 ·simp[Value.cells]at mM;obtain⟨rfl,rfl,rfl⟩:=mM;exact⟨[],⟨by simp,none,0,rfl,by simp,by simp,fun h=>absurd h (by simp)⟩,by simp⟩
 ·simp[Value.cells]at mM;obtain⟨rfl,rfl,rfl⟩:=mM;rw[hC]at hi;have hlm:Yn<=m:=by rw[AR];split<;>omega
  have hex:∀k:Nat,k<=Yn->∃Eu:List (List Value),Eu.length=k∧(∀c,c∈Eu->c.length=size∧Pc c)∧∀j u,Eu.flatten[j]?=some u->W.cell? (a.add j)=some u:=by
   intro k
   induction k with
   |zero=>exact fun _=>⟨[],rfl,by simp,by simp⟩
   |succ k ih=>
    intro hk;obtain⟨Eu,h1,h2,h3⟩:=ih (by omega);obtain⟨Af,DE,Es⟩:=hi k (by omega);obtain⟨_,bm,Jd⟩:=World.cells?_some DE;refine⟨Eu++[Af],by simp[h1],?_,?_⟩
    ·intro c hc;rcases List.mem_append.1 hc with h|h
     ·exact h2 c h
     ·rw[List.mem_singleton.1 h];exact⟨bm,ajJ n Af _ bm Es⟩
    ·intro j u hu;have PJ:Eu.flatten.length=k*size:=by rw[kB Eu (fun x hx=>(h2 x hx).1),h1]
     rw[qe,List.flatten_singleton]at hu;by_cases hj:j<k*size
     ·rw[y9 (by omega)]at hu;exact h3 j u hu
     ·rw[y8 (by omega),PJ]at hu;have I6:j-k*size<size:=by
       rcases Nat.lt_or_ge (j-k*size) size with h|h
       ·exact h
       ·rw[List.getElem?_eq_none (by omega)]at hu;cases hu
      have h4:=Jd (j-k*size) I6;rw[Go.Deep.add_add]at h4;rw[show j=k*size+(j-k*size) by omega,h4,hu]
  obtain⟨Eu,h1,h2,h3⟩:=hex Yn (aN _);have PJ:Eu.flatten.length=Yn*size:=by rw[kB Eu (fun x hx=>(h2 x hx).1),h1]
  refine⟨Eu,⟨by rw[PJ,h1],some a,agS,by rw[h1],by omega,hm,fun h0=>?_⟩,h2⟩;rw[h1]at h0;have hlen:0<Eu.flatten.length:=by rw[PJ];exact Nat.mul_pos h0 hs
  have jQ:=h3 0 _ (bF hlen);have aaH:a.spot=none:=by
   have e:a.add 0=a:=by unfold Addr.add;simp
   rw[e]at jQ;cases hs:a.spot with
   |none=>rfl
   |some x=>
    unfold World.cell? at jQ;split at jQ
    ·simp[hs]at jQ
    ·cases jQ
  obtain⟨b,o,s⟩:=a;simp only at aaH;subst aaH;exact⟨b,o,rfl,fun j u hu=>by rw[<-cV];exact h3 j u hu⟩
theorem pX{e:TypeId}{fs:Array Field}{fuel:Nat}{cs:List Value}{y:DataW H×List MemPlace}(he:P.underlying e=some (.struct fs))(X1:oneCellFields P fs=true)(hlen:cs.length=fs.size)
  (h:DataW.trod enc P W 0 spare held fuel e cs=some y):
  ∀(j:Nat) (f:Field),fs[j]?=some f->∃(v:Value) (n:Nat) (y:DataW H×List MemPlace),cs[j]?=some v∧DataW.trod enc P W 0 spare held n f.type [v]=some y:=by
 obtain⟨ys,n',hn',hy,_,Lp,hf⟩:=DataW.trod_struct he h;intro j f hj;obtain⟨ho,hk⟩:=hone_of X1 j f hj;have I6:j<fs.size:=(Array.getElem?_eq_some_iff.1 hj).1;have h1:=hf j f hj;rw[ho,hk]at h1;have ajK:(cs.drop j).take 1=[cs[j]'(by omega)]:=by
  rw[nF (by omega)];rfl
 rw[ajK]at h1;have hys:ys[j]?=some (ys[j]'(by omega)):=bF (by omega);exact⟨cs[j]'(by omega),_,_,bF (by omega),h1.trans hys⟩
theorem uY{α β:Type}(f:β->α)(Q:β->Prop):∀(l:List α),(∀x,x∈l->∃b,x=f b∧Q b)->∃bs:List β,l=bs.map f∧∀b,b∈bs->Q b
 |[],_=>⟨[],rfl,by simp⟩
 |x::l,h=>by
  obtain⟨b,hb,hq⟩:=h x (dC);obtain⟨bs,h1,h2⟩:=uY f Q l (fun y hy=>h y (fA _ hy));exact⟨b::bs,by simp[hb,h1],by intro c hc;rcases List.mem_cons.1 hc with rfl|hc;exact hq;exact h2 c hc⟩
end
end
end Go.Proofs.YtalnifciidblkaaGreatDoor
