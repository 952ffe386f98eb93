/-
  Lemmas.
-/
import Derived.OrdersHeld
import Derived.StillTail
import Derived.RegionTactic
import Derived.Deep.Draws
import Derived.Below
import Derived.Laws.OwnMore
import Derived.Laws.Rows
import Derived.Laws.BytesArg
import Derived.Lib.Hide
import Derived.Maps.AppendAt
import Derived.Laws.CopyRow
import Derived.Laws.IdiomStrings
import Derived.Laws.MakeOwn
import Derived.Tactics
import Derived.OwnWalk
import Derived.Test.YtalnifciidblkaaGreatDoorRows
import Derived.WalkKit
import Derived.KernelRfl
import Derived.Deep.QuietTactic
import Derived.BigQuiet
import Derived.Deep.RegionHeld3
import Derived.Deep.RegionLaw
import Derived.Deep.DrawnRows
import Derived.StillTailTactics
import Derived.Deep.LoopGhost
import Derived.WalkLawsBesides
import Derived.WalkSpells
namespace Go.Proofs.YtalnifciidblkaaGreatDoor
open _root_.Go.Proofs.Tryz
open Go.RowKit
set_option linter.unusedSimpArgs false
set_option linter.unusedVariables false
set_option maxRecDepth 20000
set_option maxHeartbeats 400000
def Zh(p:Prop):Prop:=p
theorem Zh.o{p:Prop}(h:Zh p):p:=h
theorem aa{p:Prop}(h:p):Zh p:=h
theorem bF.{gJ}{α:Type gJ}{l:List α}{i:Nat}(h:i<l.length):l[i]?=some l[i]:=List.getElem?_eq_getElem h
theorem aY.{u}{α:Type u}{xs1 ys1:List α}:(xs1++ys1).length=xs1.length+ys1.length:=List.length_append
theorem gB.{gJ}{α:Type gJ}{i:Nat}{l:List α}(h:i<l.length):List.take (i+1) l=List.take i l++[l[i]]:=List.take_succ_eq_append_getElem h
theorem dC.{gJ}{α:Type gJ}{a:α}{l:List α}:a∈a::l:=List.mem_cons_self
theorem cX.{gJ}{α:Type gJ}{l:List α}{n:Nat}(h:n<l.length):l[n]∈l:=List.getElem_mem h
theorem aS{a b:Prop}(left:a)(right:b):a∧b:=And.intro left right
theorem fA.{gJ}{α:Type gJ}(y:α){a:α}{l:List α}:a∈l->a∈y::l:=List.mem_cons_of_mem y
theorem dG.{gJ}{α:Type gJ}{i:Nat}{l:List α}:(List.take i l).length=min i l.length:=List.length_take
theorem jW.{gJ}{α0:Type gJ}{l:List α0}:l.length=0->l=[]:=List.eq_nil_of_length_eq_zero
theorem aN(n:Nat):n<=n:=Nat.le_refl n
theorem cE.{u}{α:Type u}(xs1 ys1 cs:List α):xs1++ys1++cs=xs1++(ys1++cs):=List.append_assoc xs1 ys1 cs
theorem bY.{gJ,W3}{α:Type gJ}{β:Type W3}{xs1:List α}(f:α->β):(List.map f xs1).length=xs1.length:=List.length_map f
theorem dA.{gJ}{α:Type gJ}{i:Nat}{l:List α}:(List.drop i l).length=l.length-i:=List.length_drop
theorem dW.{gJ,W3}{α:Type gJ}{β:Type W3}{f:α->β}{l:List α}{i:Nat}:(List.map f l)[i]?=Option.map f l[i]?:=List.getElem?_map
theorem dm.{gJ,W3}{α:Type gJ}{β:Type W3}{f:α->β}{l₁ l₂:List α}:List.map f (l₁++l₂)=List.map f l₁++List.map f l₂:=List.map_append
theorem bG(a:Int):a<=a:=Int.le_refl a
theorem gr.{u}{α:Type u}{b:α}(xs1:List α){ys1:List α}:b∈ys1->b∈xs1++ys1:=List.mem_append_right xs1
theorem gU.{gJ}{α:Type gJ}{i:Nat}{l:List α}(h:l.length<=i):List.take i l=l:=List.take_of_length_le h
theorem jR.{gJ}{α:Type gJ}{l:List α}{i:Nat}{a:α}:l.getD i a=l[i]?.getD a:=List.getD_eq_getElem?_getD
theorem gV.{u}{α:Type u}{n:Nat}{a:α}:(List.replicate n a).length=n:=List.length_replicate
theorem iK.{gJ}{α:Type gJ}{a:α}{l:List α}:(a::l)[0]?=some a:=List.getElem?_cons_zero
theorem gD.{gJ}{α:Type gJ}{l:List α}{i:Nat}{a:α}(e:l[i]?=some a):a∈l:=List.mem_of_getElem? e
theorem ib.{u}{α:Type u}{a:α}{xs1:List α}(ys1:List α):a∈xs1->a∈xs1++ys1:=List.mem_append_left ys1
theorem fP{n:Nat}:(List.range n).length=n:=List.length_range
theorem fB.{gJ}{α:Type gJ}{l:List α}:List.take l.length l=l:=List.take_length
theorem fC.{u}{α:Type u}{a:α}{xs1:List α}:(a::xs1).length=xs1.length+1:=List.length_cons
theorem fW(a b:Bool):((a&&b)=true)=(a=true∧b=true):=Bool.and_eq_true a b
theorem aE{a b:Prop}(h:b):a∨b:=Or.inr h
theorem nF.{gJ}{α:Type gJ}{i:Nat}{l:List α}(h:i<l.length):List.drop i l=l[i]::List.drop (i+1) l:=List.drop_eq_getElem_cons h
theorem kY{n m:Nat}(k:Nat)(h:n<=m):n*k<=m*k:=Nat.mul_le_mul_right k h
theorem mS.{gJ}{α:Type gJ}{a:α}{i:Nat}{l:List α}:(a::l)[i+1]?=l[i]?:=List.getElem?_cons_succ
theorem fp(n:Nat):0+n=n:=Nat.zero_add n
theorem ow.{gJ}{α:Type gJ}{a b:α}{n:Nat}(h:b∈List.replicate n a):b=a:=List.eq_of_mem_replicate h
theorem fD(n:Nat):n+0=n:=Nat.add_zero n
theorem mT.{u}{α:Type u}{a:α}:[a].length=1:=List.length_singleton
theorem mU.{gJ}{α:Type gJ}(p:α->Bool)(l:List α):(List.filter p l).length<=l.length:=List.length_filter_le p l
theorem aQ{a b:Prop}(h:a):a∨b:=Or.inl h
theorem kr.{gJ}{α0:Type gJ}{l:List α0}{L:List (List α0)}:(l::L).flatten=l++L.flatten:=List.flatten_cons
theorem lE.{gJ}{α:Type gJ}{l:List α}{i j:Nat}:(List.take i l)[j]?=if j<i then l[j]? else none:=List.getElem?_take
theorem gW(n m k:Nat):n+m+k=n+(m+k):=Nat.add_assoc n m k
theorem oz.{gJ}{α:Type gJ}(i:Nat)(l:List α):List.take i l++List.drop i l=l:=List.take_append_drop i l
theorem jS.{u}{α:Type u}(xs1:List α):[]++xs1=xs1:=List.nil_append xs1
theorem qb.{gJ}{n:Nat}{α0:Type gJ}{a:α0}{i:Nat}:(List.replicate n a)[i]?=if i<n then some a else none:=List.getElem?_replicate
theorem qd.{gJ}{α:Type gJ}{p:α->Bool}{a:α}{l:List α}(pa:¬p a=true):List.filter p (a::l)=List.filter p l:=List.filter_cons_of_neg pa
theorem kt.{gJ,W3}{α:Type gJ}{β:Type W3}(a:α)(f:α->β):Option.map f (some a)=some (f a):=Option.map_some a f
theorem nG(n:Nat):n=0∨n>0:=Nat.eq_zero_or_pos n
theorem kZ.{u}{α:Type u}(xs1:List α):xs1++[]=xs1:=List.append_nil xs1
theorem k5.{u}{α:Type u}{xs1:List α}{i:Nat}{a:α}:(xs1.set i a).length=xs1.length:=List.length_set
theorem oA.{gJ}{α:Type gJ}{p:α->Bool}(l₁ l₂:List α):List.filter p (l₁++l₂)=List.filter p l₁++List.filter p l₂:=List.filter_append l₁ l₂
theorem pf{i n:Nat}(h:i<n):(List.range n)[i]?=some i:=List.getElem?_range h
theorem lZ.{gJ}{α:Type gJ}{a:α}{s t:List α}:a∈s++t↔a∈s∨a∈t:=List.mem_append
theorem ku.{u,v}{α:Type u}{β:Type v}{f:α->β}{a:α}{l:List α}:List.map f (a::l)=f a::List.map f l:=List.map_cons
theorem qe.{gJ}{α:Type gJ}{L₁ L₂:List (List α)}:(L₁++L₂).flatten=L₁.flatten++L₂.flatten:=List.flatten_append
theorem vL.{gJ}{α0:Type gJ}{l:List α0}:l.Nodup↔List.Pairwise (fun x1 x2=>x1≠x2) l:=List.nodup_iff_pairwise_ne
theorem rJ.{gJ}{α:Type gJ}{i:Nat}{a:α}{l:List α}(h:a∈List.take i l):a∈l:=List.mem_of_mem_take h
theorem vM.{gJ}{α:Type gJ}{l:List α}{i:Nat}{a b:α}:a∈l.set i b->a∈l∨a=b:=List.mem_or_eq_of_mem_set
theorem jc(n:Nat):n*1=n:=Nat.mul_one n
theorem y8.{gJ}{α:Type gJ}{l₁ l₂:List α}{i:Nat}:l₁.length<=i->(l₁++l₂)[i]?=l₂[i-l₁.length]?:=List.getElem?_append_right
theorem BK.{gJ}{α:Type gJ}{l₁ l₂:List α}{i:Nat}(h:i<=l₁.length):List.take i (l₁++l₂)=List.take i l₁:=List.take_append_of_le_length h
theorem l6.{gJ}{α0:Type gJ}{b:α0}{l:List α0}{a:α0}:a∈b::l↔a=b∨a∈l:=List.mem_cons
theorem y9.{gJ}{α:Type gJ}{l₁ l₂:List α}{i:Nat}(hn:i<l₁.length):(l₁++l₂)[i]?=l₁[i]?:=List.getElem?_append_left hn
theorem qf.{gJ}{α:Type gJ}{x:α}{xs:List α}{p:α->Bool}:List.filter p (x::xs)=if p x=true then x::List.filter p xs else List.filter p xs:=List.filter_cons
theorem rK.{gJ,W3}{α:Type gJ}{α0:Type W3}{f:α->α0}{R:α0->α0->Prop}{l:List α}:List.Pairwise R (List.map f l)↔List.Pairwise (fun a b=>R (f a) (f b)) l:=List.pairwise_map
theorem vO.{u}{α:Type u}{xs:List α}{i:Nat}:xs.toArray[i]?=xs[i]?:=List.getElem?_toArray
theorem za.{gJ}{α:Type gJ}{p:α->Bool}{a:α}{l:List α}(pa:p a=true):List.filter p (a::l)=a::List.filter p l:=List.filter_cons_of_pos pa
theorem rL.{gJ}{α:Type gJ}{a:α}:¬a∈[]:=List.not_mem_nil
theorem BM.{gJ}{α:Type gJ}{R:α->α->Prop}{l:List α}:List.Pairwise R l↔∀(i j:Nat) (_hi:i<l.length) (_hj:j<l.length),i<j->R l[i] l[j]:=List.pairwise_iff_getElem
theorem vP.{gJ}{α:Type gJ}{xs:Array α}:xs.toList.length=xs.size:=Array.length_toList
theorem vQ{n:Nat}:(UInt8.ofNat n).toNat=n%2^8:=UInt8.toNat_ofNat'
theorem BN.{u}{α:Type u}{xs1:List α}{i:Nat}(h:xs1.length<=i):List.drop i xs1=[]:=List.drop_eq_nil_of_le h
theorem tZ.{u}{α:Type u}{a:α}{xs1 ys1:List α}:a::xs1++ys1=a::(xs1++ys1):=List.cons_append
theorem aaN.{gJ}{α:Type gJ}{l₁ l₂:List α}(hl:l₁.length=l₂.length)(h:∀(i:Nat) (h₁:i<l₁.length) (h₂:i<l₂.length),l₁[i]=l₂[i]):l₁=l₂:=List.ext_getElem hl h
theorem nH(n m k:Nat):(n+m)*k=n*k+m*k:=Nat.add_mul n m k
theorem zc.{u}{α:Type u}{a:α}{xs1:List α}{i:Nat}:List.take (i+1) (a::xs1)=a::List.take i xs1:=List.take_succ_cons
theorem vR.{u}{α:Type u}{xs1:List α}:xs1.toArray.size=xs1.length:=List.size_toArray
theorem Ev.{gJ}{α:Type gJ}{i:Nat}{xs1 ys1:List α}(h:i<xs1.length){h':i<(xs1++ys1).length}:(xs1++ys1)[i]=xs1[i]:=List.getElem_append_left h
theorem ub{n:Nat}:List.range n.succ=List.range n++[n]:=List.range_succ
theorem uc{a b:Nat}(h:a<=b):min a b=a:=Nat.min_eq_left h
theorem qg(n:Nat):n-n=0:=Nat.sub_self n
section
open Go
section
variable{P:Program}{ops:Array Oper}{Q:Exit->Act->World->Prop}{md:Region.Mode}{S:World->Prop}{z:Nat}
def Qs(P:Program)(w:World)(v:Value):Result Next->Prop
 |.ok (.value u) w'=>w'=w∧u=v
 |.ok (.enter f args) w'=>w'=w∧Calls P f args w fun e Ws=>e=.returned v∧w=Ws
 |_=>False
def kF(P:Program)(ops:Array Oper)(S:World->Prop)(o:Oper)(v:Value)(a:Act):Prop:=
 (Region.wanted o (yielded ops a.tmps)=true∧∀w,S w->Qs P w v ((execOp a.eval o).run P w))∨
 (Region.wanted o (yielded ops a.tmps)=false∧v=undef)
theorem kF.wpOp{i:Nat}{o:Oper}{v:Value}{a:Act}(hi:ops[i]?=some o)(hy:kF P ops S o v a){K:Act->World->Prop}{w:World}(hS:S w)(h:K (a.put o.dst v) w):wpOp P ops Q i K a w:=by
 unfold Go.wpOp;simp only[hi];rcases hy with⟨hw,hv⟩|⟨hw,rfl⟩
 ·rw[if_pos hw];refine .inl ?_;have h1:=hv w hS;unfold Oper.wp;generalize(execOp a.eval o).run P w=r at h1;cases r with
  |halt x w'=>exact h1.elim
  |ok n w'=>
   cases n with
   |value u=>
    obtain⟨rfl,rfl⟩:=h1;exact h
   |enter f args=>
    obtain⟨rfl,hc⟩:=h1;refine hc.mono fun e Ws he=>?_;obtain⟨rfl,rfl⟩:=he;exact h
   |_=>exact h1.elim
 ·rw[hw];simpa using h
theorem kF.same{o:Oper}{v:Value}{a a':Act}(hy:kF P ops S o v a)(he:execOp a'.eval o=execOp a.eval o)(hw:Region.wanted o (yielded ops a'.tmps)=Region.wanted o (yielded ops a.tmps)):kF P ops S o v a':=by
 unfold kF at*;rw[he,hw];exact hy
theorem Cv{j:Nat}{oi oj:Oper}{v:Value}(hj:ops[j]?=some oj)(hap:oi.apart ops oj=true)(hsi:∀cs b,oi.op≠.select cs b)(hsj:∀cs b,oj.op≠.select cs b)
  (hQ:∀c a w,Q (.panic c) (a.put oi.dst v) w->Q (.panic c) a w){K:Act->World->Prop}{a:Act}{w:World}(hy:kF P ops S oi v a)(h:wpOp P ops Q j K (a.put oi.dst v) w):
  wpOp P ops Q j (fun a' w'=>kF P ops S oi v a'∧K (a'.put oi.dst v) w') a w:=by
 obtain⟨h1,h2,h3⟩:=Oper.apart_spec hap;have next:∀(a:Act),kF P ops S oi v a->∀u w',K ((a.put oi.dst v).put oj.dst u) w'->kF P ops S oi v (a.put oj.dst u)∧K ((a.put oj.dst u).put oi.dst v) w':=fun a hy u w' hk=>
  ⟨hy.same (execOp_put oi hsi a oj.dst u h3) (wanted_put oi a oj.dst u h3),by rw[<-Act.put_comm a v u h2];exact hk⟩
 unfold wpOp at*;simp only[hj]at*;rw[wanted_put oj a oi.dst v h1]at h;by_cases hw:Region.wanted oj (yielded ops a.tmps)=true
 ·rw[if_pos hw]at h⊢;rcases h with h|⟨h,hl⟩
  ·refine .inl ?_;unfold Oper.wp at*;rw[execOp_put oj hsj a oi.dst v h1]at h;generalize(execOp a.eval oj).run P w=r at*;cases r with
   |halt x w'=>
    cases x
    case panic u=>exact hQ _ _ _ h
    all_goals exact h
   |ok n w'=>
    cases n
    case value u=>exact next a hy u w' h
    case skip=>exact next a hy undef w' h
    case defer d=>exact next {a with defers:=d::a.defers} (hy.same rfl rfl) undef w' (by rw[<-Act.put_defers];exact h)
    case enter f args=>
     refine Calls.mono h fun e Ws he=>?_;cases e
     case returned u=>exact next a hy u Ws he
     case panicked c=>exact hQ _ _ _ he
     case outgrown=>exact he
    case row rw' args=>exact Rows.mono h fun u Ws he=>next a hy u Ws he
    all_goals exact h
  ·exact .inr ⟨by unfold Oper.asks at*;rw[execOp_put oj hsj a oi.dst v h1]at h;exact h,hl⟩
 ·rw[if_neg hw]at h⊢;exact next a hy undef w h
def cy(P:Program)(md:Region.Mode)(ops:Array Oper)(Q:Exit->Act->World->Prop)(S:World->Prop)(z:Nat):Nat->Array Bool->Act->World->Prop
 |0,listed,a,w=>Region.ready md ops listed=[]∧Q .normal a w
 |fuel+1,listed,a,w=>
  (Region.ready md ops listed=[]->Q .normal a w)∧
  ∀i∈Region.ready md ops listed,wpOp P ops Q i (fun a' w'=>(i≠z->S w')∧cy P md ops Q S z fuel (listed.setIfInBounds i true) a' w') a w
theorem Cw:∀(fuel:Nat) (listed:Array Bool) (a:Act) (w:World),cy P md ops Q S z fuel listed a w->wpAny P md ops Q fuel listed a w
 |0,_,_,_,h=>h
 |fuel+1,_,_,_,h=>⟨h.1,fun i hi=>wpOp_mono (fun a' w' h'=>Cw fuel _ a' w' h'.2) (h.2 i hi)⟩
def qX(md:Region.Mode)(ops:Array Oper)(z:Nat)(listed:Array Bool):Prop:=
 ops.size<=z∨(Region.sinkB md ops z=true∧Region.chainB md ops z=true∧z<ops.size∧HeadInv md ops z listed∧ops.size<=z+1)
theorem qX.Qt{listed:Array Bool}{i:Nat}(h:qX md ops z listed)(hi:listed.getD i true=false)(W4:i<ops.size)(hiz:i≠z):z∉Region.ready md ops listed:=by
 intro hz;obtain⟨_,o,ho,_⟩:=mem_ready.1 hz;have S4:=(Array.getElem?_eq_some_iff.1 ho).1;rcases h with h|⟨h1,h2,h3,h4,h5⟩
 ·omega
 ·exact tail_waits h1 h2 h3 h4 _ i rfl (by omega) hi z (aN _) hz
theorem qX.set{listed:Array Bool}{j:Nat}(h:qX md ops z listed)(hj:j∈Region.ready md ops listed)(hjz:j≠z):qX md ops z (listed.setIfInBounds j true):=by
 rcases h with h|⟨h1,h2,h3,h4,h5⟩
 ·exact .inl h
 ·obtain⟨_,o,ho,_⟩:=mem_ready.1 hj;have Wt:=(Array.getElem?_eq_some_iff.1 ho).1;exact .inr ⟨h1,h2,h3,h4.set hj (by omega),h5⟩
theorem rB{i:Nat}{oi:Oper}{v:Value}(hi:ops[i]?=some oi)(TO:∀(j:Nat) (o:Oper) cs b,ops[j]?=some o->o.op≠.select cs b)
  (hQ:∀c a w,Q (.panic c) (a.put oi.dst v) w->Q (.panic c) a w)(hiz:i≠z):
  ∀(fuel:Nat) (listed:Array Bool) (a:Act) (w:World),qX md ops z listed->
   (∀j oj,ops[j]?=some oj->j≠i->listed.getD j true=false->(∀e∈oj.after,Region.binds md e=true->e.on≠i)->oi.apart ops oj=true)->
   i∈Region.ready md ops listed->kF P ops S oi v a->S w->
   cy P md ops Q S z fuel (listed.setIfInBounds i true) (a.put oi.dst v) w->cy P md ops Q S z (fuel+1) listed a w:=by
 intro fuel
 induction fuel with
 |zero=>
  intro listed a w _ _ hr hy hS H;refine⟨fun h=>(by rw[h]at hr;cases hr),fun j hj=>?_⟩;by_cases Ad:j=i
  ·subst Ad;exact hy.wpOp hi hS ⟨fun _=>hS,H⟩
  ·have:=ready_mono hj Ad;rw[H.1]at this;cases this
 |succ fuel ih=>
  intro listed a w inv rM hr hy hS H;have Ik:=(mem_ready.1 hr).1;have W4:=(Array.getElem?_eq_some_iff.1 hi).1;refine⟨fun h=>(by rw[h]at hr;cases hr),fun j hj=>?_⟩;by_cases Ad:j=i
  ·subst Ad;exact hy.wpOp hi hS ⟨fun _=>hS,H⟩
  ·have hjz:j≠z:=fun e=>inv.Qt Ik W4 hiz (e▸hj);have h1:=H.2 j (ready_mono hj Ad);obtain⟨TP,oj,Zb,eB⟩:=mem_ready.1 hj;have P4:∀e∈oj.after,Region.binds md e=true->e.on≠i:=fun e he hb heq=>by
    have h1:=eB e he hb;rw[heq,getD_both Ik]at h1;cases h1
   have h2:=Cv Zb (rM j oj Zb Ad TP P4) (fun cs b=>TO i oi cs b hi) (fun cs b=>TO j oj cs b Zb) hQ hy h1;have My:∀k ok,ops[k]?=some ok->k≠i->(listed.setIfInBounds j true).getD k true=false->
     (∀e∈ok.after,Region.binds md e=true->e.on≠i)->oi.apart ops ok=true:=fun k ok hk hki Ik lX=>by
    refine rM k ok hk hki ?_ lX;by_cases qE:j=k
    ·subst qE;exact TP
    ·rw[getD_set_ne true qE]at Ik;exact Ik
   refine wpOp_mono (fun a' w' h3=>⟨fun _=>h3.2.1 hjz,ih (listed.setIfInBounds j true) a' w' (inv.set hj hjz) My (ready_mono hr (Ne.symm Ad)) h3.1 (h3.2.1 hjz) ?_⟩) h2;rw[Array.setIfInBounds_comm _ _ Ad];exact h3.2.2
def AD(md:Region.Mode)(ops:Array Oper)(z:Nat)(listed:Array Bool):Bool:=
 listed.size==ops.size&&((List.range ops.size).all fun j=>!listed.getD j false||match ops[j]? with
  |some oj=>oj.after.all fun e=>!Region.binds md e||listed.getD e.on false
  |none=>true)&&((List.range ops.size).all fun t=>decide (t<z)|| !listed.getD t true)
theorem rC{listed:Array Bool}(h:AD md ops z listed=true):HeadInv md ops z listed:=by
 unfold AD at h;simp only[fW,beq_iff_eq,List.all_eq_true,List.mem_range,Bool.or_eq_true,Bool.not_eq_true',decide_eq_true_eq]at h;obtain⟨⟨h1,h2⟩,h3⟩:=h;refine⟨h1,fun j oj hj hl e he hb=>?_,fun t ht hts=>?_⟩
 ·have Wt:=(Array.getElem?_eq_some_iff.1 hj).1;rcases h2 j Wt with h|h
  ·rw[hl]at h;cases h
  ·simp only[hj]at h;have h':=Array.all_eq_true'.1 h e he;rw[hb]at h';simpa using h'
 ·rcases h3 t hts with h|h
  ·omega
  ·exact h
def UA(md:Region.Mode)(ops:Array Oper)(z:Nat)(listed:Array Bool):Bool:=
 decide (ops.size<=z)||(Region.sinkB md ops z&&Region.chainB md ops z&&decide (ops.size=z+1)&&AD md ops z listed)
theorem uM{listed:Array Bool}(h:UA md ops z listed=true):qX md ops z listed:=by
 unfold UA at h;simp only[Bool.or_eq_true,fW,decide_eq_true_eq]at h;rcases h with h|⟨⟨⟨h1,h2⟩,h3⟩,h4⟩
 ·exact .inl h
 ·exact .inr ⟨h1,h2,by omega,rC h4,by omega⟩
def kz(md:Region.Mode)(ops:Array Oper)(z:Nat)(listed:Array Bool)(i:Nat):Bool:=
 Region.noSelect ops&&Region.free md ops listed i&&(Region.ready md ops listed).contains i&&(i !=z)&&UA md ops z listed
theorem adf(i:Nat){oi:Oper}{v:Value}{fuel:Nat}{listed:Array Bool}{a:Act}{w:World}(hi:ops[i]?=some oi)(hB:kz md ops z listed i=true)
  (hQ:∀c a w,Q (.panic c) (a.put oi.dst v) w->Q (.panic c) a w)(hw:Region.wanted oi (yielded ops a.tmps)=true)(hS:S w)(hy:∀wx,S wx->(execOp a.eval oi).run P wx=.ok (.value v) wx)
  (h:cy P md ops Q S z fuel (listed.setIfInBounds i true) (a.put oi.dst v) w):cy P md ops Q S z (fuel+1) listed a w:=by
 unfold kz at hB;simp only[fW,bne_iff_ne]at hB;obtain⟨⟨⟨⟨h1,h2⟩,h3⟩,h4⟩,h5⟩:=hB;exact rB hi (Region.noSelect_spec h1) hQ h4 fuel listed a w (uM h5) (Region.free_spec hi h2) (by simpa using h3) (.inl ⟨hw,fun wx hx=>by rw[hy wx hx];exact⟨rfl,rfl⟩⟩) hS h
theorem Gt(i:Nat){oi:Oper}{v:Value}{fuel:Nat}{listed:Array Bool}{a:Act}{w:World}{f:FuncId}{args:Array Value}(hi:ops[i]?=some oi)(hB:kz md ops z listed i=true)
  (hQ:∀c a w,Q (.panic c) (a.put oi.dst v) w->Q (.panic c) a w)(hw:Region.wanted oi (yielded ops a.tmps)=true)(hS:S w)(hr:∀wx,(execOp a.eval oi).run P wx=.ok (.enter f args) wx)
  (hy:∀wx,S wx->Calls P f args wx fun e w'=>e=.returned v∧wx=w')(h:cy P md ops Q S z fuel (listed.setIfInBounds i true) (a.put oi.dst v) w):cy P md ops Q S z (fuel+1) listed a w:=by
 unfold kz at hB;simp only[fW,bne_iff_ne]at hB;obtain⟨⟨⟨⟨h1,h2⟩,h3⟩,h4⟩,h5⟩:=hB;exact rB hi (Region.noSelect_spec h1) hQ h4 fuel listed a w (uM h5) (Region.free_spec hi h2) (by simpa using h3) (.inl ⟨hw,fun wx hx=>by rw[hr wx];exact⟨rfl,hy wx hx⟩⟩) hS h
theorem adg(i:Nat){oi:Oper}{fuel:Nat}{listed:Array Bool}{a:Act}{w:World}(hi:ops[i]?=some oi)(hB:kz md ops z listed i=true)
  (hQ:∀c a w,Q (.panic c) (a.put oi.dst undef) w->Q (.panic c) a w)(hw:Region.wanted oi (yielded ops a.tmps)=false)(hS:S w)
  (h:cy P md ops Q S z fuel (listed.setIfInBounds i true) (a.put oi.dst undef) w):cy P md ops Q S z (fuel+1) listed a w:=by
 unfold kz at hB;simp only[fW,bne_iff_ne]at hB;obtain⟨⟨⟨⟨h1,h2⟩,h3⟩,h4⟩,h5⟩:=hB;exact rB hi (Region.noSelect_spec h1) hQ h4 fuel listed a w (uM h5) (Region.free_spec hi h2) (by simpa using h3) (.inr ⟨hw,rfl⟩) hS h
theorem Z1(i:Nat){o:Oper}{fuel:Nat}{listed:Array Bool}{a:Act}{w:World}(ho:ops[i]?=some o)(hr:Region.ready md ops listed=[i])
  (h:∀K:Act->World->Prop,(∀a' w',(i≠z->S w')->cy P md ops Q S z fuel (listed.setIfInBounds i true) a' w'->K a' w')->if Region.wanted o (yielded ops a.tmps)=true then Oper.wp P o a w K Q else K (a.put o.dst undef) w):
  cy P md ops Q S z (fuel+1) listed a w:=by
 refine⟨fun h0=>(by rw[hr]at h0;cases h0),fun j hj=>?_⟩;rw[hr]at hj;obtain rfl:=List.mem_singleton.1 hj;refine wpOp_step ho fun K' PB=>h K' fun a' w' h1 h2=>PB a' w' ⟨h1,h2⟩
theorem qh(i:Nat){o:Oper}{fuel:Nat}{listed:Array Bool}{a:Act}{w:World}(ho:ops[i]?=some o)(hr:Region.ready md ops listed=[i])
  (h:∀K:Act->World->Prop,(∀a' w',S w'->(S w'->cy P md ops Q S z fuel (listed.setIfInBounds i true) a' w')->K a' w')->if Region.wanted o (yielded ops a.tmps)=true then Oper.wp P o a w K Q else K (a.put o.dst undef) w):
  cy P md ops Q S z (fuel+1) listed a w:=
 Z1 i ho hr fun _ hK=>h _ fun a' w' h1 h2=>hK a' w' (fun _=>h1) (h2 h1)
theorem adh(i:Nat){o:Oper}{fuel:Nat}{listed:Array Bool}{a:Act}{w:World}(ho:ops[i]?=some o)(hr:Region.ready md ops listed=[i])(hz:i=z)
  (h:∀K:Act->World->Prop,(∀a' w',cy P md ops Q S z fuel (listed.setIfInBounds i true) a' w'->K a' w')->if Region.wanted o (yielded ops a.tmps)=true then Oper.wp P o a w K Q else K (a.put o.dst undef) w):
  cy P md ops Q S z (fuel+1) listed a w:=
 Z1 i ho hr fun _ hK=>h _ fun a' w' h2=>hK a' w' (fun h=>absurd hz h) h2
theorem adi{listed:Array Bool}{a:Act}{w:World}(hr:Region.ready md ops listed=[])(h:Q .normal a w):∀fuel,cy P md ops Q S z fuel listed a w
 |0=>⟨hr,h⟩
 |_+1=>⟨fun _=>h,by rw[hr];simp⟩
theorem aF{id:Nat}{a:Act}{w:World}(S:World->Prop)(z:Nat){l:List Oper}(hm:P.follows .mixedOrders=true)
  (hS:∀w1,(∃k,w1=w.drewN k)->S w1)(h:∀w1,(∃k,w1=w.drewN k)->S w1->cy P .any l.toArray Q S z l.length (Array.replicate l.length false) a w1):(Code.region id l.toArray true).wp P Q a w:=
 wp_region_any hm (by have:=Cw _ _ _ _ (h w.drew ⟨1,rfl⟩ (hS _ ⟨1,rfl⟩));simpa using this)
end
end
abbrev HL:=List (Nat×Obj)
def mP(b:Nat):HL->Nat
 |[]=>0
 |p::H=>(if p.1=b then 1 else 0)+mP b H
theorem sH(b:Nat):mP b []=0:=rfl
theorem bU(b:Nat)(p:Nat×Obj)(H:HL):mP b (p::H)=(if p.1=b then 1 else 0)+mP b H:=rfl
theorem bH(b:Nat)(A B:HL):mP b (A++B)=mP b A+mP b B:=by
 induction A with
 |nil=>simp[mP]
 |cons p A ih=>simp only[tZ,bU,ih];omega
theorem Vr{b:Nat}{H:HL}(h:0<mP b H):∃o,(b,o)∈H:=by
 induction H with
 |nil=>simp[mP]at h
 |cons p H ih=>
  rw[bU]at h;by_cases hp:p.1=b
  ·exact⟨p.2,by subst hp;simp⟩
  ·rw[if_neg hp]at h;obtain⟨o,ho⟩:=ih (by omega);exact⟨o,fA _ ho⟩
theorem JM{b:Nat}{o:Obj}{H:HL}(h:(b,o)∈H):0<mP b H:=by
 induction H with
 |nil=>cases h
 |cons p H ih=>
  rw[bU];rcases List.mem_cons.1 h with rfl|h
  ·simp;omega
  ·have:=ih h;omega
structure Holds(w:World)(H:HL):Prop where
 one:∀b,mP b H<=1
 mem:∀p,p∈H->w.heap[p.1]?=some p.2
structure af(w w':World):Prop where
 os:w'.os=w.os
 tape:w'.tape=w.tape
 output:w'.output=w.output
 size:w.heap.size<=w'.heap.size
theorem af.refl(w:World):af w w:=⟨rfl,rfl,rfl,aN _⟩
theorem af.trans{a b c:World}(h:af a b)(k:af b c):af a c:=
 ⟨k.os.trans h.os,k.tape.trans h.tape,k.output.trans h.output,Nat.le_trans h.size k.size⟩
theorem af.drew{a w:World}(h:af a w):af a w.drew:=⟨h.os,h.tape,h.output,h.size⟩
theorem af.drewN{a w:World}(h:af a w)(n:Nat):af a (w.drewN n):=⟨h.os,h.tape,h.output,h.size⟩
theorem af.alloc{a w:World}(h:af a w)(o:Obj):af a (w.alloc o):=⟨h.os,h.tape,h.output,by have:=h.size;simp;omega⟩
theorem af.setCell{a w:World}(h:af a w)(p:Addr)(u:Value):af a (w.setCell p u):=⟨h.os,h.tape,h.output,by have:=h.size;simpa using this⟩
theorem af.setRow{a w:World}(h:af a w)(g:Nat)(cs:Array Value):af a (w.setRow g cs):=⟨h.os,h.tape,h.output,by have:=h.size;simpa[World.setRow]using this⟩
section
variable{w w':World}{H H' A B C Fr:HL}{b:Nat}{cs:Array Value}{t:TypeId}
theorem Holds.lt(h:Holds w H){p:Nat×Obj}(hp:p∈H):p.1<w.heap.size:=(Array.getElem?_eq_some_iff.1 (h.mem p hp)).1
theorem Holds.sub(h:Holds w H)(hm:∀p,p∈H'->p∈H)(hc:∀b,mP b H'<=mP b H):Holds w H':=
 ⟨fun b=>Nat.le_trans (hc b) (h.one b),fun p hp=>h.mem p (hm p hp)⟩
theorem Holds.left(h:Holds w (A++B)):Holds w A:=
 h.sub (fun p hp=>ib _ hp) (fun b=>by rw[bH];omega)
theorem Holds.right(h:Holds w (A++B)):Holds w B:=
 h.sub (fun p hp=>gr _ hp) (fun b=>by rw[bH];omega)
theorem Holds.swap(h:Holds w (A++(B++C))):Holds w (B++(A++C)):=
 h.sub (fun p hp=>by simp only[lZ]at hp⊢;rcases hp with h|h|h<;>simp[h]) (fun b=>by simp only[bH];omega)
theorem Holds.Z2{D:HL}(h:Holds w (A++(B++(C++D)))):Holds w (A++(C++(B++D))):=
 h.sub (fun p hp=>by simp only[lZ]at hp⊢;rcases hp with h|h|h|h<;>simp[h]) (fun b=>by simp only[bH];omega)
theorem Holds.DD(h:Holds w (A++(B++C))):Holds w (A++C):=
 h.sub (fun p hp=>by simp only[lZ]at hp⊢;rcases hp with h|h<;>simp[h]) (fun b=>by simp only[bH];omega)
theorem Holds.assoc(h:Holds w ((A++B)++C)):Holds w (A++(B++C)):=by rw[<-cE];exact h
theorem Holds.apart(h:Holds w (A++B)){x y:Nat×Obj}(hx:x∈A)(hy:y∈B):x.1≠y.1:=by
 intro e;have h1:=h.one x.1;have ha:=JM (b:=x.1) (o:=x.2) hx;have hb:=JM (b:=x.1) (o:=y.2) (by rw[e];exact hy);rw[bH]at h1;omega
theorem Holds.get(h:Holds w H){o:Obj}(hm:(b,o)∈H):w.heap[b]?=some o:=h.mem _ hm
theorem Holds.cell(h:Holds w H){fz:Nat×Nat}(hm:(b,Obj.cells cs t fz)∈H)(i:Nat):w.cell? ⟨b,i,none⟩=cs[i]? :=
 cell_of_row w b i cs t fz (h.get hm)
theorem Holds.frozen(h:Holds w H)(hm:(b,Obj.cells cs t (0,0))∈H)(i:Nat):w.frozen? ⟨b,i,none⟩=false:=by
 have:=h.get hm;simp[World.frozen?,this]
theorem Holds.drew(h:Holds w H):Holds w.drew H:=⟨h.one,h.mem⟩
theorem Holds.drewN(h:Holds w H)(n:Nat):Holds (w.drewN n) H:=⟨h.one,h.mem⟩
theorem Holds.alloc(h:Holds w H)(o:Obj):Holds (w.alloc o) ((w.heap.size,o)::H):=by
 refine⟨fun b=>?_,fun p hp=>?_⟩
 ·rw[bU];have h1:=h.one b;by_cases hb:w.heap.size=b
  ·have:mP b H=0:=by
    rcases nG (mP b H)with h0|h0
    ·exact h0
    ·obtain⟨o',ho'⟩:=Vr h0;have:=h.lt ho';simp only at this;omega
   rw[if_pos hb];omega
  ·rw[if_neg hb];omega
 ·rcases List.mem_cons.1 hp with rfl|hp
  ·exact heap_alloc_new w o
  ·exact(Below.heap_alloc w o p.1 (h.lt hp)).trans (h.mem p hp)
theorem Holds.set(h:Holds w ((b,Obj.cells cs t (0,0))::H))(i:Nat)(u:Value):Holds (w.setCell ⟨b,i,none⟩ u) ((b,Obj.cells (cs.setIfInBounds i u) t (0,0))::H):=by
 refine⟨fun c=>?_,fun p hp=>?_⟩
 ·have:=h.one c;rw[bU]at this⊢;exact this
 ·rcases List.mem_cons.1 hp with rfl|hp
  ·have:=h.get (dC);simp[World.setCell,Array.getElem?_modify,this]
  ·have ei:=Holds.apart (A:=[(b,Obj.cells cs t (0,0))]) (B:=H) (by simpa using h) (List.mem_singleton.2 rfl) hp;exact(Below.heap_setCell w _ u p.1 (fun e=>ei e.symm)).trans (h.mem p (fA _ hp))
theorem Holds.setRow(h:Holds w ((b,Obj.cells cs t (0,0))::H))(Af:Array Value):Holds (w.setRow b Af) ((b,Obj.cells Af t (0,0))::H):=by
 refine⟨fun c=>?_,fun p hp=>?_⟩
 ·have:=h.one c;rw[bU]at this⊢;exact this
 ·rcases List.mem_cons.1 hp with rfl|hp
  ·exact setRow_heap w b cs Af t _ (h.get (dC))
  ·have ei:=Holds.apart (A:=[(b,Obj.cells cs t (0,0))]) (B:=H) (by simpa using h) (List.mem_singleton.2 rfl) hp;exact(setRow_other w b p.1 _ (fun e=>ei e.symm)).trans (h.mem p (fA _ hp))
theorem Holds.below{B:Nat}(h:Holds w H)(hb:Below B w w')(hl:∀p,p∈H->p.1<B):Holds w' H:=
 ⟨h.one,fun p hp=>(hb.block p.1 (hl p hp)).trans (h.mem p hp)⟩
end
structure lF(w wx:World):Prop where
 block:∀(k:Nat) o,w.heap[k]?=some o->wx.heap[k]?=some o
theorem lF.refl(w:World):lF w w:=⟨fun _ _ h=>h⟩
theorem lF.trans{a b c:World}(h:lF a b)(k:lF b c):lF a c:=⟨fun i o e=>k.block i o (h.block i o e)⟩
theorem lF.same{w wx:World}(he:wx.heap=w.heap):lF w wx:=⟨fun k o h=>by rw[he];exact h⟩
theorem lF.push{w wx:World}{o:Obj}(he:wx.heap=w.heap.push o):lF w wx:=⟨fun k o' h=>by
 rw[he,Array.getElem?_push,if_neg (by have:=(Array.getElem?_eq_some_iff.1 h).1;omega)];exact h⟩
theorem lF.holds{w wx:World}{H:HL}(h:lF w wx)(hH:Holds w H):Holds wx H:=⟨hH.one,fun p hp=>h.block p.1 p.2 (hH.mem p hp)⟩
theorem lF.cell{w wx:World}(h:lF w wx){p:Addr}{u:Value}(hc:w.cell? p=some u):wx.cell? p=some u:=by
 have hk:=World.block_lt_of_cell? w p hc;have he:=Array.getElem?_eq_getElem hk;rw[World.cell?_of_block (w:=w) ((h.block _ _ he).trans he.symm)];exact hc
theorem lF.dr{w wx:World}(h:∃k,wx=w.drewN k):lF w wx:=by obtain⟨k,rfl⟩:=h;exact lF.same rfl
theorem af.dr{w wx:World}(h:∃k,wx=w.drewN k):af w wx:=by obtain⟨k,rfl⟩:=h;exact(af.refl w).drewN k
theorem Holds.dr{w wx:World}{H:HL}(hH:Holds w H)(h:∃k,wx=w.drewN k):Holds wx H:=by obtain⟨k,rfl⟩:=h;exact hH.drewN k
def ao(w:World):HL:=(List.range w.heap.size).map fun k=>(k,(w.heap[k]?).getD (.deferred none))
theorem sY(f:Nat->Obj)(b:Nat):∀n,mP b ((List.range n).map fun k=>(k,f k))=if b<n then 1 else 0
 |0=>by simp[mP]
 |n+1=>by
  rw[ub,dm,bH,sY f b n];simp only[ku,List.map_nil,bU,sH];by_cases h:b<n
  ·rw[if_pos h,if_neg (by omega),if_pos (by omega)]
  ·by_cases h':b=n
   ·subst h';simp
   ·rw[if_neg h,if_neg (by omega),if_neg (by omega)]
theorem holds_all(w:World):Holds w (ao w):=by
 refine⟨fun b=>?_,fun p hp=>?_⟩
 ·unfold ao;rw[sY];split<;>omega
 ·unfold ao at hp;obtain⟨k,hk,rfl⟩:=List.mem_map.1 hp;have hk':k<w.heap.size:=by simpa using hk
  simp[Array.getElem?_eq_getElem hk']
theorem EF{w:World}{b:Nat}{o:Obj}(h:w.heap[b]?=some o):(b,o)∈ao w:=by
 have hk:=(Array.getElem?_eq_some_iff.1 h).1;unfold ao;exact List.mem_map.2 ⟨b,by simpa using hk,by simp[h]⟩
theorem Qu{W w:World}{H:HL}(h:Holds w (H++ao W))(hg:af W w):Below W.heap.size W w:=by
 refine⟨hg.os,hg.tape,hg.output,hg.size,fun k hk=>?_⟩;have hW:=Array.getElem?_eq_getElem hk;rw[h.get (gr _ (EF hW)),hW]
theorem mB{W w:World}(h:Holds w (ao W))(hg:af W w):Below W.heap.size W w:=Qu (H:=[]) (by simpa using h) hg
theorem Qv{W w:World}{H:HL}(h:Holds w (H++ao W)){k:Nat}(hk:k<W.heap.size):w.heap[k]?=W.heap[k]?:=by
 have hW:=Array.getElem?_eq_getElem hk;rw[h.get (gr _ (EF hW)),hW]
theorem JN{W w:World}{H:HL}(h:Holds w (H++ao W)){p:Addr}{u:Value}(hc:W.cell? p=some u):w.cell? p=some u:=by
 have hk:=World.block_lt_of_cell? W p hc;rw[World.cell?_of_block (w:=W) (Qv h hk),hc]
class PO (G H:HL):Prop where
 m:∀p,p∈G->p∈H
 c:∀b,mP b G<=mP b H
class RO (x:Nat×Obj) (H:HL) (R:outParam HL):Prop where
 m:∀p,p∈x::R->p∈H
 c:∀b,mP b (x::R)<=mP b H
class RA (A H:HL) (R:outParam HL):Prop where
 m:∀p,p∈A++R->p∈H
 c:∀b,mP b (A++R)<=mP b H
section
variable{x y:Nat×Obj}{A B G H R S:HL}
instance(priority:=high):RO x (x::H) H:=⟨fun _ h=>h,fun _=>aN _⟩
instance[i:RO x H R]:RO x (y::H) (y::R):=⟨fun p h=>by
 rcases List.mem_cons.1 h with h|h
 ·exact fA _ (i.m p (h▸dC))
 ·rcases List.mem_cons.1 h with h|h
  ·exact h▸dC
  ·exact fA _ (i.m p (fA _ h)),fun b=>by have:=i.c b;simp only[bU]at this⊢;omega⟩
instance[i:RO x H R]:RO x (A++H) (A++R):=⟨fun p h=>by
 rcases List.mem_cons.1 h with h|h
 ·exact gr _ (i.m p (h▸dC))
 ·rcases List.mem_append.1 h with h|h
  ·exact ib _ h
  ·exact gr _ (i.m p (fA _ h)),fun b=>by have:=i.c b;simp only[bU,bH]at this⊢;omega⟩
instance(priority:=low)[i:RO x A R]:RO x (A++H) (R++H):=⟨fun p h=>by
 rcases List.mem_cons.1 h with h|h
 ·exact ib _ (i.m p (h▸dC))
 ·rcases List.mem_append.1 h with h|h
  ·exact ib _ (i.m p (fA _ h))
  ·exact gr _ h,fun b=>by have:=i.c b;simp only[bU,bH]at this⊢;omega⟩
instance(priority:=high):RA A (A++H) H:=⟨fun _ h=>h,fun _=>aN _⟩
instance(priority:=high):RA A A []:=⟨fun p h=>by rw[kZ]at h;exact h,fun b=>by rw[kZ];exact aN _⟩
instance(priority:=high):RA [] H H:=⟨fun _ h=>h,fun _=>aN _⟩
instance[i:RO x H R][j:RA A R S]:RA (x::A) H S:=⟨fun p h=>by
 rcases List.mem_cons.1 h with h|h
 ·exact i.m p (h▸dC)
 ·exact i.m p (fA _ (j.m p h)),fun b=>by have:=i.c b;have:=j.c b;simp only[tZ,bU,bH]at*;omega⟩
instance[i:RA A H R][j:RA B R S]:RA (A++B) H S:=⟨fun p h=>by
 rw[cE]at h;rcases List.mem_append.1 h with h|h
 ·exact i.m p (ib _ h)
 ·exact i.m p (gr _ (j.m p h)),fun b=>by have:=i.c b;have:=j.c b;simp only[bU,bH]at*;omega⟩
instance(priority:=low)[i:RA A H R]:RA A (y::H) (y::R):=⟨fun p h=>by
 rcases List.mem_append.1 h with h|h
 ·exact fA _ (i.m p (ib _ h))
 ·rcases List.mem_cons.1 h with h|h
  ·exact h▸dC
  ·exact fA _ (i.m p (gr _ h)),fun b=>by have:=i.c b;simp only[bU,bH]at*;omega⟩
instance(priority:=low)[i:RA A H R]:RA A (B++H) (B++R):=⟨fun p h=>by
 rcases List.mem_append.1 h with h|h
 ·exact gr _ (i.m p (ib _ h))
 ·rcases List.mem_append.1 h with h|h
  ·exact ib _ h
  ·exact gr _ (i.m p (gr _ h)),fun b=>by have:=i.c b;simp only[bU,bH]at*;omega⟩
instance(priority:=low)[i:RA A B R]:RA A (B++H) (R++H):=⟨fun p h=>by
 rcases List.mem_append.1 h with h|h
 ·exact ib _ (i.m p (ib _ h))
 ·rcases List.mem_append.1 h with h|h
  ·exact ib _ (i.m p (gr _ h))
  ·exact gr _ h,fun b=>by have:=i.c b;simp only[bU,bH]at*;omega⟩
instance[i:RA G H R]:PO G H:=⟨fun p h=>i.m p (ib _ h),fun b=>by have:=i.c b;simp only[bH]at*;omega⟩
theorem Holds.p{w:World}(h:Holds w H)[i:PO G H]:Holds w G:=h.sub i.m i.c
end
def Bk(fz:Nat×Nat)(n:Nat):Prop:=∀i,i<n->¬(fz.1<=i∧i<fz.2)
theorem lb(n:Nat):Bk (0,0) n:=fun i _ h=>by simp at h
section
variable{w w':World}{H H' A B C Fr:HL}{b:Nat}{cs:Array Value}{t:TypeId}{fz:Nat×Nat}
theorem eO(hg:w.heap[b]?=some (.cells cs t fz))(hf:Bk fz cs.size){i:Nat}(hi:i<cs.size):w.frozen? ⟨b,i,none⟩=false:=by
 have:=hf i hi;obtain⟨lo,h'⟩:=fz;simp only[World.frozen?,hg];simp only at this;simp;omega
theorem Holds.ej(h:Holds w ((b,Obj.cells cs t fz)::H))(i:Nat)(u:Value):Holds (w.setCell ⟨b,i,none⟩ u) ((b,Obj.cells (cs.setIfInBounds i u) t fz)::H):=by
 refine⟨fun c=>?_,fun p hp=>?_⟩
 ·have:=h.one c;rw[bU]at this⊢;exact this
 ·rcases List.mem_cons.1 hp with rfl|hp
  ·have:=h.get (dC);simp[World.setCell,Array.getElem?_modify,this]
  ·have ei:=Holds.apart (A:=[(b,Obj.cells cs t fz)]) (B:=H) (by simpa using h) (List.mem_singleton.2 rfl) hp;exact(Below.heap_setCell w _ u p.1 (fun e=>ei e.symm)).trans (h.mem p (fA _ hp))
theorem Holds.pw(h:Holds w ((b,Obj.cells cs t fz)::H))(Af:Array Value):Holds (w.setRow b Af) ((b,Obj.cells Af t fz)::H):=by
 refine⟨fun c=>?_,fun p hp=>?_⟩
 ·have:=h.one c;rw[bU]at this⊢;exact this
 ·rcases List.mem_cons.1 hp with rfl|hp
  ·exact setRow_heap w b cs Af t fz (h.get (dC))
  ·have ei:=Holds.apart (A:=[(b,Obj.cells cs t fz)]) (B:=H) (by simpa using h) (List.mem_singleton.2 rfl) hp;exact(setRow_other w b p.1 _ (fun e=>ei e.symm)).trans (h.mem p (fA _ hp))
end
theorem Holds.ae{w:World}{b:Nat}{cs:Array Value}{t:TypeId}{fz:Nat×Nat}{H:HL}(h:Holds w ((b,Obj.cells cs t fz)::H))(i:Nat):w.cell? ⟨b,i,none⟩=cs[i]?:=h.cell (t:=t) (fz:=fz) (by simp) i
theorem Holds.aG{w:World}{b:Nat}{o:Obj}{H:HL}(h:Holds w ((b,o)::H)):b<w.heap.size:=h.lt (p:=(b,o)) (by simp)
theorem Holds.ah{w:World}{b:Nat}{cs:Array Value}{t:TypeId}{H:HL}(h:Holds w ((b,Obj.cells cs t)::H))(i:Nat):w.frozen? ⟨b,i,none⟩=false:=h.frozen (t:=t) (cs:=cs) (by simp) i
theorem iW{P:Program}(g o:Nat)(t:TypeId)(fz:Nat×Nat):∀(vs:List Value) (i:Nat) (cur:Array Value) (w:World),w.heap[g]?=some (.cells cur t fz)->Bk fz cur.size->o+i+vs.length<=cur.size->(∀v∈vs,v.oneCell'=true)->
  (storeCells ⟨g,o,none⟩ vs i).run P w=.ok () (w.setRow g (cur.toList.take (o+i)++vs++cur.toList.drop (o+i+vs.length)).toArray)
 |[],i,cur,w,hg,_,_,_=>by
  simp only[storeCells,kZ,List.length_nil,fD,oz,Array.toArray_toList];rw[setRow_self w g cur t fz hg];rfl
 |v::rest,i,cur,w,hg,hf,hl,h1=>by
  have hi:o+i<cur.size:=by simp at hl;omega
  have F8:(⟨g,o,none⟩:Addr).add i=⟨g,o+i,none⟩:=by unfold Addr.add;split<;>simp_all
  have ae:w.cell? ⟨g,o+i,none⟩=some cur[o+i]:=by simp[World.cell?,hg,hi]
  have am0:w.frozen? ⟨g,o+i,none⟩=false:=eO hg hf hi;have bD:(store ((⟨g,o,none⟩:Addr).add i) v).run P w=.ok () (w.setRow g (cur.setIfInBounds (o+i) v)):=by
   rw[F8,run_store P w _ v _ (h1 v (by simp)),ae];simp[am0,setCell_eq_setRow w g (o+i) cur t fz v hg]
  have ih:=iW (P:=P) g o t fz rest (i+1) (cur.setIfInBounds (o+i) v) (w.setRow g (cur.setIfInBounds (o+i) v)) (setRow_heap w g cur _ t _ hg) (by simpa using hf) (by simp at hl⊢;omega) (fun x hx=>h1 x (by simp[hx]));simp only[storeCells,Sem.run_bind,bD,Result.andThen_ok,ih,setRow_setRow];congr 3;have e:=list_seg_step cur.toList (o+i) v rest (by simp at hl⊢;omega);simpa[Array.toList_setIfInBounds,gW]using e
def au(e:TypeId)(size:Nat)(v:Value)(n:Nat)(xs:List Value)(H:HL):Prop:=
 xs.length=n*size∧
 ((v=.slice none 0 0∧n=0∧H=[])∨
  ∃g cap cur fz,v=.slice (some ⟨g,0,none⟩) n cap∧n<=cap∧cap<=maxLen∧cap*size<=cur.size∧cur.toList.take (n*size)=xs∧Bk fz cur.size∧H=[(g,.cells cur e fz)])
theorem au.nil(e:TypeId)(size:Nat):au e size (.slice none 0 0) 0 [] []:=⟨by simp,.inl ⟨rfl,rfl,rfl⟩⟩
def ag(w:World)(size:Nat)(v:Value)(n:Nat)(xs:List Value):Prop:=
 xs.length=n*size∧∃A c,v=.slice A n c∧n<=c∧c<=maxLen∧(0<n->∃b o,A=some ⟨b,o,none⟩∧∀j u,xs[j]?=some u->w.cell? ⟨b,o+j,none⟩=some u)
section
variable{w w':World}{e:TypeId}{size n:Nat}{v:Value}{xs:List Value}{H Fr:HL}
theorem ag.drew(h:ag w size v n xs):ag w.drew size v n xs:=h
theorem ag.drewN(h:ag w size v n xs)(k:Nat):ag (w.drewN k) size v n xs:=h
theorem ag.keep(h:ag w size v n xs)(hk:∀p u,w.cell? p=some u->w'.cell? p=some u):ag w' size v n xs:=by
 obtain⟨h1,A,c,hv,hn,hc,h2⟩:=h;refine⟨h1,A,c,hv,hn,hc,fun h0=>?_⟩;obtain⟨b,o,hA,h3⟩:=h2 h0;exact⟨b,o,hA,fun j u hu=>hk _ _ (h3 j u hu)⟩
theorem au.reads(h:au e size v n xs H)(hH:Holds w (H++Fr)):ag w size v n xs:=by
 obtain⟨h1,h2⟩:=h;refine⟨h1,?_⟩;rcases h2 with⟨rfl,rfl,rfl⟩|⟨g,cap,cur,fz,rfl,hn,hc,hs,ht,hf,rfl⟩
 ·exact⟨none,0,rfl,by omega,by simp[maxLen],fun h=>absurd h (by omega)⟩
 ·refine⟨_,_,rfl,hn,hc,fun _=>⟨g,0,rfl,fun j u hu=>?_⟩⟩;rw[<-ht,lE]at hu;split at hu
  ·rw[hH.cell (t:=e) (cs:=cur) (fz:=fz) (by simp)];simpa using hu
  ·cases hu
theorem au.le(h:au e size v n xs H):n<=maxLen:=by
 rcases h.2 with⟨_,rfl,_⟩|⟨g,cap,cur,fz,rfl,hn,hc,_⟩
 ·simp
 ·omega
theorem ag.le(h:ag w size v n xs):n<=maxLen:=by
 obtain⟨_,A,c,_,hn,hc,_⟩:=h;omega
theorem au.val(h:au e size v n xs H):∃A c,v=.slice A n c:=by
 rcases h.2 with⟨rfl,rfl,_⟩|⟨g,cap,cur,fz,rfl,_⟩
 ·exact⟨_,_,rfl⟩
 ·exact⟨_,_,rfl⟩
theorem au.made{e:TypeId}(g n:Nat)(cs:Array Value)(hs:cs.size=n*size)(hn:n<=maxLen):au e size (.slice (some ⟨g,0,none⟩) n n) n cs.toList [(g,.cells cs e)]:=
 ⟨by simpa using hs,.inr ⟨g,n,cs,(0,0),rfl,aN _,hn,by omega,by rw[<-hs,<-vP,fB],lb _,rfl⟩⟩
theorem au.UB{e:TypeId}(g n:Nat)(cs:Array Value)(hs:cs.size=n*size)(hn:n<=maxLen):au e size (.slice (some ⟨g,0,none⟩) 0 n) 0 [] [(g,.cells cs e)]:=
 ⟨by simp,.inr ⟨g,n,cs,(0,0),rfl,Nat.zero_le _,hn,by omega,by simp,lb _,rfl⟩⟩
theorem ag.ft{g o n c:Nat}{cs:Array Value}{e:TypeId}{fz:Nat×Nat}(hg:w.heap[g]?=some (.cells cs e fz))(xs:List Value)(hx:xs.length=n*size)(hn:n<=c)(hc:c<=maxLen)
  (h:∀j u,xs[j]?=some u->cs[o+j]?=some u):ag w size (.slice (some ⟨g,o,none⟩) n c) n xs:=
 ⟨hx,_,_,rfl,hn,hc,fun _=>⟨g,o,rfl,fun j u hu=>by rw[cell_of_row w g (o+j) cs e fz hg];exact h j u hu⟩⟩
end
theorem au.cell{w:World}{e:TypeId}{size n:Nat}{v:Value}{xs:List Value}{H Fr:HL}(h:au e size v n xs H)(hH:Holds w (H++Fr)){j:Nat}(hj:j<xs.length):
  ∃g cap,v=.slice (some ⟨g,0,none⟩) n cap∧n<=cap∧cap<=maxLen∧g<w.heap.size∧w.cell? ⟨g,j,none⟩=some xs[j]∧w.frozen? ⟨g,j,none⟩=false∧
   ∀(w':World) (N9:HL),Holds w' (H++N9)->∀u,∃H',au e size v n (xs.set j u) H'∧Holds (w'.setCell ⟨g,j,none⟩ u) (H'++N9):=by
 obtain⟨hl,h2⟩:=h;rcases h2 with⟨rfl,rfl,rfl⟩|⟨g,cap,cur,fz,rfl,hn,hc,hs,ht,hf,rfl⟩
 ·simp at hl;subst hl;simp at hj
 ·have PC:n*size<=cap*size:=kY _ hn;have hjc:j<cur.size:=by omega
  have hg:w.heap[g]?=some (.cells cur e fz):=hH.get (by simp);refine⟨g,cap,rfl,hn,hc,hH.lt (p:=(g,.cells cur e fz)) (by simp),?_,eO hg hf hjc,fun w' N9 h' u=>?_⟩
  ·rw[cell_of_row w g j cur e fz hg];have:xs[j]?=some xs[j]:=bF hj;rw[<-this,<-ht,lE,if_pos (by omega)];simp
  ·refine⟨[(g,.cells (cur.setIfInBounds j u) e fz)],⟨by simpa using hl,.inr ⟨g,cap,_,fz,rfl,hn,hc,by simpa using hs,?_,by simpa using hf,rfl⟩⟩,?_⟩
   ·rw[Array.toList_setIfInBounds,List.take_set,ht]
   ·exact Holds.ej (H:=N9) (by simpa using h') j u
section
variable{P:Program}{w:World}{e:TypeId}{size n:Nat}{v:Value}{xs:List Value}{H Fr:HL}
theorem cV(b o k:Nat):(⟨b,o,none⟩:Addr).add k=⟨b,o+k,none⟩:=by unfold Addr.add;split<;>simp_all
theorem Kz(w:World)(need old:Nat)(e:TypeId)(h:need<=maxLen):need<=grownCap w need old e∧grownCap w need old e<=maxLen:=⟨grownCap_ge w need old e,grownCap_le_maxLen w need old e h⟩
theorem ta(t ty:TypeId)(i:TypeInfo)(z:Value)(bytes:Nat)(ht:P.underlying t=some (.slice e))(hi:P.info? e=some i)(hz:i.zero=some z)
  (mV:i.size=size)(xr:i.bytes=bytes)(S4:z.cells.size=size)(fT:0<size)
  (ay:au e size v n xs H)(hH:Holds w (H++Fr)){u:Value}{m:Nat}{news:List Value}(nP:ag w size u m news)(h1:∀x∈news,x.oneCell'=true)
  (Di:n+m<=maxLen)(pQ:(n+m)*bytes<=140737488355328):
  ∃v' w' H',(Builtin.append_ #[t,t] ty #[v,u]).run P w=.ok v' w'∧au e size v' (n+m) (xs++news) H'∧Holds w' (H'++Fr)∧af w w':=by
 subst mV;subst xr;obtain⟨hl,A,c,rfl,hmc,nO,hsr⟩:=nP;have aoX:n+m<=9223372036854775807:=by simp only[maxLen]at Di;omega
 have hlen:(xs++news).length=(n+m)*i.size:=by rw[aY,ay.1,hl,nH]
 by_cases hm:m=0
 ·
  subst hm;have uZ:news=[]:=jW (by simpa using hl);subst uZ;refine⟨v,w,H,?_,by simpa using ay,hH,af.refl w⟩;rcases ay.2 with⟨rfl,rfl,rfl⟩|⟨g,cap,cur,fz,rfl,hn,hc,hs,oT,hf,rfl⟩
  ·cases A<;>simp[Builtin.append_,run_underlying ht,sizeOf,typeInfo,hi,Builtin.lenOf,Builtin.firstCells,loadCells,loadCellsFrom]
  ·cases A<;>simp[Builtin.append_,run_underlying ht,sizeOf,typeInfo,hi,Builtin.lenOf,Builtin.firstCells,hn,storeCells,loadCells,loadCellsFrom]
 ·obtain⟨b,o,rfl,Mz⟩:=hsr (by omega);have UC:∀j u,news[j]?=some u->w.cell? ((⟨b,o,none⟩:Addr).add j)=some u:=fun j u hu=>by rw[cV];exact Mz j u hu
  have grown:∀(olds:List Value) (old:Nat),olds=xs->Holds w Fr->
    ∃H',au e i.size (.slice (some ⟨w.heap.size,0,none⟩) (n+m) (grownCap w (n+m) old e)) (n+m) (xs++news) H'∧
     Holds (w.drew.alloc (.cells (olds.toArray++news.toArray++Builtin.zeroCells z.cells (grownCap w (n+m) old e-(n+m))) e)) (H'++Fr):=by
   intro olds old ho hFr;subst ho;have uO:=grownCap_ge w (n+m) old e;have nO:grownCap w (n+m) old e<=maxLen:=grownCap_le_maxLen w (n+m) old e Di;refine⟨[(w.heap.size,_)],⟨hlen,.inr ⟨w.heap.size,_,_,_,rfl,uO,nO,?_,?_,lb _,rfl⟩⟩,hFr.drew.alloc _⟩
   ·simp only[Array.size_append,vR,size_zeroCells,S4,ay.1,hl,<-nH];exact kY _ (by omega)
   ·simp only[Array.toList_append,cE];rw[<-cE,<-hlen];exact List.take_left
  rcases ay.2 with⟨rfl,rfl,rfl⟩|⟨g,cap,cur,fz,rfl,PC,L4,mM,iL,hf,rfl⟩
  ·have hx:xs=[]:=jW (by simpa using ay.1);subst hx;have hr:=run_append_nil (P:=P) w t ty e i z ht hi hz ⟨b,o,none⟩ m c news hl UC (by omega) (by omega) (by have hb:=pQ;simp only[fp]at hb;omega);obtain⟨H',aK,aX⟩:=grown [] 0 rfl (by simpa using hH);simp only[fp,jS]at aK aX⊢;refine⟨_,_,H',hr,aK,?_,(af.refl w).drew.alloc _⟩;simpa using aX
  ·by_cases lG:n+m<=cap
   ·have pM:n*i.size+news.length<=cur.size:=by rw[hl,<-nH];exact Nat.le_trans (kY _ lG) mM
    have hg:w.heap[g]?=some (.cells cur e fz):=hH.get (by simp);have yT:=run_firstCells_some (P:=P) w i.size m ⟨b,o,none⟩ m c news hl UC;have bD:=iW (P:=P) g (n*i.size) e fz news 0 cur w hg hf (by simpa using pM) h1;simp only[fD]at bD;have hr:(Builtin.append_ #[t,t] ty #[.slice (some ⟨g,0,none⟩) n cap,.slice (some ⟨b,o,none⟩) m c]).run P w=
      .ok (.slice (some ⟨g,0,none⟩) (n+m) cap) (w.setRow g (cur.toList.take (n*i.size)++news++cur.toList.drop (n*i.size+news.length)).toArray):=by
     simp[Builtin.append_,run_underlying ht,sizeOf,typeInfo,hi,Builtin.lenOf,lG,yT,Addr.add_lit,bD]
    have TQ:(cur.toList.take (n*i.size)++news++cur.toList.drop (n*i.size+news.length)).toArray.size=cur.size:=by
     simp only[vR,aY,dG,dA,vP];omega
    refine⟨_,_,[(g,.cells (cur.toList.take (n*i.size)++news++cur.toList.drop (n*i.size+news.length)).toArray e fz)],hr,⟨hlen,.inr ⟨g,cap,_,fz,rfl,lG,L4,?_,?_,?_,rfl⟩⟩,?_,(af.refl w).setRow _ _⟩
    ·rw[TQ];exact mM
    ·rw[iL,<-hlen];exact List.take_left
    ·rw[TQ];exact hf
    ·exact Holds.pw (H:=Fr) (by simpa using hH) _
   ·have adj:∀j u,xs[j]?=some u->w.cell? ((⟨g,0,none⟩:Addr).add j)=some u:=by
     intro j u hu;rw[cV,fp,hH.cell (t:=e) (cs:=cur) (fz:=fz) (by simp)];rw[<-iL,lE]at hu;split at hu
     ·simpa using hu
     ·cases hu
    have hr:=run_append_grow (P:=P) w t ty e i z ht hi hz ⟨g,0,none⟩ n cap xs ay.1 adj ⟨b,o,none⟩ m c news hl UC (by omega) (by omega) (growslice_fits (by omega) pQ);obtain⟨H',aK,aX⟩:=grown xs cap rfl (hH.right);exact⟨_,_,H',hr,aK,aX,(af.refl w).drew.alloc _⟩
theorem xo{ops:Array Oper}{rest:List Oper}{o:Oper}{a:Act}{Q:Exit->Act->World->Prop}(nj:o.guard=none)(s x:Operand)(t:TypeId)
  (ho:o.op=.call {callee:=.builtin .append,args:=#[s,x],argTypes:=#[t,t]})
  (i:TypeInfo)(z:Value)(bytes:Nat)(ht:P.underlying t=some (.slice e))(hi:P.info? e=some i)(hz:i.zero=some z)
  (mV:i.size=size)(xr:i.bytes=bytes)(S4:z.cells.size=size)(fT:0<size)
  (hs:a.eval s=v){u:Value}(hx:a.eval x=u)(ay:au e size v n xs H)(hH:Holds w (H++Fr)){m:Nat}{news:List Value}(nP:ag w size u m news)(h1:∀x∈news,x.oneCell'=true)
  (Di:n+m<=maxLen)(pQ:(n+m)*bytes<=140737488355328)
  (h:∀A' c' w' H',au e size (.slice A' (n+m) c') (n+m) (xs++news) H'->Holds w' (H'++Fr)->af w w'->wpList P ops Q rest (a.put o.dst (.slice A' (n+m) c')) w'):wpList P ops Q (o::rest) a w:=by
 refine wpList_plain nj fun K hK=>?_;obtain⟨v',w',H',hr,h2,h3,h4⟩:=ta (P:=P) t o.type i z bytes ht hi hz mV xr S4 fT ay hH nP h1 Di pQ;obtain⟨A',c',rfl⟩:=h2.val;unfold Oper.wp execOp;simp only[ho,resolve,invoke,builtin,Sem.run_bind,Sem.run_pure,Result.andThen_ok,List.map_toArray,ku,List.map_nil,hs,hx,hr];exact hK _ _ (h A' c' w' H' h2 h3 h4)
theorem Aa{ops:Array Oper}{o:Oper}{a:Act}{K:Act->World->Prop}{Q:Exit->Act->World->Prop}{E:Prop}(nj:o.guard=none)(s x:Operand)(t:TypeId)
  (ho:o.op=.call {callee:=.builtin .append,args:=#[s,x],argTypes:=#[t,t]})
  (i:TypeInfo)(z:Value)(bytes:Nat)(ht:P.underlying t=some (.slice e))(hi:P.info? e=some i)(hz:i.zero=some z)
  (mV:i.size=size)(xr:i.bytes=bytes)(S4:z.cells.size=size)(fT:0<size)
  (hs:a.eval s=v){u:Value}(hx:a.eval x=u)(ay:au e size v n xs H)(hH:Holds w (H++Fr)){m:Nat}{news:List Value}(nP:ag w size u m news)(h1:∀x∈news,x.oneCell'=true)
  (Di:n+m<=maxLen)(pQ:(n+m)*bytes<=140737488355328)
  (h:∀A' c' w' H',au e size (.slice A' (n+m) c') (n+m) (xs++news) H'->Holds w' (H'++Fr)->af w w'->K (a.put o.dst (.slice A' (n+m) c')) w'):
  if Region.wanted o (yielded ops a.tmps)=true then Oper.wp P o a w K Q else E:=by
 have hw:Region.wanted o (yielded ops a.tmps)=true:=by simp[Region.wanted,nj]
 rw[if_pos hw];obtain⟨v',w',H',hr,h2,h3,h4⟩:=ta (P:=P) t o.type i z bytes ht hi hz mV xr S4 fT ay hH nP h1 Di pQ;obtain⟨A',c',rfl⟩:=h2.val;unfold Oper.wp execOp;simp only[ho,resolve,invoke,builtin,Sem.run_bind,Sem.run_pure,Result.andThen_ok,List.map_toArray,ku,List.map_nil,hs,hx,hr];exact h A' c' w' H' h2 h3 h4
end
structure rP(P:Program)(t e:TypeId)(size bytes:Nat)(z:Value):Prop where
 under:P.underlying t=some (.slice e)
 info:∃i,P.info? e=some i∧i.zero=some z∧i.size=size∧i.bytes=bytes
 cells:z.cells.size=size
 pos:0<size
theorem rP.mk'{P:Program}{t e:TypeId}{size bytes:Nat}{z:Value}(h:P.underlying t=some (.slice e))(hi:(P.info? e).map (fun i=>(i.zero,i.size,i.bytes))=some (some z,size,bytes))
  (hc:z.cells.size=size)(hp:0<size):rP P t e size bytes z:=by
 refine⟨h,?_,hc,hp⟩;cases hq:P.info? e with
 |none=>simp[hq]at hi
 |some i=>
  simp only[hq,kt,Option.some.injEq,Prod.mk.injEq]at hi;exact⟨i,rfl,hi.1,hi.2.1,hi.2.2⟩
theorem kB{size:Nat}:∀(l:List (List Value)),(∀x,x∈l->x.length=size)->l.flatten.length=l.length*size
 |[],_=>by simp
 |a::l,h=>by
  simp only[kr,aY,fC,kB l (fun x hx=>h x (fA _ hx)),h a (dC),nH];omega
theorem dS{size:Nat}:∀(l:List (List Value)),(∀x,x∈l->x.length=size)->∀(i j:Nat) (x:List Value),l[i]?=some x->j<size->l.flatten[i*size+j]?=x[j]?
 |[],_,i,j,x,hx,_=>by simp at hx
 |a::l,h,0,j,x,hx,hj=>by
  simp only[iK,Option.some.injEq]at hx;subst hx;have ha:=h a (dC);rw[kr,Nat.zero_mul,fp,y9 (by omega)]
 |a::l,h,i+1,j,x,hx,hj=>by
  simp only[mS]at hx;have ha:=h a (dC);rw[kr,y8 (by rw[ha,nH];omega)];rw[<-dS l (fun x hx=>h x (fA _ hx)) i j x hx hj];congr 1;rw[ha,nH];omega
theorem nc{size:Nat}:∀(l:List (List Value)),(∀x,x∈l->x.length=size)->∀(i j:Nat) (x:List Value) (u:Value),l[i]?=some x->j<size->l.flatten.set (i*size+j) u=(l.set i (x.set j u)).flatten
 |[],_,i,j,x,u,hx,_=>by simp at hx
 |a::l,h,0,j,x,u,hx,hj=>by
  simp only[iK,Option.some.injEq]at hx;subst hx;have ha:=h a (dC);rw[kr,Nat.zero_mul,fp,List.set_append_left _ _ (by omega)];simp
 |a::l,h,i+1,j,x,u,hx,hj=>by
  simp only[mS]at hx;have ha:=h a (dC);rw[kr,List.set_append_right _ _ (by rw[ha,nH];omega)];have e:(i+1)*size+j-a.length=i*size+j:=by rw[ha,nH];omega
  rw[e,nc l (fun x hx=>h x (fA _ hx)) i j x u hx hj];simp
theorem fm{α:Type}:∀(l:List (List α)) (i:Nat) (x:List α),l[i]?=some x->l.flatten=(l.take i).flatten++(x++(l.drop (i+1)).flatten)
 |[],i,x,h=>by simp at h
 |a::l,0,x,h=>by
  simp only[iK,Option.some.injEq]at h;subst h;simp
 |a::l,i+1,x,h=>by
  simp only[mS]at h;simp only[kr,zc,List.drop_succ_cons,cE,fm l i x h]
theorem dh{α:Type}:∀(l:List (List α)) (i:Nat) (y:List α),i<l.length->(l.set i y).flatten=(l.take i).flatten++(y++(l.drop (i+1)).flatten)
 |[],i,y,h=>by simp at h
 |a::l,0,y,h=>by simp
 |a::l,i+1,y,h=>by
  simp only[fC]at h;simp only[List.set_cons_succ,kr,zc,List.drop_succ_cons,cE,dh l i y (by omega)]
def eK{α:Type}(R:List Value->α->HL->Prop)(e:TypeId)(size:Nat)(v:Value)(xs:List α)(H:HL):Prop:=
 ∃(kf:List (List Value)) (H0:HL) (Hs:List HL),au e size v xs.length kf.flatten H0∧kf.length=xs.length∧Hs.length=xs.length∧(∀c,c∈kf->c.length=size)∧
  (∀(i:Nat) (c:List Value) (x:α) (h:HL),kf[i]?=some c->xs[i]?=some x->Hs[i]?=some h->R c x h)∧H=H0++Hs.flatten
section
variable{α:Type}{R:List Value->α->HL->Prop}{e:TypeId}{size:Nat}{v:Value}{xs:List α}{H Fr:HL}{w:World}
theorem eK.nil(R:List Value->α->HL->Prop)(e:TypeId)(size:Nat):eK R e size (.slice none 0 0) [] []:=
 ⟨[],[],[],au.nil e size,rfl,rfl,by simp,by simp,by simp⟩
theorem eK.open_(h:eK R e size v xs H)(hH:Holds w (H++Fr)){i:Nat}{x:α}(hx:xs[i]?=some x):
  ∃g cap c Hi Hr,v=.slice (some ⟨g,0,none⟩) xs.length cap∧xs.length<=cap∧cap<=maxLen∧i<xs.length∧c.length=size∧R c x Hi∧
   (∀j,j<size->w.cell? ⟨g,i*size+j,none⟩=c[j]?∧w.frozen? ⟨g,i*size+j,none⟩=false)∧
   (∃cs fz,(g,Obj.cells cs e fz)∈Hr∧Bk fz cs.size∧i*size+size<=cs.size)∧g<w.heap.size∧Holds w (Hi++(Hr++Fr))∧
   (∀w' x' nC,R c x' nC->Holds w' (nC++(Hr++Fr))->∃H',eK R e size v (xs.set i x') H'∧Holds w' (H'++Fr))∧
   (∀w' j u x' nC,j<size->R (c.set j u) x' nC->Holds w' (nC++(Hr++Fr))->∃H',eK R e size v (xs.set i x') H'∧Holds (w'.setCell ⟨g,i*size+j,none⟩ u) (H'++Fr)):=by
 obtain⟨kf,H0,Hs,ay,iY,lP,fT,hR,rfl⟩:=h;have hi:i<xs.length:=(List.getElem?_eq_some_iff.1 hx).1;have hc:kf[i]?=some (kf[i]'(by omega)):=bF (by omega);have hh:Hs[i]?=some (Hs[i]'(by omega)):=bF (by omega);generalize DE:kf[i]'(by omega)=c at hc;generalize PD:Hs[i]'(by omega)=Hi at hh;have bm:c.length=size:=fT c (gD hc);obtain⟨DF,hv⟩:=ay;rcases hv with⟨rfl,h0,_⟩|⟨g,cap,cur,fz,rfl,hn,nO,mM,iL,DG,rfl⟩
 ·omega
 have iM:=fm Hs i Hi hh;have oR:∀j,j<size->i*size+j<xs.length*size:=by
  intro j hj;have:(i+1)*size<=xs.length*size:=kY _ hi;rw[nH]at this;omega
 have og:xs.length*size<=cap*size:=kY _ hn;have oh:∀j,j<size->cur[i*size+j]?=c[j]?:=by
  intro j hj;rw[<-dS kf fT i j c hc hj,<-iL,lE,if_pos (oR j hj)];simp
 refine⟨g,cap,c,Hi,(g,.cells cur e fz)::((Hs.take i).flatten++(Hs.drop (i+1)).flatten),rfl,hn,nO,hi,bm,hR i c x Hi hc hx hh,fun j hj=>⟨?_,?_⟩,⟨cur,fz,by simp,DG,?_⟩,?_,?_,?_,?_⟩
 ·rw[hH.cell (t:=e) (cs:=cur) (fz:=fz) (by simp)];exact oh j hj
 ·exact eO (t:=e) (cs:=cur) (fz:=fz) (hH.get (by simp)) DG (by have:=oR j hj;omega)
 ·have:(i+1)*size<=xs.length*size:=kY _ hi;rw[nH]at this;omega
 ·exact hH.lt (p:=(g,.cells cur e fz)) (by simp)
 ·refine hH.sub ?_ ?_
  ·intro p hp;rw[iM];simp only[lZ,l6]at hp⊢;rcases hp with h|(h|h|h)|h<;>simp[h]
  ·intro b;rw[iM];simp only[bH,bU];omega
 ·intro w' x' nC sX gK;refine⟨_,⟨kf,[(g,.cells cur e fz)],Hs.set i nC,⟨by simpa using DF,.inr ⟨g,cap,cur,fz,by simp,by simpa using hn,nO,mM,by simpa using iL,DG,rfl⟩⟩,by simpa using iY,by simpa using lP,fT,?_,rfl⟩,?_⟩
  ·intro k c2 x2 h2 e1 e2 e3;by_cases hk:k=i
   ·subst hk;rw[hc]at e1;rw[List.getElem?_set_self (by omega)]at e2 e3;cases e1;cases e2;cases e3;exact sX
   ·rw[List.getElem?_set_ne (by omega)]at e2 e3;exact hR k c2 x2 h2 e1 e2 e3
  ·refine gK.sub ?_ ?_
   ·intro p hp;rw[dh Hs i nC (by omega)]at hp;simp only[lZ,l6,rL,or_false]at hp⊢;rcases hp with(h|h|h|h)|h<;>simp[h]
   ·intro b;rw[dh Hs i nC (by omega)];simp only[bH,bU,sH];omega
 ·intro w' j u x' nC hj sX gK;have L5:=oR j hj;refine⟨_,⟨kf.set i (c.set j u),[(g,.cells (cur.setIfInBounds (i*size+j) u) e fz)],Hs.set i nC,⟨?_,.inr ⟨g,cap,cur.setIfInBounds (i*size+j) u,fz,by simp,by simpa using hn,nO,by simpa using mM,?_,by simpa using DG,rfl⟩⟩,by simpa using iY,by simpa using lP,?_,?_,rfl⟩,?_⟩
  ·rw[<-nc kf fT i j c u hc hj];simpa using DF
  ·rw[<-nc kf fT i j c u hc hj,<-iL,Array.toList_setIfInBounds,k5,List.take_set]
  ·intro c2 gT;rcases vM gT with h|h
   ·exact fT c2 h
   ·rw[h];simpa using bm
  ·intro k c2 x2 h2 e1 e2 e3;by_cases hk:k=i
   ·subst hk;rw[List.getElem?_set_self (by omega)]at e1 e2 e3;cases e1;cases e2;cases e3;exact sX
   ·rw[List.getElem?_set_ne (by omega)]at e1 e2 e3;exact hR k c2 x2 h2 e1 e2 e3
  ·have h1:Holds w' ((g,.cells cur e fz)::((Hs.take i).flatten++(Hs.drop (i+1)).flatten++nC++Fr)):=by
    refine gK.sub ?_ ?_
    ·intro p hp;simp only[lZ,l6]at hp⊢;rcases hp with h|(((h|h)|h)|h)<;>simp[h]
    ·intro b;simp only[bH,bU];omega
   refine(h1.ej (i*size+j) u).sub ?_ ?_
   ·intro p hp;rw[dh Hs i nC (by omega)]at hp;simp only[lZ,l6,rL,or_false]at hp⊢;rcases hp with(h|h|h|h)|h<;>simp[h]
   ·intro b;rw[dh Hs i nC (by omega)];simp only[bH,bU,sH];omega
theorem eK.val(h:eK R e size v xs H):∃A c,v=.slice A xs.length c∧xs.length<=c∧c<=maxLen:=by
 obtain⟨kf,H0,Hs,ay,_⟩:=h;rcases ay.2 with⟨rfl,h0,_⟩|⟨g,cap,cur,fz,rfl,hn,hc,_⟩
 ·exact⟨none,0,by rw[h0],by omega,by simp[maxLen]⟩
 ·exact⟨_,_,rfl,hn,hc⟩
theorem eK.parts(h:eK R e size v xs H)(hH:Holds w (H++Fr)):∃(cells:List Value) (H0 H1:HL),au e size v xs.length cells H0∧Holds w (H0++(H1++Fr))∧
   (∀w' v' W5 c x Hx,c.length=size->R c x Hx->au e size v' (xs.length+1) (cells++c) W5->Holds w' (W5++(H1++(Hx++Fr)))->∃H',eK R e size v' (xs++[x]) H'∧Holds w' (H'++Fr)):=by
 obtain⟨kf,H0,Hs,ay,iY,lP,fT,hR,rfl⟩:=h;refine⟨kf.flatten,H0,Hs.flatten,ay,hH.assoc,?_⟩;intro w' v' W5 c x Hx bm hRx UD gK;refine⟨_,⟨kf++[c],W5,Hs++[Hx],by simpa using UD,by simp[iY],by simp[lP],?_,?_,rfl⟩,?_⟩
 ·intro c2 h2;rcases List.mem_append.1 h2 with h|h
  ·exact fT c2 h
  ·rw[List.mem_singleton.1 h];exact bm
 ·intro i c2 x2 h2 e1 e2 e3;by_cases hi:i<xs.length
  ·rw[y9 (by omega)]at e1 e2 e3;exact hR i c2 x2 h2 e1 e2 e3
  ·rw[y8 (by omega)]at e1 e2 e3;have hk:i-xs.length=0:=by
    rcases nG (i-xs.length)with h|h
    ·exact h
    ·rw[List.getElem?_eq_none (by simp;omega)]at e2;cases e2
   rw[iY,hk]at e1;rw[hk]at e2;rw[lP,hk]at e3;simp only[iK,Option.some.injEq]at e1 e2 e3;subst e1;subst e2;subst e3;exact hRx
 ·simpa[cE]using gK
end
section
variable{P:Program}{w:World}{e:TypeId}{size bytes n:Nat}{z v:Value}{xs:List Value}{H Fr:HL}{t:TypeId}
theorem Holds.bP(h:Holds w H)(o:Obj):Holds (w.alloc o) H:=Holds.right (A:=[(w.heap.size,o)]) (h.alloc o)
theorem ag.one{x:Value}:ag (w.alloc (.cells #[x] e)) 1 (.slice (some ⟨w.heap.size,0,none⟩) 1 1) 1 [x]:=
 ag.ft (heap_alloc_new w _) [x] rfl (aN _) (by simp[maxLen]) (fun j u hu=>by simpa using hu)
theorem ag.many{cs:Array Value}(hs:cs.size=n*size)(hn:n<=maxLen):ag (w.alloc (.cells cs e)) size (.slice (some ⟨w.heap.size,0,none⟩) n n) n cs.toList:=
 ag.ft (heap_alloc_new w _) cs.toList (by simpa using hs) (aN _) hn (fun j u hu=>by simpa using hu)
theorem al{ops:Array Oper}{rest:List Oper}{o:Oper}{a:Act}{Q:Exit->Act->World->Prop}(hT:rP P t e size bytes z)(nj:o.guard=none)(s x:Operand)
  (ho:o.op=.call {callee:=.builtin .append,args:=#[s,x],argTypes:=#[t,t]})
  (hs:a.eval s=v){u:Value}(hx:a.eval x=u)(ay:au e size v n xs H)(hH:Holds w (H++Fr)){m:Nat}{news:List Value}(nP:ag w size u m news)(h1:∀x∈news,x.oneCell'=true)
  (Di:n+m<=maxLen)(pQ:(n+m)*bytes<=140737488355328)
  (h:∀A' c' w' H',au e size (.slice A' (n+m) c') (n+m) (xs++news) H'->Holds w' (H'++Fr)->af w w'->wpList P ops Q rest (a.put o.dst (.slice A' (n+m) c')) w'):wpList P ops Q (o::rest) a w:=by
 obtain⟨i,hi,hz,fT,xr⟩:=hT.info;exact xo nj s x t ho i z bytes hT.under hi hz fT xr hT.cells hT.pos hs hx ay hH nP h1 Di pQ h
theorem bf{ops:Array Oper}{o:Oper}{a:Act}{K:Act->World->Prop}{Q:Exit->Act->World->Prop}{E:Prop}(hT:rP P t e size bytes z)(nj:o.guard=none)(s x:Operand)
  (ho:o.op=.call {callee:=.builtin .append,args:=#[s,x],argTypes:=#[t,t]})
  (hs:a.eval s=v){u:Value}(hx:a.eval x=u)(ay:au e size v n xs H)(hH:Holds w (H++Fr)){m:Nat}{news:List Value}(nP:ag w size u m news)(h1:∀x∈news,x.oneCell'=true)
  (Di:n+m<=maxLen)(pQ:(n+m)*bytes<=140737488355328)
  (h:∀A' c' w' H',au e size (.slice A' (n+m) c') (n+m) (xs++news) H'->Holds w' (H'++Fr)->af w w'->K (a.put o.dst (.slice A' (n+m) c')) w'):
  if Region.wanted o (yielded ops a.tmps)=true then Oper.wp P o a w K Q else E:=by
 obtain⟨i,hi,hz,fT,xr⟩:=hT.info;exact Aa nj s x t ho i z bytes hT.under hi hz fT xr hT.cells hT.pos hs hx ay hH nP h1 Di pQ h
theorem ag.alloc{u:Value}{m:Nat}{news:List Value}(h:ag w size u m news)(o:Obj):ag (w.alloc o) size u m news:=
 h.keep fun p x hx=>by rw[World.cell?_alloc_lt w o p (World.block_lt_of_cell? w p hx)];exact hx
end
theorem ee:rP Tryz.prog 60 5 1 1 (.int .u8 0):=rP.mk' (by kernel_rfl) (by kernel_rfl) (by rfl) (by decide)
theorem ud:rP Tryz.prog 80 3 1 8 (.int .i64 0):=rP.mk' (by kernel_rfl) (by kernel_rfl) (by rfl) (by decide)
theorem adk:rP Tryz.prog 258 4 1 1 (.bool false):=rP.mk' (by kernel_rfl) (by kernel_rfl) (by rfl) (by decide)
def bh(x:UInt8):Value:=.int .u8 (x.toNat:Int)
def aJ(w:World)(v:Value)(bs:List UInt8):Prop:=ag w 1 v bs.length (bs.map bh)
def ar(v:Value)(bs:List UInt8)(H:HL):Prop:=au 5 1 v bs.length (bs.map bh) H
section
variable{P:Program}
theorem Qw{t e:TypeId}{size bytes:Nat}{z:Value}(hT:rP P t e size bytes z)(kl kc:IntKind)(l c:Int)(h0:0<=l)(W6:l<=c)(hc:c*bytes<=281474976710656)(Di:c<=9223372036854775807)(w:World):
  (Instr.makeSlice t (.int kl l) (.int kc c)).run P w=.ok (.slice (some ⟨w.heap.size,0,none⟩) l.toNat c.toNat) (w.alloc (.cells (madeCells z.cells (c.toNat*size)) e)):=by
 obtain⟨i,hi,hz,hs,hb⟩:=hT.info;subst hs;subst hb;exact run_make w t e i z hT.under hi hz kl kc l c h0 W6 (by rw[Int.mul_comm];exact hc) Di
theorem qt{t e:TypeId}{size bytes:Nat}{z:Value}(hT:rP P t e size bytes z)(l c:Nat)(W6:l<=c)(hc:c*bytes<=281474976710656)(Di:c<=maxLen)(w:World):
  (Instr.makeSlice t (.int .i64 (l:Int)) (.int .i64 (c:Int))).run P w=.ok (.slice (some ⟨w.heap.size,0,none⟩) l c) (w.alloc (.cells (madeCells z.cells (c*size)) e)):=by
 have:=Qw hT .i64 .i64 l c (by omega) (by omega) (by have h:=Int.ofNat_le.2 hc;rw[Int.natCast_mul]at h;exact h) (by simp only[maxLen]at Di;omega) w;simp only[Int.toNat_natCast]at this;exact this
theorem tt{z:Value}{n:Nat}:(madeCells z.cells n).size=n:=by simp[madeCells]
end
section
variable{w w':World}{v:Value}{bs:List UInt8}{H Fr:HL}
theorem ar.at_(h:ar v bs H)(hH:Holds w (H++Fr)):aJ w v bs:=au.reads h hH
theorem aJ.keep(h:aJ w v bs)(hk:∀p u,w.cell? p=some u->w'.cell? p=some u):aJ w' v bs:=ag.keep h hk
theorem ar.val(h:ar v bs H):∃A c,v=.slice A bs.length c:=au.val h
theorem aJ.val(h:aJ w v bs):∃A c,v=.slice A bs.length c:=by
 obtain⟨_,A,c,hv,_⟩:=h;exact⟨A,c,hv⟩
end
def bN(Fr:HL)(v:Value)(bs:List UInt8):Prop:=∀w,Holds w Fr->aJ w v bs
theorem ar.fr{v:Value}{bs:List UInt8}{H Fr:HL}(h:ar v bs H)(hm:∀p,p∈H->p∈Fr)(hc:∀b,mP b H<=mP b Fr):bN Fr v bs:=
 fun w hw=>h.at_ (Fr:=[]) (by simpa using hw.sub hm hc)
theorem bN.left{v:Value}{bs:List UInt8}{A B:HL}(h:bN A v bs):bN (A++B) v bs:=fun w hw=>h w hw.left
theorem bN.right{v:Value}{bs:List UInt8}{A B:HL}(h:bN B v bs):bN (A++B) v bs:=fun w hw=>h w hw.right
def zQ(w:World)(v:Value)(e:Ending)(w':World):Prop:=e=.returned v∧∃k,w'=w.drewN k
def cB(R:Value->HL->Prop)(w:World)(Fr:HL)(e:Ending)(w':World):Prop:=∃v H,e=.returned v∧R v H∧Holds w' (H++Fr)∧af w w'
def cM(v:Value)(w:World)(Fr:HL)(e:Ending)(w':World):Prop:=e=.returned v∧Holds w' Fr∧af w w'
def mu(R:HL->Prop)(v:Value)(w:World)(Fr:HL)(e:Ending)(w':World):Prop:=e=.returned v∧∃H,R H∧Holds w' (H++Fr)∧af w w'
theorem U7{P:Program}{f:FuncId}{args:Array Value}{w:World}{n:Nat}{v:Value}(h:Calls P f args (w.drewN n) (zQ (w.drewN n) v)):
  Calls P f args (w.drewN n) fun e Ws=>e=.returned v∧∃m,Ws=w.drewN m:=h.mono fun _ _ ⟨he,m,hm⟩=>⟨he,n+m,by rw[hm,World.drewN_drewN]⟩
theorem adl{P:Program}{f:FuncId}{args:Array Value}{w:World}{n:Nat}{v:Value}(h:Calls P f args (w.drewN n) fun e w'=>e=.returned v∧w.drewN n=w'):
  Calls P f args (w.drewN n) fun e Ws=>e=.returned v∧∃m,Ws=w.drewN m:=h.mono fun _ _ ⟨he,hm⟩=>⟨he,n,hm.symm⟩
theorem ue{b b':Bool}(h:b=b'):Ending.returned (.bool b)=.returned (.bool b'):=by rw[h]
theorem MA(w:World)(m n:Nat):(w.drewN m).drewN n=w.drewN (m+n):=World.drewN_drewN w m n
def Gu(c:List Value)(bs:List UInt8)(H:HL):Prop:=∃v,c=[v]∧ar v bs H
def iw(v:Value)(l:List (List UInt8))(H:HL):Prop:=eK Gu 60 1 v l H
def vS(w:World)(v:Value)(l:List (List UInt8)):Prop:=
 ∃Lx:List Value,ag w 1 v l.length Lx∧Lx.length=l.length∧∀(i:Nat) (e:Value) (x:List UInt8),Lx[i]?=some e->l[i]?=some x->aJ w e x
section
variable{w w':World}{v:Value}{l:List (List UInt8)}{H Fr:HL}
theorem iw.at_(h:iw v l H)(hH:Holds w (H++Fr)):vS w v l:=by
 obtain⟨kf,H0,Hs,ay,iY,lP,fT,hR,rfl⟩:=h;have gK:Holds w (H0++(Hs.flatten++Fr)):=hH.assoc;have h1:kf.flatten.length=kf.length:=by rw[kB kf fT];omega
 refine⟨kf.flatten,ay.reads gK,by omega,fun i e x he hx=>?_⟩;have hi:i<l.length:=(List.getElem?_eq_some_iff.1 hx).1;have hc:kf[i]?=some (kf[i]'(by omega)):=bF (by omega);have hh:Hs[i]?=some (Hs[i]'(by omega)):=bF (by omega);generalize kf[i]'(by omega)=c at hc;generalize Hs[i]'(by omega)=Hi at hh;obtain⟨ev,rfl,hb⟩:=hR i c x Hi hc hx hh;have h2:=dS kf fT i 0 _ hc (by omega);rw[jc,fD,he]at h2;simp only[iK,Option.some.injEq]at h2;subst h2;have iM:=fm Hs i Hi hh;rw[iM]at gK;have h3:Holds w (Hi++((Hs.drop (i+1)).flatten++Fr)):=by
  have:=gK.right;rw[cE,cE]at this;exact this.right
 exact hb.at_ h3
theorem iw.val(h:iw v l H):∃A c,v=.slice A l.length c∧l.length<=c∧c<=maxLen:=eK.val h
theorem iw.one{b:Nat}{e:Value}{x:List UInt8}{Hx:HL}(h:ar e x Hx):iw (.slice (some ⟨b,0,none⟩) 1 1) [x] ((b,.cells #[e] 60)::Hx):=by
 refine⟨[[e]],[(b,.cells #[e] 60)],[Hx],au.made (size:=1) (e:=60) b 1 #[e] (by rfl) (by simp[maxLen]),rfl,rfl,by simp,?_,by simp⟩;intro i c x' h' e1 e2 e3
 match i with
 |0=>
  simp only[iK,Option.some.injEq]at e1 e2 e3;subst e1 e2 e3;exact⟨_,rfl,h⟩
 |k+1=>simp at e1
theorem vS.keep(h:vS w v l)(hk:∀p u,w.cell? p=some u->w'.cell? p=some u):vS w' v l:=by
 obtain⟨Lx,h1,h2,h3⟩:=h;exact⟨Lx,h1.keep hk,h2,fun i e x he hx=>(h3 i e x he hx).keep hk⟩
theorem vS.drewN(h:vS w v l)(n:Nat):vS (w.drewN n) v l:=h
theorem vS.get{A:Option Addr}{n c:Nat}(h:vS w (.slice A n c) l){i:Nat}(hi:i<l.length):∃b o e,A=some ⟨b,o,none⟩∧w.cell? ⟨b,o+i,none⟩=some e∧aJ w e l[i]:=by
 obtain⟨Lx,⟨_,A',c',hv,_,_,h1⟩,h2,h3⟩:=h;injection hv with gM _ kS;subst gM;obtain⟨b,o,rfl,h4⟩:=h1 (by omega);have he:Lx[i]?=some (Lx[i]'(by omega)):=bF (by omega);exact⟨b,o,_,rfl,h4 i _ he,h3 i _ _ he (bF hi)⟩
theorem iw.am1{A:Option Addr}{n c:Nat}(h:iw (.slice A n c) l H)(h0:0<n):l.length=n∧∃g,A=some ⟨g,0,none⟩∧∀j,j<n->∃e x,l[j]?=some x∧∀(wx:World) (Fr:HL),Holds wx (H++Fr)->wx.cell? ⟨g,j,none⟩=some e∧aJ wx e x:=by
 obtain⟨kf,H0,Hs,ay,iY,lP,fT,hR,rfl⟩:=h;have h1:kf.flatten.length=kf.length:=by rw[kB kf fT];omega
 obtain⟨_,h2⟩:=ay;rcases h2 with⟨hv,_,_⟩|⟨g,cap,cur,fz,hv,hn,nO,mM,iL,DG,rfl⟩
 ·injection hv with _ mg _;omega
 ·injection hv with gM mg kS;subst gM;refine⟨mg.symm,g,rfl,fun j hj=>?_⟩;have hc:kf[j]?=some (kf[j]'(by omega)):=bF (by omega);have hh:Hs[j]?=some (Hs[j]'(by omega)):=bF (by omega);have hx:l[j]?=some (l[j]'(by omega)):=bF (by omega);generalize kf[j]'(by omega)=c at hc;generalize Hs[j]'(by omega)=Hi at hh;generalize l[j]'(by omega)=x at hx;obtain⟨ev,rfl,hb⟩:=hR j c x Hi hc hx hh;have h3:=dS kf fT j 0 _ hc (by omega);rw[jc,fD]at h3;refine⟨ev,x,hx,fun wx Fr hH=>⟨?_,?_⟩⟩
  ·rw[hH.cell (t:=60) (cs:=cur) (fz:=fz) (by simp)];rw[<-iL,lE,if_pos (by omega)]at h3;simpa using h3
  ·have iM:=fm Hs j Hi hh;rw[iM]at hH;have h4:Holds wx (Hi++((Hs.drop (j+1)).flatten++Fr)):=by
    have:=(hH.assoc).right;rw[cE,cE]at this;exact this.right
   exact hb.at_ h4
end
section
open Go Go.RowKit
theorem Holds.tail{w:World}{x:Nat×Obj}{H:HL}(h:Holds w (x::H)):Holds w H:=Holds.right (A:=[x]) h
theorem eK.sC{α:Type}{R:List Value->α->HL->Prop}{e:TypeId}{size:Nat}{v:Value}{xs:List α}{H:HL}(h:eK R e size v xs H){i:Nat}{x:α}(hx:xs[i]?=some x):
  ∃g cap c Hi Hr,v=.slice (some ⟨g,0,none⟩) xs.length cap∧xs.length<=cap∧cap<=maxLen∧i<xs.length∧c.length=size∧R c x Hi∧
   (∀(w:World) (F:HL),Holds w (Hr++F)->g<w.heap.size∧∀j,j<size->w.cell? ⟨g,i*size+j,none⟩=c[j]?∧w.frozen? ⟨g,i*size+j,none⟩=false)∧
   (∀(w:World) (F:HL),Holds w (H++F)->Holds w (Hi++(Hr++F)))∧
   (∀(w':World) (F:HL) x' nC,R c x' nC->Holds w' (nC++(Hr++F))->∃H',eK R e size v (xs.set i x') H'∧Holds w' (H'++F))∧
   (∀(w':World) (F:HL) j u x' nC,j<size->R (c.set j u) x' nC->Holds w' (nC++(Hr++F))->∃H',eK R e size v (xs.set i x') H'∧Holds (w'.setCell ⟨g,i*size+j,none⟩ u) (H'++F)):=by
 obtain⟨kf,H0,Hs,ay,iY,lP,fT,hR,rfl⟩:=h;have hi:i<xs.length:=(List.getElem?_eq_some_iff.1 hx).1;have hc:kf[i]?=some (kf[i]'(by omega)):=bF (by omega);have hh:Hs[i]?=some (Hs[i]'(by omega)):=bF (by omega);generalize DE:kf[i]'(by omega)=c at hc;generalize PD:Hs[i]'(by omega)=Hi at hh;have bm:c.length=size:=fT c (gD hc);obtain⟨DF,hv⟩:=ay;rcases hv with⟨rfl,h0,_⟩|⟨g,cap,cur,fz,rfl,hn,nO,mM,iL,DG,rfl⟩
 ·omega
 have iM:=fm Hs i Hi hh;have oR:∀j,j<size->i*size+j<xs.length*size:=by
  intro j hj;have:(i+1)*size<=xs.length*size:=kY _ hi;rw[nH]at this;omega
 have og:xs.length*size<=cap*size:=kY _ hn;have oh:∀j,j<size->cur[i*size+j]?=c[j]?:=by
  intro j hj;rw[<-dS kf fT i j c hc hj,<-iL,lE,if_pos (oR j hj)];simp
 refine⟨g,cap,c,Hi,(g,.cells cur e fz)::((Hs.take i).flatten++(Hs.drop (i+1)).flatten),rfl,hn,nO,hi,bm,hR i c x Hi hc hx hh,fun w F hH=>⟨?_,fun j hj=>⟨?_,?_⟩⟩,?_,?_,?_⟩
 ·exact hH.lt (p:=(g,.cells cur e fz)) (by simp)
 ·rw[hH.cell (t:=e) (cs:=cur) (fz:=fz) (by simp)];exact oh j hj
 ·exact eO (t:=e) (cs:=cur) (fz:=fz) (hH.get (by simp)) DG (by have:=oR j hj;omega)
 ·intro w F hH;refine hH.sub ?_ ?_
  ·intro p hp;rw[iM];simp only[lZ,l6]at hp⊢;rcases hp with h|(h|h|h)|h<;>simp[h]
  ·intro b;rw[iM];simp only[bH,bU];omega
 ·intro w' F x' nC sX gK;refine⟨_,⟨kf,[(g,.cells cur e fz)],Hs.set i nC,⟨by simpa using DF,.inr ⟨g,cap,cur,fz,by simp,by simpa using hn,nO,mM,by simpa using iL,DG,rfl⟩⟩,by simpa using iY,by simpa using lP,fT,?_,rfl⟩,?_⟩
  ·intro k c2 x2 h2 e1 e2 e3;by_cases hk:k=i
   ·subst hk;rw[hc]at e1;rw[List.getElem?_set_self (by omega)]at e2 e3;cases e1;cases e2;cases e3;exact sX
   ·rw[List.getElem?_set_ne (by omega)]at e2 e3;exact hR k c2 x2 h2 e1 e2 e3
  ·refine gK.sub ?_ ?_
   ·intro p hp;rw[dh Hs i nC (by omega)]at hp;simp only[lZ,l6,rL,or_false]at hp⊢;rcases hp with(h|h|h|h)|h<;>simp[h]
   ·intro b;rw[dh Hs i nC (by omega)];simp only[bH,bU,sH];omega
 ·intro w' F j u x' nC hj sX gK;have L5:=oR j hj;refine⟨_,⟨kf.set i (c.set j u),[(g,.cells (cur.setIfInBounds (i*size+j) u) e fz)],Hs.set i nC,⟨?_,.inr ⟨g,cap,cur.setIfInBounds (i*size+j) u,fz,by simp,by simpa using hn,nO,by simpa using mM,?_,by simpa using DG,rfl⟩⟩,by simpa using iY,by simpa using lP,?_,?_,rfl⟩,?_⟩
  ·rw[<-nc kf fT i j c u hc hj];simpa using DF
  ·rw[<-nc kf fT i j c u hc hj,<-iL,Array.toList_setIfInBounds,k5,List.take_set]
  ·intro c2 gT;rcases vM gT with h|h
   ·exact fT c2 h
   ·rw[h];simpa using bm
  ·intro k c2 x2 h2 e1 e2 e3;by_cases hk:k=i
   ·subst hk;rw[List.getElem?_set_self (by omega)]at e1 e2 e3;cases e1;cases e2;cases e3;exact sX
   ·rw[List.getElem?_set_ne (by omega)]at e1 e2 e3;exact hR k c2 x2 h2 e1 e2 e3
  ·have h1:Holds w' ((g,.cells cur e fz)::((Hs.take i).flatten++(Hs.drop (i+1)).flatten++nC++F)):=by
    refine gK.sub ?_ ?_
    ·intro p hp;simp only[lZ,l6]at hp⊢;rcases hp with h|(((h|h)|h)|h)<;>simp[h]
    ·intro b;simp only[bH,bU];omega
   refine(h1.ej (i*size+j) u).sub ?_ ?_
   ·intro p hp;rw[dh Hs i nC (by omega)]at hp;simp only[lZ,l6,rL,or_false]at hp⊢;rcases hp with(h|h|h|h)|h<;>simp[h]
   ·intro b;rw[dh Hs i nC (by omega)];simp only[bH,bU,sH];omega
theorem eK.Gv{α:Type}{R:List Value->α->HL->Prop}{e:TypeId}{size:Nat}{v:Value}{xs:List α}{H:HL}(h:eK R e size v xs H):∃(cells:List Value) (H0 H1:HL),H=H0++H1∧au e size v xs.length cells H0∧(∀y∈cells,∃c x Hx,R c x Hx∧y∈c)∧
   (∀v' W5 c x Hx,c.length=size->R c x Hx->au e size v' (xs.length+1) (cells++c) W5->eK R e size v' (xs++[x]) (W5++(H1++Hx))):=by
 obtain⟨kf,H0,Hs,ay,iY,lP,fT,hR,rfl⟩:=h;refine⟨kf.flatten,H0,Hs.flatten,rfl,ay,?_,?_⟩
 ·intro y hy;obtain⟨c,hc,Xa⟩:=List.mem_flatten.1 hy;obtain⟨i,hi,rfl⟩:=List.mem_iff_getElem.1 hc;exact⟨kf[i],xs[i]'(by omega),Hs[i]'(by omega),hR i _ _ _ (bF hi) (bF (by omega)) (bF (by omega)),Xa⟩
 ·intro v' W5 c x Hx bm hRx UD;refine⟨kf++[c],W5,Hs++[Hx],by simpa using UD,by simp[iY],by simp[lP],?_,?_,by simp⟩
  ·intro c2 h2;rcases List.mem_append.1 h2 with h|h
   ·exact fT c2 h
   ·rw[List.mem_singleton.1 h];exact bm
  ·intro i c2 x2 h2 e1 e2 e3;by_cases hi:i<xs.length
   ·rw[y9 (by omega)]at e1 e2 e3;exact hR i c2 x2 h2 e1 e2 e3
   ·rw[y8 (by omega)]at e1 e2 e3;have hk:i-xs.length=0:=by
     rcases nG (i-xs.length)with h|h
     ·exact h
     ·rw[List.getElem?_eq_none (by simp;omega)]at e2;cases e2
    rw[iY,hk]at e1;rw[hk]at e2;rw[lP,hk]at e3;simp only[iK,Option.some.injEq]at e1 e2 e3;subst e1;subst e2;subst e3;exact hRx
theorem iw.one_cell{cells:List Value}(h:∀y∈cells,∃c x Hx,Gu c x Hx∧y∈c):∀y∈cells,y.oneCell'=true:=by
 intro y hy;obtain⟨c,x,Hx,⟨v,rfl,hb⟩,Xa⟩:=h y hy;rw[List.mem_singleton.1 Xa];obtain⟨A,q,rfl⟩:=hb.val;rfl
section
variable{P:Program}{ops:Array Oper}{Q:Exit->Act->World->Prop}{md:Region.Mode}{S:World->Prop}{z:Nat}
theorem lJ(i:Nat)(d:Option Nat){oi:Oper}{v:Value}{fuel:Nat}{listed:Array Bool}{a:Act}{w:World}(hi:ops[i]?=some oi)(qT:oi.dst=d)(hB:kz md ops z listed i=true)
  (hQ:∀c a w,Q (.panic c) (a.put d v) w->Q (.panic c) a w)(hw:Region.wanted oi (yielded ops a.tmps)=true)(hS:S w)(hy:∀wx,S wx->(execOp a.eval oi).run P wx=.ok (.value v) wx)
  (h:cy P md ops Q S z fuel (listed.setIfInBounds i true) (a.put d v) w):cy P md ops Q S z (fuel+1) listed a w:=by
 subst qT;exact adf i hi hB hQ hw hS hy h
theorem sA{α:Type}(l:List α)(i:Nat)(a:α):l.toArray.setIfInBounds i a=(l.set i a).toArray:=by simp
theorem sS{α:Type}(x:α)(l:List α)(n:Nat)(a:α):(x::l).set (n+1) a=x::l.set n a:=rfl
theorem sZ{α:Type}(x:α)(l:List α)(a:α):(x::l).set 0 a=a::l:=rfl
theorem pt(a:Act)(d:Tmp)(v:Value):a.put (some d) v={a with tmps:=a.tmps.setIfInBounds d v}:=rfl
theorem Zt(i d:Nat)(v:Value){oi:Oper}{fuel:Nat}{listed:Array Bool}{a:Act}{w:World}(hi:ops[i]?=some oi)(hS:S w)(hy:∀wx,S wx->(execOp a.eval oi).run P wx=.ok (.value v) wx)
  (h:cy P md ops Q S z fuel (listed.setIfInBounds i true) (a.put (some d) v) w)(qT:oi.dst=some d:=by rfl)(hB:kz md ops z listed i=true:=by kernel_rfl)
  (hQ:∀c a w,Q (.panic c) (a.put (some d) v) w->Q (.panic c) a w:=by exact fun _ _ _ h=>h)(hw:Region.wanted oi (yielded ops a.tmps)=true:=by rfl):cy P md ops Q S z (fuel+1) listed a w:=
 lJ i (some d) hi qT hB hQ hw hS hy h
theorem ji(i:Nat){d:Nat}{v0:Value}{o0:Oper}{fuel:Nat}{listed:Array Bool}{a:Act}{w:World}{B:Prop}(h:B)(hS:S w:=by assumption)
  (tI:ops[i]?=some o0:=by rfl)(hy0:∀wx,S wx->(execOp (a).eval o0).run P wx=.ok (.value v0) wx:=by intro _ _;go_simp;try with_reducible rfl)(Li:o0.dst=some d:=by rfl)(hB0:kz md ops z (listed) i=true:=by kernel_rfl)
  (hQ0:∀c a w,Q (.panic c) (a.put (some d) v0) w->Q (.panic c) a w:=by exact fun _ _ _ h=>h)(Il:Region.wanted o0 (yielded ops (a).tmps)=true:=by rfl)
  (hn:B->cy P md ops Q S z fuel (listed.setIfInBounds i true) (a.put (some d) v0) w:=by intro h;simp only[pt,sA,sS,sZ];exact h):cy P md ops Q S z (fuel+1) listed a w:=
 lJ i (some d) tI Li hB0 hQ0 Il hS hy0 (hn h)
theorem qL(i j:Nat){d e:Nat}{v0 v1:Value}{o0 o1:Oper}{fuel:Nat}{listed:Array Bool}{a:Act}{w:World}{B:Prop}(h:B)(hS:S w:=by assumption)
  (tI:ops[i]?=some o0:=by rfl)(hy0:∀wx,S wx->(execOp (a).eval o0).run P wx=.ok (.value v0) wx:=by intro _ _;go_simp;try with_reducible rfl)(Li:o0.dst=some d:=by rfl)(hB0:kz md ops z (listed) i=true:=by kernel_rfl)
  (hQ0:∀c a w,Q (.panic c) (a.put (some d) v0) w->Q (.panic c) a w:=by exact fun _ _ _ h=>h)(Il:Region.wanted o0 (yielded ops (a).tmps)=true:=by rfl)
  (xC:ops[j]?=some o1:=by rfl)(hy1:∀wx,S wx->(execOp (a.put (some d) v0).eval o1).run P wx=.ok (.value v1) wx:=by intro _ _;go_simp;try with_reducible rfl)(Zc:o1.dst=some e:=by rfl)(Im:kz md ops z (listed.setIfInBounds i true) j=true:=by kernel_rfl)
  (hQ1:∀c a w,Q (.panic c) (a.put (some e) v1) w->Q (.panic c) a w:=by exact fun _ _ _ h=>h)(u7:Region.wanted o1 (yielded ops (a.put (some d) v0).tmps)=true:=by rfl)
  (hn:B->cy P md ops Q S z fuel ((listed.setIfInBounds i true).setIfInBounds j true) ((a.put (some d) v0).put (some e) v1) w:=by intro h;simp only[pt,sA,sS,sZ];exact h):cy P md ops Q S z (fuel+2) listed a w:=
 lJ i (some d) tI Li hB0 hQ0 Il hS hy0 (lJ j (some e) xC Zc Im hQ1 u7 hS hy1 (hn h))
theorem Ag(i j k:Nat){d e f:Nat}{v0 v1 v2:Value}{o0 o1 o2:Oper}{fuel:Nat}{listed:Array Bool}{a:Act}{w:World}{B:Prop}(h:B)(hS:S w:=by assumption)
  (tI:ops[i]?=some o0:=by rfl)(hy0:∀wx,S wx->(execOp (a).eval o0).run P wx=.ok (.value v0) wx:=by intro _ _;go_simp;try with_reducible rfl)(Li:o0.dst=some d:=by rfl)(hB0:kz md ops z (listed) i=true:=by kernel_rfl)
  (hQ0:∀c a w,Q (.panic c) (a.put (some d) v0) w->Q (.panic c) a w:=by exact fun _ _ _ h=>h)(Il:Region.wanted o0 (yielded ops (a).tmps)=true:=by rfl)
  (xC:ops[j]?=some o1:=by rfl)(hy1:∀wx,S wx->(execOp (a.put (some d) v0).eval o1).run P wx=.ok (.value v1) wx:=by intro _ _;go_simp;try with_reducible rfl)(Zc:o1.dst=some e:=by rfl)(Im:kz md ops z (listed.setIfInBounds i true) j=true:=by kernel_rfl)
  (hQ1:∀c a w,Q (.panic c) (a.put (some e) v1) w->Q (.panic c) a w:=by exact fun _ _ _ h=>h)(u7:Region.wanted o1 (yielded ops (a.put (some d) v0).tmps)=true:=by rfl)
  (tJ:ops[k]?=some o2:=by rfl)(hy2:∀wx,S wx->(execOp ((a.put (some d) v0).put (some e) v1).eval o2).run P wx=.ok (.value v2) wx:=by intro _ _;go_simp;try with_reducible rfl)(Io:o2.dst=some f:=by rfl)(Dj:kz md ops z ((listed.setIfInBounds i true).setIfInBounds j true) k=true:=by kernel_rfl)
  (Xb:∀c a w,Q (.panic c) (a.put (some f) v2) w->Q (.panic c) a w:=by exact fun _ _ _ h=>h)(PE:Region.wanted o2 (yielded ops ((a.put (some d) v0).put (some e) v1).tmps)=true:=by rfl)
  (hn:B->cy P md ops Q S z fuel (((listed.setIfInBounds i true).setIfInBounds j true).setIfInBounds k true) (((a.put (some d) v0).put (some e) v1).put (some f) v2) w:=by intro h;simp only[pt,sA,sS,sZ];exact h):cy P md ops Q S z (fuel+3) listed a w:=
 lJ i (some d) tI Li hB0 hQ0 Il hS hy0 (lJ j (some e) xC Zc Im hQ1 u7 hS hy1 (lJ k (some f) tJ Io Dj Xb PE hS hy2 (hn h)))
theorem dY(i j k l:Nat){d e f g:Nat}{v0 v1 v2 v3:Value}{o0 o1 o2 o3:Oper}{fuel:Nat}{listed:Array Bool}{a:Act}{w:World}{B:Prop}(h:B)(hS:S w:=by assumption)
  (tI:ops[i]?=some o0:=by rfl)(hy0:∀wx,S wx->(execOp (a).eval o0).run P wx=.ok (.value v0) wx:=by intro _ _;go_simp;try with_reducible rfl)(Li:o0.dst=some d:=by rfl)(hB0:kz md ops z (listed) i=true:=by kernel_rfl)
  (hQ0:∀c a w,Q (.panic c) (a.put (some d) v0) w->Q (.panic c) a w:=by exact fun _ _ _ h=>h)(Il:Region.wanted o0 (yielded ops (a).tmps)=true:=by rfl)
  (xC:ops[j]?=some o1:=by rfl)(hy1:∀wx,S wx->(execOp (a.put (some d) v0).eval o1).run P wx=.ok (.value v1) wx:=by intro _ _;go_simp;try with_reducible rfl)(Zc:o1.dst=some e:=by rfl)(Im:kz md ops z (listed.setIfInBounds i true) j=true:=by kernel_rfl)
  (hQ1:∀c a w,Q (.panic c) (a.put (some e) v1) w->Q (.panic c) a w:=by exact fun _ _ _ h=>h)(u7:Region.wanted o1 (yielded ops (a.put (some d) v0).tmps)=true:=by rfl)
  (tJ:ops[k]?=some o2:=by rfl)(hy2:∀wx,S wx->(execOp ((a.put (some d) v0).put (some e) v1).eval o2).run P wx=.ok (.value v2) wx:=by intro _ _;go_simp;try with_reducible rfl)(Io:o2.dst=some f:=by rfl)(Dj:kz md ops z ((listed.setIfInBounds i true).setIfInBounds j true) k=true:=by kernel_rfl)
  (Xb:∀c a w,Q (.panic c) (a.put (some f) v2) w->Q (.panic c) a w:=by exact fun _ _ _ h=>h)(PE:Region.wanted o2 (yielded ops ((a.put (some d) v0).put (some e) v1).tmps)=true:=by rfl)
  (hi3:ops[l]?=some o3:=by rfl)(hy3:∀wx,S wx->(execOp (((a.put (some d) v0).put (some e) v1).put (some f) v2).eval o3).run P wx=.ok (.value v3) wx:=by intro _ _;go_simp;try with_reducible rfl)(hd3:o3.dst=some g:=by rfl)(hB3:kz md ops z (((listed.setIfInBounds i true).setIfInBounds j true).setIfInBounds k true) l=true:=by kernel_rfl)
  (Sr:∀c a w,Q (.panic c) (a.put (some g) v3) w->Q (.panic c) a w:=by exact fun _ _ _ h=>h)(hw3:Region.wanted o3 (yielded ops (((a.put (some d) v0).put (some e) v1).put (some f) v2).tmps)=true:=by rfl)
  (hn:B->cy P md ops Q S z fuel ((((listed.setIfInBounds i true).setIfInBounds j true).setIfInBounds k true).setIfInBounds l true) ((((a.put (some d) v0).put (some e) v1).put (some f) v2).put (some g) v3) w:=by intro h;simp only[pt,sA,sS,sZ];exact h):cy P md ops Q S z (fuel+4) listed a w:=
 lJ i (some d) tI Li hB0 hQ0 Il hS hy0 (lJ j (some e) xC Zc Im hQ1 u7 hS hy1 (lJ k (some f) tJ Io Dj Xb PE hS hy2 (lJ l (some g) hi3 hd3 hB3 Sr hw3 hS hy3 (hn h))))
theorem Zm(i:Nat){o:Oper}{fuel:Nat}{listed:Array Bool}{a:Act}{w:World}
  (h:∀K:Act->World->Prop,(∀a' w',S w'->(S w'->cy P md ops Q S z fuel (listed.setIfInBounds i true) a' w')->K a' w')->if Region.wanted o (yielded ops a.tmps)=true then Oper.wp P o a w K Q else K (a.put o.dst undef) w)
  (ho:ops[i]?=some o:=by rfl)(hr:Region.ready md ops listed=[i]:=by kernel_rfl):cy P md ops Q S z (fuel+1) listed a w:=qh i ho hr h
theorem Zl(i:Nat){o:Oper}{fuel:Nat}{listed:Array Bool}{a:Act}{w:World}
  (h:∀K:Act->World->Prop,(∀a' w',cy P md ops Q S z fuel (listed.setIfInBounds i true) a' w'->K a' w')->if Region.wanted o (yielded ops a.tmps)=true then Oper.wp P o a w K Q else K (a.put o.dst undef) w)
  (ho:ops[i]?=some o:=by rfl)(hr:Region.ready md ops listed=[i]:=by kernel_rfl)(hz:i=z:=by rfl):cy P md ops Q S z (fuel+1) listed a w:=adh i ho hr hz h
theorem Ze{fuel:Nat}{listed:Array Bool}{a:Act}{w:World}(h:Q .normal a w)(hr:Region.ready md ops listed=[]:=by kernel_rfl):cy P md ops Q S z fuel listed a w:=adi hr h fuel
theorem Ew(i j:Nat){oi oj:Oper}{fuel:Nat}{listed:Array Bool}{a:Act}{w:World}(hi:ops[i]?=some oi)(hj:ops[j]?=some oj)(hr:Region.ready md ops listed=[i,j])
  (h1:∀K:Act->World->Prop,(∀a' w',S w'->(S w'->cy P md ops Q S z fuel (listed.setIfInBounds i true) a' w')->K a' w')->if Region.wanted oi (yielded ops a.tmps)=true then Oper.wp P oi a w K Q else K (a.put oi.dst undef) w)
  (h2:∀K:Act->World->Prop,(∀a' w',S w'->(S w'->cy P md ops Q S z fuel (listed.setIfInBounds j true) a' w')->K a' w')->if Region.wanted oj (yielded ops a.tmps)=true then Oper.wp P oj a w K Q else K (a.put oj.dst undef) w):
  cy P md ops Q S z (fuel+1) listed a w:=by
 refine⟨fun h0=>(by rw[hr]at h0;cases h0),fun k hk=>?_⟩;rw[hr]at hk;rcases List.mem_cons.1 hk with rfl|hk
 ·exact wpOp_step hi fun K' PB=>h1 K' fun a' w' h1 h2=>PB a' w' ⟨fun _=>h1,h2 h1⟩
 ·obtain rfl:=List.mem_singleton.1 hk;exact wpOp_step hj fun K' PB=>h2 K' fun a' w' h1 h2=>PB a' w' ⟨fun _=>h1,h2 h1⟩
end
end
section
open Go
section
variable{P:Program}{ops:Array Oper}{Q:Exit->Act->World->Prop}{md:Region.Mode}{S:World->Prop}{z:Nat}
def eQ(P:Program)(md:Region.Mode)(ops:Array Oper)(Q:Exit->Act->World->Prop)(S:World->Prop)(z:Nat):Nat->Array Bool->Act->World->Prop
 |0,listed,a,w=>Region.ready md ops listed=[]∧Q .normal a w
 |fuel+1,listed,a,w=>
  (Region.ready md ops listed=[]->Q .normal a w)∧
  ∀i∈Region.ready md ops listed,wpOp P ops Q i (fun a' w'=>((listed.setIfInBounds i true).getD z false=false->S w')∧eQ P md ops Q S z fuel (listed.setIfInBounds i true) a' w') a w
theorem Cx:∀(fuel:Nat) (listed:Array Bool) (a:Act) (w:World),eQ P md ops Q S z fuel listed a w->wpAny P md ops Q fuel listed a w
 |0,_,_,_,h=>h
 |fuel+1,_,_,_,h=>⟨h.1,fun i hi=>wpOp_mono (fun a' w' h'=>Cx fuel _ a' w' h'.2) (h.2 i hi)⟩
theorem wV{l:Array Bool}{i j:Nat}(h:i≠j):(l.setIfInBounds i true).getD j false=l.getD j false:=by
 simp[Array.getD_eq_getD_getElem?,Array.getElem?_setIfInBounds,h]
theorem getD_set_true{l:Array Bool}{i j:Nat}(h:(l.setIfInBounds i true).getD j false=false):l.getD j false=false:=by
 by_cases rF:i=j
 ·subst rF;by_cases hs:i<l.size
  ·simp[Array.getD,hs]at h
  ·simp[Array.getD,hs]
 ·rwa[wV rF]at h
theorem Qx{A:Array Bool}{x:Bool}{j:Nat}:(A.push x).getD j false=if j=A.size then x else A.getD j false:=by
 rw[Array.getD_eq_getD_getElem?,Array.getD_eq_getD_getElem?,Array.getElem?_push];split<;>rfl
theorem wW{i:Nat}{oi:Oper}{v:Value}(S2:World->Prop)(hi:ops[i]?=some oi)(TO:∀(j:Nat) (o:Oper) cs b,ops[j]?=some o->o.op≠.select cs b)
  (hQ:∀c a w,Q (.panic c) (a.put oi.dst v) w->Q (.panic c) a w)(hiz:i≠z)
  (Ly:∀(listed:Array Bool) (w:World),HeadInv md ops ops.size listed->listed.getD i false=false->(listed.getD z false=false->S w)->S2 w):
  ∀(fuel:Nat) (listed:Array Bool) (a:Act) (w:World),HeadInv md ops ops.size listed->
   (∀j oj,ops[j]?=some oj->j≠i->listed.getD j true=false->(∀e∈oj.after,Region.binds md e=true->e.on≠i)->oi.apart ops oj=true)->
   i∈Region.ready md ops listed->kF P ops S2 oi v a->(listed.getD z false=false->S w)->
   eQ P md ops Q S z fuel (listed.setIfInBounds i true) (a.put oi.dst v) w->eQ P md ops Q S z (fuel+1) listed a w:=by
 intro fuel
 induction fuel with
 |zero=>
  intro listed a w inv _ hr hy hS H;have Ik:listed.getD i false=false:=getD_both (mem_ready.1 hr).1;refine⟨fun h=>(by rw[h]at hr;cases hr),fun j hj=>?_⟩;by_cases Ad:j=i
  ·subst Ad;exact hy.wpOp hi (Ly listed w inv Ik hS) ⟨fun h=>hS (getD_set_true h),H⟩
  ·have:=ready_mono hj Ad;rw[H.1]at this;cases this
 |succ fuel ih=>
  intro listed a w inv rM hr hy hS H;have Ik:listed.getD i false=false:=getD_both (mem_ready.1 hr).1;refine⟨fun h=>(by rw[h]at hr;cases hr),fun j hj=>?_⟩;by_cases Ad:j=i
  ·subst Ad;exact hy.wpOp hi (Ly listed w inv Ik hS) ⟨fun h=>hS (getD_set_true h),H⟩
  ·have h1:=H.2 j (ready_mono hj Ad);obtain⟨TP,oj,Zb,eB⟩:=mem_ready.1 hj;have Wt:=(Array.getElem?_eq_some_iff.1 Zb).1;have P4:∀e∈oj.after,Region.binds md e=true->e.on≠i:=fun e he hb heq=>by
    have h1:=eB e he hb;rw[heq,getD_both (mem_ready.1 hr).1]at h1;cases h1
   have h2:=Cv Zb (rM j oj Zb Ad TP P4) (fun cs b=>TO i oi cs b hi) (fun cs b=>TO j oj cs b Zb) hQ hy h1;have My:∀k ok,ops[k]?=some ok->k≠i->(listed.setIfInBounds j true).getD k true=false->
     (∀e∈ok.after,Region.binds md e=true->e.on≠i)->oi.apart ops ok=true:=fun k ok hk hki Ik lX=>by
    refine rM k ok hk hki ?_ lX;by_cases qE:j=k
    ·subst qE;exact TP
    ·rw[getD_set_ne true qE]at Ik;exact Ik
   have hz:∀w',(((listed.setIfInBounds i true).setIfInBounds j true).getD z false=false->S w')->((listed.setIfInBounds j true).getD z false=false->S w'):=by
    intro w' h h0;refine h ?_;rw[Array.setIfInBounds_comm _ _ (Ne.symm Ad),wV hiz];exact h0
   refine wpOp_mono (fun a' w' h3=>⟨hz w' h3.2.1,ih (listed.setIfInBounds j true) a' w' (inv.set hj (by omega)) My (ready_mono hr (Ne.symm Ad)) h3.1 (hz w' h3.2.1) ?_⟩) h2;rw[Array.setIfInBounds_comm _ _ Ad];exact h3.2.2
def vT(md:Region.Mode)(ops:Array Oper)(i:Nat):Nat->Array Bool
 |0=>#[]
 |n+1=>(vT md ops i n).push (n==i||match ops[n]? with
  |some o=>o.after.any fun e=>Region.binds md e&&(vT md ops i n).getD e.on false
  |none=>false)
theorem Cy(md:Region.Mode)(ops:Array Oper)(i:Nat):∀n,(vT md ops i n).size=n
 |0=>rfl
 |n+1=>by rw[vT,Array.size_push,Cy md ops i n]
theorem uN{i:Nat}{listed:Array Bool}(inv:HeadInv md ops ops.size listed)(Ik:listed.getD i false=false):∀n j,(vT md ops i n).getD j false=true->listed.getD j false=false
 |0,j,h=>by simp[vT,Array.getD]at h
 |n+1,j,h=>by
  have fT:=Cy md ops i n;rw[vT,Qx,fT]at h;by_cases hjn:j=n
  ·subst hjn;rw[if_pos rfl]at h;have h2:=h;rcases Bool.or_eq_true _ _|>.mp h2 with h3|h3
   ·rw[beq_iff_eq]at h3;rw[h3];exact Ik
   ·cases ho:ops[j]? with
    |none=>rw[ho]at h3;cases h3
    |some o=>
     rw[ho]at h3;simp only[Array.any_eq_true']at h3;obtain⟨e,he,h4⟩:=h3;obtain⟨h5,h6⟩:=fW _ _|>.mp h4;have h7:=uN inv Ik j e.on h6;cases hl:listed.getD j false with
     |false=>rfl
     |true=>
      have:=inv.closed j o ho hl e he h5;rw[h7]at this;cases this
  ·rw[if_neg hjn]at h;exact uN inv Ik n j h
def uH(md:Region.Mode)(ops:Array Oper)(z:Nat)(listed:Array Bool)(i:Nat):Bool:=
 Region.noSelect ops&&Region.free md ops listed i&&(Region.ready md ops listed).contains i&&(i !=z)&&AD md ops ops.size listed
theorem Yy(i:Nat)(d:Option Nat){oi:Oper}{v:Value}{fuel:Nat}{listed:Array Bool}{a:Act}{w:World}(hi:ops[i]?=some oi)(qT:oi.dst=d)(hB:(uH md ops z listed i&&(vT md ops i (z+1)).getD z false)=true)
  (hQ:∀c a w,Q (.panic c) (a.put d v) w->Q (.panic c) a w)(hw:Region.wanted oi (yielded ops a.tmps)=true)(hS:S w)(hy:∀wx,S wx->(execOp a.eval oi).run P wx=.ok (.value v) wx)
  (h:eQ P md ops Q S z fuel (listed.setIfInBounds i true) (a.put d v) w):eQ P md ops Q S z (fuel+1) listed a w:=by
 subst qT;unfold uH at hB;simp only[fW,bne_iff_ne]at hB;obtain⟨⟨⟨⟨⟨h1,h2⟩,h3⟩,h4⟩,h5⟩,h6⟩:=hB;exact wW S hi (Region.noSelect_spec h1) hQ h4 (fun l w2 inv Ik hs=>hs (uN inv Ik _ _ h6)) fuel listed a w (rC h5) (Region.free_spec hi h2) (by simpa using h3) (.inl ⟨hw,fun wx hx=>by rw[hy wx hx];exact⟨rfl,rfl⟩⟩) (fun _=>hS) h
theorem O3(i:Nat)(d:Option Nat){oi:Oper}{v:Value}{fuel:Nat}{listed:Array Bool}{a:Act}{w:World}(hi:ops[i]?=some oi)(qT:oi.dst=d)(hB:uH md ops z listed i=true)
  (hQ:∀c a w,Q (.panic c) (a.put d v) w->Q (.panic c) a w)(hw:Region.wanted oi (yielded ops a.tmps)=true)(hS:S w)(hy:∀wx,(execOp a.eval oi).run P wx=.ok (.value v) wx)
  (h:eQ P md ops Q S z fuel (listed.setIfInBounds i true) (a.put d v) w):eQ P md ops Q S z (fuel+1) listed a w:=by
 subst qT;unfold uH at hB;simp only[fW,bne_iff_ne]at hB;obtain⟨⟨⟨⟨h1,h2⟩,h3⟩,h4⟩,h5⟩:=hB;exact wW (fun _=>True) hi (Region.noSelect_spec h1) hQ h4 (fun _ _ _ _ _=>trivial) fuel listed a w (rC h5) (Region.free_spec hi h2) (by simpa using h3) (.inl ⟨hw,fun wx _=>by rw[hy wx];exact⟨rfl,rfl⟩⟩) (fun _=>hS) h
theorem aiT(i:Nat){o:Oper}{fuel:Nat}{listed:Array Bool}{a:Act}{w:World}(ho:ops[i]?=some o)(hr:Region.ready md ops listed=[i])
  (h:∀K:Act->World->Prop,(∀a' w',S w'->(S w'->eQ P md ops Q S z fuel (listed.setIfInBounds i true) a' w')->K a' w')->if Region.wanted o (yielded ops a.tmps)=true then Oper.wp P o a w K Q else K (a.put o.dst undef) w):
  eQ P md ops Q S z (fuel+1) listed a w:=by
 refine⟨fun h0=>(by rw[hr]at h0;cases h0),fun j hj=>?_⟩;rw[hr]at hj;obtain rfl:=List.mem_singleton.1 hj;exact wpOp_step ho fun K' PB=>h K' fun a' w' h1 h2=>PB a' w' ⟨fun _=>h1,h2 h1⟩
theorem adm(i:Nat){o:Oper}{fuel:Nat}{listed:Array Bool}{a:Act}{w:World}(ho:ops[i]?=some o)(hr:Region.ready md ops listed=[i])(hz:(listed.setIfInBounds i true).getD z false=true)
  (h:∀K:Act->World->Prop,(∀a' w',eQ P md ops Q S z fuel (listed.setIfInBounds i true) a' w'->K a' w')->if Region.wanted o (yielded ops a.tmps)=true then Oper.wp P o a w K Q else K (a.put o.dst undef) w):
  eQ P md ops Q S z (fuel+1) listed a w:=by
 refine⟨fun h0=>(by rw[hr]at h0;cases h0),fun j hj=>?_⟩;rw[hr]at hj;obtain rfl:=List.mem_singleton.1 hj;exact wpOp_step ho fun K' PB=>h K' fun a' w' h2=>PB a' w' ⟨fun h=>(by rw[hz]at h;cases h),h2⟩
theorem UE(i j:Nat){oi oj:Oper}{fuel:Nat}{listed:Array Bool}{a:Act}{w:World}(hi:ops[i]?=some oi)(hj:ops[j]?=some oj)(hr:Region.ready md ops listed=[i,j])
  (h1:∀K:Act->World->Prop,(∀a' w',S w'->(S w'->eQ P md ops Q S z fuel (listed.setIfInBounds i true) a' w')->K a' w')->if Region.wanted oi (yielded ops a.tmps)=true then Oper.wp P oi a w K Q else K (a.put oi.dst undef) w)
  (h2:∀K:Act->World->Prop,(∀a' w',S w'->(S w'->eQ P md ops Q S z fuel (listed.setIfInBounds j true) a' w')->K a' w')->if Region.wanted oj (yielded ops a.tmps)=true then Oper.wp P oj a w K Q else K (a.put oj.dst undef) w):
  eQ P md ops Q S z (fuel+1) listed a w:=by
 refine⟨fun h0=>(by rw[hr]at h0;cases h0),fun k hk=>?_⟩;rw[hr]at hk;rcases List.mem_cons.1 hk with rfl|hk
 ·exact wpOp_step hi fun K' PB=>h1 K' fun a' w' h1 h2=>PB a' w' ⟨fun _=>h1,h2 h1⟩
 ·obtain rfl:=List.mem_singleton.1 hk;exact wpOp_step hj fun K' PB=>h2 K' fun a' w' h1 h2=>PB a' w' ⟨fun _=>h1,h2 h1⟩
theorem adn{listed:Array Bool}{a:Act}{w:World}(hr:Region.ready md ops listed=[])(h:Q .normal a w):∀fuel,eQ P md ops Q S z fuel listed a w
 |0=>⟨hr,h⟩
 |_+1=>⟨fun _=>h,by rw[hr];simp⟩
theorem nR{id:Nat}{a:Act}{w:World}(S:World->Prop)(z:Nat){l:List Oper}(hm:P.follows .mixedOrders=true)
  (hS:∀w1,(∃k,w1=w.drewN k)->S w1)(h:∀w1,(∃k,w1=w.drewN k)->S w1->eQ P .any l.toArray Q S z l.length (Array.replicate l.length false) a w1):(Code.region id l.toArray true).wp P Q a w:=
 wp_region_any hm (by have:=Cx _ _ _ _ (h w.drew ⟨1,rfl⟩ (hS _ ⟨1,rfl⟩));simpa using this)
theorem Yz(i:Nat)(d:Option Nat){oi:Oper}{fuel:Nat}{listed:Array Bool}{a:Act}{w:World}(hi:ops[i]?=some oi)(qT:oi.dst=d)(hB:kz md ops z listed i=true)
  (hQ:∀c a w,Q (.panic c) (a.put d undef) w->Q (.panic c) a w)(hw:Region.wanted oi (yielded ops a.tmps)=false)(hS:S w)
  (h:cy P md ops Q S z fuel (listed.setIfInBounds i true) (a.put d undef) w):cy P md ops Q S z (fuel+1) listed a w:=by
 subst qT;exact adg i hi hB hQ hw hS h
theorem Zs(i d:Nat){oi:Oper}{fuel:Nat}{listed:Array Bool}{a:Act}{w:World}(hi:ops[i]?=some oi)(hS:S w)
  (h:cy P md ops Q S z fuel (listed.setIfInBounds i true) (a.put (some d) undef) w)(qT:oi.dst=some d:=by rfl)(hB:kz md ops z listed i=true:=by kernel_rfl)
  (hQ:∀c a w,Q (.panic c) (a.put (some d) undef) w->Q (.panic c) a w:=by exact fun _ _ _ h=>h)(hw:Region.wanted oi (yielded ops a.tmps)=false:=by rfl):cy P md ops Q S z (fuel+1) listed a w:=
 Yz i (some d) hi qT hB hQ hw hS h
theorem Yt(i d:Nat)(v:Value){oi:Oper}{fuel:Nat}{listed:Array Bool}{a:Act}{w:World}(hi:ops[i]?=some oi)(hS:S w)(hy:∀wx,(execOp a.eval oi).run P wx=.ok (.value v) wx)
  (h:eQ P md ops Q S z fuel (listed.setIfInBounds i true) (a.put (some d) v) w)(qT:oi.dst=some d:=by rfl)(hB:uH md ops z listed i=true:=by kernel_rfl)
  (hQ:∀c a w,Q (.panic c) (a.put (some d) v) w->Q (.panic c) a w:=by exact fun _ _ _ h=>h)(hw:Region.wanted oi (yielded ops a.tmps)=true:=by rfl):eQ P md ops Q S z (fuel+1) listed a w:=
 O3 i (some d) hi qT hB hQ hw hS hy h
theorem Yu(i:Nat){d:Nat}{v:Value}{oi:Oper}{fuel:Nat}{listed:Array Bool}{a:Act}{w:World}(h:eQ P md ops Q S z fuel (listed.setIfInBounds i true) (a.put (some d) v) w)
  (hS:S w:=by assumption)(hi:ops[i]?=some oi:=by rfl)(hy:∀wx,S wx->(execOp a.eval oi).run P wx=.ok (.value v) wx:=by intro _ _;go_simp;try with_reducible rfl)(qT:oi.dst=some d:=by rfl)(hB:(uH md ops z listed i&&(vT md ops i (z+1)).getD z false)=true:=by kernel_rfl)
  (hQ:∀c a w,Q (.panic c) (a.put (some d) v) w->Q (.panic c) a w:=by exact fun _ _ _ h=>h)(hw:Region.wanted oi (yielded ops a.tmps)=true:=by rfl):eQ P md ops Q S z (fuel+1) listed a w:=
 Yy i (some d) hi qT hB hQ hw hS hy h
theorem Yv(i:Nat){d:Nat}{v:Value}{oi:Oper}{fuel:Nat}{listed:Array Bool}{a:Act}{w:World}(h:eQ P md ops Q S z fuel (listed.setIfInBounds i true) (a.put (some d) v) w)
  (hS:S w:=by assumption)(hi:ops[i]?=some oi:=by rfl)(hy:∀wx,(execOp a.eval oi).run P wx=.ok (.value v) wx:=by intro _;go_simp;try with_reducible rfl)(qT:oi.dst=some d:=by rfl)(hB:uH md ops z listed i=true:=by kernel_rfl)
  (hQ:∀c a w,Q (.panic c) (a.put (some d) v) w->Q (.panic c) a w:=by exact fun _ _ _ h=>h)(hw:Region.wanted oi (yielded ops a.tmps)=true:=by rfl):eQ P md ops Q S z (fuel+1) listed a w:=
 O3 i (some d) hi qT hB hQ hw hS hy h
theorem Ym(i:Nat){o:Oper}{fuel:Nat}{listed:Array Bool}{a:Act}{w:World}
  (h:∀K:Act->World->Prop,(∀a' w',S w'->(S w'->eQ P md ops Q S z fuel (listed.setIfInBounds i true) a' w')->K a' w')->if Region.wanted o (yielded ops a.tmps)=true then Oper.wp P o a w K Q else K (a.put o.dst undef) w)
  (ho:ops[i]?=some o:=by rfl)(hr:Region.ready md ops listed=[i]:=by kernel_rfl):eQ P md ops Q S z (fuel+1) listed a w:=aiT i ho hr h
theorem Yl(i:Nat){o:Oper}{fuel:Nat}{listed:Array Bool}{a:Act}{w:World}
  (h:∀K:Act->World->Prop,(∀a' w',eQ P md ops Q S z fuel (listed.setIfInBounds i true) a' w'->K a' w')->if Region.wanted o (yielded ops a.tmps)=true then Oper.wp P o a w K Q else K (a.put o.dst undef) w)
  (ho:ops[i]?=some o:=by rfl)(hr:Region.ready md ops listed=[i]:=by kernel_rfl)(hz:(listed.setIfInBounds i true).getD z false=true:=by kernel_rfl):eQ P md ops Q S z (fuel+1) listed a w:=adm i ho hr hz h
theorem Ye{fuel:Nat}{listed:Array Bool}{a:Act}{w:World}(h:Q .normal a w)(hr:Region.ready md ops listed=[]:=by kernel_rfl):eQ P md ops Q S z fuel listed a w:=adn hr h fuel
end
end
def ado(xs ys:List UInt8)(w:World)(v:Value)(wr:World):Prop:=∃k m:Nat,k<=xs.length∧v=.int .i64 k∧xs.take k=ys.take k∧wr=w.drewN m
theorem YA(x y:UInt8):((x.toNat:Int)!=(y.toNat:Int))=decide (x≠y):=by
 by_cases h:x=y
 ·subst h;simp
 ·have:(x.toNat:Int)≠(y.toNat:Int):=fun e=>h (UInt8.toNat_inj.1 (by omega));simp[h,this]
def Ex(n:Int)(i:Nat):UInt8:=UInt8.ofNat (((n/2^(8*(i%4))+i)%256).toNat)
def br(n:Int)(size:Int):List UInt8:=if size<=300 then(List.range size.toNat).map (Ex n)else[]
def U8(n size:Int)(w:World)(Fr:HL)(v i:Value)(wr:World):Prop:=
 ∃(k:Nat) (H:HL),k<=300∧i=.int .i64 k∧(k:Int)<=max size 0∧(300<size->k=0)∧ar v ((List.range k).map (Ex n)) H∧Holds wr (H++Fr)∧af w wr
theorem Qy{n size:Int}{w wr w':World}{Fr H':HL}{k:Nat}{v':Value}(hs:size<=300)(hk:(k:Int)<size)(hg:af w wr)
  (ay:au 5 1 v' (k+1) (((List.range k).map (Ex n)).map bh++[Value.int IntKind.u8 ((n/2^(8*(k%4))+(k:Int))%256)]) H')
  (aB:Holds w' (H'++Fr)){o:Obj}(aX:af (wr.alloc o) w'):U8 n size w Fr v' (.int .i64 ((k:Int)+1)) w':=by
 refine⟨k+1,H',by omega,by go_num,by omega,fun h=>by omega,?_,aB,(hg.alloc o).trans aX⟩;have e:[Value.int IntKind.u8 ((n/2^(8*(k%4))+(k:Int))%256)]=[bh (Ex n k)]:=by
  have h0:0<=(n/2^(8*(k%4))+(k:Int))%256∧(n/2^(8*(k%4))+(k:Int))%256<256:=by omega
  have h1:((Ex n k).toNat:Int)=(n/2^(8*(k%4))+(k:Int))%256:=by
   unfold Ex;generalize(n/2^(8*(k%4))+(k:Int))%256=r at h0⊢;obtain⟨r,rfl⟩:=Int.eq_ofNat_of_zero_le h0.1;simp only[Int.toNat_natCast,vQ];omega
  simp only[bh,h1]
 rw[e]at ay;unfold ar;rw[ub,dm];simpa using ay
theorem qo(n size:Int)(w:World)(Fr:HL)(hH:Holds w Fr)(hs:size<=9223372036854775807):
  Calls Tryz.prog 26 #[.int .i64 n,.int .i64 size] w (cB (fun v H=>ar v (br n size) H) w Fr):=by
 go_enter func26,ntmps26;go_wp2
 go_loopw [5,6] (fun v i wr=>U8 n size w Fr v i wr) (fun _ i _=>size.toNat-(intOf i).toNat)
 case atStart=>exact⟨0,[],by omega,rfl,by omega,fun _=>rfl,au.nil _ _,hH,af.refl w⟩
 case round=>
  obtain⟨k,H,hk,rfl,hm,agF,hb,gK,hg⟩:=hrel;have HB:=aa hb;clear hb;have HM:=aa hm;clear hm;have HQ:=aa agF;clear agF;by_cases h1:(k:Int)<size
  ·by_cases h2:size<=300
   ·go_wp2_with (at_builtin;refine al ee (by rfl) (.tmp 16) (.tmp 26) (by rfl) (by rfl) (by rfl) HB.o (gK.bP _) ag.one (by simp[Value.oneCell']) (by simp[maxLen];omega) (by simp;omega) ?_;intro A' c' w' H' ay aB aX)
    simp only[bY,fP]at ay;exact⟨Qy h2 h1 hg ay aB aX,by simp[intOf];omega⟩
   ·go_wp2
    go_ret;have rQ:=HQ.o (by omega);subst rQ;exact⟨_,H,rfl,by unfold br;rw[if_neg (by omega)];exact HB.o,gK,hg⟩
  ·go_wp2
   go_ret;refine⟨_,H,rfl,?_,gK,hg⟩;have hm:=HM.o;have rQ:=HQ.o;unfold br;have:size.toNat=k:=by omega
   rw[if_pos (by omega),this];exact HB.o
def zR(x n:Int):Int:=wrap64 ((IntKind.u64.wrap x).tmod n)
theorem uI(x n:Int)(hn:1<=n)(tS:n<=9223372036854775807):0<=zR x n∧zR x n<n:=by
 have h0:0<=IntKind.u64.wrap x:=by simp[IntKind.wrap,IntKind.signed,IntKind.bits];omega
 have h1:(IntKind.u64.wrap x).tmod n=(IntKind.u64.wrap x)%n:=Int.tmod_eq_emod_of_nonneg h0;have h2:=Int.emod_nonneg (IntKind.u64.wrap x) (show n≠0 by omega);have h3:=Int.emod_lt_of_pos (IntKind.u64.wrap x) (show 0<n by omega);have h4:zR x n=(IntKind.u64.wrap x)%n:=by
  unfold zR;rw[h1];generalize(IntKind.u64.wrap x)%n=r at h2 h3;unfold wrap64;omega
 omega
theorem qY(x n:Int)(w:World)(hn:1<=n)(tS:n<=9223372036854775807):
  Calls Tryz.prog 24 #[.int .i64 x,.int .i64 n] w fun e w'=>e=.returned (.int .i64 (zR x n))∧w=w':=by
 go_enter func24,ntmps24;go_wp2
 go_ret;exact⟨rfl,rfl⟩
theorem ag.abT{w:World}{x:Value}{g:Nat}{e:TypeId}(h:g=w.heap.size):ag (w.alloc (.cells #[x] e)) 1 (.slice (some ⟨g,0,none⟩) 1 1) 1 [x]:=by subst h;exact ag.one
def bJ(v:Value)(c:Int)(H:HL):Prop:=
 (c=0∧v=.nilIface∧H=[])∨(c≠0∧∃b s,v=.iface 141 (.pointer (some ⟨b,0,none⟩))∧H=[(b,.cells #[.int .i64 c,.string s] 143)])
theorem bJ.none:bJ .nilIface 0 []:=.inl ⟨rfl,rfl,rfl⟩
theorem oF(x:Value)(w:World):(binOp .eql 34 (.iface 141 x) .nilIface).run Tryz.prog w=.ok (.bool false) w:=run_eql_held_nil w _ _ _ (by kernel_rfl)
theorem cS(x:Value)(w:World):(binOp .neq 34 (.iface 141 x) .nilIface).run Tryz.prog w=.ok (.bool true) w:=run_neq_held_nil w _ _ _ (by kernel_rfl)
theorem adp(a:Option Addr)(w:World):(Instr.typeAssert (.iface 141 (.pointer a)) 34 141 true).run Tryz.prog w=.ok (.tuple #[.pointer a,.bool true]) w:=by kernel_rfl
theorem nil_eq(w:World):(binOp .eql 34 .nilIface .nilIface).run Tryz.prog w=.ok (.bool true) w:=by kernel_rfl
theorem cC(w:World):(binOp .neq 34 .nilIface .nilIface).run Tryz.prog w=.ok (.bool false) w:=by kernel_rfl
theorem EG(b:Nat)(c:Int)(w:World)(h:w.cell? ⟨b,0,none⟩=some (.int .i64 c)):
  Calls Tryz.prog 56 #[.iface 141 (.pointer (some ⟨b,0,none⟩))] w fun e w'=>e=.returned (.int .i64 c)∧w=w':=by
 have k1:=oF;have k2:=adp;go_enter func56,ntmps56;go_wp2
 go_ret;exact⟨rfl,rfl⟩
theorem jL(v:Value)(c:Int)(H Fr:HL)(w:World)(h:bJ v c H)(hH:Holds w (H++Fr))(h0:0<=c):
  Calls Tryz.prog 14 #[v] w fun e w'=>e=.returned (.int .i64 c)∧w=w':=by
 rcases h with⟨rfl,rfl,rfl⟩|⟨hc,b,s,rfl,rfl⟩
 ·have k1:=nil_eq;go_enter func14,ntmps14;go_wp2
  go_ret;exact⟨rfl,rfl⟩
 ·have k1:=oF;have c0:w.cell? ⟨b,0,none⟩=some (.int .i64 c):=hH.cell (dC) 0;have H0:=aa (EG b c w c0);clear c0;have h1:0<c:=by omega
  clear hc h0;go_enter func14,ntmps14;go_wp2_with (go_at_call 56;refine H0.o.mono ?_;rintro e w' ⟨rfl,rfl⟩)
  go_ret;exact⟨rfl,rfl⟩
def pR(c:Int)(w:World)(Fr:HL)(e:Ending)(w':World):Prop:=∃v H,e=.returned v∧bJ v c H∧Holds w' (H++Fr)∧af w w'
def sF(w:World)(v:Value)(zs:List Int):Prop:=ag w 1 v zs.length (zs.map (Value.int .i64))
def aZ(v:Value)(zs:List Int)(H:HL):Prop:=au 3 1 v zs.length (zs.map (Value.int .i64)) H
theorem aZ.at_{v:Value}{zs:List Int}{H Fr:HL}{w:World}(h:aZ v zs H)(hH:Holds w (H++Fr)):sF w v zs:=au.reads h hH
theorem aZ.val{v:Value}{zs:List Int}{H:HL}(h:aZ v zs H):∃A c,v=.slice A zs.length c:=au.val h
theorem lf(v:Value)(bs:List UInt8)(w:World)(Fr:HL)(hb:aJ w v bs)(hH:Holds w Fr)(kJ:bs.length<=1000000):
  Calls Tryz.prog 132 #[v] w (cB (fun v H=>ar v bs H) w Fr):=by
 have h1:∀y∈bs.map bh,y.oneCell'=true:=by intro y hy;obtain⟨x,_,rfl⟩:=List.mem_map.1 hy;rfl
 obtain⟨A,c,rfl⟩:=hb.val;have HB:=aa hb;have H1:=aa h1;clear h1;cases A with
 |none=>
  obtain⟨_,A,c',hv,ff,gT,h0⟩:=hb;injection hv with gM mg kS;subst gM kS;have hz:bs.length=0:=by
   rcases nG bs.length with h|h
   ·exact h
   ·obtain⟨b,o,h,_⟩:=h0 h;cases h
  obtain rfl:bs=[]:=jW hz;have k1:∀w:World,(binOp .eql 60 (.slice none 0 c) (.slice none 0 0)).run Tryz.prog w=.ok (.bool true) w:=fun w=>Lib.run_eql_slice_nil w _ _ _ _ _ _ _ ee.under;clear h0 hz ff;go_enter func132,ntmps132;go_wp2
  go_ret;exact⟨_,[],rfl,au.nil _ _,hH,af.refl w⟩
 |some a=>
  have k1:∀w:World,(binOp .eql 60 (.slice (some a) bs.length c) (.slice none 0 0)).run Tryz.prog w=.ok (.bool false) w:=fun w=>Lib.run_eql_slice_nil w _ _ _ _ _ _ _ ee.under;clear hb;go_enter func132,ntmps132;go_wp2_with (at_builtin;refine al ee (by rfl) (.tmp 5) (.tmp 6) (by rfl) (by rfl) (by rfl) (au.UB (size:=1) (e:=5) w.heap.size 0 #[] (by rfl) (by simp[maxLen])) ((hH.alloc (.cells #[] 5))) (HB.o.alloc _) H1.o (by simp[maxLen];omega) (by omega) ?_;intro A' c' w' H' ay aD aX)
  go_ret;simp only[fp,jS]at ay;exact⟨_,H',rfl,ay,aD,((af.refl w).alloc _).trans aX⟩
end Go.Proofs.YtalnifciidblkaaGreatDoor
