/-
  Texts put together: YtoelopghilbfeaaGreatOrd, YtoelopghilbfeaaGreatMem, YtoelopghilbfeaaGreatRow, YtoelopghilbfeaaGreatArr, YtoelopghilbfeaaGreatTy, YtoelopghilbfeaaGreatBys, YtoelopghilbfeaaGreatRows3, YtoelopghilbfeaaGreatOrd2, YtoelopghilbfeaaGreatLib.
-/
import Derived.OrdersHeld
import Derived.StillTail
import Derived.RegionTactic
import Derived.Deep.Draws
import Derived.Below
import Derived.Laws.OwnMore
import Derived.Laws.Rows
import Derived.Laws.BytesArg
import Derived.Lib.Hide
import Derived.Maps.AppendAt
import Derived.Laws.CopyRow
import Derived.Laws.IdiomStrings
import Derived.Laws.MakeOwn
import Derived.Tactics
import Derived.OwnWalk
import Derived.Test.YtoelopghilbfeaaGreatRows
import Derived.WalkKit
import Derived.KernelRfl
import Derived.Deep.QuietTactic
import Derived.BigQuiet
import Derived.Deep.RegionHeld3
import Derived.Deep.RegionLaw
import Derived.Deep.DrawnRows
import Derived.StillTailTactics
import Derived.Deep.LoopGhost
import Derived.WalkLawsBesides
import Derived.WalkSpells
namespace Go.Proofs.YtoelopghilbfeaaGreat
open Go
section
variable {P:Program} {ops:Array Oper} {Q:Exit→Act→World→Prop} {md:Region.Mode} {S:World→Prop} {z:Nat}
def StillUpon (P:Program) (w:World) (v:Value):Result Next→Prop
 |.ok (.value u) w'=>w'=w∧u=v
 |.ok (.enter f args) w'=>w'=w∧Calls P f args w fun e w''=>e=.returned v∧w=w''
 |_=>False
def StillIf (P:Program) (ops:Array Oper) (S:World→Prop) (o:Oper) (v:Value) (a:Act):Prop :=
 (Region.wanted o (yielded ops a.tmps)=true∧∀ w,S w→StillUpon P w v ((execOp a.eval o).run P w)) ∨
 (Region.wanted o (yielded ops a.tmps)=false∧v=undef)
theorem StillIf.wpOp {i:Nat} {o:Oper} {v:Value} {a:Act} (hi:ops[i]?=some o) (hy:StillIf P ops S o v a) {K:Act→World→Prop} {w:World} (hS:S w) (h:K (a.put o.dst v) w):wpOp P ops Q i K a w:=by
 unfold Go.wpOp
 simp only [hi]
 rcases hy with ⟨hw,hv⟩ | ⟨hw,rfl⟩
 ·rw [if_pos hw]
  refine .inl ?_
  have h1:=hv w hS
  unfold Oper.wp
  generalize (execOp a.eval o).run P w=r at h1
  cases r with
  |halt x w'=>exact h1.elim
  |ok n w' =>
   cases n with
   |value u =>
    obtain ⟨rfl,rfl⟩:=h1
    exact h
   |enter f args =>
    obtain ⟨rfl,hc⟩:=h1
    refine hc.mono fun e w'' he=>?_
    obtain ⟨rfl,rfl⟩:=he
    exact h
   |_=>exact h1.elim
 ·rw [hw]
  simpa using h
theorem StillIf.same {o:Oper} {v:Value} {a a':Act} (hy:StillIf P ops S o v a) (he:execOp a'.eval o=execOp a.eval o) (hw:Region.wanted o (yielded ops a'.tmps)=Region.wanted o (yielded ops a.tmps)):StillIf P ops S o v a':=by
 unfold StillIf at *
 rw [he,hw]
 exact hy
theorem wpOp_still {j:Nat} {oi oj:Oper} {v:Value} (hj:ops[j]?=some oj) (hap:oi.apart ops oj=true) (hsi:∀ cs b,oi.op≠.select cs b) (hsj:∀ cs b,oj.op≠.select cs b)
  (hQ:∀ c a w,Q (.panic c) (a.put oi.dst v) w→Q (.panic c) a w) {K:Act→World→Prop} {a:Act} {w:World} (hy:StillIf P ops S oi v a) (h:wpOp P ops Q j K (a.put oi.dst v) w) :
  wpOp P ops Q j (fun a' w'=>StillIf P ops S oi v a'∧K (a'.put oi.dst v) w') a w:=by
 obtain ⟨h1,h2,h3⟩:=Oper.apart_spec hap
 have next:∀ (a:Act),StillIf P ops S oi v a→∀ u w',K ((a.put oi.dst v).put oj.dst u) w'→StillIf P ops S oi v (a.put oj.dst u)∧K ((a.put oj.dst u).put oi.dst v) w':=fun a hy u w' hk =>
  ⟨hy.same (execOp_put oi hsi a oj.dst u h3) (wanted_put oi a oj.dst u h3),by rw [← Act.put_comm a v u h2];exact hk⟩
 unfold wpOp at *
 simp only [hj] at *
 rw [wanted_put oj a oi.dst v h1] at h
 by_cases hw:Region.wanted oj (yielded ops a.tmps)=true
 ·rw [if_pos hw] at h ⊢
  rcases h with h | ⟨h,hl⟩
  ·refine .inl ?_
   unfold Oper.wp at *
   rw [execOp_put oj hsj a oi.dst v h1] at h
   generalize (execOp a.eval oj).run P w=r at *
   cases r with
   |halt x w' =>
    cases x
    case panic u=>exact hQ _ _ _ h
    all_goals exact h
   |ok n w' =>
    cases n
    case value u=>exact next a hy u w' h
    case skip=>exact next a hy undef w' h
    case defer d=>exact next { a with defers:=d::a.defers } (hy.same rfl rfl) undef w' (by rw [← Act.put_defers];exact h)
    case enter f args =>
     refine Calls.mono h fun e w'' he=>?_
     cases e
     case returned u=>exact next a hy u w'' he
     case panicked c=>exact hQ _ _ _ he
     case outgrown=>exact he
    case row rw' args=>exact Rows.mono h fun u w'' he=>next a hy u w'' he
    all_goals exact h
  ·exact .inr ⟨by unfold Oper.asks at *;rw [execOp_put oj hsj a oi.dst v h1] at h;exact h,hl⟩
 ·rw [if_neg hw] at h ⊢
  exact next a hy undef w h
def wpAnyZ (P:Program) (md:Region.Mode) (ops:Array Oper) (Q:Exit→Act→World→Prop) (S:World→Prop) (z:Nat):Nat→Array Bool→Act→World→Prop
 |0,listed,a,w=>Region.ready md ops listed=[]∧Q .normal a w
 |fuel+1,listed,a,w =>
  (Region.ready md ops listed=[]→Q .normal a w) ∧
  ∀ i∈Region.ready md ops listed,wpOp P ops Q i (fun a' w'=>(i≠z→S w')∧wpAnyZ P md ops Q S z fuel (listed.setIfInBounds i true) a' w') a w
theorem wpAny_of_Z:∀ (fuel:Nat) (listed:Array Bool) (a:Act) (w:World),wpAnyZ P md ops Q S z fuel listed a w→wpAny P md ops Q fuel listed a w
 |0,_,_,_,h=>h
 |fuel+1,_,_,_,h=>⟨h.1,fun i hi=>wpOp_mono (fun a' w' h'=>wpAny_of_Z fuel _ a' w' h'.2) (h.2 i hi)⟩
def LastInv (md:Region.Mode) (ops:Array Oper) (z:Nat) (listed:Array Bool):Prop :=
 ops.size≤z∨(Region.sinkB md ops z=true∧Region.chainB md ops z=true∧z<ops.size∧HeadInv md ops z listed∧ops.size≤z+1)
theorem LastInv.not_ready {listed:Array Bool} {i:Nat} (h:LastInv md ops z listed) (hi:listed.getD i true=false) (his:i<ops.size) (hiz:i≠z):z ∉ Region.ready md ops listed:=by
 intro hz
 obtain ⟨_,o,ho,_⟩:=mem_ready.1 hz
 have hzs:=(Array.getElem?_eq_some_iff.1 ho).1
 rcases h with h | ⟨h1,h2,h3,h4,h5⟩
 ·omega
 ·exact tail_waits h1 h2 h3 h4 _ i rfl (by omega) hi z (Nat.le_refl _) hz
theorem LastInv.set {listed:Array Bool} {j:Nat} (h:LastInv md ops z listed) (hj:j∈Region.ready md ops listed) (hjz:j≠z):LastInv md ops z (listed.setIfInBounds j true):=by
 rcases h with h | ⟨h1,h2,h3,h4,h5⟩
 ·exact .inl h
 ·obtain ⟨_,o,ho,_⟩:=mem_ready.1 hj
  have hjs:=(Array.getElem?_eq_some_iff.1 ho).1
  exact .inr ⟨h1,h2,h3,h4.set hj (by omega),h5⟩
theorem wpAnyZ_first {i:Nat} {oi:Oper} {v:Value} (hi:ops[i]?=some oi) (hsel:∀ (j:Nat) (o:Oper) cs b,ops[j]?=some o→o.op≠.select cs b)
  (hQ:∀ c a w,Q (.panic c) (a.put oi.dst v) w→Q (.panic c) a w) (hiz:i≠z) :
  ∀ (fuel:Nat) (listed:Array Bool) (a:Act) (w:World),LastInv md ops z listed →
   (∀ j oj,ops[j]?=some oj→j≠i→listed.getD j true=false→(∀ e∈oj.after,Region.binds md e=true→e.on≠i)→oi.apart ops oj=true) →
   i∈Region.ready md ops listed→StillIf P ops S oi v a→S w →
   wpAnyZ P md ops Q S z fuel (listed.setIfInBounds i true) (a.put oi.dst v) w→wpAnyZ P md ops Q S z (fuel+1) listed a w:=by
 intro fuel
 induction fuel with
 |zero =>
  intro listed a w _ _ hr hy hS H
  refine ⟨fun h=>(by rw [h] at hr;cases hr),fun j hj=>?_⟩
  by_cases hji:j=i
  ·subst hji;exact hy.wpOp hi hS ⟨fun _=>hS,H⟩
  ·have:=ready_mono hj hji
   rw [H.1] at this
   cases this
 |succ fuel ih =>
  intro listed a w inv hfree hr hy hS H
  have hun:=(mem_ready.1 hr).1
  have his:=(Array.getElem?_eq_some_iff.1 hi).1
  refine ⟨fun h=>(by rw [h] at hr;cases hr),fun j hj=>?_⟩
  by_cases hji:j=i
  ·subst hji;exact hy.wpOp hi hS ⟨fun _=>hS,H⟩
  ·have hjz:j≠z:=fun e=>inv.not_ready hun his hiz (e ▸ hj)
   have h1:=H.2 j (ready_mono hj hji)
   obtain ⟨hjun,oj,hoj,hall⟩:=mem_ready.1 hj
   have hnot:∀ e∈oj.after,Region.binds md e=true→e.on≠i:=fun e he hb heq=>by
    have h1:=hall e he hb
    rw [heq,getD_both hun] at h1
    cases h1
   have h2:=wpOp_still hoj (hfree j oj hoj hji hjun hnot) (fun cs b=>hsel i oi cs b hi) (fun cs b=>hsel j oj cs b hoj) hQ hy h1
   have hfree':∀ k ok,ops[k]?=some ok→k≠i→(listed.setIfInBounds j true).getD k true=false →
     (∀ e∈ok.after,Region.binds md e=true→e.on≠i)→oi.apart ops ok=true:=fun k ok hk hki hun hno=>by
    refine hfree k ok hk hki ?_ hno
    by_cases hjk:j=k
    ·subst hjk;exact hjun
    ·rw [getD_set_ne true hjk] at hun;exact hun
   refine wpOp_mono (fun a' w' h3=>⟨fun _=>h3.2.1 hjz,ih (listed.setIfInBounds j true) a' w' (inv.set hj hjz) hfree' (ready_mono hr (Ne.symm hji)) h3.1 (h3.2.1 hjz) ?_⟩) h2
   rw [Array.setIfInBounds_comm _ _ hji]
   exact h3.2.2
def closedB (md:Region.Mode) (ops:Array Oper) (z:Nat) (listed:Array Bool):Bool :=
 listed.size == ops.size && ((List.range ops.size).all fun j=>!listed.getD j false || match ops[j]? with
  |some oj=>oj.after.all fun e=>!Region.binds md e || listed.getD e.on false
  |none=>true) && ((List.range ops.size).all fun t=>decide (t<z) || !listed.getD t true)
theorem closedB_spec {listed:Array Bool} (h:closedB md ops z listed=true):HeadInv md ops z listed:=by
 unfold closedB at h
 simp only [Bool.and_eq_true,beq_iff_eq,List.all_eq_true,List.mem_range,Bool.or_eq_true,Bool.not_eq_true',decide_eq_true_eq] at h
 obtain ⟨⟨h1,h2⟩,h3⟩:=h
 refine ⟨h1,fun j oj hj hl e he hb=>?_,fun t ht hts=>?_⟩
 ·have hjs:=(Array.getElem?_eq_some_iff.1 hj).1
  rcases h2 j hjs with h | h
  ·rw [hl] at h;cases h
  ·simp only [hj] at h
   have h':=Array.all_eq_true'.1 h e he
   rw [hb] at h'
   simpa using h'
 ·rcases h3 t hts with h | h
  ·omega
  ·exact h
def lastB (md:Region.Mode) (ops:Array Oper) (z:Nat) (listed:Array Bool):Bool :=
 decide (ops.size≤z) || (Region.sinkB md ops z && Region.chainB md ops z && decide (ops.size=z+1) && closedB md ops z listed)
theorem lastB_spec {listed:Array Bool} (h:lastB md ops z listed=true):LastInv md ops z listed:=by
 unfold lastB at h
 simp only [Bool.or_eq_true,Bool.and_eq_true,decide_eq_true_eq] at h
 rcases h with h | ⟨⟨⟨h1,h2⟩,h3⟩,h4⟩
 ·exact .inl h
 ·exact .inr ⟨h1,h2,by omega,closedB_spec h4,by omega⟩
def takeB (md:Region.Mode) (ops:Array Oper) (z:Nat) (listed:Array Bool) (i:Nat):Bool :=
 Region.noSelect ops && Region.free md ops listed i && (Region.ready md ops listed).contains i && (i != z) && lastB md ops z listed
theorem Z_take (i:Nat) {oi:Oper} {v:Value} {fuel:Nat} {listed:Array Bool} {a:Act} {w:World} (hi:ops[i]?=some oi) (hB:takeB md ops z listed i=true)
  (hQ:∀ c a w,Q (.panic c) (a.put oi.dst v) w→Q (.panic c) a w) (hw:Region.wanted oi (yielded ops a.tmps)=true) (hS:S w) (hy:∀ wx,S wx→(execOp a.eval oi).run P wx=.ok (.value v) wx)
  (h:wpAnyZ P md ops Q S z fuel (listed.setIfInBounds i true) (a.put oi.dst v) w):wpAnyZ P md ops Q S z (fuel+1) listed a w:=by
 unfold takeB at hB
 simp only [Bool.and_eq_true,bne_iff_ne] at hB
 obtain ⟨⟨⟨⟨h1,h2⟩,h3⟩,h4⟩,h5⟩:=hB
 exact wpAnyZ_first hi (Region.noSelect_spec h1) hQ h4 fuel listed a w (lastB_spec h5) (Region.free_spec hi h2) (by simpa using h3) (.inl ⟨hw,fun wx hx=>by rw [hy wx hx];exact ⟨rfl,rfl⟩⟩) hS h
theorem Z_call (i:Nat) {oi:Oper} {v:Value} {fuel:Nat} {listed:Array Bool} {a:Act} {w:World} {f:FuncId} {args:Array Value} (hi:ops[i]?=some oi) (hB:takeB md ops z listed i=true)
  (hQ:∀ c a w,Q (.panic c) (a.put oi.dst v) w→Q (.panic c) a w) (hw:Region.wanted oi (yielded ops a.tmps)=true) (hS:S w) (hr:∀ wx,(execOp a.eval oi).run P wx=.ok (.enter f args) wx)
  (hy:∀ wx,S wx→Calls P f args wx fun e w'=>e=.returned v∧wx=w') (h:wpAnyZ P md ops Q S z fuel (listed.setIfInBounds i true) (a.put oi.dst v) w):wpAnyZ P md ops Q S z (fuel+1) listed a w:=by
 unfold takeB at hB
 simp only [Bool.and_eq_true,bne_iff_ne] at hB
 obtain ⟨⟨⟨⟨h1,h2⟩,h3⟩,h4⟩,h5⟩:=hB
 exact wpAnyZ_first hi (Region.noSelect_spec h1) hQ h4 fuel listed a w (lastB_spec h5) (Region.free_spec hi h2) (by simpa using h3) (.inl ⟨hw,fun wx hx=>by rw [hr wx];exact ⟨rfl,hy wx hx⟩⟩) hS h
theorem Z_skip (i:Nat) {oi:Oper} {fuel:Nat} {listed:Array Bool} {a:Act} {w:World} (hi:ops[i]?=some oi) (hB:takeB md ops z listed i=true)
  (hQ:∀ c a w,Q (.panic c) (a.put oi.dst undef) w→Q (.panic c) a w) (hw:Region.wanted oi (yielded ops a.tmps)=false) (hS:S w)
  (h:wpAnyZ P md ops Q S z fuel (listed.setIfInBounds i true) (a.put oi.dst undef) w):wpAnyZ P md ops Q S z (fuel+1) listed a w:=by
 unfold takeB at hB
 simp only [Bool.and_eq_true,bne_iff_ne] at hB
 obtain ⟨⟨⟨⟨h1,h2⟩,h3⟩,h4⟩,h5⟩:=hB
 exact wpAnyZ_first hi (Region.noSelect_spec h1) hQ h4 fuel listed a w (lastB_spec h5) (Region.free_spec hi h2) (by simpa using h3) (.inr ⟨hw,rfl⟩) hS h
theorem Z_one (i:Nat) {o:Oper} {fuel:Nat} {listed:Array Bool} {a:Act} {w:World} (ho:ops[i]?=some o) (hr:Region.ready md ops listed=[i])
  (h:∀ K:Act→World→Prop,(∀ a' w',(i≠z→S w')→wpAnyZ P md ops Q S z fuel (listed.setIfInBounds i true) a' w'→K a' w')→if Region.wanted o (yielded ops a.tmps)=true then Oper.wp P o a w K Q else K (a.put o.dst undef) w) :
  wpAnyZ P md ops Q S z (fuel+1) listed a w:=by
 refine ⟨fun h0=>(by rw [hr] at h0;cases h0),fun j hj=>?_⟩
 rw [hr] at hj
 obtain rfl:=List.mem_singleton.1 hj
 refine wpOp_step ho fun K' hK'=>h K' fun a' w' h1 h2=>hK' a' w' ⟨h1,h2⟩
theorem Z_mid (i:Nat) {o:Oper} {fuel:Nat} {listed:Array Bool} {a:Act} {w:World} (ho:ops[i]?=some o) (hr:Region.ready md ops listed=[i])
  (h:∀ K:Act→World→Prop,(∀ a' w',S w'→(S w'→wpAnyZ P md ops Q S z fuel (listed.setIfInBounds i true) a' w')→K a' w')→if Region.wanted o (yielded ops a.tmps)=true then Oper.wp P o a w K Q else K (a.put o.dst undef) w) :
  wpAnyZ P md ops Q S z (fuel+1) listed a w :=
 Z_one i ho hr fun _ hK=>h _ fun a' w' h1 h2=>hK a' w' (fun _=>h1) (h2 h1)
theorem Z_last (i:Nat) {o:Oper} {fuel:Nat} {listed:Array Bool} {a:Act} {w:World} (ho:ops[i]?=some o) (hr:Region.ready md ops listed=[i]) (hz:i=z)
  (h:∀ K:Act→World→Prop,(∀ a' w',wpAnyZ P md ops Q S z fuel (listed.setIfInBounds i true) a' w'→K a' w')→if Region.wanted o (yielded ops a.tmps)=true then Oper.wp P o a w K Q else K (a.put o.dst undef) w) :
  wpAnyZ P md ops Q S z (fuel+1) listed a w :=
 Z_one i ho hr fun _ hK=>h _ fun a' w' h2=>hK a' w' (fun h=>absurd hz h) h2
theorem Z_done {listed:Array Bool} {a:Act} {w:World} (hr:Region.ready md ops listed=[]) (h:Q .normal a w):∀ fuel,wpAnyZ P md ops Q S z fuel listed a w
 |0=>⟨hr,h⟩
 |_+1=>⟨fun _=>h,by rw [hr];simp⟩
theorem Z_begin {id:Nat} {a:Act} {w:World} (S:World→Prop) (z:Nat) {l:List Oper} (hm:P.follows .mixedOrders=true)
  (hS:∀ w1,(∃ k,w1=w.drewN k)→S w1) (h:∀ w1,(∃ k,w1=w.drewN k)→S w1→wpAnyZ P .any l.toArray Q S z l.length (Array.replicate l.length false) a w1):(Code.region id l.toArray true).wp P Q a w :=
 wp_region_any hm (by have:=wpAny_of_Z _ _ _ _ (h w.drew ⟨1,rfl⟩ (hS _ ⟨1,rfl⟩));simpa using this)
end
end Go.Proofs.YtoelopghilbfeaaGreat
namespace Go.Proofs.YtoelopghilbfeaaGreat
open Go.RowKit
abbrev HL:=List (Nat × Obj)
def keyc (b:Nat):HL→Nat
 |[]=>0
 |p::H=>(if p.1=b then 1 else 0)+keyc b H
theorem keyc_nil (b:Nat):keyc b []=0:=rfl
theorem keyc_cons (b:Nat) (p:Nat × Obj) (H:HL):keyc b (p::H)=(if p.1=b then 1 else 0)+keyc b H:=rfl
theorem keyc_append (b:Nat) (A B:HL):keyc b (A++B)=keyc b A+keyc b B:=by
 induction A with
 |nil=>simp [keyc]
 |cons p A ih=>simp only [List.cons_append,keyc_cons,ih];omega
theorem keyc_pos {b:Nat} {H:HL} (h:0<keyc b H):∃ o,(b,o)∈H:=by
 induction H with
 |nil=>simp [keyc] at h
 |cons p H ih =>
  rw [keyc_cons] at h
  by_cases hp:p.1=b
  ·exact ⟨p.2,by subst hp;simp⟩
  ·rw [if_neg hp] at h
   obtain ⟨o,ho⟩:=ih (by omega)
   exact ⟨o,List.mem_cons_of_mem _ ho⟩
theorem keyc_mem {b:Nat} {o:Obj} {H:HL} (h:(b,o)∈H):0<keyc b H:=by
 induction H with
 |nil=>cases h
 |cons p H ih =>
  rw [keyc_cons]
  rcases List.mem_cons.1 h with rfl | h
  ·simp;omega
  ·have:=ih h;omega
structure Holds (w:World) (H:HL):Prop where
 one:∀ b,keyc b H≤1
 mem:∀ p,p∈H→w.heap[p.1]?=some p.2
structure Grew (w w':World):Prop where
 os:w'.os=w.os
 tape:w'.tape=w.tape
 output:w'.output=w.output
 size:w.heap.size≤w'.heap.size
theorem Grew.refl (w:World):Grew w w:=⟨rfl,rfl,rfl,Nat.le_refl _⟩
theorem Grew.trans {a b c:World} (h:Grew a b) (k:Grew b c):Grew a c :=
 ⟨k.os.trans h.os,k.tape.trans h.tape,k.output.trans h.output,Nat.le_trans h.size k.size⟩
theorem Grew.drew {a w:World} (h:Grew a w):Grew a w.drew:=⟨h.os,h.tape,h.output,h.size⟩
theorem Grew.drewN {a w:World} (h:Grew a w) (n:Nat):Grew a (w.drewN n):=⟨h.os,h.tape,h.output,h.size⟩
theorem Grew.alloc {a w:World} (h:Grew a w) (o:Obj):Grew a (w.alloc o):=⟨h.os,h.tape,h.output,by have:=h.size;simp;omega⟩
theorem Grew.setCell {a w:World} (h:Grew a w) (p:Addr) (u:Value):Grew a (w.setCell p u):=⟨h.os,h.tape,h.output,by have:=h.size;simpa using this⟩
theorem Grew.setRow {a w:World} (h:Grew a w) (g:Nat) (cs:Array Value):Grew a (w.setRow g cs):=⟨h.os,h.tape,h.output,by have:=h.size;simpa [World.setRow] using this⟩
section
variable {w w':World} {H H' A B C Fr:HL} {b:Nat} {cs:Array Value} {t:TypeId}
theorem Holds.lt (h:Holds w H) {p:Nat × Obj} (hp:p∈H):p.1<w.heap.size:=(Array.getElem?_eq_some_iff.1 (h.mem p hp)).1
theorem Holds.sub (h:Holds w H) (hm:∀ p,p∈H'→p∈H) (hc:∀ b,keyc b H'≤keyc b H):Holds w H' :=
 ⟨fun b=>Nat.le_trans (hc b) (h.one b),fun p hp=>h.mem p (hm p hp)⟩
theorem Holds.left (h:Holds w (A++B)):Holds w A :=
 h.sub (fun p hp=>List.mem_append_left _ hp) (fun b=>by rw [keyc_append];omega)
theorem Holds.right (h:Holds w (A++B)):Holds w B :=
 h.sub (fun p hp=>List.mem_append_right _ hp) (fun b=>by rw [keyc_append];omega)
theorem Holds.swap (h:Holds w (A++(B++C))):Holds w (B++(A++C)) :=
 h.sub (fun p hp=>by simp only [List.mem_append] at hp ⊢;rcases hp with h | h | h <;> simp [h]) (fun b=>by simp only [keyc_append];omega)
theorem Holds.mid (h:Holds w (A++(B++C))):Holds w (A++C) :=
 h.sub (fun p hp=>by simp only [List.mem_append] at hp ⊢;rcases hp with h | h <;> simp [h]) (fun b=>by simp only [keyc_append];omega)
theorem Holds.assoc (h:Holds w ((A++B)++C)):Holds w (A++(B++C)):=by rw [← List.append_assoc];exact h
theorem Holds.apart (h:Holds w (A++B)) {x y:Nat × Obj} (hx:x∈A) (hy:y∈B):x.1≠y.1:=by
 intro e
 have h1:=h.one x.1
 have ha:=keyc_mem (b:=x.1) (o:=x.2) hx
 have hb:=keyc_mem (b:=x.1) (o:=y.2) (by rw [e];exact hy)
 rw [keyc_append] at h1
 omega
theorem Holds.get (h:Holds w H) {o:Obj} (hm:(b,o)∈H):w.heap[b]?=some o:=h.mem _ hm
theorem Holds.cell (h:Holds w H) {fz:Nat × Nat} (hm:(b,Obj.cells cs t fz)∈H) (i:Nat):w.cell? ⟨b,i,none⟩=cs[i]? :=
 cell_of_row w b i cs t fz (h.get hm)
theorem Holds.frozen (h:Holds w H) (hm:(b,Obj.cells cs t (0,0))∈H) (i:Nat):w.frozen? ⟨b,i,none⟩=false:=by
 have:=h.get hm
 simp [World.frozen?,this]
theorem Holds.drew (h:Holds w H):Holds w.drew H:=⟨h.one,h.mem⟩
theorem Holds.drewN (h:Holds w H) (n:Nat):Holds (w.drewN n) H:=⟨h.one,h.mem⟩
theorem Holds.alloc (h:Holds w H) (o:Obj):Holds (w.alloc o) ((w.heap.size,o)::H):=by
 refine ⟨fun b=>?_,fun p hp=>?_⟩
 ·rw [keyc_cons]
  have h1:=h.one b
  by_cases hb:w.heap.size=b
  ·have:keyc b H=0:=by
    rcases Nat.eq_zero_or_pos (keyc b H) with h0 | h0
    ·exact h0
    ·obtain ⟨o',ho'⟩:=keyc_pos h0
     have:=h.lt ho'
     simp only at this
     omega
   rw [if_pos hb];omega
  ·rw [if_neg hb];omega
 ·rcases List.mem_cons.1 hp with rfl | hp
  ·exact heap_alloc_new w o
  ·exact (Below.heap_alloc w o p.1 (h.lt hp)).trans (h.mem p hp)
theorem Holds.set (h:Holds w ((b,Obj.cells cs t (0,0))::H)) (i:Nat) (u:Value):Holds (w.setCell ⟨b,i,none⟩ u) ((b,Obj.cells (cs.setIfInBounds i u) t (0,0))::H):=by
 refine ⟨fun c=>?_,fun p hp=>?_⟩
 ·have:=h.one c;rw [keyc_cons] at this ⊢;exact this
 ·rcases List.mem_cons.1 hp with rfl | hp
  ·have:=h.get (List.mem_cons_self)
   simp [World.setCell,Array.getElem?_modify,this]
  ·have hne:=Holds.apart (A:=[(b,Obj.cells cs t (0,0))]) (B:=H) (by simpa using h) (List.mem_singleton.2 rfl) hp
   exact (Below.heap_setCell w _ u p.1 (fun e=>hne e.symm)).trans (h.mem p (List.mem_cons_of_mem _ hp))
theorem Holds.setRow (h:Holds w ((b,Obj.cells cs t (0,0))::H)) (cs':Array Value):Holds (w.setRow b cs') ((b,Obj.cells cs' t (0,0))::H):=by
 refine ⟨fun c=>?_,fun p hp=>?_⟩
 ·have:=h.one c;rw [keyc_cons] at this ⊢;exact this
 ·rcases List.mem_cons.1 hp with rfl | hp
  ·exact setRow_heap w b cs cs' t _ (h.get (List.mem_cons_self))
  ·have hne:=Holds.apart (A:=[(b,Obj.cells cs t (0,0))]) (B:=H) (by simpa using h) (List.mem_singleton.2 rfl) hp
   exact (setRow_other w b p.1 _ (fun e=>hne e.symm)).trans (h.mem p (List.mem_cons_of_mem _ hp))
theorem Holds.below {B:Nat} (h:Holds w H) (hb:Below B w w') (hl:∀ p,p∈H→p.1<B):Holds w' H :=
 ⟨h.one,fun p hp=>(hb.block p.1 (hl p hp)).trans (h.mem p hp)⟩
end
structure Later (w wx:World):Prop where
 block:∀ (k:Nat) o,w.heap[k]?=some o→wx.heap[k]?=some o
theorem Later.refl (w:World):Later w w:=⟨fun _ _ h=>h⟩
theorem Later.trans {a b c:World} (h:Later a b) (k:Later b c):Later a c:=⟨fun i o e=>k.block i o (h.block i o e)⟩
theorem Later.same {w wx:World} (he:wx.heap=w.heap):Later w wx:=⟨fun k o h=>by rw [he];exact h⟩
theorem Later.push {w wx:World} {o:Obj} (he:wx.heap=w.heap.push o):Later w wx:=⟨fun k o' h=>by
 rw [he,Array.getElem?_push,if_neg (by have:=(Array.getElem?_eq_some_iff.1 h).1;omega)];exact h⟩
theorem Later.holds {w wx:World} {H:HL} (h:Later w wx) (hH:Holds w H):Holds wx H:=⟨hH.one,fun p hp=>h.block p.1 p.2 (hH.mem p hp)⟩
theorem Later.cell {w wx:World} (h:Later w wx) {p:Addr} {u:Value} (hc:w.cell? p=some u):wx.cell? p=some u:=by
 have hk:=World.block_lt_of_cell? w p hc
 have he:=Array.getElem?_eq_getElem hk
 rw [World.cell?_of_block (w:=w) ((h.block _ _ he).trans he.symm)];exact hc
theorem Later.dr {w wx:World} (h:∃ k,wx=w.drewN k):Later w wx:=by obtain ⟨k,rfl⟩:=h;exact Later.same rfl
theorem Grew.dr {w wx:World} (h:∃ k,wx=w.drewN k):Grew w wx:=by obtain ⟨k,rfl⟩:=h;exact (Grew.refl w).drewN k
theorem Holds.dr {w wx:World} {H:HL} (hH:Holds w H) (h:∃ k,wx=w.drewN k):Holds wx H:=by obtain ⟨k,rfl⟩:=h;exact hH.drewN k
def allOf (w:World):HL:=(List.range w.heap.size).map fun k=>(k,(w.heap[k]?).getD (.deferred none))
theorem keyc_map_range (f:Nat→Obj) (b:Nat):∀ n,keyc b ((List.range n).map fun k=>(k,f k))=if b<n then 1 else 0
 |0=>by simp [keyc]
 |n+1=>by
  rw [List.range_succ,List.map_append,keyc_append,keyc_map_range f b n]
  simp only [List.map_cons,List.map_nil,keyc_cons,keyc_nil]
  by_cases h:b<n
  ·rw [if_pos h,if_neg (by omega),if_pos (by omega)]
  ·by_cases h':b=n
   ·subst h';simp
   ·rw [if_neg h,if_neg (by omega),if_neg (by omega)]
theorem holds_all (w:World):Holds w (allOf w):=by
 refine ⟨fun b=>?_,fun p hp=>?_⟩
 ·unfold allOf;rw [keyc_map_range];split <;> omega
 ·unfold allOf at hp
  obtain ⟨k,hk,rfl⟩:=List.mem_map.1 hp
  have hk':k<w.heap.size:=by simpa using hk
  simp [Array.getElem?_eq_getElem hk']
theorem mem_allOf {w:World} {b:Nat} {o:Obj} (h:w.heap[b]?=some o):(b,o)∈allOf w:=by
 have hk:=(Array.getElem?_eq_some_iff.1 h).1
 unfold allOf
 exact List.mem_map.2 ⟨b,by simpa using hk,by simp [h]⟩
theorem below_all {W w:World} {H:HL} (h:Holds w (H++allOf W)) (hg:Grew W w):Below W.heap.size W w:=by
 refine ⟨hg.os,hg.tape,hg.output,hg.size,fun k hk=>?_⟩
 have hW:=Array.getElem?_eq_getElem hk
 rw [h.get (List.mem_append_right _ (mem_allOf hW)),hW]
theorem below_all' {W w:World} (h:Holds w (allOf W)) (hg:Grew W w):Below W.heap.size W w:=below_all (H:=[]) (by simpa using h) hg
theorem all_block {W w:World} {H:HL} (h:Holds w (H++allOf W)) {k:Nat} (hk:k<W.heap.size):w.heap[k]?=W.heap[k]?:=by
 have hW:=Array.getElem?_eq_getElem hk
 rw [h.get (List.mem_append_right _ (mem_allOf hW)),hW]
theorem all_cell {W w:World} {H:HL} (h:Holds w (H++allOf W)) {p:Addr} {u:Value} (hc:W.cell? p=some u):w.cell? p=some u:=by
 have hk:=World.block_lt_of_cell? W p hc
 rw [World.cell?_of_block (w:=W) (all_block h hk),hc]
set_option linter.unusedSimpArgs false
class PO (G H:HL):Prop where
 m:∀ p,p∈G→p∈H
 c:∀ b,keyc b G≤keyc b H
class RO (x:Nat × Obj) (H:HL) (R:outParam HL):Prop where
 m:∀ p,p∈x::R→p∈H
 c:∀ b,keyc b (x::R)≤keyc b H
class RA (A H:HL) (R:outParam HL):Prop where
 m:∀ p,p∈A++R→p∈H
 c:∀ b,keyc b (A++R)≤keyc b H
section
variable {x y:Nat × Obj} {A B G H R S:HL}
instance (priority:=high):RO x (x::H) H:=⟨fun _ h=>h,fun _=>Nat.le_refl _⟩
instance [i:RO x H R]:RO x (y::H) (y::R):=⟨fun p h=>by
 rcases List.mem_cons.1 h with h | h
 ·exact List.mem_cons_of_mem _ (i.m p (h ▸ List.mem_cons_self))
 ·rcases List.mem_cons.1 h with h | h
  ·exact h ▸ List.mem_cons_self
  ·exact List.mem_cons_of_mem _ (i.m p (List.mem_cons_of_mem _ h)),fun b=>by have:=i.c b;simp only [keyc_cons] at this ⊢;omega⟩
instance [i:RO x H R]:RO x (A++H) (A++R):=⟨fun p h=>by
 rcases List.mem_cons.1 h with h | h
 ·exact List.mem_append_right _ (i.m p (h ▸ List.mem_cons_self))
 ·rcases List.mem_append.1 h with h | h
  ·exact List.mem_append_left _ h
  ·exact List.mem_append_right _ (i.m p (List.mem_cons_of_mem _ h)),fun b=>by have:=i.c b;simp only [keyc_cons,keyc_append] at this ⊢;omega⟩
instance (priority:=low) [i:RO x A R]:RO x (A++H) (R++H):=⟨fun p h=>by
 rcases List.mem_cons.1 h with h | h
 ·exact List.mem_append_left _ (i.m p (h ▸ List.mem_cons_self))
 ·rcases List.mem_append.1 h with h | h
  ·exact List.mem_append_left _ (i.m p (List.mem_cons_of_mem _ h))
  ·exact List.mem_append_right _ h,fun b=>by have:=i.c b;simp only [keyc_cons,keyc_append] at this ⊢;omega⟩
instance (priority:=high):RA A (A++H) H:=⟨fun _ h=>h,fun _=>Nat.le_refl _⟩
instance (priority:=high):RA A A []:=⟨fun p h=>by rw [List.append_nil] at h;exact h,fun b=>by rw [List.append_nil];exact Nat.le_refl _⟩
instance (priority:=high):RA [] H H:=⟨fun _ h=>h,fun _=>Nat.le_refl _⟩
instance [i:RO x H R] [j:RA A R S]:RA (x::A) H S:=⟨fun p h=>by
 rcases List.mem_cons.1 h with h | h
 ·exact i.m p (h ▸ List.mem_cons_self)
 ·exact i.m p (List.mem_cons_of_mem _ (j.m p h)),fun b=>by have:=i.c b;have:=j.c b;simp only [List.cons_append,keyc_cons,keyc_append] at *;omega⟩
instance [i:RA A H R] [j:RA B R S]:RA (A++B) H S:=⟨fun p h=>by
 rw [List.append_assoc] at h
 rcases List.mem_append.1 h with h | h
 ·exact i.m p (List.mem_append_left _ h)
 ·exact i.m p (List.mem_append_right _ (j.m p h)),fun b=>by have:=i.c b;have:=j.c b;simp only [keyc_cons,keyc_append] at *;omega⟩
instance (priority:=low) [i:RA A H R]:RA A (y::H) (y::R):=⟨fun p h=>by
 rcases List.mem_append.1 h with h | h
 ·exact List.mem_cons_of_mem _ (i.m p (List.mem_append_left _ h))
 ·rcases List.mem_cons.1 h with h | h
  ·exact h ▸ List.mem_cons_self
  ·exact List.mem_cons_of_mem _ (i.m p (List.mem_append_right _ h)),fun b=>by have:=i.c b;simp only [keyc_cons,keyc_append] at *;omega⟩
instance (priority:=low) [i:RA A H R]:RA A (B++H) (B++R):=⟨fun p h=>by
 rcases List.mem_append.1 h with h | h
 ·exact List.mem_append_right _ (i.m p (List.mem_append_left _ h))
 ·rcases List.mem_append.1 h with h | h
  ·exact List.mem_append_left _ h
  ·exact List.mem_append_right _ (i.m p (List.mem_append_right _ h)),fun b=>by have:=i.c b;simp only [keyc_cons,keyc_append] at *;omega⟩
instance (priority:=low) [i:RA A B R]:RA A (B++H) (R++H):=⟨fun p h=>by
 rcases List.mem_append.1 h with h | h
 ·exact List.mem_append_left _ (i.m p (List.mem_append_left _ h))
 ·rcases List.mem_append.1 h with h | h
  ·exact List.mem_append_left _ (i.m p (List.mem_append_right _ h))
  ·exact List.mem_append_right _ h,fun b=>by have:=i.c b;simp only [keyc_cons,keyc_append] at *;omega⟩
instance [i:RA G H R]:PO G H:=⟨fun p h=>i.m p (List.mem_append_left _ h),fun b=>by have:=i.c b;simp only [keyc_append] at *;omega⟩
theorem Holds.p {w:World} (h:Holds w H) [i:PO G H]:Holds w G:=h.sub i.m i.c
end
end Go.Proofs.YtoelopghilbfeaaGreat
namespace Go.Proofs.YtoelopghilbfeaaGreat
open Go.RowKit
def okfz (fz:Nat × Nat) (n:Nat):Prop:=∀ i,i<n→¬ (fz.1≤i∧i<fz.2)
theorem okfz_zero (n:Nat):okfz (0,0) n:=fun i _ h=>by simp at h
section
variable {w w':World} {H H' A B C Fr:HL} {b:Nat} {cs:Array Value} {t:TypeId} {fz:Nat × Nat}
theorem frozen_of_block (hg:w.heap[b]?=some (.cells cs t fz)) (hf:okfz fz cs.size) {i:Nat} (hi:i<cs.size):w.frozen? ⟨b,i,none⟩=false:=by
 have:=hf i hi
 obtain ⟨lo,h'⟩:=fz
 simp only [World.frozen?,hg]
 simp only at this
 simp
 omega
theorem Holds.set' (h:Holds w ((b,Obj.cells cs t fz)::H)) (i:Nat) (u:Value):Holds (w.setCell ⟨b,i,none⟩ u) ((b,Obj.cells (cs.setIfInBounds i u) t fz)::H):=by
 refine ⟨fun c=>?_,fun p hp=>?_⟩
 ·have:=h.one c;rw [keyc_cons] at this ⊢;exact this
 ·rcases List.mem_cons.1 hp with rfl | hp
  ·have:=h.get (List.mem_cons_self)
   simp [World.setCell,Array.getElem?_modify,this]
  ·have hne:=Holds.apart (A:=[(b,Obj.cells cs t fz)]) (B:=H) (by simpa using h) (List.mem_singleton.2 rfl) hp
   exact (Below.heap_setCell w _ u p.1 (fun e=>hne e.symm)).trans (h.mem p (List.mem_cons_of_mem _ hp))
theorem Holds.setRow' (h:Holds w ((b,Obj.cells cs t fz)::H)) (cs':Array Value):Holds (w.setRow b cs') ((b,Obj.cells cs' t fz)::H):=by
 refine ⟨fun c=>?_,fun p hp=>?_⟩
 ·have:=h.one c;rw [keyc_cons] at this ⊢;exact this
 ·rcases List.mem_cons.1 hp with rfl | hp
  ·exact setRow_heap w b cs cs' t fz (h.get (List.mem_cons_self))
  ·have hne:=Holds.apart (A:=[(b,Obj.cells cs t fz)]) (B:=H) (by simpa using h) (List.mem_singleton.2 rfl) hp
   exact (setRow_other w b p.1 _ (fun e=>hne e.symm)).trans (h.mem p (List.mem_cons_of_mem _ hp))
end
theorem Holds.hcell {w:World} {b:Nat} {cs:Array Value} {t:TypeId} {fz:Nat × Nat} {H:HL} (h:Holds w ((b,Obj.cells cs t fz)::H)) (i:Nat):w.cell? ⟨b,i,none⟩=cs[i]?:=h.cell (t:=t) (fz:=fz) (by simp) i
theorem Holds.hlt {w:World} {b:Nat} {o:Obj} {H:HL} (h:Holds w ((b,o)::H)):b<w.heap.size:=h.lt (p:=(b,o)) (by simp)
theorem Holds.hfrozen {w:World} {b:Nat} {cs:Array Value} {t:TypeId} {H:HL} (h:Holds w ((b,Obj.cells cs t)::H)) (i:Nat):w.frozen? ⟨b,i,none⟩=false:=h.frozen (t:=t) (cs:=cs) (by simp) i
theorem storeCells_fz {P:Program} (g o:Nat) (t:TypeId) (fz:Nat × Nat):∀ (vs:List Value) (i:Nat) (cur:Array Value) (w:World),w.heap[g]?=some (.cells cur t fz)→okfz fz cur.size→o+i+vs.length≤cur.size→(∀ v∈vs,v.oneCell'=true) →
  (storeCells ⟨g,o,none⟩ vs i).run P w=.ok () (w.setRow g (cur.toList.take (o+i)++vs++cur.toList.drop (o+i+vs.length)).toArray)
 |[],i,cur,w,hg,_,_,_=>by
  simp only [storeCells,List.append_nil,List.length_nil,Nat.add_zero,List.take_append_drop,Array.toArray_toList]
  rw [setRow_self w g cur t fz hg]
  rfl
 |v::rest,i,cur,w,hg,hf,hl,h1=>by
  have hi:o+i<cur.size:=by simp at hl;omega
  have hadd:(⟨g,o,none⟩:Addr).add i=⟨g,o+i,none⟩:=by unfold Addr.add;split <;> simp_all
  have hcell:w.cell? ⟨g,o+i,none⟩=some cur[o+i]:=by simp [World.cell?,hg,hi]
  have hfro:w.frozen? ⟨g,o+i,none⟩=false:=frozen_of_block hg hf hi
  have hst:(store ((⟨g,o,none⟩:Addr).add i) v).run P w=.ok () (w.setRow g (cur.setIfInBounds (o+i) v)):=by
   rw [hadd,run_store P w _ v _ (h1 v (by simp)),hcell]
   simp [hfro,setCell_eq_setRow w g (o+i) cur t fz v hg]
  have ih:=storeCells_fz (P:=P) g o t fz rest (i+1) (cur.setIfInBounds (o+i) v) (w.setRow g (cur.setIfInBounds (o+i) v)) (setRow_heap w g cur _ t _ hg) (by simpa using hf) (by simp at hl ⊢;omega) (fun x hx=>h1 x (by simp [hx]))
  simp only [storeCells,Sem.run_bind,hst,Result.andThen_ok,ih,setRow_setRow]
  congr 3
  have e:=list_seg_step cur.toList (o+i) v rest (by simp at hl ⊢;omega)
  simpa [Array.toList_setIfInBounds,Nat.add_assoc] using e
def IsRow (e:TypeId) (size:Nat) (v:Value) (n:Nat) (xs:List Value) (H:HL):Prop :=
 xs.length=n * size ∧
 ((v=.slice none 0 0∧n=0∧H=[]) ∨
  ∃ g cap cur fz,v=.slice (some ⟨g,0,none⟩) n cap∧n≤cap∧cap≤maxLen∧cap * size≤cur.size∧cur.toList.take (n * size)=xs∧okfz fz cur.size∧H=[(g,.cells cur e fz)])
theorem IsRow.nil (e:TypeId) (size:Nat):IsRow e size (.slice none 0 0) 0 [] []:=⟨by simp,.inl ⟨rfl,rfl,rfl⟩⟩
def ReadsAt (w:World) (size:Nat) (v:Value) (n:Nat) (xs:List Value):Prop :=
 xs.length=n * size∧∃ A c,v=.slice A n c∧n≤c∧c≤maxLen∧(0<n→∃ b o,A=some ⟨b,o,none⟩∧∀ j u,xs[j]?=some u→w.cell? ⟨b,o+j,none⟩=some u)
section
variable {w w':World} {e:TypeId} {size n:Nat} {v:Value} {xs:List Value} {H Fr:HL}
theorem ReadsAt.drew (h:ReadsAt w size v n xs):ReadsAt w.drew size v n xs:=h
theorem ReadsAt.drewN (h:ReadsAt w size v n xs) (k:Nat):ReadsAt (w.drewN k) size v n xs:=h
theorem ReadsAt.keep (h:ReadsAt w size v n xs) (hk:∀ p u,w.cell? p=some u→w'.cell? p=some u):ReadsAt w' size v n xs:=by
 obtain ⟨h1,A,c,hv,hn,hc,h2⟩:=h
 refine ⟨h1,A,c,hv,hn,hc,fun h0=>?_⟩
 obtain ⟨b,o,hA,h3⟩:=h2 h0
 exact ⟨b,o,hA,fun j u hu=>hk _ _ (h3 j u hu)⟩
theorem IsRow.reads (h:IsRow e size v n xs H) (hH:Holds w (H++Fr)):ReadsAt w size v n xs:=by
 obtain ⟨h1,h2⟩:=h
 refine ⟨h1,?_⟩
 rcases h2 with ⟨rfl,rfl,rfl⟩ | ⟨g,cap,cur,fz,rfl,hn,hc,hs,ht,hf,rfl⟩
 ·exact ⟨none,0,rfl,by omega,by simp [maxLen],fun h=>absurd h (by omega)⟩
 ·refine ⟨_,_,rfl,hn,hc,fun _=>⟨g,0,rfl,fun j u hu=>?_⟩⟩
  rw [← ht,List.getElem?_take] at hu
  split at hu
  ·rw [hH.cell (t:=e) (cs:=cur) (fz:=fz) (by simp)]
   simpa using hu
  ·cases hu
theorem IsRow.le (h:IsRow e size v n xs H):n≤maxLen:=by
 rcases h.2 with ⟨_,rfl,_⟩ | ⟨g,cap,cur,fz,rfl,hn,hc,_⟩
 ·simp
 ·omega
theorem ReadsAt.le (h:ReadsAt w size v n xs):n≤maxLen:=by
 obtain ⟨_,A,c,_,hn,hc,_⟩:=h;omega
theorem IsRow.val (h:IsRow e size v n xs H):∃ A c,v=.slice A n c:=by
 rcases h.2 with ⟨rfl,rfl,_⟩ | ⟨g,cap,cur,fz,rfl,_⟩
 ·exact ⟨_,_,rfl⟩
 ·exact ⟨_,_,rfl⟩
theorem IsRow.made {e:TypeId} (g n:Nat) (cs:Array Value) (hs:cs.size=n * size) (hn:n≤maxLen):IsRow e size (.slice (some ⟨g,0,none⟩) n n) n cs.toList [(g,.cells cs e)] :=
 ⟨by simpa using hs,.inr ⟨g,n,cs,(0,0),rfl,Nat.le_refl _,hn,by omega,by rw [← hs,← Array.length_toList,List.take_length],okfz_zero _,rfl⟩⟩
theorem IsRow.made0 {e:TypeId} (g n:Nat) (cs:Array Value) (hs:cs.size=n * size) (hn:n≤maxLen):IsRow e size (.slice (some ⟨g,0,none⟩) 0 n) 0 [] [(g,.cells cs e)] :=
 ⟨by simp,.inr ⟨g,n,cs,(0,0),rfl,Nat.zero_le _,hn,by omega,by simp,okfz_zero _,rfl⟩⟩
theorem ReadsAt.of_block {g o n c:Nat} {cs:Array Value} {e:TypeId} {fz:Nat × Nat} (hg:w.heap[g]?=some (.cells cs e fz)) (xs:List Value) (hx:xs.length=n * size) (hn:n≤c) (hc:c≤maxLen)
  (h:∀ j u,xs[j]?=some u→cs[o+j]?=some u):ReadsAt w size (.slice (some ⟨g,o,none⟩) n c) n xs :=
 ⟨hx,_,_,rfl,hn,hc,fun _=>⟨g,o,rfl,fun j u hu=>by rw [cell_of_row w g (o+j) cs e fz hg];exact h j u hu⟩⟩
end
theorem IsRow.cell {w:World} {e:TypeId} {size n:Nat} {v:Value} {xs:List Value} {H Fr:HL} (h:IsRow e size v n xs H) (hH:Holds w (H++Fr)) {j:Nat} (hj:j<xs.length) :
  ∃ g cap,v=.slice (some ⟨g,0,none⟩) n cap∧n≤cap∧cap≤maxLen∧g<w.heap.size∧w.cell? ⟨g,j,none⟩=some xs[j]∧w.frozen? ⟨g,j,none⟩=false ∧
   ∀ (w':World) (Fr':HL),Holds w' (H++Fr')→∀ u,∃ H',IsRow e size v n (xs.set j u) H'∧Holds (w'.setCell ⟨g,j,none⟩ u) (H'++Fr'):=by
 obtain ⟨hl,h2⟩:=h
 rcases h2 with ⟨rfl,rfl,rfl⟩ | ⟨g,cap,cur,fz,rfl,hn,hc,hs,ht,hf,rfl⟩
 ·simp at hl;subst hl;simp at hj
 ·have hnc:n * size≤cap * size:=Nat.mul_le_mul_right _ hn
  have hjc:j<cur.size:=by omega
  have hg:w.heap[g]?=some (.cells cur e fz):=hH.get (by simp)
  refine ⟨g,cap,rfl,hn,hc,hH.lt (p:=(g,.cells cur e fz)) (by simp),?_,frozen_of_block hg hf hjc,fun w' Fr' h' u=>?_⟩
  ·rw [cell_of_row w g j cur e fz hg]
   have:xs[j]?=some xs[j]:=List.getElem?_eq_getElem hj
   rw [← this,← ht,List.getElem?_take,if_pos (by omega)]
   simp
  ·refine ⟨[(g,.cells (cur.setIfInBounds j u) e fz)],⟨by simpa using hl,.inr ⟨g,cap,_,fz,rfl,hn,hc,by simpa using hs,?_,by simpa using hf,rfl⟩⟩,?_⟩
   ·rw [Array.toList_setIfInBounds,List.take_set,ht]
   ·exact Holds.set' (H:=Fr') (by simpa using h') j u
section
variable {P:Program} {w:World} {e:TypeId} {size n:Nat} {v:Value} {xs:List Value} {H Fr:HL}
theorem addr_add_lit (b o k:Nat):(⟨b,o,none⟩:Addr).add k=⟨b,o+k,none⟩:=by unfold Addr.add;split <;> simp_all
theorem run_append_row (t ty:TypeId) (i:TypeInfo) (z:Value) (bytes:Nat) (ht:P.underlying t=some (.slice e)) (hi:P.info? e=some i) (hz:i.zero=some z)
  (hsize:i.size=size) (hby:i.bytes=bytes) (hzs:z.cells.size=size) (hsz:0<size)
  (hrow:IsRow e size v n xs H) (hH:Holds w (H++Fr)) {u:Value} {m:Nat} {news:List Value} (hsrc:ReadsAt w size u m news) (h1:∀ x∈news,x.oneCell'=true)
  (h63:n+m≤maxLen) (hbytes:(n+m) * bytes≤140737488355328) :
  ∃ v' w' H',(Builtin.append_ #[t,t] ty #[v,u]).run P w=.ok v' w'∧IsRow e size v' (n+m) (xs++news) H'∧Holds w' (H'++Fr)∧Grew w w':=by
 subst hsize
 subst hby
 obtain ⟨hl,A,c,rfl,hmc,hcm,hsr⟩:=hsrc
 have hsmall:n+m≤9223372036854775807:=by simp only [maxLen] at h63;omega
 have hlen:(xs++news).length=(n+m) * i.size:=by rw [List.length_append,hrow.1,hl,Nat.add_mul]
 by_cases hm:m=0
 ·
  subst hm
  have hn0:news=[]:=List.eq_nil_of_length_eq_zero (by simpa using hl)
  subst hn0
  refine ⟨v,w,H,?_,by simpa using hrow,hH,Grew.refl w⟩
  rcases hrow.2 with ⟨rfl,rfl,rfl⟩ | ⟨g,cap,cur,fz,rfl,hn,hc,hs,htk,hf,rfl⟩
  ·cases A <;> simp [Builtin.append_,run_underlying ht,sizeOf,typeInfo,hi,Builtin.lenOf,Builtin.firstCells,loadCells,loadCellsFrom]
  ·cases A <;> simp [Builtin.append_,run_underlying ht,sizeOf,typeInfo,hi,Builtin.lenOf,Builtin.firstCells,hn,storeCells,loadCells,loadCellsFrom]
 ·obtain ⟨b,o,rfl,hnews0⟩:=hsr (by omega)
  have hnews:∀ j u,news[j]?=some u→w.cell? ((⟨b,o,none⟩:Addr).add j)=some u:=fun j u hu=>by rw [addr_add_lit];exact hnews0 j u hu
  have grown:∀ (olds:List Value) (old:Nat),olds=xs→Holds w Fr→
    ∃ H',IsRow e i.size (.slice (some ⟨w.heap.size,0,none⟩) (n+m) (grownCap w (n+m) old e)) (n+m) (xs++news) H' ∧
     Holds (w.drew.alloc (.cells (olds.toArray++news.toArray++Builtin.zeroCells z.cells (grownCap w (n+m) old e - (n+m))) e)) (H'++Fr):=by
   intro olds old ho hFr
   subst ho
   have hge:=grownCap_ge w (n+m) old e
   have hcm:grownCap w (n+m) old e≤maxLen:=grownCap_le_maxLen w (n+m) old e h63
   refine ⟨[(w.heap.size,_)],⟨hlen,.inr ⟨w.heap.size,_,_,_,rfl,hge,hcm,?_,?_,okfz_zero _,rfl⟩⟩,hFr.drew.alloc _⟩
   ·simp only [Array.size_append,List.size_toArray,size_zeroCells,hzs,hrow.1,hl,← Nat.add_mul]
    exact Nat.mul_le_mul_right _ (by omega)
   ·simp only [Array.toList_append,List.append_assoc]
    rw [← List.append_assoc,← hlen]
    exact List.take_left
  rcases hrow.2 with ⟨rfl,rfl,rfl⟩ | ⟨g,cap,cur,fz,rfl,hnc,hcm',hcs,htake,hf,rfl⟩
  ·have hx:xs=[]:=List.eq_nil_of_length_eq_zero (by simpa using hrow.1)
   subst hx
   have hr:=run_append_nil (P:=P) w t ty e i z ht hi hz ⟨b,o,none⟩ m c news hl hnews (by omega) (by omega) (by have hb:=hbytes;simp only [Nat.zero_add] at hb;omega)
   obtain ⟨H',hg1,hg2⟩:=grown [] 0 rfl (by simpa using hH)
   simp only [Nat.zero_add,List.nil_append] at hg1 hg2 ⊢
   refine ⟨_,_,H',hr,hg1,?_,(Grew.refl w).drew.alloc _⟩
   simpa using hg2
  ·by_cases hroom:n+m≤cap
   ·have hfit:n * i.size+news.length≤cur.size:=by rw [hl,← Nat.add_mul];exact Nat.le_trans (Nat.mul_le_mul_right _ hroom) hcs
    have hg:w.heap[g]?=some (.cells cur e fz):=hH.get (by simp)
    have hfc:=run_firstCells_some (P:=P) w i.size m ⟨b,o,none⟩ m c news hl hnews
    have hst:=storeCells_fz (P:=P) g (n * i.size) e fz news 0 cur w hg hf (by simpa using hfit) h1
    simp only [Nat.add_zero] at hst
    have hr:(Builtin.append_ #[t,t] ty #[.slice (some ⟨g,0,none⟩) n cap,.slice (some ⟨b,o,none⟩) m c]).run P w =
      .ok (.slice (some ⟨g,0,none⟩) (n+m) cap) (w.setRow g (cur.toList.take (n * i.size)++news++cur.toList.drop (n * i.size+news.length)).toArray):=by
     simp [Builtin.append_,run_underlying ht,sizeOf,typeInfo,hi,Builtin.lenOf,hroom,hfc,Addr.add_lit,hst]
    have hcsz:(cur.toList.take (n * i.size)++news++cur.toList.drop (n * i.size+news.length)).toArray.size=cur.size:=by
     simp only [List.size_toArray,List.length_append,List.length_take,List.length_drop,Array.length_toList];omega
    refine ⟨_,_,[(g,.cells (cur.toList.take (n * i.size)++news++cur.toList.drop (n * i.size+news.length)).toArray e fz)],hr,⟨hlen,.inr ⟨g,cap,_,fz,rfl,hroom,hcm',?_,?_,?_,rfl⟩⟩,?_,(Grew.refl w).setRow _ _⟩
    ·rw [hcsz];exact hcs
    ·rw [htake,← hlen];exact List.take_left
    ·rw [hcsz];exact hf
    ·exact Holds.setRow' (H:=Fr) (by simpa using hH) _
   ·have hreads:∀ j u,xs[j]?=some u→w.cell? ((⟨g,0,none⟩:Addr).add j)=some u:=by
     intro j u hu
     rw [addr_add_lit,Nat.zero_add,hH.cell (t:=e) (cs:=cur) (fz:=fz) (by simp)]
     rw [← htake,List.getElem?_take] at hu
     split at hu
     ·simpa using hu
     ·cases hu
    have hr:=run_append_grow (P:=P) w t ty e i z ht hi hz ⟨g,0,none⟩ n cap xs hrow.1 hreads ⟨b,o,none⟩ m c news hl hnews (by omega) (by omega) (growslice_fits (by omega) hbytes)
    obtain ⟨H',hg1,hg2⟩:=grown xs cap rfl (hH.right)
    exact ⟨_,_,H',hr,hg1,hg2,(Grew.refl w).drew.alloc _⟩
theorem wpList_append_row {ops:Array Oper} {rest:List Oper} {o:Oper} {a:Act} {Q:Exit→Act→World→Prop} (hgd:o.guard=none) (s x:Operand) (t:TypeId)
  (ho:o.op=.call { callee:=.builtin .append,args:=#[s,x],argTypes:=#[t,t] })
  (i:TypeInfo) (z:Value) (bytes:Nat) (ht:P.underlying t=some (.slice e)) (hi:P.info? e=some i) (hz:i.zero=some z)
  (hsize:i.size=size) (hby:i.bytes=bytes) (hzs:z.cells.size=size) (hsz:0<size)
  (hs:a.eval s=v) {u:Value} (hx:a.eval x=u) (hrow:IsRow e size v n xs H) (hH:Holds w (H++Fr)) {m:Nat} {news:List Value} (hsrc:ReadsAt w size u m news) (h1:∀ x∈news,x.oneCell'=true)
  (h63:n+m≤maxLen) (hbytes:(n+m) * bytes≤140737488355328)
  (h:∀ A' c' w' H',IsRow e size (.slice A' (n+m) c') (n+m) (xs++news) H'→Holds w' (H'++Fr)→Grew w w'→wpList P ops Q rest (a.put o.dst (.slice A' (n+m) c')) w'):wpList P ops Q (o::rest) a w:=by
 refine wpList_plain hgd fun K hK=>?_
 obtain ⟨v',w',H',hr,h2,h3,h4⟩:=run_append_row (P:=P) t o.type i z bytes ht hi hz hsize hby hzs hsz hrow hH hsrc h1 h63 hbytes
 obtain ⟨A',c',rfl⟩:=h2.val
 unfold Oper.wp execOp
 simp only [ho,resolve,invoke,builtin,Sem.run_bind,Sem.run_pure,Result.andThen_ok,List.map_toArray,List.map_cons,List.map_nil,hs,hx,hr]
 exact hK _ _ (h A' c' w' H' h2 h3 h4)
theorem step_append_row {ops:Array Oper} {o:Oper} {a:Act} {K:Act→World→Prop} {Q:Exit→Act→World→Prop} {E:Prop} (hgd:o.guard=none) (s x:Operand) (t:TypeId)
  (ho:o.op=.call { callee:=.builtin .append,args:=#[s,x],argTypes:=#[t,t] })
  (i:TypeInfo) (z:Value) (bytes:Nat) (ht:P.underlying t=some (.slice e)) (hi:P.info? e=some i) (hz:i.zero=some z)
  (hsize:i.size=size) (hby:i.bytes=bytes) (hzs:z.cells.size=size) (hsz:0<size)
  (hs:a.eval s=v) {u:Value} (hx:a.eval x=u) (hrow:IsRow e size v n xs H) (hH:Holds w (H++Fr)) {m:Nat} {news:List Value} (hsrc:ReadsAt w size u m news) (h1:∀ x∈news,x.oneCell'=true)
  (h63:n+m≤maxLen) (hbytes:(n+m) * bytes≤140737488355328)
  (h:∀ A' c' w' H',IsRow e size (.slice A' (n+m) c') (n+m) (xs++news) H'→Holds w' (H'++Fr)→Grew w w'→K (a.put o.dst (.slice A' (n+m) c')) w') :
  if Region.wanted o (yielded ops a.tmps)=true then Oper.wp P o a w K Q else E:=by
 have hw:Region.wanted o (yielded ops a.tmps)=true:=by simp [Region.wanted,hgd]
 rw [if_pos hw]
 obtain ⟨v',w',H',hr,h2,h3,h4⟩:=run_append_row (P:=P) t o.type i z bytes ht hi hz hsize hby hzs hsz hrow hH hsrc h1 h63 hbytes
 obtain ⟨A',c',rfl⟩:=h2.val
 unfold Oper.wp execOp
 simp only [ho,resolve,invoke,builtin,Sem.run_bind,Sem.run_pure,Result.andThen_ok,List.map_toArray,List.map_cons,List.map_nil,hs,hx,hr]
 exact h A' c' w' H' h2 h3 h4
end
end Go.Proofs.YtoelopghilbfeaaGreat
namespace Go.Proofs.YtoelopghilbfeaaGreat
open Go.RowKit
structure SlT (P:Program) (t e:TypeId) (size bytes:Nat) (z:Value):Prop where
 under:P.underlying t=some (.slice e)
 info:∃ i,P.info? e=some i∧i.zero=some z∧i.size=size∧i.bytes=bytes
 cells:z.cells.size=size
 pos:0<size
theorem SlT.mk' {P:Program} {t e:TypeId} {size bytes:Nat} {z:Value} (h:P.underlying t=some (.slice e)) (hi:(P.info? e).map (fun i=>(i.zero,i.size,i.bytes))=some (some z,size,bytes))
  (hc:z.cells.size=size) (hp:0<size):SlT P t e size bytes z:=by
 refine ⟨h,?_,hc,hp⟩
 cases hq:P.info? e with
 |none=>simp [hq] at hi
 |some i =>
  simp only [hq,Option.map_some,Option.some.injEq,Prod.mk.injEq] at hi
  exact ⟨i,rfl,hi.1,hi.2.1,hi.2.2⟩
theorem flat_len {size:Nat}:∀ (l:List (List Value)),(∀ x,x∈l→x.length=size)→l.flatten.length=l.length * size
 |[],_=>by simp
 |a::l,h=>by
  simp only [List.flatten_cons,List.length_append,List.length_cons,flat_len l (fun x hx=>h x (List.mem_cons_of_mem _ hx)),h a (List.mem_cons_self),Nat.add_mul]
  omega
theorem flat_get {size:Nat}:∀ (l:List (List Value)),(∀ x,x∈l→x.length=size)→∀ (i j:Nat) (x:List Value),l[i]?=some x→j<size→l.flatten[i * size+j]?=x[j]?
 |[],_,i,j,x,hx,_=>by simp at hx
 |a::l,h,0,j,x,hx,hj=>by
  simp only [List.getElem?_cons_zero,Option.some.injEq] at hx
  subst hx
  have ha:=h a (List.mem_cons_self)
  rw [List.flatten_cons,Nat.zero_mul,Nat.zero_add,List.getElem?_append_left (by omega)]
 |a::l,h,i+1,j,x,hx,hj=>by
  simp only [List.getElem?_cons_succ] at hx
  have ha:=h a (List.mem_cons_self)
  rw [List.flatten_cons,List.getElem?_append_right (by rw [ha,Nat.add_mul];omega)]
  rw [← flat_get l (fun x hx=>h x (List.mem_cons_of_mem _ hx)) i j x hx hj]
  congr 1
  rw [ha,Nat.add_mul];omega
theorem flat_set {size:Nat}:∀ (l:List (List Value)),(∀ x,x∈l→x.length=size)→∀ (i j:Nat) (x:List Value) (u:Value),l[i]?=some x→j<size→l.flatten.set (i * size+j) u=(l.set i (x.set j u)).flatten
 |[],_,i,j,x,u,hx,_=>by simp at hx
 |a::l,h,0,j,x,u,hx,hj=>by
  simp only [List.getElem?_cons_zero,Option.some.injEq] at hx
  subst hx
  have ha:=h a (List.mem_cons_self)
  rw [List.flatten_cons,Nat.zero_mul,Nat.zero_add,List.set_append_left _ _ (by omega)]
  simp
 |a::l,h,i+1,j,x,u,hx,hj=>by
  simp only [List.getElem?_cons_succ] at hx
  have ha:=h a (List.mem_cons_self)
  rw [List.flatten_cons,List.set_append_right _ _ (by rw [ha,Nat.add_mul];omega)]
  have e:(i+1) * size+j - a.length=i * size+j:=by rw [ha,Nat.add_mul];omega
  rw [e,flat_set l (fun x hx=>h x (List.mem_cons_of_mem _ hx)) i j x u hx hj]
  simp
theorem flatten_split {α:Type}:∀ (l:List (List α)) (i:Nat) (x:List α),l[i]?=some x→l.flatten=(l.take i).flatten++(x++(l.drop (i+1)).flatten)
 |[],i,x,h=>by simp at h
 |a::l,0,x,h=>by
  simp only [List.getElem?_cons_zero,Option.some.injEq] at h
  subst h;simp
 |a::l,i+1,x,h=>by
  simp only [List.getElem?_cons_succ] at h
  simp only [List.flatten_cons,List.take_succ_cons,List.drop_succ_cons,List.append_assoc,flatten_split l i x h]
theorem flatten_set_split {α:Type}:∀ (l:List (List α)) (i:Nat) (y:List α),i<l.length→(l.set i y).flatten=(l.take i).flatten++(y++(l.drop (i+1)).flatten)
 |[],i,y,h=>by simp at h
 |a::l,0,y,h=>by simp
 |a::l,i+1,y,h=>by
  simp only [List.length_cons] at h
  simp only [List.set_cons_succ,List.flatten_cons,List.take_succ_cons,List.drop_succ_cons,List.append_assoc,flatten_set_split l i y (by omega)]
def Rows2 {α:Type} (R:List Value→α→HL→Prop) (e:TypeId) (size:Nat) (v:Value) (xs:List α) (H:HL):Prop :=
 ∃ (vss:List (List Value)) (H0:HL) (Hs:List HL),IsRow e size v xs.length vss.flatten H0∧vss.length=xs.length∧Hs.length=xs.length∧(∀ c,c∈vss→c.length=size) ∧
  (∀ (i:Nat) (c:List Value) (x:α) (h:HL),vss[i]?=some c→xs[i]?=some x→Hs[i]?=some h→R c x h)∧H=H0++Hs.flatten
section
variable {α:Type} {R:List Value→α→HL→Prop} {e:TypeId} {size:Nat} {v:Value} {xs:List α} {H Fr:HL} {w:World}
theorem Rows2.nil (R:List Value→α→HL→Prop) (e:TypeId) (size:Nat):Rows2 R e size (.slice none 0 0) [] [] :=
 ⟨[],[],[],IsRow.nil e size,rfl,rfl,by simp,by simp,by simp⟩
theorem Rows2.open_ (h:Rows2 R e size v xs H) (hH:Holds w (H++Fr)) {i:Nat} {x:α} (hx:xs[i]?=some x) :
  ∃ g cap c Hi Hr,v=.slice (some ⟨g,0,none⟩) xs.length cap∧xs.length≤cap∧cap≤maxLen∧i<xs.length∧c.length=size∧R c x Hi ∧
   (∀ j,j<size→w.cell? ⟨g,i * size+j,none⟩=c[j]?∧w.frozen? ⟨g,i * size+j,none⟩=false) ∧
   (∃ cs fz,(g,Obj.cells cs e fz)∈Hr∧okfz fz cs.size∧i * size+size≤cs.size)∧g<w.heap.size∧Holds w (Hi++(Hr++Fr)) ∧
   (∀ w' x' Hi',R c x' Hi'→Holds w' (Hi'++(Hr++Fr))→∃ H',Rows2 R e size v (xs.set i x') H'∧Holds w' (H'++Fr)) ∧
   (∀ w' j u x' Hi',j<size→R (c.set j u) x' Hi'→Holds w' (Hi'++(Hr++Fr))→∃ H',Rows2 R e size v (xs.set i x') H'∧Holds (w'.setCell ⟨g,i * size+j,none⟩ u) (H'++Fr)):=by
 obtain ⟨vss,H0,Hs,hrow,hl1,hl2,hsz,hR,rfl⟩:=h
 have hi:i<xs.length:=(List.getElem?_eq_some_iff.1 hx).1
 have hc:vss[i]?=some (vss[i]'(by omega)):=List.getElem?_eq_getElem (by omega)
 have hh:Hs[i]?=some (Hs[i]'(by omega)):=List.getElem?_eq_getElem (by omega)
 generalize hc':vss[i]'(by omega)=c at hc
 generalize hh':Hs[i]'(by omega)=Hi at hh
 have hcl:c.length=size:=hsz c (List.mem_of_getElem? hc)
 obtain ⟨hl0,hv⟩:=hrow
 rcases hv with ⟨rfl,h0,_⟩ | ⟨g,cap,cur,fz,rfl,hn,hcm,hcs,htake,hfz,rfl⟩
 ·omega
 have hflat:=flatten_split Hs i Hi hh
 have hbd:∀ j,j<size→i * size+j<xs.length * size:=by
  intro j hj
  have:(i+1) * size≤xs.length * size:=Nat.mul_le_mul_right _ hi
  rw [Nat.add_mul] at this;omega
 have hcap:xs.length * size≤cap * size:=Nat.mul_le_mul_right _ hn
 have hget:∀ j,j<size→cur[i * size+j]?=c[j]?:=by
  intro j hj
  rw [← flat_get vss hsz i j c hc hj,← htake,List.getElem?_take,if_pos (hbd j hj)]
  simp
 refine ⟨g,cap,c,Hi,(g,.cells cur e fz)::((Hs.take i).flatten++(Hs.drop (i+1)).flatten),rfl,hn,hcm,hi,hcl,hR i c x Hi hc hx hh,fun j hj=>⟨?_,?_⟩,⟨cur,fz,by simp,hfz,?_⟩,?_,?_,?_,?_⟩
 ·rw [hH.cell (t:=e) (cs:=cur) (fz:=fz) (by simp)];exact hget j hj
 ·exact frozen_of_block (t:=e) (cs:=cur) (fz:=fz) (hH.get (by simp)) hfz (by have:=hbd j hj;omega)
 ·have:(i+1) * size≤xs.length * size:=Nat.mul_le_mul_right _ hi
  rw [Nat.add_mul] at this;omega
 ·exact hH.lt (p:=(g,.cells cur e fz)) (by simp)
 ·refine hH.sub ?_ ?_
  ·intro p hp
   rw [hflat]
   simp only [List.mem_append,List.mem_cons] at hp ⊢
   rcases hp with h | (h | h | h) | h <;> simp [h]
  ·intro b
   rw [hflat]
   simp only [keyc_append,keyc_cons]
   omega
 ·intro w' x' Hi' hR' hH'
  refine ⟨_,⟨vss,[(g,.cells cur e fz)],Hs.set i Hi',⟨by simpa using hl0,.inr ⟨g,cap,cur,fz,by simp,by simpa using hn,hcm,hcs,by simpa using htake,hfz,rfl⟩⟩,by simpa using hl1,by simpa using hl2,hsz,?_,rfl⟩,?_⟩
  ·intro k c2 x2 h2 e1 e2 e3
   by_cases hk:k=i
   ·subst hk
    rw [hc] at e1
    rw [List.getElem?_set_self (by omega)] at e2 e3
    cases e1;cases e2;cases e3
    exact hR'
   ·rw [List.getElem?_set_ne (by omega)] at e2 e3
    exact hR k c2 x2 h2 e1 e2 e3
  ·refine hH'.sub ?_ ?_
   ·intro p hp
    rw [flatten_set_split Hs i Hi' (by omega)] at hp
    simp only [List.mem_append,List.mem_cons,List.not_mem_nil,or_false] at hp ⊢
    rcases hp with (h | h | h | h) | h <;> simp [h]
   ·intro b
    rw [flatten_set_split Hs i Hi' (by omega)]
    simp only [keyc_append,keyc_cons,keyc_nil]
    omega
 ·intro w' j u x' Hi' hj hR' hH'
  have hoff:=hbd j hj
  refine ⟨_,⟨vss.set i (c.set j u),[(g,.cells (cur.setIfInBounds (i * size+j) u) e fz)],Hs.set i Hi',⟨?_,.inr ⟨g,cap,cur.setIfInBounds (i * size+j) u,fz,by simp,by simpa using hn,hcm,by simpa using hcs,?_,by simpa using hfz,rfl⟩⟩,by simpa using hl1,by simpa using hl2,?_,?_,rfl⟩,?_⟩
  ·rw [← flat_set vss hsz i j c u hc hj];simpa using hl0
  ·rw [← flat_set vss hsz i j c u hc hj,← htake,Array.toList_setIfInBounds,List.length_set,List.take_set]
  ·intro c2 hc2
   rcases List.mem_or_eq_of_mem_set hc2 with h | h
   ·exact hsz c2 h
   ·rw [h];simpa using hcl
  ·intro k c2 x2 h2 e1 e2 e3
   by_cases hk:k=i
   ·subst hk
    rw [List.getElem?_set_self (by omega)] at e1 e2 e3
    cases e1;cases e2;cases e3
    exact hR'
   ·rw [List.getElem?_set_ne (by omega)] at e1 e2 e3
    exact hR k c2 x2 h2 e1 e2 e3
  ·have h1:Holds w' ((g,.cells cur e fz)::((Hs.take i).flatten++(Hs.drop (i+1)).flatten++Hi'++Fr)):=by
    refine hH'.sub ?_ ?_
    ·intro p hp
     simp only [List.mem_append,List.mem_cons] at hp ⊢
     rcases hp with h | (((h | h) | h) | h) <;> simp [h]
    ·intro b;simp only [keyc_append,keyc_cons];omega
   refine (h1.set' (i * size+j) u).sub ?_ ?_
   ·intro p hp
    rw [flatten_set_split Hs i Hi' (by omega)] at hp
    simp only [List.mem_append,List.mem_cons,List.not_mem_nil,or_false] at hp ⊢
    rcases hp with (h | h | h | h) | h <;> simp [h]
   ·intro b
    rw [flatten_set_split Hs i Hi' (by omega)]
    simp only [keyc_append,keyc_cons,keyc_nil]
    omega
theorem Rows2.val (h:Rows2 R e size v xs H):∃ A c,v=.slice A xs.length c∧xs.length≤c∧c≤maxLen:=by
 obtain ⟨vss,H0,Hs,hrow,_⟩:=h
 rcases hrow.2 with ⟨rfl,h0,_⟩ | ⟨g,cap,cur,fz,rfl,hn,hc,_⟩
 ·exact ⟨none,0,by rw [h0],by omega,by simp [maxLen]⟩
 ·exact ⟨_,_,rfl,hn,hc⟩
end
section
variable {P:Program} {w:World} {e:TypeId} {size bytes n:Nat} {z v:Value} {xs:List Value} {H Fr:HL} {t:TypeId}
theorem Holds.alloc' (h:Holds w H) (o:Obj):Holds (w.alloc o) H:=Holds.right (A:=[(w.heap.size,o)]) (h.alloc o)
theorem ReadsAt.one {x:Value}:ReadsAt (w.alloc (.cells #[x] e)) 1 (.slice (some ⟨w.heap.size,0,none⟩) 1 1) 1 [x] :=
 ReadsAt.of_block (heap_alloc_new w _) [x] rfl (Nat.le_refl _) (by simp [maxLen]) (fun j u hu=>by simpa using hu)
theorem ReadsAt.many {cs:Array Value} (hs:cs.size=n * size) (hn:n≤maxLen):ReadsAt (w.alloc (.cells cs e)) size (.slice (some ⟨w.heap.size,0,none⟩) n n) n cs.toList :=
 ReadsAt.of_block (heap_alloc_new w _) cs.toList (by simpa using hs) (Nat.le_refl _) hn (fun j u hu=>by simpa using hu)
theorem wpList_append_T {ops:Array Oper} {rest:List Oper} {o:Oper} {a:Act} {Q:Exit→Act→World→Prop} (hT:SlT P t e size bytes z) (hgd:o.guard=none) (s x:Operand)
  (ho:o.op=.call { callee:=.builtin .append,args:=#[s,x],argTypes:=#[t,t] })
  (hs:a.eval s=v) {u:Value} (hx:a.eval x=u) (hrow:IsRow e size v n xs H) (hH:Holds w (H++Fr)) {m:Nat} {news:List Value} (hsrc:ReadsAt w size u m news) (h1:∀ x∈news,x.oneCell'=true)
  (h63:n+m≤maxLen) (hbytes:(n+m) * bytes≤140737488355328)
  (h:∀ A' c' w' H',IsRow e size (.slice A' (n+m) c') (n+m) (xs++news) H'→Holds w' (H'++Fr)→Grew w w'→wpList P ops Q rest (a.put o.dst (.slice A' (n+m) c')) w'):wpList P ops Q (o::rest) a w:=by
 obtain ⟨i,hi,hz,hsz,hby⟩:=hT.info
 exact wpList_append_row hgd s x t ho i z bytes hT.under hi hz hsz hby hT.cells hT.pos hs hx hrow hH hsrc h1 h63 hbytes h
theorem step_append_T {ops:Array Oper} {o:Oper} {a:Act} {K:Act→World→Prop} {Q:Exit→Act→World→Prop} {E:Prop} (hT:SlT P t e size bytes z) (hgd:o.guard=none) (s x:Operand)
  (ho:o.op=.call { callee:=.builtin .append,args:=#[s,x],argTypes:=#[t,t] })
  (hs:a.eval s=v) {u:Value} (hx:a.eval x=u) (hrow:IsRow e size v n xs H) (hH:Holds w (H++Fr)) {m:Nat} {news:List Value} (hsrc:ReadsAt w size u m news) (h1:∀ x∈news,x.oneCell'=true)
  (h63:n+m≤maxLen) (hbytes:(n+m) * bytes≤140737488355328)
  (h:∀ A' c' w' H',IsRow e size (.slice A' (n+m) c') (n+m) (xs++news) H'→Holds w' (H'++Fr)→Grew w w'→K (a.put o.dst (.slice A' (n+m) c')) w') :
  if Region.wanted o (yielded ops a.tmps)=true then Oper.wp P o a w K Q else E:=by
 obtain ⟨i,hi,hz,hsz,hby⟩:=hT.info
 exact step_append_row hgd s x t ho i z bytes hT.under hi hz hsz hby hT.cells hT.pos hs hx hrow hH hsrc h1 h63 hbytes h
theorem ReadsAt.alloc {u:Value} {m:Nat} {news:List Value} (h:ReadsAt w size u m news) (o:Obj):ReadsAt (w.alloc o) size u m news :=
 h.keep fun p x hx=>by rw [World.cell?_alloc_lt w o p (World.block_lt_of_cell? w p hx)];exact hx
end
end Go.Proofs.YtoelopghilbfeaaGreat
namespace Go.Proofs.YtoelopghilbfeaaGreat
open Go.RowKit
theorem tBytes:SlT Tryz.prog 38 5 1 1 (.int .u8 0):=SlT.mk' (by kernel_rfl) (by kernel_rfl) (by rfl) (by decide)
theorem tInts:SlT Tryz.prog 45 3 1 8 (.int .i64 0):=SlT.mk' (by kernel_rfl) (by kernel_rfl) (by rfl) (by decide)
theorem tBools:SlT Tryz.prog 159 4 1 1 (.bool false):=SlT.mk' (by kernel_rfl) (by kernel_rfl) (by rfl) (by decide)
def cellB (x:UInt8):Value:=.int .u8 (x.toNat:Int)
def BytesAt (w:World) (v:Value) (bs:List UInt8):Prop:=ReadsAt w 1 v bs.length (bs.map cellB)
def IsBytes (v:Value) (bs:List UInt8) (H:HL):Prop:=IsRow 5 1 v bs.length (bs.map cellB) H
section
variable {P:Program}
theorem run_makeT {t e:TypeId} {size bytes:Nat} {z:Value} (hT:SlT P t e size bytes z) (kl kc:IntKind) (l c:Int) (h0:0≤l) (hlc:l≤c) (hc:c * bytes≤281474976710656) (h63:c≤9223372036854775807) (w:World) :
  (Instr.makeSlice t (.int kl l) (.int kc c)).run P w=.ok (.slice (some ⟨w.heap.size,0,none⟩) l.toNat c.toNat) (w.alloc (.cells (madeCells z.cells (c.toNat * size)) e)):=by
 obtain ⟨i,hi,hz,hs,hb⟩:=hT.info
 subst hs;subst hb
 exact run_make w t e i z hT.under hi hz kl kc l c h0 hlc (by rw [Int.mul_comm];exact hc) h63
theorem run_makeN {t e:TypeId} {size bytes:Nat} {z:Value} (hT:SlT P t e size bytes z) (l c:Nat) (hlc:l≤c) (hc:c * bytes≤281474976710656) (h63:c≤maxLen) (w:World) :
  (Instr.makeSlice t (.int .i64 (l:Int)) (.int .i64 (c:Int))).run P w=.ok (.slice (some ⟨w.heap.size,0,none⟩) l c) (w.alloc (.cells (madeCells z.cells (c * size)) e)):=by
 have:=run_makeT hT .i64 .i64 l c (by omega) (by omega) (by have h:=Int.ofNat_le.2 hc;rw [Int.natCast_mul] at h;exact h) (by simp only [maxLen] at h63;omega) w
 simp only [Int.toNat_natCast] at this
 exact this
theorem made_size {z:Value} {n:Nat}:(madeCells z.cells n).size=n:=by simp [madeCells]
end
section
variable {w w':World} {v:Value} {bs:List UInt8} {H Fr:HL}
theorem IsBytes.at_ (h:IsBytes v bs H) (hH:Holds w (H++Fr)):BytesAt w v bs:=IsRow.reads h hH
theorem BytesAt.keep (h:BytesAt w v bs) (hk:∀ p u,w.cell? p=some u→w'.cell? p=some u):BytesAt w' v bs:=ReadsAt.keep h hk
theorem IsBytes.val (h:IsBytes v bs H):∃ A c,v=.slice A bs.length c:=IsRow.val h
theorem BytesAt.val (h:BytesAt w v bs):∃ A c,v=.slice A bs.length c:=by
 obtain ⟨_,A,c,hv,_⟩:=h;exact ⟨A,c,hv⟩
end
def FrBytes (Fr:HL) (v:Value) (bs:List UInt8):Prop:=∀ w,Holds w Fr→BytesAt w v bs
theorem FrBytes.left {v:Value} {bs:List UInt8} {A B:HL} (h:FrBytes A v bs):FrBytes (A++B) v bs:=fun w hw=>h w hw.left
theorem FrBytes.right {v:Value} {bs:List UInt8} {A B:HL} (h:FrBytes B v bs):FrBytes (A++B) v bs:=fun w hw=>h w hw.right
def RetQ (w:World) (v:Value) (e:Ending) (w':World):Prop:=e=.returned v∧∃ k,w'=w.drewN k
def RetNew (R:Value→HL→Prop) (w:World) (Fr:HL) (e:Ending) (w':World):Prop:=∃ v H,e=.returned v∧R v H∧Holds w' (H++Fr)∧Grew w w'
def RetFr (v:Value) (w:World) (Fr:HL) (e:Ending) (w':World):Prop:=e=.returned v∧Holds w' Fr∧Grew w w'
def RetUpd (R:HL→Prop) (v:Value) (w:World) (Fr:HL) (e:Ending) (w':World):Prop:=e=.returned v∧∃ H,R H∧Holds w' (H++Fr)∧Grew w w'
theorem quietQ {P:Program} {f:FuncId} {args:Array Value} {w:World} {n:Nat} {v:Value} (h:Calls P f args (w.drewN n) (RetQ (w.drewN n) v)) :
  Calls P f args (w.drewN n) fun e w''=>e=.returned v∧∃ m,w''=w.drewN m:=h.mono fun _ _ ⟨he,m,hm⟩=>⟨he,n+m,by rw [hm,World.drewN_drewN]⟩
theorem quietS {P:Program} {f:FuncId} {args:Array Value} {w:World} {n:Nat} {v:Value} (h:Calls P f args (w.drewN n) fun e w'=>e=.returned v∧w.drewN n=w') :
  Calls P f args (w.drewN n) fun e w''=>e=.returned v∧∃ m,w''=w.drewN m:=h.mono fun _ _ ⟨he,hm⟩=>⟨he,n,hm.symm⟩
theorem ret_b {b b':Bool} (h:b=b'):Ending.returned (.bool b)=.returned (.bool b'):=by rw [h]
theorem drewN2 (w:World) (m n:Nat):(w.drewN m).drewN n=w.drewN (m+n):=World.drewN_drewN w m n
end Go.Proofs.YtoelopghilbfeaaGreat
namespace Go.Proofs.YtoelopghilbfeaaGreat
open Go.RowKit
set_option linter.unusedSimpArgs false
def bytesR (c:List Value) (bs:List UInt8) (H:HL):Prop:=∃ v,c=[v]∧IsBytes v bs H
def IsBys (v:Value) (l:List (List UInt8)) (H:HL):Prop:=Rows2 bytesR 38 1 v l H
def BysAt (w:World) (v:Value) (l:List (List UInt8)):Prop :=
 ∃ evs:List Value,ReadsAt w 1 v l.length evs∧evs.length=l.length∧∀ (i:Nat) (e:Value) (x:List UInt8),evs[i]?=some e→l[i]?=some x→BytesAt w e x
section
variable {w w':World} {v:Value} {l:List (List UInt8)} {H Fr:HL}
theorem IsBys.at_ (h:IsBys v l H) (hH:Holds w (H++Fr)):BysAt w v l:=by
 obtain ⟨vss,H0,Hs,hrow,hl1,hl2,hsz,hR,rfl⟩:=h
 have hH':Holds w (H0++(Hs.flatten++Fr)):=hH.assoc
 have h1:vss.flatten.length=vss.length:=by rw [flat_len vss hsz];omega
 refine ⟨vss.flatten,hrow.reads hH',by omega,fun i e x he hx=>?_⟩
 have hi:i<l.length:=(List.getElem?_eq_some_iff.1 hx).1
 have hc:vss[i]?=some (vss[i]'(by omega)):=List.getElem?_eq_getElem (by omega)
 have hh:Hs[i]?=some (Hs[i]'(by omega)):=List.getElem?_eq_getElem (by omega)
 generalize vss[i]'(by omega)=c at hc
 generalize Hs[i]'(by omega)=Hi at hh
 obtain ⟨ev,rfl,hb⟩:=hR i c x Hi hc hx hh
 have h2:=flat_get vss hsz i 0 _ hc (by omega)
 rw [Nat.mul_one,Nat.add_zero,he] at h2
 simp only [List.getElem?_cons_zero,Option.some.injEq] at h2
 subst h2
 have hflat:=flatten_split Hs i Hi hh
 rw [hflat] at hH'
 have h3:Holds w (Hi++((Hs.drop (i+1)).flatten++Fr)):=by
  have:=hH'.right
  rw [List.append_assoc,List.append_assoc] at this
  exact this.right
 exact hb.at_ h3
theorem IsBys.val (h:IsBys v l H):∃ A c,v=.slice A l.length c∧l.length≤c∧c≤maxLen:=Rows2.val h
theorem IsBys.one {b:Nat} {e:Value} {x:List UInt8} {Hx:HL} (h:IsBytes e x Hx):IsBys (.slice (some ⟨b,0,none⟩) 1 1) [x] ((b,.cells #[e] 38)::Hx):=by
 refine ⟨[[e]],[(b,.cells #[e] 38)],[Hx],IsRow.made (size:=1) (e:=38) b 1 #[e] (by rfl) (by simp [maxLen]),rfl,rfl,by simp,?_,by simp⟩
 intro i c x' h' e1 e2 e3
 match i with
 |0 =>
  simp only [List.getElem?_cons_zero,Option.some.injEq] at e1 e2 e3
  subst e1 e2 e3
  exact ⟨_,rfl,h⟩
 |k+1=>simp at e1
theorem BysAt.keep (h:BysAt w v l) (hk:∀ p u,w.cell? p=some u→w'.cell? p=some u):BysAt w' v l:=by
 obtain ⟨evs,h1,h2,h3⟩:=h
 exact ⟨evs,h1.keep hk,h2,fun i e x he hx=>(h3 i e x he hx).keep hk⟩
theorem BysAt.drewN (h:BysAt w v l) (n:Nat):BysAt (w.drewN n) v l:=h
theorem BysAt.get {A:Option Addr} {n c:Nat} (h:BysAt w (.slice A n c) l) {i:Nat} (hi:i<l.length):∃ b o e,A=some ⟨b,o,none⟩∧w.cell? ⟨b,o+i,none⟩=some e∧BytesAt w e l[i]:=by
 obtain ⟨evs,⟨_,A',c',hv,_,_,h1⟩,h2,h3⟩:=h
 injection hv with hv1 _ hv3
 subst hv1
 obtain ⟨b,o,rfl,h4⟩:=h1 (by omega)
 have he:evs[i]?=some (evs[i]'(by omega)):=List.getElem?_eq_getElem (by omega)
 exact ⟨b,o,_,rfl,h4 i _ he,h3 i _ _ he (List.getElem?_eq_getElem hi)⟩
theorem IsBys.get2 {A:Option Addr} {n c:Nat} (h:IsBys (.slice A n c) l H) (h0:0<n):l.length=n∧∃ g,A=some ⟨g,0,none⟩∧∀ j,j<n→∃ e x,l[j]?=some x∧∀ (wx:World) (Fr:HL),Holds wx (H++Fr)→wx.cell? ⟨g,j,none⟩=some e∧BytesAt wx e x:=by
 obtain ⟨vss,H0,Hs,hrow,hl1,hl2,hsz,hR,rfl⟩:=h
 have h1:vss.flatten.length=vss.length:=by rw [flat_len vss hsz];omega
 obtain ⟨_,h2⟩:=hrow
 rcases h2 with ⟨hv,_,_⟩ | ⟨g,cap,cur,fz,hv,hn,hcm,hcs,htake,hfz,rfl⟩
 ·injection hv with _ hv2 _;omega
 ·injection hv with hv1 hv2 hv3
  subst hv1
  refine ⟨hv2.symm,g,rfl,fun j hj=>?_⟩
  have hc:vss[j]?=some (vss[j]'(by omega)):=List.getElem?_eq_getElem (by omega)
  have hh:Hs[j]?=some (Hs[j]'(by omega)):=List.getElem?_eq_getElem (by omega)
  have hx:l[j]?=some (l[j]'(by omega)):=List.getElem?_eq_getElem (by omega)
  generalize vss[j]'(by omega)=c at hc
  generalize Hs[j]'(by omega)=Hi at hh
  generalize l[j]'(by omega)=x at hx
  obtain ⟨ev,rfl,hb⟩:=hR j c x Hi hc hx hh
  have h3:=flat_get vss hsz j 0 _ hc (by omega)
  rw [Nat.mul_one,Nat.add_zero] at h3
  refine ⟨ev,x,hx,fun wx Fr hH=>⟨?_,?_⟩⟩
  ·rw [hH.cell (t:=38) (cs:=cur) (fz:=fz) (by simp)]
   rw [← htake,List.getElem?_take,if_pos (by omega)] at h3
   simpa using h3
  ·have hflat:=flatten_split Hs j Hi hh
   rw [hflat] at hH
   have h4:Holds wx (Hi++((Hs.drop (j+1)).flatten++Fr)):=by
    have:=(hH.assoc).right
    rw [List.append_assoc,List.append_assoc] at this
    exact this.right
   exact hb.at_ h4
end
end Go.Proofs.YtoelopghilbfeaaGreat
namespace Go.Proofs.YtoelopghilbfeaaGreat
open Go Go.RowKit
set_option linter.unusedSimpArgs false
set_option linter.unusedVariables false
theorem Holds.tail {w:World} {x:Nat × Obj} {H:HL} (h:Holds w (x::H)):Holds w H:=Holds.right (A:=[x]) h
theorem Rows2.open2 {α:Type} {R:List Value→α→HL→Prop} {e:TypeId} {size:Nat} {v:Value} {xs:List α} {H:HL} (h:Rows2 R e size v xs H) {i:Nat} {x:α} (hx:xs[i]?=some x) :
  ∃ g cap c Hi Hr,v=.slice (some ⟨g,0,none⟩) xs.length cap∧xs.length≤cap∧cap≤maxLen∧i<xs.length∧c.length=size∧R c x Hi ∧
   (∀ (w:World) (F:HL),Holds w (Hr++F)→g<w.heap.size∧∀ j,j<size→w.cell? ⟨g,i * size+j,none⟩=c[j]?∧w.frozen? ⟨g,i * size+j,none⟩=false) ∧
   (∀ (w:World) (F:HL),Holds w (H++F)→Holds w (Hi++(Hr++F))) ∧
   (∀ (w':World) (F:HL) x' Hi',R c x' Hi'→Holds w' (Hi'++(Hr++F))→∃ H',Rows2 R e size v (xs.set i x') H'∧Holds w' (H'++F)) ∧
   (∀ (w':World) (F:HL) j u x' Hi',j<size→R (c.set j u) x' Hi'→Holds w' (Hi'++(Hr++F))→∃ H',Rows2 R e size v (xs.set i x') H'∧Holds (w'.setCell ⟨g,i * size+j,none⟩ u) (H'++F)):=by
 obtain ⟨vss,H0,Hs,hrow,hl1,hl2,hsz,hR,rfl⟩:=h
 have hi:i<xs.length:=(List.getElem?_eq_some_iff.1 hx).1
 have hc:vss[i]?=some (vss[i]'(by omega)):=List.getElem?_eq_getElem (by omega)
 have hh:Hs[i]?=some (Hs[i]'(by omega)):=List.getElem?_eq_getElem (by omega)
 generalize hc':vss[i]'(by omega)=c at hc
 generalize hh':Hs[i]'(by omega)=Hi at hh
 have hcl:c.length=size:=hsz c (List.mem_of_getElem? hc)
 obtain ⟨hl0,hv⟩:=hrow
 rcases hv with ⟨rfl,h0,_⟩ | ⟨g,cap,cur,fz,rfl,hn,hcm,hcs,htake,hfz,rfl⟩
 ·omega
 have hflat:=flatten_split Hs i Hi hh
 have hbd:∀ j,j<size→i * size+j<xs.length * size:=by
  intro j hj
  have:(i+1) * size≤xs.length * size:=Nat.mul_le_mul_right _ hi
  rw [Nat.add_mul] at this;omega
 have hcap:xs.length * size≤cap * size:=Nat.mul_le_mul_right _ hn
 have hget:∀ j,j<size→cur[i * size+j]?=c[j]?:=by
  intro j hj
  rw [← flat_get vss hsz i j c hc hj,← htake,List.getElem?_take,if_pos (hbd j hj)]
  simp
 refine ⟨g,cap,c,Hi,(g,.cells cur e fz)::((Hs.take i).flatten++(Hs.drop (i+1)).flatten),rfl,hn,hcm,hi,hcl,hR i c x Hi hc hx hh,fun w F hH=>⟨?_,fun j hj=>⟨?_,?_⟩⟩,?_,?_,?_⟩
 ·exact hH.lt (p:=(g,.cells cur e fz)) (by simp)
 ·rw [hH.cell (t:=e) (cs:=cur) (fz:=fz) (by simp)];exact hget j hj
 ·exact frozen_of_block (t:=e) (cs:=cur) (fz:=fz) (hH.get (by simp)) hfz (by have:=hbd j hj;omega)
 ·intro w F hH
  refine hH.sub ?_ ?_
  ·intro p hp
   rw [hflat]
   simp only [List.mem_append,List.mem_cons] at hp ⊢
   rcases hp with h | (h | h | h) | h <;> simp [h]
  ·intro b
   rw [hflat]
   simp only [keyc_append,keyc_cons]
   omega
 ·intro w' F x' Hi' hR' hH'
  refine ⟨_,⟨vss,[(g,.cells cur e fz)],Hs.set i Hi',⟨by simpa using hl0,.inr ⟨g,cap,cur,fz,by simp,by simpa using hn,hcm,hcs,by simpa using htake,hfz,rfl⟩⟩,by simpa using hl1,by simpa using hl2,hsz,?_,rfl⟩,?_⟩
  ·intro k c2 x2 h2 e1 e2 e3
   by_cases hk:k=i
   ·subst hk
    rw [hc] at e1
    rw [List.getElem?_set_self (by omega)] at e2 e3
    cases e1;cases e2;cases e3
    exact hR'
   ·rw [List.getElem?_set_ne (by omega)] at e2 e3
    exact hR k c2 x2 h2 e1 e2 e3
  ·refine hH'.sub ?_ ?_
   ·intro p hp
    rw [flatten_set_split Hs i Hi' (by omega)] at hp
    simp only [List.mem_append,List.mem_cons,List.not_mem_nil,or_false] at hp ⊢
    rcases hp with (h | h | h | h) | h <;> simp [h]
   ·intro b
    rw [flatten_set_split Hs i Hi' (by omega)]
    simp only [keyc_append,keyc_cons,keyc_nil]
    omega
 ·intro w' F j u x' Hi' hj hR' hH'
  have hoff:=hbd j hj
  refine ⟨_,⟨vss.set i (c.set j u),[(g,.cells (cur.setIfInBounds (i * size+j) u) e fz)],Hs.set i Hi',⟨?_,.inr ⟨g,cap,cur.setIfInBounds (i * size+j) u,fz,by simp,by simpa using hn,hcm,by simpa using hcs,?_,by simpa using hfz,rfl⟩⟩,by simpa using hl1,by simpa using hl2,?_,?_,rfl⟩,?_⟩
  ·rw [← flat_set vss hsz i j c u hc hj];simpa using hl0
  ·rw [← flat_set vss hsz i j c u hc hj,← htake,Array.toList_setIfInBounds,List.length_set,List.take_set]
  ·intro c2 hc2
   rcases List.mem_or_eq_of_mem_set hc2 with h | h
   ·exact hsz c2 h
   ·rw [h];simpa using hcl
  ·intro k c2 x2 h2 e1 e2 e3
   by_cases hk:k=i
   ·subst hk
    rw [List.getElem?_set_self (by omega)] at e1 e2 e3
    cases e1;cases e2;cases e3
    exact hR'
   ·rw [List.getElem?_set_ne (by omega)] at e1 e2 e3
    exact hR k c2 x2 h2 e1 e2 e3
  ·have h1:Holds w' ((g,.cells cur e fz)::((Hs.take i).flatten++(Hs.drop (i+1)).flatten++Hi'++F)):=by
    refine hH'.sub ?_ ?_
    ·intro p hp
     simp only [List.mem_append,List.mem_cons] at hp ⊢
     rcases hp with h | (((h | h) | h) | h) <;> simp [h]
    ·intro b;simp only [keyc_append,keyc_cons];omega
   refine (h1.set' (i * size+j) u).sub ?_ ?_
   ·intro p hp
    rw [flatten_set_split Hs i Hi' (by omega)] at hp
    simp only [List.mem_append,List.mem_cons,List.not_mem_nil,or_false] at hp ⊢
    rcases hp with (h | h | h | h) | h <;> simp [h]
   ·intro b
    rw [flatten_set_split Hs i Hi' (by omega)]
    simp only [keyc_append,keyc_cons,keyc_nil]
    omega
theorem Rows2.parts3 {α:Type} {R:List Value→α→HL→Prop} {e:TypeId} {size:Nat} {v:Value} {xs:List α} {H:HL} (h:Rows2 R e size v xs H):∃ (cells:List Value) (H0 H1:HL),H=H0++H1∧IsRow e size v xs.length cells H0∧(∀ y∈cells,∃ c x Hx,R c x Hx∧y∈c) ∧
   (∀ v' H0' c x Hx,c.length=size→R c x Hx→IsRow e size v' (xs.length+1) (cells++c) H0'→Rows2 R e size v' (xs++[x]) (H0'++(H1++Hx))):=by
 obtain ⟨vss,H0,Hs,hrow,hl1,hl2,hsz,hR,rfl⟩:=h
 refine ⟨vss.flatten,H0,Hs.flatten,rfl,hrow,?_,?_⟩
 ·intro y hy
  obtain ⟨c,hc,hyc⟩:=List.mem_flatten.1 hy
  obtain ⟨i,hi,rfl⟩:=List.mem_iff_getElem.1 hc
  exact ⟨vss[i],xs[i]'(by omega),Hs[i]'(by omega),hR i _ _ _ (List.getElem?_eq_getElem hi) (List.getElem?_eq_getElem (by omega)) (List.getElem?_eq_getElem (by omega)),hyc⟩
 ·intro v' H0' c x Hx hcl hRx hrow'
  refine ⟨vss++[c],H0',Hs++[Hx],by simpa using hrow',by simp [hl1],by simp [hl2],?_,?_,by simp⟩
  ·intro c2 h2
   rcases List.mem_append.1 h2 with h | h
   ·exact hsz c2 h
   ·rw [List.mem_singleton.1 h];exact hcl
  ·intro i c2 x2 h2 e1 e2 e3
   by_cases hi:i<xs.length
   ·rw [List.getElem?_append_left (by omega)] at e1 e2 e3
    exact hR i c2 x2 h2 e1 e2 e3
   ·rw [List.getElem?_append_right (by omega)] at e1 e2 e3
    have hk:i - xs.length=0:=by
     rcases Nat.eq_zero_or_pos (i - xs.length) with h | h
     ·exact h
     ·rw [List.getElem?_eq_none (by simp;omega)] at e2;cases e2
    rw [hl1,hk] at e1;rw [hk] at e2;rw [hl2,hk] at e3
    simp only [List.getElem?_cons_zero,Option.some.injEq] at e1 e2 e3
    subst e1;subst e2;subst e3
    exact hRx
section
variable {P:Program} {ops:Array Oper} {Q:Exit→Act→World→Prop} {md:Region.Mode} {S:World→Prop} {z:Nat}
theorem Z_takeD (i:Nat) (d:Option Nat) {oi:Oper} {v:Value} {fuel:Nat} {listed:Array Bool} {a:Act} {w:World} (hi:ops[i]?=some oi) (hdst:oi.dst=d) (hB:takeB md ops z listed i=true)
  (hQ:∀ c a w,Q (.panic c) (a.put d v) w→Q (.panic c) a w) (hw:Region.wanted oi (yielded ops a.tmps)=true) (hS:S w) (hy:∀ wx,S wx→(execOp a.eval oi).run P wx=.ok (.value v) wx)
  (h:wpAnyZ P md ops Q S z fuel (listed.setIfInBounds i true) (a.put d v) w):wpAnyZ P md ops Q S z (fuel+1) listed a w:=by
 subst hdst
 exact Z_take i hi hB hQ hw hS hy h
theorem sA {α:Type} (l:List α) (i:Nat) (a:α):l.toArray.setIfInBounds i a=(l.set i a).toArray:=by simp
theorem sS {α:Type} (x:α) (l:List α) (n:Nat) (a:α):(x::l).set (n+1) a=x::l.set n a:=rfl
theorem sZ {α:Type} (x:α) (l:List α) (a:α):(x::l).set 0 a=a::l:=rfl
theorem pt (a:Act) (d:Tmp) (v:Value):a.put (some d) v={ a with tmps:=a.tmps.setIfInBounds d v }:=rfl
theorem Zt (i d:Nat) (v:Value) {oi:Oper} {fuel:Nat} {listed:Array Bool} {a:Act} {w:World} (hi:ops[i]?=some oi) (hS:S w) (hy:∀ wx,S wx→(execOp a.eval oi).run P wx=.ok (.value v) wx)
  (h:wpAnyZ P md ops Q S z fuel (listed.setIfInBounds i true) (a.put (some d) v) w) (hdst:oi.dst=some d:=by rfl) (hB:takeB md ops z listed i=true:=by kernel_rfl)
  (hQ:∀ c a w,Q (.panic c) (a.put (some d) v) w→Q (.panic c) a w:=by exact fun _ _ _ h=>h) (hw:Region.wanted oi (yielded ops a.tmps)=true:=by rfl):wpAnyZ P md ops Q S z (fuel+1) listed a w :=
 Z_takeD i (some d) hi hdst hB hQ hw hS hy h
theorem Z_two (i j:Nat) {oi oj:Oper} {fuel:Nat} {listed:Array Bool} {a:Act} {w:World} (hi:ops[i]?=some oi) (hj:ops[j]?=some oj) (hr:Region.ready md ops listed=[i,j])
  (h1:∀ K:Act→World→Prop,(∀ a' w',S w'→(S w'→wpAnyZ P md ops Q S z fuel (listed.setIfInBounds i true) a' w')→K a' w')→if Region.wanted oi (yielded ops a.tmps)=true then Oper.wp P oi a w K Q else K (a.put oi.dst undef) w)
  (h2:∀ K:Act→World→Prop,(∀ a' w',S w'→(S w'→wpAnyZ P md ops Q S z fuel (listed.setIfInBounds j true) a' w')→K a' w')→if Region.wanted oj (yielded ops a.tmps)=true then Oper.wp P oj a w K Q else K (a.put oj.dst undef) w) :
  wpAnyZ P md ops Q S z (fuel+1) listed a w:=by
 refine ⟨fun h0=>(by rw [hr] at h0;cases h0),fun k hk=>?_⟩
 rw [hr] at hk
 rcases List.mem_cons.1 hk with rfl | hk
 ·exact wpOp_step hi fun K' hK'=>h1 K' fun a' w' h1 h2=>hK' a' w' ⟨fun _=>h1,h2 h1⟩
 ·obtain rfl:=List.mem_singleton.1 hk
  exact wpOp_step hj fun K' hK'=>h2 K' fun a' w' h1 h2=>hK' a' w' ⟨fun _=>h1,h2 h1⟩
end
end Go.Proofs.YtoelopghilbfeaaGreat
namespace Go.Proofs.YtoelopghilbfeaaGreat
set_option linter.unusedSimpArgs false
open Go
section
variable {P:Program} {ops:Array Oper} {Q:Exit→Act→World→Prop} {md:Region.Mode} {S:World→Prop} {z:Nat}
def wpAnyY (P:Program) (md:Region.Mode) (ops:Array Oper) (Q:Exit→Act→World→Prop) (S:World→Prop) (z:Nat):Nat→Array Bool→Act→World→Prop
 |0,listed,a,w=>Region.ready md ops listed=[]∧Q .normal a w
 |fuel+1,listed,a,w =>
  (Region.ready md ops listed=[]→Q .normal a w) ∧
  ∀ i∈Region.ready md ops listed,wpOp P ops Q i (fun a' w'=>((listed.setIfInBounds i true).getD z false=false→S w')∧wpAnyY P md ops Q S z fuel (listed.setIfInBounds i true) a' w') a w
theorem wpAny_of_Y:∀ (fuel:Nat) (listed:Array Bool) (a:Act) (w:World),wpAnyY P md ops Q S z fuel listed a w→wpAny P md ops Q fuel listed a w
 |0,_,_,_,h=>h
 |fuel+1,_,_,_,h=>⟨h.1,fun i hi=>wpOp_mono (fun a' w' h'=>wpAny_of_Y fuel _ a' w' h'.2) (h.2 i hi)⟩
theorem getD_set_neF {l:Array Bool} {i j:Nat} (h:i≠j):(l.setIfInBounds i true).getD j false=l.getD j false:=by
 simp [Array.getD_eq_getD_getElem?,Array.getElem?_setIfInBounds,h]
theorem getD_set_true {l:Array Bool} {i j:Nat} (h:(l.setIfInBounds i true).getD j false=false):l.getD j false=false:=by
 by_cases hij:i=j
 ·subst hij
  by_cases hs:i<l.size
  ·simp [Array.getD,hs] at h
  ·simp [Array.getD,hs]
 ·rwa [getD_set_neF hij] at h
theorem getD_push {A:Array Bool} {x:Bool} {j:Nat}:(A.push x).getD j false=if j=A.size then x else A.getD j false:=by
 rw [Array.getD_eq_getD_getElem?,Array.getD_eq_getD_getElem?,Array.getElem?_push]
 split <;> rfl
theorem wpAnyY_first {i:Nat} {oi:Oper} {v:Value} (S2:World→Prop) (hi:ops[i]?=some oi) (hsel:∀ (j:Nat) (o:Oper) cs b,ops[j]?=some o→o.op≠.select cs b)
  (hQ:∀ c a w,Q (.panic c) (a.put oi.dst v) w→Q (.panic c) a w) (hiz:i≠z)
  (hS2:∀ (listed:Array Bool) (w:World),HeadInv md ops ops.size listed→listed.getD i false=false→(listed.getD z false=false→S w)→S2 w) :
  ∀ (fuel:Nat) (listed:Array Bool) (a:Act) (w:World),HeadInv md ops ops.size listed →
   (∀ j oj,ops[j]?=some oj→j≠i→listed.getD j true=false→(∀ e∈oj.after,Region.binds md e=true→e.on≠i)→oi.apart ops oj=true) →
   i∈Region.ready md ops listed→StillIf P ops S2 oi v a→(listed.getD z false=false→S w) →
   wpAnyY P md ops Q S z fuel (listed.setIfInBounds i true) (a.put oi.dst v) w→wpAnyY P md ops Q S z (fuel+1) listed a w:=by
 intro fuel
 induction fuel with
 |zero =>
  intro listed a w inv _ hr hy hS H
  have hun:listed.getD i false=false:=getD_both (mem_ready.1 hr).1
  refine ⟨fun h=>(by rw [h] at hr;cases hr),fun j hj=>?_⟩
  by_cases hji:j=i
  ·subst hji;exact hy.wpOp hi (hS2 listed w inv hun hS) ⟨fun h=>hS (getD_set_true h),H⟩
  ·have:=ready_mono hj hji
   rw [H.1] at this
   cases this
 |succ fuel ih =>
  intro listed a w inv hfree hr hy hS H
  have hun:listed.getD i false=false:=getD_both (mem_ready.1 hr).1
  refine ⟨fun h=>(by rw [h] at hr;cases hr),fun j hj=>?_⟩
  by_cases hji:j=i
  ·subst hji;exact hy.wpOp hi (hS2 listed w inv hun hS) ⟨fun h=>hS (getD_set_true h),H⟩
  ·have h1:=H.2 j (ready_mono hj hji)
   obtain ⟨hjun,oj,hoj,hall⟩:=mem_ready.1 hj
   have hjs:=(Array.getElem?_eq_some_iff.1 hoj).1
   have hnot:∀ e∈oj.after,Region.binds md e=true→e.on≠i:=fun e he hb heq=>by
    have h1:=hall e he hb
    rw [heq,getD_both (mem_ready.1 hr).1] at h1
    cases h1
   have h2:=wpOp_still hoj (hfree j oj hoj hji hjun hnot) (fun cs b=>hsel i oi cs b hi) (fun cs b=>hsel j oj cs b hoj) hQ hy h1
   have hfree':∀ k ok,ops[k]?=some ok→k≠i→(listed.setIfInBounds j true).getD k true=false →
     (∀ e∈ok.after,Region.binds md e=true→e.on≠i)→oi.apart ops ok=true:=fun k ok hk hki hun hno=>by
    refine hfree k ok hk hki ?_ hno
    by_cases hjk:j=k
    ·subst hjk;exact hjun
    ·rw [getD_set_ne true hjk] at hun;exact hun
   have hz:∀ w',(((listed.setIfInBounds i true).setIfInBounds j true).getD z false=false→S w')→((listed.setIfInBounds j true).getD z false=false→S w'):=by
    intro w' h h0
    refine h ?_
    rw [Array.setIfInBounds_comm _ _ (Ne.symm hji),getD_set_neF hiz];exact h0
   refine wpOp_mono (fun a' w' h3=>⟨hz w' h3.2.1,ih (listed.setIfInBounds j true) a' w' (inv.set hj (by omega)) hfree' (ready_mono hr (Ne.symm hji)) h3.1 (hz w' h3.2.1) ?_⟩) h2
   rw [Array.setIfInBounds_comm _ _ hji]
   exact h3.2.2
def descB (md:Region.Mode) (ops:Array Oper) (i:Nat):Nat→Array Bool
 |0=>#[]
 |n+1=>(descB md ops i n).push (n == i || match ops[n]? with
  |some o=>o.after.any fun e=>Region.binds md e && (descB md ops i n).getD e.on false
  |none=>false)
theorem descB_size (md:Region.Mode) (ops:Array Oper) (i:Nat):∀ n,(descB md ops i n).size=n
 |0=>rfl
 |n+1=>by rw [descB,Array.size_push,descB_size md ops i n]
theorem descB_spec {i:Nat} {listed:Array Bool} (inv:HeadInv md ops ops.size listed) (hun:listed.getD i false=false):∀ n j,(descB md ops i n).getD j false=true→listed.getD j false=false
 |0,j,h=>by simp [descB,Array.getD] at h
 |n+1,j,h=>by
  have hsz:=descB_size md ops i n
  rw [descB,getD_push,hsz] at h
  by_cases hjn:j=n
  ·subst hjn
   rw [if_pos rfl] at h
   have h2:=h
   rcases Bool.or_eq_true _ _ |>.mp h2 with h3 | h3
   ·rw [beq_iff_eq] at h3;rw [h3];exact hun
   ·cases ho:ops[j]? with
    |none=>rw [ho] at h3;cases h3
    |some o =>
     rw [ho] at h3
     simp only [Array.any_eq_true'] at h3
     obtain ⟨e,he,h4⟩:=h3
     obtain ⟨h5,h6⟩:=Bool.and_eq_true _ _ |>.mp h4
     have h7:=descB_spec inv hun j e.on h6
     cases hl:listed.getD j false with
     |false=>rfl
     |true =>
      have:=inv.closed j o ho hl e he h5
      rw [h7] at this;cases this
  ·rw [if_neg hjn] at h
   exact descB_spec inv hun n j h
def takeYB (md:Region.Mode) (ops:Array Oper) (z:Nat) (listed:Array Bool) (i:Nat):Bool :=
 Region.noSelect ops && Region.free md ops listed i && (Region.ready md ops listed).contains i && (i != z) && closedB md ops ops.size listed
theorem Y_takeD (i:Nat) (d:Option Nat) {oi:Oper} {v:Value} {fuel:Nat} {listed:Array Bool} {a:Act} {w:World} (hi:ops[i]?=some oi) (hdst:oi.dst=d) (hB:(takeYB md ops z listed i && (descB md ops i (z+1)).getD z false)=true)
  (hQ:∀ c a w,Q (.panic c) (a.put d v) w→Q (.panic c) a w) (hw:Region.wanted oi (yielded ops a.tmps)=true) (hS:S w) (hy:∀ wx,S wx→(execOp a.eval oi).run P wx=.ok (.value v) wx)
  (h:wpAnyY P md ops Q S z fuel (listed.setIfInBounds i true) (a.put d v) w):wpAnyY P md ops Q S z (fuel+1) listed a w:=by
 subst hdst
 unfold takeYB at hB
 simp only [Bool.and_eq_true,bne_iff_ne] at hB
 obtain ⟨⟨⟨⟨⟨h1,h2⟩,h3⟩,h4⟩,h5⟩,h6⟩:=hB
 exact wpAnyY_first S hi (Region.noSelect_spec h1) hQ h4 (fun l w2 inv hun hs=>hs (descB_spec inv hun _ _ h6)) fuel listed a w (closedB_spec h5) (Region.free_spec hi h2) (by simpa using h3) (.inl ⟨hw,fun wx hx=>by rw [hy wx hx];exact ⟨rfl,rfl⟩⟩) (fun _=>hS) h
theorem Y_takeT (i:Nat) (d:Option Nat) {oi:Oper} {v:Value} {fuel:Nat} {listed:Array Bool} {a:Act} {w:World} (hi:ops[i]?=some oi) (hdst:oi.dst=d) (hB:takeYB md ops z listed i=true)
  (hQ:∀ c a w,Q (.panic c) (a.put d v) w→Q (.panic c) a w) (hw:Region.wanted oi (yielded ops a.tmps)=true) (hS:S w) (hy:∀ wx,(execOp a.eval oi).run P wx=.ok (.value v) wx)
  (h:wpAnyY P md ops Q S z fuel (listed.setIfInBounds i true) (a.put d v) w):wpAnyY P md ops Q S z (fuel+1) listed a w:=by
 subst hdst
 unfold takeYB at hB
 simp only [Bool.and_eq_true,bne_iff_ne] at hB
 obtain ⟨⟨⟨⟨h1,h2⟩,h3⟩,h4⟩,h5⟩:=hB
 exact wpAnyY_first (fun _=>True) hi (Region.noSelect_spec h1) hQ h4 (fun _ _ _ _ _=>trivial) fuel listed a w (closedB_spec h5) (Region.free_spec hi h2) (by simpa using h3) (.inl ⟨hw,fun wx _=>by rw [hy wx];exact ⟨rfl,rfl⟩⟩) (fun _=>hS) h
theorem Y_mid (i:Nat) {o:Oper} {fuel:Nat} {listed:Array Bool} {a:Act} {w:World} (ho:ops[i]?=some o) (hr:Region.ready md ops listed=[i])
  (h:∀ K:Act→World→Prop,(∀ a' w',S w'→(S w'→wpAnyY P md ops Q S z fuel (listed.setIfInBounds i true) a' w')→K a' w')→if Region.wanted o (yielded ops a.tmps)=true then Oper.wp P o a w K Q else K (a.put o.dst undef) w) :
  wpAnyY P md ops Q S z (fuel+1) listed a w:=by
 refine ⟨fun h0=>(by rw [hr] at h0;cases h0),fun j hj=>?_⟩
 rw [hr] at hj
 obtain rfl:=List.mem_singleton.1 hj
 exact wpOp_step ho fun K' hK'=>h K' fun a' w' h1 h2=>hK' a' w' ⟨fun _=>h1,h2 h1⟩
theorem Y_late (i:Nat) {o:Oper} {fuel:Nat} {listed:Array Bool} {a:Act} {w:World} (ho:ops[i]?=some o) (hr:Region.ready md ops listed=[i]) (hz:(listed.setIfInBounds i true).getD z false=true)
  (h:∀ K:Act→World→Prop,(∀ a' w',wpAnyY P md ops Q S z fuel (listed.setIfInBounds i true) a' w'→K a' w')→if Region.wanted o (yielded ops a.tmps)=true then Oper.wp P o a w K Q else K (a.put o.dst undef) w) :
  wpAnyY P md ops Q S z (fuel+1) listed a w:=by
 refine ⟨fun h0=>(by rw [hr] at h0;cases h0),fun j hj=>?_⟩
 rw [hr] at hj
 obtain rfl:=List.mem_singleton.1 hj
 exact wpOp_step ho fun K' hK'=>h K' fun a' w' h2=>hK' a' w' ⟨fun h=>(by rw [hz] at h;cases h),h2⟩
theorem Y_two (i j:Nat) {oi oj:Oper} {fuel:Nat} {listed:Array Bool} {a:Act} {w:World} (hi:ops[i]?=some oi) (hj:ops[j]?=some oj) (hr:Region.ready md ops listed=[i,j])
  (h1:∀ K:Act→World→Prop,(∀ a' w',S w'→(S w'→wpAnyY P md ops Q S z fuel (listed.setIfInBounds i true) a' w')→K a' w')→if Region.wanted oi (yielded ops a.tmps)=true then Oper.wp P oi a w K Q else K (a.put oi.dst undef) w)
  (h2:∀ K:Act→World→Prop,(∀ a' w',S w'→(S w'→wpAnyY P md ops Q S z fuel (listed.setIfInBounds j true) a' w')→K a' w')→if Region.wanted oj (yielded ops a.tmps)=true then Oper.wp P oj a w K Q else K (a.put oj.dst undef) w) :
  wpAnyY P md ops Q S z (fuel+1) listed a w:=by
 refine ⟨fun h0=>(by rw [hr] at h0;cases h0),fun k hk=>?_⟩
 rw [hr] at hk
 rcases List.mem_cons.1 hk with rfl | hk
 ·exact wpOp_step hi fun K' hK'=>h1 K' fun a' w' h1 h2=>hK' a' w' ⟨fun _=>h1,h2 h1⟩
 ·obtain rfl:=List.mem_singleton.1 hk
  exact wpOp_step hj fun K' hK'=>h2 K' fun a' w' h1 h2=>hK' a' w' ⟨fun _=>h1,h2 h1⟩
theorem Y_done {listed:Array Bool} {a:Act} {w:World} (hr:Region.ready md ops listed=[]) (h:Q .normal a w):∀ fuel,wpAnyY P md ops Q S z fuel listed a w
 |0=>⟨hr,h⟩
 |_+1=>⟨fun _=>h,by rw [hr];simp⟩
theorem Y_begin {id:Nat} {a:Act} {w:World} (S:World→Prop) (z:Nat) {l:List Oper} (hm:P.follows .mixedOrders=true)
  (hS:∀ w1,(∃ k,w1=w.drewN k)→S w1) (h:∀ w1,(∃ k,w1=w.drewN k)→S w1→wpAnyY P .any l.toArray Q S z l.length (Array.replicate l.length false) a w1):(Code.region id l.toArray true).wp P Q a w :=
 wp_region_any hm (by have:=wpAny_of_Y _ _ _ _ (h w.drew ⟨1,rfl⟩ (hS _ ⟨1,rfl⟩));simpa using this)
theorem Z_skipD (i:Nat) (d:Option Nat) {oi:Oper} {fuel:Nat} {listed:Array Bool} {a:Act} {w:World} (hi:ops[i]?=some oi) (hdst:oi.dst=d) (hB:takeB md ops z listed i=true)
  (hQ:∀ c a w,Q (.panic c) (a.put d undef) w→Q (.panic c) a w) (hw:Region.wanted oi (yielded ops a.tmps)=false) (hS:S w)
  (h:wpAnyZ P md ops Q S z fuel (listed.setIfInBounds i true) (a.put d undef) w):wpAnyZ P md ops Q S z (fuel+1) listed a w:=by
 subst hdst
 exact Z_skip i hi hB hQ hw hS h
theorem Zs (i d:Nat) {oi:Oper} {fuel:Nat} {listed:Array Bool} {a:Act} {w:World} (hi:ops[i]?=some oi) (hS:S w)
  (h:wpAnyZ P md ops Q S z fuel (listed.setIfInBounds i true) (a.put (some d) undef) w) (hdst:oi.dst=some d:=by rfl) (hB:takeB md ops z listed i=true:=by kernel_rfl)
  (hQ:∀ c a w,Q (.panic c) (a.put (some d) undef) w→Q (.panic c) a w:=by exact fun _ _ _ h=>h) (hw:Region.wanted oi (yielded ops a.tmps)=false:=by rfl):wpAnyZ P md ops Q S z (fuel+1) listed a w :=
 Z_skipD i (some d) hi hdst hB hQ hw hS h
theorem Yd (i d:Nat) (v:Value) {oi:Oper} {fuel:Nat} {listed:Array Bool} {a:Act} {w:World} (hi:ops[i]?=some oi) (hS:S w) (hy:∀ wx,S wx→(execOp a.eval oi).run P wx=.ok (.value v) wx)
  (h:wpAnyY P md ops Q S z fuel (listed.setIfInBounds i true) (a.put (some d) v) w) (hdst:oi.dst=some d:=by rfl) (hB:(takeYB md ops z listed i && (descB md ops i (z+1)).getD z false)=true:=by kernel_rfl)
  (hQ:∀ c a w,Q (.panic c) (a.put (some d) v) w→Q (.panic c) a w:=by exact fun _ _ _ h=>h) (hw:Region.wanted oi (yielded ops a.tmps)=true:=by rfl):wpAnyY P md ops Q S z (fuel+1) listed a w :=
 Y_takeD i (some d) hi hdst hB hQ hw hS hy h
theorem Yt (i d:Nat) (v:Value) {oi:Oper} {fuel:Nat} {listed:Array Bool} {a:Act} {w:World} (hi:ops[i]?=some oi) (hS:S w) (hy:∀ wx,(execOp a.eval oi).run P wx=.ok (.value v) wx)
  (h:wpAnyY P md ops Q S z fuel (listed.setIfInBounds i true) (a.put (some d) v) w) (hdst:oi.dst=some d:=by rfl) (hB:takeYB md ops z listed i=true:=by kernel_rfl)
  (hQ:∀ c a w,Q (.panic c) (a.put (some d) v) w→Q (.panic c) a w:=by exact fun _ _ _ h=>h) (hw:Region.wanted oi (yielded ops a.tmps)=true:=by rfl):wpAnyY P md ops Q S z (fuel+1) listed a w :=
 Y_takeT i (some d) hi hdst hB hQ hw hS hy h
end
end Go.Proofs.YtoelopghilbfeaaGreat
namespace Go.Proofs.YtoelopghilbfeaaGreat
open Go.RowKit
set_option linter.unusedSimpArgs false
set_option linter.unusedVariables false
def SameTo (xs ys:List UInt8) (w:World) (v:Value) (wr:World):Prop:=∃ k m:Nat,k≤xs.length∧v=.int .i64 k∧xs.take k=ys.take k∧wr=w.drewN m
theorem byte_ne (x y:UInt8):((x.toNat:Int) != (y.toNat:Int))=decide (x≠y):=by
 by_cases h:x=y
 ·subst h;simp
 ·have:(x.toNat:Int)≠(y.toNat:Int):=fun e=>h (UInt8.toNat_inj.1 (by omega))
  simp [h,this]
set_option maxHeartbeats 400000 in
theorem same_any (va vb:Value) (xs ys:List UInt8) (w:World) (ha:BytesAt w va xs) (hb:BytesAt w vb ys) :
  Calls Tryz.prog 24 #[va,vb] w (RetQ w (.bool (decide (xs=ys)))):=by
 have hna:=ReadsAt.le ha
 have hnb:=ReadsAt.le hb
 unfold maxLen at hna hnb
 obtain ⟨_,A,ca,rfl,_,_,ha⟩:=ha
 obtain ⟨_,B,cb,rfl,_,_,hb⟩:=hb
 have Ha:=Lib.hid ha
 have Hb:=Lib.hid hb
 clear ha hb
 by_cases hl:xs.length=ys.length
 ·have hl0:((xs.length:Int) != (ys.length:Int))=false:=by rw [hl];simp
  have hl1:(xs.length != ys.length)=false:=by rw [hl];simp
  have HL:=Lib.hid hl
  clear hl
  go_enter Tryz.func24,Tryz.ntmps24
  go_wp2
  go_loopw [5] (fun v wr=>SameTo xs ys w v wr) (fun v _=>xs.length - (intOf v).toNat)
  case atStart=>exact ⟨0,0,by omega,rfl,by simp,rfl⟩
  case round =>
   obtain ⟨k,m,hk,rfl,hrel,rfl⟩:=hrel
   have HR:=Lib.hid hrel;clear hrel
   by_cases hlt:k<xs.length
   ·have hlt2:k<ys.length:=by have:=HL.out;omega
    obtain ⟨b1,o1,rfl,h1⟩:=Ha.out (by omega)
    obtain ⟨b2,o2,rfl,h2⟩:=Hb.out (by omega)
    have c1:w.cell? ⟨b1,o1+k,none⟩=some (.int .u8 (xs[k].toNat:Int)):=h1 k _ (by simp [hlt,cellB])
    have c2:w.cell? ⟨b2,o2+k,none⟩=some (.int .u8 (ys[k].toNat:Int)):=h2 k _ (by simp [hlt2,cellB])
    clear h1 h2
    by_cases hx:xs[k]=ys[k]
    ·have e1:((xs[k].toNat:Int) != (ys[k].toNat:Int))=false:=by rw [hx];simp
     have HX:=Lib.hid hx;clear hx
     go_wp2
     go_quiet (fail)
     go_wp2
     go_roundw
     case rel=>exact ⟨k+1,m+nq,by omega,by go_num,by rw [List.take_succ_eq_append_getElem hlt,List.take_succ_eq_append_getElem hlt2,HR.out,HX.out],rfl⟩
     case measure=>simp [intOf];omega
    ·have e1:((xs[k].toNat:Int) != (ys[k].toNat:Int))=true:=by rw [byte_ne];simpa using hx
     have HX:=Lib.hid hx;clear hx
     go_wp2
     go_quiet (fail)
     go_wp2
     go_ret
     exact ⟨ret_b (b:=false) (decide_eq_false fun e=>by subst e;exact HX.out rfl).symm,m+nq,drewN2 _ _ _⟩
   ·go_wp2
    go_ret
    have h1:=HR.out
    have:=HL.out
    rw [List.take_of_length_le (by omega),List.take_of_length_le (by omega)] at h1
    exact ⟨ret_b (b:=true) (decide_eq_true h1).symm,m,rfl⟩
 ·have hl0:((xs.length:Int) != (ys.length:Int))=true:=by simp;omega
  have hl1:(xs.length != ys.length)=true:=by simpa using hl
  go_enter Tryz.func24,Tryz.ntmps24
  go_wp2
  go_ret
  exact ⟨ret_b (b:=false) (decide_eq_false fun e=>by subst e;exact hl rfl).symm,0,rfl⟩
def fillB (n:Int) (i:Nat):UInt8:=UInt8.ofNat (((n / 2 ^ (8 * (i % 4))+i) % 256).toNat)
def fillL (n:Int) (size:Int):List UInt8:=if size≤300 then (List.range size.toNat).map (fillB n) else []
def FillTo (n size:Int) (w:World) (Fr:HL) (v i:Value) (wr:World):Prop :=
 ∃ (k:Nat) (H:HL),k≤300∧i=.int .i64 k∧(k:Int)≤max size 0∧(300<size→k=0)∧IsBytes v ((List.range k).map (fillB n)) H∧Holds wr (H++Fr)∧Grew w wr
theorem fill_step {n size:Int} {w wr w':World} {Fr H':HL} {k:Nat} {v':Value} (hs:size≤300) (hk:(k:Int)<size) (hg:Grew w wr)
  (hrow:IsRow 5 1 v' (k+1) (((List.range k).map (fillB n)).map cellB++[Value.int IntKind.u8 ((n / 2 ^ (8 * (k % 4))+(k:Int)) % 256)]) H')
  (hH2:Holds w' (H'++Fr)) {o:Obj} (hg2:Grew (wr.alloc o) w'):FillTo n size w Fr v' (.int .i64 ((k:Int)+1)) w':=by
 refine ⟨k+1,H',by omega,by go_num,by omega,fun h=>by omega,?_,hH2,(hg.alloc o).trans hg2⟩
 have e:[Value.int IntKind.u8 ((n / 2 ^ (8 * (k % 4))+(k:Int)) % 256)]=[cellB (fillB n k)]:=by
  have h0:0≤(n / 2 ^ (8 * (k % 4))+(k:Int)) % 256∧(n / 2 ^ (8 * (k % 4))+(k:Int)) % 256<256:=by omega
  have h1:((fillB n k).toNat:Int)=(n / 2 ^ (8 * (k % 4))+(k:Int)) % 256:=by
   unfold fillB
   generalize (n / 2 ^ (8 * (k % 4))+(k:Int)) % 256=r at h0 ⊢
   obtain ⟨r,rfl⟩:=Int.eq_ofNat_of_zero_le h0.1
   simp only [Int.toNat_natCast,UInt8.toNat_ofNat']
   omega
  simp only [cellB,h1]
 rw [e] at hrow
 unfold IsBytes
 rw [List.range_succ,List.map_append]
 simpa using hrow
set_option maxHeartbeats 400000 in
theorem fill_any (n size:Int) (w:World) (Fr:HL) (hH:Holds w Fr) (hs:size≤9223372036854775807) :
  Calls Tryz.prog 16 #[.int .i64 n,.int .i64 size] w (RetNew (fun v H=>IsBytes v (fillL n size) H) w Fr):=by
 go_enter Tryz.func16,Tryz.ntmps16
 go_wp2
 go_loopw [5,6] (fun v i wr=>FillTo n size w Fr v i wr) (fun _ i _=>size.toNat - (intOf i).toNat)
 case atStart=>exact ⟨0,[],by omega,rfl,by omega,fun _=>rfl,IsRow.nil _ _,hH,Grew.refl w⟩
 case round =>
  obtain ⟨k,H,hk,rfl,hm,h300,hb,hH',hg⟩:=hrel
  have HB:=Lib.hid hb;clear hb
  have HM:=Lib.hid hm;clear hm
  have HQ:=Lib.hid h300;clear h300
  by_cases h1:(k:Int)<size
  ·by_cases h2:size≤300
   ·go_wp2_with (at_builtin;refine wpList_append_T tBytes (by rfl) (.tmp 16) (.tmp 26) (by rfl) (by rfl) (by rfl) HB.out (hH'.alloc' _) ReadsAt.one (by simp [Value.oneCell']) (by simp [maxLen];omega) (by simp;omega) ?_;intro A' c' w' H' hrow hH2 hg2)
    simp only [List.length_map,List.length_range] at hrow
    exact ⟨fill_step h2 h1 hg hrow hH2 hg2,by simp [intOf];omega⟩
   ·go_wp2
    go_ret
    have hk0:=HQ.out (by omega)
    subst hk0
    exact ⟨_,H,rfl,by unfold fillL;rw [if_neg (by omega)];exact HB.out,hH',hg⟩
  ·go_wp2
   go_ret
   refine ⟨_,H,rfl,?_,hH',hg⟩
   have hm:=HM.out
   have hk0:=HQ.out
   unfold fillL
   have:size.toNat=k:=by omega
   rw [if_pos (by omega),this]
   exact HB.out
def lowI (x n:Int):Int:=wrap64 ((IntKind.u64.wrap x).tmod n)
theorem low_bd (x n:Int) (hn:1≤n) (hn2:n≤9223372036854775807):0≤lowI x n∧lowI x n<n:=by
 have h0:0≤IntKind.u64.wrap x:=by simp [IntKind.wrap,IntKind.signed,IntKind.bits];omega
 have h1:(IntKind.u64.wrap x).tmod n=(IntKind.u64.wrap x) % n:=Int.tmod_eq_emod_of_nonneg h0
 have h2:=Int.emod_nonneg (IntKind.u64.wrap x) (show n≠0 by omega)
 have h3:=Int.emod_lt_of_pos (IntKind.u64.wrap x) (show 0<n by omega)
 have h4:lowI x n=(IntKind.u64.wrap x) % n:=by
  unfold lowI
  rw [h1]
  generalize (IntKind.u64.wrap x) % n=r at h2 h3
  unfold wrap64;omega
 omega
set_option maxHeartbeats 400000 in
theorem low_any (x n:Int) (w:World) (hn:1≤n) (hn2:n≤9223372036854775807) :
  Calls Tryz.prog 11 #[.int .i64 x,.int .i64 n] w fun e w'=>e=.returned (.int .i64 (lowI x n))∧w=w':=by
 go_enter Tryz.func11,Tryz.ntmps11
 go_wp2
 go_ret
 exact ⟨rfl,rfl⟩
end Go.Proofs.YtoelopghilbfeaaGreat
