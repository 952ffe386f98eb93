/-
  What the arguments that come in are, for the walks.
-/
import Derived.Test.YtoelopghilbfeaaGreatRows
import Derived.Test.YtoelopghilbfeaaGreatBase
import Derived.WalkKit
import Derived.ProofKit
import Derived.OpenShut
import Derived.ShutString
import Derived.ChangeOld
import Derived.Below
import Derived.Deep.Slices
import Derived.Deep.Fields
import Derived.ChangeSame
namespace Go.Proofs.YtoelopghilbfeaaGreat
open Go.ChangeShapes Go.WideShapes Go.ChangeAt Go.RowKit Go.Deep
theorem own:ownKnob Tryz.prog.godebug=none:=by kernel_rfl
theorem laidOut:laidOutB Tryz.prog=true:=by kernel_rfl
section
variable {H:Type} {enc:TypeId × Value→H} {P:Program} {W:World} {spare:Nat→Bool} {held:Bool}
theorem open_rows {t e:TypeId} {size:Nat} (Pc:List Value→Prop) (ht:P.underlying t=some (.slice e)) (hC:P.cellsOf e=size) (hs:0<size)
  (helem:∀ (fuel:Nat) (cs:List Value) (y:DataW H × List MemPlace),cs.length=size→DataW.trod enc P W 0 spare held fuel e cs=some y→Pc cs)
  {v:Value} {d:DataW H} {p:List MemPlace} (hv:Value.okWide P W .any 0 t v) (h:DataW.Trod enc P W 0 spare held t v d p) :
  ∃ css:List (List Value),ReadsAt W size v css.length css.flatten∧∀ c,c∈css→c.length=size∧Pc c:=by
 obtain ⟨a0,len0,cap0,rfl⟩:=okWide_slice ht hv
 obtain ⟨fuel,hf⟩:=h
 rcases open_slice ht hf with ⟨hcs,_⟩ | ⟨a,len,cap,m,n,D,Pl,hcs,hb,hl,hm,hmm,hx,hi⟩
 ·simp [Value.cells] at hcs
  obtain ⟨rfl,rfl,rfl⟩:=hcs
  exact ⟨[],⟨by simp,none,0,rfl,by simp,by simp,fun h=>absurd h (by simp)⟩,by simp⟩
 ·simp [Value.cells] at hcs
  obtain ⟨rfl,rfl,rfl⟩:=hcs
  rw [hC] at hi
  have hlm:len0≤m:=by rw [hmm];split <;> omega
  have hex:∀ k:Nat,k≤len0→∃ css:List (List Value),css.length=k∧(∀ c,c∈css→c.length=size∧Pc c)∧∀ j u,css.flatten[j]?=some u→W.cell? (a.add j)=some u:=by
   intro k
   induction k with
   |zero=>exact fun _=>⟨[],rfl,by simp,by simp⟩
   |succ k ih =>
    intro hk
    obtain ⟨css,h1,h2,h3⟩:=ih (by omega)
    obtain ⟨cs',hc',ht'⟩:=hi k (by omega)
    obtain ⟨_,hcl,hat⟩:=World.cells?_some hc'
    refine ⟨css++[cs'],by simp [h1],?_,?_⟩
    ·intro c hc
     rcases List.mem_append.1 hc with h | h
     ·exact h2 c h
     ·rw [List.mem_singleton.1 h];exact ⟨hcl,helem n cs' _ hcl ht'⟩
    ·intro j u hu
     have hfl:css.flatten.length=k * size:=by rw [flat_len css (fun x hx=>(h2 x hx).1),h1]
     rw [List.flatten_append,List.flatten_singleton] at hu
     by_cases hj:j<k * size
     ·rw [List.getElem?_append_left (by omega)] at hu;exact h3 j u hu
     ·rw [List.getElem?_append_right (by omega),hfl] at hu
      have hjl:j - k * size<size:=by
       rcases Nat.lt_or_ge (j - k * size) size with h | h
       ·exact h
       ·rw [List.getElem?_eq_none (by omega)] at hu;cases hu
      have h4:=hat (j - k * size) hjl
      rw [Go.Deep.add_add] at h4
      rw [show j=k * size+(j - k * size) by omega,h4,hu]
  obtain ⟨css,h1,h2,h3⟩:=hex len0 (Nat.le_refl _)
  have hfl:css.flatten.length=len0 * size:=by rw [flat_len css (fun x hx=>(h2 x hx).1),h1]
  refine ⟨css,⟨by rw [hfl,h1],some a,cap0,by rw [h1],by omega,hm,fun h0=>?_⟩,h2⟩
  rw [h1] at h0
  have hlen:0<css.flatten.length:=by rw [hfl];exact Nat.mul_pos h0 hs
  have hc0:=h3 0 _ (List.getElem?_eq_getElem hlen)
  have hspot:a.spot=none:=by
   have e:a.add 0=a:=by unfold Addr.add;simp
   rw [e] at hc0
   cases hs:a.spot with
   |none=>rfl
   |some x =>
    unfold World.cell? at hc0
    split at hc0
    ·simp [hs] at hc0
    ·cases hc0
  obtain ⟨b,o,s⟩:=a
  simp only at hspot
  subst hspot
  exact ⟨b,o,rfl,fun j u hu=>by rw [← addr_add_lit];exact h3 j u hu⟩
theorem struct_fields {e:TypeId} {fs:Array Field} {fuel:Nat} {cs:List Value} {y:DataW H × List MemPlace} (he:P.underlying e=some (.struct fs)) (hone:oneCellFields P fs=true) (hlen:cs.length=fs.size)
  (h:DataW.trod enc P W 0 spare held fuel e cs=some y) :
  ∀ (j:Nat) (f:Field),fs[j]?=some f→∃ (v:Value) (n:Nat) (y:DataW H × List MemPlace),cs[j]?=some v∧DataW.trod enc P W 0 spare held n f.type [v]=some y:=by
 obtain ⟨ys,n',hn',hy,_,hyl,hf⟩:=DataW.trod_struct he h
 intro j f hj
 obtain ⟨ho,hk⟩:=hone_of hone j f hj
 have hjl:j<fs.size:=(Array.getElem?_eq_some_iff.1 hj).1
 have h1:=hf j f hj
 rw [ho,hk] at h1
 have hone':(cs.drop j).take 1=[cs[j]'(by omega)]:=by
  rw [List.drop_eq_getElem_cons (by omega)];rfl
 rw [hone'] at h1
 have hys:ys[j]?=some (ys[j]'(by omega)):=List.getElem?_eq_getElem (by omega)
 exact ⟨cs[j]'(by omega),_,_,List.getElem?_eq_getElem (by omega),h1.trans hys⟩
theorem lit_bd {n:Int} (h:(Lit.int .i64 n).wf=true):-9223372036854775808≤n∧n≤9223372036854775807:=by
 simp [Lit.wf,IntKind.min,IntKind.max,IntKind.signed,IntKind.bits] at h
 omega
theorem choose_map {α β:Type} (f:β→α) (Q:β→Prop):∀ (l:List α),(∀ x,x∈l→∃ b,x=f b∧Q b)→∃ bs:List β,l=bs.map f∧∀ b,b∈bs→Q b
 |[],_=>⟨[],rfl,by simp⟩
 |x::l,h=>by
  obtain ⟨b,hb,hq⟩:=h x (List.mem_cons_self)
  obtain ⟨bs,h1,h2⟩:=choose_map f Q l (fun y hy=>h y (List.mem_cons_of_mem _ hy))
  exact ⟨b::bs,by simp [hb,h1],by intro c hc;rcases List.mem_cons.1 hc with rfl | hc;exact hq;exact h2 c hc⟩
theorem flat_single {β:Type} (f:β→Value):∀ l:List β,(l.map fun n=>[f n]).flatten=l.map f
 |[]=>rfl
 |a::l=>by simp only [List.map_cons,List.flatten_cons,flat_single f l];rfl
def IntOk (n:Int):Prop:=-9223372036854775808≤n∧n≤9223372036854775807
def IntsAt (w:World) (v:Value) (zs:List Int):Prop:=ReadsAt w 1 v zs.length (zs.map (Value.int .i64))∧∀ n∈zs,IntOk n
theorem open_intsV {t e:TypeId} (ht:P.underlying t=some (.slice e)) (he:P.underlying e=some (.int .i64)) (hC:P.cellsOf e=1) {v:Value} {d:DataW H} {p:List MemPlace} (hv:Value.okWide P W .any 0 t v)
  (h:DataW.Trod enc P W 0 spare held t v d p):∃ zs:List Int,IntsAt W v zs:=by
 obtain ⟨css,h1,h2⟩:=open_rows (Pc:=fun cs=>∃ n:Int,cs=[.int .i64 n]∧IntOk n) ht hC (by omega) (fun fuel cs y _ hy=>by
  obtain ⟨n,rfl,_,hw⟩:=DataW.trod_int he hy
  exact ⟨n,rfl,lit_bd hw⟩) hv h
 obtain ⟨zs,rfl,hz⟩:=choose_map (fun n:Int=>[Value.int .i64 n]) IntOk css (fun c hc=>(h2 c hc).2)
 refine ⟨zs,?_,hz⟩
 rw [flat_single (Value.int .i64) zs] at h1
 simpa using h1
end
end Go.Proofs.YtoelopghilbfeaaGreat
