/-
  Texts put together: YtoelopghilbfeaaGreatSpA, YtoelopghilbfeaaGreatSpB, YtoelopghilbfeaaGreatSpC, YtoelopghilbfeaaGreatSpD, YtoelopghilbfeaaGreatSpE, YtoelopghilbfeaaGreatSpF, YtoelopghilbfeaaGreatL16P, YtoelopghilbfeaaGreatL16, YtoelopghilbfeaaGreatSpG.
-/
import Derived.Test.YtoelopghilbfeaaGreatStP
import Derived.Test.YtoelopghilbfeaaGreatL16A
import Derived.LaidEqlPtr
namespace Go.Proofs.YtoelopghilbfeaaGreat
open Go.RowKit
set_option linter.unusedSimpArgs false
set_option linter.unusedVariables false
theorem lookS_nil (n:Int):lookS [] n=none:=rfl
theorem lookS_cons (a:Int) (x:Hd) (hs:List (Int × Hd)) (n:Int):lookS ((a,x)::hs) n=if a=n then some x else lookS hs n:=by
 unfold lookS
 by_cases h:a=n
 ·subst h;simp
 ·have:(a == n)=false:=by simpa using h
  simp [List.find?_cons,this,h]
theorem lookS_append (hs:List (Int × Hd)) (a:Int) (x:Hd) (n:Int) (h:lookS hs a=none):lookS (hs++[(a,x)]) n=if n=a then some x else lookS hs n:=by
 induction hs with
 |nil =>
  rw [List.nil_append,lookS_cons,lookS_nil]
  by_cases e:a=n
  ·rw [if_pos e,if_pos e.symm]
  ·rw [if_neg e,if_neg (fun e2=>e e2.symm)]
 |cons q t ih =>
  obtain ⟨b,y⟩:=q
  rw [lookS_cons] at h
  by_cases e:b=a
  ·rw [if_pos e] at h;exact absurd h (by simp)
  ·rw [if_neg e] at h
   rw [List.cons_append,lookS_cons,lookS_cons,ih h]
   by_cases e1:b=n
   ·rw [if_pos e1,if_pos e1,if_neg (fun e2=>e (e1.trans e2))]
   ·rw [if_neg e1,if_neg e1]
theorem putS_none {hs:List (Int × Hd)} {a:Int} (x:Hd) (h:lookS hs a=none):putS hs a x=hs++[(a,x)]:=by
 unfold putS
 cases hf:hs.findIdx? fun p=>p.1 == a with
 |none=>rfl
 |some i=>obtain ⟨_,_,h2⟩:=lookS_some hf;rw [h2] at h;exact absurd h (by simp)
theorem lookS_put {hs:List (Int × Hd)} {a:Int} (x:Hd) (n:Int) (h:lookS hs a=none):lookS (putS hs a x) n=if n=a then some x else lookS hs n:=by
 rw [putS_none x h,lookS_append hs a x n h]
theorem lookS_mem {hs:List (Int × Hd)} {n:Int} {x:Hd} (h:lookS hs n=some x):(n,x)∈hs:=by
 induction hs with
 |nil=>exact absurd h (by simp [lookS_nil])
 |cons q t ih =>
  obtain ⟨b,y⟩:=q
  rw [lookS_cons] at h
  by_cases e:b=n
  ·rw [if_pos e] at h;injection h with h;subst e h;exact List.mem_cons_self
  ·rw [if_neg e] at h;exact List.mem_cons_of_mem _ (ih h)
theorem lookS_none_of {hs:List (Int × Hd)} {n:Int} (h:∀ x,(n,x) ∉ hs):lookS hs n=none:=by
 cases e:lookS hs n with
 |none=>rfl
 |some x=>exact absurd (lookS_mem e) (h x)
theorem delS_cons (q:Int × Hd) (t:List (Int × Hd)) (a:Int):delS (q::t) a=if q.1=a then t else q::delS t a:=by
 unfold delS
 rw [List.findIdx?_cons]
 by_cases e:q.1=a
 ·have:(q.1 == a)=true:=by simpa using e
  rw [if_pos e,if_pos this]
  rfl
 ·have:¬ (q.1 == a)=true:=by simpa using e
  rw [if_neg e,if_neg this]
  cases List.findIdx? (fun p=>p.1 == a) t with
  |none=>rfl
  |some i=>rfl
theorem lookS_del {hs:List (Int × Hd)} (a n:Int) (hw:(hs.map (·.1)).Nodup):lookS (delS hs a) n=if n=a then none else lookS hs n:=by
 induction hs with
 |nil=>show lookS [] n=_;rw [lookS_nil];split <;> rfl
 |cons q t ih =>
  obtain ⟨b,y⟩:=q
  rw [List.map_cons,List.nodup_cons] at hw
  rw [delS_cons]
  by_cases e:b=a
  ·rw [if_pos e,lookS_cons]
   by_cases e1:n=a
   ·rw [if_pos e1]
    refine lookS_none_of fun x hx=>hw.1 ?_
    show b∈_
    rw [e,← e1]
    exact List.mem_map.2 ⟨(n,x),hx,rfl⟩
   ·rw [if_neg e1,if_neg (fun e2=>e1 (e2.symm.trans e))]
  ·rw [if_neg e,lookS_cons,lookS_cons,ih hw.2]
   by_cases e1:b=n
   ·rw [if_pos e1,if_pos e1,if_neg (fun e2=>e (e1.trans e2))]
   ·rw [if_neg e1,if_neg e1]
theorem key_inj {P k p k' p':Nat} (hp:p<P) (hp':p'<P) (h:(k:Int) * P+p=(k':Int) * P+p'):k=k'∧p=p':=by
 have h2:k * P+p=k' * P+p':=by
  have e1:((k * P+p:Nat):Int)=(k:Int) * P+p:=by simp
  have e2:((k' * P+p':Nat):Int)=(k':Int) * P+p':=by simp
  exact Int.ofNat.inj (e1.trans (h.trans e2.symm))
 have d1:(k * P+p) / P=k:=by rw [Nat.add_comm,Nat.add_mul_div_right _ _ (by omega),Nat.div_eq_of_lt hp];omega
 have d2:(k' * P+p') / P=k':=by rw [Nat.add_comm,Nat.add_mul_div_right _ _ (by omega),Nat.div_eq_of_lt hp'];omega
 have hk:k=k':=by rw [← d1,← d2,h2]
 subst hk
 exact ⟨rfl,by omega⟩
theorem blk_at {c:CM} (k:Nat):c.blk (k:Int)=c.blocks[k]?:=by
 cases h:c.blocks[k]? with
 |some x=>exact CM.blk_nat h
 |none =>
  have:=List.getElem?_eq_none_iff.1 h
  unfold CM.blk
  rw [if_neg (by omega)]
theorem Yat_nat (y:List YB) (k:Nat):Yat y (k:Int)=y[k]?:=by
 unfold Yat
 split
 ·simp
 ·symm;exact List.getElem?_eq_none_iff.2 (by omega)
theorem set_at {α:Type} (l:List α) (k j:Nat) (a:α) (hk:k<l.length):(l.set k a)[j]?=if k=j then some a else l[j]?:=by
 rw [List.getElem?_set]
 split <;> first | rfl | (rw [if_pos (by omega)])
def CM.pgAt (c:CM) (k p:Nat):Option (List UInt8):=(c.blocks[k]?).bind fun x=>x.pages[p]?
def CM.vAt (c:CM) (k p:Nat):Option (List UInt8 × Hd):=(c.pgAt k p).bind readF
def pgV (x:CB) (p:Nat):Option (List UInt8 × Hd):=(x.pages[p]?).bind readF
theorem vAt_of {c:CM} {k:Nat} {x:CB} (h:c.blocks[k]?=some x) (p:Nat):c.vAt k p=pgV x p:=by
 unfold CM.vAt CM.pgAt pgV
 rw [h]
 rfl
theorem vAt_none {c:CM} {k:Nat} (h:c.blocks[k]?=none) (p:Nat):c.vAt k p=none:=by
 unfold CM.vAt CM.pgAt
 rw [h]
 rfl
theorem vAt_blocks {c c':CM} (h:c'.blocks=c.blocks) (k p:Nat):c'.vAt k p=c.vAt k p:=by unfold CM.vAt CM.pgAt;rw [h]
theorem vAt_set {c c':CM} {i:Nat} {x':CB} (h:c'.blocks=c.blocks.set i x') (hi:i<c.blocks.length) (k p:Nat):c'.vAt k p=if i=k then pgV x' p else c.vAt k p:=by
 by_cases e:i=k
 ·subst e
  rw [if_pos rfl]
  exact vAt_of (by rw [h,set_at _ _ _ _ hi,if_pos rfl]) p
 ·rw [if_neg e]
  unfold CM.vAt CM.pgAt
  rw [h,set_at _ _ _ _ hi,if_neg e]
theorem readF_rep (n:Nat) (u:UInt8) (hn:28<n):readF (List.replicate n u)=none:=by
 by_cases hu:u=0
 ·subst hu
  unfold readF
  rw [if_neg]
  rintro ⟨_,h2,_⟩
  have h3:(hdOf (List.replicate n 0) ((List.replicate n (0:UInt8)).length - 28)).k=0:=by
   unfold hdOf
   dsimp only
   rw [List.length_replicate,List.getD_eq_getElem?_getD,List.getElem?_replicate]
   rw [if_pos (by omega)]
   rfl
  unfold Hd.may at h2
  rw [h3] at h2
  simp at h2
 ·refine readF_last ?_
  rw [List.getLast?_replicate,if_neg (by omega)]
  intro h
  injection h with h
  exact hu h
theorem readF_blank (Z:Nat) (hZ:128≤Z):readF (blankP Z)=none:=readF_rep _ _ (by omega)
theorem readF_torn {raw old:List UInt8} {Z m:Nat} (hl:raw.length=Z+28) (ho:old=blankP Z) (hm:m<Z+28):readF (raw.take m++old.drop m)=none:=by
 refine readF_last ?_
 have hd:old.drop m=List.replicate (Z+28 - m) 255:=by rw [ho];unfold blankP;rw [List.drop_replicate]
 rw [hd,List.getLast?_append,List.getLast?_replicate,if_neg (by omega)]
 simp
end Go.Proofs.YtoelopghilbfeaaGreat
namespace Go.Proofs.YtoelopghilbfeaaGreat
open Go.RowKit
set_option linter.unusedSimpArgs false
set_option linter.unusedVariables false
def noneed (s:SM) (k:Nat):Prop:=∀ p:Nat,p<s.P→lookS s.hs ((k:Int) * s.P+p)=none
def CB.shape (x:CB) (P Z:Nat):Prop:=x.pages.length=P∧0≤x.next∧x.next≤P∧∀ p:Nat,x.next≤p→p<P→x.pages[p]?=some (blankP Z)
structure Cont (s:SM) (c:CM):Prop where
 B:c.blocks.length=s.B
 P:c.P=s.P
 Z:c.Z=s.Z
 pl:planB s.B s.P s.Z=true
 yl:s.y.length=s.B
 yok:Yok s.P s.y
 wf:HsWf s.hs
 opb:-1≤s.op∧s.op<s.B
 keys:∀ n h,lookS s.hs n=some h→∃ k p:Nat,k<s.B∧p<s.P∧n=(k:Int) * s.P+p
 bit:∀ (k:Nat) (z:YB) (p:Nat),s.y[k]?=some z→p<s.P→(z.pages.getD p (false,false)).1=(lookS s.hs ((k:Int) * s.P+p)).isSome
 page:∀ (k p:Nat) (h:Hd),k<s.B→p<s.P→lookS s.hs ((k:Int) * s.P+p)=some h→∃ d,c.vAt k p=some (d,h)
 shape:∀ (k:Nat) (x:CB),c.blocks[k]?=some x→x.shape s.P s.Z
structure Live (s:SM) (c:CM):Prop where
 on:c.on=true
 opn:∀ (k:Nat) (x:CB) (z:YB),c.blocks[k]?=some x→s.y[k]?=some z→s.op=(k:Int)→z.state=2∧z.taken=x.next∧x.mark=false
 oth:∀ (k:Nat) (x:CB) (z:YB),c.blocks[k]?=some x→s.y[k]?=some z→s.op≠(k:Int)→x.mark=false→z.state=1∨z.state=3
structure StepOk (s:SM) (c:CM) (s':SM) (c':CM):Prop where
 B:s'.B=s.B
 P:s'.P=s.P
 Z:s'.Z=s.Z
 hs:s'.hs=s.hs
 mis:c'.misuse=c.misuse
 ms:c'.ms=c.ms
 keep:∀ (k p:Nat) (h:Hd),k<s.B→p<s.P→lookS s.hs ((k:Int) * s.P+p)=some h→c'.vAt k p=c.vAt k p
 old:∀ (k p:Nat) v,c'.vAt k p=some v→c.vAt k p=some v
 cont:Cont s' c'
variable {s s':SM} {c c':CM}
theorem StepOk.refl (h:Cont s c):StepOk s c s c:=⟨rfl,rfl,rfl,rfl,rfl,rfl,fun _ _ _ _ _ _=>rfl,fun _ _ _ h=>h,h⟩
theorem StepOk.trans {s1 s2 s3:SM} {c1 c2 c3:CM} (h:StepOk s1 c1 s2 c2) (g:StepOk s2 c2 s3 c3):StepOk s1 c1 s3 c3:=by
 refine ⟨g.B.trans h.B,g.P.trans h.P,g.Z.trans h.Z,g.hs.trans h.hs,g.mis.trans h.mis,g.ms.trans h.ms,?_,fun k p v hv=>h.old k p v (g.old k p v hv),g.cont⟩
 intro k p hd hk hp hl
 rw [g.keep k p hd (by rw [h.B];exact hk) (by rw [h.P];exact hp) (by rw [h.hs,h.P];exact hl),h.keep k p hd hk hp hl]
theorem Cont.below (h:Cont s c) {k p:Nat} {x:CB} {hd:Hd} (hx:c.blocks[k]?=some x) (hp:p<s.P) (hl:lookS s.hs ((k:Int) * s.P+p)=some hd):(p:Int)<x.next:=by
 have hk:k<s.B:=by rw [← h.B];exact (List.getElem?_eq_some_iff.1 hx).1
 obtain ⟨d,hv⟩:=h.page k p hd hk hp hl
 by_cases e:(p:Int)<x.next
 ·exact e
 ·rw [vAt_of hx,pgV,(h.shape k x hx).2.2.2 p (by omega) hp] at hv
  have hZ:128≤s.Z:=by have:=plan_bd h.pl;omega
  have:=readF_blank s.Z hZ
  rw [Option.bind_some,this] at hv
  exact absurd hv (by simp)
theorem Cont.above (h:Cont s c) {k p:Nat} {x:CB} (hx:c.blocks[k]?=some x) (hp:p<s.P) (hn:x.next≤p):lookS s.hs ((k:Int) * s.P+p)=none∧pgV x p=none:=by
 constructor
 ·cases e:lookS s.hs ((k:Int) * s.P+p) with
  |none=>rfl
  |some hd=>have:=h.below hx hp e;omega
 ·rw [pgV,(h.shape k x hx).2.2.2 p hn hp,Option.bind_some]
  exact readF_blank _ (by have:=plan_bd h.pl;omega)
theorem Cont.same (h:Cont s c) (hb:c'.blocks=c.blocks) (hP:c'.P=c.P) (hZ:c'.Z=c.Z):Cont s c':=by
 refine ⟨by rw [hb,h.B],hP.trans h.P,hZ.trans h.Z,h.pl,h.yl,h.yok,h.wf,h.opb,h.keys,h.bit,?_,?_⟩
 ·intro k p hd hk hp hl
  rw [vAt_blocks hb]
  exact h.page k p hd hk hp hl
 ·intro k x hx
  rw [hb] at hx
  exact h.shape k x hx
theorem Cont.setBlk (h:Cont s c) {i:Nat} {x x':CB} (hx:c.blocks[i]?=some x) (hb:c'.blocks=c.blocks.set i x') (hP:c'.P=c.P) (hZ:c'.Z=c.Z) (hsh:x'.shape s.P s.Z)
  (hk:∀ p hd,p<s.P→lookS s.hs ((i:Int) * s.P+p)=some hd→pgV x' p=pgV x p):Cont s c':=by
 have hi:=(List.getElem?_eq_some_iff.1 hx).1
 refine ⟨by rw [hb,List.length_set,h.B],hP.trans h.P,hZ.trans h.Z,h.pl,h.yl,h.yok,h.wf,h.opb,h.keys,h.bit,?_,?_⟩
 ·intro k p hd hk2 hp hl
  rw [vAt_set hb hi]
  by_cases e:i=k
  ·subst e
   rw [if_pos rfl,hk p hd hp hl,← vAt_of hx]
   exact h.page i p hd hk2 hp hl
  ·rw [if_neg e]
   exact h.page k p hd hk2 hp hl
 ·intro k z hz
  rw [hb,set_at _ _ _ _ hi] at hz
  by_cases e:i=k
  ·rw [if_pos e] at hz
   injection hz with hz
   rw [← hz]
   exact hsh
  ·rw [if_neg e] at hz
   exact h.shape k z hz
theorem StepOk.same (h:Cont s c) (hb:c'.blocks=c.blocks) (hP:c'.P=c.P) (hZ:c'.Z=c.Z) (hm:c'.misuse=c.misuse) (hms:c'.ms=c.ms):StepOk s c s c' :=
 ⟨rfl,rfl,rfl,rfl,hm,hms,fun k p _ _ _ _=>vAt_blocks hb k p,fun k p v hv=>by rw [vAt_blocks hb] at hv;exact hv,h.same hb hP hZ⟩
theorem StepOk.setBlk (h:Cont s c) {i:Nat} {x x':CB} (hx:c.blocks[i]?=some x) (hb:c'.blocks=c.blocks.set i x') (hP:c'.P=c.P) (hZ:c'.Z=c.Z) (hm:c'.misuse=c.misuse) (hms:c'.ms=c.ms)
  (hsh:x'.shape s.P s.Z) (hk:∀ p hd,p<s.P→lookS s.hs ((i:Int) * s.P+p)=some hd→pgV x' p=pgV x p) (ho:∀ p v,pgV x' p=some v→pgV x p=some v):StepOk s c s c':=by
 have hi:=(List.getElem?_eq_some_iff.1 hx).1
 refine ⟨rfl,rfl,rfl,rfl,hm,hms,?_,?_,h.setBlk hx hb hP hZ hsh hk⟩
 ·intro k p hd _ hp hl
  rw [vAt_set hb hi]
  by_cases e:i=k
  ·subst e
   rw [if_pos rfl,vAt_of hx]
   exact hk p hd hp hl
  ·rw [if_neg e]
 ·intro k p v hv
  rw [vAt_set hb hi] at hv
  by_cases e:i=k
  ·subst e
   rw [if_pos rfl] at hv
   rw [vAt_of hx]
   exact ho p v hv
  ·rw [if_neg e] at hv
   exact hv
def YMod (y y':List YB) (k:Nat) (f:YB→YB):Prop:=∀ j:Nat,y'[j]?=if k=j then (y[j]?).map f else y[j]?
theorem YMod.of_set {y:List YB} {k:Nat} {z:YB} (hz:y[k]?=some z) (z':YB) (f:YB→YB) (hf:f z=z'):YMod y (y.set k z') k f:=by
 intro j
 rw [set_at _ _ _ _ (List.getElem?_eq_some_iff.1 hz).1]
 by_cases e:k=j
 ·subst e;rw [if_pos rfl,if_pos rfl,hz,Option.map_some,hf]
 ·rw [if_neg e,if_neg e]
theorem YMod.of_none {y:List YB} {k:Nat} (hz:y[k]?=none) (f:YB→YB):YMod y y k f:=by
 intro j
 by_cases e:k=j
 ·subst e;rw [if_pos rfl,hz];rfl
 ·rw [if_neg e]
theorem YMod.of_fix {y:List YB} {k:Nat} {z:YB} (hz:y[k]?=some z) (f:YB→YB) (hf:f z=z):YMod y y k f:=by
 intro j
 by_cases e:k=j
 ·subst e;rw [if_pos rfl,hz,Option.map_some,hf]
 ·rw [if_neg e]
def turnF (a b:Int) (z:YB):YB:=if z.state=a then { z with state:=b } else z
def openF (z:YB):YB:=if z.state=1 then { z with state:=2,taken:=0 } else z
def retF (z:YB):YB:=if z.state=4 then z else { z with state:=4 }
def freeF (q:Prop) [Decidable q] (z:YB):YB:=if (z.state≠2∧z.state≠3)∨q then z else { z with state:=1,taken:=0 }
def nextF (z:YB):YB:=if z.state≠2 then z else if (z.pages.length:Int)≤z.taken then z else { z with taken:=z.taken+1 }
theorem yturn_mod (y:List YB) (k:Nat) (a b:Int):YMod y (Yturn y k a b).1 k (turnF a b):=by
 unfold Yturn
 rw [Yat_nat]
 cases hz:y[k]? with
 |none=>exact YMod.of_none hz _
 |some z =>
  dsimp only
  split
  ·exact YMod.of_set hz _ _ (by unfold turnF;rw [if_pos (by assumption)])
  ·exact YMod.of_fix hz _ (by unfold turnF;rw [if_neg (by assumption)])
theorem yopen_mod (y:List YB) (k:Nat):YMod y (Yopen y k).1 k openF:=by
 unfold Yopen
 rw [Yat_nat]
 cases hz:y[k]? with
 |none=>exact YMod.of_none hz _
 |some z =>
  dsimp only
  split
  ·exact YMod.of_set hz _ _ (by unfold openF;rw [if_pos (by assumption)])
  ·exact YMod.of_fix hz _ (by unfold openF;rw [if_neg (by assumption)])
theorem yretire_mod (y:List YB) (k:Nat):YMod y (Yretire y k).1 k retF:=by
 unfold Yretire
 rw [Yat_nat]
 cases hz:y[k]? with
 |none=>exact YMod.of_none hz _
 |some z =>
  dsimp only
  split
  ·exact YMod.of_fix hz _ (by unfold retF;rw [if_pos (by assumption)])
  ·exact YMod.of_set hz _ _ (by unfold retF;rw [if_neg (by assumption)])
theorem yfree_mod (y:List YB) (k:Nat):YMod y (Yfree y k).1 k (freeF (Yneeded y k≠[])):=by
 unfold Yfree
 rw [Yat_nat]
 cases hz:y[k]? with
 |none=>exact YMod.of_none hz _
 |some z =>
  dsimp only
  split
  ·exact YMod.of_fix hz _ (by unfold freeF;rw [if_pos (by assumption)])
  ·exact YMod.of_set hz _ _ (by unfold freeF;rw [if_neg (by assumption)])
theorem ynext_mod (y:List YB) (k:Nat):YMod y (Ynext y k).1 k nextF:=by
 unfold Ynext
 rw [Yat_nat]
 cases hz:y[k]? with
 |none=>exact YMod.of_none hz _
 |some z =>
  dsimp only
  split
  ·exact YMod.of_fix hz _ (by unfold nextF;rw [if_pos (by assumption)])
  ·split
   ·exact YMod.of_fix hz _ (by unfold nextF;rw [if_neg (by assumption),if_pos (by assumption)])
   ·exact YMod.of_set hz _ _ (by unfold nextF;rw [if_neg (by assumption),if_neg (by assumption)])
theorem turnF_pages (a b:Int) (z:YB):(turnF a b z).pages=z.pages:=by unfold turnF;split <;> rfl
theorem openF_pages (z:YB):(openF z).pages=z.pages:=by unfold openF;split <;> rfl
theorem retF_pages (z:YB):(retF z).pages=z.pages:=by unfold retF;split <;> rfl
theorem freeF_pages (q:Prop) [Decidable q] (z:YB):(freeF q z).pages=z.pages:=by unfold freeF;split <;> rfl
theorem nextF_pages (z:YB):(nextF z).pages=z.pages:=by unfold nextF;split;rfl;split <;> rfl
theorem Cont.ymod (h:Cont s c) {k:Nat} {f:YB→YB} (hm:YMod s.y s'.y k f) (hf:∀ z,(f z).pages=z.pages) (hB:s'.B=s.B) (hP:s'.P=s.P) (hZ:s'.Z=s.Z) (hs:s'.hs=s.hs) (hop:-1≤s'.op∧s'.op<s.B)
  (hl:s'.y.length=s.y.length) (hok:Yok s.P s'.y):Cont s' c:=by
 refine ⟨by rw [hB,h.B],by rw [hP,h.P],by rw [hZ,h.Z],by rw [hB,hP,hZ,h.pl],by rw [hl,hB,h.yl],by rw [hP];exact hok,by rw [hs];exact h.wf,by rw [hB];exact hop,?_,?_,?_,?_⟩
 ·rw [hs,hB,hP];exact h.keys
 ·rw [hs,hP]
  intro j z p hz hp
  rw [hm j] at hz
  by_cases e:k=j
  ·rw [if_pos e] at hz
   cases hy:s.y[j]? with
   |none=>rw [hy] at hz;exact absurd hz (by simp)
   |some z0 =>
    rw [hy,Option.map_some] at hz
    injection hz with hz
    rw [← hz,hf]
    exact h.bit j z0 p hy hp
  ·rw [if_neg e] at hz
   exact h.bit j z p hz hp
 ·rw [hs,hB,hP];exact h.page
 ·rw [hP,hZ];exact h.shape
theorem StepOk.ymod (h:Cont s c) {k:Nat} {f:YB→YB} (hm:YMod s.y s'.y k f) (hf:∀ z,(f z).pages=z.pages) (hB:s'.B=s.B) (hP:s'.P=s.P) (hZ:s'.Z=s.Z) (hs:s'.hs=s.hs) (hop:-1≤s'.op∧s'.op<s.B)
  (hl:s'.y.length=s.y.length) (hok:Yok s.P s'.y):StepOk s c s' c :=
 ⟨hB,hP,hZ,hs,rfl,rfl,fun _ _ _ _ _ _=>rfl,fun _ _ _ h=>h,h.ymod hm hf hB hP hZ hs hop hl hok⟩
theorem neededTo_nil {ps:List (Bool × Bool)} {n:Nat} (h:∀ p,p<n→(ps.getD p (false,false)).1=false):neededTo ps n=[]:=by
 induction n with
 |zero=>rfl
 |succ n ih=>rw [neededTo_succ,h n (by omega),if_neg (by simp)];exact ih fun p hp=>h p (by omega)
theorem neededTo_mem {ps:List (Bool × Bool)} {n:Nat} {x:Int}:x∈neededTo ps n↔∃ p:Nat,x=p∧p<n∧(ps.getD p (false,false)).1=true:=by
 unfold neededTo
 rw [List.mem_map]
 constructor
 ·rintro ⟨p,hp,rfl⟩
  rw [List.mem_filter,List.mem_range] at hp
  exact ⟨p,rfl,hp.1,hp.2⟩
 ·rintro ⟨p,rfl,h1,h2⟩
  exact ⟨p,by rw [List.mem_filter,List.mem_range];exact ⟨h1,h2⟩,rfl⟩
theorem Cont.yget (h:Cont s c) {k:Nat} (hk:k<s.B):∃ z,s.y[k]?=some z∧z.pages.length=s.P∧0≤z.taken:=by
 have hl:=h.yl
 refine ⟨s.y[k]'(by omega),List.getElem?_eq_getElem _,?_⟩
 exact h.yok _ (List.getElem_mem _)
theorem Cont.bget (h:Cont s c) {k:Nat} (hk:k<s.B):∃ x,c.blocks[k]?=some x:=by
 have hl:=h.B
 exact ⟨c.blocks[k]'(by omega),List.getElem?_eq_getElem _⟩
theorem Cont.needed_nil (h:Cont s c) {k:Nat} (hk:k<s.B):Yneeded s.y k=[]↔noneed s k:=by
 obtain ⟨z,hz,hl,_⟩:=h.yget hk
 unfold Yneeded
 rw [Yat_nat,hz]
 dsimp only
 rw [hl]
 constructor
 ·intro e p hp
  have hb:=h.bit k z p hz hp
  cases hs:lookS s.hs ((k:Int) * s.P+p) with
  |none=>rfl
  |some hd =>
   rw [hs] at hb
   have:(p:Int)∈neededTo z.pages s.P:=neededTo_mem.2 ⟨p,rfl,hp,hb⟩
   rw [e] at this
   exact absurd this (by simp)
 ·intro hn
  refine neededTo_nil fun p hp=>?_
  rw [h.bit k z p hz hp,hn p hp]
  rfl
end Go.Proofs.YtoelopghilbfeaaGreat
namespace Go.Proofs.YtoelopghilbfeaaGreat
open Go.RowKit
set_option linter.unusedSimpArgs false
set_option linter.unusedVariables false
variable {s s':SM} {c c':CM}
theorem beg_on (h:c.on=true):c.beg true=({ c with ops:=c.ops+1 },c.mi,0):=by unfold CM.beg;rw [h];simp
theorem blankB_at {P Z p:Nat} (h:p<P):(blankB P Z)[p]?=some (blankP Z):=by unfold blankB;rw [List.getElem?_replicate,if_pos h]
theorem pgV_rep (n m:Nat) (u:UInt8) (x:CB) (hx:x.pages=List.replicate n (List.replicate m u)) (hm:28<m) (p:Nat):pgV x p=none:=by
 unfold pgV
 rw [hx,List.getElem?_replicate]
 split
 ·rw [Option.bind_some];exact readF_rep _ _ hm
 ·rfl
theorem set_self {α:Type} {l:List α} {k:Nat} {a:α} (h:l[k]?=some a):l.set k a=l:=by
 refine List.ext_getElem? fun j=>?_
 rw [set_at _ _ _ _ (List.getElem?_eq_some_iff.1 h).1]
 by_cases e:k=j
 ·subst e;rw [if_pos rfl,h]
 ·rw [if_neg e]
theorem erase_spec (hC:Cont s c) (hL:Live s c) {k:Nat} {x:CB} (hx:c.blocks[k]?=some x) (hm:x.mark=false) (hn:noneed s k) :
  ∃ x',(eraseI c k).1.blocks=c.blocks.set k x'∧x'.mark=false∧StepOk s c s (eraseI c k).1∧(eraseI c k).1.ops=c.ops+1 ∧
   (((eraseI c k).2=0∧(eraseI c k).1.on=true∧x'.next=0∧x'.wear=x.wear+1∧x'.failed=false∧x.failed=false∧c.mi.kind≠1∧c.mi.kind≠2)∨((eraseI c k).2=4∧(eraseI c k).1.on=false∧c.mi.kind=2) ∨
    ((eraseI c k).2=5∧(eraseI c k).1.on=true∧x'={ x with failed:=true }∧(c.mi.kind=1∨x.failed=true))):=by
 have hZ:128≤s.Z:=by have:=plan_bd hC.pl;omega
 have hsh:=hC.shape k x hx
 have hr:∀ (m:Nat) (u:UInt8) (x':CB),x'.pages=List.replicate c.P (List.replicate m u)→28<m→(∀ p hd,p<s.P→lookS s.hs ((k:Int) * s.P+p)=some hd→pgV x' p=pgV x p)∧(∀ p v,pgV x' p=some v→pgV x p=some v):=by
  intro m u x' hp hm
  refine ⟨fun p hd h1 h2=>?_,fun p v hv=>?_⟩
  ·rw [hn p h1] at h2;exact absurd h2 (by simp)
  ·rw [pgV_rep _ _ _ _ hp hm] at hv;exact absurd hv (by simp)
 have e0:eraseI c k=eraseEnd { c with ops:=c.ops+1 } c.mi k x:=by
  unfold eraseI
  rw [blk_at,hx]
  show c.erase (k:Int).toNat x=_
  rw [Int.toNat_natCast]
  unfold CM.erase
  rw [beg_on hL.on]
  dsimp only
  rw [if_neg (by simp),if_neg (by simp [hm])]
 rw [e0]
 unfold eraseEnd
 have hP:=hC.P
 have hcZ:=hC.Z
 by_cases k2:c.mi.kind=2
 ·rw [if_pos k2]
  cases hf:x.failed with
  |true =>
   rw [if_pos rfl]
   refine ⟨x,?_,hm,StepOk.same hC rfl rfl rfl rfl rfl,rfl,Or.inr (Or.inl ⟨rfl,rfl,k2⟩)⟩
   show c.blocks=_
   exact (set_self hx).symm
  |false =>
   rw [if_neg (by simp)]
   refine ⟨_,rfl,hm,?_,rfl,Or.inr (Or.inl ⟨rfl,rfl,k2⟩)⟩
   obtain ⟨r1,r2⟩:=hr (c.Z+28) c.mi.fill { x with pages:=List.replicate c.P (List.replicate (c.Z+28) c.mi.fill),next:=if c.mi.fill=255 then 0 else (c.P:Int),wear:=x.wear+1 } rfl (by omega)
   refine StepOk.setBlk hC hx rfl rfl rfl rfl rfl ⟨?_,?_,?_,?_⟩ r1 r2
   ·show (List.replicate c.P _).length=s.P
    rw [List.length_replicate,hP]
   ·show 0≤(if c.mi.fill=255 then (0:Int) else c.P);split <;> omega
   ·show (if c.mi.fill=255 then (0:Int) else c.P)≤s.P;split <;> omega
   ·intro p h1 h2
    show (List.replicate c.P (List.replicate (c.Z+28) c.mi.fill))[p]?=_
    rw [List.getElem?_replicate,if_pos (by omega)]
    have h1':(if c.mi.fill=255 then (0:Int) else c.P)≤p:=h1
    split at h1'
    ·next hf=>rw [hf,hcZ];rfl
    ·omega
 ·rw [if_neg k2]
  by_cases k1:c.mi.kind=1∨x.failed=true
  ·rw [if_pos k1]
   refine ⟨{ x with failed:=true },rfl,hm,?_,rfl,Or.inr (Or.inr ⟨rfl,hL.on,rfl,k1⟩)⟩
   exact StepOk.setBlk hC hx rfl rfl rfl rfl rfl hsh (fun _ _ _ _=>rfl) (fun _ _ h=>h)
  ·rw [if_neg k1]
   have k1a:c.mi.kind≠1:=fun e=>k1 (Or.inl e)
   have k1b:x.failed=false:=by cases hf:x.failed with | false=>rfl | true=>exact absurd (Or.inr hf) k1
   refine ⟨_,rfl,hm,?_,rfl,Or.inl ⟨rfl,hL.on,rfl,rfl,k1b,k1b,k1a,k2⟩⟩
   obtain ⟨r1,r2⟩:=hr (c.Z+28) 255 { x with pages:=blankB c.P c.Z,next:=0,wear:=x.wear+1 } rfl (by omega)
   refine StepOk.setBlk hC hx rfl rfl rfl rfl rfl ⟨?_,Int.le_refl _,?_,?_⟩ r1 r2
   ·show (blankB c.P c.Z).length=s.P
    unfold blankB
    rw [List.length_replicate,hP]
   ·show (0:Int)≤s.P;omega
   ·intro p _ h2
    show (blankB c.P c.Z)[p]?=_
    rw [hP,hcZ]
    exact blankB_at h2
theorem give_spec (hC:Cont s c) (hL:Live s c) {k:Nat} {x:CB} (hx:c.blocks[k]?=some x) :
  StepOk s c (giveI s c k).1 (giveI s c k).2.1∧(giveI s c k).2.1.ops=c.ops+1∧(∀ j:Nat,j≠k→(giveI s c k).2.1.blocks[j]?=c.blocks[j]?) ∧
   (((giveI s c k).2.2=0∧Live (giveI s c k).1 (giveI s c k).2.1∧(giveI s c k).2.1.blocks=c.blocks.set k { x with mark:=true }∧(giveI s c k).1.op=(if s.op=k then -1 else s.op))∨((giveI s c k).2.2=4∧(giveI s c k).2.1.on=false∧c.mi.kind=2)):=by
 have hi:=(List.getElem?_eq_some_iff.1 hx).1
 have e0:giveI s c k=giveS s c k x:=by unfold giveI;rw [blk_at,hx];dsimp only;rw [Int.toNat_natCast]
 rw [e0]
 have e1:c.markE k x=if c.mi.kind=2 then ({ c with ops:=c.ops+1,on:=false },4) else ({ c with ops:=c.ops+1,blocks:=c.blocks.set k { x with mark:=true } },0):=by
  unfold CM.markE
  rw [beg_on hL.on]
  dsimp only
  rw [if_neg (by simp)]
  rfl
 unfold giveS
 rw [e1]
 by_cases k2:c.mi.kind=2
 ·rw [if_pos k2]
  dsimp only
  rw [if_pos (by decide)]
  exact ⟨StepOk.same hC rfl rfl rfl rfl rfl,rfl,fun _ _=>rfl,Or.inr ⟨rfl,rfl,k2⟩⟩
 ·rw [if_neg k2]
  dsimp only
  rw [if_neg (by simp)]
  have hop:=hC.opb
  have st1:StepOk s c s { c with ops:=c.ops+1,blocks:=c.blocks.set k { x with mark:=true } } :=
   StepOk.setBlk hC hx rfl rfl rfl rfl rfl (hC.shape k x hx) (fun _ _ _ _=>rfl) (fun _ _ h=>h)
  have hym:=yretire_mod s.y k
  refine ⟨st1.trans (StepOk.ymod st1.cont hym retF_pages rfl rfl rfl rfl ?_ (yretire_len _ _) (hC.yok.retire _)),rfl,?_,Or.inl ⟨rfl,⟨hL.on,?_,?_⟩,rfl,rfl⟩⟩
  ·show -1≤(if s.op=(k:Int) then -1 else s.op)∧(if s.op=(k:Int) then -1 else s.op)<s.B
   split <;> omega
  ·intro j hj
   show (c.blocks.set k _)[j]?=_
   rw [set_at _ _ _ _ hi,if_neg (Ne.symm hj)]
  ·intro j xj zj h1 h2 h3
   have h3':(if s.op=(k:Int) then -1 else s.op)=(j:Int):=h3
   split at h3'
   ·omega
   ·next hne =>
    have hkj:k≠j:=fun e=>hne (by rw [h3',e])
    have h1':(c.blocks.set k { x with mark:=true })[j]?=some xj:=h1
    rw [set_at _ _ _ _ hi,if_neg hkj] at h1'
    have h2':(Yretire s.y k).1[j]?=some zj:=h2
    rw [hym j,if_neg hkj] at h2'
    exact hL.opn j xj zj h1' h2' h3'
  ·intro j xj zj h1 h2 h3 h4
   have h1':(c.blocks.set k { x with mark:=true })[j]?=some xj:=h1
   by_cases hkj:k=j
   ·rw [set_at _ _ _ _ hi,if_pos hkj] at h1'
    injection h1' with h1'
    rw [← h1'] at h4
    exact absurd h4 (by simp)
   ·rw [set_at _ _ _ _ hi,if_neg hkj] at h1'
    have h2':(Yretire s.y k).1[j]?=some zj:=h2
    rw [hym j,if_neg hkj] at h2'
    refine hL.oth j xj zj h1' h2' ?_ h4
    intro e
    have h3':(if s.op=(k:Int) then -1 else s.op)≠(j:Int):=h3
    rw [if_neg (by omega)] at h3'
    exact h3' e
structure Live0 (s:SM) (c:CM):Prop where
 on:c.on=true
 opn:∀ (k:Nat) (x:CB) (z:YB),c.blocks[k]?=some x→s.y[k]?=some z→s.op=(k:Int)→z.state=2
 oth:∀ (k:Nat) (x:CB) (z:YB),c.blocks[k]?=some x→s.y[k]?=some z→s.op≠(k:Int)→x.mark=false→z.state=1∨z.state=3
theorem Live.to0 (h:Live s c):Live0 s c:=⟨h.on,fun k x z h1 h2 h3=>(h.opn k x z h1 h2 h3).1,h.oth⟩
theorem Live0.chip (h:Live0 s c) (hon:c'.on=true) {k:Nat} {x x':CB} (hx:c.blocks[k]?=some x) (hb:c'.blocks=c.blocks.set k x') (hm:x'.mark=x.mark):Live0 s c':=by
 have hi:=(List.getElem?_eq_some_iff.1 hx).1
 refine ⟨hon,?_,?_⟩
 ·intro j xj zj h1 h2 h3
  rw [hb,set_at _ _ _ _ hi] at h1
  by_cases e:k=j
  ·subst e
   exact h.opn k x zj hx h2 h3
  ·rw [if_neg e] at h1
   exact h.opn j xj zj h1 h2 h3
 ·intro j xj zj h1 h2 h3 h4
  rw [hb,set_at _ _ _ _ hi] at h1
  by_cases e:k=j
  ·subst e
   rw [if_pos rfl] at h1
   injection h1 with h1
   rw [← h1,hm] at h4
   exact h.oth k x zj hx h2 h3 h4
  ·rw [if_neg e] at h1
   exact h.oth j xj zj h1 h2 h3 h4
theorem open_spec (hC:Cont s c) (hL:Live0 s c) {k:Nat} {x:CB} (hx:c.blocks[k]?=some x) (hm:x.mark=false) (hn:noneed s k) (h0:x.next=0) :
  StepOk s c (openS s k) c∧Live (openS s k) c∧(openS s k).op=k:=by
 have hk:k<s.B:=by rw [← hC.B];exact (List.getElem?_eq_some_iff.1 hx).1
 have hop:=hC.opb
 have c1:StepOk s c (sealS s) c∧(∀ (j:Nat) (z:YB),s.y[j]?=some z→(sealS s).y[j]?=some (if s.op=(j:Int) then turnF 2 3 z else z))∧(sealS s).op=s.op∧(sealS s).hs=s.hs∧(sealS s).P=s.P∧(sealS s).B=s.B:=by
  unfold sealS
  split
  ·next e =>
   refine ⟨StepOk.refl hC,fun j z hz=>?_,rfl,rfl,rfl,rfl⟩
   rw [if_neg (by omega)]
   exact hz
  ·next e =>
   obtain ⟨o,ho⟩:∃ o:Nat,s.op=(o:Int):=⟨s.op.toNat,by omega⟩
   have hym:=yturn_mod s.y o 2 3
   rw [← ho] at hym
   refine ⟨StepOk.ymod hC hym (turnF_pages 2 3) rfl rfl rfl rfl hop (yturn_len _ _ _ _) (hC.yok.turn _ _ _),fun j z hz=>?_,rfl,rfl,rfl,rfl⟩
   show (Yturn s.y s.op 2 3).1[j]?=_
   rw [hym j,hz]
   by_cases e1:o=j
   ·rw [if_pos e1,if_pos (by omega)];rfl
   ·rw [if_neg e1,if_neg (by omega)]
 obtain ⟨s1,y1,o1,hs1,P1,B1⟩:=c1
 have hn1:noneed (sealS s) k:=fun p hp=>by rw [hs1,P1];exact hn p (by rw [← P1];exact hp)
 have hnd:Yneeded (sealS s).y k=[]:=(s1.cont.needed_nil (by rw [B1];exact hk)).2 hn1
 have hm2:=yfree_mod (sealS s).y k
 have s2:StepOk (sealS s) c (freeS (sealS s) k) c:=StepOk.ymod s1.cont hm2 (freeF_pages _) rfl rfl rfl rfl (by show -1≤(sealS s).op∧(sealS s).op<(sealS s).B;rw [o1,B1];exact hop) (yfree_len _ _) (s1.cont.yok.free _)
 have hm3:=yopen_mod (freeS (sealS s) k).y k
 have s3:StepOk (freeS (sealS s) k) c (openS s k) c:=StepOk.ymod s2.cont hm3 openF_pages rfl rfl rfl rfl (by show -1≤(k:Int)∧(k:Int)<(sealS s).B;rw [B1];omega) (yopen_len _ _) (s2.cont.yok.ropen _)
 refine ⟨(s1.trans s2).trans s3,⟨hL.on,?_,?_⟩,rfl⟩
 ·intro j xj zj h1 h2 h3
  have hjk:k=j:=by have:(k:Int)=j:=h3;omega
  subst hjk
  rw [hx] at h1
  injection h1 with h1
  subst h1
  obtain ⟨z0,hz0,_,_⟩:=hC.yget hk
  have a1:=y1 k z0 hz0
  have a2:=hm2 k
  rw [if_pos rfl,a1,Option.map_some] at a2
  have a3:(openS s k).y[k]?=_:=hm3 k
  rw [if_pos rfl] at a3
  have a2':(freeS (sealS s) k).y[k]?=_:=a2
  rw [a2',Option.map_some] at a3
  rw [a3] at h2
  injection h2 with h2
  subst h2
  have hst:(if s.op=(k:Int) then turnF 2 3 z0 else z0).state=1∨(if s.op=(k:Int) then turnF 2 3 z0 else z0).state=3:=by
   by_cases e:s.op=(k:Int)
   ·rw [if_pos e]
    have:=hL.opn k x z0 hx hz0 e
    unfold turnF
    rw [if_pos this]
    exact Or.inr rfl
   ·rw [if_neg e]
    exact hL.oth k x z0 hx hz0 e hm
  generalize (if s.op=(k:Int) then turnF 2 3 z0 else z0)=z1 at hst ⊢
  have hfr:(freeF (Yneeded (sealS s).y k≠[]) z1).state=1:=by
   unfold freeF
   rcases hst with e | e
   ·rw [if_pos (Or.inl ⟨by omega,by omega⟩)];exact e
   ·rw [if_neg]
    rintro (⟨_,h⟩ | h)
    ·exact h e
    ·exact h hnd
  unfold openF
  rw [if_pos hfr]
  exact ⟨rfl,h0.symm,hm⟩
 ·intro j xj zj h1 h2 h3 h4
  have hjk:k≠j:=fun e=>h3 (by rw [← e];rfl)
  have a3:(openS s k).y[j]?=_:=hm3 j
  rw [if_neg hjk] at a3
  have a2:(freeS (sealS s) k).y[j]?=_:=hm2 j
  rw [if_neg hjk] at a2
  rw [a3,a2] at h2
  have hj:j<s.B:=by rw [← hC.B];exact (List.getElem?_eq_some_iff.1 h1).1
  obtain ⟨z0,hz0,_,_⟩:=hC.yget hj
  rw [y1 j z0 hz0] at h2
  injection h2 with h2
  subst h2
  by_cases e:s.op=(j:Int)
  ·rw [if_pos e]
   have:=hL.opn j xj z0 h1 hz0 e
   unfold turnF
   rw [if_pos this]
   exact Or.inr rfl
  ·rw [if_neg e]
   exact hL.oth j xj z0 h1 hz0 e h4
theorem Live.chip (h:Live s c) (hon:c'.on=true) {k:Nat} {x x':CB} (hx:c.blocks[k]?=some x) (hb:c'.blocks=c.blocks.set k x') (hm:x'.mark=x.mark) (hn:s.op=(k:Int)→x'.next=x.next):Live s c':=by
 have hi:=(List.getElem?_eq_some_iff.1 hx).1
 refine ⟨hon,?_,?_⟩
 ·intro j xj zj h1 h2 h3
  rw [hb,set_at _ _ _ _ hi] at h1
  by_cases e:k=j
  ·subst e
   rw [if_pos rfl] at h1
   injection h1 with h1
   rw [← h1,hm,hn h3]
   exact h.opn k x zj hx h2 h3
  ·rw [if_neg e] at h1
   exact h.opn j xj zj h1 h2 h3
 ·intro j xj zj h1 h2 h3 h4
  rw [hb,set_at _ _ _ _ hi] at h1
  by_cases e:k=j
  ·subst e
   rw [if_pos rfl] at h1
   injection h1 with h1
   rw [← h1,hm] at h4
   exact h.oth k x zj hx h2 h3 h4
  ·rw [if_neg e] at h1
   exact h.oth j xj zj h1 h2 h3 h4
theorem next_at {k:Nat} {x:CB} (hx:c.blocks[k]?=some x):c.nextOf (k:Int)=x.next:=by unfold CM.nextOf;rw [blk_at,hx]
theorem mark_at {k:Nat} {x:CB} (hx:c.blocks[k]?=some x):c.markOf (k:Int)=x.mark:=by unfold CM.markOf;rw [blk_at,hx]
def Taken (s:SM) (c:CM) (r:SM × CM × Int):Prop :=
 StepOk s c r.1 r.2.1∧((r.2.2=0∧Live r.1 r.2.1∧∃ (k:Nat) (x:CB),k<s.B∧r.1.op=k∧r.2.1.blocks[k]?=some x∧x.next=0)∨(r.2.2=7∧Live r.1 r.2.1)∨(r.2.2=4∧r.2.1.on=false∧∃ m∈c.ms,m.kind=2))
theorem mi_mem {k:Int} (h:c.mi.kind=k) (hk:k≠0):∃ m∈c.ms,m.kind=k:=by
 unfold CM.mi miAt at h
 cases e:List.find? (fun m=>decide (m.at_=c.ops+1)) c.ms with
 |none=>rw [e] at h;exact absurd h.symm hk
 |some m=>rw [e] at h;exact ⟨m,List.mem_of_find?_eq_some e,h⟩
def may1 (s:SM) (c:CM) (v:Int):Prop:=∃ (k:Nat) (x:CB),v=k∧c.blocks[k]?=some x∧x.mark=false∧noneed s k
theorem takeL_spec (L:List Int):∀ (s:SM) (c:CM),Cont s c→Live s c→L.Nodup→(∀ v∈L,may1 s c v)→Taken s c (takeL L s c):=by
 induction L with
 |nil=>intro s c hC hL _ _;exact ⟨StepOk.refl hC,Or.inr (Or.inl ⟨rfl,hL⟩)⟩
 |cons v L ih =>
  intro s c hC hL hnd hmay
  obtain ⟨k,x,rfl,hx,hm,hn⟩:=hmay v List.mem_cons_self
  rw [List.nodup_cons] at hnd
  have hk:k<s.B:=by rw [← hC.B];exact (List.getElem?_eq_some_iff.1 hx).1
  have hi:=(List.getElem?_eq_some_iff.1 hx).1
  rw [takeL]
  by_cases hnx:0<c.nextOf k
  ·rw [if_pos hnx]
   obtain ⟨x',hb,hm',hst,_,hcs⟩:=erase_spec hC hL hx hm hn
   have hx':(eraseI c k).1.blocks[k]?=some x':=by rw [hb,set_at _ _ _ _ hi,if_pos rfl]
   rcases hcs with ⟨h1,h2,h3,h4,_⟩ | ⟨h1,h2,h3⟩ | ⟨h1,h2,h3,h4⟩
   ·rw [if_neg (by omega),if_neg (by omega)]
    obtain ⟨o1,o2,o3⟩:=open_spec hst.cont (hL.to0.chip h2 hx hb (hm'.trans hm.symm)) hx' hm' hn h3
    exact ⟨hst.trans o1,Or.inl ⟨rfl,o2,k,x',hk,o3,hx',h3⟩⟩
   ·rw [if_neg (by omega),if_pos (by omega)]
    exact ⟨hst,Or.inr (Or.inr ⟨h1,h2,mi_mem h3 (by decide)⟩)⟩
   ·rw [if_pos h1]
    have hL2:Live s (eraseI c k).1:=hL.chip h2 hx hb (hm'.trans hm.symm) (fun _=>by rw [h3])
    obtain ⟨g1,g2,g3,g4⟩:=give_spec hst.cont hL2 hx'
    rcases g4 with ⟨q1,q2,q3,q4⟩ | ⟨q1,q2,q3⟩
    ·rw [if_neg (by omega)]
     have hall:=hst.trans g1
     have hrec:=ih _ _ hall.cont q2 hnd.2 (fun v hv=>by
      obtain ⟨j,xj,rfl,hj,hmj,hnj⟩:=hmay v (List.mem_cons_of_mem _ hv)
      have hkj:j≠k:=fun e=>hnd.1 (by rw [← e];exact hv)
      refine ⟨j,xj,rfl,?_,hmj,?_⟩
      ·rw [g3 j hkj,hb,set_at _ _ _ _ hi,if_neg (Ne.symm hkj)];exact hj
      ·intro p hp;rw [hall.hs,hall.P];exact hnj p (by rw [← hall.P];exact hp))
     obtain ⟨r1,r2⟩:=hrec
     refine ⟨hall.trans r1,?_⟩
     rw [hall.B,hall.ms] at r2
     exact r2
    ·rw [if_pos (by omega)]
     obtain ⟨m,hm1,hm2⟩:=mi_mem q3 (by decide)
     exact ⟨hst.trans g1,Or.inr (Or.inr ⟨q1,q2,m,by rw [← hst.ms];exact hm1,hm2⟩)⟩
  ·rw [if_neg hnx]
   have h0:x.next=0:=by rw [next_at hx] at hnx;have:=(hC.shape k x hx).2.1;omega
   obtain ⟨o1,o2,o3⟩:=open_spec hC hL.to0 hx hm hn h0
   exact ⟨o1,Or.inl ⟨rfl,o2,k,x,hk,o3,hx,h0⟩⟩
end Go.Proofs.YtoelopghilbfeaaGreat
namespace Go.Proofs.YtoelopghilbfeaaGreat
open Go.RowKit
set_option linter.unusedSimpArgs false
set_option linter.unusedVariables false
variable {s s':SM} {c c':CM}
theorem sortK_nodup {key:Int→Int} {xs:List Int} (h:xs.Nodup):(sortK key xs).Nodup:=by
 have step:∀ (L:List Int) (x:Int),L.Nodup→x ∉ L→(insK key L x).Nodup:=by
  intro L x hL hx
  unfold insK
  rw [List.nodup_append]
  refine ⟨hL.filter _,List.nodup_cons.2 ⟨fun h=>hx (List.mem_filter.1 h).1,hL.filter _⟩,?_⟩
  intro a ha b hb e
  subst e
  have h1:=List.mem_filter.1 ha
  rcases List.mem_cons.1 hb with h2 | h2
  ·subst h2;exact hx h1.1
  ·have h3:=(List.mem_filter.1 h2).2
   have h4:=h1.2
   simp only [decide_eq_true_eq] at h3 h4
   omega
 have gen:∀ (xs L:List Int),L.Nodup→xs.Nodup→(∀ x∈xs,x ∉ L)→(xs.foldl (insK key) L).Nodup:=by
  intro xs
  induction xs with
  |nil=>intro L h _ _;exact h
  |cons x xs ih =>
   intro L hL hx hd
   rw [List.nodup_cons] at hx
   refine ih _ (step L x hL (hd x List.mem_cons_self)) hx.2 fun y hy h2=>?_
   rcases mem_insK.1 h2 with h3 | h3
   ·subst h3;exact hx.1 hy
   ·exact hd y (List.mem_cons_of_mem _ hy) h3
 exact gen xs [] List.nodup_nil h (by simp)
theorem countTo_nodup (cs:List Bool) (k:Nat):(countTo cs k).Nodup:=by
 unfold countTo
 have h:((List.range k).filter fun i=>cs.getD i false).Nodup:=List.nodup_range.filter _
 generalize (List.range k).filter (fun i=>cs.getD i false)=l at h
 induction l with
 |nil=>exact List.nodup_nil
 |cons a t ih =>
  have h2:=List.nodup_cons.1 h
  rw [List.map_cons,List.nodup_cons]
  refine ⟨fun hm=>?_,ih h2.2⟩
  obtain ⟨b,hb,e⟩:=List.mem_map.1 hm
  exact h2.1 ((show b=a by omega) ▸ hb)
theorem emptyL_nodup (s:SM) (c:CM):(emptyL s c).Nodup:=sortK_nodup (countTo_nodup _ _)
theorem emptyL_mem (hC:Cont s c) {v:Int}:v∈emptyL s c↔∃ k:Nat,v=k∧k<s.B∧countB s c k=true:=by
 unfold emptyL orderW
 rw [mem_sortK,mem_countTo]
 constructor
 ·rintro ⟨i,rfl,h1,h2⟩
  have h3:i<s.B:=by simpa [countsL] using h1
  refine ⟨i,rfl,h3,?_⟩
  unfold countsL at h2
  rw [List.getD_eq_getElem?_getD,List.getElem?_map,List.getElem?_range h3] at h2
  exact h2
 ·rintro ⟨i,rfl,h1,h2⟩
  refine ⟨i,rfl,by simpa [countsL] using h1,?_⟩
  unfold countsL
  rw [List.getD_eq_getElem?_getD,List.getElem?_map,List.getElem?_range h1]
  exact h2
theorem countB_iff (hC:Cont s c) {k:Nat} {x:CB} (hx:c.blocks[k]?=some x):countB s c k=true↔x.mark=false∧noneed s k∧(s.op≠(k:Int)∨leftI s c=0):=by
 have hk:k<s.B:=by rw [← hC.B];exact (List.getElem?_eq_some_iff.1 hx).1
 unfold countB
 rw [mark_at hx,← hC.needed_nil hk]
 simp only [Bool.and_eq_true,Bool.not_eq_true',Bool.or_eq_true,decide_eq_true_eq,List.length_eq_zero_iff,ne_eq]
 rw [show ((k:Int)=s.op)=(s.op=(k:Int)) from propext ⟨Eq.symm,Eq.symm⟩]
theorem take_spec (hC:Cont s c) (hL:Live s c):Taken s c (takeS s c):=by
 refine takeL_spec _ s c hC hL (emptyL_nodup s c) fun v hv=>?_
 obtain ⟨k,rfl,hk,hb⟩:=(emptyL_mem hC).1 hv
 obtain ⟨x,hx⟩:=hC.bget hk
 obtain ⟨h1,h2,_⟩:=(countB_iff hC hx).1 hb
 exact ⟨k,x,rfl,hx,h1,h2⟩
def Room1 (s:SM) (c:CM):Prop:=∃ (k:Nat) (x:CB),k<s.B∧s.op=k∧c.blocks[k]?=some x∧x.next<s.P
def TakenT (s:SM) (c:CM) (r:SM × CM × Int):Prop :=
 StepOk s c r.1 r.2.1∧((r.2.2=0∧Live r.1 r.2.1∧Room1 r.1 r.2.1)∨(r.2.2=7∧Live r.1 r.2.1∧leftI s c=0)∨(r.2.2=4∧r.2.1.on=false∧∃ m∈c.ms,m.kind=2))
theorem left_at (hC:Cont s c) {k:Nat} {x:CB} (ho:s.op=k) (hx:c.blocks[k]?=some x):leftI s c=s.P - x.next:=by
 unfold leftI
 rw [if_neg (by omega),ho,next_at hx]
theorem takeT_spec (hC:Cont s c) (hL:Live s c):TakenT s c (takeT s c):=by
 unfold takeT
 by_cases h0:leftI s c=0
 ·rw [if_pos h0]
  obtain ⟨h1,h2⟩:=take_spec hC hL
  refine ⟨h1,?_⟩
  rcases h2 with ⟨q1,q2,k,x,q3,q4,q5,q6⟩ | ⟨q1,q2⟩ | h
  ·refine Or.inl ⟨q1,q2,k,x,by rw [h1.B];exact q3,q4,q5,?_⟩
   rw [q6,h1.P]
   have:=plan_bd hC.pl
   omega
  ·exact Or.inr (Or.inl ⟨q1,q2,h0⟩)
  ·exact Or.inr (Or.inr h)
 ·rw [if_neg h0]
  refine ⟨StepOk.refl hC,Or.inl ⟨rfl,hL,?_⟩⟩
  have hop:=hC.opb
  have hne:s.op≠-1:=fun e=>h0 (by unfold leftI;rw [if_pos e])
  obtain ⟨k,hk⟩:∃ k:Nat,s.op=(k:Int):=⟨s.op.toNat,by omega⟩
  obtain ⟨x,hx⟩:=hC.bget (k:=k) (by omega)
  refine ⟨k,x,by show k<s.B;omega,hk,hx,?_⟩
  show x.next<s.P
  rw [left_at hC hk hx] at h0
  have:=(hC.shape k x hx).2.2.1
  omega
theorem prog_spec (hC:Cont s c) (hL:Live s c) {k:Nat} {x:CB} {raw:List UInt8} {v:List UInt8 × Hd} (ho:s.op=k) (hx:c.blocks[k]?=some x) (hn:x.next<s.P) (hl:raw.length=s.Z+28) (hraw:readF raw=some v) :
  ∃ (x':CB) (p:Nat),x.next=p∧p<s.P∧(Ynext s.y s.op).2.1=p∧(progI c s.op (Ynext s.y s.op).2.1 raw).1.blocks=c.blocks.set k x'∧x'.mark=false∧x'.next=x.next+1∧x'.shape s.P s.Z∧x'.wear=x.wear ∧
   (progI c s.op (Ynext s.y s.op).2.1 raw).1.P=c.P∧(progI c s.op (Ynext s.y s.op).2.1 raw).1.Z=c.Z∧(progI c s.op (Ynext s.y s.op).2.1 raw).1.ms=c.ms∧(progI c s.op (Ynext s.y s.op).2.1 raw).1.misuse=c.misuse ∧
   (progI c s.op (Ynext s.y s.op).2.1 raw).1.ops=c.ops+1 ∧
   (∀ q:Nat,q≠p→pgV x' q=pgV x q) ∧
   (((progI c s.op (Ynext s.y s.op).2.1 raw).2=0∧(progI c s.op (Ynext s.y s.op).2.1 raw).1.on=true∧pgV x' p=some v∧x'.failed=false∧x.failed=false∧c.mi.kind≠1∧c.mi.kind≠2) ∨
    ((progI c s.op (Ynext s.y s.op).2.1 raw).2=4∧(progI c s.op (Ynext s.y s.op).2.1 raw).1.on=false∧(pgV x' p=none∨pgV x' p=some v)∧c.mi.kind=2) ∨
    ((progI c s.op (Ynext s.y s.op).2.1 raw).2=5∧(progI c s.op (Ynext s.y s.op).2.1 raw).1.on=true∧pgV x' p=none∧x'.failed=true∧(c.mi.kind=1∨x.failed=true))):=by
 have hpl:=plan_bd hC.pl
 have hk:k<s.B:=by rw [← hC.B];exact (List.getElem?_eq_some_iff.1 hx).1
 obtain ⟨z,hz,hzl,hz0⟩:=hC.yget hk
 obtain ⟨o1,o2,o3⟩:=hL.opn k x z hx hz ho
 have hsh:=hC.shape k x hx
 obtain ⟨p,hp⟩:∃ p:Nat,x.next=(p:Int):=⟨x.next.toNat,by have:=hsh.2.1;omega⟩
 have hpP:p<s.P:=by omega
 have hy:(Ynext s.y s.op).2.1=(p:Int):=by
  unfold Ynext
  rw [ho,Yat_nat,hz]
  dsimp only
  rw [if_neg (by simp [o1]),if_neg (by omega)]
  exact o2.trans hp
 have hblank:x.pages[p]?=some (blankP s.Z):=hsh.2.2.2 p (by omega) hpP
 have hgd:x.pages.getD p []=blankP s.Z:=by rw [List.getD_eq_getElem?_getD,hblank];rfl
 have e0:progI c s.op (p:Int) raw=progEnd { c with ops:=c.ops+1 } c.mi k x p raw:=by
  unfold progI
  rw [ho,blk_at,hx]
  show c.prog (k:Int).toNat x p raw=_
  rw [Int.toNat_natCast]
  unfold CM.prog
  rw [show decide (0≤(p:Int)∧(p:Int)≤(c.P:Int) - 1)=true from decide_eq_true ⟨by omega,by rw [hC.P];omega⟩,beg_on hL.on]
  dsimp only
  rw [if_neg (by simp),if_neg (by simp [o3,hp])]
  rw [Int.toNat_natCast]
 rw [hy,e0]
 have hput:∀ m:Nat,(x.put p raw m).shape s.P s.Z∧(∀ q:Nat,q≠p→pgV (x.put p raw m) q=pgV x q)∧(x.put p raw m).next=x.next+1∧(x.put p raw m).mark=false∧(x.put p raw m).wear=x.wear∧(x.put p raw m).failed=x.failed ∧
   (m<s.Z+28→pgV (x.put p raw m) p=none)∧(s.Z+28≤m→pgV (x.put p raw m) p=some v):=by
  intro m
  have hpl2:p<x.pages.length:=by rw [hsh.1];exact hpP
  refine ⟨⟨?_,?_,?_,?_⟩,?_,rfl,o3,rfl,rfl,?_,?_⟩
  ·show (x.pages.set p _).length=_;rw [List.length_set];exact hsh.1
  ·show 0≤x.next+1;have:=hsh.2.1;omega
  ·show x.next+1≤s.P;omega
  ·intro q h1 h2
   have h1':x.next+1≤q:=h1
   show (x.pages.set p _)[q]?=_
   rw [set_at _ _ _ _ hpl2,if_neg (by omega)]
   exact hsh.2.2.2 q (by omega) h2
  ·intro q hq
   unfold pgV
   show ((x.pages.set p _)[q]?).bind readF=_
   rw [set_at _ _ _ _ hpl2,if_neg (Ne.symm hq)]
  ·intro hm
   unfold pgV
   show ((x.pages.set p _)[p]?).bind readF=_
   rw [set_at _ _ _ _ hpl2,if_pos rfl,Option.bind_some]
   exact readF_torn hl hgd hm
  ·intro hm
   unfold pgV
   show ((x.pages.set p _)[p]?).bind readF=_
   rw [set_at _ _ _ _ hpl2,if_pos rfl,Option.bind_some,hgd]
   rw [List.take_of_length_le (by omega),List.drop_eq_nil_of_le (by unfold blankP;rw [List.length_replicate];omega),List.append_nil]
   exact hraw
 unfold progEnd
 by_cases k2:c.mi.kind=2
 ·rw [if_pos k2]
  obtain ⟨a1,a2,a3,a4,a5,a6,a7,a8⟩:=hput (progMany c.mi x raw.length)
  refine ⟨_,p,hp,hpP,rfl,rfl,a4,a3,a1,a5,rfl,rfl,rfl,rfl,rfl,a2,Or.inr (Or.inl ⟨rfl,rfl,?_,k2⟩)⟩
  by_cases hm:progMany c.mi x raw.length<s.Z+28
  ·exact Or.inl (a7 hm)
  ·exact Or.inr (a8 (by omega))
 ·rw [if_neg k2]
  by_cases k1:c.mi.kind=1∨x.failed=true
  ·rw [if_pos k1]
   obtain ⟨a1,a2,a3,a4,a5,a6,a7,a8⟩:=hput (progMany c.mi x raw.length)
   refine ⟨{ x.put p raw (progMany c.mi x raw.length) with failed:=true },p,hp,hpP,rfl,rfl,a4,a3,a1,a5,rfl,rfl,rfl,rfl,rfl,a2,Or.inr (Or.inr ⟨rfl,hL.on,a7 ?_,rfl,k1⟩)⟩
   unfold progMany
   split
   ·omega
   ·next hf =>
    rcases k1 with h | h
    ·rw [if_pos h,hl];omega
    ·exact absurd h hf
  ·rw [if_neg k1]
   have k1a:c.mi.kind≠1:=fun e=>k1 (Or.inl e)
   have k1b:x.failed=false:=by cases hf:x.failed with | false=>rfl | true=>exact absurd (Or.inr hf) k1
   have hmn:progMany c.mi x raw.length=s.Z+28:=by unfold progMany;rw [k1b,if_neg (by simp),if_neg k1a,if_neg k2,hl]
   obtain ⟨a1,a2,a3,a4,a5,a6,a7,a8⟩:=hput (progMany c.mi x raw.length)
   exact ⟨_,p,hp,hpP,rfl,rfl,a4,a3,a1,a5,rfl,rfl,rfl,rfl,rfl,a2,Or.inl ⟨rfl,hL.on,a8 (by omega),a6.trans k1b,k1b,k1a,k2⟩⟩
end Go.Proofs.YtoelopghilbfeaaGreat
namespace Go.Proofs.YtoelopghilbfeaaGreat
open Go.RowKit
set_option linter.unusedSimpArgs false
set_option linter.unusedVariables false
variable {s s':SM} {c c':CM}
structure PutRes (s:SM) (c:CM) (d:List UInt8) (h:Hd) (r:SM × CM × Int × Int):Prop where
 B:r.1.B=s.B
 P:r.1.P=s.P
 Z:r.1.Z=s.Z
 mis:r.2.1.misuse=c.misuse
 ms:r.2.1.ms=c.ms
 cont:Cont r.1 r.2.1
 keep:∀ (j q:Nat) (g:Hd),j<s.B→q<s.P→lookS s.hs ((j:Int) * s.P+q)=some g→r.2.1.vAt j q=c.vAt j q
 way:(r.2.2.2=0∧Live r.1 r.2.1∧∃ k p:Nat,k<s.B∧p<s.P∧r.2.2.1=(k:Int) * s.P+p∧lookS s.hs ((k:Int) * s.P+p)=none∧r.1.hs=putS s.hs ((k:Int) * s.P+p) h∧r.1.op=k∧r.2.1.vAt k p=some (d,h) ∧
   ∀ (j q:Nat) v,r.2.1.vAt j q=some v→(j=k∧q=p)∨c.vAt j q=some v) ∨
  (r.2.2.2=7∧Live r.1 r.2.1∧r.1.hs=s.hs∧∀ (j q:Nat) v,r.2.1.vAt j q=some v→c.vAt j q=some v) ∨
  (r.2.2.2=4∧r.2.1.on=false∧r.1.hs=s.hs∧(∃ m∈c.ms,m.kind=2)∧∀ (j q:Nat) v,r.2.1.vAt j q=some v→c.vAt j q=some v∨(j<s.B∧q<s.P∧lookS s.hs ((j:Int) * s.P+q)=none∧v=(d,h)))
theorem PutRes.before {d:List UInt8} {h:Hd} {r:SM × CM × Int × Int} (st:StepOk s c s' c') (g:PutRes s' c' d h r):PutRes s c d h r:=by
 refine ⟨g.B.trans st.B,g.P.trans st.P,g.Z.trans st.Z,g.mis.trans st.mis,g.ms.trans st.ms,g.cont,?_,?_⟩
 ·intro j q x hj hq hl
  rw [g.keep j q x (by rw [st.B];exact hj) (by rw [st.P];exact hq) (by rw [st.hs,st.P];exact hl),st.keep j q x hj hq hl]
 ·have hw:=g.way
  rw [st.B,st.P,st.hs,st.ms] at hw
  rcases hw with ⟨h1,h2,k,p,h3,h4,h5,h6,h7,h8,h9,h10⟩ | ⟨h1,h2,h3,h4⟩ | ⟨h1,h2,h3,h4,h5⟩
  ·exact Or.inl ⟨h1,h2,k,p,h3,h4,h5,h6,h7,h8,h9,fun j q v hv=>(h10 j q v hv).imp id (st.old j q v)⟩
  ·exact Or.inr (Or.inl ⟨h1,h2,h3,fun j q v hv=>st.old j q v (h4 j q v hv)⟩)
  ·exact Or.inr (Or.inr ⟨h1,h2,h3,h4,fun j q v hv=>(h5 j q v hv).imp (st.old j q v) id⟩)
theorem HsWf.put' {hs:List (Int × Hd)} (h:HsWf hs) {a:Int} (x:Hd) (h0:0≤a) (h1:a≤1000000) (hn:lookS hs a=none):HsWf (putS hs a x):=by
 rw [putS_none x hn]
 refine ⟨?_,?_⟩
 ·rw [List.map_append,List.nodup_append]
  refine ⟨h.nodup,by simp,?_⟩
  intro b hb d hd e
  subst e
  have hd':b=a:=by simpa using hd
  subst hd'
  obtain ⟨⟨b2,y⟩,hm,rfl⟩:=List.mem_map.1 hb
  have:lookS hs b2≠none:=by
   clear h hn hb hd h0 h1
   induction hs with
   |nil=>exact absurd hm (by simp)
   |cons q t ih =>
    obtain ⟨b3,y3⟩:=q
    rw [lookS_cons]
    split
    ·simp
    ·next hne =>
     rcases List.mem_cons.1 hm with h | h
     ·injection h with h1 h2;exact absurd h1.symm hne
     ·exact ih h
  exact this hn
 ·intro q hq
  rcases List.mem_append.1 hq with h2 | h2
  ·exact h.rng q h2
  ·rw [List.mem_singleton.1 h2];exact ⟨h0,h1⟩
theorem key_bd (hC:Cont s c) {k p:Nat} (hk:k<s.B) (hp:p<s.P):0≤(k:Int) * s.P+p∧(k:Int) * s.P+p≤1000000:=by
 have hpl:=plan_bd hC.pl
 have:=mul_bd (b:=(k:Int)) (B:=s.B) (P:=s.P) (by omega) (by omega) (by omega) (by omega) (by omega)
 omega
theorem keep_cont (hC:Cont s c) {k p:Nat} {x:CB} {z:YB} {h:Hd} {d:List UInt8} (hx:c.blocks[k]?=some x) (hz:s.y[k]?=some z) (hp:p<s.P) (ht:(p:Int)<z.taken) (hl:lookS s.hs ((k:Int) * s.P+p)=none) (hv:c.vAt k p=some (d,h)) :
  Cont (keepS s k p h) c∧(∀ j:Nat,∃ f:YB→YB,(∀ z,(f z).state=z.state∧(f z).taken=z.taken)∧(keepS s k p h).y[j]?=(s.y[j]?).map f):=by
 have hk:k<s.B:=by rw [← hC.B];exact (List.getElem?_eq_some_iff.1 hx).1
 have hky:=(List.getElem?_eq_some_iff.1 hz).1
 have hzl:=(hC.yok z (List.mem_of_getElem? hz)).1
 have hb:=hC.bit k z p hz hp
 rw [hl] at hb
 have hpl:p<z.pages.length:=by omega
 have hy:(keepS s k p h).y=s.y.set k { z with pages:=z.pages.set p (true,decide (h.k=1)) }:=by
  show (Yneed s.y k p (decide (h.k=1))).1=_
  unfold Yneed Ypg
  rw [Yat_nat,hz]
  dsimp only
  rw [if_pos ⟨by omega,by omega⟩]
  dsimp only
  rw [Int.toNat_natCast,if_neg (by
   rintro (h1 | h1)
   ·omega
   ·rw [hb] at h1;exact absurd h1 (by decide))]
  unfold Ypset Yset
  rw [Int.toNat_natCast,Int.toNat_natCast]
 have hkey:=key_bd hC hk hp
 have hlk:∀ n,lookS (putS s.hs ((k:Int) * s.P+p) h) n=if n=(k:Int) * s.P+p then some h else lookS s.hs n:=fun n=>lookS_put h n hl
 refine ⟨⟨hC.B,hC.P,hC.Z,hC.pl,?_,?_,hC.wf.put' h hkey.1 hkey.2 hl,hC.opb,?_,?_,?_,hC.shape⟩,?_⟩
 ·rw [hy,List.length_set];exact hC.yl
 ·intro w hw
  rw [hy] at hw
  rcases List.mem_or_eq_of_mem_set hw with h1 | h1
  ·exact hC.yok w h1
  ·rw [h1]
   exact ⟨by show (z.pages.set p _).length=s.P;rw [List.length_set];exact hzl,(hC.yok z (List.mem_of_getElem? hz)).2⟩
 ·intro n g hg
  have hg':lookS (putS s.hs ((k:Int) * s.P+p) h) n=some g:=hg
  rw [hlk] at hg'
  split at hg'
  ·next e=>exact ⟨k,p,hk,hp,e⟩
  ·exact hC.keys n g hg'
 ·intro j w q hw hq
  show _=(lookS (putS s.hs ((k:Int) * s.P+p) h) ((j:Int) * s.P+q)).isSome
  rw [hlk]
  rw [hy,set_at _ _ _ _ hky] at hw
  have hq':q<s.P:=hq
  by_cases e:k=j
  ·subst e
   rw [if_pos rfl] at hw
   injection hw with hw
   subst hw
   show ((z.pages.set p (true,decide (h.k=1))).getD q (false,false)).1=_
   rw [List.getD_eq_getElem?_getD,set_at _ _ _ _ hpl]
   by_cases e2:p=q
   ·subst e2
    rw [if_pos rfl,if_pos rfl]
    rfl
   ·rw [if_neg e2,if_neg (fun e3=>e2 (key_inj hq' hp e3).2.symm),← List.getD_eq_getElem?_getD]
    exact hC.bit k z q hz hq'
  ·rw [if_neg e] at hw
   rw [if_neg (fun e3=>e (key_inj hq' hp e3).1.symm)]
   exact hC.bit j w q hw hq'
 ·intro j q g hj hq hg
  have hg':lookS (putS s.hs ((k:Int) * s.P+p) h) ((j:Int) * s.P+q)=some g:=hg
  rw [hlk] at hg'
  split at hg'
  ·next e =>
   injection hg' with hg'
   obtain ⟨rfl,rfl⟩:=key_inj hq hp e
   rw [← hg']
   exact ⟨d,hv⟩
  ·exact hC.page j q g hj hq hg'
 ·intro j
  rw [hy,set_at _ _ _ _ hky]
  by_cases e:k=j
  ·subst e
   exact ⟨fun w=>{ w with pages:=w.pages.set p (true,decide (h.k=1)) },fun _=>⟨rfl,rfl⟩,by rw [if_pos rfl,hz];rfl⟩
  ·refine ⟨id,fun _=>⟨rfl,rfl⟩,?_⟩
   rw [if_neg e]
   cases s.y[j]? <;> rfl
theorem putL_spec {h:Hd} {d:List UInt8} (hl:(layL d h).length=s.Z+28) (hr:readF (layL d h)=some (d,h)) (n:Nat):∀ (s':SM) (c:CM),s'.Z=s.Z→Cont s' c→Live s' c→c.cnt<n→PutRes s' c d h (putL h (layL d h) n s' c):=by
 induction n with
 |zero=>intro _ _ _ _ _ hn;omega
 |succ n ih =>
  intro s0 c0 hZ0 hC0 hL0 hn
  rw [putL]
  obtain ⟨t1,t2⟩:=takeT_spec hC0 hL0
  have hcn:=(takeT_geo s0 c0).2.2.1
  generalize takeT s0 c0=r at t1 t2 hcn
  obtain ⟨s1,c1,code⟩:=r
  dsimp only at t1 t2 hcn ⊢
  rcases t2 with ⟨h0,hL,k,x,hk,ho,hx,hnx⟩ | ⟨h7,hL,_⟩ | ⟨h4,hoff,hm⟩
  ·rw [if_neg (by omega)]
   have hC:=t1.cont
   have hZ1:s1.Z=s.Z:=t1.Z.trans hZ0
   refine PutRes.before t1 ?_
   obtain ⟨x',p,hxp,hpP,hyn,hb,hmk,hnx',hsh,hwr,gP,gZ,gms,gmis,gops,hpg,hcs⟩:=prog_spec hC hL ho hx hnx (by rw [hZ1];exact hl) hr
   have hpc:=progI_cnt c1 s1.op (Ynext s1.y s1.op).2.1 (layL d h)
   generalize hq:progI c1 s1.op (Ynext s1.y s1.op).2.1 (layL d h)=q at hb gP gZ gms gmis gops hcs hpc
   obtain ⟨c2,qc⟩:=q
   dsimp only at hb gP gZ gms gmis gops hcs hpc
   have hi:=(List.getElem?_eq_some_iff.1 hx).1
   have hx':c2.blocks[k]?=some x':=by rw [hb,set_at _ _ _ _ hi,if_pos rfl]
   obtain ⟨z,hz,hzl,hz0⟩:=hC.yget hk
   obtain ⟨os,ot,om⟩:=hL.opn k x z hx hz ho
   have hab:=hC.above (p:=p) hx hpP (by omega)
   have hkp:∀ q g,q<s1.P→lookS s1.hs ((k:Int) * s1.P+q)=some g→pgV x' q=pgV x q:=by
    intro q g hq hg
    refine hpg q fun e=>?_
    rw [e,hab.1] at hg
    exact absurd hg (by simp)
   have hym:=ynext_mod s1.y k
   rw [← ho] at hym
   have stN:StepOk s1 c1 (nextY s1 s1.op) c1:=StepOk.ymod hC hym nextF_pages rfl rfl rfl rfl hC.opb (ynext_len _ _) (hC.yok.next _)
   have hzN:(nextY s1 s1.op).y[k]?=some { z with taken:=z.taken+1 }:=by
    have:=hym k
    rw [ho] at this
    show (Ynext s1.y s1.op).1[k]?=_
    rw [ho,this,if_pos rfl,hz,Option.map_some]
    unfold nextF
    rw [if_neg (by simp [os]),if_neg (by omega)]
   have hzJ:∀ j:Nat,k≠j→(nextY s1 s1.op).y[j]?=s1.y[j]?:=by
    intro j hj
    have:=hym j
    rw [ho] at this
    show (Ynext s1.y s1.op).1[j]?=_
    rw [ho,this,if_neg hj]
   have hkp2:∀ (j q:Nat) (g:Hd),j<s1.B→q<s1.P→lookS s1.hs ((j:Int) * s1.P+q)=some g→c2.vAt j q=c1.vAt j q:=by
    intro j q g hj hq hg
    rw [vAt_set hb hi]
    by_cases e:k=j
    ·subst e
     rw [if_pos rfl,vAt_of hx]
     exact hkp q g hq hg
    ·rw [if_neg e]
   have hold:∀ (j q:Nat) v,c2.vAt j q=some v→(j=k∧q=p)∨c1.vAt j q=some v:=by
    intro j q v hv
    rw [vAt_set hb hi] at hv
    by_cases e:k=j
    ·subst e
     rw [if_pos rfl] at hv
     by_cases e2:q=p
     ·exact Or.inl ⟨rfl,e2⟩
     ·rw [hpg q e2,← vAt_of hx] at hv
      exact Or.inr hv
    ·rw [if_neg e] at hv
     exact Or.inr hv
   have hC2:Cont (nextY s1 s1.op) c2:=by
    have:=stN.cont.setBlk (c':=c2) hx hb gP gZ hsh (fun q g hq hg=>hkp q g hq hg)
    exact this
   have hL2:c2.on=true→Live (nextY s1 s1.op) c2:=by
    intro hon
    refine ⟨hon,?_,?_⟩
    ·intro j xj zj a1 a2 a3
     have hjk:k=j:=by have:s1.op=(j:Int):=a3;omega
     subst hjk
     rw [hx'] at a1
     injection a1 with a1
     rw [hzN] at a2
     injection a2 with a2
     rw [← a1,← a2]
     exact ⟨os,by show z.taken+1=x'.next;rw [hnx',ot],hmk⟩
    ·intro j xj zj a1 a2 a3 a4
     have hjk:k≠j:=fun e=>a3 (by show s1.op=_;omega)
     rw [hzJ j hjk] at a2
     rw [hb,set_at _ _ _ _ hi,if_neg hjk] at a1
     exact hL.oth j xj zj a1 a2 (fun e=>a3 e) a4
   unfold putM
   dsimp only
   rw [hyn]
   rcases hcs with ⟨q0,q1,q2,q3⟩ | ⟨q0,q1,q2,q3⟩ | ⟨q0,q1,q2,q3,q4⟩
   ·
    rw [if_pos q0]
    have hv:c2.vAt k p=some (d,h):=by rw [vAt_of hx'];exact q2
    obtain ⟨kc,ky⟩:=keep_cont (s:=nextY s1 s1.op) hC2 hx' hzN hpP (by show (p:Int)<z.taken+1;omega) hab.1 hv
    rw [← ho] at kc ky
    refine ⟨rfl,rfl,rfl,gmis,gms,kc,hkp2,Or.inl ⟨rfl,⟨q1,?_,?_⟩,k,p,hk,hpP,by show s1.op * s1.P+p=_;rw [ho],hab.1,by show putS s1.hs (s1.op * s1.P+p) h=_;rw [ho],ho,hv,hold⟩⟩
    ·intro j xj zj a1 a2 a3
     obtain ⟨f,f1,f2⟩:=ky j
     rw [f2] at a2
     cases hzj:(nextY s1 s1.op).y[j]? with
     |none=>rw [hzj] at a2;exact absurd a2 (by simp)
     |some w =>
      rw [hzj,Option.map_some] at a2
      injection a2 with a2
      rw [← a2,(f1 w).1,(f1 w).2]
      exact (hL2 q1).opn j xj w a1 hzj a3
    ·intro j xj zj a1 a2 a3 a4
     obtain ⟨f,f1,f2⟩:=ky j
     rw [f2] at a2
     cases hzj:(nextY s1 s1.op).y[j]? with
     |none=>rw [hzj] at a2;exact absurd a2 (by simp)
     |some w =>
      rw [hzj,Option.map_some] at a2
      injection a2 with a2
      rw [← a2,(f1 w).1]
      exact (hL2 q1).oth j xj w a1 hzj a3 a4
   ·
    rw [if_neg (by omega),if_neg (by omega)]
    refine ⟨rfl,rfl,rfl,gmis,gms,hC2,hkp2,Or.inr (Or.inr ⟨q0,q1,rfl,mi_mem q3 (by decide),?_⟩)⟩
    intro j q v hv
    rcases hold j q v hv with ⟨rfl,rfl⟩ | h1
    ·rw [vAt_of hx'] at hv
     rcases q2 with e | e
     ·rw [e] at hv;exact absurd hv (by simp)
     ·rw [e] at hv;injection hv with hv;exact Or.inr ⟨hk,hpP,hab.1,hv.symm⟩
    ·exact Or.inl h1
   ·
    rw [if_neg (by omega),if_pos q0]
    have hstep:StepOk s1 c1 (nextY s1 s1.op) c2:=by
     refine ⟨rfl,rfl,rfl,rfl,gmis,gms,hkp2,?_,hC2⟩
     intro j q v hv
     rcases hold j q v hv with ⟨rfl,rfl⟩ | h1
     ·rw [vAt_of hx',q2] at hv;exact absurd hv (by simp)
     ·exact h1
    obtain ⟨g1,g2,g3,g4⟩:=give_spec hC2 (hL2 q1) hx'
    have gcn:=giveI_cnt (nextY s1 s1.op) c2 (k:Int)
    rw [ho] at g1 g2 g3 g4 gcn hstep hpc ⊢
    have hall:=hstep.trans g1
    rcases g4 with ⟨w1,w2,w3,w4⟩ | ⟨w1,w2,w3⟩
    ·rw [if_neg (by omega)]
     refine PutRes.before hall (ih _ _ (hall.Z.trans hZ1) hall.cont w2 ?_)
     obtain ⟨xx,hxx,hmm⟩:=hpc.2 q0
     have:=gcn.2 w1 xx hxx hmm
     omega
    ·rw [if_pos (by omega)]
     refine ⟨hall.B,hall.P,hall.Z,hall.mis,hall.ms,hall.cont,hall.keep,Or.inr (Or.inr ⟨w1,w2,hall.hs,?_,fun j q v hv=>Or.inl (hall.old j q v hv)⟩)⟩
     obtain ⟨m,m1,m2⟩:=mi_mem w3 (by decide)
     exact ⟨m,by rw [← gms];exact m1,m2⟩
  ·rw [if_pos (by omega)]
   exact ⟨t1.B,t1.P,t1.Z,t1.mis,t1.ms,t1.cont,t1.keep,Or.inr (Or.inl ⟨h7,hL,t1.hs,t1.old⟩)⟩
  ·rw [if_pos (by omega)]
   exact ⟨t1.B,t1.P,t1.Z,t1.mis,t1.ms,t1.cont,t1.keep,Or.inr (Or.inr ⟨h4,hoff,t1.hs,hm,fun j q v hv=>Or.inl (t1.old j q v hv)⟩)⟩
theorem putA_spec {h:Hd} {d:List UInt8} (hC:Cont s c) (hL:Live s c) (hm:h.may=true) (hi:HdIn h) (hd:d.length=s.Z):PutRes s c d h (putA s c h d):=by
 have hpl:=plan_bd hC.pl
 have hsz:sizedB d.length=true:=by
  unfold sizedB
  rw [hd]
  simp
  omega
 unfold putA
 rw [if_neg (by rw [hsz,hm];simp [hd]),if_neg (by rw [hL.on];simp)]
 exact putL_spec (s:=s) (by rw [layL_len,hd]) (readF_lay d h hsz hm hi) _ s c rfl hC hL (by omega)
end Go.Proofs.YtoelopghilbfeaaGreat
namespace Go.Proofs.YtoelopghilbfeaaGreat
open Go.RowKit
set_option linter.unusedSimpArgs false
set_option linter.unusedVariables false
variable {s s':SM} {c c':CM}
theorem mi_at {k:Int} (h:c.mi.kind=k) (hk:k≠0):∃ m∈c.ms,m.kind=k∧m.at_=c.ops+1:=by
 unfold CM.mi miAt at h
 cases e:List.find? (fun m=>decide (m.at_=c.ops+1)) c.ms with
 |none=>rw [e] at h;exact absurd h.symm hk
 |some m =>
  rw [e] at h
  have:=List.find?_some e
  exact ⟨m,List.mem_of_find?_eq_some e,h,by simpa using this⟩
structure Reads (c c':CM):Prop where
 blocks:c'.blocks=c.blocks
 P:c'.P=c.P
 Z:c'.Z=c.Z
 ms:c'.ms=c.ms
 mis:c'.misuse=c.misuse
 ops:c.ops≤c'.ops
theorem Reads.refl (c:CM):Reads c c:=⟨rfl,rfl,rfl,rfl,rfl,Int.le_refl _⟩
theorem Reads.trans {c1 c2 c3:CM} (h:Reads c1 c2) (g:Reads c2 c3):Reads c1 c3:=⟨g.blocks.trans h.blocks,g.P.trans h.P,g.Z.trans h.Z,g.ms.trans h.ms,g.mis.trans h.mis,Int.le_trans h.ops g.ops⟩
def DarkBy (c c':CM):Prop:=c'.on=false∧∃ m∈c.ms,m.kind=2∧c.ops<m.at_∧m.at_≤c'.ops
theorem DarkBy.before {c1 c2 c3:CM} (h:Reads c1 c2) (g:DarkBy c2 c3):DarkBy c1 c3:=by
 obtain ⟨g1,m,g2,g3,g4,g5⟩:=g
 exact ⟨g1,m,by rw [← h.ms];exact g2,g3,by have:=h.ops;omega,g5⟩
theorem read_spec (hC:Cont s c) (hon:c.on=true) {k p:Nat} {x:CB} (hx:c.blocks[k]?=some x) (hp:p<s.P) :
  Reads c (c.read k p).1∧(((c.read k p).2.2=0∧(c.read k p).1.on=true∧readF (c.read k p).2.1=pgV x p)∨((c.read k p).2.2=4∧DarkBy c (c.read k p).1)):=by
 have hk:k<c.blocks.length:=(List.getElem?_eq_some_iff.1 hx).1
 have hpg:c.pgood k p=true:=by
  unfold CM.pgood CM.there
  have h1:decide (0≤(k:Int)∧(k:Int)<(c.blocks.length:Int))=true:=decide_eq_true ⟨by omega,by omega⟩
  have h2:decide (0≤(p:Int)∧(p:Int)≤(c.P:Int) - 1)=true:=decide_eq_true ⟨by omega,by rw [hC.P];omega⟩
  rw [h1,h2]
  rfl
 have e:c.read k p=if c.mi.kind=2 then ({ c with ops:=c.ops+1,on:=false },[],4) else ({ c with ops:=c.ops+1 },c.pageOf k p,0):=by
  unfold CM.read
  rw [hpg,beg_on hon]
  dsimp only
  rw [if_neg (by simp)]
 rw [e]
 by_cases k2:c.mi.kind=2
 ·rw [if_pos k2]
  refine ⟨⟨rfl,rfl,rfl,rfl,rfl,by show c.ops≤c.ops+1;omega⟩,Or.inr ⟨rfl,rfl,?_⟩⟩
  obtain ⟨m,m1,m2,m3⟩:=mi_at k2 (by decide)
  exact ⟨m,m1,m2,by omega,by show m.at_≤c.ops+1;omega⟩
 ·rw [if_neg k2]
  refine ⟨⟨rfl,rfl,rfl,rfl,rfl,by show c.ops≤c.ops+1;omega⟩,Or.inl ⟨rfl,hon,?_⟩⟩
  show readF (c.pageOf k p)=_
  have hl:=(hC.shape k x hx).1
  unfold CM.pageOf pgV
  rw [blk_at,hx]
  dsimp only
  rw [Int.toNat_natCast,List.getD_eq_getElem?_getD,List.getElem?_eq_getElem (by omega)]
  first | done | rfl
theorem Cont.reads (h:Cont s c) (g:Reads c c'):Cont s c':=h.same g.blocks g.P g.Z
theorem Reads.vAt (g:Reads c c') (k p:Nat):c'.vAt k p=c.vAt k p:=vAt_blocks g.blocks k p
theorem lookN_spec {k:Nat} {x:CB} (n:Nat):∀ (i:Nat) (s:SM) (c:CM) (z:YB),Cont s c→c.on=true→c.blocks[k]?=some x→s.y[k]?=some z→z.state=2→z.taken=i→i+n≤s.P→(∀ q,i≤q→q<s.P→lookS s.hs ((k:Int) * s.P+q)=none) →
  Reads c (lookN n s c k).2.1∧(((lookN n s c k).2.2=4∧DarkBy c (lookN n s c k).2.1) ∨
   ((lookN n s c k).2.2=0∧(lookN n s c k).2.1.on=true∧Cont (lookN n s c k).1 (lookN n s c k).2.1∧(lookN n s c k).1.B=s.B∧(lookN n s c k).1.P=s.P∧(lookN n s c k).1.Z=s.Z∧(lookN n s c k).1.op=s.op ∧
    (∃ z',(lookN n s c k).1.y[k]?=some z'∧z'.state=2)∧(∀ j:Nat,j≠k→((lookN n s c k).1.y[j]?).map (·.state)=(s.y[j]?).map (·.state)) ∧
    ∀ j q:Nat,q<s.P→lookS (lookN n s c k).1.hs ((j:Int) * s.P+q)=if j=k∧i≤q∧q<i+n then (c.vAt j q).map (·.2) else lookS s.hs ((j:Int) * s.P+q))):=by
 induction n with
 |zero =>
  intro i s c z hC hon hx hz hst ht hi hno
  refine ⟨Reads.refl c,Or.inr ⟨rfl,hon,hC,rfl,rfl,rfl,rfl,⟨z,hz,hst⟩,fun _ _=>rfl,fun j q _=>?_⟩⟩
  rw [if_neg (by omega)]
  rfl
 |succ n ih =>
  intro i s c z hC hon hx hz hst ht hi hno
  have hzl:=(hC.yok z (List.mem_of_getElem? hz)).1
  have hk:k<s.B:=by rw [← hC.B];exact (List.getElem?_eq_some_iff.1 hx).1
  have hyn:(Ynext s.y (k:Int)).2.1=(i:Int):=by
   unfold Ynext
   rw [Yat_nat,hz]
   dsimp only
   rw [if_neg (by simp [hst]),if_neg (by omega)]
   exact ht
  have hym:=ynext_mod s.y k
  have hzN:(nextY s k).y[k]?=some { z with taken:=z.taken+1 }:=by
   show (Ynext s.y k).1[k]?=_
   rw [hym k,if_pos rfl,hz,Option.map_some]
   unfold nextF
   rw [if_neg (by simp [hst]),if_neg (by omega)]
  have hzJ:∀ j:Nat,j≠k→(nextY s k).y[j]?=s.y[j]?:=by
   intro j hj
   show (Ynext s.y k).1[j]?=_
   rw [hym j,if_neg (Ne.symm hj)]
  have hCN:Cont (nextY s k) c:=hC.ymod hym nextF_pages rfl rfl rfl rfl hC.opb (ynext_len _ _) (hC.yok.next _)
  obtain ⟨r1,r2⟩:=read_spec hC hon hx (p:=i) (by omega)
  rw [lookN,hyn]
  rcases r2 with ⟨q0,q1,q2⟩ | ⟨q0,q1⟩
  ·rw [if_neg (by omega)]
   have hx2:(c.read k i).1.blocks[k]?=some x:=by rw [r1.blocks];exact hx
   rw [q2]
   have hvx:=vAt_of hx i
   cases hv:pgV x i with
   |none =>
    dsimp only
    have:=ih (i+1) (nextY s k) (c.read k i).1 _ (hCN.reads r1) q1 hx2 hzN hst (by show z.taken+1=_;omega) (by show i+1+n≤s.P;omega) (fun q h1 h2=>hno q (by omega) h2)
    obtain ⟨g1,g2⟩:=this
    refine ⟨r1.trans g1,?_⟩
    rcases g2 with ⟨a0,a1⟩ | ⟨a0,a1,a2,a3,a4,a5,a6,a7,a8,a9⟩
    ·exact Or.inl ⟨a0,a1.before r1⟩
    ·refine Or.inr ⟨a0,a1,a2,a3,a4,a5,a6,a7,fun j hj=>by rw [a8 j hj,hzJ j hj],fun j q hq=>?_⟩
     have:=a9 j q hq
     refine this.trans ?_
     rw [r1.vAt]
     by_cases e:j=k∧i≤q∧q<i+(n+1)
     ·rw [if_pos e]
      obtain ⟨rfl,e2,e3⟩:=e
      by_cases e4:q=i
      ·subst e4
       rw [if_neg (by omega),hvx,hv]
       exact hno q (Nat.le_refl _) (by omega)
      ·rw [if_pos ⟨rfl,by omega,by omega⟩]
     ·rw [if_neg e,if_neg (by omega)]
      rfl
   |some v =>
    obtain ⟨d,h⟩:=v
    dsimp only
    have hlN:lookS (nextY s k).hs ((k:Int) * (nextY s k).P+i)=none:=hno i (Nat.le_refl _) (by omega)
    have hv2:(c.read k i).1.vAt k i=some (d,h):=by rw [r1.vAt,hvx,hv]
    obtain ⟨kc,ky⟩:=keep_cont (s:=nextY s k) (p:=i) (h:=h) (hCN.reads r1) hx2 hzN (by show i<s.P;omega) (by show (i:Int)<z.taken+1;omega) hlN hv2
    obtain ⟨f,f1,f2⟩:=ky k
    rw [hzN,Option.map_some] at f2
    have hlk:∀ m,lookS (keepS (nextY s k) k i h).hs m=if m=(k:Int) * s.P+i then some h else lookS s.hs m:=fun m=>lookS_put h m hlN
    have:=ih (i+1) (keepS (nextY s k) k i h) (c.read k i).1 _ kc q1 hx2 f2 (by rw [(f1 _).1];exact hst) (by rw [(f1 _).2];show z.taken+1=_;omega) (by show i+1+n≤s.P;omega) (fun q h1 h2=>by
     rw [hlk]
     have h2':q<s.P:=h2
     rw [if_neg (fun e=>by have:=(key_inj h2' (by omega) e).2;omega)]
     exact hno q (by omega) h2)
    obtain ⟨g1,g2⟩:=this
    refine ⟨r1.trans g1,?_⟩
    rcases g2 with ⟨a0,a1⟩ | ⟨a0,a1,a2,a3,a4,a5,a6,a7,a8,a9⟩
    ·exact Or.inl ⟨a0,a1.before r1⟩
    ·refine Or.inr ⟨a0,a1,a2,a3,a4,a5,a6,a7,fun j hj=>?_,fun j q hq=>?_⟩
     ·rw [a8 j hj]
      obtain ⟨f',f1',f2'⟩:=ky j
      rw [f2',hzJ j hj,Option.map_map]
      congr 1
      funext w
      exact (f1' w).1
     ·have:=a9 j q hq
      refine this.trans ?_
      rw [r1.vAt]
      have hlk':=hlk ((j:Int) * s.P+q)
      by_cases e:j=k∧i≤q∧q<i+(n+1)
      ·rw [if_pos e]
       obtain ⟨rfl,e2,e3⟩:=e
       by_cases e4:q=i
       ·subst e4
        rw [if_neg (by omega),hvx,hv]
        refine hlk'.trans ?_
        rw [if_pos rfl]
        rfl
       ·rw [if_pos ⟨rfl,by omega,by omega⟩]
      ·rw [if_neg e,if_neg (by omega)]
       refine hlk'.trans ?_
       rw [if_neg]
       intro e2
       obtain ⟨e3,e4⟩:=key_inj hq (by omega) e2
       exact e ⟨e3,by omega,by omega⟩
  ·rw [if_pos (by omega)]
   exact ⟨r1,Or.inl ⟨q0,q1⟩⟩
structure Part (s:SM) (c:CM) (k:Nat):Prop where
 cont:Cont s c
 on:c.on=true
 op:s.op=-1
 lo:∀ j q:Nat,j<k→j<s.B→q<s.P→lookS s.hs ((j:Int) * s.P+q)=(c.vAt j q).map (·.2)
 hi:∀ j q:Nat,k≤j→q<s.P→lookS s.hs ((j:Int) * s.P+q)=none
 st1:∀ (j:Nat) (x:CB) (z:YB),j<k→c.blocks[j]?=some x→s.y[j]?=some z→x.mark=false→z.state=1∨z.state=3
 st2:∀ (j:Nat) (z:YB),k≤j→s.y[j]?=some z→z.state=1
theorem lookI_spec {k:Nat} (hP:Part s c k) (hk:k<s.B) :
  Reads c (lookI s c k).2.1∧(((lookI s c k).2.2=4∧DarkBy c (lookI s c k).2.1)∨((lookI s c k).2.2=0∧Part (lookI s c k).1 (lookI s c k).2.1 (k+1)∧(lookI s c k).1.B=s.B∧(lookI s c k).1.P=s.P∧(lookI s c k).1.Z=s.Z)):=by
 have hC:=hP.cont
 obtain ⟨x,hx⟩:=hC.bget hk
 obtain ⟨z,hz,hzl,hz0⟩:=hC.yget hk
 have hsh:=hC.shape k x hx
 have hA:Reads c (lookA s c k).2.1∧(((lookA s c k).2.2=4∧DarkBy c (lookA s c k).2.1)∨((lookA s c k).2.2=0∧(lookA s c k).2.1.on=true∧Cont (lookA s c k).1 (lookA s c k).2.1∧(lookA s c k).1.op=-1∧(lookA s c k).1.B=s.B∧(lookA s c k).1.P=s.P∧(lookA s c k).1.Z=s.Z ∧
   (∃ z',(lookA s c k).1.y[k]?=some z'∧(z'.state=1∨z'.state=3))∧(∀ j:Nat,j≠k→((lookA s c k).1.y[j]?).map (·.state)=(s.y[j]?).map (·.state)) ∧
   ∀ j q:Nat,q<s.P→lookS (lookA s c k).1.hs ((j:Int) * s.P+q)=if j=k then (c.vAt j q).map (·.2) else lookS s.hs ((j:Int) * s.P+q))):=by
  unfold lookA
  rw [next_at hx]
  by_cases h0:0<x.next
  ·rw [if_pos h0]
   have hym:=yopen_mod s.y k
   have hzO:(ropenS s k).y[k]?=some { z with state:=2,taken:=0 }:=by
    show (Yopen s.y k).1[k]?=_
    rw [hym k,if_pos rfl,hz,Option.map_some]
    unfold openF
    rw [if_pos (hP.st2 k z (Nat.le_refl _) hz)]
   have hzJ:∀ j:Nat,j≠k→(ropenS s k).y[j]?=s.y[j]?:=by
    intro j hj
    show (Yopen s.y k).1[j]?=_
    rw [hym j,if_neg (Ne.symm hj)]
   have hCO:Cont (ropenS s k) c:=hC.ymod hym openF_pages rfl rfl rfl rfl hC.opb (yopen_len _ _) (hC.yok.ropen _)
   have hn:0+x.next.toNat≤(ropenS s k).P:=by show 0+x.next.toNat≤s.P;have:=hsh.2.2.1;omega
   obtain ⟨g1,g2⟩:=lookN_spec x.next.toNat 0 (ropenS s k) c _ hCO hP.on hx hzO rfl rfl hn (fun q _ hq=>hP.hi k q (Nat.le_refl _) hq)
   refine ⟨?_,?_⟩
   ·split <;> exact g1
   ·rcases g2 with ⟨a0,a1⟩ | ⟨a0,a1,a2,a3,a4,a5,a6,⟨z',a7,a7'⟩,a8,a9⟩
    ·rw [if_pos (by omega)]
     exact Or.inl ⟨a0,a1⟩
    ·rw [if_neg (by omega)]
     dsimp only
     generalize lookN x.next.toNat (ropenS s k) c (k:Int)=r at a0 a1 a2 a3 a4 a5 a6 a7 a8 a9
     obtain ⟨s3,c3,cd⟩:=r
     dsimp only at a0 a1 a2 a3 a4 a5 a6 a7 a8 a9 ⊢
     have hym3:=yturn_mod s3.y k 2 3
     have hop3:s3.op=-1:=by rw [a6];exact hP.op
     refine Or.inr ⟨rfl,a1,a2.ymod hym3 (turnF_pages 2 3) rfl rfl rfl rfl a2.opb (yturn_len _ _ _ _) (a2.yok.turn _ _ _),hop3,a3,a4,a5,⟨{ z' with state:=3 },?_,Or.inr rfl⟩,?_,?_⟩
     ·rw [hym3 k,if_pos rfl,a7,Option.map_some]
      unfold turnF
      rw [if_pos a7']
     ·intro j hj
      rw [hym3 j,if_neg (Ne.symm hj),a8 j hj,hzJ j hj]
     ·intro j q hq
      refine (a9 j q hq).trans ?_
      by_cases e:j=k
      ·rw [if_pos e]
       by_cases e2:q<x.next.toNat
       ·rw [if_pos ⟨e,by omega,by omega⟩]
       ·rw [if_neg (by omega)]
        subst e
        rw [vAt_of hx,(hC.above hx hq (by omega)).2]
        exact hP.hi j q (Nat.le_refl _) hq
      ·rw [if_neg e,if_neg (by omega)]
       rfl
  ·rw [if_neg h0]
   refine ⟨Reads.refl c,Or.inr ⟨rfl,hP.on,hC,hP.op,rfl,rfl,rfl,⟨z,hz,Or.inl (hP.st2 k z (Nat.le_refl _) hz)⟩,fun _ _=>rfl,fun j q hq=>?_⟩⟩
   by_cases e:j=k
   ·rw [if_pos e]
    subst e
    rw [vAt_of hx,(hC.above hx hq (by omega)).2]
    exact hP.hi j q (Nat.le_refl _) hq
   ·rw [if_neg e]
 obtain ⟨a1,a2⟩:=hA
 unfold lookI
 rcases a2 with ⟨q0,q1⟩ | ⟨q0,q1,q2,q3,q4,q5,q6,⟨z',q7,q7'⟩,q8,q9⟩
 ·rw [if_pos (by omega)]
  exact ⟨a1,Or.inl ⟨q0,q1⟩⟩
 ·rw [if_neg (by omega)]
  unfold lookB
  generalize lookA s c (k:Int)=r at a1 q0 q1 q2 q3 q4 q5 q6 q7 q8 q9
  obtain ⟨s3,c3,cd⟩:=r
  dsimp only at a1 q0 q1 q2 q3 q4 q5 q6 q7 q8 q9 ⊢
  have hx3:c3.blocks[k]?=some x:=by rw [a1.blocks];exact hx
  rw [mark_at hx3]
  have hjs:∀ (j:Nat) (w:YB),j≠k→s3.y[j]?=some w→∃ w0,s.y[j]?=some w0∧w.state=w0.state:=by
   intro j w hj hw
   have:=q8 j hj
   rw [hw] at this
   cases hs0:s.y[j]? with
   |none=>rw [hs0] at this;exact absurd this (by simp)
   |some w0=>rw [hs0] at this;injection this with this;exact ⟨w0,rfl,this⟩
  have hlo:∀ j q:Nat,j<k+1→j<s.B→q<s.P→lookS s3.hs ((j:Int) * s.P+q)=(c3.vAt j q).map (·.2):=by
   intro j q h1 h2 h3
   rw [q9 j q h3,a1.vAt]
   split
   ·rfl
   ·exact hP.lo j q (by omega) h2 h3
  have hhi:∀ j q:Nat,k+1≤j→q<s.P→lookS s3.hs ((j:Int) * s.P+q)=none:=by
   intro j q h1 h2
   rw [q9 j q h2,if_neg (by omega)]
   exact hP.hi j q (by omega) h2
  by_cases hm:x.mark=true
  ·rw [if_pos hm]
   have hym3:=yretire_mod s3.y k
   refine ⟨a1,Or.inr ⟨rfl,⟨q2.ymod hym3 retF_pages rfl rfl rfl rfl q2.opb (yretire_len _ _) (q2.yok.retire _),q1,q3,?_,?_,?_,?_⟩,q4,q5,q6⟩⟩
   ·intro j q h1 h2 h3
    show lookS s3.hs ((j:Int) * s3.P+q)=_
    rw [q5]
    exact hlo j q h1 (by rw [← q4];exact h2) (by rw [← q5];exact h3)
   ·intro j q h1 h2
    show lookS s3.hs ((j:Int) * s3.P+q)=_
    rw [q5]
    exact hhi j q h1 (by rw [← q5];exact h2)
   ·intro j xj zj h1 h2 h3 h4
    have hjk:j≠k:=by
     intro e
     subst e
     rw [hx3] at h2
     injection h2 with h2
     rw [← h2,hm] at h4
     exact absurd h4 (by simp)
    have h3':(Yretire s3.y k).1[j]?=some zj:=h3
    rw [hym3 j,if_neg (Ne.symm hjk)] at h3'
    obtain ⟨w0,hw0,e⟩:=hjs j zj hjk h3'
    rw [e]
    exact hP.st1 j xj w0 (by omega) (by rw [← a1.blocks];exact h2) hw0 h4
   ·intro j zj h1 h3
    have hjk:j≠k:=by omega
    have h3':(Yretire s3.y k).1[j]?=some zj:=h3
    rw [hym3 j,if_neg (Ne.symm hjk)] at h3'
    obtain ⟨w0,hw0,e⟩:=hjs j zj hjk h3'
    rw [e]
    exact hP.st2 j w0 (by omega) hw0
  ·rw [if_neg hm]
   refine ⟨a1,Or.inr ⟨q0,⟨q2,q1,q3,?_,?_,?_,?_⟩,q4,q5,q6⟩⟩
   ·rw [q4,q5];exact hlo
   ·rw [q5];exact hhi
   ·intro j xj zj h1 h2 h3 h4
    by_cases hjk:j=k
    ·subst hjk
     rw [q7] at h3
     injection h3 with h3
     rw [← h3]
     exact q7'
    ·obtain ⟨w0,hw0,e⟩:=hjs j zj hjk h3
     rw [e]
     exact hP.st1 j xj w0 (by omega) (by rw [← a1.blocks];exact h2) hw0 h4
   ·intro j zj h1 h3
    have hjk:j≠k:=by omega
    obtain ⟨w0,hw0,e⟩:=hjs j zj hjk h3
    rw [e]
    exact hP.st2 j w0 (by omega) hw0
theorem lookAll_spec (n:Nat):∀ (k:Nat) (s:SM) (c:CM),Part s c k→k+n=s.B →
  Reads c (lookAll n k s c).2.1∧(((lookAll n k s c).2.2=4∧DarkBy c (lookAll n k s c).2.1)∨((lookAll n k s c).2.2=0∧Part (lookAll n k s c).1 (lookAll n k s c).2.1 s.B∧(lookAll n k s c).1.B=s.B∧(lookAll n k s c).1.P=s.P∧(lookAll n k s c).1.Z=s.Z)):=by
 induction n with
 |zero =>
  intro k s c h hk
  have:k=s.B:=by omega
  rw [this] at h
  exact ⟨Reads.refl c,Or.inr ⟨rfl,h,rfl,rfl,rfl⟩⟩
 |succ n ih =>
  intro k s c h hk
  rw [lookAll]
  obtain ⟨a1,a2⟩:=lookI_spec h (by omega)
  rcases a2 with ⟨q0,q1⟩ | ⟨q0,q1,q2,q3,q4⟩
  ·rw [if_pos (by omega)]
   exact ⟨a1,Or.inl ⟨q0,q1⟩⟩
  ·rw [if_neg (by omega)]
   obtain ⟨b1,b2⟩:=ih (k+1) _ _ q1 (by rw [q2];omega)
   refine ⟨a1.trans b1,?_⟩
   rw [q2,q3,q4] at b2
   rcases b2 with ⟨w0,w1⟩ | w
   ·exact Or.inl ⟨w0,w1.before a1⟩
   ·exact Or.inr w
theorem Ynew_at {B P j:Nat} {z:YB} (h:(Ynew B P)[j]?=some z):z=⟨1,0,List.replicate P (false,false)⟩:=by
 unfold Ynew at h
 rw [List.getElem?_replicate] at h
 split at h
 ·injection h with h;exact h.symm
 ·exact absurd h (by simp)
theorem fresh_part (hpl:planB c.blocks.length c.P c.Z=true) (hon:c.on=true) (hsh:∀ (k:Nat) (x:CB),c.blocks[k]?=some x→x.shape c.P c.Z):Part (SM.fresh c.blocks.length c.P c.Z) c 0:=by
 refine ⟨⟨rfl,rfl,rfl,hpl,?_,?_,⟨List.nodup_nil,by simp [SM.fresh]⟩,?_,?_,?_,?_,hsh⟩,hon,rfl,?_,?_,?_,?_⟩
 ·show (Ynew _ _).length=_
  unfold Ynew
  rw [List.length_replicate]
  rfl
 ·intro z hz
  obtain ⟨j,hj⟩:=List.mem_iff_getElem?.1 hz
  rw [Ynew_at hj]
  exact ⟨by show (List.replicate _ _).length=_;rw [List.length_replicate];rfl,Int.le_refl _⟩
 ·have:=plan_bd hpl
  show -1≤(-1:Int)∧(-1:Int)<(c.blocks.length:Int)
  omega
 ·intro n h hn;exact absurd hn (by simp [SM.fresh,lookS_nil])
 ·intro k z p hz hp
  rw [Ynew_at hz]
  show ((List.replicate _ (false,false)).getD p (false,false)).1=(lookS [] _).isSome
  rw [List.getD_eq_getElem?_getD,List.getElem?_replicate]
  split <;> rfl
 ·intro k p h _ _ hl;exact absurd hl (by simp [SM.fresh,lookS_nil])
 ·intro j q h;omega
 ·intro j q _ _;rfl
 ·intro j x z h;omega
 ·intro j z _ hz;rw [Ynew_at hz]
theorem newS_spec (hpl:planB c.blocks.length c.P c.Z=true) (hon:c.on=true) (hsh:∀ (k:Nat) (x:CB),c.blocks[k]?=some x→x.shape c.P c.Z) :
  Reads c (newS c).2.1∧(((newS c).2.2=4∧DarkBy c (newS c).2.1)∨((newS c).2.2=0∧Cont (newS c).1 (newS c).2.1∧Live (newS c).1 (newS c).2.1∧(newS c).1.op=-1∧(newS c).1.B=c.blocks.length∧(newS c).1.P=c.P∧(newS c).1.Z=c.Z ∧
   ∀ j q:Nat,j<c.blocks.length→q<c.P→lookS (newS c).1.hs ((j:Int) * c.P+q)=(c.vAt j q).map (·.2))):=by
 obtain ⟨a1,a2⟩:=lookAll_spec c.blocks.length 0 _ c (fresh_part hpl hon hsh) (by show 0+c.blocks.length=c.blocks.length;omega)
 have e:newS c=lookAll c.blocks.length 0 (SM.fresh c.blocks.length c.P c.Z) c:=rfl
 rw [e]
 generalize lookAll c.blocks.length 0 (SM.fresh c.blocks.length c.P c.Z) c=r at a1 a2 ⊢
 refine ⟨a1,?_⟩
 rcases a2 with h | ⟨q0,q1,q2,q3,q4⟩
 ·exact Or.inl h
 ·have q2':r.1.B=c.blocks.length:=q2
  have q3':r.1.P=c.P:=q3
  refine Or.inr ⟨q0,q1.cont,⟨q1.on,?_,?_⟩,q1.op,q2,q3,q4,?_⟩
  ·intro k x z _ _ h3
   have:=q1.op
   omega
  ·intro k x z h1 h2 _ h4
   refine q1.st1 k x z ?_ h1 h2 h4
   show k<c.blocks.length
   rw [← a1.blocks]
   exact (List.getElem?_eq_some_iff.1 h1).1
  ·intro j q hj hq
   have:=q1.lo j q hj (by rw [q2'];exact hj) (by rw [q3'];exact hq)
   rw [q3',a1.vAt] at this
   exact this
def ahead (c:CM):Nat:=(c.ms.filter fun m=>decide (c.ops<m.at_)).length
theorem ahead_le (c:CM):ahead c≤c.ms.length:=List.length_filter_le _ _
theorem filter_lt {α:Type} (p q:α→Bool) (l:List α) (h:∀ a,p a=true→q a=true) {m:α} (hm:m∈l) (h1:q m=true) (h2:p m=false):(l.filter p).length<(l.filter q).length:=by
 induction l with
 |nil=>exact absurd hm (by simp)
 |cons a t ih =>
  have hle:∀ t:List α,(t.filter p).length≤(t.filter q).length:=by
   intro t
   induction t with
   |nil=>exact Nat.le_refl _
   |cons b t ih =>
    rw [List.filter_cons,List.filter_cons]
    cases hp:p b with
    |true=>rw [h b hp];simpa using ih
    |false =>
     cases q b
     ·simpa using ih
     ·simp;omega
  rw [List.filter_cons,List.filter_cons]
  rcases List.mem_cons.1 hm with e | e
  ·subst e
   rw [h1,h2]
   have:=hle t
   simp
   omega
  ·have:=ih e
   cases hp:p a with
   |true=>rw [h a hp];simpa using this
   |false =>
    cases q a
    ·simpa using this
    ·simp;omega
theorem ahead_lt {c c':CM} (hms:c'.ms=c.ms) (ho:c.ops≤c'.ops) {m:Mi} (hm:m∈c.ms) (h1:c.ops<m.at_) (h2:m.at_≤c'.ops):ahead c'<ahead c:=by
 unfold ahead
 rw [hms]
 refine filter_lt _ _ _ ?_ hm ?_ ?_
 ·intro a ha
  simp only [decide_eq_true_eq] at ha ⊢
  omega
 ·simpa using h1
 ·simp;omega
theorem lostN_spec (n:Nat):∀ c:CM,planB c.blocks.length c.P c.Z=true→(∀ (k:Nat) (x:CB),c.blocks[k]?=some x→x.shape c.P c.Z)→ahead c<n →
  Reads c (lostN n c).2∧∃ s,(lostN n c).1=some s∧Cont s (lostN n c).2∧Live s (lostN n c).2∧s.op=-1∧s.B=c.blocks.length∧s.P=c.P∧s.Z=c.Z ∧
   ∀ j q:Nat,j<c.blocks.length→q<c.P→lookS s.hs ((j:Int) * c.P+q)=(c.vAt j q).map (·.2):=by
 induction n with
 |zero=>intro c _ _ h;omega
 |succ n ih =>
  intro c hpl hsh hn
  obtain ⟨a1,a2⟩:=newS_spec (c:={ c with on:=true }) hpl rfl hsh
  have r0:Reads c { c with on:=true }:=⟨rfl,rfl,rfl,rfl,rfl,Int.le_refl _⟩
  rw [lostN]
  rcases a2 with ⟨q0,q1⟩ | ⟨q0,q1,q2,q3,q4,q5,q6,q7⟩
  ·rw [if_neg (by omega),if_pos q0]
   have r1:=r0.trans a1
   obtain ⟨w1,m,w2,w3,w4,w5⟩:=q1
   have:=ahead_lt (c:=c) (c':=(newS { c with on:=true }).2.1) r1.ms r1.ops w2 w4 w5
   obtain ⟨b1,s,b2,b3,b4,b5,b6,b7,b8,b9⟩:=ih (newS { c with on:=true }).2.1 (by rw [r1.blocks,r1.P,r1.Z];exact hpl) (by rw [r1.blocks,r1.P,r1.Z];exact hsh) (by omega)
   refine ⟨r1.trans b1,s,b2,b3,b4,b5,by rw [b6,r1.blocks],by rw [b7,r1.P],by rw [b8,r1.Z],?_⟩
   intro j q hj hq
   have:=b9 j q (by rw [r1.blocks];exact hj) (by rw [r1.P];exact hq)
   rw [r1.P,r1.vAt] at this
   exact this
  ·rw [if_pos q0]
   exact ⟨r0.trans a1,_,rfl,q1,q2,q3,q4,q5,q6,q7⟩
end Go.Proofs.YtoelopghilbfeaaGreat
namespace Go.Proofs.YtoelopghilbfeaaGreat
open Go.RowKit
set_option linter.unusedSimpArgs false
set_option linter.unusedVariables false
def awC:CM:=CM.new 16 4 128 [] []
def awS:SM:=SM.fresh 16 4 128
def awH:Hd:=⟨1,7,1,0⟩
def awD:List UInt8:=fillL 3 128
def awR:SM × CM × Int × Int:=putA awS awC awH awD
set_option maxRecDepth 20000 in
theorem awR_code:awR.2.2=(0,0):=by kernel_rfl
set_option maxRecDepth 20000 in
theorem awR_geo:(awR.1.B,awR.1.P,awR.1.Z,awR.2.1.blocks.length,awR.2.1.P,awR.2.1.Z,awR.2.1.ops)=(16,4,128,16,4,128,1):=by kernel_rfl
def awG:CM × List UInt8 × Hd × Int:=getS awR.1 awR.2.1 0
set_option maxRecDepth 20000 in
theorem awG_code:awG.2.2=(awH,0):=by kernel_rfl
set_option maxRecDepth 20000 in
theorem awG_data:awG.2.1=awD:=by kernel_rfl
set_option maxRecDepth 20000 in
theorem awG_ops:awG.1.ops=2:=by kernel_rfl
set_option maxRecDepth 20000 in
theorem awG_63:getS awR.1 awG.1 63=(awG.1,[],Hd.zero,8):=by
 have h:askedS awR.1 63=(0,0,8):=by kernel_rfl
 unfold getS
 rw [h,if_pos (by decide)]
set_option maxRecDepth 20000 in
theorem awG_room:roomS awR.1 awG.1=63:=by kernel_rfl
theorem awN:newS awC=(awS,awC,0):=newS_blank (c:=CM.new 16 4 128 [] []) fun k=>⟨new_next 16 4 128 [] [] k,new_mark0 16 4 128 [] k⟩
theorem awD_len:awD.length=128:=by unfold awD fillL;simp
theorem aw_facts:∃ (s1:SM) (c1 c2:CM),putA awS awC awH awD=(s1,c1,0,0)∧c1.ops=1∧s1.B<20∧c1.blocks.length=s1.B∧getS s1 c1 0=(c2,awD,awH,0)∧c2.ops=2∧getS s1 c2 63=(c2,[],Hd.zero,8)∧roomS s1 c2=63:=by
 have h1:=awR_code
 have h2:=awR_geo
 have h3:=awG_code
 have h4:=awG_data
 have h5:=awG_ops
 have h6:=awG_63
 have h7:=awG_room
 have e1:putA awS awC awH awD=awR:=by delta awR;exact Eq.refl _
 have e2:getS awR.1 awR.2.1 0=awG:=by delta awG;exact Eq.refl _
 generalize awR=R at *
 generalize awG=G at *
 generalize awD=D at *
 rw [e1]
 obtain ⟨R1,R2,R3⟩:=R
 obtain ⟨G1,G2,G3⟩:=G
 dsimp only at *
 subst h1 h3 h4
 simp only [Prod.mk.injEq] at h2
 obtain ⟨g1,g2,g3,g4,g5,g6,g7⟩:=h2
 exact ⟨R1,R2,G1,rfl,g7,by omega,by omega,e2,h5,h6,h7⟩
end Go.Proofs.YtoelopghilbfeaaGreat
namespace Go.Proofs.YtoelopghilbfeaaGreat
open Go.RowKit
set_option linter.unusedSimpArgs false
set_option linter.unusedVariables false
theorem chip_same (a:Addr) (w:World):(binOp .eql 23 (.pointer (some a)) (.pointer (some a))).run Tryz.prog w=.ok (.bool true) w:=by
 obtain ⟨j,hj⟩:=Option.isSome_iff_exists.1 (show (Tryz.prog.info? 84).isSome=true by kernel_rfl)
 exact run_eql_ptr_same w a (te:=84) (by kernel_rfl) hj
theorem ints_nil (Fr:HL):IsInts (.slice none 0 0) [] Fr:=fun w _=>⟨rfl,none,0,rfl,Nat.le_refl _,by simp [maxLen],fun h=>absurd h (by simp)⟩
theorem ms_nil (Fr:HL):FrMs Fr (.slice none 0 0) []:=fun w _=>⟨rfl,none,0,rfl,Nat.le_refl _,by simp [maxLen],fun h=>absurd h (by simp)⟩
theorem nnew_plain (w:World) (Fr:HL) (hH:Holds w Fr):Calls Tryz.prog 12 #[.agg #[.int .i64 16,.int .i64 4,.int .i64 128],.slice none 0 0,.slice none 0 0] w (RetNew (fun v H=>IsChip v awC H) w Fr) :=
 nnew_good 16 4 128 (.slice none 0 0) (.slice none 0 0) [] [] w Fr hH (ints_nil Fr) (ms_nil Fr) (fun wx F hx=>(may_none wx).mono fun e w' ⟨h1,h2⟩=>⟨h1,h2 ▸ hx,h2 ▸ Grew.refl wx⟩) (by omega) (by omega) (by omega) (by omega) (by omega) (by omega) (by simp) (by simp) (by simp)
theorem awS_yok:Yok awS.P awS.y:=by
 intro x hx
 have:x=⟨1,0,List.replicate 4 (false,false)⟩:=List.eq_of_mem_replicate hx
 rw [this]
 exact ⟨rfl,Int.le_refl _⟩
set_option maxRecDepth 20000 in
theorem aw_plan:planB (awC.blocks.length:Int) awC.P awC.Z=true:=by kernel_rfl
set_option maxRecDepth 100000 in
set_option maxHeartbeats 4000000 in
theorem awake16_any (w:World) (Fr:HL) (hH:Holds w Fr):Calls Tryz.prog 20 #[] w (RetFr (.bool true) w Fr):=by
 have k1:=err_eq
 have k2:=nil_eq
 have k3:=err_ne
 have k4:=nil_ne
 have HGE:=Lib.hid (l16geo_any w Fr hH)
 obtain ⟨s1,c1,c2,hf1,hf2,hf3,hf4,hf5,hf6,hf7,hf8⟩:=aw_facts
 have hDl:=awD_len
 have HFL:=Lib.hid (fun (w:World) (F:HL) (h:Holds w F)=>show Calls Tryz.prog 16 #[.int .i64 3,.int .i64 128] w (RetNew (fun v H=>IsBytes v awD H) w F) from fill_any 3 128 w F h (by decide))
 generalize awD=D at *
 have F1:=Lib.hid hf1
 have F2:=Lib.hid hf2
 have F3:=Lib.hid hf3
 have F4:=Lib.hid hf4
 have F5:=Lib.hid hf5
 have F6:=Lib.hid hf6
 have F7:=Lib.hid hf7
 have F8:=Lib.hid hf8
 have HDL:=Lib.hid hDl
 clear hH hf1 hf2 hf3 hf4 hf5 hf6 hf7 hf8 hDl
 go_enter Tryz.func20,Tryz.ntmps20
 go_wp2_with fail
 refine HGE.out.mono ?_
 rintro e w1 ⟨rfl,hH1,hg1⟩
 have HN:=Lib.hid (nnew_plain w1 Fr hH1)
 clear hH1 HGE
 go_wp2_with fail
 refine HN.out.mono ?_
 rintro e w2 ⟨dv,H0,rfl,⟨cb,g,cap,mv,rfl,hc0⟩,hH2,hg2⟩
 have hG2:=hg1.trans hg2
 have HC0:=Lib.hid hc0
 have HNW:=Lib.hid (new_any hc0 hH2 aw_plan rfl (by show (0:Int)≤999999998000;omega))
 rw [awN] at HNW
 clear hc0 hH2 hg1 hg2 HN
 go_wp2_with fail
 refine HNW.out.mono ?_
 rintro e w3 (⟨h0,sb,Hs,Hc,rfl,hs,hch,hH3,hg3⟩ | ⟨h0,_⟩)
 rotate_left
 ·exact absurd rfl h0
 dsimp only at hs hch
 have hG3:=hG2.trans hg3
 have HS:=Lib.hid hs
 have HCH:=Lib.hid hch
 have HNN:=Lib.hid (new_nil w3 _ hH3)
 clear h0 hs hch hH3 hg3 hG2 HNW HC0
 go_wp2_with fail
 refine HNN.out.mono ?_
 rintro e w4 ⟨ve4,He4,rfl,he4,hH4,hg4⟩
 have hG4:=hG3.trans hg4
 obtain ⟨b4,s4,rfl,_⟩:=isErrP8 he4 (show (1:Int)≠0 by decide)
 have HE4:=Lib.hid he4
 clear he4 hg4 hG3 HNN
 go_upto_region 7 with fail
 have hH5:=hH4.alloc (.cells #[.int .i64 1,.int .u64 7,.int .i64 1,.int .i64 0] 37)
 have hG5:=hG4.alloc (.cells #[.int .i64 1,.int .u64 7,.int .i64 1,.int .i64 0] 37)
 generalize w4.alloc (.cells #[.int .i64 1,.int .u64 7,.int .i64 1,.int .i64 0] 37)=w5 at *
 generalize w4.heap.size=gh at *
 have HSW:=Lib.hid (fun (wx:World) (F:HL) (hX:Holds wx ((gh,.cells #[.int .i64 1,.int .u64 7,.int .i64 1,.int .i64 0] 37)::F))=>show wx.cell? ⟨gh,0,none⟩=some (.int .i64 1)∧wx.cell? ⟨gh,1,none⟩=some (.int .u64 7)∧wx.cell? ⟨gh,2,none⟩=some (.int .i64 1)∧wx.cell? ⟨gh,3,none⟩=some (.int .i64 0) from ⟨hX.hcell 0,hX.hcell 1,hX.hcell 2,hX.hcell 3⟩)
 clear hH4 hG4
 refine Z_begin (fun wx=>wx.cell? ⟨gh,0,none⟩=some (.int .i64 1)∧wx.cell? ⟨gh,1,none⟩=some (.int .u64 7)∧wx.cell? ⟨gh,2,none⟩=some (.int .i64 1)∧wx.cell? ⟨gh,3,none⟩=some (.int .i64 0)) 9 (by kernel_rfl) (fun w1 hd=>HSW.out _ _ (hH5.dr hd)) (fun w1 hd hs=>?_)
 have hHc:=hH5.dr hd;have hGc:=hG5.trans (Grew.dr hd);clear hd hH5 hG5
 refine Zt 0 38 ?_ rfl hs ?_ ?_
 rotate_left
 ·rintro wx ⟨s0,s1,s2,s3⟩;go_simp;try with_reducible rfl
 simp only [pt,sA,sS,sZ]
 refine Zt 1 39 ?_ rfl hs ?_ ?_
 rotate_left
 ·rintro wx ⟨s0,s1,s2,s3⟩;go_simp;try with_reducible rfl
 simp only [pt,sA,sS,sZ]
 refine Z_mid 2 rfl (by kernel_rfl) (fun K hK=>?_)
 have ⟨s0,s1,s2,s3⟩:=hs
 go_simp;refine (HFL.out w1 _ hHc).mono ?_;rintro e w6 ⟨v6,H6,rfl,hb6,hH6,hg6⟩;have hG6:=hGc.trans hg6;have HB6:=Lib.hid hb6;obtain ⟨A6,q6,rfl⟩:=hb6.val;rw [HDL.out] at HB6 ⊢;have hH7:Holds w6 ((gh,.cells #[.int .i64 1,.int .u64 7,.int .i64 1,.int .i64 0] 37)::(Hs++(Hc++(H6++(He4++Fr))))):=hH6.p;clear hb6 hHc hGc hg6 hH6
 clear s0 s1 s2 s3
 refine hK _ _ (HSW.out _ _ hH7) (fun hs2=>?_);clear hK K hs;have hs:=hs2;clear hs2
 refine Z_mid 3 rfl (by kernel_rfl) (fun K hK=>?_)
 have ⟨s0,s1,s2,s3⟩:=hs
 have HPU:=Lib.hid (put_any awH D (.slice A6 128 q6) HS.out HCH.out (Fr:=(gh,.cells #[.int .i64 1,.int .u64 7,.int .i64 1,.int .i64 0] 37)::(H6++(He4++Fr))) (hH7.p) awS_yok (by show 16<20;decide) (by show (0:Int)≤999999990000;omega) rfl rfl (fun wx hx=>HB6.out.at_ (Fr:=Hs++(Hc++((gh,.cells #[.int .i64 1,.int .u64 7,.int .i64 1,.int .i64 0] 37)::(He4++Fr)))) (hx.p)) ⟨by decide,by decide⟩);rw [F1.out] at HPU;go_simp;refine HPU.out.mono ?_;rintro e w8 ⟨ve8,He8,Hs8,Hc8,rfl,he8,hs8,hch8,hH8,hg8⟩;dsimp only at he8 hs8 hch8;obtain ⟨rfl,rfl⟩:=isErr0 he8;have HS8:=Lib.hid hs8;have HC8:=Lib.hid hch8;have hG8:=hG6.trans hg8;have hH9:Holds w8 ((gh,.cells #[.int .i64 1,.int .u64 7,.int .i64 1,.int .i64 0] 37)::(Hs8++(Hc8++(H6++(He4++Fr))))):=hH8.p;clear he8 hs8 hch8 hH8 hg8 hG6 hH7 HPU
 clear s0 s1 s2 s3
 refine hK _ _ (HSW.out _ _ hH9) (fun hs2=>?_);clear hK K hs;have hs:=hs2;clear hs2
 refine Zt 4 37 ?_ rfl hs ?_ ?_
 rotate_left
 ·rintro wx ⟨s0,s1,s2,s3⟩;go_simp;try with_reducible rfl
 simp only [pt,sA,sS,sZ]
 refine Zt 5 42 ?_ rfl hs ?_ ?_
 rotate_left
 ·rintro wx ⟨s0,s1,s2,s3⟩;go_simp;try with_reducible rfl
 simp only [pt,sA,sS,sZ]
 refine Zt 6 43 ?_ rfl hs ?_ ?_
 rotate_left
 ·rintro wx ⟨s0,s1,s2,s3⟩;go_simp;try with_reducible rfl
 simp only [pt,sA,sS,sZ]
 refine Zt 7 7 ?_ rfl hs ?_ ?_
 rotate_left
 ·rintro wx ⟨s0,s1,s2,s3⟩;go_simp;try with_reducible rfl
 simp only [pt,sA,sS,sZ]
 refine Zt 8 8 ?_ rfl hs ?_ ?_
 rotate_left
 ·rintro wx ⟨s0,s1,s2,s3⟩;go_simp;try with_reducible rfl
 simp only [pt,sA,sS,sZ]
 refine Z_done (by kernel_rfl) ?_ _
 have hge:=get_any (n:=0) HS8.out HC8.out (Fr:=(gh,.cells #[.int .i64 1,.int .u64 7,.int .i64 1,.int .i64 0] 37)::(H6++(He4++Fr))) (hH9.p) (by rw [F2.out];decide)
 rw [F5.out] at hge
 have HGT:=Lib.hid hge
 clear hge hs hH9
 go_wp2_with fail
 refine HGT.out.mono ?_
 rintro e w9 ⟨v9,Hv9,ve9,He9,Hc9,rfl,hb9,he9,hch9,hH9,hg9⟩
 dsimp only at hb9 he9 hch9
 obtain ⟨rfl,rfl⟩:=isErr0 he9
 have HC9:=Lib.hid hch9
 have HB9:=Lib.hid hb9
 obtain ⟨A9,q9,rfl⟩:=hb9.val
 rw [HDL.out] at HB9 ⊢
 have hG9:=hG8.trans hg9
 rw [show awH.agg=.agg #[.int .i64 1,.int .u64 7,.int .i64 1,.int .i64 0] from rfl]
 clear he9 hb9 hch9 hg9 hG8 HGT HC8
 go_upto_region 9 with fail
 have hHa:=hH9.alloc (.cells #[.int .i64 1,.int .u64 7,.int .i64 1,.int .i64 0] 37)
 have hGa:=hG9.alloc (.cells #[.int .i64 1,.int .u64 7,.int .i64 1,.int .i64 0] 37)
 generalize w9.alloc (.cells #[.int .i64 1,.int .u64 7,.int .i64 1,.int .i64 0] 37)=wa at *
 generalize w9.heap.size=gi at *
 have hge:=get_any (n:=63) HS8.out HC9.out (w:=wa) (Fr:=(gi,.cells #[.int .i64 1,.int .u64 7,.int .i64 1,.int .i64 0] 37)::(Hv9++((gh,.cells #[.int .i64 1,.int .u64 7,.int .i64 1,.int .i64 0] 37)::(H6++(He4++Fr))))) (hHa.p) (by rw [F6.out];decide)
 rw [F7.out] at hge
 have HGT:=Lib.hid hge
 clear hge hH9 hG9 hHa
 go_wp2_with fail
 refine HGT.out.mono ?_
 rintro e wb ⟨vb,Hvb,veb,Heb,Hcb,rfl,hbb,heb,hchb,hHb,hgb⟩
 dsimp only at hbb heb hchb
 have HCb:=Lib.hid hchb
 obtain ⟨Ab,qb,rfl⟩:=hbb.val
 obtain ⟨bb,sb2,rfl,_⟩:=isErrP8 heb (show (8:Int)≠0 by decide)
 have HEb:=Lib.hid heb
 have hGb:=hGa.trans hgb
 rw [show Hd.zero.agg=.agg #[.int .i64 0,.int .u64 0,.int .i64 0,.int .i64 0] from rfl]
 clear heb hbb hchb hgb hGa HGT HC9
 go_upto_region 10 with fail
 have hHd:=hHb.alloc (.cells #[.int .i64 0,.int .u64 0,.int .i64 0,.int .i64 0] 37)
 have hGd:=hGb.alloc (.cells #[.int .i64 0,.int .u64 0,.int .i64 0,.int .i64 0] 37)
 generalize wb.alloc (.cells #[.int .i64 0,.int .u64 0,.int .i64 0,.int .i64 0] 37)=wd at *
 generalize wb.heap.size=gk at *
 clear hHb hGb
 have hHe:Holds wd (He4++((gh,.cells #[.int .i64 1,.int .u64 7,.int .i64 1,.int .i64 0] 37)::((gi,.cells #[.int .i64 1,.int .u64 7,.int .i64 1,.int .i64 0] 37)::(Hv9++(Heb++(Hs8++(Hcb++Fr))))))):=hHd.p
 clear hHd
 go_wp2_with fail
 refine (num_any _ 1 He4 _ wd HE4.out hHe (by omega)).mono ?_
 rintro e wx ⟨rfl,rfl⟩
 have HFF:=Lib.hid (HFL.out wd _ hHe)
 clear hHe
 go_wp2_with fail
 refine HFF.out.mono ?_
 rintro e we ⟨vf,Hf,rfl,hbf,hHf,hgf⟩
 have hGf:=hGd.trans hgf
 have HSM:=Lib.hid (same_any (.slice A9 128 q9) vf D D we (HB9.out.at_ (Fr:=Hf++(He4++((gh,.cells #[.int .i64 1,.int .u64 7,.int .i64 1,.int .i64 0] 37)::((gi,.cells #[.int .i64 1,.int .u64 7,.int .i64 1,.int .i64 0] 37)::(Heb++(Hs8++(Hcb++Fr))))))) (hHf.p)) (hbf.at_ hHf))
 rw [decide_eq_true (rfl:D=D)] at HSM
 obtain ⟨Af,qf,rfl⟩:=hbf.val
 rw [HDL.out] at HSM ⊢
 have hHg:Holds we ((gh,.cells #[.int .i64 1,.int .u64 7,.int .i64 1,.int .i64 0] 37)::((gi,.cells #[.int .i64 1,.int .u64 7,.int .i64 1,.int .i64 0] 37)::(Heb++(Hs8++(Hcb++(Hf++(He4++(Hv9++Fr)))))))):=hHf.p
 clear hbf hHf hgf hGd HFF
 go_wp2_with fail
 refine HSM.out.mono ?_
 rintro e wg ⟨rfl,q,rfl⟩
 have hHh:=hHg.drewN q
 have hGh:=hGf.trans (Grew.dr ⟨q,rfl⟩)
 clear hHg hGf HSM
 generalize we.drewN q=wg at *
 have a0:=hHh.hcell 0
 have a1:=hHh.hcell 1
 have a2:=hHh.hcell 2
 have a3:=hHh.hcell 3
 have b0:=hHh.tail.hcell 0
 have b1:=hHh.tail.hcell 1
 have b2:=hHh.tail.hcell 2
 have b3:=hHh.tail.hcell 3
 simp only [List.getElem?_toArray,List.getElem?_cons_zero,List.getElem?_cons_succ] at a0 a1 a2 a3 b0 b1 b2 b3
 have hHi:Holds wg (Heb++(Hs8++(Hcb++(Hf++(He4++(Hv9++((gh,.cells #[.int .i64 1,.int .u64 7,.int .i64 1,.int .i64 0] 37)::((gi,.cells #[.int .i64 1,.int .u64 7,.int .i64 1,.int .i64 0] 37)::Fr)))))))):=hHh.p
 clear hHh
 go_wp2_with fail
 refine (num_any _ 8 Heb _ wg HEb.out hHi (by omega)).mono ?_
 rintro e wx ⟨rfl,rfl⟩
 have hrm:=room_any HS8.out HCb.out (w:=wg) (Fr:=Hf++(He4++(Hv9++((gh,.cells #[.int .i64 1,.int .u64 7,.int .i64 1,.int .i64 0] 37)::((gi,.cells #[.int .i64 1,.int .u64 7,.int .i64 1,.int .i64 0] 37)::(Heb++Fr)))))) (hHi.p) F3.out
 rw [F8.out] at hrm
 have HRM:=Lib.hid hrm
 clear hrm hHi a0 a1 a2 a3 b0 b1 b2 b3
 go_wp2_with fail
 refine HRM.out.mono ?_
 rintro e wh ⟨rfl,hHj,hgj⟩
 have hGj:=hGh.trans hgj
 have HCP:=Lib.hid (stchip_any HS8.out (w:=wh) hHj)
 clear HRM hgj hGh
 go_wp2_with fail
 refine HCP.out.mono ?_
 rintro e wi ⟨rfl,rfl⟩
 have hHk:Holds wh Fr:=hHj.right.right.right.right.right.tail.tail.right
 have k5:=chip_same
 clear hHj HCP
 go_wp2_with fail
 go_ret
 exact ⟨rfl,hHk,hGj⟩
end Go.Proofs.YtoelopghilbfeaaGreat
namespace Go.Proofs.YtoelopghilbfeaaGreat
open Go.RowKit
set_option linter.unusedSimpArgs false
set_option linter.unusedVariables false
variable {s s':SM} {c c':CM}
theorem place_key (hC:Cont s c) {k p:Nat} (hk:k<s.B) (hp:p<s.P):placeI s.B s.P ((k:Int) * s.P+p)=((k:Int),(p:Int)):=by
 have hpl:=plan_bd hC.pl
 have h0:=key_bd hC hk hp
 have h1:(k:Int) * s.P+p≤(s.B:Int) * s.P - 1:=by
  have e:((k:Int)+1) * s.P≤(s.B:Int) * s.P:=Int.mul_le_mul_of_nonneg_right (by omega) (by omega)
  have e2:((k:Int)+1) * s.P=(k:Int) * s.P+s.P:=by rw [Int.add_mul,Int.one_mul]
  omega
 unfold placeI
 rw [if_pos ⟨h0.1,h1⟩]
 have e1:((k:Int) * s.P+p) / s.P=k:=by
  rw [Int.add_comm,Int.add_mul_ediv_right _ _ (by omega),Int.ediv_eq_zero_of_lt (by omega) (by omega),Int.zero_add]
 have e2:((k:Int) * s.P+p) % s.P=p:=by
  rw [Int.add_comm,Int.add_mul_emod_self_right,Int.emod_eq_of_lt (by omega) (by omega)]
 rw [e1,e2]
theorem asked_key (hC:Cont s c) {k p:Nat} {h:Hd} (hk:k<s.B) (hp:p<s.P) (hl:lookS s.hs ((k:Int) * s.P+p)=some h):askedS s ((k:Int) * s.P+p)=((k:Int),(p:Int),0):=by
 unfold askedS
 rw [place_key hC hk hp,if_neg (by dsimp only;omega),hl,if_neg (by simp)]
theorem get_spec (hC:Cont s c) {k p:Nat} {h:Hd} {d:List UInt8} (hk:k<s.B) (hp:p<s.P) (hl:lookS s.hs ((k:Int) * s.P+p)=some h) (hv:c.vAt k p=some (d,h)) :
  Reads c (getS s c ((k:Int) * s.P+p)).1∧(((getS s c ((k:Int) * s.P+p)).2=(d,h,0)∧c.on=true∧(getS s c ((k:Int) * s.P+p)).1.on=true)∨((getS s c ((k:Int) * s.P+p)).2=([],Hd.zero,4)∧(getS s c ((k:Int) * s.P+p)).1.on=false∧(c.on=true→DarkBy c (getS s c ((k:Int) * s.P+p)).1))):=by
 obtain ⟨x,hx⟩:=hC.bget hk
 have e:getS s c ((k:Int) * s.P+p)=if (c.read k p).2.2≠0 then ((c.read k p).1,[],Hd.zero,(c.read k p).2.2) else match readF (c.read k p).2.1 with
  |some q=>((c.read k p).1,q.1,q.2,0)
  |none=>((c.read k p).1,[],Hd.zero,0):=by
  unfold getS
  rw [asked_key hC hk hp hl,if_neg (by simp)]
  rfl
 rw [e]
 cases hon:c.on with
 |true =>
  obtain ⟨r1,r2⟩:=read_spec hC hon hx hp
  rcases r2 with ⟨q0,q1,q2⟩ | ⟨q0,q1⟩
  ·rw [if_neg (by omega),q2,← vAt_of hx,hv]
   exact ⟨r1,Or.inl ⟨rfl,rfl,q1⟩⟩
  ·rw [if_pos (by omega),q0]
   exact ⟨r1,Or.inr ⟨rfl,q1.1,fun _=>q1⟩⟩
 |false =>
  have hb:∀ g,c.beg g=(c,Mi.zero,4):=by intro g;unfold CM.beg;rw [hon];rfl
  have hr:c.read k p=(c,[],4):=by unfold CM.read;rw [hb];rfl
  rw [hr]
  exact ⟨Reads.refl c,Or.inr ⟨rfl,hon,fun h=>absurd h (by simp)⟩⟩
theorem Reads.live (g:Reads c c') (h:Live s c) (hon:c'.on=true):Live s c':=⟨hon,fun k x z h1=>h.opn k x z (by rw [← g.blocks];exact h1),fun k x z h1=>h.oth k x z (by rw [← g.blocks];exact h1)⟩
theorem Reads.next (g:Reads c c') (k:Int):c'.nextOf k=c.nextOf k:=by unfold CM.nextOf CM.blk;rw [g.blocks]
theorem Reads.wear (g:Reads c c') (k:Int):c'.wearOf k=c.wearOf k:=by unfold CM.wearOf CM.blk;rw [g.blocks]
theorem Reads.mark (g:Reads c c') (k:Int):c'.markOf k=c.markOf k:=by unfold CM.markOf CM.blk;rw [g.blocks]
theorem drop_spec (hC:Cont s c) {k p:Nat} {h:Hd} (hk:k<s.B) (hp:p<s.P) (hl:lookS s.hs ((k:Int) * s.P+p)=some h) :
  (dropS s ((k:Int) * s.P+p)).2=0∧Cont (dropS s ((k:Int) * s.P+p)).1 c∧(Live s c→Live (dropS s ((k:Int) * s.P+p)).1 c)∧(dropS s ((k:Int) * s.P+p)).1.B=s.B∧(dropS s ((k:Int) * s.P+p)).1.P=s.P∧(dropS s ((k:Int) * s.P+p)).1.Z=s.Z ∧
   (dropS s ((k:Int) * s.P+p)).1.op=s.op∧∀ n,lookS (dropS s ((k:Int) * s.P+p)).1.hs n=if n=(k:Int) * s.P+p then none else lookS s.hs n:=by
 obtain ⟨z,hz,hzl,hz0⟩:=hC.yget hk
 have hky:=(List.getElem?_eq_some_iff.1 hz).1
 have hb:=hC.bit k z p hz hp
 rw [hl,Option.isSome_some] at hb
 have hpl:p<z.pages.length:=by omega
 have hD:Ydrop s.y k p=(s.y.set k { z with pages:=z.pages.set p (false,false) },0):=by
  unfold Ydrop Ypg
  rw [Yat_nat,hz]
  dsimp only
  rw [if_pos ⟨by omega,by omega⟩]
  dsimp only
  rw [Int.toNat_natCast,if_pos hb]
  unfold Ypset Yset
  rw [Int.toNat_natCast,Int.toNat_natCast]
 have e:dropS s ((k:Int) * s.P+p)=({ delH s ((k:Int) * s.P+p) with y:=s.y.set k { z with pages:=z.pages.set p (false,false) } },0):=by
  unfold dropS
  rw [asked_key hC hk hp hl,if_neg (by simp),hD]
 rw [e]
 have hlk:∀ n,lookS (delS s.hs ((k:Int) * s.P+p)) n=if n=(k:Int) * s.P+p then none else lookS s.hs n:=fun n=>lookS_del _ n hC.wf.nodup
 refine ⟨rfl,⟨hC.B,hC.P,hC.Z,hC.pl,?_,?_,hC.wf.del _,hC.opb,?_,?_,?_,hC.shape⟩,?_,rfl,rfl,rfl,rfl,hlk⟩
 ·show (s.y.set k _).length=_;rw [List.length_set];exact hC.yl
 ·intro w hw
  rcases List.mem_or_eq_of_mem_set hw with h1 | h1
  ·exact hC.yok w h1
  ·rw [h1]
   exact ⟨by show (z.pages.set p _).length=s.P;rw [List.length_set];exact hzl,hz0⟩
 ·intro n g hg
  have hg':lookS (delS s.hs ((k:Int) * s.P+p)) n=some g:=hg
  rw [hlk] at hg'
  split at hg'
  ·exact absurd hg' (by simp)
  ·exact hC.keys n g hg'
 ·intro j w q hw hq
  show _=(lookS (delS s.hs ((k:Int) * s.P+p)) ((j:Int) * s.P+q)).isSome
  have hw':(s.y.set k { z with pages:=z.pages.set p (false,false) })[j]?=some w:=hw
  have hq':q<s.P:=hq
  rw [hlk]
  rw [set_at _ _ _ _ hky] at hw'
  by_cases e:k=j
  ·subst e
   rw [if_pos rfl] at hw'
   injection hw' with hw'
   subst hw'
   show ((z.pages.set p (false,false)).getD q (false,false)).1=_
   rw [List.getD_eq_getElem?_getD,set_at _ _ _ _ hpl]
   by_cases e2:p=q
   ·subst e2
    rw [if_pos rfl,if_pos rfl]
    rfl
   ·rw [if_neg e2,if_neg (fun e3=>e2 (key_inj hq' hp e3).2.symm),← List.getD_eq_getElem?_getD]
    exact hC.bit k z q hz hq'
  ·rw [if_neg e] at hw'
   rw [if_neg (fun e3=>e (key_inj hq' hp e3).1.symm)]
   exact hC.bit j w q hw' hq'
 ·intro j q g hj hq hg
  have hg':lookS (delS s.hs ((k:Int) * s.P+p)) ((j:Int) * s.P+q)=some g:=hg
  rw [hlk] at hg'
  split at hg'
  ·exact absurd hg' (by simp)
  ·exact hC.page j q g hj hq hg'
 ·intro hL
  have hst:∀ (j:Nat) (w:YB),(s.y.set k { z with pages:=z.pages.set p (false,false) })[j]?=some w→∃ w0,s.y[j]?=some w0∧w.state=w0.state∧w.taken=w0.taken:=by
   intro j w hw
   rw [set_at _ _ _ _ hky] at hw
   by_cases e:k=j
   ·subst e
    rw [if_pos rfl] at hw
    injection hw with hw
    exact ⟨z,hz,by rw [← hw],by rw [← hw]⟩
   ·rw [if_neg e] at hw
    exact ⟨w,hw,rfl,rfl⟩
  refine ⟨hL.on,?_,?_⟩
  ·intro j x w h1 h2 h3
   obtain ⟨w0,a1,a2,a3⟩:=hst j w h2
   rw [a2,a3]
   exact hL.opn j x w0 h1 a1 h3
  ·intro j x w h1 h2 h3 h4
   obtain ⟨w0,a1,a2,a3⟩:=hst j w h2
   rw [a2]
   exact hL.oth j x w0 h1 a1 h3 h4
def numsIf (f:Nat→Bool) (n:Nat):List Int:=((List.range n).filter f).map fun i:Nat=>(i:Int)
def isN (s:SM) (n:Nat):Bool:=(lookS s.hs (n:Int)).isSome
theorem pagesOf_eq (hC:Cont s c) {k:Nat} (hk:k<s.B):pagesOf s k=((List.range s.P).filter fun p=>isN s (k * s.P+p)).map fun p:Nat=>((k * s.P+p:Nat):Int):=by
 obtain ⟨z,hz,hzl,hz0⟩:=hC.yget hk
 unfold pagesOf Yneeded
 rw [Yat_nat,hz]
 dsimp only
 rw [hzl]
 unfold neededTo
 rw [List.map_map]
 have e:(List.range s.P).filter (fun i=>(z.pages.getD i (false,false)).1)=(List.range s.P).filter fun p=>isN s (k * s.P+p):=by
  refine List.filter_congr fun p hp=>?_
  rw [hC.bit k z p hz (List.mem_range.1 hp)]
  unfold isN
  rw [Int.natCast_add,Int.natCast_mul]
 rw [e]
 refine List.map_congr_left fun p _=>?_
 show (k:Int) * s.P+p=_
 rw [Int.natCast_add,Int.natCast_mul]
theorem range_mul (P k:Nat):List.range ((k+1) * P)=List.range (k * P)++(List.range P).map fun p=>k * P+p:=by
 rw [Nat.succ_mul,List.range_add]
theorem needed_to (hC:Cont s c):∀ k,k≤s.B→neededTo' s k=numsIf (isN s) (k * s.P):=by
 intro k
 induction k with
 |zero=>intro _;unfold neededTo' numsIf;rw [Nat.zero_mul];rfl
 |succ k ih =>
  intro hk
  have e1:neededTo' s (k+1)=neededTo' s k++pagesOf s k:=by
   unfold neededTo'
   rw [List.range_succ,List.map_append,List.flatten_append]
   simp
  rw [e1,ih (by omega),pagesOf_eq hC (by omega)]
  unfold numsIf
  rw [range_mul,List.filter_append,List.map_append,List.filter_map,List.map_map]
  rfl
theorem needed_eq (hC:Cont s c):neededS s=numsIf (isN s) (s.B * s.P):=needed_to hC s.B (Nat.le_refl _)
structure Calm (c:CM) (N:Int):Prop where
 ms:∀ m∈c.ms,N<m.at_
 ok:∀ (k:Nat) (x:CB),c.blocks[k]?=some x→x.failed=false
theorem Calm.kind {N:Int} (h:Calm c N) (hN:c.ops+1≤N):c.mi.kind=0:=by
 unfold CM.mi miAt
 cases e:List.find? (fun m=>decide (m.at_=c.ops+1)) c.ms with
 |none=>rfl
 |some m =>
  have h1:=h.ms m (List.mem_of_find?_eq_some e)
  have h2:m.at_=c.ops+1:=by simpa using List.find?_some e
  omega
theorem Calm.set {N:Int} (h:Calm c N) {k:Nat} {x':CB} (hms:c'.ms=c.ms) (hk:k<c.blocks.length) (hb:c'.blocks=c.blocks.set k x') (hf:x'.failed=false):Calm c' N:=by
 refine ⟨by rw [hms];exact h.ms,fun j x hx=>?_⟩
 rw [hb,set_at _ _ _ _ hk] at hx
 by_cases e:k=j
 ·rw [if_pos e] at hx;injection hx with hx;rw [← hx];exact hf
 ·rw [if_neg e] at hx;exact h.ok j x hx
theorem Calm.reads {N:Int} (h:Calm c N) (g:Reads c c'):Calm c' N:=⟨by rw [g.ms];exact h.ms,fun k x hx=>h.ok k x (by rw [← g.blocks];exact hx)⟩
theorem take_calm {N:Int} (hC:Cont s c) (hL:Live s c) (hK:Calm c N) (hN:c.ops+1≤N):(emptyL s c=[]∧takeS s c=(s,c,7)) ∨
  ∃ (k:Nat) (x x':CB) (L:List Int),emptyL s c=(k:Int)::L∧k<s.B∧c.blocks[k]?=some x∧x.mark=false∧noneed s k∧(takeS s c).2.2=0∧(takeS s c).1.op=k∧(takeS s c).2.1.blocks=c.blocks.set k x'∧x'.next=0∧x'.mark=false∧x'.failed=false ∧
   x'.wear=(if 0<x.next then x.wear+1 else x.wear)∧(takeS s c).2.1.ms=c.ms∧(takeS s c).2.1.ops=(if 0<x.next then c.ops+1 else c.ops)∧StepOk s c (takeS s c).1 (takeS s c).2.1∧Live (takeS s c).1 (takeS s c).2.1:=by
 have hmem:=fun v=>emptyL_mem (s:=s) (c:=c) hC (v:=v)
 unfold takeS
 cases hE:emptyL s c with
 |nil=>exact Or.inl ⟨rfl,rfl⟩
 |cons v L =>
  refine Or.inr ?_
  obtain ⟨k,rfl,hk,hcb⟩:=(hmem v).1 (by rw [hE];exact List.mem_cons_self)
  obtain ⟨x,hx⟩:=hC.bget hk
  obtain ⟨hm,hn,_⟩:=(countB_iff hC hx).1 hcb
  have hi:=(List.getElem?_eq_some_iff.1 hx).1
  rw [takeL,next_at hx]
  have hk0:=hK.kind hN
  by_cases h0:0<x.next
  ·obtain ⟨x',hb,hm',hst,hops,hcs⟩:=erase_spec hC hL hx hm hn
   have hx':(eraseI c k).1.blocks[k]?=some x':=by rw [hb,set_at _ _ _ _ hi,if_pos rfl]
   rcases hcs with ⟨h1,h2,h3,h4,h5,_⟩ | ⟨_,_,h3⟩ | ⟨_,_,_,h4⟩
   ·rw [if_pos h0,if_neg (by omega),if_neg (by omega)]
    obtain ⟨o1,o2,o3⟩:=open_spec hst.cont (hL.to0.chip h2 hx hb (hm'.trans hm.symm)) hx' hm' hn h3
    exact ⟨k,x,x',L,rfl,hk,hx,hm,hn,rfl,o3,hb,h3,hm',h5,by rw [if_pos h0,h4],hst.ms,by rw [if_pos h0];exact hops,hst.trans o1,o2⟩
   ·omega
   ·rcases h4 with h4 | h4
    ·omega
    ·rw [hK.ok k x hx] at h4;exact absurd h4 (by simp)
  ·rw [if_neg h0]
   have h00:x.next=0:=by have:=(hC.shape k x hx).2.1;omega
   obtain ⟨o1,o2,o3⟩:=open_spec hC hL.to0 hx hm hn h00
   exact ⟨k,x,x,L,rfl,hk,hx,hm,hn,rfl,o3,(set_self hx).symm,h00,hm,hK.ok k x hx,by rw [if_neg h0],rfl,by rw [if_neg h0],o1,o2⟩
structure PutCalm (N:Int) (s:SM) (c:CM) (d:List UInt8) (h:Hd) (r:SM × CM × Int × Int) (k p:Nat) (x x':CB):Prop where
 code:r.2.2=((k:Int) * s.P+p,0)
 kb:k<s.B
 pb:p<s.P
 blk:c.blocks[k]?=some x
 blks:r.2.1.blocks=c.blocks.set k x'
 next:x'.next=p+1
 mark:x.mark=false∧x'.mark=false
 calm:Calm r.2.1 N
 live:Live r.1 r.2.1
 op:r.1.op=k
 free:lookS s.hs ((k:Int) * s.P+p)=none
 hs:r.1.hs=putS s.hs ((k:Int) * s.P+p) h
 val:r.2.1.vAt k p=some (d,h)
 old:∀ (j q:Nat) v,r.2.1.vAt j q=some v→(j=k∧q=p)∨c.vAt j q=some v
 way:(leftI s c≠0∧s.op=k∧x.next=p∧x'.wear=x.wear∧r.2.1.ops=c.ops+1)∨(leftI s c=0∧p=0∧(∃ L,emptyL s c=(k:Int)::L)∧noneed s k∧x'.wear=(if 0<x.next then x.wear+1 else x.wear)∧r.2.1.ops=(if 0<x.next then c.ops+2 else c.ops+1))
theorem PutCalm.ops {N:Int} {d:List UInt8} {h:Hd} {r:SM × CM × Int × Int} {k p:Nat} {x x':CB} (q:PutCalm N s c d h r k p x x'):c.ops≤r.2.1.ops∧r.2.1.ops≤c.ops+2:=by
 rcases q.way with ⟨_,_,_,_,e⟩ | ⟨_,_,_,_,_,e⟩
 ·omega
 ·split at e <;> omega
theorem put_calm {N:Int} {h:Hd} {d:List UInt8} (hC:Cont s c) (hL:Live s c) (hK:Calm c N) (hN:c.ops+2≤N) (hm:h.may=true) (hi:HdIn h) (hd:d.length=s.Z) :
  PutRes s c d h (putA s c h d)∧((putA s c h d=(s,c,0,7)∧leftI s c=0∧emptyL s c=[])∨∃ k p x x',PutCalm N s c d h (putA s c h d) k p x x'):=by
 have hR:=putA_spec hC hL hm hi hd
 refine ⟨hR,?_⟩
 have hpl:=plan_bd hC.pl
 have hsz:sizedB d.length=true:=by
  unfold sizedB
  rw [hd]
  simp
  omega
 have hlay:=layL_len d h
 have hraw:=readF_lay d h hsz hm hi
 have e0:putA s c h d=putL h (layL d h) (c.cnt+1) s c:=by
  unfold putA
  rw [if_neg (by rw [hsz,hm];simp [hd]),if_neg (by rw [hL.on];simp)]
  rfl
 rw [e0] at hR ⊢
 have hT:(takeT s c=(s,c,7)∧leftI s c=0∧emptyL s c=[])∨∃ (k:Nat) (x x1:CB),k<s.B∧c.blocks[k]?=some x∧x.mark=false∧(takeT s c).2.2=0∧(takeT s c).1.op=k∧(takeT s c).2.1.blocks=c.blocks.set k x1∧x1.next<s.P∧x1.failed=false ∧
   (takeT s c).2.1.ms=c.ms∧(takeT s c).2.1.ops≤c.ops+1∧StepOk s c (takeT s c).1 (takeT s c).2.1∧Live (takeT s c).1 (takeT s c).2.1 ∧
   ((leftI s c≠0∧s.op=k∧x1.next=x.next∧x1.wear=x.wear∧(takeT s c).2.1.ops=c.ops)∨(leftI s c=0∧x1.next=0∧(∃ L,emptyL s c=(k:Int)::L)∧noneed s k∧x1.wear=(if 0<x.next then x.wear+1 else x.wear)∧(takeT s c).2.1.ops=(if 0<x.next then c.ops+1 else c.ops))):=by
  unfold takeT
  by_cases h0:leftI s c=0
  ·rw [if_pos h0]
   rcases take_calm hC hL hK (by omega) with ⟨a1,a2⟩ | ⟨k,x,x',L,a1,a2,a3,a4,a5,a6,a7,a8,a9,a10,a11,a12,a13,a14,a16,a17⟩
   ·exact Or.inl ⟨a2,h0,a1⟩
   ·exact Or.inr ⟨k,x,x',a2,a3,a4,a6,a7,a8,by omega,a11,a13,by rw [a14];split <;> omega,a16,a17,Or.inr ⟨h0,a9,⟨L,a1⟩,a5,a12,a14⟩⟩
  ·rw [if_neg h0]
   have hop:=hC.opb
   have hne:s.op≠-1:=fun e=>h0 (by unfold leftI;rw [if_pos e])
   obtain ⟨k,hk⟩:∃ k:Nat,s.op=(k:Int):=⟨s.op.toNat,by omega⟩
   have hkB:k<s.B:=by omega
   obtain ⟨x,hx⟩:=hC.bget hkB
   obtain ⟨z,hz,_⟩:=hC.yget hkB
   refine Or.inr ⟨k,x,x,hkB,hx,(hL.opn k x z hx hz hk).2.2,rfl,hk,(set_self hx).symm,?_,hK.ok k x hx,rfl,by show c.ops≤c.ops+1;omega,StepOk.refl hC,hL,Or.inl ⟨h0,hk,rfl,rfl,rfl⟩⟩
   rw [left_at hC hk hx] at h0
   have:=(hC.shape k x hx).2.2.1
   omega
 have hway:=hR.way
 rw [putL] at hR hway ⊢
 rcases hT with ⟨t1,t2,t3⟩ | ⟨k,x,x1,hkB,hx,hxm,t0,tto,tb,tn,tf,tms,tops2,tst,tL,tway⟩
 ·rw [t1]
  exact Or.inl ⟨rfl,t2,t3⟩
 ·refine Or.inr ?_
  generalize takeT s c=t at *
  obtain ⟨s1,c1,code⟩:=t
  dsimp only at t0 tto tb tms tops2 tst tL tway hR hway ⊢
  rw [if_neg (by omega)] at hR hway ⊢
  have hi0:=(List.getElem?_eq_some_iff.1 hx).1
  have hx1:c1.blocks[k]?=some x1:=by rw [tb,set_at _ _ _ _ hi0,if_pos rfl]
  have hK1:Calm c1 N:=hK.set tms hi0 tb tf
  obtain ⟨x',p,hxp,hpP,hyn,hb,hmk,hnx',hsh,hwr,gP,gZ,gms,gmis,gops,hpg,hcs⟩:=prog_spec tst.cont tL tto hx1 (by rw [tst.P];exact tn) (by rw [tst.Z];omega) hraw
  generalize hq:progI c1 s1.op (Ynext s1.y s1.op).2.1 (layL d h)=q at *
  obtain ⟨c2,qc⟩:=q
  dsimp only at hb gP gZ gms gmis gops hcs
  have hk1:=hK1.kind (by omega)
  rcases hcs with ⟨q0,q1,q2,q3,_⟩ | ⟨_,_,_,q3⟩ | ⟨_,_,_,_,q4⟩
  ·unfold putM at hR hway ⊢
   dsimp only at hR hway ⊢
   rw [if_pos q0,hyn] at hR hway ⊢
   have hPe:=tst.P
   rw [tto,hPe] at hway ⊢
   dsimp only at hway
   rcases hway with ⟨_,wL,k',p',w1,w2,w3,w4,w5,w6,w7,w8⟩ | ⟨h7,_⟩ | ⟨h4,_⟩
   ·have hpP':p<s.P:=by rw [← hPe];exact hpP
    obtain ⟨rfl,rfl⟩:=key_inj hpP' w2 w3
    have hc2b:c2.blocks=c.blocks.set k x':=by rw [hb,tb,List.set_set]
    refine ⟨k,p,x,x',⟨rfl,hkB,hpP',hx,hc2b,by omega,⟨hxm,hmk⟩,hK.set (gms.trans tms) hi0 hc2b q3,wL,tto,w4,w5,w7,w8,?_⟩⟩
    rcases tway with ⟨u1,u2,u3,u4,u5⟩ | ⟨u1,u2,u3,u4,u5,u6⟩
    ·exact Or.inl ⟨u1,u2,by omega,by omega,by show c2.ops=_;omega⟩
    ·exact Or.inr ⟨u1,by omega,u3,u4,by rw [hwr,u5],by show c2.ops=_;rw [gops,u6];split <;> omega⟩
   ·exact absurd h7 (by decide)
   ·exact absurd h4 (by decide)
  ·omega
  ·rcases q4 with q4 | q4
   ·omega
   ·rw [tf] at q4;exact absurd q4 (by simp)
end Go.Proofs.YtoelopghilbfeaaGreat
