/-
  Texts put together: YtoelopghilbfeaaGreatSpI, YtoelopghilbfeaaGreatSpJ, YtoelopghilbfeaaGreatSpK, YtoelopghilbfeaaGreatSpL, YtoelopghilbfeaaGreatSpM, YtoelopghilbfeaaGreatSpN.
-/
import Derived.Test.YtoelopghilbfeaaGreatSpX
namespace Go.Proofs.YtoelopghilbfeaaGreat
open Go.RowKit
set_option linter.unusedSimpArgs false
set_option linter.unusedVariables false
variable {s s':SM} {c c':CM}
theorem new_at {B P Z:Nat} {marks:List Int} {ms:List Mi} {k:Nat} {x:CB} (h:(CM.new B P Z marks ms).blocks[k]?=some x):k<B∧x=CB.new P Z (marks.contains (k:Int)):=by
 have hk:k<B:=by have:=(List.getElem?_eq_some_iff.1 h).1;simpa [CM.new] using this
 refine ⟨hk,?_⟩
 have h2:(CM.new B P Z marks ms).blocks[k]?=some (CB.new P Z (marks.contains (k:Int))):=by
  show ((List.range B).map fun k:Nat=>CB.new P Z (marks.contains (k:Int)))[k]?=_
  rw [List.getElem?_map,List.getElem?_range hk]
  rfl
 rw [h2] at h
 injection h with h
 exact h.symm
theorem new_shape {B P Z:Nat} {marks:List Int} {ms:List Mi} (k:Nat) (x:CB) (h:(CM.new B P Z marks ms).blocks[k]?=some x):x.shape P Z:=by
 obtain ⟨_,rfl⟩:=new_at h
 refine ⟨?_,Int.le_refl _,by show (0:Int)≤P;omega,fun p _ hp=>blankB_at hp⟩
 show (blankB P Z).length=P
 unfold blankB
 rw [List.length_replicate]
theorem lookI_chip {k:Int} (h1:c.nextOf k=0):(lookI s c k).2=(c,0):=by
 have hA:lookA s c k=(s,c,0):=by unfold lookA;rw [if_neg (by omega)]
 unfold lookI
 rw [hA,if_neg (by simp)]
 unfold lookB
 split <;> rfl
theorem lookAll_chip (h:∀ k:Nat,c.nextOf k=0) (n:Nat):∀ (k:Nat) (s:SM),(lookAll n k s c).2=(c,0):=by
 induction n with
 |zero=>intro k s;rfl
 |succ n ih =>
  intro k s
  have e:=lookI_chip (s:=s) (h k)
  rw [lookAll,show (lookI s c k).2.2=0 by rw [e],if_neg (by simp),show (lookI s c k).2.1=c by rw [e]]
  exact ih (k+1) _
theorem new_start (marks:List Int) (ms:List Mi) (hpl:planB ((CM.new 16 4 128 marks ms).blocks.length:Int) (CM.new 16 4 128 marks ms).P (CM.new 16 4 128 marks ms).Z=true) :
  (newS (CM.new 16 4 128 marks ms)).2=(CM.new 16 4 128 marks ms,0)∧Cont (newS (CM.new 16 4 128 marks ms)).1 (CM.new 16 4 128 marks ms)∧Live (newS (CM.new 16 4 128 marks ms)).1 (CM.new 16 4 128 marks ms)∧(newS (CM.new 16 4 128 marks ms)).1.op=-1 ∧
   ((newS (CM.new 16 4 128 marks ms)).1.B=16∧(newS (CM.new 16 4 128 marks ms)).1.P=4∧(newS (CM.new 16 4 128 marks ms)).1.Z=128)∧∀ j q:Nat,j<16→q<4→lookS (newS (CM.new 16 4 128 marks ms)).1.hs ((j:Int) * 4+q)=none:=by
 have hch:(newS (CM.new 16 4 128 marks ms)).2=(CM.new 16 4 128 marks ms,0):=lookAll_chip (fun k=>new_next 16 4 128 marks ms k) _ _ _
 have hlen:(CM.new 16 4 128 marks ms).blocks.length=16:=by simp [CM.new]
 obtain ⟨a1,a2⟩:=newS_spec (c:=CM.new 16 4 128 marks ms) hpl rfl (fun k x h=>new_shape k x h)
 have hv:∀ j q:Nat,j<16→q<4→(CM.new 16 4 128 marks ms).vAt j q=none:=by
  intro j q hj hq
  cases hb:(CM.new 16 4 128 marks ms).blocks[j]? with
  |none=>exact vAt_none hb q
  |some x =>
   rw [vAt_of hb]
   obtain ⟨_,rfl⟩:=new_at hb
   exact pgV_rep 4 156 255 _ rfl (by omega) q
 generalize newS (CM.new 16 4 128 marks ms)=r at *
 obtain ⟨r1,r2⟩:=r
 dsimp only at hch
 subst hch
 dsimp only at a2
 rcases a2 with ⟨h4,_⟩ | ⟨_,b1,b2,b3,b4,b5,b6,b7⟩
 ·exact absurd h4 (by decide)
 ·refine ⟨rfl,b1,b2,b3,⟨b4.trans hlen,b5,b6⟩,fun j q hj hq=>?_⟩
  have:=b7 j q (by rw [hlen];exact hj) hq
  rw [hv j q hj hq] at this
  exact this
set_option maxRecDepth 20000 in
theorem aw_plan':planB ((CM.new 16 4 128 [] []).blocks.length:Int) (CM.new 16 4 128 [] []).P (CM.new 16 4 128 [] []).Z=true:=by kernel_rfl
end Go.Proofs.YtoelopghilbfeaaGreat
namespace Go.Proofs.YtoelopghilbfeaaGreat
open Go.RowKit
set_option linter.unusedSimpArgs false
set_option linter.unusedVariables false
variable {s s':SM} {c c':CM}
def hdK (κ:Int) (i:Nat):Hd:=⟨κ,i,1+i,0⟩
theorem fillL_len (n:Int):(fillL n 128).length=128:=by unfold fillL;simp
theorem hdK_may {κ:Int} {i:Nat} (hκ:κ=1∨κ=2) (hi:i≤1000):(hdK κ i).may=true∧HdIn (hdK κ i):=by
 refine ⟨?_,by show (0:Int)≤i;omega,by show (i:Int)<18446744073709551616;omega⟩
 unfold Hd.may hdK
 simp
 omega
theorem getS_sim (s:SM) (c:CM) (n:Int):c.Sim (getS s c n).1 1:=by
 unfold getS
 split
 ·exact (CM.Sim.refl c).mono (by omega)
 ·split
  ·exact CM.read_sim _ _ _
  ·split
   ·exact CM.read_sim _ _ _
   ·exact CM.read_sim _ _ _
structure HasI (κ:Int) (L:List (Nat × Nat)) (s:SM) (c:CM):Prop where
 cont:Cont s c
 geo:s.B=16∧s.P=4∧s.Z=128
 has:∀ n i,(n,i)∈L→n<64∧lookS s.hs (n:Int)=some (hdK κ i)∧c.vAt (n / 4) (n % 4)=some (fillL i 128,hdK κ i)
structure LawI (N κ:Int) (mk:Nat→Bool) (M:Int) (L:List (Nat × Nat)) (s:SM) (c:CM):Prop where
 has:HasI κ L s c
 live:Live s c
 calm:Calm c N
 mis:c.misuse=0
 only:∀ n:Nat,n<64→lookS s.hs (n:Int)≠none→∃ i,(n,i)∈L
 nodup:(L.map (·.1)).Nodup
 shut:∀ (j:Nat) (x:CB),c.blocks[j]?=some x→s.op≠(j:Int)→x.next=0∨x.next=4
 mark:∀ (j:Nat) (x:CB),c.blocks[j]?=some x→x.mark=mk j
 ops:0≤c.ops∧c.ops≤M
 msk:∀ m∈c.ms,m.kind≠2
def FullS (mk:Nat→Bool) (s:SM) (c:CM):Prop:=∀ j:Nat,j<16→mk j=false→c.nextOf j=4∧∃ q:Nat,q<4∧lookS s.hs ((j * 4+q:Nat):Int)≠none
theorem nat_key (k p:Nat):((k * 4+p:Nat):Int)=(k:Int) * ((4:Nat):Int)+p:=by simp
theorem nat_split (n:Nat):n / 4 * 4+n % 4=n:=by omega
theorem LawI.put {N κ:Int} {mk:Nat→Bool} {M:Int} {L:List (Nat × Nat)} (I:LawI N κ mk M L s c) (hN:M+2≤N) {i:Nat} (hi:i≤1000) (hκ:κ=1∨κ=2) :
  (putA s c (hdK κ i) (fillL i 128)=(s,c,0,7)∧FullS mk s c) ∨
  ∃ p:Nat,(putA s c (hdK κ i) (fillL i 128)).2.2=((p:Int),0)∧p<64∧lookS s.hs (p:Int)=none∧mk (p / 4)=false∧LawI N κ mk (M+2) ((p,i)::L) (putA s c (hdK κ i) (fillL i 128)).1 (putA s c (hdK κ i) (fillL i 128)).2.1 ∧
   (∀ j:Nat,j≠p / 4→(putA s c (hdK κ i) (fillL i 128)).2.1.nextOf j=c.nextOf j)∧(putA s c (hdK κ i) (fillL i 128)).2.1.nextOf (p / 4:Nat)≤c.nextOf (p / 4:Nat)+1 ∧
   ((∀ j:Nat,j<16→0<c.nextOf j→¬ noneed s j)→(putA s c (hdK κ i) (fillL i 128)).2.1.ops=c.ops+1∧∀ j:Nat,j<16→0<(putA s c (hdK κ i) (fillL i 128)).2.1.nextOf j→¬ noneed (putA s c (hdK κ i) (fillL i 128)).1 j):=by
 obtain ⟨⟨hC,⟨hB,hP,hZ⟩,hhas⟩,hL,hK,hmis,honly,hnd,hshut,hmark,hops,hmsk⟩:=I
 obtain ⟨hm,hin⟩:=hdK_may hκ hi
 have hop:=hC.opb
 obtain ⟨R,hcase⟩:=put_calm hC hL hK (by omega) hm hin (d:=fillL i 128) (by rw [hZ];exact fillL_len _)
 rcases hcase with ⟨e,h0,hE⟩ | ⟨k,p,x,x',Q⟩
 ·refine Or.inl ⟨e,fun j hj hmj=>?_⟩
  obtain ⟨x,hx⟩:=hC.bget (k:=j) (by omega)
  have hxm:x.mark=false:=(hmark j x hx).trans hmj
  have hnn:¬ noneed s j:=by
   intro hn
   have:(j:Int)∈emptyL s c:=(emptyL_mem hC).2 ⟨j,rfl,by omega,(countB_iff hC hx).2 ⟨hxm,hn,Or.inr h0⟩⟩
   rw [hE] at this
   exact absurd this (by simp)
  have hq:∃ q:Nat,q<4∧lookS s.hs ((j * 4+q:Nat):Int)≠none:=by
   refine Classical.byContradiction fun hne=>hnn fun q hq=>?_
   rw [hP] at hq ⊢
   refine Classical.byContradiction fun h2=>hne ⟨q,hq,?_⟩
   rw [nat_key]
   exact h2
  refine ⟨?_,hq⟩
  rw [next_at hx]
  obtain ⟨q,hq1,hq2⟩:=hq
  by_cases ho:s.op=(j:Int)
  ·rw [left_at hC ho hx,hP] at h0
   omega
  ·rcases hshut j x hx ho with h | h
   ·have:=(hC.above hx (p:=q) (by rw [hP];exact hq1) (by omega)).1
    rw [hP,← nat_key] at this
    exact absurd this hq2
   ·exact h
 ·refine Or.inr ⟨k * 4+p,?_⟩
  generalize putA s c (hdK κ i) (fillL i 128)=r at R Q
  have hkB:k<16:=by rw [← hB];exact Q.kb
  have hpP:p<4:=by rw [← hP];exact Q.pb
  have hi0:=(List.getElem?_eq_some_iff.1 Q.blk).1
  have e1:(k * 4+p) / 4=k:=by omega
  have e2:(k * 4+p) % 4=p:=by omega
  have hfree:lookS s.hs ((k * 4+p:Nat):Int)=none:=by have f:=Q.free;rw [hP,← nat_key] at f;exact f
  have hlk:∀ m,lookS r.1.hs m=if m=((k * 4+p:Nat):Int) then some (hdK κ i) else lookS s.hs m:=by
   intro m
   have e:=Q.hs
   rw [hP,← nat_key] at e
   rw [e]
   exact lookS_put _ m hfree
  have hxk':r.2.1.blocks[k]?=some x':=by rw [Q.blks,set_at _ _ _ _ hi0,if_pos rfl]
  have hxj:∀ j:Nat,j≠k→r.2.1.blocks[j]?=c.blocks[j]?:=by intro j hj;rw [Q.blks,set_at _ _ _ _ hi0,if_neg (Ne.symm hj)]
  have hnj:∀ j:Nat,j≠k→r.2.1.nextOf j=c.nextOf j:=by intro j hj;unfold CM.nextOf;rw [blk_at,blk_at,hxj j hj]
  have hnk:=next_at hxk'
  have hnk0:=next_at Q.blk
  have hnx:=Q.next
  have hshx:=(hC.shape k x Q.blk).2.1
  rw [e1]
  refine ⟨by rw [Q.code,hP,← nat_key],by omega,hfree,?_,⟨⟨R.cont,⟨R.B.trans hB,R.P.trans hP,R.Z.trans hZ⟩,?_⟩,Q.live,Q.calm,R.mis.trans hmis,?_,?_,?_,?_,?_,by rw [R.ms];exact hmsk⟩,hnj,?_,?_⟩
  ·rw [← hmark k x Q.blk];exact Q.mark.1
  ·intro n a ha
   rcases List.mem_cons.1 ha with h | h
   ·injection h with h1 h2
    subst h1 h2
    refine ⟨by omega,by rw [hlk,if_pos rfl],?_⟩
    rw [e1,e2]
    exact Q.val
   ·obtain ⟨h1,h2,h3⟩:=hhas n a h
    have hne:n≠k * 4+p:=by intro e;rw [e,hfree] at h2;exact absurd h2 (by simp)
    refine ⟨h1,by rw [hlk,if_neg (by omega)];exact h2,?_⟩
    have hl2:lookS s.hs ((n / 4:Nat) * (s.P:Int)+(n % 4:Nat))=some (hdK κ a):=by
     rw [hP,← nat_key,nat_split]
     exact h2
    rw [R.keep (n / 4) (n % 4) _ (by omega) (by omega) hl2]
    exact h3
  ·intro n hn hne
   rw [hlk] at hne
   by_cases e:(n:Int)=((k * 4+p:Nat):Int)
   ·exact ⟨i,by rw [show n=k * 4+p by omega];exact List.mem_cons_self⟩
   ·rw [if_neg e] at hne
    obtain ⟨a,ha⟩:=honly n hn hne
    exact ⟨a,List.mem_cons_of_mem _ ha⟩
  ·rw [List.map_cons,List.nodup_cons]
   refine ⟨fun hmem=>?_,hnd⟩
   obtain ⟨⟨n,a⟩,h1,h2⟩:=List.mem_map.1 hmem
   have h2':n=k * 4+p:=h2
   obtain ⟨_,h3,_⟩:=hhas n a h1
   rw [h2',hfree] at h3
   exact absurd h3 (by simp)
  ·intro j xj hj hne
   rw [Q.op] at hne
   have hjk:j≠k:=by omega
   rw [hxj j hjk] at hj
   by_cases ho:s.op=(j:Int)
   ·rcases Q.way with ⟨_,h2,_⟩ | ⟨h1,_⟩
    ·omega
    ·rw [left_at hC ho hj,hP] at h1
     exact Or.inr (by omega)
   ·exact hshut j xj hj ho
  ·intro j xj hj
   by_cases e:j=k
   ·subst e
    rw [hxk'] at hj
    injection hj with hj
    rw [← hj,← hmark j x Q.blk,Q.mark.1,Q.mark.2]
   ·rw [hxj j e] at hj
    exact hmark j xj hj
  ·have:=Q.ops
   omega
  ·rw [hnk,hnk0]
   rcases Q.way with ⟨_,_,h3,_⟩ | ⟨_,h2,_⟩ <;> omega
  ·intro hu
   constructor
   ·rcases Q.way with ⟨_,_,_,_,h5⟩ | ⟨_,_,_,h4,_,h6⟩
    ·exact h5
    ·rw [h6,if_neg]
     intro hpos
     exact hu k hkB (by rw [hnk0];exact hpos) h4
   ·intro j hj hpos hn
    have hPr:r.1.P=4:=R.P.trans hP
    by_cases e:j=k
    ·subst e
     have:=hn p (by rw [hPr];exact hpP)
     rw [hPr,← nat_key,hlk,if_pos rfl] at this
     exact absurd this (by simp)
    ·rw [hnj j e] at hpos
     refine hu j hj hpos fun q hq=>?_
     have h1:=hn q (by rw [hPr,← hP];exact hq)
     rw [hP] at hq ⊢
     rw [hPr,← nat_key,hlk] at h1
     rw [← nat_key]
     split at h1
     ·exact absurd h1 (by simp)
     ·exact h1
theorem LawI.drop {N κ:Int} {mk:Nat→Bool} {M:Int} {L:List (Nat × Nat)} (I:LawI N κ mk M L s c) {n i:Nat} (hn:(n,i)∈L):(dropS s n).2=0∧LawI N κ mk M (L.filter fun q=>decide (q.1≠n)) (dropS s n).1 c:=by
 obtain ⟨⟨hC,⟨hB,hP,hZ⟩,hhas⟩,hL,hK,hmis,honly,hnd,hshut,hmark,hops,hmsk⟩:=I
 obtain ⟨h1,h2,h3⟩:=hhas n i hn
 have hl2:lookS s.hs ((n / 4:Nat) * (s.P:Int)+(n % 4:Nat))=some (hdK κ i):=by
  rw [hP,← nat_key,nat_split]
  exact h2
 obtain ⟨d1,d2,d3,d4,d5,d6,d7,d8⟩:=drop_spec hC (k:=n / 4) (p:=n % 4) (by omega) (by omega) hl2
 rw [hP,← nat_key,nat_split] at d1 d2 d3 d4 d5 d6 d7 d8
 refine ⟨d1,⟨⟨d2,⟨d4.trans hB,d5,d6.trans hZ⟩,?_⟩,d3 hL,hK,hmis,?_,?_,?_,hmark,hops,hmsk⟩⟩
 ·intro m a ha
  obtain ⟨ha1,ha2⟩:=List.mem_filter.1 ha
  obtain ⟨q1,q2,q3⟩:=hhas m a ha1
  have hne:m≠n:=by simpa using ha2
  exact ⟨q1,by rw [d8,if_neg (by omega)];exact q2,q3⟩
 ·intro m hm hne
  rw [d8] at hne
  by_cases e:(m:Int)=n
  ·rw [if_pos e] at hne;exact absurd rfl hne
  ·rw [if_neg e] at hne
   obtain ⟨a,ha⟩:=honly m hm hne
   exact ⟨a,List.mem_filter.2 ⟨ha,by simp;omega⟩⟩
 ·exact hnd.sublist (List.filter_sublist.map _)
 ·rw [d7];exact hshut
theorem HasI.get {κ:Int} {L:List (Nat × Nat)} (I:HasI κ L s c) (hon:c.on=true) (hms:∀ m∈c.ms,m.kind≠2) {n i:Nat} (hn:(n,i)∈L) :
  (getS s c n).2=(fillL i 128,hdK κ i,0)∧Reads c (getS s c n).1∧(getS s c n).1.on=true:=by
 obtain ⟨hC,⟨hB,hP,hZ⟩,hhas⟩:=I
 obtain ⟨h1,h2,h3⟩:=hhas n i hn
 have hl2:lookS s.hs ((n / 4:Nat) * (s.P:Int)+(n % 4:Nat))=some (hdK κ i):=by
  rw [hP,← nat_key,nat_split]
  exact h2
 obtain ⟨g1,g2⟩:=get_spec hC (k:=n / 4) (p:=n % 4) (by omega) (by omega) hl2 h3
 rw [hP,← nat_key,nat_split] at g1 g2
 rcases g2 with ⟨q1,q2,q3⟩ | ⟨_,_,q3⟩
 ·exact ⟨q1,g1,q3⟩
 ·obtain ⟨_,m,m1,m2,_⟩:=q3 hon
  exact absurd m2 (hms m m1)
theorem HasI.reads {κ:Int} {L:List (Nat × Nat)} (I:HasI κ L s c) (g:Reads c c'):HasI κ L s c':=⟨I.cont.reads g,I.geo,fun n i h=>by rw [g.vAt];exact I.has n i h⟩
theorem HasI.lost {κ:Int} {L:List (Nat × Nat)} (I:HasI κ L s c) (hah:ahead c<25):Reads c (lostN 25 c).2∧∃ t,(lostN 25 c).1=some t∧HasI κ L t (lostN 25 c).2∧Live t (lostN 25 c).2:=by
 obtain ⟨hC,⟨hB,hP,hZ⟩,hhas⟩:=I
 have e1:=hC.B
 have e2:=hC.P
 have e3:=hC.Z
 obtain ⟨r1,t,r2,r3,r4,r5,r6,r7,r8,r9⟩:=lostN_spec 25 c (by rw [e1,e2,e3];exact hC.pl) (fun k x h=>by rw [e2,e3];exact hC.shape k x h) hah
 refine ⟨r1,t,r2,⟨r3,⟨by omega,by omega,by omega⟩,?_⟩,r4⟩
 intro n i hn
 obtain ⟨h1,h2,h3⟩:=hhas n i hn
 have:=r9 (n / 4) (n % 4) (by omega) (by omega)
 rw [e2,hP,← nat_key,nat_split,h3] at this
 exact ⟨h1,this,by rw [r1.vAt];exact h3⟩
theorem pigeon:∀ (n:Nat) (L:List Nat),(∀ j,j<n→j∈L)→n≤L.length:=by
 intro n
 induction n with
 |zero=>intro L _;omega
 |succ n ih =>
  intro L h
  have hn:=h n (by omega)
  have h1:=ih (L.erase n) fun j hj=>(List.mem_erase_of_ne (by omega)).2 (h j (by omega))
  rw [List.length_erase_of_mem hn] at h1
  have:=List.length_pos_of_mem hn
  omega
theorem LawI.few {N κ:Int} {mk:Nat→Bool} {M:Int} {L:List (Nat × Nat)} (I:LawI N κ mk M L s c) (hmk:∀ j,mk j=false) (hl:L.length<16):¬ FullS mk s c:=by
 intro hf
 have:=pigeon 16 (L.map fun q=>q.1 / 4) fun j hj=>by
  obtain ⟨_,q,hq,hne⟩:=hf j hj (hmk j)
  obtain ⟨i,hi⟩:=I.only (j * 4+q) (by omega) hne
  exact List.mem_map.2 ⟨_,hi,by show (j * 4+q) / 4=j;omega⟩
 rw [List.length_map] at this
 omega
end Go.Proofs.YtoelopghilbfeaaGreat
namespace Go.Proofs.YtoelopghilbfeaaGreat
open Go.RowKit
set_option linter.unusedSimpArgs false
set_option linter.unusedVariables false
variable {s s':SM} {c c':CM}
structure KeepI (n:Nat) (pg:List Nat) (o:Int) (s:SM) (c:CM) (L:List (Nat × Nat)):Prop where
 law:LawI 1000000 1 (fun _=>false) (2 * n) L s c
 has:∀ j (h:j<pg.length),(pg[j],j)∈L
 few:L.length≤pg.length+(if o<0 then 0 else 1)
 neg:o<0→o=-1
 old:0≤o→∃ on i:Nat,o=on∧(on,i)∈L∧∀ q∈pg,q≠on
theorem filter_lt' {α:Type} (p:α→Bool) (l:List α) {a:α} (h:a∈l) (hp:p a=false):(l.filter p).length+1≤l.length:=by
 have:=filter_lt p (fun _=>true) l (fun _ _=>rfl) h rfl hp
 rw [List.filter_eq_self.2 (fun _ _=>rfl)] at this
 omega
theorem KeepI.put {n:Nat} {pg:List Nat} {o:Int} {L:List (Nat × Nat)} (I:KeepI n pg o s c L) (hpg:pg.length≤12) (hn:n≤320) :
  ∃ p:Nat,(putA s c (hdK 1 n) (fillL n 128)).2.2=((p:Int),0)∧p<64 ∧
   (o<0→o=-1∧∃ L',KeepI (n+1) pg p (putA s c (hdK 1 n) (fillL n 128)).1 (putA s c (hdK 1 n) (fillL n 128)).2.1 L'∧(pg.length=n→KeepI (n+1) (pg++[p]) (-1) (putA s c (hdK 1 n) (fillL n 128)).1 (putA s c (hdK 1 n) (fillL n 128)).2.1 L')) ∧
   (0≤o→(dropS (putA s c (hdK 1 n) (fillL n 128)).1 o).2=0∧∃ L',KeepI (n+1) pg p (dropS (putA s c (hdK 1 n) (fillL n 128)).1 o).1 (putA s c (hdK 1 n) (fillL n 128)).2.1 L'∧(pg.length=n→KeepI (n+1) (pg++[p]) (-1) (dropS (putA s c (hdK 1 n) (fillL n 128)).1 o).1 (putA s c (hdK 1 n) (fillL n 128)).2.1 L')):=by
 obtain ⟨hI,hhas,hfew,hneg,hold⟩:=I
 have hL16:L.length<16:=by split at hfew <;> omega
 rcases hI.put (by omega) (i:=n) (by omega) (Or.inl rfl) with ⟨_,hf⟩ | ⟨p,e1,e2,e3,e4,e5,_⟩
 ·exact absurd hf (hI.few (fun _=>rfl) hL16)
 ·generalize putA s c (hdK 1 n) (fillL n 128)=r at *
  have e5':LawI 1000000 1 (fun _=>false) (2 * ((n+1:Nat):Int)) ((p,n)::L) r.1 r.2.1:=by
   have e:2 * ((n+1:Nat):Int)=2 * (n:Int)+2:=by omega
   rw [e];exact e5
  have hpq:∀ q i,(q,i)∈L→q≠p:=by
   intro q i h e
   have:=(hI.has.has q i h).2.1
   rw [e,e3] at this
   exact absurd this (by simp)
  have fin:∀ (t:SM) (L':List (Nat × Nat)),LawI 1000000 1 (fun _=>false) (2 * ((n+1:Nat):Int)) L' t r.2.1→(∀ j (h:j<pg.length),(pg[j],j)∈L')→(p,n)∈L'→L'.length≤pg.length+1 →
    KeepI (n+1) pg p t r.2.1 L'∧(pg.length=n→KeepI (n+1) (pg++[p]) (-1) t r.2.1 L'):=by
   intro t L' h1 h2 h3 h4
   constructor
   ·refine ⟨h1,h2,by rw [if_neg (by omega)];exact h4,by omega,fun _=>⟨p,n,rfl,h3,fun q hq=>?_⟩⟩
    obtain ⟨j,hj,rfl⟩:=List.mem_iff_getElem.1 hq
    exact hpq _ _ (hhas j hj)
   ·intro hlen
    refine ⟨h1,?_,by rw [if_pos (by omega),List.length_append];simp;omega,fun _=>rfl,by omega⟩
    intro j hj
    rw [List.length_append] at hj
    by_cases e:j<pg.length
    ·rw [List.getElem_append_left e];exact h2 j e
    ·have:j=pg.length:=by simp at hj;omega
     subst this
     rw [List.getElem_append_right (Nat.le_refl _)]
     simp only [Nat.sub_self,List.getElem_cons_zero]
     rw [hlen]
     exact h3
  refine ⟨p,e1,e2,?_,?_⟩
  ·intro ho
   refine ⟨hneg ho,_,fin r.1 _ e5' (fun j hj=>List.mem_cons_of_mem _ (hhas j hj)) List.mem_cons_self ?_⟩
   rw [if_pos ho] at hfew
   rw [List.length_cons]
   omega
  ·intro ho
   obtain ⟨on,i,rfl,h2,h3⟩:=hold ho
   rw [if_neg (by omega)] at hfew
   obtain ⟨d1,d2⟩:=e5'.drop (List.mem_cons_of_mem _ h2)
   refine ⟨d1,_,fin _ _ d2 ?_ ?_ ?_⟩
   ·intro j hj
    exact List.mem_filter.2 ⟨List.mem_cons_of_mem _ (hhas j hj),by simpa using h3 _ (List.getElem_mem hj)⟩
   ·exact List.mem_filter.2 ⟨List.mem_cons_self,by simpa using (hpq on i h2).symm⟩
   ·have:=filter_lt' (fun q:Nat × Nat=>decide (q.1≠on)) ((p,n)::L) (List.mem_cons_of_mem _ h2) (by simp)
    rw [List.length_cons] at this
    omega
theorem lostN_sim (n:Nat):∀ c:CM,c.ok→c.blocks.length≤32→c.Sim (lostN n c).2 (256 * n)∧(lostN n c).2.ok:=by
 induction n with
 |zero=>intro c h _;exact ⟨CM.Sim.refl c,h⟩
 |succ n ih =>
  intro c h hb
  have h1:({ c with on:=true }:CM).ok:=h
  obtain ⟨a1,a2,a3⟩:=newS_sim h1
  have a0:c.Sim { c with on:=true } 0:=⟨rfl,rfl,rfl,rfl,Int.le_refl _,by show c.ops≤c.ops+0;omega⟩
  have hb':({ c with on:=true }:CM).blocks.length≤32:=hb
  have a4:=(a0.trans a1).mono (m:=256) (by omega)
  rw [lostN]
  split
  ·exact ⟨a4.mono (by omega),a3⟩
  ·split
   ·obtain ⟨b1,b2⟩:=ih (newS { c with on:=true }).2.1 a3 (by rw [a1.2.2.1];exact hb)
    exact ⟨(a4.trans b1).mono (by omega),b2⟩
   ·exact ⟨a4.mono (by omega),a3⟩
end Go.Proofs.YtoelopghilbfeaaGreat
namespace Go.Proofs.YtoelopghilbfeaaGreat
open Go.RowKit
set_option linter.unusedSimpArgs false
set_option linter.unusedVariables false
variable {s s':SM} {c c':CM}
def mkTo (mk:Nat→Bool) (n:Nat):Nat:=((List.range n).filter mk).length
theorem mkTo_succ (mk:Nat→Bool) (n:Nat):mkTo mk (n+1)=if mk n then mkTo mk n+1 else mkTo mk n:=by
 unfold mkTo
 rw [filter_snoc]
 split
 ·rw [List.length_append];rfl
 ·rfl
theorem mkTo_zero {mk:Nat→Bool} (h:∀ j,mk j=false) (n:Nat):mkTo mk n=0:=by
 induction n with
 |zero=>rfl
 |succ n ih=>rw [mkTo_succ,h,if_neg (by simp),ih]
theorem badS_eq {mk:Nat→Bool} (h:∀ j:Nat,j<s.B→c.markOf (j:Int)=mk j):badS s c=(mkTo mk s.B:Int):=by
 unfold badS onlyI numsTo mkTo
 rw [List.filter_map,List.length_map]
 congr 2
 refine List.filter_congr fun j hj=>?_
 have:=h j (List.mem_range.1 hj)
 show (!(!c.markOf (j:Int)))=mk j
 rw [Bool.not_not,this]
theorem LawI.markOf {N κ:Int} {mk:Nat→Bool} {M:Int} {L:List (Nat × Nat)} (I:LawI N κ mk M L s c) {j:Nat} (hj:j<16):c.markOf (j:Int)=mk j:=by
 obtain ⟨x,hx⟩:=I.has.cont.bget (k:=j) (by rw [I.has.geo.1];exact hj)
 rw [mark_at hx]
 exact I.mark j x hx
end Go.Proofs.YtoelopghilbfeaaGreat
namespace Go.Proofs.YtoelopghilbfeaaGreat
open Go.RowKit
set_option linter.unusedSimpArgs false
set_option linter.unusedVariables false
variable {s s':SM} {c c':CM}
def totI (f:Nat→Int):Nat→Int
 |0=>0
 |n+1=>totI f n+f n
theorem totI_step {f g:Nat→Int} {k:Nat} (n:Nat) (h1:∀ j,j≠k→g j=f j) (h2:g k≤f k+1):totI g n≤totI f n+1∧(n≤k→totI g n=totI f n):=by
 induction n with
 |zero=>exact ⟨by show (0:Int)≤0+1;omega,fun _=>rfl⟩
 |succ n ih =>
  obtain ⟨a,b⟩:=ih
  show totI g n+g n≤totI f n+f n+1∧(n+1≤k→totI g n+g n=totI f n+f n)
  by_cases e:n=k
  ·subst e
   have:=b (Nat.le_refl _)
   exact ⟨by omega,by omega⟩
  ·have:=h1 n e
   refine ⟨by omega,fun h=>?_⟩
   have:=b (by omega)
   omega
theorem totI_full {f:Nat→Int} {mk:Nat→Bool} (n:Nat) (h0:∀ j,0≤f j) (h:∀ j,j<n→mk j=false→f j=4):4 * ((n:Int) - mkTo mk n)≤totI f n:=by
 induction n with
 |zero=>show 4 * ((0:Int) - ((mkTo mk 0:Nat):Int))≤0;have:mkTo mk 0=0:=rfl;omega
 |succ n ih =>
  have:=ih fun j hj=>h j (by omega)
  show _≤totI f n+f n
  rw [mkTo_succ]
  cases hm:mk n with
  |true=>rw [if_pos rfl];have:=h0 n;omega
  |false=>rw [if_neg (by simp)];have:=h n (by omega) hm;omega
def cntTo (f:Nat→Bool) (n:Nat):Nat:=((List.range n).filter f).length
theorem cntTo_succ (f:Nat→Bool) (n:Nat):cntTo f (n+1)=if f n then cntTo f n+1 else cntTo f n:=mkTo_succ f n
theorem cntTo_flip {f g:Nat→Bool} {k:Nat} (n:Nat) (h1:∀ j,j<n→j≠k→g j=f j) (hf:f k=false) (hg:g k=true):cntTo g n=if k<n then cntTo f n+1 else cntTo f n:=by
 induction n with
 |zero=>rw [if_neg (by omega)];rfl
 |succ n ih0 =>
  have ih:=ih0 fun j hj=>h1 j (by omega)
  by_cases e:n=k
  ·subst e
   have ih':cntTo g n=cntTo f n:=by rw [ih,if_neg (by omega)]
   rw [cntTo_succ g,cntTo_succ f,hf,hg,ih',if_pos (show n<n+1 by omega)]
   simp
  ·by_cases e2:k<n
   ·have ih':cntTo g n=cntTo f n+1:=by rw [ih,if_pos e2]
    rw [cntTo_succ g,cntTo_succ f,h1 n (by omega) e,ih',if_pos (show k<n+1 by omega)]
    split <;> rfl
   ·have ih':cntTo g n=cntTo f n:=by rw [ih,if_neg e2]
    rw [cntTo_succ g,cntTo_succ f,h1 n (by omega) e,ih',if_neg (show ¬ k<n+1 by omega)]
theorem numsIf_len (f:Nat→Bool) (n:Nat):(numsIf f n).length=cntTo f n:=by unfold numsIf cntTo;rw [List.length_map]
theorem cntTo_blk (f:Nat→Bool) (k:Nat):cntTo f ((k+1) * 4)=cntTo f (k * 4)+cntTo (fun p=>f (k * 4+p)) 4:=by
 unfold cntTo
 rw [range_mul,List.filter_append,List.length_append,List.filter_map,List.length_map]
 rfl
theorem cntTo_le (f:Nat→Bool) (n m:Nat) (h:∀ j,j<n→f j=true→j<m):cntTo f n≤m:=by
 induction n with
 |zero=>exact Nat.zero_le _
 |succ n ih =>
  rw [cntTo_succ]
  have:=ih fun j hj=>h j (by omega)
  split
  ·next hf =>
   have h1:=h n (by omega) hf
   have h2:cntTo f n≤n:=by unfold cntTo;have:=List.length_filter_le f (List.range n);rw [List.length_range] at this;exact this
   omega
  ·exact this
theorem cntTo_none (f:Nat→Bool) (n:Nat) (h:∀ j,j<n→f j=false):cntTo f n=0:=by
 have:=cntTo_le f n 0 fun j hj ht=>by rw [h j hj] at ht;exact absurd ht (by simp)
 omega
theorem room_le (hC:Cont s c) (hB:s.B=16) (hP:s.P=4):roomS s c+cntTo (isN s) 64≤64:=by
 have hlen:(emptyL s c).length=cntTo (countB s c) 16:=by
  unfold emptyL orderW
  rw [sortK_len]
  unfold countTo cntTo
  rw [List.length_map]
  have:(countsL s c).length=16:=by unfold countsL;rw [List.length_map,List.length_range,hB]
  rw [this]
  congr 1
  refine List.filter_congr fun j hj=>?_
  have hj':=List.mem_range.1 hj
  unfold countsL
  rw [List.getD_eq_getElem?_getD,List.getElem?_map,List.getElem?_range (by omega)]
  rfl
 have key:∀ k:Nat,k≤16→(cntTo (isN s) (k * 4):Int)+4 * (cntTo (countB s c) k:Int)+(if s.op<k then leftI s c else 0)≤4 * k:=by
  intro k
  induction k with
  |zero =>
   intro _
   have h1:cntTo (isN s) (0 * 4)=0:=rfl
   have h2:cntTo (countB s c) 0=0:=rfl
   rw [h1,h2]
   split
   ·have:=hC.opb
    have:s.op=-1:=by omega
    unfold leftI
    rw [if_pos this]
    omega
   ·omega
  |succ k ih =>
   intro hk
   have IH:=ih (by omega)
   obtain ⟨x,hx⟩:=hC.bget (k:=k) (by omega)
   have hsh:=hC.shape k x hx
   have hiN:∀ p:Nat,isN s (k * 4+p)=(lookS s.hs ((k:Int) * s.P+p)).isSome:=by
    intro p;unfold isN;rw [hP,← nat_key]
   rw [cntTo_blk,cntTo_succ (countB s c) k]
   have hc1:cntTo (fun p=>isN s (k * 4+p)) 4≤x.next.toNat:=by
    refine cntTo_le _ 4 _ fun p hp ht=>?_
    rw [hiN] at ht
    cases e:lookS s.hs ((k:Int) * s.P+p) with
    |none=>rw [e] at ht;exact absurd ht (by simp)
    |some h=>have:=hC.below hx (by rw [hP];exact hp) e;omega
   have hn4:=hsh.2.2.1
   have hn0:=hsh.2.1
   cases hb:countB s c k with
   |true =>
    rw [if_pos rfl]
    obtain ⟨_,hnn,hop⟩:=(countB_iff hC hx).1 hb
    have hz:cntTo (fun p=>isN s (k * 4+p)) 4=0:=cntTo_none _ _ fun p hp=>by
     rw [hiN,hnn p (by rw [hP];exact hp)];rfl
    rw [hz]
    by_cases ho:s.op=(k:Int)
    ·have h0:leftI s c=0:=hop.resolve_left fun h=>h ho
     rw [if_neg (by omega)] at IH
     split <;> omega
    ·by_cases h1:s.op<(k:Int)
     ·rw [if_pos h1] at IH;rw [if_pos (by omega)];omega
     ·rw [if_neg h1] at IH;rw [if_neg (by omega)];omega
   |false =>
    rw [if_neg (by simp)]
    by_cases ho:s.op=(k:Int)
    ·have:=left_at hC ho hx
     rw [if_neg (by omega)] at IH
     rw [if_pos (by omega)]
     rw [hP] at this hn4
     omega
    ·rw [hP] at hn4
     by_cases h1:s.op<(k:Int)
     ·rw [if_pos h1] at IH;rw [if_pos (by omega)];omega
     ·rw [if_neg h1] at IH;rw [if_neg (by omega)];omega
 have K:=key 16 (Nat.le_refl _)
 have hop:=hC.opb
 rw [if_pos (by omega)] at K
 unfold roomS
 rw [hlen,hP]
 have e:(16 * 4:Nat)=64:=rfl
 rw [e] at K
 omega
theorem LawI.isN {N κ:Int} {mk:Nat→Bool} {M:Int} {L:List (Nat × Nat)} (I:LawI N κ mk M L s c) {m:Nat} (hm:m<64):isN s m=true↔∃ i,(m,i)∈L:=by
 unfold Go.Proofs.YtoelopghilbfeaaGreat.isN
 constructor
 ·intro h
  exact I.only m hm fun e=>by rw [e] at h;exact absurd h (by simp)
 ·rintro ⟨i,hi⟩
  rw [(I.has.has m i hi).2.1]
  rfl
structure PlI (n:Nat) (is:Nat→Bool) (at_:Nat→Nat) (left:Nat) (s:SM) (c:CM) (L:List (Nat × Nat)):Prop where
 law:LawI 1000000 2 (fun _=>false) (2 * n) L s c
 tot:totI (fun j=>c.nextOf j) 16≤n
 cnt:cntTo (Go.Proofs.YtoelopghilbfeaaGreat.isN s) 64=left
 iff:∀ p i,(p,i)∈L↔(p<64∧is p=true∧at_ p=i)
 small:∀ p i,(p,i)∈L→i<n
theorem LawI.next0 {N κ:Int} {mk:Nat→Bool} {M:Int} {L:List (Nat × Nat)} (I:LawI N κ mk M L s c) (j:Nat):0≤c.nextOf j:=by
 unfold CM.nextOf
 rw [blk_at]
 cases h:c.blocks[j]? with
 |none=>exact Int.le_refl _
 |some x=>exact (I.has.cont.shape j x h).2.1
def updF {α:Type} (f:Nat→α) (p:Nat) (x:α):Nat→α:=fun q=>if q=p then x else f q
theorem PlI.put {n:Nat} {is:Nat→Bool} {at_:Nat→Nat} {left:Nat} {L:List (Nat × Nat)} (I:PlI n is at_ left s c L) (hn:n<64) :
  ∃ p:Nat,(putA s c (hdK 2 n) (fillL n 128)).2.2=((p:Int),0)∧p<64∧is p=false∧roomS (putA s c (hdK 2 n) (fillL n 128)).1 (putA s c (hdK 2 n) (fillL n 128)).2.1+left+1≤64 ∧
   PlI (n+1) (updF is p true) (updF at_ p n) (left+1) (putA s c (hdK 2 n) (fillL n 128)).1 (putA s c (hdK 2 n) (fillL n 128)).2.1 ((p,n)::L):=by
 obtain ⟨hI,htot,hcnt,hiff,hsm⟩:=I
 rcases hI.put (by omega) (i:=n) (by omega) (Or.inr rfl) with ⟨_,hf⟩ | ⟨p,e1,e2,e3,e4,e5,e6,e7,_⟩
 ·have h1:=totI_full (f:=fun j=>c.nextOf j) (mk:=fun _=>false) 16 (fun j=>hI.next0 j) fun j hj hm=>(hf j hj hm).1
  rw [mkTo_zero (fun _=>rfl)] at h1
  omega
 ·generalize putA s c (hdK 2 n) (fillL n 128)=r at *
  have hpn:Go.Proofs.YtoelopghilbfeaaGreat.isN s p=false:=by unfold Go.Proofs.YtoelopghilbfeaaGreat.isN;rw [e3];rfl
  have hnL:∀ i,(p,i) ∉ L:=fun i h=>by have:=(hI.isN e2).2 ⟨i,h⟩;rw [hpn] at this;exact absurd this (by simp)
  have hisp:is p=false:=by
   cases h:is p with
   |false=>rfl
   |true=>exact absurd ((hiff p (at_ p)).2 ⟨e2,h,rfl⟩) (hnL _)
  have e5':LawI 1000000 2 (fun _=>false) (2 * ((n+1:Nat):Int)) ((p,n)::L) r.1 r.2.1:=by
   have e:2 * ((n+1:Nat):Int)=2 * (n:Int)+2:=by omega
   rw [e];exact e5
  have hcnt':cntTo (Go.Proofs.YtoelopghilbfeaaGreat.isN r.1) 64=left+1:=by
   have:=cntTo_flip (f:=Go.Proofs.YtoelopghilbfeaaGreat.isN s) (g:=Go.Proofs.YtoelopghilbfeaaGreat.isN r.1) (k:=p) 64 (fun j hj hne=>by
    rw [Bool.eq_iff_iff,e5.isN hj,hI.isN hj]
    constructor
    ·rintro ⟨i,hi⟩
     rcases List.mem_cons.1 hi with h | h
     ·injection h with h1 h2;exact absurd h1 hne
     ·exact ⟨i,h⟩
    ·rintro ⟨i,hi⟩
     exact ⟨i,List.mem_cons_of_mem _ hi⟩) hpn ((e5.isN e2).2 ⟨n,List.mem_cons_self⟩)
   rw [this,if_pos e2,hcnt]
  refine ⟨p,e1,e2,hisp,?_,e5',?_,hcnt',?_,fun q i h=>by
   rcases List.mem_cons.1 h with h | h
   ·injection h with h1 h2;omega
   ·have:=hsm q i h;omega⟩
  ·have:=room_le e5.has.cont e5.has.geo.1 e5.has.geo.2.1
   rw [hcnt'] at this
   omega
  ·have:=(totI_step (f:=fun j=>c.nextOf (j:Nat)) (g:=fun j=>r.2.1.nextOf (j:Nat)) (k:=p / 4) 16 (fun j hj=>e6 j hj) e7).1
   show totI (fun j=>r.2.1.nextOf (j:Nat)) 16≤((n+1:Nat):Int)
   omega
  ·intro q i
   unfold updF
   by_cases e:q=p
   ·subst e
    rw [if_pos rfl,if_pos rfl]
    constructor
    ·intro h
     rcases List.mem_cons.1 h with h | h
     ·injection h with h1 h2;exact ⟨e2,rfl,h2.symm⟩
     ·exact absurd h (hnL i)
    ·rintro ⟨_,_,h⟩
     rw [h]
     exact List.mem_cons_self
   ·rw [if_neg e,if_neg e,← hiff q i]
    constructor
    ·intro h
     rcases List.mem_cons.1 h with h | h
     ·injection h with h1 h2;exact absurd h1 e
     ·exact h
    ·exact fun h=>List.mem_cons_of_mem _ h
theorem PlI.drop {n:Nat} {is:Nat→Bool} {at_:Nat→Nat} {left:Nat} {L:List (Nat × Nat)} (I:PlI n is at_ (left+1) s c L) {p:Nat} (hp:p<64) (his:is p=true) :
  (dropS s p).2=0∧PlI n (updF is p false) at_ left (dropS s p).1 c (L.filter fun q=>decide (q.1≠p)):=by
 obtain ⟨hI,htot,hcnt,hiff,hsm⟩:=I
 have hmem:=(hiff p (at_ p)).2 ⟨hp,his,rfl⟩
 obtain ⟨d1,d2⟩:=hI.drop hmem
 have hgone:Go.Proofs.YtoelopghilbfeaaGreat.isN (dropS s p).1 p=false:=by
  cases h:Go.Proofs.YtoelopghilbfeaaGreat.isN (dropS s p).1 p with
  |false=>rfl
  |true =>
   obtain ⟨i,hi⟩:=(d2.isN hp).1 h
   have:=(List.mem_filter.1 hi).2
   simp at this
 have hcnt':=cntTo_flip (f:=Go.Proofs.YtoelopghilbfeaaGreat.isN (dropS s p).1) (g:=Go.Proofs.YtoelopghilbfeaaGreat.isN s) (k:=p) 64 (fun j hj hne=>by
  rw [Bool.eq_iff_iff,d2.isN hj,hI.isN hj]
  constructor
  ·rintro ⟨i,hi⟩
   exact ⟨i,List.mem_filter.2 ⟨hi,by simpa using hne⟩⟩
  ·rintro ⟨i,hi⟩
   exact ⟨i,(List.mem_filter.1 hi).1⟩) hgone ((hI.isN hp).2 ⟨_,hmem⟩)
 rw [if_pos hp,hcnt] at hcnt'
 refine ⟨d1,d2,htot,by omega,?_,fun q i h=>hsm q i (List.mem_filter.1 h).1⟩
 intro q i
 unfold updF
 rw [List.mem_filter,hiff q i]
 by_cases e:q=p
 ·subst e
  simp
 ·rw [if_neg e]
  simp [e]
theorem LawI.neededLen {N κ:Int} {mk:Nat→Bool} {M:Int} {L:List (Nat × Nat)} (I:LawI N κ mk M L s c):(neededS s).length=cntTo (Go.Proofs.YtoelopghilbfeaaGreat.isN s) 64:=by
 rw [needed_eq I.has.cont,numsIf_len,I.has.geo.1,I.has.geo.2.1]
end Go.Proofs.YtoelopghilbfeaaGreat
namespace Go.Proofs.YtoelopghilbfeaaGreat
open Go.RowKit
set_option linter.unusedSimpArgs false
set_option linter.unusedVariables false
variable {s s':SM} {c c':CM}
structure SeI (mk:Nat→Bool) (n:Nat) (s:SM) (c:CM) (L:List (Nat × Nat)):Prop where
 law:LawI 1000000 1 mk (2 * n) L s c
 tot:totI (fun j=>c.nextOf j) 16≤n
 um:∀ p i,(p,i)∈L→mk (p / 4)=false
theorem SeI.put {mk:Nat→Bool} {n:Nat} {L:List (Nat × Nat)} (I:SeI mk n s c L) (hn:n≤48) (hmk:mkTo mk 16≤3) :
  ∃ p:Nat,(putA s c (hdK 1 n) (fillL n 128)).2.2=((p:Int),0)∧p<64∧mk (p / 4)=false ∧
   SeI mk (n+1) (putA s c (hdK 1 n) (fillL n 128)).1 (putA s c (hdK 1 n) (fillL n 128)).2.1 ((p,n)::L) ∧
   (dropS (putA s c (hdK 1 n) (fillL n 128)).1 p).2=0∧SeI mk (n+1) (dropS (putA s c (hdK 1 n) (fillL n 128)).1 p).1 (putA s c (hdK 1 n) (fillL n 128)).2.1 (((p,n)::L).filter fun q=>decide (q.1≠p)):=by
 obtain ⟨hI,htot,hum⟩:=I
 rcases hI.put (by omega) (i:=n) (by omega) (Or.inl rfl) with ⟨_,hf⟩ | ⟨p,e1,e2,e3,e4,e5,e6,e7,_⟩
 ·have h1:=totI_full (f:=fun j=>c.nextOf j) (mk:=mk) 16 (fun j=>hI.next0 j) fun j hj hm=>(hf j hj hm).1
  omega
 ·generalize putA s c (hdK 1 n) (fillL n 128)=r at *
  have e5':LawI 1000000 1 mk (2 * ((n+1:Nat):Int)) ((p,n)::L) r.1 r.2.1:=by
   have e:2 * ((n+1:Nat):Int)=2 * (n:Int)+2:=by omega
   rw [e];exact e5
  have ht:totI (fun j=>r.2.1.nextOf j) 16≤((n+1:Nat):Int):=by
   have:=(totI_step (f:=fun j=>c.nextOf (j:Nat)) (g:=fun j=>r.2.1.nextOf (j:Nat)) (k:=p / 4) 16 (fun j hj=>e6 j hj) e7).1
   omega
  have hu:∀ q i,(q,i)∈(p,n)::L→mk (q / 4)=false:=by
   intro q i h
   rcases List.mem_cons.1 h with h | h
   ·injection h with h1 h2;rw [h1];exact e4
   ·exact hum q i h
  obtain ⟨d1,d2⟩:=e5'.drop (n:=p) (i:=n) List.mem_cons_self
  exact ⟨p,e1,e2,e4,⟨e5',ht,hu⟩,d1,⟨d2,ht,fun q i h=>hu q i (List.mem_filter.1 h).1⟩⟩
def seaL (s:SM) (c:CM):List Nat:=(List.range s.B).filter (sealB s c)
theorem pagesOf_cnt (hC:Cont s c) (hP:s.P=4) {k:Nat} (hk:k<s.B):(pagesOf s k).length=cntTo (fun p=>isN s (k * 4+p)) 4:=by
 rw [pagesOf_eq hC hk,List.length_map,hP]
 rfl
theorem pages_needed (hC:Cont s c) (k:Nat):(pagesOf s k).length=(Yneeded s.y k).length:=by unfold pagesOf;rw [List.length_map]
theorem sealB_iff {k:Nat} {x:CB} (hx:c.blocks[k]?=some x):sealB s c k=true↔x.mark=false∧0<(Yneeded s.y k).length∧(s.op≠(k:Int)∨leftI s c=0):=by
 unfold sealB
 rw [mark_at hx]
 simp only [Bool.and_eq_true,Bool.not_eq_true',Bool.or_eq_true,decide_eq_true_eq,ne_eq]
 rw [show ((k:Int)=s.op)=(s.op=(k:Int)) from propext ⟨Eq.symm,Eq.symm⟩]
def allTo (s:SM) (l:List Nat):Nat:=(l.map fun j:Nat=>(pagesOf s (j:Int)).length).sum
theorem allTo_snoc (s:SM) (l:List Nat) (j:Nat):allTo s (l++[j])=allTo s l+(pagesOf s (j:Int)).length:=by
 unfold allTo
 rw [List.map_append,List.sum_append]
 simp
theorem SeI.left {mk:Nat→Bool} {n:Nat} {L:List (Nat × Nat)} (I:SeI mk n s c L):allTo s (seaL s c)≤(neededS s).length∧(neededS s).length≤allTo s (seaL s c)+4:=by
 obtain ⟨hI,htot,hum⟩:=I
 have hC:=hI.has.cont
 have hB:=hI.has.geo.1
 have hP:=hI.has.geo.2.1
 have key:∀ k:Nat,k≤16→allTo s ((List.range k).filter (sealB s c))≤cntTo (isN s) (k * 4)∧cntTo (isN s) (k * 4)≤allTo s ((List.range k).filter (sealB s c))+(if s.op<k then 4 else 0):=by
  intro k
  induction k with
  |zero=>intro _;exact ⟨Nat.le_refl _,by show 0≤_;omega⟩
  |succ k ih =>
   intro hk
   have IH:=ih (by omega)
   obtain ⟨x,hx⟩:=hC.bget (k:=k) (by omega)
   have hlen:=pagesOf_cnt hC hP (k:=k) (by omega)
   rw [cntTo_blk,filter_snoc,← hlen]
   cases hb:sealB s c k with
   |true =>
    rw [if_pos rfl,allTo_snoc]
    refine ⟨by omega,?_⟩
    by_cases h1:s.op<(k:Int)
    ·rw [if_pos h1] at IH;rw [if_pos (by omega)];omega
    ·rw [if_neg h1] at IH;omega
   |false =>
    rw [if_neg (by simp)]
    by_cases ho:s.op=(k:Int)
    ·have h4:cntTo (fun p=>isN s (k * 4+p)) 4≤4:=cntTo_le _ 4 4 fun j hj _=>hj
     rw [if_neg (by omega)] at IH
     rw [if_pos (by omega)]
     omega
    ·have hz:(pagesOf s k).length=0:=by
      refine Classical.byContradiction fun hne=>?_
      have hnp:0<(Yneeded s.y k).length:=by rw [← pages_needed hC];omega
      have hm:x.mark=true:=by
       cases hm:x.mark with
       |true=>rfl
       |false=>exact absurd ((sealB_iff hx).2 ⟨hm,hnp,Or.inl ho⟩) (by rw [hb];simp)
      have:noneed s k:=by
       intro q hq
       rw [hP] at hq ⊢
       refine Classical.byContradiction fun hl=>?_
       rw [← nat_key] at hl
       obtain ⟨i,hi⟩:=hI.only (k * 4+q) (by omega) hl
       have h1:=hum _ _ hi
       rw [show (k * 4+q) / 4=k by omega,← hI.mark k x hx,hm] at h1
       exact absurd h1 (by simp)
      rw [(hC.needed_nil (by omega)).2 this] at hnp
      exact absurd hnp (by simp)
     rw [hz]
     refine ⟨by omega,?_⟩
     by_cases h1:s.op<(k:Int)
     ·rw [if_pos h1] at IH;rw [if_pos (by omega)];omega
     ·rw [if_neg h1] at IH;omega
 obtain ⟨k1,k2⟩:=key 16 (Nat.le_refl _)
 have hop:=hC.opb
 rw [if_pos (by omega)] at k2
 rw [hI.neededLen]
 have e:seaL s c=(List.range 16).filter (sealB s c):=by unfold seaL;rw [hB]
 rw [e]
 exact ⟨k1,k2⟩
end Go.Proofs.YtoelopghilbfeaaGreat
