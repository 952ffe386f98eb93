/-
  Chapter 16, plain: what holds ahead of each act, and behind it.
-/
import Derived.Test.YtoelopghilbfeaaGreatMoA
namespace Go.Proofs.YtoelopghilbfeaaGreat
open Go.RowKit
set_option linter.unusedSimpArgs false
set_option linter.unusedVariables false
structure ScI (f:Nat→Pg) (q:Int) (s:SM) (c:CM):Prop where
 cont:Cont s c
 geo:s.B=16∧s.P=4∧s.Z=128
 mis:c.misuse=0
 live:c.on=true→Live s c
 need:∀ n:Nat,(f n).need=true→n<64∧lookS s.hs (n:Int)=some (f n).h
 val:∀ (n:Nat) v,n<64→c.vAt (n / 4) (n % 4)=some v→v=(fillL (f n).n 128,(f n).h)
 only:c.on=true→∀ n:Nat,n<64→(f n).need=false→lookS s.hs (n:Int)=none
 seqs:∀ n:Nat,(f n).h.s≤q
structure ScD (f:Nat→Pg) (last:Pg) (q:Int) (c:CM):Prop where
 geo:c.blocks.length=16∧c.P=4∧c.Z=128
 shape:∀ (k:Nat) (x:CB),c.blocks[k]?=some x→x.shape c.P c.Z
 mis:c.misuse=0
 ln:last.need=false
 need:∀ n:Nat,(f n).need=true→n<64∧c.vAt (n / 4) (n % 4)=some (fillL (f n).n 128,(f n).h)
 val:∀ (n:Nat) v,n<64→c.vAt (n / 4) (n % 4)=some v→v=(fillL (f n).n 128,(f n).h)∨((f n).need=false∧v=(fillL last.n 128,last.h))
 seqs:∀ n:Nat,(f n).h.s≤q
 last:last.h.s≤q∧(last.h.k=0∨∀ n:Nat,(f n).h.s<last.h.s)
theorem readF_may {raw d:List UInt8} {h:Hd} (e:readF raw=some (d,h)):h.may=true:=by
 unfold readF at e
 split at e
 ·next hc =>
  injection e with e
  injection e with _ e
  rw [← e]
  exact hc.2.1
 ·exact absurd e (by simp)
theorem vAt_may {c:CM} {k p:Nat} {d:List UInt8} {h:Hd} (e:c.vAt k p=some (d,h)):h.may=true:=by
 unfold CM.vAt at e
 cases e2:c.pgAt k p with
 |none=>rw [e2] at e;exact absurd e (by simp)
 |some raw=>rw [e2] at e;exact readF_may e
theorem may_k {h:Hd} (e:h.may=true):h.k≠0:=by
 intro hk
 unfold Hd.may at e
 rw [hk] at e
 simp at e
theorem sc_page {f:Nat→Pg} {q:Int} {s:SM} {c:CM} (I:ScI f q s c) {n:Nat} {h:Hd} (hn:n<64) (hl:lookS s.hs (n:Int)=some h):c.vAt (n / 4) (n % 4)=some (fillL (f n).n 128,(f n).h)∧h=(f n).h:=by
 have e:((n / 4:Nat):Int) * (s.P:Int)+((n % 4:Nat):Int)=n:=by rw [I.geo.2.1,← nat_key,nat_split]
 rw [← e] at hl
 have hB:=I.geo.1
 have hP:=I.geo.2.1
 obtain ⟨d,hv⟩:=I.cont.page (n / 4) (n % 4) h (by omega) (by omega) hl
 have:=I.val n _ hn hv
 rw [this] at hv
 injection this with h1 h2
 exact ⟨hv,h2⟩
theorem ScI.toD {f:Nat→Pg} {q:Int} {s:SM} {c:CM} (I:ScI f q s c) (hq:0≤q):ScD f Pg.zero q c:=by
 refine ⟨⟨I.cont.B.trans I.geo.1,I.cont.P.trans I.geo.2.1,I.cont.Z.trans I.geo.2.2⟩,fun k x h=>by rw [I.cont.P,I.cont.Z];exact I.cont.shape k x h,I.mis,rfl,fun n hn=>?_,fun n v hn hv=>Or.inl (I.val n v hn hv),I.seqs,hq,Or.inl rfl⟩
 obtain ⟨h1,h2⟩:=I.need n hn
 exact ⟨h1,(sc_page I h1 h2).1⟩
theorem ScD.lost {f:Nat→Pg} {last:Pg} {q:Int} {c:CM} (D:ScD f last q c) (hpl:planB c.blocks.length c.P c.Z=true) (hah:ahead c<25) :
  Reads c (lostN 25 c).2∧∃ t,(lostN 25 c).1=some t∧FdHyp f last t (lostN 25 c).2∧Live t (lostN 25 c).2∧∀ n:Nat,n<64→lookS t.hs (n:Int)=((lostN 25 c).2.vAt (n / 4) (n % 4)).map (·.2):=by
 obtain ⟨r1,t,r2,r3,r4,r5,r6,r7,r8,r9⟩:=lostN_spec 25 c hpl D.shape hah
 have hB:=D.geo.1
 have hP:=D.geo.2.1
 have hlk:∀ n:Nat,n<64→lookS t.hs (n:Int)=(c.vAt (n / 4) (n % 4)).map (·.2):=by
  intro n hn
  have:=r9 (n / 4) (n % 4) (by omega) (by omega)
  rw [hP,← nat_key,nat_split] at this
  exact this
 refine ⟨r1,t,r2,⟨r3,⟨by omega,by omega,by rw [r8,D.geo.2.2]⟩,D.ln,?_,?_⟩,r4,fun n hn=>by rw [r1.vAt];exact hlk n hn⟩
 ·intro n h hn hl
  have hl':=hl
  rw [hlk n hn] at hl'
  cases hv:c.vAt (n / 4) (n % 4) with
  |none=>rw [hv] at hl';exact absurd hl' (by simp)
  |some v =>
   rw [hv,Option.map_some] at hl'
   injection hl' with hl'
   obtain ⟨d,h'⟩:=v
   have hl2:h'=h:=hl'
   subst hl2
   rw [r1.vAt,hv]
   have hmay:=vAt_may hv
   by_cases hc:(f n).need=false∧h'=last.h
   ·rw [fnd_yes hl hc]
    refine ⟨hc.2,?_⟩
    rcases D.val n _ hn hv with h1 | ⟨_,h1⟩
    ·injection h1 with h1 h2
     exfalso
     rcases D.last.2 with h3 | h3
     ·rw [hc.2] at hmay;exact may_k hmay h3
     ·have:=h3 n
      rw [← h2,hc.2] at this
      omega
    ·injection h1 with h1 h2
     rw [h1]
   ·rw [fnd_no hl hc]
    rcases D.val n _ hn hv with h1 | ⟨h0,h1⟩
    ·injection h1 with h1 h2
     rw [← h2]
     exact ⟨rfl,by rw [h1]⟩
    ·injection h1 with h1 h2
     exact absurd ⟨h0,h2⟩ hc
 ·intro n _ hn
  obtain ⟨h1,h2⟩:=D.need n hn
  refine ⟨h1,?_⟩
  unfold isN
  rw [hlk n h1,h2]
  rfl
theorem sc_found {f:Nat→Pg} {last:Pg} {q:Int} {t t':SM} {c c':CM} (F:FdHyp f last t c) (hmis:c.misuse=0) (hall:∀ n:Nat,n<64→lookS t.hs (n:Int)=(c.vAt (n / 4) (n % 4)).map (·.2)) (hL:Live t c) (h64:∀ n:Nat,(f n).need=true→n<64) (hsq:∀ n:Nat,(f n).h.s≤q) (hlq:last.h.s≤q)
  (g1:Reads c c') (g2:Cont t' c') (g3:t'.B=16∧t'.P=4∧t'.Z=128) (g4:Live t c→c'.on=true→Live t' c') (g6:∀ n:Nat,(f n).need=true→lookS t'.hs (n:Int)=lookS t.hs (n:Int)) (g7:c'.on=true→∀ n:Nat,n<64→(f n).need=false→lookS t'.hs (n:Int)=none) :
  ScI (fnd f t last) q t' c':=by
 have hn:=fnd_need (f:=f) (t:=t) F.ln
 refine ⟨g2,g3,g1.mis.trans hmis,g4 hL,?_,?_,?_,?_⟩
 ·intro n h
  rw [hn] at h
  by_cases hn2:n<256
  ·obtain ⟨h1,h2⟩:=F.need n hn2 h
   refine ⟨h1,?_⟩
   rw [g6 n h]
   cases e:lookS t.hs (n:Int) with
   |none=>unfold isN at h2;rw [e] at h2;exact absurd h2 (by simp)
   |some x=>rw [(F.some n x h1 e).1]
  ·have:=h64 n h
   omega
 ·intro n v hn2 hv
  rw [g1.vAt] at hv
  have:=hall n hn2
  rw [hv,Option.map_some] at this
  obtain ⟨a,b⟩:=F.some n _ hn2 this
  rw [hv] at b
  injection b with b
  rw [b,a]
 ·intro hon n h1 h2
  rw [hn] at h2
  exact g7 hon n h1 h2
 ·intro n
  unfold fnd
  split
  ·split
   ·exact hlq
   ·exact hsq n
  ·exact hsq n
theorem ScI.reads {f:Nat→Pg} {q:Int} {s:SM} {c c':CM} (I:ScI f q s c) (g:Reads c c') (hon:c'.on=true→c.on=true):ScI f q s c' :=
 ⟨I.cont.reads g,I.geo,g.mis.trans I.mis,fun h=>g.live (I.live (hon h)) h,I.need,fun n v h1 h2=>I.val n v h1 (by rw [← g.vAt];exact h2),fun h=>I.only (hon h),I.seqs⟩
theorem ScI.up {f:Nat→Pg} {q q':Int} {s:SM} {c:CM} (I:ScI f q s c) (h:q≤q'):ScI f q' s c:={ I with seqs:=fun n=>Int.le_trans (I.seqs n) h }
theorem ScI.needed {f:Nat→Pg} {q:Int} {s:SM} {c:CM} (I:ScI f q s c) (hon:c.on=true):neededS s=numsIf (fun j=>(f j).need) 256:=by
 rw [needed_eq I.cont,I.geo.1,I.geo.2.1]
 have h1:numsIf (isN s) 64=numsIf (fun j=>(f j).need) 64:=by
  unfold numsIf
  congr 1
  refine List.filter_congr fun n hn=>?_
  have hn:=List.mem_range.1 hn
  cases h:(f n).need with
  |true=>unfold isN;rw [(I.need n h).2];rfl
  |false=>unfold isN;rw [I.only hon n hn h];rfl
 have h2:∀ k:Nat,numsIf (fun j=>(f j).need) (64+k)=numsIf (fun j=>(f j).need) 64:=by
  intro k
  induction k with
  |zero=>rfl
  |succ k ih =>
   rw [show 64+(k+1)=(64+k)+1 by omega,numsIf_succ,if_neg,ih]
   intro h
   have:=(I.need _ h).1
   omega
 rw [show (16 * 4:Nat)=64 from rfl,h1]
 exact (h2 192).symm
theorem ScI.drop {f:Nat→Pg} {q:Int} {s:SM} {c:CM} (I:ScI f q s c) {p:Nat} (hp:(f p).need=true):(dropS s p).2=0∧ScI (updF f p { f p with need:=false }) q (dropS s p).1 c:=by
 obtain ⟨h1,h2⟩:=I.need p hp
 have hB:=I.geo.1
 have hP:=I.geo.2.1
 have hl3:lookS s.hs ((p / 4:Nat) * (s.P:Int)+(p % 4:Nat))=some (f p).h:=by rw [hP,← nat_key,nat_split];exact h2
 obtain ⟨d1,d2,d3,d4,d5,d6,d7,d8⟩:=drop_spec I.cont (k:=p / 4) (p:=p % 4) (by omega) (by omega) hl3
 rw [hP,← nat_key,nat_split] at d1 d2 d3 d4 d5 d6 d7 d8
 have hu:∀ n:Nat,(updF f p { f p with need:=false } n).h=(f n).h∧(updF f p { f p with need:=false } n).n=(f n).n∧((updF f p { f p with need:=false } n).need=true↔n≠p∧(f n).need=true):=by
  intro n
  unfold updF
  by_cases e:n=p
  ·rw [if_pos e,e];simp
  ·rw [if_neg e];simp [e]
 refine ⟨d1,d2,⟨d4.trans hB,d5,d6.trans I.geo.2.2⟩,I.mis,fun h=>d3 (I.live h),?_,?_,?_,?_⟩
 ·intro n hn
  obtain ⟨a,b⟩:=(hu n).2.2.1 hn
  obtain ⟨e1,e2⟩:=I.need n b
  rw [d8,if_neg (by omega),(hu n).1]
  exact ⟨e1,e2⟩
 ·intro n v hn hv
  rw [(hu n).1,(hu n).2.1]
  exact I.val n v hn hv
 ·intro hon n hn hnn
  rw [d8]
  split
  ·rfl
  ·next e =>
   refine I.only hon n hn ?_
   cases h:(f n).need with
   |false=>rfl
   |true =>
    have:=(hu n).2.2.2 ⟨fun e2=>e (by rw [e2]),h⟩
    rw [this] at hnn
    exact absurd hnn (by simp)
 ·intro n;rw [(hu n).1];exact I.seqs n
theorem ScI.put {f:Nat→Pg} {q:Int} {s:SM} {c:CM} (I:ScI f q s c) (hon:c.on=true) {h:Hd} {n:Int} (hm:h.may=true) (hi:HdIn h) (hs:h.s=q+1) :
  ((putA s c h (fillL n 128)).2.2.2=0∧(putA s c h (fillL n 128)).2.1.on=true∧∃ p:Nat,p<64∧(putA s c h (fillL n 128)).2.2.1=p∧(f p).need=false∧ScI (updF f p ⟨h,n,true⟩) (q+1) (putA s c h (fillL n 128)).1 (putA s c h (fillL n 128)).2.1) ∨
  ((putA s c h (fillL n 128)).2.2.2=7∧(putA s c h (fillL n 128)).2.1.on=true∧ScI f (q+1) (putA s c h (fillL n 128)).1 (putA s c h (fillL n 128)).2.1) ∨
  ((putA s c h (fillL n 128)).2.2.2=4∧(putA s c h (fillL n 128)).2.1.on=false∧ScD f ⟨h,n,false⟩ (q+1) (putA s c h (fillL n 128)).2.1):=by
 have hB:=I.geo.1
 have hP:=I.geo.2.1
 have hZ:=I.geo.2.2
 have R:=putA_spec I.cont (I.live hon) hm hi (d:=fillL n 128) (by rw [hZ];exact fillL_len _)
 generalize putA s c h (fillL n 128)=r at R ⊢
 have hgeo:r.1.B=16∧r.1.P=4∧r.1.Z=128:=⟨R.B.trans hB,R.P.trans hP,R.Z.trans hZ⟩
 have hkeep:∀ m:Nat,(f m).need=true→r.2.1.vAt (m / 4) (m % 4)=c.vAt (m / 4) (m % 4):=by
  intro m hm2
  obtain ⟨h1,h2⟩:=I.need m hm2
  exact R.keep (m / 4) (m % 4) (f m).h (by omega) (by omega) (by rw [hP,← nat_key,nat_split];exact h2)
 rcases R.way with ⟨w1,w2,k,p,w3,w4,w5,w6,w7,w8,w9,w10⟩ | ⟨w1,w2,w3,w4⟩ | ⟨w1,w2,w3,_,w4⟩
 ·refine Or.inl ⟨w1,w2.on,k * 4+p,by omega,by rw [w5,hP,← nat_key],?_,?_⟩
  ·rw [hP,← nat_key] at w6
   cases e:(f (k * 4+p)).need with
   |false=>rfl
   |true=>rw [(I.need _ e).2] at w6;exact absurd w6 (by simp)
  ·have hk4:p<4:=by omega
   have e1:(k * 4+p) / 4=k:=by omega
   have e2:(k * 4+p) % 4=p:=by omega
   rw [hP,← nat_key] at w6 w7
   have hlk:∀ m,lookS r.1.hs m=if m=((k * 4+p:Nat):Int) then some h else lookS s.hs m:=by
    intro m;rw [w7];exact lookS_put h m w6
   refine ⟨R.cont,hgeo,R.mis.trans I.mis,fun _=>w2,?_,?_,?_,?_⟩
   ·intro m hm2
    unfold updF at hm2 ⊢
    by_cases e:m=k * 4+p
    ·rw [if_pos e,hlk,if_pos (by omega)]
     exact ⟨by omega,rfl⟩
    ·rw [if_neg e] at hm2 ⊢
     obtain ⟨a,b⟩:=I.need m hm2
     rw [hlk,if_neg (by omega)]
     exact ⟨a,b⟩
   ·intro m v hm2 hv
    unfold updF
    by_cases e:m=k * 4+p
    ·rw [if_pos e]
     rw [e,e1,e2,w9] at hv
     injection hv with hv
     exact hv.symm
    ·rw [if_neg e]
     rcases w10 _ _ _ hv with ⟨a,b⟩ | a
     ·omega
     ·exact I.val m v hm2 a
   ·intro _ m hm2 hmn
    unfold updF at hmn
    by_cases e:m=k * 4+p
    ·rw [if_pos e] at hmn;exact absurd hmn (by simp)
    ·rw [if_neg e] at hmn
     rw [hlk,if_neg (by omega)]
     exact I.only hon m hm2 hmn
   ·intro m
    unfold updF
    split
    ·show h.s≤q+1;omega
    ·have:=I.seqs m;omega
 ·refine Or.inr (Or.inl ⟨w1,w2.on,R.cont,hgeo,R.mis.trans I.mis,fun _=>w2,?_,?_,?_,?_⟩)
  ·rw [w3];exact I.need
  ·exact fun m v hm2 hv=>I.val m v hm2 (w4 _ _ _ hv)
  ·rw [w3];exact fun _=>I.only hon
  ·intro m;have:=I.seqs m;omega
 ·refine Or.inr (Or.inr ⟨w1,w2,⟨R.cont.B.trans hgeo.1,R.cont.P.trans hgeo.2.1,R.cont.Z.trans hgeo.2.2⟩,fun k x hx=>by rw [R.cont.P,R.cont.Z];exact R.cont.shape k x hx,R.mis.trans I.mis,rfl,?_,?_,?_,?_⟩)
  ·intro m hm2
   obtain ⟨h1,h2⟩:=I.need m hm2
   rw [hkeep m hm2]
   exact ⟨h1,(sc_page I h1 h2).1⟩
  ·intro m v hm2 hv
   rcases w4 _ _ _ hv with a | ⟨_,_,a,b⟩
   ·exact Or.inl (I.val m v hm2 a)
   ·refine Or.inr ⟨?_,b⟩
    rw [hP,← nat_key,nat_split] at a
    cases e:(f m).need with
    |false=>rfl
    |true=>rw [(I.need _ e).2] at a;exact absurd a (by simp)
  ·intro m;have:=I.seqs m;omega
  ·refine ⟨by show h.s≤q+1;omega,Or.inr fun m=>?_⟩
   have:=I.seqs m
   show (f m).h.s<h.s
   omega
theorem ScI.dead {f:Nat→Pg} {q:Int} {s:SM} {c:CM} (I:ScI f q s c) {last:Pg} (hl:last.need=false) (hs:last.h.s=q+1):ScD f last (q+1) c:=by
 refine ⟨⟨I.cont.B.trans I.geo.1,I.cont.P.trans I.geo.2.1,I.cont.Z.trans I.geo.2.2⟩,fun k x h=>by rw [I.cont.P,I.cont.Z];exact I.cont.shape k x h,I.mis,hl,fun n hn=>?_,fun n v hn hv=>Or.inl (I.val n v hn hv),fun n=>by have:=I.seqs n;omega,by omega,Or.inr fun n=>by have:=I.seqs n;omega⟩
 obtain ⟨h1,h2⟩:=I.need n hn
 exact ⟨h1,(sc_page I h1 h2).1⟩
theorem nextY_geo (s:SM) (k:Int):(nextY s k).B=s.B:=rfl
theorem putL_sim (h:Hd) (raw:List UInt8):∀ (n:Nat) (s:SM) (c:CM),s.B≤16→c.Sim (putL h raw n s c).2.1 (35 * n):=by
 intro n
 induction n with
 |zero=>intro s c _;exact CM.Sim.refl c
 |succ n ih =>
  intro s c hB
  have ht:=takeT_geo s c
  have ht2:=ht.2.1
  have htB:=ht.1.1
  rw [putL]
  split
  ·exact ht2.mono (by omega)
  ·generalize takeT s c=r at *
   obtain ⟨s1,c1,k1⟩:=r
   dsimp only at ht2 htB ⊢
   have hp:=progI_sim c1 s1.op (Ynext s1.y s1.op).2.1 raw
   generalize progI c1 s1.op (Ynext s1.y s1.op).2.1 raw=q at *
   obtain ⟨c2,k2⟩:=q
   dsimp only at hp
   unfold putM
   split
   ·exact (ht2.trans hp).mono (by omega)
   ·split
    ·have hg:=giveI_sim (nextY s1 s1.op) c2 s1.op
     split
     ·exact ((ht2.trans hp).trans hg.1).mono (by omega)
     ·have:=ih (giveI (nextY s1 s1.op) c2 s1.op).1 (giveI (nextY s1 s1.op) c2 s1.op).2.1 (by rw [hg.2,nextY_geo,htB];exact hB)
      exact (((ht2.trans hp).trans hg.1).trans this).mono (by omega)
    ·exact (ht2.trans hp).mono (by omega)
theorem ScI.putAll {f:Nat→Pg} {q:Int} {s:SM} {c:CM} (I:ScI f q s c) {h:Hd} {n:Int} (hm:h.may=true) (hi:HdIn h) (hs:h.s=q+1) :
  ((putA s c h (fillL n 128)).2.1.ms=c.ms∧(putA s c h (fillL n 128)).2.1.ops≤c.ops+1000) ∧
  (((putA s c h (fillL n 128)).2.2.2=0∧(putA s c h (fillL n 128)).2.1.on=true∧∃ p:Nat,p<64∧(putA s c h (fillL n 128)).2.2.1=p∧(f p).need=false∧ScI (updF f p ⟨h,n,true⟩) (q+1) (putA s c h (fillL n 128)).1 (putA s c h (fillL n 128)).2.1) ∨
  ((putA s c h (fillL n 128)).2.2.2=7∧(putA s c h (fillL n 128)).2.1.on=true∧ScI f (q+1) (putA s c h (fillL n 128)).1 (putA s c h (fillL n 128)).2.1) ∨
  ((putA s c h (fillL n 128)).2.2.2=4∧(putA s c h (fillL n 128)).2.1.on=false∧ScD f ⟨h,n,false⟩ (q+1) (putA s c h (fillL n 128)).2.1)):=by
 have hZ:=I.geo.2.2
 have hl:(fillL n 128).length=128:=fillL_len n
 have hsz:¬ ((sizedB (fillL n 128).length && h.may)=false∨(fillL n 128).length≠s.Z):=by
  rw [hl,hm,hZ];simp [sizedB]
 cases hon:c.on with
 |true =>
  refine ⟨?_,I.put hon hm hi hs⟩
  unfold putA
  rw [if_neg hsz,if_neg (by rw [hon];simp)]
  unfold putI
  have:=putL_sim h (layL (fillL n 128) h) (c.cnt+1) s c (by rw [I.geo.1];decide)
  have h2:=cnt_le c
  rw [I.cont.B,I.geo.1] at h2
  exact ⟨this.2.2.2.1,by have:=this.2.2.2.2.2;omega⟩
 |false =>
  have e:putA s c h (fillL n 128)=(s,c,0,4):=by
   unfold putA
   rw [if_neg hsz,if_pos hon]
  rw [e]
  exact ⟨⟨rfl,by show c.ops≤c.ops+1000;omega⟩,Or.inr (Or.inr ⟨rfl,hon,I.dead rfl hs⟩)⟩
end Go.Proofs.YtoelopghilbfeaaGreat
