/-
  Package store: Put, what it computes.
-/
import Derived.Test.YtoelopghilbfeaaGreatSt10
namespace Go.Proofs.YtoelopghilbfeaaGreat
open Go.RowKit
set_option linter.unusedSimpArgs false
set_option linter.unusedVariables false
variable {b cb g cap:Nat} {mv:Value} {c:CM} {s:SM} {H Hc Fr:HL} {w:World}
def SM.Geo (s s':SM):Prop:=s'.B=s.B∧s'.P=s.P∧s'.Z=s.Z∧(Yok s.P s.y→Yok s.P s'.y)
theorem SM.Geo.refl (s:SM):s.Geo s:=⟨rfl,rfl,rfl,id⟩
theorem SM.Geo.trans {s1 s2 s3:SM} (h:s1.Geo s2) (h2:s2.Geo s3):s1.Geo s3:=by
 obtain ⟨a1,a2,a3,a5⟩:=h
 obtain ⟨b1,b2,b3,b5⟩:=h2
 rw [a2] at b5
 exact ⟨b1.trans a1,b2.trans a2,b3.trans a3,fun h=>b5 (a5 h)⟩
theorem sealS_geo (s:SM):s.Geo (sealS s):=by
 unfold sealS
 split
 ·exact SM.Geo.refl s
 ·exact ⟨rfl,rfl,rfl,fun h=>h.turn _ _ _⟩
theorem openS_geo (s:SM) (k:Int):s.Geo (openS s k) :=
 ((sealS_geo s).trans (⟨rfl,rfl,rfl,fun h=>h.free k⟩:(sealS s).Geo (freeS (sealS s) k))).trans ⟨rfl,rfl,rfl,fun h=>h.ropen k⟩
theorem giveI_geo (s:SM) (c:CM) (k:Int):s.Geo (giveI s c k).1:=by
 unfold giveI
 split
 ·unfold giveS
  split
  ·exact SM.Geo.refl s
  ·exact ⟨rfl,rfl,rfl,fun h=>h.retire _⟩
 ·exact SM.Geo.refl s
theorem takeL_geo (L:List Int):∀ (s:SM) (c:CM),s.Geo (takeL L s c).1∧c.Sim (takeL L s c).2.1 (2 * L.length)∧((∀ x∈L,0≤x)→(takeL L s c).2.2=0→0≤(takeL L s c).1.op):=by
 induction L with
 |nil=>intro s c;exact ⟨SM.Geo.refl s,CM.Sim.refl c,fun _ h=>absurd h (by simp [takeL])⟩
 |cons k ks ih =>
  intro s c
  have he:=eraseI_sim c k
  have hg:=giveI_sim s (eraseI c k).1 k
  have hgg:=giveI_geo s (eraseI c k).1 k
  obtain ⟨i1,i2,i3⟩:=ih (giveI s (eraseI c k).1 k).1 (giveI s (eraseI c k).1 k).2.1
  have hln:(((k::ks).length:Nat):Int)=(ks.length:Int)+1:=by simp
  rw [takeL]
  split
  ·split
   ·split
    ·rename_i hne
     exact ⟨hgg,(he.trans hg.1).mono (by omega),fun _ h=>absurd h hne⟩
    ·exact ⟨hgg.trans i1,((he.trans hg.1).trans i2).mono (by omega),fun hL h=>i3 (fun x hx=>hL x (List.mem_cons_of_mem _ hx)) h⟩
   ·split
    ·rename_i hne
     exact ⟨SM.Geo.refl s,he.mono (by omega),fun _ h=>absurd h hne⟩
    ·exact ⟨openS_geo s k,he.mono (by omega),fun hL _=>hL k (List.mem_cons_self)⟩
  ·exact ⟨openS_geo s k,(CM.Sim.refl c).mono (by omega),fun hL _=>hL k (List.mem_cons_self)⟩
theorem takeS_geo (s:SM) (c:CM):s.Geo (takeS s c).1∧c.Sim (takeS s c).2.1 (2 * s.B)∧((takeS s c).2.2=0→0≤(takeS s c).1.op):=by
 obtain ⟨h1,h2,h3⟩:=takeL_geo (emptyL s c) s c
 have:=emptyL_len s c
 exact ⟨h1,h2.mono (by omega),h3 (fun x hx=>by obtain ⟨i,rfl,_⟩:=mem_emptyL.1 hx;omega)⟩
def CM.marks (c:CM):List Bool:=c.blocks.map (·.mark)
def CM.cnt (c:CM):Nat:=c.marks.count false
theorem setB_marks {k:Nat} {x:CB} (hx:c.blocks[k]?=some x) {x':CB} (h:x'.mark=x.mark):(c.setB k x').marks=c.marks:=by
 unfold CM.setB CM.marks
 apply List.ext_getElem?
 intro i
 simp only [List.getElem?_map,List.getElem?_set]
 split
 ·rename_i he
  subst he
  obtain ⟨hk,hx2⟩:=List.getElem?_eq_some_iff.1 hx
  rw [if_pos hk,hx]
  simp [h]
 ·rfl
theorem beg_marks (c:CM) (good:Bool):(c.beg good).1.marks=c.marks∧(c.beg good).1.blocks=c.blocks:=by
 unfold CM.beg
 split
 ·exact ⟨rfl,rfl⟩
 ·split <;> exact ⟨rfl,rfl⟩
theorem ord_marks (c:CM) (m:Mi) (good:Bool):(c.ord m good).1.marks=c.marks:=by
 unfold CM.ord
 split
 ·rfl
 ·split <;> rfl
theorem eraseEnd_marks {m:Mi} {k:Nat} {x:CB} (hx:c.blocks[k]?=some x):(eraseEnd c m k x).1.marks=c.marks:=by
 unfold eraseEnd
 split
 ·split
  ·rfl
  ·exact (show _=(c.setB k _).marks from rfl).trans (setB_marks hx rfl)
 ·split
  ·exact setB_marks hx rfl
  ·exact setB_marks hx rfl
theorem erase_marks {k:Nat} {x:CB} (hx:c.blocks[k]?=some x):(c.erase k x).1.marks=c.marks:=by
 obtain ⟨h1,h2⟩:=beg_marks c true
 unfold CM.erase
 dsimp only
 split
 ·exact h1
 ·split
  ·exact (ord_marks _ _ _).trans h1
  ·exact (eraseEnd_marks (by rw [h2];exact hx)).trans h1
theorem progEnd_marks {m:Mi} {k i:Nat} {x:CB} {raw:List UInt8} (hx:c.blocks[k]?=some x):(progEnd c m k x i raw).1.marks=c.marks:=by
 unfold progEnd
 split
 ·exact (show _=(c.setB k _).marks from rfl).trans (setB_marks hx rfl)
 ·split
  ·exact setB_marks hx rfl
  ·exact (show _=(c.setB k _).marks from rfl).trans (setB_marks hx rfl)
theorem beg_code (c:CM) (good:Bool):(c.beg good).2.2≠5:=by
 unfold CM.beg
 split
 ·simp
 ·split <;> simp
theorem prog_marks {k:Nat} {x:CB} {p:Int} {raw:List UInt8} (hx:c.blocks[k]?=some x):(c.prog k x p raw).1.marks=c.marks∧((c.prog k x p raw).2=5→x.mark=false):=by
 have h1:=beg_marks c (decide (0≤p∧p≤(c.P:Int) - 1))
 have hb:=beg_code c (decide (0≤p∧p≤(c.P:Int) - 1))
 unfold CM.prog
 dsimp only
 split
 ·exact ⟨h1.1,fun h=>absurd h hb⟩
 ·split
  ·refine ⟨(ord_marks _ _ _).trans h1.1,fun h=>?_⟩
   unfold CM.ord at h
   rw [if_neg (by simp)] at h
   split at h <;> simp at h
  ·rename_i hm
   exact ⟨(progEnd_marks (by rw [h1.2];exact hx)).trans h1.1,fun _=>by simpa using fun h=>hm (.inl h)⟩
theorem markE_marks {k:Nat} {x:CB} (hx:c.blocks[k]?=some x):(c.markE k x).1.marks=if (c.markE k x).2=0 then c.marks.set k true else c.marks:=by
 obtain ⟨h1,h2⟩:=beg_marks c true
 unfold CM.markE
 dsimp only
 split
 ·rename_i hne
  first | exact h1 | (rw [if_neg hne];exact h1)
 ·split
  ·first | exact h1 | (rw [if_neg (by simp)];exact h1)
  ·show (CM.setB _ _ _).marks=_
   first | (rw [if_pos rfl];unfold CM.setB CM.marks at *;rw [List.map_set,h1]) | (unfold CM.setB CM.marks at *;rw [List.map_set,h1])
theorem count_set_lt {l:List Bool} {k:Nat} (h:l[k]?=some false):(l.set k true).count false+1=l.count false:=by
 obtain ⟨hk,h2⟩:=List.getElem?_eq_some_iff.1 h
 rw [List.count_set hk,h2]
 have:0<l.count false:=List.count_pos_iff.2 (List.mem_of_getElem? h)
 simp
 try omega
theorem count_set_le (l:List Bool) (k:Nat):(l.set k true).count false≤l.count false:=by
 by_cases hk:k<l.length
 ·rw [List.count_set hk]
  simp
 ·rw [List.set_eq_of_length_le (by omega)]
  exact Nat.le_refl _
theorem eraseI_cnt (c:CM) (k:Int):(eraseI c k).1.cnt=c.cnt:=by
 unfold eraseI
 split
 ·rename_i x hx
  obtain ⟨i,rfl,_,hx2,_⟩:=CM.blk_some hx
  show (c.erase i x).1.cnt=_
  unfold CM.cnt
  rw [erase_marks hx2]
 ·rfl
theorem giveS_cnt {s:SM} {c:CM} {i:Nat} {x:CB} (hx:c.blocks[i]?=some x):(giveS s c i x).2.1.cnt≤c.cnt∧((giveS s c i x).2.2=0→x.mark=false→(giveS s c i x).2.1.cnt+1=c.cnt):=by
 have hm:=markE_marks (c:=c) hx
 unfold giveS
 split
 ·rename_i hne
  rw [if_neg hne] at hm
  refine ⟨?_,fun h=>absurd h hne⟩
  show (c.markE i x).1.marks.count false≤c.marks.count false
  rw [hm]
  exact Nat.le_refl _
 ·rename_i he
  rw [if_pos (by simpa using he)] at hm
  refine ⟨?_,fun _ hym=>?_⟩
  ·show (c.markE i x).1.marks.count false≤c.marks.count false
   rw [hm]
   exact count_set_le _ _
  ·show (c.markE i x).1.marks.count false+1=c.marks.count false
   rw [hm]
   exact count_set_lt (by unfold CM.marks;rw [List.getElem?_map,hx];simp [hym])
theorem giveI_cnt (s:SM) (c:CM) (k:Int):(giveI s c k).2.1.cnt≤c.cnt∧((giveI s c k).2.2=0→∀ x,c.blk k=some x→x.mark=false→(giveI s c k).2.1.cnt+1=c.cnt):=by
 cases hx:c.blk k with
 |none =>
  rw [show giveI s c k=(s,c,2) by unfold giveI;rw [hx]]
  exact ⟨Nat.le_refl _,fun h=>absurd (show (2:Int)=0 from h) (by decide)⟩
 |some x =>
  obtain ⟨i,rfl,_,hx2,_⟩:=CM.blk_some hx
  rw [show giveI s c (i:Int)=giveS s c i x by unfold giveI;rw [hx];rfl]
  obtain ⟨h1,h2⟩:=giveS_cnt (s:=s) hx2
  exact ⟨h1,fun h y hy hm=>by injection hy with hy;subst hy;exact h2 h hm⟩
theorem takeL_cnt (L:List Int):∀ (s:SM) (c:CM),(takeL L s c).2.1.cnt≤c.cnt:=by
 induction L with
 |nil=>intro s c;exact Nat.le_refl _
 |cons k ks ih =>
  intro s c
  have he:=eraseI_cnt c k
  have hg:=(giveI_cnt s (eraseI c k).1 k).1
  have hi:=ih (giveI s (eraseI c k).1 k).1 (giveI s (eraseI c k).1 k).2.1
  rw [takeL]
  split
  ·split
   ·split
    ·omega
    ·omega
   ·split
    ·exact Nat.le_of_eq he
    ·exact Nat.le_of_eq he
  ·exact Nat.le_refl _
def progI (c:CM) (k p:Int) (raw:List UInt8):CM × Int:=match c.blk k with | some x=>c.prog k.toNat x p raw | none=>(c,2)
theorem progI_sim (c:CM) (k p:Int) (raw:List UInt8):c.Sim (progI c k p raw).1 1:=by
 unfold progI
 split
 ·exact CM.prog_sim _ _ _ _ _
 ·exact (CM.Sim.refl c).mono (by omega)
theorem progI_cnt (c:CM) (k p:Int) (raw:List UInt8):(progI c k p raw).1.cnt=c.cnt∧((progI c k p raw).2=5→∃ x,(progI c k p raw).1.blk k=some x∧x.mark=false):=by
 unfold progI
 split
 ·rename_i x hx
  obtain ⟨i,rfl,hi,hx2,_⟩:=CM.blk_some hx
  obtain ⟨h1,h2⟩:=prog_marks (c:=c) (p:=p) (raw:=raw) hx2
  refine ⟨by show (c.prog i x p raw).1.cnt=_;unfold CM.cnt;rw [h1],fun h5=>?_⟩
  have hm:=h2 h5
  have hl:(c.prog i x p raw).1.blocks.length=c.blocks.length:=(CM.prog_sim c i x p raw).2.2.1
  have hi2:i<(c.prog i x p raw).1.blocks.length:=by omega
  refine ⟨(c.prog i x p raw).1.blocks[i],?_,?_⟩
  ·show (c.prog i x p raw).1.blk i=_
   unfold CM.blk
   rw [if_pos (by omega)]
   simp [hi2]
  ·have h3:(c.prog i x p raw).1.marks[i]?=some x.mark:=by
    rw [h1];unfold CM.marks;rw [List.getElem?_map,hx2];rfl
   unfold CM.marks at h3
   rw [List.getElem?_map,List.getElem?_eq_getElem hi2] at h3
   simpa [hm] using h3
 ·exact ⟨rfl,fun h=>absurd (show (2:Int)=5 from h) (by decide)⟩
theorem progI_any (k p:Int) {rv:Value} {raw:List UInt8} (hch:ChipAt cb g cap mv c Hc) (hH:Holds w (Hc++Fr)) (hops:c.ops<1000000000000) (hk:c.there k=true) (hraw:FrBytes Fr rv raw) (hrl:raw.length=c.Z+28) :
  Calls Tryz.prog 49 #[.pointer (some ⟨cb,0,none⟩),.int .i64 k,.int .i64 p,rv] w (RetChG cb g cap mv (progI c k p raw) w Fr):=by
 obtain ⟨i,x,rfl,hx,hb⟩:=blk_of hk
 rw [show progI c (i:Int) p raw=c.prog i x p raw by unfold progI;rw [hb];rfl]
 exact nprogram_full i x p rv raw hch hH hops hx hraw hrl
def takeT (s:SM) (c:CM):SM × CM × Int:=if leftI s c=0 then takeS s c else (s,c,0)
def putM (r:SM→CM→SM × CM × Int × Int) (s:SM) (c:CM) (p:Int) (h:Hd) (q:CM × Int):SM × CM × Int × Int :=
 if q.2=0 then (keepS (nextY s s.op) s.op p h,q.1,s.op * s.P+p,0)
 else if q.2=5 then
  if (giveI (nextY s s.op) q.1 s.op).2.2≠0 then ((giveI (nextY s s.op) q.1 s.op).1,(giveI (nextY s s.op) q.1 s.op).2.1,0,(giveI (nextY s s.op) q.1 s.op).2.2)
  else r (giveI (nextY s s.op) q.1 s.op).1 (giveI (nextY s s.op) q.1 s.op).2.1
 else (nextY s s.op,q.1,0,q.2)
def putL (h:Hd) (raw:List UInt8):Nat→SM→CM→SM × CM × Int × Int
 |0,s,c=>(s,c,0,99)
 |n+1,s,c =>
  if (takeT s c).2.2≠0 then ((takeT s c).1,(takeT s c).2.1,0,(takeT s c).2.2)
  else putM (putL h raw n) (takeT s c).1 (takeT s c).2.1 (Ynext (takeT s c).1.y (takeT s c).1.op).2.1 h (progI (takeT s c).2.1 (takeT s c).1.op (Ynext (takeT s c).1.y (takeT s c).1.op).2.1 raw)
def putI (s:SM) (c:CM) (h:Hd) (d:List UInt8):SM × CM × Int × Int:=putL h (layL d h) (c.cnt+1) s c
theorem takeT_geo (s:SM) (c:CM):s.Geo (takeT s c).1∧c.Sim (takeT s c).2.1 (2 * s.B)∧(takeT s c).2.1.cnt≤c.cnt∧((takeT s c).2.2=0→-1≤s.op→0≤(takeT s c).1.op):=by
 unfold takeT
 split
 ·obtain ⟨h1,h2,h3⟩:=takeS_geo s c
  exact ⟨h1,h2,takeL_cnt _ _ _,fun h _=>h3 h⟩
 ·rename_i hne
  refine ⟨SM.Geo.refl s,(CM.Sim.refl c).mono (by omega),Nat.le_refl _,fun _ h=>?_⟩
  show 0≤s.op
  unfold leftI at hne
  by_cases ho:s.op=-1
  ·rw [if_pos ho] at hne;exact absurd rfl hne
  ·omega
theorem cnt_le (c:CM):c.cnt≤c.blocks.length:=by
 unfold CM.cnt CM.marks
 have:=List.count_le_length (a:=false) (l:=c.blocks.map (·.mark))
 simpa using this
theorem beg_ops {c:CM} {good:Bool} (h:(c.beg good).2.2=0):(c.beg good).1.ops=c.ops+1:=by rw [(beg_err h).2.2]
theorem progI_ops {c:CM} {k p:Int} {raw:List UInt8} (h:(progI c k p raw).2=5):c.ops<(progI c k p raw).1.ops:=by
 unfold progI at h ⊢
 split at h
 ·rename_i x hx
  try rw [hx]
  show c.ops<(c.prog k.toNat x p raw).1.ops
  unfold CM.prog at h ⊢
  dsimp only at h ⊢
  split at h
  ·exact absurd h (beg_code _ _)
  ·rename_i h0
   have h1:=beg_ops (c:=c) (good:=decide (0≤p∧p≤(c.P:Int) - 1)) (by simpa using h0)
   rw [if_neg h0]
   split at h
   ·unfold CM.ord at h
    rw [if_neg (by simp)] at h
    split at h <;> simp at h
   ·rename_i hm
    rw [if_neg hm]
    have:=(progEnd_sim (c.beg (decide (0≤p∧p≤(c.P:Int) - 1))).1 (c.beg (decide (0≤p∧p≤(c.P:Int) - 1))).2.1 k.toNat x p.toNat raw).2.2.2.2.1
    omega
 ·exact absurd (show (2:Int)=5 from h) (by decide)
def putA (s:SM) (c:CM) (h:Hd) (d:List UInt8):SM × CM × Int × Int :=
 if (sizedB d.length && h.may)=false∨d.length≠s.Z then (s,c,0,2) else if c.on=false then (s,c,0,4) else putI s c h d
end Go.Proofs.YtoelopghilbfeaaGreat
