/-
  Package store: look.
-/
import Derived.Test.YtoelopghilbfeaaGreatSt7
import Derived.Test.YtoelopghilbfeaaGreatHd3
namespace Go.Proofs.YtoelopghilbfeaaGreat
open Go.RowKit
set_option linter.unusedSimpArgs false
set_option linter.unusedVariables false
variable {b cb g cap:Nat} {mv:Value} {c:CM} {s:SM} {H Hc Fr:HL} {w:World}
def Yok (P:Nat) (y:List YB):Prop:=∀ x∈y,x.pages.length=P∧0≤x.taken
theorem Yok.set {P:Nat} {y:List YB} (h:Yok P y) {k:Int} {x:YB} (hx:x.pages.length=P) (ht:0≤x.taken):Yok P (Yset y k x):=fun z hz=>by
 unfold Yset at hz
 rcases List.mem_or_eq_of_mem_set hz with hz | rfl
 ·exact h z hz
 ·exact ⟨hx,ht⟩
theorem Yok.at_ {P:Nat} {y:List YB} (h:Yok P y) {k:Int} {x:YB} (hx:Yat y k=some x):x.pages.length=P∧0≤x.taken:=by
 obtain ⟨i,rfl,_,hi⟩:=Yat_some hx
 exact h x (List.mem_of_getElem? hi)
theorem Yok.turn {P:Nat} {y:List YB} (h:Yok P y) (k a d:Int):Yok P (Yturn y k a d).1:=by
 unfold Yturn
 split
 ·exact h
 ·rename_i x hx
  split
  ·exact h.set (h.at_ hx).1 (h.at_ hx).2
  ·exact h
theorem Yok.ropen {P:Nat} {y:List YB} (h:Yok P y) (k:Int):Yok P (Yopen y k).1:=by
 unfold Yopen
 split
 ·exact h
 ·rename_i x hx
  split
  ·exact h.set (h.at_ hx).1 (Int.le_refl _)
  ·exact h
theorem Yok.free {P:Nat} {y:List YB} (h:Yok P y) (k:Int):Yok P (Yfree y k).1:=by
 unfold Yfree
 split
 ·exact h
 ·rename_i x hx
  split
  ·exact h
  ·exact h.set (h.at_ hx).1 (Int.le_refl _)
theorem Yok.retire {P:Nat} {y:List YB} (h:Yok P y) (k:Int):Yok P (Yretire y k).1:=by
 unfold Yretire
 split
 ·exact h
 ·rename_i x hx
  split
  ·exact h
  ·exact h.set (h.at_ hx).1 (h.at_ hx).2
theorem Yok.next {P:Nat} {y:List YB} (h:Yok P y) (k:Int):Yok P (Ynext y k).1:=by
 unfold Ynext
 split
 ·exact h
 ·rename_i x hx
  split
  ·exact h
  ·split
   ·exact h
   ·exact h.set (h.at_ hx).1 (by show 0≤x.taken+1;have:=(h.at_ hx).2;omega)
theorem Yok.nextP {P:Nat} {y:List YB} (h:Yok P y) (hP:0<P) (k:Int):0≤(Ynext y k).2.1∧(Ynext y k).2.1<P:=by
 unfold Ynext
 split
 ·exact ⟨Int.le_refl _,by show (0:Int)<P;omega⟩
 ·rename_i x hx
  have:=h.at_ hx
  split
  ·exact ⟨Int.le_refl _,by show (0:Int)<P;omega⟩
  ·split
   ·exact ⟨Int.le_refl _,by show (0:Int)<P;omega⟩
   ·show 0≤x.taken∧x.taken<P;omega
theorem Ypg_at {y:List YB} {k n:Int} {x:YB} {p:Bool × Bool} (h:Ypg y k n=some (x,p)):Yat y k=some x:=by
 unfold Ypg at h
 split at h
 ·simp at h
 ·rename_i z hz
  split at h
  ·injection h with h;injection h with h1 h2;subst h1;exact hz
  ·simp at h
theorem Yok.need {P:Nat} {y:List YB} (h:Yok P y) (k n:Int) (d:Bool):Yok P (Yneed y k n d).1:=by
 unfold Yneed
 split
 ·exact h
 ·rename_i x p hx
  have:=h.at_ (Ypg_at hx)
  split
  ·exact h
  ·exact h.set (by simpa using this.1) this.2
theorem ynext_len (y:List YB) (k:Int):(Ynext y k).1.length=y.length:=by
 unfold Ynext
 split
 ·rfl
 ·split
  ·rfl
  ·split
   ·rfl
   ·exact yset_len _ _ _
def nextY (s:SM) (k:Int):SM:={ s with y:=(Ynext s.y k).1 }
def RetSYN (b cb:Nat) (s':SM) (p code:Int) (w:World) (Fr:HL) (e:Ending) (w':World):Prop :=
 ∃ ve He H',e=.returned (.tuple #[.int .i64 p,ve])∧IsErr ve code He∧StAt b cb s' H'∧Holds w' (H'++(He++Fr))∧Grew w w'
theorem StAt.next (h:StAt b cb s H):∃ yb mb,(∀ (w:World) (F:HL),Holds w (H++F)→w.cell? ⟨b,0,none⟩=some (.pointer (some ⟨yb,0,none⟩))∧w.cell? ⟨b,1,none⟩=some (.pointer (some ⟨cb,0,none⟩)) ∧
  w.cell? ⟨b,2,none⟩=some (.int .i64 (s.B:Int))∧w.cell? ⟨b,3,none⟩=some (.int .i64 (s.P:Int))∧w.cell? ⟨b,4,none⟩=some (.int .i64 (s.Z:Int))∧w.cell? ⟨b,5,none⟩=some (.map (some mb))∧w.cell? ⟨b,6,none⟩=some (.int .i64 s.op)) ∧
  ∀ (k:Int) (w:World) (F:HL),Holds w (H++F)→Calls Tryz.prog 48 #[.pointer (some ⟨yb,0,none⟩),.int .i64 k] w (RetSYN b cb (nextY s k) (Ynext s.y k).2.1 (Ynext s.y k).2.2 w F):=by
 obtain ⟨yb,mb,es,clock,Hy,hy,hok,hst,hwf,hpl,hop,hyl,rfl⟩:=h
 refine ⟨yb,mb,fun w F hX=>⟨hX.hcell 0,hX.hcell 1,hX.hcell 2,hX.hcell 3,hX.hcell 4,hX.hcell 5,hX.hcell 6⟩,fun k w F hX=>?_⟩
 have h1:Holds w (Hy++((b,stO yb cb mb s)::((mb,.map es clock)::F))):=hX.p
 refine (ynext_any k hy h1).mono ?_
 rintro e w' ⟨ve,Hy',He,rfl,he,hy',hH',hg'⟩
 refine ⟨ve,He,(b,stO yb cb mb s)::((mb,.map es clock)::Hy'),rfl,he,⟨yb,mb,es,clock,Hy',hy',hok,hst,hwf,hpl,hop,(ynext_len _ _).trans hyl,rfl⟩,hH'.p,hg'⟩
def lookN:Nat→SM→CM→Int→SM × CM × Int
 |0,s,c,_=>(s,c,0)
 |n+1,s,c,k =>
  if (c.read k (Ynext s.y k).2.1).2.2≠0 then (nextY s k,(c.read k (Ynext s.y k).2.1).1,(c.read k (Ynext s.y k).2.1).2.2)
  else match readF (c.read k (Ynext s.y k).2.1).2.1 with
   |some q=>lookN n (keepS (nextY s k) k (Ynext s.y k).2.1 q.2) (c.read k (Ynext s.y k).2.1).1 k
   |none=>lookN n (nextY s k) (c.read k (Ynext s.y k).2.1).1 k
def lookA (s:SM) (c:CM) (k:Int):SM × CM × Int :=
 if 0<c.nextOf k then
  if (lookN (c.nextOf k).toNat (ropenS s k) c k).2.2≠0 then lookN (c.nextOf k).toNat (ropenS s k) c k
  else ({ (lookN (c.nextOf k).toNat (ropenS s k) c k).1 with y:=(Yturn (lookN (c.nextOf k).toNat (ropenS s k) c k).1.y k 2 3).1 },(lookN (c.nextOf k).toNat (ropenS s k) c k).2.1,0)
 else (s,c,0)
def lookB (r:SM × CM × Int) (k:Int):SM × CM × Int:=if r.2.1.markOf k=true then ({ r.1 with y:=(Yretire r.1.y k).1 },r.2.1,0) else r
def lookI (s:SM) (c:CM) (k:Int):SM × CM × Int:=if (lookA s c k).2.2≠0 then lookA s c k else lookB (lookA s c k) k
def LkTo (b cb g cap:Nat) (mv:Value) (n:Nat) (x:Int) (res:SM × CM × Int) (s0:SM) (c0:CM) (w:World) (F:HL) (i:Value) (wr:World):Prop :=
 ∃ (k:Nat) (s':SM) (c':CM) (H' Hc':HL),k≤n∧i=.int .i64 k∧lookN (n - k) s' c' x=res∧c0.Sim c' k∧s'.B=s0.B∧s'.P=s0.P∧Yok s'.P s'.y∧StAt b cb s' H'∧ChipAt cb g cap mv c' Hc'∧Holds wr (H'++(Hc'++F))∧Grew w wr
theorem read_len {c:CM} (h:c.ok) (k p:Int):(c.read k p).2.1.length≤284:=by
 unfold CM.read
 dsimp only
 split
 ·simp
 ·split
  ·simp
  ·show (c.pageOf k p).length≤284
   unfold CM.pageOf
   split
   ·rename_i x hx
    obtain ⟨i,rfl,hi,hx2,_⟩:=CM.blk_some hx
    have hxo:=h.2.2.2.2.2.2.2.2.2.2.2.2.2 x (List.mem_of_getElem? hx2)
    unfold CM.ok at h
    rw [List.getD_eq_getElem?_getD]
    cases hq:x.pages[p.toNat]? with
    |none=>simp
    |some q=>have:=hxo.2.1 q (List.mem_of_getElem? hq);simp;omega
   ·simp
end Go.Proofs.YtoelopghilbfeaaGreat
