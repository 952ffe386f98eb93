/-
  Package nand: Program and Erase, what they are, whatever befalls.
-/
import Derived.Test.YtoelopghilbfeaaGreatNd7
import Derived.Test.YtoelopghilbfeaaGreatNd8
namespace Go.Proofs.YtoelopghilbfeaaGreat
open Go.RowKit
set_option linter.unusedSimpArgs false
set_option linter.unusedVariables false
theorem ReadsAt.pre {w:World} {A:Option Addr} {n cp m:Nat} {xs:List Value} (h:ReadsAt w 1 (.slice A n cp) n xs) (hm:m≤n):ReadsAt w 1 (.slice A m cp) m (xs.take m):=by
 obtain ⟨h1,A',c',hv,hn,hc,h2⟩:=h
 injection hv with hv _ hc'
 subst hv hc'
 refine ⟨by simp at h1 ⊢;omega,_,_,rfl,by omega,hc,fun h0=>?_⟩
 obtain ⟨b,o,hA,h3⟩:=h2 (by omega)
 refine ⟨b,o,hA,fun j u hu=>h3 j u ?_⟩
 rw [List.getElem?_take] at hu
 split at hu
 ·exact hu
 ·cases hu
theorem CM.mi_bd {c:CM} (h:c.ok):(c.mi.kind=0∨c.mi.kind=1∨c.mi.kind=2)∧0≤c.mi.bytes∧c.mi.bytes≤65536:=by
 have hm:=h.2.2.2.2.2.2.2.1
 unfold CM.mi
 cases e:miAt (c.ops+1) c.ms with
 |none=>exact ⟨.inl rfl,Int.le_refl _,by show (0:Int)≤65536;omega⟩
 |some m =>
  obtain ⟨_,_,h1,h2,h3⟩:=hm m (List.mem_of_find?_eq_some e)
  exact ⟨.inr h1,h2,h3⟩
def progMany (m:Mi) (x:CB) (n:Nat):Nat:=if x.failed=true then 0 else if m.kind=1 then min m.bytes.toNat (n - 1) else if m.kind=2 then min m.bytes.toNat n else n
def CB.put (x:CB) (i:Nat) (raw:List UInt8) (many:Nat):CB:={ x with pages:=x.pages.set i (raw.take many++(x.pages.getD i []).drop many),next:=x.next+1 }
def progEnd (c:CM) (m:Mi) (k:Nat) (x:CB) (i:Nat) (raw:List UInt8):CM × Int :=
 if m.kind=2 then ({ c.setB k (x.put i raw (progMany m x raw.length)) with on:=false },4)
 else if m.kind=1∨x.failed=true then (c.setB k { x.put i raw (progMany m x raw.length) with failed:=true },5)
 else ({ c.setB k (x.put i raw (progMany m x raw.length)) with programs:=c.programs+1 },0)
def CM.prog (c:CM) (k:Nat) (x:CB) (p:Int) (raw:List UInt8):CM × Int :=
 let r:=c.beg (decide (0≤p∧p≤(c.P:Int) - 1))
 if r.2.2≠0 then (r.1,r.2.2) else if x.mark=true∨p≠x.next then r.1.ord r.2.1 false else progEnd r.1 r.2.1 k x p.toNat raw
end Go.Proofs.YtoelopghilbfeaaGreat
