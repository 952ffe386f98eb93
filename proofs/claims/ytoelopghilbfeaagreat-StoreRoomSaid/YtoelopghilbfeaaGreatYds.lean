/-
  Texts put together: YtoelopghilbfeaaGreatYd, YtoelopghilbfeaaGreatYd2, YtoelopghilbfeaaGreatYd3, YtoelopghilbfeaaGreatYd4, YtoelopghilbfeaaGreatYd5, YtoelopghilbfeaaGreatYd6, YtoelopghilbfeaaGreatYd7, YtoelopghilbfeaaGreatYd8, YtoelopghilbfeaaGreatYd9.
-/
import Derived.Test.YtoelopghilbfeaaGreatNdA
import Derived.Deep.DeepCutAuto
namespace Go.Proofs.YtoelopghilbfeaaGreat
open Go.RowKit
set_option linter.unusedSimpArgs false
set_option linter.unusedVariables false
theorem tYblocks:SlT Tryz.prog 123 128 3 40 (.agg #[.int .i64 0,.int .i64 0,.slice none 0 0]):=SlT.mk' (by kernel_rfl) (by kernel_rfl) (by rfl) (by decide)
theorem tYpages:SlT Tryz.prog 126 149 2 2 (.agg #[.bool false,.bool false]):=SlT.mk' (by kernel_rfl) (by kernel_rfl) (by rfl) (by decide)
structure YB where
 state:Int
 taken:Int
 pages:List (Bool × Bool)
def pageC (p:Bool × Bool):List Value:=[.bool p.1,.bool p.2]
def ybR (c:List Value) (x:YB) (H:HL):Prop:=∃ g cap,c=[.int .i64 x.state,.int .i64 x.taken,.slice (some ⟨g,0,none⟩) x.pages.length cap]∧IsRow 149 2 (.slice (some ⟨g,0,none⟩) x.pages.length cap) x.pages.length (x.pages.map pageC).flatten H
def YB.ok (x:YB):Prop:=0≤x.taken∧x.taken≤8∧x.pages.length≤8∧IntOkY x.state
where IntOkY (n:Int):Prop:=0≤n∧n≤100
def IsYard (v:Value) (y:List YB) (H:HL):Prop :=
 ∃ b bv Hm,v=.pointer (some ⟨b,0,none⟩)∧(∀ x∈y,x.ok)∧y.length≤32∧Rows2 ybR 128 3 bv y Hm∧H=(b,.cells #[bv] 125)::Hm
theorem IsYard.ptr {v:Value} {y:List YB} {H:HL} (h:IsYard v y H):∃ b,v=.pointer (some ⟨b,0,none⟩):=by
 obtain ⟨b,_,_,h,_⟩:=h;exact ⟨b,h⟩
theorem IsYard.small {v:Value} {y:List YB} {H:HL} (h:IsYard v y H):y.length≤32∧∀ x∈y,x.ok:=by
 obtain ⟨_,_,_,_,h1,h2,_⟩:=h;exact ⟨h2,h1⟩
theorem IsYard.view {v:Value} {y:List YB} {H:HL} (h:IsYard v y H):∃ b A c,v=.pointer (some ⟨b,0,none⟩)∧y.length≤c∧c≤maxLen ∧
  ∀ (w:World) (F:HL),Holds w (H++F)→w.cell? ⟨b,0,none⟩=some (.slice A y.length c):=by
 obtain ⟨b,bv,Hm,rfl,_,_,hr,rfl⟩:=h
 obtain ⟨A,c,rfl,hl,hc⟩:=hr.val
 exact ⟨b,A,c,rfl,hl,hc,fun w F hH=>hH.hcell 0⟩
theorem IsYard.open_ {v:Value} {y:List YB} {H:HL} (h:IsYard v y H) {k:Nat} {x:YB} (hx:y[k]?=some x) :
  ∃ b g cap gp cp,v=.pointer (some ⟨b,0,none⟩)∧y.length≤cap∧cap≤maxLen∧k<y.length∧x.ok ∧
   (∀ (w:World) (F:HL),Holds w (H++F)→w.cell? ⟨b,0,none⟩=some (.slice (some ⟨g,0,none⟩) y.length cap)∧w.cell? ⟨g,k * 3,none⟩=some (.int .i64 x.state)∧w.cell? ⟨g,k * 3+1,none⟩=some (.int .i64 x.taken) ∧
    w.cell? ⟨g,k * 3+2,none⟩=some (.slice (some ⟨gp,0,none⟩) x.pages.length cp)∧w.frozen? ⟨g,k * 3,none⟩=false∧w.frozen? ⟨g,k * 3+1,none⟩=false ∧
    ReadsAt w 2 (.slice (some ⟨gp,0,none⟩) x.pages.length cp) x.pages.length (x.pages.map pageC).flatten) ∧
   (∀ (w:World) (F:HL) (u:Int),Holds w (H++F)→({ x with state:=u }:YB).ok→∃ H',IsYard v (y.set k { x with state:=u }) H'∧Holds (w.setCell ⟨g,k * 3,none⟩ (.int .i64 u)) (H'++F)) ∧
   (∀ (w:World) (F:HL) (u:Int),Holds w (H++F)→({ x with taken:=u }:YB).ok→∃ H',IsYard v (y.set k { x with taken:=u }) H'∧Holds (w.setCell ⟨g,k * 3+1,none⟩ (.int .i64 u)) (H'++F)) ∧
   (∀ (i:Nat),i<x.pages.length→∀ (w:World) (F:HL),Holds w (H++F)→w.frozen? ⟨gp,i * 2,none⟩=false∧w.frozen? ⟨gp,i * 2+1,none⟩=false ∧
    (∀ u:Bool × Bool,∃ H',IsYard v (y.set k { x with pages:=x.pages.set i u }) H'∧Holds ((w.setCell ⟨gp,i * 2,none⟩ (.bool u.1)).setCell ⟨gp,i * 2+1,none⟩ (.bool u.2)) (H'++F)) ∧
    (∀ u:Bool,∃ H',IsYard v (y.set k { x with pages:=x.pages.set i ((x.pages.getD i (false,false)).1,u) }) H'∧Holds (w.setCell ⟨gp,i * 2+1,none⟩ (.bool u)) (H'++F))) ∧
   (∀ (w:World) (F:HL) (u t:Int),Holds w (H++F)→({ x with state:=u,taken:=t }:YB).ok→(w.setCell ⟨g,k * 3,none⟩ (.int .i64 u)).frozen? ⟨g,k * 3+1,none⟩=false∧(w.setCell ⟨g,k * 3,none⟩ (.int .i64 u)).cell? ⟨g,k * 3+1,none⟩=some (.int .i64 x.taken) ∧
    ∃ H',IsYard v (y.set k { x with state:=u,taken:=t }) H'∧Holds ((w.setCell ⟨g,k * 3,none⟩ (.int .i64 u)).setCell ⟨g,k * 3+1,none⟩ (.int .i64 t)) (H'++F)):=by
 obtain ⟨b,bv,Hm,rfl,hok,hlen,hr,rfl⟩:=h
 obtain ⟨g,cap,c,Hi,Hr,rfl,hc1,hc2,hk,hcl,⟨gp,cp,rfl,hrow⟩,hcell,hopen,hsame,hset⟩:=hr.open2 hx
 have hxo:=hok x (List.mem_of_getElem? hx)
 have hrot:∀ (w:World) (F:HL),Holds w (((b,Obj.cells #[.slice (some ⟨g,0,none⟩) y.length cap] 125)::Hm)++F)→Holds w (Hi++(Hr++((b,.cells #[.slice (some ⟨g,0,none⟩) y.length cap] 125)::F))):=by
  intro w F hH
  refine hopen w _ ?_
  exact Holds.swap (A:=[(b,Obj.cells #[.slice (some ⟨g,0,none⟩) y.length cap] 125)]) (B:=Hm) (by simpa using hH)
 have hback:∀ (w:World) (F:HL) (y':List YB) (H':HL),y'.length=y.length→(∀ x∈y',x.ok)→Rows2 ybR 128 3 (.slice (some ⟨g,0,none⟩) y.length cap) y' H'→Holds w (H'++((b,.cells #[.slice (some ⟨g,0,none⟩) y.length cap] 125)::F)) →
   ∃ H2,IsYard (.pointer (some ⟨b,0,none⟩)) y' H2∧Holds w (H2++F):=by
  intro w F y' H' hl ho hr' hH'
  refine ⟨(b,.cells #[.slice (some ⟨g,0,none⟩) y.length cap] 125)::H',⟨b,_,H',rfl,ho,by omega,hr',rfl⟩,?_⟩
  have:=Holds.swap (A:=H') (B:=[(b,Obj.cells #[.slice (some ⟨g,0,none⟩) y.length cap] 125)]) (C:=F) (by simpa using hH')
  simpa using this
 have hsetok:∀ x':YB,x'.ok→∀ z∈y.set k x',z.ok:=by
  intro x' hx' z hz
  rcases List.mem_or_eq_of_mem_set hz with h | h
  ·exact hok z h
  ·rw [h];exact hx'
 refine ⟨b,g,cap,gp,cp,rfl,hc1,hc2,hk,hxo,?_,?_,?_,?_,?_⟩
 ·intro w F hH
  have h1:=hrot w F hH
  have h2:=(hcell w _ h1.right).2
  have e0:=h2 0 (by omega)
  have e1:=h2 1 (by omega)
  have e2:=h2 2 (by omega)
  exact ⟨hH.hcell 0,by simpa using e0.1,by simpa using e1.1,by simpa using e2.1,by simpa using e0.2,e1.2,hrow.reads h1⟩
 ·intro w F u hH hou
  obtain ⟨H',h3,h4⟩:=hset w _ 0 (.int .i64 u) { x with state:=u } Hi (by omega) ⟨gp,cp,rfl,hrow⟩ (hrot w F hH)
  obtain ⟨H2,h5,h6⟩:=hback _ F _ H' (by simp) (hsetok _ hou) h3 h4
  exact ⟨H2,h5,by simpa using h6⟩
 ·intro w F u hH hou
  obtain ⟨H',h3,h4⟩:=hset w _ 1 (.int .i64 u) { x with taken:=u } Hi (by omega) ⟨gp,cp,rfl,hrow⟩ (hrot w F hH)
  obtain ⟨H2,h5,h6⟩:=hback _ F _ H' (by simp) (hsetok _ hou) h3 h4
  exact ⟨H2,h5,h6⟩
 ·intro i hi w F hH
  have h1:=hrot w F hH
  have hfl:(x.pages.map pageC).flatten.length=x.pages.length * 2:=by
   have:=flat_len (size:=2) (x.pages.map pageC) (by intro z hz;obtain ⟨a,_,rfl⟩:=List.mem_map.1 hz;rfl)
   simpa using this
  have hpc:∀ c∈x.pages.map pageC,c.length=2:=by intro z hz;obtain ⟨a,_,rfl⟩:=List.mem_map.1 hz;rfl
  have hgi:(x.pages.map pageC)[i]?=some (pageC x.pages[i]):=by simp [hi]
  have hset0:∀ u:Bool,(x.pages.map pageC).flatten.set (i * 2) (.bool u)=((x.pages.set i (u,x.pages[i].2)).map pageC).flatten:=by
   intro u
   have:=flat_set (size:=2) (x.pages.map pageC) hpc i 0 (pageC x.pages[i]) (.bool u) hgi (by omega)
   rw [Nat.add_zero] at this
   rw [this,List.map_set];rfl
  have hset1:∀ u:Bool,(x.pages.map pageC).flatten.set (i * 2+1) (.bool u)=((x.pages.set i (x.pages[i].1,u)).map pageC).flatten:=by
   intro u
   have:=flat_set (size:=2) (x.pages.map pageC) hpc i 1 (pageC x.pages[i]) (.bool u) hgi (by omega)
   rw [this,List.map_set];rfl
  have hgd:x.pages.getD i (false,false)=x.pages[i]:=by simp [List.getD,hi]
  obtain ⟨g0,cap0,hv0,_,_,_,_,hf0,hs0⟩:=hrow.cell h1 (j:=i * 2) (by omega)
  injection hv0 with hv0 _ hc0
  injection hv0 with hv0
  injection hv0 with hv0
  subst hv0
  obtain ⟨g1,cap1,hv1,_,_,_,_,hf1,hs1⟩:=hrow.cell h1 (j:=i * 2+1) (by omega)
  injection hv1 with hv1 _ hc1'
  injection hv1 with hv1
  injection hv1 with hv1
  subst hv1
  refine ⟨hf0,hf1,fun u=>?_,fun u=>?_⟩
  ·obtain ⟨Ha,ha,hHa⟩:=hs0 w _ h1 (.bool u.1)
   rw [hset0] at ha
   have hpl:(x.pages.set i (u.1,x.pages[i].2)).length=x.pages.length:=by simp
   have hfl2:((x.pages.set i (u.1,x.pages[i].2)).map pageC).flatten.length=x.pages.length * 2:=by
    have:=flat_len (size:=2) ((x.pages.set i (u.1,x.pages[i].2)).map pageC) (by intro z hz;obtain ⟨a,_,rfl⟩:=List.mem_map.1 hz;rfl)
    simpa using this
   obtain ⟨g2,cap2,hv2,_,_,_,_,_,hs2⟩:=ha.cell hHa (j:=i * 2+1) (by omega)
   injection hv2 with hv2 _ hc2'
   injection hv2 with hv2
   injection hv2 with hv2
   subst hv2
   obtain ⟨Hb,hb,hHb⟩:=hs2 _ _ hHa (.bool u.2)
   have hset2:((x.pages.set i (u.1,x.pages[i].2)).map pageC).flatten.set (i * 2+1) (.bool u.2)=((x.pages.set i u).map pageC).flatten:=by
    have:=flat_set (size:=2) ((x.pages.set i (u.1,x.pages[i].2)).map pageC) (by intro z hz;obtain ⟨a,_,rfl⟩:=List.mem_map.1 hz;rfl) i 1 (pageC (u.1,x.pages[i].2)) (.bool u.2) (by simp [hi]) (by omega)
    rw [this];simp only [List.map_set,List.set_set];rfl
   rw [hset2] at hb
   obtain ⟨H',h3,h4⟩:=hsame _ _ { x with pages:=x.pages.set i u } Hb ⟨gp,cp,by simp,by simpa using hb⟩ hHb
   exact hback _ F _ H' (by simp) (hsetok _ ⟨hxo.1,hxo.2.1,by simpa using hxo.2.2.1,hxo.2.2.2⟩) h3 h4
  ·obtain ⟨Hb,hb,hHb⟩:=hs1 w _ h1 (.bool u)
   rw [hset1] at hb
   rw [hgd]
   obtain ⟨H',h3,h4⟩:=hsame _ _ { x with pages:=x.pages.set i (x.pages[i].1,u) } Hb ⟨gp,cp,by simp,by simpa using hb⟩ hHb
   exact hback _ F _ H' (by simp) (hsetok _ ⟨hxo.1,hxo.2.1,by simpa using hxo.2.2.1,hxo.2.2.2⟩) h3 h4
 ·intro w F u t hH hou
  obtain ⟨H',h3,h4⟩:=hset w _ 0 (.int .i64 u) { x with state:=u } Hi (by omega) ⟨gp,cp,rfl,hrow⟩ (hrot w F hH)
  have hx2:(y.set k { x with state:=u })[k]?=some { x with state:=u }:=by simp [hk]
  obtain ⟨g2,cap2,c2,Hi2,Hr2,hv2,_,_,_,_,⟨gp2,cp2,rfl,hrow2⟩,hcell2,hopen2,_,hset2⟩:=h3.open2 hx2
  injection hv2 with hv2 _ hcc
  injection hv2 with hv2
  injection hv2 with hv2
  subst hv2
  have h5:=hopen2 _ _ h4
  have h6:=(hcell2 _ _ h5.right).2 1 (by omega)
  obtain ⟨H2,h7,h8⟩:=hset2 _ _ 1 (.int .i64 t) { x with state:=u,taken:=t } Hi2 (by omega) ⟨gp2,cp2,rfl,hrow2⟩ h5
  rw [List.set_set] at h7
  obtain ⟨H3,h9,h10⟩:=hback _ F _ H2 (by simp) (hsetok _ hou) (by simpa using h7) h8
  refine ⟨by simpa using h6.2,by simpa using h6.1,H3,h9,by simpa using h10⟩
end Go.Proofs.YtoelopghilbfeaaGreat
namespace Go.Proofs.YtoelopghilbfeaaGreat
open Go.RowKit
set_option linter.unusedSimpArgs false
set_option linter.unusedVariables false
theorem ywrong_any (c:Int) (w:World) (Fr:HL) (hc:c≠0) (hH:Holds w Fr):Calls Tryz.prog 86 #[.int .i64 c] w (RetErr c w Fr):=by
 have hc':=Lib.hid hc;clear hc
 go_enter Tryz.func86,Tryz.ntmps86
 go_wp2
 go_ret
 exact ⟨_,_,rfl,.inr ⟨hc'.out,w.heap.size,_,rfl,rfl⟩,hH.alloc _,(Grew.refl w).alloc _⟩
def RetNone (c:Int) (w:World) (Fr:HL) (e:Ending) (w':World):Prop:=∃ ve H,e=.returned (.tuple #[.pointer none,ve])∧IsErr ve c H∧Holds w' (H++Fr)∧Grew w w'
section
variable {v:Value} {y:List YB} {H Fr:HL} {w:World}
theorem yat_no (b:Int) (h:IsYard v y H) (hH:Holds w (H++Fr)) (hb:¬ (0≤b∧b<(y.length:Int))):Calls Tryz.prog 85 #[v,.int .i64 b] w (RetNone 2 w (H++Fr)):=by
 obtain ⟨p,A,c,rfl,hl,hc,hview⟩:=h.view
 have c0:=hview w Fr hH
 unfold maxLen at hc
 clear hview h
 generalize H++Fr=F at *
 generalize y.length=n at *
 have W2:=Lib.hid (fun (w:World) hx=>ywrong_any 2 w F (by omega) hx)
 have HH:=Lib.hid hH;clear hH
 have h2:b<0∨(¬ b<0∧(n:Int)≤b):=by omega
 clear hb
 rcases h2 with h2 | ⟨h2,h3⟩
 all_goals
  go_enter Tryz.func85,Tryz.ntmps85
  go_wp2_with fail
  refine (W2.out _ HH.out).mono ?_
  rintro e w1 ⟨v1,H1,rfl,he,hH1,hg1⟩
  have HE:=Lib.hid he;clear he
  go_wp2_with fail
  go_ret2
  exact ⟨_,H1,rfl,HE.out,hH1,hg1⟩
theorem yat_yes {p g cap n:Nat} (k:Nat) (w:World) (hk:k<n) (hn:n≤32) (hcap:n≤cap) (c0:w.cell? ⟨p,0,none⟩=some (.slice (some ⟨g,0,none⟩) n cap)) :
  Calls Tryz.prog 85 #[.pointer (some ⟨p,0,none⟩),.int .i64 (k:Int)] w fun e w'=>e=.returned (.tuple #[.pointer (some ⟨g,k * 3,none⟩),.nilIface])∧w=w':=by
 go_enter Tryz.func85,Tryz.ntmps85
 go_wp2_with fail
 go_ret2
 exact ⟨rfl,rfl⟩
def Yat (y:List YB) (b:Int):Option YB:=if 0≤b∧b<(y.length:Int) then y[b.toNat]? else none
theorem Yat_some {y:List YB} {b:Int} {x:YB} (h:Yat y b=some x):∃ k:Nat,b=(k:Int)∧k<y.length∧y[k]?=some x:=by
 unfold Yat at h
 split at h
 ·rename_i hb
  obtain ⟨k,rfl⟩:=Int.eq_ofNat_of_zero_le hb.1
  exact ⟨k,rfl,by omega,by simpa using h⟩
 ·cases h
theorem Yat_none {y:List YB} {b:Int} (h:Yat y b=none):¬ (0≤b∧b<(y.length:Int)):=by
 intro hb
 unfold Yat at h
 rw [if_pos hb] at h
 obtain ⟨k,rfl⟩:=Int.eq_ofNat_of_zero_le hb.1
 have hk:k<y.length:=by omega
 simp [hk] at h
def Yset (y:List YB) (b:Int) (x:YB):List YB:=y.set b.toNat x
def Yturn (y:List YB) (b:Int) (s t:Int):List YB × Int:=match Yat y b with
 |none=>(y,2)
 |some x=>if x.state=s then (Yset y b { x with state:=t },0) else (y,9)
def Yopen (y:List YB) (b:Int):List YB × Int:=match Yat y b with
 |none=>(y,2)
 |some x=>if x.state=1 then (Yset y b { x with state:=2,taken:=0 },0) else (y,9)
end
end Go.Proofs.YtoelopghilbfeaaGreat
namespace Go.Proofs.YtoelopghilbfeaaGreat
open Go.RowKit
set_option linter.unusedSimpArgs false
set_option linter.unusedVariables false
theorem RetNone.lit {c:Int} {w w':World} {Fr:HL} {e:Ending} (hc:c≠0) (h:RetNone c w Fr e w') :
  ∃ b s,e=.returned (.tuple #[.pointer none,.iface 117 (.pointer (some ⟨b,0,none⟩))])∧Holds w' ((b,.cells #[.int .i64 c,.string s] 119)::Fr)∧Grew w w':=by
 obtain ⟨ve,H1,rfl,he,hH1,hg1⟩:=h
 rcases he with ⟨h0,_⟩ | ⟨_,b,s,rfl,rfl⟩
 ·exact absurd h0 hc
 ·exact ⟨b,s,rfl,hH1,hg1⟩
theorem isErr_lit {c:Int} (hc:c≠0) (b:Nat) (s:ByteArray):IsErr (.iface 117 (.pointer (some ⟨b,0,none⟩))) c [(b,.cells #[.int .i64 c,.string s] 119)]:=.inr ⟨hc,b,s,rfl,rfl⟩
theorem RetErr.lit {c:Int} {w w':World} {Fr:HL} {e:Ending} (hc:c≠0) (h:RetErr c w Fr e w') :
  ∃ b s,e=.returned (.iface 117 (.pointer (some ⟨b,0,none⟩)))∧Holds w' ((b,.cells #[.int .i64 c,.string s] 119)::Fr)∧Grew w w':=by
 obtain ⟨ve,H1,rfl,he,hH1,hg1⟩:=h
 rcases he with ⟨h0,_⟩ | ⟨_,b,s,rfl,rfl⟩
 ·exact absurd h0 hc
 ·exact ⟨b,s,rfl,hH1,hg1⟩
def RetYE (v:Value) (r:List YB × Int) (w:World) (Fr:HL) (e:Ending) (w':World):Prop:=∃ ve H He,e=.returned ve∧IsErr ve r.2 He∧IsYard v r.1 H∧Holds w' (H++(He++Fr))∧Grew w w'
theorem Yturn_none {y:List YB} {b s t:Int} (ha:Yat y b=none):Yturn y b s t=(y,2):=by simp [Yturn,ha]
theorem Yturn_ok {y:List YB} {b s t:Int} {x:YB} (ha:Yat y b=some x) (hs:x.state=s):Yturn y b s t=(Yset y b { x with state:=t },0):=by simp [Yturn,ha,hs]
theorem Yturn_no {y:List YB} {b s t:Int} {x:YB} (ha:Yat y b=some x) (hs:x.state≠s):Yturn y b s t=(y,9):=by simp [Yturn,ha,hs]
section
variable {v:Value} {y:List YB} {H Fr:HL} {w:World}
set_option maxRecDepth 20000 in
theorem yturn_any (b s t:Int) (h:IsYard v y H) (hH:Holds w (H++Fr)) (ht:0≤t∧t≤100):Calls Tryz.prog 110 #[v,.int .i64 b,.int .i64 s,.int .i64 t] w (RetYE v (Yturn y b s t) w Fr):=by
 have HI:=Lib.hid h
 cases ha:Yat y b with
 |none =>
  rw [Yturn_none ha]
  have HN:=Lib.hid (yat_no (w:=w) b h hH (Yat_none ha))
  have hne:=err_ne
  clear ha h
  go_enter Tryz.func110,Tryz.ntmps110
  go_wp2_with fail
  refine HN.out.mono fun e w1 hr=>?_
  obtain ⟨be,se,rfl,hH1,hg1⟩:=hr.lit (by decide)
  have HH1:=Lib.hid hH1
  clear HN hH1 hr
  go_wp2_with fail
  go_ret
  exact ⟨_,H,_,rfl,isErr_lit (c:=2) (by decide) be se,HI.out,Holds.swap (A:=[_]) HH1.out,hg1⟩
 |some x =>
  obtain ⟨k,rfl,hk,hx⟩:=Yat_some ha
  have hy:=h.small.1
  obtain ⟨p,g,cap,gp,cp,rfl,hc1,hc2,_,hxo,hcells,hset,hse2,hse3⟩:=h.open_ hx
  obtain ⟨c0,c1,c2,c3,f1,f2,hrd⟩:=hcells w Fr hH
  clear hse2 hse3 hrd
  have HA:=Lib.hid (yat_yes k w hk hy hc1 c0)
  have hnn:=nil_ne
  have HH:=Lib.hid hH
  obtain ⟨H',hy',hh'⟩:=hset w Fr t hH ⟨hxo.1,hxo.2.1,hxo.2.2.1,ht⟩
  have HY:=Lib.hid hy'
  have HHF:=Lib.hid hh'
  have W9:=Lib.hid (fun (w:World) hx=>ywrong_any 9 w (H++Fr) (by omega) hx)
  clear hx hcells h hset hy' hh' hxo hH
  by_cases hs:x.state=s
  ·rw [Yturn_ok ha hs]
   subst hs
   have e1:(x.state != x.state)=false:=by simp
   clear ha
   go_enter Tryz.func110,Tryz.ntmps110
   go_wp2_with fail
   refine HA.out.mono ?_
   rintro e w1 ⟨rfl,rfl⟩
   clear HA
   go_wp2_with fail
   go_ret
   exact ⟨_,H',[],rfl,IsErr.none,HY.out,HHF.out,(Grew.refl w).setCell _ _⟩
  ·have e1:(x.state != s)=true:=by simpa using hs
   rw [Yturn_no ha hs]
   have hs':=Lib.hid hs;clear hs ha
   go_enter Tryz.func110,Tryz.ntmps110
   go_wp2_with fail
   refine HA.out.mono ?_
   rintro e w1 ⟨rfl,rfl⟩
   clear HA
   go_wp2_with fail
   refine (W9.out _ HH.out).mono fun e w1 hr=>?_
   obtain ⟨be,se,rfl,hH1,hg1⟩:=hr.lit (by decide)
   have HH1:=Lib.hid hH1
   clear hH1 hr
   go_wp2_with fail
   go_ret
   exact ⟨_,H,_,rfl,isErr_lit (c:=9) (by decide) be se,HI.out,Holds.swap (A:=[_]) HH1.out,hg1⟩
set_option maxRecDepth 20000 in
theorem yseal_any (b:Int) (h:IsYard v y H) (hH:Holds w (H++Fr)):Calls Tryz.prog 76 #[v,.int .i64 b] w (RetYE v (Yturn y b 2 3) w Fr):=by
 have HT:=Lib.hid (yturn_any (w:=w) b 2 3 h hH (by omega))
 clear h hH
 go_enter Tryz.func76,Tryz.ntmps76
 go_wp2_with fail
 refine HT.out.mono ?_
 rintro e w1 ⟨ve,H1,He,rfl,he,hy,hH1,hg1⟩
 have HE:=Lib.hid (And.intro he hy);clear he hy HT
 go_wp2_with fail
 go_ret
 exact ⟨_,H1,He,rfl,HE.out.1,HE.out.2,hH1,hg1⟩
set_option maxRecDepth 20000 in
theorem yopen_any (b:Int) (h:IsYard v y H) (hH:Holds w (H++Fr)):Calls Tryz.prog 75 #[v,.int .i64 b] w (RetYE v (Yopen y b) w Fr):=by
 have HT:=Lib.hid (yturn_any (w:=w) b 1 2 h hH (by omega))
 have hnn:=nil_ne
 have hne:=err_ne
 have hbad:∀ c:Int,c≠0→Yturn y b 1 2=(y,c)→Yopen y b=(y,c)→Calls Tryz.prog 75 #[v,.int .i64 b] w (RetYE v (Yopen y b) w Fr):=by
  intro c hc e1 e2
  rw [e2]
  rw [e1] at HT
  have HC:=Lib.hid hc;clear hc
  clear h hH e1 e2
  go_enter Tryz.func75,Tryz.ntmps75
  go_wp2_with fail
  refine HT.out.mono ?_
  rintro e w1 ⟨ve,H1,He,rfl,he,hy,hH1,hg1⟩
  rcases he with ⟨h0,_⟩ | ⟨_,be,se,rfl,rfl⟩
  ·exact absurd h0 HC.out
  ·have HY:=Lib.hid hy;clear hy HT
   go_wp2_with fail
   go_ret
   exact ⟨_,H1,_,rfl,isErr_lit HC.out be se,HY.out,hH1,hg1⟩
 cases ha:Yat y b with
 |none=>exact hbad 2 (by decide) (by simp [Yturn,ha]) (by simp [Yopen,ha])
 |some x =>
  by_cases hs:x.state=1
  ·obtain ⟨k,rfl,hk,hx⟩:=Yat_some ha
   have e1:Yturn y (k:Int) 1 2=(Yset y k { x with state:=2 },0):=by simp [Yturn,ha,hs]
   have e2:Yopen y (k:Int)=(Yset y k { x with state:=2,taken:=0 },0):=by simp [Yopen,ha,hs]
   rw [e2]
   rw [e1] at HT
   have hlen:=h.small.1
   have hxo:=(h.small.2 x (List.mem_of_getElem? hx))
   clear hbad h hH e1 e2 ha
   go_enter Tryz.func75,Tryz.ntmps75
   go_wp2_with fail
   refine HT.out.mono ?_
   rintro e w1 ⟨ve,H1,He,rfl,he,hy,hH1,hg1⟩
   obtain ⟨rfl,rfl⟩:ve=.nilIface∧He=[]:=by
    rcases he with ⟨_,h1,h2⟩ | ⟨h0,_⟩
    ·exact ⟨h1,h2⟩
    ·exact absurd rfl h0
   have hx2:(Yset y k { x with state:=2 })[k]?=some { x with state:=2 }:=by simp [Yset,hk]
   obtain ⟨p,g,cap,gp,cp,rfl,hc1,hc2,hk2,hxo2,hcells,hse1,hset,hse3⟩:=hy.open_ hx2
   obtain ⟨c0,c1,c2,c3,f1,f2,hrd⟩:=hcells w1 Fr hH1
   clear hse1 hse3 hrd hxo2
   obtain ⟨H',hy',hh'⟩:=hset w1 Fr 0 hH1 ⟨by show (0:Int)≤0;omega,by show (0:Int)≤8;omega,hxo.2.2.1,by show (0:Int)≤2∧(2:Int)≤100;omega⟩
   have e3:(Yset y k { x with state:=2 }).set k { ({ x with state:=2 }:YB) with taken:=0 }=Yset y k { x with state:=2,taken:=0 }:=by simp [Yset]
   rw [e3] at hy'
   have HY:=Lib.hid hy'
   have HHF:=Lib.hid hh'
   have hln:(Yset y k { x with state:=2 }).length=y.length:=by simp [Yset]
   rw [hln] at c0 hc1
   clear hcells hset hy' hh' hx hx2 hy hH1 e3 he hln HT hxo
   generalize y.length=n at *
   go_wp2_with fail
   go_ret
   exact ⟨_,H',[],rfl,IsErr.none,HY.out,HHF.out,hg1.setCell _ _⟩
  ·exact hbad 9 (by decide) (by simp [Yturn,ha,hs]) (by simp [Yopen,ha,hs])
end
end Go.Proofs.YtoelopghilbfeaaGreat
namespace Go.Proofs.YtoelopghilbfeaaGreat
open Go.RowKit
set_option linter.unusedSimpArgs false
set_option linter.unusedVariables false
def Yretire (y:List YB) (b:Int):List YB × Int:=match Yat y b with
 |none=>(y,2)
 |some x=>if x.state=4 then (y,9) else (Yset y b { x with state:=4 },0)
def neededTo (ps:List (Bool × Bool)) (k:Nat):List Int:=((List.range k).filter fun i=>(ps.getD i (false,false)).1).map fun i:Nat=>(i:Int)
def Yneeded (y:List YB) (b:Int):List Int:=match Yat y b with | some x=>neededTo x.pages x.pages.length | none=>[]
theorem filter_snoc (p:Nat→Bool) (k:Nat):(List.range (k+1)).filter p=if p k then (List.range k).filter p++[k] else (List.range k).filter p:=by
 rw [List.range_succ,List.filter_append,List.filter_cons,List.filter_nil]
 cases p k <;> simp
theorem neededTo_succ (ps:List (Bool × Bool)) (k:Nat):neededTo ps (k+1)=if (ps.getD k (false,false)).1 then neededTo ps k++[(k:Int)] else neededTo ps k:=by
 unfold neededTo
 rw [filter_snoc]
 split <;> simp
theorem neededTo_len (ps:List (Bool × Bool)) (k:Nat):(neededTo ps k).length≤k:=by
 unfold neededTo
 rw [List.length_map]
 have:=List.length_filter_le (fun i=>(ps.getD i (false,false)).1) (List.range k)
 simpa using this
theorem page_cell {w:World} {b o:Nat} {ps:List (Bool × Bool)} (h:∀ j u,((ps.map pageC).flatten)[j]?=some u→w.cell? ⟨b,o+j,none⟩=some u) {k:Nat} (hk:k<ps.length) :
  w.cell? ⟨b,o+k * 2,none⟩=some (.bool ps[k].1)∧w.cell? ⟨b,o+k * 2+1,none⟩=some (.bool ps[k].2):=by
 have hf:∀ x∈ps.map pageC,x.length=2:=by intro x hx;obtain ⟨a,_,rfl⟩:=List.mem_map.1 hx;rfl
 have h0:=flat_get (size:=2) _ hf k 0 (pageC ps[k]) (by simp [hk]) (by omega)
 have h1:=flat_get (size:=2) _ hf k 1 (pageC ps[k]) (by simp [hk]) (by omega)
 exact ⟨by have:=h _ _ h0;simpa using this,by have:=h _ _ h1;simpa [Nat.add_assoc] using this⟩
def NumsTo (l:Nat→List Int) (n:Nat) (F:HL) (w:World) (ov iv:Value) (wr:World):Prop :=
 ∃ (k:Nat) (H:HL),k≤n∧iv=.int .i64 k∧IsNums ov (l k) H∧Holds wr (H++F)∧Grew w wr
section
variable {v:Value} {y:List YB} {H Fr:HL} {w:World}
set_option maxRecDepth 20000 in
theorem yretire_any (b:Int) (h:IsYard v y H) (hH:Holds w (H++Fr)):Calls Tryz.prog 77 #[v,.int .i64 b] w (RetYE v (Yretire y b) w Fr):=by
 have HI:=Lib.hid h
 cases ha:Yat y b with
 |none =>
  rw [show Yretire y b=(y,2) by simp [Yretire,ha]]
  have HN:=Lib.hid (yat_no (w:=w) b h hH (Yat_none ha))
  have hne:=err_ne
  clear ha h
  go_enter Tryz.func77,Tryz.ntmps77
  go_wp2_with fail
  refine HN.out.mono fun e w1 hr=>?_
  obtain ⟨be,se,rfl,hH1,hg1⟩:=hr.lit (by decide)
  have HH1:=Lib.hid hH1
  clear HN hH1 hr
  go_wp2_with fail
  go_ret
  exact ⟨_,H,_,rfl,isErr_lit (c:=2) (by decide) be se,HI.out,Holds.swap (A:=[_]) HH1.out,hg1⟩
 |some x =>
  obtain ⟨k,rfl,hk,hx⟩:=Yat_some ha
  have hy:=h.small.1
  obtain ⟨p,g,cap,gp,cp,rfl,hc1,hc2,_,hxo,hcells,hset,hse2,hse3⟩:=h.open_ hx
  obtain ⟨c0,c1,c2,c3,f1,f2,hrd⟩:=hcells w Fr hH
  clear hse2 hse3 hrd
  have HA:=Lib.hid (yat_yes k w hk hy hc1 c0)
  have hnn:=nil_ne
  have HH:=Lib.hid hH
  obtain ⟨H',hy',hh'⟩:=hset w Fr 4 hH ⟨hxo.1,hxo.2.1,hxo.2.2.1,by show (0:Int)≤4∧(4:Int)≤100;omega⟩
  have HY:=Lib.hid hy'
  have HHF:=Lib.hid hh'
  have W9:=Lib.hid (fun (w:World) hx=>ywrong_any 9 w (H++Fr) (by omega) hx)
  clear hx hcells h hset hy' hh' hxo hH
  by_cases hs:x.state=4
  ·rw [show Yretire y (k:Int)=(y,9) by simp [Yretire,ha,hs]]
   rw [hs] at c1
   clear ha hs
   go_enter Tryz.func77,Tryz.ntmps77
   go_wp2_with fail
   refine HA.out.mono ?_
   rintro e w1 ⟨rfl,rfl⟩
   clear HA
   go_wp2_with fail
   refine (W9.out _ HH.out).mono fun e w1 hr=>?_
   obtain ⟨be,se,rfl,hH1,hg1⟩:=hr.lit (by decide)
   have HH1:=Lib.hid hH1
   clear hH1 hr
   go_wp2_with fail
   go_ret
   exact ⟨_,H,_,rfl,isErr_lit (c:=9) (by decide) be se,HI.out,Holds.swap (A:=[_]) HH1.out,hg1⟩
  ·rw [show Yretire y (k:Int)=(Yset y k { x with state:=4 },0) by simp [Yretire,ha,hs]]
   have e1:(x.state == 4)=false:=by simpa using hs
   clear ha hs
   go_enter Tryz.func77,Tryz.ntmps77
   go_wp2_with fail
   refine HA.out.mono ?_
   rintro e w1 ⟨rfl,rfl⟩
   clear HA
   go_wp2_with fail
   go_ret
   exact ⟨_,H',[],rfl,IsErr.none,HY.out,HHF.out,(Grew.refl w).setCell _ _⟩
set_option maxRecDepth 20000 in
set_option maxHeartbeats 1000000 in
theorem yneededL_any (b:Int) (h:IsYard v y H) (hH:Holds w (H++Fr)):Calls Tryz.prog 68 #[v,.int .i64 b] w (RetNew (fun v H=>IsNums v (Yneeded y b) H) w (H++Fr)):=by
 cases ha:Yat y b with
 |none =>
  rw [show Yneeded y b=[] by simp [Yneeded,ha]]
  have HN:=Lib.hid (yat_no (w:=w) b h hH (Yat_none ha))
  have hne:=err_ne
  clear ha h
  go_enter Tryz.func68,Tryz.ntmps68
  go_wp2_with fail
  refine HN.out.mono fun e w1 hr=>?_
  obtain ⟨be,se,rfl,hH1,hg1⟩:=hr.lit (by decide)
  have HH1:=Lib.hid hH1
  clear HN hH1 hr
  go_wp2_with fail
  go_ret
  exact ⟨_,[],rfl,IsRow.nil _ _,HH1.out.tail,hg1⟩
 |some x =>
  obtain ⟨k0,rfl,hk,hx⟩:=Yat_some ha
  rw [show Yneeded y (k0:Int)=neededTo x.pages x.pages.length by simp [Yneeded,ha]]
  have hy:=h.small.1
  obtain ⟨p,g,cap,gp,cp,rfl,hc1,hc2,_,hxo,hcells,hse1,hse2,hse3⟩:=h.open_ hx
  obtain ⟨c0,c1,c2,c3,f1,f2,hrd⟩:=hcells w Fr hH
  clear hse1 hse2 hse3 hrd
  have hx8:x.pages.length≤8:=hxo.2.2.1
  have HA:=Lib.hid (yat_yes k0 w hk hy hc1 c0)
  have hnn:=nil_ne
  have HV:=Lib.hid (fun wx hx=>(hcells wx Fr hx).2.2.2.2.2.2)
  clear ha hx hcells h hxo
  generalize H++Fr=F at *
  go_enter Tryz.func68,Tryz.ntmps68
  go_wp2_with fail
  refine HA.out.mono ?_
  rintro e w1 ⟨rfl,rfl⟩
  clear HA
  go_wp2_with fail
  go_loopw [7,23] (fun ov iv wr=>NumsTo (neededTo x.pages) x.pages.length F w ov iv wr) (fun _ iv _=>x.pages.length - (intOf iv).toNat)
  case atStart=>exact ⟨0,[],by omega,rfl,IsRow.nil _ _,hH,Grew.refl w⟩
  case round =>
   obtain ⟨k,H3,hk,rfl,hn,hHr,hgr⟩:=hrel
   obtain ⟨A3,q3,rfl⟩:=hn.val
   have hnl:=neededTo_len x.pages k
   have hsx:=neededTo_succ x.pages k
   have HSX:=Lib.hid hsx;clear hsx
   have HN:=Lib.hid hn;clear hn
   by_cases hlt:k<x.pages.length
   ·obtain ⟨_,A',c',hv,_,_,hrd⟩:=HV.out wr hHr.right
    injection hv with hv1 _ hv3
    subst hv1 hv3
    obtain ⟨b3,o3,hb3,hcell⟩:=hrd (by omega)
    injection hb3 with hb3
    injection hb3 with hb3 ho3
    subst hb3 ho3
    obtain ⟨x0,x1⟩:=page_cell hcell hlt
    rw [Nat.zero_add] at x0 x1
    have hgd:x.pages.getD k (false,false)=x.pages[k]:=by simp [List.getD,hlt]
    rw [hgd] at HSX
    clear hcell hrd hgd
    generalize x.pages[k]=pg at *
    obtain ⟨nd,dt⟩:=pg
    simp only at x0 x1 HSX
    have hHA:=hHr.alloc' (.cells #[.bool nd,.bool dt] 149)
    have hGA:=hgr.alloc (.cells #[.bool nd,.bool dt] 149)
    have hHB:=hHA.alloc' (.cells #[.int .i64 (k:Int)] 3)
    have HHA:=Lib.hid hHA
    have HHB:=Lib.hid hHB
    clear hHA hHB
    cases nd
    ·rw [if_neg (by simp)] at HSX
     go_wp2_with fail
     exact ⟨⟨k+1,H3,by omega,by go_num,by rw [HSX.out];exact HN.out,HHA.out,hGA⟩,by simp [intOf];omega⟩
    ·rw [if_pos rfl] at HSX
     go_wp2_with (at_builtin;refine wpList_append_T tInts (by rfl) (.tmp 30) (.tmp 32) (by rfl) (by rfl) (by rfl) HN.out HHB.out (ReadsAt.one' (by simp)) (by simp [Value.oneCell']) (by simp [maxLen];omega) (by omega) ?_;intro A' c' w' H' hrow hH5 hg5)
     have hfin:NumsTo (neededTo x.pages) x.pages.length F w (.slice A' ((neededTo x.pages k).length+1) c') (.int .i64 ((k:Int)+1)) w':=by
      refine ⟨k+1,H',by omega,by go_num,?_,hH5,(hGA.alloc _).trans hg5⟩
      unfold IsNums
      rw [HSX.out,List.length_append,List.map_append]
      exact hrow
     have HFIN:=Lib.hid hfin
     clear hfin hrow hH5 hg5
     go_wp2_with fail
     exact ⟨HFIN.out,by simp [intOf];omega⟩
   ·obtain rfl:k=x.pages.length:=by omega
    go_wp2_with fail
    go_ret
    exact ⟨_,H3,rfl,HN.out,hHr,hgr⟩
end
end Go.Proofs.YtoelopghilbfeaaGreat
namespace Go.Proofs.YtoelopghilbfeaaGreat
open Go.RowKit
set_option linter.unusedSimpArgs false
set_option linter.unusedVariables false
def Ynext (y:List YB) (b:Int):List YB × Int × Int:=match Yat y b with
 |none=>(y,0,2)
 |some x=>if x.state≠2 then (y,0,9) else if (x.pages.length:Int)≤x.taken then (y,0,7) else (Yset y b { x with taken:=x.taken+1 },x.taken,0)
def Yfree (y:List YB) (b:Int):List YB × Int:=match Yat y b with
 |none=>(y,2)
 |some x=>if (x.state≠2∧x.state≠3)∨Yneeded y b≠[] then (y,9) else (Yset y b { x with state:=1,taken:=0 },0)
def RetYNE (v:Value) (r:List YB × Int × Int) (w:World) (Fr:HL) (e:Ending) (w':World):Prop:=∃ ve H He,e=.returned (.tuple #[.int .i64 r.2.1,ve])∧IsErr ve r.2.2 He∧IsYard v r.1 H∧Holds w' (H++(He++Fr))∧Grew w w'
section
variable {v:Value} {y:List YB} {H Fr:HL} {w:World}
end
end Go.Proofs.YtoelopghilbfeaaGreat
namespace Go.Proofs.YtoelopghilbfeaaGreat
open Go.RowKit
set_option linter.unusedSimpArgs false
set_option linter.unusedVariables false
section
variable {v:Value} {y:List YB} {H Fr:HL} {w:World}
set_option maxRecDepth 20000 in
set_option maxHeartbeats 1000000 in
theorem ynext_any (b:Int) (h:IsYard v y H) (hH:Holds w (H++Fr)):Calls Tryz.prog 48 #[v,.int .i64 b] w (RetYNE v (Ynext y b) w Fr):=by
 have HI:=Lib.hid h
 cases ha:Yat y b with
 |none =>
  rw [show Ynext y b=(y,0,2) by simp [Ynext,ha]]
  have HN:=Lib.hid (yat_no (w:=w) b h hH (Yat_none ha))
  have hne:=err_ne
  clear ha h
  go_enter Tryz.func48,Tryz.ntmps48
  go_wp2_with fail
  refine HN.out.mono fun e w1 hr=>?_
  obtain ⟨be,se,rfl,hH1,hg1⟩:=hr.lit (by decide)
  have HH1:=Lib.hid hH1
  clear HN hH1 hr
  go_wp2_with fail
  go_ret2
  exact ⟨_,H,_,rfl,isErr_lit (c:=2) (by decide) be se,HI.out,Holds.swap (A:=[_]) HH1.out,hg1⟩
 |some x =>
  obtain ⟨k,rfl,hk,hx⟩:=Yat_some ha
  have hy:=h.small.1
  obtain ⟨p,g,cap,gp,cp,rfl,hc1,hc2,_,hxo,hcells,hse1,hset,hse3⟩:=h.open_ hx
  obtain ⟨c0,c1,c2,c3,f1,f2,hrd⟩:=hcells w Fr hH
  have hpl:=hrd.le
  unfold maxLen at hpl
  clear hse1 hse3 hrd
  have HA:=Lib.hid (yat_yes k w hk hy hc1 c0)
  have hnn:=nil_ne
  have HH:=Lib.hid hH
  have HSET:=Lib.hid hset
  have HXO:=Lib.hid hxo
  have W9:=Lib.hid (fun (w:World) hx=>ywrong_any 9 w (H++Fr) (by omega) hx)
  have W7:=Lib.hid (fun (w:World) hx=>ywrong_any 7 w (H++Fr) (by omega) hx)
  have ht0:=hxo.1
  have ht8:=hxo.2.1
  have hp8:=hxo.2.2.1
  clear hx hcells h hset hxo hH
  by_cases hs:x.state=2
  ·rw [hs] at c1
   have hneg:¬ (x.state≠2):=by omega
   by_cases hfu:(x.pages.length:Int)≤x.taken
   ·rw [show Ynext y (k:Int)=(y,0,7) by simp [Ynext,ha,hs,hfu]]
    clear ha hs hneg
    generalize x.taken=t at *
    generalize x.pages.length=n at *
    go_enter Tryz.func48,Tryz.ntmps48
    go_wp2_with fail
    refine HA.out.mono ?_
    rintro e w1 ⟨rfl,rfl⟩
    clear HA
    go_wp2_with fail
    go_quiet (fail)
    go_wp2_with fail
    refine (W7.out _ (HH.out.drewN nq)).mono fun e w1 hr=>?_
    obtain ⟨be,se,rfl,hH1,hg1⟩:=hr.lit (by decide)
    have HH1:=Lib.hid hH1
    clear hH1 hr
    go_wp2_with fail
    go_ret2
    exact ⟨_,H,_,rfl,isErr_lit (c:=7) (by decide) be se,HI.out,Holds.swap (A:=[_]) HH1.out,((Grew.refl w).drewN nq).trans hg1⟩
   ·rw [show Ynext y (k:Int)=(Yset y k { x with taken:=x.taken+1 },x.taken,0) by simp [Ynext,ha,hs,hfu]]
    have hok2:({ x with taken:=x.taken+1 }:YB).ok:=⟨by show 0≤x.taken+1;omega,by show x.taken+1≤8;omega,HXO.out.2.2.1,HXO.out.2.2.2⟩
    have HOK2:=Lib.hid hok2;clear hok2
    clear ha hs hneg
    go_enter Tryz.func48,Tryz.ntmps48
    go_wp2_with fail
    refine HA.out.mono ?_
    rintro e w1 ⟨rfl,rfl⟩
    clear HA
    go_wp2_with fail
    go_quiet (fail)
    obtain ⟨H',hy',hh'⟩:=HSET.out (w.drewN nq) Fr (x.taken+1) (HH.out.drewN nq) HOK2.out
    have HY:=Lib.hid hy'
    have HHF:=Lib.hid hh'
    clear hy' hh'
    go_wp2_with fail
    go_ret2
    exact ⟨_,H',[],rfl,IsErr.none,HY.out,HHF.out,((Grew.refl w).drewN nq).setCell _ _⟩
  ·have e1:(x.state != 2)=true:=by simpa using hs
   rw [show Ynext y (k:Int)=(y,0,9) by simp [Ynext,ha,hs]]
   clear ha hs
   go_enter Tryz.func48,Tryz.ntmps48
   go_wp2_with fail
   refine HA.out.mono ?_
   rintro e w1 ⟨rfl,rfl⟩
   clear HA
   go_wp2_with fail
   refine (W9.out _ HH.out).mono fun e w1 hr=>?_
   obtain ⟨be,se,rfl,hH1,hg1⟩:=hr.lit (by decide)
   have HH1:=Lib.hid hH1
   clear hH1 hr
   go_wp2_with fail
   go_ret2
   exact ⟨_,H,_,rfl,isErr_lit (c:=9) (by decide) be se,HI.out,Holds.swap (A:=[_]) HH1.out,hg1⟩
set_option maxRecDepth 20000 in
set_option maxHeartbeats 1000000 in
theorem yfree_any (b:Int) (h:IsYard v y H) (hH:Holds w (H++Fr)):Calls Tryz.prog 84 #[v,.int .i64 b] w (RetYE v (Yfree y b) w Fr):=by
 have HI:=Lib.hid h
 cases ha:Yat y b with
 |none =>
  rw [show Yfree y b=(y,2) by simp [Yfree,ha]]
  have HN:=Lib.hid (yat_no (w:=w) b h hH (Yat_none ha))
  have hne:=err_ne
  clear ha h
  go_enter Tryz.func84,Tryz.ntmps84
  go_wp2_with fail
  refine HN.out.mono fun e w1 hr=>?_
  obtain ⟨be,se,rfl,hH1,hg1⟩:=hr.lit (by decide)
  have HH1:=Lib.hid hH1
  clear HN hH1 hr
  go_wp2_with fail
  go_ret
  exact ⟨_,H,_,rfl,isErr_lit (c:=2) (by decide) be se,HI.out,Holds.swap (A:=[_]) HH1.out,hg1⟩
 |some x =>
  obtain ⟨k,rfl,hk,hx⟩:=Yat_some ha
  have hy:=h.small.1
  have HNE:=Lib.hid (yneededL_any (w:=w) (k:Int) h hH)
  have hnl:(Yneeded y (k:Int)).length≤8:=by
   rw [show Yneeded y (k:Int)=neededTo x.pages x.pages.length by simp [Yneeded,ha]]
   have:=neededTo_len x.pages x.pages.length
   have:=(h.small.2 x (List.mem_of_getElem? hx)).2.2.1
   omega
  have HFR:∀ r,Yfree y (k:Int)=r→Yfree y (k:Int)=r:=fun _ h=>h
  have hyf:Yfree y (k:Int)=if (x.state≠2∧x.state≠3)∨Yneeded y (k:Int)≠[] then (y,9) else (Yset y k { x with state:=1,taken:=0 },0):=by simp [Yfree,ha]
  rw [hyf]
  obtain ⟨p,g,cap,gp,cp,rfl,hc1,hc2,_,hxo,hcells,hse1,hse2,hse3,hset⟩:=h.open_ hx
  obtain ⟨c0,c1,c2,c3,f1,f2,hrd⟩:=hcells w Fr hH
  clear hse1 hse2 hse3 hrd HFR
  have HA:=Lib.hid (yat_yes k w hk hy hc1 c0)
  have hnn:=nil_ne
  have HH:=Lib.hid hH
  have hok2:({ x with state:=1,taken:=0 }:YB).ok:=⟨by show (0:Int)≤0;omega,by show (0:Int)≤8;omega,hxo.2.2.1,by show (0:Int)≤1∧(1:Int)≤100;omega⟩
  have HV:=Lib.hid (fun wx F (hx:Holds wx (H++F))=>And.intro (hcells wx F hx).2.1 (And.intro (hcells wx F hx).2.2.1 (And.intro (hcells wx F hx).2.2.2.2.1 (hcells wx F hx).2.2.2.2.2.1)))
  have HSET:=Lib.hid (fun wx F (hx:Holds wx (H++F))=>hset wx F 1 0 hx hok2)
  have W9:=Lib.hid (fun (w:World) F hx=>ywrong_any 9 w F (by omega) hx)
  have HPO:=Lib.hid (show Yset y (k:Int) { x with state:=1,taken:=0 }=y.set k { x with state:=1,taken:=0 } by simp [Yset])
  clear hset hcells hxo hok2 h hx ha hyf hH
  have hbad:∀ (w1:World) (F:HL),Holds w1 (H++F)→Calls Tryz.prog 86 #[.int .i64 9] w1 (RetErr 9 w1 (H++F)):=fun w1 F hF=>W9.out w1 _ hF
  have HBAD:=Lib.hid hbad;clear hbad
  by_cases h23:x.state≠2∧x.state≠3
  ·rw [if_pos (.inl h23)]
   have e1:(x.state != 2)=true:=by simpa using h23.1
   have e2:(x.state != 3)=true:=by simpa using h23.2
   clear h23
   go_enter Tryz.func84,Tryz.ntmps84
   go_wp2_with fail
   refine HA.out.mono ?_
   rintro e w1 ⟨rfl,rfl⟩
   clear HA
   go_wp2_with fail
   refine (HBAD.out _ _ HH.out).mono fun e w1 hr=>?_
   obtain ⟨be,se,rfl,hH1,hg1⟩:=hr.lit (by decide)
   have HH1:=Lib.hid hH1
   clear hH1 hr
   go_wp2_with fail
   go_ret
   exact ⟨_,H,_,rfl,isErr_lit (c:=9) (by decide) be se,HI.out,Holds.swap (A:=[_]) HH1.out,hg1⟩
  ·have e12:((x.state != 2)=false)∨((x.state != 2)=true∧(x.state != 3)=false):=by
    by_cases h2:x.state=2
    ·left;simp [h2]
    ·right;refine ⟨by simpa using h2,?_⟩
     have:x.state=3:=by omega
     simp [this]
   have hif:((x.state≠2∧x.state≠3)∨Yneeded y (k:Int)≠[])↔Yneeded y (k:Int)≠[]:=by
    constructor
    ·rintro (h | h)
     ·exact absurd h h23
     ·exact h
    ·exact .inr
   simp only [hif]
   clear hif h23
   generalize hyn:Yneeded y (k:Int)=yn at *
   clear hyn
   by_cases hnn0:yn=[]
   ·subst hnn0
    rw [if_neg (by simp)]
    rcases e12 with e1 | ⟨e1,e2⟩
    all_goals
     go_enter Tryz.func84,Tryz.ntmps84
     go_wp2_with fail
     refine HA.out.mono ?_
     rintro e w1 ⟨rfl,rfl⟩
     clear HA
     go_wp2_with fail
     refine HNE.out.mono ?_
     rintro e w1 ⟨nv,Hn,rfl,hnv,hH1,hg1⟩
     obtain ⟨An,qn,rfl⟩:=hnv.val
     have hHx:Holds w1 (H++(Hn++Fr)):=hH1.swap
     obtain ⟨d1,d2,g1,g2⟩:=HV.out w1 _ hHx
     obtain ⟨g3,d3,H2,h2,hh2⟩:=HSET.out w1 _ hHx
     have H2':=Lib.hid h2
     have HH2:=Lib.hid hh2
     clear h2 hh2 hnv hH1 hHx HNE c1 c2 f1 f2
     go_wp2_with fail
     go_ret
     exact ⟨_,H2,[],rfl,IsErr.none,by rw [HPO.out];exact H2'.out,Holds.mid (A:=H2) (B:=Hn) HH2.out,(hg1.setCell _ _).setCell _ _⟩
   ·rw [if_pos hnn0]
    have hlen:(0:Int)<(yn.length:Int):=by
     cases yn with
     |nil=>exact absurd rfl hnn0
     |cons a l=>show (0:Int)<((l.length+1:Nat):Int);omega
    clear hnn0
    rcases e12 with e1 | ⟨e1,e2⟩
    all_goals
     go_enter Tryz.func84,Tryz.ntmps84
     go_wp2_with fail
     refine HA.out.mono ?_
     rintro e w1 ⟨rfl,rfl⟩
     clear HA
     go_wp2_with fail
     refine HNE.out.mono ?_
     rintro e w1 ⟨nv,Hn,rfl,hnv,hH1,hg1⟩
     obtain ⟨An,qn,rfl⟩:=hnv.val
     have hHx:Holds w1 (H++(Hn++Fr)):=hH1.swap
     have HHX:=Lib.hid hHx
     clear hnv hH1 hHx HNE c1 c2 f1 f2
     go_wp2_with fail
     refine (HBAD.out _ _ HHX.out).mono fun e w2 hr=>?_
     obtain ⟨be,se,rfl,hH2,hg2⟩:=hr.lit (by decide)
     have HH2:=Lib.hid hH2
     clear hH2 hr
     go_wp2_with fail
     go_ret
     exact ⟨_,H,_,rfl,isErr_lit (c:=9) (by decide) be se,HI.out,HH2.out.p,hg1.trans hg2⟩
end
end Go.Proofs.YtoelopghilbfeaaGreat
namespace Go.Proofs.YtoelopghilbfeaaGreat
open Go.RowKit
set_option linter.unusedSimpArgs false
set_option linter.unusedVariables false
def Ypg (y:List YB) (b n:Int):Option (YB × Bool × Bool):=match Yat y b with
 |none=>none
 |some x=>if 0≤n∧n<(x.pages.length:Int) then some (x,x.pages.getD n.toNat (false,false)) else none
def Ypset (y:List YB) (b n:Int) (x:YB) (p:Bool × Bool):List YB:=Yset y b { x with pages:=x.pages.set n.toNat p }
def Yneed (y:List YB) (b n:Int) (d:Bool):List YB × Int:=match Ypg y b n with
 |none=>(y,2)
 |some (x,p)=>if x.taken≤n∨p.1=true then (y,9) else (Ypset y b n x (true,d),0)
def Ydrop (y:List YB) (b n:Int):List YB × Int:=match Ypg y b n with
 |none=>(y,2)
 |some (x,p)=>if p.1=true then (Ypset y b n x (false,false),0) else (y,8)
def PgAt (v:Value) (y:List YB) (H:HL) (k i:Nat) (x:YB) (q:Bool × Bool) (gp:Nat):Prop :=
 (∀ (w:World) (F:HL),Holds w (H++F)→w.cell? ⟨gp,i * 2,none⟩=some (.bool q.1)∧w.cell? ⟨gp,i * 2+1,none⟩=some (.bool q.2)∧w.frozen? ⟨gp,i * 2,none⟩=false∧w.frozen? ⟨gp,i * 2+1,none⟩=false ∧
  (∀ u:Bool × Bool,∃ H',IsYard v (Ypset y k i x u) H'∧Holds ((w.setCell ⟨gp,i * 2,none⟩ (.bool u.1)).setCell ⟨gp,i * 2+1,none⟩ (.bool u.2)) (H'++F)) ∧
  (∀ u:Bool,∃ H',IsYard v (Ypset y k i x (q.1,u)) H'∧Holds (w.setCell ⟨gp,i * 2+1,none⟩ (.bool u)) (H'++F)))
section
variable {v:Value} {y:List YB} {H Fr:HL} {w:World}
theorem Ypg_some {b n:Int} {x:YB} {q:Bool × Bool} (h:Ypg y b n=some (x,q)):Yat y b=some x∧∃ i:Nat,n=(i:Int)∧i<x.pages.length∧x.pages[i]?=some q:=by
 unfold Ypg at h
 cases ha:Yat y b with
 |none=>rw [ha] at h;cases h
 |some x2 =>
  rw [ha] at h
  simp only at h
  split at h
  ·rename_i hb
   obtain ⟨i,rfl⟩:=Int.eq_ofNat_of_zero_le hb.1
   have hi:i<x2.pages.length:=by omega
   simp only [Option.some.injEq,Prod.mk.injEq] at h
   obtain ⟨rfl,h⟩:=h
   refine ⟨rfl,i,rfl,hi,?_⟩
   rw [← h];simp [List.getD,hi]
  ·cases h
set_option maxRecDepth 20000 in
theorem ypage_no (b n:Int) (h:IsYard v y H) (hH:Holds w (H++Fr)) (hp:Ypg y b n=none):Calls Tryz.prog 113 #[v,.int .i64 b,.int .i64 n] w (RetNone 2 w (H++Fr)):=by
 have hne:=err_ne
 have hnn:=nil_ne
 cases ha:Yat y b with
 |none =>
  have HN:=Lib.hid (yat_no (w:=w) b h hH (Yat_none ha))
  clear ha h hp
  go_enter Tryz.func113,Tryz.ntmps113
  go_wp2_with fail
  refine HN.out.mono fun e w1 hr=>?_
  obtain ⟨be,se,rfl,hH1,hg1⟩:=hr.lit (by decide)
  have HH1:=Lib.hid hH1
  clear HN hH1 hr
  go_wp2_with fail
  go_ret2
  exact ⟨_,_,rfl,isErr_lit (c:=2) (by decide) be se,HH1.out,hg1⟩
 |some x =>
  have hn:¬ (0≤n∧n<(x.pages.length:Int)):=by
   intro hn
   unfold Ypg at hp
   rw [ha] at hp
   simp only [if_pos hn] at hp
   cases hp
  obtain ⟨k,rfl,hk,hx⟩:=Yat_some ha
  have hy:=h.small.1
  obtain ⟨p,g,cap,gp,cp,rfl,hc1,hc2,_,hxo,hcells,hse1⟩:=h.open_ hx
  obtain ⟨c0,c1,c2,c3,f1,f2,hrd⟩:=hcells w Fr hH
  have hpl:=hrd.le
  unfold maxLen at hpl
  have HA:=Lib.hid (yat_yes k w hk hy hc1 c0)
  have HH:=Lib.hid hH
  have W2:=Lib.hid (fun (w:World) hx=>ywrong_any 2 w (H++Fr) (by omega) hx)
  clear hse1 hrd hx hcells h hxo hH ha hp
  generalize x.pages.length=m at *
  have h2:n<0∨(¬ n<0∧(m:Int)≤n):=by omega
  clear hn
  rcases h2 with h2 | ⟨h2,h3⟩
  all_goals
   go_enter Tryz.func113,Tryz.ntmps113
   go_wp2_with fail
   refine HA.out.mono ?_
   rintro e w1 ⟨rfl,rfl⟩
   clear HA
   go_wp2_with fail
   refine (W2.out _ HH.out).mono fun e w1 hr=>?_
   obtain ⟨be,se,rfl,hH1,hg1⟩:=hr.lit (by decide)
   have HH1:=Lib.hid hH1
   clear hH1 hr
   go_wp2_with fail
   go_ret2
   exact ⟨_,_,rfl,isErr_lit (c:=2) (by decide) be se,HH1.out,hg1⟩
set_option maxRecDepth 20000 in
theorem ypage_yes (k i:Nat) {x:YB} {q:Bool × Bool} (h:IsYard v y H) (hH:Holds w (H++Fr)) (ha:Yat y (k:Int)=some x) (hi:x.pages[i]?=some q) :
  ∃ gp,PgAt v y H k i x q gp∧Calls Tryz.prog 113 #[v,.int .i64 (k:Int),.int .i64 (i:Int)] w fun e w'=>e=.returned (.tuple #[.pointer (some ⟨gp,i * 2,none⟩),.nilIface])∧w=w':=by
 obtain ⟨k',hkk,hk,hx⟩:=Yat_some ha
 obtain rfl:k=k':=by omega
 have hy:=h.small.1
 obtain ⟨p,g,cap,gp,cp,rfl,hc1,hc2,_,hxo,hcells,_,_,hpg,_⟩:=h.open_ hx
 obtain ⟨hil,hiq⟩:=List.getElem?_eq_some_iff.1 hi
 refine ⟨gp,?_,?_⟩
 ·intro w F hH
  obtain ⟨_,_,_,_,_,_,_,A,c,hv,_,_,hrd⟩:=hcells w F hH
  injection hv with hv1 _ hv3
  subst hv1 hv3
  obtain ⟨b3,o3,hb3,hcell⟩:=hrd (by omega)
  injection hb3 with hb3
  injection hb3 with hb3 ho3
  subst hb3 ho3
  obtain ⟨x0,x1⟩:=page_cell hcell hil
  rw [Nat.zero_add] at x0 x1
  rw [hiq] at x0 x1
  obtain ⟨f1,f2,s1,s2⟩:=hpg i hil w F hH
  have hgd:x.pages.getD i (false,false)=q:=by simp [List.getD,hi]
  refine ⟨x0,x1,f1,f2,fun u=>?_,fun u=>?_⟩
  ·obtain ⟨H',h1,h2⟩:=s1 u
   exact ⟨H',by simpa [Ypset,Yset] using h1,h2⟩
  ·obtain ⟨H',h1,h2⟩:=s2 u
   rw [hgd] at h1
   exact ⟨H',by simpa [Ypset,Yset] using h1,h2⟩
 ·obtain ⟨c0,c1,c2,c3,f1,f2,hrd⟩:=hcells w Fr hH
  have hpl:=hrd.le
  unfold maxLen at hpl
  have HA:=Lib.hid (yat_yes k w hk hy hc1 c0)
  have hnn:=nil_ne
  have hii:(i:Int)<(x.pages.length:Int):=by omega
  clear hpg hrd hx hcells h hxo hH ha hi hiq
  generalize x.pages.length=m at *
  go_enter Tryz.func113,Tryz.ntmps113
  go_wp2_with fail
  refine HA.out.mono ?_
  rintro e w1 ⟨rfl,rfl⟩
  clear HA
  go_wp2_with fail
  go_ret2
  exact ⟨rfl,rfl⟩
end
end Go.Proofs.YtoelopghilbfeaaGreat
namespace Go.Proofs.YtoelopghilbfeaaGreat
open Go.RowKit
set_option linter.unusedSimpArgs false
set_option linter.unusedVariables false
section
variable {v:Value} {y:List YB} {H Fr:HL} {w:World}
set_option maxRecDepth 20000 in
theorem yneedd_no (b n:Int) (c:Int) (h:IsYard v y H) (hH:Holds w (H++Fr)) (hp:(Ypg y b n=none∧c=2)∨(∃ x q,Ypg y b n=some (x,q)∧q.1=false∧c=8)):Calls Tryz.prog 94 #[v,.int .i64 b,.int .i64 n] w (RetNone c w (H++Fr)):=by
 have hne:=err_ne
 have hnn:=nil_ne
 rcases hp with ⟨hp,rfl⟩ | ⟨x,q,hp,hq,rfl⟩
 ·have HN:=Lib.hid (ypage_no (w:=w) b n h hH hp)
  clear h hp
  go_enter Tryz.func94,Tryz.ntmps94
  go_wp2_with fail
  refine HN.out.mono fun e w1 hr=>?_
  obtain ⟨be,se,rfl,hH1,hg1⟩:=hr.lit (by decide)
  have HH1:=Lib.hid hH1
  clear HN hH1 hr
  go_wp2_with fail
  go_ret2
  exact ⟨_,_,rfl,isErr_lit (c:=2) (by decide) be se,HH1.out,hg1⟩
 ·obtain ⟨ha,i,rfl,hi,hx⟩:=Ypg_some hp
  obtain ⟨k,rfl,hk,_⟩:=Yat_some ha
  obtain ⟨gp,hpg,hc⟩:=ypage_yes k i h hH ha hx
  obtain ⟨x0,x1,f1,f2,s1,s2⟩:=hpg w Fr hH
  rw [hq] at x0
  have HC:=Lib.hid hc
  have HH:=Lib.hid hH
  have W8:=Lib.hid (fun (w:World) hx=>ywrong_any 8 w (H++Fr) (by omega) hx)
  clear h hp ha hx hpg hc s1 s2 hq hH
  go_enter Tryz.func94,Tryz.ntmps94
  go_wp2_with fail
  refine HC.out.mono ?_
  rintro e w1 ⟨rfl,rfl⟩
  clear HC
  go_wp2_with fail
  refine (W8.out _ HH.out).mono fun e w1 hr=>?_
  obtain ⟨be,se,rfl,hH1,hg1⟩:=hr.lit (by decide)
  have HH1:=Lib.hid hH1
  clear hH1 hr
  go_wp2_with fail
  go_ret2
  exact ⟨_,_,rfl,isErr_lit (c:=8) (by decide) be se,HH1.out,hg1⟩
set_option maxRecDepth 20000 in
theorem yneedd_yes (b n:Int) {x:YB} {q:Bool × Bool} (h:IsYard v y H) (hH:Holds w (H++Fr)) (hp:Ypg y b n=some (x,q)) (hq:q.1=true) :
  ∃ k i gp:Nat,b=k∧n=i∧PgAt v y H k i x q gp∧Calls Tryz.prog 94 #[v,.int .i64 b,.int .i64 n] w fun e w'=>e=.returned (.tuple #[.pointer (some ⟨gp,i * 2,none⟩),.nilIface])∧w=w':=by
 have hnn:=nil_ne
 obtain ⟨ha,i,rfl,hi,hx⟩:=Ypg_some hp
 obtain ⟨k,rfl,hk,_⟩:=Yat_some ha
 obtain ⟨gp,hpg,hc⟩:=ypage_yes k i h hH ha hx
 refine ⟨k,i,gp,rfl,rfl,hpg,?_⟩
 obtain ⟨x0,x1,f1,f2,s1,s2⟩:=hpg w Fr hH
 rw [hq] at x0
 have HC:=Lib.hid hc
 clear h hp ha hx hpg hc s1 s2 hq hH
 go_enter Tryz.func94,Tryz.ntmps94
 go_wp2_with fail
 refine HC.out.mono ?_
 rintro e w1 ⟨rfl,rfl⟩
 clear HC
 go_wp2_with fail
 go_ret2
 exact ⟨rfl,rfl⟩
set_option maxRecDepth 20000 in
theorem ydrop_any (b n:Int) (h:IsYard v y H) (hH:Holds w (H++Fr)):Calls Tryz.prog 54 #[v,.int .i64 b,.int .i64 n] w (RetYE v (Ydrop y b n) w Fr):=by
 have HI:=Lib.hid h
 have hne:=err_ne
 have hnn:=nil_ne
 have hbad:∀ c:Int,c≠0→Ydrop y b n=(y,c)→((Ypg y b n=none∧c=2)∨(∃ x q,Ypg y b n=some (x,q)∧q.1=false∧c=8))→Calls Tryz.prog 54 #[v,.int .i64 b,.int .i64 n] w (RetYE v (Ydrop y b n) w Fr):=by
  intro c hc e1 hp
  rw [e1]
  have HN:=Lib.hid (yneedd_no (w:=w) b n c h hH hp)
  have HC:=Lib.hid hc
  clear h hp e1 hc
  go_enter Tryz.func54,Tryz.ntmps54
  go_wp2_with fail
  refine HN.out.mono fun e w1 hr=>?_
  obtain ⟨be,se,rfl,hH1,hg1⟩:=hr.lit HC.out
  have HH1:=Lib.hid hH1
  clear HN hH1 hr
  go_wp2_with fail
  go_ret
  exact ⟨_,H,_,rfl,isErr_lit HC.out be se,HI.out,Holds.swap (A:=[_]) HH1.out,hg1⟩
 cases hp:Ypg y b n with
 |none=>exact hbad 2 (by decide) (by simp [Ydrop,hp]) (.inl ⟨hp,rfl⟩)
 |some xq =>
  obtain ⟨x,q⟩:=xq
  cases hq:q.1 with
  |false=>exact hbad 8 (by decide) (by simp [Ydrop,hp,hq]) (.inr ⟨x,q,hp,hq,rfl⟩)
  |true =>
   rw [show Ydrop y b n=(Ypset y b n x (false,false),0) by simp [Ydrop,hp,hq]]
   obtain ⟨k,i,gp,rfl,rfl,hpg,hc⟩:=yneedd_yes (w:=w) b n h hH hp hq
   obtain ⟨x0,x1,f1,f2,s1,s2⟩:=hpg w Fr hH
   obtain ⟨H',h1,h2⟩:=s1 (false,false)
   have HC:=Lib.hid hc
   have HY:=Lib.hid h1
   have HHF:=Lib.hid h2
   have hf3:(w.setCell ⟨gp,i * 2,none⟩ (.bool false)).frozen? ⟨gp,i * 2+1,none⟩=false:=by
    obtain ⟨H9,h9,hh9⟩:=s1 (false,q.2)
    simp [f2]
   clear h hp hpg hc s1 s2 hq hH hbad h1 h2
   obtain ⟨q1,q2⟩:=q
   simp only at x0 x1
   go_enter Tryz.func54,Tryz.ntmps54
   go_wp2_with fail
   refine HC.out.mono ?_
   rintro e w1 ⟨rfl,rfl⟩
   clear HC
   go_wp2_with fail
   go_ret
   exact ⟨_,H',[],rfl,IsErr.none,HY.out,HHF.out,((Grew.refl w).setCell _ _).setCell _ _⟩
set_option maxRecDepth 20000 in
theorem yneed_any (b n:Int) (dirty:Bool) (h:IsYard v y H) (hH:Holds w (H++Fr)):Calls Tryz.prog 91 #[v,.int .i64 b,.int .i64 n,.bool dirty] w (RetYE v (Yneed y b n dirty) w Fr):=by
 have HI:=Lib.hid h
 have hne:=err_ne
 have hnn:=nil_ne
 cases hp:Ypg y b n with
 |none =>
  rw [show Yneed y b n dirty=(y,2) by simp [Yneed,hp]]
  have HN:=Lib.hid (ypage_no (w:=w) b n h hH hp)
  clear h hp
  go_enter Tryz.func91,Tryz.ntmps91
  go_wp2_with fail
  refine HN.out.mono fun e w1 hr=>?_
  obtain ⟨be,se,rfl,hH1,hg1⟩:=hr.lit (by decide)
  have HH1:=Lib.hid hH1
  clear HN hH1 hr
  go_wp2_with fail
  go_ret
  exact ⟨_,H,_,rfl,isErr_lit (c:=2) (by decide) be se,HI.out,Holds.swap (A:=[_]) HH1.out,hg1⟩
 |some xq =>
  obtain ⟨x,q⟩:=xq
  have hyn:Yneed y b n dirty=if x.taken≤n∨q.1=true then (y,9) else (Ypset y b n x (true,dirty),0):=by simp [Yneed,hp]
  rw [hyn]
  obtain ⟨ha,i,rfl,hi,hx⟩:=Ypg_some hp
  obtain ⟨k,rfl,hk,hxk⟩:=Yat_some ha
  have hy:=h.small.1
  obtain ⟨gp,hpg,hc⟩:=ypage_yes k i h hH ha hx
  obtain ⟨x0,x1,f1,f2,s1,s2⟩:=hpg w Fr hH
  obtain ⟨H',h1,h2⟩:=s1 (true,dirty)
  obtain ⟨p,g,cap,gp2,cp,rfl,hc1,hc2,_,hxo,hcells,hse⟩:=h.open_ hxk
  obtain ⟨c0,c1,c2,c3,e1,e2,hrd⟩:=hcells w Fr hH
  have HC:=Lib.hid hc
  have HY:=Lib.hid h1
  have HHF:=Lib.hid h2
  have HH:=Lib.hid hH
  have W9:=Lib.hid (fun (w:World) hx=>ywrong_any 9 w (H++Fr) (by omega) hx)
  clear h hp hpg hc s1 s2 hH h1 h2 hse hrd hcells hxo hyn ha hx hxk
  obtain ⟨q1,q2⟩:=q
  simp only at x0 x1
  by_cases hbd:x.taken≤(i:Int)∨q1=true
  ·rw [if_pos hbd]
   have h3:x.taken≤(i:Int)∨(¬ x.taken≤(i:Int)∧q1=true):=by
    by_cases ht:x.taken≤(i:Int)
    ·exact .inl ht
    ·exact .inr ⟨ht,hbd.resolve_left ht⟩
   clear hbd
   generalize x.taken=t at *
   rcases h3 with h3 | ⟨h3,rfl⟩
   all_goals
    go_enter Tryz.func91,Tryz.ntmps91
    go_wp2_with fail
    refine HC.out.mono ?_
    rintro e w1 ⟨rfl,rfl⟩
    clear HC
    go_wp2_with fail
    refine (W9.out _ HH.out).mono fun e w1 hr=>?_
    obtain ⟨be,se,rfl,hH1,hg1⟩:=hr.lit (by decide)
    have HH1:=Lib.hid hH1
    clear hH1 hr
    go_wp2_with fail
    go_ret
    exact ⟨_,H,_,rfl,isErr_lit (c:=9) (by decide) be se,HI.out,Holds.swap (A:=[_]) HH1.out,hg1⟩
  ·rw [if_neg hbd]
   have h3:¬ x.taken≤(i:Int):=fun h=>hbd (.inl h)
   have hq1:q1=false:=by cases q1;rfl;exact absurd (.inr rfl) hbd
   subst hq1
   clear hbd
   generalize x.taken=t at *
   go_enter Tryz.func91,Tryz.ntmps91
   go_wp2_with fail
   refine HC.out.mono ?_
   rintro e w1 ⟨rfl,rfl⟩
   clear HC
   go_wp2_with fail
   go_ret
   exact ⟨_,H',[],rfl,IsErr.none,HY.out,HHF.out,((Grew.refl w).setCell _ _).setCell _ _⟩
end
end Go.Proofs.YtoelopghilbfeaaGreat
namespace Go.Proofs.YtoelopghilbfeaaGreat
open Go.RowKit
set_option linter.unusedSimpArgs false
set_option linter.unusedVariables false
theorem ReadsAt.many' {w:World} {e:TypeId} {n size g:Nat} {cs:Array Value} (hg:g=w.heap.size) (hs:cs.size=n * size) (hn:n≤maxLen):ReadsAt (w.alloc (.cells cs e)) size (.slice (some ⟨g,0,none⟩) n n) n cs.toList:=by
 subst hg;exact ReadsAt.many hs hn
def Ynew (n m:Nat):List YB:=List.replicate n ⟨1,0,List.replicate m (false,false)⟩
def YNewTo (b n m:Nat) (w:World) (Fr:HL) (iv:Value) (wr:World):Prop :=
 ∃ (k:Nat) (A:Option Addr) (c:Nat) (Hm:HL),k≤n∧iv=.int .i64 k∧Rows2 ybR 128 3 (.slice A k c) (Ynew k m) Hm∧Holds wr ((b,.cells #[.slice A k c] 125)::(Hm++Fr))∧Grew w wr
set_option maxRecDepth 20000 in
set_option maxHeartbeats 2000000 in
theorem ynew_good (n m:Nat) (Fr:HL) (w:World) (hH:Holds w Fr) (hn1:1≤n) (hn2:n≤32) (hm1:1≤m) (hm2:m≤8) :
  Calls Tryz.prog 43 #[.int .i64 (n:Int),.int .i64 (m:Int)] w (RetNew (fun v H=>IsYard v (Ynew n m) H) w Fr):=by
 have hmk:=fun w=>run_makeN (P:=Tryz.prog) tYpages m m (Nat.le_refl _) (by omega) (by simp [maxLen];omega) w
 obtain ⟨ps,hps⟩:∃ ps,ps=madeCells (Value.agg #[.bool false,.bool false]).cells (m * 2):=⟨_,rfl⟩
 rw [← hps] at hmk
 have hpr:∀ g:Nat,IsRow 149 2 (.slice (some ⟨g,0,none⟩) m m) m (((List.replicate m (false,false)).map pageC).flatten) [(g,.cells ps 149)]:=by
  intro g
  have h:=IsRow.made (size:=2) (e:=149) g m ps (by rw [hps,made_size]) (by simp [maxLen];omega)
  have e:ps.toList=((List.replicate m (false,false)).map pageC).flatten:=by
   rw [hps]
   apply List.ext_getElem
   ·have:=flat_len (size:=2) ((List.replicate m (false,false)).map pageC) (by intro z hz;obtain ⟨a,_,rfl⟩:=List.mem_map.1 hz;rfl)
    rw [this];simp [madeCells]
   ·intro i h1 h2
    have hall:∀ z∈((List.replicate m (false,false)).map pageC).flatten,z=Value.bool false:=by
     intro z hz
     obtain ⟨c,hc,hzc⟩:=List.mem_flatten.1 hz
     obtain ⟨q,hq,rfl⟩:=List.mem_map.1 hc
     have:=List.eq_of_mem_replicate hq
     subst this
     simpa [pageC] using hzc
    rw [hall _ (List.getElem_mem h2)]
    have h01:i % 2=0∨i % 2=1:=by omega
    rcases h01 with h | h <;> simp [madeCells,Value.cells,h]
  rw [e] at h
  exact h
 have HPR:=Lib.hid hpr;clear hpr hps
 go_enter Tryz.func43,Tryz.ntmps43
 go_wp2_with fail
 go_loopw [23] (fun iv wr=>YNewTo w.heap.size n m w Fr iv wr) (fun iv _=>n - (intOf iv).toNat)
 case atStart=>exact ⟨0,none,0,[],by omega,rfl,Rows2.nil _ _ _,hH.alloc _,(Grew.refl w).alloc _⟩
 case round =>
  obtain ⟨k,A,c,Hm,hk,rfl,hr,hHr,hgr⟩:=hrel
  have hkl:(Ynew k m).length=k:=by simp [Ynew]
  obtain ⟨cells,H0,H1,rfl,hrow,_,hadd⟩:=hr.parts3
  rw [hkl] at hrow hadd
  have HROW:=Lib.hid hrow
  have HADD:=Lib.hid hadd
  have HR:=Lib.hid hr
  clear hrow hadd hr
  by_cases hlt:k<n
  ·have HS:=Lib.hid (fun (wx:World) (HH:HL) (hx:Holds wx HH) (hm:(w.heap.size,Obj.cells #[.slice A k c] 125)∈HH)=>And.intro (hx.cell hm 0) (hx.frozen hm 0))
   go_upto_region 6 with fail
   refine Z_begin (fun wx=>wx.cell? ⟨w.heap.size,0,none⟩=some (.slice A k c)∧wx.frozen? ⟨w.heap.size,0,none⟩=false) 12 (by kernel_rfl) (fun w1 hd=>HS.out _ _ (hHr.dr hd) (by simp)) (fun w1 hd hs=>?_)
   have hH1:=hHr.dr hd;have hG1:=hgr.trans (Grew.dr hd);clear hd hHr hgr
   refine Zt 0 25 ?_ rfl hs ?_ ?_
   rotate_left
   ·rintro wx ⟨x1,x2⟩;go_simp;try with_reducible rfl
   simp only [pt,sA,sS,sZ]
   refine Zt 1 26 ?_ rfl hs ?_ ?_
   rotate_left
   ·rintro wx ⟨x1,x2⟩;go_simp;try with_reducible rfl
   simp only [pt,sA,sS,sZ]
   refine Zt 2 27 ?_ rfl hs ?_ ?_
   rotate_left
   ·rintro wx ⟨x1,x2⟩;go_simp;try with_reducible rfl
   simp only [pt,sA,sS,sZ]
   refine Zt 3 28 ?_ rfl hs ?_ ?_
   rotate_left
   ·rintro wx ⟨x1,x2⟩;go_simp;try with_reducible rfl
   simp only [pt,sA,sS,sZ]
   refine Zt 4 29 ?_ rfl hs ?_ ?_
   rotate_left
   ·rintro wx ⟨x1,x2⟩;go_simp;try with_reducible rfl
   simp only [pt,sA,sS,sZ]
   refine Zt 5 30 ?_ rfl hs ?_ ?_
   rotate_left
   ·rintro wx ⟨x1,x2⟩;go_simp;try with_reducible rfl
   simp only [pt,sA,sS,sZ]
   refine Z_mid 6 rfl (by kernel_rfl) (fun K hK=>?_)
   have ⟨x1,x2⟩:=hs
   go_simp
   clear x1 x2
   refine hK _ _ (HS.out _ _ (hH1.alloc _) (by simp)) (fun hs2=>?_);clear hK K hs;have hs:=hs2;clear hs2
   refine Zt 7 32 ?_ rfl hs ?_ ?_
   rotate_left
   ·rintro wx ⟨x1,x2⟩;go_simp;try with_reducible rfl
   simp only [pt,sA,sS,sZ]
   refine Z_mid 8 rfl (by kernel_rfl) (fun K hK=>?_)
   have ⟨x1,x2⟩:=hs
   go_simp
   clear x1 x2
   refine hK _ _ (HS.out _ _ ((hH1.alloc _).alloc _) (by simp)) (fun hs2=>?_);clear hK K hs;have hs:=hs2;clear hs2
   refine Z_mid 9 rfl (by kernel_rfl) (fun K hK=>?_)
   have ⟨x1,x2⟩:=hs
   refine step_append_T tYblocks (by rfl) _ _ (by rfl) (by rfl) (by rfl) HROW.out (Fr:=(w1.heap.size,.cells ps 149)::((w.heap.size,.cells #[.slice A k c] 125)::(H1++Fr))) (((hH1.alloc (.cells ps 149)).alloc' _).p) (ReadsAt.many' (n:=1) (size:=3) (by simp) (by rfl) (by simp [maxLen])) (by simp [Value.oneCell']) (by simp [maxLen];omega) (by omega) ?_;intro A' c3 w' H' hrow2 hH6 hg4
   clear x1 x2
   refine hK _ _ (HS.out _ _ hH6 (by simp)) (fun hs2=>?_);clear hK K hs;have hs:=hs2;clear hs2
   refine Zt 10 35 ?_ rfl hs ?_ ?_
   rotate_left
   ·rintro wx ⟨x1,x2⟩;go_simp;try with_reducible rfl
   simp only [pt,sA,sS,sZ]
   refine Zt 11 36 ?_ rfl hs ?_ ?_
   rotate_left
   ·rintro wx ⟨x1,x2⟩;go_simp;try with_reducible rfl
   simp only [pt,sA,sS,sZ]
   refine Z_last 12 rfl (by kernel_rfl) rfl (fun K hK=>?_)
   have ⟨x1,x2⟩:=hs
   go_simp
   clear x1 x2
   refine hK _ _ ?_;clear hK K hs
   refine Z_done (by kernel_rfl) ?_ _
   have hin:ybR [.int .i64 1,.int .i64 0,.slice (some ⟨w1.heap.size,0,none⟩) m m] ⟨1,0,List.replicate m (false,false)⟩ [(w1.heap.size,.cells ps 149)]:=⟨w1.heap.size,m,by simp,by simpa using HPR.out w1.heap.size⟩
   have hr9:=HADD.out (.slice A' (k+1) c3) H' _ _ _ rfl hin hrow2
   have e9:Ynew k m++[⟨1,0,List.replicate m (false,false)⟩]=Ynew (k+1) m:=by unfold Ynew;rw [List.replicate_succ']
   rw [e9] at hr9
   have hset:Holds (w'.setCell ⟨w.heap.size,0,none⟩ (.slice A' (k+1) c3)) ((w.heap.size,.cells #[.slice A' (k+1) c3] 125)::((H'++(H1++[(w1.heap.size,.cells ps 149)]))++Fr)) :=
    Holds.set (cs:=#[.slice A k c]) (hH6.p) 0 _
   have hfin:YNewTo w.heap.size n m w Fr (.int .i64 ((k:Int)+1)) (w'.setCell ⟨w.heap.size,0,none⟩ (.slice A' (k+1) c3)) :=
    ⟨k+1,A',c3,_,by omega,by go_num,hr9,hset,(((hG1.alloc _).alloc _).trans hg4).setCell _ _⟩
   have HFIN:=Lib.hid hfin
   clear hfin hset hr9 hin hrow2 hH6 hH1 hG1 hg4
   go_wp2_with fail
   exact ⟨HFIN.out,by simp [intOf];omega⟩
  ·obtain rfl:k=n:=by omega
   go_wp2_with fail
   go_ret
   refine ⟨_,_,rfl,⟨w.heap.size,_,_,rfl,?_,by simp [Ynew];omega,HR.out,rfl⟩,by simpa using hHr,hgr⟩
   intro x hx
   have:=List.eq_of_mem_replicate (show x∈List.replicate k _ from hx)
   rw [this]
   exact ⟨by show (0:Int)≤0;omega,by show (0:Int)≤8;omega,by simp;omega,by show (0:Int)≤1∧(1:Int)≤100;omega⟩
end Go.Proofs.YtoelopghilbfeaaGreat
