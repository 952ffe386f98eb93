/-
  Chapter 16: found, the walk.
-/
import Derived.Test.YtoelopghilbfeaaGreatMoA
namespace Go.Proofs.YtoelopghilbfeaaGreat
open Go.RowKit
set_option linter.unusedSimpArgs false
set_option linter.unusedVariables false
def arrN (is:Nat→Bool):Obj:=.cells ((List.range 256).map fun j=>Value.bool (is j)).toArray 157
theorem arrN_set {w:World} {gb:Nat} {is:Nat→Bool} {H:HL} (h:Holds w ((gb,arrN is)::H)) (p:Nat) (x:Bool):Holds (w.setCell ⟨gb,p,none⟩ (.bool x)) ((gb,arrN (updF is p x))::H):=by
 have h2:=Holds.set h p (.bool x)
 have e:((List.range 256).map fun j=>Value.bool (is j)).toArray.setIfInBounds p (.bool x)=((List.range 256).map fun j=>Value.bool (updF is p x j)).toArray:=by
  rw [List.setIfInBounds_toArray]
  congr 1
  refine List.ext_getElem? fun j=>?_
  rw [List.getElem?_set,List.getElem?_map,List.getElem?_map]
  unfold updF
  by_cases hj:j<256
  ·rw [List.getElem?_range hj]
   by_cases e:p=j
   ·subst e;rw [if_pos rfl,if_pos (by simpa using hj)];simp
   ·rw [if_neg e];simp [Ne.symm e]
  ·have hn:(List.range 256)[j]?=none:=List.getElem?_eq_none_iff.2 (by simpa using hj)
   rw [hn]
   by_cases e:p=j
   ·subst e;rw [if_pos rfl,if_neg (by simpa using hj)];rfl
   ·rw [if_neg e];rfl
 rw [e] at h2
 exact h2
theorem arrN_cell {w:World} {gb:Nat} {is:Nat→Bool} {H:HL} (h:Holds w ((gb,arrN is)::H)) {p:Nat} (hp:p<256):w.cell? ⟨gb,p,none⟩=some (.bool (is p))∧w.frozen? ⟨gb,p,none⟩=false:=by
 refine ⟨?_,h.hfrozen p⟩
 have:=h.hcell p
 rw [List.getElem?_toArray,List.getElem?_map,List.getElem?_range hp] at this
 exact this
theorem mo_store {w:World} {mb:Nat} {f:Nat→Pg} {q:Int} {H:HL} (h:Holds w ((mb,moO f q)::H)) {j:Nat} (hj:j<256) (p:Pg) :
  Holds ((((((w.setCell ⟨mb,j * 6,none⟩ (.int .i64 p.h.k)).setCell ⟨mb,j * 6+1,none⟩ (.int .u64 p.h.a)).setCell ⟨mb,j * 6+2,none⟩ (.int .i64 p.h.s)).setCell ⟨mb,j * 6+3,none⟩ (.int .i64 p.h.g)).setCell ⟨mb,j * 6+4,none⟩ (.int .i64 p.n)).setCell ⟨mb,j * 6+5,none⟩ (.bool p.need)) ((mb,moO (updF f j p) q)::H):=by
 have step:∀ (w:World) (g:Nat→Pg) (i:Nat) (u:Value) (r:Pg),i<6→(g j).cells.set i u=r.cells→Holds w ((mb,moO g q)::H)→Holds (w.setCell ⟨mb,j * 6+i,none⟩ u) ((mb,moO (updF g j r) q)::H):=by
  intro w g i u r hi hr hw
  have h2:=Holds.set hw (j * 6+i) u
  rw [List.setIfInBounds_toArray,mo_set g q hj hi u r hr] at h2
  exact h2
 have up:∀ (g:Nat→Pg) (a b:Pg),updF (updF g j a) j b=updF g j b:=by
  intro g a b;funext n;unfold updF;split <;> rfl
 have at_:∀ (g:Nat→Pg) (a:Pg),updF g j a j=a:=by intro g a;unfold updF;rw [if_pos rfl]
 have s0:=step w f 0 (.int .i64 p.h.k) ⟨⟨p.h.k,(f j).h.a,(f j).h.s,(f j).h.g⟩,(f j).n,(f j).need⟩ (by omega) rfl h
 have s1:=step _ _ 1 (.int .u64 p.h.a) ⟨⟨p.h.k,p.h.a,(f j).h.s,(f j).h.g⟩,(f j).n,(f j).need⟩ (by omega) (by rw [at_];rfl) s0
 rw [up] at s1
 have s2:=step _ _ 2 (.int .i64 p.h.s) ⟨⟨p.h.k,p.h.a,p.h.s,(f j).h.g⟩,(f j).n,(f j).need⟩ (by omega) (by rw [at_];rfl) s1
 rw [up] at s2
 have s3:=step _ _ 3 (.int .i64 p.h.g) ⟨⟨p.h.k,p.h.a,p.h.s,p.h.g⟩,(f j).n,(f j).need⟩ (by omega) (by rw [at_];rfl) s2
 rw [up] at s3
 have s4:=step _ _ 4 (.int .i64 p.n) ⟨⟨p.h.k,p.h.a,p.h.s,p.h.g⟩,p.n,(f j).need⟩ (by omega) (by rw [at_];rfl) s3
 rw [up] at s4
 have s5:=step _ _ 5 (.bool p.need) p (by omega) (by rw [at_];rfl) s4
 rw [up] at s5
 exact s5
def pgO (p:Pg):Obj:=.cells #[.int .i64 p.h.k,.int .u64 p.h.a,.int .i64 p.h.s,.int .i64 p.h.g,.int .i64 p.n,.bool p.need] 61
def FdTo (mb gb lb:Nat) (f:Nat→Pg) (q:Int) (last:Pg) (t:SM) (F:HL) (w:World) (iv:Value) (wr:World):Prop :=
 ∃ k:Nat,k≤(NDn t).length∧iv=.int .i64 k∧Holds wr ((mb,moO (fkk f t last k) q)::((gb,arrN (iskk t k))::((lb,pgO last)::F)))∧Grew w wr
def RetFd (mb sb cb g cap:Nat) (mv:Value) (f:Nat→Pg) (q:Int) (last:Pg) (t:SM) (c:CM) (w:World) (Fr:HL) (e:Ending) (w':World):Prop :=
 ∃ (t':SM) (c':CM) (Hs' Hc':HL),e=.returned (.bool true)∧StAt sb cb t' Hs'∧ChipAt cb g cap mv c' Hc'∧Holds w' ((mb,moO (fnd f t last) q)::(Hs'++(Hc'++Fr)))∧Grew w w'∧Reads c c'∧c'.ops≤c.ops+64∧Cont t' c'∧(t'.B=16∧t'.P=4∧t'.Z=128) ∧
  (Live t c→c'.on=true→Live t' c')∧(∀ n h,lookS t'.hs n=some h→lookS t.hs n=some h)∧(∀ n:Nat,(f n).need=true→lookS t'.hs (n:Int)=lookS t.hs (n:Int))∧(c'.on=true→∀ n:Nat,n<64→(f n).need=false→lookS t'.hs (n:Int)=none)∧KO c c'
def FrTo (mb cb g cap:Nat) (mv:Value) (G:Nat→Pg) (q:Int) (len:Nat) (c:CM) (Hs F:HL) (w:World) (iv:Value) (wr:World):Prop :=
 ∃ (k:Nat) (c':CM) (Hc:HL),k≤len∧iv=.int .i64 k∧Reads c c'∧c'.ops≤c.ops+k∧KO c c'∧ChipAt cb g cap mv c' Hc∧Holds wr ((mb,moO G q)::(Hs++(Hc++F)))∧Grew w wr
def FxTo (mb sb cb g cap:Nat) (mv:Value) (f G:Nat→Pg) (q:Int) (t:SM) (c c':CM) (Hc F:HL) (w:World) (iv:Value) (wr:World):Prop :=
 ∃ (k:Nat) (t':SM) (Hs:HL),k≤(NDn t).length∧iv=.int .i64 k∧(0<k→c'.on=true)∧StAt sb cb t' Hs∧Cont t' c'∧(t'.B=16∧t'.P=4∧t'.Z=128)∧(Live t c'→Live t' c') ∧
  (∀ n:Nat,n∈(NDn t).take k→(f n).need=false→lookS t'.hs (n:Int)=none)∧(∀ m:Int,(∀ n:Nat,m=n→n∈(NDn t).take k→(f n).need=true)→lookS t'.hs m=lookS t.hs m)∧(∀ m h,lookS t'.hs m=some h→lookS t.hs m=some h)∧Holds wr ((mb,moO G q)::(Hs++(Hc++F)))∧Grew w wr
set_option maxRecDepth 100000 in
set_option maxHeartbeats 4000000 in
theorem found_any {mb sb cb g cap:Nat} {mv:Value} {f:Nat→Pg} {q:Int} {last:Pg} {t:SM} {c:CM} {Hs Hc Fr:HL} {w:World} (hst:StAt sb cb t Hs) (hch:ChipAt cb g cap mv c Hc) (hH:Holds w ((mb,moO f q)::(Hs++(Hc++Fr)))) (HF:FdHyp f last t c) (hops:c.ops≤999999990000) :
  Calls Tryz.prog 65 #[.pointer (some ⟨mb,0,none⟩),.pointer (some ⟨sb,0,none⟩),.agg #[.int .i64 last.h.k,.int .u64 last.h.a,.int .i64 last.h.s,.int .i64 last.h.g,.int .i64 last.n,.bool last.need]] w (RetFd mb sb cb g cap mv f q last t c w Fr):=by
 have HCH:=Lib.hid hch
 have HFD:=Lib.hid HF
 have HST:=Lib.hid hst
 have k1:=err_eq
 have k2:=nil_eq
 have k3:=err_ne
 have k4:=nil_ne
 have hg0:=Grew.refl w
 have hHA:=hH.alloc (pgO last)
 have hGA:=hg0.alloc (pgO last)
 obtain ⟨ND,hND⟩:∃ ND,ND=NDn t:=⟨_,rfl⟩
 have hnd:=needed_any hst (hHA.p:Holds (w.alloc (pgO last)) (Hs++((w.heap.size,pgO last)::((mb,moO f q)::(Hc++Fr))))) HF.cont.yok
 rw [needed_ND HF.cont HF.geo.1 HF.geo.2.1,← hND] at hnd
 have HN:=Lib.hid hnd
 have HNDE:=Lib.hid hND
 clear hst hH hHA hnd HF hND hg0
 unfold pgO at HN hGA
 go_enter Tryz.func65,Tryz.ntmps65
 go_wp2_with fail
 refine HN.out.mono ?_
 rintro e w1 ⟨v1,H1,rfl,hv1,hH1,hg1⟩
 generalize w.heap.size=lb at *
 have HROW:=Lib.hid (show IsRow 3 1 _ (ND.map fun i:Nat=>(i:Int)).length ((ND.map fun i:Nat=>(i:Int)).map (Value.int .i64)) H1 from hv1)
 obtain ⟨A8,c8,rfl⟩:=hv1.val
 rw [List.length_map] at HROW ⊢
 have hHB:=hH1.alloc (arrN fun _=>false)
 have hGB:=(hGA.trans hg1).alloc (arrN fun _=>false)
 clear hv1 hH1 hg1 hGA HN
 go_upto_region 4 with fail
 rw [show Obj.cells Tryz.zeroCells157 157=arrN fun _=>false by kernel_rfl]
 generalize w1.alloc (arrN fun _=>false)=w2 at *
 generalize w1.heap.size=gb at *
 have hst0:FdTo mb gb lb f q last t (H1++(Hs++(Hc++Fr))) w (.int .i64 0) w2:=⟨0,by omega,rfl,by
  rw [fkk_zero,iskk_zero]
  have h:Holds w2 ((gb,arrN fun _=>false)::(H1++(Hs++((lb,pgO last)::((mb,moO f q)::(Hc++Fr)))))):=hHB
  exact h.p,hGB⟩
 clear hHB hGB
 go_wp2_with fail
 go_loopw [9] (fun iv wr=>FdTo mb gb lb f q last t (H1++(Hs++(Hc++Fr))) w iv wr) (fun i _=>ND.length - (intOf i).toNat)
 case atStart=>exact hst0
 case round =>
  clear hst0
  obtain ⟨k,hk,rfl,hHr,hgr⟩:=hrel
  rw [← HNDE.out] at hk
  by_cases hlt:k<ND.length
  ·have hkl:(k:Int)<ND.length:=by omega
   have hkw:IntKind.i64.wrap ((k:Int)+1)=k+1:=wrap_i64_id (by omega) (by have:=NDn_len t;rw [← HNDE.out] at this;omega)
   have hrdn:=IsRow.reads HROW.out (Fr:=(mb,moO (fkk f t last k) q)::((gb,arrN (iskk t k))::((lb,pgO last)::(Hs++(Hc++Fr))))) (hHr.p)
   obtain ⟨h1x,A3,c8',hv3,h2x,hc33,hrd4⟩:=hrdn
   injection hv3 with hv31 hv32 hv33
   subst hv31;subst hv33
   clear hv32 h1x h2x hc33
   obtain ⟨b8,o8,rfl,hcl⟩:=hrd4 (by omega)
   have ca:=hcl k (.int .i64 (ND[k]:Nat)) (by simp [List.getElem?_eq_getElem hlt])
   have hlt':k<(NDn t).length:=by rw [← HNDE.out];exact hlt
   have hat:=NDn_at hlt'
   have hfa:=fkk_at (f:=f) (last:=last) hlt'
   have hfs:=fkk_succ (f:=f) (last:=last) hlt'
   have hfm:=fkk_same (f:=f) (last:=last) hlt'
   have his:=iskk_succ hlt'
   have hpe:ND[k]=(NDn t)[k]:=by simp only [HNDE.out]
   rw [← hpe] at hat hfa hfs hfm his
   generalize ND[k]=p at *
   obtain ⟨hp64,hpn,hpt⟩:=hat
   obtain ⟨x,hx⟩:∃ x,lookS t.hs (p:Int)=some x:=by
    unfold isN at hpn
    cases e:lookS t.hs (p:Int) with
    |none=>rw [e] at hpn;exact absurd hpn (by simp)
    |some x=>exact ⟨x,rfl⟩
   have hsome:=HFD.out.some p x hp64 hx
   have hisf:iskk t k p=false:=decide_eq_false hpt
   have hHg:Holds wr ((gb,arrN (iskk t k))::((mb,moO (fkk f t last k) q)::((lb,pgO last)::(H1++(Hs++(Hc++Fr)))))):=hHr.p
   obtain ⟨hc1,hc2⟩:=arrN_cell hHg (p:=p) (by omega)
   rw [hisf] at hc1
   have hHs:=arrN_set hHg p true
   rw [← his] at hHs
   have hgs:=hgr.setCell ⟨gb,p,none⟩ (.bool true)
   have HHD:=Lib.hid (head_any (p:Int) HST.out (hHs.p:Holds (wr.setCell ⟨gb,p,none⟩ (.bool true)) (Hs++((mb,moO (fkk f t last k) q)::((gb,arrN (iskk t (k+1)))::((lb,pgO last)::(H1++(Hc++Fr))))))) (by omega) (by omega))
   rw [hx] at HHD
   have hp0:¬ (p:Int)<0:=by omega
   have hp255:¬ (255:Int)<p:=by omega
   have hp256:(p:Int)<256:=by omega
   have HGS:=Lib.hid hgs
   have HFA:=Lib.hid hfa
   have HFS:=Lib.hid hfs
   have HFM:=Lib.hid hfm
   have HX:=Lib.hid hx
   have HSO:=Lib.hid hsome
   obtain ⟨xa,xb,xc,xd⟩:=x
   clear hcl hrd4 hHr hgr hHg hHs hgs hpe hpt hpn hisf his hfa hfs hfm hx hsome hlt'
   go_upto_region 10 with fail
   go_wp2_with fail
   refine HHD.out.mono ?_
   rintro e w3 ⟨rfl,hH3,hg3⟩
   rw [show ((some (⟨xa,xb,xc,xd⟩:Hd)).getD Hd.zero).agg=.agg #[.int .i64 xa,.int .u64 xb,.int .i64 xc,.int .i64 xd] from rfl,show (some (⟨xa,xb,xc,xd⟩:Hd)).isSome=true from rfl]
   have hH4:=hH3.alloc (.cells #[.int .i64 xa,.int .u64 xb,.int .i64 xc,.int .i64 xd] 37)
   have hG4:=(HGS.out.trans hg3).alloc (.cells #[.int .i64 xa,.int .u64 xb,.int .i64 xc,.int .i64 xd] 37)
   clear HHD hH3 hg3 HGS ca hc1 hc2
   go_upto_region 11 with fail
   generalize w3.alloc (.cells #[.int .i64 xa,.int .u64 xb,.int .i64 xc,.int .i64 xd] 37)=w4 at *
   generalize w3.heap.size=gh at *
   obtain ⟨⟨⟨ya,yb,yc,yd⟩,yn,ynd⟩,hy⟩:∃ y:Pg,y=f p:=⟨_,rfl⟩
   obtain ⟨⟨la,lb_,lc,ld⟩,ln,lnd⟩:=last
   have hln:lnd=false:=HFD.out.ln
   subst hln
   have hHk:Holds w4 ((mb,moO (fkk f t (⟨⟨la,lb_,lc,ld⟩,ln,false⟩:Pg) k) q)::((lb,pgO (⟨⟨la,lb_,lc,ld⟩,ln,false⟩:Pg))::((gh,.cells #[.int .i64 xa,.int .u64 xb,.int .i64 xc,.int .i64 xd] 37)::((gb,arrN (iskk t (k+1)))::(H1++(Hs++(Hc++Fr))))))):=hH4.p
   have HSW:=Lib.hid (fun (wx:World) (F:HL) (h:Holds wx ((mb,moO (fkk f t (⟨⟨la,lb_,lc,ld⟩,ln,false⟩:Pg) k) q)::((lb,pgO (⟨⟨la,lb_,lc,ld⟩,ln,false⟩:Pg))::((gh,.cells #[.int .i64 xa,.int .u64 xb,.int .i64 xc,.int .i64 xd] 37)::F))))=>show wx.cell? ⟨mb,p * 6,none⟩=some (.int .i64 ya)∧wx.cell? ⟨mb,p * 6+1,none⟩=some (.int .u64 yb)∧wx.cell? ⟨mb,p * 6+2,none⟩=some (.int .i64 yc)∧wx.cell? ⟨mb,p * 6+3,none⟩=some (.int .i64 yd)∧wx.cell? ⟨mb,p * 6+5,none⟩=some (.bool ynd)∧wx.cell? ⟨lb,0,none⟩=some (.int .i64 la)∧wx.cell? ⟨lb,1,none⟩=some (.int .u64 lb_)∧wx.cell? ⟨lb,2,none⟩=some (.int .i64 lc)∧wx.cell? ⟨lb,3,none⟩=some (.int .i64 ld)∧wx.cell? ⟨gh,0,none⟩=some (.int .i64 xa)∧wx.cell? ⟨gh,1,none⟩=some (.int .u64 xb)∧wx.cell? ⟨gh,2,none⟩=some (.int .i64 xc)∧wx.cell? ⟨gh,3,none⟩=some (.int .i64 xd) from by
    obtain ⟨q0,q1,q2,q3,q4,q5⟩:=mo_cells h (show p<256 by omega)
    rw [HFA.out,← hy] at q0 q1 q2 q3 q4 q5
    exact ⟨q0,q1,q2,q3,q5,h.tail.hcell 0,h.tail.hcell 1,h.tail.hcell 2,h.tail.hcell 3,h.tail.tail.hcell 0,h.tail.tail.hcell 1,h.tail.tail.hcell 2,h.tail.tail.hcell 3⟩)
   have HY:=Lib.hid hy
   clear hy hH4
   cases ynd with
   |true =>
    refine Z_begin (fun wx=>wx.cell? ⟨mb,p * 6,none⟩=some (.int .i64 ya)∧wx.cell? ⟨mb,p * 6+1,none⟩=some (.int .u64 yb)∧wx.cell? ⟨mb,p * 6+2,none⟩=some (.int .i64 yc)∧wx.cell? ⟨mb,p * 6+3,none⟩=some (.int .i64 yd)∧wx.cell? ⟨mb,p * 6+5,none⟩=some (.bool true)∧wx.cell? ⟨lb,0,none⟩=some (.int .i64 la)∧wx.cell? ⟨lb,1,none⟩=some (.int .u64 lb_)∧wx.cell? ⟨lb,2,none⟩=some (.int .i64 lc)∧wx.cell? ⟨lb,3,none⟩=some (.int .i64 ld)∧wx.cell? ⟨gh,0,none⟩=some (.int .i64 xa)∧wx.cell? ⟨gh,1,none⟩=some (.int .u64 xb)∧wx.cell? ⟨gh,2,none⟩=some (.int .i64 xc)∧wx.cell? ⟨gh,3,none⟩=some (.int .i64 xd)) 29 (by kernel_rfl) (fun w1 hd=>HSW.out _ _ (hHk.dr hd)) (fun w1 hd hs=>?_)
    have hHl:=hHk.dr hd;have hGl:=hG4.trans (Grew.dr hd);clear hd hHk hG4
    refine Zt 0 47 ?_ rfl hs ?_ ?_
    rotate_left
    ·rintro wx ⟨m0,m1,m2,m3,m5,l0,l1,l2,l3,h0,h1,h2,h3⟩;go_simp;try with_reducible rfl
    simp only [pt,sA,sS,sZ]
    refine Zt 1 48 ?_ rfl hs ?_ ?_
    rotate_left
    ·rintro wx ⟨m0,m1,m2,m3,m5,l0,l1,l2,l3,h0,h1,h2,h3⟩;go_simp;try with_reducible rfl
    simp only [pt,sA,sS,sZ]
    refine Zt 2 49 ?_ rfl hs ?_ ?_
    rotate_left
    ·rintro wx ⟨m0,m1,m2,m3,m5,l0,l1,l2,l3,h0,h1,h2,h3⟩;go_simp;try with_reducible rfl
    simp only [pt,sA,sS,sZ]
    refine Zt 3 50 ?_ rfl hs ?_ ?_
    rotate_left
    ·rintro wx ⟨m0,m1,m2,m3,m5,l0,l1,l2,l3,h0,h1,h2,h3⟩;go_simp;try with_reducible rfl
    simp only [pt,sA,sS,sZ]
    refine Zt 4 51 ?_ rfl hs ?_ ?_
    rotate_left
    ·rintro wx ⟨m0,m1,m2,m3,m5,l0,l1,l2,l3,h0,h1,h2,h3⟩;go_simp;try with_reducible rfl
    simp only [pt,sA,sS,sZ]
    refine Zt 5 52 ?_ rfl hs ?_ ?_
    rotate_left
    ·rintro wx ⟨m0,m1,m2,m3,m5,l0,l1,l2,l3,h0,h1,h2,h3⟩;go_simp;try with_reducible rfl
    simp only [pt,sA,sS,sZ]
    refine Zt 6 53 ?_ rfl hs ?_ ?_
    rotate_left
    ·rintro wx ⟨m0,m1,m2,m3,m5,l0,l1,l2,l3,h0,h1,h2,h3⟩;go_simp;try with_reducible rfl
    simp only [pt,sA,sS,sZ]
    refine Zt 7 54 ?_ rfl hs ?_ ?_
    rotate_left
    ·rintro wx ⟨m0,m1,m2,m3,m5,l0,l1,l2,l3,h0,h1,h2,h3⟩;go_simp;try with_reducible rfl
    simp only [pt,sA,sS,sZ]
    refine Zt 8 55 ?_ rfl hs ?_ ?_
    rotate_left
    ·rintro wx ⟨m0,m1,m2,m3,m5,l0,l1,l2,l3,h0,h1,h2,h3⟩;go_simp;try with_reducible rfl
    simp only [pt,sA,sS,sZ]
    refine Zt 9 56 ?_ rfl hs ?_ ?_
    rotate_left
    ·rintro wx ⟨m0,m1,m2,m3,m5,l0,l1,l2,l3,h0,h1,h2,h3⟩;go_simp;try with_reducible rfl
    simp only [pt,sA,sS,sZ]
    refine Zt 10 57 ?_ rfl hs ?_ ?_
    rotate_left
    ·rintro wx ⟨m0,m1,m2,m3,m5,l0,l1,l2,l3,h0,h1,h2,h3⟩;go_simp;try with_reducible rfl
    simp only [pt,sA,sS,sZ]
    refine Zt 11 58 ?_ rfl hs ?_ ?_
    rotate_left
    ·rintro wx ⟨m0,m1,m2,m3,m5,l0,l1,l2,l3,h0,h1,h2,h3⟩;go_simp;try with_reducible rfl
    simp only [pt,sA,sS,sZ]
    refine Zs 12 59 rfl hs ?_
    simp only [pt,sA,sS,sZ]
    refine Zs 13 60 rfl hs ?_
    simp only [pt,sA,sS,sZ]
    refine Zs 14 61 rfl hs ?_
    simp only [pt,sA,sS,sZ]
    refine Zs 15 62 rfl hs ?_
    simp only [pt,sA,sS,sZ]
    refine Zs 16 63 rfl hs ?_
    simp only [pt,sA,sS,sZ]
    refine Zs 17 64 rfl hs ?_
    simp only [pt,sA,sS,sZ]
    refine Zs 18 65 rfl hs ?_
    simp only [pt,sA,sS,sZ]
    refine Zs 19 66 rfl hs ?_
    simp only [pt,sA,sS,sZ]
    refine Zs 20 67 rfl hs ?_
    simp only [pt,sA,sS,sZ]
    refine Zt 21 68 ?_ rfl hs ?_ ?_
    rotate_left
    ·rintro wx ⟨m0,m1,m2,m3,m5,l0,l1,l2,l3,h0,h1,h2,h3⟩;go_simp;try with_reducible rfl
    simp only [pt,sA,sS,sZ]
    refine Zt 22 69 ?_ rfl hs ?_ ?_
    rotate_left
    ·rintro wx ⟨m0,m1,m2,m3,m5,l0,l1,l2,l3,h0,h1,h2,h3⟩;go_simp;try with_reducible rfl
    simp only [pt,sA,sS,sZ]
    refine Zs 23 70 rfl hs ?_
    simp only [pt,sA,sS,sZ]
    refine Zs 24 71 rfl hs ?_
    simp only [pt,sA,sS,sZ]
    refine Zs 25 72 rfl hs ?_
    simp only [pt,sA,sS,sZ]
    refine Zs 26 73 rfl hs ?_
    simp only [pt,sA,sS,sZ]
    refine Zt 27 74 ?_ rfl hs ?_ ?_
    rotate_left
    ·rintro wx ⟨m0,m1,m2,m3,m5,l0,l1,l2,l3,h0,h1,h2,h3⟩;go_simp;try with_reducible rfl
    simp only [pt,sA,sS,sZ]
    refine Zt 28 75 ?_ rfl hs ?_ ?_
    rotate_left
    ·rintro wx ⟨m0,m1,m2,m3,m5,l0,l1,l2,l3,h0,h1,h2,h3⟩;go_simp;try with_reducible rfl
    simp only [pt,sA,sS,sZ]
    refine Z_done (by kernel_rfl) ?_ _
    obtain ⟨m0,m1,m2,m3,m5,l0,l1,l2,l3,h0,h1,h2,h3⟩:=hs
    have hfe:fkk f t (⟨⟨la,lb_,lc,ld⟩,ln,false⟩:Pg) (k+1)=fkk f t (⟨⟨la,lb_,lc,ld⟩,ln,false⟩:Pg) k:=HFM.out (fnd_no HX.out (by rw [← HY.out];simp))
    rw [← hfe] at hHl
    have q4:FdTo mb gb lb f q (⟨⟨la,lb_,lc,ld⟩,ln,false⟩:Pg) t (H1++(Hs++(Hc++Fr))) w (.int .i64 ((k:Int)+1)) _:=⟨k+1,by rw [← HNDE.out];omega,by go_num,hHl.p,hGl⟩
    clear hfe hHl hGl
    go_wp2_with fail
    refine ⟨q4,?_⟩
    simp [intOf];omega
   |false =>
    by_cases he:(⟨xa,xb,xc,xd⟩:Hd)=⟨ya,yb,yc,yd⟩
    ·injection he with e1 e2 e3 e4
     subst e1 e2 e3 e4
     refine Z_begin (fun wx=>wx.cell? ⟨mb,p * 6,none⟩=some (.int .i64 xa)∧wx.cell? ⟨mb,p * 6+1,none⟩=some (.int .u64 xb)∧wx.cell? ⟨mb,p * 6+2,none⟩=some (.int .i64 xc)∧wx.cell? ⟨mb,p * 6+3,none⟩=some (.int .i64 xd)∧wx.cell? ⟨mb,p * 6+5,none⟩=some (.bool false)∧wx.cell? ⟨lb,0,none⟩=some (.int .i64 la)∧wx.cell? ⟨lb,1,none⟩=some (.int .u64 lb_)∧wx.cell? ⟨lb,2,none⟩=some (.int .i64 lc)∧wx.cell? ⟨lb,3,none⟩=some (.int .i64 ld)∧wx.cell? ⟨gh,0,none⟩=some (.int .i64 xa)∧wx.cell? ⟨gh,1,none⟩=some (.int .u64 xb)∧wx.cell? ⟨gh,2,none⟩=some (.int .i64 xc)∧wx.cell? ⟨gh,3,none⟩=some (.int .i64 xd)) 29 (by kernel_rfl) (fun w1 hd=>HSW.out _ _ (hHk.dr hd)) (fun w1 hd hs=>?_)
     have hHl:=hHk.dr hd;have hGl:=hG4.trans (Grew.dr hd);clear hd hHk hG4
     refine Zt 0 47 ?_ rfl hs ?_ ?_
     rotate_left
     ·rintro wx ⟨m0,m1,m2,m3,m5,l0,l1,l2,l3,h0,h1,h2,h3⟩;go_simp;try with_reducible rfl
     simp only [pt,sA,sS,sZ]
     refine Zt 1 48 ?_ rfl hs ?_ ?_
     rotate_left
     ·rintro wx ⟨m0,m1,m2,m3,m5,l0,l1,l2,l3,h0,h1,h2,h3⟩;go_simp;try with_reducible rfl
     simp only [pt,sA,sS,sZ]
     refine Zt 2 49 ?_ rfl hs ?_ ?_
     rotate_left
     ·rintro wx ⟨m0,m1,m2,m3,m5,l0,l1,l2,l3,h0,h1,h2,h3⟩;go_simp;try with_reducible rfl
     simp only [pt,sA,sS,sZ]
     refine Zt 3 50 ?_ rfl hs ?_ ?_
     rotate_left
     ·rintro wx ⟨m0,m1,m2,m3,m5,l0,l1,l2,l3,h0,h1,h2,h3⟩;go_simp;try with_reducible rfl
     simp only [pt,sA,sS,sZ]
     refine Zt 4 51 ?_ rfl hs ?_ ?_
     rotate_left
     ·rintro wx ⟨m0,m1,m2,m3,m5,l0,l1,l2,l3,h0,h1,h2,h3⟩;go_simp;try with_reducible rfl
     simp only [pt,sA,sS,sZ]
     refine Zt 5 52 ?_ rfl hs ?_ ?_
     rotate_left
     ·rintro wx ⟨m0,m1,m2,m3,m5,l0,l1,l2,l3,h0,h1,h2,h3⟩;go_simp;try with_reducible rfl
     simp only [pt,sA,sS,sZ]
     refine Zt 6 53 ?_ rfl hs ?_ ?_
     rotate_left
     ·rintro wx ⟨m0,m1,m2,m3,m5,l0,l1,l2,l3,h0,h1,h2,h3⟩;go_simp;try with_reducible rfl
     simp only [pt,sA,sS,sZ]
     refine Zt 7 54 ?_ rfl hs ?_ ?_
     rotate_left
     ·rintro wx ⟨m0,m1,m2,m3,m5,l0,l1,l2,l3,h0,h1,h2,h3⟩;go_simp;try with_reducible rfl
     simp only [pt,sA,sS,sZ]
     refine Zt 8 55 ?_ rfl hs ?_ ?_
     rotate_left
     ·rintro wx ⟨m0,m1,m2,m3,m5,l0,l1,l2,l3,h0,h1,h2,h3⟩;go_simp;try with_reducible rfl
     simp only [pt,sA,sS,sZ]
     refine Zt 9 56 ?_ rfl hs ?_ ?_
     rotate_left
     ·rintro wx ⟨m0,m1,m2,m3,m5,l0,l1,l2,l3,h0,h1,h2,h3⟩;go_simp;try with_reducible rfl
     simp only [pt,sA,sS,sZ]
     refine Zt 10 57 ?_ rfl hs ?_ ?_
     rotate_left
     ·rintro wx ⟨m0,m1,m2,m3,m5,l0,l1,l2,l3,h0,h1,h2,h3⟩;go_simp;try with_reducible rfl
     simp only [pt,sA,sS,sZ]
     refine Zt 11 58 ?_ rfl hs ?_ ?_
     rotate_left
     ·rintro wx ⟨m0,m1,m2,m3,m5,l0,l1,l2,l3,h0,h1,h2,h3⟩;go_simp;try with_reducible rfl
     simp only [pt,sA,sS,sZ]
     refine Zt 12 59 ?_ rfl hs ?_ ?_
     rotate_left
     ·rintro wx ⟨m0,m1,m2,m3,m5,l0,l1,l2,l3,h0,h1,h2,h3⟩;go_simp;try with_reducible rfl
     simp only [pt,sA,sS,sZ]
     refine Zt 13 60 ?_ rfl hs ?_ ?_
     rotate_left
     ·rintro wx ⟨m0,m1,m2,m3,m5,l0,l1,l2,l3,h0,h1,h2,h3⟩;go_simp;try with_reducible rfl
     simp only [pt,sA,sS,sZ]
     refine Zt 14 61 ?_ rfl hs ?_ ?_
     rotate_left
     ·rintro wx ⟨m0,m1,m2,m3,m5,l0,l1,l2,l3,h0,h1,h2,h3⟩;go_simp;try with_reducible rfl
     simp only [pt,sA,sS,sZ]
     refine Zt 15 62 ?_ rfl hs ?_ ?_
     rotate_left
     ·rintro wx ⟨m0,m1,m2,m3,m5,l0,l1,l2,l3,h0,h1,h2,h3⟩;go_simp;try with_reducible rfl
     simp only [pt,sA,sS,sZ]
     refine Zt 16 63 ?_ rfl hs ?_ ?_
     rotate_left
     ·rintro wx ⟨m0,m1,m2,m3,m5,l0,l1,l2,l3,h0,h1,h2,h3⟩;go_simp;try with_reducible rfl
     simp only [pt,sA,sS,sZ]
     refine Zt 17 64 ?_ rfl hs ?_ ?_
     rotate_left
     ·rintro wx ⟨m0,m1,m2,m3,m5,l0,l1,l2,l3,h0,h1,h2,h3⟩;go_simp;try with_reducible rfl
     simp only [pt,sA,sS,sZ]
     refine Zt 18 65 ?_ rfl hs ?_ ?_
     rotate_left
     ·rintro wx ⟨m0,m1,m2,m3,m5,l0,l1,l2,l3,h0,h1,h2,h3⟩;go_simp;try with_reducible rfl
     simp only [pt,sA,sS,sZ]
     refine Zt 19 66 ?_ rfl hs ?_ ?_
     rotate_left
     ·rintro wx ⟨m0,m1,m2,m3,m5,l0,l1,l2,l3,h0,h1,h2,h3⟩;go_simp;try with_reducible rfl
     simp only [pt,sA,sS,sZ]
     refine Zt 20 67 ?_ rfl hs ?_ ?_
     rotate_left
     ·rintro wx ⟨m0,m1,m2,m3,m5,l0,l1,l2,l3,h0,h1,h2,h3⟩;go_simp;try with_reducible rfl
     simp only [pt,sA,sS,sZ]
     refine Zt 21 68 ?_ rfl hs ?_ ?_
     rotate_left
     ·rintro wx ⟨m0,m1,m2,m3,m5,l0,l1,l2,l3,h0,h1,h2,h3⟩;go_simp;try with_reducible rfl
     simp only [pt,sA,sS,sZ]
     refine Zt 22 69 ?_ rfl hs ?_ ?_
     rotate_left
     ·rintro wx ⟨m0,m1,m2,m3,m5,l0,l1,l2,l3,h0,h1,h2,h3⟩;go_simp;try with_reducible rfl
     simp only [pt,sA,sS,sZ]
     refine Zs 23 70 rfl hs ?_
     simp only [pt,sA,sS,sZ]
     refine Zs 24 71 rfl hs ?_
     simp only [pt,sA,sS,sZ]
     refine Zs 25 72 rfl hs ?_
     simp only [pt,sA,sS,sZ]
     refine Zs 26 73 rfl hs ?_
     simp only [pt,sA,sS,sZ]
     refine Zt 27 74 ?_ rfl hs ?_ ?_
     rotate_left
     ·rintro wx ⟨m0,m1,m2,m3,m5,l0,l1,l2,l3,h0,h1,h2,h3⟩;go_simp;try with_reducible rfl
     simp only [pt,sA,sS,sZ]
     refine Zt 28 75 ?_ rfl hs ?_ ?_
     rotate_left
     ·rintro wx ⟨m0,m1,m2,m3,m5,l0,l1,l2,l3,h0,h1,h2,h3⟩;go_simp;try with_reducible rfl
     simp only [pt,sA,sS,sZ]
     refine Z_done (by kernel_rfl) ?_ _
     obtain ⟨m0,m1,m2,m3,m5,l0,l1,l2,l3,h0,h1,h2,h3⟩:=hs
     by_cases he2:(⟨xa,xb,xc,xd⟩:Hd)=⟨la,lb_,lc,ld⟩
     ·have HE:=fun w=>show (binOp .eql 37 (.agg #[.int .i64 xa,.int .u64 xb,.int .i64 xc,.int .i64 xd]) (.agg #[.int .i64 la,.int .u64 lb_,.int .i64 lc,.int .i64 ld])).run Tryz.prog w=.ok (.bool true) w by rw [hd_eql,decide_eq_true he2]
      go_upto_region 14 with fail
      clear HE
      have HLS:=Lib.hid (fun (wx:World) (G:Nat→Pg) (F:HL) (h:Holds wx ((mb,moO G q)::((lb,pgO (⟨⟨la,lb_,lc,ld⟩,ln,false⟩:Pg))::F)))=>show wx.cell? ⟨lb,0,none⟩=some (.int .i64 la)∧wx.cell? ⟨lb,1,none⟩=some (.int .u64 lb_)∧wx.cell? ⟨lb,2,none⟩=some (.int .i64 lc)∧wx.cell? ⟨lb,3,none⟩=some (.int .i64 ld)∧wx.cell? ⟨lb,4,none⟩=some (.int .i64 ln)∧wx.cell? ⟨lb,5,none⟩=some (.bool false) from ⟨h.tail.hcell 0,h.tail.hcell 1,h.tail.hcell 2,h.tail.hcell 3,h.tail.hcell 4,h.tail.hcell 5⟩)
      clear m0 m1 m2 m3 m5 l0 l1 l2 l3 h0 h1 h2 h3
      refine Y_begin (fun wx=>wx.cell? ⟨lb,0,none⟩=some (.int .i64 la)∧wx.cell? ⟨lb,1,none⟩=some (.int .u64 lb_)∧wx.cell? ⟨lb,2,none⟩=some (.int .i64 lc)∧wx.cell? ⟨lb,3,none⟩=some (.int .i64 ld)∧wx.cell? ⟨lb,4,none⟩=some (.int .i64 ln)∧wx.cell? ⟨lb,5,none⟩=some (.bool false)) 6 (by kernel_rfl) (fun w1 hd=>HLS.out _ _ _ (hHl.dr hd)) (fun w1 hd hs=>?_)
      have hHm:=hHl.dr hd;have hGm:=hGl.trans (Grew.dr hd);clear hd hHl hGl
      refine Yt 0 90 ?_ rfl hs ?_ ?_
      rotate_left
      ·intro wx;go_simp;try with_reducible rfl
      simp only [pt,sA,sS,sZ]
      refine Yt 1 91 ?_ rfl hs ?_ ?_
      rotate_left
      ·intro wx;go_simp;try with_reducible rfl
      simp only [pt,sA,sS,sZ]
      refine Yd 2 92 ?_ rfl hs ?_ ?_
      rotate_left
      ·rintro wx ⟨s0,s1,s2,s3,s4,s5⟩;go_simp;try with_reducible rfl
      simp only [pt,sA,sS,sZ]
      refine Yt 3 93 ?_ rfl hs ?_ ?_
      rotate_left
      ·intro wx;go_simp;try with_reducible rfl
      simp only [pt,sA,sS,sZ]
      refine Yt 4 94 ?_ rfl hs ?_ ?_
      rotate_left
      ·intro wx;go_simp;try with_reducible rfl
      simp only [pt,sA,sS,sZ]
      refine Yt 5 95 ?_ rfl hs ?_ ?_
      rotate_left
      ·intro wx;go_simp;try with_reducible rfl
      simp only [pt,sA,sS,sZ]
      refine Y_late 6 rfl (by kernel_rfl) (by kernel_rfl) (fun K hK=>?_)
      have ⟨s0,s1,s2,s3,s4,s5⟩:=hs
      obtain ⟨r0,r1,r2,r3,r4,r5⟩:=mo_cells hHm (show p<256 by omega);have f0:=hHm.hfrozen (p * 6);have f1:=hHm.hfrozen (p * 6+1);have f2:=hHm.hfrozen (p * 6+2);have f3:=hHm.hfrozen (p * 6+3);have f4:=hHm.hfrozen (p * 6+4);have f5:=hHm.hfrozen (p * 6+5);have rl:=hHm.hlt;have hH9:=mo_store hHm (show p<256 by omega) (⟨⟨la,lb_,lc,ld⟩,ln,false⟩:Pg);have hG9:=(((((hGm.setCell ⟨mb,p * 6,none⟩ (.int .i64 la)).setCell ⟨mb,p * 6+1,none⟩ (.int .u64 lb_)).setCell ⟨mb,p * 6+2,none⟩ (.int .i64 lc)).setCell ⟨mb,p * 6+3,none⟩ (.int .i64 ld)).setCell ⟨mb,p * 6+4,none⟩ (.int .i64 ln)).setCell ⟨mb,p * 6+5,none⟩ (.bool false);go_simp;clear r0 r1 r2 r3 r4 r5 f0 f1 f2 f3 f4 f5 hHm hGm
      clear s0 s1 s2 s3 s4 s5 hs
      refine hK _ _ ?_;clear hK K
      refine Y_done (by kernel_rfl) ?_ _
      have hfe:fkk f t (⟨⟨la,lb_,lc,ld⟩,ln,false⟩:Pg) (k+1)=updF (fkk f t (⟨⟨la,lb_,lc,ld⟩,ln,false⟩:Pg) k) p (⟨⟨la,lb_,lc,ld⟩,ln,false⟩:Pg):=by rw [HFS.out,fnd_yes HX.out ⟨by rw [← HY.out],he2⟩]
      rw [← hfe] at hH9
      have q4:FdTo mb gb lb f q (⟨⟨la,lb_,lc,ld⟩,ln,false⟩:Pg) t (H1++(Hs++(Hc++Fr))) w (.int .i64 ((k:Int)+1)) _:=⟨k+1,by rw [← HNDE.out];omega,by go_num,hH9.p,hG9⟩
      clear hfe hH9 hG9
      go_wp2_with fail
      refine ⟨q4,?_⟩
      simp [intOf];omega
     ·have HE:=fun w=>show (binOp .eql 37 (.agg #[.int .i64 xa,.int .u64 xb,.int .i64 xc,.int .i64 xd]) (.agg #[.int .i64 la,.int .u64 lb_,.int .i64 lc,.int .i64 ld])).run Tryz.prog w=.ok (.bool false) w by rw [hd_eql,decide_eq_false he2]
      have hfe:fkk f t (⟨⟨la,lb_,lc,ld⟩,ln,false⟩:Pg) (k+1)=fkk f t (⟨⟨la,lb_,lc,ld⟩,ln,false⟩:Pg) k:=HFM.out (fnd_no HX.out (fun h=>he2 h.2))
      rw [← hfe] at hHl
      have q4:FdTo mb gb lb f q (⟨⟨la,lb_,lc,ld⟩,ln,false⟩:Pg) t (H1++(Hs++(Hc++Fr))) w (.int .i64 ((k:Int)+1)) _:=⟨k+1,by rw [← HNDE.out];omega,by go_num,hHl.p,hGl⟩
      clear hfe hHl hGl
      go_wp2_with fail
      refine ⟨q4,?_⟩
      simp [intOf];omega
    ·have HNE:=Lib.hid (fun w=>show (binOp .neq 37 (.agg #[.int .i64 xa,.int .u64 xb,.int .i64 xc,.int .i64 xd]) (.agg #[.int .i64 ya,.int .u64 yb,.int .i64 yc,.int .i64 yd])).run Tryz.prog w=.ok (.bool true) w by rw [hd_neq,decide_eq_false he];rfl)
     have he2:(⟨xa,xb,xc,xd⟩:Hd)=⟨la,lb_,lc,ld⟩:=by
      refine Classical.byContradiction fun hne=>he ?_
      have h1:=HSO.out.1
      rw [fnd_no HX.out (fun h=>hne h.2),← HY.out] at h1
      exact h1
     have HN2:=fun w=>show (binOp .neq 37 (.agg #[.int .i64 xa,.int .u64 xb,.int .i64 xc,.int .i64 xd]) (.agg #[.int .i64 la,.int .u64 lb_,.int .i64 lc,.int .i64 ld])).run Tryz.prog w=.ok (.bool false) w by rw [hd_neq,decide_eq_true he2];rfl
     have HN3:=HNE.out
     refine Z_begin (fun wx=>wx.cell? ⟨mb,p * 6,none⟩=some (.int .i64 ya)∧wx.cell? ⟨mb,p * 6+1,none⟩=some (.int .u64 yb)∧wx.cell? ⟨mb,p * 6+2,none⟩=some (.int .i64 yc)∧wx.cell? ⟨mb,p * 6+3,none⟩=some (.int .i64 yd)∧wx.cell? ⟨mb,p * 6+5,none⟩=some (.bool false)∧wx.cell? ⟨lb,0,none⟩=some (.int .i64 la)∧wx.cell? ⟨lb,1,none⟩=some (.int .u64 lb_)∧wx.cell? ⟨lb,2,none⟩=some (.int .i64 lc)∧wx.cell? ⟨lb,3,none⟩=some (.int .i64 ld)∧wx.cell? ⟨gh,0,none⟩=some (.int .i64 xa)∧wx.cell? ⟨gh,1,none⟩=some (.int .u64 xb)∧wx.cell? ⟨gh,2,none⟩=some (.int .i64 xc)∧wx.cell? ⟨gh,3,none⟩=some (.int .i64 xd)) 29 (by kernel_rfl) (fun w1 hd=>HSW.out _ _ (hHk.dr hd)) (fun w1 hd hs=>?_)
     have hHl:=hHk.dr hd;have hGl:=hG4.trans (Grew.dr hd);clear hd hHk hG4
     refine Zt 0 47 ?_ rfl hs ?_ ?_
     rotate_left
     ·rintro wx ⟨m0,m1,m2,m3,m5,l0,l1,l2,l3,h0,h1,h2,h3⟩;go_simp;try with_reducible rfl
     simp only [pt,sA,sS,sZ]
     refine Zt 1 48 ?_ rfl hs ?_ ?_
     rotate_left
     ·rintro wx ⟨m0,m1,m2,m3,m5,l0,l1,l2,l3,h0,h1,h2,h3⟩;go_simp;try with_reducible rfl
     simp only [pt,sA,sS,sZ]
     refine Zt 2 49 ?_ rfl hs ?_ ?_
     rotate_left
     ·rintro wx ⟨m0,m1,m2,m3,m5,l0,l1,l2,l3,h0,h1,h2,h3⟩;go_simp;try with_reducible rfl
     simp only [pt,sA,sS,sZ]
     refine Zt 3 50 ?_ rfl hs ?_ ?_
     rotate_left
     ·rintro wx ⟨m0,m1,m2,m3,m5,l0,l1,l2,l3,h0,h1,h2,h3⟩;go_simp;try with_reducible rfl
     simp only [pt,sA,sS,sZ]
     refine Zt 4 51 ?_ rfl hs ?_ ?_
     rotate_left
     ·rintro wx ⟨m0,m1,m2,m3,m5,l0,l1,l2,l3,h0,h1,h2,h3⟩;go_simp;try with_reducible rfl
     simp only [pt,sA,sS,sZ]
     refine Zt 5 52 ?_ rfl hs ?_ ?_
     rotate_left
     ·rintro wx ⟨m0,m1,m2,m3,m5,l0,l1,l2,l3,h0,h1,h2,h3⟩;go_simp;try with_reducible rfl
     simp only [pt,sA,sS,sZ]
     refine Zt 6 53 ?_ rfl hs ?_ ?_
     rotate_left
     ·rintro wx ⟨m0,m1,m2,m3,m5,l0,l1,l2,l3,h0,h1,h2,h3⟩;go_simp;try with_reducible rfl
     simp only [pt,sA,sS,sZ]
     refine Zt 7 54 ?_ rfl hs ?_ ?_
     rotate_left
     ·rintro wx ⟨m0,m1,m2,m3,m5,l0,l1,l2,l3,h0,h1,h2,h3⟩;go_simp;try with_reducible rfl
     simp only [pt,sA,sS,sZ]
     refine Zt 8 55 ?_ rfl hs ?_ ?_
     rotate_left
     ·rintro wx ⟨m0,m1,m2,m3,m5,l0,l1,l2,l3,h0,h1,h2,h3⟩;go_simp;try with_reducible rfl
     simp only [pt,sA,sS,sZ]
     refine Zt 9 56 ?_ rfl hs ?_ ?_
     rotate_left
     ·rintro wx ⟨m0,m1,m2,m3,m5,l0,l1,l2,l3,h0,h1,h2,h3⟩;go_simp;try with_reducible rfl
     simp only [pt,sA,sS,sZ]
     refine Zt 10 57 ?_ rfl hs ?_ ?_
     rotate_left
     ·rintro wx ⟨m0,m1,m2,m3,m5,l0,l1,l2,l3,h0,h1,h2,h3⟩;go_simp;try with_reducible rfl
     simp only [pt,sA,sS,sZ]
     refine Zt 11 58 ?_ rfl hs ?_ ?_
     rotate_left
     ·rintro wx ⟨m0,m1,m2,m3,m5,l0,l1,l2,l3,h0,h1,h2,h3⟩;go_simp;try with_reducible rfl
     simp only [pt,sA,sS,sZ]
     refine Zt 12 59 ?_ rfl hs ?_ ?_
     rotate_left
     ·rintro wx ⟨m0,m1,m2,m3,m5,l0,l1,l2,l3,h0,h1,h2,h3⟩;go_simp;try with_reducible rfl
     simp only [pt,sA,sS,sZ]
     refine Zt 13 60 ?_ rfl hs ?_ ?_
     rotate_left
     ·rintro wx ⟨m0,m1,m2,m3,m5,l0,l1,l2,l3,h0,h1,h2,h3⟩;go_simp;try with_reducible rfl
     simp only [pt,sA,sS,sZ]
     refine Zt 14 61 ?_ rfl hs ?_ ?_
     rotate_left
     ·rintro wx ⟨m0,m1,m2,m3,m5,l0,l1,l2,l3,h0,h1,h2,h3⟩;go_simp;try with_reducible rfl
     simp only [pt,sA,sS,sZ]
     refine Zt 15 62 ?_ rfl hs ?_ ?_
     rotate_left
     ·rintro wx ⟨m0,m1,m2,m3,m5,l0,l1,l2,l3,h0,h1,h2,h3⟩;go_simp;try with_reducible rfl
     simp only [pt,sA,sS,sZ]
     refine Zt 16 63 ?_ rfl hs ?_ ?_
     rotate_left
     ·rintro wx ⟨m0,m1,m2,m3,m5,l0,l1,l2,l3,h0,h1,h2,h3⟩;go_simp;try with_reducible rfl
     simp only [pt,sA,sS,sZ]
     refine Zt 17 64 ?_ rfl hs ?_ ?_
     rotate_left
     ·rintro wx ⟨m0,m1,m2,m3,m5,l0,l1,l2,l3,h0,h1,h2,h3⟩;go_simp;try with_reducible rfl
     simp only [pt,sA,sS,sZ]
     refine Zt 18 65 ?_ rfl hs ?_ ?_
     rotate_left
     ·rintro wx ⟨m0,m1,m2,m3,m5,l0,l1,l2,l3,h0,h1,h2,h3⟩;go_simp;try with_reducible rfl
     simp only [pt,sA,sS,sZ]
     refine Zt 19 66 ?_ rfl hs ?_ ?_
     rotate_left
     ·rintro wx ⟨m0,m1,m2,m3,m5,l0,l1,l2,l3,h0,h1,h2,h3⟩;go_simp;try with_reducible rfl
     simp only [pt,sA,sS,sZ]
     refine Zt 20 67 ?_ rfl hs ?_ ?_
     rotate_left
     ·rintro wx ⟨m0,m1,m2,m3,m5,l0,l1,l2,l3,h0,h1,h2,h3⟩;go_simp;try with_reducible rfl
     simp only [pt,sA,sS,sZ]
     refine Zt 21 68 ?_ rfl hs ?_ ?_
     rotate_left
     ·rintro wx ⟨m0,m1,m2,m3,m5,l0,l1,l2,l3,h0,h1,h2,h3⟩;go_simp;try with_reducible rfl
     simp only [pt,sA,sS,sZ]
     refine Zt 22 69 ?_ rfl hs ?_ ?_
     rotate_left
     ·rintro wx ⟨m0,m1,m2,m3,m5,l0,l1,l2,l3,h0,h1,h2,h3⟩;go_simp;try with_reducible rfl
     simp only [pt,sA,sS,sZ]
     refine Zt 23 70 ?_ rfl hs ?_ ?_
     rotate_left
     ·rintro wx ⟨m0,m1,m2,m3,m5,l0,l1,l2,l3,h0,h1,h2,h3⟩;go_simp;try with_reducible rfl
     simp only [pt,sA,sS,sZ]
     refine Zt 24 71 ?_ rfl hs ?_ ?_
     rotate_left
     ·rintro wx ⟨m0,m1,m2,m3,m5,l0,l1,l2,l3,h0,h1,h2,h3⟩;go_simp;try with_reducible rfl
     simp only [pt,sA,sS,sZ]
     refine Zt 25 72 ?_ rfl hs ?_ ?_
     rotate_left
     ·rintro wx ⟨m0,m1,m2,m3,m5,l0,l1,l2,l3,h0,h1,h2,h3⟩;go_simp;try with_reducible rfl
     simp only [pt,sA,sS,sZ]
     refine Zt 26 73 ?_ rfl hs ?_ ?_
     rotate_left
     ·rintro wx ⟨m0,m1,m2,m3,m5,l0,l1,l2,l3,h0,h1,h2,h3⟩;go_simp;try with_reducible rfl
     simp only [pt,sA,sS,sZ]
     refine Zt 27 74 ?_ rfl hs ?_ ?_
     rotate_left
     ·rintro wx ⟨m0,m1,m2,m3,m5,l0,l1,l2,l3,h0,h1,h2,h3⟩;go_simp;try with_reducible rfl
     simp only [pt,sA,sS,sZ]
     refine Zt 28 75 ?_ rfl hs ?_ ?_
     rotate_left
     ·rintro wx ⟨m0,m1,m2,m3,m5,l0,l1,l2,l3,h0,h1,h2,h3⟩;go_simp;try with_reducible rfl
     simp only [pt,sA,sS,sZ]
     refine Z_done (by kernel_rfl) ?_ _
     obtain ⟨m0,m1,m2,m3,m5,l0,l1,l2,l3,h0,h1,h2,h3⟩:=hs
     have HE:=fun w=>show (binOp .eql 37 (.agg #[.int .i64 xa,.int .u64 xb,.int .i64 xc,.int .i64 xd]) (.agg #[.int .i64 la,.int .u64 lb_,.int .i64 lc,.int .i64 ld])).run Tryz.prog w=.ok (.bool true) w by rw [hd_eql,decide_eq_true he2]
     go_upto_region 14 with fail
     clear HE HN2 HN3
     have HLS:=Lib.hid (fun (wx:World) (G:Nat→Pg) (F:HL) (h:Holds wx ((mb,moO G q)::((lb,pgO (⟨⟨la,lb_,lc,ld⟩,ln,false⟩:Pg))::F)))=>show wx.cell? ⟨lb,0,none⟩=some (.int .i64 la)∧wx.cell? ⟨lb,1,none⟩=some (.int .u64 lb_)∧wx.cell? ⟨lb,2,none⟩=some (.int .i64 lc)∧wx.cell? ⟨lb,3,none⟩=some (.int .i64 ld)∧wx.cell? ⟨lb,4,none⟩=some (.int .i64 ln)∧wx.cell? ⟨lb,5,none⟩=some (.bool false) from ⟨h.tail.hcell 0,h.tail.hcell 1,h.tail.hcell 2,h.tail.hcell 3,h.tail.hcell 4,h.tail.hcell 5⟩)
     clear m0 m1 m2 m3 m5 l0 l1 l2 l3 h0 h1 h2 h3
     refine Y_begin (fun wx=>wx.cell? ⟨lb,0,none⟩=some (.int .i64 la)∧wx.cell? ⟨lb,1,none⟩=some (.int .u64 lb_)∧wx.cell? ⟨lb,2,none⟩=some (.int .i64 lc)∧wx.cell? ⟨lb,3,none⟩=some (.int .i64 ld)∧wx.cell? ⟨lb,4,none⟩=some (.int .i64 ln)∧wx.cell? ⟨lb,5,none⟩=some (.bool false)) 6 (by kernel_rfl) (fun w1 hd=>HLS.out _ _ _ (hHl.dr hd)) (fun w1 hd hs=>?_)
     have hHm:=hHl.dr hd;have hGm:=hGl.trans (Grew.dr hd);clear hd hHl hGl
     refine Yt 0 90 ?_ rfl hs ?_ ?_
     rotate_left
     ·intro wx;go_simp;try with_reducible rfl
     simp only [pt,sA,sS,sZ]
     refine Yt 1 91 ?_ rfl hs ?_ ?_
     rotate_left
     ·intro wx;go_simp;try with_reducible rfl
     simp only [pt,sA,sS,sZ]
     refine Yd 2 92 ?_ rfl hs ?_ ?_
     rotate_left
     ·rintro wx ⟨s0,s1,s2,s3,s4,s5⟩;go_simp;try with_reducible rfl
     simp only [pt,sA,sS,sZ]
     refine Yt 3 93 ?_ rfl hs ?_ ?_
     rotate_left
     ·intro wx;go_simp;try with_reducible rfl
     simp only [pt,sA,sS,sZ]
     refine Yt 4 94 ?_ rfl hs ?_ ?_
     rotate_left
     ·intro wx;go_simp;try with_reducible rfl
     simp only [pt,sA,sS,sZ]
     refine Yt 5 95 ?_ rfl hs ?_ ?_
     rotate_left
     ·intro wx;go_simp;try with_reducible rfl
     simp only [pt,sA,sS,sZ]
     refine Y_late 6 rfl (by kernel_rfl) (by kernel_rfl) (fun K hK=>?_)
     have ⟨s0,s1,s2,s3,s4,s5⟩:=hs
     obtain ⟨r0,r1,r2,r3,r4,r5⟩:=mo_cells hHm (show p<256 by omega);have f0:=hHm.hfrozen (p * 6);have f1:=hHm.hfrozen (p * 6+1);have f2:=hHm.hfrozen (p * 6+2);have f3:=hHm.hfrozen (p * 6+3);have f4:=hHm.hfrozen (p * 6+4);have f5:=hHm.hfrozen (p * 6+5);have rl:=hHm.hlt;have hH9:=mo_store hHm (show p<256 by omega) (⟨⟨la,lb_,lc,ld⟩,ln,false⟩:Pg);have hG9:=(((((hGm.setCell ⟨mb,p * 6,none⟩ (.int .i64 la)).setCell ⟨mb,p * 6+1,none⟩ (.int .u64 lb_)).setCell ⟨mb,p * 6+2,none⟩ (.int .i64 lc)).setCell ⟨mb,p * 6+3,none⟩ (.int .i64 ld)).setCell ⟨mb,p * 6+4,none⟩ (.int .i64 ln)).setCell ⟨mb,p * 6+5,none⟩ (.bool false);go_simp;clear r0 r1 r2 r3 r4 r5 f0 f1 f2 f3 f4 f5 hHm hGm
     clear s0 s1 s2 s3 s4 s5 hs
     refine hK _ _ ?_;clear hK K
     refine Y_done (by kernel_rfl) ?_ _
     have hfe:fkk f t (⟨⟨la,lb_,lc,ld⟩,ln,false⟩:Pg) (k+1)=updF (fkk f t (⟨⟨la,lb_,lc,ld⟩,ln,false⟩:Pg) k) p (⟨⟨la,lb_,lc,ld⟩,ln,false⟩:Pg):=by rw [HFS.out,fnd_yes HX.out ⟨by rw [← HY.out],he2⟩]
     rw [← hfe] at hH9
     have q4:FdTo mb gb lb f q (⟨⟨la,lb_,lc,ld⟩,ln,false⟩:Pg) t (H1++(Hs++(Hc++Fr))) w (.int .i64 ((k:Int)+1)) _:=⟨k+1,by rw [← HNDE.out];omega,by go_num,hH9.p,hG9⟩
     clear hfe hH9 hG9
     go_wp2_with fail
     refine ⟨q4,?_⟩
     simp [intOf];omega
  ·have hkx:¬ (k:Int)<ND.length:=by omega
   have hke:k=(NDn t).length:=by rw [← HNDE.out];omega
   have hfe:fkk f t last k=fnd f t last:=by rw [hke];exact fkk_end HFD.out.cont HFD.out.geo.1 HFD.out.geo.2.1
   rw [hfe] at hHr
   have HIS:=Lib.hid (show ∀ j:Nat,j<256→(f j).need=true→iskk t k j=true from fun j hj hn=>by
    obtain ⟨h1,h2⟩:=HFD.out.need j hj hn
    refine decide_eq_true ?_
    rw [hke,List.take_length]
    exact List.mem_filter.2 ⟨List.mem_range.2 h1,h2⟩)
   have HNE:=Lib.hid (fun j=>fnd_need (f:=f) (t:=t) HFD.out.ln j)
   obtain ⟨G,hG⟩:∃ G,G=fnd f t last:=⟨_,rfl⟩
   rw [← hG] at HNE hHr
   have HGE:=Lib.hid hG
   generalize iskk t k=isf at *
   have HL64:=Lib.hid (show ND.length≤64 by rw [HNDE.out];exact NDn_len t)
   clear hke hfe hG hk hlt
   go_wp2_with fail
   clear hkx
   go_loopw [13] (fun iv wy=>∃ j:Nat,j≤256∧iv=.int .i64 j∧wy=wr) (fun i _=>256 - (intOf i).toNat)
   case atStart=>exact ⟨0,by omega,rfl,rfl⟩
   case round =>
    obtain ⟨j,hj,rfl,rfl⟩:=hrel
    by_cases hj2:j<256
    ·have hjI:(j:Int)<256:=by omega
     have hjw:IntKind.i64.wrap ((j:Int)+1)=j+1:=wrap_i64_id (by omega) (by omega)
     have hn5:=(mo_cells hHr hj2).2.2.2.2.2
     rw [HNE.out j] at hn5
     have hb5:=(arrN_cell (hHr.p:Holds wr ((gb,arrN isf)::((mb,moO G q)::((lb,pgO last)::(H1++(Hs++(Hc++Fr))))))) hj2).1
     cases hnd:(f j).need with
     |true =>
      rw [HIS.out j hj2 hnd] at hb5
      rw [hnd] at hn5
      clear hnd
      go_wp2_with fail
      go_roundw
      case rel=>exact ⟨j+1,by omega,by go_num,by first | rfl | trivial⟩
      case measure=>simp [intOf];omega
     |false =>
      rw [hnd] at hn5
      clear hnd hb5
      go_wp2_with fail
      go_roundw
      case rel=>exact ⟨j+1,by omega,by go_num,by first | rfl | trivial⟩
      case measure=>simp [intOf];omega
    ·have hjI:¬ (j:Int)<256:=by omega
     have hst3:FrTo mb cb g cap mv G q ND.length c Hs ((gb,arrN isf)::((lb,pgO last)::(H1++Fr))) w (.int .i64 0) wr:=⟨0,c,Hc,by omega,rfl,Reads.refl c,by simp,fun _ h=>h,HCH.out,hHr.p,hgr⟩
     clear hHr hgr HIS HCH hj hj2
     go_wp2_with fail
     clear hjI
     go_loopw [14] (fun iv wr=>FrTo mb cb g cap mv G q ND.length c Hs ((gb,arrN isf)::((lb,pgO last)::(H1++Fr))) w iv wr) (fun i _=>ND.length - (intOf i).toNat)
     case atStart=>exact hst3
     case round =>
      clear hst3
      obtain ⟨k2,c3,Hc3,hk2,rfl,hrd3,hop3,hko3,hch3,hH3,hG3⟩:=hrel
      by_cases hl2:k2<ND.length
      ·have hl2I:(k2:Int)<ND.length:=by omega
       have hk2w:IntKind.i64.wrap ((k2:Int)+1)=k2+1:=wrap_i64_id (by omega) (by have:=HL64.out;omega)
       have hrdn:=IsRow.reads HROW.out (Fr:=(mb,moO G q)::(Hs++(Hc3++Fr))) (hH3.p)
       obtain ⟨h1x,A3,c8',hv3,h2x,hc33,hrd4⟩:=hrdn
       injection hv3 with hv31 hv32 hv33
       subst hv31;subst hv33
       clear hv32 h1x h2x hc33
       obtain ⟨b8,o8,rfl,hcl⟩:=hrd4 (by omega)
       have ca:=hcl k2 (.int .i64 (ND[k2]:Nat)) (by simp [List.getElem?_eq_getElem hl2])
       have hlt':k2<(NDn t).length:=by rw [← HNDE.out];exact hl2
       have hat:=NDn_at hlt'
       have hpe:ND[k2]=(NDn t)[k2]:=by simp only [HNDE.out]
       rw [← hpe] at hat
       generalize ND[k2]=p at *
       obtain ⟨hp64,hpn,_⟩:=hat
       obtain ⟨x,hx⟩:∃ x,lookS t.hs (p:Int)=some x:=by
        unfold isN at hpn
        cases e:lookS t.hs (p:Int) with
        |none=>rw [e] at hpn;exact absurd hpn (by simp)
        |some x=>exact ⟨x,rfl⟩
       obtain ⟨hx1,hx2⟩:=HFD.out.some p x hp64 hx
       rw [← HGE.out] at hx1 hx2
       have hPB:=HFD.out.geo
       have hl3:lookS t.hs ((p / 4:Nat) * (t.P:Int)+(p % 4:Nat))=some x:=by rw [hPB.2.1,← nat_key,nat_split];exact hx
       obtain ⟨g1,g2⟩:=get_spec (HFD.out.cont.reads hrd3) (k:=p / 4) (p:=p % 4) (by omega) (by omega) hl3 (by rw [hrd3.vAt];exact hx2)
       rw [hPB.2.1,← nat_key,nat_split] at g1 g2
       have hgs:=getS_sim t c3 (p:Int)
       have HK4:=Lib.hid (show KO c (getS t c3 (p:Int)).1 from fun hm h=>by
        have h3:=hko3 hm h
        rcases g2 with ⟨_,_,b⟩ | ⟨_,_,d⟩
        ·exact b
        ·obtain ⟨_,m,hm',_⟩:=d h3
         rw [hrd3.ms,hm] at hm'
         exact absurd hm' (by simp))
       have hrt:=right_any (f:=G) (q:=q) HST.out hch3 (hH3:Holds wr ((mb,moO G q)::(Hs++(Hc3++((gb,arrN isf)::((lb,pgO last)::(H1++Fr))))))) hp64 (by have:=HL64.out;omega) (by rw [hx,hx1]) (by
        rcases g2 with ⟨a,_,b⟩ | ⟨a,b,_⟩
        ·exact Or.inl ⟨by rw [a,hx1],b⟩
        ·exact Or.inr ⟨a,b⟩)
       have HRT:=Lib.hid hrt
       generalize (getS t c3 (p:Int)).1=c4 at *
       have HR4:=Lib.hid (hrd3.trans g1)
       have HO4:=Lib.hid (show c4.ops≤c.ops+(k2+1:Nat) by have:=hgs.2.2.2.2.2;omega)
       clear hcl hrd4 hlt' hpe hpn hx hx1 hx2 hPB hl3 g1 g2 hgs hrt hrd3 hop3 hko3 hch3 hH3 hp64
       go_wp2_with fail
       refine HRT.out.mono ?_
       rintro e w4 ⟨Hc4,rfl,hch4,hH4,hg4⟩
       have hG4:=hG3.trans hg4
       clear HRT hg4 hG3 ca
       go_wp2_with fail
       go_roundw
       case rel=>exact ⟨k2+1,c4,Hc4,by omega,by go_num,HR4.out,HO4.out,HK4.out,hch4,hH4,hG4⟩
       case measure=>simp [intOf];omega
      ·have hl2I:¬ (k2:Int)<ND.length:=by omega
       have HR3:=Lib.hid hrd3
       have HK3:=Lib.hid hko3
       have HO3:=Lib.hid (show c3.ops≤c.ops+64 by have:=HL64.out;omega)
       have HC3:=Lib.hid hch3
       have hst4:FxTo mb sb cb g cap mv f G q t c c3 Hc3 ((gb,arrN isf)::((lb,pgO last)::(H1++Fr))) w (.int .i64 0) wr:=⟨0,t,Hs,by omega,rfl,by omega,HST.out,HFD.out.cont.reads hrd3,HFD.out.geo,id,fun n h=>absurd h (by simp),fun m _=>rfl,fun m h hh=>hh,hH3,hG3⟩
       clear hrd3 hop3 hko3 hch3 hH3 hG3 HST
       go_wp2_with fail
       clear hl2I hl2 hk2
       go_loopw [15] (fun iv wr=>FxTo mb sb cb g cap mv f G q t c c3 Hc3 ((gb,arrN isf)::((lb,pgO last)::(H1++Fr))) w iv wr) (fun i _=>ND.length - (intOf i).toNat)
       case atStart=>exact hst4
       case round =>
        clear hst4
        obtain ⟨k4,t4,Hs4,hk4,rfl,hon4,hs4,hC4,hgeo4,hL4,hno4,hyes4,hsub4,hH4,hG4⟩:=hrel
        rw [← HNDE.out] at hk4
        have hfin:(c3.on=true→k4=ND.length)→RetFd mb sb cb g cap mv f q last t c w Fr (.returned (.bool true)) wr:=by
         intro hend
         refine ⟨t4,c3,Hs4,Hc3,rfl,hs4,HC3.out,?_,hG4,HR3.out,HO3.out,hC4,hgeo4,fun hL hon=>hL4 (HR3.out.live hL hon),hsub4,fun n hn=>hyes4 n (fun n' e _=>(show n=n' by omega) ▸ hn),fun hon n hn hnn=>?_,HK3.out⟩
         ·rw [← HGE.out]
          have h:Holds wr ((mb,moO G q)::(Hs4++(Hc3++((gb,arrN isf)::((lb,pgO last)::(H1++Fr)))))):=hH4
          exact h.p
         ·by_cases hin:n∈NDn t
          ·exact hno4 n (by rw [hend hon,HNDE.out,List.take_length];exact hin) hnn
          ·have h0:isN t n=false:=by
            cases e:isN t n with
            |false=>rfl
            |true=>exact absurd (List.mem_filter.2 ⟨List.mem_range.2 hn,e⟩) hin
           rw [hyes4 n (fun n' e hm=>absurd (List.mem_of_mem_take hm) ((show n=n' by omega) ▸ hin))]
           exact isN_none h0
        have HCP:=Lib.hid (stchip_any hs4 (hH4.p:Holds wr (Hs4++(Hc3++((gb,arrN isf)::((lb,pgO last)::(H1++Fr)))))))
        have hno:=non_any HC3.out (hH4.p:Holds wr (Hc3++(Hs4++((gb,arrN isf)::((lb,pgO last)::(H1++Fr))))))
        by_cases hl4:k4<ND.length
        ·have hl4I:(k4:Int)<ND.length:=by omega
         have hk4w:IntKind.i64.wrap ((k4:Int)+1)=k4+1:=wrap_i64_id (by omega) (by have:=HL64.out;omega)
         cases hon:c3.on with
         |false =>
          have HFIN:=Lib.hid (hfin fun h=>by rw [hon] at h;exact absurd h (by simp))
          rw [hon] at hno
          have HNO:=Lib.hid hno
          clear hfin hno hon hon4 hs4 hC4 hgeo4 hL4 hno4 hyes4 hsub4 hH4 hG4
          go_wp2_with fail
          refine HCP.out.mono ?_
          rintro e wx ⟨rfl,rfl⟩
          go_wp2_with fail
          refine HNO.out.mono ?_
          rintro e wx ⟨rfl,rfl⟩
          go_wp2_with fail
          go_ret
          exact HFIN.out
         |true =>
          rw [hon] at hno
          have HNO:=Lib.hid hno
          have hrdn:=IsRow.reads HROW.out (Fr:=(mb,moO G q)::(Hs4++(Hc3++Fr))) (hH4.p)
          obtain ⟨h1x,A3,c8',hv3,h2x,hc33,hrd4⟩:=hrdn
          injection hv3 with hv31 hv32 hv33
          subst hv31;subst hv33
          clear hv32 h1x h2x hc33
          obtain ⟨b8,o8,rfl,hcl⟩:=hrd4 (by omega)
          have hlt':k4<(NDn t).length:=by rw [← HNDE.out];exact hl4
          have HCA:Hid (∀ (wx:World) (F:HL),Holds wx (H1++F)→wx.cell? ⟨b8,o8+k4,none⟩=some (.int .i64 (ND[k4]:Nat))):=Lib.hid (fun wx F hx=>by
           obtain ⟨_,A9,c9,hv9,_,_,hrd9⟩:=IsRow.reads HROW.out (Fr:=F) hx
           injection hv9 with hv91 hv92 hv93
           subst hv91;subst hv93
           obtain ⟨b9,o9,he9,hcl9⟩:=hrd9 (by omega)
           injection he9 with he9
           injection he9 with he91 he92
           subst he91 he92
           exact hcl9 k4 _ (by simp [List.getElem?_eq_getElem hl4]))
          have hat:=NDn_at hlt'
          have hmt:=mem_take_succ hlt'
          have hpe:ND[k4]=(NDn t)[k4]:=by simp only [HNDE.out]
          rw [← hpe] at hat hmt
          generalize ND[k4]=p at *
          obtain ⟨hp64,hpn,hpt⟩:=hat
          obtain ⟨x,hx⟩:∃ x,lookS t.hs (p:Int)=some x:=by
           unfold isN at hpn
           cases e:lookS t.hs (p:Int) with
           |none=>rw [e] at hpn;exact absurd hpn (by simp)
           |some x=>exact ⟨x,rfl⟩
          have hx4:lookS t4.hs (p:Int)=some x:=by rw [hyes4 p (fun n' e hm=>absurd hm ((show p=n' by omega) ▸ hpt))];exact hx
          have hl3:lookS t4.hs ((p / 4:Nat) * (t4.P:Int)+(p % 4:Nat))=some x:=by rw [hgeo4.2.1,← nat_key,nat_split];exact hx4
          obtain ⟨d1,d2,d3,d4,d5,d6,d7,d8⟩:=drop_spec hC4 (k:=p / 4) (p:=p % 4) (by omega) (by omega) hl3
          rw [hgeo4.2.1,← nat_key,nat_split] at d1 d2 d3 d4 d5 d6 d7 d8
          have hp256:(p:Int)<256:=by omega
          have HS4:=Lib.hid hs4
          have HDC:=Lib.hid d1
          cases hnd:(f p).need with
          |true =>
           have HSW:=Lib.hid (fun (wx:World) (h:Holds wx ((mb,moO G q)::(Hs4++(Hc3++((gb,arrN isf)::((lb,pgO last)::(H1++Fr)))))))=>show wx.cell? ⟨b8,o8+k4,none⟩=some (.int .i64 (p:Nat))∧wx.cell? ⟨mb,p * 6+5,none⟩=some (.bool true) from by
            have q5:=(mo_cells h (show p<256 by omega)).2.2.2.2.2
            rw [HNE.out p,hnd] at q5
            exact ⟨HCA.out wx ((mb,moO G q)::(Hs4++(Hc3++Fr))) (h.p),q5⟩)
           have q4:∀ wy,Holds wy ((mb,moO G q)::(Hs4++(Hc3++((gb,arrN isf)::((lb,pgO last)::(H1++Fr))))))→Grew w wy→FxTo mb sb cb g cap mv f G q t c c3 Hc3 ((gb,arrN isf)::((lb,pgO last)::(H1++Fr))) w (.int .i64 ((k4:Int)+1)) wy:=fun wy hy hgy=>⟨k4+1,t4,Hs4,hlt',by go_num,fun _=>hon,hs4,hC4,hgeo4,hL4,fun n hm hn=>((hmt n).1 hm).elim (fun h=>hno4 n h hn) (fun h=>by rw [h,hnd] at hn;exact absurd hn (by simp)),fun m hm=>hyes4 m (fun n e h=>hm n e ((hmt n).2 (Or.inl h))),hsub4,hy,hgy⟩
           have Q4:=Lib.hid q4
           clear hcl hrd4 hlt' hpe hpn hpt hmt hx hx4 hl3 d1 d2 d3 d4 d5 d6 d7 d8 hon hno hon4 hs4 hC4 hgeo4 hL4 hno4 hyes4 hsub4 hfin hnd q4 hp64
           go_wp2_with fail
           refine HCP.out.mono ?_
           rintro e wx ⟨rfl,rfl⟩
           go_wp2_with fail
           refine HNO.out.mono ?_
           rintro e wx ⟨rfl,rfl⟩
           go_upto_region 28 with fail
           refine Z_begin (fun wx=>wx.cell? ⟨b8,o8+k4,none⟩=some (.int .i64 (p:Nat))∧wx.cell? ⟨mb,p * 6+5,none⟩=some (.bool true)) 20 (by kernel_rfl) (fun w1 hd=>HSW.out _ (hH4.dr hd)) (fun w1 hd hs=>?_)
           have hHb:=hH4.dr hd;have hGb:=hG4.trans (Grew.dr hd);clear hd hH4 hG4
           refine Zt 0 138 ?_ rfl hs ?_ ?_
           rotate_left
           ·rintro wx ⟨s1,s2⟩;go_simp;try with_reducible rfl
           simp only [pt,sA,sS,sZ]
           refine Zt 1 139 ?_ rfl hs ?_ ?_
           rotate_left
           ·rintro wx ⟨s1,s2⟩;go_simp;try with_reducible rfl
           simp only [pt,sA,sS,sZ]
           refine Zt 2 140 ?_ rfl hs ?_ ?_
           rotate_left
           ·rintro wx ⟨s1,s2⟩;go_simp;try with_reducible rfl
           simp only [pt,sA,sS,sZ]
           refine Zt 3 141 ?_ rfl hs ?_ ?_
           rotate_left
           ·rintro wx ⟨s1,s2⟩;go_simp;try with_reducible rfl
           simp only [pt,sA,sS,sZ]
           refine Zt 4 142 ?_ rfl hs ?_ ?_
           rotate_left
           ·rintro wx ⟨s1,s2⟩;go_simp;try with_reducible rfl
           simp only [pt,sA,sS,sZ]
           refine Zt 5 143 ?_ rfl hs ?_ ?_
           rotate_left
           ·rintro wx ⟨s1,s2⟩;go_simp;try with_reducible rfl
           simp only [pt,sA,sS,sZ]
           refine Zt 6 144 ?_ rfl hs ?_ ?_
           rotate_left
           ·rintro wx ⟨s1,s2⟩;go_simp;try with_reducible rfl
           simp only [pt,sA,sS,sZ]
           refine Zt 7 145 ?_ rfl hs ?_ ?_
           rotate_left
           ·rintro wx ⟨s1,s2⟩;go_simp;try with_reducible rfl
           simp only [pt,sA,sS,sZ]
           refine Zt 8 146 ?_ rfl hs ?_ ?_
           rotate_left
           ·rintro wx ⟨s1,s2⟩;go_simp;try with_reducible rfl
           simp only [pt,sA,sS,sZ]
           refine Zt 9 147 ?_ rfl hs ?_ ?_
           rotate_left
           ·rintro wx ⟨s1,s2⟩;go_simp;try with_reducible rfl
           simp only [pt,sA,sS,sZ]
           refine Zt 10 148 ?_ rfl hs ?_ ?_
           rotate_left
           ·rintro wx ⟨s1,s2⟩;go_simp;try with_reducible rfl
           simp only [pt,sA,sS,sZ]
           refine Zt 11 149 ?_ rfl hs ?_ ?_
           rotate_left
           ·rintro wx ⟨s1,s2⟩;go_simp;try with_reducible rfl
           simp only [pt,sA,sS,sZ]
           refine Zs 12 150 rfl hs ?_
           simp only [pt,sA,sS,sZ]
           refine Zs 13 151 rfl hs ?_
           simp only [pt,sA,sS,sZ]
           refine Zs 14 152 rfl hs ?_
           simp only [pt,sA,sS,sZ]
           refine Zs 15 153 rfl hs ?_
           simp only [pt,sA,sS,sZ]
           refine Zs 16 154 rfl hs ?_
           simp only [pt,sA,sS,sZ]
           refine Zs 17 155 rfl hs ?_
           simp only [pt,sA,sS,sZ]
           refine Zs 18 156 rfl hs ?_
           simp only [pt,sA,sS,sZ]
           refine Zt 19 157 ?_ rfl hs ?_ ?_
           rotate_left
           ·rintro wx ⟨s1,s2⟩;go_simp;try with_reducible rfl
           simp only [pt,sA,sS,sZ]
           refine Z_done (by kernel_rfl) ?_ _
           have q5:=Q4.out _ hHb hGb
           clear hHb hGb
           go_wp2_with fail
           refine ⟨q5,?_⟩
           simp [intOf];omega
          |false =>
           have HSX:=Lib.hid (fun (wx:World) (Hx:HL) (h:Holds wx ((mb,moO G q)::(Hx++(Hc3++((gb,arrN isf)::((lb,pgO last)::(H1++Fr)))))))=>show wx.cell? ⟨b8,o8+k4,none⟩=some (.int .i64 (p:Nat))∧wx.cell? ⟨mb,p * 6+5,none⟩=some (.bool false) from by
            have q5:=(mo_cells h (show p<256 by omega)).2.2.2.2.2
            rw [HNE.out p,hnd] at q5
            exact ⟨HCA.out wx ((mb,moO G q)::(Hx++(Hc3++Fr))) (h.p),q5⟩)
           have HSW:=Lib.hid (fun (wx:World) (h:Holds wx ((mb,moO G q)::(Hs4++(Hc3++((gb,arrN isf)::((lb,pgO last)::(H1++Fr)))))))=>HSX.out wx Hs4 h)
           have q4:∀ wy Hs5,StAt sb cb (dropS t4 p).1 Hs5→Holds wy ((mb,moO G q)::(Hs5++(Hc3++((gb,arrN isf)::((lb,pgO last)::(H1++Fr))))))→Grew w wy→FxTo mb sb cb g cap mv f G q t c c3 Hc3 ((gb,arrN isf)::((lb,pgO last)::(H1++Fr))) w (.int .i64 ((k4:Int)+1)) wy:=fun wy Hs5 hs5 hy hgy=>⟨k4+1,(dropS t4 p).1,Hs5,hlt',by go_num,fun _=>hon,hs5,d2,⟨d4.trans hgeo4.1,d5,d6.trans hgeo4.2.2⟩,fun h=>d3 (hL4 h),fun n hm hn=>by
            rw [d8]
            rcases (hmt n).1 hm with h | h
            ·split
             ·rfl
             ·exact hno4 n h hn
            ·rw [h,if_pos rfl],fun m hm=>by
            rw [d8]
            by_cases e:m=(p:Int)
            ·have:=hm p e ((hmt p).2 (Or.inr rfl))
             rw [hnd] at this
             exact absurd this (by simp)
            ·rw [if_neg e]
             exact hyes4 m (fun n e2 h=>hm n e2 ((hmt n).2 (Or.inl h))),fun m h hh=>by
            rw [d8] at hh
            split at hh
            ·exact absurd hh (by simp)
            ·exact hsub4 m h hh,hy,hgy⟩
           have Q4:=Lib.hid q4
           clear hcl hrd4 hlt' hpe hpn hpt hmt hx hx4 hl3 d1 d2 d3 d4 d5 d6 d7 d8 hon hno hon4 hs4 hC4 hgeo4 hL4 hno4 hyes4 hsub4 hfin hnd q4 hp64
           have HDRP:=Lib.hid (fun (wx:World) (F:HL) (h:Holds wx (Hs4++F))=>drop_any (p:Int) HS4.out h)
           generalize (dropS t4 (p:Int))=r at *
           obtain ⟨t5,rc⟩:=r
           dsimp only at HDC Q4
           go_wp2_with fail
           refine HCP.out.mono ?_
           rintro e wx ⟨rfl,rfl⟩
           go_wp2_with fail
           refine HNO.out.mono ?_
           rintro e wx ⟨rfl,rfl⟩
           go_upto_region 28 with fail
           refine Z_begin (fun wx=>wx.cell? ⟨b8,o8+k4,none⟩=some (.int .i64 (p:Nat))∧wx.cell? ⟨mb,p * 6+5,none⟩=some (.bool false)) 20 (by kernel_rfl) (fun w1 hd=>HSW.out _ (hH4.dr hd)) (fun w1 hd hs=>?_)
           have hHb:=hH4.dr hd;have hGb:=hG4.trans (Grew.dr hd);clear hd hH4 hG4
           refine Zt 0 138 ?_ rfl hs ?_ ?_
           rotate_left
           ·rintro wx ⟨s1,s2⟩;go_simp;try with_reducible rfl
           simp only [pt,sA,sS,sZ]
           refine Zt 1 139 ?_ rfl hs ?_ ?_
           rotate_left
           ·rintro wx ⟨s1,s2⟩;go_simp;try with_reducible rfl
           simp only [pt,sA,sS,sZ]
           refine Zt 2 140 ?_ rfl hs ?_ ?_
           rotate_left
           ·rintro wx ⟨s1,s2⟩;go_simp;try with_reducible rfl
           simp only [pt,sA,sS,sZ]
           refine Zt 3 141 ?_ rfl hs ?_ ?_
           rotate_left
           ·rintro wx ⟨s1,s2⟩;go_simp;try with_reducible rfl
           simp only [pt,sA,sS,sZ]
           refine Zt 4 142 ?_ rfl hs ?_ ?_
           rotate_left
           ·rintro wx ⟨s1,s2⟩;go_simp;try with_reducible rfl
           simp only [pt,sA,sS,sZ]
           refine Zt 5 143 ?_ rfl hs ?_ ?_
           rotate_left
           ·rintro wx ⟨s1,s2⟩;go_simp;try with_reducible rfl
           simp only [pt,sA,sS,sZ]
           refine Zt 6 144 ?_ rfl hs ?_ ?_
           rotate_left
           ·rintro wx ⟨s1,s2⟩;go_simp;try with_reducible rfl
           simp only [pt,sA,sS,sZ]
           refine Zt 7 145 ?_ rfl hs ?_ ?_
           rotate_left
           ·rintro wx ⟨s1,s2⟩;go_simp;try with_reducible rfl
           simp only [pt,sA,sS,sZ]
           refine Zt 8 146 ?_ rfl hs ?_ ?_
           rotate_left
           ·rintro wx ⟨s1,s2⟩;go_simp;try with_reducible rfl
           simp only [pt,sA,sS,sZ]
           refine Zt 9 147 ?_ rfl hs ?_ ?_
           rotate_left
           ·rintro wx ⟨s1,s2⟩;go_simp;try with_reducible rfl
           simp only [pt,sA,sS,sZ]
           refine Zt 10 148 ?_ rfl hs ?_ ?_
           rotate_left
           ·rintro wx ⟨s1,s2⟩;go_simp;try with_reducible rfl
           simp only [pt,sA,sS,sZ]
           refine Zt 11 149 ?_ rfl hs ?_ ?_
           rotate_left
           ·rintro wx ⟨s1,s2⟩;go_simp;try with_reducible rfl
           simp only [pt,sA,sS,sZ]
           refine Zt 12 150 ?_ rfl hs ?_ ?_
           rotate_left
           ·rintro wx ⟨s1,s2⟩;go_simp;try with_reducible rfl
           simp only [pt,sA,sS,sZ]
           refine Zt 13 151 ?_ rfl hs ?_ ?_
           rotate_left
           ·rintro wx ⟨s1,s2⟩;go_simp;try with_reducible rfl
           simp only [pt,sA,sS,sZ]
           refine Zt 14 152 ?_ rfl hs ?_ ?_
           rotate_left
           ·rintro wx ⟨s1,s2⟩;go_simp;try with_reducible rfl
           simp only [pt,sA,sS,sZ]
           refine Zt 15 153 ?_ rfl hs ?_ ?_
           rotate_left
           ·rintro wx ⟨s1,s2⟩;go_simp;try with_reducible rfl
           simp only [pt,sA,sS,sZ]
           refine Zt 16 154 ?_ rfl hs ?_ ?_
           rotate_left
           ·rintro wx ⟨s1,s2⟩;go_simp;try with_reducible rfl
           simp only [pt,sA,sS,sZ]
           refine Z_mid 17 rfl (by kernel_rfl) (fun K hK=>?_)
           have ⟨s1,s2⟩:=hs
           go_simp;have hdr:=HDRP.out w1 _ (hHb.p:Holds w1 (Hs4++((mb,moO G q)::(Hc3++((gb,arrN isf)::((lb,pgO last)::(H1++Fr)))))));rw [HDC.out] at hdr;refine hdr.mono ?_;rintro e w5 ⟨ve5,He5,Hs5,rfl,he5,hs5,hH5,hg5⟩;obtain ⟨rfl,rfl⟩:=isErr0 he5;have hHc:Holds w5 ((mb,moO G q)::(Hs5++(Hc3++((gb,arrN isf)::((lb,pgO last)::(H1++Fr)))))):=hH5.p;have hGc:=hGb.trans hg5;clear hdr he5 hH5 hg5 hHb hGb
           clear s1 s2
           refine hK _ _ (HSX.out _ _ hHc) (fun hs2=>?_);clear hK K hs;have hs:=hs2;clear hs2
           refine Zt 18 156 ?_ rfl hs ?_ ?_
           rotate_left
           ·rintro wx ⟨s1,s2⟩;go_simp;try with_reducible rfl
           simp only [pt,sA,sS,sZ]
           refine Zt 19 157 ?_ rfl hs ?_ ?_
           rotate_left
           ·rintro wx ⟨s1,s2⟩;go_simp;try with_reducible rfl
           simp only [pt,sA,sS,sZ]
           refine Z_done (by kernel_rfl) ?_ _
           have q5:=Q4.out _ _ hs5 hHc hGc
           clear hHc hGc hs5
           go_wp2_with fail
           refine ⟨q5,?_⟩
           simp [intOf];omega
        ·have hl4I:¬ (k4:Int)<ND.length:=by omega
         have HFIN:=Lib.hid (hfin fun _=>by omega)
         clear hfin hno hon4 hs4 hC4 hgeo4 hL4 hno4 hyes4 hsub4 hH4 hG4 HCP
         go_wp2_with fail
         go_ret
         exact HFIN.out
end Go.Proofs.YtoelopghilbfeaaGreat
