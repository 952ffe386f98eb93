/-
  Chapter 16: done: an act.
-/
import Derived.Test.YtoelopghilbfeaaGreatMo5
import Derived.Test.YtoelopghilbfeaaGreatMo6
import Derived.Deep.CutBlock
namespace Go.Proofs.YtoelopghilbfeaaGreat
open Go.RowKit
set_option linter.unusedSimpArgs false
set_option linter.unusedVariables false
def DnMid (mb sb cb g cap lb:Nat) (mv:Value) (xd:Int) (f:Nat→Pg) (q:Int) (c:CM) (W:World) (Fr:HL) (ev:Value) (wx:World):Prop :=
 ∃ (f':Nat→Pg) (q':Int) (last:Pg) (s':SM) (c':CM) (Hs Hc He:HL) (code:Int),q≤q'∧q'≤q+1∧0≤q'∧IsErr ev code He∧(code=0∨code=4∨code=7)∧(c'.on=true→ScI f' q' s' c')∧((xd=3∨c'.on=false)→ScD f' last q' c')∧c'.ms=c.ms∧c'.ops≤c.ops+1000∧KP c c' ∧
  StAt sb cb s' Hs∧ChipAt cb g cap mv c' Hc∧Holds wx ((mb,moO f' q')::((lb,pgO last)::(Hs++(Hc++(He++Fr)))))∧Grew W wx
def RetDn (mb cb g cap:Nat) (mv:Value) (q:Int) (c:CM) (w:World) (Fr:HL) (e:Ending) (w':World):Prop :=
 ∃ (f':Nat→Pg) (q':Int) (s':SM) (c':CM) (sb':Nat) (Hs' Hc':HL),e=.returned (.tuple #[.pointer (some ⟨sb',0,none⟩),.bool true])∧ScI f' q' s' c'∧q≤q'∧q'≤q+1∧0≤q'∧StAt sb' cb s' Hs'∧ChipAt cb g cap mv c' Hc' ∧
  Holds w' ((mb,moO f' q')::(Hs'++(Hc'++Fr)))∧Grew w w'∧c'.ms=c.ms∧c'.ops≤c.ops+20000∧KP c c'
theorem ScI.putKP {f:Nat→Pg} {q:Int} {s:SM} {c:CM} (I:ScI f q s c) {h:Hd} {n:Int} (hm:h.may=true) (hi:HdIn h):KP c (putA s c h (fillL n 128)).2.1:=by
 intro h1 h2 h3
 obtain ⟨_,hw⟩:=put_calm (N:=c.ops+2) I.cont (I.live h3) ⟨by rw [h1];simp,h2⟩ (Int.le_refl _) hm hi (d:=fillL n 128) (by rw [fillL_len,I.geo.2.2])
 rcases hw with ⟨e,_,_⟩ | ⟨k,p,x,x',g⟩
 ·rw [e];exact ⟨h3,h2⟩
 ·exact ⟨g.live.on,g.calm.ok⟩
theorem mo_setq {w:World} {mb:Nat} {f:Nat→Pg} {q:Int} {H:HL} (h:Holds w ((mb,moO f q)::H)) (r:Int):Holds (w.setCell ⟨mb,1536,none⟩ (.int .i64 r)) ((mb,moO f r)::H):=by
 have h2:=Holds.set h 1536 (.int .i64 r)
 have e:(moL f q).toArray.setIfInBounds 1536 (.int .i64 r)=(moL f r).toArray:=by
  have h0:∀ (A:List Value) (k:Nat) (u v:Value),A.length=k→(A++[u]).set k v=A++[v]:=by
   intro A k u v hk
   rw [List.set_append_right _ _ (by omega),← hk,Nat.sub_self,List.set_cons_zero]
  rw [List.setIfInBounds_toArray]
  exact congrArg List.toArray (h0 _ 1536 _ _ (mo_len f))
 rw [e] at h2
 exact h2
theorem pg_store {w:World} {lb:Nat} {p:Pg} {H:HL} (h:Holds w ((lb,pgO p)::H)) (r:Pg) :
  Holds ((((((w.setCell ⟨lb,0,none⟩ (.int .i64 r.h.k)).setCell ⟨lb,1,none⟩ (.int .u64 r.h.a)).setCell ⟨lb,2,none⟩ (.int .i64 r.h.s)).setCell ⟨lb,3,none⟩ (.int .i64 r.h.g)).setCell ⟨lb,4,none⟩ (.int .i64 r.n)).setCell ⟨lb,5,none⟩ (.bool r.need)) ((lb,pgO r)::H):=by
 unfold pgO at h ⊢
 have h1:=Holds.set h 0 (.int .i64 r.h.k)
 have h2:=Holds.set h1 1 (.int .u64 r.h.a)
 have h3:=Holds.set h2 2 (.int .i64 r.h.s)
 have h4:=Holds.set h3 3 (.int .i64 r.h.g)
 have h5:=Holds.set h4 4 (.int .i64 r.n)
 have h6:=Holds.set h5 5 (.bool r.need)
 exact h6
theorem pg_cells {w:World} {lb:Nat} {p:Pg} {H:HL} (h:Holds w ((lb,pgO p)::H)) :
  w.cell? ⟨lb,0,none⟩=some (.int .i64 p.h.k)∧w.cell? ⟨lb,1,none⟩=some (.int .u64 p.h.a)∧w.cell? ⟨lb,2,none⟩=some (.int .i64 p.h.s)∧w.cell? ⟨lb,3,none⟩=some (.int .i64 p.h.g)∧w.cell? ⟨lb,4,none⟩=some (.int .i64 p.n)∧w.cell? ⟨lb,5,none⟩=some (.bool p.need) :=
 ⟨h.hcell 0,h.hcell 1,h.hcell 2,h.hcell 3,h.hcell 4,h.hcell 5⟩
theorem pg_setA {w:World} {lb:Nat} {p:Pg} {H:HL} (h:Holds w ((lb,pgO p)::H)) (A:Int):Holds (w.setCell ⟨lb,1,none⟩ (.int .u64 A)) ((lb,pgO ⟨⟨p.h.k,A,p.h.s,p.h.g⟩,p.n,p.need⟩)::H):=Holds.set h 1 (.int .u64 A)
theorem upd_upd (f:Nat→Pg) (j:Nat) (a b:Pg):updF (updF f j a) j b=updF f j b:=by funext n;unfold updF;split <;> rfl
theorem upd_at (f:Nat→Pg) (j:Nat) (a:Pg):updF f j a j=a:=by unfold updF;rw [if_pos rfl]
set_option maxRecDepth 100000 in
set_option maxHeartbeats 4000000 in
theorem done_any {mb sb cb g cap:Nat} {mv:Value} {f:Nat→Pg} {q:Int} {s:SM} {c:CM} {Hs Hc Fr:HL} {w:World} (xd xn xk:Int) (hst:StAt sb cb s Hs) (hch:ChipAt cb g cap mv c Hc) (hH:Holds w ((mb,moO f q)::(Hs++(Hc++Fr)))) (hI:ScI f q s c) (hq:0≤q) (hq2:q≤1000) (hops:c.ops≤900000000000) :
  Calls Tryz.prog 28 #[.pointer (some ⟨mb,0,none⟩),.pointer (some ⟨cb,0,none⟩),.pointer (some ⟨sb,0,none⟩),.agg #[.int .i64 xd,.int .i64 xn,.int .i64 xk]] w (RetDn mb cb g cap mv q c w Fr):=by
 have k1:=err_eq
 have k2:=nil_eq
 have k3:=err_ne
 have k4:=nil_ne
 have hg0:=Grew.refl w
 have hHA:=hH.alloc (.cells #[.int .i64 xd,.int .i64 xn,.int .i64 xk] 68)
 have hGA:=hg0.alloc (.cells #[.int .i64 xd,.int .i64 xn,.int .i64 xk] 68)
 have HMN:=Lib.hid (moneeded_any (hHA.p:Holds (w.alloc (.cells #[.int .i64 xd,.int .i64 xn,.int .i64 xk] 68)) ((mb,moO f q)::((w.heap.size,.cells #[.int .i64 xd,.int .i64 xn,.int .i64 xk] 68)::(Hs++(Hc++Fr))))))
 clear hH hHA hg0
 go_enter Tryz.func28,Tryz.ntmps28
 go_wp2_with fail
 refine HMN.out.mono ?_
 rintro e w1 ⟨v1,H1,rfl,hv1,hH1,hg1⟩
 generalize w.heap.size=ab at *
 have hHB:=hH1.alloc (pgO Pg.zero)
 have hGB:=(hGA.trans hg1).alloc (pgO Pg.zero)
 clear hH1 hg1 hGA HMN
 go_upto_region 4 with fail
 generalize w1.heap.size=lb at *
 have ca:=(hHB.p:Holds (w1.alloc (pgO Pg.zero)) ((ab,.cells #[.int .i64 xd,.int .i64 xn,.int .i64 xk] 68)::[])).hcell 0
 simp only [List.getElem?_toArray,List.getElem?_cons_zero] at ca
 have e0:pgO Pg.zero=.cells #[.int .i64 0,.int .u64 0,.int .i64 0,.int .i64 0,.int .i64 0,.bool false] 61:=rfl
 rw [e0] at hHB hGB ca
 generalize w1.alloc (.cells #[.int .i64 0,.int .u64 0,.int .i64 0,.int .i64 0,.int .i64 0,.bool false] 61)=w2 at *
 clear e0
 obtain ⟨N,hN⟩:∃ N,N=(List.range 256).filter fun j=>(f j).need:=⟨_,rfl⟩
 have hv2:IsNums v1 (N.map fun i:Nat=>(i:Int)) H1:=by rw [hN];exact hv1
 have HNM:=Lib.hid (show ∀ n∈N,(f n).need=true from fun n hn=>by rw [hN] at hn;exact (List.mem_filter.1 hn).2)
 have HNL:=Lib.hid (show N.length≤256 by rw [hN];exact Nat.le_trans (List.length_filter_le _ _) (by simp))
 have HROW:=Lib.hid (show IsRow 3 1 _ (N.map fun i:Nat=>(i:Int)).length ((N.map fun i:Nat=>(i:Int)).map (Value.int .i64)) H1 from hv2)
 obtain ⟨A8,c8,rfl⟩:=hv2.val
 rw [List.length_map] at HROW ⊢
 clear hv1 hv2 hN
 go_upto_block 0 with fail
 go_cut [12] from 13 to 163 (fun ev wx=>DnMid mb sb cb g cap lb mv xd f q c w ((ab,.cells #[.int .i64 xd,.int .i64 xn,.int .i64 xk] 68)::Fr) ev wx)
 case first =>
  have HST:=Lib.hid hst
  have HCH:=Lib.hid hch
  have HI:=Lib.hid hI
  clear hst hch hI
  have hHC:Holds w2 ((ab,.cells #[.int .i64 xd,.int .i64 xn,.int .i64 xk] 68)::((mb,moO f q)::((lb,.cells #[.int .i64 0,.int .u64 0,.int .i64 0,.int .i64 0,.int .i64 0,.bool false] 61)::(H1++(Hs++(Hc++Fr)))))):=hHB.p
  clear hHB
  have cn:=hHC.hcell 1
  have ck:=hHC.hcell 2
  simp only [List.getElem?_toArray,List.getElem?_cons_zero,List.getElem?_cons_succ] at cn ck
  have HNIL:=Lib.hid (show DnMid mb sb cb g cap lb mv xd f q c w ((ab,.cells #[.int .i64 xd,.int .i64 xn,.int .i64 xk] 68)::Fr) .nilIface w2 from
   ⟨f,q,Pg.zero,s,c,Hs,Hc,[],0,by omega,by omega,hq,IsErr.none,Or.inl rfl,fun _=>HI.out,fun _=>HI.out.toD hq,rfl,by omega,KP.refl c,HST.out,HCH.out,by rw [show pgO Pg.zero=.cells #[.int .i64 0,.int .u64 0,.int .i64 0,.int .i64 0,.int .i64 0,.bool false] 61 from rfl];exact hHC.p,hGB⟩)
  by_cases x0:xd=0
  rotate_left
  ·have b0:(xd == 0)=false:=beq_eq_false_iff_ne.2 x0
   by_cases x1:xd=1
   ·subst x1
    clear ck
    by_cases hl0:0<N.length
    ·have hl0i:(0:Int)<N.length:=by omega
     obtain ⟨hb1,hb2⟩:=low_bd xn N.length (by omega) (by have:=HNL.out;omega)
     have HLO:=Lib.hid (fun wx=>low_any xn (N.length:Int) wx (by omega) (by have:=HNL.out;omega))
     obtain ⟨k,hk⟩:=Int.eq_ofNat_of_zero_le hb1
     rw [hk] at HLO hb2
     have hlt:k<N.length:=by omega
     have hrdn:=IsRow.reads HROW.out (Fr:=(ab,.cells #[.int .i64 1,.int .i64 xn,.int .i64 xk] 68)::((mb,moO f q)::((lb,.cells #[.int .i64 0,.int .u64 0,.int .i64 0,.int .i64 0,.int .i64 0,.bool false] 61)::(Hs++(Hc++Fr))))) (hHC.p)
     obtain ⟨h1x,A3,c8',hv3,h2x,hc33,hrd4⟩:=hrdn
     injection hv3 with hv31 hv32 hv33
     subst hv31;subst hv33
     clear hv32 h1x h2x hc33 hb1 hk
     obtain ⟨b8,o8,rfl,hcl⟩:=hrd4 (by omega)
     have cx:=hcl k (.int .i64 (N[k]:Nat)) (by simp [List.getElem?_eq_getElem hlt])
     have hpn:=HNM.out N[k] (List.getElem_mem _)
     generalize N[k]=p at *
     have hp64:=(HI.out.need p hpn).1
     obtain ⟨d1,d2⟩:=HI.out.drop hpn
     have hdr:=drop_any (p:Int) HST.out (hHC.p:Holds w2 (Hs++((mb,moO f q)::((ab,.cells #[.int .i64 1,.int .i64 xn,.int .i64 xk] 68)::((lb,.cells #[.int .i64 0,.int .u64 0,.int .i64 0,.int .i64 0,.int .i64 0,.bool false] 61)::(Hc++Fr))))))
     rw [d1] at hdr
     have HDR:=Lib.hid hdr
     have HD2:=Lib.hid d2
     clear hdr d1 d2 hHC hcl hrd4 HNIL
     generalize dropS s (p:Int)=ds at *
     go_wp2_with fail
     refine (HLO.out _).mono ?_
     rintro e wx ⟨rfl,rfl⟩
     go_wp2_with fail
     refine HDR.out.mono ?_
     rintro e w3 ⟨ve,He,Hs3,rfl,he3,hs3,hH3,hg3⟩
     obtain ⟨rfl,rfl⟩:=isErr0 he3
     have hG3:=hGB.trans hg3
     have hHx:Holds w3 ((mb,moO f q)::(Hs3++((ab,.cells #[.int .i64 1,.int .i64 xn,.int .i64 xk] 68)::((lb,.cells #[.int .i64 0,.int .u64 0,.int .i64 0,.int .i64 0,.int .i64 0,.bool false] 61)::(Hc++Fr))))):=hH3.p
     have hHy:=mo_need hHx (show p<256 by omega) false
     have hfr:=hHx.hfrozen (p * 6+5)
     have hce:=(mo_cells hHx (show p<256 by omega)).2.2.2.2.2
     have hpI:(p:Int)<256:=by omega
     have hGy:=hG3.setCell ⟨mb,p * 6+5,none⟩ (.bool false)
     have HS3:=Lib.hid hs3
     clear he3 hs3 hH3 hg3 hHx hG3 HDR
     go_wp2_with fail
     go_meet
     exact ⟨updF f p { f p with need:=false },q,Pg.zero,ds.1,c,Hs3,Hc,[],0,by omega,by omega,hq,IsErr.none,Or.inl rfl,fun _=>HD2.out,fun _=>HD2.out.toD hq,rfl,by omega,KP.refl c,HS3.out,HCH.out,by rw [show pgO Pg.zero=.cells #[.int .i64 0,.int .u64 0,.int .i64 0,.int .i64 0,.int .i64 0,.bool false] 61 from rfl];exact hHy.p,hGy⟩
    ·have hl2:∃ t:Int,(N.length:Int)≤t∧t<1:=⟨0,by omega,by omega⟩
     obtain ⟨t0,hl3,hl4⟩:=hl2
     clear hl0 cn hHC
     go_wp2_with fail
     go_meet
     exact HNIL.out
   ·have b1:(xd == 1)=false:=beq_eq_false_iff_ne.2 x1
    by_cases x2:xd=2
    ·subst x2
     clear ck
     by_cases hl0:0<N.length
     ·have hl0i:(0:Int)<N.length:=by omega
      obtain ⟨hb1,hb2⟩:=low_bd xn N.length (by omega) (by have:=HNL.out;omega)
      have HLO:=Lib.hid (fun wx=>low_any xn (N.length:Int) wx (by omega) (by have:=HNL.out;omega))
      obtain ⟨k,hk⟩:=Int.eq_ofNat_of_zero_le hb1
      rw [hk] at HLO hb2
      have hlt:k<N.length:=by omega
      have hrdn:=IsRow.reads HROW.out (Fr:=(ab,.cells #[.int .i64 2,.int .i64 xn,.int .i64 xk] 68)::((mb,moO f q)::((lb,.cells #[.int .i64 0,.int .u64 0,.int .i64 0,.int .i64 0,.int .i64 0,.bool false] 61)::(Hs++(Hc++Fr))))) (hHC.p)
      obtain ⟨h1x,A3,c8',hv3,h2x,hc33,hrd4⟩:=hrdn
      injection hv3 with hv31 hv32 hv33
      subst hv31;subst hv33
      clear hv32 h1x h2x hc33 hb1 hk
      obtain ⟨b8,o8,rfl,hcl⟩:=hrd4 (by omega)
      have cx:=hcl k (.int .i64 (N[k]:Nat)) (by simp [List.getElem?_eq_getElem hlt])
      have hpn:=HNM.out N[k] (List.getElem_mem _)
      generalize N[k]=p at *
      have hI:=HI.out
      obtain ⟨hp64,hlk⟩:=hI.need p hpn
      obtain ⟨hva,_⟩:=sc_page hI hp64 hlk
      have hke:((p / 4:Nat):Int) * (s.P:Int)+((p % 4:Nat):Int)=p:=by rw [hI.geo.2.1,← nat_key,nat_split]
      have hB:=hI.geo.1
      have hP:=hI.geo.2.1
      have hsp:=get_spec hI.cont (k:=p / 4) (p:=p % 4) (by omega) (by omega) (by rw [hke];exact hlk) hva
      rw [hke] at hsp
      have hge:=get_any (p:Int) HST.out HCH.out (hHC.p:Holds w2 (Hs++(Hc++((mb,moO f q)::((ab,.cells #[.int .i64 2,.int .i64 xn,.int .i64 xk] 68)::((lb,.cells #[.int .i64 0,.int .u64 0,.int .i64 0,.int .i64 0,.int .i64 0,.bool false] 61)::Fr)))))) (by omega)
      obtain ⟨q1,q2⟩:=hsp
      have HRD:=Lib.hid q1
      have hop1:=(getS_sim s c (p:Int)).2.2.2.2.2
      generalize getS s c (p:Int)=r at *
      obtain ⟨c4,rd,rh,rc⟩:=r
      dsimp only at HRD q2 hop1
      have HGE:=Lib.hid hge
      clear hge q1 hHC hcl hrd4 HNIL hI hva hke hlk
      rcases q2 with ⟨h2,hon1,hon2⟩ | ⟨h2,hon1,hon2⟩
      ·simp only [Prod.mk.injEq] at h2
       obtain ⟨rfl,rfl,rfl⟩:=h2
       go_wp2_with fail
       refine (HLO.out _).mono ?_
       rintro e wx ⟨rfl,rfl⟩
       go_wp2_with fail
       refine HGE.out.mono ?_
       rintro e w3 ⟨v3,Hv3,ve3,He3,Hc3,rfl,hb3,he3,hch3,hH3,hg3⟩
       dsimp only at hb3 he3 hch3
       obtain ⟨rfl,rfl⟩:=isErr0 he3
       obtain ⟨A9,q9,rfl⟩:=hb3.val
       have hG3:=hGB.trans hg3
       have hHx:Holds w3 ((mb,moO f q)::(Hs++(Hc3++((ab,.cells #[.int .i64 2,.int .i64 xn,.int .i64 xk] 68)::((lb,.cells #[.int .i64 0,.int .u64 0,.int .i64 0,.int .i64 0,.int .i64 0,.bool false] 61)::Fr))))):=hH3.p
       have hI4:=HI.out.reads HRD.out fun _=>hon1
       obtain ⟨hp64',hlk'⟩:=hI4.need p hpn
       obtain ⟨hva',_⟩:=sc_page hI4 hp64' hlk'
       have hke':((p / 4:Nat):Int) * (s.P:Int)+((p % 4:Nat):Int)=p:=by rw [hI4.geo.2.1,← nat_key,nat_split]
       have hsp':=get_spec hI4.cont (k:=p / 4) (p:=p % 4) (by omega) (by omega) (by rw [hke'];exact hlk') hva'
       rw [hke'] at hsp'
       have hop2:=(getS_sim s c4 (p:Int)).2.2.2.2.2
       have hrt:=right_any HST.out hch3 hHx hp64 (by omega) hlk' (by
        rcases hsp'.2 with ⟨a,_,b⟩ | ⟨a,b,_⟩
        ·exact Or.inl ⟨a,b⟩
        ·exact Or.inr ⟨a,b⟩)
       have hI5:=HI.out.reads (HRD.out.trans hsp'.1) fun _=>hon1
       have hms5:=(HRD.out.trans hsp'.1).ms
       have HK5:=Lib.hid (show KP c (getS s c4 (p:Int)).1 from KP.of (HRD.out.trans hsp'.1) fun hm _=>by
        rcases hsp'.2 with ⟨_,_,b⟩ | ⟨_,_,d⟩
        ·exact b
        ·obtain ⟨_,m,hm',_⟩:=d hon2
         rw [HRD.out.ms,hm] at hm'
         exact absurd hm' (by simp))
       generalize (getS s c4 (p:Int)).1=c5 at *
       have HRT:=Lib.hid hrt
       have HI5:=Lib.hid hI5
       clear he3 hb3 hch3 hH3 hg3 hI4 hp64' hlk' hva' hke' hsp' hrt hI5 HRD hHx HGE
       go_wp2_with fail
       refine HRT.out.mono ?_
       rintro e w4 ⟨Hc5,rfl,hch5,hH5,hg5⟩
       have hG5:=hG3.trans hg5
       clear hG3 hg5 HRT
       go_wp2_with fail
       go_meet
       exact ⟨f,q,Pg.zero,s,c5,Hs,Hc5,[],0,by omega,by omega,hq,IsErr.none,Or.inl rfl,fun _=>HI5.out,fun _=>HI5.out.toD hq,hms5,by omega,HK5.out,HST.out,hch5,by rw [show pgO Pg.zero=.cells #[.int .i64 0,.int .u64 0,.int .i64 0,.int .i64 0,.int .i64 0,.bool false] 61 from rfl];exact hH5.p,hG5⟩
      ·simp only [Prod.mk.injEq] at h2
       obtain ⟨rfl,rfl,rfl⟩:=h2
       go_wp2_with fail
       refine (HLO.out _).mono ?_
       rintro e wx ⟨rfl,rfl⟩
       go_wp2_with fail
       refine HGE.out.mono ?_
       rintro e w3 ⟨v3,Hv3,ve3,He3,Hc3,rfl,hb3,he3,hch3,hH3,hg3⟩
       dsimp only at hb3 he3 hch3
       obtain ⟨b3,x3,rfl,_⟩:=isErrP8 he3 (show (4:Int)≠0 by decide)
       obtain ⟨A9,q9,rfl⟩:=hb3.val
       have hG3:=hGB.trans hg3
       have HH3:=Lib.hid hH3
       have HE3:=Lib.hid he3
       have HC3:=Lib.hid hch3
       clear he3 hb3 hch3 hH3 hg3
       go_wp2_with fail
       go_meet
       have hI5:=HI.out.reads HRD.out fun h=>absurd h (by rw [hon1];simp)
       have hms5:=HRD.out.ms
       have hHy:=HH3.out
       exact ⟨f,q,Pg.zero,s,c4,Hs,Hc3,He3,4,by omega,by omega,hq,HE3.out,Or.inr (Or.inl rfl),fun _=>hI5,fun _=>hI5.toD hq,hms5,by omega,KP.of HRD.out (fun hm h=>by
        obtain ⟨_,m,hm',_⟩:=hon2 h
        rw [hm] at hm'
        exact absurd hm' (by simp)),HST.out,HC3.out,by rw [show pgO Pg.zero=.cells #[.int .i64 0,.int .u64 0,.int .i64 0,.int .i64 0,.int .i64 0,.bool false] 61 from rfl];exact hHy.p,hG3⟩
     ·have hl2:∃ t:Int,(N.length:Int)≤t∧t<1:=⟨0,by omega,by omega⟩
      obtain ⟨t0,hl3,hl4⟩:=hl2
      clear hl0 cn hHC
      go_wp2_with fail
      go_meet
      exact HNIL.out
    ·have b2:(xd == 2)=false:=beq_eq_false_iff_ne.2 x2
     clear cn ck hHC
     go_wp2_with fail
     go_meet
     exact HNIL.out
  ·subst x0
   clear HNIL HNM HROW
   have hI:=HI.out
   have hlk:=low_bd xk 4 (by omega) (by omega)
   have hlg:=low_bd xn 9 (by omega) (by omega)
   have HLK:=Lib.hid (fun wx=>low_any xk 4 wx (by omega) (by omega))
   have HLG:=Lib.hid (fun wx=>low_any xn 9 wx (by omega) (by omega))
   generalize lowI xk 4=lk at *
   generalize lowI xn 9=lg at *
   obtain ⟨hlk0,hlk1⟩:=hlk
   obtain ⟨hlg0,hlg1⟩:=hlg
   have hw1:IntKind.i64.wrap (q+1)=q+1:=wrap_i64_id (by omega) (by omega)
   have hw2:IntKind.i64.wrap (1+lk)=1+lk:=wrap_i64_id (by omega) (by omega)
   have hw3:wrap64 (q+1)=q+1:=by unfold wrap64;omega
   have hw4:wrap64 (1+lk)=1+lk:=by unfold wrap64;omega
   have hHD:Holds w2 ((mb,moO f q)::((ab,.cells #[.int .i64 0,.int .i64 xn,.int .i64 xk] 68)::((lb,.cells #[.int .i64 0,.int .u64 0,.int .i64 0,.int .i64 0,.int .i64 0,.bool false] 61)::(Hs++(Hc++Fr))))):=hHC.p
   have cq:=mo_seqc hHD
   have fq:=hHD.hfrozen 1536
   have hHE:=mo_setq hHD (q+1)
   have hGE:=hGB.setCell ⟨mb,1536,none⟩ (.int .i64 (q+1))
   clear hHC hHD hGB hI cn ck
   go_upto_region 7 with fail
   clear ca cq fq
   generalize w2.setCell ⟨mb,1536,none⟩ (.int .i64 (q+1))=w3 at *
   have HSW:=Lib.hid (fun (wx:World) (F:HL) (h:Holds wx ((mb,moO f (q+1))::((ab,.cells #[.int .i64 0,.int .i64 xn,.int .i64 xk] 68)::F)))=>show wx.cell? ⟨ab,1,none⟩=some (.int .i64 xn)∧wx.cell? ⟨ab,2,none⟩=some (.int .i64 xk)∧wx.cell? ⟨mb,1536,none⟩=some (.int .i64 (q+1)) from ⟨h.tail.hcell 1,h.tail.hcell 2,mo_seqc h⟩)
   refine Z_begin (fun wx=>wx.cell? ⟨ab,1,none⟩=some (.int .i64 xn)∧wx.cell? ⟨ab,2,none⟩=some (.int .i64 xk)∧wx.cell? ⟨mb,1536,none⟩=some (.int .i64 (q+1))) 15 (by kernel_rfl) (fun w1 hd=>HSW.out _ _ (hHE.dr hd)) (fun w1 hd hs=>?_)
   have hHF:=hHE.dr hd;have hGF:=hGE.trans (Grew.dr hd);clear hd hHE hGE
   refine Zt 0 32 ?_ rfl hs ?_ ?_
   rotate_left
   ·rintro wx ⟨s0,s1,s2⟩;go_simp;try with_reducible rfl
   simp only [pt,sA,sS,sZ]
   refine Zt 1 33 ?_ rfl hs ?_ ?_
   rotate_left
   ·rintro wx ⟨s0,s1,s2⟩;go_simp;try with_reducible rfl
   simp only [pt,sA,sS,sZ]
   refine Z_callD 2 (some 34) rfl rfl (by kernel_rfl) (fun _ _ _ h=>h) (by rfl) hs (fun wx=>by go_simp) (fun wx hx=>HLK.out wx) ?_
   simp only [pt,sA,sS,sZ]
   refine Zt 3 35 ?_ rfl hs ?_ ?_
   rotate_left
   ·rintro wx ⟨s0,s1,s2⟩;go_simp;try with_reducible rfl
   simp only [pt,sA,sS,sZ]
   refine Zt 4 36 ?_ rfl hs ?_ ?_
   rotate_left
   ·rintro wx ⟨s0,s1,s2⟩;go_simp;try with_reducible rfl
   simp only [pt,sA,sS,sZ]
   refine Zt 5 37 ?_ rfl hs ?_ ?_
   rotate_left
   ·rintro wx ⟨s0,s1,s2⟩;go_simp;try with_reducible rfl
   simp only [pt,sA,sS,sZ]
   refine Zt 6 38 ?_ rfl hs ?_ ?_
   rotate_left
   ·rintro wx ⟨s0,s1,s2⟩;go_simp;try with_reducible rfl
   simp only [pt,sA,sS,sZ]
   refine Zt 7 39 ?_ rfl hs ?_ ?_
   rotate_left
   ·rintro wx ⟨s0,s1,s2⟩;go_simp;try with_reducible rfl
   simp only [pt,sA,sS,sZ]
   refine Zt 8 40 ?_ rfl hs ?_ ?_
   rotate_left
   ·rintro wx ⟨s0,s1,s2⟩;go_simp;try with_reducible rfl
   simp only [pt,sA,sS,sZ]
   refine Zt 9 41 ?_ rfl hs ?_ ?_
   rotate_left
   ·rintro wx ⟨s0,s1,s2⟩;go_simp;try with_reducible rfl
   simp only [pt,sA,sS,sZ]
   refine Z_callD 10 (some 42) rfl rfl (by kernel_rfl) (fun _ _ _ h=>h) (by rfl) hs (fun wx=>by go_simp) (fun wx hx=>HLG.out wx) ?_
   simp only [pt,sA,sS,sZ]
   refine Zt 11 43 ?_ rfl hs ?_ ?_
   rotate_left
   ·rintro wx ⟨s0,s1,s2⟩;go_simp;try with_reducible rfl
   simp only [pt,sA,sS,sZ]
   refine Zt 12 44 ?_ rfl hs ?_ ?_
   rotate_left
   ·rintro wx ⟨s0,s1,s2⟩;go_simp;try with_reducible rfl
   simp only [pt,sA,sS,sZ]
   refine Zt 13 45 ?_ rfl hs ?_ ?_
   rotate_left
   ·rintro wx ⟨s0,s1,s2⟩;go_simp;try with_reducible rfl
   simp only [pt,sA,sS,sZ]
   refine Zt 14 46 ?_ rfl hs ?_ ?_
   rotate_left
   ·rintro wx ⟨s0,s1,s2⟩;go_simp;try with_reducible rfl
   simp only [pt,sA,sS,sZ]
   refine Z_last 15 rfl (by kernel_rfl) rfl (fun K hK=>?_)
   have ⟨s0,s1,s2⟩:=hs
   have hHG:Holds w1 ((lb,pgO Pg.zero)::((mb,moO f (q+1))::((ab,.cells #[.int .i64 0,.int .i64 xn,.int .i64 xk] 68)::(Hs++(Hc++Fr))))):=by { rw [show pgO Pg.zero=.cells #[.int .i64 0,.int .u64 0,.int .i64 0,.int .i64 0,.int .i64 0,.bool false] 61 from rfl];exact hHF.p };obtain ⟨r0,r1,r2,r3,r4,r5⟩:=pg_cells hHG;have f0:=hHG.hfrozen 0;have f1:=hHG.hfrozen 1;have f2:=hHG.hfrozen 2;have f3:=hHG.hfrozen 3;have f4:=hHG.hfrozen 4;have f5:=hHG.hfrozen 5;have rl:=hHG.hlt;have hH9:=pg_store hHG (⟨⟨1+lk,0,q+1,lg⟩,xn,false⟩:Pg);have hG9:=(((((hGF.setCell ⟨lb,0,none⟩ (.int .i64 (1+lk))).setCell ⟨lb,1,none⟩ (.int .u64 0)).setCell ⟨lb,2,none⟩ (.int .i64 (q+1))).setCell ⟨lb,3,none⟩ (.int .i64 lg)).setCell ⟨lb,4,none⟩ (.int .i64 xn)).setCell ⟨lb,5,none⟩ (.bool false);clear hHF hGF hHG;go_simp;clear r0 r1 r2 r3 r4 r5 f0 f1 f2 f3 f4 f5 rl
   clear s0 s1 s2
   refine hK _ _ ?_;clear hK K hs
   refine Z_done (by kernel_rfl) ?_ _
   dsimp only at hH9
   generalize (((((w1.setCell ⟨lb,0,none⟩ (.int .i64 (1+lk))).setCell ⟨lb,1,none⟩ (.int .u64 0)).setCell ⟨lb,2,none⟩ (.int .i64 (q+1))).setCell ⟨lb,3,none⟩ (.int .i64 lg)).setCell ⟨lb,4,none⟩ (.int .i64 xn)).setCell ⟨lb,5,none⟩ (.bool false)=w4 at *
   obtain ⟨r0,r1,r2,r3,r4,r5⟩:=pg_cells hH9
   dsimp only at r0 r1 r2 r3 r4 r5
   go_upto_if 50 with fail
   obtain ⟨kb,hkb⟩:∃ kb,kb=decide (1+lk≤2):=⟨_,rfl⟩
   rw [← hkb]
   have HKB:=Lib.hid hkb
   clear hkb
   go_cut [] from 51 to 55 (fun wx=>∃ A:Int,((1+lk≤2∧A=IntKind.u64.wrap xn)∨(¬ 1+lk≤2∧A=0))∧Holds wx ((lb,pgO ⟨⟨1+lk,A,q+1,lg⟩,xn,false⟩)::((mb,moO f (q+1))::((ab,.cells #[.int .i64 0,.int .i64 xn,.int .i64 xk] 68)::(Hs++(Hc++Fr)))))∧Grew w wx)
   case first =>
    have f1:=hH9.hfrozen 1
    have cx1:=hH9.tail.tail.hcell 1
    simp only [List.getElem?_toArray,List.getElem?_cons_zero,List.getElem?_cons_succ] at cx1
    have HH9:=Lib.hid hH9
    have HG9:=Lib.hid hG9
    clear hH9 hG9
    cases kb with
    |true =>
     go_wp2_with fail
     go_meet
     exact ⟨_,Or.inl ⟨of_decide_eq_true HKB.out.symm,rfl⟩,pg_setA HH9.out _,HG9.out.setCell _ _⟩
    |false =>
     go_wp2_with fail
     go_meet
     exact ⟨0,Or.inr ⟨by have:=of_decide_eq_false HKB.out.symm;omega,rfl⟩,HH9.out,HG9.out⟩
   case rest =>
    clear hH9 hG9 r0 r1 r2 r3 r4 r5
    obtain ⟨A,hA,hHa,hGa⟩:=hcut
    have hin:HdIn ⟨1+lk,A,q+1,lg⟩:=by
     show 0≤A∧A<18446744073709551616
     rcases hA with ⟨_,rfl⟩ | ⟨_,rfl⟩
     ·rw [IntKind.wrap_u64];omega
     ·omega
    have hmay:(⟨1+lk,A,q+1,lg⟩:Hd).may=true:=by
     unfold Hd.may
     have h1:1+lk=1∨1+lk=2∨A=0:=by omega
     have h2:(decide (1+lk=1) || decide (1+lk=2) || decide (A=0))=true:=by
      rcases h1 with h | h | h <;> simp [h]
     simp only [Bool.and_eq_true,decide_eq_true_eq]
     exact ⟨⟨⟨⟨⟨⟨by omega,by omega⟩,h2⟩,by omega⟩,by omega⟩,by omega⟩,by omega⟩
    have hall:=HI.out.putAll (n:=xn) hmay hin rfl
    have hkp:=HI.out.putKP (n:=xn) hmay hin
    have hI:=HI.out
    have hgeo:=hI.geo
    have HPU:=Lib.hid (fun (w:World) (F:HL) (dv:Value) (h:Holds w (Hs++(Hc++F))) (hf:FrBytes (Hs++(Hc++F)) dv (fillL xn 128))=>put_any ⟨1+lk,A,q+1,lg⟩ (fillL xn 128) dv HST.out HCH.out h hI.cont.yok (by omega) (by omega) hI.cont.B hI.cont.Z hf hin)
    rw [show (⟨1+lk,A,q+1,lg⟩:Hd).agg=.agg #[.int .i64 (1+lk),.int .u64 A,.int .i64 (q+1),.int .i64 lg] from rfl] at HPU
    have HFL:=Lib.hid (fun (w:World) (F:HL) (h:Holds w F)=>fill_any xn 128 w F h (by decide))
    have HDL:=Lib.hid (fillL_len xn)
    generalize putA s c ⟨1+lk,A,q+1,lg⟩ (fillL xn 128)=r at *
    generalize fillL xn 128=D at *
    have HALL:=Lib.hid hall
    have HKP:=Lib.hid hkp
    have HSW2:=Lib.hid (fun (wx:World) (F:HL) (h:Holds wx ((lb,pgO ⟨⟨1+lk,A,q+1,lg⟩,xn,false⟩)::((mb,moO f (q+1))::((ab,.cells #[.int .i64 0,.int .i64 xn,.int .i64 xk] 68)::F))))=>show wx.cell? ⟨lb,0,none⟩=some (.int .i64 (1+lk))∧wx.cell? ⟨lb,1,none⟩=some (.int .u64 A)∧wx.cell? ⟨lb,2,none⟩=some (.int .i64 (q+1))∧wx.cell? ⟨lb,3,none⟩=some (.int .i64 lg)∧wx.cell? ⟨ab,1,none⟩=some (.int .i64 xn) from ⟨h.hcell 0,h.hcell 1,h.hcell 2,h.hcell 3,h.tail.tail.hcell 1⟩)
    clear hA hin hmay hall hkp hI hgeo
    go_upto_region 11 with fail
    refine Z_begin (fun wx=>wx.cell? ⟨lb,0,none⟩=some (.int .i64 (1+lk))∧wx.cell? ⟨lb,1,none⟩=some (.int .u64 A)∧wx.cell? ⟨lb,2,none⟩=some (.int .i64 (q+1))∧wx.cell? ⟨lb,3,none⟩=some (.int .i64 lg)∧wx.cell? ⟨ab,1,none⟩=some (.int .i64 xn)) 12 (by kernel_rfl) (fun w1 hd=>HSW2.out _ _ (hHa.dr hd)) (fun w1 hd hs=>?_)
    have hHb:=hHa.dr hd;have hGb:=hGa.trans (Grew.dr hd);clear hd hHa hGa
    refine Zt 0 57 ?_ rfl hs ?_ ?_
    rotate_left
    ·rintro wx ⟨s0,s1,s2,s3,s4⟩;go_simp;try with_reducible rfl
    simp only [pt,sA,sS,sZ]
    refine Zt 1 58 ?_ rfl hs ?_ ?_
    rotate_left
    ·rintro wx ⟨s0,s1,s2,s3,s4⟩;go_simp;try with_reducible rfl
    simp only [pt,sA,sS,sZ]
    refine Zt 2 59 ?_ rfl hs ?_ ?_
    rotate_left
    ·rintro wx ⟨s0,s1,s2,s3,s4⟩;go_simp;try with_reducible rfl
    simp only [pt,sA,sS,sZ]
    refine Zt 3 60 ?_ rfl hs ?_ ?_
    rotate_left
    ·rintro wx ⟨s0,s1,s2,s3,s4⟩;go_simp;try with_reducible rfl
    simp only [pt,sA,sS,sZ]
    refine Zt 4 61 ?_ rfl hs ?_ ?_
    rotate_left
    ·rintro wx ⟨s0,s1,s2,s3,s4⟩;go_simp;try with_reducible rfl
    simp only [pt,sA,sS,sZ]
    refine Z_mid 5 rfl (by kernel_rfl) (fun K hK=>?_)
    have ⟨s0,s1,s2,s3,s4⟩:=hs
    go_simp;refine (HFL.out w1 _ hHb).mono ?_;rintro e w6 ⟨v6,H6,rfl,hb6,hH6,hg6⟩;have hG6:=hGb.trans hg6;have HB6:=Lib.hid hb6;obtain ⟨A6,q6,rfl⟩:=hb6.val;rw [HDL.out] at HB6 ⊢;have hH7:Holds w6 ((lb,pgO ⟨⟨1+lk,A,q+1,lg⟩,xn,false⟩)::((mb,moO f (q+1))::((ab,.cells #[.int .i64 0,.int .i64 xn,.int .i64 xk] 68)::(H6++(Hs++(Hc++Fr)))))):=hH6.p;clear hb6 hHb hGb hg6 hH6
    clear s0 s1 s2 s3 s4
    refine hK _ _ (HSW2.out _ _ hH7) (fun hs2=>?_);clear hK K hs;have hs:=hs2;clear hs2
    refine Z_mid 6 rfl (by kernel_rfl) (fun K hK=>?_)
    have ⟨s0,s1,s2,s3,s4⟩:=hs
    have HPW:=Lib.hid (HPU.out w6 ((lb,pgO ⟨⟨1+lk,A,q+1,lg⟩,xn,false⟩)::((mb,moO f (q+1))::((ab,.cells #[.int .i64 0,.int .i64 xn,.int .i64 xk] 68)::(H6++Fr)))) (.slice A6 128 q6) (hH7.p) (fun wx hx=>HB6.out.at_ (Fr:=Hs++(Hc++((lb,pgO ⟨⟨1+lk,A,q+1,lg⟩,xn,false⟩)::((mb,moO f (q+1))::((ab,.cells #[.int .i64 0,.int .i64 xn,.int .i64 xk] 68)::Fr))))) (hx.p)));go_simp;refine HPW.out.mono ?_;rintro e w8 ⟨ve8,He8,Hs8,Hc8,rfl,he8,hs8,hch8,hH8,hg8⟩;have HE8:=Lib.hid he8;have HS8:=Lib.hid hs8;have HC8:=Lib.hid hch8;have hG8:=hG6.trans hg8;have hH9:Holds w8 ((lb,pgO ⟨⟨1+lk,A,q+1,lg⟩,xn,false⟩)::((mb,moO f (q+1))::((ab,.cells #[.int .i64 0,.int .i64 xn,.int .i64 xk] 68)::(Hs8++(Hc8++(He8++Fr)))))):=hH8.p;clear he8 hs8 hch8 hH8 hg8 hG6 hH7 HPW
    clear s0 s1 s2 s3 s4
    refine hK _ _ (HSW2.out _ _ hH9) (fun hs2=>?_);clear hK K hs;have hs:=hs2;clear hs2
    refine Zt 7 56 ?_ rfl hs ?_ ?_
    rotate_left
    ·rintro wx ⟨s0,s1,s2,s3,s4⟩;go_simp;try with_reducible rfl
    simp only [pt,sA,sS,sZ]
    refine Zt 8 64 ?_ rfl hs ?_ ?_
    rotate_left
    ·rintro wx ⟨s0,s1,s2,s3,s4⟩;go_simp;try with_reducible rfl
    simp only [pt,sA,sS,sZ]
    refine Zt 9 65 ?_ rfl hs ?_ ?_
    rotate_left
    ·rintro wx ⟨s0,s1,s2,s3,s4⟩;go_simp;try with_reducible rfl
    simp only [pt,sA,sS,sZ]
    refine Zt 10 13 ?_ rfl hs ?_ ?_
    rotate_left
    ·rintro wx ⟨s0,s1,s2,s3,s4⟩;go_simp;try with_reducible rfl
    simp only [pt,sA,sS,sZ]
    refine Zt 11 12 ?_ rfl hs ?_ ?_
    rotate_left
    ·rintro wx ⟨s0,s1,s2,s3,s4⟩;go_simp;try with_reducible rfl
    simp only [pt,sA,sS,sZ]
    refine Z_done (by kernel_rfl) ?_ _
    obtain ⟨s5,c5,p5,code5⟩:=r
    have HE5:=Lib.hid HE8.out
    have HS5:=Lib.hid HS8.out
    have HC5:=Lib.hid HC8.out
    dsimp only at HE5 HS5 HC5
    clear HE8 HS8 HC8 hs HSW2 HSW HPU HB6
    obtain ⟨⟨hms5,hop5⟩,hway⟩:=HALL.out
    dsimp only at hms5 hop5 hway
    rcases hway with ⟨u1,u2,p,hp64,u3,u4,u5⟩ | ⟨u1,u2,u3⟩ | ⟨u1,u2,u3⟩
    ·subst u1 u3
     obtain ⟨rfl,rfl⟩:=isErr0 HE5.out
     have hp0:¬ (p:Int)<0:=by omega
     have hp63:¬ (63:Int)<p:=by omega
     have hpI:(p:Int)<256:=by omega
     have HU5:=Lib.hid u5
     have HU2:=Lib.hid u2
     have hHm:Holds w8 ((mb,moO f (q+1))::((lb,pgO ⟨⟨1+lk,A,q+1,lg⟩,xn,false⟩)::((ab,.cells #[.int .i64 0,.int .i64 xn,.int .i64 xk] 68)::(Hs8++(Hc8++Fr))))):=by
      have h6:Holds w8 ((lb,pgO ⟨⟨1+lk,A,q+1,lg⟩,xn,false⟩)::((mb,moO f (q+1))::((ab,.cells #[.int .i64 0,.int .i64 xn,.int .i64 xk] 68)::(Hs8++(Hc8++([]++Fr)))))):=hH9
      exact h6.p
     have cp5:=(mo_cells hHm (show p<256 by omega)).2.2.2.2.2
     rw [u4] at cp5
     clear u5 u2 hH9 u4
     go_upto_region 15 with fail
     clear cp5
     have HSW3:=Lib.hid (fun (wx:World) (F:HL) (h:Holds wx ((mb,moO f (q+1))::((lb,pgO ⟨⟨1+lk,A,q+1,lg⟩,xn,false⟩)::F)))=>show wx.cell? ⟨lb,0,none⟩=some (.int .i64 (1+lk))∧wx.cell? ⟨lb,1,none⟩=some (.int .u64 A)∧wx.cell? ⟨lb,2,none⟩=some (.int .i64 (q+1))∧wx.cell? ⟨lb,3,none⟩=some (.int .i64 lg)∧wx.cell? ⟨lb,4,none⟩=some (.int .i64 xn)∧wx.cell? ⟨lb,5,none⟩=some (.bool false) from pg_cells h.tail)
     refine Y_begin (fun wx=>wx.cell? ⟨lb,0,none⟩=some (.int .i64 (1+lk))∧wx.cell? ⟨lb,1,none⟩=some (.int .u64 A)∧wx.cell? ⟨lb,2,none⟩=some (.int .i64 (q+1))∧wx.cell? ⟨lb,3,none⟩=some (.int .i64 lg)∧wx.cell? ⟨lb,4,none⟩=some (.int .i64 xn)∧wx.cell? ⟨lb,5,none⟩=some (.bool false)) 6 (by kernel_rfl) (fun w1 hd=>HSW3.out _ _ (hHm.dr hd)) (fun w1 hd hs=>?_)
     have hHn:=hHm.dr hd;have hGn:=hG8.trans (Grew.dr hd);clear hd hHm hG8
     refine Yt 0 84 ?_ rfl hs ?_ ?_
     rotate_left
     ·intro wx;go_simp;try with_reducible rfl
     simp only [pt,sA,sS,sZ]
     refine Yt 1 85 ?_ rfl hs ?_ ?_
     rotate_left
     ·intro wx;go_simp;try with_reducible rfl
     simp only [pt,sA,sS,sZ]
     refine Yd 2 86 ?_ rfl hs ?_ ?_
     rotate_left
     ·rintro wx ⟨s0,s1,s2,s3,s4,s5⟩;go_simp;try with_reducible rfl
     simp only [pt,sA,sS,sZ]
     refine Yt 3 87 ?_ rfl hs ?_ ?_
     rotate_left
     ·intro wx;go_simp;try with_reducible rfl
     simp only [pt,sA,sS,sZ]
     refine Yt 4 88 ?_ rfl hs ?_ ?_
     rotate_left
     ·intro wx;go_simp;try with_reducible rfl
     simp only [pt,sA,sS,sZ]
     refine Yt 5 89 ?_ rfl hs ?_ ?_
     rotate_left
     ·intro wx;go_simp;try with_reducible rfl
     simp only [pt,sA,sS,sZ]
     refine Y_late 6 rfl (by kernel_rfl) (by kernel_rfl) (fun K hK=>?_)
     have ⟨s0,s1,s2,s3,s4,s5⟩:=hs
     obtain ⟨r0,r1,r2,r3,r4,r5⟩:=mo_cells hHn (show p<256 by omega);have f0:=hHn.hfrozen (p * 6);have f1:=hHn.hfrozen (p * 6+1);have f2:=hHn.hfrozen (p * 6+2);have f3:=hHn.hfrozen (p * 6+3);have f4:=hHn.hfrozen (p * 6+4);have f5:=hHn.hfrozen (p * 6+5);have rl:=hHn.hlt;have hHo:=mo_store hHn (show p<256 by omega) (⟨⟨1+lk,A,q+1,lg⟩,xn,false⟩:Pg);have hGo:=(((((hGn.setCell ⟨mb,p * 6,none⟩ (.int .i64 (1+lk))).setCell ⟨mb,p * 6+1,none⟩ (.int .u64 A)).setCell ⟨mb,p * 6+2,none⟩ (.int .i64 (q+1))).setCell ⟨mb,p * 6+3,none⟩ (.int .i64 lg)).setCell ⟨mb,p * 6+4,none⟩ (.int .i64 xn)).setCell ⟨mb,p * 6+5,none⟩ (.bool false);go_simp;clear r0 r1 r2 r3 r4 r5 f0 f1 f2 f3 f4 f5 rl hHn hGn
     clear s0 s1 s2 s3 s4 s5 hs
     refine hK _ _ ?_;clear hK K
     refine Y_done (by kernel_rfl) ?_ _
     dsimp only at hHo
     generalize (((((w1.setCell ⟨mb,p * 6,none⟩ (.int .i64 (1+lk))).setCell ⟨mb,p * 6+1,none⟩ (.int .u64 A)).setCell ⟨mb,p * 6+2,none⟩ (.int .i64 (q+1))).setCell ⟨mb,p * 6+3,none⟩ (.int .i64 lg)).setCell ⟨mb,p * 6+4,none⟩ (.int .i64 xn)).setCell ⟨mb,p * 6+5,none⟩ (.bool false)=w9 at *
     have hfr:=hHo.hfrozen (p * 6+5)
     have hce:=(mo_cells hHo (show p<256 by omega)).2.2.2.2.2
     have hHy:=mo_need hHo (show p<256 by omega) true
     rw [upd_at,upd_upd] at hHy
     have hGy:=hGo.setCell ⟨mb,p * 6+5,none⟩ (.bool true)
     clear hHo hGo
     go_wp2_with fail
     go_meet
     exact ⟨updF f p ⟨⟨1+lk,A,q+1,lg⟩,xn,true⟩,q+1,⟨⟨1+lk,A,q+1,lg⟩,xn,false⟩,s5,c5,Hs8,Hc8,[],0,by omega,by omega,by omega,IsErr.none,Or.inl rfl,fun _=>HU5.out,fun h=>(h.elim (fun h=>absurd h (by decide)) fun h=>absurd h (by rw [HU2.out];simp)),hms5,hop5,HKP.out,HS5.out,HC5.out,hHy.p,hGy⟩
    ·subst u1
     obtain ⟨b3,x3,rfl,_⟩:=isErrP8 HE5.out (show (7:Int)≠0 by decide)
     have HU3:=Lib.hid u3
     have HU2:=Lib.hid u2
     have HH9:=Lib.hid hH9
     clear u3 u2 hH9
     go_wp2_with fail
     go_meet
     exact ⟨f,q+1,⟨⟨1+lk,A,q+1,lg⟩,xn,false⟩,s5,c5,Hs8,Hc8,He8,7,by omega,by omega,by omega,HE5.out,Or.inr (Or.inr rfl),fun _=>HU3.out,fun h=>(h.elim (fun h=>absurd h (by decide)) fun h=>absurd h (by rw [HU2.out];simp)),hms5,hop5,HKP.out,HS5.out,HC5.out,HH9.out.p,hG8⟩
    ·subst u1
     obtain ⟨b3,x3,rfl,_⟩:=isErrP8 HE5.out (show (4:Int)≠0 by decide)
     have HU3:=Lib.hid u3
     have HU2:=Lib.hid u2
     have HH9:=Lib.hid hH9
     clear u3 u2 hH9
     go_wp2_with fail
     go_meet
     exact ⟨f,q+1,⟨⟨1+lk,A,q+1,lg⟩,xn,false⟩,s5,c5,Hs8,Hc8,He8,4,by omega,by omega,by omega,HE5.out,Or.inr (Or.inl rfl),fun h=>absurd h (by rw [HU2.out];simp),fun _=>HU3.out,hms5,hop5,HKP.out,HS5.out,HC5.out,HH9.out.p,hG8⟩
 case rest =>
  clear hHB hGB ca hch hst hI
  obtain ⟨f',q',last,s',c',Hs2,Hc2,He,code,hq3,hq4,hq5,he,hcode,hon,hoff,hms,hop2,hkp2,hs2,hch2,hH2,hG2⟩:=hcut
  have HKP2:=Lib.hid hkp2
  clear hkp2
  go_upto_region 30 with fail
  go_cut [162] from 151 to 161 (fun bv wx=>bv=.bool false∧wx=wc)
  case first =>
   have HE:=Lib.hid he
   have HNM:=Lib.hid (fun (h0:0≤code)=>num_any _ code He _ wc he (hH2.p:Holds wc (He++((mb,moO f' q')::((lb,pgO last)::(Hs2++(Hc2++Fr)))))) h0)
   rcases hcode with rfl | rfl | rfl
   ·obtain ⟨rfl,rfl⟩:=isErr0 he
    clear he hH2 hG2 hs2 hch2 hon hoff
    go_wp2_with fail
    go_meet
    exact ⟨rfl,rfl⟩
   ·obtain ⟨be,se,rfl,_⟩:=isErrP8 he (by decide)
    have HN:=Lib.hid (HNM.out (by omega))
    clear he hH2 hG2 hs2 hch2 hon hoff HNM
    go_wp2_with fail
    refine HN.out.mono ?_
    rintro e wx ⟨rfl,rfl⟩
    go_wp2_with fail
    go_meet
    exact ⟨rfl,rfl⟩
   ·obtain ⟨be,se,rfl,_⟩:=isErrP8 he (by decide)
    have HN:=Lib.hid (HNM.out (by omega))
    clear he hH2 hG2 hs2 hch2 hon hoff HNM
    go_wp2_with fail
    refine HN.out.mono ?_
    rintro e wx ⟨rfl,rfl⟩
    go_wp2_with fail
    refine HN.out.mono ?_
    rintro e wx ⟨rfl,rfl⟩
    go_wp2_with fail
    go_meet
    exact ⟨rfl,rfl⟩
  case rest =>
   obtain ⟨rfl,hwe⟩:=hcut
   subst hwe
   have hHa:Holds wc ((ab,.cells #[.int .i64 xd,.int .i64 xn,.int .i64 xk] 68)::((mb,moO f' q')::((lb,pgO last)::(Hs2++(Hc2++Fr))))):=hH2.p
   have ca:=hHa.hcell 0
   simp only [List.getElem?_toArray,List.getElem?_cons_zero] at ca
   have HONC:=Lib.hid (non_any hch2 (hHa.p:Holds wc (Hc2++((ab,.cells #[.int .i64 xd,.int .i64 xn,.int .i64 xk] 68)::((mb,moO f' q')::((lb,pgO last)::(Hs2++Fr)))))))
   have HG2:=Lib.hid hG2
   clear he hH2 hcode hG2
   go_upto_region 32 with fail
   go_cut [171] from 164 to 170 (fun bv wx=>bv=.bool (decide (xd=3∨c'.on=false))∧wx=wc)
   case first =>
    by_cases h3:xd=3
    ·subst h3
     clear hs2 hch2 hHa hon hoff
     go_wp2_with fail
     go_meet
     exact ⟨by simp,rfl⟩
    ·have h3b:(xd == 3)=false:=beq_eq_false_iff_ne.2 h3
     have hno:=HONC.out
     clear hs2 hch2 hHa hon hoff
     generalize c'.on=co at *
     have HNO:=Lib.hid hno
     clear hno
     cases co
     ·go_wp2_with fail
      refine HNO.out.mono ?_
      rintro e wx ⟨rfl,rfl⟩
      go_wp2_with fail
      go_meet
      exact ⟨by simp,rfl⟩
     ·go_wp2_with fail
      refine HNO.out.mono ?_
      rintro e wx ⟨rfl,rfl⟩
      go_wp2_with fail
      go_meet
      exact ⟨by simp [h3],rfl⟩
   case rest =>
    obtain ⟨rfl,hwe⟩:=hcut
    subst hwe
    clear ca HONC
    by_cases hlost:xd=3∨c'.on=false
    ·rw [decide_eq_true hlost]
     have hD:=hoff hlost
     have hpl:planB (c'.blocks.length:Int) c'.P c'.Z=true:=by rw [hD.geo.1,hD.geo.2.1,hD.geo.2.2];kernel_rfl
     have hah:ahead c'<25:=by have:=ahead_le c';have:=hch2.cok.2.2.2.2.2.2.1;omega
     obtain ⟨r1,t,r2,r3,r4,r5⟩:=hD.lost hpl hah
     obtain ⟨q5,q6⟩:=lostN_sim 25 c' hch2.cok hch2.cok.2.2.2.2.2.1
     have hlo:=lost_any hch2 (hHa.p:Holds wc (Hc2++((mb,moO f' q')::((lb,pgO last)::Fr)))) hpl (by omega)
     have el:lostN 25 c'=(some t,(lostN 25 c').2):=by rw [← r2]
     have hop4:=q5.2.2.2.2.2
     generalize (lostN 25 c').2=c4 at *
     rw [el] at hlo
     have HLO:=Lib.hid hlo
     have HFH:=Lib.hid r3
     have HR1:=Lib.hid r1
     have HL4:=Lib.hid r4
     have HALL:=Lib.hid r5
     have HD:=Lib.hid hD
     have HM4:=Lib.hid (show c4.misuse=0 by rw [r1.mis];exact hD.mis)
     have hop5:c4.ops≤c.ops+10000:=by omega
     clear r1 r2 r3 r4 r5 q5 q6 hlo el hop4 hah hpl hD hHa hch2 hs2 hon hoff hlost
     go_wp2_with fail
     refine HLO.out.mono ?_
     rintro e w5 ⟨nn,sb5,Hs5,Hc5,rfl,hs5,hch5,hH5,hg5⟩
     have hG5:=HG2.out.trans hg5
     have hHb:Holds w5 ((lb,pgO last)::((mb,moO f' q')::(Hs5++(Hc5++Fr)))):=hH5.p
     have l0:=hHb.hcell 0
     have l1:=hHb.hcell 1
     have l2:=hHb.hcell 2
     have l3:=hHb.hcell 3
     have l4:=hHb.hcell 4
     have l5:=hHb.hcell 5
     simp only [pgO,List.getElem?_toArray,List.getElem?_cons_zero,List.getElem?_cons_succ] at l0 l1 l2 l3 l4 l5
     have HFO:=Lib.hid (found_any (f:=f') (q:=q') hs5 hch5 (hHb.p:Holds w5 ((mb,moO f' q')::(Hs5++(Hc5++Fr)))) HFH.out (by show c4.ops≤999999990000;omega))
     clear hs5 hch5 hH5 hg5 hHb HLO HG2
     go_wp2_with fail
     refine HFO.out.mono ?_
     rintro e w6 ⟨t6,c6,Hs6,Hc6,rfl,hs6,hch6,hH6,hg6,g1,g0,g2,g3,g4,g5,g6,g7,g8⟩
     have hG6:=hG5.trans hg6
     have hI6:=sc_found HFH.out HM4.out HALL.out HL4.out (fun n hn=>(HD.out.need n hn).1) HD.out.seqs HD.out.last.1 g1 g2 g3 g4 g6 g7
     have HI6:=Lib.hid hI6
     have hno:=non_any hch6 (hH6.p:Holds w6 (Hc6++((mb,moO (fnd f' t last) q')::(Hs6++Fr))))
     have HMS6:=Lib.hid (show c6.ms=c.ms by rw [g1.ms,HR1.out.ms];exact hms)
     have hop6:c6.ops≤c.ops+20000∧KP c c6:=⟨by omega,fun h1 h2 h3=>by
      obtain ⟨_,h5⟩:=HKP2.out h1 h2 h3
      have h6:c4.ms=[]:=by rw [HR1.out.ms,hms,h1]
      have h7:=g8 h6 HL4.out.on
      exact ⟨h7,fun k x hx=>h5 k x (by rw [← HR1.out.blocks,← g1.blocks];exact hx)⟩⟩
     have HS6:=Lib.hid hs6
     have HC6:=Lib.hid hch6
     clear l0 l1 l2 l3 l4 l5 g0 g1 g2 g3 g4 g5 g6 g7 hG5 hg6 HFO hch6 hms hop2 hop5
     cases hon6:c6.on with
     |false =>
      rw [hon6] at hno
      have HNO:=Lib.hid hno
      clear hno hon6 hs6 hI6
      go_wp2_with fail
      refine HNO.out.mono ?_
      rintro e wx ⟨rfl,rfl⟩
      go_wp2_with fail
      go_ret2
      exact ⟨_,q',t6,c6,sb5,Hs6,Hc6,rfl,HI6.out,hq3,hq4,hq5,HS6.out,HC6.out,hH6,hG6,HMS6.out,hop6⟩
     |true =>
      rw [hon6] at hno
      have HNO:=Lib.hid hno
      have HST:=Lib.hid (stands_any hs6 (hH6:Holds w6 ((mb,moO (fnd f' t last) q')::(Hs6++(Hc6++Fr)))) hI6.cont.yok hI6.geo.1 hI6.geo.2.1 (hI6.needed hon6))
      clear hno hon6 hs6 hI6 hH6
      go_wp2_with fail
      refine HNO.out.mono ?_
      rintro e wx ⟨rfl,rfl⟩
      go_wp2_with fail
      refine HST.out.mono ?_
      rintro e w7 ⟨rfl,hH7,hg7⟩
      have hG7:=hG6.trans hg7
      clear HST hg7 hG6
      go_wp2_with fail
      go_ret2
      exact ⟨_,q',t6,c6,sb5,Hs6,Hc6,rfl,HI6.out,hq3,hq4,hq5,HS6.out,HC6.out,hH7,hG7,HMS6.out,hop6⟩
    ·rw [decide_eq_false hlost]
     have hon':c'.on=true:=by
      cases h:c'.on with
      |true=>rfl
      |false=>exact absurd (Or.inr h) hlost
     have hI':=hon hon'
     have HST:=Lib.hid (stands_any hs2 (hHa.p:Holds wc ((mb,moO f' q')::(Hs2++(Hc2++Fr)))) hI'.cont.yok hI'.geo.1 hI'.geo.2.1 (hI'.needed hon'))
     have HI:=Lib.hid hI'
     have HS2:=Lib.hid hs2
     have HC2:=Lib.hid hch2
     clear hs2 hch2 hHa hon hoff hlost hI' hon'
     go_wp2_with fail
     refine HST.out.mono ?_
     rintro e w5 ⟨rfl,hH5,hg5⟩
     have hG5:=HG2.out.trans hg5
     clear HST hg5 HG2
     go_wp2_with fail
     go_ret2
     exact ⟨f',q',s',c',sb,Hs2,Hc2,rfl,HI.out,hq3,hq4,hq5,HS2.out,HC2.out,hH5,hG5,hms,by omega,HKP2.out⟩
end Go.Proofs.YtoelopghilbfeaaGreat
