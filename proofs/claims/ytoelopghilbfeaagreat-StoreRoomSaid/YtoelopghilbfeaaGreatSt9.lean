/-
  Package store: look.
-/
import Derived.Test.YtoelopghilbfeaaGreatSt8
namespace Go.Proofs.YtoelopghilbfeaaGreat
open Go.RowKit
set_option linter.unusedSimpArgs false
set_option linter.unusedVariables false
variable {b cb g cap:Nat} {mv:Value} {c:CM} {s:SM} {H Hc Fr:HL} {w:World}
set_option maxRecDepth 20000 in
set_option maxHeartbeats 8000000 in
theorem look_any (x:Int) (h:StAt b cb s H) (hch:ChipAt cb g cap mv c Hc) (hH:Holds w (H++(Hc++Fr))) (hops:c.ops≤999999999000) (hy:Yok s.P s.y) (hx0:0≤x) (hx1:x<s.B) :
  Calls Tryz.prog 44 #[.pointer (some ⟨b,0,none⟩),.int .i64 x] w (RetSE b cb g cap mv (lookI s c x).1 (lookI s c x).2.1 (lookI s c x).2.2 w Fr):=by
 have HST:=Lib.hid h
 have HCH:=Lib.hid hch
 have HYO:=Lib.hid hy
 have HX:=Lib.hid (And.intro hx0 hx1)
 have HRS:=Lib.hid (show lookI s c x=if (lookA s c x).2.2≠0 then lookA s c x else lookB (lookA s c x) x from rfl)
 have HPB:=Lib.hid (plan_bd h.plan)
 generalize lookI s c x=res at *
 have HNX:=Lib.hid (nnext_any x hch (hH.right))
 have hnb:=next_bd hch.cok x
 obtain ⟨nx,hnx⟩:∃ nx,nx=c.nextOf x:=⟨_,rfl⟩
 rw [← hnx] at HNX hnb
 have HNE:=Lib.hid hnx
 obtain ⟨yb,mb,hcells,_,_,hopen,_⟩:=h.yards
 obtain ⟨x0,x1,x2,x3,x4,x5,x6⟩:=hcells w _ hH
 have HOP:=Lib.hid (hopen x w _ hH)
 have HH:=Lib.hid hH
 have hG0:=Grew.refl w
 clear h hch hH hy hx0 hx1 hnx hcells hopen
 have k1:=err_ne
 have k2:=nil_ne
 go_enter Tryz.func44,Tryz.ntmps44
 go_upto_region 2 with fail
 refine HNX.out.mono ?_
 rintro e w1 ⟨rfl,rfl⟩
 by_cases hn0:0<nx
 ·have HLA:=Lib.hid (show lookA s c x=if (lookN (c.nextOf x).toNat (ropenS s x) c x).2.2≠0 then lookN (c.nextOf x).toNat (ropenS s x) c x
   else ({ (lookN (c.nextOf x).toNat (ropenS s x) c x).1 with y:=(Yturn (lookN (c.nextOf x).toNat (ropenS s x) c x).1.y x 2 3).1 },(lookN (c.nextOf x).toNat (ropenS s x) c x).2.1,0) by unfold lookA;rw [if_pos (by rw [← HNE.out];exact hn0)])
  rw [← HNE.out] at HLA
  obtain ⟨n,rfl⟩:=Int.eq_ofNat_of_zero_le hnb.1
  rw [show ((n:Int)).toNat=n from rfl] at HLA
  obtain ⟨lr,hlr⟩:∃ lr,lr=lookN n (ropenS s x) c x:=⟨_,rfl⟩
  rw [← hlr] at HLA
  have HLR:=Lib.hid hlr
  clear hlr
  go_upto_region 4 with fail
  refine HOP.out.mono ?_
  rintro e w2 ⟨ve2,He2,H2,rfl,he2,hs2,hH2,hg2⟩
  have HS2:=Lib.hid hs2
  have hH3:Holds w2 (H2++(Hc++Fr)):=hH2.p
  have hn8:n≤8:=by omega
  clear he2 hs2 hH2 HOP HNX x0 x1 x2 x3 x4 x5 x6 hnb hG0 hn0
  go_wp2_with fail
  go_loopw [28] (fun i wr=>LkTo b cb g cap mv n x lr s c w Fr i wr) (fun i _=>n - (intOf i).toNat)
  case atStart=>exact ⟨0,ropenS s x,c,H2,Hc,by omega,rfl,HLR.out.symm,CM.Sim.refl c,rfl,rfl,HYO.out.ropen x,HS2.out,HCH.out,hH3,hg2⟩
  case round =>
   clear hH3 hg2
   obtain ⟨k,s',c',H',Hc',hk,rfl,hres,hsim,hsB,hsP,hyo,hst,hch,hHr,hgr⟩:=hrel
   have HST':=Lib.hid hst
   have HCH':=Lib.hid hch
   have HSIM:=Lib.hid hsim
   have HSB:=Lib.hid (And.intro hsB hsP)
   have HYO':=Lib.hid hyo
   by_cases hlt:k<n
   ·have hkn:(k:Int)<(n:Int):=by omega
    have HOPS:=Lib.hid (show c'.ops≤999999999900 by have:=hsim.2.2.2.2.2;omega)
    rw [show n - k=(n - (k+1))+1 by omega,lookN] at hres
    have HRES:=Lib.hid hres
    obtain ⟨yb3,mb3,hcells3,hnext3⟩:=hst.next
    obtain ⟨x0,x1,x2,x3,x4,x5,x6⟩:=hcells3 wr _ hHr
    have HNY:=Lib.hid (hnext3 x wr _ hHr)
    have HPG:=Lib.hid (hyo.nextP (by have:=HPB.out;omega) x)
    clear hres hsim hsB hsP hyo hst hch hHr hcells3 hnext3
    go_upto_region 7 with fail
    refine HNY.out.mono ?_
    rintro e w3 ⟨ve3,He3,H3,rfl,he3,hs3,hH3,hg3⟩
    have HS3:=Lib.hid hs3
    have hH4:Holds w3 (H3++(Hc'++Fr)):=hH3.p
    have hG3:=hgr.trans hg3
    clear he3 hs3 hH3 hg3 hgr HNY x0 x1 x2 x3 x4 x5 x6
    obtain ⟨pg,hpg⟩:∃ pg,pg=(Ynext s'.y x).2.1:=⟨_,rfl⟩
    rw [← hpg] at HRES HPG ⊢
    have HPGE:=Lib.hid hpg
    clear hpg
    obtain ⟨yb4,mb4,hcells4,_⟩:=HS3.out.yards
    obtain ⟨x0,x1,x2,x3,x4,x5,x6⟩:=hcells4 w3 _ hH4
    have HRD:=Lib.hid (nread_any x pg HCH'.out (hH4.swap) (by have:=HOPS.out;omega))
    have HSIM4:=Lib.hid (CM.read_sim c' x pg)
    have HRL:=Lib.hid (read_len HCH'.out.cok x pg)
    clear hcells4 hH4
    generalize c'.read x pg=rd at *
    obtain ⟨c4,raw,code⟩:=rd
    dsimp only at *
    go_upto_region 8 with fail
    refine HRD.out.mono ?_
    rintro e w4 ⟨vr,ve4,Hc4,Hv,He4,G4,rfl,hv,he4,hch4,hH5,hg5⟩
    have HCH4:=Lib.hid hch4
    have HV:=Lib.hid hv
    have HE4:=Lib.hid he4
    have HH5:=Lib.hid hH5
    have hG5:=hG3.trans hg5
    clear hv hch4 hH5 hg5 hG3 HRD x0 x1 x2 x3 x4 x5 x6
    by_cases hc:code=0
    ·subst hc
     obtain ⟨rfl,rfl⟩:=isErr0 he4
     clear he4
     have HRES2:=Lib.hid (HRES.out)
     rw [if_neg (by simp)] at HRES2
     have HHD:=Lib.hid (read_any vr raw w4 (H3++(Hc4++(Hv++Fr))) (fun wx hx=>HV.out.at_ (hx.p:Holds wx (Hv++(H3++(Hc4++Fr))))) (HH5.out.p) (by have:=HRL.out;omega))
     clear HRES
     cases hrf:readF raw with
     |none =>
      rw [hrf] at HHD HRES2
      clear hrf
      go_upto_region 11 with fail
      refine HHD.out.mono ?_
      rintro e w5 ⟨st,hst1,rfl,hH6,hg6⟩
      have e1:(st == 1)=false:=by simpa using hst1
      clear hst1
      simp only [Hd.agg,Hd.cells,Hd.zero]
      go_upto_region 11 with fail
      have hH7:=hH6.alloc (.cells #[.int .i64 0,.int .u64 0,.int .i64 0,.int .i64 0] 37)
      have hG7:=(hG5.trans hg6).alloc (.cells #[.int .i64 0,.int .u64 0,.int .i64 0,.int .i64 0] 37)
      clear hH6 hg6 hG5
      go_wp2_with fail
      go_roundw
      case rel =>
       refine ⟨k+1,nextY s' x,c4,H3,Hc4,by omega,by go_num,HRES2.out,(HSIM.out.trans HSIM4.out).mono (by omega),HSB.out.1,HSB.out.2,HYO'.out.next x,HS3.out,HCH4.out,hH7.p,hG7⟩
      case measure=>simp [intOf];omega
     |some q =>
      rw [hrf] at HHD HRES2
      clear hrf
      go_upto_region 11 with fail
      refine HHD.out.mono ?_
      rintro e w5 ⟨vd,Hd5,rfl,hd5,hH6,hg6⟩
      obtain ⟨dq,hq⟩:=q
      have HKP:=Lib.hid (fun (wx:World) (F:HL) (hX:Holds wx (H3++F))=>keep_any x pg hq HS3.out hX HX.out.1 (by rw [show (nextY s' x).B=s'.B from rfl,HSB.out.1];exact HX.out.2) HPG.out.1 HPG.out.2)
      dsimp only at HRES2 ⊢
      obtain ⟨hdk,hda,hds,hdg⟩:=hq
      simp only [Hd.agg,Hd.cells] at HKP ⊢
      clear hd5
      go_upto_region 11 with fail
      have hH7:=hH6.alloc (.cells #[.int .i64 hdk,.int .u64 hda,.int .i64 hds,.int .i64 hdg] 37)
      have hG7:=(hG5.trans hg6).alloc (.cells #[.int .i64 hdk,.int .u64 hda,.int .i64 hds,.int .i64 hdg] 37)
      clear hH6 hg6 hG5
      generalize w5.alloc (.cells #[.int .i64 hdk,.int .u64 hda,.int .i64 hds,.int .i64 hdg] 37)=w6 at *
      generalize w5.heap.size=gh at *
      have s0:=hH7.hcell 0
      have s1:=hH7.hcell 1
      have s2:=hH7.hcell 2
      have s3:=hH7.hcell 3
      have hH8:Holds w6 (H3++(Hc4++Fr)):=hH7.p
      have HKQ:=Lib.hid (HKP.out w6 _ hH8)
      clear hH7 hH8 HKP
      go_upto_region 13 with fail
      refine HKQ.out.mono ?_
      rintro e w7 ⟨rfl,H7,hs7,hH9,hg9⟩
      have HS7:=Lib.hid hs7
      have HH9:=Lib.hid hH9
      have hG9:=hG7.trans hg9
      clear hs7 hH9 hg9 hG7 s0 s1 s2 s3 HKQ
      go_wp2_with fail
      go_roundw
      case rel =>
       refine ⟨k+1,keepS (nextY s' x) x pg ⟨hdk,hda,hds,hdg⟩,c4,H7,Hc4,by omega,by go_num,HRES2.out,(HSIM.out.trans HSIM4.out).mono (by omega),HSB.out.1,HSB.out.2,(HYO'.out.next x).need x pg _,HS7.out,HCH4.out,HH9.out.p,hG9⟩
      case measure=>simp [intOf];omega
    ·obtain ⟨be4,se4,rfl,rfl⟩:=isErrP8 he4 hc
     have HRES2:=Lib.hid (HRES.out)
     rw [if_pos hc] at HRES2
     clear he4
     go_wp2_with fail
     go_ret
     have HLA2:=Lib.hid HLA.out
     rw [← HRES2.out,if_pos hc] at HLA2
     rw [HRS.out,HLA2.out,if_pos hc]
     exact ⟨_,_,H3,Hc4,rfl,HE4.out,HS3.out,HCH4.out,HH5.out.p,hG5⟩
   ·obtain rfl:k=n:=by omega
    rw [Nat.sub_self,lookN] at hres
    rw [← hres,if_neg (by simp)] at HLA
    dsimp only at HLA
    obtain ⟨yb3,mb3,hcells3,hseal3,_⟩:=hst.yards
    obtain ⟨x0,x1,x2,x3,x4,x5,x6⟩:=hcells3 wr _ hHr
    have HSL:=Lib.hid (hseal3 x wr _ hHr)
    have hkn:¬ (k:Int)<(k:Int):=by omega
    clear hres hsim hsB hsP hyo hst hch hHr hcells3 hseal3
    go_upto_region 15 with fail
    refine HSL.out.mono ?_
    rintro e w3 ⟨ve3,He3,H3,rfl,he3,hs3,hH3,hg3⟩
    have HSX:=Lib.hid hs3
    have hHX:Holds w3 (H3++(Hc'++Fr)):=hH3.p
    have hGX:=hgr.trans hg3
    have HCX:=HCH'
    have HRX:=Lib.hid (show res=lookB ({ s' with y:=(Yturn s'.y x 2 3).1 },c',0) x by rw [HRS.out,HLA.out,if_neg (by simp)])
    clear he3 hs3 hH3 hg3 hgr HSL x0 x1 x2 x3 x4 x5 x6
    obtain ⟨yb9,mb9,hcells9,_,_,_,hret9⟩:=HSX.out.yards
    obtain ⟨x0,x1,x2,x3,x4,x5,x6⟩:=hcells9 w3 _ hHX
    have HMK:=Lib.hid (nmarked_any x HCX.out (hHX.swap))
    have HRT:=Lib.hid (hret9 x w3 _ hHX)
    have HHX:=Lib.hid hHX
    clear hcells9 hret9 hHX
    by_cases hm:(c').markOf x=true
    ·have HRES:=Lib.hid (show res=({ ({ s' with y:=(Yturn s'.y x 2 3).1 }) with y:=(Yretire ({ s' with y:=(Yturn s'.y x 2 3).1 }).y x).1 },c',0) by rw [HRX.out];unfold lookB;exact if_pos hm)
     rw [hm] at HMK
     clear hm
     go_upto_region 16 with fail
     refine HMK.out.mono ?_
     rintro e w8 ⟨rfl,rfl⟩
     go_upto_region 17 with fail
     refine HRT.out.mono ?_
     rintro e w8 ⟨ve8,He8,H8,rfl,he8,hs8,hH8,hg8⟩
     have HS8:=Lib.hid hs8
     have HH8:=Lib.hid hH8
     have hG8:=hGX.trans hg8
     clear he8 hs8 hH8 hg8 hGX HRT x0 x1 x2 x3 x4 x5 x6
     go_wp2_with fail
     go_ret
     rw [HRES.out]
     exact ⟨_,[],H8,_,rfl,IsErr.none,HS8.out,HCX.out,HH8.out.p,hG8⟩
    ·have HRES:=Lib.hid (show res=({ s' with y:=(Yturn s'.y x 2 3).1 },c',0) by rw [HRX.out];unfold lookB;exact if_neg hm)
     rw [show (c').markOf x=false by simpa using hm] at HMK
     clear hm
     go_upto_region 16 with fail
     refine HMK.out.mono ?_
     rintro e w8 ⟨rfl,rfl⟩
     clear x0 x1 x2 x3 x4 x5 x6
     go_wp2_with fail
     go_ret
     rw [HRES.out]
     exact ⟨_,[],_,_,rfl,IsErr.none,HSX.out,HCX.out,HHX.out.p,hGX⟩
 ·obtain rfl:nx=0:=by omega
  have HRX:=Lib.hid (show res=lookB (s,c,0) x by rw [HRS.out,show lookA s c x=(s,c,0) by unfold lookA;rw [if_neg (by rw [← HNE.out];omega)],if_neg (by simp)])
  have HSX:=HST
  have HCX:=HCH
  have hHX:=HH.out
  have hGX:=hG0
  clear x0 x1 x2 x3 x4 x5 x6 hG0
  obtain ⟨yb9,mb9,hcells9,_,_,_,hret9⟩:=HSX.out.yards
  obtain ⟨x0,x1,x2,x3,x4,x5,x6⟩:=hcells9 w _ hHX
  have HMK:=Lib.hid (nmarked_any x HCX.out (hHX.swap))
  have HRT:=Lib.hid (hret9 x w _ hHX)
  have HHX:=Lib.hid hHX
  clear hcells9 hret9 hHX
  by_cases hm:(c).markOf x=true
  ·have HRES:=Lib.hid (show res=({ (s) with y:=(Yretire (s).y x).1 },c,0) by rw [HRX.out];unfold lookB;exact if_pos hm)
   rw [hm] at HMK
   clear hm
   go_upto_region 16 with fail
   refine HMK.out.mono ?_
   rintro e w8 ⟨rfl,rfl⟩
   go_upto_region 17 with fail
   refine HRT.out.mono ?_
   rintro e w8 ⟨ve8,He8,H8,rfl,he8,hs8,hH8,hg8⟩
   have HS8:=Lib.hid hs8
   have HH8:=Lib.hid hH8
   have hG8:=hGX.trans hg8
   clear he8 hs8 hH8 hg8 hGX HRT x0 x1 x2 x3 x4 x5 x6
   go_wp2_with fail
   go_ret
   rw [HRES.out]
   exact ⟨_,[],H8,_,rfl,IsErr.none,HS8.out,HCX.out,HH8.out.p,hG8⟩
  ·have HRES:=Lib.hid (show res=(s,c,0) by rw [HRX.out];unfold lookB;exact if_neg hm)
   rw [show (c).markOf x=false by simpa using hm] at HMK
   clear hm
   go_upto_region 16 with fail
   refine HMK.out.mono ?_
   rintro e w8 ⟨rfl,rfl⟩
   clear x0 x1 x2 x3 x4 x5 x6
   go_wp2_with fail
   go_ret
   rw [HRES.out]
   exact ⟨_,[],_,_,rfl,IsErr.none,HSX.out,HCX.out,HHX.out.p,hGX⟩
end Go.Proofs.YtoelopghilbfeaaGreat
