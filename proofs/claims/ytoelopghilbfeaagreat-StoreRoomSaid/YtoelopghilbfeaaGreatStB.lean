/-
  Texts put together: YtoelopghilbfeaaGreatSt13, YtoelopghilbfeaaGreatSt14, YtoelopghilbfeaaGreatSt15, YtoelopghilbfeaaGreatSt16, YtoelopghilbfeaaGreatSt17, YtoelopghilbfeaaGreatSt18, YtoelopghilbfeaaGreatSt19, YtoelopghilbfeaaGreatSt20, YtoelopghilbfeaaGreatSt21, YtoelopghilbfeaaGreatSt22.
-/
import Derived.Test.YtoelopghilbfeaaGreatSt12
import Derived.Laws.ResultCell
namespace Go.Proofs.YtoelopghilbfeaaGreat
open Go.RowKit
set_option linter.unusedSimpArgs false
set_option linter.unusedVariables false
variable {b cb g cap:Nat} {mv:Value} {c:CM} {s:SM} {H Hc Fr:HL} {w:World}
theorem StAt.look (h:StAt b cb s H):∃ yb mb,(∀ (w:World) (F:HL),Holds w (H++F)→w.cell? ⟨b,0,none⟩=some (.pointer (some ⟨yb,0,none⟩))∧w.cell? ⟨b,1,none⟩=some (.pointer (some ⟨cb,0,none⟩)) ∧
  w.cell? ⟨b,2,none⟩=some (.int .i64 (s.B:Int))∧w.cell? ⟨b,3,none⟩=some (.int .i64 (s.P:Int))∧w.cell? ⟨b,4,none⟩=some (.int .i64 (s.Z:Int))∧w.cell? ⟨b,5,none⟩=some (.map (some mb))∧w.cell? ⟨b,6,none⟩=some (.int .i64 s.op)) ∧
  ∀ (a:Int) (w:World) (F:HL),Holds w (H++F)→0≤a→a≤9223372036854775807→(Instr.lookup 94 (.map (some mb)) (.int .i64 a) true).run Tryz.prog w=.ok (.tuple #[((lookS s.hs a).getD Hd.zero).agg,.bool (lookS s.hs a).isSome]) w:=by
 obtain ⟨yb,mb,es,clock,Hy,hy,hok,hst,hwf,hpl,hop,hyl,rfl⟩:=h
 refine ⟨yb,mb,fun w F hX=>⟨hX.hcell 0,hX.hcell 1,hX.hcell 2,hX.hcell 3,hX.hcell 4,hX.hcell 5,hX.hcell 6⟩,fun a w F hX h0 h1=>?_⟩
 have hb:w.heap[mb]?=some (.map es clock):=hX.get (by simp)
 exact hs_look hb hok hwf h0 h1
def askedS (s:SM) (n:Int):Int × Int × Int :=
 if (placeI s.B s.P n).1<0 then (0,0,2) else if (lookS s.hs n).isSome=false then (0,0,8) else ((placeI s.B s.P n).1,(placeI s.B s.P n).2,0)
def RetAsk (r:Int × Int × Int) (w:World) (Fr:HL) (e:Ending) (w':World):Prop :=
 ∃ ve He,e=.returned (.tuple #[.int .i64 r.1,.int .i64 r.2.1,ve])∧IsErr ve r.2.2 He∧Holds w' (He++Fr)∧Grew w w'
theorem placeI_bd {B P n:Int} (h:0≤(placeI B P n).1):0≤n∧n≤B * P - 1:=by
 unfold placeI at h
 split at h
 ·rename_i hn;exact hn
 ·exact absurd h (by decide)
set_option maxRecDepth 20000 in
set_option maxHeartbeats 4000000 in
theorem asked_any (n:Int) (h:StAt b cb s H) (hH:Holds w (H++Fr)):Calls Tryz.prog 53 #[.pointer (some ⟨b,0,none⟩),.int .i64 n] w (RetAsk (askedS s n) w (H++Fr)):=by
 obtain ⟨yb,mb,hcl,hlk⟩:=h.look
 have HCL:=Lib.hid hcl
 have HLK:=Lib.hid hlk
 have HPL:=Lib.hid (place_any (s.B:Int) s.P s.Z n w _ hH h.plan)
 have HPB:=Lib.hid (plan_bd h.plan)
 have hmb:=plan_bd h.plan
 have hmul:(s.B:Int) * s.P≤256:=by
  have:=Int.mul_le_mul (show (s.B:Int)≤32 by omega) (show (s.P:Int)≤8 by omega) (by omega) (by omega)
  omega
 have HBD:=Lib.hid (fun (hh:0≤(placeI s.B s.P n).1)=>show 0≤n∧n≤9223372036854775807 by have:=placeI_bd hh;omega)
 have HR:=Lib.hid (show askedS s n=if (placeI s.B s.P n).1<0 then (0,0,2) else if (lookS s.hs n).isSome=false then (0,0,8) else ((placeI s.B s.P n).1,(placeI s.B s.P n).2,0) from rfl)
 generalize askedS s n=res at *
 generalize placeI s.B s.P n=pl at *
 obtain ⟨pb,pp⟩:=pl
 dsimp only at *
 obtain ⟨x0,x1,x2,x3,x4,x5,x6⟩:=hcl w _ hH
 clear h hcl hlk hH hmb hmul
 go_enter Tryz.func53,Tryz.ntmps53
 go_upto_region 4 with fail
 refine HPL.out.mono ?_
 rintro e w1 ⟨rfl,hH1,hg1⟩
 clear x0 x1 x2 x3 x4 x5 x6 HPL
 by_cases hb:pb<0
 ·have HR2:=Lib.hid (show res=(0,0,2) by rw [HR.out,if_pos hb])
  have HW:=Lib.hid (swrong_any 2 w1 _ (by omega) hH1)
  clear hH1
  go_wp2_with fail
  refine HW.out.mono ?_
  rintro e w2 ⟨ve,He,rfl,he,hH2,hg2⟩
  have HE:=Lib.hid he
  clear he HW
  go_wp2_with fail
  go_ret3
  rw [HR2.out]
  exact ⟨ve,He,rfl,HE.out,hH2,hg1.trans hg2⟩
 ·obtain ⟨hn0,hn1⟩:=HBD.out (by omega)
  have hlk:=HLK.out n w1 _ hH1 hn0 hn1
  obtain ⟨x0,x1,x2,x3,x4,x5,x6⟩:=HCL.out w1 _ hH1
  have HB:=Lib.hid hb
  rw [if_neg hb] at HR
  cases hl:lookS s.hs n with
  |none =>
   rw [hl] at hlk HR
   have HR2:=Lib.hid (show res=(0,0,8) by rw [HR.out];rfl)
   simp only [Option.getD_none,Option.isSome_none,Hd.agg,Hd.cells,Hd.zero] at hlk
   have hH2:=hH1.alloc (.cells #[.int .i64 0,.int .u64 0,.int .i64 0,.int .i64 0] 37)
   have hg2:=hg1.alloc (.cells #[.int .i64 0,.int .u64 0,.int .i64 0,.int .i64 0] 37)
   have HW:=Lib.hid (swrong_any 8 _ _ (by omega) hH2)
   clear hl hH1 hH2
   go_wp2_with fail
   refine HW.out.mono ?_
   rintro e w2 ⟨ve,He,rfl,he,hH2,hg3⟩
   have HE:=Lib.hid he
   clear he HW
   go_wp2_with fail
   go_ret3
   rw [HR2.out]
   exact ⟨ve,He,rfl,HE.out,hH2.p,hg2.trans hg3⟩
  |some q =>
   rw [hl] at hlk HR
   have HR2:=Lib.hid (show res=(pb,pp,0) by rw [HR.out];rfl)
   obtain ⟨hdk,hda,hds,hdg⟩:=q
   simp only [Option.getD_some,Option.isSome_some,Hd.agg,Hd.cells] at hlk
   have hH2:=hH1.alloc (.cells #[.int .i64 hdk,.int .u64 hda,.int .i64 hds,.int .i64 hdg] 37)
   have hg2:=hg1.alloc (.cells #[.int .i64 hdk,.int .u64 hda,.int .i64 hds,.int .i64 hdg] 37)
   clear hl hH1
   go_wp2_with fail
   go_ret3
   rw [HR2.out]
   exact ⟨_,[],rfl,IsErr.none,hH2.tail,hg2⟩
end Go.Proofs.YtoelopghilbfeaaGreat
namespace Go.Proofs.YtoelopghilbfeaaGreat
open Go.RowKit
set_option linter.unusedSimpArgs false
set_option linter.unusedVariables false
variable {b cb g cap:Nat} {mv:Value} {c:CM} {s:SM} {H Hc Fr:HL} {w:World}
set_option maxRecDepth 20000 in
set_option maxHeartbeats 2000000 in
theorem head_any (n:Int) (h:StAt b cb s H) (hH:Holds w (H++Fr)) (hn:0≤n) (hn1:n≤9223372036854775807):Calls Tryz.prog 31 #[.pointer (some ⟨b,0,none⟩),.int .i64 n] w (RetFr (.tuple #[((lookS s.hs n).getD Hd.zero).agg,.bool (lookS s.hs n).isSome]) w (H++Fr)):=by
 obtain ⟨yb,mb,hcl,hlk⟩:=h.look
 have HLK:=Lib.hid (fun (wx:World) (F:HL) (hx:Holds wx (H++F))=>hlk n wx F hx hn hn1)
 have HCL:=Lib.hid hcl
 generalize lookS s.hs n=q at *
 generalize hq:q.getD Hd.zero=r at *
 generalize q.isSome=z at *
 obtain ⟨hdk,hda,hds,hdg⟩:=r
 simp only [Hd.agg,Hd.cells] at HLK ⊢
 have hH1:=hH.alloc (.cells #[.int .i64 0,.int .u64 0,.int .i64 0,.int .i64 0] 37)
 have hg1:=(Grew.refl w).alloc (.cells #[.int .i64 0,.int .u64 0,.int .i64 0,.int .i64 0] 37)
 clear h hH hcl hlk hq
 go_enter Tryz.func31,Tryz.ntmps31
 go_upto_region 3 with fail
 generalize w.alloc (.cells #[.int .i64 0,.int .u64 0,.int .i64 0,.int .i64 0] 37)=w1 at *
 generalize w.heap.size=gh at *
 have hH2:Holds w1 (H++(Fr++[(gh,.cells #[.int .i64 0,.int .u64 0,.int .i64 0,.int .i64 0] 37)])):=hH1.p
 have hlk:=HLK.out w1 _ hH2
 obtain ⟨x0,x1,x2,x3,x4,x5,x6⟩:=HCL.out w1 _ hH2
 have hH3:=hH1.alloc (.cells #[.int .i64 hdk,.int .u64 hda,.int .i64 hds,.int .i64 hdg] 37)
 have hg3:=hg1.alloc (.cells #[.int .i64 hdk,.int .u64 hda,.int .i64 hds,.int .i64 hdg] 37)
 clear hH1 hg1 hH2
 go_upto_region 4 with fail
 generalize w1.alloc (.cells #[.int .i64 hdk,.int .u64 hda,.int .i64 hds,.int .i64 hdg] 37)=w2 at *
 generalize w1.heap.size=g2 at *
 obtain ⟨s0,s1,s2,s3,_⟩:=hH3.get4
 obtain ⟨r0,r1,r2,r3,f0,f1,f2,f3⟩:=hH3.tail.get4
 have rl:=hH3.tail.hlt
 have hH4:=Holds.set4 (hH3.tail) (.int .i64 hdk) (.int .u64 hda) (.int .i64 hds) (.int .i64 hdg)
 have hg4:=hg3.set4 gh (.int .i64 hdk) (.int .u64 hda) (.int .i64 hds) (.int .i64 hdg)
 have HH3:=Lib.hid hH3
 clear hH3 x0 x1 x2 x3 x4 x5 x6
 go_wp2_with fail
 obtain ⟨t0,t1,t2,t3,_⟩:=hH4.get4
 refine bodyPost_ret (v:=.tuple #[.agg #[.int .i64 hdk,.int .u64 hda,.int .i64 hds,.int .i64 hdg],.bool z]) (by rw [results_cell_tmp rfl];go_simp) rfl ⟨rfl,?_,?_⟩
 ·exact hH4.tail
 ·exact hg4
def RetGet (cb g cap:Nat) (mv:Value) (r:CM × List UInt8 × Hd × Int) (w:World) (H Fr:HL) (e:Ending) (w':World):Prop :=
 ∃ v Hv ve He Hc',e=.returned (.tuple #[v,r.2.2.1.agg,ve])∧IsBytes v r.2.1 Hv∧IsErr ve r.2.2.2 He∧ChipAt cb g cap mv r.1 Hc'∧Holds w' (H++(Hc'++(Hv++(He++Fr))))∧Grew w w'
def getS (s:SM) (c:CM) (n:Int):CM × List UInt8 × Hd × Int :=
 if (askedS s n).2.2≠0 then (c,[],Hd.zero,(askedS s n).2.2)
 else if (c.read (askedS s n).1 (askedS s n).2.1).2.2≠0 then ((c.read (askedS s n).1 (askedS s n).2.1).1,[],Hd.zero,(c.read (askedS s n).1 (askedS s n).2.1).2.2)
 else match readF (c.read (askedS s n).1 (askedS s n).2.1).2.1 with
  |some q=>((c.read (askedS s n).1 (askedS s n).2.1).1,q.1,q.2,0)
  |none=>((c.read (askedS s n).1 (askedS s n).2.1).1,[],Hd.zero,0)
set_option maxRecDepth 20000 in
set_option maxHeartbeats 4000000 in
theorem get_any (n:Int) (h:StAt b cb s H) (hch:ChipAt cb g cap mv c Hc) (hH:Holds w (H++(Hc++Fr))) (hops:c.ops≤999999999999):Calls Tryz.prog 23 #[.pointer (some ⟨b,0,none⟩),.int .i64 n] w (RetGet cb g cap mv (getS s c n) w H Fr):=by
 have hH1:=hH.alloc (.cells #[.int .i64 0,.int .u64 0,.int .i64 0,.int .i64 0] 37)
 have hg1:=(Grew.refl w).alloc (.cells #[.int .i64 0,.int .u64 0,.int .i64 0,.int .i64 0] 37)
 have hH2:Holds (w.alloc (.cells #[.int .i64 0,.int .u64 0,.int .i64 0,.int .i64 0] 37)) (H++(Hc++(Fr++[(w.heap.size,.cells #[.int .i64 0,.int .u64 0,.int .i64 0,.int .i64 0] 37)]))):=hH1.p
 have HA:=Lib.hid (asked_any n h hH2)
 have HCH:=Lib.hid hch
 have HO:=Lib.hid hops
 have HR:=Lib.hid (show getS s c n=if (askedS s n).2.2≠0 then (c,[],Hd.zero,(askedS s n).2.2)
  else if (c.read (askedS s n).1 (askedS s n).2.1).2.2≠0 then ((c.read (askedS s n).1 (askedS s n).2.1).1,[],Hd.zero,(c.read (askedS s n).1 (askedS s n).2.1).2.2)
  else match readF (c.read (askedS s n).1 (askedS s n).2.1).2.1 with
   |some q=>((c.read (askedS s n).1 (askedS s n).2.1).1,q.1,q.2,0)
   |none=>((c.read (askedS s n).1 (askedS s n).2.1).1,[],Hd.zero,0) from rfl)
 generalize getS s c n=res at *
 generalize askedS s n=ak at *
 obtain ⟨ab,ap,acode⟩:=ak
 dsimp only at *
 obtain ⟨yb,mb,hcl⟩:=h.cells
 have HCL:=Lib.hid hcl
 have k1:=err_ne
 have k2:=nil_ne
 clear hH hH1 hH2 h hch hops hcl
 go_enter Tryz.func23,Tryz.ntmps23
 go_upto_region 2 with fail
 generalize w.alloc (.cells #[.int .i64 0,.int .u64 0,.int .i64 0,.int .i64 0] 37)=w0 at *
 generalize w.heap.size=gh at *
 refine HA.out.mono ?_
 rintro e w1 ⟨ve,He,rfl,he,hH2,hg2⟩
 dsimp only at he
 have HE:=Lib.hid he
 have hG2:=hg1.trans hg2
 clear hg1 hg2 HA
 by_cases hc:acode=0
 ·subst hc
  obtain ⟨rfl,rfl⟩:=isErr0 he
  clear he
  rw [if_neg (by simp)] at HR
  have hH3:Holds w1 (H++(Hc++(Fr++[(gh,.cells #[.int .i64 0,.int .u64 0,.int .i64 0,.int .i64 0] 37)]))):=hH2
  obtain ⟨x0,x1,x2,x3,x4,x5,x6⟩:=HCL.out w1 _ hH3
  have HRD:=Lib.hid (nread_any ab ap HCH.out (hH3.swap) (by have:=HO.out;omega))
  have HRL:=Lib.hid (read_len HCH.out.cok ab ap)
  clear hH2 hH3
  generalize c.read ab ap=rd at *
  obtain ⟨c4,raw,code⟩:=rd
  dsimp only at *
  go_upto_region 5 with fail
  refine HRD.out.mono ?_
  rintro e w4 ⟨vr,ve4,Hc4,Hv,He4,G4,rfl,hv,he4,hch4,hH5,hg5⟩
  dsimp only at hv he4 hch4
  have HCX:=Lib.hid hch4
  have HV:=Lib.hid hv
  have HE:=Lib.hid he4
  have hGX:=hG2.trans hg5
  have hHX:Holds w4 ((gh,.cells #[.int .i64 0,.int .u64 0,.int .i64 0,.int .i64 0] 37)::(H++(Hc4++(Hv++(He4++Fr))))):=hH5.p
  clear hv hch4 hH5 hg5 hG2 HRD x0 x1 x2 x3 x4 x5 x6
  by_cases hc4:code=0
  ·subst hc4
   obtain ⟨rfl,rfl⟩:=isErr0 he4
   clear he4
   rw [if_neg (by simp)] at HR
   have hH6:Holds w4 (H++(Hc4++(Hv++(Fr++[(gh,.cells #[.int .i64 0,.int .u64 0,.int .i64 0,.int .i64 0] 37)])))):=hHX.p
   have HHD:=Lib.hid (read_any vr raw w4 _ (fun wx hx=>HV.out.at_ (hx.p:Holds wx (Hv++(H++(Hc4++(Fr++[(gh,.cells #[.int .i64 0,.int .u64 0,.int .i64 0,.int .i64 0] 37)])))))) hH6 (by have:=HRL.out;omega))
   clear hH6 hHX
   cases hrf:readF raw with
   |none =>
    rw [hrf] at HHD HR
    have HR2:=Lib.hid (show res=(c4,[],Hd.zero,0) from HR.out)
    clear hrf
    go_upto_region 8 with fail
    refine HHD.out.mono ?_
    rintro e w5 ⟨st,hst1,rfl,hH6,hg6⟩
    simp only [Hd.agg,Hd.cells,Hd.zero]
    go_upto_region 8 with fail
    have hH7:=hH6.alloc (.cells #[.int .i64 0,.int .u64 0,.int .i64 0,.int .i64 0] 37)
    have hG7:=(hGX.trans hg6).alloc (.cells #[.int .i64 0,.int .u64 0,.int .i64 0,.int .i64 0] 37)
    clear hH6 hg6 hGX
    generalize w5.alloc (.cells #[.int .i64 0,.int .u64 0,.int .i64 0,.int .i64 0] 37)=w6 at *
    generalize w5.heap.size=g2 at *
    have hH8:Holds w6 ((gh,.cells #[.int .i64 0,.int .u64 0,.int .i64 0,.int .i64 0] 37)::((g2,.cells #[.int .i64 0,.int .u64 0,.int .i64 0,.int .i64 0] 37)::(H++(Hc4++(([]:HL)++Fr))))):=hH7.p
    clear hH7
    have HSW:=Lib.hid (fun (wx:World) (hX:Holds wx ((gh,.cells #[.int .i64 0,.int .u64 0,.int .i64 0,.int .i64 0] 37)::((g2,.cells #[.int .i64 0,.int .u64 0,.int .i64 0,.int .i64 0] 37)::(H++(Hc4++(([]:HL)++Fr))))))=>show wx.cell? ⟨g2,0,none⟩=some (.int .i64 0)∧wx.cell? ⟨g2,1,none⟩=some (.int .u64 0)∧wx.cell? ⟨g2,2,none⟩=some (.int .i64 0)∧wx.cell? ⟨g2,3,none⟩=some (.int .i64 0) from ⟨hX.tail.hcell 0,hX.tail.hcell 1,hX.tail.hcell 2,hX.tail.hcell 3⟩)
    refine Y_begin (fun wx=>wx.cell? ⟨g2,0,none⟩=some (.int .i64 0)∧wx.cell? ⟨g2,1,none⟩=some (.int .u64 0)∧wx.cell? ⟨g2,2,none⟩=some (.int .i64 0)∧wx.cell? ⟨g2,3,none⟩=some (.int .i64 0)) 3 (by kernel_rfl) (fun w1 hd=>HSW.out _ (hH8.dr hd)) (fun w1 hd hs=>?_)
    have hHc:=hH8.dr hd;have hGc:=hG7.trans (Grew.dr hd);clear hd hH8 hG7
    refine Yt 0 45 ?_ rfl hs ?_ ?_
    rotate_left
    ·intro wx;go_simp;try with_reducible rfl
    simp only [pt,sA,sS,sZ]
    refine Yd 1 46 ?_ rfl hs ?_ ?_
    rotate_left
    ·rintro wx ⟨s0,s1,s2,s3⟩;go_simp;try with_reducible rfl
    simp only [pt,sA,sS,sZ]
    refine Yt 2 4 ?_ rfl hs ?_ ?_
    rotate_left
    ·intro wx;go_simp;try with_reducible rfl
    simp only [pt,sA,sS,sZ]
    refine Y_late 3 rfl (by kernel_rfl) (by kernel_rfl) (fun K hK=>?_)
    have ⟨s0,s1,s2,s3⟩:=hs
    obtain ⟨r0,r1,r2,r3,f0,f1,f2,f3⟩:=hHc.get4;have rl:=hHc.hlt;have hH9:=Holds.set4 hHc (.int .i64 0) (.int .u64 0) (.int .i64 0) (.int .i64 0);have hg9:=hGc.set4 gh (.int .i64 0) (.int .u64 0) (.int .i64 0) (.int .i64 0);go_simp;clear r0 r1 r2 r3 f0 f1 f2 f3 hHc hGc
    clear s0 s1 s2 s3 hs
    refine hK _ _ ?_;clear hK K
    refine Y_late 4 rfl (by kernel_rfl) (by kernel_rfl) (fun K hK=>?_)
    go_simp
    refine hK _ _ ?_;clear hK K
    refine Y_done (by kernel_rfl) ?_ _
    have HH9:=Lib.hid hH9
    clear hH9
    go_wp2_with fail
    obtain ⟨t0,t1,t2,t3,_⟩:=HH9.out.get4
    rw [HR2.out]
    refine bodyPost_ret (v:=.tuple #[.slice none 0 0,.agg #[.int .i64 0,.int .u64 0,.int .i64 0,.int .i64 0],.nilIface]) (by rw [results_tct rfl];go_simp) rfl ⟨_,([]:HL),_,[],_,rfl,(IsRow.nil _ _),IsErr.none,HCX.out,HH9.out.p,hg9⟩
   |some q =>
    rw [hrf] at HHD HR
    obtain ⟨dq,hdk,hda,hds,hdg⟩:=q
    have HR2:=Lib.hid (show res=(c4,dq,⟨hdk,hda,hds,hdg⟩,0) from HR.out)
    clear hrf
    go_upto_region 8 with fail
    refine HHD.out.mono ?_
    rintro e w5 ⟨vd,Hd5,rfl,hd5,hH6,hg6⟩
    dsimp only at hd5
    have HD5:=Lib.hid hd5
    clear hd5
    simp only [Hd.agg,Hd.cells]
    go_upto_region 8 with fail
    have hH7:=hH6.alloc (.cells #[.int .i64 hdk,.int .u64 hda,.int .i64 hds,.int .i64 hdg] 37)
    have hG7:=(hGX.trans hg6).alloc (.cells #[.int .i64 hdk,.int .u64 hda,.int .i64 hds,.int .i64 hdg] 37)
    clear hH6 hg6 hGX
    generalize w5.alloc (.cells #[.int .i64 hdk,.int .u64 hda,.int .i64 hds,.int .i64 hdg] 37)=w6 at *
    generalize w5.heap.size=g2 at *
    have hH8:Holds w6 ((gh,.cells #[.int .i64 0,.int .u64 0,.int .i64 0,.int .i64 0] 37)::((g2,.cells #[.int .i64 hdk,.int .u64 hda,.int .i64 hds,.int .i64 hdg] 37)::(H++(Hc4++(Hd5++Fr))))):=hH7.p
    clear hH7
    have HSW:=Lib.hid (fun (wx:World) (hX:Holds wx ((gh,.cells #[.int .i64 0,.int .u64 0,.int .i64 0,.int .i64 0] 37)::((g2,.cells #[.int .i64 hdk,.int .u64 hda,.int .i64 hds,.int .i64 hdg] 37)::(H++(Hc4++(Hd5++Fr))))))=>show wx.cell? ⟨g2,0,none⟩=some (.int .i64 hdk)∧wx.cell? ⟨g2,1,none⟩=some (.int .u64 hda)∧wx.cell? ⟨g2,2,none⟩=some (.int .i64 hds)∧wx.cell? ⟨g2,3,none⟩=some (.int .i64 hdg) from ⟨hX.tail.hcell 0,hX.tail.hcell 1,hX.tail.hcell 2,hX.tail.hcell 3⟩)
    refine Y_begin (fun wx=>wx.cell? ⟨g2,0,none⟩=some (.int .i64 hdk)∧wx.cell? ⟨g2,1,none⟩=some (.int .u64 hda)∧wx.cell? ⟨g2,2,none⟩=some (.int .i64 hds)∧wx.cell? ⟨g2,3,none⟩=some (.int .i64 hdg)) 3 (by kernel_rfl) (fun w1 hd=>HSW.out _ (hH8.dr hd)) (fun w1 hd hs=>?_)
    have hHc:=hH8.dr hd;have hGc:=hG7.trans (Grew.dr hd);clear hd hH8 hG7
    refine Yt 0 45 ?_ rfl hs ?_ ?_
    rotate_left
    ·intro wx;go_simp;try with_reducible rfl
    simp only [pt,sA,sS,sZ]
    refine Yd 1 46 ?_ rfl hs ?_ ?_
    rotate_left
    ·rintro wx ⟨s0,s1,s2,s3⟩;go_simp;try with_reducible rfl
    simp only [pt,sA,sS,sZ]
    refine Yt 2 4 ?_ rfl hs ?_ ?_
    rotate_left
    ·intro wx;go_simp;try with_reducible rfl
    simp only [pt,sA,sS,sZ]
    refine Y_late 3 rfl (by kernel_rfl) (by kernel_rfl) (fun K hK=>?_)
    have ⟨s0,s1,s2,s3⟩:=hs
    obtain ⟨r0,r1,r2,r3,f0,f1,f2,f3⟩:=hHc.get4;have rl:=hHc.hlt;have hH9:=Holds.set4 hHc (.int .i64 hdk) (.int .u64 hda) (.int .i64 hds) (.int .i64 hdg);have hg9:=hGc.set4 gh (.int .i64 hdk) (.int .u64 hda) (.int .i64 hds) (.int .i64 hdg);go_simp;clear r0 r1 r2 r3 f0 f1 f2 f3 hHc hGc
    clear s0 s1 s2 s3 hs
    refine hK _ _ ?_;clear hK K
    refine Y_late 4 rfl (by kernel_rfl) (by kernel_rfl) (fun K hK=>?_)
    go_simp
    refine hK _ _ ?_;clear hK K
    refine Y_done (by kernel_rfl) ?_ _
    have HH9:=Lib.hid hH9
    clear hH9
    go_wp2_with fail
    obtain ⟨t0,t1,t2,t3,_⟩:=HH9.out.get4
    rw [HR2.out]
    refine bodyPost_ret (v:=.tuple #[vd,.agg #[.int .i64 hdk,.int .u64 hda,.int .i64 hds,.int .i64 hdg],.nilIface]) (by rw [results_tct rfl];go_simp) rfl ⟨_,Hd5,_,[],_,rfl,HD5.out,IsErr.none,HCX.out,HH9.out.p,hg9⟩
  ·obtain ⟨be4,se4,rfl,rfl⟩:=isErrP8 he4 hc4
   clear he4
   have HR2:=Lib.hid (show res=(c4,[],Hd.zero,code) by rw [HR.out,if_pos hc4])
   obtain ⟨r0,r1,r2,r3,f0,f1,f2,f3⟩:=hHX.get4
   have rl:=hHX.hlt
   have hH4:=Holds.set4 hHX (.int .i64 0) (.int .u64 0) (.int .i64 0) (.int .i64 0)
   have hg4:=hGX.set4 gh (.int .i64 0) (.int .u64 0) (.int .i64 0) (.int .i64 0)
   have HH4:=Lib.hid hH4
   clear hHX hH4 hGX
   go_wp2_with fail
   obtain ⟨t0,t1,t2,t3,_⟩:=HH4.out.get4
   rw [HR2.out]
   refine bodyPost_ret (v:=.tuple #[.slice none 0 0,.agg #[.int .i64 0,.int .u64 0,.int .i64 0,.int .i64 0],.iface 117 (.pointer (some ⟨be4,0,none⟩))]) (by rw [results_tct rfl];go_simp) rfl ⟨_,[],_,_,_,rfl,IsRow.nil _ _,HE.out,HCX.out,HH4.out.p,hg4⟩
 ·obtain ⟨be,se,rfl,rfl⟩:=isErrP8 he hc
  clear he
  have HR2:=Lib.hid (show res=(c,[],Hd.zero,acode) by rw [HR.out,if_pos hc])
  have HCX:=HCH
  have hGX:=hG2
  have hHX:Holds w1 ((gh,.cells #[.int .i64 0,.int .u64 0,.int .i64 0,.int .i64 0] 37)::(H++(Hc++([(be,.cells #[.int .i64 acode,.string se] 119)]++Fr)))):=hH2.p
  clear hH2 hG2
  obtain ⟨r0,r1,r2,r3,f0,f1,f2,f3⟩:=hHX.get4
  have rl:=hHX.hlt
  have hH4:=Holds.set4 hHX (.int .i64 0) (.int .u64 0) (.int .i64 0) (.int .i64 0)
  have hg4:=hGX.set4 gh (.int .i64 0) (.int .u64 0) (.int .i64 0) (.int .i64 0)
  have HH4:=Lib.hid hH4
  clear hHX hH4 hGX
  go_wp2_with fail
  obtain ⟨t0,t1,t2,t3,_⟩:=HH4.out.get4
  rw [HR2.out]
  refine bodyPost_ret (v:=.tuple #[.slice none 0 0,.agg #[.int .i64 0,.int .u64 0,.int .i64 0,.int .i64 0],.iface 117 (.pointer (some ⟨be,0,none⟩))]) (by rw [results_tct rfl];go_simp) rfl ⟨_,[],_,_,_,rfl,IsRow.nil _ _,HE.out,HCX.out,HH4.out.p,hg4⟩
end Go.Proofs.YtoelopghilbfeaaGreat
namespace Go.Proofs.YtoelopghilbfeaaGreat
open Go.RowKit
set_option linter.unusedSimpArgs false
set_option linter.unusedVariables false
variable {b cb g cap:Nat} {mv:Value} {c:CM} {s:SM} {H Hc Fr:HL} {w:World}
theorem HsWf.del {hs:List (Int × Hd)} (h:HsWf hs) (a:Int):HsWf (delS hs a):=by
 unfold delS
 split
 ·rename_i i _
  refine ⟨?_,fun p hp=>h.rng p (List.mem_of_mem_eraseIdx hp)⟩
  exact List.Nodup.sublist ((List.eraseIdx_sublist hs i).map _) h.nodup
 ·exact h
theorem ydrop_len (y:List YB) (k p:Int):(Ydrop y k p).1.length=y.length:=by
 unfold Ydrop
 split
 ·rfl
 ·split
  ·exact yset_len _ _ _
  ·rfl
theorem Yok.drop {P:Nat} {y:List YB} (h:Yok P y) (k n:Int):Yok P (Ydrop y k n).1:=by
 unfold Ydrop
 split
 ·exact h
 ·rename_i x p hx
  have:=h.at_ (Ypg_at hx)
  split
  ·exact h.set (by simpa using this.1) this.2
  ·exact h
def delH (s:SM) (n:Int):SM:={ s with hs:=delS s.hs n }
theorem StAt.del (h:StAt b cb s H):∃ yb mb,(∀ (w:World) (F:HL),Holds w (H++F)→w.cell? ⟨b,0,none⟩=some (.pointer (some ⟨yb,0,none⟩))∧w.cell? ⟨b,1,none⟩=some (.pointer (some ⟨cb,0,none⟩)) ∧
  w.cell? ⟨b,2,none⟩=some (.int .i64 (s.B:Int))∧w.cell? ⟨b,3,none⟩=some (.int .i64 (s.P:Int))∧w.cell? ⟨b,4,none⟩=some (.int .i64 (s.Z:Int))∧w.cell? ⟨b,5,none⟩=some (.map (some mb))∧w.cell? ⟨b,6,none⟩=some (.int .i64 s.op)) ∧
  ∀ (a:Int) (w:World) (F:HL),Holds w (H++F)→0≤a→a≤1000000→∃ w' H',(∀ ty,(Builtin.delete_ #[94,3] ty #[.map (some mb),.int .i64 a]).run Tryz.prog w=.ok (.tuple #[]) w')∧StAt b cb (delH s a) H'∧Holds w' (H'++F)∧Grew w w':=by
 obtain ⟨yb,mb,es,clock,Hy,hy,hok,hst,hwf,hpl,hop,hyl,rfl⟩:=h
 refine ⟨yb,mb,fun w F hX=>⟨hX.hcell 0,hX.hcell 1,hX.hcell 2,hX.hcell 3,hX.hcell 4,hX.hcell 5,hX.hcell 6⟩,fun a w F hX h0 h1=>?_⟩
 have hb:w.heap[mb]?=some (.map es clock):=hX.get (by simp)
 obtain ⟨es',hrun,hst',hok'⟩:=hs_del hb hok hwf hst h0 h1
 have h2:Holds w ((mb,.map es clock)::((b,stO yb cb mb s)::(Hy++F))):=hX.p
 have h3:=h2.setBlkS (.map es' clock)
 refine ⟨_,(b,stO yb cb mb (delH s a))::((mb,.map es' clock)::Hy),hrun,⟨yb,mb,es',clock,Hy,hy,hok',hst',hwf.del a,hpl,hop,hyl,rfl⟩,?_,(Grew.refl w).setBlkS mb (.map es' clock)⟩
 show Holds _ ((b,stO yb cb mb s)::((mb,.map es' clock)::(Hy++F)))
 exact Holds.swap (A:=[_]) (B:=[_]) h3
def dropS (s:SM) (n:Int):SM × Int :=
 if (askedS s n).2.2≠0 then (s,(askedS s n).2.2) else ({ delH s n with y:=(Ydrop s.y (askedS s n).1 (askedS s n).2.1).1 },(Ydrop s.y (askedS s n).1 (askedS s n).2.1).2)
theorem askedS_bd {s:SM} {n:Int} (hp:planB s.B s.P s.Z=true) (h:(askedS s n).2.2=0):0≤n∧n≤1000000:=by
 have hmb:=plan_bd hp
 have hmul:(s.B:Int) * s.P≤256:=by
  have:=Int.mul_le_mul (show (s.B:Int)≤32 by omega) (show (s.P:Int)≤8 by omega) (by omega) (by omega)
  omega
 unfold askedS at h
 split at h
 ·exact absurd h (by decide)
 ·rename_i hb
  have:=placeI_bd (B:=s.B) (P:=s.P) (n:=n) (by omega)
  omega
set_option maxRecDepth 20000 in
set_option maxHeartbeats 4000000 in
theorem drop_any (n:Int) (h:StAt b cb s H) (hH:Holds w (H++Fr)):Calls Tryz.prog 17 #[.pointer (some ⟨b,0,none⟩),.int .i64 n] w (RetSY b cb (dropS s n).1 (dropS s n).2 w Fr):=by
 have HA:=Lib.hid (asked_any n h hH)
 have HST:=Lib.hid h
 have HBD:=Lib.hid (fun hh=>askedS_bd (n:=n) h.plan hh)
 have HR:=Lib.hid (show dropS s n=if (askedS s n).2.2≠0 then (s,(askedS s n).2.2) else ({ delH s n with y:=(Ydrop s.y (askedS s n).1 (askedS s n).2.1).1 },(Ydrop s.y (askedS s n).1 (askedS s n).2.1).2) from rfl)
 generalize dropS s n=res at *
 generalize askedS s n=ak at *
 obtain ⟨ab,ap,acode⟩:=ak
 dsimp only at *
 have k1:=err_ne
 have k2:=nil_ne
 clear hH h
 go_enter Tryz.func17,Tryz.ntmps17
 go_upto_region 2 with fail
 refine HA.out.mono ?_
 rintro e w1 ⟨ve,He,rfl,he,hH2,hg2⟩
 dsimp only at he
 have HE:=Lib.hid he
 clear HA
 by_cases hc:acode=0
 ·subst hc
  obtain ⟨rfl,rfl⟩:=isErr0 he
  clear he
  rw [if_neg (by simp)] at HR
  obtain ⟨hn0,hn1⟩:=HBD.out rfl
  have hH3:Holds w1 (H++Fr):=hH2
  obtain ⟨yb,mb,hcl,hdel⟩:=HST.out.del
  obtain ⟨x0,x1,x2,x3,x4,x5,x6⟩:=hcl w1 _ hH3
  obtain ⟨w2,H2,hrun,hs2,hH4,hg4⟩:=hdel n w1 _ hH3 hn0 hn1
  have HS2:=Lib.hid hs2
  have hG4:=hg2.trans hg4
  clear hH2 hH3 hcl hdel hs2 hg2 hg4 hn0 hn1
  go_upto_region 5 with fail
  clear x0 x1 x2 x3 x4 x5 x6 hrun
  obtain ⟨yb3,mb3,hcl3,hop3⟩:=HS2.out.yard
  obtain ⟨x0,x1,x2,x3,x4,x5,x6⟩:=hcl3 w2 _ hH4
  have HD:=Lib.hid (hop3 _ _ _ (fun Hy w F hy hH=>ydrop_any ab ap hy hH) (ydrop_len _ _ _) w2 _ hH4)
  clear hcl3 hop3 hH4
  go_wp2_with fail
  refine HD.out.mono ?_
  rintro e w3 ⟨ve3,He3,H3,rfl,he3,hs3,hH5,hg5⟩
  have HE3:=Lib.hid he3
  have HS3:=Lib.hid hs3
  have HH5:=Lib.hid hH5
  clear he3 hs3 hH5 HD
  go_wp2_with fail
  go_ret
  rw [HR.out]
  exact ⟨_,_,H3,rfl,HE3.out,HS3.out,HH5.out,hG4.trans hg5⟩
 ·obtain ⟨be,se,rfl,rfl⟩:=isErrP8 he hc
  clear he
  rw [if_pos hc] at HR
  have HH2:=Lib.hid hH2
  clear hH2
  go_wp2_with fail
  go_ret
  rw [HR.out]
  exact ⟨_,_,H,rfl,HE.out,HST.out,HH2.out.p,hg2⟩
end Go.Proofs.YtoelopghilbfeaaGreat
namespace Go.Proofs.YtoelopghilbfeaaGreat
open Go.RowKit
set_option linter.unusedSimpArgs false
set_option linter.unusedVariables false
variable {b cb g cap:Nat} {mv:Value} {c:CM} {s:SM} {H Hc Fr:HL} {w:World}
theorem mem_yneeded {y:List YB} {k p:Int}:p∈Yneeded y k↔∃ (x:YB) (i:Nat),Yat y k=some x∧p=i∧i<x.pages.length∧(x.pages.getD i (false,false)).1=true:=by
 unfold Yneeded
 cases h:Yat y k with
 |none=>simp
 |some x =>
  unfold neededTo
  simp only [List.mem_map,List.mem_filter,List.mem_range]
  constructor
  ·rintro ⟨i,⟨h1,h2⟩,rfl⟩
   exact ⟨x,i,rfl,rfl,h1,h2⟩
  ·rintro ⟨x',i,hx,rfl,h1,h2⟩
   injection hx with hx
   subst hx
   exact ⟨i,⟨h1,h2⟩,rfl⟩
theorem yneeded_len {P:Nat} {y:List YB} (h:Yok P y) (k:Int):(Yneeded y k).length≤P:=by
 unfold Yneeded
 cases hx:Yat y k with
 |none=>simp
 |some x =>
  unfold neededTo
  have h1:=(h.at_ hx).1
  have:=List.length_filter_le (fun i=>(x.pages.getD i (false,false)).1) (List.range x.pages.length)
  simp at this ⊢
  omega
def pagesOf (s:SM) (k:Int):List Int:=(Yneeded s.y k).map fun p=>k * s.P+p
def BkTo (L:List Int) (f:Int→Int) (w:World) (F:HL) (out i:Value) (wr:World):Prop :=
 ∃ (j:Nat) (Ho:HL),j≤L.length∧i=.int .i64 j∧IsNums out ((L.take j).map f) Ho∧Holds wr (Ho++F)∧Grew w wr
set_option maxRecDepth 20000 in
set_option maxHeartbeats 4000000 in
theorem block_any (k:Int) (h:StAt b cb s H) (hH:Holds w (H++Fr)) (hy:Yok s.P s.y) (hk0:0≤k) (hk1:k<s.B):Calls Tryz.prog 33 #[.pointer (some ⟨b,0,none⟩),.int .i64 k] w (RetNew (fun v H'=>IsNums v (pagesOf s k) H') w (H++Fr)):=by
 obtain ⟨yb,mb,hcl,hyn⟩:=h.needed
 have HCL:=Lib.hid hcl
 have HYN:=Lib.hid (hyn k w _ hH)
 have HPB:=Lib.hid (plan_bd h.plan)
 have HPG:=Lib.hid (fun (p:Int) (wx:World) (F:HL) (hx:Holds wx F) (h1:0≤p) (h2:p<s.P)=>page_any (s.B:Int) s.P s.Z k p wx F hx h.plan hk0 hk1 h1 h2)
 have HEL:Hid (∀ p∈Yneeded s.y k,0≤p∧p<(s.P:Int)):=Lib.hid (fun p hp=>by
  obtain ⟨x,i,hx,rfl,hi,_⟩:=mem_yneeded.1 hp
  have:=(hy.at_ hx).1
  omega)
 have hL:=yneeded_len hy k
 have HRE:=Lib.hid (show pagesOf s k=(Yneeded s.y k).map fun p=>k * s.P+p from rfl)
 generalize pagesOf s k=res at *
 generalize Yneeded s.y k=L at *
 have hl8:L.length≤8:=by have:=HPB.out;omega
 obtain ⟨x0,x1,x2,x3,x4,x5,x6⟩:=hcl w _ hH
 clear h hcl hyn hH hy hL hk0 hk1
 go_enter Tryz.func33,Tryz.ntmps33
 go_upto_region 5 with fail
 refine HYN.out.mono ?_
 rintro e w1 ⟨v,Hl,rfl,hv,hH1,hg1⟩
 have HVL:=Lib.hid hv
 obtain ⟨Al,cl,rfl⟩:=hv.val
 clear hv HYN x0 x1 x2 x3 x4 x5 x6
 go_wp2_with fail
 go_loopw [5,17] (fun out i wr=>BkTo L (fun p=>k * s.P+p) w (Hl++(H++Fr)) out i wr) (fun _ i _=>L.length - (intOf i).toNat)
 case atStart=>exact ⟨0,[],by omega,rfl,IsRow.nil _ _,hH1,hg1⟩
 case round =>
  clear hH1 hg1
  obtain ⟨j,Ho,hj,rfl,ho,hHr,hgr⟩:=hrel
  have HOU:=Lib.hid ho
  clear ho
  by_cases hlt:j<L.length
  ·have hp:Holds wr (Hl++(Ho++(H++Fr))):=hHr.p
   obtain ⟨_,A,c9,hv1,hq1,hq2,ha⟩:=HVL.out.at_ hp
   injection hv1 with hv1 _ hv3
   subst hv1 hv3
   obtain ⟨bl,ol,rfl,hcl⟩:=ha (by omega)
   have hc1:=hcl j (.int .i64 L[j]) (by simp [hlt])
   clear hcl
   have HX:=Lib.hid (HEL.out L[j] (List.getElem_mem hlt))
   have HTK:=Lib.hid (show (L.take (j+1)).map (fun p=>k * (s.P:Int)+p)=(L.take j).map (fun p=>k * (s.P:Int)+p)++[k * (s.P:Int)+L[j]] by rw [List.take_succ_eq_append_getElem hlt,List.map_append];rfl)
   obtain ⟨p,hpe⟩:∃ p,p=L[j]:=⟨_,rfl⟩
   rw [← hpe] at hc1 HX HTK
   obtain ⟨x0,x1,x2,x3,x4,x5,x6⟩:=HCL.out wr (Ho++(Hl++Fr)) (hHr.p)
   have HP1:=Lib.hid (HPG.out p wr _ hHr HX.out.1 HX.out.2)
   have hjn:(j:Int)<(L.length:Int):=by omega
   clear hpe ha hp hHr
   go_upto_region 8 with fail
   refine HP1.out.mono ?_
   rintro e w2 ⟨rfl,hH2,hg2⟩
   have hG2:=hgr.trans hg2
   clear hgr hg2 x0 x1 x2 x3 x4 x5 x6 HP1
   generalize k * (s.P:Int)+p=pn at *
   have HLN:=Lib.hid (show ((L.take j).map (fun p=>k * (s.P:Int)+p)).length≤8 by simp;omega)
   generalize (L.take j).map (fun p=>k * (s.P:Int)+p)=ot at *
   go_wp2_with (at_builtin;refine wpList_append_T tInts (by rfl) (.tmp 21) (.tmp 29) (by rfl) (by rfl) (by rfl) HOU.out (hH2.alloc' _) ReadsAt.one (by simp [Value.oneCell']) (by have:=HLN.out;simp only [maxLen];omega) (by have:=HLN.out;omega) ?_;intro A' c' w' H' hrow hH3 hg3)
   go_roundw
   case rel =>
    refine ⟨j+1,H',by omega,by go_num,?_,hH3,(hG2.alloc _).trans hg3⟩
    rw [HTK.out]
    unfold IsNums
    rw [List.length_append,List.map_append]
    exact hrow
   case measure=>simp only [intOf];omega
  ·obtain rfl:j=L.length:=by omega
   rw [List.take_length] at HOU
   have hjn:¬ (L.length:Int)<(L.length:Int):=by omega
   go_wp2_with fail
   go_ret
   rw [HRE.out]
   exact ⟨_,Ho,rfl,HOU.out,hHr.p,hgr⟩
end Go.Proofs.YtoelopghilbfeaaGreat
namespace Go.Proofs.YtoelopghilbfeaaGreat
open Go.RowKit
set_option linter.unusedSimpArgs false
set_option linter.unusedVariables false
variable {b cb g cap:Nat} {mv:Value} {c:CM} {s:SM} {H Hc Fr:HL} {w:World}
def neededTo' (s:SM) (k:Nat):List Int:=((List.range k).map fun i:Nat=>pagesOf s i).flatten
def neededS (s:SM):List Int:=neededTo' s s.B
theorem neededTo'_succ (s:SM) (k:Nat):neededTo' s (k+1)=neededTo' s k++pagesOf s k:=by
 unfold neededTo'
 rw [List.range_succ,List.map_append,List.flatten_append]
 simp
theorem pagesOf_len {s:SM} (h:Yok s.P s.y) (k:Int):(pagesOf s k).length≤s.P:=by
 unfold pagesOf
 rw [List.length_map]
 exact yneeded_len h k
theorem neededTo'_len {s:SM} (h:Yok s.P s.y) (k:Nat):(neededTo' s k).length≤k * s.P:=by
 induction k with
 |zero=>simp [neededTo']
 |succ k ih =>
  rw [neededTo'_succ,List.length_append,Nat.succ_mul]
  have:=pagesOf_len h k
  omega
def NdsTo (f:Nat→List Int) (n:Nat) (w:World) (F:HL) (out i:Value) (wr:World):Prop :=
 ∃ (j:Nat) (Ho:HL),j≤n∧i=.int .i64 j∧IsNums out (f j) Ho∧Holds wr (Ho++F)∧Grew w wr
set_option maxRecDepth 20000 in
theorem needed_nil (w:World):Calls Tryz.prog 30 #[.pointer none] w (fun e w'=>e=.returned (.slice none 0 0)∧w=w'):=by
 go_enter Tryz.func30,Tryz.ntmps30
 go_wp2_with fail
 go_ret
 exact ⟨rfl,rfl⟩
set_option maxRecDepth 20000 in
theorem stchip_any (h:StAt b cb s H) (hH:Holds w (H++Fr)):Calls Tryz.prog 34 #[.pointer (some ⟨b,0,none⟩)] w (fun e w'=>e=.returned (.pointer (some ⟨cb,0,none⟩))∧w=w'):=by
 obtain ⟨yb,mb,hcl⟩:=h.cells
 obtain ⟨x0,x1,x2,x3,x4,x5,x6⟩:=hcl w _ hH
 clear h hH hcl
 go_enter Tryz.func34,Tryz.ntmps34
 go_wp2_with fail
 go_ret
 exact ⟨rfl,rfl⟩
set_option maxRecDepth 20000 in
set_option maxHeartbeats 4000000 in
theorem needed_any (h:StAt b cb s H) (hH:Holds w (H++Fr)) (hy:Yok s.P s.y):Calls Tryz.prog 30 #[.pointer (some ⟨b,0,none⟩)] w (RetNew (fun v H'=>IsNums v (neededS s) H') w (H++Fr)):=by
 obtain ⟨yb,mb,hcl⟩:=h.cells
 have HCL:=Lib.hid hcl
 have hpb:=plan_bd h.plan
 have HBK:=Lib.hid (fun (k:Int) (wx:World) (F:HL) (hx:Holds wx (H++F)) (h1:0≤k) (h2:k<s.B)=>block_any k h hx hy h1 h2)
 have HLN:=Lib.hid (fun (k:Nat) (hk:k≤s.B)=>show (neededTo' s k).length≤256 by
  have h1:=neededTo'_len hy k
  have h2:k * s.P≤32 * 8:=Nat.mul_le_mul (by omega) (by omega)
  omega)
 have HPL:=Lib.hid (fun k=>show (pagesOf s k).length≤8 by have:=pagesOf_len hy k;omega)
 have HRE:=Lib.hid (show neededS s=neededTo' s s.B from rfl)
 generalize neededS s=res at *
 obtain ⟨n,hn⟩:∃ n,n=s.B:=⟨_,rfl⟩
 rw [← hn] at HRE HLN HBK hpb
 obtain ⟨x0,x1,x2,x3,x4,x5,x6⟩:=hcl w _ hH
 have hg0:=Grew.refl w
 rw [← hn] at x2
 have HN:=Lib.hid hn
 clear h hcl hy hn
 go_enter Tryz.func30,Tryz.ntmps30
 go_wp2_with fail
 go_loopw [3,12] (fun out i wr=>NdsTo (neededTo' s) n w (H++Fr) out i wr) (fun _ i _=>n - (intOf i).toNat)
 case atStart=>exact ⟨0,[],by omega,rfl,IsRow.nil _ _,hH,hg0⟩
 case round =>
  clear hH hg0 x0 x1 x2 x3 x4 x5 x6
  obtain ⟨k,Ho,hk,rfl,ho,hHr,hgr⟩:=hrel
  have HOU:=Lib.hid ho
  clear ho
  by_cases hlt:k<n
  ·have hkn:(k:Int)<(n:Int):=by omega
   have HB1:=Lib.hid (HBK.out (k:Int) wr (Ho++Fr) (hHr.p) (by omega) (by exact_mod_cast hlt))
   have HSU:=Lib.hid (neededTo'_succ s k)
   have HL1:=Lib.hid (HLN.out (k+1) (by omega))
   rw [HSU.out,List.length_append] at HL1
   have HP1:=Lib.hid (HPL.out (k:Int))
   clear hHr
   generalize neededTo' s k=ot at *
   generalize pagesOf s (k:Int)=pg at *
   go_upto_region 8 with fail
   refine HB1.out.mono ?_
   rintro e w2 ⟨v2,H2,rfl,hv2,hH2,hg2⟩
   have HV2:=Lib.hid hv2
   have hH3:Holds w2 (Ho++(H2++(H++Fr))):=hH2.p
   have HSR:=Lib.hid (hv2.at_ hH2)
   have hG2:=hgr.trans hg2
   clear hv2 hH2 hg2 hgr HB1
   go_wp2_with (at_builtin;refine wpList_append_T tInts (by rfl) (.tmp 15) (.tmp 18) (by rfl) (by rfl) (by rfl) HOU.out hH3 HSR.out (by intro x hx;obtain ⟨z,_,rfl⟩:=List.mem_map.1 hx;simp [Value.oneCell']) (by have:=HL1.out;simp only [maxLen];omega) (by have:=HL1.out;omega) ?_;intro A' c' w' H' hrow hH4 hg4)
   go_roundw
   case rel =>
    refine ⟨k+1,H',by omega,by go_num,?_,hH4.p,hG2.trans hg4⟩
    rw [HSU.out]
    unfold IsNums
    rw [List.length_append,List.map_append]
    exact hrow
   case measure=>simp only [intOf];omega
  ·obtain rfl:k=n:=by omega
   have hkn:¬ (k:Int)<(k:Int):=by omega
   have HHR:=Lib.hid hHr
   clear hHr
   go_wp2_with fail
   go_ret
   rw [HRE.out]
   exact ⟨_,Ho,rfl,HOU.out,HHR.out,hgr⟩
end Go.Proofs.YtoelopghilbfeaaGreat
namespace Go.Proofs.YtoelopghilbfeaaGreat
open Go.RowKit
set_option linter.unusedSimpArgs false
set_option linter.unusedVariables false
variable {b cb g cap:Nat} {mv:Value} {c:CM} {s:SM} {H Hc Fr:HL} {w:World}
def sealB (s:SM) (c:CM) (k:Nat):Bool:=!c.markOf k && (decide (0<(Yneeded s.y k).length) && (decide ((k:Int)≠s.op) || decide (leftI s c=0)))
end Go.Proofs.YtoelopghilbfeaaGreat
namespace Go.Proofs.YtoelopghilbfeaaGreat
open Go.RowKit
set_option linter.unusedSimpArgs false
set_option linter.unusedVariables false
variable {b cb g cap:Nat} {mv:Value} {c:CM} {s:SM} {H Hc Fr:HL} {w:World}
def numsTo (k:Nat):List Int:=(List.range k).map fun i:Nat=>(i:Int)
theorem numsTo_succ (k:Nat):numsTo (k+1)=numsTo k++[(k:Int)]:=by
 unfold numsTo
 rw [List.range_succ,List.map_append]
 rfl
theorem numsTo_len (k:Nat):(numsTo k).length=k:=by simp [numsTo]
set_option maxRecDepth 20000 in
set_option maxHeartbeats 2000000 in
theorem blocks_any (h:StAt b cb s H) (hH:Holds w (H++Fr)):Calls Tryz.prog 59 #[.pointer (some ⟨b,0,none⟩)] w (RetNew (fun v H'=>IsNums v (numsTo s.B) H') w (H++Fr)):=by
 have hpb:=plan_bd h.plan
 obtain ⟨yb,mb,hcl⟩:=h.cells
 obtain ⟨x0,x1,x2,x3,x4,x5,x6⟩:=hcl w _ hH
 have hg0:=Grew.refl w
 generalize s.B=n at *
 clear h hcl
 go_enter Tryz.func59,Tryz.ntmps59
 go_wp2_with fail
 go_loopw [3,10] (fun out i wr=>NdsTo numsTo n w (H++Fr) out i wr) (fun _ i _=>n - (intOf i).toNat)
 case atStart=>exact ⟨0,[],by omega,rfl,IsRow.nil _ _,hH,hg0⟩
 case round =>
  clear hH hg0 x0 x1 x2 x3 x4 x5 x6
  obtain ⟨k,Ho,hk,rfl,ho,hHr,hgr⟩:=hrel
  have HOU:=Lib.hid ho
  clear ho
  by_cases hlt:k<n
  ·have hkn:(k:Int)<(n:Int):=by omega
   have HSU:=Lib.hid (numsTo_succ k)
   have HLN:=Lib.hid (show (numsTo k).length≤32 by rw [numsTo_len];omega)
   generalize numsTo k=ot at *
   go_wp2_with (at_builtin;refine wpList_append_T tInts (by rfl) (.tmp 13) (.tmp 15) (by rfl) (by rfl) (by rfl) HOU.out (hHr.alloc' _) ReadsAt.one (by simp [Value.oneCell']) (by have:=HLN.out;simp only [maxLen];omega) (by have:=HLN.out;omega) ?_;intro A' c' w' H' hrow hH9 hg9)
   go_roundw
   case rel =>
    refine ⟨k+1,H',by omega,by go_num,?_,hH9,(hgr.alloc _).trans hg9⟩
    rw [HSU.out]
    unfold IsNums
    rw [List.length_append,List.map_append]
    exact hrow
   case measure=>simp only [intOf];omega
  ·obtain rfl:k=n:=by omega
   have hkn:¬ (k:Int)<(k:Int):=by omega
   have HHR:=Lib.hid hHr
   clear hHr
   go_wp2_with fail
   go_ret
   exact ⟨_,Ho,rfl,HOU.out,HHR.out,hgr⟩
def roomS (s:SM) (c:CM):Int:=leftI s c+s.P * (emptyL s c).length
set_option maxRecDepth 20000 in
set_option maxHeartbeats 4000000 in
theorem room_any (h:StAt b cb s H) (hch:ChipAt cb g cap mv c Hc) (hH:Holds w (H++(Hc++Fr))) (hB:s.B<20):Calls Tryz.prog 29 #[.pointer (some ⟨b,0,none⟩)] w (RetFr (.int .i64 (roomS s c)) w (H++(Hc++Fr))):=by
 have hpb:=plan_bd h.plan
 obtain ⟨yb,mb,hcl⟩:=h.cells
 have HCL:=Lib.hid hcl
 have HLF:=Lib.hid (fun (wx:World) (hx:Holds wx (H++(Hc++Fr)))=>left_any h hch hx)
 have HEM:=Lib.hid (fun (wx:World) (hx:Holds wx (H++(Hc++Fr)))=>empty_any h hch hx hB)
 have hel:=emptyL_len s c
 have hlf:-8≤leftI s c∧leftI s c≤8:=by
  have:=next_bd hch.cok s.op
  unfold leftI
  split <;> omega
 have hmb:0≤(s.P:Int) * (emptyL s c).length∧(s.P:Int) * (emptyL s c).length≤256:=by
  constructor
  ·exact Int.mul_nonneg (by omega) (by omega)
  ·have:=Int.mul_le_mul (show (s.P:Int)≤8 by omega) (show ((emptyL s c).length:Int)≤32 by omega) (by omega) (by omega)
   omega
 have HRE:=Lib.hid (show roomS s c=leftI s c+s.P * (emptyL s c).length from rfl)
 generalize roomS s c=res at *
 generalize leftI s c=lz at *
 generalize emptyL s c=L at *
 have hw1:IntKind.i64.wrap ((s.P:Int) * (L.length:Int))=(s.P:Int) * (L.length:Int):=wrap_i64_id (by omega) (by omega)
 have hw2:IntKind.i64.wrap (lz+(s.P:Int) * (L.length:Int))=lz+(s.P:Int) * (L.length:Int):=wrap_i64_id (by omega) (by omega)
 have hw3:wrap64 ((s.P:Int) * (L.length:Int))=(s.P:Int) * (L.length:Int):=by unfold wrap64;omega
 have hw4:wrap64 (lz+(s.P:Int) * (L.length:Int))=lz+(s.P:Int) * (L.length:Int):=by unfold wrap64;omega
 have hg0:=Grew.refl w
 clear h hch hcl hB
 go_enter Tryz.func29,Tryz.ntmps29
 go_upto_region 3 with fail
 refine Z_begin (fun wx=>wx.cell? ⟨b,2,none⟩=some (.int .i64 (s.B:Int))∧wx.cell? ⟨b,3,none⟩=some (.int .i64 (s.P:Int))) 13 (by kernel_rfl) (fun w1 hd=>⟨(HCL.out _ _ (hH.dr hd)).2.2.1,(HCL.out _ _ (hH.dr hd)).2.2.2.1⟩) (fun w1 hd hs=>?_)
 have hHc:=hH.dr hd;have hGc:=hg0.trans (Grew.dr hd);clear hd hH hg0
 refine Zt 0 5 ?_ rfl hs ?_ ?_
 rotate_left
 ·rintro wx ⟨s2,s3⟩;go_simp;try with_reducible rfl
 simp only [pt,sA,sS,sZ]
 refine Zt 2 7 ?_ rfl hs ?_ ?_
 rotate_left
 ·rintro wx ⟨s2,s3⟩;go_simp;try with_reducible rfl
 simp only [pt,sA,sS,sZ]
 refine Zt 3 8 ?_ rfl hs ?_ ?_
 rotate_left
 ·rintro wx ⟨s2,s3⟩;go_simp;try with_reducible rfl
 simp only [pt,sA,sS,sZ]
 refine Zt 4 9 ?_ rfl hs ?_ ?_
 rotate_left
 ·rintro wx ⟨s2,s3⟩;go_simp;try with_reducible rfl
 simp only [pt,sA,sS,sZ]
 refine Zt 5 10 ?_ rfl hs ?_ ?_
 rotate_left
 ·rintro wx ⟨s2,s3⟩;go_simp;try with_reducible rfl
 simp only [pt,sA,sS,sZ]
 refine Zt 6 11 ?_ rfl hs ?_ ?_
 rotate_left
 ·rintro wx ⟨s2,s3⟩;go_simp;try with_reducible rfl
 simp only [pt,sA,sS,sZ]
 refine Zt 7 12 ?_ rfl hs ?_ ?_
 rotate_left
 ·rintro wx ⟨s2,s3⟩;go_simp;try with_reducible rfl
 simp only [pt,sA,sS,sZ]
 refine Z_mid 1 rfl (by kernel_rfl) (fun K hK=>?_)
 have ⟨s2,s3⟩:=hs
 go_simp;refine (HLF.out w1 hHc).mono ?_;rintro e w4 ⟨rfl,q,rfl⟩;have hHd:=hHc.drewN q;have hGd:=hGc.drewN q;clear hHc hGc;generalize w1.drewN q=w4 at *
 clear s2 s3
 refine hK _ _ (⟨(HCL.out _ _ (hHd)).2.2.1,(HCL.out _ _ (hHd)).2.2.2.1⟩) (fun hs2=>?_);clear hK K hs;have hs:=hs2;clear hs2
 refine Z_mid 8 rfl (by kernel_rfl) (fun K hK=>?_)
 have ⟨s2,s3⟩:=hs
 go_simp;refine (HEM.out w4 hHd).mono ?_;rintro e w5 ⟨v5,H5,rfl,hv5,hHe,hge⟩;have hHf:Holds w5 (H++(Hc++Fr)):=hHe.right;have hGf:=hGd.trans hge;obtain ⟨A5,c5,rfl⟩:=hv5.val;clear hHd hGd hv5 hHe hge
 clear s2 s3
 refine hK _ _ (⟨(HCL.out _ _ (hHf)).2.2.1,(HCL.out _ _ (hHf)).2.2.2.1⟩) (fun hs2=>?_);clear hK K hs;have hs:=hs2;clear hs2
 refine Zt 9 14 ?_ rfl hs ?_ ?_
 rotate_left
 ·rintro wx ⟨s2,s3⟩;go_simp;try with_reducible rfl
 simp only [pt,sA,sS,sZ]
 refine Zt 10 15 ?_ rfl hs ?_ ?_
 rotate_left
 ·rintro wx ⟨s2,s3⟩;go_simp;try with_reducible rfl
 simp only [pt,sA,sS,sZ]
 refine Zt 11 16 ?_ rfl hs ?_ ?_
 rotate_left
 ·rintro wx ⟨s2,s3⟩;go_simp;try with_reducible rfl
 simp only [pt,sA,sS,sZ]
 refine Zt 12 2 ?_ rfl hs ?_ ?_
 rotate_left
 ·rintro wx ⟨s2,s3⟩;go_simp;try with_reducible rfl
 simp only [pt,sA,sS,sZ]
 refine Z_done (by kernel_rfl) ?_ _
 clear hs hw1 hw2 hw3 hw4 hmb hlf
 generalize lz+(s.P:Int) * (L.length:Int)=rr at *
 go_wp2_with fail
 go_ret
 rw [HRE.out]
 exact ⟨rfl,hHf,hGf⟩
end Go.Proofs.YtoelopghilbfeaaGreat
namespace Go.Proofs.YtoelopghilbfeaaGreat
open Go.RowKit
set_option linter.unusedSimpArgs false
set_option linter.unusedVariables false
variable {b cb g cap:Nat} {mv:Value} {c:CM} {s:SM} {H Hc Fr:HL} {w:World}
set_option maxRecDepth 20000 in
theorem bad1_any (k:Int) (p:Nat) (h:StAt b cb s H) (hch:ChipAt cb g cap mv c Hc) (hH:Holds w (H++(Hc++Fr))) (hp:w.cell? ⟨p,0,none⟩=some (.pointer (some ⟨b,0,none⟩))) :
  Calls Tryz.prog 60 #[.int .i64 k,.pointer (some ⟨p,0,none⟩)] w fun e w'=>e=.returned (.bool (!c.markOf k))∧w=w':=by
 obtain ⟨yb,mb,hcl⟩:=h.cells
 obtain ⟨x0,x1,x2,x3,x4,x5,x6⟩:=hcl w _ hH
 have HM:=Lib.hid (nmarked_any k hch hH.right)
 clear h hch hH hcl
 go_enter Tryz.func60,Tryz.ntmps60
 go_wp2_with fail
 refine HM.out.mono ?_
 rintro e w' ⟨rfl,rfl⟩
 go_wp2_with fail
 go_ret
 exact ⟨rfl,rfl⟩
def idxI (f:Int→Bool) (L:List Int):Int:=match L.findIdx? f with | some i=>(i:Int) | none=>-1
def IxTo (f:Int→Bool) (L:List Int) (w:World) (i:Value) (wr:World):Prop:=∃ j:Nat,j≤L.length∧i=.int .i64 j∧(∀ q (hq:q<L.length),q<j→f L[q]=false)∧wr=w
set_option maxRecDepth 20000 in
set_option maxHeartbeats 2000000 in
theorem inidxF_any (p:Nat) (v:Value) (L:List Int) (w:World) (f:Int→Bool) (hf:∀ x,Calls Tryz.prog 60 #[.int .i64 x,.pointer (some ⟨p,0,none⟩)] w fun e w'=>e=.returned (.bool (f x))∧w=w') (hv:NumsAt w v L) (hl:L.length≤1000) :
  Calls Tryz.prog 101 #[v,.func (.func 60) #[] #[.pointer (some ⟨p,0,none⟩)]] w fun e w'=>e=.returned (.int .i64 (idxI f L))∧w=w':=by
 obtain ⟨_,A,cp,rfl,hc1,hc2,ha⟩:=hv
 have HF:=Lib.hid hf
 have HA:=Lib.hid ha
 clear hf ha
 go_enter Tryz.func101,Tryz.ntmps101
 go_wp2_with fail
 go_loopw [8] (fun i wr=>IxTo f L w i wr) (fun i _=>L.length - (intOf i).toNat)
 case atStart=>exact ⟨0,by omega,rfl,fun q _ h=>by omega,rfl⟩
 case round =>
  obtain ⟨j,hj,rfl,hno,hw⟩:=hrel
  subst hw
  have HNO:=Lib.hid hno
  clear hno
  by_cases hlt:j<L.length
  ·obtain ⟨bl,ol,rfl,hcl⟩:=HA.out (by omega)
   have hc1:=hcl j (.int .i64 L[j]) (by simp [hlt])
   clear hcl
   have HF1:=Lib.hid (HF.out L[j])
   have hjn:(j:Int)<(L.length:Int):=by omega
   obtain ⟨x,hx⟩:∃ x,x=L[j]:=⟨_,rfl⟩
   rw [← hx] at hc1 HF1
   have HX:=Lib.hid hx
   clear hx
   obtain ⟨bb,hbb⟩:∃ bb,bb=f x:=⟨_,rfl⟩
   rw [← hbb] at HF1
   have HB:=Lib.hid hbb
   clear hbb
   cases bb with
   |true =>
    have HI:=Lib.hid (show idxI f L=(j:Int) by
     unfold idxI
     have h:L.findIdx? f=some j:=by
      rw [List.findIdx?_eq_some_iff_getElem]
      exact ⟨hlt,by rw [← HX.out,← HB.out],fun q hq=>by rw [HNO.out q (by omega) hq];simp⟩
     rw [h])
    go_wp2_with fail
    refine HF1.out.mono ?_
    rintro e w2 ⟨rfl,rfl⟩
    go_wp2_with fail
    go_ret
    rw [HI.out]
    exact ⟨rfl,rfl⟩
   |false =>
    go_wp2_with fail
    refine HF1.out.mono ?_
    rintro e w2 ⟨rfl,rfl⟩
    go_wp2_with fail
    go_roundw
    case rel =>
     refine ⟨j+1,by omega,by go_num,fun q hq h=>?_,rfl⟩
     rcases Nat.lt_or_ge q j with h9 | h9
     ·exact HNO.out q hq h9
     ·obtain rfl:q=j:=by omega
      rw [← HX.out];exact HB.out.symm
    case measure=>simp only [intOf];omega
  ·obtain rfl:j=L.length:=by omega
   have hjn:¬ (L.length:Int)<(L.length:Int):=by omega
   have HI:=Lib.hid (show idxI f L=-1 by
    unfold idxI
    have h:L.findIdx? f=none:=by
     rw [List.findIdx?_eq_none_iff]
     intro x hx
     obtain ⟨q,hq,rfl⟩:=List.mem_iff_getElem.1 hx
     simpa using HNO.out q hq hq
    rw [h])
   go_wp2_with fail
   go_ret
   rw [HI.out]
   exact ⟨rfl,rfl⟩
end Go.Proofs.YtoelopghilbfeaaGreat
namespace Go.Proofs.YtoelopghilbfeaaGreat
open Go.RowKit
set_option linter.unusedSimpArgs false
set_option linter.unusedVariables false
theorem zeroCells_memI {zs:Array Value} {n:Nat} (hp:0<zs.size) {x:Value} (hx:x∈(Builtin.zeroCells zs n).toList):x∈zs.toList:=by
 unfold Builtin.zeroCells at hx
 simp only [Array.toList_map,List.mem_map] at hx
 obtain ⟨i,_,rfl⟩:=hx
 rw [getElem!_pos zs (i % zs.size) (Nat.mod_lt _ hp)]
 exact Array.getElem_mem_toList _
theorem run_clearI {P:Program} {t e:TypeId} {size bytes:Nat} {z:Value} (hT:SlT P t e size bytes z) (h1:∀ x∈z.cells.toList,x.oneCell'=true) {w:World} {g:Nat} {cur:Array Value} {fz:Nat × Nat} {Fr:HL} (hH:Holds w ((g,.cells cur e fz)::Fr)) (hf:okfz fz cur.size)
  (o n c:Nat) (hn:0<n) (hfit:(o+n) * size≤cur.size):∃ cs':Array Value,cs'.size=cur.size∧cs'.toList.take (o * size)=cur.toList.take (o * size)∧Holds (w.setRow g cs') ((g,.cells cs' e fz)::Fr) ∧
   ∀ ty,(Builtin.clear_ #[t] ty #[.slice (some ⟨g,o * size,none⟩) n c]).run P w=.ok (.tuple #[]) (w.setRow g cs'):=by
 obtain ⟨i,hi,hz,hsz,_⟩:=hT.info
 have hzs:(Builtin.zeroCells z.cells n).toList.length=n * size:=by unfold Builtin.zeroCells;simp [hT.cells]
 have hfit2:o * size+0+(Builtin.zeroCells z.cells n).toList.length≤cur.size:=by rw [hzs,Nat.add_zero,← Nat.add_mul];exact hfit
 have hst:=storeCells_fz (P:=P) g (o * size) e fz (Builtin.zeroCells z.cells n).toList 0 cur w (hH.get (by simp)) hf hfit2
  (fun x hx=>h1 x (zeroCells_memI (by rw [hT.cells];exact hT.pos) hx))
 rw [Nat.add_zero] at hfit2
 simp only [Nat.add_zero] at hst
 generalize hZ:(Builtin.zeroCells z.cells n).toList=ZS at *
 obtain ⟨cs',hcs⟩:∃ cs',cs'=(cur.toList.take (o * size)++ZS++cur.toList.drop (o * size+ZS.length)).toArray:=⟨_,rfl⟩
 rw [← hcs] at hst
 refine ⟨cs',?_,?_,Holds.setRow' hH _,fun ty=>?_⟩
 ·subst hcs;simp only [List.size_toArray,List.length_append,List.length_take,List.length_drop,Array.length_toList];omega
 ·subst hcs
  show ((cur.toList.take (o * size)++ZS)++cur.toList.drop (o * size+ZS.length)).take (o * size)=_
  rw [List.append_assoc,List.take_append_of_le_length (by simp;omega),List.take_take,Nat.min_self]
 ·obtain ⟨m,rfl⟩:∃ m,n=m+1:=⟨n - 1,by omega⟩
  simp [Builtin.clear_,run_underlying hT.under,zeroValue,typeInfo,hi,hz,hZ,hst]
theorem IsNums.cut {v:Value} {zs:List Int} {H:HL} (h:IsNums v zs H) (h0:0<zs.length):∃ g cap,v=.slice (some ⟨g,0,none⟩) zs.length cap∧zs.length≤cap∧cap≤maxLen ∧
  ∀ (wx:World) (F:HL),Holds wx (H++F)→∀ k,k<zs.length→∃ (wy:World) (H':HL),(∀ ty,(Builtin.clear_ #[45] ty #[.slice (some ⟨g,k,none⟩) (zs.length - k) (cap - k)]).run Tryz.prog wx=.ok (.tuple #[]) wy)∧IsNums (.slice (some ⟨g,0,none⟩) k cap) (zs.take k) H'∧Holds wy (H'++F)∧Grew wx wy:=by
 obtain ⟨hl,⟨_,hz,_⟩ | ⟨g,cap,cur,fz,rfl,hn,hc,hcz,ht,hf,rfl⟩⟩:=h
 ·omega
 ·refine ⟨g,cap,rfl,hn,hc,fun wx F hx k hk=>?_⟩
  obtain ⟨cs',h1,h2,h3,h4⟩:=run_clearI tInts (by simp [Value.cells,Value.oneCell']) (Fr:=F) (by simpa using hx) hf k (zs.length - k) (cap - k) (by omega) (by rw [Nat.add_sub_cancel' (Nat.le_of_lt hk)];exact Nat.le_trans (Nat.mul_le_mul_right 1 hn) hcz)
  rw [Nat.mul_one] at h2 h4
  have htk:(zs.take k).length=k:=by rw [List.length_take];omega
  refine ⟨_,[(g,.cells cs' 3 fz)],h4,⟨by simp,.inr ⟨g,cap,cs',fz,by rw [htk],by rw [htk];omega,hc,by rw [h1];exact hcz,?_,by rw [h1];exact hf,rfl⟩⟩,by simpa using h3,(Grew.refl wx).setRow g cs'⟩
  rw [htk,Nat.mul_one,h2,List.map_take,← ht,List.take_take,Nat.min_eq_left (by omega)]
def onlyI (f:Int→Bool) (l:List Int):List Int:=l.filter fun x=>!f x
theorem onlyI_snoc (f:Int→Bool) (l:List Int) (x:Int):onlyI f (l++[x])=onlyI f l++(if f x then [] else [x]):=by
 unfold onlyI
 rw [List.filter_append]
 cases h:f x <;> simp [h]
theorem idxI_spec (f:Int→Bool) (L:List Int):(idxI f L=-1∧onlyI f L=L)∨∃ i,∃ h:i<L.length,idxI f L=(i:Int)∧onlyI f (L.take (i+1))=L.take i:=by
 unfold idxI
 cases hq:L.findIdx? f with
 |none =>
  have hn:=List.findIdx?_eq_none_iff.1 hq
  refine .inl ⟨rfl,?_⟩
  unfold onlyI
  exact List.filter_eq_self.2 (fun x hx=>by simpa using hn x hx)
 |some i =>
  obtain ⟨hi,h1,h2⟩:=List.findIdx?_eq_some_iff_getElem.1 hq
  refine .inr ⟨i,hi,rfl,?_⟩
  rw [List.take_succ_eq_append_getElem hi,onlyI_snoc,if_pos h1,List.append_nil]
  unfold onlyI
  refine List.filter_eq_self.2 (fun x hx=>?_)
  obtain ⟨q,hq,rfl⟩:=List.mem_iff_getElem.1 hx
  rw [List.length_take] at hq
  rw [List.getElem_take]
  simpa using h2 q (by omega)
def DelToI (f:Int→Bool) (L:List Int) (v:Value) (w:World) (F:HL) (i j:Value) (wr:World):Prop :=
 ∃ (k m:Nat) (cs:List Int) (H:HL),i=.int .i64 k∧j=.int .i64 m∧k<m∧m≤L.length∧cs.length=L.length∧cs.take k=onlyI f (L.take m)∧(∀ q (hq:q<L.length),m≤q→cs[q]?=some L[q])∧IsNums v cs H∧Holds wr (H++F)∧Grew w wr
set_option maxRecDepth 20000 in
set_option maxHeartbeats 4000000 in
theorem indel_any (p:Nat) (v:Value) (L:List Int) (H F:HL) (w:World) (f:Int→Bool) (hf:∀ (wx:World) (X:HL),Holds wx (X++F)→∀ x,Calls Tryz.prog 60 #[.int .i64 x,.pointer (some ⟨p,0,none⟩)] wx fun e w'=>e=.returned (.bool (f x))∧wx=w') (hv:IsNums v L H) (hH:Holds w (H++F)) (hl:L.length≤1000) :
  Calls Tryz.prog 58 #[v,.func (.func 60) #[] #[.pointer (some ⟨p,0,none⟩)]] w (RetNew (fun v' H'=>IsNums v' (onlyI f L) H') w F):=by
 have HIX:=Lib.hid (inidxF_any p v L w f (fun x=>hf w H hH x) (hv.at_ hH) hl)
 have HV:=Lib.hid hv
 have HF:=Lib.hid hf
 have HH:=Lib.hid hH
 have HSP:=Lib.hid (idxI_spec f L)
 obtain ⟨A,c,rfl⟩:=hv.val
 rcases idxI_spec f L with ⟨h1,h2⟩ | ⟨i,hi,h1,h2⟩
 ·rw [h1] at HIX
  have HE:=Lib.hid h2
  clear hv hf h1 h2 hH
  go_enter Tryz.func58,Tryz.ntmps58
  go_wp2_with fail
  refine HIX.out.mono ?_
  rintro e w' ⟨rfl,rfl⟩
  go_wp2_with fail
  go_ret
  exact ⟨_,H,rfl,by rw [HE.out];exact HV.out,HH.out,Grew.refl _⟩
 ·rw [h1] at HIX
  obtain ⟨g,cap,hvv,hc1,hc2,hcut⟩:=hv.cut (by omega)
  obtain ⟨e1,e3⟩:A=some ⟨g,0,none⟩∧cap=c:=by injection hvv with e1 _ e3;exact ⟨e1,e3.symm⟩
  subst e1 e3
  have HT0:=Lib.hid h2.symm
  unfold maxLen at hc2
  obtain ⟨n,hn⟩:∃ n,n=L.length:=⟨_,rfl⟩
  have HN:=Lib.hid hn
  rw [← hn] at hl HV HIX hi hc1 ⊢
  clear hv hf h1 h2 hH hvv hcut hn
  have hi1:((i:Int) == -1)=false:=by simp
  have hg0:=Grew.refl w
  go_enter Tryz.func58,Tryz.ntmps58
  go_wp2_with fail
  refine HIX.out.mono ?_
  rintro e w' ⟨rfl,rfl⟩
  have hine:¬ (i:Int)=-1:=by omega
  clear HIX
  go_wp2_with fail
  go_loopw [5,6] (fun i j wr=>DelToI f L (.slice (some ⟨g,0,none⟩) n cap) w F i j wr) (fun _ j _=>n - (intOf j).toNat)
  case atStart=>exact ⟨i,i+1,L,H,rfl,by go_num,by omega,by rw [← HN.out];omega,rfl,HT0.out,fun q hq _=>List.getElem?_eq_getElem hq,HV.out,HH.out,hg0⟩
  case round =>
   clear hg0
   obtain ⟨k,m,cs,Hc,rfl,rfl,hkm,hm,hcl,hct,hcd,hcv,hHc,hgc⟩:=hrel
   rw [← HN.out] at hm hcl
   have HCV:=Lib.hid hcv
   have HHC:=Lib.hid hHc
   have HCL:=Lib.hid hcl
   have HCT:=Lib.hid hct
   have HCD:=Lib.hid hcd
   clear hct hcd
   by_cases hlt:m<n
   ·have hme:m<L.length:=by rw [← HN.out];exact hlt
    have hmc:m<cs.length:=by omega
    have hkc:k<cs.length:=by omega
    obtain ⟨g1,cap1,hv1,_,_,hgl,hc1m,_,_⟩:=hcv.cell hHc (j:=m) hmc
    obtain ⟨g2,cap2,hv2,_,_,_,hc1k,hfk,hset⟩:=hcv.cell hHc (j:=k) hkc
    injection hv1 with a1 a2 a3
    injection a1 with a1
    injection a1 with a1 _
    injection hv2 with b1 b2 b3
    injection b1 with b1
    injection b1 with b1 _
    subst a1 a3 b1 b3
    clear a2 b2
    have ex1:cs[m]=L[m]:=by
     have:=HCD.out m hme (by omega)
     rw [List.getElem?_eq_getElem hmc] at this
     exact Option.some.inj this
    rw [ex1] at hc1m
    have HT2:=Lib.hid (show onlyI f (L.take (m+1))=onlyI f (L.take m)++(if f L[m] then [] else [L[m]]) by rw [List.take_succ_eq_append_getElem hme,onlyI_snoc])
    have HF1:=Lib.hid (HF.out wr Hc hHc L[m])
    have HTS:=Lib.hid (show (cs.set k L[m]).take (k+1)=cs.take k++[L[m]] by
     have hl:k<(cs.set k L[m]).length:=by rw [List.length_set];omega
     rw [List.take_succ_eq_append_getElem hl,List.getElem_set_self,List.take_set_of_le (by omega)])
    have HKS:=Lib.hid (show ∀ q (hq:q<L.length),m+1≤q→(cs.set k L[m])[q]?=some L[q] from fun q hq hq2=>by rw [List.getElem?_set_ne (by omega)];exact HCD.out q hq (by omega))
    have HSET:=Lib.hid (hset wr F hHc L[m])
    clear hcv hset ex1 hHc
    generalize L[m]=x at *
    generalize cs[k]=old at *
    have hmn:(m:Int)<(n:Int):=by omega
    obtain ⟨bb,hbb⟩:∃ bb,bb=f x:=⟨_,rfl⟩
    rw [← hbb] at HF1 HT2
    clear hbb
    cases bb with
    |true =>
     rw [if_pos rfl,List.append_nil] at HT2
     go_wp2_with fail
     refine HF1.out.mono ?_
     rintro e w5 ⟨rfl,rfl⟩
     go_wp2_with fail
     go_roundw
     case rel=>exact ⟨k,m+1,cs,Hc,rfl,by go_num,by omega,by rw [← HN.out];omega,by rw [HCL.out,HN.out],by rw [HCT.out,HT2.out],fun q hq hq2=>HCD.out q hq (by omega),HCV.out,HHC.out,hgc⟩
     case measure=>simp [intOf] <;> omega
    |false =>
     rw [if_neg (by decide)] at HT2
     obtain ⟨H7,hb7,hh7⟩:=HSET.out
     have HB7:=Lib.hid hb7
     have HH7:=Lib.hid hh7
     have hkn2:k<n:=by omega
     clear hb7 hh7
     go_wp2_with fail
     refine HF1.out.mono ?_
     rintro e w5 ⟨rfl,rfl⟩
     go_wp2_with fail
     go_roundw
     case rel =>
      refine ⟨k+1,m+1,cs.set k x,H7,by go_num,by go_num,by omega,by rw [← HN.out];omega,by rw [List.length_set,HCL.out,HN.out],?_,HKS.out,HB7.out,HH7.out,hgc.setCell _ _⟩
      rw [HTS.out,HCT.out,HT2.out]
     case measure=>simp [intOf] <;> omega
   ·obtain rfl:m=n:=by omega
    obtain ⟨g1,cap1,hv1,_,_,hcut⟩:=hcv.cut (by omega)
    obtain ⟨q1,q3⟩:g=g1∧cap=cap1:=by
     injection hv1 with h1 _ h3
     injection h1 with h1
     injection h1 with h1
     exact ⟨h1,h3⟩
    subst q1
    subst q3
    obtain ⟨wy,Hy,hcle,hbv,hHy,hgy⟩:=hcut wr _ hHc k (by omega)
    have HBV:=Lib.hid hbv
    rw [HCL.out] at hcle
    have hck2:¬ cap=k:=by omega
    have hkn:k≤m:=by omega
    have hkcap:k≤cap:=by omega
    have hmn:¬ (m:Int)<(m:Int):=by omega
    have HE:Hid (onlyI f (L.take m)=onlyI f L):=Lib.hid (by rw [HN.out,List.take_length])
    clear hcut hbv hv1 hcv hHc
    go_wp2_with fail
    go_ret
    exact ⟨_,Hy,rfl,by rw [← HE.out,← HCT.out];exact HBV.out,hHy,hgc.trans hgy⟩
end Go.Proofs.YtoelopghilbfeaaGreat
namespace Go.Proofs.YtoelopghilbfeaaGreat
open Go.RowKit
set_option linter.unusedSimpArgs false
set_option linter.unusedVariables false
variable {b cb g cap:Nat} {mv:Value} {c:CM} {s:SM} {H Hc Fr:HL} {w:World}
def badS (s:SM) (c:CM):Int:=(onlyI (fun k=>!c.markOf k) (numsTo s.B)).length
set_option maxRecDepth 20000 in
set_option maxHeartbeats 2000000 in
theorem bad_any (h:StAt b cb s H) (hch:ChipAt cb g cap mv c Hc) (hH:Holds w (H++(Hc++Fr))):Calls Tryz.prog 25 #[.pointer (some ⟨b,0,none⟩)] w (RetFr (.int .i64 (badS s c)) w (H++(Hc++Fr))):=by
 have hpb:=plan_bd h.plan
 have hH1:=hH.alloc (.cells #[.pointer (some ⟨b,0,none⟩)] 28)
 have hg1:=(Grew.refl w).alloc (.cells #[.pointer (some ⟨b,0,none⟩)] 28)
 have hH2:Holds (w.alloc (.cells #[.pointer (some ⟨b,0,none⟩)] 28)) (H++(Hc++((w.heap.size,.cells #[.pointer (some ⟨b,0,none⟩)] 28)::Fr))):=hH1.p
 have HB:=Lib.hid (blocks_any h hH2)
 have HD:=Lib.hid (fun (v:Value) (Hl:HL) (wx:World) (p:Nat) (hv:IsNums v (numsTo s.B) Hl) (hx:Holds wx (Hl++(H++(Hc++((p,.cells #[.pointer (some ⟨b,0,none⟩)] 28)::Fr))))) =>
  indel_any p v (numsTo s.B) Hl (H++(Hc++((p,.cells #[.pointer (some ⟨b,0,none⟩)] 28)::Fr))) wx (fun k=>!c.markOf k) (fun wy X hy x=>bad1_any x p h hch (hy.right) (hy.right.right.right.hcell 0)) hv hx (by rw [numsTo_len];omega))
 have HRE:=Lib.hid (show badS s c=(onlyI (fun k=>!c.markOf k) (numsTo s.B)).length from rfl)
 generalize badS s c=res at *
 generalize onlyI (fun k=>!c.markOf k) (numsTo s.B)=L at *
 clear h hch hH hH1
 go_enter Tryz.func25,Tryz.ntmps25
 go_upto_region 3 with fail
 generalize w.alloc (.cells #[.pointer (some ⟨b,0,none⟩)] 28)=w1 at *
 generalize w.heap.size=p at *
 have x0:=hH2.right.right.hcell 0
 go_wp2_with fail
 refine HB.out.mono ?_
 rintro e w2 ⟨v,Hl,rfl,hv,hH3,hg3⟩
 have HD2:=Lib.hid (HD.out v Hl w2 p hv hH3)
 have hG3:=hg1.trans hg3
 clear hv hH2 hH3 hg1 hg3 x0 HB
 go_wp2_with fail
 refine HD2.out.mono ?_
 rintro e w3 ⟨v2,H2,rfl,hv2,hH4,hg4⟩
 obtain ⟨A2,c2,rfl⟩:=hv2.val
 have HH4:=Lib.hid hH4
 clear hv2 hH4 HD2 HD
 go_wp2_with fail
 go_ret
 rw [HRE.out]
 exact ⟨rfl,HH4.out.p,hG3.trans hg4⟩
end Go.Proofs.YtoelopghilbfeaaGreat
