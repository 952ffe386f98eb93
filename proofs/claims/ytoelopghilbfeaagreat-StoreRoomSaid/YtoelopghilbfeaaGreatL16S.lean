/-
  Chapter 16: StoreScript.
-/
import Derived.Test.YtoelopghilbfeaaGreatMo7
import Derived.Test.YtoelopghilbfeaaGreatMi3
import Derived.Test.YtoelopghilbfeaaGreatSpS
import Derived.Test.YtoelopghilbfeaaGreatSpX
import Derived.Test.YtoelopghilbfeaaGreatOpenM
namespace Go.Proofs.YtoelopghilbfeaaGreat
open Go.RowKit
set_option linter.unusedSimpArgs false
set_option linter.unusedVariables false
theorem prod_glueS {α β:Type} {x:α × β} {b:β} (h:x.2=b):x=(x.1,b):=by cases x;cases h;rfl
theorem ints_allS {v:Value} {zs:List Int} {W:World} (h:IntsAt W v zs):IsInts v zs (allOf W):=fun wx hx=>h.1.keep (w':=wx) (fun p u hp=>all_cell (H:=[]) (by simpa using hx) hp)
theorem ms_all {v:Value} {ms:List Mi} {W:World} (h:MsAt W v ms):FrMs (allOf W) v ms:=fun wx hx=>ReadsAt.keep h (w':=wx) (fun p u hp=>all_cell (H:=[]) (by simpa using hx) hp)
theorem acts_all {v:Value} {l:List ActS} {W:World} (h:ActsS W v l):∀ wx,Holds wx (allOf W)→ActsS wx v l:=fun wx hx=>ReadsAt.keep h (w':=wx) (fun p u hp=>all_cell (H:=[]) (by simpa using hx) hp)
theorem acts_cell {w:World} {b o:Nat} {l:List ActS} (h:∀ j u,(l.map ActS.cells).flatten[j]?=some u→w.cell? ⟨b,o+j,none⟩=some u) {k:Nat} (hk:k<l.length) :
  w.cell? ⟨b,o+k * 3,none⟩=some (.int .i64 l[k].d)∧w.cell? ⟨b,o+k * 3+1,none⟩=some (.int .i64 l[k].n)∧w.cell? ⟨b,o+k * 3+2,none⟩=some (.int .i64 l[k].k):=by
 have hf:∀ j,j<3→w.cell? ⟨b,o+(k * 3+j),none⟩=(l[k].cells)[j]?:=fun j hj=>by
  have h1:=flat_get (size:=3) (l.map ActS.cells) (fun x hx=>by obtain ⟨a,_,rfl⟩:=List.mem_map.1 hx;rfl) k j (l[k].cells) (by simp [hk]) hj
  have h2:(l[k].cells)[j]?=some ((l[k].cells)[j]'(by simpa [ActS.cells] using hj)):=List.getElem?_eq_getElem _
  rw [h2] at h1 ⊢
  exact h _ _ h1
 exact ⟨by have:=hf 0 (by omega);rw [Nat.add_zero] at this;exact this,by have:=hf 1 (by omega);rw [← Nat.add_assoc] at this;exact this,by have:=hf 2 (by omega);rw [← Nat.add_assoc] at this;exact this⟩
def ScTo (n mb cb g cap:Nat) (mv:Value) (W:World) (sv iv:Value) (wr:World):Prop :=
 ∃ (k:Nat) (f:Nat→Pg) (q:Int) (s:SM) (c:CM) (sb:Nat) (Hs Hc:HL),k≤n∧iv=.int .i64 k∧sv=.pointer (some ⟨sb,0,none⟩)∧ScI f q s c∧0≤q∧q≤k∧c.ops≤20000 * k∧StAt sb cb s Hs∧ChipAt cb g cap mv c Hc∧Holds wr ((mb,moO f q)::(Hs++(Hc++allOf W)))∧Grew W wr
set_option maxRecDepth 100000 in
set_option maxHeartbeats 4000000 in
theorem script16_walk (kv:Value) (marks:List Int) (mv0:Value) (ms:List Mi) (av:Value) (l:List ActS) (W:World) (hkv:IntsAt W kv marks) (hmv:MsAt W mv0 ms) (hav:ActsS W av l):Calls Tryz.prog 6 #[kv,mv0,av] W (RetFr (.bool true) W (allOf W)):=by
 have hH:=holds_all W
 have k1:=err_eq
 have k2:=nil_eq
 have k3:=err_ne
 have k4:=nil_ne
 have HKV:=Lib.hid (ints_allS hkv)
 have HMV:=Lib.hid (ms_all hmv)
 have HAV:=Lib.hid (acts_all hav)
 obtain ⟨_,A,ck,rfl,_,_,_⟩:=hkv.1
 obtain ⟨_,A1,ck1,rfl,_,_,_⟩:=hmv
 obtain ⟨_,A2,ck2,rfl,_,_,_⟩:=hav
 have hg0:=Grew.refl W
 clear hkv
 go_enter Tryz.func6,Tryz.ntmps6
 by_cases h50:50<l.length
 ·have h50i:(50:Int)<(l.length:Int):=by omega
  go_wp2_with fail
  refine (awake16_any _ _ hH).mono ?_
  rintro e wa ⟨rfl,hHa,hga⟩
  go_wp2_with fail
  go_ret
  exact ⟨rfl,hHa,hga⟩
 by_cases h4:4<marks.length
 ·have h50i:¬ (50:Int)<(l.length:Int):=by omega
  have h4i:(4:Int)<(marks.length:Int):=by omega
  go_wp2_with fail
  refine (awake16_any _ _ hH).mono ?_
  rintro e wa ⟨rfl,hHa,hga⟩
  go_wp2_with fail
  go_ret
  exact ⟨rfl,hHa,hga⟩
 by_cases h30:30<ms.length
 ·have h50i:¬ (50:Int)<(l.length:Int):=by omega
  have h4i:¬ (4:Int)<(marks.length:Int):=by omega
  have h30i:(30:Int)<(ms.length:Int):=by omega
  go_wp2_with fail
  refine (awake16_any _ _ hH).mono ?_
  rintro e wa ⟨rfl,hHa,hga⟩
  go_wp2_with fail
  go_ret
  exact ⟨rfl,hHa,hga⟩
 have h50i:¬ (50:Int)<(l.length:Int):=by omega
 have h4i:¬ (4:Int)<(marks.length:Int):=by omega
 have h30i:¬ (30:Int)<(ms.length:Int):=by omega
 have HMA:=Lib.hid (r7may_any _ ms W _ HMV.out hH (by omega))
 clear hH
 go_wp2_with fail
 refine HMA.out.mono ?_
 rintro e w0 ⟨mb0,rfl,hmay,hH0,hg1⟩
 cases mb0 with
 |false =>
  have HAW:=Lib.hid (awake16_any w0 _ hH0)
  clear hH0 hmay HMA
  go_wp2_with fail
  refine HAW.out.mono ?_
  rintro e wa ⟨rfl,hHa,hga⟩
  have hGa:=hg1.trans hga
  clear HAW hga hg1
  go_wp2_with fail
  go_ret
  exact ⟨rfl,hHa,hGa⟩
 |true =>
  have hmm:=hmay rfl
  have HMM:=Lib.hid hmm
  have HGE:=Lib.hid (l16geo_any w0 _ hH0)
  clear hmay hmm HMA hH0
  go_wp2_with fail
  refine HGE.out.mono ?_
  rintro e w1 ⟨rfl,hH1,hg2⟩
  have hG1:=hg1.trans hg2
  have HN:=Lib.hid (nnew_any 16 4 128 (.slice A marks.length ck) (.slice A1 ms.length ck1) marks ms w1 _ hH1 HKV.out HMV.out (fun wx F hx=>may_yes _ ms wx _ (fun wy hy=>HMV.out wy hy.right) hx HMM.out) (by omega) (by omega) (by omega) (by omega) (by omega) (by omega) HMM.out.1 HMM.out.2.1)
  clear HGE hH1 hg1 hg2
  go_wp2_with fail
  refine HN.out.mono ?_
  rintro e w2 (⟨hin,dv,H0,rfl,⟨cb,g,cap,mv,rfl,hc0⟩,hH2,hg3⟩ | ⟨_,rfl,hH2,hg3⟩)
  rotate_left
  ·have HAW:=Lib.hid (awake16_any w2 _ hH2)
   have hG2:=hG1.trans hg3
   clear hH2 HN hG1 hg3
   go_wp2_with fail
   refine HAW.out.mono ?_
   rintro e wa ⟨rfl,hHa,hga⟩
   have hGa:=hG2.trans hga
   clear HAW hga hG2
   go_wp2_with fail
   go_ret
   exact ⟨rfl,hHa,hGa⟩
  ·have hG2:=hG1.trans hg3
   obtain ⟨hn1,hI0⟩:=scI_new marks ms
   have HNW:=Lib.hid (new_any hc0 hH2 (newPlan marks ms) rfl (by show (0:Int)≤999999998000;omega))
   have hn2:newS (CM.new 16 4 128 marks ms)=((newS (CM.new 16 4 128 marks ms)).1,CM.new 16 4 128 marks ms,0):=prod_glueS hn1
   have hop0:(CM.new 16 4 128 marks ms).ops=0:=rfl
   generalize (newS (CM.new 16 4 128 marks ms)).1=s0 at *
   generalize CM.new 16 4 128 marks ms=c0 at *
   rw [hn2] at HNW
   have HI0:=Lib.hid hI0
   have HO0:=Lib.hid hop0
   clear hc0 hH2 hg3 HN hn1 hn2 hI0 hG1 hin hop0
   go_wp2_with fail
   refine HNW.out.mono ?_
   rintro e w3 (⟨h0,sb,Hs,Hc,rfl,hs,hch,hH3,hg4⟩ | ⟨h0,_⟩)
   rotate_left
   ·exact absurd rfl h0
   dsimp only at hs hch
   have hG3:=hG2.trans hg4
   have HS:=Lib.hid hs
   have HC:=Lib.hid hch
   have hHA:=hH3.alloc (moO (fun _=>Pg.zero) 0)
   have hGA:=hG3.alloc (moO (fun _=>Pg.zero) 0)
   clear h0 hs hch hH3 hg4 hG2 HNW hG3
   go_upto_region 11 with fail
   rw [show Obj.cells Tryz.zeroCells64 64=moO (fun _=>Pg.zero) 0 by kernel_rfl]
   have hst:ScTo l.length w3.heap.size cb g cap mv W (.pointer (some ⟨sb,0,none⟩)) (.int .i64 0) (w3.alloc (moO (fun _=>Pg.zero) 0)) :=
    ⟨0,fun _=>Pg.zero,0,s0,c0,sb,Hs,Hc,by omega,rfl,rfl,HI0.out,by omega,by omega,by rw [HO0.out];omega,HS.out,HC.out,hHA,hGA⟩
   generalize w3.alloc (moO (fun _=>Pg.zero) 0)=w4 at *
   generalize w3.heap.size=mb at *
   clear hHA hGA HS HC HI0 HO0
   go_wp2_with fail
   go_loopw [8,11] (fun sv iv wr=>ScTo l.length mb cb g cap mv W sv iv wr) (fun _ i _=>l.length - (intOf i).toNat)
   case atStart=>exact hst
   case round =>
    clear hst
    obtain ⟨k,f,q,s,c,sb,Hs,Hc,hk,rfl,rfl,hI,hq0,hq1,hop,hs,hch,hH4,hG4⟩:=hrel
    by_cases hlt:k<l.length
    ·have hkl:(k:Int)<(l.length:Int):=by omega
     have hkw:IntKind.i64.wrap ((k:Int)+1)=k+1:=wrap_i64_id (by omega) (by omega)
     obtain ⟨_,A3,c3,hv3,_,_,hrd⟩:=HAV.out wr hH4.tail.right.right
     injection hv3 with hv31 hv32 hv33
     subst hv31;subst hv33
     clear hv32
     obtain ⟨b8,o8,rfl,hcl⟩:=hrd (by omega)
     obtain ⟨x0,x1,x2⟩:=acts_cell hcl hlt
     generalize l[k]=x at *
     obtain ⟨xd,xn,xk⟩:=x
     dsimp only at x0 x1 x2
     have HDN:=Lib.hid (done_any xd xn xk hs hch hH4 hI hq0 (by omega) (by omega))
     have HK:=Lib.hid (And.intro hop (And.intro hq1 hkl))
     clear hcl hrd hs hch hH4 hI hop hq1 hq0
     go_wp2_with fail
     refine HDN.out.mono ?_
     rintro e w5 ⟨f',q',s',c',sb',Hs',Hc',rfl,hI',hq3,hq4,hq5,hs',hch',hH5,hg5,hms',hop',_⟩
     have hG5:=hG4.trans hg5
     have hmi:=nmisuse_any hch' (hH5.p:Holds w5 (Hc'++((mb,moO f' q')::(Hs'++allOf W))))
     rw [hI'.mis] at hmi
     have HMI:=Lib.hid hmi
     have HI':=Lib.hid hI'
     have HS':=Lib.hid hs'
     have HC':=Lib.hid hch'
     clear hmi hI' hs' hch' hg5 hG4 HDN hms' x0 x1 x2
     go_wp2_with fail
     refine HMI.out.mono ?_
     rintro e wx ⟨rfl,rfl⟩
     go_wp2_with fail
     go_roundw
     case rel=>exact ⟨k+1,f',q',s',c',sb',Hs',Hc',by omega,by go_num,rfl,HI'.out,hq5,by have:=HK.out.2.1;omega,by have:=HK.out.1;omega,HS'.out,HC'.out,hH5,hG5⟩
     case measure=>simp [intOf];omega
    ·have hkl:¬ (k:Int)<(l.length:Int):=by omega
     have hmi:=nmisuse_any hch (hH4.p:Holds wr (Hc++((mb,moO f q)::(Hs++allOf W))))
     rw [hI.mis] at hmi
     have HMI:=Lib.hid hmi
     have HAW:=Lib.hid (awake16_any wr (allOf W) hH4.tail.right.right)
     clear hI hs hch hH4 hmi hop hq1 hq0
     go_wp2_with fail
     refine HMI.out.mono ?_
     rintro e wx ⟨rfl,rfl⟩
     go_wp2_with fail
     refine HAW.out.mono ?_
     rintro e wy ⟨rfl,hHy,hgy⟩
     have hGy:=hG4.trans hgy
     clear HAW hgy hG4
     go_wp2_with fail
     go_ret
     exact ⟨rfl,hHy,hGy⟩
end Go.Proofs.YtoelopghilbfeaaGreat
