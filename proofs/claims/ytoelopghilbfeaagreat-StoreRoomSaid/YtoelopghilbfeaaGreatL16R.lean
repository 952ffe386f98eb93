/-
  Chapter 16: StoreRoom.
-/
import Derived.Test.YtoelopghilbfeaaGreatL16S
import Derived.Test.YtoelopghilbfeaaGreatSpR
namespace Go.Proofs.YtoelopghilbfeaaGreat
open Go.RowKit
set_option linter.unusedSimpArgs false
set_option linter.unusedVariables false
def RmTo (n mb cb g cap:Nat) (mv:Value) (W:World) (sv iv:Value) (wr:World):Prop :=
 ∃ (k:Nat) (f:Nat→Pg) (q:Int) (s:SM) (c:CM) (sb:Nat) (Hs Hc:HL),k≤n∧iv=.int .i64 k∧sv=.pointer (some ⟨sb,0,none⟩)∧ScI f q s c∧0≤q∧q≤k∧c.ops≤20000 * k∧(c.on=true∧c.ms=[]∧NF c)∧StAt sb cb s Hs∧ChipAt cb g cap mv c Hc∧Holds wr ((mb,moO f q)::(Hs++(Hc++allOf W)))∧Grew W wr
def BlTo16 (s:SM) (c:CM) (W:World) (H:HL) (lv bv iv:Value) (wr:World):Prop :=
 ∃ k:Nat,k≤16∧iv=.int .i64 k∧lv=.int .i64 (4 * (cntTo (freeB s c) k:Int))∧bv=.int .i64 (cntTo (fun j:Nat=>c.markOf (j:Int)) k:Nat)∧Holds wr H∧Grew W wr
def FlTo16 (n:Nat) (sb cb g cap:Nat) (mv:Value) (W:World) (H:HL) (iv:Value) (wr:World):Prop :=
 ∃ (k:Nat) (s:SM) (c:CM) (Hs Hc:HL),k≤n∧iv=.int .i64 k∧RoomI ((n:Int) - k) s c∧c.ops≤3000000+2 * k∧StAt sb cb s Hs∧ChipAt cb g cap mv c Hc∧Holds wr (Hs++(Hc++(H++allOf W)))∧Grew W wr
theorem hd4_may {z:Int} (h1:1≤z) (h2:z≤100000):(⟨4,0,z,0⟩:Hd).may=true:=by
 unfold Hd.may
 have e1:decide (1≤z)=true:=decide_eq_true h1
 have e2:decide (z≤1099511627775)=true:=decide_eq_true (by omega)
 rw [e1,e2]
 rfl
theorem hd4_in (z:Int):HdIn ⟨4,0,z,0⟩:=by show (0:Int)≤0∧(0:Int)<_;omega
theorem wrap_sm {i n:Nat} (h:i<n) (hn:(n:Int)≤64):IntKind.i64.wrap ((i:Int)+1)=i+1:=wrap_i64_id (by omega) (by omega)
theorem wrap_sb {i n:Nat} (h:i<n) (hn:(n:Int)≤64):IntKind.i64.wrap ((n:Int) - 1)=n - 1∧wrap64 ((n:Int) - 1)=n - 1∧IntKind.i64.wrap ((n:Int) - 1 - i)=n - 1 - i∧wrap64 ((n:Int) - 1 - i)=n - 1 - i:=by
 refine ⟨wrap_i64_id (by omega) (by omega),?_,wrap_i64_id (by omega) (by omega),?_⟩ <;> · unfold wrap64;omega
theorem put_bad (s:SM) (c:CM) (d:List UInt8):putA s c Hd.zero d=(s,c,0,2):=by
 unfold putA
 rw [if_pos (Or.inl (by rw [show Hd.zero.may=false by kernel_rfl,Bool.and_false]))]
set_option maxRecDepth 100000 in
set_option maxHeartbeats 4000000 in
theorem room16_walk (kv:Value) (marks:List Int) (av:Value) (l:List ActS) (W:World) (hkv:IntsAt W kv marks) (hav:ActsS W av l):Calls Tryz.prog 10 #[kv,av] W (RetFr (.bool true) W (allOf W)):=by
 have hH:=holds_all W
 have k1:=err_eq
 have k2:=nil_eq
 have k3:=err_ne
 have k4:=nil_ne
 have HKV:=Lib.hid (ints_allS hkv)
 have HAV:=Lib.hid (acts_all hav)
 obtain ⟨_,A,ck,rfl,_,_,_⟩:=hkv.1
 obtain ⟨_,A2,ck2,rfl,_,_,_⟩:=hav
 have hg0:=Grew.refl W
 clear hkv
 go_enter Tryz.func10,Tryz.ntmps10
 by_cases h50:60<l.length
 ·have h50i:(60:Int)<(l.length:Int):=by omega
  go_wp2_with fail
  refine (awake16_any _ _ hH).mono ?_
  rintro e wa ⟨rfl,hHa,hga⟩
  go_wp2_with fail
  go_ret
  exact ⟨rfl,hHa,hga⟩
 by_cases h4:4<marks.length
 ·have h50i:¬ (60:Int)<(l.length:Int):=by omega
  have h4i:(4:Int)<(marks.length:Int):=by omega
  go_wp2_with fail
  refine (awake16_any _ _ hH).mono ?_
  rintro e wa ⟨rfl,hHa,hga⟩
  go_wp2_with fail
  go_ret
  exact ⟨rfl,hHa,hga⟩
 have h50i:¬ (60:Int)<(l.length:Int):=by omega
 have h4i:¬ (4:Int)<(marks.length:Int):=by omega
 have HGE:=Lib.hid (l16geo_any W _ hH)
 clear hH
 go_wp2_with fail
 refine HGE.out.mono ?_
 rintro e w1 ⟨rfl,hH1,hG1⟩
 have HN:=Lib.hid (nnew_any 16 4 128 (.slice A marks.length ck) (.slice none 0 0) marks [] w1 _ hH1 HKV.out (ms_nil _) (fun wx F hx=>(may_none wx).mono fun e w' ⟨h1,h2⟩=>⟨h1,h2 ▸ hx,h2 ▸ Grew.refl wx⟩) (by omega) (by omega) (by omega) (by omega) (by omega) (by omega) (by simp) (by simp))
 clear HGE hH1
 go_wp2_with fail
 refine HN.out.mono ?_
 rintro e w2 (⟨hin,dv,H0,rfl,⟨cb,g,cap,mv,rfl,hc0⟩,hH2,hg3⟩ | ⟨_,rfl,hH2,hg3⟩)
 rotate_left
 ·have HAW:=Lib.hid (awake16_any w2 _ hH2)
  have hG2:=hG1.trans hg3
  clear hH2 HN hG1 hg3
  go_wp2_with fail
  refine HAW.out.mono ?_
  rintro e wa ⟨rfl,hHa,hga⟩
  have hGa:=hG2.trans hga
  clear HAW hga hG2
  go_wp2_with fail
  go_ret
  exact ⟨rfl,hHa,hGa⟩
 have hG2:=hG1.trans hg3
 obtain ⟨hn1,hI0⟩:=scI_new marks []
 have HNW:=Lib.hid (new_any hc0 hH2 (newPlan marks []) rfl (by show (0:Int)≤999999998000;omega))
 have hn2:newS (CM.new 16 4 128 marks [])=((newS (CM.new 16 4 128 marks [])).1,CM.new 16 4 128 marks [],0):=prod_glueS hn1
 have hop0:(CM.new 16 4 128 marks []).ops=0∧(CM.new 16 4 128 marks []).on=true∧(CM.new 16 4 128 marks []).ms=[]∧NF (CM.new 16 4 128 marks []):=⟨rfl,rfl,rfl,fun k x hx=>by obtain ⟨_,rfl⟩:=new_at hx;rfl⟩
 generalize (newS (CM.new 16 4 128 marks [])).1=s0 at *
 generalize CM.new 16 4 128 marks []=c0 at *
 rw [hn2] at HNW
 have HI0:=Lib.hid hI0
 have HO0:=Lib.hid hop0
 clear hc0 hH2 hg3 HN hn1 hn2 hI0 hG1 hin hop0
 go_wp2_with fail
 refine HNW.out.mono ?_
 rintro e w3 (⟨h0,sb,Hs,Hc,rfl,hs,hch,hH3,hg4⟩ | ⟨h0,_⟩)
 rotate_left
 ·exact absurd rfl h0
 dsimp only at hs hch
 have hG3:=hG2.trans hg4
 have HS:=Lib.hid hs
 have HC:=Lib.hid hch
 have hHA:=hH3.alloc (moO (fun _=>Pg.zero) 0)
 have hGA:=hG3.alloc (moO (fun _=>Pg.zero) 0)
 clear h0 hs hch hH3 hg4 hG2 HNW hG3
 go_upto_region 11 with fail
 rw [show Obj.cells Tryz.zeroCells64 64=moO (fun _=>Pg.zero) 0 by kernel_rfl]
 have hst:RmTo l.length w3.heap.size cb g cap mv W (.pointer (some ⟨sb,0,none⟩)) (.int .i64 0) (w3.alloc (moO (fun _=>Pg.zero) 0)) :=
  ⟨0,fun _=>Pg.zero,0,s0,c0,sb,Hs,Hc,by omega,rfl,rfl,HI0.out,by omega,by omega,by rw [HO0.out.1];omega,HO0.out.2,HS.out,HC.out,hHA,hGA⟩
 generalize w3.alloc (moO (fun _=>Pg.zero) 0)=w4 at *
 generalize w3.heap.size=mb at *
 clear hHA hGA HS HC HI0 HO0
 go_wp2_with fail
 go_loopw [6,9] (fun sv iv wr=>RmTo l.length mb cb g cap mv W sv iv wr) (fun _ i _=>l.length - (intOf i).toNat)
 case atStart=>exact hst
 case round =>
  clear hst
  obtain ⟨k,f,q,s,c,sb,Hs,Hc,hk,rfl,rfl,hI,hq0,hq1,hop,hcal,hs,hch,hH4,hG4⟩:=hrel
  by_cases hlt:k<l.length
  ·have hkl:(k:Int)<(l.length:Int):=by omega
   have hkw:IntKind.i64.wrap ((k:Int)+1)=k+1:=wrap_i64_id (by omega) (by omega)
   obtain ⟨_,A3,c3,hv3,_,_,hrd⟩:=HAV.out wr hH4.tail.right.right
   injection hv3 with hv31 hv32 hv33
   subst hv31;subst hv33
   clear hv32
   obtain ⟨b8,o8,rfl,hcl⟩:=hrd (by omega)
   obtain ⟨x0,x1,x2⟩:=acts_cell hcl hlt
   generalize l[k]=x at *
   obtain ⟨xd,xn,xk⟩:=x
   dsimp only at x0 x1 x2
   have HDN:=Lib.hid (done_any xd xn xk hs hch hH4 hI hq0 (by omega) (by omega))
   have HK:=Lib.hid (And.intro hop (And.intro hq1 (And.intro hkl hcal)))
   clear hcl hrd hs hch hH4 hI hop hq1 hq0 hcal
   go_wp2_with fail
   refine HDN.out.mono ?_
   rintro e w5 ⟨f',q',s',c',sb',Hs',Hc',rfl,hI',hq3,hq4,hq5,hs',hch',hH5,hg5,hms',hop',hkp'⟩
   have hG5:=hG4.trans hg5
   have HI':=Lib.hid hI'
   have HS':=Lib.hid hs'
   have HC':=Lib.hid hch'
   obtain ⟨hp1,hp2⟩:=hkp' HK.out.2.2.2.2.1 HK.out.2.2.2.2.2 HK.out.2.2.2.1
   have HCAL:=Lib.hid (show c'.on=true∧c'.ms=[]∧NF c' from ⟨hp1,by rw [hms'];exact HK.out.2.2.2.2.1,hp2⟩)
   clear hI' hs' hch' hg5 hG4 HDN hms' x0 x1 x2 hkp' hp1 hp2
   go_wp2_with fail
   have q4:RmTo l.length mb cb g cap mv W (.pointer (some ⟨sb',0,none⟩)) (.int .i64 ((k:Int)+1)) w5:=⟨k+1,f',q',s',c',sb',Hs',Hc',by omega,by go_num,rfl,HI'.out,hq5,by have:=HK.out.2.1;omega,by have:=HK.out.1;omega,HCAL.out,HS'.out,HC'.out,hH5,hG5⟩
   refine ⟨q4,?_⟩
   simp [intOf];omega
  ·have hkl:¬ (k:Int)<(l.length:Int):=by omega
   obtain ⟨hon,hms,hnf⟩:=hcal
   have hRI:=hI.toRoom hon hms hnf
   have hge:=room_ge hI.cont
   have hle:=room_le hI.cont hI.geo.1 hI.geo.2.1
   have hnn:0≤roomS s c:=by
    have h1:=leftI_nn hI.cont
    have h2:0≤(s.P:Int) * ((emptyL s c).length:Int):=Int.mul_nonneg (by omega) (by omega)
    unfold roomS
    omega
   have hbd:=badS_eq (s:=s) (c:=c) (mk:=fun j:Nat=>c.markOf (j:Int)) fun j _=>rfl
   rw [hI.geo.1,hI.geo.2.1] at hge
   rw [hI.geo.1] at hbd
   have HGO:=Lib.hid hI.geo
   have HYK:=Lib.hid hI.cont.yok
   obtain ⟨n,hn⟩:∃ n:Nat,roomS s c=(n:Int):=⟨(roomS s c).toNat,by omega⟩
   have HRM:=Lib.hid (show ∀ (wx:World) (F:HL),Holds wx (Hs++(Hc++F))→Calls Tryz.prog 29 #[.pointer (some ⟨sb,0,none⟩)] wx (RetFr (.int .i64 (n:Int)) wx (Hs++(Hc++F))) from fun wx F h=>by
    have:=room_any hs hch h (by rw [hI.geo.1];omega)
    rw [hn] at this
    exact this)
   have HBDF:=Lib.hid (show ∀ (wx:World) (F:HL),Holds wx (Hs++(Hc++F))→Calls Tryz.prog 25 #[.pointer (some ⟨sb,0,none⟩)] wx (RetFr (.int .i64 (cntTo (fun j:Nat=>c.markOf (j:Int)) 16:Nat)) wx (Hs++(Hc++F))) from fun wx F h=>by
    have:=bad_any hs hch h
    rw [hbd] at this
    exact this)
   rw [hn] at hRI hge hle hnn
   have HRI:=Lib.hid hRI
   have HGEE:=Lib.hid hge
   have HLE:=Lib.hid (show n≤64 by omega)
   have HS:=Lib.hid hs
   have HC:=Lib.hid hch
   have HOP:=Lib.hid (show c.ops≤3000000 by omega)
   have hst2:BlTo16 s c W ((mb,moO f q)::(Hs++(Hc++allOf W))) (.int .i64 0) (.int .i64 0) (.int .i64 0) wr:=⟨0,by omega,rfl,rfl,rfl,hH4,hG4⟩
   clear hs hch hH4 hG4 hI hop hq1 hq0 hon hms hnf hRI hge hle hnn hbd hn hk hlt
   go_wp2_with fail
   clear hkl
   go_loopw [11,12,13] (fun lv bv iv wr=>BlTo16 s c W ((mb,moO f q)::(Hs++(Hc++allOf W))) lv bv iv wr) (fun _ _ i _=>16 - (intOf i).toNat)
   case atStart=>exact hst2
   case round =>
    clear hst2
    obtain ⟨j,hj,rfl,rfl,rfl,hH5,hG5⟩:=hrel
    have hc1:cntTo (freeB s c) j≤j:=by unfold cntTo;have:=List.length_filter_le (freeB s c) (List.range j);rw [List.length_range] at this;exact this
    have hc2:cntTo (fun j:Nat=>c.markOf (j:Int)) j≤j:=by unfold cntTo;have:=List.length_filter_le (fun j:Nat=>c.markOf (j:Int)) (List.range j);rw [List.length_range] at this;exact this
    obtain ⟨lz,hlz⟩:∃ lz:Int,lz=4 * (cntTo (freeB s c) j:Int):=⟨_,rfl⟩
    obtain ⟨bz,hbz⟩:∃ bz:Int,bz=((cntTo (fun j:Nat=>c.markOf (j:Int)) j:Nat):Int):=⟨_,rfl⟩
    rw [← hlz,← hbz]
    have hl1:0≤lz∧lz≤64:=by omega
    have hb1:0≤bz∧bz≤16:=by omega
    have HLZ:=Lib.hid hlz
    have HBZ:=Lib.hid hbz
    clear hlz hbz hc1 hc2
    by_cases hj16:j<16
    ·have hj16i:(j:Int)<16:=by omega
     have hjw:IntKind.i64.wrap ((j:Int)+1)=j+1:=wrap_i64_id (by omega) (by omega)
     have hbw:IntKind.i64.wrap (bz+1)=bz+1:=wrap_i64_id (by omega) (by omega)
     have hlw:IntKind.i64.wrap (lz+4)=lz+4:=wrap_i64_id (by omega) (by omega)
     have hlw2:wrap64 (lz+4)=lz+4:=by unfold wrap64;omega
     have hbw2:wrap64 (bz+1)=bz+1:=by unfold wrap64;omega
     have hnm:=nmarked_any (j:Int) HC.out (hH5.p:Holds wr (Hc++((mb,moO f q)::(Hs++allOf W))))
     have HS1:=Lib.hid (cntTo_succ (freeB s c) j)
     have HS2:=Lib.hid (cntTo_succ (fun j:Nat=>c.markOf (j:Int)) j)
     have HFB:=Lib.hid (show freeB s c j=(!c.markOf (j:Int) && decide ((pagesOf s (j:Int)).length=0)) from rfl)
     have HBK:=Lib.hid (block_any (j:Int) HS.out (hH5.p:Holds wr (Hs++((mb,moO f q)::(Hc++allOf W)))) HYK.out (by omega) (by have:=HGO.out.1;omega))
     generalize c.markOf (j:Int)=mk at *
     have HNM:=Lib.hid hnm
     clear hnm
     cases mk with
     |true =>
      clear HBK
      go_wp2_with fail
      refine HNM.out.mono ?_
      rintro e wx ⟨rfl,rfl⟩
      go_wp2_with fail
      go_roundw
      case rel=>exact ⟨j+1,by omega,by go_num,congrArg (Value.int .i64) (by have h1:=HS1.out;rw [HFB.out] at h1;rw [h1];simpa using HLZ.out),congrArg (Value.int .i64) (by have h1:=HS2.out;rw [if_pos trivial] at h1;rw [h1];have:=HBZ.out;omega),hH5,hG5⟩
      case measure=>simp [intOf];omega
     |false =>
      obtain ⟨ln,hln⟩:∃ ln,ln=(pagesOf s (j:Int)).length:=⟨_,rfl⟩
      have HLN:=Lib.hid hln
      clear hln
      go_wp2_with fail
      refine HNM.out.mono ?_
      rintro e wx ⟨rfl,rfl⟩
      go_wp2_with fail
      refine HBK.out.mono ?_
      rintro e w6 ⟨v6,H6,rfl,hv6,hH6,hg6⟩
      obtain ⟨A6,q6,rfl⟩:=hv6.val
      rw [← HLN.out]
      have hH7:Holds w6 ((mb,moO f q)::(Hs++(Hc++allOf W))):=by
       have h:Holds w6 (H6++(Hs++((mb,moO f q)::(Hc++allOf W)))):=hH6
       exact h.p
      have hG7:=hG5.trans hg6
      clear hv6 hH6 hg6 HBK hG5 hH5
      by_cases hz:ln=0
      ·have hzI:((ln:Int) == 0)=true:=by simp [hz]
       have HZ:=Lib.hid hz
       clear hz
       go_wp2_with fail
       go_roundw
       case rel=>exact ⟨j+1,by omega,by go_num,congrArg (Value.int .i64) (by have h1:=HS1.out;rw [HFB.out,← HLN.out,HZ.out] at h1;rw [h1];simp;have:=HLZ.out;omega),congrArg (Value.int .i64) (by have h1:=HS2.out;rw [if_neg (by simp)] at h1;rw [h1];exact HBZ.out),hH7,hG7⟩
       case measure=>simp [intOf];omega
      ·have hzI:((ln:Int) == 0)=false:=beq_eq_false_iff_ne.2 (by omega)
       have HZ:=Lib.hid hz
       clear hz
       go_wp2_with fail
       go_roundw
       case rel=>exact ⟨j+1,by omega,by go_num,congrArg (Value.int .i64) (by have h1:=HS1.out;rw [HFB.out,← HLN.out,decide_eq_false HZ.out] at h1;rw [h1];simpa using HLZ.out),congrArg (Value.int .i64) (by have h1:=HS2.out;rw [if_neg (by simp)] at h1;rw [h1];exact HBZ.out),hH7,hG7⟩
       case measure=>simp [intOf];omega
    ·have hj16i:¬ (j:Int)<16:=by omega
     obtain rfl:j=16:=by omega
     have HRM2:=Lib.hid (HRM.out wr ((mb,moO f q)::allOf W) (hH5.p))
     have hge:lz - 4≤(n:Int):=by have h1:=HGEE.out;have h2:=HLZ.out;omega
     have hlw:IntKind.i64.wrap (lz - 4)=lz - 4:=wrap_i64_id (by omega) (by omega)
     have hlw2:wrap64 (lz - 4)=lz - 4:=by unfold wrap64;omega
     have hn64:(n:Int)≤64:=by have:=HLE.out;omega
     have hn64':¬ (64:Int)<(n:Int):=by omega
     have hge':¬ (n:Int)<lz - 4:=by omega
     clear hH5 hge
     go_wp2_with fail
     refine HRM2.out.mono ?_
     rintro e w6 ⟨rfl,hH6,hg6⟩
     have hG6:=hG5.trans hg6
     have hbd2:=HBDF.out w6 ((mb,moO f q)::allOf W) hH6
     rw [← HBZ.out] at hbd2
     have HBD2:=Lib.hid hbd2
     clear hG5 hg6 hbd2 hH6 HRM2
     go_wp2_with fail
     refine HBD2.out.mono ?_
     rintro e w7 ⟨rfl,hH7,hg7⟩
     have hG7:=hG6.trans hg7
     have hst3:FlTo16 n sb cb g cap mv W [(mb,moO f q)] (.int .i64 0) w7:=⟨0,s,c,Hs,Hc,by omega,rfl,by simpa using HRI.out,by have:=HOP.out;omega,HS.out,HC.out,hH7,hG7⟩
     clear hG6 hg7 hH7 HBD2 hG7 HS HC HRI HBDF HRM
     go_wp2_with fail
     clear hn64' hge'
     go_loopw [15] (fun iv wr=>FlTo16 n sb cb g cap mv W [(mb,moO f q)] iv wr) (fun i _=>n - (intOf i).toNat)
     case atStart=>exact hst3
     case round =>
      clear hst3 hlw hlw2 hl1 hb1 hj16 hj16i hj
      obtain ⟨i,s2,c2,Hs2,Hc2,hi,rfl,hR,hop2,hs2,hch2,hH8,hG8⟩:=hrel
      have HFL:=Lib.hid (fun (w:World) (F:HL) (z:Int) (h:Holds w F)=>fill_any z 128 w F h (by decide))
      have HPU:=Lib.hid (fun (h4:Hd) (hin:HdIn h4) (z:Int) (w:World) (F:HL) (dv:Value) (h:Holds w (Hs2++(Hc2++F))) (hf:FrBytes (Hs2++(Hc2++F)) dv (fillL z 128))=>put_any h4 (fillL z 128) dv hs2 hch2 h hR.cont.yok (by rw [hR.geo.1];omega) (by omega) hR.cont.B hR.cont.Z hf hin)
      have HDL:=Lib.hid (fun z:Int=>fillL_len z)
      by_cases hin2:i<n
      ·have hinI:(i:Int)<(n:Int):=by omega
       have hw1:IntKind.i64.wrap (1000+(i:Int))=1000+i:=wrap_i64_id (by omega) (by omega)
       have hw3:IntKind.i64.wrap ((i:Int)+1)=i+1:=wrap_sm hin2 hn64
       obtain ⟨hp0,hp1,hp2⟩:=hR.put (h:=⟨4,0,1000+(i:Int),0⟩) (d:=fillL i 128) (hd4_may (by omega) (by omega)) (hd4_in _) (HDL.out _) (by omega)
       have HPW:=Lib.hid (HPU.out ⟨4,0,1000+(i:Int),0⟩ (hd4_in _) (i:Int))
       rw [show (⟨4,0,1000+(i:Int),0⟩:Hd).agg=.agg #[.int .i64 4,.int .u64 0,.int .i64 (1000+(i:Int)),.int .i64 0] from rfl] at HPW
       have HF:=Lib.hid (HFL.out wr _ (i:Int) hH8)
       have HD:=Lib.hid (HDL.out (i:Int))
       generalize putA s2 c2 ⟨4,0,1000+(i:Int),0⟩ (fillL i 128)=r at *
       generalize fillL (i:Int) 128=D at *
       obtain ⟨s5,c5,p5,code5⟩:=r
       dsimp only at hp0 hp1 hp2
       subst hp0
       have HR5:=Lib.hid hp1
       have HO5:=Lib.hid hp2
       have HG8:=Lib.hid hG8
       clear hp1 hp2 hR hs2 hch2 hH8 hG8 HPU HFL HDL
       have hw2:wrap64 (1000+(i:Int))=1000+i:=by unfold wrap64;omega
       go_wp2_with fail
       clear hw2
       refine HF.out.mono ?_
       rintro e w9 ⟨v9,H9,rfl,hb9,hH9,hg9⟩
       have hG9:=HG8.out.trans hg9
       have HPX:=Lib.hid (HPW.out w9 (H9++([(mb,moO f q)]++allOf W)) v9 (hH9.p) (fun wx hx=>hb9.at_ (Fr:=Hs2++(Hc2++([(mb,moO f q)]++allOf W))) (hx.p)))
       obtain ⟨A9,q9,rfl⟩:=hb9.val
       rw [HD.out] at HPX ⊢
       clear hH9 hg9 HPW hb9 HG8 HF
       go_wp2_with fail
       refine HPX.out.mono ?_
       rintro e wA ⟨veA,HeA,HsA,HcA,rfl,heA,hsA,hchA,hHA,hgA⟩
       dsimp only at heA hsA hchA
       obtain ⟨rfl,rfl⟩:=isErr0 heA
       have hGA:=hG9.trans hgA
       have hHB:Holds wA (HsA++(HcA++([(mb,moO f q)]++allOf W))):=by
        have h6:Holds wA (HsA++(HcA++([]++(H9++([(mb,moO f q)]++allOf W))))):=hHA
        exact h6.p
       have hrm:=room_any hsA hchA hHB (by rw [HR5.out.geo.1];omega)
       rw [HR5.out.room] at hrm
       rw [show (n:Int) - (i:Int) - 1=(n:Int) - 1 - (i:Int) by omega] at hrm
       have HRMA:=Lib.hid hrm
       have HSA:=Lib.hid hsA
       have HCA:=Lib.hid hchA
       clear heA hsA hchA hHA hgA hG9 HPX hHB hrm
       go_wp2_with fail
       refine HRMA.out.mono ?_
       rintro e wB ⟨rfl,hHB,hgB⟩
       have hGB:=hGA.trans hgB
       clear hgB hGA HRMA
       obtain ⟨hw4,hw5,hw6,hw7⟩:=wrap_sb hin2 hn64
       go_wp2_with fail
       clear hw4 hw5 hw6 hw7
       have q4:FlTo16 n sb cb g cap mv W [(mb,moO f q)] (.int .i64 ((i:Int)+1)) wB:=⟨i+1,s5,c5,HsA,HcA,by omega,by go_num,by have:=HR5.out;rw [show (n:Int) - (i:Int) - 1=(n:Int) - (i+1:Nat) by omega] at this;exact this,by have:=HO5.out;omega,HSA.out,HCA.out,hHB,hGB⟩
       refine ⟨q4,?_⟩
       simp [intOf];omega
      ·have hinI:¬ (i:Int)<(n:Int):=by omega
       obtain rfl:i=n:=by omega
       have hR0:RoomI 0 s2 c2:=by rw [show (0:Int)=(i:Int) - i by omega];exact hR
       have hfu:=hR0.full (h:=⟨4,0,5000,0⟩) (d:=fillL 0 128) (hd4_may (by omega) (by omega)) (hd4_in _) (HDL.out _)
       have hba:=put_bad s2 c2 (fillL 0 128)
       have HPF:=Lib.hid (HPU.out ⟨4,0,5000,0⟩ (hd4_in _) 0)
       rw [hfu,show (⟨4,0,5000,0⟩:Hd).agg=.agg #[.int .i64 4,.int .u64 0,.int .i64 5000,.int .i64 0] from rfl] at HPF
       have HMIS:=Lib.hid hR0.mis
       have HZ:=Lib.hid hR0
       have HF:=Lib.hid (HFL.out wr _ 0 hH8)
       have HD:=Lib.hid (HDL.out 0)
       have HOP2:=Lib.hid hop2
       clear hfu hR hR0 hH8 HPU HDL hs2 hch2 hop2
       have HBA:=Lib.hid hba
       clear hba
       have HFA:=Lib.hid (show ∀ (w:World) (F:HL),Holds w F→Calls Tryz.prog 16 #[.int .i64 0,.int .i64 128] w (RetNew (fun v H=>IsBytes v (fillL 0 128) H) w F) from fun w F h=>HFL.out w F 0 h)
       clear HFL
       generalize fillL (0:Int) 128=D at *
       go_wp2_with fail
       refine HF.out.mono ?_
       rintro e w9 ⟨v9,H9,rfl,hb9,hH9,hg9⟩
       have hG9:=hG8.trans hg9
       have HPX:=Lib.hid (HPF.out w9 (H9++([(mb,moO f q)]++allOf W)) v9 (hH9.p) (fun wx hx=>hb9.at_ (Fr:=Hs2++(Hc2++([(mb,moO f q)]++allOf W))) (hx.p)))
       obtain ⟨A9,q9,rfl⟩:=hb9.val
       rw [HD.out] at HPX ⊢
       clear hH9 hg9 HPF hb9 HF hG8
       go_wp2_with fail
       refine HPX.out.mono ?_
       rintro e wA ⟨veA,HeA,HsA,HcA,rfl,heA,hsA,hchA,hHA,hgA⟩
       dsimp only at heA hsA hchA
       obtain ⟨bA,xA,rfl,_⟩:=isErrP8 heA (show (7:Int)≠0 by decide)
       have hGA:=hG9.trans hgA
       have hHB:Holds wA (HsA++(HcA++(HeA++(H9++([(mb,moO f q)]++allOf W))))):=hHA
       have HF2:=Lib.hid (HFA.out wA _ hHB)
       have HPB:=Lib.hid (fun (w:World) (F:HL) (dv:Value) (h:Holds w (HsA++(HcA++F))) (hf:FrBytes (HsA++(HcA++F)) dv D)=>put_any Hd.zero D dv hsA hchA h HZ.out.cont.yok (by rw [HZ.out.geo.1];omega) (by have:=HOP2.out;have:=HLE.out;omega) HZ.out.cont.B HZ.out.cont.Z hf (by show (0:Int)≤0∧(0:Int)<_;omega))
       rw [HBA.out,show Hd.zero.agg=.agg #[.int .i64 0,.int .u64 0,.int .i64 0,.int .i64 0] from rfl] at HPB
       have HEA:=Lib.hid heA
       clear heA hsA hchA hHA hgA hG9 HPX hHB HFA
       go_wp2_with fail
       refine HF2.out.mono ?_
       rintro e wB ⟨vB,HB,rfl,hbB,hHB,hgB⟩
       have hGB:=hGA.trans hgB
       have HPX:=Lib.hid (HPB.out wB (HB++(HeA++(H9++([(mb,moO f q)]++allOf W)))) vB (hHB.p) (fun wx hx=>hbB.at_ (Fr:=HsA++(HcA++(HeA++(H9++([(mb,moO f q)]++allOf W))))) (hx.p)))
       obtain ⟨AB,qB,rfl⟩:=hbB.val
       rw [HD.out] at HPX ⊢
       clear hHB hgB HPB hbB HF2 hGA
       go_wp2_with fail
       refine HPX.out.mono ?_
       rintro e wC ⟨veC,HeC,HsC,HcC,rfl,heC,hsC,hchC,hHC,hgC⟩
       dsimp only at heC hsC hchC
       obtain ⟨bC,xC,rfl,_⟩:=isErrP8 heC (show (2:Int)≠0 by decide)
       have hGC:=hGB.trans hgC
       have hHD:Holds wC (HsC++(HcC++(HeC++(HB++(HeA++(H9++([(mb,moO f q)]++allOf W))))))):=hHC
       have HN7:=Lib.hid (num_any _ 7 HeA _ wC HEA.out (hHD.p:Holds wC (HeA++(HsC++(HcC++(HeC++(HB++(H9++([(mb,moO f q)]++allOf W)))))))) (by omega))
       have HN2:=Lib.hid (num_any _ 2 HeC _ wC heC (hHD.p:Holds wC (HeC++(HsC++(HcC++(HeA++(HB++(H9++([(mb,moO f q)]++allOf W)))))))) (by omega))
       have hmi:=nmisuse_any hchC (hHD.p:Holds wC (HcC++(HsC++(HeC++(HB++(HeA++(H9++([(mb,moO f q)]++allOf W))))))))
       rw [HMIS.out] at hmi
       have HMI:=Lib.hid hmi
       have HAW:=Lib.hid (awake16_any wC (allOf W) (hHD.p))
       clear heC hsC hchC hHC hgC hGB HPX hHD hmi
       go_wp2_with fail
       refine HN7.out.mono ?_
       rintro e wx ⟨rfl,rfl⟩
       go_wp2_with fail
       refine HN2.out.mono ?_
       rintro e wx ⟨rfl,rfl⟩
       go_wp2_with fail
       refine HMI.out.mono ?_
       rintro e wx ⟨rfl,rfl⟩
       go_wp2_with fail
       refine HAW.out.mono ?_
       rintro e wy ⟨rfl,hHy,hgy⟩
       have hGy:=hGC.trans hgy
       clear HAW hgy hGC
       go_wp2_with fail
       go_ret
       exact ⟨rfl,hHy,hGy⟩
end Go.Proofs.YtoelopghilbfeaaGreat
