/-
  Chapter 7's own May: mishaps that may be; told true, they are such.
-/
import Derived.Test.YtoelopghilbfeaaGreatMi2
import Derived.BigQuiet
namespace Go.Proofs.YtoelopghilbfeaaGreat
open Go.RowKit
set_option linter.unusedSimpArgs false
set_option linter.unusedVariables false
def RetMay (ms:List Mi) (w:World) (Fr:HL) (e:Ending) (w':World):Prop:=∃ b:Bool,e=.returned (.bool b)∧(b=true→MsMay ms)∧Holds w' Fr∧Grew w w'
def MsAtOk (ms:List Mi) (k:Nat):Prop:=∀ m,ms[k]?=some m→m.ok∧∀ j,k=j+1→∀ m',ms[j]?=some m'→m'.at_<m.at_
def MgTo (ms:List Mi) (w:World) (Fr:HL) (iv:Value) (wr:World):Prop:=∃ k:Nat,k≤ms.length∧iv=.int .i64 k∧(∀ i,i<k→MsAtOk ms i)∧Holds wr Fr∧Grew w wr
theorem msMay_of {ms:List Mi} (h24:ms.length≤24) (h:∀ i,i<ms.length→MsAtOk ms i):MsMay ms:=by
 refine ⟨h24,?_,?_⟩
 ·intro m hm
  obtain ⟨i,hi,rfl⟩:=List.getElem_of_mem hm
  exact (h i hi _ (List.getElem?_eq_getElem hi)).1
 ·rw [List.pairwise_iff_getElem]
  intro i j hi hj hij
  have:∀ d:Nat,∀ (hd:i+d+1<ms.length),ms[i].at_<ms[i+d+1].at_:=by
   intro d
   induction d with
   |zero=>intro hd;exact (h (i+1) (by omega) _ (List.getElem?_eq_getElem (by omega))).2 i rfl _ (List.getElem?_eq_getElem hi)
   |succ d ih =>
    intro hd
    have h1:=ih (by omega)
    have h2:=(h (i+d+1+1) (by omega) _ (List.getElem?_eq_getElem (by omega))).2 (i+d+1) rfl _ (List.getElem?_eq_getElem (by omega))
    exact Int.lt_trans h1 h2
  obtain ⟨d,rfl⟩:∃ d,j=i+d+1:=⟨j - i - 1,by omega⟩
  exact this d hj
set_option maxRecDepth 20000 in
set_option maxHeartbeats 4000000 in
theorem r7may_any (v:Value) (ms:List Mi) (w:World) (Fr:HL) (hv:FrMs Fr v ms) (hH:Holds w Fr) (hlen:ms.length≤30) :
  Calls Tryz.prog 27 #[v] w (RetMay ms w Fr):=by
 have HV:=Lib.hid hv
 have hv0:=hv w hH
 obtain ⟨_,A,c,rfl,hc1,hc2,hrd⟩:=hv0
 have hg0:=Grew.refl w
 clear hv hrd hc1 hc2
 go_enter Tryz.func27,Tryz.ntmps27
 go_wp2_with fail
 go_loopw [3] (fun iv wr=>MgTo ms w Fr iv wr) (fun iv _=>ms.length - (intOf iv).toNat)
 case atStart=>exact ⟨0,by omega,rfl,fun i h=>absurd h (by omega),hH,hg0⟩
 case round =>
  clear hH hg0
  obtain ⟨k,hk,rfl,hin,hHr,hgr⟩:=hrel
  have HIN:=Lib.hid hin
  clear hin
  by_cases h24:ms.length≤24
  ·have h24i:(ms.length:Int)≤24:=by omega
   by_cases hlt:k<ms.length
   ·have hltI:(k:Int)<ms.length:=by omega
    obtain ⟨h1x,A2,c2,hv2,h2x,h3x,hrd⟩:=HV.out wr hHr
    injection hv2 with hv21 hv22 hv23
    subst hv21;subst hv23
    clear hv22 h1x h2x h3x
    obtain ⟨b,o,rfl,hcl⟩:=hrd (by omega)
    have hflat:∀ (j:Nat) (hj:j<ms.length) (q:Nat),q<4→((ms.map Mi.cells).flatten)[j * 4+q]?=(ms[j]).cells[q]?:=fun j hj q hq =>
     flat_get (size:=4) (ms.map Mi.cells) (fun x hx=>by obtain ⟨m,_,rfl⟩:=List.mem_map.1 hx;rfl) j q _ (by rw [List.getElem?_map,List.getElem?_eq_getElem hj];rfl) hq
    have y0:=hcl (k * 4) (.int .i64 (ms[k]).at_) (by rw [← Nat.add_zero (k * 4),hflat k hlt 0 (by omega)];rfl)
    have y1:wr.cell? ⟨b,o+k * 4+1,none⟩=some (.int .i64 (ms[k]).kind):=by rw [Nat.add_assoc];exact hcl (k * 4+1) _ (by rw [hflat k hlt 1 (by omega)];rfl)
    have y2:wr.cell? ⟨b,o+k * 4+2,none⟩=some (.int .i64 (ms[k]).bytes):=by rw [Nat.add_assoc];exact hcl (k * 4+2) _ (by rw [hflat k hlt 2 (by omega)];rfl)
    have y3:wr.cell? ⟨b,o+k * 4+3,none⟩=some (.int .u8 ((ms[k]).fill.toNat:Int)):=by rw [Nat.add_assoc];exact hcl (k * 4+3) _ (by rw [hflat k hlt 3 (by omega)];rfl)
    have HPV:Hid (∀ j:Nat,k=j+1→∃ z:Int,(z<(ms[k]).at_→∀ m',ms[j]?=some m'→m'.at_<(ms[k]).at_)∧∀ (wx:World),Holds wx Fr→wx.cell? ⟨b,o+j * 4,none⟩=some (.int .i64 z)):=Lib.hid (fun j hj=>by
     have hjl:j<ms.length:=by omega
     refine ⟨(ms[j]).at_,fun hz m' hm'=>by rw [List.getElem?_eq_getElem hjl] at hm';injection hm' with hm';rw [← hm'];exact hz,fun wx hx=>?_⟩
     obtain ⟨_,A3,c3,hv3,_,_,hrd3⟩:=HV.out wx hx
     injection hv3 with hv31 hv32 hv33
     subst hv31;subst hv33
     obtain ⟨b3,o3,he,hcl3⟩:=hrd3 (by omega)
     injection he with he
     injection he with he1 he2
     subst he1 he2
     exact hcl3 (j * 4) _ (by rw [← Nat.add_zero (j * 4),hflat j hjl 0 (by omega)];rfl))
    have HMK:=Lib.hid (show ∀ m,ms[k]?=some m→m=ms[k] from fun m hm=>by rw [List.getElem?_eq_getElem hlt] at hm;injection hm with hm;exact hm.symm)
    generalize ms[k]=m at *
    obtain ⟨ma,mk,mb,mf⟩:=m
    dsimp only at y0 y1 y2 y3 HPV
    have hHA:=hHr.alloc (.cells #[.int .i64 ma,.int .i64 mk,.int .i64 mb,.int .u8 (mf.toNat:Int)] 48)
    have hGA:=hgr.alloc (.cells #[.int .i64 ma,.int .i64 mk,.int .i64 mb,.int .u8 (mf.toNat:Int)] 48)
    have HLT:=Lib.hid hlt
    clear hcl hrd hflat hHr hgr hlt hk
    go_upto_region 5 with fail
    clear y0 y1 y2 y3
    generalize wr.alloc (.cells #[.int .i64 ma,.int .i64 mk,.int .i64 mb,.int .u8 (mf.toNat:Int)] 48)=wA at *
    generalize wr.heap.size=t at *
    have x0:=hHA.hcell 0
    have x1:=hHA.hcell 1
    have x2:=hHA.hcell 2
    simp only [List.getElem?_toArray,List.getElem?_cons_zero,List.getElem?_cons_succ] at x0 x1 x2
    have HADD:=Lib.hid (show (⟨ma,mk,mb,mf⟩:Mi).ok→(∀ j,k=j+1→∀ m',ms[j]?=some m'→m'.at_<ma)→∀ i,i<k+1→MsAtOk ms i from fun h1 h2 i hi=>by
     rcases Nat.lt_or_ge i k with h | h
     ·exact HIN.out i h
     ·obtain rfl:i=k:=by omega
      intro m hm
      rw [HMK.out m hm]
      exact ⟨h1,h2⟩)
    by_cases c1:ma<1
    ·go_quiet (fail)
     go_wp2_with fail
     go_ret
     exact ⟨false,rfl,fun h=>absurd h (by simp),hHA.tail.drewN _,hGA.trans (Grew.dr ⟨_,rfl⟩)⟩
    ·have dc1:decide (ma<1)=false:=decide_eq_false c1
     by_cases c2:1073741824<ma
     ·go_quiet (fail)
      go_wp2_with fail
      go_ret
      exact ⟨false,rfl,fun h=>absurd h (by simp),hHA.tail.drewN _,hGA.trans (Grew.dr ⟨_,rfl⟩)⟩
     ·have dc2:decide (1073741824<ma)=false:=decide_eq_false c2
      rcases Nat.eq_zero_or_pos k with hk0 | hk0
      ·subst hk0
       by_cases c4:mk=1
       ·subst c4
        by_cases c6:mb<0
        ·go_quiet (fail)
         go_wp2_with fail
         go_ret
         exact ⟨false,rfl,fun h=>absurd h (by simp),hHA.tail.drewN _,hGA.trans (Grew.dr ⟨_,rfl⟩)⟩
        ·have dc6:decide (mb<0)=false:=decide_eq_false c6
         by_cases c7:65536<mb
         ·go_quiet (fail)
          go_wp2_with fail
          go_ret
          exact ⟨false,rfl,fun h=>absurd h (by simp),hHA.tail.drewN _,hGA.trans (Grew.dr ⟨_,rfl⟩)⟩
         ·have dc7:decide (65536<mb)=false:=decide_eq_false c7
          go_quiet (fail)
          go_wp2_with fail
          exact ⟨⟨0+1,by have:=HLT.out;omega,by go_num,fun i hi=>HADD.out ⟨by show 1≤ma;omega,by show ma≤1073741824;omega,by first | exact Or.inl rfl | exact Or.inr rfl,by show 0≤mb;omega,by show mb≤65536;omega⟩ (fun j hj=>absurd hj (by omega)) i hi,hHA.tail.drewN _,hGA.trans (Grew.dr ⟨_,rfl⟩)⟩,by have:=HLT.out;simp [intOf];omega⟩
       ·have d4:(mk == 1)=false:=beq_eq_false_iff_ne.2 c4
        have e4:(mk != 1)=true:=by simpa using c4
        by_cases c5:mk=2
        ·subst c5
         by_cases c6:mb<0
         ·go_quiet (fail)
          go_wp2_with fail
          go_ret
          exact ⟨false,rfl,fun h=>absurd h (by simp),hHA.tail.drewN _,hGA.trans (Grew.dr ⟨_,rfl⟩)⟩
         ·have dc6:decide (mb<0)=false:=decide_eq_false c6
          by_cases c7:65536<mb
          ·go_quiet (fail)
           go_wp2_with fail
           go_ret
           exact ⟨false,rfl,fun h=>absurd h (by simp),hHA.tail.drewN _,hGA.trans (Grew.dr ⟨_,rfl⟩)⟩
          ·have dc7:decide (65536<mb)=false:=decide_eq_false c7
           go_quiet (fail)
           go_wp2_with fail
           exact ⟨⟨0+1,by have:=HLT.out;omega,by go_num,fun i hi=>HADD.out ⟨by show 1≤ma;omega,by show ma≤1073741824;omega,by first | exact Or.inl rfl | exact Or.inr rfl,by show 0≤mb;omega,by show mb≤65536;omega⟩ (fun j hj=>absurd hj (by omega)) i hi,hHA.tail.drewN _,hGA.trans (Grew.dr ⟨_,rfl⟩)⟩,by have:=HLT.out;simp [intOf];omega⟩
        ·have d5:(mk == 2)=false:=beq_eq_false_iff_ne.2 c5
         have e5:(mk != 2)=true:=by simpa using c5
         clear c4 c5
         go_quiet (fail)
         go_wp2_with fail
         go_ret
         exact ⟨false,rfl,fun h=>absurd h (by simp),hHA.tail.drewN _,hGA.trans (Grew.dr ⟨_,rfl⟩)⟩
      ·obtain ⟨j,rfl⟩:∃ j,k=j+1:=⟨k - 1,by omega⟩
       obtain ⟨z,hz,hzc⟩:=HPV.out j rfl
       have hzw:=hzc wA hHA.tail
       have HZ1:=Lib.hid hz
       obtain ⟨I,hI⟩:∃ I:Int,I=((j+1:Nat):Int):=⟨_,rfl⟩
       have hk1:(0:Int)<I:=by omega
       have hw1:IntKind.i64.wrap (I - 1)=(j:Int):=by rw [wrap_i64_id (by omega) (by have:=HLT.out;omega)];omega
       have hw2:wrap64 (I - 1)=(j:Int):=by unfold wrap64;have:=HLT.out;omega
       have hw5:IntKind.i64.wrap (I+1)=((j+2:Nat):Int):=by rw [wrap_i64_id (by omega) (by have:=HLT.out;omega)];omega
       have hw6:wrap64 (I+1)=((j+2:Nat):Int):=by unfold wrap64;have:=HLT.out;omega
       have hjl:(j:Int)<ms.length:=by have:=HLT.out;omega
       rw [← hI]
       have HI:=Lib.hid hI
       clear hz hzc hk0 hltI HPV hI
       by_cases c3:ma≤z
       ·go_quiet (fail)
        go_wp2_with fail
        go_ret
        exact ⟨false,rfl,fun h=>absurd h (by simp),hHA.tail.drewN _,hGA.trans (Grew.dr ⟨_,rfl⟩)⟩
       ·have dc3:decide (ma≤z)=false:=decide_eq_false c3
        by_cases c4:mk=1
        ·subst c4
         by_cases c6:mb<0
         ·go_quiet (fail)
          go_wp2_with fail
          go_ret
          exact ⟨false,rfl,fun h=>absurd h (by simp),hHA.tail.drewN _,hGA.trans (Grew.dr ⟨_,rfl⟩)⟩
         ·have dc6:decide (mb<0)=false:=decide_eq_false c6
          by_cases c7:65536<mb
          ·go_quiet (fail)
           go_wp2_with fail
           go_ret
           exact ⟨false,rfl,fun h=>absurd h (by simp),hHA.tail.drewN _,hGA.trans (Grew.dr ⟨_,rfl⟩)⟩
          ·have dc7:decide (65536<mb)=false:=decide_eq_false c7
           go_quiet (fail)
           go_wp2_with fail
           exact ⟨⟨j+1+1,by have:=HLT.out;omega,rfl,fun i hi=>HADD.out ⟨by show 1≤ma;omega,by show ma≤1073741824;omega,by first | exact Or.inl rfl | exact Or.inr rfl,by show 0≤mb;omega,by show mb≤65536;omega⟩ (fun j2 hj2=>by obtain rfl:j2=j:=by { omega };exact HZ1.out (by omega)) i hi,hHA.tail.drewN _,hGA.trans (Grew.dr ⟨_,rfl⟩)⟩,by have:=HLT.out;simp [intOf];omega⟩
        ·have d4:(mk == 1)=false:=beq_eq_false_iff_ne.2 c4
         have e4:(mk != 1)=true:=by simpa using c4
         by_cases c5:mk=2
         ·subst c5
          by_cases c6:mb<0
          ·go_quiet (fail)
           go_wp2_with fail
           go_ret
           exact ⟨false,rfl,fun h=>absurd h (by simp),hHA.tail.drewN _,hGA.trans (Grew.dr ⟨_,rfl⟩)⟩
          ·have dc6:decide (mb<0)=false:=decide_eq_false c6
           by_cases c7:65536<mb
           ·go_quiet (fail)
            go_wp2_with fail
            go_ret
            exact ⟨false,rfl,fun h=>absurd h (by simp),hHA.tail.drewN _,hGA.trans (Grew.dr ⟨_,rfl⟩)⟩
           ·have dc7:decide (65536<mb)=false:=decide_eq_false c7
            go_quiet (fail)
            go_wp2_with fail
            exact ⟨⟨j+1+1,by have:=HLT.out;omega,rfl,fun i hi=>HADD.out ⟨by show 1≤ma;omega,by show ma≤1073741824;omega,by first | exact Or.inl rfl | exact Or.inr rfl,by show 0≤mb;omega,by show mb≤65536;omega⟩ (fun j2 hj2=>by obtain rfl:j2=j:=by { omega };exact HZ1.out (by omega)) i hi,hHA.tail.drewN _,hGA.trans (Grew.dr ⟨_,rfl⟩)⟩,by have:=HLT.out;simp [intOf];omega⟩
         ·have d5:(mk == 2)=false:=beq_eq_false_iff_ne.2 c5
          have e5:(mk != 2)=true:=by simpa using c5
          clear c4 c5
          go_quiet (fail)
          go_wp2_with fail
          go_ret
          exact ⟨false,rfl,fun h=>absurd h (by simp),hHA.tail.drewN _,hGA.trans (Grew.dr ⟨_,rfl⟩)⟩
   ·have hnl:¬ (k:Int)<ms.length:=by omega
    obtain rfl:k=ms.length:=by omega
    clear hlt hk hnl
    have hres:=msMay_of h24 HIN.out
    go_wp2_with fail
    go_ret
    exact ⟨true,by simp,fun _=>hres,hHr,hgr⟩
  ·have h24i:¬ (ms.length:Int)≤24:=by omega
   have hres:(false=true→MsMay ms):=fun h=>absurd h (by simp)
   by_cases hlt:(k:Int)<ms.length
   ·go_wp2_with fail
    go_ret
    exact ⟨false,by simp,hres,hHr,hgr⟩
   ·go_wp2_with fail
    go_ret
    exact ⟨false,by simp,hres,hHr,hgr⟩
end Go.Proofs.YtoelopghilbfeaaGreat
