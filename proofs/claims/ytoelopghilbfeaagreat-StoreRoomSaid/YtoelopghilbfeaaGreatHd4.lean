/-
  Package head, plain: what was laid is read.
-/
import Derived.Test.YtoelopghilbfeaaGreatHd3
namespace Go.Proofs.YtoelopghilbfeaaGreat
open Go.RowKit
set_option linter.unusedSimpArgs false
set_option linter.unusedVariables false
theorem pow8 (i:Nat):(2:Int) ^ (8 * i)=256 ^ i:=by rw [Int.pow_mul];rfl
theorem bigN_fixTo (n:Int) (m:Nat) (h0:0≤n) (h1:n<256 ^ m):∀ j,j≤m→bigN (fixTo n m j)=n / 256 ^ (m - j):=by
 intro j
 induction j with
 |zero =>
  intro _
  rw [Nat.sub_zero,Int.ediv_eq_zero_of_lt h0 h1]
  rfl
 |succ j ih =>
  intro hj
  have e:fixTo n m (j+1)=fixTo n m j++[byteN n (m - 1 - j)]:=by unfold fixTo;rw [List.range_succ,List.map_append];rfl
  obtain ⟨e1,he1⟩:∃ e1,m - (j+1)=e1:=⟨_,rfl⟩
  rw [e,bigN_snoc,ih (by omega),show m - j=e1+1 by omega,show m - 1 - j=e1 by omega,he1]
  unfold byteN
  rw [pow8,Int.pow_succ,← Int.ediv_ediv_of_nonneg (Int.pow_nonneg (by decide))]
  generalize n / 256 ^ e1=q
  have hq:(UInt8.ofNat ((q % 256).toNat)).toNat=(q % 256).toNat:=by
   rw [UInt8.toNat_ofNat']
   omega
  rw [hq]
  omega
theorem bigN_fix {n:Int} {m:Nat} (h0:0≤n) (h1:n<256 ^ m):bigN (fixL n m)=n:=by
 unfold fixL
 rw [bigN_fixTo n m h0 h1 m (Nat.le_refl _),Nat.sub_self,Int.pow_zero,Int.ediv_one]
theorem mid_ {α:Type} {A B C:List α} {n m:Nat} (hn:A.length=n) (hm:B.length=m):((A++(B++C)).drop n).take m=B:=by
 subst hn hm
 rw [List.drop_left,List.take_left]
theorem hdOf_lay (d:List UInt8) (h:Hd) (hm:h.may=true) (hi:HdIn h):hdOf (layL d h) d.length=h:=by
 have hb:=Hd.may_bd hm
 obtain ⟨i1,i2⟩:=hi
 have e:layL d h=d++([byteN h.k 0]++(fixL h.a 8++(fixL h.s 5++(fixL h.g 3++(fixL 0 6++(fixL (sumF (preL d h)) 4++[0])))))):=by
  simp only [layL,preL,List.append_assoc]
 generalize fixL 0 6++(fixL (sumF (preL d h)) 4++[0])=R at e
 unfold hdOf
 have e1:(layL d h).getD d.length 0=byteN h.k 0:=by rw [e];simp [List.getD_eq_getElem?_getD]
 have e2:((layL d h).drop (d.length+1)).take 8=fixL h.a 8:=by
  rw [e,← List.append_assoc d]
  exact mid_ (by simp) (fixL_len _ _)
 have e3:((layL d h).drop (d.length+9)).take 5=fixL h.s 5:=by
  rw [e,← List.append_assoc d,← List.append_assoc (d++_)]
  exact mid_ (by simp [fixL_len]) (fixL_len _ _)
 have e4:((layL d h).drop (d.length+14)).take 3=fixL h.g 3:=by
  rw [e,← List.append_assoc d,← List.append_assoc (d++_),← List.append_assoc ((d++_)++_)]
  exact mid_ (by simp [fixL_len]) (fixL_len _ _)
 rw [e1,e2,e3,e4,bigN_fix i1 (by simpa using i2),bigN_fix (by omega) (by have:=hb.2.2.2.1;omega),bigN_fix hb.2.2.2.2.1 (by have:=hb.2.2.2.2.2;omega)]
 have hk:(((byteN h.k 0).toNat:Nat):Int)=h.k:=by
  unfold byteN
  rw [UInt8.toNat_ofNat']
  simp
  omega
 rw [hk]
theorem readF_lay (d:List UInt8) (h:Hd) (hs:sizedB d.length=true) (hm:h.may=true) (hi:HdIn h):readF (layL d h)=some (d,h):=by
 have hl:=layL_len d h
 have e1:(layL d h).length - 28=d.length:=by omega
 have e2:((layL d h).length:Int) - 28=d.length:=by omega
 have e3:(layL d h).take d.length=d:=by
  unfold layL preL
  simp only [List.append_assoc]
  exact List.take_left
 unfold readF
 rw [e1,e2,hdOf_lay d h hm hi,e3,if_pos ⟨hs,hm,rfl⟩]
theorem readF_last {raw:List UInt8} (h:raw.getLast?≠some 0):readF raw=none:=by
 unfold readF
 rw [if_neg]
 rintro ⟨_,_,h3⟩
 refine h ?_
 rw [← h3]
 unfold layL
 simp
end Go.Proofs.YtoelopghilbfeaaGreat
