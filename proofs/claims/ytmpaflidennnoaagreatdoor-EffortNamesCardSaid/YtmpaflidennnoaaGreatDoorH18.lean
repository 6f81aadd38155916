/- The parts RTimes, ROver, RNat, RMade, RCheck of a proof, put together by program (merge7.py). -/
import Derived.Test.YtmpaflidennnoaaGreatDoorH17
import Derived.Test.YtmpaflidennnoaaGreatDoorH03
import Derived.Test.YtmpaflidennnoaaGreatDoorH01
import Derived.Test.YtmpaflidennnoaaGreatDoorH11
import Derived.Deep.RegionHeld3
import Derived.Deep.DrawnRows
set_option linter.unusedVariables false
set_option linter.unusedSimpArgs false
namespace Go.Proofs.YtmpaflidennnoaaGreatDoor
open Go.RowKit
theorem Zme {k:IntKind} {w:World} {b off:Nat} {xs ys:List Nat} (h1:At k w b off xs) (h2:At k w b off ys) (hl:xs.length=ys.length):xs=ys:=by
 refine List.ext_getElem hl fun j h3 h4=>?_
 have h5:=(h1 j h3).symm.trans (h2 j h4)
 injection h5 with h5
 injection h5 with _ h5
 omega
theorem PNum.unique {w:World} {v:Value} {n m:Nat} (h10:PNum w v n) (h20:PNum w v m):n=m:=by
 obtain⟨p1,c1,rfl,_,_,h1⟩:=h10.1
 obtain⟨p2,c2,hv,_,_,h2⟩:=h20.1
 injection hv with e1 e2 e3
 have:Zd 10000 n=Zd 10000 m:=by
  by_cases hn:Zd 10000 n=[]
  ·rw[hn] at e2 ⊢
   exact(List.eq_nil_of_length_eq_zero e2.symm).symm
  ·have hm:Zd 10000 m≠[]:=fun h=>by rw[h] at e2;exact hn (List.eq_nil_of_length_eq_zero e2)
   obtain⟨b1,o1,rfl,_,a1⟩:=h1 hn
   obtain⟨b2,o2,hb,_,a2⟩:=h2 hm
   rw[← e1] at hb
   injection hb with hb
   injection hb with hb1 hb2
   subst hb1;subst hb2
   exact Zme a1 a2 e2
 have h3:=congrArg (val 10000) this
 rwa [Zr (by omega),Zr (by omega)] at h3
theorem ZlB {l:List UInt8} (h:∀ j (hj:j<l.length),ZB l[j]=true):l.all ZB=true:=by
 rw[List.all_eq_true]
 intro x hx
 obtain⟨j,hj,rfl⟩:=List.getElem_of_mem hx
 exact h j hj
def Zd2 (s:ByteArray) (k:Nat):Prop:=∀ j (h:j<s.data.toList.length),j<k→ZB s.data.toList[j]=true
theorem Zd2.next {s:ByteArray} {k:Nat} (h:Zd2 s k) (hk:k<s.size) (hd:ZB s[k]=true):Zd2 s (k+1):=by
 intro j h1 h2
 rcases Nat.lt_or_ge j k with h3 | h3
 ·exact h j h1 h3
 ·obtain rfl:j=k:=by omega
  exact hd
theorem Zd2.start (s:ByteArray):Zd2 s 0:=by
 intro j _ h
 exact absurd h (by omega)
theorem Zd2.done {s:ByteArray} (h:Zd2 s s.size):s.data.toList.all ZB=true:=ZlB fun j hj=>h j hj (by have h2:=hj;rw[Zs] at h2;exact h2)
end Go.Proofs.YtmpaflidennnoaaGreatDoor
namespace Go.Proofs.YtmpaflidennnoaaGreatDoor
open Go.RowKit Go.Shelf
attribute [local go_sem ↓] Go.wp_at_zero Go.wp_at_succ
structure ROk (s t:ByteArray) (n d:Nat):Prop where
 ds:∀ c ∈ s.data.toList,ZB c=true
 dt:∀ c ∈ t.data.toList,ZB c=true
 ls:(Zd 10000 n).length≤150
 lt:(Zd 10000 d).length≤150
 pos:0<d
end Go.Proofs.YtmpaflidennnoaaGreatDoor
