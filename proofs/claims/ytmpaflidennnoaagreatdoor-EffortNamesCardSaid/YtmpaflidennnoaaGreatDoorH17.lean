/- The parts RNum, RTrim, RParts, RDigits, RAppend, ROrder, RMinus of a proof, put together by program (merge7.py). -/
import Derived.Test.YtmpaflidennnoaaGreatDoorH02
import Derived.Test.YtmpaflidennnoaaGreatDoorH01
import Derived.Laws.AppendOwnNone
set_option linter.unusedVariables false
set_option linter.unusedSimpArgs false
namespace Go.Proofs.YtmpaflidennnoaaGreatDoor
def ZhP (l:List UInt8) (k:Nat):List UInt8:=l.take (l.length-4*k)
def hval (l:List UInt8) (k:Nat):Nat:=Zg ((ZhP l k).drop (l.length-4*k-4))
structure DigInv (xs:List Nat) (i k:Nat) (s:List UInt8):Prop where
 dig:∀ c ∈ s,ZB c=true
 len:s.length=4*i+k
 eq:Zg s=val 10000 (xs.take i)+10000 ^ i*(xs.getD i 0 % 10 ^ k)
theorem DigInv.start (xs:List Nat):DigInv xs 0 0 []:=⟨by simp,rfl,by simp[val,Zc4,Nat.mod_one]⟩
theorem DigInv.step {xs:List Nat} {i k:Nat} {s:List UInt8} (h:DigInv xs i k s) {p:Nat} (hp:p=xs.getD i 0/10 ^ k):DigInv xs i (k+1) (UInt8.ofNat (48+p % 10)::s):=by
 have hd:=ZcK (Nat.mod_lt p (by omega):p % 10<10)
 refine⟨fun c hc=>?_,by rw[List.length_cons,h.len];omega,?_⟩
 ·rcases List.mem_cons.1 hc with rfl | hc
  ·exact hd.2
  ·exact h.dig c hc
 ·rw[ZbX,hd.1,h.len,h.eq,Nat.mod_pow_succ,← hp,Nat.pow_add,Nat.pow_mul]
  have:(10:Nat) ^ 4=10000:=rfl
  rw[this]
  generalize p % 10=d
  generalize (10000:Nat) ^ i=a
  generalize (10:Nat) ^ k=b
  grind
theorem DigInv.next {xs:List Nat} {i:Nat} {s:List UInt8} (h:DigInv xs i 4 s) (hx:xs.getD i 0<10000):DigInv xs (i+1) 0 s:=by
 refine⟨h.dig,by rw[h.len];omega,?_⟩
 rw[h.eq,Nat.mod_eq_of_lt (show xs.getD i 0<10 ^ 4 from hx),Zw,Nat.pow_zero,Nat.mod_one]
 omega
theorem DigInv.done {xs:List Nat} {s:List UInt8} (h:DigInv xs xs.length 0 s):(∀ c ∈ s,ZB c=true)∧Zg s=val 10000 xs∧s.length=4*xs.length:=by
 refine⟨h.dig,?_,by rw[h.len];omega⟩
 rw[h.eq,List.take_of_length_le (Nat.le_refl _),Nat.pow_zero,Nat.mod_one]
 omega
theorem ZhZ (s:List UInt8):Zg (48::s)=Zg s:=by rw[ZbX];simp[dg1]
theorem Zkz {s:List UInt8} (hd:∀ c ∈ s,ZB c=true) (hn:s≠[]) (hh:¬ (1<s.length∧s.head?=some 48)):Go.Lib.decDigits (Zg s)=s:=
 Zdl hd hn fun h1 h2=>hh ⟨h1,h2⟩
theorem Zl1 (t:ByteArray) (a:Nat):(t.extract a t.size).data.toList=t.data.toList.drop a:=by
 rw[ByteArray.data_extract,Array.toList_extract,List.extract_eq_take_drop]
 exact List.take_of_length_le (by rw[List.length_drop,Zs];exact Nat.le_refl _)
theorem ZmP (s:ByteArray) (h:0<s.size):s.data.toList.head?=some 48↔(s[0].toNat:Int)=48:=by
 have h1:s.data.toList.head?=some s[0]:=by
  have:0<s.data.toList.length:=by rw[Zs];exact h
  rw[List.head?_eq_getElem?,List.getElem?_eq_getElem this]
  rfl
 rw[h1]
 constructor
 ·intro h2
  have:=Option.some.inj h2
  rw[this];rfl
 ·intro h2
  congr 1
  apply UInt8.toNat_inj.1
  have:(48:UInt8).toNat=48:=rfl
  omega
structure SumInv (B:Nat) (n m:List Nat) (k:Nat) (o:List Nat) (c:Nat):Prop where
 inv:PlusInv B n m k o c
 top:k=0∨B ^ (k-1)≤val B n+val B m
theorem SumInv.start (B:Nat) (n m:List Nat):SumInv B n m 0 [] 0:=⟨PlusInv.start B n m,.inl rfl⟩
theorem ZeL {B:Nat} (hB:1<B) {n k:Nat} (h:k<(Zd B n).length):B ^ k≤n:=by
 rcases Nat.lt_or_ge n (B ^ k) with h1 | h1
 ·have:=Zah hB h1;omega
 ·exact h1
theorem SumInv.step {B:Nat} (hB:1<B) {n m:Nat} {k:Nat} {o:List Nat} {c:Nat} (h:SumInv B (Zd B n) (Zd B m) k o c) {x:Nat} (hx:x=(Zd B n).getD k 0+c+(Zd B m).getD k 0)
  (hgo:k<(Zd B n).length∨k<(Zd B m).length∨0<c):SumInv B (Zd B n) (Zd B m) (k+1) (o++[x % B]) (x/B):=by
 refine⟨h.inv.step hB (Zz hB n) (Zz hB m) hx,.inr ?_⟩
 rw[Nat.add_sub_cancel,Zr hB,Zr hB]
 rcases Nat.lt_or_ge k (Zd B n).length with h1 | h1
 ·have:=ZeL hB h1;omega
 rcases Nat.lt_or_ge k (Zd B m).length with h2 | h2
 ·have:=ZeL hB h2;omega
 ·have hc:0<c:=by omega
  have h3:=h.inv.eq
  rw[List.take_of_length_le h1,List.take_of_length_le h2,Zr hB,Zr hB] at h3
  have h4:B ^ k*1≤B ^ k*c:=Nat.mul_le_mul_left _ hc
  omega
theorem SumInv.done {B:Nat} (hB:1<B) {n m:Nat} {k:Nat} {o:List Nat} (h:SumInv B (Zd B n) (Zd B m) k o 0) (h1:(Zd B n).length≤k) (h2:(Zd B m).length≤k):o=Zd B (n+m):=by
 have h3:=h.inv.eq
 rw[List.take_of_length_le h1,List.take_of_length_le h2,Zr hB,Zr hB,Nat.mul_zero,Nat.add_zero] at h3
 have h4:=Za3 hB h.inv.lt
 have h5:=h.top
 rw[Zr hB,Zr hB,← h3] at h5
 have hl:o.length≤(Zd B (val B o)).length:=by
  rw[h.inv.len]
  rcases h5 with rfl | h5
  ·omega
  ·have:=ZdA hB h5
   omega
 rw[List.take_of_length_le hl] at h4
 rw[← h3,h4]
theorem SumInv.bound {n m k c L:Nat} {o:List Nat} (h:SumInv 10000 (Zd 10000 n) (Zd 10000 m) k o c) (h1:(Zd 10000 n).length≤L) (h2:(Zd 10000 m).length≤L):k≤L+1:=by
 rcases h.top with rfl | h3
 ·omega
 ·rcases Nat.lt_or_ge (L+1) k with h4 | h4
  ·exfalso
   have a1:=ZS (Zz (B:=10000) (by omega) n)
   have a2:=ZS (Zz (B:=10000) (by omega) m)
   have b1:=Nat.pow_le_pow_right (n:=10000) (by omega) h1
   have b2:=Nat.pow_le_pow_right (n:=10000) (by omega) h2
   have b3:=Nat.pow_le_pow_right (n:=10000) (by omega) (show L+1≤k-1 by omega)
   rw[Nat.pow_succ] at b3
   omega
  ·exact h4
structure OverInv (B:Nat) (n:List Nat) (d:Nat) (k:Nat) (o:List Nat) (r:Nat):Prop where
 inv:ShortInv B n d k o r
 zero:∀ j,j<k→o.getD j 0=0
theorem OverInv.start {B:Nat} (hB:1<B) (n:List Nat) {d:Nat} (hd:0<d):OverInv B n d n.length (List.replicate n.length 0) 0:=
 ⟨ShortInv.start hB n hd,fun j _=>by simp only[List.getD,List.getElem?_replicate];split<;>rfl⟩
theorem OverInv.step {B:Nat} {n:List Nat} (hn:∀ y ∈ n,y<B) {d k:Nat} {o:List Nat} {r:Nat} (h:OverInv B n d (k+1) o r) (hk:k<n.length) {s:Nat} (hs:s=r*B+n.getD k 0) {q:Nat} (hq:q=s/d) {t:Nat} (ht:t=s % d) :
  OverInv B n d k (o.set k q) t:=by
 subst hq;subst ht
 refine⟨h.inv.step hn hk hs,fun j hj=>?_⟩
 have:=h.zero j (by omega)
 simp only[List.getD,List.getElem?_set] at this ⊢
 rw[if_neg (by omega)];exact this
theorem OverInv.skip {B:Nat} {n:List Nat} (hn:∀ y ∈ n,y<B) {d k:Nat} {o:List Nat} {r:Nat} (h:OverInv B n d (k+1) o r) (hk:k<n.length) {s:Nat} (hs:s=r*B+n.getD k 0) (hlt:s<d):OverInv B n d k o s:=by
 have h1:=h.step hn hk hs (q:=0) (t:=s) (by rw[Nat.div_eq_of_lt hlt]) (by rw[Nat.mod_eq_of_lt hlt])
 have h2:=h.zero k (by omega)
 have h3:o.set k 0=o:=by
  have hl:k<o.length:=by rw[h.inv.len];exact hk
  have h4:o[k]=0:=by simpa[List.getD,List.getElem?_eq_getElem hl] using h2
  refine List.ext_getElem (by simp) fun j _ _=>?_
  rw[List.getElem_set]
  split
  ·rename_i e;subst e;exact h4.symm
  ·rfl
 rwa [h3] at h1
theorem OverInv.done {B:Nat} {n:List Nat} {d:Nat} {o:List Nat} {r:Nat} (h:OverInv B n d 0 o r):val B o=val B n/d∧r=val B n % d:=h.inv.done
theorem OverInv.digit {B:Nat} {n:List Nat} (hn:∀ y ∈ n,y<B) {d k:Nat} {o:List Nat} {r:Nat} (h:OverInv B n d (k+1) o r) (hk:k<n.length) {s:Nat} (hs:s=r*B+n.getD k 0):s/d<B:=by
 have h1:=h.inv.rest
 have h2:n.getD k 0<B:=by simp only[List.getD,List.getElem?_eq_getElem hk,Option.getD_some];exact hn _ (List.getElem_mem hk)
 refine Nat.div_lt_of_lt_mul ?_
 have:(r+1)*B≤d*B:=Nat.mul_le_mul_right _ (by omega)
 rw[Nat.add_mul] at this
 omega
end Go.Proofs.YtmpaflidennnoaaGreatDoor
namespace Go.Proofs.YtmpaflidennnoaaGreatDoor
open Go.RowKit
def Zm1 (v:Value):Prop:=v=.slice none 0 0∨∃ ad m c,v=.slice (some ad) m c
def PNum (w:World) (v:Value) (n:Nat):Prop:=Nums .i64 w v (Zd 10000 n)∧Zm1 v
theorem PNum.after {w w':World} {v:Value} {n B:Nat} (h:PNum w v n) (hb:Below B w w') (hB:w.heap.size≤B):PNum w' v n:=⟨Nums.below h.1 hb hB,h.2⟩
theorem Nums.form {k:IntKind} {w:World} {v:Value} {xs:List Nat} (h:Nums k w v xs):∃ p c,v=.slice p xs.length c:=by
 obtain⟨p,c,h1,_⟩:=h
 exact⟨p,c,h1⟩
theorem PNum.form {w:World} {v:Value} {n:Nat} (h:PNum w v n):∃ p m c,v=.slice p m c:=by
 obtain⟨p,c,h1⟩:=h.1.form
 exact⟨p,_,c,h1⟩
theorem PNum.kept {w w':World} {v:Value} {n:Nat} (h:PNum w v n) (hs:w.heap.size≤w'.heap.size) (hk:∀ b,v.ownBlock=some b→b<w.heap.size→w'.heap[b]?=w.heap[b]?):PNum w' v n:=by
 obtain⟨⟨p,c,rfl,h1,h2,h3⟩,hf⟩:=h
 refine⟨⟨p,c,rfl,h1,h2,fun hne=>?_⟩,hf⟩
 obtain⟨b,off,rfl,hb,ha⟩:=h3 hne
 refine⟨b,off,rfl,Nat.lt_of_lt_of_le hb hs,fun j hj=>?_⟩
 have:=hk b rfl hb
 exact(World.cell?_of_block (w:=w) (a:=⟨b,off+j,none⟩) this).trans (ha j hj)
def Grow (k:IntKind) (E:TypeId) (w:World) (B:Nat) (v:Value) (xs:List Nat):Prop:=w.ownsRow B E 1 v xs.length (xs.map fun x=>Value.int k (x:Nat))
section
variable {k:IntKind} {E:TypeId} {w:World} {B:Nat} {v:Value} {xs:List Nat}
theorem Grow.nil:Grow k E w B (.slice none 0 0) []:=World.ownsRow_nil w B E 1
theorem Grow.nums (h:Grow k E w B v xs):Nums k w v xs:=by
 rcases h.2 with ⟨rfl,h0⟩ | ⟨g,cap,cur,rfl,hb,hg,hle,hcap,hr⟩
 ·obtain rfl:xs=[]:=List.eq_nil_of_length_eq_zero h0
  exact Nums.nil k w
 ·have:Row k E w B g cap xs:=⟨h.1,.inr ⟨g,cap,cur,rfl,hb,hg,hle,hcap,hr⟩⟩
  exact this.nums
theorem Grow.kept {w':World} (h:Grow k E w B v xs) (hk:∀ g,B≤g→v.ownBlock=some g→w'.heap[g]?=w.heap[g]?):Grow k E w' B v xs:=by
 obtain⟨h1,h2⟩:=h
 refine⟨h1,?_⟩
 rcases h2 with h2 | ⟨g,cap,cur,rfl,hb,hg,hr⟩
 ·exact .inl h2
 ·exact .inr ⟨g,cap,cur,rfl,hb,by rw[hk g hb rfl];exact hg,hr⟩
theorem Grow.after {w':World} (h:Grow k E w B v xs) (hb:Below w.heap.size w w'):Grow k E w' B v xs:=
 h.kept fun g _ hv=>hb.block g (World.ownsRow.lt h g hv).2
theorem Grow.alloc (h:Grow k E w B v xs) (o:Obj):Grow k E (w.alloc o) B v xs:=World.ownsRow.alloc h o
theorem Grow.snoc {n x:Nat} {y:Int} {v':Value} (hn:xs.length=n) (hy:y=(x:Nat)) (h:w.ownsRow B E 1 v' (n+1) ((xs.map fun x=>Value.int k (x:Nat))++[.int k y])):Grow k E w B v' (xs++[x]):=by
 subst hn;subst hy
 unfold Grow
 rw[List.length_append,List.map_append]
 exact h
theorem Grow.form (h:Grow k E w B v xs):∃ p c,v=.slice p xs.length c:=h.nums.form
end
def Zf6 (n:Nat) (s:ByteArray):Prop:=(∀ c ∈ s.data.toList,ZB c=true)∧Zg s.data.toList=n
theorem Zf6.tail {n:Nat} {s:ByteArray} (h:Zf6 n s) (hs:1<s.size) (h0:(s[0]'(by omega)).toNat=48):Zf6 n (s.extract 1 s.size):=by
 have e:=Zl1 s 1
 rcases hl:s.data.toList with _ | ⟨c,t⟩
 ·have:=Zs s;rw[hl] at this;simp at this;omega
 ·rw[hl] at e
  have hc:s[0]'(by omega)=c:=by
   have h1:s.data.toList[0]'(by rw[Zs];omega)=c:=by simp[hl]
   exact h1
  rw[hc] at h0
  have hc48:c=48:=UInt8.toNat_inj.1 h0
  refine⟨fun x hx=>?_,?_⟩
  ·rw[e] at hx
   exact h.1 x (by rw[hl];exact List.mem_cons_of_mem _ (by simpa using hx))
  ·rw[e]
   have:=h.2
   rw[hl,hc48,ZhZ] at this
   simpa using this
theorem Zf6.done {n:Nat} {s:ByteArray} (h:Zf6 n s) (h0:0<s.size) (hh:¬ (1<s.size∧(s[0]'h0).toNat=48)):s=str (Lib.decDigits n):=by
 rw[← h.2,Zkz h.1 (List.ne_nil_of_length_pos (by rw[Zs];exact h0)),Zbi]
 rintro⟨h1,h2⟩
 refine hh ⟨by rw[Zs] at h1;exact h1,?_⟩
 have:=(ZmP s h0).1 h2
 omega
end Go.Proofs.YtmpaflidennnoaaGreatDoor
