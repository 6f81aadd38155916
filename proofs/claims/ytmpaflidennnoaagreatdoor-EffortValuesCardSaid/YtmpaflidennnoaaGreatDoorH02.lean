/- The parts Dec, NatOk, Frac, Size, Curve, Trim, Plus, Back. -/
import Derived.Lib.ItoaNum
import Derived.Lib.ParseIntB
import Derived.Test.YtmpaflidennnoaaGreatDoorH01
import Derived.RangeFuncBound
import Derived.RangeFuncCalls
import Derived.RangeFuncBox
import Derived.Shelf.Abstract
import Derived.OwnWalkIn
import Derived.TacticsInMore
import Derived.LoopNIn
import Derived.LoopIn
set_option maxRecDepth 100000
set_option maxHeartbeats 2000000
set_option linter.unusedVariables false
set_option linter.unusedSimpArgs false
namespace Go.Proofs.YtmpaflidennnoaaGreatDoor
open Go.Lib
def dg1 (c:UInt8):Nat:=c.toNat-48
def ZG (c:UInt8):Bool:=decide (48<=c.toNat/\c.toNat<=57)
def Zq (s:List UInt8):Nat:=s.foldl (fun a c=>a*10+dg1 c) 0
theorem Zjk (s:List UInt8):∀ a,s.foldl (fun a c=>a*10+dg1 c) a=a*10 ^ s.length+Zq s:=by
 unfold Zq
 induction s with
 | nil=>intro a;simp
 | cons c s ih=>
  intro a
  rw[List.foldl_cons,ih,List.foldl_cons,ih (0*10+dg1 c),Zo0,ZoX]
  grind
theorem Zb9:Zq []=0:=rfl
theorem Zck (s t:List UInt8):Zq (s++t)=Zq s*10 ^ t.length+Zq t:=by
 show List.foldl _ 0 (s++t)=_
 rw[List.foldl_append,Zjk]
 rfl
theorem Zen (c:UInt8):Zq [c]=dg1 c:=by simp[Zq]
theorem Zd7 (s:List UInt8) (c:UInt8):Zq (s++[c])=Zq s*10+dg1 c:=by rw[Zck,Zen];simp
theorem Zcg (c:UInt8) (s:List UInt8):Zq (c::s)=dg1 c*10 ^ s.length+Zq s:=by
 have:=Zck [c] s
 rwa [Zen] at this
theorem ZiM {c:UInt8} (h:ZG c=true):dg1 c<10:=by
 unfold ZG at h;unfold dg1
 have:=of_decide_eq_true h
 omega
theorem Zc5 {d:Nat} (h:d<10):dg1 (UInt8.ofNat (48+d))=d/\ZG (UInt8.ofNat (48+d))=true:=by
 have:(UInt8.ofNat (48+d)).toNat=48+d:=by rw[UInt8.toNat_ofNat'];omega
 unfold dg1 ZG
 rw[this]
 exact⟨Za,by simp;omega⟩
theorem Zfn {c:UInt8} (h:ZG c=true):UInt8.ofNat (48+dg1 c)=c:=by
 have h1:=of_decide_eq_true h
 apply UInt8.toNat_inj.1
 rw[UInt8.toNat_ofNat']
 unfold dg1
 have:=c.toNat_lt
 omega
theorem ZbV {s:List UInt8} (h:∀ c ∈ s,ZG c=true):Zq s<10 ^ s.length:=by
 induction s with
 | nil=>simp[Zq]
 | cons c s ih=>
  rw[Zcg,Zo0,ZoX]
  have h1:=ZiM (h c Zc)
  have h2:=ih fun x hx=>h x (by simp[hx])
  have h3:dg1 c*10 ^ s.length<=9*10 ^ s.length:=ZoS _ Za
  omega
theorem Zan {n:Nat} (h:n<10):decDigits n=[UInt8.ofNat (48+n)]:=by rw[decDigits,dif_pos h]
theorem ZaG {n:Nat} (h:10<=n):decDigits n=decDigits (n/10)++[UInt8.ofNat (48+n % 10)]:=by rw[decDigits,dif_neg Za]
theorem ZaA (n:Nat):Zq (decDigits n)=n:=by
 induction n using Nat.strongRecOn with
 | _ n ih=>
  rcases Zow n 10 with h | h
  ·rw[Zan h,Zen];exact(Zc5 h).1
  ·rw[ZaG h,Zd7,ih (n/10) Za,(Zc5 (Nat.mod_lt n Za)).1];omega
theorem ZdE (n:Nat):∀ c ∈ decDigits n,ZG c=true:=by
 induction n using Nat.strongRecOn with
 | _ n ih=>
  intro c hc
  rcases Zow n 10 with h | h
  ·rw[Zan h] at hc;have hc:=List.mem_singleton.1 hc;subst hc;exact(Zc5 h).2
  ·rw[ZaG h] at hc
   rcases List.mem_append.1 hc with hc | hc
   ·exact ih (n/10) Za c hc
   ·have hc:=List.mem_singleton.1 hc;subst hc;exact(Zc5 (Nat.mod_lt n Za)).2
theorem ZdP (n:Nat):decDigits n≠[]:=by
 rcases Zow n 10 with h | h
 ·rw[Zan h];simp
 ·rw[ZaG h];simp
theorem Zdj {n m:Nat} (h:decDigits n=decDigits m):n=m:=by
 have:=congrArg Zq h
 rwa [ZaA,ZaA] at this
theorem Zbr:decDigits 0=[48]:=by rw[Zan Za];rfl
theorem ZbW:decDigits 1=[49]:=by rw[Zan Za];rfl
theorem ZfN {α:Type} {s t:List α} (h:s≠[]):(s++t).head?=s.head?:=by
 cases s with
 | nil=>exact Zo4 rfl h
 | cons c s=>rfl
theorem Zhj (n:Nat) (h:0<n):(decDigits n).head?≠some 48:=by
 induction n using Nat.strongRecOn with
 | _ n ih=>
  rcases Zow n 10 with h1 | h1
  ·rw[Zan h1]
   intro hc
   have hc:=Zou hc
   have:=congrArg UInt8.toNat hc
   rw[UInt8.toNat_ofNat'] at this
   have h48:(48:UInt8).toNat=48:=rfl
   omega
  ·rw[ZaG h1]
   have:=ih (n/10) Za Za
   rwa [ZfN (ZdP _)]
structure Canon (s:List UInt8):Prop where
 dig:∀ c ∈ s,ZG c=true
 ne:s≠[]
 head:1<s.length->s.head?≠some 48
theorem ZcF (n:Nat):Canon (decDigits n):=by
 refine⟨ZdE n,ZdP n,fun h=>?_⟩
 rcases ZoF n with h0 | h0
 ·subst h0;rw[Zbr] at h;simp at h
 ·exact Zhj n h0
theorem ZkR {s:List UInt8} (hd:∀ c ∈ s,ZG c=true) (hn:s≠[]) (hh:s.head?≠some 48):0<Zq s:=by
 rcases s with _ | ⟨c,s⟩
 ·exact Zo4 rfl hn
 ·rw[Zcg]
  have h1:ZG c=true:=hd c Zc
  have h2:dg1 c≠0:=by
   intro h0
   apply hh
   have:=Zfn h1
   rw[h0] at this
   rw[List.head?_cons,<- this]
   rfl
  have:0<dg1 c*10 ^ s.length:=Nat.mul_pos Za (Nat.pow_pos Za)
  omega
theorem ZkP {α:Type} (s:List α) (h:s≠[]):∃ t c,s=t++[c]:=⟨s.dropLast,s.getLast h,(List.dropLast_concat_getLast h).symm⟩
theorem ZdJ {s:List UInt8} (hd:∀ c ∈ s,ZG c=true) (hn:s≠[]) (hh:1<s.length->s.head?≠some 48):decDigits (Zq s)=s:=by
 induction hlen:s.length generalizing s with
 | zero=>exact Zo4 (ZoC hlen) hn
 | succ k ih=>
  obtain⟨t,c,rfl⟩:=ZkP s hn
  have hc:ZG c=true:=hd c Zc
  have ht:∀ x ∈ t,ZG x=true:=fun x hx=>hd x (by simp[hx])
  have hcl:=ZiM hc
  rw[Zd7]
  by_cases h0:t=[]
  ·subst h0
   rw[Zb9,Zan Za]
   simp only[Nat.zero_mul,Nat.zero_add,Zo7]
   rw[Zfn hc]
  ·have hlen2:1<(t++[c]).length:=by
    have:t.length≠0:=fun h=>h0 (ZoC h)
    rw[ZoH,List.length_singleton];omega
   have hh2:t.head?≠some 48:=by
    have:=hh hlen2
    rwa [ZfN h0] at this
   have hp:=ZkR ht h0 hh2
   rw[ZaG Za,show (Zq t*10+dg1 c)/10=Zq t by omega,show (Zq t*10+dg1 c) % 10=dg1 c by omega,
    ih ht h0 (fun _=>hh2) (by simpa using hlen),Zfn hc]
theorem Canon.text {s:List UInt8} (h:Canon s):decDigits (Zq s)=s:=ZdJ h.dig h.ne h.head
theorem Canon.eq {s t:List UInt8} (hs:Canon s) (ht:Canon t) (h:Zq s=Zq t):s=t:=by
 rw[<- hs.text,<- ht.text,h]
theorem Z5 {n k:Nat} (hk:0<k) (h:n<10 ^ k):(decDigits n).length<=k:=by
 induction k generalizing n with
 | zero=>omega
 | succ k ih=>
  rcases Zow n 10 with h1 | h1
  ·rw[Zan h1];simp
  ·rw[ZaG h1,ZoH,List.length_singleton]
   have hk0:0<k:=by
    rcases ZoF k with h0 | h0
    ·subst h0;simp at h;omega
    ·exact h0
   have:=ih (n:=n/10) hk0 (by rw[Nat.div_lt_iff_lt_mul Za];rwa [ZoX] at h)
   omega
theorem ZeM (n:Nat):n<10 ^ (decDigits n).length:=by
 have:=ZbV (ZdE n)
 rwa [ZaA] at this
def fix:Nat->Nat->List UInt8
 | 0,_=>[]
 | k+1,n=>fix k (n/10)++[UInt8.ofNat (48+n % 10)]
theorem Zhm (h k l:Nat) (hh:0<h) (hl:l<10 ^ k):decDigits (h*10 ^ k+l)=decDigits h++fix k l:=by
 induction k generalizing l with
 | zero=>
  have:l=0:=by simpa using hl
  subst this
  simp[fix]
 | succ k ih=>
  have hp:0<10 ^ k:=Nat.pow_pos Za
  have h1:h*10 ^ (k+1)=h*10 ^ k*10:=by rw[ZoX];grind
  have h2:1<=h*10 ^ k:=Nat.mul_pos hh hp
  rw[ZaG Za,fix,show (h*10 ^ (k+1)+l)/10=h*10 ^ k+l/10 by omega,show (h*10 ^ (k+1)+l) % 10=l % 10 by omega,
   ih (l/10) (by rw[Nat.div_lt_iff_lt_mul Za];rwa [ZoX] at hl),List.append_assoc]
theorem ZmI (k:Nat):fix k 0=List.replicate k 48:=by
 induction k with
 | zero=>rfl
 | succ k ih=>rw[fix,Nat.zero_div,ih,List.replicate_succ'];rfl
theorem Znv (k l:Nat) (hk:0<k) (hl:l<10 ^ k):fix k l=List.replicate (k-(decDigits l).length) 48++decDigits l:=by
 induction k generalizing l with
 | zero=>omega
 | succ k ih=>
  rw[fix]
  rcases Zow l 10 with h1 | h1
  ·rw[Nat.div_eq_of_lt h1,Nat.mod_eq_of_lt h1,ZmI,Zan h1];simp
  ·have hk0:0<k:=by
    rcases ZoF k with h0 | h0
    ·subst h0;simp at hl;omega
    ·exact h0
   rw[ih (l/10) hk0 (by rw[Nat.div_lt_iff_lt_mul Za];rwa [ZoX] at hl),ZaG h1,ZoH,List.append_assoc]
   simp only[List.length_singleton]
   congr 2
   omega
theorem Zdl (M:Nat) (hM:M<=18446744073709551615):∀ (s:List UInt8) (a:Nat),(∀ c ∈ s,ZG c=true)->a*10 ^ s.length+Zq s<=M->parseUintM M a s=.ok (a*10 ^ s.length+Zq s)
 | [],a,_,_=>by simp[parseUintM,Zq]
 | c::r,a,hd,hle=>by
  have hc:ZG c=true:=hd c Zc
  have hc1:=of_decide_eq_true hc
  have hp:0<10 ^ r.length:=Nat.pow_pos Za
  have he:a*10 ^ (c::r).length+Zq (c::r)=(a*10+dg1 c)*10 ^ r.length+Zq r:=by
   rw[Zcg,Zo0,ZoX];grind
  rw[he] at hle ⊢
  have h1:(a*10+dg1 c)*1<=(a*10+dg1 c)*10 ^ r.length:=Nat.mul_le_mul_left _ hp
  have h2:a*10+dg1 c<=M:=Za
  have h3:dg1 c=c.toNat-48:=rfl
  rw[parseUintM,if_pos hc1,if_neg Za,if_neg Za]
  exact Zdl M hM r _ (fun x hx=>hd x (by simp[hx])) hle
theorem Zfi {s:List UInt8} (hd:∀ c ∈ s,ZG c=true) (hn:s≠[]) (hl:s.length<=19):parseUintB 64 s=.ok (Zq s):=by
 rw[parseUintB,if_neg hn]
 have h1:=ZbV hd
 have h2:10 ^ s.length<=10 ^ 19:=ZoB Za hl
 have:=Zdl (2 ^ 64-1) Za s 0 hd Za
 simpa using this
end Go.Proofs.YtmpaflidennnoaaGreatDoor
namespace Go.Proofs.YtmpaflidennnoaaGreatDoor
open Go.Lib
theorem Zz (s:ByteArray):s.data.toList.length=s.size:=rfl
def Zdw (l:List UInt8):Bool:=decide (l≠[]) && l.all ZG
def Zcu (l:List UInt8):Bool:=Zdw l && decide (1<l.length->l.head?≠some 48)
def ZW (l:List UInt8):Bool:=Zcu l && decide (l.length<=600)
theorem Zhi {l:List UInt8} (h:Zcu l=true):Canon l:=by
 unfold Zcu Zdw at h
 simp only[ZoY,ZoZ,Zo3] at h
 exact⟨h.1.2,h.1.1,h.2⟩
theorem Zak {l:List UInt8} (h:ZW l=true):Canon l/\l.length<=600:=by
 unfold ZW at h
 simp only[ZoY,ZoZ] at h
 exact⟨Zhi h.1,h.2⟩
theorem ZcO {l:List UInt8} (h:Canon l) (hl:l.length<=600):ZW l=true:=by
 unfold ZW Zcu Zdw
 simp only[ZoY,ZoZ,Zo3]
 exact⟨⟨⟨h.ne,h.dig⟩,h.head⟩,hl⟩
end Go.Proofs.YtmpaflidennnoaaGreatDoor
namespace Go.Proofs.YtmpaflidennnoaaGreatDoor
open Go.Lib
def numD (q:Rat):List UInt8:=decDigits q.num.toNat
def denD (q:Rat):List UInt8:=decDigits q.den
def Fits (q:Rat):Prop:=(numD q).length<=600/\(denD q).length<=600
def str (l:List UInt8):ByteArray:=⟨l.toArray⟩
theorem Zbo (l:List UInt8):(str l).data.toList=l:=by simp[str]
theorem ZaZ (s:ByteArray):str s.data.toList=s:=by simp[str]
theorem Zj3 {l m:List UInt8} (h:str l=str m):l=m:=by rw[<- Zbo l,h,Zbo]
theorem Zaz (l:List UInt8):(str l).size=l.length:=by rw[<- Zz,Zbo]
structure IsP (q:Rat) (s t:ByteArray):Prop where
 nn:0<=q
 num:s=str (numD q)
 den:t=str (denD q)
 fits:Fits q
def okP (s t:ByteArray):Bool:=
 ZW s.data.toList && ZW t.data.toList && decide (0<Zq t.data.toList) && decide (Nat.gcd (Zq s.data.toList) (Zq t.data.toList)=1)
def ratP (s t:ByteArray):Rat:=mkRat (Zq s.data.toList:Nat) (Zq t.data.toList)
theorem Zh4 {n d:Nat} (hd:0<d) (hg:Nat.gcd n d=1):(mkRat (n:Nat) d).num=(n:Nat)/\(mkRat (n:Nat) d).den=d:=by
 have e:=Rat.mk_eq_mkRat (n:Nat) d Za (by simpa[Nat.Coprime] using hg)
 rw[<- e]
 exact⟨rfl,rfl⟩
theorem ZcH (n d:Nat):0<=mkRat (n:Nat) d:=by
 rw[Rat.mkRat_eq_div]
 rcases ZoF d with h | h
 ·subst h
  have:((n:Nat):Int)/((0:Nat):Rat)=(0:Rat):=by rw[Rat.div_def];simp
  grind
 ·have h1:(0:Rat)<(d:Nat):=Rat.natCast_pos.2 h
  have h2:(0:Rat)<=((n:Nat):Int):=Rat.intCast_nonneg.2 Za
  rw[Rat.div_def]
  exact Rat.mul_nonneg h2 (Rat.le_of_lt (Rat.inv_pos.2 h1))
theorem ZcV {s t:ByteArray} : okP s t=true<->ZW s.data.toList=true/\ZW t.data.toList=true/\0<Zq t.data.toList/\Nat.gcd (Zq s.data.toList) (Zq t.data.toList)=1:=by
 unfold okP
 simp only[ZoY,ZoZ]
 exact⟨fun⟨⟨⟨a,b⟩,c⟩,d⟩=>⟨a,b,c,d⟩,fun⟨a,b,c,d⟩=>⟨⟨⟨a,b⟩,c⟩,d⟩⟩
theorem Zav {s t:ByteArray} (h:okP s t=true):IsP (ratP s t) s t:=by
 obtain⟨h1,h2,h3,h4⟩:=ZcV.1 h
 obtain⟨e1,e2⟩:=Zh4 h3 h4
 obtain⟨c1,l1⟩:=Zak h1
 obtain⟨c2,l2⟩:=Zak h2
 have n1:numD (ratP s t)=s.data.toList:=by
  unfold numD ratP
  rw[e1,Int.toNat_natCast,c1.text]
 have n2:denD (ratP s t)=t.data.toList:=by
  unfold denD ratP
  rw[e2,c2.text]
 exact⟨ZcH _ _,by rw[n1,ZaZ],by rw[n2,ZaZ],by rw[n1];exact l1,by rw[n2];exact l2⟩
theorem Zac {q:Rat} (h:0<=q):((q.num.toNat:Nat):Int)=q.num:=Int.toNat_of_nonneg (Rat.num_nonneg.2 h)
theorem IsP.vals {q:Rat} {s t:ByteArray} (h:IsP q s t):Zq s.data.toList=q.num.toNat/\Zq t.data.toList=q.den:=by
 rw[h.num,h.den,Zbo,Zbo]
 exact⟨ZaA _,ZaA _⟩
theorem IsP.ok {q:Rat} {s t:ByteArray} (h:IsP q s t):okP s t=true:=by
 obtain⟨e1,e2⟩:=h.vals
 refine ZcV.2 ⟨?_,?_,?_,?_⟩
 ·rw[h.num,Zbo];exact ZcO (ZcF _) h.fits.1
 ·rw[h.den,Zbo];exact ZcO (ZcF _) h.fits.2
 ·rw[e2];exact q.den_pos
 ·rw[e1,e2]
  have h1:Nat.gcd q.num.natAbs q.den=1:=q.reduced
  have h2:=Zac h.nn
  have h3:q.num.natAbs=q.num.toNat:=Za
  rwa [h3] at h1
theorem IsP.rat {q:Rat} {s t:ByteArray} (h:IsP q s t):ratP s t=q:=by
 obtain⟨e1,e2⟩:=h.vals
 unfold ratP
 rw[e1,e2,Zac h.nn,Rat.mkRat_self]
theorem Zm2 {a b:Rat} (ha:0<=a) (hb:0<=b) (h1:numD a=numD b) (h2:denD a=denD b):a=b:=by
 have e1:=Zdj h1
 have e2:=Zdj h2
 refine Rat.ext ?_ e2
 rw[<- Zac ha,<- Zac hb,e1]
theorem IsP.inj {a b:Rat} {s t u v:ByteArray} (ha:IsP a s t) (hb:IsP b u v) (h1:s=u) (h2:t=v):a=b:=by
 refine Zm2 ha.nn hb.nn (Zj3 ?_) (Zj3 ?_)
 ·rw[<- ha.num,<- hb.num,h1]
 ·rw[<- ha.den,<- hb.den,h2]
theorem IsP.same {a b:Rat} {s t u v:ByteArray} (ha:IsP a s t) (hb:IsP b u v) (h:a=b):s=u/\t=v:=by
 subst h
 exact⟨ha.num.trans hb.num.symm,ha.den.trans hb.den.symm⟩
def Ans (q:Rat) (s t:ByteArray) (e:Int):Prop:=(IsP q s t/\e=0)\/(¬ Fits q/\s=str []/\t=str []/\e=4)
theorem Ans.fit {q:Rat} {s t:ByteArray} {e:Int} (h:Ans q s t e) (hf:Fits q):IsP q s t/\e=0:=by
 rcases h with h | h
 ·exact h
 ·exact Zo4 hf h.1
theorem Ans.zero {q:Rat} {s t:ByteArray} {e:Int} (h:Ans q s t e) (he:e=0):IsP q s t:=by
 rcases h with h | h
 ·exact h.1
 ·have:=h.2.2.2;omega
theorem Ans.det {q:Rat} {s t u v:ByteArray} {e f:Int} (h:Ans q s t e) (k:Ans q u v f):s=u/\t=v/\e=f:=by
 rcases h with ⟨h,rfl⟩ | ⟨h1,h2,h3,rfl⟩
 ·rcases k with ⟨k,rfl⟩ | ⟨k1,_⟩
  ·exact⟨(h.same k rfl).1,(h.same k rfl).2,rfl⟩
  ·exact Zo4 h.fits k1
 ·rcases k with ⟨k,rfl⟩ | ⟨k1,k2,k3,rfl⟩
  ·exact Zo4 k.fits h1
  ·exact⟨h2.trans k2.symm,h3.trans k3.symm,rfl⟩
theorem ZdM (n:Nat) {d:Nat} (hd:0<d):numD (mkRat (n:Nat) d)=decDigits (n/Nat.gcd n d)/\denD (mkRat (n:Nat) d)=decDigits (d/Nat.gcd n d):=by
 have h0:d≠0:=Za
 unfold numD denD
 rw[Rat.num_mkRat,Rat.den_mkRat,if_neg h0,if_neg h0,Int.natAbs_natCast,Nat.gcd_comm d n]
 refine⟨?_,rfl⟩
 congr 1
theorem Zkl {n d k:Nat} (hd:0<d) (hn:n<10 ^ k) (hd':d<10 ^ k) (hk0:0<k) (hk:k<=600):Fits (mkRat (n:Nat) d):=by
 obtain⟨e1,e2⟩:=ZdM n hd
 unfold Fits
 rw[e1,e2]
 exact⟨Zoz (Z5 hk0 (Nat.lt_of_le_of_lt (Nat.div_le_self _ _) hn)) hk,Zoz (Z5 hk0 (Nat.lt_of_le_of_lt (Nat.div_le_self _ _) hd')) hk⟩
theorem IsP.lt {q:Rat} {s t:ByteArray} (h:IsP q s t):q.num.toNat<10 ^ s.size/\q.den<10 ^ t.size:=by
 rw[h.num,h.den,Zaz,Zaz]
 exact⟨ZeM _,ZeM _⟩
theorem ZlP {a b:Rat} (ha:0<=a) (hb:0<=b):a+b=mkRat ((a.num.toNat*b.den+b.num.toNat*a.den:Nat):Int) (a.den*b.den):=by
 rw[Rat.add_def']
 congr 1
 rw[<- Zac ha,<- Zac hb]
 simp
theorem Zmu {a b:Rat} (ha:0<=a) (hb:0<=b):a*b=mkRat ((a.num.toNat*b.num.toNat:Nat):Int) (a.den*b.den):=by
 rw[Rat.mul_def']
 congr 1
 rw[<- Zac ha,<- Zac hb]
 simp
theorem Zfo {a b:Rat} (ha:0<=a) (hb:0<=b):a<=b<->a.num.toNat*b.den<=b.num.toNat*a.den:=by
 rw[Rat.le_iff,<- Zac ha,<- Zac hb]
 simp only[Int.toNat_natCast]
 exact⟨fun h=>by exact_mod_cast h,fun h=>by exact_mod_cast h⟩
theorem Ziv {a b:Rat} (ha:0<=a) (hb:0<=b):a<b<->a.num.toNat*b.den<b.num.toNat*a.den:=by
 rw[<- Rat.not_le,Zfo hb ha];omega
theorem Zl6 {a b:Rat} (ha:0<=a) (hb:0<=b):a=b<->a.num.toNat*b.den=b.num.toNat*a.den:=by
 constructor
 ·rintro rfl;rfl
 ·intro h
  exact Rat.le_antisymm ((Zfo ha hb).2 Za) ((Zfo hb ha).2 Za)
theorem Zlu {a b:Rat} (ha:0<=a) (hb:0<=b) (h:b<=a):a-b=mkRat ((a.num.toNat*b.den-b.num.toNat*a.den:Nat):Int) (a.den*b.den):=by
 have h1:=(Zfo hb ha).1 h
 rw[Rat.sub_def']
 congr 1
 rw[<- Zac ha,<- Zac hb]
 simp only[Int.toNat_natCast]
 rw[Int.ofNat_sub h1]
 simp
theorem ZlM {a b:Rat} (ha:0<=a) (hb:0<b):a/b=mkRat ((a.num.toNat*b.den:Nat):Int) (a.den*b.num.toNat):=by
 have hb':=Rat.le_of_lt hb
 have h0:0<b.num.toNat:=by
  rcases ZoF b.num.toNat with h | h
  ·exfalso
   have h2:=Zac hb'
   rw[h] at h2
   have h3:=Rat.num_eq_zero.1 h2.symm
   rw[h3] at hb
   exact Zo4 hb Zd
  ·exact h
 have hA:a=mkRat ((a.num.toNat:Nat):Int) a.den:=by rw[Zac ha,Rat.mkRat_self]
 have hB:b=mkRat ((b.num.toNat:Nat):Int) b.den:=by rw[Zac hb',Rat.mkRat_self]
 generalize a.num.toNat=n at *
 generalize b.num.toNat=m at *
 have hda:=a.den_pos
 have hdb:=b.den_pos
 generalize a.den=d at *
 generalize b.den=f at *
 subst hA;subst hB
 rw[Rat.mkRat_eq_div,Rat.mkRat_eq_div,Rat.mkRat_eq_div]
 have h1:(0:Rat)<(d:Nat):=Rat.natCast_pos.2 hda
 have h2:(0:Rat)<(f:Nat):=Rat.natCast_pos.2 hdb
 have h3:(0:Rat)<(m:Nat):=Rat.natCast_pos.2 h0
 simp only[Rat.intCast_natCast,Rat.natCast_mul]
 generalize ((d:Nat):Rat)=x at *
 generalize ((f:Nat):Rat)=y at *
 generalize ((m:Nat):Rat)=z at *
 generalize ((n:Nat):Rat)=u at *
 have hx:x≠0:=Zk
 have hy:y≠0:=Zk
 have hz:z≠0:=Zk
 grind
end Go.Proofs.YtmpaflidennnoaaGreatDoor
namespace Go.Proofs.YtmpaflidennnoaaGreatDoor
open Go.Lib
def Sz (k:Nat) (q:Rat):Prop:=q.num.toNat<10 ^ k/\q.den<10 ^ k
theorem ZkN (n:Nat) {d:Nat} (hd:0<d):(mkRat (n:Nat) d).num.toNat=n/Nat.gcd n d/\(mkRat (n:Nat) d).den=d/Nat.gcd n d:=by
 have h0:d≠0:=Za
 rw[Rat.num_mkRat,Rat.den_mkRat,if_neg h0,if_neg h0,Int.natAbs_natCast,Nat.gcd_comm d n]
 exact⟨rfl,rfl⟩
theorem Sz.mk {n d k:Nat} (hd:0<d) (h1:n<10 ^ k) (h2:d<10 ^ k):Sz k (mkRat (n:Nat) d):=by
 obtain⟨e1,e2⟩:=ZkN n hd
 unfold Sz
 rw[e1,e2]
 exact⟨Nat.lt_of_le_of_lt (Nat.div_le_self _ _) h1,Nat.lt_of_le_of_lt (Nat.div_le_self _ _) h2⟩
theorem Sz.mono {k l:Nat} {q:Rat} (h:Sz k q) (hl:k<=l):Sz l q:=by
 have:=ZoB (n:=10) Za hl
 exact⟨Zox h.1 this,Zox h.2 this⟩
theorem Sz.fits {k:Nat} {q:Rat} (h:Sz k q) (h0:0<k) (hk:k<=600):Fits q:=
 ⟨Zoz (Z5 h0 h.1) hk,Zoz (Z5 h0 h.2) hk⟩
theorem IsP.sz {q:Rat} {s t:ByteArray} {k:Nat} (h:IsP q s t) (h1:s.size<=k) (h2:t.size<=k):Sz k q:=by
 have h3:=h.lt
 exact⟨Zox h3.1 (ZoB Za h1),Zox h3.2 (ZoB Za h2)⟩
theorem Za0 {a b k l:Nat} (h1:a<10 ^ k) (h2:b<10 ^ l):a*b<10 ^ (k+l):=by
 rw[Nat.pow_add]
 exact Nat.mul_lt_mul'' h1 h2
theorem Sz.mul {k l:Nat} {a b:Rat} (ha:0<=a) (hb:0<=b) (h1:Sz k a) (h2:Sz l b):Sz (k+l) (a*b):=by
 rw[Zmu ha hb]
 exact Sz.mk (Nat.mul_pos a.den_pos b.den_pos) (Za0 h1.1 h2.1) (Za0 h1.2 h2.2)
theorem Sz.add {k l:Nat} {a b:Rat} (ha:0<=a) (hb:0<=b) (h1:Sz k a) (h2:Sz l b):Sz (k+l+1) (a+b):=by
 rw[ZlP ha hb]
 have e1:=Za0 h1.1 h2.2
 have e2:=Za0 h2.1 h1.2
 have e3:=Za0 h1.2 h2.2
 have e4:(10:Nat) ^ (k+l+1)=10 ^ (k+l)*10:=ZoX ..
 have e5:(10:Nat) ^ (l+k)=10 ^ (k+l):=by rw[Nat.add_comm]
 exact Sz.mk (Nat.mul_pos a.den_pos b.den_pos) Za Za
theorem Sz.sub {k l:Nat} {a b:Rat} (ha:0<=a) (hb:0<=b) (h:b<=a) (h1:Sz k a) (h2:Sz l b):Sz (k+l) (a-b):=by
 rw[Zlu ha hb h]
 have e1:=Za0 h1.1 h2.2
 have e3:=Za0 h1.2 h2.2
 exact Sz.mk (Nat.mul_pos a.den_pos b.den_pos) Za e3
theorem Znz {b:Rat} (hb:0<b):0<b.num.toNat:=by
 rcases ZoF b.num.toNat with h | h
 ·exfalso
  have h2:=Zac (Rat.le_of_lt hb)
  rw[h] at h2
  have h3:=Rat.num_eq_zero.1 h2.symm
  rw[h3] at hb
  exact Zo4 hb Zd
 ·exact h
theorem Sz.div {k l:Nat} {a b:Rat} (ha:0<=a) (hb:0<b) (h1:Sz k a) (h2:Sz l b):Sz (k+l) (a/b):=by
 rw[ZlM ha hb]
 exact Sz.mk (Nat.mul_pos a.den_pos (Znz hb)) (Za0 h1.1 h2.2) (Za0 h1.2 h2.1)
theorem Zeo {a b:Rat} (ha:0<=a) (hb:0<=b):0<=a/b:=by
 rcases Rat.le_iff_lt_or_eq.1 hb with h | h
 ·rw[Rat.div_def];exact Rat.mul_nonneg ha (Rat.le_of_lt (Rat.inv_pos.2 h))
 ·rw[<- h,Rat.div_def,Rat.inv_zero,Rat.mul_zero];exact Rat.le_refl
end Go.Proofs.YtmpaflidennnoaaGreatDoor
namespace Go.Proofs.YtmpaflidennnoaaGreatDoor
open Go.RowKit
def slp (C H:Nat->Rat) (i:Nat):Rat:=(H (i+1)-H i)/(C (i+1)-C i)
structure Conc (n:Nat) (C H:Nat->Rat):Prop where
 two:2<=n
 c0:C 0=0
 h0:H 0=0
 top:∀ i,i<n->H i<=1
 up:∀ i,i+1<n->C i<C (i+1)/\H i<=H (i+1)
 conc:∀ i,i+2<n->slp C H (i+1)<=slp C H i
def slo (n:Nat) (C H:Nat->Rat) (i:Nat):Rat:=if i+1<n then slp C H i else 0
def lin (n:Nat) (C H:Nat->Rat) (i:Nat) (q:Rat):Rat:=H i+slo n C H i*(q-C i)
def Zbc (n:Nat) (C:Nat->Rat) (q:Rat) (i:Nat):Prop:=i<n/\(∀ j,j<i->C (j+1)<=q)/\(i+1<n->q<C (i+1))
theorem Zbc.unique {n:Nat} {C:Nat->Rat} {q:Rat} {i k:Nat} (h:Zbc n C q i) (g:Zbc n C q k):i=k:=by
 obtain⟨h1,h2,h3⟩:=h
 obtain⟨g1,g2,g3⟩:=g
 rcases Nat.lt_trichotomy i k with hl | hl | hl
 ·have a:=h3 Za
  have b:=g2 i hl
  grind
 ·exact hl
 ·have a:=g3 Za
  have b:=h2 k hl
  grind
theorem ZnL {C H:Nat->Rat} {i:Nat} (h:C i<C (i+1)):slp C H i*(C (i+1)-C i)=H (i+1)-H i:=by
 unfold slp
 have:C (i+1)-C i≠0:=Zk
 exact Rat.div_mul_cancel this
theorem ZlT {C H:Nat->Rat} {i:Nat} (h:C i<C (i+1)) (h2:H i<=H (i+1)):0<=slp C H i:=Zeo Zk Zk
theorem Conc.slo_nn {n:Nat} {C H:Nat->Rat} (h:Conc n C H) (i:Nat):0<=slo n C H i:=by
 unfold slo
 split
 ·rename_i hi
  exact ZlT (h.up i hi).1 (h.up i hi).2
 ·exact Rat.le_refl
theorem Conc.slo_down {n:Nat} {C H:Nat->Rat} (h:Conc n C H) {i:Nat} (hi:i+1<n):slo n C H (i+1)<=slo n C H i:=by
 by_cases h2:i+2<n
 ·unfold slo
  rw[if_pos Za,if_pos hi]
  exact h.conc i h2
 ·have e:slo n C H (i+1)=0:=by unfold slo;rw[if_neg Za]
  rw[e]
  exact h.slo_nn i
theorem Conc.meet {n:Nat} {C H:Nat->Rat} (h:Conc n C H) {i:Nat} (hi:i+1<n) (q:Rat):lin n C H i q=H (i+1)+slo n C H i*(q-C (i+1)):=by
 have e:slo n C H i=slp C H i:=by unfold slo;rw[if_pos hi]
 unfold lin
 rw[e]
 have:=ZnL (C:=C) (H:=H) (h.up i hi).1
 grind
theorem Zip {s t d:Rat} (h:s<=t) (hd:0<=d):s*d<=t*d:=Rat.mul_le_mul_of_nonneg_right h hd
theorem Conc.lin_up {n:Nat} {C H:Nat->Rat} (h:Conc n C H) {i:Nat} (hi:i+1<n) {q:Rat} (hq:q<=C (i+1)):lin n C H i q<=lin n C H (i+1) q:=by
 rw[h.meet hi]
 unfold lin
 have:=Zip (h.slo_down hi) (d:=C (i+1)-q) Zk
 grind
theorem Conc.lin_down {n:Nat} {C H:Nat->Rat} (h:Conc n C H) {i:Nat} (hi:i+1<n) {q:Rat} (hq:C (i+1)<=q):lin n C H (i+1) q<=lin n C H i q:=by
 rw[h.meet hi]
 unfold lin
 have:=Zip (h.slo_down hi) (d:=q-C (i+1)) Zk
 grind
theorem Conc.c_mono {n:Nat} {C H:Nat->Rat} (h:Conc n C H) {i:Nat} : ∀ d,i+d<n->C i<=C (i+d)
 | 0,_=>Rat.le_refl
 | d+1,hd=>Rat.le_trans (h.c_mono d Za) (Rat.le_of_lt (h.up (i+d) Za).1)
theorem Conc.h_mono {n:Nat} {C H:Nat->Rat} (h:Conc n C H) {i:Nat} : ∀ d,i+d<n->H i<=H (i+d)
 | 0,_=>Rat.le_refl
 | d+1,hd=>Rat.le_trans (h.h_mono d Za) (h.up (i+d) Za).2
theorem Conc.c_nn {n:Nat} {C H:Nat->Rat} (h:Conc n C H) {i:Nat} (hi:i<n):0<=C i:=by
 have:=h.c_mono (i:=0) i Za
 rw[Nat.zero_add,h.c0] at this
 exact this
theorem Conc.h_nn {n:Nat} {C H:Nat->Rat} (h:Conc n C H) {i:Nat} (hi:i<n):0<=H i:=by
 have:=h.h_mono (i:=0) i Za
 rw[Nat.zero_add,h.h0] at this
 exact this
theorem Conc.least {n:Nat} {C H:Nat->Rat} (h:Conc n C H) {q:Rat} {k:Nat} (hk:Zbc n C q k) {i:Nat} (hi:i<n):lin n C H k q<=lin n C H i q:=by
 obtain⟨h1,h2,h3⟩:=hk
 by_cases hl:k<=i
 ·have up:∀ d,k+d<n->lin n C H k q<=lin n C H (k+d) q:=fun d=>by
   induction d with
   | zero=>intro _;exact Rat.le_refl
   | succ d ih=>
    intro hd
    have a:=h3 Za
    have b:=h.c_mono (i:=k+1) d Za
    have e:k+1+d=k+d+1:=Za
    rw[e] at b
    exact Rat.le_trans (ih Za) (h.lin_up (i:=k+d) hd Zk)
  have:=up (i-k) Za
  rwa [Nat.add_sub_cancel' hl] at this
 ·have down:∀ d,i+d<=k->lin n C H (i+d) q<=lin n C H i q:=fun d=>by
   induction d with
   | zero=>intro _;exact Rat.le_refl
   | succ d ih=>
    intro hd
    exact Rat.le_trans (h.lin_down (i:=i+d) Za (h2 (i+d) Za)) (ih Za)
  have:=down (k-i) Za
  rwa [Nat.add_sub_cancel' Za] at this
theorem Zbc.low {n:Nat} {C H:Nat->Rat} {q:Rat} {k:Nat} (h:Conc n C H) (hk:Zbc n C q k) (hq:0<=q):C k<=q:=by
 match k,hk with
 | 0,_=>rw[h.c0];exact hq
 | k+1,hk=>exact hk.2.1 k Za
theorem Zbc.exists {n:Nat} {C:Nat->Rat} (q:Rat):∀ m,m<n->∃ k,Zbc (m+1) C q k
 | 0,_=>⟨0,Za,fun j h=>Za,fun h=>Za⟩
 | m+1,hm=>by
  obtain⟨k,h1,h2,h3⟩:=Zbc.exists (n:=n) (C:=C) q m Za
  by_cases hk:k+1<m+1
  ·exact⟨k,Za,h2,fun _=>h3 hk⟩
  ·obtain rfl:k=m:=Za
   by_cases hq:q<C (k+1)
   ·exact⟨k,Za,h2,fun _=>hq⟩
   ·refine⟨k+1,Za,fun j hj=>?_,fun h=>Za⟩
    by_cases hj2:j=k
    ·subst hj2;grind
    ·exact h2 j Za
def ZY (n:Nat) (C H:Nat->Rat) (q r:Rat):Prop:=∃ k,Zbc n C q k/\r=lin n C H k q
def Zfa (n:Nat) (C H:Nat->Rat) (q r:Rat):Prop:=∃ k,Zbc n C q k/\r=slo n C H k
theorem ZY.unique {n:Nat} {C H:Nat->Rat} {q r s:Rat} (h:ZY n C H q r) (g:ZY n C H q s):r=s:=by
 obtain⟨k,h1,h2⟩:=h
 obtain⟨m,g1,g2⟩:=g
 obtain rfl:=h1.unique g1
 rw[h2,g2]
theorem ZY.le {n:Nat} {C H:Nat->Rat} {q r:Rat} (h:Conc n C H) (hr:ZY n C H q r) {i:Nat} (hi:i<n):r<=lin n C H i q:=by
 obtain⟨k,hk,rfl⟩:=hr
 exact h.least hk hi
theorem ZY.top {n:Nat} {C H:Nat->Rat} {q r:Rat} (h:Conc n C H) (hr:ZY n C H q r):r<=1:=by
 have h2:=h.two
 have h1:=hr.le h (i:=n-1) Za
 have e:slo n C H (n-1)=0:=by unfold slo;rw[if_neg Za]
 unfold lin at h1
 rw[e] at h1
 have:=h.top (n-1) Za
 grind
theorem ZY.nn {n:Nat} {C H:Nat->Rat} {q r:Rat} (h:Conc n C H) (hq:0<=q) (hr:ZY n C H q r):0<=r:=by
 obtain⟨k,hk,rfl⟩:=hr
 have h1:=hk.low h hq
 have h2:=h.h_nn hk.1
 have h3:=Rat.mul_nonneg (h.slo_nn k) (b:=q-C k) Zk
 unfold lin
 grind
theorem ZY.mono {n:Nat} {C H:Nat->Rat} {a b x y:Rat} (h:Conc n C H) (hab:a<=b) (hx:ZY n C H a x) (hy:ZY n C H b y):x<=y:=by
 obtain⟨k,hk,rfl⟩:=hy
 have h1:=hx.le h hk.1
 have h3:=Rat.mul_nonneg (h.slo_nn k) (b:=b-a) Zk
 unfold lin at h1 ⊢
 grind
theorem ZY.most {n:Nat} {C H:Nat->Rat} {a b x y s:Rat} (h:Conc n C H) (hx:ZY n C H a x) (hs:Zfa n C H a s) (hy:ZY n C H b y):y-x<=s*(b-a):=by
 obtain⟨k,hk,rfl⟩:=hx
 obtain⟨m,hm,rfl⟩:=hs
 obtain rfl:=hk.unique hm
 have h1:=hy.le h hk.1
 unfold lin at h1 ⊢
 grind
theorem ZY.least {n:Nat} {C H:Nat->Rat} {a b x y t:Rat} (h:Conc n C H) (hx:ZY n C H a x) (hy:ZY n C H b y) (ht:Zfa n C H b t):t*(b-a)<=y-x:=by
 obtain⟨k,hk,rfl⟩:=hy
 obtain⟨m,hm,rfl⟩:=ht
 obtain rfl:=hk.unique hm
 have h1:=hx.le h hk.1
 unfold lin at h1 ⊢
 grind
def lenV:Value->Nat
 | .slice _ n _=>n
 | _=>0
theorem Zdi {B:Nat} {l:List Nat} {k:Nat} (hk:k<l.length) (h:l[k]=0):val B (l.take (k+1))=val B (l.take k):=by
 rw[Zcn B l k hk,h];simp
theorem Zer {B:Nat} (hB:1<B) {l:List Nat} (hl:∀ x ∈ l,x<B) {k:Nat} (hk:k<l.length) (h:l[k]≠0):Zp B (val B (l.take (k+1)))=l.take (k+1):=by
 refine Zft hB (fun x hx=>hl x (List.mem_of_mem_take hx)) ?_
 rw[List.take_succ_eq_append_getElem hk,List.getLast?_append]
 simpa using h
theorem Za7 {B:Nat} (hB:1<B):∀ {l:List Nat},(∀ x ∈ l,x<B)->Zp B (val B l)=l.take (Zp B (val B l)).length:=by
 intro l hl
 induction h:l.length generalizing l with
 | zero=>
  have:l=[]:=ZoC h
  subst this;simp[val,ZO]
 | succ n ih=>
  have hn:n<l.length:=Za
  by_cases hz:l[n]=0
  ·have h1:val B l=val B (l.take n):=by
    rw[<- Zdi hn hz,ZoA Za]
   have h2:=ih (l:=l.take n) (fun x hx=>hl x (List.mem_of_mem_take hx)) (by rw[Zo6];omega)
   rw[h1]
   rw[List.take_take] at h2
   have h3:(Zp B (val B (l.take n))).length<=n:=by
    have:=congrArg List.length h2
    rw[Zo6] at this
    omega
   rw[Nat.min_eq_left h3] at h2
   exact h2
  ·have h1:=Zer hB hl hn hz
   rw[ZoA Za] at h1
   rw[h1,ZoA Zpf]
theorem ZcJ {B:Nat} (hB:1<B) {l:List Nat} (hl:∀ x ∈ l,x<B):(Zp B (val B l)).length<=l.length:=by
 have:=congrArg List.length (Za7 hB hl)
 rw[Zo6] at this
 omega
theorem Zdo (p:Option Addr) (cap:Nat) (xs:List Nat) (w:World) (hlc:xs.length<=cap) (hcap:cap<=maxLen) (hlt:∀ x ∈ xs,x<1000000000)
  (hp:xs≠[]->∃ b off,p=some ⟨b,off,none⟩/\At .u64 w b off xs) :
  Calls Tryz.prog 126 #[.slice p xs.length cap] w fun e w'=>
   w=w'/\e=.returned (.slice p (Zp 1000000000 (val 1000000000 xs)).length cap):=by
 unfold maxLen at hcap
 have HP:=Zpe hp
 clear hp
 go_enter Tryz.func126,Tryz.ntmps126
 go_wp2
 go_loop [0] (fun v=>∃ k:Nat,k<=xs.length/\v=.slice p k cap/\Hid (val 1000000000 xs=val 1000000000 (xs.take k))) (fun v=>lenV v)
 case atStart=>exact⟨xs.length,Nat.le_refl _,rfl,by rw[ZoA Zpf];rfl⟩
 case round=>
  obtain⟨k,hk,rfl,HV⟩:=hrel
  rcases ZoF k with h0 | h0
  ·subst h0
   go_wp2
   go_ret
   exact⟨rfl,by rw[HV.out];simp[val,ZO]⟩
  ·obtain⟨j,rfl⟩:∃ j,k=j+1:=⟨k-1,Za⟩
   have hj:j<xs.length:=Za
   obtain⟨b,off,rfl,hc⟩:=HP.out (Zoy Za)
   have hcj:w.cell? ⟨b,off+j,none⟩=some (.int .u64 (xs[j]:Nat)):=hc j hj
   clear hc
   by_cases hz:xs[j]=0
   ·have hz':((xs[j]:Nat):Int)=0:=by rw[hz];rfl
    rw[hz'] at hcj
    have HZ:=Zpe hz
    clear hz hz'
    go_wp2
    go_round
    case rel=>exact⟨j,Za,Zc,by rw[HV.out,Zdi hj HZ.out];rfl⟩
    case measure=>simp[lenV]
   ·have hz':(((xs[j]:Nat):Int)==0)=false:=by simpa using hz
    have HZ:=Zpe hz
    clear hz
    go_wp2
    go_ret
    exact⟨rfl,by rw[HV.out,Zer Za hlt hj HZ.out];simp;omega⟩
theorem Zcr {E:TypeId} {B g cap:Nat} {xs:List Nat} {w:World} (h:Row .u64 E w B g cap xs) (hlt:∀ x ∈ xs,x<1000000000) (n:Nat) (hn:n=xs.length) (m:Nat) (hm:val 1000000000 xs=m) :
  Calls Tryz.prog 126 #[.slice (some ⟨g,0,none⟩) n cap] w fun e w'=>
   w=w'/\e=.returned (.slice (some ⟨g,0,none⟩) (Zp 1000000000 m).length cap)/\Row .u64 E w' B g cap (Zp 1000000000 m):=by
 subst hn;subst hm
 refine(Zdo (some ⟨g,0,none⟩) cap xs w h.cap_le.1 h.cap_le.2 hlt (fun _=>⟨g,0,rfl,h.at⟩)).mono ?_
 rintro e w' ⟨rfl,rfl⟩
 refine⟨rfl,rfl,?_⟩
 have:=h.take (Zp 1000000000 (val 1000000000 xs)).length
 rwa [<- Za7 Za hlt] at this
def Num (w:World) (v:Value) (n:Nat):Prop:=Nums .u64 w v (Zp 1000000000 n)
def Zc4 (B:Nat) (w:World) (v:Value) (n:Nat):Prop:=∃ g cap,v=.slice (some ⟨g,0,none⟩) (Zp 1000000000 n).length cap/\Row .u64 158 w B g cap (Zp 1000000000 n)
theorem Zc4.num {B:Nat} {w:World} {v:Value} {n:Nat} (h:Zc4 B w v n):Num w v n:=by
 obtain⟨g,cap,rfl,hr⟩:=h
 exact hr.nums
theorem ZhE (p1 p2 q1 q2:Option Addr) (c1 c2 d1 d2:Nat) (xs ys:List Nat) (l1 l2:Nat) (w:World)
  (hsw:(l1=xs.length/\l2=ys.length/\q1=p1/\q2=p2/\d1=c1/\d2=c2)\/(l2=xs.length/\l1=ys.length/\l1<l2/\q2=p1/\q1=p2/\d2=c1/\d1=c2))
  (hle:ys.length<=xs.length) (hx:∀ x ∈ xs,x<1000000000) (hy:∀ x ∈ ys,x<1000000000) (hl:xs.length<=1000000)
  (hp1:xs≠[]->∃ b off,p1=some ⟨b,off,none⟩/\b<w.heap.size/\At .u64 w b off xs) (hp2:ys≠[]->∃ b off,p2=some ⟨b,off,none⟩/\b<w.heap.size/\At .u64 w b off ys) :
  Calls Tryz.prog 100 #[.slice q1 l1 d1,.slice q2 l2 d2] w fun e w'=>
   ∃ v,e=.returned v/\Zc4 w.heap.size w' v (val 1000000000 xs+val 1000000000 ys)/\Below w.heap.size w w':=by
 obtain⟨i0,hi,hz0,hz1,hz2⟩:=info_parts Zco
 have HX:=Zpe hx
 have HY:=Zpe hy
 have HP1:=Zpe hp1
 have HP2:=Zpe hp2
 clear hx hy hp1 hp2
 have hs:(l1=xs.length/\l2=ys.length/\q1=p1/\q2=p2/\d1=c1/\d2=c2/\¬ l1<l2)\/(l2=xs.length/\l1=ys.length/\l1<l2/\q2=p1/\q1=p2/\d2=c1/\d1=c2):=by
  rcases hsw with ⟨h1,h2,h3⟩ | h
  ·exact .inl ⟨h1,h2,h3.1,h3.2.1,h3.2.2.1,h3.2.2.2,Za⟩
  ·exact .inr h
 clear hsw
 rcases hs with ⟨rfl,rfl,rfl,rfl,rfl,rfl,hn⟩ | ⟨rfl,rfl,hn,rfl,rfl,rfl,rfl⟩
 all_goals
  go_enter Tryz.func100,Tryz.ntmps100
  go_wp2_with (at_make;refine wpList_make_own _ rfl _ _ 110 rfl w.heap.size 158 i0 (.int .u64 0) 1 Tryz.underlying110 hi hz0 hz1 _ _ _ (xs.length+1) rfl rfl Za ?b2 ?b3 Zpf ?_)
  case b2=>rw[hz2];omega
  case b3=>unfold maxLen;omega
  intro w0 hown0 hgrow0
  have HB0:=Zpe ((Zoq w.heap.size w).grown hgrow0 Zpf (fun k h=>by cases h))
  have HR0:=Zpe (Row.made (k:=.u64) hown0)
  clear hgrow0 hown0
  go_wp2
  go_loopw [5,6,22] (fun o c i wr=>∃ (k:Nat) (out:List Nat) (cr:Nat),k<=xs.length/\i=.int .i64 k/\o=.slice (some ⟨w.heap.size,0,none⟩) k (xs.length+1)/\c=.int .u64 cr/\
    Hid (Row .u64 158 wr w.heap.size w.heap.size (xs.length+1) out)/\Hid (PlusInv 1000000000 xs ys k out cr)/\Zo8 w wr) (fun _ _ i _=>xs.length-(intOf i).toNat)
  case atStart=>exact⟨0,[],0,ZoD _,rfl,rfl,rfl,HR0,PlusInv.start _ _ _,HB0⟩
  case round=>
   obtain⟨k,out,cr,hk,rfl,rfl,rfl,HR,HI,HB⟩:=hrel
   have hcr:cr<=1:=HI.out.carry
   by_cases hlt:k<xs.length
   ·obtain⟨b1,off1,rfl,hb1,ha1⟩:=HP1.out (Zoy Za)
    obtain⟨x,hx⟩:=Zpg (xs.getD k 0)
    have hxl:x<1000000000:=by rw[<- hx];exact ZM Za HX.out k
    have cx:wr.cell? ⟨b1,off1+k,none⟩=some (.int .u64 (x:Nat)):=(HB.out.cell (p:=⟨b1,off1+k,none⟩) hb1).trans (ha1.getD hlt hx)
    have Hx:=Zpe hx
    clear hx ha1
    by_cases hlt2:k<ys.length
    ·obtain⟨b2,off2,rfl,hb2,ha2⟩:=HP2.out (Zoy Za)
     obtain⟨y,hy⟩:=Zpg (ys.getD k 0)
     have hyl:y<1000000000:=by rw[<- hy];exact ZM Za HY.out k
     have cy:wr.cell? ⟨b2,off2+k,none⟩=some (.int .u64 (y:Nat)):=(HB.out.cell (p:=⟨b2,off2+k,none⟩) hb2).trans (ha2.getD hlt2 hy)
     have Hy:=Zpe hy
     clear hy ha2
     have e1:((x:Int)+cr+y) % 1000000000=((x+cr+y) % 1000000000:Nat):=Za
     have e2:((x:Int)+cr+y)/1000000000=((x+cr+y)/1000000000:Nat):=Za
     have E1:=Zpe e1
     have E2:=Zpe e2
     clear e1 e2
     have HS:Hid (PlusInv 1000000000 xs ys (k+1) (out++[(x+cr+y) % 1000000000]) ((x+cr+y)/1000000000)):=
      HI.out.step Za HX.out HY.out (by rw[Hx.out,Hy.out])
     have hown:=HR.out.own HI.out.len
     go_wp2_with (at_builtin;refine wpList_append_fits _ rfl (.tmp 40) (.tmp 43) 110 rfl w.heap.size 158 i0 1 Tryz.underlying110 hi hz1 w.heap.size k (xs.length+1) _ rfl (hown.alloc _) ⟨wr.heap.size,0,none⟩ 1 1 [.int .u64 (((x:Int)+cr+y) % 1000000000)] rfl rfl (cell_one_new _ _ _) (by simp[Value.oneCell']) Za ?_;intro w1 hown1 hgrow1)
     have HR1:=Zpe (Row.snoc HI.out.len.symm E1.out hown1)
     have HB1:=Zpe ((HB.out.alloc HB.out.size _).grown hgrow1 (by have:=HB.out.size;simp;omega) (fun k h=>by cases h;exact Nat.le_refl _))
     clear hown1 hgrow1
     go_roundw
     case rel=>exact⟨k+1,_,_,Za,by go_num,rfl,by rw[E2.out],HR1,HS,HB1⟩
     case measure=>exact Zj
    ·have e1:((x:Int)+cr) % 1000000000=((x+cr) % 1000000000:Nat):=Za
     have e2:((x:Int)+cr)/1000000000=((x+cr)/1000000000:Nat):=Za
     have E1:=Zpe e1
     have E2:=Zpe e2
     clear e1 e2
     have HS:Hid (PlusInv 1000000000 xs ys (k+1) (out++[(x+cr) % 1000000000]) ((x+cr)/1000000000)):=
      HI.out.step Za HX.out HY.out (by rw[Hx.out];simp[List.getD,hlt2])
     have hown:=HR.out.own HI.out.len
     go_wp2_with (at_builtin;refine wpList_append_fits _ rfl (.tmp 40) (.tmp 43) 110 rfl w.heap.size 158 i0 1 Tryz.underlying110 hi hz1 w.heap.size k (xs.length+1) _ rfl (hown.alloc _) ⟨wr.heap.size,0,none⟩ 1 1 [.int .u64 (((x:Int)+cr) % 1000000000)] rfl rfl (cell_one_new _ _ _) (by simp[Value.oneCell']) Za ?_;intro w1 hown1 hgrow1)
     have HR1:=Zpe (Row.snoc HI.out.len.symm E1.out hown1)
     have HB1:=Zpe ((HB.out.alloc HB.out.size _).grown hgrow1 (by have:=HB.out.size;simp;omega) (fun k h=>by cases h;exact Nat.le_refl _))
     clear hown1 hgrow1
     go_roundw
     case rel=>exact⟨k+1,_,_,Za,by go_num,rfl,by rw[E2.out],HR1,HS,HB1⟩
     case measure=>exact Zj
   ·obtain rfl:k=xs.length:=Za
    have hown:=HR.out.own HI.out.len
    have HV:=Zpe (HI.out.done hle)
    have HL:Hid (∀ z ∈ out++[cr],z<1000000000):=ZbL HI.out.lt Za
    have HN:=Zpe HI.out.len
    go_wp2_with (at_builtin;refine wpList_append_fits _ rfl (.tmp 48) (.tmp 50) 110 rfl w.heap.size 158 i0 1 Tryz.underlying110 hi hz1 w.heap.size xs.length (xs.length+1) _ rfl (hown.alloc _) ⟨wr.heap.size,0,none⟩ 1 1 [.int .u64 cr] rfl rfl (cell_one_new _ _ _) (by simp[Value.oneCell']) Za ?_;intro w1 hown1 hgrow1)
    have hr1:=Row.snoc HN.out.symm rfl hown1
    have HB1:=Zpe ((HB.out.alloc HB.out.size _).grown hgrow1 (by have:=HB.out.size;simp;omega) (fun k h=>by cases h;exact Nat.le_refl _))
    clear hown1 hgrow1
    refine(Zcr hr1 HL.out _ (by simp[HN.out]) _ HV.out).mono ?_
    rintro e w' ⟨rfl,rfl,hr2⟩
    have HR2:=Zpe hr2
    clear hr1 hr2
    go_wp2
    go_ret
    exact⟨_,rfl,⟨_,_,rfl,HR2.out⟩,HB1.out⟩
theorem ZmA {v1 v2:Value} {n m:Nat} {w:World} (h1:Num w v1 n) (h2:Num w v2 m) (hl1:(Zp 1000000000 n).length<=1000000) (hl2:(Zp 1000000000 m).length<=1000000) :
  Calls Tryz.prog 100 #[v1,v2] w fun e w'=>∃ v,e=.returned v/\Zc4 w.heap.size w' v (n+m)/\Below w.heap.size w w':=by
 obtain⟨p1,c1,rfl,_,_,hp1⟩:=h1
 obtain⟨p2,c2,rfl,_,_,hp2⟩:=h2
 have e1:=ZA (B:=1000000000) Za n
 have e2:=ZA (B:=1000000000) Za m
 rcases Zow (Zp 1000000000 n).length (Zp 1000000000 m).length with h | h
 ·have:=ZhE p2 p1 p1 p2 c2 c1 c1 c2 _ _ _ _ w (.inr ⟨rfl,rfl,h,rfl,rfl,rfl,rfl⟩) (ZoW h) (ZI Za m) (ZI Za n) hl2 hp2 hp1
  rw[e1,e2,Nat.add_comm m n] at this
  exact this
 ·have:=ZhE p1 p2 p1 p2 c1 c2 c1 c2 _ _ _ _ w (.inl ⟨rfl,rfl,rfl,rfl,rfl,rfl⟩) h (ZI Za n) (ZI Za m) hl1 hp1 hp2
  rw[e1,e2] at this
  exact this
end Go.Proofs.YtmpaflidennnoaaGreatDoor
namespace Go.Proofs.YtmpaflidennnoaaGreatDoor
open Go.RowKit Go.Shelf
attribute [local go_sem] Oper.semAt_some
def bk (n k:Nat):Nat:=n-1-k
theorem At.keeps {k:IntKind} {S:Nat->Prop} {w w':World} {b off:Nat} {xs:List Nat} (h:At k w b off xs) (hb:Keeps S w w') (hs:S b):At k w' b off xs:=
 fun j hj=>hb.cellAt (p:=⟨b,off+j,none⟩) (h j hj) hs
theorem ZeU (Bs:Nat) (S:Nat->Prop) (p:Option Addr) (cap:Nat) (xs:List Nat) (hl:xs.length<=1000000) (w0:World) (hS:S Bs)
  (hBs:w0.cell? ⟨Bs,0,none⟩=some (.slice p xs.length cap)) (hp:xs≠[]->∃ b off,p=some ⟨b,off,none⟩/\S b/\At .u64 w0 b off xs) :
  Iter Tryz.prog 176 #[.pointer (some ⟨Bs,0,none⟩)] (fun k=>#[.int .i64 (bk xs.length k:Nat),.int .u64 (lim xs (bk xs.length k):Nat)]) xs.length S (fun _=>True) w0:=by
 intro n l J Jx W hK hJ hJx hY h0
 have HP:Hid (xs≠[]->∃ b off,p=some ⟨b,off,none⟩/\S b/\At .u64 W b off xs):=fun hne=>by
  obtain⟨b,off,h1,h2,h3⟩:=hp hne
  exact⟨b,off,h1,h2,h3.keeps hK h2⟩
 have hB1:W.cell? ⟨Bs,0,none⟩=some (.slice p xs.length cap):=hK.cellAt hBs hS
 have HY:=Zpe hY
 clear hp hY hBs
 refine callsIn_of_wp Tryz.func176 rfl trivial ?_ rfl
 simp only[Tryz.ntmps176,Nat.reduceAdd,Nat.reduceSub,Zpd]
 gi_wp2
 gi_loopw [3] (fun iv wr=>∃ (i:Int) (k:Nat),iv=.int .i64 i/\Hid (i+k+1=xs.length)/\-1<=i/\i<xs.length/\J k wr/\Hid (Keeps S W wr))
  (fun iv _=>(intOf iv+1).toNat)
 case atStart=>exact⟨_,0,rfl,by show _=_;omega,Za,Za,h0,Keeps.refl _ _⟩
 case round=>
  obtain⟨i,k,rfl,HK,hi1,hi2,hJs,HN⟩:=hrel
  have hbs':wr.cell? ⟨Bs,0,none⟩=some (.slice p xs.length cap):=HN.out.cellAt hB1 hS
  clear hB1
  by_cases hge:0<=i
  ·obtain⟨j,rfl⟩:∃ j:Nat,i=(j:Int):=⟨i.toNat,Za⟩
   have hjl:j<xs.length:=Za
   obtain⟨b,off,rfl,hb,ha⟩:=HP.out (Zoy Za)
   obtain⟨x,hx⟩:=Zpg (lim xs j)
   have hcx:wr.cell? ⟨b,off+j,none⟩=some (.int .u64 (x:Nat)):=HN.out.cellAt (ha.getD hjl hx) hb
   have hjk:bk xs.length k=j:=by have:=HK.out;unfold bk;omega
   have hkl:k<xs.length:=by have:=HK.out;omega
   obtain⟨fn,tmps,assign,body,hy,hR⟩:=HY.out k wr hkl hJs
   rw[hjk,hx] at hy
   clear ha hx hjk hJs
   gi_wp2
   refine⟨(fun h=>by cases h),hR.mono ?_⟩
   rintro e W3 (⟨rfl,hJ3,hk3⟩ | ⟨rfl,hJx3⟩)
   ·have HN3:=Zpe (HN.out.trans hk3)
    clear hk3
    gi_wp2
    go_roundw
    case rel=>exact⟨_,k+1,rfl,by show _=_;have:=HK.out;omega,Za,Za,hJ3,HN3⟩
    case measure=>simp[intOf]
   ·gi_wp2
    refine Zor (results_none rfl _ _ _) rfl ?_
    exact⟨⟨_,rfl⟩,.inr ⟨k,hkl,hJx3⟩⟩
  ·obtain rfl:i = -1:=Za
   have hkl:k=xs.length:=by have:=HK.out;omega
   have HKL:=Zpe hkl
   clear hkl
   gi_wp2
   go_end0
   exact⟨⟨_,rfl⟩,.inl (by rw[<- HKL.out];exact hJs)⟩
theorem ZgY (F:Fence) (n:Nat) (hf:F.fn 127) (hro:F.round=none) (p:Option Addr) (len cap:Nat) (w:World) :
  CallsIn F n Tryz.prog 127 #[.slice p len cap] w fun e w'=>e=.returned (.func (.func 176) #[] #[.pointer (some ⟨w.heap.size,0,none⟩)])/\w'=w.alloc (.cells #[.slice p len cap] 110):=by
 refine callsIn_of_wp Tryz.func127 rfl hf ?_ hro
 simp only[Tryz.ntmps127,Nat.reduceAdd,Nat.reduceSub,Zpd]
 gi_wp2
 go_ret
 exact⟨rfl,rfl⟩
end Go.Proofs.YtmpaflidennnoaaGreatDoor
