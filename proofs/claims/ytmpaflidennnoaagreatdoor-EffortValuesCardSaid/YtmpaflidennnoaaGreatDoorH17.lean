/- The parts RNum, RTrim, RParts, RDigits, RAppend, ROrder, RMinus. -/
import Derived.Test.YtmpaflidennnoaaGreatDoorH02
import Derived.Laws.AppendOwnNone
set_option maxRecDepth 100000
set_option maxHeartbeats 4000000
set_option linter.unusedVariables false
set_option linter.unusedSimpArgs false
namespace Go.Proofs.YtmpaflidennnoaaGreatDoor
open Go.RowKit
def ZaJ (l:List UInt8) (k:Nat):List UInt8:=l.take (l.length-4*k)
def hval (l:List UInt8) (k:Nat):Nat:=Zq ((ZaJ l k).drop (l.length-4*k-4))
def Zcj (l:List UInt8):Nat:=(l.length+3)/4
theorem ZcA (l:List UInt8) (k:Nat):(ZaJ l k).length=l.length-4*k:=by unfold ZaJ;rw[Zo6];omega
theorem Zkx (l:List UInt8):ZaJ l 0=l:=by unfold ZaJ;exact ZoA Za
theorem ZkU (l:List UInt8) (k:Nat):ZaJ l (k+1)=(ZaJ l k).take (l.length-4*k-4):=by
 unfold ZaJ
 rw[List.take_take]
 congr 1
 omega
theorem Zny {l:List UInt8} (h:∀ c ∈ l,ZG c=true) (k:Nat):hval l k<10000:=by
 have h1:=ZbV (s:=(ZaJ l k).drop (l.length-4*k-4)) fun c hc=>h c (List.mem_of_mem_take (List.mem_of_mem_drop hc))
 have h2:((ZaJ l k).drop (l.length-4*k-4)).length<=4:=by rw[List.length_drop,ZcA];omega
 have h3:10 ^ ((ZaJ l k).drop (l.length-4*k-4)).length<=10 ^ 4:=ZoB Za h2
 unfold hval
 omega
theorem ZlJ (l:List UInt8) (k:Nat):Zq (ZaJ l k)=hval l k+10000*Zq (ZaJ l (k+1)):=by
 have h1:=Zck ((ZaJ l k).take (l.length-4*k-4)) ((ZaJ l k).drop (l.length-4*k-4))
 rw[List.take_append_drop,<- ZkU] at h1
 rw[h1]
 unfold hval
 rcases Zow (l.length-4*k) 4 with h2 | h2
 ·have h3:ZaJ l (k+1)=[]:=ZoC (by rw[ZcA];omega)
  rw[h3,Zb9];omega
 ·have h3:((ZaJ l k).drop (l.length-4*k-4)).length=4:=by rw[List.length_drop,ZcA];omega
  rw[h3];omega
theorem ZlW (l:List UInt8) (k:Nat):val 10000 ((List.range k).map (hval l))+10000 ^ k*Zq (ZaJ l k)=Zq l:=by
 induction k with
 | zero=>simp[val,Zkx]
 | succ k ih=>
  rw[List.range_succ,List.map_append,List.map_cons,List.map_nil,ZbA,ZoX]
  simp only[List.length_map,List.length_range]
  rw[ZlJ] at ih
  grind
theorem ZhP (l:List UInt8):val 10000 ((List.range (Zcj l)).map (hval l))=Zq l:=by
 have h:=ZlW l (Zcj l)
 have h2:ZaJ l (Zcj l)=[]:=ZoC (by rw[ZcA];unfold Zcj;omega)
 rw[h2,Zb9] at h
 simpa using h
def Zc1 (l:List UInt8) (k i:Nat):Nat:=Zq ((l.take i).drop (l.length-4*k-4))
theorem Zjn (l:List UInt8) (k:Nat):Zc1 l k (l.length-4*k-4)=0:=by
 unfold Zc1
 have:(l.take (l.length-4*k-4)).drop (l.length-4*k-4)=[]:=ZoC (by rw[List.length_drop,Zo6];omega)
 rw[this];rfl
theorem Zkp (l:List UInt8) (k i:Nat) (h1:l.length-4*k-4<=i) (h2:i<l.length):Zc1 l k (i+1)=10*Zc1 l k i+dg1 l[i]:=by
 unfold Zc1
 rw[List.take_succ_eq_append_getElem h2,List.drop_append_of_le_length (by rw[Zo6];omega),Zd7]
 omega
theorem Zk6 (l:List UInt8) (k:Nat):Zc1 l k (l.length-4*k)=hval l k:=rfl
theorem ZmL {l:List UInt8} (h:∀ c ∈ l,ZG c=true) (k i:Nat) (h1:i<=l.length-4*k):Zc1 l k i<10000:=by
 have h1:=ZbV (s:=(l.take i).drop (l.length-4*k-4)) fun c hc=>h c (List.mem_of_mem_take (List.mem_of_mem_drop hc))
 have h2:((l.take i).drop (l.length-4*k-4)).length<=4:=by rw[List.length_drop,Zo6];omega
 have h3:10 ^ ((l.take i).drop (l.length-4*k-4)).length<=10 ^ 4:=ZoB Za h2
 unfold Zc1
 omega
structure DigInv (xs:List Nat) (i k:Nat) (s:List UInt8):Prop where
 dig:∀ c ∈ s,ZG c=true
 len:s.length=4*i+k
 eq:Zq s=val 10000 (xs.take i)+10000 ^ i*(xs.getD i 0 % 10 ^ k)
theorem DigInv.start (xs:List Nat):DigInv xs 0 0 []:=⟨Zc,rfl,by simp[val,Zb9,Nat.mod_one]⟩
theorem DigInv.step {xs:List Nat} {i k:Nat} {s:List UInt8} (h:DigInv xs i k s) {p:Nat} (hp:p=xs.getD i 0/10 ^ k):DigInv xs i (k+1) (UInt8.ofNat (48+p % 10)::s):=by
 have hd:=Zc5 (Nat.mod_lt p Za:p % 10<10)
 refine⟨fun c hc=>?_,by rw[Zo0,h.len];omega,?_⟩
 ·rcases List.mem_cons.1 hc with rfl | hc
  ·exact hd.2
  ·exact h.dig c hc
 ·rw[Zcg,hd.1,h.len,h.eq,Nat.mod_pow_succ,<- hp,Nat.pow_add,Nat.pow_mul]
  have:(10:Nat) ^ 4=10000:=rfl
  rw[this]
  generalize p % 10=d
  generalize (10000:Nat) ^ i=a
  generalize (10:Nat) ^ k=b
  grind
theorem DigInv.next {xs:List Nat} {i:Nat} {s:List UInt8} (h:DigInv xs i 4 s) (hx:xs.getD i 0<10000):DigInv xs (i+1) 0 s:=by
 refine⟨h.dig,by rw[h.len];omega,?_⟩
 rw[h.eq,Nat.mod_eq_of_lt (show xs.getD i 0<10 ^ 4 from hx),ZT,Nat.pow_zero,Nat.mod_one]
 omega
theorem DigInv.done {xs:List Nat} {s:List UInt8} (h:DigInv xs xs.length 0 s):(∀ c ∈ s,ZG c=true)/\Zq s=val 10000 xs/\s.length=4*xs.length:=by
 refine⟨h.dig,?_,by rw[h.len];omega⟩
 rw[h.eq,ZoA Zpf,Nat.pow_zero,Nat.mod_one]
 omega
theorem Zi5 (s:List UInt8):Zq (48::s)=Zq s:=by rw[Zcg];simp[dg1]
theorem Zlb {s:List UInt8} (hd:∀ c ∈ s,ZG c=true) (hn:s≠[]) (hh:¬ (1<s.length/\s.head?=some 48)):Go.Lib.decDigits (Zq s)=s:=
 ZdJ hd hn fun h1 h2=>hh ⟨h1,h2⟩
theorem Zij (t:ByteArray) (a:Nat):(t.extract a t.size).data.toList=t.data.toList.drop a:=by
 rw[ByteArray.data_extract,Array.toList_extract,List.extract_eq_take_drop]
 exact ZoA (by rw[List.length_drop,Zz];exact Nat.le_refl _)
theorem Zi8 (s:ByteArray) (h:0<s.size):s.data.toList.head?=some 48<->(s[0].toNat:Int)=48:=by
 have h1:s.data.toList.head?=some s[0]:=by
  have:0<s.data.toList.length:=by rw[Zz];exact h
  rw[List.head?_eq_getElem?,ZoL this]
  rfl
 rw[h1]
 constructor
 ·intro h2
  have:=Zou h2
  rw[this];rfl
 ·intro h2
  congr 1
  apply UInt8.toNat_inj.1
  have:(48:UInt8).toNat=48:=rfl
  omega
structure SumInv (B:Nat) (n m:List Nat) (k:Nat) (o:List Nat) (c:Nat):Prop where
 inv:PlusInv B n m k o c
 top:k=0\/B ^ (k-1)<=val B n+val B m
theorem SumInv.start (B:Nat) (n m:List Nat):SumInv B n m 0 [] 0:=⟨PlusInv.start B n m,.inl rfl⟩
theorem Ze4 {B:Nat} (hB:1<B) {n k:Nat} (h:k<(Zp B n).length):B ^ k<=n:=by
 rcases Zow n (B ^ k) with h1 | h1
 ·have:=Zab hB h1;omega
 ·exact h1
theorem SumInv.step {B:Nat} (hB:1<B) {n m:Nat} {k:Nat} {o:List Nat} {c:Nat} (h:SumInv B (Zp B n) (Zp B m) k o c) {x:Nat} (hx:x=(Zp B n).getD k 0+c+(Zp B m).getD k 0)
  (hgo:k<(Zp B n).length\/k<(Zp B m).length\/0<c):SumInv B (Zp B n) (Zp B m) (k+1) (o++[x % B]) (x/B):=by
 refine⟨h.inv.step hB (ZI hB n) (ZI hB m) hx,.inr ?_⟩
 rw[ZoT,ZA hB,ZA hB]
 rcases Zow k (Zp B n).length with h1 | h1
 ·have:=Ze4 hB h1;omega
 rcases Zow k (Zp B m).length with h2 | h2
 ·have:=Ze4 hB h2;omega
 ·have hc:0<c:=Za
  have h3:=h.inv.eq
  rw[ZoA h1,ZoA h2,ZA hB,ZA hB] at h3
  have h4:B ^ k*1<=B ^ k*c:=Nat.mul_le_mul_left _ hc
  omega
theorem SumInv.done {B:Nat} (hB:1<B) {n m:Nat} {k:Nat} {o:List Nat} (h:SumInv B (Zp B n) (Zp B m) k o 0) (h1:(Zp B n).length<=k) (h2:(Zp B m).length<=k):o=Zp B (n+m):=by
 have h3:=h.inv.eq
 rw[ZoA h1,ZoA h2,ZA hB,ZA hB,Nat.mul_zero,Nat.add_zero] at h3
 have h4:=Za7 hB h.inv.lt
 have h5:=h.top
 rw[ZA hB,ZA hB,<- h3] at h5
 have hl:o.length<=(Zp B (val B o)).length:=by
  rw[h.inv.len]
  rcases h5 with rfl | h5
  ·omega
  ·have:=Zd1 hB h5
   omega
 rw[ZoA hl] at h4
 rw[<- h3,h4]
theorem SumInv.bound {n m k c L:Nat} {o:List Nat} (h:SumInv 10000 (Zp 10000 n) (Zp 10000 m) k o c) (h1:(Zp 10000 n).length<=L) (h2:(Zp 10000 m).length<=L):k<=L+1:=by
 rcases h.top with rfl | h3
 ·omega
 ·rcases Zow (L+1) k with h4 | h4
  ·exfalso
   have a1:=Z6 (ZI (B:=10000) Za n)
   have a2:=Z6 (ZI (B:=10000) Za m)
   have b1:=ZoB (n:=10000) Za h1
   have b2:=ZoB (n:=10000) Za h2
   have b3:=ZoB (n:=10000) Za (show L+1<=k-1 by omega)
   rw[ZoX] at b3
   omega
  ·exact h4
structure OverInv (B:Nat) (n:List Nat) (d:Nat) (k:Nat) (o:List Nat) (r:Nat):Prop where
 inv:ShortInv B n d k o r
 zero:∀ j,j<k->o.getD j 0=0
theorem OverInv.start {B:Nat} (hB:1<B) (n:List Nat) {d:Nat} (hd:0<d):OverInv B n d n.length (List.replicate n.length 0) 0:=
 ⟨ShortInv.start hB n hd,fun j _=>by simp only[List.getD,List.getElem?_replicate];split<;>rfl⟩
theorem OverInv.step {B:Nat} {n:List Nat} (hn:∀ y ∈ n,y<B) {d k:Nat} {o:List Nat} {r:Nat} (h:OverInv B n d (k+1) o r) (hk:k<n.length) {s:Nat} (hs:s=r*B+n.getD k 0) {q:Nat} (hq:q=s/d) {t:Nat} (ht:t=s % d) :
  OverInv B n d k (o.set k q) t:=by
 subst hq;subst ht
 refine⟨h.inv.step hn hk hs,fun j hj=>?_⟩
 have:=h.zero j Za
 simp only[List.getD,List.getElem?_set] at this ⊢
 rw[if_neg Za];exact this
theorem OverInv.skip {B:Nat} {n:List Nat} (hn:∀ y ∈ n,y<B) {d k:Nat} {o:List Nat} {r:Nat} (h:OverInv B n d (k+1) o r) (hk:k<n.length) {s:Nat} (hs:s=r*B+n.getD k 0) (hlt:s<d):OverInv B n d k o s:=by
 have h1:=h.step hn hk hs (q:=0) (t:=s) (by rw[Nat.div_eq_of_lt hlt]) (by rw[Nat.mod_eq_of_lt hlt])
 have h2:=h.zero k Za
 have h3:o.set k 0=o:=by
  have hl:k<o.length:=by rw[h.inv.len];exact hk
  have h4:o[k]=0:=by simpa[List.getD,ZoL hl] using h2
  refine List.ext_getElem Zc fun j _ _=>?_
  rw[List.getElem_set]
  split
  ·rename_i e;subst e;exact h4.symm
  ·rfl
 rwa [h3] at h1
theorem OverInv.done {B:Nat} {n:List Nat} {d:Nat} {o:List Nat} {r:Nat} (h:OverInv B n d 0 o r):val B o=val B n/d/\r=val B n % d:=h.inv.done
theorem OverInv.digit {B:Nat} {n:List Nat} (hn:∀ y ∈ n,y<B) {d k:Nat} {o:List Nat} {r:Nat} (h:OverInv B n d (k+1) o r) (hk:k<n.length) {s:Nat} (hs:s=r*B+n.getD k 0):s/d<B:=by
 have h1:=h.inv.rest
 have h2:n.getD k 0<B:=by simp only[List.getD,ZoL hk,Option.getD_some];exact hn _ (ZoR hk)
 refine Nat.div_lt_of_lt_mul ?_
 have:(r+1)*B<=d*B:=ZoS _ Za
 rw[Nat.add_mul] at this
 omega
theorem Zgi {B x:Nat} (hx:0<x) (hB:x<B):Zp B x=[x]:=by
 rw[Za1 Za hx,Nat.mod_eq_of_lt hB,Nat.div_eq_of_lt hB,ZO]
theorem ZcR:(Tryz.prog.info? 3).map (fun i=>(i.zero,i.size,i.bytes))=some (some (.int .i64 0),1,8):=Zb
def Zia (v:Value):Prop:=v=.slice none 0 0\/∃ ad m c,v=.slice (some ad) m c
def PNum (w:World) (v:Value) (n:Nat):Prop:=Nums .i64 w v (Zp 10000 n)/\Zia v
theorem PNum.after {w w':World} {v:Value} {n B:Nat} (h:PNum w v n) (hb:Below B w w') (hB:w.heap.size<=B):PNum w' v n:=⟨Nums.below h.1 hb hB,h.2⟩
theorem Nums.form {k:IntKind} {w:World} {v:Value} {xs:List Nat} (h:Nums k w v xs):∃ p c,v=.slice p xs.length c:=by
 obtain⟨p,c,h1,_⟩:=h
 exact⟨p,c,h1⟩
theorem PNum.form {w:World} {v:Value} {n:Nat} (h:PNum w v n):∃ p m c,v=.slice p m c:=by
 obtain⟨p,c,h1⟩:=h.1.form
 exact⟨p,_,c,h1⟩
theorem PNum.kept {w w':World} {v:Value} {n:Nat} (h:PNum w v n) (hs:w.heap.size<=w'.heap.size) (hk:∀ b,v.ownBlock=some b->b<w.heap.size->w'.heap[b]?=w.heap[b]?):PNum w' v n:=by
 obtain⟨⟨p,c,rfl,h1,h2,h3⟩,hf⟩:=h
 refine⟨⟨p,c,rfl,h1,h2,fun hne=>?_⟩,hf⟩
 obtain⟨b,off,rfl,hb,ha⟩:=h3 hne
 refine⟨b,off,rfl,Zox hb hs,fun j hj=>?_⟩
 have:=hk b rfl hb
 exact(ZoI (w:=w) (a:=⟨b,off+j,none⟩) this).trans (ha j hj)
def Zao (w:World) (n:Nat) (e:Ending) (w':World):Prop:=∃ v,e=.returned v/\PNum w' v n/\Below w.heap.size w w'
theorem ZmY (w:World):PNum w (.slice none 0 0) 0:=⟨by rw[ZO];exact Nums.nil _ _,.inl rfl⟩
def Grow (k:IntKind) (E:TypeId) (w:World) (B:Nat) (v:Value) (xs:List Nat):Prop:=w.ownsRow B E 1 v xs.length (xs.map fun x=>Value.int k (x:Nat))
section
variable {k:IntKind} {E:TypeId} {w:World} {B:Nat} {v:Value} {xs:List Nat}
theorem Grow.nil:Grow k E w B (.slice none 0 0) []:=World.ownsRow_nil w B E 1
theorem Grow.nums (h:Grow k E w B v xs):Nums k w v xs:=by
 rcases h.2 with ⟨rfl,h0⟩ | ⟨g,cap,cur,rfl,hb,hg,hle,hcap,hr⟩
 ·obtain rfl:xs=[]:=ZoC h0
  exact Nums.nil k w
 ·have:Row k E w B g cap xs:=⟨h.1,.inr ⟨g,cap,cur,rfl,hb,hg,hle,hcap,hr⟩⟩
  exact this.nums
theorem Grow.kept {w':World} (h:Grow k E w B v xs) (hk:∀ g,B<=g->v.ownBlock=some g->w'.heap[g]?=w.heap[g]?):Grow k E w' B v xs:=by
 obtain⟨h1,h2⟩:=h
 refine⟨h1,?_⟩
 rcases h2 with h2 | ⟨g,cap,cur,rfl,hb,hg,hr⟩
 ·exact .inl h2
 ·exact .inr ⟨g,cap,cur,rfl,hb,by rw[hk g hb rfl];exact hg,hr⟩
theorem Grow.after {w':World} (h:Grow k E w B v xs) (hb:Below w.heap.size w w'):Grow k E w' B v xs:=
 h.kept fun g _ hv=>hb.block g (ZoE h g hv).2
theorem Grow.alloc (h:Grow k E w B v xs) (o:Obj):Grow k E (w.alloc o) B v xs:=World.ownsRow.alloc h o
theorem Grow.snoc {n x:Nat} {y:Int} {v':Value} (hn:xs.length=n) (hy:y=(x:Nat)) (h:w.ownsRow B E 1 v' (n+1) ((xs.map fun x=>Value.int k (x:Nat))++[.int k y])):Grow k E w B v' (xs++[x]):=by
 subst hn;subst hy
 unfold Grow
 rw[ZoH,List.map_append]
 exact h
theorem Grow.form (h:Grow k E w B v xs):∃ p c,v=.slice p xs.length c:=h.nums.form
theorem Grow.pform (h:Grow k E w B v xs):Zia v:=by
 rcases h.2 with ⟨rfl,_⟩ | ⟨g,cap,cur,rfl,_⟩
 ·exact .inl rfl
 ·exact .inr ⟨_,_,_,rfl⟩
end
theorem Zju (p:Option Addr) (cap:Nat) (xs:List Nat) (w:World) (hlc:xs.length<=cap) (hcap:cap<=maxLen) (hlt:∀ x ∈ xs,x<10000)
  (hp:xs≠[]->∃ b off,p=some ⟨b,off,none⟩/\At .i64 w b off xs) :
  Calls Tryz.prog 165 #[.slice p xs.length cap] w fun e w'=>
   w=w'/\e=.returned (.slice p (Zp 10000 (val 10000 xs)).length cap):=by
 unfold maxLen at hcap
 have HP:=Zpe hp
 clear hp
 go_enter Tryz.func165,Tryz.ntmps165
 go_wp2
 go_loop [0] (fun v=>∃ k:Nat,k<=xs.length/\v=.slice p k cap/\Hid (val 10000 xs=val 10000 (xs.take k))) (fun v=>lenV v)
 case atStart=>exact⟨xs.length,Nat.le_refl _,rfl,by rw[ZoA Zpf];rfl⟩
 case round=>
  obtain⟨k,hk,rfl,HV⟩:=hrel
  rcases ZoF k with h0 | h0
  ·subst h0
   go_wp2
   go_ret
   exact⟨rfl,by rw[HV.out];simp[val,ZO]⟩
  ·obtain⟨j,rfl⟩:∃ j,k=j+1:=⟨k-1,Za⟩
   have hj:j<xs.length:=Za
   obtain⟨b,off,rfl,hc⟩:=HP.out (Zoy Za)
   have hcj:w.cell? ⟨b,off+j,none⟩=some (.int .i64 (xs[j]:Nat)):=hc j hj
   clear hc
   by_cases hz:xs[j]=0
   ·have hz':((xs[j]:Nat):Int)=0:=by rw[hz];rfl
    rw[hz'] at hcj
    have HZ:=Zpe hz
    clear hz hz'
    go_wp2
    go_round
    case rel=>exact⟨j,Za,Zc,by rw[HV.out,Zdi hj HZ.out];rfl⟩
    case measure=>simp[lenV]
   ·have hz':(((xs[j]:Nat):Int)==0)=false:=by simpa using hz
    have HZ:=Zpe hz
    clear hz
    go_wp2
    go_ret
    exact⟨rfl,by rw[HV.out,Zer Za hlt hj HZ.out];simp;omega⟩
theorem Zc9 {v:Value} {xs:List Nat} {w:World} (h:Nums .i64 w v xs) (hf:Zia v) (hlt:∀ x ∈ xs,x<10000) (m:Nat) (hm:val 10000 xs=m) :
  Calls Tryz.prog 165 #[v] w fun e w'=>∃ v',e=.returned v'/\w=w'/\PNum w' v' m/\v'.ownBlock=v.ownBlock:=by
 subst hm
 obtain⟨p,cap,rfl,h1,h2,h3⟩:=h
 refine(Zju p cap xs w h1 h2 hlt (fun hne=>by obtain⟨b,off,hb,_,ha⟩:=h3 hne;exact⟨b,off,hb,ha⟩)).mono ?_
 rintro e w' ⟨rfl,rfl⟩
 have hpre:=Za7 (B:=10000) Za hlt
 have hle:=ZcJ (B:=10000) Za hlt
 refine⟨_,rfl,rfl,⟨⟨p,cap,rfl,Za,h2,fun hne=>?_⟩,?_⟩,by cases p<;>rfl⟩
 rotate_left
 ·rcases hf with hf | ⟨ad,m,c,hf⟩
  ·injection hf with e1 e2 e3
   subst e1;subst e3
   have:(Zp 10000 (val 10000 xs)).length=0:=Za
   rw[this];exact .inl rfl
  ·injection hf with e1 e2 e3
   subst e1
   exact .inr ⟨_,_,_,rfl⟩
 have hne2:xs≠[]:=fun h=>by rw[h] at hne;exact hne (by simp[val,ZO])
 obtain⟨b,off,hb,hbl,ha⟩:=h3 hne2
 refine⟨b,off,hb,hbl,fun j hj=>?_⟩
 have hj2:j<xs.length:=Za
 rw[ha j hj2]
 have:(Zp 10000 (val 10000 xs))[j]=xs[j]:=by
  have e:(Zp 10000 (val 10000 xs))[j]?=(xs.take (Zp 10000 (val 10000 xs)).length)[j]?:=by rw[<- hpre]
  rw[ZoL hj,List.getElem?_take_of_lt hj,ZoL hj2] at e
  exact Zou e
 rw[this]
theorem Zk5 (c:UInt8) (h:ZG c=true):(48:Int)<=c.toNat/\(c.toNat:Int)<=57/\(c.toNat:Int)-48=(dg1 c:Nat):=by
 have:=of_decide_eq_true h
 unfold dg1
 omega
theorem ZlS (s:ByteArray) (hl:s.size<=1000000) (hd:∀ c ∈ s.data.toList,ZG c=true) (w:World) :
  Calls Tryz.prog 166 #[.string s] w (Zao w (Zq s.data.toList)):=by
 obtain⟨i0,hi,hz0,hz1,hz2⟩:=info_parts ZcR
 have HD:=Zpe hd
 clear hd
 go_enter Tryz.func166,Tryz.ntmps166
 go_wp2
 go_loopw [3,4] (fun vo ve wr=>∃ (k:Nat) (e:Int),k<=Zcj s.data.toList/\ve=.int .i64 e/\e=(s.size:Int)-4*k/\Hid (Grow .i64 3 wr w.heap.size vo ((List.range k).map (hval s.data.toList)))/\Zo8 w wr) (fun _ ve _=>(intOf ve).toNat)
 case atStart=>exact⟨0,_,ZoD _,rfl,Zc,Grow.nil,Zoq _ _⟩
 case round=>
  obtain⟨k,e,hk,rfl,he,HO,HB⟩:=hrel
  have HE:=Zpe he
  clear he
  by_cases hgo:0<e
  ·obtain⟨r,hr⟩:∃ r:Nat,e=(r:Nat):=⟨e.toNat,Za⟩
   subst hr
   have HR:Hid (r=s.size-4*k/\0<r):=⟨by have:=HE.out;omega,Za⟩
   have hrs:r<=s.size:=by have:=HR.out.1;omega
   obtain⟨a,ha⟩:=Zpg (r-4)
   have hm:max 0 ((r:Int)-4)=(a:Nat):=Za
   have HA:Hid (a=s.size-4*k-4/\a<=r):=⟨by have:=HR.out.1;omega,Za⟩
   have hr0:0<r:=Za
   clear ha hgo
   go_wp2
   all_goals
    obtain⟨w0,rfl⟩:∃ w0:World,w0=wr:=⟨_,rfl⟩
    go_loopw [5,6] (fun vp vi wz=>∃ (i p:Nat),vi=.int .i64 i/\vp=.int .i64 p/\a<=i/\i<=r/\Hid (p=Zc1 s.data.toList k i)/\wz=w0) (fun _ vi _=>r-(intOf vi).toNat)
    case atStart=>exact⟨a,0,by first | rfl | (congr 1;omega),rfl,Nat.le_refl _,HA.out.2,by show _=_;rw[HA.out.1];exact(Zjn _ _).symm,rfl⟩
    case round=>
     obtain⟨i,p,rfl,rfl,hai,hir,HP,rfl⟩:=hrel
     obtain⟨w0,rfl⟩:∃ w0:World,w0=wr:=⟨_,rfl⟩
     have hp4:p<10000:=by rw[HP.out];exact ZmL HD.out k i (by rw[Zz];have:=HR.out.1;omega)
     by_cases hlt:i<r
     ·have his:i<s.size:=Za
      have hil:i<s.data.toList.length:=by rw[Zz];exact his
      obtain⟨c,hc⟩:=Zpg (s[i])
      have hc2:s.data.toList[i]=c:=by rw[<- hc];rfl
      have hdc:ZG c=true:=by rw[<- hc2];exact HD.out _ (ZoR hil)
      obtain⟨q1,q2,q3⟩:=Zk5 c hdc
      have HP2:Hid (10*p+dg1 c=Zc1 s.data.toList k (i+1)):=by
       show _=_
       rw[Zkp _ _ _ (by rw[Zz,<- HA.out.1];exact hai) hil,hc2,HP.out]
      have hd9:=ZiM hdc
      have HC:=Zpe hc
      clear hc2 hdc
      go_wp2
      go_roundw
      case rel=>exact⟨i+1,10*p+dg1 c,by go_num,by first | rfl | (congr 1;omega),Za,Za,HP2,by first | rfl | trivial⟩
      case measure=>exact Zj
     ·obtain rfl:i=r:=Za
      have HX:Hid (p=hval s.data.toList k):=by
       show _=_
       rw[HP.out,HR.out.1,<- Zz,Zk6]
      obtain⟨po,no,co,rfl⟩:∃ p n c,u3=.slice p n c:=by obtain⟨q,c,h⟩:=HO.out.form;exact⟨_,_,_,h⟩
      have hown:w0.ownsRow w.heap.size 3 1 (.slice po no co) k (((List.range k).map (hval s.data.toList)).map fun x=>Value.int .i64 (x:Nat)):=by
       have:=HO.out;unfold Grow at this;simpa using this
      have hsz:=HB.out.size
      have hm1:k+1<=maxLen:=by unfold maxLen;unfold Zcj at hk;rw[Zz] at hk;omega
      have hm2:(k+1)*8<=140737488355328:=by unfold Zcj at hk;rw[Zz] at hk;omega
      have hownA:=hown.alloc (.cells #[.int .i64 (p:Nat)] 3)
      have hm3:w.heap.size<=(w0.alloc (.cells #[.int .i64 (p:Nat)] 3)).heap.size:=by simp;omega
      go_wp2_with (at_builtin;go_loud (refine ZoV _ rfl _ _ 23 rfl w.heap.size 3 i0 (.int .i64 0) 1 8 Tryz.underlying23 hi hz0 hz1 hz2 rfl Zd _ k _ rfl hownA ⟨w0.heap.size,0,none⟩ 1 1 [.int .i64 (p:Nat)] rfl rfl (cell_one_new _ _ _) (by simp[Value.oneCell']) hm1 hm2 hm3 ?_);intro v' w1 hown1 hgrow1 _)
      have HG:Hid (Grow .i64 3 w1 w.heap.size v' ((List.range (k+1)).map (hval s.data.toList))):=by
       have h1:=Grow.snoc (k:=.i64) (xs:=(List.range k).map (hval s.data.toList)) (x:=p) Zc rfl hown1
       rw[HX.out] at h1
       rw[List.range_succ,List.map_append]
       exact h1
      have HB1:Zo8 w w1:=(HB.out.alloc hsz _).grown hgrow1 hm3 (fun z hz=>(ZoE hownA z hz).1)
      clear hown hownA hown1 hgrow1
      go_roundw
      case rel=>exact⟨k+1,_,by unfold Zcj;rw[Zz];have:=HR.out;omega,rfl,by have:=HE.out;push_cast;omega,HG,HB1⟩
      case measure=>exact Zj
  ·have HK:Hid (k=Zcj s.data.toList):=by
    show _=_
    have:=HE.out
    unfold Zcj at *;rw[Zz] at *;omega
   have hlt:∀ x ∈ (List.range k).map (hval s.data.toList),x<10000:=by
    intro x hx
    obtain⟨j,_,rfl⟩:=List.mem_map.1 hx
    exact Zny HD.out j
   have ht:=Zc9 HO.out.nums HO.out.pform hlt (Zq s.data.toList) (by rw[HK.out];exact ZhP _)
   obtain⟨po,no,co,rfl⟩:∃ p n c,u3=.slice p n c:=by obtain⟨q,c,h⟩:=HO.out.form;exact⟨_,_,_,h⟩
   clear hlt
   go_wp2_with fail
   refine ht.mono ?_
   rintro e' w' ⟨v',rfl,rfl,hv,_⟩
   obtain⟨p',m',c',rfl⟩:=hv.form
   have HV:=Zpe hv
   clear ht hv
   go_wp2
   go_ret
   exact⟨_,rfl,HV.out,HB.out⟩
def ZdW (n:Nat) (s:ByteArray):Prop:=(∀ c ∈ s.data.toList,ZG c=true)/\Zq s.data.toList=n
theorem ZdW.tail {n:Nat} {s:ByteArray} (h:ZdW n s) (hs:1<s.size) (h0:(s[0]'Za).toNat=48):ZdW n (s.extract 1 s.size):=by
 have e:=Zij s 1
 rcases hl:s.data.toList with _ | ⟨c,t⟩
 ·have:=Zz s;rw[hl] at this;simp at this;omega
 ·rw[hl] at e
  have hc:s[0]'Za=c:=by
   have h1:s.data.toList[0]'(by rw[Zz];omega)=c:=by simp[hl]
   exact h1
  rw[hc] at h0
  have hc48:c=48:=UInt8.toNat_inj.1 h0
  refine⟨fun x hx=>?_,?_⟩
  ·rw[e] at hx
   exact h.1 x (by rw[hl];exact List.mem_cons_of_mem _ (by simpa using hx))
  ·rw[e]
   have:=h.2
   rw[hl,hc48,Zi5] at this
   simpa using this
theorem ZdW.done {n:Nat} {s:ByteArray} (h:ZdW n s) (h0:0<s.size) (hh:¬ (1<s.size/\(s[0]'h0).toNat=48)):s=str (Lib.decDigits n):=by
 rw[<- h.2,Zlb h.1 (Zoy (by rw[Zz];exact h0)),ZaZ]
 rintro⟨h1,h2⟩
 refine hh ⟨by rw[Zz] at h1;exact h1,?_⟩
 have:=(Zi8 s h0).1 h2
 omega
theorem ZiC {xs:List Nat} {i k:Nat} {s:ByteArray} (h:DigInv xs i k s.data.toList) {p:Nat} (hp:p=xs.getD i 0/10 ^ k):DigInv xs i (k+1) ((⟨#[UInt8.ofNat (48+p % 10)]⟩:ByteArray)++s).data.toList:=by
 have:=h.step hp
 simpa using this
theorem ZjL (w:World) (q:Nat) (hq:q<10) :
  (convert 236 9 (.slice (some ⟨w.heap.size,0,none⟩) 1 1)).run Tryz.prog (w.alloc (.cells #[.int .u8 (48+(q:Nat))] 5))=.ok (.string ⟨#[UInt8.ofNat (48+q)]⟩) (w.alloc (.cells #[.int .u8 (48+(q:Nat))] 5)):=by
 have h:=run_convert_bytes_back (P:=Tryz.prog) (w.alloc (.cells #[.int .u8 (48+(q:Nat))] 5)) 236 9 5 ⟨w.heap.size,0,none⟩ 1 [UInt8.ofNat (48+q)] Tryz.underlying236 Tryz.underlying5 Tryz.underlying9 ?_
 ·exact h
 ·intro j hj
  match j,hj with
  | 0,_=>
   have h2:(w.alloc (.cells #[.int .u8 (48+(q:Nat))] 5)).cell? ⟨w.heap.size,0,none⟩=some (.int .u8 (48+(q:Nat))):=ZK _ _ _ 0 rfl
   have h3:((UInt8.ofNat (48+q)).toNat:Int)=48+(q:Nat):=by rw[UInt8.toNat_ofNat'];omega
   have h4:(⟨w.heap.size,0,none⟩:Addr).add 0=⟨w.heap.size,0,none⟩:=by unfold Addr.add;split<;>simp_all
   rw[h4]
   show _=some (Value.int .u8 ((UInt8.ofNat (48+q)).toNat:Int))
   rw[h3];exact h2
  | j+1,h=>simp at h
def Zka (s:ByteArray) (w:World) (e:Ending) (w':World):Prop:=e=.returned (.string s)/\Below w.heap.size w w'
theorem ZfS {v:Value} {n:Nat} {w:World} (h1:PNum w v n) (hl1:(Zp 10000 n).length<=1000000) :
  Calls Tryz.prog 189 #[v] w (Zka (str (Lib.decDigits n)) w):=by
 obtain⟨p1,c1,rfl,_,_,hp1⟩:=h1.1
 obtain⟨xs,hxs⟩:=Zpg (Zp 10000 n)
 rw[hxs] at hl1 hp1 ⊢
 have HX:Hid (∀ x ∈ xs,x<10000):=by rw[<- hxs];exact ZI Za n
 have HV:Hid (val 10000 xs=n):=by rw[<- hxs];exact ZA Za n
 have HP1:=Zpe hp1
 clear hxs hp1 h1
 go_enter Tryz.func189,Tryz.ntmps189
 go_wp2
 go_loopw [3,4] (fun vs vi wr=>∃ (i:Nat) (s:ByteArray),vi=.int .i64 i/\i<=xs.length/\vs=.string s/\Hid (DigInv xs i 0 s.data.toList)/\Zo8 w wr) (fun _ vi _=>xs.length-(intOf vi).toNat)
 case atStart=>exact⟨0,_,rfl,ZoD _,rfl,DigInv.start _,Zoq _ _⟩
 case round=>
  obtain⟨i,s,rfl,hi,rfl,HI,HB⟩:=hrel
  by_cases hlt:i<xs.length
  ·obtain⟨b1,o1,rfl,hb1,a1⟩:=HP1.out (Zoy Za)
   obtain⟨x,hx⟩:=Zpg (xs.getD i 0)
   have hxl:x<10000:=by rw[<- hx];exact ZM Za HX.out i
   have cx:wr.cell? ⟨b1,o1+i,none⟩=some (.int .i64 (x:Nat)):=(HB.out.cell (p:=⟨b1,o1+i,none⟩) hb1).trans (a1.getD hlt hx)
   have Hx:=Zpe hx
   clear hx a1
   go_wp2
   obtain⟨w0,hw0⟩:∃ w0:World,w0=wr:=⟨_,rfl⟩
   go_loopw [3,5,6] (fun vs vp vk wz=>∃ (k p:Nat) (s:ByteArray),vk=.int .i64 k/\k<=4/\vp=.int .i64 p/\p<10000/\vs=.string s/\Hid (p=x/10 ^ k)/\Hid (DigInv xs i k s.data.toList)/\Zo8 w wz) (fun _ _ vk _=>4-(intOf vk).toNat)
   case atStart=>exact⟨0,x,s,rfl,Za,rfl,hxl,rfl,by show _=_;simp,HI,HB⟩
   case round=>
    clear HI HB cx hw0
    obtain⟨k,p,s,rfl,hk,rfl,hp4,rfl,HP,HI,HB⟩:=hrel
    by_cases hk4:k<4
    ·obtain⟨q,hq⟩:=Zpg (p % 10)
     obtain⟨r,hr⟩:=Zpg (p/10)
     have e1:(p:Int) % 10=(q:Nat):=Za
     have e2:(p:Int)/10=(r:Nat):=Za
     have e3:(p:Int).tmod 10=(q:Nat):=by rw[<- e1];exact Int.tmod_eq_emod_of_nonneg Za
     have e4:(p:Int).tdiv 10=(r:Nat):=by rw[<- e2];exact Int.tdiv_eq_ediv_of_nonneg Za
     have hq10:q<10:=Za
     have HS:=ZiC HI.out (p:=p) (by rw[HP.out,Hx.out])
     rw[hq] at HS
     have HS:=Zpe HS
     have HQR:Hid (p/10=r/\p % 10=q):=⟨hr,hq⟩
     clear hq hr
     have HP2:Hid (p/10=x/10 ^ (k+1)):=by show _=_;rw[HP.out,ZoX,Nat.div_div_eq_div_mul]
     have hcv:=ZjL wr q hq10
     obtain⟨z,hz⟩:=Zpg ((⟨#[UInt8.ofNat (48+q)]⟩:ByteArray))
     rw[hz] at hcv HS
     have hz1:z.size=1:=by rw[<- hz];rfl
     have hsl:s.size<=5000000:=by rw[<- Zz,HI.out.len];omega
     have HB2:=Zpe (HB.out.alloc HB.out.size (.cells #[.int .u8 (48+(q:Nat))] 5))
     clear hz
     go_wp2
     go_roundw
     case rel=>exact⟨k+1,r,z++s,by go_num,Za,rfl,Za,rfl,by rw[<- HQR.out.1];exact HP2.out,HS,HB2⟩
     case measure=>exact Zj
    ·obtain rfl:k=4:=Za
     have HN:=Zpe (HI.out.next (by rw[Hx.out];exact hxl))
     go_wp2
     go_roundw
     case rel=>exact⟨i+1,s,by go_num,Za,rfl,HN,HB⟩
     case measure=>exact Zj
  ·obtain rfl:i=xs.length:=Za
   have HD:=Zpe HI.out.done
   have HSH:Hid (ZdW n s):=⟨HD.out.1,by rw[HD.out.2.1,HV.out]⟩
   have HSZ:Hid (s.size<=4000000/\(s.size=0->n=0)):=⟨by rw[<- Zz,HD.out.2.2];omega,fun h=>by
    have h1:=HD.out.2.2
    rw[Zz,h] at h1
    have h2:xs=[]:=ZoC Za
    rw[<- HV.out,h2];rfl⟩
   go_wp2
   obtain⟨w0,rfl⟩:∃ w0:World,w0=wr:=⟨_,rfl⟩
   go_loopw [3] (fun vs wz=>∃ (s:ByteArray),vs=.string s/\Hid (ZdW n s)/\Hid (s.size<=4000000/\(s.size=0->n=0))/\wz=w0) (fun vs _=>match vs with | .string s=>s.size | _=>0)
   case atStart=>exact⟨s,rfl,HSH,HSZ,rfl⟩
   case round=>
    clear HSH HSZ HD HI
    obtain⟨s,rfl,HSH,HSZ,rfl⟩:=hrel
    have hsm:=HSZ.out.1
    rcases ZoF s.size with h0 | h0
    ·have HE:Hid (str (Lib.decDigits n)=(⟨#[48]⟩:ByteArray)):=by show _=_;rw[HSZ.out.2 h0,Zbr];rfl
     have hl0:s.toList=[]:=by rw[ZoN];exact ZoC (by rw[Zz];exact h0)
     go_wp2
     go_ret
     exact⟨by rw[HE.out];rfl,HB.out⟩
    ·obtain⟨c,hc⟩:=Zpg (s[0]'h0)
     have hne:s.toList.isEmpty=false:=by rw[ZoN,List.isEmpty_eq_false_iff];exact Zoy (by rw[Zz];exact h0)
     by_cases h1:1<s.size
     ·have h1':(1:Int)<s.size:=Za
      by_cases h48:(c.toNat:Int)=48
      ·have hb:((c.toNat:Int)==48)=true:=by simp[h48]
       have HS2:Hid (ZdW n (s.extract 1 s.size)):=HSH.out.tail h1 (by rw[hc];omega)
       have hx:(s.extract 1 s.size).size=s.size-1:=by rw[<- Zz,Zij,List.length_drop,Zz]
       have HSZ2:Hid ((s.extract 1 s.size).size<=4000000/\((s.extract 1 s.size).size=0->n=0)):=⟨Za,fun h=>Za⟩
       have HXS:Hid ((s.extract 1 s.size).size<s.size):=by show _<_;omega
       clear hx hne h48
       go_wp2
       go_roundw
       case rel=>exact⟨s.extract 1 s.size,rfl,HS2,HSZ2,by first | rfl | trivial⟩
       case measure=>exact HXS.out
      ·have hb:((c.toNat:Int)==48)=false:=by simp[h48]
       have HE:Hid (s=str (Lib.decDigits n)):=HSH.out.done h0 (fun⟨_,h⟩=>by rw[hc] at h;omega)
       clear h48
       go_wp2
       go_ret
       exact⟨by rw[<- HE.out];rfl,HB.out⟩
     ·have h1':¬ (1:Int)<s.size:=Za
      have HE:Hid (s=str (Lib.decDigits n)):=HSH.out.done h0 (fun⟨h,_⟩=>h1 h)
      clear h1
      go_wp2
      go_ret
      exact⟨by rw[<- HE.out];rfl,HB.out⟩
theorem ZmX (b o i:Nat):(⟨b,o,none⟩:Addr).add i=⟨b,o+i,none⟩:=by unfold Addr.add;split<;>simp_all
theorem ZeX {w:World} {ops:Array Oper} {rest:List Oper} {o:Oper} {a:Act} {Q:Exit->Act->World->Prop} (hgd:o.guard=none) (s x:Operand) (t:TypeId)
  (ho:o.op=.call { callee:=.builtin .append,args:=#[s,x],argTypes:=#[t,t] })
  (base:Nat) (e:TypeId) (i:TypeInfo) (k:IntKind) (bytes:Nat) (ht:Tryz.prog.underlying t=some (.slice e)) (hi:Tryz.prog.info? e=some i) (hz:i.zero=some (.int k 0))
  (hsize:i.size=1) (hby:i.bytes=bytes)
  (v:Value) (n:Nat) (xs:List Value) (hs:a.eval s=v) (hown:w.ownsRow base e 1 v n xs)
  (v2:Value) (ys:List Nat) (hx:a.eval x=v2) (hv2:Nums k w v2 ys) (hf:Zia v2)
  (h63:n+ys.length<=maxLen) (hbytes:(n+ys.length)*bytes<=140737488355328) (hbase:base<=w.heap.size)
  (h:∀ v' w',w'.ownsRow base e 1 v' (n+ys.length) (xs++ys.map fun x=>Value.int k (x:Nat))->w.grownBy w' v.ownBlock->wpList Tryz.prog ops Q rest (a.put o.dst v') w'):wpList Tryz.prog ops Q (o::rest) a w:=by
 obtain⟨p,cap,rfl,h1,h2,h3⟩:=hv2
 rcases hf with hf | ⟨ad,m,c,hf⟩
 ·injection hf with e1 e2 e3
  subst e1;subst e3
  obtain rfl:ys=[]:=ZoC e2
  refine wpList_append_own_none hgd s x t ho base e i 1 ht hi v n xs hs hown hx (h v w ?_ ⟨rfl,rfl,rfl,Nat.le_refl _,fun _ _ _=>rfl⟩)
  simpa using hown
 ·injection hf with e1 e2 e3
  subst e1
  refine ZoV w hgd s x t ho base e i (.int k 0) 1 bytes ht hi hz hsize hby rfl Zd v n xs hs hown ad ys.length cap (ys.map fun x=>Value.int k (x:Nat)) hx Zc ?_ ?_ h63 hbytes hbase (fun v' w' h5 h6 _=>h v' w' h5 h6)
  ·intro j u hu
   have hj:j<ys.length:=by
    rcases Zow j ys.length with h' | h'
    ·exact h'
    ·rw[List.getElem?_eq_none (by simpa using h')] at hu;cases hu
   obtain⟨b,off,hb,_,hat⟩:=h3 (Zoy Za)
   obtain rfl:=Zou hb
   rw[ZmX]
   rw[hat j hj]
   rw[List.getElem?_map,ZoL hj] at hu
   exact hu
  ·intro u hu
   obtain⟨y,_,rfl⟩:=List.mem_map.1 hu
   rfl
def sgnN (n m:Nat):Int:=if n<m then -1 else if n=m then 0 else 1
theorem Zj4 {n m:Nat} (h:n<m):sgnN n m = -1:=by unfold sgnN;rw[if_pos h]
theorem Zj8 {n m:Nat} (h:m<n):sgnN n m=1:=by unfold sgnN;rw[if_neg Za,if_neg Za]
theorem ZnK (n:Nat):sgnN n n=0:=by unfold sgnN;rw[if_neg Za,if_pos rfl]
theorem Zep {n m:Nat} : sgnN n m<0<->n<m:=by unfold sgnN;split<;>(try split)<;>omega
theorem Zj1 {n m:Nat} : sgnN n m<=0<->n<=m:=by unfold sgnN;split<;>(try split)<;>omega
theorem Zmp (p1 p2:Option Addr) (c1 c2:Nat) (l1 l2:Nat) (h1:l1<=1000000) (h2:l2<=1000000) (hne:l1≠l2) (w:World) :
  Calls Tryz.prog 116 #[.slice p1 l1 c1,.slice p2 l2 c2] w fun e w'=>e=.returned (.int .i64 (if l1<l2 then -1 else 1))/\w=w':=by
 have hb:((l1:Int) !=l2)=true:=by rw[bne_iff_ne];omega
 rcases Zow l1 l2 with h | h
 ·have h':(l1:Int)<l2:=Za
  rw[if_pos h]
  clear hne h
  go_enter Tryz.func116,Tryz.ntmps116
  go_wp2
  go_ret
  exact⟨rfl,rfl⟩
 ·have h':¬ (l1:Int)<l2:=Za
  rw[if_neg Za]
  clear hne h
  go_enter Tryz.func116,Tryz.ntmps116
  go_wp2
  go_ret
  exact⟨rfl,rfl⟩
theorem ZkX (p1 p2:Option Addr) (c1 c2:Nat) (xs ys:List Nat) (hl:xs.length<=1000000) (hlen:ys.length=xs.length) (w:World)
  (hp1:xs≠[]->∃ b off,p1=some ⟨b,off,none⟩/\b<w.heap.size/\At .i64 w b off xs) (hp2:ys≠[]->∃ b off,p2=some ⟨b,off,none⟩/\b<w.heap.size/\At .i64 w b off ys)
  (hx:∀ x ∈ xs,x<10000) (hy:∀ x ∈ ys,x<10000) :
  Calls Tryz.prog 116 #[.slice p1 xs.length c1,.slice p2 xs.length c2] w fun e w'=>e=.returned (.int .i64 (sgnN (val 10000 xs) (val 10000 ys)))/\Below w.heap.size w w':=by
 obtain⟨n,hn⟩:=Zpg xs.length
 rw[hn] at hl ⊢
 have HN:Hid (xs.length=n/\ys.length=n):=⟨hn,Za⟩
 have HX:=Zpe hx
 have HY:=Zpe hy
 have HP1:=Zpe hp1
 have HP2:=Zpe hp2
 clear hn hx hy hp1 hp2 hlen
 go_enter Tryz.func116,Tryz.ntmps116
 go_wp2
 go_loopw [5] (fun vi wr=>∃ (k:Nat),k<=n/\vi=.int .i64 ((k:Int)-1)/\Hid (xs.drop k=ys.drop k)/\Zo8 w wr) (fun vi _=>(intOf vi+1).toNat)
 case atStart=>exact⟨n,Nat.le_refl _,rfl,by show _=_;rw[List.drop_of_length_le (by rw[HN.out.1];exact Nat.le_refl _),List.drop_of_length_le (by rw[HN.out.2];exact Nat.le_refl _)],Zoq _ _⟩
 case round=>
  obtain⟨k,hk,rfl,HK,HB⟩:=hrel
  rcases ZoF k with h0 | h0
  ·subst h0
   have HE:Hid (xs=ys):=HK.out
   clear HK
   go_wp2
   go_ret
   exact⟨by rw[HE.out,ZnK];rfl,HB.out⟩
  ·obtain⟨j,rfl⟩:∃ j,k=j+1:=⟨k-1,Za⟩
   have hj1:j<xs.length:=by rw[HN.out.1];omega
   have hj2:j<ys.length:=by rw[HN.out.2];omega
   obtain⟨b1,o1,rfl,hb1,a1⟩:=HP1.out (Zoy Za)
   obtain⟨b2,o2,rfl,hb2,a2⟩:=HP2.out (Zoy Za)
   obtain⟨x,hx⟩:=Zpg (xs[j])
   obtain⟨y,hy⟩:=Zpg (ys[j])
   have HXY:Hid (xs[j]=x/\ys[j]=y):=⟨hx,hy⟩
   have HC:Hid (∀ W,Below w.heap.size w W->W.cell? ⟨b1,o1+j,none⟩=some (.int .i64 (x:Nat))/\W.cell? ⟨b2,o2+j,none⟩=some (.int .i64 (y:Nat))):=fun W hW=>
    ⟨by rw[<- hx];exact(hW.cell (p:=⟨b1,o1+j,none⟩) hb1).trans (a1 j hj1),by rw[<- hy];exact(hW.cell (p:=⟨b2,o2+j,none⟩) hb2).trans (a2 j hj2)⟩
   have ej:((j+1:Nat):Int)-1=(j:Nat):=Za
   rw[ej]
   clear a1 a2 hx hy ej
   have hjl:(j:Int)<n:=Za
   have hj0:(0:Int)<=(j:Int):=Za
   obtain⟨w1,hw1⟩:∃ w1:World,wr=w1:=⟨_,rfl⟩
   subst hw1
   obtain⟨e1,e2⟩:=HC.out wr HB.out
   go_wp2_with fail
   go_region
   clear e1 e2
   obtain⟨w2,hw2⟩:=Zpg wr.drew
   have HB2:Zo8 w w2:=by rw[<- hw2];exact HB.out.drew
   rw[hw2]
   clear hw2
   rcases Zow x y with hlt | hge
   ·have HS:Hid (sgnN (val 10000 xs) (val 10000 ys) = -1):=Zj4 (Zcl HX.out hj1 (by rw[HN.out.1,HN.out.2]) HK.out (by rw[HXY.out.1,HXY.out.2];exact hlt))
    have h1:(x:Int)<y:=Za
    clear hlt
    go_wp2
    go_ret
    exact⟨by rw[HS.out];rfl,HB2.out⟩
   ·have h1:¬ (x:Int)<y:=Za
    obtain⟨e1,e2⟩:=HC.out w2 HB2.out
    go_wp2_with fail
    go_region
    clear e1 e2
    obtain⟨w3,hw3⟩:=Zpg w2.drew
    have HB3:Zo8 w w3:=by rw[<- hw3];exact HB2.out.drew
    rw[hw3]
    clear hw3
    rcases Zow y x with hgt | heq
    ·have HS:Hid (sgnN (val 10000 xs) (val 10000 ys)=1):=Zj8 (Zcl HY.out hj2 (by rw[HN.out.1,HN.out.2]) HK.out.symm (by rw[HXY.out.1,HXY.out.2];exact hgt))
     have h2:(y:Int)<x:=Za
     clear hgt
     go_wp2
     go_ret
     exact⟨by rw[HS.out];rfl,HB3.out⟩
    ·obtain rfl:x=y:=Za
     have HK2:Hid (xs.drop j=ys.drop j):=by
      show _=_
      rw[List.drop_eq_getElem_cons hj1,List.drop_eq_getElem_cons hj2,HK.out,HXY.out.1,HXY.out.2]
     have h2:¬ (x:Int)<x:=Za
     go_wp2
     go_roundw
     case rel=>exact⟨j,Za,by go_num,HK2,HB3⟩
     case measure=>simp[intOf]<;>omega
theorem ZdZ {v1 v2:Value} {n m:Nat} {w:World} (h1:PNum w v1 n) (h2:PNum w v2 m) (hl1:(Zp 10000 n).length<=1000000) (hl2:(Zp 10000 m).length<=1000000) :
  Calls Tryz.prog 116 #[v1,v2] w fun e w'=>e=.returned (.int .i64 (sgnN n m))/\Below w.heap.size w w':=by
 obtain⟨p1,c1,rfl,_,_,hp1⟩:=h1.1
 obtain⟨p2,c2,rfl,_,_,hp2⟩:=h2.1
 by_cases hlen:(Zp 10000 n).length=(Zp 10000 m).length
 ·rw[<- hlen]
  have:=ZkX p1 p2 c1 c2 _ _ hl1 hlen.symm w hp1 hp2 (ZI Za n) (ZI Za m)
  rwa [ZA Za,ZA Za] at this
 ·refine(Zmp p1 p2 c1 c2 _ _ hl1 hl2 hlen w).mono ?_
  rintro e w' ⟨rfl,rfl⟩
  refine⟨?_,Zoq _ _⟩
  rcases Nat.lt_or_gt_of_ne hlen with h | h
  ·rw[if_pos h,Zj4 (ZbO (B:=10000) Za h)]
  ·rw[if_neg Za,Zj8 (ZbO (B:=10000) Za h)]
theorem ZgK {v1 v2:Value} {n m:Nat} {w:World} (h1:PNum w v1 n) (h2:PNum w v2 m) (hmn:m<=n) (hl1:(Zp 10000 n).length<=1000000) :
  Calls Tryz.prog 156 #[v1,v2] w (Zao w (n-m)):=by
 obtain⟨i0,hi,hz0,hz1,hz2⟩:=info_parts ZcR
 have hlm:=ZN (B:=10000) Za hmn
 obtain⟨p1,c1,rfl,_,_,hp1⟩:=h1.1
 obtain⟨p2,c2,rfl,_,_,hp2⟩:=h2.1
 obtain⟨xs,hxs⟩:=Zpg (Zp 10000 n)
 obtain⟨ys,hys⟩:=Zpg (Zp 10000 m)
 rw[hxs] at hl1 hp1 hlm ⊢
 rw[hys] at hp2 hlm ⊢
 have HX:Hid (∀ x ∈ xs,x<10000):=by rw[<- hxs];exact ZI Za n
 have HY:Hid (∀ x ∈ ys,x<10000):=by rw[<- hys];exact ZI Za m
 have HV:Hid (val 10000 xs=n/\val 10000 ys=m):=by rw[<- hxs,<- hys];exact⟨ZA Za n,ZA Za m⟩
 have HP1:=Zpe hp1
 have HP2:=Zpe hp2
 clear hxs hys hp1 hp2
 go_enter Tryz.func156,Tryz.ntmps156
 go_wp2
 go_loopw [5,6,7] (fun vo vb vi wr=>∃ (k b:Nat) (out:List Nat),vi=.int .i64 k/\vb=.int .i64 b/\k<=xs.length/\b<=1/\Hid (MinusInv 10000 xs ys k out b)/\Hid (Grow .i64 3 wr w.heap.size vo out)/\Hid (out.length=k)/\Zo8 w wr) (fun _ _ vi _=>xs.length-(intOf vi).toNat)
 case atStart=>exact⟨0,0,[],rfl,rfl,Za,Za,MinusInv.start _ _ _,Grow.nil,rfl,Zoq _ _⟩
 case round=>
  obtain⟨k,b,out,rfl,rfl,hk,hb1,HI,HO,HLEN,HB⟩:=hrel
  obtain⟨po,no,co,rfl⟩:∃ p n c,u5=.slice p n c:=by obtain⟨q,c,h⟩:=HO.out.form;exact⟨_,_,_,h⟩
  by_cases hlt1:k<xs.length
  ·have hm1:k+1<=maxLen:=by unfold maxLen;omega
   have hm2:(k+1)*8<=140737488355328:=Za
   obtain⟨b1,o1,rfl,hb1,a1⟩:=HP1.out (Zoy Za)
   obtain⟨x,hx⟩:=Zpg (xs.getD k 0)
   have hxl:x<10000:=by rw[<- hx];exact ZM Za HX.out k
   have cx:wr.cell? ⟨b1,o1+k,none⟩=some (.int .i64 (x:Nat)):=(HB.out.cell (p:=⟨b1,o1+k,none⟩) hb1).trans (a1.getD hlt1 hx)
   have Hx:=Zpe hx
   clear hx a1
   by_cases hlt2:k<ys.length
   ·obtain⟨b2,o2,rfl,hb2,a2⟩:=HP2.out (Zoy Za)
    obtain⟨y,hy⟩:=Zpg (ys.getD k 0)
    have hyl:y<10000:=by rw[<- hy];exact ZM Za HY.out k
    have cy:wr.cell? ⟨b2,o2+k,none⟩=some (.int .i64 (y:Nat)):=(HB.out.cell (p:=⟨b2,o2+k,none⟩) hb2).trans (a2.getD hlt2 hy)
    have Hy:=Zpe hy
    clear hy a2
    by_cases hneg:x<b+y
    ·have hn:((x:Int)-b-y)<0:=Za
     have E1:Hid (((x:Int)-b-y)+10000=(x+10000-(b+y):Nat)):=by show _=_;omega
     have HS:=HI.out.step_borrow Za HY.out (less:=b+y) (by have h:=Hy.out;omega) (by rw[Hx.out];exact hneg)
     rw[Hx.out] at HS
     have HS:=Zpe HS
     clear hneg
     have hown:wr.ownsRow w.heap.size 3 1 (.slice po no co) k ((out).map fun x=>Value.int .i64 (x:Nat)):=by
      have:=HO.out;unfold Grow at this;rwa [HLEN.out] at this
     have hsz:=HB.out.size
     have hownA:=hown.alloc (.cells #[.int .i64 (((x:Int)-b-y)+10000)] 3)
     have hm3:w.heap.size<=(wr.alloc (.cells #[.int .i64 (((x:Int)-b-y)+10000)] 3)).heap.size:=by simp;omega
     go_wp2_with (at_builtin;go_loud (refine ZoV _ rfl _ _ 23 rfl w.heap.size 3 i0 (.int .i64 0) 1 8 Tryz.underlying23 hi hz0 hz1 hz2 rfl Zd _ k _ rfl hownA ⟨wr.heap.size,0,none⟩ 1 1 [.int .i64 (((x:Int)-b-y)+10000)] rfl rfl (cell_one_new _ _ _) (by simp[Value.oneCell']) hm1 hm2 hm3 ?_);intro v' w1 hown1 hgrow1 _)
     have HG:Hid (Grow .i64 3 w1 w.heap.size v' (out++[x+10000-(b+y)])):=Grow.snoc HLEN.out E1.out hown1
     have HB1:Zo8 w w1:=(HB.out.alloc hsz _).grown hgrow1 hm3 (fun z hz=>(ZoE hownA z hz).1)
     clear hown hownA hown1 hgrow1
     go_roundw
     case rel=>exact⟨k+1,1,_,by go_num,rfl,Za,Za,HS,HG,by show _=_;rw[ZoH,HLEN.out];rfl,HB1⟩
     case measure=>exact Zj
    ·have hn:¬ ((x:Int)-b-y)<0:=Za
     have E1:Hid (((x:Int)-b-y)=(x-(b+y):Nat)):=by show _=_;omega
     have HS:=HI.out.step_plain HX.out Za (less:=b+y) (by have h:=Hy.out;omega) (by rw[Hx.out];omega)
     rw[Hx.out] at HS
     have HS:=Zpe HS
     clear hneg
     have hown:wr.ownsRow w.heap.size 3 1 (.slice po no co) k ((out).map fun x=>Value.int .i64 (x:Nat)):=by
      have:=HO.out;unfold Grow at this;rwa [HLEN.out] at this
     have hsz:=HB.out.size
     have hownA:=hown.alloc (.cells #[.int .i64 ((x:Int)-b-y)] 3)
     have hm3:w.heap.size<=(wr.alloc (.cells #[.int .i64 ((x:Int)-b-y)] 3)).heap.size:=by simp;omega
     go_wp2_with (at_builtin;go_loud (refine ZoV _ rfl _ _ 23 rfl w.heap.size 3 i0 (.int .i64 0) 1 8 Tryz.underlying23 hi hz0 hz1 hz2 rfl Zd _ k _ rfl hownA ⟨wr.heap.size,0,none⟩ 1 1 [.int .i64 ((x:Int)-b-y)] rfl rfl (cell_one_new _ _ _) (by simp[Value.oneCell']) hm1 hm2 hm3 ?_);intro v' w1 hown1 hgrow1 _)
     have HG:Hid (Grow .i64 3 w1 w.heap.size v' (out++[x-(b+y)])):=Grow.snoc HLEN.out E1.out hown1
     have HB1:Zo8 w w1:=(HB.out.alloc hsz _).grown hgrow1 hm3 (fun z hz=>(ZoE hownA z hz).1)
     clear hown hownA hown1 hgrow1
     go_roundw
     case rel=>exact⟨k+1,0,_,by go_num,rfl,Za,Za,HS,HG,by show _=_;rw[ZoH,HLEN.out];rfl,HB1⟩
     case measure=>exact Zj
   ·have Hy:Hid (ys.getD k 0=0):=by show _=_;simp[List.getD,hlt2]
    by_cases hneg:x<b
    ·have hn:((x:Int)-b)<0:=Za
     have E1:Hid (((x:Int)-b)+10000=(x+10000-(b):Nat)):=by show _=_;omega
     have HS:=HI.out.step_borrow Za HY.out (less:=b) (by have h:=Hy.out;omega) (by rw[Hx.out];exact hneg)
     rw[Hx.out] at HS
     have HS:=Zpe HS
     clear hneg
     have hown:wr.ownsRow w.heap.size 3 1 (.slice po no co) k ((out).map fun x=>Value.int .i64 (x:Nat)):=by
      have:=HO.out;unfold Grow at this;rwa [HLEN.out] at this
     have hsz:=HB.out.size
     have hownA:=hown.alloc (.cells #[.int .i64 (((x:Int)-b)+10000)] 3)
     have hm3:w.heap.size<=(wr.alloc (.cells #[.int .i64 (((x:Int)-b)+10000)] 3)).heap.size:=by simp;omega
     go_wp2_with (at_builtin;go_loud (refine ZoV _ rfl _ _ 23 rfl w.heap.size 3 i0 (.int .i64 0) 1 8 Tryz.underlying23 hi hz0 hz1 hz2 rfl Zd _ k _ rfl hownA ⟨wr.heap.size,0,none⟩ 1 1 [.int .i64 (((x:Int)-b)+10000)] rfl rfl (cell_one_new _ _ _) (by simp[Value.oneCell']) hm1 hm2 hm3 ?_);intro v' w1 hown1 hgrow1 _)
     have HG:Hid (Grow .i64 3 w1 w.heap.size v' (out++[x+10000-(b)])):=Grow.snoc HLEN.out E1.out hown1
     have HB1:Zo8 w w1:=(HB.out.alloc hsz _).grown hgrow1 hm3 (fun z hz=>(ZoE hownA z hz).1)
     clear hown hownA hown1 hgrow1
     go_roundw
     case rel=>exact⟨k+1,1,_,by go_num,rfl,Za,Za,HS,HG,by show _=_;rw[ZoH,HLEN.out];rfl,HB1⟩
     case measure=>exact Zj
    ·have hn:¬ ((x:Int)-b)<0:=Za
     have E1:Hid (((x:Int)-b)=(x-(b):Nat)):=by show _=_;omega
     have HS:=HI.out.step_plain HX.out Za (less:=b) (by have h:=Hy.out;omega) (by rw[Hx.out];omega)
     rw[Hx.out] at HS
     have HS:=Zpe HS
     clear hneg
     have hown:wr.ownsRow w.heap.size 3 1 (.slice po no co) k ((out).map fun x=>Value.int .i64 (x:Nat)):=by
      have:=HO.out;unfold Grow at this;rwa [HLEN.out] at this
     have hsz:=HB.out.size
     have hownA:=hown.alloc (.cells #[.int .i64 ((x:Int)-b)] 3)
     have hm3:w.heap.size<=(wr.alloc (.cells #[.int .i64 ((x:Int)-b)] 3)).heap.size:=by simp;omega
     go_wp2_with (at_builtin;go_loud (refine ZoV _ rfl _ _ 23 rfl w.heap.size 3 i0 (.int .i64 0) 1 8 Tryz.underlying23 hi hz0 hz1 hz2 rfl Zd _ k _ rfl hownA ⟨wr.heap.size,0,none⟩ 1 1 [.int .i64 ((x:Int)-b)] rfl rfl (cell_one_new _ _ _) (by simp[Value.oneCell']) hm1 hm2 hm3 ?_);intro v' w1 hown1 hgrow1 _)
     have HG:Hid (Grow .i64 3 w1 w.heap.size v' (out++[x-(b)])):=Grow.snoc HLEN.out E1.out hown1
     have HB1:Zo8 w w1:=(HB.out.alloc hsz _).grown hgrow1 hm3 (fun z hz=>(ZoE hownA z hz).1)
     clear hown hownA hown1 hgrow1
     go_roundw
     case rel=>exact⟨k+1,0,_,by go_num,rfl,Za,Za,HS,HG,by show _=_;rw[ZoH,HLEN.out];rfl,HB1⟩
     case measure=>exact Zj
  ·obtain rfl:k=xs.length:=Za
   have HL:Hid (∀ z ∈ out,z<10000):=HI.out.lt
   have HD:Hid (val 10000 out=n-m):=by show _=_;rw[HI.out.done hlm (by rw[HV.out.1,HV.out.2];exact hmn),HV.out.1,HV.out.2]
   have ht:=Zc9 HO.out.nums HO.out.pform HL.out _ HD.out
   go_wp2_with fail
   refine ht.mono ?_
   rintro e' w' ⟨v',rfl,rfl,hv,_⟩
   obtain⟨p',m',c',rfl⟩:=hv.form
   have HVV:=Zpe hv
   clear ht hv
   go_wp2
   go_ret
   exact⟨_,rfl,HVV.out,HB.out⟩
end Go.Proofs.YtmpaflidennnoaaGreatDoor
