/- The parts Div, Over. -/
import Derived.Test.YtmpaflidennnoaaGreatDoorH04
import Derived.Test.YtmpaflidennnoaaGreatDoorH03
set_option maxRecDepth 100000
set_option maxHeartbeats 4000000
set_option linter.unusedVariables false
set_option linter.unusedSimpArgs false
namespace Go.Proofs.YtmpaflidennnoaaGreatDoor
open Go.RowKit Go.Shelf
theorem ZnF {B:Nat} {l:List Nat} {k:Nat} (hl:∀ x ∈ l,x<B) (hk:l.length=k+2):∃ low,low<B ^ k/\val B l=(l.getD (k+1) 0*B+l.getD k 0)*B ^ k+low:=by
 refine⟨val B (l.take k),?_,?_⟩
 ·have:=Z6 (B:=B) (l:=l.take k) fun x hx=>hl x (List.mem_of_mem_take hx)
  rwa [Zo6,Nat.min_eq_left Za] at this
 ·have h1:=ZT B l (k+1)
  rw[ZoA Za] at h1
  rw[h1,ZT,ZoX]
  grind
theorem Zlx {B:Nat} {l:List Nat} {k:Nat} (hl:∀ x ∈ l,x<B) (hk:l.length=k+3) :
  ∃ low,low<B ^ k/\val B l=((l.getD (k+2) 0*B+l.getD (k+1) 0)*B+l.getD k 0)*B ^ k+low:=by
 refine⟨val B (l.take k),?_,?_⟩
 ·have:=Z6 (B:=B) (l:=l.take k) fun x hx=>hl x (List.mem_of_mem_take hx)
  rwa [Zo6,Nat.min_eq_left Za] at this
 ·have h1:=ZT B l (k+2)
  rw[ZoA Za] at h1
  rw[h1,ZT,ZT,ZoX,ZoX]
  grind
structure Digit (B u v q head top second next:Nat):Prop where
 parts:∃ M ulow vlow,0<M/\ulow<M/\vlow<M/\u=(head*B+next)*M+ulow/\v=(top*B+second)*M+vlow
 le:q*v<=u
 lt:u<(q+1)*v
 qB:q<B
 topB:top<B
 top2:B<=2*top
 head_lt:head<(top+1)*B
 second_lt:second<B
 next_lt:next<B
structure Close (B u v q g:Nat):Prop where
 gB:g<B
 ge:q<=g
 le:(g-1)*v<=u
 qle:q*v<=u
 lt:u<(q+1)*v
theorem Digit.of {B:Nat} (hB:1<B) {b p:List Nat} {k:Nat} (hb:∀ x ∈ b,x<B) (hp:∀ x ∈ p,x<B) (hbl:b.length=k+2) (hpl:p.length=k+3)
  (htop:B<=2*b.getD (k+1) 0) (hlt:val B p<B*val B b) :
  Digit B (val B p) (val B b) (val B p/val B b) (p.getD (k+2) 0*B+p.getD (k+1) 0) (b.getD (k+1) 0) (b.getD k 0) (p.getD k 0):=by
 obtain⟨ulow,hul,hu⟩:=Zlx hp hpl
 obtain⟨vlow,hvl,hv⟩:=ZnF hb hbl
 have hM:0<B ^ k:=Nat.pow_pos Za
 have hv0:0<val B b:=by
  rcases ZoF (val B b) with h | h
  ·rw[h] at hlt;omega
  ·exact h
 have h1:=Nat.div_add_mod (val B p) (val B b)
 have h2:=Nat.mod_lt (val B p) hv0
 refine⟨⟨B ^ k,ulow,vlow,hM,hul,hvl,hu,hv⟩,Nat.div_mul_le_self _ _,?_,?_,ZM Za hb _,htop,?_,ZM Za hb _,ZM Za hp _⟩
 ·have:(val B p/val B b+1)*val B b=val B b*(val B p/val B b)+val B b:=Zk
  omega
 ·exact Nat.div_lt_of_lt_mul (by rw[ZoM];exact hlt)
 ·have h3:=ZM Za hb k
  have h4:(p.getD (k+2) 0*B+p.getD (k+1) 0)*(B*B ^ k)<=val B p:=by rw[hu];grind
  have h5:(b.getD k 0+1)*B ^ k<=B*B ^ k:=ZoS _ h3
  have h6:val B b<(b.getD (k+1) 0+1)*(B*B ^ k):=by
   rw[hv]
   have:(b.getD (k+1) 0*B+b.getD k 0)*B ^ k+B ^ k=b.getD (k+1) 0*(B*B ^ k)+(b.getD k 0+1)*B ^ k:=Zk
   have:(b.getD (k+1) 0+1)*(B*B ^ k)=b.getD (k+1) 0*(B*B ^ k)+B*B ^ k:=Zk
   omega
  have h7:B*val B b<B*((b.getD (k+1) 0+1)*(B*B ^ k)):=Nat.mul_lt_mul_of_pos_left h6 Za
  have h8:B*((b.getD (k+1) 0+1)*(B*B ^ k))=(b.getD (k+1) 0+1)*B*(B*B ^ k):=Zk
  refine Nat.lt_of_mul_lt_mul_right (a:=B*B ^ k) ?_
  omega
section
variable {B u v q head top second next g left:Nat}
theorem Digit.start (h:Digit B u v q head top second next):GuessInv B top head q (head/top) (head % top):=by
 obtain⟨M,ulow,vlow,hM,hul,hvl,hu,hv⟩:=h.parts
 have h1:=h.topB
 have h2:=h.top2
 have h3:=h.second_lt
 have h4:=h.next_lt
 have h5:0<top:=Za
 refine⟨by rw[ZoM];exact Nat.div_add_mod _ _,?_,ZhT h2 h1 h.head_lt,Nat.lt_trans (Nat.mod_lt _ h5) h1⟩
 refine Zjc (B:=B) (M:=M) (ulow:=next*M+ulow) (second:=second) (vlow:=vlow) hM ?_ ?_ ?_ h.le Za h5
 ·have:(next+1)*M<=B*M:=ZoS _ h4
  have:(next+1)*M=next*M+M:=Zk
  omega
 ·rw[hu];grind
 ·rw[hv];grind
theorem Digit.high (h:Digit B u v q head top second next) (hg:B<=g):q<g:=Zox h.qB hg
theorem Digit.test (h:Digit B u v q head top second next) (hg:GuessInv B top head q g left) (ht:left*B+next<g*second):q<g:=by
 obtain⟨M,ulow,vlow,hM,hul,hvl,hu,hv⟩:=h.parts
 have h1:=Zkz hul hu hv h.le
 have h2:=(Zii hg.eq).1 ht
 rcases Zow q g with h3 | h3
 ·exact h3
 ·have:g*(top*B+second)<=q*(top*B+second):=ZoS _ h3
  omega
theorem Digit.done (h:Digit B u v q head top second next) (hg:GuessInv B top head q g left) (hB:g<B) (ht:¬ left*B+next<g*second):Close B u v q g:=by
 obtain⟨M,ulow,vlow,hM,hul,hvl,hu,hv⟩:=h.parts
 have h1:=h.top2
 have h2:¬ g*(top*B+second) > head*B+next:=fun hc=>ht ((Zii hg.eq).2 hc)
 exact⟨hB,hg.ge,ZfG Za hu hv hvl Za Za,h.le,h.lt⟩
theorem Digit.stop (h:Digit B u v q head top second next) (hg:GuessInv B top head q g left) (hq:q<g) (hl:B<=left+top):Close B u v q (g-1):=by
 obtain⟨M,ulow,vlow,hM,hul,hvl,hu,hv⟩:=h.parts
 have h1:=h.top2
 have h3:=ZhX hg hq
 have h4:=h.head_lt
 have hB:g-1<B:=by
  rcases Zow (g-1) B with h5 | h5
  ·exact h5
  ·have h6:B*top<=(g-1)*top:=ZoS _ h5
   have h7:(top+1)*B=B*top+B:=Zk
   omega
 have h5:=Zjq h3 hl Za (next:=next) h.second_lt
 exact⟨hB,Za,ZfG Za hu hv hvl Za h5,h.le,h.lt⟩
theorem Close.fits (h:Close B u v q g) (hf:g*v<=u):u-v*g<v:=by
 have h1:=h.lt
 have h2:=h.ge
 have h3:(q+1)*v<=(g+1)*v:=ZoS _ Za
 have h4:(g+1)*v=g*v+v:=Zk
 have h5:v*g=g*v:=ZoM _ _
 rw[h5]
 omega
theorem Close.over (h:Close B u v q g) (hf:u<g*v):1<=g/\u-v*(g-1)<v:=by
 have h0:1<=g:=by
  rcases ZoF g with h0 | h0
  ·subst h0;omega
  ·exact h0
 obtain⟨d,rfl⟩:∃ d,g=d+1:=⟨g-1,Za⟩
 refine⟨h0,?_⟩
 simp only[ZoT]
 have h5:(d+1)*v=d*v+v:=Zk
 have h6:v*d=d*v:=ZoM _ _
 rw[h6]
 have h7:q<d+1:=by
  rcases Zow q (d+1) with h7 | h7
  ·exact h7
  ·exact Zo4 (Zoz (ZoS v h7) h.qle) Za
 have h8:=h.lt
 have h9:=h.qle
 have h10:(q+1)*v=q*v+v:=Zk
 omega
end
structure DivInv (B:Nat) (b:List Nat) (N lq j:Nat) (A Q:List Nat):Prop where
 alen:A.length=lq+b.length
 alt:∀ x ∈ A,x<B
 qlen:Q.length=lq
 qlt:∀ x ∈ Q,x<B
 zero:∀ i,i<j->Q.getD i 0=0
 eq:val B A+val B Q*val B b=N
 top:val B (A.drop j)<val B b
theorem DivInv.split {B:Nat} {b:List Nat} {N lq i:Nat} {A Q:List Nat} (h:DivInv B b N lq (i+1) A Q) (hi:i<lq) :
  ∃ lo p hi',A=lo++p++hi'/\lo.length=i/\p.length=b.length+1/\(∀ x ∈ p,x<B):=by
 refine⟨A.take i,(A.drop i).take (b.length+1),(A.drop i).drop (b.length+1),?_,?_,?_,?_⟩
 ·rw[List.append_assoc,List.take_append_drop,List.take_append_drop]
 ·rw[Zo6,h.alen];omega
 ·rw[Zo6,List.length_drop,h.alen];omega
 ·intro x hx
  exact h.alt x (List.mem_of_mem_drop (List.mem_of_mem_take hx))
theorem DivInv.part {B:Nat} {b:List Nat} {N lq i:Nat} {lo p hi Q:List Nat} (hB:1<B) (hb:∀ x ∈ b,x<B) (h:DivInv B b N lq (i+1) (lo++p++hi) Q) (hlo:lo.length=i) (hp:p.length=b.length+1) :
  val B hi=0/\val B p<B*val B b:=by
 subst hlo
 have h1:=h.top
 rw[List.append_assoc,List.drop_append,List.drop_of_length_le Za,Zo7,show lo.length+1-lo.length=1 by omega] at h1
 rcases p with _ | ⟨x,p⟩
 ·simp at hp
 rw[List.cons_append,List.drop_succ_cons,List.drop_zero,ZbC] at h1
 have h2:=Z6 hb
 have h3:p.length=b.length:=by simpa using hp
 have hx:x<B:=h.alt x Zc
 rw[h3] at h1
 have h4:val B hi=0:=by
  rcases ZoF (val B hi) with h0 | h0
  ·exact h0
  ·have:B ^ b.length*1<=B ^ b.length*val B hi:=Nat.mul_le_mul_left _ h0
   omega
 refine⟨h4,?_⟩
 rw[h4] at h1
 rw[Zes]
 have:B*(val B p+1)<=B*val B b:=Nat.mul_le_mul_left _ Za
 have:B*(val B p+1)=B*val B p+B:=Zk
 omega
theorem ZiN (l:List Nat) {i j:Nat} (v:Nat) (h:i≠j):(l.set i v).getD j 0=l.getD j 0:=by
 simp only[List.getD,List.getElem?_set,if_neg h]
theorem DivInv.step {B:Nat} {b:List Nat} {N lq i:Nat} {lo p hi Q:List Nat} (hB:1<B) (hb:∀ x ∈ b,x<B) (h:DivInv B b N lq (i+1) (lo++p++hi) Q) (hi0:i<lq) (hlo:lo.length=i)
  (hp:p.length=b.length+1) {p':List Nat} (hp'l:p'.length=p.length) (hp':∀ x ∈ p',x<B) {g:Nat} (hg:g<B) (hle:val B b*g<=val B p) (hval:val B p'=val B p-val B b*g)
  (hlt:val B p-val B b*g<val B b):DivInv B b N lq i (lo++p'++hi) (Q.set i g):=by
 have ⟨h1,h2⟩:=h.part hB hb hlo hp
 subst hlo
 have hQ:Q.getD lo.length 0=0:=h.zero _ Za
 have hql:=h.qlen
 refine⟨?_,?_,by simp[hql],?_,?_,?_,?_⟩
 ·have:=h.alen
  simp only[ZoH] at this ⊢
  omega
 ·intro x hx
  rcases List.mem_append.1 hx with hx | hx
  ·rcases List.mem_append.1 hx with hx | hx
   ·exact h.alt x (by simp[hx])
   ·exact hp' x hx
  ·exact h.alt x (by simp[hx])
 ·exact Zdn h.qlt hg
 ·intro j hj
  rw[ZiN _ _ Za]
  exact h.zero j Za
 ·have h3:=Zg5 B Q lo.length g Za
  have h4:Q[lo.length]'Za=0:=by
   rw[<- hQ];simp[List.getD,show lo.length<Q.length by omega]
  rw[h4] at h3
  have h5:=h.eq
  rw[ZbC,ZbC,h1] at h5 ⊢
  have h6:val B p=val B p'+val B b*g:=Za
  rw[h6] at h5
  have h7:val B (Q.set lo.length g)=val B Q+B ^ lo.length*g:=Za
  rw[h7]
  grind
 ·rw[List.append_assoc,List.drop_append,List.drop_of_length_le Za,Zo7,Nat.sub_self,List.drop_zero,ZbC,h1]
  omega
theorem DivInv.start {B:Nat} (hB:1<B) {b A:List Nat} {N lq:Nat} (hA:∀ x ∈ A,x<B) (hl:A.length+1=lq+b.length) (hbl:0<b.length) (hv:val B A=N) (hbt:B ^ (b.length-1)<=val B b) :
  DivInv B b N lq lq (A++[0]) (List.replicate lq 0):=by
 refine⟨by simp;omega,ZbL hA Za,Zc,?_,?_,?_,?_⟩
 ·intro x hx
  have:=(List.mem_replicate.1 hx).2
  omega
 ·intro i _
  simp only[List.getD,List.getElem?_replicate];split<;>rfl
 ·rw[ZbA,ZeN,hv];simp
 ·rw[List.drop_append,ZbC]
  have h1:val B (A.drop lq)<B ^ (b.length-1):=by
   have:=Z6 (B:=B) (l:=A.drop lq) fun x hx=>hA x (List.mem_of_mem_drop hx)
   rw[List.length_drop] at this
   rwa [show A.length-lq=b.length-1 by omega] at this
  have h2:val B (List.drop (lq-A.length) [0])=0:=by
   refine ZgI fun x hx=>?_
   have:=List.mem_of_mem_drop hx
   simpa using this
  rw[h2]
  omega
theorem DivInv.done {B:Nat} {b A Q:List Nat} {n m s lq:Nat} (h:DivInv B b (n*s) lq 0 A Q) (hs:0<s) (hb:val B b=m*s):val B Q=n/m/\val B A/s=n % m:=by
 have h1:=h.top
 have h2:=h.eq
 rw[List.drop_zero] at h1
 rw[hb] at h1 h2
 have:=ZkJ hs (by omega:n*s=val B Q*(m*s)+val B A) h1
 exact⟨this.1,this.2.1⟩
theorem ZnY {B m k s:Nat} {xs:List Nat} (hB:1<B) (h2:B % 2=0) (hxs:Zp B m=xs) (hk:xs.length=k+1) (hs:s=B/(xs.getD k 0+1)) :
  (Zp B (m*s)).length=k+1/\B<=2*(Zp B (m*s)).getD k 0/\1<=s/\s<B/\B ^ k<=m*s:=by
 have hx:∀ x ∈ xs,x<B:=by rw[<- hxs];exact ZI hB m
 have hv:0<xs.getD k 0:=by
  rcases ZoF (xs.getD k 0) with h0 | h0
  ·exfalso
   have hl:=ZgQ hB m
   rw[hxs,List.getLast?_eq_getElem?,hk,ZoT,ZoL Za] at hl
   simp only[List.getD,ZoL (show k<xs.length by omega),Option.getD_some] at h0
   exact hl (by rw[h0])
  ·exact h0
 have hvB:=ZM Za hx k
 obtain⟨v,hve⟩:=Zpg (xs.getD k 0)
 rw[hve] at hv hvB hs
 have ⟨s1,s2,s3⟩:=Zmo hv hvB
 rw[<- hs] at s1 s2 s3
 have hm:m=val B (xs.take k)+B ^ k*v:=by
  have h1:=ZT B xs k
  rw[ZoA Za,hve,<- hxs,ZA hB] at h1
  rw[<- hxs];exact h1
 have hlow:val B (xs.take k)<B ^ k:=by
  have:=Z6 (B:=B) (l:=xs.take k) fun x hx'=>hx x (List.mem_of_mem_take hx')
  rwa [Zo6,Nat.min_eq_left Za] at this
 have hsB:s*(v+1)<=B:=by rw[hs];exact Nat.div_mul_le_self _ _
 have hP:0<B ^ k:=Nat.pow_pos Za
 have hup:m*s<B ^ (k+1):=by
  have h1:m<B ^ k*(v+1):=by rw[hm,Nat.mul_add,Zo2];omega
  have h2:m*s<B ^ k*(v+1)*s:=Nat.mul_lt_mul_of_pos_right h1 Za
  have h3:B ^ k*(s*(v+1))<=B ^ k*B:=Nat.mul_le_mul_left _ hsB
  have h4:B ^ k*(v+1)*s=B ^ k*(s*(v+1)):=Zk
  rw[ZoX]
  omega
 have hdown:B ^ k*(s*v)<=m*s:=by
  rw[hm]
  have:(val B (xs.take k)+B ^ k*v)*s=val B (xs.take k)*s+B ^ k*(s*v):=Zk
  omega
 have hsv:1<=s*v:=Nat.mul_pos Za hv
 have hone:B ^ k<=m*s:=by
  have:B ^ k*1<=B ^ k*(s*v):=Nat.mul_le_mul_left _ hsv
  omega
 have hlen:(Zp B (m*s)).length=k+1:=by
  have h1:=Zab hB hup
  have h2:=Zd1 hB hone
  omega
 have hsB2:s<B:=by
  have:s*2<=s*(v+1):=Nat.mul_le_mul_left _ Za
  omega
 refine⟨hlen,?_,s3,hsB2,hone⟩
 obtain⟨ys,hys⟩:=Zpg (Zp B (m*s))
 have hy:∀ x ∈ ys,x<B:=by rw[<- hys];exact ZI hB _
 rw[hys] at hlen ⊢
 have hval:val B ys=m*s:=by rw[<- hys];exact ZA hB _
 have h5:=ZT B ys k
 rw[ZoA Za,hval] at h5
 have h6:val B (ys.take k)<B ^ k:=by
  have:=Z6 (B:=B) (l:=ys.take k) fun x hx'=>hy x (List.mem_of_mem_take hx')
  rwa [Zo6,Nat.min_eq_left Za] at this
 have h7:s*v<=ys.getD k 0:=by
  have:B ^ k*(s*v)<B ^ k*(ys.getD k 0+1):=by rw[Nat.mul_add,Zo2];omega
  have:=Nat.lt_of_mul_lt_mul_left this
  omega
 omega
theorem Zgg {B n s:Nat} (hB:1<B) (hs:1<=s):(Zp B n).length<=(Zp B (n*s)).length:=
 ZN hB (Nat.le_mul_of_pos_right _ hs)
theorem Zd4 {B x:Nat} (h:0<x) (hx:x<B):Zp B x=[x]:=by
 rw[Za1 Za h,Nat.mod_eq_of_lt hx,Nat.div_eq_of_lt hx,ZO]
theorem Zf0 {B n s k:Nat} (hB:1<B) (hs:s<B) (hk:(Zp B n).length<=k):(Zp B (n*s)).length<=k+1:=by
 have h1:=Z6 (ZI hB n)
 rw[ZA hB] at h1
 have h2:B ^ (Zp B n).length<=B ^ k:=ZoB Za hk
 refine Zab hB ?_
 rw[ZoX]
 exact Nat.mul_lt_mul_of_lt_of_le (Zox h1 h2) (ZoW hs) Za
theorem Num.below {B:Nat} {w w':World} {v:Value} {n:Nat} (h:Num w v n) (hb:Below B w w') (hB:w.heap.size<=B):Num w' v n:=Nums.below h hb hB
theorem ZmN {w:World} {b off cap:Nat} {xs:List Nat} (hb:b<w.heap.size) (ha:At .u64 w b off xs) (hx:∀ x ∈ xs,x<1000000000) (hl:xs.length<=cap) (hc:cap<=maxLen) (n:Nat) (hn:val 1000000000 xs=n) :
  Num w (.slice (some ⟨b,off,none⟩) (Zp 1000000000 n).length cap) n:=by
 subst hn
 have h1:=ZcJ (B:=1000000000) Za hx
 refine⟨_,cap,rfl,Za,hc,fun _=>⟨b,off,rfl,hb,?_⟩⟩
 have h2:=Za7 (B:=1000000000) Za hx
 intro j hj
 have h3:=ha j Za
 rw[h3]
 have:(Zp 1000000000 (val 1000000000 xs))[j]?=(xs.take (Zp 1000000000 (val 1000000000 xs)).length)[j]?:=by rw[<- h2]
 rw[ZoL hj,List.getElem?_take_of_lt hj,ZoL Za] at this
 rw[Zou this]
theorem Zin (w:World) (p:Option Addr) (cap:Nat) (hc:cap<=maxLen):Num w (.slice p 0 cap) 0:=by
 refine⟨p,cap,?_,?_,hc,fun h=>Zo4 (ZO _) h⟩
 ·rw[ZO];rfl
 ·rw[ZO];exact ZoD _
def ZeG (w:World) (n m:Nat) (e:Ending) (w':World):Prop:=∃ q r,e=.returned (.tuple #[q,r])/\Num w' q (n/m)/\Num w' r (n % m)/\Below w.heap.size w w'
theorem ZkH {v1 v2:Value} {n m:Nat} {w:World} (h1:Num w v1 n) (h2:Num w v2 m) (hl1:(Zp 1000000000 n).length<=1000000) (hl2:(Zp 1000000000 m).length<=1000000) (hlt:n<m) :
  Calls Tryz.prog 151 #[v1,v2] w (ZeG w n m):=by
 have H1:=Zpe h1
 have H2:=Zpe h2
 clear h1 h2
 go_enter Tryz.func151,Tryz.ntmps151
 go_wp2_with fail
 refine(ZbN H1.out H2.out hl1 hl2).mono ?_
 rintro e w1 ⟨r,rfl,hS,hB⟩
 have hr:r<0:=hS.1.2 hlt
 have HB:=Zpe hB
 clear hS hB
 go_wp2
 go_ret2
 refine⟨_,_,rfl,?_,?_,HB.out⟩
 ·rw[Nat.div_eq_of_lt hlt];exact Zin _ _ _ (ZoD _)
 ·rw[Nat.mod_eq_of_lt hlt];exact H1.out.below HB.out Zpf
theorem ZkW (p1 p2:Option Addr) (c1 c2:Nat) (xs:List Nat) (d n:Nat) (w:World) (hxs:Zp 1000000000 n=xs) (hd0:0<d) (hd1:d<1000000000) (h1:Num w (.slice p1 xs.length c1) n)
  (h2:Num w (.slice p2 1 c2) d) (hl1:xs.length<=1000000) (hle:d<=n) :
  Calls Tryz.prog 151 #[.slice p1 xs.length c1,.slice p2 1 c2] w (ZeG w n d):=by
 have e1:=Zd4 hd0 hd1
 have H1:=Zpe h1
 have H2:=Zpe h2
 have HXS:=Zpe hxs
 obtain⟨_,_,hv,_,_,h2'⟩:=h2
 rw[e1] at h2' hv
 injection hv with hv1 hv2 hv3
 subst hv1
 obtain⟨b,off,rfl,hb,ha⟩:=h2' Zc
 have hcd:w.cell? ⟨b,off,none⟩=some (.int .u64 (d:Nat)):=ha.getD (j:=0) Zc rfl
 clear h2' hxs h1 ha hv2 hv3
 go_enter Tryz.func151,Tryz.ntmps151
 go_wp2_with fail
 refine(ZbN H1.out H2.out (by rw[HXS.out];exact hl1) (by rw[e1];simp)).mono ?_
 rintro e w1 ⟨r,rfl,hS,hB⟩
 have hr:¬ r<0:=fun h=>by have:=hS.1.1 h;omega
 have hcd1:w1.cell? ⟨b,off,none⟩=some (.int .u64 (d:Nat)):=(hB.cell (p:=⟨b,off,none⟩) hb).trans hcd
 have HB:=Zpe hB
 clear hS hB hcd
 obtain⟨_,_,hv1,hc1,hc2,hp1⟩:=H1.out
 injection hv1 with hv1 hv2 hv3
 subst hv1
 rw[HXS.out] at hp1
 have HX:Hid (∀ x ∈ xs,x<1000000000):=by rw[<- HXS.out];exact ZI Za n
 have HV:Hid (val 1000000000 xs=n):=by rw[<- HXS.out];exact ZA Za n
 have HP:Hid (xs≠[]->∃ b off,p1=some ⟨b,off,none⟩/\b<w1.heap.size/\At .u64 w1 b off xs):=fun h=>by
  obtain⟨b,off,h1,h2,h3⟩:=hp1 h
  exact⟨b,off,h1,Zox h2 HB.out.size,h3.below HB.out h2⟩
 clear hp1 hv2 hv3 hc1 hc2
 go_wp2_with fail
 refine(ZfT p1 c1 xs hl1 d Za Za w1 HP.out HX.out).mono ?_
 rintro e w2 ⟨q,rfl,hq,hB2⟩
 rw[HV.out] at hq ⊢
 have HQ:=Zpe hq.num
 have HB2:=Zpe hB2
 clear hq hB2
 obtain⟨r',hr'⟩:=Zpg (n % d)
 have hrl:r'<1000000000:=by rw[<- hr'];exact Nat.lt_trans (Nat.mod_lt _ hd0) hd1
 rw[hr']
 have HR':=Zpe hr'
 clear hr'
 go_wp2_with fail
 have ha3:At .u64 (w2.alloc (.cells #[.int .u64 (r':Nat)] 158)) w2.heap.size 0 [r']:=by
  intro j hj
  obtain rfl:j=0:=by simp at hj;omega
  exact ZK _ _ _ _ rfl
 have hx3:∀ x ∈ [r'],x<1000000000:=by simp;omega
 have HN:=Zpe (ZmN (w:=w2.alloc (.cells #[.int .u64 (r':Nat)] 158)) (cap:=1) Zc ha3 hx3 Zc (by unfold maxLen;omega) r' (by simp[val]))
 refine(Zdo (some ⟨w2.heap.size,0,none⟩) 1 [r'] _ Zc (by unfold maxLen;omega) hx3 (fun _=>⟨w2.heap.size,0,rfl,ha3⟩)).mono ?_
 rintro e w' ⟨rfl,rfl⟩
 have e2:val 1000000000 [r']=r':=by simp[val]
 rw[e2]
 clear ha3 hx3
 go_wp2
 go_ret2
 refine⟨_,_,rfl,HQ.out.below ((Zoq _ _).alloc Zpf _) Zpf,by rw[HR'.out];exact HN.out,?_⟩
 exact(HB.out.trans ((Below.mono HB2.out HB.out.size))).alloc (Zoz HB.out.size HB2.out.size) _
end Go.Proofs.YtmpaflidennnoaaGreatDoor
