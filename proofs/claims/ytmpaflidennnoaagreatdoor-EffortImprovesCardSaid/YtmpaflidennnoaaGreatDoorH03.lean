/- The parts Knuth, Take, Div, Over, Long, Gcd. -/
import Derived.Test.YtmpaflidennnoaaGreatDoorH02
import Derived.Deep.AppendLies
set_option maxRecDepth 100000
set_option maxHeartbeats 4000000
set_option linter.unusedVariables false
set_option linter.unusedSimpArgs false
namespace Go.Proofs.YtmpaflidennnoaaGreatDoor
open Go.RowKit Go.Shelf
structure GuessInv (B top head:Nat) (q g left:Nat):Prop where
 eq:g*top+left=head
 ge:q<=g
 le:g<=B+1
 left_lt:left<B
theorem Zj1 {B M u v q head top second ulow vlow:Nat} (hM:0<M) (hul:ulow<B*M) (hu:u=head*(B*M)+ulow)
  (hv:v=top*(B*M)+(second*M+vlow)) (hq:q*v<=u) (hB:0<B) (htop:0<top):q<=head/top:=by
 rw[Nat.le_div_iff_mul_le htop]
 have hBM:0<B*M:=Nat.mul_pos hB hM
 have h1:q*top*(B*M)<=q*v:=by rw[hv];grind
 have h2:q*top*(B*M)<(head+1)*(B*M):=by
  have:(head+1)*(B*M)=head*(B*M)+B*M:=Zk
  omega
 have:=Nat.lt_of_mul_lt_mul_right h2
 omega
theorem ZhY {B top head:Nat} (htop:B<=2*top) (htB:top<B) (hh:head<(top+1)*B):head/top<=B+1:=by
 have h0:0<top:=Za
 have h1:head/top<B+2:=by
  rw[Nat.div_lt_iff_lt_mul h0]
  have h2:(top+1)*B=top*B+B:=Zk
  have h3:(B+2)*top=top*B+2*top:=Zk
  omega
 omega
theorem Zle {B M u v q head top second next ulow vlow:Nat} (hul:ulow<M)
  (hu:u=(head*B+next)*M+ulow) (hv:v=(top*B+second)*M+vlow) (hq:q*v<=u):q*(top*B+second)<=head*B+next:=by
 have h1:q*(top*B+second)*M<=q*v:=by rw[hv];grind
 have h2:q*(top*B+second)*M<(head*B+next+1)*M:=by
  have:(head*B+next+1)*M=(head*B+next)*M+M:=Zk
  omega
 have:=Nat.lt_of_mul_lt_mul_right h2
 omega
theorem Zi1 {B head top second next g left:Nat} (h:g*top+left=head):g*second > left*B+next<->g*(top*B+second) > head*B+next:=by
 have:g*(top*B+second)=g*top*B+g*second:=Zk
 have:head*B=g*top*B+left*B:=by rw[<- h];grind
 omega
theorem ZfX {B M u v g head top second next ulow vlow:Nat} (hgB:g<=B) (hu:u=(head*B+next)*M+ulow) (hv:v=(top*B+second)*M+vlow) (hvl:vlow<M)
  (htop:1<=top) (hg:g*(top*B+second)<=head*B+next):(g-1)*v<=u:=by
 rcases Zo0 g with h0 | h0
 ·subst h0;simp
 ·obtain⟨d,rfl⟩:∃ d,g=d+1:=⟨g-1,Za⟩
  have h1:(d+1)*(top*B+second)*M<=(head*B+next)*M:=Zpd _ hg
  have h2:(d+1)*v=(d+1)*(top*B+second)*M+(d+1)*vlow:=by rw[hv];grind
  have h3:(d+1)*vlow<=B*M:=Nat.mul_le_mul hgB (Zph hvl)
  have h4:B*M<=v:=by
   rw[hv]
   have:1*B<=top*B:=Zpd _ htop
   have:B*M<=(top*B+second)*M:=Zpd _ Za
   omega
  have h5:(d+1)*v=d*v+v:=Zk
  simp only[Zpe]
  omega
theorem ZjS {B head top second next g left:Nat} (h:g*top+left=head) (hl:B<=left) (hg:g<=B) (hs:second<B):g*(top*B+second)<=head*B+next:=by
 have h1:g*(top*B+second)=g*top*B+g*second:=Zk
 have h2:head*B=g*top*B+left*B:=by rw[<- h];grind
 have h3:g*second<=B*B:=Nat.mul_le_mul hg (Zph hs)
 have h4:B*B<=left*B:=Zpd _ hl
 omega
theorem GuessInv.less {B top head q g left:Nat} (h:GuessInv B top head q g left) (hq:q<g) (hl:left+top<B):GuessInv B top head q (g-1) (left+top):=by
 have h1:=h.eq
 have h2:=h.le
 obtain⟨d,rfl⟩:∃ d,g=d+1:=⟨g-1,Za⟩
 refine⟨?_,Za,Za,hl⟩
 simp only[Zpe]
 grind
theorem Zh5 {B top head q g left:Nat} (h:GuessInv B top head q g left) (hq:q<g):(g-1)*top+(left+top)=head:=by
 have h1:=h.eq
 obtain⟨d,rfl⟩:∃ d,g=d+1:=⟨g-1,Za⟩
 simp only[Zpe]
 grind
structure TakeInv (B:Nat) (p b:List Nat) (t:Nat) (k:Nat) (o:List Nat) (c w:Nat):Prop where
 len:o.length=k
 lt:∀ x ∈ o,x<B
 borrow:w<=1
 carry:c<B
 eq:val B o+val B (b.take k)*t=val B (p.take k)+B ^ k*(c+w)
theorem TakeInv.start {B:Nat} (hB:0<B) (p b:List Nat) (t:Nat):TakeInv B p b t 0 [] 0 0:=⟨rfl,Zc,Za,hB,by simp[val]⟩
theorem TakeInv.step {B:Nat} (hB:1<B) {p b:List Nat} (hp:∀ x ∈ p,x<B) (hb:∀ x ∈ b,x<B) {t:Nat} (ht:t<B) {k:Nat} {o:List Nat} {c w:Nat}
  (h:TakeInv B p b t k o c w) {s:Nat} (hs:s=c+w+b.getD k 0*t) {x w':Nat}
  (hx:(p.getD k 0<s % B/\x=p.getD k 0+B-s % B/\w'=1)\/(s % B<=p.getD k 0/\x=p.getD k 0-s % B/\w'=0)) :
  TakeInv B p b t (k+1) (o++[x]) (s/B) w':=by
 have h1:=ZM Za hp k
 have h2:=ZM Za hb k
 have h3:=h.borrow
 have h4:=h.carry
 have h5:=Nat.mod_lt s (show 0<B by omega)
 have hmul:b.getD k 0*t<=(B-1)*(B-1):=Nat.mul_le_mul Za Za
 have hBB:(B-1)*(B-1)+2*(B-1)+1=B*B:=by
  obtain⟨d,rfl⟩:∃ d,B=d+1:=⟨B-1,Za⟩
  simp only[Zpe];grind
 have hx2:x<B/\w'<=1/\x+s % B=p.getD k 0+B*w':=by
  rcases hx with ⟨ha,rfl,rfl⟩ | ⟨ha,rfl,rfl⟩
  ·exact⟨Za,Za,Za⟩
  ·exact⟨Za,Za,Za⟩
 obtain⟨hx3,hw',hxe⟩:=hx2
 refine⟨by simp[h.len],ZbV h.lt hx3,hw',Nat.div_lt_of_lt_mul Za,?_⟩
 rw[ZbQ,h.len,ZS,ZS,Zpi]
 have h6:=h.eq
 have h7:=Nat.mod_add_div s B
 generalize s % B=r at *
 generalize s/B=q at *
 generalize B ^ k=K at *
 generalize b.getD k 0=y at *
 generalize p.getD k 0=z at *
 have h8:K*x+K*r=K*z+K*(B*w'):=by rw[<- Nat.mul_add,hxe,Nat.mul_add]
 have h9:K*r+K*(B*q)=K*(c+w)+K*(y*t):=by rw[<- Nat.mul_add,h7,hs,Nat.mul_add]
 have h10:(val B (b.take k)+K*y)*t=val B (b.take k)*t+K*(y*t):=Zk
 have h11:K*B*(q+w')=K*(B*q)+K*(B*w'):=Zk
 rw[h10,h11]
 omega
theorem Zfe {B:Nat} {p b:List Nat} {t:Nat} {o:List Nat} {c w:Nat} (h:TakeInv B p b t p.length o c w) (hl:b.length<=p.length) (hle:val B b*t<=val B p) :
  c=0/\w=0/\val B o=val B p-val B b*t:=by
 have h1:=h.eq
 rw[ZoV ZpA,ZoV hl] at h1
 have h2:=Z8 h.lt
 rw[h.len] at h2
 rcases Zo0 (c+w) with h0 | h0
 ·rw[h0] at h1
  exact⟨Za,Za,Za⟩
 ·have:B ^ p.length*1<=B ^ p.length*(c+w):=Nat.mul_le_mul_left _ h0
  omega
theorem Zdn {B:Nat} {p b:List Nat} {t:Nat} {o:List Nat} {c w:Nat} (h:TakeInv B p b t p.length o c w) (hl:b.length<=p.length) (hgt:val B p<val B b*t)
  (hle:val B b*(t-1)<=val B p) (hb:val B b<B ^ p.length):(c+w=1)/\val B o+val B b*t=val B p+B ^ p.length:=by
 have h1:=h.eq
 rw[ZoV ZpA,ZoV hl] at h1
 have h2:=Z8 h.lt
 rw[h.len] at h2
 have h3:val B b*t<=val B p+val B b:=by
  rcases Zo0 t with h0 | h0
  ·subst h0;simp
  ·obtain⟨d,rfl⟩:∃ d,t=d+1:=⟨t-1,Za⟩
   simp only[Zpe] at hle
   have:val B b*(d+1)=val B b*d+val B b:=Zk
   omega
 have h4:c+w=1:=by
  rcases Nat.lt_trichotomy (c+w) 1 with h5 | h5 | h5
  ·have:c+w=0:=Za
   rw[this] at h1
   omega
  ·exact h5
  ·have:B ^ p.length*2<=B ^ p.length*(c+w):=Nat.mul_le_mul_left _ h5
   omega
 refine⟨h4,?_⟩
 rw[h4] at h1
 omega
structure GiveInv (B:Nat) (p b:List Nat) (k:Nat) (o:List Nat) (c:Nat):Prop where
 len:o.length=k
 lt:∀ x ∈ o,x<B
 carry:c<=1
 eq:val B o+B ^ k*c=val B (p.take k)+val B (b.take k)
theorem GiveInv.start (B:Nat) (p b:List Nat):GiveInv B p b 0 [] 0:=⟨rfl,Zc,Za,by simp[val]⟩
theorem GiveInv.step {B:Nat} (hB:1<B) {p b:List Nat} (hp:∀ x ∈ p,x<B) (hb:∀ x ∈ b,x<B) {k:Nat} {o:List Nat} {c:Nat}
  (h:GiveInv B p b k o c) {s:Nat} (hs:s=c+p.getD k 0+b.getD k 0):GiveInv B p b (k+1) (o++[s % B]) (s/B):=by
 have h':PlusInv B p b k o c:=⟨h.len,h.lt,h.carry,h.eq⟩
 have:=h'.step hB hp hb (x:=s) Za
 exact⟨this.len,this.lt,this.carry,this.eq⟩
theorem Zfv {B:Nat} {p b p0:List Nat} {t:Nat} {o:List Nat} {c:Nat} (h:GiveInv B p b p.length o c) (hl:b.length<=p.length) (hp:val B p+val B b*t=val B p0+B ^ p.length) (ht:1<=t)
  (hle:val B b*(t-1)<=val B p0) (hlt:val B p0-val B b*(t-1)<B ^ p.length):val B o=val B p0-val B b*(t-1):=by
 have h1:=h.eq
 rw[ZoV ZpA,ZoV hl] at h1
 have h2:=Z8 h.lt
 rw[h.len] at h2
 obtain⟨d,rfl⟩:∃ d,t=d+1:=⟨t-1,Za⟩
 simp only[Zpe] at hle hlt ⊢
 have h3:val B b*(d+1)=val B b*d+val B b:=Zk
 have h4:=h.carry
 rcases Zo0 c with h5 | h5
 ·subst h5;simp only[Nat.mul_zero,Nat.add_zero] at h1;omega
 ·have:c=1:=Za
  subst this
  omega
theorem Zmc {B v:Nat} (hv:0<v) (hvB:v<B):B/(v+1)*v<B/\B<=2*(B/(v+1)*v)+1/\1<=B/(v+1):=by
 have h1:1<=B/(v+1):=by rw[Nat.le_div_iff_mul_le Za];omega
 have h2:B/(v+1)*(v+1)<=B:=Nat.div_mul_le_self _ _
 have h3:B<(B/(v+1)+1)*(v+1):=by
  have h:=Nat.mod_add_div B (v+1)
  have h':=Nat.mod_lt B (show 0<v+1 by omega)
  have h'':(B/(v+1)+1)*(v+1)=(v+1)*(B/(v+1))+(v+1):=Zk
  omega
 generalize B/(v+1)=s at *
 have h4:s*(v+1)=s*v+s:=Zk
 have h5:(s+1)*(v+1)=s*v+s+v+1:=Zk
 have h6:s+v<=s*v+1:=by
  obtain⟨a,rfl⟩:∃ a,s=a+1:=⟨s-1,Za⟩
  obtain⟨c,rfl⟩:∃ c,v=c+1:=⟨v-1,Za⟩
  have:(a+1)*(c+1)=a*c+a+c+1:=Zk
  omega
 exact⟨Za,Za,h1⟩
theorem Zk6 {n m s q r:Nat} (hs:0<s) (h:n*s=q*(m*s)+r) (hr:r<m*s):q=n/m/\r/s=n % m/\r % s=0:=by
 have hm:0<m:=by
  rcases Zo0 m with h0 | h0
  ·subst h0;simp at hr
  ·exact h0
 have h1:r=(n-q*m)*s:=by
  rw[Nat.sub_mul,Nat.mul_assoc];omega
 have h2:q*m<=n:=by
  rcases ZoR n (q*m) with h' | h'
  ·have:=Nat.mul_lt_mul_of_pos_right h' hs
   have h3:q*m*s=q*(m*s):=Nat.mul_assoc _ _ _
   omega
  ·exact h'
 have h3:n-q*m<m:=by
  rw[h1] at hr
  exact Nat.lt_of_mul_lt_mul_right hr
 have h4:n=m*q+(n-q*m):=by have:m*q=q*m:=Zo7 _ _;omega
 refine⟨?_,?_,?_⟩
 ·rw[h4,Nat.mul_add_div hm,Nat.div_eq_of_lt h3];rfl
 ·rw[h1,Nat.mul_div_cancel _ hs]
  conv=>rhs;rw[h4]
  rw[Nat.mul_add_mod,Nat.mod_eq_of_lt h3]
 ·rw[h1,Nat.mul_mod_left]
theorem Zgj (lo os rest hi:List Nat) (p i:Nat) (h:i=lo.length+os.length):(lo++(os++p::rest)++hi).getD i 0=p:=by
 subst h
 simp only[List.getD,List.append_assoc,List.getElem?_append]
 rw[if_neg Za,if_neg Za,Nat.add_sub_cancel_left,Nat.sub_self]
 simp
theorem Zn2 (lo os rest hi:List Nat) (p v i:Nat) (h:i=lo.length+os.length):(lo++(os++p::rest)++hi).set i v=lo++(os++[v]++rest)++hi:=by
 subst h
 have e:lo++(os++p::rest)++hi=(lo++os)++p::(rest++hi):=Zc
 rw[e,List.set_append_right _ _ Zc,Zo2,Nat.sub_self]
 simp
theorem Zg8 (lo os rest hi:List Nat) (p:Nat):lo.length+os.length<(lo++(os++p::rest)++hi).length:=Zc
theorem Zb1 {E:TypeId} {B g cap0:Nat} {lo os rest hi:List Nat} {p x i:Nat} {v:Int} {w:World} (h:Row .u64 E w B g cap0 (lo++(os++p::rest)++hi)) (hi0:i=lo.length+os.length) (hv:v=(x:Nat)) :
  Row .u64 E (w.setCell ⟨g,i,none⟩ (.int .u64 v)) B g cap0 (lo++(os++[x]++rest)++hi):=by
 subst hv
 have:=h.set i x
 rwa [Zn2 lo os rest hi p x i hi0] at this
theorem ZeQ {E:TypeId} {B g cap0:Nat} {lo os rest hi:List Nat} {p x n i:Nat} {u v:Int} {w:World} (h:Row .u64 E w B g cap0 (lo++(os++p::rest)++hi)) (hi0:i=lo.length+os.length) (hu:u=(n:Nat)) (hv:v=(x:Nat)) :
  Row .u64 E ((w.setCell ⟨g,i,none⟩ (.int .u64 u)).setCell ⟨g,i,none⟩ (.int .u64 v)) B g cap0 (lo++(os++[x]++rest)++hi):=by
 have h1:=Zb1 h hi0 hu
 have e:lo++(os++[n]++rest)++hi=lo++(os++n::rest)++hi:=Zc
 rw[e] at h1
 exact Zb1 h1 hi0 hv
theorem ZbE {w w':World} {g:Nat} (h:w.grownBy w' (some g)) (o:Nat) (v:Value):w.grownBy (w'.setCell ⟨g,o,none⟩ v) (some g):=
 ⟨h.os,h.tape,h.output,by simp[World.setCell];exact h.size,fun k hk hne=>(ZoN w' _ v k (fun e=>hne (by rw[e]))).trans (h.block k hk hne)⟩
theorem Zgg (E:TypeId) (g cap0 cap i:Nat) (lo ps hi:List Nat) (q:Option Addr) (c2:Nat) (bs:List Nat) (t:Nat) (w:World)
  (hr:Row .u64 E w 0 g cap0 (lo++ps++hi)) (hi0:i=lo.length) (hps:∀ x ∈ ps,x<1000000000) (hbs:∀ x ∈ bs,x<1000000000) (ht:t<1000000000) (hl:(lo++ps++hi).length<=1000000)
  (hq:bs≠[]->∃ b off,q=some ⟨b,off,none⟩/\b≠g/\b<w.heap.size/\At .u64 w b off bs) (hbl:bs.length<=1000000) (hcap:ps.length<=cap/\cap<=maxLen) :
  Calls Tryz.prog 195 #[.slice (some ⟨g,i,none⟩) ps.length cap,.slice q bs.length c2,.int .u64 t] w fun e w'=>
   ∃ os c wb,e=.returned (.bool (decide (c+wb=0)))/\TakeInv 1000000000 ps bs t ps.length os c wb/\Row .u64 E w' 0 g cap0 (lo++os++hi)/\w.grownBy w' (some g):=by
 subst hi0
 have HP:=Zpz hps
 have HBS:=Zpz hbs
 have HQ:=Zpz hq
 have hcap1:=hcap.1
 have hcap2:=hcap.2
 unfold maxLen at hcap2
 have hll:lo.length+(ps.length+hi.length)<=1000000:=by simpa using hl
 have HR0:=Zpz hr
 clear hps hbs hq hcap hr hl
 go_enter Tryz.func195,Tryz.ntmps195
 go_wp2
 go_loopw [7,8,13] (fun c b i wr=>∃ (k:Nat) (os:List Nat) (cr wb:Nat),k<=ps.length/\i=.int .i64 k/\c=.int .u64 cr/\b=.int .u64 wb/\
   Hid (TakeInv 1000000000 ps bs t k os cr wb)/\Hid (Row .u64 E wr 0 g cap0 (lo++(os++ps.drop k)++hi))/\Hid (w.grownBy wr (some g))) (fun _ _ i _=>ps.length-(intOf i).toNat)
 case atStart=>exact⟨0,[],0,0,ZoY _,rfl,rfl,rfl,TakeInv.start Za _ _ _,HR0,World.grownBy.refl _ _⟩
 case round=>
  obtain⟨k,os,cr,wb,hk,rfl,rfl,rfl,HI,HR,HG⟩:=hrel
  have hcr:=HI.out.carry
  have hwb:=HI.out.borrow
  by_cases hlt:k<ps.length
  ·obtain⟨p,hp⟩:=ZpB (ps.getD k 0)
   have hpl:p<1000000000:=by rw[<- hp];exact ZM Za HP.out k
   have hd:ps.drop k=p::ps.drop (k+1):=by rw[List.drop_eq_getElem_cons hlt];subst hp;simp[List.getD,hlt]
   have HR1:Hid (Row .u64 E wr 0 g cap0 (lo++(os++p::ps.drop (k+1))++hi)):=by have:=HR.out;rw[hd] at this;exact this
   have hidx:lo.length+k=lo.length+os.length:=by rw[HI.out.len]
   have cp:wr.cell? ⟨g,lo.length+k,none⟩=some (.int .u64 (p:Nat)):=HR1.out.cell (by rw[hidx];exact Zg8 _ _ _ _ _) (Zgj _ _ _ _ _ _ hidx)
   have fp:wr.frozen? ⟨g,lo.length+k,none⟩=false:=HR1.out.frozen _
   have HIX:=Zpz hidx
   have Hp:=Zpz hp
   clear hp hd hidx HR
   by_cases hlt2:k<bs.length
   ·obtain⟨b2,off2,rfl,hne,hb2,ha2⟩:=HQ.out (ZoT Za)
    obtain⟨y,hy⟩:=ZpB (bs.getD k 0)
    have hyl:y<1000000000:=by rw[<- hy];exact ZM Za HBS.out k
    have cy:wr.cell? ⟨b2,off2+k,none⟩=some (.int .u64 (y:Nat)):=(Zo3 (w:=w) (a:=⟨b2,off2+k,none⟩) (HG.out.block b2 hb2 (by simpa using hne))).trans (ha2.getD hlt2 hy)
    have Hy:=Zpz hy
    have hmul:y*t<=999999999*999999999:=Nat.mul_le_mul Za Za
    have hmul':((y*t:Nat):Int)=(y:Int)*t:=Zc
    have hm0:0<=(y:Int)*t:=Za
    have hm1:(y:Int)*t<=999999998000000001:=Za
    clear hy ha2 hmul hmul'
    by_cases hlt3:p<(cr+wb+y*t) % 1000000000
    ·have hlt3':(p:Int)<((cr:Int)+wb+(y:Int)*t) % 1000000000:=by have e:((cr+wb+y*t:Nat):Int)=(cr:Int)+wb+y*t:=Zc;omega
     have E1:Hid ((p:Int)+1000000000-((cr:Int)+wb+(y:Int)*t) % 1000000000=(p+1000000000-(cr+wb+y*t) % 1000000000:Nat)):=by show _=_;have e:((cr+wb+y*t:Nat):Int)=(cr:Int)+wb+y*t:=Zc;omega
     have E2:Hid (((cr:Int)+wb+(y:Int)*t)/1000000000=((cr+wb+y*t)/1000000000:Nat)):=by show _=_;have e:((cr+wb+y*t:Nat):Int)=(cr:Int)+wb+y*t:=Zc;omega
     have HS:Hid (TakeInv 1000000000 ps bs t (k+1) (os++[p+1000000000-(cr+wb+y*t) % 1000000000]) ((cr+wb+y*t)/1000000000) 1):=
      HI.out.step Za HP.out HBS.out ht rfl (.inl (by rw[Hp.out,Hy.out];exact⟨hlt3,rfl,rfl⟩)) |> fun h=>by rw[Hy.out] at h;exact h
     clear hlt3
     go_wp2
     go_roundw
     case rel=>exact⟨k+1,_,_,1,Za,by go_num,by rw[E2.out],rfl,HS,ZeQ HR1.out HIX.out (n:=p+1000000000) Za E1.out,ZbE (ZbE HG.out _ _) _ _⟩
     case measure=>exact Zj
    ·have hlt3':¬ (p:Int)<((cr:Int)+wb+(y:Int)*t) % 1000000000:=by have e:((cr+wb+y*t:Nat):Int)=(cr:Int)+wb+y*t:=Zc;omega
     have E1:Hid ((p:Int)-((cr:Int)+wb+(y:Int)*t) % 1000000000=(p-(cr+wb+y*t) % 1000000000:Nat)):=by show _=_;have e:((cr+wb+y*t:Nat):Int)=(cr:Int)+wb+y*t:=Zc;omega
     have E2:Hid (((cr:Int)+wb+(y:Int)*t)/1000000000=((cr+wb+y*t)/1000000000:Nat)):=by show _=_;have e:((cr+wb+y*t:Nat):Int)=(cr:Int)+wb+y*t:=Zc;omega
     have HS:Hid (TakeInv 1000000000 ps bs t (k+1) (os++[p-(cr+wb+y*t) % 1000000000]) ((cr+wb+y*t)/1000000000) 0):=
      HI.out.step Za HP.out HBS.out ht rfl (.inr (by rw[Hp.out,Hy.out];exact⟨Za,rfl,rfl⟩)) |> fun h=>by rw[Hy.out] at h;exact h
     clear hlt3
     go_wp2
     go_roundw
     case rel=>exact⟨k+1,_,_,0,Za,by go_num,by rw[E2.out],rfl,HS,Zb1 HR1.out HIX.out E1.out,ZbE HG.out _ _⟩
     case measure=>exact Zj
   ·have Hy:Hid (bs.getD k 0=0):=by show _=_;simp[List.getD,hlt2]
    by_cases hlt3:p<(cr+wb+0*t) % 1000000000
    ·have hlt3':(p:Int)<((cr:Int)+wb) % 1000000000:=by have e:((cr+wb+0*t:Nat):Int)=(cr:Int)+wb:=Zc;omega
     have E1:Hid ((p:Int)+1000000000-((cr:Int)+wb) % 1000000000=(p+1000000000-(cr+wb+0*t) % 1000000000:Nat)):=by show _=_;have e:((cr+wb+0*t:Nat):Int)=(cr:Int)+wb:=Zc;omega
     have E2:Hid (((cr:Int)+wb)/1000000000=((cr+wb+0*t)/1000000000:Nat)):=by show _=_;have e:((cr+wb+0*t:Nat):Int)=(cr:Int)+wb:=Zc;omega
     have HS:Hid (TakeInv 1000000000 ps bs t (k+1) (os++[p+1000000000-(cr+wb+0*t) % 1000000000]) ((cr+wb+0*t)/1000000000) 1):=
      HI.out.step Za HP.out HBS.out ht rfl (.inl (by rw[Hp.out,Hy.out];exact⟨hlt3,rfl,rfl⟩)) |> fun h=>by rw[Hy.out] at h;exact h
     clear hlt3
     go_wp2
     go_roundw
     case rel=>exact⟨k+1,_,_,1,Za,by go_num,by rw[E2.out],rfl,HS,ZeQ HR1.out HIX.out (n:=p+1000000000) Za E1.out,ZbE (ZbE HG.out _ _) _ _⟩
     case measure=>exact Zj
    ·have hlt3':¬ (p:Int)<((cr:Int)+wb) % 1000000000:=by have e:((cr+wb+0*t:Nat):Int)=(cr:Int)+wb:=Zc;omega
     have E1:Hid ((p:Int)-((cr:Int)+wb) % 1000000000=(p-(cr+wb+0*t) % 1000000000:Nat)):=by show _=_;have e:((cr+wb+0*t:Nat):Int)=(cr:Int)+wb:=Zc;omega
     have E2:Hid (((cr:Int)+wb)/1000000000=((cr+wb+0*t)/1000000000:Nat)):=by show _=_;have e:((cr+wb+0*t:Nat):Int)=(cr:Int)+wb:=Zc;omega
     have HS:Hid (TakeInv 1000000000 ps bs t (k+1) (os++[p-(cr+wb+0*t) % 1000000000]) ((cr+wb+0*t)/1000000000) 0):=
      HI.out.step Za HP.out HBS.out ht rfl (.inr (by rw[Hp.out,Hy.out];exact⟨Za,rfl,rfl⟩)) |> fun h=>by rw[Hy.out] at h;exact h
     clear hlt3
     go_wp2
     go_roundw
     case rel=>exact⟨k+1,_,_,0,Za,by go_num,by rw[E2.out],rfl,HS,Zb1 HR1.out HIX.out E1.out,ZbE HG.out _ _⟩
     case measure=>exact Zj
  ·obtain rfl:k=ps.length:=Za
   have HR2:Hid (Row .u64 E wr 0 g cap0 (lo++os++hi)):=by have:=HR.out;show Row _ _ _ _ _ _ _;simpa using this
   clear HR
   by_cases hb0:wb=0
   ·have hb1:((wb:Int)==0)=true:=by simpa using hb0
    by_cases hc0:cr=0
    ·have hc1:((cr:Int)==0)=true:=by simpa using hc0
     have hfin:Hid (decide (cr+wb=0)=true):=by show _=_;simp[hb0,hc0]
     clear hb0 hc0
     go_wp2
     go_ret
     exact⟨os,cr,wb,by rw[hfin.out];rfl,HI.out,HR2.out,HG.out⟩
    ·have hc1:((cr:Int)==0)=false:=by simpa using hc0
     have hfin:Hid (decide (cr+wb=0)=false):=by show _=_;simp[hb0,hc0]
     clear hb0 hc0
     go_wp2
     go_ret
     exact⟨os,cr,wb,by rw[hfin.out];rfl,HI.out,HR2.out,HG.out⟩
   ·have hb1:((wb:Int)==0)=false:=by simpa using hb0
    have hfin:Hid (decide (cr+wb=0)=false):=by show _=_;simp[hb0]
    clear hb0
    go_wp2
    go_ret
    exact⟨os,cr,wb,by rw[hfin.out];rfl,HI.out,HR2.out,HG.out⟩
theorem Zf6 (E:TypeId) (g cap0 cap i:Nat) (lo ps hi:List Nat) (q:Option Addr) (c2:Nat) (bs:List Nat) (w:World)
  (hr:Row .u64 E w 0 g cap0 (lo++ps++hi)) (hi0:i=lo.length) (hps:∀ x ∈ ps,x<1000000000) (hbs:∀ x ∈ bs,x<1000000000) (hl:(lo++ps++hi).length<=1000000)
  (hq:bs≠[]->∃ b off,q=some ⟨b,off,none⟩/\b≠g/\b<w.heap.size/\At .u64 w b off bs) (hbl:bs.length<=1000000) (hcap:ps.length<=cap/\cap<=maxLen) :
  Calls Tryz.prog 196 #[.slice (some ⟨g,i,none⟩) ps.length cap,.slice q bs.length c2] w fun e w'=>
   e=.returned (.tuple #[])/\∃ os c,GiveInv 1000000000 ps bs ps.length os c/\Row .u64 E w' 0 g cap0 (lo++os++hi)/\w.grownBy w' (some g):=by
 subst hi0
 have HP:=Zpz hps
 have HBS:=Zpz hbs
 have HQ:=Zpz hq
 have hcap1:=hcap.1
 have hcap2:=hcap.2
 unfold maxLen at hcap2
 have hll:lo.length+(ps.length+hi.length)<=1000000:=by simpa using hl
 have HR0:=Zpz hr
 clear hps hbs hq hcap hr hl
 go_enter Tryz.func196,Tryz.ntmps196
 go_wp2
 go_loopw [4,8] (fun c i wr=>∃ (k:Nat) (os:List Nat) (cr:Nat),k<=ps.length/\i=.int .i64 k/\c=.int .u64 cr/\
   Hid (GiveInv 1000000000 ps bs k os cr)/\Hid (Row .u64 E wr 0 g cap0 (lo++(os++ps.drop k)++hi))/\Hid (w.grownBy wr (some g))) (fun _ i _=>ps.length-(intOf i).toNat)
 case atStart=>exact⟨0,[],0,ZoY _,rfl,rfl,GiveInv.start _ _ _,HR0,World.grownBy.refl _ _⟩
 case round=>
  obtain⟨k,os,cr,hk,rfl,rfl,HI,HR,HG⟩:=hrel
  have hcr:=HI.out.carry
  by_cases hlt:k<ps.length
  ·obtain⟨p,hp⟩:=ZpB (ps.getD k 0)
   have hpl:p<1000000000:=by rw[<- hp];exact ZM Za HP.out k
   have hd:ps.drop k=p::ps.drop (k+1):=by rw[List.drop_eq_getElem_cons hlt];subst hp;simp[List.getD,hlt]
   have HR1:Hid (Row .u64 E wr 0 g cap0 (lo++(os++p::ps.drop (k+1))++hi)):=by have:=HR.out;rw[hd] at this;exact this
   have hidx:lo.length+k=lo.length+os.length:=by rw[HI.out.len]
   have cp:wr.cell? ⟨g,lo.length+k,none⟩=some (.int .u64 (p:Nat)):=HR1.out.cell (by rw[hidx];exact Zg8 _ _ _ _ _) (Zgj _ _ _ _ _ _ hidx)
   have fp:wr.frozen? ⟨g,lo.length+k,none⟩=false:=HR1.out.frozen _
   have HIX:=Zpz hidx
   have Hp:=Zpz hp
   clear hp hd hidx HR
   by_cases hlt2:k<bs.length
   ·obtain⟨b2,off2,rfl,hne,hb2,ha2⟩:=HQ.out (ZoT Za)
    obtain⟨y,hy⟩:=ZpB (bs.getD k 0)
    have hyl:y<1000000000:=by rw[<- hy];exact ZM Za HBS.out k
    have cy:wr.cell? ⟨b2,off2+k,none⟩=some (.int .u64 (y:Nat)):=(Zo3 (w:=w) (a:=⟨b2,off2+k,none⟩) (HG.out.block b2 hb2 (by simpa using hne))).trans (ha2.getD hlt2 hy)
    have Hy:=Zpz hy
    clear hy ha2
    have E1:Hid (((cr:Int)+p+y) % 1000000000=((cr+p+y) % 1000000000:Nat)):=by show _=_;omega
    have E2:Hid (((cr:Int)+p+y)/1000000000=((cr+p+y)/1000000000:Nat)):=by show _=_;omega
    have HS:Hid (GiveInv 1000000000 ps bs (k+1) (os++[(cr+p+y) % 1000000000]) ((cr+p+y)/1000000000)):=HI.out.step Za HP.out HBS.out (by rw[Hp.out,Hy.out])
    go_wp2
    go_roundw
    case rel=>exact⟨k+1,_,_,Za,by go_num,by rw[E2.out],HS,Zb1 HR1.out HIX.out E1.out,ZbE HG.out _ _⟩
    case measure=>exact Zj
   ·have Hy:Hid (bs.getD k 0=0):=by show _=_;simp[List.getD,hlt2]
    have E1:Hid (((cr:Int)+p) % 1000000000=((cr+p+0) % 1000000000:Nat)):=by show _=_;omega
    have E2:Hid (((cr:Int)+p)/1000000000=((cr+p+0)/1000000000:Nat)):=by show _=_;omega
    have HS:Hid (GiveInv 1000000000 ps bs (k+1) (os++[(cr+p+0) % 1000000000]) ((cr+p+0)/1000000000)):=HI.out.step Za HP.out HBS.out (by rw[Hp.out,Hy.out])
    go_wp2
    go_roundw
    case rel=>exact⟨k+1,_,_,Za,by go_num,by rw[E2.out],HS,Zb1 HR1.out HIX.out E1.out,ZbE HG.out _ _⟩
    case measure=>exact Zj
  ·obtain rfl:k=ps.length:=Za
   have HR2:Hid (Row .u64 E wr 0 g cap0 (lo++os++hi)):=by have:=HR.out;show Row _ _ _ _ _ _ _;simpa using this
   clear HR
   go_wp2
   go_end0
   exact⟨rfl,os,cr,HI.out,HR2.out,HG.out⟩
theorem ZnP {B:Nat} {l:List Nat} {k:Nat} (hl:∀ x ∈ l,x<B) (hk:l.length=k+2):∃ low,low<B ^ k/\val B l=(l.getD (k+1) 0*B+l.getD k 0)*B ^ k+low:=by
 refine⟨val B (l.take k),?_,?_⟩
 ·have:=Z8 (B:=B) (l:=l.take k) fun x hx=>hl x (List.mem_of_mem_take hx)
  rwa [Zpr,Nat.min_eq_left Za] at this
 ·have h1:=ZS B l (k+1)
  rw[ZoV Za] at h1
  rw[h1,ZS,Zpi]
  grind
theorem ZlW {B:Nat} {l:List Nat} {k:Nat} (hl:∀ x ∈ l,x<B) (hk:l.length=k+3) :
  ∃ low,low<B ^ k/\val B l=((l.getD (k+2) 0*B+l.getD (k+1) 0)*B+l.getD k 0)*B ^ k+low:=by
 refine⟨val B (l.take k),?_,?_⟩
 ·have:=Z8 (B:=B) (l:=l.take k) fun x hx=>hl x (List.mem_of_mem_take hx)
  rwa [Zpr,Nat.min_eq_left Za] at this
 ·have h1:=ZS B l (k+2)
  rw[ZoV Za] at h1
  rw[h1,ZS,ZS,Zpi,Zpi]
  grind
structure Digit (B u v q head top second next:Nat):Prop where
 parts:∃ M ulow vlow,0<M/\ulow<M/\vlow<M/\u=(head*B+next)*M+ulow/\v=(top*B+second)*M+vlow
 le:q*v<=u
 lt:u<(q+1)*v
 qB:q<B
 topB:top<B
 top2:B<=2*top
 head_lt:head<(top+1)*B
 second_lt:second<B
 next_lt:next<B
structure Close (B u v q g:Nat):Prop where
 gB:g<B
 ge:q<=g
 le:(g-1)*v<=u
 qle:q*v<=u
 lt:u<(q+1)*v
theorem Digit.of {B:Nat} (hB:1<B) {b p:List Nat} {k:Nat} (hb:∀ x ∈ b,x<B) (hp:∀ x ∈ p,x<B) (hbl:b.length=k+2) (hpl:p.length=k+3)
  (htop:B<=2*b.getD (k+1) 0) (hlt:val B p<B*val B b) :
  Digit B (val B p) (val B b) (val B p/val B b) (p.getD (k+2) 0*B+p.getD (k+1) 0) (b.getD (k+1) 0) (b.getD k 0) (p.getD k 0):=by
 obtain⟨ulow,hul,hu⟩:=ZlW hp hpl
 obtain⟨vlow,hvl,hv⟩:=ZnP hb hbl
 have hM:0<B ^ k:=Nat.pow_pos Za
 have hv0:0<val B b:=by
  rcases Zo0 (val B b) with h | h
  ·rw[h] at hlt;omega
  ·exact h
 have h1:=Nat.div_add_mod (val B p) (val B b)
 have h2:=Nat.mod_lt (val B p) hv0
 refine⟨⟨B ^ k,ulow,vlow,hM,hul,hvl,hu,hv⟩,Nat.div_mul_le_self _ _,?_,?_,ZM Za hb _,htop,?_,ZM Za hb _,ZM Za hp _⟩
 ·have:(val B p/val B b+1)*val B b=val B b*(val B p/val B b)+val B b:=Zk
  omega
 ·exact Nat.div_lt_of_lt_mul (by rw[Zo7];exact hlt)
 ·have h3:=ZM Za hb k
  have h4:(p.getD (k+2) 0*B+p.getD (k+1) 0)*(B*B ^ k)<=val B p:=by rw[hu];grind
  have h5:(b.getD k 0+1)*B ^ k<=B*B ^ k:=Zpd _ h3
  have h6:val B b<(b.getD (k+1) 0+1)*(B*B ^ k):=by
   rw[hv]
   have:(b.getD (k+1) 0*B+b.getD k 0)*B ^ k+B ^ k=b.getD (k+1) 0*(B*B ^ k)+(b.getD k 0+1)*B ^ k:=Zk
   have:(b.getD (k+1) 0+1)*(B*B ^ k)=b.getD (k+1) 0*(B*B ^ k)+B*B ^ k:=Zk
   omega
  have h7:B*val B b<B*((b.getD (k+1) 0+1)*(B*B ^ k)):=Nat.mul_lt_mul_of_pos_left h6 Za
  have h8:B*((b.getD (k+1) 0+1)*(B*B ^ k))=(b.getD (k+1) 0+1)*B*(B*B ^ k):=Zk
  refine Nat.lt_of_mul_lt_mul_right (a:=B*B ^ k) ?_
  omega
section
variable {B u v q head top second next g left:Nat}
theorem Digit.start (h:Digit B u v q head top second next):GuessInv B top head q (head/top) (head % top):=by
 obtain⟨M,ulow,vlow,hM,hul,hvl,hu,hv⟩:=h.parts
 have h1:=h.topB
 have h2:=h.top2
 have h3:=h.second_lt
 have h4:=h.next_lt
 have h5:0<top:=Za
 refine⟨by rw[Zo7];exact Nat.div_add_mod _ _,?_,ZhY h2 h1 h.head_lt,Nat.lt_trans (Nat.mod_lt _ h5) h1⟩
 refine Zj1 (B:=B) (M:=M) (ulow:=next*M+ulow) (second:=second) (vlow:=vlow) hM ?_ ?_ ?_ h.le Za h5
 ·have:(next+1)*M<=B*M:=Zpd _ h4
  have:(next+1)*M=next*M+M:=Zk
  omega
 ·rw[hu];grind
 ·rw[hv];grind
theorem Digit.high (h:Digit B u v q head top second next) (hg:B<=g):q<g:=ZoS h.qB hg
theorem Digit.test (h:Digit B u v q head top second next) (hg:GuessInv B top head q g left) (ht:left*B+next<g*second):q<g:=by
 obtain⟨M,ulow,vlow,hM,hul,hvl,hu,hv⟩:=h.parts
 have h1:=Zle hul hu hv h.le
 have h2:=(Zi1 hg.eq).1 ht
 rcases ZoR q g with h3 | h3
 ·exact h3
 ·have:g*(top*B+second)<=q*(top*B+second):=Zpd _ h3
  omega
theorem Digit.done (h:Digit B u v q head top second next) (hg:GuessInv B top head q g left) (hB:g<B) (ht:¬ left*B+next<g*second):Close B u v q g:=by
 obtain⟨M,ulow,vlow,hM,hul,hvl,hu,hv⟩:=h.parts
 have h1:=h.top2
 have h2:¬ g*(top*B+second) > head*B+next:=fun hc=>ht ((Zi1 hg.eq).2 hc)
 exact⟨hB,hg.ge,ZfX Za hu hv hvl Za Za,h.le,h.lt⟩
theorem Digit.stop (h:Digit B u v q head top second next) (hg:GuessInv B top head q g left) (hq:q<g) (hl:B<=left+top):Close B u v q (g-1):=by
 obtain⟨M,ulow,vlow,hM,hul,hvl,hu,hv⟩:=h.parts
 have h1:=h.top2
 have h3:=Zh5 hg hq
 have h4:=h.head_lt
 have hB:g-1<B:=by
  rcases ZoR (g-1) B with h5 | h5
  ·exact h5
  ·have h6:B*top<=(g-1)*top:=Zpd _ h5
   have h7:(top+1)*B=B*top+B:=Zk
   omega
 have h5:=ZjS h3 hl Za (next:=next) h.second_lt
 exact⟨hB,Za,ZfX Za hu hv hvl Za h5,h.le,h.lt⟩
theorem Close.fits (h:Close B u v q g) (hf:g*v<=u):u-v*g<v:=by
 have h1:=h.lt
 have h2:=h.ge
 have h3:(q+1)*v<=(g+1)*v:=Zpd _ Za
 have h4:(g+1)*v=g*v+v:=Zk
 have h5:v*g=g*v:=Zo7 _ _
 rw[h5]
 omega
theorem Close.over (h:Close B u v q g) (hf:u<g*v):1<=g/\u-v*(g-1)<v:=by
 have h0:1<=g:=by
  rcases Zo0 g with h0 | h0
  ·subst h0;omega
  ·exact h0
 obtain⟨d,rfl⟩:∃ d,g=d+1:=⟨g-1,Za⟩
 refine⟨h0,?_⟩
 simp only[Zpe]
 have h5:(d+1)*v=d*v+v:=Zk
 have h6:v*d=d*v:=Zo7 _ _
 rw[h6]
 have h7:q<d+1:=by
  rcases ZoR q (d+1) with h7 | h7
  ·exact h7
  ·exact Zpp (ZoU (Zpd v h7) h.qle) Za
 have h8:=h.lt
 have h9:=h.qle
 have h10:(q+1)*v=q*v+v:=Zk
 omega
end
structure DivInv (B:Nat) (b:List Nat) (N lq j:Nat) (A Q:List Nat):Prop where
 alen:A.length=lq+b.length
 alt:∀ x ∈ A,x<B
 qlen:Q.length=lq
 qlt:∀ x ∈ Q,x<B
 zero:∀ i,i<j->Q.getD i 0=0
 eq:val B A+val B Q*val B b=N
 top:val B (A.drop j)<val B b
theorem DivInv.split {B:Nat} {b:List Nat} {N lq i:Nat} {A Q:List Nat} (h:DivInv B b N lq (i+1) A Q) (hi:i<lq) :
  ∃ lo p hi',A=lo++p++hi'/\lo.length=i/\p.length=b.length+1/\(∀ x ∈ p,x<B):=by
 refine⟨A.take i,(A.drop i).take (b.length+1),(A.drop i).drop (b.length+1),?_,?_,?_,?_⟩
 ·rw[List.append_assoc,List.take_append_drop,List.take_append_drop]
 ·rw[Zpr,h.alen];omega
 ·rw[Zpr,List.length_drop,h.alen];omega
 ·intro x hx
  exact h.alt x (List.mem_of_mem_drop (List.mem_of_mem_take hx))
theorem DivInv.part {B:Nat} {b:List Nat} {N lq i:Nat} {lo p hi Q:List Nat} (hB:1<B) (hb:∀ x ∈ b,x<B) (h:DivInv B b N lq (i+1) (lo++p++hi) Q) (hlo:lo.length=i) (hp:p.length=b.length+1) :
  val B hi=0/\val B p<B*val B b:=by
 subst hlo
 have h1:=h.top
 rw[List.append_assoc,List.drop_append,List.drop_of_length_le Za,Zps,show lo.length+1-lo.length=1 by omega] at h1
 rcases p with _ | ⟨x,p⟩
 ·simp at hp
 rw[List.cons_append,List.drop_succ_cons,List.drop_zero,ZbO] at h1
 have h2:=Z8 hb
 have h3:p.length=b.length:=by simpa using hp
 have hx:x<B:=h.alt x Zc
 rw[h3] at h1
 have h4:val B hi=0:=by
  rcases Zo0 (val B hi) with h0 | h0
  ·exact h0
  ·have:B ^ b.length*1<=B ^ b.length*val B hi:=Nat.mul_le_mul_left _ h0
   omega
 refine⟨h4,?_⟩
 rw[h4] at h1
 rw[Zev]
 have:B*(val B p+1)<=B*val B b:=Nat.mul_le_mul_left _ Za
 have:B*(val B p+1)=B*val B p+B:=Zk
 omega
theorem ZiE (l:List Nat) {i j:Nat} (v:Nat) (h:i≠j):(l.set i v).getD j 0=l.getD j 0:=by
 simp only[List.getD,List.getElem?_set,if_neg h]
theorem DivInv.step {B:Nat} {b:List Nat} {N lq i:Nat} {lo p hi Q:List Nat} (hB:1<B) (hb:∀ x ∈ b,x<B) (h:DivInv B b N lq (i+1) (lo++p++hi) Q) (hi0:i<lq) (hlo:lo.length=i)
  (hp:p.length=b.length+1) {p':List Nat} (hp'l:p'.length=p.length) (hp':∀ x ∈ p',x<B) {g:Nat} (hg:g<B) (hle:val B b*g<=val B p) (hval:val B p'=val B p-val B b*g)
  (hlt:val B p-val B b*g<val B b):DivInv B b N lq i (lo++p'++hi) (Q.set i g):=by
 have ⟨h1,h2⟩:=h.part hB hb hlo hp
 subst hlo
 have hQ:Q.getD lo.length 0=0:=h.zero _ Za
 have hql:=h.qlen
 refine⟨?_,?_,by simp[hql],?_,?_,?_,?_⟩
 ·have:=h.alen
  simp only[Zo2] at this ⊢
  omega
 ·intro x hx
  rcases List.mem_append.1 hx with hx | hx
  ·rcases List.mem_append.1 hx with hx | hx
   ·exact h.alt x (by simp[hx])
   ·exact hp' x hx
  ·exact h.alt x (by simp[hx])
 ·exact Zdt h.qlt hg
 ·intro j hj
  rw[ZiE _ _ Za]
  exact h.zero j Za
 ·have h3:=Zhj B Q lo.length g Za
  have h4:Q[lo.length]'Za=0:=by
   rw[<- hQ];simp[List.getD,show lo.length<Q.length by omega]
  rw[h4] at h3
  have h5:=h.eq
  rw[ZbO,ZbO,h1] at h5 ⊢
  have h6:val B p=val B p'+val B b*g:=Za
  rw[h6] at h5
  have h7:val B (Q.set lo.length g)=val B Q+B ^ lo.length*g:=Za
  rw[h7]
  grind
 ·rw[List.append_assoc,List.drop_append,List.drop_of_length_le Za,Zps,Nat.sub_self,List.drop_zero,ZbO,h1]
  omega
theorem DivInv.start {B:Nat} (hB:1<B) {b A:List Nat} {N lq:Nat} (hA:∀ x ∈ A,x<B) (hl:A.length+1=lq+b.length) (hbl:0<b.length) (hv:val B A=N) (hbt:B ^ (b.length-1)<=val B b) :
  DivInv B b N lq lq (A++[0]) (List.replicate lq 0):=by
 refine⟨by simp;omega,ZbV hA Za,Zc,?_,?_,?_,?_⟩
 ·intro x hx
  have:=(List.mem_replicate.1 hx).2
  omega
 ·intro i _
  simp only[List.getD,List.getElem?_replicate];split<;>rfl
 ·rw[ZbQ,ZeY,hv];simp
 ·rw[List.drop_append,ZbO]
  have h1:val B (A.drop lq)<B ^ (b.length-1):=by
   have:=Z8 (B:=B) (l:=A.drop lq) fun x hx=>hA x (List.mem_of_mem_drop hx)
   rw[List.length_drop] at this
   rwa [show A.length-lq=b.length-1 by omega] at this
  have h2:val B (List.drop (lq-A.length) [0])=0:=by
   refine ZgQ fun x hx=>?_
   have:=List.mem_of_mem_drop hx
   simpa using this
  rw[h2]
  omega
theorem DivInv.done {B:Nat} {b A Q:List Nat} {n m s lq:Nat} (h:DivInv B b (n*s) lq 0 A Q) (hs:0<s) (hb:val B b=m*s):val B Q=n/m/\val B A/s=n % m:=by
 have h1:=h.top
 have h2:=h.eq
 rw[List.drop_zero] at h1
 rw[hb] at h1 h2
 have:=Zk6 hs (by omega:n*s=val B Q*(m*s)+val B A) h1
 exact⟨this.1,this.2.1⟩
theorem Zom {B m k s:Nat} {xs:List Nat} (hB:1<B) (h2:B % 2=0) (hxs:Zp B m=xs) (hk:xs.length=k+1) (hs:s=B/(xs.getD k 0+1)) :
  (Zp B (m*s)).length=k+1/\B<=2*(Zp B (m*s)).getD k 0/\1<=s/\s<B/\B ^ k<=m*s:=by
 have hx:∀ x ∈ xs,x<B:=by rw[<- hxs];exact ZJ hB m
 have hv:0<xs.getD k 0:=by
  rcases Zo0 (xs.getD k 0) with h0 | h0
  ·exfalso
   have hl:=ZgR hB m
   rw[hxs,List.getLast?_eq_getElem?,hk,Zpe,Zo6 Za] at hl
   simp only[List.getD,Zo6 (show k<xs.length by omega),Option.getD_some] at h0
   exact hl (by rw[h0])
  ·exact h0
 have hvB:=ZM Za hx k
 obtain⟨v,hve⟩:=ZpB (xs.getD k 0)
 rw[hve] at hv hvB hs
 have ⟨s1,s2,s3⟩:=Zmc hv hvB
 rw[<- hs] at s1 s2 s3
 have hm:m=val B (xs.take k)+B ^ k*v:=by
  have h1:=ZS B xs k
  rw[ZoV Za,hve,<- hxs,ZA hB] at h1
  rw[<- hxs];exact h1
 have hlow:val B (xs.take k)<B ^ k:=by
  have:=Z8 (B:=B) (l:=xs.take k) fun x hx'=>hx x (List.mem_of_mem_take hx')
  rwa [Zpr,Nat.min_eq_left Za] at this
 have hsB:s*(v+1)<=B:=by rw[hs];exact Nat.div_mul_le_self _ _
 have hP:0<B ^ k:=Nat.pow_pos Za
 have hup:m*s<B ^ (k+1):=by
  have h1:m<B ^ k*(v+1):=by rw[hm,Nat.mul_add,Zpn];omega
  have h2:m*s<B ^ k*(v+1)*s:=Nat.mul_lt_mul_of_pos_right h1 Za
  have h3:B ^ k*(s*(v+1))<=B ^ k*B:=Nat.mul_le_mul_left _ hsB
  have h4:B ^ k*(v+1)*s=B ^ k*(s*(v+1)):=Zk
  rw[Zpi]
  omega
 have hdown:B ^ k*(s*v)<=m*s:=by
  rw[hm]
  have:(val B (xs.take k)+B ^ k*v)*s=val B (xs.take k)*s+B ^ k*(s*v):=Zk
  omega
 have hsv:1<=s*v:=Nat.mul_pos Za hv
 have hone:B ^ k<=m*s:=by
  have:B ^ k*1<=B ^ k*(s*v):=Nat.mul_le_mul_left _ hsv
  omega
 have hlen:(Zp B (m*s)).length=k+1:=by
  have h1:=Zac hB hup
  have h2:=Zd9 hB hone
  omega
 have hsB2:s<B:=by
  have:s*2<=s*(v+1):=Nat.mul_le_mul_left _ Za
  omega
 refine⟨hlen,?_,s3,hsB2,hone⟩
 obtain⟨ys,hys⟩:=ZpB (Zp B (m*s))
 have hy:∀ x ∈ ys,x<B:=by rw[<- hys];exact ZJ hB _
 rw[hys] at hlen ⊢
 have hval:val B ys=m*s:=by rw[<- hys];exact ZA hB _
 have h5:=ZS B ys k
 rw[ZoV Za,hval] at h5
 have h6:val B (ys.take k)<B ^ k:=by
  have:=Z8 (B:=B) (l:=ys.take k) fun x hx'=>hy x (List.mem_of_mem_take hx')
  rwa [Zpr,Nat.min_eq_left Za] at this
 have h7:s*v<=ys.getD k 0:=by
  have:B ^ k*(s*v)<B ^ k*(ys.getD k 0+1):=by rw[Nat.mul_add,Zpn];omega
  have:=Nat.lt_of_mul_lt_mul_left this
  omega
 omega
theorem Zgn {B n s:Nat} (hB:1<B) (hs:1<=s):(Zp B n).length<=(Zp B (n*s)).length:=
 ZN hB (Nat.le_mul_of_pos_right _ hs)
theorem Zd2 {B x:Nat} (h:0<x) (hx:x<B):Zp B x=[x]:=by
 rw[Za2 Za h,Nat.mod_eq_of_lt hx,Nat.div_eq_of_lt hx,ZO]
theorem Zf4 {B n s k:Nat} (hB:1<B) (hs:s<B) (hk:(Zp B n).length<=k):(Zp B (n*s)).length<=k+1:=by
 have h1:=Z8 (ZJ hB n)
 rw[ZA hB] at h1
 have h2:B ^ (Zp B n).length<=B ^ k:=ZoW Za hk
 refine Zac hB ?_
 rw[Zpi]
 exact Nat.mul_lt_mul_of_lt_of_le (ZoS h1 h2) (Zph hs) Za
theorem Num.below {B:Nat} {w w':World} {v:Value} {n:Nat} (h:Num w v n) (hb:Below B w w') (hB:w.heap.size<=B):Num w' v n:=Nums.below h hb hB
theorem Znk {w:World} {b off cap:Nat} {xs:List Nat} (hb:b<w.heap.size) (ha:At .u64 w b off xs) (hx:∀ x ∈ xs,x<1000000000) (hl:xs.length<=cap) (hc:cap<=maxLen) (n:Nat) (hn:val 1000000000 xs=n) :
  Num w (.slice (some ⟨b,off,none⟩) (Zp 1000000000 n).length cap) n:=by
 subst hn
 have h1:=ZcR (B:=1000000000) Za hx
 refine⟨_,cap,rfl,Za,hc,fun _=>⟨b,off,rfl,hb,?_⟩⟩
 have h2:=Zba (B:=1000000000) Za hx
 intro j hj
 have h3:=ha j Za
 rw[h3]
 have:(Zp 1000000000 (val 1000000000 xs))[j]?=(xs.take (Zp 1000000000 (val 1000000000 xs)).length)[j]?:=by rw[<- h2]
 rw[Zo6 hj,List.getElem?_take_of_lt hj,Zo6 Za] at this
 rw[ZoP this]
theorem ZiV (w:World) (p:Option Addr) (cap:Nat) (hc:cap<=maxLen):Num w (.slice p 0 cap) 0:=by
 refine⟨p,cap,?_,?_,hc,fun h=>Zpp (ZO _) h⟩
 ·rw[ZO];rfl
 ·rw[ZO];exact ZoY _
def ZeU (w:World) (n m:Nat) (e:Ending) (w':World):Prop:=∃ q r,e=.returned (.tuple #[q,r])/\Num w' q (n/m)/\Num w' r (n % m)/\Below w.heap.size w w'
theorem ZkU {v1 v2:Value} {n m:Nat} {w:World} (h1:Num w v1 n) (h2:Num w v2 m) (hl1:(Zp 1000000000 n).length<=1000000) (hl2:(Zp 1000000000 m).length<=1000000) (hlt:n<m) :
  Calls Tryz.prog 151 #[v1,v2] w (ZeU w n m):=by
 have H1:=Zpz h1
 have H2:=Zpz h2
 clear h1 h2
 go_enter Tryz.func151,Tryz.ntmps151
 go_wp2_with fail
 refine(ZbU H1.out H2.out hl1 hl2).mono ?_
 rintro e w1 ⟨r,rfl,hS,hB⟩
 have hr:r<0:=hS.1.2 hlt
 have HB:=Zpz hB
 clear hS hB
 go_wp2
 go_ret2
 refine⟨_,_,rfl,?_,?_,HB.out⟩
 ·rw[Nat.div_eq_of_lt hlt];exact ZiV _ _ _ (ZoY _)
 ·rw[Nat.mod_eq_of_lt hlt];exact H1.out.below HB.out ZpA
theorem ZkK (p1 p2:Option Addr) (c1 c2:Nat) (xs:List Nat) (d n:Nat) (w:World) (hxs:Zp 1000000000 n=xs) (hd0:0<d) (hd1:d<1000000000) (h1:Num w (.slice p1 xs.length c1) n)
  (h2:Num w (.slice p2 1 c2) d) (hl1:xs.length<=1000000) (hle:d<=n) :
  Calls Tryz.prog 151 #[.slice p1 xs.length c1,.slice p2 1 c2] w (ZeU w n d):=by
 have e1:=Zd2 hd0 hd1
 have H1:=Zpz h1
 have H2:=Zpz h2
 have HXS:=Zpz hxs
 obtain⟨_,_,hv,_,_,h2'⟩:=h2
 rw[e1] at h2' hv
 injection hv with hv1 hv2 hv3
 subst hv1
 obtain⟨b,off,rfl,hb,ha⟩:=h2' Zc
 have hcd:w.cell? ⟨b,off,none⟩=some (.int .u64 (d:Nat)):=ha.getD (j:=0) Zc rfl
 clear h2' hxs h1 ha hv2 hv3
 go_enter Tryz.func151,Tryz.ntmps151
 go_wp2_with fail
 refine(ZbU H1.out H2.out (by rw[HXS.out];exact hl1) (by rw[e1];simp)).mono ?_
 rintro e w1 ⟨r,rfl,hS,hB⟩
 have hr:¬ r<0:=fun h=>by have:=hS.1.1 h;omega
 have hcd1:w1.cell? ⟨b,off,none⟩=some (.int .u64 (d:Nat)):=(hB.cell (p:=⟨b,off,none⟩) hb).trans hcd
 have HB:=Zpz hB
 clear hS hB hcd
 obtain⟨_,_,hv1,hc1,hc2,hp1⟩:=H1.out
 injection hv1 with hv1 hv2 hv3
 subst hv1
 rw[HXS.out] at hp1
 have HX:Hid (∀ x ∈ xs,x<1000000000):=by rw[<- HXS.out];exact ZJ Za n
 have HV:Hid (val 1000000000 xs=n):=by rw[<- HXS.out];exact ZA Za n
 have HP:Hid (xs≠[]->∃ b off,p1=some ⟨b,off,none⟩/\b<w1.heap.size/\At .u64 w1 b off xs):=fun h=>by
  obtain⟨b,off,h1,h2,h3⟩:=hp1 h
  exact⟨b,off,h1,ZoS h2 HB.out.size,h3.below HB.out h2⟩
 clear hp1 hv2 hv3 hc1 hc2
 go_wp2_with fail
 refine(ZfU p1 c1 xs hl1 d Za Za w1 HP.out HX.out).mono ?_
 rintro e w2 ⟨q,rfl,hq,hB2⟩
 rw[HV.out] at hq ⊢
 have HQ:=Zpz hq.num
 have HB2:=Zpz hB2
 clear hq hB2
 obtain⟨r',hr'⟩:=ZpB (n % d)
 have hrl:r'<1000000000:=by rw[<- hr'];exact Nat.lt_trans (Nat.mod_lt _ hd0) hd1
 rw[hr']
 have HR':=Zpz hr'
 clear hr'
 go_wp2_with fail
 have ha3:At .u64 (w2.alloc (.cells #[.int .u64 (r':Nat)] 158)) w2.heap.size 0 [r']:=by
  intro j hj
  obtain rfl:j=0:=by simp at hj;omega
  exact ZK _ _ _ _ rfl
 have hx3:∀ x ∈ [r'],x<1000000000:=by simp;omega
 have HN:=Zpz (Znk (w:=w2.alloc (.cells #[.int .u64 (r':Nat)] 158)) (cap:=1) Zc ha3 hx3 Zc (by unfold maxLen;omega) r' (by simp[val]))
 refine(Zdv (some ⟨w2.heap.size,0,none⟩) 1 [r'] _ Zc (by unfold maxLen;omega) hx3 (fun _=>⟨w2.heap.size,0,rfl,ha3⟩)).mono ?_
 rintro e w' ⟨rfl,rfl⟩
 have e2:val 1000000000 [r']=r':=by simp[val]
 rw[e2]
 clear ha3 hx3
 go_wp2
 go_ret2
 refine⟨_,_,rfl,HQ.out.below ((ZoL _ _).alloc ZpA _) ZpA,by rw[HR'.out];exact HN.out,?_⟩
 exact(HB.out.trans ((Below.mono HB2.out HB.out.size))).alloc (ZoU HB.out.size HB2.out.size) _
theorem Row.weaken {k:IntKind} {E:TypeId} {w:World} {B B' g cap:Nat} {xs:List Nat} (h:Row k E w B g cap xs) (hB:B'<=B):Row k E w B' g cap xs:=by
 obtain⟨h1,h2⟩:=h
 refine⟨h1,?_⟩
 rcases h2 with h2 | ⟨g',cap',cur,h',h3,h4⟩
 ·exact .inl h2
 ·exact .inr ⟨g',cap',cur,h',ZoU hB h3,h4⟩
theorem Ze4 (lo p hi:List Nat) (i j:Nat) (hi0:lo.length+j=i) (hj:j<p.length):(lo++p++hi).getD i 0=p.getD j 0:=by
 subst hi0
 simp only[List.getD,List.append_assoc]
 rw[List.getElem?_append_right Za,Nat.add_sub_cancel_left,List.getElem?_append_left hj]
theorem Zkm {w:World} {b x:Nat} (hc:w.cell? ⟨b,0,none⟩=some (.int .u64 (x:Nat))) (hb:b<w.heap.size) (h0:0<x) (hx:x<1000000000):Num w (.slice (some ⟨b,0,none⟩) 1 1) x:=by
 have e:=Zd2 h0 hx
 refine⟨some ⟨b,0,none⟩,1,?_,?_,by unfold maxLen;omega,fun _=>⟨b,0,rfl,hb,?_⟩⟩
 ·rw[e];rfl
 ·rw[e];simp
 ·rw[e]
  intro j hj
  obtain rfl:j=0:=by simp at hj;omega
  exact hc
theorem Zmz (p1 p2:Option Addr) (c1 c2:Nat) (xs ys:List Nat) (n m k:Nat) (w:World) (hxs:Zp 1000000000 n=xs) (hys:Zp 1000000000 m=ys) (hk:ys.length=k+2)
  (h1:Num w (.slice p1 xs.length c1) n) (h2:Num w (.slice p2 ys.length c2) m) (hl1:xs.length<=100000) (hl2:ys.length<=100000) (hle:m<=n) :
  Calls Tryz.prog 151 #[.slice p1 xs.length c1,.slice p2 ys.length c2] w (ZeU w n m):=by
 obtain⟨i0,hi,hz0,hz1,hz2⟩:=info_parts Zcx
 have H1:=Zpz h1
 have H2:=Zpz h2
 have HXS:=Zpz hxs
 have HYS:=Zpz hys
 have hlen:ys.length<=xs.length:=by rw[<- hxs,<- hys];exact ZN Za hle
 obtain⟨_,_,hv,_,_,h2'⟩:=h2
 rw[hys] at h2' hv
 injection hv with hv1 hv2 hv3
 subst hv1
 obtain⟨b,off,rfl,hb,ha⟩:=h2' (ZoT Za)
 obtain⟨t,ht⟩:=ZpB (ys.getD (k+1) 0)
 have htl:t<1000000000:=by rw[<- ht,<- hys];exact ZM Za (ZJ Za m) _
 have hct:w.cell? ⟨b,off+(k+1),none⟩=some (.int .u64 (t:Nat)):=ha.getD Za ht
 obtain⟨s,hs⟩:=ZpB (1000000000/(t+1))
 have HSC:=Zpz (Zom (B:=1000000000) Za Za hys hk (by rw[ht,hs]))
 have hs1:1<=s:=HSC.out.2.2.1
 have hs2:s<1000000000:=HSC.out.2.2.2.1
 have hct':(1000000000:Int).tdiv ((t:Int)+1)=(s:Int):=by rw[<- hs];rfl
 clear h2' hxs hys h1 ha hv2 hv3 ht hs
 rw[hk] at hl2 hlen H2 ⊢
 go_enter Tryz.func151,Tryz.ntmps151
 go_wp2_with fail
 refine(ZbU H1.out H2.out (by rw[HXS.out];omega) (by rw[HYS.out];omega)).mono ?_
 rintro e w1 ⟨r,rfl,hS,hB⟩
 have hr:¬ r<0:=fun h=>by have:=hS.1.1 h;omega
 have hct1:w1.cell? ⟨b,off+(k+1),none⟩=some (.int .u64 (t:Nat)):=(hB.cell (p:=⟨b,off+(k+1),none⟩) hb).trans hct
 have HB:=Zpz hB
 clear hS hB hct
 go_wp2_with fail
 have HN2:Hid (Num (w1.alloc (.cells #[.int .u64 (s:Nat)] 158)) (.slice (some ⟨w1.heap.size,0,none⟩) 1 1) s):=Zkm (ZK _ _ _ _ rfl) Zc Za hs2
 have HB2:=Zpz (HB.out.alloc HB.out.size (.cells #[.int .u64 (s:Nat)] 158))
 refine(Zfa (n:=n) (m:=s) (H1.out.below HB2.out ZpA) HN2.out (by rw[HXS.out];omega) (by rw[Zd2 Za hs2];simp)).mono ?_
 rintro e w3 ⟨va,rfl,⟨ga,ca,rfl,hra⟩,hB3⟩
 have hal0:(w1.alloc (.cells #[.int .u64 (s:Nat)] 158)).heap.size=w1.heap.size+1:=Zc
 have hsz3:w1.heap.size+1<=w3.heap.size:=by have:=hB3.size;omega
 have HB3:=Zpz (HB2.out.trans (hB3.mono HB2.out.size))
 obtain⟨zs,hzs⟩:=ZpB (Zp 1000000000 (n*s))
 have hal:Hid (xs.length<=zs.length/\zs.length<=xs.length+1/\(∀ x ∈ zs,x<1000000000)/\val 1000000000 zs=n*s):=by
  rw[<- hzs,<- HXS.out]
  exact⟨Zgn Za Za,Zf4 Za hs2 ZpA,ZJ Za _,ZA Za _⟩
 rw[hzs] at hra ⊢
 have hszw1:=HB.out.size
 have hga:w.heap.size<ga:=by have:=hra.lt.1;have:=HB.out.size;omega
 have HRA:=Zpz hra
 have hown:=hra.own (n:=zs.length) rfl
 have hal1:=hal.out.1
 have hal2:=hal.out.2.1
 have hal3:zs.length+1<=maxLen:=by unfold maxLen;omega
 have hal4:(zs.length+1)*8<=140737488355328:=Za
 have hal5:(w1.alloc (.cells #[.int .u64 (s:Nat)] 158)).heap.size<=(w3.alloc (.cells #[.int .u64 0] 158)).heap.size:=by rw[hal0];simp;omega
 clear hra hB3 HN2 HB2 hzs
 go_wp2_with (at_builtin;go_loud (refine wpList_append_lies _ rfl (.tmp 49) (.tmp 50) 110 rfl _ 158 i0 (.int .u64 0) 1 8 Tryz.underlying110 hi hz0 hz1 hz2 rfl Zd _ zs.length _ rfl (hown.alloc _) ⟨w3.heap.size,0,none⟩ 1 1 [.int .u64 0] rfl rfl (cell_one_new _ _ _) (by simp[Value.oneCell']) Zd hal3 hal4 hal5 _ rfl ?_);intro g0 cap0 w4 hown4 hgrow4 hg4 hgl4)
 have HR4:Hid (Row .u64 158 w4 0 g0 cap0 (zs++[0])):=(Row.snoc rfl rfl hown4).weaken (ZoY _)
 have hg0:w.heap.size<=g0:=by
  rcases hg4 with h | h
  ·have h':ga=g0:=ZoP h
   omega
  ·rw[h];simp;omega
 have HB4:Zpt w w4:=(HB3.out.alloc HB3.out.size _).grown hgrow4 (by simp;omega) (fun k h=>by have h':ga=k:=ZoP h;omega)
 have hsz4:=HB4.out.size
 clear hown4 hgrow4 hg4 hown hal3 hal4 hal5 HRA HB3
 have HN5:Hid (Num (w4.alloc (.cells #[.int .u64 (s:Nat)] 158)) (.slice (some ⟨w4.heap.size,0,none⟩) 1 1) s):=Zkm (ZK _ _ _ _ rfl) Zc Za hs2
 have HB5:=Zpz (HB4.out.alloc HB4.out.size (.cells #[.int .u64 (s:Nat)] 158))
 refine(Zfa (n:=m) (m:=s) (H2.out.below HB5.out ZpA) HN5.out (by rw[HYS.out];omega) (by rw[Zd2 Za hs2];simp)).mono ?_
 rintro e w6 ⟨vb,rfl,⟨gb,cb,rfl,hrb⟩,hB6⟩
 have hal6:(w4.alloc (.cells #[.int .u64 (s:Nat)] 158)).heap.size=w4.heap.size+1:=Zc
 have hsz6:w4.heap.size+1<=w6.heap.size:=by have:=hB6.size;omega
 have hgb:w4.heap.size<gb:=by have:=hrb.lt.1;omega
 have hgbl:=hrb.lt.2
 have HRA:Hid (Row .u64 158 w6 0 g0 cap0 (zs++[0])):=(HR4.out.alloc _).below hB6 Za
 have HB6:=Zpz (HB5.out.trans (hB6.mono HB5.out.size))
 obtain⟨bs,hbs⟩:=ZpB (Zp 1000000000 (m*s))
 have HBS:Hid ((∀ x ∈ bs,x<1000000000)/\val 1000000000 bs=m*s/\bs.length=k+2/\1000000000 ^ (k+1)<=m*s):=by
  rw[<- hbs];exact⟨ZJ Za _,ZA Za _,HSC.out.1,HSC.out.2.2.2.2⟩
 have htop:1000000000<=2*bs.getD (k+1) 0:=by rw[<- hbs];exact HSC.out.2.1
 rw[hbs] at hrb ⊢
 have hbl:bs.length=k+2:=HBS.out.2.2.1
 have HRB:Hid (Row .u64 158 w6 0 gb cb bs):=hrb.weaken (ZoY _)
 clear HN5 HB5 HB4 hB6 hrb hbs HR4
 obtain⟨top,htp⟩:=ZpB (bs.getD (k+1) 0)
 obtain⟨sec,hsec⟩:=ZpB (bs.getD k 0)
 have htl':top<1000000000:=by rw[<- htp];exact ZM Za HBS.out.1 _
 have hsl:sec<1000000000:=by rw[<- hsec];exact ZM Za HBS.out.1 _
 have ct:w6.cell? ⟨gb,k+1,none⟩=some (.int .u64 (top:Nat)):=HRB.out.cell Za htp
 have cs:w6.cell? ⟨gb,k,none⟩=some (.int .u64 (sec:Nat)):=HRB.out.cell Za hsec
 rw[htp] at htop
 have HTP:=Zpz htp
 have HSEC:=Zpz hsec
 rw[hbl]
 obtain⟨lz,hlz⟩:=ZpB zs.length
 rw[hlz] at hal1 hal2 ⊢
 obtain⟨lq,hlq⟩:∃ lq,lz+1=lq+(k+2):=⟨lz-(k+1),Za⟩
 have hne:((lz:Int)+1==xs.length)=false:=by rw[beq_eq_false_iff_ne];omega
 have HLZ:=Zpz hlz
 clear htp hsec hbl hlz
 go_wp2_with fail
 go_region
 go_wp2_with (at_make;go_loud (refine wpList_make_full _ rfl _ _ 110 rfl w6.heap.size 158 i0 (.int .u64 0) 1 Tryz.underlying110 hi hz0 hz1 _ _ _ _ lq rfl rfl Za Za ?b2 ?b3 ZpA ?_))
 case b2=>rw[hz2];omega
 case b3=>unfold maxLen;omega
 intro w7 hown7 hgrow7
 have HRQ7:Hid (Row .u64 158 w7 0 w6.heap.size lq (List.replicate lq 0)):=(Row.full (k:=.u64) hown7).weaken (ZoY _)
 have HRA7:Hid (Row .u64 158 w7 0 g0 cap0 (zs++[0])):=(HRA.out.drew).grown hgrow7 Zc
 have HRB7:Hid (Row .u64 158 w7 0 gb cb bs):=(HRB.out.drew).grown hgrow7 Zc
 have HB7:Zpt w w7:=(HB6.out.drew).grown hgrow7 (by have:=HB6.out.size;simpa using this) (fun k h=>by cases h)
 clear hown7 hgrow7
 have HD7:Hid (DivInv 1000000000 bs (n*s) lq lq (zs++[0]) (List.replicate lq 0)):=
  DivInv.start Za hal.out.2.2.1 (by rw[HLZ.out,HBS.out.2.2.1];omega) (by rw[HBS.out.2.2.1];omega) hal.out.2.2.2 (by rw[HBS.out.2.2.1,HBS.out.2.1];exact HBS.out.2.2.2)
 obtain⟨gq,hgq⟩:=ZpB w6.heap.size
 have hg1:g0<gq:=Za
 have hg2:gb<gq:=Za
 have hg3:g0<gb:=Za
 rw[hgq] at HRQ7 ⊢
 have hszq:w.heap.size<=gq:=Za
 clear ct cs HRA HRB HB6 hgq hsz6 hgbl hgl4 hgb hal6 hal0 hsz3 hszw1 hga hsz4 hct1
 go_wp2
 go_loopw [13] (fun i wr=>∃ (j:Nat) (A Q:List Nat),j<=lq/\i=.int .i64 ((j:Int)-1)/\Hid (Row .u64 158 wr 0 g0 cap0 A)/\Hid (Row .u64 158 wr 0 gq lq Q)/\Hid (Row .u64 158 wr 0 gb cb bs)/\
   Hid (DivInv 1000000000 bs (n*s) lq j A Q)/\Zpt w wr) (fun i _=>(intOf i+1).toNat)
 case atStart=>exact⟨lq,_,_,Nat.le_refl _,congrArg (Value.int .i64) Za,HRA7,HRQ7,HRB7,HD7,HB7⟩
 case round=>
  clear HRA7 HRB7 HRQ7 HD7 HB7
  obtain⟨j,A,Q,hj,rfl,HRA,HRQ,HRB,HD,HB⟩:=hrel
  rcases j with _ | i
  ·have HDN:=Zpz (HD.out.done Za HBS.out.2.1)
   have HAlt:Hid (∀ x ∈ A,x<1000000000):=HD.out.alt
   have HQlt:Hid (∀ x ∈ Q,x<1000000000):=HD.out.qlt
   have HAL:Hid (A.length=lq+(k+2)):=by show _=_;rw[HD.out.alen,HBS.out.2.2.1]
   have HQL:Hid (Q.length=lq):=HD.out.qlen
   have e0:(((0:Nat):Int)-1) = -1:=Za
   rw[e0]
   clear HD e0
   go_wp2_with fail
   refine(Zcz HRA.out HAlt.out (lq+(k+2)) HAL.out.symm _ rfl).mono ?_
   rintro e w' ⟨rfl,rfl,hra⟩
   clear hra
   obtain⟨va,hva⟩:=ZpB (val 1000000000 A)
   have hlim:=ZcR (B:=1000000000) Za HAlt.out
   have hpre:=Zba (B:=1000000000) Za HAlt.out
   rw[hva] at hlim hpre ⊢
   obtain⟨rs,hrs⟩:=ZpB (Zp 1000000000 va)
   rw[hrs] at hlim hpre ⊢
   have hrow:Row .u64 158 wr 0 g0 cap0 rs:=by rw[hpre];exact HRA.out.take _
   have HVR:Hid (val 1000000000 rs=va):=by rw[<- hrs];exact ZA Za _
   have hshort:=ZfU (some ⟨g0,0,none⟩) cap0 rs (by rw[HAL.out] at hlim;omega) s Za Za wr (fun _=>⟨g0,0,rfl,hrow.lt.2,hrow.at⟩) (by rw[<- hrs];exact ZJ Za _)
   have HVA:=Zpz hva
   clear hlim hpre hrs hva hrow
   go_wp2_with fail
   refine hshort.mono ?_
   rintro e w9 ⟨q,rfl,hq,hB9⟩
   clear hshort
   have HQ9:Hid (Num w9 q (n % m)):=by
    have h:=hq.num
    rw[HVR.out,<- HVA.out,HDN.out.2] at h
    exact h
   have HRQ9:=Zpz (HRQ.out.below hB9 HRQ.out.lt.2)
   have HB9:=Zpz (HB.out.trans (hB9.mono HB.out.size))
   clear hq hB9
   go_wp2_with fail
   refine(Zcz HRQ9.out HQlt.out lq HQL.out.symm _ HDN.out.1).mono ?_
   rintro e w' ⟨rfl,rfl,hrq⟩
   have HN:=Zpz (show Zdh 0 w9 _ _ from ⟨_,_,rfl,hrq⟩).num
   clear hrq
   go_wp2
   go_ret2
   exact⟨_,_,rfl,HN.out,HQ9.out,HB9.out⟩
  ·have e0:(((i+1:Nat):Int)-1)=(i:Nat):=Za
   rw[e0]
   obtain⟨lo,P,hi',rfl,hlo,hP,hPl⟩:=HD.out.split Za
   have hbl:bs.length=k+2:=HBS.out.2.2.1
   have hal:=HD.out.alen
   have hcap:lq+(k+2)<=cap0:=by rw[<- hbl,<- hal];exact HRA.out.cap_le.1
   obtain⟨p0,hp0⟩:=ZpB (P.getD (k+2) 0)
   obtain⟨p1',hp1⟩:=ZpB (P.getD (k+1) 0)
   obtain⟨p2',hp2⟩:=ZpB (P.getD k 0)
   have hpl0:p0<1000000000:=by rw[<- hp0];exact ZM Za hPl _
   have hpl1:p1'<1000000000:=by rw[<- hp1];exact ZM Za hPl _
   have hpl2:p2'<1000000000:=by rw[<- hp2];exact ZM Za hPl _
   rw[hbl] at hP hal
   have cp0:wr.cell? ⟨g0,i+(k+2),none⟩=some (.int .u64 (p0:Nat)):=HRA.out.cell Za ((Ze4 lo P hi' _ _ Za Za).trans hp0)
   have cp1:wr.cell? ⟨g0,i+(k+1),none⟩=some (.int .u64 (p1':Nat)):=HRA.out.cell Za ((Ze4 lo P hi' _ _ Za Za).trans hp1)
   have cp2:wr.cell? ⟨g0,i+k,none⟩=some (.int .u64 (p2':Nat)):=HRA.out.cell Za ((Ze4 lo P hi' _ _ Za Za).trans hp2)
   have HPV:=Zpz (HD.out.part Za HBS.out.1 hlo Za)
   have HDG:=Zpz (Digit.of (B:=1000000000) Za HBS.out.1 hPl hbl hP (by rw[HTP.out];exact htop) HPV.out.2)
   obtain⟨q,hq⟩:=ZpB (val 1000000000 P/val 1000000000 bs)
   have HDG2:Hid (Digit 1000000000 (val 1000000000 P) (val 1000000000 bs) q (p0*1000000000+p1') top sec p2'):=by
    have h:=HDG.out
    rw[hq,hp0,hp1,hp2,HTP.out,HSEC.out] at h
    exact h
   obtain⟨hd,hhd⟩:=ZpB (p0*1000000000+p1')
   rw[hhd] at HDG2
   have hhd1:(p0:Int)*1000000000+p1'=(hd:Nat):=Za
   have hhdl:hd<1000000000000000000:=Za
   have HPL:=Zpz hPl
   have HPN:=Zpz hP
   have HLO:=Zpz hlo
   have HAL:=Zpz hal
   have HG:=Zpz HDG2.out.start
   clear hp0 hp1 hp2 hbl hal HPV HDG hq hPl hP hlo
   go_wp2_with fail
   go_region
   have hl3:i+(k+2)+1-i=k+3:=Za
   rw[hl3]
   obtain⟨g1,hg1'⟩:=ZpB (hd/top)
   obtain⟨f1,hf1'⟩:=ZpB (hd % top)
   have e1:(hd:Int).tdiv top=(g1:Nat):=by rw[<- hg1'];rfl
   have e2:(hd:Int).tmod top=(f1:Nat):=by rw[<- hf1'];rfl
   rw[hg1',hf1'] at HG
   have hgl:g1<=1000000001:=HG.out.le
   have hfl:f1<1000000000:=HG.out.left_lt
   have ht0:¬ top=0:=Za
   clear hg1' hf1' hl3
   go_wp2_with fail
   go_region
   obtain⟨w8,hw8⟩:=ZpB wr.drew.drew
   have HRA8:Hid (Row .u64 158 w8 0 g0 cap0 (lo++P++hi')):=by rw[<- hw8];exact HRA
   have HRB8:Hid (Row .u64 158 w8 0 gb cb bs):=by rw[<- hw8];exact HRB
   have HRQ8:Hid (Row .u64 158 w8 0 gq lq Q):=by rw[<- hw8];exact HRQ
   have HB8:Zpt w w8:=by rw[<- hw8];exact HB.out.drew.drew
   have cp28:w8.cell? ⟨g0,i+k,none⟩=some (.int .u64 (p2':Nat)):=by rw[<- hw8];exact cp2
   have hdec:=HDG2
   rw[hw8]
   clear cp0 cp1 cp2 HRA HRB HRQ HB hw8 e1 e2 hhd1 hhd
   go_wp2_with fail
   go_loop [16,17] (fun g l=>∃ (g' f':Nat),g=.int .u64 g'/\l=.int .u64 f'/\Hid (GuessInv 1000000000 top hd q g' f')) (fun g _=>(intOf g).toNat)
   case atStart=>exact⟨g1,f1,rfl,rfl,HG⟩
   case round=>
    clear HG hgl hfl
    obtain⟨g',f,rfl,rfl,HGI⟩:=hrel
    have hgl:g'<=1000000001:=HGI.out.le
    have hfl:f<1000000000:=HGI.out.left_lt
    by_cases hgB:1000000000<=g'
    ·have hqg:=HDG2.out.high hgB
     obtain⟨g,hg5⟩:∃ g,g'=g+1:=⟨g'-1,Za⟩
     have e5:(g':Int)-1=(g:Nat):=Za
     have e6:(1000000000:Int)<=(g':Int):=Za
     have e7:g<=1000000000:=Za
     have HG5:=Zpz hg5
     clear hg5 hgB
     obtain⟨ft,hft⟩:=ZpB (f+top)
     have e8:(f:Int)+top=(ft:Nat):=Za
     have hftl:ft<2000000000:=Za
     by_cases hbr:1000000000<=ft
     ·have HCL:Hid (Close 1000000000 (val 1000000000 P) (val 1000000000 bs) q g):=by have h:=HDG2.out.stop HGI.out hqg (by rw[hft];exact hbr);rw[HG5.out,Zpe] at h;exact h
      have hbr':(1000000000:Int)<=(ft:Int):=Za
      clear hqg hbr hft
      have hgB':g<1000000000:=HCL.out.gB
      have hT:=Zgg 158 g0 cap0 (cap0-i) i lo P hi' (some ⟨gb,0,none⟩) cb bs g w8 HRA8.out HLO.out.symm HPL.out HBS.out.1 hgB' (by rw[HAL.out];omega)
       (fun _=>⟨gb,0,rfl,Za,HRB8.out.lt.2,HRB8.out.at⟩) (by rw[HBS.out.2.2.1];omega) ⟨by rw[HPN.out];omega,by have:=HRA8.out.cap_le.2;omega⟩
      rw[HPN.out,HBS.out.2.2.1] at hT
      go_wp2_with fail
      refine hT.mono ?_
      rintro e w9 ⟨os,c,wb,rfl,hti,hra9,hgr9⟩
      clear hT
      have HTI:Hid (TakeInv 1000000000 P bs g P.length os c wb):=by rw[HPN.out];exact hti
      have HRA9:=Zpz hra9
      have HRB9:Hid (Row .u64 158 w9 0 gb cb bs):=HRB8.out.grown hgr9 (by simp;omega)
      have HRQ9:Hid (Row .u64 158 w9 0 gq lq Q):=HRQ8.out.grown hgr9 (by simp;omega)
      have HB9:Zpt w w9:=HB8.out.grown hgr9 HB8.out.size (fun k h=>by have h':g0=k:=ZoP h;omega)
      clear hti hra9 hgr9
      by_cases hf:g*val 1000000000 bs<=val 1000000000 P
      ·have hfit:=Zfe HTI.out (by rw[HPN.out,HBS.out.2.2.1];omega) (by rw[Zo7];exact hf)
       have hcw:c+wb=0:=Za
       have HS:Hid (DivInv 1000000000 bs (n*s) lq i (lo++os++hi') (Q.set i g)):=
        HD.out.step Za HBS.out.1 Za HLO.out (by rw[HPN.out,HBS.out.2.2.1]) HTI.out.len HTI.out.lt hgB' (by rw[Zo7];exact hf) hfit.2.2 (HCL.out.fits hf)
       rw[hcw]
       clear hfit hcw hf
       have HQ0:(Q.getD i 0)=0:=HD.out.zero i Za
       have cQ:w9.cell? ⟨gq,i,none⟩=some (.int .u64 (0:Nat)):=HRQ9.out.cell (by rw[HD.out.qlen];omega) HQ0
       have fQ:w9.frozen? ⟨gq,i,none⟩=false:=HRQ9.out.frozen _
       clear HQ0
       go_wp2
       go_roundw
       case rel=>exact⟨i,_,_,Za,rfl,HRA9.out.setOther (by simp;omega) _,HRQ9.out.set i g,HRB9.out.setOther (by simp;omega) _,HS,HB9.out.setCell (by simp;omega) _⟩
       case measure=>simp[intOf]<;>omega
      ·obtain⟨h1,hov⟩:=HCL.out.over Za
       obtain⟨g9,hg9⟩:∃ g9,g=g9+1:=⟨g-1,Za⟩
       have hmuch:=Zdn HTI.out (by rw[HPN.out,HBS.out.2.2.1];omega) (by rw[Zo7];omega) (by rw[Zo7];exact HCL.out.le)
        (ZoS (Z8 HBS.out.1) (ZoW Za (by rw[HPN.out,HBS.out.2.2.1];omega)))
       have hcw:c+wb=1:=hmuch.1
       have hlen:=HTI.out.len
       have HG9:Hid (g=g9+1):=hg9
       have hG:=Zf6 158 g0 cap0 (cap0-i) i lo os hi' (some ⟨gb,0,none⟩) cb bs w9 HRA9.out HLO.out.symm HTI.out.lt HBS.out.1
        (by have:=HAL.out;simp only[Zo2] at this ⊢;rw[hlen];omega)
        (fun _=>⟨gb,0,rfl,Za,HRB9.out.lt.2,HRB9.out.at⟩) (by rw[HBS.out.2.2.1];omega) ⟨by rw[hlen,HPN.out];omega,by have:=HRA8.out.cap_le.2;omega⟩
       rw[hlen,HPN.out,HBS.out.2.2.1] at hG
       rw[hcw,hg9]
       have HHF:=Zpz hf
       have HOV:=Zpz hov
       have HMU:=Zpz hmuch.2
       have HLE:=Zpz hlen
       have h91:g9<1000000000:=Za
       clear hmuch hcw hlen hf hov hg9 h1
       go_wp2_with fail
       refine hG.mono ?_
       rintro e w10 ⟨rfl,os',c',hgi,hra,hgr⟩
       have HGI:Hid (GiveInv 1000000000 os bs os.length os' c'):=by rw[HLE.out,HPN.out];exact hgi
       have hback:=Zfv (p0:=P) (t:=g) HGI.out (by rw[HLE.out,HPN.out,HBS.out.2.2.1];omega) (by rw[HMU.out,HLE.out]) (by have:=HG9.out;omega) (by rw[Zo7];exact HCL.out.le)
        (Nat.lt_trans HOV.out (ZoS (Z8 HBS.out.1) (ZoW Za (by rw[HLE.out,HPN.out,HBS.out.2.2.1];omega))))
       have HS:Hid (DivInv 1000000000 bs (n*s) lq i (lo++os'++hi') (Q.set i g9)):=by
        have e9:g-1=g9:=by have:=HG9.out;omega
        have hov:=HOV.out
        have hle:=HCL.out.le
        rw[e9] at hback hov hle
        exact HD.out.step Za HBS.out.1 Za HLO.out (by rw[HPN.out,HBS.out.2.2.1]) (by rw[HGI.out.len,HLE.out]) HGI.out.lt h91 (by rw[Zo7];exact hle) hback hov
       have HRA9':=Zpz hra
       have HRB9':Hid (Row .u64 158 w10 0 gb cb bs):=HRB9.out.grown hgr (by simp;omega)
       have HRQ9':Hid (Row .u64 158 w10 0 gq lq Q):=HRQ9.out.grown hgr (by simp;omega)
       have HB9':Zpt w w10:=HB9.out.grown hgr HB9.out.size (fun k h=>by have h':g0=k:=ZoP h;omega)
       clear HRA9 HRB9 HRQ9 HB9 hgi hra hgr hback hG
       have HRA9:=HRA9'
       have HRB9:=HRB9'
       have HRQ9:=HRQ9'
       have HB9:=HB9'
       clear HRA9' HRB9' HRQ9' HB9'
       have HQ0:(Q.getD i 0)=0:=HD.out.zero i Za
       have cQ:w10.cell? ⟨gq,i,none⟩=some (.int .u64 (0:Nat)):=HRQ9.out.cell (by rw[HD.out.qlen];omega) HQ0
       have fQ:w10.frozen? ⟨gq,i,none⟩=false:=HRQ9.out.frozen _
       clear HQ0
       go_wp2
       go_roundw
       case rel=>exact⟨i,_,_,Za,rfl,HRA9.out.setOther (by simp;omega) _,HRQ9.out.set i g9,HRB9.out.setOther (by simp;omega) _,HS,HB9.out.setCell (by simp;omega) _⟩
       case measure=>simp[intOf]<;>omega
     ·have HS:Hid (GuessInv 1000000000 top hd q g ft):=by have h:=HGI.out.less hqg Za;rw[HG5.out,Zpe,hft] at h;exact h
      have hbr':¬ (1000000000:Int)<=(ft:Int):=Za
      have hbr2:ft<1000000000:=Za
      have hbr3:decide ((1000000000:Int)<=(ft:Int))=false:=by simp;omega
      clear hqg hbr hft
      go_wp2
      go_round
      case rel=>first | exact⟨g,ft,by go_num,by go_num,HS⟩ | exact⟨trivial,_,_,_,_,_,_,_,_,_,_,_,_,_,_,_,_,_,_,_,_,_,_,_,⟨g,ft,by go_num,by go_num,HS⟩,rfl⟩
      case measure=>exact Zj
    ·by_cases htest:f*1000000000+p2'<g'*sec
     ·have hqg:=HDG2.out.test HGI.out htest
      obtain⟨g,hg5⟩:∃ g,g'=g+1:=⟨g'-1,Za⟩
      have e5:(g':Int)-1=(g:Nat):=Za
      have e6:¬ (1000000000:Int)<=(g':Int):=Za
      have e7:g<=1000000000:=Za
      have HG5:=Zpz hg5
      have hdc:decide (f*1000000000+p2'<g'*sec)=true:=by simpa using htest
      have hgr:=ZfP g' sec f p2' Za hsl hfl hpl2 w8
      rw[hdc] at hgr
      clear hg5 hgB htest hdc
      go_wp2_with fail
      refine hgr.mono ?_
      rintro e w8' ⟨rfl,rfl⟩
      clear hgr
      obtain⟨ft,hft⟩:=ZpB (f+top)
      have e8:(f:Int)+top=(ft:Nat):=Za
      have hftl:ft<2000000000:=Za
      by_cases hbr:1000000000<=ft
      ·have HCL:Hid (Close 1000000000 (val 1000000000 P) (val 1000000000 bs) q g):=by have h:=HDG2.out.stop HGI.out hqg (by rw[hft];exact hbr);rw[HG5.out,Zpe] at h;exact h
       have hbr':(1000000000:Int)<=(ft:Int):=Za
       clear hqg hbr hft
       have hgB':g<1000000000:=HCL.out.gB
       have hT:=Zgg 158 g0 cap0 (cap0-i) i lo P hi' (some ⟨gb,0,none⟩) cb bs g w8 HRA8.out HLO.out.symm HPL.out HBS.out.1 hgB' (by rw[HAL.out];omega)
        (fun _=>⟨gb,0,rfl,Za,HRB8.out.lt.2,HRB8.out.at⟩) (by rw[HBS.out.2.2.1];omega) ⟨by rw[HPN.out];omega,by have:=HRA8.out.cap_le.2;omega⟩
       rw[HPN.out,HBS.out.2.2.1] at hT
       go_wp2_with fail
       refine hT.mono ?_
       rintro e w9 ⟨os,c,wb,rfl,hti,hra9,hgr9⟩
       clear hT
       have HTI:Hid (TakeInv 1000000000 P bs g P.length os c wb):=by rw[HPN.out];exact hti
       have HRA9:=Zpz hra9
       have HRB9:Hid (Row .u64 158 w9 0 gb cb bs):=HRB8.out.grown hgr9 (by simp;omega)
       have HRQ9:Hid (Row .u64 158 w9 0 gq lq Q):=HRQ8.out.grown hgr9 (by simp;omega)
       have HB9:Zpt w w9:=HB8.out.grown hgr9 HB8.out.size (fun k h=>by have h':g0=k:=ZoP h;omega)
       clear hti hra9 hgr9
       by_cases hf:g*val 1000000000 bs<=val 1000000000 P
       ·have hfit:=Zfe HTI.out (by rw[HPN.out,HBS.out.2.2.1];omega) (by rw[Zo7];exact hf)
        have hcw:c+wb=0:=Za
        have HS:Hid (DivInv 1000000000 bs (n*s) lq i (lo++os++hi') (Q.set i g)):=
         HD.out.step Za HBS.out.1 Za HLO.out (by rw[HPN.out,HBS.out.2.2.1]) HTI.out.len HTI.out.lt hgB' (by rw[Zo7];exact hf) hfit.2.2 (HCL.out.fits hf)
        rw[hcw]
        clear hfit hcw hf
        have HQ0:(Q.getD i 0)=0:=HD.out.zero i Za
        have cQ:w9.cell? ⟨gq,i,none⟩=some (.int .u64 (0:Nat)):=HRQ9.out.cell (by rw[HD.out.qlen];omega) HQ0
        have fQ:w9.frozen? ⟨gq,i,none⟩=false:=HRQ9.out.frozen _
        clear HQ0
        go_wp2
        go_roundw
        case rel=>exact⟨i,_,_,Za,rfl,HRA9.out.setOther (by simp;omega) _,HRQ9.out.set i g,HRB9.out.setOther (by simp;omega) _,HS,HB9.out.setCell (by simp;omega) _⟩
        case measure=>simp[intOf]<;>omega
       ·obtain⟨h1,hov⟩:=HCL.out.over Za
        obtain⟨g9,hg9⟩:∃ g9,g=g9+1:=⟨g-1,Za⟩
        have hmuch:=Zdn HTI.out (by rw[HPN.out,HBS.out.2.2.1];omega) (by rw[Zo7];omega) (by rw[Zo7];exact HCL.out.le)
         (ZoS (Z8 HBS.out.1) (ZoW Za (by rw[HPN.out,HBS.out.2.2.1];omega)))
        have hcw:c+wb=1:=hmuch.1
        have hlen:=HTI.out.len
        have HG9:Hid (g=g9+1):=hg9
        have hG:=Zf6 158 g0 cap0 (cap0-i) i lo os hi' (some ⟨gb,0,none⟩) cb bs w9 HRA9.out HLO.out.symm HTI.out.lt HBS.out.1
         (by have:=HAL.out;simp only[Zo2] at this ⊢;rw[hlen];omega)
         (fun _=>⟨gb,0,rfl,Za,HRB9.out.lt.2,HRB9.out.at⟩) (by rw[HBS.out.2.2.1];omega) ⟨by rw[hlen,HPN.out];omega,by have:=HRA8.out.cap_le.2;omega⟩
        rw[hlen,HPN.out,HBS.out.2.2.1] at hG
        rw[hcw,hg9]
        have HHF:=Zpz hf
        have HOV:=Zpz hov
        have HMU:=Zpz hmuch.2
        have HLE:=Zpz hlen
        have h91:g9<1000000000:=Za
        clear hmuch hcw hlen hf hov hg9 h1
        go_wp2_with fail
        refine hG.mono ?_
        rintro e w10 ⟨rfl,os',c',hgi,hra,hgr⟩
        have HGI:Hid (GiveInv 1000000000 os bs os.length os' c'):=by rw[HLE.out,HPN.out];exact hgi
        have hback:=Zfv (p0:=P) (t:=g) HGI.out (by rw[HLE.out,HPN.out,HBS.out.2.2.1];omega) (by rw[HMU.out,HLE.out]) (by have:=HG9.out;omega) (by rw[Zo7];exact HCL.out.le)
         (Nat.lt_trans HOV.out (ZoS (Z8 HBS.out.1) (ZoW Za (by rw[HLE.out,HPN.out,HBS.out.2.2.1];omega))))
        have HS:Hid (DivInv 1000000000 bs (n*s) lq i (lo++os'++hi') (Q.set i g9)):=by
         have e9:g-1=g9:=by have:=HG9.out;omega
         have hov:=HOV.out
         have hle:=HCL.out.le
         rw[e9] at hback hov hle
         exact HD.out.step Za HBS.out.1 Za HLO.out (by rw[HPN.out,HBS.out.2.2.1]) (by rw[HGI.out.len,HLE.out]) HGI.out.lt h91 (by rw[Zo7];exact hle) hback hov
        have HRA9':=Zpz hra
        have HRB9':Hid (Row .u64 158 w10 0 gb cb bs):=HRB9.out.grown hgr (by simp;omega)
        have HRQ9':Hid (Row .u64 158 w10 0 gq lq Q):=HRQ9.out.grown hgr (by simp;omega)
        have HB9':Zpt w w10:=HB9.out.grown hgr HB9.out.size (fun k h=>by have h':g0=k:=ZoP h;omega)
        clear HRA9 HRB9 HRQ9 HB9 hgi hra hgr hback hG
        have HRA9:=HRA9'
        have HRB9:=HRB9'
        have HRQ9:=HRQ9'
        have HB9:=HB9'
        clear HRA9' HRB9' HRQ9' HB9'
        have HQ0:(Q.getD i 0)=0:=HD.out.zero i Za
        have cQ:w10.cell? ⟨gq,i,none⟩=some (.int .u64 (0:Nat)):=HRQ9.out.cell (by rw[HD.out.qlen];omega) HQ0
        have fQ:w10.frozen? ⟨gq,i,none⟩=false:=HRQ9.out.frozen _
        clear HQ0
        go_wp2
        go_roundw
        case rel=>exact⟨i,_,_,Za,rfl,HRA9.out.setOther (by simp;omega) _,HRQ9.out.set i g9,HRB9.out.setOther (by simp;omega) _,HS,HB9.out.setCell (by simp;omega) _⟩
        case measure=>simp[intOf]<;>omega
      ·have HS:Hid (GuessInv 1000000000 top hd q g ft):=by have h:=HGI.out.less hqg Za;rw[HG5.out,Zpe,hft] at h;exact h
       have hbr':¬ (1000000000:Int)<=(ft:Int):=Za
       have hbr2:ft<1000000000:=Za
       have hbr3:decide ((1000000000:Int)<=(ft:Int))=false:=by simp;omega
       clear hqg hbr hft
       go_wp2
       go_round
       case rel=>first | exact⟨g,ft,by go_num,by go_num,HS⟩ | exact⟨trivial,_,_,_,_,_,_,_,_,_,_,_,_,_,_,_,_,_,_,_,_,_,_,_,⟨g,ft,by go_num,by go_num,HS⟩,rfl⟩
       case measure=>exact Zj
     ·have HCL:=Zpz (HDG2.out.done HGI.out Za htest)
      have e6:¬ (1000000000:Int)<=(g':Int):=Za
      have hdc:decide (f*1000000000+p2'<g'*sec)=false:=by simpa using htest
      have hgr:=ZfP g' sec f p2' Za hsl hfl hpl2 w8
      rw[hdc] at hgr
      clear hgB htest hdc
      go_wp2_with fail
      refine hgr.mono ?_
      rintro e w8' ⟨rfl,rfl⟩
      clear hgr
      have hgB':g'<1000000000:=HCL.out.gB
      have hT:=Zgg 158 g0 cap0 (cap0-i) i lo P hi' (some ⟨gb,0,none⟩) cb bs g' w8 HRA8.out HLO.out.symm HPL.out HBS.out.1 hgB' (by rw[HAL.out];omega)
       (fun _=>⟨gb,0,rfl,Za,HRB8.out.lt.2,HRB8.out.at⟩) (by rw[HBS.out.2.2.1];omega) ⟨by rw[HPN.out];omega,by have:=HRA8.out.cap_le.2;omega⟩
      rw[HPN.out,HBS.out.2.2.1] at hT
      go_wp2_with fail
      refine hT.mono ?_
      rintro e w9 ⟨os,c,wb,rfl,hti,hra9,hgr9⟩
      clear hT
      have HTI:Hid (TakeInv 1000000000 P bs g' P.length os c wb):=by rw[HPN.out];exact hti
      have HRA9:=Zpz hra9
      have HRB9:Hid (Row .u64 158 w9 0 gb cb bs):=HRB8.out.grown hgr9 (by simp;omega)
      have HRQ9:Hid (Row .u64 158 w9 0 gq lq Q):=HRQ8.out.grown hgr9 (by simp;omega)
      have HB9:Zpt w w9:=HB8.out.grown hgr9 HB8.out.size (fun k h=>by have h':g0=k:=ZoP h;omega)
      clear hti hra9 hgr9
      by_cases hf:g'*val 1000000000 bs<=val 1000000000 P
      ·have hfit:=Zfe HTI.out (by rw[HPN.out,HBS.out.2.2.1];omega) (by rw[Zo7];exact hf)
       have hcw:c+wb=0:=Za
       have HS:Hid (DivInv 1000000000 bs (n*s) lq i (lo++os++hi') (Q.set i g')):=
        HD.out.step Za HBS.out.1 Za HLO.out (by rw[HPN.out,HBS.out.2.2.1]) HTI.out.len HTI.out.lt hgB' (by rw[Zo7];exact hf) hfit.2.2 (HCL.out.fits hf)
       rw[hcw]
       clear hfit hcw hf
       have HQ0:(Q.getD i 0)=0:=HD.out.zero i Za
       have cQ:w9.cell? ⟨gq,i,none⟩=some (.int .u64 (0:Nat)):=HRQ9.out.cell (by rw[HD.out.qlen];omega) HQ0
       have fQ:w9.frozen? ⟨gq,i,none⟩=false:=HRQ9.out.frozen _
       clear HQ0
       go_wp2
       go_roundw
       case rel=>exact⟨i,_,_,Za,rfl,HRA9.out.setOther (by simp;omega) _,HRQ9.out.set i g',HRB9.out.setOther (by simp;omega) _,HS,HB9.out.setCell (by simp;omega) _⟩
       case measure=>simp[intOf]<;>omega
      ·obtain⟨h1,hov⟩:=HCL.out.over Za
       obtain⟨g9,hg9⟩:∃ g9,g'=g9+1:=⟨g'-1,Za⟩
       have hmuch:=Zdn HTI.out (by rw[HPN.out,HBS.out.2.2.1];omega) (by rw[Zo7];omega) (by rw[Zo7];exact HCL.out.le)
        (ZoS (Z8 HBS.out.1) (ZoW Za (by rw[HPN.out,HBS.out.2.2.1];omega)))
       have hcw:c+wb=1:=hmuch.1
       have hlen:=HTI.out.len
       have HG9:Hid (g'=g9+1):=hg9
       have hG:=Zf6 158 g0 cap0 (cap0-i) i lo os hi' (some ⟨gb,0,none⟩) cb bs w9 HRA9.out HLO.out.symm HTI.out.lt HBS.out.1
        (by have:=HAL.out;simp only[Zo2] at this ⊢;rw[hlen];omega)
        (fun _=>⟨gb,0,rfl,Za,HRB9.out.lt.2,HRB9.out.at⟩) (by rw[HBS.out.2.2.1];omega) ⟨by rw[hlen,HPN.out];omega,by have:=HRA8.out.cap_le.2;omega⟩
       rw[hlen,HPN.out,HBS.out.2.2.1] at hG
       rw[hcw,hg9]
       have HHF:=Zpz hf
       have HOV:=Zpz hov
       have HMU:=Zpz hmuch.2
       have HLE:=Zpz hlen
       have h91:g9<1000000000:=Za
       clear hmuch hcw hlen hf hov hg9 h1
       go_wp2_with fail
       refine hG.mono ?_
       rintro e w10 ⟨rfl,os',c',hgi,hra,hgr⟩
       have HGI:Hid (GiveInv 1000000000 os bs os.length os' c'):=by rw[HLE.out,HPN.out];exact hgi
       have hback:=Zfv (p0:=P) (t:=g') HGI.out (by rw[HLE.out,HPN.out,HBS.out.2.2.1];omega) (by rw[HMU.out,HLE.out]) (by have:=HG9.out;omega) (by rw[Zo7];exact HCL.out.le)
        (Nat.lt_trans HOV.out (ZoS (Z8 HBS.out.1) (ZoW Za (by rw[HLE.out,HPN.out,HBS.out.2.2.1];omega))))
       have HS:Hid (DivInv 1000000000 bs (n*s) lq i (lo++os'++hi') (Q.set i g9)):=by
        have e9:g'-1=g9:=by have:=HG9.out;omega
        have hov:=HOV.out
        have hle:=HCL.out.le
        rw[e9] at hback hov hle
        exact HD.out.step Za HBS.out.1 Za HLO.out (by rw[HPN.out,HBS.out.2.2.1]) (by rw[HGI.out.len,HLE.out]) HGI.out.lt h91 (by rw[Zo7];exact hle) hback hov
       have HRA9':=Zpz hra
       have HRB9':Hid (Row .u64 158 w10 0 gb cb bs):=HRB9.out.grown hgr (by simp;omega)
       have HRQ9':Hid (Row .u64 158 w10 0 gq lq Q):=HRQ9.out.grown hgr (by simp;omega)
       have HB9':Zpt w w10:=HB9.out.grown hgr HB9.out.size (fun k h=>by have h':g0=k:=ZoP h;omega)
       clear HRA9 HRB9 HRQ9 HB9 hgi hra hgr hback hG
       have HRA9:=HRA9'
       have HRB9:=HRB9'
       have HRQ9:=HRQ9'
       have HB9:=HB9'
       clear HRA9' HRB9' HRQ9' HB9'
       have HQ0:(Q.getD i 0)=0:=HD.out.zero i Za
       have cQ:w10.cell? ⟨gq,i,none⟩=some (.int .u64 (0:Nat)):=HRQ9.out.cell (by rw[HD.out.qlen];omega) HQ0
       have fQ:w10.frozen? ⟨gq,i,none⟩=false:=HRQ9.out.frozen _
       clear HQ0
       go_wp2
       go_roundw
       case rel=>exact⟨i,_,_,Za,rfl,HRA9.out.setOther (by simp;omega) _,HRQ9.out.set i g9,HRB9.out.setOther (by simp;omega) _,HS,HB9.out.setCell (by simp;omega) _⟩
       case measure=>simp[intOf]<;>omega
theorem Zgf {v1 v2:Value} {n m:Nat} {w:World} (h1:Num w v1 n) (h2:Num w v2 m) (hl1:(Zp 1000000000 n).length<=100000) (hl2:(Zp 1000000000 m).length<=100000) (hm:0<m) :
  Calls Tryz.prog 151 #[v1,v2] w (ZeU w n m):=by
 rcases ZoR n m with hlt | hle
 ·exact ZkU h1 h2 Za Za hlt
 ·obtain⟨p1,c1,rfl,a1,a2,hp1⟩:=id h1
  obtain⟨p2,c2,rfl,b1,b2,hp2⟩:=id h2
  have hpos:0<(Zp 1000000000 m).length:=(ZaN Za).2 hm
  rcases ZoR (Zp 1000000000 m).length 2 with hs | hs
  ·have hone:(Zp 1000000000 m).length=1:=Za
   have hmB:m<1000000000:=by
    have h3:=Z8 (ZJ (B:=1000000000) Za m)
    rw[ZA Za,hone] at h3
    omega
   rw[hone] at h2 ⊢
   exact ZkK p1 p2 c1 c2 _ m n w rfl hm hmB h1 h2 Za hle
  ·obtain⟨k,hk⟩:∃ k,(Zp 1000000000 m).length=k+2:=⟨_,(Nat.sub_add_cancel hs).symm⟩
   exact Zmz p1 p2 c1 c2 _ _ n m k w rfl rfl hk h1 h2 hl1 hl2 hle
theorem Zmf {k:IntKind} {w:World} {b off:Nat} {xs ys:List Nat} (h1:At k w b off xs) (h2:At k w b off ys) (hl:xs.length=ys.length):xs=ys:=by
 refine List.ext_getElem hl fun j h3 h4=>?_
 have h5:=(h1 j h3).symm.trans (h2 j h4)
 injection h5 with h5
 injection h5 with _ h5
 omega
theorem Num.unique {w:World} {v:Value} {n m:Nat} (h1:Num w v n) (h2:Num w v m):n=m:=by
 obtain⟨p1,c1,rfl,_,_,h1⟩:=h1
 obtain⟨p2,c2,hv,_,_,h2⟩:=h2
 injection hv with e1 e2 e3
 have:Zp 1000000000 n=Zp 1000000000 m:=by
  by_cases hn:Zp 1000000000 n=[]
  ·rw[hn] at e2 ⊢
   exact(ZoX e2.symm).symm
  ·have hm:Zp 1000000000 m≠[]:=fun h=>by rw[h] at e2;exact hn (ZoX e2)
   obtain⟨b1,o1,rfl,_,a1⟩:=h1 hn
   obtain⟨b2,o2,hb,_,a2⟩:=h2 hm
   rw[<- e1] at hb
   injection hb with hb
   injection hb with hb1 hb2
   subst hb1;subst hb2
   exact Zmf a1 a2 e2
 have h3:=congrArg (val 1000000000) this
 rwa [ZA Za,ZA Za] at h3
open Classical in
noncomputable def numV (w:World) (v:Value):Nat:=if h:∃ n,Num w v n then h.choose else 0
theorem Zkg {w:World} {v:Value} {n:Nat} (h:Num w v n):numV w v=n:=by
 unfold numV
 rw[dif_pos ⟨n,h⟩]
 exact Num.unique (Exists.choose_spec (⟨n,h⟩:∃ n,Num w v n)) h
def Zet (w:World) (n:Nat) (e:Ending) (w':World):Prop:=∃ v,e=.returned v/\Num w' v n/\Below w.heap.size w w'
theorem Zka {v1 v2:Value} {n m:Nat} {w:World} (h1:Num w v1 n) (h2:Num w v2 m) (hl1:(Zp 1000000000 n).length<=100000) (hl2:(Zp 1000000000 m).length<=100000) :
  Calls Tryz.prog 124 #[v1,v2] w (Zet w (Nat.gcd n m)):=by
 have H1:=Zpz h1
 have H2:=Zpz h2
 clear h1 h2
 go_enter Tryz.func124,Tryz.ntmps124
 go_wp2
 go_loopw [0,1] (fun va vb wr=>∃ (a b:Nat),Hid (Num wr va a)/\Hid (Num wr vb b)/\Hid (Nat.gcd a b=Nat.gcd n m)/\Hid ((Zp 1000000000 a).length<=100000/\(Zp 1000000000 b).length<=100000)/\Zpt w wr) (fun _ vb wr=>numV wr vb)
 case atStart=>exact⟨n,m,H1,H2,rfl,⟨hl1,hl2⟩,ZoL _ _⟩
 case round=>
  obtain⟨a,b,HA,HB,HG,HL,HW⟩:=hrel
  rcases Zo0 b with h0 | h0
  ·subst h0
   obtain⟨p,c,rfl,_,_,_⟩:=id HB.out
   have e0:(Zp 1000000000 0).length=0:=by rw[ZO];rfl
   rw[e0]
   have HN:Hid (Num wr u0 (Nat.gcd n m)):=by
    have h:=HG.out
    rw[Nat.gcd_zero_right] at h
    rw[<- h];exact HA
   clear HB HA HG HL e0
   go_wp2
   go_ret
   exact⟨_,rfl,HN.out,HW.out⟩
  ·obtain⟨p,c,rfl,_,_,_⟩:=id HB.out
   have hp:0<(Zp 1000000000 b).length:=(ZaN Za).2 h0
   have HNB:Hid (numV wr (.slice p (Zp 1000000000 b).length c)=b):=Zkg HB.out
   have hov:=Zgf HA.out HB.out HL.out.1 HL.out.2 h0
   obtain⟨l,hl⟩:=ZpB ((Zp 1000000000 b).length)
   rw[hl] at hov hp HB HNB ⊢
   have Hl:=Zpz hl
   clear hl
   go_wp2_with fail
   refine hov.mono ?_
   rintro e w9 ⟨q,r,rfl,hq,hr,hb9⟩
   have HR:=Zpz hr
   have HB9:Hid (Num w9 (.slice p l c) b):=HB.out.below hb9 ZpA
   have HW9:=Zpz (HW.out.trans (hb9.mono HW.out.size))
   have HM:Hid (numV w9 r<b):=by show _<_;rw[Zkg hr];exact Nat.mod_lt _ h0
   clear hov hq hr hb9
   go_wp2
   go_roundw
   case rel=>exact⟨b,a % b,HB9,HR,by rw[<- HG.out,Nat.gcd_comm a b];exact(Nat.gcd_rec b a).symm ▸ (Nat.gcd_comm _ _),⟨HL.out.2,ZoU (ZN Za (Nat.mod_le _ _)) HL.out.1⟩,HW9⟩
   case measure=>rw[HNB.out];exact HM.out
end Go.Proofs.YtmpaflidennnoaaGreatDoor
