/- The parts Bends, EffL, Missed, Upto, Chances, MissL, EffM, EffG, Made, Ratio, Vals, LawOps, DetVals, Contains, DShort, Steps. -/
import Derived.Test.YtmpaflidennnoaaGreatDoorH05
set_option maxRecDepth 100000
set_option maxHeartbeats 4000000
set_option linter.unusedVariables false
set_option linter.unusedSimpArgs false
namespace Go.Proofs.YtmpaflidennnoaaGreatDoor
open Go.RowKit Go.Shelf
attribute [local go_sem ↓] Go.wp_at_zero Go.wp_at_succ
abbrev BB:=PP×PP
def BAt (w:World) (b off:Nat) (bs:List BB):Prop:=
 ∀ j (h:j<bs.length),w.cell? ⟨b,off+j*4,none⟩=some (.string bs[j].1.1)/\w.cell? ⟨b,off+j*4+1,none⟩=some (.string bs[j].1.2)/\w.cell? ⟨b,off+j*4+2,none⟩=some (.string bs[j].2.1)/\w.cell? ⟨b,off+j*4+3,none⟩=some (.string bs[j].2.2)
def BL (w:World) (v:Value) (bs:List BB):Prop:=
 ∃ p cap,v=.slice p bs.length cap/\bs.length<=cap/\cap<=maxLen/\(bs≠[]->∃ b off,p=some ⟨b,off,none⟩/\b<w.heap.size/\BAt w b off bs)
theorem BAt.below {B:Nat} {w w':World} {b off:Nat} {bs:List BB} (h:BAt w b off bs) (hb:Below B w w') (hB:b<B):BAt w' b off bs:=
 fun j hj=>⟨(hb.cell (p:=⟨b,off+j*4,none⟩) hB).trans (h j hj).1,(hb.cell (p:=⟨b,off+j*4+1,none⟩) hB).trans (h j hj).2.1,
  (hb.cell (p:=⟨b,off+j*4+2,none⟩) hB).trans (h j hj).2.2.1,(hb.cell (p:=⟨b,off+j*4+3,none⟩) hB).trans (h j hj).2.2.2⟩
theorem BL.after {B:Nat} {w w':World} {v:Value} {bs:List BB} (h:BL w v bs) (hb:Below B w w') (hB:w.heap.size<=B):BL w' v bs:=by
 obtain⟨p,cap,h1,h2,h3,h4⟩:=h
 refine⟨p,cap,h1,h2,h3,fun hne=>?_⟩
 obtain⟨b,off,h5,h6,h7⟩:=h4 hne
 exact⟨b,off,h5,ZoS h6 hb.size,h7.below hb Za⟩
theorem BL.nil (w:World):BL w (.slice none 0 0) []:=⟨none,0,rfl,Nat.le_refl _,by simp[maxLen],Zc⟩
theorem BL.len {w:World} {p:Option Addr} {n c:Nat} {bs:List BB} (h:BL w (.slice p n c) bs):bs.length=n/\c<=9223372036854775807/\n<=c:=by
 obtain⟨p',c',hv,h1,h2,_⟩:=h
 injection hv with e1 e2 e3
 subst e1 e3
 unfold maxLen at h2
 omega
def nob:BB:=((Zpv,Zpv),(Zpv,Zpv))
def bAt (bs:List BB) (i:Nat):BB:=bs.getD i nob
theorem ZdC {bs:List BB} {i:Nat} (h:i<bs.length):bAt bs i=bs[i]:=by simp[bAt,List.getD,h]
theorem Zkh {bs:List BB} {i:Nat} (h:i<bs.length):bAt bs i ∈ bs:=by rw[ZdC h];exact Zpc h
theorem BL.at {w:World} {p:Option Addr} {n cap:Nat} {bs:List BB} (h:BL w (.slice p n cap) bs) (hn:bs.length=n) (h0:0<n) :
  ∃ b off,p=some ⟨b,off,none⟩/\b<w.heap.size/\∀ W,Below w.heap.size w W->∀ k,k<n->
   W.cell? ⟨b,off+k*4,none⟩=some (.string (bAt bs k).1.1)/\W.cell? ⟨b,off+k*4+1,none⟩=some (.string (bAt bs k).1.2)/\W.cell? ⟨b,off+k*4+2,none⟩=some (.string (bAt bs k).2.1)/\W.cell? ⟨b,off+k*4+3,none⟩=some (.string (bAt bs k).2.2):=by
 obtain⟨p',c',hv,_,_,h4⟩:=h
 injection hv with e1 e2 e3
 subst e1
 obtain⟨b,off,rfl,hb,hat⟩:=h4 (ZoT Za)
 refine⟨b,off,rfl,hb,fun W hW k hk=>?_⟩
 rw[ZdC Za]
 exact(hat.below hW hb) k Za
abbrev bV (b:BB):Value:=.agg #[.string b.1.1,.string b.1.2,.string b.2.1,.string b.2.2]
abbrev bObj (b:BB):Obj:=.cells #[.string b.1.1,.string b.1.2,.string b.2.1,.string b.2.2] 138
abbrev bO (s t u v:ByteArray):Obj:=.cells #[.string s,.string t,.string u,.string v] 138
def Zw (k:Nat) (p:PP):Bool:=decide (p.1.size<=k) && decide (p.2.size<=k) && okP p.1 p.2
theorem Zaj {k:Nat} {p:PP} : Zw k p=true<->p.1.size<=k/\p.2.size<=k/\okP p.1 p.2=true:=by
 unfold Zw
 simp[and_assoc]
def cR (bs:List BB) (i:Nat):Rat:=ratP (bAt bs i).1.1 (bAt bs i).1.2
def hR (bs:List BB) (i:Nat):Rat:=ratP (bAt bs i).2.1 (bAt bs i).2.2
abbrev Zcf:BB:=((⟨#[48]⟩,⟨#[49]⟩),(⟨#[48]⟩,⟨#[49]⟩))
structure CurveP (bs:List BB):Prop where
 len:2<=bs.length/\bs.length<=64
 first:bAt bs 0=Zcf
 small:∀ i,i<bs.length->Zw 18 (bAt bs i).1=true/\Zw 18 (bAt bs i).2=true
 top:∀ i,i<bs.length->hR bs i<=1
 up:∀ i,i+1<bs.length->cR bs i<cR bs (i+1)/\hR bs i<=hR bs (i+1)
 conc:∀ i,i+2<bs.length->slp (cR bs) (hR bs) (i+1)<=slp (cR bs) (hR bs) i
def Zff (bs:List BB) (n:Int):Prop:=(CurveP bs/\n=0)\/(¬ CurveP bs/\n=2)
theorem ZhB:ratP ⟨#[48]⟩ ⟨#[49]⟩=0:=by decide +kernel
theorem CurveP.conc' {bs:List BB} (h:CurveP bs):Conc bs.length (cR bs) (hR bs) where
 two:=h.len.1
 c0:=by unfold cR;rw[h.first];exact ZhB
 h0:=by unfold hR;rw[h.first];exact ZhB
 top:=h.top
 up:=h.up
 conc:=h.conc
theorem CurveP.isC {bs:List BB} (h:CurveP bs) {i:Nat} (hi:i<bs.length):IsP (cR bs i) (bAt bs i).1.1 (bAt bs i).1.2/\Sz 18 (cR bs i):=by
 obtain⟨h1,h2,h3⟩:=Zaj.1 (h.small i hi).1
 have:=Zav h3
 exact⟨this,this.sz h1 h2⟩
theorem CurveP.isH {bs:List BB} (h:CurveP bs) {i:Nat} (hi:i<bs.length):IsP (hR bs i) (bAt bs i).2.1 (bAt bs i).2.2/\Sz 18 (hR bs i):=by
 obtain⟨h1,h2,h3⟩:=Zaj.1 (h.small i hi).2
 have:=Zav h3
 exact⟨this,this.sz h1 h2⟩
structure SiteP where
 weight:PP
 curve:List BB
structure TaskP where
 sites:List SiteP
 hours:List Int
 rates:List (List PP)
def Zc3 (w:World) (b o:Nat) (s:SiteP):Prop:=w.cell? ⟨b,o,none⟩=some (.string s.weight.1)/\w.cell? ⟨b,o+1,none⟩=some (.string s.weight.2)/\∃ v,w.cell? ⟨b,o+2,none⟩=some v/\BL w v s.curve
theorem Zc3.stays:ZeA Zc3:=fun w w' b o x B ⟨h1,h2,v,h3,h4⟩ hb hw hB=>by
 have hbB:b<B:=ZoS hb hB
 exact⟨(hw.cell (p:=⟨b,o,none⟩) hbB).trans h1,(hw.cell (p:=⟨b,o+1,none⟩) hbB).trans h2,v,(hw.cell (p:=⟨b,o+2,none⟩) hbB).trans h3,h4.after hw hB⟩
abbrev ZnD (w:World) (v:Value) (l:List SiteP):Prop:=LL 3 Zc3 w v l
abbrev PPL (w:World) (v:Value) (l:List (List PP)):Prop:=LL 1 (InR PL) w v l
theorem PPL.stays:ZeA (InR PL):=InR.stays fun _ _ _ _ _ h hb hB=>h.after hb hB
def Zob:SiteP:=⟨(Zpv,Zpv),[]⟩
def eS (t:TaskP) (i:Nat):SiteP:=t.sites.getD i Zob
def eH (t:TaskP) (u:Nat):Int:=t.hours.getD u 0
def eR (t:TaskP) (u i:Nat):PP:=(t.rates.getD u []).getD i (Zpv,Zpv)
def pN (p:List (List Int)) (u i:Nat):Int:=(p.getD u []).getD i 0
theorem Zfr {t:TaskP} {i:Nat} (h:i<t.sites.length):t.sites[i]=eS t i:=by simp[eS,List.getD,h]
theorem ZiW {t:TaskP} {u:Nat} (h:u<t.hours.length):t.hours[u]=eH t u:=by simp[eH,List.getD,h]
theorem ZgP {t:TaskP} {u i:Nat} (h:u<t.rates.length) (g:i<t.rates[u].length):t.rates[u][i]=eR t u i:=by simp[eR,List.getD,h,g]
structure TaskOk (t:TaskP):Prop where
 sites:1<=t.sites.length/\t.sites.length<=24
 teams:1<=t.hours.length/\t.hours.length<=8
 rates:t.rates.length=t.hours.length
 site:∀ i,i<t.sites.length->Zw 9 (eS t i).weight=true/\CurveP (eS t i).curve
 team:∀ u (h:u<t.rates.length),(0<=eH t u/\eH t u<=48)/\t.rates[u].length=t.sites.length/\∀ i,i<t.sites.length->Zw 9 (eR t u i)=true
def Zbm (t:TaskP) (p:List (List Int)) (u i:Nat):Prop:=(0<=pN p u i/\pN p u i<=48)/\(0<pN p u i->ratP (eR t u i).1 (eR t u i).2≠0)
def ZX (p:List (List Int)) (u:Nat):Nat->Int
 | 0=>0
 | k+1=>ZX p u k+pN p u k
structure PlanOk (t:TaskP) (p:List (List Int)):Prop where
 task:TaskOk t
 teams:p.length=t.hours.length
 row:∀ u (h:u<p.length),p[u].length=t.sites.length
 hour:∀ u i,u<p.length->i<t.sites.length->Zbm t p u i
 sum:∀ u,u<p.length->ZX p u t.sites.length<=eH t u
theorem ZiU {n:Nat} {C H:Nat->Rat} (h:Conc n C H) (hc:∀ i,i<n->Sz 18 (C i)) (hh:∀ i,i<n->Sz 18 (H i)) {i:Nat} (hi:i+1<n) :
  Sz 36 (H (i+1)-H i)/\Sz 36 (C (i+1)-C i)/\0<C (i+1)-C i/\0<=H (i+1)-H i/\0<=slp C H i/\Sz 72 (slp C H i):=by
 obtain⟨u1,u2⟩:=h.up i hi
 have a:=Sz.sub (h.h_nn (i:=i+1) hi) (h.h_nn (i:=i) Za) u2 (hh _ hi) (hh i Za)
 have b:=Sz.sub (h.c_nn (i:=i+1) hi) (h.c_nn (i:=i) Za) (Rat.le_of_lt u1) (hc _ hi) (hc i Za)
 have c:0<C (i+1)-C i:=Zk
 have d:0<=H (i+1)-H i:=Zk
 exact⟨a,b,c,d,ZlH u1 u2,Sz.div d c a b⟩
theorem Ziw {n k:Nat} {C H:Nat->Rat} {q:Rat} (h:Conc n C H) (hc:∀ i,i<n->Sz 18 (C i)) (hh:∀ i,i<n->Sz 18 (H i)) (hq:0<=q) (hz:Sz k q) {i:Nat} (hi:i+1<n) (hp:Zbf n C q i) :
  0<=q-C i/\Sz (k+18) (q-C i)/\0<=slp C H i*(q-C i)/\Sz (72+(k+18)) (slp C H i*(q-C i))/\lin n C H i q=H i+slp C H i*(q-C i)/\Sz (18+(72+(k+18))+1) (lin n C H i q):=by
 have h1:=hp.low h hq
 obtain⟨_,_,_,_,s0,sz⟩:=ZiU h hc hh hi
 have a:=Sz.sub hq (h.c_nn (i:=i) Za) h1 hz (hc i Za)
 have b:0<=q-C i:=Zk
 have c:=Rat.mul_nonneg s0 b
 have d:=Sz.mul s0 b sz a
 have e:lin n C H i q=H i+slp C H i*(q-C i):=by
  unfold lin slo
  rw[if_pos hi]
 refine⟨b,a,c,d,e,?_⟩
 rw[e]
 exact Sz.add (h.h_nn (i:=i) Za) c (hh i Za) d
structure Upto (bs:List BB) (k:Nat):Prop where
 small:∀ i,i<k->Zw 18 (bAt bs i).1=true/\Zw 18 (bAt bs i).2=true
 top:∀ i,i<k->hR bs i<=1
 up:∀ i,i+1<k->cR bs i<cR bs (i+1)/\hR bs i<=hR bs (i+1)
 conc:∀ i,i+2<k->slp (cR bs) (hR bs) (i+1)<=slp (cR bs) (hR bs) i
theorem Upto.zero (bs:List BB):Upto bs 0:=⟨fun i h=>Za,fun i h=>Za,fun i h=>Za,fun i h=>Za⟩
theorem Upto.mono {bs:List BB} {k m:Nat} (h:Upto bs k) (hm:m<=k):Upto bs m:=
 ⟨fun i hi=>h.small i Za,fun i hi=>h.top i Za,fun i hi=>h.up i Za,fun i hi=>h.conc i Za⟩
theorem Upto.succ {bs:List BB} {k:Nat} (h:Upto bs k) (h1:Zw 18 (bAt bs k).1=true/\Zw 18 (bAt bs k).2=true) (h2:hR bs k<=1)
  (h3:∀ i,i+1=k->cR bs i<cR bs (i+1)/\hR bs i<=hR bs (i+1)) (h4:∀ i,i+2=k->slp (cR bs) (hR bs) (i+1)<=slp (cR bs) (hR bs) i):Upto bs (k+1):=by
 refine⟨fun i hi=>?_,fun i hi=>?_,fun i hi=>?_,fun i hi=>?_⟩
 ·by_cases e:i=k
  ·subst e;exact h1
  ·exact h.small i Za
 ·by_cases e:i=k
  ·subst e;exact h2
  ·exact h.top i Za
 ·by_cases e:i+1=k
  ·exact h3 i e
  ·exact h.up i Za
 ·by_cases e:i+2=k
  ·exact h4 i e
  ·exact h.conc i Za
theorem Upto.curve {bs:List BB} (h:Upto bs bs.length) (hl:2<=bs.length/\bs.length<=64) (hf:bAt bs 0=Zcf):CurveP bs:=⟨hl,hf,h.small,h.top,h.up,h.conc⟩
structure Pieces (bs:List BB) (k:Nat):Prop where
 up:∀ i,i<k->cR bs i<cR bs (i+1)/\hR bs i<=hR bs (i+1)
 conc:∀ i,i+1<k->slp (cR bs) (hR bs) (i+1)<=slp (cR bs) (hR bs) i
theorem Pieces.zero (bs:List BB):Pieces bs 0:=⟨fun i h=>Za,fun i h=>Za⟩
theorem Pieces.succ {bs:List BB} {k:Nat} (h:Pieces bs k) (h1:cR bs k<cR bs (k+1)/\hR bs k<=hR bs (k+1)) (h2:∀ i,i+1=k->slp (cR bs) (hR bs) (i+1)<=slp (cR bs) (hR bs) i):Pieces bs (k+1):=by
 refine⟨fun i hi=>?_,fun i hi=>?_⟩
 ·by_cases e:i=k
  ·subst e;exact h1
  ·exact h.up i Za
 ·by_cases e:i+1=k
  ·exact h2 i e
  ·exact h.conc i Za
theorem Pieces.rise {bs:List BB} {k:Nat} (h:Pieces bs k) {i:Nat} : ∀ d,i+d<=k->hR bs i<=hR bs (i+d)
 | 0,_=>Rat.le_refl
 | d+1,hd=>Rat.le_trans (h.rise d Za) (h.up (i+d) Za).2
theorem Pieces.curve {bs:List BB} {m:Nat} (h:Pieces bs m) (hm:bs.length=m+1) (hl:2<=bs.length/\bs.length<=64) (hf:bAt bs 0=Zcf)
  (hs:∀ i,i<bs.length->Zw 18 (bAt bs i).1=true/\Zw 18 (bAt bs i).2=true) (ht:hR bs m<=1):CurveP bs:=by
 refine⟨hl,hf,hs,fun i hi=>?_,fun i hi=>h.up i Za,fun i hi=>h.conc i Za⟩
 have:=h.rise (i:=i) (m-i) Za
 rw[Nat.add_sub_cancel' Za] at this
 exact Rat.le_trans this ht
theorem CurveP.pieces {bs:List BB} (h:CurveP bs) {m:Nat} (hm:bs.length=m+1):Pieces bs m:=⟨fun i hi=>h.up i Za,fun i hi=>h.conc i Za⟩
theorem ZbF {k:Nat} {p:PP} (h:Zw k p=true):IsP (ratP p.1 p.2) p.1 p.2/\Sz k (ratP p.1 p.2):=by
 obtain⟨h1,h2,h3⟩:=Zaj.1 h
 have:=Zav h3
 exact⟨this,this.sz h1 h2⟩
theorem Zaa {q:Rat} {k:Nat} (h0:0<=q) (h:Sz k q) (hk:0<k) (hk2:k<=600):∃ x y,IsP q x y:=⟨_,_,h0,rfl,rfl,h.fits hk hk2⟩
theorem Zm0 {a b c d:Rat} (ha:0<=a) (hc:0<=c) (h1:c<d) (h2:a<=b) (sa:Sz 18 a) (sb:Sz 18 b) (sc:Sz 18 c) (sd:Sz 18 d) :
  (∃ x y,IsP (b-a) x y)/\(∃ x y,IsP (d-c) x y)/\(∃ x y,IsP ((b-a)/(d-c)) x y)/\0<d-c/\0<=(b-a)/(d-c)/\Sz 72 ((b-a)/(d-c)):=by
 have z1:=Sz.sub (a:=b) (b:=a) Zk ha h2 sb sa
 have z2:=Sz.sub (a:=d) (b:=c) Zk hc (Rat.le_of_lt h1) sd sc
 have p:0<d-c:=Zk
 have q:0<=b-a:=Zk
 have z3:=Sz.div q p z1 z2
 have r:=ZeP q (Rat.le_of_lt p)
 exact⟨Zaa q z1 Zd Zd,Zaa (Rat.le_of_lt p) z2 Zd Zd,Zaa r z3 Zd Zd,p,r,z3⟩
theorem CurveP.sizes {bs:List BB} (h:CurveP bs):(∀ i,i<bs.length->Sz 18 (cR bs i))/\∀ i,i<bs.length->Sz 18 (hR bs i):=⟨fun _ hi=>(h.isC hi).2,fun _ hi=>(h.isH hi).2⟩
theorem Ze5 {bs:List BB} {q:Rat} {k:Nat} (h:CurveP bs) (hq0:0<=q) (hz:Sz 300 q) (hp:Zbf bs.length (cR bs) q k) (hk:k+1<bs.length) :
  (∃ x y,IsP (hR bs (k+1)-hR bs k) x y)/\(∃ x y,IsP (cR bs (k+1)-cR bs k) x y)/\(∃ x y,IsP (slp (cR bs) (hR bs) k) x y)/\(∃ x y,IsP (q-cR bs k) x y)/\
   (∃ x y,IsP (slp (cR bs) (hR bs) k*(q-cR bs k)) x y)/\(∃ x y,IsP (lin bs.length (cR bs) (hR bs) k q) x y)/\
   lin bs.length (cR bs) (hR bs) k q=hR bs k+slp (cR bs) (hR bs) k*(q-cR bs k)/\0<cR bs (k+1)-cR bs k:=by
 obtain⟨a1,a2,a3,a4,a5,a6⟩:=ZiU h.conc' h.sizes.1 h.sizes.2 hk
 obtain⟨b1,b2,b3,b4,b5,b6⟩:=Ziw h.conc' h.sizes.1 h.sizes.2 hq0 hz hk hp
 have l0:0<=lin bs.length (cR bs) (hR bs) k q:=by
  rw[b5]
  have:=h.conc'.h_nn (i:=k) Za
  grind
 exact⟨Zaa a4 a1 Zd Zd,Zaa (Rat.le_of_lt a3) a2 Zd Zd,Zaa a5 a6 Zd Zd,Zaa b1 b2 Zd Zd,Zaa b3 b4 Zd Zd,Zaa l0 b6 Zd Zd,b5,a3⟩
def ZbB (bs:List BB) (s t:ByteArray) (x y:ByteArray) (n:Int):Prop:=
 (¬ (CurveP bs/\Zw 300 (s,t)=true)/\x=Zpv/\y=Zpv/\n=2)\/((CurveP bs/\Zw 300 (s,t)=true)/\n=0/\∃ r,ZW bs.length (cR bs) (hR bs) (ratP s t) r/\IsP r x y)
theorem Zfw.unique {n:Nat} {C H:Nat->Rat} {q r s:Rat} (h:Zfw n C H q r) (g:Zfw n C H q s):r=s:=by
 obtain⟨k,h1,h2⟩:=h
 obtain⟨m,g1,g2⟩:=g
 obtain rfl:=h1.unique g1
 rw[h2,g2]
theorem ZdK {q r:Rat} {x y u v:ByteArray} (h:IsP q x y) (g:IsP r u v) (e:q=r):x=u/\y=v:=by
 subst e
 exact⟨by rw[h.num,g.num],by rw[h.den,g.den]⟩
theorem ZbB.det {bs:List BB} {s t x y u v:ByteArray} {n m:Int} (h:ZbB bs s t x y n) (g:ZbB bs s t u v m):x=u/\y=v/\n=m:=by
 rcases h with ⟨h,rfl,rfl,rfl⟩ | ⟨h,rfl,r,h1,h2⟩
 ·rcases g with ⟨_,rfl,rfl,rfl⟩ | ⟨g,_⟩
  ·exact⟨rfl,rfl,rfl⟩
  ·exact Zpp g h
 ·rcases g with ⟨g,_⟩ | ⟨_,rfl,r',g1,g2⟩
  ·exact Zpp h g
  ·obtain⟨e1,e2⟩:=ZdK h2 g2 (h1.unique g1)
   exact⟨e1,e2,rfl⟩
theorem Zep {bs:List BB} (h:CurveP bs) (q:Rat):∃ c,ZW bs.length (cR bs) (hR bs) q c:=by
 have hl:=h.len
 obtain⟨k,hk⟩:=Zbf.exists (n:=bs.length) (C:=cR bs) q (bs.length-1) Za
 rw[Nat.sub_add_cancel Za] at hk
 exact⟨_,k,hk,rfl⟩
open Classical in
noncomputable def chF (bs:List BB) (q:Rat):Rat:=if h:∃ r,ZW bs.length (cR bs) (hR bs) q r then Classical.choose h else 0
theorem ZdJ {bs:List BB} (h:CurveP bs) (q:Rat):ZW bs.length (cR bs) (hR bs) q (chF bs q):=by
 have hex:=Zep h q
 unfold chF
 rw[dif_pos hex]
 exact Classical.choose_spec hex
theorem Ze1 {bs:List BB} (h:CurveP bs) {q r:Rat} (hr:ZW bs.length (cR bs) (hR bs) q r):chF bs q=r:=(ZdJ h q).unique hr
def rR (t:TaskP) (u i:Nat):Rat:=ratP (eR t u i).1 (eR t u i).2
def wR (t:TaskP) (i:Nat):Rat:=ratP (eS t i).weight.1 (eS t i).weight.2
def ZaL (t:TaskP) (p:List (List Int)) (i:Nat):Nat->Rat
 | 0=>0
 | k+1=>ZaL t p i k+rR t k i*((pN p k i:Int):Rat)
def covR (t:TaskP) (p:List (List Int)) (i:Nat):Rat:=ZaL t p i p.length
def sumF (f:Nat->Rat):Nat->Rat
 | 0=>0
 | k+1=>sumF f k+f k
theorem Zkk {f g:Nat->Rat} : ∀ {n:Nat},(∀ i,i<n->f i<=g i)->sumF f n<=sumF g n
 | 0,_=>Rat.le_refl
 | n+1,h=>by
  have h1:=Zkk (f:=f) (g:=g) (n:=n) fun i hi=>h i Za
  have h2:=h n Za
  unfold sumF
  grind
def Made (s t x y:ByteArray) (e:Int):Prop:=
 ((ZU s.data.toList && ZU t.data.toList)=false/\x=str []/\y=str []/\e=2)\/
 ((ZU s.data.toList && ZU t.data.toList)=true/\Zq t.data.toList=0/\x=str []/\y=str []/\e=10)\/
 ((ZU s.data.toList && ZU t.data.toList)=true/\0<Zq t.data.toList/\Ans (ratP s t) x y e)
theorem Zna (s t:ByteArray) (w:World) (hs:s.size<=1000000) (ht:t.size<=1000000) (hT:Tabs w) :
  Calls Tryz.prog 159 #[.string s,.string t] w (ZL (Made s t) w):=by
 have HT:=Zpz hT
 clear hT
 cases h1:ZU s.data.toList
 ·have H1:=Zpz h1
  clear h1
  go_enter Tryz.func159,Tryz.ntmps159
  go_wp2_with fail
  obtain⟨w1,hw1⟩:=ZpB (w.alloc (Zpx Zpv Zpv))
  rw[hw1]
  have HX1:Hid (Zv w.heap.size [Zpx Zpv Zpv] w1):=by rw[<- hw1];exact Zv.one w _
  have HB1:Zpt w w1:=by rw[<- hw1];exact(ZoL _ w).alloc ZpA _
  clear hw1
  refine(ZaE s _ hs).mono ?_
  rintro e w2 ⟨rfl,hb2⟩
  rw[H1.out]
  have HX2:=Zpz (HX1.out.below hb2 HX1.out.lt)
  have HB2:=Zpz (HB1.out.trans (hb2.mono HB1.out.size))
  clear hb2
  have r0:=HX2.out.cell 0 0 (b:=w.heap.size) rfl rfl rfl
  have r1:=HX2.out.cell 0 1 (b:=w.heap.size) rfl rfl rfl
  have f0:=HX2.out.free 0 0 (b:=w.heap.size) rfl rfl
  have f1:=HX2.out.free 0 1 (b:=w.heap.size) rfl rfl
  go_wp2
  have q:=Zu (HX2.out.block 0 (b:=w.heap.size) rfl rfl) (.string Zpv) (.string Zpv)
  have HBQ:=Zpz (Zs HB2.out (b:=w.heap.size) Za (.string Zpv) (.string Zpv))
  obtain⟨w9,hw9⟩:=ZpB ((w2.setCell ⟨w.heap.size,0,none⟩ (.string Zpv)).setCell ⟨w.heap.size,1,none⟩ (.string Zpv))
  rw[hw9] at q HBQ
  obtain⟨q0,q1⟩:=q
  rw[hw9]
  clear r0 r1 f0 f1 hw9
  go_wp2
  refine ZoM (v:=.tuple #[Zpw Zpv Zpv,.int .i64 2]) (by simp[results,Tryz.f159,go_sem,q0,q1]) rfl ⟨_,_,_,rfl,?_,HBQ.out⟩
  exact .inl ⟨by rw[H1.out];rfl,rfl,rfl,rfl⟩
 ·have H1:=Zpz h1
  clear h1
  cases h2:ZU t.data.toList
  ·have H2:=Zpz h2
   clear h2
   go_enter Tryz.func159,Tryz.ntmps159
   go_wp2_with fail
   obtain⟨w1,hw1⟩:=ZpB (w.alloc (Zpx Zpv Zpv))
   rw[hw1]
   have HX1:Hid (Zv w.heap.size [Zpx Zpv Zpv] w1):=by rw[<- hw1];exact Zv.one w _
   have HB1:Zpt w w1:=by rw[<- hw1];exact(ZoL _ w).alloc ZpA _
   clear hw1
   refine(ZaE s _ hs).mono ?_
   rintro e w2 ⟨rfl,hb2⟩
   rw[H1.out]
   have HX2:=Zpz (HX1.out.below hb2 HX1.out.lt)
   have HB2:=Zpz (HB1.out.trans (hb2.mono HB1.out.size))
   clear hb2
   go_wp2_with fail
   refine(ZaE t _ ht).mono ?_
   rintro e w3 ⟨rfl,hb3⟩
   rw[H2.out]
   have HX3:=Zpz (HX2.out.below hb3 HX2.out.lt)
   have HB3:=Zpz (HB2.out.trans (hb3.mono HB2.out.size))
   clear hb3
   have r0:=HX3.out.cell 0 0 (b:=w.heap.size) rfl rfl rfl
   have r1:=HX3.out.cell 0 1 (b:=w.heap.size) rfl rfl rfl
   have f0:=HX3.out.free 0 0 (b:=w.heap.size) rfl rfl
   have f1:=HX3.out.free 0 1 (b:=w.heap.size) rfl rfl
   go_wp2
   have q:=Zu (HX3.out.block 0 (b:=w.heap.size) rfl rfl) (.string Zpv) (.string Zpv)
   have HBQ:=Zpz (Zs HB3.out (b:=w.heap.size) Za (.string Zpv) (.string Zpv))
   obtain⟨w9,hw9⟩:=ZpB ((w3.setCell ⟨w.heap.size,0,none⟩ (.string Zpv)).setCell ⟨w.heap.size,1,none⟩ (.string Zpv))
   rw[hw9] at q HBQ
   obtain⟨q0,q1⟩:=q
   rw[hw9]
   clear r0 r1 f0 f1 hw9
   go_wp2
   refine ZoM (v:=.tuple #[Zpw Zpv Zpv,.int .i64 2]) (by simp[results,Tryz.f159,go_sem,q0,q1]) rfl ⟨_,_,_,rfl,?_,HBQ.out⟩
   exact .inl ⟨by rw[H2.out,Bool.and_false],rfl,rfl,rfl⟩
  ·have HZ:=Zpz (Zc2 h2)
   have H2:=Zpz h2
   clear h2
   have dl:t.toList=t.data.toList:=Zo8 ..
   by_cases h0:Zq t.data.toList=0
   ·have hz:(t.toList==[48])=true:=by
     rw[dl,HZ.out.2 h0];rfl
    have H0:=Zpz h0
    clear h0 dl
    go_enter Tryz.func159,Tryz.ntmps159
    go_wp2_with fail
    obtain⟨w1,hw1⟩:=ZpB (w.alloc (Zpx Zpv Zpv))
    rw[hw1]
    have HX1:Hid (Zv w.heap.size [Zpx Zpv Zpv] w1):=by rw[<- hw1];exact Zv.one w _
    have HB1:Zpt w w1:=by rw[<- hw1];exact(ZoL _ w).alloc ZpA _
    clear hw1
    refine(ZaE s _ hs).mono ?_
    rintro e w2 ⟨rfl,hb2⟩
    rw[H1.out]
    have HX2:=Zpz (HX1.out.below hb2 HX1.out.lt)
    have HB2:=Zpz (HB1.out.trans (hb2.mono HB1.out.size))
    clear hb2
    go_wp2_with fail
    refine(ZaE t _ ht).mono ?_
    rintro e w3 ⟨rfl,hb3⟩
    rw[H2.out]
    have HX3:=Zpz (HX2.out.below hb3 HX2.out.lt)
    have HB3:=Zpz (HB2.out.trans (hb3.mono HB2.out.size))
    clear hb3
    have r0:=HX3.out.cell 0 0 (b:=w.heap.size) rfl rfl rfl
    have r1:=HX3.out.cell 0 1 (b:=w.heap.size) rfl rfl rfl
    have f0:=HX3.out.free 0 0 (b:=w.heap.size) rfl rfl
    have f1:=HX3.out.free 0 1 (b:=w.heap.size) rfl rfl
    go_wp2
    have q:=Zu (HX3.out.block 0 (b:=w.heap.size) rfl rfl) (.string Zpv) (.string Zpv)
    have HBQ:=Zpz (Zs HB3.out (b:=w.heap.size) Za (.string Zpv) (.string Zpv))
    obtain⟨w9,hw9⟩:=ZpB ((w3.setCell ⟨w.heap.size,0,none⟩ (.string Zpv)).setCell ⟨w.heap.size,1,none⟩ (.string Zpv))
    rw[hw9] at q HBQ
    obtain⟨q0,q1⟩:=q
    rw[hw9]
    clear r0 r1 f0 f1 hw9
    go_wp2
    refine ZoM (v:=.tuple #[Zpw Zpv Zpv,.int .i64 10]) (by simp[results,Tryz.f159,go_sem,q0,q1]) rfl ⟨_,_,_,rfl,?_,HBQ.out⟩
    exact .inr (.inl ⟨by rw[H1.out,H2.out];rfl,H0.out,rfl,rfl,rfl⟩)
   ·have hz:(t.toList==[48])=false:=by
     rw[beq_eq_false_iff_ne,dl]
     intro hc
     refine h0 (HZ.out.1 ?_)
     rw[<- Za1 t,hc];rfl
    have H0:=Zpz h0
    clear h0 dl
    obtain⟨cs1,cs2⟩:=Zak H1.out
    obtain⟨ct1,ct2⟩:=Zak H2.out
    have hls:=Zce cs1.dig (j:=70) (by rw[<- Zy];omega)
    have hlt:=Zce ct1.dig (j:=70) (by rw[<- Zy];omega)
    have HDS:=Zpz cs1.dig
    have HDT:=Zpz ct1.dig
    clear cs1 cs2 ct1 ct2
    go_enter Tryz.func159,Tryz.ntmps159
    go_wp2_with fail
    obtain⟨w1,hw1⟩:=ZpB (w.alloc (Zpx Zpv Zpv))
    rw[hw1]
    have HX1:Hid (Zv w.heap.size [Zpx Zpv Zpv] w1):=by rw[<- hw1];exact Zv.one w _
    have HB1:Zpt w w1:=by rw[<- hw1];exact(ZoL _ w).alloc ZpA _
    clear hw1
    refine(ZaE s _ hs).mono ?_
    rintro e w2 ⟨rfl,hb2⟩
    rw[H1.out]
    have HX2:=Zpz (HX1.out.below hb2 HX1.out.lt)
    have HB2:=Zpz (HB1.out.trans (hb2.mono HB1.out.size))
    clear hb2
    go_wp2_with fail
    refine(ZaE t _ ht).mono ?_
    rintro e w3 ⟨rfl,hb3⟩
    rw[H2.out]
    have HX3:=Zpz (HX2.out.below hb3 HX2.out.lt)
    have HB3:=Zpz (HB2.out.trans (hb3.mono HB2.out.size))
    clear hb3
    go_wp2_with fail
    refine(ZgW s hs HDS.out _).mono ?_
    rintro e w4 ⟨vn,rfl,hN,hb4⟩
    obtain⟨pn,ln,cn,rfl⟩:=hN.form'
    have HN4:=Zpz hN
    have HX4:=Zpz (HX3.out.below hb4 HX3.out.lt)
    have HB4:=Zpz (HB3.out.trans (hb4.mono HB3.out.size))
    clear hN hb4
    go_wp2_with fail
    refine(ZgW t ht HDT.out _).mono ?_
    rintro e w5 ⟨vd,rfl,hD,hb5⟩
    obtain⟨pd,ld,cd,rfl⟩:=hD.form'
    have HD5:=Zpz hD
    have HN5:=Zpz (HN4.out.after hb5 ZpA)
    have HX5:=Zpz (HX4.out.below hb5 HX4.out.lt)
    have HB5:=Zpz (HB4.out.trans (hb5.mono HB4.out.size))
    clear hD hb5
    go_wp2_with fail
    refine(ZdE HN5.out HD5.out Za Za (by have:=H0.out;omega) (HT.out.below HB5.out ZpA)).mono ?_
    rintro e w6 ⟨x,y,n,rfl,hR,hb6⟩
    have HR:=Zpz hR
    have HX6:=Zpz (HX5.out.below hb6 HX5.out.lt)
    have HB6:=Zpz (HB5.out.trans (hb6.mono HB5.out.size))
    clear hR hb6
    have r0:=HX6.out.cell 0 0 (b:=w.heap.size) rfl rfl rfl
    have r1:=HX6.out.cell 0 1 (b:=w.heap.size) rfl rfl rfl
    have f0:=HX6.out.free 0 0 (b:=w.heap.size) rfl rfl
    have f1:=HX6.out.free 0 1 (b:=w.heap.size) rfl rfl
    go_wp2
    have q:=Zu (HX6.out.block 0 (b:=w.heap.size) rfl rfl) (.string x) (.string y)
    have HBQ:=Zpz (Zs HB6.out (b:=w.heap.size) Za (.string x) (.string y))
    obtain⟨w9,hw9⟩:=ZpB ((w6.setCell ⟨w.heap.size,0,none⟩ (.string x)).setCell ⟨w.heap.size,1,none⟩ (.string y))
    rw[hw9] at q HBQ
    obtain⟨q0,q1⟩:=q
    rw[hw9]
    clear r0 r1 f0 f1 hw9
    go_wp2
    refine ZoM (v:=.tuple #[Zpw x y,.int .i64 n]) (by simp[results,Tryz.f159,go_sem,q0,q1]) rfl ⟨_,_,_,rfl,?_,HBQ.out⟩
    exact .inr (.inr ⟨by rw[H1.out,H2.out];rfl,by have:=H0.out;omega,HR.out⟩)
def Zmw (n:Int) (w:World) (e:Ending) (w':World):Prop:=
 ∃ s r,e=.returned (.tuple #[.string s,.int .i64 r])/\((n<0/\s=str []/\r=11)\/(0<=n/\s=str (Lib.decDigits n.toNat)/\r=0))/\Below w.heap.size w w'
theorem ZjR {n:Int} (h:0<=n):Lib.itoa n=Lib.decDigits n.toNat:=by
 unfold Lib.itoa
 rw[if_neg Za]
theorem ZhG (n:Int) (h0 : -9223372036854775808<=n) (h1:n<=9223372036854775807) (w:World) (hT:Tabs w) :
  Calls Tryz.prog 158 #[.int .i64 n] w (Zmw n w):=by
 have HI:=Zpz (Tryz.strconv_Itoa n h0 h1 w hT)
 have HT:=Zpz hT
 have H01:=Zpz (Zpq h0 h1)
 clear hT h0 h1
 by_cases hn:n<0
 ·go_enter Tryz.func158,Tryz.ntmps158
  go_wp2
  go_ret2
  exact⟨_,_,rfl,.inl ⟨hn,rfl,rfl⟩,ZoL _ _⟩
 ·go_enter Tryz.func158,Tryz.ntmps158
  go_wp2_with fail
  refine HI.out.mono ?_
  rintro e w2 ⟨rfl,k,os,hw⟩
  have HB:Zpt w w2:=by rw[hw];exact Lib.below_grow _ _ ZpA _ _
  clear hw
  obtain⟨s,hs⟩:=ZpB ((⟨(Lib.itoa n).toArray⟩:ByteArray))
  rw[hs]
  have HS:Hid (s=str (Lib.decDigits n.toNat)):=by show _=_;rw[<- hs,ZjR Za];rfl
  clear hs
  go_wp2
  go_ret2
  exact⟨_,_,rfl,.inr ⟨Za,HS.out,rfl⟩,HB.out⟩
def ZiH (a b:Int) (x y:ByteArray) (e:Int):Prop:=
 ((a<0\/b<0)/\x=str []/\y=str []/\e=11)\/(0<=a/\b=0/\x=str []/\y=str []/\e=10)\/(0<=a/\0<b/\Ans (mkRat (a.toNat:Nat) b.toNat) x y e)
theorem Zfb {n:Nat} (h:(Lib.decDigits n).length<=600):ZU (Lib.decDigits n)=true:=ZcZ (ZcP n) h
theorem ZjV {a b:Nat} (ha:(Lib.decDigits a).length<=600) (hb:(Lib.decDigits b).length<=600) {x y:ByteArray} {e:Int} (h:Made (str (Lib.decDigits a)) (str (Lib.decDigits b)) x y e) :
  (b=0/\x=str []/\y=str []/\e=10)\/(0<b/\Ans (mkRat (a:Nat) b) x y e):=by
 unfold Made ratP at h
 rw[Zbv,Zbv,Zfb ha,Zfb hb,Zax,Zax] at h
 rcases h with ⟨h,_⟩ | ⟨_,h0,h1,h2,h3⟩ | ⟨_,h0,h1⟩
 ·cases h
 ·exact .inl ⟨h0,h1,h2,h3⟩
 ·exact .inr ⟨h0,h1⟩
theorem ZdB {n:Int} (h:n<=9223372036854775807):(Lib.decDigits n.toNat).length<=600:=ZoU (Z3 (k:=20) Za Za) Za
theorem ZgX {a b:Int} (h0:0<=a) (h1:0<=b) (ha:a<=9223372036854775807) (hb:b<=9223372036854775807) {s t x y:ByteArray} {e:Int} (hs:s=str (Lib.decDigits a.toNat)) (ht:t=str (Lib.decDigits b.toNat)) (h:Made s t x y e):ZiH a b x y e:=by
 subst hs;subst ht
 rcases ZjV (ZdB ha) (ZdB hb) h with ⟨k1,k2,k3,k4⟩ | ⟨k1,k2⟩
 ·exact .inr (.inl ⟨h0,Za,k2,k3,k4⟩)
 ·exact .inr (.inr ⟨h0,Za,k2⟩)
theorem ZhS (a b:Int) (ha0 : -9223372036854775808<=a) (ha1:a<=9223372036854775807) (hb0 : -9223372036854775808<=b) (hb1:b<=9223372036854775807) (w:World) (hT:Tabs w) :
  Calls Tryz.prog 107 #[.int .i64 a,.int .i64 b] w (ZL (ZiH a b) w):=by
 have HT:=Zpz hT
 clear hT
 go_enter Tryz.func107,Tryz.ntmps107
 go_wp2_with fail
 obtain⟨w1,hw1⟩:=ZpB (w.alloc (Zpx Zpv Zpv))
 rw[hw1]
 have HX1:Hid (Zv w.heap.size [Zpx Zpv Zpv] w1):=by rw[<- hw1];exact Zv.one w _
 have HB1:Zpt w w1:=by rw[<- hw1];exact(ZoL _ w).alloc ZpA _
 clear hw1
 refine(ZhG a ha0 ha1 _ (HT.out.below HB1.out ZpA)).mono ?_
 rintro e w2 ⟨s,r1,rfl,hR1,hb2⟩
 have HX2:=Zpz (HX1.out.below hb2 HX1.out.lt)
 have HB2:=Zpz (HB1.out.trans (hb2.mono HB1.out.size))
 have HR1:=Zpz hR1
 clear hb2 hR1
 go_wp2_with fail
 refine(ZhG b hb0 hb1 _ (HT.out.below HB2.out ZpA)).mono ?_
 rintro e w3 ⟨t,r2,rfl,hR2,hb3⟩
 have HX3:=Zpz (HX2.out.below hb3 HX2.out.lt)
 have HB3:=Zpz (HB2.out.trans (hb3.mono HB2.out.size))
 have HR2:=Zpz hR2
 clear hb3 hR2
 by_cases hneg:a<0\/b<0
 ·
  have r0:=HX3.out.cell 0 0 (b:=w.heap.size) rfl rfl rfl
  have r1:=HX3.out.cell 0 1 (b:=w.heap.size) rfl rfl rfl
  have f0:=HX3.out.free 0 0 (b:=w.heap.size) rfl rfl
  have f1:=HX3.out.free 0 1 (b:=w.heap.size) rfl rfl
  rcases HR1.out with ⟨k1,k2,rfl⟩ | ⟨k1,k2,rfl⟩
  ·clear k1 k2
   go_wp2
   have q:=Zu (HX3.out.block 0 (b:=w.heap.size) rfl rfl) (.string Zpv) (.string Zpv)
   have HBQ:=Zpz (Zs HB3.out (b:=w.heap.size) Za (.string Zpv) (.string Zpv))
   obtain⟨w9,hw9⟩:=ZpB ((w3.setCell ⟨w.heap.size,0,none⟩ (.string Zpv)).setCell ⟨w.heap.size,1,none⟩ (.string Zpv))
   rw[hw9] at q HBQ
   obtain⟨q0,q1⟩:=q
   rw[hw9]
   clear r0 r1 f0 f1 hw9
   go_wp2
   refine ZoM (v:=.tuple #[Zpw Zpv Zpv,.int .i64 11]) (by simp[results,Tryz.f107,go_sem,q0,q1]) rfl ⟨_,_,_,rfl,?_,HBQ.out⟩
   exact .inl ⟨hneg,rfl,rfl,rfl⟩
  ·rcases HR2.out with ⟨m1,m2,rfl⟩ | ⟨m1,m2,rfl⟩
   ·clear k1 k2 m1 m2
    go_wp2
    have q:=Zu (HX3.out.block 0 (b:=w.heap.size) rfl rfl) (.string Zpv) (.string Zpv)
    have HBQ:=Zpz (Zs HB3.out (b:=w.heap.size) Za (.string Zpv) (.string Zpv))
    obtain⟨w9,hw9⟩:=ZpB ((w3.setCell ⟨w.heap.size,0,none⟩ (.string Zpv)).setCell ⟨w.heap.size,1,none⟩ (.string Zpv))
    rw[hw9] at q HBQ
    obtain⟨q0,q1⟩:=q
    rw[hw9]
    clear r0 r1 f0 f1 hw9
    go_wp2
    refine ZoM (v:=.tuple #[Zpw Zpv Zpv,.int .i64 11]) (by simp[results,Tryz.f107,go_sem,q0,q1]) rfl ⟨_,_,_,rfl,?_,HBQ.out⟩
    exact .inl ⟨hneg,rfl,rfl,rfl⟩
   ·exfalso;omega
 ·have hz:r1=0/\r2=0/\Hid (s=str (Lib.decDigits a.toNat))/\Hid (t=str (Lib.decDigits b.toNat))/\0<=a/\0<=b:=by
   rcases HR1.out with ⟨k1,k2,k3⟩ | ⟨k1,k2,k3⟩
   ·omega
   ·rcases HR2.out with ⟨m1,m2,m3⟩ | ⟨m1,m2,m3⟩
    ·omega
    ·exact⟨k3,m3,k2,m2,k1,m1⟩
  obtain⟨rfl,rfl,HS,HU,ka,kb⟩:=hz
  have hs:s.size<=1000000:=by rw[HS.out,Zay];exact ZoU (ZdB ha1) Za
  have ht:t.size<=1000000:=by rw[HU.out,Zay];exact ZoU (ZdB hb1) Za
  clear hneg
  go_wp2_with fail
  refine(Zna s t _ hs ht (HT.out.below HB3.out ZpA)).mono ?_
  rintro e w4 ⟨x,y,n,rfl,hR,hb4⟩
  have HR:=Zpz hR
  have HX4:=Zpz (HX3.out.below hb4 HX3.out.lt)
  have HB4:=Zpz (HB3.out.trans (hb4.mono HB3.out.size))
  clear hR hb4
  have r0:=HX4.out.cell 0 0 (b:=w.heap.size) rfl rfl rfl
  have r1:=HX4.out.cell 0 1 (b:=w.heap.size) rfl rfl rfl
  have f0:=HX4.out.free 0 0 (b:=w.heap.size) rfl rfl
  have f1:=HX4.out.free 0 1 (b:=w.heap.size) rfl rfl
  go_wp2
  have q:=Zu (HX4.out.block 0 (b:=w.heap.size) rfl rfl) (.string x) (.string y)
  have HBQ:=Zpz (Zs HB4.out (b:=w.heap.size) Za (.string x) (.string y))
  obtain⟨w9,hw9⟩:=ZpB ((w4.setCell ⟨w.heap.size,0,none⟩ (.string x)).setCell ⟨w.heap.size,1,none⟩ (.string y))
  rw[hw9] at q HBQ
  obtain⟨q0,q1⟩:=q
  rw[hw9]
  clear r0 r1 f0 f1 hw9
  go_wp2
  refine ZoM (v:=.tuple #[Zpw x y,.int .i64 n]) (by simp[results,Tryz.f107,go_sem,q0,q1]) rfl ⟨_,_,_,rfl,?_,HBQ.out⟩
  exact ZgX ka kb ha1 hb1 HS.out HU.out HR.out
abbrev pObj (x y:ByteArray):Obj:=.cells #[.string x,.string y] 41
def Z1 (v:Value) (w:World) (e:Ending) (w':World):Prop:=e=.returned v/\Below w.heap.size w w'
abbrev pV (s t:ByteArray):Value:=.agg #[.string s,.string t]
theorem Zoi (w:World) (s t u v:ByteArray):PL (w.alloc (.cells #[.string s,.string t,.string u,.string v] 41)) (.slice (some ⟨w.heap.size,0,none⟩) 2 2) [(s,t),(u,v)]:=by
 refine⟨_,2,rfl,Nat.le_refl _,by simp[maxLen],fun _=>⟨_,0,rfl,Zc,fun j hj=>?_⟩⟩
 match j,hj with
 | 0,_=>exact⟨ZK _ _ _ 0 rfl,ZK _ _ _ 1 rfl⟩
 | 1,_=>exact⟨ZK _ _ _ 2 rfl,ZK _ _ _ 3 rfl⟩
 | j+2,h=>simp at h;try omega
theorem IsP.le {q:Rat} {s t:ByteArray} (h:IsP q s t):s.size<=1000000/\t.size<=1000000:=by
 obtain⟨h1,h2⟩:=h.fits
 rw[h.num,h.den,Zay,Zay]
 exact⟨ZoU h1 Zd,ZoU h2 Zd⟩
theorem IsP.oks {q r:Rat} {s t u v:ByteArray} (h:IsP q s t) (k:IsP r u v):(okP s t && okP u v)=true:=by rw[h.ok,k.ok];rfl
theorem IsP.one {q:Rat} {s t u v:ByteArray} (h:IsP q s t) (k:IsP q u v):s=u/\t=v:=⟨by rw[h.num,k.num],by rw[h.den,k.den]⟩
theorem Zcn {q p:Rat} {x y u v:ByteArray} {n:Int} (h:Ans q u v n) (hx:IsP p x y) (hq:q=p):u=x/\v=y/\n=0:=by
 subst hq
 obtain⟨h1,h2⟩:=h.fit hx.fits
 obtain⟨h3,h4⟩:=h1.one hx
 exact⟨h3,h4,h2⟩
theorem Zit {q r p:Rat} {s t u v x y:ByteArray} (ha:IsP q s t) (hb:IsP r u v) (hx:IsP p x y) (hq:q+r=p) (w:World) (hT:Tabs w) :
  Calls Tryz.prog 42 #[pV s t,pV u v] w (Z1 (.tuple #[pV x y,.int .i64 0]) w):=by
 refine(Zkw s t u v w ha.le.1 ha.le.2 hb.le.1 hb.le.2 hT).mono ?_
 rintro e w' ⟨x',y',n,rfl,h,hbb⟩
 rcases h with ⟨h,_⟩ | ⟨_,h⟩
 ·rw[ha.oks hb] at h;cases h
 ·rw[ha.rat,hb.rat] at h
  obtain⟨rfl,rfl,rfl⟩:=Zcn h hx hq
  exact⟨rfl,hbb⟩
theorem ZdY {q r p:Rat} {s t u v x y:ByteArray} (ha:IsP q s t) (hb:IsP r u v) (hx:IsP p x y) (hq:q*r=p) (w:World) (hT:Tabs w) :
  Calls Tryz.prog 119 #[pV s t,pV u v] w (Z1 (.tuple #[pV x y,.int .i64 0]) w):=by
 refine(Zn4 s t u v w ha.le.1 ha.le.2 hb.le.1 hb.le.2 hT).mono ?_
 rintro e w' ⟨x',y',n,rfl,h,hbb⟩
 rcases h with ⟨h,_⟩ | ⟨_,h⟩
 ·rw[ha.oks hb] at h;cases h
 ·rw[ha.rat,hb.rat] at h
  obtain⟨rfl,rfl,rfl⟩:=Zcn h hx hq
  exact⟨rfl,hbb⟩
theorem ZdR {q r p:Rat} {s t u v x y:ByteArray} (ha:IsP q s t) (hb:IsP r u v) (hx:IsP p x y) (hq:q-r=p) (w:World) (hT:Tabs w) :
  Calls Tryz.prog 104 #[pV s t,pV u v] w (Z1 (.tuple #[pV x y,.int .i64 0]) w):=by
 refine(ZnK s t u v w ha.le.1 ha.le.2 hb.le.1 hb.le.2 hT).mono ?_
 rintro e w' ⟨x',y',n,rfl,h,hbb⟩
 rcases h with ⟨h,_⟩ | ⟨_,h⟩
 ·rw[ha.oks hb] at h;cases h
 ·rw[ha.rat,hb.rat] at h
  rcases h with ⟨h,_⟩ | ⟨_,h⟩
  ·have:=hx.nn;grind
  ·obtain⟨rfl,rfl,rfl⟩:=Zcn h hx hq
   exact⟨rfl,hbb⟩
theorem Zjn {q r p:Rat} {s t u v x y:ByteArray} (ha:IsP q s t) (hb:IsP r u v) (hx:IsP p x y) (h0:0<r) (hq:q/r=p) (w:World) (hT:Tabs w) :
  Calls Tryz.prog 169 #[pV s t,pV u v] w (Z1 (.tuple #[pV x y,.int .i64 0]) w):=by
 refine(ZnS s t u v w ha.le.1 ha.le.2 hb.le.1 hb.le.2 hT).mono ?_
 rintro e w' ⟨x',y',n,rfl,h,hbb⟩
 rcases h with ⟨h,_⟩ | ⟨_,h⟩
 ·rw[ha.oks hb] at h;cases h
 ·rw[ha.rat,hb.rat] at h
  rcases h with ⟨h,_⟩ | ⟨_,h⟩
  ·grind
  ·obtain⟨rfl,rfl,rfl⟩:=Zcn h hx hq
   exact⟨rfl,hbb⟩
theorem ZbC {q r:Rat} {n:Int} {s t u v:ByteArray} (ha:IsP q s t) (hb:IsP r u v) (hn:sgnR q r=n) (w:World) :
  Calls Tryz.prog 22 #[pV s t,pV u v] w (Z1 (.int .i64 n) w):=by
 refine(ZjC s t u v w ha.le.1 ha.le.2 hb.le.1 hb.le.2).mono ?_
 rintro e w' ⟨m,rfl,h,hbb⟩
 rcases h with ⟨h,_⟩ | ⟨_,h⟩
 ·rw[ha.oks hb] at h;cases h
 ·rw[ha.rat,hb.rat,hn] at h
  subst h
  exact⟨rfl,hbb⟩
theorem ZmV {q:Rat} {s t:ByteArray} (h:IsP q s t) (h0:s=⟨#[48]⟩):q=0:=by
 have h1:=h.vals.1
 rw[h0] at h1
 have h2:Zq (⟨#[48]⟩:ByteArray).data.toList=0:=Zd
 rw[h2] at h1
 have h3:=Zab h.nn
 rw[<- h1] at h3
 exact Rat.num_eq_zero.1 h3.symm
structure DetV (w:World):Prop where
 z0:w.cell? ⟨1,0,none⟩=some (.string ⟨#[48]⟩)
 z1:w.cell? ⟨1,1,none⟩=some (.string ⟨#[49]⟩)
 o0:w.cell? ⟨2,0,none⟩=some (.string ⟨#[49]⟩)
 o1:w.cell? ⟨2,1,none⟩=some (.string ⟨#[49]⟩)
theorem DetV.below {w w':World} {B:Nat} (h:DetV w) (hb:Below B w w') (hB:w.heap.size<=B):DetV w':=
 ⟨(hb.cell (ZoS (Zo5 _ _ h.z0) hB)).trans h.z0,(hb.cell (ZoS (Zo5 _ _ h.z1) hB)).trans h.z1,
  (hb.cell (ZoS (Zo5 _ _ h.o0) hB)).trans h.o0,(hb.cell (ZoS (Zo5 _ _ h.o1) hB)).trans h.o1⟩
theorem ZbJ (n low high:Int) (w:World):Calls Tryz.prog 128 #[.int .i64 n,.int .i64 low,.int .i64 high] w (Z5 w (decide (low<=n) && decide (n<=high))):=by
 by_cases h1:low<=n
 ·by_cases h2:n<=high
  ·go_enter Tryz.func128,Tryz.ntmps128
   go_wp2
   go_ret
   exact⟨by simp[h1,h2],ZoL _ _⟩
  ·go_enter Tryz.func128,Tryz.ntmps128
   go_wp2
   go_ret
   exact⟨by simp[h1,h2],ZoL _ _⟩
 ·go_enter Tryz.func128,Tryz.ntmps128
  go_wp2
  go_ret
  exact⟨by rw[decide_eq_false (show ¬ low<=n by omega)];rfl,ZoL _ _⟩
def Zip (n:Int):Ending:=.panicked [{ v:=.iface 258 (.agg #[.int .i64 n]),recovered:=false }]
def Zoq (s t:ByteArray) (n:Int) (w:World) (e:Ending) (w':World):Prop:=
 ((n=0/\e=.returned (Zpw s t))\/(n≠0/\e=Zip n))/\Below w.heap.size w w'
theorem Zml (s t:ByteArray) (n:Int) (w:World):Calls Tryz.prog 180 #[Zpw s t,.int .i64 n] w (Zoq s t n w):=by
 by_cases hn:n=0
 ·have h0:(n !=0)=false:=by rw[bne_eq_false_iff_eq];exact hn
  have H0:=Zpz hn
  clear hn
  go_enter Tryz.func180,Tryz.ntmps180
  go_wp2
  refine ZoM (v:=Zpw s t) (by simp[results,Tryz.f180,go_sem]) rfl ⟨.inl ⟨H0.out,rfl⟩,((ZoL _ w).alloc ZpA _).alloc Zc _⟩
 ·have h0:(n !=0)=true:=by rw[bne_iff_ne];exact hn
  have H0:=Zpz hn
  clear hn
  go_enter Tryz.func180,Tryz.ntmps180
  go_wp2
  refine⟨rfl,.inr ⟨H0.out,rfl⟩,((ZoL _ w).alloc ZpA _).alloc Zc _⟩
theorem ZbM (s t:ByteArray) (w:World):Calls Tryz.prog 180 #[pV s t,.int .i64 0] w (Z1 (pV s t) w):=
 (Zml s t 0 w).mono fun e w' ⟨h,hb⟩=>by
  rcases h with ⟨_,rfl⟩ | ⟨h,_⟩
  ·exact⟨rfl,hb⟩
  ·exact Zpp rfl h
def Zkd (w:World) (n:Nat) (f:Nat->Bool) (e:Ending) (w':World):Prop:=
 ∃ i:Int,e=.returned (.int .i64 i)/\((0<=i/\∃ k,k<n/\f k=true)\/(i = -1/\∀ k,k<n->f k=false))/\Below w.heap.size w w'
def Zes (w:World) (n:Nat) (f:Nat->Bool) (e:Ending) (w':World):Prop:=
 ∃ b:Bool,e=.returned (.bool b)/\((b=true/\∃ k,k<n/\f k=true)\/(b=false/\∀ k,k<n->f k=false))/\Below w.heap.size w w'
theorem Zlw {g:Nat} {caps:Array Value} (hent:∀ args w,(callFunc g args).run Tryz.prog w=.ok (.enter g args) w) {f:Nat->Bool} {v:Value} {bs:List BB} {n:Nat} {w:World} (hv:BL w v bs) (hn:bs.length=n)
  (hf:∀ k,k<n->∀ W,Below w.heap.size w W->Calls Tryz.prog g (#[bV (bAt bs k)]++caps) W (Z5 W (f k))) :
  Calls Tryz.prog 177 #[v,.func (.func g) #[] caps] w (Zkd w n f):=by
 obtain⟨p,c,rfl⟩:∃ p c,v=.slice p n c:=by obtain⟨p,c,h,_⟩:=id hv;exact⟨_,_,by rw[<- hn];exact h⟩
 obtain⟨_,hc,hnc⟩:=hv.len
 have HV:=Zpz hv
 have HN:=Zpz hn
 have HF:=Zpz hf
 clear hv hn hf
 go_enter Tryz.func177,Tryz.ntmps177
 go_wp2
 go_loopw [8] (fun i wr=>∃ (k:Nat),i=.int .i64 k/\k<=n/\Hid (∀ j,j<k->f j=false)/\Zpt w wr) (fun i _=>n-(intOf i).toNat)
 case atStart=>exact⟨0,rfl,ZoY _,fun j h=>Za,ZoL _ _⟩
 case round=>
  obtain⟨k,rfl,hk,HK,HB⟩:=hrel
  by_cases hlt:k<n
  ·obtain⟨b,o,rfl,_,hat⟩:=HV.out.at HN.out Za
   obtain⟨e0,e1,e2,e3⟩:=hat wr HB.out k hlt
   have hF:∀ W,Below w.heap.size w W->Calls Tryz.prog g (#[.agg #[.string (bAt bs k).1.1,.string (bAt bs k).1.2,.string (bAt bs k).2.1,.string (bAt bs k).2.2]]++caps) W (Z5 W (f k)):=HF.out k hlt
   obtain⟨s,hs⟩:=ZpB ((bAt bs k).1.1)
   obtain⟨t,ht⟩:=ZpB ((bAt bs k).1.2)
   obtain⟨x,hx⟩:=ZpB ((bAt bs k).2.1)
   obtain⟨y,hy⟩:=ZpB ((bAt bs k).2.2)
   rw[hs] at e0
   rw[ht] at e1
   rw[hx] at e2
   rw[hy] at e3
   rw[hs,ht,hx,hy] at hF
   have HG:=Zpz hF
   clear hF hat hs ht hx hy
   obtain⟨r,hr⟩:=ZpB (f k)
   have HR:=Zpz hr
   clear hr
   go_wp2_with fail
   refine(HG.out _ HB.out).mono ?_
   rintro e w2 ⟨rfl,hb⟩
   rw[HR.out]
   have HB2:=Zpz (HB.out.trans (hb.mono HB.out.size))
   clear hb e0 e1 e2 e3
   cases r
   ·have HK2:Hid (∀ j,j<k+1->f j=false):=fun j h=>by
     rcases ZoR j k with h3 | h3
     ·exact HK.out j h3
     ·obtain rfl:j=k:=Za
      exact HR.out
    go_wp2
    go_roundw
    case rel=>exact⟨k+1,by go_num,Za,HK2,HB2⟩
    case measure=>exact Zj
   ·go_wp2
    go_ret
    exact⟨k,rfl,.inl ⟨Za,k,hlt,HR.out⟩,HB2.out⟩
  ·obtain rfl:n=k:=Za
   go_wp2
   go_ret
   exact⟨-1,rfl,.inr ⟨rfl,fun j h=>HK.out j h⟩,HB.out⟩
theorem Zk4 {g:Nat} {caps:Array Value} (hent:∀ args w,(callFunc g args).run Tryz.prog w=.ok (.enter g args) w) {f:Nat->Bool} {v:Value} {ps:List PP} {n:Nat} {w:World} (hv:PL w v ps) (hn:ps.length=n)
  (hf:∀ k (h:k<ps.length),∀ W,Below w.heap.size w W->Calls Tryz.prog g (#[pV ps[k].1 ps[k].2]++caps) W (Z5 W (f k))) :
  Calls Tryz.prog 121 #[v,.func (.func g) #[] caps] w (Zkd w n f):=by
 obtain⟨p,c,rfl,hnc,hc,hp⟩:=hv
 unfold maxLen at hc
 rw[hn] at hnc ⊢
 have HV:=Zpz hp
 have HN:=Zpz hn
 have HF:=Zpz hf
 clear hp hn hf
 go_enter Tryz.func121,Tryz.ntmps121
 go_wp2
 go_loopw [8] (fun i wr=>∃ (k:Nat),i=.int .i64 k/\k<=n/\Hid (∀ j,j<k->f j=false)/\Zpt w wr) (fun i _=>n-(intOf i).toNat)
 case atStart=>exact⟨0,rfl,ZoY _,fun j h=>Za,ZoL _ _⟩
 case round=>
  obtain⟨k,rfl,hk,HK,HB⟩:=hrel
  by_cases hlt:k<n
  ·have hkp:k<ps.length:=by rw[HN.out];exact hlt
   obtain⟨b,o,rfl,hbl,hat⟩:=HV.out (ZoT Za)
   obtain⟨e0,e1⟩:=(hat.below HB.out hbl) k hkp
   have hF:∀ W,Below w.heap.size w W->Calls Tryz.prog g (#[.agg #[.string ps[k].1,.string ps[k].2]]++caps) W (Z5 W (f k)):=HF.out k hkp
   obtain⟨s,hs⟩:=ZpB (ps[k].1)
   obtain⟨t,ht⟩:=ZpB (ps[k].2)
   rw[hs] at e0
   rw[ht] at e1
   rw[hs,ht] at hF
   have HG:=Zpz hF
   clear hF hat hs ht hkp
   obtain⟨r,hr⟩:=ZpB (f k)
   have HR:=Zpz hr
   clear hr
   go_wp2_with fail
   refine(HG.out _ HB.out).mono ?_
   rintro e w2 ⟨rfl,hb⟩
   rw[HR.out]
   have HB2:=Zpz (HB.out.trans (hb.mono HB.out.size))
   clear hb e0 e1
   cases r
   ·have HK2:Hid (∀ j,j<k+1->f j=false):=fun j h=>by
     rcases ZoR j k with h3 | h3
     ·exact HK.out j h3
     ·obtain rfl:j=k:=Za
      exact HR.out
    go_wp2
    go_roundw
    case rel=>exact⟨k+1,by go_num,Za,HK2,HB2⟩
    case measure=>exact Zj
   ·go_wp2
    go_ret
    exact⟨k,rfl,.inl ⟨Za,k,hlt,HR.out⟩,HB2.out⟩
  ·obtain rfl:n=k:=Za
   go_wp2
   go_ret
   exact⟨-1,rfl,.inr ⟨rfl,fun j h=>HK.out j h⟩,HB.out⟩
theorem Zh4 {g:Nat} {caps:Array Value} (hent:∀ args w,(callFunc g args).run Tryz.prog w=.ok (.enter g args) w) {f:Nat->Bool} {v:Value} {bs:List BB} {n:Nat} {w:World} (hv:BL w v bs) (hn:bs.length=n) (hf:∀ k,k<n->∀ W,Below w.heap.size w W->Calls Tryz.prog g (#[bV (bAt bs k)]++caps) W (Z5 W (f k))):Calls Tryz.prog 129 #[v,.func (.func g) #[] caps] w (Zes w n f):=by
 have HI:=Zpz (Zlw hent hv hn hf)
 go_enter Tryz.func129,Tryz.ntmps129
 go_wp2_with fail
 refine HI.out.mono ?_
 rintro e w2 ⟨i,rfl,hE,hb⟩
 have HB:=Zpz hb
 rcases hE with ⟨h0,h⟩ | ⟨rfl,h⟩
 ·have HE:=Zpz h
  have h0d:decide (0<=i)=true:=decide_eq_true h0
  clear h hb
  go_wp2
  go_ret
  exact⟨true,Zc,.inl ⟨rfl,HE.out⟩,HB.out⟩
 ·have HE:=Zpz h
  clear h hb
  go_wp2
  go_ret
  exact⟨false,Zc,.inr ⟨rfl,HE.out⟩,HB.out⟩
theorem Zdo {g:Nat} {caps:Array Value} (hent:∀ args w,(callFunc g args).run Tryz.prog w=.ok (.enter g args) w) {f:Nat->Bool} {v:Value} {ps:List PP} {n:Nat} {w:World} (hv:PL w v ps) (hn:ps.length=n) (hf:∀ k (h:k<ps.length),∀ W,Below w.heap.size w W->Calls Tryz.prog g (#[pV ps[k].1 ps[k].2]++caps) W (Z5 W (f k))):Calls Tryz.prog 61 #[v,.func (.func g) #[] caps] w (Zes w n f):=by
 have HI:=Zpz (Zk4 hent hv hn hf)
 go_enter Tryz.func61,Tryz.ntmps61
 go_wp2_with fail
 refine HI.out.mono ?_
 rintro e w2 ⟨i,rfl,hE,hb⟩
 have HB:=Zpz hb
 rcases hE with ⟨h0,h⟩ | ⟨rfl,h⟩
 ·have HE:=Zpz h
  have h0d:decide (0<=i)=true:=decide_eq_true h0
  clear h hb
  go_wp2
  go_ret
  exact⟨true,Zc,.inl ⟨rfl,HE.out⟩,HB.out⟩
 ·have HE:=Zpz h
  clear h hb
  go_wp2
  go_ret
  exact⟨false,Zc,.inr ⟨rfl,HE.out⟩,HB.out⟩
theorem Zju (k B:Nat) (s t:ByteArray) (hs:s.size<=1000000) (ht:t.size<=1000000) (w:World) (hB:w.cell? ⟨B,0,none⟩=some (.int .i64 k)) :
  Calls Tryz.prog 178 #[pV s t,.pointer (some ⟨B,0,none⟩)] w (Z5 w (!Zw k (s,t))):=by
 have HAL:=Zpz ((ZoL w.heap.size w).alloc ZpA (pObj s t))
 have hBl:=Zo5 _ _ hB
 have hBc:(w.alloc (pObj s t)).cell? ⟨B,0,none⟩=some (.int .i64 k):=(Zai _ _ _ hBl).trans hB
 by_cases h1:(k:Int)<s.size
 ·have HR:Hid (Zw k (s,t)=false):=by
   show _=_
   unfold Zw
   rw[decide_eq_false (p:=(s,t).1.size<=k) (by show ¬ s.size<=k;omega)]
   simp
  go_enter Tryz.func178,Tryz.ntmps178
  go_wp2
  go_ret
  exact⟨by rw[HR.out];rfl,HAL.out⟩
 ·by_cases h2:(k:Int)<t.size
  ·have HR:Hid (Zw k (s,t)=false):=by
    show _=_
    unfold Zw
    rw[decide_eq_false (p:=(s,t).2.size<=k) (by show ¬ t.size<=k;omega)]
    simp
   go_enter Tryz.func178,Tryz.ntmps178
   go_wp2
   go_ret
   exact⟨by rw[HR.out];rfl,HAL.out⟩
  ·cases h3:okP s t
   ·have HR:Hid (Zw k (s,t)=false):=by unfold Zw;show _=_;simp[h3]
    have HE:=Zpz (ZaM h3)
    clear h3
    go_enter Tryz.func178,Tryz.ntmps178
    go_wp2_with fail
    refine(ZaU s t _ hs ht).mono ?_
    rintro e w2 ⟨rfl,hb⟩
    rw[HE.out]
    have HB2:=Zpz (HAL.out.trans (hb.mono HAL.out.size))
    clear hb
    go_wp2
    go_ret
    exact⟨by rw[HR.out];rfl,HB2.out⟩
   ·have HR:Hid (Zw k (s,t)=true):=by unfold Zw;show _=_;simp[h3];omega
    have HE:=Zpz (Zbj h3)
    clear h3
    go_enter Tryz.func178,Tryz.ntmps178
    go_wp2_with fail
    refine(ZaU s t _ hs ht).mono ?_
    rintro e w2 ⟨rfl,hb⟩
    rw[HE.out]
    have HB2:=Zpz (HAL.out.trans (hb.mono HAL.out.size))
    clear hb
    go_wp2
    go_ret
    exact⟨by rw[HR.out];rfl,HB2.out⟩
def LimP (ps:List PP):Prop:=∀ p ∈ ps,p.1.size<=1000000/\p.2.size<=1000000
theorem Zg0 (k:Nat) (hk:k<=1000) {v:Value} {ps:List PP} {w:World} (hv:PL w v ps) (hz:LimP ps) :
  Calls Tryz.prog 131 #[.int .i64 k,v] w (Z5 w (ps.all (Zw k))):=by
 obtain⟨n,hn⟩:=ZpB ps.length
 obtain⟨p,c,rfl⟩:∃ p c,v=.slice p n c:=by obtain⟨p,c,h,_⟩:=id hv;exact⟨_,_,by rw[<- hn];exact h⟩
 have hal:=(ZoL w.heap.size w).alloc ZpA (.cells #[.int .i64 k] 3)
 have HAL:=Zpz hal
 have HC:Hid (Calls Tryz.prog 61 #[.slice p n c,.func (.func 178) #[] #[.pointer (some ⟨w.heap.size,0,none⟩)]] (w.alloc (.cells #[.int .i64 k] 3))
   (Zes (w.alloc (.cells #[.int .i64 k] 3)) n (fun j=>!Zw k (ps.getD j (Zpv,Zpv))))):=by
  refine Zdo (enters_of Tryz.func178 Zb rfl) (hv.after hal ZpA) hn fun j hj W hW=>?_
  obtain⟨z1,z2⟩:=hz _ (Zpc hj)
  have e:ps.getD j (Zpv,Zpv)=ps[j]:=by simp[List.getD,hj]
  rw[e]
  exact Zju k w.heap.size ps[j].1 ps[j].2 z1 z2 W ((hW.cell Zc).trans (ZK _ _ _ _ rfl))
 have HR:Hid ((∃ j,j<n/\(!Zw k (ps.getD j (Zpv,Zpv)))=true)->ps.all (Zw k)=false):=by
  rintro⟨j,hj,h⟩
  have hj2:j<ps.length:=by rw[hn];exact hj
  have e:ps.getD j (Zpv,Zpv)=ps[j]:=by simp[List.getD,hj2]
  rw[e] at h
  rw[<- Bool.not_eq_true,Zpo]
  intro hall
  rw[hall _ (Zpc hj2)] at h
  cases h
 have HR2:Hid ((∀ j,j<n->(!Zw k (ps.getD j (Zpv,Zpv)))=false)->ps.all (Zw k)=true):=by
  intro h
  rw[Zpo]
  intro q hq
  obtain⟨j,hj,rfl⟩:=List.getElem_of_mem hq
  have:=h j (by rw[<- hn];exact hj)
  have e:ps.getD j (Zpv,Zpv)=ps[j]:=by simp[List.getD,hj]
  rw[e] at this
  simpa using this
 clear hal hv hz hn
 go_enter Tryz.func131,Tryz.ntmps131
 go_wp2_with fail
 refine HC.out.mono ?_
 rintro e w2 ⟨b,rfl,h,hb⟩
 have HB2:=Zpz (HAL.out.trans (hb.mono HAL.out.size))
 have HE:=Zpz h
 clear h hb HC HAL
 go_wp2
 go_ret
 refine⟨?_,HB2.out⟩
 rcases HE.out with ⟨rfl,h⟩ | ⟨rfl,h⟩
 ·rw[HR.out h];rfl
 ·rw[HR2.out h];rfl
theorem Zgr (s t u v:ByteArray) (hs:s.size<=1000000) (ht:t.size<=1000000) (hu:u.size<=1000000) (hv:v.size<=1000000) (w:World) :
  Calls Tryz.prog 130 #[.agg #[.string s,.string t,.string u,.string v]] w (Z5 w (!(Zw 18 (s,t) && Zw 18 (u,v)))):=by
 obtain⟨w1,hw1⟩:=ZpB (w.alloc (bO s t u v))
 have hb1:Below w.heap.size w w1:=by rw[<- hw1];exact(ZoL w.heap.size w).alloc ZpA _
 have hal:=(ZoL w1.heap.size w1).alloc ZpA (.cells #[.string s,.string t,.string u,.string v] 41)
 have HAL:=Zpz (hb1.trans (hal.mono hb1.size))
 have hc:=Zg0 18 Zd (Zoi w1 s t u v) (by
  intro p hp
  simp only[List.mem_cons,List.not_mem_nil,or_false] at hp
  rcases hp with rfl | rfl
  ·exact⟨hs,ht⟩
  ·exact⟨hu,hv⟩)
 rw[<- hw1,Zpa] at hc
 rw[<- hw1] at HAL
 have HC:Hid (Calls Tryz.prog 131 #[.int .i64 18,.slice (some ⟨w.heap.size+1,0,none⟩) 2 2] ((w.alloc (bO s t u v)).alloc (.cells #[.string s,.string t,.string u,.string v] 41))
  (Z5 ((w.alloc (bO s t u v)).alloc (.cells #[.string s,.string t,.string u,.string v] 41)) ([(s,t),(u,v)].all (Zw 18)))):=hc
 clear hal hb1 hw1 hs ht hu hv hc
 go_enter Tryz.func130,Tryz.ntmps130
 go_wp2_with fail
 refine HC.out.mono ?_
 rintro e w2 ⟨rfl,hb⟩
 have HB2:=Zpz (HAL.out.trans (hb.mono HAL.out.size))
 clear hb HC HAL
 go_wp2
 go_ret
 exact⟨Zc,HB2.out⟩
section
variable {P:Program} {ops:Array Oper} {Q:Exit->Act->World->Prop} {md:Region.Mode} {S:World->Prop} {bar:Nat->Bool}
def Zbd (P:Program) (ops:Array Oper) (Q:Exit->Act->World->Prop) (S:World->Prop) (bar:Nat->Bool):List (Bool×Nat)->Act->World->Prop
 | [],a,w=>Q .normal a w
 | (true,i)::ks,a,w=>∃ o v,ops[i]?=some o/\YieldsIf P ops S o v a/\Zbd P ops Q S bar ks (a.put o.dst v) w
 | (false,i)::ks,a,w=>∃ o,ops[i]?=some o/\(if Region.wanted o (yielded ops a.tmps) then o.wp P a w (fun a' w'=>(bar i=true\/S w')/\Zbd P ops Q S bar ks a' w') Q
   else (bar i=true\/S w)/\Zbd P ops Q S bar ks (a.put o.dst undef) w)
def Zeq (md:Region.Mode) (ops:Array Oper) (bar:Nat->Bool):List (Bool×Nat)->Array Bool->Bool
 | [],listed=>decide (Region.ready md ops listed=[])
 | (true,k)::ks,listed=>(Region.ready md ops listed).contains k && Region.free md ops listed k && !bar k && ((List.range ops.size).all fun j=>!bar j || decide (j=k) || Region.waitsFor md ops j k) && Zeq md ops bar ks (listed.setIfInBounds k true)
 | (false,k)::ks,listed=>decide (Region.ready md ops listed=[k]) && (!bar k || ks.all fun b=>!b.1) && Zeq md ops bar ks (listed.setIfInBounds k true)
theorem ZdF (hsel:Region.noSelect ops=true) (hQ:∀ c a o v w,Q (.panic c) (a.put o v) w->Q (.panic c) a w) (hbo:∀ j,ops.size<=j->bar j=false) :
  ∀ (ks:List (Bool×Nat)) (listed:Array Bool) (a:Act) (w:World),Zeq md ops bar ks listed=true->
   (S w\/ks.all (fun b=>!b.1)=true)->Zbd P ops Q S bar ks a w->wpJ P md ops Q S bar ks.length listed a w
 | [],listed,a,w,hB,_,h=>⟨of_decide_eq_true hB,h⟩
 | (true,k)::ks,listed,a,w,hB,hS,h=>by
  simp only[Zeq,Zpj] at hB
  obtain⟨⟨⟨⟨hr,hf⟩,hbk⟩,hw⟩,hB'⟩:=hB
  have hSw:S w:=by
   rcases hS with hS | hS
   ·exact hS
   ·simp at hS
  obtain⟨o,v,h0,hy,hrest⟩:=h
  have hbk':bar k=false:=by simpa using hbk
  have hwait:Zid md ops bar k:=fun j hj hne=>by
   have hjl:j<ops.size:=by
    rcases ZoR j ops.size with h' | h'
    ·exact h'
    ·rw[hbo j h'] at hj;cases hj
   rw[Zpo] at hw
   have:=hw j (List.mem_range.2 hjl)
   rw[hj] at this
   simpa[hne] using this
  have ih:=ZdF hsel hQ hbo ks (listed.setIfInBounds k true) (a.put o.dst v) w hB' (.inl hSw) hrest
  rw[Zpl]
  exact Zfy h0 hsel (fun c a w=>hQ c a o.dst v w) hwait hbk' ks.length listed a w (Region.free_spec h0 hf) (by simpa using hr) hy hSw ih
 | (false,k)::ks,listed,a,w,hB,hS,h=>by
  simp only[Zeq,Zpj,Zpk] at hB
  obtain⟨⟨hr,hbk⟩,hB'⟩:=hB
  obtain⟨o,h0,h⟩:=h
  refine⟨fun h1=>(by rw[hr] at h1;cases h1),fun i hi=>?_⟩
  rw[hr] at hi
  obtain rfl:i=k:=by simpa using hi
  have ih:=fun a' w' (hs:bar i=true\/S w') h'=>ZdF hsel hQ hbo ks (listed.setIfInBounds i true) a' w' hB' (by
   rcases hs with hs | hs
   ·rw[hs] at hbk
    exact .inr (by simpa using hbk)
   ·exact .inl hs) h'
  unfold wpOp
  simp only[h0]
  split at h
  ·rename_i hw;simp only[hw,if_true];exact .inl (Oper.wp_mono (fun a' w' h'=>⟨h'.1,ih a' w' h'.1 h'.2⟩) h)
  ·rename_i hw;simp only[hw];exact⟨h.1,ih _ _ h.1 h.2⟩
def Zei (l:List Oper) (ks:List (Bool×Nat)) (bar:Nat->Bool):Bool:=
 Region.noSelect l.toArray && decide (ks.length=l.length) && Zeq .any l.toArray bar ks (Array.replicate l.toArray.size false) && ZcE l.toArray
theorem Zfl {l:List Oper} (ks:List (Bool×Nat)) (S:World->Prop) (bar:Nat->Bool) (hB:Zei l ks bar=true) (hbo:∀ j,l.length<=j->bar j=false) (hQ:∀ c a o v w,Q (.panic c) (a.put o v) w->Q (.panic c) a w) {a:Act} {w:World} (hS:S w)
  (H:Zbd P l.toArray Q S bar ks a w):wpAny P .any l.toArray Q l.toArray.size (Array.replicate l.toArray.size false) a w:=by
 simp only[Zei,Zpj,Zpk] at hB
 obtain⟨⟨⟨hsel,hn⟩,hm⟩,_⟩:=hB
 have:=ZbP _ _ _ _ (ZdF hsel hQ (fun j hj=>hbo j (by simpa using hj)) ks _ a w hm (.inl hS) H)
 rw[hn] at this
 simpa using this
theorem Zag {id:Nat} {a:Act} {w:World} {l:List Oper} (ks:List (Bool×Nat)) (S:World->Prop) (bar:Nat->Bool) (hm:P.follows .mixedOrders=true)
  (hB:Zei l ks bar=true) (hbo:∀ j,l.length<=j->bar j=false) (hQ:∀ c a o v w,Q (.panic c) (a.put o v) w->Q (.panic c) a w) (hS:S w.drew)
  (H:Zbd P l.toArray Q S bar ks a w.drew):(Code.region id l.toArray true).wp P Q a w:=
 wp_region_any hm (Zfl ks S bar hB hbo hQ hS H)
theorem Zr {i:Nat} {o:Oper} {ks:List (Bool×Nat)} {a:Act} {w:World} (v:Value) (ho:ops[i]?=some o) (hw:Region.wanted o (yielded ops a.tmps)=true) (hv:∀ w,S w->(execOp a.eval o).run P w=.ok (.value v) w)
  (h:Zbd P ops Q S bar ks (a.put o.dst v) w):Zbd P ops Q S bar ((true,i)::ks) a w:=⟨o,v,ho,.inl ⟨hw,hv⟩,h⟩
theorem Zt {i:Nat} {o:Oper} {ks:List (Bool×Nat)} {a:Act} {w:World} (ho:ops[i]?=some o) (hw:Region.wanted o (yielded ops a.tmps)=true)
  (h:∀ K:Act->World->Prop,(∀ a' w',(bar i=true\/S w')->Zbd P ops Q S bar ks a' w'->K a' w')->o.wp P a w K Q):Zbd P ops Q S bar ((false,i)::ks) a w:=by
 refine⟨o,ho,?_⟩
 rw[if_pos hw]
 exact h _ fun _ _ h1 h2=>⟨h1,h2⟩
theorem ZI {a:Act} {w:World} (h:Q .normal a w):Zbd P ops Q S bar [] a w:=h
end
end Go.Proofs.YtmpaflidennnoaaGreatDoor
