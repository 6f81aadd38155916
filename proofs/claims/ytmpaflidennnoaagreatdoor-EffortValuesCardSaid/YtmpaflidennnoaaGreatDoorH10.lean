/- The parts Must, List, Share, Bends, EffL, Missed, Upto, Chances, MissL, EffM. -/
import Derived.Test.YtmpaflidennnoaaGreatDoorH09
import Derived.Recover
set_option linter.unusedVariables false
set_option linter.unusedSimpArgs false
namespace Go.Proofs.YtmpaflidennnoaaGreatDoor
open Go.RowKit Go.Shelf
theorem Bi.both {s t u v x y:ByteArray} {e:Int} {R:ByteArray->ByteArray->Int->Prop} (h:Bi s t u v R x y e) (h1:okP s t=true) (h2:okP u v=true):R x y e:=by
 rcases h with ⟨h,_⟩ | ⟨_,h⟩
 ·rw[h1,h2] at h;cases h
 ·exact h
theorem IsP.small {q:Rat} {s t:ByteArray} (h:IsP q s t):s.size<=600/\t.size<=600:=by
 rw[h.num,h.den,Zaz,Zaz];exact h.fits
theorem IsP.limit {q:Rat} {s t:ByteArray} (h:IsP q s t):s.size<=1000000/\t.size<=1000000:=by
 have:=h.small;omega
abbrev PP:=ByteArray×ByteArray
def PAt (w:World) (b off:Nat) (ps:List PP):Prop:=
 ∀ j (h:j<ps.length),w.cell? ⟨b,off+j*2,none⟩=some (.string ps[j].1)/\w.cell? ⟨b,off+j*2+1,none⟩=some (.string ps[j].2)
def PL (w:World) (v:Value) (ps:List PP):Prop:=
 ∃ p cap,v=.slice p ps.length cap/\ps.length<=cap/\cap<=maxLen/\(ps≠[]->∃ b off,p=some ⟨b,off,none⟩/\b<w.heap.size/\PAt w b off ps)
theorem PAt.below {B:Nat} {w w':World} {b off:Nat} {ps:List PP} (h:PAt w b off ps) (hb:Below B w w') (hB:b<B):PAt w' b off ps:=
 fun j hj=>⟨(hb.cell (p:=⟨b,off+j*2,none⟩) hB).trans (h j hj).1,(hb.cell (p:=⟨b,off+j*2+1,none⟩) hB).trans (h j hj).2⟩
theorem PL.after {B:Nat} {w w':World} {v:Value} {ps:List PP} (h:PL w v ps) (hb:Below B w w') (hB:w.heap.size<=B):PL w' v ps:=by
 obtain⟨p,cap,h1,h2,h3,h4⟩:=h
 refine⟨p,cap,h1,h2,h3,fun hne=>?_⟩
 obtain⟨b,off,h5,h6,h7⟩:=h4 hne
 exact⟨b,off,h5,Zox h6 hb.size,h7.below hb Za⟩
theorem PL.nil (w:World):PL w (.slice none 0 0) []:=⟨none,0,rfl,Nat.le_refl _,by simp[maxLen],Zc⟩
instance fitsDec (q:Rat):Decidable (Fits q):=inferInstanceAs (Decidable (_/\_))
def Za6:List PP->List Value
 | []=>[]
 | p::ps=>.string p.1::.string p.2::Za6 ps
theorem ZeP (ps qs:List PP):Za6 (ps++qs)=Za6 ps++Za6 qs:=by
 induction ps with
 | nil=>rfl
 | cons p ps ih=>simp[Za6,ih]
theorem ZhK:∀ (ps:List PP) (j:Nat) (h:j<ps.length),(Za6 ps)[j*2]?=some (.string ps[j].1)/\(Za6 ps)[j*2+1]?=some (.string ps[j].2)
 | p::ps,0,_=>⟨rfl,rfl⟩
 | p::ps,j+1,h=>by
  have:=ZhK ps j (by simpa using h)
  simp only[Za6,List.getElem_cons_succ]
  rw[show (j+1)*2=j*2+1+1 by omega]
  exact this
def Own (w:World) (base:Nat) (v:Value) (ps:List PP):Prop:=w.ownsRow base 41 2 v ps.length (Za6 ps)
theorem Own.nil (w:World) (base:Nat):Own w base (.slice none 0 0) []:=World.ownsRow_nil w base _ 2
theorem Own.pl {w:World} {base:Nat} {v:Value} {ps:List PP} (h:Own w base v ps):PL w v ps:=by
 have h0:=h
 rcases h.2 with ⟨rfl,h1⟩ | ⟨g,cap,cur,rfl,hb,hg,hle,hcap,hr⟩
 ·obtain rfl:ps=[]:=ZoC h1
  exact PL.nil w
 ·refine⟨_,cap,rfl,hle,hcap,fun _=>⟨g,0,rfl,(Zo9 hg),fun j hj=>?_⟩⟩
  have h2:=ZhK ps j hj
  have e1:=World.ownsRow.cellAt h0 (j*2) Za
  have e2:=World.ownsRow.cellAt h0 (j*2+1) Za
  rw[Nat.zero_add]
  rw[e1,e2]
  constructor
  ·rw[<- h2.1]
  ·rw[<- h2.2]
theorem Own.kept {w w':World} {base:Nat} {v:Value} {ps:List PP} (h:Own w base v ps) (hk:∀ g,base<=g->v.ownBlock=some g->w'.heap[g]?=w.heap[g]?):Own w' base v ps:=by
 obtain⟨h1,h2⟩:=h
 refine⟨h1,?_⟩
 rcases h2 with h2 | ⟨g,cap,cur,rfl,hb,hg,hr⟩
 ·exact .inl h2
 ·exact .inr ⟨g,cap,cur,rfl,hb,by rw[hk g hb rfl];exact hg,hr⟩
theorem Own.after {w w':World} {base:Nat} {v:Value} {ps:List PP} (h:Own w base v ps) (hb:Below w.heap.size w w'):Own w' base v ps:=by
 refine h.kept fun g _ hg=>hb.block g ?_
 rcases h.2 with ⟨rfl,_⟩ | ⟨g',cap,cur,rfl,_,hg',_⟩
 ·cases hg
 ·have:=Zou hg
  subst this
  exact(Zo9 hg')
abbrev BB:=PP×PP
def BAt (w:World) (b off:Nat) (bs:List BB):Prop:=
 ∀ j (h:j<bs.length),w.cell? ⟨b,off+j*4,none⟩=some (.string bs[j].1.1)/\w.cell? ⟨b,off+j*4+1,none⟩=some (.string bs[j].1.2)/\w.cell? ⟨b,off+j*4+2,none⟩=some (.string bs[j].2.1)/\w.cell? ⟨b,off+j*4+3,none⟩=some (.string bs[j].2.2)
def BL (w:World) (v:Value) (bs:List BB):Prop:=
 ∃ p cap,v=.slice p bs.length cap/\bs.length<=cap/\cap<=maxLen/\(bs≠[]->∃ b off,p=some ⟨b,off,none⟩/\b<w.heap.size/\BAt w b off bs)
theorem BAt.below {B:Nat} {w w':World} {b off:Nat} {bs:List BB} (h:BAt w b off bs) (hb:Below B w w') (hB:b<B):BAt w' b off bs:=
 fun j hj=>⟨(hb.cell (p:=⟨b,off+j*4,none⟩) hB).trans (h j hj).1,(hb.cell (p:=⟨b,off+j*4+1,none⟩) hB).trans (h j hj).2.1,
  (hb.cell (p:=⟨b,off+j*4+2,none⟩) hB).trans (h j hj).2.2.1,(hb.cell (p:=⟨b,off+j*4+3,none⟩) hB).trans (h j hj).2.2.2⟩
theorem BL.after {B:Nat} {w w':World} {v:Value} {bs:List BB} (h:BL w v bs) (hb:Below B w w') (hB:w.heap.size<=B):BL w' v bs:=by
 obtain⟨p,cap,h1,h2,h3,h4⟩:=h
 refine⟨p,cap,h1,h2,h3,fun hne=>?_⟩
 obtain⟨b,off,h5,h6,h7⟩:=h4 hne
 exact⟨b,off,h5,Zox h6 hb.size,h7.below hb Za⟩
theorem BL.nil (w:World):BL w (.slice none 0 0) []:=⟨none,0,rfl,Nat.le_refl _,by simp[maxLen],Zc⟩
theorem BL.len {w:World} {p:Option Addr} {n c:Nat} {bs:List BB} (h:BL w (.slice p n c) bs):bs.length=n/\c<=9223372036854775807/\n<=c:=by
 obtain⟨p',c',hv,h1,h2,_⟩:=h
 injection hv with e1 e2 e3
 subst e1 e3
 unfold maxLen at h2
 omega
def nob:BB:=((Zpa,Zpa),(Zpa,Zpa))
def bAt (bs:List BB) (i:Nat):BB:=bs.getD i nob
theorem Zdz {bs:List BB} {i:Nat} (h:i<bs.length):bAt bs i=bs[i]:=by simp[bAt,List.getD,h]
theorem ZjW {bs:List BB} {i:Nat} (h:i<bs.length):bAt bs i ∈ bs:=by rw[Zdz h];exact ZoR h
theorem BL.at {w:World} {p:Option Addr} {n cap:Nat} {bs:List BB} (h:BL w (.slice p n cap) bs) (hn:bs.length=n) (h0:0<n) :
  ∃ b off,p=some ⟨b,off,none⟩/\b<w.heap.size/\∀ W,Below w.heap.size w W->∀ k,k<n->
   W.cell? ⟨b,off+k*4,none⟩=some (.string (bAt bs k).1.1)/\W.cell? ⟨b,off+k*4+1,none⟩=some (.string (bAt bs k).1.2)/\W.cell? ⟨b,off+k*4+2,none⟩=some (.string (bAt bs k).2.1)/\W.cell? ⟨b,off+k*4+3,none⟩=some (.string (bAt bs k).2.2):=by
 obtain⟨p',c',hv,_,_,h4⟩:=h
 injection hv with e1 e2 e3
 subst e1
 obtain⟨b,off,rfl,hb,hat⟩:=h4 (Zoy Za)
 refine⟨b,off,rfl,hb,fun W hW k hk=>?_⟩
 rw[Zdz Za]
 exact(hat.below hW hb) k Za
abbrev bV (b:BB):Value:=.agg #[.string b.1.1,.string b.1.2,.string b.2.1,.string b.2.2]
abbrev bObj (b:BB):Obj:=.cells #[.string b.1.1,.string b.1.2,.string b.2.1,.string b.2.2] 138
abbrev bO (s t u v:ByteArray):Obj:=.cells #[.string s,.string t,.string u,.string v] 138
def Zw (k:Nat) (p:PP):Bool:=decide (p.1.size<=k) && decide (p.2.size<=k) && okP p.1 p.2
theorem Zai {k:Nat} {p:PP} : Zw k p=true<->p.1.size<=k/\p.2.size<=k/\okP p.1 p.2=true:=by
 unfold Zw
 simp[and_assoc]
def cR (bs:List BB) (i:Nat):Rat:=ratP (bAt bs i).1.1 (bAt bs i).1.2
def hR (bs:List BB) (i:Nat):Rat:=ratP (bAt bs i).2.1 (bAt bs i).2.2
abbrev Zcc:BB:=((⟨#[48]⟩,⟨#[49]⟩),(⟨#[48]⟩,⟨#[49]⟩))
structure CurveP (bs:List BB):Prop where
 len:2<=bs.length/\bs.length<=64
 first:bAt bs 0=Zcc
 small:∀ i,i<bs.length->Zw 18 (bAt bs i).1=true/\Zw 18 (bAt bs i).2=true
 top:∀ i,i<bs.length->hR bs i<=1
 up:∀ i,i+1<bs.length->cR bs i<cR bs (i+1)/\hR bs i<=hR bs (i+1)
 conc:∀ i,i+2<bs.length->slp (cR bs) (hR bs) (i+1)<=slp (cR bs) (hR bs) i
def ZeS (bs:List BB) (n:Int):Prop:=(CurveP bs/\n=0)\/(¬ CurveP bs/\n=2)
theorem ZhC:ratP ⟨#[48]⟩ ⟨#[49]⟩=0:=by decide +kernel
theorem CurveP.conc' {bs:List BB} (h:CurveP bs):Conc bs.length (cR bs) (hR bs) where
 two:=h.len.1
 c0:=by unfold cR;rw[h.first];exact ZhC
 h0:=by unfold hR;rw[h.first];exact ZhC
 top:=h.top
 up:=h.up
 conc:=h.conc
theorem CurveP.isC {bs:List BB} (h:CurveP bs) {i:Nat} (hi:i<bs.length):IsP (cR bs i) (bAt bs i).1.1 (bAt bs i).1.2/\Sz 18 (cR bs i):=by
 obtain⟨h1,h2,h3⟩:=Zai.1 (h.small i hi).1
 have:=Zav h3
 exact⟨this,this.sz h1 h2⟩
theorem CurveP.isH {bs:List BB} (h:CurveP bs) {i:Nat} (hi:i<bs.length):IsP (hR bs i) (bAt bs i).2.1 (bAt bs i).2.2/\Sz 18 (hR bs i):=by
 obtain⟨h1,h2,h3⟩:=Zai.1 (h.small i hi).2
 have:=Zav h3
 exact⟨this,this.sz h1 h2⟩
structure SiteP where
 weight:PP
 curve:List BB
structure TaskP where
 sites:List SiteP
 hours:List Int
 rates:List (List PP)
def Zc0 (w:World) (b o:Nat) (s:SiteP):Prop:=w.cell? ⟨b,o,none⟩=some (.string s.weight.1)/\w.cell? ⟨b,o+1,none⟩=some (.string s.weight.2)/\∃ v,w.cell? ⟨b,o+2,none⟩=some v/\BL w v s.curve
theorem Zc0.stays:ZeA Zc0:=fun w w' b o x B ⟨h1,h2,v,h3,h4⟩ hb hw hB=>by
 have hbB:b<B:=Zox hb hB
 exact⟨(hw.cell (p:=⟨b,o,none⟩) hbB).trans h1,(hw.cell (p:=⟨b,o+1,none⟩) hbB).trans h2,v,(hw.cell (p:=⟨b,o+2,none⟩) hbB).trans h3,h4.after hw hB⟩
abbrev Znm (w:World) (v:Value) (l:List SiteP):Prop:=LL 3 Zc0 w v l
abbrev PPL (w:World) (v:Value) (l:List (List PP)):Prop:=LL 1 (InR PL) w v l
theorem PPL.stays:ZeA (InR PL):=InR.stays fun _ _ _ _ _ h hb hB=>h.after hb hB
def ZnW:SiteP:=⟨(Zpa,Zpa),[]⟩
def eS (t:TaskP) (i:Nat):SiteP:=t.sites.getD i ZnW
def eH (t:TaskP) (u:Nat):Int:=t.hours.getD u 0
def eR (t:TaskP) (u i:Nat):PP:=(t.rates.getD u []).getD i (Zpa,Zpa)
def pN (p:List (List Int)) (u i:Nat):Int:=(p.getD u []).getD i 0
theorem Zfh {t:TaskP} {i:Nat} (h:i<t.sites.length):t.sites[i]=eS t i:=by simp[eS,List.getD,h]
theorem ZiB {t:TaskP} {u:Nat} (h:u<t.hours.length):t.hours[u]=eH t u:=by simp[eH,List.getD,h]
theorem Zgv {t:TaskP} {u i:Nat} (h:u<t.rates.length) (g:i<t.rates[u].length):t.rates[u][i]=eR t u i:=by simp[eR,List.getD,h,g]
theorem Zn3 {p:List (List Int)} {u i:Nat} (h:u<p.length) (g:i<p[u].length):p[u][i]=pN p u i:=by simp[pN,List.getD,h,g]
structure TaskOk (t:TaskP):Prop where
 sites:1<=t.sites.length/\t.sites.length<=24
 teams:1<=t.hours.length/\t.hours.length<=8
 rates:t.rates.length=t.hours.length
 site:∀ i,i<t.sites.length->Zw 9 (eS t i).weight=true/\CurveP (eS t i).curve
 team:∀ u (h:u<t.rates.length),(0<=eH t u/\eH t u<=48)/\t.rates[u].length=t.sites.length/\∀ i,i<t.sites.length->Zw 9 (eR t u i)=true
def Zbj (t:TaskP) (p:List (List Int)) (u i:Nat):Prop:=(0<=pN p u i/\pN p u i<=48)/\(0<pN p u i->ratP (eR t u i).1 (eR t u i).2≠0)
def ZZ (p:List (List Int)) (u:Nat):Nat->Int
 | 0=>0
 | k+1=>ZZ p u k+pN p u k
structure PlanOk (t:TaskP) (p:List (List Int)):Prop where
 task:TaskOk t
 teams:p.length=t.hours.length
 row:∀ u (h:u<p.length),p[u].length=t.sites.length
 hour:∀ u i,u<p.length->i<t.sites.length->Zbj t p u i
 sum:∀ u,u<p.length->ZZ p u t.sites.length<=eH t u
theorem ZiA {n:Nat} {C H:Nat->Rat} (h:Conc n C H) (hc:∀ i,i<n->Sz 18 (C i)) (hh:∀ i,i<n->Sz 18 (H i)) {i:Nat} (hi:i+1<n) :
  Sz 36 (H (i+1)-H i)/\Sz 36 (C (i+1)-C i)/\0<C (i+1)-C i/\0<=H (i+1)-H i/\0<=slp C H i/\Sz 72 (slp C H i):=by
 obtain⟨u1,u2⟩:=h.up i hi
 have a:=Sz.sub (h.h_nn (i:=i+1) hi) (h.h_nn (i:=i) Za) u2 (hh _ hi) (hh i Za)
 have b:=Sz.sub (h.c_nn (i:=i+1) hi) (h.c_nn (i:=i) Za) (Rat.le_of_lt u1) (hc _ hi) (hc i Za)
 have c:0<C (i+1)-C i:=Zk
 have d:0<=H (i+1)-H i:=Zk
 exact⟨a,b,c,d,ZlT u1 u2,Sz.div d c a b⟩
theorem ZiG {n k:Nat} {C H:Nat->Rat} {q:Rat} (h:Conc n C H) (hc:∀ i,i<n->Sz 18 (C i)) (hh:∀ i,i<n->Sz 18 (H i)) (hq:0<=q) (hz:Sz k q) {i:Nat} (hi:i+1<n) (hp:Zbc n C q i) :
  0<=q-C i/\Sz (k+18) (q-C i)/\0<=slp C H i*(q-C i)/\Sz (72+(k+18)) (slp C H i*(q-C i))/\lin n C H i q=H i+slp C H i*(q-C i)/\Sz (18+(72+(k+18))+1) (lin n C H i q):=by
 have h1:=hp.low h hq
 obtain⟨_,_,_,_,s0,sz⟩:=ZiA h hc hh hi
 have a:=Sz.sub hq (h.c_nn (i:=i) Za) h1 hz (hc i Za)
 have b:0<=q-C i:=Zk
 have c:=Rat.mul_nonneg s0 b
 have d:=Sz.mul s0 b sz a
 have e:lin n C H i q=H i+slp C H i*(q-C i):=by
  unfold lin slo
  rw[if_pos hi]
 refine⟨b,a,c,d,e,?_⟩
 rw[e]
 exact Sz.add (h.h_nn (i:=i) Za) c (hh i Za) d
structure Upto (bs:List BB) (k:Nat):Prop where
 small:∀ i,i<k->Zw 18 (bAt bs i).1=true/\Zw 18 (bAt bs i).2=true
 top:∀ i,i<k->hR bs i<=1
 up:∀ i,i+1<k->cR bs i<cR bs (i+1)/\hR bs i<=hR bs (i+1)
 conc:∀ i,i+2<k->slp (cR bs) (hR bs) (i+1)<=slp (cR bs) (hR bs) i
theorem Upto.zero (bs:List BB):Upto bs 0:=⟨fun i h=>Za,fun i h=>Za,fun i h=>Za,fun i h=>Za⟩
theorem Upto.mono {bs:List BB} {k m:Nat} (h:Upto bs k) (hm:m<=k):Upto bs m:=
 ⟨fun i hi=>h.small i Za,fun i hi=>h.top i Za,fun i hi=>h.up i Za,fun i hi=>h.conc i Za⟩
theorem Upto.succ {bs:List BB} {k:Nat} (h:Upto bs k) (h1:Zw 18 (bAt bs k).1=true/\Zw 18 (bAt bs k).2=true) (h2:hR bs k<=1)
  (h3:∀ i,i+1=k->cR bs i<cR bs (i+1)/\hR bs i<=hR bs (i+1)) (h4:∀ i,i+2=k->slp (cR bs) (hR bs) (i+1)<=slp (cR bs) (hR bs) i):Upto bs (k+1):=by
 refine⟨fun i hi=>?_,fun i hi=>?_,fun i hi=>?_,fun i hi=>?_⟩
 ·by_cases e:i=k
  ·subst e;exact h1
  ·exact h.small i Za
 ·by_cases e:i=k
  ·subst e;exact h2
  ·exact h.top i Za
 ·by_cases e:i+1=k
  ·exact h3 i e
  ·exact h.up i Za
 ·by_cases e:i+2=k
  ·exact h4 i e
  ·exact h.conc i Za
theorem Upto.curve {bs:List BB} (h:Upto bs bs.length) (hl:2<=bs.length/\bs.length<=64) (hf:bAt bs 0=Zcc):CurveP bs:=⟨hl,hf,h.small,h.top,h.up,h.conc⟩
structure Pieces (bs:List BB) (k:Nat):Prop where
 up:∀ i,i<k->cR bs i<cR bs (i+1)/\hR bs i<=hR bs (i+1)
 conc:∀ i,i+1<k->slp (cR bs) (hR bs) (i+1)<=slp (cR bs) (hR bs) i
theorem Pieces.zero (bs:List BB):Pieces bs 0:=⟨fun i h=>Za,fun i h=>Za⟩
theorem Pieces.succ {bs:List BB} {k:Nat} (h:Pieces bs k) (h1:cR bs k<cR bs (k+1)/\hR bs k<=hR bs (k+1)) (h2:∀ i,i+1=k->slp (cR bs) (hR bs) (i+1)<=slp (cR bs) (hR bs) i):Pieces bs (k+1):=by
 refine⟨fun i hi=>?_,fun i hi=>?_⟩
 ·by_cases e:i=k
  ·subst e;exact h1
  ·exact h.up i Za
 ·by_cases e:i+1=k
  ·exact h2 i e
  ·exact h.conc i Za
theorem Pieces.rise {bs:List BB} {k:Nat} (h:Pieces bs k) {i:Nat} : ∀ d,i+d<=k->hR bs i<=hR bs (i+d)
 | 0,_=>Rat.le_refl
 | d+1,hd=>Rat.le_trans (h.rise d Za) (h.up (i+d) Za).2
theorem Pieces.curve {bs:List BB} {m:Nat} (h:Pieces bs m) (hm:bs.length=m+1) (hl:2<=bs.length/\bs.length<=64) (hf:bAt bs 0=Zcc)
  (hs:∀ i,i<bs.length->Zw 18 (bAt bs i).1=true/\Zw 18 (bAt bs i).2=true) (ht:hR bs m<=1):CurveP bs:=by
 refine⟨hl,hf,hs,fun i hi=>?_,fun i hi=>h.up i Za,fun i hi=>h.conc i Za⟩
 have:=h.rise (i:=i) (m-i) Za
 rw[Nat.add_sub_cancel' Za] at this
 exact Rat.le_trans this ht
theorem CurveP.pieces {bs:List BB} (h:CurveP bs) {m:Nat} (hm:bs.length=m+1):Pieces bs m:=⟨fun i hi=>h.up i Za,fun i hi=>h.conc i Za⟩
theorem Zbw {k:Nat} {p:PP} (h:Zw k p=true):IsP (ratP p.1 p.2) p.1 p.2/\Sz k (ratP p.1 p.2):=by
 obtain⟨h1,h2,h3⟩:=Zai.1 h
 have:=Zav h3
 exact⟨this,this.sz h1 h2⟩
theorem Zaa {q:Rat} {k:Nat} (h0:0<=q) (h:Sz k q) (hk:0<k) (hk2:k<=600):∃ x y,IsP q x y:=⟨_,_,h0,rfl,rfl,h.fits hk hk2⟩
theorem ZmG {a b c d:Rat} (ha:0<=a) (hc:0<=c) (h1:c<d) (h2:a<=b) (sa:Sz 18 a) (sb:Sz 18 b) (sc:Sz 18 c) (sd:Sz 18 d) :
  (∃ x y,IsP (b-a) x y)/\(∃ x y,IsP (d-c) x y)/\(∃ x y,IsP ((b-a)/(d-c)) x y)/\0<d-c/\0<=(b-a)/(d-c)/\Sz 72 ((b-a)/(d-c)):=by
 have z1:=Sz.sub (a:=b) (b:=a) Zk ha h2 sb sa
 have z2:=Sz.sub (a:=d) (b:=c) Zk hc (Rat.le_of_lt h1) sd sc
 have p:0<d-c:=Zk
 have q:0<=b-a:=Zk
 have z3:=Sz.div q p z1 z2
 have r:=Zeo q (Rat.le_of_lt p)
 exact⟨Zaa q z1 Zd Zd,Zaa (Rat.le_of_lt p) z2 Zd Zd,Zaa r z3 Zd Zd,p,r,z3⟩
theorem CurveP.sizes {bs:List BB} (h:CurveP bs):(∀ i,i<bs.length->Sz 18 (cR bs i))/\∀ i,i<bs.length->Sz 18 (hR bs i):=⟨fun _ hi=>(h.isC hi).2,fun _ hi=>(h.isH hi).2⟩
theorem Ze1 {bs:List BB} {q:Rat} {k:Nat} (h:CurveP bs) (hq0:0<=q) (hz:Sz 300 q) (hp:Zbc bs.length (cR bs) q k) (hk:k+1<bs.length) :
  (∃ x y,IsP (hR bs (k+1)-hR bs k) x y)/\(∃ x y,IsP (cR bs (k+1)-cR bs k) x y)/\(∃ x y,IsP (slp (cR bs) (hR bs) k) x y)/\(∃ x y,IsP (q-cR bs k) x y)/\
   (∃ x y,IsP (slp (cR bs) (hR bs) k*(q-cR bs k)) x y)/\(∃ x y,IsP (lin bs.length (cR bs) (hR bs) k q) x y)/\
   lin bs.length (cR bs) (hR bs) k q=hR bs k+slp (cR bs) (hR bs) k*(q-cR bs k)/\0<cR bs (k+1)-cR bs k:=by
 obtain⟨a1,a2,a3,a4,a5,a6⟩:=ZiA h.conc' h.sizes.1 h.sizes.2 hk
 obtain⟨b1,b2,b3,b4,b5,b6⟩:=ZiG h.conc' h.sizes.1 h.sizes.2 hq0 hz hk hp
 have l0:0<=lin bs.length (cR bs) (hR bs) k q:=by
  rw[b5]
  have:=h.conc'.h_nn (i:=k) Za
  grind
 exact⟨Zaa a4 a1 Zd Zd,Zaa (Rat.le_of_lt a3) a2 Zd Zd,Zaa a5 a6 Zd Zd,Zaa b1 b2 Zd Zd,Zaa b3 b4 Zd Zd,Zaa l0 b6 Zd Zd,b5,a3⟩
def Zbs (bs:List BB) (s t:ByteArray) (x y:ByteArray) (n:Int):Prop:=
 (¬ (CurveP bs/\Zw 300 (s,t)=true)/\x=Zpa/\y=Zpa/\n=2)\/((CurveP bs/\Zw 300 (s,t)=true)/\n=0/\∃ r,ZY bs.length (cR bs) (hR bs) (ratP s t) r/\IsP r x y)
theorem Zfa.unique {n:Nat} {C H:Nat->Rat} {q r s:Rat} (h:Zfa n C H q r) (g:Zfa n C H q s):r=s:=by
 obtain⟨k,h1,h2⟩:=h
 obtain⟨m,g1,g2⟩:=g
 obtain rfl:=h1.unique g1
 rw[h2,g2]
theorem Zcs {q r:Rat} {x y u v:ByteArray} (h:IsP q x y) (g:IsP r u v) (e:q=r):x=u/\y=v:=by
 subst e
 exact⟨by rw[h.num,g.num],by rw[h.den,g.den]⟩
theorem Zbs.det {bs:List BB} {s t x y u v:ByteArray} {n m:Int} (h:Zbs bs s t x y n) (g:Zbs bs s t u v m):x=u/\y=v/\n=m:=by
 rcases h with ⟨h,rfl,rfl,rfl⟩ | ⟨h,rfl,r,h1,h2⟩
 ·rcases g with ⟨_,rfl,rfl,rfl⟩ | ⟨g,_⟩
  ·exact⟨rfl,rfl,rfl⟩
  ·exact Zo4 g h
 ·rcases g with ⟨g,_⟩ | ⟨_,rfl,r',g1,g2⟩
  ·exact Zo4 h g
  ·obtain⟨e1,e2⟩:=Zcs h2 g2 (h1.unique g1)
   exact⟨e1,e2,rfl⟩
theorem Zee {bs:List BB} (h:CurveP bs) (q:Rat):∃ c,ZY bs.length (cR bs) (hR bs) q c:=by
 have hl:=h.len
 obtain⟨k,hk⟩:=Zbc.exists (n:=bs.length) (C:=cR bs) q (bs.length-1) Za
 rw[Nat.sub_add_cancel Za] at hk
 exact⟨_,k,hk,rfl⟩
open Classical in
noncomputable def chF (bs:List BB) (q:Rat):Rat:=if h:∃ r,ZY bs.length (cR bs) (hR bs) q r then Classical.choose h else 0
theorem Zgq {bs:List BB} (h:CurveP bs) (q:Rat):ZY bs.length (cR bs) (hR bs) q (chF bs q):=by
 have hex:=Zee h q
 unfold chF
 rw[dif_pos hex]
 exact Classical.choose_spec hex
theorem Ze3 {bs:List BB} (h:CurveP bs) {q r:Rat} (hr:ZY bs.length (cR bs) (hR bs) q r):chF bs q=r:=(Zgq h q).unique hr
def rR (t:TaskP) (u i:Nat):Rat:=ratP (eR t u i).1 (eR t u i).2
def wR (t:TaskP) (i:Nat):Rat:=ratP (eS t i).weight.1 (eS t i).weight.2
def ZaW (t:TaskP) (p:List (List Int)) (i:Nat):Nat->Rat
 | 0=>0
 | k+1=>ZaW t p i k+rR t k i*((pN p k i:Int):Rat)
def covR (t:TaskP) (p:List (List Int)) (i:Nat):Rat:=ZaW t p i p.length
def sumF (f:Nat->Rat):Nat->Rat
 | 0=>0
 | k+1=>sumF f k+f k
end Go.Proofs.YtmpaflidennnoaaGreatDoor
