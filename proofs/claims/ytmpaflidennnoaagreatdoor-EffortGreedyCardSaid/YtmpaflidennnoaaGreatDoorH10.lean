/- The parts Must, List, Share, Bends, EffL, Missed, Upto, Chances, MissL, EffM of a proof, put together by program (merge7.py). -/
import Derived.Test.YtmpaflidennnoaaGreatDoorH09
import Derived.Recover
set_option linter.unusedVariables false
set_option linter.unusedSimpArgs false
namespace Go.Proofs.YtmpaflidennnoaaGreatDoor
open Go.RowKit Go.Shelf
theorem Bi.both {s t u v x y:ByteArray} {e:Int} {R:ByteArray→ByteArray→Int→Prop} (h:Bi s t u v R x y e) (h1:okP s t=true) (h2:okP u v=true):R x y e:=by
 rcases h with ⟨h,_⟩ | ⟨_,h⟩
 ·rw[h1,h2] at h;cases h
 ·exact h
theorem IsP.small {q:Rat} {s t:ByteArray} (h:IsP q s t):s.size≤600∧t.size≤600:=by
 rw[h.num,h.den,Zao,Zao];exact h.fits
theorem IsP.limit {q:Rat} {s t:ByteArray} (h:IsP q s t):s.size≤1000000∧t.size≤1000000:=by
 have:=h.small;omega
abbrev PP:=ByteArray×ByteArray
def PAt (w:World) (b off:Nat) (ps:List PP):Prop:=
 ∀ j (h:j<ps.length),w.cell? ⟨b,off+j*2,none⟩=some (.string ps[j].1)∧w.cell? ⟨b,off+j*2+1,none⟩=some (.string ps[j].2)
def PL (w:World) (v:Value) (ps:List PP):Prop:=
 ∃ p cap,v=.slice p ps.length cap∧ps.length≤cap∧cap≤maxLen∧(ps≠[]→∃ b off,p=some ⟨b,off,none⟩∧b<w.heap.size∧PAt w b off ps)
theorem PAt.below {B:Nat} {w w':World} {b off:Nat} {ps:List PP} (h:PAt w b off ps) (hb:Below B w w') (hB:b<B):PAt w' b off ps:=
 fun j hj=>⟨(hb.cell (p:=⟨b,off+j*2,none⟩) hB).trans (h j hj).1,(hb.cell (p:=⟨b,off+j*2+1,none⟩) hB).trans (h j hj).2⟩
theorem PL.after {B:Nat} {w w':World} {v:Value} {ps:List PP} (h:PL w v ps) (hb:Below B w w') (hB:w.heap.size≤B):PL w' v ps:=by
 obtain⟨p,cap,h1,h2,h3,h4⟩:=h
 refine⟨p,cap,h1,h2,h3,fun hne=>?_⟩
 obtain⟨b,off,h5,h6,h7⟩:=h4 hne
 exact⟨b,off,h5,Nat.lt_of_lt_of_le h6 hb.size,h7.below hb (by omega)⟩
theorem PL.nil (w:World):PL w (.slice none 0 0) []:=⟨none,0,rfl,Nat.le_refl _,by simp[maxLen],by simp⟩
def IsL (qs:List Rat) (ps:List PP):Prop:=qs.length=ps.length∧∀ k (h1:k<qs.length) (h2:k<ps.length),IsP qs[k] ps[k].1 ps[k].2
theorem IsL.length {qs:List Rat} {ps:List PP} (h:IsL qs ps):qs.length=ps.length:=h.1
instance fitsDec (q:Rat):Decidable (Fits q):=inferInstanceAs (Decidable (_∧_))
def ZeG:List PP→List Value
 | []=>[]
 | p::ps=>.string p.1::.string p.2::ZeG ps
theorem Zhi:∀ (ps:List PP) (j:Nat) (h:j<ps.length),(ZeG ps)[j*2]?=some (.string ps[j].1)∧(ZeG ps)[j*2+1]?=some (.string ps[j].2)
 | p::ps,0,_=>⟨rfl,rfl⟩
 | p::ps,j+1,h=>by
  have:=Zhi ps j (by simpa using h)
  simp only[ZeG,List.getElem_cons_succ]
  rw[show (j+1)*2=j*2+1+1 by omega]
  exact this
def Own (w:World) (base:Nat) (v:Value) (ps:List PP):Prop:=w.ownsRow base 41 2 v ps.length (ZeG ps)
theorem Own.nil (w:World) (base:Nat):Own w base (.slice none 0 0) []:=World.ownsRow_nil w base _ 2
theorem Own.pl {w:World} {base:Nat} {v:Value} {ps:List PP} (h:Own w base v ps):PL w v ps:=by
 have h0:=h
 rcases h.2 with ⟨rfl,h1⟩ | ⟨g,cap,cur,rfl,hb,hg,hle,hcap,hr⟩
 ·obtain rfl:ps=[]:=List.eq_nil_of_length_eq_zero h1
  exact PL.nil w
 ·refine⟨_,cap,rfl,hle,hcap,fun _=>⟨g,0,rfl,(Array.getElem?_eq_some_iff.1 hg).1,fun j hj=>?_⟩⟩
  have h2:=Zhi ps j hj
  have e1:=World.ownsRow.cellAt h0 (j*2) (by omega)
  have e2:=World.ownsRow.cellAt h0 (j*2+1) (by omega)
  rw[Nat.zero_add]
  rw[e1,e2]
  constructor
  ·rw[← h2.1]
  ·rw[← h2.2]
theorem Own.kept {w w':World} {base:Nat} {v:Value} {ps:List PP} (h:Own w base v ps) (hk:∀ g,base≤g→v.ownBlock=some g→w'.heap[g]?=w.heap[g]?):Own w' base v ps:=by
 obtain⟨h1,h2⟩:=h
 refine⟨h1,?_⟩
 rcases h2 with h2 | ⟨g,cap,cur,rfl,hb,hg,hr⟩
 ·exact .inl h2
 ·exact .inr ⟨g,cap,cur,rfl,hb,by rw[hk g hb rfl];exact hg,hr⟩
theorem Own.after {w w':World} {base:Nat} {v:Value} {ps:List PP} (h:Own w base v ps) (hb:Below w.heap.size w w'):Own w' base v ps:=by
 refine h.kept fun g _ hg=>hb.block g ?_
 rcases h.2 with ⟨rfl,_⟩ | ⟨g',cap,cur,rfl,_,hg',_⟩
 ·cases hg
 ·have:=Option.some.inj hg
  subst this
  exact(Array.getElem?_eq_some_iff.1 hg').1
theorem IsL.snoc {qs:List Rat} {ps:List PP} (h:IsL qs ps) {q:Rat} {x y:ByteArray} (hq:IsP q x y):IsL (qs++[q]) (ps++[(x,y)]):=by
 refine⟨by simp[h.1],fun k h1 h2=>?_⟩
 rcases Nat.lt_or_ge k ps.length with hk | hk
 ·have hk':k<qs.length:=by rw[h.1];exact hk
  rw[List.getElem_append_left hk',List.getElem_append_left hk]
  exact h.2 k hk' hk
 ·have e1:k=ps.length:=by simp at h2;omega
  have e2:k=qs.length:=by rw[h.1];exact e1
  rw[List.getElem_append_right (by omega),List.getElem_append_right (by omega)]
  simpa using hq
theorem IsL.nil:IsL [] []:=⟨rfl,fun k h=>by simp at h⟩
abbrev BB:=PP×PP
def BAt (w:World) (b off:Nat) (bs:List BB):Prop:=
 ∀ j (h:j<bs.length),w.cell? ⟨b,off+j*4,none⟩=some (.string bs[j].1.1)∧w.cell? ⟨b,off+j*4+1,none⟩=some (.string bs[j].1.2)∧w.cell? ⟨b,off+j*4+2,none⟩=some (.string bs[j].2.1)∧w.cell? ⟨b,off+j*4+3,none⟩=some (.string bs[j].2.2)
def BL (w:World) (v:Value) (bs:List BB):Prop:=
 ∃ p cap,v=.slice p bs.length cap∧bs.length≤cap∧cap≤maxLen∧(bs≠[]→∃ b off,p=some ⟨b,off,none⟩∧b<w.heap.size∧BAt w b off bs)
theorem BAt.below {B:Nat} {w w':World} {b off:Nat} {bs:List BB} (h:BAt w b off bs) (hb:Below B w w') (hB:b<B):BAt w' b off bs:=
 fun j hj=>⟨(hb.cell (p:=⟨b,off+j*4,none⟩) hB).trans (h j hj).1,(hb.cell (p:=⟨b,off+j*4+1,none⟩) hB).trans (h j hj).2.1,
  (hb.cell (p:=⟨b,off+j*4+2,none⟩) hB).trans (h j hj).2.2.1,(hb.cell (p:=⟨b,off+j*4+3,none⟩) hB).trans (h j hj).2.2.2⟩
theorem BL.after {B:Nat} {w w':World} {v:Value} {bs:List BB} (h:BL w v bs) (hb:Below B w w') (hB:w.heap.size≤B):BL w' v bs:=by
 obtain⟨p,cap,h1,h2,h3,h4⟩:=h
 refine⟨p,cap,h1,h2,h3,fun hne=>?_⟩
 obtain⟨b,off,h5,h6,h7⟩:=h4 hne
 exact⟨b,off,h5,Nat.lt_of_lt_of_le h6 hb.size,h7.below hb (by omega)⟩
theorem BL.nil (w:World):BL w (.slice none 0 0) []:=⟨none,0,rfl,Nat.le_refl _,by simp[maxLen],by simp⟩
theorem BL.len {w:World} {p:Option Addr} {n c:Nat} {bs:List BB} (h:BL w (.slice p n c) bs):bs.length=n∧c≤9223372036854775807∧n≤c:=by
 obtain⟨p',c',hv,h1,h2,_⟩:=h
 injection hv with e1 e2 e3
 subst e1 e3
 unfold maxLen at h2
 omega
def nob:BB:=((⟨#[]⟩,⟨#[]⟩),(⟨#[]⟩,⟨#[]⟩))
def bAt (bs:List BB) (i:Nat):BB:=bs.getD i nob
theorem Zc3 {bs:List BB} {i:Nat} (h:i<bs.length):bAt bs i=bs[i]:=by simp[bAt,List.getD,h]
theorem ZjJ {bs:List BB} {i:Nat} (h:i<bs.length):bAt bs i ∈ bs:=by rw[Zc3 h];exact List.getElem_mem h
theorem BL.at {w:World} {p:Option Addr} {n cap:Nat} {bs:List BB} (h:BL w (.slice p n cap) bs) (hn:bs.length=n) (h0:0<n) :
  ∃ b off,p=some ⟨b,off,none⟩∧b<w.heap.size∧∀ W,Below w.heap.size w W→∀ k,k<n→
   W.cell? ⟨b,off+k*4,none⟩=some (.string (bAt bs k).1.1)∧W.cell? ⟨b,off+k*4+1,none⟩=some (.string (bAt bs k).1.2)∧W.cell? ⟨b,off+k*4+2,none⟩=some (.string (bAt bs k).2.1)∧W.cell? ⟨b,off+k*4+3,none⟩=some (.string (bAt bs k).2.2):=by
 obtain⟨p',c',hv,_,_,h4⟩:=h
 injection hv with e1 e2 e3
 subst e1
 obtain⟨b,off,rfl,hb,hat⟩:=h4 (List.ne_nil_of_length_pos (by omega))
 refine⟨b,off,rfl,hb,fun W hW k hk=>?_⟩
 rw[Zc3 (by omega)]
 exact(hat.below hW hb) k (by omega)
abbrev bV (b:BB):Value:=.agg #[.string b.1.1,.string b.1.2,.string b.2.1,.string b.2.2]
abbrev bObj (b:BB):Obj:=.cells #[.string b.1.1,.string b.1.2,.string b.2.1,.string b.2.2] 138
abbrev bO (s t u v:ByteArray):Obj:=.cells #[.string s,.string t,.string u,.string v] 138
def Zh (k:Nat) (p:PP):Bool:=decide (p.1.size≤k) && decide (p.2.size≤k) && okP p.1 p.2
theorem Z7 {k:Nat} {p:PP} : Zh k p=true↔p.1.size≤k∧p.2.size≤k∧okP p.1 p.2=true:=by
 unfold Zh
 simp[and_assoc]
def cR (bs:List BB) (i:Nat):Rat:=ratP (bAt bs i).1.1 (bAt bs i).1.2
def hR (bs:List BB) (i:Nat):Rat:=ratP (bAt bs i).2.1 (bAt bs i).2.2
abbrev ZbO:BB:=((⟨#[48]⟩,⟨#[49]⟩),(⟨#[48]⟩,⟨#[49]⟩))
structure CurveP (bs:List BB):Prop where
 len:2≤bs.length∧bs.length≤64
 first:bAt bs 0=ZbO
 small:∀ i,i<bs.length→Zh 18 (bAt bs i).1=true∧Zh 18 (bAt bs i).2=true
 top:∀ i,i<bs.length→hR bs i≤1
 up:∀ i,i+1<bs.length→cR bs i<cR bs (i+1)∧hR bs i≤hR bs (i+1)
 conc:∀ i,i+2<bs.length→slp (cR bs) (hR bs) (i+1)≤slp (cR bs) (hR bs) i
def ZeP (bs:List BB) (n:Int):Prop:=(CurveP bs∧n=0)∨(¬ CurveP bs∧n=2)
theorem Zhb:ratP ⟨#[48]⟩ ⟨#[49]⟩=0:=by decide +kernel
theorem CurveP.conc' {bs:List BB} (h:CurveP bs):Conc bs.length (cR bs) (hR bs) where
 two:=h.len.1
 c0:=by unfold cR;rw[h.first];exact Zhb
 h0:=by unfold hR;rw[h.first];exact Zhb
 top:=h.top
 up:=h.up
 conc:=h.conc
theorem CurveP.isC {bs:List BB} (h:CurveP bs) {i:Nat} (hi:i<bs.length):IsP (cR bs i) (bAt bs i).1.1 (bAt bs i).1.2∧Sz 18 (cR bs i):=by
 obtain⟨h1,h2,h3⟩:=Z7.1 (h.small i hi).1
 have:=Zak h3
 exact⟨this,this.sz h1 h2⟩
theorem CurveP.isH {bs:List BB} (h:CurveP bs) {i:Nat} (hi:i<bs.length):IsP (hR bs i) (bAt bs i).2.1 (bAt bs i).2.2∧Sz 18 (hR bs i):=by
 obtain⟨h1,h2,h3⟩:=Z7.1 (h.small i hi).2
 have:=Zak h3
 exact⟨this,this.sz h1 h2⟩
structure SiteP where
 weight:PP
 curve:List BB
structure TaskP where
 sites:List SiteP
 hours:List Int
 rates:List (List PP)
def Zcm (w:World) (b o:Nat) (s:SiteP):Prop:=w.cell? ⟨b,o,none⟩=some (.string s.weight.1)∧w.cell? ⟨b,o+1,none⟩=some (.string s.weight.2)∧∃ v,w.cell? ⟨b,o+2,none⟩=some v∧BL w v s.curve
theorem Zcm.stays:Zd4 Zcm:=fun w w' b o x B ⟨h1,h2,v,h3,h4⟩ hb hw hB=>by
 have hbB:b<B:=Nat.lt_of_lt_of_le hb hB
 exact⟨(hw.cell (p:=⟨b,o,none⟩) hbB).trans h1,(hw.cell (p:=⟨b,o+1,none⟩) hbB).trans h2,v,(hw.cell (p:=⟨b,o+2,none⟩) hbB).trans h3,h4.after hw hB⟩
abbrev Zj5 (w:World) (v:Value) (l:List SiteP):Prop:=LL 3 Zcm w v l
abbrev PPL (w:World) (v:Value) (l:List (List PP)):Prop:=LL 1 (InR PL) w v l
theorem PPL.stays:Zd4 (InR PL):=InR.stays fun _ _ _ _ _ h hb hB=>h.after hb hB
def EffV (w:World) (v:Value) (t:TaskP):Prop:=∃ a b c,v=.agg #[a,b,c]∧Zj5 w a t.sites∧IL w b t.hours∧PPL w c t.rates
theorem EffV.after {w w':World} {v:Value} {t:TaskP} {B:Nat} (h:EffV w v t) (hb:Below B w w') (hB:w.heap.size≤B):EffV w' v t:=by
 obtain⟨a,b,c,h1,h2,h3,h4⟩:=h
 exact⟨a,b,c,h1,h2.after Zcm.stays hb hB,h3.after IntR.stays hb hB,h4.after PPL.stays hb hB⟩
def Znn:SiteP:=⟨(⟨#[]⟩,⟨#[]⟩),[]⟩
def eS (t:TaskP) (i:Nat):SiteP:=t.sites.getD i Znn
def eH (t:TaskP) (u:Nat):Int:=t.hours.getD u 0
def eR (t:TaskP) (u i:Nat):PP:=(t.rates.getD u []).getD i (⟨#[]⟩,⟨#[]⟩)
def pN (p:List (List Int)) (u i:Nat):Int:=(p.getD u []).getD i 0
theorem ZeM {t:TaskP} {i:Nat} (h:i<t.sites.length):t.sites[i]=eS t i:=by simp[eS,List.getD,h]
theorem Zh5 {t:TaskP} {u:Nat} (h:u<t.hours.length):t.hours[u]=eH t u:=by simp[eH,List.getD,h]
theorem ZfX {t:TaskP} {u i:Nat} (h:u<t.rates.length) (g:i<t.rates[u].length):t.rates[u][i]=eR t u i:=by simp[eR,List.getD,h,g]
structure TaskOk (t:TaskP):Prop where
 sites:1≤t.sites.length∧t.sites.length≤24
 teams:1≤t.hours.length∧t.hours.length≤8
 rates:t.rates.length=t.hours.length
 site:∀ i,i<t.sites.length→Zh 9 (eS t i).weight=true∧CurveP (eS t i).curve
 team:∀ u (h:u<t.rates.length),(0≤eH t u∧eH t u≤48)∧t.rates[u].length=t.sites.length∧∀ i,i<t.sites.length→Zh 9 (eR t u i)=true
def Zcp (t:TaskP) (p:List (List Int)) (u i:Nat):Prop:=(0≤pN p u i∧pN p u i≤48)∧(0<pN p u i→ratP (eR t u i).1 (eR t u i).2≠0)
def ZR (p:List (List Int)) (u:Nat):Nat→Int
 | 0=>0
 | k+1=>ZR p u k+pN p u k
structure PlanOk (t:TaskP) (p:List (List Int)):Prop where
 task:TaskOk t
 teams:p.length=t.hours.length
 row:∀ u (h:u<p.length),p[u].length=t.sites.length
 hour:∀ u i,u<p.length→i<t.sites.length→Zcp t p u i
 sum:∀ u,u<p.length→ZR p u t.sites.length≤eH t u
def Zgi:Rat→List Rat→Option Rat
 | a,[]=>some a
 | a,c::cs=>if Fits (a*(1-c)) then Zgi (a*(1-c)) cs else none
theorem Zh6 {n:Nat} {C H:Nat→Rat} (h:Conc n C H) (hc:∀ i,i<n→Sz 18 (C i)) (hh:∀ i,i<n→Sz 18 (H i)) {i:Nat} (hi:i+1<n) :
  Sz 36 (H (i+1)-H i)∧Sz 36 (C (i+1)-C i)∧0<C (i+1)-C i∧0≤H (i+1)-H i∧0≤slp C H i∧Sz 72 (slp C H i):=by
 obtain⟨u1,u2⟩:=h.up i hi
 have a:=Sz.sub (h.h_nn (i:=i+1) hi) (h.h_nn (i:=i) (by omega)) u2 (hh _ hi) (hh i (by omega))
 have b:=Sz.sub (h.c_nn (i:=i+1) hi) (h.c_nn (i:=i) (by omega)) (Rat.le_of_lt u1) (hc _ hi) (hc i (by omega))
 have c:0<C (i+1)-C i:=by grind
 have d:0≤H (i+1)-H i:=by grind
 exact⟨a,b,c,d,Zly u1 u2,Sz.div d c a b⟩
theorem ZhV {n k:Nat} {C H:Nat→Rat} {q:Rat} (h:Conc n C H) (hc:∀ i,i<n→Sz 18 (C i)) (hh:∀ i,i<n→Sz 18 (H i)) (hq:0≤q) (hz:Sz k q) {i:Nat} (hi:i+1<n) (hp:ZaQ n C q i) :
  0≤q-C i∧Sz (k+18) (q-C i)∧0≤slp C H i*(q-C i)∧Sz (72+(k+18)) (slp C H i*(q-C i))∧lin n C H i q=H i+slp C H i*(q-C i)∧Sz (18+(72+(k+18))+1) (lin n C H i q):=by
 have h1:=hp.low h hq
 obtain⟨_,_,_,_,s0,sz⟩:=Zh6 h hc hh hi
 have a:=Sz.sub hq (h.c_nn (i:=i) (by omega)) h1 hz (hc i (by omega))
 have b:0≤q-C i:=by grind
 have c:=Rat.mul_nonneg s0 b
 have d:=Sz.mul s0 b sz a
 have e:lin n C H i q=H i+slp C H i*(q-C i):=by
  unfold lin slo
  rw[if_pos hi]
 refine⟨b,a,c,d,e,?_⟩
 rw[e]
 exact Sz.add (h.h_nn (i:=i) (by omega)) c (hh i (by omega)) d
structure Upto (bs:List BB) (k:Nat):Prop where
 small:∀ i,i<k→Zh 18 (bAt bs i).1=true∧Zh 18 (bAt bs i).2=true
 top:∀ i,i<k→hR bs i≤1
 up:∀ i,i+1<k→cR bs i<cR bs (i+1)∧hR bs i≤hR bs (i+1)
 conc:∀ i,i+2<k→slp (cR bs) (hR bs) (i+1)≤slp (cR bs) (hR bs) i
theorem Upto.zero (bs:List BB):Upto bs 0:=⟨fun i h=>by omega,fun i h=>by omega,fun i h=>by omega,fun i h=>by omega⟩
theorem Upto.mono {bs:List BB} {k m:Nat} (h:Upto bs k) (hm:m≤k):Upto bs m:=
 ⟨fun i hi=>h.small i (by omega),fun i hi=>h.top i (by omega),fun i hi=>h.up i (by omega),fun i hi=>h.conc i (by omega)⟩
theorem Upto.succ {bs:List BB} {k:Nat} (h:Upto bs k) (h1:Zh 18 (bAt bs k).1=true∧Zh 18 (bAt bs k).2=true) (h2:hR bs k≤1)
  (h3:∀ i,i+1=k→cR bs i<cR bs (i+1)∧hR bs i≤hR bs (i+1)) (h4:∀ i,i+2=k→slp (cR bs) (hR bs) (i+1)≤slp (cR bs) (hR bs) i):Upto bs (k+1):=by
 refine⟨fun i hi=>?_,fun i hi=>?_,fun i hi=>?_,fun i hi=>?_⟩
 ·by_cases e:i=k
  ·subst e;exact h1
  ·exact h.small i (by omega)
 ·by_cases e:i=k
  ·subst e;exact h2
  ·exact h.top i (by omega)
 ·by_cases e:i+1=k
  ·exact h3 i e
  ·exact h.up i (by omega)
 ·by_cases e:i+2=k
  ·exact h4 i e
  ·exact h.conc i (by omega)
theorem Upto.curve {bs:List BB} (h:Upto bs bs.length) (hl:2≤bs.length∧bs.length≤64) (hf:bAt bs 0=ZbO):CurveP bs:=⟨hl,hf,h.small,h.top,h.up,h.conc⟩
structure Pieces (bs:List BB) (k:Nat):Prop where
 up:∀ i,i<k→cR bs i<cR bs (i+1)∧hR bs i≤hR bs (i+1)
 conc:∀ i,i+1<k→slp (cR bs) (hR bs) (i+1)≤slp (cR bs) (hR bs) i
theorem Pieces.zero (bs:List BB):Pieces bs 0:=⟨fun i h=>by omega,fun i h=>by omega⟩
theorem Pieces.succ {bs:List BB} {k:Nat} (h:Pieces bs k) (h1:cR bs k<cR bs (k+1)∧hR bs k≤hR bs (k+1)) (h2:∀ i,i+1=k→slp (cR bs) (hR bs) (i+1)≤slp (cR bs) (hR bs) i):Pieces bs (k+1):=by
 refine⟨fun i hi=>?_,fun i hi=>?_⟩
 ·by_cases e:i=k
  ·subst e;exact h1
  ·exact h.up i (by omega)
 ·by_cases e:i+1=k
  ·exact h2 i e
  ·exact h.conc i (by omega)
theorem Pieces.rise {bs:List BB} {k:Nat} (h:Pieces bs k) {i:Nat} : ∀ d,i+d≤k→hR bs i≤hR bs (i+d)
 | 0,_=>Rat.le_refl
 | d+1,hd=>Rat.le_trans (h.rise d (by omega)) (h.up (i+d) (by omega)).2
theorem Pieces.curve {bs:List BB} {m:Nat} (h:Pieces bs m) (hm:bs.length=m+1) (hl:2≤bs.length∧bs.length≤64) (hf:bAt bs 0=ZbO)
  (hs:∀ i,i<bs.length→Zh 18 (bAt bs i).1=true∧Zh 18 (bAt bs i).2=true) (ht:hR bs m≤1):CurveP bs:=by
 refine⟨hl,hf,hs,fun i hi=>?_,fun i hi=>h.up i (by omega),fun i hi=>h.conc i (by omega)⟩
 have:=h.rise (i:=i) (m-i) (by omega)
 rw[Nat.add_sub_cancel' (by omega)] at this
 exact Rat.le_trans this ht
theorem CurveP.pieces {bs:List BB} (h:CurveP bs) {m:Nat} (hm:bs.length=m+1):Pieces bs m:=⟨fun i hi=>h.up i (by omega),fun i hi=>h.conc i (by omega)⟩
theorem Zbg {k:Nat} {p:PP} (h:Zh k p=true):IsP (ratP p.1 p.2) p.1 p.2∧Sz k (ratP p.1 p.2):=by
 obtain⟨h1,h2,h3⟩:=Z7.1 h
 have:=Zak h3
 exact⟨this,this.sz h1 h2⟩
theorem ZV {q:Rat} {k:Nat} (h0:0≤q) (h:Sz k q) (hk:0<k) (hk2:k≤600):∃ x y,IsP q x y:=⟨_,_,h0,rfl,rfl,h.fits hk hk2⟩
theorem Zmv {a b c d:Rat} (ha:0≤a) (hc:0≤c) (h1:c<d) (h2:a≤b) (sa:Sz 18 a) (sb:Sz 18 b) (sc:Sz 18 c) (sd:Sz 18 d) :
  (∃ x y,IsP (b-a) x y)∧(∃ x y,IsP (d-c) x y)∧(∃ x y,IsP ((b-a)/(d-c)) x y)∧0<d-c∧0≤(b-a)/(d-c)∧Sz 72 ((b-a)/(d-c)):=by
 have z1:=Sz.sub (a:=b) (b:=a) (by grind) ha h2 sb sa
 have z2:=Sz.sub (a:=d) (b:=c) (by grind) hc (Rat.le_of_lt h1) sd sc
 have p:0<d-c:=by grind
 have q:0≤b-a:=by grind
 have z3:=Sz.div q p z1 z2
 have r:=Zd0 q (Rat.le_of_lt p)
 exact⟨ZV q z1 (by decide) (by decide),ZV (Rat.le_of_lt p) z2 (by decide) (by decide),ZV r z3 (by decide) (by decide),p,r,z3⟩
theorem CurveP.sizes {bs:List BB} (h:CurveP bs):(∀ i,i<bs.length→Sz 18 (cR bs i))∧∀ i,i<bs.length→Sz 18 (hR bs i):=⟨fun _ hi=>(h.isC hi).2,fun _ hi=>(h.isH hi).2⟩
theorem ZeV {bs:List BB} {q:Rat} {k:Nat} (h:CurveP bs) (hq0:0≤q) (hz:Sz 300 q) (hp:ZaQ bs.length (cR bs) q k) (hk:k+1<bs.length) :
  (∃ x y,IsP (hR bs (k+1)-hR bs k) x y)∧(∃ x y,IsP (cR bs (k+1)-cR bs k) x y)∧(∃ x y,IsP (slp (cR bs) (hR bs) k) x y)∧(∃ x y,IsP (q-cR bs k) x y)∧
   (∃ x y,IsP (slp (cR bs) (hR bs) k*(q-cR bs k)) x y)∧(∃ x y,IsP (lin bs.length (cR bs) (hR bs) k q) x y)∧
   lin bs.length (cR bs) (hR bs) k q=hR bs k+slp (cR bs) (hR bs) k*(q-cR bs k)∧0<cR bs (k+1)-cR bs k:=by
 obtain⟨a1,a2,a3,a4,a5,a6⟩:=Zh6 h.conc' h.sizes.1 h.sizes.2 hk
 obtain⟨b1,b2,b3,b4,b5,b6⟩:=ZhV h.conc' h.sizes.1 h.sizes.2 hq0 hz hk hp
 have l0:0≤lin bs.length (cR bs) (hR bs) k q:=by
  rw[b5]
  have:=h.conc'.h_nn (i:=k) (by omega)
  grind
 exact⟨ZV a4 a1 (by decide) (by decide),ZV (Rat.le_of_lt a3) a2 (by decide) (by decide),ZV a5 a6 (by decide) (by decide),ZV b1 b2 (by decide) (by decide),ZV b3 b4 (by decide) (by decide),ZV l0 b6 (by decide) (by decide),b5,a3⟩
def Zbc (bs:List BB) (s t:ByteArray) (x y:ByteArray) (n:Int):Prop:=
 (¬ (CurveP bs∧Zh 300 (s,t)=true)∧x=⟨#[]⟩∧y=⟨#[]⟩∧n=2)∨((CurveP bs∧Zh 300 (s,t)=true)∧n=0∧∃ r,ZD bs.length (cR bs) (hR bs) (ratP s t) r∧IsP r x y)
def Zih (bs:List BB) (s t:ByteArray) (x y:ByteArray) (n:Int):Prop:=
 (¬ (CurveP bs∧Zh 300 (s,t)=true)∧x=⟨#[]⟩∧y=⟨#[]⟩∧n=2)∨((CurveP bs∧Zh 300 (s,t)=true)∧n=0∧∃ r,ZdJ bs.length (cR bs) (hR bs) (ratP s t) r∧IsP r x y)
def Zkq (bs:List BB) (s t:ByteArray) (x y:ByteArray) (n:Int):Prop:=
 (¬ (CurveP bs∧Zh 300 (s,t)=true)∧x=⟨#[]⟩∧y=⟨#[]⟩∧n=2)∨((CurveP bs∧Zh 300 (s,t)=true)∧hR bs (bs.length-1)<ratP s t∧x=⟨#[]⟩∧y=⟨#[]⟩∧n=7)∨
  ((CurveP bs∧Zh 300 (s,t)=true)∧ratP s t≤hR bs (bs.length-1)∧n=0∧∃ c,Zdq bs.length (cR bs) (hR bs) (ratP s t) c∧IsP c x y)
theorem ZdJ.unique {n:Nat} {C H:Nat→Rat} {q r s:Rat} (h:ZdJ n C H q r) (g:ZdJ n C H q s):r=s:=by
 obtain⟨k,h1,h2⟩:=h
 obtain⟨m,g1,g2⟩:=g
 obtain rfl:=h1.unique g1
 rw[h2,g2]
theorem Zdq.unique {n:Nat} {C H:Nat→Rat} {p c d:Rat} (h:Conc n C H) (h1:Zdq n C H p c) (h2:Zdq n C H p d):c=d:=by
 rcases h1 with ⟨hp,rfl⟩ | ⟨i,hi,a1,a2,rfl⟩
 ·rcases h2 with ⟨_,rfl⟩ | ⟨j,hj,b1,b2,rfl⟩
  ·rfl
  ·have:=h.h_nn (i:=j) (by omega)
   grind
 ·rcases h2 with ⟨hp,rfl⟩ | ⟨j,hj,b1,b2,rfl⟩
  ·have:=h.h_nn (i:=i) (by omega)
   grind
  ·have e:i=j:=by
    rcases Nat.lt_trichotomy i j with hl | hl | hl
    ·have:=h.h_mono (i:=i+1) (j-(i+1)) (by omega)
     rw[Nat.add_sub_cancel' (by omega)] at this
     grind
    ·exact hl
    ·have:=h.h_mono (i:=j+1) (i-(j+1)) (by omega)
     rw[Nat.add_sub_cancel' (by omega)] at this
     grind
   subst e
   rfl
theorem ZbC {q r:Rat} {x y u v:ByteArray} (h:IsP q x y) (g:IsP r u v) (e:q=r):x=u∧y=v:=by
 subst e
 exact⟨by rw[h.num,g.num],by rw[h.den,g.den]⟩
theorem Zbc.det {bs:List BB} {s t x y u v:ByteArray} {n m:Int} (h:Zbc bs s t x y n) (g:Zbc bs s t u v m):x=u∧y=v∧n=m:=by
 rcases h with ⟨h,rfl,rfl,rfl⟩ | ⟨h,rfl,r,h1,h2⟩
 ·rcases g with ⟨_,rfl,rfl,rfl⟩ | ⟨g,_⟩
  ·exact⟨rfl,rfl,rfl⟩
  ·exact absurd g h
 ·rcases g with ⟨g,_⟩ | ⟨_,rfl,r',g1,g2⟩
  ·exact absurd h g
  ·obtain⟨e1,e2⟩:=ZbC h2 g2 (h1.unique g1)
   exact⟨e1,e2,rfl⟩
theorem Zih.det {bs:List BB} {s t x y u v:ByteArray} {n m:Int} (h:Zih bs s t x y n) (g:Zih bs s t u v m):x=u∧y=v∧n=m:=by
 rcases h with ⟨h,rfl,rfl,rfl⟩ | ⟨h,rfl,r,h1,h2⟩
 ·rcases g with ⟨_,rfl,rfl,rfl⟩ | ⟨g,_⟩
  ·exact⟨rfl,rfl,rfl⟩
  ·exact absurd g h
 ·rcases g with ⟨g,_⟩ | ⟨_,rfl,r',g1,g2⟩
  ·exact absurd h g
  ·obtain⟨e1,e2⟩:=ZbC h2 g2 (h1.unique g1)
   exact⟨e1,e2,rfl⟩
theorem Zkq.det {bs:List BB} {s t x y u v:ByteArray} {n m:Int} (h:Zkq bs s t x y n) (g:Zkq bs s t u v m):x=u∧y=v∧n=m:=by
 rcases h with ⟨h,rfl,rfl,rfl⟩ | ⟨h,h0,rfl,rfl,rfl⟩ | ⟨h,h0,rfl,r,h1,h2⟩
 ·rcases g with ⟨_,rfl,rfl,rfl⟩ | ⟨g,_⟩ | ⟨g,_⟩
  ·exact⟨rfl,rfl,rfl⟩
  ·exact absurd g h
  ·exact absurd g h
 ·rcases g with ⟨g,_⟩ | ⟨_,_,rfl,rfl,rfl⟩ | ⟨_,g0,_⟩
  ·exact absurd h g
  ·exact⟨rfl,rfl,rfl⟩
  ·grind
 ·rcases g with ⟨g,_⟩ | ⟨_,g0,_⟩ | ⟨_,_,rfl,r',g1,g2⟩
  ·exact absurd h g
  ·grind
  ·obtain⟨e1,e2⟩:=ZbC h2 g2 (h1.unique h.1.conc' g1)
   exact⟨e1,e2,rfl⟩
def ZU (bs:List BB):List PP→List Rat→Prop
 | [],cs=>cs=[]
 | p::ps,cs=>∃ c r,cs=c::r∧ZD bs.length (cR bs) (hR bs) (ratP p.1 p.2) c∧ZU bs ps r
theorem Zcu {bs:List BB} (h:CurveP bs) (q:Rat):∃ c,ZD bs.length (cR bs) (hR bs) q c:=by
 have hl:=h.len
 obtain⟨k,hk⟩:=ZaQ.exists (n:=bs.length) (C:=cR bs) q (bs.length-1) (by omega)
 rw[Nat.sub_add_cancel (by omega)] at hk
 exact⟨_,k,hk,rfl⟩
theorem ZU.exists {bs:List BB} (h:CurveP bs):∀ ps,∃ cs,ZU bs ps cs
 | []=>⟨[],rfl⟩
 | p::ps=>by
  obtain⟨c,hc⟩:=Zcu h (ratP p.1 p.2)
  obtain⟨r,hr⟩:=ZU.exists h ps
  exact⟨c::r,c,r,rfl,hc,hr⟩
theorem ZU.unique {bs:List BB} : ∀ {ps:List PP} {cs ds:List Rat},ZU bs ps cs→ZU bs ps ds→cs=ds
 | [],cs,ds,h,g=>by rw[show cs=[] from h,show ds=[] from g]
 | p::ps,cs,ds,h,g=>by
  obtain⟨c,r,rfl,h1,h2⟩:=h
  obtain⟨d,s,rfl,g1,g2⟩:=g
  rw[h1.unique g1,ZU.unique h2 g2]
theorem ZU.append {bs:List BB} : ∀ {ps qs:List PP} {cs ds:List Rat},ZU bs ps cs→ZU bs qs ds→ZU bs (ps++qs) (cs++ds)
 | [],qs,cs,ds,h,g=>by rw[show cs=[] from h];exact g
 | p::ps,qs,cs,ds,h,g=>by
  obtain⟨c,r,rfl,h1,h2⟩:=h
  exact⟨c,r++ds,rfl,h1,h2.append g⟩
theorem ZU.reverse {bs:List BB} : ∀ {ps:List PP} {cs:List Rat},ZU bs ps cs→ZU bs ps.reverse cs.reverse
 | [],cs,h=>by rw[show cs=[] from h];exact rfl
 | p::ps,cs,h=>by
  obtain⟨c,r,rfl,h1,h2⟩:=h
  rw[List.reverse_cons,List.reverse_cons]
  exact h2.reverse.append ⟨c,[],rfl,h1,rfl⟩
theorem ZU.range {bs:List BB} (hC:CurveP bs):∀ {ps:List PP} {cs:List Rat},ZU bs ps cs→∀ c ∈ cs,0≤c∧c≤1
 | [],cs,h,c,hc=>by rw[show cs=[] from h] at hc;cases hc
 | p::ps,cs,h,c,hc=>by
  obtain⟨d,r,rfl,h1,h2⟩:=h
  rcases List.mem_cons.1 hc with rfl | hc
  ·exact⟨h1.nn hC.conc' (ZbE _ _),h1.top hC.conc'⟩
  ·exact h2.range hC c hc
def ZcU (a:Rat) (cs:List Rat) (x y:ByteArray) (n:Int):Prop:=(∃ r,Zgi a cs=some r∧IsP r x y∧n=0)∨(Zgi a cs=none∧x=⟨#[]⟩∧y=⟨#[]⟩∧n=4)
def Zl8 (bs:List BB) (ps:List PP):Prop:=(CurveP bs∧ps.all (Zh 300)=true)∧ps.length≤512
def Zgv (bs:List BB) (ps:List PP) (x y:ByteArray) (n:Int):Prop:=
 (¬ Zl8 bs ps∧x=⟨#[]⟩∧y=⟨#[]⟩∧n=2)∨(Zl8 bs ps∧∃ cs,ZU bs ps cs∧ZcU 1 cs x y n)
theorem ZcU.det {a:Rat} {cs:List Rat} {x y u v:ByteArray} {n m:Int} (h:ZcU a cs x y n) (g:ZcU a cs u v m):x=u∧y=v∧n=m:=by
 rcases h with ⟨r,h1,h2,rfl⟩ | ⟨h1,rfl,rfl,rfl⟩
 ·rcases g with ⟨s,g1,g2,rfl⟩ | ⟨g1,_⟩
  ·rw[h1] at g1
   obtain⟨e1,e2⟩:=ZbC h2 g2 (Option.some.inj g1)
   exact⟨e1,e2,rfl⟩
  ·rw[h1] at g1;cases g1
 ·rcases g with ⟨s,g1,_⟩ | ⟨_,rfl,rfl,rfl⟩
  ·rw[h1] at g1;cases g1
  ·exact⟨rfl,rfl,rfl⟩
theorem Zgv.det {bs:List BB} {ps:List PP} {x y u v:ByteArray} {n m:Int} (h:Zgv bs ps x y n) (g:Zgv bs ps u v m):x=u∧y=v∧n=m:=by
 rcases h with ⟨h,rfl,rfl,rfl⟩ | ⟨h,cs,h1,h2⟩
 ·rcases g with ⟨_,rfl,rfl,rfl⟩ | ⟨g,_⟩
  ·exact⟨rfl,rfl,rfl⟩
  ·exact absurd g h
 ·rcases g with ⟨g,_⟩ | ⟨_,ds,g1,g2⟩
  ·exact absurd h g
  ·rw[h1.unique g1] at h2
   exact h2.det g2
def ZcZ (bs:List BB) (ps:List PP) (k:Nat) (a:Rat):Prop:=∀ x y n,(∃ cs,ZU bs (ps.drop k) cs∧ZcU a cs x y n)→∃ cs,ZU bs ps cs∧ZcU 1 cs x y n
theorem ZcZ.zero (bs:List BB) (ps:List PP):ZcZ bs ps 0 1:=fun _ _ _ h=>h
theorem Zg7 {ps:List PP} {k:Nat} (hk:k<ps.length):ps.drop k=ps[k]::ps.drop (k+1):=(List.drop_eq_getElem_cons hk)
theorem ZcZ.step {bs:List BB} {ps:List PP} {k:Nat} {a c:Rat} (h:ZcZ bs ps k a) (hk:k<ps.length) (hc:ZD bs.length (cR bs) (hR bs) (ratP ps[k].1 ps[k].2) c) (hf:Fits (a*(1-c))):ZcZ bs ps (k+1) (a*(1-c)):=by
 rintro x y n ⟨cs,h1,h2⟩
 refine h x y n ⟨c::cs,?_,?_⟩
 ·rw[Zg7 hk]
  exact⟨c,cs,rfl,hc,h1⟩
 ·unfold ZcU Zgi
  rw[if_pos hf]
  exact h2
theorem ZcZ.stop {bs:List BB} {ps:List PP} {k:Nat} {a c:Rat} (h:ZcZ bs ps k a) (hC:CurveP bs) (hk:k<ps.length) (hc:ZD bs.length (cR bs) (hR bs) (ratP ps[k].1 ps[k].2) c) (hf:¬ Fits (a*(1-c))) :
  ∃ cs,ZU bs ps cs∧ZcU 1 cs ⟨#[]⟩ ⟨#[]⟩ 4:=by
 obtain⟨cs,h1⟩:=ZU.exists hC (ps.drop (k+1))
 refine h _ _ _ ⟨c::cs,?_,.inr ⟨?_,rfl,rfl,rfl⟩⟩
 ·rw[Zg7 hk]
  exact⟨c,cs,rfl,hc,h1⟩
 ·unfold Zgi
  rw[if_neg hf]
theorem ZcZ.done {bs:List BB} {ps:List PP} {a:Rat} (h:ZcZ bs ps ps.length a) {x y:ByteArray} (hx:IsP a x y):∃ cs,ZU bs ps cs∧ZcU 1 cs x y 0:=by
 refine h x y 0 ⟨[],?_,.inl ⟨a,rfl,hx,rfl⟩⟩
 rw[List.drop_length]
 exact rfl
theorem Zgv.nums {bs:List BB} {ps:List PP} {x y:ByteArray} {n:Int} (h:Zgv bs ps x y n):n=2∨n=0∨n=4:=by
 rcases h with ⟨_,_,_,h⟩ | ⟨_,cs,_,⟨_,_,_,h⟩ | ⟨_,_,_,h⟩⟩
 ·exact .inl h
 ·exact .inr (.inl h)
 ·exact .inr (.inr h)
open Classical in
noncomputable def chF (bs:List BB) (q:Rat):Rat:=if h:∃ r,ZD bs.length (cR bs) (hR bs) q r then Classical.choose h else 0
theorem Zgf {bs:List BB} (h:CurveP bs) (q:Rat):ZD bs.length (cR bs) (hR bs) q (chF bs q):=by
 have hex:=Zcu h q
 unfold chF
 rw[dif_pos hex]
 exact Classical.choose_spec hex
theorem ZeJ {bs:List BB} (h:CurveP bs) {q r:Rat} (hr:ZD bs.length (cR bs) (hR bs) q r):chF bs q=r:=(Zgf h q).unique hr
def rR (t:TaskP) (u i:Nat):Rat:=ratP (eR t u i).1 (eR t u i).2
def wR (t:TaskP) (i:Nat):Rat:=ratP (eS t i).weight.1 (eS t i).weight.2
def ZaJ (t:TaskP) (p:List (List Int)) (i:Nat):Nat→Rat
 | 0=>0
 | k+1=>ZaJ t p i k+rR t k i*((pN p k i:Int):Rat)
def covR (t:TaskP) (p:List (List Int)) (i:Nat):Rat:=ZaJ t p i p.length
def sumF (f:Nat→Rat):Nat→Rat
 | 0=>0
 | k+1=>sumF f k+f k
end Go.Proofs.YtmpaflidennnoaaGreatDoor
