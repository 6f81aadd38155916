/- The parts ECheck, ESpots, EPlan, EBegin of a proof, put together by program (merge7.py). -/
import Derived.Test.YtmpaflidennnoaaGreatDoorH01
import Derived.Test.YtmpaflidennnoaaGreatDoorH22
import Derived.Test.YtmpaflidennnoaaGreatDoorH24
import Derived.Deep.AppendLies
set_option maxRecDepth 100000
set_option maxHeartbeats 4000000
set_option linter.unusedVariables false
set_option linter.unusedSimpArgs false
namespace Go.Proofs.YtmpaflidennnoaaGreatDoor
open Go.RowKit Go.Shelf
attribute [local go_sem ↓] Go.wp_at_zero Go.wp_at_succ
theorem ZfT {p:List (List Int)} {u N:Nat} (h:∀ i,i<N→0≤pN p u i∧pN p u i≤48):∀ k,k≤N→0≤ZA p u k∧ZA p u k≤48*k
 | 0,_=>⟨Int.le_refl _,Int.le_refl _⟩
 | k+1,hk=>by
  have h1:=ZfT h k (by omega)
  have h2:=h k (by omega)
  unfold ZA
  omega
def LimT (t:TaskP):Prop:=(∀ s ∈ t.sites,(s.weight.1.size≤1000000∧s.weight.2.size≤1000000)∧LimB s.curve)∧∀ l ∈ t.rates,LimP l
def ZjC (P:Prop) (w:World) (e:Ending) (w':World):Prop:=((P∧e=.returned (.int .i64 0))∨(¬ P∧e=.returned (.int .i64 2)))∧Below w.heap.size w w'
theorem Zld {ps:List PP} {k n:Nat} (hn:ps.length=n):(∀ j,j<n→Zm k (ps.getD j (⟨#[]⟩,⟨#[]⟩))=true)↔∀ p ∈ ps,Zm k p=true:=by
 constructor
 ·intro h p hp
  obtain⟨j,hj,rfl⟩:=List.getElem_of_mem hp
  have:=h j (by omega)
  rwa [show ps.getD j (⟨#[]⟩,⟨#[]⟩)=ps[j] by simp[List.getD,hj]] at this
 ·intro h j hj
  have hj':j<ps.length:=by omega
  rw[show ps.getD j (⟨#[]⟩,⟨#[]⟩)=ps[j] by simp[List.getD,hj']]
  exact h _ (List.getElem_mem hj')
theorem ZiO (s t:ByteArray) (hs:s.size≤1000000) (ht:t.size≤1000000) (w:World) :
  Calls Tryz.prog 81 #[pV s t] w (ZZ w (!Zm 9 (s,t))):=by
 have HAL:=Lib.hid ((Below.refl w.heap.size w).alloc (Nat.le_refl _) (pObj s t))
 have HR:=Lib.hid (Zd5 9 s t hs ht (w.alloc (pObj s t)))
 obtain⟨r,hr⟩:∃ r,Zm 9 (s,t)=r:=⟨_,rfl⟩
 rw[hr] at HR ⊢
 clear hr
 go_enter Tryz.func81,Tryz.ntmps81
 go_wp2_with fail
 refine HR.out.mono ?_
 rintro e w2 ⟨rfl,hb⟩
 have HB2:=Lib.hid (HAL.out.trans (hb.mono HAL.out.size))
 clear hb HR HAL
 go_wp2
 go_ret
 exact⟨rfl,HB2.out⟩
abbrev ckO (v:Value) (s t:ByteArray):Obj:=.cells #[.string s,.string t,v] 74
theorem Zc7 {t:TaskP} {sv hv rv:Value} {w:World} (h:TaskIn t sv hv rv w) (hz:LimT t) :
  Calls Tryz.prog 29 #[.agg #[sv,hv,rv]] w (ZjC (TaskOk t) w):=by
 obtain⟨N,hN⟩:∃ n,t.sites.length=n:=⟨_,rfl⟩
 obtain⟨T,hT⟩:∃ n,t.hours.length=n:=⟨_,rfl⟩
 obtain⟨R,hR⟩:∃ n,t.rates.length=n:=⟨_,rfl⟩
 obtain⟨ps,cs,rfl,hs1,hs2⟩:=h.sites.shape hN
 obtain⟨ph,ch,rfl,hh1,hh2⟩:=h.hours.shape hT
 obtain⟨pr,cr,rfl,hr1,hr2⟩:=h.rates.shape hR
 have HT:=Lib.hid h
 have HZ:=Lib.hid hz
 have HN:=Lib.hid hN
 have HTT:=Lib.hid hT
 have HR:=Lib.hid hR
 have HE0:Hid (Env w.heap.size w [(w.heap.size,.cells #[.slice ps N cs,.slice ph T ch,.slice pr R cr] 26)] [] (w.alloc (.cells #[.slice ps N cs,.slice ph T ch,.slice pr R cr] 26))):=(Env.start w).push _ rfl
 have hN9:N≤9223372036854775807:=by omega
 clear h hz hN hT hR
 go_enter Tryz.func29,Tryz.ntmps29
 go_wp2_with fail
 refine(ZaY N 1 24 _).mono ?_
 rintro e w1 ⟨rfl,hb⟩
 have HE1:=Lib.hid (HE0.out.step hb)
 clear hb HE0
 by_cases hA:1≤N∧N≤24
 rotate_left
 ·have HNO:Hid (¬ TaskOk t):=fun k=>hA (by have:=k.sites;rw[HN.out] at this;exact this)
  have hw:(decide ((1:Int)≤(N:Int)) && decide ((N:Int)≤24))=false:=by
   rw[← Bool.not_eq_true]
   simp only[Bool.and_eq_true,decide_eq_true_eq]
   omega
  rw[hw]
  clear hA hw
  go_wp2
  exact bodyPost_ret (v:=.int .i64 2) (by simp[results,Tryz.f29,go_sem]) rfl ⟨.inr ⟨HNO.out,rfl⟩,HE1.out.base⟩
 have hw:(decide ((1:Int)≤(N:Int)) && decide ((N:Int)≤24))=true:=by simp;omega
 rw[hw]
 clear hw
 have b0:=HE1.out.cell 0 0 (v:=.slice ps N cs) rfl rfl
 have b1:=HE1.out.cell 0 1 (v:=.slice ph T ch) rfl rfl
 have b2:=HE1.out.cell 0 2 (v:=.slice pr R cr) rfl rfl
 go_wp2_with fail
 refine(ZaY T 1 8 _).mono ?_
 rintro e w2 ⟨rfl,hb⟩
 have HE2:=Lib.hid (HE1.out.step hb)
 clear hb HE1 b0 b1 b2
 by_cases hB:1≤T∧T≤8
 rotate_left
 ·have HNO:Hid (¬ TaskOk t):=fun k=>hB (by have:=k.teams;rw[HTT.out] at this;exact this)
  have hw:(decide ((1:Int)≤(T:Int)) && decide ((T:Int)≤8))=false:=by
   rw[← Bool.not_eq_true]
   simp only[Bool.and_eq_true,decide_eq_true_eq]
   omega
  rw[hw]
  clear hB hw
  go_wp2
  exact bodyPost_ret (v:=.int .i64 2) (by simp[results,Tryz.f29,go_sem]) rfl ⟨.inr ⟨HNO.out,rfl⟩,HE2.out.base⟩
 have hw:(decide ((1:Int)≤(T:Int)) && decide ((T:Int)≤8))=true:=by simp;omega
 rw[hw]
 clear hw
 have b0:=HE2.out.cell 0 0 (v:=.slice ps N cs) rfl rfl
 have b1:=HE2.out.cell 0 1 (v:=.slice ph T ch) rfl rfl
 have b2:=HE2.out.cell 0 2 (v:=.slice pr R cr) rfl rfl
 by_cases hC:R=T
 rotate_left
 ·have HNO:Hid (¬ TaskOk t):=fun k=>hC (by have:=k.rates;rw[HR.out,HTT.out] at this;exact this)
  have hc:((R:Int) !=(T:Int))=true:=by rw[bne_iff_ne];omega
  clear hC
  go_wp2
  exact bodyPost_ret (v:=.int .i64 2) (by simp[results,Tryz.f29,go_sem]) rfl ⟨.inr ⟨HNO.out,rfl⟩,HE2.out.base⟩
 subst hC
 have hc:((R:Int) !=(R:Int))=false:=by simp
 go_wp2_with fail
 clear b0 b1 b2 hc
 go_loopw [32] (fun iv wr=>∃ k:Nat,iv=.int .i64 k∧k≤N∧Hid (∀ i,i<k→Zm 9 (eS t i).weight=true∧CurveP (eS t i).curve)∧Hid (Env w.heap.size w [(w.heap.size,.cells #[.slice ps N cs,.slice ph R ch,.slice pr R cr] 26)] [] wr)) (fun iv _=>N-(intOf iv).toNat)
 case atStart=>exact⟨0,rfl,Nat.zero_le _,fun i h=>absurd h (Nat.not_lt_zero _),HE2⟩
 case round=>
  obtain⟨k,rfl,hk,HK,HE⟩:=hrel
  clear HE2
  by_cases hlt:k<N
  ·obtain⟨sb,so,rfl,hsb,hat⟩:=HT.out.sites.at Ze9.stays HN.out (by omega)
   have hkl:k<t.sites.length:=by rw[HN.out];exact hlt
   obtain⟨e0,e1,v,e2,hbl⟩:=hat wr HE.out.base k hkl
   obtain⟨⟨hz1,hz2⟩,hzb⟩:=HZ.out.1 _ (List.getElem_mem hkl)
   rw[Zia hkl] at e0 e1 hbl hz1 hz2 hzb
   obtain⟨⟨s1,t1⟩,hs1'⟩:∃ z,(eS t k).weight=z:=⟨_,rfl⟩
   rw[hs1'] at e0 e1 hz1 hz2
   have HSW:=Lib.hid hs1'
   obtain⟨pq,cq,rfl,_⟩:=id hbl
   obtain⟨nq,hnq⟩:∃ n,(eS t k).curve.length=n:=⟨_,rfl⟩
   rw[hnq] at e2 hbl
   have HBL:=Lib.hid hbl
   have HZB:=Lib.hid hzb
   dsimp only at e0 e1 hz1 hz2
   have HE3:=Lib.hid (HE.out.push (ckO (.slice pq nq cq) s1 t1) rfl)
   have HAL:Hid (Below wr.heap.size wr (wr.alloc (ckO (.slice pq nq cq) s1 t1))):=(Below.refl _ wr).alloc (Nat.le_refl _) _
   have i0':(0:Int)≤(k:Int):=by omega
   have i1':(k:Int)<(N:Int):=by omega
   clear hat hbl hzb hs1' hnq
   go_wp2_with fail
   refine(Zd5 9 s1 t1 hz1 hz2 _).mono ?_
   rintro e w4 ⟨rfl,hb⟩
   have HE4:=Lib.hid ((HE3.out.step hb).only [1,0] _ rfl (by decide))
   have HB4:Hid (Below wr.heap.size wr w4):=HAL.out.trans (hb.mono HAL.out.size)
   clear hb e0 e1 e2 HE3 HAL
   cases hsm:Zm 9 (s1,t1)
   ·have HNO:Hid (¬ TaskOk t):=fun h=>by
     have:=(h.site k (by rw[HN.out];exact hlt)).1
     rw[HSW.out,hsm] at this
     cases this
    clear hsm
    go_wp2
    exact bodyPost_ret (v:=.int .i64 2) (by simp[results,Tryz.f29,go_sem]) rfl ⟨.inr ⟨HNO.out,rfl⟩,HE4.out.base⟩
   ·have HSM:=Lib.hid hsm
    have c2:=HE4.out.cell 1 2 (v:=.slice pq nq cq) rfl rfl
    clear hsm
    go_wp2_with fail
    refine(ZdV (HBL.out.after HB4.out (Nat.le_refl _)) HZB.out ((HT.out.below HE4.out.base (Nat.le_refl _)).det) ((HT.out.below HE4.out.base (Nat.le_refl _)).tabs)).mono ?_
    rintro e w5 ⟨n,rfl,hE,hb⟩
    have HE5:=Lib.hid ((HE4.out.step hb).only [0] _ rfl (by decide))
    clear hb c2 HE4
    rcases hE with ⟨hc,rfl⟩ | ⟨hc,rfl⟩
    ·have HK2:Hid (∀ i,i<k+1→Zm 9 (eS t i).weight=true∧CurveP (eS t i).curve):=fun i hi=>by
      rcases Nat.lt_or_ge i k with h | h
      ·exact HK.out i h
      ·obtain rfl:i=k:=by omega
       exact⟨by rw[HSW.out];exact HSM.out,hc⟩
     clear hc
     go_wp2
     go_roundw
     case rel=>exact⟨k+1,by go_num,by omega,HK2,HE5⟩
     case measure=>simp[intOf];omega
    ·have HNO:Hid (¬ TaskOk t):=fun h=>hc (h.site k (by rw[HN.out];exact hlt)).2
     clear hc
     go_wp2
     exact bodyPost_ret (v:=.int .i64 2) (by simp[results,Tryz.f29,go_sem]) rfl ⟨.inr ⟨HNO.out,rfl⟩,HE5.out.base⟩
  ·have hkN:k=N:=by omega
   have HSI:Hid (∀ i,i<N→Zm 9 (eS t i).weight=true∧CurveP (eS t i).curve):=by rw[← hkN];exact HK.out
   clear HK hkN
   have b0:=HE.out.cell 0 0 (v:=.slice ps N cs) rfl rfl
   have b1:=HE.out.cell 0 1 (v:=.slice ph R ch) rfl rfl
   have b2:=HE.out.cell 0 2 (v:=.slice pr R cr) rfl rfl
   go_wp2_with fail
   clear b0 b1 b2
   go_loopw [50] (fun iv wr=>∃ u:Nat,iv=.int .i64 u∧u≤R∧Hid (∀ v (h:v<t.rates.length),v<u→(0≤eH t v∧eH t v≤48)∧t.rates[v].length=N∧∀ p ∈ t.rates[v],Zm 9 p=true)∧Hid (Env w.heap.size w [(w.heap.size,.cells #[.slice ps N cs,.slice ph R ch,.slice pr R cr] 26)] [] wr)) (fun iv _=>R-(intOf iv).toNat)
   case atStart=>exact⟨0,rfl,Nat.zero_le _,fun v _ h=>absurd h (Nat.not_lt_zero _),HE⟩
   case round=>
    clear HE
    obtain⟨u,rfl,hu,HU,HE⟩:=hrel
    by_cases hlt2:u<R
    ·obtain⟨rb,ro,rfl,hrb,hrat⟩:=HT.out.rates.at PPL.stays HR.out (by omega)
     obtain⟨hb',ho,rfl,hhb,hhat⟩:=HT.out.hours.at IntR.stays HTT.out (by omega)
     have hul:u<t.rates.length:=by rw[HR.out];exact hlt2
     have hul2:u<t.hours.length:=by rw[HTT.out];exact hlt2
     obtain⟨v,e0,hpl⟩:=hrat _ HE.out.base u hul
     have e1:=hhat _ HE.out.base u hul2
     unfold IntR at e1
     rw[Nat.mul_one] at e0 e1
     rw[Zlg hul2] at e1
     have hzl:=HZ.out.2 _ (List.getElem_mem hul)
     obtain⟨l,hl⟩:∃ l,t.rates[u]=l:=⟨_,rfl⟩
     rw[hl] at hpl hzl
     have HL:=Lib.hid hl
     obtain⟨nl,hnl⟩:∃ n,l.length=n:=⟨_,rfl⟩
     obtain⟨pl,cl,rfl⟩:∃ p c,v=.slice p nl c:=by obtain⟨p,c,h,_⟩:=id hpl;exact⟨_,_,by rw[← hnl];exact h⟩
     obtain⟨hh,hhh⟩:∃ z,eH t u=z:=⟨_,rfl⟩
     rw[hhh] at e1
     have HNL:=Lib.hid hnl
     have HHH:=Lib.hid hhh
     have HPL:Hid (∀ V,Below wr.heap.size wr V→PL V (.slice pl nl cl) l):=fun V hV=>hpl.after hV (Nat.le_refl _)
     have HZL:=Lib.hid hzl
     have i0':(0:Int)≤(u:Int):=by omega
     have i1':(u:Int)<(R:Int):=by omega
     clear hrat hhat hl hnl hhh hpl hzl
     have b0:=HE.out.cell 0 0 (v:=.slice ps N cs) rfl rfl
     have b1:=HE.out.cell 0 1 (v:=.slice (some ⟨hb',ho,none⟩) R ch) rfl rfl
     have b2:=HE.out.cell 0 2 (v:=.slice (some ⟨rb,ro,none⟩) R cr) rfl rfl
     go_wp2_with fail
     refine(ZaY hh 0 48 _).mono ?_
     rintro e w6 ⟨rfl,hb⟩
     have HE6:=Lib.hid (HE.out.step hb)
     have HB6:=Lib.hid hb
     clear hb b0 b1 b2 e0 e1 HE
     by_cases hw:0≤hh∧hh≤48
     rotate_left
     ·have HNO:Hid (¬ TaskOk t):=fun h=>hw (by have:=(h.team u hul).1;rw[HHH.out] at this;exact this)
      have hwd:(decide ((0:Int)≤hh) && decide (hh≤48))=false:=by
       rw[← Bool.not_eq_true]
       simp only[Bool.and_eq_true,decide_eq_true_eq]
       omega
      rw[hwd]
      clear hw hwd
      go_wp2
      exact bodyPost_ret (v:=.int .i64 2) (by simp[results,Tryz.f29,go_sem]) rfl ⟨.inr ⟨HNO.out,rfl⟩,HE6.out.base⟩
     have hwd:(decide ((0:Int)≤hh) && decide (hh≤48))=true:=by simp;omega
     rw[hwd]
     clear hwd
     have b0:=HE6.out.cell 0 0 (v:=.slice ps N cs) rfl rfl
     have b1:=HE6.out.cell 0 1 (v:=.slice (some ⟨hb',ho,none⟩) R ch) rfl rfl
     have b2:=HE6.out.cell 0 2 (v:=.slice (some ⟨rb,ro,none⟩) R cr) rfl rfl
     by_cases hD:nl=N
     rotate_left
     ·have HNO:Hid (¬ TaskOk t):=fun h=>hD (by have:=(h.team u hul).2.1;rw[HL.out,HNL.out,HN.out] at this;exact this)
      have hc:((nl:Int) !=(N:Int))=true:=by rw[bne_iff_ne];omega
      clear hD
      go_wp2
      exact bodyPost_ret (v:=.int .i64 2) (by simp[results,Tryz.f29,go_sem]) rfl ⟨.inr ⟨HNO.out,rfl⟩,HE6.out.base⟩
     subst hD
     have hc:((nl:Int) !=(nl:Int))=false:=by simp
     go_wp2_with fail
     refine(Zc1 (enters_of Tryz.func81 (by kernel_rfl) rfl) (f:=fun j=>!Zm 9 (l.getD j (⟨#[]⟩,⟨#[]⟩))) (caps:=#[]) (HPL.out _ HB6.out) HNL.out fun j hj W hW=>?_).mono ?_
     ·have hj2:j<l.length:=by first | exact hj | (rw[HNL.out];exact hj)
      have hzz:=HZL.out _ (List.getElem_mem hj2)
      have e:l.getD j (⟨#[]⟩,⟨#[]⟩)=l[j]:=by simp[List.getD,hj2]
      rw[e]
      have:=ZiO l[j].1 l[j].2 hzz.1 hzz.2 W
      simpa using this
     rintro e w7 ⟨bb,rfl,hE,hb⟩
     have HE7:=Lib.hid (HE6.out.step hb)
     clear hb b0 b1 b2 hc HE6 HB6
     rcases hE with ⟨rfl,j,hj,hj2⟩ | ⟨rfl,hall⟩
     ·have HNO:Hid (¬ TaskOk t):=fun h=>by
       have h3:=(h.team u hul).2.2 j (by rw[HN.out];exact hj)
       have h4:j<t.rates[u].length:=by rw[HL.out,HNL.out];exact hj
       rw[← Zif hul h4] at h3
       have h5:j<l.length:=by rw[HNL.out];exact hj
       dsimp only at hj2
       rw[show l.getD j (⟨#[]⟩,⟨#[]⟩)=t.rates[u][j] by simp[List.getD,h5,HL.out],h3] at hj2
       cases hj2
      clear hj hj2
      go_wp2
      exact bodyPost_ret (v:=.int .i64 2) (by simp[results,Tryz.f29,go_sem]) rfl ⟨.inr ⟨HNO.out,rfl⟩,HE7.out.base⟩
     ·have HU2:Hid (∀ v (h:v<t.rates.length),v<u+1→(0≤eH t v∧eH t v≤48)∧t.rates[v].length=nl∧∀ p ∈ t.rates[v],Zm 9 p=true):=fun v hv hvu=>by
       rcases Nat.lt_or_ge v u with h | h
       ·exact HU.out v hv h
       ·obtain rfl:v=u:=by omega
        refine⟨by rw[HHH.out];exact hw,by rw[HL.out,HNL.out],?_⟩
        rw[HL.out]
        exact(Zld HNL.out).1 fun j hj=>by have:=hall j hj;simpa using this
      clear hall hw
      go_wp2
      go_roundw
      case rel=>exact⟨u+1,by go_num,by omega,HU2,HE7⟩
      case measure=>simp[intOf];omega
    ·have HYES:Hid (TaskOk t):=by
      have huR:u=R:=by omega
      refine⟨by rw[HN.out];exact hA,by rw[HTT.out];exact hB,by rw[HR.out,HTT.out],fun i hi=>HSI.out i (by rw[← HN.out];exact hi),fun v hv=>?_⟩
      obtain⟨h1,h2,h3⟩:=HU.out v hv (by rw[huR,← HR.out];exact hv)
      refine⟨h1,by rw[HN.out];exact h2,fun i hi=>?_⟩
      have hi2:i<t.rates[v].length:=by rw[h2,← HN.out];exact hi
      rw[← Zif hv hi2]
      exact h3 _ (List.getElem_mem hi2)
     go_wp2
     exact bodyPost_ret (v:=.int .i64 0) (by simp[results,Tryz.f29,go_sem]) rfl ⟨.inl ⟨HYES.out,rfl⟩,HE.out.base⟩
end Go.Proofs.YtmpaflidennnoaaGreatDoor
namespace Go.Proofs.YtmpaflidennnoaaGreatDoor
open Go.RowKit Go.Shelf
attribute [local go_sem ↓] Go.wp_at_zero Go.wp_at_succ
attribute [local go_sem] Oper.semAt_some
def Za0 (t:TaskP) (p:List (List Int)) (j:Nat):Bool:=decide (0<Zaq t p (j/t.sites.length))
def Zad (t:TaskP) (p:List (List Int)):List Nat:=pick (Za0 t p) (p.length*t.sites.length)
def Zcg (t:TaskP) (p:List (List Int)) (k:Nat):Int×Int:=((((Zad t p).getD k 0/t.sites.length:Nat):Int),(((Zad t p).getD k 0 % t.sites.length:Nat):Int))
structure SpotF (t:TaskP) (p:List (List Int)) (T N Bs b hb ho hc pb po pc:Nat) (gq gp gc:Nat→Nat) (w:World):Prop where
 box:w.cell? ⟨Bs,0,none⟩=some (.pointer (some ⟨b,0,none⟩))
 w1:w.cell? ⟨b,1,none⟩=some (.slice (some ⟨hb,ho,none⟩) T hc)
 w3:w.cell? ⟨b,3,none⟩=some (.slice (some ⟨pb,po,none⟩) T pc)
 hour:∀ u,u<T→w.cell? ⟨hb,ho+u,none⟩=some (.int .i64 (eH t u))
 plan:∀ u,u<T→w.cell? ⟨pb,po+u,none⟩=some (.slice (some ⟨gq u,gp u,none⟩) N (gc u))∧N≤gc u∧gc u≤9223372036854775807∧∀ i,i<N→w.cell? ⟨gq u,gp u+i,none⟩=some (.int .i64 (pN p u i))
theorem Zkj {t:TaskP} {p:List (List Int)} {T N Bs b hb ho hc pb po pc:Nat} {gq gp gc:Nat→Nat} {S:Nat→Prop} {w0:World} (hT:p.length=T) (hN:t.sites.length=N) (hN24:1≤N∧N≤24) (hT8:T≤8) (hhc:T≤hc∧hc≤9223372036854775807) (hpc:T≤pc∧pc≤9223372036854775807)
  (hF:∀ V,Keeps S w0 V→SpotF t p T N Bs b hb ho hc pb po pc gq gp gc V) (hH:∀ u,u<T→0≤eH t u∧eH t u≤48) (hP:∀ u i,u<T→i<N→0≤pN p u i∧pN p u i≤48) :
  Iter Tryz.prog 160 #[.pointer (some ⟨Bs,0,none⟩)] (fun k=>#[spV (Zcg t p k).1 (Zcg t p k).2]) (Zad t p).length S (fun _=>True) w0:=by
 intro n l J Jx W hK hJ hJx hY h0
 have HFF:Hid (∀ V,Keeps S W V→SpotF t p T N Bs b hb ho hc pb po pc gq gp gc V):=fun V hV=>hF V (hK.trans hV)
 have HY:=Lib.hid hY
 have HJ:=Lib.hid hJ
 have HH:=Lib.hid hH
 have HP:=Lib.hid hP
 have HTL:=Lib.hid hT
 have HNL:=Lib.hid hN
 clear hF hY hJ hK hH hP
 have F0:=HFF.out W (Keeps.refl _ _)
 have a0:=F0.box
 have a1:=F0.w3
 obtain⟨hN1,hN2⟩:=hN24
 clear F0 hT hN
 refine callsIn_of_wp Tryz.func160 rfl trivial ?_ rfl
 simp only[Tryz.ntmps160,List.size_toArray,List.length_cons,List.length_nil,Nat.reduceAdd,Nat.reduceSub,Array.replicate_succ,Array.replicate_zero,List.push_toArray,List.append_toArray,List.nil_append,List.cons_append]
 gi_wp2
 clear a0 a1
 gi_loopw [14] (fun iv wr=>∃ u:Nat,iv=.int .i64 u∧u≤T∧J (pick (Za0 t p) (u*N)).length wr∧Hid (Keeps S W wr)) (fun iv _=>T-(intOf iv).toNat)
 case atStart=>exact⟨0,rfl,Nat.zero_le _,by rw[Nat.zero_mul];exact h0,Keeps.refl _ _⟩
 case round=>
  obtain⟨u,rfl,hu,hJs,HN⟩:=hrel
  have F1:=HFF.out wr HN.out
  have a0:=F1.box
  have a1:=F1.w1
  by_cases hlt:u<T
  ·obtain⟨b0,b1,b2,b3⟩:=F1.plan u hlt
   have b4:=F1.hour u hlt
   have HR:Hid (∀ V,Keeps S W V→V.cell? ⟨pb,po+u,none⟩=some (.slice (some ⟨gq u,gp u,none⟩) N (gc u))∧∀ i,i<N→V.cell? ⟨gq u,gp u+i,none⟩=some (.int .i64 (pN p u i))):=fun V hV=>by
    obtain⟨c0,_,_,c1⟩:=(HFF.out V hV).plan u hlt
    exact⟨c0,c1⟩
   have hpu:=fun i hi=>HP.out u i hlt hi
   have hhu:=HH.out u hlt
   have HPU:=Lib.hid hpu
   obtain⟨q,hq⟩:∃ z,gq u=z:=⟨_,rfl⟩
   obtain⟨o,ho'⟩:∃ z,gp u=z:=⟨_,rfl⟩
   obtain⟨c,hc'⟩:∃ z,gc u=z:=⟨_,rfl⟩
   obtain⟨h,hh⟩:∃ z,eH t u=z:=⟨_,rfl⟩
   rw[hq,ho',hc'] at b0 HR
   rw[hc'] at b1 b2
   rw[hh] at b4 hhu
   have HHU:=Lib.hid hh
   have i0':(0:Int)≤(u:Int):=by omega
   have i1':(u:Int)<(T:Int):=by omega
   clear b3 hpu hq ho' hc' hh F1
   gi_wp2_with fail
   clear a0 a1 b0 b4
   gi_loopw [5,29] (fun va vi wv=>∃ i:Nat,vi=.int .i64 i∧i≤N∧va=.int .i64 (h-ZA p u i)∧wv=wr) (fun _ vi _=>N-(intOf vi).toNat)
   case atStart=>exact⟨0,rfl,Nat.zero_le _,by simp[ZA],rfl⟩
   case round=>
    obtain⟨i,rfl,hi,rfl,rfl⟩:=hrel
    by_cases hlt2:i<N
    ·have c1:=(HR.out _ HN.out).2 i hlt2
     have hs1:=ZfT HPU.out i hi
     have hs2:=HPU.out i hlt2
     obtain⟨m,hm⟩:∃ z,pN p u i=z:=⟨_,rfl⟩
     rw[hm] at c1 hs2
     have hi24:i≤24:=by omega
     have e1:Hid (IntKind.i64.wrap (h-ZA p u i-m)=h-ZA p u (i+1)):=by
      show _=_
      rw[IntWalk.i64_in _ (by omega)]
      show h-ZA p u i-m=h-(ZA p u i+pN p u i)
      rw[hm]
      omega
     have e1':=e1.out
     clear hm hs1 hs2
     have j0':(0:Int)≤(i:Int):=by omega
     have j1':(i:Int)<(N:Int):=by omega
     gi_wp2
     go_roundw
     case rel=>exact⟨i+1,by go_num,by omega,by first | rfl | rw[e1.out],by first | rfl | trivial⟩
     case measure=>simp[intOf];omega
    ·obtain rfl:i=N:=by omega
     have hlf:h-ZA p u i=Zaq t p u:=by
      unfold Zaq
      rw[HHU.out,HNL.out]
     obtain⟨lf,hlf2⟩:∃ z,h-ZA p u i=z:=⟨_,rfl⟩
     rw[hlf2] at hlf ⊢
     have HLF:=Lib.hid hlf
     clear hlf hlf2
     gi_wp2_with fail
     gi_loopw [39] (fun vi wv=>∃ j:Nat,vi=.int .i64 j∧j≤i∧J (pick (Za0 t p) (u*i+j)).length wv∧Hid (Keeps S W wv)) (fun vi _=>i-(intOf vi).toNat)
     case atStart=>exact⟨0,rfl,Nat.zero_le _,hJs,HN⟩
     case round=>
      clear hJs HN HR
      obtain⟨j,rfl,hj,hJs,HN⟩:=hrel
      by_cases hlt3:j<i
      ·have hdiv:(u*i+j)/i=u∧(u*i+j) % i=j:=by
        have h0:0<i:=by omega
        rw[Nat.mul_comm u i]
        exact⟨by rw[Nat.mul_add_div h0,Nat.div_eq_of_lt hlt3,Nat.add_zero],by rw[Nat.mul_add_mod,Nat.mod_eq_of_lt hlt3]⟩
       by_cases hl:0<lf
       ·have hfree:Za0 t p (u*i+j)=true:=by
         unfold Za0
         rw[HNL.out,hdiv.1,← HLF.out]
         exact decide_eq_true hl
        have hlt4:u*i+j<p.length*t.sites.length:=by
         rw[HTL.out,HNL.out]
         have h1:(u+1)*i≤T*i:=Nat.mul_le_mul_right i hlt
         rw[Nat.add_mul,Nat.one_mul] at h1
         omega
        obtain⟨hk,hat⟩:=Zde hlt4 hfree
        have hy:=HY.out _ _ hk hJs
        unfold Zcg Zad at hy
        rw[hat,HNL.out,hdiv.1,hdiv.2] at hy
        dsimp only at hy
        obtain⟨fn,tmps,assign,body,hy,hRR⟩:=hy
        have HPY:Hid ((pick (Za0 t p) (u*i+(j+1))).length=(pick (Za0 t p) (u*i+j)).length+1):=by
         show _=_
         rw[← Nat.add_assoc,Zea hfree]
         simp
        have HKK:=Lib.hid hk
        clear hfree hlt4 hat hJs hk hdiv
        gi_wp2
        refine⟨(fun h=>by cases h),hRR.mono ?_⟩
        rintro e W3 (⟨rfl,hJ3,hk3⟩ | ⟨rfl,hJx3⟩)
        ·have HN3:=Lib.hid (HN.out.trans hk3)
         rw[← HPY.out] at hJ3
         clear hk3 hy hRR
         gi_wp2
         go_roundw
         case rel=>exact⟨j+1,by go_num,by omega,hJ3,HN3⟩
         case measure=>simp[intOf];omega
        ·clear hy hRR
         gi_wp2
         refine bodyPost_ret (results_none rfl _ _ _) rfl ?_
         exact⟨⟨_,rfl⟩,.inr ⟨_,HKK.out,hJx3⟩⟩
       ·have hfree:Za0 t p (u*i+j)=false:=by
         unfold Za0
         rw[HNL.out,hdiv.1,← HLF.out]
         exact decide_eq_false hl
        have hJ3:=hJs
        rw[show (pick (Za0 t p) (u*i+j)).length=(pick (Za0 t p) (u*i+(j+1))).length by rw[← Nat.add_assoc,ZdP hfree]] at hJ3
        clear hJs hfree hdiv
        have hfn:∀ k,Fence.wide.fn k:=fun _=>trivial
        gi_wp2
        all_goals try (refine⟨(fun _ h=>by cases h),?_⟩)
        all_goals try gi_wp2
        go_roundw
        case rel=>exact⟨j+1,by go_num,by omega,hJ3,HN⟩
        case measure=>simp[intOf];omega
      ·obtain rfl:j=i:=by omega
       have hJ3:=hJs
       rw[show u*j+j=(u+1)*j by rw[Nat.add_mul,Nat.one_mul]] at hJ3
       clear hJs
       gi_wp2
       go_roundw
       case rel=>exact⟨u+1,by go_num,by omega,hJ3,HN⟩
       case measure=>simp[intOf];omega
  ·obtain rfl:u=T:=by omega
   have hlen:(pick (Za0 t p) (u*N)).length=(Zad t p).length:=by unfold Zad;rw[HTL.out,HNL.out]
   rw[hlen] at hJs
   gi_wp2
   go_end0
   exact⟨⟨_,rfl⟩,.inl hJs⟩
end Go.Proofs.YtmpaflidennnoaaGreatDoor
namespace Go.Proofs.YtmpaflidennnoaaGreatDoor
open Go.RowKit Go.Shelf
def ints (l:List Int):List Value:=l.map fun x=>.int .i64 x
theorem ZfH {l:List Int} {j:Nat} (h:j<l.length):(ints l)[j]?=some (.int .i64 (l.getD j 0)):=by
 simp[ints,List.getD,h]
theorem Zdv (l:List Int):(ints l).length=l.length:=by simp[ints]
def Zee (N:Nat) (gq gc:Nat→Nat) (n:Nat):List Value:=(List.range n).map fun u=>.slice (some ⟨gq u,0,none⟩) N (gc u)
theorem Zhs {N:Nat} {gq gc:Nat→Nat} {n u:Nat} (h:u<n):(Zee N gq gc n)[u]?=some (.slice (some ⟨gq u,0,none⟩) N (gc u)):=by simp[Zee,h]
theorem ZJ {w w':World} {base:Nat} {e:TypeId} {size:Nat} {v:Value} {n:Nat} {xs:List Value} (h:w.ownsRow base e size v n xs) (hk:∀ g,v.ownBlock=some g→w'.heap[g]?=w.heap[g]?):w'.ownsRow base e size v n xs:=by
 obtain⟨h1,h2⟩:=h
 refine⟨h1,?_⟩
 rcases h2 with h2 | ⟨g,cap,cur,hv,hb,hg,rest⟩
 ·exact .inl h2
 ·exact .inr ⟨g,cap,cur,hv,hb,(hk g (by rw[hv];rfl)).trans hg,rest⟩
structure PlanO (p:List (List Int)) (N m b:Nat) (pv:Value) (gq gc:Nat→Nat) (w:World):Prop where
 outer:w.ownsRow (m+1) 23 1 pv p.length (Zee N gq gc p.length)
 row:∀ u (h:u<p.length),w.ownsRow (m+1) 3 1 (.slice (some ⟨gq u,0,none⟩) N (gc u)) N (ints p[u])
 inj:∀ u v,u<p.length→v<p.length→gq u=gq v→u=v
 out:pv.ownBlock≠some b∧∀ u,u<p.length→gq u≠b∧pv.ownBlock≠some (gq u)
section
variable {p:List (List Int)} {N m b:Nat} {pv:Value} {gq gc:Nat→Nat} {w w':World}
theorem PlanO.len (h:PlanO p N m b pv gq gc w) {u:Nat} (hu:u<p.length):p[u].length=N:=by
 have:=(h.row u hu).1
 rw[Zdv] at this
 omega
theorem PlanO.gt (h:PlanO p N m b pv gq gc w) {u:Nat} (hu:u<p.length):m<gq u∧gq u<w.heap.size:=by
 have:=World.ownsRow.lt (h.row u hu) (gq u) rfl
 omega
theorem PlanO.keep (h:PlanO p N m b pv gq gc w) (hk:Keeps (NotM m) w w'):PlanO p N m b pv gq gc w':=by
 have key:∀ {e:TypeId} {size:Nat} {v:Value} {n:Nat} {xs:List Value},w.ownsRow (m+1) e size v n xs→w'.ownsRow (m+1) e size v n xs:=fun hr=>by
  refine ZJ hr fun g hg=>?_
  have:=World.ownsRow.lt hr g hg
  exact hk.block g this.2 (by show g≠m;omega)
 exact⟨key h.outer,fun u hu=>key (h.row u hu),h.inj,h.out⟩
theorem PlanO.toW (h:PlanO p N m b pv gq gc w) (h0:0<p.length):∃ pb pc,pv=.slice (some ⟨pb,0,none⟩) p.length pc∧PlanW p N m pv pb 0 pc gq (fun _=>0) gc w:=by
 obtain⟨h1,h2⟩:=id h.outer
 rcases h2 with ⟨_,h3⟩ | ⟨pb,pc,cur,hv,hb,hg,k1,k2,k3,k4⟩
 ·omega
 ·refine⟨pb,pc,hv,hv,⟨k1,k2⟩,fun u hu=>?_,by omega,fun u hu=>?_⟩
  ·have ho:=h.outer
   rw[hv] at ho
   have c1:=World.ownsRow.cellAt ho u (by omega)
   rw[Zhs hu] at c1
   rw[Nat.zero_add]
   obtain⟨r1,r2⟩:=h.row u hu
   rcases r2 with ⟨r3,_⟩ | ⟨g',cap',cur',hv',_,_,l1,l2,_,_⟩
   ·cases r3
   ·injection hv' with _ _ e3
    subst e3
    refine⟨c1,l1,l2,fun i hi=>?_⟩
    have c2:=World.ownsRow.cellAt (h.row u hu) i (by omega)
    rw[ZfH (by rw[h.len hu];exact hi)] at c2
    rw[Nat.zero_add,c2]
    unfold pN
    simp[List.getD,hu]
  ·have:=(h.gt hu).1
   omega
theorem PlanO.store (h:PlanO p N m b pv gq gc w) {u i:Nat} (hu:u<p.length) (hi:i<N) (d:Int) {x:Int} (hx:x=pN p u i+d):PlanO (bump p u i d) N m b pv gq gc (w.setCell ⟨gq u,i,none⟩ (.int .i64 x)):=by
 subst hx
 have hl:=h.len hu
 have oth:∀ k,k≠gq u→(w.setCell ⟨gq u,i,none⟩ (.int .i64 (pN p u i+d))).heap[k]?=w.heap[k]?:=fun k hk=>Below.heap_setCell _ _ _ _ hk
 refine⟨?_,fun v hv=>?_,fun a c ha hc=>h.inj a c (by rwa [ZV] at ha) (by rwa [ZV] at hc),h.out.1,fun v hv=>h.out.2 v (by rwa [ZV] at hv)⟩
 ·rw[ZV]
  refine ZJ h.outer fun g hg=>oth g fun e=>?_
  exact(h.out.2 u hu).2 (by rw[hg,e])
 ·have hv':v<p.length:=by rwa [ZV] at hv
  by_cases e:v=u
  ·subst e
   have hs:=World.ownsRow.stored (h.row v hu) i (.int .i64 (pN p v i+d))
   have e1:(ints p[v]).set i (.int .i64 (pN p v i+d))=ints (bump p v i d)[v]:=by
    refine List.ext_getElem (by simp[Zdv,ZfI]) fun j h1 h2=>?_
    have hj:j<p[v].length:=by simpa[Zdv] using h1
    simp only[List.getElem_set,ints,List.getElem_map,bump,List.getElem_modify]
    by_cases e2:i=j
    ·subst e2
     simp[pN,List.getD,hu,hj]
    ·simp[e2]
   rw[e1] at hs
   exact hs.1
  ·have e1:(bump p u i d)[v]=p[v]:=by
    simp only[bump,List.getElem_modify]
    rw[if_neg (fun h=>e h.symm)]
   rw[e1]
   refine ZJ (h.row v hv') fun g hg=>oth g fun e2=>e (h.inj v u hv' hu ?_)
   have hg':gq v=g:=by simpa[Value.ownBlock] using hg
   rw[hg',e2]
end
theorem Zhe:(Tryz.prog.info? 3).map (fun i=>(i.zero,i.size,i.bytes))=some (some (.int .i64 0),1,8):=by kernel_rfl
theorem Zf1:(Tryz.prog.info? 23).map (fun i=>(i.zero,i.size,i.bytes))=some (some (.slice none 0 0),1,24):=by kernel_rfl
theorem ZhB (xs:List Int):∀ u ∈ ints xs,u.oneCell'=true:=by
 intro u hu
 obtain⟨x,_,rfl⟩:=List.mem_map.1 hu
 rfl
theorem Zj8 (b off cap:Nat) (xs:List Int) (w:World) (hne:0<xs.length) (hl:xs.length≤1000000) (hb:b<w.heap.size) (hc:∀ j,j<xs.length→w.cell? ⟨b,off+j,none⟩=some (.int .i64 (xs.getD j 0))) :
  Calls Tryz.prog 108 #[.slice (some ⟨b,off,none⟩) xs.length cap] w fun e w'=>
   ∃ g cap',e=.returned (.slice (some ⟨g,0,none⟩) xs.length cap')∧w'.ownsRow w.heap.size 3 1 (.slice (some ⟨g,0,none⟩) xs.length cap') xs.length (ints xs)∧Below w.heap.size w w':=by
 obtain⟨i0,hi,hz0,hz1,hz2⟩:=info_parts Zhe
 have heq:=fun(w:World)=>Lib.run_eql_slice_nil (P:=Tryz.prog) w 23 3 (some ⟨b,off,none⟩) xs.length cap 0 0 Tryz.underlying23
 have HCA:Hid (∀ W,Below w.heap.size w W→∀ j u,(ints xs)[j]?=some u→W.cell? ((⟨b,off,none⟩:Addr).add j)=some u):=fun W hW j u hu=>by
  have hj:j<xs.length:=by
   have:=(List.getElem?_eq_some_iff.1 hu).1
   simpa[Zdv] using this
  rw[ZfH hj] at hu
  rw[Addr.add_lit,← hu]
  exact(hW.cell (p:=⟨b,off+j,none⟩) hb).trans (hc j hj)
 have HB0:=(Below.refl w.heap.size w).alloc (Nat.le_refl _) (.cells #[] 3)
 have HC1:=HCA.out _ HB0
 have hml:=Zdv xs
 clear hc
 go_enter Tryz.func108,Tryz.ntmps108
 go_wp2_with (at_builtin;refine wpList_append_lies _ rfl (.tmp 5) (.tmp 6) 23 rfl w.heap.size 3 i0 (.int .i64 0) 1 8 Tryz.underlying23 hi hz0 hz1 hz2 rfl (by decide) _ 0 [] rfl (World.ownsRow_lit w #[] 0 (Nat.le_refl _) (by simp[maxLen]) rfl) ⟨b,off,none⟩ xs.length cap (ints xs) rfl (by rw[hml,Nat.mul_one]) HC1 (ZhB _) hne (by unfold maxLen;omega) (by omega) (by simp) (w.heap.size+1) (by simp) ?_;intro g cap' w1 hown1 hgrow1 hat1 hlt1)
 have h0:0+xs.length=xs.length:=by omega
 rw[h0] at hown1
 have HR:=Lib.hid hown1
 have HB:=Lib.hid (((Below.refl w.heap.size w).alloc (Nat.le_refl _) (.cells #[] 3)).grown hgrow1 (by simp) (fun k h=>by cases h;exact Nat.le_refl _))
 clear hown1 hgrow1 hat1
 go_wp2
 go_ret
 exact⟨g,cap',rfl,by simpa using HR.out,HB.out⟩
end Go.Proofs.YtmpaflidennnoaaGreatDoor
namespace Go.Proofs.YtmpaflidennnoaaGreatDoor
open Go.RowKit Go.Shelf
attribute [local go_sem ↓] Go.wp_at_zero Go.wp_at_succ
theorem PlanO.keepB {p:List (List Int)} {N m b:Nat} {pv:Value} {gq gc:Nat→Nat} {w w':World} (h:PlanO p N m b pv gq gc w) (hk:Keeps (fun x=>x≠b) w w'):PlanO p N m b pv gq gc w':=by
 refine⟨ZJ h.outer fun g hg=>?_,fun u hu=>ZJ (h.row u hu) fun g hg=>?_,h.inj,h.out⟩
 ·exact hk.block g (World.ownsRow.lt h.outer g hg).2 fun e=>h.out.1 (by rw[hg,e])
 ·have hg':gq u=g:=by simpa[Value.ownBlock] using hg
  exact hk.block g (World.ownsRow.lt (h.row u hu) g hg).2 fun e=>(h.out.2 u hu).1 (by rw[hg',e])
theorem ZiB {w:World} {base base':Nat} {e:TypeId} {size:Nat} {v:Value} {n:Nat} {xs:List Value} (h:w.ownsRow base e size v n xs) (hb:base'≤base):w.ownsRow base' e size v n xs:=by
 obtain⟨h1,h2⟩:=h
 refine⟨h1,?_⟩
 rcases h2 with h2 | ⟨g,cap,cur,hv,hg,rest⟩
 ·exact .inl h2
 ·exact .inr ⟨g,cap,cur,hv,Nat.le_trans hb hg,rest⟩
theorem PlanO.snoc {p:List (List Int)} {N m b g cap:Nat} {pv pv':Value} {gq gc:Nat→Nat} {w w':World} {l:List Int} (h:PlanO p N m b pv gq gc w) (hr:w.ownsRow (m+1) 3 1 (.slice (some ⟨g,0,none⟩) N cap) N (ints l))
  (h1:g≠b) (h2:∀ u,u<p.length→gq u≠g) (h3:pv.ownBlock≠some g) (hb:b<w.heap.size) (ho:w'.ownsRow (m+1) 23 1 pv' (p.length+1) (Zee N gq gc p.length++[.slice (some ⟨g,0,none⟩) N cap])) (hg:w.grownBy w' pv.ownBlock)
  (hloc:pv'.ownBlock=pv.ownBlock∨∃ x,pv'.ownBlock=some x∧w.heap.size≤x) :
  PlanO (p++[l]) N m b pv' (fun u=>if u=p.length then g else gq u) (fun u=>if u=p.length then cap else gc u) w':=by
 have hgl:g<w.heap.size:=(World.ownsRow.lt hr g rfl).2
 have hpl:(p++[l]).length=p.length+1:=by simp
 refine⟨?_,fun u hu=>?_,fun u v hu hv=>?_,?_,fun u hu=>?_⟩
 ·rw[hpl]
  have e:Zee N (fun u=>if u=p.length then g else gq u) (fun u=>if u=p.length then cap else gc u) (p.length+1)=Zee N gq gc p.length++[.slice (some ⟨g,0,none⟩) N cap]:=by
   unfold Zee
   rw[List.range_succ,List.map_append]
   congr 1
   ·refine List.map_congr_left fun u hu=>?_
    have:u≠p.length:=by have:=List.mem_range.1 hu;omega
    simp[this]
   ·simp
  rw[e]
  exact ho
 ·by_cases e:u=p.length
  ·subst e
   simp only[if_true]
   rw[show (p++[l])[p.length]=l by simp]
   exact World.ownsRow.kept hr hg (.inr (by
    intro hc
    exact h3 hc.symm))
  ·have hu':u<p.length:=by rw[hpl] at hu;omega
   simp only[if_neg e]
   rw[show (p++[l])[u]=p[u] by rw[List.getElem_append_left hu']]
   exact World.ownsRow.kept (h.row u hu') hg (.inr fun hc=>(h.out.2 u hu').2 hc.symm)
 ·rw[hpl] at hu hv
  by_cases e1:u=p.length
  ·by_cases e2:v=p.length
   ·intro _;rw[e1,e2]
   ·simp only[e1,if_true,if_neg e2]
    intro hc
    exact absurd hc.symm (h2 v (by omega))
  ·by_cases e2:v=p.length
   ·simp only[e2,if_true,if_neg e1]
    intro hc
    exact absurd hc (h2 u (by omega))
   ·simp only[if_neg e1,if_neg e2]
    exact h.inj u v (by omega) (by omega)
 ·rcases hloc with hl | ⟨x,hl,hx⟩
  ·rw[hl];exact h.out.1
  ·rw[hl]
   intro e
   cases e
   omega
 ·rw[hpl] at hu
  have key:∀ y,y<w.heap.size→pv.ownBlock≠some y→pv'.ownBlock≠some y:=fun y hy hne=>by
   rcases hloc with hl | ⟨x,hl,hx⟩
   ·rw[hl];exact hne
   ·rw[hl]
    intro e
    cases e
    omega
  by_cases e:u=p.length
  ·simp only[e,if_true]
   exact⟨h1,key g hgl h3⟩
  ·simp only[if_neg e]
   exact⟨(h.out.2 u (by omega)).1,key _ (h.gt (by omega)).2 (h.out.2 u (by omega)).2⟩
theorem Zen (w:World) (v:Value) (T:TypeId):∀ j u,[v][j]?=some u→(w.alloc (.cells #[v] T)).cell? ((⟨w.heap.size,0,none⟩:Addr).add j)=some u:=by
 intro j u hj
 match j,hj with
 | 0,h=>
  obtain rfl:v=u:=by simpa using h
  rw[Addr.add_lit]
  exact ZC w _ T 0 rfl
 | j+1,h=>simp at h
def ZkE (t:TaskP) (p:List (List Int)) (N:Nat) (sv hv rv:Value) (w:World) (e:Ending) (w':World):Prop:=
 ∃ b m pv gq gc,e=.returned (.pointer (some ⟨b,0,none⟩))∧WorkW t b m sv hv rv pv w'∧PlanO p N m b pv gq gc w'∧Memo w' m t 0∧w.heap.size≤m∧w.heap.size≤b∧Below w.heap.size w w'
def Zlp (t:TaskP) (p:List (List Int)) (N:Nat) (w:World) (e:Ending) (w':World):Prop:=
 ∃ b m sv hv rv pv gq gc,e=.returned (.pointer (some ⟨b,0,none⟩))∧WorkW t b m sv hv rv pv w'∧PlanO p N m b pv gq gc w'∧Memo w' m t 0∧w.heap.size≤m∧w.heap.size≤b∧Below w.heap.size w w'
theorem Zgp {t:TaskP} {p:List (List Int)} {sv hv rv pv0:Value} {N:Nat} {w:World} (ht:TaskIn t sv hv rv w) (hp:IIL w pv0 p) (hpl:p.length≤8) (hN:1≤N∧N≤24) (hrow:∀ u (h:u<p.length),p[u].length=N) :
  Calls Tryz.prog 48 #[.agg #[sv,hv,rv],pv0] w (ZkE t p N sv hv rv w):=by
 obtain⟨ps,cs,rfl,_⟩:=ht.sites.shape rfl
 obtain⟨ph,ch,rfl,_⟩:=ht.hours.shape rfl
 obtain⟨pr,cr,rfl,_⟩:=ht.rates.shape rfl
 obtain⟨T,hT⟩:∃ n,p.length=n:=⟨_,rfl⟩
 obtain⟨pp,pc,rfl,hpc1,hpc2⟩:=hp.shape hT
 obtain⟨ns,hns⟩:∃ n,t.sites.length=n:=⟨_,rfl⟩
 obtain⟨nh,hnh⟩:∃ n,t.hours.length=n:=⟨_,rfl⟩
 obtain⟨nr,hnr⟩:∃ n,t.rates.length=n:=⟨_,rfl⟩
 have HAT:Hid (∀ u,u<T→∃ b o q f c,pp=some ⟨b,o,none⟩∧∀ V,Below w.heap.size w V→V.cell? ⟨b,o+u,none⟩=some (.slice (some ⟨q,f,none⟩) N c)∧q<w.heap.size∧∀ j,j<N→V.cell? ⟨q,f+j,none⟩=some (.int .i64 ((p.getD u []).getD j 0))):=fun u hu=>by
  have hu':u<p.length:=by rw[hT];exact hu
  obtain⟨b,o,h1,h2,h3⟩:=hp.at IIL.stays hT (by omega)
  obtain⟨v,h4,h5⟩:=h3 w (Below.refl _ w) u hu'
  have hl:=hrow u hu'
  obtain⟨q,f,c,rfl,c1,c2,c3,c4⟩:=Zch h5 (by rw[hl];omega)
  refine⟨b,o,q,f,c,h1,fun V hV=>⟨?_,c3,fun j hj=>?_⟩⟩
  ·rw[Nat.mul_one] at h4
   rw[← hl]
   exact(hV.cell (p:=⟨b,o+u,none⟩) h2).trans h4
  ·have:=c4 j (by rw[hl];exact hj)
   unfold IntR at this
   rw[Nat.mul_one] at this
   rw[show (p.getD u []).getD j 0=p[u][j]'(by rw[hl];exact hj) by simp[List.getD,hu',hl,hj]]
   exact(hV.cell (p:=⟨q,f+j,none⟩) c3).trans this
 have HROW:Hid (∀ u,u<T→(p.getD u []).length=N):=fun u hu=>by
  have hu':u<p.length:=by rw[hT];exact hu
  rw[show p.getD u []=p[u] by simp[List.getD,hu']]
  exact hrow u hu'
 have HTI:=Lib.hid ht
 have HPT:=Lib.hid hT
 have hT8:T≤8:=by rw[← hT];exact hpl
 rw[hns,hnh,hnr] at HTI ⊢
 obtain⟨G,hG⟩:∃ g,w.heap.size=g:=⟨_,rfl⟩
 obtain⟨w3,hw3⟩:∃ z,((w.alloc (.cells #[.slice ps ns cs,.slice ph nh ch,.slice pr nr cr] 26)).alloc (.map #[] 0)).alloc (.cells #[.slice ps ns cs,.slice ph nh ch,.slice pr nr cr,.slice none 0 0,.map (some (G+1))] 95)=z:=⟨_,rfl⟩
 have hb3:Below w.heap.size w w3:=by rw[← hw3];exact(((Below.refl _ w).alloc (Nat.le_refl _) _).alloc (by simp) _).alloc (by simp<;>omega) _
 have hs3:w3.heap.size=G+3:=by rw[← hw3,← hG];simp
 have hm3:w3.heap[G+1]?=some (.map #[] 0):=by
  rw[← hw3,← hG]
  have h1:((w.alloc (.cells #[.slice ps ns cs,.slice ph nh ch,.slice pr nr cr] 26)).alloc (.map #[] 0)).heap[w.heap.size+1]?=some (.map #[] 0):=by
   have:=World.alloc_heap_new (w.alloc (.cells #[.slice ps ns cs,.slice ph nh ch,.slice pr nr cr] 26)) (.map #[] 0)
   rwa [World.size_alloc] at this
  exact(Below.heap_alloc _ _ _ (by simp)).trans h1
 have hw3b:w3.heap[G+1+1]?=some (.cells #[.slice ps ns cs,.slice ph nh ch,.slice pr nr cr,.slice none 0 0,.map (some (G+1))] 95):=by
  rw[← hw3]
  have:=World.alloc_heap_new ((w.alloc (.cells #[.slice ps ns cs,.slice ph nh ch,.slice pr nr cr] 26)).alloc (.map #[] 0)) (.cells #[.slice ps ns cs,.slice ph nh ch,.slice pr nr cr,.slice none 0 0,.map (some (G+1))] 95)
  rw[World.size_alloc,World.size_alloc,hG] at this
  exact this
 obtain⟨i0,hi,hz0,hz1,hz2⟩:=info_parts Zf1
 have HB3:=Lib.hid hb3
 have HM3:=Lib.hid hm3
 have HW3:=Lib.hid hw3b
 have HS3:=Lib.hid hs3
 have HG:=Lib.hid hG
 clear ht hp hT hpl hrow hns hnh hnr hb3 hm3 hw3b hs3
 have hmk:∀ (t:TypeId) (w:World),(Instr.makeMap t none).run Tryz.prog w=.ok (.map (some w.heap.size)) (w.alloc (.map #[] 0)):=fun _ _=>rfl
 go_enter Tryz.func48,Tryz.ntmps48
 go_wp2_with fail
 clear hmk hw3
 have HP0:Hid (PlanO (p.take 0) N (G+1) (G+1+1) (.slice none 0 0) (fun _=>0) (fun _=>0) w3):=⟨World.ownsRow_nil _ _ _ _,fun u hu=>by simp at hu,fun u v hu=>by simp at hu,by simp[Value.ownBlock],fun u hu=>by simp at hu⟩
 go_loopw [14] (fun iv wr=>∃ (k:Nat) (pv:Value) (gq gc:Nat→Nat),iv=.int .i64 k∧k≤T∧Hid (PlanO (p.take k) N (G+1) (G+1+1) pv gq gc wr)∧Hid (wr.heap[G+1+1]?=some (.cells #[.slice ps ns cs,.slice ph nh ch,.slice pr nr cr,pv,.map (some (G+1))] 95))∧Hid (wr.heap[G+1]?=some (.map #[] 0))∧Hid (Below w.heap.size w wr)) (fun iv _=>T-(intOf iv).toNat)
 case atStart=>exact⟨0,.slice none 0 0,_,_,rfl,Nat.zero_le _,HP0,HW3,HM3,HB3⟩
 case round=>
  obtain⟨k,pv,gq,gc,rfl,hk,HP,HW,HM,HB⟩:=hrel
  clear HP0 HW3 HM3 HB3
  by_cases hlt:k<T
  ·obtain⟨b,o,q,f,c,rfl,hat⟩:=HAT.out k hlt
   have HRK:=Lib.hid (HROW.out k hlt)
   obtain⟨l,hl⟩:∃ l,p.getD k []=l:=⟨_,rfl⟩
   rw[hl] at hat HRK
   have HLL:=Lib.hid hl
   have hlN:=HRK.out
   have HATW:=Lib.hid hat
   obtain⟨e0,_,_⟩:=hat wr HB.out
   have hkl:(p.take k).length=k:=by rw[List.length_take,HPT.out];omega
   have HKL:=Lib.hid hkl
   obtain⟨pq,pn,pcap,hpv⟩:∃ p n c,pv=.slice p n c:=by
    obtain⟨_,h2⟩:=HP.out.outer
    rcases h2 with ⟨h2,_⟩ | ⟨g,cap,_,h2,_⟩
    ·exact⟨_,_,_,h2⟩
    ·exact⟨_,_,_,h2⟩
   subst hpv
   have i0':(0:Int)≤(k:Int):=by omega
   have i1':(k:Int)<(T:Int):=by omega
   clear hat hl hkl
   go_wp2_with fail
   refine ZG [(1,0),(1,1),(1,2),(1,3),(1,4),(1,5),(0,6),(0,7),(0,8),(2,9),(2,10),(0,11)] (fun V=>V.heap[G+1+1]?=some (.cells #[.slice ps ns cs,.slice ph nh ch,.slice pr nr cr,.slice pq pn pcap,.map (some (G+1))] 95)) (fun i=>i==9 || i==10 || i==11)
    (by kernel_rfl) (by kernel_rfl) (fun j hj=>by have h:12≤j:=hj;simp;omega) (fun _ _ o _ _ h=>by cases o<;>exact h) HW.out ?_
   have HPd:Hid (PlanO (p.take k) N (G+1) (G+1+1) (.slice pq pn pcap) gq gc wr.drew):=HP.out.keep (Keeps.refl _ wr).drew
   have HBd:Hid (Below w.heap.size w wr.drew):=HB.out.drew
   have HMd:Hid (wr.drew.heap[G+1]?=some (.map #[] 0)):=HM.out
   have HWd:Hid (wr.drew.heap[G+1+1]?=some (.cells #[.slice ps ns cs,.slice ph nh ch,.slice pr nr cr,.slice pq pn pcap,.map (some (G+1))] 95)):=HW.out
   obtain⟨V,hV⟩:∃ z,wr.drew=z:=⟨_,rfl⟩
   rw[hV] at HPd HBd HMd HWd ⊢
   clear hV HP HB HM HW e0
   iterate 6
    refine Zc _ rfl rfl (fun w' hS=>by have d3:=Za hS 3 (v:=.slice pq pn pcap) rfl;go_simp;first | rfl | (rw[if_pos (by omega)])) ?_
    simp only[Znc,Znd,Zne,Act.put,Znf,Zng,Znh]
   have hcl:=Zj8 q f c l V (by rw[hlN];exact hN.1) (by rw[hlN];omega) (Nat.lt_of_lt_of_le (HATW.out V HBd.out).2.1 HBd.out.size) (fun j hj=>(HATW.out V HBd.out).2.2 j (by rw[← hlN];exact hj))
   rw[hlN] at hcl
   refine Zl 108 _ rfl rfl (by go_simp;rfl) ?_
   refine hcl.mono ?_
   rintro e V1 ⟨g,cap,rfl,hown,hb⟩
   have HW1:Hid (V1.heap[G+1+1]?=some (.cells #[.slice ps ns cs,.slice ph nh ch,.slice pr nr cr,.slice pq pn pcap,.map (some (G+1))] 95)):=(hb.block _ (Array.getElem?_eq_some_iff.1 HWd.out).1).trans HWd.out
   have HM1:Hid (V1.heap[G+1]?=some (.map #[] 0)):=(hb.block _ (Array.getElem?_eq_some_iff.1 HMd.out).1).trans HMd.out
   have HP1:Hid (PlanO (p.take k) N (G+1) (G+1+1) (.slice pq pn pcap) gq gc V1):=HPd.out.keep (hb.keepsS _)
   have HB1:Hid (Below w.heap.size w V1):=HBd.out.trans (hb.mono HBd.out.size)
   have hVs:G+1+1<V.heap.size:=(Array.getElem?_eq_some_iff.1 HWd.out).1
   have HO1:Hid (V1.ownsRow V.heap.size 3 1 (.slice (some ⟨g,0,none⟩) N cap) N (ints l)):=hown
   have hgV:V.heap.size≤g:=(World.ownsRow.lt hown g rfl).1
   have hgo:∀ u,u<(p.take k).length→gq u≠g:=fun u hu e=>by have:=(HPd.out.gt hu).2;omega
   have hgp:(Value.slice pq pn pcap).ownBlock≠some g:=fun e=>by have:=(World.ownsRow.lt HPd.out.outer g e).2;omega
   have HGO:=Lib.hid (And.intro hgo hgp)
   refine .inl ⟨_,rfl,HW1.out,?_⟩
   clear hb hown hgo hgp HWd HMd HPd HBd hcl
   simp only[Znc,Znd,Zne,Act.put,Znf,Zng,Znh]
   refine Zn rfl rfl fun K hK=>?_
   go_simp
   obtain⟨H,hH⟩:∃ H,V1.heap.size=H:=⟨_,rfl⟩
   obtain⟨V2,hV2⟩:∃ z,V1.alloc (.cells #[.slice (some ⟨g,0,none⟩) N cap] 23)=z:=⟨_,rfl⟩
   have hk2:Below V1.heap.size V1 V2:=by rw[← hV2];exact(Below.refl _ V1).alloc (Nat.le_refl _) _
   have hnews:=Zen V1 (.slice (some ⟨g,0,none⟩) N cap) 23
   rw[hV2,hH] at hnews
   have HW2:Hid (V2.heap[G+1+1]?=some (.cells #[.slice ps ns cs,.slice ph nh ch,.slice pr nr cr,.slice pq pn pcap,.map (some (G+1))] 95)):=(hk2.block _ (Array.getElem?_eq_some_iff.1 HW1.out).1).trans HW1.out
   have HM2:Hid (V2.heap[G+1]?=some (.map #[] 0)):=(hk2.block _ (Array.getElem?_eq_some_iff.1 HM1.out).1).trans HM1.out
   have HP2:Hid (PlanO (p.take k) N (G+1) (G+1+1) (.slice pq pn pcap) gq gc V2):=HP1.out.keep (hk2.keepsS _)
   have HB2:Hid (Below w.heap.size w V2):=HB1.out.trans (hk2.mono HB1.out.size)
   have HO2:Hid (V2.ownsRow (G+1+1) 3 1 (.slice (some ⟨g,0,none⟩) N cap) N (ints l)):=ZiB (ZJ HO1.out fun x hx=>hk2.block x (World.ownsRow.lt HO1.out x hx).2) (by omega)
   try rw[hH]
   try rw[hV2]
   refine hK _ _ (.inr HW2.out) ?_
   clear hK K hV2 hk2 hH HW1 HM1 HP1 HB1 HO1
   have hown2:=HP2.out.outer
   have h2s:G+1+1<V2.heap.size:=(Array.getElem?_eq_some_iff.1 HW2.out).1
   refine Zn rfl rfl fun K hK=>?_
   refine wp_append_lies _ (.tmp 22) (.tmp 25) 29 rfl (G+1+1) 23 i0 (.slice none 0 0) 1 24 Tryz.underlying29 hi hz0 hz1 hz2 rfl (by decide) (.slice pq pn pcap) _ _ rfl hown2 ⟨H,0,none⟩ 1 1 [.slice (some ⟨g,0,none⟩) N cap] rfl rfl hnews (by simp[Value.oneCell']) (by decide) (by rw[HKL.out];unfold maxLen;omega) (by rw[HKL.out];omega) (by omega) V2.heap.size rfl ?_
   intro g2 cap2 V3 hown3 hgrow hor hlt3
   have hsn:=HP2.out.snoc HO2.out (by omega) HGO.out.1 HGO.out.2 h2s hown3 hgrow (by
    rcases hor with h | h
    ·exact .inl (by rw[h];rfl)
    ·exact .inr ⟨g2,rfl,by omega⟩)
   have hne:(Value.slice pq pn pcap).ownBlock≠some (G+1+1):=HP2.out.out.1
   have hne2:(Value.slice pq pn pcap).ownBlock≠some (G+1):=fun e=>by have:=(World.ownsRow.lt HP2.out.outer _ e).1;omega
   have HW3:Hid (V3.heap[G+1+1]?=some (.cells #[.slice ps ns cs,.slice ph nh ch,.slice pr nr cr,.slice pq pn pcap,.map (some (G+1))] 95)):=(hgrow.block _ (by omega) (fun e=>hne e.symm)).trans HW2.out
   have HM3:Hid (V3.heap[G+1]?=some (.map #[] 0)):=(hgrow.block _ (by omega) (fun e=>hne2 e.symm)).trans HM2.out
   have HB3:Hid (Below w.heap.size w V3):=HB2.out.grown hgrow (by have:=HB2.out.size;omega) (fun x hx=>by have:=(World.ownsRow.lt HP2.out.outer x hx).1;have:=HG.out;omega)
   rw[HKL.out] at hsn hown3
   have hsn':PlanO (p.take (k+1)) N (G+1) (G+1+1) (.slice (some ⟨g2,0,none⟩) (k+1) cap2) (fun u=>if u=k then g else gq u) (fun u=>if u=k then cap else gc u) V3:=by
    have e1:p.take (k+1)=p.take k++[l]:=by
     have hkp:k<p.length:=by rw[HPT.out];exact hlt
     rw[List.take_add_one,List.getElem?_eq_getElem hkp,← HLL.out]
     simp[List.getD,hkp]
    rw[e1]
    exact hsn
   have HSN:=Lib.hid hsn'
   refine hK _ _ (.inr HW3.out) ?_
   clear hK K hsn hsn' hown3 hgrow hor hlt3 hne hne2 hown2 HW2 HM2 HP2 HB2 HO2 hnews
   simp only[Znc,Znd,Zne,Act.put,Znf,Zng,Znh]
   rw[HKL.out]
   iterate 2
    refine ZcB _ rfl rfl (fun w' _=>by go_simp;rfl) ?_
    simp only[Znc,Znd,Zne,Act.put,Znf,Zng,Znh]
   have c3:=Za HW3.out 3 (v:=.slice pq pn pcap) rfl
   have f3:=Zb HW3.out 3
   refine Zn rfl rfl fun K hK=>?_
   go_simp
   obtain⟨V4,hV4⟩:∃ z,V3.setCell ⟨G+1+1,3,none⟩ (.slice (some ⟨g2,0,none⟩) (k+1) cap2)=z:=⟨_,rfl⟩
   have hk4:Keeps (fun x=>x≠G+1+1) V3 V4:=by rw[← hV4];exact(Keeps.refl _ V3).setCell (by simp) _
   have HW4:Hid (V4.heap[G+1+1]?=some (.cells #[.slice ps ns cs,.slice ph nh ch,.slice pr nr cr,.slice (some ⟨g2,0,none⟩) (k+1) cap2,.map (some (G+1))] 95)):=by rw[← hV4];exact Joins.block_setCell HW3.out _
   have HM4:Hid (V4.heap[G+1]?=some (.map #[] 0)):=hk4.at HM3.out (by omega)
   have HB4:Hid (Below w.heap.size w V4):=by rw[← hV4];exact HB3.out.setCell (p:=⟨G+1+1,3,none⟩) (by have:=HG.out;show w.heap.size≤G+1+1;omega) _
   have HP4:=Lib.hid (HSN.out.keepB hk4)
   rw[hV4]
   refine hK _ _ (.inl rfl) ?_
   clear hK K hV4 hk4 c3 f3 HW3 HM3 HB3 HSN
   refine Zq ?_
   go_wp2
   go_roundw
   case rel=>exact⟨k+1,_,_,_,by go_num,by omega,HP4,HW4,HM4,HB4⟩
   case measure=>simp[intOf];omega
  ·obtain rfl:k=T:=by omega
   have HPF:Hid (PlanO p N (G+1) (G+1+1) pv gq gc wr):=by
    have h:=HP.out
    rw[← HPT.out,List.take_length] at h
    exact h
   go_wp2
   refine bodyPost_ret (v:=.pointer (some ⟨G+1+1,0,none⟩)) (by simp[results,Tryz.f48,go_sem]) rfl ⟨G+1+1,G+1,pv,gq,gc,rfl,⟨HW.out,by omega,w,HTI.out,HB.out,by have:=HG.out;omega⟩,HPF.out,?_,by have:=HG.out;omega,by have:=HG.out;omega,HB.out⟩
   exact⟨#[],0,HM.out,⟨by simp,Go.MapKept.stamped_empty 0,by simp⟩,Nat.le_refl _,by simp⟩
theorem ZcL {t:TaskP} {p:List (List Int)} {sv hv rv pv0:Value} {N:Nat} {w:World} (ht:TaskIn t sv hv rv w) (hp:IIL w pv0 p) (hpl:p.length≤8) (hN:1≤N∧N≤24) (hrow:∀ u (h:u<p.length),p[u].length=N) :
  Calls Tryz.prog 48 #[.agg #[sv,hv,rv],pv0] w (Zlp t p N w):=
 (Zgp ht hp hpl hN hrow).mono fun _ _ ⟨b,m,pv,gq,gc,h⟩=>⟨b,m,sv,hv,rv,pv,gq,gc,h⟩
end Go.Proofs.YtmpaflidennnoaaGreatDoor
