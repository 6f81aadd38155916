/- The parts EGreat7. -/
import Derived.Test.YtmpaflidennnoaaGreatDoorH30
import Derived.Deep.Cut
set_option maxRecDepth 100000
set_option maxHeartbeats 4000000
set_option linter.unusedVariables false
set_option linter.unusedSimpArgs false
namespace Go.Proofs.YtmpaflidennnoaaGreatDoor
open Go.RowKit Go.Shelf
attribute [local go_sem ↓] Go.wp_at_zero Go.wp_at_succ
structure SmallT (t:TaskP) (a b:Nat):Prop where
 sites:t.sites.length<=26
 hours:t.hours.length<=10
 rates:t.rates.length<=10
 few:(t.sites.length<=a\/24<t.sites.length)/\(t.hours.length<=b\/8<t.hours.length)
 lim:LimT t
def Zld (t:TaskP) (a b:Nat) (w:World) (e:Ending) (w':World):Prop:=∃ r:Bool,e=.returned (.bool r)/\(r=false->SmallT t a b)/\Below w.heap.size w w'
def fewT (a b ns nh nr:Nat):Prop:=(ns<=a\/24<ns)/\(nh<=b\/8<nh)/\ns<=26/\nh<=10/\nr<=10
theorem ZkF {t:TaskP} {sv hv rv:Value} {w:World} (h:TaskIn t sv hv rv w) (a b c:Nat) (ha:a<=1000) (hb:b<=1000) (hc:c<=1000) :
  Calls Tryz.prog 14 #[.agg #[sv,hv,rv],.int .i64 a,.int .i64 b,.int .i64 c] w (Zld t a b w):=by
 obtain⟨ns,hns⟩:=Zpg t.sites.length
 obtain⟨nh,hnh⟩:=Zpg t.hours.length
 obtain⟨nr,hnr⟩:=Zpg t.rates.length
 obtain⟨ps,cs,rfl,hs1,hs2⟩:=h.sites.shape hns
 obtain⟨ph,ch,rfl,hh1,hh2⟩:=h.hours.shape hnh
 obtain⟨pr,cr,rfl,hr1,hr2⟩:=h.rates.shape hnr
 have HT:=Zpe h
 have HNS:=Zpe hns
 have HNH:=Zpe hnh
 have HNR:=Zpe hnr
 have HE0:Hid (Env w.heap.size w [(w.heap.size,efO (.slice ps ns cs) (.slice ph nh ch) (.slice pr nr cr))] [] (w.alloc (efO (.slice ps ns cs) (.slice ph nh ch) (.slice pr nr cr)))):=(Env.start w).push _ rfl
 obtain⟨G,hG⟩:=Zpg w.heap.size
 obtain⟨w1,hw1⟩:=Zpg (w.alloc (efO (.slice ps ns cs) (.slice ph nh ch) (.slice pr nr cr)))
 have HG:=Zpe hG
 rw[hw1] at HE0
 have c0:=HE0.out.cell 0 0 (v:=.slice ps ns cs) rfl rfl
 have c1:=HE0.out.cell 0 1 (v:=.slice ph nh ch) rfl rfl
 have c2:=HE0.out.cell 0 2 (v:=.slice pr nr cr) rfl rfl
 rw[hG] at c0 c1 c2
 clear h hns hnh hnr
 go_enter Tryz.func14,Tryz.ntmps14
 go_upto_region 1 with (fail)
 go_cut [56] from 15 (fun s56 wc=>∃ r:Bool,s56=.bool r/\(r=false->fewT a b ns nh nr)/\wc=w1)
 case first=>
  by_cases hA:(a:Int)<(ns:Int)
  all_goals by_cases hB:(b:Int)<(nh:Int)
  all_goals go_wp2
  all_goals (go_meet;refine⟨_,rfl,fun hr=>?_,rfl⟩;first | (cases hr;done) | ((try simp only[Bool.or_eq_false_iff,decide_eq_false_iff_not] at hr);unfold fewT;omega))
 case rest=>
  obtain⟨r,rfl,hr,rfl⟩:=hcut
  cases r with
  | true=>
   go_wp2
   exact Zor (by simp[results,Tryz.f14,go_sem]) rfl ⟨true,rfl,(fun h=>by cases h),HE0.out.base⟩
  | false=>
   have HF:=Zpe (hr rfl)
   obtain⟨_,_,f3,f4,f5⟩:=hr rfl
   clear hr hw1
   rw[hG] at HE0
   go_wp2_with fail
   go_loopw [9,10] (fun nv iv wr=>∃ (u:Nat) (m:Int),nv=.int .i64 m/\(0<=m/\m<=1000*(u:Int))/\iv=.int .i64 u/\u<=nh/\wr=wc) (fun _ iv _=>nh-(intOf iv).toNat)
   case atStart=>exact⟨0,0,rfl,Za,rfl,ZoD _,rfl⟩
   case round=>
    obtain⟨u,m,rfl,hm,rfl,hu,rfl⟩:=hrel
    by_cases hlt:u<nh
    ·obtain⟨b',o,rfl,g1,g2⟩:=HT.out.hours.at IntR.stays HNH.out Za
     have g3:=g2 wr (by rw[<- hG] at HE0;exact HE0.out.base) u (by rw[HNH.out];exact hlt)
     unfold IntR at g3
     rw[Zo2] at g3
     obtain⟨x,hx⟩:∃ z,t.hours[u]'(by rw[HNH.out];exact hlt)=z:=⟨_,rfl⟩
     rw[hx] at g3
     have eW:IntKind.i64.wrap (m+max 0 (min x 1000))=m+max 0 (min x 1000):=Zo1 _ Za
     have i0':(0:Int)<=(u:Int):=Za
     have i1':(u:Int)<(nh:Int):=Za
     clear g1 g2 hx
     go_wp2
     go_roundw
     case rel=>exact⟨u+1,m+max 0 (min x 1000),by first | rfl | rw[eW],Za,by go_num,Za,by first | rfl | trivial⟩
     case measure=>exact Zj
    ·obtain rfl:u=nh:=Za
     go_wp2_with fail
     go_loopw [11] (fun iv wv=>∃ v:Nat,iv=.int .i64 v/\v<=nr/\Hid (∀ k (h:k<t.rates.length),k<v->LimP t.rates[k])/\wv=wr) (fun iv _=>nr-(intOf iv).toNat)
     case atStart=>exact⟨0,rfl,ZoD _,fun k _ h=>Zo4 h (ZoQ _),rfl⟩
     case round=>
      obtain⟨v,rfl,hv,HV,rfl⟩:=hrel
      by_cases hlt2:v<nr
      ·have hvl:v<t.rates.length:=by rw[HNR.out];exact hlt2
       obtain⟨b',o,rfl,g1,g2⟩:=HT.out.rates.at PPL.stays HNR.out Za
       obtain⟨q,g3,g4⟩:=g2 wr (by rw[<- hG] at HE0;exact HE0.out.base) v hvl
       rw[Zo2] at g3
       obtain⟨R,hR⟩:=Zpg (t.rates[v])
       rw[hR] at g4
       obtain⟨l,hl⟩:=Zpg R.length
       obtain⟨q,qc,rfl,hq1,hq2,_⟩:=id g4
       rw[hl] at g3 g4
       have HPL:=Zpe g4
       have HRR:=Zpe hR
       have HLL:=Zpe hl
       have i0':(0:Int)<=(v:Int):=Za
       have i1':(v:Int)<(nr:Int):=Za
       clear g1 g2 g4 hR hl
       by_cases h26:(26:Int)<(l:Int)
       ·skip
        go_wp2
        exact Zor (by simp[results,Tryz.f14,go_sem]) rfl ⟨true,rfl,(fun h=>by cases h),(by rw[<- hG] at HE0;exact HE0.out.base)⟩
       ·go_wp2_with fail
        go_loopw [12] (fun iv wx=>∃ j:Nat,iv=.int .i64 j/\j<=l/\Hid (∀ i (h:i<R.length),i<j->R[i].1.size<=20/\R[i].2.size<=20)/\wx=wr) (fun iv _=>l-(intOf iv).toNat)
        case atStart=>exact⟨0,rfl,ZoD _,fun k _ h=>Zo4 h (ZoQ _),rfl⟩
        case round=>
         obtain⟨j,rfl,hj,HJ,rfl⟩:=hrel
         by_cases hlt3:j<l
         ·have hjl:j<R.length:=by rw[HLL.out];exact hlt3
          obtain⟨b2,o2,_,hv9,_,_,hbl,hat⟩:=Zeb HPL.out Za
          injection hv9 with e1 e2 e3
          subst e1
          obtain⟨d0,d1⟩:=hat j hjl
          obtain⟨⟨x,y⟩,hxy⟩:∃ z,R[j]=z:=⟨_,rfl⟩
          rw[hxy] at d0 d1
          have HXY:=Zpe hxy
          dsimp only at d0 d1
          have j0':(0:Int)<=(j:Int):=Za
          have j1':(j:Int)<(l:Int):=Za
          clear hat hbl hxy e2 e3
          by_cases h1:(20:Int)<(x.size:Int)
          ·skip
           go_wp2
           exact Zor (by simp[results,Tryz.f14,go_sem]) rfl ⟨true,rfl,(fun h=>by cases h),(by rw[<- hG] at HE0;exact HE0.out.base)⟩
          ·by_cases h2:(20:Int)<(y.size:Int)
           ·skip
            go_wp2
            exact Zor (by simp[results,Tryz.f14,go_sem]) rfl ⟨true,rfl,(fun h=>by cases h),(by rw[<- hG] at HE0;exact HE0.out.base)⟩
           ·have HJ2:Hid (∀ i (h:i<R.length),i<j+1->R[i].1.size<=20/\R[i].2.size<=20):=fun i h hi=>by
             rcases Zow i j with h9 | h9
             ·exact HJ.out i h h9
             ·obtain rfl:i=j:=Za
              rw[HXY.out]
              show x.size<=20/\y.size<=20
              omega
            go_wp2
            go_roundw
            case rel=>exact⟨j+1,by go_num,Za,HJ2,by first | rfl | trivial⟩
            case measure=>exact Zj
         ·obtain rfl:j=l:=Za
          have HV2:Hid (∀ k (h:k<t.rates.length),k<v+1->LimP t.rates[k]):=fun k h hk=>by
           rcases Zow k v with h9 | h9
           ·exact HV.out k h h9
           ·obtain rfl:k=v:=Za
            rw[HRR.out]
            intro z hz
            obtain⟨i,hi,rfl⟩:=List.getElem_of_mem hz
            have:=HJ.out i hi (by rw[<- HLL.out];exact hi)
            omega
          go_wp2
          go_roundw
          case rel=>exact⟨v+1,by go_num,Za,HV2,by first | rfl | trivial⟩
          case measure=>exact Zj
      ·obtain rfl:v=nr:=Za
       go_wp2_with fail
       go_loopw [13] (fun iv wx=>∃ k:Nat,iv=.int .i64 k/\k<=ns/\Hid (∀ i (h:i<t.sites.length),i<k->(t.sites[i].weight.1.size<=20/\t.sites[i].weight.2.size<=20)/\LimB t.sites[i].curve)/\Hid (Env G w [(G,efO (.slice ps ns cs) (.slice ph u ch) (.slice pr v cr))] [] wx)) (fun iv _=>ns-(intOf iv).toNat)
       case atStart=>exact⟨0,rfl,ZoD _,fun k _ h=>Zo4 h (ZoQ _),HE0⟩
       case round=>
        obtain⟨k,rfl,hk,HK,HE⟩:=hrel
        clear HE0 c0 c1 c2
        have c0:=HE.out.cell 0 0 (v:=.slice ps ns cs) rfl rfl
        by_cases hlt3:k<ns
        ·have hkl:k<t.sites.length:=by rw[HNS.out];exact hlt3
         obtain⟨b',o,rfl,g1,g2⟩:=HT.out.sites.at Zc0.stays HNS.out Za
         have g2':∀ W,Below G w W->Zc0 W b' (o+k*3) t.sites[k]:=fun W hW=>g2 W (by rw[hG];exact hW) k hkl
         obtain⟨⟨⟨x,y⟩,bs⟩,hS⟩:∃ z,t.sites[k]=z:=⟨_,rfl⟩
         rw[hS] at g2'
         have HSS:=Zpe hS
         obtain⟨e0,e1,q,e2,hbl⟩:=g2' wr HE.out.base
         have HG2:=Zpe g2'
         obtain⟨l,hl⟩:=Zpg bs.length
         obtain⟨q,qc,rfl,_⟩:=id hbl
         rw[hl] at e2 hbl
         have HBL:=Zpe hbl
         have HLL:=Zpe hl
         have i0':(0:Int)<=(k:Int):=Za
         have i1':(k:Int)<(ns:Int):=Za
         clear g1 g2 g2' hS hbl hl
         go_wp2_with fail
         refine(Zms HBL.out).mono ?_
         rintro e w5 ⟨rb,rfl,hfew,hb⟩
         have HE5:=Zpe (HE.out.step hb)
         clear hb HE c0 e0 e1 e2
         have c0:=HE5.out.cell 0 0 (v:=.slice (some ⟨b',o,none⟩) ns cs) rfl rfl
         obtain⟨e0,e1,_⟩:=HG2.out w5 HE5.out.base
         dsimp only at e0 e1
         cases rb with
         | true=>
          go_wp2
          exact Zor (by simp[results,Tryz.f14,go_sem]) rfl ⟨true,rfl,(fun h=>by cases h),(by rw[hG];exact HE5.out.base)⟩
         | false=>
          have HLB:Hid (LimB bs):=ZnC (hfew rfl).2
          clear hfew
          by_cases h1:(20:Int)<(x.size:Int)
          ·skip
           go_wp2
           exact Zor (by simp[results,Tryz.f14,go_sem]) rfl ⟨true,rfl,(fun h=>by cases h),(by rw[hG];exact HE5.out.base)⟩
          ·by_cases h2:(20:Int)<(y.size:Int)
           ·skip
            go_wp2
            exact Zor (by simp[results,Tryz.f14,go_sem]) rfl ⟨true,rfl,(fun h=>by cases h),(by rw[hG];exact HE5.out.base)⟩
           ·have HK2:Hid (∀ i (h:i<t.sites.length),i<k+1->(t.sites[i].weight.1.size<=20/\t.sites[i].weight.2.size<=20)/\LimB t.sites[i].curve):=fun i h hi=>by
             rcases Zow i k with h9 | h9
             ·exact HK.out i h h9
             ·obtain rfl:i=k:=Za
              rw[HSS.out]
              refine⟨?_,HLB.out⟩
              show x.size<=20/\y.size<=20
              omega
            go_wp2
            go_roundw
            case rel=>exact⟨k+1,by go_num,Za,HK2,HE5⟩
            case measure=>exact Zj
        ·obtain rfl:k=ns:=Za
         have HLT:Hid (LimT t):=⟨fun s hs=>by
          obtain⟨i,hi,rfl⟩:=List.getElem_of_mem hs
          obtain⟨h1,h2⟩:=HK.out i hi (by rw[<- HNS.out];exact hi)
          exact⟨Za,h2⟩,fun l hl=>by
          obtain⟨i,hi,rfl⟩:=List.getElem_of_mem hl
          exact HV.out i hi (by rw[<- HNR.out];exact hi)⟩
         have HFF:=HF.out
         unfold fewT at HFF
         have HSM:Hid (SmallT t a b):=⟨by rw[HNS.out];omega,by rw[HNH.out];omega,by rw[HNR.out];omega,by rw[HNS.out,HNH.out];omega,HLT.out⟩
         clear HFF
         go_wp2
         exact Zor (v:=.bool (decide ((c:Int)<m))) (by simp[results,Tryz.f14,go_sem]) rfl ⟨_,rfl,fun _=>HSM.out,by rw[hG];exact HE.out.base⟩
end Go.Proofs.YtmpaflidennnoaaGreatDoor
