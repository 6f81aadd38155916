/- The parts Long, Gcd, Text. -/
import Derived.Test.YtjmckebecpjjfaaGreatDoorH04
import Derived.Deep.AppendLies
import Derived.Lib.Repeat
set_option maxRecDepth 100000
set_option maxHeartbeats 4000000
set_option linter.unusedVariables false
set_option linter.unusedSimpArgs false
namespace Go.Proofs.YtjmckebecpjjfaaGreatDoor
open Go.RowKit Go.Shelf
theorem Row.weaken {k:IntKind} {E:TypeId} {w:World} {B B' g cap:Nat} {xs:List Nat} (h:Row k E w B g cap xs) (hB:B'<=B):Row k E w B' g cap xs:=by
 obtain⟨h1,h2⟩:=h
 refine⟨h1,?_⟩
 rcases h2 with h2 | ⟨g',cap',cur,h',h3,h4⟩
 ·exact .inl h2
 ·exact .inr ⟨g',cap',cur,h',Zp4 hB h3,h4⟩
theorem ZfH (lo p hi:List Nat) (i j:Nat) (hi0:lo.length+j=i) (hj:j<p.length):(lo++p++hi).getD i 0=p.getD j 0:=by
 subst hi0
 simp only[List.getD,List.append_assoc]
 rw[List.getElem?_append_right Za,Nat.add_sub_cancel_left,List.getElem?_append_left hj]
theorem Zlg {w:World} {b x:Nat} (hc:w.cell? ⟨b,0,none⟩=some (.int .u64 (x:Nat))) (hb:b<w.heap.size) (h0:0<x) (hx:x<1000000000):Num w (.slice (some ⟨b,0,none⟩) 1 1) x:=by
 have e:=Zd2 h0 hx
 refine⟨some ⟨b,0,none⟩,1,?_,?_,by unfold maxLen;omega,fun _=>⟨b,0,rfl,hb,?_⟩⟩
 ·rw[e];rfl
 ·rw[e];simp
 ·rw[e]
  intro j hj
  obtain rfl:j=0:=by simp at hj;omega
  exact hc
theorem Znu (p1 p2:Option Addr) (c1 c2:Nat) (xs ys:List Nat) (n m k:Nat) (w:World) (hxs:Zp 1000000000 n=xs) (hys:Zp 1000000000 m=ys) (hk:ys.length=k+2)
  (h1:Num w (.slice p1 xs.length c1) n) (h2:Num w (.slice p2 ys.length c2) m) (hl1:xs.length<=100000) (hl2:ys.length<=100000) (hle:m<=n) :
  Calls Tryz.prog 107 #[.slice p1 xs.length c1,.slice p2 ys.length c2] w (Ze0 w n m):=by
 obtain⟨i0,hi,hz0,hz1,hz2⟩:=info_parts ZdM
 have H1:=ZqH h1
 have H2:=ZqH h2
 have HXS:=ZqH hxs
 have HYS:=ZqH hys
 have hlen:ys.length<=xs.length:=by rw[<- hxs,<- hys];exact Zas Za hle
 obtain⟨_,_,hv,_,_,h2'⟩:=h2
 rw[hys] at h2' hv
 injection hv with hv1 hv2 hv3
 subst hv1
 obtain⟨b,off,rfl,hb,ha⟩:=h2' (Zp3 Za)
 obtain⟨t,ht⟩:=ZqJ (ys.getD (k+1) 0)
 have htl:t<1000000000:=by rw[<- ht,<- hys];exact ZM Za (ZR Za m) _
 have hct:w.cell? ⟨b,off+(k+1),none⟩=some (.int .u64 (t:Nat)):=ha.getD Za ht
 obtain⟨s,hs⟩:=ZqJ (1000000000/(t+1))
 have HSC:=ZqH (Zpu (B:=1000000000) Za Za hys hk (by rw[ht,hs]))
 have hs1:1<=s:=HSC.out.2.2.1
 have hs2:s<1000000000:=HSC.out.2.2.2.1
 have hct':(1000000000:Int).tdiv ((t:Int)+1)=(s:Int):=by rw[<- hs];rfl
 clear h2' hxs hys h1 ha hv2 hv3 ht hs
 rw[hk] at hl2 hlen H2 ⊢
 go_enter Tryz.func107,Tryz.ntmps107
 go_wp2_with fail
 refine(Zdh H1.out H2.out (by rw[HXS.out];omega) (by rw[HYS.out];omega)).mono ?_
 rintro e w1 ⟨r,rfl,hS,hB⟩
 have hr:¬ r<0:=fun h=>by have:=hS.1.1 h;omega
 have hct1:w1.cell? ⟨b,off+(k+1),none⟩=some (.int .u64 (t:Nat)):=(hB.cell (p:=⟨b,off+(k+1),none⟩) hb).trans hct
 have HB:=ZqH hB
 clear hS hB hct
 go_wp2_with fail
 have HN2:Hid (Num (w1.alloc (.cells #[.int .u64 (s:Nat)] 146)) (.slice (some ⟨w1.heap.size,0,none⟩) 1 1) s):=Zlg (ZP _ _ _ _ rfl) Zc Za hs2
 have HB2:=ZqH (HB.out.alloc HB.out.size (.cells #[.int .u64 (s:Nat)] 146))
 refine(ZfJ (n:=n) (m:=s) (H1.out.below HB2.out ZqI) HN2.out (by rw[HXS.out];omega) (by rw[Zd2 Za hs2];simp)).mono ?_
 rintro e w3 ⟨va,rfl,⟨ga,ca,rfl,hra⟩,hB3⟩
 have hal0:(w1.alloc (.cells #[.int .u64 (s:Nat)] 146)).heap.size=w1.heap.size+1:=Zc
 have hsz3:w1.heap.size+1<=w3.heap.size:=by have:=hB3.size;omega
 have HB3:=ZqH (HB2.out.trans (hB3.mono HB2.out.size))
 obtain⟨zs,hzs⟩:=ZqJ (Zp 1000000000 (n*s))
 have hal:Hid (xs.length<=zs.length/\zs.length<=xs.length+1/\(∀ x ∈ zs,x<1000000000)/\val 1000000000 zs=n*s):=by
  rw[<- hzs,<- HXS.out]
  exact⟨ZgW Za Za,ZgI Za hs2 ZqI,ZR Za _,ZO Za _⟩
 rw[hzs] at hra ⊢
 have hszw1:=HB.out.size
 have hga:w.heap.size<ga:=by have:=hra.lt.1;have:=HB.out.size;omega
 have HRA:=ZqH hra
 have hown:=hra.own (n:=zs.length) rfl
 have hal1:=hal.out.1
 have hal2:=hal.out.2.1
 have hal3:zs.length+1<=maxLen:=by unfold maxLen;omega
 have hal4:(zs.length+1)*8<=140737488355328:=Za
 have hal5:(w1.alloc (.cells #[.int .u64 (s:Nat)] 146)).heap.size<=(w3.alloc (.cells #[.int .u64 0] 146)).heap.size:=by rw[hal0];simp;omega
 clear hra hB3 HN2 HB2 hzs
 go_wp2_with (at_builtin;go_loud (refine wpList_append_lies _ rfl (.tmp 49) (.tmp 50) 105 rfl _ 146 i0 (.int .u64 0) 1 8 Tryz.underlying105 hi hz0 hz1 hz2 rfl Zd _ zs.length _ rfl (hown.alloc _) ⟨w3.heap.size,0,none⟩ 1 1 [.int .u64 0] rfl rfl (cell_one_new _ _ _) (by simp[Value.oneCell']) Zd hal3 hal4 hal5 _ rfl ?_);intro g0 cap0 w4 hown4 hgrow4 hg4 hgl4)
 have HR4:Hid (Row .u64 146 w4 0 g0 cap0 (zs++[0])):=(Row.snoc rfl rfl hown4).weaken (Zp8 _)
 have hg0:w.heap.size<=g0:=by
  rcases hg4 with h | h
  ·have h':ga=g0:=ZpZ h
   omega
  ·rw[h];simp;omega
 have HB4:ZqB w w4:=(HB3.out.alloc HB3.out.size _).grown hgrow4 (by simp;omega) (fun k h=>by have h':ga=k:=ZpZ h;omega)
 have hsz4:=HB4.out.size
 clear hown4 hgrow4 hg4 hown hal3 hal4 hal5 HRA HB3
 have HN5:Hid (Num (w4.alloc (.cells #[.int .u64 (s:Nat)] 146)) (.slice (some ⟨w4.heap.size,0,none⟩) 1 1) s):=Zlg (ZP _ _ _ _ rfl) Zc Za hs2
 have HB5:=ZqH (HB4.out.alloc HB4.out.size (.cells #[.int .u64 (s:Nat)] 146))
 refine(ZfJ (n:=m) (m:=s) (H2.out.below HB5.out ZqI) HN5.out (by rw[HYS.out];omega) (by rw[Zd2 Za hs2];simp)).mono ?_
 rintro e w6 ⟨vb,rfl,⟨gb,cb,rfl,hrb⟩,hB6⟩
 have hal6:(w4.alloc (.cells #[.int .u64 (s:Nat)] 146)).heap.size=w4.heap.size+1:=Zc
 have hsz6:w4.heap.size+1<=w6.heap.size:=by have:=hB6.size;omega
 have hgb:w4.heap.size<gb:=by have:=hrb.lt.1;omega
 have hgbl:=hrb.lt.2
 have HRA:Hid (Row .u64 146 w6 0 g0 cap0 (zs++[0])):=(HR4.out.alloc _).below hB6 Za
 have HB6:=ZqH (HB5.out.trans (hB6.mono HB5.out.size))
 obtain⟨bs,hbs⟩:=ZqJ (Zp 1000000000 (m*s))
 have HBS:Hid ((∀ x ∈ bs,x<1000000000)/\val 1000000000 bs=m*s/\bs.length=k+2/\1000000000 ^ (k+1)<=m*s):=by
  rw[<- hbs];exact⟨ZR Za _,ZO Za _,HSC.out.1,HSC.out.2.2.2.2⟩
 have htop:1000000000<=2*bs.getD (k+1) 0:=by rw[<- hbs];exact HSC.out.2.1
 rw[hbs] at hrb ⊢
 have hbl:bs.length=k+2:=HBS.out.2.2.1
 have HRB:Hid (Row .u64 146 w6 0 gb cb bs):=hrb.weaken (Zp8 _)
 clear HN5 HB5 HB4 hB6 hrb hbs HR4
 obtain⟨top,htp⟩:=ZqJ (bs.getD (k+1) 0)
 obtain⟨sec,hsec⟩:=ZqJ (bs.getD k 0)
 have htl':top<1000000000:=by rw[<- htp];exact ZM Za HBS.out.1 _
 have hsl:sec<1000000000:=by rw[<- hsec];exact ZM Za HBS.out.1 _
 have ct:w6.cell? ⟨gb,k+1,none⟩=some (.int .u64 (top:Nat)):=HRB.out.cell Za htp
 have cs:w6.cell? ⟨gb,k,none⟩=some (.int .u64 (sec:Nat)):=HRB.out.cell Za hsec
 rw[htp] at htop
 have HTP:=ZqH htp
 have HSEC:=ZqH hsec
 rw[hbl]
 obtain⟨lz,hlz⟩:=ZqJ zs.length
 rw[hlz] at hal1 hal2 ⊢
 obtain⟨lq,hlq⟩:∃ lq,lz+1=lq+(k+2):=⟨lz-(k+1),Za⟩
 have hne:((lz:Int)+1==xs.length)=false:=by rw[beq_eq_false_iff_ne];omega
 have HLZ:=ZqH hlz
 clear htp hsec hbl hlz
 go_wp2_with fail
 go_region
 go_wp2_with (at_make;go_loud (refine wpList_make_full _ rfl _ _ 105 rfl w6.heap.size 146 i0 (.int .u64 0) 1 Tryz.underlying105 hi hz0 hz1 _ _ _ _ lq rfl rfl Za Za ?b2 ?b3 ZqI ?_))
 case b2=>rw[hz2];omega
 case b3=>unfold maxLen;omega
 intro w7 hown7 hgrow7
 have HRQ7:Hid (Row .u64 146 w7 0 w6.heap.size lq (List.replicate lq 0)):=(Row.full (k:=.u64) hown7).weaken (Zp8 _)
 have HRA7:Hid (Row .u64 146 w7 0 g0 cap0 (zs++[0])):=(HRA.out.drew).grown hgrow7 Zc
 have HRB7:Hid (Row .u64 146 w7 0 gb cb bs):=(HRB.out.drew).grown hgrow7 Zc
 have HB7:ZqB w w7:=(HB6.out.drew).grown hgrow7 (by have:=HB6.out.size;simpa using this) (fun k h=>by cases h)
 clear hown7 hgrow7
 have HD7:Hid (DivInv 1000000000 bs (n*s) lq lq (zs++[0]) (List.replicate lq 0)):=
  DivInv.start Za hal.out.2.2.1 (by rw[HLZ.out,HBS.out.2.2.1];omega) (by rw[HBS.out.2.2.1];omega) hal.out.2.2.2 (by rw[HBS.out.2.2.1,HBS.out.2.1];exact HBS.out.2.2.2)
 obtain⟨gq,hgq⟩:=ZqJ w6.heap.size
 have hg1:g0<gq:=Za
 have hg2:gb<gq:=Za
 have hg3:g0<gb:=Za
 rw[hgq] at HRQ7 ⊢
 have hszq:w.heap.size<=gq:=Za
 clear ct cs HRA HRB HB6 hgq hsz6 hgbl hgl4 hgb hal6 hal0 hsz3 hszw1 hga hsz4 hct1
 go_wp2
 go_loopw [13] (fun i wr=>∃ (j:Nat) (A Q:List Nat),j<=lq/\i=.int .i64 ((j:Int)-1)/\Hid (Row .u64 146 wr 0 g0 cap0 A)/\Hid (Row .u64 146 wr 0 gq lq Q)/\Hid (Row .u64 146 wr 0 gb cb bs)/\
   Hid (DivInv 1000000000 bs (n*s) lq j A Q)/\ZqB w wr) (fun i _=>(intOf i+1).toNat)
 case atStart=>exact⟨lq,_,_,Nat.le_refl _,congrArg (Value.int .i64) Za,HRA7,HRQ7,HRB7,HD7,HB7⟩
 case round=>
  clear HRA7 HRB7 HRQ7 HD7 HB7
  obtain⟨j,A,Q,hj,rfl,HRA,HRQ,HRB,HD,HB⟩:=hrel
  rcases j with _ | i
  ·have HDN:=ZqH (HD.out.done Za HBS.out.2.1)
   have HAlt:Hid (∀ x ∈ A,x<1000000000):=HD.out.alt
   have HQlt:Hid (∀ x ∈ Q,x<1000000000):=HD.out.qlt
   have HAL:Hid (A.length=lq+(k+2)):=by show _=_;rw[HD.out.alen,HBS.out.2.2.1]
   have HQL:Hid (Q.length=lq):=HD.out.qlen
   have e0:(((0:Nat):Int)-1) = -1:=Za
   rw[e0]
   clear HD e0
   go_wp2_with fail
   refine(Zdb HRA.out HAlt.out (lq+(k+2)) HAL.out.symm _ rfl).mono ?_
   rintro e w' ⟨rfl,rfl,hra⟩
   clear hra
   obtain⟨va,hva⟩:=ZqJ (val 1000000000 A)
   have hlim:=Zfd (B:=1000000000) Za HAlt.out
   have hpre:=Zci (B:=1000000000) Za HAlt.out
   rw[hva] at hlim hpre ⊢
   obtain⟨rs,hrs⟩:=ZqJ (Zp 1000000000 va)
   rw[hrs] at hlim hpre ⊢
   have hrow:Row .u64 146 wr 0 g0 cap0 rs:=by rw[hpre];exact HRA.out.take _
   have HVR:Hid (val 1000000000 rs=va):=by rw[<- hrs];exact ZO Za _
   have hshort:=Zgv (some ⟨g0,0,none⟩) cap0 rs (by rw[HAL.out] at hlim;omega) s Za Za wr (fun _=>⟨g0,0,rfl,hrow.lt.2,hrow.at⟩) (by rw[<- hrs];exact ZR Za _)
   have HVA:=ZqH hva
   clear hlim hpre hrs hva hrow
   go_wp2_with fail
   refine hshort.mono ?_
   rintro e w9 ⟨q,rfl,hq,hB9⟩
   clear hshort
   have HQ9:Hid (Num w9 q (n % m)):=by
    have h:=hq.num
    rw[HVR.out,<- HVA.out,HDN.out.2] at h
    exact h
   have HRQ9:=ZqH (HRQ.out.below hB9 HRQ.out.lt.2)
   have HB9:=ZqH (HB.out.trans (hB9.mono HB.out.size))
   clear hq hB9
   go_wp2_with fail
   refine(Zdb HRQ9.out HQlt.out lq HQL.out.symm _ HDN.out.1).mono ?_
   rintro e w' ⟨rfl,rfl,hrq⟩
   have HN:=ZqH (show Zdl 0 w9 _ _ from ⟨_,_,rfl,hrq⟩).num
   clear hrq
   go_wp2
   go_ret2
   exact⟨_,_,rfl,HN.out,HQ9.out,HB9.out⟩
  ·have e0:(((i+1:Nat):Int)-1)=(i:Nat):=Za
   rw[e0]
   obtain⟨lo,P,hi',rfl,hlo,hP,hPl⟩:=HD.out.split Za
   have hbl:bs.length=k+2:=HBS.out.2.2.1
   have hal:=HD.out.alen
   have hcap:lq+(k+2)<=cap0:=by rw[<- hbl,<- hal];exact HRA.out.cap_le.1
   obtain⟨p0,hp0⟩:=ZqJ (P.getD (k+2) 0)
   obtain⟨p1',hp1⟩:=ZqJ (P.getD (k+1) 0)
   obtain⟨p2',hp2⟩:=ZqJ (P.getD k 0)
   have hpl0:p0<1000000000:=by rw[<- hp0];exact ZM Za hPl _
   have hpl1:p1'<1000000000:=by rw[<- hp1];exact ZM Za hPl _
   have hpl2:p2'<1000000000:=by rw[<- hp2];exact ZM Za hPl _
   rw[hbl] at hP hal
   have cp0:wr.cell? ⟨g0,i+(k+2),none⟩=some (.int .u64 (p0:Nat)):=HRA.out.cell Za ((ZfH lo P hi' _ _ Za Za).trans hp0)
   have cp1:wr.cell? ⟨g0,i+(k+1),none⟩=some (.int .u64 (p1':Nat)):=HRA.out.cell Za ((ZfH lo P hi' _ _ Za Za).trans hp1)
   have cp2:wr.cell? ⟨g0,i+k,none⟩=some (.int .u64 (p2':Nat)):=HRA.out.cell Za ((ZfH lo P hi' _ _ Za Za).trans hp2)
   have HPV:=ZqH (HD.out.part Za HBS.out.1 hlo Za)
   have HDG:=ZqH (Digit.of (B:=1000000000) Za HBS.out.1 hPl hbl hP (by rw[HTP.out];exact htop) HPV.out.2)
   obtain⟨q,hq⟩:=ZqJ (val 1000000000 P/val 1000000000 bs)
   have HDG2:Hid (Digit 1000000000 (val 1000000000 P) (val 1000000000 bs) q (p0*1000000000+p1') top sec p2'):=by
    have h:=HDG.out
    rw[hq,hp0,hp1,hp2,HTP.out,HSEC.out] at h
    exact h
   obtain⟨hd,hhd⟩:=ZqJ (p0*1000000000+p1')
   rw[hhd] at HDG2
   have hhd1:(p0:Int)*1000000000+p1'=(hd:Nat):=Za
   have hhdl:hd<1000000000000000000:=Za
   have HPL:=ZqH hPl
   have HPN:=ZqH hP
   have HLO:=ZqH hlo
   have HAL:=ZqH hal
   have HG:=ZqH HDG2.out.start
   clear hp0 hp1 hp2 hbl hal HPV HDG hq hPl hP hlo
   go_wp2_with fail
   go_region
   have hl3:i+(k+2)+1-i=k+3:=Za
   rw[hl3]
   obtain⟨g1,hg1'⟩:=ZqJ (hd/top)
   obtain⟨f1,hf1'⟩:=ZqJ (hd % top)
   have e1:(hd:Int).tdiv top=(g1:Nat):=by rw[<- hg1'];rfl
   have e2:(hd:Int).tmod top=(f1:Nat):=by rw[<- hf1'];rfl
   rw[hg1',hf1'] at HG
   have hgl:g1<=1000000001:=HG.out.le
   have hfl:f1<1000000000:=HG.out.left_lt
   have ht0:¬ top=0:=Za
   clear hg1' hf1' hl3
   go_wp2_with fail
   go_region
   obtain⟨w8,hw8⟩:=ZqJ wr.drew.drew
   have HRA8:Hid (Row .u64 146 w8 0 g0 cap0 (lo++P++hi')):=by rw[<- hw8];exact HRA
   have HRB8:Hid (Row .u64 146 w8 0 gb cb bs):=by rw[<- hw8];exact HRB
   have HRQ8:Hid (Row .u64 146 w8 0 gq lq Q):=by rw[<- hw8];exact HRQ
   have HB8:ZqB w w8:=by rw[<- hw8];exact HB.out.drew.drew
   have cp28:w8.cell? ⟨g0,i+k,none⟩=some (.int .u64 (p2':Nat)):=by rw[<- hw8];exact cp2
   have hdec:=HDG2
   rw[hw8]
   clear cp0 cp1 cp2 HRA HRB HRQ HB hw8 e1 e2 hhd1 hhd
   go_wp2_with fail
   go_loop [16,17] (fun g l=>∃ (g' f':Nat),g=.int .u64 g'/\l=.int .u64 f'/\Hid (GuessInv 1000000000 top hd q g' f')) (fun g _=>(intOf g).toNat)
   case atStart=>exact⟨g1,f1,rfl,rfl,HG⟩
   case round=>
    clear HG hgl hfl
    obtain⟨g',f,rfl,rfl,HGI⟩:=hrel
    have hgl:g'<=1000000001:=HGI.out.le
    have hfl:f<1000000000:=HGI.out.left_lt
    by_cases hgB:1000000000<=g'
    ·have hqg:=HDG2.out.high hgB
     obtain⟨g,hg5⟩:∃ g,g'=g+1:=⟨g'-1,Za⟩
     have e5:(g':Int)-1=(g:Nat):=Za
     have e6:(1000000000:Int)<=(g':Int):=Za
     have e7:g<=1000000000:=Za
     have HG5:=ZqH hg5
     clear hg5 hgB
     obtain⟨ft,hft⟩:=ZqJ (f+top)
     have e8:(f:Int)+top=(ft:Nat):=Za
     have hftl:ft<2000000000:=Za
     by_cases hbr:1000000000<=ft
     ·have HCL:Hid (Close 1000000000 (val 1000000000 P) (val 1000000000 bs) q g):=by have h:=HDG2.out.stop HGI.out hqg (by rw[hft];exact hbr);rw[HG5.out,Zqo] at h;exact h
      have hbr':(1000000000:Int)<=(ft:Int):=Za
      clear hqg hbr hft
      have hgB':g<1000000000:=HCL.out.gB
      have hT:=ZgT 146 g0 cap0 (cap0-i) i lo P hi' (some ⟨gb,0,none⟩) cb bs g w8 HRA8.out HLO.out.symm HPL.out HBS.out.1 hgB' (by rw[HAL.out];omega)
       (fun _=>⟨gb,0,rfl,Za,HRB8.out.lt.2,HRB8.out.at⟩) (by rw[HBS.out.2.2.1];omega) ⟨by rw[HPN.out];omega,by have:=HRA8.out.cap_le.2;omega⟩
      rw[HPN.out,HBS.out.2.2.1] at hT
      go_wp2_with fail
      refine hT.mono ?_
      rintro e w9 ⟨os,c,wb,rfl,hti,hra9,hgr9⟩
      clear hT
      have HTI:Hid (TakeInv 1000000000 P bs g P.length os c wb):=by rw[HPN.out];exact hti
      have HRA9:=ZqH hra9
      have HRB9:Hid (Row .u64 146 w9 0 gb cb bs):=HRB8.out.grown hgr9 (by simp;omega)
      have HRQ9:Hid (Row .u64 146 w9 0 gq lq Q):=HRQ8.out.grown hgr9 (by simp;omega)
      have HB9:ZqB w w9:=HB8.out.grown hgr9 HB8.out.size (fun k h=>by have h':g0=k:=ZpZ h;omega)
      clear hti hra9 hgr9
      by_cases hf:g*val 1000000000 bs<=val 1000000000 P
      ·have hfit:=ZfG HTI.out (by rw[HPN.out,HBS.out.2.2.1];omega) (by rw[Zqh];exact hf)
       have hcw:c+wb=0:=Za
       have HS:Hid (DivInv 1000000000 bs (n*s) lq i (lo++os++hi') (Q.set i g)):=
        HD.out.step Za HBS.out.1 Za HLO.out (by rw[HPN.out,HBS.out.2.2.1]) HTI.out.len HTI.out.lt hgB' (by rw[Zqh];exact hf) hfit.2.2 (HCL.out.fits hf)
       rw[hcw]
       clear hfit hcw hf
       have HQ0:(Q.getD i 0)=0:=HD.out.zero i Za
       have cQ:w9.cell? ⟨gq,i,none⟩=some (.int .u64 (0:Nat)):=HRQ9.out.cell (by rw[HD.out.qlen];omega) HQ0
       have fQ:w9.frozen? ⟨gq,i,none⟩=false:=HRQ9.out.frozen _
       clear HQ0
       go_wp2
       go_roundw
       case rel=>exact⟨i,_,_,Za,rfl,HRA9.out.setOther (by simp;omega) _,HRQ9.out.set i g,HRB9.out.setOther (by simp;omega) _,HS,HB9.out.setCell (by simp;omega) _⟩
       case measure=>simp[intOf]<;>omega
      ·obtain⟨h1,hov⟩:=HCL.out.over Za
       obtain⟨g9,hg9⟩:∃ g9,g=g9+1:=⟨g-1,Za⟩
       have hmuch:=Zdo HTI.out (by rw[HPN.out,HBS.out.2.2.1];omega) (by rw[Zqh];omega) (by rw[Zqh];exact HCL.out.le)
        (Zp2 (Z4 HBS.out.1) (Zp6 Za (by rw[HPN.out,HBS.out.2.2.1];omega)))
       have hcw:c+wb=1:=hmuch.1
       have hlen:=HTI.out.len
       have HG9:Hid (g=g9+1):=hg9
       have hG:=ZgU 146 g0 cap0 (cap0-i) i lo os hi' (some ⟨gb,0,none⟩) cb bs w9 HRA9.out HLO.out.symm HTI.out.lt HBS.out.1
        (by have:=HAL.out;simp only[Zqc] at this ⊢;rw[hlen];omega)
        (fun _=>⟨gb,0,rfl,Za,HRB9.out.lt.2,HRB9.out.at⟩) (by rw[HBS.out.2.2.1];omega) ⟨by rw[hlen,HPN.out];omega,by have:=HRA8.out.cap_le.2;omega⟩
       rw[hlen,HPN.out,HBS.out.2.2.1] at hG
       rw[hcw,hg9]
       have HHF:=ZqH hf
       have HOV:=ZqH hov
       have HMU:=ZqH hmuch.2
       have HLE:=ZqH hlen
       have h91:g9<1000000000:=Za
       clear hmuch hcw hlen hf hov hg9 h1
       go_wp2_with fail
       refine hG.mono ?_
       rintro e w10 ⟨rfl,os',c',hgi,hra,hgr⟩
       have HGI:Hid (GiveInv 1000000000 os bs os.length os' c'):=by rw[HLE.out,HPN.out];exact hgi
       have hback:=ZfK (p0:=P) (t:=g) HGI.out (by rw[HLE.out,HPN.out,HBS.out.2.2.1];omega) (by rw[HMU.out,HLE.out]) (by have:=HG9.out;omega) (by rw[Zqh];exact HCL.out.le)
        (Nat.lt_trans HOV.out (Zp2 (Z4 HBS.out.1) (Zp6 Za (by rw[HLE.out,HPN.out,HBS.out.2.2.1];omega))))
       have HS:Hid (DivInv 1000000000 bs (n*s) lq i (lo++os'++hi') (Q.set i g9)):=by
        have e9:g-1=g9:=by have:=HG9.out;omega
        have hov:=HOV.out
        have hle:=HCL.out.le
        rw[e9] at hback hov hle
        exact HD.out.step Za HBS.out.1 Za HLO.out (by rw[HPN.out,HBS.out.2.2.1]) (by rw[HGI.out.len,HLE.out]) HGI.out.lt h91 (by rw[Zqh];exact hle) hback hov
       have HRA9':=ZqH hra
       have HRB9':Hid (Row .u64 146 w10 0 gb cb bs):=HRB9.out.grown hgr (by simp;omega)
       have HRQ9':Hid (Row .u64 146 w10 0 gq lq Q):=HRQ9.out.grown hgr (by simp;omega)
       have HB9':ZqB w w10:=HB9.out.grown hgr HB9.out.size (fun k h=>by have h':g0=k:=ZpZ h;omega)
       clear HRA9 HRB9 HRQ9 HB9 hgi hra hgr hback hG
       have HRA9:=HRA9'
       have HRB9:=HRB9'
       have HRQ9:=HRQ9'
       have HB9:=HB9'
       clear HRA9' HRB9' HRQ9' HB9'
       have HQ0:(Q.getD i 0)=0:=HD.out.zero i Za
       have cQ:w10.cell? ⟨gq,i,none⟩=some (.int .u64 (0:Nat)):=HRQ9.out.cell (by rw[HD.out.qlen];omega) HQ0
       have fQ:w10.frozen? ⟨gq,i,none⟩=false:=HRQ9.out.frozen _
       clear HQ0
       go_wp2
       go_roundw
       case rel=>exact⟨i,_,_,Za,rfl,HRA9.out.setOther (by simp;omega) _,HRQ9.out.set i g9,HRB9.out.setOther (by simp;omega) _,HS,HB9.out.setCell (by simp;omega) _⟩
       case measure=>simp[intOf]<;>omega
     ·have HS:Hid (GuessInv 1000000000 top hd q g ft):=by have h:=HGI.out.less hqg Za;rw[HG5.out,Zqo,hft] at h;exact h
      have hbr':¬ (1000000000:Int)<=(ft:Int):=Za
      have hbr2:ft<1000000000:=Za
      have hbr3:decide ((1000000000:Int)<=(ft:Int))=false:=by simp;omega
      clear hqg hbr hft
      go_wp2
      go_round
      case rel=>first | exact⟨g,ft,by go_num,by go_num,HS⟩ | exact⟨trivial,_,_,_,_,_,_,_,_,_,_,_,_,_,_,_,_,_,_,_,_,_,_,_,⟨g,ft,by go_num,by go_num,HS⟩,rfl⟩
      case measure=>exact Zj
    ·by_cases htest:f*1000000000+p2'<g'*sec
     ·have hqg:=HDG2.out.test HGI.out htest
      obtain⟨g,hg5⟩:∃ g,g'=g+1:=⟨g'-1,Za⟩
      have e5:(g':Int)-1=(g:Nat):=Za
      have e6:¬ (1000000000:Int)<=(g':Int):=Za
      have e7:g<=1000000000:=Za
      have HG5:=ZqH hg5
      have hdc:decide (f*1000000000+p2'<g'*sec)=true:=by simpa using htest
      have hgr:=Zgt g' sec f p2' Za hsl hfl hpl2 w8
      rw[hdc] at hgr
      clear hg5 hgB htest hdc
      go_wp2_with fail
      refine hgr.mono ?_
      rintro e w8' ⟨rfl,rfl⟩
      clear hgr
      obtain⟨ft,hft⟩:=ZqJ (f+top)
      have e8:(f:Int)+top=(ft:Nat):=Za
      have hftl:ft<2000000000:=Za
      by_cases hbr:1000000000<=ft
      ·have HCL:Hid (Close 1000000000 (val 1000000000 P) (val 1000000000 bs) q g):=by have h:=HDG2.out.stop HGI.out hqg (by rw[hft];exact hbr);rw[HG5.out,Zqo] at h;exact h
       have hbr':(1000000000:Int)<=(ft:Int):=Za
       clear hqg hbr hft
       have hgB':g<1000000000:=HCL.out.gB
       have hT:=ZgT 146 g0 cap0 (cap0-i) i lo P hi' (some ⟨gb,0,none⟩) cb bs g w8 HRA8.out HLO.out.symm HPL.out HBS.out.1 hgB' (by rw[HAL.out];omega)
        (fun _=>⟨gb,0,rfl,Za,HRB8.out.lt.2,HRB8.out.at⟩) (by rw[HBS.out.2.2.1];omega) ⟨by rw[HPN.out];omega,by have:=HRA8.out.cap_le.2;omega⟩
       rw[HPN.out,HBS.out.2.2.1] at hT
       go_wp2_with fail
       refine hT.mono ?_
       rintro e w9 ⟨os,c,wb,rfl,hti,hra9,hgr9⟩
       clear hT
       have HTI:Hid (TakeInv 1000000000 P bs g P.length os c wb):=by rw[HPN.out];exact hti
       have HRA9:=ZqH hra9
       have HRB9:Hid (Row .u64 146 w9 0 gb cb bs):=HRB8.out.grown hgr9 (by simp;omega)
       have HRQ9:Hid (Row .u64 146 w9 0 gq lq Q):=HRQ8.out.grown hgr9 (by simp;omega)
       have HB9:ZqB w w9:=HB8.out.grown hgr9 HB8.out.size (fun k h=>by have h':g0=k:=ZpZ h;omega)
       clear hti hra9 hgr9
       by_cases hf:g*val 1000000000 bs<=val 1000000000 P
       ·have hfit:=ZfG HTI.out (by rw[HPN.out,HBS.out.2.2.1];omega) (by rw[Zqh];exact hf)
        have hcw:c+wb=0:=Za
        have HS:Hid (DivInv 1000000000 bs (n*s) lq i (lo++os++hi') (Q.set i g)):=
         HD.out.step Za HBS.out.1 Za HLO.out (by rw[HPN.out,HBS.out.2.2.1]) HTI.out.len HTI.out.lt hgB' (by rw[Zqh];exact hf) hfit.2.2 (HCL.out.fits hf)
        rw[hcw]
        clear hfit hcw hf
        have HQ0:(Q.getD i 0)=0:=HD.out.zero i Za
        have cQ:w9.cell? ⟨gq,i,none⟩=some (.int .u64 (0:Nat)):=HRQ9.out.cell (by rw[HD.out.qlen];omega) HQ0
        have fQ:w9.frozen? ⟨gq,i,none⟩=false:=HRQ9.out.frozen _
        clear HQ0
        go_wp2
        go_roundw
        case rel=>exact⟨i,_,_,Za,rfl,HRA9.out.setOther (by simp;omega) _,HRQ9.out.set i g,HRB9.out.setOther (by simp;omega) _,HS,HB9.out.setCell (by simp;omega) _⟩
        case measure=>simp[intOf]<;>omega
       ·obtain⟨h1,hov⟩:=HCL.out.over Za
        obtain⟨g9,hg9⟩:∃ g9,g=g9+1:=⟨g-1,Za⟩
        have hmuch:=Zdo HTI.out (by rw[HPN.out,HBS.out.2.2.1];omega) (by rw[Zqh];omega) (by rw[Zqh];exact HCL.out.le)
         (Zp2 (Z4 HBS.out.1) (Zp6 Za (by rw[HPN.out,HBS.out.2.2.1];omega)))
        have hcw:c+wb=1:=hmuch.1
        have hlen:=HTI.out.len
        have HG9:Hid (g=g9+1):=hg9
        have hG:=ZgU 146 g0 cap0 (cap0-i) i lo os hi' (some ⟨gb,0,none⟩) cb bs w9 HRA9.out HLO.out.symm HTI.out.lt HBS.out.1
         (by have:=HAL.out;simp only[Zqc] at this ⊢;rw[hlen];omega)
         (fun _=>⟨gb,0,rfl,Za,HRB9.out.lt.2,HRB9.out.at⟩) (by rw[HBS.out.2.2.1];omega) ⟨by rw[hlen,HPN.out];omega,by have:=HRA8.out.cap_le.2;omega⟩
        rw[hlen,HPN.out,HBS.out.2.2.1] at hG
        rw[hcw,hg9]
        have HHF:=ZqH hf
        have HOV:=ZqH hov
        have HMU:=ZqH hmuch.2
        have HLE:=ZqH hlen
        have h91:g9<1000000000:=Za
        clear hmuch hcw hlen hf hov hg9 h1
        go_wp2_with fail
        refine hG.mono ?_
        rintro e w10 ⟨rfl,os',c',hgi,hra,hgr⟩
        have HGI:Hid (GiveInv 1000000000 os bs os.length os' c'):=by rw[HLE.out,HPN.out];exact hgi
        have hback:=ZfK (p0:=P) (t:=g) HGI.out (by rw[HLE.out,HPN.out,HBS.out.2.2.1];omega) (by rw[HMU.out,HLE.out]) (by have:=HG9.out;omega) (by rw[Zqh];exact HCL.out.le)
         (Nat.lt_trans HOV.out (Zp2 (Z4 HBS.out.1) (Zp6 Za (by rw[HLE.out,HPN.out,HBS.out.2.2.1];omega))))
        have HS:Hid (DivInv 1000000000 bs (n*s) lq i (lo++os'++hi') (Q.set i g9)):=by
         have e9:g-1=g9:=by have:=HG9.out;omega
         have hov:=HOV.out
         have hle:=HCL.out.le
         rw[e9] at hback hov hle
         exact HD.out.step Za HBS.out.1 Za HLO.out (by rw[HPN.out,HBS.out.2.2.1]) (by rw[HGI.out.len,HLE.out]) HGI.out.lt h91 (by rw[Zqh];exact hle) hback hov
        have HRA9':=ZqH hra
        have HRB9':Hid (Row .u64 146 w10 0 gb cb bs):=HRB9.out.grown hgr (by simp;omega)
        have HRQ9':Hid (Row .u64 146 w10 0 gq lq Q):=HRQ9.out.grown hgr (by simp;omega)
        have HB9':ZqB w w10:=HB9.out.grown hgr HB9.out.size (fun k h=>by have h':g0=k:=ZpZ h;omega)
        clear HRA9 HRB9 HRQ9 HB9 hgi hra hgr hback hG
        have HRA9:=HRA9'
        have HRB9:=HRB9'
        have HRQ9:=HRQ9'
        have HB9:=HB9'
        clear HRA9' HRB9' HRQ9' HB9'
        have HQ0:(Q.getD i 0)=0:=HD.out.zero i Za
        have cQ:w10.cell? ⟨gq,i,none⟩=some (.int .u64 (0:Nat)):=HRQ9.out.cell (by rw[HD.out.qlen];omega) HQ0
        have fQ:w10.frozen? ⟨gq,i,none⟩=false:=HRQ9.out.frozen _
        clear HQ0
        go_wp2
        go_roundw
        case rel=>exact⟨i,_,_,Za,rfl,HRA9.out.setOther (by simp;omega) _,HRQ9.out.set i g9,HRB9.out.setOther (by simp;omega) _,HS,HB9.out.setCell (by simp;omega) _⟩
        case measure=>simp[intOf]<;>omega
      ·have HS:Hid (GuessInv 1000000000 top hd q g ft):=by have h:=HGI.out.less hqg Za;rw[HG5.out,Zqo,hft] at h;exact h
       have hbr':¬ (1000000000:Int)<=(ft:Int):=Za
       have hbr2:ft<1000000000:=Za
       have hbr3:decide ((1000000000:Int)<=(ft:Int))=false:=by simp;omega
       clear hqg hbr hft
       go_wp2
       go_round
       case rel=>first | exact⟨g,ft,by go_num,by go_num,HS⟩ | exact⟨trivial,_,_,_,_,_,_,_,_,_,_,_,_,_,_,_,_,_,_,_,_,_,_,_,⟨g,ft,by go_num,by go_num,HS⟩,rfl⟩
       case measure=>exact Zj
     ·have HCL:=ZqH (HDG2.out.done HGI.out Za htest)
      have e6:¬ (1000000000:Int)<=(g':Int):=Za
      have hdc:decide (f*1000000000+p2'<g'*sec)=false:=by simpa using htest
      have hgr:=Zgt g' sec f p2' Za hsl hfl hpl2 w8
      rw[hdc] at hgr
      clear hgB htest hdc
      go_wp2_with fail
      refine hgr.mono ?_
      rintro e w8' ⟨rfl,rfl⟩
      clear hgr
      have hgB':g'<1000000000:=HCL.out.gB
      have hT:=ZgT 146 g0 cap0 (cap0-i) i lo P hi' (some ⟨gb,0,none⟩) cb bs g' w8 HRA8.out HLO.out.symm HPL.out HBS.out.1 hgB' (by rw[HAL.out];omega)
       (fun _=>⟨gb,0,rfl,Za,HRB8.out.lt.2,HRB8.out.at⟩) (by rw[HBS.out.2.2.1];omega) ⟨by rw[HPN.out];omega,by have:=HRA8.out.cap_le.2;omega⟩
      rw[HPN.out,HBS.out.2.2.1] at hT
      go_wp2_with fail
      refine hT.mono ?_
      rintro e w9 ⟨os,c,wb,rfl,hti,hra9,hgr9⟩
      clear hT
      have HTI:Hid (TakeInv 1000000000 P bs g' P.length os c wb):=by rw[HPN.out];exact hti
      have HRA9:=ZqH hra9
      have HRB9:Hid (Row .u64 146 w9 0 gb cb bs):=HRB8.out.grown hgr9 (by simp;omega)
      have HRQ9:Hid (Row .u64 146 w9 0 gq lq Q):=HRQ8.out.grown hgr9 (by simp;omega)
      have HB9:ZqB w w9:=HB8.out.grown hgr9 HB8.out.size (fun k h=>by have h':g0=k:=ZpZ h;omega)
      clear hti hra9 hgr9
      by_cases hf:g'*val 1000000000 bs<=val 1000000000 P
      ·have hfit:=ZfG HTI.out (by rw[HPN.out,HBS.out.2.2.1];omega) (by rw[Zqh];exact hf)
       have hcw:c+wb=0:=Za
       have HS:Hid (DivInv 1000000000 bs (n*s) lq i (lo++os++hi') (Q.set i g')):=
        HD.out.step Za HBS.out.1 Za HLO.out (by rw[HPN.out,HBS.out.2.2.1]) HTI.out.len HTI.out.lt hgB' (by rw[Zqh];exact hf) hfit.2.2 (HCL.out.fits hf)
       rw[hcw]
       clear hfit hcw hf
       have HQ0:(Q.getD i 0)=0:=HD.out.zero i Za
       have cQ:w9.cell? ⟨gq,i,none⟩=some (.int .u64 (0:Nat)):=HRQ9.out.cell (by rw[HD.out.qlen];omega) HQ0
       have fQ:w9.frozen? ⟨gq,i,none⟩=false:=HRQ9.out.frozen _
       clear HQ0
       go_wp2
       go_roundw
       case rel=>exact⟨i,_,_,Za,rfl,HRA9.out.setOther (by simp;omega) _,HRQ9.out.set i g',HRB9.out.setOther (by simp;omega) _,HS,HB9.out.setCell (by simp;omega) _⟩
       case measure=>simp[intOf]<;>omega
      ·obtain⟨h1,hov⟩:=HCL.out.over Za
       obtain⟨g9,hg9⟩:∃ g9,g'=g9+1:=⟨g'-1,Za⟩
       have hmuch:=Zdo HTI.out (by rw[HPN.out,HBS.out.2.2.1];omega) (by rw[Zqh];omega) (by rw[Zqh];exact HCL.out.le)
        (Zp2 (Z4 HBS.out.1) (Zp6 Za (by rw[HPN.out,HBS.out.2.2.1];omega)))
       have hcw:c+wb=1:=hmuch.1
       have hlen:=HTI.out.len
       have HG9:Hid (g'=g9+1):=hg9
       have hG:=ZgU 146 g0 cap0 (cap0-i) i lo os hi' (some ⟨gb,0,none⟩) cb bs w9 HRA9.out HLO.out.symm HTI.out.lt HBS.out.1
        (by have:=HAL.out;simp only[Zqc] at this ⊢;rw[hlen];omega)
        (fun _=>⟨gb,0,rfl,Za,HRB9.out.lt.2,HRB9.out.at⟩) (by rw[HBS.out.2.2.1];omega) ⟨by rw[hlen,HPN.out];omega,by have:=HRA8.out.cap_le.2;omega⟩
       rw[hlen,HPN.out,HBS.out.2.2.1] at hG
       rw[hcw,hg9]
       have HHF:=ZqH hf
       have HOV:=ZqH hov
       have HMU:=ZqH hmuch.2
       have HLE:=ZqH hlen
       have h91:g9<1000000000:=Za
       clear hmuch hcw hlen hf hov hg9 h1
       go_wp2_with fail
       refine hG.mono ?_
       rintro e w10 ⟨rfl,os',c',hgi,hra,hgr⟩
       have HGI:Hid (GiveInv 1000000000 os bs os.length os' c'):=by rw[HLE.out,HPN.out];exact hgi
       have hback:=ZfK (p0:=P) (t:=g') HGI.out (by rw[HLE.out,HPN.out,HBS.out.2.2.1];omega) (by rw[HMU.out,HLE.out]) (by have:=HG9.out;omega) (by rw[Zqh];exact HCL.out.le)
        (Nat.lt_trans HOV.out (Zp2 (Z4 HBS.out.1) (Zp6 Za (by rw[HLE.out,HPN.out,HBS.out.2.2.1];omega))))
       have HS:Hid (DivInv 1000000000 bs (n*s) lq i (lo++os'++hi') (Q.set i g9)):=by
        have e9:g'-1=g9:=by have:=HG9.out;omega
        have hov:=HOV.out
        have hle:=HCL.out.le
        rw[e9] at hback hov hle
        exact HD.out.step Za HBS.out.1 Za HLO.out (by rw[HPN.out,HBS.out.2.2.1]) (by rw[HGI.out.len,HLE.out]) HGI.out.lt h91 (by rw[Zqh];exact hle) hback hov
       have HRA9':=ZqH hra
       have HRB9':Hid (Row .u64 146 w10 0 gb cb bs):=HRB9.out.grown hgr (by simp;omega)
       have HRQ9':Hid (Row .u64 146 w10 0 gq lq Q):=HRQ9.out.grown hgr (by simp;omega)
       have HB9':ZqB w w10:=HB9.out.grown hgr HB9.out.size (fun k h=>by have h':g0=k:=ZpZ h;omega)
       clear HRA9 HRB9 HRQ9 HB9 hgi hra hgr hback hG
       have HRA9:=HRA9'
       have HRB9:=HRB9'
       have HRQ9:=HRQ9'
       have HB9:=HB9'
       clear HRA9' HRB9' HRQ9' HB9'
       have HQ0:(Q.getD i 0)=0:=HD.out.zero i Za
       have cQ:w10.cell? ⟨gq,i,none⟩=some (.int .u64 (0:Nat)):=HRQ9.out.cell (by rw[HD.out.qlen];omega) HQ0
       have fQ:w10.frozen? ⟨gq,i,none⟩=false:=HRQ9.out.frozen _
       clear HQ0
       go_wp2
       go_roundw
       case rel=>exact⟨i,_,_,Za,rfl,HRA9.out.setOther (by simp;omega) _,HRQ9.out.set i g9,HRB9.out.setOther (by simp;omega) _,HS,HB9.out.setCell (by simp;omega) _⟩
       case measure=>simp[intOf]<;>omega
theorem ZgP {v1 v2:Value} {n m:Nat} {w:World} (h1:Num w v1 n) (h2:Num w v2 m) (hl1:(Zp 1000000000 n).length<=100000) (hl2:(Zp 1000000000 m).length<=100000) (hm:0<m) :
  Calls Tryz.prog 107 #[v1,v2] w (Ze0 w n m):=by
 rcases Zp1 n m with hlt | hle
 ·exact Zlx h1 h2 Za Za hlt
 ·obtain⟨p1,c1,rfl,a1,a2,hp1⟩:=id h1
  obtain⟨p2,c2,rfl,b1,b2,hp2⟩:=id h2
  have hpos:0<(Zp 1000000000 m).length:=(Zbe Za).2 hm
  rcases Zp1 (Zp 1000000000 m).length 2 with hs | hs
  ·have hone:(Zp 1000000000 m).length=1:=Za
   have hmB:m<1000000000:=by
    have h3:=Z4 (ZR (B:=1000000000) Za m)
    rw[ZO Za,hone] at h3
    omega
   rw[hone] at h2 ⊢
   exact ZlS p1 p2 c1 c2 _ m n w rfl hm hmB h1 h2 Za hle
  ·obtain⟨k,hk⟩:∃ k,(Zp 1000000000 m).length=k+2:=⟨_,(Nat.sub_add_cancel hs).symm⟩
   exact Znu p1 p2 c1 c2 _ _ n m k w rfl rfl hk h1 h2 hl1 hl2 hle
theorem Znj {k:IntKind} {w:World} {b off:Nat} {xs ys:List Nat} (h1:At k w b off xs) (h2:At k w b off ys) (hl:xs.length=ys.length):xs=ys:=by
 refine List.ext_getElem hl fun j h3 h4=>?_
 have h5:=(h1 j h3).symm.trans (h2 j h4)
 injection h5 with h5
 injection h5 with _ h5
 omega
theorem Num.unique {w:World} {v:Value} {n m:Nat} (h1:Num w v n) (h2:Num w v m):n=m:=by
 obtain⟨p1,c1,rfl,_,_,h1⟩:=h1
 obtain⟨p2,c2,hv,_,_,h2⟩:=h2
 injection hv with e1 e2 e3
 have:Zp 1000000000 n=Zp 1000000000 m:=by
  by_cases hn:Zp 1000000000 n=[]
  ·rw[hn] at e2 ⊢
   exact(Zp7 e2.symm).symm
  ·have hm:Zp 1000000000 m≠[]:=fun h=>by rw[h] at e2;exact hn (Zp7 e2)
   obtain⟨b1,o1,rfl,_,a1⟩:=h1 hn
   obtain⟨b2,o2,hb,_,a2⟩:=h2 hm
   rw[<- e1] at hb
   injection hb with hb
   injection hb with hb1 hb2
   subst hb1;subst hb2
   exact Znj a1 a2 e2
 have h3:=congrArg (val 1000000000) this
 rwa [ZO Za,ZO Za] at h3
open Classical in
noncomputable def numV (w:World) (v:Value):Nat:=if h:∃ n,Num w v n then h.choose else 0
theorem Zla {w:World} {v:Value} {n:Nat} (h:Num w v n):numV w v=n:=by
 unfold numV
 rw[dif_pos ⟨n,h⟩]
 exact Num.unique (Exists.choose_spec (⟨n,h⟩:∃ n,Num w v n)) h
def ZfU (w:World) (n:Nat) (e:Ending) (w':World):Prop:=∃ v,e=.returned v/\Num w' v n/\Below w.heap.size w w'
theorem Zlm {v1 v2:Value} {n m:Nat} {w:World} (h1:Num w v1 n) (h2:Num w v2 m) (hl1:(Zp 1000000000 n).length<=100000) (hl2:(Zp 1000000000 m).length<=100000) :
  Calls Tryz.prog 81 #[v1,v2] w (ZfU w (Nat.gcd n m)):=by
 have H1:=ZqH h1
 have H2:=ZqH h2
 clear h1 h2
 go_enter Tryz.func81,Tryz.ntmps81
 go_wp2
 go_loopw [0,1] (fun va vb wr=>∃ (a b:Nat),Hid (Num wr va a)/\Hid (Num wr vb b)/\Hid (Nat.gcd a b=Nat.gcd n m)/\Hid ((Zp 1000000000 a).length<=100000/\(Zp 1000000000 b).length<=100000)/\ZqB w wr) (fun _ vb wr=>numV wr vb)
 case atStart=>exact⟨n,m,H1,H2,rfl,⟨hl1,hl2⟩,ZpV _ _⟩
 case round=>
  obtain⟨a,b,HA,HB,HG,HL,HW⟩:=hrel
  rcases Zqa b with h0 | h0
  ·subst h0
   obtain⟨p,c,rfl,_,_,_⟩:=id HB.out
   have e0:(Zp 1000000000 0).length=0:=by rw[ZL];rfl
   rw[e0]
   have HN:Hid (Num wr u0 (Nat.gcd n m)):=by
    have h:=HG.out
    rw[Nat.gcd_zero_right] at h
    rw[<- h];exact HA
   clear HB HA HG HL e0
   go_wp2
   go_ret
   exact⟨_,rfl,HN.out,HW.out⟩
  ·obtain⟨p,c,rfl,_,_,_⟩:=id HB.out
   have hp:0<(Zp 1000000000 b).length:=(Zbe Za).2 h0
   have HNB:Hid (numV wr (.slice p (Zp 1000000000 b).length c)=b):=Zla HB.out
   have hov:=ZgP HA.out HB.out HL.out.1 HL.out.2 h0
   obtain⟨l,hl⟩:=ZqJ ((Zp 1000000000 b).length)
   rw[hl] at hov hp HB HNB ⊢
   have Hl:=ZqH hl
   clear hl
   go_wp2_with fail
   refine hov.mono ?_
   rintro e w9 ⟨q,r,rfl,hq,hr,hb9⟩
   have HR:=ZqH hr
   have HB9:Hid (Num w9 (.slice p l c) b):=HB.out.below hb9 ZqI
   have HW9:=ZqH (HW.out.trans (hb9.mono HW.out.size))
   have HM:Hid (numV w9 r<b):=by show _<_;rw[Zla hr];exact Nat.mod_lt _ h0
   clear hov hq hr hb9
   go_wp2
   go_roundw
   case rel=>exact⟨b,a % b,HB9,HR,by rw[<- HG.out,Nat.gcd_comm a b];exact(Nat.gcd_rec b a).symm ▸ (Nat.gcd_comm _ _),⟨HL.out.2,Zp4 (Zas Za (Nat.mod_le _ _)) HL.out.1⟩,HW9⟩
   case measure=>rw[HNB.out];exact HM.out
end Go.Proofs.YtjmckebecpjjfaaGreatDoor
namespace Go.Proofs.YtjmckebecpjjfaaGreatDoor
open Go.RowKit Go.Shelf
attribute [local go_sem] Oper.semAt_some
def ZbU (B b D:Nat) (l:List UInt8) (w:World):Prop:=
 B<=b/\∃ v,w.heap[b]?=some (.cells #[.pointer (some ⟨b,0,none⟩),v] 221 (0,0))/\w.ownsRowF B 5 1 v (Lib.byteCells l).length (Lib.byteCells l)/\v.ownBlock≠some b/\
  v.ownBlock≠some D/\v.ownBlock≠some (D+1)
theorem ZbU.bld {B b D:Nat} {l:List UInt8} {w:World} (h:ZbU B b D l w):Bld B b l w:=by
 obtain⟨h1,v,h2,h3,h4,_⟩:=h
 exact .inr ⟨h1,v,h2,h3,h4⟩
theorem Zhf {w:World} {base:Nat} {e:TypeId} {size:Nat} {v:Value} {n:Nat} {xs:List Value} (h:w.ownsRowF base e size v n xs) {r:Nat} (hr:v.ownBlock=some r):∃ cur fz,w.heap[r]?=some (.cells cur e fz):=by
 rcases h.2 with ⟨rfl,_⟩ | ⟨g,cap,cur,fz,rfl,_,hg,_⟩
 ·cases hr
 ·have:=ZpZ hr
  subst this
  exact⟨cur,fz,hg⟩
theorem ZbU.keeps {S:Nat->Prop} {B b D:Nat} {l:List UInt8} {w w':World} (h:ZbU B b D l w) (hk:Keeps S w w') (hb:S b) (hS:∀ r,r≠D->r≠D+1->S r):ZbU B b D l w':=by
 obtain⟨h1,v,h2,h3,h4,h5,h6⟩:=h
 refine⟨h1,v,by rw[hk.block b (ZqC h2) hb];exact h2,⟨h3.1,?_⟩,h4,h5,h6⟩
 rcases h3.2 with h7 | ⟨g,cap,cur,fz,rfl,hbg,hg,hr⟩
 ·exact .inl h7
 ·refine .inr ⟨g,cap,cur,fz,rfl,hbg,?_,hr⟩
  rw[hk.block g (ZqC hg) (hS g (fun e=>h5 (by rw[e];rfl)) (fun e=>h6 (by rw[e];rfl)))]
  exact hg
theorem ZbU.of {B b D:Nat} {l:List UInt8} {w:World} (h:Lib.BuilderAtF 221 5 B b (.pointer (some ⟨b,0,none⟩)) (Lib.byteCells l) w)
  (hD:∀ c T fz,w.heap[D]?≠some (.cells c T fz)) (hD1:∀ c T fz,w.heap[D+1]?≠some (.cells c T fz)):ZbU B b D l w:=by
 obtain⟨h1,v,h2,h3,h4⟩:=h
 refine⟨h1,v,h2,h3,h4,fun e=>?_,fun e=>?_⟩
 ·obtain⟨cur,fz,hc⟩:=Zhf h3 e
  exact hD _ _ _ hc
 ·obtain⟨cur,fz,hc⟩:=Zhf h3 e
  exact hD1 _ _ _ hc
theorem Zf3 (c:UInt8):∀ k,Lib.repeatL [c] k=List.replicate k c
 | 0=>rfl
 | k+1=>by rw[Lib.repeatL,Zf3 c k];rfl
theorem ZgO (l m:List UInt8):Lib.byteCells (l++m)=Lib.byteCells l++Lib.byteCells m:=by simp[Lib.byteCells]
theorem ZcO (B b:Nat) (l:List UInt8) (s:ByteArray) (w:World) (h:Bld B b l w) (hlen:l.length+s.size<=140737488355328) (hBw:B<=w.heap.size) :
  Calls Tryz.prog 149 #[.pointer (some ⟨b,0,none⟩),.string s] w fun e w'=>e=.returned (.tuple #[.int .i64 s.size,.nilIface])/\
   (Lib.BuilderAtF 221 5 B b (.pointer (some ⟨b,0,none⟩)) (Lib.byteCells (l++s.data.toList)) w'/\Below B w w'/\Lib.OthersKept 5 (some b) w w'):=by
 have:=Zf1 B b (Lib.byteCells l) s w h (by rw[Lib.byteCells_length];exact hlen) hBw
 rw[ZgO]
 exact this
theorem ZnA {xs:List Nat} (hx:∀ x ∈ xs,x<1000000000) {i:Nat} (hi:i<xs.length) (hpos:0<val 1000000000 (xs.drop (i+1))) :
  Lib.decDigits (val 1000000000 (xs.drop i))=Lib.decDigits (val 1000000000 (xs.drop (i+1)))++(List.replicate (9-(Lib.decDigits (xs.getD i 0)).length) 48++Lib.decDigits (xs.getD i 0)):=by
 have hxi:xs.getD i 0<1000000000:=ZM Za hx i
 have h1:=Zeu 1000000000 xs i hi
 have h2:xs[i]=xs.getD i 0:=by simp[List.getD,hi]
 rw[h1,h2,<- ZoT 9 _ Za Za,<- ZhQ _ 9 _ hpos Za]
 congr 1
 omega
end Go.Proofs.YtjmckebecpjjfaaGreatDoor
