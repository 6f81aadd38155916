/- The parts LawBOrder, LawBOrderLift. -/
import Derived.Test.YtjmckebecpjjfaaGreatDoorK104
import Derived.Test.YtjmckebecpjjfaaGreatDoorH27
import Derived.Test.YtjmckebecpjjfaaGreatDoorH26
import Derived.Test.YtjmckebecpjjfaaGreatDoorH28
set_option maxRecDepth 100000
set_option maxHeartbeats 16000000
set_option linter.unusedVariables false
set_option linter.unusedSimpArgs false
namespace Go.Proofs.YtjmckebecpjjfaaGreatDoor
open Go.RowKit Go.Shelf
attribute [local go_sem ↓] Go.wp_at_zero Go.wp_at_succ
theorem ZlG {b:BelP} {lv sv nl:Value} {l:List NoteP} {w:World} (h:BelIn b lv sv w) (hl:Zbm w nl l) (a:Nat) (ha:a<=255):Calls Tryz.prog 6 #[belV b lv sv,nl,.int .u8 a] w (ZaE (.bool true) w):=by
 obtain⟨i0,hi,hz0,hz1,hz2⟩:=info_parts Zku
 obtain⟨ng,hng⟩:=ZqJ b.sea.land.length
 obtain⟨pg,cg,rfl,_,_⟩:=h.sea.land.shape hng
 obtain⟨ns,hns⟩:=ZqJ b.scenes.length
 obtain⟨ps,cs,rfl,_,_⟩:=h.scenes.shape hns
 obtain⟨nn,hnn⟩:=ZqJ l.length
 obtain⟨pn,cn,rfl,hcn,hcn2⟩:=hl.shape hnn
 have HNN:=ZqH hnn
 have HH:=ZqH h
 have HL:=ZqH hl
 have HAT:=ZqH (fun h0=>Zbm.at hl hnn h0)
 have HE1:Hid (Env w.heap.size w [(w.heap.size,belO b (.slice pg ng cg) (.slice ps ns cs))] [] (w.alloc (belO b (.slice pg ng cg) (.slice ps ns cs)))):=(Env.start w).push _ rfl
 obtain⟨w1,hw1⟩:=ZqJ (w.alloc (belO b (.slice pg ng cg) (.slice ps ns cs)))
 rw[hw1] at HE1
 clear h hl hng hns hnn
 obtain⟨c0,c1,c2,c3,c4⟩:=Zv (HE1.out.block 0 rfl)
 go_enter Tryz.func6,Tryz.ntmps6
 go_wp2_with fail
 clear hw1
 refine(Zhk w1 (HH.out.tabs.below HE1.out.base ZqI) (HH.out.vars.below HE1.out.base ZqI)).mono ?_
 rintro e w2 ⟨rfl,hb⟩
 have HE2:=ZqH (HE1.out.step hb)
 clear hb c0 c1 c2 c3 c4 HE1
 obtain⟨c0,c1,c2,c3,c4⟩:=Zv (HE2.out.block 0 rfl)
 go_upto_region 3 with (fail)
 obtain⟨st,hst⟩:∃ z:Int,(a:Int) % 4=z:=⟨_,rfl⟩
 rw[hst]
 go_wp2_with fail
 refine(Zgr (HH.out.below HE2.out.base ZqI)).mono ?_
 rintro e w3 ⟨r,rfl,hr,hb⟩
 have HE3:=ZqH (HE2.out.step hb)
 clear hb c0 c1 c2 c3 c4 HE2
 obtain⟨c0,c1,c2,c3,c4⟩:=Zv (HE3.out.block 0 rfl)
 cases r with
 | true=>
  go_wp2
  exact ZpW (by simp[results,Tryz.f6,go_sem]) rfl ⟨rfl,HE3.out.base⟩
 | false=>
 have HLIM:=ZqH (hr rfl)
 clear hr
 go_wp2_with fail
 refine(ZoA (t:=4) (HL.out.after Zdy.stays HE3.out.base ZqI)).mono ?_
 rintro e w4 ⟨r,rfl,hr,hb⟩
 have HE4:=ZqH (HE3.out.step hb)
 clear hb c0 c1 c2 c3 c4 HE3
 obtain⟨c0,c1,c2,c3,c4⟩:=Zv (HE4.out.block 0 rfl)
 cases r with
 | true=>
  go_wp2
  exact ZpW (by simp[results,Tryz.f6,go_sem]) rfl ⟨rfl,HE4.out.base⟩
 | false=>
 have HLN:=ZqH (hr rfl)
 clear hr
 by_cases hA:(4:Int)<(nn:Int)
 ·have hA1:4<nn:=Za
  go_wp2
  exact ZpW (by simp[results,Tryz.f6,go_sem]) rfl ⟨rfl,HE4.out.base⟩
 have hA1:¬ 4<nn:=Za
 by_cases hB:(3:Int)<(ns:Int)
 ·have hB1:3<ns:=Za
  go_wp2
  exact ZpW (by simp[results,Tryz.f6,go_sem]) rfl ⟨rfl,HE4.out.base⟩
 have hB1:¬ 3<ns:=Za
 go_wp2_with fail
 refine(Zkx (t:=3) (m1:=4) (m2:=3) (HH.out.below HE4.out.base ZqI) (HL.out.after Zdy.stays HE4.out.base ZqI)).mono ?_
 rintro e w5 ⟨r,rfl,hb⟩
 have HE5:=ZqH (HE4.out.step hb)
 clear hb c0 c1 c2 c3 c4 HE4
 obtain⟨c0,c1,c2,c3,c4⟩:=Zv (HE5.out.block 0 rfl)
 cases r with
 | false=>
  go_wp2
  exact ZpW (by simp[results,Tryz.f6,go_sem]) rfl ⟨rfl,HE5.out.base⟩
 | true=>
 clear c0 c1 c2 c3 c4
 obtain⟨B0,hB0⟩:=ZqJ w5.heap.size
 have HB0:=ZqH hB0
 clear hB0
 have HBE:Hid (∀ X,Keeps (fun x=>x<B0) w5 X->Env w.heap.size w [(w.heap.size,belO b (.slice pg ng cg) (.slice ps ns cs))] [] X):=fun X hX=>HE5.out.step ((hX.mono fun x _ hx=>by have:=HB0.out;show x<B0;omega).toBelow ZqI)
 have HN4:Hid (nn<=4):=by show nn<=4;omega
 go_wp2_with fail
 go_loopw [9,56] (fun uv iv wr=>∃ (k:Nat) (zs:List NoV),iv=.int .i64 k/\k<=nn/\Hid (zs.map Prod.fst=l.reverse.take k)/\Hid (zs.length=k)/\Hid (∀ z ∈ zs,RunL w z.2 z.1.cells/\I64 z.1.time/\I64 z.1.mask)/\Hid (wr.ownsRow B0 49 7 uv zs.length (ZaT zs))/\Hid (Keeps (fun x=>x<B0) w5 wr)) (fun _ iv _=>nn-(intOf iv).toNat)
 case atStart=>exact⟨0,[],rfl,Zp8 _,rfl,rfl,fun z hz=>Zqx hz Zc,World.ownsRow_nil _ _ _ 7,Keeps.refl _ _⟩
 case round=>
  obtain⟨k,zs,rfl,hk,HZM,HZL,HZR,HOW,HKR⟩:=hrel
  obtain⟨pb,nb,cb,rfl⟩:∃ p n c,u9=Value.slice p n c:=by
   rcases HOW.out.2 with ⟨h,_⟩ | ⟨_,_,_,h,_⟩
   ·exact⟨_,_,_,h⟩
   ·exact⟨_,_,_,h⟩
  by_cases hlt:k<nn
  ·obtain⟨bn,on,rfl,p0,n0,c0,hat⟩:=HAT.out Za
   obtain⟨j,hj⟩:∃ z:Nat,nn-1-k=z:=⟨_,rfl⟩
   have hjn:j<nn:=Za
   obtain⟨hcell,hrun,ht1,ht2⟩:=hat j hjn
   have hER:=HBE.out wr HKR.out
   obtain⟨e0,e1,e2,e3,e4,e5,e6⟩:=hcell wr hER.base
   obtain⟨pc,hpc⟩:=ZqJ (p0 j)
   obtain⟨nc,hnc⟩:=ZqJ (n0 j)
   obtain⟨cc,hcc⟩:=ZqJ (c0 j)
   rw[hpc,hnc,hcc] at e2 hrun
   have HRV:Hid (l.reverse.take (k+1)=l.reverse.take k++[ntA l j]):=by
    show _=_
    have hkl:k<l.reverse.length:=by rw[List.length_reverse,HNN.out];exact hlt
    rw[List.take_succ_eq_append_getElem hkl,List.getElem_reverse,Zbn (by rw[HNN.out];omega)]
    congr 3
    rw[HNN.out,hj]
   obtain⟨nt,hnt⟩:=ZqJ (ntA l j)
   rw[hnt] at e0 e1 e3 e4 e5 e6 hrun HRV ht1 ht2
   have HRN:=ZqH (Zqy hrun (Zqy ht1 ht2))
   have HLT:=ZqH hlt
   have hji:((nn:Int)-1)-(k:Int)=(j:Int):=Za
   have hj0:(0:Int)<=(j:Int):=Za
   have hj1:(j:Int)<(nn:Int):=Za
   have i0':(0:Int)<=(k:Int):=Za
   have i1':(k:Int)<(nn:Int):=Za
   clear hcell hrun hat hpc hnc hcc hnt hER ht1 ht2 hj hjn
   have hzl:zs.length<=4:=by rw[HZL.out];have:=HN4.out;omega
   have hownA:(wr.alloc (ntO nt (.slice pc nc cc))).ownsRow B0 49 7 (.slice pb nb cb) zs.length (ZaT zs):=HOW.out.alloc _
   have hm1:zs.length+1<=maxLen:=by unfold maxLen;omega
   have hm2:(zs.length+1)*104<=140737488355328:=Za
   have hm3:B0<=(wr.alloc (ntO nt (.slice pc nc cc))).heap.size:=by have:=HKR.out.size;have:=HB0.out;simp;omega
   have hnews:∀ (j:Nat) (z:Value),([.int .i64 nt.time,.int .i64 nt.mask,.slice pc nc cc,.string nt.inn.1,.string nt.inn.2,.string nt.out.1,.string nt.out.2]:List Value)[j]?=some z->(wr.alloc (ntO nt (.slice pc nc cc))).cell? ((⟨wr.heap.size,0,none⟩:Addr).add j)=some z:=World.news_of_block (ZpY wr _)
   go_wp2_with (at_builtin;go_loud (refine Zqq _ rfl (.tmp 59) (.tmp 68) 28 rfl B0 49 i0 (.agg #[.int .i64 0,.int .i64 0,.slice none 0 0,.string ZqD,.string ZqD,.string ZqD,.string ZqD]) 7 104 Tryz.underlying28 hi hz0 hz1 hz2 rfl Zd _ zs.length (ZaT zs) rfl hownA ⟨wr.heap.size,0,none⟩ 1 1 [.int .i64 nt.time,.int .i64 nt.mask,.slice pc nc cc,.string nt.inn.1,.string nt.inn.2,.string nt.out.1,.string nt.out.2] rfl rfl hnews (by simp[Value.oneCell']) hm1 hm2 hm3 ?_);intro v' w4 hown4 hgrow4 _)
   have hka:Keeps (fun x=>x<B0) w5 (wr.alloc (ntO nt (.slice pc nc cc))):=HKR.out.alloc _
   have hk4:Keeps (fun x=>x<B0) (wr.alloc (ntO nt (.slice pc nc cc))) w4:=(Keeps.refl _ _).grown hgrow4 (fun r hr h=>by have:=ZbK hownA r hr;omega)
   have HZM2:Hid ((zs++[(nt,Value.slice pc nc cc)]).map Prod.fst=l.reverse.take (k+1)):=by show _=_;rw[List.map_append,HZM.out,HRV.out];rfl
   have HZL2:Hid ((zs++[(nt,Value.slice pc nc cc)]).length=k+1):=by show _=_;rw[Zqc,HZL.out];rfl
   have HZR2:Hid (∀ z ∈ zs++[(nt,Value.slice pc nc cc)],RunL w z.2 z.1.cells/\I64 z.1.time/\I64 z.1.mask):=fun z hz=>by
    rcases List.mem_append.1 hz with hz | hz
    ·exact HZR.out z hz
    ·obtain rfl:=List.mem_singleton.1 hz
     exact HRN.out
   have HOW2:Hid (w4.ownsRow B0 49 7 v' (zs++[(nt,Value.slice pc nc cc)]).length (ZaT (zs++[(nt,Value.slice pc nc cc)]))):=by
    show w4.ownsRow _ _ _ _ _ _
    rw[Zqc,Zi1]
    exact hown4
   have HKR2:Hid (Keeps (fun x=>x<B0) w5 w4):=hka.trans hk4
   clear hown4 hgrow4 hownA hnews hm1 hm2 hm3 hka hk4
   go_roundw
   case rel=>exact⟨k+1,zs++[(nt,Value.slice pc nc cc)],by go_num,by have:=HLT.out;omega,HZM2,HZL2,HZR2,HOW2,HKR2⟩
   case measure=>simp[intOf];have:=HLT.out;omega
  ·obtain rfl:k=nn:=Za
   obtain⟨wA,hwA⟩:∃ z,z=wr:=⟨_,rfl⟩
   subst hwA
   have HEA:=ZqH (HBE.out wA HKR.out)
   have hnr:Zbm wA (.slice pb nb cb) (zs.map Prod.fst):=ZnM HOW.out fun z hz=>⟨(HZR.out z hz).1.after RunR.stays HEA.out.base ZqI,(HZR.out z hz).2⟩
   rw[HZM.out,Zp5 (by rw[List.length_reverse,HNN.out];exact Nat.le_refl _)] at hnr
   have HNB:Hid (NotesIn l.reverse (.slice pb nb cb) wA):=⟨hnr,fun n hn=>HLN.out n (List.mem_reverse.1 hn)⟩
   have HNA:Hid (NotesIn l (.slice pn k cn) wA):=⟨HL.out.after Zdy.stays HEA.out.base ZqI,HLN.out⟩
   clear hnr HOW HZM HZL HZR HKR HBE HE5 hk hlt
   obtain⟨c0,c1,c2,c3,c4⟩:=Zv (HEA.out.block 0 rfl)
   go_wp2_with fail
   refine(Zeb (steps:=st) (HH.out.below HEA.out.base ZqI) HLIM.out HNA.out).mono ?_
   rintro e w6 hE
   obtain⟨m1,p1,n1,d1,s1,t1,k1,rfl,hm1,hf1,hb⟩:=Zlj hE
   have HF1:=ZqH hf1
   have HE6:=ZqH (HEA.out.step hb)
   have HN6:=ZqH (HNA.out.below hb ZqI)
   have HB6:=ZqH (HNB.out.below hb ZqI)
   have HM6:=ZqH hm1
   clear hE hm1 hf1 hb c0 c1 c2 c3 c4 HNA HNB
   obtain⟨G1,hG1⟩:=ZqJ w6.heap.size
   obtain⟨w7,hw7⟩:=ZqJ (w6.alloc (pObj s1 t1))
   have HE7:Hid (Env w.heap.size w [(G1,pObj s1 t1),(w.heap.size,belO b (.slice pg ng cg) (.slice ps ns cs))] [] w7):=by rw[<- hw7];exact HE6.out.push _ hG1.symm
   have hb7:Below w6.heap.size w6 w7:=by rw[<- hw7];exact(ZpV _ w6).alloc ZqI _
   have HN7:=ZqH (HN6.out.below hb7 ZqI)
   have HB7:=ZqH (HB6.out.below hb7 ZqI)
   have HM7:=ZqH (HM6.out.after ZaQ.stays hb7 ZqI)
   clear hb7 HE6 HN6 HB6 HM6
   obtain⟨c0,c1,c2,c3,c4⟩:=Zv (HE7.out.block 1 rfl)
   go_wp2_with fail
   clear hw7 hG1
   refine(Zeb (steps:=st) (HH.out.below HE7.out.base ZqI) HLIM.out HB7.out).mono ?_
   rintro e w8 hE
   obtain⟨m2,p2,n2,d2,s2,t2,k2,rfl,hm2,hf2,hb⟩:=Zlj hE
   have HF2:=ZqH hf2
   have HE8:=ZqH (HE7.out.step hb)
   have HN8:=ZqH (HN7.out.below hb ZqI)
   have HB8:=ZqH (HB7.out.below hb ZqI)
   have HM8:=ZqH (HM7.out.after ZaQ.stays hb ZqI)
   have HX8:=ZqH hm2
   clear hE hm2 hf2 hb c0 c1 c2 c3 c4 HE7 HN7 HB7 HM7
   obtain⟨G2,hG2⟩:=ZqJ w8.heap.size
   obtain⟨w9,hw9⟩:=ZqJ (w8.alloc (pObj s2 t2))
   have HE9:Hid (Env w.heap.size w [(G2,pObj s2 t2),(G1,pObj s1 t1),(w.heap.size,belO b (.slice pg ng cg) (.slice ps ns cs))] [] w9):=by rw[<- hw9];exact HE8.out.push _ hG2.symm
   have hb9:Below w8.heap.size w8 w9:=by rw[<- hw9];exact(ZpV _ w8).alloc ZqI _
   have HN9:=ZqH (HN8.out.below hb9 ZqI)
   have HB9:=ZqH (HB8.out.below hb9 ZqI)
   have HM9:=ZqH (HM8.out.after ZaQ.stays hb9 ZqI)
   have HX9:=ZqH (HX8.out.after ZaQ.stays hb9 ZqI)
   clear hb9 HE8 HN8 HB8 HM8 HX8
   obtain⟨c0,c1,c2,c3,c4⟩:=Zv (HE9.out.block 2 rfl)
   go_wp2_with fail
   clear hw9 hG2
   refine(Zf4 (steps:=st) (HH.out.below HE9.out.base ZqI) HLIM.out HN9.out).mono ?_
   rintro e wB hE
   obtain⟨f3,p3,n3,d3,k3,rfl,hm3,hf3,hb⟩:=Zld hE
   have HF3:=ZqH hf3
   have HEB:=ZqH (HE9.out.step hb)
   have HBB:=ZqH (HB9.out.below hb ZqI)
   have HMB:=ZqH (HM9.out.after ZaQ.stays hb ZqI)
   have HXB:=ZqH (HX9.out.after ZaQ.stays hb ZqI)
   have HSB:=ZqH hm3
   clear hE hm3 hf3 hb c0 c1 c2 c3 c4 HE9 HN9 HB9 HM9 HX9
   obtain⟨c0,c1,c2,c3,c4⟩:=Zv (HEB.out.block 2 rfl)
   go_wp2_with fail
   refine(Zf4 (steps:=st) (HH.out.below HEB.out.base ZqI) HLIM.out HBB.out).mono ?_
   rintro e wC hE
   obtain⟨f4,p4,n4,d4,k4,rfl,hm4,hf4,hb⟩:=Zld hE
   have HF4:=ZqH hf4
   have HEC:=ZqH (HEB.out.step hb)
   have HMC:=ZqH (HMB.out.after ZaQ.stays hb ZqI)
   have HXC:=ZqH (HXB.out.after ZaQ.stays hb ZqI)
   have HSC:=ZqH (HSB.out.after Zcb hb ZqI)
   have HTC:=ZqH hm4
   clear hE hm4 hf4 hb c0 c1 c2 c3 c4 HEB HBB HMB HXB HSB
   by_cases g1:k1=4
   ·subst g1
    go_wp2
    exact ZpW (by simp[results,Tryz.f6,go_sem]) rfl ⟨rfl,HEC.out.base⟩
   have g1':(k1==4)=false:=by rw[beq_eq_false_iff_ne];exact g1
   by_cases g2:k2=4
   ·subst g2
    go_wp2
    exact ZpW (by simp[results,Tryz.f6,go_sem]) rfl ⟨rfl,HEC.out.base⟩
   have g2':(k2==4)=false:=by rw[beq_eq_false_iff_ne];exact g2
   by_cases g3:k3=4
   ·subst g3
    go_wp2
    exact ZpW (by simp[results,Tryz.f6,go_sem]) rfl ⟨rfl,HEC.out.base⟩
   have g3':(k3==4)=false:=by rw[beq_eq_false_iff_ne];exact g3
   by_cases g4:k4=4
   ·subst g4
    go_wp2
    exact ZpW (by simp[results,Tryz.f6,go_sem]) rfl ⟨rfl,HEC.out.base⟩
   have g4':(k4==4)=false:=by rw[beq_eq_false_iff_ne];exact g4
   obtain⟨rfl,rfl,rfl,rfl⟩:=Zot HF1.out HF2.out (Zi3 b l st) g1 g2
   obtain⟨rfl,rfl⟩:=Zoo HF3.out HF4.out (ZiW b l st) g3 g4
   clear HF1 HF2 HF3 HF4
   have HNS:Hid (n3=n4):=HSC.out.len.symm.trans HTC.out.len
   have HLS:Hid (f3.length=n3):=HSC.out.len
   obtain rfl:=HNS.out
   have x0:=HEC.out.cell 0 0 (v:=.string s1) rfl rfl
   have x1:=HEC.out.cell 0 1 (v:=.string t1) rfl rfl
   have y0:=HEC.out.cell 1 0 (v:=.string s1) rfl rfl
   have y1:=HEC.out.cell 1 1 (v:=.string t1) rfl rfl
   go_wp2_with fail
   refine(Zhd HMC.out HXC.out).mono ?_
   rintro e wD ⟨rfl,hb⟩
   have HED:=ZqH (HEC.out.step hb)
   have HSD:=ZqH (HSC.out.after Zcb hb ZqI)
   have HTD:=ZqH (HTC.out.after Zcb hb ZqI)
   clear hb HEC HSC HTC HMC HXC x0 x1 y0 y1 HNS
   have HSA:=ZqH (fun h0=>LL.at Zcb HSD.out HLS.out h0)
   have HTA:=ZqH (fun h0=>LL.at Zcb HTD.out HLS.out h0)
   go_wp2_with fail
   obtain⟨_,_,_,hcap,hcap'⟩:=HSD.out.shape HLS.out
   have hbn3:n3<=9223372036854775807:=Za
   clear hcap hcap'
   go_loopw [144] (fun iv wr=>∃ i:Nat,iv=.int .i64 i/\i<=n3/\ZqB wD wr) (fun iv _=>n3-(intOf iv).toNat)
   case atStart=>exact⟨0,rfl,Zp8 _,ZpV _ _⟩
   case round=>
    obtain⟨i,rfl,hi',HBR⟩:=hrel
    by_cases hin:i<n3
    ·obtain⟨ba,oa,rfl,_,hata⟩:=HSA.out Za
     obtain⟨bb,ob,rfl,_,hatb⟩:=HTA.out Za
     have hwr:Below wD.heap.size wD wr:=HBR.out
     obtain⟨va,hca,hma⟩:=hata wr hwr i (by rw[HLS.out];exact hin)
     obtain⟨vb,hcb,hmb⟩:=hatb wr hwr i (by rw[HLS.out];exact hin)
     rw[Nat.mul_one] at hca hcb
     obtain⟨pa,ca,rfl,_,_⟩:=hma.shape rfl
     obtain⟨pb',cb',rfl,_,_⟩:=hmb.shape rfl
     obtain⟨fi,hfi⟩:∃ z,f3[i]'(by rw[HLS.out];exact hin)=z:=⟨_,rfl⟩
     rw[hfi] at hma hmb hca hcb
     obtain⟨nf,hnf⟩:=ZqJ fi.length
     rw[hnf] at hma hmb hca hcb
     have HMA:=ZqH hma
     have HMB:=ZqH hmb
     have HCA:Hid (∀ X,Below wr.heap.size wr X->X.cell? ⟨ba,oa+i,none⟩=some (.slice pa nf ca)/\X.cell? ⟨bb,ob+i,none⟩=some (.slice pb' nf cb')):=fun X hX=>⟨(hX.keepsS (fun _=>True)).cellAt hca trivial,(hX.keepsS (fun _=>True)).cellAt hcb trivial⟩
     have HIN:=ZqH hin
     have j0:(0:Int)<=(i:Int):=Za
     have j1:(i:Int)<(n3:Int):=Za
     clear hata hatb hwr hca hcb hma hmb hfi hnf
     go_upto_region 22 with (fail)
     refine ZA [(1,0),(1,1),(1,2),(1,3),(1,4),(1,5),(1,6),(1,7),(0,8),(1,9)] (Below wr.heap.size wr) (fun _=>false)
      Zb Zb (fun _ _=>rfl) Zi (ZpV _ wr).drew ?_
     obtain⟨wf,hwf⟩:=ZqJ wr.drew
     have HBF:ZqB wr wf:=by show Below _ _ _;rw[<- hwf];exact(ZpV _ wr).drew
     rw[hwf]
     clear hwf
     iterate 8
      first
       | refine Zac rfl rfl ?_
       | refine Zq _ rfl rfl (fun w' hS=>by obtain⟨q0,q1⟩:=HCA.out _ hS;go_simp;first | done | rfl | (rw[if_pos Za])) ?_
      simp only[Act.put,Zl]
     refine Zs 26 _ rfl rfl (by first | (go_simp;done) | (go_simp;rfl)) ?_
     refine(Zhd (HMA.out.after ZaQ.stays HBF.out ZqI) (HMB.out.after ZaQ.stays HBF.out ZqI)).mono ?_
     rintro e wg ⟨rfl,hb⟩
     have HBG:ZqB wr wg:=HBF.out.trans (hb.mono HBF.out.size)
     refine .inl ⟨_,rfl,HBG.out,?_⟩
     clear hb
     simp only[Act.put,Zl]
     iterate 1
      first
       | refine Zac rfl rfl ?_
       | refine Zq _ rfl rfl (fun w' hS=>by skip;go_simp;first | done | rfl | (rw[if_pos Za])) ?_
      simp only[Act.put,Zl]
     refine Zz ?_
     have HB9:ZqB wD wg:=HBR.out.trans (HBG.out.mono HBR.out.size)
     go_wp2
     go_roundw
     case rel=>exact⟨i+1,by go_num,by have:=HIN.out;omega,HB9⟩
     case measure=>simp[intOf];have:=HIN.out;omega
    ·obtain rfl:i=n3:=Za
     have HBZ:ZqB w wr:=HED.out.base.trans (HBR.out.mono HED.out.base.size)
     go_wp2
     exact ZpW (by simp[results,Tryz.f6,go_sem]) rfl ⟨rfl,HBZ.out⟩
end Go.Proofs.YtjmckebecpjjfaaGreatDoor
namespace Go.Proofs.YtjmckebecpjjfaaGreatDoor
open Go.ChangeShapes Go.WideShapes Go.ChangeAt Go.RowKit
theorem ZjJ (os:Os) (started:os.Started) (H:Type) (enc:TypeId×Value->H) :
  ReturnsInHanded {} Tryz.checked os 6 .any (fun w args=>(Rows.beliefOrderSpec.pre enc Tryz.prog Tryz.f6 Rows.beliefOrderRow.domain false w args/\laidMetH Tryz.prog ZaV w)/\sizedMet enc Tryz.prog Tryz.f6 (OpenSpec.ofChange Rows.beliefOrderSpec) false w args)
   (Rows.beliefOrderSpec.post enc Tryz.prog Tryz.f6 false true false false):=by
 refine returnsInHanded_of_change_and (C:=Tryz.checked) (X:=fun w _=>laidMetH Tryz.prog ZaV w) (fun _ _ _ hh h=>h.of_heap hh) Zjw started Zb Tryz.func6
  (ChangeSpec.witness_shaped (enc:=enc) (C:=Tryz.checked) (os:=os) (X:=fun w _=>laidMetH Tryz.prog ZaV w) false (World.laidAll Tryz.prog os ZaV) #[.agg #[.int .i64 0,.int .i64 0,.int .i64 0,.slice none 0 0,.slice none 0 0],.slice none 0 0,.int .u8 0] 8 (World.laidAll_os _ _ _)
   (World.shaped_of_ZipB Zb Zb) Zb Zb Zb (met9 os _)) ?_
 intro W base args ds gs before hval0 hW hc _ hL _
 have hval:∀ (j:Nat) t v,Tryz.f6.params[j]?=some t->args[j]?=some v->Value.okWide Tryz.prog W .any base t v:=hval0
 have hW':=hW
 obtain⟨p,q,hA0,hV,rfl,_,_⟩:=hW
 have hA:DataW.TrodAll enc Tryz.prog W 0 (fun _=>true) true Tryz.f6.params.toList args.toList ds p:=hA0
 rw[Tryz.params6] at hA hval
 obtain⟨v0,v1,v2,d0,d1,d2,p0,p1,p2,rfl,rfl,rfl,h0,h1,h2⟩:=trodAll_three hA
 obtain⟨rfl,rfl⟩:=trodVars_none hV
 obtain⟨t0,x0,y0,rfl,hT0⟩:=ZiK (hval 0 _ v0 rfl rfl) h0 hL
 obtain⟨n1,hn1⟩:=Zmd (hval 1 _ v1 rfl rfl) h1
 obtain⟨a2,rfl,rfl,rfl,wa2⟩:=open_int Tryz.underlying5 (hval 2 _ v2 rfl rfl) h2
 have ha2:0<=a2/\a2<=255:=by simpa[Lit.wf,IntKind.min,IntKind.max,IntKind.signed,IntKind.bits] using wa2
 obtain⟨a2,rfl⟩:∃ n:Nat,a2=n:=⟨a2.toNat,Za⟩
 clear hA0 hval0
 simp only[List.append_nil] at hW'
 refine(ZlG hT0 hn1 a2 Za).mono fun e W' ⟨he,bel⟩=>?_
 subst he
 have nx:∀ x ∈ ([]:List MemPlace),x.block<W.heap.size:=fun _ h=>by cases h
 have hlt0:∀ x ∈ p0,x.block<W.heap.size:=fun x hx=>by first | (have:=hW'.lt x hx;simpa using this) | (have:=hW'.lt x (by simp[hx]);simpa using this)
 have hlt1:∀ x ∈ p1,x.block<W.heap.size:=fun x hx=>by first | (have:=hW'.lt x hx;simpa using this) | (have:=hW'.lt x (by simp[hx]);simpa using this)
 refine⟨_,rfl,_,_,_,[],p0++p1,[],hW',?_,?_,?_,bel.frame _,fun h=>by cases h⟩
 ·exact trodAll_mk1 (shut_bool Tryz.underlying4 _)
 ·have h9:=trodAll_mk3 (Below.trod Zc0 Zb (of_decide_eq_true Zb) h0 bel hlt0) (Below.trod Zc0 Zb (of_decide_eq_true Zb) h1 bel hlt1) (Below.trod Zc0 Zb (of_decide_eq_true Zb) h2 bel nx)
  first | exact h9 | (simp only[List.append_nil,ZqA] at h9;exact h9) | (simp only[<- List.append_assoc,List.append_nil,ZqA] at h9;exact h9) | (simpa using h9)
 ·rfl
end Go.Proofs.YtjmckebecpjjfaaGreatDoor
