/- The parts LawBWhole, LawBWholeLift. -/
import Derived.Test.YtjmckebecpjjfaaGreatDoorH27
import Derived.Test.YtjmckebecpjjfaaGreatDoorH26
import Derived.Test.YtjmckebecpjjfaaGreatDoorH28
set_option maxRecDepth 100000
set_option maxHeartbeats 16000000
set_option linter.unusedVariables false
set_option linter.unusedSimpArgs false
namespace Go.Proofs.YtjmckebecpjjfaaGreatDoor
open Go.RowKit Go.Shelf
attribute [local go_sem ↓] Go.wp_at_zero Go.wp_at_succ
theorem Zjl {b:BelP} {lv sv nl:Value} {l:List NoteP} {w:World} (h:BelIn b lv sv w) (hl:Zb2 w nl l) (a:Nat) (ha:a<=255):Calls Tryz.prog 3 #[belV b lv sv,nl,.int .u8 a] w (ZaK (.bool true) w):=by
 obtain⟨ng,hng⟩:=ZnM b.sea.land.length
 obtain⟨pg,cg,rfl,_,_⟩:=h.sea.land.shape hng
 obtain⟨ns,hns⟩:=ZnM b.scenes.length
 obtain⟨ps,cs,rfl,_,_⟩:=h.scenes.shape hns
 obtain⟨nn,hnn⟩:=ZnM l.length
 obtain⟨pn,cn,rfl,hcn,hcn2⟩:=hl.shape hnn
 have HH:=ZnK h
 have HL:=ZnK hl
 have HE1:Hid (Env w.heap.size w [(w.heap.size,belO b (.slice pg ng cg) (.slice ps ns cs))] [] (w.alloc (belO b (.slice pg ng cg) (.slice ps ns cs)))):=(Env.start w).push _ rfl
 obtain⟨w1,hw1⟩:=ZnM (w.alloc (belO b (.slice pg ng cg) (.slice ps ns cs)))
 rw[hw1] at HE1
 clear h hl hng hns hnn
 obtain⟨c0,c1,c2,c3,c4⟩:=Zu (HE1.out.block 0 rfl)
 go_enter Tryz.func3,Tryz.ntmps3
 go_wp2_with fail
 clear hw1
 refine(Zjg w1 (HH.out.tabs.below HE1.out.base ZnL) (HH.out.vars.below HE1.out.base ZnL)).mono ?_
 rintro e w2 ⟨rfl,hb⟩
 have HE2:=ZnK (HE1.out.step hb)
 clear hb c0 c1 c2 c3 c4 HE1
 obtain⟨c0,c1,c2,c3,c4⟩:=Zu (HE2.out.block 0 rfl)
 go_upto_region 3 with (fail)
 go_wp2_with fail
 refine(Zik (HH.out.below HE2.out.base ZnL)).mono ?_
 rintro e w3 ⟨r,rfl,hr,hb⟩
 have HE3:=ZnK (HE2.out.step hb)
 clear hb c0 c1 c2 c3 c4 HE2
 obtain⟨c0,c1,c2,c3,c4⟩:=Zu (HE3.out.block 0 rfl)
 cases r with
 | true=>
  go_wp2
  exact ZmZ (by simp[results,Tryz.f3,go_sem]) rfl ⟨rfl,HE3.out.base⟩
 | false=>
 have HLIM:=ZnK (hr rfl)
 clear hr
 go_wp2_with fail
 refine(ZlL (t:=3) (HL.out.after ZcH.stays HE3.out.base ZnL)).mono ?_
 rintro e w4 ⟨r,rfl,hr,hb⟩
 have HE4:=ZnK (HE3.out.step hb)
 clear hb c0 c1 c2 c3 c4 HE3
 obtain⟨c0,c1,c2,c3,c4⟩:=Zu (HE4.out.block 0 rfl)
 cases r with
 | true=>
  go_wp2
  exact ZmZ (by simp[results,Tryz.f3,go_sem]) rfl ⟨rfl,HE4.out.base⟩
 | false=>
 have HLN:=ZnK (hr rfl)
 clear hr
 by_cases hA:(3:Int)<(nn:Int)
 ·have hA1:3<nn:=Za
  go_wp2
  exact ZmZ (by simp[results,Tryz.f3,go_sem]) rfl ⟨rfl,HE4.out.base⟩
 have hA1:¬ 3<nn:=Za
 by_cases hB:(3:Int)<(ns:Int)
 ·have hB1:3<ns:=Za
  go_wp2
  exact ZmZ (by simp[results,Tryz.f3,go_sem]) rfl ⟨rfl,HE4.out.base⟩
 have hB1:¬ 3<ns:=Za
 go_wp2_with fail
 refine(Zif (t:=4) (m1:=6) (m2:=4) (HH.out.below HE4.out.base ZnL) (HL.out.after ZcH.stays HE4.out.base ZnL)).mono ?_
 rintro e w5 ⟨r,rfl,hb⟩
 have HE5:=ZnK (HE4.out.step hb)
 clear hb c0 c1 c2 c3 c4 HE4
 obtain⟨c0,c1,c2,c3,c4⟩:=Zu (HE5.out.block 0 rfl)
 cases r with
 | false=>
  go_wp2
  exact ZmZ (by simp[results,Tryz.f3,go_sem]) rfl ⟨rfl,HE5.out.base⟩
 | true=>
 go_wp2_with fail
 refine(ZfN (HH.out.below HE5.out.base ZnL) HLIM.out).mono ?_
 rintro e w6 hE
 obtain⟨m1,p1,n1,d1,k1,rfl,hm1,hk1,hb⟩:=ZhC hE
 have HM1:=ZnK hm1
 have HK1:=ZnK hk1
 clear hE hm1 hk1
 have HE6:=ZnK (HE5.out.step hb)
 clear hb c0 c1 c2 c3 c4 HE5
 obtain⟨c0,c1,c2,c3,c4⟩:=Zu (HE6.out.block 0 rfl)
 go_wp2_with fail
 refine(ZeZ (HH.out.below HE6.out.base ZnL) HLIM.out ⟨HL.out.after ZcH.stays HE6.out.base ZnL,HLN.out⟩).mono ?_
 rintro e w7 hE
 obtain⟨m2,p2,n2,d2,s0,t0,z,k2,rfl,hm2,hk2,hn2,hb⟩:=Zly hE
 have HM16:Hid (ZT w7 (.slice p1 n1 d1) m1):=HM1.out.after Zbp.stays hb ZnL
 have HM2:=ZnK hm2
 have HK2:=ZnK hk2
 have HN2:=ZnK hn2
 clear hE hm2 hk2 hn2 HM1
 have HE7:=ZnK (HE6.out.step hb)
 clear hb c0 c1 c2 c3 c4 HE6
 obtain⟨c0,c1,c2,c3,c4⟩:=Zu (HE7.out.block 0 rfl)
 clear c0 c1 c2 c3 c4
 obtain⟨G,hG⟩:=ZnM w7.heap.size
 obtain⟨w8,hw8⟩:=ZnM (w7.alloc (pObj s0 t0))
 have HE8:Hid (Env w.heap.size w [(G,pObj s0 t0),(w.heap.size,belO b (.slice pg ng cg) (.slice ps ns cs))] [] w8):=by rw[<- hw8];exact HE7.out.push _ hG.symm
 have hb8:Below w7.heap.size w7 w8:=by rw[<- hw8];exact Zal w7 _
 have HM1:Hid (ZT w8 (.slice p1 n1 d1) m1):=HM16.out.after Zbp.stays hb8 ZnL
 have HM28:Hid (ZT w8 (.slice p2 n2 d2) m2):=HM2.out.after Zbp.stays hb8 ZnL
 clear hb8 HE7 HM16 HM2
 go_upto_if 68 with (fail)
 clear hw8 hG
 go_cut [] from 69 to 105 (fun wc=>ZnE w8 wc)
 case first=>
  by_cases hk:k1=0
  ·subst hk
   obtain⟨hck,hmo,htot⟩:=Zhr (HK1.out rfl)
   have HCK:=ZnK (ZnB hck (ZnB hmo htot))
   clear hck hmo htot HK1
   go_wp2_with fail
   refine(Zea HM1.out (HH.out.tabs.below HE8.out.base ZnL)).mono ?_
   rintro e w9 ⟨⟨s1,t1,r1,rfl,hs1⟩,hb⟩
   have HS1:Hid (r1=true->s1=⟨#[49]⟩/\t1=⟨#[49]⟩):=fun h=>by
    have h1:=hs1 h
    rw[HCK.out.2.2] at h1
    exact Zcj h1 Za3 rfl
   obtain⟨G1,hG1⟩:=ZnM w9.heap.size
   obtain⟨wa,hwa⟩:=ZnM (w9.alloc (pObj s1 t1))
   have HEA:Hid (Env w.heap.size w [(G1,pObj s1 t1),(G,pObj s0 t0),(w.heap.size,belO b (.slice pg ng cg) (.slice ps ns cs))] [] wa):=by rw[<- hwa];exact(HE8.out.step hb).push _ hG1.symm
   have HBA:ZnE w8 wa:=by show Below _ _ _;rw[<- hwa];exact hb.alloc hb.size _
   have HM1A:=ZnK (HM1.out.after Zbp.stays HBA.out ZnL)
   obtain⟨c0,c1,c2,c3,c4⟩:=Zu (HEA.out.block 2 rfl)
   clear hb hs1
   go_wp2_with fail
   clear hwa hG1
   refine(Zht (HH.out.below HEA.out.base ZnL) HLIM.out HM1A.out).mono ?_
   rintro e wb hE
   obtain⟨m3,p3,n3,d3,k3,rfl,hm3,hk3,hb⟩:=ZhC hE
   have HEB:=ZnK (HEA.out.step hb)
   have HBB:ZnE w8 wb:=HBA.out.trans (hb.mono HBA.out.size)
   have HM3:=ZnK hm3
   have HT3:Hid (k3=0->totF m3=1):=fun h=>by rw[Zga HCK.out.1 HCK.out.2.1 (hk3 h)];exact HCK.out.2.2
   clear hE hm3 hk3 hb c0 c1 c2 c3 c4
   go_wp2_with fail
   refine(Zea HM3.out (HH.out.tabs.below HEB.out.base ZnL)).mono ?_
   rintro e wd ⟨⟨s2,t2,r2,rfl,hs2⟩,hb⟩
   have HS2:Hid (k3=0->r2=true->s2=⟨#[49]⟩/\t2=⟨#[49]⟩):=fun h0 h=>by
    have h1:=hs2 h
    rw[HT3.out h0] at h1
    exact Zcj h1 Za3 rfl
   obtain⟨G2,hG2⟩:=ZnM wd.heap.size
   obtain⟨we,hwe⟩:=ZnM (wd.alloc (pObj s2 t2))
   have HEE:Hid (Env w.heap.size w [(G2,pObj s2 t2),(G1,pObj s1 t1),(G,pObj s0 t0),(w.heap.size,belO b (.slice pg ng cg) (.slice ps ns cs))] [] we):=by rw[<- hwe];exact(HEB.out.step hb).push _ hG2.symm
   have HBE:ZnE w8 we:=by show Below _ _ _;rw[<- hwe];exact(HBB.out.trans (hb.mono HBB.out.size)).alloc (Zm7 HBB.out.size hb.size) _
   have HCE:Hid (∀ X,Below we.heap.size we X->(X.cell? ⟨G1,0,none⟩=some (.string s1)/\X.cell? ⟨G1,1,none⟩=some (.string t1))/\X.cell? ⟨G2,0,none⟩=some (.string s2)/\X.cell? ⟨G2,1,none⟩=some (.string t2)):=fun X hX=>
    ⟨⟨(HEE.out.step hX).cell 1 0 rfl rfl,(HEE.out.step hX).cell 1 1 rfl rfl⟩,(HEE.out.step hX).cell 0 0 rfl rfl,(HEE.out.step hX).cell 0 1 rfl rfl⟩
   have HTE:=ZnK (HH.out.tabs.below HEE.out.base ZnL)
   clear hb hs2
   go_upto_region 11 with (fail)
   clear hwe hG2 HEB HEA HM3 HM1A HE8 HM28 HM1 HT3 HCK
   refine ZB [(1,0),(1,1),(1,2),(0,3),(1,4),(1,5),(1,6),(1,7),(1,8),(1,9),(1,10),(1,11),(1,12),(1,13),(1,14),(1,15),(1,16),(1,17),(1,18),(1,19),(1,20)] (Below we.heap.size we) (fun i=>false)
    Zb Zb (fun _ _=>rfl) Zi (ZmY _ we).drew ?_
   obtain⟨wf,hwf⟩:=ZnM we.drew
   have HBF:ZnE we wf:=by show Below _ _ _;rw[<- hwf];exact(ZmY _ we).drew
   rw[hwf]
   clear hwf
   obtain⟨e3,he3⟩:∃ e,decide (k3=0)=e:=⟨_,rfl⟩
   obtain⟨e4,he4⟩:∃ e,(k3==0)=e:=⟨_,rfl⟩
   rcases(show r1=false\/(r1=true/\s1=⟨#[49]⟩/\t1=⟨#[49]⟩) by cases r1;exact .inl rfl;exact .inr ⟨rfl,HS1.out rfl⟩) with rfl | ⟨rfl,rfl,rfl⟩
   all_goals rcases(show (e3=false/\e4=false)\/(k3=0/\r2=false)\/(k3=0/\r2=true/\s2=⟨#[49]⟩/\t2=⟨#[49]⟩) by by_cases h:k3=0;(cases r2;exact .inr (.inl ⟨h,rfl⟩);exact .inr (.inr ⟨h,rfl,HS2.out h rfl⟩));exact .inl ⟨by rw[<- he3];exact decide_eq_false h,by rw[<- he4];exact beq_false_of_ne h⟩) with ⟨rfl,rfl⟩ | ⟨rfl,rfl⟩ | ⟨rfl,rfl,rfl,rfl⟩
   all_goals clear HS1 HS2
   all_goals
    iterate 3
     first
      | refine Zam rfl rfl ?_
      | refine Zr _ rfl rfl (fun w' hS=>by obtain⟨⟨q0,q1⟩,q2,q3⟩:=HCE.out _ hS;go_simp;first | done | rfl | (rw[if_pos Za])) ?_
     simp only[Act.put,Zl]
    first
     | (refine Zax rfl rfl (.inr HBF.out) ?_)
     | (refine Zt 17 _ rfl rfl (by first | (go_simp;done) | (go_simp;rfl)) ?_;refine(ZfL _ (HTE.out.below HBF.out ZnL)).mono ?_;rintro e wq ⟨rfl,hb⟩;have HBQ:ZnE we wq:=HBF.out.trans (hb.mono HBF.out.size);refine .inl ⟨_,rfl,HBQ.out,?_⟩;clear hb)
    simp only[Act.put,Zl]
    iterate 5
     first
      | refine Zam rfl rfl ?_
      | refine Zr _ rfl rfl (fun w' hS=>by obtain⟨⟨q0,q1⟩,q2,q3⟩:=HCE.out _ hS;go_simp;first | done | rfl | (rw[if_pos Za])) ?_
     simp only[Act.put,Zl]
    try rw[he3]
    try rw[he4]
    iterate 12
     first
      | refine Zam rfl rfl ?_
      | refine Zr _ rfl rfl (fun w' hS=>by obtain⟨⟨q0,q1⟩,q2,q3⟩:=HCE.out _ hS;go_simp;first | done | rfl | (rw[if_pos Za])) ?_
     simp only[Act.put,Zl]
    refine ZD ?_
    go_wp2
    go_meet
    first
     | exact HBE.out.trans (HBQ.out.mono HBE.out.size)
     | exact HBE.out.trans (HBF.out.mono HBE.out.size)
  ·go_wp2
   go_meet
   exact ZmY _ _
 case rest=>
  have HE9:=ZnK (HE8.out.step hcut.out)
  have HM9:=ZnK (HM28.out.after Zbp.stays hcut.out ZnL)
  have HT9:=ZnK (HH.out.tabs.below HE9.out.base ZnL)
  clear hcut HE8 HM28 HM1
  by_cases hk:k2=0
  ·subst hk
   obtain⟨hf,hz⟩:=HK2.out rfl
   obtain⟨htot,hz0,hz1⟩:=ZgW hf
   obtain⟨hno,hsg⟩:=ZjN hz hz0 hz1
   have HTOT:=ZnK htot
   have HIZ:=ZnK hz
   have HSG:=ZnK hsg
   have HNO:=ZnK hno
   clear hf hz htot hz0 hz1 hsg hno HK1 HK2 HN2
   go_wp2_with fail
   refine(Zea HM9.out HT9.out).mono ?_
   rintro e wa ⟨⟨s3,t3,r3,rfl,hs3⟩,hb⟩
   have HS3:Hid (r3=true->s3=⟨#[49]⟩/\t3=⟨#[49]⟩):=fun h=>by
    have h1:=hs3 h
    rw[HTOT.out] at h1
    exact Zcj h1 Za3 rfl
   obtain⟨G3,hG3⟩:=ZnM wa.heap.size
   obtain⟨wb,hwb⟩:=ZnM (wa.alloc (pObj s3 t3))
   have HEB:Hid (Env w.heap.size w [(G3,pObj s3 t3),(G,pObj s0 t0),(w.heap.size,belO b (.slice pg ng cg) (.slice ps ns cs))] [] wb):=by rw[<- hwb];exact(HE9.out.step hb).push _ hG3.symm
   have HCB:Hid (∀ X,Below wb.heap.size wb X->(X.cell? ⟨G3,0,none⟩=some (.string s3)/\X.cell? ⟨G3,1,none⟩=some (.string t3))/\X.cell? ⟨G,0,none⟩=some (.string s0)/\X.cell? ⟨G,1,none⟩=some (.string t0)):=fun X hX=>
    ⟨⟨(HEB.out.step hX).cell 0 0 rfl rfl,(HEB.out.step hX).cell 0 1 rfl rfl⟩,(HEB.out.step hX).cell 1 0 rfl rfl,(HEB.out.step hX).cell 1 1 rfl rfl⟩
   have HTB:=ZnK (HH.out.tabs.below HEB.out.base ZnL)
   clear hb hs3
   go_upto_region 16 with (fail)
   clear hwb hG3 HE9 HM9 HT9
   refine ZB [(1,0),(1,1),(1,2),(1,3),(1,4),(1,5),(0,6),(1,7),(1,8),(1,9),(1,10),(1,11),(0,12),(0,13),(1,14),(1,15),(1,16),(1,17),(1,18),(1,19),(1,20),(1,21)] (Below wb.heap.size wb) (fun i=>false)
    Zb Zb (fun _ _=>rfl) Zi (ZmY _ wb).drew ?_
   obtain⟨wf,hwf⟩:=ZnM wb.drew
   have HBF:ZnE wb wf:=by show Below _ _ _;rw[<- hwf];exact(ZmY _ wb).drew
   rw[hwf]
   clear hwf
   rcases(show r3=false\/(r3=true/\s3=⟨#[49]⟩/\t3=⟨#[49]⟩) by cases r3;exact .inl rfl;exact .inr ⟨rfl,HS3.out rfl⟩) with rfl | ⟨rfl,rfl,rfl⟩
   all_goals clear HS3
   all_goals
    iterate 6
     first
      | refine Zam rfl rfl ?_
      | refine Zr _ rfl rfl (fun w' hS=>by obtain⟨⟨q0,q1⟩,q2,q3⟩:=HCB.out _ hS;go_simp;first | done | rfl | (rw[if_pos Za])) ?_
     simp only[Act.put,Zl]
    obtain⟨wq,HBQ,hgo⟩:∃ wq,ZnE wb wq/\wq=wf:=⟨wf,HBF,rfl⟩
    clear hgo
    first
     | (refine Zax rfl rfl (.inr HBF.out) ?_;have HBG:=HBF)
     | (refine Zt 17 _ rfl rfl (by first | (go_simp;done) | (go_simp;rfl)) ?_;refine(ZfL _ (HTB.out.below HBF.out ZnL)).mono ?_;rintro e wg ⟨rfl,hb⟩;have HBG:ZnE wb wg:=HBF.out.trans (hb.mono HBF.out.size);refine .inl ⟨_,rfl,HBG.out,?_⟩;clear hb)
    simp only[Act.put,Zl]
    iterate 5
     first
      | refine Zam rfl rfl ?_
      | refine Zr _ rfl rfl (fun w' hS=>by obtain⟨⟨q0,q1⟩,q2,q3⟩:=HCB.out _ hS;go_simp;first | done | rfl | (rw[if_pos Za])) ?_
     simp only[Act.put,Zl]
    refine Zt 17 _ rfl rfl (by first | (go_simp;done) | (go_simp;rfl)) ?_
    refine(ZfL _ (HTB.out.below HBG.out ZnL)).mono ?_
    rintro e wh ⟨rfl,hb⟩
    have HBH:ZnE wb wh:=HBG.out.trans (hb.mono HBG.out.size)
    refine .inl ⟨_,rfl,HBH.out,?_⟩
    clear hb
    simp only[Act.put,Zl]
    refine Zt 18 _ rfl rfl (by first | (go_simp;done) | (go_simp;rfl)) ?_
    refine(ZeU s0 t0 ⟨#[49]⟩ ⟨#[49]⟩ _ HIZ.out.limit.1 HIZ.out.limit.2 Zd Zd).mono ?_
    rintro e wi ⟨n,rfl,hcmp,hb⟩
    have HBI:ZnE wb wi:=HBH.out.trans (hb.mono HBH.out.size)
    have hn:n<=0:=by
     rcases hcmp with ⟨h1,_⟩ | ⟨_,h2⟩
     ·rw[HIZ.out.ok,Za3.ok] at h1;cases h1
     ·rw[h2,HIZ.out.rat,Za3.rat];exact HSG.out
    refine .inl ⟨_,rfl,HBI.out,?_⟩
    clear hb hcmp
    have hno:=HNO.out
    simp only[Act.put,Zl]
    iterate 8
     first
      | refine Zam rfl rfl ?_
      | refine Zr _ rfl rfl (fun w' hS=>by obtain⟨⟨q0,q1⟩,q2,q3⟩:=HCB.out _ hS;go_simp;first | done | rfl | (rw[if_pos Za])) ?_
     simp only[Act.put,Zl]
    refine ZD ?_
    have HBZ:ZnE w wi:=HEB.out.base.trans (HBI.out.mono HEB.out.base.size)
    go_wp2
    exact ZmZ (by simp[results,Tryz.f3,go_sem];exact HNO.out) rfl ⟨rfl,HBZ.out⟩
  ·obtain rfl:n2=0:=HN2.out hk
   have HBZ:=ZnK HE9.out.base
   go_wp2
   exact ZmZ (by simp[results,Tryz.f3,go_sem]) rfl ⟨rfl,HBZ.out⟩
end Go.Proofs.YtjmckebecpjjfaaGreatDoor
namespace Go.Proofs.YtjmckebecpjjfaaGreatDoor
open Go.ChangeShapes Go.WideShapes Go.ChangeAt Go.RowKit
theorem Zhd (os:Os) (started:os.Started) (H:Type) (enc:TypeId×Value->H) :
  ReturnsInHanded {} Tryz.checked os 3 .any (fun w args=>(Rows.beliefWholeSpec.pre enc Tryz.prog Tryz.f3 Rows.beliefWholeRow.domain false w args/\laidMetH Tryz.prog ZaT w)/\sizedMet enc Tryz.prog Tryz.f3 (OpenSpec.ofChange Rows.beliefWholeSpec) false w args)
   (Rows.beliefWholeSpec.post enc Tryz.prog Tryz.f3 false true false false):=by
 refine returnsInHanded_of_change_and (C:=Tryz.checked) (X:=fun w _=>laidMetH Tryz.prog ZaT w) (fun _ _ _ hh h=>h.of_heap hh) Zlf started Zb Tryz.func3
  (ChangeSpec.witness_shaped (enc:=enc) (C:=Tryz.checked) (os:=os) (X:=fun w _=>laidMetH Tryz.prog ZaT w) false (World.laidAll Tryz.prog os ZaT) #[.agg #[.int .i64 0,.int .i64 0,.int .i64 0,.slice none 0 0,.slice none 0 0],.slice none 0 0,.int .u8 0] 8 (World.laidAll_os _ _ _)
   (World.shaped_of_ZipB Zb Zb) Zb Zb Zb (met9 os _)) ?_
 intro W base args ds gs before hval0 hW hc _ hL _
 have hval:∀ (j:Nat) t v,Tryz.f3.params[j]?=some t->args[j]?=some v->Value.okWide Tryz.prog W .any base t v:=hval0
 have hW':=hW
 obtain⟨p,q,hA0,hV,rfl,_,_⟩:=hW
 have hA:DataW.TrodAll enc Tryz.prog W 0 (fun _=>true) true Tryz.f3.params.toList args.toList ds p:=hA0
 rw[Tryz.params3] at hA hval
 obtain⟨v0,v1,v2,d0,d1,d2,p0,p1,p2,rfl,rfl,rfl,h0,h1,h2⟩:=trodAll_three hA
 obtain⟨rfl,rfl⟩:=trodVars_none hV
 obtain⟨t0,x0,y0,rfl,hT0⟩:=ZkX (hval 0 _ v0 rfl rfl) h0 hL
 obtain⟨n1,hn1⟩:=ZjG (hval 1 _ v1 rfl rfl) h1
 obtain⟨a2,rfl,rfl,rfl,wa2⟩:=open_int Tryz.underlying5 (hval 2 _ v2 rfl rfl) h2
 have ha2:0<=a2/\a2<=255:=by simpa[Lit.wf,IntKind.min,IntKind.max,IntKind.signed,IntKind.bits] using wa2
 obtain⟨a2,rfl⟩:∃ n:Nat,a2=n:=⟨a2.toNat,Za⟩
 clear hA0 hval0
 simp only[List.append_nil] at hW'
 refine(Zjl hT0 hn1 a2 Za).mono fun e W' ⟨he,bel⟩=>?_
 subst he
 have nx:∀ x ∈ ([]:List MemPlace),x.block<W.heap.size:=fun _ h=>by cases h
 have hlt0:∀ x ∈ p0,x.block<W.heap.size:=fun x hx=>by first | (have:=hW'.lt x hx;simpa using this) | (have:=hW'.lt x (by simp[hx]);simpa using this)
 have hlt1:∀ x ∈ p1,x.block<W.heap.size:=fun x hx=>by first | (have:=hW'.lt x hx;simpa using this) | (have:=hW'.lt x (by simp[hx]);simpa using this)
 refine⟨_,rfl,_,_,_,[],p0++p1,[],hW',?_,?_,?_,bel.frame _,fun h=>by cases h⟩
 ·exact trodAll_mk1 (shut_bool Tryz.underlying4 _)
 ·have h9:=trodAll_mk3 (Below.trod Ze9 Zb (of_decide_eq_true Zb) h0 bel hlt0) (Below.trod Ze9 Zb (of_decide_eq_true Zb) h1 bel hlt1) (Below.trod Ze9 Zb (of_decide_eq_true Zb) h2 bel nx)
  first | exact h9 | (simp only[List.append_nil,ZnD] at h9;exact h9) | (simp only[<- List.append_assoc,List.append_nil,ZnD] at h9;exact h9) | (simpa using h9)
 ·rfl
end Go.Proofs.YtjmckebecpjjfaaGreatDoor
