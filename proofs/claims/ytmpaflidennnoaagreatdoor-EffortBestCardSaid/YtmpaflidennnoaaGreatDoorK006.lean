/- The parts LawEBest, LawEBestLift of a proof, put together by program (merge7.py). -/
import Derived.Test.YtmpaflidennnoaaGreatDoorH32
import Derived.Test.YtmpaflidennnoaaGreatDoorK005
import Derived.Test.YtmpaflidennnoaaGreatDoorH31
set_option maxRecDepth 100000
set_option maxHeartbeats 8000000
set_option linter.unusedVariables false
set_option linter.unusedSimpArgs false
namespace Go.Proofs.YtmpaflidennnoaaGreatDoor
open Go.RowKit Go.Shelf
attribute [local go_sem ↓] Go.wp_at_zero Go.wp_at_succ
theorem SmallT.small {t:TaskP} {a b:Nat} (h:SmallT t a b) (ok:TaskOk t):t.sites.length≤a∧t.hours.length≤b:=by
 have h1:=h.few
 have h2:=ok.sites
 have h3:=ok.teams
 omega
theorem Zex.fit {t:TaskP} {p:List (List Int)} {x y:ByteArray} {n:Int} (h:Zex t p x y n) (ok:PlanOk t p) (hs:t.sites.length≤4∧t.hours.length≤3):n=0∧IsP (valR t p) x y:=by
 rcases h with ⟨h,_⟩ | ⟨_,h⟩
 ·exact absurd ok h
 ·rcases h with ⟨_,h2,h3⟩ | ⟨h,_⟩
  ·exact⟨h3,h2⟩
  ·exact absurd (ZfW ok.task ok.inn hs.1 hs.2) h
theorem Za1.lim {t:TaskP} {p:List (List Int)} {qs:List PP} (h:Za1 t p qs):LimP qs:=fun q hq=>by
 obtain⟨i,hi,rfl⟩:=List.getElem_of_mem hq
 obtain⟨_,_,_,h2⟩:=h.2 i (by rw[← h.1];exact hi)
 rw[show qs.getD i (⟨#[]⟩,⟨#[]⟩)=qs[i] by simp[List.getD,hi]] at h2
 exact⟨h2.limit.1,h2.limit.2⟩
theorem Zl7 {t:TaskP} {p:List (List Int)} {sv hv rv pv:Value} {w:World} (hT:TaskIn t sv hv rv w) (hI:IIL w pv p) (r0:Nat) (hr0:r0<256) :
  Calls Tryz.prog 12 #[.agg #[sv,hv,rv],.int .u8 r0,pv] w (ZY w true):=by
 obtain⟨np,hnp⟩:∃ n,p.length=n:=⟨_,rfl⟩
 obtain⟨pp,pc,rfl,hpc1,hpc2⟩:=hI.shape hnp
 have HI:=Lib.hid hI
 have HNP:=Lib.hid hnp
 clear hI hnp
 obtain⟨ps,cs,rfl,_⟩:=hT.sites.shape rfl
 obtain⟨ph,ch,rfl,_⟩:=hT.hours.shape rfl
 obtain⟨pr,cr,rfl,_⟩:=hT.rates.shape rfl
 obtain⟨ns,hns⟩:∃ n,t.sites.length=n:=⟨_,rfl⟩
 obtain⟨nh,hnh⟩:∃ n,t.hours.length=n:=⟨_,rfl⟩
 obtain⟨nr,hnr⟩:∃ n,t.rates.length=n:=⟨_,rfl⟩
 rw[hns,hnh,hnr] at hT ⊢
 have HT:=Lib.hid hT
 have HNS:=Lib.hid hns
 have HNH:=Lib.hid hnh
 obtain⟨w1,hw1⟩:∃ z,w.alloc (efO (.slice ps ns cs) (.slice ph nh ch) (.slice pr nr cr))=z:=⟨_,rfl⟩
 obtain⟨G,hG⟩:∃ g,w.heap.size=g:=⟨_,rfl⟩
 have HG:=Lib.hid hG
 have HE1:Hid (Env w.heap.size w [(G,efO (.slice ps ns cs) (.slice ph nh ch) (.slice pr nr cr))] [] w1):=by rw[← hw1];exact(Env.start w).push _ hG.symm
 clear hT hns hnh hnr
 go_enter Tryz.func12,Tryz.ntmps12
 go_wp2_with fail
 have hT1:=HT.out.below HE1.out.base (Nat.le_refl _)
 refine(Zkt _ hT1.det hT1.tabs hT1.eff).mono ?_
 rintro e w2 ⟨rfl,hb⟩
 have HE2:=Lib.hid (HE1.out.step hb)
 clear hb HE1 hT1 hw1 hG
 have c0:=HE2.out.cell 0 0 (v:=.slice ps ns cs) rfl rfl
 have c1:=HE2.out.cell 0 1 (v:=.slice ph nh ch) rfl rfl
 have c2:=HE2.out.cell 0 2 (v:=.slice pr nr cr) rfl rfl
 go_wp2_with fail
 refine(ZjL (HT.out.below HE2.out.base (Nat.le_refl _)) 4 3 12 (by decide) (by decide) (by decide)).mono ?_
 rintro e w3 ⟨r,rfl,hS,hb⟩
 have HE3:=Lib.hid (HE2.out.step hb)
 clear hb HE2 c0 c1 c2
 cases r with
 | true=>
  go_wp2
  exact bodyPost_ret (by simp[results,Tryz.f12,go_sem]) rfl ⟨rfl,HE3.out.base⟩
 | false=>
  have HZ:=Lib.hid (hS rfl).lim
  have HSM:=Lib.hid (fun ok=>(hS rfl).small ok)
  clear hS
  go_wp2_with fail
  refine(Zl5 (IIL.stay2 HI.out HE3.out.base (Nat.le_refl _))).mono ?_
  rintro e w4 ⟨r,rfl,hW,hb⟩
  have HE4:=Lib.hid (HE3.out.step hb)
  clear hb HE3 hW
  cases r with
  | true=>
   go_wp2
   exact bodyPost_ret (by simp[results,Tryz.f12,go_sem]) rfl ⟨rfl,HE4.out.base⟩
  | false=>
   have c0:=HE4.out.cell 0 0 (v:=.slice ps ns cs) rfl rfl
   have c1:=HE4.out.cell 0 1 (v:=.slice ph nh ch) rfl rfl
   have c2:=HE4.out.cell 0 2 (v:=.slice pr nr cr) rfl rfl
   obtain⟨R,hR⟩:∃ R:Nat,r0 % 4=R:=⟨_,rfl⟩
   have hR4:R≤3:=by omega
   have hRm:((r0:Int) % 4)=(R:Int):=by omega
   have hRt:Int.tmod (r0:Int) 4=(R:Int):=by rw[Int.tmod_eq_emod_of_nonneg (by omega)];exact hRm
   go_wp2_with fail
   refine(Zkn (HT.out.below HE4.out.base (Nat.le_refl _)) HZ.out HSM.out).mono ?_
   rintro e w5 ⟨hA,hb⟩
   obtain⟨A,hAs⟩:∃ g,w5.heap.size=g:=⟨_,rfl⟩
   have HE5:=Lib.hid (HE4.out.step hb)
   have HB45:=Lib.hid hb
   clear hb HE4 c0 c1 c2
   rcases hA with ⟨_,rfl⟩ | ⟨⟨hok,_⟩,q,qs,hSR,hA⟩
   ·have HB5:=Lib.hid (HE5.out.base.alloc HE5.out.own soZ)
    clear hAs HE5
    go_wp2
    exact bodyPost_ret (by simp[results,Tryz.f12,go_sem]) rfl ⟨rfl,HB5.out⟩
   have hsm:=HSM.out hok
   rcases hA with ⟨hfit,pv,x,y,qv,u,v,s,z,hIq,hPq,hx,hu,hs,rfl⟩ | ⟨_,rfl⟩
   rotate_left
   ·have HB5:=Lib.hid (HE5.out.base.alloc HE5.out.own soZ)
    clear hAs HE5 hsm
    go_wp2
    exact bodyPost_ret (by simp[results,Tryz.f12,go_sem]) rfl ⟨rfl,HB5.out⟩
   obtain⟨nq,hnq⟩:∃ n,q.length=n:=⟨_,rfl⟩
   obtain⟨qp,qc,rfl,hqc1,hqc2⟩:=hIq.shape hnq
   obtain⟨vp,vn,vc,rfl⟩:∃ a b c,qv=Value.slice a b c:=by
    obtain⟨p,c,h,_⟩:=id hPq
    exact⟨_,_,_,h⟩
   obtain⟨p9,k9,_,_,hokq,hpr⟩:=hSR
   have HQK:=Lib.hid (And.intro hokq (And.intro hpr hfit))
   have HXS:=Lib.hid (And.intro hx (And.intro hu hs))
   have HIQ:=Lib.hid hIq
   have HPQ:=Lib.hid hPq
   have HSZ:=Lib.hid hsm
   obtain⟨w6,hw6⟩:∃ z',w5.alloc (soO (.slice qp nq qc) x y (.slice vp vn vc) u v s z)=z':=⟨_,rfl⟩
   have HE6:Hid (Env w.heap.size w [(A,soO (.slice qp nq qc) x y (.slice vp vn vc) u v s z),(G,efO (.slice ps ns cs) (.slice ph nh ch) (.slice pr nr cr))] [] w6):=by rw[← hw6];exact HE5.out.push _ hAs.symm
   have HB6:Hid (Below w5.heap.size w5 w6):=by rw[← hw6];exact(Below.refl _ w5).alloc (Nat.le_refl _) _
   clear hokq hpr hfit hx hu hs hIq hPq hsm hnq HE5 HB45
   have c0:=HE6.out.cell 1 0 (v:=.slice ps ns cs) rfl rfl
   have c1:=HE6.out.cell 1 1 (v:=.slice ph nh ch) rfl rfl
   have c2:=HE6.out.cell 1 2 (v:=.slice pr nr cr) rfl rfl
   have a0:=HE6.out.cell 0 0 (v:=.slice qp nq qc) rfl rfl
   go_wp2_with fail
   try rw[hw6]
   try rw[hAs]
   clear hw6 hAs
   refine(Zd3 (HT.out.below HE6.out.base (Nat.le_refl _)) HZ.out (IIL.stay2 HIQ.out HB6.out (Nat.le_refl _))).mono ?_
   rintro e w7 ⟨x1,y1,n,rfl,hA,hb⟩
   obtain⟨rfl,hx1⟩:=hA.fit HQK.out.1 HSZ.out
   obtain⟨rfl,rfl⟩:=Zaq hx1 HXS.out.1 rfl
   obtain⟨B,hBs⟩:∃ g,w7.heap.size=g:=⟨_,rfl⟩
   obtain⟨w8,hw8⟩:∃ z',w7.alloc (pObj x1 y1)=z':=⟨_,rfl⟩
   have hb8:Below w7.heap.size w7 w8:=by rw[← hw8];exact(Below.refl _ w7).alloc (Nat.le_refl _) _
   have HE8:Hid (Env w.heap.size w [(B,pObj x1 y1),(A,soO (.slice qp nq qc) x1 y1 (.slice vp vn vc) u v s z),(G,efO (.slice ps ns cs) (.slice ph nh ch) (.slice pr nr cr))] [] w8):=by rw[← hw8];exact(HE6.out.step hb).push _ hBs.symm
   have HB8:Hid (Below w5.heap.size w5 w8):=HB6.out.trans ((hb.trans (hb8.mono hb.size)).mono HB6.out.size)
   clear hA hb hb8 hx1 HE6 HB6 c0 c1 c2 a0
   have c0:=HE8.out.cell 2 0 (v:=.slice ps ns cs) rfl rfl
   have c1:=HE8.out.cell 2 1 (v:=.slice ph nh ch) rfl rfl
   have c2:=HE8.out.cell 2 2 (v:=.slice pr nr cr) rfl rfl
   have a3:=HE8.out.cell 1 3 (v:=.slice vp vn vc) rfl rfl
   go_wp2_with fail
   try rw[hw8]
   try rw[hBs]
   clear hw8 hBs
   refine(Zf6 (HT.out.below HE8.out.base (Nat.le_refl _)) HZ.out (HPQ.out.after HB8.out (Nat.le_refl _)) HQK.out.2.1.lim).mono ?_
   rintro e w9 ⟨u1,v1,n,rfl,hA,hb⟩
   obtain⟨rfl,hu1⟩:n=0∧IsP (bndR t qs) u1 v1:=by
    rcases hA with ⟨h,_⟩ | ⟨_,h⟩
    ·exact absurd ⟨HQK.out.1.task,HQK.out.2.1.ok HQK.out.1.task⟩ h
    ·rcases h with ⟨_,h2,h3⟩ | ⟨h,_⟩
     ·exact⟨h3,h2⟩
     ·exact absurd HQK.out.2.2.1 h
   obtain⟨rfl,rfl⟩:=Zaq hu1 HXS.out.2.1 rfl
   obtain⟨C,hCs⟩:∃ g,w9.heap.size=g:=⟨_,rfl⟩
   obtain⟨wA,hwA⟩:∃ z',w9.alloc (pObj u1 v1)=z':=⟨_,rfl⟩
   have hbA:Below w9.heap.size w9 wA:=by rw[← hwA];exact(Below.refl _ w9).alloc (Nat.le_refl _) _
   have HEA:Hid (Env w.heap.size w [(C,pObj u1 v1),(B,pObj x1 y1),(A,soO (.slice qp nq qc) x1 y1 (.slice vp vn vc) u1 v1 s z),(G,efO (.slice ps ns cs) (.slice ph nh ch) (.slice pr nr cr))] [] wA):=by rw[← hwA];exact(HE8.out.step hb).push _ hCs.symm
   have HBA:Hid (Below w5.heap.size w5 wA):=HB8.out.trans ((hb.trans (hbA.mono hb.size)).mono HB8.out.size)
   clear hA hb hbA hu1 HE8 HB8 c0 c1 c2 a3
   have a1:=HEA.out.cell 2 1 (v:=.string x1) rfl rfl
   have a2:=HEA.out.cell 2 2 (v:=.string y1) rfl rfl
   have a6:=HEA.out.cell 2 6 (v:=.string s) rfl rfl
   have a7:=HEA.out.cell 2 7 (v:=.string z) rfl rfl
   go_wp2_with fail
   try rw[hwA]
   try rw[hCs]
   clear hwA hCs
   refine(ZdR HXS.out.1 HXS.out.2.2 _ (HT.out.below HEA.out.base (Nat.le_refl _)).tabs).mono ?_
   rintro e wB ⟨x3,y3,n,rfl,hA3,hb⟩
   have hsum:valR t q+(bndR t qs-valR t q)=bndR t qs:=by grind
   obtain⟨hx3,rfl⟩:=hA3.fit (by rw[hsum];exact HXS.out.2.1.fits)
   obtain⟨rfl,rfl⟩:=Zaq hx3 HXS.out.2.1 hsum
   obtain⟨D,hDs⟩:∃ g,wB.heap.size=g:=⟨_,rfl⟩
   obtain⟨wC,hwC⟩:∃ z',wB.alloc (pObj x3 y3)=z':=⟨_,rfl⟩
   have hbC:Below wB.heap.size wB wC:=by rw[← hwC];exact(Below.refl _ wB).alloc (Nat.le_refl _) _
   have HEC:Hid (Env w.heap.size w [(D,pObj x3 y3),(C,pObj x3 y3),(B,pObj x1 y1),(A,soO (.slice qp nq qc) x1 y1 (.slice vp vn vc) x3 y3 s z),(G,efO (.slice ps ns cs) (.slice ph nh ch) (.slice pr nr cr))] [] wC):=by rw[← hwC];exact(HEA.out.step hb).push _ hDs.symm
   have HBC:Hid (Below w5.heap.size w5 wC):=HBA.out.trans ((hb.trans (hbC.mono hb.size)).mono HBA.out.size)
   clear hA3 hb hbC hx3 hsum HEA HBA a1 a2 a6 a7
   have c0:=HEC.out.cell 4 0 (v:=.slice ps ns cs) rfl rfl
   have c1:=HEC.out.cell 4 1 (v:=.slice ph nh ch) rfl rfl
   have c2:=HEC.out.cell 4 2 (v:=.slice pr nr cr) rfl rfl
   have a0:=HEC.out.cell 3 0 (v:=.slice qp nq qc) rfl rfl
   go_wp2_with fail
   try rw[hwC]
   try rw[hDs]
   clear hwC hDs
   refine(ZdE (HT.out.below HEC.out.base (Nat.le_refl _)) HZ.out (IIL.stay2 HIQ.out HBC.out (Nat.le_refl _))).mono ?_
   rintro e wD ⟨hE,hb⟩
   obtain rfl:e=.returned (.int .i64 0):=by
    rcases hE with ⟨_,h⟩ | ⟨h,_⟩
    ·exact h
    ·exact absurd HQK.out.1 h
   have HED:=Lib.hid (HEC.out.step hb)
   clear hE hb HEC HBC c0 c1 c2 a0
   have a1:=HED.out.cell 3 1 (v:=.string x1) rfl rfl
   have a2:=HED.out.cell 3 2 (v:=.string y1) rfl rfl
   have a4:=HED.out.cell 3 4 (v:=.string x3) rfl rfl
   have a5:=HED.out.cell 3 5 (v:=.string y3) rfl rfl
   have b0:=HED.out.cell 2 0 (v:=.string x1) rfl rfl
   have b1:=HED.out.cell 2 1 (v:=.string y1) rfl rfl
   have d0:=HED.out.cell 1 0 (v:=.string x3) rfl rfl
   have d1:=HED.out.cell 1 1 (v:=.string y3) rfl rfl
   have e0:=HED.out.cell 0 0 (v:=.string x3) rfl rfl
   have e1:=HED.out.cell 0 1 (v:=.string y3) rfl rfl
   have c0:=HED.out.cell 4 0 (v:=.slice ps ns cs) rfl rfl
   have c1:=HED.out.cell 4 1 (v:=.slice ph nh ch) rfl rfl
   have c2:=HED.out.cell 4 2 (v:=.slice pr nr cr) rfl rfl
   go_wp2_with fail
   refine(Zd3 (HT.out.below HED.out.base (Nat.le_refl _)) HZ.out (IIL.stay2 HI.out HED.out.base (Nat.le_refl _))).mono ?_
   rintro e wE ⟨x2,y2,n2,rfl,hA2,hb⟩
   have HA2:=Lib.hid hA2
   obtain⟨F,hF⟩:∃ g,wE.heap.size=g:=⟨_,rfl⟩
   obtain⟨wF,hwF⟩:∃ z',wE.alloc (pObj x2 y2)=z':=⟨_,rfl⟩
   have HEF:Hid (Env w.heap.size w [(F,pObj x2 y2),(D,pObj x3 y3),(C,pObj x3 y3),(B,pObj x1 y1),(A,soO (.slice qp nq qc) x1 y1 (.slice vp vn vc) x3 y3 s z),(G,efO (.slice ps ns cs) (.slice ph nh ch) (.slice pr nr cr))] [] wF):=by rw[← hwF];exact(HED.out.step hb).push _ hF.symm
   clear hA2 hb HED c0 c1 c2 a1 a2 a4 a5 b0 b1 d0 d1 e0 e1
   by_cases hn2:n2=0
   rotate_left
   ·have h0:(n2 !=0)=true:=by rw[bne_iff_ne];exact hn2
    clear hn2
    go_wp2
    exact bodyPost_ret (by simp[results,Tryz.f12,go_sem]) rfl ⟨rfl,HEF.out.base⟩
   subst hn2
   obtain⟨hokp,hx2⟩:PlanOk t p∧IsP (valR t p) x2 y2:=by
    rcases HA2.out with ⟨_,_,_,h⟩ | ⟨ok,h⟩
    ·cases h
    ·exact⟨ok,h.fine.2⟩
   have HX2:=Lib.hid hx2
   obtain⟨g,hg⟩:∃ g,sgnR (valR t p) (bndR t qs)=g:=⟨_,rfl⟩
   have HGG:=Lib.hid hg
   have hle:¬ (0:Int)<g:=by
    rw[← hg]
    exact ZbZ (ZdH hokp (HQK.out.2.1.ok hokp.task))
   have hg0:g≤0:=by omega
   clear hx2 HA2 hg hokp
   have d0:=HEF.out.cell 0 0 (v:=.string x2) rfl rfl
   have d1:=HEF.out.cell 0 1 (v:=.string y2) rfl rfl
   have e0:=HEF.out.cell 4 4 (v:=.string x3) rfl rfl
   have e1:=HEF.out.cell 4 5 (v:=.string y3) rfl rfl
   go_wp2_with fail
   try rw[hwF]
   try rw[hF]
   clear hwF hF
   refine(ZaI HX2.out HXS.out.2.1 HGG.out _).mono ?_
   rintro e wG ⟨rfl,hb⟩
   have HEG:=Lib.hid (HEF.out.step hb)
   clear hb HEF d0 d1 e0 e1
   go_wp2
   exact bodyPost_ret (by simp[results,Tryz.f12,go_sem]) rfl ⟨rfl,HEG.out.base⟩
end Go.Proofs.YtmpaflidennnoaaGreatDoor
namespace Go.Proofs.YtmpaflidennnoaaGreatDoor
open Go.ChangeShapes Go.WideShapes Go.ChangeAt Go.RowKit
theorem Zja (os:Os) (started:os.Started) (H:Type) (enc:TypeId×Value→H) :
  ReturnsInHanded {} Tryz.checked os 12 .any (fun w args=>(Rows.effortBestSpec.pre enc Tryz.prog Tryz.f12 Rows.effortBestRow.domain false w args∧laidMetH Tryz.prog ZaL w)∧sizedMet enc Tryz.prog Tryz.f12 (OpenSpec.ofChange Rows.effortBestSpec) false w args)
   (Rows.effortBestSpec.post enc Tryz.prog Tryz.f12 false true false false):=by
 refine returnsInHanded_of_change_and (C:=Tryz.checked) (X:=fun w _=>laidMetH Tryz.prog ZaL w) (fun _ _ _ hh h=>h.of_heap hh) Zl4 started (by kernel_rfl) Tryz.func12
  (ChangeSpec.witness_shaped (enc:=enc) (C:=Tryz.checked) (os:=os) (X:=fun w _=>laidMetH Tryz.prog ZaL w) false (World.laidAll Tryz.prog os ZaL) #[.agg #[.slice none 0 0,.slice none 0 0,.slice none 0 0],.int .u8 0,.slice none 0 0] 8 (World.laidAll_os _ _ _)
   (World.shaped_of_ZipB (by kernel_rfl) (by kernel_rfl)) (by kernel_rfl) (by kernel_rfl) (by kernel_rfl) (met9 os _)) ?_
 intro W base args ds gs before hval0 hW hc _ hL _
 have hval:∀ (j:Nat) t v,Tryz.f12.params[j]?=some t→args[j]?=some v→Value.okWide Tryz.prog W .any base t v:=hval0
 have hW':=hW
 obtain⟨p,q,hA0,hV,rfl,_,_⟩:=hW
 have hA:DataW.TrodAll enc Tryz.prog W 0 (fun _=>true) true Tryz.f12.params.toList args.toList ds p:=hA0
 rw[Tryz.params12] at hA hval
 obtain⟨v0,v1,v2,d0,d1,d2,p0,p1,p2,rfl,rfl,rfl,h0,h1,h2⟩:=trodAll_three hA
 obtain⟨rfl,rfl⟩:=trodVars_none hV
 obtain⟨t0,x0,y0,z0,rfl,hT0⟩:=Zms (hval 0 _ v0 rfl rfl) h0 hL
 obtain⟨a1,rfl,rfl,rfl,wa1⟩:=open_int Tryz.underlying5 (hval 1 _ v1 rfl rfl) h1
 have ha1:0≤a1∧a1≤255:=by simpa[Lit.wf,IntKind.min,IntKind.max,IntKind.signed,IntKind.bits] using wa1
 obtain⟨a1,rfl⟩:∃ n:Nat,a1=n:=⟨a1.toNat,by omega⟩
 obtain⟨n2,hn2⟩:=Zlr (hval 2 _ v2 rfl rfl) h2
 clear hA0 hval0
 simp only[List.append_nil] at hW'
 refine(Zl7 hT0 hn2 a1 (by omega)).mono fun e W' ⟨he,bel⟩=>?_
 subst he
 have nx:∀ x ∈ ([]:List MemPlace),x.block<W.heap.size:=fun _ h=>by cases h
 have hlt0:∀ x ∈ p0,x.block<W.heap.size:=fun x hx=>by first | (have:=hW'.lt x hx;simpa using this) | (have:=hW'.lt x (by simp[hx]);simpa using this)
 have hlt2:∀ x ∈ p2,x.block<W.heap.size:=fun x hx=>by first | (have:=hW'.lt x hx;simpa using this) | (have:=hW'.lt x (by simp[hx]);simpa using this)
 refine⟨_,rfl,_,_,_,[],p0++p2,[],hW',?_,?_,?_,bel.frame _,fun h=>by cases h⟩
 ·exact trodAll_mk1 (shut_bool Tryz.underlying4 _)
 ·have h9:=trodAll_mk3 (Below.trod Zfz (by kernel_rfl) (of_decide_eq_true (by kernel_rfl)) h0 bel hlt0) (Below.trod Zfz (by kernel_rfl) (of_decide_eq_true (by kernel_rfl)) h1 bel nx) (Below.trod Zfz (by kernel_rfl) (of_decide_eq_true (by kernel_rfl)) h2 bel hlt2)
  first | exact h9 | (simp only[List.append_nil,List.nil_append] at h9;exact h9) | (simp only[← List.append_assoc,List.append_nil,List.nil_append] at h9;exact h9) | (simpa using h9)
 ·rfl
end Go.Proofs.YtmpaflidennnoaaGreatDoor
