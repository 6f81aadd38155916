/- The parts EGreedy, Float2, ESur1, EValues. -/
import Derived.Test.YtmpaflidennnoaaGreatDoorH25
set_option maxRecDepth 100000
set_option maxHeartbeats 4000000
set_option linter.unusedVariables false
set_option linter.unusedSimpArgs false
namespace Go.Proofs.YtmpaflidennnoaaGreatDoor
open Go.RowKit Go.Shelf
attribute [local go_sem ↓] Go.wp_at_zero Go.wp_at_succ
theorem PlanO.keepG {p:List (List Int)} {N m b g:Nat} {pv:Value} {gq gc:Nat->Nat} {w w':World} (h:PlanO p N m b pv gq gc w) (h1:pv.ownBlock≠some g) (h2:∀ u,u<p.length->gq u≠g) (hk:Keeps (fun x=>x≠g) w w'):PlanO p N m b pv gq gc w':=by
 refine⟨Zae h.outer fun x hx=>?_,fun u hu=>Zae (h.row u hu) fun x hx=>?_,h.inj,h.out⟩
 ·exact hk.block x (ZoE h.outer x hx).2 fun e=>h1 (by rw[hx,e])
 ·have hx':gq u=x:=by simpa[Value.ownBlock] using hx
  exact hk.block x (ZoE (h.row u hu) x hx).2 fun e=>h2 u hu (by rw[hx',e])
def ZnD (t:TaskP) (b m:Nat) (pv:Value) (gq gc:Nat->Nat) (n:Int) (W:World):Prop:=n=0/\∃ p,GreedyR t (Z1 t) p/\PlanOk t p/\PlanO p t.sites.length m b pv gq gc W
def Znu (t:TaskP) (w:World) (e:Ending) (w':World):Prop:=
 ((¬ TaskOk t/\e=.returned (.tuple #[.slice none 0 0,.int .i64 2]))\/(TaskOk t/\∃ p pv,GreedyR t (Z1 t) p/\PlanOk t p/\IIL w' pv p/\e=.returned (.tuple #[pv,.int .i64 0])))/\Below w.heap.size w w'
theorem ZjM {t:TaskP} {sv hv rv:Value} {w:World} (hT:TaskIn t sv hv rv w) (hz:LimT t) :
  Calls Tryz.prog 16 #[.agg #[sv,hv,rv]] w (Znu t w):=by
 obtain⟨ps,cs,rfl,_⟩:=hT.sites.shape rfl
 obtain⟨ph,ch,rfl,_⟩:=hT.hours.shape rfl
 obtain⟨pr,cr,rfl,_⟩:=hT.rates.shape rfl
 obtain⟨ns,hns⟩:=Zpg t.sites.length
 obtain⟨nh,hnh⟩:=Zpg t.hours.length
 obtain⟨nr,hnr⟩:=Zpg t.rates.length
 rw[hns,hnh,hnr] at hT ⊢
 have HT:=Zpe hT
 have HZ:=Zpe hz
 have hmf:∀ (fn:Fn) (first cap:Array Value) (w:World),(Instr.makeFunc fn first cap).run Tryz.prog w=.ok (.func fn first cap) w:=fun _ _ _ _=>rfl
 have HE0:Hid (Env w.heap.size w [(w.heap.size,efO (.slice ps ns cs) (.slice ph nh ch) (.slice pr nr cr))] [] (w.alloc (efO (.slice ps ns cs) (.slice ph nh ch) (.slice pr nr cr)))):=(Env.start w).push _ rfl
 have e0:=HE0.out.cell 0 0 (v:=.slice ps ns cs) rfl rfl
 have e1:=HE0.out.cell 0 1 (v:=.slice ph nh ch) rfl rfl
 have e2:=HE0.out.cell 0 2 (v:=.slice pr nr cr) rfl rfl
 clear hT hz
 go_enter Tryz.func16,Tryz.ntmps16
 go_wp2_with fail
 refine(Zdr (HT.out.below HE0.out.base Zpf) HZ.out).mono ?_
 rintro e w1 ⟨hE,hb⟩
 have HE1:=Zpe (HE0.out.step hb)
 clear hb HE0 e0 e1 e2
 rcases hE with ⟨hok,rfl⟩ | ⟨hok,rfl⟩
 rotate_left
 ·have HB1:=Zpe HE1.out.base
  have HOK:=Zpe hok
  clear hok HE1
  go_wp2
  exact Zor (by simp[results,Tryz.f16,go_sem]) rfl ⟨.inl ⟨HOK.out,rfl⟩,HB1.out⟩
 ·have HOK:=Zpe hok
  have HT1:=Zpe (HT.out.below HE1.out.base Zpf)
  have HB1:=Zpe HE1.out.base
  obtain⟨G,hG⟩:=Zpg w.heap.size
  have hSS:=HE1.out.block 0 rfl
  have HGG:=Zpe hG
  rw[hG] at hSS ⊢
  have HS1:=Zpe hSS
  clear hok HE1 hSS hG
  go_wp2
  refine ZP [(1,0),(1,1),(0,2),(0,3),(1,4)] (fun V=>V.heap[G]?=some (efO (.slice ps ns cs) (.slice ph nh ch) (.slice pr nr cr))) (fun i=>false)
   Zb Zb (fun j hj=>rfl) Zi HS1.out ?_
  have HSd:Hid (w1.drew.heap[G]?=some (efO (.slice ps ns cs) (.slice ph nh ch) (.slice pr nr cr))):=HS1.out
  have HTd:Hid (TaskIn t (.slice ps ns cs) (.slice ph nh ch) (.slice pr nr cr) w1.drew):=HT1.out.below (Zoq _ w1).drew Zpf
  have HBd:Hid (Below w.heap.size w w1.drew):=HB1.out.drew
  obtain⟨V,hV⟩:=Zpg w1.drew
  rw[hV] at HSd HTd HBd ⊢
  clear hV HS1 HT1 HB1
  iterate 2
   refine Zx _ rfl rfl (fun w' hS=>by have d0:=Zn hS 0 (v:=.slice ps ns cs) rfl;have d1:=Zn hS 1 (v:=.slice ph nh ch) rfl;have d2:=Zn hS 2 (v:=.slice pr nr cr) rfl;exact Ze) ?_
   simp only[Act.put,Zl]
  refine Zy 49 _ rfl rfl Zf ?_
  refine(ZlI HTd.out HOK.out.teams.2 HOK.out.sites).mono ?_
  rintro e V1 ⟨pv0,rfl,hI,hb⟩
  have HS1:Hid (V1.heap[G]?=some (efO (.slice ps ns cs) (.slice ph nh ch) (.slice pr nr cr))):=(hb.block _ (Zo9 HSd.out)).trans HSd.out
  have HT1:=Zpe (HTd.out.below hb Zpf)
  have HB1:Zo8 w V1:=HBd.out.trans (hb.mono HBd.out.size)
  have HI1:=Zpe hI
  refine .inl ⟨_,rfl,HS1.out,?_⟩
  clear hb hI HSd HTd HBd
  simp only[Act.put,Zl]
  refine Zy 48 _ rfl rfl Zf ?_
  have hzp:=Zja HOK.out
  refine(Zde HT1.out HI1.out hzp.len8.2 HOK.out.sites (fun u hu=>hzp.row u hu)).mono ?_
  rintro e V2 ⟨b,m,sv,hv,rv,pv,gq,gc,rfl,hW,hP,hM,hm1,hb1,hb⟩
  have HS2:Hid (V2.heap[G]?=some (efO (.slice ps ns cs) (.slice ph nh ch) (.slice pr nr cr))):=(hb.block _ (Zo9 HS1.out)).trans HS1.out
  have HB2:Zo8 w V2:=HB1.out.trans (hb.mono HB1.out.size)
  have hmw:w.heap.size<=m:=Zoz HB1.out.size hm1
  obtain⟨T,hTl⟩:=Zpg ((Z1 t).length)
  have hgs:∀ u,u<T->gq u<V2.heap.size:=fun u hu=>(hP.gt (by rw[hTl];exact hu)).2
  have hgm:∀ u,u<T->m<gq u:=fun u hu=>(hP.gt (by rw[hTl];exact hu)).1
  have hgb:∀ u,u<T->gq u≠b:=fun u hu=>(hP.out.2 u (by rw[hTl];exact hu)).1
  have hpo:∀ x,pv.ownBlock=some x->x<V2.heap.size:=fun x hx=>(ZoE hP.outer x hx).2
  have hmV:=hM.lt
  have HTR:Hid (Calls Tryz.prog 50 #[.func (.func 51) #[.pointer (some ⟨b,0,none⟩)] #[]] V2 (ZdF (ZnD t b m pv gq gc) (NotG m T gq) V2)):=by
   have hal:Below V2.heap.size V2 (V2.alloc (erO 0)):=(Zoq _ V2).alloc Zpf _
   refine Zjj (enters_of Tryz.func51 Zb rfl) (fun x hx=>⟨Za,fun u hu e=>by have:=hgs u hu;omega⟩) (fun n W W' hq hk=>?_) ?_
   ·obtain⟨h0,p,h1,h2,h3⟩:=hq
    refine⟨h0,p,h1,h2,h3.keepG (fun e=>by have:=hpo _ e;omega) (fun u hu e=>?_) hk⟩
    have:=hgs u (by rw[<- hTl,hzp.teams,<- h2.teams];exact hu)
    omega
   ·refine(Zjz (hW.keep (hal.keepsS _)) (hP.keep (hal.keepsS _)) (hM.step hal) hzp).mono ?_
    rintro e W' ⟨rfl,⟨p,h1,h2,h3⟩,h4⟩
    rw[hTl] at h4
    exact⟨0,.inl ⟨rfl,rfl⟩,⟨rfl,p,h1,h2,h3⟩,h4⟩
  have HW2:=Zpe hW
  have HGQ:Hid ((∀ u,u<T->w.heap.size<gq u)/\∀ u,u<T->gq u≠b):=⟨fun u hu=>by have:=hgm u hu;omega,hgb⟩
  refine .inl ⟨_,rfl,HS2.out,?_⟩
  clear hb hW hP hM hgs hgm hgb hpo HS1 HT1 HB1 HI1 hzp hTl hb1 hm1
  simp only[Act.put,Zl]
  iterate 1
   refine Zx _ rfl rfl (fun w' hS=>Ze) ?_
   simp only[Act.put,Zl]
  refine ZD ?_
  go_wp2_with fail
  refine HTR.out.mono ?_
  rintro e V3 ⟨n,rfl,⟨rfl,p,hR,hok,hP⟩,hk⟩
  have hSb:NotG m T gq b:=⟨HW2.out.ne,fun u hu e=>HGQ.out.2 u hu e.symm⟩
  have hblk:=hk.at HW2.out.blk hSb
  have HB3:Zo8 w V3:=HB2.out.trans (hk.below_of (fun c hc=>⟨Za,fun u hu e=>by have:=HGQ.out.1 u hu;omega⟩) HB2.out.size)
  have HI3:=Zpe hP.toIIL
  have HRO:=Zpe (Zo5 hR hok)
  have d3:=Zn hblk 3 (v:=pv) rfl
  clear hk hR hok hP hSb hblk HTR
  go_wp2
  exact Zor (by simp[results,Tryz.f16,go_sem]) rfl ⟨.inr ⟨HOK.out,p,pv,HRO.out.1,HRO.out.2,HI3.out,rfl⟩,HB3.out⟩
section
variable {P:Program} {ops:Array Oper} {Q:Exit->Act->World->Prop} {md:Region.Mode} {I:World->Prop} {S:Nat->Option Nat->World->Prop} {bar:Nat->Bool}
def Zdb (P:Program) (ops:Array Oper) (Q:Exit->Act->World->Prop) (I:World->Prop) (S:Nat->Option Nat->World->Prop) (bar:Nat->Bool) (d:Nat) (tl:List (Nat×Nat)):List (Nat×Nat)->Nat->Act->Prop
 | [],j,a=>∀ G w,S j (some G) w->Zag P ops Q (I) bar tl (a.put (some d) (.pointer (some ⟨G,0,none⟩))) w
 | (1,i)::ks,j,a=>∃ o v,ops[i]?=some o/\(∀ z,YieldsIf P ops (I) o v (a.put (some d) z))/\Zdb P ops Q I S bar d tl ks j (a.put o.dst v)
 | (0,i)::ks,j,a=>∃ o,ops[i]?=some o/\(((∀ z,Region.wanted o (yielded ops (a.put (some d) z).tmps)=true)/\∀ z g w,S j g w->o.wp P (a.put (some d) z) w (fun a' w'=>∃ v j',a'=(a.put (some d) z).put o.dst v/\S j' g w'/\Zdb P ops Q I S bar d tl ks j' (a.put o.dst v)) Q)\/
   ((∀ z,Region.wanted o (yielded ops (a.put (some d) z).tmps)=false)/\Zdb P ops Q I S bar d tl ks j (a.put o.dst undef)))
 | (_+2,i)::ks,j,a=>∃ o v,ops[i]?=some o/\(∀ z,YieldsIf P ops (fun _=>True) o v (a.put (some d) z))/\Zdb P ops Q I S bar d tl ks j (a.put o.dst v)
theorem Za4 (hI:∀ j g w,S j g w->I w) {fl d:Nat} (hs:ZaN ops fl d=true) {tl:List (Nat×Nat)} : ∀ (ks:List (Nat×Nat)) (j:Nat) (a:Act) (G:Nat) (w:World),(ks.all fun k=>decide (k.2≠fl))=true->S j (some G) w->Zdb P ops Q I S bar d tl ks j a->
  Zag P ops Q (I) bar (ks++tl) (a.put (some d) (.pointer (some ⟨G,0,none⟩))) w
 | [],j,a,G,w,_,hS,h=>h G w hS
 | (1,i)::ks,j,a,G,w,hk,hS,h=>by
  simp only[List.all_cons,ZoY,ZoZ] at hk
  obtain⟨o,v,h0,hy,hrest⟩:=h
  refine⟨o,v,h0,hy _,?_⟩
  rw[ZE _ _ _ (ZF hs h0 hk.1)]
  exact Za4 hI hs ks j _ G w hk.2 hS hrest
 | (0,i)::ks,j,a,G,w,hk,hS,h=>by
  simp only[List.all_cons,ZoY,ZoZ] at hk
  obtain⟨o,h0,h⟩:=h
  refine⟨o,h0,?_⟩
  rcases h with ⟨hw,h⟩ | ⟨hw,h⟩
  ·rw[if_pos (hw _)]
   refine Oper.wp_mono (fun a' w' h'=>?_) (h _ _ _ hS)
   obtain⟨v,j',rfl,hS',hrest⟩:=h'
   refine⟨.inr (hI _ _ _ hS'),?_⟩
   rw[ZE _ _ _ (ZF hs h0 hk.1)]
   exact Za4 hI hs ks j' _ G w' hk.2 hS' hrest
  ·rw[if_neg (by rw[hw];exact Bool.false_ne_true)]
   refine⟨.inr (hI _ _ _ hS),?_⟩
   rw[ZE _ _ _ (ZF hs h0 hk.1)]
   exact Za4 hI hs ks j _ G w hk.2 hS h
 | (n+2,i)::ks,j,a,G,w,hk,hS,h=>by
  simp only[List.all_cons,ZoY,ZoZ] at hk
  obtain⟨o,v,h0,hy,hrest⟩:=h
  refine⟨o,v,h0,hy _,?_⟩
  rw[ZE _ _ _ (ZF hs h0 hk.1)]
  exact Za4 hI hs ks j _ G w hk.2 hS hrest
def ZaV (md:Region.Mode) (ops:Array Oper) (bar:Nat->Bool) (fl:Nat) (tl:List (Nat×Nat)):List (Nat×Nat)->Array Bool->Bool
 | [],listed=>decide (Region.ready md ops listed=[fl]) && Zbf md ops bar tl (listed.setIfInBounds fl true)
 | (1,k)::ks,listed=>(Region.ready md ops listed).contains k && Region.free md ops listed k && !bar k && ((List.range ops.size).all fun j=>!bar j || decide (j=k) || ZcG md ops ops.size j k) && ZaV md ops bar fl tl ks (listed.setIfInBounds k true)
 | (0,k)::ks,listed=>(Region.ready md ops listed).contains k && (Region.ready md ops listed).all (fun j=>decide (j=k) || decide (j=fl)) && Zbf md ops bar (((0,k)::ks)++tl) (listed.setIfInBounds fl true) && ZaV md ops bar fl tl ks (listed.setIfInBounds k true)
 | (_+2,k)::ks,listed=>(Region.ready md ops listed).contains k && Region.free md ops listed k && bar k && ZaV md ops bar fl tl ks (listed.setIfInBounds k true)
theorem Zbe (hI:∀ j g w,S j g w->I w) (hsel:Region.noSelect ops=true) (hQ:∀ c a o v w,Q (.panic c) (a.put o v) w->Q (.panic c) a w) (hbo:∀ j,ops.size<=j->bar j=false) {fl d:Nat} {tl:List (Nat×Nat)} {of:Oper} {ob:Obj} (hof:ops[fl]?=some of) (hd:of.dst=some d)
  (hwf:∀ a:Act,Region.wanted of (yielded ops a.tmps)=true) (hal:∀ (a:Act) (w:World) (K:Act->World->Prop),K (a.put of.dst (.pointer (some ⟨w.heap.size,0,none⟩))) (w.alloc ob)->of.wp P a w K Q) (hst:∀ j w,S j none w->S j (some w.heap.size) (w.alloc ob)) (hs:ZaN ops fl d=true) :
  ∀ (ks:List (Nat×Nat)) (listed:Array Bool) (j:Nat) (a:Act) (z:Value) (w:World),(ks.all fun k=>decide (k.2≠fl))=true->ZaV md ops bar fl tl ks listed=true->Zax md ops listed->S j none w->Zdb P ops Q I S bar d tl ks j a->
   wpJ P md ops Q (I) bar ((ks.length+tl.length)+1) listed (a.put (some d) z) w
 | [],listed,j,a,z,w,_,hB,hC,hS,h=>by
  simp only[ZaV,ZoY,ZoZ] at hB
  obtain⟨hr,hr2⟩:=hB
  refine⟨fun h1=>(by rw[hr] at h1;cases h1),fun i hi=>?_⟩
  have hi0:=hi
  rw[hr] at hi
  obtain rfl:i=fl:=by simpa using hi
  refine Zby hof (hwf _) (hal _ _ _ ?_)
  have hS':=hst j w hS
  refine⟨.inr (hI _ _ _ hS'),?_⟩
  have h2:=h w.heap.size _ hS'
  rw[hd,ZbJ]
  have:=ZaI (md:=md) hsel hQ hbo tl _ _ _ hr2 (hC.step hi0) (.inl (hI _ _ _ hS')) h2
  simpa using this
 | (1,k)::ks,listed,j,a,z,w,hk,hB,hC,hS,h=>by
  simp only[List.all_cons,ZoY,ZoZ] at hk
  simp only[ZaV,ZoY] at hB
  obtain⟨⟨⟨⟨hr,hf⟩,hbk⟩,hw⟩,hB'⟩:=hB
  obtain⟨o,v,h0,hy,hrest⟩:=h
  have hbk':bar k=false:=by simpa using hbk
  have hwait:Zc6 md ops bar k:=fun j hj hne=>by
   have hjl:j<ops.size:=by
    rcases Zow j ops.size with h' | h'
    ·exact h'
    ·rw[hbo j h'] at hj;cases hj
   rw[Zo3] at hw
   have:=hw j (List.mem_range.2 hjl)
   rw[hj] at this
   simpa[hne] using this
  have ih:=Zbe hI hsel hQ hbo hof hd hwf hal hst hs ks (listed.setIfInBounds k true) j (a.put o.dst v) z w hk.2 hB' (hC.step (by simpa using hr)) hS hrest
  rw[<- ZE _ _ _ (ZF hs h0 hk.1)] at ih
  have e:((1,k)::ks).length+tl.length+1=(ks.length+tl.length+1)+1:=by simp only[Zo0];omega
  rw[e]
  exact Zb3 h0 hsel (fun c a w=>hQ c a o.dst v w) hwait hbk' _ listed _ w hC (Region.free_spec h0 hf) (by simpa using hr) (hy _) (hI _ _ _ hS) ih
 | (0,k)::ks,listed,j,a,z,w,hk,hB,hC,hS,h=>by
  have hk0:=hk
  simp only[List.all_cons,ZoY,ZoZ] at hk
  have h':=h
  simp only[ZaV,ZoY] at hB
  obtain⟨⟨⟨hr,hall⟩,hB1⟩,hB2⟩:=hB
  obtain⟨o,h0,h⟩:=h
  have e:((0,k)::ks).length+tl.length+1=(ks.length+tl.length+1)+1:=by simp only[Zo0];omega
  rw[e]
  refine⟨fun h1=>(by rw[h1] at hr;simp at hr),fun i hi=>?_⟩
  rw[Zo3] at hall
  have hik:=hall i hi
  simp only[Bool.or_eq_true,ZoZ] at hik
  by_cases ek:i=k
  ·subst ek
   rcases h with ⟨hw,h⟩ | ⟨hw,h⟩
   ·refine Zby h0 (hw _) (Oper.wp_mono (fun a' w' h''=>?_) (h _ _ _ hS))
    obtain⟨v,j',rfl,hS',hrest⟩:=h''
    refine⟨.inr (hI _ _ _ hS'),?_⟩
    rw[ZE _ _ _ (ZF hs h0 hk.1)]
    exact Zbe hI hsel hQ hbo hof hd hwf hal hst hs ks _ j' _ z w' hk.2 hB2 (hC.step hi) hS' hrest
   ·refine ZgX h0 (hw _) ⟨.inr (hI _ _ _ hS),?_⟩
    rw[ZE _ _ _ (ZF hs h0 hk.1)]
    exact Zbe hI hsel hQ hbo hof hd hwf hal hst hs ks _ j _ z w hk.2 hB2 (hC.step hi) hS h
  ·have e2:i=fl:=by
    rcases hik with h | h
    ·exact Zo4 h ek
    ·exact h
   subst e2
   refine Zby hof (hwf _) (hal _ _ _ ?_)
   have hS':=hst j w hS
   refine⟨.inr (hI _ _ _ hS'),?_⟩
   rw[hd,ZbJ]
   have hp:=Za4 hI hs ((0,k)::ks) j a w.heap.size _ hk0 hS' h'
   have:=ZaI (md:=md) hsel hQ hbo _ _ _ _ hB1 (hC.step hi) (.inl (hI _ _ _ hS')) hp
   have e3:(((0,k)::ks)++tl).length=ks.length+tl.length+1:=by simp only[ZoH,Zo0];omega
   rwa [e3] at this
 | (n+2,k)::ks,listed,j,a,z,w,hk,hB,hC,hS,h=>by
  simp only[List.all_cons,ZoY,ZoZ] at hk
  simp only[ZaV,ZoY] at hB
  obtain⟨⟨⟨hr,hf⟩,hbk⟩,hB'⟩:=hB
  obtain⟨o,v,h0,hy,hrest⟩:=h
  have ih:=Zbe hI hsel hQ hbo hof hd hwf hal hst hs ks (listed.setIfInBounds k true) j (a.put o.dst v) z w hk.2 hB' (hC.step (by simpa using hr)) hS hrest
  rw[<- ZE _ _ _ (ZF hs h0 hk.1)] at ih
  have e:((n+2,k)::ks).length+tl.length+1=(ks.length+tl.length+1)+1:=by simp only[Zo0];omega
  rw[e]
  exact Zc8 h0 hsel (fun c a w=>hQ c a o.dst v w) hbk _ listed _ w (Region.free_spec h0 hf) (by simpa using hr) (hy _) ih
end
section
variable {P:Program} {ops:Array Oper} {Q:Exit->Act->World->Prop} {md:Region.Mode} {S:Nat->Option Nat->Option Nat->World->Prop} {bar:Nat->Bool}
def AnyT (S:Nat->Option Nat->Option Nat->World->Prop) (w:World):Prop:=∃ j g h,S j g h w
def two (d e:Nat) (a:Act) (z y:Value):Act:=(a.put (some d) z).put (some e) y
theorem Zd5 {d e:Nat} {a:Act} {f:Option Tmp} (h1:f≠some d) (h2:f≠some e) (z y v:Value):(two d e a z y).put f v=two d e (a.put f v) z y:=by
 unfold two
 rw[ZE _ _ _ h2,ZE _ _ _ h1]
theorem ZmQ {d e:Nat} (hde:d≠e) {a:Act} (z y v:Value):(two d e a z y).put (some d) v=two d e a v y:=by
 unfold two
 rw[ZE _ _ _ (fun h=>hde (Zou h)),ZbJ]
theorem ZmR {d e:Nat} {a:Act} (z y v:Value):(two d e a z y).put (some e) v=two d e a z v:=by
 unfold two
 rw[ZbJ]
abbrev ptrV (g:Nat):Value:=.pointer (some ⟨g,0,none⟩)
def ZaD (P:Program) (ops:Array Oper) (Q:Exit->Act->World->Prop) (S:Nat->Option Nat->Option Nat->World->Prop) (bar:Nat->Bool) (d e:Nat) (tl:List (Nat×Nat)):List (Nat×Nat)->Nat->Act->Prop
 | [],j,a=>∀ G H w,S j (some G) (some H) w->Zag P ops Q (AnyT S) bar tl (two d e a (ptrV G) (ptrV H)) w
 | (1,i)::ks,j,a=>∃ o v,ops[i]?=some o/\(∀ z y,YieldsIf P ops (AnyT S) o v (two d e a z y))/\ZaD P ops Q S bar d e tl ks j (a.put o.dst v)
 | (0,i)::ks,j,a=>∃ o,ops[i]?=some o/\(((∀ z y,Region.wanted o (yielded ops (two d e a z y).tmps)=true)/\∀ z y g h w,S j g h w->o.wp P (two d e a z y) w (fun a' w'=>∃ v j',a'=(two d e a z y).put o.dst v/\S j' g h w'/\ZaD P ops Q S bar d e tl ks j' (a.put o.dst v)) Q)\/
   ((∀ z y,Region.wanted o (yielded ops (two d e a z y).tmps)=false)/\ZaD P ops Q S bar d e tl ks j (a.put o.dst undef)))
 | (_+2,i)::ks,j,a=>∃ o v,ops[i]?=some o/\(∀ z y,YieldsIf P ops (fun _=>True) o v (two d e a z y))/\ZaD P ops Q S bar d e tl ks j (a.put o.dst v)
theorem ZbP {f1 f2 d e:Nat} (hde:d≠e) (h1:ZaN ops f1 d=true) (h2:ZaN ops f2 e=true) {tl:List (Nat×Nat)} (G:Nat):∀ (ks:List (Nat×Nat)) (j:Nat) (a:Act),(ks.all fun k=>decide (k.2≠f1) && decide (k.2≠f2))=true->ZaD P ops Q S bar d e tl ks j a->
  Zdb P ops Q (AnyT S) (fun j h w=>S j (some G) h w) bar e tl ks j (a.put (some d) (ptrV G))
 | [],j,a,_,h=>fun H w hS=>h G H w hS
 | (1,i)::ks,j,a,hk,h=>by
  simp only[List.all_cons,ZoY,ZoZ] at hk
  obtain⟨o,v,h0,hy,hrest⟩:=h
  refine⟨o,v,h0,fun z=>hy _ z,?_⟩
  rw[ZE _ _ _ (ZF h1 h0 hk.1.1)]
  exact ZbP hde h1 h2 G ks j _ (by simpa using hk.2) hrest
 | (0,i)::ks,j,a,hk,h=>by
  simp only[List.all_cons,ZoY,ZoZ] at hk
  obtain⟨o,h0,h⟩:=h
  refine⟨o,h0,?_⟩
  rcases h with ⟨hw,h⟩ | ⟨hw,h⟩
  ·refine .inl ⟨fun z=>hw _ z,fun z g w hS=>Oper.wp_mono (fun a' w' h'=>?_) (h (ptrV G) z _ _ _ hS)⟩
   obtain⟨v,j',rfl,hS',hrest⟩:=h'
   refine⟨v,j',rfl,hS',?_⟩
   rw[ZE _ _ _ (ZF h1 h0 hk.1.1)]
   exact ZbP hde h1 h2 G ks j' _ (by simpa using hk.2) hrest
  ·refine .inr ⟨fun z=>hw _ z,?_⟩
   rw[ZE _ _ _ (ZF h1 h0 hk.1.1)]
   exact ZbP hde h1 h2 G ks j _ (by simpa using hk.2) h
 | (n+2,i)::ks,j,a,hk,h=>by
  simp only[List.all_cons,ZoY,ZoZ] at hk
  obtain⟨o,v,h0,hy,hrest⟩:=h
  refine⟨o,v,h0,fun z=>hy _ z,?_⟩
  rw[ZE _ _ _ (ZF h1 h0 hk.1.1)]
  exact ZbP hde h1 h2 G ks j _ (by simpa using hk.2) hrest
theorem ZbS {f1 f2 d e:Nat} (hde:d≠e) (h1:ZaN ops f1 d=true) (h2:ZaN ops f2 e=true) {tl:List (Nat×Nat)} (H:Nat):∀ (ks:List (Nat×Nat)) (j:Nat) (a:Act),(ks.all fun k=>decide (k.2≠f1) && decide (k.2≠f2))=true->ZaD P ops Q S bar d e tl ks j a->
  Zdb P ops Q (AnyT S) (fun j g w=>S j g (some H) w) bar d tl ks j (a.put (some e) (ptrV H))
 | [],j,a,_,h=>fun G w hS=>by
  rw[ZE _ _ _ (fun h=>hde (Zou h))]
  exact h G H w hS
 | (1,i)::ks,j,a,hk,h=>by
  simp only[List.all_cons,ZoY,ZoZ] at hk
  obtain⟨o,v,h0,hy,hrest⟩:=h
  refine⟨o,v,h0,fun z=>?_,?_⟩
  ·rw[ZE _ _ _ (fun h=>hde (Zou h))]
   exact hy z _
  rw[ZE _ _ _ (ZF h2 h0 hk.1.2)]
  exact ZbS hde h1 h2 H ks j _ (by simpa using hk.2) hrest
 | (0,i)::ks,j,a,hk,h=>by
  simp only[List.all_cons,ZoY,ZoZ] at hk
  obtain⟨o,h0,h⟩:=h
  refine⟨o,h0,?_⟩
  have hc:∀ z,(a.put (some e) (ptrV H)).put (some d) z=two d e a z (ptrV H):=fun z=>ZE _ _ _ (fun h=>hde (Zou h)) _ _
  rcases h with ⟨hw,h⟩ | ⟨hw,h⟩
  ·refine .inl ⟨fun z=>by rw[hc];exact hw z _,fun z g w hS=>?_⟩
   rw[hc]
   refine Oper.wp_mono (fun a' w' h'=>?_) (h z (ptrV H) _ _ _ hS)
   obtain⟨v,j',rfl,hS',hrest⟩:=h'
   refine⟨v,j',rfl,hS',?_⟩
   rw[ZE _ _ _ (ZF h2 h0 hk.1.2)]
   exact ZbS hde h1 h2 H ks j' _ (by simpa using hk.2) hrest
  ·refine .inr ⟨fun z=>by rw[hc];exact hw z _,?_⟩
   rw[ZE _ _ _ (ZF h2 h0 hk.1.2)]
   exact ZbS hde h1 h2 H ks j _ (by simpa using hk.2) h
 | (n+2,i)::ks,j,a,hk,h=>by
  simp only[List.all_cons,ZoY,ZoZ] at hk
  obtain⟨o,v,h0,hy,hrest⟩:=h
  refine⟨o,v,h0,fun z=>?_,?_⟩
  ·rw[ZE _ _ _ (fun h=>hde (Zou h))]
   exact hy z _
  rw[ZE _ _ _ (ZF h2 h0 hk.1.2)]
  exact ZbS hde h1 h2 H ks j _ (by simpa using hk.2) hrest
def ZbX (md:Region.Mode) (ops:Array Oper) (bar:Nat->Bool) (f1 f2:Nat) (tl:List (Nat×Nat)):List (Nat×Nat)->Array Bool->Bool
 | [],listed=>!(Region.ready md ops listed).isEmpty && (Region.ready md ops listed).all (fun j=>decide (j=f1) || decide (j=f2)) && ZaV md ops bar f2 tl [] (listed.setIfInBounds f1 true) && ZaV md ops bar f1 tl [] (listed.setIfInBounds f2 true)
 | (1,k)::ks,listed=>(Region.ready md ops listed).contains k && Region.free md ops listed k && !bar k && ((List.range ops.size).all fun j=>!bar j || decide (j=k) || ZcG md ops ops.size j k) && ZbX md ops bar f1 f2 tl ks (listed.setIfInBounds k true)
 | (0,k)::ks,listed=>(Region.ready md ops listed).contains k && (Region.ready md ops listed).all (fun j=>decide (j=k) || (decide (j=f1) || decide (j=f2))) && ZaV md ops bar f2 tl ((0,k)::ks) (listed.setIfInBounds f1 true) && ZaV md ops bar f1 tl ((0,k)::ks) (listed.setIfInBounds f2 true) && ZbX md ops bar f1 f2 tl ks (listed.setIfInBounds k true)
 | (_+2,k)::ks,listed=>(Region.ready md ops listed).contains k && Region.free md ops listed k && bar k && ZbX md ops bar f1 f2 tl ks (listed.setIfInBounds k true)
structure Floats (P:Program) (ops:Array Oper) (Q:Exit->Act->World->Prop) (f d:Nat) (ob:Obj):Prop where
 op:∃ o,ops[f]?=some o/\o.dst=some d/\(∀ a:Act,Region.wanted o (yielded ops a.tmps)=true)/\∀ (a:Act) (w:World) (K:Act->World->Prop),K (a.put o.dst (.pointer (some ⟨w.heap.size,0,none⟩))) (w.alloc ob)->o.wp P a w K Q
theorem all1 {f1 f2:Nat} {ks:List (Nat×Nat)} (h:(ks.all fun k=>decide (k.2≠f1) && decide (k.2≠f2))=true):(ks.all fun k=>decide (k.2≠f2))=true:=by
 rw[Zo3] at h ⊢
 intro x hx
 have:=h x hx
 simp only[ZoY] at this
 exact this.2
theorem all2 {f1 f2:Nat} {ks:List (Nat×Nat)} (h:(ks.all fun k=>decide (k.2≠f1) && decide (k.2≠f2))=true):(ks.all fun k=>decide (k.2≠f1))=true:=by
 rw[Zo3] at h ⊢
 intro x hx
 have:=h x hx
 simp only[ZoY] at this
 exact this.1
theorem ZhN (hsel:Region.noSelect ops=true) (hQ:∀ c a o v w,Q (.panic c) (a.put o v) w->Q (.panic c) a w) (hbo:∀ j,ops.size<=j->bar j=false) {f1 f2 d e:Nat} {tl:List (Nat×Nat)} {o1 o2:Obj} (hde:d≠e) (hf1:Floats P ops Q f1 d o1) (hf2:Floats P ops Q f2 e o2)
  (hst1:∀ j h w,S j none h w->S j (some w.heap.size) h (w.alloc o1)) (hst2:∀ j g w,S j g none w->S j g (some w.heap.size) (w.alloc o2)) (hs1:ZaN ops f1 d=true) (hs2:ZaN ops f2 e=true) :
  ∀ (ks:List (Nat×Nat)) (listed:Array Bool) (j:Nat) (a:Act) (z y:Value) (w:World),(ks.all fun k=>decide (k.2≠f1) && decide (k.2≠f2))=true->ZbX md ops bar f1 f2 tl ks listed=true->Zax md ops listed->S j none none w->ZaD P ops Q S bar d e tl ks j a->
   wpJ P md ops Q (AnyT S) bar ((ks.length+tl.length)+2) listed (two d e a z y) w:=by
 obtain⟨q1,hq1,hd1,hw1,hl1⟩:=hf1.op
 obtain⟨q2,hq2,hd2,hw2,hl2⟩:=hf2.op
 have lay1:∀ (ks:List (Nat×Nat)) (listed:Array Bool) (j:Nat) (a:Act) (z y:Value) (w:World),(ks.all fun k=>decide (k.2≠f1) && decide (k.2≠f2))=true->ZaV md ops bar f2 tl ks (listed.setIfInBounds f1 true)=true->Zax md ops listed->f1 ∈ Region.ready md ops listed->S j none none w->ZaD P ops Q S bar d e tl ks j a->
   wpOp P ops Q f1 (fun a' w'=>(bar f1=true\/AnyT S w')/\wpJ P md ops Q (AnyT S) bar ((ks.length+tl.length)+1) (listed.setIfInBounds f1 true) a' w') (two d e a z y) w:=fun ks listed j a z y w hk hB hC hi hS h=>by
  refine Zby hq1 (hw1 _) (hl1 _ _ _ ?_)
  have hS':=hst1 j none w hS
  refine⟨.inr ⟨_,_,_,hS'⟩,?_⟩
  rw[hd1,ZmQ hde]
  exact Zbe (I:=AnyT S) (S:=fun j h w'=>S j (some w.heap.size) h w') (fun j g w h=>⟨_,_,_,h⟩) hsel hQ hbo hq2 hd2 hw2 hl2 (fun j w' h=>hst2 j _ w' h) hs2 ks _ j _ y _ (all1 hk) hB (hC.step hi) hS' (ZbP hde hs1 hs2 _ ks j a hk h)
 have lay2:∀ (ks:List (Nat×Nat)) (listed:Array Bool) (j:Nat) (a:Act) (z y:Value) (w:World),(ks.all fun k=>decide (k.2≠f1) && decide (k.2≠f2))=true->ZaV md ops bar f1 tl ks (listed.setIfInBounds f2 true)=true->Zax md ops listed->f2 ∈ Region.ready md ops listed->S j none none w->ZaD P ops Q S bar d e tl ks j a->
   wpOp P ops Q f2 (fun a' w'=>(bar f2=true\/AnyT S w')/\wpJ P md ops Q (AnyT S) bar ((ks.length+tl.length)+1) (listed.setIfInBounds f2 true) a' w') (two d e a z y) w:=fun ks listed j a z y w hk hB hC hi hS h=>by
  refine Zby hq2 (hw2 _) (hl2 _ _ _ ?_)
  have hS':=hst2 j none w hS
  refine⟨.inr ⟨_,_,_,hS'⟩,?_⟩
  rw[hd2,ZmR]
  unfold two
  rw[<- ZE _ _ _ (fun h=>hde (Zou h))]
  exact Zbe (I:=AnyT S) (S:=fun j g w'=>S j g (some w.heap.size) w') (fun j g w h=>⟨_,_,_,h⟩) hsel hQ hbo hq1 hd1 hw1 hl1 (fun j w' h=>hst1 j _ w' h) hs1 ks _ j _ z _ (all2 hk) hB (hC.step hi) hS' (ZbS hde hs1 hs2 _ ks j a hk h)
 intro ks
 induction ks with
 | nil=>
  intro listed j a z y w hk hB hC hS h
  simp only[ZbX,ZoY] at hB
  obtain⟨⟨⟨hr,hall⟩,hB1⟩,hB2⟩:=hB
  refine⟨fun h1=>(by rw[h1] at hr;simp at hr),fun i hi=>?_⟩
  rw[Zo3] at hall
  have hik:=hall i hi
  simp only[Bool.or_eq_true,ZoZ] at hik
  rcases hik with rfl | rfl
  ·exact lay1 [] listed j a z y w hk hB1 hC hi hS h
  ·exact lay2 [] listed j a z y w hk hB2 hC hi hS h
 | cons k0 ks ih=>
  obtain⟨kd,k⟩:=k0
  intro listed j a z y w hk hB hC hS h
  have hk0:=hk
  simp only[List.all_cons,ZoY,ZoZ] at hk
  have hk2:(ks.all fun k=>decide (k.2≠f1) && decide (k.2≠f2))=true:=by simpa using hk.2
  have e0:((kd,k)::ks).length+tl.length+2=(ks.length+tl.length+2)+1:=by simp only[Zo0];omega
  match kd,hB,h,e0,hk0 with
  | 1,hB,h,e0,hk0=>
   simp only[ZbX,ZoY] at hB
   obtain⟨⟨⟨⟨hr,hf⟩,hbk⟩,hw⟩,hB'⟩:=hB
   obtain⟨o,v,h0,hy,hrest⟩:=h
   have hbk':bar k=false:=by simpa using hbk
   have hwait:Zc6 md ops bar k:=fun j hj hne=>by
    have hjl:j<ops.size:=by
     rcases Zow j ops.size with h' | h'
     ·exact h'
     ·rw[hbo j h'] at hj;cases hj
    rw[Zo3] at hw
    have:=hw j (List.mem_range.2 hjl)
    rw[hj] at this
    simpa[hne] using this
   have ih':=ih (listed.setIfInBounds k true) j (a.put o.dst v) z y w hk2 hB' (hC.step (by simpa using hr)) hS hrest
   rw[<- Zd5 (ZF hs1 h0 hk.1.1) (ZF hs2 h0 hk.1.2)] at ih'
   rw[e0]
   exact Zb3 h0 hsel (fun c a w=>hQ c a o.dst v w) hwait hbk' _ listed _ w hC (Region.free_spec h0 hf) (by simpa using hr) (hy _ _) ⟨_,_,_,hS⟩ ih'
  | 0,hB,h,e0,hk0=>
   have h':=h
   simp only[ZbX,ZoY] at hB
   obtain⟨⟨⟨⟨hr,hall⟩,hB1⟩,hB2⟩,hB3⟩:=hB
   obtain⟨o,h0,hh⟩:=h
   rw[e0]
   refine⟨fun h1=>(by rw[h1] at hr;simp at hr),fun i hi=>?_⟩
   rw[Zo3] at hall
   have hik:=hall i hi
   simp only[Bool.or_eq_true,ZoZ] at hik
   have e3:((0,k)::ks).length+tl.length+1=ks.length+tl.length+2:=by simp only[Zo0];omega
   by_cases ek:i=k
   ·subst ek
    rcases hh with ⟨hw,hh⟩ | ⟨hw,hh⟩
    ·refine Zby h0 (hw _ _) (Oper.wp_mono (fun a' w' h''=>?_) (hh _ _ _ _ _ hS))
     obtain⟨v,j',rfl,hS',hrest⟩:=h''
     refine⟨.inr ⟨_,_,_,hS'⟩,?_⟩
     rw[Zd5 (ZF hs1 h0 hk.1.1) (ZF hs2 h0 hk.1.2)]
     exact ih _ j' _ z y w' hk2 hB3 (hC.step hi) hS' hrest
    ·refine ZgX h0 (hw _ _) ⟨.inr ⟨_,_,_,hS⟩,?_⟩
     rw[Zd5 (ZF hs1 h0 hk.1.1) (ZF hs2 h0 hk.1.2)]
     exact ih _ j _ z y w hk2 hB3 (hC.step hi) hS hh
   ·rcases hik with h2 | h2 | h2
    ·exact Zo4 h2 ek
    ·subst h2
     have:=lay1 ((0,k)::ks) listed j a z y w hk0 hB1 hC hi hS h'
     rwa [e3] at this
    ·subst h2
     have:=lay2 ((0,k)::ks) listed j a z y w hk0 hB2 hC hi hS h'
     rwa [e3] at this
  | n+2,hB,h,e0,hk0=>
   simp only[ZbX,ZoY] at hB
   obtain⟨⟨⟨hr,hf⟩,hbk⟩,hB'⟩:=hB
   obtain⟨o,v,h0,hy,hrest⟩:=h
   have ih':=ih (listed.setIfInBounds k true) j (a.put o.dst v) z y w hk2 hB' (hC.step (by simpa using hr)) hS hrest
   rw[<- Zd5 (ZF hs1 h0 hk.1.1) (ZF hs2 h0 hk.1.2)] at ih'
   rw[e0]
   exact Zc8 h0 hsel (fun c a w=>hQ c a o.dst v w) hbk _ listed _ w (Region.free_spec h0 hf) (by simpa using hr) (hy _ _) ih'
def Zi4 (l:List Oper) (f1 f2 d e:Nat) (tl:List (Nat×Nat)) (ks:List (Nat×Nat)) (bar:Nat->Bool):Bool:=
 Region.noSelect l.toArray && decide ((ks.length+tl.length)+2=l.length) && ZbX .any l.toArray bar f1 f2 tl ks (Array.replicate l.toArray.size false) && ZaN l.toArray f1 d && ZaN l.toArray f2 e && decide (d≠e) && ks.all fun k=>decide (k.2≠f1) && decide (k.2≠f2)
theorem ZmU {d e:Nat} (a:Act):two d e a (a.tmps.getD d undef) (a.tmps.getD e undef)=a:=by
 unfold two
 rw[ZdH,ZdH]
theorem ZeY {id:Nat} {a:Act} {w:World} {l:List Oper} (f1 f2 d e:Nat) (tl:List (Nat×Nat)) (ks:List (Nat×Nat)) (S:Nat->Option Nat->Option Nat->World->Prop) (bar:Nat->Bool) {o1 o2:Obj} (hm:P.follows .mixedOrders=true)
  (hB:Zi4 l f1 f2 d e tl ks bar=true) (hbo:∀ j,l.length<=j->bar j=false) (hQ:∀ c a o v w,Q (.panic c) (a.put o v) w->Q (.panic c) a w) (hf1:Floats P l.toArray Q f1 d o1) (hf2:Floats P l.toArray Q f2 e o2)
  (hst1:∀ j h w,S j none h w->S j (some w.heap.size) h (w.alloc o1)) (hst2:∀ j g w,S j g none w->S j g (some w.heap.size) (w.alloc o2)) (hS:S 0 none none w.drew)
  (H:ZaD P l.toArray Q S bar d e tl ks 0 a):(Code.region id l.toArray true).wp P Q a w:=by
 simp only[Zi4,ZoY,ZoZ] at hB
 obtain⟨⟨⟨⟨⟨⟨hsel,hn⟩,hb⟩,hs1⟩,hs2⟩,hde⟩,hk⟩:=hB
 have:=ZbE _ _ _ _ (ZhN (md:=.any) hsel hQ (fun j hj=>hbo j (by simpa using hj)) hde hf1 hf2 hst1 hst2 hs1 hs2 ks _ 0 a (a.tmps.getD d undef) (a.tmps.getD e undef) w.drew hk hb Zax.start hS H)
 rw[hn,ZmU] at this
 exact wp_region_any hm (by simpa using this)
theorem Zce {i d e j:Nat} {tl:List (Nat×Nat)} {o:Oper} {ks:List (Nat×Nat)} {a:Act} (v:Value) (ho:ops[i]?=some o) (hw:∀ z y,Region.wanted o (yielded ops (two d e a z y).tmps)=true) (hv:∀ z y j g h w,S j g h w->(execOp (two d e a z y).eval o).run P w=.ok (.value v) w)
  (h:ZaD P ops Q S bar d e tl ks j (a.put o.dst v)):ZaD P ops Q S bar d e tl ((1,i)::ks) j a:=⟨o,v,ho,fun z y=>.inl ⟨hw z y,fun w ⟨j,g,h,hS⟩=>hv z y j g h w hS⟩,h⟩
theorem ZcY {i d e j:Nat} {tl:List (Nat×Nat)} {o:Oper} {ks:List (Nat×Nat)} {a:Act} (f:FuncId) (args:Array Value) (ho:ops[i]?=some o) (hw:∀ z y,Region.wanted o (yielded ops (two d e a z y).tmps)=true)
  (he:∀ z y w,(execOp (two d e a z y).eval o).run P w=.ok (.enter f args) w)
  (h:∀ g h w,S j g h w->Calls P f args w fun e' w'=>(∃ v,e'=.returned v/\S (j+1) g h w'/\ZaD P ops Q S bar d e tl ks (j+1) (a.put o.dst v))\/∃ c,e'=.panicked c/\∀ z y,Q (.panic c) (two d e a z y) w') :
  ZaD P ops Q S bar d e tl ((0,i)::ks) j a:=⟨o,ho,.inl ⟨hw,fun z y g h' w hS=>by
   unfold Oper.wp
   rw[he z y w,Oper.upon_enter]
   refine(h g h' w hS).mono fun e' w' h=>?_
   rcases h with ⟨v,rfl,h1,h2⟩ | ⟨c,rfl,h1⟩
   ·exact⟨v,_,rfl,h1,h2⟩
   ·exact h1 _ _⟩⟩
theorem Zfg {i d e j:Nat} {tl:List (Nat×Nat)} {o:Oper} {ks:List (Nat×Nat)} {a:Act} (f:FuncId) (args:Array Value) (ho:ops[i]?=some o) (hw:∀ z y,Region.wanted o (yielded ops (two d e a z y).tmps)=true)
  (he:∀ z y w,(execOp (two d e a z y).eval o).run P w=.ok (.enter f args) w)
  (h:∀ g h w,S j g h w->Calls P f args w fun e' w'=>∃ v j',e'=.returned v/\S j' g h w'/\ZaD P ops Q S bar d e tl ks j' (a.put o.dst v)) :
  ZaD P ops Q S bar d e tl ((0,i)::ks) j a:=⟨o,ho,.inl ⟨hw,fun z y g h' w hS=>by
   unfold Oper.wp
   rw[he z y w,Oper.upon_enter]
   refine(h g h' w hS).mono fun e' w' h=>?_
   obtain⟨v,j',rfl,h1,h2⟩:=h
   exact⟨v,j',rfl,h1,h2⟩⟩⟩
theorem ZgP {d e j:Nat} {tl:List (Nat×Nat)} {a:Act} (h:∀ G H w,S j (some G) (some H) w->Zag P ops Q (AnyT S) bar tl (two d e a (ptrV G) (ptrV H)) w):ZaD P ops Q S bar d e tl [] j a:=h
end
structure Laid2 (w1:World) (oA oB:Obj) (g h:Option Nat) (V:World):Prop where
 base:Below w1.heap.size w1 V
 a:∀ G,g=some G->w1.heap.size<=G/\V.heap[G]?=some oA
 b:∀ H,h=some H->w1.heap.size<=H/\V.heap[H]?=some oB
 ne:∀ G H,g=some G->h=some H->G≠H
theorem Laid2.start (w1:World) (oA oB:Obj):Laid2 w1 oA oB none none w1.drew:=⟨(Zoq _ w1).drew,fun G h=>(by cases h),fun G h=>(by cases h),fun G H h=>(by cases h)⟩
theorem Laid2.step {w1:World} {oA oB:Obj} {g h:Option Nat} {V V':World} (L:Laid2 w1 oA oB g h V) (hb:Below V.heap.size V V'):Laid2 w1 oA oB g h V':=by
 refine⟨L.base.trans (hb.mono L.base.size),fun G hG=>?_,fun H hH=>?_,L.ne⟩
 ·obtain⟨h1,h2⟩:=L.a G hG
  exact⟨h1,(hb.block G (Zo9 h2)).trans h2⟩
 ·obtain⟨h1,h2⟩:=L.b H hH
  exact⟨h1,(hb.block H (Zo9 h2)).trans h2⟩
theorem Laid2.lay1 {w1:World} {oA oB:Obj} {h:Option Nat} {V:World} (L:Laid2 w1 oA oB none h V):Laid2 w1 oA oB (some V.heap.size) h (V.alloc oA):=by
 have hb:Below V.heap.size V (V.alloc oA):=(Zoq _ V).alloc Zpf _
 have L2:=L.step hb
 refine⟨L2.base,fun G hG=>?_,L2.b,fun G H hG hH=>?_⟩
 ·obtain rfl:=Zou hG
  exact⟨L.base.size,Zot V oA⟩
 ·obtain rfl:=Zou hG
  have:=(Zop.1 (L.b H hH).2).1
  omega
theorem Laid2.lay2 {w1:World} {oA oB:Obj} {g:Option Nat} {V:World} (L:Laid2 w1 oA oB g none V):Laid2 w1 oA oB g (some V.heap.size) (V.alloc oB):=by
 have hb:Below V.heap.size V (V.alloc oB):=(Zoq _ V).alloc Zpf _
 have L2:=L.step hb
 refine⟨L2.base,L2.a,fun H hH=>?_,fun G H hG hH=>?_⟩
 ·obtain rfl:=Zou hH
  exact⟨L.base.size,Zot V oB⟩
 ·obtain rfl:=Zou hH
  have:=(Zop.1 (L.a G hG).2).1
  omega
structure SurW (b Bw Bi Bc Bq i sb so N sc:Nat) (s1 s2 c1 c2:ByteArray) (V:World):Prop where
 pw:V.cell? ⟨Bw,0,none⟩=some (.pointer (some ⟨b,0,none⟩))
 pi:V.cell? ⟨Bi,0,none⟩=some (.int .i64 i)
 pc:V.cell? ⟨Bc,0,none⟩=some (.pointer (some ⟨Bq,0,none⟩))
 ps:V.cell? ⟨b,0,none⟩=some (.slice (some ⟨sb,so,none⟩) N sc)
 v1:V.cell? ⟨sb,so+i*3,none⟩=some (.string s1)
 v2:V.cell? ⟨sb,so+i*3+1,none⟩=some (.string s2)
 q1:V.cell? ⟨Bq,0,none⟩=some (.string c1)
 q2:V.cell? ⟨Bq,1,none⟩=some (.string c2)
 tabs:Tabs V
 eff:EffZ V
noncomputable def posR (x:Rat):Rat:=if x<=0 then 0 else x
theorem Ziu {b Bw Bi Bc Bq i sb so N sc:Nat} {s1 s2 c1 c2:ByteArray} {wq cq hq kq:Rat} {bd:BB} {w:World} (hF:∀ V,Below w.heap.size w V->SurW b Bw Bi Bc Bq i sb so N sc s1 s2 c1 c2 V) (hi:i<N) (hN:N<=24) (hsc:N<=sc/\sc<=9223372036854775807)
  (hw:IsP wq s1 s2) (hc:IsP cq c1 c2) (hh:IsP hq bd.2.1 bd.2.2) (hk:IsP kq bd.1.1 bd.1.2) (zw:Sz 9 wq) (zc:Sz 309 cq) (zh:Sz 18 hq) (zk:Sz 18 kq) :
  Calls Tryz.prog 172 #[bV bd,.pointer (some ⟨Bw,0,none⟩),.pointer (some ⟨Bi,0,none⟩),.pointer (some ⟨Bc,0,none⟩)] w (fun e w'=>∃ x y,e=.returned (pV x y)/\IsP (posR (wq*hq-cq*kq)) x y/\Below w.heap.size w w'):=by
 obtain⟨⟨k1,k2⟩,h1,h2⟩:=bd
 dsimp only at hh hk
 obtain⟨xa,ya,hxa⟩:=Zaa (Rat.mul_nonneg hw.nn hh.nn) (Sz.mul hw.nn hh.nn zw zh) Zd Zd
 obtain⟨xb,yb,hxb⟩:=Zaa (Rat.mul_nonneg hc.nn hk.nn) (Sz.mul hc.nn hk.nn zc zk) Zd Zd
 have hsub:wq*hq-cq*kq<=0\/∃ x y,IsP (wq*hq-cq*kq) x y:=by
  by_cases h:wq*hq-cq*kq<=0
  ·exact .inl h
  ·refine .inr (Zaa Zk (Sz.sub hxa.nn hxb.nn Zk (Sz.mul hw.nn hh.nn zw zh) (Sz.mul hc.nn hk.nn zc zk)) Zd Zd)
 have HSUB:=Zpe hsub
 have HXA:=Zpe hxa
 have HXB:=Zpe hxb
 have HW:=Zpe hw
 have HC:=Zpe hc
 have HH:=Zpe hh
 have HK:=Zpe hk
 obtain⟨G,hG⟩:=Zpg w.heap.size
 obtain⟨w1,hw1⟩:=Zpg ((w.alloc (bObj ((k1,k2),h1,h2))).alloc (pObj Zpa Zpa))
 have hb1:Below w.heap.size w w1:=by rw[<- hw1];exact((Zoq _ w).alloc Zpf _).alloc Zc _
 have g0:w1.heap[G]?=some (bObj ((k1,k2),h1,h2)):=by
  rw[<- hw1,<- hG]
  exact(ZoG _ _ _ Zc).trans (Zot w _)
 have g1:w1.heap[G+1]?=some (pObj Zpa Zpa):=by
  rw[<- hw1,<- hG]
  have:=Zot (w.alloc (bObj ((k1,k2),h1,h2))) (pObj Zpa Zpa)
  rwa [ZoP] at this
 have HFV:Hid (∀ V,Below w1.heap.size w1 V->SurW b Bw Bi Bc Bq i sb so N sc s1 s2 c1 c2 V/\V.heap[G]?=some (bObj ((k1,k2),h1,h2))/\V.heap[G+1]?=some (pObj Zpa Zpa)):=fun V hV=>
  ⟨hF V (hb1.trans (hV.mono hb1.size)),(hV.block _ (Zo9 g0)).trans g0,(hV.block _ (Zo9 g1)).trans g1⟩
 have HB1:=Zpe hb1
 have HGG:=Zpe hG
 have i0':(0:Int)<=(i:Int):=Za
 have i1':(i:Int)<(N:Int):=Za
 have hG1:G+1<w1.heap.size:=(Zo9 g1)
 clear hF hw hc hh hk zw zc zh zk hxa hxb hb1 hsub g0 g1
 go_enter Tryz.func172,Tryz.ntmps172
 go_wp2_with fail
 try rw[hw1]
 try rw[hG]
 clear hw1 hG
 refine ZeY 24 25 6 7 [(0,26),(0,27)] [(1,0),(1,1),(1,2),(1,3),(1,4),(1,5),(1,6),(1,7),(1,8),(1,9),(1,10),(1,15),(1,16),(1,17),(1,18),(1,19),(0,11),(1,12),(1,13),(0,14),(0,20),(1,21),(1,22),(0,23)] (fun _ g h V=>Laid2 w1 (pObj Zpa Zpa) (pObj Zpa Zpa) g h V) (fun i=>i==26 || i==27)
  Zb Zb (fun j hj=>by have h:28<=j:=hj;simp;omega) Zi
  ⟨_,rfl,rfl,fun _=>rfl,fun a V K hK=>by go_simp;exact hK⟩ ⟨_,rfl,rfl,fun _=>rfl,fun a V K hK=>by go_simp;exact hK⟩ (fun j h V L=>L.lay1) (fun j g V L=>L.lay2) (Laid2.start _ _ _) ?_
 iterate 16
  refine Zce _ rfl (fun z y=>rfl) (fun z y j g h w' hS=>by obtain⟨⟨e0,e1,e2,e3,e4,e5,e6,e7,_,_⟩,hb,_⟩:=HFV.out _ hS.base;have d0:=Zn hb 0 (v:=.string k1) rfl;have d1:=Zn hb 1 (v:=.string k2) rfl;have d2:=Zn hb 2 (v:=.string h1) rfl;have d3:=Zn hb 3 (v:=.string h2) rfl;simp only[two,Act.put,Zm];exact Ze) ?_
  simp only[Act.put,Zl]
 refine ZcY 119 _ rfl (fun z y=>rfl) (fun z y w'=>by simp only[two,Act.put,Zm];exact Zf) (fun g h V hS=>?_)
 refine(ZdL HW.out HH.out HXA.out rfl _ (HFV.out _ hS.base).1.tabs).mono ?_
 rintro e V' ⟨rfl,hb⟩
 refine .inl ⟨_,rfl,hS.step hb,?_⟩
 clear hb hS
 simp only[Act.put,Zl]
 iterate 2
  refine Zce _ rfl (fun z y=>rfl) (fun z y j g h w' hS=>by skip;simp only[two,Act.put,Zm];exact Ze) ?_
  simp only[Act.put,Zl]
 refine ZcY 103 _ rfl (fun z y=>rfl) (fun z y w'=>by simp only[two,Act.put,Zm];exact Zf) (fun g h V hS=>?_)
 refine(ZaE xa ya _).mono ?_
 rintro e V' ⟨rfl,hb⟩
 refine .inl ⟨_,rfl,hS.step hb,?_⟩
 clear hb hS
 simp only[Act.put,Zl]
 refine ZcY 119 _ rfl (fun z y=>rfl) (fun z y w'=>by simp only[two,Act.put,Zm];exact Zf) (fun g h V hS=>?_)
 refine(ZdL HC.out HK.out HXB.out rfl _ (HFV.out _ hS.base).1.tabs).mono ?_
 rintro e V' ⟨rfl,hb⟩
 refine .inl ⟨_,rfl,hS.step hb,?_⟩
 clear hb hS
 simp only[Act.put,Zl]
 iterate 2
  refine Zce _ rfl (fun z y=>rfl) (fun z y j g h w' hS=>by skip;simp only[two,Act.put,Zm];exact Ze) ?_
  simp only[Act.put,Zl]
 refine ZcY 103 _ rfl (fun z y=>rfl) (fun z y w'=>by simp only[two,Act.put,Zm];exact Zf) (fun g h V hS=>?_)
 refine(ZaE xb yb _).mono ?_
 rintro e V' ⟨rfl,hb⟩
 refine .inl ⟨_,rfl,hS.step hb,?_⟩
 clear hb hS
 simp only[Act.put,Zl]
 refine ZgP fun g h V hS=>?_
 simp only[two]
 simp only[Act.put,Zl]
 obtain⟨hg1,hg2⟩:=hS.a _ rfl
 obtain⟨hh1,hh2⟩:=hS.b _ rfl
 have hne:=hS.ne _ _ rfl rfl
 have HLB:Zo8 w1 V:=hS.base
 clear hS
 have c0:=Zn hg2 0 (v:=.string Zpa) rfl
 have c1':=Zn hg2 1 (v:=.string Zpa) rfl
 have f0:=Zo hg2 0
 have f1:=Zo hg2 1
 refine ZB rfl rfl fun K hK=>?_
 go_simp
 obtain⟨V1,hV1⟩:=Zpg ((V.setCell ⟨g,0,none⟩ (.string xa)).setCell ⟨g,1,none⟩ (.string ya))
 have hg3:V1.heap[g]?=some (pObj xa ya):=by rw[<- hV1];exact Zah hg2 _ _
 have hh3:V1.heap[h]?=some (pObj Zpa Zpa):=by rw[<- hV1];exact((Zos _ _ _ _ (by show h≠g;exact fun e=>hne e.symm)).trans (Zos _ _ _ _ (by show h≠g;exact fun e=>hne e.symm))).trans hh2
 have HLB1:Zo8 w1 V1:=by rw[<- hV1];exact Zs HLB.out hg1 _ _
 rw[hV1]
 refine hK _ _ (.inl rfl) ?_
 clear hK K hV1 c0 c1' f0 f1 hg2 hh2 HLB
 have c0:=Zn hh3 0 (v:=.string Zpa) rfl
 have c1':=Zn hh3 1 (v:=.string Zpa) rfl
 have f0:=Zo hh3 0
 have f1:=Zo hh3 1
 refine ZB rfl rfl fun K hK=>?_
 go_simp
 obtain⟨V2,hV2⟩:=Zpg ((V1.setCell ⟨h,0,none⟩ (.string xb)).setCell ⟨h,1,none⟩ (.string yb))
 have hh4:V2.heap[h]?=some (pObj xb yb):=by rw[<- hV2];exact Zah hh3 _ _
 have hg4:V2.heap[g]?=some (pObj xa ya):=by rw[<- hV2];exact((Zos _ _ _ _ (by show g≠h;exact hne)).trans (Zos _ _ _ _ (by show g≠h;exact hne))).trans hg3
 have HLB2:Zo8 w1 V2:=by rw[<- hV2];exact Zs HLB1.out hh1 _ _
 rw[hV2]
 refine hK _ _ (.inl rfl) ?_
 clear hK K hV2 c0 c1' f0 f1 hg3 hh3 HLB1
 have HGH:=Zpe (Zo5 hg4 hh4)
 have a0:=Zn hg4 0 (v:=.string xa) rfl
 have a1:=Zn hg4 1 (v:=.string ya) rfl
 have b0:=Zn hh4 0 (v:=.string xb) rfl
 have b1:=Zn hh4 1 (v:=.string yb) rfl
 clear hg4 hh4
 refine ZD ?_
 obtain⟨n,hn⟩:=Zpg (sgnR (wq*hq) (cq*kq))
 go_wp2_with fail
 refine(ZbH HXA.out HXB.out hn _).mono ?_
 rintro e V3 ⟨rfl,hb⟩
 have HLB3:Zo8 w1 V3:=HLB2.out.trans (hb.mono HLB2.out.size)
 have HG3:Hid (V3.heap[g]?=some (pObj xa ya)/\V3.heap[h]?=some (pObj xb yb)):=⟨(hb.block _ (Zo9 HGH.out.1)).trans HGH.out.1,(hb.block _ (Zo9 HGH.out.2)).trans HGH.out.2⟩
 clear hb HGH a0 a1 b0 b1 HLB2
 have HF3:=Zpe (HFV.out _ HLB3.out)
 by_cases hle:wq*hq<=cq*kq
 ·have hge:n<=0:=by rw[<- hn];exact Int.not_lt.1 (ZbZ hle)
  have HPO:Hid (posR (wq*hq-cq*kq)=0):=by show _=_;unfold posR;rw[if_pos Zk]
  obtain⟨⟨_,_,_,_,_,_,_,_,_,⟨z0,z1⟩⟩,_,hr⟩:=HF3.out
  have r0:=Zn hr 0 (v:=.string Zpa) rfl
  have r1:=Zn hr 1 (v:=.string Zpa) rfl
  have f0:=Zo hr 0
  have f1:=Zo hr 1
  have HR:=Zpe hr
  clear hn hle hr HF3
  go_wp2
  obtain⟨q0,q1⟩:=Zu HR.out (.string ⟨#[48]⟩) (.string ⟨#[49]⟩)
  refine Zor (v:=pV ⟨#[48]⟩ ⟨#[49]⟩) (by simp[results,Tryz.f172,go_sem,q0,q1]) rfl ⟨_,_,rfl,by rw[HPO.out];exact Zad,Zs (HB1.out.trans (HLB3.out.mono HB1.out.size)) (by have:=HGG.out;omega) _ _⟩
 ·have hge:¬ n<=0:=by rw[<- hn];exact Int.not_le.2 (Zb2 hle)
  have hpos:¬ wq*hq-cq*kq<=0:=Zk
  obtain⟨xs,ys,hxs⟩:=HSUB.out.resolve_left hpos
  have HXS:=Zpe hxs
  have HPO:Hid (posR (wq*hq-cq*kq)=wq*hq-cq*kq):=by show _=_;unfold posR;rw[if_neg hpos]
  have a0:=Zn HG3.out.1 0 (v:=.string xa) rfl
  have a1:=Zn HG3.out.1 1 (v:=.string ya) rfl
  have b0:=Zn HG3.out.2 0 (v:=.string xb) rfl
  have b1:=Zn HG3.out.2 1 (v:=.string yb) rfl
  clear hn hle hpos hxs
  go_wp2_with fail
  refine(ZdT HXA.out HXB.out HXS.out rfl _ HF3.out.1.tabs).mono ?_
  rintro e V4 ⟨rfl,hb⟩
  have HLB4:Zo8 w1 V4:=HLB3.out.trans (hb.mono HLB3.out.size)
  clear hb a0 a1 b0 b1 HLB3 HF3 HG3
  go_wp2_with fail
  refine(ZaE xs ys _).mono ?_
  rintro e V5 ⟨rfl,hb⟩
  have HLB5:Zo8 w1 V5:=HLB4.out.trans (hb.mono HLB4.out.size)
  have HR:=Zpe (HFV.out _ HLB5.out).2.2
  have r0:=Zn HR.out 0 (v:=.string Zpa) rfl
  have r1:=Zn HR.out 1 (v:=.string Zpa) rfl
  have f0:=Zo HR.out 0
  have f1:=Zo HR.out 1
  clear hb HLB4
  go_wp2
  obtain⟨q0,q1⟩:=Zu HR.out (.string xs) (.string ys)
  refine Zor (v:=pV xs ys) (by simp[results,Tryz.f172,go_sem,q0,q1]) rfl ⟨_,_,rfl,by rw[HPO.out];exact HXS.out,Zs (HB1.out.trans (HLB5.out.mono HB1.out.size)) (by have:=HGG.out;omega) _ _⟩
end Go.Proofs.YtmpaflidennnoaaGreatDoor
namespace Go.Proofs.YtmpaflidennnoaaGreatDoor
open Go.RowKit Go.Shelf
attribute [local go_sem ↓] Go.wp_at_zero Go.wp_at_succ
attribute [local go_sem] Oper.semAt_some
abbrev cuO (v:Value):Obj:=.cells #[v] 72
theorem ZkK (p:Option Addr) (n c:Nat) (w:World):Calls Tryz.prog 171 #[.slice p n c] w (fun e w'=>e=.returned (.func (.func 206) #[] #[.pointer (some ⟨w.heap.size,0,none⟩)])/\w'=w.alloc (cuO (.slice p n c))):=by
 have hmf:∀ (fn:Fn) (first cap:Array Value) (w:World),(Instr.makeFunc fn first cap).run Tryz.prog w=.ok (.func fn first cap) w:=fun _ _ _ _=>rfl
 go_enter Tryz.func171,Tryz.ntmps171
 go_wp2
 exact Zor (by simp[results,Tryz.f171,go_sem]) rfl ⟨rfl,rfl⟩
def ValF (bs:List BB) (n Bv cb co c:Nat) (w:World):Prop:=
 w.cell? ⟨Bv,0,none⟩=some (.slice (some ⟨cb,co,none⟩) n c)/\∀ k,k<n->w.cell? ⟨cb,co+k*4,none⟩=some (.string (bAt bs k).1.1)/\w.cell? ⟨cb,co+k*4+1,none⟩=some (.string (bAt bs k).1.2)/\w.cell? ⟨cb,co+k*4+2,none⟩=some (.string (bAt bs k).2.1)/\w.cell? ⟨cb,co+k*4+3,none⟩=some (.string (bAt bs k).2.2)
theorem Zjl {bs:List BB} {n Bv cb co c:Nat} {S:Nat->Prop} {w0:World} (hn:n<=64) (hc:n<=c/\c<=9223372036854775807) (hF:∀ V,Keeps S w0 V->ValF bs n Bv cb co c V) :
  Iter Tryz.prog 206 #[.pointer (some ⟨Bv,0,none⟩)] (fun k=>#[bV (bAt bs k)]) n S (fun _=>True) w0:=by
 intro q l J Jx W hK hJ hJx hY h0
 have HFF:Hid (∀ V,Keeps S W V->ValF bs n Bv cb co c V):=fun V hV=>hF V (hK.trans hV)
 have HY:=Zpe hY
 have HJ:=Zpe hJ
 clear hF hY hJ hK
 have a0:=(HFF.out W (Keeps.refl _ _)).1
 refine callsIn_of_wp Tryz.func206 rfl trivial ?_ rfl
 simp only[Tryz.ntmps206,Nat.reduceAdd,Nat.reduceSub,Zpd]
 gi_wp2
 clear a0
 gi_loopw [7] (fun iv wr=>∃ u:Nat,iv=.int .i64 u/\u<=n/\J u wr/\Hid (Keeps S W wr)) (fun iv _=>n-(intOf iv).toNat)
 case atStart=>exact⟨0,rfl,ZoD _,h0,Keeps.refl _ _⟩
 case round=>
  obtain⟨u,rfl,hu,hJs,HN⟩:=hrel
  by_cases hlt:u<n
  ·obtain⟨b0,b1,b2,b3⟩:=(HFF.out wr HN.out).2 u hlt
   have i0':(0:Int)<=(u:Int):=Za
   have i1':(u:Int)<(n:Int):=Za
   obtain⟨bd,hbd⟩:=Zpg (bAt bs u)
   rw[hbd] at b0 b1 b2 b3
   obtain⟨H,hH⟩:=Zpg wr.heap.size
   obtain⟨V,hV⟩:=Zpg (wr.alloc (bObj bd))
   have hk:∀ S':Nat->Prop,Keeps S' wr V:=fun S'=>by rw[<- hV];exact(Keeps.refl _ wr).alloc _
   have hJV:=HJ.out _ _ _ hJs (hk _)
   have HNV:=Zpe (HN.out.trans (hk _))
   have hy:=HY.out u V hlt hJV
   rw[hbd] at hy
   obtain⟨fn,tmps,assign,body,hy,hRR⟩:=hy
   have hn:V.heap[H]?=some (bObj bd):=by rw[<- hV,<- hH];exact Zot wr _
   have c0:=Zn hn 0 (v:=.string bd.1.1) rfl
   have c1:=Zn hn 1 (v:=.string bd.1.2) rfl
   have c2:=Zn hn 2 (v:=.string bd.2.1) rfl
   have c3:=Zn hn 3 (v:=.string bd.2.2) rfl
   clear hk hn hbd hJV
   gi_wp2
   refine⟨(fun h=>by cases h),hRR.mono ?_⟩
   rintro e W3 (⟨rfl,hJ3,hk3⟩ | ⟨rfl,hJx3⟩)
   ·have HN3:=Zpe (HNV.out.trans hk3)
    clear hk3 hy hRR
    gi_wp2
    go_roundw
    case rel=>exact⟨u+1,by go_num,Za,hJ3,HN3⟩
    case measure=>exact Zj
   ·clear hy hRR
    gi_wp2
    refine Zor (results_none rfl _ _ _) rfl ?_
    exact⟨⟨_,rfl⟩,.inr ⟨_,hlt,hJx3⟩⟩
  ·obtain rfl:u=n:=Za
   gi_wp2
   go_end0
   exact⟨⟨_,rfl⟩,.inl hJs⟩
end Go.Proofs.YtmpaflidennnoaaGreatDoor
