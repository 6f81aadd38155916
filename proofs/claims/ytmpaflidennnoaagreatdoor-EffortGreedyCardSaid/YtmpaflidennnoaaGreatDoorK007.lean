/- The parts REGreedy, ESame, LawEGreedy, LawEGreedyLift of a proof, put together by program (merge7.py). -/
import Derived.Test.YtmpaflidennnoaaGreatDoorK005
import Derived.Test.YtmpaflidennnoaaGreatDoorK006
import Derived.Test.YtmpaflidennnoaaGreatDoorH31
set_option maxRecDepth 100000
set_option maxHeartbeats 8000000
set_option linter.unusedVariables false
set_option linter.unusedSimpArgs false
namespace Go.Proofs.YtmpaflidennnoaaGreatDoor
open Go.RowKit Go.Shelf
attribute [local go_sem ↓] Go.wp_at_zero Go.wp_at_succ
theorem Best.skips {g:Nat→Rat} {n:Nat} {r:Option Nat} {m:Rat} (h:Best g n r m):∀ d,(∀ k,n≤k→k<n+d→g k≤m)→Best g (n+d) r m
 | 0,_=>h
 | d+1,hz=>(h.skips d fun k h1 h2=>hz k h1 (by omega)).keep (hz (n+d) (by omega) (by omega))
def Ze3 (N:Nat):Option Nat→Int
 | none=>-1
 | some j=>(j/N:Nat)
def ZfS (N:Nat):Option Nat→Int
 | none=>0
 | some j=>(j % N:Nat)
theorem PlanO.toWb {p:List (List Int)} {N m b:Nat} {pv:Value} {gq gc:Nat→Nat} {w:World} (h:PlanO p N m m pv gq gc w) (h0:0<p.length) (h1:pv.ownBlock≠some b) (h2:∀ u,u<p.length→gq u≠b) :
  ∃ pb pc,pv=.slice (some ⟨pb,0,none⟩) p.length pc∧PlanW p N b pv pb 0 pc gq (fun _=>0) gc w:=by
 obtain⟨pb,pc,rfl,hv,hc,ha,_,_⟩:=h.toW h0
 exact⟨pb,pc,rfl,rfl,hc,ha,fun e=>h1 (by rw[e];rfl),h2⟩
theorem Zij {N u i:Nat} (hi:i<N):Ze3 N (some (u*N+i))=(u:Nat)∧ZfS N (some (u*N+i))=(i:Nat):=by
 have h0:0<N:=by omega
 unfold Ze3 ZfS
 dsimp only
 refine⟨?_,?_⟩
 ·rw[Nat.mul_comm,Nat.mul_add_div h0,Nat.div_eq_of_lt hi,Nat.add_zero]
 ·rw[Nat.mul_comm,Nat.mul_add_mod,Nat.mod_eq_of_lt hi]
theorem ZfE {t:TaskP} {p:List (List Int)} {N u i:Nat} (hN:t.sites.length=N) (hi:i<N):Zac t p (u*N+i)=if 0<Zab t p u then Zai t p u i else 0:=by
 have h0:0<N:=by omega
 unfold Zac
 rw[hN]
 have e1:(u*N+i)/N=u:=by rw[Nat.mul_comm,Nat.mul_add_div h0,Nat.div_eq_of_lt hi,Nat.add_zero]
 have e2:(u*N+i) % N=i:=by rw[Nat.mul_comm,Nat.mul_add_mod,Nat.mod_eq_of_lt hi]
 rw[e1,e2]
def RgK (t:TaskP) (p:List (List Int)) (N m G b:Nat) (pv:Value) (gq gc:Nat→Nat) (o:Obj) (w w1:World):Prop:=
 ∀ V,Keeps (NotM b) w1 V→PlanO p N m m pv gq gc V∧V.heap[G]?=some o∧Below w.heap.size w V
theorem rgK {t:TaskP} {p:List (List Int)} {N m G b:Nat} {pv:Value} {gq gc:Nat→Nat} {o:Obj} {w wr w1:World} (hP:PlanO p N m m pv gq gc wr) (hW:wr.heap[G]?=some o) (hB:Below w.heap.size w wr) (hb:wr.heap.size=b) (hw:wr.alloc (smO 0)=w1) :
  RgK t p N m G b pv gq gc o w w1∧w1.heap[b]?=some (smO 0)∧Below w.heap.size w w1∧w.heap.size≤b∧pv.ownBlock≠some b∧∀ u,u<p.length→gq u≠b:=by
 have hal:Below wr.heap.size wr w1:=by rw[← hw];exact(Below.refl _ wr).alloc ZnW _
 have h1:pv.ownBlock≠some b:=fun e=>by have:=(World.ownsRow.lt hP.outer b e).2;omega
 have h2:∀ u,u<p.length→gq u≠b:=fun u hu e=>by have:=(hP.gt hu).2;omega
 have hG:=(Array.getElem?_eq_some_iff.1 hW).1
 have hB1:Below w.heap.size w w1:=hB.trans (hal.mono hB.size)
 have hbs:w.heap.size≤b:=by rw[← hb];exact hB.size
 refine⟨fun V hV=>⟨(hP.keep (hal.keepsS (NotM m))).keepG h1 h2 hV,(hV.block G (Nat.lt_of_lt_of_le hG hal.size) (by show G≠b;omega)).trans ((hal.block G hG).trans hW),hB1.trans (hV.below_of (fun c hc=>by show c≠b;omega) hB1.size)⟩,?_,hB1,hbs,h1,h2⟩
 rw[← hw,← hb]
 exact World.alloc_heap_new wr _
theorem Zjc {t:TaskP} {sv hv rv:Value} {w:World} (hT:TaskIn t sv hv rv w) (hz:LimT t) :
  Calls Tryz.prog 17 #[.agg #[sv,hv,rv]] w (ZgL t w):=by
 obtain⟨N,hN⟩:=ZnX t.sites.length
 obtain⟨T,hTl⟩:=ZnX t.hours.length
 obtain⟨R,hR⟩:=ZnX t.rates.length
 obtain⟨ps,cs,rfl,hs1,hs2⟩:=hT.sites.shape hN
 obtain⟨ph,ch,rfl,hh1,hh2⟩:=hT.hours.shape hTl
 obtain⟨pr,cr,rfl,hr1,hr2⟩:=hT.rates.shape hR
 have HT:=ZnV hT
 have HZ:=ZnV hz
 have HNN:=ZnV hN
 have HTT:=ZnV hTl
 have HPT:Hid ((Zr t).length=T):=by show _=_;unfold Zr;rw[List.length_map,hTl]
 obtain⟨i0,hi,hz0,hz1,hz2⟩:=info_parts Zc0
 obtain⟨G,hG⟩:=ZnX w.heap.size
 have HGG:=ZnV hG
 have HE0:Hid (Env w.heap.size w [(G,efO (.slice ps N cs) (.slice ph T ch) (.slice pr R cr))] [] (w.alloc (efO (.slice ps N cs) (.slice ph T ch) (.slice pr R cr)))):=(Env.start w).push _ hG.symm
 clear hT hz hN hTl
 go_enter Tryz.func17,Tryz.ntmps17
 go_wp2_with fail
 refine(Zlo (HT.out.below HE0.out.base ZnW) HZ.out).mono ?_
 rintro e w1 ⟨r,rfl,hr,hb⟩
 have HE1:=ZnV (HE0.out.step hb)
 have HRR:=ZnV hr
 clear hb hr HE0
 cases r with
 | false=>
  have HNO:Hid (¬ TaskOk t):=fun k=>by have:=HRR.out.2 k;cases this
  clear HRR
  go_wp2
  exact bodyPost_ret (by simp[results,Tryz.f17,go_sem]) rfl ⟨.inl ⟨HNO.out,rfl⟩,HE1.out.base⟩
 | true=>
 have HOK:Hid (TaskOk t):=HRR.out.1 rfl
 have HC1:=ZnV (HE1.out.block 0 rfl)
 have HB1:=ZnV HE1.out.base
 have hN24:1≤N∧N≤24:=by rw[← HNN.out];exact HOK.out.sites
 have hT8:1≤T∧T≤8:=by rw[← HTT.out];exact HOK.out.teams
 have hRT:R=T:=by rw[← hR,HOK.out.rates,HTT.out]
 subst hRT
 have HP0:Hid (PlanO ((Zr t).take 0) N G G (.slice none 0 0) (fun _=>0) (fun _=>0) w1):=⟨World.ownsRow_nil _ _ _ _,fun u hu=>by simp at hu,fun u v hu=>by simp at hu,by simp[Value.ownBlock],fun u hu=>by simp at hu⟩
 clear HRR HE1 hR
 go_wp2_with fail
 try rw[hG]
 clear hG
 go_loopw [5,6] (fun pvv iv wr=>∃ (k:Nat) (gq gc:Nat→Nat),iv=.int .i64 k∧k≤R∧Hid (PlanO ((Zr t).take k) N G G pvv gq gc wr)∧Hid (wr.heap[G]?=some (efO (.slice ps N cs) (.slice ph R ch) (.slice pr R cr)))∧Hid (Below w.heap.size w wr)) (fun _ iv _=>R-(intOf iv).toNat)
 case atStart=>exact⟨0,_,_,rfl,Nat.zero_le _,HP0,HC1,HB1⟩
 case round=>
  obtain⟨k,gq,gc,rfl,hk,HP,HW,HB⟩:=hrel
  clear HP0 HC1 HB1
  have c0:=Za HW.out 0 (v:=.slice ps N cs) rfl
  have c1:=Za HW.out 1 (v:=.slice ph R ch) rfl
  by_cases hlt:k<R
  ·have hkl:((Zr t).take k).length=k:=by rw[List.length_take,HPT.out];omega
   have HKL:=ZnV hkl
   have hmk:(Instr.makeSlice 23 (.int .i64 N) (.int .i64 N)).run Tryz.prog wr=.ok (.slice (some ⟨wr.heap.size,0,none⟩) N N) (wr.alloc (.cells (madeCells #[(.int .i64 0:Value)] N) 3)):=
    run_make_row' _ _ _ _ Tryz.underlying23 Zdt rfl .i64 .i64 N (by omega) (by omega) wr
   clear hkl
   obtain⟨pq,pn,pcap,rfl⟩:∃ p n c,u5=Value.slice p n c:=by
    obtain⟨_,h2⟩:=HP.out.outer
    rcases h2 with ⟨h2,_⟩ | ⟨g,cap,_,h2,_⟩
    ·exact⟨_,_,_,h2⟩
    ·exact⟨_,_,_,h2⟩
   obtain⟨q,hq⟩:=ZnX wr.heap.size
   obtain⟨V2,hV2⟩:=ZnX ((wr.alloc (.cells (madeCells #[(.int .i64 0:Value)] N) 3)).alloc (.cells #[.slice (some ⟨q,0,none⟩) N N] 23))
   have hal:Below wr.heap.size wr V2:=by rw[← hV2];exact((Below.refl _ wr).alloc ZnW _).alloc (by simp) _
   have hGw:G<wr.heap.size:=(Array.getElem?_eq_some_iff.1 HW.out).1
   have hnews:=Zb3 (wr.alloc (.cells (madeCells #[(.int .i64 0:Value)] N) 3)) (.slice (some ⟨q,0,none⟩) N N) 23
   rw[hV2,World.size_alloc,hq] at hnews
   have hrow:V2.ownsRow (G+1) 3 1 (.slice (some ⟨q,0,none⟩) N N) N (ints (List.replicate N 0)):=by
    have h1:=World.ownsRow_lit (e:=3) (size:=1) (base:=G+1) wr (madeCells #[(.int .i64 0:Value)] N) N (by omega) (by unfold maxLen;omega) (by rw[size_madeCells,Nat.mul_one])
    rw[← Zhn,hq] at h1
    rw[← hV2]
    exact Zag h1 fun x hx=>Below.heap_alloc _ _ _ (World.ownsRow.lt h1 x hx).2
   have HROW:=ZnV hrow
   have HW2:Hid (V2.heap[G]?=some (efO (.slice ps N cs) (.slice ph R ch) (.slice pr R cr))):=(hal.block _ hGw).trans HW.out
   have HP2:Hid (PlanO ((Zr t).take k) N G G (.slice pq pn pcap) gq gc V2):=HP.out.keep (hal.keepsS _)
   have HB2:Hid (Below w.heap.size w V2):=HB.out.trans (hal.mono HB.out.size)
   have hgo:∀ u,u<((Zr t).take k).length→gq u≠q:=fun u hu e=>by have:=(HP.out.gt hu).2;omega
   have hgp:(Value.slice pq pn pcap).ownBlock≠some q:=fun e=>by have:=(World.ownsRow.lt HP.out.outer q e).2;omega
   have HGO:=ZnV (And.intro hgo hgp)
   have hown2:=HP2.out.outer
   have h2s:G+1≤V2.heap.size∧G<V2.heap.size∧G<q:=by have:=hal.size;omega
   have hmk2:(Instr.makeSlice 23 (.int .i64 N) (.int .i64 N)).run Tryz.prog wr=.ok (.slice (some ⟨q,0,none⟩) N N) (wr.alloc (.cells (madeCells #[(.int .i64 0:Value)] N) 3)):=by rw[hmk,hq]
   clear hmk hrow hgo hgp hal hGw HW HP HB
   go_wp2_with (at_builtin;refine wpList_append_lies _ rfl (.tmp 26) (.tmp 31) 29 rfl (G+1) 23 i0 (.slice none 0 0) 1 24 Tryz.underlying29 hi hz0 hz1 hz2 rfl (by decide) (.slice pq pn pcap) _ _ rfl hown2 ⟨q+1,0,none⟩ 1 1 [.slice (some ⟨q,0,none⟩) N N] rfl rfl hnews (by simp[Value.oneCell']) (by decide) (by rw[HKL.out];unfold maxLen;omega) (by rw[HKL.out];omega) (by omega) V2.heap.size rfl ?_;intro g2 cap2 V3 hown3 hgrow hor hlt3)
   have hsn:=HP2.out.snoc HROW.out (by omega) HGO.out.1 HGO.out.2 h2s.2.1 hown3 hgrow (by
    rcases hor with h | h
    ·exact .inl (by rw[h];rfl)
    ·exact .inr ⟨g2,rfl,by omega⟩)
   have hne:(Value.slice pq pn pcap).ownBlock≠some G:=HP2.out.out.1
   have HW3:Hid (V3.heap[G]?=some (efO (.slice ps N cs) (.slice ph R ch) (.slice pr R cr))):=(hgrow.block _ (by omega) (fun e=>hne e.symm)).trans HW2.out
   have HB3:Hid (Below w.heap.size w V3):=HB2.out.grown hgrow (by have:=HB2.out.size;omega) (fun x hx=>by have:=(World.ownsRow.lt HP2.out.outer x hx).1;have:=HGG.out;omega)
   rw[HKL.out] at hsn
   rw[← HNN.out,← Zeg t (by rw[HTT.out];exact hlt),HNN.out] at hsn
   have HSN:=ZnV hsn
   have hmin:min k (Zr t).length=k:=by rw[HPT.out];omega
   clear hsn hne hown3 hgrow hor hlt3
   try rw[hmin]
   go_roundw
   case rel=>exact⟨k+1,_,_,by go_num,by omega,HSN,HW3,HB3⟩
   case measure=>simp[intOf];omega
  ·obtain rfl:k=R:=by omega
   have e:(Zr t).take k=Zr t:=by rw[← HPT.out,List.take_length]
   rw[e] at HP
   have HZO:=ZnV (Zfa HOK.out)
   have HG0:Hid (Za7 t (Zr t) k≤384∧PlanOk t (Zr t)∧(Zr t).length=k∧(∀ q,GreedyR t (Zr t) q→GreedyR t (Zr t) q)∧G≤G):=
    ⟨by have:=ZeQ HZO.out k (by rw[HPT.out];exact Nat.le_refl _);omega,HZO.out,HPT.out,fun q h=>h,Nat.le_refl _⟩
   clear e
   go_wp2_with fail
   clear c0 c1
   go_loopg [5] 384 (fun gn pvv wr=>∃ (p:List (List Int)) (m:Nat) (gq gc:Nat→Nat),Hid (PlanO p N m m pvv gq gc wr)∧Hid (Za7 t p k≤gn∧PlanOk t p∧p.length=k∧(∀ q,GreedyR t p q→GreedyR t (Zr t) q)∧G≤m)∧Hid (wr.heap[G]?=some (efO (.slice ps N cs) (.slice ph k ch) (.slice pr k cr)))∧Hid (Below w.heap.size w wr))
   case atStart=>exact⟨_,G,gq,gc,HP,HG0,HW,HB⟩
   case round=>
    clear HP HG0 HW HB
    obtain⟨p,m,gq,gc,HP,HI,HW,HB⟩:=hrel
    obtain⟨b,hb⟩:=ZnX wr.heap.size
    obtain⟨w2,hw2⟩:=ZnX (wr.alloc (smO 0))
    obtain⟨hK,hs0,hB2,hbs,hob,hgb⟩:=rgK (t:=t) HP.out HW.out HB.out hb hw2
    obtain⟨pb,pc,rfl,hPW⟩:=(hK w2 (Keeps.refl _ _)).1.toWb (by rw[HI.out.2.2.1];omega) hob hgb
    have HK:=ZnV hK
    have HPW:=ZnV hPW
    have HEL:Hid (Zb4 b (TaskIn t (.slice ps N cs) (.slice ph k ch) (.slice pr k cr)) w2):=⟨w,HT.out,hB2,hbs⟩
    have HE2:=ZnV (SmK.start hs0)
    rw[HI.out.2.2.1] at HPW HK ⊢
    clear hK hs0 hB2 hbs hob hgb hPW HP HW HB
    go_wp2_with fail
    refine(Zca _).mono ?_
    rintro e w3 ⟨rfl,hb3⟩
    try rw[hw2] at hb3
    obtain⟨B8,hB8⟩:=ZnX w3.heap.size
    have HE3:=ZnV ((HE2.out.step hb3).push (pObj ⟨#[48]⟩ ⟨#[49]⟩) hB8.symm)
    obtain⟨w4,hw4⟩:=ZnX (w3.alloc (pObj ⟨#[48]⟩ ⟨#[49]⟩))
    rw[hw4] at HE3
    clear hb3 HE2 hw2
    go_wp2_with fail
    try rw[hB8]
    try rw[hw4]
    try rw[hb]
    clear hB8 hw4 hb
    go_loopw [9,10,11] (fun tv sv iv wv=>∃ (u:Nat) (r:Option Nat) (mx:Rat) (x y:ByteArray),tv=.int .i64 (Ze3 N r)∧sv=.int .i64 (ZfS N r)∧iv=.int .i64 u∧u≤k∧Hid (Best (Zac t p) (u*N) r mx)∧Hid (IsP mx x y)∧Hid (SmK b 0 w2 [(B8,pObj x y)] wv)) (fun _ _ iv _=>k-(intOf iv).toNat)
    case atStart=>exact⟨0,none,0,_,_,rfl,rfl,rfl,Nat.zero_le _,(by rw[Nat.zero_mul];exact Best.zero _),ZY,HE3⟩
    case round=>
     clear HE3
     obtain⟨u,r,mx,x,y,rfl,rfl,rfl,hu,HBT,HX,HE⟩:=hrel
     obtain⟨z1,z2,z3⟩:=HK.out _ HE.out.base
     have d0:=Za z2 0 (v:=.slice ps N cs) rfl
     have d1:=Za z2 1 (v:=.slice ph k ch) rfl
     have d2:=Za z2 2 (v:=.slice pr k cr) rfl
     by_cases hlt2:u<k
     ·have hul:u<p.length:=by rw[HI.out.2.2.1];exact hlt2
      have HLF:=ZnV (Zlg (HT.out.below z3 ZnW) HOK.out z1.toIIL HI.out.2.1.inn hul)
      obtain⟨f,hf⟩:=ZnX (Zab t p u)
      rw[hf] at HLF
      have HF:=ZnV hf
      clear z1 z2 z3 hf hul
      go_wp2_with fail
      refine HLF.out.mono ?_
      rintro e w5 ⟨rfl,hb5⟩
      have HE5:=ZnV (HE.out.step hb5)
      clear hb5 HE HLF d0 d1 d2
      go_wp2_with fail
      go_loopw [9,10,13] (fun tv sv iv wv=>∃ (i:Nat) (r:Option Nat) (mx:Rat) (x y:ByteArray),tv=.int .i64 (Ze3 N r)∧sv=.int .i64 (ZfS N r)∧iv=.int .i64 i∧i≤N∧Hid (Best (Zac t p) (u*N+i) r mx)∧Hid (IsP mx x y)∧Hid (SmK b 0 w2 [(B8,pObj x y)] wv)) (fun _ _ iv _=>N-(intOf iv).toNat)
      case atStart=>exact⟨0,r,mx,x,y,rfl,rfl,rfl,Nat.zero_le _,HBT,HX,HE5⟩
      case round=>
       clear HE5 HBT HX
       obtain⟨i,r,mx,x,y,rfl,rfl,rfl,hi',HBT,HX,HE⟩:=hrel
       obtain⟨_,z2,_⟩:=HK.out _ HE.out.base
       have d0:=Za z2 0 (v:=.slice ps N cs) rfl
       have d1:=Za z2 1 (v:=.slice ph k ch) rfl
       have d2:=Za z2 2 (v:=.slice pr k cr) rfl
       clear z2
       by_cases hlt3:i<N
       ·by_cases hf0:0<f
        ·have HGA:Hid (Zac t p (u*N+i)=Zai t p u i):=by
          show _=_
          rw[ZfE HNN.out hlt3,HF.out,if_pos hf0]
         have HGC:=ZnV (ZlM (HEL.out.keep HE.out.base) (by rw[HNN.out];exact HPW.out.keep HE.out.base) HE.out.sm HOK.out HI.out.2.1.inn (u:=u) (i:=i) (by rw[HOK.out.rates,HTT.out];exact hlt2) (by rw[HNN.out];exact hlt3))
         go_wp2_with fail
         refine HGC.out.mono ?_
         rintro e w6 ⟨xg,yg,hxg,rfl,hb6⟩
         have HXG:=ZnV hxg
         obtain⟨g14,hg14⟩:=ZnX w6.heap.size
         have HE6:=ZnV ((HE.out.call hb6).push (pObj xg yg) hg14.symm)
         obtain⟨w7,hw7⟩:=ZnX (w6.alloc (pObj xg yg))
         rw[hw7] at HE6
         clear hxg hb6 HE HGC d0 d1 d2
         have c0:=HE6.out.cell 0 0 (v:=.string xg) rfl rfl
         have c1:=HE6.out.cell 0 1 (v:=.string yg) rfl rfl
         have c2:=HE6.out.cell 1 0 (v:=.string x) rfl rfl
         have c3:=HE6.out.cell 1 1 (v:=.string y) rfl rfl
         obtain⟨n,hn⟩:=ZnX (sgnR (Zai t p u i) mx)
         go_wp2_with fail
         try rw[hg14]
         try rw[hw7]
         clear hg14 hw7
         refine(Zbx HXG.out HX.out hn _).mono ?_
         rintro e w8 ⟨rfl,hb8⟩
         have HE8:=ZnV (HE6.out.step hb8)
         clear hb8 HE6 c0 c1 c2 c3
         by_cases hcmp:mx<Zai t p u i
         ·have hge:(0:Int)<n:=by rw[← hn];exact Zbu (Rat.not_le.2 hcmp)
          have HBT2:Hid (Best (Zac t p) (u*N+(i+1)) (some (u*N+i)) (Zai t p u i)):=by
           have h:=HBT.out.up (by rw[HGA.out];exact hcmp)
           rw[HGA.out] at h
           exact h
          have c0:=HE8.out.cell 0 0 (v:=.string xg) rfl rfl
          have c1:=HE8.out.cell 0 1 (v:=.string yg) rfl rfl
          have HE9:=ZnV (HE8.out.only [1] _ rfl (by decide))
          have r0:=HE9.out.cell 0 0 rfl rfl
          have r1:=HE9.out.cell 0 1 rfl rfl
          have f0:=HE9.out.free 0 0 rfl
          have f1:=HE9.out.free 0 1 rfl
          clear hn hcmp HE8
          go_wp2
          have HE10:=ZnV (HE9.out.fill (.string xg) (.string yg))
          go_roundw
          case rel=>exact⟨i+1,some (u*N+i),_,xg,yg,by rw[(Zij hlt3).1],by rw[(Zij hlt3).2],by go_num,by omega,HBT2,HXG,HE10⟩
          case measure=>simp[intOf];omega
         ·have hge:¬ (0:Int)<n:=by rw[← hn];exact Zby (Rat.not_lt.1 hcmp)
          have HBT2:Hid (Best (Zac t p) (u*N+(i+1)) r mx):=HBT.out.keep (by rw[HGA.out];exact Rat.not_lt.1 hcmp)
          have HE9:=ZnV (HE8.out.only [1] _ rfl (by decide))
          clear hn hcmp HE8
          go_wp2
          go_roundw
          case rel=>exact⟨i+1,r,mx,x,y,rfl,rfl,by go_num,by omega,HBT2,HX,HE9⟩
          case measure=>simp[intOf];omega
        ·have HBT2:Hid (Best (Zac t p) ((u+1)*N) r mx):=by
          rw[show (u+1)*N=u*N+i+(N-i) by rw[Nat.add_mul,Nat.one_mul];omega]
          refine HBT.out.skips _ fun j h1 h2=>?_
          obtain⟨d,rfl⟩:∃ d,j=u*N+d:=⟨j-u*N,by omega⟩
          rw[ZfE HNN.out (by omega),HF.out,if_neg hf0]
          exact HBT.out.nn
         go_wp2
         go_roundw
         case rel=>exact⟨u+1,r,mx,x,y,rfl,rfl,by go_num,by omega,HBT2,HX,HE⟩
         case measure=>simp[intOf];omega
       ·have HBT2:Hid (Best (Zac t p) ((u+1)*N) r mx):=by
         rw[show (u+1)*N=u*N+i by rw[Nat.add_mul,Nat.one_mul];omega]
         exact HBT.out
        go_wp2
        go_roundw
        case rel=>exact⟨u+1,r,mx,x,y,rfl,rfl,by go_num,by omega,HBT2,HX,HE⟩
        case measure=>simp[intOf];omega
     ·have huk:u=k:=by omega
      have HBF:Hid (Best (Zac t p) (t.hours.length*t.sites.length) r mx):=by rw[HTT.out,HNN.out,← huk];exact HBT.out
      have s0:=HE.out.c0
      have HZ1:=ZnV z1
      have HZ3:=ZnV z3
      have HZ2:=ZnV z2
      have hGs:=(Array.getElem?_eq_some_iff.1 z2).1
      clear z1 z2 z3 huk HBT
      cases r with
      | none=>
       have HDN:Hid (GreedyR t (Zr t) p):=HI.out.2.2.2.1 p (.done HBF.out)
       have e1:Ze3 N none = -1:=rfl
       rw[e1]
       go_wp2
       exact bodyPost_ret (by simp[results,Tryz.f17,go_sem]) rfl ⟨.inr ⟨HOK.out,p,_,HDN.out,HI.out.2.1,HZ1.out.toIIL,rfl⟩,HZ3.out⟩
      | some j=>
       obtain⟨hj1,hj2,hj3,_⟩:=HBF.out.yes j rfl
       rw[HTT.out,HNN.out] at hj1
       obtain⟨v,hv⟩:=ZnX (j/N)
       obtain⟨i,hii⟩:=ZnX (j % N)
       have hvk:v<k:=by
        rw[← hv]
        rw[Nat.mul_comm] at hj1
        exact Nat.div_lt_of_lt_mul hj1
       have hiN:i<N:=by rw[← hii];exact Nat.mod_lt _ (by omega)
       have e1:Ze3 N (some j)=(v:Nat):=by show ((j/N:Nat):Int)=_;rw[hv]
       have e2:ZfS N (some j)=(i:Nat):=by show ((j % N:Nat):Int)=_;rw[hii]
       have hje:j=v*N+i:=by rw[← hv,← hii,Nat.mul_comm];exact(Nat.div_add_mod j N).symm
       rw[hj2,hje,ZfE HNN.out hiN] at hj3
       have hfree:0<Zab t p v:=by
        rcases Int.lt_or_le 0 (Zab t p v) with h | h
        ·exact h
        ·rw[if_neg (by omega)] at hj3
         exact absurd hj3 Rat.lt_irrefl
       rw[if_pos hfree] at hj3
       have hvp:v<p.length:=by rw[HI.out.2.2.1];exact hvk
       have hiN':i<t.sites.length:=by rw[HNN.out];exact hiN
       have hok2:=HI.out.2.1.bump hvp hiN' hfree (Zg9 hj3)
       have Zan:=ZdG hvp (by rw[HI.out.2.1.row v hvp];exact hiN') hiN' hfree k
       rw[if_pos hvk] at Zan
       have hst:∀ q,GreedyR t (bump p v i 1) q→GreedyR t (Zr t) q:=fun q hq=>HI.out.2.2.2.1 q (.step HBF.out (by rw[HNN.out,hv,hii];exact hq))
       have hp48:=(HI.out.2.1.hour v i hvp hiN').1
       have hgn:Za7 t (bump p v i 1) k+1≤gk:=by have:=HI.out.1;omega
       obtain⟨gk',rfl⟩:∃ z,gk=z+1:=⟨gk-1,by omega⟩
       have hgG:=HGG.out
       have HWT:=ZnV (ZlE (m:=wr.heap.size-1) (d:=1) HZ1.out.toIIL (by rw[HI.out.2.2.1];exact hT8.2) hN24 (fun u h=>by rw[HI.out.2.1.row u h,HNN.out]) (by omega) hvp hiN (by omega) (by omega))
       have HI9:Hid (Za7 t (bump p v i 1) k≤gk'∧PlanOk t (bump p v i 1)∧(bump p v i 1).length=k∧(∀ q,GreedyR t (bump p v i 1) q→GreedyR t (Zr t) q)∧G≤wr.heap.size-1):=
        ⟨by omega,hok2,by rw[Zas];exact HI.out.2.2.1,hst,by omega⟩
       rw[e1,e2]
       clear hj1 hj2 hj3 hv hii e1 e2 hje hfree hok2 Zan hst hp48 hgn
       go_wp2_with fail
       refine HWT.out.mono ?_
       rintro e w9 ⟨pv',gq',gc',rfl,hP',hb9⟩
       have HP9:=ZnV hP'
       have HW9:Hid (w9.heap[G]?=some (efO (.slice ps N cs) (.slice ph k ch) (.slice pr k cr))):=(hb9.block G hGs).trans HZ2.out
       have HB9:Hid (Below w.heap.size w w9):=HZ3.out.trans (hb9.mono HZ3.out.size)
       clear hP' hb9
       go_wp2
       go_roundg gk'
       case measure=>omega
       case rel=>exact⟨bump p v i 1,_,gq',gc',HP9,HI9,HW9,HB9⟩
theorem ZiE {a b:Value} {xs:List Int} {w:World} (ha:IL w a xs) (hb:IL w b xs):Calls Tryz.prog 58 #[a,b] w (ZP w true):=by
 obtain⟨n,hn⟩:=ZnX xs.length
 obtain⟨pa,ca,rfl,ka1,ka2⟩:=ha.shape hn
 obtain⟨pb,cb,rfl,kb1,kb2⟩:=hb.shape hn
 have HA:=ZnV ha
 have HB:=ZnV hb
 have HN:=ZnV hn
 have hne:((n:Int) !=(n:Int))=false:=by simp
 clear ha hb hn
 go_enter Tryz.func58,Tryz.ntmps58
 go_wp2_with fail
 go_loopw [5] (fun iv wr=>∃ k:Nat,iv=.int .i64 k∧k≤n∧Hid (Below w.heap.size w wr)) (fun iv _=>n-(intOf iv).toNat)
 case atStart=>exact⟨0,rfl,Nat.zero_le _,Below.refl _ _⟩
 case round=>
  obtain⟨k,rfl,hk,HW⟩:=hrel
  by_cases hlt:k<n
  ·obtain⟨b1,o1,rfl,g1,g2⟩:=HA.out.at IntR.stays HN.out (by omega)
   obtain⟨b2,o2,rfl,h1,h2⟩:=HB.out.at IntR.stays HN.out (by omega)
   have c1:=g2 wr.drew HW.out.drew k (by rw[HN.out];exact hlt)
   have c2:=h2 wr.drew HW.out.drew k (by rw[HN.out];exact hlt)
   unfold IntR at c1 c2
   rw[Nat.mul_one] at c1 c2
   obtain⟨x,hx⟩:∃ z,xs[k]'(by rw[HN.out];exact hlt)=z:=⟨_,rfl⟩
   rw[hx] at c1 c2
   have hxx:(x !=x)=false:=by simp
   have i0':(0:Int)≤(k:Int):=by omega
   have i1':(k:Int)<(n:Int):=by omega
   clear g1 g2 h1 h2 hx
   go_wp2_with fail
   refine ZF [(1,0),(1,1),(1,2),(1,3),(1,4),(1,5),(1,6),(1,7),(1,8)] (fun V=>V=wr.drew) (fun _=>false)
    (by kernel_rfl) (by kernel_rfl) (fun j hj=>rfl) (fun _ _ o _ _ h=>by cases o<;>exact h) rfl ?_
   iterate 9
    refine Zk _ rfl rfl (fun w' hS=>by subst hS;go_simp;rfl) ?_
    simp only[ZnP,ZnQ,ZnR,Act.put,ZnS,ZnT,ZnU]
   refine Zt ?_
   have HW2:Hid (Below w.heap.size w wr.drew):=HW.out.drew
   go_wp2
   go_roundw
   case rel=>exact⟨k+1,by go_num,by omega,HW2⟩
   case measure=>simp[intOf];omega
  ·obtain rfl:k=n:=by omega
   go_wp2
   exact bodyPost_ret (by simp[results,Tryz.f58,go_sem]) rfl ⟨rfl,HW.out⟩
theorem ZlH {a b:Value} {p:List (List Int)} {w:World} (ha:IIL w a p) (hb:IIL w b p):Calls Tryz.prog 18 #[a,b] w (ZP w true):=by
 obtain⟨n,hn⟩:=ZnX p.length
 obtain⟨pa,ca,rfl,ka1,ka2⟩:=ha.shape hn
 obtain⟨pb,cb,rfl,kb1,kb2⟩:=hb.shape hn
 have HA:=ZnV ha
 have HB:=ZnV hb
 have HN:=ZnV hn
 have hne:((n:Int) !=(n:Int))=false:=by simp
 clear ha hb hn
 go_enter Tryz.func18,Tryz.ntmps18
 go_wp2_with fail
 go_loopw [5] (fun iv wr=>∃ k:Nat,iv=.int .i64 k∧k≤n∧Hid (Below w.heap.size w wr)) (fun iv _=>n-(intOf iv).toNat)
 case atStart=>exact⟨0,rfl,Nat.zero_le _,Below.refl _ _⟩
 case round=>
  obtain⟨k,rfl,hk,HW⟩:=hrel
  by_cases hlt:k<n
  ·obtain⟨b1,o1,rfl,g1,g2⟩:=HA.out.at IIL.stays HN.out (by omega)
   obtain⟨b2,o2,rfl,h1,h2⟩:=HB.out.at IIL.stays HN.out (by omega)
   obtain⟨v1,c1,l1⟩:=g2 wr.drew HW.out.drew k (by rw[HN.out];exact hlt)
   obtain⟨v2,c2,l2⟩:=h2 wr.drew HW.out.drew k (by rw[HN.out];exact hlt)
   rw[Nat.mul_one] at c1 c2
   obtain⟨q1,e1,rfl,_⟩:=id l1
   obtain⟨q2,e2,rfl,_⟩:=id l2
   obtain⟨l,hl⟩:∃ z,(p[k]'(by rw[HN.out];exact hlt)).length=z:=⟨_,rfl⟩
   rw[hl] at c1 c2 l1 l2
   have HL:=ZnV (And.intro l1 l2)
   have i0':(0:Int)≤(k:Int):=by omega
   have i1':(k:Int)<(n:Int):=by omega
   clear g1 g2 h1 h2 hl l1 l2
   go_wp2_with fail
   refine ZF [(1,0),(1,1),(1,2),(1,3),(1,4),(1,5),(1,6),(1,7),(0,8),(0,9)] (fun V=>V=wr.drew) (fun i=>i==8 || i==9)
    (by kernel_rfl) (by kernel_rfl) (fun j hj=>by have h:10≤j:=hj;simp;omega) (fun _ _ o _ _ h=>by cases o<;>exact h) rfl ?_
   iterate 8
    refine Zk _ rfl rfl (fun w' hS=>by subst hS;go_simp;rfl) ?_
    simp only[ZnP,ZnQ,ZnR,Act.put,ZnS,ZnT,ZnU]
   refine Zq rfl rfl fun K hK=>?_
   go_simp
   go_at_call 58
   refine(ZiE HL.out.1 HL.out.2).mono ?_
   rintro e w3 ⟨rfl,hb⟩
   have HW2:Hid (Below w.heap.size w w3):=HW.out.drew.trans (hb.mono HW.out.drew.size)
   refine hK _ _ (.inl rfl) ?_
   clear hK K hb
   refine Zq rfl rfl fun K hK=>?_
   go_simp
   refine hK _ _ (.inl rfl) ?_
   clear hK K
   refine Zt ?_
   go_wp2
   go_roundw
   case rel=>exact⟨k+1,by go_num,by omega,HW2⟩
   case measure=>simp[intOf];omega
  ·obtain rfl:k=n:=by omega
   go_wp2
   exact bodyPost_ret (by simp[results,Tryz.f18,go_sem]) rfl ⟨rfl,HW.out⟩
theorem Zfk {t:TaskP} {w w':World} {e:Ending} (h:ZgL t w e w'):∃ (q:List (List Int)) (v:Value) (n:Int),e=.returned (.tuple #[v,.int .i64 n])∧IIL w' v q∧((¬ TaskOk t∧q=[]∧n=2)∨(TaskOk t∧GreedyR t (Zr t) q∧n=0))∧Below w.heap.size w w':=by
 obtain⟨h,hb⟩:=h
 rcases h with ⟨h1,rfl⟩ | ⟨h1,p,pv,h2,_,h3,rfl⟩
 ·exact⟨[],_,_,rfl,LL.nil _,.inl ⟨h1,rfl,rfl⟩,hb⟩
 ·exact⟨p,pv,_,rfl,h3,.inr ⟨h1,h2,rfl⟩,hb⟩
theorem ZkO {t:TaskP} {sv hv rv:Value} {w:World} (hT:TaskIn t sv hv rv w) :
  Calls Tryz.prog 3 #[.agg #[sv,hv,rv]] w (ZP w true):=by
 obtain⟨ps,cs,rfl,_⟩:=hT.sites.shape rfl
 obtain⟨ph,ch,rfl,_⟩:=hT.hours.shape rfl
 obtain⟨pr,cr,rfl,_⟩:=hT.rates.shape rfl
 obtain⟨ns,hns⟩:=ZnX t.sites.length
 obtain⟨nh,hnh⟩:=ZnX t.hours.length
 obtain⟨nr,hnr⟩:=ZnX t.rates.length
 rw[hns,hnh,hnr] at hT ⊢
 have HT:=ZnV hT
 have HNS:=ZnV hns
 have HNH:=ZnV hnh
 obtain⟨w1,hw1⟩:=ZnX (w.alloc (efO (.slice ps ns cs) (.slice ph nh ch) (.slice pr nr cr)))
 obtain⟨G,hG⟩:=ZnX w.heap.size
 have HG:=ZnV hG
 have HE1:Hid (Env w.heap.size w [(G,efO (.slice ps ns cs) (.slice ph nh ch) (.slice pr nr cr))] [] w1):=by rw[← hw1];exact(Env.start w).push _ hG.symm
 clear hT hns hnh hnr
 go_enter Tryz.func3,Tryz.ntmps3
 have c0:=HE1.out.cell 0 0 (v:=.slice ps ns cs) rfl rfl
 have c1:=HE1.out.cell 0 1 (v:=.slice ph nh ch) rfl rfl
 have c2:=HE1.out.cell 0 2 (v:=.slice pr nr cr) rfl rfl
 go_wp2_with fail
 refine(Zkv (HT.out.below HE1.out.base ZnW) 5 3 16 (by decide) (by decide) (by decide)).mono ?_
 rintro e w3 ⟨r,rfl,hS,hb⟩
 have HE3:=ZnV (HE1.out.step hb)
 clear hb HE1 c0 c1 c2 hw1 hG
 have hT3:=HT.out.below HE3.out.base ZnW
 cases r with
 | true=>
  go_wp2_with fail
  refine(ZfR _ hT3.det hT3.tabs hT3.eff).mono ?_
  rintro e w4 ⟨rfl,hb⟩
  have HE4:=ZnV (HE3.out.step hb)
  clear hb
  go_wp2
  exact bodyPost_ret (by simp[results,Tryz.f3,go_sem]) rfl ⟨rfl,HE4.out.base⟩
 | false=>
  have HZ:=ZnV (hS rfl).lim
  clear hS hT3
  have c0:=HE3.out.cell 0 0 (v:=.slice ps ns cs) rfl rfl
  have c1:=HE3.out.cell 0 1 (v:=.slice ph nh ch) rfl rfl
  have c2:=HE3.out.cell 0 2 (v:=.slice pr nr cr) rfl rfl
  go_wp2_with fail
  refine(Zfg (HT.out.below HE3.out.base ZnW) HZ.out).mono ?_
  rintro e w4 hA
  obtain⟨q,v,n,rfl,hv,hq,hb⟩:=Zfk hA
  obtain⟨bl,hbl⟩:=ZnX q.length
  obtain⟨bpp,bpc,rfl,_⟩:=hv.shape hbl
  have HE4:=ZnV (HE3.out.step hb)
  have HV:=ZnV hv
  have HQ:=ZnV hq
  clear hb hA hv hq c0 c1 c2 HE3 hbl
  have c0:=HE4.out.cell 0 0 (v:=.slice ps ns cs) rfl rfl
  have c1:=HE4.out.cell 0 1 (v:=.slice ph nh ch) rfl rfl
  have c2:=HE4.out.cell 0 2 (v:=.slice pr nr cr) rfl rfl
  go_wp2_with fail
  refine(Zjc (HT.out.below HE4.out.base ZnW) HZ.out).mono ?_
  rintro e w5 hA
  obtain⟨q2,v2,n2,rfl,hv2,hq2,hb⟩:=Zfk hA
  obtain⟨bl2,hbl2⟩:=ZnX q2.length
  obtain⟨bpp2,bpc2,rfl,_⟩:=hv2.shape hbl2
  have hqq:q2=q∧n2=n:=by
   rcases HQ.out with ⟨a1,rfl,rfl⟩ | ⟨a1,a2,rfl⟩<;>rcases hq2 with ⟨b1,rfl,rfl⟩ | ⟨b1,b2,rfl⟩
   ·exact⟨rfl,rfl⟩
   ·exact absurd b1 a1
   ·exact absurd a1 b1
   ·exact⟨b2.det a2,rfl⟩
  obtain⟨rfl,rfl⟩:=hqq
  have HE5:=ZnV (HE4.out.step hb)
  have HV5:=ZnV (IIL.stay2 HV.out hb ZnW)
  have HV2:=ZnV hv2
  have hee:(n2==n2)=true:=by simp
  clear hb hA hv2 hq2 c0 c1 c2 HE4 HV HQ hbl2
  go_wp2_with fail
  refine(ZlH HV5.out HV2.out).mono ?_
  rintro e w6 ⟨rfl,hb⟩
  have HE6:=ZnV (HE5.out.step hb)
  have hT6:=HT.out.below HE6.out.base ZnW
  clear hb HE5 HV5 HV2
  go_wp2_with fail
  refine(ZfR _ hT6.det hT6.tabs hT6.eff).mono ?_
  rintro e w7 ⟨rfl,hb⟩
  have HE7:=ZnV (HE6.out.step hb)
  clear hb HE6 hT6
  go_wp2
  exact bodyPost_ret (by simp[results,Tryz.f3,go_sem]) rfl ⟨rfl,HE7.out.base⟩
end Go.Proofs.YtmpaflidennnoaaGreatDoor
namespace Go.Proofs.YtmpaflidennnoaaGreatDoor
open Go.ChangeShapes Go.WideShapes Go.ChangeAt Go.RowKit
theorem Zhv (os:Os) (started:os.Started) (H:Type) (enc:TypeId×Value→H) :
  ReturnsInHanded {} Tryz.checked os 3 .any (fun w args=>(Rows.effortGreedySpec.pre enc Tryz.prog Tryz.f3 Rows.effortGreedyRow.domain false w args∧laidMetH Tryz.prog ZaZ w)∧sizedMet enc Tryz.prog Tryz.f3 (OpenSpec.ofChange Rows.effortGreedySpec) false w args)
   (Rows.effortGreedySpec.post enc Tryz.prog Tryz.f3 false true false false):=by
 refine returnsInHanded_of_change_and (C:=Tryz.checked) (X:=fun w _=>laidMetH Tryz.prog ZaZ w) (fun _ _ _ hh h=>h.of_heap hh) Zmt started (by kernel_rfl) Tryz.func3
  (ChangeSpec.witness_shaped (enc:=enc) (C:=Tryz.checked) (os:=os) (X:=fun w _=>laidMetH Tryz.prog ZaZ w) false (World.laidAll Tryz.prog os ZaZ) #[.agg #[.slice none 0 0,.slice none 0 0,.slice none 0 0]] 8 (World.laidAll_os _ _ _)
   (World.shaped_of_ZipB (by kernel_rfl) (by kernel_rfl)) (by kernel_rfl) (by kernel_rfl) (by kernel_rfl) (met9 os _)) ?_
 intro W base args ds gs before hval0 hW hc _ hL _
 have hval:∀ (j:Nat) t v,Tryz.f3.params[j]?=some t→args[j]?=some v→Value.okWide Tryz.prog W .any base t v:=hval0
 have hW':=hW
 obtain⟨p,q,hA0,hV,rfl,_,_⟩:=hW
 have hA:DataW.TrodAll enc Tryz.prog W 0 (fun _=>true) true Tryz.f3.params.toList args.toList ds p:=hA0
 rw[Tryz.params3] at hA hval
 obtain⟨v0,d0,rfl,rfl,h0⟩:=trodAll_one hA
 obtain⟨p0,rfl⟩:∃ q,q=p:=⟨_,rfl⟩
 obtain⟨rfl,rfl⟩:=trodVars_none hV
 obtain⟨t0,x0,y0,z0,rfl,hT0⟩:=ZmV (hval 0 _ v0 rfl rfl) h0 hL
 clear hA0 hval0
 simp only[List.append_nil] at hW'
 refine(ZkO hT0).mono fun e W' ⟨he,bel⟩=>?_
 subst he
 have nx:∀ x ∈ ([]:List MemPlace),x.block<W.heap.size:=fun _ h=>by cases h
 have hlt0:∀ x ∈ p0,x.block<W.heap.size:=fun x hx=>by first | (have:=hW'.lt x hx;simpa using this) | (have:=hW'.lt x (by simp[hx]);simpa using this)
 refine⟨_,rfl,_,_,_,[],p0,[],hW',?_,?_,?_,bel.frame _,fun h=>by cases h⟩
 ·exact trodAll_mk1 (shut_bool Tryz.underlying4 _)
 ·have h9:=trodAll_mk1 (Below.trod Zme (by kernel_rfl) (of_decide_eq_true (by kernel_rfl)) h0 bel hlt0)
  first | exact h9 | (simp only[List.append_nil,List.nil_append] at h9;exact h9) | (simp only[← List.append_assoc,List.append_nil,List.nil_append] at h9;exact h9) | (simpa using h9)
 ·rfl
end Go.Proofs.YtmpaflidennnoaaGreatDoor
