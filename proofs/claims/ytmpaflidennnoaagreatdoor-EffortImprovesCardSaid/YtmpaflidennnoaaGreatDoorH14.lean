/- The parts EEmpty, EffH, EGreedy1, ETried, ECheckP, EValueX, EGreedyW, EGreedyL, EGreedy. -/
import Derived.Test.YtmpaflidennnoaaGreatDoorH13
import Derived.Deep.OwnRows
import Derived.Deep.LoopGhost
set_option maxRecDepth 100000
set_option maxHeartbeats 4000000
set_option linter.unusedVariables false
set_option linter.unusedSimpArgs false
namespace Go.Proofs.YtmpaflidennnoaaGreatDoor
open Go.RowKit Go.Shelf
attribute [local go_sem ↓] Go.wp_at_zero Go.wp_at_succ
theorem PlanO.toIIL {p:List (List Int)} {N m b:Nat} {pv:Value} {gq gc:Nat->Nat} {w:World} (h:PlanO p N m b pv gq gc w):IIL w pv p:=by
 obtain⟨h1,h2⟩:=id h.outer
 rcases h2 with ⟨h2,h3⟩ | ⟨pb,pc,cur,hv,hb,hg,k1,k2,k3,k4⟩
 ·refine⟨none,0,by rw[h2,h3],Za,Zd,fun hne=>Zpp (List.length_eq_zero_iff.1 h3) hne⟩
 ·refine⟨some ⟨pb,0,none⟩,pc,hv,k1,k2,fun _=>⟨pb,0,rfl,(Zpu hg),fun j hj=>?_⟩⟩
  have ho:=h.outer
  rw[hv] at ho
  have c1:=World.ownsRow.cellAt ho j Za
  rw[ZhR hj] at c1
  refine⟨_,by rw[Nat.zero_add,Zpn];exact c1,?_⟩
  have hl:=h.len hj
  obtain⟨r1,r2⟩:=id (h.row j hj)
  rcases r2 with ⟨r3,_⟩ | ⟨g',cap',cur',hv',_,hg',l1,l2,_,_⟩
  ·cases r3
  ·injection hv' with e1 e2 e3
   subst e3
   refine⟨some ⟨gq j,0,none⟩,gc j,by rw[hl],Za,l2,fun _=>⟨gq j,0,rfl,(ZoZ (h.row j hj) _ rfl).2,fun i hi=>?_⟩⟩
   have c2:=World.ownsRow.cellAt (h.row j hj) i Za
   rw[Zcy hi] at c2
   unfold IntR
   rw[Nat.zero_add,Zpn,c2]
   simp[List.getD,hi]
theorem Zms (N:Nat):ints (List.replicate N 0)=(madeCells #[(.int .i64 0:Value)] N).toList:=by
 rw[toList_madeCells_one]
 simp[ints]
theorem Zh6 (t:TaskP) {k:Nat} (hk:k<t.hours.length):(ZZ t).take (k+1)=(ZZ t).take k++[List.replicate t.sites.length 0]:=by
 have hl:k<(ZZ t).length:=by simpa[ZZ] using hk
 rw[List.take_add_one,Zo6 hl]
 simp[ZZ]
theorem Zmo {t:TaskP} {sv hv rv:Value} {w:World} (ht:TaskIn t sv hv rv w) (hT:t.hours.length<=8) (hN:1<=t.sites.length/\t.sites.length<=24) :
  Calls Tryz.prog 49 #[.agg #[sv,hv,rv]] w (fun e w'=>∃ pv,e=.returned pv/\IIL w' pv (ZZ t)/\Below w.heap.size w w'):=by
 obtain⟨ps,cs,rfl,_⟩:=ht.sites.shape rfl
 obtain⟨ph,ch,rfl,_⟩:=ht.hours.shape rfl
 obtain⟨pr,cr,rfl,_⟩:=ht.rates.shape rfl
 obtain⟨N,hN'⟩:=ZpB t.sites.length
 obtain⟨T,hT'⟩:=ZpB t.hours.length
 obtain⟨nr,hnr⟩:=ZpB t.rates.length
 have HNN:=Zpz hN'
 have HTT:=Zpz hT'
 have hpl:(ZZ t).length=T:=by simp[ZZ,hT']
 have HPT:=Zpz hpl
 rw[hN'] at hN ⊢
 rw[hT'] at hT ⊢
 rw[hnr]
 clear ht hN' hT' hnr hpl
 obtain⟨G,hG⟩:=ZpB w.heap.size
 obtain⟨w1,hw1⟩:=ZpB (w.alloc (.cells #[.slice ps N cs,.slice ph T ch,.slice pr nr cr] 26))
 have HB1:Zpt w w1:=by rw[<- hw1];exact(ZoL _ w).alloc ZpA _
 have hb1:w1.heap[G]?=some (.cells #[.slice ps N cs,.slice ph T ch,.slice pr nr cr] 26):=by rw[<- hw1,<- hG];exact ZoO w _
 have HC1:=Zpz hb1
 have hs1:w1.heap.size=G+1:=by rw[<- hw1,<- hG];simp
 have c0:=Zn hb1 0 (v:=.slice ps N cs) rfl
 have c1:=Zn hb1 1 (v:=.slice ph T ch) rfl
 obtain⟨i0,hi,hz0,hz1,hz2⟩:=info_parts ZcQ
 have HGG:=Zpz hG
 go_enter Tryz.func49,Tryz.ntmps49
 go_wp2_with fail
 have HP0:Hid (PlanO ((ZZ t).take 0) N G G (.slice none 0 0) (fun _=>0) (fun _=>0) w1):=⟨World.ownsRow_nil _ _ _ _,fun u hu=>by simp at hu,fun u v hu=>by simp at hu,by simp[Value.ownBlock],fun u hu=>by simp at hu⟩
 clear c0 c1 hb1 hw1 hs1 hG
 go_loopw [3,7] (fun pvv iv wr=>∃ (k:Nat) (gq gc:Nat->Nat),iv=.int .i64 k/\k<=T/\Hid (PlanO ((ZZ t).take k) N G G pvv gq gc wr)/\Hid (wr.heap[G]?=some (.cells #[.slice ps N cs,.slice ph T ch,.slice pr nr cr] 26))/\Zpt w wr) (fun _ iv _=>T-(intOf iv).toNat)
 case atStart=>exact⟨0,_,_,rfl,ZoY _,HP0,HC1,HB1⟩
 case round=>
  obtain⟨k,gq,gc,rfl,hk,HP,HW,HB⟩:=hrel
  clear HP0 HC1 HB1
  by_cases hlt:k<T
  ·have hkl:((ZZ t).take k).length=k:=by rw[Zpr,HPT.out];omega
   have HKL:=Zpz hkl
   have c0:=Zn HW.out 0 (v:=.slice ps N cs) rfl
   have c1:=Zn HW.out 1 (v:=.slice ph T ch) rfl
   have hmk:(Instr.makeSlice 23 (.int .i64 N) (.int .i64 N)).run Tryz.prog wr=.ok (.slice (some ⟨wr.heap.size,0,none⟩) N N) (wr.alloc (.cells (madeCells #[(.int .i64 0:Value)] N) 3)):=
    run_make_row' _ _ _ _ Tryz.underlying23 Zdb rfl .i64 .i64 N Za Za wr
   clear hkl
   obtain⟨pq,pn,pcap,rfl⟩:∃ p n c,u3=Value.slice p n c:=by
    obtain⟨_,h2⟩:=HP.out.outer
    rcases h2 with ⟨h2,_⟩ | ⟨g,cap,_,h2,_⟩
    ·exact⟨_,_,_,h2⟩
    ·exact⟨_,_,_,h2⟩
   obtain⟨q,hq⟩:=ZpB wr.heap.size
   obtain⟨V2,hV2⟩:=ZpB ((wr.alloc (.cells (madeCells #[(.int .i64 0:Value)] N) 3)).alloc (.cells #[.slice (some ⟨q,0,none⟩) N N] 23))
   have hal:Below wr.heap.size wr V2:=by rw[<- hV2];exact((ZoL _ wr).alloc ZpA _).alloc Zc _
   have hGw:G<wr.heap.size:=(Zpu HW.out)
   have hnews:=Zcv (wr.alloc (.cells (madeCells #[(.int .i64 0:Value)] N) 3)) (.slice (some ⟨q,0,none⟩) N N) 23
   rw[hV2,Zpa,hq] at hnews
   have hrow:V2.ownsRow (G+1) 3 1 (.slice (some ⟨q,0,none⟩) N N) N (ints (List.replicate N 0)):=by
    have h1:=World.ownsRow_lit (e:=3) (size:=1) (base:=G+1) wr (madeCells #[(.int .i64 0:Value)] N) N Za (by unfold maxLen;omega) (by rw[size_madeCells,Zpn])
    rw[<- Zms,hq] at h1
    rw[<- hV2]
    exact ZT h1 fun x hx=>Zo1 _ _ _ (ZoZ h1 x hx).2
   have HROW:=Zpz hrow
   have HW2:Hid (V2.heap[G]?=some (.cells #[.slice ps N cs,.slice ph T ch,.slice pr nr cr] 26)):=(hal.block _ hGw).trans HW.out
   have HP2:Hid (PlanO ((ZZ t).take k) N G G (.slice pq pn pcap) gq gc V2):=HP.out.keep (hal.keepsS _)
   have HB2:Zpt w V2:=HB.out.trans (hal.mono HB.out.size)
   have hgo:∀ u,u<((ZZ t).take k).length->gq u≠q:=fun u hu e=>by have:=(HP.out.gt hu).2;omega
   have hgp:(Value.slice pq pn pcap).ownBlock≠some q:=fun e=>by have:=(ZoZ HP.out.outer q e).2;omega
   have HGO:=Zpz (Zpq hgo hgp)
   have hown2:=HP2.out.outer
   have h2s:G+1<=V2.heap.size/\G<V2.heap.size/\G<q:=by have:=hal.size;omega
   have hmk2:(Instr.makeSlice 23 (.int .i64 N) (.int .i64 N)).run Tryz.prog wr=.ok (.slice (some ⟨q,0,none⟩) N N) (wr.alloc (.cells (madeCells #[(.int .i64 0:Value)] N) 3)):=by rw[hmk,hq]
   have HSZ:=Zpz hq
   clear hmk hrow hgo hgp hal hGw HW HP HB
   go_wp2_with (at_builtin;go_loud (refine wpList_append_lies _ rfl (.tmp 9) (.tmp 14) 29 rfl (G+1) 23 i0 (.slice none 0 0) 1 24 Tryz.underlying29 hi hz0 hz1 hz2 rfl Zd (.slice pq pn pcap) _ _ rfl hown2 ⟨q+1,0,none⟩ 1 1 [.slice (some ⟨q,0,none⟩) N N] rfl rfl hnews (by simp[Value.oneCell']) Zd (by rw[HKL.out];unfold maxLen;omega) (by rw[HKL.out];omega) Za V2.heap.size rfl ?_);intro g2 cap2 V3 hown3 hgrow hor hlt3)
   have hsn:=HP2.out.snoc HROW.out Za HGO.out.1 HGO.out.2 h2s.2.1 hown3 hgrow (by
    rcases hor with h | h
    ·exact .inl (by rw[h];rfl)
    ·exact .inr ⟨g2,rfl,Za⟩)
   have hne:(Value.slice pq pn pcap).ownBlock≠some G:=HP2.out.out.1
   have HW3:Hid (V3.heap[G]?=some (.cells #[.slice ps N cs,.slice ph T ch,.slice pr nr cr] 26)):=(hgrow.block _ Za (fun e=>hne e.symm)).trans HW2.out
   have HB3:Zpt w V3:=HB2.out.grown hgrow (by have:=HB2.out.size;omega) (fun x hx=>by have:=(ZoZ HP2.out.outer x hx).1;have:=HGG.out;omega)
   rw[HKL.out] at hsn
   rw[<- HNN.out,<- Zh6 t (by rw[HTT.out];exact hlt),HNN.out] at hsn
   have HSN:=Zpz hsn
   have hmin:min k (ZZ t).length=k:=by rw[HPT.out];omega
   clear hsn hne hown3 hgrow hor hlt3
   try rw[hmin]
   go_roundw
   case rel=>exact⟨k+1,_,_,by go_num,Za,HSN,HW3,HB3⟩
   case measure=>exact Zj
  ·obtain rfl:k=T:=Za
   have HPF:=Zpz (IIL.stay2 HP.out.toIIL (ZoL wr.heap.size wr) ZpA)
   have e:(ZZ t).take k=ZZ t:=by rw[<- HPT.out,List.take_length]
   rw[e] at HPF
   go_wp2
   exact ZoM (by simp[results,Tryz.f49,go_sem]) rfl ⟨_,rfl,HPF.out,HB.out⟩
theorem ZcK {p:List (List Int)} {u i:Nat} (d:Int) (hu:u<p.length) (hi:i<p[u].length) (v:Nat):∀ n,ZX (bump p u i d) v n=ZX p v n+if v=u/\i<n then d else 0
 | 0=>by simp[ZX]
 | n+1=>by
  unfold ZX
  rw[ZcK d hu hi v n]
  by_cases hv:v=u
  ·subst hv
   by_cases hn:i=n
   ·subst hn
    rw[Zd8 hu hi,if_neg Za,if_pos ⟨rfl,Za⟩]
    omega
   ·rw[Zbo (.inr fun e=>hn e.symm)]
    by_cases hl:i<n
    ·rw[if_pos ⟨rfl,hl⟩,if_pos ⟨rfl,Za⟩];omega
    ·rw[if_neg Za,if_neg Za];omega
  ·rw[Zbo (.inl hv),if_neg (fun h=>hv h.1),if_neg (fun h=>hv h.1)]
   omega
theorem ZlA {t:TaskP} {p:List (List Int)} {u i:Nat} (d:Int) (hu:u<p.length) (hi:i<p[u].length) (hN:i<t.sites.length) (v:Nat):ZaI t (bump p u i d) v=ZaI t p v-if v=u then d else 0:=by
 unfold ZaI
 rw[ZcK d hu hi]
 by_cases hv:v=u
 ·rw[if_pos ⟨hv,hN⟩,if_pos hv];omega
 ·rw[if_neg (fun h=>hv h.1),if_neg hv];omega
def Zco (t:TaskP) (p:List (List Int)):Nat->Nat
 | 0=>0
 | n+1=>Zco t p n+(ZaI t p n).toNat
theorem ZfN {t:TaskP} {p:List (List Int)} {u i:Nat} (hu:u<p.length) (hi:i<p[u].length) (hN:i<t.sites.length) (hf:0<ZaI t p u):∀ n,Zco t (bump p u i 1) n+(if u<n then 1 else 0)=Zco t p n
 | 0=>by simp[Zco]
 | n+1=>by
  have h:=ZfN hu hi hN hf n
  unfold Zco
  rw[ZlA 1 hu hi hN n]
  by_cases hv:n=u
  ·subst hv
   rw[if_neg Za] at h
   rw[if_pos rfl,if_pos Za]
   omega
  ·rw[if_neg hv]
   by_cases hl:u<n
   ·rw[if_pos hl] at h
    rw[if_pos Za]
    omega
   ·rw[if_neg hl] at h
    rw[if_neg Za]
    omega
theorem ZeS {p:List (List Int)} {u:Nat} : ∀ {n:Nat},(∀ i,i<n->0<=pN p u i)->0<=ZX p u n/\∀ i,i<n->pN p u i<=ZX p u n
 | 0,_=>⟨Int.le_refl _,fun i hi=>Zpp hi (Zpb _)⟩
 | n+1,h=>by
  obtain⟨h1,h2⟩:=ZeS (n:=n) fun i hi=>h i Za
  have h3:=h n Za
  unfold ZX
  refine⟨Za,fun i hi=>?_⟩
  rcases ZoR i n with h4 | h4
  ·have:=h2 i h4
   omega
  ·obtain rfl:i=n:=Za
   omega
theorem ZhM {t:TaskP} {p:List (List Int)} (ok:PlanOk t p):∀ n,n<=p.length->Zco t p n<=48*n
 | 0,_=>Nat.le_refl _
 | n+1,h=>by
  have h1:=ZhM ok n Za
  have h2:=(ZeS fun i hi=>(ok.hour n i Za hi).1.1:0<=ZX p n t.sites.length/\_).1
  have h3:=(ok.task.team n (by rw[ok.task.rates,<- ok.teams];omega)).1
  unfold Zco ZaI
  omega
theorem ZlT {t:TaskP} {p:List (List Int)} {u i:Nat} (h:0<ZaQ t p u i):rR t u i≠0:=fun e=>by
 unfold ZaQ at h
 rw[e,Rat.add_zero,Rat.sub_self,Rat.mul_zero] at h
 exact Zpp h (Rat.lt_irrefl)
theorem PlanOk.bump {t:TaskP} {p:List (List Int)} (ok:PlanOk t p) {u i:Nat} (hu:u<p.length) (hi:i<t.sites.length) (hf:0<ZaI t p u) (hr:rR t u i≠0):PlanOk t (bump p u i 1):=by
 have hi':i<p[u].length:=by rw[ok.row u hu];exact hi
 have h48:=(ok.task.team u (by rw[ok.task.rates,<- ok.teams];exact hu)).1
 refine⟨ok.task,by rw[Zad];exact ok.teams,fun v hv=>?_,fun v j hv hj=>?_,fun v hv=>?_⟩
 ·rw[ZeM hv]
  exact ok.row v (by simpa[Go.Proofs.YtmpaflidennnoaaGreatDoor.bump] using hv)
 ·rw[Zad] at hv
  have h0:=ok.hour v j hv hj
  by_cases e:v=u/\j=i
  ·obtain⟨rfl,rfl⟩:=e
   have hs:=(ZeS fun i hi=>(ok.hour v i hu hi).1.1:0<=ZX p v t.sites.length/\_).2 j hj
   unfold ZaI at hf
   unfold Zbm at h0 ⊢
   rw[Zd8 hu hi']
   exact⟨Za,fun _=>hr⟩
  ·unfold Zbm
   rw[Zbo (by by_cases h:v=u;exact .inr fun h2=>e ⟨h,h2⟩;exact .inl h)]
   exact h0
 ·rw[Zad] at hv
  have h0:=ok.sum v hv
  rw[ZcK 1 hu hi']
  split
  ·rename_i h
   obtain⟨rfl,_⟩:=h
   unfold ZaI at hf
   omega
  ·omega
theorem Zku (t:TaskP) (u i:Nat):pN (ZZ t) u i=0:=by
 unfold pN ZZ
 by_cases hu:u<t.hours.length
 ·by_cases hi:i<t.sites.length
  ·simp[List.getD,hu,hi]
  ·simp[List.getD,hu,hi]
 ·simp[List.getD,hu]
theorem ZiP (t:TaskP) (u:Nat):∀ n,ZX (ZZ t) u n=0
 | 0=>rfl
 | n+1=>by
  unfold ZX
  rw[ZiP t u n,Zku]
  rfl
theorem ZjK {t:TaskP} (ok:TaskOk t):PlanOk t (ZZ t):=by
 refine⟨ok,by simp[ZZ],fun u hu=>by simp[ZZ],fun u i hu hi=>?_,fun u hu=>?_⟩
 ·unfold Zbm
  rw[Zku]
  exact⟨Zd,fun h=>Zpp h Zd⟩
 ·rw[ZiP]
  exact(ok.team u (by rw[ok.rates];simpa[ZZ] using hu)).1.1
abbrev wkO (b:Nat):Obj:=.cells #[.pointer (some ⟨b,0,none⟩)] 89
theorem Zjz {t:TaskP} {p:List (List Int)} {b m n Bs:Nat} {sv hv rv pv:Value} {pb po pc:Nat} {gq gp gc:Nat->Nat} {w:World} (h:WorkW t b m sv hv rv pv w) (hP:PlanW p t.sites.length m pv pb po pc gq gp gc w) (hm:Memo w m t n) (hn:n<=900000000000) (ok:TaskOk t) (inn:Zbz t p)
  (hB:w.heap[Bs]?=some (wkO b)) {u i:Nat} (hu:u<t.rates.length) (hi:i<t.sites.length) :
  Calls Tryz.prog 112 #[spV u i,.pointer (some ⟨Bs,0,none⟩)] w (Zel (ZaQ t p u i) m t (n+4) w):=by
 have hk0:∀ o1 o2,Keeps (NotM m) w ((w.alloc o1).alloc o2):=fun o1 o2=>((Keeps.refl _ w).alloc o1).alloc o2
 obtain⟨G,hG⟩:=ZpB w.heap.size
 obtain⟨V,hV⟩:=ZpB ((w.alloc (spO u i)).alloc (pObj Zpv Zpv))
 have hkV:Keeps (NotM m) w V:=by rw[<- hV];exact((Keeps.refl _ w).alloc _).alloc _
 have hbV:Below w.heap.size w V:=by rw[<- hV];exact((ZoL _ w).alloc ZpA _).alloc Zc _
 have hmG:m<G:=by have:=hm.lt;omega
 have HB:=Zpz (Zn ((hkV.at hB (by
  intro e
  subst e
  obtain⟨es,_,h1,_⟩:=hm
  rw[h1] at hB
  cases hB)):V.heap[Bs]?=some (wkO b)) 0 (v:=.pointer (some ⟨b,0,none⟩)) rfl)
 have b0:=HB.out
 have g0:V.heap[G]?=some (spO u i):=by
  rw[<- hV,<- hG]
  exact(Zo1 _ _ _ Zc).trans (ZoO w _)
 have g1:V.heap[G+1]?=some (pObj Zpv Zpv):=by
  rw[<- hV,<- hG]
  have:=ZoO (w.alloc (spO u i)) (pObj Zpv Zpv)
  rwa [Zpa] at this
 have a0:=Zn g0 0 (v:=.int .i64 u) rfl
 have a1:=Zn g0 1 (v:=.int .i64 i) rfl
 have HC:=Zpz (Zl3 (h.keep hkV) (hP.keep hkV) (hm.step hbV) hn ok inn hu hi)
 have HG1:=Zpz g1
 have HKV:=Zpz hkV
 clear h hP hm hB hbV hkV g0 g1 hk0
 go_enter Tryz.func112,Tryz.ntmps112
 go_wp2_with fail
 refine HC.out.mono ?_
 rintro e w2 ⟨x,y,rfl,hx,hk,hm⟩
 have h1:w2.heap[G+1]?=some (pObj Zpv Zpv):=hk.at HG1.out (by show G+1≠m;omega)
 have H1:=Zpz h1
 have HX:=Zpz hx
 have HM:=Zpz hm
 have HK:=Zpz hk
 have c0:=Zn h1 0 (v:=.string Zpv) rfl
 have c1:=Zn h1 1 (v:=.string Zpv) rfl
 have f0:=Zo h1 0
 have f1:=Zo h1 1
 clear h1 hx hm hk HC a0 a1 b0
 go_wp2
 obtain⟨q0,q1⟩:=Zu H1.out (.string x) (.string y)
 refine ZoM (v:=pV x y) (by simp[results,Tryz.f112,go_sem,q0,q1]) rfl ⟨x,y,rfl,HX.out,?_,HM.out.stay ((ZoN _ _ _ _ (by show m≠G+1;omega)).trans (ZoN _ _ _ _ (by show m≠G+1;omega)))⟩
 exact(HKV.out.trans HK.out).via (S':=fun c=>c≠G+1) (((Keeps.refl _ w2).setCell Zc _).setCell Zc _) (fun c hc _=>by show c≠G+1;omega)
theorem Zj6 {f:Nat} {v:Value} (hent:∀ args w,(callFunc f args).run Tryz.prog w=.ok (.enter f args) w) {Q:Int->World->Prop} {S:Nat->Prop} {w:World} (hS:∀ b,w.heap.size<=b->S b)
  (hQ:∀ n W W',Q n W->Keeps (fun b=>b≠w.heap.size) W W'->Q n W')
  (hdo:Calls Tryz.prog f #[v] (w.alloc (erO 0)) (ZgO Q S (w.alloc (erO 0)))) :
  Calls Tryz.prog 50 #[.func (.func f) #[v] #[]] w (Zej Q S w):=by
 have hmf:∀ (fn:Fn) (first cap:Array Value) (w:World),(Instr.makeFunc fn first cap).run Tryz.prog w=.ok (.func fn first cap) w:=fun _ _ _ _=>rfl
 have HD:=Zpz hdo
 have HQ:=Zpz hQ
 have HSS:=Zpz hS
 clear hdo hQ hS
 go_enter_defers Tryz.func50,Tryz.ntmps50
 go_wp2_with fail
 refine HD.out.mono ?_
 rintro e w2 ⟨n,hE,hA,hk⟩
 have he2:w2.heap[w.heap.size]?=some (erO 0):=(hk.block _ Zc (HSS.out _ ZpA)).trans (ZoO w _)
 have HA:=Zpz hA
 have HK2:Hid (Keeps S w w2):=((Keeps.refl S w).alloc _).trans hk
 obtain⟨p,hpp⟩:=ZpB w.heap.size
 rw[hpp] at he2 ⊢
 have HPP:=Zpz hpp
 clear hk hA hpp HD
 rcases hE with ⟨rfl,rfl⟩ | ⟨hn,rfl⟩
 ·have d0:=Zn he2 0 rfl
  have g0:=Zo he2 0
  have HE2:=Zpz he2
  clear he2
  go_wp2
  obtain⟨w3,hw3⟩:=ZpB ((w2.setCell ⟨p,0,none⟩ (.int .i64 0)))
  have he3:w3.heap[p]?=some (erO 0):=by rw[<- hw3];exact ZoQ HE2.out _
  have hk3:Keeps (fun b=>b≠p) w2 w3:=by rw[<- hw3];exact(Keeps.refl _ w2).setCell (p:=⟨p,0,none⟩) (fun h=>h rfl) _
  rw[hw3]
  clear hw3 d0 g0
  have hl3:=(Zpu he3)
  refine leaves_cons (f:=109) (args:=#[.pointer (some ⟨p,0,none⟩)]) Zc (by simp[go_sem]) ?_
  refine(Zfp p _).mono ?_
  rintro e u' w'' ⟨rfl,rfl,rfl⟩
  have q2:(w3.alloc (miO 0)).cell? ⟨p,0,none⟩=some (.int .i64 0):=(Zai _ _ _ hl3).trans (Zn he3 0 rfl)
  have hk4:Keeps (fun b=>b≠p) w2 (w3.alloc (miO 0)):=hk3.alloc _
  refine⟨.int .i64 0,by simp[results,Tryz.f50,go_sem,q2],0,rfl,HQ.out _ _ _ HA.out (by rw[HPP.out];exact hk4),?_⟩
  have h1:=HK2.out
  refine⟨hk4.os.trans h1.os,hk4.tape.trans h1.tape,hk4.output.trans h1.output,ZoU h1.size hk4.size,fun k hk hs=>?_⟩
  have hkp:k≠p:=by have:=HPP.out;omega
  exact(hk4.block k (ZoS hk h1.size) hkp).trans (h1.block k hk hs)
 ·unfold ZdO
  refine leaves_cons (f:=109) (args:=#[.pointer (some ⟨p,0,none⟩)]) Zc (by simp[go_sem]) ?_
  refine(Zdp p n [] _ he2).mono ?_
  rintro e u' w3 ⟨rfl,rfl,he3,hk4⟩
  have q2:w3.cell? ⟨p,0,none⟩=some (.int .i64 n):=Zn he3 0 rfl
  refine⟨.int .i64 n,by simp[results,Tryz.f50,go_sem,q2],n,rfl,HQ.out _ _ _ HA.out (by rw[HPP.out];exact hk4),?_⟩
  have h1:=HK2.out
  refine⟨hk4.os.trans h1.os,hk4.tape.trans h1.tape,hk4.output.trans h1.output,ZoU h1.size hk4.size,fun k hk hs=>?_⟩
  have hkp:k≠p:=by have:=HPP.out;omega
  exact(hk4.block k (ZoS hk h1.size) hkp).trans (h1.block k hk hs)
theorem Ze0 {t:TaskP} (ok:TaskOk t) {u i:Nat} (hu:u<t.rates.length) (hi:i<t.sites.length):(eR t u i=(⟨#[48]⟩,⟨#[49]⟩)/\rR t u i=0)\/((eR t u i).1≠⟨#[48]⟩/\rR t u i≠0):=by
 have h:=(Zd3 ok hu hi).1
 by_cases h0:rR t u i=0
 ·rw[h0] at h
  obtain⟨e1,e2⟩:=h.one Zaf
  exact .inl ⟨Prod.ext e1 e2,h0⟩
 ·exact .inr ⟨fun e=>h0 (ZmV h e),h0⟩
theorem Zfk {s:ByteArray} (h:s≠⟨#[48]⟩):(s.toList==[48])=false:=by
 rw[Bool.eq_false_iff]
 intro e
 refine h ?_
 have h2:s.toList=[48]:=by simpa using e
 rw[Zo8] at h2
 rw[<- Za1 s,h2]
 rfl
theorem Zeo {t:TaskP} {p:List (List Int)} {sv hv rv pv:Value} {w:World} (h:TaskIn t sv hv rv w) (hz:LimT t) (hp:IIL w pv p) :
  Calls Tryz.prog 31 #[.agg #[sv,hv,rv],pv] w (Zkj (PlanOk t p) w):=by
 obtain⟨T,hT⟩:=ZpB p.length
 obtain⟨pp,pc,rfl,hpc1,hpc2⟩:=hp.shape hT
 obtain⟨ps,cs,rfl,hs1,hs2⟩:=h.sites.shape rfl
 obtain⟨ph,ch,rfl,hh1,hh2⟩:=h.hours.shape rfl
 obtain⟨pr,cr,rfl,hr1,hr2⟩:=h.rates.shape rfl
 have HT:=Zpz h
 have HZ:=Zpz hz
 have HP:=Zpz hp
 have HTL:=Zpz hT
 obtain⟨N,hN⟩:=ZpB t.sites.length
 obtain⟨H,hH⟩:=ZpB t.hours.length
 obtain⟨R,hR⟩:=ZpB t.rates.length
 rw[hN] at HT hs1 ⊢
 rw[hH] at HT hh1 ⊢
 rw[hR] at HT hr1 ⊢
 have HN:=Zpz hN
 have HHL:=Zpz hH
 have HRL:=Zpz hR
 have HE0:Hid (Env w.heap.size w [(w.heap.size,.cells #[.slice ps N cs,.slice ph H ch,.slice pr R cr] 26)] [] (w.alloc (.cells #[.slice ps N cs,.slice ph H ch,.slice pr R cr] 26))):=(Env.start w).push _ rfl
 clear h hz hp hT hN hH hR
 go_enter Tryz.func31,Tryz.ntmps31
 go_wp2_with fail
 refine(ZeL (HT.out.below HE0.out.base ZpA) HZ.out).mono ?_
 rintro e w1 ⟨hE,hb⟩
 have HE1:=Zpz (HE0.out.step hb)
 clear hb HE0
 rcases hE with ⟨hok,rfl⟩ | ⟨hok,rfl⟩
 rotate_left
 ·have HNO:Hid (¬ PlanOk t p):=fun k=>hok k.task
  clear hok
  go_wp2
  exact ZoM (v:=.int .i64 2) (by simp[results,Tryz.f31,go_sem]) rfl ⟨.inr ⟨HNO.out,rfl⟩,HE1.out.base⟩
 have HOK:=Zpz hok
 have b1:=HE1.out.cell 0 1 (v:=.slice ph H ch) rfl rfl
 clear hok
 by_cases hTH:T=H
 rotate_left
 ·have HNO:Hid (¬ PlanOk t p):=fun k=>hTH (by have:=k.teams;rw[HTL.out,HHL.out] at this;exact this)
  have hc:((T:Int) !=(H:Int))=true:=by rw[bne_iff_ne];omega
  clear hTH
  go_wp2
  exact ZoM (v:=.int .i64 2) (by simp[results,Tryz.f31,go_sem]) rfl ⟨.inr ⟨HNO.out,rfl⟩,HE1.out.base⟩
 subst hTH
 have hc:((T:Int) !=(T:Int))=false:=Zc
 have hRT:R=T:=by rw[<- HRL.out,HOK.out.rates,HHL.out]
 subst hRT
 obtain⟨sb,so,sc,hb',ho,hc',rb,ro,rk,cv,rq,rp,rc,es,eh,er,k1,k2,k3,hA⟩:=HT.out.open HOK.out
 rw[HN.out] at es
 rw[HHL.out] at eh
 rw[HRL.out] at er
 injection es with es1 es2 es3
 injection eh with eh1 eh2 eh3
 injection er with er1 er2 er3
 subst es1 eh1 er1
 have HA:=Zpz hA
 have hN24:1<=N/\N<=24:=by rw[<- HN.out];exact HOK.out.sites
 have hT8:1<=R/\R<=8:=by rw[<- HHL.out];exact HOK.out.teams
 clear hA k1 k2 k3 es2 es3 eh2 eh3 er2 er3
 go_wp2_with fail
 clear b1 hc
 go_loopw [25] (fun iv wr=>∃ k:Nat,iv=.int .i64 k/\k<=R/\Hid (∀ u,u<k->(p.getD u []).length=N/\(∀ i,i<N->Zbm t p u i)/\ZX p u N<=eH t u)/\Hid (Env w.heap.size w [(w.heap.size,.cells #[.slice (some ⟨sb,so,none⟩) N cs,.slice (some ⟨hb',ho,none⟩) R ch,.slice (some ⟨rb,ro,none⟩) R cr] 26)] [] wr)) (fun iv _=>R-(intOf iv).toNat)
 case atStart=>exact⟨0,rfl,ZoY _,fun i h=>Zpp h (Zpb _),HE1⟩
 case round=>
  clear HE1
  obtain⟨u,rfl,hu,HU,HE⟩:=hrel
  have b0:=HE.out.cell 0 0 (v:=.slice (some ⟨sb,so,none⟩) N cs) rfl rfl
  have b1:=HE.out.cell 0 1 (v:=.slice (some ⟨hb',ho,none⟩) R ch) rfl rfl
  by_cases hlt:u<R
  ·obtain⟨qb,qo,rfl,hqb,hat⟩:=HP.out.at IIL.stays HTL.out Za
   have hul:u<p.length:=by rw[HTL.out];exact hlt
   obtain⟨v,e0',hil⟩:=hat w (ZoL _ w) u hul
   rw[Zpn] at e0'
   have e0:=(HE.out.base.cell (p:=⟨qb,qo+u,none⟩) hqb).trans e0'
   clear e0'
   obtain⟨l,hl⟩:=ZpB (p[u])
   rw[hl] at hil
   obtain⟨n,hn⟩:=ZpB l.length
   obtain⟨lp,lc,rfl,hlc1,hlc2⟩:=hil.shape hn
   have HL:Hid (p.getD u []=l):=by show _=_;rw[<- hl];simp[List.getD,hul]
   have HLG:Hid (p[u]'(hul)=l):=hl
   have HNN:=Zpz hn
   have HIL:Hid (∀ V,Below w.heap.size w V->IL V (.slice lp n lc) l):=fun V hV=>hil.after IntR.stays hV ZpA
   have i0':(0:Int)<=(u:Int):=Za
   have i1':(u:Int)<(R:Int):=Za
   clear hat hl hn hil
   by_cases hnN:n=N
   rotate_left
   ·have HNO:Hid (¬ PlanOk t p):=fun k=>hnN (by have:=k.row u hul;rw[HLG.out,HNN.out,HN.out] at this;exact this)
    have hc:((n:Int) !=(N:Int))=true:=by rw[bne_iff_ne];omega
    clear hnN
    go_wp2
    exact ZoM (v:=.int .i64 2) (by simp[results,Tryz.f31,go_sem]) rfl ⟨.inr ⟨HNO.out,rfl⟩,HE.out.base⟩
   subst hnN
   have hc:((n:Int) !=(n:Int))=false:=Zc
   obtain⟨lb,lo,rfl,hlb,hlat⟩:=(HIL.out w (ZoL _ _)).at IntR.stays HNN.out Za
   have HLA:Hid (∀ V,Below w.heap.size w V->∀ j,j<n->V.cell? ⟨lb,lo+j,none⟩=some (.int .i64 (pN p u j))):=fun V hV j hj=>by
    have h1:=hlat V hV j (by rw[HNN.out];exact hj)
    unfold IntR at h1
    rw[Zpn] at h1
    rw[show pN p u j=l[j]'(by rw[HNN.out];exact hj) by unfold pN;rw[HL.out];simp[List.getD,HNN.out,hj]]
    exact h1
   clear hlat
   go_wp2_with fail
   clear b0 b1 e0 hc
   go_loopw [8,38] (fun sv iv wv=>∃ i:Nat,iv=.int .i64 i/\i<=n/\sv=.int .i64 (ZX p u i)/\Hid (∀ j,j<i->Zbm t p u j)/\Hid (Env w.heap.size w [(w.heap.size,.cells #[.slice (some ⟨sb,so,none⟩) n cs,.slice (some ⟨hb',ho,none⟩) R ch,.slice (some ⟨rb,ro,none⟩) R cr] 26)] [] wv)) (fun _ iv _=>n-(intOf iv).toNat)
   case atStart=>exact⟨0,rfl,ZoY _,rfl,fun i h=>Zpp h (Zpb _),HE⟩
   case round=>
    clear HE
    obtain⟨i,rfl,hi,rfl,HH,HEV⟩:=hrel
    have hnd:n=t.sites.length:=HN.out.symm
    by_cases hlt2:i<n
    ·have c0:=HLA.out _ HEV.out.base i hlt2
     obtain⟨m,hm⟩:=ZpB (pN p u i)
     rw[hm] at c0
     have HM:=Zpz hm
     have j0':(0:Int)<=(i:Int):=Za
     have j1':(i:Int)<(n:Int):=Za
     have hlo:n<=lc:=hlc1
     have HRT:Hid (∀ V,Below w.heap.size w V->(V.cell? ⟨rb,ro+u,none⟩=some (.slice (some ⟨rq u,rp u,none⟩) n (rc u))/\V.cell? ⟨rq u,rp u+i*2,none⟩=some (.string (eR t u i).1)/\V.cell? ⟨rq u,rp u+i*2+1,none⟩=some (.string (eR t u i).2))/\EffZ V):=fun V hV=>by
      have A:=HA.out V hV
      obtain⟨a1,_,_,a2⟩:=A.rate u (by rw[HRL.out];exact hlt)
      rw[HN.out] at a1 a2
      exact⟨⟨a1,a2 i hlt2⟩,A.eff⟩
     obtain⟨_,hrc1,hrc2,_⟩:=(HA.out w (ZoL _ _)).rate u (by rw[HRL.out];exact hlt)
     rw[HN.out] at hrc1
     have HRZ:=Zpz (Ze0 HOK.out (u:=u) (i:=i) (by rw[HRL.out];exact hlt) (by rw[HN.out];exact hlt2))
     obtain⟨q1,hq1⟩:=ZpB (rq u)
     obtain⟨o1,ho1⟩:=ZpB (rp u)
     obtain⟨c1,hc1⟩:=ZpB (rc u)
     obtain⟨⟨s1,t1⟩,hs1'⟩:∃ z,eR t u i=z:=⟨_,rfl⟩
     rw[hq1,ho1,hc1,hs1'] at HRT
     rw[hs1'] at HRZ
     rw[hc1] at hrc1 hrc2
     dsimp only at HRT HRZ
     clear hm hq1 ho1 hc1 hs1' hnd
     go_wp2_with fail
     clear c0
     refine ZP [(1,0),(0,1),(1,2),(1,3),(1,4),(1,5),(1,6),(1,7),(1,8),(1,9),(1,10),(1,11),(1,12),(1,13),(1,14),(1,15),(1,16),(1,17),(1,18)] (Env w.heap.size w [(w.heap.size,.cells #[.slice (some ⟨sb,so,none⟩) n cs,.slice (some ⟨hb',ho,none⟩) R ch,.slice (some ⟨rb,ro,none⟩) R cr] 26)] []) (fun _=>false)
      Zb Zb (fun _ _=>rfl) Zi HEV.out.drew ?_
     obtain⟨w4,hw4⟩:=ZpB wr.drew
     have HE4:Hid (Env w.heap.size w [(w.heap.size,.cells #[.slice (some ⟨sb,so,none⟩) n cs,.slice (some ⟨hb',ho,none⟩) R ch,.slice (some ⟨rb,ro,none⟩) R cr] 26)] [] w4):=by rw[<- hw4];exact HEV.out.drew
     rw[hw4]
     clear hw4 HEV
     iterate 1
      refine Zx _ rfl rfl (fun w' hS=>Ze) ?_
      simp only[Act.put,Zl]
     refine Zz 76 _ rfl rfl Zf ?_
     refine(Zcq m 0 48 _).mono ?_
     rintro e w5 ⟨rfl,hb⟩
     have HE5:=Zpz (HE4.out.step hb)
     refine .inl ⟨_,rfl,HE5.out,?_⟩
     clear hb HE4
     simp only[Act.put,Zl]
     by_cases hw:0<=m/\m<=48
     rotate_left
     ·have HNO:Hid (¬ PlanOk t p):=fun k=>hw (by have:=(k.hour u i hul (by rw[HN.out];exact hlt2)).1;rw[HM.out] at this;exact this)
      have hwd:(decide ((0:Int)<=m) && decide (m<=48))=false:=by
       rw[<- Bool.not_eq_true]
       simp only[Zpj,Zpk]
       omega
      rw[hwd]
      clear hw hwd
      iterate 2
       refine Zx _ rfl rfl (fun w' hS=>Ze) ?_
       simp only[Act.put,Zl]
      iterate 14
       refine Zci rfl rfl ?_
       simp only[Act.put,Zl]
      iterate 1
       refine Zx _ rfl rfl (fun w' hS=>Ze) ?_
       simp only[Act.put,Zl]
      refine ZF ?_
      go_wp2
      exact ZoM (v:=.int .i64 2) (by simp[results,Tryz.f31,go_sem]) rfl ⟨.inr ⟨HNO.out,rfl⟩,HE5.out.base⟩
     have hwd:(decide ((0:Int)<=m) && decide (m<=48))=true:=by simp;omega
     rw[hwd]
     clear hwd
     have hs1:=ZeT (p:=p) (u:=u) (N:=i) (fun j hj=>(HH.out j hj).1) i ZpA
     have e1:Hid (IntKind.i64.wrap (ZX p u i+m)=ZX p u (i+1)):=by
      show _=_
      rw[Zpm _ Za]
      show _=ZX p u i+pN p u i
      rw[HM.out]
     have HHN:Hid (Zbm t p u i->∀ j,j<i+1->Zbm t p u j):=fun h j hj=>by
      rcases ZoR j i with h1 | h1
      ·exact HH.out j h1
      ·obtain rfl:j=i:=Za
       exact h
     clear hs1
     iterate 2
      refine Zx _ rfl rfl (fun w' hS=>Ze) ?_
      simp only[Act.put,Zl]
     by_cases hm0:0<m
     rotate_left
     ·have HOKI:=Zpz (HHN.out ⟨by rw[HM.out];exact hw,fun h=>Zpp (by rw[HM.out] at h;exact h) hm0⟩)
      have e1':=e1.out
      clear hw
      iterate 3
       refine Zx _ rfl rfl (fun w' hS=>Ze) ?_
       simp only[Act.put,Zl]
      iterate 10
       refine Zci rfl rfl ?_
       simp only[Act.put,Zl]
      iterate 2
       refine Zx _ rfl rfl (fun w' hS=>Ze) ?_
       simp only[Act.put,Zl]
      refine ZF ?_
      go_wp2
      go_roundw
      case rel=>exact⟨i+1,by go_num,Za,by first | rfl | rw[e1.out],HOKI,HE5⟩
      case measure=>exact Zj
     rcases HRZ.out with ⟨hz,hz0⟩ | ⟨hz,hz0⟩
     ·have HNO:Hid (¬ PlanOk t p):=fun k=>(k.hour u i hul (by rw[HN.out];exact hlt2)).2 (by rw[HM.out];exact hm0) hz0
      injection hz with hz1 hz2
      subst hz1 hz2
      clear hw hz0
      iterate 15
       refine Zx _ rfl rfl (fun w' hS=>by have c2:=hS.cell 0 2 (v:=.slice (some ⟨rb,ro,none⟩) R cr) rfl rfl;obtain⟨⟨a0,a1,a2⟩,z0,z1⟩:=HRT.out _ hS.base;exact Ze) ?_
       simp only[Act.put,Zl]
      refine ZF ?_
      go_wp2
      exact ZoM (v:=.int .i64 2) (by simp[results,Tryz.f31,go_sem]) rfl ⟨.inr ⟨HNO.out,rfl⟩,HE5.out.base⟩
     ·have HOKI:=Zpz (HHN.out ⟨by rw[HM.out];exact hw,fun _=>hz0⟩)
      have e1':=e1.out
      have hzt:=Zfk hz
      clear hw hz0 hz
      iterate 12
       refine Zx _ rfl rfl (fun w' hS=>by have c2:=hS.cell 0 2 (v:=.slice (some ⟨rb,ro,none⟩) R cr) rfl rfl;obtain⟨⟨a0,a1,a2⟩,z0,z1⟩:=HRT.out _ hS.base;exact Ze) ?_
       simp only[Act.put,Zl]
      refine Zx (.bool false) rfl rfl (fun w' hS=>by go_simp) ?_
      simp only[Act.put,Zl]
      iterate 2
       refine Zx _ rfl rfl (fun w' hS=>Ze) ?_
       simp only[Act.put,Zl]
      refine ZF ?_
      go_wp2
      go_roundw
      case rel=>exact⟨i+1,by go_num,Za,by first | rfl | rw[e1.out],HOKI,HE5⟩
      case measure=>exact Zj
    ·have hin:i=n:=Za
     have hh1:=HEV.out.cell 0 1 (v:=.slice (some ⟨hb',ho,none⟩) R ch) rfl rfl
     have a1:=(HA.out _ HEV.out.base).hour u (by rw[HHL.out];exact hlt)
     obtain⟨hh,hhh⟩:=ZpB (eH t u)
     rw[hhh] at a1
     have HHH:=Zpz hhh
     clear hhh
     by_cases hs:hh<ZX p u i
     ·have HNO:Hid (¬ PlanOk t p):=fun k=>by
       have:=k.sum u hul
       rw[HN.out,HHH.out,<- hin] at this
       omega
      clear hin
      go_wp2
      exact ZoM (v:=.int .i64 2) (by simp[results,Tryz.f31,go_sem]) rfl ⟨.inr ⟨HNO.out,rfl⟩,HEV.out.base⟩
     ·have HU2:Hid (∀ v,v<u+1->(p.getD v []).length=n/\(∀ i,i<n->Zbm t p v i)/\ZX p v n<=eH t v):=fun v hv=>by
       rcases ZoR v u with h1 | h1
       ·exact HU.out v h1
       ·obtain rfl:v=u:=Za
        refine⟨by rw[HL.out,HNN.out],fun j hj=>HH.out j Za,?_⟩
        rw[<- hin,HHH.out]
        omega
      clear hin
      go_wp2
      go_roundw
      case rel=>exact⟨u+1,by go_num,Za,HU2,HEV⟩
      case measure=>exact Zj
  ·have huR:u=R:=Za
   have HYES:Hid (PlanOk t p):=by
    refine⟨HOK.out,by rw[HTL.out,HHL.out],fun v hv=>?_,fun v i hv hi=>?_,fun v hv=>?_⟩
    ·have h1:=(HU.out v (by rw[huR,<- HTL.out];exact hv)).1
     rw[show p[v]=p.getD v [] by simp[List.getD,hv],h1,HN.out]
    ·exact(HU.out v (by rw[huR,<- HTL.out];exact hv)).2.1 i (by rw[<- HN.out];exact hi)
    ·rw[HN.out]
     exact(HU.out v (by rw[huR,<- HTL.out];exact hv)).2.2
   clear huR HU
   go_wp2
   exact ZoM (v:=.int .i64 0) (by simp[results,Tryz.f31,go_sem]) rfl ⟨.inl ⟨HYES.out,rfl⟩,HE.out.base⟩
theorem PlanOk.len8 {t:TaskP} {p:List (List Int)} (h:PlanOk t p):0<p.length/\p.length<=8:=by
 have h1:=h.task.teams
 have h2:=h.teams
 omega
def ResQ (A:ByteArray->ByteArray->Int->Prop) (g:Nat) (n:Int) (V:World):Prop:=∃ x y,V.heap[g]?=some (pObj x y)/\A x y n
theorem ResQ.stay {A:ByteArray->ByteArray->Int->Prop} {g h:Nat} (hne:g≠h) (n:Int) (W W':World) (q:ResQ A g n W) (hk:Keeps (fun b=>b≠h) W W'):ResQ A g n W':=by
 obtain⟨x,y,h1,h2⟩:=q
 exact⟨x,y,hk.at h1 hne,h2⟩
abbrev efO (sv hv rv:Value):Obj:=.cells #[sv,hv,rv] 26
abbrev plO (pv:Value):Obj:=.cells #[pv] 29
theorem Zk5 {t:TaskP} {p:List (List Int)} {Ge Gp Gr:Nat} {ps ph pr pp:Option Addr} {ns nh nr np cs ch cr cp:Nat} {W:World} (he:W.heap[Ge]?=some (efO (.slice ps ns cs) (.slice ph nh ch) (.slice pr nr cr))) (hp:W.heap[Gp]?=some (plO (.slice pp np cp))) (hr:W.heap[Gr]?=some (pObj Zpv Zpv))
  (hT:TaskIn t (.slice ps ns cs) (.slice ph nh ch) (.slice pr nr cr) W) (hI:IIL W (.slice pp np cp) p) (ok:PlanOk t p) :
  Calls Tryz.prog 59 #[.pointer (some ⟨Ge,0,none⟩),.pointer (some ⟨Gp,0,none⟩),.pointer (some ⟨Gr,0,none⟩)] W (ZgO (ResQ (SumE (valF t p) t.sites.length) Gr) (fun b=>b≠Gr) W):=by
 have e0:=Zn he 0 (v:=.slice ps ns cs) rfl
 have e1:=Zn he 1 (v:=.slice ph nh ch) rfl
 have e2:=Zn he 2 (v:=.slice pr nr cr) rfl
 have p0:=Zn hp 0 (v:=.slice pp np cp) rfl
 have HBG:=Zpz (Zft hT hI ok.len8.2 ok.task.sites (fun u h=>ok.row u h))
 have HR:=Zpz hr
 have HOK:=Zpz ok
 have hrl:=(Zpu hr)
 clear hT hI he hp hr ok
 go_enter Tryz.func59,Tryz.ntmps59
 go_wp2_with fail
 refine HBG.out.mono ?_
 rintro e w1 ⟨b,m,sv,hv,rv,pv,gq,gc,rfl,hW,hP,hM,hm,hb1,hb⟩
 obtain⟨pb,pc,_,hPW⟩:=hP.toW HOK.out.len8.1
 have HV:=Zpz (ZgT hW hPW hM Zd HOK.out.task HOK.out.inn)
 have HR1:Hid (w1.heap[Gr]?=some (pObj Zpv Zpv)):=(hb.block _ hrl).trans HR.out
 have HB1:=Zpz hb
 have hgm:Gr≠m:=Za
 clear hW hP hM hPW hb HBG e0 e1 e2 p0
 go_wp2_with fail
 refine HV.out.mono ?_
 rintro e w2 ⟨x,y,n,hE,hS,hk,_⟩
 have HR2:Hid (w2.heap[Gr]?=some (pObj Zpv Zpv)):=hk.at HR1.out hgm
 have HK2:Hid (Keeps (fun b=>b≠Gr) W w2):=by
  have h1:Keeps (fun b=>b<W.heap.size) W w2:=(HB1.out.keepsS (fun b=>b<W.heap.size)).trans (hk.mono fun c _ hc=>by show c≠m;omega)
  exact⟨h1.os,h1.tape,h1.output,h1.size,fun k hk2 _=>h1.block k hk2 hk2⟩
 have HSE:=Zpz hS
 clear hk hS HV
 rcases hE with ⟨rfl,rfl⟩ | ⟨hn,rfl⟩
 ·have r0:=Zn HR2.out 0 (v:=.string Zpv) rfl
  have r1:=Zn HR2.out 1 (v:=.string Zpv) rfl
  have f0:=Zo HR2.out 0
  have f1:=Zo HR2.out 1
  go_wp2
  refine ZoM (results_none rfl _ _ _) rfl ⟨0,.inl ⟨rfl,rfl⟩,⟨x,y,Zan HR2.out _ _,HSE.out⟩,(HK2.out.setCell (p:=⟨Gr,0,none⟩) Zc _).setCell (p:=⟨Gr,1,none⟩) Zc _⟩
 ·have hxy:x=Zpv/\y=Zpv:=by
   rcases HSE.out with ⟨_,_,h⟩ | ⟨_,h1,h2,_⟩
   ·exact Zpp h hn
   ·exact⟨h1,h2⟩
  obtain⟨rfl,rfl⟩:=hxy
  have HN:=Zpz hn
  clear hn
  unfold ZdO
  go_wp2
  exact⟨rfl,n,.inr ⟨HN.out,rfl⟩,⟨_,_,HR2.out,HSE.out⟩,HK2.out⟩
def Zim (t:TaskP) (p:List (List Int)) (x y:ByteArray) (n:Int):Prop:=(¬ PlanOk t p/\x=Zpv/\y=Zpv/\n=2)\/(PlanOk t p/\SumE (valF t p) t.sites.length x y n)
theorem Zll {t:TaskP} {p:List (List Int)} {sv hv rv pv:Value} {w:World} (hT:TaskIn t sv hv rv w) (hz:LimT t) (hI:IIL w pv p) :
  Calls Tryz.prog 20 #[.agg #[sv,hv,rv],pv] w (ZL (Zim t p) w):=by
 obtain⟨ps,cs,rfl,_⟩:=hT.sites.shape rfl
 obtain⟨ph,ch,rfl,_⟩:=hT.hours.shape rfl
 obtain⟨pr,cr,rfl,_⟩:=hT.rates.shape rfl
 obtain⟨pp,pc,rfl,_⟩:=hI.shape rfl
 obtain⟨ns,hns⟩:=ZpB t.sites.length
 obtain⟨nh,hnh⟩:=ZpB t.hours.length
 obtain⟨nr,hnr⟩:=ZpB t.rates.length
 obtain⟨np,hnp⟩:=ZpB p.length
 rw[hns,hnh,hnr] at hT ⊢
 rw[hnp] at hI ⊢
 have HT:=Zpz hT
 have HI:=Zpz hI
 have HZ:=Zpz hz
 have HE0:Hid (Env w.heap.size w [(w.heap.size+1+1,pObj Zpv Zpv),(w.heap.size+1,plO (.slice pp np pc)),(w.heap.size,efO (.slice ps ns cs) (.slice ph nh ch) (.slice pr nr cr))] []
  (((w.alloc (efO (.slice ps ns cs) (.slice ph nh ch) (.slice pr nr cr))).alloc (plO (.slice pp np pc))).alloc (pObj Zpv Zpv))):=(((Env.start w).push _ rfl).push _ Zc).push _ Zc
 have e0:=HE0.out.cell 2 0 (v:=.slice ps ns cs) rfl rfl
 have e1:=HE0.out.cell 2 1 (v:=.slice ph nh ch) rfl rfl
 have e2:=HE0.out.cell 2 2 (v:=.slice pr nr cr) rfl rfl
 have p0:=HE0.out.cell 1 0 (v:=.slice pp np pc) rfl rfl
 clear hT hI hz hns hnh hnr hnp
 go_enter Tryz.func20,Tryz.ntmps20
 go_wp2_with fail
 refine(Zeo (HT.out.below HE0.out.base ZpA) HZ.out (IIL.stay2 HI.out HE0.out.base ZpA)).mono ?_
 rintro e w1 ⟨hE,hb⟩
 have HE1:=Zpz (HE0.out.step hb)
 clear hb HE0 e0 e1 e2 p0
 have r0:=HE1.out.cell 0 0 (v:=.string Zpv) rfl rfl
 have r1:=HE1.out.cell 0 1 (v:=.string Zpv) rfl rfl
 have f0:=HE1.out.free 0 0 rfl
 have f1:=HE1.out.free 0 1 rfl
 rcases hE with ⟨hok,rfl⟩ | ⟨hok,rfl⟩
 rotate_left
 ·have HA:Hid (Zim t p Zpv Zpv 2):=.inl ⟨hok,rfl,rfl,rfl⟩
  clear hok
  go_wp2
  have HE9:=Zpz (HE1.out.fill (.string Zpv) (.string Zpv))
  have q0:=HE9.out.cell 0 0 (v:=.string Zpv) rfl rfl
  have q1:=HE9.out.cell 0 1 (v:=.string Zpv) rfl rfl
  exact ZoM (v:=.tuple #[Zpw Zpv Zpv,.int .i64 2]) (by simp[results,Tryz.f20,go_sem,q0,q1]) rfl ⟨Zpv,Zpv,2,rfl,HA.out,HE9.out.base⟩
 ·have HOK:=Zpz hok
  obtain⟨G,hG⟩:=ZpB w.heap.size
  have HGG:=Zpz hG
  have hGE:=HE1.out
  rw[hG] at hGE
  have hs1:G+3<=w1.heap.size:=by
   have:=hGE.lt 0 rfl
   omega
  have HTR:Hid (Calls Tryz.prog 50 #[.func (.func 59) #[] #[.pointer (some ⟨G,0,none⟩),.pointer (some ⟨G+1,0,none⟩),.pointer (some ⟨G+1+1,0,none⟩)]] w1 (Zej (ResQ (SumE (valF t p) t.sites.length) (G+1+1)) (fun b=>b≠G+1+1) w1)):=by
   have hal:Below w1.heap.size w1 (w1.alloc (erO 0)):=(ZoL _ w1).alloc ZpA _
   have hE2:=hGE.step hal
   refine ZeI (enters_of Tryz.func59 Zb rfl) (fun b hb=>by show b≠G+1+1;omega) (fun n W W'=>ResQ.stay Za n W W') ?_
   have hbw:Below w.heap.size w (w1.alloc (erO 0)):=HE1.out.base.trans (hal.mono HE1.out.own)
   exact Zk5 (hE2.block 2 rfl) (hE2.block 1 rfl) (hE2.block 0 rfl) (HT.out.below hbw ZpA) (IIL.stay2 HI.out hbw ZpA) HOK.out
  rw[hG] at r0 r1 f0 f1 ⊢
  clear hok hGE r0 r1 f0 f1 hG
  go_wp2_with fail
  refine HTR.out.mono ?_
  rintro e w2 ⟨n,rfl,⟨x,y,hxy,hS⟩,hk⟩
  have HA:Hid (Zim t p x y n):=.inr ⟨HOK.out,hS⟩
  have HXY:=Zpz hxy
  have HB2:Zpt w w2:=HE1.out.base.trans (hk.below_of (fun b hb=>by have:=HGG.out;show b≠G+1+1;omega) HE1.out.own)
  clear hS hk HTR
  have r0:=Zn HXY.out 0 (v:=.string x) rfl
  have r1:=Zn HXY.out 1 (v:=.string y) rfl
  have f0:=Zo HXY.out 0
  have f1:=Zo HXY.out 1
  clear hxy
  go_wp2
  obtain⟨q0,q1⟩:=Zu HXY.out (.string x) (.string y)
  exact ZoM (v:=.tuple #[Zpw x y,.int .i64 n]) (by simp[results,Tryz.f20,go_sem,q0,q1]) rfl ⟨x,y,n,rfl,HA.out,Zs HB2.out (by have:=HGG.out;omega) (.string x) (.string y)⟩
theorem Zbq.keepS {m:Nat} {Q:World->Prop} {S:Nat->Prop} {w w':World} (h:Zbq m Q w) (hk:Keeps S w w') (hS:∀ x,x<m->S x):Zbq m Q w':=by
 obtain⟨w1,h1,h2,h3⟩:=h
 exact⟨w1,h1,h2.trans ((hk.mono fun b _ hb=>hS b Za:Keeps (fun b=>b<w1.heap.size) w w').toBelow h2.size),h3⟩
theorem WorkW.keepS {t:TaskP} {b m:Nat} {sv hv rv pv:Value} {S:Nat->Prop} {w w':World} (h:WorkW t b m sv hv rv pv w) (hk:Keeps S w w') (hS:∀ x,x<m->S x) (hb:S b):WorkW t b m sv hv rv pv w':=
 ⟨hk.at h.blk hb,h.ne,h.task.keepS hk hS⟩
theorem ZkF {t:TaskP} {p:List (List Int)} (hp:p.length=t.hours.length) {r:Option Nat} {m:Rat} (h:Best (fun k=>ZaQ t p ((ZaA t p).getD k 0/t.sites.length) ((ZaA t p).getD k 0 % t.sites.length)) (ZaA t p).length r m) :
  Best (Zbg t p) (t.hours.length*t.sites.length) (r.map fun k=>(ZaA t p).getD k 0) m:=by
 have h1:=Best.ofPick (P:=Zbw t p) (g:=fun j=>ZaQ t p (j/t.sites.length) (j % t.sites.length)) (n:=p.length*t.sites.length) h
 rw[hp] at h1
 have e:(fun j=>if Zbw t p j=true then ZaQ t p (j/t.sites.length) (j % t.sites.length) else 0)=Zbg t p:=by
  funext j
  unfold Zbg Zbw
  by_cases h:0<ZaI t p (j/t.sites.length)
  ·rw[if_pos (decide_eq_true h),if_pos h]
  ·rw[if_neg (by simp[h]),if_neg h]
 rw[e] at h1
 unfold ZaA
 rw[hp]
 exact h1
theorem Zme (b:Nat) (w:World):Calls Tryz.prog 111 #[.pointer (some ⟨b,0,none⟩)] w (fun e w'=>e=.returned (.func (.func 160) #[] #[.pointer (some ⟨w.heap.size,0,none⟩)])/\w'=w.alloc (wkO b)):=by
 have hmf:∀ (fn:Fn) (first cap:Array Value) (w:World),(Instr.makeFunc fn first cap).run Tryz.prog w=.ok (.func fn first cap) w:=fun _ _ _ _=>rfl
 go_enter Tryz.func111,Tryz.ntmps111
 go_wp2
 exact ZoM (by simp[results,Tryz.f111,go_sem]) rfl ⟨rfl,rfl⟩
theorem Zib {t:TaskP} {p:List (List Int)} {b m n Bs B2:Nat} {sv hv rv pv:Value} {gq gc:Nat->Nat} {w:World} (hW:WorkW t b m sv hv rv pv w) (hP:PlanO p t.sites.length m b pv gq gc w) (hm:Memo w m t n) (hn:n<=800000000000) (ok:PlanOk t p)
  (hBs:w.heap[Bs]?=some (wkO b)) (hB2:w.heap[B2]?=some (wkO b)) :
  Calls Tryz.prog 110 #[.func (.func 160) #[] #[.pointer (some ⟨B2,0,none⟩)],.func (.func 112) #[] #[.pointer (some ⟨Bs,0,none⟩)]] w
   (fun e w'=>∃ r mx x y,e=.returned (.tuple #[Zih (ZcH t p) r,pV x y,.bool r.isSome])/\Best (Zbg t p) (t.hours.length*t.sites.length) (r.map fun k=>(ZaA t p).getD k 0) mx/\(∀ k,r=some k->k<(ZaA t p).length)/\Keeps (NotM m) w w'/\Memo w' m t (n+768)):=by
 have hT8:=ok.len8
 have hpT:=ok.teams
 have hN:=ok.task.sites
 obtain⟨sb,so,sc,hb,ho,hc,rb,ro,rk,cv,rq,rp,rc,k1,k2,k3,hA⟩:=hW.open ok.task
 obtain⟨pb,pc,hpv,hPW⟩:=hP.toW hT8.1
 have hL:(ZaA t p).length<=p.length*t.sites.length:=Zix _ _
 have hL2:p.length*t.sites.length<=192:=by
  have:p.length*t.sites.length<=8*24:=Nat.mul_le_mul hT8.2 hN.2
  omega
 have hne:∀ {B:Nat},w.heap[B]?=some (wkO b)->B≠m:=fun h e=>by
  subst e
  obtain⟨es,_,h1,_⟩:=id hm
  rw[h1] at h
  cases h
 have hml:=hm.lt
 refine(Zh8 (e:=ZcH t p) (g:=fun k=>ZaQ t p ((ZaA t p).getD k 0/t.sites.length) ((ZaA t p).getD k 0 % t.sites.length)) (N:=(ZaA t p).length) (Sx:=NotM m) (J:=fun k W=>Memo W m t (n+4*k))
  (enters_of Tryz.func160 Zb rfl) (enters_of Tryz.func112 Zb rfl)
  (fun x hx=>by show x≠m;omega) (fun k W1 W2 h hk=>?_) (by rw[Nat.mul_zero,Nat.add_zero];exact hm) (fun V hV=>(hA V hV).at'.eff) (fun V hV=>?_) (fun k hk V hV hJ=>?_)).mono ?_
 ·obtain⟨es,g,h1,h2⟩:=id h
  refine h.stay (hk.block m h.lt hml)
 ·refine ZkT (T:=p.length) (N:=t.sites.length) (b:=b) (hb:=hb) (ho:=ho) (hc:=hc) (pb:=pb) (po:=0) (pc:=pc) (gq:=gq) (gp:=fun _=>0) (gc:=gc) rfl rfl hN hT8.2 (by rw[hpT];exact k2) hPW.cap (fun V' hV'=>?_) (fun u hu=>(ok.task.team u (by rw[ok.task.rates,<- hpT];exact hu)).1) (fun u i hu hi=>(ok.hour u i hu hi).1)
  have hk:=hV.via hV' fun x hx hs=>⟨hx,hs⟩
  have A:=hA V' hk
  have hP':=hPW.keep hk
  exact⟨Zn (hk.at hB2 (hne hB2)) 0 rfl,by rw[hpT];exact A.w1,by rw[<- hpv];exact A.w3,fun u hu=>A.at'.hour u (by rw[<- hpT];exact hu),fun u hu=>hP'.at' u hu⟩
 ·obtain⟨hk1,hk2⟩:=Zd1 (P:=Zbw t p) (n:=p.length*t.sites.length) (k:=k) hk
  have hdu:(ZaA t p).getD k 0/t.sites.length<t.rates.length:=by
   rw[ok.task.rates,<- hpT]
   exact Nat.div_lt_of_lt_mul (by rw[Zo7];exact hk1)
  have hdi:(ZaA t p).getD k 0 % t.sites.length<t.sites.length:=Nat.mod_lt _ Za
  refine(Zjz (hW.keep hV) (hPW.keep hV) hJ Za ok.task ok.inn (hV.at hBs (hne hBs)) hdu hdi).mono ?_
  rintro e w' ⟨x,y,he,h1,h2,h3⟩
  exact⟨x,y,he,h1,h2,by rw[show n+4*(k+1)=n+4*k+4 by omega];exact h3⟩
 ·rintro e w' ⟨r,mx,x,y,he,hB,_,hk,hM⟩
  refine⟨r,mx,x,y,he,ZkF hpT hB,fun k hk=>?_,hk,hM.mono Za⟩
  subst hk
  exact(hB.yes k rfl).1
abbrev NotG (m T:Nat) (gq:Nat->Nat):Nat->Prop:=fun x=>x≠m/\∀ u,u<T->x≠gq u
def Zf0 (t:TaskP) (p0:List (List Int)) (b m:Nat) (pv:Value) (gq gc:Nat->Nat) (w:World) (e:Ending) (w':World):Prop:=
 e=.returned (.tuple #[])/\(∃ p,GreedyR t p0 p/\PlanOk t p/\PlanO p t.sites.length m b pv gq gc w')/\Keeps (NotG m p0.length gq) w w'
def Zi2 (t:TaskP) (p0:List (List Int)) (b m:Nat) (pv:Value) (gq gc:Nat->Nat) (w:World) (e:Ending) (w':World):Prop:=
 Zf0 t p0 b m pv gq gc w e w'/\∃ n,n<=400000/\Memo w' m t n
theorem Zis {t:TaskP} {p0:List (List Int)} {b m:Nat} {sv hv rv pv:Value} {gq gc:Nat->Nat} {w:World} (hW:WorkW t b m sv hv rv pv w) (hP:PlanO p0 t.sites.length m b pv gq gc w) (hm:Memo w m t 0) (ok:PlanOk t p0) :
  Calls Tryz.prog 51 #[.pointer (some ⟨b,0,none⟩)] w (Zi2 t p0 b m pv gq gc w):=by
 obtain⟨T,hT⟩:=ZpB p0.length
 have hT8:=ok.len8
 have hTN:=ok.task.sites
 rw[hT] at hT8
 have HTL:=Zpz hT
 have HOK0:=Zpz ok
 have hmf:∀ (fn:Fn) (first cap:Array Value) (w:World),(Instr.makeFunc fn first cap).run Tryz.prog w=.ok (.func fn first cap) w:=fun _ _ _ _=>rfl
 obtain⟨G,hG⟩:=ZpB w.heap.size
 obtain⟨w1,hw1⟩:=ZpB (w.alloc (wkO b))
 have hk1:Keeps (NotM m) w w1:=by rw[<- hw1];exact(Keeps.refl _ w).alloc _
 have hb1:w1.heap[G]?=some (wkO b):=by rw[<- hw1,<- hG];exact ZoO w _
 have hgs:∀ u,u<T->gq u<G:=fun u hu=>by rw[<- hG];exact(hP.gt (by rw[hT];exact hu)).2
 have hgm:∀ u,u<T->m<gq u:=fun u hu=>(hP.gt (by rw[hT];exact hu)).1
 have hgb:∀ u,u<T->gq u≠b:=fun u hu=>(hP.out.2 u (by rw[hT];exact hu)).1
 have hbG:b<G:=by rw[<- hG];exact(Zpu hW.blk)
 have hmG:m<G:=by have:=hm.lt;omega
 have HGQ:=Zpz (Zpq hgs (Zpq hgm hgb))
 have HI:Hid (WorkW t b m sv hv rv pv w1/\PlanO p0 t.sites.length m b pv gq gc w1/\Memo w1 m t 0/\w1.heap[G]?=some (wkO b)/\Keeps (NotG m T gq) w w1):=
  ⟨hW.keep hk1,hP.keep hk1,hm.step (by rw[<- hw1];exact(ZoL _ w).alloc ZpA _),hb1,by rw[<- hw1];exact(Keeps.refl _ w).alloc _⟩
 have HGG:=Zpz hG
 clear hW hP hm ok hT hb1 hk1 hgs hgm hgb
 go_enter Tryz.func51,Tryz.ntmps51
 go_wp2_with fail
 clear hw1
 go_loopg [] 384 (fun gf wr=>∃ (p:List (List Int)) (n:Nat),Hid (Zco t p T<=gf/\n+768*gf<=300000/\PlanOk t p/\p.length=T/\∀ q,GreedyR t p q->GreedyR t p0 q)/\Hid (WorkW t b m sv hv rv pv wr/\PlanO p t.sites.length m b pv gq gc wr/\Memo wr m t n/\wr.heap[G]?=some (wkO b)/\Keeps (NotG m T gq) w wr))
 case atStart=>
  refine⟨p0,0,⟨?_,Zd,HOK0.out,HTL.out,fun q h=>h⟩,HI⟩
  have:=ZhM HOK0.out T (by rw[HTL.out];exact Nat.le_refl _)
  omega
 case round=>
  obtain⟨p,n,HR,HI⟩:=hrel
  obtain⟨hl1,hl2,hok,hpl,_⟩:=HR.out
  obtain⟨iW,iP,iM,iB,iK⟩:=HI.out
  have hsz:=iK.size
  obtain⟨B2,hB2⟩:=ZpB wr.heap.size
  obtain⟨V1,hV1⟩:=ZpB (wr.alloc (wkO b))
  have hkV:Keeps (fun _=>True) wr V1:=by rw[<- hV1];exact(Keeps.refl _ wr).alloc _
  have hbV:Below wr.heap.size wr V1:=by rw[<- hV1];exact(ZoL _ wr).alloc ZpA _
  have hV2:V1.heap[B2]?=some (wkO b):=by rw[<- hV1,<- hB2];exact ZoO wr _
  have kV:=hkV.mono (S':=NotM m) fun _ _ _=>trivial
  have HBP:=Zpz (Zib (iW.keep kV) (iP.keep kV) (iM.step hbV) Za hok (hkV.at iB trivial) hV2)
  have HIV:Hid (WorkW t b m sv hv rv pv V1/\PlanO p t.sites.length m b pv gq gc V1/\V1.heap[G]?=some (wkO b)/\Keeps (NotG m T gq) w V1):=⟨iW.keep kV,iP.keep kV,hkV.at iB trivial,iK.trans (hkV.mono fun _ _ _=>trivial)⟩
  have a0:=Zn iB 0 (v:=.pointer (some ⟨b,0,none⟩)) rfl
  clear iW iP iM iB iK hkV hbV hV2 kV HI hl1 hl2 hok hpl
  go_wp2_with fail
  refine(Zme b wr).mono ?_
  rintro e w2 ⟨rfl,rfl⟩
  rw[hV1,hB2]
  clear hV1 hB2 a0
  have a0:=Zn HIV.out.2.2.1 0 (v:=.pointer (some ⟨b,0,none⟩)) rfl
  go_wp2_with fail
  refine HBP.out.mono ?_
  rintro e w3 ⟨r,mx,x,y,rfl,hB,hr,hk,hM⟩
  have HB:=Zpz hB
  have HM:=Zpz hM
  have HRL:=Zpz hr
  have HW3:=Zpz (HIV.out.1.keep hk)
  have HP3:=Zpz (HIV.out.2.1.keep hk)
  have HG3:Hid (w3.heap[G]?=some (wkO b)):=hk.at HIV.out.2.2.1 (by show G≠m;omega)
  have HK3:Hid (Keeps (NotG m T gq) w w3):=HIV.out.2.2.2.trans (hk.mono fun x _ h=>h.1)
  have hs3:=HK3.out.size
  clear hB hr hk hM HBP HIV a0
  obtain⟨sa,sb,hab⟩:∃ sa sb,Zih (ZcH t p) r=spV sa sb:=by cases r<;>exact⟨_,_,rfl⟩
  rw[hab]
  obtain⟨H,hH⟩:=ZpB w3.heap.size
  obtain⟨w4,hw4⟩:=ZpB ((w3.alloc (spO 0 0)).alloc (pObj Zpv Zpv))
  have hkA:Keeps (fun _=>True) w3 w4:=by rw[<- hw4];exact((Keeps.refl _ w3).alloc _).alloc _
  have hbA:Below w3.heap.size w3 w4:=by rw[<- hw4];exact((ZoL _ w3).alloc ZpA _).alloc Zc _
  have g0:w4.heap[H]?=some (spO 0 0):=by
   rw[<- hw4,<- hH]
   exact(Zo1 _ _ _ Zc).trans (ZoO w3 _)
  have g1:w4.heap[H+1]?=some (pObj Zpv Zpv):=by
   rw[<- hw4,<- hH]
   have:=ZoO (w3.alloc (spO 0 0)) (pObj Zpv Zpv)
   rwa [Zpa] at this
  have c0:=Zn g0 0 (v:=.int .i64 0) rfl
  have c1:=Zn g0 1 (v:=.int .i64 0) rfl
  have c2:=Zn g1 0 (v:=.string Zpv) rfl
  have c3:=Zn g1 1 (v:=.string Zpv) rfl
  have f0:=Zo g0 0
  have f1:=Zo g0 1
  have f2:=Zo g1 0
  have f3:=Zo g1 1
  obtain⟨w5,hw5⟩:=ZpB ((((w4.setCell ⟨H,0,none⟩ (.int .i64 sa)).setCell ⟨H,1,none⟩ (.int .i64 sb)).setCell ⟨H+1,0,none⟩ (.string x)).setCell ⟨H+1,1,none⟩ (.string y))
  have hb5:Below w3.heap.size w3 w5:=by
   rw[<- hw5]
   exact Zs (Zs hbA Za _ _) Za _ _
  have g5:w5.heap[H]?=some (spO sa sb):=by
   rw[<- hw5]
   exact((ZoN _ _ _ _ (by show H≠H+1;omega)).trans (ZoN _ _ _ _ (by show H≠H+1;omega))).trans (Zan g0 _ _)
  have HG5:=Zpz (hb5.keepsS (fun _=>True) |>.at HG3.out trivial)
  have HW5:=Zpz (HW3.out.keep (hb5.keepsS _))
  have HP5:=Zpz (HP3.out.keep (hb5.keepsS _))
  have HM5:=Zpz (HM.out.step hb5)
  have HK5:Hid (Keeps (NotG m T gq) w w5):=HK3.out.trans (hb5.keepsS _)
  have HS5:=Zpz g5
  have hs5:H<=w5.heap.size:=by rw[<- hH];exact hb5.size
  clear g0 g1 hkA hbA hb5 g5 HG3 HW3 HP3 HM HK3
  obtain⟨okb,hokb⟩:=ZpB r.isSome
  rw[hokb]
  cases okb
  ·obtain rfl:r=none:=by cases r;rfl;cases hokb
   have hdone:GreedyR t p p:=.done HB.out
   go_wp2
   have hR:=HR.out
   try rw[hw5]
   have hM5:=HM5.out
   have hR2:=hR.2.1
   refine ZoM (results_none rfl _ _ _) rfl ⟨⟨rfl,⟨p,hR.2.2.2.2 p hdone,hR.2.2.1,HP5.out⟩,?_⟩,_,?_,hM5⟩
   ·rw[HTL.out]
    exact HK5.out
   ·omega
  ·obtain⟨k,rfl⟩:∃ k,r=some k:=Option.isSome_iff_exists.1 hokb
   have hBB:=HB.out
   simp only[Option.map_some] at hBB
   obtain⟨y1,y2,y3,_⟩:=hBB.yes _ rfl
   have hR:=HR.out
   obtain⟨j,hj⟩:=ZpB ((ZaA t p).getD k 0)
   have hab':spV ((ZcH t p k).1) ((ZcH t p k).2)=spV sa sb:=hab
   unfold ZcH at hab'
   rw[hj] at hab' y1 y2 hBB
   obtain⟨N,hN⟩:=ZpB t.sites.length
   rw[hN] at hab'
   have hsa:sa=((j/N:Nat):Int):=by injection hab' with e;injection e with e;injection e with e1 e2;injection e1 with _ e3;exact e3.symm
   have hsb:sb=((j % N:Nat):Int):=by injection hab' with e;injection e with e;injection e with e1 e2;injection e2 with e2 _;injection e2 with _ e3;exact e3.symm
   have hu:j/N<T:=by
    rw[<- hR.2.2.2.1,hR.2.2.1.teams]
    rw[hN,Zo7] at y1
    exact Nat.div_lt_of_lt_mul y1
   have hi:j % N<N:=Nat.mod_lt _ Za
   have hm0:0<mx:=y3
   rw[y2] at hm0
   unfold Zbg at hm0
   rw[hN] at hm0
   obtain⟨u,hu'⟩:=ZpB (j/N)
   obtain⟨i,hi'⟩:=ZpB (j % N)
   rw[hu'] at hu hsa hm0
   rw[hi'] at hi hsb hm0
   have hfree:0<ZaI t p u:=by
    rcases Int.lt_or_le 0 (ZaI t p u) with h | h
    ·exact h
    ·rw[if_neg Za] at hm0
     exact Zpp hm0 (Rat.lt_irrefl)
   rw[if_pos hfree] at hm0
   have hrate:=ZlT hm0
   have hup:u<p.length:=by rw[hR.2.2.2.1];exact hu
   have hiN:i<t.sites.length:=by rw[hN];exact hi
   have hok2:=hR.2.2.1.bump hup hiN hfree hrate
   have ZaJ:=ZfN hup (by rw[hR.2.2.1.row u hup];exact hiN) hiN hfree T
   rw[if_pos hu] at ZaJ
   have hstep:∀ q,GreedyR t (bump p u i 1) q->GreedyR t p0 q:=fun q hq=>hR.2.2.2.2 q (.step hBB (by rw[hN,hu',hi'];exact hq))
   have hcell:=HP5.out.out
   have hpn:=(hR.2.2.1.hour u i hup hiN).1
   have hg1:Zco t (bump p u i 1) T+1<=gk/\n+768*gk<=300000:=Za
   obtain⟨gk',rfl⟩:∃ z,gk=z+1:=⟨gk-1,Za⟩
   have HNX:Hid (Zco t (bump p u i 1) T<=gk'/\n+768+768*gk'<=300000/\PlanOk t (bump p u i 1)/\(bump p u i 1).length=T/\∀ q,GreedyR t (bump p u i 1) q->GreedyR t p0 q):=
    ⟨Za,Za,hok2,by rw[Zad];exact hR.2.2.2.1,hstep⟩
   obtain⟨pb,pc,hpv,hPW⟩:=HP5.out.toW Za
   subst hpv
   obtain⟨p1,p2,p3,p4⟩:=hPW.at' u hup
   have p5:=p4 i hiN
   rw[hN] at p1 p2
   rw[Nat.zero_add] at p1 p5
   have hfz:w5.frozen? ⟨gq u,i,none⟩=false:=by
    have:=World.ownsRow.frozenAt (HP5.out.row u hup) i
    exact this
   have d0:=Zn HG5.out 0 (v:=.pointer (some ⟨b,0,none⟩)) rfl
   have d1:=Zn HW5.out.blk 3 (v:=.slice (some ⟨pb,0,none⟩) p.length pc) rfl
   have d2:=Zn HS5.out 0 (v:=.int .i64 sa) rfl
   have d3:=Zn HS5.out 1 (v:=.int .i64 sb) rfl
   obtain⟨c,hc⟩:=ZpB (pN p u i)
   rw[hc] at p5 hpn
   obtain⟨q,hq⟩:=ZpB (gq u)
   obtain⟨qc,hqc⟩:=ZpB (gc u)
   obtain⟨L,hL⟩:=ZpB p.length
   rw[hq] at p1 p5 hfz
   rw[hqc] at p1 p2 p3
   rw[hL] at d1
   have hLT:L=T:=by rw[<- hL];exact hR.2.2.2.1
   subst hsa
   subst hsb
   have j0:(0:Int)<=(u:Int):=Za
   have j1:(u:Int)<(L:Int):=Za
   have j2:(0:Int)<=(i:Int):=Za
   have j3:(i:Int)<(N:Int):=Za
   have eW:IntKind.i64.wrap (c+1)=c+1:=Zpm _ Za
   have HQ:=Zpz (Zpq hc hq)
   have HUI:=Zpz (Zpq hup hiN)
   clear HB HRL hokb y1 y2 y3 hBB hab' hab hu' hi' hfree hm0 hrate hok2 ZaJ hstep hcell hg1 hPW hR hj HR p4 hpn hc hq hqc
   go_wp2
   go_region
   obtain⟨hc,hq⟩:=HQ.out
   obtain⟨w6,hw6⟩:=ZpB ((w5.setCell ⟨q,i,none⟩ (.int .i64 (c+1))).drew)
   have hk6:Keeps (fun z=>z≠q) w5 w6:=by rw[<- hw6];exact((Keeps.refl _ w5).setCell Zc _).drew
   have hqm:=HGQ.out.2.1 u hu
   have hqb:=HGQ.out.2.2 u hu
   have hqG:=HGQ.out.1 u hu
   rw[hq] at hqm hqb hqG
   have HP6:Hid (PlanO (bump p u i 1) t.sites.length m b (.slice (some ⟨pb,0,none⟩) p.length pc) gq gc w6):=by
    have h:=HP5.out.store hup hiN 1 (x:=c+1) (by rw[hc])
    rw[hq] at h
    rw[<- hw6]
    exact h.keep (Keeps.refl _ _).drew
   have HW6:=Zpz (HW5.out.keepS hk6 (fun z hz=>by show z≠q;omega) (fun e=>hqb e.symm))
   have HM6:=Zpz (HM5.out.stay (hk6.block m HM5.out.lt (by show m≠q;omega)))
   have HG6:=Zpz (hk6.at HG5.out (by show G≠q;omega))
   have HK6:Hid (Keeps (NotG m T gq) w w6):=HK5.out.trans (hk6.mono fun z _ hz=>by rw[<- hq];exact hz.2 u hu)
   rw[hw6]
   clear hk6 hw6
   go_wp2
   go_roundg gk'
   case measure=>omega
   case rel=>exact⟨bump p u i 1,n+768,HNX,HW6.out,HP6.out,HM6.out,HG6.out,HK6.out⟩
theorem ZjH {t:TaskP} {p0:List (List Int)} {b m:Nat} {sv hv rv pv:Value} {gq gc:Nat->Nat} {w:World} (hW:WorkW t b m sv hv rv pv w) (hP:PlanO p0 t.sites.length m b pv gq gc w) (hm:Memo w m t 0) (ok:PlanOk t p0) :
  Calls Tryz.prog 51 #[.pointer (some ⟨b,0,none⟩)] w (Zf0 t p0 b m pv gq gc w):=(Zis hW hP hm ok).mono fun _ _ h=>h.1
theorem PlanO.keepG {p:List (List Int)} {N m b g:Nat} {pv:Value} {gq gc:Nat->Nat} {w w':World} (h:PlanO p N m b pv gq gc w) (h1:pv.ownBlock≠some g) (h2:∀ u,u<p.length->gq u≠g) (hk:Keeps (fun x=>x≠g) w w'):PlanO p N m b pv gq gc w':=by
 refine⟨ZT h.outer fun x hx=>?_,fun u hu=>ZT (h.row u hu) fun x hx=>?_,h.inj,h.out⟩
 ·exact hk.block x (ZoZ h.outer x hx).2 fun e=>h1 (by rw[hx,e])
 ·have hx':gq u=x:=by simpa[Value.ownBlock] using hx
  exact hk.block x (ZoZ (h.row u hu) x hx).2 fun e=>h2 u hu (by rw[hx',e])
def ZnR (t:TaskP) (b m:Nat) (pv:Value) (gq gc:Nat->Nat) (n:Int) (W:World):Prop:=n=0/\∃ p,GreedyR t (ZZ t) p/\PlanOk t p/\PlanO p t.sites.length m b pv gq gc W
def Zn5 (t:TaskP) (w:World) (e:Ending) (w':World):Prop:=
 ((¬ TaskOk t/\e=.returned (.tuple #[.slice none 0 0,.int .i64 2]))\/(TaskOk t/\∃ p pv,GreedyR t (ZZ t) p/\PlanOk t p/\IIL w' pv p/\e=.returned (.tuple #[pv,.int .i64 0])))/\Below w.heap.size w w'
theorem Zj5 {t:TaskP} {sv hv rv:Value} {w:World} (hT:TaskIn t sv hv rv w) (hz:LimT t) :
  Calls Tryz.prog 16 #[.agg #[sv,hv,rv]] w (Zn5 t w):=by
 obtain⟨ps,cs,rfl,_⟩:=hT.sites.shape rfl
 obtain⟨ph,ch,rfl,_⟩:=hT.hours.shape rfl
 obtain⟨pr,cr,rfl,_⟩:=hT.rates.shape rfl
 obtain⟨ns,hns⟩:=ZpB t.sites.length
 obtain⟨nh,hnh⟩:=ZpB t.hours.length
 obtain⟨nr,hnr⟩:=ZpB t.rates.length
 rw[hns,hnh,hnr] at hT ⊢
 have HT:=Zpz hT
 have HZ:=Zpz hz
 have hmf:∀ (fn:Fn) (first cap:Array Value) (w:World),(Instr.makeFunc fn first cap).run Tryz.prog w=.ok (.func fn first cap) w:=fun _ _ _ _=>rfl
 have HE0:Hid (Env w.heap.size w [(w.heap.size,efO (.slice ps ns cs) (.slice ph nh ch) (.slice pr nr cr))] [] (w.alloc (efO (.slice ps ns cs) (.slice ph nh ch) (.slice pr nr cr)))):=(Env.start w).push _ rfl
 have e0:=HE0.out.cell 0 0 (v:=.slice ps ns cs) rfl rfl
 have e1:=HE0.out.cell 0 1 (v:=.slice ph nh ch) rfl rfl
 have e2:=HE0.out.cell 0 2 (v:=.slice pr nr cr) rfl rfl
 clear hT hz
 go_enter Tryz.func16,Tryz.ntmps16
 go_wp2_with fail
 refine(ZeL (HT.out.below HE0.out.base ZpA) HZ.out).mono ?_
 rintro e w1 ⟨hE,hb⟩
 have HE1:=Zpz (HE0.out.step hb)
 clear hb HE0 e0 e1 e2
 rcases hE with ⟨hok,rfl⟩ | ⟨hok,rfl⟩
 rotate_left
 ·have HB1:=Zpz HE1.out.base
  have HOK:=Zpz hok
  clear hok HE1
  go_wp2
  exact ZoM (by simp[results,Tryz.f16,go_sem]) rfl ⟨.inl ⟨HOK.out,rfl⟩,HB1.out⟩
 ·have HOK:=Zpz hok
  have HT1:=Zpz (HT.out.below HE1.out.base ZpA)
  have HB1:=Zpz HE1.out.base
  obtain⟨G,hG⟩:=ZpB w.heap.size
  have hSS:=HE1.out.block 0 rfl
  have HGG:=Zpz hG
  rw[hG] at hSS ⊢
  have HS1:=Zpz hSS
  clear hok HE1 hSS hG
  go_wp2
  refine ZP [(1,0),(1,1),(0,2),(0,3),(1,4)] (fun V=>V.heap[G]?=some (efO (.slice ps ns cs) (.slice ph nh ch) (.slice pr nr cr))) (fun i=>false)
   Zb Zb (fun j hj=>rfl) Zi HS1.out ?_
  have HSd:Hid (w1.drew.heap[G]?=some (efO (.slice ps ns cs) (.slice ph nh ch) (.slice pr nr cr))):=HS1.out
  have HTd:Hid (TaskIn t (.slice ps ns cs) (.slice ph nh ch) (.slice pr nr cr) w1.drew):=HT1.out.below (ZoL _ w1).drew ZpA
  have HBd:Hid (Below w.heap.size w w1.drew):=HB1.out.drew
  obtain⟨V,hV⟩:=ZpB w1.drew
  rw[hV] at HSd HTd HBd ⊢
  clear hV HS1 HT1 HB1
  iterate 2
   refine Zx _ rfl rfl (fun w' hS=>by have d0:=Zn hS 0 (v:=.slice ps ns cs) rfl;have d1:=Zn hS 1 (v:=.slice ph nh ch) rfl;have d2:=Zn hS 2 (v:=.slice pr nr cr) rfl;exact Ze) ?_
   simp only[Act.put,Zl]
  refine Zz 49 _ rfl rfl Zf ?_
  refine(Zmo HTd.out HOK.out.teams.2 HOK.out.sites).mono ?_
  rintro e V1 ⟨pv0,rfl,hI,hb⟩
  have HS1:Hid (V1.heap[G]?=some (efO (.slice ps ns cs) (.slice ph nh ch) (.slice pr nr cr))):=(hb.block _ (Zpu HSd.out)).trans HSd.out
  have HT1:=Zpz (HTd.out.below hb ZpA)
  have HB1:Zpt w V1:=HBd.out.trans (hb.mono HBd.out.size)
  have HI1:=Zpz hI
  refine .inl ⟨_,rfl,HS1.out,?_⟩
  clear hb hI HSd HTd HBd
  simp only[Act.put,Zl]
  refine Zz 48 _ rfl rfl Zf ?_
  have hzp:=ZjK HOK.out
  refine(Zft HT1.out HI1.out hzp.len8.2 HOK.out.sites (fun u hu=>hzp.row u hu)).mono ?_
  rintro e V2 ⟨b,m,sv,hv,rv,pv,gq,gc,rfl,hW,hP,hM,hm1,hb1,hb⟩
  have HS2:Hid (V2.heap[G]?=some (efO (.slice ps ns cs) (.slice ph nh ch) (.slice pr nr cr))):=(hb.block _ (Zpu HS1.out)).trans HS1.out
  have HB2:Zpt w V2:=HB1.out.trans (hb.mono HB1.out.size)
  have hmw:w.heap.size<=m:=ZoU HB1.out.size hm1
  obtain⟨T,hTl⟩:=ZpB ((ZZ t).length)
  have hgs:∀ u,u<T->gq u<V2.heap.size:=fun u hu=>(hP.gt (by rw[hTl];exact hu)).2
  have hgm:∀ u,u<T->m<gq u:=fun u hu=>(hP.gt (by rw[hTl];exact hu)).1
  have hgb:∀ u,u<T->gq u≠b:=fun u hu=>(hP.out.2 u (by rw[hTl];exact hu)).1
  have hpo:∀ x,pv.ownBlock=some x->x<V2.heap.size:=fun x hx=>(ZoZ hP.outer x hx).2
  have hmV:=hM.lt
  have HTR:Hid (Calls Tryz.prog 50 #[.func (.func 51) #[.pointer (some ⟨b,0,none⟩)] #[]] V2 (Zej (ZnR t b m pv gq gc) (NotG m T gq) V2)):=by
   have hal:Below V2.heap.size V2 (V2.alloc (erO 0)):=(ZoL _ V2).alloc ZpA _
   refine Zj6 (enters_of Tryz.func51 Zb rfl) (fun x hx=>⟨Za,fun u hu e=>by have:=hgs u hu;omega⟩) (fun n W W' hq hk=>?_) ?_
   ·obtain⟨h0,p,h1,h2,h3⟩:=hq
    refine⟨h0,p,h1,h2,h3.keepG (fun e=>by have:=hpo _ e;omega) (fun u hu e=>?_) hk⟩
    have:=hgs u (by rw[<- hTl,hzp.teams,<- h2.teams];exact hu)
    omega
   ·refine(ZjH (hW.keep (hal.keepsS _)) (hP.keep (hal.keepsS _)) (hM.step hal) hzp).mono ?_
    rintro e W' ⟨rfl,⟨p,h1,h2,h3⟩,h4⟩
    rw[hTl] at h4
    exact⟨0,.inl ⟨rfl,rfl⟩,⟨rfl,p,h1,h2,h3⟩,h4⟩
  have HW2:=Zpz hW
  have HGQ:Hid ((∀ u,u<T->w.heap.size<gq u)/\∀ u,u<T->gq u≠b):=⟨fun u hu=>by have:=hgm u hu;omega,hgb⟩
  refine .inl ⟨_,rfl,HS2.out,?_⟩
  clear hb hW hP hM hgs hgm hgb hpo HS1 HT1 HB1 HI1 hzp hTl hb1 hm1
  simp only[Act.put,Zl]
  iterate 1
   refine Zx _ rfl rfl (fun w' hS=>Ze) ?_
   simp only[Act.put,Zl]
  refine ZF ?_
  go_wp2_with fail
  refine HTR.out.mono ?_
  rintro e V3 ⟨n,rfl,⟨rfl,p,hR,hok,hP⟩,hk⟩
  have hSb:NotG m T gq b:=⟨HW2.out.ne,fun u hu e=>HGQ.out.2 u hu e.symm⟩
  have hblk:=hk.at HW2.out.blk hSb
  have HB3:Zpt w V3:=HB2.out.trans (hk.below_of (fun c hc=>⟨Za,fun u hu e=>by have:=HGQ.out.1 u hu;omega⟩) HB2.out.size)
  have HI3:=Zpz hP.toIIL
  have HRO:=Zpz (Zpq hR hok)
  have d3:=Zn hblk 3 (v:=pv) rfl
  clear hk hR hok hP hSb hblk HTR
  go_wp2
  exact ZoM (by simp[results,Tryz.f16,go_sem]) rfl ⟨.inr ⟨HOK.out,p,pv,HRO.out.1,HRO.out.2,HI3.out,rfl⟩,HB3.out⟩
end Go.Proofs.YtmpaflidennnoaaGreatDoor
