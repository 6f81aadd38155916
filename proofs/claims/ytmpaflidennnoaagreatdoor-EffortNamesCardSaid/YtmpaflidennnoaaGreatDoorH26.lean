/- The parts EEmpty, EffH, EGreedy1, ETried, ECheckP, EValueX, EGreedyW of a proof, put together by program (merge7.py). -/
import Derived.Test.YtmpaflidennnoaaGreatDoorH01
import Derived.Test.YtmpaflidennnoaaGreatDoorH25
import Derived.Deep.OwnRows
import Derived.Test.YtmpaflidennnoaaGreatDoorH21
import Derived.Test.YtmpaflidennnoaaGreatDoorH23
import Derived.Deep.LoopGhost
set_option maxRecDepth 100000
set_option maxHeartbeats 4000000
set_option linter.unusedVariables false
set_option linter.unusedSimpArgs false
namespace Go.Proofs.YtmpaflidennnoaaGreatDoor
open Go.RowKit Go.Shelf
attribute [local go_sem ↓] Go.wp_at_zero Go.wp_at_succ
theorem PlanO.toIIL {p:List (List Int)} {N m b:Nat} {pv:Value} {gq gc:Nat→Nat} {w:World} (h:PlanO p N m b pv gq gc w):IIL w pv p:=by
 obtain⟨h1,h2⟩:=id h.outer
 rcases h2 with ⟨h2,h3⟩ | ⟨pb,pc,cur,hv,hb,hg,k1,k2,k3,k4⟩
 ·refine⟨none,0,by rw[h2,h3],by omega,by decide,fun hne=>absurd (List.length_eq_zero_iff.1 h3) hne⟩
 ·refine⟨some ⟨pb,0,none⟩,pc,hv,k1,k2,fun _=>⟨pb,0,rfl,(Array.getElem?_eq_some_iff.1 hg).1,fun j hj=>?_⟩⟩
  have ho:=h.outer
  rw[hv] at ho
  have c1:=World.ownsRow.cellAt ho j (by omega)
  rw[Zhs hj] at c1
  refine⟨_,by rw[Nat.zero_add,Nat.mul_one];exact c1,?_⟩
  have hl:=h.len hj
  obtain⟨r1,r2⟩:=id (h.row j hj)
  rcases r2 with ⟨r3,_⟩ | ⟨g',cap',cur',hv',_,hg',l1,l2,_,_⟩
  ·cases r3
  ·injection hv' with e1 e2 e3
   subst e3
   refine⟨some ⟨gq j,0,none⟩,gc j,by rw[hl],by omega,l2,fun _=>⟨gq j,0,rfl,(World.ownsRow.lt (h.row j hj) _ rfl).2,fun i hi=>?_⟩⟩
   have c2:=World.ownsRow.cellAt (h.row j hj) i (by omega)
   rw[ZfH hi] at c2
   unfold IntR
   rw[Nat.zero_add,Nat.mul_one,c2]
   simp[List.getD,hi]
theorem Zlw (N:Nat):ints (List.replicate N 0)=(madeCells #[(.int .i64 0:Value)] N).toList:=by
 rw[toList_madeCells_one]
 simp[ints]
theorem ZhF (t:TaskP) {k:Nat} (hk:k<t.hours.length):(Zu t).take (k+1)=(Zu t).take k++[List.replicate t.sites.length 0]:=by
 have hl:k<(Zu t).length:=by simpa[Zu] using hk
 rw[List.take_add_one,List.getElem?_eq_getElem hl]
 simp[Zu]
theorem Zhi {t:TaskP} {sv hv rv:Value} {w:World} (ht:TaskIn t sv hv rv w) (hT:t.hours.length≤8) (hN:1≤t.sites.length∧t.sites.length≤24) :
  Calls Tryz.prog 49 #[.agg #[sv,hv,rv]] w (fun e w'=>∃ pv,e=.returned pv∧IIL w' pv (Zu t)∧Below w.heap.size w w'):=by
 obtain⟨ps,cs,rfl,_⟩:=ht.sites.shape rfl
 obtain⟨ph,ch,rfl,_⟩:=ht.hours.shape rfl
 obtain⟨pr,cr,rfl,_⟩:=ht.rates.shape rfl
 obtain⟨N,hN'⟩:∃ n,t.sites.length=n:=⟨_,rfl⟩
 obtain⟨T,hT'⟩:∃ n,t.hours.length=n:=⟨_,rfl⟩
 obtain⟨nr,hnr⟩:∃ n,t.rates.length=n:=⟨_,rfl⟩
 have HNN:=Lib.hid hN'
 have HTT:=Lib.hid hT'
 have hpl:(Zu t).length=T:=by simp[Zu,hT']
 have HPT:=Lib.hid hpl
 rw[hN'] at hN ⊢
 rw[hT'] at hT ⊢
 rw[hnr]
 clear ht hN' hT' hnr hpl
 obtain⟨G,hG⟩:∃ g,w.heap.size=g:=⟨_,rfl⟩
 obtain⟨w1,hw1⟩:∃ z,w.alloc (.cells #[.slice ps N cs,.slice ph T ch,.slice pr nr cr] 26)=z:=⟨_,rfl⟩
 have HB1:Hid (Below w.heap.size w w1):=by rw[← hw1];exact(Below.refl _ w).alloc (Nat.le_refl _) _
 have hb1:w1.heap[G]?=some (.cells #[.slice ps N cs,.slice ph T ch,.slice pr nr cr] 26):=by rw[← hw1,← hG];exact World.alloc_heap_new w _
 have HC1:=Lib.hid hb1
 have hs1:w1.heap.size=G+1:=by rw[← hw1,← hG];simp
 have c0:=Za hb1 0 (v:=.slice ps N cs) rfl
 have c1:=Za hb1 1 (v:=.slice ph T ch) rfl
 obtain⟨i0,hi,hz0,hz1,hz2⟩:=info_parts Zf1
 have HGG:=Lib.hid hG
 go_enter Tryz.func49,Tryz.ntmps49
 go_wp2_with fail
 have HP0:Hid (PlanO ((Zu t).take 0) N G G (.slice none 0 0) (fun _=>0) (fun _=>0) w1):=⟨World.ownsRow_nil _ _ _ _,fun u hu=>by simp at hu,fun u v hu=>by simp at hu,by simp[Value.ownBlock],fun u hu=>by simp at hu⟩
 clear c0 c1 hb1 hw1 hs1 hG
 go_loopw [3,7] (fun pvv iv wr=>∃ (k:Nat) (gq gc:Nat→Nat),iv=.int .i64 k∧k≤T∧Hid (PlanO ((Zu t).take k) N G G pvv gq gc wr)∧Hid (wr.heap[G]?=some (.cells #[.slice ps N cs,.slice ph T ch,.slice pr nr cr] 26))∧Hid (Below w.heap.size w wr)) (fun _ iv _=>T-(intOf iv).toNat)
 case atStart=>exact⟨0,_,_,rfl,Nat.zero_le _,HP0,HC1,HB1⟩
 case round=>
  obtain⟨k,gq,gc,rfl,hk,HP,HW,HB⟩:=hrel
  clear HP0 HC1 HB1
  by_cases hlt:k<T
  ·have hkl:((Zu t).take k).length=k:=by rw[List.length_take,HPT.out];omega
   have HKL:=Lib.hid hkl
   have c0:=Za HW.out 0 (v:=.slice ps N cs) rfl
   have c1:=Za HW.out 1 (v:=.slice ph T ch) rfl
   have hmk:(Instr.makeSlice 23 (.int .i64 N) (.int .i64 N)).run Tryz.prog wr=.ok (.slice (some ⟨wr.heap.size,0,none⟩) N N) (wr.alloc (.cells (madeCells #[(.int .i64 0:Value)] N) 3)):=
    run_make_row' _ _ _ _ Tryz.underlying23 Zhe rfl .i64 .i64 N (by omega) (by omega) wr
   clear hkl
   obtain⟨pq,pn,pcap,rfl⟩:∃ p n c,u3=Value.slice p n c:=by
    obtain⟨_,h2⟩:=HP.out.outer
    rcases h2 with ⟨h2,_⟩ | ⟨g,cap,_,h2,_⟩
    ·exact⟨_,_,_,h2⟩
    ·exact⟨_,_,_,h2⟩
   obtain⟨q,hq⟩:∃ q,wr.heap.size=q:=⟨_,rfl⟩
   obtain⟨V2,hV2⟩:∃ z,(wr.alloc (.cells (madeCells #[(.int .i64 0:Value)] N) 3)).alloc (.cells #[.slice (some ⟨q,0,none⟩) N N] 23)=z:=⟨_,rfl⟩
   have hal:Below wr.heap.size wr V2:=by rw[← hV2];exact((Below.refl _ wr).alloc (Nat.le_refl _) _).alloc (by simp) _
   have hGw:G<wr.heap.size:=(Array.getElem?_eq_some_iff.1 HW.out).1
   have hnews:=Zen (wr.alloc (.cells (madeCells #[(.int .i64 0:Value)] N) 3)) (.slice (some ⟨q,0,none⟩) N N) 23
   rw[hV2,World.size_alloc,hq] at hnews
   have hrow:V2.ownsRow (G+1) 3 1 (.slice (some ⟨q,0,none⟩) N N) N (ints (List.replicate N 0)):=by
    have h1:=World.ownsRow_lit (e:=3) (size:=1) (base:=G+1) wr (madeCells #[(.int .i64 0:Value)] N) N (by omega) (by unfold maxLen;omega) (by rw[size_madeCells,Nat.mul_one])
    rw[← Zlw,hq] at h1
    rw[← hV2]
    exact ZJ h1 fun x hx=>Below.heap_alloc _ _ _ (World.ownsRow.lt h1 x hx).2
   have HROW:=Lib.hid hrow
   have HW2:Hid (V2.heap[G]?=some (.cells #[.slice ps N cs,.slice ph T ch,.slice pr nr cr] 26)):=(hal.block _ hGw).trans HW.out
   have HP2:Hid (PlanO ((Zu t).take k) N G G (.slice pq pn pcap) gq gc V2):=HP.out.keep (hal.keepsS _)
   have HB2:Hid (Below w.heap.size w V2):=HB.out.trans (hal.mono HB.out.size)
   have hgo:∀ u,u<((Zu t).take k).length→gq u≠q:=fun u hu e=>by have:=(HP.out.gt hu).2;omega
   have hgp:(Value.slice pq pn pcap).ownBlock≠some q:=fun e=>by have:=(World.ownsRow.lt HP.out.outer q e).2;omega
   have HGO:=Lib.hid (And.intro hgo hgp)
   have hown2:=HP2.out.outer
   have h2s:G+1≤V2.heap.size∧G<V2.heap.size∧G<q:=by have:=hal.size;omega
   have hmk2:(Instr.makeSlice 23 (.int .i64 N) (.int .i64 N)).run Tryz.prog wr=.ok (.slice (some ⟨q,0,none⟩) N N) (wr.alloc (.cells (madeCells #[(.int .i64 0:Value)] N) 3)):=by rw[hmk,hq]
   have HSZ:=Lib.hid hq
   clear hmk hrow hgo hgp hal hGw HW HP HB
   go_wp2_with (at_builtin;go_loud (refine wpList_append_lies _ rfl (.tmp 9) (.tmp 14) 29 rfl (G+1) 23 i0 (.slice none 0 0) 1 24 Tryz.underlying29 hi hz0 hz1 hz2 rfl (by decide) (.slice pq pn pcap) _ _ rfl hown2 ⟨q+1,0,none⟩ 1 1 [.slice (some ⟨q,0,none⟩) N N] rfl rfl hnews (by simp[Value.oneCell']) (by decide) (by rw[HKL.out];unfold maxLen;omega) (by rw[HKL.out];omega) (by omega) V2.heap.size rfl ?_);intro g2 cap2 V3 hown3 hgrow hor hlt3)
   have hsn:=HP2.out.snoc HROW.out (by omega) HGO.out.1 HGO.out.2 h2s.2.1 hown3 hgrow (by
    rcases hor with h | h
    ·exact .inl (by rw[h];rfl)
    ·exact .inr ⟨g2,rfl,by omega⟩)
   have hne:(Value.slice pq pn pcap).ownBlock≠some G:=HP2.out.out.1
   have HW3:Hid (V3.heap[G]?=some (.cells #[.slice ps N cs,.slice ph T ch,.slice pr nr cr] 26)):=(hgrow.block _ (by omega) (fun e=>hne e.symm)).trans HW2.out
   have HB3:Hid (Below w.heap.size w V3):=HB2.out.grown hgrow (by have:=HB2.out.size;omega) (fun x hx=>by have:=(World.ownsRow.lt HP2.out.outer x hx).1;have:=HGG.out;omega)
   rw[HKL.out] at hsn
   rw[← HNN.out,← ZhF t (by rw[HTT.out];exact hlt),HNN.out] at hsn
   have HSN:=Lib.hid hsn
   have hmin:min k (Zu t).length=k:=by rw[HPT.out];omega
   clear hsn hne hown3 hgrow hor hlt3
   try rw[hmin]
   go_roundw
   case rel=>exact⟨k+1,_,_,by go_num,by omega,HSN,HW3,HB3⟩
   case measure=>simp[intOf];omega
  ·obtain rfl:k=T:=by omega
   have HPF:=Lib.hid (IIL.stay2 HP.out.toIIL (Below.refl wr.heap.size wr) (Nat.le_refl _))
   have e:(Zu t).take k=Zu t:=by rw[← HPT.out,List.take_length]
   rw[e] at HPF
   go_wp2
   exact bodyPost_ret (by simp[results,Tryz.f49,go_sem]) rfl ⟨_,rfl,HPF.out,HB.out⟩
end Go.Proofs.YtmpaflidennnoaaGreatDoor
namespace Go.Proofs.YtmpaflidennnoaaGreatDoor
open Go.RowKit Go.Shelf
theorem Zcn {p:List (List Int)} {u i:Nat} (d:Int) (hu:u<p.length) (hi:i<p[u].length) (v:Nat):∀ n,ZA (bump p u i d) v n=ZA p v n+if v=u∧i<n then d else 0
 | 0=>by simp[ZA]
 | n+1=>by
  unfold ZA
  rw[Zcn d hu hi v n]
  by_cases hv:v=u
  ·subst hv
   by_cases hn:i=n
   ·subst hn
    rw[ZdG hu hi,if_neg (by omega),if_pos ⟨rfl,by omega⟩]
    omega
   ·rw[Zbe (.inr fun e=>hn e.symm)]
    by_cases hl:i<n
    ·rw[if_pos ⟨rfl,hl⟩,if_pos ⟨rfl,by omega⟩];omega
    ·rw[if_neg (by omega),if_neg (by omega)];omega
  ·rw[Zbe (.inl hv),if_neg (fun h=>hv h.1),if_neg (fun h=>hv h.1)]
   omega
theorem ZjY {t:TaskP} {p:List (List Int)} {u i:Nat} (d:Int) (hu:u<p.length) (hi:i<p[u].length) (hN:i<t.sites.length) (v:Nat):Zaq t (bump p u i d) v=Zaq t p v-if v=u then d else 0:=by
 unfold Zaq
 rw[Zcn d hu hi]
 by_cases hv:v=u
 ·rw[if_pos ⟨hv,hN⟩,if_pos hv];omega
 ·rw[if_neg (fun h=>hv h.1),if_neg hv];omega
def ZbT (t:TaskP) (p:List (List Int)):Nat→Nat
 | 0=>0
 | n+1=>ZbT t p n+(Zaq t p n).toNat
theorem ZfB {t:TaskP} {p:List (List Int)} {u i:Nat} (hu:u<p.length) (hi:i<p[u].length) (hN:i<t.sites.length) (hf:0<Zaq t p u):∀ n,ZbT t (bump p u i 1) n+(if u<n then 1 else 0)=ZbT t p n
 | 0=>by simp[ZbT]
 | n+1=>by
  have h:=ZfB hu hi hN hf n
  unfold ZbT
  rw[ZjY 1 hu hi hN n]
  by_cases hv:n=u
  ·subst hv
   rw[if_neg (by omega)] at h
   rw[if_pos rfl,if_pos (by omega)]
   omega
  ·rw[if_neg hv]
   by_cases hl:u<n
   ·rw[if_pos hl] at h
    rw[if_pos (by omega)]
    omega
   ·rw[if_neg hl] at h
    rw[if_neg (by omega)]
    omega
theorem Zd7 {p:List (List Int)} {u:Nat} : ∀ {n:Nat},(∀ i,i<n→0≤pN p u i)→0≤ZA p u n∧∀ i,i<n→pN p u i≤ZA p u n
 | 0,_=>⟨Int.le_refl _,fun i hi=>absurd hi (Nat.not_lt_zero _)⟩
 | n+1,h=>by
  obtain⟨h1,h2⟩:=Zd7 (n:=n) fun i hi=>h i (by omega)
  have h3:=h n (by omega)
  unfold ZA
  refine⟨by omega,fun i hi=>?_⟩
  rcases Nat.lt_or_ge i n with h4 | h4
  ·have:=h2 i h4
   omega
  ·obtain rfl:i=n:=by omega
   omega
theorem Zhf {t:TaskP} {p:List (List Int)} (ok:PlanOk t p):∀ n,n≤p.length→ZbT t p n≤48*n
 | 0,_=>Nat.le_refl _
 | n+1,h=>by
  have h1:=Zhf ok n (by omega)
  have h2:=(Zd7 fun i hi=>(ok.hour n i (by omega) hi).1.1:0≤ZA p n t.sites.length∧_).1
  have h3:=(ok.task.team n (by rw[ok.task.rates,← ok.teams];omega)).1
  unfold ZbT Zaq
  omega
theorem Zk9 {t:TaskP} {p:List (List Int)} {u i:Nat} (h:0<Z3 t p u i):rR t u i≠0:=fun e=>by
 unfold Z3 at h
 rw[e,Rat.add_zero,Rat.sub_self,Rat.mul_zero] at h
 exact absurd h (Rat.lt_irrefl)
theorem PlanOk.bump {t:TaskP} {p:List (List Int)} (ok:PlanOk t p) {u i:Nat} (hu:u<p.length) (hi:i<t.sites.length) (hf:0<Zaq t p u) (hr:rR t u i≠0):PlanOk t (bump p u i 1):=by
 have hi':i<p[u].length:=by rw[ok.row u hu];exact hi
 have h48:=(ok.task.team u (by rw[ok.task.rates,← ok.teams];exact hu)).1
 refine⟨ok.task,by rw[ZV];exact ok.teams,fun v hv=>?_,fun v j hv hj=>?_,fun v hv=>?_⟩
 ·rw[ZfI hv]
  exact ok.row v (by simpa[Go.Proofs.YtmpaflidennnoaaGreatDoor.bump] using hv)
 ·rw[ZV] at hv
  have h0:=ok.hour v j hv hj
  by_cases e:v=u∧j=i
  ·obtain⟨rfl,rfl⟩:=e
   have hs:=(Zd7 fun i hi=>(ok.hour v i hu hi).1.1:0≤ZA p v t.sites.length∧_).2 j hj
   unfold Zaq at hf
   unfold Zcm at h0 ⊢
   rw[ZdG hu hi']
   exact⟨by omega,fun _=>hr⟩
  ·unfold Zcm
   rw[Zbe (by by_cases h:v=u;exact .inr fun h2=>e ⟨h,h2⟩;exact .inl h)]
   exact h0
 ·rw[ZV] at hv
  have h0:=ok.sum v hv
  rw[Zcn 1 hu hi']
  split
  ·rename_i h
   obtain⟨rfl,_⟩:=h
   unfold Zaq at hf
   omega
  ·omega
theorem ZjM (t:TaskP) (u i:Nat):pN (Zu t) u i=0:=by
 unfold pN Zu
 by_cases hu:u<t.hours.length
 ·by_cases hi:i<t.sites.length
  ·simp[List.getD,hu,hi]
  ·simp[List.getD,hu,hi]
 ·simp[List.getD,hu]
theorem Ziv (t:TaskP) (u:Nat):∀ n,ZA (Zu t) u n=0
 | 0=>rfl
 | n+1=>by
  unfold ZA
  rw[Ziv t u n,ZjM]
  rfl
theorem ZdJ {t:TaskP} (ok:TaskOk t):PlanOk t (Zu t):=by
 refine⟨ok,by simp[Zu],fun u hu=>by simp[Zu],fun u i hu hi=>?_,fun u hu=>?_⟩
 ·unfold Zcm
  rw[ZjM]
  exact⟨by decide,fun h=>absurd h (by decide)⟩
 ·rw[Ziv]
  exact(ok.team u (by rw[ok.rates];simpa[Zu] using hu)).1.1
end Go.Proofs.YtmpaflidennnoaaGreatDoor
namespace Go.Proofs.YtmpaflidennnoaaGreatDoor
open Go.RowKit Go.Shelf
attribute [local go_sem ↓] Go.wp_at_zero Go.wp_at_succ
abbrev wkO (b:Nat):Obj:=.cells #[.pointer (some ⟨b,0,none⟩)] 89
theorem Zi0 {t:TaskP} {p:List (List Int)} {b m n Bs:Nat} {sv hv rv pv:Value} {pb po pc:Nat} {gq gp gc:Nat→Nat} {w:World} (h:WorkW t b m sv hv rv pv w) (hP:PlanW p t.sites.length m pv pb po pc gq gp gc w) (hm:Memo w m t n) (hn:n≤900000000000) (ok:TaskOk t) (inn:ZaV t p)
  (hB:w.heap[Bs]?=some (wkO b)) {u i:Nat} (hu:u<t.rates.length) (hi:i<t.sites.length) :
  Calls Tryz.prog 112 #[spV u i,.pointer (some ⟨Bs,0,none⟩)] w (ZdO (Z3 t p u i) m t (n+4) w):=by
 have hk0:∀ o1 o2,Keeps (NotM m) w ((w.alloc o1).alloc o2):=fun o1 o2=>((Keeps.refl _ w).alloc o1).alloc o2
 obtain⟨G,hG⟩:∃ G,w.heap.size=G:=⟨_,rfl⟩
 obtain⟨V,hV⟩:∃ V,(w.alloc (spO u i)).alloc (pObj ⟨#[]⟩ ⟨#[]⟩)=V:=⟨_,rfl⟩
 have hkV:Keeps (NotM m) w V:=by rw[← hV];exact((Keeps.refl _ w).alloc _).alloc _
 have hbV:Below w.heap.size w V:=by rw[← hV];exact((Below.refl _ w).alloc (Nat.le_refl _) _).alloc (by simp) _
 have hmG:m<G:=by have:=hm.lt;omega
 have HB:=Lib.hid (Za ((hkV.at hB (by
  intro e
  subst e
  obtain⟨es,_,h1,_⟩:=hm
  rw[h1] at hB
  cases hB)):V.heap[Bs]?=some (wkO b)) 0 (v:=.pointer (some ⟨b,0,none⟩)) rfl)
 have b0:=HB.out
 have g0:V.heap[G]?=some (spO u i):=by
  rw[← hV,← hG]
  exact(Below.heap_alloc _ _ _ (by simp)).trans (World.alloc_heap_new w _)
 have g1:V.heap[G+1]?=some (pObj ⟨#[]⟩ ⟨#[]⟩):=by
  rw[← hV,← hG]
  have:=World.alloc_heap_new (w.alloc (spO u i)) (pObj ⟨#[]⟩ ⟨#[]⟩)
  rwa [World.size_alloc] at this
 have a0:=Za g0 0 (v:=.int .i64 u) rfl
 have a1:=Za g0 1 (v:=.int .i64 i) rfl
 have HC:=Lib.hid (Zg8 (h.keep hkV) (hP.keep hkV) (hm.step hbV) hn ok inn hu hi)
 have HG1:=Lib.hid g1
 have HKV:=Lib.hid hkV
 clear h hP hm hB hbV hkV g0 g1 hk0
 go_enter Tryz.func112,Tryz.ntmps112
 go_wp2_with fail
 refine HC.out.mono ?_
 rintro e w2 ⟨x,y,rfl,hx,hk,hm⟩
 have h1:w2.heap[G+1]?=some (pObj ⟨#[]⟩ ⟨#[]⟩):=hk.at HG1.out (by show G+1≠m;omega)
 have H1:=Lib.hid h1
 have HX:=Lib.hid hx
 have HM:=Lib.hid hm
 have HK:=Lib.hid hk
 have c0:=Za h1 0 (v:=.string ⟨#[]⟩) rfl
 have c1:=Za h1 1 (v:=.string ⟨#[]⟩) rfl
 have f0:=Zb h1 0
 have f1:=Zb h1 1
 clear h1 hx hm hk HC a0 a1 b0
 go_wp2
 obtain⟨q0,q1⟩:=Zh H1.out (.string x) (.string y)
 refine bodyPost_ret (v:=pV x y) (by simp[results,Tryz.f112,go_sem,q0,q1]) rfl ⟨x,y,rfl,HX.out,?_,HM.out.stay ((Below.heap_setCell _ _ _ _ (by show m≠G+1;omega)).trans (Below.heap_setCell _ _ _ _ (by show m≠G+1;omega)))⟩
 exact(HKV.out.trans HK.out).via (S':=fun c=>c≠G+1) (((Keeps.refl _ w2).setCell (by simp) _).setCell (by simp) _) (fun c hc _=>by show c≠G+1;omega)
theorem ZiG {f:Nat} {v:Value} (hent:∀ args w,(callFunc f args).run Tryz.prog w=.ok (.enter f args) w) {Q:Int→World→Prop} {S:Nat→Prop} {w:World} (hS:∀ b,w.heap.size≤b→S b)
  (hQ:∀ n W W',Q n W→Keeps (fun b=>b≠w.heap.size) W W'→Q n W')
  (hdo:Calls Tryz.prog f #[v] (w.alloc (erO 0)) (Zed Q S (w.alloc (erO 0)))) :
  Calls Tryz.prog 50 #[.func (.func f) #[v] #[]] w (ZcO Q S w):=by
 have hmf:∀ (fn:Fn) (first cap:Array Value) (w:World),(Instr.makeFunc fn first cap).run Tryz.prog w=.ok (.func fn first cap) w:=fun _ _ _ _=>rfl
 have HD:=Lib.hid hdo
 have HQ:=Lib.hid hQ
 have HSS:=Lib.hid hS
 clear hdo hQ hS
 go_enter_defers Tryz.func50,Tryz.ntmps50
 go_wp2_with fail
 refine HD.out.mono ?_
 rintro e w2 ⟨n,hE,hA,hk⟩
 have he2:w2.heap[w.heap.size]?=some (erO 0):=(hk.block _ (by simp) (HSS.out _ (Nat.le_refl _))).trans (World.alloc_heap_new w _)
 have HA:=Lib.hid hA
 have HK2:Hid (Keeps S w w2):=((Keeps.refl S w).alloc _).trans hk
 obtain⟨p,hpp⟩:∃ p,w.heap.size=p:=⟨_,rfl⟩
 rw[hpp] at he2 ⊢
 have HPP:=Lib.hid hpp
 clear hk hA hpp HD
 rcases hE with ⟨rfl,rfl⟩ | ⟨hn,rfl⟩
 ·have d0:=Za he2 0 rfl
  have g0:=Zb he2 0
  have HE2:=Lib.hid he2
  clear he2
  go_wp2
  obtain⟨w3,hw3⟩:∃ z,(w2.setCell ⟨p,0,none⟩ (.int .i64 0))=z:=⟨_,rfl⟩
  have he3:w3.heap[p]?=some (erO 0):=by rw[← hw3];exact Joins.block_setCell HE2.out _
  have hk3:Keeps (fun b=>b≠p) w2 w3:=by rw[← hw3];exact(Keeps.refl _ w2).setCell (p:=⟨p,0,none⟩) (fun h=>h rfl) _
  rw[hw3]
  clear hw3 d0 g0
  have hl3:=(Array.getElem?_eq_some_iff.1 he3).1
  refine leaves_cons (f:=109) (args:=#[.pointer (some ⟨p,0,none⟩)]) (by simp) (by simp[go_sem]) ?_
  refine(Ze6 p _).mono ?_
  rintro e u' w'' ⟨rfl,rfl,rfl⟩
  have q2:(w3.alloc (miO 0)).cell? ⟨p,0,none⟩=some (.int .i64 0):=(ZH _ _ _ hl3).trans (Za he3 0 rfl)
  have hk4:Keeps (fun b=>b≠p) w2 (w3.alloc (miO 0)):=hk3.alloc _
  refine⟨.int .i64 0,by simp[results,Tryz.f50,go_sem,q2],0,rfl,HQ.out _ _ _ HA.out (by rw[HPP.out];exact hk4),?_⟩
  have h1:=HK2.out
  refine⟨hk4.os.trans h1.os,hk4.tape.trans h1.tape,hk4.output.trans h1.output,Nat.le_trans h1.size hk4.size,fun k hk hs=>?_⟩
  have hkp:k≠p:=by have:=HPP.out;omega
  exact(hk4.block k (Nat.lt_of_lt_of_le hk h1.size) hkp).trans (h1.block k hk hs)
 ·unfold Zcp
  refine leaves_cons (f:=109) (args:=#[.pointer (some ⟨p,0,none⟩)]) (by simp) (by simp[go_sem]) ?_
  refine(Zc3 p n [] _ he2).mono ?_
  rintro e u' w3 ⟨rfl,rfl,he3,hk4⟩
  have q2:w3.cell? ⟨p,0,none⟩=some (.int .i64 n):=Za he3 0 rfl
  refine⟨.int .i64 n,by simp[results,Tryz.f50,go_sem,q2],n,rfl,HQ.out _ _ _ HA.out (by rw[HPP.out];exact hk4),?_⟩
  have h1:=HK2.out
  refine⟨hk4.os.trans h1.os,hk4.tape.trans h1.tape,hk4.output.trans h1.output,Nat.le_trans h1.size hk4.size,fun k hk hs=>?_⟩
  have hkp:k≠p:=by have:=HPP.out;omega
  exact(hk4.block k (Nat.lt_of_lt_of_le hk h1.size) hkp).trans (h1.block k hk hs)
theorem ZeH {t:TaskP} (ok:TaskOk t) {u i:Nat} (hu:u<t.rates.length) (hi:i<t.sites.length):(eR t u i=(⟨#[48]⟩,⟨#[49]⟩)∧rR t u i=0)∨((eR t u i).1≠⟨#[48]⟩∧rR t u i≠0):=by
 have h:=(ZcF ok hu hi).1
 by_cases h0:rR t u i=0
 ·rw[h0] at h
  obtain⟨e1,e2⟩:=h.one ZP
  exact .inl ⟨Prod.ext e1 e2,h0⟩
 ·exact .inr ⟨fun e=>h0 (Zl7 h e),h0⟩
theorem ZeJ {s:ByteArray} (h:s≠⟨#[48]⟩):(s.toList==[48])=false:=by
 rw[Bool.eq_false_iff]
 intro e
 refine h ?_
 have h2:s.toList=[48]:=by simpa using e
 rw[ByteArray.toList_eq] at h2
 rw[← Zbi s,h2]
 rfl
theorem ZbH {t:TaskP} {p:List (List Int)} {sv hv rv pv:Value} {w:World} (h:TaskIn t sv hv rv w) (hz:LimT t) (hp:IIL w pv p) :
  Calls Tryz.prog 31 #[.agg #[sv,hv,rv],pv] w (ZjC (PlanOk t p) w):=by
 obtain⟨T,hT⟩:∃ n,p.length=n:=⟨_,rfl⟩
 obtain⟨pp,pc,rfl,hpc1,hpc2⟩:=hp.shape hT
 obtain⟨ps,cs,rfl,hs1,hs2⟩:=h.sites.shape rfl
 obtain⟨ph,ch,rfl,hh1,hh2⟩:=h.hours.shape rfl
 obtain⟨pr,cr,rfl,hr1,hr2⟩:=h.rates.shape rfl
 have HT:=Lib.hid h
 have HZ:=Lib.hid hz
 have HP:=Lib.hid hp
 have HTL:=Lib.hid hT
 obtain⟨N,hN⟩:∃ n,t.sites.length=n:=⟨_,rfl⟩
 obtain⟨H,hH⟩:∃ n,t.hours.length=n:=⟨_,rfl⟩
 obtain⟨R,hR⟩:∃ n,t.rates.length=n:=⟨_,rfl⟩
 rw[hN] at HT hs1 ⊢
 rw[hH] at HT hh1 ⊢
 rw[hR] at HT hr1 ⊢
 have HN:=Lib.hid hN
 have HHL:=Lib.hid hH
 have HRL:=Lib.hid hR
 have HE0:Hid (Env w.heap.size w [(w.heap.size,.cells #[.slice ps N cs,.slice ph H ch,.slice pr R cr] 26)] [] (w.alloc (.cells #[.slice ps N cs,.slice ph H ch,.slice pr R cr] 26))):=(Env.start w).push _ rfl
 clear h hz hp hT hN hH hR
 go_enter Tryz.func31,Tryz.ntmps31
 go_wp2_with fail
 refine(Zc7 (HT.out.below HE0.out.base (Nat.le_refl _)) HZ.out).mono ?_
 rintro e w1 ⟨hE,hb⟩
 have HE1:=Lib.hid (HE0.out.step hb)
 clear hb HE0
 rcases hE with ⟨hok,rfl⟩ | ⟨hok,rfl⟩
 rotate_left
 ·have HNO:Hid (¬ PlanOk t p):=fun k=>hok k.task
  clear hok
  go_wp2
  exact bodyPost_ret (v:=.int .i64 2) (by simp[results,Tryz.f31,go_sem]) rfl ⟨.inr ⟨HNO.out,rfl⟩,HE1.out.base⟩
 have HOK:=Lib.hid hok
 have b1:=HE1.out.cell 0 1 (v:=.slice ph H ch) rfl rfl
 clear hok
 by_cases hTH:T=H
 rotate_left
 ·have HNO:Hid (¬ PlanOk t p):=fun k=>hTH (by have:=k.teams;rw[HTL.out,HHL.out] at this;exact this)
  have hc:((T:Int) !=(H:Int))=true:=by rw[bne_iff_ne];omega
  clear hTH
  go_wp2
  exact bodyPost_ret (v:=.int .i64 2) (by simp[results,Tryz.f31,go_sem]) rfl ⟨.inr ⟨HNO.out,rfl⟩,HE1.out.base⟩
 subst hTH
 have hc:((T:Int) !=(T:Int))=false:=by simp
 have hRT:R=T:=by rw[← HRL.out,HOK.out.rates,HHL.out]
 subst hRT
 obtain⟨sb,so,sc,hb',ho,hc',rb,ro,rk,cv,rq,rp,rc,es,eh,er,k1,k2,k3,hA⟩:=HT.out.open HOK.out
 rw[HN.out] at es
 rw[HHL.out] at eh
 rw[HRL.out] at er
 injection es with es1 es2 es3
 injection eh with eh1 eh2 eh3
 injection er with er1 er2 er3
 subst es1 eh1 er1
 have HA:=Lib.hid hA
 have hN24:1≤N∧N≤24:=by rw[← HN.out];exact HOK.out.sites
 have hT8:1≤R∧R≤8:=by rw[← HHL.out];exact HOK.out.teams
 clear hA k1 k2 k3 es2 es3 eh2 eh3 er2 er3
 go_wp2_with fail
 clear b1 hc
 go_loopw [25] (fun iv wr=>∃ k:Nat,iv=.int .i64 k∧k≤R∧Hid (∀ u,u<k→(p.getD u []).length=N∧(∀ i,i<N→Zcm t p u i)∧ZA p u N≤eH t u)∧Hid (Env w.heap.size w [(w.heap.size,.cells #[.slice (some ⟨sb,so,none⟩) N cs,.slice (some ⟨hb',ho,none⟩) R ch,.slice (some ⟨rb,ro,none⟩) R cr] 26)] [] wr)) (fun iv _=>R-(intOf iv).toNat)
 case atStart=>exact⟨0,rfl,Nat.zero_le _,fun i h=>absurd h (Nat.not_lt_zero _),HE1⟩
 case round=>
  clear HE1
  obtain⟨u,rfl,hu,HU,HE⟩:=hrel
  have b0:=HE.out.cell 0 0 (v:=.slice (some ⟨sb,so,none⟩) N cs) rfl rfl
  have b1:=HE.out.cell 0 1 (v:=.slice (some ⟨hb',ho,none⟩) R ch) rfl rfl
  by_cases hlt:u<R
  ·obtain⟨qb,qo,rfl,hqb,hat⟩:=HP.out.at IIL.stays HTL.out (by omega)
   have hul:u<p.length:=by rw[HTL.out];exact hlt
   obtain⟨v,e0',hil⟩:=hat w (Below.refl _ w) u hul
   rw[Nat.mul_one] at e0'
   have e0:=(HE.out.base.cell (p:=⟨qb,qo+u,none⟩) hqb).trans e0'
   clear e0'
   obtain⟨l,hl⟩:∃ l,p[u]=l:=⟨_,rfl⟩
   rw[hl] at hil
   obtain⟨n,hn⟩:∃ n,l.length=n:=⟨_,rfl⟩
   obtain⟨lp,lc,rfl,hlc1,hlc2⟩:=hil.shape hn
   have HL:Hid (p.getD u []=l):=by show _=_;rw[← hl];simp[List.getD,hul]
   have HLG:Hid (p[u]'(hul)=l):=hl
   have HNN:=Lib.hid hn
   have HIL:Hid (∀ V,Below w.heap.size w V→IL V (.slice lp n lc) l):=fun V hV=>hil.after IntR.stays hV (Nat.le_refl _)
   have i0':(0:Int)≤(u:Int):=by omega
   have i1':(u:Int)<(R:Int):=by omega
   clear hat hl hn hil
   by_cases hnN:n=N
   rotate_left
   ·have HNO:Hid (¬ PlanOk t p):=fun k=>hnN (by have:=k.row u hul;rw[HLG.out,HNN.out,HN.out] at this;exact this)
    have hc:((n:Int) !=(N:Int))=true:=by rw[bne_iff_ne];omega
    clear hnN
    go_wp2
    exact bodyPost_ret (v:=.int .i64 2) (by simp[results,Tryz.f31,go_sem]) rfl ⟨.inr ⟨HNO.out,rfl⟩,HE.out.base⟩
   subst hnN
   have hc:((n:Int) !=(n:Int))=false:=by simp
   obtain⟨lb,lo,rfl,hlb,hlat⟩:=(HIL.out w (Below.refl _ _)).at IntR.stays HNN.out (by omega)
   have HLA:Hid (∀ V,Below w.heap.size w V→∀ j,j<n→V.cell? ⟨lb,lo+j,none⟩=some (.int .i64 (pN p u j))):=fun V hV j hj=>by
    have h1:=hlat V hV j (by rw[HNN.out];exact hj)
    unfold IntR at h1
    rw[Nat.mul_one] at h1
    rw[show pN p u j=l[j]'(by rw[HNN.out];exact hj) by unfold pN;rw[HL.out];simp[List.getD,HNN.out,hj]]
    exact h1
   clear hlat
   go_wp2_with fail
   clear b0 b1 e0 hc
   go_loopw [8,38] (fun sv iv wv=>∃ i:Nat,iv=.int .i64 i∧i≤n∧sv=.int .i64 (ZA p u i)∧Hid (∀ j,j<i→Zcm t p u j)∧Hid (Env w.heap.size w [(w.heap.size,.cells #[.slice (some ⟨sb,so,none⟩) n cs,.slice (some ⟨hb',ho,none⟩) R ch,.slice (some ⟨rb,ro,none⟩) R cr] 26)] [] wv)) (fun _ iv _=>n-(intOf iv).toNat)
   case atStart=>exact⟨0,rfl,Nat.zero_le _,rfl,fun i h=>absurd h (Nat.not_lt_zero _),HE⟩
   case round=>
    clear HE
    obtain⟨i,rfl,hi,rfl,HH,HEV⟩:=hrel
    have hnd:n=t.sites.length:=HN.out.symm
    by_cases hlt2:i<n
    ·have c0:=HLA.out _ HEV.out.base i hlt2
     obtain⟨m,hm⟩:∃ z,pN p u i=z:=⟨_,rfl⟩
     rw[hm] at c0
     have HM:=Lib.hid hm
     have j0':(0:Int)≤(i:Int):=by omega
     have j1':(i:Int)<(n:Int):=by omega
     have hlo:n≤lc:=hlc1
     have HRT:Hid (∀ V,Below w.heap.size w V→(V.cell? ⟨rb,ro+u,none⟩=some (.slice (some ⟨rq u,rp u,none⟩) n (rc u))∧V.cell? ⟨rq u,rp u+i*2,none⟩=some (.string (eR t u i).1)∧V.cell? ⟨rq u,rp u+i*2+1,none⟩=some (.string (eR t u i).2))∧EffZ V):=fun V hV=>by
      have A:=HA.out V hV
      obtain⟨a1,_,_,a2⟩:=A.rate u (by rw[HRL.out];exact hlt)
      rw[HN.out] at a1 a2
      exact⟨⟨a1,a2 i hlt2⟩,A.eff⟩
     obtain⟨_,hrc1,hrc2,_⟩:=(HA.out w (Below.refl _ _)).rate u (by rw[HRL.out];exact hlt)
     rw[HN.out] at hrc1
     have HRZ:=Lib.hid (ZeH HOK.out (u:=u) (i:=i) (by rw[HRL.out];exact hlt) (by rw[HN.out];exact hlt2))
     obtain⟨q1,hq1⟩:∃ z,rq u=z:=⟨_,rfl⟩
     obtain⟨o1,ho1⟩:∃ z,rp u=z:=⟨_,rfl⟩
     obtain⟨c1,hc1⟩:∃ z,rc u=z:=⟨_,rfl⟩
     obtain⟨⟨s1,t1⟩,hs1'⟩:∃ z,eR t u i=z:=⟨_,rfl⟩
     rw[hq1,ho1,hc1,hs1'] at HRT
     rw[hs1'] at HRZ
     rw[hc1] at hrc1 hrc2
     dsimp only at HRT HRZ
     clear hm hq1 ho1 hc1 hs1' hnd
     go_wp2_with fail
     clear c0
     refine ZG [(1,0),(0,1),(1,2),(1,3),(1,4),(1,5),(1,6),(1,7),(1,8),(1,9),(1,10),(1,11),(1,12),(1,13),(1,14),(1,15),(1,16),(1,17),(1,18)] (Env w.heap.size w [(w.heap.size,.cells #[.slice (some ⟨sb,so,none⟩) n cs,.slice (some ⟨hb',ho,none⟩) R ch,.slice (some ⟨rb,ro,none⟩) R cr] 26)] []) (fun _=>false)
      (by kernel_rfl) (by kernel_rfl) (fun _ _=>rfl) (fun _ _ o _ _ h=>by cases o<;>exact h) HEV.out.drew ?_
     obtain⟨w4,hw4⟩:∃ z,wr.drew=z:=⟨_,rfl⟩
     have HE4:Hid (Env w.heap.size w [(w.heap.size,.cells #[.slice (some ⟨sb,so,none⟩) n cs,.slice (some ⟨hb',ho,none⟩) R ch,.slice (some ⟨rb,ro,none⟩) R cr] 26)] [] w4):=by rw[← hw4];exact HEV.out.drew
     rw[hw4]
     clear hw4 HEV
     iterate 1
      refine Zc _ rfl rfl (fun w' hS=>by skip;go_simp;first | rfl | (rw[if_pos (by omega)])) ?_
      simp only[Znc,Znd,Zne,Act.put,Znf,Zng,Znh]
     refine Zl 76 _ rfl rfl (by go_simp;rfl) ?_
     refine(ZaY m 0 48 _).mono ?_
     rintro e w5 ⟨rfl,hb⟩
     have HE5:=Lib.hid (HE4.out.step hb)
     refine .inl ⟨_,rfl,HE5.out,?_⟩
     clear hb HE4
     simp only[Znc,Znd,Zne,Act.put,Znf,Zng,Znh]
     by_cases hw:0≤m∧m≤48
     rotate_left
     ·have HNO:Hid (¬ PlanOk t p):=fun k=>hw (by have:=(k.hour u i hul (by rw[HN.out];exact hlt2)).1;rw[HM.out] at this;exact this)
      have hwd:(decide ((0:Int)≤m) && decide (m≤48))=false:=by
       rw[← Bool.not_eq_true]
       simp only[Bool.and_eq_true,decide_eq_true_eq]
       omega
      rw[hwd]
      clear hw hwd
      iterate 2
       refine Zc _ rfl rfl (fun w' hS=>by skip;go_simp;first | rfl | (rw[if_pos (by omega)])) ?_
       simp only[Znc,Znd,Zne,Act.put,Znf,Zng,Znh]
      iterate 14
       refine ZcG rfl rfl ?_
       simp only[Znc,Znd,Zne,Act.put,Znf,Zng,Znh]
      iterate 1
       refine Zc _ rfl rfl (fun w' hS=>by skip;go_simp;first | rfl | (rw[if_pos (by omega)])) ?_
       simp only[Znc,Znd,Zne,Act.put,Znf,Zng,Znh]
      refine Zq ?_
      go_wp2
      exact bodyPost_ret (v:=.int .i64 2) (by simp[results,Tryz.f31,go_sem]) rfl ⟨.inr ⟨HNO.out,rfl⟩,HE5.out.base⟩
     have hwd:(decide ((0:Int)≤m) && decide (m≤48))=true:=by simp;omega
     rw[hwd]
     clear hwd
     have hs1:=ZfT (p:=p) (u:=u) (N:=i) (fun j hj=>(HH.out j hj).1) i (Nat.le_refl _)
     have e1:Hid (IntKind.i64.wrap (ZA p u i+m)=ZA p u (i+1)):=by
      show _=_
      rw[IntWalk.i64_in _ (by omega)]
      show _=ZA p u i+pN p u i
      rw[HM.out]
     have HHN:Hid (Zcm t p u i→∀ j,j<i+1→Zcm t p u j):=fun h j hj=>by
      rcases Nat.lt_or_ge j i with h1 | h1
      ·exact HH.out j h1
      ·obtain rfl:j=i:=by omega
       exact h
     clear hs1
     iterate 2
      refine Zc _ rfl rfl (fun w' hS=>by skip;go_simp;first | rfl | (rw[if_pos (by omega)])) ?_
      simp only[Znc,Znd,Zne,Act.put,Znf,Zng,Znh]
     by_cases hm0:0<m
     rotate_left
     ·have HOKI:=Lib.hid (HHN.out ⟨by rw[HM.out];exact hw,fun h=>absurd (by rw[HM.out] at h;exact h) hm0⟩)
      have e1':=e1.out
      clear hw
      iterate 3
       refine Zc _ rfl rfl (fun w' hS=>by skip;go_simp;first | rfl | (rw[if_pos (by omega)])) ?_
       simp only[Znc,Znd,Zne,Act.put,Znf,Zng,Znh]
      iterate 10
       refine ZcG rfl rfl ?_
       simp only[Znc,Znd,Zne,Act.put,Znf,Zng,Znh]
      iterate 2
       refine Zc _ rfl rfl (fun w' hS=>by skip;go_simp;first | rfl | (rw[if_pos (by omega)])) ?_
       simp only[Znc,Znd,Zne,Act.put,Znf,Zng,Znh]
      refine Zq ?_
      go_wp2
      go_roundw
      case rel=>exact⟨i+1,by go_num,by omega,by first | rfl | rw[e1.out],HOKI,HE5⟩
      case measure=>simp[intOf];omega
     rcases HRZ.out with ⟨hz,hz0⟩ | ⟨hz,hz0⟩
     ·have HNO:Hid (¬ PlanOk t p):=fun k=>(k.hour u i hul (by rw[HN.out];exact hlt2)).2 (by rw[HM.out];exact hm0) hz0
      injection hz with hz1 hz2
      subst hz1 hz2
      clear hw hz0
      iterate 15
       refine Zc _ rfl rfl (fun w' hS=>by have c2:=hS.cell 0 2 (v:=.slice (some ⟨rb,ro,none⟩) R cr) rfl rfl;obtain⟨⟨a0,a1,a2⟩,z0,z1⟩:=HRT.out _ hS.base;go_simp;first | rfl | (rw[if_pos (by omega)])) ?_
       simp only[Znc,Znd,Zne,Act.put,Znf,Zng,Znh]
      refine Zq ?_
      go_wp2
      exact bodyPost_ret (v:=.int .i64 2) (by simp[results,Tryz.f31,go_sem]) rfl ⟨.inr ⟨HNO.out,rfl⟩,HE5.out.base⟩
     ·have HOKI:=Lib.hid (HHN.out ⟨by rw[HM.out];exact hw,fun _=>hz0⟩)
      have e1':=e1.out
      have hzt:=ZeJ hz
      clear hw hz0 hz
      iterate 12
       refine Zc _ rfl rfl (fun w' hS=>by have c2:=hS.cell 0 2 (v:=.slice (some ⟨rb,ro,none⟩) R cr) rfl rfl;obtain⟨⟨a0,a1,a2⟩,z0,z1⟩:=HRT.out _ hS.base;go_simp;first | rfl | (rw[if_pos (by omega)])) ?_
       simp only[Znc,Znd,Zne,Act.put,Znf,Zng,Znh]
      refine Zc (.bool false) rfl rfl (fun w' hS=>by go_simp) ?_
      simp only[Znc,Znd,Zne,Act.put,Znf,Zng,Znh]
      iterate 2
       refine Zc _ rfl rfl (fun w' hS=>by skip;go_simp;first | rfl | (rw[if_pos (by omega)])) ?_
       simp only[Znc,Znd,Zne,Act.put,Znf,Zng,Znh]
      refine Zq ?_
      go_wp2
      go_roundw
      case rel=>exact⟨i+1,by go_num,by omega,by first | rfl | rw[e1.out],HOKI,HE5⟩
      case measure=>simp[intOf];omega
    ·have hin:i=n:=by omega
     have hh1:=HEV.out.cell 0 1 (v:=.slice (some ⟨hb',ho,none⟩) R ch) rfl rfl
     have a1:=(HA.out _ HEV.out.base).hour u (by rw[HHL.out];exact hlt)
     obtain⟨hh,hhh⟩:∃ z,eH t u=z:=⟨_,rfl⟩
     rw[hhh] at a1
     have HHH:=Lib.hid hhh
     clear hhh
     by_cases hs:hh<ZA p u i
     ·have HNO:Hid (¬ PlanOk t p):=fun k=>by
       have:=k.sum u hul
       rw[HN.out,HHH.out,← hin] at this
       omega
      clear hin
      go_wp2
      exact bodyPost_ret (v:=.int .i64 2) (by simp[results,Tryz.f31,go_sem]) rfl ⟨.inr ⟨HNO.out,rfl⟩,HEV.out.base⟩
     ·have HU2:Hid (∀ v,v<u+1→(p.getD v []).length=n∧(∀ i,i<n→Zcm t p v i)∧ZA p v n≤eH t v):=fun v hv=>by
       rcases Nat.lt_or_ge v u with h1 | h1
       ·exact HU.out v h1
       ·obtain rfl:v=u:=by omega
        refine⟨by rw[HL.out,HNN.out],fun j hj=>HH.out j (by omega),?_⟩
        rw[← hin,HHH.out]
        omega
      clear hin
      go_wp2
      go_roundw
      case rel=>exact⟨u+1,by go_num,by omega,HU2,HEV⟩
      case measure=>simp[intOf];omega
  ·have huR:u=R:=by omega
   have HYES:Hid (PlanOk t p):=by
    refine⟨HOK.out,by rw[HTL.out,HHL.out],fun v hv=>?_,fun v i hv hi=>?_,fun v hv=>?_⟩
    ·have h1:=(HU.out v (by rw[huR,← HTL.out];exact hv)).1
     rw[show p[v]=p.getD v [] by simp[List.getD,hv],h1,HN.out]
    ·exact(HU.out v (by rw[huR,← HTL.out];exact hv)).2.1 i (by rw[← HN.out];exact hi)
    ·rw[HN.out]
     exact(HU.out v (by rw[huR,← HTL.out];exact hv)).2.2
   clear huR HU
   go_wp2
   exact bodyPost_ret (v:=.int .i64 0) (by simp[results,Tryz.f31,go_sem]) rfl ⟨.inl ⟨HYES.out,rfl⟩,HE.out.base⟩
theorem PlanOk.len8 {t:TaskP} {p:List (List Int)} (h:PlanOk t p):0<p.length∧p.length≤8:=by
 have h1:=h.task.teams
 have h2:=h.teams
 omega
def ResQ (A:ByteArray→ByteArray→Int→Prop) (g:Nat) (n:Int) (V:World):Prop:=∃ x y,V.heap[g]?=some (pObj x y)∧A x y n
theorem ResQ.stay {A:ByteArray→ByteArray→Int→Prop} {g h:Nat} (hne:g≠h) (n:Int) (W W':World) (q:ResQ A g n W) (hk:Keeps (fun b=>b≠h) W W'):ResQ A g n W':=by
 obtain⟨x,y,h1,h2⟩:=q
 exact⟨x,y,hk.at h1 hne,h2⟩
abbrev efO (sv hv rv:Value):Obj:=.cells #[sv,hv,rv] 26
abbrev plO (pv:Value):Obj:=.cells #[pv] 29
theorem Zka {t:TaskP} {p:List (List Int)} {Ge Gp Gr:Nat} {ps ph pr pp:Option Addr} {ns nh nr np cs ch cr cp:Nat} {W:World} (he:W.heap[Ge]?=some (efO (.slice ps ns cs) (.slice ph nh ch) (.slice pr nr cr))) (hp:W.heap[Gp]?=some (plO (.slice pp np cp))) (hr:W.heap[Gr]?=some (pObj ⟨#[]⟩ ⟨#[]⟩))
  (hT:TaskIn t (.slice ps ns cs) (.slice ph nh ch) (.slice pr nr cr) W) (hI:IIL W (.slice pp np cp) p) (ok:PlanOk t p) :
  Calls Tryz.prog 59 #[.pointer (some ⟨Ge,0,none⟩),.pointer (some ⟨Gp,0,none⟩),.pointer (some ⟨Gr,0,none⟩)] W (Zed (ResQ (SumE (valF t p) t.sites.length) Gr) (fun b=>b≠Gr) W):=by
 have e0:=Za he 0 (v:=.slice ps ns cs) rfl
 have e1:=Za he 1 (v:=.slice ph nh ch) rfl
 have e2:=Za he 2 (v:=.slice pr nr cr) rfl
 have p0:=Za hp 0 (v:=.slice pp np cp) rfl
 have HBG:=Lib.hid (ZcL hT hI ok.len8.2 ok.task.sites (fun u h=>ok.row u h))
 have HR:=Lib.hid hr
 have HOK:=Lib.hid ok
 have hrl:=(Array.getElem?_eq_some_iff.1 hr).1
 clear hT hI he hp hr ok
 go_enter Tryz.func59,Tryz.ntmps59
 go_wp2_with fail
 refine HBG.out.mono ?_
 rintro e w1 ⟨b,m,sv,hv,rv,pv,gq,gc,rfl,hW,hP,hM,hm,hb1,hb⟩
 obtain⟨pb,pc,_,hPW⟩:=hP.toW HOK.out.len8.1
 have HV:=Lib.hid (Zgf hW hPW hM (by decide) HOK.out.task HOK.out.inn)
 have HR1:Hid (w1.heap[Gr]?=some (pObj ⟨#[]⟩ ⟨#[]⟩)):=(hb.block _ hrl).trans HR.out
 have HB1:=Lib.hid hb
 have hgm:Gr≠m:=by omega
 clear hW hP hM hPW hb HBG e0 e1 e2 p0
 go_wp2_with fail
 refine HV.out.mono ?_
 rintro e w2 ⟨x,y,n,hE,hS,hk,_⟩
 have HR2:Hid (w2.heap[Gr]?=some (pObj ⟨#[]⟩ ⟨#[]⟩)):=hk.at HR1.out hgm
 have HK2:Hid (Keeps (fun b=>b≠Gr) W w2):=by
  have h1:Keeps (fun b=>b<W.heap.size) W w2:=(HB1.out.keepsS (fun b=>b<W.heap.size)).trans (hk.mono fun c _ hc=>by show c≠m;omega)
  exact⟨h1.os,h1.tape,h1.output,h1.size,fun k hk2 _=>h1.block k hk2 hk2⟩
 have HSE:=Lib.hid hS
 clear hk hS HV
 rcases hE with ⟨rfl,rfl⟩ | ⟨hn,rfl⟩
 ·have r0:=Za HR2.out 0 (v:=.string ⟨#[]⟩) rfl
  have r1:=Za HR2.out 1 (v:=.string ⟨#[]⟩) rfl
  have f0:=Zb HR2.out 0
  have f1:=Zb HR2.out 1
  go_wp2
  refine bodyPost_ret (results_none rfl _ _ _) rfl ⟨0,.inl ⟨rfl,rfl⟩,⟨x,y,ZM HR2.out _ _,HSE.out⟩,(HK2.out.setCell (p:=⟨Gr,0,none⟩) (by simp) _).setCell (p:=⟨Gr,1,none⟩) (by simp) _⟩
 ·have hxy:x=⟨#[]⟩∧y=⟨#[]⟩:=by
   rcases HSE.out with ⟨_,_,h⟩ | ⟨_,h1,h2,_⟩
   ·exact absurd h hn
   ·exact⟨h1,h2⟩
  obtain⟨rfl,rfl⟩:=hxy
  have HN:=Lib.hid hn
  clear hn
  unfold Zcp
  go_wp2
  exact⟨rfl,n,.inr ⟨HN.out,rfl⟩,⟨_,_,HR2.out,HSE.out⟩,HK2.out⟩
def ZeE (t:TaskP) (p:List (List Int)) (x y:ByteArray) (n:Int):Prop:=(¬ PlanOk t p∧x=⟨#[]⟩∧y=⟨#[]⟩∧n=2)∨(PlanOk t p∧SumE (valF t p) t.sites.length x y n)
theorem Zf9 {t:TaskP} {p:List (List Int)} {sv hv rv pv:Value} {w:World} (hT:TaskIn t sv hv rv w) (hz:LimT t) (hI:IIL w pv p) :
  Calls Tryz.prog 20 #[.agg #[sv,hv,rv],pv] w (Zx (ZeE t p) w):=by
 obtain⟨ps,cs,rfl,_⟩:=hT.sites.shape rfl
 obtain⟨ph,ch,rfl,_⟩:=hT.hours.shape rfl
 obtain⟨pr,cr,rfl,_⟩:=hT.rates.shape rfl
 obtain⟨pp,pc,rfl,_⟩:=hI.shape rfl
 obtain⟨ns,hns⟩:∃ n,t.sites.length=n:=⟨_,rfl⟩
 obtain⟨nh,hnh⟩:∃ n,t.hours.length=n:=⟨_,rfl⟩
 obtain⟨nr,hnr⟩:∃ n,t.rates.length=n:=⟨_,rfl⟩
 obtain⟨np,hnp⟩:∃ n,p.length=n:=⟨_,rfl⟩
 rw[hns,hnh,hnr] at hT ⊢
 rw[hnp] at hI ⊢
 have HT:=Lib.hid hT
 have HI:=Lib.hid hI
 have HZ:=Lib.hid hz
 have HE0:Hid (Env w.heap.size w [(w.heap.size+1+1,pObj ⟨#[]⟩ ⟨#[]⟩),(w.heap.size+1,plO (.slice pp np pc)),(w.heap.size,efO (.slice ps ns cs) (.slice ph nh ch) (.slice pr nr cr))] []
  (((w.alloc (efO (.slice ps ns cs) (.slice ph nh ch) (.slice pr nr cr))).alloc (plO (.slice pp np pc))).alloc (pObj ⟨#[]⟩ ⟨#[]⟩))):=(((Env.start w).push _ rfl).push _ (by simp)).push _ (by simp)
 have e0:=HE0.out.cell 2 0 (v:=.slice ps ns cs) rfl rfl
 have e1:=HE0.out.cell 2 1 (v:=.slice ph nh ch) rfl rfl
 have e2:=HE0.out.cell 2 2 (v:=.slice pr nr cr) rfl rfl
 have p0:=HE0.out.cell 1 0 (v:=.slice pp np pc) rfl rfl
 clear hT hI hz hns hnh hnr hnp
 go_enter Tryz.func20,Tryz.ntmps20
 go_wp2_with fail
 refine(ZbH (HT.out.below HE0.out.base (Nat.le_refl _)) HZ.out (IIL.stay2 HI.out HE0.out.base (Nat.le_refl _))).mono ?_
 rintro e w1 ⟨hE,hb⟩
 have HE1:=Lib.hid (HE0.out.step hb)
 clear hb HE0 e0 e1 e2 p0
 have r0:=HE1.out.cell 0 0 (v:=.string ⟨#[]⟩) rfl rfl
 have r1:=HE1.out.cell 0 1 (v:=.string ⟨#[]⟩) rfl rfl
 have f0:=HE1.out.free 0 0 rfl
 have f1:=HE1.out.free 0 1 rfl
 rcases hE with ⟨hok,rfl⟩ | ⟨hok,rfl⟩
 rotate_left
 ·have HA:Hid (ZeE t p ⟨#[]⟩ ⟨#[]⟩ 2):=.inl ⟨hok,rfl,rfl,rfl⟩
  clear hok
  go_wp2
  have HE9:=Lib.hid (HE1.out.fill (.string ⟨#[]⟩) (.string ⟨#[]⟩))
  have q0:=HE9.out.cell 0 0 (v:=.string ⟨#[]⟩) rfl rfl
  have q1:=HE9.out.cell 0 1 (v:=.string ⟨#[]⟩) rfl rfl
  exact bodyPost_ret (v:=.tuple #[.agg #[.string ⟨#[]⟩,.string ⟨#[]⟩],.int .i64 2]) (by simp[results,Tryz.f20,go_sem,q0,q1]) rfl ⟨⟨#[]⟩,⟨#[]⟩,2,rfl,HA.out,HE9.out.base⟩
 ·have HOK:=Lib.hid hok
  obtain⟨G,hG⟩:∃ G,w.heap.size=G:=⟨_,rfl⟩
  have HGG:=Lib.hid hG
  have hGE:=HE1.out
  rw[hG] at hGE
  have hs1:G+3≤w1.heap.size:=by
   have:=hGE.lt 0 rfl
   omega
  have HTR:Hid (Calls Tryz.prog 50 #[.func (.func 59) #[] #[.pointer (some ⟨G,0,none⟩),.pointer (some ⟨G+1,0,none⟩),.pointer (some ⟨G+1+1,0,none⟩)]] w1 (ZcO (ResQ (SumE (valF t p) t.sites.length) (G+1+1)) (fun b=>b≠G+1+1) w1)):=by
   have hal:Below w1.heap.size w1 (w1.alloc (erO 0)):=(Below.refl _ w1).alloc (Nat.le_refl _) _
   have hE2:=hGE.step hal
   refine Zb9 (enters_of Tryz.func59 (by kernel_rfl) rfl) (fun b hb=>by show b≠G+1+1;omega) (fun n W W'=>ResQ.stay (by omega) n W W') ?_
   have hbw:Below w.heap.size w (w1.alloc (erO 0)):=HE1.out.base.trans (hal.mono HE1.out.own)
   exact Zka (hE2.block 2 rfl) (hE2.block 1 rfl) (hE2.block 0 rfl) (HT.out.below hbw (Nat.le_refl _)) (IIL.stay2 HI.out hbw (Nat.le_refl _)) HOK.out
  rw[hG] at r0 r1 f0 f1 ⊢
  clear hok hGE r0 r1 f0 f1 hG
  go_wp2_with fail
  refine HTR.out.mono ?_
  rintro e w2 ⟨n,rfl,⟨x,y,hxy,hS⟩,hk⟩
  have HA:Hid (ZeE t p x y n):=.inr ⟨HOK.out,hS⟩
  have HXY:=Lib.hid hxy
  have HB2:Hid (Below w.heap.size w w2):=HE1.out.base.trans (hk.below_of (fun b hb=>by have:=HGG.out;show b≠G+1+1;omega) HE1.out.own)
  clear hS hk HTR
  have r0:=Za HXY.out 0 (v:=.string x) rfl
  have r1:=Za HXY.out 1 (v:=.string y) rfl
  have f0:=Zb HXY.out 0
  have f1:=Zb HXY.out 1
  clear hxy
  go_wp2
  obtain⟨q0,q1⟩:=Zh HXY.out (.string x) (.string y)
  exact bodyPost_ret (v:=.tuple #[.agg #[.string x,.string y],.int .i64 n]) (by simp[results,Tryz.f20,go_sem,q0,q1]) rfl ⟨x,y,n,rfl,HA.out,Zf HB2.out (by have:=HGG.out;omega) (.string x) (.string y)⟩
theorem ZcC.keepS {m:Nat} {Q:World→Prop} {S:Nat→Prop} {w w':World} (h:ZcC m Q w) (hk:Keeps S w w') (hS:∀ x,x<m→S x):ZcC m Q w':=by
 obtain⟨w1,h1,h2,h3⟩:=h
 exact⟨w1,h1,h2.trans ((hk.mono fun b _ hb=>hS b (by omega):Keeps (fun b=>b<w1.heap.size) w w').toBelow h2.size),h3⟩
theorem WorkW.keepS {t:TaskP} {b m:Nat} {sv hv rv pv:Value} {S:Nat→Prop} {w w':World} (h:WorkW t b m sv hv rv pv w) (hk:Keeps S w w') (hS:∀ x,x<m→S x) (hb:S b):WorkW t b m sv hv rv pv w':=
 ⟨hk.at h.blk hb,h.ne,h.task.keepS hk hS⟩
theorem ZjN {t:TaskP} {p:List (List Int)} (hp:p.length=t.hours.length) {r:Option Nat} {m:Rat} (h:Best (fun k=>Z3 t p ((Zad t p).getD k 0/t.sites.length) ((Zad t p).getD k 0 % t.sites.length)) (Zad t p).length r m) :
  Best (ZaN t p) (t.hours.length*t.sites.length) (r.map fun k=>(Zad t p).getD k 0) m:=by
 have h1:=Best.ofPick (P:=Za0 t p) (g:=fun j=>Z3 t p (j/t.sites.length) (j % t.sites.length)) (n:=p.length*t.sites.length) h
 rw[hp] at h1
 have e:(fun j=>if Za0 t p j=true then Z3 t p (j/t.sites.length) (j % t.sites.length) else 0)=ZaN t p:=by
  funext j
  unfold ZaN Za0
  by_cases h:0<Zaq t p (j/t.sites.length)
  ·rw[if_pos (decide_eq_true h),if_pos h]
  ·rw[if_neg (by simp[h]),if_neg h]
 rw[e] at h1
 unfold Zad
 rw[hp]
 exact h1
theorem ZkV (b:Nat) (w:World):Calls Tryz.prog 111 #[.pointer (some ⟨b,0,none⟩)] w (fun e w'=>e=.returned (.func (.func 160) #[] #[.pointer (some ⟨w.heap.size,0,none⟩)])∧w'=w.alloc (wkO b)):=by
 have hmf:∀ (fn:Fn) (first cap:Array Value) (w:World),(Instr.makeFunc fn first cap).run Tryz.prog w=.ok (.func fn first cap) w:=fun _ _ _ _=>rfl
 go_enter Tryz.func111,Tryz.ntmps111
 go_wp2
 exact bodyPost_ret (by simp[results,Tryz.f111,go_sem]) rfl ⟨rfl,rfl⟩
theorem ZhM {t:TaskP} {p:List (List Int)} {b m n Bs B2:Nat} {sv hv rv pv:Value} {gq gc:Nat→Nat} {w:World} (hW:WorkW t b m sv hv rv pv w) (hP:PlanO p t.sites.length m b pv gq gc w) (hm:Memo w m t n) (hn:n≤800000000000) (ok:PlanOk t p)
  (hBs:w.heap[Bs]?=some (wkO b)) (hB2:w.heap[B2]?=some (wkO b)) :
  Calls Tryz.prog 110 #[.func (.func 160) #[] #[.pointer (some ⟨B2,0,none⟩)],.func (.func 112) #[] #[.pointer (some ⟨Bs,0,none⟩)]] w
   (fun e w'=>∃ r mx x y,e=.returned (.tuple #[ZhR (Zcg t p) r,pV x y,.bool r.isSome])∧Best (ZaN t p) (t.hours.length*t.sites.length) (r.map fun k=>(Zad t p).getD k 0) mx∧(∀ k,r=some k→k<(Zad t p).length)∧Keeps (NotM m) w w'∧Memo w' m t (n+768)):=by
 have hT8:=ok.len8
 have hpT:=ok.teams
 have hN:=ok.task.sites
 obtain⟨sb,so,sc,hb,ho,hc,rb,ro,rk,cv,rq,rp,rc,k1,k2,k3,hA⟩:=hW.open ok.task
 obtain⟨pb,pc,hpv,hPW⟩:=hP.toW hT8.1
 have hL:(Zad t p).length≤p.length*t.sites.length:=Zh6 _ _
 have hL2:p.length*t.sites.length≤192:=by
  have:p.length*t.sites.length≤8*24:=Nat.mul_le_mul hT8.2 hN.2
  omega
 have hne:∀ {B:Nat},w.heap[B]?=some (wkO b)→B≠m:=fun h e=>by
  subst e
  obtain⟨es,_,h1,_⟩:=id hm
  rw[h1] at h
  cases h
 have hml:=hm.lt
 refine(Zht (e:=Zcg t p) (g:=fun k=>Z3 t p ((Zad t p).getD k 0/t.sites.length) ((Zad t p).getD k 0 % t.sites.length)) (N:=(Zad t p).length) (Sx:=NotM m) (J:=fun k W=>Memo W m t (n+4*k))
  (enters_of Tryz.func160 (by kernel_rfl) rfl) (enters_of Tryz.func112 (by kernel_rfl) rfl)
  (fun x hx=>by show x≠m;omega) (fun k W1 W2 h hk=>?_) (by rw[Nat.mul_zero,Nat.add_zero];exact hm) (fun V hV=>(hA V hV).at'.eff) (fun V hV=>?_) (fun k hk V hV hJ=>?_)).mono ?_
 ·obtain⟨es,g,h1,h2⟩:=id h
  refine h.stay (hk.block m h.lt hml)
 ·refine Zkj (T:=p.length) (N:=t.sites.length) (b:=b) (hb:=hb) (ho:=ho) (hc:=hc) (pb:=pb) (po:=0) (pc:=pc) (gq:=gq) (gp:=fun _=>0) (gc:=gc) rfl rfl hN hT8.2 (by rw[hpT];exact k2) hPW.cap (fun V' hV'=>?_) (fun u hu=>(ok.task.team u (by rw[ok.task.rates,← hpT];exact hu)).1) (fun u i hu hi=>(ok.hour u i hu hi).1)
  have hk:=hV.via hV' fun x hx hs=>⟨hx,hs⟩
  have A:=hA V' hk
  have hP':=hPW.keep hk
  exact⟨Za (hk.at hB2 (hne hB2)) 0 rfl,by rw[hpT];exact A.w1,by rw[← hpv];exact A.w3,fun u hu=>A.at'.hour u (by rw[← hpT];exact hu),fun u hu=>hP'.at' u hu⟩
 ·obtain⟨hk1,hk2⟩:=Zdz (P:=Za0 t p) (n:=p.length*t.sites.length) (k:=k) hk
  have hdu:(Zad t p).getD k 0/t.sites.length<t.rates.length:=by
   rw[ok.task.rates,← hpT]
   exact Nat.div_lt_of_lt_mul (by rw[Nat.mul_comm];exact hk1)
  have hdi:(Zad t p).getD k 0 % t.sites.length<t.sites.length:=Nat.mod_lt _ (by omega)
  refine(Zi0 (hW.keep hV) (hPW.keep hV) hJ (by omega) ok.task ok.inn (hV.at hBs (hne hBs)) hdu hdi).mono ?_
  rintro e w' ⟨x,y,he,h1,h2,h3⟩
  exact⟨x,y,he,h1,h2,by rw[show n+4*(k+1)=n+4*k+4 by omega];exact h3⟩
 ·rintro e w' ⟨r,mx,x,y,he,hB,_,hk,hM⟩
  refine⟨r,mx,x,y,he,ZjN hpT hB,fun k hk=>?_,hk,hM.mono (by omega)⟩
  subst hk
  exact(hB.yes k rfl).1
end Go.Proofs.YtmpaflidennnoaaGreatDoor
