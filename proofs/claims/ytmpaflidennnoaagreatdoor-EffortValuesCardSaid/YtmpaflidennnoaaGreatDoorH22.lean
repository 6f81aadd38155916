/- The parts EWork, ECover, EChance, EValue. -/
import Derived.Test.YtmpaflidennnoaaGreatDoorH21
set_option maxRecDepth 100000
set_option maxHeartbeats 4000000
set_option linter.unusedVariables false
set_option linter.unusedSimpArgs false
namespace Go.Proofs.YtmpaflidennnoaaGreatDoor
open Go.RowKit Go.Shelf
attribute [local go_sem ↓] Go.wp_at_zero Go.wp_at_succ
theorem CurveP.limB {bs:List BB} (h:CurveP bs):LimB bs:=fun x hx=>by
 obtain⟨i,hi,rfl⟩:=List.getElem_of_mem hx
 have h1:=h.small i hi
 rw[Zdz hi] at h1
 obtain⟨a1,a2,_⟩:=Zai.1 h1.1
 obtain⟨b1,b2,_⟩:=Zai.1 h1.2
 exact⟨⟨Za,Za⟩,Za,Za⟩
abbrev NotM (m:Nat):Nat->Prop:=fun b=>b≠m
structure TaskIn (t:TaskP) (sv hv rv:Value) (w:World):Prop where
 sites:Znm w sv t.sites
 hours:IL w hv t.hours
 rates:PPL w rv t.rates
 det:DetV w
 tabs:Tabs w
 eff:EffZ w
theorem TaskIn.below {t:TaskP} {sv hv rv:Value} {w w':World} {B:Nat} (h:TaskIn t sv hv rv w) (hb:Below B w w') (hB:w.heap.size<=B):TaskIn t sv hv rv w':=
 ⟨h.sites.after Zc0.stays hb hB,h.hours.after IntR.stays hb hB,h.rates.after PPL.stays hb hB,h.det.below hb hB,h.tabs.below hb hB,h.eff.below hb hB⟩
structure TaskAt (t:TaskP) (sb so hb ho rb ro:Nat) (cv:Nat->Value) (rq rp rc:Nat->Nat) (w:World):Prop where
 site:∀ i,i<t.sites.length->w.cell? ⟨sb,so+i*3,none⟩=some (.string (eS t i).weight.1)/\w.cell? ⟨sb,so+i*3+1,none⟩=some (.string (eS t i).weight.2)/\w.cell? ⟨sb,so+i*3+2,none⟩=some (cv i)/\BL w (cv i) (eS t i).curve
 hour:∀ u,u<t.hours.length->w.cell? ⟨hb,ho+u,none⟩=some (.int .i64 (eH t u))
 rate:∀ u,u<t.rates.length->w.cell? ⟨rb,ro+u,none⟩=some (.slice (some ⟨rq u,rp u,none⟩) t.sites.length (rc u))/\t.sites.length<=rc u/\rc u<=9223372036854775807/\
  ∀ i,i<t.sites.length->w.cell? ⟨rq u,rp u+i*2,none⟩=some (.string (eR t u i).1)/\w.cell? ⟨rq u,rp u+i*2+1,none⟩=some (.string (eR t u i).2)
 det:DetV w
 tabs:Tabs w
 eff:EffZ w
def ZnT (p:List (List Int)) (N pb po:Nat) (gq gp gc:Nat->Nat) (w:World):Prop:=∀ u,u<p.length->w.cell? ⟨pb,po+u,none⟩=some (.slice (some ⟨gq u,gp u,none⟩) N (gc u))/\N<=gc u/\gc u<=9223372036854775807/\
 ∀ i,i<N->w.cell? ⟨gq u,gp u+i,none⟩=some (.int .i64 (pN p u i))
theorem Zem {α:Type} [Inhabited α] {n:Nat} {Q:Nat->α->Prop} (h:∀ i,i<n->∃ x,Q i x):∃ f:Nat->α,∀ i,i<n->Q i (f i):=by
 refine⟨fun i=>if hi:i<n then Classical.choose (h i hi) else default,fun i hi=>?_⟩
 simp only[dif_pos hi]
 exact Classical.choose_spec (h i hi)
section
variable {w:World}
theorem Zbm {α:Type} {k:Nat} {R:World->Nat->Nat->α->Prop} {v:Value} {xs:List α} (h:LL k R w v xs) (hn:0<xs.length) :
  ∃ b o c,v=.slice (some ⟨b,o,none⟩) xs.length c/\xs.length<=c/\c<=9223372036854775807/\b<w.heap.size/\∀ j (hj:j<xs.length),R w b (o+j*k) xs[j]:=by
 obtain⟨p,c,h1,h2,h3,h4⟩:=h
 obtain⟨b,o,h5,h6,h7⟩:=h4 (Zoy hn)
 unfold maxLen at h3
 exact⟨b,o,c,by rw[h1,h5],h2,h3,h6,h7⟩
theorem Zeb {v:Value} {ps:List PP} (h:PL w v ps) (hn:0<ps.length) :
  ∃ b o c,v=.slice (some ⟨b,o,none⟩) ps.length c/\ps.length<=c/\c<=9223372036854775807/\b<w.heap.size/\PAt w b o ps:=by
 obtain⟨p,c,h1,h2,h3,h4⟩:=h
 obtain⟨b,o,h5,h6,h7⟩:=h4 (Zoy hn)
 unfold maxLen at h3
 exact⟨b,o,c,by rw[h1,h5],h2,h3,h6,h7⟩
theorem TaskIn.open {t:TaskP} {sv hv rv:Value} (h:TaskIn t sv hv rv w) (ok:TaskOk t) :
  ∃ sb so sc hb ho hc rb ro rk cv rq rp rc,sv=.slice (some ⟨sb,so,none⟩) t.sites.length sc/\hv=.slice (some ⟨hb,ho,none⟩) t.hours.length hc/\rv=.slice (some ⟨rb,ro,none⟩) t.rates.length rk/\
   (t.sites.length<=sc/\sc<=9223372036854775807)/\(t.hours.length<=hc/\hc<=9223372036854775807)/\(t.rates.length<=rk/\rk<=9223372036854775807)/\
   ∀ w',Below w.heap.size w w'->TaskAt t sb so hb ho rb ro cv rq rp rc w':=by
 have n1:=ok.sites.1
 have n2:=ok.teams.1
 have n3:0<t.rates.length:=by rw[ok.rates];exact n2
 obtain⟨sb,so,sc,rfl,s1,s2,s3,s4⟩:=Zbm h.sites n1
 obtain⟨hb,ho,hc,rfl,h1,h2,h3,h4⟩:=Zbm h.hours n2
 obtain⟨rb,ro,rk,rfl,r1,r2,r3,r4⟩:=Zbm h.rates n3
 obtain⟨cv,hcv⟩:∃ cv:Nat->Value,∀ i,i<t.sites.length->w.cell? ⟨sb,so+i*3+2,none⟩=some (cv i)/\BL w (cv i) (eS t i).curve:=by
  haveI:Inhabited Value:=⟨.bool true⟩
  refine Zem (Q:=fun i v=>w.cell? ⟨sb,so+i*3+2,none⟩=some v/\BL w v (eS t i).curve) fun i hi=>?_
  obtain⟨_,_,v,h5,h6⟩:=s4 i hi
  rw[Zfh hi] at h6
  exact⟨v,h5,h6⟩
 obtain⟨z,hz⟩:∃ z:Nat->Nat×Nat×Nat,∀ u,u<t.rates.length->w.cell? ⟨rb,ro+u,none⟩=some (.slice (some ⟨(z u).1,(z u).2.1,none⟩) t.sites.length (z u).2.2)/\t.sites.length<=(z u).2.2/\(z u).2.2<=9223372036854775807/\
   (z u).1<w.heap.size/\∀ i,i<t.sites.length->w.cell? ⟨(z u).1,(z u).2.1+i*2,none⟩=some (.string (eR t u i).1)/\w.cell? ⟨(z u).1,(z u).2.1+i*2+1,none⟩=some (.string (eR t u i).2):=by
  refine Zem (Q:=fun u (z:Nat×Nat×Nat)=>w.cell? ⟨rb,ro+u,none⟩=some (.slice (some ⟨z.1,z.2.1,none⟩) t.sites.length z.2.2)/\t.sites.length<=z.2.2/\z.2.2<=9223372036854775807/\
   z.1<w.heap.size/\∀ i,i<t.sites.length->w.cell? ⟨z.1,z.2.1+i*2,none⟩=some (.string (eR t u i).1)/\w.cell? ⟨z.1,z.2.1+i*2+1,none⟩=some (.string (eR t u i).2)) fun u hu=>?_
  obtain⟨v,h5,h6⟩:=r4 u hu
  have h7:=(ok.team u hu).2.1
  obtain⟨b,o,c,rfl,c1,c2,c3,c4⟩:=Zeb h6 (by rw[h7];exact n1)
  rw[Zo2,h7] at h5
  refine⟨(b,o,c),h5,by rw[<- h7];exact c1,c2,c3,fun i hi=>?_⟩
  have hi':i<t.rates[u].length:=by rw[h7];exact hi
  have:=c4 i hi'
  rw[Zgv hu hi'] at this
  exact this
 refine⟨sb,so,sc,hb,ho,hc,rb,ro,rk,cv,fun u=>(z u).1,fun u=>(z u).2.1,fun u=>(z u).2.2,rfl,rfl,rfl,⟨s1,s2⟩,⟨h1,h2⟩,⟨r1,r2⟩,fun w' hk=>?_⟩
 refine⟨fun i hi=>?_,fun u hu=>?_,fun u hu=>?_,h.det.below hk Zpf,h.tabs.below hk Zpf,h.eff.below hk Zpf⟩
 ·obtain⟨a0,a1,_⟩:=s4 i hi
  rw[Zfh hi] at a0 a1
  obtain⟨a2,a3⟩:=hcv i hi
  exact⟨(hk.cell (p:=⟨sb,so+i*3,none⟩) s3).trans a0,(hk.cell (p:=⟨sb,so+i*3+1,none⟩) s3).trans a1,(hk.cell (p:=⟨sb,so+i*3+2,none⟩) s3).trans a2,a3.after hk Zpf⟩
 ·have:=h4 u hu
  unfold IntR at this
  rw[ZiB hu,Zo2] at this
  exact(hk.cell (p:=⟨hb,ho+u,none⟩) h3).trans this
 ·obtain⟨b0,b1,b2,b3,b4⟩:=hz u hu
  exact⟨(hk.cell (p:=⟨rb,ro+u,none⟩) r3).trans b0,b1,b2,fun i hi=>⟨(hk.cell (p:=⟨(z u).1,(z u).2.1+i*2,none⟩) b3).trans (b4 i hi).1,(hk.cell (p:=⟨(z u).1,(z u).2.1+i*2+1,none⟩) b3).trans (b4 i hi).2⟩⟩
end
def Zb0 (m:Nat) (Q:World->Prop) (w:World):Prop:=∃ w1,Q w1/\Below w1.heap.size w1 w/\w1.heap.size<=m
theorem Zb0.keep {m:Nat} {Q:World->Prop} {w w':World} (h:Zb0 m Q w) (hk:Keeps (NotM m) w w'):Zb0 m Q w':=by
 obtain⟨w1,h1,h2,h3⟩:=h
 refine⟨w1,h1,h2.trans ((hk.mono fun b _ hb=>?_:Keeps (fun b=>b<w1.heap.size) w w').toBelow h2.size),h3⟩
 show b≠m
 omega
structure PlanW (p:List (List Int)) (N m:Nat) (pv:Value) (pb po pc:Nat) (gq gp gc:Nat->Nat) (w:World):Prop where
 val:pv=.slice (some ⟨pb,po,none⟩) p.length pc
 cap:p.length<=pc/\pc<=9223372036854775807
 at':ZnT p N pb po gq gp gc w
 ne:pb≠m
 nes:∀ u,u<p.length->gq u≠m
theorem PlanW.keep {p:List (List Int)} {N m:Nat} {pv:Value} {pb po pc:Nat} {gq gp gc:Nat->Nat} {w w':World} (h:PlanW p N m pv pb po pc gq gp gc w) (hk:Keeps (NotM m) w w'):PlanW p N m pv pb po pc gq gp gc w':=
 ⟨h.val,h.cap,fun u hu=>by
  obtain⟨h1,h2,h3,h4⟩:=h.at' u hu
  exact⟨hk.cellAt h1 h.ne,h2,h3,fun i hi=>hk.cellAt (h4 i hi) (h.nes u hu)⟩,h.ne,h.nes⟩
structure WorkW (t:TaskP) (b m:Nat) (sv hv rv pv:Value) (w:World):Prop where
 blk:w.heap[b]?=some (.cells #[sv,hv,rv,pv,.map (some m)] 95)
 ne:b≠m
 task:Zb0 m (TaskIn t sv hv rv) w
theorem WorkW.keep {t:TaskP} {b m:Nat} {sv hv rv pv:Value} {w w':World} (h:WorkW t b m sv hv rv pv w) (hk:Keeps (NotM m) w w'):WorkW t b m sv hv rv pv w':=
 ⟨(hk.block b (Zo9 h.blk) h.ne).trans h.blk,h.ne,h.task.keep hk⟩
structure WorkA (t:TaskP) (b m:Nat) (sb so sc hb ho hc rb ro rk:Nat) (pv:Value) (cv:Nat->Value) (rq rp rc:Nat->Nat) (w:World):Prop where
 w0:w.cell? ⟨b,0,none⟩=some (.slice (some ⟨sb,so,none⟩) t.sites.length sc)
 w1:w.cell? ⟨b,1,none⟩=some (.slice (some ⟨hb,ho,none⟩) t.hours.length hc)
 w2:w.cell? ⟨b,2,none⟩=some (.slice (some ⟨rb,ro,none⟩) t.rates.length rk)
 w3:w.cell? ⟨b,3,none⟩=some pv
 w4:w.cell? ⟨b,4,none⟩=some (.map (some m))
 at':TaskAt t sb so hb ho rb ro cv rq rp rc w
theorem WorkW.open {t:TaskP} {b m:Nat} {sv hv rv pv:Value} {w:World} (h:WorkW t b m sv hv rv pv w) (ok:TaskOk t) :
  ∃ sb so sc hb ho hc rb ro rk cv rq rp rc,(t.sites.length<=sc/\sc<=9223372036854775807)/\(t.hours.length<=hc/\hc<=9223372036854775807)/\(t.rates.length<=rk/\rk<=9223372036854775807)/\
   ∀ w',Keeps (NotM m) w w'->WorkA t b m sb so sc hb ho hc rb ro rk pv cv rq rp rc w':=by
 obtain⟨w1,h1,h2,h3⟩:=id h.task
 obtain⟨sb,so,sc,hb,ho,hc,rb,ro,rk,cv,rq,rp,rc,rfl,rfl,rfl,k1,k2,k3,k4⟩:=h1.open ok
 refine⟨sb,so,sc,hb,ho,hc,rb,ro,rk,cv,rq,rp,rc,k1,k2,k3,fun w' hk=>?_⟩
 have hw:=h.keep hk
 have hb2:Below w1.heap.size w1 w':=h2.trans ((hk.mono fun b _ hb=>(by show b≠m;omega):Keeps (fun b=>b<w1.heap.size) w w').toBelow h2.size)
 exact⟨Zn hw.blk 0 rfl,Zn hw.blk 1 rfl,Zn hw.blk 2 rfl,Zn hw.blk 3 rfl,Zn hw.blk 4 rfl,k4 w' hb2⟩
structure Wk (m:Nat) (t:TaskP) (n:Nat) (w0:World) (bs:List (Nat×Obj)) (w:World):Prop where
 env:EnvS (NotM m) w0 bs w
 memo:Memo w m t n
section
variable {m n k:Nat} {t:TaskP} {w0 w w':World} {bs:List (Nat×Obj)}
theorem Wk.start (h:Memo w m t n):Wk m t n w [] w:=⟨EnvS.start w fun b hb e=>by have:=h.lt;omega,h⟩
theorem Wk.base (h:Wk m t n w0 bs w):Keeps (NotM m) w0 w:=h.env.base
theorem Wk.step (h:Wk m t n w0 bs w) (hb:Below w.heap.size w w'):Wk m t n w0 bs w':=⟨h.env.step hb,h.memo.step hb⟩
theorem Wk.drew (h:Wk m t n w0 bs w):Wk m t n w0 bs w.drew:=h.step (Zoq _ w).drew
theorem Wk.call (h:Wk m t n w0 bs w) (hk:Keeps (NotM m) w w') (hm:Memo w' m t k):Wk m t k w0 bs w':=⟨h.env.keep hk,hm⟩
theorem Wk.mono (h:Wk m t n w0 bs w) (hk:n<=k):Wk m t k w0 bs w:=⟨h.env,h.memo.mono hk⟩
theorem Wk.push (h:Wk m t n w0 bs w) (o:Obj) {g:Nat} (hg:g=w.heap.size):Wk m t n w0 ((g,o)::bs) (w.alloc o):=⟨h.env.push o hg,h.memo.step ((Zoq _ w).alloc Zpf o)⟩
theorem Wk.block (h:Wk m t n w0 bs w) (i:Nat) {g:Nat} {o:Obj} (hi:bs[i]?=some (g,o)):w.heap[g]?=some o:=h.env.block i hi
theorem Wk.cell (h:Wk m t n w0 bs w) (i j:Nat) {g:Nat} {cs:Array Value} {T:TypeId} {v:Value} (hi:bs[i]?=some (g,.cells cs T (0,0))) (hv:cs[j]?=some v):w.cell? ⟨g,j,none⟩=some v:=h.env.cell i j hi hv
theorem Wk.free (h:Wk m t n w0 bs w) (i j:Nat) {g:Nat} {cs:Array Value} {T:TypeId} (hi:bs[i]?=some (g,.cells cs T (0,0))):w.frozen? ⟨g,j,none⟩=false:=h.env.free i j hi
theorem Wk.put (h:Wk m t n w0 bs w) (i:Nat) {g:Nat} {o:Obj} (o':Obj) (hi:bs[i]?=some (g,o)) (hw:w'.heap[g]?=some o') (hk:Keeps (fun b=>b≠g) w w'):Wk m t n w0 (bs.set i (g,o')) w':=
 ⟨h.env.put i o' hi hw hk,h.memo.stay (hk.block m h.memo.lt fun e=>h.env.up g (h.env.le i hi) e.symm)⟩
theorem Wk.fill {g:Nat} {a b:Value} {T:TypeId} (h:Wk m t n w0 ((g,.cells #[a,b] T (0,0))::bs) w) (x y:Value):Wk m t n w0 ((g,.cells #[x,y] T (0,0))::bs) ((w.setCell ⟨g,0,none⟩ x).setCell ⟨g,1,none⟩ y):=
 h.put 0 (.cells #[x,y] T (0,0)) rfl (Zah (h.block 0 rfl) x y) (((Keeps.refl _ w).setCell Zc x).setCell Zc y)
theorem Wk.store (h:Wk m t n w0 bs w) (i j:Nat) {g:Nat} {cs:Array Value} {T:TypeId} (v:Value) (hi:bs[i]?=some (g,.cells cs T (0,0))):Wk m t n w0 (bs.set i (g,.cells (cs.set! j v) T (0,0))) (w.setCell ⟨g,j,none⟩ v):=
 h.put i (.cells (cs.set! j v) T (0,0)) hi (Zov (h.block i hi) v) ((Keeps.refl _ w).setCell Zc v)
theorem Wk.only (h:Wk m t n w0 bs w) (is:List Nat) (bs':List (Nat×Obj)) (hb:bs'=is.filterMap (fun i=>bs[i]?)) (hn:is.Nodup):Wk m t n w0 bs' w:=⟨h.env.only is bs' hb hn,h.memo⟩
end
theorem ZaE (s t:ByteArray) (w:World):Calls Tryz.prog 103 #[Zpb s t,.int .i64 0] w (ZV (pV s t) w):=ZmZ s t w
theorem Zi2 {n:Int} (h0:0<=n) (h1:n<=48) {x y:ByteArray} (hx:IsP ((n:Int):Rat) x y) (w:World) (hT:Tabs w) :
  Calls Tryz.prog 107 #[.int .i64 n,.int .i64 1] w (ZV (.tuple #[pV x y,.int .i64 0]) w):=by
 refine(Zhw n 1 Za Za Zd Zd w hT).mono ?_
 rintro e w' ⟨u,v,k,rfl,h,hb⟩
 rcases h with ⟨h,_⟩ | ⟨_,h,_⟩ | ⟨_,_,h⟩
 ·omega
 ·cases h
 ·have e1:mkRat (n.toNat:Nat) (1:Int).toNat=((n:Int):Rat):=by
   obtain⟨k,rfl⟩:∃ k:Nat,n=k:=⟨n.toNat,Za⟩
   have h:∀ k:Nat,k<=48->mkRat ((k:Int).toNat:Nat) (1:Int).toNat=(((k:Nat):Int):Rat):=by decide +kernel
   exact h k Za
  obtain⟨rfl,rfl,rfl⟩:=Zcf h hx e1
  exact⟨rfl,hb⟩
structure CovF (t:TaskP) (p:List (List Int)) (T N b rb ro rk pb po pc:Nat) (rq rp rc gq gp gc:Nat->Nat) (w:World):Prop where
 w2:w.cell? ⟨b,2,none⟩=some (.slice (some ⟨rb,ro,none⟩) T rk)
 w3:w.cell? ⟨b,3,none⟩=some (.slice (some ⟨pb,po,none⟩) T pc)
 rate:∀ u,u<T->w.cell? ⟨rb,ro+u,none⟩=some (.slice (some ⟨rq u,rp u,none⟩) N (rc u))/\∀ i,i<N->w.cell? ⟨rq u,rp u+i*2,none⟩=some (.string (eR t u i).1)/\w.cell? ⟨rq u,rp u+i*2+1,none⟩=some (.string (eR t u i).2)
 plan:∀ u,u<T->w.cell? ⟨pb,po+u,none⟩=some (.slice (some ⟨gq u,gp u,none⟩) N (gc u))/\∀ i,i<N->w.cell? ⟨gq u,gp u+i,none⟩=some (.int .i64 (pN p u i))
 eff:EffZ w
 tabs:Tabs w
theorem Zfp {t:TaskP} {p:List (List Int)} {b m:Nat} {sv hv rv pv:Value} {pb po pc:Nat} {gq gp gc:Nat->Nat} {w:World} (h:WorkW t b m sv hv rv pv w) (hP:PlanW p t.sites.length m pv pb po pc gq gp gc w) (ok:TaskOk t) (inn:Zbu t p) {i:Nat} (hi:i<t.sites.length) :
  Calls Tryz.prog 71 #[.pointer (some ⟨b,0,none⟩),.int .i64 i] w (fun e w'=>∃ x y,e=.returned (pV x y)/\IsP (covR t p i) x y/\Below w.heap.size w w'):=by
 obtain⟨sb,so,sc,hb,ho,hc,rb,ro,rk,cv,rq,rp,rc,k1,k2,k3,hA⟩:=h.open ok
 obtain⟨N,hN⟩:=Zpg t.sites.length
 obtain⟨T,hT⟩:=Zpg p.length
 have hTR:t.rates.length=T:=by rw[ok.rates,<- inn.1,hT]
 have hTH:t.hours.length=T:=by rw[<- inn.1,hT]
 have HC:Hid (∀ V,Below w.heap.size w V->CovF t p T N b rb ro rk pb po pc rq rp rc gq gp gc V):=fun V hV=>by
  have A:=hA V (hV.keepsS _)
  have B:=hP.keep (hV.keepsS _)
  refine⟨by rw[<- hTR];exact A.w2,by rw[<- hT];exact A.w3.trans (congrArg some B.val),fun u hu=>?_,fun u hu=>?_,A.at'.eff,A.at'.tabs⟩
  ·obtain⟨a1,_,_,a2⟩:=A.at'.rate u (by rw[hTR];exact hu)
   rw[hN] at a1 a2
   exact⟨a1,a2⟩
  ·obtain⟨a1,_,_,a2⟩:=B.at' u (by rw[hT];exact hu)
   rw[hN] at a1 a2
   exact⟨a1,a2⟩
 have HF:Hid (∀ k,k<T->(∃ x y,IsP (ZaW t p i (k+1)) x y)/\(∃ x y,IsP (rR t k i*((pN p k i:Int):Rat)) x y)/\(∃ x y,IsP ((pN p k i:Int):Rat) x y)/\IsP (rR t k i) (eR t k i).1 (eR t k i).2/\0<=pN p k i/\pN p k i<=48):=fun k hk=>by
  have hn:=inn.2.2 k i (by rw[hT];exact hk) hi
  exact⟨(ZcW ok inn hi (by rw[hT];exact hk)).1,(Zfq ok inn (by rw[hT];exact hk) hi).1,(Zd3 hn.1 hn.2).1,(Zd6 ok (by rw[hTR];exact hk) hi).1,hn.1,hn.2⟩
 have HT:Hid (p.length=T):=hT
 have hT8:T<=8:=by rw[<- hTH];exact ok.teams.2
 have hpc:T<=pc/\pc<=9223372036854775807:=by rw[<- hT];exact hP.cap
 have hrk:T<=rk/\rk<=9223372036854775807:=by rw[<- hTR];exact k3
 have hN24:N<=24:=by rw[<- hN];exact ok.sites.2
 rw[hN] at hi
 clear h hP ok inn hA k1 k2 k3 hN hT hTR hTH sc hb ho hc
 have HE0:Hid (Env w.heap.size w [(w.heap.size,pObj Zpa Zpa)] [] (w.alloc (pObj Zpa Zpa))):=(Env.start w).push _ rfl
 have A0:=HC.out _ HE0.out.base
 have z0:=A0.eff.z0
 have z1:=A0.eff.z1
 have HE1:Hid (Env w.heap.size w [(w.heap.size+1,pObj ⟨#[48]⟩ ⟨#[49]⟩),(w.heap.size,pObj Zpa Zpa)] [] ((w.alloc (pObj Zpa Zpa)).alloc (pObj ⟨#[48]⟩ ⟨#[49]⟩))):=HE0.out.push _ Zc
 have A1:=HC.out _ HE1.out.base
 have a3:=A1.w3
 clear A0 A1 HE0
 go_enter Tryz.func71,Tryz.ntmps71
 go_wp2_with fail
 clear z0 z1 a3
 go_loopw [16] (fun v wr=>∃ (k:Nat) (a:Rat) (x y:ByteArray),v=.int .i64 k/\k<=T/\Hid (IsP a x y)/\Hid (a=ZaW t p i k)/\Hid (Env w.heap.size w [(w.heap.size+1,pObj x y),(w.heap.size,pObj Zpa Zpa)] [] wr)) (fun v _=>T-(intOf v).toNat)
 case atStart=>exact⟨0,0,_,_,rfl,ZoD _,Zad,rfl,HE1⟩
 case round=>
  obtain⟨k,a,x,y,rfl,hk,HIA,HEQ,HE⟩:=hrel
  clear HE1
  by_cases hlt:k<T
  ·have HK:Hid (∀ V,Below w.heap.size w V->(V.cell? ⟨b,2,none⟩=some (.slice (some ⟨rb,ro,none⟩) T rk)/\V.cell? ⟨rb,ro+k,none⟩=some (.slice (some ⟨rq k,rp k,none⟩) N (rc k))/\V.cell? ⟨rq k,rp k+i*2,none⟩=some (.string (eR t k i).1)/\V.cell? ⟨rq k,rp k+i*2+1,none⟩=some (.string (eR t k i).2))/\
     (V.cell? ⟨pb,po+k,none⟩=some (.slice (some ⟨gq k,gp k,none⟩) N (gc k))/\V.cell? ⟨gq k,gp k+i,none⟩=some (.int .i64 (pN p k i)))/\Tabs V):=fun V hV=>by
    have A:=HC.out V hV
    exact⟨⟨A.w2,(A.rate k hlt).1,((A.rate k hlt).2 i hi).1,((A.rate k hlt).2 i hi).2⟩,⟨(A.plan k hlt).1,(A.plan k hlt).2 i hi⟩,A.tabs⟩
   have hF:=HF.out k hlt
   have HNX:Hid (ZaW t p i (k+1)=a+rR t k i*((pN p k i:Int):Rat)):=by rw[HEQ.out];rfl
   obtain⟨q1,hq1⟩:=Zpg (rq k)
   obtain⟨o1,ho1⟩:=Zpg (rp k)
   obtain⟨c1,hc1⟩:=Zpg (rc k)
   obtain⟨q2,hq2⟩:=Zpg (gq k)
   obtain⟨o2,ho2⟩:=Zpg (gp k)
   obtain⟨c2,hc2⟩:=Zpg (gc k)
   obtain⟨n,hn⟩:=Zpg (pN p k i)
   obtain⟨⟨s1,t1⟩,hs1⟩:∃ z,eR t k i=z:=⟨_,rfl⟩
   rw[hq1,ho1,hc1,hq2,ho2,hc2,hn,hs1] at HK
   rw[hn,hs1] at hF
   rw[hn] at HNX
   dsimp only at HK hF
   obtain⟨⟨x9,y9,hx9⟩,⟨x8,y8,hx8⟩,⟨xr,yr,hxr⟩,hrr,hn0,hn1⟩:=hF
   have HX9:=Zpe hx9
   have HX8:=Zpe hx8
   have HXR:=Zpe hxr
   have HRR:=Zpe hrr
   clear hx9 hx8 hxr hrr hq1 ho1 hc1 hq2 ho2 hc2 hn hs1
   obtain⟨_,⟨p0,p1⟩,_⟩:=HK.out _ HE.out.base
   have i0':(0:Int)<=(k:Int):=Za
   have i1':(k:Int)<(T:Int):=Za
   have j0':(0:Int)<=(i:Int):=Za
   have j1':(i:Int)<(N:Int):=Za
   go_wp2_with fail
   refine(Zi2 hn0 hn1 HXR.out _ (HK.out _ HE.out.base).2.2).mono ?_
   rintro e w2 ⟨rfl,hb2⟩
   have HE2:=Zpe ((HE.out.step hb2).push (pObj xr yr) rfl)
   clear hb2 p0 p1 HE
   obtain⟨g,hg⟩:=Zpg w2.heap.size
   obtain⟨w3,hw3⟩:=Zpg (w2.alloc (pObj xr yr))
   rw[hg,hw3] at HE2
   go_wp2_with fail
   try rw[hg]
   try rw[hw3]
   clear hg hw3
   refine ZP [(1,0),(1,1),(1,2),(1,3),(1,4),(1,5),(1,6),(1,7),(1,8),(1,9),(1,10),(1,11),(1,12),(0,13),(1,14),(1,15),(0,16),(0,17),(1,18),(1,19),(0,20),(0,21)] (Env w.heap.size w [(g,pObj xr yr),(w.heap.size+1,pObj x y),(w.heap.size,pObj Zpa Zpa)] []) (fun i=>i==21)
    Zb Zb (fun j hj=>by have h:22<=j:=hj;simp;omega) Zi HE2.out.drew ?_
   obtain⟨w4,hw4⟩:=Zpg w3.drew
   have HE4:Hid (Env w.heap.size w [(g,pObj xr yr),(w.heap.size+1,pObj x y),(w.heap.size,pObj Zpa Zpa)] [] w4):=by rw[<- hw4];exact HE2.out.drew
   rw[hw4]
   clear hw4 HE2
   iterate 13
    refine Zx _ rfl rfl (fun w' hS=>by have c0:=hS.cell 1 0 (v:=.string x) rfl rfl;have c1:=hS.cell 1 1 (v:=.string y) rfl rfl;have d0:=hS.cell 0 0 (v:=.string xr) rfl rfl;have d1:=hS.cell 0 1 (v:=.string yr) rfl rfl;obtain⟨⟨e0,e1,e2,e3⟩,_,_⟩:=HK.out _ hS.base;exact Ze) ?_
    simp only[Act.put,Zl]
   refine Zy 119 _ rfl rfl Zf ?_
   have HEC:=HE4
   refine(ZdL HRR.out HXR.out HX8.out rfl _ (HK.out _ HEC.out.base).2.2).mono ?_
   rintro e w5 ⟨rfl,hb⟩
   have HE5:=Zpe (HEC.out.step hb)
   refine .inl ⟨_,rfl,HE5.out,?_⟩
   clear hb HEC
   simp only[Act.put,Zl]
   iterate 2
    refine Zx _ rfl rfl (fun w' hS=>Ze) ?_
    simp only[Act.put,Zl]
   refine Zy 103 _ rfl rfl Zf ?_
   have HEC:=HE5
   refine(ZaE x8 y8 _).mono ?_
   rintro e w6 ⟨rfl,hb⟩
   have HE6:=Zpe (HEC.out.step hb)
   refine .inl ⟨_,rfl,HE6.out,?_⟩
   clear hb HEC
   simp only[Act.put,Zl]
   refine Zy 42 _ rfl rfl Zf ?_
   have HEC:=HE6
   refine(Zi1 HIA.out HX8.out HX9.out HNX.out.symm _ (HK.out _ HEC.out.base).2.2).mono ?_
   rintro e w7 ⟨rfl,hb⟩
   have HE7:=Zpe (HEC.out.step hb)
   refine .inl ⟨_,rfl,HE7.out,?_⟩
   clear hb HEC
   simp only[Act.put,Zl]
   iterate 2
    refine Zx _ rfl rfl (fun w' hS=>Ze) ?_
    simp only[Act.put,Zl]
   refine Zy 103 _ rfl rfl Zf ?_
   have HEC:=HE7
   refine(ZaE x9 y9 _).mono ?_
   rintro e w8 ⟨rfl,hb⟩
   have HE8:=Zpe (HEC.out.step hb)
   refine .inl ⟨_,rfl,HE8.out,?_⟩
   clear hb HEC
   simp only[Act.put,Zl]
   have HE9:=Zpe (HE8.out.only [1,2] _ rfl Zd)
   have r0:=HE9.out.cell 0 0 rfl rfl
   have r1:=HE9.out.cell 0 1 rfl rfl
   have f0:=HE9.out.free 0 0 rfl
   have f1:=HE9.out.free 0 1 rfl
   refine ZB rfl rfl fun K hK=>?_
   go_simp
   have HE10:=Zpe (HE9.out.fill (.string x9) (.string y9))
   refine hK _ _ (.inl rfl) ?_
   clear hK K r0 r1 f0 f1 HE4 HE5 HE6 HE7 HE8 HE9
   refine ZD ?_
   go_wp2
   go_roundw
   case rel=>exact⟨k+1,_,x9,y9,by go_num,Za,HX9,rfl,HE10⟩
   case measure=>exact Zj
  ·have hkm:k=T:=Za
   have HAA:Hid (IsP (covR t p i) x y):=by
    have h:=HIA.out
    rw[HEQ.out,hkm] at h
    unfold covR
    rw[HT.out]
    exact h
   have HE1:=Zpe (HE.out.only [1,0] _ rfl Zd)
   clear hkm
   have c0:=HE1.out.cell 1 0 (v:=.string x) rfl rfl
   have c1:=HE1.out.cell 1 1 (v:=.string y) rfl rfl
   have r0:=HE1.out.cell 0 0 rfl rfl
   have r1:=HE1.out.cell 0 1 rfl rfl
   have f0:=HE1.out.free 0 0 rfl
   have f1:=HE1.out.free 0 1 rfl
   go_wp2
   have HE9:=Zpe (HE1.out.fill (.string x) (.string y))
   have q0:=HE9.out.cell 0 0 (v:=.string x) rfl rfl
   have q1:=HE9.out.cell 0 1 (v:=.string y) rfl rfl
   exact Zor (v:=Zpb x y) (by simp[results,Tryz.f71,go_sem,q0,q1]) rfl ⟨x,y,rfl,HAA.out,HE9.out.base⟩
theorem EnvS.tail {S:Nat->Prop} {w0 w:World} {p:Nat×Obj} {bs:List (Nat×Obj)} (h:EnvS S w0 (p::bs) w):EnvS S w0 bs w:=
 ⟨h.base,h.up,fun i q hq=>h.cells (i+1) q (by simpa using hq),fun i j p q hp hq e=>by have:=h.apart (i+1) (j+1) p q (by simpa using hp) (by simpa using hq) e;omega⟩
theorem Wk.tail {m n:Nat} {t:TaskP} {w0 w:World} {p:Nat×Obj} {bs:List (Nat×Obj)} (h:Wk m t n w0 (p::bs) w):Wk m t n w0 bs w:=⟨h.env.tail,h.memo⟩
theorem Wk.bare {m n:Nat} {t:TaskP} {w0 w:World} {ob:Obj} {bs:List (Nat×Obj)} {g:Option Nat} (h:Wk m t n w0 (Zca ob bs g) w):Wk m t n w0 bs w:=by
 cases g with
 | none=>exact h
 | some G=>exact h.tail
def Zd9 (q:Rat) (m:Nat) (t:TaskP) (n:Nat) (w:World) (e:Ending) (w':World):Prop:=∃ x y,e=.returned (pV x y)/\IsP q x y/\Keeps (NotM m) w w'/\Memo w' m t n
abbrev aO (i:Int) (s u:ByteArray):Obj:=.cells #[.int .i64 i,.string s,.string u] 201
theorem ZfL {t:TaskP} {b m n:Nat} {sv hv rv pv:Value} {w:World} (h:WorkW t b m sv hv rv pv w) (hm:Memo w m t n) (hn:n<=1000000000000) (ok:TaskOk t) {i:Nat} (hi:i<t.sites.length) {q:Rat} {s u:ByteArray} (hq:IsP q s u) (hz:Sz 300 q) :
  Calls Tryz.prog 120 #[.pointer (some ⟨b,0,none⟩),.int .i64 i,pV s u] w (Zd9 (chF (eS t i).curve q) m t (n+1) w):=by
 obtain⟨sb,so,sc,hb,ho,hc,rb,ro,rk,cv,rq,rp,rc,k1,k2,k3,hA⟩:=h.open ok
 have HF:Hid (∃ x y,IsP (chF (eS t i).curve q) x y):=(Zcv ok hi hq.nn hz Zpf).1
 have HCH:Hid (ZY (eS t i).curve.length (cR (eS t i).curve) (hR (eS t i).curve) q (chF (eS t i).curve q)):=Zgq (ok.site i hi).2 q
 have HCU:Hid (CurveP (eS t i).curve):=(ok.site i hi).2
 have HW:=Zpe hA
 have HQ:=Zpe hq
 have HZ:=Zpe hz
 have HI:=Zpe hi
 have hN24:=ok.sites.2
 have HN24:=Zpe hN24
 have HN:=Zpe hn
 obtain⟨W3,hW3⟩:=Zpg (((w.alloc (pObj s u)).alloc (pObj Zpa Zpa)).alloc (aO i s u))
 obtain⟨G,hG⟩:=Zpg w.heap.size
 have HE0:Hid (Wk m t n w [(G+1+1,aO i s u),(G+1,pObj Zpa Zpa),(G,pObj s u)] W3):=by
  rw[<- hW3,<- hG]
  exact(((Wk.start hm).push (pObj s u) rfl).push (pObj Zpa Zpa) Zc).push (aO i s u) Zc
 obtain⟨N,hNN⟩:=Zpg t.sites.length
 have HLK:=Zpe (HE0.out.memo.look hi hN24 hq)
 have HS:Hid (∀ V,Keeps (NotM m) w V->V.cell? ⟨b,0,none⟩=some (.slice (some ⟨sb,so,none⟩) N sc)/\V.cell? ⟨b,4,none⟩=some (.map (some m))/\V.cell? ⟨sb,so+i*3+2,none⟩=some (cv i)/\BL V (cv i) (eS t i).curve/\DetV V/\Tabs V):=fun V hV=>by
  have A:=hA V hV
  obtain⟨_,_,a2,a3⟩:=A.at'.site i hi
  exact⟨by rw[<- hNN];exact A.w0,A.w4,a2,a3,A.at'.det,A.at'.tabs⟩
 obtain⟨k1,k1'⟩:=k1
 rw[hNN] at k1 hi
 obtain⟨cvi,hcv⟩:=Zpg (cv i)
 rw[hcv] at HS
 have f0:W3.cell? ⟨G,0,none⟩=some (.string s):=HE0.out.cell 2 0 rfl rfl
 clear h hm hn ok hq hz hA k2 k3 hcv hNN hN24
 go_enter Tryz.func120,Tryz.ntmps120
 go_wp2_with fail
 rcases HLK.out with ⟨x,y,hx,hlk⟩ | hlk
 ·have HX:=Zpe hx
  clear hx
  refine Zaw 9 8 [(0,10),(2,11)] [(1,0),(1,1),(1,2),(1,3),(1,4),(1,5),(1,6),(2,7),(2,8)] (fun _ g V=>Wk m t n w (Zca (pObj Zpa Zpa) [(G+1+1,aO i s u),(G+1,pObj Zpa Zpa),(G,pObj s u)] g) V/\V.heap[m]?=W3.heap[m]?) (fun i=>i==7 || i==8 || i==10 || i==11)
   Zb Zb (fun j hj=>by have h:12<=j:=hj;simp;omega) Zi rfl rfl (fun _=>rfl) (fun a V K hK=>by go_simp;exact hK) (fun j V h=>⟨h.1.push _ rfl,(ZoG V _ m h.1.memo.lt).trans h.2⟩) ⟨HE0.out.drew,rfl⟩ ?_
  iterate 5
   refine ZS _ rfl (fun z=>rfl) (fun z j g w' hS=>by have hE:=hS.1.bare;have k0:=hE.cell 0 0 (v:=.int .i64 i) rfl rfl;have k1:=hE.cell 0 1 (v:=.string s) rfl rfl;have k2:=hE.cell 0 2 (v:=.string u) rfl rfl;obtain⟨_,e4,_⟩:=HS.out _ hE.base;exact Zg) ?_
   simp only[Act.put,Zl]
  refine ZS (.tuple #[pV x y,.bool true]) rfl (fun z=>rfl) (fun z j g w' hS=>by have hlk:=hlk w' hS.2;simp only[Act.put,Zm];go_simp) ?_
  simp only[Act.put,Zl]
  iterate 1
   refine ZS _ rfl (fun z=>rfl) (fun z j g w' hS=>Zg) ?_
   simp only[Act.put,Zl]
  iterate 2
   refine ZfR _ rfl (fun z=>rfl) (fun z w'=>Zh) ?_
   simp only[Act.put,Zl]
  refine ZaP fun g V hS=>?_
  simp only[Act.put,Zl]
  obtain⟨HE8,_⟩:=hS
  have HE8:Hid (Wk m t n w [(g,pObj Zpa Zpa),(G+1+1,aO i s u),(G+1,pObj Zpa Zpa),(G,pObj s u)] V):=HE8
  have r0:=HE8.out.cell 0 0 rfl rfl
  have r1:=HE8.out.cell 0 1 rfl rfl
  have f0:=HE8.out.free 0 0 rfl
  have f1:=HE8.out.free 0 1 rfl
  refine ZB rfl rfl fun K hK=>?_
  go_simp
  have HE9:=Zpe (HE8.out.fill (.string x) (.string y))
  refine hK _ _ (.inl rfl) ?_
  clear hK K r0 r1 f0 f1 HE8 HE0
  iterate 1
   refine ZcZ _ rfl rfl (fun w' _=>Zf) ?_
   simp only[Act.put,Zl]
  refine ZD ?_
  obtain⟨Z,hZ⟩:=Zpg ((V.setCell ⟨g,0,none⟩ (.string x)).setCell ⟨g,1,none⟩ (.string y))
  rw[hZ] at HE9 ⊢
  clear hZ
  clear hlk HLK
  have HE:=HE9
  have HEA:=Zpe (HE.out.only [2,0] _ rfl Zd)
  have d0:=HEA.out.cell 1 0 (v:=.string x) rfl rfl
  have d1:=HEA.out.cell 1 1 (v:=.string y) rfl rfl
  have r0:=HEA.out.cell 0 0 (v:=.string Zpa) rfl rfl
  have r1:=HEA.out.cell 0 1 (v:=.string Zpa) rfl rfl
  have f0:=HEA.out.free 0 0 rfl
  have f1:=HEA.out.free 0 1 rfl
  go_wp2
  have HEB:=Zpe (HEA.out.fill (.string x) (.string y))
  have q0:=HEB.out.cell 0 0 (v:=.string x) rfl rfl
  have q1:=HEB.out.cell 0 1 (v:=.string y) rfl rfl
  exact Zor (v:=Zpb x y) (by simp[results,Tryz.f120,go_sem,q0,q1]) rfl ⟨x,y,rfl,HX.out,HEB.out.base,HEB.out.memo.mono (Nat.le_succ _)⟩
 ·obtain⟨x,y,hx⟩:=HF.out
  have HX:=Zpe hx
  clear hx
  refine Zaw 9 8 [(0,10),(2,11)] [(1,0),(1,1),(1,2),(1,3),(1,4),(1,5),(1,6),(2,7),(2,8)] (fun _ g V=>Wk m t n w (Zca (pObj Zpa Zpa) [(G+1+1,aO i s u),(G+1,pObj Zpa Zpa),(G,pObj s u)] g) V/\V.heap[m]?=W3.heap[m]?) (fun i=>i==7 || i==8 || i==10 || i==11)
   Zb Zb (fun j hj=>by have h:12<=j:=hj;simp;omega) Zi rfl rfl (fun _=>rfl) (fun a V K hK=>by go_simp;exact hK) (fun j V h=>⟨h.1.push _ rfl,(ZoG V _ m h.1.memo.lt).trans h.2⟩) ⟨HE0.out.drew,rfl⟩ ?_
  iterate 5
   refine ZS _ rfl (fun z=>rfl) (fun z j g w' hS=>by have hE:=hS.1.bare;have k0:=hE.cell 0 0 (v:=.int .i64 i) rfl rfl;have k1:=hE.cell 0 1 (v:=.string s) rfl rfl;have k2:=hE.cell 0 2 (v:=.string u) rfl rfl;obtain⟨_,e4,_⟩:=HS.out _ hE.base;exact Zg) ?_
   simp only[Act.put,Zl]
  refine ZS (.tuple #[pV Zpa Zpa,.bool false]) rfl (fun z=>rfl) (fun z j g w' hS=>by have hlk:=hlk w' hS.2;simp only[Act.put,Zm];go_simp) ?_
  simp only[Act.put,Zl]
  iterate 1
   refine ZS _ rfl (fun z=>rfl) (fun z j g w' hS=>Zg) ?_
   simp only[Act.put,Zl]
  iterate 2
   refine ZfR _ rfl (fun z=>rfl) (fun z w'=>Zh) ?_
   simp only[Act.put,Zl]
  refine ZaP fun g V hS=>?_
  simp only[Act.put,Zl]
  obtain⟨HE8,_⟩:=hS
  have HE8:Hid (Wk m t n w [(g,pObj Zpa Zpa),(G+1+1,aO i s u),(G+1,pObj Zpa Zpa),(G,pObj s u)] V):=HE8
  have r0:=HE8.out.cell 0 0 rfl rfl
  have r1:=HE8.out.cell 0 1 rfl rfl
  have f0:=HE8.out.free 0 0 rfl
  have f1:=HE8.out.free 0 1 rfl
  refine ZB rfl rfl fun K hK=>?_
  go_simp
  have HE9:=Zpe (HE8.out.fill (.string Zpa) (.string Zpa))
  refine hK _ _ (.inl rfl) ?_
  clear hK K r0 r1 f0 f1 HE8 HE0
  iterate 1
   refine ZcZ _ rfl rfl (fun w' _=>Zf) ?_
   simp only[Act.put,Zl]
  refine ZD ?_
  obtain⟨Z,hZ⟩:=Zpg ((V.setCell ⟨g,0,none⟩ (.string Zpa)).setCell ⟨g,1,none⟩ (.string Zpa))
  rw[hZ] at HE9 ⊢
  clear hZ
  clear hlk HLK
  go_wp2_with fail
  refine ZP [(1,0),(1,1),(1,2),(1,3),(1,4),(1,5),(1,6),(1,7),(1,8),(1,9),(0,10),(1,11),(1,12),(0,13),(0,14)] (Wk m t n w [(g,pObj Zpa Zpa),(G+1+1,aO i s u),(G+1,pObj Zpa Zpa),(G,pObj s u)]) (fun i=>i==14)
   Zb Zb (fun j hj=>by have h:15<=j:=hj;simp;omega) Zi HE9.out.drew ?_
  obtain⟨w4,hw4⟩:=Zpg Z.drew
  have HE4:Hid (Wk m t n w [(g,pObj Zpa Zpa),(G+1+1,aO i s u),(G+1,pObj Zpa Zpa),(G,pObj s u)] w4):=by rw[<- hw4];exact HE9.out.drew
  rw[hw4]
  clear hw4 HE9
  have i0':(0:Int)<=(i:Int):=Za
  have i1':(i:Int)<(N:Int):=Za
  iterate 10
   refine Zx _ rfl rfl (fun w' hS=>by have c0:=hS.cell 3 0 (v:=.string s) rfl rfl;have c1:=hS.cell 3 1 (v:=.string u) rfl rfl;obtain⟨e0,e1,e2,_⟩:=HS.out _ hS.base;exact Ze) ?_
   simp only[Act.put,Zl]
  refine Zy 168 _ rfl rfl Zf ?_
  have HEC:=HE4
  refine(Zmk (HS.out _ HEC.out.base).2.2.2.1 HCU.out HCU.out.limB HQ.out HZ.out HCH.out HX.out (HS.out _ HEC.out.base).2.2.2.2.1 (HS.out _ HEC.out.base).2.2.2.2.2).mono ?_
  rintro e w5 ⟨rfl,hb⟩
  have HE5:=Zpe (HEC.out.step hb)
  refine .inl ⟨_,rfl,HE5.out,?_⟩
  clear hb HEC
  simp only[Act.put,Zl]
  iterate 2
   refine Zx _ rfl rfl (fun w' hS=>Ze) ?_
   simp only[Act.put,Zl]
  refine Zy 103 _ rfl rfl Zf ?_
  have HEC:=HE5
  refine(ZaE x y _).mono ?_
  rintro e w6 ⟨rfl,hb⟩
  have HE6:=Zpe (HEC.out.step hb)
  refine .inl ⟨_,rfl,HE6.out,?_⟩
  clear hb HEC
  simp only[Act.put,Zl]
  have r0:=HE6.out.cell 0 0 rfl rfl
  have r1:=HE6.out.cell 0 1 rfl rfl
  have f0:=HE6.out.free 0 0 rfl
  have f1:=HE6.out.free 0 1 rfl
  refine ZB rfl rfl fun K hK=>?_
  go_simp
  have HE7:=Zpe (HE6.out.fill (.string x) (.string y))
  refine hK _ _ (.inl rfl) ?_
  clear hK K r0 r1 f0 f1 HE4 HE5 HE6
  refine ZD ?_
  obtain⟨Z2,hZ⟩:=Zpg ((w6.setCell ⟨g,0,none⟩ (.string x)).setCell ⟨g,1,none⟩ (.string y))
  rw[hZ] at HE7 ⊢
  clear hZ
  go_wp2_with fail
  obtain⟨w8,hput,hm8,hk8⟩:=(HE7.out.drew.memo).put HI.out HN24.out HQ.out HX.out HN.out
  refine ZP [(1,0),(1,1),(1,2),(1,3),(1,4),(1,5),(0,6)] (fun V=>V=Z2.drew) (fun i=>i==6)
   Zb Zb (fun j hj=>by have h:7<=j:=hj;simp;omega) Zi rfl ?_
  have HE8:Hid (Wk m t (n+1) w [(g,pObj x y),(G+1+1,aO i s u),(G+1,pObj Zpa Zpa),(G,pObj s u)] w8):=HE7.out.drew.call hk8 hm8
  iterate 6
   refine Zx _ rfl rfl (fun w' hS=>by subst hS;have hE:=HE7.out.drew;have c0:=hE.cell 0 0 (v:=.string x) rfl rfl;have c1:=hE.cell 0 1 (v:=.string y) rfl rfl;have k0:=hE.cell 1 0 (v:=.int .i64 i) rfl rfl;have k1:=hE.cell 1 1 (v:=.string s) rfl rfl;have k2:=hE.cell 1 2 (v:=.string u) rfl rfl;obtain⟨_,e1,_⟩:=HS.out _ hE.base;exact Ze) ?_
   simp only[Act.put,Zl]
  refine ZB rfl rfl fun K hK=>?_
  go_simp
  refine hK _ _ (.inl rfl) ?_
  clear hK K hput hm8 hk8 HE7
  refine ZD ?_
  have HE:=HE8
  have HEA:=Zpe (HE.out.only [2,0] _ rfl Zd)
  have d0:=HEA.out.cell 1 0 (v:=.string x) rfl rfl
  have d1:=HEA.out.cell 1 1 (v:=.string y) rfl rfl
  have r0:=HEA.out.cell 0 0 (v:=.string Zpa) rfl rfl
  have r1:=HEA.out.cell 0 1 (v:=.string Zpa) rfl rfl
  have f0:=HEA.out.free 0 0 rfl
  have f1:=HEA.out.free 0 1 rfl
  go_wp2
  have HEB:=Zpe (HEA.out.fill (.string x) (.string y))
  have q0:=HEB.out.cell 0 0 (v:=.string x) rfl rfl
  have q1:=HEB.out.cell 0 1 (v:=.string y) rfl rfl
  exact Zor (v:=Zpb x y) (by simp[results,Tryz.f120,go_sem,q0,q1]) rfl ⟨x,y,rfl,HX.out,HEB.out.base,HEB.out.memo⟩
abbrev siO (s t:ByteArray) (v:Value):Obj:=.cells #[.string s,.string t,v] 74
def WkX (m:Nat) (t:TaskP) (w0:World) (bs:List (Nat×Obj)) (w:World):Prop:=∃ n,Wk m t n w0 bs w
def ZnX (f:Nat->Rat) (N m:Nat) (t:TaskP) (n:Nat) (w:World) (e:Ending) (w':World):Prop:=
 ∃ x y k,((k=0/\e=.returned (pV x y))\/(k≠0/\e=ZdU k))/\SumE f N x y k/\Keeps (NotM m) w w'/\Memo w' m t n
theorem Zgb {a b:Rat} {s t u v:ByteArray} (ha:IsP a s t) (hb:IsP b u v) (w:World) (hT:Tabs w) :
  Calls Tryz.prog 42 #[pV s t,pV u v] w (ZL (Ans (a+b)) w):=by
 refine(Zkb s t u v w ha.le.1 ha.le.2 hb.le.1 hb.le.2 hT).mono ?_
 rintro e w' ⟨x,y,n,rfl,h,hB⟩
 rcases h with ⟨h,_⟩ | ⟨_,h⟩
 ·rw[ha.oks hb] at h;cases h
 ·rw[ha.rat,hb.rat] at h
  exact⟨x,y,n,rfl,h,hB⟩
theorem Zkg {t:TaskP} {p:List (List Int)} {b m n:Nat} {sv hv rv pv:Value} {pb po pc:Nat} {gq gp gc:Nat->Nat} {w:World} (h:WorkW t b m sv hv rv pv w) (hP:PlanW p t.sites.length m pv pb po pc gq gp gc w) (hm:Memo w m t n) (hn:n<=900000000000) (ok:TaskOk t) (inn:Zbu t p) :
  Calls Tryz.prog 60 #[.pointer (some ⟨b,0,none⟩)] w (ZnX (valF t p) t.sites.length m t (n+24) w):=by
 obtain⟨sb,so,sc,hb,ho,hc,rb,ro,rk,cv,rq,rp,rc,k1,k2,k3,hA⟩:=h.open ok
 obtain⟨N,hN⟩:=Zpg t.sites.length
 have HS:Hid (∀ V,Keeps (NotM m) w V->V.cell? ⟨b,0,none⟩=some (.slice (some ⟨sb,so,none⟩) N sc)/\(∀ i,i<N->V.cell? ⟨sb,so+i*3,none⟩=some (.string (eS t i).weight.1)/\V.cell? ⟨sb,so+i*3+1,none⟩=some (.string (eS t i).weight.2)/\V.cell? ⟨sb,so+i*3+2,none⟩=some (cv i))/\EffZ V/\Tabs V):=fun V hV=>by
  have A:=hA V hV
  refine⟨by rw[<- hN];exact A.w0,fun i hi=>?_,A.at'.eff,A.at'.tabs⟩
  obtain⟨a0,a1,a2,_⟩:=A.at'.site i (by rw[hN];exact hi)
  exact⟨a0,a1,a2⟩
 have HCV:Hid (∀ i,i<N->∀ V,Keeps (NotM m) w V->Calls Tryz.prog 71 #[.pointer (some ⟨b,0,none⟩),.int .i64 i] V (fun e w'=>∃ x y,e=.returned (pV x y)/\IsP (covR t p i) x y/\Below V.heap.size V w')):=fun i hi V hV=>
  Zfp (h.keep hV) (hP.keep hV) ok inn (by rw[hN];exact hi)
 have HCH:Hid (∀ i,i<N->∀ V k x y,Keeps (NotM m) w V->Memo V m t k->k<=1000000000000->IsP (covR t p i) x y->Calls Tryz.prog 120 #[.pointer (some ⟨b,0,none⟩),.int .i64 i,pV x y] V (Zd9 (chF (eS t i).curve (covR t p i)) m t (k+1) V)):=fun i hi V k x y hV hk hk2 hx=>
  ZfL (h.keep hV) hk hk2 ok (by rw[hN];exact hi) hx ((ZcW ok inn (by rw[hN];exact hi) Zpf).2.1.mono Zd)
 have HF:Hid (∀ i,i<N->IsP (wR t i) (eS t i).weight.1 (eS t i).weight.2/\(∃ x y,IsP (valF t p i) x y)/\0<=valF t p i):=fun i hi=>by
  have hi':i<t.sites.length:=by rw[hN];exact hi
  obtain⟨c1,c2,c3⟩:=ZcW ok inn hi' Zpf
  obtain⟨d1,d2,d3,d4⟩:=Zcv ok hi' c3 c2 Zd
  obtain⟨w1,w2⟩:=Zfz ok hi'
  have n0:=Rat.mul_nonneg w1.nn d3
  exact⟨w1,Zaa n0 (Sz.mul w1.nn d3 w2 d2) Zd Zd,n0⟩
 have HSH:Hid (∀ i,i<N->∃ p n c,cv i=.slice p n c):=fun i hi=>by
  obtain⟨_,_,_,h1⟩:=(hA w (Keeps.refl _ _)).at'.site i (by rw[hN];exact hi)
  obtain⟨p,c,h2,_⟩:=h1
  exact⟨_,_,_,h2⟩
 have HM:=Zpe hm
 have HN:=Zpe hn
 have hN24:N<=24:=by rw[<- hN];exact ok.sites.2
 have hsc:N<=sc/\sc<=9223372036854775807:=by rw[<- hN];exact k1
 rw[hN]
 clear h hP hm hn ok inn hA k1 k2 k3 hN
 have HE0:Hid (Wk m t n w [(w.heap.size,pObj Zpa Zpa)] (w.alloc (pObj Zpa Zpa))):=(Wk.start HM.out).push _ rfl
 obtain⟨a0,_,z,_⟩:=HS.out _ HE0.out.base
 have z0:=z.z0
 have z1:=z.z1
 have HE1:Hid (Wk m t n w [(w.heap.size+1,pObj ⟨#[48]⟩ ⟨#[49]⟩),(w.heap.size,pObj Zpa Zpa)] ((w.alloc (pObj Zpa Zpa)).alloc (pObj ⟨#[48]⟩ ⟨#[49]⟩))):=HE0.out.push _ Zc
 obtain⟨a1,_⟩:=HS.out _ HE1.out.base
 clear z HE0 HM
 go_enter Tryz.func60,Tryz.ntmps60
 go_wp2_with fail
 clear z0 z1 a0 a1
 go_loopw [13] (fun v wr=>∃ (k:Nat) (x y:ByteArray),v=.int .i64 k/\k<=N/\Hid (IsP (sumF (valF t p) k) x y)/\Hid (Zap (valF t p) k)/\Hid (Wk m t (n+k) w [(w.heap.size+1,pObj x y),(w.heap.size,pObj Zpa Zpa)] wr)) (fun v _=>N-(intOf v).toNat)
 case atStart=>exact⟨0,_,_,rfl,ZoD _,Zad,Zap.zero _,HE1⟩
 case round=>
  obtain⟨k,x,y,rfl,hk,HIA,HAF,HE⟩:=hrel
  clear HE1
  by_cases hlt:k<N
  ·obtain⟨hF1,⟨x8,y8,hx8⟩,hnn⟩:=HF.out k hlt
   have HCV1:=Zpe (HCV.out k hlt)
   have HCH1:=Zpe (HCH.out k hlt)
   have HV:Hid (∀ V,Keeps (NotM m) w V->V.cell? ⟨sb,so+k*3,none⟩=some (.string (eS t k).weight.1)/\V.cell? ⟨sb,so+k*3+1,none⟩=some (.string (eS t k).weight.2)/\V.cell? ⟨sb,so+k*3+2,none⟩=some (cv k)):=fun V hV=>(HS.out V hV).2.1 k hlt
   obtain⟨pq,nq,cq,hcv⟩:=HSH.out k hlt
   obtain⟨⟨s1,t1⟩,hs1⟩:∃ z,(eS t k).weight=z:=⟨_,rfl⟩
   rw[hcv,hs1] at HV
   rw[hs1] at hF1
   dsimp only at HV hF1
   have HX8:=Zpe hx8
   have HWR:=Zpe hF1
   have HNN:=Zpe hnn
   clear hx8 hF1 hnn hcv hs1
   obtain⟨e0,e1,e2⟩:=HV.out _ HE.out.base
   have i0':(0:Int)<=(k:Int):=Za
   have i1':(k:Int)<(N:Int):=Za
   have HE2:=Zpe (HE.out.push (siO s1 t1 (.slice pq nq cq)) rfl)
   clear HE
   obtain⟨g,hg⟩:=Zpg wr.heap.size
   obtain⟨w3,hw3⟩:=Zpg (wr.alloc (siO s1 t1 (.slice pq nq cq)))
   rw[hg,hw3] at HE2
   go_wp2_with fail
   try rw[hg]
   try rw[hw3]
   clear hg hw3 e0 e1 e2
   refine ZP [(1,0),(1,1),(1,2),(1,3),(1,4),(1,5),(1,6),(0,7),(0,8),(0,9),(1,10),(1,11),(0,12),(0,13),(1,14),(1,15),(0,16),(0,17)] (WkX m t w [(g,siO s1 t1 (.slice pq nq cq)),(w.heap.size+1,pObj x y),(w.heap.size,pObj Zpa Zpa)]) (fun i=>i==17)
    Zb Zb (fun j hj=>by have h:18<=j:=hj;simp;omega) Zi ⟨_,HE2.out.drew⟩ ?_
   obtain⟨w4,hw4⟩:=Zpg w3.drew
   have HE4:Hid (Wk m t (n+k) w [(g,siO s1 t1 (.slice pq nq cq)),(w.heap.size+1,pObj x y),(w.heap.size,pObj Zpa Zpa)] w4):=by rw[<- hw4];exact HE2.out.drew
   rw[hw4]
   clear hw4 HE2
   iterate 7
    refine Zx _ rfl rfl (fun w' hS=>by obtain⟨_,hS⟩:=hS;have c0:=hS.cell 1 0 (v:=.string x) rfl rfl;have c1:=hS.cell 1 1 (v:=.string y) rfl rfl;have d0:=hS.cell 0 0 (v:=.string s1) rfl rfl;have d1:=hS.cell 0 1 (v:=.string t1) rfl rfl;exact Ze) ?_
    simp only[Act.put,Zl]
   refine Zy 71 _ rfl rfl Zf ?_
   have HEC:=HE4
   refine(HCV1.out _ HEC.out.base).mono ?_
   rintro e w5 ⟨xc,yc,rfl,hxc,hb⟩
   have HE5:=Zpe (HEC.out.step hb)
   refine .inl ⟨_,rfl,⟨_,HE5.out⟩,?_⟩
   clear hb HEC
   simp only[Act.put,Zl]
   have HXC:=Zpe hxc
   clear hxc
   refine Zy 120 _ rfl rfl Zf ?_
   have HEC:=HE5
   refine(HCH1.out _ _ _ _ HEC.out.base HEC.out.memo (by have:=HN.out;omega) HXC.out).mono ?_
   rintro e w6 ⟨xh,yh,rfl,hxh,hb,hmm⟩
   have HE6:=Zpe (HEC.out.call hb hmm)
   refine .inl ⟨_,rfl,⟨_,HE6.out⟩,?_⟩
   clear hb HEC
   simp only[Act.put,Zl]
   have HXH:=Zpe hxh
   clear hxh hmm
   refine Zy 119 _ rfl rfl Zf ?_
   have HEC:=HE6
   refine(ZdL HWR.out HXH.out HX8.out rfl _ (HS.out _ HEC.out.base).2.2.2).mono ?_
   rintro e w7 ⟨rfl,hb⟩
   have HE7:=Zpe (HEC.out.step hb)
   refine .inl ⟨_,rfl,⟨_,HE7.out⟩,?_⟩
   clear hb HEC
   simp only[Act.put,Zl]
   iterate 2
    refine Zx _ rfl rfl (fun w' hS=>Ze) ?_
    simp only[Act.put,Zl]
   refine Zy 103 _ rfl rfl Zf ?_
   have HEC:=HE7
   refine(ZaE x8 y8 _).mono ?_
   rintro e w8 ⟨rfl,hb⟩
   have HE8:=Zpe (HEC.out.step hb)
   refine .inl ⟨_,rfl,⟨_,HE8.out⟩,?_⟩
   clear hb HEC
   simp only[Act.put,Zl]
   refine Zy 42 _ rfl rfl Zf ?_
   have HEC:=HE8
   refine(Zgb HIA.out HX8.out _ (HS.out _ HEC.out.base).2.2.2).mono ?_
   rintro e w9 ⟨x9,y9,n9,rfl,hA9,hb⟩
   have HE9:=Zpe (HEC.out.step hb)
   refine .inl ⟨_,rfl,⟨_,HE9.out⟩,?_⟩
   clear hb HEC
   simp only[Act.put,Zl]
   have HA9:=Zpe hA9
   clear hA9
   iterate 2
    refine Zx _ rfl rfl (fun w' hS=>Ze) ?_
    simp only[Act.put,Zl]
   refine Zy 103 _ rfl rfl Zf ?_
   refine(Zd0 x9 y9 n9 _).mono ?_
   rintro e w10 ⟨hE,hb⟩
   have HE10:=Zpe (HE9.out.step hb)
   clear HE4 HE5 HE6 HE7 HE8 HE9 hb
   rcases hE with ⟨h0,rfl⟩ | ⟨h0,rfl⟩
   ·refine .inl ⟨_,rfl,⟨_,HE10.out⟩,?_⟩
    have HX9:Hid (IsP (sumF (valF t p) (k+1)) x9 y9):=HA9.out.zero h0
    clear h0 HA9
    simp only[Act.put,Zl]
    have HE9:=Zpe (HE10.out.only [1,2] _ rfl Zd)
    have r0:=HE9.out.cell 0 0 rfl rfl
    have r1:=HE9.out.cell 0 1 rfl rfl
    have f0:=HE9.out.free 0 0 rfl
    have f1:=HE9.out.free 0 1 rfl
    refine ZB rfl rfl fun K hK=>?_
    go_simp
    have HE11:=Zpe (HE9.out.fill (.string x9) (.string y9))
    refine hK _ _ (.inl rfl) ?_
    clear hK K r0 r1 f0 f1 HE9 HE10
    refine ZD ?_
    go_wp2
    go_roundw
    case rel=>exact⟨k+1,x9,y9,by go_num,Za,HX9,HAF.out.step HX9.out.fits,HE11⟩
    case measure=>exact Zj
   ·refine .inr ⟨_,rfl,?_⟩
    rcases HA9.out with ⟨_,h1⟩ | ⟨h1,_,_,h2⟩
    ·exact Zo4 h1 h0
    ·subst h2
     have HSE:Hid (SumE (valF t p) N Zpa Zpa 4):=.inr ⟨Zap.not h1 hlt,rfl,rfl,rfl⟩
     exact⟨rfl,Zpa,Zpa,4,.inr ⟨Zd,rfl⟩,HSE.out,HE10.out.base,HE10.out.memo.mono Za⟩
  ·obtain rfl:k=N:=Za
   have HSE:Hid (SumE (valF t p) k x y 0):=.inl ⟨HAF.out,HIA.out,rfl⟩
   have HE1:=Zpe (HE.out.only [1,0] _ rfl Zd)
   have c0:=HE1.out.cell 1 0 (v:=.string x) rfl rfl
   have c1:=HE1.out.cell 1 1 (v:=.string y) rfl rfl
   have r0:=HE1.out.cell 0 0 rfl rfl
   have r1:=HE1.out.cell 0 1 rfl rfl
   have f0:=HE1.out.free 0 0 rfl
   have f1:=HE1.out.free 0 1 rfl
   go_wp2
   have HE9:=Zpe (HE1.out.fill (.string x) (.string y))
   have q0:=HE9.out.cell 0 0 (v:=.string x) rfl rfl
   have q1:=HE9.out.cell 0 1 (v:=.string y) rfl rfl
   exact Zor (v:=Zpb x y) (by simp[results,Tryz.f60,go_sem,q0,q1]) rfl ⟨x,y,0,.inl ⟨rfl,rfl⟩,HSE.out,HE9.out.base,HE9.out.memo.mono Za⟩
end Go.Proofs.YtmpaflidennnoaaGreatDoor
