/- The parts RangeL, BelR, BelT, BelU, BelY, BelW, BelX. -/
import Derived.Test.YtjmckebecpjjfaaGreatDoorH16
import Derived.Sort.MapsRangeIn
import Derived.Sort.Grow
import Derived.Shelf.SlSortCmp.WholeK
import Derived.Ground.SlsfProg
set_option maxRecDepth 100000
set_option maxHeartbeats 4000000
set_option linter.unusedVariables false
set_option linter.unusedSimpArgs false
namespace Go.Proofs.YtjmckebecpjjfaaGreatDoor
open Go.RowKit
def Zmr {α:Type} (P:Program) (gf:Nat) (lb:Array Value) (enc:α->Array Value) (may:List α->α->Prop) (fin:List α->Prop) (S T:Nat->Prop) (w0:World):Prop:=
 ∀ (n l:Nat) (J:List α->World->Prop) (W:World),Keeps S w0 W->W.heap.size=w0.heap.size+2->
  (∀ ps W1 W2,J ps W1->Keeps T W1 W2->J ps W2)->
  (∀ ps x W1,may ps x->J ps W1->YieldAt Fence.wide (n-1) P l (enc x) W1 fun e W'=>e=.returned (.bool true)/\J (ps++[x]) W'/\Keeps S W1 W')->
  J [] W->CallsIn Fence.wide n P gf (#[.func (.yield l) #[] #[]]++lb) W fun e W'=>(∃ v,e=.returned v)/\∃ ps,fin ps/\J ps W'
def Ziq {α:Type} (S:Nat->Prop) (D:Nat) (I:List α->World->Prop) (ps:List α) (W:World):Exit->Act->World->Prop
 | .normal,_,W'=>Keeps (fun b=>S b\/b=D\/b=D+1) W W'/\I ps W'
 | _,_,_=>False
theorem ZpT {α:Type} {P:Program} {n:Nat} {g:Operand} {ps:Array Tmp} {assign body:Code} {Q:Exit->Act->World->Prop} {a:Act} {w:World}
  {gf:Nat} {lb:Array Value} {enc:α->Array Value} {may:List α->α->Prop} {fin:List α->Prop} {S T:Nat->Prop} (D:Nat) (hD:w.heap.size=D)
  (hg:a.eval g=.func (.func gf) #[] lb) (eg:∀ args w,(callFunc gf args).run P w=.ok (.enter gf args) w) (hps:∀ x,(enc x).size=ps.size)
  (hit:Zmr P gf lb enc may fin S T w) (hSD:¬ S (D+1)) (hTD:T D/\T (D+1))
  (I:List α->World->Prop)
  (hI:∀ qs W1 W2,I qs W1->Keeps (fun b=>T b/\b≠D/\b≠D+1) W1 W2->I qs W2)
  (h0:I [] w) (a₁:α->Act)
  (hassign:∀ (l:Nat) (x:α) (W:World) (K:Act->World->Prop),K (a₁ x) W->
   assign.wpIn (Fence.wide.inRound l) (n-1-1) P (Exit.then K (fun _ _ _=>False)) { tmps:=(ps.zip (enc x)).foldl (fun t (p,v)=>t.setIfInBounds p v) a.tmps,defers:=[] } W)
  (hbody:∀ (l:Nat) (qs:List α) (x:α) (W:World),may qs x->I qs W->D+2<=W.heap.size->body.wpIn (Fence.wide.inRound l) (n-1-1) P (Ziq S D I (qs++[x]) W) (a₁ x) W)
  (hdone:∀ (qs:List α) (W:World),fin qs->I qs W->W.heap[D]?=some (.deferred (some []))->Q .normal { a with defers:={ target:=.collected D,args:=#[] }::a.defers } W) :
  (Code.rangeFunc g ps assign body).wpIn Fence.wide n P Q a w:=by
 subst hD
 refine wpIn_rangeFunc fun fn _=>?_
 let rec0:LoopState->Option Code->Loop:=fun st pe=>{ state:=st,pending:=pe,fn,tmps:=a.tmps,params:=ps,assign,body,defers:=w.heap.size }
 obtain⟨mk,hmk⟩:∃ mk:LoopState->Option Code->Loop,mk=rec0:=⟨_,rfl⟩
 obtain⟨W1,hW1⟩:=ZqJ ((w.alloc (.deferred (some []))).alloc (.loop (mk .ready none)))
 have hrec1:W1.heap[w.heap.size+1]?=some (.loop (mk .ready none)):=by
  have:=ZpY (w.alloc (.deferred (some []))) (.loop (mk .ready none))
  rwa [Zqk,hW1] at this
 have hdef1:W1.heap[w.heap.size]?=some (.deferred (some [])):=by
  rw[<- hW1];exact(Zqb _ _ _ Zc).trans (ZpY w _)
 have keepAny:∀ S':Nat->Prop,Keeps S' w W1:=fun S'=>by rw[<- hW1];exact((Keeps.refl S' w).alloc _).alloc _
 refine⟨w.heap.size+1,[{ target:=.collected w.heap.size,args:=#[] }],W1,{ target:=.fn (.func gf) lb,args:=#[.func (.yield (w.heap.size+1)) #[] #[]] },W1,gf,
  #[.func (.yield (w.heap.size+1)) #[] #[]]++lb,W1,?_,?_,fun _ _=>trivial,?_,(fun h=>by cases h),?_⟩
 ·rw[<- hW1,hmk];exact run_enterLoop_outer _ _ _ _ _
 ·simp only[resolve,hg]
  simp[go_sem]
 ·simp[invoke,go_sem,eg]
 ·-- the record between two rounds
  have turn:∀ {qs:List α} {W2:World} (l:Loop),I qs W2->W2.heap[w.heap.size]?=some (.deferred (some []))->w.heap.size+1<W2.heap.size->
    I qs (W2.putObj (w.heap.size+1) (.loop l))/\(W2.putObj (w.heap.size+1) (.loop l)).heap[w.heap.size]?=some (.deferred (some []))/\(W2.putObj (w.heap.size+1) (.loop l)).heap[w.heap.size+1]?=some (.loop l):=
   fun l hi hd hlt=>⟨hI _ _ _ hi ((Keeps.refl _ _).putObj (fun h=>h.2.2 rfl) _),(Zqe Za).trans hd,World.putObj_heap_same hlt⟩
  have ltOf:∀ {W2:World} {o:Obj},W2.heap[w.heap.size+1]?=some o->w.heap.size+1<W2.heap.size:=fun h=>(ZqC h)
  have stay:∀ {A B:World} {l:Loop},(A.heap[w.heap.size+1]?=some (.loop l)/\A.heap[w.heap.size]?=some (.deferred (some [])))->Keeps T A B->
    B.heap[w.heap.size+1]?=some (.loop l)/\B.heap[w.heap.size]?=some (.deferred (some [])):=fun {A B l} h hk=>
   ⟨(hk.block _ (ltOf h.1) hTD.2).trans h.1,(hk.block _ (by have:=ltOf h.1;omega) hTD.1).trans h.2⟩
  refine(hit (n-1) (w.heap.size+1)
   (fun qs W=>I qs W/\(W.heap[w.heap.size+1]?=some (.loop (mk .ready none))/\W.heap[w.heap.size]?=some (.deferred (some []))))
   W1 (keepAny S) (by rw[<- hW1];simp)
   (fun qs A B h hk=>⟨hI _ _ _ h.1 (hk.mono fun b _ hb=>hb.1),stay h.2 hk⟩)
   ?_ ⟨hI _ _ _ h0 (keepAny _),hrec1,hdef1⟩).mono ?_
  ·rintro qs x W hk ⟨hi,hl,hd⟩
   have hlt:=ltOf hl
   have hy:=run_yield (P:=P) (args:=enc x) hl (by rw[hmk];exact hps x)
   rw[hmk] at hy
   refine⟨fn,_,assign,body,hy,roundIn_of_wpIn (F:=Fence.wide) trivial (hassign _ x W _ ⟨_,run_beginRound hl (by rw[hmk]),?_⟩)⟩
   obtain⟨hi2,hd2,hl2⟩:=turn { mk .ready none with state:=.busy } hi hd hlt
   have keepSame:Keeps S W (W.putObj (w.heap.size+1) (.loop { mk .ready none with state:=.busy })):=(Keeps.refl _ _).putObj hSD _
   refine wpIn_mono (hbody _ qs x _ hk hi2 (by simp;omega)) ?_
   generalize hV:W.putObj (w.heap.size+1) (.loop { mk .ready none with state:=.busy })=V at hi2 hd2 hl2 keepSame
   rintro e a3 W3 hp
   cases e with
   | normal=>
    obtain⟨hk3,hi3⟩:=hp
    have hl3:W3.heap[w.heap.size+1]?=some (.loop { mk .ready none with state:=.busy }):=(hk3.block _ (ltOf hl2) (.inr (.inr rfl))).trans hl2
    have hd3:=(hk3.block _ (by have:=ltOf hl2;omega) (.inr (.inl rfl))).trans hd2
    have hr:=run_endRound (P:=P) none hl3
    obtain⟨x1,x2,x3⟩:=turn (mk .ready none) hi3 hd3 (ltOf hl3)
    rw[hmk] at hr x1 x2 x3 ⊢
    exact⟨_,_,hr,rfl,⟨x1,x3,x2⟩,(keepSame.trans (hk3.mono fun b _ hb=>.inl hb)).putObj hSD _⟩
   | ret=>exact hp.elim
   | exit id=>exact hp.elim
   | goto t=>exact hp.elim
   | panic ch=>exact hp.elim
   | outgrown=>exact hp.elim
  ·rintro e W2 ⟨⟨v,rfl⟩,qs,hf,hi,hl,hd⟩
   have he:=run_endLoop (P:=P) hl (by rw[hmk];simp[rec0])
   obtain⟨x1,x2,_⟩:=turn { mk .ready none with state:=.exhausted } hi hd (ltOf hl)
   refine⟨none,_,by rw[hmk] at he ⊢;exact he,hdone qs _ hf x1 x2⟩
theorem Zmv {α:Type} {P:Program} {n:Nat} {g:Operand} {ps:Array Tmp} {assign body:Code} {Q:Exit->Act->World->Prop} {a:Act} {w:World}
  {gf:Nat} {lb:Array Value} {enc:α->Array Value} {may:List α->α->Prop} {fin:List α->Prop} {S T:Nat->Prop} (D:Nat) (hD:w.heap.size=D)
  (hg:a.eval g=.func (.func gf) #[] lb) (eg:∀ args w,(callFunc gf args).run P w=.ok (.enter gf args) w) (hps:∀ x,(enc x).size=ps.size)
  (hit:Zmr P gf lb enc may fin S T w) (hSD:¬ S (D+1)) (hTD:T D/\T (D+1))
  (I:List α->World->Prop)
  (hI:∀ qs W1 W2,I qs W1->Keeps (fun b=>T b/\b≠D/\b≠D+1) W1 W2->I qs W2)
  (h0:I [] w) (ob:α->Obj) (a₁:α->Nat->Act)
  (hassign:∀ (l:Nat) (x:α) (W:World) (K:Act->World->Prop),K (a₁ x W.heap.size) (W.alloc (ob x))->
   assign.wpIn (Fence.wide.inRound l) (n-1-1) P (Exit.then K (fun _ _ _=>False)) { tmps:=(ps.zip (enc x)).foldl (fun t (p,v)=>t.setIfInBounds p v) a.tmps,defers:=[] } W)
  (hbody:∀ (l:Nat) (qs:List α) (x:α) (q:Nat) (W:World),may qs x->I qs W->D+2<=q->W.heap[q]?=some (ob x)->body.wpIn (Fence.wide.inRound l) (n-1-1) P (Ziq S D I (qs++[x]) W) (a₁ x q) W)
  (hdone:∀ (qs:List α) (W:World),fin qs->I qs W->W.heap[D]?=some (.deferred (some []))->Q .normal { a with defers:={ target:=.collected D,args:=#[] }::a.defers } W) :
  (Code.rangeFunc g ps assign body).wpIn Fence.wide n P Q a w:=by
 subst hD
 refine wpIn_rangeFunc fun fn _=>?_
 let rec0:LoopState->Option Code->Loop:=fun st pe=>{ state:=st,pending:=pe,fn,tmps:=a.tmps,params:=ps,assign,body,defers:=w.heap.size }
 obtain⟨mk,hmk⟩:∃ mk:LoopState->Option Code->Loop,mk=rec0:=⟨_,rfl⟩
 obtain⟨W1,hW1⟩:=ZqJ ((w.alloc (.deferred (some []))).alloc (.loop (mk .ready none)))
 have hrec1:W1.heap[w.heap.size+1]?=some (.loop (mk .ready none)):=by
  have:=ZpY (w.alloc (.deferred (some []))) (.loop (mk .ready none))
  rwa [Zqk,hW1] at this
 have hdef1:W1.heap[w.heap.size]?=some (.deferred (some [])):=by
  rw[<- hW1];exact(Zqb _ _ _ Zc).trans (ZpY w _)
 have keepAny:∀ S':Nat->Prop,Keeps S' w W1:=fun S'=>by rw[<- hW1];exact((Keeps.refl S' w).alloc _).alloc _
 refine⟨w.heap.size+1,[{ target:=.collected w.heap.size,args:=#[] }],W1,{ target:=.fn (.func gf) lb,args:=#[.func (.yield (w.heap.size+1)) #[] #[]] },W1,gf,
  #[.func (.yield (w.heap.size+1)) #[] #[]]++lb,W1,?_,?_,fun _ _=>trivial,?_,(fun h=>by cases h),?_⟩
 ·rw[<- hW1,hmk];exact run_enterLoop_outer _ _ _ _ _
 ·simp only[resolve,hg]
  simp[go_sem]
 ·simp[invoke,go_sem,eg]
 ·-- the record between two rounds
  have turn:∀ {qs:List α} {W2:World} (l:Loop),I qs W2->W2.heap[w.heap.size]?=some (.deferred (some []))->w.heap.size+1<W2.heap.size->
    I qs (W2.putObj (w.heap.size+1) (.loop l))/\(W2.putObj (w.heap.size+1) (.loop l)).heap[w.heap.size]?=some (.deferred (some []))/\(W2.putObj (w.heap.size+1) (.loop l)).heap[w.heap.size+1]?=some (.loop l):=
   fun l hi hd hlt=>⟨hI _ _ _ hi ((Keeps.refl _ _).putObj (fun h=>h.2.2 rfl) _),(Zqe Za).trans hd,World.putObj_heap_same hlt⟩
  have ltOf:∀ {W2:World} {o:Obj},W2.heap[w.heap.size+1]?=some o->w.heap.size+1<W2.heap.size:=fun h=>(ZqC h)
  have stay:∀ {A B:World} {l:Loop},(A.heap[w.heap.size+1]?=some (.loop l)/\A.heap[w.heap.size]?=some (.deferred (some [])))->Keeps T A B->
    B.heap[w.heap.size+1]?=some (.loop l)/\B.heap[w.heap.size]?=some (.deferred (some [])):=fun {A B l} h hk=>
   ⟨(hk.block _ (ltOf h.1) hTD.2).trans h.1,(hk.block _ (by have:=ltOf h.1;omega) hTD.1).trans h.2⟩
  refine(hit (n-1) (w.heap.size+1)
   (fun qs W=>I qs W/\(W.heap[w.heap.size+1]?=some (.loop (mk .ready none))/\W.heap[w.heap.size]?=some (.deferred (some []))))
   W1 (keepAny S) (by rw[<- hW1];simp)
   (fun qs A B h hk=>⟨hI _ _ _ h.1 (hk.mono fun b _ hb=>hb.1),stay h.2 hk⟩)
   ?_ ⟨hI _ _ _ h0 (keepAny _),hrec1,hdef1⟩).mono ?_
  ·rintro qs x W hk ⟨hi,hl,hd⟩
   have hlt:=ltOf hl
   have hy:=run_yield (P:=P) (args:=enc x) hl (by rw[hmk];exact hps x)
   rw[hmk] at hy
   have hal:∀ S':Nat->Prop,Keeps S' W (W.alloc (ob x)):=fun S'=>(Keeps.refl S' W).alloc _
   obtain⟨hl',hd'⟩:=stay ⟨hl,hd⟩ (hal T)
   have hi':=hI _ _ _ hi (hal _)
   have hnew:(W.alloc (ob x)).heap[W.heap.size]?=some (ob x):=ZpY W _
   have hkeep:Keeps S W (W.alloc (ob x)):=hal S
   refine⟨fn,_,assign,body,hy,roundIn_of_wpIn (F:=Fence.wide) trivial (hassign _ x W _ ⟨_,run_beginRound hl' (by rw[hmk]),?_⟩)⟩
   generalize hq:W.heap.size=q at hnew hlt ⊢
   generalize hW2:W.alloc (ob x)=W2 at hl' hd' hi' hnew hkeep ⊢
   clear hi hl hd hal
   have hlt2:=ltOf hl'
   obtain⟨hi2,hd2,hl2⟩:=turn { mk .ready none with state:=.busy } hi' hd' hlt2
   have keepSame:Keeps S W (W2.putObj (w.heap.size+1) (.loop { mk .ready none with state:=.busy })):=hkeep.putObj hSD _
   refine wpIn_mono (hbody _ qs x q _ hk hi2 Za ((Zqe Za).trans hnew)) ?_
   generalize hV:W2.putObj (w.heap.size+1) (.loop { mk .ready none with state:=.busy })=V at hi2 hd2 hl2 keepSame
   rintro e a3 W3 hp
   cases e with
   | normal=>
    obtain⟨hk3,hi3⟩:=hp
    have hl3:W3.heap[w.heap.size+1]?=some (.loop { mk .ready none with state:=.busy }):=(hk3.block _ (ltOf hl2) (.inr (.inr rfl))).trans hl2
    have hd3:=(hk3.block _ (by have:=ltOf hl2;omega) (.inr (.inl rfl))).trans hd2
    have hr:=run_endRound (P:=P) none hl3
    obtain⟨x1,x2,x3⟩:=turn (mk .ready none) hi3 hd3 (ltOf hl3)
    rw[hmk] at hr x1 x2 x3 ⊢
    exact⟨_,_,hr,rfl,⟨x1,x3,x2⟩,(keepSame.trans (hk3.mono fun b _ hb=>.inl hb)).putObj hSD _⟩
   | ret=>exact hp.elim
   | exit id=>exact hp.elim
   | goto t=>exact hp.elim
   | panic ch=>exact hp.elim
   | outgrown=>exact hp.elim
  ·rintro e W2 ⟨⟨v,rfl⟩,qs,hf,hi,hl,hd⟩
   have he:=run_endLoop (P:=P) hl (by rw[hmk];simp[rec0])
   obtain⟨x1,x2,_⟩:=turn { mk .ready none with state:=.exhausted } hi hd (ltOf hl)
   refine⟨none,_,by rw[hmk] at he ⊢;exact he,hdone qs _ hf x1 x2⟩
end Go.Proofs.YtjmckebecpjjfaaGreatDoor
namespace Go.Proofs.YtjmckebecpjjfaaGreatDoor
open Go.RowKit Go.Shelf Go.ChangeMaps Go.MapKept Go.ChangeShapes Go.WideShapes
open Go.WideElems (Fit rd rg rg_of rd_key rd_val)
structure Coll (f:Fl) (left:Lit->Bool) (ps:List Pl):Prop where
 nodup:ps.Nodup
 sub:∀ p ∈ ps,∃ z ∈ f,z.1=p
 gone:∀ p ∈ ps,∀ kl,keyOf Tryz.prog 118 (kPl p)=some kl->left kl=false
 rest:∀ z ∈ f,z.1 ∈ ps\/∃ kl,keyOf Tryz.prog 118 (kPl z.1)=some kl/\left kl=true
 come:∀ kl,left kl=true->∃ z ∈ f,keyOf Tryz.prog 118 (kPl z.1)=some kl
theorem Coll.done {f:Fl} (hs:ZI f) {left:Lit->Bool} {ps:List Pl} (h:Coll f left ps) (h0:∀ kl,left kl=false):ps.Perm (f.map Prod.fst):=by
 have hn:(f.map Prod.fst).Nodup:=by
  rw[List.Nodup,List.pairwise_map]
  exact List.Pairwise.imp (fun {a b} hab=>ZdD hab) hs
 refine(List.perm_ext_iff_of_nodup h.nodup hn).2 fun p=>⟨fun hp=>?_,fun hp=>?_⟩
 ·obtain⟨z,hz,rfl⟩:=h.sub p hp
  exact List.mem_map.2 ⟨z,hz,rfl⟩
 ·obtain⟨z,hz,rfl⟩:=List.mem_map.1 hp
  rcases h.rest z hz with h1 | ⟨kl,_,h1⟩
  ·exact h1
  ·rw[h0] at h1
   cases h1
theorem Coll.step {f:Fl} {left:Lit->Bool} {ps:List Pl} (h:Coll f left ps) {key:Value} {kl:Lit} (hkey:keyOf Tryz.prog 118 key=some kl) (hl:left kl=true) :
  ∃ p,key=kPl p/\(∃ z ∈ f,z.1=p)/\p ∉ ps/\Coll f (fun x=>left x && !x.sameKey kl) (ps++[p]):=by
 obtain⟨z,hz,hzk⟩:=h.come kl hl
 have hk:key=kPl z.1:=Zax.inj hkey hzk
 have hnot:z.1 ∉ ps:=fun hin=>by
  have:=h.gone z.1 hin kl hzk
  rw[hl] at this
  cases this
 refine⟨z.1,hk,⟨z,hz,rfl⟩,hnot,⟨?_,?_,?_,?_,?_⟩⟩
 ·rw[List.nodup_append]
  exact⟨h.nodup,Zc,fun a ha b hb e=>by
   rw[List.mem_singleton] at hb
   subst hb
   exact hnot (e ▸ ha)⟩
 ·intro p hp
  rcases List.mem_append.1 hp with hp | hp
  ·exact h.sub p hp
  ·rw[List.mem_singleton] at hp
   exact⟨z,hz,hp.symm⟩
 ·intro p hp kl' hk'
  rcases List.mem_append.1 hp with hp | hp
  ·rw[h.gone p hp kl' hk']
   rfl
  ·rw[List.mem_singleton] at hp
   subst hp
   have e:kl'=kl:=ZpZ (hk'.symm.trans hzk)
   subst e
   rw[WideAt.sameKey_self (Zax.key hkey)]
   simp
 ·intro y hy
  rcases h.rest y hy with h1 | ⟨kl',h1,h2⟩
  ·exact .inl (List.mem_append_left _ h1)
  ·by_cases e:kl'=kl
   ·subst e
    have:y.1=z.1:=ZdE (Zax.inj h1 hzk)
    exact .inl (List.mem_append_right _ (by rw[this];exact List.mem_singleton.2 rfl))
   ·refine .inr ⟨kl',h1,?_⟩
    rw[h2]
    cases hs:kl'.sameKey kl
    ·rfl
    ·exact Zqx (WideAt.sameKey_eq hs) e
 ·intro kl' h1
  rw[Zqt] at h1
  exact h.come kl' h1.1
theorem FMap.owns {w:World} {m:Nat} {f:Fl} (h:FMap w m f):∃ (n:Nat) (D:DataW Unit),w.ownsMap Tryz.prog 118 noR m n D/\Coll f (Maps.has D) []:=by
 obtain⟨⟨es,clock,hb,F,hs,h1,h2⟩,h3,h4⟩:=h
 refine⟨f.length,_,⟨es,clock,hb,F,hs,rfl⟩,List.nodup_nil,fun p hp=>by simp at hp,fun p hp=>by simp at hp,fun z hz=>?_,fun kl hkl=>?_⟩
 ·obtain⟨e,he,hek⟩:=h2 z hz
  have h5:=Zc9 F he
  rw[hek] at h5
  refine .inr ⟨_,h5,List.any_eq_true.2 ⟨rg Tryz.prog 118 noR e,mem_sorted.2 (List.mem_map.2 ⟨e,he,rfl⟩),WideAt.sameKey_self (Zax.key h5)⟩⟩
 ·obtain⟨p,hp,hpk⟩:=List.any_eq_true.1 hkl
  obtain⟨x,hx,rfl⟩:=List.mem_map.1 (mem_sorted.1 hp)
  obtain⟨z,hz,hk,_⟩:=h1 x hx
  have h5:=Zc9 F hx
  rw[hk] at h5
  exact⟨z,hz,by rw[<- WideAt.sameKey_eq hpk];exact h5⟩
theorem Zgk {H:Type} {w w':World} {P:Program} {k:TypeId} {R:Value->Option (DataW H×List MemPlace)} {b r n:Nat} {D:DataW H} {left:Lit->Bool} {cnt:Nat} (h:w.ranges P k R b r n D left cnt) (h1:w'.heap[b]?=w.heap[b]?) (h2:w'.heap[r]?=w.heap[r]?):w'.ranges P k R b r n D left cnt:=by
 obtain⟨es,clock,since,seen,c0,hb,F,hs,hD,hr,rest⟩:=h
 exact⟨es,clock,since,seen,c0,h1.trans hb,F,hs,hD,h2.trans hr,rest⟩
abbrev mpO (m:Nat):Obj:=.cells #[.map (some m)] 158
theorem Zoi (m:Nat) (w:World):Calls Tryz.prog 156 #[.map (some m)] w (fun e w'=>e=.returned (.func (.func 194) #[] #[.pointer (some ⟨w.heap.size,0,none⟩)])/\w'=w.alloc (mpO m)):=by
 have hmf:∀ (fn:Fn) (first cap:Array Value) (w:World),(Instr.makeFunc fn first cap).run Tryz.prog w=.ok (.func fn first cap) w:=fun _ _ _ _=>rfl
 go_enter Tryz.func156,Tryz.ntmps156
 go_wp2
 exact ZpW (by simp[results,Tryz.f156,go_sem]) rfl ⟨rfl,rfl⟩
theorem Znw {f:Fl} {B m:Nat} {w0:World} (hf:FMap w0 m f) (hB:w0.cell? ⟨B,0,none⟩=some (.map (some m))) :
  Zmr Tryz.prog 194 #[.pointer (some ⟨B,0,none⟩)] (fun p:Pl=>#[kPl p]) (fun ps p=>(∃ z ∈ f,z.1=p)/\p ∉ ps) (fun ps=>ps.Perm (f.map Prod.fst)) (fun b=>b=m\/b=B\/b=w0.heap.size+2) (fun b=>b≠w0.heap.size+2) w0:=by
 intro q l J W hK hsz hJ hY h0
 have hmW:FMap W m f:=hf.stay (hK.block m hf.lt (.inl rfl))
 have a0:W.cell? ⟨B,0,none⟩=some (.map (some m)):=hK.cellAt hB (.inr (.inl rfl))
 obtain⟨n,D,hown,hcol⟩:=hmW.owns
 have hBl:=Zqf _ _ a0
 have HS:=ZqH hf.2.1
 have HC0:=ZqH hcol
 have HY:=ZqH hY
 have HJ:=ZqH hJ
 have HSZ:=ZqH hsz
 have HB:=ZqH a0
 have HML:=ZqH hf.lt
 clear hf hB hK hJ hY hcol hmW hsz
 refine callsIn_of_wp Tryz.func194 rfl trivial ?_ rfl
 simp only[Tryz.ntmps194,Nat.reduceAdd,Nat.reduceSub,ZqG]
 gi_wp2_with (first | (gi_at_range;refine wpListIn_range_own _ rfl _ 158 rfl 118 39 Zax Tryz.underlying158 noR m n D rfl hown ?_;intro w1 hrg1 hg1 hs1) | gi_in)
 try go_frame
 have HK1:Hid (Keeps (fun b=>b=m\/b=B\/b=w0.heap.size+2) W w1):=(Keeps.refl _ W).grown hg1 (fun r e=>by cases e)
 have HJ1:Hid (J [] w1):=HJ.out _ _ _ h0 ((Keeps.refl _ W).grown hg1 (fun r e=>by cases e))
 have HR1:=ZqH hrg1
 rw[HSZ.out] at HR1
 rw[HSZ.out]
 clear a0 hrg1 hg1 hs1 hown h0
 gi_loopw [3] (fun _ wr=>∃ (left:Lit->Bool) (cnt:Nat) (ps:List Pl),Hid (wr.ranges Tryz.prog 118 noR m (w0.heap.size+2) n D left cnt)/\Hid (Coll f left ps)/\Hid (J ps wr)) (fun _ wr=>wr.rangeLeft m (w0.heap.size+2))
 case atStart=>exact⟨_,_,[],HR1,HC0,HJ1⟩
 case round=>
  obtain⟨left,cnt,ps,HRG,HC,HJs⟩:=hrel
  gi_wp2_with (first | (gi_at_next;refine wpListIn_next_ranges _ rfl _ rfl 118 Zax noR id id (fun key kl _=>⟨key,rfl⟩) (fun v _ _=>⟨v,rfl⟩) m (w0.heap.size+2) n _ _ _ rfl HRG.out ?_ ?_) | gi_in)
  ·intro hc0 hl0
   have HD:=ZqH (HC.out.done HS.out hl0)
   clear hl0 hc0
   gi_wp2
   go_end0
   exact⟨⟨_,rfl⟩,ps,HD.out,HJs.out⟩
  ·intro x c kl yd yp w2 cnt2 hkey hlk hv hat hrg2 hlt hg2 hs2 hen
   obtain⟨p,hxp,hin,hnot,hcol⟩:=HC.out.step hkey hlk
   have hxp':x=kPl p:=hxp
   subst hxp'
   have HC2:=ZqH hcol
   have HJ2:Hid (J ps w2):=HJ.out _ _ _ HJs.out ((Keeps.refl _ wr).grown hg2 (fun r e=>by cases e;simp))
   have HRG2:=ZqH hrg2
   have HLT:=ZqH hlt
   obtain⟨⟨a,b,d⟩,hpp⟩:∃ z,p=z:=⟨_,rfl⟩
   subst hpp
   obtain⟨H,hH⟩:=ZqJ w2.heap.size
   obtain⟨V,hV⟩:=ZqJ (w2.alloc (plO (a,b,d)))
   have hal:∀ S':Nat->Prop,Keeps S' w2 V:=fun S'=>by rw[<- hV];exact(Keeps.refl _ w2).alloc _
   have hbl:Below w2.heap.size w2 V:=by rw[<- hV];exact(ZpV _ w2).alloc ZqI _
   have HJV:Hid (J ps V):=HJ.out _ _ _ HJ2.out (hal _)
   have HRV:Hid (V.ranges Tryz.prog 118 noR m (w0.heap.size+2) n D (fun z=>left z && !z.sameKey kl) cnt2):=Zgk HRG2.out (hbl.block _ HRG2.out.owns.lt) (hbl.block _ HRG2.out.lt)
   have hy:=HY.out ps (a,b,d) V ⟨hin,hnot⟩ HJV.out
   obtain⟨fn,tmps,assign,body,hy,hRR⟩:=hy
   have hn:V.heap[H]?=some (plO (a,b,d)):=by rw[<- hV,<- hH];exact ZpY w2 _
   have c0:=Zn hn 0 (v:=.int .i64 a) rfl
   have c1:=Zn hn 1 (v:=.int .i64 b) rfl
   have c2:=Zn hn 2 (v:=.int .i64 d) rfl
   clear hs2 hg2 hkey hlk hv hat hrg2 hlt hxp hin hnot hcol hal hbl hn
   gi_wp2
   refine⟨(fun h=>by cases h),hRR.mono ?_⟩
   rintro e W3 ⟨rfl,hJ3,hk3⟩
   have HR3:Hid (W3.ranges Tryz.prog 118 noR m (w0.heap.size+2) n D (fun z=>left z && !z.sameKey kl) cnt2):=Zgk HRV.out (hk3.block _ HRV.out.owns.lt (.inl rfl)) (hk3.block _ HRV.out.lt (.inr (.inr rfl)))
   have HJ3:=ZqH hJ3
   clear hJ3 hk3 hy hRR c0 c1 c2 hen
   gi_wp2
   go_roundw
   case rel=>exact⟨_,cnt2,ps++[(a,b,d)],HR3,HC2,HJ3⟩
   case measure=>rw[HR3.out.left_eq,HRG.out.left_eq];exact HLT.out
end Go.Proofs.YtjmckebecpjjfaaGreatDoor
namespace Go.Proofs.YtjmckebecpjjfaaGreatDoor
open Go.RowKit Go.Shelf
attribute [local go_sem] Oper.semAt_some
def Za3:List Pl->List Value
 | []=>[]
 | p::ps=>.int .i64 p.1::.int .i64 p.2.1::.int .i64 p.2.2::Za3 ps
theorem Zh3 (ps qs:List Pl):Za3 (ps++qs)=Za3 ps++Za3 qs:=by
 induction ps with
 | nil=>rfl
 | cons p ps ih=>simp[Za3,ih]
theorem ZlX:(Tryz.prog.info? 118).map (fun i=>(i.zero,i.size,i.bytes))=some (some (.agg #[.int .i64 0,.int .i64 0,.int .i64 0]),3,24):=Zb
theorem ZiG:∀ (ps K:List Pl),ps.Nodup->(∀ p ∈ ps,p ∈ K)->ps.length<=K.length
 | [],_,_,_=>Zp8 _
 | p::ps,K,hn,hs=>by
  obtain⟨h1,h2⟩:=List.nodup_cons.1 hn
  have h3:=hs p Zc
  have h4:=ZiG ps (K.erase p) h2 fun x hx=>(List.mem_erase_of_ne (fun e=>h1 (by rw[<- e];exact hx))).2 (hs x (List.mem_cons_of_mem _ hx))
  rw[List.length_erase_of_mem h3] at h4
  have h5:=List.length_pos_of_mem h3
  simp only[Zqv]
  omega
def Zg7 (f:Fl) (w:World) (e:Ending) (w':World):Prop:=
 ∃ v ps,e=.returned v/\ps.Perm (f.map Prod.fst)/\w'.ownsRow w.heap.size 118 3 v ps.length (Za3 ps)/\Below w.heap.size w w'
theorem ZiZ {f:Fl} {B m:Nat} {w:World} (hf:FMap w m f) (hB:w.cell? ⟨B,0,none⟩=some (.map (some m))) :
  Calls Tryz.prog 213 #[.slice none 0 0,.func (.func 194) #[] #[.pointer (some ⟨B,0,none⟩)]] w (Zg7 f w):=by
 obtain⟨i0,hi,hz0,hz1,hz2⟩:=info_parts ZlX
 have hBl:=Zqf _ _ hB
 have hml:=hf.lt
 have hfl:=hf.length
 have hfn:∀ k,Fence.wide.fn k:=fun _=>trivial
 refine(Zqp (n:=9)).1 ?_
 refine callsIn_of_wp_marks Tryz.func213 rfl trivial ?_ rfl
 simp only[Tryz.ntmps213,Nat.reduceAdd,Nat.reduceSub,ZqG]
 gi_wp2
 obtain⟨w3,hw3⟩:=ZqJ (w.alloc (.cells #[.slice none 0 0] 182))
 rw[hw3]
 have hD:w3.heap.size=w.heap.size+1:=by rw[<- hw3];simp
 have HK3:Hid (∀ S:Nat->Prop,Keeps S w w3):=fun S=>by rw[<- hw3];exact(Keeps.refl S w).alloc _
 have HV3:Hid (w3.cell? ⟨w.heap.size,0,none⟩=some (.slice none 0 0)/\w3.frozen? ⟨w.heap.size,0,none⟩=false):=by rw[<- hw3];exact⟨ZP _ _ _ _ rfl,Zcq _ _ _ _ rfl⟩
 have HF3:Hid (FMap w3 m f):=hf.stay ((HK3.out (fun _=>True)).block m hml trivial)
 have HB3:Hid (w3.cell? ⟨B,0,none⟩=some (.map (some m))):=(HK3.out (fun _=>True)).cellAt hB trivial
 refine Zmv (w.heap.size+1) hD (gf:=194) (lb:=#[.pointer (some ⟨B,0,none⟩)])
  (enc:=fun p:Pl=>#[kPl p]) (may:=fun ps p=>(∃ z ∈ f,z.1=p)/\p ∉ ps) (fin:=fun ps=>ps.Perm (f.map Prod.fst)) (S:=fun b=>b=m\/b=B\/b=w3.heap.size+2) (T:=fun b=>b≠w3.heap.size+2)
  rfl (enters_of Tryz.func194 Zb rfl) (fun _=>rfl) (Znw HF3.out HB3.out) Za ⟨Za,Za⟩
  (fun ps W=>(∃ v,W.cell? ⟨w.heap.size,0,none⟩=some v/\W.frozen? ⟨w.heap.size,0,none⟩=false/\W.ownsRow (w.heap.size+4) 118 3 v ps.length (Za3 ps))/\(∀ p ∈ ps,∃ z ∈ f,z.1=p)/\ps.Nodup/\Keeps (fun b=>b<w.heap.size) w W)
  (fun ps W1 W2 h hk=>?ci)
  ⟨⟨_,HV3.out.1,HV3.out.2,⟨by simp[Za3],.inl ⟨rfl,rfl⟩⟩⟩,Zc,List.nodup_nil,HK3.out _⟩ plO (fun x q=>{ tmps:=#[.slice none 0 0,.func (.func 194) #[] #[.pointer (some ⟨B,0,none⟩)],.pointer (some ⟨w.heap.size,0,none⟩),undef,.slice none 0 0,.pointer (some ⟨q,0,none⟩),.func (.func 194) #[] #[.pointer (some ⟨B,0,none⟩)],kPl x,undef,undef,undef,undef,undef],defers:=[] }) ?assign ?body ?done
 case ci=>
  obtain⟨⟨v,h1,h2,h3⟩,h4,h5,h6⟩:=h
  refine⟨⟨v,hk.cellAt h1 (by simp;omega),?_,Zx h3 hk (fun g hg=>by simp;omega)⟩,h4,h5,h6.trans (hk.mono fun b hb1 hb2=>by simp;omega)⟩
  rw[hk.frozen (Zqf _ _ h1) (by simp;omega)];exact h2
 case assign=>
  intro l x W K hK
  gi_wp2
  exact hK
 case body=>
  rintro l ps p q W ⟨hin,hnot⟩ ⟨⟨v,hc,hf0,hown⟩,hsub,hnd,HK⟩ hW hq
  have HO:=ZqH hown
  have HKh:=ZqH HK
  have HND:Hid ((ps++[p]).Nodup):=by
   show List.Nodup _
   rw[List.nodup_append]
   exact⟨hnd,Zc,fun a ha b hb e=>by
    rw[List.mem_singleton] at hb
    subst hb
    exact hnot (e ▸ ha)⟩
  have HSB:Hid (∀ x ∈ ps++[p],∃ z ∈ f,z.1=x):=fun x hx=>by
   rcases List.mem_append.1 hx with hx | hx
   ·exact hsub x hx
   ·rw[List.mem_singleton] at hx
    subst hx
    exact hin
  have hkl:ps.length+1<=528392:=by
   have h1:=ZiG (ps++[p]) (f.map Prod.fst) HND.out fun x hx=>by
    obtain⟨z,hz,rfl⟩:=HSB.out x hx
    exact List.mem_map.2 ⟨z,hz,rfl⟩
   simp at h1
   omega
  clear HK hin hnot hsub hnd
  obtain⟨⟨a,b,d⟩,hpp⟩:∃ z,p=z:=⟨_,rfl⟩
  subst hpp
  have hm1:ps.length+1<=maxLen:=by unfold maxLen;omega
  have hm2:(ps.length+1)*24<=140737488355328:=Za
  have HVB:=ZqH (ZbK hown)
  have c0:=Zn hq 0 (v:=.int .i64 a) rfl
  have c1:=Zn hq 1 (v:=.int .i64 b) rfl
  have c2:=Zn hq 2 (v:=.int .i64 d) rfl
  have hql:=(ZqC hq)
  have hm3:w.heap.size+4<=(W.alloc (plO (a,b,d))).heap.size:=by simp;omega
  have hownA:=hown.alloc (plO (a,b,d))
  have hnews:∀ (j:Nat) (z:Value),([.int .i64 a,.int .i64 b,.int .i64 d]:List Value)[j]?=some z->(W.alloc (plO (a,b,d))).cell? ((⟨W.heap.size,0,none⟩:Addr).add j)=some z:=World.news_of_block (ZpY W _)
  clear hq
  obtain⟨pv,nv,cv,rfl⟩:∃ p n c,v=Value.slice p n c:=by
   rcases hown.2 with ⟨h,_⟩ | ⟨g,cap,cur,h,_⟩
   ·exact⟨_,_,_,h⟩
   ·exact⟨_,_,_,h⟩
  gi_wp2_with (gi_at_builtin;go_loud (refine wpListIn_append_own _ rfl (.tmp 8) (.tmp 10) 182 rfl (w.heap.size+4) 118 i0 (.agg #[.int .i64 0,.int .i64 0,.int .i64 0]) 3 24 Tryz.underlying182 hi hz0 hz1 hz2 rfl Zd _ ps.length (Za3 ps) rfl hownA ⟨W.heap.size,0,none⟩ 1 1 [.int .i64 a,.int .i64 b,.int .i64 d] rfl rfl hnews (by simp[Value.oneCell']) hm1 hm2 hm3 ?_);intro v' w4 hown4 hgrow4 hnil4;obtain⟨g4,cap4,rfl,hgb4,hgl4⟩:=hown4.form Za;have hk4:Keeps (fun b=>b<w.heap.size+4) W w4:=((Keeps.refl _ W).alloc _).grown hgrow4 (fun r hr=>by have:=HVB.out r hr;omega);go_loud (have hc4:=hk4.cellAt hc (by simp<;>omega);have hf4:=(hk4.frozen (Zqf _ _ hc) (by simp<;>omega)).trans hf0;clear hgrow4 hnil4 hc hf0))
  have hkk:Keeps (fun b=>b<w.heap.size) W (w4.setCell ⟨w.heap.size,0,none⟩ (.slice (some ⟨g4,0,none⟩) (ps.length+1) cap4)):=
   (hk4.mono (fun b _ hb=>Za)).setCell Zc _
  refine⟨(hk4.mono (fun b _ hb=>?_)).setCell (by simp<;>omega) _,⟨_,World.cell?_setCell_same' _ _ _ (by rw[hc4];rfl),by rw[World.frozen?_setCell];exact hf4,?_⟩,HSB.out,HND.out,HKh.out.trans (hkk.mono fun b _ hb=>hb)⟩
  ·rcases hb with (rfl | rfl | rfl) | rfl | rfl<;>omega
  ·rw[Zqc,Zh3]
   exact Zx (S:=fun b=>w.heap.size+4<=b) hown4 ((Keeps.refl _ _).setCell Zc _) (fun g hg=>hg)
 case done=>
  rintro ps W hfin ⟨⟨v,hc,hf0,hown⟩,_,_,HK⟩ hdef
  have HFI:=ZqH hfin
  have HO:=ZqH hown
  have HKh:=ZqH HK
  have Hdef:=ZqH hdef
  have hlt:=(ZqC hdef)
  clear hown HK hdef hfin
  gi_wp2
  refine⟨Zc,.inl ⟨_,_,rfl,run_takeDeferred Hdef.out,?_⟩⟩
  refine⟨v,by simp[results,Tryz.f213,go_sem],v,ps,rfl,HFI.out,?_,(HKh.out.putObj Zc _).toBelow ZqI⟩
  have h1:=Zx (S:=fun b=>w.heap.size+4<=b) HO.out ((Keeps.refl _ W).putObj (r:=w.heap.size+1) Zc (.deferred none)) (fun g hg=>hg)
  obtain⟨h2,h3⟩:=h1
  refine⟨h2,?_⟩
  rcases h3 with h3 | ⟨g,cap,cur,hv,hb,hr⟩
  ·exact .inl h3
  ·exact .inr ⟨g,cap,cur,hv,Za,hr⟩
theorem ZkJ {f:Fl} {B m:Nat} {w:World} (hf:FMap w m f) (hB:w.cell? ⟨B,0,none⟩=some (.map (some m))) :
  Calls Tryz.prog 192 #[.func (.func 194) #[] #[.pointer (some ⟨B,0,none⟩)]] w (Zg7 f w):=by
 have HA:=ZqH (ZiZ hf hB)
 clear hf hB
 go_enter Tryz.func192,Tryz.ntmps192
 go_wp2_with fail
 refine HA.out.mono ?_
 rintro e w2 ⟨v,ps,rfl,h1,h2,h3⟩
 have HH:=ZqH (Zqy h1 (Zqy h2 h3))
 clear HA h1 h2 h3
 go_wp2
 go_ret
 exact⟨v,ps,rfl,HH.out.1,HH.out.2.1,HH.out.2.2⟩
end Go.Proofs.YtjmckebecpjjfaaGreatDoor
namespace Go.Proofs.YtjmckebecpjjfaaGreatDoor
open Go.RowKit Go.Shelf
def orI (x y z:Int):Int:=if x=0 then if y=0 then z else y else x
def ordI (p q:Pl):Int:=orI (p.1-q.1) (p.2.2-q.2.2) (p.2.1-q.2.1)
def orV (x y z:Int):Nat->Int
 | 0=>x
 | 1=>y
 | _=>z
theorem Zh8 {p q:Pl} : decide (ordI p q<0)=plLt p q:=by
 rw[Bool.eq_iff_iff,ZcF]
 unfold ordI orI
 rw[Zqu]
 split
 ·split<;>omega
 ·omega
theorem Zpr {x y z:Int} {g c:Nat} {w:World} (h0:w.cell? ⟨g,0,none⟩=some (.int .i64 x)) (h1:w.cell? ⟨g,1,none⟩=some (.int .i64 y)) (h2:w.cell? ⟨g,2,none⟩=some (.int .i64 z)) :
  Calls Tryz.prog 157 #[.slice (some ⟨g,0,none⟩) 3 c] w fun e w'=>e=.returned (.int .i64 (orI x y z))/\w'=w:=by
 have hc:∀ k:Nat,k<3->w.cell? ⟨g,k,none⟩=some (.int .i64 (orV x y z k)):=by
  intro k hk
  match k,hk with
  | 0,_=>exact h0
  | 1,_=>exact h1
  | 2,_=>exact h2
 have HC:=ZqH hc
 clear hc h0 h1 h2
 go_enter Tryz.func157,Tryz.ntmps157
 go_wp2_with fail
 go_loopw [8] (fun iv wr=>∃ k:Nat,iv=.int .i64 k/\k<=3/\Hid (∀ i:Nat,i<k->orV x y z i=0)/\wr=w) (fun iv _=>3-(intOf iv).toNat)
 case atStart=>exact⟨0,rfl,Za,fun i hi=>Za,rfl⟩
 case round=>
  obtain⟨k,rfl,hk,HZ,hw⟩:=hrel
  subst hw
  by_cases hlt:k<3
  ·have c1:=HC.out k hlt
   obtain⟨v,hv⟩:=ZqJ (orV x y z k)
   rw[hv] at c1
   have i0':(0:Int)<=(k:Int):=Za
   have i1':(k:Int)<3:=Za
   have HV:=ZqH hv
   clear hv
   by_cases hz:v=0
   ·subst hz
    have hzz:((0:Int) !=0)=false:=Zc
    go_wp2
    go_roundw
    case rel=>exact⟨k+1,by go_num,Za,(fun i hi=>by rcases(by omega:i<k\/i=k) with h | h;exact HZ.out i h;subst h;exact HV.out),by first | trivial | rfl⟩
    case measure=>exact Zj
   ·have hzz:(v !=0)=true:=by simpa using hz
    go_wp2
    have hr:v=orI x y z:=by
     have h1:=HV.out
     have h2:=HZ.out
     unfold orI
     rcases(by omega:k=0\/k=1\/k=2) with rfl | rfl | rfl
     ·simp only[orV] at h1
      rw[if_neg (by rw[h1];exact hz),h1]
     ·have h3:=h2 0 Za
      simp only[orV] at h1 h3
      rw[if_pos h3,if_neg (by rw[h1];exact hz),h1]
     ·have h3:=h2 0 Za
      have h4:=h2 1 Za
      simp only[orV] at h1 h3 h4
      rw[if_pos h3,if_pos h4,h1]
    rw[<- hr]
    exact ZpW (by simp[results,Tryz.f157,go_sem]) rfl ⟨rfl,rfl⟩
  ·obtain rfl:k=3:=Za
   go_wp2
   have hr:(0:Int)=orI x y z:=by
    have h2:=HZ.out
    have h3:=h2 0 Za
    have h4:=h2 1 Za
    have h5:=h2 2 Za
    simp only[orV] at h3 h4 h5
    unfold orI
    rw[if_pos h3,if_pos h4,h5]
   rw[<- hr]
   exact ZpW (by simp[results,Tryz.f157,go_sem]) rfl ⟨rfl,rfl⟩
theorem Zit {p q:Pl} (hp:PlB p) (hq:PlB q) {w:World} :
  Calls Tryz.prog 116 #[kPl p,kPl q] w fun e w'=>e=.returned (.int .i64 (ordI p q))/\∃ m os,w'=Go.Sort.grow (w.drewN m) os:=by
 obtain⟨a,b,d⟩:=p
 obtain⟨a',b',d'⟩:=q
 have e1:wrap64 (a-a')=a-a':=by unfold PlB at hp hq;simp only at hp hq;unfold wrap64;omega
 have e2:wrap64 (b-b')=b-b':=by unfold PlB at hp hq;simp only at hp hq;unfold wrap64;omega
 have e3:wrap64 (d-d')=d-d':=by unfold PlB at hp hq;simp only at hp hq;unfold wrap64;omega
 clear hp hq
 go_enter Tryz.func116,Tryz.ntmps116
 go_wp2_with fail
 obtain⟨W,hW⟩:=ZqJ ((w.alloc (plO (a,b,d))).alloc (plO (a',b',d')))
 have hs:W.heap.size=w.heap.size+1+1:=by rw[<- hW];simp
 rw[hW,<- hs]
 refine(Zpr (ZP _ _ _ _ rfl) (ZP _ _ _ _ rfl) (ZP _ _ _ _ rfl)).mono ?_
 rintro e w' ⟨rfl,rfl⟩
 have HW:=ZqH hW
 clear hs hW
 go_wp2
 go_ret
 refine⟨rfl,0,(#[plO (a,b,d)]++#[plO (a',b',d')])++#[.cells #[.int .i64 (a-a'),.int .i64 (d-d'),.int .i64 (b-b')] 3],?_⟩
 rw[<- HW.out,Go.Sort.alloc_eq_grow,Go.Sort.alloc_eq_grow,Go.Sort.alloc_eq_grow,Go.Sort.grow_grow,Go.Sort.grow_grow]
 rfl
set_option maxRecDepth 100000
def Zg9:Go.Shelf.Ren:=⟨fun | 6=>193 | 15=>215 | 14=>214 | 28=>241 | 29=>228 | 20=>233 | 21=>234 | 22=>235 | 23=>236 | 24=>237 | 25=>238 | 26=>239 | 27=>240 | 46=>258 | 47=>259 | 48=>260 | 49=>261 | 50=>262 | 57=>267 | n=>n,fun | 22=>182 | 24=>118 | 25=>184 | 3=>3 | 39=>266 | 0=>0 | 53=>293 | 55=>146 | 4=>4 | 46=>315 | 45=>314 | 50=>319 | 5=>5 | 9=>9 | 66=>338 | 70=>342 | 76=>351 | 77=>352 | n=>n,fun | n=>n⟩
theorem ZnH:Go.Proofs.SlLaysF0.n6 Tryz.prog Zg9:={
 mixed:=Zb
 f6:=⟨Tryz.f193.name,Zd,Tryz.func193.trans (congrArg some Zb)⟩
 f14:=⟨Tryz.f214.name,Zd,Tryz.func214.trans (congrArg some Zb)⟩
 f15:=Tryz.func215.trans (congrArg some Zb)
 f20:=⟨Tryz.f233.name,Zd,Tryz.func233.trans (congrArg some Zb)⟩
 f21:=⟨Tryz.f234.name,Zd,Tryz.func234.trans (congrArg some Zb)⟩
 f22:=⟨Tryz.f235.name,Zd,Tryz.func235.trans (congrArg some Zb)⟩
 f23:=⟨Tryz.f236.name,Zd,Tryz.func236.trans (congrArg some Zb)⟩
 f24:=⟨Tryz.f237.name,Zd,Tryz.func237.trans (congrArg some Zb)⟩
 f25:=⟨Tryz.f238.name,Zd,Tryz.func238.trans (congrArg some Zb)⟩
 f26:=⟨Tryz.f239.name,Zd,Tryz.func239.trans (congrArg some Zb)⟩
 f27:=⟨Tryz.f240.name,Zd,Tryz.func240.trans (congrArg some Zb)⟩
 f28:=Tryz.func241.trans (congrArg some Zb)
 f29:=Tryz.func228.trans (congrArg some Zb)
 f46:=⟨Tryz.f258.name,Zd,Tryz.func258.trans (congrArg some Zb)⟩
 f47:=Tryz.func259.trans (congrArg some Zb)
 f48:=Tryz.func260.trans (congrArg some Zb)
 f49:=⟨Tryz.f261.name,Zd,Tryz.func261.trans (congrArg some Zb)⟩
 f50:=⟨Tryz.f262.name,Zd,Tryz.func262.trans (congrArg some Zb)⟩
 f57:=⟨Tryz.f267.name,Zd,Tryz.func267.trans (congrArg some Zb)⟩
 t0:=Tryz.underlying0
 a0:=Tryz.isAgg0
 z0:=Tryz.sizeOf0
 v0:=Tryz.zeroValue0
 t3:=Tryz.underlying3
 a3:=Tryz.isAgg3
 z3:=Tryz.sizeOf3
 v3:=Tryz.zeroValue3
 t4:=Tryz.underlying4
 a4:=Tryz.isAgg4
 z4:=Tryz.sizeOf4
 v4:=Tryz.zeroValue4
 t5:=Tryz.underlying5
 a5:=Tryz.isAgg5
 z5:=Tryz.sizeOf5
 v5:=Tryz.zeroValue5
 t9:=Tryz.underlying9
 a9:=Tryz.isAgg9
 z9:=Tryz.sizeOf9
 v9:=Tryz.zeroValue9
 t22:=Tryz.underlying182
 a22:=Tryz.isAgg182
 z22:=Tryz.sizeOf182
 v22:=Tryz.zeroValue182
 t25:=Tryz.underlying184
 a25:=Tryz.isAgg184
 z25:=Tryz.sizeOf184
 v25:=Tryz.zeroValue184
 t39:=Tryz.underlying266
 a39:=Tryz.isAgg266
 z39:=Tryz.sizeOf266
 v39:=Tryz.zeroValue266
 t45:=Tryz.underlying314
 a45:=Tryz.isAgg314
 z45:=Tryz.sizeOf314
 v45:=Tryz.zeroValue314
 t46:=Tryz.underlying315
 a46:=Tryz.isAgg315
 z46:=Tryz.sizeOf315
 v46:=Tryz.zeroValue315
 t50:=Tryz.underlying319
 a50:=Tryz.isAgg319
 z50:=Tryz.sizeOf319
 v50:=Tryz.zeroValue319
 t53:=Tryz.underlying293
 a53:=Tryz.isAgg293
 z53:=Tryz.sizeOf293
 v53:=Tryz.zeroValue293
 t55:=Tryz.underlying146
 a55:=Tryz.isAgg146
 z55:=Tryz.sizeOf146
 v55:=Tryz.zeroValue146
 t66:=Tryz.underlying338
 a66:=Tryz.isAgg338
 z66:=Tryz.sizeOf338
 v66:=Tryz.zeroValue338
 t70:=Tryz.underlying342
 a70:=Tryz.isAgg342
 z70:=Tryz.sizeOf342
 v70:=Tryz.zeroValue342
 t76:=Tryz.underlying351
 a76:=Tryz.isAgg351
 z76:=Tryz.sizeOf351
 v76:=Tryz.zeroValue351
 t77:=Tryz.underlying352
 a77:=Tryz.isAgg352
 z77:=Tryz.sizeOf352
 v77:=Tryz.zeroValue352 }
end Go.Proofs.YtjmckebecpjjfaaGreatDoor
namespace Go.Proofs.YtjmckebecpjjfaaGreatDoor
open Go.RowKit Go.Shelf
open Go.Sort (HoldsK size_flatK get_flatK holdsK_grow holdsK_putRowK holdsK_ahead putRowK)
abbrev PB:={p:Pl // PlB p}
instance:Inhabited PB:=⟨⟨(0,0,0),⟨⟨Zd,Zd⟩,⟨Zd,Zd⟩,Zd,Zd⟩⟩⟩
def ZfO (x:PB):List Value:=[.int .i64 x.1.1,.int .i64 x.1.2.1,.int .i64 x.1.2.2]
def Zi8 (x y:PB):Int:=ordI x.1 y.1
theorem ZeM (x y:PB):ltOf Zi8 x y=plLt x.1 y.1:=Zh8
theorem ZeC {a b:Pl} : plLt a b=false<->¬ (a.1<b.1\/(a.1=b.1/\(a.2.2<b.2.2\/(a.2.2=b.2.2/\a.2.1<b.2.1)))):=by
 rw[<- ZcF,Bool.not_eq_true]
theorem ZmO:Go.Sort.SWO (ltOf Zi8) where
 irrefl x:=by rw[ZeM,ZeC];omega
 trans x y z h1 h2:=by rw[ZeM] at *;exact Zbc h1 h2
 ntrans x y z h1 h2:=by rw[ZeM,ZeC] at *;omega
theorem ZmR {a b:Pl} (h1:plLt b a=false) (h2:plLt a b=false):a=b:=by
 rw[ZeC] at h1 h2
 exact Prod.ext Za (Prod.ext Za Za)
def Zes (w:World) (g:Nat) (ps:List Pl):Prop:=
 ∀ k (h:k<ps.length),w.cell? ⟨g,k*3,none⟩=some (.int .i64 ps[k].1)/\w.cell? ⟨g,k*3+1,none⟩=some (.int .i64 ps[k].2.1)/\w.cell? ⟨g,k*3+2,none⟩=some (.int .i64 ps[k].2.2)
theorem Zes.stay {S:Nat->Prop} {w w':World} {g:Nat} {ps:List Pl} (h:Zes w g ps) (k:Keeps S w w') (hs:S g):Zes w' g ps:=fun i hi=>
 have h1:=h i hi
 ⟨k.cellAt h1.1 hs,k.cellAt h1.2.1 hs,k.cellAt h1.2.2 hs⟩
theorem Zgq:∀ (ps:List Pl) (k:Nat) (h:k<ps.length),(Za3 ps)[k*3]?=some (.int .i64 ps[k].1)/\(Za3 ps)[k*3+1]?=some (.int .i64 ps[k].2.1)/\(Za3 ps)[k*3+2]?=some (.int .i64 ps[k].2.2)
 | [],_,h=>Zqx h Zc
 | p::ps,0,_=>⟨rfl,rfl,rfl⟩
 | p::ps,k+1,h=>by
  have h1:=Zgq ps k (by simpa using h)
  have e:(k+1)*3=k*3+3:=Za
  rw[e]
  exact h1
theorem ZoU (j n:Nat) (h:j<n*3):∃ i c,i<n/\c<3/\j=i*3+c:=⟨j/3,j % 3,Za,Za,Za⟩
theorem Zn0 {w:World} {b g n cap:Nat} {d:Array PB} {ps:List Pl} (h:w.ownsRow b 118 3 (.slice (some ⟨g,0,none⟩) n cap) n (Za3 ps)) (hd:d.toList.map Subtype.val=ps) (hn:ps.length=n):HoldsK ZfO 3 w g 0 d:=by
 have hs:d.size=n:=by rw[<- hn,<- hd];simp
 intro j hj
 rw[size_flatK] at hj
 refine⟨?_,World.ownsRow.frozenAt h _⟩
 rw[Nat.zero_add,World.ownsRow.cellAt h j Za,get_flatK _ _ _ _ hj]
 obtain⟨i,c,hi,hc,rfl⟩:=ZoU j n Za
 have e1:(i*3+c)/3=i:=Za
 have e2:(i*3+c) % 3=c:=Za
 rw[e1,e2]
 obtain⟨c0,c1,c2⟩:=Zgq ps i Za
 have he:ps[i]'Za=(d[i]!).1:=by
  subst hd
  simp[getElem!_pos d i Za]
 rw[he] at c0 c1 c2
 match c,hc with
 | 0,_=>exact c0
 | 1,_=>exact c1
 | 2,_=>exact c2
theorem ZmW {w:World} {g:Nat} {d:Array PB} {ps:List Pl} (h:HoldsK ZfO 3 w g 0 d) (hd:d.toList.map Subtype.val=ps):Zes w g ps:=by
 intro k hk
 have hk':k<d.size:=by subst hd;simpa using hk
 have he:ps[k]=(d[k]!).1:=by
  subst hd
  simp[getElem!_pos d k hk']
 have c0:=(Go.Sort.HoldsK.cell h hk' (by omega:0<3)).1
 have c1:=(Go.Sort.HoldsK.cell h hk' (by omega:1<3)).1
 have c2:=(Go.Sort.HoldsK.cell h hk' (by omega:2<3)).1
 rw[Nat.zero_add] at c0 c1 c2
 rw[he]
 exact⟨c0,c1,c2⟩
theorem Zjv:∀ {ps:List Pl},(∀ p ∈ ps,PlB p)->∃ l:List PB,l.map Subtype.val=ps
 | [],_=>⟨[],rfl⟩
 | p::ps,h=>by
  obtain⟨l,hl⟩:=Zjv (ps:=ps) fun q hq=>h q (List.mem_cons_of_mem _ hq)
  exact⟨⟨p,h p Zc⟩::l,by simp[hl]⟩
theorem ZmS {f:Fl} {d d':Array PB} (hs:ZI f) (hp:(d.toList.map Subtype.val).Perm (f.map Prod.fst)) (h1:Go.Sort.PermIn 0 d.size d d') (h2:Go.Sort.SortedIn (ltOf Zi8) 0 d.size d'):d'.toList.map Subtype.val=f.map Prod.fst:=by
 obtain⟨hz,_,hpm⟩:=h1
 have e1:d'.extract 0 d.size=d':=by rw[<- hz];simp
 have e2:d.extract 0 d.size=d:=Zc
 rw[e1,e2] at hpm
 refine List.Perm.eq_of_pairwise (le:=fun a b=>plLt b a=false) (fun a b _ _ h3 h4=>ZmR h3 h4) ?_ ?_ ((hpm.map _).trans hp)
 ·rw[List.pairwise_map,List.pairwise_iff_getElem]
  intro i j hi hj hij
  have h3:=h2 i j (Zp8 _) hij (by simpa[<- hz] using hj)
  have hi':i<d'.size:=by simpa using hi
  have hj':j<d'.size:=by simpa using hj
  rw[ZeM,getElem!_pos d' i hi',getElem!_pos d' j hj'] at h3
  simpa using h3
 ·rw[List.pairwise_map]
  refine List.Pairwise.imp ?_ hs
  intro a b h3
  cases h4:plLt b.1 a.1 with
  | false=>rfl
  | true=>exact Zqx (Zbc h3 h4) (ZbB _)
def ZiE (f:Fl) (w:World) (e:Ending) (w':World):Prop:=
 ∃ v c,e=.returned (.slice v f.length c)/\(∀ (_:0<f.length),∃ g,v=some ⟨g,0,none⟩/\w.heap.size<=g/\Zes w' g (f.map Prod.fst))/\Below w.heap.size w w'
theorem Zm2:∀ w,(isAgg 118).run Tryz.prog w=.ok true w:=Tryz.isAgg118
theorem ZlI:∀ w,(Go.sizeOf 118).run Tryz.prog w=.ok 3 w:=Tryz.sizeOf118
theorem Zjd {f:Fl} (hs:ZI f) (hb:∀ z ∈ f,PlB z.1) {ps:List Pl} (hp:ps.Perm (f.map Prod.fst)) (hl:ps.length<1000000) (h0:0<ps.length) {b g cap:Nat} {w:World} (h:w.ownsRow b 118 3 (.slice (some ⟨g,0,none⟩) ps.length cap) ps.length (Za3 ps)) :
  Calls Tryz.prog 193 #[.slice (some ⟨g,0,none⟩) ps.length cap,.func (.func 116) #[] #[]] w fun e w'=>e=.returned (.tuple #[])/\Zes w' g (f.map Prod.fst)/\Keeps (fun b=>b≠g) w w':=by
 obtain⟨l,hl1⟩:=Zjv (ps:=ps) fun p hp'=>by
  obtain⟨z,hz,rfl⟩:=List.mem_map.1 (hp.mem_iff.1 hp')
  exact hb z hz
 have hH:HoldsK ZfO 3 w g 0 l.toArray:=Zn0 h (by simpa using hl1) rfl
 have hsz:l.toArray.size=ps.length:=by rw[<- hl1];simp
 have hgb:g<w.heap.size:=Zqf w _ (Go.Sort.HoldsK.cell hH (i:=0) (c:=0) Za Za).1
 have hcon:=AnyQ.slices_SortFunc ZnH 3 Zm2 ZlI ZfO (fun _=>rfl) (fun x v hv=>by simp[ZfO] at hv;rcases hv with rfl | rfl | rfl<;>rfl) Zi8 ZmO 116 #[] g 0 cap l.toArray w
  (enters_of Tryz.func116 Zb rfl) (fun m os dk _ x y=>Zit x.2 y.2) hH hgb Za
 change Calls Tryz.prog 193 _ _ _ at hcon
 rw[hsz] at hcon
 refine hcon.mono ?_
 rintro e w' ⟨rfl,d',n,os,h1,h2,rfl⟩
 have he:d'.toList.map Subtype.val=f.map Prod.fst:=ZmS hs (by rw[show l.toArray.toList=l from rfl,hl1];exact hp) (by rw[hsz];exact h1) (by rw[hsz];exact h2)
 refine⟨rfl,?_,?_⟩
 ·refine ZmW (d:=d') ?_ he
  exact Go.Sort.holds_grow id _ os g 0 _ (by simpa[putRowK] using hgb) (Go.Sort.holds_putRow id (Go.Sort.ahead w n) g 0 (Go.Sort.flatK ZfO 3 l.toArray) _ hH (by rw[size_flatK,size_flatK,hsz,h1.1,hsz]))
 ·refine⟨rfl,rfl,rfl,by simp[sortWorldK,putRowK],fun k hk hne=>?_⟩
  unfold sortWorldK
  rw[Go.Sort.heap_grow_old _ _ (by simpa[putRowK] using hk)]
  unfold putRowK Go.Sort.putRow Go.Sort.mapBlock
  simp[Array.getElem?_modify,Ne.symm hne]
end Go.Proofs.YtjmckebecpjjfaaGreatDoor
namespace Go.Proofs.YtjmckebecpjjfaaGreatDoor
open Go.RowKit Go.Shelf
attribute [local go_sem ↓] Go.wp_at_zero Go.wp_at_succ
theorem Zlv {p:Option Addr} {k:Nat} {c:Value} {w:World} :
  Calls Tryz.prog 233 #[.slice p 0 k,.int .i64 0,.int .i64 0,c] w fun e w'=>e=.returned (.tuple #[])/\w'=w:=by
 go_enter Tryz.func233,Tryz.ntmps233
 go_wp2
 go_loopw [8] (fun va wr=>va=.int .i64 1/\wr=w) (fun _ _=>0)
 case atStart=>exact⟨rfl,rfl⟩
 case round=>
  obtain⟨rfl,rfl⟩:=hrel
  go_wp2
  go_end0
  exact⟨rfl,rfl⟩
theorem Zlw {p:Option Addr} {k:Nat} {c:Value} {w:World} :
  Calls Tryz.prog 214 #[.slice p 0 k,.int .i64 0,.int .i64 0,.int .i64 0,c] w fun e w'=>e=.returned (.tuple #[])/\w'=w:=by
 go_enter Tryz.func214,Tryz.ntmps214
 go_wp2
 go_loopw [1,2,3,10,11] (fun va vb vc vd ve wr=>va=.int .i64 0/\vb=.int .i64 0/\vc=.int .i64 0/\vd=.bool true/\ve=.bool true/\wr=w) (fun _ _ _ _ _ _=>0)
 case atStart=>exact⟨rfl,rfl,rfl,rfl,rfl,rfl⟩
 case round=>
  obtain⟨rfl,rfl,rfl,rfl,rfl,rfl⟩:=hrel
  go_wp2_with fail
  refine Zlv.mono ?_
  rintro e w2 ⟨rfl,rfl⟩
  go_wp2
  exact ZpW (v:=.tuple #[]) (by simp[results,Tryz.f214,go_sem]) rfl ⟨rfl,rfl⟩
theorem Zkl {p:Option Addr} {k:Nat} {c:Value} {w:World} :
  Calls Tryz.prog 193 #[.slice p 0 k,c] w fun e w'=>e=.returned (.tuple #[])/\w'=w:=by
 have hl:=Any.bits_Len (SlLaysF0.n15.bits (P:=Tryz.prog) (ρ:=Zg9) { ZnH with }) (0:Int) w Za Za
 change Calls Tryz.prog 215 _ _ _ at hl
 have HL:=ZqH hl
 clear hl
 go_enter Tryz.func193,Tryz.ntmps193
 go_wp2_with fail
 refine HL.out.mono ?_
 rintro e w2 ⟨rfl,rfl⟩
 have e0:((Lib.bitLen (Int.toNat 0):Nat):Int)=0:=Zd
 rw[e0]
 go_wp2_with fail
 refine Zlw.mono ?_
 rintro e w2 ⟨rfl,rfl⟩
 go_wp2
 go_end0
 exact⟨rfl,rfl⟩
theorem ZnS {ps:List Pl} {f:Fl} (h:ps.Perm (f.map Prod.fst)):ps.length=f.length:=by rw[h.length_eq];simp
theorem ZhW {f:Fl} {B m:Nat} {w:World} (hf:FMap w m f) (hB:w.cell? ⟨B,0,none⟩=some (.map (some m))) :
  Calls Tryz.prog 155 #[.func (.func 194) #[] #[.pointer (some ⟨B,0,none⟩)],.func (.func 116) #[] #[]] w (ZiE f w):=by
 have HC:=ZqH (ZkJ hf hB)
 have HFS:=ZqH (Zqy hf.2.1 (Zqy hf.2.2 hf.length))
 clear hf hB
 go_enter Tryz.func155,Tryz.ntmps155
 go_wp2_with fail
 refine HC.out.mono ?_
 rintro e w2 ⟨v,ps,rfl,hp,hown,hbel⟩
 have hpl:=ZnS hp
 by_cases h0:f.length=0
 ·obtain⟨p,k,rfl⟩:∃ p k,v=.slice p 0 k:=by
   rcases hown.2 with ⟨rfl,hn⟩ | ⟨g,cap,cur,rfl,hg,hrow⟩
   ·exact⟨_,_,rfl⟩
   ·exact⟨_,_,by rw[hpl,h0]⟩
  have HH:=ZqH (Zqy h0 hbel)
  clear HC hp hown hbel hpl h0
  go_wp2_with fail
  refine Zkl.mono ?_
  rintro e w3 ⟨rfl,rfl⟩
  go_wp2
  go_ret
  obtain⟨h0,hbel⟩:=HH.out
  exact⟨p,k,by rw[h0];rfl,fun h=>Za,hbel⟩
 ·obtain⟨g,cap,cur,rfl,hg,hrow⟩:∃ g cap cur,v=.slice (some ⟨g,0,none⟩) ps.length cap/\w.heap.size<=g/\w2.heap[g]?=some (.cells cur 118 (0,0)):=by
   rcases hown.2 with ⟨rfl,hn⟩ | ⟨g,cap,cur,rfl,hg,hrow,_⟩
   ·exact Zqx hn Za
   ·exact⟨_,_,_,rfl,hg,hrow⟩
  have h1:0<ps.length:=Za
  have HS:=ZqH (Zjd HFS.out.1 HFS.out.2.1 hp (by have:=HFS.out.2.2;omega) h1 hown)
  have HH:=ZqH (Zqy hpl (Zqy hg hbel))
  clear HC hp hown hbel hpl hg hrow h0 h1
  go_wp2_with fail
  refine HS.out.mono ?_
  rintro e w3 ⟨rfl,hP,hK⟩
  have HP:=ZqH (Zqy hP hK)
  clear HS hP hK
  go_wp2
  go_ret
  obtain⟨hpl,hg,hbel⟩:=HH.out
  exact⟨some ⟨g,0,none⟩,cap,by rw[<- hpl];rfl,fun _=>⟨g,rfl,hg,HP.out.1⟩,((Below.keeps hbel).trans (HP.out.2.mono fun b _ hb=>Za)).toBelow ZqI⟩
theorem ZlP {f:Fl} {m:Nat} {w:World} (hf:FMap w m f) :
  Calls Tryz.prog 115 #[.map (some m),.func (.func 116) #[] #[]] w (ZiE f w):=by
 have HF:=ZqH hf
 clear hf
 go_enter Tryz.func115,Tryz.ntmps115
 go_wp2_with fail
 refine(Zoi m w).mono ?_
 rintro e w2 ⟨rfl,hw2⟩
 have hF2:FMap w2 m f:=by rw[hw2];exact HF.out.stay ((Keeps.refl (fun _=>True) w).alloc _ |>.block m HF.out.lt trivial)
 have hB2:w2.cell? ⟨w.heap.size,0,none⟩=some (.map (some m)):=by rw[hw2];exact ZP _ _ _ _ rfl
 have HS:=ZqH (ZhW hF2 hB2)
 have HK:Hid (Keeps (fun b=>b<w.heap.size) w w2):=by
  show Keeps _ _ _
  rw[hw2];exact(Keeps.refl _ w).alloc _
 have HZ:Hid (w.heap.size<=w2.heap.size):=HK.out.size
 clear hF2 hB2 hw2 HF
 go_wp2_with fail
 refine HS.out.mono ?_
 rintro e w3 ⟨v,c,rfl,h1,h2⟩
 have HH:=ZqH (Zqy h1 h2)
 clear HS h1 h2
 go_wp2
 go_ret
 obtain⟨h1,h2⟩:=HH.out
 refine⟨v,c,rfl,fun h0=>?_,(HK.out.trans ((Below.keeps h2).mono fun b _ hb=>?_)).toBelow ZqI⟩
 ·obtain⟨g,e1,e2,e3⟩:=h1 h0
  exact⟨g,e1,Zp4 HZ.out e2,e3⟩
 ·have:=HZ.out
  omega
end Go.Proofs.YtjmckebecpjjfaaGreatDoor
