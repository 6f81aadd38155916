/- The parts RangeP, BelBR, BelBS. -/
import Derived.Test.YtjmckebecpjjfaaGreatDoorH19
set_option maxRecDepth 100000
set_option maxHeartbeats 4000000
set_option linter.unusedVariables false
set_option linter.unusedSimpArgs false
namespace Go.Proofs.YtjmckebecpjjfaaGreatDoor
open Go.RowKit Go.Shelf
attribute [local go_sem ↓] Go.wp_at_zero Go.wp_at_succ
def VP (P:Program) (c:Code) (Q:Exit->Act->World->Prop) (a:Act) (w:World):Prop:=
 ∀ (b:Frame) (k:List Item) (cs:List Frame),b.roundOf=none->(∃ fn,P.funcs[b.fn]?=some fn)->
  ∃ e a' w',Q e a' w'/\ArrivesIn (Machine.fenced P Fence.wide) P (lone (b.atR a (.code c::k)) cs w) b k cs e a' w'
section
variable {P:Program} {Q:Exit->Act->World->Prop} {a:Act} {w:World}
theorem VP.of {n:Nat} {c:Code} (h:c.wpIn Fence.wide n P Q a w):VP P c Q a w:=fun b k cs hro _=>h b k cs hro trivial (room_wide _)
theorem VP.mono {c:Code} {Q':Exit->Act->World->Prop} (h:VP P c Q a w) (hq:∀ e a w,Q e a w->Q' e a w):VP P c Q' a w:=
 fun b k cs hro hf=>let ⟨e,a',w',q,r⟩:=h b k cs hro hf;⟨e,a',w',hq _ _ _ q,r⟩
theorem VP.seq {x y:Code} (h:VP P x (Exit.then (VP P y Q) Q) a w):VP P (Code.seq x y) Q a w:=by
 intro b k cs hro hf
 have h0:=fenced_wide P (lone (b.atR a (.code (.seq x y)::k)) cs w)
 obtain⟨e,a₁,w₁,hq,harr⟩:=h b (.code y::k) cs hro hf
 cases e with
 | normal=>
  obtain⟨e₂,a₂,w₂,hq₂,harr₂⟩:=hq b k cs hro hf
  exact⟨e₂,a₂,w₂,hq₂,.of_steps (.head h0 stepR_seq harr) harr₂⟩
 | exit id=>exact⟨_,a₁,w₁,hq,.of_steps (.one h0 stepR_seq) (.pass (x:=.code y) rfl (fun _ _=>.inl Zc) harr)⟩
 | goto l=>exact⟨_,a₁,w₁,hq,.of_steps (.one h0 stepR_seq) (.pass (x:=.code y) rfl (fun _ _=>.inl Zc) harr)⟩
 | ret=>exact⟨_,a₁,w₁,hq,.of_steps (.one h0 stepR_seq) (.pass (x:=.code y) rfl (fun _ _=>.inl Zc) harr)⟩
 | panic ch=>exact⟨_,a₁,w₁,hq,.of_steps (.one h0 stepR_seq) (.pass (x:=.code y) rfl (fun _ _=>.inl Zc) harr)⟩
 | outgrown=>exact⟨_,a₁,w₁,hq,.of_steps (.one h0 stepR_seq) (.pass (x:=.code y) rfl (fun _ _=>.inl Zc) harr)⟩
theorem VP.cond {c:Operand} {x y:Code} {t:Bool} (hc:a.eval c=.bool t) (h:VP P (if t then x else y) Q a w):VP P (Code.cond c x y) Q a w:=
 fun b k cs hro hf=>let ⟨e,a',w',q,r⟩:=h b k cs hro hf;⟨e,a',w',q,.of_steps (.one (fenced_wide P _) (stepR_cond hc)) r⟩
theorem VP.block {id:Nat} {c:Code} (h:VP P c (Exit.inBlock id Q) a w):VP P (Code.block id c) Q a w:=by
 intro b k cs hro hf
 have h0:=fenced_wide P (lone (b.atR a (.code (.block id c)::k)) cs w)
 obtain⟨e,a₁,w₁,hq,harr⟩:=h b (.inBlock id::k) cs hro hf
 cases e with
 | normal=>exact⟨.normal,a₁,w₁,hq,.head h0 stepR_block (StepsIn.trans harr (.one (fenced_wide P _) stepR_inBlock))⟩
 | exit id'=>
  by_cases hid:id'=id
  ·simp only[Exit.inBlock,hid,if_true] at hq
   exact⟨.normal,a₁,w₁,hq,.head h0 stepR_block (harr.1 k (by simp[exitTo,hid]))⟩
  ·simp only[Exit.inBlock,hid,if_false] at hq
   have this:(id==id')=false:=by simp;exact fun h=>hid h.symm
   have hx:exitTo id' (.inBlock id::k)=exitTo id' k:=by simp[exitTo,this]
   exact⟨.exit id',a₁,w₁,hq,fun k' hk=>.head h0 stepR_block (harr.1 k' (by rw[hx];exact hk)),
    fun hr' hk=>let ⟨k₁,h1,h2⟩:=harr.2 hr' (by rw[hx];exact hk);⟨k₁,h1,.head h0 stepR_block h2⟩⟩
 | goto l=>
  have hx:gotoIn l (.inBlock id::k)=gotoIn l k:=by simp[gotoIn]
  exact⟨_,a₁,w₁,hq,fun k' hk=>.head h0 stepR_block (harr.1 k' (by rw[hx];exact hk)),
   fun hr' hk=>let ⟨k₁,h1,h2⟩:=harr.2 hr' (by rw[hx];exact hk);⟨k₁,h1,.head h0 stepR_block h2⟩⟩
 | ret=>exact⟨_,a₁,w₁,hq,.of_steps (.one h0 stepR_block) harr⟩
 | panic ch=>exact⟨_,a₁,w₁,hq,.of_steps (.one h0 stepR_block) harr⟩
 | outgrown=>exact⟨_,a₁,w₁,hq,.of_steps (.one h0 stepR_block) harr⟩
theorem VP.loop {c:Code} (I:Act->World->Prop) (μ:Act->World->Nat) (h₀:I a w)
  (round:∀ a w,I a w->VP P c (Exit.then (fun a' w'=>I a' w'/\μ a' w'<μ a w) Q) a w):VP P (Code.loop c) Q a w:=by
 intro b k cs hro hf
 have key:∀ j a w,μ a w=j->I a w->
   ∃ e a' w',Q e a' w'/\ArrivesIn (Machine.fenced P Fence.wide) P (lone (b.atR a (.code c::.inLoop c::k)) cs w) b k cs e a' w':=by
  intro j
  induction j using Nat.strongRecOn with
  | _ j ih=>
   intro a w hn hI
   obtain⟨e,a₁,w₁,hq,harr⟩:=round a w hI b (.inLoop c::k) cs hro hf
   cases e with
   | normal=>
    obtain⟨hI₁,hlt⟩:=hq
    obtain⟨e₂,a₂,w₂,hq₂,harr₂⟩:=ih (μ a₁ w₁) (hn ▸ hlt) a₁ w₁ rfl hI₁
    exact⟨e₂,a₂,w₂,hq₂,.of_steps (StepsIn.trans harr (.one (fenced_wide P _) stepR_inLoop)) harr₂⟩
   | exit id=>exact⟨_,a₁,w₁,hq,.pass (x:=.inLoop c) rfl (fun _ _=>.inl Zc) harr⟩
   | goto l=>exact⟨_,a₁,w₁,hq,.pass (x:=.inLoop c) rfl (fun _ _=>.inl Zc) harr⟩
   | ret=>exact⟨_,a₁,w₁,hq,.pass (x:=.inLoop c) rfl (fun _ _=>.inl Zc) harr⟩
   | panic ch=>exact⟨_,a₁,w₁,hq,.pass (x:=.inLoop c) rfl (fun _ _=>.inl Zc) harr⟩
   | outgrown=>exact⟨_,a₁,w₁,hq,.pass (x:=.inLoop c) rfl (fun _ _=>.inl Zc) harr⟩
 obtain⟨e,a',w',hq,harr⟩:=key _ a w rfl h₀
 exact⟨e,a',w',hq,.of_steps (.one (fenced_wide P _) stepR_loop) harr⟩
theorem ZhL {n:Nat} {f:FuncId} {fn:Func} {c:Code} {args:Array Value} {w:World} {R:Ending->World->Prop} (hf:P.funcs[f]?=some fn) (hb:fn.body=some c)
  (h:VP P c (bodyPostM Fence.wide n P fn R) { tmps:=args++Array.replicate (fn.ntmps-args.size) undef,defers:=[] } w):CallsIn Fence.wide n P f args w R:=by
 refine⟨trivial,fun cs hr=>?_⟩
 let b:Frame:={ (default:Frame) with fn:=f,kind:=.normal,roundOf:=none }
 have henter:Frame.enter P f args .normal=b.atR { tmps:=args++Array.replicate (fn.ntmps-args.size) undef,defers:=[] } [.code c]:=by
  simp[Frame.enter,Frame.atR,hf,hb,b]
 obtain⟨e,a',w',hq,harr⟩:=h b [] cs rfl ⟨fn,hf⟩
 rw[<- henter] at harr
 cases e with
 | normal=>
  obtain⟨e',w'',fr',hR,hs,hfn,hl⟩:=leaves_stepsInM a'.defers .returning w' { b.atR a' [] with mode:=.returning } cs rfl rfl rfl hf rfl trivial hr hq
  exact⟨e',w'',fr',hR,ComesIn.of_steps (StepsIn.trans harr (.one (fenced_wide P _) (stepR_end rfl))) hs,hfn,hl⟩
 | ret=>
  obtain⟨todo,hs₀⟩:=harr.1 rfl
  obtain⟨e',w'',fr',hR,hs,hfn,hl⟩:=leaves_stepsInM a'.defers .returning w' { b.atR a' todo with mode:=.returning } cs rfl rfl rfl hf rfl trivial hr hq
  exact⟨e',w'',fr',hR,ComesIn.of_steps hs₀ hs,hfn,hl⟩
 | panic chain=>
  obtain⟨todo,hs₀⟩:=harr
  obtain⟨e',w'',fr',hR,hs,hfn,hl⟩:=leaves_stepsInM a'.defers (.panicking chain) w' { b.atR a' todo with mode:=.panicking chain } cs rfl rfl rfl hf rfl trivial hr hq
  exact⟨e',w'',fr',hR,ComesIn.of_steps hs₀ hs,hfn,hl⟩
 | exit id=>exact hq.elim
 | goto l=>exact hq.elim
 | outgrown=>exact⟨.outgrown,w',b,hq,harr.resolve_left (by simp[b]),rfl,trivial⟩
def ZlE (P:Program) (l:Nat) (R:Ending->World->Prop):Exit->Act->World->Prop
 | .normal,_,w=>∃ v w',(Instr.endRound l none).run P w=.ok v w'/\R (.returned v) w'
 | .panic chain,a,w=>a.defers=[]/\R (.panicked chain) w
 | _,_,_=>False
theorem Zpy {n l:Nat} {f:FuncId} {tmps:Array Value} {assign body:Code} {w:World} {R:Ending->World->Prop} (hf:∃ fn,P.funcs[f]?=some fn)
  (h:assign.wpIn (Fence.wide.inRound l) n P (Exit.then (fun a₁ w₁=>∃ w₂,(Instr.beginRound l).run P w₁=.ok () w₂/\body.wpIn (Fence.wide.inRound l) n P (ZlE P l R) a₁ w₂) (fun _ _ _=>False))
   { tmps:=tmps,defers:=[] } w):RoundIn Fence.wide n P l f tmps assign body w R:=by
 refine⟨trivial,fun c cs _=>?_⟩
 let b:Frame:={ (default:Frame) with fn:=f,kind:=.normal,roundOf:=some l }
 have hb0:Frame.round l f tmps assign body .normal=b.atR { tmps:=tmps,defers:=[] } [.code assign,.beginRound,.code body]:=by
  simp[Frame.round,Frame.atR,b]
 obtain⟨e,a₁,w₁,hq,harr⟩:=h b [.beginRound,.code body] (c::cs) rfl trivial (room_wide _)
 rw[<- hb0] at harr
 cases e with
 | normal=>
  obtain⟨w₂,hbr,hbody⟩:=hq
  have s1:StepsIn (Machine.fenced P Fence.wide) P (lone (b.atR a₁ [.beginRound,.code body]) (c::cs) w₁) (lone (b.atR a₁ [.code body]) (c::cs) w₂):=.one (fenced_wide P _) (stepR_beginRound rfl hbr)
  obtain⟨e₂,a₂,w₃,hq₂,harr₂⟩:=hbody b [] (c::cs) rfl trivial (room_wide _)
  cases e₂ with
  | normal=>
   obtain⟨v,w₄,hend,hR⟩:=hq₂
   exact⟨.returned v,w₄,hR,(StepsIn.trans harr s1).trans (StepsIn.trans harr₂ (.one (fenced_wide P _) (stepR_round_end rfl rfl hend)))⟩
  | panic chain=>
   obtain⟨hd,hR⟩:=hq₂
   obtain⟨todo,hs⟩:=harr₂
   exact⟨.panicked chain,w₃,hR,(StepsIn.trans harr s1).trans (StepsIn.trans hs (.one (fenced_wide P _) (step_leave_panicked ⟨rfl,hd,hf⟩)))⟩
  | ret=>exact hq₂.elim
  | exit id=>exact hq₂.elim
  | goto t=>exact hq₂.elim
  | outgrown=>exact hq₂.elim
 | exit id=>exact hq.elim
 | goto t=>exact hq.elim
 | ret=>exact hq.elim
 | panic chain=>exact hq.elim
 | outgrown=>exact hq.elim
def ZlR (P:Program) (l:Nat) (Q:Exit->Act->World->Prop) (a':Act):Ending->World->Prop
 | .returned _,w₃=>∃ w₄,(Instr.endLoop l).run P w₃=.ok none w₄/\Q .normal a' w₄
 | .panicked chain,w₃=>Q (.panic chain) a' w₃
 | .outgrown,_=>False
theorem VP.rangeFunc {n:Nat} {g:Operand} {ps:Array Tmp} {assign body:Code}
  (h:∀ fn,(∃ f,P.funcs[fn]?=some f)->∃ (l:Nat) (mark:List Deferred) (w₁:World) (d:Deferred) (w₁':World) (f:FuncId) (args:Array Value) (w₂:World),
   (Instr.enterLoop fn a.tmps ps assign body none).run P w=.ok (l,mark) w₁/\
   (resolve a.eval (rangeCall g l) 0).run P w₁=.ok d w₁'/\
   (invoke d.target d.args).run P w₁'=.ok (.enter f args) w₂/\
   CallsIn Fence.wide n P f args w₂ (ZlR P l Q { a with defers:=mark++a.defers })):VP P (Code.rangeFunc g ps assign body) Q a w:=by
 intro b k cs hro hf
 obtain⟨l,mark,w₁,d,w₁',f,args,w₂,he,hres,hinv,_,hcall⟩:=h b.fn hf
 rw[<- hro] at he
 have h0:=fenced_wide P (lone (b.atR a (.code (.rangeFunc g ps assign body)::k)) cs w)
 have henter:=stepR_rangeFunc (P:=P) (b:=b) (a:=a) (k:=k) (cs:=cs) (w:=w) he hres hinv
 obtain⟨e,w₃,fr,hR,hsteps,hfn,hleave⟩:=hcall (b.atR { a with defers:=mark++a.defers } (.inRangeFunc l::k)::cs) (room_wide _)
 cases e with
 | outgrown=>exact hR.elim
 | returned v=>
  obtain⟨w₄,hend,hj⟩:=hR
  refine⟨.normal,_,w₄,hj,.head h0 henter (StepsIn.trans hsteps (.head (fenced_wide P _) ?_ (.one (fenced_wide P _) (stepR_endRangeFunc (jump:=none) hend))))⟩
  rw[<- finish_atR_inRangeFunc l v];exact step_leave_returned hleave
 | panicked chain=>
  refine⟨.panic chain,_,w₃,hR,.inRangeFunc l::k,.head h0 henter (StepsIn.trans hsteps (.one (fenced_wide P _) ?_))⟩
  rw[<- Frame.raise_atR];exact step_leave_panicked hleave
end
def ZoE (P:Program) (gf:Nat) (lb:Array Value) (f:Nat->Array Value) (N:Nat) (S T:Nat->Prop) (w0:World):Prop:=
 ∀ (n l:Nat) (J:Nat->World->Prop) (Jp:List PanicEntry->World->Prop) (W:World),Keeps S w0 W->
  (∀ k W1 W2,J k W1->Keeps T W1 W2->J k W2)->
  (∀ k W1,k<N->J k W1->YieldAt Fence.wide (n-1) P l (f k) W1 fun e W'=>(e=.returned (.bool true)/\J (k+1) W'/\Keeps S W1 W')\/∃ ch,e=.panicked ch/\Jp ch W')->
  J 0 W->CallsIn Fence.wide n P gf (#[.func (.yield l) #[] #[]]++lb) W fun e W'=>((∃ v,e=.returned v)/\J N W')\/∃ ch,e=.panicked ch/\Jp ch W'
def ZmF (S:Nat->Prop) (D:Nat) (I:Nat->World->Prop) (Ip:List PanicEntry->World->Prop) (k:Nat) (W:World):Exit->Act->World->Prop
 | .normal,_,W'=>Keeps (fun b=>S b\/b=D\/b=D+1) W W'/\I (k+1) W'
 | .panic ch,a',W'=>a'.defers=[]/\Keeps (fun b=>b=D) W W'/\Ip ch W'
 | _,_,_=>False
theorem ZjK {P:Program} {n:Nat} {g:Operand} {ps:Array Tmp} {assign body:Code} {Q:Exit->Act->World->Prop} {a:Act} {w:World}
  {gf:Nat} {lb:Array Value} {f:Nat->Array Value} {N:Nat} {S T:Nat->Prop} (D:Nat) (hD:w.heap.size=D)
  (hg:a.eval g=.func (.func gf) #[] lb) (eg:∀ args w,(callFunc gf args).run P w=.ok (.enter gf args) w) (hps:∀ k,(f k).size=ps.size)
  (hit:ZoE P gf lb f N S T w) (hSD:∀ b,S b->b<D) (hTD:T D/\T (D+1))
  (I:Nat->World->Prop) (Ip:List PanicEntry->World->Prop)
  (hI:∀ k W1 W2,I k W1->Keeps (fun b=>T b/\b≠D/\b≠D+1) W1 W2->I k W2)
  (h0:I 0 w) (B:Nat->Act->World->Prop)
  (hB:∀ k a' W1 W2,B k a' W1->Keeps (fun b=>b≠D/\b≠D+1) W1 W2->B k a' W2)
  (hassign:∀ (l k:Nat) (W:World),k<N->D+2<=W.heap.size->
   assign.wpIn (Fence.wide.inRound l) (n-1) P (Exit.then (fun a' W'=>Keeps (fun _=>True) W W'/\B k a' W') (fun _ _ _=>False)) { tmps:=(ps.zip (f k)).foldl (fun t (p,v)=>t.setIfInBounds p v) a.tmps,defers:=[] } W)
  (hbody:∀ (l k:Nat) (a':Act) (W:World),k<N->I k W->B k a' W->D+2<=W.heap.size->body.wpIn (Fence.wide.inRound l) (n-1) P (ZmF S D I Ip k W) a' W)
  (hdone:∀ W:World,I N W->W.heap[D]?=some (.deferred (some []))->Q .normal { a with defers:={ target:=.collected D,args:=#[] }::a.defers } W)
  (hstop:∀ (ch:List PanicEntry) (W:World),Ip ch W->W.heap[D]?=some (.deferred (some []))->Q (.panic ch) { a with defers:={ target:=.collected D,args:=#[] }::a.defers } W) :
  VP P (Code.rangeFunc g ps assign body) Q a w:=by
 subst hD
 refine VP.rangeFunc (n:=n) fun fn hfn=>?_
 let rec0:LoopState->Option Code->Loop:=fun st pe=>{ state:=st,pending:=pe,fn,tmps:=a.tmps,params:=ps,assign,body,defers:=w.heap.size }
 obtain⟨mk,hmk⟩:∃ mk:LoopState->Option Code->Loop,mk=rec0:=⟨_,rfl⟩
 obtain⟨W1,hW1⟩:=ZqJ ((w.alloc (.deferred (some []))).alloc (.loop (mk .ready none)))
 have hrec1:W1.heap[w.heap.size+1]?=some (.loop (mk .ready none)):=by
  have:=ZpY (w.alloc (.deferred (some []))) (.loop (mk .ready none))
  rwa [Zqk,hW1] at this
 have hdef1:W1.heap[w.heap.size]?=some (.deferred (some [])):=by
  rw[<- hW1];exact(Zqb _ _ _ Zc).trans (ZpY w _)
 have keepAny:∀ S':Nat->Prop,Keeps S' w W1:=fun S'=>by rw[<- hW1];exact((Keeps.refl S' w).alloc _).alloc _
 refine⟨w.heap.size+1,[{ target:=.collected w.heap.size,args:=#[] }],W1,{ target:=.fn (.func gf) lb,args:=#[.func (.yield (w.heap.size+1)) #[] #[]] },W1,gf,
  #[.func (.yield (w.heap.size+1)) #[] #[]]++lb,W1,?_,?_,?_,?_⟩
 ·rw[<- hW1,hmk];exact run_enterLoop_outer _ _ _ _ _
 ·simp only[resolve,hg]
  simp[go_sem]
 ·simp[invoke,go_sem,eg]
 ·have turn:∀ {k:Nat} {W2:World} (l:Loop),I k W2->W2.heap[w.heap.size]?=some (.deferred (some []))->w.heap.size+1<W2.heap.size->
    I k (W2.putObj (w.heap.size+1) (.loop l))/\(W2.putObj (w.heap.size+1) (.loop l)).heap[w.heap.size]?=some (.deferred (some []))/\(W2.putObj (w.heap.size+1) (.loop l)).heap[w.heap.size+1]?=some (.loop l):=
   fun l hi hd hlt=>⟨hI _ _ _ hi ((Keeps.refl _ _).putObj (fun h=>h.2.2 rfl) _),(Zqe Za).trans hd,World.putObj_heap_same hlt⟩
  have ltOf:∀ {W2:World} {o:Obj},W2.heap[w.heap.size+1]?=some o->w.heap.size+1<W2.heap.size:=fun h=>(ZqC h)
  have stay:∀ {A B:World} {l:Loop},(A.heap[w.heap.size+1]?=some (.loop l)/\A.heap[w.heap.size]?=some (.deferred (some [])))->Keeps T A B->
    B.heap[w.heap.size+1]?=some (.loop l)/\B.heap[w.heap.size]?=some (.deferred (some [])):=fun {A B l} h hk=>
   ⟨(hk.block _ (ltOf h.1) hTD.2).trans h.1,(hk.block _ (by have:=ltOf h.1;omega) hTD.1).trans h.2⟩
  refine(hit n (w.heap.size+1)
   (fun k W=>I k W/\(W.heap[w.heap.size+1]?=some (.loop (mk .ready none))/\W.heap[w.heap.size]?=some (.deferred (some []))))
   (fun ch W=>Ip ch W/\W.heap[w.heap.size]?=some (.deferred (some [])))
   W1 (keepAny S)
   (fun k A B h hk=>⟨hI _ _ _ h.1 (hk.mono fun b _ hb=>hb.1),stay h.2 hk⟩)
   ?_ ⟨hI _ _ _ h0 (keepAny _),hrec1,hdef1⟩).mono ?_
  ·rintro k W hk ⟨hi,hl,hd⟩
   have hlt:=ltOf hl
   have hy:=run_yield (P:=P) (args:=f k) hl (by rw[hmk];exact hps k)
   rw[hmk] at hy
   refine⟨fn,_,assign,body,hy,Zpy hfn (wpIn_mono (hassign _ k W hk Za) ?_)⟩
   rintro e a9 W9 hp9
   cases e<;>try exact hp9
   obtain⟨hk9,hb9⟩:=hp9
   have hl9:W9.heap[w.heap.size+1]?=some (.loop (mk .ready none)):=(hk9.block _ hlt trivial).trans hl
   have hd9:W9.heap[w.heap.size]?=some (.deferred (some [])):=(hk9.block _ Za trivial).trans hd
   have hi9:I k W9:=hI _ _ _ hi (hk9.mono fun _ _ _=>trivial)
   have keep9:Keeps S W W9:=hk9.mono fun _ _ _=>trivial
   clear hk9 hl hd hi hlt
   have hlt:=ltOf hl9
   refine⟨_,run_beginRound hl9 (by rw[hmk]),?_⟩
   obtain⟨hi2,hd2,hl2⟩:=turn { mk .ready none with state:=.busy } hi9 hd9 hlt
   have hb2:=hB _ _ _ (W9.putObj (w.heap.size+1) (.loop { mk .ready none with state:=.busy })) hb9 ((Keeps.refl _ _).putObj (fun h=>h.2 rfl) _)
   have keepSame:Keeps S W (W9.putObj (w.heap.size+1) (.loop { mk .ready none with state:=.busy })):=keep9.putObj (fun h=>by have:=hSD _ h;omega) _
   refine wpIn_mono (hbody _ k _ _ hk hi2 hb2 (by simp;omega)) ?_
   generalize hV:W9.putObj (w.heap.size+1) (.loop { mk .ready none with state:=.busy })=V at hi2 hd2 hl2 keepSame
   rintro e a3 W3 hp
   cases e with
   | normal=>
    obtain⟨hk3,hi3⟩:=hp
    have hl3:W3.heap[w.heap.size+1]?=some (.loop { mk .ready none with state:=.busy }):=(hk3.block _ (ltOf hl2) (.inr (.inr rfl))).trans hl2
    have hd3:=(hk3.block _ (by have:=ltOf hl2;omega) (.inr (.inl rfl))).trans hd2
    have hr:=run_endRound (P:=P) none hl3
    obtain⟨x1,x2,x3⟩:=turn (mk .ready none) hi3 hd3 (ltOf hl3)
    rw[hmk] at hr x1 x2 x3 ⊢
    exact⟨_,_,hr,.inl ⟨rfl,⟨x1,x3,x2⟩,(keepSame.trans (hk3.mono fun b _ hb=>.inl hb)).putObj (fun h=>by have:=hSD _ h;omega) _⟩⟩
   | panic ch=>
    obtain⟨hdf,hk3,hi3⟩:=hp
    exact⟨hdf,.inr ⟨ch,rfl,hi3,(hk3.block _ (by have:=ltOf hl2;omega) rfl).trans hd2⟩⟩
   | ret=>exact hp.elim
   | exit id=>exact hp.elim
   | goto t=>exact hp.elim
   | outgrown=>exact hp.elim
  ·rintro e W2 (⟨⟨v,rfl⟩,hi,hl,hd⟩ | ⟨ch,rfl,hi,hd⟩)
   ·have he:=run_endLoop (P:=P) hl (by rw[hmk];simp[rec0])
    obtain⟨x1,x2,_⟩:=turn { mk .ready none with state:=.exhausted } hi hd (ltOf hl)
    refine⟨_,by rw[hmk] at he ⊢;exact he,hdone _ x1 x2⟩
   ·exact hstop ch _ hi hd
abbrev ZfY (D:Nat):Deferred:={ target:=.collected D,args:=#[] }
theorem Zca {P:Program} {n:Nat} {fn:Func} {tmps:Array Value} {R:Ending->World->Prop} {u:FrameMode} (hu:u≠.run):∀ (Ds:List Nat) (w:World),Ds.Nodup->(∀ D ∈ Ds,w.heap[D]?=some (.deferred (some [])))->
  (∀ w',Keeps (fun b=>b ∉ Ds) w w'->LeavesIn Fence.wide n P fn tmps R [] u w')->LeavesInM Fence.wide n P fn tmps R (Ds.map ZfY) u w
 | [],w,_,_,h=>h w (Keeps.refl _ _)
 | D::Ds,w,hn,hd,h=>by
  obtain⟨h1,h2⟩:=List.nodup_cons.1 hn
  refine⟨hu,.inl ⟨D,_,rfl,run_takeDeferred (hd D Zc),Zca hu Ds _ h2 (fun E hE=>?_) fun w' hk=>?_⟩⟩
  ·have hne:E≠D:=fun e=>h1 (by rw[<- e];exact hE)
   exact(Zqe (by first | exact hne | exact hne.symm)).trans (hd E (List.mem_cons_of_mem _ hE))
  ·exact h w' (((Keeps.refl (fun b=>b ∉ D::Ds) w).putObj (r:=D) Zc _).trans (hk.mono fun b _ hb hc=>hb (List.mem_cons_of_mem _ hc)))
def ZpF (B:Nat) (R:Ending->World->Prop) (rs:Array Value->Value):Exit->Act->World->Prop
 | .ret,a,w=>∃ Ds:List Nat,a.defers=Ds.map ZfY/\(Ds.Nodup/\∀ D ∈ Ds,B<=D/\w.heap[D]?=some (.deferred (some [])))/\R (.returned (rs a.tmps)) w
 | .panic ch,a,w=>∃ Ds:List Nat,a.defers=Ds.map ZfY/\(Ds.Nodup/\∀ D ∈ Ds,B<=D/\w.heap[D]?=some (.deferred (some [])))/\R (.panicked ch) w
 | _,_,_=>False
theorem Zji {P:Program} {n B:Nat} {fn:Func} {R:Ending->World->Prop} {rs:Array Value->Value} (hrs:∀ tmps w,(results fn tmps).run P w=.ok (rs tmps) w)
  (hR:∀ e w w',R e w->Keeps (fun b=>¬ (B<=b/\w.heap[b]?=some (.deferred (some [])))) w w'->R e w'):∀ (e:Exit) (a:Act) (w:World),ZpF B R rs e a w->bodyPostM Fence.wide n P fn R e a w
 | .ret,a,w,h=>by
  obtain⟨Ds,h1,⟨h2,h3⟩,h4⟩:=h
  show LeavesInM _ _ _ _ _ _ a.defers _ _
  rw[h1]
  refine Zca Zc Ds w h2 (fun D hD=>(h3 D hD).2) fun w' hk=>⟨_,hrs _ _,hR _ _ _ h4 (hk.mono fun b _ hb hc=>hb (h3 b hc))⟩
 | .panic ch,a,w,h=>by
  obtain⟨Ds,h1,⟨h2,h3⟩,h4⟩:=h
  show LeavesInM _ _ _ _ _ _ a.defers _ _
  rw[h1]
  refine Zca Zc Ds w h2 (fun D hD=>(h3 D hD).2) fun w' hk=>hR _ _ _ h4 (hk.mono fun b _ hb hc=>hb (h3 b hc))
 | .normal,_,_,h=>h.elim
 | .exit _,_,_,h=>h.elim
 | .goto _,_,_,h=>h.elim
 | .outgrown,_,_,h=>h.elim
theorem Zex {b:BelP} (h:BelOk b):GridW b.sea:=⟨h.w1.1,h.w1.2,h.h1.1,h.h1.2⟩
theorem Zpa {b:BelP} (h:ZF b=true):1<=b.scenes.length/\b.scenes.length<=8:=by
 unfold ZF at h
 simp only[Zqt,Zcp] at h
 omega
theorem ZkA {b:BelP} {lv sv v:Value} {ms:Fl} {w:World} (h:BelIn b lv sv w) (hz:LimB b) (hm:ZK w v ms) :
  Calls Tryz.prog 43 #[belV b lv sv,v] w (Zeo w (ZF b && ZN b ms)):=by
 have HE1:Hid (Env w.heap.size w [(w.heap.size,belO b lv sv)] [] (w.alloc (belO b lv sv))):=(Env.start w).push _ rfl
 obtain⟨c0,c1,c2,c3,c4⟩:=Zv (HE1.out.block 0 rfl)
 have HC:=ZqH (Zfs (h.below HE1.out.base ZqI) hz)
 have HH:=ZqH h
 have HM:=ZqH hm
 clear h hz hm
 go_enter Tryz.func43,Tryz.ntmps43
 go_wp2_with fail
 refine HC.out.mono ?_
 rintro e w2 ⟨rfl,hb⟩
 have HE2:=ZqH (HE1.out.step hb)
 clear hb HE1 HC c0 c1 c2 c3 c4
 obtain⟨c0,c1,c2,c3,c4⟩:=Zv (HE2.out.block 0 rfl)
 cases h1:ZF b
 ·simp only[Bool.false_eq_true,if_false]
  go_wp2
  exact ZpW (v:=.int .i64 2) (by simp[results,Tryz.f43,go_sem]) rfl ⟨by simp[h1],HE2.out.base⟩
 ·simp only[if_true]
  have hok:=Zb6 h1
  have HMA:=ZqH (ZhH (w:=w2) (HH.out.below HE2.out.base ZqI) (Zex hok) (Zpa h1) (HM.out.after ZaQ.stays HE2.out.base ZqI))
  have H1:=ZqH h1
  clear hok h1
  go_wp2_with fail
  refine HMA.out.mono ?_
  rintro e w3 ⟨rfl,hb⟩
  have HE3:=ZqH (HE2.out.step hb)
  clear hb HE2 HMA c0 c1 c2 c3 c4
  cases h2:ZN b ms
  ·go_wp2
   exact ZpW (v:=.int .i64 2) (by simp[results,Tryz.f43,go_sem]) rfl ⟨by simp[H1.out,h2],HE3.out.base⟩
  ·go_wp2
   exact ZpW (v:=.int .i64 0) (by simp[results,Tryz.f43,go_sem]) rfl ⟨by simp[H1.out,h2],HE3.out.base⟩
def Zod (b:BelP) (lv sv:Value) (p:Pl) (w:World) (e:Ending) (w':World):Prop:=
 Below w.heap.size w w'/\if Zaz b p then e=.returned (.tuple #[.nilFunc,.bool false]) else
  e=.returned (.tuple #[.func (.func 111) #[] #[.pointer (some ⟨w.heap.size,0,none⟩),.pointer (some ⟨w.heap.size+1,0,none⟩)],.bool true])/\w'.heap[w.heap.size]?=some (belO b lv sv)/\w'.heap[w.heap.size+1]?=some (plO p)
theorem ZjD {b:BelP} {lv sv:Value} {p:Pl} {w:World} (hl:RunL w lv b.sea.land) (hz:BelZ w) :
  Calls Tryz.prog 60 #[belV b lv sv,kPl p] w (Zod b lv sv p w):=by
 obtain⟨a,x,y⟩:=p
 have HE1:Hid (Env w.heap.size w [(w.heap.size+1,plO (a,x,y)),(w.heap.size,belO b lv sv)] [] ((w.alloc (belO b lv sv)).alloc (plO (a,x,y)))):=((Env.start w).push _ rfl).push _ Zc
 obtain⟨w1,hw1⟩:=ZqJ ((w.alloc (belO b lv sv)).alloc (plO (a,x,y)))
 rw[hw1] at HE1
 obtain⟨c0,c1,c2,c3,c4⟩:=Zv (HE1.out.block 1 rfl)
 have a0:=HE1.out.cell 0 0 (v:=.int .i64 a) rfl rfl
 have a1:=HE1.out.cell 0 1 (v:=.int .i64 x) rfl rfl
 have a2:=HE1.out.cell 0 2 (v:=.int .i64 y) rfl rfl
 have zz:=hz.below HE1.out.base ZqI
 have g0:=zz.g0
 have g1:=zz.g1
 have HL:=ZqH (hl.after RunR.stays HE1.out.base ZqI)
 clear zz hl hz
 go_enter Tryz.func60,Tryz.ntmps60
 by_cases hx:x = -1
 ·by_cases hy:y = -1
  ·subst hx
   subst hy
   have HST:Hid (Zaz b (a,-1,-1)=true):=rfl
   go_wp2
   exact ZpW (v:=.tuple #[.nilFunc,.bool false]) (by simp[results,Tryz.f60,go_sem]) rfl ⟨HE1.out.base,by rw[HST.out,if_pos rfl]⟩
  ·have HGN:Hid (hasR b.sea.land x y=false->Zaz b (a,x,y)=false):=fun h=>by unfold Zaz ZcY;simp[hy,h]
   subst hx
   go_wp2_with fail
   refine(Zh5 HL.out (-1) y).mono ?_
   rintro e w2 ⟨rfl,hb⟩
   have HE2:=ZqH (HE1.out.step hb)
   clear hb HE1 g0 g1 c0 c1 c2 c3 c4 a0 a1 a2
   cases h1:hasR b.sea.land (-1) y
   rotate_left
   ·skip
    have HST:Hid (Zaz b (a,(-1),y)=true):=by unfold Zaz;rw[h1];exact Bool.or_true _
    go_wp2
    exact ZpW (v:=.tuple #[.nilFunc,.bool false]) (by simp[results,Tryz.f60,go_sem]) rfl ⟨HE2.out.base,by rw[HST.out,if_pos rfl]⟩
   ·have HST:Hid (Zaz b (a,(-1),y)=false):=HGN.out h1
    clear h1
    go_wp2
    exact ZpW (v:=.tuple #[.func (.func 111) #[] #[.pointer (some ⟨w.heap.size,0,none⟩),.pointer (some ⟨w.heap.size+1,0,none⟩)],.bool true]) (by simp[results,Tryz.f60,go_sem]) rfl
     ⟨HE2.out.base,by rw[HST.out];exact⟨rfl,HE2.out.block 1 rfl,HE2.out.block 0 rfl⟩⟩
 ·have HGN:Hid (hasR b.sea.land x y=false->Zaz b (a,x,y)=false):=fun h=>by unfold Zaz ZcY;simp[hx,h]
  go_wp2_with fail
  refine(Zh5 HL.out x y).mono ?_
  rintro e w2 ⟨rfl,hb⟩
  have HE2:=ZqH (HE1.out.step hb)
  clear hb HE1 g0 g1 c0 c1 c2 c3 c4 a0 a1 a2
  cases h1:hasR b.sea.land x y
  rotate_left
  ·skip
   have HST:Hid (Zaz b (a,x,y)=true):=by unfold Zaz;rw[h1];exact Bool.or_true _
   go_wp2
   exact ZpW (v:=.tuple #[.nilFunc,.bool false]) (by simp[results,Tryz.f60,go_sem]) rfl ⟨HE2.out.base,by rw[HST.out,if_pos rfl]⟩
  ·have HST:Hid (Zaz b (a,x,y)=false):=HGN.out h1
   clear h1
   go_wp2
   exact ZpW (v:=.tuple #[.func (.func 111) #[] #[.pointer (some ⟨w.heap.size,0,none⟩),.pointer (some ⟨w.heap.size+1,0,none⟩)],.bool true]) (by simp[results,Tryz.f60,go_sem]) rfl
    ⟨HE2.out.base,by rw[HST.out];exact⟨rfl,HE2.out.block 1 rfl,HE2.out.block 0 rfl⟩⟩
end Go.Proofs.YtjmckebecpjjfaaGreatDoor
namespace Go.Proofs.YtjmckebecpjjfaaGreatDoor
open Go.RowKit Go.Shelf
attribute [local go_sem] Oper.semAt_some
structure WaysIn (b:BelP) (lv:Value) (sb so n cs j:Nat) (x y:Int) (tb td nt ct:Nat) (B P:Nat) (W:World):Prop where
 bel:W.heap[B]?=some (belO b lv (.slice (some ⟨sb,so,none⟩) n cs))
 plc:W.heap[P]?=some (plO ((j:Int),x,y))
 scene:W.cell? ⟨sb,so+j*4+3,none⟩=some (.slice (some ⟨tb,td,none⟩) nt ct)
 at':∀ k,k<nt->W.cell? ⟨tb,td+k*4,none⟩=some (.int .i64 (stA (Zw b j) k).dx)/\W.cell? ⟨tb,td+k*4+1,none⟩=some (.int .i64 (stA (Zw b j) k).dy)/\
  W.cell? ⟨tb,td+k*4+2,none⟩=some (.string (stA (Zw b j) k).chance.1)/\W.cell? ⟨tb,td+k*4+3,none⟩=some (.string (stA (Zw b j) k).chance.2)
 g0:W.cell? ⟨2,0,none⟩=some (.int .i64 (-1))
 g1:W.cell? ⟨2,1,none⟩=some (.int .i64 (-1))
theorem Zhb {b:BelP} (hg:GridW b.sea) {pg:Option Addr} {ng cg sb so n cs j:Nat} {x y:Int} (hj:j<n) (hn:n<=8) (hp:PlB ((j:Int),x,y)) {tb td nt ct B P:Nat} (hnt:nt<=25)
  (hst:∀ k,k<nt->Zao (stA (Zw b j) k)=true) (S:Nat->Prop) (w0:World) (hin:∀ W,Keeps S w0 W->WaysIn b (.slice pg ng cg) sb so n cs j x y tb td nt ct B P W) :
  ZoE Tryz.prog 111 #[.pointer (some ⟨B,0,none⟩),.pointer (some ⟨P,0,none⟩)] (fun k=>#[kPl (Z6 b ((j:Int),x,y) (stA (Zw b j) k)),pV (stA (Zw b j) k).chance.1 (stA (Zw b j) k).chance.2]) nt S (fun _=>True) w0:=by
 intro nn l J Jp W hK hJ hY h0
 have HY:=ZqH hY
 have HJ:=ZqH hJ
 have HIN:=ZqH hin
 have HK0:=ZqH hK
 have HST:=ZqH hst
 have HG:=ZqH hg
 have HP:=ZqH hp
 obtain⟨c0,c1,c2,c3,c4⟩:=Zv (hin W hK).bel
 have p0:=Zn (hin W hK).plc 0 (v:=.int .i64 (j:Int)) rfl
 have hsc:=(hin W hK).scene
 have hj0:(0:Int)<=(j:Int):=Za
 have hj1:(j:Int)<(n:Int):=Za
 clear hY hJ hin hK hst hg hp
 refine callsIn_of_wp Tryz.func111 rfl trivial ?_ rfl
 simp only[Tryz.ntmps111,Nat.reduceAdd,Nat.reduceSub,ZqG]
 gi_wp2
 clear c0 c1 c2 c3 c4 p0 hsc
 gi_loopw [15] (fun iv wr=>∃ k:Nat,iv=.int .i64 k/\k<=nt/\J k wr/\Hid (Keeps S w0 wr)) (fun iv _=>nt-(intOf iv).toNat)
 case atStart=>exact⟨0,rfl,Zp8 _,h0,HK0⟩
 case round=>
  obtain⟨k,rfl,hk,hJk,HK⟩:=hrel
  by_cases hlt:k<nt
  ·obtain⟨e0,e1,e2,e3⟩:=(HIN.out wr HK.out).at' k hlt
   have hs:=HST.out k hlt
   obtain⟨⟨dx,dy,ch⟩,hd⟩:∃ z,stA (Zw b j) k=z:=⟨_,rfl⟩
   have HD:=ZqH hd
   rw[hd] at e0 e1 e2 e3 hs
   dsimp only at e0 e1 e2 e3
   obtain⟨s,t⟩:=ch
   dsimp only at e2 e3
   have hb:=hs
   unfold Zao at hb
   simp only[Zqt,Zcp] at hb
   have hpl:=HP.out
   unfold PlB at hpl
   dsimp only at hpl
   have wx:IntKind.i64.wrap (x+dx)=x+dx:=IntWalk.i64_in _ Za
   have wy:IntKind.i64.wrap (y+dy)=y+dy:=IntWalk.i64_in _ Za
   clear hd hs hb hpl
   obtain⟨V1,hV1⟩:=ZqJ (wr.alloc (stO dx dy s t))
   obtain⟨q1,hq1⟩:=ZqJ wr.heap.size
   have HK1:Hid (∀ S':Nat->Prop,Keeps S' wr V1):=fun S'=>by rw[<- hV1];exact(Keeps.refl S' wr).alloc _
   have hb1:V1.heap[q1]?=some (stO dx dy s t):=by rw[<- hV1,<- hq1];exact ZpY wr _
   obtain⟨V2,hV2⟩:=ZqJ (V1.alloc (ZcB (x+dx) (y+dy)))
   obtain⟨q2,hq2⟩:=ZqJ V1.heap.size
   have HK2:Hid (∀ S':Nat->Prop,Keeps S' V1 V2):=fun S'=>by rw[<- hV2];exact(Keeps.refl S' V1).alloc _
   have hb2:V2.heap[q2]?=some (ZcB (x+dx) (y+dy)):=by rw[<- hV2,<- hq2];exact ZpY V1 _
   have hb3:V2.heap[q1]?=some (stO dx dy s t):=((HK2.out (fun _=>True)).block q1 (ZqC hb1) trivial).trans hb1
   have HQQ:Hid (q1<q2/\q2=wr.heap.size+1/\q1=wr.heap.size/\V2.heap.size=wr.heap.size+2):=⟨by rw[<- hq1,<- hq2,<- hV1];simp,by rw[<- hq2,<- hV1];simp,hq1.symm,by rw[<- hV2,<- hV1];simp⟩
   have HB2:=ZqH hb2
   have HB3:=ZqH hb3
   have d0:=Zn hb1 0 (v:=.int .i64 dx) rfl
   have d1:=Zn hb1 1 (v:=.int .i64 dy) rfl
   have d2:=Zn hb1 2 (v:=.string s) rfl
   have d3:=Zn hb1 3 (v:=.string t) rfl
   have HKV:=ZqH (HK.out.trans ((HK1.out S).trans (HK2.out S)))
   obtain⟨c0,c1,c2,c3,c4⟩:=Zv (HIN.out V2 HKV.out).bel
   have p1:=Zn (HIN.out V1 (HK.out.trans (HK1.out S))).plc 1 (v:=.int .i64 x) rfl
   have p2:=Zn (HIN.out V1 (HK.out.trans (HK1.out S))).plc 2 (v:=.int .i64 y) rfl
   have x0:=Zn hb2 0 (v:=.int .i64 (x+dx)) rfl
   have x1:=Zn hb2 1 (v:=.int .i64 (y+dy)) rfl
   have k0:(0:Int)<=(k:Int):=Za
   have k1:(k:Int)<(nt:Int):=Za
   clear hb1 hb2 hb3
   have HW:=ZqH (Zqy hV1 hV2)
   gi_wp2_with fail
   refine⟨trivial,(fun h=>by cases h),Zqp.2 ((ZgQ HG.out (x+dx) (y+dy) V2).mono ?_)⟩
   rintro e w3 ⟨rfl,hb⟩
   have HK3:Hid (∀ S':Nat->Prop,Keeps S' V2 w3):=fun S'=>hb.keepsS S'
   have HB4:Hid (w3.heap[q2]?=some (ZcB (x+dx) (y+dy))):=(hb.block _ (ZqC HB2.out)).trans HB2.out
   have HB5:Hid (w3.heap[q1]?=some (stO dx dy s t)):=(hb.block _ (ZqC HB3.out)).trans HB3.out
   have HKW:=ZqH (HKV.out.trans (HK3.out S))
   clear hb hV1 hV2 hq1 hq2 HB2 HB3 c0 c1 c2 c3 c4 p1 p2 x0 x1 d0 d1 d2 d3
   have hx0:=Zn HB4.out 0 (v:=.int .i64 (x+dx)) rfl
   have hx1:=Zn HB4.out 1 (v:=.int .i64 (y+dy)) rfl
   cases h2:hasC b.sea (x+dx) (y+dy)
   ·have HLD:Hid (Z6 b ((j:Int),x,y) ⟨dx,dy,(s,t)⟩=((j:Int),-1,-1)):=by
     show _=_
     unfold Z6
     rw[if_neg (by show ¬ hasC b.sea (x+dx) (y+dy)=true;rw[h2];exact Bool.false_ne_true)]
    have g0:=(HIN.out w3 HKW.out).g0
    have g1:=(HIN.out w3 HKW.out).g1
    have f0:=Zo HB4.out 0
    have f1:=Zo HB4.out 1
    obtain⟨w4,hw4⟩:=ZqJ ((w3.setCell ⟨q2,0,none⟩ (.int .i64 (-1))).setCell ⟨q2,1,none⟩ (.int .i64 (-1)))
    have HKX:Hid (∀ S':Nat->Prop,Keeps S' wr w4):=fun S'=>by
     have h1:Keeps (fun b=>b≠q2) w3 w4:=by rw[<- hw4];exact((Keeps.refl _ w3).setCell (p:=⟨q2,0,none⟩) (fun h=>h rfl) _).setCell (p:=⟨q2,1,none⟩) (fun h=>h rfl) _
     have h2:=(HK1.out (fun _=>True)).trans ((HK2.out _).trans (HK3.out _))
     exact⟨h1.os.trans h2.os,h1.tape.trans h2.tape,h1.output.trans h2.output,Zp4 h2.size h1.size,fun i hi _=>(h1.block i (Zp2 hi h2.size) (by have:=HQQ.out;omega)).trans (h2.block i hi trivial)⟩
    have hb6:w4.heap[q2]?=some (ZcB (-1) (-1)):=by rw[<- hw4];exact ZQ HB4.out _ _
    have hb7:w4.heap[q1]?=some (stO dx dy s t):=by
     rw[<- hw4,ZpX _ _ _ _ (by have:=HQQ.out;show q1≠q2;omega),ZpX _ _ _ _ (by have:=HQQ.out;show q1≠q2;omega)]
     exact HB5.out
    clear h2
    have a0:=Zn hb6 0 (v:=.int .i64 (-1)) rfl
    have a1:=Zn hb6 1 (v:=.int .i64 (-1)) rfl
    have b2:=Zn hb7 2 (v:=.string s) rfl
    have b3:=Zn hb7 3 (v:=.string t) rfl
    have p0:=Zn (HIN.out w4 (HK.out.trans (HKX.out S))).plc 0 (v:=.int .i64 (j:Int)) rfl
    have hJ5:=HJ.out k wr w4 hJk (HKX.out _)
    have hy:=HY.out k w4 hlt hJ5
    rw[HD.out,HLD.out] at hy
    obtain⟨fn,tmps,assign,body,hyy,hR⟩:=hy
    have HR:=ZqH hR
    clear hb6 hb7 hJ5 hR
    gi_wp2_with fail
    refine⟨(fun h=>by cases h),HR.out.mono ?_⟩
    rintro e W6 (⟨rfl,hJ6,hk6⟩ | ⟨ch,rfl,hjp⟩)
    ·have HK6:=ZqH ((HK.out.trans (HKX.out S)).trans hk6)
     have HJ6:=ZqH hJ6
     clear hJ6 hk6 hyy a0 a1 b2 b3 p0
     gi_wp2
     go_roundw
     case rel=>exact⟨k+1,by go_num,Za,HJ6.out,HK6⟩
     case measure=>exact Zj
    ·exact⟨rfl,.inr ⟨ch,rfl,hjp⟩⟩
   ·have HLD:Hid (Z6 b ((j:Int),x,y) ⟨dx,dy,(s,t)⟩=((j:Int),x+dx,y+dy)):=by
     show _=_
     unfold Z6
     rw[if_pos (by show hasC b.sea (x+dx) (y+dy)=true;exact h2)]
    have HKX:Hid (∀ S':Nat->Prop,Keeps S' wr w3):=fun S'=>(HK1.out S').trans ((HK2.out S').trans (HK3.out S'))
    have hb6:=HB4.out
    have hb7:=HB5.out
    clear h2
    have a0:=Zn hb6 0 (v:=.int .i64 (x+dx)) rfl
    have a1:=Zn hb6 1 (v:=.int .i64 (y+dy)) rfl
    have b2:=Zn hb7 2 (v:=.string s) rfl
    have b3:=Zn hb7 3 (v:=.string t) rfl
    have p0:=Zn (HIN.out w3 (HK.out.trans (HKX.out S))).plc 0 (v:=.int .i64 (j:Int)) rfl
    have hJ5:=HJ.out k wr w3 hJk (HKX.out _)
    have hy:=HY.out k w3 hlt hJ5
    rw[HD.out,HLD.out] at hy
    obtain⟨fn,tmps,assign,body,hyy,hR⟩:=hy
    have HR:=ZqH hR
    clear hb6 hb7 hJ5 hR
    gi_wp2_with fail
    refine⟨(fun h=>by cases h),HR.out.mono ?_⟩
    rintro e W6 (⟨rfl,hJ6,hk6⟩ | ⟨ch,rfl,hjp⟩)
    ·have HK6:=ZqH ((HK.out.trans (HKX.out S)).trans hk6)
     have HJ6:=ZqH hJ6
     clear hJ6 hk6 hyy a0 a1 b2 b3 p0
     gi_wp2
     go_roundw
     case rel=>exact⟨k+1,by go_num,Za,HJ6.out,HK6⟩
     case measure=>exact Zj
    ·exact⟨rfl,.inr ⟨ch,rfl,hjp⟩⟩
  ·obtain rfl:k=nt:=Za
   have HJK:=ZqH hJk
   clear hJk
   gi_wp2
   go_end0
   exact .inl ⟨⟨_,rfl⟩,HJK.out⟩
end Go.Proofs.YtjmckebecpjjfaaGreatDoor
