/- The parts CurveB, Range2, DTried. -/
import Derived.Test.YtmpaflidennnoaaGreatDoorH12
set_option maxRecDepth 100000
set_option maxHeartbeats 4000000
set_option linter.unusedVariables false
set_option linter.unusedSimpArgs false
namespace Go.Proofs.YtmpaflidennnoaaGreatDoor
open Go.RowKit Go.Shelf
attribute [local go_sem ↓] Go.wp_at_zero Go.wp_at_succ
attribute [local go_sem] Oper.semAt_some
theorem ZjN {b off r c:Nat} {bs:List BB} {w:World} (hI:CurveIn b off r c bs w) (hx:∃ k,k<r+1/\ZaX bs k=true) :
  Calls Tryz.prog 80 #[.slice (some ⟨b,off,none⟩) (r+1) c] w (Zct bs w):=by
 have hn:¬ CurveP bs:=fun hc=>by
  obtain⟨k,hk,h⟩:=hx
  have h2:=hc.small k (by rw[hI.len];exact hk)
  unfold ZaX at h
  rw[h2.1,h2.2] at h
  cases h
 have HE:Hid (ZeS bs 2):=.inr ⟨hn,rfl⟩
 have HX:=Zpe hx
 have HI:=Zpe hI
 have hr:=hI.most
 have e1:Hid (IntKind.i64.wrap (r:Int)=(r:Int)):=Zo1 _ Za
 clear hI hx
 go_enter Tryz.func80,Tryz.ntmps80
 have HS:Hid (∀ W,Below w.heap.size w W->SF b off ⟨#[48]⟩ ⟨#[49]⟩ ⟨#[48]⟩ ⟨#[49]⟩ W):=fun W hW=>HI.out.sf hW
 have H:Hid ((decide ((2:Int)<=(r:Int)+1) && decide ((r:Int)+1<=64))=true):=by show _=_;have:=HI.out.two;have:=HI.out.most;simp;omega
 go_wp2
 have hbx:((w.alloc (.cells #[.int .i64 0] 30)).drew).heap[w.heap.size]?=some (.cells #[.int .i64 0] 30):=Zot w _
 have hb0:Below w.heap.size w ((w.alloc (.cells #[.int .i64 0] 30)).drew):=((Zoq _ w).alloc Zpf _).drew
 obtain⟨w1,hw1⟩:=Zpg (w.alloc (.cells #[.int .i64 0] 30))
 rw[hw1] at hbx hb0 ⊢
 have hSF:=HS.out _ hb0
 refine Zaf [(true,0),(true,1),(false,2),(true,3),(true,4),(true,5),(true,6),(true,7),(true,8),(true,9),(true,10),(true,11),(true,12)] (SF b off ⟨#[48]⟩ ⟨#[49]⟩ ⟨#[48]⟩ ⟨#[49]⟩) (fun _=>false)
  Zb Zb (fun _ _=>rfl) Zi hSF ?_
 iterate 2
  refine Zr _ rfl rfl (fun w' hS=>Zf) ?_
  simp only[Act.put,Zl]
 refine Zt rfl rfl fun K hK=>?_
 go_simp
 go_at_call 128
 refine(Zbz _ 2 64 _).mono ?_
 rintro e w2 ⟨rfl,hb⟩
 rw[H.out]
 have hbx2:w2.heap[w.heap.size]?=some (.cells #[.int .i64 0] 30):=(hb.block _ (Zo9 hbx)).trans hbx
 have HB2:Zo8 w w2:=hb0.trans (hb.mono hb0.size)
 have HX2:=Zpe hbx2
 have hSF2:=HS.out _ HB2.out
 refine hK _ _ (.inr hSF2) ?_
 clear hK K hb hbx hb0 hbx2 hw1 hSF hSF2
 iterate 10
  refine Zr _ rfl rfl (fun w' hS=>by obtain⟨⟨a0,a1,a2,a3⟩,z0,z1⟩:=hS;exact Ze) ?_
  simp only[Act.put,Zl]
 refine ZJ ?_
 go_wp2
 refine Zaf [(true,0),(false,1),(true,2),(true,3),(true,4),(true,5),(true,6),(true,7),(true,8),(true,9),(true,10),(false,11),(true,12),(true,13)] (SL2 b (off+r*4) (bAt bs r).2.1 (bAt bs r).2.2) (fun _=>false)
  Zb Zb (fun _ _=>rfl) Zi (HI.out.sl HB2.out.drew) ?_
 iterate 1
  refine Zr _ rfl rfl (fun w' hS=>by obtain⟨⟨a0,a1⟩,z0,z1⟩:=hS;go_simp;(try simp only[e1.out,Int.toNat_natCast]);first | rfl | (rw[if_pos Za])) ?_
  simp only[Act.put,Zl]
 refine Zt rfl rfl fun K hK=>?_
 go_simp
 go_at_call 129
 refine(HI.out.cf HB2.out.drew).mono ?_
 rintro e w3 ⟨q,rfl,hE,hb⟩
 have HB3:Zo8 w w3:=HB2.out.drew.trans (hb.mono HB2.out.drew.size)
 have HX3:Hid (w3.heap[w.heap.size]?=some (.cells #[.int .i64 0] 30)):=(hb.block _ (Zo9 HX2.out)).trans HX2.out
 rcases hE with ⟨rfl,_⟩ | ⟨_,h⟩
 rotate_left
 ·obtain⟨k,hk,h2⟩:=HX.out
  rw[h k hk] at h2
  cases h2
 have hSL:=HI.out.sl HB3.out
 refine hK _ _ (.inr hSL) ?_
 clear hK K hb
 iterate 1
  refine Zr _ rfl rfl (fun w' hS=>by obtain⟨⟨a0,a1⟩,z0,z1⟩:=hS;go_simp;(try simp only[e1.out,Int.toNat_natCast]);first | rfl | (rw[if_pos Za])) ?_
  simp only[Act.put,Zl]
 iterate 8
  refine ZR rfl rfl ?_
  simp only[Act.put,Zl]
 refine Z4 rfl rfl hSL ?_
 simp only[Act.put,Zl]
 clear hSL
 iterate 1
  refine ZR rfl rfl ?_
  simp only[Act.put,Zl]
 iterate 1
  refine Zr _ rfl rfl (fun w' hS=>by obtain⟨⟨a0,a1⟩,z0,z1⟩:=hS;go_simp;(try simp only[e1.out,Int.toNat_natCast]);first | rfl | (rw[if_pos Za])) ?_
  simp only[Act.put,Zl]
 refine ZJ ?_
 have c0:=Zn HX3.out 0 rfl
 have f0:=Zo HX3.out 0
 go_wp2
 have q:(w3.setCell ⟨w.heap.size,0,none⟩ (.int .i64 2)).cell? ⟨w.heap.size,0,none⟩=some (.int .i64 2):=Zn (Zov HX3.out _) 0 rfl
 refine Zor (v:=.int .i64 2) (by simp[results,Tryz.f80,go_sem,q]) rfl ⟨2,rfl,HE.out,HB3.out.setCell (p:=⟨w.heap.size,0,none⟩) Zpf _⟩
theorem Zmt {b off r c:Nat} {bs:List BB} {w:World} (hI:CurveIn b off r c bs w) (hs:∀ k,k<r+1->ZaX bs k=false) (hx:1<hR bs r) :
  Calls Tryz.prog 80 #[.slice (some ⟨b,off,none⟩) (r+1) c] w (Zct bs w):=by
 have hn:¬ CurveP bs:=fun hc=>by
  have:=hc.top r (by rw[hI.len];omega)
  grind
 have HE:Hid (ZeS bs 2):=.inr ⟨hn,rfl⟩
 have hsm:=hs r Za
 unfold ZaX at hsm
 simp only[Bool.not_eq_false',ZoY] at hsm
 have HP:=Zpe (Zbw hsm.2).1
 have HG:Hid (sgnR (hR bs r) 1=1):=by
  show sgnR _ _=_
  unfold sgnR
  rw[if_neg Zk,if_neg Zk]
 have HS0:=Zpe hs
 have HI:=Zpe hI
 have hr:=hI.most
 have e1:Hid (IntKind.i64.wrap (r:Int)=(r:Int)):=Zo1 _ Za
 clear hI hx hs hsm
 go_enter Tryz.func80,Tryz.ntmps80
 have HS:Hid (∀ W,Below w.heap.size w W->SF b off ⟨#[48]⟩ ⟨#[49]⟩ ⟨#[48]⟩ ⟨#[49]⟩ W):=fun W hW=>HI.out.sf hW
 have H:Hid ((decide ((2:Int)<=(r:Int)+1) && decide ((r:Int)+1<=64))=true):=by show _=_;have:=HI.out.two;have:=HI.out.most;simp;omega
 go_wp2
 have hbx:((w.alloc (.cells #[.int .i64 0] 30)).drew).heap[w.heap.size]?=some (.cells #[.int .i64 0] 30):=Zot w _
 have hb0:Below w.heap.size w ((w.alloc (.cells #[.int .i64 0] 30)).drew):=((Zoq _ w).alloc Zpf _).drew
 obtain⟨w1,hw1⟩:=Zpg (w.alloc (.cells #[.int .i64 0] 30))
 rw[hw1] at hbx hb0 ⊢
 have hSF:=HS.out _ hb0
 refine Zaf [(true,0),(true,1),(false,2),(true,3),(true,4),(true,5),(true,6),(true,7),(true,8),(true,9),(true,10),(true,11),(true,12)] (SF b off ⟨#[48]⟩ ⟨#[49]⟩ ⟨#[48]⟩ ⟨#[49]⟩) (fun _=>false)
  Zb Zb (fun _ _=>rfl) Zi hSF ?_
 iterate 2
  refine Zr _ rfl rfl (fun w' hS=>Zf) ?_
  simp only[Act.put,Zl]
 refine Zt rfl rfl fun K hK=>?_
 go_simp
 go_at_call 128
 refine(Zbz _ 2 64 _).mono ?_
 rintro e w2 ⟨rfl,hb⟩
 rw[H.out]
 have hbx2:w2.heap[w.heap.size]?=some (.cells #[.int .i64 0] 30):=(hb.block _ (Zo9 hbx)).trans hbx
 have HB2:Zo8 w w2:=hb0.trans (hb.mono hb0.size)
 have HX2:=Zpe hbx2
 have hSF2:=HS.out _ HB2.out
 refine hK _ _ (.inr hSF2) ?_
 clear hK K hb hbx hb0 hbx2 hw1 hSF hSF2
 iterate 10
  refine Zr _ rfl rfl (fun w' hS=>by obtain⟨⟨a0,a1,a2,a3⟩,z0,z1⟩:=hS;exact Ze) ?_
  simp only[Act.put,Zl]
 refine ZJ ?_
 go_wp2
 refine Zaf [(true,0),(false,1),(true,2),(true,3),(true,4),(true,5),(true,6),(true,7),(true,8),(true,9),(true,10),(false,11),(true,12),(true,13)] (SL2 b (off+r*4) (bAt bs r).2.1 (bAt bs r).2.2) (fun _=>false)
  Zb Zb (fun _ _=>rfl) Zi (HI.out.sl HB2.out.drew) ?_
 iterate 1
  refine Zr _ rfl rfl (fun w' hS=>by obtain⟨⟨a0,a1⟩,z0,z1⟩:=hS;go_simp;(try simp only[e1.out,Int.toNat_natCast]);first | rfl | (rw[if_pos Za])) ?_
  simp only[Act.put,Zl]
 refine Zt rfl rfl fun K hK=>?_
 go_simp
 go_at_call 129
 refine(HI.out.cf HB2.out.drew).mono ?_
 rintro e w3 ⟨q,rfl,hE,hb⟩
 have HB3:Zo8 w w3:=HB2.out.drew.trans (hb.mono HB2.out.drew.size)
 have HX3:Hid (w3.heap[w.heap.size]?=some (.cells #[.int .i64 0] 30)):=(hb.block _ (Zo9 HX2.out)).trans HX2.out
 rcases hE with ⟨_,k,hk,h2⟩ | ⟨rfl,_⟩
 ·rw[HS0.out k hk] at h2
  cases h2
 refine hK _ _ (.inr (HI.out.sl HB3.out)) ?_
 clear hK K hb
 iterate 9
  refine Zr _ rfl rfl (fun w' hS=>by obtain⟨⟨a0,a1⟩,z0,z1⟩:=hS;go_simp;(try simp only[e1.out,Int.toNat_natCast]);first | rfl | (rw[if_pos Za])) ?_
  simp only[Act.put,Zl]
 refine Zt rfl rfl fun K hK=>?_
 go_simp
 go_at_call 22
 refine(ZbH HP.out Zfx HG.out _).mono ?_
 rintro e w4 ⟨rfl,hb⟩
 have HB4:Zo8 w w4:=HB3.out.trans (hb.mono HB3.out.size)
 have HX4:Hid (w4.heap[w.heap.size]?=some (.cells #[.int .i64 0] 30)):=(hb.block _ (Zo9 HX3.out)).trans HX3.out
 refine hK _ _ (.inr (HI.out.sl HB4.out)) ?_
 clear hK K hb
 iterate 2
  refine Zr _ rfl rfl (fun w' hS=>by obtain⟨⟨a0,a1⟩,z0,z1⟩:=hS;go_simp;(try simp only[e1.out,Int.toNat_natCast]);first | rfl | (rw[if_pos Za])) ?_
  simp only[Act.put,Zl]
 refine ZJ ?_
 have c0:=Zn HX4.out 0 rfl
 have f0:=Zo HX4.out 0
 go_wp2
 have q:(w4.setCell ⟨w.heap.size,0,none⟩ (.int .i64 2)).cell? ⟨w.heap.size,0,none⟩=some (.int .i64 2):=Zn (Zov HX4.out _) 0 rfl
 refine Zor (v:=.int .i64 2) (by simp[results,Tryz.f80,go_sem,q]) rfl ⟨2,rfl,HE.out,HB4.out.setCell (p:=⟨w.heap.size,0,none⟩) Zpf _⟩
end Go.Proofs.YtmpaflidennnoaaGreatDoor
namespace Go.Proofs.YtmpaflidennnoaaGreatDoor
open Go.RowKit Go.Shelf
def Zhx (S:Nat->Prop) (D:Nat) (I:Nat->World->Prop) (Ix:Code->Nat->World->Prop) (k:Nat) (W:World):Exit->Act->World->Prop
 | .normal,_,W'=>Keeps (fun b=>S b\/b=D\/b=D+1) W W'/\I (k+1) W'
 | .ret,_,W'=>Keeps (fun b=>b=D\/b=D+1) W W'/\Ix .ret k W'
 | .exit id,_,W'=>Keeps (fun b=>b=D\/b=D+1) W W'/\Ix (.exit id) k W'
 | .goto t,_,W'=>Keeps (fun b=>b=D\/b=D+1) W W'/\Ix (.goto t) k W'
 | .panic _,_,_=>False
 | .outgrown,_,_=>False
theorem ZdR.to3 {S:Nat->Prop} {D:Nat} {I:Nat->World->Prop} {Ix:Code->Nat->World->Prop} {k:Nat} {W:World} : ∀ {e:Exit} {a:Act} {w:World},ZdR S D I Ix k W e a w->Zhx S D I Ix k W e a w
 | .normal,_,_,h=>h
 | .ret,_,_,h=>⟨h.1.mono fun _ _ hb=>.inr hb,h.2⟩
 | .exit _,_,_,h=>⟨h.1.mono fun _ _ hb=>.inr hb,h.2⟩
 | .goto _,_,_,h=>⟨h.1.mono fun _ _ hb=>.inr hb,h.2⟩
 | .panic _,_,_,h=>h
 | .outgrown,_,_,h=>h
theorem Zmr {P:Program} {n:Nat} {g:Operand} {ps:Array Tmp} {assign body:Code} {Q:Exit->Act->World->Prop} {a:Act} {w:World}
  {gf:Nat} {lb:Array Value} {f:Nat->Array Value} {N:Nat} {S T:Nat->Prop} (D:Nat) (hD:w.heap.size=D)
  (hg:a.eval g=.func (.func gf) #[] lb) (eg:∀ args w,(callFunc gf args).run P w=.ok (.enter gf args) w) (hps:∀ k,(f k).size=ps.size)
  (hit:Iter P gf lb f N S T w) (hSD:∀ b,S b->b<D) (hTD:T D/\T (D+1))
  (I:Nat->World->Prop) (Ix:Code->Nat->World->Prop)
  (hI:∀ k W1 W2,I k W1->Keeps (fun b=>T b/\b≠D/\b≠D+1) W1 W2->I k W2)
  (hIx:∀ c k W1 W2,Ix c k W1->Keeps (fun b=>T b/\b≠D/\b≠D+1) W1 W2->Ix c k W2)
  (h0:I 0 w) (B:Nat->Act->World->Prop)
  (hB:∀ k a' W1 W2,B k a' W1->Keeps (fun b=>b≠D/\b≠D+1) W1 W2->B k a' W2)
  (hassign:∀ (l k:Nat) (W:World),k<N->D+2<=W.heap.size->
   assign.wpIn (Fence.wide.inRound l) (n-1-1) P (Exit.then (fun a' W'=>Keeps (fun _=>True) W W'/\B k a' W') (fun _ _ _=>False)) { tmps:=(ps.zip (f k)).foldl (fun t (p,v)=>t.setIfInBounds p v) a.tmps,defers:=[] } W)
  (hbody:∀ (l k:Nat) (a':Act) (W:World),k<N->I k W->B k a' W->D+2<=W.heap.size->body.wpIn (Fence.wide.inRound l) (n-1-1) P (Zhx S D I Ix k W) a' W)
  (hdone:∀ W:World,I N W->W.heap[D]?=some (.deferred (some []))->Q .normal { a with defers:={ target:=.collected D,args:=#[] }::a.defers } W)
  (hstop:∀ (c:Code) (k:Nat) (W:World),k<N->Ix c k W->W.heap[D]?=some (.deferred (some []))->c.wpIn Fence.wide n P Q { a with defers:={ target:=.collected D,args:=#[] }::a.defers } W) :
  (Code.rangeFunc g ps assign body).wpIn Fence.wide n P Q a w:=by
 subst hD
 refine wpIn_rangeFunc fun fn _=>?_
 let rec0:LoopState->Option Code->Loop:=fun st pe=>{ state:=st,pending:=pe,fn,tmps:=a.tmps,params:=ps,assign,body,defers:=w.heap.size }
 obtain⟨mk,hmk⟩:∃ mk:LoopState->Option Code->Loop,mk=rec0:=⟨_,rfl⟩
 obtain⟨W1,hW1⟩:=Zpg ((w.alloc (.deferred (some []))).alloc (.loop (mk .ready none)))
 have hrec1:W1.heap[w.heap.size+1]?=some (.loop (mk .ready none)):=by
  have:=Zot (w.alloc (.deferred (some []))) (.loop (mk .ready none))
  rwa [ZoP,hW1] at this
 have hdef1:W1.heap[w.heap.size]?=some (.deferred (some [])):=by
  rw[<- hW1];exact(ZoG _ _ _ Zc).trans (Zot w _)
 have keepAny:∀ S':Nat->Prop,Keeps S' w W1:=fun S'=>by rw[<- hW1];exact((Keeps.refl S' w).alloc _).alloc _
 refine⟨w.heap.size+1,[{ target:=.collected w.heap.size,args:=#[] }],W1,{ target:=.fn (.func gf) lb,args:=#[.func (.yield (w.heap.size+1)) #[] #[]] },W1,gf,
  #[.func (.yield (w.heap.size+1)) #[] #[]]++lb,W1,?_,?_,fun _ _=>trivial,?_,(fun h=>by cases h),?_⟩
 ·rw[<- hW1,hmk];exact run_enterLoop_outer _ _ _ _ _
 ·simp only[resolve,hg]
  simp[go_sem]
 ·simp[invoke,go_sem,eg]
 ·-- the record between two rounds,and when one has said 'no more'
  have turn:∀ {k:Nat} {W2:World} (l:Loop),I k W2->W2.heap[w.heap.size]?=some (.deferred (some []))->w.heap.size+1<W2.heap.size->
    I k (W2.putObj (w.heap.size+1) (.loop l))/\(W2.putObj (w.heap.size+1) (.loop l)).heap[w.heap.size]?=some (.deferred (some []))/\(W2.putObj (w.heap.size+1) (.loop l)).heap[w.heap.size+1]?=some (.loop l):=
   fun l hi hd hlt=>⟨hI _ _ _ hi ((Keeps.refl _ _).putObj (fun h=>h.2.2 rfl) _),(ZoJ Za).trans hd,World.putObj_heap_same hlt⟩
  have turnx:∀ {c:Code} {k:Nat} {W2:World} (l:Loop),Ix c k W2->W2.heap[w.heap.size]?=some (.deferred (some []))->w.heap.size+1<W2.heap.size->
    Ix c k (W2.putObj (w.heap.size+1) (.loop l))/\(W2.putObj (w.heap.size+1) (.loop l)).heap[w.heap.size]?=some (.deferred (some []))/\(W2.putObj (w.heap.size+1) (.loop l)).heap[w.heap.size+1]?=some (.loop l):=
   fun l hi hd hlt=>⟨hIx _ _ _ _ hi ((Keeps.refl _ _).putObj (fun h=>h.2.2 rfl) _),(ZoJ Za).trans hd,World.putObj_heap_same hlt⟩
  have ltOf:∀ {W2:World} {o:Obj},W2.heap[w.heap.size+1]?=some o->w.heap.size+1<W2.heap.size:=fun h=>(Zo9 h)
  have stay:∀ {k:Nat} {A B:World} {l:Loop},(A.heap[w.heap.size+1]?=some (.loop l)/\A.heap[w.heap.size]?=some (.deferred (some [])))->Keeps T A B->
    B.heap[w.heap.size+1]?=some (.loop l)/\B.heap[w.heap.size]?=some (.deferred (some [])):=fun {k A B l} h hk=>
   ⟨(hk.block _ (ltOf h.1) hTD.2).trans h.1,(hk.block _ (by have:=ltOf h.1;omega) hTD.1).trans h.2⟩
  refine(hit (n-1) (w.heap.size+1)
   (fun k W=>I k W/\(W.heap[w.heap.size+1]?=some (.loop (mk .ready none))/\W.heap[w.heap.size]?=some (.deferred (some []))))
   (fun k W=>∃ c,Ix c k W/\(W.heap[w.heap.size+1]?=some (.loop (mk .done (some c)))/\W.heap[w.heap.size]?=some (.deferred (some []))))
   W1 (keepAny S)
   (fun k A B h hk=>⟨hI _ _ _ h.1 (hk.mono fun b _ hb=>hb.1),stay (k:=k) h.2 hk⟩)
   (fun k A B h hk=>by obtain⟨c,h1,h2⟩:=h;exact⟨c,hIx _ _ _ _ h1 (hk.mono fun b _ hb=>hb.1),stay (k:=k) h2 hk⟩)
   ?_ ⟨hI _ _ _ h0 (keepAny _),hrec1,hdef1⟩).mono ?_
  ·rintro k W hk ⟨hi,hl,hd⟩
   have hlt:=ltOf hl
   have hy:=run_yield (P:=P) (args:=f k) hl (by rw[hmk];exact hps k)
   rw[hmk] at hy
   refine⟨fn,_,assign,body,hy,roundIn_of_wpIn (F:=Fence.wide) trivial (wpIn_mono (hassign _ k W hk Za) ?_)⟩
   rintro e a9 W9 hp9
   cases e<;>try exact hp9
   obtain⟨hk9,hb9⟩:=hp9
   have hl9:W9.heap[w.heap.size+1]?=some (.loop (mk .ready none)):=(hk9.block _ hlt trivial).trans hl
   have hd9:W9.heap[w.heap.size]?=some (.deferred (some [])):=(hk9.block _ Za trivial).trans hd
   have hi9:I k W9:=hI _ _ _ hi (hk9.mono fun _ _ _=>trivial)
   have keep9:Keeps S W W9:=hk9.mono fun _ _ _=>trivial
   clear hk9 hl hd hi hlt
   have hlt:=ltOf hl9
   refine⟨_,run_beginRound hl9 (by rw[hmk]),?_⟩
   obtain⟨hi2,hd2,hl2⟩:=turn { mk .ready none with state:=.busy } hi9 hd9 hlt
   have hb2:=hB _ _ _ (W9.putObj (w.heap.size+1) (.loop { mk .ready none with state:=.busy })) hb9 ((Keeps.refl _ _).putObj (fun h=>h.2 rfl) _)
   have keepSame:Keeps S W (W9.putObj (w.heap.size+1) (.loop { mk .ready none with state:=.busy })):=keep9.putObj (fun h=>by have:=hSD _ h;omega) _
   refine wpIn_mono (hbody _ k _ _ hk hi2 hb2 (by simp;omega)) ?_
   generalize hV:W9.putObj (w.heap.size+1) (.loop { mk .ready none with state:=.busy })=V at hi2 hd2 hl2 keepSame
   have fin:∀ (jump:Option Code) (W3:World),Keeps (fun b=>b=w.heap.size\/b=w.heap.size+1) V W3->
     (Instr.endRound (w.heap.size+1) jump).run P W3=.ok (.bool jump.isNone) (W3.putObj (w.heap.size+1) (.loop (mk (if jump.isNone then .ready else .done) jump)))/\
      W3.heap[w.heap.size]?=some (.deferred (some []))/\w.heap.size+1<W3.heap.size:=fun jump W3 hk3=>by
    have hl3:W3.heap[w.heap.size+1]?=some (.loop { mk .ready none with state:=.busy }):=(hk3.block _ (ltOf hl2) (.inr rfl)).trans hl2
    have hd3:=(hk3.block _ (by have:=ltOf hl2;omega) (.inl rfl)).trans hd2
    have:=run_endRound (P:=P) jump hl3
    rw[hmk] at this ⊢
    exact⟨this,hd3,ltOf hl3⟩
   rintro e a3 W3 hp
   cases e with
   | normal=>
    obtain⟨hk3,hi3⟩:=hp
    obtain⟨hr,hd3,hlt3⟩:=fin none W3 (hk3.mono fun _ _ hb=>.inr hb)
    obtain⟨x1,x2,x3⟩:=turn (mk .ready none) hi3 hd3 hlt3
    exact⟨_,_,hr,.inl ⟨rfl,⟨x1,x3,x2⟩,(keepSame.trans (hk3.mono fun b _ hb=>.inl hb)).putObj (fun h=>by have:=hSD _ h;omega) _⟩⟩
   | ret=>
    obtain⟨hk3,hi3⟩:=hp
    obtain⟨hr,hd3,hlt3⟩:=fin (some .ret) W3 hk3
    obtain⟨x1,x2,x3⟩:=turnx (mk .done (some .ret)) hi3 hd3 hlt3
    exact⟨_,_,hr,.inr ⟨rfl,.ret,x1,x3,x2⟩⟩
   | exit id=>
    obtain⟨hk3,hi3⟩:=hp
    obtain⟨hr,hd3,hlt3⟩:=fin (some (.exit id)) W3 hk3
    obtain⟨x1,x2,x3⟩:=turnx (mk .done (some (.exit id))) hi3 hd3 hlt3
    exact⟨_,_,hr,.inr ⟨rfl,.exit id,x1,x3,x2⟩⟩
   | goto t=>
    obtain⟨hk3,hi3⟩:=hp
    obtain⟨hr,hd3,hlt3⟩:=fin (some (.goto t)) W3 hk3
    obtain⟨x1,x2,x3⟩:=turnx (mk .done (some (.goto t))) hi3 hd3 hlt3
    exact⟨_,_,hr,.inr ⟨rfl,.goto t,x1,x3,x2⟩⟩
   | panic ch=>exact hp.elim
   | outgrown=>exact hp.elim
  ·rintro e W2 ⟨⟨v,rfl⟩,(⟨hi,hl,hd⟩ | ⟨k,hk,c,hi,hl,hd⟩)⟩
   ·have he:=run_endLoop (P:=P) hl (by rw[hmk];simp[rec0])
    obtain⟨x1,x2,_⟩:=turn { mk .ready none with state:=.exhausted } hi hd (ltOf hl)
    refine⟨none,_,by rw[hmk] at he ⊢;exact he,hdone _ x1 x2⟩
   ·have he:=run_endLoop (P:=P) hl (by rw[hmk];simp[rec0])
    obtain⟨x1,x2,_⟩:=turnx { mk .done (some c) with state:=.exhausted } hi hd (ltOf hl)
    refine⟨some c,_,by rw[hmk] at he ⊢;exact he,hstop c k _ hk x1 x2⟩
theorem ZdY {P:Program} {n:Nat} {g:Operand} {ps:Array Tmp} {assign body:Code} {Q:Exit->Act->World->Prop} {a:Act} {w:World}
  {gf:Nat} {lb:Array Value} {f:Nat->Array Value} {N:Nat} {S T:Nat->Prop} (D:Nat) (hD:w.heap.size=D)
  (hg:a.eval g=.func (.func gf) #[] lb) (eg:∀ args w,(callFunc gf args).run P w=.ok (.enter gf args) w) (hps:∀ k,(f k).size=ps.size)
  (hit:Iter P gf lb f N S T w) (hSD:∀ b,S b->b<D) (hTD:T D/\T (D+1))
  (I:Nat->World->Prop) (Ix:Code->Nat->World->Prop)
  (hI:∀ k W1 W2,I k W1->Keeps (fun b=>T b/\b≠D/\b≠D+1) W1 W2->I k W2)
  (hIx:∀ c k W1 W2,Ix c k W1->Keeps (fun b=>T b/\b≠D/\b≠D+1) W1 W2->Ix c k W2)
  (h0:I 0 w) (B:Nat->Act->World->Prop)
  (hB:∀ k a' W1 W2,B k a' W1->Keeps (fun b=>b≠D/\b≠D+1) W1 W2->B k a' W2)
  (hassign:∀ (l k:Nat) (W:World),k<N->D+2<=W.heap.size->
   assign.wpIn (Fence.wide.inRound l) (n-1-1) P (Exit.then (fun a' W'=>Keeps (fun _=>True) W W'/\B k a' W') (fun _ _ _=>False)) { tmps:=(ps.zip (f k)).foldl (fun t (p,v)=>t.setIfInBounds p v) a.tmps,defers:=[] } W)
  (hbody:∀ (l k:Nat) (a':Act) (W:World),k<N->I k W->B k a' W->D+2<=W.heap.size->body.wpIn (Fence.wide.inRound l) (n-1-1) P (ZdR S D I Ix k W) a' W)
  (hdone:∀ W:World,I N W->W.heap[D]?=some (.deferred (some []))->Q .normal { a with defers:={ target:=.collected D,args:=#[] }::a.defers } W)
  (hstop:∀ (c:Code) (k:Nat) (W:World),k<N->Ix c k W->W.heap[D]?=some (.deferred (some []))->c.wpIn Fence.wide n P Q { a with defers:={ target:=.collected D,args:=#[] }::a.defers } W) :
  (Code.rangeFunc g ps assign body).wpIn Fence.wide n P Q a w:=
 Zmr D hD hg eg hps hit hSD hTD I Ix hI hIx h0 B hB hassign (fun l k a' W h1 h2 h3 h4=>wpIn_mono (hbody l k a' W h1 h2 h3 h4) fun _ _ _ h=>h.to3) hdone hstop
theorem Zjo (n:Int) (w:World):(Instr.typeAssert (.iface 258 (.agg #[.int .i64 n])) 20 258 true).run Tryz.prog w=.ok (.tuple #[.agg #[.int .i64 n],.bool true]) w:=Zb
theorem Zjx (w:World):(Instr.typeAssert .nilIface 20 258 true).run Tryz.prog w=.ok (.tuple #[.agg #[.int .i64 0],.bool false]) w:=Zb
abbrev eO (n:Int):Obj:=.cells #[.int .i64 n] 30
abbrev mO (n:Int):Obj:=.cells #[.int .i64 n] 258
theorem ZfE (b c:Nat) (hne:b≠c) (n:Int) (older:List PanicEntry) (w:World) (hb:w.heap[b]?=some (pObj Zpa Zpa)) (hc:w.heap[c]?=some (eO 0)) :
  CallsD Tryz.prog 217 #[.pointer (some ⟨b,0,none⟩),.pointer (some ⟨c,0,none⟩)] (.panicking ({ v:=.iface 258 (.agg #[.int .i64 n]),recovered:=false }::older)) w fun e u' w'=>
   e=.returned (.tuple #[])/\u'=.panicking ({ v:=.iface 258 (.agg #[.int .i64 n]),recovered:=true }::older)/\w'.heap[b]?=some (pObj Zpa Zpa)/\w'.heap[c]?=some (eO n)/\Keeps (fun i=>i≠b/\i≠c) w w':=by
 have c0:=Zn hc 0 rfl
 have f0:=Zo hc 0
 have b0:=Zn hb 0 rfl
 have b1:=Zn hb 1 rfl
 have g0:=Zo hb 0
 have g1:=Zo hb 1
 have hta:=Zjo n
 have hbl:=(Zo9 hb)
 have hcl:=(Zo9 hc)
 refine callsD_of_wpS Tryz.func217 rfl fun c₀ cs hu=>?_
 apply wpS_seq
 apply wpS_region
 simp[wpOpsS,go_sem,recoverD,hu,Tryz.ntmps217,Exit.thenS]
 refine wpS_of_wp ?_
 simp only[Array.replicate_succ,Array.replicate_zero,List.push_toArray,List.append_toArray,Zo7,List.cons_append,List.setIfInBounds_toArray,List.set_cons_zero,List.set_cons_succ]
 go_wp2
 obtain⟨w0,hw0⟩:=Zpg (w.alloc (mO n))
 have hb0:w0.heap[b]?=some (pObj Zpa Zpa):=by rw[<- hw0];exact(ZoG w _ b hbl).trans hb
 have hc0:w0.heap[c]?=some (eO 0):=by rw[<- hw0];exact(ZoG w _ c hcl).trans hc
 have hm0:w0.heap[w.heap.size]?=some (mO n):=by rw[<- hw0];exact Zot w _
 have HK0:Hid (Keeps (fun i=>i≠b/\i≠c) w w0):=by rw[<- hw0];exact(Keeps.refl _ w).alloc _
 rw[hw0]
 obtain⟨g,hg⟩:=Zpg w.heap.size
 rw[hg] at hm0 hbl hcl ⊢
 have hgb:g≠b:=Za
 have hgc:g≠c:=Za
 clear hw0 hb hc b0 b1 c0 f0 g0 g1 hta hg hbl hcl
 have mc:w0.cell? ⟨g,0,none⟩=some (.int .i64 n):=Zn hm0 0 rfl
 have b0:w0.cell? ⟨b,0,none⟩=some (.string Zpa):=Zn hb0 0 rfl
 have b1:w0.cell? ⟨b,1,none⟩=some (.string Zpa):=Zn hb0 1 rfl
 have g0:w0.frozen? ⟨b,0,none⟩=false:=Zo hb0 0
 have g1:w0.frozen? ⟨b,1,none⟩=false:=Zo hb0 1
 refine Zaf [(true,0),(true,1),(true,2),(false,3),(false,4)] (fun w'=>w'.cell? ⟨g,0,none⟩=some (.int .i64 n)) (fun _=>false)
  Zb Zb (fun _ _=>rfl) Zi mc ?_
 iterate 3
  refine Zr _ rfl rfl (fun w' hS=>Zf) ?_
  simp only[Act.put,Zm]
 have b0:w0.drew.cell? ⟨b,0,none⟩=some (.string Zpa):=b0
 have b1:w0.drew.cell? ⟨b,1,none⟩=some (.string Zpa):=b1
 have g0:w0.drew.frozen? ⟨b,0,none⟩=false:=g0
 have g1:w0.drew.frozen? ⟨b,1,none⟩=false:=g1
 refine Zt rfl rfl fun K hK=>?_
 go_simp
 obtain⟨w1,hw1⟩:=Zpg (((w0.setCell ⟨b,0,none⟩ (.string Zpa)).setCell ⟨b,1,none⟩ (.string Zpa)).drew)
 have hb1:w1.heap[b]?=some (pObj Zpa Zpa):=by rw[<- hw1];exact Zov (Zov hb0 _) _
 have hc1:w1.heap[c]?=some (eO 0):=by
  rw[<- hw1]
  exact((Zos _ _ _ _ (Ne.symm hne)).trans (Zos _ _ _ _ (Ne.symm hne))).trans hc0
 have hm1:w1.heap[g]?=some (mO n):=by
  rw[<- hw1]
  exact((Zos _ _ _ _ hgb).trans (Zos _ _ _ _ hgb)).trans hm0
 have HK1:Hid (Keeps (fun i=>i≠b/\i≠c) w w1):=by
  rw[<- hw1]
  exact((HK0.out.setCell (p:=⟨b,0,none⟩) (fun h=>h.1 rfl) _).setCell (p:=⟨b,1,none⟩) (fun h=>h.1 rfl) _).drew
 rw[hw1]
 refine hK _ _ (.inr (Zn hm1 0 rfl)) ?_
 clear hK K hw1 b0 b1 g0 g1 mc hb0 hc0 hm0 HK0
 have c0:w1.cell? ⟨c,0,none⟩=some (.int .i64 0):=Zn hc1 0 rfl
 have f0:w1.frozen? ⟨c,0,none⟩=false:=Zo hc1 0
 refine Zt rfl rfl fun K hK=>?_
 go_simp
 obtain⟨w2,hw2⟩:=Zpg ((w1.setCell ⟨c,0,none⟩ (.int .i64 n)))
 have hb2:w2.heap[b]?=some (pObj Zpa Zpa):=by rw[<- hw2];exact(Zos _ _ _ _ hne).trans hb1
 have hc2:w2.heap[c]?=some (eO n):=by rw[<- hw2];exact Zov hc1 _
 have hm2:w2.heap[g]?=some (mO n):=by rw[<- hw2];exact(Zos _ _ _ _ hgc).trans hm1
 have HK2:Hid (Keeps (fun i=>i≠b/\i≠c) w w2):=by rw[<- hw2];exact HK1.out.setCell (p:=⟨c,0,none⟩) (fun h=>h.2 rfl) _
 rw[hw2]
 refine hK _ _ (.inr (Zn hm2 0 rfl)) ?_
 clear hK K hw2
 refine ZJ ?_
 exact⟨rfl,_,rfl,.tuple #[],by simp[results,Tryz.f217,go_sem],rfl,rfl,hb2,hc2,HK2.out⟩
theorem Zig (b c:Nat) (w:World) :
  CallsD Tryz.prog 217 #[.pointer (some ⟨b,0,none⟩),.pointer (some ⟨c,0,none⟩)] .returning w fun e u' w'=>
   e=.returned (.tuple #[])/\u'=.returning/\w'=w.alloc (mO 0):=by
 have hta:=Zjx
 refine callsD_of_wpS Tryz.func217 rfl fun c₀ cs hu=>?_
 apply wpS_seq
 apply wpS_region
 simp[wpOpsS,go_sem,recoverD,hu,Tryz.ntmps217,Exit.thenS]
 refine wpS_of_wp ?_
 simp only[Array.replicate_succ,Array.replicate_zero,List.push_toArray,List.append_toArray,Zo7,List.cons_append,List.setIfInBounds_toArray,List.set_cons_zero,List.set_cons_succ]
 go_wp2
 exact⟨rfl,.returning,by cases c₀;simp_all,.tuple #[],by simp[results,Tryz.f217,go_sem],rfl,rfl,rfl⟩
def Znn (A:ByteArray->ByteArray->Int->Prop) (w:World) (e:Ending) (w':World):Prop:=
 ∃ x y n,((n=0/\e=.returned (pV x y))\/(n≠0/\x=Zpa/\y=Zpa/\e=ZiY n))/\A x y n/\Below w.heap.size w w'
theorem Keeps.below_of {w w':World} {S:Nat->Prop} (h:Keeps S w w') {B:Nat} (hB:∀ i,i<B->S i) (hw:B<=w.heap.size):Below B w w':=
 ⟨h.os,h.tape,h.output,h.size,fun k hk=>h.block k Za (hB k hk)⟩
theorem Zkt {f:Nat} {caps:Array Value} (hent:∀ args w,(callFunc f args).run Tryz.prog w=.ok (.enter f args) w) {A:ByteArray->ByteArray->Int->Prop} {w:World}
  (hdo:∀ W,Below w.heap.size w W->Calls Tryz.prog f caps W (Znn A W)) :
  Calls Tryz.prog 183 #[.func (.func f) #[] caps] w (ZL A w):=by
 have hmf:∀ (fn:Fn) (first cap:Array Value) (w:World),(Instr.makeFunc fn first cap).run Tryz.prog w=.ok (.func fn first cap) w:=fun _ _ _ _=>rfl
 have HD:=Zpe hdo
 clear hdo
 go_enter_defers Tryz.func183,Tryz.ntmps183
 go_wp2_with fail
 have hB0:Below w.heap.size w ((w.alloc (pObj Zpa Zpa)).alloc (eO 0)):=((Zoq _ w).alloc Zpf _).alloc Zc _
 have hp0:((w.alloc (pObj Zpa Zpa)).alloc (eO 0)).heap[w.heap.size]?=some (pObj Zpa Zpa):=(ZoG _ _ _ Zc).trans (Zot w _)
 have he0:((w.alloc (pObj Zpa Zpa)).alloc (eO 0)).heap[w.heap.size+1]?=some (eO 0):=by
  have:=Zot (w.alloc (pObj Zpa Zpa)) (eO 0)
  rwa [ZoP] at this
 have hsz:((w.alloc (pObj Zpa Zpa)).alloc (eO 0)).heap.size=w.heap.size+2:=Zc
 refine(HD.out _ hB0).mono ?_
 obtain⟨w1,hw1⟩:=Zpg ((w.alloc (pObj Zpa Zpa)).alloc (eO 0))
 rw[hw1] at hB0 hp0 he0 hsz ⊢
 clear hw1 HD
 rintro e w2 ⟨x,y,n,hE,hA,hb⟩
 rw[hsz] at hb
 have HB2:Hid (Below (w.heap.size) w w2):=hB0.trans (hb.mono Za)
 have hp2:w2.heap[w.heap.size]?=some (pObj Zpa Zpa):=(hb.block _ Za).trans hp0
 have he2:w2.heap[w.heap.size+1]?=some (eO 0):=(hb.block _ Za).trans he0
 have HA:=Zpe hA
 obtain⟨p,hpp⟩:=Zpg w.heap.size
 rw[hpp] at hp2 he2 ⊢
 have HPP:=Zpe hpp
 clear hB0 hp0 he0 hsz hb hA hpp
 rcases hE with ⟨rfl,rfl⟩ | ⟨hn,rfl,rfl,rfl⟩
 ·have c0:=Zn hp2 0 rfl
  have c1:=Zn hp2 1 rfl
  have f0:=Zo hp2 0
  have f1:=Zo hp2 1
  have d0:=Zn he2 0 rfl
  have g0:=Zo he2 0
  have HP2:=Zpe hp2
  have HE2:=Zpe he2
  clear hp2 he2
  go_wp2
  obtain⟨w3,hw3⟩:=Zpg ((((w2.setCell ⟨p,0,none⟩ (.string x)).setCell ⟨p,1,none⟩ (.string y)).setCell ⟨p+1,0,none⟩ (.int .i64 0)))
  have hp3:w3.heap[p]?=some (pObj x y):=by rw[<- hw3];exact(Zos _ _ _ _ (by show p≠p+1;omega)).trans (Zov (Zov HP2.out _) _)
  have he3:w3.heap[p+1]?=some (eO 0):=by
   rw[<- hw3]
   exact Zov (((Zos _ _ _ _ (by show p+1≠p;omega)).trans (Zos _ _ _ _ (by show p+1≠p;omega))).trans HE2.out) _
  have HB3:Hid (Below p w w3):=by
   have hb2:=HB2.out
   rw[HPP.out] at hb2
   rw[<- hw3]
   exact((hb2.setCell (p:=⟨p,0,none⟩) Zpf _).setCell (p:=⟨p,1,none⟩) Zpf _).setCell (p:=⟨p+1,0,none⟩) (Nat.le_succ _) _
  rw[hw3]
  clear hw3 c0 c1 f0 f1 d0 g0
  have hl3:=(Zo9 he3)
  refine leaves_cons (f:=217) (args:=#[.pointer (some ⟨p,0,none⟩),.pointer (some ⟨p+1,0,none⟩)]) Zc (by simp[go_sem]) ?_
  refine(Zig p (p+1) _).mono ?_
  rintro e u' w'' ⟨rfl,rfl,rfl⟩
  have q0:(w3.alloc (mO 0)).cell? ⟨p,0,none⟩=some (.string x):=(Zaj _ _ _ Za).trans (Zn hp3 0 rfl)
  have q1:(w3.alloc (mO 0)).cell? ⟨p,1,none⟩=some (.string y):=(Zaj _ _ _ Za).trans (Zn hp3 1 rfl)
  have q2:(w3.alloc (mO 0)).cell? ⟨p+1,0,none⟩=some (.int .i64 0):=(Zaj _ _ _ hl3).trans (Zn he3 0 rfl)
  refine⟨.tuple #[pV x y,.int .i64 0],by simp[results,Tryz.f183,go_sem,q0,q1,q2],x,y,0,rfl,HA.out,?_⟩
  rw[HPP.out]
  exact HB3.out.alloc (by rw[<- HPP.out];exact HB3.out.size) _
 ·unfold ZiY
  refine leaves_cons (f:=217) (args:=#[.pointer (some ⟨p,0,none⟩),.pointer (some ⟨p+1,0,none⟩)]) Zc (by simp[go_sem]) ?_
  refine(ZfE p (p+1) Za n [] _ hp2 he2).mono ?_
  rintro e u' w3 ⟨rfl,rfl,hp3,he3,hk⟩
  have q0:w3.cell? ⟨p,0,none⟩=some (.string Zpa):=Zn hp3 0 rfl
  have q1:w3.cell? ⟨p,1,none⟩=some (.string Zpa):=Zn hp3 1 rfl
  have q2:w3.cell? ⟨p+1,0,none⟩=some (.int .i64 n):=Zn he3 0 rfl
  refine⟨.tuple #[pV Zpa Zpa,.int .i64 n],by simp[results,Tryz.f183,go_sem,q0,q1,q2],Zpa,Zpa,n,rfl,HA.out,?_⟩
  have hb2:=HB2.out
  rw[HPP.out] at hb2 ⊢
  exact hb2.trans (hk.below_of (fun i hi=>⟨Za,Za⟩) (by have:=(Zo9 hp2);omega))
end Go.Proofs.YtmpaflidennnoaaGreatDoor
