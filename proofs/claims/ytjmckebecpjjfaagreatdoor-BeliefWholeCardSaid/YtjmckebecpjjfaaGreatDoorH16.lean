/- The parts StepsT, StepsP, FloatZ, BelA. -/
import Derived.Test.YtjmckebecpjjfaaGreatDoorH15
set_option maxRecDepth 100000
set_option maxHeartbeats 4000000
set_option linter.unusedVariables false
set_option linter.unusedSimpArgs false
namespace Go.Proofs.YtjmckebecpjjfaaGreatDoor
open Go.RowKit Go.Shelf
attribute [local go_sem ↓] Go.wp_at_zero Go.wp_at_succ
section
variable {P:Program} {ops:Array Oper} {Q:Exit->Act->World->Prop} {md:Region.Mode} {S:World->Prop} {bar:Nat->Bool}
theorem Zf1 {i:Nat} {oi:Oper} {v:Value} (hi:ops[i]?=some oi) (hsel:Region.noSelect ops=true) (hQ:∀ c a w,Q (.panic c) (a.put oi.dst v) w->Q (.panic c) a w) (hbar:Zk0 md ops bar i) (hbi:bar i=false) :
  ∀ (fuel:Nat) (listed:Array Bool) (a:Act) (w:World),ZbG md ops listed->
   (∀ j oj,ops[j]?=some oj->j≠i->listed.getD j true=false->(∀ e ∈ oj.after,Region.binds md e=true->e.on≠i)->oi.apart ops oj=true)->
   i ∈ Region.ready md ops listed->YieldsIf P ops S oi v a->S w->
   wpJ P md ops Q S bar fuel (listed.setIfInBounds i true) (a.put oi.dst v) w->wpJ P md ops Q S bar (fuel+1) listed a w
 | 0,listed,a,w,_,_,hr,hy,hS,H=>by
  refine⟨fun h=>(by rw[h] at hr;cases hr),fun j hj=>?_⟩
  by_cases hji:j=i
  ·subst hji;exact hy.wpOp hi hS ⟨.inr hS,H⟩
  ·have:=ready_mono hj hji
   rw[H.1] at this
   cases this
 | fuel+1,listed,a,w,hcl,hfree,hr,hy,hS,H=>by
  refine⟨fun h=>(by rw[h] at hr;cases hr),fun j hj=>?_⟩
  by_cases hji:j=i
  ·subst hji;exact hy.wpOp hi hS ⟨.inr hS,H⟩
  ·have hbj:bar j=false:=by
    cases hb:bar j with
    | false=>rfl
    | true=>exact ZnA hj (Zdi hcl (mem_ready.1 hr).1 _ _ (hbar j hb hji)).2
   obtain⟨hjun,oj,hoj,hall⟩:=mem_ready.1 hj
   have hnot:∀ e ∈ oj.after,Region.binds md e=true->e.on≠i:=fun e he hb heq=>by
    have:Region.waitsFor md ops j i=true:=by
     unfold Region.waitsFor
     rw[hoj]
     exact Array.any_eq_true'.2 ⟨e,he,by simp[hb,heq]⟩
    exact ZaX hr this hj
   have h2:=wpOp_putIf hoj (hfree j oj hoj hji hjun hnot) (fun cs b=>Region.noSelect_spec hsel i oi cs b hi) (fun cs b=>Region.noSelect_spec hsel j oj cs b hoj) hQ hy (H.2 j (ready_mono hj hji))
   refine wpOp_mono (fun a' w' h3=>?_) h2
   have hS':S w':=by
    rcases h3.2.1 with h4 | h4
    ·rw[hbj] at h4;cases h4
    ·exact h4
   refine⟨.inr hS',Zf1 hi hsel hQ hbar hbi fuel (listed.setIfInBounds j true) a' w' (hcl.step hj) (fun k ok hk hki hun hno=>?_) (ready_mono hr (Ne.symm hji)) h3.1 hS' ?_⟩
   ·refine hfree k ok hk hki ?_ hno
    by_cases hjk:j=k
    ·subst hjk;exact hjun
    ·rw[getD_set_ne true hjk] at hun;exact hun
   ·rw[Array.setIfInBounds_comm _ _ hji]
    exact h3.2.2
end
section
variable {P:Program} {ops:Array Oper} {Q:Exit->Act->World->Prop} {md:Region.Mode} {S:World->Prop} {bar:Nat->Bool}
theorem Zgz {i:Nat} {oi:Oper} {v:Value} (hi:ops[i]?=some oi) (hsel:Region.noSelect ops=true) (hQ:∀ c a w,Q (.panic c) (a.put oi.dst v) w->Q (.panic c) a w) (hbi:bar i=true) :
  ∀ (fuel:Nat) (listed:Array Bool) (a:Act) (w:World),
   (∀ j oj,ops[j]?=some oj->j≠i->listed.getD j true=false->(∀ e ∈ oj.after,Region.binds md e=true->e.on≠i)->oi.apart ops oj=true)->
   i ∈ Region.ready md ops listed->YieldsIf P ops (fun _=>True) oi v a->
   wpJ P md ops Q S bar fuel (listed.setIfInBounds i true) (a.put oi.dst v) w->wpJ P md ops Q S bar (fuel+1) listed a w
 | 0,listed,a,w,_,hr,hy,H=>by
  refine⟨fun h=>(by rw[h] at hr;cases hr),fun j hj=>?_⟩
  by_cases hji:j=i
  ·subst hji;exact hy.wpOp hi trivial ⟨.inl hbi,H⟩
  ·have:=ready_mono hj hji
   rw[H.1] at this
   cases this
 | fuel+1,listed,a,w,hfree,hr,hy,H=>by
  refine⟨fun h=>(by rw[h] at hr;cases hr),fun j hj=>?_⟩
  by_cases hji:j=i
  ·subst hji;exact hy.wpOp hi trivial ⟨.inl hbi,H⟩
  ·obtain⟨hjun,oj,hoj,hall⟩:=mem_ready.1 hj
   have hnot:∀ e ∈ oj.after,Region.binds md e=true->e.on≠i:=fun e he hb heq=>by
    have:Region.waitsFor md ops j i=true:=by
     unfold Region.waitsFor
     rw[hoj]
     exact Array.any_eq_true'.2 ⟨e,he,by simp[hb,heq]⟩
    exact ZaX hr this hj
   have h2:=wpOp_putIf hoj (hfree j oj hoj hji hjun hnot) (fun cs b=>Region.noSelect_spec hsel i oi cs b hi) (fun cs b=>Region.noSelect_spec hsel j oj cs b hoj) hQ hy (H.2 j (ready_mono hj hji))
   refine wpOp_mono (fun a' w' h3=>?_) h2
   refine⟨h3.2.1,Zgz hi hsel hQ hbi fuel (listed.setIfInBounds j true) a' w' (fun k ok hk hki hun hno=>?_) (ready_mono hr (Ne.symm hji)) h3.1 ?_⟩
   ·refine hfree k ok hk hki ?_ hno
    by_cases hjk:j=k
    ·subst hjk;exact hjun
    ·rw[getD_set_ne true hjk] at hun;exact hun
   ·rw[Array.setIfInBounds_comm _ _ hji]
    exact h3.2.2
def Zau (P:Program) (ops:Array Oper) (Q:Exit->Act->World->Prop) (S:World->Prop) (bar:Nat->Bool):List (Nat×Nat)->Act->World->Prop
 | [],a,w=>Q .normal a w
 | (0,i)::ks,a,w=>∃ o,ops[i]?=some o/\(if Region.wanted o (yielded ops a.tmps) then o.wp P a w (fun a' w'=>(bar i=true\/S w')/\Zau P ops Q S bar ks a' w') Q
   else (bar i=true\/S w)/\Zau P ops Q S bar ks (a.put o.dst undef) w)
 | (1,i)::ks,a,w=>∃ o v,ops[i]?=some o/\YieldsIf P ops S o v a/\Zau P ops Q S bar ks (a.put o.dst v) w
 | (_+2,i)::ks,a,w=>∃ o v,ops[i]?=some o/\YieldsIf P ops (fun _=>True) o v a/\Zau P ops Q S bar ks (a.put o.dst v) w
def ZbW (md:Region.Mode) (ops:Array Oper) (bar:Nat->Bool):List (Nat×Nat)->Array Bool->Bool
 | [],listed=>decide (Region.ready md ops listed=[])
 | (0,k)::ks,listed=>decide (Region.ready md ops listed=[k]) && (!bar k || ks.all fun b=>b.1 !=1) && ZbW md ops bar ks (listed.setIfInBounds k true)
 | (1,k)::ks,listed=>(Region.ready md ops listed).contains k && Region.free md ops listed k && !bar k && ((List.range ops.size).all fun j=>!bar j || decide (j=k) || Zd7 md ops ops.size j k) && ZbW md ops bar ks (listed.setIfInBounds k true)
 | (_+2,k)::ks,listed=>(Region.ready md ops listed).contains k && Region.free md ops listed k && bar k && ZbW md ops bar ks (listed.setIfInBounds k true)
theorem Zbo (hsel:Region.noSelect ops=true) (hQ:∀ c a o v w,Q (.panic c) (a.put o v) w->Q (.panic c) a w) (hbo:∀ j,ops.size<=j->bar j=false) :
  ∀ (ks:List (Nat×Nat)) (listed:Array Bool) (a:Act) (w:World),ZbW md ops bar ks listed=true->ZbG md ops listed->
   (S w\/ks.all (fun b=>b.1 !=1)=true)->Zau P ops Q S bar ks a w->wpJ P md ops Q S bar ks.length listed a w
 | [],listed,a,w,hB,_,_,h=>⟨of_decide_eq_true hB,h⟩
 | (1,k)::ks,listed,a,w,hB,hC,hS,h=>by
  simp only[ZbW,Znw] at hB
  obtain⟨⟨⟨⟨hr,hf⟩,hbk⟩,hw⟩,hB'⟩:=hB
  have hSw:S w:=by
   rcases hS with hS | hS
   ·exact hS
   ·simp at hS
  obtain⟨o,v,h0,hy,hrest⟩:=h
  have hbk':bar k=false:=by simpa using hbk
  have hwait:Zk0 md ops bar k:=fun j hj hne=>by
   have hjl:j<ops.size:=by
    rcases Zm4 j ops.size with h' | h'
    ·exact h'
    ·rw[hbo j h'] at hj;cases hj
   rw[Znz] at hw
   have:=hw j (List.mem_range.2 hjl)
   rw[hj] at this
   simpa[hne] using this
  have ih:=Zbo hsel hQ hbo ks (listed.setIfInBounds k true) (a.put o.dst v) w hB' (hC.step (by simpa using hr)) (.inl hSw) hrest
  rw[Zny]
  exact Zf1 h0 hsel (fun c a w=>hQ c a o.dst v w) hwait hbk' ks.length listed a w hC (Region.free_spec h0 hf) (by simpa using hr) hy hSw ih
 | (n+2,k)::ks,listed,a,w,hB,hC,hS,h=>by
  simp only[ZbW,Znw] at hB
  obtain⟨⟨⟨hr,hf⟩,hbk⟩,hB'⟩:=hB
  obtain⟨o,v,h0,hy,hrest⟩:=h
  have ih:=Zbo hsel hQ hbo ks (listed.setIfInBounds k true) (a.put o.dst v) w hB' (hC.step (by simpa using hr)) (by
   rcases hS with hS | hS
   ·exact .inl hS
   ·exact .inr (by simp only[List.all_cons,Znw] at hS;exact hS.2)) hrest
  rw[Zny]
  exact Zgz h0 hsel (fun c a w=>hQ c a o.dst v w) hbk ks.length listed a w (Region.free_spec h0 hf) (by simpa using hr) hy ih
 | (0,k)::ks,listed,a,w,hB,hC,hS,h=>by
  simp only[ZbW,Znw,Znx] at hB
  obtain⟨⟨hr,hbk⟩,hB'⟩:=hB
  obtain⟨o,h0,h⟩:=h
  refine⟨fun h1=>(by rw[hr] at h1;cases h1),fun i hi=>?_⟩
  rw[hr] at hi
  obtain rfl:i=k:=by simpa using hi
  have ih:=fun a' w' (hs:bar i=true\/S w') h'=>Zbo hsel hQ hbo ks (listed.setIfInBounds i true) a' w' hB' (hC.step (by rw[hr];simp)) (by
   rcases hs with hs | hs
   ·rw[hs] at hbk
    exact .inr (by simpa using hbk)
   ·exact .inl hs) h'
  unfold wpOp
  simp only[h0]
  split at h
  ·rename_i hw;simp only[hw,if_true];exact .inl (Oper.wp_mono (fun a' w' h'=>⟨h'.1,ih a' w' h'.1 h'.2⟩) h)
  ·rename_i hw;simp only[hw];exact⟨h.1,ih _ _ h.1 h.2⟩
def Zdx (l:List Oper) (ks:List (Nat×Nat)) (bar:Nat->Bool):Bool:=
 Region.noSelect l.toArray && decide (ks.length=l.length) && ZbW .any l.toArray bar ks (Array.replicate l.toArray.size false)
theorem ZB {id:Nat} {a:Act} {w:World} {l:List Oper} (ks:List (Nat×Nat)) (S:World->Prop) (bar:Nat->Bool) (hm:P.follows .mixedOrders=true)
  (hB:Zdx l ks bar=true) (hbo:∀ j,l.length<=j->bar j=false) (hQ:∀ c a o v w,Q (.panic c) (a.put o v) w->Q (.panic c) a w) (hS:S w.drew)
  (H:Zau P l.toArray Q S bar ks a w.drew):(Code.region id l.toArray true).wp P Q a w:=by
 simp only[Zdx,Znw,Znx] at hB
 obtain⟨⟨hsel,hn⟩,hm2⟩:=hB
 have:=ZbZ _ _ _ _ (Zbo hsel hQ (fun j hj=>hbo j (by simpa using hj)) ks _ a w.drew hm2 ZbG.start (.inl hS) H)
 rw[hn] at this
 exact wp_region_any hm (by simpa using this)
theorem Zr {i:Nat} {o:Oper} {ks:List (Nat×Nat)} {a:Act} {w:World} (v:Value) (ho:ops[i]?=some o) (hw:Region.wanted o (yielded ops a.tmps)=true) (hv:∀ w,S w->(execOp a.eval o).run P w=.ok (.value v) w)
  (h:Zau P ops Q S bar ks (a.put o.dst v) w):Zau P ops Q S bar ((1,i)::ks) a w:=⟨o,v,ho,.inl ⟨hw,hv⟩,h⟩
theorem ZR {i:Nat} {o:Oper} {ks:List (Nat×Nat)} {a:Act} {w:World} (ho:ops[i]?=some o) (hw:Region.wanted o (yielded ops a.tmps)=true)
  (h:∀ K:Act->World->Prop,(∀ a' w',(bar i=true\/S w')->Zau P ops Q S bar ks a' w'->K a' w')->o.wp P a w K Q):Zau P ops Q S bar ((0,i)::ks) a w:=by
 refine⟨o,ho,?_⟩
 rw[if_pos hw]
 exact h _ fun _ _ h1 h2=>⟨h1,h2⟩
theorem Zam {i:Nat} {o:Oper} {ks:List (Nat×Nat)} {a:Act} {w:World} (ho:ops[i]?=some o) (hw:Region.wanted o (yielded ops a.tmps)=false)
  (h:Zau P ops Q S bar ks (a.put o.dst undef) w):Zau P ops Q S bar ((1,i)::ks) a w:=⟨o,undef,ho,.inr ⟨hw,rfl⟩,h⟩
theorem Zax {i:Nat} {o:Oper} {ks:List (Nat×Nat)} {a:Act} {w:World} (ho:ops[i]?=some o) (hw:Region.wanted o (yielded ops a.tmps)=false) (hS:bar i=true\/S w)
  (h:Zau P ops Q S bar ks (a.put o.dst undef) w):Zau P ops Q S bar ((0,i)::ks) a w:=by
 refine⟨o,ho,?_⟩
 rw[if_neg (by rw[hw];exact Bool.false_ne_true)]
 exact⟨hS,h⟩
theorem ZD {a:Act} {w:World} (h:Q .normal a w):Zau P ops Q S bar [] a w:=h
end
section
variable {P:Program} {ops:Array Oper} {Q:Exit->Act->World->Prop} {md:Region.Mode} {ι:Type} {S:ι->Option Nat->World->Prop} {bar:Nat->Bool}
theorem Zt {S:World->Prop} {i:Nat} {o:Oper} {ks:List (Nat×Nat)} {a:Act} {w:World} (f:FuncId) (args:Array Value) (ho:ops[i]?=some o) (hw:Region.wanted o (yielded ops a.tmps)=true)
  (he:(execOp a.eval o).run P w=.ok (.enter f args) w)
  (h:Calls P f args w fun e w'=>(∃ v,e=.returned v/\S w'/\Zau P ops Q S bar ks (a.put o.dst v) w')\/∃ c,e=.panicked c/\Q (.panic c) a w') :
  Zau P ops Q S bar ((0,i)::ks) a w:=by
 refine⟨o,ho,?_⟩
 rw[if_pos hw]
 unfold Oper.wp
 rw[he,Oper.upon_enter]
 refine h.mono fun e w' h=>?_
 rcases h with ⟨v,rfl,h1,h2⟩ | ⟨c,rfl,h1⟩
 ·exact⟨.inr h1,h2⟩
 ·exact h1
end
theorem Zd1:Tryz.prog.underlying 159=some (.map 118 39):=Tryz.underlying159
abbrev NotM (m:Nat):Nat->Prop:=fun b=>b≠m
def ZkI (r:Except Int Fl) (m:Nat) (w:World) (e:Ending) (w':World):Prop:=
 ((∃ f,r=.ok f/\e=.returned (.tuple #[])/\FMap w' m f)\/(∃ n,r=.error n/\n≠0/\e=ZbH n))/\Keeps (NotM m) w w'
theorem Zgc {m:Nat} {f:Fl} {p:Pl} {q:Rat} {s t:ByteArray} {w:World} (h:FMap w m f) (hp:PlB p) (hq:IsP q s t) (hT:Tabs w) (hZ:BelZ w) :
  Calls Tryz.prog 93 #[.map (some m),kPl p,pV s t] w (ZkI (addF f p q) m w):=by
 have HF:=ZnK h
 have HP:=ZnK hp
 have HQ:=ZnK hq
 have HT:=ZnK hT
 have HZ:=ZnK hZ
 obtain⟨⟨a,b,c⟩,hpp⟩:∃ z,p=z:=⟨_,rfl⟩
 subst hpp
 have HE1:Hid (Env w.heap.size w [(w.heap.size+1,pObj s t),(w.heap.size,plO (a,b,c))] [] ((w.alloc (plO (a,b,c))).alloc (pObj s t))):=((Env.start w).push _ rfl).push _ Zc
 obtain⟨w1,hw1⟩:=ZnM ((w.alloc (plO (a,b,c))).alloc (pObj s t))
 have HLK:=ZnK (h.look hp Zd1)
 rw[hw1] at HE1
 have hbm:w1.heap[m]?=w.heap[m]?:=HE1.out.base.block m h.lt
 have x0:=HE1.out.cell 1 0 (v:=.int .i64 a) rfl rfl
 have x1:=HE1.out.cell 1 1 (v:=.int .i64 b) rfl rfl
 have x2:=HE1.out.cell 1 2 (v:=.int .i64 c) rfl rfl
 have HBM:=ZnK (h.lt)
 rcases HLK.out with ⟨hin,x,y,hxy,hrun⟩ | ⟨hno,hz0,hrun⟩
 ·have hlook:=hrun w1 hbm true
  have HX:=ZnK hxy
  have HE2:=ZnK (HE1.out.push (pObj x y) rfl)
  clear hxy hrun hin hbm HLK h hp hq hT hZ
  go_enter Tryz.func93,Tryz.ntmps93
  go_wp2_with fail
  obtain⟨g,hg⟩:=ZnM w1.heap.size
  rw[hg] at HE2 ⊢
  obtain⟨W,hW⟩:=ZnM (w1.alloc (pObj x y))
  rw[hW] at HE2 ⊢
  clear hg hW hlook x0 x1 x2 hw1
  refine ZB [(1,0),(1,1),(1,2),(1,3),(0,4),(1,5),(1,6),(0,7),(0,8)] (Env w.heap.size w [(g,pObj x y),(w.heap.size+1,pObj s t),(w.heap.size,plO (a,b,c))] []) (fun i=>i==8)
   Zb Zb (fun j hj=>by have h:9<=j:=hj;simp;omega) Zi HE2.out.drew ?_
  obtain⟨w4,hw4⟩:=ZnM W.drew
  have HE4:Hid (Env w.heap.size w [(g,pObj x y),(w.heap.size+1,pObj s t),(w.heap.size,plO (a,b,c))] [] w4):=by rw[<- hw4];exact HE2.out.drew
  rw[hw4]
  clear hw4 HE2
  have HL1:=ZnK HX.out.limit
  have HL2:=ZnK HQ.out.limit
  iterate 4
   refine Zr _ rfl rfl (fun w' hS=>by have c0:=hS.cell 0 0 (v:=.string x) rfl rfl;have c1:=hS.cell 0 1 (v:=.string y) rfl rfl;have d0:=hS.cell 1 0 (v:=.string s) rfl rfl;have d1:=hS.cell 1 1 (v:=.string t) rfl rfl;have e0:=hS.cell 2 0 (v:=.int .i64 a) rfl rfl;have e1:=hS.cell 2 1 (v:=.int .i64 b) rfl rfl;have e2:=hS.cell 2 2 (v:=.int .i64 c) rfl rfl;exact Ze) ?_
   simp only[Act.put,Zl]
  refine Zt 23 _ rfl rfl Zf ?_
  have HEC:=HE4
  refine(Zdf x y s t _ HL1.out.1 HL1.out.2 HL2.out.1 HL2.out.2 (HT.out.below HEC.out.base ZnL)).mono ?_
  rintro e w5 ⟨x',y',n,rfl,hR,hb⟩
  have HE5:=ZnK (HEC.out.step hb)
  refine .inl ⟨_,rfl,HE5.out,?_⟩
  clear hb HEC
  simp only[Act.put,Zl]
  have HA:Hid (Ans (fget f (a,b,c)+q) x' y' n):=by
   have h1:=hR.both HX.out.ok HQ.out.ok
   rwa [HX.out.rat,HQ.out.rat] at h1
  clear hR
  iterate 2
   refine Zr _ rfl rfl (fun w' hS=>Ze) ?_
   simp only[Act.put,Zl]
  refine Zt 57 _ rfl rfl Zf ?_
  refine(Za8 x' y' n _).mono ?_
  rintro e w6 ⟨hE,hb⟩
  have HE6:=ZnK (HE5.out.step hb)
  clear hb HE5 HE4
  have HM6:Hid (FMap w6 m f):=HF.out.stay (HE6.out.base.block m HBM.out)
  rcases hE with ⟨hn,rfl⟩ | ⟨hn,rfl⟩
  ·have HI:=ZnK (HA.out.zero hn)
   have HR:Hid (addF f (a,b,c) q=.ok (fset f (a,b,c) (fget f (a,b,c)+q))):=by
    show _=_
    unfold addF
    rw[if_pos HI.out.fits]
   refine .inl ⟨_,rfl,HE6.out,?_⟩
   clear hn HA
   simp only[Act.put,Zl]
   obtain⟨w7,hput,hm7,hk7⟩:=HM6.out.put HP.out Zd1 HI.out
   have HM7:=ZnK hm7
   have HK7:Hid (Keeps (NotM m) w w7):=(HE6.out.base.keepsS _).trans hk7
   refine ZR rfl rfl fun K hK=>?_
   go_simp
   refine hK _ _ (.inl rfl) ?_
   clear hK K hput hm7 hk7
   refine ZD ?_
   go_wp2
   refine ZmZ (results_none rfl _ _ _) rfl ⟨.inl ⟨_,HR.out,rfl,HM7.out⟩,HK7.out⟩
  ·refine .inr ⟨_,rfl,?_⟩
   have HR:Hid (addF f (a,b,c) q=.error 4/\n=4):=by
    rcases HA.out with ⟨_,h⟩ | ⟨h,_,_,h2⟩
    ·exact ZnA h hn
    ·exact⟨by unfold addF;rw[if_neg h],h2⟩
   exact⟨rfl,.inr ⟨n,by rw[HR.out.1,HR.out.2],hn,rfl⟩,HE6.out.base.keepsS _⟩
 ·have hlook:=hrun w1 hbm true
  have HX:Hid (IsP (fget f (a,b,c)) ⟨#[48]⟩ ⟨#[49]⟩):=by rw[hz0];exact Za1
  have HE2:=ZnK (HE1.out.push (pObj ⟨#[48]⟩ ⟨#[49]⟩) rfl)
  have hzz:=HZ.out.below (HE1.out.base.alloc HE1.out.own (pObj ZnG ZnG)) ZnL
  have z0:=hzz.z0
  have z1:=hzz.z1
  clear hz0 hrun hno hbm HLK h hp hq hT hZ hzz
  go_enter Tryz.func93,Tryz.ntmps93
  go_wp2_with fail
  obtain⟨g,hg⟩:=ZnM w1.heap.size
  rw[hg] at HE2 ⊢
  obtain⟨W,hW⟩:=ZnM (w1.alloc (pObj ⟨#[48]⟩ ⟨#[49]⟩))
  rw[hW] at HE2 ⊢
  clear hg hW hlook x0 x1 x2 hw1 z0 z1
  obtain⟨x,hx⟩:∃ z:ByteArray,⟨#[48]⟩=z:=⟨_,rfl⟩
  obtain⟨y,hy⟩:∃ z:ByteArray,⟨#[49]⟩=z:=⟨_,rfl⟩
  rw[hx,hy] at HX HE2 ⊢
  clear hx hy
  refine ZB [(1,0),(1,1),(1,2),(1,3),(0,4),(1,5),(1,6),(0,7),(0,8)] (Env w.heap.size w [(g,pObj x y),(w.heap.size+1,pObj s t),(w.heap.size,plO (a,b,c))] []) (fun i=>i==8)
   Zb Zb (fun j hj=>by have h:9<=j:=hj;simp;omega) Zi HE2.out.drew ?_
  obtain⟨w4,hw4⟩:=ZnM W.drew
  have HE4:Hid (Env w.heap.size w [(g,pObj x y),(w.heap.size+1,pObj s t),(w.heap.size,plO (a,b,c))] [] w4):=by rw[<- hw4];exact HE2.out.drew
  rw[hw4]
  clear hw4 HE2
  have HL1:=ZnK HX.out.limit
  have HL2:=ZnK HQ.out.limit
  iterate 4
   refine Zr _ rfl rfl (fun w' hS=>by have c0:=hS.cell 0 0 (v:=.string x) rfl rfl;have c1:=hS.cell 0 1 (v:=.string y) rfl rfl;have d0:=hS.cell 1 0 (v:=.string s) rfl rfl;have d1:=hS.cell 1 1 (v:=.string t) rfl rfl;have e0:=hS.cell 2 0 (v:=.int .i64 a) rfl rfl;have e1:=hS.cell 2 1 (v:=.int .i64 b) rfl rfl;have e2:=hS.cell 2 2 (v:=.int .i64 c) rfl rfl;exact Ze) ?_
   simp only[Act.put,Zl]
  refine Zt 23 _ rfl rfl Zf ?_
  have HEC:=HE4
  refine(Zdf x y s t _ HL1.out.1 HL1.out.2 HL2.out.1 HL2.out.2 (HT.out.below HEC.out.base ZnL)).mono ?_
  rintro e w5 ⟨x',y',n,rfl,hR,hb⟩
  have HE5:=ZnK (HEC.out.step hb)
  refine .inl ⟨_,rfl,HE5.out,?_⟩
  clear hb HEC
  simp only[Act.put,Zl]
  have HA:Hid (Ans (fget f (a,b,c)+q) x' y' n):=by
   have h1:=hR.both HX.out.ok HQ.out.ok
   rwa [HX.out.rat,HQ.out.rat] at h1
  clear hR
  iterate 2
   refine Zr _ rfl rfl (fun w' hS=>Ze) ?_
   simp only[Act.put,Zl]
  refine Zt 57 _ rfl rfl Zf ?_
  refine(Za8 x' y' n _).mono ?_
  rintro e w6 ⟨hE,hb⟩
  have HE6:=ZnK (HE5.out.step hb)
  clear hb HE5 HE4
  have HM6:Hid (FMap w6 m f):=HF.out.stay (HE6.out.base.block m HBM.out)
  rcases hE with ⟨hn,rfl⟩ | ⟨hn,rfl⟩
  ·have HI:=ZnK (HA.out.zero hn)
   have HR:Hid (addF f (a,b,c) q=.ok (fset f (a,b,c) (fget f (a,b,c)+q))):=by
    show _=_
    unfold addF
    rw[if_pos HI.out.fits]
   refine .inl ⟨_,rfl,HE6.out,?_⟩
   clear hn HA
   simp only[Act.put,Zl]
   obtain⟨w7,hput,hm7,hk7⟩:=HM6.out.put HP.out Zd1 HI.out
   have HM7:=ZnK hm7
   have HK7:Hid (Keeps (NotM m) w w7):=(HE6.out.base.keepsS _).trans hk7
   refine ZR rfl rfl fun K hK=>?_
   go_simp
   refine hK _ _ (.inl rfl) ?_
   clear hK K hput hm7 hk7
   refine ZD ?_
   go_wp2
   refine ZmZ (results_none rfl _ _ _) rfl ⟨.inl ⟨_,HR.out,rfl,HM7.out⟩,HK7.out⟩
  ·refine .inr ⟨_,rfl,?_⟩
   have HR:Hid (addF f (a,b,c) q=.error 4/\n=4):=by
    rcases HA.out with ⟨_,h⟩ | ⟨h,_,_,h2⟩
    ·exact ZnA h hn
    ·exact⟨by unfold addF;rw[if_neg h],h2⟩
   exact⟨rfl,.inr ⟨n,by rw[HR.out.1,HR.out.2],hn,rfl⟩,HE6.out.base.keepsS _⟩
end Go.Proofs.YtjmckebecpjjfaaGreatDoor
