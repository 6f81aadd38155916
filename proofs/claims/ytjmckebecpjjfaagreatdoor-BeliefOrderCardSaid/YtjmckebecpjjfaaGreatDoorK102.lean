/- The parts BelMO, GStepsR. -/
import Derived.Test.YtjmckebecpjjfaaGreatDoorK101
set_option maxRecDepth 100000
set_option linter.unusedVariables false
set_option linter.unusedSimpArgs false
namespace Go.Proofs.YtjmckebecpjjfaaGreatDoor
open Go.RowKit Go.Shelf Go.ChangeMaps Go.MapKept Go.ChangeShapes Go.WideShapes
open Go.WideElems (Fit rd rg rg_of rd_key rd_val)
theorem Zpq:(120:TypeId)<Tryz.prog.types.size:=of_decide_eq_true Zb
theorem ZoY:(match Tryz.prog.underlying 120 with | some (.array _ _) | some (.struct _)=>true | _=>false)=true:=by rw[Tryz.underlying120]
theorem Zo1:Tryz.prog.keyTypeAt 4 120=true:=Zb
theorem ZeQ:Maps.Keyed Tryz.prog 120:=Maps.Keyed.of_law (deep_law_laid ZhK (m:=4) Za Zpq Zo1 ZoY)
theorem Zls:Tryz.prog.keyType 120=true:=Zb
theorem ZjL:Tryz.prog.cellsOf 120=4:=Zb
theorem Zng:Tryz.prog.cellsOf 118=3:=Zb
theorem Zlh {z:Mo} (h:MoB z):∃ kl,keyOf Tryz.prog 120 (kMo z.1 z.2)=some kl:=by
 have w0:=Zbo (i:=(z.1:Int)) ⟨Za,by have:=h.1;omega⟩
 have w1:=Zbo h.2.i64.1
 have w2:=Zbo h.2.i64.2.1
 have w3:=Zbo h.2.i64.2.2
 obtain⟨m,hm⟩:∃ m,Tryz.prog.types.size=m+1+1+1:=⟨Tryz.prog.types.size-3,by have h:3<=Tryz.prog.types.size:=of_decide_eq_true Zb;omega⟩
 have hf:(kMo z.1 z.2).formed Tryz.prog 120=true:=by simp[Value.formed,Tryz.underlying120,ZjL]
 unfold keyOf
 rw[Tryz.underlying120]
 simp only[Zls,hf,Bool.and_self,if_true,hm,Value.cells]
 simp[Program.keyLits,Tryz.underlying120,Tryz.underlying118,Tryz.underlying53,Tryz.underlying3,ZjL,Zng,ZcX,Zdt,List.range,List.range.loop,w0,w1,w2,w3]
 iterate 3
  try rw[if_pos (by intro i hi;rcases i with _ | _ | _ | i<;>first | omega | (simp;done))]
 all_goals try simp
theorem ZhX:Tryz.prog.underlying 124=some (.map 120 39):=Tryz.underlying124
def Zcr (w:World) (m:Nat) (K:Kl):Prop:=
 (∃ es clock,w.heap[m]?=some (.map es clock)/\Fit Tryz.prog 120 noR es clock/\(∀ e ∈ es.toList,∃ z ∈ K,e.key=kMo z.1.1 z.1.2/\∃ s t,e.val=pV s t/\IsP z.2 s t)/\∀ z ∈ K,∃ e ∈ es.toList,e.key=kMo z.1.1 z.1.2)/\
 (K.map Prod.fst).Nodup/\∀ z ∈ K,MoB z.1
theorem Zja {w:World} {m:Nat} {K:Kl} (h:Zcr w m K):m<w.heap.size:=by
 obtain⟨⟨es,clock,h1,_⟩,_⟩:=h
 exact(ZqC h1)
theorem Zh4 {w w':World} {m:Nat} {K:Kl} (h:Zcr w m K) (hw:w'.heap[m]?=w.heap[m]?):Zcr w' m K:=by
 obtain⟨⟨es,clock,h1,h2⟩,h3⟩:=h
 exact⟨⟨es,clock,hw.trans h1,h2⟩,h3⟩
theorem Zem {w w':World} {m:Nat} {K:Kl} (h:Zcr w m K) (hb:Below w.heap.size w w'):Zcr w' m K:=Zh4 h (hb.block m (Zja h))
theorem ZoQ (w:World):Zcr (w.alloc (.map #[] 0)) w.heap.size []:=
 ⟨⟨#[],0,(MapKept.heap_alloc w _).1,⟨Zc,stamped_empty 0,Zc⟩,Zc,Zc⟩,List.nodup_nil,Zc⟩
theorem ZoM {w:World} {m:Nat} {K:Kl} (h:Zcr w m K) {es:Array MapEntry} {clock:Nat} (he:w.heap[m]?=some (.map es clock)):es.size=K.length/\K.length<=17436936:=by
 obtain⟨⟨es',clock',h1,F,h2,h3⟩,h4,h5⟩:=h
 rw[he] at h1
 cases h1
 have hnd:(es.toList.map MapEntry.key).Nodup:=by
  rw[List.nodup_iff_pairwise_ne,List.pairwise_map]
  exact((stamped_iff es clock).1 F.stamped).2.2
 refine⟨?_,ZmD h4 h5⟩
 have a1:es.toList.length<=K.length:=by
  have:=ZeB hnd (K:=K.map fun z=>kMo z.1.1 z.1.2) fun v hv=>by
   obtain⟨e,he,rfl⟩:=List.mem_map.1 hv
   obtain⟨z,hz,hk,_⟩:=h2 e he
   exact List.mem_map.2 ⟨z,hz,hk.symm⟩
  simpa using this
 have a2:K.length<=es.toList.length:=by
  have:=ZeB (l:=K.map fun z=>kMo z.1.1 z.1.2) (K:=es.toList.map MapEntry.key) (by
   have:K.map (fun z=>kMo z.1.1 z.1.2)=(K.map Prod.fst).map fun z=>kMo z.1 z.2:=by rw[List.map_map];rfl
   rw[this]
   exact Znv (fun a c e=>Zh6 e) h4) fun v hv=>by
   obtain⟨z,hz,rfl⟩:=List.mem_map.1 hv
   obtain⟨e,he,hk⟩:=h3 z hz
   exact List.mem_map.2 ⟨e,he,hk⟩
  simpa using this
 rw[<- Array.length_toList]
 omega
def ZpK (K:Kl) (k:Mo) (T:TypeId) (m:Nat) (w:World):Prop:=
 (∃ q s t,(k,q) ∈ K/\IsP q s t/\∀ w',w'.heap[m]?=w.heap[m]?->∀ c:Bool,(Instr.lookup T (.map (some m)) (kMo k.1 k.2) c).run Tryz.prog w'=.ok (if c then .tuple #[pV s t,.bool true] else pV s t) w')\/
 ((∀ z ∈ K,z.1≠k)/\∀ w',w'.heap[m]?=w.heap[m]?->∀ c:Bool,(Instr.lookup T (.map (some m)) (kMo k.1 k.2) c).run Tryz.prog w'=.ok (if c then .tuple #[pV ZqD ZqD,.bool false] else pV ZqD ZqD) w')
theorem Zo7 {w:World} {m:Nat} {K:Kl} (h:Zcr w m K) {k:Mo} (hp:MoB k):ZpK K k 124 m w:=by
 obtain⟨⟨es,clock,hb,F,h1,h2⟩,h3,h4⟩:=h
 obtain⟨kl,hkl⟩:=Zlh hp
 by_cases hex:∃ z ∈ K,z.1=k
 ·obtain⟨z,hz,rfl⟩:=hex
  obtain⟨e,he,hek⟩:=h2 z hz
  obtain⟨z',hz',hk',s,t,hv,his⟩:=h1 e he
  have e1:z'.1=z.1:=Zh6 (hk'.symm.trans hek)
  refine .inl ⟨z'.2,s,t,by rw[<- e1];exact hz',his,fun w' hw c=>?_⟩
  rcases Maps.fit_look c ZeQ ZhX (ZcI w') (hw.trans hb) F hkl with ⟨_,hno,_⟩ | ⟨e0,y0,hm0,h5,hrun,_⟩
  ·exact Zqx hek (hno e he)
  ·have e3:e0=e:=entry_eq_of_key ((stamped_iff es clock).1 F.stamped).2.2 hm0 he (h5.trans hek.symm)
   rw[e3,hv] at hrun
   exact hrun
 ·refine .inr ⟨fun z hz e=>hex ⟨z,hz,e⟩,fun w' hw c=>?_⟩
  rcases Maps.fit_look c ZeQ ZhX (ZcI w') (hw.trans hb) F hkl with ⟨hrun,_⟩ | ⟨e0,y0,hm0,h5,_⟩
  ·exact hrun
  ·obtain⟨z,hz,hk,_⟩:=h1 e0 hm0
   exact Zqx ⟨z,hz,Zh6 (hk.symm.trans h5)⟩ hex
theorem ZmZ {w:World} {m:Nat} {K:Kl} (h:Zcr w m K) {k:Mo} (hp:MoB k) {q:Rat} {s t:ByteArray} (hq:IsP q s t) :
  ∃ w2,(Instr.mapUpdate 124 (.map (some m)) (kMo k.1 k.2) (pV s t)).run Tryz.prog w=.ok () w2/\Zcr w2 m (kset K k q)/\Keeps (fun b=>b≠m) w w2:=by
 have hsz:=h
 obtain⟨⟨es,clock,hb,F,h1,h2⟩,h3,h4⟩:=h
 obtain⟨z1,z2⟩:=ZoM hsz hb
 obtain⟨kl,hkl⟩:=Zlh hp
 obtain⟨es',clock',hrun,F',hput,_,_,hwho⟩:=Maps.fit_store (R':=noR) (val:=pV s t) ZeQ ZhX hb F (by unfold maxLen;omega) (fun _ _ _ _ hz=>hz) hkl (yv:=(.nil,[])) rfl
 obtain⟨k1,k2⟩:=Zew ZeQ F F' hkl hput
 refine⟨_,hrun,⟨⟨es',clock',heap_setBlock_same hb _,F',fun e he=>?_,fun z hz=>?_⟩,Zl6 h3,fun z hz=>?_⟩,⟨rfl,rfl,rfl,by simp[setBlock],fun k _ hk=>heap_setBlock_other hb _ hk⟩⟩
 ·rcases hwho e he with ⟨g1,g2⟩ | ⟨g1,g2⟩
  ·obtain⟨z,hz,g3,g4⟩:=h1 e g1
   exact⟨z,Zc4.2 (.inr ⟨hz,fun e5=>g2 (by rw[g3,e5])⟩),g3,g4⟩
  ·exact⟨(k,q),Zc4.2 (.inl rfl),g1,s,t,g2,hq⟩
 ·rcases Zc4.1 hz with rfl | ⟨hz,_⟩
  ·exact k1
  ·obtain⟨e,he,hek⟩:=h2 z hz
   obtain⟨e',he',hk'⟩:=k2 e he
   exact⟨e',he',hk'.trans hek⟩
 ·rcases Zc4.1 hz with rfl | ⟨hz,_⟩
  ·exact hp
  ·exact h4 z hz
end Go.Proofs.YtjmckebecpjjfaaGreatDoor
namespace Go.Proofs.YtjmckebecpjjfaaGreatDoor
open Go.RowKit
section
variable {P:Program} {Q:Exit->Act->World->Prop} {ι:Type} {S:ι->Option Nat->World->Prop} {bar:Nat->Bool} {ln n:Nat}
theorem Zjh {id:Nat} {a:Act} {w:World} {l:List Oper} (fl d:Nat) (tl:List (Nat×Nat)) (ks:List (Nat×Nat)) (S:ι->Option Nat->World->Prop) (j0:ι) (bar:Nat->Bool) {of:Oper} {ob:Obj} (hm:P.follows .mixedOrders=true)
  (hB:ZeZ l fl d tl ks bar=true) (hdr:ZhA l=true) (hno:¬ LetsOut Q) (hbo:∀ j,l.length<=j->bar j=false) (hQ:∀ c a o v w,Q (.panic c) (a.put o v) w->Q (.panic c) a w) (hof:l.toArray[fl]?=some of) (hd:of.dst=some d) (hwf:∀ a:Act,Region.wanted of (yielded l.toArray a.tmps)=true)
  (hal:∀ (a:Act) (w:World) (K:Act->World->Prop),K (a.put of.dst (.pointer (some ⟨w.heap.size,0,none⟩))) (w.alloc ob)->of.wp P a w K Q) (hst:∀ j w,S j none w->S j (some w.heap.size) (w.alloc ob)) (hS:S j0 none w.drew)
  (H:Zbk P l.toArray Q S bar d tl ks j0 a):(Code.region id l.toArray true).wpIn (Fence.wide.inRound ln) n P Q a w:=by
 simp only[ZeZ,Zqt,Zqu] at hB
 obtain⟨⟨⟨⟨hsel,hn⟩,hb⟩,hs⟩,hk⟩:=hB
 have:=Zd7 (l:=ln) (n:=n) hno (fun i o ho=>Zgm hdr ho) _ _ _ _ (ZbN _ _ _ _ (Zbp (md:=.any) hsel hQ (fun j hj=>hbo j (by simpa using hj)) hof hd hwf hal hst hs ks _ j0 a (a.tmps.getD d undef) w.drew hk hb ZbH.start hS H))
 rw[hn,Zfn] at this
 exact wpIn_region_any hm (by simpa using this)
end
def ZpI (P:Program) (fn:Func) (B:Nat) (R:Ending->World->Prop):Exit->Act->World->Prop
 | .ret,a,w=>∃ (Ds:List Nat) (c:Nat) (v:Value),a.defers=Ds.map ZfY/\(Ds.Nodup/\∀ D ∈ Ds,B<=D/\w.heap[D]?=some (.deferred (some [])))/\(c<w.heap.size/\c ∉ Ds)/\(∀ w',w'.heap[c]?=w.heap[c]?->(results fn a.tmps).run P w'=.ok v w')/\R (.returned v) w
 | .panic ch,a,w=>∃ Ds:List Nat,a.defers=Ds.map ZfY/\(Ds.Nodup/\∀ D ∈ Ds,B<=D/\w.heap[D]?=some (.deferred (some [])))/\R (.panicked ch) w
 | _,_,_=>False
theorem Zj1 {P:Program} {n B:Nat} {fn:Func} {R:Ending->World->Prop}
  (hR:∀ e w w',R e w->Keeps (fun b=>¬ (B<=b/\w.heap[b]?=some (.deferred (some [])))) w w'->R e w'):∀ (e:Exit) (a:Act) (w:World),ZpI P fn B R e a w->bodyPostM Fence.wide n P fn R e a w
 | .ret,a,w,h=>by
  obtain⟨Ds,c,v,h1,⟨h2,h3⟩,⟨h5,h6⟩,h7,h4⟩:=h
  show LeavesInM _ _ _ _ _ _ a.defers _ _
  rw[h1]
  refine Zca Zc Ds w h2 (fun D hD=>(h3 D hD).2) fun w' hk=>⟨_,h7 _ (hk.block c h5 h6),hR _ _ _ h4 (hk.mono fun b _ hb hc=>hb (h3 b hc))⟩
 | .panic ch,a,w,h=>by
  obtain⟨Ds,h1,⟨h2,h3⟩,h4⟩:=h
  show LeavesInM _ _ _ _ _ _ a.defers _ _
  rw[h1]
  refine Zca Zc Ds w h2 (fun D hD=>(h3 D hD).2) fun w' hk=>hR _ _ _ h4 (hk.mono fun b _ hb hc=>hb (h3 b hc))
 | .normal,_,_,h=>h.elim
 | .exit _,_,_,h=>h.elim
 | .goto _,_,_,h=>h.elim
 | .outgrown,_,_,h=>h.elim
end Go.Proofs.YtjmckebecpjjfaaGreatDoor
