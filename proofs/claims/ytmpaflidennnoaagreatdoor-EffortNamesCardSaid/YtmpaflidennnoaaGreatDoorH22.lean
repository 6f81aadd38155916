/- The parts EMemo, EBase, EWork, StepsP of a proof, put together by program (merge7.py). -/
import Derived.Test.YtmpaflidennnoaaGreatDoorH21
import Derived.DeepKeys4
import Derived.Maps.OwnOps
import Derived.Test.YtmpaflidennnoaaGreatDoorH12
import Derived.Recover
import Derived.Test.YtmpaflidennnoaaGreatDoorH20
set_option maxRecDepth 100000
set_option maxHeartbeats 4000000
set_option linter.unusedVariables false
set_option linter.unusedSimpArgs false
namespace Go.Proofs.YtmpaflidennnoaaGreatDoor
open Go.RowKit Go.Shelf Go.ChangeMaps Go.MapKept Go.ChangeShapes
open Go.WideElems (Fit rd rg rd_val)
abbrev kA (i:Int) (s t:ByteArray):Value:=.agg #[.int .i64 i,.string s,.string t]
theorem Zj9:laidOutB Tryz.prog=true:=by kernel_rfl
theorem Zk5:(201:TypeId)<Tryz.prog.types.size:=of_decide_eq_true (by kernel_rfl)
theorem Zkl:(match Tryz.prog.underlying 201 with | some (.array _ _) | some (.struct _)=>true | _=>false)=true:=by rw[Tryz.underlying201]
theorem Zkr:Tryz.prog.keyTypeAt 3 201=true:=by kernel_rfl
theorem ZdK:Maps.Keyed Tryz.prog 201:=Maps.Keyed.of_law (deep_law_laid Zj9 (m:=3) (by omega) Zk5 Zkr Zkl)
theorem Zhu:Tryz.prog.keyType 201=true:=by kernel_rfl
theorem ZfC:Tryz.prog.cellsOf 201=3:=by kernel_rfl
theorem ZiX:Tryz.prog.cellsOf 41=2:=by kernel_rfl
theorem Zlj:Tryz.prog.cellsOf 39=1:=by kernel_rfl
theorem Zku:Tryz.prog.cellsOf 3=1:=by kernel_rfl
theorem Zgn {i:Int} (s t:ByteArray) (h:0≤i∧i≤63) (hs:s.size≤maxLen) (ht:t.size≤maxLen):∃ kl,keyOf Tryz.prog 201 (kA i s t)=some kl:=by
 have w:(Lit.int .i64 i).wf=true:=by
  have e1:IntKind.i64.min = -9223372036854775808:=by decide
  have e2:IntKind.i64.max=9223372036854775807:=by decide
  simp only[Lit.wf,e1,e2,Bool.and_eq_true,decide_eq_true_eq]
  omega
 obtain⟨m,hm⟩:∃ m,Tryz.prog.types.size=m+1+1:=⟨Tryz.prog.types.size-2,by have h:2≤Tryz.prog.types.size:=of_decide_eq_true (by kernel_rfl);omega⟩
 have hf:(kA i s t).formed Tryz.prog 201=true:=by simp[Value.formed,Tryz.underlying201,ZfC]
 unfold keyOf
 rw[Tryz.underlying201]
 simp only[Zhu,hf,Bool.and_self,if_true,hm,Value.cells]
 simp[Program.keyLits,Tryz.underlying201,Tryz.underlying3,Tryz.underlying41,Tryz.underlying39,ZfC,ZiX,Zlj,Zku,List.range,List.range.loop,w]
 rw[if_pos (by intro i hi;rcases i with _ | _ | i<;>first | omega | (simp;done))]
 simp[hs,ht]
def noR:Value→Option (DataW Unit×List MemPlace):=fun _=>some (.nil,[])
def Zm2 (t:TaskP) (e:MapEntry):Prop:=∃ (i:Nat) (q:Rat) (s u x y:ByteArray),e.key=kA i s u∧e.val=pV x y∧i<t.sites.length∧IsP q s u∧IsP (chF (eS t i).curve q) x y
def Memo (w:World) (m:Nat) (t:TaskP) (n:Nat):Prop:=
 ∃ es clock,w.heap[m]?=some (.map es clock)∧Fit Tryz.prog 201 noR es clock∧es.size≤n∧∀ e ∈ es.toList,Zm2 t e
theorem Memo.lt {w:World} {m n:Nat} {t:TaskP} (h:Memo w m t n):m<w.heap.size:=by
 obtain⟨es,clock,h1,_⟩:=h
 exact(Array.getElem?_eq_some_iff.1 h1).1
theorem Memo.mono {w:World} {m n k:Nat} {t:TaskP} (h:Memo w m t n) (hk:n≤k):Memo w m t k:=by
 obtain⟨es,clock,h1,h2,h3,h4⟩:=h
 exact⟨es,clock,h1,h2,by omega,h4⟩
theorem Memo.stay {w w':World} {m n:Nat} {t:TaskP} (h:Memo w m t n) (hw:w'.heap[m]?=w.heap[m]?):Memo w' m t n:=by
 obtain⟨es,clock,h1,h2,h3,h4⟩:=h
 exact⟨es,clock,hw.trans h1,h2,h3,h4⟩
theorem Memo.step {w w':World} {m n:Nat} {t:TaskP} (h:Memo w m t n) (hb:Below w.heap.size w w'):Memo w' m t n:=h.stay (hb.block m h.lt)
theorem Memo.made (w:World) (t:TaskP):Memo (w.alloc (.map #[] 0)) w.heap.size t 0:=
 ⟨#[],0,(MapKept.heap_alloc w _).1,⟨by simp,stamped_empty 0,by simp⟩,Nat.le_refl _,by simp⟩
theorem Zhg (w:World):(zeroValue 41).run Tryz.prog w=.ok (pV ⟨#[]⟩ ⟨#[]⟩) w:=by kernel_rfl
theorem Memo.look {w:World} {m n:Nat} {t:TaskP} (h:Memo w m t n) {i:Nat} (hi:i<t.sites.length) (hN:t.sites.length≤24) {q:Rat} {s u:ByteArray} (hq:IsP q s u) :
  (∃ x y,IsP (chF (eS t i).curve q) x y∧∀ w',w'.heap[m]?=w.heap[m]?→(Instr.lookup 93 (.map (some m)) (kA i s u) true).run Tryz.prog w'=.ok (.tuple #[pV x y,.bool true]) w')∨
  ∀ w',w'.heap[m]?=w.heap[m]?→(Instr.lookup 93 (.map (some m)) (kA i s u) true).run Tryz.prog w'=.ok (.tuple #[pV ⟨#[]⟩ ⟨#[]⟩,.bool false]) w':=by
 obtain⟨es,clock,hb,F,hs,hg⟩:=h
 have hl:=hq.small
 obtain⟨kl,hkl⟩:=Zgn (i:=(i:Nat)) s u (by omega) (by unfold maxLen;omega) (by unfold maxLen;omega)
 have one:∀ e ∈ es.toList,e.key=kA i s u→∃ x y,e.val=pV x y∧IsP (chF (eS t i).curve q) x y:=fun e he hk=>by
  obtain⟨j,q',s',u',x,y,e1,e2,e3,e4,e5⟩:=hg e he
  rw[hk] at e1
  have e6:((i:Nat):Int)=j∧s=s'∧u=u':=by simpa[kA] using e1
  obtain⟨e7,rfl,rfl⟩:=e6
  obtain rfl:i=j:=by omega
  obtain rfl:q=q':=hq.inj e4 rfl rfl
  exact⟨x,y,e2,e5⟩
 by_cases hex:∃ e ∈ es.toList,e.key=kA i s u
 ·obtain⟨e,he,hk⟩:=hex
  obtain⟨x,y,e1,e2⟩:=one e he hk
  refine .inl ⟨x,y,e2,fun w' hw=>?_⟩
  rcases Maps.fit_look true ZdK Tryz.underlying93 (Zhg w') (hw.trans hb) F hkl with ⟨_,hno,_⟩ | ⟨e0,y0,hm0,h3,hrun,_⟩
  ·exact absurd hk (hno e he)
  ·obtain⟨x',y',f1,f2⟩:=one e0 hm0 h3
   obtain⟨rfl,rfl⟩:=f2.one e2
   rw[f1] at hrun
   exact hrun
 ·refine .inr fun w' hw=>?_
  rcases Maps.fit_look true ZdK Tryz.underlying93 (Zhg w') (hw.trans hb) F hkl with ⟨hrun,_⟩ | ⟨e0,y0,hm0,h3,_⟩
  ·exact hrun
  ·exact absurd ⟨e0,hm0,h3⟩ hex
theorem Memo.put {w:World} {m n:Nat} {t:TaskP} (h:Memo w m t n) {i:Nat} (hi:i<t.sites.length) (hN:t.sites.length≤24) {q:Rat} {s u x y:ByteArray} (hq:IsP q s u) (hx:IsP (chF (eS t i).curve q) x y) (hn:n≤1000000000000) :
  ∃ w2,(Instr.mapUpdate 93 (.map (some m)) (kA i s u) (pV x y)).run Tryz.prog w=.ok () w2∧Memo w2 m t (n+1)∧Keeps (fun b=>b≠m) w w2:=by
 obtain⟨es,clock,hb,F,hs,hg⟩:=h
 have hl:=hq.small
 obtain⟨kl,hkl⟩:=Zgn (i:=(i:Nat)) s u (by omega) (by unfold maxLen;omega) (by unfold maxLen;omega)
 obtain⟨es',clock',hrun,F',hput,_,_,hwho⟩:=Maps.fit_store (R':=noR) (val:=pV x y) ZdK Tryz.underlying93 hb F (by unfold maxLen;omega) (fun _ _ _ _ hz=>hz) hkl (yv:=(.nil,[])) rfl
 refine⟨_,hrun,⟨es',clock',heap_setBlock_same hb _,F',?_,fun e he=>?_⟩,⟨rfl,rfl,rfl,by simp[setBlock],fun k _ hk=>heap_setBlock_other hb _ hk⟩⟩
 ·have e1:es'.size=((es'.toList.map (rg Tryz.prog 201 noR)).foldr DataW.insert []).length:=by rw[length_sorted];simp
  have e2:=List.length_filter_le (notKey kl) ((es.toList.map (rg Tryz.prog 201 noR)).foldr DataW.insert [])
  rw[length_sorted] at e2
  rw[e1,hput]
  unfold putKey
  rw[length_insert]
  simp at e2
  omega
 ·rcases hwho e he with ⟨h1,_⟩ | ⟨h1,h2⟩
  ·exact hg e h1
  ·exact⟨i,q,s,u,x,y,h1,h2,hi,hq,hx⟩
end Go.Proofs.YtmpaflidennnoaaGreatDoor
namespace Go.Proofs.YtmpaflidennnoaaGreatDoor
open Go.RowKit Go.Shelf
attribute [local go_sem ↓] Go.wp_at_zero Go.wp_at_succ
structure EffZ (w:World):Prop where
 z0:w.cell? ⟨0,0,none⟩=some (.string ⟨#[48]⟩)
 z1:w.cell? ⟨0,1,none⟩=some (.string ⟨#[49]⟩)
theorem EffZ.below {w w':World} {B:Nat} (h:EffZ w) (hb:Below B w w') (hB:w.heap.size≤B):EffZ w':=
 ⟨(hb.cell (Nat.lt_of_lt_of_le (World.block_lt_of_cell? _ _ h.z0) hB)).trans h.z0,(hb.cell (Nat.lt_of_lt_of_le (World.block_lt_of_cell? _ _ h.z1) hB)).trans h.z1⟩
theorem ZaY (n low high:Int) (w:World):Calls Tryz.prog 76 #[.int .i64 n,.int .i64 low,.int .i64 high] w (ZZ w (decide (low≤n) && decide (n≤high))):=by
 by_cases h1:low≤n
 ·by_cases h2:n≤high
  ·go_enter Tryz.func76,Tryz.ntmps76
   go_wp2
   go_ret
   exact⟨by simp[h1,h2],Below.refl _ _⟩
  ·go_enter Tryz.func76,Tryz.ntmps76
   go_wp2
   go_ret
   exact⟨by simp[h1,h2],Below.refl _ _⟩
 ·go_enter Tryz.func76,Tryz.ntmps76
  go_wp2
  go_ret
  exact⟨by rw[decide_eq_false (show ¬ low≤n by omega)];rfl,Below.refl _ _⟩
def Zcp (n:Int):Ending:=.panicked [{ v:=.iface 141 (.agg #[.int .i64 n]),recovered:=false }]
def Znb (s t:ByteArray) (n:Int) (w:World) (e:Ending) (w':World):Prop:=
 ((n=0∧e=.returned (.agg #[.string s,.string t]))∨(n≠0∧e=Zcp n))∧Below w.heap.size w w'
theorem ZcV (s t:ByteArray) (n:Int) (w:World):Calls Tryz.prog 103 #[.agg #[.string s,.string t],.int .i64 n] w (Znb s t n w):=by
 by_cases hn:n=0
 ·have h0:(n !=0)=false:=by rw[bne_eq_false_iff_eq];exact hn
  have H0:=Lib.hid hn
  clear hn
  go_enter Tryz.func103,Tryz.ntmps103
  go_wp2
  refine bodyPost_ret (v:=.agg #[.string s,.string t]) (by simp[results,Tryz.f103,go_sem]) rfl ⟨.inl ⟨H0.out,rfl⟩,((Below.refl _ w).alloc (Nat.le_refl _) _).alloc (by simp) _⟩
 ·have h0:(n !=0)=true:=by rw[bne_iff_ne];exact hn
  have H0:=Lib.hid hn
  clear hn
  go_enter Tryz.func103,Tryz.ntmps103
  go_wp2
  refine⟨rfl,.inr ⟨H0.out,rfl⟩,((Below.refl _ w).alloc (Nat.le_refl _) _).alloc (by simp) _⟩
theorem ZlT (s t:ByteArray) (w:World):Calls Tryz.prog 103 #[pV s t,.int .i64 0] w (Z7 (pV s t) w):=
 (ZcV s t 0 w).mono fun e w' ⟨h,hb⟩=>by
  rcases h with ⟨_,rfl⟩ | ⟨h,_⟩
  ·exact⟨rfl,hb⟩
  ·exact absurd rfl h
theorem Zd5 (k:Nat) (s t:ByteArray) (hs:s.size≤1000000) (ht:t.size≤1000000) (w:World) :
  Calls Tryz.prog 63 #[pV s t,.int .i64 k] w (ZZ w (Zm k (s,t))):=by
 have HAL:=Lib.hid ((Below.refl w.heap.size w).alloc (Nat.le_refl _) (pObj s t))
 by_cases h1:(k:Int)<s.size
 ·have HR:Hid (Zm k (s,t)=false):=by
   show _=_
   unfold Zm
   rw[decide_eq_false (p:=(s,t).1.size≤k) (by show ¬ s.size≤k;omega)]
   simp
  go_enter Tryz.func63,Tryz.ntmps63
  go_wp2
  go_ret
  exact⟨by rw[HR.out];rfl,HAL.out⟩
 ·by_cases h2:(k:Int)<t.size
  ·have HR:Hid (Zm k (s,t)=false):=by
    show _=_
    unfold Zm
    rw[decide_eq_false (p:=(s,t).2.size≤k) (by show ¬ t.size≤k;omega)]
    simp
   go_enter Tryz.func63,Tryz.ntmps63
   go_wp2
   go_ret
   exact⟨by rw[HR.out];rfl,HAL.out⟩
  ·cases h3:okP s t
   ·have HR:Hid (Zm k (s,t)=false):=by unfold Zm;show _=_;simp[h3]
    have HE:=Lib.hid (Zbv h3)
    clear h3
    go_enter Tryz.func63,Tryz.ntmps63
    go_wp2_with fail
    refine(Zay s t _ hs ht).mono ?_
    rintro e w2 ⟨rfl,hb⟩
    rw[HE.out]
    have HB2:=Lib.hid (HAL.out.trans (hb.mono HAL.out.size))
    clear hb
    go_wp2
    go_ret
    exact⟨by rw[HR.out];rfl,HB2.out⟩
   ·have HR:Hid (Zm k (s,t)=true):=by unfold Zm;show _=_;simp[h3];omega
    have HE:=Lib.hid (Zb8 h3)
    clear h3
    go_enter Tryz.func63,Tryz.ntmps63
    go_wp2_with fail
    refine(Zay s t _ hs ht).mono ?_
    rintro e w2 ⟨rfl,hb⟩
    rw[HE.out]
    have HB2:=Lib.hid (HAL.out.trans (hb.mono HAL.out.size))
    clear hb
    go_wp2
    go_ret
    exact⟨by rw[HR.out];rfl,HB2.out⟩
theorem Zji (n:Int) (w:World):(Instr.typeAssert (.iface 141 (.agg #[.int .i64 n])) 20 141 true).run Tryz.prog w=.ok (.tuple #[.agg #[.int .i64 n],.bool true]) w:=by kernel_rfl
theorem Zi4 (w:World):(Instr.typeAssert .nilIface 20 141 true).run Tryz.prog w=.ok (.tuple #[.agg #[.int .i64 0],.bool false]) w:=by kernel_rfl
abbrev erO (n:Int):Obj:=.cells #[.int .i64 n] 30
abbrev miO (n:Int):Obj:=.cells #[.int .i64 n] 141
theorem Zc3 (c:Nat) (n:Int) (older:List PanicEntry) (w:World) (hc:w.heap[c]?=some (erO 0)) :
  CallsD Tryz.prog 109 #[.pointer (some ⟨c,0,none⟩)] (.panicking ({ v:=.iface 141 (.agg #[.int .i64 n]),recovered:=false }::older)) w fun e u' w'=>
   e=.returned (.tuple #[])∧u'=.panicking ({ v:=.iface 141 (.agg #[.int .i64 n]),recovered:=true }::older)∧w'.heap[c]?=some (erO n)∧Keeps (fun i=>i≠c) w w':=by
 have c0:=Za hc 0 rfl
 have f0:=Zb hc 0
 have hta:=Zji n
 have hcl:=(Array.getElem?_eq_some_iff.1 hc).1
 refine callsD_of_wpS Tryz.func109 rfl fun c₀ cs hu=>?_
 apply wpS_seq
 apply wpS_region
 simp[wpOpsS,go_sem,recoverD,hu,Tryz.ntmps109,Exit.thenS]
 refine wpS_of_wp ?_
 simp only[Array.replicate_succ,Array.replicate_zero,List.push_toArray,List.append_toArray,List.nil_append,List.cons_append,List.setIfInBounds_toArray,List.set_cons_zero,List.set_cons_succ]
 have hcm:((w.alloc (miO n))).cell? ⟨c,0,none⟩=some (.int .i64 0):=(ZH _ _ _ hcl).trans c0
 have hcf:((w.alloc (miO n))).frozen? ⟨c,0,none⟩=false:=(Zdc _ _ _ hcl).trans f0
 go_wp2
 exact⟨rfl,_,rfl,.tuple #[],by simp[results,Tryz.f109,go_sem],rfl,rfl,(Below.heap_alloc _ _ _ (by simpa[World.setCell] using hcl)).trans (Joins.block_setCell hc _),((Keeps.refl _ w).setCell (p:=⟨c,0,none⟩) (by simp) _).alloc _⟩
theorem Ze6 (c:Nat) (w:World) :
  CallsD Tryz.prog 109 #[.pointer (some ⟨c,0,none⟩)] .returning w fun e u' w'=>
   e=.returned (.tuple #[])∧u'=.returning∧w'=w.alloc (miO 0):=by
 have hta:=Zi4
 refine callsD_of_wpS Tryz.func109 rfl fun c₀ cs hu=>?_
 apply wpS_seq
 apply wpS_region
 simp[wpOpsS,go_sem,recoverD,hu,Tryz.ntmps109,Exit.thenS]
 refine wpS_of_wp ?_
 simp only[Array.replicate_succ,Array.replicate_zero,List.push_toArray,List.append_toArray,List.nil_append,List.cons_append,List.setIfInBounds_toArray,List.set_cons_zero,List.set_cons_succ]
 go_wp2
 exact⟨rfl,.returning,by cases c₀;simp_all,.tuple #[],by simp[results,Tryz.f109,go_sem],rfl,rfl,rfl⟩
def Zed (Q:Int→World→Prop) (S:Nat→Prop) (w:World) (e:Ending) (w':World):Prop:=
 ∃ n,((n=0∧e=.returned (.tuple #[]))∨(n≠0∧e=Zcp n))∧Q n w'∧Keeps S w w'
def ZcO (Q:Int→World→Prop) (S:Nat→Prop) (w:World) (e:Ending) (w':World):Prop:=∃ n,e=.returned (.int .i64 n)∧Q n w'∧Keeps S w w'
theorem Zb9 {f:Nat} {caps:Array Value} (hent:∀ args w,(callFunc f args).run Tryz.prog w=.ok (.enter f args) w) {Q:Int→World→Prop} {S:Nat→Prop} {w:World} (hS:∀ b,w.heap.size≤b→S b)
  (hQ:∀ n W W',Q n W→Keeps (fun b=>b≠w.heap.size) W W'→Q n W')
  (hdo:Calls Tryz.prog f caps (w.alloc (erO 0)) (Zed Q S (w.alloc (erO 0)))) :
  Calls Tryz.prog 50 #[.func (.func f) #[] caps] w (ZcO Q S w):=by
 have hmf:∀ (fn:Fn) (first cap:Array Value) (w:World),(Instr.makeFunc fn first cap).run Tryz.prog w=.ok (.func fn first cap) w:=fun _ _ _ _=>rfl
 have HD:=Lib.hid hdo
 have HQ:=Lib.hid hQ
 have HSS:=Lib.hid hS
 clear hdo hQ hS
 go_enter_defers Tryz.func50,Tryz.ntmps50
 go_wp2_with fail
 refine HD.out.mono ?_
 rintro e w2 ⟨n,hE,hA,hk⟩
 have he2:w2.heap[w.heap.size]?=some (erO 0):=(hk.block _ (by simp) (HSS.out _ (Nat.le_refl _))).trans (World.alloc_heap_new w _)
 have HA:=Lib.hid hA
 have HK2:Hid (Keeps S w w2):=((Keeps.refl S w).alloc _).trans hk
 obtain⟨p,hpp⟩:∃ p,w.heap.size=p:=⟨_,rfl⟩
 rw[hpp] at he2 ⊢
 have HPP:=Lib.hid hpp
 clear hk hA hpp HD
 rcases hE with ⟨rfl,rfl⟩ | ⟨hn,rfl⟩
 ·have d0:=Za he2 0 rfl
  have g0:=Zb he2 0
  have HE2:=Lib.hid he2
  clear he2
  go_wp2
  obtain⟨w3,hw3⟩:∃ z,(w2.setCell ⟨p,0,none⟩ (.int .i64 0))=z:=⟨_,rfl⟩
  have he3:w3.heap[p]?=some (erO 0):=by rw[← hw3];exact Joins.block_setCell HE2.out _
  have hk3:Keeps (fun b=>b≠p) w2 w3:=by rw[← hw3];exact(Keeps.refl _ w2).setCell (p:=⟨p,0,none⟩) (fun h=>h rfl) _
  rw[hw3]
  clear hw3 d0 g0
  have hl3:=(Array.getElem?_eq_some_iff.1 he3).1
  refine leaves_cons (f:=109) (args:=#[.pointer (some ⟨p,0,none⟩)]) (by simp) (by simp[go_sem]) ?_
  refine(Ze6 p _).mono ?_
  rintro e u' w'' ⟨rfl,rfl,rfl⟩
  have q2:(w3.alloc (miO 0)).cell? ⟨p,0,none⟩=some (.int .i64 0):=(ZH _ _ _ hl3).trans (Za he3 0 rfl)
  have hk4:Keeps (fun b=>b≠p) w2 (w3.alloc (miO 0)):=hk3.alloc _
  refine⟨.int .i64 0,by simp[results,Tryz.f50,go_sem,q2],0,rfl,HQ.out _ _ _ HA.out (by rw[HPP.out];exact hk4),?_⟩
  have h1:=HK2.out
  refine⟨hk4.os.trans h1.os,hk4.tape.trans h1.tape,hk4.output.trans h1.output,Nat.le_trans h1.size hk4.size,fun k hk hs=>?_⟩
  have hkp:k≠p:=by have:=HPP.out;omega
  exact(hk4.block k (Nat.lt_of_lt_of_le hk h1.size) hkp).trans (h1.block k hk hs)
 ·unfold Zcp
  refine leaves_cons (f:=109) (args:=#[.pointer (some ⟨p,0,none⟩)]) (by simp) (by simp[go_sem]) ?_
  refine(Zc3 p n [] _ he2).mono ?_
  rintro e u' w3 ⟨rfl,rfl,he3,hk4⟩
  have q2:w3.cell? ⟨p,0,none⟩=some (.int .i64 n):=Za he3 0 rfl
  refine⟨.int .i64 n,by simp[results,Tryz.f50,go_sem,q2],n,rfl,HQ.out _ _ _ HA.out (by rw[HPP.out];exact hk4),?_⟩
  have h1:=HK2.out
  refine⟨hk4.os.trans h1.os,hk4.tape.trans h1.tape,hk4.output.trans h1.output,Nat.le_trans h1.size hk4.size,fun k hk hs=>?_⟩
  have hkp:k≠p:=by have:=HPP.out;omega
  exact(hk4.block k (Nat.lt_of_lt_of_le hk h1.size) hkp).trans (h1.block k hk hs)
end Go.Proofs.YtmpaflidennnoaaGreatDoor
namespace Go.Proofs.YtmpaflidennnoaaGreatDoor
open Go.RowKit Go.Shelf
theorem CurveP.limB {bs:List BB} (h:CurveP bs):LimB bs:=fun x hx=>by
 obtain⟨i,hi,rfl⟩:=List.getElem_of_mem hx
 have h1:=h.small i hi
 rw[ZdL hi] at h1
 obtain⟨a1,a2,_⟩:=Zaj.1 h1.1
 obtain⟨b1,b2,_⟩:=Zaj.1 h1.2
 exact⟨⟨by omega,by omega⟩,by omega,by omega⟩
abbrev NotM (m:Nat):Nat→Prop:=fun b=>b≠m
structure TaskIn (t:TaskP) (sv hv rv:Value) (w:World):Prop where
 sites:Zl9 w sv t.sites
 hours:IL w hv t.hours
 rates:PPL w rv t.rates
 det:DetV w
 tabs:Tabs w
 eff:EffZ w
theorem TaskIn.below {t:TaskP} {sv hv rv:Value} {w w':World} {B:Nat} (h:TaskIn t sv hv rv w) (hb:Below B w w') (hB:w.heap.size≤B):TaskIn t sv hv rv w':=
 ⟨h.sites.after Ze9.stays hb hB,h.hours.after IntR.stays hb hB,h.rates.after PPL.stays hb hB,h.det.below hb hB,h.tabs.below hb hB,h.eff.below hb hB⟩
structure TaskAt (t:TaskP) (sb so hb ho rb ro:Nat) (cv:Nat→Value) (rq rp rc:Nat→Nat) (w:World):Prop where
 site:∀ i,i<t.sites.length→w.cell? ⟨sb,so+i*3,none⟩=some (.string (eS t i).weight.1)∧w.cell? ⟨sb,so+i*3+1,none⟩=some (.string (eS t i).weight.2)∧w.cell? ⟨sb,so+i*3+2,none⟩=some (cv i)∧BL w (cv i) (eS t i).curve
 hour:∀ u,u<t.hours.length→w.cell? ⟨hb,ho+u,none⟩=some (.int .i64 (eH t u))
 rate:∀ u,u<t.rates.length→w.cell? ⟨rb,ro+u,none⟩=some (.slice (some ⟨rq u,rp u,none⟩) t.sites.length (rc u))∧t.sites.length≤rc u∧rc u≤9223372036854775807∧
  ∀ i,i<t.sites.length→w.cell? ⟨rq u,rp u+i*2,none⟩=some (.string (eR t u i).1)∧w.cell? ⟨rq u,rp u+i*2+1,none⟩=some (.string (eR t u i).2)
 det:DetV w
 tabs:Tabs w
 eff:EffZ w
def ZmQ (p:List (List Int)) (N pb po:Nat) (gq gp gc:Nat→Nat) (w:World):Prop:=∀ u,u<p.length→w.cell? ⟨pb,po+u,none⟩=some (.slice (some ⟨gq u,gp u,none⟩) N (gc u))∧N≤gc u∧gc u≤9223372036854775807∧
 ∀ i,i<N→w.cell? ⟨gq u,gp u+i,none⟩=some (.int .i64 (pN p u i))
theorem Zd3 {α:Type} [Inhabited α] {n:Nat} {Q:Nat→α→Prop} (h:∀ i,i<n→∃ x,Q i x):∃ f:Nat→α,∀ i,i<n→Q i (f i):=by
 refine⟨fun i=>if hi:i<n then Classical.choose (h i hi) else default,fun i hi=>?_⟩
 simp only[dif_pos hi]
 exact Classical.choose_spec (h i hi)
section
variable {w:World}
theorem Zch {α:Type} {k:Nat} {R:World→Nat→Nat→α→Prop} {v:Value} {xs:List α} (h:LL k R w v xs) (hn:0<xs.length) :
  ∃ b o c,v=.slice (some ⟨b,o,none⟩) xs.length c∧xs.length≤c∧c≤9223372036854775807∧b<w.heap.size∧∀ j (hj:j<xs.length),R w b (o+j*k) xs[j]:=by
 obtain⟨p,c,h1,h2,h3,h4⟩:=h
 obtain⟨b,o,h5,h6,h7⟩:=h4 (List.ne_nil_of_length_pos hn)
 unfold maxLen at h3
 exact⟨b,o,c,by rw[h1,h5],h2,h3,h6,h7⟩
theorem Zfc {v:Value} {ps:List PP} (h:PL w v ps) (hn:0<ps.length) :
  ∃ b o c,v=.slice (some ⟨b,o,none⟩) ps.length c∧ps.length≤c∧c≤9223372036854775807∧b<w.heap.size∧PAt w b o ps:=by
 obtain⟨p,c,h1,h2,h3,h4⟩:=h
 obtain⟨b,o,h5,h6,h7⟩:=h4 (List.ne_nil_of_length_pos hn)
 unfold maxLen at h3
 exact⟨b,o,c,by rw[h1,h5],h2,h3,h6,h7⟩
theorem TaskIn.open {t:TaskP} {sv hv rv:Value} (h:TaskIn t sv hv rv w) (ok:TaskOk t) :
  ∃ sb so sc hb ho hc rb ro rk cv rq rp rc,sv=.slice (some ⟨sb,so,none⟩) t.sites.length sc∧hv=.slice (some ⟨hb,ho,none⟩) t.hours.length hc∧rv=.slice (some ⟨rb,ro,none⟩) t.rates.length rk∧
   (t.sites.length≤sc∧sc≤9223372036854775807)∧(t.hours.length≤hc∧hc≤9223372036854775807)∧(t.rates.length≤rk∧rk≤9223372036854775807)∧
   ∀ w',Below w.heap.size w w'→TaskAt t sb so hb ho rb ro cv rq rp rc w':=by
 have n1:=ok.sites.1
 have n2:=ok.teams.1
 have n3:0<t.rates.length:=by rw[ok.rates];exact n2
 obtain⟨sb,so,sc,rfl,s1,s2,s3,s4⟩:=Zch h.sites n1
 obtain⟨hb,ho,hc,rfl,h1,h2,h3,h4⟩:=Zch h.hours n2
 obtain⟨rb,ro,rk,rfl,r1,r2,r3,r4⟩:=Zch h.rates n3
 obtain⟨cv,hcv⟩:∃ cv:Nat→Value,∀ i,i<t.sites.length→w.cell? ⟨sb,so+i*3+2,none⟩=some (cv i)∧BL w (cv i) (eS t i).curve:=by
  haveI:Inhabited Value:=⟨.bool true⟩
  refine Zd3 (Q:=fun i v=>w.cell? ⟨sb,so+i*3+2,none⟩=some v∧BL w v (eS t i).curve) fun i hi=>?_
  obtain⟨_,_,v,h5,h6⟩:=s4 i hi
  rw[Zia hi] at h6
  exact⟨v,h5,h6⟩
 obtain⟨z,hz⟩:∃ z:Nat→Nat×Nat×Nat,∀ u,u<t.rates.length→w.cell? ⟨rb,ro+u,none⟩=some (.slice (some ⟨(z u).1,(z u).2.1,none⟩) t.sites.length (z u).2.2)∧t.sites.length≤(z u).2.2∧(z u).2.2≤9223372036854775807∧
   (z u).1<w.heap.size∧∀ i,i<t.sites.length→w.cell? ⟨(z u).1,(z u).2.1+i*2,none⟩=some (.string (eR t u i).1)∧w.cell? ⟨(z u).1,(z u).2.1+i*2+1,none⟩=some (.string (eR t u i).2):=by
  refine Zd3 (Q:=fun u (z:Nat×Nat×Nat)=>w.cell? ⟨rb,ro+u,none⟩=some (.slice (some ⟨z.1,z.2.1,none⟩) t.sites.length z.2.2)∧t.sites.length≤z.2.2∧z.2.2≤9223372036854775807∧
   z.1<w.heap.size∧∀ i,i<t.sites.length→w.cell? ⟨z.1,z.2.1+i*2,none⟩=some (.string (eR t u i).1)∧w.cell? ⟨z.1,z.2.1+i*2+1,none⟩=some (.string (eR t u i).2)) fun u hu=>?_
  obtain⟨v,h5,h6⟩:=r4 u hu
  have h7:=(ok.team u hu).2.1
  obtain⟨b,o,c,rfl,c1,c2,c3,c4⟩:=Zfc h6 (by rw[h7];exact n1)
  rw[Nat.mul_one,h7] at h5
  refine⟨(b,o,c),h5,by rw[← h7];exact c1,c2,c3,fun i hi=>?_⟩
  have hi':i<t.rates[u].length:=by rw[h7];exact hi
  have:=c4 i hi'
  rw[Zif hu hi'] at this
  exact this
 refine⟨sb,so,sc,hb,ho,hc,rb,ro,rk,cv,fun u=>(z u).1,fun u=>(z u).2.1,fun u=>(z u).2.2,rfl,rfl,rfl,⟨s1,s2⟩,⟨h1,h2⟩,⟨r1,r2⟩,fun w' hk=>?_⟩
 refine⟨fun i hi=>?_,fun u hu=>?_,fun u hu=>?_,h.det.below hk (Nat.le_refl _),h.tabs.below hk (Nat.le_refl _),h.eff.below hk (Nat.le_refl _)⟩
 ·obtain⟨a0,a1,_⟩:=s4 i hi
  rw[Zia hi] at a0 a1
  obtain⟨a2,a3⟩:=hcv i hi
  exact⟨(hk.cell (p:=⟨sb,so+i*3,none⟩) s3).trans a0,(hk.cell (p:=⟨sb,so+i*3+1,none⟩) s3).trans a1,(hk.cell (p:=⟨sb,so+i*3+2,none⟩) s3).trans a2,a3.after hk (Nat.le_refl _)⟩
 ·have:=h4 u hu
  unfold IntR at this
  rw[Zlg hu,Nat.mul_one] at this
  exact(hk.cell (p:=⟨hb,ho+u,none⟩) h3).trans this
 ·obtain⟨b0,b1,b2,b3,b4⟩:=hz u hu
  exact⟨(hk.cell (p:=⟨rb,ro+u,none⟩) r3).trans b0,b1,b2,fun i hi=>⟨(hk.cell (p:=⟨(z u).1,(z u).2.1+i*2,none⟩) b3).trans (b4 i hi).1,(hk.cell (p:=⟨(z u).1,(z u).2.1+i*2+1,none⟩) b3).trans (b4 i hi).2⟩⟩
end
def ZcC (m:Nat) (Q:World→Prop) (w:World):Prop:=∃ w1,Q w1∧Below w1.heap.size w1 w∧w1.heap.size≤m
theorem ZcC.keep {m:Nat} {Q:World→Prop} {w w':World} (h:ZcC m Q w) (hk:Keeps (NotM m) w w'):ZcC m Q w':=by
 obtain⟨w1,h1,h2,h3⟩:=h
 refine⟨w1,h1,h2.trans ((hk.mono fun b _ hb=>?_:Keeps (fun b=>b<w1.heap.size) w w').toBelow h2.size),h3⟩
 show b≠m
 omega
structure PlanW (p:List (List Int)) (N m:Nat) (pv:Value) (pb po pc:Nat) (gq gp gc:Nat→Nat) (w:World):Prop where
 val:pv=.slice (some ⟨pb,po,none⟩) p.length pc
 cap:p.length≤pc∧pc≤9223372036854775807
 at':ZmQ p N pb po gq gp gc w
 ne:pb≠m
 nes:∀ u,u<p.length→gq u≠m
theorem PlanW.keep {p:List (List Int)} {N m:Nat} {pv:Value} {pb po pc:Nat} {gq gp gc:Nat→Nat} {w w':World} (h:PlanW p N m pv pb po pc gq gp gc w) (hk:Keeps (NotM m) w w'):PlanW p N m pv pb po pc gq gp gc w':=
 ⟨h.val,h.cap,fun u hu=>by
  obtain⟨h1,h2,h3,h4⟩:=h.at' u hu
  exact⟨hk.cellAt h1 h.ne,h2,h3,fun i hi=>hk.cellAt (h4 i hi) (h.nes u hu)⟩,h.ne,h.nes⟩
structure WorkW (t:TaskP) (b m:Nat) (sv hv rv pv:Value) (w:World):Prop where
 blk:w.heap[b]?=some (.cells #[sv,hv,rv,pv,.map (some m)] 95)
 ne:b≠m
 task:ZcC m (TaskIn t sv hv rv) w
theorem WorkW.keep {t:TaskP} {b m:Nat} {sv hv rv pv:Value} {w w':World} (h:WorkW t b m sv hv rv pv w) (hk:Keeps (NotM m) w w'):WorkW t b m sv hv rv pv w':=
 ⟨(hk.block b (Array.getElem?_eq_some_iff.1 h.blk).1 h.ne).trans h.blk,h.ne,h.task.keep hk⟩
structure WorkA (t:TaskP) (b m:Nat) (sb so sc hb ho hc rb ro rk:Nat) (pv:Value) (cv:Nat→Value) (rq rp rc:Nat→Nat) (w:World):Prop where
 w0:w.cell? ⟨b,0,none⟩=some (.slice (some ⟨sb,so,none⟩) t.sites.length sc)
 w1:w.cell? ⟨b,1,none⟩=some (.slice (some ⟨hb,ho,none⟩) t.hours.length hc)
 w2:w.cell? ⟨b,2,none⟩=some (.slice (some ⟨rb,ro,none⟩) t.rates.length rk)
 w3:w.cell? ⟨b,3,none⟩=some pv
 w4:w.cell? ⟨b,4,none⟩=some (.map (some m))
 at':TaskAt t sb so hb ho rb ro cv rq rp rc w
theorem WorkW.open {t:TaskP} {b m:Nat} {sv hv rv pv:Value} {w:World} (h:WorkW t b m sv hv rv pv w) (ok:TaskOk t) :
  ∃ sb so sc hb ho hc rb ro rk cv rq rp rc,(t.sites.length≤sc∧sc≤9223372036854775807)∧(t.hours.length≤hc∧hc≤9223372036854775807)∧(t.rates.length≤rk∧rk≤9223372036854775807)∧
   ∀ w',Keeps (NotM m) w w'→WorkA t b m sb so sc hb ho hc rb ro rk pv cv rq rp rc w':=by
 obtain⟨w1,h1,h2,h3⟩:=id h.task
 obtain⟨sb,so,sc,hb,ho,hc,rb,ro,rk,cv,rq,rp,rc,rfl,rfl,rfl,k1,k2,k3,k4⟩:=h1.open ok
 refine⟨sb,so,sc,hb,ho,hc,rb,ro,rk,cv,rq,rp,rc,k1,k2,k3,fun w' hk=>?_⟩
 have hw:=h.keep hk
 have hb2:Below w1.heap.size w1 w':=h2.trans ((hk.mono fun b _ hb=>(by show b≠m;omega):Keeps (fun b=>b<w1.heap.size) w w').toBelow h2.size)
 exact⟨Za hw.blk 0 rfl,Za hw.blk 1 rfl,Za hw.blk 2 rfl,Za hw.blk 3 rfl,Za hw.blk 4 rfl,k4 w' hb2⟩
structure Wk (m:Nat) (t:TaskP) (n:Nat) (w0:World) (bs:List (Nat×Obj)) (w:World):Prop where
 env:EnvS (NotM m) w0 bs w
 memo:Memo w m t n
section
variable {m n k:Nat} {t:TaskP} {w0 w w':World} {bs:List (Nat×Obj)}
theorem Wk.start (h:Memo w m t n):Wk m t n w [] w:=⟨EnvS.start w fun b hb e=>by have:=h.lt;omega,h⟩
theorem Wk.base (h:Wk m t n w0 bs w):Keeps (NotM m) w0 w:=h.env.base
theorem Wk.step (h:Wk m t n w0 bs w) (hb:Below w.heap.size w w'):Wk m t n w0 bs w':=⟨h.env.step hb,h.memo.step hb⟩
theorem Wk.drew (h:Wk m t n w0 bs w):Wk m t n w0 bs w.drew:=h.step (Below.refl _ w).drew
theorem Wk.call (h:Wk m t n w0 bs w) (hk:Keeps (NotM m) w w') (hm:Memo w' m t k):Wk m t k w0 bs w':=⟨h.env.keep hk,hm⟩
theorem Wk.mono (h:Wk m t n w0 bs w) (hk:n≤k):Wk m t k w0 bs w:=⟨h.env,h.memo.mono hk⟩
theorem Wk.push (h:Wk m t n w0 bs w) (o:Obj) {g:Nat} (hg:g=w.heap.size):Wk m t n w0 ((g,o)::bs) (w.alloc o):=⟨h.env.push o hg,h.memo.step ((Below.refl _ w).alloc (Nat.le_refl _) o)⟩
theorem Wk.block (h:Wk m t n w0 bs w) (i:Nat) {g:Nat} {o:Obj} (hi:bs[i]?=some (g,o)):w.heap[g]?=some o:=h.env.block i hi
theorem Wk.cell (h:Wk m t n w0 bs w) (i j:Nat) {g:Nat} {cs:Array Value} {T:TypeId} {v:Value} (hi:bs[i]?=some (g,.cells cs T (0,0))) (hv:cs[j]?=some v):w.cell? ⟨g,j,none⟩=some v:=h.env.cell i j hi hv
theorem Wk.free (h:Wk m t n w0 bs w) (i j:Nat) {g:Nat} {cs:Array Value} {T:TypeId} (hi:bs[i]?=some (g,.cells cs T (0,0))):w.frozen? ⟨g,j,none⟩=false:=h.env.free i j hi
theorem Wk.put (h:Wk m t n w0 bs w) (i:Nat) {g:Nat} {o:Obj} (o':Obj) (hi:bs[i]?=some (g,o)) (hw:w'.heap[g]?=some o') (hk:Keeps (fun b=>b≠g) w w'):Wk m t n w0 (bs.set i (g,o')) w':=
 ⟨h.env.put i o' hi hw hk,h.memo.stay (hk.block m h.memo.lt fun e=>h.env.up g (h.env.le i hi) e.symm)⟩
theorem Wk.fill {g:Nat} {a b:Value} {T:TypeId} (h:Wk m t n w0 ((g,.cells #[a,b] T (0,0))::bs) w) (x y:Value):Wk m t n w0 ((g,.cells #[x,y] T (0,0))::bs) ((w.setCell ⟨g,0,none⟩ x).setCell ⟨g,1,none⟩ y):=
 h.put 0 (.cells #[x,y] T (0,0)) rfl (ZM (h.block 0 rfl) x y) (((Keeps.refl _ w).setCell (by simp) x).setCell (by simp) y)
theorem Wk.store (h:Wk m t n w0 bs w) (i j:Nat) {g:Nat} {cs:Array Value} {T:TypeId} (v:Value) (hi:bs[i]?=some (g,.cells cs T (0,0))):Wk m t n w0 (bs.set i (g,.cells (cs.set! j v) T (0,0))) (w.setCell ⟨g,j,none⟩ v):=
 h.put i (.cells (cs.set! j v) T (0,0)) hi (Joins.block_setCell (h.block i hi) v) ((Keeps.refl _ w).setCell (by simp) v)
theorem Wk.only (h:Wk m t n w0 bs w) (is:List Nat) (bs':List (Nat×Obj)) (hb:bs'=is.filterMap (fun i=>bs[i]?)) (hn:is.Nodup):Wk m t n w0 bs' w:=⟨h.env.only is bs' hb hn,h.memo⟩
end
end Go.Proofs.YtmpaflidennnoaaGreatDoor
namespace Go.Proofs.YtmpaflidennnoaaGreatDoor
open Go.RowKit
section
variable {P:Program} {ops:Array Oper} {Q:Exit→Act→World→Prop} {md:Region.Mode} {S:World→Prop} {bar:Nat→Bool}
theorem ZcI {i:Nat} {oi:Oper} {v:Value} (hi:ops[i]?=some oi) (hsel:Region.noSelect ops=true) (hQ:∀ c a w,Q (.panic c) (a.put oi.dst v) w→Q (.panic c) a w) (hbi:bar i=true) :
  ∀ (fuel:Nat) (listed:Array Bool) (a:Act) (w:World),
   (∀ j oj,ops[j]?=some oj→j≠i→listed.getD j true=false→(∀ e ∈ oj.after,Region.binds md e=true→e.on≠i)→oi.apart ops oj=true)→
   i ∈ Region.ready md ops listed→YieldsIf P ops (fun _=>True) oi v a→
   wpJ P md ops Q S bar fuel (listed.setIfInBounds i true) (a.put oi.dst v) w→wpJ P md ops Q S bar (fuel+1) listed a w
 | 0,listed,a,w,_,hr,hy,H=>by
  refine⟨fun h=>(by rw[h] at hr;cases hr),fun j hj=>?_⟩
  by_cases hji:j=i
  ·subst hji;exact hy.wpOp hi trivial ⟨.inl hbi,H⟩
  ·have:=ready_mono hj hji
   rw[H.1] at this
   cases this
 | fuel+1,listed,a,w,hfree,hr,hy,H=>by
  refine⟨fun h=>(by rw[h] at hr;cases hr),fun j hj=>?_⟩
  by_cases hji:j=i
  ·subst hji;exact hy.wpOp hi trivial ⟨.inl hbi,H⟩
  ·obtain⟨hjun,oj,hoj,hall⟩:=mem_ready.1 hj
   have hnot:∀ e ∈ oj.after,Region.binds md e=true→e.on≠i:=fun e he hb heq=>by
    have:Region.waitsFor md ops j i=true:=by
     unfold Region.waitsFor
     rw[hoj]
     exact Array.any_eq_true'.2 ⟨e,he,by simp[hb,heq]⟩
    exact Zac hr this hj
   have h2:=wpOp_putIf hoj (hfree j oj hoj hji hjun hnot) (fun cs b=>Region.noSelect_spec hsel i oi cs b hi) (fun cs b=>Region.noSelect_spec hsel j oj cs b hoj) hQ hy (H.2 j (ready_mono hj hji))
   refine wpOp_mono (fun a' w' h3=>?_) h2
   refine⟨h3.2.1,ZcI hi hsel hQ hbi fuel (listed.setIfInBounds j true) a' w' (fun k ok hk hki hun hno=>?_) (ready_mono hr (Ne.symm hji)) h3.1 ?_⟩
   ·refine hfree k ok hk hki ?_ hno
    by_cases hjk:j=k
    ·subst hjk;exact hjun
    ·rw[getD_set_ne true hjk] at hun;exact hun
   ·rw[Array.setIfInBounds_comm _ _ hji]
    exact h3.2.2
def ZW (P:Program) (ops:Array Oper) (Q:Exit→Act→World→Prop) (S:World→Prop) (bar:Nat→Bool):List (Nat×Nat)→Act→World→Prop
 | [],a,w=>Q .normal a w
 | (0,i)::ks,a,w=>∃ o,ops[i]?=some o∧(if Region.wanted o (yielded ops a.tmps) then o.wp P a w (fun a' w'=>(bar i=true∨S w')∧ZW P ops Q S bar ks a' w') Q
   else (bar i=true∨S w)∧ZW P ops Q S bar ks (a.put o.dst undef) w)
 | (1,i)::ks,a,w=>∃ o v,ops[i]?=some o∧YieldsIf P ops S o v a∧ZW P ops Q S bar ks (a.put o.dst v) w
 | (_+2,i)::ks,a,w=>∃ o v,ops[i]?=some o∧YieldsIf P ops (fun _=>True) o v a∧ZW P ops Q S bar ks (a.put o.dst v) w
def ZaP (md:Region.Mode) (ops:Array Oper) (bar:Nat→Bool):List (Nat×Nat)→Array Bool→Bool
 | [],listed=>decide (Region.ready md ops listed=[])
 | (0,k)::ks,listed=>decide (Region.ready md ops listed=[k]) && (!bar k || ks.all fun b=>b.1 !=1) && ZaP md ops bar ks (listed.setIfInBounds k true)
 | (1,k)::ks,listed=>(Region.ready md ops listed).contains k && Region.free md ops listed k && !bar k && ((List.range ops.size).all fun j=>!bar j || decide (j=k) || ZbV md ops ops.size j k) && ZaP md ops bar ks (listed.setIfInBounds k true)
 | (_+2,k)::ks,listed=>(Region.ready md ops listed).contains k && Region.free md ops listed k && bar k && ZaP md ops bar ks (listed.setIfInBounds k true)
theorem Zam (hsel:Region.noSelect ops=true) (hQ:∀ c a o v w,Q (.panic c) (a.put o v) w→Q (.panic c) a w) (hbo:∀ j,ops.size≤j→bar j=false) :
  ∀ (ks:List (Nat×Nat)) (listed:Array Bool) (a:Act) (w:World),ZaP md ops bar ks listed=true→Z0 md ops listed→
   (S w∨ks.all (fun b=>b.1 !=1)=true)→ZW P ops Q S bar ks a w→wpJ P md ops Q S bar ks.length listed a w
 | [],listed,a,w,hB,_,_,h=>⟨of_decide_eq_true hB,h⟩
 | (1,k)::ks,listed,a,w,hB,hC,hS,h=>by
  simp only[ZaP,Bool.and_eq_true] at hB
  obtain⟨⟨⟨⟨hr,hf⟩,hbk⟩,hw⟩,hB'⟩:=hB
  have hSw:S w:=by
   rcases hS with hS | hS
   ·exact hS
   ·simp at hS
  obtain⟨o,v,h0,hy,hrest⟩:=h
  have hbk':bar k=false:=by simpa using hbk
  have hwait:ZbU md ops bar k:=fun j hj hne=>by
   have hjl:j<ops.size:=by
    rcases Nat.lt_or_ge j ops.size with h' | h'
    ·exact h'
    ·rw[hbo j h'] at hj;cases hj
   rw[List.all_eq_true] at hw
   have:=hw j (List.mem_range.2 hjl)
   rw[hj] at this
   simpa[hne] using this
  have ih:=Zam hsel hQ hbo ks (listed.setIfInBounds k true) (a.put o.dst v) w hB' (hC.step (by simpa using hr)) (.inl hSw) hrest
  rw[List.length_cons]
  exact ZbR h0 hsel (fun c a w=>hQ c a o.dst v w) hwait hbk' ks.length listed a w hC (Region.free_spec h0 hf) (by simpa using hr) hy hSw ih
 | (n+2,k)::ks,listed,a,w,hB,hC,hS,h=>by
  simp only[ZaP,Bool.and_eq_true] at hB
  obtain⟨⟨⟨hr,hf⟩,hbk⟩,hB'⟩:=hB
  obtain⟨o,v,h0,hy,hrest⟩:=h
  have ih:=Zam hsel hQ hbo ks (listed.setIfInBounds k true) (a.put o.dst v) w hB' (hC.step (by simpa using hr)) (by
   rcases hS with hS | hS
   ·exact .inl hS
   ·exact .inr (by simp only[List.all_cons,Bool.and_eq_true] at hS;exact hS.2)) hrest
  rw[List.length_cons]
  exact ZcI h0 hsel (fun c a w=>hQ c a o.dst v w) hbk ks.length listed a w (Region.free_spec h0 hf) (by simpa using hr) hy ih
 | (0,k)::ks,listed,a,w,hB,hC,hS,h=>by
  simp only[ZaP,Bool.and_eq_true,decide_eq_true_eq] at hB
  obtain⟨⟨hr,hbk⟩,hB'⟩:=hB
  obtain⟨o,h0,h⟩:=h
  refine⟨fun h1=>(by rw[hr] at h1;cases h1),fun i hi=>?_⟩
  rw[hr] at hi
  obtain rfl:i=k:=by simpa using hi
  have ih:=fun a' w' (hs:bar i=true∨S w') h'=>Zam hsel hQ hbo ks (listed.setIfInBounds i true) a' w' hB' (hC.step (by rw[hr];simp)) (by
   rcases hs with hs | hs
   ·rw[hs] at hbk
    exact .inr (by simpa using hbk)
   ·exact .inl hs) h'
  unfold wpOp
  simp only[h0]
  split at h
  ·rename_i hw;simp only[hw,if_true];exact .inl (Oper.wp_mono (fun a' w' h'=>⟨h'.1,ih a' w' h'.1 h'.2⟩) h)
  ·rename_i hw;simp only[hw];exact⟨h.1,ih _ _ h.1 h.2⟩
def Ziz (l:List Oper) (ks:List (Nat×Nat)) (bar:Nat→Bool):Bool:=
 Region.noSelect l.toArray && decide (ks.length=l.length) && ZaP .any l.toArray bar ks (Array.replicate l.toArray.size false)
theorem ZG {id:Nat} {a:Act} {w:World} {l:List Oper} (ks:List (Nat×Nat)) (S:World→Prop) (bar:Nat→Bool) (hm:P.follows .mixedOrders=true)
  (hB:Ziz l ks bar=true) (hbo:∀ j,l.length≤j→bar j=false) (hQ:∀ c a o v w,Q (.panic c) (a.put o v) w→Q (.panic c) a w) (hS:S w.drew)
  (H:ZW P l.toArray Q S bar ks a w.drew):(Code.region id l.toArray true).wp P Q a w:=by
 simp only[Ziz,Bool.and_eq_true,decide_eq_true_eq] at hB
 obtain⟨⟨hsel,hn⟩,hm2⟩:=hB
 have:=ZaT _ _ _ _ (Zam hsel hQ (fun j hj=>hbo j (by simpa using hj)) ks _ a w.drew hm2 Z0.start (.inl hS) H)
 rw[hn] at this
 exact wp_region_any hm (by simpa using this)
theorem Zc {i:Nat} {o:Oper} {ks:List (Nat×Nat)} {a:Act} {w:World} (v:Value) (ho:ops[i]?=some o) (hw:Region.wanted o (yielded ops a.tmps)=true) (hv:∀ w,S w→(execOp a.eval o).run P w=.ok (.value v) w)
  (h:ZW P ops Q S bar ks (a.put o.dst v) w):ZW P ops Q S bar ((1,i)::ks) a w:=⟨o,v,ho,.inl ⟨hw,hv⟩,h⟩
theorem ZcB {i:Nat} {o:Oper} {ks:List (Nat×Nat)} {a:Act} {w:World} (v:Value) (ho:ops[i]?=some o) (hw:Region.wanted o (yielded ops a.tmps)=true) (hv:∀ w,True→(execOp a.eval o).run P w=.ok (.value v) w)
  (h:ZW P ops Q S bar ks (a.put o.dst v) w):ZW P ops Q S bar ((2,i)::ks) a w:=⟨o,v,ho,.inl ⟨hw,hv⟩,h⟩
theorem Zn {i:Nat} {o:Oper} {ks:List (Nat×Nat)} {a:Act} {w:World} (ho:ops[i]?=some o) (hw:Region.wanted o (yielded ops a.tmps)=true)
  (h:∀ K:Act→World→Prop,(∀ a' w',(bar i=true∨S w')→ZW P ops Q S bar ks a' w'→K a' w')→o.wp P a w K Q):ZW P ops Q S bar ((0,i)::ks) a w:=by
 refine⟨o,ho,?_⟩
 rw[if_pos hw]
 exact h _ fun _ _ h1 h2=>⟨h1,h2⟩
theorem ZcG {i:Nat} {o:Oper} {ks:List (Nat×Nat)} {a:Act} {w:World} (ho:ops[i]?=some o) (hw:Region.wanted o (yielded ops a.tmps)=false)
  (h:ZW P ops Q S bar ks (a.put o.dst undef) w):ZW P ops Q S bar ((1,i)::ks) a w:=⟨o,undef,ho,.inr ⟨hw,rfl⟩,h⟩
theorem Zih {i:Nat} {o:Oper} {ks:List (Nat×Nat)} {a:Act} {w:World} (ho:ops[i]?=some o) (hw:Region.wanted o (yielded ops a.tmps)=false) (hS:bar i=true∨S w)
  (h:ZW P ops Q S bar ks (a.put o.dst undef) w):ZW P ops Q S bar ((0,i)::ks) a w:=by
 refine⟨o,ho,?_⟩
 rw[if_neg (by rw[hw];exact Bool.false_ne_true)]
 exact⟨hS,h⟩
theorem Zq {a:Act} {w:World} (h:Q .normal a w):ZW P ops Q S bar [] a w:=h
end
end Go.Proofs.YtmpaflidennnoaaGreatDoor
