/- The parts EffP, EnvS, EMemo, EBase, EWork, ECover, EChance, EValue. -/
import Derived.Test.YtmpaflidennnoaaGreatDoorH11
import Derived.DeepKeys4
import Derived.Maps.OwnOps
set_option maxRecDepth 100000
set_option maxHeartbeats 4000000
set_option linter.unusedVariables false
set_option linter.unusedSimpArgs false
namespace Go.Proofs.YtmpaflidennnoaaGreatDoor
open Go.RowKit Go.Shelf
def pick (P:Nat->Bool) (n:Nat):List Nat:=(List.range n).filter P
theorem ZeK {P:Nat->Bool} {n:Nat} (h:P n=true):pick P (n+1)=pick P n++[n]:=by
 unfold pick
 rw[List.range_succ,List.filter_append]
 simp[h]
theorem Zeh {P:Nat->Bool} {n:Nat} (h:P n=false):pick P (n+1)=pick P n:=by
 unfold pick
 rw[List.range_succ,List.filter_append]
 simp[h]
theorem ZmT {P:Nat->Bool} {n j:Nat} : j ∈ pick P n<->j<n/\P j=true:=by simp[pick]
theorem Zf1 (P:Nat->Bool):∀ {n m:Nat},n<=m->∃ l,pick P m=pick P n++l
 | n,0,h=>by
  obtain rfl:n=0:=Za
  exact⟨[],Zc⟩
 | n,m+1,h=>by
  rcases ZoR m n with h1 | h1
  ·obtain rfl:n=m+1:=Za
   exact⟨[],Zc⟩
  ·obtain⟨l,hl⟩:=Zf1 P h1
   cases hp:P m
   ·exact⟨l,by rw[Zeh hp,hl]⟩
   ·exact⟨l++[m],by rw[ZeK hp,hl,List.append_assoc]⟩
theorem Zdz {P:Nat->Bool} {n j:Nat} (hj:j<n) (hp:P j=true):(pick P j).length<(pick P n).length/\(pick P n).getD (pick P j).length 0=j:=by
 obtain⟨l,hl⟩:=Zf1 P (show j+1<=n from hj)
 rw[hl,ZeK hp]
 simp[List.getD]
theorem Zix (P:Nat->Bool) (n:Nat):(pick P n).length<=n:=by
 have:=List.length_filter_le P (List.range n)
 simpa[pick] using this
theorem Zd1 {P:Nat->Bool} {n k:Nat} (hk:k<(pick P n).length):(pick P n).getD k 0<n/\P ((pick P n).getD k 0)=true:=by
 have h:(pick P n).getD k 0=(pick P n)[k]:=by simp[List.getD,hk]
 rw[h]
 exact ZmT.1 (Zpc hk)
theorem ZhL {P:Nat->Bool} {n j k:Nat} (hk:k<(pick P n).length) (hjk:j<k):(pick P n).getD j 0<(pick P n).getD k 0:=by
 have hs:(pick P n).Pairwise (· < ·):=List.Pairwise.filter P List.pairwise_lt_range
 have e1:(pick P n).getD j 0=(pick P n)[j]:=by simp[List.getD,Nat.lt_trans hjk hk]
 have e2:(pick P n).getD k 0=(pick P n)[k]:=by simp[List.getD,hk]
 rw[e1,e2]
 exact List.pairwise_iff_getElem.1 hs j k (Nat.lt_trans hjk hk) hk hjk
theorem Best.ofPick {P:Nat->Bool} {g:Nat->Rat} {n:Nat} {r:Option Nat} {m:Rat} (h:Best (fun k=>g ((pick P n).getD k 0)) (pick P n).length r m) :
  Best (fun j=>if P j=true then g j else 0) n (r.map fun k=>(pick P n).getD k 0) m:=by
 have hall:∀ c,0<=c->(∀ k,k<(pick P n).length->g ((pick P n).getD k 0)<=c)->∀ j,j<n->(if P j=true then g j else 0)<=c:=fun c hc h2 j hj=>by
  split
  ·rename_i hp
   obtain⟨h3,h4⟩:=Zdz hj hp
   have:=h2 _ h3
   rwa [h4] at this
  ·exact hc
 refine⟨fun hr=>?_,fun j hj=>?_⟩
 ·cases r with
  | none=>
   obtain⟨h1,h2⟩:=h.no rfl
   exact⟨h1,hall 0 Rat.le_refl h2⟩
  | some k=>cases hr
 ·cases r with
  | none=>cases hj
  | some k=>
   obtain rfl:(pick P n).getD k 0=j:=ZoP hj
   obtain⟨h1,h2,h3,h4,h5⟩:=h.yes k rfl
   obtain⟨h6,h7⟩:=Zd1 h1
   rw[if_pos h7]
   refine⟨h6,h2,h3,hall _ Zk h4,fun j hj=>?_⟩
   split
   ·rename_i hp
    obtain⟨h8,h9⟩:=Zdz (Nat.lt_trans hj h6) hp
    have h10:(pick P j).length<k:=by
     rcases ZoR (pick P j).length k with h | h
     ·exact h
     ·exfalso
      rcases ZoR k (pick P j).length with h11 | h11
      ·have:=ZhL h8 h11
       omega
      ·have e:k=(pick P j).length:=Za
       rw[e] at hj
       omega
    have:=h5 _ h10
    rwa [h9] at this
   ·grind
def bump (p:List (List Int)) (u i:Nat) (d:Int):List (List Int):=p.modify u fun l=>l.modify i fun x=>x+d
theorem Zad (p:List (List Int)) (u i:Nat) (d:Int):(bump p u i d).length=p.length:=by simp[bump]
theorem ZeM {p:List (List Int)} {u i:Nat} {d:Int} {v:Nat} (h:v<(bump p u i d).length):(bump p u i d)[v].length=(p[v]'(by simpa[bump] using h)).length:=by
 simp only[bump,List.getElem_modify]
 split<;>simp
theorem Zd8 {p:List (List Int)} {u i:Nat} {d:Int} (hu:u<p.length) (hi:i<p[u].length):pN (bump p u i d) u i=pN p u i+d:=by
 simp[pN,bump,List.getD,hu,hi]
theorem Zbo {p:List (List Int)} {u i v j:Nat} {d:Int} (h:v≠u\/j≠i):pN (bump p u i d) v j=pN p v j:=by
 unfold pN bump
 rw[List.getD_eq_getElem?_getD,List.getD_eq_getElem?_getD,List.getElem?_modify]
 by_cases hv:u=v
 ·subst hv
  have hj:¬ i=j:=by rcases h with h | h<;>omega
  rw[List.getD_eq_getElem?_getD,List.getD_eq_getElem?_getD]
  cases hp:p[u]? with
  | none=>simp
  | some l=>simp[List.getElem?_modify,hj]
 ·simp[hv]
def ZaI (t:TaskP) (p:List (List Int)) (u:Nat):Int:=eH t u-ZX p u t.sites.length
noncomputable def ZaQ (t:TaskP) (p:List (List Int)) (u i:Nat):Rat:=wR t i*(chF (eS t i).curve (covR t p i+rR t u i)-chF (eS t i).curve (covR t p i))
noncomputable def Zbg (t:TaskP) (p:List (List Int)) (j:Nat):Rat:=if 0<ZaI t p (j/t.sites.length) then ZaQ t p (j/t.sites.length) (j % t.sites.length) else 0
inductive GreedyR (t:TaskP):List (List Int)->List (List Int)->Prop
 | done {p:List (List Int)} {m:Rat} (h:Best (Zbg t p) (t.hours.length*t.sites.length) none m):GreedyR t p p
 | step {p q:List (List Int)} {j:Nat} {m:Rat} (h:Best (Zbg t p) (t.hours.length*t.sites.length) (some j) m) (hq:GreedyR t (bump p (j/t.sites.length) (j % t.sites.length) 1) q):GreedyR t p q
theorem GreedyR.det {t:TaskP} {p q r:List (List Int)} (h:GreedyR t p q) (g:GreedyR t p r):q=r:=by
 induction h generalizing r with
 | done h=>
  cases g with
  | done _=>rfl
  | step g _=>cases (h.det g).1
 | step h _ ih=>
  cases g with
  | done g=>cases (h.det g).1
  | step g hq=>
   obtain rfl:=ZoP (h.det g).1
   exact ih hq
def ZZ (t:TaskP):List (List Int):=t.hours.map fun _=>List.replicate t.sites.length 0
noncomputable def valF (t:TaskP) (p:List (List Int)) (i:Nat):Rat:=wR t i*chF (eS t i).curve (covR t p i)
section
variable {S S':Nat->Prop} {Q Q':World->Prop} {w w':World}
theorem Keeps.toBelow {B:Nat} (h:Keeps (fun b=>b<B) w w') (hB:B<=w.heap.size):Below B w w':=⟨h.os,h.tape,h.output,h.size,fun k hk=>h.block k Za hk⟩
theorem _root_.Go.RowKit.Below.keepsS (h:Below w.heap.size w w') (S:Nat->Prop):Keeps S w w':=⟨h.os,h.tape,h.output,h.size,fun k hk _=>h.block k hk⟩
end
structure EnvS (S:Nat->Prop) (w0:World) (bs:List (Nat×Obj)) (w:World):Prop where
 base:Keeps S w0 w
 up:∀ b,w0.heap.size<=b->S b
 cells:∀ (i:Nat) (p:Nat×Obj),bs[i]?=some p->w0.heap.size<=p.1/\w.heap[p.1]?=some p.2
 apart:∀ (i j:Nat) (p q:Nat×Obj),bs[i]?=some p->bs[j]?=some q->p.1=q.1->i=j
section
variable {S:Nat->Prop} {w0 w w':World} {bs:List (Nat×Obj)}
theorem EnvS.start (w:World) (hu:∀ b,w.heap.size<=b->S b):EnvS S w [] w:=⟨Keeps.refl _ w,hu,fun i p h=>by simp at h,fun i j p q h=>by simp at h⟩
theorem EnvS.own (h:EnvS S w0 bs w):w0.heap.size<=w.heap.size:=h.base.size
theorem EnvS.keep (h:EnvS S w0 bs w) (hk:Keeps S w w'):EnvS S w0 bs w' where
 base:=h.base.trans hk
 up:=h.up
 cells:=fun i p hp=>by
  obtain⟨h1,h2⟩:=h.cells i p hp
  exact⟨h1,(hk.block _ (Zpu h2) (h.up _ h1)).trans h2⟩
 apart:=h.apart
theorem EnvS.step (h:EnvS S w0 bs w) (hb:Below w.heap.size w w'):EnvS S w0 bs w':=h.keep (hb.keepsS S)
theorem EnvS.drew (h:EnvS S w0 bs w):EnvS S w0 bs w.drew:=h.step (ZoL _ w).drew
theorem EnvS.push (h:EnvS S w0 bs w) (o:Obj) {g:Nat} (hg:g=w.heap.size):EnvS S w0 ((g,o)::bs) (w.alloc o):=by
 subst hg
 have h':=h.step ((ZoL _ w).alloc ZpA o)
 have hlt:∀ (j:Nat) (p:Nat×Obj),bs[j]?=some p->p.1<w.heap.size:=fun j p hp=>(ZoK.1 (h.cells j p hp).2).1
 refine⟨h'.base,h.up,fun i p hp=>?_,fun i j p q hp hq e=>?_⟩
 ·cases i with
  | zero=>
   obtain rfl:=ZoP hp
   exact⟨h.own,ZoO w o⟩
  | succ i=>exact h'.cells i p (by simpa using hp)
 ·cases i with
  | zero=>
   cases j with
   | zero=>rfl
   | succ j=>
    obtain rfl:=ZoP hp
    have:=hlt j q (by simpa using hq)
    simp only at e
    omega
  | succ i=>
   cases j with
   | zero=>
    obtain rfl:=ZoP hq
    have:=hlt i p (by simpa using hp)
    simp only at e
    omega
   | succ j=>rw[h.apart i j p q (by simpa using hp) (by simpa using hq) e]
theorem EnvS.block (h:EnvS S w0 bs w) (i:Nat) {g:Nat} {o:Obj} (hi:bs[i]?=some (g,o)):w.heap[g]?=some o:=(h.cells i _ hi).2
theorem EnvS.lt (h:EnvS S w0 bs w) (i:Nat) {g:Nat} {o:Obj} (hi:bs[i]?=some (g,o)):g<w.heap.size:=(Zpu (h.block i hi))
theorem EnvS.le (h:EnvS S w0 bs w) (i:Nat) {g:Nat} {o:Obj} (hi:bs[i]?=some (g,o)):w0.heap.size<=g:=(h.cells i _ hi).1
theorem EnvS.cell (h:EnvS S w0 bs w) (i j:Nat) {g:Nat} {cs:Array Value} {T:TypeId} {v:Value} (hi:bs[i]?=some (g,.cells cs T (0,0))) (hv:cs[j]?=some v):w.cell? ⟨g,j,none⟩=some v:=Zn (h.block i hi) j hv
theorem EnvS.free (h:EnvS S w0 bs w) (i j:Nat) {g:Nat} {cs:Array Value} {T:TypeId} (hi:bs[i]?=some (g,.cells cs T (0,0))):w.frozen? ⟨g,j,none⟩=false:=Zo (h.block i hi) j
theorem EnvS.put (h:EnvS S w0 bs w) (i:Nat) {g:Nat} {o:Obj} (o':Obj) (hi:bs[i]?=some (g,o)) (hw:w'.heap[g]?=some o') (hk:Keeps (fun b=>b≠g) w w'):EnvS S w0 (bs.set i (g,o')) w':=by
 have hil:i<bs.length:=(Zo9.1 hi).1
 have hget:∀ (j:Nat) (p:Nat×Obj),(bs.set i (g,o'))[j]?=some p->(j=i/\p=(g,o'))\/(j≠i/\bs[j]?=some p):=fun j p hp=>by
  by_cases e:j=i
  ·subst e
   rw[List.getElem?_set_self hil] at hp
   exact .inl ⟨rfl,(ZoP hp).symm⟩
  ·rw[List.getElem?_set_ne (Ne.symm e)] at hp
   exact .inr ⟨e,hp⟩
 have hB:w0.heap.size<=g:=h.le i hi
 refine⟨⟨hk.os.trans h.base.os,hk.tape.trans h.base.tape,hk.output.trans h.base.output,ZoU h.own hk.size,fun k hlt hs=>(hk.block k (by have:=h.own;omega) Za).trans (h.base.block k hlt hs)⟩,h.up,fun j p hp=>?_,fun j k p q hp hq e=>?_⟩
 ·rcases hget j p hp with ⟨rfl,rfl⟩ | ⟨hne,hp⟩
  ·exact⟨hB,hw⟩
  ·obtain⟨h1,h2⟩:=h.cells j p hp
   refine⟨h1,?_⟩
   rw[hk.block _ (Zpu h2) (fun e=>hne (h.apart j i p _ hp hi e))]
   exact h2
 ·rcases hget j p hp with ⟨e1,e2⟩ | ⟨hne,hp'⟩
  ·rcases hget k q hq with ⟨e3,e4⟩ | ⟨hne2,hq'⟩
   ·rw[e1,e3]
   ·rw[e2] at e
    rw[e1]
    exact h.apart i k _ q hi hq' e
  ·rcases hget k q hq with ⟨e3,e4⟩ | ⟨hne2,hq'⟩
   ·rw[e4] at e
    rw[e3]
    exact h.apart j i p _ hp' hi e
   ·exact h.apart j k p q hp' hq' e
theorem EnvS.store (h:EnvS S w0 bs w) (i j:Nat) {g:Nat} {cs:Array Value} {T:TypeId} (v:Value) (hi:bs[i]?=some (g,.cells cs T (0,0))):EnvS S w0 (bs.set i (g,.cells (cs.set! j v) T (0,0))) (w.setCell ⟨g,j,none⟩ v):=
 h.put i (.cells (cs.set! j v) T (0,0)) hi (ZoQ (h.block i hi) v) ((Keeps.refl _ w).setCell Zc v)
theorem EnvS.fill {g:Nat} {a b:Value} {T:TypeId} (h:EnvS S w0 ((g,.cells #[a,b] T (0,0))::bs) w) (x y:Value):EnvS S w0 ((g,.cells #[x,y] T (0,0))::bs) ((w.setCell ⟨g,0,none⟩ x).setCell ⟨g,1,none⟩ y):=
 h.put 0 (.cells #[x,y] T (0,0)) rfl (Zan (h.block 0 rfl) x y) (((Keeps.refl _ w).setCell Zc x).setCell Zc y)
theorem EnvS.laid (h:EnvS S w0 bs w) (hb:Keeps S w w') {g:Nat} {o:Obj} (hg:w'.heap[g]?=some o) (hle:w.heap.size<=g):EnvS S w0 ((g,o)::bs) w':=by
 have h':=h.keep hb
 have hlt:∀ (j:Nat) (p:Nat×Obj),bs[j]?=some p->p.1<w.heap.size:=fun j p hp=>(ZoK.1 (h.cells j p hp).2).1
 refine⟨h'.base,h.up,fun i p hp=>?_,fun i j p q hp hq e=>?_⟩
 ·cases i with
  | zero=>
   obtain rfl:=ZoP hp
   exact⟨ZoU h.own hle,hg⟩
  | succ i=>exact h'.cells i p (by simpa using hp)
 ·cases i with
  | zero=>
   cases j with
   | zero=>rfl
   | succ j=>
    obtain rfl:=ZoP hp
    have:=hlt j q (by simpa using hq)
    simp only at e
    omega
  | succ i=>
   cases j with
   | zero=>
    obtain rfl:=ZoP hq
    have:=hlt i p (by simpa using hp)
    simp only at e
    omega
   | succ j=>rw[h.apart i j p q (by simpa using hp) (by simpa using hq) e]
theorem EnvS.only (h:EnvS S w0 bs w) (is:List Nat) (bs':List (Nat×Obj)) (hb:bs'=is.filterMap (fun i=>bs[i]?)) (hn:is.Nodup):EnvS S w0 bs' w:=by
 subst hb
 have hget:∀ (k:Nat) (p:Nat×Obj),(is.filterMap (fun i=>bs[i]?))[k]?=some p->∃ i ∈ is,bs[i]?=some p:=fun k p hp=>by
  have:=List.mem_of_getElem? hp
  rw[List.mem_filterMap] at this
  exact this
 refine⟨h.base,h.up,fun i p hp=>?_,?_⟩
 ·obtain⟨j,_,hj⟩:=hget i p hp
  exact h.cells j p hj
 ·have hp:(is.filterMap (fun i=>bs[i]?)).Pairwise (fun a b=>a.1≠b.1):=by
   rw[List.pairwise_filterMap]
   refine List.Pairwise.imp ?_ hn
   intro a b hab p hp q hq e
   exact hab (h.apart a b p q hp hq e)
  intro i j p q h1 h2 e
  rcases Nat.lt_trichotomy i j with hlt | rfl | hlt
  ·obtain⟨l1,e1⟩:=Zo9.1 h1
   obtain⟨l2,e2⟩:=Zo9.1 h2
   have:=(List.pairwise_iff_getElem.1 hp) i j l1 l2 hlt
   rw[e1,e2] at this
   exact Zpp e this
  ·rfl
  ·obtain⟨l1,e1⟩:=Zo9.1 h1
   obtain⟨l2,e2⟩:=Zo9.1 h2
   have:=(List.pairwise_iff_getElem.1 hp) j i l2 l1 hlt
   rw[e1,e2] at this
   exact Zpp e.symm this
end
end Go.Proofs.YtmpaflidennnoaaGreatDoor
namespace Go.Proofs.YtmpaflidennnoaaGreatDoor
open Go.RowKit Go.Shelf Go.ChangeMaps Go.MapKept Go.ChangeShapes
open Go.WideElems (Fit rd rg rd_val)
abbrev kA (i:Int) (s t:ByteArray):Value:=.agg #[.int .i64 i,.string s,.string t]
theorem Zlz:laidOutB Tryz.prog=true:=Zb
theorem Zma:(201:TypeId)<Tryz.prog.types.size:=of_decide_eq_true Zb
theorem Zky:(match Tryz.prog.underlying 201 with | some (.array _ _) | some (.struct _)=>true | _=>false)=true:=by rw[Tryz.underlying201]
theorem ZkA:Tryz.prog.keyTypeAt 3 201=true:=Zb
theorem Zee:Maps.Keyed Tryz.prog 201:=Maps.Keyed.of_law (deep_law_laid Zlz (m:=3) Za Zma ZkA Zky)
theorem Zh7:Tryz.prog.keyType 201=true:=Zb
theorem ZfQ:Tryz.prog.cellsOf 201=3:=Zb
theorem Zj4:Tryz.prog.cellsOf 41=2:=Zb
theorem ZlU:Tryz.prog.cellsOf 39=1:=Zb
theorem Zk8:Tryz.prog.cellsOf 3=1:=Zb
theorem Zgu {i:Int} (s t:ByteArray) (h:0<=i/\i<=63) (hs:s.size<=maxLen) (ht:t.size<=maxLen):∃ kl,keyOf Tryz.prog 201 (kA i s t)=some kl:=by
 have w:(Lit.int .i64 i).wf=true:=by
  have e1:IntKind.i64.min = -9223372036854775808:=Zd
  have e2:IntKind.i64.max=9223372036854775807:=Zd
  simp only[Lit.wf,e1,e2,Zpj,Zpk]
  omega
 obtain⟨m,hm⟩:∃ m,Tryz.prog.types.size=m+1+1:=⟨Tryz.prog.types.size-2,by have h:2<=Tryz.prog.types.size:=of_decide_eq_true Zb;omega⟩
 have hf:(kA i s t).formed Tryz.prog 201=true:=by simp[Value.formed,Tryz.underlying201,ZfQ]
 unfold keyOf
 rw[Tryz.underlying201]
 simp only[Zh7,hf,Bool.and_self,if_true,hm,Value.cells]
 simp[Program.keyLits,Tryz.underlying201,Tryz.underlying3,Tryz.underlying41,Tryz.underlying39,ZfQ,Zj4,ZlU,Zk8,List.range,List.range.loop,w]
 rw[if_pos (by intro i hi;rcases i with _ | _ | i<;>first | omega | (simp;done))]
 simp[hs,ht]
def noR:Value->Option (DataW Unit×List MemPlace):=fun _=>some (.nil,[])
def Zou (t:TaskP) (e:MapEntry):Prop:=∃ (i:Nat) (q:Rat) (s u x y:ByteArray),e.key=kA i s u/\e.val=pV x y/\i<t.sites.length/\IsP q s u/\IsP (chF (eS t i).curve q) x y
def Memo (w:World) (m:Nat) (t:TaskP) (n:Nat):Prop:=
 ∃ es clock,w.heap[m]?=some (.map es clock)/\Fit Tryz.prog 201 noR es clock/\es.size<=n/\∀ e ∈ es.toList,Zou t e
theorem Memo.lt {w:World} {m n:Nat} {t:TaskP} (h:Memo w m t n):m<w.heap.size:=by
 obtain⟨es,clock,h1,_⟩:=h
 exact(Zpu h1)
theorem Memo.mono {w:World} {m n k:Nat} {t:TaskP} (h:Memo w m t n) (hk:n<=k):Memo w m t k:=by
 obtain⟨es,clock,h1,h2,h3,h4⟩:=h
 exact⟨es,clock,h1,h2,Za,h4⟩
theorem Memo.stay {w w':World} {m n:Nat} {t:TaskP} (h:Memo w m t n) (hw:w'.heap[m]?=w.heap[m]?):Memo w' m t n:=by
 obtain⟨es,clock,h1,h2,h3,h4⟩:=h
 exact⟨es,clock,hw.trans h1,h2,h3,h4⟩
theorem Memo.step {w w':World} {m n:Nat} {t:TaskP} (h:Memo w m t n) (hb:Below w.heap.size w w'):Memo w' m t n:=h.stay (hb.block m h.lt)
theorem Memo.made (w:World) (t:TaskP):Memo (w.alloc (.map #[] 0)) w.heap.size t 0:=
 ⟨#[],0,(MapKept.heap_alloc w _).1,⟨Zc,stamped_empty 0,Zc⟩,Nat.le_refl _,Zc⟩
theorem ZhE (w:World):(zeroValue 41).run Tryz.prog w=.ok (pV Zpv Zpv) w:=Zb
theorem Memo.look {w:World} {m n:Nat} {t:TaskP} (h:Memo w m t n) {i:Nat} (hi:i<t.sites.length) (hN:t.sites.length<=24) {q:Rat} {s u:ByteArray} (hq:IsP q s u) :
  (∃ x y,IsP (chF (eS t i).curve q) x y/\∀ w',w'.heap[m]?=w.heap[m]?->(Instr.lookup 93 (.map (some m)) (kA i s u) true).run Tryz.prog w'=.ok (.tuple #[pV x y,.bool true]) w')\/
  ∀ w',w'.heap[m]?=w.heap[m]?->(Instr.lookup 93 (.map (some m)) (kA i s u) true).run Tryz.prog w'=.ok (.tuple #[pV Zpv Zpv,.bool false]) w':=by
 obtain⟨es,clock,hb,F,hs,hg⟩:=h
 have hl:=hq.small
 obtain⟨kl,hkl⟩:=Zgu (i:=(i:Nat)) s u Za (by unfold maxLen;omega) (by unfold maxLen;omega)
 have one:∀ e ∈ es.toList,e.key=kA i s u->∃ x y,e.val=pV x y/\IsP (chF (eS t i).curve q) x y:=fun e he hk=>by
  obtain⟨j,q',s',u',x,y,e1,e2,e3,e4,e5⟩:=hg e he
  rw[hk] at e1
  have e6:((i:Nat):Int)=j/\s=s'/\u=u':=by simpa[kA] using e1
  obtain⟨e7,rfl,rfl⟩:=e6
  obtain rfl:i=j:=Za
  obtain rfl:q=q':=hq.inj e4 rfl rfl
  exact⟨x,y,e2,e5⟩
 by_cases hex:∃ e ∈ es.toList,e.key=kA i s u
 ·obtain⟨e,he,hk⟩:=hex
  obtain⟨x,y,e1,e2⟩:=one e he hk
  refine .inl ⟨x,y,e2,fun w' hw=>?_⟩
  rcases Maps.fit_look true Zee Tryz.underlying93 (ZhE w') (hw.trans hb) F hkl with ⟨_,hno,_⟩ | ⟨e0,y0,hm0,h3,hrun,_⟩
  ·exact Zpp hk (hno e he)
  ·obtain⟨x',y',f1,f2⟩:=one e0 hm0 h3
   obtain⟨rfl,rfl⟩:=f2.one e2
   rw[f1] at hrun
   exact hrun
 ·refine .inr fun w' hw=>?_
  rcases Maps.fit_look true Zee Tryz.underlying93 (ZhE w') (hw.trans hb) F hkl with ⟨hrun,_⟩ | ⟨e0,y0,hm0,h3,_⟩
  ·exact hrun
  ·exact Zpp ⟨e0,hm0,h3⟩ hex
theorem Memo.put {w:World} {m n:Nat} {t:TaskP} (h:Memo w m t n) {i:Nat} (hi:i<t.sites.length) (hN:t.sites.length<=24) {q:Rat} {s u x y:ByteArray} (hq:IsP q s u) (hx:IsP (chF (eS t i).curve q) x y) (hn:n<=1000000000000) :
  ∃ w2,(Instr.mapUpdate 93 (.map (some m)) (kA i s u) (pV x y)).run Tryz.prog w=.ok () w2/\Memo w2 m t (n+1)/\Keeps (fun b=>b≠m) w w2:=by
 obtain⟨es,clock,hb,F,hs,hg⟩:=h
 have hl:=hq.small
 obtain⟨kl,hkl⟩:=Zgu (i:=(i:Nat)) s u Za (by unfold maxLen;omega) (by unfold maxLen;omega)
 obtain⟨es',clock',hrun,F',hput,_,_,hwho⟩:=Maps.fit_store (R':=noR) (val:=pV x y) Zee Tryz.underlying93 hb F (by unfold maxLen;omega) (fun _ _ _ _ hz=>hz) hkl (yv:=(.nil,[])) rfl
 refine⟨_,hrun,⟨es',clock',heap_setBlock_same hb _,F',?_,fun e he=>?_⟩,⟨rfl,rfl,rfl,by simp[setBlock],fun k _ hk=>heap_setBlock_other hb _ hk⟩⟩
 ·have e1:es'.size=((es'.toList.map (rg Tryz.prog 201 noR)).foldr DataW.insert []).length:=by rw[length_sorted];simp
  have e2:=List.length_filter_le (notKey kl) ((es.toList.map (rg Tryz.prog 201 noR)).foldr DataW.insert [])
  rw[length_sorted] at e2
  rw[e1,hput]
  unfold putKey
  rw[length_insert]
  simp at e2
  omega
 ·rcases hwho e he with ⟨h1,_⟩ | ⟨h1,h2⟩
  ·exact hg e h1
  ·exact⟨i,q,s,u,x,y,h1,h2,hi,hq,hx⟩
end Go.Proofs.YtmpaflidennnoaaGreatDoor
namespace Go.Proofs.YtmpaflidennnoaaGreatDoor
open Go.RowKit Go.Shelf
attribute [local go_sem ↓] Go.wp_at_zero Go.wp_at_succ
structure EffZ (w:World):Prop where
 z0:w.cell? ⟨0,0,none⟩=some (.string ⟨#[48]⟩)
 z1:w.cell? ⟨0,1,none⟩=some (.string ⟨#[49]⟩)
theorem EffZ.below {w w':World} {B:Nat} (h:EffZ w) (hb:Below B w w') (hB:w.heap.size<=B):EffZ w':=
 ⟨(hb.cell (ZoS (Zo5 _ _ h.z0) hB)).trans h.z0,(hb.cell (ZoS (Zo5 _ _ h.z1) hB)).trans h.z1⟩
theorem Zcq (n low high:Int) (w:World):Calls Tryz.prog 76 #[.int .i64 n,.int .i64 low,.int .i64 high] w (Z5 w (decide (low<=n) && decide (n<=high))):=by
 by_cases h1:low<=n
 ·by_cases h2:n<=high
  ·go_enter Tryz.func76,Tryz.ntmps76
   go_wp2
   go_ret
   exact⟨by simp[h1,h2],ZoL _ _⟩
  ·go_enter Tryz.func76,Tryz.ntmps76
   go_wp2
   go_ret
   exact⟨by simp[h1,h2],ZoL _ _⟩
 ·go_enter Tryz.func76,Tryz.ntmps76
  go_wp2
  go_ret
  exact⟨by rw[decide_eq_false (show ¬ low<=n by omega)];rfl,ZoL _ _⟩
def ZdO (n:Int):Ending:=.panicked [{ v:=.iface 141 (.agg #[.int .i64 n]),recovered:=false }]
def ZoB (s t:ByteArray) (n:Int) (w:World) (e:Ending) (w':World):Prop:=
 ((n=0/\e=.returned (Zpw s t))\/(n≠0/\e=ZdO n))/\Below w.heap.size w w'
theorem ZdZ (s t:ByteArray) (n:Int) (w:World):Calls Tryz.prog 103 #[Zpw s t,.int .i64 n] w (ZoB s t n w):=by
 by_cases hn:n=0
 ·have h0:(n !=0)=false:=by rw[bne_eq_false_iff_eq];exact hn
  have H0:=Zpz hn
  clear hn
  go_enter Tryz.func103,Tryz.ntmps103
  go_wp2
  refine ZoM (v:=Zpw s t) (by simp[results,Tryz.f103,go_sem]) rfl ⟨.inl ⟨H0.out,rfl⟩,((ZoL _ w).alloc ZpA _).alloc Zc _⟩
 ·have h0:(n !=0)=true:=by rw[bne_iff_ne];exact hn
  have H0:=Zpz hn
  clear hn
  go_enter Tryz.func103,Tryz.ntmps103
  go_wp2
  refine⟨rfl,.inr ⟨H0.out,rfl⟩,((ZoL _ w).alloc ZpA _).alloc Zc _⟩
theorem Znq (s t:ByteArray) (w:World):Calls Tryz.prog 103 #[pV s t,.int .i64 0] w (Z1 (pV s t) w):=
 (ZdZ s t 0 w).mono fun e w' ⟨h,hb⟩=>by
  rcases h with ⟨_,rfl⟩ | ⟨h,_⟩
  ·exact⟨rfl,hb⟩
  ·exact Zpp rfl h
theorem ZeN (k:Nat) (s t:ByteArray) (hs:s.size<=1000000) (ht:t.size<=1000000) (w:World) :
  Calls Tryz.prog 63 #[pV s t,.int .i64 k] w (Z5 w (Zw k (s,t))):=by
 have HAL:=Zpz ((ZoL w.heap.size w).alloc ZpA (pObj s t))
 by_cases h1:(k:Int)<s.size
 ·have HR:Hid (Zw k (s,t)=false):=by
   show _=_
   unfold Zw
   rw[decide_eq_false (p:=(s,t).1.size<=k) (by show ¬ s.size<=k;omega)]
   simp
  go_enter Tryz.func63,Tryz.ntmps63
  go_wp2
  go_ret
  exact⟨by rw[HR.out];rfl,HAL.out⟩
 ·by_cases h2:(k:Int)<t.size
  ·have HR:Hid (Zw k (s,t)=false):=by
    show _=_
    unfold Zw
    rw[decide_eq_false (p:=(s,t).2.size<=k) (by show ¬ t.size<=k;omega)]
    simp
   go_enter Tryz.func63,Tryz.ntmps63
   go_wp2
   go_ret
   exact⟨by rw[HR.out];rfl,HAL.out⟩
  ·cases h3:okP s t
   ·have HR:Hid (Zw k (s,t)=false):=by unfold Zw;show _=_;simp[h3]
    have HE:=Zpz (ZaM h3)
    clear h3
    go_enter Tryz.func63,Tryz.ntmps63
    go_wp2_with fail
    refine(ZaU s t _ hs ht).mono ?_
    rintro e w2 ⟨rfl,hb⟩
    rw[HE.out]
    have HB2:=Zpz (HAL.out.trans (hb.mono HAL.out.size))
    clear hb
    go_wp2
    go_ret
    exact⟨by rw[HR.out];rfl,HB2.out⟩
   ·have HR:Hid (Zw k (s,t)=true):=by unfold Zw;show _=_;simp[h3];omega
    have HE:=Zpz (Zbj h3)
    clear h3
    go_enter Tryz.func63,Tryz.ntmps63
    go_wp2_with fail
    refine(ZaU s t _ hs ht).mono ?_
    rintro e w2 ⟨rfl,hb⟩
    rw[HE.out]
    have HB2:=Zpz (HAL.out.trans (hb.mono HAL.out.size))
    clear hb
    go_wp2
    go_ret
    exact⟨by rw[HR.out];rfl,HB2.out⟩
theorem Zjw (n:Int) (w:World):(Instr.typeAssert (.iface 141 (.agg #[.int .i64 n])) 20 141 true).run Tryz.prog w=.ok (.tuple #[.agg #[.int .i64 n],.bool true]) w:=Zb
theorem ZjU (w:World):(Instr.typeAssert .nilIface 20 141 true).run Tryz.prog w=.ok (.tuple #[.agg #[.int .i64 0],.bool false]) w:=Zb
abbrev erO (n:Int):Obj:=.cells #[.int .i64 n] 30
abbrev miO (n:Int):Obj:=.cells #[.int .i64 n] 141
theorem Zdp (c:Nat) (n:Int) (older:List PanicEntry) (w:World) (hc:w.heap[c]?=some (erO 0)) :
  CallsD Tryz.prog 109 #[.pointer (some ⟨c,0,none⟩)] (.panicking ({ v:=.iface 141 (.agg #[.int .i64 n]),recovered:=false }::older)) w fun e u' w'=>
   e=.returned (.tuple #[])/\u'=.panicking ({ v:=.iface 141 (.agg #[.int .i64 n]),recovered:=true }::older)/\w'.heap[c]?=some (erO n)/\Keeps (fun i=>i≠c) w w':=by
 have c0:=Zn hc 0 rfl
 have f0:=Zo hc 0
 have hta:=Zjw n
 have hcl:=(Zpu hc)
 refine callsD_of_wpS Tryz.func109 rfl fun c₀ cs hu=>?_
 apply wpS_seq
 apply wpS_region
 simp[wpOpsS,go_sem,recoverD,hu,Tryz.ntmps109,Exit.thenS]
 refine wpS_of_wp ?_
 simp only[Array.replicate_succ,Array.replicate_zero,List.push_toArray,List.append_toArray,Zps,List.cons_append,List.setIfInBounds_toArray,List.set_cons_zero,List.set_cons_succ]
 have hcm:((w.alloc (miO n))).cell? ⟨c,0,none⟩=some (.int .i64 0):=(Zai _ _ _ hcl).trans c0
 have hcf:((w.alloc (miO n))).frozen? ⟨c,0,none⟩=false:=(Zdw _ _ _ hcl).trans f0
 go_wp2
 exact⟨rfl,_,rfl,.tuple #[],by simp[results,Tryz.f109,go_sem],rfl,rfl,(Zo1 _ _ _ (by simpa[World.setCell] using hcl)).trans (ZoQ hc _),((Keeps.refl _ w).setCell (p:=⟨c,0,none⟩) Zc _).alloc _⟩
theorem Zfp (c:Nat) (w:World) :
  CallsD Tryz.prog 109 #[.pointer (some ⟨c,0,none⟩)] .returning w fun e u' w'=>
   e=.returned (.tuple #[])/\u'=.returning/\w'=w.alloc (miO 0):=by
 have hta:=ZjU
 refine callsD_of_wpS Tryz.func109 rfl fun c₀ cs hu=>?_
 apply wpS_seq
 apply wpS_region
 simp[wpOpsS,go_sem,recoverD,hu,Tryz.ntmps109,Exit.thenS]
 refine wpS_of_wp ?_
 simp only[Array.replicate_succ,Array.replicate_zero,List.push_toArray,List.append_toArray,Zps,List.cons_append,List.setIfInBounds_toArray,List.set_cons_zero,List.set_cons_succ]
 go_wp2
 exact⟨rfl,.returning,by cases c₀;simp_all,.tuple #[],by simp[results,Tryz.f109,go_sem],rfl,rfl,rfl⟩
def ZgO (Q:Int->World->Prop) (S:Nat->Prop) (w:World) (e:Ending) (w':World):Prop:=
 ∃ n,((n=0/\e=.returned (.tuple #[]))\/(n≠0/\e=ZdO n))/\Q n w'/\Keeps S w w'
def Zej (Q:Int->World->Prop) (S:Nat->Prop) (w:World) (e:Ending) (w':World):Prop:=∃ n,e=.returned (.int .i64 n)/\Q n w'/\Keeps S w w'
theorem ZeI {f:Nat} {caps:Array Value} (hent:∀ args w,(callFunc f args).run Tryz.prog w=.ok (.enter f args) w) {Q:Int->World->Prop} {S:Nat->Prop} {w:World} (hS:∀ b,w.heap.size<=b->S b)
  (hQ:∀ n W W',Q n W->Keeps (fun b=>b≠w.heap.size) W W'->Q n W')
  (hdo:Calls Tryz.prog f caps (w.alloc (erO 0)) (ZgO Q S (w.alloc (erO 0)))) :
  Calls Tryz.prog 50 #[.func (.func f) #[] caps] w (Zej Q S w):=by
 have hmf:∀ (fn:Fn) (first cap:Array Value) (w:World),(Instr.makeFunc fn first cap).run Tryz.prog w=.ok (.func fn first cap) w:=fun _ _ _ _=>rfl
 have HD:=Zpz hdo
 have HQ:=Zpz hQ
 have HSS:=Zpz hS
 clear hdo hQ hS
 go_enter_defers Tryz.func50,Tryz.ntmps50
 go_wp2_with fail
 refine HD.out.mono ?_
 rintro e w2 ⟨n,hE,hA,hk⟩
 have he2:w2.heap[w.heap.size]?=some (erO 0):=(hk.block _ Zc (HSS.out _ ZpA)).trans (ZoO w _)
 have HA:=Zpz hA
 have HK2:Hid (Keeps S w w2):=((Keeps.refl S w).alloc _).trans hk
 obtain⟨p,hpp⟩:=ZpB w.heap.size
 rw[hpp] at he2 ⊢
 have HPP:=Zpz hpp
 clear hk hA hpp HD
 rcases hE with ⟨rfl,rfl⟩ | ⟨hn,rfl⟩
 ·have d0:=Zn he2 0 rfl
  have g0:=Zo he2 0
  have HE2:=Zpz he2
  clear he2
  go_wp2
  obtain⟨w3,hw3⟩:=ZpB ((w2.setCell ⟨p,0,none⟩ (.int .i64 0)))
  have he3:w3.heap[p]?=some (erO 0):=by rw[<- hw3];exact ZoQ HE2.out _
  have hk3:Keeps (fun b=>b≠p) w2 w3:=by rw[<- hw3];exact(Keeps.refl _ w2).setCell (p:=⟨p,0,none⟩) (fun h=>h rfl) _
  rw[hw3]
  clear hw3 d0 g0
  have hl3:=(Zpu he3)
  refine leaves_cons (f:=109) (args:=#[.pointer (some ⟨p,0,none⟩)]) Zc (by simp[go_sem]) ?_
  refine(Zfp p _).mono ?_
  rintro e u' w'' ⟨rfl,rfl,rfl⟩
  have q2:(w3.alloc (miO 0)).cell? ⟨p,0,none⟩=some (.int .i64 0):=(Zai _ _ _ hl3).trans (Zn he3 0 rfl)
  have hk4:Keeps (fun b=>b≠p) w2 (w3.alloc (miO 0)):=hk3.alloc _
  refine⟨.int .i64 0,by simp[results,Tryz.f50,go_sem,q2],0,rfl,HQ.out _ _ _ HA.out (by rw[HPP.out];exact hk4),?_⟩
  have h1:=HK2.out
  refine⟨hk4.os.trans h1.os,hk4.tape.trans h1.tape,hk4.output.trans h1.output,ZoU h1.size hk4.size,fun k hk hs=>?_⟩
  have hkp:k≠p:=by have:=HPP.out;omega
  exact(hk4.block k (ZoS hk h1.size) hkp).trans (h1.block k hk hs)
 ·unfold ZdO
  refine leaves_cons (f:=109) (args:=#[.pointer (some ⟨p,0,none⟩)]) Zc (by simp[go_sem]) ?_
  refine(Zdp p n [] _ he2).mono ?_
  rintro e u' w3 ⟨rfl,rfl,he3,hk4⟩
  have q2:w3.cell? ⟨p,0,none⟩=some (.int .i64 n):=Zn he3 0 rfl
  refine⟨.int .i64 n,by simp[results,Tryz.f50,go_sem,q2],n,rfl,HQ.out _ _ _ HA.out (by rw[HPP.out];exact hk4),?_⟩
  have h1:=HK2.out
  refine⟨hk4.os.trans h1.os,hk4.tape.trans h1.tape,hk4.output.trans h1.output,ZoU h1.size hk4.size,fun k hk hs=>?_⟩
  have hkp:k≠p:=by have:=HPP.out;omega
  exact(hk4.block k (ZoS hk h1.size) hkp).trans (h1.block k hk hs)
theorem CurveP.limB {bs:List BB} (h:CurveP bs):LimB bs:=fun x hx=>by
 obtain⟨i,hi,rfl⟩:=List.getElem_of_mem hx
 have h1:=h.small i hi
 rw[ZdC hi] at h1
 obtain⟨a1,a2,_⟩:=Zaj.1 h1.1
 obtain⟨b1,b2,_⟩:=Zaj.1 h1.2
 exact⟨⟨Za,Za⟩,Za,Za⟩
abbrev NotM (m:Nat):Nat->Prop:=fun b=>b≠m
structure TaskIn (t:TaskP) (sv hv rv:Value) (w:World):Prop where
 sites:ZnD w sv t.sites
 hours:IL w hv t.hours
 rates:PPL w rv t.rates
 det:DetV w
 tabs:Tabs w
 eff:EffZ w
theorem TaskIn.below {t:TaskP} {sv hv rv:Value} {w w':World} {B:Nat} (h:TaskIn t sv hv rv w) (hb:Below B w w') (hB:w.heap.size<=B):TaskIn t sv hv rv w':=
 ⟨h.sites.after Zc3.stays hb hB,h.hours.after IntR.stays hb hB,h.rates.after PPL.stays hb hB,h.det.below hb hB,h.tabs.below hb hB,h.eff.below hb hB⟩
structure TaskAt (t:TaskP) (sb so hb ho rb ro:Nat) (cv:Nat->Value) (rq rp rc:Nat->Nat) (w:World):Prop where
 site:∀ i,i<t.sites.length->w.cell? ⟨sb,so+i*3,none⟩=some (.string (eS t i).weight.1)/\w.cell? ⟨sb,so+i*3+1,none⟩=some (.string (eS t i).weight.2)/\w.cell? ⟨sb,so+i*3+2,none⟩=some (cv i)/\BL w (cv i) (eS t i).curve
 hour:∀ u,u<t.hours.length->w.cell? ⟨hb,ho+u,none⟩=some (.int .i64 (eH t u))
 rate:∀ u,u<t.rates.length->w.cell? ⟨rb,ro+u,none⟩=some (.slice (some ⟨rq u,rp u,none⟩) t.sites.length (rc u))/\t.sites.length<=rc u/\rc u<=9223372036854775807/\
  ∀ i,i<t.sites.length->w.cell? ⟨rq u,rp u+i*2,none⟩=some (.string (eR t u i).1)/\w.cell? ⟨rq u,rp u+i*2+1,none⟩=some (.string (eR t u i).2)
 det:DetV w
 tabs:Tabs w
 eff:EffZ w
def Zoh (p:List (List Int)) (N pb po:Nat) (gq gp gc:Nat->Nat) (w:World):Prop:=∀ u,u<p.length->w.cell? ⟨pb,po+u,none⟩=some (.slice (some ⟨gq u,gp u,none⟩) N (gc u))/\N<=gc u/\gc u<=9223372036854775807/\
 ∀ i,i<N->w.cell? ⟨gq u,gp u+i,none⟩=some (.int .i64 (pN p u i))
theorem ZgB {α:Type} [Inhabited α] {n:Nat} {Q:Nat->α->Prop} (h:∀ i,i<n->∃ x,Q i x):∃ f:Nat->α,∀ i,i<n->Q i (f i):=by
 refine⟨fun i=>if hi:i<n then Classical.choose (h i hi) else default,fun i hi=>?_⟩
 simp only[dif_pos hi]
 exact Classical.choose_spec (h i hi)
section
variable {w:World}
theorem ZaR {α:Type} {k:Nat} {R:World->Nat->Nat->α->Prop} {v:Value} {xs:List α} (h:LL k R w v xs) (hn:0<xs.length) :
  ∃ b o c,v=.slice (some ⟨b,o,none⟩) xs.length c/\xs.length<=c/\c<=9223372036854775807/\b<w.heap.size/\∀ j (hj:j<xs.length),R w b (o+j*k) xs[j]:=by
 obtain⟨p,c,h1,h2,h3,h4⟩:=h
 obtain⟨b,o,h5,h6,h7⟩:=h4 (ZoT hn)
 unfold maxLen at h3
 exact⟨b,o,c,by rw[h1,h5],h2,h3,h6,h7⟩
theorem Zem {v:Value} {ps:List PP} (h:PL w v ps) (hn:0<ps.length) :
  ∃ b o c,v=.slice (some ⟨b,o,none⟩) ps.length c/\ps.length<=c/\c<=9223372036854775807/\b<w.heap.size/\PAt w b o ps:=by
 obtain⟨p,c,h1,h2,h3,h4⟩:=h
 obtain⟨b,o,h5,h6,h7⟩:=h4 (ZoT hn)
 unfold maxLen at h3
 exact⟨b,o,c,by rw[h1,h5],h2,h3,h6,h7⟩
theorem TaskIn.open {t:TaskP} {sv hv rv:Value} (h:TaskIn t sv hv rv w) (ok:TaskOk t) :
  ∃ sb so sc hb ho hc rb ro rk cv rq rp rc,sv=.slice (some ⟨sb,so,none⟩) t.sites.length sc/\hv=.slice (some ⟨hb,ho,none⟩) t.hours.length hc/\rv=.slice (some ⟨rb,ro,none⟩) t.rates.length rk/\
   (t.sites.length<=sc/\sc<=9223372036854775807)/\(t.hours.length<=hc/\hc<=9223372036854775807)/\(t.rates.length<=rk/\rk<=9223372036854775807)/\
   ∀ w',Below w.heap.size w w'->TaskAt t sb so hb ho rb ro cv rq rp rc w':=by
 have n1:=ok.sites.1
 have n2:=ok.teams.1
 have n3:0<t.rates.length:=by rw[ok.rates];exact n2
 obtain⟨sb,so,sc,rfl,s1,s2,s3,s4⟩:=ZaR h.sites n1
 obtain⟨hb,ho,hc,rfl,h1,h2,h3,h4⟩:=ZaR h.hours n2
 obtain⟨rb,ro,rk,rfl,r1,r2,r3,r4⟩:=ZaR h.rates n3
 obtain⟨cv,hcv⟩:∃ cv:Nat->Value,∀ i,i<t.sites.length->w.cell? ⟨sb,so+i*3+2,none⟩=some (cv i)/\BL w (cv i) (eS t i).curve:=by
  haveI:Inhabited Value:=⟨.bool true⟩
  refine ZgB (Q:=fun i v=>w.cell? ⟨sb,so+i*3+2,none⟩=some v/\BL w v (eS t i).curve) fun i hi=>?_
  obtain⟨_,_,v,h5,h6⟩:=s4 i hi
  rw[Zfr hi] at h6
  exact⟨v,h5,h6⟩
 obtain⟨z,hz⟩:∃ z:Nat->Nat×Nat×Nat,∀ u,u<t.rates.length->w.cell? ⟨rb,ro+u,none⟩=some (.slice (some ⟨(z u).1,(z u).2.1,none⟩) t.sites.length (z u).2.2)/\t.sites.length<=(z u).2.2/\(z u).2.2<=9223372036854775807/\
   (z u).1<w.heap.size/\∀ i,i<t.sites.length->w.cell? ⟨(z u).1,(z u).2.1+i*2,none⟩=some (.string (eR t u i).1)/\w.cell? ⟨(z u).1,(z u).2.1+i*2+1,none⟩=some (.string (eR t u i).2):=by
  refine ZgB (Q:=fun u (z:Nat×Nat×Nat)=>w.cell? ⟨rb,ro+u,none⟩=some (.slice (some ⟨z.1,z.2.1,none⟩) t.sites.length z.2.2)/\t.sites.length<=z.2.2/\z.2.2<=9223372036854775807/\
   z.1<w.heap.size/\∀ i,i<t.sites.length->w.cell? ⟨z.1,z.2.1+i*2,none⟩=some (.string (eR t u i).1)/\w.cell? ⟨z.1,z.2.1+i*2+1,none⟩=some (.string (eR t u i).2)) fun u hu=>?_
  obtain⟨v,h5,h6⟩:=r4 u hu
  have h7:=(ok.team u hu).2.1
  obtain⟨b,o,c,rfl,c1,c2,c3,c4⟩:=Zem h6 (by rw[h7];exact n1)
  rw[Zpn,h7] at h5
  refine⟨(b,o,c),h5,by rw[<- h7];exact c1,c2,c3,fun i hi=>?_⟩
  have hi':i<t.rates[u].length:=by rw[h7];exact hi
  have:=c4 i hi'
  rw[ZgP hu hi'] at this
  exact this
 refine⟨sb,so,sc,hb,ho,hc,rb,ro,rk,cv,fun u=>(z u).1,fun u=>(z u).2.1,fun u=>(z u).2.2,rfl,rfl,rfl,⟨s1,s2⟩,⟨h1,h2⟩,⟨r1,r2⟩,fun w' hk=>?_⟩
 refine⟨fun i hi=>?_,fun u hu=>?_,fun u hu=>?_,h.det.below hk ZpA,h.tabs.below hk ZpA,h.eff.below hk ZpA⟩
 ·obtain⟨a0,a1,_⟩:=s4 i hi
  rw[Zfr hi] at a0 a1
  obtain⟨a2,a3⟩:=hcv i hi
  exact⟨(hk.cell (p:=⟨sb,so+i*3,none⟩) s3).trans a0,(hk.cell (p:=⟨sb,so+i*3+1,none⟩) s3).trans a1,(hk.cell (p:=⟨sb,so+i*3+2,none⟩) s3).trans a2,a3.after hk ZpA⟩
 ·have:=h4 u hu
  unfold IntR at this
  rw[ZiW hu,Zpn] at this
  exact(hk.cell (p:=⟨hb,ho+u,none⟩) h3).trans this
 ·obtain⟨b0,b1,b2,b3,b4⟩:=hz u hu
  exact⟨(hk.cell (p:=⟨rb,ro+u,none⟩) r3).trans b0,b1,b2,fun i hi=>⟨(hk.cell (p:=⟨(z u).1,(z u).2.1+i*2,none⟩) b3).trans (b4 i hi).1,(hk.cell (p:=⟨(z u).1,(z u).2.1+i*2+1,none⟩) b3).trans (b4 i hi).2⟩⟩
end
def Zbq (m:Nat) (Q:World->Prop) (w:World):Prop:=∃ w1,Q w1/\Below w1.heap.size w1 w/\w1.heap.size<=m
theorem Zbq.keep {m:Nat} {Q:World->Prop} {w w':World} (h:Zbq m Q w) (hk:Keeps (NotM m) w w'):Zbq m Q w':=by
 obtain⟨w1,h1,h2,h3⟩:=h
 refine⟨w1,h1,h2.trans ((hk.mono fun b _ hb=>?_:Keeps (fun b=>b<w1.heap.size) w w').toBelow h2.size),h3⟩
 show b≠m
 omega
structure PlanW (p:List (List Int)) (N m:Nat) (pv:Value) (pb po pc:Nat) (gq gp gc:Nat->Nat) (w:World):Prop where
 val:pv=.slice (some ⟨pb,po,none⟩) p.length pc
 cap:p.length<=pc/\pc<=9223372036854775807
 at':Zoh p N pb po gq gp gc w
 ne:pb≠m
 nes:∀ u,u<p.length->gq u≠m
theorem PlanW.keep {p:List (List Int)} {N m:Nat} {pv:Value} {pb po pc:Nat} {gq gp gc:Nat->Nat} {w w':World} (h:PlanW p N m pv pb po pc gq gp gc w) (hk:Keeps (NotM m) w w'):PlanW p N m pv pb po pc gq gp gc w':=
 ⟨h.val,h.cap,fun u hu=>by
  obtain⟨h1,h2,h3,h4⟩:=h.at' u hu
  exact⟨hk.cellAt h1 h.ne,h2,h3,fun i hi=>hk.cellAt (h4 i hi) (h.nes u hu)⟩,h.ne,h.nes⟩
structure WorkW (t:TaskP) (b m:Nat) (sv hv rv pv:Value) (w:World):Prop where
 blk:w.heap[b]?=some (.cells #[sv,hv,rv,pv,.map (some m)] 95)
 ne:b≠m
 task:Zbq m (TaskIn t sv hv rv) w
theorem WorkW.keep {t:TaskP} {b m:Nat} {sv hv rv pv:Value} {w w':World} (h:WorkW t b m sv hv rv pv w) (hk:Keeps (NotM m) w w'):WorkW t b m sv hv rv pv w':=
 ⟨(hk.block b (Zpu h.blk) h.ne).trans h.blk,h.ne,h.task.keep hk⟩
structure WorkA (t:TaskP) (b m:Nat) (sb so sc hb ho hc rb ro rk:Nat) (pv:Value) (cv:Nat->Value) (rq rp rc:Nat->Nat) (w:World):Prop where
 w0:w.cell? ⟨b,0,none⟩=some (.slice (some ⟨sb,so,none⟩) t.sites.length sc)
 w1:w.cell? ⟨b,1,none⟩=some (.slice (some ⟨hb,ho,none⟩) t.hours.length hc)
 w2:w.cell? ⟨b,2,none⟩=some (.slice (some ⟨rb,ro,none⟩) t.rates.length rk)
 w3:w.cell? ⟨b,3,none⟩=some pv
 w4:w.cell? ⟨b,4,none⟩=some (.map (some m))
 at':TaskAt t sb so hb ho rb ro cv rq rp rc w
theorem WorkW.open {t:TaskP} {b m:Nat} {sv hv rv pv:Value} {w:World} (h:WorkW t b m sv hv rv pv w) (ok:TaskOk t) :
  ∃ sb so sc hb ho hc rb ro rk cv rq rp rc,(t.sites.length<=sc/\sc<=9223372036854775807)/\(t.hours.length<=hc/\hc<=9223372036854775807)/\(t.rates.length<=rk/\rk<=9223372036854775807)/\
   ∀ w',Keeps (NotM m) w w'->WorkA t b m sb so sc hb ho hc rb ro rk pv cv rq rp rc w':=by
 obtain⟨w1,h1,h2,h3⟩:=id h.task
 obtain⟨sb,so,sc,hb,ho,hc,rb,ro,rk,cv,rq,rp,rc,rfl,rfl,rfl,k1,k2,k3,k4⟩:=h1.open ok
 refine⟨sb,so,sc,hb,ho,hc,rb,ro,rk,cv,rq,rp,rc,k1,k2,k3,fun w' hk=>?_⟩
 have hw:=h.keep hk
 have hb2:Below w1.heap.size w1 w':=h2.trans ((hk.mono fun b _ hb=>(by show b≠m;omega):Keeps (fun b=>b<w1.heap.size) w w').toBelow h2.size)
 exact⟨Zn hw.blk 0 rfl,Zn hw.blk 1 rfl,Zn hw.blk 2 rfl,Zn hw.blk 3 rfl,Zn hw.blk 4 rfl,k4 w' hb2⟩
structure Wk (m:Nat) (t:TaskP) (n:Nat) (w0:World) (bs:List (Nat×Obj)) (w:World):Prop where
 env:EnvS (NotM m) w0 bs w
 memo:Memo w m t n
section
variable {m n k:Nat} {t:TaskP} {w0 w w':World} {bs:List (Nat×Obj)}
theorem Wk.start (h:Memo w m t n):Wk m t n w [] w:=⟨EnvS.start w fun b hb e=>by have:=h.lt;omega,h⟩
theorem Wk.base (h:Wk m t n w0 bs w):Keeps (NotM m) w0 w:=h.env.base
theorem Wk.step (h:Wk m t n w0 bs w) (hb:Below w.heap.size w w'):Wk m t n w0 bs w':=⟨h.env.step hb,h.memo.step hb⟩
theorem Wk.drew (h:Wk m t n w0 bs w):Wk m t n w0 bs w.drew:=h.step (ZoL _ w).drew
theorem Wk.call (h:Wk m t n w0 bs w) (hk:Keeps (NotM m) w w') (hm:Memo w' m t k):Wk m t k w0 bs w':=⟨h.env.keep hk,hm⟩
theorem Wk.mono (h:Wk m t n w0 bs w) (hk:n<=k):Wk m t k w0 bs w:=⟨h.env,h.memo.mono hk⟩
theorem Wk.push (h:Wk m t n w0 bs w) (o:Obj) {g:Nat} (hg:g=w.heap.size):Wk m t n w0 ((g,o)::bs) (w.alloc o):=⟨h.env.push o hg,h.memo.step ((ZoL _ w).alloc ZpA o)⟩
theorem Wk.block (h:Wk m t n w0 bs w) (i:Nat) {g:Nat} {o:Obj} (hi:bs[i]?=some (g,o)):w.heap[g]?=some o:=h.env.block i hi
theorem Wk.cell (h:Wk m t n w0 bs w) (i j:Nat) {g:Nat} {cs:Array Value} {T:TypeId} {v:Value} (hi:bs[i]?=some (g,.cells cs T (0,0))) (hv:cs[j]?=some v):w.cell? ⟨g,j,none⟩=some v:=h.env.cell i j hi hv
theorem Wk.free (h:Wk m t n w0 bs w) (i j:Nat) {g:Nat} {cs:Array Value} {T:TypeId} (hi:bs[i]?=some (g,.cells cs T (0,0))):w.frozen? ⟨g,j,none⟩=false:=h.env.free i j hi
theorem Wk.put (h:Wk m t n w0 bs w) (i:Nat) {g:Nat} {o:Obj} (o':Obj) (hi:bs[i]?=some (g,o)) (hw:w'.heap[g]?=some o') (hk:Keeps (fun b=>b≠g) w w'):Wk m t n w0 (bs.set i (g,o')) w':=
 ⟨h.env.put i o' hi hw hk,h.memo.stay (hk.block m h.memo.lt fun e=>h.env.up g (h.env.le i hi) e.symm)⟩
theorem Wk.fill {g:Nat} {a b:Value} {T:TypeId} (h:Wk m t n w0 ((g,.cells #[a,b] T (0,0))::bs) w) (x y:Value):Wk m t n w0 ((g,.cells #[x,y] T (0,0))::bs) ((w.setCell ⟨g,0,none⟩ x).setCell ⟨g,1,none⟩ y):=
 h.put 0 (.cells #[x,y] T (0,0)) rfl (Zan (h.block 0 rfl) x y) (((Keeps.refl _ w).setCell Zc x).setCell Zc y)
theorem Wk.store (h:Wk m t n w0 bs w) (i j:Nat) {g:Nat} {cs:Array Value} {T:TypeId} (v:Value) (hi:bs[i]?=some (g,.cells cs T (0,0))):Wk m t n w0 (bs.set i (g,.cells (cs.set! j v) T (0,0))) (w.setCell ⟨g,j,none⟩ v):=
 h.put i (.cells (cs.set! j v) T (0,0)) hi (ZoQ (h.block i hi) v) ((Keeps.refl _ w).setCell Zc v)
theorem Wk.only (h:Wk m t n w0 bs w) (is:List Nat) (bs':List (Nat×Obj)) (hb:bs'=is.filterMap (fun i=>bs[i]?)) (hn:is.Nodup):Wk m t n w0 bs' w:=⟨h.env.only is bs' hb hn,h.memo⟩
end
theorem ZaH (s t:ByteArray) (w:World):Calls Tryz.prog 103 #[Zpw s t,.int .i64 0] w (Z1 (pV s t) w):=Znq s t w
theorem ZiN {n:Int} (h0:0<=n) (h1:n<=48) {x y:ByteArray} (hx:IsP ((n:Int):Rat) x y) (w:World) (hT:Tabs w) :
  Calls Tryz.prog 107 #[.int .i64 n,.int .i64 1] w (Z1 (.tuple #[pV x y,.int .i64 0]) w):=by
 refine(ZhS n 1 Za Za Zd Zd w hT).mono ?_
 rintro e w' ⟨u,v,k,rfl,h,hb⟩
 rcases h with ⟨h,_⟩ | ⟨_,h,_⟩ | ⟨_,_,h⟩
 ·omega
 ·cases h
 ·have e1:mkRat (n.toNat:Nat) (1:Int).toNat=((n:Int):Rat):=by
   obtain⟨k,rfl⟩:∃ k:Nat,n=k:=⟨n.toNat,Za⟩
   have h:∀ k:Nat,k<=48->mkRat ((k:Int).toNat:Nat) (1:Int).toNat=(((k:Nat):Int):Rat):=by decide +kernel
   exact h k Za
  obtain⟨rfl,rfl,rfl⟩:=Zcn h hx e1
  exact⟨rfl,hb⟩
structure CovF (t:TaskP) (p:List (List Int)) (T N b rb ro rk pb po pc:Nat) (rq rp rc gq gp gc:Nat->Nat) (w:World):Prop where
 w2:w.cell? ⟨b,2,none⟩=some (.slice (some ⟨rb,ro,none⟩) T rk)
 w3:w.cell? ⟨b,3,none⟩=some (.slice (some ⟨pb,po,none⟩) T pc)
 rate:∀ u,u<T->w.cell? ⟨rb,ro+u,none⟩=some (.slice (some ⟨rq u,rp u,none⟩) N (rc u))/\∀ i,i<N->w.cell? ⟨rq u,rp u+i*2,none⟩=some (.string (eR t u i).1)/\w.cell? ⟨rq u,rp u+i*2+1,none⟩=some (.string (eR t u i).2)
 plan:∀ u,u<T->w.cell? ⟨pb,po+u,none⟩=some (.slice (some ⟨gq u,gp u,none⟩) N (gc u))/\∀ i,i<N->w.cell? ⟨gq u,gp u+i,none⟩=some (.int .i64 (pN p u i))
 eff:EffZ w
 tabs:Tabs w
theorem Zhx {t:TaskP} {p:List (List Int)} {b m:Nat} {sv hv rv pv:Value} {pb po pc:Nat} {gq gp gc:Nat->Nat} {w:World} (h:WorkW t b m sv hv rv pv w) (hP:PlanW p t.sites.length m pv pb po pc gq gp gc w) (ok:TaskOk t) (inn:Zbz t p) {i:Nat} (hi:i<t.sites.length) :
  Calls Tryz.prog 71 #[.pointer (some ⟨b,0,none⟩),.int .i64 i] w (fun e w'=>∃ x y,e=.returned (pV x y)/\IsP (covR t p i) x y/\Below w.heap.size w w'):=by
 obtain⟨sb,so,sc,hb,ho,hc,rb,ro,rk,cv,rq,rp,rc,k1,k2,k3,hA⟩:=h.open ok
 obtain⟨N,hN⟩:=ZpB t.sites.length
 obtain⟨T,hT⟩:=ZpB p.length
 have hTR:t.rates.length=T:=by rw[ok.rates,<- inn.1,hT]
 have hTH:t.hours.length=T:=by rw[<- inn.1,hT]
 have HC:Hid (∀ V,Below w.heap.size w V->CovF t p T N b rb ro rk pb po pc rq rp rc gq gp gc V):=fun V hV=>by
  have A:=hA V (hV.keepsS _)
  have B:=hP.keep (hV.keepsS _)
  refine⟨by rw[<- hTR];exact A.w2,by rw[<- hT];exact A.w3.trans (congrArg some B.val),fun u hu=>?_,fun u hu=>?_,A.at'.eff,A.at'.tabs⟩
  ·obtain⟨a1,_,_,a2⟩:=A.at'.rate u (by rw[hTR];exact hu)
   rw[hN] at a1 a2
   exact⟨a1,a2⟩
  ·obtain⟨a1,_,_,a2⟩:=B.at' u (by rw[hT];exact hu)
   rw[hN] at a1 a2
   exact⟨a1,a2⟩
 have HF:Hid (∀ k,k<T->(∃ x y,IsP (ZaL t p i (k+1)) x y)/\(∃ x y,IsP (rR t k i*((pN p k i:Int):Rat)) x y)/\(∃ x y,IsP ((pN p k i:Int):Rat) x y)/\IsP (rR t k i) (eR t k i).1 (eR t k i).2/\0<=pN p k i/\pN p k i<=48):=fun k hk=>by
  have hn:=inn.2.2 k i (by rw[hT];exact hk) hi
  exact⟨(Zc1 ok inn hi (by rw[hT];exact hk)).1,(ZfB ok inn (by rw[hT];exact hk) hi).1,(Zd6 hn.1 hn.2).1,(Zd3 ok (by rw[hTR];exact hk) hi).1,hn.1,hn.2⟩
 have HT:Hid (p.length=T):=hT
 have hT8:T<=8:=by rw[<- hTH];exact ok.teams.2
 have hpc:T<=pc/\pc<=9223372036854775807:=by rw[<- hT];exact hP.cap
 have hrk:T<=rk/\rk<=9223372036854775807:=by rw[<- hTR];exact k3
 have hN24:N<=24:=by rw[<- hN];exact ok.sites.2
 rw[hN] at hi
 clear h hP ok inn hA k1 k2 k3 hN hT hTR hTH sc hb ho hc
 have HE0:Hid (Env w.heap.size w [(w.heap.size,pObj Zpv Zpv)] [] (w.alloc (pObj Zpv Zpv))):=(Env.start w).push _ rfl
 have A0:=HC.out _ HE0.out.base
 have z0:=A0.eff.z0
 have z1:=A0.eff.z1
 have HE1:Hid (Env w.heap.size w [(w.heap.size+1,pObj ⟨#[48]⟩ ⟨#[49]⟩),(w.heap.size,pObj Zpv Zpv)] [] ((w.alloc (pObj Zpv Zpv)).alloc (pObj ⟨#[48]⟩ ⟨#[49]⟩))):=HE0.out.push _ Zc
 have A1:=HC.out _ HE1.out.base
 have a3:=A1.w3
 clear A0 A1 HE0
 go_enter Tryz.func71,Tryz.ntmps71
 go_wp2_with fail
 clear z0 z1 a3
 go_loopw [16] (fun v wr=>∃ (k:Nat) (a:Rat) (x y:ByteArray),v=.int .i64 k/\k<=T/\Hid (IsP a x y)/\Hid (a=ZaL t p i k)/\Hid (Env w.heap.size w [(w.heap.size+1,pObj x y),(w.heap.size,pObj Zpv Zpv)] [] wr)) (fun v _=>T-(intOf v).toNat)
 case atStart=>exact⟨0,0,_,_,rfl,ZoY _,Zaf,rfl,HE1⟩
 case round=>
  obtain⟨k,a,x,y,rfl,hk,HIA,HEQ,HE⟩:=hrel
  clear HE1
  by_cases hlt:k<T
  ·have HK:Hid (∀ V,Below w.heap.size w V->(V.cell? ⟨b,2,none⟩=some (.slice (some ⟨rb,ro,none⟩) T rk)/\V.cell? ⟨rb,ro+k,none⟩=some (.slice (some ⟨rq k,rp k,none⟩) N (rc k))/\V.cell? ⟨rq k,rp k+i*2,none⟩=some (.string (eR t k i).1)/\V.cell? ⟨rq k,rp k+i*2+1,none⟩=some (.string (eR t k i).2))/\
     (V.cell? ⟨pb,po+k,none⟩=some (.slice (some ⟨gq k,gp k,none⟩) N (gc k))/\V.cell? ⟨gq k,gp k+i,none⟩=some (.int .i64 (pN p k i)))/\Tabs V):=fun V hV=>by
    have A:=HC.out V hV
    exact⟨⟨A.w2,(A.rate k hlt).1,((A.rate k hlt).2 i hi).1,((A.rate k hlt).2 i hi).2⟩,⟨(A.plan k hlt).1,(A.plan k hlt).2 i hi⟩,A.tabs⟩
   have hF:=HF.out k hlt
   have HNX:Hid (ZaL t p i (k+1)=a+rR t k i*((pN p k i:Int):Rat)):=by rw[HEQ.out];rfl
   obtain⟨q1,hq1⟩:=ZpB (rq k)
   obtain⟨o1,ho1⟩:=ZpB (rp k)
   obtain⟨c1,hc1⟩:=ZpB (rc k)
   obtain⟨q2,hq2⟩:=ZpB (gq k)
   obtain⟨o2,ho2⟩:=ZpB (gp k)
   obtain⟨c2,hc2⟩:=ZpB (gc k)
   obtain⟨n,hn⟩:=ZpB (pN p k i)
   obtain⟨⟨s1,t1⟩,hs1⟩:∃ z,eR t k i=z:=⟨_,rfl⟩
   rw[hq1,ho1,hc1,hq2,ho2,hc2,hn,hs1] at HK
   rw[hn,hs1] at hF
   rw[hn] at HNX
   dsimp only at HK hF
   obtain⟨⟨x9,y9,hx9⟩,⟨x8,y8,hx8⟩,⟨xr,yr,hxr⟩,hrr,hn0,hn1⟩:=hF
   have HX9:=Zpz hx9
   have HX8:=Zpz hx8
   have HXR:=Zpz hxr
   have HRR:=Zpz hrr
   clear hx9 hx8 hxr hrr hq1 ho1 hc1 hq2 ho2 hc2 hn hs1
   obtain⟨_,⟨p0,p1⟩,_⟩:=HK.out _ HE.out.base
   have i0':(0:Int)<=(k:Int):=Za
   have i1':(k:Int)<(T:Int):=Za
   have j0':(0:Int)<=(i:Int):=Za
   have j1':(i:Int)<(N:Int):=Za
   go_wp2_with fail
   refine(ZiN hn0 hn1 HXR.out _ (HK.out _ HE.out.base).2.2).mono ?_
   rintro e w2 ⟨rfl,hb2⟩
   have HE2:=Zpz ((HE.out.step hb2).push (pObj xr yr) rfl)
   clear hb2 p0 p1 HE
   obtain⟨g,hg⟩:=ZpB w2.heap.size
   obtain⟨w3,hw3⟩:=ZpB (w2.alloc (pObj xr yr))
   rw[hg,hw3] at HE2
   go_wp2_with fail
   try rw[hg]
   try rw[hw3]
   clear hg hw3
   refine ZP [(1,0),(1,1),(1,2),(1,3),(1,4),(1,5),(1,6),(1,7),(1,8),(1,9),(1,10),(1,11),(1,12),(0,13),(1,14),(1,15),(0,16),(0,17),(1,18),(1,19),(0,20),(0,21)] (Env w.heap.size w [(g,pObj xr yr),(w.heap.size+1,pObj x y),(w.heap.size,pObj Zpv Zpv)] []) (fun i=>i==21)
    Zb Zb (fun j hj=>by have h:22<=j:=hj;simp;omega) Zi HE2.out.drew ?_
   obtain⟨w4,hw4⟩:=ZpB w3.drew
   have HE4:Hid (Env w.heap.size w [(g,pObj xr yr),(w.heap.size+1,pObj x y),(w.heap.size,pObj Zpv Zpv)] [] w4):=by rw[<- hw4];exact HE2.out.drew
   rw[hw4]
   clear hw4 HE2
   iterate 13
    refine Zx _ rfl rfl (fun w' hS=>by have c0:=hS.cell 1 0 (v:=.string x) rfl rfl;have c1:=hS.cell 1 1 (v:=.string y) rfl rfl;have d0:=hS.cell 0 0 (v:=.string xr) rfl rfl;have d1:=hS.cell 0 1 (v:=.string yr) rfl rfl;obtain⟨⟨e0,e1,e2,e3⟩,_,_⟩:=HK.out _ hS.base;exact Ze) ?_
    simp only[Act.put,Zl]
   refine Zz 119 _ rfl rfl Zf ?_
   have HEC:=HE4
   refine(ZdY HRR.out HXR.out HX8.out rfl _ (HK.out _ HEC.out.base).2.2).mono ?_
   rintro e w5 ⟨rfl,hb⟩
   have HE5:=Zpz (HEC.out.step hb)
   refine .inl ⟨_,rfl,HE5.out,?_⟩
   clear hb HEC
   simp only[Act.put,Zl]
   iterate 2
    refine Zx _ rfl rfl (fun w' hS=>Ze) ?_
    simp only[Act.put,Zl]
   refine Zz 103 _ rfl rfl Zf ?_
   have HEC:=HE5
   refine(ZaH x8 y8 _).mono ?_
   rintro e w6 ⟨rfl,hb⟩
   have HE6:=Zpz (HEC.out.step hb)
   refine .inl ⟨_,rfl,HE6.out,?_⟩
   clear hb HEC
   simp only[Act.put,Zl]
   refine Zz 42 _ rfl rfl Zf ?_
   have HEC:=HE6
   refine(Zit HIA.out HX8.out HX9.out HNX.out.symm _ (HK.out _ HEC.out.base).2.2).mono ?_
   rintro e w7 ⟨rfl,hb⟩
   have HE7:=Zpz (HEC.out.step hb)
   refine .inl ⟨_,rfl,HE7.out,?_⟩
   clear hb HEC
   simp only[Act.put,Zl]
   iterate 2
    refine Zx _ rfl rfl (fun w' hS=>Ze) ?_
    simp only[Act.put,Zl]
   refine Zz 103 _ rfl rfl Zf ?_
   have HEC:=HE7
   refine(ZaH x9 y9 _).mono ?_
   rintro e w8 ⟨rfl,hb⟩
   have HE8:=Zpz (HEC.out.step hb)
   refine .inl ⟨_,rfl,HE8.out,?_⟩
   clear hb HEC
   simp only[Act.put,Zl]
   have HE9:=Zpz (HE8.out.only [1,2] _ rfl Zd)
   have r0:=HE9.out.cell 0 0 rfl rfl
   have r1:=HE9.out.cell 0 1 rfl rfl
   have f0:=HE9.out.free 0 0 rfl
   have f1:=HE9.out.free 0 1 rfl
   refine ZB rfl rfl fun K hK=>?_
   go_simp
   have HE10:=Zpz (HE9.out.fill (.string x9) (.string y9))
   refine hK _ _ (.inl rfl) ?_
   clear hK K r0 r1 f0 f1 HE4 HE5 HE6 HE7 HE8 HE9
   refine ZF ?_
   go_wp2
   go_roundw
   case rel=>exact⟨k+1,_,x9,y9,by go_num,Za,HX9,rfl,HE10⟩
   case measure=>exact Zj
  ·have hkm:k=T:=Za
   have HAA:Hid (IsP (covR t p i) x y):=by
    have h:=HIA.out
    rw[HEQ.out,hkm] at h
    unfold covR
    rw[HT.out]
    exact h
   have HE1:=Zpz (HE.out.only [1,0] _ rfl Zd)
   clear hkm
   have c0:=HE1.out.cell 1 0 (v:=.string x) rfl rfl
   have c1:=HE1.out.cell 1 1 (v:=.string y) rfl rfl
   have r0:=HE1.out.cell 0 0 rfl rfl
   have r1:=HE1.out.cell 0 1 rfl rfl
   have f0:=HE1.out.free 0 0 rfl
   have f1:=HE1.out.free 0 1 rfl
   go_wp2
   have HE9:=Zpz (HE1.out.fill (.string x) (.string y))
   have q0:=HE9.out.cell 0 0 (v:=.string x) rfl rfl
   have q1:=HE9.out.cell 0 1 (v:=.string y) rfl rfl
   exact ZoM (v:=Zpw x y) (by simp[results,Tryz.f71,go_sem,q0,q1]) rfl ⟨x,y,rfl,HAA.out,HE9.out.base⟩
theorem EnvS.tail {S:Nat->Prop} {w0 w:World} {p:Nat×Obj} {bs:List (Nat×Obj)} (h:EnvS S w0 (p::bs) w):EnvS S w0 bs w:=
 ⟨h.base,h.up,fun i q hq=>h.cells (i+1) q (by simpa using hq),fun i j p q hp hq e=>by have:=h.apart (i+1) (j+1) p q (by simpa using hp) (by simpa using hq) e;omega⟩
theorem Wk.tail {m n:Nat} {t:TaskP} {w0 w:World} {p:Nat×Obj} {bs:List (Nat×Obj)} (h:Wk m t n w0 (p::bs) w):Wk m t n w0 bs w:=⟨h.env.tail,h.memo⟩
theorem Wk.bare {m n:Nat} {t:TaskP} {w0 w:World} {ob:Obj} {bs:List (Nat×Obj)} {g:Option Nat} (h:Wk m t n w0 (Zc5 ob bs g) w):Wk m t n w0 bs w:=by
 cases g with
 | none=>exact h
 | some G=>exact h.tail
def Zel (q:Rat) (m:Nat) (t:TaskP) (n:Nat) (w:World) (e:Ending) (w':World):Prop:=∃ x y,e=.returned (pV x y)/\IsP q x y/\Keeps (NotM m) w w'/\Memo w' m t n
abbrev aO (i:Int) (s u:ByteArray):Obj:=.cells #[.int .i64 i,.string s,.string u] 201
theorem ZfY {t:TaskP} {b m n:Nat} {sv hv rv pv:Value} {w:World} (h:WorkW t b m sv hv rv pv w) (hm:Memo w m t n) (hn:n<=1000000000000) (ok:TaskOk t) {i:Nat} (hi:i<t.sites.length) {q:Rat} {s u:ByteArray} (hq:IsP q s u) (hz:Sz 300 q) :
  Calls Tryz.prog 120 #[.pointer (some ⟨b,0,none⟩),.int .i64 i,pV s u] w (Zel (chF (eS t i).curve q) m t (n+1) w):=by
 obtain⟨sb,so,sc,hb,ho,hc,rb,ro,rk,cv,rq,rp,rc,k1,k2,k3,hA⟩:=h.open ok
 have HF:Hid (∃ x y,IsP (chF (eS t i).curve q) x y):=(ZdA ok hi hq.nn hz ZpA).1
 have HCH:Hid (ZW (eS t i).curve.length (cR (eS t i).curve) (hR (eS t i).curve) q (chF (eS t i).curve q)):=ZdJ (ok.site i hi).2 q
 have HCU:Hid (CurveP (eS t i).curve):=(ok.site i hi).2
 have HW:=Zpz hA
 have HQ:=Zpz hq
 have HZ:=Zpz hz
 have HI:=Zpz hi
 have hN24:=ok.sites.2
 have HN24:=Zpz hN24
 have HN:=Zpz hn
 obtain⟨W3,hW3⟩:=ZpB (((w.alloc (pObj s u)).alloc (pObj Zpv Zpv)).alloc (aO i s u))
 obtain⟨G,hG⟩:=ZpB w.heap.size
 have HE0:Hid (Wk m t n w [(G+1+1,aO i s u),(G+1,pObj Zpv Zpv),(G,pObj s u)] W3):=by
  rw[<- hW3,<- hG]
  exact(((Wk.start hm).push (pObj s u) rfl).push (pObj Zpv Zpv) Zc).push (aO i s u) Zc
 obtain⟨N,hNN⟩:=ZpB t.sites.length
 have HLK:=Zpz (HE0.out.memo.look hi hN24 hq)
 have HS:Hid (∀ V,Keeps (NotM m) w V->V.cell? ⟨b,0,none⟩=some (.slice (some ⟨sb,so,none⟩) N sc)/\V.cell? ⟨b,4,none⟩=some (.map (some m))/\V.cell? ⟨sb,so+i*3+2,none⟩=some (cv i)/\BL V (cv i) (eS t i).curve/\DetV V/\Tabs V):=fun V hV=>by
  have A:=hA V hV
  obtain⟨_,_,a2,a3⟩:=A.at'.site i hi
  exact⟨by rw[<- hNN];exact A.w0,A.w4,a2,a3,A.at'.det,A.at'.tabs⟩
 obtain⟨k1,k1'⟩:=k1
 rw[hNN] at k1 hi
 obtain⟨cvi,hcv⟩:=ZpB (cv i)
 rw[hcv] at HS
 have f0:W3.cell? ⟨G,0,none⟩=some (.string s):=HE0.out.cell 2 0 rfl rfl
 clear h hm hn ok hq hz hA k2 k3 hcv hNN hN24
 go_enter Tryz.func120,Tryz.ntmps120
 go_wp2_with fail
 rcases HLK.out with ⟨x,y,hx,hlk⟩ | hlk
 ·have HX:=Zpz hx
  clear hx
  refine Za5 9 8 [(0,10),(2,11)] [(1,0),(1,1),(1,2),(1,3),(1,4),(1,5),(1,6),(2,7),(2,8)] (fun _ g V=>Wk m t n w (Zc5 (pObj Zpv Zpv) [(G+1+1,aO i s u),(G+1,pObj Zpv Zpv),(G,pObj s u)] g) V/\V.heap[m]?=W3.heap[m]?) (fun i=>i==7 || i==8 || i==10 || i==11)
   Zb Zb (fun j hj=>by have h:12<=j:=hj;simp;omega) Zi rfl rfl (fun _=>rfl) (fun a V K hK=>by go_simp;exact hK) (fun j V h=>⟨h.1.push _ rfl,(Zo1 V _ m h.1.memo.lt).trans h.2⟩) ⟨HE0.out.drew,rfl⟩ ?_
  iterate 5
   refine Z4 _ rfl (fun z=>rfl) (fun z j g w' hS=>by have hE:=hS.1.bare;have k0:=hE.cell 0 0 (v:=.int .i64 i) rfl rfl;have k1:=hE.cell 0 1 (v:=.string s) rfl rfl;have k2:=hE.cell 0 2 (v:=.string u) rfl rfl;obtain⟨_,e4,_⟩:=HS.out _ hE.base;exact Zg) ?_
   simp only[Act.put,Zl]
  refine Z4 (.tuple #[pV x y,.bool true]) rfl (fun z=>rfl) (fun z j g w' hS=>by have hlk:=hlk w' hS.2;simp only[Act.put,Zm];go_simp) ?_
  simp only[Act.put,Zl]
  iterate 1
   refine Z4 _ rfl (fun z=>rfl) (fun z j g w' hS=>Zg) ?_
   simp only[Act.put,Zl]
  iterate 2
   refine ZfV _ rfl (fun z=>rfl) (fun z w'=>Zh) ?_
   simp only[Act.put,Zl]
  refine ZbH fun g V hS=>?_
  simp only[Act.put,Zl]
  obtain⟨HE8,_⟩:=hS
  have HE8:Hid (Wk m t n w [(g,pObj Zpv Zpv),(G+1+1,aO i s u),(G+1,pObj Zpv Zpv),(G,pObj s u)] V):=HE8
  have r0:=HE8.out.cell 0 0 rfl rfl
  have r1:=HE8.out.cell 0 1 rfl rfl
  have f0:=HE8.out.free 0 0 rfl
  have f1:=HE8.out.free 0 1 rfl
  refine ZB rfl rfl fun K hK=>?_
  go_simp
  have HE9:=Zpz (HE8.out.fill (.string x) (.string y))
  refine hK _ _ (.inl rfl) ?_
  clear hK K r0 r1 f0 f1 HE8 HE0
  iterate 1
   refine Zc8 _ rfl rfl (fun w' _=>Zf) ?_
   simp only[Act.put,Zl]
  refine ZF ?_
  obtain⟨Z,hZ⟩:=ZpB ((V.setCell ⟨g,0,none⟩ (.string x)).setCell ⟨g,1,none⟩ (.string y))
  rw[hZ] at HE9 ⊢
  clear hZ
  clear hlk HLK
  have HE:=HE9
  have HEA:=Zpz (HE.out.only [2,0] _ rfl Zd)
  have d0:=HEA.out.cell 1 0 (v:=.string x) rfl rfl
  have d1:=HEA.out.cell 1 1 (v:=.string y) rfl rfl
  have r0:=HEA.out.cell 0 0 (v:=.string Zpv) rfl rfl
  have r1:=HEA.out.cell 0 1 (v:=.string Zpv) rfl rfl
  have f0:=HEA.out.free 0 0 rfl
  have f1:=HEA.out.free 0 1 rfl
  go_wp2
  have HEB:=Zpz (HEA.out.fill (.string x) (.string y))
  have q0:=HEB.out.cell 0 0 (v:=.string x) rfl rfl
  have q1:=HEB.out.cell 0 1 (v:=.string y) rfl rfl
  exact ZoM (v:=Zpw x y) (by simp[results,Tryz.f120,go_sem,q0,q1]) rfl ⟨x,y,rfl,HX.out,HEB.out.base,HEB.out.memo.mono (Nat.le_succ _)⟩
 ·obtain⟨x,y,hx⟩:=HF.out
  have HX:=Zpz hx
  clear hx
  refine Za5 9 8 [(0,10),(2,11)] [(1,0),(1,1),(1,2),(1,3),(1,4),(1,5),(1,6),(2,7),(2,8)] (fun _ g V=>Wk m t n w (Zc5 (pObj Zpv Zpv) [(G+1+1,aO i s u),(G+1,pObj Zpv Zpv),(G,pObj s u)] g) V/\V.heap[m]?=W3.heap[m]?) (fun i=>i==7 || i==8 || i==10 || i==11)
   Zb Zb (fun j hj=>by have h:12<=j:=hj;simp;omega) Zi rfl rfl (fun _=>rfl) (fun a V K hK=>by go_simp;exact hK) (fun j V h=>⟨h.1.push _ rfl,(Zo1 V _ m h.1.memo.lt).trans h.2⟩) ⟨HE0.out.drew,rfl⟩ ?_
  iterate 5
   refine Z4 _ rfl (fun z=>rfl) (fun z j g w' hS=>by have hE:=hS.1.bare;have k0:=hE.cell 0 0 (v:=.int .i64 i) rfl rfl;have k1:=hE.cell 0 1 (v:=.string s) rfl rfl;have k2:=hE.cell 0 2 (v:=.string u) rfl rfl;obtain⟨_,e4,_⟩:=HS.out _ hE.base;exact Zg) ?_
   simp only[Act.put,Zl]
  refine Z4 (.tuple #[pV Zpv Zpv,.bool false]) rfl (fun z=>rfl) (fun z j g w' hS=>by have hlk:=hlk w' hS.2;simp only[Act.put,Zm];go_simp) ?_
  simp only[Act.put,Zl]
  iterate 1
   refine Z4 _ rfl (fun z=>rfl) (fun z j g w' hS=>Zg) ?_
   simp only[Act.put,Zl]
  iterate 2
   refine ZfV _ rfl (fun z=>rfl) (fun z w'=>Zh) ?_
   simp only[Act.put,Zl]
  refine ZbH fun g V hS=>?_
  simp only[Act.put,Zl]
  obtain⟨HE8,_⟩:=hS
  have HE8:Hid (Wk m t n w [(g,pObj Zpv Zpv),(G+1+1,aO i s u),(G+1,pObj Zpv Zpv),(G,pObj s u)] V):=HE8
  have r0:=HE8.out.cell 0 0 rfl rfl
  have r1:=HE8.out.cell 0 1 rfl rfl
  have f0:=HE8.out.free 0 0 rfl
  have f1:=HE8.out.free 0 1 rfl
  refine ZB rfl rfl fun K hK=>?_
  go_simp
  have HE9:=Zpz (HE8.out.fill (.string Zpv) (.string Zpv))
  refine hK _ _ (.inl rfl) ?_
  clear hK K r0 r1 f0 f1 HE8 HE0
  iterate 1
   refine Zc8 _ rfl rfl (fun w' _=>Zf) ?_
   simp only[Act.put,Zl]
  refine ZF ?_
  obtain⟨Z,hZ⟩:=ZpB ((V.setCell ⟨g,0,none⟩ (.string Zpv)).setCell ⟨g,1,none⟩ (.string Zpv))
  rw[hZ] at HE9 ⊢
  clear hZ
  clear hlk HLK
  go_wp2_with fail
  refine ZP [(1,0),(1,1),(1,2),(1,3),(1,4),(1,5),(1,6),(1,7),(1,8),(1,9),(0,10),(1,11),(1,12),(0,13),(0,14)] (Wk m t n w [(g,pObj Zpv Zpv),(G+1+1,aO i s u),(G+1,pObj Zpv Zpv),(G,pObj s u)]) (fun i=>i==14)
   Zb Zb (fun j hj=>by have h:15<=j:=hj;simp;omega) Zi HE9.out.drew ?_
  obtain⟨w4,hw4⟩:=ZpB Z.drew
  have HE4:Hid (Wk m t n w [(g,pObj Zpv Zpv),(G+1+1,aO i s u),(G+1,pObj Zpv Zpv),(G,pObj s u)] w4):=by rw[<- hw4];exact HE9.out.drew
  rw[hw4]
  clear hw4 HE9
  have i0':(0:Int)<=(i:Int):=Za
  have i1':(i:Int)<(N:Int):=Za
  iterate 10
   refine Zx _ rfl rfl (fun w' hS=>by have c0:=hS.cell 3 0 (v:=.string s) rfl rfl;have c1:=hS.cell 3 1 (v:=.string u) rfl rfl;obtain⟨e0,e1,e2,_⟩:=HS.out _ hS.base;exact Ze) ?_
   simp only[Act.put,Zl]
  refine Zz 168 _ rfl rfl Zf ?_
  have HEC:=HE4
  refine(ZmK (HS.out _ HEC.out.base).2.2.2.1 HCU.out HCU.out.limB HQ.out HZ.out HCH.out HX.out (HS.out _ HEC.out.base).2.2.2.2.1 (HS.out _ HEC.out.base).2.2.2.2.2).mono ?_
  rintro e w5 ⟨rfl,hb⟩
  have HE5:=Zpz (HEC.out.step hb)
  refine .inl ⟨_,rfl,HE5.out,?_⟩
  clear hb HEC
  simp only[Act.put,Zl]
  iterate 2
   refine Zx _ rfl rfl (fun w' hS=>Ze) ?_
   simp only[Act.put,Zl]
  refine Zz 103 _ rfl rfl Zf ?_
  have HEC:=HE5
  refine(ZaH x y _).mono ?_
  rintro e w6 ⟨rfl,hb⟩
  have HE6:=Zpz (HEC.out.step hb)
  refine .inl ⟨_,rfl,HE6.out,?_⟩
  clear hb HEC
  simp only[Act.put,Zl]
  have r0:=HE6.out.cell 0 0 rfl rfl
  have r1:=HE6.out.cell 0 1 rfl rfl
  have f0:=HE6.out.free 0 0 rfl
  have f1:=HE6.out.free 0 1 rfl
  refine ZB rfl rfl fun K hK=>?_
  go_simp
  have HE7:=Zpz (HE6.out.fill (.string x) (.string y))
  refine hK _ _ (.inl rfl) ?_
  clear hK K r0 r1 f0 f1 HE4 HE5 HE6
  refine ZF ?_
  obtain⟨Z2,hZ⟩:=ZpB ((w6.setCell ⟨g,0,none⟩ (.string x)).setCell ⟨g,1,none⟩ (.string y))
  rw[hZ] at HE7 ⊢
  clear hZ
  go_wp2_with fail
  obtain⟨w8,hput,hm8,hk8⟩:=(HE7.out.drew.memo).put HI.out HN24.out HQ.out HX.out HN.out
  refine ZP [(1,0),(1,1),(1,2),(1,3),(1,4),(1,5),(0,6)] (fun V=>V=Z2.drew) (fun i=>i==6)
   Zb Zb (fun j hj=>by have h:7<=j:=hj;simp;omega) Zi rfl ?_
  have HE8:Hid (Wk m t (n+1) w [(g,pObj x y),(G+1+1,aO i s u),(G+1,pObj Zpv Zpv),(G,pObj s u)] w8):=HE7.out.drew.call hk8 hm8
  iterate 6
   refine Zx _ rfl rfl (fun w' hS=>by subst hS;have hE:=HE7.out.drew;have c0:=hE.cell 0 0 (v:=.string x) rfl rfl;have c1:=hE.cell 0 1 (v:=.string y) rfl rfl;have k0:=hE.cell 1 0 (v:=.int .i64 i) rfl rfl;have k1:=hE.cell 1 1 (v:=.string s) rfl rfl;have k2:=hE.cell 1 2 (v:=.string u) rfl rfl;obtain⟨_,e1,_⟩:=HS.out _ hE.base;exact Ze) ?_
   simp only[Act.put,Zl]
  refine ZB rfl rfl fun K hK=>?_
  go_simp
  refine hK _ _ (.inl rfl) ?_
  clear hK K hput hm8 hk8 HE7
  refine ZF ?_
  have HE:=HE8
  have HEA:=Zpz (HE.out.only [2,0] _ rfl Zd)
  have d0:=HEA.out.cell 1 0 (v:=.string x) rfl rfl
  have d1:=HEA.out.cell 1 1 (v:=.string y) rfl rfl
  have r0:=HEA.out.cell 0 0 (v:=.string Zpv) rfl rfl
  have r1:=HEA.out.cell 0 1 (v:=.string Zpv) rfl rfl
  have f0:=HEA.out.free 0 0 rfl
  have f1:=HEA.out.free 0 1 rfl
  go_wp2
  have HEB:=Zpz (HEA.out.fill (.string x) (.string y))
  have q0:=HEB.out.cell 0 0 (v:=.string x) rfl rfl
  have q1:=HEB.out.cell 0 1 (v:=.string y) rfl rfl
  exact ZoM (v:=Zpw x y) (by simp[results,Tryz.f120,go_sem,q0,q1]) rfl ⟨x,y,rfl,HX.out,HEB.out.base,HEB.out.memo⟩
abbrev siO (s t:ByteArray) (v:Value):Obj:=.cells #[.string s,.string t,v] 74
def WkX (m:Nat) (t:TaskP) (w0:World) (bs:List (Nat×Obj)) (w:World):Prop:=∃ n,Wk m t n w0 bs w
def Zon (f:Nat->Rat) (N m:Nat) (t:TaskP) (n:Nat) (w:World) (e:Ending) (w':World):Prop:=
 ∃ x y k,((k=0/\e=.returned (pV x y))\/(k≠0/\e=ZdO k))/\SumE f N x y k/\Keeps (NotM m) w w'/\Memo w' m t n
theorem Zga {a b:Rat} {s t u v:ByteArray} (ha:IsP a s t) (hb:IsP b u v) (w:World) (hT:Tabs w) :
  Calls Tryz.prog 42 #[pV s t,pV u v] w (ZL (Ans (a+b)) w):=by
 refine(Zkw s t u v w ha.le.1 ha.le.2 hb.le.1 hb.le.2 hT).mono ?_
 rintro e w' ⟨x,y,n,rfl,h,hB⟩
 rcases h with ⟨h,_⟩ | ⟨_,h⟩
 ·rw[ha.oks hb] at h;cases h
 ·rw[ha.rat,hb.rat] at h
  exact⟨x,y,n,rfl,h,hB⟩
theorem ZgT {t:TaskP} {p:List (List Int)} {b m n:Nat} {sv hv rv pv:Value} {pb po pc:Nat} {gq gp gc:Nat->Nat} {w:World} (h:WorkW t b m sv hv rv pv w) (hP:PlanW p t.sites.length m pv pb po pc gq gp gc w) (hm:Memo w m t n) (hn:n<=900000000000) (ok:TaskOk t) (inn:Zbz t p) :
  Calls Tryz.prog 60 #[.pointer (some ⟨b,0,none⟩)] w (Zon (valF t p) t.sites.length m t (n+24) w):=by
 obtain⟨sb,so,sc,hb,ho,hc,rb,ro,rk,cv,rq,rp,rc,k1,k2,k3,hA⟩:=h.open ok
 obtain⟨N,hN⟩:=ZpB t.sites.length
 have HS:Hid (∀ V,Keeps (NotM m) w V->V.cell? ⟨b,0,none⟩=some (.slice (some ⟨sb,so,none⟩) N sc)/\(∀ i,i<N->V.cell? ⟨sb,so+i*3,none⟩=some (.string (eS t i).weight.1)/\V.cell? ⟨sb,so+i*3+1,none⟩=some (.string (eS t i).weight.2)/\V.cell? ⟨sb,so+i*3+2,none⟩=some (cv i))/\EffZ V/\Tabs V):=fun V hV=>by
  have A:=hA V hV
  refine⟨by rw[<- hN];exact A.w0,fun i hi=>?_,A.at'.eff,A.at'.tabs⟩
  obtain⟨a0,a1,a2,_⟩:=A.at'.site i (by rw[hN];exact hi)
  exact⟨a0,a1,a2⟩
 have HCV:Hid (∀ i,i<N->∀ V,Keeps (NotM m) w V->Calls Tryz.prog 71 #[.pointer (some ⟨b,0,none⟩),.int .i64 i] V (fun e w'=>∃ x y,e=.returned (pV x y)/\IsP (covR t p i) x y/\Below V.heap.size V w')):=fun i hi V hV=>
  Zhx (h.keep hV) (hP.keep hV) ok inn (by rw[hN];exact hi)
 have HCH:Hid (∀ i,i<N->∀ V k x y,Keeps (NotM m) w V->Memo V m t k->k<=1000000000000->IsP (covR t p i) x y->Calls Tryz.prog 120 #[.pointer (some ⟨b,0,none⟩),.int .i64 i,pV x y] V (Zel (chF (eS t i).curve (covR t p i)) m t (k+1) V)):=fun i hi V k x y hV hk hk2 hx=>
  ZfY (h.keep hV) hk hk2 ok (by rw[hN];exact hi) hx ((Zc1 ok inn (by rw[hN];exact hi) ZpA).2.1.mono Zd)
 have HF:Hid (∀ i,i<N->IsP (wR t i) (eS t i).weight.1 (eS t i).weight.2/\(∃ x y,IsP (valF t p i) x y)/\0<=valF t p i):=fun i hi=>by
  have hi':i<t.sites.length:=by rw[hN];exact hi
  obtain⟨c1,c2,c3⟩:=Zc1 ok inn hi' ZpA
  obtain⟨d1,d2,d3,d4⟩:=ZdA ok hi' c3 c2 Zd
  obtain⟨w1,w2⟩:=Zdr ok hi'
  have n0:=Rat.mul_nonneg w1.nn d3
  exact⟨w1,Zaa n0 (Sz.mul w1.nn d3 w2 d2) Zd Zd,n0⟩
 have HSH:Hid (∀ i,i<N->∃ p n c,cv i=.slice p n c):=fun i hi=>by
  obtain⟨_,_,_,h1⟩:=(hA w (Keeps.refl _ _)).at'.site i (by rw[hN];exact hi)
  obtain⟨p,c,h2,_⟩:=h1
  exact⟨_,_,_,h2⟩
 have HM:=Zpz hm
 have HN:=Zpz hn
 have hN24:N<=24:=by rw[<- hN];exact ok.sites.2
 have hsc:N<=sc/\sc<=9223372036854775807:=by rw[<- hN];exact k1
 rw[hN]
 clear h hP hm hn ok inn hA k1 k2 k3 hN
 have HE0:Hid (Wk m t n w [(w.heap.size,pObj Zpv Zpv)] (w.alloc (pObj Zpv Zpv))):=(Wk.start HM.out).push _ rfl
 obtain⟨a0,_,z,_⟩:=HS.out _ HE0.out.base
 have z0:=z.z0
 have z1:=z.z1
 have HE1:Hid (Wk m t n w [(w.heap.size+1,pObj ⟨#[48]⟩ ⟨#[49]⟩),(w.heap.size,pObj Zpv Zpv)] ((w.alloc (pObj Zpv Zpv)).alloc (pObj ⟨#[48]⟩ ⟨#[49]⟩))):=HE0.out.push _ Zc
 obtain⟨a1,_⟩:=HS.out _ HE1.out.base
 clear z HE0 HM
 go_enter Tryz.func60,Tryz.ntmps60
 go_wp2_with fail
 clear z0 z1 a0 a1
 go_loopw [13] (fun v wr=>∃ (k:Nat) (x y:ByteArray),v=.int .i64 k/\k<=N/\Hid (IsP (sumF (valF t p) k) x y)/\Hid (Zae (valF t p) k)/\Hid (Wk m t (n+k) w [(w.heap.size+1,pObj x y),(w.heap.size,pObj Zpv Zpv)] wr)) (fun v _=>N-(intOf v).toNat)
 case atStart=>exact⟨0,_,_,rfl,ZoY _,Zaf,Zae.zero _,HE1⟩
 case round=>
  obtain⟨k,x,y,rfl,hk,HIA,HAF,HE⟩:=hrel
  clear HE1
  by_cases hlt:k<N
  ·obtain⟨hF1,⟨x8,y8,hx8⟩,hnn⟩:=HF.out k hlt
   have HCV1:=Zpz (HCV.out k hlt)
   have HCH1:=Zpz (HCH.out k hlt)
   have HV:Hid (∀ V,Keeps (NotM m) w V->V.cell? ⟨sb,so+k*3,none⟩=some (.string (eS t k).weight.1)/\V.cell? ⟨sb,so+k*3+1,none⟩=some (.string (eS t k).weight.2)/\V.cell? ⟨sb,so+k*3+2,none⟩=some (cv k)):=fun V hV=>(HS.out V hV).2.1 k hlt
   obtain⟨pq,nq,cq,hcv⟩:=HSH.out k hlt
   obtain⟨⟨s1,t1⟩,hs1⟩:∃ z,(eS t k).weight=z:=⟨_,rfl⟩
   rw[hcv,hs1] at HV
   rw[hs1] at hF1
   dsimp only at HV hF1
   have HX8:=Zpz hx8
   have HWR:=Zpz hF1
   have HNN:=Zpz hnn
   clear hx8 hF1 hnn hcv hs1
   obtain⟨e0,e1,e2⟩:=HV.out _ HE.out.base
   have i0':(0:Int)<=(k:Int):=Za
   have i1':(k:Int)<(N:Int):=Za
   have HE2:=Zpz (HE.out.push (siO s1 t1 (.slice pq nq cq)) rfl)
   clear HE
   obtain⟨g,hg⟩:=ZpB wr.heap.size
   obtain⟨w3,hw3⟩:=ZpB (wr.alloc (siO s1 t1 (.slice pq nq cq)))
   rw[hg,hw3] at HE2
   go_wp2_with fail
   try rw[hg]
   try rw[hw3]
   clear hg hw3 e0 e1 e2
   refine ZP [(1,0),(1,1),(1,2),(1,3),(1,4),(1,5),(1,6),(0,7),(0,8),(0,9),(1,10),(1,11),(0,12),(0,13),(1,14),(1,15),(0,16),(0,17)] (WkX m t w [(g,siO s1 t1 (.slice pq nq cq)),(w.heap.size+1,pObj x y),(w.heap.size,pObj Zpv Zpv)]) (fun i=>i==17)
    Zb Zb (fun j hj=>by have h:18<=j:=hj;simp;omega) Zi ⟨_,HE2.out.drew⟩ ?_
   obtain⟨w4,hw4⟩:=ZpB w3.drew
   have HE4:Hid (Wk m t (n+k) w [(g,siO s1 t1 (.slice pq nq cq)),(w.heap.size+1,pObj x y),(w.heap.size,pObj Zpv Zpv)] w4):=by rw[<- hw4];exact HE2.out.drew
   rw[hw4]
   clear hw4 HE2
   iterate 7
    refine Zx _ rfl rfl (fun w' hS=>by obtain⟨_,hS⟩:=hS;have c0:=hS.cell 1 0 (v:=.string x) rfl rfl;have c1:=hS.cell 1 1 (v:=.string y) rfl rfl;have d0:=hS.cell 0 0 (v:=.string s1) rfl rfl;have d1:=hS.cell 0 1 (v:=.string t1) rfl rfl;exact Ze) ?_
    simp only[Act.put,Zl]
   refine Zz 71 _ rfl rfl Zf ?_
   have HEC:=HE4
   refine(HCV1.out _ HEC.out.base).mono ?_
   rintro e w5 ⟨xc,yc,rfl,hxc,hb⟩
   have HE5:=Zpz (HEC.out.step hb)
   refine .inl ⟨_,rfl,⟨_,HE5.out⟩,?_⟩
   clear hb HEC
   simp only[Act.put,Zl]
   have HXC:=Zpz hxc
   clear hxc
   refine Zz 120 _ rfl rfl Zf ?_
   have HEC:=HE5
   refine(HCH1.out _ _ _ _ HEC.out.base HEC.out.memo (by have:=HN.out;omega) HXC.out).mono ?_
   rintro e w6 ⟨xh,yh,rfl,hxh,hb,hmm⟩
   have HE6:=Zpz (HEC.out.call hb hmm)
   refine .inl ⟨_,rfl,⟨_,HE6.out⟩,?_⟩
   clear hb HEC
   simp only[Act.put,Zl]
   have HXH:=Zpz hxh
   clear hxh hmm
   refine Zz 119 _ rfl rfl Zf ?_
   have HEC:=HE6
   refine(ZdY HWR.out HXH.out HX8.out rfl _ (HS.out _ HEC.out.base).2.2.2).mono ?_
   rintro e w7 ⟨rfl,hb⟩
   have HE7:=Zpz (HEC.out.step hb)
   refine .inl ⟨_,rfl,⟨_,HE7.out⟩,?_⟩
   clear hb HEC
   simp only[Act.put,Zl]
   iterate 2
    refine Zx _ rfl rfl (fun w' hS=>Ze) ?_
    simp only[Act.put,Zl]
   refine Zz 103 _ rfl rfl Zf ?_
   have HEC:=HE7
   refine(ZaH x8 y8 _).mono ?_
   rintro e w8 ⟨rfl,hb⟩
   have HE8:=Zpz (HEC.out.step hb)
   refine .inl ⟨_,rfl,⟨_,HE8.out⟩,?_⟩
   clear hb HEC
   simp only[Act.put,Zl]
   refine Zz 42 _ rfl rfl Zf ?_
   have HEC:=HE8
   refine(Zga HIA.out HX8.out _ (HS.out _ HEC.out.base).2.2.2).mono ?_
   rintro e w9 ⟨x9,y9,n9,rfl,hA9,hb⟩
   have HE9:=Zpz (HEC.out.step hb)
   refine .inl ⟨_,rfl,⟨_,HE9.out⟩,?_⟩
   clear hb HEC
   simp only[Act.put,Zl]
   have HA9:=Zpz hA9
   clear hA9
   iterate 2
    refine Zx _ rfl rfl (fun w' hS=>Ze) ?_
    simp only[Act.put,Zl]
   refine Zz 103 _ rfl rfl Zf ?_
   refine(ZdZ x9 y9 n9 _).mono ?_
   rintro e w10 ⟨hE,hb⟩
   have HE10:=Zpz (HE9.out.step hb)
   clear HE4 HE5 HE6 HE7 HE8 HE9 hb
   rcases hE with ⟨h0,rfl⟩ | ⟨h0,rfl⟩
   ·refine .inl ⟨_,rfl,⟨_,HE10.out⟩,?_⟩
    have HX9:Hid (IsP (sumF (valF t p) (k+1)) x9 y9):=HA9.out.zero h0
    clear h0 HA9
    simp only[Act.put,Zl]
    have HE9:=Zpz (HE10.out.only [1,2] _ rfl Zd)
    have r0:=HE9.out.cell 0 0 rfl rfl
    have r1:=HE9.out.cell 0 1 rfl rfl
    have f0:=HE9.out.free 0 0 rfl
    have f1:=HE9.out.free 0 1 rfl
    refine ZB rfl rfl fun K hK=>?_
    go_simp
    have HE11:=Zpz (HE9.out.fill (.string x9) (.string y9))
    refine hK _ _ (.inl rfl) ?_
    clear hK K r0 r1 f0 f1 HE9 HE10
    refine ZF ?_
    go_wp2
    go_roundw
    case rel=>exact⟨k+1,x9,y9,by go_num,Za,HX9,HAF.out.step HX9.out.fits,HE11⟩
    case measure=>exact Zj
   ·refine .inr ⟨_,rfl,?_⟩
    rcases HA9.out with ⟨_,h1⟩ | ⟨h1,_,_,h2⟩
    ·exact Zpp h1 h0
    ·subst h2
     have HSE:Hid (SumE (valF t p) N Zpv Zpv 4):=.inr ⟨Zae.not h1 hlt,rfl,rfl,rfl⟩
     exact⟨rfl,Zpv,Zpv,4,.inr ⟨Zd,rfl⟩,HSE.out,HE10.out.base,HE10.out.memo.mono Za⟩
  ·obtain rfl:k=N:=Za
   have HSE:Hid (SumE (valF t p) k x y 0):=.inl ⟨HAF.out,HIA.out,rfl⟩
   have HE1:=Zpz (HE.out.only [1,0] _ rfl Zd)
   have c0:=HE1.out.cell 1 0 (v:=.string x) rfl rfl
   have c1:=HE1.out.cell 1 1 (v:=.string y) rfl rfl
   have r0:=HE1.out.cell 0 0 rfl rfl
   have r1:=HE1.out.cell 0 1 rfl rfl
   have f0:=HE1.out.free 0 0 rfl
   have f1:=HE1.out.free 0 1 rfl
   go_wp2
   have HE9:=Zpz (HE1.out.fill (.string x) (.string y))
   have q0:=HE9.out.cell 0 0 (v:=.string x) rfl rfl
   have q1:=HE9.out.cell 0 1 (v:=.string y) rfl rfl
   exact ZoM (v:=Zpw x y) (by simp[results,Tryz.f60,go_sem,q0,q1]) rfl ⟨x,y,0,.inl ⟨rfl,rfl⟩,HSE.out,HE9.out.base,HE9.out.memo.mono Za⟩
end Go.Proofs.YtmpaflidennnoaaGreatDoor
