/- The parts BelVM, LawBVain, BOpenP, LawBVainLift. -/
import Derived.Test.YtjmckebecpjjfaaGreatDoorH27
import Derived.Test.YtjmckebecpjjfaaGreatDoorK001
import Derived.Test.YtjmckebecpjjfaaGreatDoorH26
import Derived.Test.YtjmckebecpjjfaaGreatDoorH28
set_option maxRecDepth 100000
set_option maxHeartbeats 16000000
set_option linter.unusedVariables false
set_option linter.unusedSimpArgs false
namespace Go.Proofs.YtjmckebecpjjfaaGreatDoor
open Go.RowKit Go.Shelf Go.ChangeMaps Go.MapKept Go.ChangeShapes Go.WideShapes
open Go.WideElems (Fit rd rg rg_of rd_key rd_val)
theorem Zme:(57:TypeId)<Tryz.prog.types.size:=of_decide_eq_true Zb
theorem ZkM:(match Tryz.prog.underlying 57 with | some (.array _ _) | some (.struct _)=>true | _=>false)=true:=by rw[Tryz.underlying57]
theorem Zkn:Tryz.prog.keyTypeAt 3 57=true:=Zb
theorem Zcd:Maps.Keyed Tryz.prog 57:=Maps.Keyed.of_law (deep_law_laid ZhK (m:=3) Za Zme Zkn ZkM)
theorem ZhU:Tryz.prog.keyType 57=true:=Zb
theorem ZfA:Tryz.prog.cellsOf 57=3:=Zb
theorem Zgn {p:Pl} (h:PlB p):∃ kl,keyOf Tryz.prog 57 (kPl p)=some kl:=by
 have w1:=Zbo h.i64.1
 have w2:=Zbo h.i64.2.1
 have w3:=Zbo h.i64.2.2
 obtain⟨m,hm⟩:∃ m,Tryz.prog.types.size=m+1+1:=⟨Tryz.prog.types.size-2,by have h:2<=Tryz.prog.types.size:=of_decide_eq_true Zb;omega⟩
 have hf:(kPl p).formed Tryz.prog 57=true:=by simp[Value.formed,Tryz.underlying57,ZfA]
 unfold keyOf
 rw[Tryz.underlying57]
 simp only[ZhU,hf,Bool.and_self,if_true,hm,Value.cells]
 simp[Program.keyLits,Tryz.underlying57,Tryz.underlying53,Tryz.underlying3,ZfA,ZcX,Zdt,List.range,List.range.loop,w1,w2,w3]
 rw[if_pos (by intro i hi;rcases i with _ | _ | i<;>first | omega | (simp;done))]
 simp
def ZaJ (w:World) (m:Nat) (f:Fl):Prop:=
 (∃ es clock,w.heap[m]?=some (.map es clock)/\Fit Tryz.prog 57 noR es clock/\es.size<=f.length/\(∀ e ∈ es.toList,∃ z ∈ f,e.key=kPl z.1/\∃ s t,e.val=pV s t/\IsP z.2 s t)/\∀ z ∈ f,∃ e ∈ es.toList,e.key=kPl z.1)/\
 ZI f/\∀ z ∈ f,PlB z.1
theorem ZaJ.lt {w:World} {m:Nat} {f:Fl} (h:ZaJ w m f):m<w.heap.size:=by
 obtain⟨⟨es,clock,h1,_⟩,_⟩:=h
 exact(ZqC h1)
theorem ZaJ.stay {w w':World} {m:Nat} {f:Fl} (h:ZaJ w m f) (hw:w'.heap[m]?=w.heap[m]?):ZaJ w' m f:=by
 obtain⟨⟨es,clock,h1,h2⟩,h3⟩:=h
 exact⟨⟨es,clock,hw.trans h1,h2⟩,h3⟩
theorem ZaJ.step {w w':World} {m:Nat} {f:Fl} (h:ZaJ w m f) (hb:Below w.heap.size w w'):ZaJ w' m f:=h.stay (hb.block m h.lt)
theorem ZaJ.made (w:World):ZaJ (w.alloc (.map #[] 0)) w.heap.size []:=
 ⟨⟨#[],0,(MapKept.heap_alloc w _).1,⟨Zc,stamped_empty 0,Zc⟩,Nat.le_refl _,Zc,Zc⟩,List.Pairwise.nil,Zc⟩
theorem ZaJ.length {w:World} {m:Nat} {f:Fl} (h:ZaJ w m f):f.length<=528392:=Zdm h.2.1 h.2.2
def Zpt (f:Fl) (p:Pl) (T:TypeId) (m:Nat) (w:World):Prop:=
 ((∃ z ∈ f,z.1=p)/\∃ s t,IsP (fget f p) s t/\∀ w',w'.heap[m]?=w.heap[m]?->∀ c:Bool,(Instr.lookup T (.map (some m)) (kPl p) c).run Tryz.prog w'=.ok (if c then .tuple #[pV s t,.bool true] else pV s t) w')\/
 ((∀ z ∈ f,z.1≠p)/\fget f p=0/\∀ w',w'.heap[m]?=w.heap[m]?->∀ c:Bool,(Instr.lookup T (.map (some m)) (kPl p) c).run Tryz.prog w'=.ok (if c then .tuple #[pV ZqD ZqD,.bool false] else pV ZqD ZqD) w')
theorem ZaJ.look {w:World} {m:Nat} {f:Fl} (h:ZaJ w m f) {p:Pl} (hp:PlB p) {T:TypeId} (hT:Tryz.prog.underlying T=some (.map 57 39)):Zpt f p T m w:=by
 obtain⟨⟨es,clock,hb,F,hs,h1,h2⟩,h3,h4⟩:=h
 obtain⟨kl,hkl⟩:=Zgn hp
 by_cases hex:∃ z ∈ f,z.1=p
 ·obtain⟨z,hz,rfl⟩:=hex
  obtain⟨e,he,hek⟩:=h2 z hz
  obtain⟨z',hz',hk',s,t,hv,his⟩:=h1 e he
  have e1:z'.1=z.1:=ZdE (hk'.symm.trans hek)
  have e2:z'.2=z.2:=by rw[<- Z0 h3 hz',<- Z0 h3 hz,e1]
  refine .inl ⟨⟨z,hz,rfl⟩,s,t,by rw[Z0 h3 hz,<- e2];exact his,fun w' hw c=>?_⟩
  rcases Maps.fit_look c Zcd hT (ZcI w') (hw.trans hb) F hkl with ⟨_,hno,_⟩ | ⟨e0,y0,hm0,h5,hrun,_⟩
  ·exact Zqx hek (hno e he)
  ·have e3:e0=e:=entry_eq_of_key ((stamped_iff es clock).1 F.stamped).2.2 hm0 he (h5.trans hek.symm)
   rw[e3,hv] at hrun
   exact hrun
 ·refine .inr ⟨fun z hz e=>hex ⟨z,hz,e⟩,Zbt fun z hz e=>hex ⟨z,hz,e⟩,fun w' hw c=>?_⟩
  rcases Maps.fit_look c Zcd hT (ZcI w') (hw.trans hb) F hkl with ⟨hrun,_⟩ | ⟨e0,y0,hm0,h5,_⟩
  ·exact hrun
  ·obtain⟨z,hz,hk,_⟩:=h1 e0 hm0
   exact Zqx ⟨z,hz,ZdE (hk.symm.trans h5)⟩ hex
theorem ZaJ.put {w:World} {m:Nat} {f:Fl} (h:ZaJ w m f) {p:Pl} (hp:PlB p) {T:TypeId} (hT:Tryz.prog.underlying T=some (.map 57 39)) {q:Rat} {s t:ByteArray} (hq:IsP q s t) :
  ∃ w2,(Instr.mapUpdate T (.map (some m)) (kPl p) (pV s t)).run Tryz.prog w=.ok () w2/\ZaJ w2 m (fset f p q)/\Keeps (fun b=>b≠m) w w2:=by
 have hln:=h.length
 obtain⟨⟨es,clock,hb,F,hs,h1,h2⟩,h3,h4⟩:=h
 obtain⟨kl,hkl⟩:=Zgn hp
 obtain⟨es',clock',hrun,F',hput,_,_,hwho⟩:=Maps.fit_store (R':=noR) (val:=pV s t) Zcd hT hb F (by unfold maxLen;omega) (fun _ _ _ _ hz=>hz) hkl (yv:=(.nil,[])) rfl
 obtain⟨k1,k2⟩:=Zew Zcd F F' hkl hput
 refine⟨_,hrun,⟨⟨es',clock',heap_setBlock_same hb _,F',?_,fun e he=>?_,fun z hz=>?_⟩,Zec h3 p q,fun z hz=>?_⟩,⟨rfl,rfl,rfl,by simp[setBlock],fun k _ hk=>heap_setBlock_other hb _ hk⟩⟩
 ·have e1:es'.size=((es'.toList.map (rg Tryz.prog 57 noR)).foldr DataW.insert []).length:=by rw[length_sorted];simp
  rw[e1,hput]
  unfold putKey
  rw[length_insert]
  obtain⟨l1,l2⟩:=Zge h3 p q
  by_cases hex:∃ z ∈ f,z.1=p
  ·rw[l1 hex]
   obtain⟨z,hz,rfl⟩:=hex
   obtain⟨e,he,hek⟩:=h2 z hz
   have hlt:(((es.toList.map (rg Tryz.prog 57 noR)).foldr DataW.insert []).filter (notKey kl)).length<((es.toList.map (rg Tryz.prog 57 noR)).foldr DataW.insert []).length:=by
    rw[List.length_filter_lt_length_iff_exists]
    refine⟨rg Tryz.prog 57 noR e,mem_sorted.2 (List.mem_map.2 ⟨e,he,rfl⟩),?_⟩
    have h5:=Zc9 F he
    rw[hek] at h5
    have h6:(rg Tryz.prog 57 noR e).1=kl:=ZpZ (h5.symm.trans hkl)
    rw[Maps.notKey_iff (Zcd.key hkl)]
    exact fun hn=>hn h6
   rw[length_sorted] at hlt
   simp at hlt
   omega
  ·rw[l2 fun z hz e=>hex ⟨z,hz,e⟩]
   have e2:=List.length_filter_le (notKey kl) ((es.toList.map (rg Tryz.prog 57 noR)).foldr DataW.insert [])
   rw[length_sorted] at e2
   simp at e2
   omega
 ·rcases hwho e he with ⟨g1,g2⟩ | ⟨g1,g2⟩
  ·obtain⟨z,hz,g3,g4⟩:=h1 e g1
   exact⟨z,(Zbf h3).2 (.inr ⟨hz,fun e5=>g2 (by rw[g3,e5])⟩),g3,g4⟩
  ·exact⟨(p,q),(Zbf h3).2 (.inl rfl),g1,s,t,g2,hq⟩
 ·rcases(Zbf h3).1 hz with rfl | ⟨hz,_⟩
  ·exact k1
  ·obtain⟨e,he,hek⟩:=h2 z hz
   obtain⟨e',he',hk'⟩:=k2 e he
   exact⟨e',he',hk'.trans hek⟩
 ·rcases(Zbf h3).1 hz with rfl | ⟨hz,_⟩
  ·exact hp
  ·exact h4 z hz
end Go.Proofs.YtjmckebecpjjfaaGreatDoor
namespace Go.Proofs.YtjmckebecpjjfaaGreatDoor
open Go.RowKit Go.Shelf
attribute [local go_sem ↓] Go.wp_at_zero Go.wp_at_succ
theorem Zn6 {W:World} {q:Nat} {p:PP} (h:W.heap[q]?=some (ntO ⟨0,0,[],p,p⟩ (.slice none 0 0))):Zbm W (.slice (some ⟨q,0,none⟩) 1 1) [⟨0,0,[],p,p⟩]:=
 ⟨_,_,rfl,Nat.le_refl 1,(by show 1<=9223372036854775807;decide),fun _=>⟨q,0,rfl,(ZqC h),fun j hj=>by
  have hj2:j<1:=hj
  obtain rfl:j=0:=Za
  have i0:I64 0:=⟨Zd,Zd⟩
  exact⟨⟨Zn h 0 rfl,i0⟩,⟨Zn h 1 rfl,i0⟩,⟨_,Zn h 2 rfl,LL.nil W⟩,⟨Zn h 3 rfl,Zn h 4 rfl⟩,Zn h 5 rfl,Zn h 6 rfl⟩⟩⟩
theorem Znd {V W:World} {v:Value} {m:Fl} {G:Nat} {a c:ByteArray} (h:ZK V v m) (hG:V.heap[G]?=some (pObj a c)) (hk:Keeps (fun x=>x≠G) V W):ZK W v m:=by
 obtain⟨p,cp,h1,h2,h3,h4⟩:=h
 refine⟨p,cp,h1,h2,h3,fun hne=>?_⟩
 obtain⟨b,o,h5,hb,h7⟩:=h4 hne
 have hbG:b≠G:=by
  rintro rfl
  obtain⟨⟨e,_⟩,_⟩:=h7 0 (List.length_pos_iff.2 hne)
  match o+0*5,e with
  | 0,e=>have:=(Zn hG 0 (v:=.string a) rfl).symm.trans e;simp at this
  | 1,e=>have:=(Zn hG 1 (v:=.string c) rfl).symm.trans e;simp at this
  | n+2,e=>
   simp[World.cell?,hG] at e
 have kc:∀ {x:Nat} {u:Value},V.cell? ⟨b,x,none⟩=some u->W.cell? ⟨b,x,none⟩=some u:=fun e=>hk.cellAt e hbG
 refine⟨b,o,h5,Zp2 hb hk.size,fun j hj=>?_⟩
 obtain⟨⟨e0,i0⟩,⟨e1,i1⟩,⟨e2,i2⟩,q,hq,e3,e4⟩:=h7 j hj
 exact⟨⟨kc e0,i0⟩,⟨kc e1,i1⟩,⟨kc e2,i2⟩,q,hq,kc e3,kc e4⟩
inductive VnI
 | a
 | r (ms:Fl) (p:Option Addr) (n c:Nat) (s t:ByteArray) (z:Rat) (k:Int)
def VnS (r:Except Int (Fl×Rat)) (w0:World) (j:VnI) (g:Option Nat) (V:World):Prop:=
 Below w0.heap.size w0 V/\(∀ k,g=some k->V.heap[k]?=some (pObj ZqD ZqD)/\w0.heap.size<=k)/\
  match j with
  | .a=>True
  | .r ms p n c s t z k=>ZK V (.slice p n c) ms/\(k=0->r=.ok (ms,z)/\IsP z s t)
theorem VnS.base {r:Except Int (Fl×Rat)} {w0 V V':World} {j:VnI} {g:Option Nat} (h:VnS r w0 j g V) (hb:Below V.heap.size V V'):Below w0.heap.size w0 V'/\(∀ k,g=some k->V'.heap[k]?=some (pObj ZqD ZqD)/\w0.heap.size<=k):=
 ⟨h.1.trans (hb.mono h.1.size),fun k e=>⟨Zce hb (h.2.1 k e).1,(h.2.1 k e).2⟩⟩
theorem VnS.push {r:Except Int (Fl×Rat)} {w0 V:World} {j:VnI} (h:VnS r w0 j none V):VnS r w0 j (some V.heap.size) (V.alloc (pObj ZqD ZqD)):=by
 have hb:=Zan V (pObj ZqD ZqD)
 refine⟨(h.base hb).1,fun k e=>?_,?_⟩
 ·obtain rfl:=ZpZ e
  exact⟨ZpY V _,h.1.size⟩
 ·obtain⟨_,_,h6⟩:=h
  cases j with
  | a=>trivial
  | r ms p n c s t z k=>exact⟨h6.1.after ZaQ.stays hb ZqI,h6.2⟩
structure VainF (ws:List RunP) (s:ByteArray) (m1 m2:Fl) (z:Rat) (k:Nat):Prop where
 most:fget m2 (mA m1 k).1<=(mA m1 k).2/z
 out:hasR ws (mA m1 k).1.2.1 (mA m1 k).1.2.2=false->fget m2 (mA m1 k).1=(mA m1 k).2/z/\(mA m1 k).2<=fget m2 (mA m1 k).1
 inn:hasR ws (mA m1 k).1.2.1 (mA m1 k).1.2.2=true->(s.toList==[48])=true->fget m2 (mA m1 k).1=0
theorem ZeY {b:BelP} {m1 m2:Fl} {ws:List RunP} {s t:ByteArray} {z:Rat} (h1:Zcc b=.ok m1) (h2:Zcu b m1 (Zdv ws (s,t))=.ok (m2,z)) :
  (MassOk b m1/\MassOk b m2/\(∀ y ∈ m1,PlB y.1)/\∀ y ∈ m2,PlB y.1)/\(0<z/\z<=1)/\∀ k,k<m1.length->VainF ws s m1 m2 z k:=by
 obtain⟨hb,hm1,ht⟩:=Zjx h1
 unfold Zcu at h2
 by_cases hc:((ZF b && ZN b m1) && ZH b (Zdv ws (s,t)))=true
 ·rw[if_pos hc] at h2
  rw[Zqt] at hc
  have hn:=hc.2
  obtain⟨hm2,_,hz0,hz1⟩:=Zby hn hm1 h2
  rw[ht] at hz1
  have hok:=Zb6 hb
  refine⟨⟨hm1,hm2,fun y hy=>ZbC hok (hm1.plc y hy),fun y hy=>ZbC hok (hm2.plc y hy)⟩,⟨hz0,hz1⟩,fun k hk=>?_⟩
  have hmem:mA m1 k ∈ m1:=by rw[<- Z9 hk];exact Zqm hk
  have hpl:=(hm1.plc _ hmem).1
  have hlen:=hok.len
  have hfac:=ZgB (ws:=ws) (p:=(s,t)) (x:=(mA m1 k).1) hpl.1 Za
  have hpos:=hm1.pos _ hmem
  have he:=ZeR hn hm1 h2 hk
  have hn2:=hn
  unfold ZH Zbx at hn2
  simp only[Zqt,Zqu] at hn2
  obtain⟨_,⟨r1,r2⟩,_,_⟩:=hn2
  have hq0:0<=qP (s,t):=ZfQ r1
  have hq1:qP (s,t)<=1:=r2
  have hokp:okP s t=true:=(Zbr.1 r1).2.2
  cases hin:hasR ws (mA m1 k).1.2.1 (mA m1 k).1.2.2
  ·rw[hin,if_neg Bool.false_ne_true] at hfac
   rw[hfac] at he
   obtain⟨v1,v2,_⟩:=Zfo hpos (f:=1) Zd Rat.le_refl hz0 hz1
   rw[<- he] at v1 v2
   exact⟨v1,fun _=>v2 rfl,(fun h=>by rw[hin] at h;cases h)⟩
  ·rw[hin,if_pos rfl] at hfac
   rw[hfac] at he
   obtain⟨v1,_,v3⟩:=Zfo hpos hq0 hq1 hz0 hz1
   rw[<- he] at v1 v3
   exact⟨v1,(fun h=>by rw[hin] at h;cases h),fun _ h=>v3 ((Zb8 hokp).num_zero.1 h)⟩
 ·rw[if_neg hc] at h2;cases h2
theorem Zkw {f:Fl} (hs:ZI f) {k:Nat} (hk:k<f.length) {y:Pl×Rat} (hy:y ∈ f.take k):plLt y.1 (mA f k).1=true:=by
 obtain⟨i,hi,rfl⟩:=List.getElem_of_mem hy
 have h0:i<k/\i<f.length:=by rw[Zqz] at hi;omega
 have h1:=List.pairwise_iff_getElem.1 hs i k h0.2 hk h0.1
 rw[Z9 hk] at h1
 rw[List.getElem_take]
 exact h1
theorem ZjN {a b:Rat} (h:a<=b):¬ (0:Int)<sgnR a b:=by have:=Zj3.2 h;omega
theorem Zm3 {a b:Rat} (h:b<=a):¬ sgnR a b<(0:Int):=by
 unfold sgnR
 split
 ·grind
 ·split<;>decide
theorem Zk7:Tryz.prog.underlying 51=some (.map 57 39):=Tryz.underlying51
theorem ZpL (w:World) (hT:Tabs w):Calls Tryz.prog 17 #[.int .i64 0,.int .i64 1] w (ZaE (pV ⟨#[48]⟩ ⟨#[49]⟩) w):=
 Zi4 (a:=0) (b:=1) Zd Zd Zd (by decide +kernel) w hT
theorem Zk9 {q r:Rat} {s t u v:ByteArray} (ha:IsP q s t) (hb:IsP r u v) (h0:0<r) (w:World) (hT:Tabs w) :
  Calls Tryz.prog 20 #[pV s t,pV u v] w fun e w'=>∃ x y n,e=.returned (.tuple #[pV x y,.int .i64 n])/\Ans (q/r) x y n/\Below w.heap.size w w':=by
 refine(Zh1 s t u v w ha.limit.1 ha.limit.2 hb.limit.1 hb.limit.2 hT).mono ?_
 rintro e w' ⟨x',y',n,rfl,h,hbb⟩
 rcases h with ⟨h,_⟩ | ⟨_,h⟩
 ·rw[ha.ok,hb.ok] at h;cases h
 ·rw[ha.rat,hb.rat] at h
  rcases h with ⟨h,_⟩ | ⟨_,h⟩
  ·grind
  ·exact⟨_,_,_,rfl,h,hbb⟩
theorem ZfB {q r:Rat} {s t u v:ByteArray} (ha:IsP q s t) (hb:IsP r u v) (w:World) :
  Calls Tryz.prog 18 #[pV s t,pV u v] w (ZaE (.int .i64 (sgnR q r)) w):=by
 refine(Zgu s t u v w ha.limit.1 ha.limit.2 hb.limit.1 hb.limit.2).mono ?_
 rintro e w' ⟨m,rfl,h,hbb⟩
 rcases h with ⟨h,_⟩ | ⟨_,h⟩
 ·rw[ha.ok,hb.ok] at h;cases h
 ·rw[ha.rat,hb.rat] at h
  rw[h]
  exact⟨rfl,hbb⟩
theorem ZmE {b:BelP} {lv sv wl:Value} {ws:List RunP} {w:World} (h:BelIn b lv sv w) (hl:RunL w wl ws) (s t:ByteArray):Calls Tryz.prog 4 #[belV b lv sv,wl,pV s t] w (ZaE (.bool true) w):=by
 obtain⟨ng,hng⟩:=ZqJ b.sea.land.length
 obtain⟨pg,cg,rfl,_,_⟩:=h.sea.land.shape hng
 obtain⟨ns,hns⟩:=ZqJ b.scenes.length
 obtain⟨ps,cs,rfl,_,_⟩:=h.scenes.shape hns
 obtain⟨nw,hnw⟩:=ZqJ ws.length
 obtain⟨pw,cw,rfl,_,_⟩:=hl.shape hnw
 have HH:=ZqH h
 have HL:=ZqH hl
 have HE1:Hid (Env w.heap.size w [(w.heap.size+1,pObj s t),(w.heap.size,belO b (.slice pg ng cg) (.slice ps ns cs))] [] ((w.alloc (belO b (.slice pg ng cg) (.slice ps ns cs))).alloc (pObj s t))):=((Env.start w).push _ rfl).push _ Zc
 obtain⟨w1,hw1⟩:=ZqJ ((w.alloc (belO b (.slice pg ng cg) (.slice ps ns cs))).alloc (pObj s t))
 rw[hw1] at HE1
 clear h hl hng hns hnw
 obtain⟨c0,c1,c2,c3,c4⟩:=Zv (HE1.out.block 1 rfl)
 have p0:=HE1.out.cell 0 0 (v:=.string s) rfl rfl
 have p1:=HE1.out.cell 0 1 (v:=.string t) rfl rfl
 go_enter Tryz.func4,Tryz.ntmps4
 go_wp2_with fail
 clear hw1
 refine(Zhk w1 (HH.out.tabs.below HE1.out.base ZqI) (HH.out.vars.below HE1.out.base ZqI)).mono ?_
 rintro e w2 ⟨rfl,hb⟩
 have HE2:=ZqH (HE1.out.step hb)
 clear hb c0 c1 c2 c3 c4 p0 p1 HE1
 obtain⟨c0,c1,c2,c3,c4⟩:=Zv (HE2.out.block 1 rfl)
 have p0:=HE2.out.cell 0 0 (v:=.string s) rfl rfl
 have p1:=HE2.out.cell 0 1 (v:=.string t) rfl rfl
 go_wp2_with fail
 refine(Zgr (HH.out.below HE2.out.base ZqI)).mono ?_
 rintro e w3 ⟨r,rfl,hr,hb⟩
 have HE3:=ZqH (HE2.out.step hb)
 clear hb c0 c1 c2 c3 c4 p0 p1 HE2
 obtain⟨c0,c1,c2,c3,c4⟩:=Zv (HE3.out.block 1 rfl)
 have p0:=HE3.out.cell 0 0 (v:=.string s) rfl rfl
 have p1:=HE3.out.cell 0 1 (v:=.string t) rfl rfl
 cases r with
 | true=>
  go_wp2
  exact ZpW (by simp[results,Tryz.f4,go_sem]) rfl ⟨rfl,HE3.out.base⟩
 | false=>
 have HLIM:=ZqH (hr rfl)
 clear hr
 by_cases hA:(300:Int)<(nw:Int)
 ·have hA1:300<nw:=Za
  go_wp2
  exact ZpW (by simp[results,Tryz.f4,go_sem]) rfl ⟨rfl,HE3.out.base⟩
 have hA1:¬ 300<nw:=Za
 by_cases hB:(3:Int)<(ns:Int)
 ·have hB1:3<ns:=Za
  go_wp2
  exact ZpW (by simp[results,Tryz.f4,go_sem]) rfl ⟨rfl,HE3.out.base⟩
 have hB1:¬ 3<ns:=Za
 obtain⟨q4,hq4⟩:=ZqJ w3.heap.size
 obtain⟨w4,hw4⟩:=ZqJ (w3.alloc (ntO ⟨0,0,[],(s,t),(s,t)⟩ (.slice none 0 0)))
 have HG4:Hid (w4.heap[q4]?=some (ntO ⟨0,0,[],(s,t),(s,t)⟩ (.slice none 0 0))):=by show _=_;rw[<- hw4,<- hq4];exact ZpY w3 _
 have HE4:Hid (Env w.heap.size w [(w.heap.size+1,pObj s t),(w.heap.size,belO b (.slice pg ng cg) (.slice ps ns cs))] [] w4):=by rw[<- hw4];exact HE3.out.step (Zan w3 _)
 go_wp2_with fail
 clear hw4 hq4 c0 c1 c2 c3 c4 p0 p1
 refine(ZjG (t:=4) (m1:=6) (m2:=4) (HH.out.below HE4.out.base ZqI) (Zn6 HG4.out) Zd).mono ?_
 rintro e w5 ⟨r,rfl,hr,hb⟩
 have HE5:=ZqH (HE4.out.step hb)
 clear hb HE4 HG4
 obtain⟨c0,c1,c2,c3,c4⟩:=Zv (HE5.out.block 1 rfl)
 have p0:=HE5.out.cell 0 0 (v:=.string s) rfl rfl
 have p1:=HE5.out.cell 0 1 (v:=.string t) rfl rfl
 cases r with
 | false=>
  go_wp2
  exact ZpW (by simp[results,Tryz.f4,go_sem]) rfl ⟨rfl,HE5.out.base⟩
 | true=>
 have HSZ:Hid (Sz1 (s,t)):=(hr rfl _ (List.mem_singleton.2 rfl)).1
 clear hr
 go_wp2_with fail
 refine(Zhv (HH.out.below HE5.out.base ZqI) HLIM.out).mono ?_
 rintro e w6 hE
 obtain⟨m1,p1',n1,d1,k1,rfl,hm1,hk1,hb⟩:=Zoc hE
 have HM1:=ZqH hm1
 have HK1:=ZqH hk1
 clear hE hm1 hk1
 have HE6:=ZqH (HE5.out.step hb)
 clear hb c0 c1 c2 c3 c4 p0 p1 HE5
 obtain⟨c0,c1,c2,c3,c4⟩:=Zv (HE6.out.block 1 rfl)
 have p0:=HE6.out.cell 0 0 (v:=.string s) rfl rfl
 have p1:=HE6.out.cell 0 1 (v:=.string t) rfl rfl
 clear c0 c1 c2 c3 c4 p0 p1
 have HV6:Hid (∀ X,Below w6.heap.size w6 X->Env w.heap.size w [(w.heap.size+1,pObj s t),(w.heap.size,belO b (.slice pg ng cg) (.slice ps ns cs))] [] X):=fun X hX=>HE6.out.step hX
 go_wp2_with fail
 refine ZiU 11 11 [(2,12),(0,13),(2,14)] [(1,0),(1,1),(1,2),(1,3),(0,4),(1,5),(0,6),(1,7),(2,8),(2,9),(2,10)] (VnS (Zcu b m1 (Zdv ws (s,t))) w6) .a (fun i=>i==8 || i==9 || i==10 || i==12 || i==13 || i==14)
  Zb Zb (fun j hj=>by have h:15<=j:=hj;simp;omega) Zi rfl rfl (fun _=>rfl) (fun a V K hK=>by go_simp;exact hK) (fun j V h=>h.push) ⟨(ZpV _ w6).drew,(fun k e=>by cases e),trivial⟩ ?_
 iterate 4
  refine Zcs _ rfl (fun z=>rfl) (fun z j g w' hS=>by obtain⟨c0,c1,c2,c3,c4⟩:=Zv ((HV6.out _ hS.1).block 1 rfl);have p0:=(HV6.out _ hS.1).cell 0 0 (v:=.string s) rfl rfl;have p1:=(HV6.out _ hS.1).cell 0 1 (v:=.string t) rfl rfl;exact Zg) ?_
  simp only[Act.put,Zl]
 refine Zcg 17 _ rfl (fun z=>rfl) (fun z w'=>Zh) (fun g V hS=>?_)
 refine(Zi7 V (HH.out.tabs.below (HV6.out _ hS.1).base ZqI)).mono ?_
 rintro e V' ⟨rfl,hb⟩
 refine .inl ⟨_,.a,rfl,⟨(hS.base hb).1,(hS.base hb).2,trivial⟩,?_⟩
 clear hb hS
 simp only[Act.put,Zl]
 iterate 1
  refine Zcs _ rfl (fun z=>rfl) (fun z j g w' hS=>Zg) ?_
  simp only[Act.put,Zl]
 refine Zcg 19 _ rfl (fun z=>rfl) (fun z w'=>Zh) (fun g V hS=>?_)
 refine(Zlt (n:=Zdv ws (s,t)) (HH.out.below (HV6.out _ hS.1).base ZqI) HLIM.out (HM1.out.after ZaQ.stays hS.1 ZqI) (HL.out.after RunR.stays (HV6.out _ hS.1).base ZqI) ⟨HSZ.out,(by show (1:Nat)<=1000000;decide),(by show (1:Nat)<=1000000;decide)⟩).mono ?_
 rintro e V' hE
 obtain⟨m2,p2',n2,d2,s2,t2,z,k2,rfl,hm2,hk2,hn2,hb⟩:=Zol hE
 refine .inl ⟨_,.r m2 p2' n2 d2 s2 t2 z k2,rfl,⟨(hS.base hb).1,(hS.base hb).2,hm2,hk2⟩,?_⟩
 clear hb hS hE hm2 hk2 hn2
 simp only[Act.put,Zl]
 iterate 1
  refine Zcs _ rfl (fun z=>rfl) (fun z j g w' hS=>Zg) ?_
  simp only[Act.put,Zl]
 iterate 3
  refine ZkV _ rfl (fun z=>rfl) (fun z w'=>Zh) ?_
  simp only[Act.put,Zl]
 refine Zhi fun G V hS=>?_
 obtain⟨hb6,hg,hm2,hk2⟩:=hS
 obtain⟨hG,hGle⟩:=hg G rfl
 simp only[Act.put,Zl]
 iterate 1
  refine Zgd _ rfl rfl (fun w' _=>Zf) ?_
  simp only[Act.put,Zl]
 have s0:=Zn hG 0 (v:=.string ZqD) rfl
 have s1:=Zn hG 1 (v:=.string ZqD) rfl
 have f0:=Zo hG 0
 have f1:=Zo hG 1
 obtain⟨w9,hw9⟩:=ZqJ ((V.setCell ⟨G,0,none⟩ (.string s2)).setCell ⟨G,1,none⟩ (.string t2))
 have hg9:w9.heap[G]?=some (pObj s2 t2):=by rw[<- hw9];exact ZQ hG _ _
 have hk9:Keeps (fun x=>x≠G) V w9:=by rw[<- hw9];exact((Keeps.refl _ V).setCell (p:=⟨G,0,none⟩) (fun h=>h rfl) _).setCell (p:=⟨G,1,none⟩) (fun h=>h rfl) _
 have hb9:Below w6.heap.size w6 w9:=by rw[<- hw9];exact(hb6.setCell (p:=⟨G,0,none⟩) hGle _).setCell (p:=⟨G,1,none⟩) hGle _
 have HM2:=ZqH (Znd hm2 hG hk9)
 have HK2:=ZqH hk2
 have HE9:=ZqH (HE6.out.laid hb9 hg9 hGle)
 have HM19:=ZqH (HM1.out.after ZaQ.stays hb9 ZqI)
 refine ZG rfl rfl fun K hK=>?_
 go_simp
 refine hK _ _ (.inl rfl) ?_
 clear hK K hw9 s0 s1 f0 f1 hg9 hk9 hb9 hm2 hk2 hG hGle hg hb6 HV6 HE6 HM1
 iterate 1
  refine Zgd _ rfl rfl (fun w' _=>Zf) ?_
  simp only[Act.put,Zl]
 refine Zz ?_
 by_cases hk1:k1=0
 ·by_cases hk2:k2=0
  ·subst hk1
   subst hk2
   have hmk:∀ (t:TypeId) (w:World),(Instr.makeMap t none).run Tryz.prog w=.ok (.map (some w.heap.size)) (w.alloc (.map #[] 0)):=fun _ _=>rfl
   obtain⟨M,hM⟩:=ZqJ w9.heap.size
   obtain⟨wA,hwA⟩:=ZqJ (w9.alloc (.map #[] 0))
   have HFA:Hid (ZaJ wA M []):=by rw[<- hwA,<- hM];exact ZaJ.made w9
   have HB9:ZqB w9 wA:=by show Below _ _ _;rw[<- hwA];exact Zan w9 _
   have HEA:=ZqH (HE9.out.step HB9.out)
   go_wp2_with fail
   have HMM:Hid (w9.heap.size=M):=hM
   clear hwA hM hmk
   have HBX:Hid (∀ X,Keeps (NotM M) wA X->Below w9.heap.size w9 X):=fun X hX=>HB9.out.trans ((hX.mono (S':=fun b=>b<w9.heap.size) fun b _ hb=>by have:=HMM.out;show b≠M;omega).toBelow HB9.out.size)
   have HN2:Hid (m2.length=n2):=HM2.out.len
   have HAT2:=ZqH (fun h0=>ZK.at HM2.out HN2.out h0)
   obtain⟨⟨hmo1,hmo2,hvp1,hvp2⟩,hz01,hvf⟩:=ZeY (HK1.out trivial) (HK2.out trivial).1
   have HVP:=ZqH hvp2
   have HVP1:=ZqH hvp1
   have HSO:=ZqH hmo2.sorted
   have HSO2:=ZqH hmo2.sorted
   have HMP2:=ZqH hmo2.pos
   have HVF:=ZqH hvf
   have HIZ:=ZqH (HK2.out trivial).2
   have HZ01:=ZqH hz01
   clear hmo1 hmo2 hvp1 hvp2 hz01 hvf HK1 HK2
   obtain⟨_,_,_,hcap2,hcap2'⟩:=HM2.out.shape HN2.out
   have hbn2:n2<=9223372036854775807:=Za
   clear hcap2 hcap2'
   go_loopw [77] (fun iv wr=>∃ k:Nat,iv=.int .i64 k/\k<=n2/\Hid (ZaJ wr M (m2.take k))/\Hid (Keeps (NotM M) wA wr)) (fun iv _=>n2-(intOf iv).toNat)
   case atStart=>exact⟨0,rfl,Zp8 _,HFA,Keeps.refl _ _⟩
   case round=>
    obtain⟨k,rfl,hk,HF,HK⟩:=hrel
    by_cases hlt:k<n2
    ·obtain⟨b0,o0,rfl,hat⟩:=HAT2.out Za
     obtain⟨u,v,hip,_,_,_,hcell⟩:=hat k hlt
     obtain⟨e0,e1,e2,e3,e4⟩:=hcell wr (HBX.out wr HK.out)
     have hkl:k<m2.length:=by rw[HN2.out];exact hlt
     have hmem:mA m2 k ∈ m2:=by rw[<- Z9 hkl];exact Zqm hkl
     have hpl:=HVP.out _ hmem
     have hfs:m2.take (k+1)=fset (m2.take k) (mA m2 k).1 (mA m2 k).2:=by
      rw[List.take_succ_eq_append_getElem hkl,Z9 hkl]
      exact(Zfg _ fun y hy=>Zkw HSO.out hkl hy).symm
     have HFS:=ZqH hfs
     obtain⟨⟨⟨x0,x1,x2⟩,q⟩,hx⟩:∃ z,mA m2 k=z:=⟨_,rfl⟩
     rw[hx] at hip e0 e1 e2 hpl HFS
     dsimp only at hip e0 e1 e2 hpl HFS
     obtain⟨V,hV⟩:=ZqJ (wr.alloc (maO (x0,x1,x2) u v))
     obtain⟨q0,hq0⟩:=ZqJ wr.heap.size
     have hqb:V.heap[q0]?=some (maO (x0,x1,x2) u v):=by rw[<- hV,<- hq0];exact ZpY wr _
     have hkv:∀ S:Nat->Prop,Keeps S wr V:=fun S=>by rw[<- hV];exact(Keeps.refl S wr).alloc _
     have HKV:Hid (Keeps (NotM M) wA V):=HK.out.trans (hkv _)
     have HFV:Hid (ZaJ V M (m2.take k)):=HF.out.stay ((hkv (fun _=>True)).block M HF.out.lt trivial)
     obtain⟨w5,hput,hm5,hk5⟩:=HFV.out.put hpl Zk7 hip
     have HM5:Hid (ZaJ w5 M (m2.take (k+1))):=by rw[HFS.out];exact hm5
     have HK5:Hid (Keeps (NotM M) wA w5):=HKV.out.trans hk5
     have a0:=Zn hqb 0 (v:=.int .i64 x0) rfl
     have a1:=Zn hqb 1 (v:=.int .i64 x1) rfl
     have a2:=Zn hqb 2 (v:=.int .i64 x2) rfl
     have a3:=Zn hqb 3 (v:=.string u) rfl
     have a4:=Zn hqb 4 (v:=.string v) rfl
     have i0':(0:Int)<=(k:Int):=Za
     have i1':(k:Int)<(n2:Int):=Za
     have HLT:=ZqH hlt
     clear hqb hkv hm5 hk5 hx hmem hpl hip hcell hat hkl HFS hfs
     go_wp2
     go_roundw
     case rel=>exact⟨k+1,by go_num,by have:=HLT.out;omega,HM5,HK5⟩
     case measure=>simp[intOf];have:=HLT.out;omega
    ·obtain rfl:k=n2:=Za
     have HFC:Hid (ZaJ wr M m2):=by
      have h1:=HF.out
      rwa [Zp5 (by rw[HN2.out];exact Nat.le_refl _)] at h1
     obtain⟨wC,hwC⟩:∃ z,z=wr:=⟨_,rfl⟩
     subst hwC
     have HB9C:=ZqH (HBX.out wC HK.out)
     have HEC:=ZqH (HE9.out.step HB9C.out)
     clear HF HK HBX HE9 HEA HFA HB9 HMM HVP HSO hk hlt HAT2
     have HN1:Hid (m1.length=n1):=HM19.out.len
     have HAT1:=ZqH (fun h0=>ZK.at HM19.out HN1.out h0)
     go_wp2_with fail
     obtain⟨_,_,_,hcap1,hcap1'⟩:=HM19.out.shape HN1.out
     have hbn1:n1<=9223372036854775807:=Za
     clear hcap1 hcap1'
     go_loopw [92] (fun iv wr=>∃ k:Nat,iv=.int .i64 k/\k<=n1/\ZqB wC wr) (fun iv _=>n1-(intOf iv).toNat)
     case atStart=>exact⟨0,rfl,Zp8 _,ZpV _ _⟩
     case round=>
      obtain⟨k,rfl,hk,HBR⟩:=hrel
      by_cases hlt:k<n1
      ·obtain⟨b0,o0,rfl,hat⟩:=HAT1.out Za
       obtain⟨u,v,hip,_,_,_,hcell⟩:=hat k hlt
       obtain⟨e0,e1,e2,e3,e4⟩:=hcell wr (HB9C.out.trans (HBR.out.mono HB9C.out.size))
       have hkl:k<m1.length:=by rw[HN1.out];exact hlt
       have hmem:mA m1 k ∈ m1:=by rw[<- Z9 hkl];exact Zqm hkl
       have hpl:=HVP1.out _ hmem
       have hvf:=HVF.out k hkl
       obtain⟨⟨⟨x0,x1,x2⟩,q⟩,hx⟩:∃ z,mA m1 k=z:=⟨_,rfl⟩
       obtain⟨f1,f2,f3⟩:=hvf
       rw[hx] at hip e0 e1 e2 hpl f1 f2 f3
       dsimp only at hip e0 e1 e2 hpl f1 f2 f3
       have HF1:=ZqH f1
       have HF2:=ZqH f2
       have HF3:=ZqH f3
       have HIP:=ZqH hip
       have HER:=ZqH (HEC.out.step HBR.out)
       obtain⟨V,hV⟩:=ZqJ (wr.alloc (maO (x0,x1,x2) u v))
       obtain⟨q0,hq0⟩:=ZqJ wr.heap.size
       have HEV:Hid (Env w.heap.size w [(q0,maO (x0,x1,x2) u v),(G,pObj s2 t2),(w.heap.size+1,pObj s t),(w.heap.size,belO b (.slice pg ng cg) (.slice ps ns cs))] [] V):=by rw[<- hV];exact HER.out.push _ hq0.symm
       have HRL:Hid (∀ z,V.heap.size=z->wC.heap.size<=z):=fun z hz=>by have h1:=HBR.out.size;rw[<- hz,<- hV];simp;omega
       have HBV:ZqB wC V:=by show Below _ _ _;rw[<- hV];exact HBR.out.alloc HBR.out.size _
       have HFV:Hid (ZaJ V M m2):=HFC.out.step HBV.out
       have HLK:=ZqH (HFV.out.look hpl Zk7)
       have a0:=HEV.out.cell 0 0 (v:=.int .i64 x0) rfl rfl
       have a1:=HEV.out.cell 0 1 (v:=.int .i64 x1) rfl rfl
       have a2:=HEV.out.cell 0 2 (v:=.int .i64 x2) rfl rfl
       have i0':(0:Int)<=(k:Int):=Za
       have i1':(k:Int)<(n1:Int):=Za
       have HLT:=ZqH hlt
       clear hx hmem hpl hip hcell hat hkl f1 f2 f3
       rcases HLK.out with ⟨hin,x,y,hxy,hrun⟩ | ⟨hno,hz0,hrun⟩
       ·have hlook:=hrun V rfl true
        have HXY:=ZqH hxy
        have HNZ:Hid (fget m2 (x0,x1,x2)≠0):=by
         obtain⟨y,hy,he⟩:=hin
         have h1:=HMP2.out y hy
         have h2:=Z0 HSO2.out hy
         rw[he] at h2
         show _≠_
         rw[h2]
         grind
        clear hin hxy hrun HLK
        simp only[if_true] at hlook
        obtain⟨r0,hr0⟩:=ZqJ V.heap.size
        obtain⟨W2,hW2⟩:=ZqJ (V.alloc (pObj x y))
        have HEW:Hid (Env w.heap.size w [(r0,pObj x y),(q0,maO (x0,x1,x2) u v),(G,pObj s2 t2),(w.heap.size+1,pObj s t),(w.heap.size,belO b (.slice pg ng cg) (.slice ps ns cs))] [] W2):=by rw[<- hW2];exact HEV.out.push _ hr0.symm
        have HBW:ZqB wC W2:=by show Below _ _ _;rw[<- hW2];exact HBV.out.alloc HBV.out.size _
        have d0:=HEW.out.cell 2 0 (v:=.string s2) rfl rfl
        have d1:=HEW.out.cell 2 1 (v:=.string t2) rfl rfl
        have a3:=HEW.out.cell 1 3 (v:=.string u) rfl rfl
        have a4:=HEW.out.cell 1 4 (v:=.string v) rfl rfl
        go_wp2_with fail
        clear hW2 hr0 hV hq0 hlook a0 a1 a2 e0 e1 e2 e3 e4 HEV HBV HFV HER
        refine(Zk9 HIP.out HIZ.out HZ01.out.1 _ (HH.out.tabs.below HEW.out.base ZqI)).mono ?_
        rintro e w5 ⟨x5,y5,n5,rfl,hR,hb⟩
        have HE5:=ZqH (HEW.out.step hb)
        have HB5:ZqB wC w5:=HBW.out.trans (hb.mono HBW.out.size)
        obtain⟨r5,hr5⟩:=ZqJ w5.heap.size
        obtain⟨W6,hW6⟩:=ZqJ (w5.alloc (pObj x5 y5))
        have HE6:Hid (Env w.heap.size w [(r5,pObj x5 y5),(r0,pObj x y),(q0,maO (x0,x1,x2) u v),(G,pObj s2 t2),(w.heap.size+1,pObj s t),(w.heap.size,belO b (.slice pg ng cg) (.slice ps ns cs))] [] W6):=by rw[<- hW6];exact HE5.out.push _ hr5.symm
        have HB6:ZqB wC W6:=by show Below _ _ _;rw[<- hW6];exact HB5.out.alloc HB5.out.size _
        clear hb HEW HBW HE5 HB5 d0 d1 a3 a4
        rcases hR with ⟨his,rfl⟩ | ⟨_,rfl,rfl,rfl⟩
        rotate_left
        ·skip
         go_wp2
         exact ZpW (by simp[results,Tryz.f4,go_sem]) rfl ⟨rfl,HE6.out.base⟩
        have HIS:=ZqH his
        have a1:=HE6.out.cell 2 1 (v:=.int .i64 x1) rfl rfl
        have a2:=HE6.out.cell 2 2 (v:=.int .i64 x2) rfl rfl
        clear his
        go_wp2_with fail
        clear hW6 hr5 a1 a2
        have hhas:=Ziw (x:=x1) (y:=x2) (HL.out.after RunR.stays HE6.out.base ZqI)
        obtain⟨bi,hbi⟩:=ZqJ (hasR ws x1 x2)
        rw[hbi] at hhas HF2 HF3
        refine hhas.mono ?_
        rintro e w7 ⟨rfl,hb⟩
        have HE7:=ZqH (HE6.out.step hb)
        have HB7:ZqB wC w7:=HB6.out.trans (hb.mono HB6.out.size)
        clear hb HE6 HB6 hbi hhas
        have b0':=HE7.out.cell 0 0 (v:=.string x5) rfl rfl
        have b1':=HE7.out.cell 0 1 (v:=.string y5) rfl rfl
        have n0':=HE7.out.cell 1 0 (v:=.string x) rfl rfl
        have n1':=HE7.out.cell 1 1 (v:=.string y) rfl rfl
        have hcmp:=ZfB HXY.out HIS.out w7
        obtain⟨c1,hc1⟩:=ZqJ (sgnR (fget m2 (x0,x1,x2)) (q/z))
        rw[hc1] at hcmp
        have hle:¬ (0:Int)<c1:=by rw[<- hc1];exact ZjN HF1.out
        have HCM:=ZqH hcmp
        clear hc1 hcmp
        go_wp2_with fail
        refine HCM.out.mono ?_
        rintro e w8 ⟨rfl,hb⟩
        have HE8:=ZqH (HE7.out.step hb)
        have HB8:ZqB wC w8:=HB7.out.trans (hb.mono HB7.out.size)
        clear hb HE7 HB7 HCM b0' b1' n0' n1'
        have b0':=HE8.out.cell 0 0 (v:=.string x5) rfl rfl
        have b1':=HE8.out.cell 0 1 (v:=.string y5) rfl rfl
        have n0':=HE8.out.cell 1 0 (v:=.string x) rfl rfl
        have n1':=HE8.out.cell 1 1 (v:=.string y) rfl rfl
        have a3:=HE8.out.cell 2 3 (v:=.string u) rfl rfl
        have a4:=HE8.out.cell 2 4 (v:=.string v) rfl rfl
        have s0':=HE8.out.cell 4 0 (v:=.string s) rfl rfl
        cases bi with
        | false=>
         obtain⟨hfe,hfl⟩:=HF2.out rfl
         have hcm2:=ZfB HXY.out HIP.out w8
         obtain⟨c2,hc2⟩:=ZqJ (sgnR (fget m2 (x0,x1,x2)) q)
         rw[hc2] at hcm2
         have hle2:¬ c2<(0:Int):=by rw[<- hc2];exact Zm3 hfl
         have HCM:=ZqH hcm2
         obtain⟨rfl,rfl⟩:=HXY.out.same HIS.out hfe
         clear hfe hfl hc2 hcm2
         go_wp2_with fail
         refine HCM.out.mono ?_
         rintro e w9 ⟨rfl,hb⟩
         have HB9:ZqB wC w9:=HB8.out.trans (hb.mono HB8.out.size)
         clear hb
         go_wp2
         go_roundw
         case rel=>exact⟨k+1,by go_num,by have:=HLT.out;omega,HB9⟩
         case measure=>simp[intOf];have:=HLT.out;omega
        | true=>
         cases hs:(s.toList==[48]) with
         | true=>
          have HF4:=ZqH (HF3.out rfl hs)
          exact Zqx HF4.out HNZ.out
         | false=>
          go_wp2
          go_roundw
          case rel=>exact⟨k+1,by go_num,by have:=HLT.out;omega,HB8⟩
          case measure=>simp[intOf];have:=HLT.out;omega
       ·have hlook:=hrun V rfl true
        have HXY:Hid (IsP (fget m2 (x0,x1,x2)) ⟨#[48]⟩ ⟨#[49]⟩):=by rw[hz0];exact Za5
        clear hno hz0 hrun HLK
        simp only[if_true] at hlook
        obtain⟨r0,hr0⟩:=ZqJ V.heap.size
        have hle0:wC.heap.size<=r0:=HRL.out r0 hr0
        go_wp2_with fail
        obtain⟨V2,hV2⟩:=ZqJ (V.alloc (pObj ZqD ZqD))
        have HEW0:Hid (Env w.heap.size w [(r0,pObj ZqD ZqD),(q0,maO (x0,x1,x2) u v),(G,pObj s2 t2),(w.heap.size+1,pObj s t),(w.heap.size,belO b (.slice pg ng cg) (.slice ps ns cs))] [] V2):=by rw[<- hV2];exact HEV.out.push _ hr0.symm
        have HBW0:ZqB wC V2:=by show Below _ _ _;rw[<- hV2];exact HBV.out.alloc HBV.out.size _
        rw[hV2]
        clear hV2 hr0 hV hq0 hlook a0 a1 a2 e0 e1 e2 e3 e4 HEV HBV HFV HER
        refine(ZpL _ (HH.out.tabs.below HEW0.out.base ZqI)).mono ?_
        rintro e V3 ⟨rfl,hb⟩
        have HEW1:=ZqH (HEW0.out.step hb)
        have HBW1:ZqB wC V3:=HBW0.out.trans (hb.mono HBW0.out.size)
        clear hb
        have r0':=HEW1.out.cell 0 0 (v:=.string ZqD) rfl rfl
        have r1':=HEW1.out.cell 0 1 (v:=.string ZqD) rfl rfl
        have g0':=HEW1.out.free 0 0 rfl
        have g1':=HEW1.out.free 0 1 rfl
        obtain⟨W2,hW2⟩:=ZqJ ((V3.setCell ⟨r0,0,none⟩ (.string ⟨#[48]⟩)).setCell ⟨r0,1,none⟩ (.string ⟨#[49]⟩))
        have HEW:Hid (Env w.heap.size w [(r0,pObj ⟨#[48]⟩ ⟨#[49]⟩),(q0,maO (x0,x1,x2) u v),(G,pObj s2 t2),(w.heap.size+1,pObj s t),(w.heap.size,belO b (.slice pg ng cg) (.slice ps ns cs))] [] W2):=by rw[<- hW2];exact HEW1.out.fill _ _
        have HBW:ZqB wC W2:=by show Below _ _ _;rw[<- hW2];exact(HBW1.out.setCell (p:=⟨r0,0,none⟩) hle0 _).setCell (p:=⟨r0,1,none⟩) hle0 _
        have d0:=HEW.out.cell 2 0 (v:=.string s2) rfl rfl
        have d1:=HEW.out.cell 2 1 (v:=.string t2) rfl rfl
        have a3:=HEW.out.cell 1 3 (v:=.string u) rfl rfl
        have a4:=HEW.out.cell 1 4 (v:=.string v) rfl rfl
        go_wp2_with fail
        clear hW2 r0' r1' g0' g1' hle0 HEW0 HBW0 HEW1 HBW1
        refine(Zk9 HIP.out HIZ.out HZ01.out.1 _ (HH.out.tabs.below HEW.out.base ZqI)).mono ?_
        rintro e w5 ⟨x5,y5,n5,rfl,hR,hb⟩
        have HE5:=ZqH (HEW.out.step hb)
        have HB5:ZqB wC w5:=HBW.out.trans (hb.mono HBW.out.size)
        obtain⟨r5,hr5⟩:=ZqJ w5.heap.size
        obtain⟨W6,hW6⟩:=ZqJ (w5.alloc (pObj x5 y5))
        have HE6:Hid (Env w.heap.size w [(r5,pObj x5 y5),(r0,pObj ⟨#[48]⟩ ⟨#[49]⟩),(q0,maO (x0,x1,x2) u v),(G,pObj s2 t2),(w.heap.size+1,pObj s t),(w.heap.size,belO b (.slice pg ng cg) (.slice ps ns cs))] [] W6):=by rw[<- hW6];exact HE5.out.push _ hr5.symm
        have HB6:ZqB wC W6:=by show Below _ _ _;rw[<- hW6];exact HB5.out.alloc HB5.out.size _
        clear hb HEW HBW HE5 HB5 d0 d1 a3 a4
        rcases hR with ⟨his,rfl⟩ | ⟨_,rfl,rfl,rfl⟩
        rotate_left
        ·skip
         go_wp2
         exact ZpW (by simp[results,Tryz.f4,go_sem]) rfl ⟨rfl,HE6.out.base⟩
        have HIS:=ZqH his
        have a1:=HE6.out.cell 2 1 (v:=.int .i64 x1) rfl rfl
        have a2:=HE6.out.cell 2 2 (v:=.int .i64 x2) rfl rfl
        clear his
        go_wp2_with fail
        clear hW6 hr5 a1 a2
        have hhas:=Ziw (x:=x1) (y:=x2) (HL.out.after RunR.stays HE6.out.base ZqI)
        obtain⟨bi,hbi⟩:=ZqJ (hasR ws x1 x2)
        rw[hbi] at hhas HF2 HF3
        refine hhas.mono ?_
        rintro e w7 ⟨rfl,hb⟩
        have HE7:=ZqH (HE6.out.step hb)
        have HB7:ZqB wC w7:=HB6.out.trans (hb.mono HB6.out.size)
        clear hb HE6 HB6 hbi hhas
        have b0':=HE7.out.cell 0 0 (v:=.string x5) rfl rfl
        have b1':=HE7.out.cell 0 1 (v:=.string y5) rfl rfl
        have n0':=HE7.out.cell 1 0 (v:=.string ⟨#[48]⟩) rfl rfl
        have n1':=HE7.out.cell 1 1 (v:=.string ⟨#[49]⟩) rfl rfl
        have hcmp:=ZfB HXY.out HIS.out w7
        obtain⟨c1,hc1⟩:=ZqJ (sgnR (fget m2 (x0,x1,x2)) (q/z))
        rw[hc1] at hcmp
        have hle:¬ (0:Int)<c1:=by rw[<- hc1];exact ZjN HF1.out
        have HCM:=ZqH hcmp
        clear hc1 hcmp
        go_wp2_with fail
        refine HCM.out.mono ?_
        rintro e w8 ⟨rfl,hb⟩
        have HE8:=ZqH (HE7.out.step hb)
        have HB8:ZqB wC w8:=HB7.out.trans (hb.mono HB7.out.size)
        clear hb HE7 HB7 HCM b0' b1' n0' n1'
        have b0':=HE8.out.cell 0 0 (v:=.string x5) rfl rfl
        have b1':=HE8.out.cell 0 1 (v:=.string y5) rfl rfl
        have n0':=HE8.out.cell 1 0 (v:=.string ⟨#[48]⟩) rfl rfl
        have n1':=HE8.out.cell 1 1 (v:=.string ⟨#[49]⟩) rfl rfl
        have a3:=HE8.out.cell 2 3 (v:=.string u) rfl rfl
        have a4:=HE8.out.cell 2 4 (v:=.string v) rfl rfl
        have s0':=HE8.out.cell 4 0 (v:=.string s) rfl rfl
        cases bi with
        | false=>
         obtain⟨hfe,hfl⟩:=HF2.out rfl
         have hcm2:=ZfB HXY.out HIP.out w8
         obtain⟨c2,hc2⟩:=ZqJ (sgnR (fget m2 (x0,x1,x2)) q)
         rw[hc2] at hcm2
         have hle2:¬ c2<(0:Int):=by rw[<- hc2];exact Zm3 hfl
         have HCM:=ZqH hcm2
         obtain⟨rfl,rfl⟩:=HXY.out.same HIS.out hfe
         clear hfe hfl hc2 hcm2
         go_wp2_with fail
         refine HCM.out.mono ?_
         rintro e w9 ⟨rfl,hb⟩
         have HB9:ZqB wC w9:=HB8.out.trans (hb.mono HB8.out.size)
         clear hb
         go_wp2
         go_roundw
         case rel=>exact⟨k+1,by go_num,by have:=HLT.out;omega,HB9⟩
         case measure=>simp[intOf];have:=HLT.out;omega
        | true=>
         cases hs:(s.toList==[48]) with
         | true=>
          have HF4:=ZqH (HF3.out rfl hs)
          (go_wp2;go_roundw;(case rel=>exact⟨k+1,by go_num,by have:=HLT.out;omega,HB8⟩);(case measure=>simp[intOf];have:=HLT.out;omega))
         | false=>
          go_wp2
          go_roundw
          case rel=>exact⟨k+1,by go_num,by have:=HLT.out;omega,HB8⟩
          case measure=>simp[intOf];have:=HLT.out;omega
      ·obtain rfl:k=n1:=Za
       have HER:=ZqH (HEC.out.step HBR.out)
       have HTB:=ZqH (HH.out.tabs.below HER.out.base ZqI)
       have HCB:Hid (∀ X,Below wr.heap.size wr X->X.cell? ⟨G,0,none⟩=some (.string s2)/\X.cell? ⟨G,1,none⟩=some (.string t2)):=fun X hX=>⟨(HER.out.step hX).cell 0 0 rfl rfl,(HER.out.step hX).cell 0 1 rfl rfl⟩
       obtain⟨c3,hc3⟩:=ZqJ (sgnR z 1)
       have HC3:Hid (c3<=0):=by
        have h1:=ZjN (a:=z) (b:=1) HZ01.out.2
        rw[hc3] at h1
        show c3<=0
        omega
       go_upto_region 27 with (fail)
       refine ZA [(1,0),(1,1),(1,2),(0,3),(0,4),(1,5),(1,6),(1,7)] (Below wr.heap.size wr) (fun _=>false)
        Zb Zb (fun _ _=>rfl) Zi (ZpV _ wr).drew ?_
       obtain⟨wf,hwf⟩:=ZqJ wr.drew
       have HBF:ZqB wr wf:=by show Below _ _ _;rw[<- hwf];exact(ZpV _ wr).drew
       rw[hwf]
       clear hwf
       iterate 3
        first
         | refine Zac rfl rfl ?_
         | refine Zq _ rfl rfl (fun w' hS=>by obtain⟨q0,q1⟩:=HCB.out _ hS;go_simp;first | done | rfl | (rw[if_pos Za])) ?_
        simp only[Act.put,Zl]
       refine Zs 17 _ rfl rfl (by first | (go_simp;done) | (go_simp;rfl)) ?_
       refine(Zi7 _ (HTB.out.below HBF.out ZqI)).mono ?_
       rintro e wg ⟨rfl,hb⟩
       have HBG:ZqB wr wg:=HBF.out.trans (hb.mono HBF.out.size)
       refine .inl ⟨_,rfl,HBG.out,?_⟩
       clear hb
       simp only[Act.put,Zl]
       refine Zs 18 _ rfl rfl (by first | (go_simp;done) | (go_simp;rfl)) ?_
       have hcm3:=ZfB HIZ.out ZbD wg
       rw[hc3] at hcm3
       refine hcm3.mono ?_
       rintro e wi ⟨rfl,hb⟩
       have HBI:ZqB wr wi:=HBG.out.trans (hb.mono HBG.out.size)
       refine .inl ⟨_,rfl,HBI.out,?_⟩
       clear hb hcm3 hc3
       have hc0:=HC3.out
       simp only[Act.put,Zl]
       iterate 3
        first
         | refine Zac rfl rfl ?_
         | refine Zq _ rfl rfl (fun w' hS=>by obtain⟨q0,q1⟩:=HCB.out _ hS;go_simp;first | done | rfl | (rw[if_pos Za])) ?_
        simp only[Act.put,Zl]
       refine Zz ?_
       have HBZ:ZqB w wi:=HER.out.base.trans (HBI.out.mono HER.out.base.size)
       go_wp2
       exact ZpW (by simp[results,Tryz.f4,go_sem];try exact HC3.out) rfl ⟨rfl,HBZ.out⟩
  ·skip
   go_wp2
   exact ZpW (by simp[results,Tryz.f4,go_sem]) rfl ⟨rfl,HE9.out.base⟩
 ·skip
  go_wp2
  exact ZpW (by simp[results,Tryz.f4,go_sem]) rfl ⟨rfl,HE9.out.base⟩
end Go.Proofs.YtjmckebecpjjfaaGreatDoor
namespace Go.Proofs.YtjmckebecpjjfaaGreatDoor
open Go.ChangeShapes Go.WideShapes Go.ChangeAt Go.RowKit
section
variable {H:Type} {enc:TypeId×Value->H} {W:World} {base b0:Nat} {sp:Nat->Bool} {held:Bool}
theorem ZmU {v:Value} {d:DataW H} {p:List MemPlace} (hv:Value.okWide Tryz.prog W .any b0 22 v) (h:DataW.Trod enc Tryz.prog W base sp held 22 v d p):∃ l:List RunP,RunL W v l:=by
 obtain⟨n,x,hf⟩:=ZjF hv Tryz.underlying22 h
 exact Zc7 Tryz.underlying22 Zb Zfz hf
theorem Znt {v:Value} {d:DataW H} {p:List MemPlace} (hv:Value.okWide Tryz.prog W .any b0 39 v)
  (h:DataW.Trod enc Tryz.prog W base sp held 39 v d p):∃ s t:ByteArray,v=ZqE s t/\p=[]:=by
 obtain⟨c0,c1,y0,y1,m,rfl,rfl,rfl,hy0,hy1⟩:=Joins.open_agg2 Tryz.underlying39 Zb Zb hv h
 obtain⟨s,e0,rfl,_⟩:=DataW.trod_string Tryz.underlying37 hy0
 obtain⟨t,e1,rfl,_⟩:=DataW.trod_string Tryz.underlying37 hy1
 simp at e0 e1
 subst e0 e1
 exact⟨s,t,rfl,rfl⟩
end
end Go.Proofs.YtjmckebecpjjfaaGreatDoor
namespace Go.Proofs.YtjmckebecpjjfaaGreatDoor
open Go.ChangeShapes Go.WideShapes Go.ChangeAt Go.RowKit
theorem ZkN (os:Os) (started:os.Started) (H:Type) (enc:TypeId×Value->H) :
  ReturnsInHanded {} Tryz.checked os 4 .any (fun w args=>(Rows.beliefVainSpec.pre enc Tryz.prog Tryz.f4 Rows.beliefVainRow.domain false w args/\laidMetH Tryz.prog ZaV w)/\sizedMet enc Tryz.prog Tryz.f4 (OpenSpec.ofChange Rows.beliefVainSpec) false w args)
   (Rows.beliefVainSpec.post enc Tryz.prog Tryz.f4 false true false false):=by
 refine returnsInHanded_of_change_and (C:=Tryz.checked) (X:=fun w _=>laidMetH Tryz.prog ZaV w) (fun _ _ _ hh h=>h.of_heap hh) Zjw started Zb Tryz.func4
  (ChangeSpec.witness_shaped (enc:=enc) (C:=Tryz.checked) (os:=os) (X:=fun w _=>laidMetH Tryz.prog ZaV w) false (World.laidAll Tryz.prog os ZaV) #[.agg #[.int .i64 0,.int .i64 0,.int .i64 0,.slice none 0 0,.slice none 0 0],.slice none 0 0,ZqE ZqD ZqD] 8 (World.laidAll_os _ _ _)
   (World.shaped_of_ZipB Zb Zb) Zb Zb Zb (met9 os _)) ?_
 intro W base args ds gs before hval0 hW hc _ hL _
 have hval:∀ (j:Nat) t v,Tryz.f4.params[j]?=some t->args[j]?=some v->Value.okWide Tryz.prog W .any base t v:=hval0
 have hW':=hW
 obtain⟨p,q,hA0,hV,rfl,_,_⟩:=hW
 have hA:DataW.TrodAll enc Tryz.prog W 0 (fun _=>true) true Tryz.f4.params.toList args.toList ds p:=hA0
 rw[Tryz.params4] at hA hval
 obtain⟨v0,v1,v2,d0,d1,d2,p0,p1,p2,rfl,rfl,rfl,h0,h1,h2⟩:=trodAll_three hA
 obtain⟨rfl,rfl⟩:=trodVars_none hV
 obtain⟨t0,x0,y0,rfl,hT0⟩:=ZiK (hval 0 _ v0 rfl rfl) h0 hL
 obtain⟨r1,hr1⟩:=ZmU (hval 1 _ v1 rfl rfl) h1
 obtain⟨s2,t2,rfl,rfl⟩:=Znt (hval 2 _ v2 rfl rfl) h2
 clear hA0 hval0
 simp only[List.append_nil] at hW'
 refine(ZmE hT0 hr1 s2 t2).mono fun e W' ⟨he,bel⟩=>?_
 subst he
 have nx:∀ x ∈ ([]:List MemPlace),x.block<W.heap.size:=fun _ h=>by cases h
 have hlt0:∀ x ∈ p0,x.block<W.heap.size:=fun x hx=>by first | (have:=hW'.lt x hx;simpa using this) | (have:=hW'.lt x (by simp[hx]);simpa using this)
 have hlt1:∀ x ∈ p1,x.block<W.heap.size:=fun x hx=>by first | (have:=hW'.lt x hx;simpa using this) | (have:=hW'.lt x (by simp[hx]);simpa using this)
 refine⟨_,rfl,_,_,_,[],p0++p1,[],hW',?_,?_,?_,bel.frame _,fun h=>by cases h⟩
 ·exact trodAll_mk1 (shut_bool Tryz.underlying4 _)
 ·have h9:=trodAll_mk3 (Below.trod Zc0 Zb (of_decide_eq_true Zb) h0 bel hlt0) (Below.trod Zc0 Zb (of_decide_eq_true Zb) h1 bel hlt1) (Below.trod Zc0 Zb (of_decide_eq_true Zb) h2 bel nx)
  first | exact h9 | (simp only[List.append_nil,ZqA] at h9;exact h9) | (simp only[<- List.append_assoc,List.append_nil,ZqA] at h9;exact h9) | (simpa using h9)
 ·rfl
end Go.Proofs.YtjmckebecpjjfaaGreatDoor
