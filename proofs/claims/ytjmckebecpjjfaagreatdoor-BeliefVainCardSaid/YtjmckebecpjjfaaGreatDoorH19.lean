/- The parts BelBO, BelBP, StepsR, BelBQ, Range2. -/
import Derived.Test.YtjmckebecpjjfaaGreatDoorH18
set_option maxRecDepth 100000
set_option maxHeartbeats 4000000
set_option linter.unusedVariables false
set_option linter.unusedSimpArgs false
namespace Go.Proofs.YtjmckebecpjjfaaGreatDoor
open Go.RowKit Go.Shelf
attribute [local go_sem ↓] Go.wp_at_zero Go.wp_at_succ
def Zcc (b:BelP):Except Int Fl:=if ZF b then ZaK b else .error 2
def MasA (r:Except Int Fl) (w:World) (e:Ending) (w':World):Prop:=
 ((∃ ms v,r=.ok ms/\e=.returned (.tuple #[v,.int .i64 0])/\ZK w' v ms/\ZaZ ms)\/(∃ n,r=.error n/\n≠0/\e=.returned (.tuple #[.slice none 0 0,.int .i64 n])))/\Below w.heap.size w w'
theorem Zhv {b:BelP} {lv sv:Value} {w:World} (h:BelIn b lv sv w) (hz:LimB b):Calls Tryz.prog 13 #[belV b lv sv] w (MasA (Zcc b) w):=by
 have HE1:Hid (Env w.heap.size w [(w.heap.size+1,msO (.slice none 0 0)),(w.heap.size,belO b lv sv)] [] ((w.alloc (belO b lv sv)).alloc (msO (.slice none 0 0)))):=((Env.start w).push _ rfl).push _ Zc
 obtain⟨w1,hw1⟩:=ZqJ ((w.alloc (belO b lv sv)).alloc (msO (.slice none 0 0)))
 rw[hw1] at HE1
 have HH:=ZqH h
 have HZ:=ZqH hz
 have HC:=ZqH (Zfs (h.below HE1.out.base ZqI) hz)
 obtain⟨c0,c1,c2,c3,c4⟩:=Zv (HE1.out.block 1 rfl)
 clear h hz
 go_enter Tryz.func13,Tryz.ntmps13
 go_wp2_with fail
 refine HC.out.mono ?_
 rintro e w2 ⟨rfl,hb⟩
 have HE2:=ZqH (HE1.out.step hb)
 clear hb HC c0 c1 c2 c3 c4 hw1
 have d0:=HE2.out.cell 0 0 (v:=.slice none 0 0) rfl rfl
 have g0:=HE2.out.free 0 0 rfl
 cases h1:ZF b
 ·simp only[Bool.false_eq_true,if_false]
  have HR:Hid (Zcc b=.error 2):=by show _=_;unfold Zcc;rw[h1];rfl
  have HB2:Hid (Below w.heap.size w (w2.setCell ⟨w.heap.size+1,0,none⟩ (.slice none 0 0))):=HE2.out.base.setCell (p:=⟨w.heap.size+1,0,none⟩) (by show w.heap.size<=w.heap.size+1;omega) _
  have d1:(w2.setCell ⟨w.heap.size+1,0,none⟩ (.slice none 0 0)).cell? ⟨w.heap.size+1,0,none⟩=some (.slice none 0 0):=World.cell?_setCell_same' _ _ _ (by rw[d0];rfl)
  go_wp2
  exact ZpW (v:=.tuple #[.slice none 0 0,.int .i64 2]) (by simp[results,Tryz.f13,go_sem,d1]) rfl ⟨.inr ⟨2,HR.out,Zd,rfl⟩,HB2.out⟩
 ·simp only[if_true]
  have hr2:=HE2.out.lt 0 rfl
  have hal:=(ZpV w2.heap.size w2).alloc ZqI (brO 0)
  have hbw:=HE2.out.base.trans (hal.mono HE2.out.own)
  have hdo:=Zl2 (R:=w.heap.size+1) (C:=w2.heap.size+1) (HH.out.below hbw ZqI) h1 ((hal.block _ (HE2.out.lt 1 rfl)).trans (HE2.out.block 1 rfl)) ((hal.block _ hr2).trans (HE2.out.block 0 rfl)) Zc
  have HT:=ZqH (Zdr (enters_of Tryz.func38 Zb rfl) (w:=w2) (S:=fun x=>x≠w.heap.size+1) (fun x hx=>Za) (fun n W W' hQ hk=>hQ.stay hk hr2 Za) hdo)
  have H1:=ZqH h1
  clear h1 hdo hal hbw
  go_wp2_with fail
  refine HT.out.mono ?_
  rintro e w3 ⟨n,rfl,hQ,hk⟩
  have HB3:ZqB w w3:=HE2.out.base.trans (((hk.mono (S':=fun x=>x<w.heap.size) fun x _ hx=>Za).toBelow HE2.out.base.size))
  have HQ:=ZqH hQ
  clear hQ hk HT d0 g0
  by_cases hn:n=0
  ·obtain⟨ms,v,e1,e2,e3,e4⟩:=HQ.out.1 hn
   subst hn
   obtain⟨p9,n9,c9,rfl⟩:∃ p n c,v=Value.slice p n c:=by
    rcases e3.2 with ⟨h,_⟩ | ⟨_,_,_,h,_⟩
    ·exact⟨_,_,_,h⟩
    ·exact⟨_,_,_,h⟩
   have d0:=Zn e2 0 rfl
   have g0:=Zo e2 0
   have HR:Hid (Zcc b=.ok ms):=by show _=_;unfold Zcc;rw[H1.out,if_pos rfl];exact e1
   have hk:Keeps (fun x=>x≠w.heap.size+1) w3 (w3.setCell ⟨w.heap.size+1,0,none⟩ (.slice p9 n9 c9)):=(Keeps.refl _ w3).setCell (p:=⟨w.heap.size+1,0,none⟩) (fun h=>h rfl) _
   have HM:=ZqH (Zcf (Zx e3 hk fun g hg=>Za) e4)
   have HB4:Hid (Below w.heap.size w (w3.setCell ⟨w.heap.size+1,0,none⟩ (.slice p9 n9 c9))):=HB3.out.setCell (p:=⟨w.heap.size+1,0,none⟩) (by show w.heap.size<=w.heap.size+1;omega) _
   have d1:(w3.setCell ⟨w.heap.size+1,0,none⟩ (.slice p9 n9 c9)).cell? ⟨w.heap.size+1,0,none⟩=some (.slice p9 n9 c9):=World.cell?_setCell_same' _ _ _ (by rw[d0];rfl)
   clear e1 e2 e3 hk
   go_wp2
   exact ZpW (v:=.tuple #[.slice p9 n9 c9,.int .i64 0]) (by simp[results,Tryz.f13,go_sem,d1]) rfl ⟨.inl ⟨ms,_,HR.out,rfl,HM.out,e4⟩,HB4.out⟩
  ·obtain⟨e1,e2⟩:=HQ.out.2 hn
   have d0:=Zn e2 0 rfl
   have g0:=Zo e2 0
   have HN:=ZqH hn
   have HR:Hid (Zcc b=.error n):=by show _=_;unfold Zcc;rw[H1.out,if_pos rfl];exact e1
   have HB4:Hid (Below w.heap.size w (w3.setCell ⟨w.heap.size+1,0,none⟩ (.slice none 0 0))):=HB3.out.setCell (p:=⟨w.heap.size+1,0,none⟩) (by show w.heap.size<=w.heap.size+1;omega) _
   have d1:(w3.setCell ⟨w.heap.size+1,0,none⟩ (.slice none 0 0)).cell? ⟨w.heap.size+1,0,none⟩=some (.slice none 0 0):=World.cell?_setCell_same' _ _ _ (by rw[d0];rfl)
   clear e1 e2 hn
   go_wp2
   exact ZpW (v:=.tuple #[.slice none 0 0,.int .i64 n]) (by simp[results,Tryz.f13,go_sem,d1]) rfl ⟨.inr ⟨n,HR.out,HN.out,rfl⟩,HB4.out⟩
abbrev maV (x:Pl) (s t:ByteArray):Value:=.agg #[.int .i64 x.1,.int .i64 x.2.1,.int .i64 x.2.2,.string s,.string t]
abbrev maO (x:Pl) (s t:ByteArray):Obj:=.cells #[.int .i64 x.1,.int .i64 x.2.1,.int .i64 x.2.2,.string s,.string t] 55
def ZaH (b:BelP) (x:Pl×Rat):Bool:=(inG 0 x.1.1 (b.scenes.length-1) && (hasC b.sea x.1.2.1 x.1.2.2 || ZcY x.1)) && (decide (Deep x.2) && decide (x.2≠0))
def ZN (b:BelP) (ms:Fl):Bool:=decide (ms.length<=65536) && !ZV (fun k=>!ZaH b (mA ms k) || (decide (0<k) && !plLt (mA ms (k-1)).1 (mA ms k).1)) ms.length
theorem ZbV (x:Pl) (s t:ByteArray) (w:World):Calls Tryz.prog 64 #[maV x s t] w (ZaE (kPl x) w):=by
 obtain⟨a,b,d⟩:=x
 go_enter Tryz.func64,Tryz.ntmps64
 go_wp2
 obtain⟨W,hW⟩:=ZqJ (w.alloc (maO (a,b,d) s t))
 have hs:W.heap.size=w.heap.size+1:=by rw[<- hW];simp
 have hB:Below w.heap.size w W:=by rw[<- hW];exact(ZpV _ w).alloc ZqI _
 rw[hW]
 have c0:=ZP W #[.int .i64 a,.int .i64 b,.int .i64 d] 118 0 rfl
 have c1:=ZP W #[.int .i64 a,.int .i64 b,.int .i64 d] 118 1 rfl
 have c2:=ZP W #[.int .i64 a,.int .i64 b,.int .i64 d] 118 2 rfl
 rw[hs] at c0 c1 c2
 exact ZpW (v:=kPl (a,b,d)) (by simp[results,Tryz.f64,go_sem,c0,c1,c2]) rfl ⟨rfl,hB.alloc Za _⟩
section
variable {P:Program} {ops:Array Oper} {Q:Exit->Act->World->Prop} {md:Region.Mode} {S:World->Prop} {bar:Nat->Bool} {l n:Nat}
theorem ZlM {o:Oper} {a:Act} {next:Act->World->Prop} {r:Result Next} (h:o.upon P a next Q r):o.uponIn (Fence.wide.inRound l) n P a next Q r:=by
 unfold Oper.upon at h
 split at h
 ·exact h
 ·exact h
 ·exact h
 ·exact⟨fun hc=>(by cases hc),Zqp.2 h⟩
 ·refine⟨fun hc=>(by cases hc),fun c cs _=>?_⟩
  obtain⟨v,w',h1,h2⟩:=h c cs
  exact⟨v,w',h1,stepsIn_wide.2 h2⟩
 ·exact h
 ·exact h.elim
def ZhA (l:List Oper):Bool:=l.all fun o=>match o.op with | .defer _=>false | _=>true
theorem Zgm {l:List Oper} (h:ZhA l=true) {i:Nat} {o:Oper} (ho:l.toArray[i]?=some o):∀ c,o.op≠.defer c:=fun c hc=>by
 unfold ZhA at h
 rw[Zqw] at h
 have:=h o (List.mem_of_getElem? (by simpa using ho))
 rw[hc] at this
 cases this
theorem ZlU (hno:¬ LetsOut Q) (hd:∀ (i:Nat) (o:Oper),ops[i]?=some o->∀ c,o.op≠.defer c) {i:Nat} {K K':Act->World->Prop} {a:Act} {w:World} (h:wpOp P ops Q i K a w) (hK:∀ a w,K a w->K' a w) :
  wpOpIn (Fence.wide.inRound l) n P ops Q i K' a w:=by
 have h:=wpOp_mono hK h
 unfold wpOp at h
 unfold wpOpIn
 cases ho:ops[i]? with
 | none=>rw[ho] at h;exact h
 | some o=>
  rw[ho] at h
  simp only at h ⊢
  split
  ·rename_i hw
   rw[if_pos hw] at h
   rcases h with h | h
   ·refine⟨fun _ _=>trivial,?_⟩
    rw[Oper.semAt_eq _ _ _ (hd i o ho)]
    exact ZlM h
   ·exact Zqx h.2 hno
  ·rename_i hw
   rw[if_neg hw] at h
   exact⟨fun _ _=>trivial,h⟩
theorem Zd7 (hno:¬ LetsOut Q) (hd:∀ (i:Nat) (o:Oper),ops[i]?=some o->∀ c,o.op≠.defer c):∀ (fuel:Nat) (listed:Array Bool) (a:Act) (w:World),wpAny P md ops Q fuel listed a w->wpAnyIn (Fence.wide.inRound l) n P md ops Q fuel listed a w
 | 0,_,_,_,h=>h
 | fuel+1,listed,a,w,h=>⟨h.1,fun i hi=>ZlU hno hd (h.2 i hi) fun a w=>Zd7 hno hd fuel _ a w⟩
theorem Zfv {id:Nat} {a:Act} {w:World} {ol:List Oper} (ks:List (Nat×Nat)) (S:World->Prop) (bar:Nat->Bool) (hm:P.follows .mixedOrders=true)
  (hB:ZeE ol ks bar=true) (hd:ZhA ol=true) (hno:¬ LetsOut Q) (hbo:∀ j,ol.length<=j->bar j=false) (hQ:∀ c a o v w,Q (.panic c) (a.put o v) w->Q (.panic c) a w) (hS:S w.drew)
  (H:Zak P ol.toArray Q S bar ks a w.drew):(Code.region id ol.toArray true).wpIn (Fence.wide.inRound l) n P Q a w:=by
 simp only[ZeE,Zqt,Zqu] at hB
 obtain⟨⟨hsel,hn⟩,hm2⟩:=hB
 have:=Zd7 (l:=l) (n:=n) hno (fun i o ho=>Zgm hd ho) _ _ _ _ (ZbN _ _ _ _ (Za6 hsel hQ (fun j hj=>hbo j (by simpa using hj)) ks _ a w.drew hm2 ZbH.start (.inl hS) H))
 rw[hn] at this
 exact wpIn_region_any hm (by simpa using this)
end
theorem ZK.at {l:Fl} {p:Option Addr} {n c:Nat} {w:World} (h:ZK w (.slice p n c) l) (hn:l.length=n) (h0:0<n) :
  ∃ b o,p=some ⟨b,o,none⟩/\∀ k,k<n->∃ s t,IsP (mA l k).2 s t/\I64 (mA l k).1.1/\I64 (mA l k).1.2.1/\I64 (mA l k).1.2.2/\∀ W,Below w.heap.size w W->W.cell? ⟨b,o+k*5,none⟩=some (.int .i64 (mA l k).1.1)/\W.cell? ⟨b,o+k*5+1,none⟩=some (.int .i64 (mA l k).1.2.1)/\W.cell? ⟨b,o+k*5+2,none⟩=some (.int .i64 (mA l k).1.2.2)/\W.cell? ⟨b,o+k*5+3,none⟩=some (.string s)/\W.cell? ⟨b,o+k*5+4,none⟩=some (.string t):=by
 obtain⟨b,o,h1,hbl,h2⟩:=LL.at ZaQ.stays h hn h0
 refine⟨b,o,h1,fun k hk=>?_⟩
 obtain⟨⟨a1,b1⟩,⟨a2,b2⟩,⟨a3,b3⟩,⟨s,t⟩,hi,a4,a5⟩:=h2 w (ZpV _ w) k Za
 rw[Z9 Za] at a1 a2 a3 b1 b2 b3 hi
 exact⟨s,t,hi,b1,b2,b3,fun W hW=>⟨ZS a1 hbl hW ZqI,ZS a2 hbl hW ZqI,ZS a3 hbl hW ZqI,ZS a4 hbl hW ZqI,ZS a5 hbl hW ZqI⟩⟩
theorem ZeX {b:BelP} {ms:Fl} {k:Nat} (hk:k<ms.length) (h:(!ZaH b (mA ms k) || (decide (0<k) && !plLt (mA ms (k-1)).1 (mA ms k).1))=true):ZN b ms=false:=by
 unfold ZN
 rw[Zbq ⟨k,hk,h⟩]
 simp
theorem ZbA {b:BelP} {ms:Fl} {k:Nat} (hk:k<ms.length) (h:ZaH b (mA ms k)=false):ZN b ms=false:=ZeX hk (by rw[h];rfl)
theorem Zj8 {b:BelP} {ms:Fl} (h:65536<ms.length):ZN b ms=false:=by
 unfold ZN
 rw[decide_eq_false Za]
 rfl
theorem Zk3 {b:BelP} {ms:Fl} (hl:ms.length<=65536) (h:∀ k,k<ms.length->ZaH b (mA ms k)=true/\(0<k->plLt (mA ms (k-1)).1 (mA ms k).1=true)):ZN b ms=true:=by
 unfold ZN
 rw[decide_eq_true hl,ZbZ fun k hk=>?_]
 ·rfl
 ·obtain⟨h1,h2⟩:=h k hk
  rw[h1]
  by_cases h0:0<k
  ·rw[h2 h0];simp
  ·simp[h0]
theorem ZeF {b:BelP} (hg:GridW b.sea) (h8:b.scenes.length<=8) {x:Pl×Rat} (h:ZaH b x=true):PlB x.1:=by
 unfold ZaH at h
 simp only[Zqt,Bool.or_eq_true,Zcp,Zg0,ZcY,Zqu] at h
 obtain⟨⟨h1,h2⟩,_⟩:=h
 have:=hg.w2
 have:=hg.h2
 unfold PlB
 omega
theorem Zmc {q:Rat} {s t:ByteArray} (h:IsP q s t):ZW 300 (s,t)=decide (Deep q):=by
 have e1:s.size=(numD q).length:=by rw[h.num];simp[str];rfl
 have e2:t.size=(denD q).length:=by rw[h.den];simp[str];rfl
 unfold ZW Deep
 show (decide (s.size<=300) && decide (t.size<=300) && okP s t)=_
 rw[h.ok,e1,e2,Bool.and_true,<- Bool.decide_and]
 exact decide_eq_decide.2 Iff.rfl
theorem ZgA {p q:Pl} (hp:PlB p) (hq:PlB q) {w:World} : Calls Tryz.prog 116 #[kPl p,kPl q] w (ZaE (.int .i64 (ordI p q)) w):=
 (Zit hp hq).mono fun e w' ⟨he,m,os,hw⟩=>⟨he,by
  subst hw
  exact⟨rfl,rfl,rfl,by simp[World.drewN],fun k hk=>Go.Sort.heap_grow_old _ _ hk⟩⟩
theorem ZhH {b:BelP} {lv sv v:Value} {ms:Fl} {w:World} (h:BelIn b lv sv w) (hg:GridW b.sea) (h8:1<=b.scenes.length/\b.scenes.length<=8) (hm:ZK w v ms) :
  Calls Tryz.prog 98 #[belV b lv sv,v] w (ZB w (ZN b ms)):=by
 obtain⟨n,hn⟩:=ZqJ ms.length
 obtain⟨pm,cm,rfl,hc1,hc2⟩:=hm.shape hn
 obtain⟨ng,hng⟩:=ZqJ b.sea.land.length
 obtain⟨pg,cg,rfl,_,_⟩:=h.sea.land.shape hng
 obtain⟨ns,hns⟩:=ZqJ b.scenes.length
 obtain⟨ps,cs,rfl,_,_⟩:=h.scenes.shape hns
 have HE1:Hid (Env w.heap.size w [(w.heap.size,belO b (.slice pg ng cg) (.slice ps ns cs))] [] (w.alloc (belO b (.slice pg ng cg) (.slice ps ns cs)))):=(Env.start w).push _ rfl
 have HAT:=ZqH (fun h0=>ZK.at hm hn h0)
 have HN:=ZqH hn
 have HNS:=ZqH hns
 have HG:=ZqH hg
 have HZ:=ZqH h.vars
 have HB:=ZqH h
 rw[hns] at h8
 have H8:=ZqH h8
 have hws:wrap64 ((ns:Int)-1)=(ns:Int)-1:=by unfold wrap64;omega
 clear hm hn hng hns hg h h8
 by_cases hlen:65536<n
 ·have hlen':(65536:Int)<n:=Za
  have HNO:Hid (ZN b ms=false):=Zj8 (by rw[HN.out];exact hlen)
  go_enter Tryz.func98,Tryz.ntmps98
  go_wp2
  exact ZpW (v:=.bool false) (by simp[results,Tryz.f98,go_sem]) rfl ⟨by rw[HNO.out],HE1.out.base⟩
 have hlen':¬ (65536:Int)<n:=Za
 go_enter Tryz.func98,Tryz.ntmps98
 go_wp2_with fail
 obtain⟨w1,hw1⟩:=ZqJ (w.alloc (belO b (.slice pg ng cg) (.slice ps ns cs)))
 rw[hw1] at HE1 ⊢
 clear hw1
 go_loopw [12] (fun iv wr=>∃ k:Nat,iv=.int .i64 k/\k<=n/\Hid (∀ j,j<k->ZaH b (mA ms j)=true/\(0<j->plLt (mA ms (j-1)).1 (mA ms j).1=true))/\Hid (Env w.heap.size w [(w.heap.size,belO b (.slice pg ng cg) (.slice ps ns cs))] [] wr)) (fun iv _=>n-(intOf iv).toNat)
 case atStart=>exact⟨0,rfl,Zp8 _,fun j h=>Zqx h (Zql _),HE1⟩
 case round=>
  obtain⟨k,rfl,hk,HD,HER⟩:=hrel
  clear HE1
  by_cases hlt:k<n
  ·obtain⟨b0,o0,rfl,hat⟩:=HAT.out Za
   obtain⟨s,t,hi,i1,i2,i3,hcell⟩:=hat k hlt
   obtain⟨e0,e1,e2,e3,e4⟩:=hcell wr HER.out.base
   obtain⟨⟨⟨x0,x1,x2⟩,q⟩,hx⟩:∃ z,mA ms k=z:=⟨_,rfl⟩
   have HX:=ZqH hx
   rw[hx] at hi i1 i2 i3 e0 e1 e2
   dsimp only at hi i1 i2 i3 e0 e1 e2
   have HI:=ZqH hi
   have HDR:=ZqH (Zmc hi)
   have HLI:=ZqH hi.limit
   have HATK:=ZqH hat
   clear hx hi i1 i2 i3 hcell hat
   obtain⟨W,hW⟩:=ZqJ (wr.alloc (maO (x0,x1,x2) s t))
   obtain⟨q0,hq0⟩:=ZqJ wr.heap.size
   have HEW:Hid (Env w.heap.size w [(q0,maO (x0,x1,x2) s t),(w.heap.size,belO b (.slice pg ng cg) (.slice ps ns cs))] [] W):=by rw[<- hW,<- hq0];exact HER.out.push _ rfl
   have i0':(0:Int)<=(k:Int):=Za
   have i1':(k:Int)<(n:Int):=Za
   obtain⟨c0,c1,c2,c3,c4⟩:=Zv (HEW.out.block 1 rfl)
   have a0:=HEW.out.cell 0 0 (v:=.int .i64 x0) rfl rfl
   have a1:=HEW.out.cell 0 1 (v:=.int .i64 x1) rfl rfl
   have a2:=HEW.out.cell 0 2 (v:=.int .i64 x2) rfl rfl
   have a3:=HEW.out.cell 0 3 (v:=.string s) rfl rfl
   have a4:=HEW.out.cell 0 4 (v:=.string t) rfl rfl
   go_wp2_with fail
   refine(ZbG _ _ _ _).mono ?_
   rintro e w2 ⟨rfl,hb⟩
   have HE2:=ZqH (HEW.out.step hb)
   clear hb HEW a0 a1 a2 a3 a4 c0 c1 c2 c3 c4
   obtain⟨c0,c1,c2,c3,c4⟩:=Zv (HE2.out.block 1 rfl)
   have a0:=HE2.out.cell 0 0 (v:=.int .i64 x0) rfl rfl
   have a1:=HE2.out.cell 0 1 (v:=.int .i64 x1) rfl rfl
   have a2:=HE2.out.cell 0 2 (v:=.int .i64 x2) rfl rfl
   have a3:=HE2.out.cell 0 3 (v:=.string s) rfl rfl
   have a4:=HE2.out.cell 0 4 (v:=.string t) rfl rfl
   cases h1:inG 0 x0 ((ns:Int)-1)
   ·skip
    have HNO:Hid (ZN b ms=false):=ZbA (by rw[HN.out];exact hlt) (by rw[HX.out];unfold ZaH;simp only[HNS.out,h1,Bool.false_and])
    go_wp2
    exact ZpW (v:=.bool false) (by simp[results,Tryz.f98,go_sem]) rfl ⟨by rw[HNO.out],HE2.out.base⟩
   have H1:=ZqH h1
   clear h1
   go_wp2_with fail
   refine(ZgQ HG.out x1 x2 _).mono ?_
   rintro e w3 ⟨rfl,hb⟩
   have HE3:=ZqH (HE2.out.step hb)
   clear hb HE2 a0 a1 a2 a3 a4 c0 c1 c2 c3 c4
   obtain⟨c0,c1,c2,c3,c4⟩:=Zv (HE3.out.block 1 rfl)
   have a0:=HE3.out.cell 0 0 (v:=.int .i64 x0) rfl rfl
   have a1:=HE3.out.cell 0 1 (v:=.int .i64 x1) rfl rfl
   have a2:=HE3.out.cell 0 2 (v:=.int .i64 x2) rfl rfl
   have a3:=HE3.out.cell 0 3 (v:=.string s) rfl rfl
   have a4:=HE3.out.cell 0 4 (v:=.string t) rfl rfl
   cases h2:hasC b.sea x1 x2
   ·have zzz:=HZ.out.below HE3.out.base ZqI
    have g0:=zzz.g0
    have g1:=zzz.g1
    clear zzz
    by_cases hx1:x1 = -1
    ·by_cases hx2:x2 = -1
     ·subst hx1
      subst hx2
      have HPL:Hid (inG 0 x0 (b.scenes.length-1)=true/\(hasC b.sea (-1) (-1)=true\/ZcY (x0,-1,-1)=true)):=⟨by rw[HNS.out];exact H1.out,.inr rfl⟩
      clear h2
      go_wp2_with fail
      refine(Zcn 300 s t HLI.out.1 HLI.out.2 _).mono ?_
      rintro e w4 ⟨rfl,hb⟩
      have HE4:=ZqH (HE3.out.step hb)
      clear hb HE3 a0 a1 a2 a3 a4 c0 c1 c2 c3 c4
      rw[HDR.out]
      obtain⟨c0,c1,c2,c3,c4⟩:=Zv (HE4.out.block 1 rfl)
      have a0:=HE4.out.cell 0 0 (v:=.int .i64 x0) rfl rfl
      have a1:=HE4.out.cell 0 1 (v:=.int .i64 (-1)) rfl rfl
      have a2:=HE4.out.cell 0 2 (v:=.int .i64 (-1)) rfl rfl
      have a3:=HE4.out.cell 0 3 (v:=.string s) rfl rfl
      have a4:=HE4.out.cell 0 4 (v:=.string t) rfl rfl
      cases h3:decide (Deep q)
      ·skip
       have HNO:Hid (ZN b ms=false):=ZbA (by rw[HN.out];exact hlt) (by rw[HX.out];unfold ZaH;simp only[h3,Bool.false_and,Bool.and_false])
       go_wp2
       exact ZpW (v:=.bool false) (by simp[results,Tryz.f98,go_sem]) rfl ⟨by rw[HNO.out],HE4.out.base⟩
      have HDQ:=ZqH (of_decide_eq_true h3)
      clear h3
      have zzz:=HZ.out.below HE4.out.base ZqI
      have z0:=zzz.z0
      have z1:=zzz.z1
      clear zzz
      by_cases hq:q=0
      ·subst hq
       obtain⟨rfl,rfl⟩:=HI.out.one Za5
       have HNO:Hid (ZN b ms=false):=ZbA (by rw[HN.out];exact hlt) (by rw[HX.out];unfold ZaH;simp)
       go_wp2
       exact ZpW (v:=.bool false) (by simp[results,Tryz.f98,go_sem]) rfl ⟨by rw[HNO.out],HE4.out.base⟩
      have hno:¬ s.toList=[48]:=fun h=>hq (HI.out.num_zero.1 (by rw[h];rfl))
      have hnb:(s.toList==[48])=false:=by rw[beq_eq_false_iff_ne];exact hno
      have HOK:Hid (ZaH b (mA ms k)=true):=by
       show _=_
       rw[HX.out]
       unfold ZaH
       simp only[Zqt,Zqu,Bool.or_eq_true]
       exact⟨HPL.out,HDQ.out,hq⟩
      have HQN:=ZqH hq
      clear hq
      go_wp2_with fail
      have HE5:=ZqH HE4.out.drew
      have HPB:Hid (PlB (x0,(-1),(-1))):=by
       have h1:=ZeF HG.out (by rw[HNS.out];exact H8.out.2) HOK.out
       rw[HX.out] at h1
       exact h1
      by_cases hk0:k=0
      ·subst hk0
       refine ZA [(1,0),(1,1),(1,2),(1,3),(1,4),(1,5),(1,6),(1,7),(1,9),(0,8),(0,10),(0,11),(1,12),(1,13)] (Env w.heap.size w [(q0,maO (x0,(-1),(-1)) s t),(w.heap.size,belO b (.slice pg ng cg) (.slice ps ns cs))] []) (fun _=>false)
        Zb Zb (fun _ _=>rfl) Zi HE5.out ?_
       iterate 3
        refine Zq _ rfl rfl (fun w' hS=>Ze) ?_
        simp only[Act.put,Zl]
       iterate 6
        refine Zac rfl rfl ?_
        simp only[Act.put,Zl]
       refine ZbI rfl rfl (.inr HE5.out) ?_
       simp only[Act.put,Zl]
       refine ZbI rfl rfl (.inr HE5.out) ?_
       simp only[Act.put,Zl]
       refine ZbI rfl rfl (.inr HE5.out) ?_
       simp only[Act.put,Zl]
       iterate 1
        refine Zac rfl rfl ?_
        simp only[Act.put,Zl]
       iterate 1
        refine Zq _ rfl rfl (fun w' hS=>Ze) ?_
        simp only[Act.put,Zl]
       refine Zz ?_
       have HD2:Hid (∀ j,j<0+1->ZaH b (mA ms j)=true/\(0<j->plLt (mA ms (j-1)).1 (mA ms j).1=true)):=fun j hj=>by
        obtain rfl:j=0:=Za
        exact⟨HOK.out,fun h=>Zqx h (Nat.lt_irrefl _)⟩
       have HE6:=ZqH HE5.out.tail
       clear HE4 HE5
       go_wp2
       go_roundw
       case rel=>exact⟨1,by go_num,Za,HD2,HE6⟩
       case measure=>exact Zj
      ·obtain⟨j,rfl⟩:∃ j,k=j+1:=⟨k-1,Za⟩
       obtain⟨s',t',hi',_,_,_,hcell'⟩:=HATK.out j Za
       have HPA:Hid (PlB (mA ms j).1):=ZeF HG.out (by rw[HNS.out];exact H8.out.2) (HD.out j Za).1
       obtain⟨⟨⟨y0,y1,y2⟩,q'⟩,hy⟩:∃ z,mA ms j=z:=⟨_,rfl⟩
       have HY:=ZqH hy
       rw[hy] at HPA hcell'
       dsimp only at HPA hcell'
       have HCC:=ZqH hcell'
       clear hy hcell' hi' HATK
       have hwj:wrap64 ((j:Int)+1-1)=(j:Int):=by unfold wrap64;omega
       have hj0:(0:Int)<=(j:Int):=Za
       have hj1:(j:Int)<(n:Int):=Za
       refine ZA [(1,0),(1,1),(1,2),(1,3),(1,4),(1,5),(1,6),(1,7),(1,9),(0,8),(0,10),(0,11),(1,12),(1,13)] (Env w.heap.size w [(q0,maO (x0,(-1),(-1)) s t),(w.heap.size,belO b (.slice pg ng cg) (.slice ps ns cs))] []) (fun _=>false)
        Zb Zb (fun _ _=>rfl) Zi HE5.out ?_
       iterate 5
        refine Zq _ rfl rfl (fun w' hS=>Ze) ?_
        simp only[Act.put,Zl]
       refine Zq (.int .i64 j) rfl rfl (fun w' hS=>by go_simp;exact IntWalk.i64_in _ Za) ?_
       simp only[Act.put,Zl]
       iterate 2
        refine Zq _ rfl rfl (fun w' hS=>by obtain⟨f0,f1,f2,f3,f4⟩:=HCC.out _ hS.base;exact Ze) ?_
        simp only[Act.put,Zl]
       iterate 1
        refine Zq _ rfl rfl (fun w' hS=>by have a0:=hS.cell 0 0 (v:=.int .i64 x0) rfl rfl;have a1:=hS.cell 0 1 (v:=.int .i64 (-1)) rfl rfl;have a2:=hS.cell 0 2 (v:=.int .i64 (-1)) rfl rfl;have a3:=hS.cell 0 3 (v:=.string s) rfl rfl;have a4:=hS.cell 0 4 (v:=.string t) rfl rfl;exact Ze) ?_
        simp only[Act.put,Zl]
       refine Zs 64 _ rfl rfl Zf ?_
       have HEC:=HE5
       refine(ZbV (y0,y1,y2) s' t' _).mono ?_
       rintro e w6 ⟨rfl,hb⟩
       have HE6:=ZqH (HE5.out.step hb)
       refine .inl ⟨_,rfl,HE6.out,?_⟩
       clear hb HEC
       simp only[Act.put,Zl]
       refine Zs 64 _ rfl rfl Zf ?_
       have HEC:=HE6
       refine(ZbV (x0,(-1),(-1)) s t _).mono ?_
       rintro e w7 ⟨rfl,hb⟩
       have HE7:=ZqH (HE6.out.step hb)
       refine .inl ⟨_,rfl,HE7.out,?_⟩
       clear hb HEC
       simp only[Act.put,Zl]
       refine Zs 116 _ rfl rfl Zf ?_
       have HEC:=HE7
       refine(ZgA HPA.out HPB.out).mono ?_
       rintro e w8 ⟨rfl,hb⟩
       have HE8:=ZqH (HE7.out.step hb)
       refine .inl ⟨_,rfl,HE8.out,?_⟩
       clear hb HEC
       simp only[Act.put,Zl]
       have HOD:Hid (decide (ordI (y0,y1,y2) (x0,(-1),(-1))<0)=plLt (y0,y1,y2) (x0,(-1),(-1))):=Zh8
       obtain⟨r,hr⟩:=ZqJ (ordI (y0,y1,y2) (x0,(-1),(-1)))
       rw[hr] at HOD ⊢
       clear hr
       by_cases hr0:0<=r
       ·skip
        iterate 2
         refine Zq _ rfl rfl (fun w' hS=>Ze) ?_
         simp only[Act.put,Zl]
        refine Zz ?_
        have HPN:Hid (plLt (mA ms (j+1-1)).1 (mA ms (j+1)).1=false):=by
         show _=_
         rw[Zqo,HY.out,HX.out,<- HOD.out]
         exact decide_eq_false Za
        have HNO:Hid (ZN b ms=false):=ZeX (k:=j+1) (by rw[HN.out];exact hlt) (by rw[HPN.out,decide_eq_true (Nat.succ_pos j)];simp)
        have HNO:Hid (ZN b ms=false):=HNO.out
        go_wp2
        exact ZpW (v:=.bool false) (by simp[results,Tryz.f98,go_sem]) rfl ⟨by rw[HNO.out],HE8.out.base⟩
       ·skip
        iterate 2
         refine Zq _ rfl rfl (fun w' hS=>Ze) ?_
         simp only[Act.put,Zl]
        refine Zz ?_
        have HPN:Hid (plLt (mA ms (j+1-1)).1 (mA ms (j+1)).1=true):=by
         show _=_
         rw[Zqo,HY.out,HX.out,<- HOD.out]
         exact decide_eq_true Za
        have HD2:Hid (∀ i,i<j+1+1->ZaH b (mA ms i)=true/\(0<i->plLt (mA ms (i-1)).1 (mA ms i).1=true)):=fun i hi=>by
         rcases Zp1 i (j+1) with h | h
         ·exact HD.out i h
         ·obtain rfl:i=j+1:=Za
          exact⟨HOK.out,fun _=>HPN.out⟩
        have HE9:=ZqH HE8.out.tail
        clear HE4 HE5 HE6 HE7 HE8
        go_wp2
        go_roundw
        case rel=>exact⟨j+1+1,by go_num,Za,HD2,HE9⟩
        case measure=>exact Zj
     ·have HNO:Hid (ZN b ms=false):=ZbA (by rw[HN.out];exact hlt) (by rw[HX.out];unfold ZaH ZcY;simp only[h2,hx2,Bool.false_or,decide_false,Bool.and_false,Bool.false_and])
      subst hx1
      clear h2
      have HNO:Hid (ZN b ms=false):=HNO.out
      go_wp2
      exact ZpW (v:=.bool false) (by simp[results,Tryz.f98,go_sem]) rfl ⟨by rw[HNO.out],HE3.out.base⟩
    ·have HNO:Hid (ZN b ms=false):=ZbA (by rw[HN.out];exact hlt) (by rw[HX.out];unfold ZaH ZcY;simp only[h2,hx1,Bool.false_or,decide_false,Bool.and_false,Bool.false_and])
     clear h2
     have HNO:Hid (ZN b ms=false):=HNO.out
     go_wp2
     exact ZpW (v:=.bool false) (by simp[results,Tryz.f98,go_sem]) rfl ⟨by rw[HNO.out],HE3.out.base⟩
   ·have HPL:Hid (inG 0 x0 (b.scenes.length-1)=true/\(hasC b.sea x1 x2=true\/ZcY (x0,x1,x2)=true)):=⟨by rw[HNS.out];exact H1.out,.inl h2⟩
    clear h2
    go_wp2_with fail
    refine(Zcn 300 s t HLI.out.1 HLI.out.2 _).mono ?_
    rintro e w4 ⟨rfl,hb⟩
    have HE4:=ZqH (HE3.out.step hb)
    clear hb HE3 a0 a1 a2 a3 a4 c0 c1 c2 c3 c4
    rw[HDR.out]
    obtain⟨c0,c1,c2,c3,c4⟩:=Zv (HE4.out.block 1 rfl)
    have a0:=HE4.out.cell 0 0 (v:=.int .i64 x0) rfl rfl
    have a1:=HE4.out.cell 0 1 (v:=.int .i64 x1) rfl rfl
    have a2:=HE4.out.cell 0 2 (v:=.int .i64 x2) rfl rfl
    have a3:=HE4.out.cell 0 3 (v:=.string s) rfl rfl
    have a4:=HE4.out.cell 0 4 (v:=.string t) rfl rfl
    cases h3:decide (Deep q)
    ·skip
     have HNO:Hid (ZN b ms=false):=ZbA (by rw[HN.out];exact hlt) (by rw[HX.out];unfold ZaH;simp only[h3,Bool.false_and,Bool.and_false])
     go_wp2
     exact ZpW (v:=.bool false) (by simp[results,Tryz.f98,go_sem]) rfl ⟨by rw[HNO.out],HE4.out.base⟩
    have HDQ:=ZqH (of_decide_eq_true h3)
    clear h3
    have zzz:=HZ.out.below HE4.out.base ZqI
    have z0:=zzz.z0
    have z1:=zzz.z1
    clear zzz
    by_cases hq:q=0
    ·subst hq
     obtain⟨rfl,rfl⟩:=HI.out.one Za5
     have HNO:Hid (ZN b ms=false):=ZbA (by rw[HN.out];exact hlt) (by rw[HX.out];unfold ZaH;simp)
     go_wp2
     exact ZpW (v:=.bool false) (by simp[results,Tryz.f98,go_sem]) rfl ⟨by rw[HNO.out],HE4.out.base⟩
    have hno:¬ s.toList=[48]:=fun h=>hq (HI.out.num_zero.1 (by rw[h];rfl))
    have hnb:(s.toList==[48])=false:=by rw[beq_eq_false_iff_ne];exact hno
    have HOK:Hid (ZaH b (mA ms k)=true):=by
     show _=_
     rw[HX.out]
     unfold ZaH
     simp only[Zqt,Zqu,Bool.or_eq_true]
     exact⟨HPL.out,HDQ.out,hq⟩
    have HQN:=ZqH hq
    clear hq
    go_wp2_with fail
    have HE5:=ZqH HE4.out.drew
    have HPB:Hid (PlB (x0,x1,x2)):=by
     have h1:=ZeF HG.out (by rw[HNS.out];exact H8.out.2) HOK.out
     rw[HX.out] at h1
     exact h1
    by_cases hk0:k=0
    ·subst hk0
     refine ZA [(1,0),(1,1),(1,2),(1,3),(1,4),(1,5),(1,6),(1,7),(1,9),(0,8),(0,10),(0,11),(1,12),(1,13)] (Env w.heap.size w [(q0,maO (x0,x1,x2) s t),(w.heap.size,belO b (.slice pg ng cg) (.slice ps ns cs))] []) (fun _=>false)
      Zb Zb (fun _ _=>rfl) Zi HE5.out ?_
     iterate 3
      refine Zq _ rfl rfl (fun w' hS=>Ze) ?_
      simp only[Act.put,Zl]
     iterate 6
      refine Zac rfl rfl ?_
      simp only[Act.put,Zl]
     refine ZbI rfl rfl (.inr HE5.out) ?_
     simp only[Act.put,Zl]
     refine ZbI rfl rfl (.inr HE5.out) ?_
     simp only[Act.put,Zl]
     refine ZbI rfl rfl (.inr HE5.out) ?_
     simp only[Act.put,Zl]
     iterate 1
      refine Zac rfl rfl ?_
      simp only[Act.put,Zl]
     iterate 1
      refine Zq _ rfl rfl (fun w' hS=>Ze) ?_
      simp only[Act.put,Zl]
     refine Zz ?_
     have HD2:Hid (∀ j,j<0+1->ZaH b (mA ms j)=true/\(0<j->plLt (mA ms (j-1)).1 (mA ms j).1=true)):=fun j hj=>by
      obtain rfl:j=0:=Za
      exact⟨HOK.out,fun h=>Zqx h (Nat.lt_irrefl _)⟩
     have HE6:=ZqH HE5.out.tail
     clear HE4 HE5
     go_wp2
     go_roundw
     case rel=>exact⟨1,by go_num,Za,HD2,HE6⟩
     case measure=>exact Zj
    ·obtain⟨j,rfl⟩:∃ j,k=j+1:=⟨k-1,Za⟩
     obtain⟨s',t',hi',_,_,_,hcell'⟩:=HATK.out j Za
     have HPA:Hid (PlB (mA ms j).1):=ZeF HG.out (by rw[HNS.out];exact H8.out.2) (HD.out j Za).1
     obtain⟨⟨⟨y0,y1,y2⟩,q'⟩,hy⟩:∃ z,mA ms j=z:=⟨_,rfl⟩
     have HY:=ZqH hy
     rw[hy] at HPA hcell'
     dsimp only at HPA hcell'
     have HCC:=ZqH hcell'
     clear hy hcell' hi' HATK
     have hwj:wrap64 ((j:Int)+1-1)=(j:Int):=by unfold wrap64;omega
     have hj0:(0:Int)<=(j:Int):=Za
     have hj1:(j:Int)<(n:Int):=Za
     refine ZA [(1,0),(1,1),(1,2),(1,3),(1,4),(1,5),(1,6),(1,7),(1,9),(0,8),(0,10),(0,11),(1,12),(1,13)] (Env w.heap.size w [(q0,maO (x0,x1,x2) s t),(w.heap.size,belO b (.slice pg ng cg) (.slice ps ns cs))] []) (fun _=>false)
      Zb Zb (fun _ _=>rfl) Zi HE5.out ?_
     iterate 5
      refine Zq _ rfl rfl (fun w' hS=>Ze) ?_
      simp only[Act.put,Zl]
     refine Zq (.int .i64 j) rfl rfl (fun w' hS=>by go_simp;exact IntWalk.i64_in _ Za) ?_
     simp only[Act.put,Zl]
     iterate 2
      refine Zq _ rfl rfl (fun w' hS=>by obtain⟨f0,f1,f2,f3,f4⟩:=HCC.out _ hS.base;exact Ze) ?_
      simp only[Act.put,Zl]
     iterate 1
      refine Zq _ rfl rfl (fun w' hS=>by have a0:=hS.cell 0 0 (v:=.int .i64 x0) rfl rfl;have a1:=hS.cell 0 1 (v:=.int .i64 x1) rfl rfl;have a2:=hS.cell 0 2 (v:=.int .i64 x2) rfl rfl;have a3:=hS.cell 0 3 (v:=.string s) rfl rfl;have a4:=hS.cell 0 4 (v:=.string t) rfl rfl;exact Ze) ?_
      simp only[Act.put,Zl]
     refine Zs 64 _ rfl rfl Zf ?_
     have HEC:=HE5
     refine(ZbV (y0,y1,y2) s' t' _).mono ?_
     rintro e w6 ⟨rfl,hb⟩
     have HE6:=ZqH (HE5.out.step hb)
     refine .inl ⟨_,rfl,HE6.out,?_⟩
     clear hb HEC
     simp only[Act.put,Zl]
     refine Zs 64 _ rfl rfl Zf ?_
     have HEC:=HE6
     refine(ZbV (x0,x1,x2) s t _).mono ?_
     rintro e w7 ⟨rfl,hb⟩
     have HE7:=ZqH (HE6.out.step hb)
     refine .inl ⟨_,rfl,HE7.out,?_⟩
     clear hb HEC
     simp only[Act.put,Zl]
     refine Zs 116 _ rfl rfl Zf ?_
     have HEC:=HE7
     refine(ZgA HPA.out HPB.out).mono ?_
     rintro e w8 ⟨rfl,hb⟩
     have HE8:=ZqH (HE7.out.step hb)
     refine .inl ⟨_,rfl,HE8.out,?_⟩
     clear hb HEC
     simp only[Act.put,Zl]
     have HOD:Hid (decide (ordI (y0,y1,y2) (x0,x1,x2)<0)=plLt (y0,y1,y2) (x0,x1,x2)):=Zh8
     obtain⟨r,hr⟩:=ZqJ (ordI (y0,y1,y2) (x0,x1,x2))
     rw[hr] at HOD ⊢
     clear hr
     by_cases hr0:0<=r
     ·skip
      iterate 2
       refine Zq _ rfl rfl (fun w' hS=>Ze) ?_
       simp only[Act.put,Zl]
      refine Zz ?_
      have HPN:Hid (plLt (mA ms (j+1-1)).1 (mA ms (j+1)).1=false):=by
       show _=_
       rw[Zqo,HY.out,HX.out,<- HOD.out]
       exact decide_eq_false Za
      have HNO:Hid (ZN b ms=false):=ZeX (k:=j+1) (by rw[HN.out];exact hlt) (by rw[HPN.out,decide_eq_true (Nat.succ_pos j)];simp)
      have HNO:Hid (ZN b ms=false):=HNO.out
      go_wp2
      exact ZpW (v:=.bool false) (by simp[results,Tryz.f98,go_sem]) rfl ⟨by rw[HNO.out],HE8.out.base⟩
     ·skip
      iterate 2
       refine Zq _ rfl rfl (fun w' hS=>Ze) ?_
       simp only[Act.put,Zl]
      refine Zz ?_
      have HPN:Hid (plLt (mA ms (j+1-1)).1 (mA ms (j+1)).1=true):=by
       show _=_
       rw[Zqo,HY.out,HX.out,<- HOD.out]
       exact decide_eq_true Za
      have HD2:Hid (∀ i,i<j+1+1->ZaH b (mA ms i)=true/\(0<i->plLt (mA ms (i-1)).1 (mA ms i).1=true)):=fun i hi=>by
       rcases Zp1 i (j+1) with h | h
       ·exact HD.out i h
       ·obtain rfl:i=j+1:=Za
        exact⟨HOK.out,fun _=>HPN.out⟩
      have HE9:=ZqH HE8.out.tail
      clear HE4 HE5 HE6 HE7 HE8
      go_wp2
      go_roundw
      case rel=>exact⟨j+1+1,by go_num,Za,HD2,HE9⟩
      case measure=>exact Zj
  ·obtain rfl:k=n:=Za
   have HR:Hid (ZN b ms=true):=Zk3 (by rw[HN.out];omega) fun j hj=>HD.out j (by rw[<- HN.out];exact hj)
   go_wp2
   exact ZpW (v:=.bool true) (by simp[results,Tryz.f98,go_sem]) rfl ⟨by rw[HR.out],HER.out.base⟩
end Go.Proofs.YtjmckebecpjjfaaGreatDoor
