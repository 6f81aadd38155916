/- The parts Upto, Chances, Sights, AliveM, BelLF, BelLG, BelLH. -/
import Derived.Test.YtjmckebecpjjfaaGreatDoorH25
set_option maxRecDepth 100000
set_option maxHeartbeats 8000000
set_option linter.unusedVariables false
set_option linter.unusedSimpArgs false
namespace Go.Proofs.YtjmckebecpjjfaaGreatDoor
open Go.RowKit Go.Shelf
attribute [local go_sem ↓] Go.wp_at_zero Go.wp_at_succ
structure Upto (bs:List BB) (k:Nat):Prop where
 small:∀ i,i<k->Zdj 18 (bAt bs i).1=true/\Zdj 18 (bAt bs i).2=true
 top:∀ i,i<k->hR bs i<=1
 up:∀ i,i+1<k->cR bs i<cR bs (i+1)/\hR bs i<=hR bs (i+1)
 conc:∀ i,i+2<k->slp (cR bs) (hR bs) (i+1)<=slp (cR bs) (hR bs) i
theorem Upto.zero (bs:List BB):Upto bs 0:=⟨fun i h=>Za,fun i h=>Za,fun i h=>Za,fun i h=>Za⟩
theorem Upto.mono {bs:List BB} {k m:Nat} (h:Upto bs k) (hm:m<=k):Upto bs m:=
 ⟨fun i hi=>h.small i Za,fun i hi=>h.top i Za,fun i hi=>h.up i Za,fun i hi=>h.conc i Za⟩
theorem Upto.succ {bs:List BB} {k:Nat} (h:Upto bs k) (h1:Zdj 18 (bAt bs k).1=true/\Zdj 18 (bAt bs k).2=true) (h2:hR bs k<=1)
  (h3:∀ i,i+1=k->cR bs i<cR bs (i+1)/\hR bs i<=hR bs (i+1)) (h4:∀ i,i+2=k->slp (cR bs) (hR bs) (i+1)<=slp (cR bs) (hR bs) i):Upto bs (k+1):=by
 refine⟨fun i hi=>?_,fun i hi=>?_,fun i hi=>?_,fun i hi=>?_⟩
 ·by_cases e:i=k
  ·subst e;exact h1
  ·exact h.small i Za
 ·by_cases e:i=k
  ·subst e;exact h2
  ·exact h.top i Za
 ·by_cases e:i+1=k
  ·exact h3 i e
  ·exact h.up i Za
 ·by_cases e:i+2=k
  ·exact h4 i e
  ·exact h.conc i Za
theorem Upto.curve {bs:List BB} (h:Upto bs bs.length) (hl:2<=bs.length/\bs.length<=64) (hf:bAt bs 0=ZlN):CurveP bs:=⟨hl,hf,h.small,h.top,h.up,h.conc⟩
structure Pieces (bs:List BB) (k:Nat):Prop where
 up:∀ i,i<k->cR bs i<cR bs (i+1)/\hR bs i<=hR bs (i+1)
 conc:∀ i,i+1<k->slp (cR bs) (hR bs) (i+1)<=slp (cR bs) (hR bs) i
theorem Pieces.zero (bs:List BB):Pieces bs 0:=⟨fun i h=>Za,fun i h=>Za⟩
theorem Pieces.succ {bs:List BB} {k:Nat} (h:Pieces bs k) (h1:cR bs k<cR bs (k+1)/\hR bs k<=hR bs (k+1)) (h2:∀ i,i+1=k->slp (cR bs) (hR bs) (i+1)<=slp (cR bs) (hR bs) i):Pieces bs (k+1):=by
 refine⟨fun i hi=>?_,fun i hi=>?_⟩
 ·by_cases e:i=k
  ·subst e;exact h1
  ·exact h.up i Za
 ·by_cases e:i+1=k
  ·exact h2 i e
  ·exact h.conc i Za
theorem Pieces.rise {bs:List BB} {k:Nat} (h:Pieces bs k) {i:Nat} : ∀ d,i+d<=k->hR bs i<=hR bs (i+d)
 | 0,_=>Rat.le_refl
 | d+1,hd=>Rat.le_trans (h.rise d Za) (h.up (i+d) Za).2
theorem Pieces.curve {bs:List BB} {m:Nat} (h:Pieces bs m) (hm:bs.length=m+1) (hl:2<=bs.length/\bs.length<=64) (hf:bAt bs 0=ZlN)
  (hs:∀ i,i<bs.length->Zdj 18 (bAt bs i).1=true/\Zdj 18 (bAt bs i).2=true) (ht:hR bs m<=1):CurveP bs:=by
 refine⟨hl,hf,hs,fun i hi=>?_,fun i hi=>h.up i Za,fun i hi=>h.conc i Za⟩
 have:=h.rise (i:=i) (m-i) Za
 rw[Nat.add_sub_cancel' Za] at this
 exact Rat.le_trans this ht
theorem CurveP.pieces {bs:List BB} (h:CurveP bs) {m:Nat} (hm:bs.length=m+1):Pieces bs m:=⟨fun i hi=>h.up i Za,fun i hi=>h.conc i Za⟩
theorem ZgR {q r:Rat} {x y u v:ByteArray} (h:IsP q x y) (g:IsP r u v) (e:q=r):x=u/\y=v:=by
 subst e
 exact⟨by rw[h.num,g.num],by rw[h.den,g.den]⟩
structure Sg where
 sn:Int
 ob:Int
 li:Int
 se:Int
 wi:Int
theorem Zi4 {a b:Nat} (hb:0<b) (ha1:a<1000) (hb1:b<1000) {s t:ByteArray} (h:isPB (mkRat (a:Nat) b) s t=true) (w:World) (hT:Tabs w) :
  Calls Tryz.prog 17 #[.int .i64 a,.int .i64 b] w (ZaE (pV s t) w):=by
 refine(ZpM a b hb ha1 hb1 w hT).mono ?_
 rintro e w' ⟨x,y,rfl,h2,hb⟩
 have h3:=ZfW h
 obtain⟨e1,e2⟩:=ZgR h2 h3 rfl
 rw[e1,e2]
 exact⟨rfl,hb⟩
theorem ZpN (w:World) (hT:Tabs w):Calls Tryz.prog 17 #[.int .i64 1,.int .i64 2] w (ZaE (pV ⟨#[49]⟩ ⟨#[50]⟩) w):=
 Zi4 (a:=1) (b:=2) Zd Zd Zd (by decide +kernel) w hT
theorem ZoF (w:World) (hT:Tabs w):Calls Tryz.prog 17 #[.int .i64 1,.int .i64 4] w (ZaE (pV ⟨#[49]⟩ ⟨#[52]⟩) w):=
 Zi4 (a:=1) (b:=4) Zd Zd Zd (by decide +kernel) w hT
theorem Zi7 (w:World) (hT:Tabs w):Calls Tryz.prog 17 #[.int .i64 1,.int .i64 1] w (ZaE (pV ⟨#[49]⟩ ⟨#[49]⟩) w):=
 Zi4 (a:=1) (b:=1) Zd Zd Zd (by decide +kernel) w hT
def rowB:BelP:={ sea:=⟨3,1,1,[]⟩,scenes:=[⟨(⟨#[49]⟩,⟨#[49]⟩),[⟨0,0,(⟨#[49]⟩,⟨#[49]⟩)⟩],[⟨0,0,(⟨#[49]⟩,⟨#[50]⟩)⟩,⟨1,0,(⟨#[49]⟩,⟨#[50]⟩)⟩]⟩] }
abbrev zbO:Obj:=.cells #[.int .i64 0,.int .i64 0,.int .i64 0,.slice none 0 0,.slice none 0 0] 27
abbrev strO:Obj:=.cells #[.int .i64 0,.int .i64 0,.string ⟨#[49]⟩,.string ⟨#[50]⟩,.int .i64 1,.int .i64 0,.string ⟨#[49]⟩,.string ⟨#[50]⟩] 93
def RF (B:Nat) (i:Nat) (v:Value) (W:World):Prop:=
 match i with
 | 0=>v=.agg #[.int .i64 3,.int .i64 1,.int .i64 1,.slice none 0 0]
 | 1=>v=pV ⟨#[49]⟩ ⟨#[49]⟩
 | 2=>v=pV ⟨#[49]⟩ ⟨#[49]⟩
 | 3=>v=.agg #[.int .i64 0,.int .i64 0,.string ⟨#[49]⟩,.string ⟨#[49]⟩]
 | 4=>∃ A,v=.slice (some ⟨A,0,none⟩) 1 1/\W.heap[A]?=some (shO 0 0 ⟨#[49]⟩ ⟨#[49]⟩)/\A≠B
 | 5=>v=pV ⟨#[49]⟩ ⟨#[50]⟩
 | 6=>v=.agg #[.int .i64 0,.int .i64 0,.string ⟨#[49]⟩,.string ⟨#[50]⟩]
 | 7=>v=pV ⟨#[49]⟩ ⟨#[50]⟩
 | 8=>v=.agg #[.int .i64 1,.int .i64 0,.string ⟨#[49]⟩,.string ⟨#[50]⟩]
 | 9=>∃ C,v=.slice (some ⟨C,0,none⟩) 2 2/\W.heap[C]?=some strO/\C≠B
 | 10=>∃ A C,v=.agg #[.string ⟨#[49]⟩,.string ⟨#[49]⟩,.slice (some ⟨A,0,none⟩) 1 1,.slice (some ⟨C,0,none⟩) 2 2]/\(W.heap[A]?=some (shO 0 0 ⟨#[49]⟩ ⟨#[49]⟩)/\A≠B)/\W.heap[C]?=some strO/\C≠B
 | 11=>∃ A C D,v=.slice (some ⟨D,0,none⟩) 1 1/\(W.heap[A]?=some (shO 0 0 ⟨#[49]⟩ ⟨#[49]⟩)/\A≠B)/\(W.heap[C]?=some strO/\C≠B)/\W.heap[D]?=some (scO ⟨#[49]⟩ ⟨#[49]⟩ (.slice (some ⟨A,0,none⟩) 1 1) (.slice (some ⟨C,0,none⟩) 2 2))/\D≠B
 | 12=>∃ A C D,v=.agg #[.int .i64 3,.int .i64 1,.int .i64 1,.slice none 0 0,.slice (some ⟨D,0,none⟩) 1 1]/\(W.heap[A]?=some (shO 0 0 ⟨#[49]⟩ ⟨#[49]⟩)/\A≠B)/\(W.heap[C]?=some strO/\C≠B)/\W.heap[D]?=some (scO ⟨#[49]⟩ ⟨#[49]⟩ (.slice (some ⟨A,0,none⟩) 1 1) (.slice (some ⟨C,0,none⟩) 2 2))/\D≠B
 | _=>True
theorem Za7 {B A:Nat} {W W':World} {o:Obj} (hk:Keeps (NotM B) W W') (h:W.heap[A]?=some o/\A≠B):W'.heap[A]?=some o/\A≠B:=
 ⟨(hk.block A (ZqC h.1) h.2).trans h.1,h.2⟩
theorem RF.stay {B i:Nat} {v:Value} {W W':World} (hk:Keeps (NotM B) W W') (h:RF B i v W):RF B i v W':=by
 unfold RF at h ⊢
 split at h
 all_goals first
  | exact h
  | (obtain⟨A,e,h1⟩:=h;exact⟨A,e,Za7 hk h1⟩)
  | (obtain⟨A,C,e,h1,h2⟩:=h;exact⟨A,C,e,Za7 hk h1,Za7 hk h2⟩)
  | (obtain⟨A,C,D,e,h1,h2,h3⟩:=h;exact⟨A,C,D,e,Za7 hk h1,Za7 hk h2,Za7 hk h3⟩)
def RFs (B:Nat) (L:Nat->Prop) (l:List Value) (W:World):Prop:=∀ i v,l[i]?=some v->L i->RF B i v W
theorem RFs.upd {B k:Nat} {L:Nat->Prop} {l:List Value} {W W':World} (h:RFs B L l W) (v:Value) (hv:RF B k v W') (hk:Keeps (NotM B) W W'):RFs B (fun j=>j=k\/L j) (l.set k v) W':=fun i u hu hi=>by
 by_cases e:i=k
 ·subst e
  rw[List.getElem?_set] at hu
  simp only[if_true] at hu
  split at hu
  ·obtain rfl:=ZpZ hu;exact hv
  ·cases hu
 ·rw[List.getElem?_set_ne (Ne.symm e)] at hu
  exact(h i u hu (hi.resolve_left e)).stay hk
theorem RFs.also {B k:Nat} {L:Nat->Prop} {l:List Value} {W W':World} (h:RFs B L l W) (hl:l.length<=k) (hk:Keeps (NotM B) W W'):RFs B (fun j=>j=k\/L j) l W':=fun i u hu hi=>by
 rcases hi with rfl | hi
 ·rw[List.getElem?_eq_none hl] at hu;cases hu
 ·exact(h i u hu hi).stay hk
abbrev finO (D:Nat):Obj:=.cells #[.int .i64 3,.int .i64 1,.int .i64 1,.slice none 0 0,.slice (some ⟨D,0,none⟩) 1 1] 27
def RowD (B:Nat) (W:World):Prop:=∃ A C D,W.heap[B]?=some (finO D)/\(W.heap[A]?=some (shO 0 0 ⟨#[49]⟩ ⟨#[49]⟩)/\A≠B)/\(W.heap[C]?=some strO/\C≠B)/\W.heap[D]?=some (scO ⟨#[49]⟩ ⟨#[49]⟩ (.slice (some ⟨A,0,none⟩) 1 1) (.slice (some ⟨C,0,none⟩) 2 2))/\D≠B
structure RowW (B H:Nat) (w:World) (fin:Prop) (W:World):Prop where
 base:Below w.heap.size w W
 half:W.heap[H]?=some (pObj ⟨#[49]⟩ ⟨#[50]⟩)/\H≠B
 cell:∃ v0 v1 v2 v3 v4,W.heap[B]?=some (.cells #[v0,v1,v2,v3,v4] 27)
 done:fin->RowD B W
theorem Zce {A:Nat} {W W':World} {o:Obj} (hb:Below W.heap.size W W') (h:W.heap[A]?=some o):W'.heap[A]?=some o:=(hb.block A (ZqC h)).trans h
theorem RowW.step {B H:Nat} {w W W':World} {L:Nat->Prop} (h:RowW B H w (L 13) W) (i:Nat) (hb:Below W.heap.size W W') (hi:i≠13):RowW B H w (13=i\/L 13) W':=by
 refine⟨h.base.trans (hb.mono h.base.size),⟨Zce (o:=pObj ⟨#[49]⟩ ⟨#[50]⟩) hb h.half.1,h.half.2⟩,?_,fun hd=>?_⟩
 ·obtain⟨v0,v1,v2,v3,v4,hc⟩:=h.cell
  exact⟨v0,v1,v2,v3,v4,Zce hb hc⟩
 ·obtain⟨A,C,D,h1,h2,h3,h4,h5⟩:=h.done (hd.resolve_left (fun e=>hi e.symm))
  exact⟨A,C,D,Zce hb h1,⟨Zce hb h2.1,h2.2⟩,⟨Zce hb h3.1,h3.2⟩,Zce hb h4,h5⟩
theorem RowD.bel {B:Nat} {W:World} (h:RowD B W) (hT:Tabs W) (hZ:BelZ W):∃ D,W.heap[B]?=some (finO D)/\BelIn rowB (.slice none 0 0) (.slice (some ⟨D,0,none⟩) 1 1) W:=by
 obtain⟨A,C,D,h1,⟨h2,_⟩,⟨h3,_⟩,h4,_⟩:=h
 have lt:∀ {X:Nat} {o:Obj},W.heap[X]?=some o->X<W.heap.size:=fun h=>(ZqC h)
 have i0:I64 0:=⟨Zd,Zd⟩
 have i1:I64 1:=⟨Zd,Zd⟩
 have hs:Zay W (.slice (some ⟨A,0,none⟩) 1 1) [⟨0,0,(⟨#[49]⟩,⟨#[49]⟩)⟩]:=⟨_,_,rfl,Zd,Zd,fun _=>⟨A,0,rfl,lt h2,fun j hj=>by
  obtain rfl:j=0:=by simp at hj;omega
  exact⟨⟨Zn h2 0 rfl,i0⟩,⟨Zn h2 1 rfl,i0⟩,Zn h2 2 rfl,Zn h2 3 rfl⟩⟩⟩
 have ht:Zad W (.slice (some ⟨C,0,none⟩) 2 2) [⟨0,0,(⟨#[49]⟩,⟨#[50]⟩)⟩,⟨1,0,(⟨#[49]⟩,⟨#[50]⟩)⟩]:=⟨_,_,rfl,Zd,Zd,fun _=>⟨C,0,rfl,lt h3,fun j hj=>by
  have hj2:j<2:=hj
  match j,hj2 with
  | 0,_=>exact⟨⟨Zn h3 0 rfl,i0⟩,⟨Zn h3 1 rfl,i0⟩,Zn h3 2 rfl,Zn h3 3 rfl⟩
  | 1,_=>exact⟨⟨Zn h3 4 rfl,i1⟩,⟨Zn h3 5 rfl,i0⟩,Zn h3 6 rfl,Zn h3 7 rfl⟩⟩⟩
 refine⟨D,h1,⟨LL.nil W,⟨Zd,Zd⟩,⟨Zd,Zd⟩,⟨Zd,Zd⟩⟩,⟨_,_,rfl,Zd,Zd,fun _=>⟨D,0,rfl,lt h4,fun j hj=>?_⟩⟩,hT,hZ⟩
 obtain rfl:j=0:=by
  have hj2:j<1:=hj
  omega
 exact⟨⟨Zn h4 0 rfl,Zn h4 1 rfl⟩,⟨_,Zn h4 2 rfl,hs⟩,⟨_,Zn h4 3 rfl,ht⟩⟩
theorem RowW.ne {B H:Nat} {w W:World} {f:Prop} (h:RowW B H w f W):W.heap.size≠B:=by
 obtain⟨v0,v1,v2,v3,v4,hc⟩:=h.cell
 have:=(ZqC hc)
 omega
theorem ZgV (W:World) (o:Obj) {B:Nat} (h:W.heap.size≠B):(W.alloc o).heap[W.heap.size]?=some o/\W.heap.size≠B:=⟨ZpY W o,h⟩
theorem Zan (W:World) (o:Obj):Below W.heap.size W (W.alloc o):=(ZpV _ W).alloc ZqI o
def Zo8 (w:World) (e:Ending) (w':World):Prop:=∃ sv,e=.returned (belV rowB (.slice none 0 0) sv)/\BelIn rowB (.slice none 0 0) sv w'/\Below w.heap.size w w'
theorem Zk6 (w:World) (hT:Tabs w) (hZ:BelZ w):Calls Tryz.prog 31 #[] w (Zo8 w):=by
 have HT:=ZqH hT
 have HZ:=ZqH hZ
 obtain⟨B,hB⟩:=ZqJ w.heap.size
 obtain⟨w1,hw1⟩:=ZqJ (w.alloc zbO)
 have HB1:ZqB w w1:=by rw[<- hw1];exact(ZpV _ w).alloc ZqI _
 have HG1:Hid (w1.heap[B]?=some zbO):=by rw[<- hw1,<- hB];exact ZpY w _
 have HBL:Hid (w.heap.size=B):=hB
 clear hT hZ
 go_enter Tryz.func31,Tryz.ntmps31
 go_wp2_with fail
 clear hw1
 refine(ZpN _ (HT.out.below HB1.out ZqI)).mono ?_
 rintro e w2 ⟨rfl,hb⟩
 have HB2:ZqB w w2:=HB1.out.trans (hb.mono HB1.out.size)
 have HG2:Hid (w2.heap[B]?=some zbO):=(hb.block _ (ZqC HG1.out)).trans HG1.out
 obtain⟨H,hH⟩:=ZqJ w2.heap.size
 obtain⟨w3,hw3⟩:=ZqJ (w2.alloc (pObj ⟨#[49]⟩ ⟨#[50]⟩))
 have hb3:Below w2.heap.size w2 w3:=by rw[<- hw3];exact(ZpV _ w2).alloc ZqI _
 have hg3:w3.heap[H]?=some (pObj ⟨#[49]⟩ ⟨#[50]⟩):=by rw[<- hw3,<- hH];exact ZpY w2 _
 have hlt:=(ZqC HG2.out)
 have HW3:Hid (RowW B H w False w3):=⟨HB2.out.trans (hb3.mono HB2.out.size),⟨hg3,Za⟩,⟨_,_,_,_,_,(hb3.block _ hlt).trans HG2.out⟩,fun h=>h.elim⟩
 clear hb hb3 hg3 hlt HG1 HB1
 go_upto_region 2 with (fail)
 refine Zhp Zb Zb (fun L a W=>∃ r3 r4 r5 r6 r7 r8 r9 r10 r11 r12 r13 r14 r15:Value,a = { tmps:=#[.pointer (some ⟨B,0,none⟩),.pointer (some ⟨H,0,none⟩),pV ⟨#[49]⟩ ⟨#[50]⟩,r3,r4,r5,r6,r7,r8,r9,r10,r11,r12,r13,r14,r15],defers:=[] }/\RFs B L [r3,r4,r5,r6,r7,r8,r9,r10,r11,r12,r13,r14,r15] W/\RowW B H w (L 13) W) ?h0 ?hstep ?hend
 case h0=>exact⟨_,_,_,_,_,_,_,_,_,_,_,_,_,rfl,fun _ _ _ h=>h.elim,⟨HW3.out.base.drew,HW3.out.half,HW3.out.cell,fun h=>h.elim⟩⟩
 case hstep=>
  rintro L a W i o hi hL he hC ⟨r3,r4,r5,r6,r7,r8,r9,r10,r11,r12,r13,r14,r15,rfl,hF,hW⟩
  have HF:=ZqH hF
  have HW:=ZqH hW
  clear hF hW hC
  match i,hi with
  | 0,hi=>
   obtain rfl:=ZpZ hi
   refine ZY rfl fun K hK=>?_
   go_simp
   exact hK _ _ ⟨_,_,_,_,_,_,_,_,_,_,_,_,_,rfl,HF.out.upd _ (rfl) (Below.keepsS (ZpV _ _) _),HW.out.step _ (ZpV _ _) Zd⟩
  | 1,hi=>
   obtain rfl:=ZpZ hi
   refine ZY rfl fun K hK=>?_
   go_simp
   go_at_call 17
   refine(Zi7 W (HT.out.below HW.out.base ZqI)).mono ?_
   rintro e W' ⟨rfl,hb⟩
   exact hK _ _ ⟨_,_,_,_,_,_,_,_,_,_,_,_,_,rfl,HF.out.upd _ (rfl) (Below.keepsS (hb) _),HW.out.step _ (hb) Zd⟩
  | 2,hi=>
   obtain rfl:=ZpZ hi
   refine ZY rfl fun K hK=>?_
   go_simp
   go_at_call 17
   refine(Zi7 W (HT.out.below HW.out.base ZqI)).mono ?_
   rintro e W' ⟨rfl,hb⟩
   exact hK _ _ ⟨_,_,_,_,_,_,_,_,_,_,_,_,_,rfl,HF.out.upd _ (rfl) (Below.keepsS (hb) _),HW.out.step _ (hb) Zd⟩
  | 3,hi=>
   obtain rfl:=ZpZ hi
   obtain rfl:=show _=_ from HF.out 2 _ rfl (by first | exact he 0 _ rfl rfl | exact he 1 _ rfl rfl | exact he 2 _ rfl rfl | exact he 3 _ rfl rfl)
   refine ZY rfl fun K hK=>?_
   go_simp
   exact hK _ _ ⟨_,_,_,_,_,_,_,_,_,_,_,_,_,rfl,HF.out.upd _ (rfl) (Below.keepsS (ZpV _ _) _),HW.out.step _ (ZpV _ _) Zd⟩
  | 4,hi=>
   obtain rfl:=ZpZ hi
   obtain rfl:=show _=_ from HF.out 3 _ rfl (by first | exact he 0 _ rfl rfl | exact he 1 _ rfl rfl | exact he 2 _ rfl rfl | exact he 3 _ rfl rfl)
   refine ZY rfl fun K hK=>?_
   go_simp
   exact hK _ _ ⟨_,_,_,_,_,_,_,_,_,_,_,_,_,rfl,HF.out.upd _ (⟨_,rfl,ZgV W _ HW.out.ne⟩) (Below.keepsS (Zan W _) _),HW.out.step _ (Zan W _) Zd⟩
  | 5,hi=>
   obtain rfl:=ZpZ hi
   have q0:=Zn HW.out.half.1 0 rfl
   have q1:=Zn HW.out.half.1 1 rfl
   refine ZY rfl fun K hK=>?_
   go_simp
   exact hK _ _ ⟨_,_,_,_,_,_,_,_,_,_,_,_,_,rfl,HF.out.upd _ (rfl) (Below.keepsS (ZpV _ _) _),HW.out.step _ (ZpV _ _) Zd⟩
  | 6,hi=>
   obtain rfl:=ZpZ hi
   obtain rfl:=show _=_ from HF.out 5 _ rfl (by first | exact he 0 _ rfl rfl | exact he 1 _ rfl rfl | exact he 2 _ rfl rfl | exact he 3 _ rfl rfl)
   refine ZY rfl fun K hK=>?_
   go_simp
   exact hK _ _ ⟨_,_,_,_,_,_,_,_,_,_,_,_,_,rfl,HF.out.upd _ (rfl) (Below.keepsS (ZpV _ _) _),HW.out.step _ (ZpV _ _) Zd⟩
  | 7,hi=>
   obtain rfl:=ZpZ hi
   have q0:=Zn HW.out.half.1 0 rfl
   have q1:=Zn HW.out.half.1 1 rfl
   refine ZY rfl fun K hK=>?_
   go_simp
   exact hK _ _ ⟨_,_,_,_,_,_,_,_,_,_,_,_,_,rfl,HF.out.upd _ (rfl) (Below.keepsS (ZpV _ _) _),HW.out.step _ (ZpV _ _) Zd⟩
  | 8,hi=>
   obtain rfl:=ZpZ hi
   obtain rfl:=show _=_ from HF.out 7 _ rfl (by first | exact he 0 _ rfl rfl | exact he 1 _ rfl rfl | exact he 2 _ rfl rfl | exact he 3 _ rfl rfl)
   refine ZY rfl fun K hK=>?_
   go_simp
   exact hK _ _ ⟨_,_,_,_,_,_,_,_,_,_,_,_,_,rfl,HF.out.upd _ (rfl) (Below.keepsS (ZpV _ _) _),HW.out.step _ (ZpV _ _) Zd⟩
  | 9,hi=>
   obtain rfl:=ZpZ hi
   obtain rfl:=show _=_ from HF.out 6 _ rfl (by first | exact he 0 _ rfl rfl | exact he 1 _ rfl rfl | exact he 2 _ rfl rfl | exact he 3 _ rfl rfl)
   obtain rfl:=show _=_ from HF.out 8 _ rfl (by first | exact he 0 _ rfl rfl | exact he 1 _ rfl rfl | exact he 2 _ rfl rfl | exact he 3 _ rfl rfl)
   refine ZY rfl fun K hK=>?_
   go_simp
   exact hK _ _ ⟨_,_,_,_,_,_,_,_,_,_,_,_,_,rfl,HF.out.upd _ (⟨_,rfl,ZgV W _ HW.out.ne⟩) (Below.keepsS (Zan W _) _),HW.out.step _ (Zan W _) Zd⟩
  | 10,hi=>
   obtain rfl:=ZpZ hi
   obtain rfl:=show _=_ from HF.out 1 _ rfl (by first | exact he 0 _ rfl rfl | exact he 1 _ rfl rfl | exact he 2 _ rfl rfl | exact he 3 _ rfl rfl)
   obtain⟨A,rfl,hA⟩:=show ∃ A,_/\_ from HF.out 4 _ rfl (by first | exact he 0 _ rfl rfl | exact he 1 _ rfl rfl | exact he 2 _ rfl rfl | exact he 3 _ rfl rfl)
   obtain⟨C,rfl,hC⟩:=show ∃ A,_/\_ from HF.out 9 _ rfl (by first | exact he 0 _ rfl rfl | exact he 1 _ rfl rfl | exact he 2 _ rfl rfl | exact he 3 _ rfl rfl)
   have HA:=ZqH (Zqy hA hC)
   clear hA hC
   refine ZY rfl fun K hK=>?_
   go_simp
   exact hK _ _ ⟨_,_,_,_,_,_,_,_,_,_,_,_,_,rfl,HF.out.upd _ (⟨A,C,rfl,HA.out.1,HA.out.2⟩) (Below.keepsS (ZpV _ _) _),HW.out.step _ (ZpV _ _) Zd⟩
  | 11,hi=>
   obtain rfl:=ZpZ hi
   obtain⟨A,C,rfl,hA,hC⟩:=show ∃ A C,_/\_ from HF.out 10 _ rfl (by first | exact he 0 _ rfl rfl | exact he 1 _ rfl rfl | exact he 2 _ rfl rfl | exact he 3 _ rfl rfl)
   have HA:=ZqH (Zqy hA hC)
   clear hA hC
   refine ZY rfl fun K hK=>?_
   go_simp
   exact hK _ _ ⟨_,_,_,_,_,_,_,_,_,_,_,_,_,rfl,HF.out.upd _ (⟨A,C,_,rfl,Za7 (Below.keepsS (Zan W _) _) HA.out.1,Za7 (Below.keepsS (Zan W _) _) HA.out.2,ZgV W _ HW.out.ne⟩) (Below.keepsS (Zan W _) _),HW.out.step _ (Zan W _) Zd⟩
  | 12,hi=>
   obtain rfl:=ZpZ hi
   obtain rfl:=show _=_ from HF.out 0 _ rfl (by first | exact he 0 _ rfl rfl | exact he 1 _ rfl rfl | exact he 2 _ rfl rfl | exact he 3 _ rfl rfl)
   obtain⟨A,C,D,rfl,hA,hC,hD⟩:=show ∃ A C D,_/\_ from HF.out 11 _ rfl (by first | exact he 0 _ rfl rfl | exact he 1 _ rfl rfl | exact he 2 _ rfl rfl | exact he 3 _ rfl rfl)
   have HA:=ZqH (Zqy hA (Zqy hC hD))
   clear hA hC hD
   refine ZY rfl fun K hK=>?_
   go_simp
   exact hK _ _ ⟨_,_,_,_,_,_,_,_,_,_,_,_,_,rfl,HF.out.upd _ (⟨A,C,D,rfl,HA.out⟩) (Below.keepsS (ZpV _ _) _),HW.out.step _ (ZpV _ _) Zd⟩
  | 13,hi=>
   obtain rfl:=ZpZ hi
   obtain⟨A,C,D,rfl,hA,hC,hD⟩:=show ∃ A C D,_/\_ from HF.out 12 _ rfl (by first | exact he 0 _ rfl rfl | exact he 1 _ rfl rfl | exact he 2 _ rfl rfl | exact he 3 _ rfl rfl)
   have HA:=ZqH (Zqy hA (Zqy hC hD))
   clear hA hC hD
   obtain⟨v0,v1,v2,v3,v4,hc⟩:=HW.out.cell
   have q0:=Zn hc 0 rfl
   have q1:=Zn hc 1 rfl
   have q2:=Zn hc 2 rfl
   have q3:=Zn hc 3 rfl
   have q4:=Zn hc 4 rfl
   have f0:=Zo hc 0
   have f1:=Zo hc 1
   have f2:=Zo hc 2
   have f3:=Zo hc 3
   have f4:=Zo hc 4
   have HC:=ZqH hc
   clear hc
   refine ZY rfl fun K hK=>?_
   go_simp
   obtain⟨W5,hW5⟩:=ZqJ (((((W.setCell ⟨B,0,none⟩ (.int .i64 3)).setCell ⟨B,1,none⟩ (.int .i64 1)).setCell ⟨B,2,none⟩ (.int .i64 1)).setCell ⟨B,3,none⟩ (.slice none 0 0)).setCell ⟨B,4,none⟩ (.slice (some ⟨D,0,none⟩) 1 1))
   have hk5:Keeps (NotM B) W W5:=by
    rw[<- hW5]
    exact(((((Keeps.refl _ W).setCell (p:=⟨B,0,none⟩) (fun h=>h rfl) _).setCell (p:=⟨B,1,none⟩) (fun h=>h rfl) _).setCell (p:=⟨B,2,none⟩) (fun h=>h rfl) _).setCell (p:=⟨B,3,none⟩) (fun h=>h rfl) _).setCell (p:=⟨B,4,none⟩) (fun h=>h rfl) _
   have hg5:W5.heap[B]?=some (finO D):=by
    rw[<- hW5]
    exact Zp0 (Zp0 (Zp0 (Zp0 (Zp0 HC.out _) _) _) _) _
   have hge:w.heap.size<=B:=by rw[HBL.out];exact Nat.le_refl _
   have hb5:Below w.heap.size w W5:=by
    rw[<- hW5]
    exact((((HW.out.base.setCell (p:=⟨B,0,none⟩) hge _).setCell (p:=⟨B,1,none⟩) hge _).setCell (p:=⟨B,2,none⟩) hge _).setCell (p:=⟨B,3,none⟩) hge _).setCell (p:=⟨B,4,none⟩) hge _
   rw[hW5]
   exact hK _ _ ⟨_,_,_,_,_,_,_,_,_,_,_,_,_,rfl,HF.out.also ZqI hk5,⟨hb5,Za7 hk5 HW.out.half,⟨_,_,_,_,_,hg5⟩,fun _=>⟨A,C,D,hg5,Za7 hk5 HA.out.1,Za7 hk5 HA.out.2.1,Za7 hk5 HA.out.2.2⟩⟩⟩
  | n+14,hi=>simp at hi
 case hend=>
  rintro L a W hL ⟨r3,r4,r5,r6,r7,r8,r9,r10,r11,r12,r13,r14,r15,rfl,hF,hW⟩
  obtain⟨D,hd,hbel⟩:=(hW.done (hL 13 Zd)).bel (HT.out.below hW.base ZqI) (HZ.out.below hW.base ZqI)
  have HBEL:=ZqH hbel
  have HBW:=ZqH hW.base
  have q0:=Zn hd 0 (v:=.int .i64 3) rfl
  have q1:=Zn hd 1 (v:=.int .i64 1) rfl
  have q2:=Zn hd 2 (v:=.int .i64 1) rfl
  have q3:=Zn hd 3 (v:=.slice none 0 0) rfl
  have q4:=Zn hd 4 (v:=.slice (some ⟨D,0,none⟩) 1 1) rfl
  clear hF hW hL hbel hB hH hw3
  go_wp2
  exact ZpW (v:=belV rowB (.slice none 0 0) (.slice (some ⟨D,0,none⟩) 1 1)) (by simp[results,Tryz.f31,go_sem,q0,q1,q2,q3,q4,rowB]) rfl ⟨_,rfl,HBEL.out,HBW.out⟩
theorem ZeN (i:Int) (s t:ByteArray) (w:World):Calls Tryz.prog 32 #[.int .i64 i,pV s t] w (ZaE (.agg #[.int .i64 0,.int .i64 i,.int .i64 0,.string s,.string t]) w):=by
 obtain⟨B,hB⟩:=ZqJ w.heap.size
 obtain⟨W,hW⟩:=ZqJ ((w.alloc (pObj s t)).alloc (maO (0,0,0) ZqD ZqD))
 have HE:Hid (Env w.heap.size w [(w.heap.size+1,maO (0,0,0) ZqD ZqD),(w.heap.size,pObj s t)] [] W):=by rw[<- hW];exact((Env.start w).push _ rfl).push _ Zc
 have a0:=HE.out.cell 1 0 (v:=.string s) rfl rfl
 have a1:=HE.out.cell 1 1 (v:=.string t) rfl rfl
 have b0:=HE.out.cell 0 0 (v:=.int .i64 0) rfl rfl
 have b1:=HE.out.cell 0 1 (v:=.int .i64 0) rfl rfl
 have b2:=HE.out.cell 0 2 (v:=.int .i64 0) rfl rfl
 have b3:=HE.out.cell 0 3 (v:=.string ZqD) rfl rfl
 have b4:=HE.out.cell 0 4 (v:=.string ZqD) rfl rfl
 have f0:=HE.out.free 0 0 rfl
 have f1:=HE.out.free 0 1 rfl
 have f2:=HE.out.free 0 2 rfl
 have f3:=HE.out.free 0 3 rfl
 have f4:=HE.out.free 0 4 rfl
 clear hB
 go_enter Tryz.func32,Tryz.ntmps32
 go_wp2
 have hg:(((((W.setCell ⟨w.heap.size+1,0,none⟩ (.int .i64 0)).setCell ⟨w.heap.size+1,1,none⟩ (.int .i64 i)).setCell ⟨w.heap.size+1,2,none⟩ (.int .i64 0)).setCell ⟨w.heap.size+1,3,none⟩ (.string s)).setCell ⟨w.heap.size+1,4,none⟩ (.string t)).heap[w.heap.size+1]?=some (maO (0,i,0) s t):=
  Zp0 (Zp0 (Zp0 (Zp0 (Zp0 (HE.out.block 0 rfl) _) _) _) _) _
 have q0:=Zn hg 0 (v:=.int .i64 0) rfl
 have q1:=Zn hg 1 (v:=.int .i64 i) rfl
 have q2:=Zn hg 2 (v:=.int .i64 0) rfl
 have q3:=Zn hg 3 (v:=.string s) rfl
 have q4:=Zn hg 4 (v:=.string t) rfl
 have hge:w.heap.size<=w.heap.size+1:=Nat.le_succ _
 exact ZpW (v:=.agg #[.int .i64 0,.int .i64 i,.int .i64 0,.string s,.string t]) (by simp[results,Tryz.f32,go_sem,q0,q1,q2,q3,q4]) rfl ⟨rfl,((((HE.out.base.setCell (p:=⟨w.heap.size+1,0,none⟩) hge _).setCell (p:=⟨w.heap.size+1,1,none⟩) hge _).setCell (p:=⟨w.heap.size+1,2,none⟩) hge _).setCell (p:=⟨w.heap.size+1,3,none⟩) hge _).setCell (p:=⟨w.heap.size+1,4,none⟩) hge _⟩
def ZoD (r:Except Int Fl) (l:Fl):Bool:=match r with | .ok m=>decide (m=l) | .error _=>false
def ZjA (r:Except Int (Fl×Rat)) (l:Fl) (z:Rat):Bool:=match r with | .ok (m,y)=>decide (m=l) && decide (y=z) | .error _=>false
theorem Zmj:ZoD (Zcc rowB) [((0,0,0),1)]=true:=by decide +kernel
theorem ZkH:ZjA (ZbF rowB [] 2) [((0,0,0),mkRat 1 4),((0,1,0),mkRat 1 2),((0,2,0),mkRat 1 4)] 1=true:=by decide +kernel
theorem Zlq:LimB rowB:=by
 intro s hs
 simp only[rowB,List.mem_singleton] at hs
 subst hs
 refine⟨⟨Zd,Zd⟩,fun x hx=>?_,fun x hx=>?_⟩
 ·simp only[List.mem_singleton] at hx
  subst hx
  exact⟨Zd,Zd⟩
 ·simp only[List.mem_cons,List.not_mem_nil,or_false] at hx
  rcases hx with rfl | rfl
  ·exact⟨Zd,Zd⟩
  ·exact⟨Zd,Zd⟩
theorem ZnT {r:Except Int Fl} {l:Fl} (h:ZoD r l=true):r=.ok l:=by
 cases r with
 | error e=>cases h
 | ok m=>rw[of_decide_eq_true h]
theorem ZmI {r:Except Int (Fl×Rat)} {l:Fl} {z:Rat} (h:ZjA r l z=true):r=.ok (l,z):=by
 cases r with
 | error e=>cases h
 | ok p=>
  obtain⟨m,y⟩:=p
  simp only[ZjA,Zqt,Zqu] at h
  rw[h.1,h.2]
theorem Zne:IsP 1 ⟨#[49]⟩ ⟨#[49]⟩:=ZfW (by decide +kernel)
theorem Zpn:IsP (mkRat 1 2) ⟨#[49]⟩ ⟨#[50]⟩:=ZfW (by decide +kernel)
theorem ZmC:IsP (mkRat 1 4) ⟨#[49]⟩ ⟨#[52]⟩:=ZfW (by decide +kernel)
def ZfI (W:World) (b o:Nat) (i:Int) (s t:ByteArray):Prop:=
 W.cell? ⟨b,o,none⟩=some (.int .i64 0)/\W.cell? ⟨b,o+1,none⟩=some (.int .i64 i)/\W.cell? ⟨b,o+2,none⟩=some (.int .i64 0)/\W.cell? ⟨b,o+3,none⟩=some (.string s)/\W.cell? ⟨b,o+4,none⟩=some (.string t)
theorem Zhc {w:World} {l:Fl} {p:Option Addr} {n c:Nat} (h:ZK w (.slice p n c) l) (hn:l.length=n) (h0:0<n):∃ b o,p=some ⟨b,o,none⟩/\∀ (k:Nat) (i:Int) (q:Rat) (s t:ByteArray),k<n->mA l k=((0,i,0),q)->IsP q s t->∀ W,Below w.heap.size w W->ZfI W b (o+k*5) i s t:=by
 obtain⟨b,o,e,hat⟩:=ZK.at h hn h0
 refine⟨b,o,e,fun k i q s t hk hm hq W hW=>?_⟩
 obtain⟨s',t',hip,_,_,_,hcell⟩:=hat k hk
 obtain⟨e0,e1,e2,e3,e4⟩:=hcell W hW
 rw[hm] at hip e0 e1 e2
 obtain⟨h1,h2⟩:=ZgR hip hq rfl
 rw[h1] at e3
 rw[h2] at e4
 exact⟨e0,e1,e2,e3,e4⟩
def Zpo (b1 o1 b2 o2 G:Nat) (X:World):Prop:=
 ZfI X b1 o1 0 ⟨#[49]⟩ ⟨#[49]⟩/\X.cell? ⟨G,0,none⟩=some (.string ⟨#[49]⟩)/\X.cell? ⟨G,1,none⟩=some (.string ⟨#[49]⟩)/\ZfI X b2 o2 0 ⟨#[49]⟩ ⟨#[52]⟩/\ZfI X b2 (o2+5) 1 ⟨#[49]⟩ ⟨#[50]⟩/\ZfI X b2 (o2+10) 2 ⟨#[49]⟩ ⟨#[52]⟩
theorem Zhk (w:World) (hT:Tabs w) (hZ:BelZ w):Calls Tryz.prog 9 #[] w (ZaE (.bool true) w):=by
 have HT:=ZqH hT
 have HZ:=ZqH hZ
 clear hT hZ
 go_enter Tryz.func9,Tryz.ntmps9
 go_wp2_with fail
 refine(Zk6 w HT.out HZ.out).mono ?_
 rintro e w1 ⟨sv,rfl,hbel,hb⟩
 have HB1:=ZqH hb
 have HBEL:=ZqH hbel
 clear hb hbel
 go_wp2_with fail
 refine(Zhv HBEL.out Zlq).mono ?_
 rintro e w2 ⟨hE,hb⟩
 have HB2:ZqB w w2:=HB1.out.trans (hb.mono HB1.out.size)
 obtain⟨v1,rfl,hm1⟩:∃ v,e=.returned (.tuple #[v,.int .i64 0])/\ZK w2 v [((0,0,0),1)]:=by
  rw[ZnT Zmj] at hE
  rcases hE with ⟨ms,v,h1,h2,h3,_⟩ | ⟨n,h1,_⟩
  ·cases h1;exact⟨v,h2,h3⟩
  ·cases h1
 obtain⟨p1,c1,rfl,hl1,hl2⟩:=hm1.shape (n:=1) rfl
 have HM1:=ZqH hm1
 clear hE hb hm1 HBEL
 go_wp2_with fail
 refine(Zk6 w2 (HT.out.below HB2.out ZqI) (HZ.out.below HB2.out ZqI)).mono ?_
 rintro e w3 ⟨sv,rfl,hbel,hb3⟩
 have HBEL:=ZqH hbel
 have HB23:=ZqH hb3
 clear hbel hb3
 go_wp2_with fail
 refine(Zeb HBEL.out Zlq (ns:=[]) (steps:=2) ⟨LL.nil w3,fun _ h=>by cases h⟩).mono ?_
 rintro e w4 ⟨hE,hb⟩
 have HB24:ZqB w2 w4:=HB23.out.trans (hb.mono HB23.out.size)
 obtain⟨v2,rfl,hm2⟩:∃ v,e=.returned (.tuple #[v,pV ⟨#[49]⟩ ⟨#[49]⟩,.int .i64 0])/\ZK w4 v [((0,0,0),mkRat 1 4),((0,1,0),mkRat 1 2),((0,2,0),mkRat 1 4)]:=by
  rw[ZmI ZkH] at hE
  rcases hE with ⟨m,z,v,s,t,h1,h2,h3,_,h4⟩ | ⟨n,h1,_⟩
  ·cases h1
   obtain⟨e1,e2⟩:=ZgR h4 Zne rfl
   rw[e1,e2] at h2
   exact⟨v,h2,h3⟩
  ·cases h1
 obtain⟨p2,c2,rfl,hl3,hl4⟩:=hm2.shape (n:=3) rfl
 obtain⟨b1,o1,rfl,k1⟩:=Zhc (n:=1) HM1.out rfl Zd
 obtain⟨b2,o2,rfl,k2⟩:=Zhc (n:=3) hm2 rfl Zd
 obtain⟨G,hG⟩:=ZqJ w4.heap.size
 obtain⟨w7,hw7⟩:=ZqJ (w4.alloc (pObj ⟨#[49]⟩ ⟨#[49]⟩))
 have hb47:Below w4.heap.size w4 w7:=by rw[<- hw7];exact Zan w4 _
 have hg7:w7.heap[G]?=some (pObj ⟨#[49]⟩ ⟨#[49]⟩):=by rw[<- hw7,<- hG];exact ZpY w4 _
 have HB7:ZqB w w7:=HB2.out.trans ((HB24.out.trans (hb47.mono HB24.out.size)).mono HB2.out.size)
 have HC:Hid (∀ X,Below w7.heap.size w7 X->Zpo b1 o1 b2 o2 G X):=fun X hX=>by
  have h4:Below w4.heap.size w4 X:=hb47.trans (hX.mono hb47.size)
  have h2:Below w2.heap.size w2 X:=HB24.out.trans (h4.mono HB24.out.size)
  have hg:=Zce hX hg7
  exact⟨k1 0 0 1 _ _ Zd rfl Zne X h2,Zn hg 0 rfl,Zn hg 1 rfl,k2 0 0 _ _ _ Zd rfl ZmC X h4,k2 1 1 _ _ _ Zd rfl Zpn X h4,k2 2 2 _ _ _ Zd rfl ZmC X h4⟩
 have HT7:=ZqH (HT.out.below HB7.out ZqI)
 clear hE hb k1 k2 hm2 hb47 hg7 HM1 HBEL HB2 HB24 HB23 HB1 HT HZ hl1 hl2 hl3 hl4
 go_wp2_with fail
 clear hw7 hG
 refine ZA [(1,0),(1,1),(1,2),(1,3),(1,4),(1,5),(1,6),(1,7),(1,8),(1,9),(1,10),(1,11),(0,12),(1,13),(1,14),(1,15)] (Below w7.heap.size w7) (fun i=>false)
  Zb Zb (fun _ _=>rfl) Zi (ZpV _ w7).drew ?_
 iterate 12
  refine Zq _ rfl rfl (fun w' hS=>by obtain⟨⟨e0,e1,e2,e3,e4⟩,g0,g1,⟨x0,x1,x2,x3,x4⟩,⟨y0,y1,y2,y3,y4⟩,z0,z1,z2,z3,z4⟩:=HC.out _ hS;exact Ze) ?_
  simp only[Act.put,Zl]
 refine Zs 32 _ rfl rfl (by first | (go_simp;done) | (go_simp;rfl)) ?_
 refine(ZeN 0 ⟨#[49]⟩ ⟨#[49]⟩ _).mono ?_
 rintro e w8 ⟨rfl,hb⟩
 have HB8:ZqB w7 w8:=(ZpV _ w7).drew.trans (hb.mono ZqI)
 refine .inl ⟨_,rfl,HB8.out,?_⟩
 clear hb
 simp only[Act.put,Zl]
 iterate 3
  refine Zq _ rfl rfl (fun w' hS=>by obtain⟨⟨e0,e1,e2,e3,e4⟩,g0,g1,⟨x0,x1,x2,x3,x4⟩,⟨y0,y1,y2,y3,y4⟩,z0,z1,z2,z3,z4⟩:=HC.out _ hS;exact Ze) ?_
  simp only[Act.put,Zl]
 refine Zz ?_
 go_wp2_with fail
 refine ZA [(1,0),(1,1),(1,2),(1,3),(1,4),(1,5),(1,6),(1,7),(1,8),(1,9),(1,10),(1,11),(1,12),(1,13),(1,14),(1,15),(1,16),(1,17),(1,18),(0,19),(0,20),(1,21),(1,22),(1,23),(1,24),(1,25),(1,26),(1,27),(0,28),(1,29),(1,30),(1,31),(1,32),(1,33),(1,34),(0,35),(0,36),(1,37),(1,38),(1,39)] (Below w7.heap.size w7) (fun i=>false)
  Zb Zb (fun _ _=>rfl) Zi HB8.out.drew ?_
 obtain⟨w9,hw9⟩:=ZqJ w8.drew
 have HB9:ZqB w7 w9:=by show Below _ _ _;rw[<- hw9];exact HB8.out.drew
 rw[hw9]
 clear hw9
 iterate 19
  refine Zq _ rfl rfl (fun w' hS=>by obtain⟨⟨e0,e1,e2,e3,e4⟩,g0,g1,⟨x0,x1,x2,x3,x4⟩,⟨y0,y1,y2,y3,y4⟩,z0,z1,z2,z3,z4⟩:=HC.out _ hS;exact Ze) ?_
  simp only[Act.put,Zl]
 refine Zs 17 _ rfl rfl (by first | (go_simp;done) | (go_simp;rfl)) ?_
 refine(ZoF _ (HT7.out.below HB9.out ZqI)).mono ?_
 rintro e wa ⟨rfl,hb⟩
 have HBa:ZqB w7 wa:=HB9.out.trans (hb.mono HB9.out.size)
 refine .inl ⟨_,rfl,HBa.out,?_⟩
 clear hb
 simp only[Act.put,Zl]
 refine Zs 32 _ rfl rfl (by first | (go_simp;done) | (go_simp;rfl)) ?_
 refine(ZeN 0 ⟨#[49]⟩ ⟨#[52]⟩ _).mono ?_
 rintro e wb ⟨rfl,hb⟩
 have HBb:ZqB w7 wb:=HBa.out.trans (hb.mono HBa.out.size)
 refine .inl ⟨_,rfl,HBb.out,?_⟩
 clear hb
 simp only[Act.put,Zl]
 iterate 7
  refine Zq _ rfl rfl (fun w' hS=>by obtain⟨⟨e0,e1,e2,e3,e4⟩,g0,g1,⟨x0,x1,x2,x3,x4⟩,⟨y0,y1,y2,y3,y4⟩,z0,z1,z2,z3,z4⟩:=HC.out _ hS;exact Ze) ?_
  simp only[Act.put,Zl]
 refine Zs 32 _ rfl rfl (by first | (go_simp;done) | (go_simp;rfl)) ?_
 refine(ZeN 1 ⟨#[49]⟩ ⟨#[50]⟩ _).mono ?_
 rintro e wc ⟨rfl,hb⟩
 have HBc:ZqB w7 wc:=HBb.out.trans (hb.mono HBb.out.size)
 refine .inl ⟨_,rfl,HBc.out,?_⟩
 clear hb
 simp only[Act.put,Zl]
 iterate 6
  refine Zq _ rfl rfl (fun w' hS=>by obtain⟨⟨e0,e1,e2,e3,e4⟩,g0,g1,⟨x0,x1,x2,x3,x4⟩,⟨y0,y1,y2,y3,y4⟩,z0,z1,z2,z3,z4⟩:=HC.out _ hS;exact Ze) ?_
  simp only[Act.put,Zl]
 refine Zs 17 _ rfl rfl (by first | (go_simp;done) | (go_simp;rfl)) ?_
 refine(ZoF _ (HT7.out.below HBc.out ZqI)).mono ?_
 rintro e wd ⟨rfl,hb⟩
 have HBd:ZqB w7 wd:=HBc.out.trans (hb.mono HBc.out.size)
 refine .inl ⟨_,rfl,HBd.out,?_⟩
 clear hb
 simp only[Act.put,Zl]
 refine Zs 32 _ rfl rfl (by first | (go_simp;done) | (go_simp;rfl)) ?_
 refine(ZeN 2 ⟨#[49]⟩ ⟨#[52]⟩ _).mono ?_
 rintro e we ⟨rfl,hb⟩
 have HBe:ZqB w7 we:=HBd.out.trans (hb.mono HBd.out.size)
 refine .inl ⟨_,rfl,HBe.out,?_⟩
 clear hb
 simp only[Act.put,Zl]
 iterate 3
  refine Zq _ rfl rfl (fun w' hS=>by obtain⟨⟨e0,e1,e2,e3,e4⟩,g0,g1,⟨x0,x1,x2,x3,x4⟩,⟨y0,y1,y2,y3,y4⟩,z0,z1,z2,z3,z4⟩:=HC.out _ hS;exact Ze) ?_
  simp only[Act.put,Zl]
 refine Zz ?_
 have HBF:ZqB w we:=HB7.out.trans (HBe.out.mono HB7.out.size)
 go_wp2
 go_ret
 exact⟨rfl,HBF.out⟩
end Go.Proofs.YtjmckebecpjjfaaGreatDoor
