/- The parts Text, Shown, Tabs, Right, Texts, Of, Taken, Part, Lim, Check, Clone, Minus, Does. -/
import Derived.Test.YtmpaflidennnoaaGreatDoorH03
import Derived.Lib.Repeat
import Derived.Shelf.Strings.SlTrimAscii
import Derived.Deep.RegionHeld3
import Derived.RegionTactic
import Derived.Deep.DrawnRows
set_option maxRecDepth 100000
set_option maxHeartbeats 4000000
set_option linter.unusedVariables false
set_option linter.unusedSimpArgs false
namespace Go.Proofs.YtmpaflidennnoaaGreatDoor
open Go.RowKit Go.Shelf
attribute [local go_sem] Oper.semAt_some
def ZbI (B b D:Nat) (l:List UInt8) (w:World):Prop:=
 B<=b/\∃ v,w.heap[b]?=some (.cells #[.pointer (some ⟨b,0,none⟩),v] 238 (0,0))/\w.ownsRowF B 5 1 v (Lib.byteCells l).length (Lib.byteCells l)/\v.ownBlock≠some b/\
  v.ownBlock≠some D/\v.ownBlock≠some (D+1)
theorem ZbI.bld {B b D:Nat} {l:List UInt8} {w:World} (h:ZbI B b D l w):Bld B b l w:=by
 obtain⟨h1,v,h2,h3,h4,_⟩:=h
 exact .inr ⟨h1,v,h2,h3,h4⟩
theorem ZgZ {w:World} {base:Nat} {e:TypeId} {size:Nat} {v:Value} {n:Nat} {xs:List Value} (h:w.ownsRowF base e size v n xs) {r:Nat} (hr:v.ownBlock=some r):∃ cur fz,w.heap[r]?=some (.cells cur e fz):=by
 rcases h.2 with ⟨rfl,_⟩ | ⟨g,cap,cur,fz,rfl,_,hg,_⟩
 ·cases hr
 ·have:=ZoP hr
  subst this
  exact⟨cur,fz,hg⟩
theorem ZbI.keeps {S:Nat->Prop} {B b D:Nat} {l:List UInt8} {w w':World} (h:ZbI B b D l w) (hk:Keeps S w w') (hb:S b) (hS:∀ r,r≠D->r≠D+1->S r):ZbI B b D l w':=by
 obtain⟨h1,v,h2,h3,h4,h5,h6⟩:=h
 refine⟨h1,v,by rw[hk.block b (Zpu h2) hb];exact h2,⟨h3.1,?_⟩,h4,h5,h6⟩
 rcases h3.2 with h7 | ⟨g,cap,cur,fz,rfl,hbg,hg,hr⟩
 ·exact .inl h7
 ·refine .inr ⟨g,cap,cur,fz,rfl,hbg,?_,hr⟩
  rw[hk.block g (Zpu hg) (hS g (fun e=>h5 (by rw[e];rfl)) (fun e=>h6 (by rw[e];rfl)))]
  exact hg
theorem ZbI.of {B b D:Nat} {l:List UInt8} {w:World} (h:Lib.BuilderAtF 238 5 B b (.pointer (some ⟨b,0,none⟩)) (Lib.byteCells l) w)
  (hD:∀ c T fz,w.heap[D]?≠some (.cells c T fz)) (hD1:∀ c T fz,w.heap[D+1]?≠some (.cells c T fz)):ZbI B b D l w:=by
 obtain⟨h1,v,h2,h3,h4⟩:=h
 refine⟨h1,v,h2,h3,h4,fun e=>?_,fun e=>?_⟩
 ·obtain⟨cur,fz,hc⟩:=ZgZ h3 e
  exact hD _ _ _ hc
 ·obtain⟨cur,fz,hc⟩:=ZgZ h3 e
  exact hD1 _ _ _ hc
theorem ZfM (c:UInt8):∀ k,Lib.repeatL [c] k=List.replicate k c
 | 0=>rfl
 | k+1=>by rw[Lib.repeatL,ZfM c k];rfl
theorem Zgb (l m:List UInt8):Lib.byteCells (l++m)=Lib.byteCells l++Lib.byteCells m:=by simp[Lib.byteCells]
theorem ZcG (B b:Nat) (l:List UInt8) (s:ByteArray) (w:World) (h:Bld B b l w) (hlen:l.length+s.size<=140737488355328) (hBw:B<=w.heap.size) :
  Calls Tryz.prog 197 #[.pointer (some ⟨b,0,none⟩),.string s] w fun e w'=>e=.returned (.tuple #[.int .i64 s.size,.nilIface])/\
   (Lib.BuilderAtF 238 5 B b (.pointer (some ⟨b,0,none⟩)) (Lib.byteCells (l++s.data.toList)) w'/\Below B w w'/\Lib.OthersKept 5 (some b) w w'):=by
 have:=ZfL B b (Lib.byteCells l) s w h (by rw[Lib.byteCells_length];exact hlen) hBw
 rw[Zgb]
 exact this
theorem ZlV {xs:List Nat} (hx:∀ x ∈ xs,x<1000000000) {i:Nat} (hi:i<xs.length) (hpos:0<val 1000000000 (xs.drop (i+1))) :
  Lib.decDigits (val 1000000000 (xs.drop i))=Lib.decDigits (val 1000000000 (xs.drop (i+1)))++(List.replicate (9-(Lib.decDigits (xs.getD i 0)).length) 48++Lib.decDigits (xs.getD i 0)):=by
 have hxi:xs.getD i 0<1000000000:=ZM Za hx i
 have h1:=ZeC 1000000000 xs i hi
 have h2:xs[i]=xs.getD i 0:=by simp[List.getD,hi]
 rw[h1,h2,<- ZnJ 9 _ Za Za,<- Zhd _ 9 _ hpos Za]
 congr 1
 omega
theorem ZgY {B b:Nat} {S:Nat->Prop} {W W':World} (hB:Below B W W') (hO:Lib.OthersKept 5 (some b) W W')
  (hS:∀ i,S i->i<B\/(i≠b/\∃ o,W.heap[i]?=some o/\∀ c fz,o≠.cells c 5 fz)):Keeps S W W':=
 ⟨hB.os,hB.tape,hB.output,hB.size,fun i _ hs=>by
  rcases hS i hs with h | ⟨h1,o,h2,h3⟩
  ·exact hB.block i h
  ·rw[h2];exact hO i o h2 (fun e=>h1 (ZoP e)) h3⟩
structure Beside (bx:Nat) (o:Array Value) (T:TypeId) (W:World):Prop where
 box:W.heap[bx]?=some (.cells o T)
 d:∃ x,W.heap[bx+1]?=some (.deferred x)
 d1:∃ x,W.heap[bx+2]?=some (.loop x)
theorem Beside.keeps {S:Nat->Prop} {bx:Nat} {o:Array Value} {T:TypeId} {W W':World} (h:Beside bx o T W) (hk:Keeps S W W') (h0:S bx) (h1:S (bx+1)) (h2:S (bx+2)):Beside bx o T W':=by
 obtain⟨a,⟨x,b⟩,⟨y,c⟩⟩:=h
 exact⟨(hk.block _ (Zpu a) h0).trans a,⟨x,(hk.block _ (Zpu b) h1).trans b⟩,⟨y,(hk.block _ (Zpu c) h2).trans c⟩⟩
theorem Beside.written {B b bx:Nat} {o:Array Value} {T:TypeId} {l:List UInt8} {W W':World} (h:Beside bx o T W) (hT:T≠5) (hbx:b<bx) (hB:Below B W W') (hO:Lib.OthersKept 5 (some b) W W')
  (hl:Lib.BuilderAtF 238 5 B b (.pointer (some ⟨b,0,none⟩)) (Lib.byteCells l) W') :
  Beside bx o T W'/\Keeps (fun i=>i<B\/i=bx\/i=bx+1\/i=bx+2) W W'/\ZbI B b (bx+1) l W':=by
 have hk:Keeps (fun i=>i<B\/i=bx\/i=bx+1\/i=bx+2) W W':=by
  refine ZgY hB hO fun i hi=>?_
  obtain⟨x,hx⟩:=h.d
  obtain⟨y,hy⟩:=h.d1
  rcases hi with hi | rfl | rfl | rfl
  ·exact .inl hi
  ·exact .inr ⟨Za,_,h.box,fun c fz e=>by injection e with _ e;exact hT e⟩
  ·exact .inr ⟨Za,_,hx,fun c fz e=>by cases e⟩
  ·exact .inr ⟨Za,_,hy,fun c fz e=>by cases e⟩
 have h2:=h.keeps hk (.inr (.inl rfl)) (.inr (.inr (.inl rfl))) (.inr (.inr (.inr rfl)))
 refine⟨h2,hk,ZbI.of hl ?_ ?_⟩
 ·intro c T fz e;obtain⟨x,hx⟩:=h2.d;rw[hx] at e;cases e
 ·intro c T fz e;obtain⟨x,hx⟩:=h2.d1;rw[show bx+1+1=bx+2 by omega,hx] at e;cases e
theorem ZjG {xs:List Nat} (hx:∀ x ∈ xs,x<1000000000) (hl:xs.length<=100000) (i:Nat):(Lib.decDigits (val 1000000000 (xs.drop i))).length<=900009:=by
 have h1:=Z8 (B:=1000000000) (l:=xs.drop i) fun x h=>hx x (List.mem_of_mem_drop h)
 have h3:(1000000000:Nat) ^ (xs.drop i).length=10 ^ (9*(xs.drop i).length):=by rw[Nat.pow_mul]
 rw[h3] at h1
 have h4:(xs.drop i).length<=100000:=by rw[List.length_drop];omega
 refine ZoU (Z3 (k:=9*(xs.drop i).length+9) Za (ZoS h1 (ZoW Za Za))) Za
theorem Zfu (n j:Nat) (h:j<(Zp 1000000000 n).length):0<val 1000000000 ((Zp 1000000000 n).drop j):=by
 have h1:((Zp 1000000000 n).drop j).getLast?≠some 0:=by
  rw[List.getLast?_drop,if_neg Za]
  exact ZgR Za n
 have h2:=Zfh (B:=1000000000) Za (l:=(Zp 1000000000 n).drop j) (fun x hx=>ZJ Za n x (List.mem_of_mem_drop hx)) h1
 rcases Zo0 (val 1000000000 ((Zp 1000000000 n).drop j)) with h0 | h0
 ·rw[h0,ZO] at h2
  have h3:=congrArg List.length h2
  rw[List.length_drop] at h3
  simp at h3
  omega
 ·exact h0
theorem Zmd (nb off cap L:Nat) (xs:List Nat) (n:Nat) (hL:xs.length=L+1) (hxs:Zp 1000000000 n=xs) (hl:xs.length<=100000) (hcap:L+1<=cap) (w:World) (hnb:nb<w.heap.size) (ha:At .u64 w nb off xs)
  (htab:Lib.TabIs Tryz.prog w "internal/strconv.uint64pow10" .u64 Lib.pow10Tab) (htk:∀ w':World,Below w.heap.size w w'->Lib.TabIs Tryz.prog w' "internal/strconv.uint64pow10" .u64 Lib.pow10Tab) :
  Calls Tryz.prog 153 #[.slice (some ⟨nb,off,none⟩) (L+1) cap] w fun e w'=>e=.returned (.string ⟨(Lib.decDigits n).toArray⟩)/\Below w.heap.size w w':=by
 have HXS:=Zpz hxs
 have HX:Hid (∀ x ∈ xs,x<1000000000):=by rw[<- hxs];exact ZJ Za n
 have HT:=Zpz htk
 have HA:=Zpz ha
 obtain⟨x0,hx0⟩:=ZpB (xs.getD L 0)
 have hx0l:x0<1000000000:=by rw[<- hx0];exact ZM Za HX.out _
 have hc0:w.cell? ⟨nb,off+L,none⟩=some (.int .u64 (x0:Nat)):=ha.getD Za hx0
 have HX0:=Zpz hx0
 clear ha hx0 htk hxs
 have hfn:∀ k,Fence.wide.fn k:=fun _=>trivial
 refine(Zpf (n:=9)).1 ?_
 refine callsIn_of_wp_marks Tryz.func153 rfl trivial ?_ rfl
 simp only[Tryz.ntmps153,Nat.reduceAdd,Nat.reduceSub,Zpy]
 obtain⟨w1,hw1⟩:=ZpB (w.alloc (.cells #[.pointer none,.slice none 0 0] 238))
 have hsz1:w1.heap.size=w.heap.size+1:=by rw[<- hw1];simp
 have HB1:Zpt w w1:=by rw[<- hw1];exact(ZoL _ w).alloc ZpA _
 have HBl1:Hid (Bld w.heap.size w.heap.size [] w1):=by
  refine .inl ⟨Nat.le_refl _,.slice none 0 0,?_,World.ownsRowF_nil _ _ _ _,by simp[Value.ownBlock]⟩
  rw[<- hw1];exact ZoO w _
 have hcL:(((L+1:Nat):Int)==0)=false:=by rw[beq_eq_false_iff_ne];omega
 have hf0:=Zeg x0 Za w1 (HT.out _ HB1.out)
 have hc1:w1.cell? ⟨nb,off+L,none⟩=some (.int .u64 (x0:Nat)):=(HB1.out.cell (p:=⟨nb,off+L,none⟩) hnb).trans hc0
 have hlen0:(Lib.decDigits x0).length<=9:=Z3 Za Za
 gi_wp2_with (gi_at_call 198;refine(Zpf.2 hf0).mono ?_;rintro e w2 ⟨rfl,hb2⟩)
 have hsz2:=hb2.size
 have hBl2:Bld w.heap.size w.heap.size [] w2:=by
  rcases HBl1.out with ⟨q1,v,q2,q3,q4⟩ | ⟨q1,v,q2,q3,q4⟩
  ·refine .inl ⟨q1,v,(hb2.block _ Za).trans q2,?_,q4⟩
   exact World.ownsRowF.kept (row:=none) q3 ⟨hb2.os,hb2.tape,hb2.output,hb2.size,fun k hk _=>hb2.block k hk⟩ (by cases v.ownBlock<;>simp)
  ·refine .inr ⟨q1,v,(hb2.block _ Za).trans q2,?_,q4⟩
   exact World.ownsRowF.kept (row:=none) q3 ⟨hb2.os,hb2.tape,hb2.output,hb2.size,fun k hk _=>hb2.block k hk⟩ (by cases v.ownBlock<;>simp)
 have hws:=ZcG w.heap.size w.heap.size [] ⟨(Lib.decDigits x0).toArray⟩ w2 hBl2 (by rw[<- Zy];simp;omega) Za
 have HB2:=Zpz (HB1.out.trans (hb2.mono Za))
 clear hb2 hBl2 HBl1 hf0 hc1 hc0
 gi_wp2_with (gi_at_call 197;refine(Zpf.2 hws).mono ?_;rintro e w3 ⟨rfl,hbl3,hb3,hk3⟩)
 have hsz3:=hb3.size
 have HB3:=Zpz (HB2.out.trans hb3)
 have HBl3:=Zpz hbl3
 clear hws hb3 hk3 hbl3
 gi_wp2_with (gi_at_call 127;refine(Zhm Fence.wide _ trivial rfl _ _ _ _).mono ?_;rintro e w' ⟨rfl,rfl⟩)
 obtain⟨w4,hw4⟩:=ZpB (w3.alloc (.cells #[.slice (some ⟨nb,off,none⟩) L cap] 110))
 rw[hw4]
 have hD:w4.heap.size=w3.heap.size+1:=by rw[<- hw4];simp
 have hbx4:w4.heap[w3.heap.size]?=some (.cells #[.slice (some ⟨nb,off,none⟩) L cap] 110):=by rw[<- hw4];exact ZoO w3 _
 have HB4:Zpt w w4:=by rw[<- hw4];exact HB3.out.alloc HB3.out.size _
 have HBl4:Hid (ZbI w.heap.size w.heap.size (w3.heap.size+1) (Lib.decDigits (val 1000000000 (xs.drop L))) w4):=by
  have e1:val 1000000000 (xs.drop L)=x0:=by
   have h1:=ZeC 1000000000 xs L Za
   have h2:xs[L]=xs.getD L 0:=by simp[List.getD,hL]
   rw[List.drop_of_length_le (show xs.length<=L+1 by omega)] at h1
   rw[h1,h2,HX0.out];simp[val]
  rw[e1]
  have h5:=HBl3.out
  simp only[Zps] at h5
  have h6:ZbI w.heap.size w.heap.size (w3.heap.size+1) (Lib.decDigits x0) w3:=ZbI.of h5 (fun c T fz h=>by rw[Array.getElem?_eq_none Za] at h;cases h) (fun c T fz h=>by rw[Array.getElem?_eq_none Za] at h;cases h)
  rw[<- hw4]
  exact h6.keeps ((Keeps.refl (fun _=>True) _).alloc _) trivial (fun _ _ _=>trivial)
 have hpos:0<val 1000000000 (xs.drop L):=by rw[<- HXS.out];exact Zfu n L (by rw[HXS.out];omega)
 have HPOS:=Zpz hpos
 clear hpos HBl3
 obtain⟨ts,hts⟩:=ZpB (xs.take L)
 have HTS:Hid (xs.take L=ts):=hts
 have htl:ts.length=L:=by rw[<- hts,Zpr];omega
 clear hts
 refine ZfZ (w3.heap.size+1) hD (gf:=176) (lb:=#[.pointer (some ⟨w3.heap.size,0,none⟩)])
  (f:=fun k=>#[.int .i64 (bk L k:Nat),.int .u64 (lim ts (bk L k):Nat)]) (N:=L) (S:=fun b=>b<w.heap.size\/b=w3.heap.size) (T:=fun _=>True)
  rfl (enters_of Tryz.func176 Zb rfl) (fun _=>rfl) ?iter (fun b h=>Za) ⟨trivial,trivial⟩
  (fun k W=>ZbI w.heap.size w.heap.size (w3.heap.size+1) (Lib.decDigits (val 1000000000 (xs.drop (L-k)))) W/\W.heap[w3.heap.size]?=some (.cells #[.slice (some ⟨nb,off,none⟩) L cap] 110)/\Below w.heap.size w W)
  (fun _ _ _=>False)
  (fun k W1 W2 h hk=>?ci)
  (fun c k W1 W2 h hk=>h.elim) ⟨HBl4.out,hbx4,HB4.out⟩ ?a1 ?assign ?body ?done ?stop
 case ci=>
  obtain⟨h1,h2,h3⟩:=h
  refine⟨h1.keeps hk ⟨trivial,Za,Za⟩ (fun r h4 h5=>⟨trivial,h4,h5⟩),(hk.block _ (Zpu h2) ⟨trivial,Za,Za⟩).trans h2,h3.trans ⟨hk.os,hk.tape,hk.output,hk.size,fun b hb=>hk.block b (by have:=h3.size;omega) ⟨trivial,Za,Za⟩⟩⟩
 case iter=>
  have:=Ze6 w3.heap.size (fun b=>b<w.heap.size\/b=w3.heap.size) (some ⟨nb,off,none⟩) cap ts Za w4 (.inr rfl) (by rw[htl];unfold World.cell?;simp only[hbx4];rfl)
   (fun _=>⟨nb,off,rfl,.inl hnb,fun j hj=>by
    have h1:=(HA.out.below HB4.out hnb) j Za
    rw[h1]
    have h2:ts[j]=xs[j]:=by simp only[<- HTS.out,List.getElem_take]
    rw[h2]⟩)
  rw[htl] at this
  exact this
 case assign=>
  intro l k W K hK
  gi_wp2
  exact hK
 case body=>
  rintro l k W hk ⟨hbld,hbx,hBW⟩ hW ⟨hdd,l',hll⟩
  obtain⟨i,hi⟩:=ZpB (bk L k)
  have hik:Hid (L-k=i+1/\L-(k+1)=i/\i<L):=by unfold bk at hi;exact⟨Za,Za,Za⟩
  obtain⟨x,hx⟩:=ZpB (lim ts (bk L k))
  have hxx:Hid (xs.getD i 0=x):=by
   show _=_
   rw[<- hx,hi,<- HTS.out]
   have:=hik.out.2.2
   unfold lim
   simp only[List.getD,List.getElem?_take_of_lt this]
  rw[hx]
  have hxl:x<1000000000:=by rw[<- hxx.out];exact ZM Za HX.out _
  rw[hik.out.1] at hbld
  have hBS:Beside w3.heap.size #[.slice (some ⟨nb,off,none⟩) L cap] 110 W:=⟨hbx,⟨_,hdd⟩,⟨_,hll⟩⟩
  have hlen:=ZjG HX.out hl (i+1)
  have hlx:(Lib.decDigits x).length<=9:=Z3 Za Za
  obtain⟨c,hc⟩:=ZpB (9-(Lib.decDigits x).length)
  have e9:(9:Int)-((Lib.decDigits x).length:Nat)=(c:Nat):=Za
  have hc9:c<=9:=Za
  have hf:=Zeg x Za W (HT.out _ hBW)
  have HST:Hid (Lib.decDigits (val 1000000000 (xs.drop (L-(k+1))))=Lib.decDigits (val 1000000000 (xs.drop (i+1)))++(List.replicate c 48++Lib.decDigits x)):=by
   show _=_
   rw[hik.out.2.1,<- hc,<- hxx.out]
   exact ZlV HX.out (by have:=hik.out.2.2;omega) (by rw[<- HXS.out];exact Zfu n _ (by rw[HXS.out];have:=hik.out.2.2;omega))
  obtain⟨tx,htx⟩:=ZpB (Lib.decDigits (val 1000000000 (xs.drop (i+1))))
  rw[htx] at HST hbld hlen
  obtain⟨dx,hdx⟩:=ZpB (Lib.decDigits x)
  rw[hdx] at HST hf hlx e9
  clear hbx hdd hll htx hx hi hc hdx
  gi_wp2_with (gi_at_call 198;refine(CallsIn.inRound l (Zpf.2 hf)).mono ?_;rintro e W1 ⟨rfl,hb1⟩)
  have hbl1:=hbld.keeps (hb1.keepsAll (fun _=>True)) trivial (fun _ _ _=>trivial)
  have hbs1:=hBS.keeps (hb1.keepsAll (fun _=>True)) trivial trivial trivial
  have hsW:=hBW.size
  have hs1:=hb1.size
  have hrep:=Tryz.strings_Repeat ⟨#[48]⟩ c W1 Za (by show 1*c<=_;omega)
  clear hf hbld hBS
  have hrl:(Lib.repeatL (⟨#[48]⟩:ByteArray).data.toList c)=List.replicate c 48:=ZfM 48 c
  rw[hrl] at hrep
  gi_wp2_with (gi_at_call 199;refine(CallsIn.inRound l (Zpf.2 hrep)).mono ?_;rintro e W2 ⟨rfl,hb2⟩)
  have hbl2:=hbl1.keeps (hb2.keepsAll (fun _=>True)) trivial (fun _ _ _=>trivial)
  have hbs2:=hbs1.keeps (hb2.keepsAll (fun _=>True)) trivial trivial trivial
  have hs2:=hb2.size
  have hk2:Keeps (fun i=>i<w.heap.size\/i=w3.heap.size\/i=w3.heap.size+1\/i=w3.heap.size+2) W W2:=(hb1.keepsAll _).trans (hb2.keepsAll _)
  have hw3:=ZcG w.heap.size w.heap.size tx ⟨Array.replicate c 48⟩ W2 hbl2.bld (by rw[<- Zy];simp only[Array.toList_replicate,List.length_replicate];omega) Za
  simp only[Array.toList_replicate] at hw3
  clear hbl1 hbs1 hb1 hb2 hrep hrl hbl2
  refine(CallsIn.inRound l (Zpf.2 hw3)).mono ?_
  rintro e W3 ⟨rfl,hl3,hb3,ho3⟩
  obtain⟨hbs3,hk3,hbl3⟩:=hbs2.written Zd Za hb3 ho3 hl3
  have hs3:=hb3.size
  have HK3:=Zpz (hk2.trans hk3)
  clear hw3 hl3 hb3 ho3 hbs2 hk2 hk3
  have hw4:=ZcG w.heap.size w.heap.size (tx++List.replicate c 48) ⟨dx.toArray⟩ W3 hbl3.bld (by rw[<- Zy,Zo2,List.length_replicate];show _+dx.length<=_;omega) Za
  gi_wp2_with fail
  refine(CallsIn.inRound l (Zpf.2 hw4)).mono ?_
  rintro e W4 ⟨rfl,hl4,hb4,ho4⟩
  obtain⟨hbs4,hk4,hbl4⟩:=hbs3.written Zd Za hb4 ho4 hl4
  have HK4:=Zpz (HK3.out.trans hk4)
  have HB4:Hid (ZbI w.heap.size w.heap.size (w3.heap.size+1) (Lib.decDigits (val 1000000000 (xs.drop (L-(k+1))))) W4):=by
   show ZbI _ _ _ _ _
   rw[HST.out]
   rw[List.append_assoc] at hbl4
   exact hbl4
  have HX4:=Zpz hbs4.box
  clear hw4 hl4 hb4 ho4 hbs3 hk4 hbl4 hbs4
  gi_wp2
  refine⟨HK4.out.mono fun b _ hb=>?_,HB4.out,HX4.out,hBW.trans ⟨HK4.out.os,HK4.out.tape,HK4.out.output,HK4.out.size,fun b hb=>HK4.out.block b Za (.inl hb)⟩⟩
  omega
 case done=>
  rintro W ⟨hbld,hbx,hBW⟩ hdef
  rw[Nat.sub_self,List.drop_zero] at hbld
  have HE:Hid (Lib.decDigits (val 1000000000 xs)=Lib.decDigits n):=by show _=_;rw[<- HXS.out,ZA Za]
  rw[HE.out] at hbld
  have hS:=Tryz.Builder_String_k w.heap.size w.heap.size (Lib.decDigits n) W hbld.bld (ZdU n)
  have hlt:=(Zpu hdef)
  gi_wp2_with fail
  refine(Zpf.2 hS).mono ?_
  rintro e W5 ⟨rfl,_,hB5,hO5⟩
  have hdef5:=Zpz (hO5 (w3.heap.size+1) _ hdef (by rw[Ne,Option.some.injEq];omega) (fun c fz h=>by cases h))
  have HB5:=Zpz (hBW.trans hB5)
  clear hS hB5 hO5
  gi_wp2
  refine⟨Zc,.inl ⟨_,_,rfl,run_takeDeferred hdef5.out,?_⟩⟩
  refine⟨.string ⟨(Lib.decDigits n).toArray⟩,by simp[results,Tryz.f153,go_sem],rfl,HB5.out.trans ?_⟩
  exact⟨rfl,rfl,rfl,Zc,fun k hk=>Zo4 Za⟩
 case stop=>
  rintro c k W hk h hdef
  exact h.elim
end Go.Proofs.YtmpaflidennnoaaGreatDoor
namespace Go.Proofs.YtmpaflidennnoaaGreatDoor
open Go.RowKit Go.Shelf
def Tabs (w:World):Prop:=Lib.TabIs Tryz.prog w "internal/strconv.uint64pow10" .u64 Lib.pow10Tab
theorem ZeO:Tryz.prog.globalNamed "internal/strconv.uint64pow10" = some 3:=Zb
theorem Tabs.below {w w':World} {B:Nat} (h:Tabs w) (hb:Below B w w') (hB:w.heap.size<=B):Tabs w':=Joins.tab_stays ZeO h hb hB
theorem Tabs.cell {w:World} (h:Tabs w):∃ v,w.cell? ⟨3,0,none⟩=some v:=⟨_,Lib.TabIs.cell h ZeO 0 Zd⟩
theorem Tabs.lt {w:World} (h:Tabs w):3<w.heap.size:=by
 obtain⟨v,hv⟩:=h.cell
 exact Zo5 _ _ hv
def Zcb:ByteArray:=⟨#[48,49,50,51,52,53,54,55,56,57]⟩
theorem Zgs (c:UInt8):Zcb.data.toList.contains c=ZG c:=by
 have h:∀ n:Fin 256,([48,49,50,51,52,53,54,55,56,57]:List UInt8).contains (UInt8.ofNat n.val)=ZG (UInt8.ofNat n.val):=by decide +kernel
 have:=h ⟨c.toNat,c.toNat_lt⟩
 simpa[Zcb] using this
theorem Zcr {α:Type} (p:α->Bool):∀ l:List α,l.dropWhile p=[]<->l.all p=true
 | []=>Zc
 | x::l=>by
  rw[List.dropWhile_cons,List.all_cons]
  cases h:p x
  ·simp
  ·simp[Zcr p l]
theorem ZlX (l:List UInt8):Lib.trimS l Zcb.data.toList=[]<->l.all ZG=true:=by
 have e:(fun c=>Zcb.data.toList.contains c)=ZG:=funext Zgs
 unfold Lib.trimS Lib.trimLeftS Lib.trimRightS
 rw[Zcr,e]
 constructor
 ·intro h
  have h1:=h
  rw[List.all_reverse] at h1
  rcases hd:l.reverse.dropWhile ZG with _ | ⟨x,r⟩
  ·have:=(Zcr ZG l.reverse).1 hd
   rwa [List.all_reverse] at this
  ·exfalso
   have h2:=List.head?_dropWhile_not ZG l.reverse
   rw[hd] at h2 h1
   simp at h2 h1
   rw[h1.1] at h2
   exact Zpp h2 Zc
 ·intro h
  have h1:l.reverse.dropWhile ZG=[]:=(Zcr _ _).2 (by rw[List.all_reverse];exact h)
  rw[h1];rfl
def Z5 (w:World) (b:Bool) (e:Ending) (w':World):Prop:=e=.returned (.bool b)/\Below w.heap.size w w'
theorem ZjO (s:ByteArray) (w:World) (hs:s.size<=9223372036854775807) :
  Calls Tryz.prog 173 #[.string s,.string Zcb] w fun e w'=>(∃ t:ByteArray,e=.returned (.string t)/\(t.data.toList=[]<->s.data.toList.all ZG=true))/\Below w.heap.size w w':=by
 refine(Any.strings_Trim_laid Tryz.lays160 Zb s Zcb w hs Zd (ascii_of_all (by decide +kernel))).mono ?_
 rintro e w' ⟨rfl,hb⟩
 exact⟨⟨_,rfl,by rw[<- ZlX]⟩,hb⟩
theorem Zf2 {s t:ByteArray} (ht:t.data.toList=[]<->s.data.toList.all ZG=true):t.toList.isEmpty=s.data.toList.all ZG:=by
 rw[Zo8]
 cases h2:s.data.toList.all ZG
 ·rw[h2] at ht;simpa using ht
 ·rw[h2] at ht;simpa using ht
theorem Zks (s:ByteArray) (h:0<s.size):s.data.toList.head?=some 48<->(s[0].toNat:Int)=48:=by
 have h1:s.data.toList.head?=some s[0]:=by
  have:0<s.data.toList.length:=by rw[Zy];exact h
  rw[List.head?_eq_getElem?,Zo6 this]
  rfl
 rw[h1]
 constructor
 ·intro h2
  have:=ZoP h2
  rw[this];rfl
 ·intro h2
  congr 1
  apply UInt8.toNat_inj.1
  show s[0].toNat=48
  omega
theorem Zgp {s:ByteArray} (h:s.size=0\/600<s.size):ZU s.data.toList=false:=by
 rw[Bool.eq_false_iff]
 intro hc
 have ⟨h1,h2⟩:=Zak hc
 rw[Zy] at h2
 have:s.data.toList.length≠0:=fun h=>h1.ne (ZoX h)
 rw[Zy] at this
 omega
theorem Zlr {s:ByteArray} (h:1<s.size) (h2:s.data.toList.head?=some 48):ZU s.data.toList=false:=by
 rw[Bool.eq_false_iff]
 intro hc
 exact(Zak hc).1.head (by rw[Zy];exact h) h2
theorem ZgH {s:ByteArray} (h0:s.size≠0) (h1:s.size<=600) (h2:1<s.size->s.data.toList.head?≠some 48):ZU s.data.toList=s.data.toList.all ZG:=by
 have h3:s.data.toList≠[]:=fun h=>h0 (by rw[<- Zy,h];rfl)
 unfold ZU ZcD Zdx
 rw[Zy,decide_eq_true h3,decide_eq_true h1,decide_eq_true h2]
 simp
theorem ZaE (s:ByteArray) (w:World) (hs:s.size<=1000000):Calls Tryz.prog 123 #[.string s] w (Z5 w (ZU s.data.toList)):=by
 have hT:=ZjO s w Za
 by_cases h0:s.size=0
 ·have hb:((s.size:Int)==0)=true:=by simp[h0]
  have HP:=Zpz (Zgp (.inl h0))
  clear hT
  go_enter Tryz.func123,Tryz.ntmps123
  go_wp2
  go_ret
  refine⟨?_,ZoL _ _⟩
  rw[HP.out];rfl
 ·by_cases h1:600<s.size
  ·have hb:((s.size:Int)==0)=false:=by simp[h0]
   have hb2:(600:Int)<s.size:=Za
   have HP:=Zpz (Zgp (.inr h1))
   clear hT h0
   go_enter Tryz.func123,Tryz.ntmps123
   go_wp2
   go_ret
   refine⟨?_,ZoL _ _⟩
   rw[HP.out];rfl
  ·have hb:((s.size:Int)==0)=false:=by simp[h0]
   have hb2:¬ (600:Int)<s.size:=Za
   by_cases h2:1<s.size
   ·have hb3:(1:Int)<s.size:=Za
    by_cases h4:(s[0].toNat:Int)=48
    ·have hb4:((s[0].toNat:Int)==48)=true:=by simpa using h4
     have HP:=Zpz (Zlr h2 ((Zks s Za).2 h4))
     clear h4 hT
     go_enter Tryz.func123,Tryz.ntmps123
     go_wp2
     go_ret
     refine⟨?_,ZoL _ _⟩
     rw[HP.out,<- hb4];rfl
    ·have hb4:((s[0].toNat:Int)==48)=false:=by simpa using h4
     have HP:=Zpz (ZgH h0 Za (fun _ h=>h4 ((Zks s Za).1 h)))
     clear h4
     go_enter Tryz.func123,Tryz.ntmps123
     go_wp2_with fail
     refine hT.mono ?_
     rintro e w1 ⟨⟨t,rfl,ht⟩,hB⟩
     have HE:Hid (t.toList.isEmpty=ZU s.data.toList):=by show _=_;rw[HP.out];exact Zf2 ht
     have HB:=Zpz hB
     clear hB hT ht
     go_wp2
     go_ret
     refine⟨?_,HB.out⟩
     rw[<- HE.out];rfl
   ·have hb3:¬ (1:Int)<s.size:=Za
    have HP:=Zpz (ZgH h0 Za (fun h=>Zpp h h2))
    go_enter Tryz.func123,Tryz.ntmps123
    go_wp2_with fail
    refine hT.mono ?_
    rintro e w1 ⟨⟨t,rfl,ht⟩,hB⟩
    have HE:Hid (t.toList.isEmpty=ZU s.data.toList):=by show _=_;rw[HP.out];exact Zf2 ht
    have HB:=Zpz hB
    clear hB hT ht
    go_wp2
    go_ret
    refine⟨?_,HB.out⟩
    rw[<- HE.out];rfl
def ZfH (w:World) (n:Int) (e:Ending) (w':World):Prop:=e=.returned (.int .i64 n)/\Below w.heap.size w w'
def Zjb (w:World) (l:List UInt8) (e:Ending) (w':World):Prop:=∃ s,e=.returned (.string s)/\s=str l/\Below w.heap.size w w'
theorem Num.form {w:World} {v:Value} {n:Nat} (h:Num w v n):∃ p c,v=.slice p (Zp 1000000000 n).length c:=by
 obtain⟨p,c,rfl,_⟩:=h
 exact⟨p,c,rfl⟩
theorem Num.form' {w:World} {v:Value} {n:Nat} (h:Num w v n):∃ p l c,v=.slice p l c:=by
 obtain⟨p,c,rfl,_⟩:=h
 exact⟨p,_,c,rfl⟩
theorem Zmx (p:Option Addr) (c:Nat) (w:World):Calls Tryz.prog 153 #[.slice p 0 c] w (Zjb w (Lib.decDigits 0)):=by
 go_enter Tryz.func153,Tryz.ntmps153
 go_wp2
 go_ret
 exact⟨_,rfl,by rw[ZbD];rfl,ZoL _ _⟩
theorem Zf9 {v:Value} {n:Nat} {w:World} (h:Num w v n) (hl:(Zp 1000000000 n).length<=100000) (hT:Tabs w) :
  Calls Tryz.prog 153 #[v] w (Zjb w (Lib.decDigits n)):=by
 obtain⟨p,c,rfl,h1,h2,h3⟩:=h
 rcases Zo0 n with h0 | h0
 ·subst h0
  have e0:(Zp 1000000000 0).length=0:=by rw[ZO];rfl
  rw[e0]
  exact Zmx p c w
 ·have hp:=(ZaN (B:=1000000000) Za).2 h0
  obtain⟨L,hL⟩:∃ L,(Zp 1000000000 n).length=L+1:=⟨_,(Nat.sub_add_cancel hp).symm⟩
  obtain⟨b,off,rfl,hb,ha⟩:=h3 (ZoT hp)
  rw[hL] at h1 ⊢
  refine(Zmd b off c L _ n hL rfl hl Za w hb ha hT (fun w' hw=>hT.below hw ZpA)).mono ?_
  rintro e w' ⟨rfl,hB⟩
  exact⟨_,rfl,rfl,hB⟩
theorem Zgq {v:Value} {n:Nat} {w:World} (h:Num w v n) (hl:(Zp 1000000000 n).length<=100000) (hT:Tabs w) :
  Calls Tryz.prog 152 #[v] w (ZfH w ((Lib.decDigits n).length:Nat)):=by
 have ht:=Zf9 h hl hT
 go_enter Tryz.func152,Tryz.ntmps152
 go_wp2_with fail
 refine ht.mono ?_
 rintro e w' ⟨s,rfl,hs,hB⟩
 have HS:Hid (s.size=(Lib.decDigits n).length):=by show _=_;rw[hs,Zay]
 have HB:=Zpz hB
 clear hB hs ht h hT hl
 go_wp2
 go_ret
 refine⟨?_,HB.out⟩
 rw[<- HS.out];rfl
end Go.Proofs.YtmpaflidennnoaaGreatDoor
namespace Go.Proofs.YtmpaflidennnoaaGreatDoor
open Go.RowKit Go.Shelf
attribute [local go_sem] Oper.semAt_some
theorem Zfi {S:Nat->Prop} {w w':World} {base:Nat} {e:TypeId} {size:Nat} {v:Value} {n:Nat} {xs:List Value} (h:w.ownsRow base e size v n xs) (hk:Keeps S w w') (hS:∀ g,base<=g->S g):w'.ownsRow base e size v n xs:=by
 obtain⟨h1,h2⟩:=h
 refine⟨h1,?_⟩
 rcases h2 with h2 | ⟨g,cap,cur,hv,hb,hg,hr⟩
 ·exact .inl h2
 ·refine .inr ⟨g,cap,cur,hv,hb,?_,hr⟩
  rw[hk.block g (Zpu hg) (hS g hb)];exact hg
theorem ZhC {w:World} {base:Nat} {e:TypeId} {size:Nat} {v:Value} {n:Nat} {xs:List Value} (h:w.ownsRow base e size v n xs):∀ r,v.ownBlock=some r->base<=r:=by
 rcases h.2 with ⟨rfl,_⟩ | ⟨g,cap,cur,rfl,hb,_⟩
 ·intro r hr;cases hr
 ·intro r hr;have:=ZoP hr;subst this;exact hb
def ZbL (s:ByteArray) (k:Nat):List Value:=((List.range k).map (gval s.data.toList)).map fun x:Nat=>Value.int .u64 (x:Nat)
theorem Zf5 (Bs:Nat) (s:ByteArray) (hl:s.size<=1000000) (hd:∀ c ∈ s.data.toList,ZG c=true) (w:World)
  (hBs:w.cell? ⟨Bs,0,none⟩=some (.string s)) (hF:w.frozen? ⟨Bs,0,none⟩=false) :
  Calls Tryz.prog 214 #[.slice none 0 0,.func (.func 215) #[] #[.pointer (some ⟨Bs,0,none⟩)]] w fun e w'=>
   ∃ v,e=.returned v/\w'.ownsRow w.heap.size 158 1 v (Za6 s.data.toList) (ZbL s (Za6 s.data.toList))/\Keeps (fun b=>b<w.heap.size/\b≠Bs) w w':=by
 obtain⟨i0,hi,hz0,hz1,hz2⟩:=info_parts Zcx
 have hBl:=Zo5 _ _ hBs
 have hfn:∀ k,Fence.wide.fn k:=fun _=>trivial
 refine(Zpf (n:=9)).1 ?_
 refine callsIn_of_wp_marks Tryz.func214 rfl trivial ?_ rfl
 simp only[Tryz.ntmps214,Nat.reduceAdd,Nat.reduceSub,Zpy]
 gi_wp2
 obtain⟨w3,hw3⟩:=ZpB (w.alloc (.cells #[.slice none 0 0] 109))
 rw[hw3]
 have hD:w3.heap.size=w.heap.size+1:=by rw[<- hw3];simp
 have HK3:Hid (∀ S:Nat->Prop,Keeps S w w3):=fun S=>by rw[<- hw3];exact(Keeps.refl S w).alloc _
 have HV3:Hid (w3.cell? ⟨w.heap.size,0,none⟩=some (.slice none 0 0)/\w3.frozen? ⟨w.heap.size,0,none⟩=false):=by rw[<- hw3];exact⟨ZK _ _ _ _ rfl,ZcL _ _ _ _ rfl⟩
 refine Zgc (w.heap.size+1) hD (gf:=215) (lb:=#[.pointer (some ⟨Bs,0,none⟩)])
  (f:=fun k=>#[.int .u64 (gval s.data.toList k:Nat)]) (N:=Za6 s.data.toList) (S:=fun b=>b=Bs) (T:=fun b=>b≠Bs)
  rfl (enters_of Tryz.func215 Zb rfl) (fun _=>rfl) ?iter (fun b h=>Za) ⟨Za,Za⟩
  (fun k W=>(∃ v,W.cell? ⟨w.heap.size,0,none⟩=some v/\W.frozen? ⟨w.heap.size,0,none⟩=false/\W.ownsRow (w.heap.size+3) 158 1 v k (ZbL s k))/\Keeps (fun b=>b<w.heap.size/\b≠Bs) w W)
  (fun _ _ _=>False)
  (fun k W1 W2 h hk=>?ci)
  (fun c k W1 W2 h hk=>h.elim) ⟨⟨_,HV3.out.1,HV3.out.2,⟨by simp[ZbL],.inl ⟨rfl,rfl⟩⟩⟩,HK3.out _⟩ ?a1 ?assign ?body ?done ?stop
 case ci=>
  obtain⟨⟨v,h1,h2,h3⟩,h4⟩:=h
  refine⟨⟨v,hk.cellAt h1 (by simp;omega),?_,Zfi h3 hk (fun g hg=>by simp;omega)⟩,h4.trans (hk.mono fun b hb1 hb2=>by simp;omega)⟩
  rw[hk.frozen (Zo5 _ _ h1) (by simp;omega)];exact h2
 case iter=>
  exact Zjs Bs _ s hl hd w3 rfl ((HK3.out (fun _=>True)).cellAt hBs trivial) (by rw[(HK3.out (fun _=>True)).frozen hBl trivial];exact hF)
 case assign=>
  intro l k W K hK
  gi_wp2
  exact hK
 case body=>
  rintro l k W hk ⟨⟨v,hc,hf,hown⟩,HK⟩ hW
  have HO:=Zpz hown
  have HKh:=Zpz HK
  obtain⟨x,hx⟩:=ZpB (gval s.data.toList k)
  rw[hx]
  have HX:=Zpz hx
  clear HK hx
  have hkl:k<=1000000:=by unfold Za6 at hk;rw[Zy] at hk;omega
  have hm1:k+1<=maxLen:=by unfold maxLen;omega
  have hm2:(k+1)*8<=140737488355328:=Za
  have hm3:w.heap.size+3<=(W.alloc (.cells #[.int .u64 (x:Nat)] 158)).heap.size:=by simp;omega
  have HVB:=Zpz (ZhC hown)
  have hownA:=hown.alloc (.cells #[.int .u64 (x:Nat)] 158)
  gi_wp2_with (gi_at_builtin;go_loud (refine wpListIn_append_own _ rfl (.tmp 8) (.tmp 10) 109 rfl (w.heap.size+3) 158 i0 (.int .u64 0) 1 8 Tryz.underlying109 hi hz0 hz1 hz2 rfl Zd _ k _ rfl hownA ⟨W.heap.size,0,none⟩ 1 1 [.int .u64 (x:Nat)] rfl rfl (cell_one_new _ _ _) (by simp[Value.oneCell']) hm1 hm2 hm3 ?_);intro v' w4 hown4 hgrow4 hnil4;obtain⟨g4,cap4,rfl,hgb4,hgl4⟩:=hown4.form Za;have hk4:Keeps (fun b=>b<w.heap.size+3) W w4:=((Keeps.refl _ W).alloc _).grown hgrow4 (fun r hr=>by have:=HVB.out r hr;omega);go_loud (have hc4:=hk4.cellAt hc (by simp<;>omega);have hf4:=(hk4.frozen (Zo5 _ _ hc) (by simp<;>omega)).trans hf;clear hgrow4 hnil4 hc hf))
  have hkk:Keeps (fun b=>b<w.heap.size) W (w4.setCell ⟨w.heap.size,0,none⟩ (.slice (some ⟨g4,0,none⟩) (k+1) cap4)):=
   (hk4.mono (fun b _ hb=>Za)).setCell Zc _
  refine⟨(hk4.mono (fun b _ hb=>?_)).setCell (by simp<;>omega) _,⟨_,World.cell?_setCell_same' _ _ _ (by rw[hc4];rfl),by rw[World.frozen?_setCell];exact hf4,?_⟩,HKh.out.trans (hkk.mono fun b _ hb=>hb.1)⟩
  ·rcases hb with rfl | rfl | rfl<;>omega
  ·have h5:ZbL s (k+1)=ZbL s k++[.int .u64 (x:Nat)]:=by
    unfold ZbL
    rw[List.range_succ,List.map_append,List.map_append,<- HX.out];rfl
   rw[h5]
   refine Zfi (S:=fun b=>w.heap.size+3<=b) hown4 ((Keeps.refl _ _).setCell Zc _) (fun g hg=>hg)
 case done=>
  rintro W ⟨⟨v,hc,hf,hown⟩,HK⟩ hdef
  have HO:=Zpz hown
  have HKh:=Zpz HK
  have Hdef:=Zpz hdef
  have hlt:=(Zpu hdef)
  have hbl:=Zpz (ZhC hown)
  clear hown HK hdef
  gi_wp2
  refine⟨Zc,.inl ⟨_,_,rfl,run_takeDeferred Hdef.out,?_⟩⟩
  refine⟨v,by simp[results,Tryz.f214,go_sem],v,rfl,?_,HKh.out.putObj (by simp;omega) _⟩
  have h1:=Zfi (S:=fun b=>w.heap.size+3<=b) HO.out ((Keeps.refl _ W).putObj (r:=w.heap.size+1) Zc (.deferred none)) (fun g hg=>hg)
  obtain⟨h2,h3⟩:=h1
  refine⟨h2,?_⟩
  rcases h3 with h3 | ⟨g,cap,cur,hv,hb,hr⟩
  ·exact .inl h3
  ·exact .inr ⟨g,cap,cur,hv,Za,hr⟩
 case stop=>
  rintro c k W hk h hdef
  exact h.elim
theorem ZgW (s:ByteArray) (hl:s.size<=1000000) (hd:∀ c ∈ s.data.toList,ZG c=true) (w:World) :
  Calls Tryz.prog 125 #[.string s] w (Zet w (Zq s.data.toList)):=by
 have HD:=Zpz hd
 clear hd
 go_enter Tryz.func125,Tryz.ntmps125
 go_wp2_with (first | (go_at_call 175;go_in) | (go_at_call 174;go_in))
 have hB0:=ZK w #[.string s] 9 0 rfl
 have hF0:=ZcL w #[.string s] 9 0 rfl
 have hA:=Zf5 w.heap.size s hl HD.out (w.alloc (.cells #[.string s] 9)) hB0 hF0
 clear hB0 hF0
 refine hA.mono ?_
 rintro e w2 ⟨v,rfl,hown,hk⟩
 have hsz:(w.alloc (.cells #[.string s] 9)).heap.size=w.heap.size+1:=Zc
 have hB2:Below w.heap.size w w2:=by
  refine((ZoL w.heap.size w).alloc ZpA (.cells #[.string s] 9)).trans ?_
  exact⟨hk.os,hk.tape,hk.output,hk.size,fun b hb=>hk.block b (by rw[hsz];omega) ⟨by rw[hsz];omega,Za⟩⟩
 clear hA hk
 obtain⟨N,hN⟩:=ZpB (Za6 s.data.toList)
 rw[hN] at hown
 obtain⟨xs,hxs⟩:=ZpB ((List.range N).map (gval s.data.toList))
 have hcells:ZbL s N=xs.map fun x:Nat=>Value.int .u64 (x:Nat):=by rw[<- hxs];rfl
 have hxl:xs.length=N:=by rw[<- hxs];simp
 have hxd:∀ x ∈ xs,x<1000000000:=by
  rw[<- hxs];intro x hx
  obtain⟨k,_,rfl⟩:=List.mem_map.1 hx
  exact Zn1 HD.out k
 have hval:val 1000000000 xs=Zq s.data.toList:=by rw[<- hxs,<- hN];exact Zhu _
 rw[hcells] at hown
 have HB2:=Zpz hB2
 have HV:=Zpz hval
 clear hN hxs hcells hB2 hval
 rcases hown.2 with ⟨rfl,h0⟩ | ⟨g,cap,cur,rfl,hgb,hgr,hle,hcap,hr⟩
 ·subst h0
  obtain rfl:xs=[]:=ZoX hxl
  have ht:=Zdv none 0 [] w2 ZpA (ZoY _) (fun x h=>by cases h) (fun h=>Zpp rfl h)
  have h2:Zq s.data.toList=0:=HV.out.symm
  have h3:Zp 1000000000 (val 1000000000 [])=[]:=by rw[show val 1000000000 []=0 from rfl,ZO]
  rw[h3] at ht
  have H2:=Zpz h2
  clear hown h2 h3
  go_wp2_with fail
  refine ht.mono ?_
  rintro e w' ⟨rfl,rfl⟩
  clear ht
  go_wp2
  go_ret
  exact⟨_,rfl,by rw[H2.out];exact ZiV _ _ _ (ZoY _),HB2.out⟩
 ·have hrow:Row .u64 158 w2 0 g cap xs:=by subst hxl;exact⟨hown.1,by
   rcases hown.2 with h | ⟨g',cap',cur',h1,_,h3⟩
   ·exact .inl h
   ·exact .inr ⟨g',cap',cur',h1,ZoY _,h3⟩⟩
  have ht:=Zcz hrow hxd N hxl.symm (Zq s.data.toList) HV.out
  clear hrow hown hgr hr
  go_wp2_with fail
  refine ht.mono ?_
  rintro e w' ⟨rfl,rfl,hr2⟩
  have HN:=Zpz (show Zdh 0 w2 _ _ from ⟨_,_,rfl,hr2⟩).num
  clear ht hr2
  go_wp2
  go_ret
  exact⟨_,rfl,HN.out,HB2.out⟩
end Go.Proofs.YtmpaflidennnoaaGreatDoor
namespace Go.Proofs.YtmpaflidennnoaaGreatDoor
open Go.RowKit Go.Shelf
attribute [local go_sem ↓] Go.wp_at_zero Go.wp_at_succ
theorem Num.keepsBut {w w':World} {v:Value} {n b:Nat} {cs:Array Value} {T:TypeId} (h:Num w v n) (hb:w.heap[b]?=some (.cells cs T (0,0))) (hcs:∀ (j:Nat) (x:Int),cs[j]?≠some (.int .u64 x)) (hk:Keeps (fun i=>i≠b) w w'):Num w' v n:=by
 obtain⟨p,cap,rfl,h1,h2,h3⟩:=h
 refine⟨p,cap,rfl,h1,h2,fun hne=>?_⟩
 obtain⟨b',off,rfl,hlt,ha⟩:=h3 hne
 refine⟨b',off,rfl,ZoS hlt hk.size,?_⟩
 have hbb:b'≠b:=by
  rintro rfl
  have hpos:0<(Zp 1000000000 n).length:=List.length_pos_iff.2 hne
  have h4:=ha 0 hpos
  unfold World.cell? at h4
  simp only[hb] at h4
  exact hcs _ _ h4
 exact ha.keeps hk hbb
theorem Zht (v1 v2:Value) (h1:∀ x:Int,v1≠.int .u64 x) (h2:∀ x:Int,v2≠.int .u64 x):∀ (j:Nat) (x:Int),(#[v1,v2]:Array Value)[j]?≠some (.int .u64 x)
 | 0,x=>by simpa using h1 x
 | 1,x=>by simpa using h2 x
 | j+2,x=>Zc
theorem ZhH {w:World} {b:Nat} (i j:Nat) (h:i≠j) {u:Value} : (w.setCell ⟨b,i,none⟩ u).cell? ⟨b,j,none⟩=w.cell? ⟨b,j,none⟩:=World.cell?_setCell_other w _ _ u (by simp[h])
def Znb (w:World) (n d:Nat) (e:Ending) (w':World):Prop:=∃ vn vd,e=.returned (.agg #[vn,vd])/\Num w' vn n/\Num w' vd d/\Below w.heap.size w w'
theorem Zdg (s t:ByteArray) (hl:s.size<=1000000) (hl2:t.size<=1000000) (hd:∀ c ∈ s.data.toList,ZG c=true) (hd2:∀ c ∈ t.data.toList,ZG c=true) (w:World) :
  Calls Tryz.prog 67 #[Zpw s t] w (Znb w (Zq s.data.toList) (Zq t.data.toList)):=by
 have HD:=Zpz hd
 have HD2:=Zpz hd2
 clear hd hd2
 go_enter Tryz.func67,Tryz.ntmps67
 go_wp2_with fail
 obtain⟨w3,hw3⟩:=ZpB ((w.alloc (Zpx s t)).alloc (.cells #[.slice none 0 0,.slice none 0 0] 112))
 have hsz:w3.heap.size=w.heap.size+2:=by rw[<- hw3];simp
 have c0:w3.cell? ⟨w.heap.size,0,none⟩=some (.string s):=by rw[<- hw3,Zai _ _ _ Zc];exact ZK _ _ _ _ rfl
 have c1:w3.cell? ⟨w.heap.size,1,none⟩=some (.string t):=by rw[<- hw3,Zai _ _ _ Zc];exact ZK _ _ _ _ rfl
 have b3:w3.heap[w.heap.size+1]?=some (.cells #[.slice none 0 0,.slice none 0 0] 112 (0,0)):=by
  rw[<- hw3]
  have:=ZoO (w.alloc (Zpx s t)) (.cells #[.slice none 0 0,.slice none 0 0] 112)
  simpa using this
 have HB3:Zpt w w3:=by rw[<- hw3];exact((ZoL _ w).alloc ZpA _).alloc Zc _
 rw[hw3]
 clear hw3
 go_region_with (go_at_call 125;first
  | go_loud (refine(ZgW s hl HD.out _).mono ?_;rintro e w4 ⟨v1,rfl,hv1,hB4⟩;have c1':w4.cell? ⟨w.heap.size,1,none⟩=some (.string t):=(hB4.cell (p:=⟨w.heap.size,1,none⟩) (by show w.heap.size<w3.heap.size;omega)).trans c1;have hsz4:w3.heap.size<=w4.heap.size:=hB4.size;have b4:w4.heap[w.heap.size+1]?=some (.cells #[.slice none 0 0,.slice none 0 0] 112 (0,0)):=(hB4.block (w.heap.size+1) (by show _<w3.heap.size;omega)).trans b3;have HN4:=Zpz hv1;have HB4:Zpt w w4:=HB3.out.drew.trans (hB4.mono (by show w.heap.size<=w3.heap.size;omega));clear hB4;obtain⟨p1,k1,rfl,_,_,_⟩:=hv1)
  | go_loud (refine(ZgW t hl2 HD2.out _).mono ?_;rintro e w5 ⟨v2,rfl,hv2,hB5⟩;have b5:w5.heap[w.heap.size+1]?=some (.cells #[.slice none 0 0,.slice none 0 0] 112 (0,0)):=(hB5.block (w.heap.size+1) (by show _<w4.heap.size;omega)).trans b4;have HN5:=Zpz (HN4.out.below hB5 ZpA);have HM5:=Zpz hv2;have HB5:Zpt w w5:=HB4.out.trans (hB5.mono Za);have d0:=Zn b5 0 (v:=.slice none 0 0) rfl;have d1:=Zn b5 1 (v:=.slice none 0 0) rfl;have f0:=Zo b5 0;have f1:=Zo b5 1;clear hB5;obtain⟨p2,k2,rfl,_,_,_⟩:=hv2))
 all_goals
  obtain⟨l1,hl1⟩:=ZpB ((Zp 1000000000 (Zq s.data.toList)).length)
  obtain⟨l2,hl2⟩:=ZpB ((Zp 1000000000 (Zq t.data.toList)).length)
  rw[hl1] at HN5
  rw[hl2] at HM5
  rw[hl1,hl2]
  obtain⟨w6,hw6⟩:=ZpB ((w5.setCell ⟨w.heap.size+1,0,none⟩ (.slice p1 l1 k1)).setCell ⟨w.heap.size+1,1,none⟩ (.slice p2 l2 k2))
  have hk6:Keeps (fun i=>i≠w.heap.size+1) w5 w6:=by rw[<- hw6];exact((Keeps.refl _ w5).setCell Zc _).setCell Zc _
  have r0:w6.cell? ⟨w.heap.size+1,0,none⟩=some (.slice p1 l1 k1):=by
   rw[<- hw6,ZhH 1 0 Zd]
   exact World.cell?_setCell_same' _ _ _ (by rw[d0];rfl)
  have r1:w6.cell? ⟨w.heap.size+1,1,none⟩=some (.slice p2 l2 k2):=by
   rw[<- hw6]
   exact World.cell?_setCell_same' _ _ _ (by rw[ZhH 0 1 Zd,d1];rfl)
  have HN6:=Zpz (HN5.out.keepsBut b5 (Zht _ _ (fun x h=>by cases h) (fun x h=>by cases h)) hk6)
  have HM6:=Zpz (HM5.out.keepsBut b5 (Zht _ _ (fun x h=>by cases h) (fun x h=>by cases h)) hk6)
  have HB6:Zpt w w6:=HB5.out.trans ⟨hk6.os,hk6.tape,hk6.output,hk6.size,fun k hk=>hk6.block k (by have:=HB5.out.size;omega) Za⟩
  rw[hw6]
  clear hw6 hk6 c0 c1 c1' d0 d1 f0 f1 b3 b4 b5
  go_wp2
  refine ZoM (v:=.agg #[.slice p1 l1 k1,.slice p2 l2 k2]) ?_ rfl ⟨_,_,rfl,HN6.out,HM6.out,HB6.out⟩
  simp[results,Tryz.f67,go_sem,r0,r1]
def ZL (R:ByteArray->ByteArray->Int->Prop) (w:World) (e:Ending) (w':World):Prop:=
 ∃ s t n,e=.returned (.tuple #[Zpw s t,.int .i64 n])/\R s t n/\Below w.heap.size w w'
theorem Num.after {w w':World} {v:Value} {n B:Nat} (h:Num w v n) (hb:Below B w w') (hB:w.heap.size<=B):Num w' v n:=Nums.below h hb hB
theorem ZdE {v1 v2:Value} {n d:Nat} {w:World} (h1:Num w v1 n) (h2:Num w v2 d) (hl1:(Zp 1000000000 n).length<=100000) (hl2:(Zp 1000000000 d).length<=100000) (hd:0<d) (hT:Tabs w) :
  Calls Tryz.prog 101 #[.agg #[v1,v2]] w (ZL (Ans (mkRat (n:Nat) d)) w):=by
 obtain⟨g,hg⟩:=ZpB (Nat.gcd n d)
 have hg0:0<g:=by rw[<- hg];exact Nat.gcd_pos_of_pos_right _ hd
 have hgl:(Zp 1000000000 g).length<=100000:=ZoU (ZN Za (by rw[<- hg];exact Nat.gcd_le_right _ hd)) hl2
 have HQ:Hid (numD (mkRat (n:Nat) d)=Lib.decDigits (n/g)/\denD (mkRat (n:Nat) d)=Lib.decDigits (d/g)):=by rw[<- hg];exact ZdN n hd
 obtain⟨p1,l1,c1,rfl⟩:=h1.form'
 obtain⟨p2,l2,c2,rfl⟩:=h2.form'
 have H1:=Zpz h1
 have H2:=Zpz h2
 have HT:=Zpz hT
 have HG0:=Zpz hg
 clear h1 h2 hT hg
 go_enter Tryz.func101,Tryz.ntmps101
 go_wp2_with fail
 obtain⟨w1,hw1⟩:=ZpB ((w.alloc (.cells #[.slice p1 l1 c1,.slice p2 l2 c2] 112)).alloc (Zpx Zpv Zpv))
 rw[hw1]
 have HX1:Hid (Zv w.heap.size [.cells #[.slice p1 l1 c1,.slice p2 l2 c2] 112,Zpx Zpv Zpv] w1):=by rw[<- hw1];exact Zv.two w _ _
 have HB1:Zpt w w1:=by rw[<- hw1];exact((ZoL _ w).alloc ZpA _).alloc Zc _
 clear hw1
 refine(Zka (H1.out.after HB1.out ZpA) (H2.out.after HB1.out ZpA) hl1 hl2).mono ?_
 rintro e w2 ⟨vg,rfl,hG,hb2⟩
 obtain⟨pg,lg,cg,rfl⟩:=hG.form'
 rw[HG0.out] at hG
 have HG:=Zpz hG
 have HB2:=Zpz (HB1.out.trans (hb2.mono HB1.out.size))
 have HX2:=Zpz (HX1.out.below hb2 HX1.out.lt)
 clear hG hb2
 have c20:=HX2.out.cell 0 0 (b:=w.heap.size) rfl rfl rfl
 have c21:=HX2.out.cell 0 1 (b:=w.heap.size) rfl rfl rfl
 go_wp2_with fail
 refine(Zgf (H1.out.after HB2.out ZpA) HG.out hl1 hgl hg0).mono ?_
 rintro e w3 ⟨vn,vr,rfl,hN,_,hb3⟩
 obtain⟨pn,ln,cn,rfl⟩:=hN.form'
 have HN3:=Zpz hN
 have HG3:=Zpz (HG.out.after hb3 ZpA)
 have HB3:=Zpz (HB2.out.trans (hb3.mono HB2.out.size))
 have HX3:=Zpz (HX2.out.below hb3 HX2.out.lt)
 clear hN hb3 c20 c21
 have c31:=HX3.out.cell 0 1 (b:=w.heap.size) rfl rfl rfl
 go_wp2_with fail
 refine(Zgf (H2.out.after HB3.out ZpA) HG3.out hl2 hgl hg0).mono ?_
 rintro e w4 ⟨vd,vs,rfl,hD,_,hb4⟩
 obtain⟨pd,ld,cd,rfl⟩:=hD.form'
 have HD4:=Zpz hD
 have HN4:=Zpz (HN3.out.after hb4 ZpA)
 have HB4:=Zpz (HB3.out.trans (hb4.mono HB3.out.size))
 have HX4:=Zpz (HX3.out.below hb4 HX3.out.lt)
 clear hD hb4 c31
 have hln:(Zp 1000000000 (n/g)).length<=100000:=ZoU (ZN Za (Nat.div_le_self _ _)) hl1
 have hld:(Zp 1000000000 (d/g)).length<=100000:=ZoU (ZN Za (Nat.div_le_self _ _)) hl2
 go_wp2_with fail
 refine(Zgq HN4.out hln (HT.out.below HB4.out ZpA)).mono ?_
 rintro e w5 ⟨rfl,hb5⟩
 have HD5:=Zpz (HD4.out.after hb5 ZpA)
 have HN5:=Zpz (HN4.out.after hb5 ZpA)
 have HB5:=Zpz (HB4.out.trans (hb5.mono HB4.out.size))
 have HX5:=Zpz (HX4.out.below hb5 HX4.out.lt)
 clear hb5
 obtain⟨m1,hm1⟩:=ZpB ((Lib.decDigits (n/g)).length)
 obtain⟨m2,hm2⟩:=ZpB ((Lib.decDigits (d/g)).length)
 rw[hm1]
 have HM1:=Zpz hm1
 have HM2:=Zpz hm2
 clear hm1 hm2
 by_cases hc1:600<m1
 ·have e1:(600:Int)<(m1:Nat):=Za
  have r0:=HX5.out.cell 1 0 (b:=w.heap.size+1) rfl rfl rfl
  have r1:=HX5.out.cell 1 1 (b:=w.heap.size+1) rfl rfl rfl
  have f0:=HX5.out.free 1 0 (b:=w.heap.size+1) rfl rfl
  have f1:=HX5.out.free 1 1 (b:=w.heap.size+1) rfl rfl
  go_wp2
  have q:=Zu (HX5.out.block 1 (b:=w.heap.size+1) rfl rfl) (.string Zpv) (.string Zpv)
  have HBQ:=Zpz (Zs HB5.out (b:=w.heap.size+1) Za (.string Zpv) (.string Zpv))
  obtain⟨w9,hw9⟩:=ZpB ((w5.setCell ⟨w.heap.size+1,0,none⟩ (.string Zpv)).setCell ⟨w.heap.size+1,1,none⟩ (.string Zpv))
  rw[hw9] at q HBQ
  obtain⟨q0,q1⟩:=q
  rw[hw9]
  clear r0 r1 f0 f1 hw9
  go_wp2
  refine ZoM (v:=.tuple #[Zpw Zpv Zpv,.int .i64 4]) (by simp[results,Tryz.f101,go_sem,q0,q1]) rfl ⟨_,_,_,rfl,?_,HBQ.out⟩
  exact .inr ⟨fun hf=>by have:=hf.1;rw[HQ.out.1,HM1.out] at this;omega,rfl,rfl,rfl⟩
 ·have e1:¬ (600:Int)<(m1:Nat):=Za
  go_wp2_with fail
  refine(Zgq HD5.out hld (HT.out.below HB5.out ZpA)).mono ?_
  rintro e w6 ⟨rfl,hb6⟩
  have HD6:=Zpz (HD5.out.after hb6 ZpA)
  have HN6:=Zpz (HN5.out.after hb6 ZpA)
  have HB6:=Zpz (HB5.out.trans (hb6.mono HB5.out.size))
  have HX6:=Zpz (HX5.out.below hb6 HX5.out.lt)
  clear hb6
  rw[HM2.out]
  by_cases hc2:600<m2
  ·have e2:(600:Int)<(m2:Nat):=Za
   have r0:=HX6.out.cell 1 0 (b:=w.heap.size+1) rfl rfl rfl
   have r1:=HX6.out.cell 1 1 (b:=w.heap.size+1) rfl rfl rfl
   have f0:=HX6.out.free 1 0 (b:=w.heap.size+1) rfl rfl
   have f1:=HX6.out.free 1 1 (b:=w.heap.size+1) rfl rfl
   go_wp2
   have q:=Zu (HX6.out.block 1 (b:=w.heap.size+1) rfl rfl) (.string Zpv) (.string Zpv)
   have HBQ:=Zpz (Zs HB6.out (b:=w.heap.size+1) Za (.string Zpv) (.string Zpv))
   obtain⟨w9,hw9⟩:=ZpB ((w6.setCell ⟨w.heap.size+1,0,none⟩ (.string Zpv)).setCell ⟨w.heap.size+1,1,none⟩ (.string Zpv))
   rw[hw9] at q HBQ
   obtain⟨q0,q1⟩:=q
   rw[hw9]
   clear r0 r1 f0 f1 hw9
   go_wp2
   refine ZoM (v:=.tuple #[Zpw Zpv Zpv,.int .i64 4]) (by simp[results,Tryz.f101,go_sem,q0,q1]) rfl ⟨_,_,_,rfl,?_,HBQ.out⟩
   exact .inr ⟨fun hf=>by have:=hf.2;rw[HQ.out.2,HM2.out] at this;omega,rfl,rfl,rfl⟩
  ·have e2:¬ (600:Int)<(m2:Nat):=Za
   go_wp2_with fail
   refine(Zf9 HN6.out hln (HT.out.below HB6.out ZpA)).mono ?_
   rintro e w7 ⟨s,rfl,hs,hb7⟩
   have HS:=Zpz hs
   have HD7:=Zpz (HD6.out.after hb7 ZpA)
   have HB7:=Zpz (HB6.out.trans (hb7.mono HB6.out.size))
   have HX7:=Zpz (HX6.out.below hb7 HX6.out.lt)
   clear hb7 hs
   go_wp2_with fail
   refine(Zf9 HD7.out hld (HT.out.below HB7.out ZpA)).mono ?_
   rintro e w8 ⟨t,rfl,ht,hb8⟩
   have HT8:=Zpz ht
   have HB8:=Zpz (HB7.out.trans (hb8.mono HB7.out.size))
   have HX8:=Zpz (HX7.out.below hb8 HX7.out.lt)
   clear hb8 ht
   have r0:=HX8.out.cell 1 0 (b:=w.heap.size+1) rfl rfl rfl
   have r1:=HX8.out.cell 1 1 (b:=w.heap.size+1) rfl rfl rfl
   have f0:=HX8.out.free 1 0 (b:=w.heap.size+1) rfl rfl
   have f1:=HX8.out.free 1 1 (b:=w.heap.size+1) rfl rfl
   go_wp2
   have q:=Zu (HX8.out.block 1 (b:=w.heap.size+1) rfl rfl) (.string s) (.string t)
   have HBQ:=Zpz (Zs HB8.out (b:=w.heap.size+1) Za (.string s) (.string t))
   obtain⟨w9,hw9⟩:=ZpB ((w8.setCell ⟨w.heap.size+1,0,none⟩ (.string s)).setCell ⟨w.heap.size+1,1,none⟩ (.string t))
   rw[hw9] at q HBQ
   obtain⟨q0,q1⟩:=q
   rw[hw9]
   clear r0 r1 f0 f1 hw9
   go_wp2
   refine ZoM (v:=.tuple #[Zpw s t,.int .i64 0]) (by simp[results,Tryz.f101,go_sem,q0,q1]) rfl ⟨_,_,_,rfl,?_,HBQ.out⟩
   refine .inl ⟨⟨ZcF _ _,?_,?_,?_⟩,rfl⟩
   ·rw[HS.out,HQ.out.1]
   ·rw[HT8.out,HQ.out.2]
   ·unfold Fits
    rw[HQ.out.1,HQ.out.2,HM1.out,HM2.out]
    omega
theorem Zlx {n k j:Nat} (h:n<10 ^ k) (hj:k<=9*j):(Zp 1000000000 n).length<=j:=by
 refine Zac Za (ZoS h ?_)
 have e:(1000000000:Nat) ^ j=10 ^ (9*j):=by rw[Nat.pow_mul]
 rw[e]
 exact ZoW Za hj
theorem Zce {s:ByteArray} (hd:∀ c ∈ s.data.toList,ZG c=true) {j:Nat} (hj:s.size<=9*j):(Zp 1000000000 (Zq s.data.toList)).length<=j:=
 Zlx (Zb5 hd) (by rw[Zy];exact hj)
theorem Zja {s t:ByteArray} (h:ZU s.data.toList=false):okP s t=false:=by unfold okP;rw[h];rfl
theorem ZhP {s t:ByteArray} (h:ZU t.data.toList=false):okP s t=false:=by unfold okP;rw[h,Bool.and_false];rfl
theorem Zij {s t:ByteArray} (h:Zq t.data.toList=0):okP s t=false:=by unfold okP;rw[h];simp
theorem Zg7 {s t:ByteArray} (h:Nat.gcd (Zq s.data.toList) (Zq t.data.toList)≠1):okP s t=false:=by unfold okP;simp[h]
theorem Zki {s t:ByteArray} (h1:ZU s.data.toList=true) (h2:ZU t.data.toList=true) (h3:Zq t.data.toList≠0) (h4:Nat.gcd (Zq s.data.toList) (Zq t.data.toList)=1):okP s t=true:=
 Zc0.2 ⟨h1,h2,Za,h4⟩
def okE (s t:ByteArray):Int:=if okP s t then 0 else 2
theorem ZaM {s t:ByteArray} (h:okP s t=false):okE s t=2:=by unfold okE;rw[h];rfl
theorem Zbj {s t:ByteArray} (h:okP s t=true):okE s t=0:=by unfold okE;rw[h];rfl
theorem Zc2 {t:ByteArray} (h:ZU t.data.toList=true):t=⟨#[48]⟩<->Zq t.data.toList=0:=by
 constructor
 ·rintro rfl;rfl
 ·intro h0
  have h1:=(Zak h).1.text
  rw[h0,ZbD] at h1
  have h2:=Za1 t
  rw[<- h1] at h2
  exact h2.symm
theorem ZaU (s t:ByteArray) (w:World) (hs:s.size<=1000000) (ht:t.size<=1000000) :
  Calls Tryz.prog 66 #[Zpw s t] w (ZfH w (okE s t)):=by
 cases h1:ZU s.data.toList
 ·have HQ:=Zpz (Zja (t:=t) h1)
  have H1:=Zpz h1
  clear h1
  go_enter Tryz.func66,Tryz.ntmps66
  go_wp2_with fail
  refine(ZaE s _ hs).mono ?_
  rintro e w2 ⟨rfl,hb2⟩
  rw[H1.out]
  have HB2:=Zpz (((ZoL _ w).alloc ZpA (Zpx s t)).trans (hb2.mono Zc))
  clear hb2
  go_wp2
  go_ret
  exact⟨by rw[ZaM HQ.out];rfl,HB2.out⟩
 ·have H1:=Zpz h1
  clear h1
  cases h2:ZU t.data.toList
  ·have HQ:=Zpz (ZhP (s:=s) h2)
   have H2:=Zpz h2
   clear h2
   go_enter Tryz.func66,Tryz.ntmps66
   go_wp2_with fail
   refine(ZaE s _ hs).mono ?_
   rintro e w2 ⟨rfl,hb2⟩
   rw[H1.out]
   have HX2:=Zpz ((Zv.one w _).below hb2 Zc)
   have HB2:=Zpz (((ZoL _ w).alloc ZpA (Zpx s t)).trans (hb2.mono Zc))
   clear hb2
   have c1:=HX2.out.cell 0 1 (b:=w.heap.size) rfl rfl rfl
   go_wp2_with fail
   refine(ZaE t _ ht).mono ?_
   rintro e w3 ⟨rfl,hb3⟩
   rw[H2.out]
   have HB3:=Zpz (HB2.out.trans (hb3.mono HB2.out.size))
   clear hb3 c1
   go_wp2
   go_ret
   exact⟨by rw[ZaM HQ.out];rfl,HB3.out⟩
  ·have HZ:=Zpz (Zc2 h2)
   have H2:=Zpz h2
   clear h2
   go_enter Tryz.func66,Tryz.ntmps66
   go_wp2_with fail
   refine(ZaE s _ hs).mono ?_
   rintro e w2 ⟨rfl,hb2⟩
   rw[H1.out]
   have HX2:=Zpz ((Zv.one w _).below hb2 Zc)
   have HB2:=Zpz (((ZoL _ w).alloc ZpA (Zpx s t)).trans (hb2.mono Zc))
   clear hb2
   have c1:=HX2.out.cell 0 1 (b:=w.heap.size) rfl rfl rfl
   go_wp2_with fail
   refine(ZaE t _ ht).mono ?_
   rintro e w3 ⟨rfl,hb3⟩
   rw[H2.out]
   have HX3:=Zpz (HX2.out.below hb3 HX2.out.lt)
   have HB3:=Zpz (HB2.out.trans (hb3.mono HB2.out.size))
   clear hb3 c1
   have d0:=HX3.out.cell 0 0 (b:=w.heap.size) rfl rfl rfl
   have d1:=HX3.out.cell 0 1 (b:=w.heap.size) rfl rfl rfl
   have dl:t.toList=t.data.toList:=Zo8 ..
   by_cases h0:Zq t.data.toList=0
   ·have hz:(t.toList==[48])=true:=by
     rw[dl,HZ.out.2 h0];rfl
    have HQ:=Zpz (Zij (s:=s) h0)
    clear h0 dl
    go_wp2
    go_ret
    exact⟨by rw[ZaM HQ.out];rfl,HB3.out⟩
   ·have hz:(t.toList==[48])=false:=by
     rw[beq_eq_false_iff_ne,dl]
     intro hc
     refine h0 (HZ.out.1 ?_)
     rw[<- Za1 t,hc];rfl
    have H0:=Zpz h0
    clear h0 dl
    obtain⟨cs1,cs2⟩:=Zak H1.out
    obtain⟨ct1,ct2⟩:=Zak H2.out
    have hls:=Zce cs1.dig (j:=70) (by rw[<- Zy];omega)
    have hlt:=Zce ct1.dig (j:=70) (by rw[<- Zy];omega)
    have HDS:=Zpz cs1.dig
    have HDT:=Zpz ct1.dig
    clear cs1 cs2 ct1 ct2
    go_wp2_with fail
    refine(Zdg s t hs ht HDS.out HDT.out _).mono ?_
    rintro e w4 ⟨vn,vd,rfl,hN,hD,hb4⟩
    obtain⟨pn,ln,cn,rfl⟩:=hN.form'
    obtain⟨pd,ld,cd,rfl⟩:=hD.form'
    have HN:=Zpz hN
    have HD:=Zpz hD
    have HB4:=Zpz (HB3.out.trans (hb4.mono HB3.out.size))
    clear hN hD hb4 d0 d1
    go_wp2_with fail
    obtain⟨g,hg⟩:=ZpB (Nat.gcd (Zq s.data.toList) (Zq t.data.toList))
    have hal:=(ZoL w4.heap.size w4).alloc ZpA (.cells #[.slice pn ln cn,.slice pd ld cd] 112)
    have hgc:=Zka (HN.out.after hal ZpA) (HD.out.after hal ZpA) Za Za
    rw[hg] at hgc
    have HG:=Zpz hg
    refine hgc.mono ?_
    rintro e w5 ⟨vg,rfl,hG,hb5⟩
    obtain⟨pg,cg,hv,_,_,hp⟩:=id hG
    have HB5:=Zpz (HB4.out.trans ((hal.trans (hb5.mono Zc)).mono HB4.out.size))
    obtain⟨lg,hlg⟩:=ZpB ((Zp 1000000000 g).length)
    rw[hlg] at hv
    subst hv
    have HP:=Zpz hp
    have HLG:=Zpz hlg
    clear hgc hG hb5 hal hp hlg hg
    by_cases h1:lg=1
    ·have hb1:((lg:Int) !=1)=false:=by rw[bne_eq_false_iff_eq];omega
     have hx:∃ b off x,pg=some ⟨b,off,none⟩/\w5.cell? ⟨b,off,none⟩=some (.int .u64 (x:Nat))/\Zp 1000000000 g=[x]:=by
      have h2:=HLG.out
      rw[h1] at h2
      obtain⟨x,hx⟩:=List.length_eq_one_iff.1 h2
      obtain⟨b,off,rfl,_,ha⟩:=HP.out (by rw[hx];simp)
      have h3:=ha.getD (j:=0) (x:=x) (by rw[hx];simp) (by rw[hx];rfl)
      exact⟨b,off,x,rfl,h3,hx⟩
     obtain⟨b,off,x,rfl,hc,hx⟩:=hx
     have HXL:=Zpz hx
     have HV:Hid (x=g):=by
      show _=_
      have:=ZA (B:=1000000000) Za g
      rw[hx] at this
      simpa[val] using this
     subst h1
     clear hx
     by_cases h2:x=1
     ·have hb2:((x:Int) !=1)=false:=by rw[bne_eq_false_iff_eq];omega
      have HQ:Hid (okE s t=0):=Zbj (Zki H1.out H2.out H0.out (by rw[HG.out,<- HV.out];exact h2))
      clear h2
      go_wp2
      go_ret
      exact⟨by rw[HQ.out];rfl,HB5.out⟩
     ·have hb2:((x:Int) !=1)=true:=by rw[bne_iff_ne];omega
      have HQ:Hid (okE s t=2):=ZaM (Zg7 (by rw[HG.out,<- HV.out];exact h2))
      clear h2
      go_wp2
      go_ret
      exact⟨by rw[HQ.out];rfl,HB5.out⟩
    ·have hb1:((lg:Int) !=1)=true:=by rw[bne_iff_ne];omega
     have HQ:Hid (okE s t=2):=by
      refine ZaM (Zg7 ?_)
      rw[HG.out]
      intro hc
      refine h1 ?_
      rw[<- HLG.out,hc,Za2 Za Za,ZO];rfl
     clear h1
     go_wp2
     go_ret
     exact⟨by rw[HQ.out];rfl,HB5.out⟩
theorem ZmX {k:IntKind} {w:World} {b off:Nat} {xs:List Nat} (h:At k w b off xs):∀ j u,(xs.map fun x:Nat=>Value.int k (x:Nat))[j]?=some u->w.cell? ((⟨b,off,none⟩:Addr).add j)=some u:=by
 intro j u hu
 have hj:j<xs.length:=by
  have:=(Zo9.1 hu).1
  simpa using this
 rw[Addr.add_lit,h j hj,<- hu]
 simp[hj]
theorem Zje (k:IntKind) (xs:List Nat):∀ u ∈ xs.map (fun x:Nat=>Value.int k (x:Nat)),u.oneCell'=true:=by
 intro u hu
 obtain⟨x,_,rfl⟩:=List.mem_map.1 hu
 rfl
theorem Zlk (b off cap:Nat) (xs:List Nat) (w:World) (hne:0<xs.length) (hl:xs.length<=1000000) (hb:b<w.heap.size) (hc:At .u64 w b off xs) :
  Calls Tryz.prog 201 #[.slice (some ⟨b,off,none⟩) xs.length cap] w fun e w'=>
   ∃ g cap',e=.returned (.slice (some ⟨g,0,none⟩) xs.length cap')/\Row .u64 158 w' w.heap.size g cap' xs/\Below w.heap.size w w':=by
 obtain⟨i0,hi,hz0,hz1,hz2⟩:=info_parts Zcx
 have heq:=fun(w:World)=>Lib.run_eql_slice_nil (P:=Tryz.prog) w 110 158 (some ⟨b,off,none⟩) xs.length cap 0 0 Tryz.underlying110
 have HC:=Zpz hc
 clear hc
 go_enter Tryz.func201,Tryz.ntmps201
 go_wp2_with (at_builtin;refine wpList_append_lies _ rfl (.tmp 5) (.tmp 6) 110 rfl w.heap.size 158 i0 (.int .u64 0) 1 8 Tryz.underlying110 hi hz0 hz1 hz2 rfl Zd _ 0 [] rfl (World.ownsRow_lit w #[] 0 ZpA (by simp[maxLen]) rfl) ⟨b,off,none⟩ xs.length cap _ rfl Zc (ZmX (HC.out.below ((ZoL w.heap.size w).alloc ZpA _) hb)) (Zje _ _) hne (by unfold maxLen;omega) Za Zc (w.heap.size+1) Zc ?_;intro g cap' w1 hown1 hgrow1 hat1 hlt1)
 have h0:0+xs.length=xs.length:=Za
 rw[h0] at hown1
 have HR:=Zpz hown1
 have HB:=Zpz (((ZoL w.heap.size w).alloc ZpA (.cells #[] 158)).grown hgrow1 Zc (fun k h=>by cases h;exact Nat.le_refl _))
 clear hown1 hgrow1 hat1
 go_wp2
 go_ret
 exact⟨g,cap',rfl,by have:=HR.out;simpa[Row] using this,HB.out⟩
theorem ZjB (p:Option Addr) (cap:Nat) (w:World) :
  Calls Tryz.prog 201 #[.slice p 0 cap] w fun e w'=>
   ∃ q,e=.returned (.slice q 0 0)/\Below w.heap.size w w':=by
 obtain⟨i0,hi,hz0,hz1,hz2⟩:=info_parts Zcx
 rcases p with _ | ad
 ·have heq:=fun(w:World)=>Lib.run_eql_slice_nil (P:=Tryz.prog) w 110 158 none 0 cap 0 0 Tryz.underlying110
  go_enter Tryz.func201,Tryz.ntmps201
  go_wp2
  go_ret
  exact⟨_,rfl,ZoL _ _⟩
 ·have heq:=fun(w:World)=>Lib.run_eql_slice_nil (P:=Tryz.prog) w 110 158 (some ad) 0 cap 0 0 Tryz.underlying110
  go_enter Tryz.func201,Tryz.ntmps201
  go_wp2_with (at_builtin;refine wpList_append_fits _ rfl (.tmp 5) (.tmp 6) 110 rfl w.heap.size 158 i0 1 Tryz.underlying110 hi hz1 w.heap.size 0 0 [] rfl (World.ownsRow_lit w #[] 0 ZpA (by simp[maxLen]) rfl) ad 0 cap [] rfl Zc Zc Zc Za ?_;intro w1 hown1 hgrow1)
  have HB:=Zpz (((ZoL w.heap.size w).alloc ZpA (.cells #[] 158)).grown hgrow1 Zc (fun k h=>by cases h;exact Nat.le_refl _))
  clear hown1 hgrow1
  go_wp2
  go_ret
  exact⟨_,rfl,HB.out⟩
theorem ZlS {v1 v2:Value} {n m:Nat} {w:World} (h1:Num w v1 n) (h2:Num w v2 m) (hmn:m<=n) (hl1:(Zp 1000000000 n).length<=1000000) :
  Calls Tryz.prog 155 #[v1,v2] w fun e w'=>∃ v,e=.returned v/\Num w' v (n-m)/\Below w.heap.size w w':=by
 have hlm:=ZN (B:=1000000000) Za hmn
 obtain⟨p1,c1,rfl,hc1,hc1m,hp1⟩:=h1
 obtain⟨p2,c2,rfl,_,_,hp2⟩:=h2
 obtain⟨xs,hxs⟩:=ZpB (Zp 1000000000 n)
 obtain⟨ys,hys⟩:=ZpB (Zp 1000000000 m)
 rw[hxs] at hl1 hp1 hc1 hlm ⊢
 rw[hys] at hp2 hlm ⊢
 have HX:Hid (∀ x ∈ xs,x<1000000000):=by rw[<- hxs];exact ZJ Za n
 have HY:Hid (∀ x ∈ ys,x<1000000000):=by rw[<- hys];exact ZJ Za m
 have HV:Hid (val 1000000000 xs=n/\val 1000000000 ys=m):=by rw[<- hxs,<- hys];exact⟨ZA Za n,ZA Za m⟩
 have HP2:=Zpz hp2
 clear hxs hys hp2
 rcases Zo0 xs.length with h0 | h0
 ·have hn:n=0:=by rw[<- HV.out.1,ZoX h0];rfl
  have hy0:ys.length=0:=Za
  rw[h0] at hc1 ⊢
  go_enter Tryz.func155,Tryz.ntmps155
  go_wp2_with fail
  refine(ZjB p1 c1 w).mono ?_
  rintro e w0 ⟨q,rfl,HB0⟩
  have HB0:=Zpz HB0
  go_wp2_with fail
  go_loopw [6,13] (fun bb i wr=>i=.int .i64 0/\Zpt w wr) (fun _ i _=>(intOf i).toNat)
  case atStart=>exact⟨rfl,HB0⟩
  case round=>
   obtain⟨rfl,HB⟩:=hrel
   go_wp2_with fail
   refine(Zdv q 0 [] _ Zc (by simp[maxLen]) Zc Zc).mono ?_
   rintro e w' ⟨rfl,rfl⟩
   go_wp2
   go_ret
   refine⟨_,rfl,?_,HB.out⟩
   subst hn
   have e0:Zp 1000000000 (0-m)=[]:=by rw[Nat.zero_sub,ZO]
   unfold Num
   rw[e0]
   exact⟨q,0,by simp[val,ZO],Zc,by simp[maxLen],Zc⟩
 ·obtain⟨b1,off1,rfl,hb1,ha1⟩:=hp1 (ZoT h0)
  go_enter Tryz.func155,Tryz.ntmps155
  go_wp2_with fail
  refine(Zlk b1 off1 c1 xs w h0 hl1 hb1 ha1).mono ?_
  rintro e w0 ⟨g,cap,rfl,HR0,HB0⟩
  have HG:Hid (w.heap.size<=g):=HR0.lt.1
  have HR0:=Zpz HR0
  have HB0:=Zpz HB0
  go_wp2
  go_loopw [6,13] (fun bb i wr=>∃ (k:Nat) (os:List Nat) (b:Nat),k<=xs.length/\i=.int .i64 k/\bb=.int .u64 b/\
    Hid (MinusInv 1000000000 xs ys k os b)/\Hid (Row .u64 158 wr w.heap.size g cap (([]:List Nat)++(os++xs.drop k)++[]))/\Zpt w wr) (fun _ i _=>xs.length-(intOf i).toNat)
  case atStart=>exact⟨0,[],0,ZoY _,rfl,rfl,MinusInv.start _ _ _,by simpa using HR0,HB0⟩
  case round=>
   obtain⟨k,os,bw,hk,rfl,rfl,HI,HR,HB⟩:=hrel
   have hbw:=HI.out.borrow
   by_cases hlt:k<xs.length
   ·obtain⟨p,hp⟩:=ZpB (xs.getD k 0)
    have hpl:p<1000000000:=by rw[<- hp];exact ZM Za HX.out k
    have hd:xs.drop k=p::xs.drop (k+1):=by rw[List.drop_eq_getElem_cons hlt];subst hp;simp[List.getD,hlt]
    have HR1:Hid (Row .u64 158 wr w.heap.size g cap (([]:List Nat)++(os++p::xs.drop (k+1))++[])):=by have:=HR.out;rw[hd] at this;exact this
    have hidx:k=([]:List Nat).length+os.length:=by rw[HI.out.len];simp
    have cp:wr.cell? ⟨g,k,none⟩=some (.int .u64 (p:Nat)):=HR1.out.cell (by rw[hidx];exact Zg8 _ _ _ _ _) (Zgj _ _ _ _ _ _ hidx)
    have fp:wr.frozen? ⟨g,k,none⟩=false:=HR1.out.frozen _
    have HIX:=Zpz hidx
    have Hp:=Zpz hp
    clear hp hd hidx HR
    by_cases hlt2:k<ys.length
    ·obtain⟨b2,off2,rfl,hb2,ha2⟩:=HP2.out (ZoT Za)
     obtain⟨y,hy⟩:=ZpB (ys.getD k 0)
     have hyl:y<1000000000:=by rw[<- hy];exact ZM Za HY.out k
     have cy:wr.cell? ⟨b2,off2+k,none⟩=some (.int .u64 (y:Nat)):=(HB.out.cell (p:=⟨b2,off2+k,none⟩) hb2).trans (ha2.getD hlt2 hy)
     have Hy:=Zpz hy
     clear hy ha2
     by_cases hlt3:p<bw+y
     ·have hlt3':(p:Int)<(bw:Int)+y:=Za
      have E1:Hid ((p:Int)+1000000000-((bw:Int)+y)=(p+1000000000-(bw+y):Nat)):=by show _=_;omega
      have HS:=HI.out.step_borrow Za HY.out (less:=bw+y) (by have h:=Hy.out;omega) (by rw[Hp.out];exact hlt3)
      rw[Hp.out] at HS
      have HS:=Zpz HS
      clear hlt3
      go_wp2
      go_roundw
      case rel=>exact⟨k+1,_,1,Za,by go_num,rfl,HS,ZeQ HR1.out HIX.out (n:=p+1000000000) Za E1.out,(HB.out.setCell HG.out _).setCell HG.out _⟩
      case measure=>exact Zj
     ·have hlt3':¬ (p:Int)<(bw:Int)+y:=Za
      have E1:Hid ((p:Int)-((bw:Int)+y)=(p-(bw+y):Nat)):=by show _=_;omega
      have HS:=HI.out.step_plain HX.out Za (less:=bw+y) (by have h:=Hy.out;omega) (by rw[Hp.out];omega)
      rw[Hp.out] at HS
      have HS:=Zpz HS
      clear hlt3
      go_wp2
      go_roundw
      case rel=>exact⟨k+1,_,0,Za,by go_num,rfl,HS,Zb1 HR1.out HIX.out E1.out,HB.out.setCell HG.out _⟩
      case measure=>exact Zj
    ·have Hy:Hid (ys.getD k 0=0):=by show _=_;simp[List.getD,hlt2]
     by_cases hlt3:p<bw
     ·have hlt3':(p:Int)<(bw:Int):=Za
      have E1:Hid ((p:Int)+1000000000-((bw:Int))=(p+1000000000-(bw):Nat)):=by show _=_;omega
      have HS:=HI.out.step_borrow Za HY.out (less:=bw) (by have h:=Hy.out;omega) (by rw[Hp.out];exact hlt3)
      rw[Hp.out] at HS
      have HS:=Zpz HS
      clear hlt3
      go_wp2
      go_roundw
      case rel=>exact⟨k+1,_,1,Za,by go_num,rfl,HS,ZeQ HR1.out HIX.out (n:=p+1000000000) Za E1.out,(HB.out.setCell HG.out _).setCell HG.out _⟩
      case measure=>exact Zj
     ·have hlt3':¬ (p:Int)<(bw:Int):=Za
      have E1:Hid ((p:Int)-((bw:Int))=(p-(bw):Nat)):=by show _=_;omega
      have HS:=HI.out.step_plain HX.out Za (less:=bw) (by have h:=Hy.out;omega) (by rw[Hp.out];omega)
      rw[Hp.out] at HS
      have HS:=Zpz HS
      clear hlt3
      go_wp2
      go_roundw
      case rel=>exact⟨k+1,_,0,Za,by go_num,rfl,HS,Zb1 HR1.out HIX.out E1.out,HB.out.setCell HG.out _⟩
      case measure=>exact Zj
   ·obtain rfl:k=xs.length:=Za
    have HR2:Hid (Row .u64 158 wr w.heap.size g cap os):=by have:=HR.out;show Row _ _ _ _ _ _ _;simpa using this
    have HL:Hid (∀ z ∈ os,z<1000000000):=HI.out.lt
    have HD:Hid (val 1000000000 os=n-m):=by show _=_;rw[HI.out.done hlm (by rw[HV.out.1,HV.out.2];exact hmn),HV.out.1,HV.out.2]
    go_wp2_with fail
    refine(Zcz HR2.out HL.out _ HI.out.len.symm _ HD.out).mono ?_
    rintro e w' ⟨rfl,rfl,hr2⟩
    have HR3:=Zpz hr2
    clear hr2
    go_wp2
    go_ret
    exact⟨_,rfl,HR3.out.nums,HB.out⟩
theorem Zaw {v1 v2:Value} {n m:Nat} {w:World} (h1:Num w v1 n) (h2:Num w v2 m) (l1:(Zp 1000000000 n).length<=1000) (l2:(Zp 1000000000 m).length<=1000) :
  Calls Tryz.prog 68 #[v1,v2] w (Zet w (n*m)):=by
 refine(Zfa h1 h2 Za Za).mono ?_
 rintro e w' ⟨v,rfl,h,hb⟩
 exact⟨v,rfl,h.num,hb⟩
theorem Znf {v1 v2:Value} {n m:Nat} {w:World} (h1:Num w v1 n) (h2:Num w v2 m) (l1:(Zp 1000000000 n).length<=100000) (l2:(Zp 1000000000 m).length<=100000) :
  Calls Tryz.prog 100 #[v1,v2] w (Zet w (n+m)):=by
 refine(Zm1 h1 h2 Za Za).mono ?_
 rintro e w' ⟨v,rfl,h,hb⟩
 exact⟨v,rfl,h.num,hb⟩
theorem ZmJ {v1 v2:Value} {n m:Nat} {w:World} (h1:Num w v1 n) (h2:Num w v2 m) (hmn:m<=n) (l1:(Zp 1000000000 n).length<=100000) :
  Calls Tryz.prog 155 #[v1,v2] w (Zet w (n-m)):=ZlS h1 h2 hmn Za
theorem Zgh {n m k l:Nat} (h1:(Zp 1000000000 n).length<=k) (h2:(Zp 1000000000 m).length<=l):(Zp 1000000000 (n*m)).length<=k+l:=by
 refine Zac Za ?_
 have a1:=Z8 (ZJ (B:=1000000000) Za n)
 have a2:=Z8 (ZJ (B:=1000000000) Za m)
 rw[ZA Za] at a1 a2
 rw[Nat.pow_add]
 refine Nat.mul_lt_mul'' (ZoS a1 (ZoW Za h1)) (ZoS a2 (ZoW Za h2))
theorem ZbW {n m:Nat} (h1:(Zp 1000000000 n).length<=1000) (h2:(Zp 1000000000 m).length<=1000):(Zp 1000000000 (n*m)).length<=100000:=ZoU (Zgh h1 h2) Za
theorem ZmR {v1 v2 v3 v4:Value} {n1 d1 n2 d2:Nat} {w:World} (h1:Num w v1 n1) (h2:Num w v2 d1) (h3:Num w v3 n2) (h4:Num w v4 d2)
  (l1:(Zp 1000000000 n1).length<=1000) (l2:(Zp 1000000000 d1).length<=1000) (l3:(Zp 1000000000 n2).length<=1000) (l4:(Zp 1000000000 d2).length<=1000) (hd1:0<d1) (hd2:0<d2) (hT:Tabs w) :
  Calls Tryz.prog 167 #[.agg #[v1,v2],.agg #[v3,v4]] w (ZL (Ans (mkRat ((n1*n2:Nat):Int) (d1*d2))) w):=by
 obtain⟨p1,m1,c1,rfl⟩:=h1.form'
 obtain⟨p2,m2,c2,rfl⟩:=h2.form'
 obtain⟨p3,m3,c3,rfl⟩:=h3.form'
 obtain⟨p4,m4,c4,rfl⟩:=h4.form'
 have H1:=Zpz h1
 have H2:=Zpz h2
 have H3:=Zpz h3
 have H4:=Zpz h4
 have HT:=Zpz hT
 clear h1 h2 h3 h4 hT
 have HL1:Hid ((Zp 1000000000 (n1*n2)).length<=100000):=ZbW l1 l3
 have HL2:Hid ((Zp 1000000000 (d1*d2)).length<=100000):=ZbW l2 l4
 have HD:Hid (0<d1*d2):=Nat.mul_pos hd1 hd2
 go_enter Tryz.func167,Tryz.ntmps167
 go_wp2_with fail
 obtain⟨w1,hw1⟩:=ZpB (((w.alloc (.cells #[.slice p1 m1 c1,.slice p2 m2 c2] 112)).alloc (.cells #[.slice p3 m3 c3,.slice p4 m4 c4] 112)).alloc (Zpx Zpv Zpv))
 rw[hw1]
 have HX1:Hid (Zv w.heap.size [.cells #[.slice p1 m1 c1,.slice p2 m2 c2] 112,.cells #[.slice p3 m3 c3,.slice p4 m4 c4] 112,Zpx Zpv Zpv] w1):=by rw[<- hw1];exact Zv.three w _ _ _
 have HB1:Zpt w w1:=by rw[<- hw1];exact(((ZoL _ w).alloc ZpA _).alloc Zc _).alloc (by simp<;>omega) _
 clear hw1
 have k1:=HX1.out.f4
 obtain⟨ka1,kb1,kc1,kd1⟩:=id k1
 go_region_held3
  (fun w'=>w'.cell? ⟨w.heap.size,0,none⟩=some (.slice p1 m1 c1)/\w'.cell? ⟨w.heap.size,1,none⟩=some (.slice p2 m2 c2)/\w'.cell? ⟨w.heap.size+1,0,none⟩=some (.slice p3 m3 c3)/\w'.cell? ⟨w.heap.size+1,1,none⟩=some (.slice p4 m4 c4))
  (first | exact k1 | exact k2 | exact k3 | exact k4 | exact k5 | exact k6 | exact ZaW Za Za k9 _ _ | exact k9)
  (first
   | (go_at_call_of 68 (Value.slice p1 m1 c1);refine(Zaw (H1.out.after HB1.out.drew ZpA) (H3.out.after HB1.out.drew ZpA) l1 l3).mono ?_;rintro e w4 ⟨va,rfl,hv,hb⟩;obtain⟨pa,ma,ca,rfl⟩:=hv.form';have HA:=Zpz hv;have HX4:=Zpz (HX1.out.drew.below hb HX1.out.lt);have HB4:Zpt w w4:=HB1.out.drew.trans (hb.mono HB1.out.drew.size);have k4:=HX4.out.f4;clear hv hb)
   | (go_at_call_of 68 (Value.slice p2 m2 c2);refine(Zaw (H2.out.after HB4.out ZpA) (H4.out.after HB4.out ZpA) l2 l4).mono ?_;rintro e w5 ⟨vb,rfl,hv,hb⟩;obtain⟨pb,mb,cb,rfl⟩:=hv.form';have HC:=Zpz hv;have HA5:=Zpz (HA.out.after hb ZpA);have HX5:=Zpz (HX4.out.below hb HX4.out.lt);have HB5:Zpt w w5:=HB4.out.trans (hb.mono HB4.out.size);have k5:=HX5.out.f4;clear hv hb)
   | (go_at_call 101;refine(ZdE HA5.out HC.out HL1.out HL2.out HD.out (HT.out.below HB5.out ZpA)).mono ?_;rintro e w9 ⟨x,y,n,rfl,hR,hb9⟩;have HR:=Zpz hR;have HX9:=Zpz (HX5.out.below hb9 HX5.out.lt);have HB9:Zpt w w9:=HB5.out.trans (hb9.mono HB5.out.size);have k9:=HX9.out.f4;have r0:=HX9.out.cell 2 0 (b:=w.heap.size+1+1) rfl rfl rfl;have r1:=HX9.out.cell 2 1 (b:=w.heap.size+1+1) rfl rfl rfl;have f0:=HX9.out.free 2 0 (b:=w.heap.size+1+1) rfl rfl;have f1:=HX9.out.free 2 1 (b:=w.heap.size+1+1) rfl rfl;clear hR hb9)
  )
 all_goals
  have q:=Zu (HX9.out.block 2 (b:=w.heap.size+1+1) rfl rfl) (.string x) (.string y)
  have HBQ:=Zpz (Zs HB9.out (b:=w.heap.size+1+1) Za (.string x) (.string y))
  obtain⟨wz,hwz⟩:=ZpB ((w9.setCell ⟨w.heap.size+1+1,0,none⟩ (.string x)).setCell ⟨w.heap.size+1+1,1,none⟩ (.string y))
  rw[hwz] at q HBQ
  obtain⟨q0,q1⟩:=q
  rw[hwz]
  clear r0 r1 f0 f1 hwz
  go_wp2
  refine ZoM (v:=.tuple #[Zpw x y,.int .i64 n]) (by simp[results,Tryz.f167,go_sem,q0,q1]) rfl ⟨_,_,_,rfl,HR.out,HBQ.out⟩
theorem ZmD {v1 v2 v3 v4:Value} {n1 d1 n2 d2:Nat} {w:World} (h1:Num w v1 n1) (h2:Num w v2 d1) (h3:Num w v3 n2) (h4:Num w v4 d2)
  (l1:(Zp 1000000000 n1).length<=1000) (l2:(Zp 1000000000 d1).length<=1000) (l3:(Zp 1000000000 n2).length<=1000) (l4:(Zp 1000000000 d2).length<=1000) (hd1:0<d1) (hd2:0<d2) (hT:Tabs w) (h0:n2=0) :
  Calls Tryz.prog 205 #[.agg #[v1,v2],.agg #[v3,v4]] w (ZL (fun s t e=>s=str []/\t=str []/\e=10) w):=by
 subst h0
 obtain⟨p3,c3,rfl,_,_,_⟩:=h3
 obtain⟨p1,m1,c1,rfl⟩:=h1.form'
 obtain⟨p2,m2,c2,rfl⟩:=h2.form'
 obtain⟨p4,m4,c4,rfl⟩:=h4.form'
 rw[ZO,List.length_nil]
 obtain⟨m3,hm3⟩:=ZpB 0
 have hm:((m3:Nat):Int)==0:=by simp;omega
 clear h1 h2 h4
 rw[hm3]
 have HM3:=Zpz hm3
 clear hm3
 go_enter Tryz.func205,Tryz.ntmps205
 go_wp2_with fail
 obtain⟨w1,hw1⟩:=ZpB (((w.alloc (.cells #[.slice p1 m1 c1,.slice p2 m2 c2] 112)).alloc (.cells #[.slice p3 m3 c3,.slice p4 m4 c4] 112)).alloc (Zpx Zpv Zpv))
 rw[hw1]
 have HX1:Hid (Zv w.heap.size [.cells #[.slice p1 m1 c1,.slice p2 m2 c2] 112,.cells #[.slice p3 m3 c3,.slice p4 m4 c4] 112,Zpx Zpv Zpv] w1):=by rw[<- hw1];exact Zv.three w _ _ _
 have HB1:Zpt w w1:=by rw[<- hw1];exact(((ZoL _ w).alloc ZpA _).alloc Zc _).alloc (by simp<;>omega) _
 clear hw1
 have r0:=HX1.out.cell 2 0 (b:=w.heap.size+1+1) rfl rfl rfl
 have r1:=HX1.out.cell 2 1 (b:=w.heap.size+1+1) rfl rfl rfl
 refine ZoM (v:=.tuple #[Zpw Zpv Zpv,.int .i64 10]) (by simp[results,Tryz.f205,go_sem,r0,r1]) rfl ⟨_,_,_,rfl,?_,HB1.out⟩
 exact⟨rfl,rfl,rfl⟩
theorem Zno {v1 v2 v3 v4:Value} {n1 d1 n2 d2:Nat} {w:World} (h1:Num w v1 n1) (h2:Num w v2 d1) (h3:Num w v3 n2) (h4:Num w v4 d2)
  (l1:(Zp 1000000000 n1).length<=1000) (l2:(Zp 1000000000 d1).length<=1000) (l3:(Zp 1000000000 n2).length<=1000) (l4:(Zp 1000000000 d2).length<=1000) (hd1:0<d1) (hd2:0<d2) (hT:Tabs w) (h0:0<n2) :
  Calls Tryz.prog 205 #[.agg #[v1,v2],.agg #[v3,v4]] w (ZL (Ans (mkRat ((n1*d2:Nat):Int) (d1*n2))) w):=by
 obtain⟨m0,hm0⟩:=ZpB ((Zp 1000000000 n2).length)
 have hmp:=(ZaN (B:=1000000000) Za).2 h0
 obtain⟨p3,c3,rfl⟩:=h3.form
 rw[hm0] at h3 hmp l3 ⊢
 obtain⟨m3,rfl⟩:=ZpB m0
 have hz:(((m0:Nat):Int)==0)=false:=by rw[beq_eq_false_iff_ne];omega
 have L3:Hid ((Zp 1000000000 n2).length<=1000):=by show _<=_;rw[hm0];exact l3
 clear hm0
 obtain⟨p1,m1,c1,rfl⟩:=h1.form'
 obtain⟨p2,m2,c2,rfl⟩:=h2.form'
 obtain⟨p4,m4,c4,rfl⟩:=h4.form'
 have H1:=Zpz h1
 have H2:=Zpz h2
 have H3:=Zpz h3
 have H4:=Zpz h4
 have HT:=Zpz hT
 clear h1 h2 h3 h4 hT
 obtain⟨m3,hm3⟩:=ZpB m0
 subst hm3
 have HL1:Hid ((Zp 1000000000 (n1*d2)).length<=100000):=ZbW l1 l4
 have HL2:Hid ((Zp 1000000000 (d1*n2)).length<=100000):=ZbW l2 L3.out
 have HD:Hid (0<d1*n2):=Nat.mul_pos hd1 h0
 go_enter Tryz.func205,Tryz.ntmps205
 go_wp2_with fail
 obtain⟨w1,hw1⟩:=ZpB (((w.alloc (.cells #[.slice p1 m1 c1,.slice p2 m2 c2] 112)).alloc (.cells #[.slice p3 m0 c3,.slice p4 m4 c4] 112)).alloc (Zpx Zpv Zpv))
 rw[hw1]
 have HX1:Hid (Zv w.heap.size [.cells #[.slice p1 m1 c1,.slice p2 m2 c2] 112,.cells #[.slice p3 m0 c3,.slice p4 m4 c4] 112,Zpx Zpv Zpv] w1):=by rw[<- hw1];exact Zv.three w _ _ _
 have HB1:Zpt w w1:=by rw[<- hw1];exact(((ZoL _ w).alloc ZpA _).alloc Zc _).alloc (by simp<;>omega) _
 clear hw1
 have k1:=HX1.out.f4
 obtain⟨ka1,kb1,kc1,kd1⟩:=id k1
 go_wp2_with fail
 go_region_held3
  (fun w'=>w'.cell? ⟨w.heap.size,0,none⟩=some (.slice p1 m1 c1)/\w'.cell? ⟨w.heap.size,1,none⟩=some (.slice p2 m2 c2)/\w'.cell? ⟨w.heap.size+1,0,none⟩=some (.slice p3 m0 c3)/\w'.cell? ⟨w.heap.size+1,1,none⟩=some (.slice p4 m4 c4))
  (first | exact k1 | exact k2 | exact k3 | exact k4 | exact k5 | exact k6 | exact ZaW Za Za k9 _ _ | exact k9)
  (first
   | (go_at_call_of 68 (Value.slice p1 m1 c1);refine(Zaw (H1.out.after HB1.out.drew ZpA) (H4.out.after HB1.out.drew ZpA) l1 l4).mono ?_;rintro e w4 ⟨va,rfl,hv,hb⟩;obtain⟨pa,ma,ca,rfl⟩:=hv.form';have HA:=Zpz hv;have HX4:=Zpz (HX1.out.drew.below hb HX1.out.lt);have HB4:Zpt w w4:=HB1.out.drew.trans (hb.mono HB1.out.drew.size);have k4:=HX4.out.f4;clear hv hb)
   | (go_at_call_of 68 (Value.slice p2 m2 c2);refine(Zaw (H2.out.after HB4.out ZpA) (H3.out.after HB4.out ZpA) l2 L3.out).mono ?_;rintro e w5 ⟨vb,rfl,hv,hb⟩;obtain⟨pb,mb,cb,rfl⟩:=hv.form';have HC:=Zpz hv;have HA5:=Zpz (HA.out.after hb ZpA);have HX5:=Zpz (HX4.out.below hb HX4.out.lt);have HB5:Zpt w w5:=HB4.out.trans (hb.mono HB4.out.size);have k5:=HX5.out.f4;clear hv hb)
   | (go_at_call 101;refine(ZdE HA5.out HC.out HL1.out HL2.out HD.out (HT.out.below HB5.out ZpA)).mono ?_;rintro e w9 ⟨x,y,n,rfl,hR,hb9⟩;have HR:=Zpz hR;have HX9:=Zpz (HX5.out.below hb9 HX5.out.lt);have HB9:Zpt w w9:=HB5.out.trans (hb9.mono HB5.out.size);have k9:=HX9.out.f4;have r0:=HX9.out.cell 2 0 (b:=w.heap.size+1+1) rfl rfl rfl;have r1:=HX9.out.cell 2 1 (b:=w.heap.size+1+1) rfl rfl rfl;have f0:=HX9.out.free 2 0 (b:=w.heap.size+1+1) rfl rfl;have f1:=HX9.out.free 2 1 (b:=w.heap.size+1+1) rfl rfl;clear hR hb9)
  )
 all_goals
  have q:=Zu (HX9.out.block 2 (b:=w.heap.size+1+1) rfl rfl) (.string x) (.string y)
  have HBQ:=Zpz (Zs HB9.out (b:=w.heap.size+1+1) Za (.string x) (.string y))
  obtain⟨wz,hwz⟩:=ZpB ((w9.setCell ⟨w.heap.size+1+1,0,none⟩ (.string x)).setCell ⟨w.heap.size+1+1,1,none⟩ (.string y))
  rw[hwz] at q HBQ
  obtain⟨q0,q1⟩:=q
  rw[hwz]
  clear r0 r1 f0 f1 hwz
  go_wp2
  refine ZoM (v:=.tuple #[Zpw x y,.int .i64 n]) (by simp[results,Tryz.f205,go_sem,q0,q1]) rfl ⟨_,_,_,rfl,HR.out,HBQ.out⟩
end Go.Proofs.YtmpaflidennnoaaGreatDoor
