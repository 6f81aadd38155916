/- The parts Shown, Tabs, Frac, Right, Texts, Of, Taken. -/
import Derived.Test.YtjmckebecpjjfaaGreatDoorH05
import Derived.Shelf.Strings.SlTrimAscii
import Derived.Deep.RegionHeld3
import Derived.RegionTactic
set_option maxRecDepth 100000
set_option maxHeartbeats 4000000
set_option linter.unusedVariables false
set_option linter.unusedSimpArgs false
namespace Go.Proofs.YtjmckebecpjjfaaGreatDoor
open Go.RowKit Go.Shelf
attribute [local go_sem] Oper.semAt_some
theorem ZhG {B b:Nat} {S:Nat->Prop} {W W':World} (hB:Below B W W') (hO:Lib.OthersKept 5 (some b) W W')
  (hS:∀ i,S i->i<B\/(i≠b/\∃ o,W.heap[i]?=some o/\∀ c fz,o≠.cells c 5 fz)):Keeps S W W':=
 ⟨hB.os,hB.tape,hB.output,hB.size,fun i _ hs=>by
  rcases hS i hs with h | ⟨h1,o,h2,h3⟩
  ·exact hB.block i h
  ·rw[h2];exact hO i o h2 (fun e=>h1 (ZpZ e)) h3⟩
structure Beside (bx:Nat) (o:Array Value) (T:TypeId) (W:World):Prop where
 box:W.heap[bx]?=some (.cells o T)
 d:∃ x,W.heap[bx+1]?=some (.deferred x)
 d1:∃ x,W.heap[bx+2]?=some (.loop x)
theorem Beside.keeps {S:Nat->Prop} {bx:Nat} {o:Array Value} {T:TypeId} {W W':World} (h:Beside bx o T W) (hk:Keeps S W W') (h0:S bx) (h1:S (bx+1)) (h2:S (bx+2)):Beside bx o T W':=by
 obtain⟨a,⟨x,b⟩,⟨y,c⟩⟩:=h
 exact⟨(hk.block _ (ZqC a) h0).trans a,⟨x,(hk.block _ (ZqC b) h1).trans b⟩,⟨y,(hk.block _ (ZqC c) h2).trans c⟩⟩
theorem Beside.written {B b bx:Nat} {o:Array Value} {T:TypeId} {l:List UInt8} {W W':World} (h:Beside bx o T W) (hT:T≠5) (hbx:b<bx) (hB:Below B W W') (hO:Lib.OthersKept 5 (some b) W W')
  (hl:Lib.BuilderAtF 221 5 B b (.pointer (some ⟨b,0,none⟩)) (Lib.byteCells l) W') :
  Beside bx o T W'/\Keeps (fun i=>i<B\/i=bx\/i=bx+1\/i=bx+2) W W'/\ZbU B b (bx+1) l W':=by
 have hk:Keeps (fun i=>i<B\/i=bx\/i=bx+1\/i=bx+2) W W':=by
  refine ZhG hB hO fun i hi=>?_
  obtain⟨x,hx⟩:=h.d
  obtain⟨y,hy⟩:=h.d1
  rcases hi with hi | rfl | rfl | rfl
  ·exact .inl hi
  ·exact .inr ⟨Za,_,h.box,fun c fz e=>by injection e with _ e;exact hT e⟩
  ·exact .inr ⟨Za,_,hx,fun c fz e=>by cases e⟩
  ·exact .inr ⟨Za,_,hy,fun c fz e=>by cases e⟩
 have h2:=h.keeps hk (.inr (.inl rfl)) (.inr (.inr (.inl rfl))) (.inr (.inr (.inr rfl)))
 refine⟨h2,hk,ZbU.of hl ?_ ?_⟩
 ·intro c T fz e;obtain⟨x,hx⟩:=h2.d;rw[hx] at e;cases e
 ·intro c T fz e;obtain⟨x,hx⟩:=h2.d1;rw[show bx+1+1=bx+2 by omega,hx] at e;cases e
theorem Zky {xs:List Nat} (hx:∀ x ∈ xs,x<1000000000) (hl:xs.length<=100000) (i:Nat):(Lib.decDigits (val 1000000000 (xs.drop i))).length<=900009:=by
 have h1:=Z4 (B:=1000000000) (l:=xs.drop i) fun x h=>hx x (List.mem_of_mem_drop h)
 have h3:(1000000000:Nat) ^ (xs.drop i).length=10 ^ (9*(xs.drop i).length):=by rw[Nat.pow_mul]
 rw[h3] at h1
 have h4:(xs.drop i).length<=100000:=by rw[List.length_drop];omega
 refine Zp4 (Zau (k:=9*(xs.drop i).length+9) Za (Zp2 h1 (Zp6 Za Za))) Za
theorem Zft (n j:Nat) (h:j<(Zp 1000000000 n).length):0<val 1000000000 ((Zp 1000000000 n).drop j):=by
 have h1:((Zp 1000000000 n).drop j).getLast?≠some 0:=by
  rw[List.getLast?_drop,if_neg Za]
  exact Zg6 Za n
 have h2:=Zfe (B:=1000000000) Za (l:=(Zp 1000000000 n).drop j) (fun x hx=>ZR Za n x (List.mem_of_mem_drop hx)) h1
 rcases Zqa (val 1000000000 ((Zp 1000000000 n).drop j)) with h0 | h0
 ·rw[h0,ZL] at h2
  have h3:=congrArg List.length h2
  rw[List.length_drop] at h3
  simp at h3
  omega
 ·exact h0
theorem ZmL (nb off cap L:Nat) (xs:List Nat) (n:Nat) (hL:xs.length=L+1) (hxs:Zp 1000000000 n=xs) (hl:xs.length<=100000) (hcap:L+1<=cap) (w:World) (hnb:nb<w.heap.size) (ha:At .u64 w nb off xs)
  (htab:Lib.TabIs Tryz.prog w "internal/strconv.uint64pow10" .u64 Lib.pow10Tab) (htk:∀ w':World,Below w.heap.size w w'->Lib.TabIs Tryz.prog w' "internal/strconv.uint64pow10" .u64 Lib.pow10Tab) :
  Calls Tryz.prog 109 #[.slice (some ⟨nb,off,none⟩) (L+1) cap] w fun e w'=>e=.returned (.string ⟨(Lib.decDigits n).toArray⟩)/\Below w.heap.size w w':=by
 have HXS:=ZqH hxs
 have HX:Hid (∀ x ∈ xs,x<1000000000):=by rw[<- hxs];exact ZR Za n
 have HT:=ZqH htk
 have HA:=ZqH ha
 obtain⟨x0,hx0⟩:=ZqJ (xs.getD L 0)
 have hx0l:x0<1000000000:=by rw[<- hx0];exact ZM Za HX.out _
 have hc0:w.cell? ⟨nb,off+L,none⟩=some (.int .u64 (x0:Nat)):=ha.getD Za hx0
 have HX0:=ZqH hx0
 clear ha hx0 htk hxs
 have hfn:∀ k,Fence.wide.fn k:=fun _=>trivial
 refine(Zqp (n:=9)).1 ?_
 refine callsIn_of_wp_marks Tryz.func109 rfl trivial ?_ rfl
 simp only[Tryz.ntmps109,Nat.reduceAdd,Nat.reduceSub,ZqG]
 obtain⟨w1,hw1⟩:=ZqJ (w.alloc (.cells #[.pointer none,.slice none 0 0] 221))
 have hsz1:w1.heap.size=w.heap.size+1:=by rw[<- hw1];simp
 have HB1:ZqB w w1:=by rw[<- hw1];exact(ZpV _ w).alloc ZqI _
 have HBl1:Hid (Bld w.heap.size w.heap.size [] w1):=by
  refine .inl ⟨Nat.le_refl _,.slice none 0 0,?_,World.ownsRowF_nil _ _ _ _,by simp[Value.ownBlock]⟩
  rw[<- hw1];exact ZpY w _
 have hcL:(((L+1:Nat):Int)==0)=false:=by rw[beq_eq_false_iff_ne];omega
 have hf0:=Zei x0 Za w1 (HT.out _ HB1.out)
 have hc1:w1.cell? ⟨nb,off+L,none⟩=some (.int .u64 (x0:Nat)):=(HB1.out.cell (p:=⟨nb,off+L,none⟩) hnb).trans hc0
 have hlen0:(Lib.decDigits x0).length<=9:=Zau Za Za
 gi_wp2_with (gi_at_call 150;refine(Zqp.2 hf0).mono ?_;rintro e w2 ⟨rfl,hb2⟩)
 have hsz2:=hb2.size
 have hBl2:Bld w.heap.size w.heap.size [] w2:=by
  rcases HBl1.out with ⟨q1,v,q2,q3,q4⟩ | ⟨q1,v,q2,q3,q4⟩
  ·refine .inl ⟨q1,v,(hb2.block _ Za).trans q2,?_,q4⟩
   exact World.ownsRowF.kept (row:=none) q3 ⟨hb2.os,hb2.tape,hb2.output,hb2.size,fun k hk _=>hb2.block k hk⟩ (by cases v.ownBlock<;>simp)
  ·refine .inr ⟨q1,v,(hb2.block _ Za).trans q2,?_,q4⟩
   exact World.ownsRowF.kept (row:=none) q3 ⟨hb2.os,hb2.tape,hb2.output,hb2.size,fun k hk _=>hb2.block k hk⟩ (by cases v.ownBlock<;>simp)
 have hws:=ZcO w.heap.size w.heap.size [] ⟨(Lib.decDigits x0).toArray⟩ w2 hBl2 (by rw[<- ZJ];simp;omega) Za
 have HB2:=ZqH (HB1.out.trans (hb2.mono Za))
 clear hb2 hBl2 HBl1 hf0 hc1 hc0
 gi_wp2_with (gi_at_call 149;refine(Zqp.2 hws).mono ?_;rintro e w3 ⟨rfl,hbl3,hb3,hk3⟩)
 have hsz3:=hb3.size
 have HB3:=ZqH (HB2.out.trans hb3)
 have HBl3:=ZqH hbl3
 clear hws hb3 hk3 hbl3
 gi_wp2_with (gi_at_call 103;refine(Zij Fence.wide _ trivial rfl _ _ _ _).mono ?_;rintro e w' ⟨rfl,rfl⟩)
 obtain⟨w4,hw4⟩:=ZqJ (w3.alloc (.cells #[.slice (some ⟨nb,off,none⟩) L cap] 105))
 rw[hw4]
 have hD:w4.heap.size=w3.heap.size+1:=by rw[<- hw4];simp
 have hbx4:w4.heap[w3.heap.size]?=some (.cells #[.slice (some ⟨nb,off,none⟩) L cap] 105):=by rw[<- hw4];exact ZpY w3 _
 have HB4:ZqB w w4:=by rw[<- hw4];exact HB3.out.alloc HB3.out.size _
 have HBl4:Hid (ZbU w.heap.size w.heap.size (w3.heap.size+1) (Lib.decDigits (val 1000000000 (xs.drop L))) w4):=by
  have e1:val 1000000000 (xs.drop L)=x0:=by
   have h1:=Zeu 1000000000 xs L Za
   have h2:xs[L]=xs.getD L 0:=by simp[List.getD,hL]
   rw[List.drop_of_length_le (show xs.length<=L+1 by omega)] at h1
   rw[h1,h2,HX0.out];simp[val]
  rw[e1]
  have h5:=HBl3.out
  simp only[ZqA] at h5
  have h6:ZbU w.heap.size w.heap.size (w3.heap.size+1) (Lib.decDigits x0) w3:=ZbU.of h5 (fun c T fz h=>by rw[Array.getElem?_eq_none Za] at h;cases h) (fun c T fz h=>by rw[Array.getElem?_eq_none Za] at h;cases h)
  rw[<- hw4]
  exact h6.keeps ((Keeps.refl (fun _=>True) _).alloc _) trivial (fun _ _ _=>trivial)
 have hpos:0<val 1000000000 (xs.drop L):=by rw[<- HXS.out];exact Zft n L (by rw[HXS.out];omega)
 have HPOS:=ZqH hpos
 clear hpos HBl3
 obtain⟨ts,hts⟩:=ZqJ (xs.take L)
 have HTS:Hid (xs.take L=ts):=hts
 have htl:ts.length=L:=by rw[<- hts,Zqz];omega
 clear hts
 refine Zgx (w3.heap.size+1) hD (gf:=143) (lb:=#[.pointer (some ⟨w3.heap.size,0,none⟩)])
  (f:=fun k=>#[.int .i64 (bk L k:Nat),.int .u64 (lim ts (bk L k):Nat)]) (N:=L) (S:=fun b=>b<w.heap.size\/b=w3.heap.size) (T:=fun _=>True)
  rfl (enters_of Tryz.func143 Zb rfl) (fun _=>rfl) ?iter (fun b h=>Za) ⟨trivial,trivial⟩
  (fun k W=>ZbU w.heap.size w.heap.size (w3.heap.size+1) (Lib.decDigits (val 1000000000 (xs.drop (L-k)))) W/\W.heap[w3.heap.size]?=some (.cells #[.slice (some ⟨nb,off,none⟩) L cap] 105)/\Below w.heap.size w W)
  (fun _ _ _=>False)
  (fun k W1 W2 h hk=>?ci)
  (fun c k W1 W2 h hk=>h.elim) ⟨HBl4.out,hbx4,HB4.out⟩ ?a1 ?assign ?body ?done ?stop
 case ci=>
  obtain⟨h1,h2,h3⟩:=h
  refine⟨h1.keeps hk ⟨trivial,Za,Za⟩ (fun r h4 h5=>⟨trivial,h4,h5⟩),(hk.block _ (ZqC h2) ⟨trivial,Za,Za⟩).trans h2,h3.trans ⟨hk.os,hk.tape,hk.output,hk.size,fun b hb=>hk.block b (by have:=h3.size;omega) ⟨trivial,Za,Za⟩⟩⟩
 case iter=>
  have:=Zfp w3.heap.size (fun b=>b<w.heap.size\/b=w3.heap.size) (some ⟨nb,off,none⟩) cap ts Za w4 (.inr rfl) (by rw[htl];unfold World.cell?;simp only[hbx4];rfl)
   (fun _=>⟨nb,off,rfl,.inl hnb,fun j hj=>by
    have h1:=(HA.out.below HB4.out hnb) j Za
    rw[h1]
    have h2:ts[j]=xs[j]:=by simp only[<- HTS.out,List.getElem_take]
    rw[h2]⟩)
  rw[htl] at this
  exact this
 case assign=>
  intro l k W K hK
  gi_wp2
  exact hK
 case body=>
  rintro l k W hk ⟨hbld,hbx,hBW⟩ hW ⟨hdd,l',hll⟩
  obtain⟨i,hi⟩:=ZqJ (bk L k)
  have hik:Hid (L-k=i+1/\L-(k+1)=i/\i<L):=by unfold bk at hi;exact⟨Za,Za,Za⟩
  obtain⟨x,hx⟩:=ZqJ (lim ts (bk L k))
  have hxx:Hid (xs.getD i 0=x):=by
   show _=_
   rw[<- hx,hi,<- HTS.out]
   have:=hik.out.2.2
   unfold lim
   simp only[List.getD,List.getElem?_take_of_lt this]
  rw[hx]
  have hxl:x<1000000000:=by rw[<- hxx.out];exact ZM Za HX.out _
  rw[hik.out.1] at hbld
  have hBS:Beside w3.heap.size #[.slice (some ⟨nb,off,none⟩) L cap] 105 W:=⟨hbx,⟨_,hdd⟩,⟨_,hll⟩⟩
  have hlen:=Zky HX.out hl (i+1)
  have hlx:(Lib.decDigits x).length<=9:=Zau Za Za
  obtain⟨c,hc⟩:=ZqJ (9-(Lib.decDigits x).length)
  have e9:(9:Int)-((Lib.decDigits x).length:Nat)=(c:Nat):=Za
  have hc9:c<=9:=Za
  have hf:=Zei x Za W (HT.out _ hBW)
  have HST:Hid (Lib.decDigits (val 1000000000 (xs.drop (L-(k+1))))=Lib.decDigits (val 1000000000 (xs.drop (i+1)))++(List.replicate c 48++Lib.decDigits x)):=by
   show _=_
   rw[hik.out.2.1,<- hc,<- hxx.out]
   exact ZnA HX.out (by have:=hik.out.2.2;omega) (by rw[<- HXS.out];exact Zft n _ (by rw[HXS.out];have:=hik.out.2.2;omega))
  obtain⟨tx,htx⟩:=ZqJ (Lib.decDigits (val 1000000000 (xs.drop (i+1))))
  rw[htx] at HST hbld hlen
  obtain⟨dx,hdx⟩:=ZqJ (Lib.decDigits x)
  rw[hdx] at HST hf hlx e9
  clear hbx hdd hll htx hx hi hc hdx
  gi_wp2_with (gi_at_call 150;refine(CallsIn.inRound l (Zqp.2 hf)).mono ?_;rintro e W1 ⟨rfl,hb1⟩)
  have hbl1:=hbld.keeps (hb1.keepsAll (fun _=>True)) trivial (fun _ _ _=>trivial)
  have hbs1:=hBS.keeps (hb1.keepsAll (fun _=>True)) trivial trivial trivial
  have hsW:=hBW.size
  have hs1:=hb1.size
  have hrep:=Tryz.strings_Repeat ⟨#[48]⟩ c W1 Za (by show 1*c<=_;omega)
  clear hf hbld hBS
  have hrl:(Lib.repeatL (⟨#[48]⟩:ByteArray).data.toList c)=List.replicate c 48:=Zf3 48 c
  rw[hrl] at hrep
  gi_wp2_with (gi_at_call 151;refine(CallsIn.inRound l (Zqp.2 hrep)).mono ?_;rintro e W2 ⟨rfl,hb2⟩)
  have hbl2:=hbl1.keeps (hb2.keepsAll (fun _=>True)) trivial (fun _ _ _=>trivial)
  have hbs2:=hbs1.keeps (hb2.keepsAll (fun _=>True)) trivial trivial trivial
  have hs2:=hb2.size
  have hk2:Keeps (fun i=>i<w.heap.size\/i=w3.heap.size\/i=w3.heap.size+1\/i=w3.heap.size+2) W W2:=(hb1.keepsAll _).trans (hb2.keepsAll _)
  have hw3:=ZcO w.heap.size w.heap.size tx ⟨Array.replicate c 48⟩ W2 hbl2.bld (by rw[<- ZJ];simp only[Array.toList_replicate,List.length_replicate];omega) Za
  simp only[Array.toList_replicate] at hw3
  clear hbl1 hbs1 hb1 hb2 hrep hrl hbl2
  refine(CallsIn.inRound l (Zqp.2 hw3)).mono ?_
  rintro e W3 ⟨rfl,hl3,hb3,ho3⟩
  obtain⟨hbs3,hk3,hbl3⟩:=hbs2.written Zd Za hb3 ho3 hl3
  have hs3:=hb3.size
  have HK3:=ZqH (hk2.trans hk3)
  clear hw3 hl3 hb3 ho3 hbs2 hk2 hk3
  have hw4:=ZcO w.heap.size w.heap.size (tx++List.replicate c 48) ⟨dx.toArray⟩ W3 hbl3.bld (by rw[<- ZJ,Zqc,List.length_replicate];show _+dx.length<=_;omega) Za
  gi_wp2_with fail
  refine(CallsIn.inRound l (Zqp.2 hw4)).mono ?_
  rintro e W4 ⟨rfl,hl4,hb4,ho4⟩
  obtain⟨hbs4,hk4,hbl4⟩:=hbs3.written Zd Za hb4 ho4 hl4
  have HK4:=ZqH (HK3.out.trans hk4)
  have HB4:Hid (ZbU w.heap.size w.heap.size (w3.heap.size+1) (Lib.decDigits (val 1000000000 (xs.drop (L-(k+1))))) W4):=by
   show ZbU _ _ _ _ _
   rw[HST.out]
   rw[List.append_assoc] at hbl4
   exact hbl4
  have HX4:=ZqH hbs4.box
  clear hw4 hl4 hb4 ho4 hbs3 hk4 hbl4 hbs4
  gi_wp2
  refine⟨HK4.out.mono fun b _ hb=>?_,HB4.out,HX4.out,hBW.trans ⟨HK4.out.os,HK4.out.tape,HK4.out.output,HK4.out.size,fun b hb=>HK4.out.block b Za (.inl hb)⟩⟩
  omega
 case done=>
  rintro W ⟨hbld,hbx,hBW⟩ hdef
  rw[Nat.sub_self,List.drop_zero] at hbld
  have HE:Hid (Lib.decDigits (val 1000000000 xs)=Lib.decDigits n):=by show _=_;rw[<- HXS.out,ZO Za]
  rw[HE.out] at hbld
  have hS:=Tryz.Builder_String_k w.heap.size w.heap.size (Lib.decDigits n) W hbld.bld (ZdP n)
  have hlt:=(ZqC hdef)
  gi_wp2_with fail
  refine(Zqp.2 hS).mono ?_
  rintro e W5 ⟨rfl,_,hB5,hO5⟩
  have hdef5:=ZqH (hO5 (w3.heap.size+1) _ hdef (by rw[Ne,Option.some.injEq];omega) (fun c fz h=>by cases h))
  have HB5:=ZqH (hBW.trans hB5)
  clear hS hB5 hO5
  gi_wp2
  refine⟨Zc,.inl ⟨_,_,rfl,run_takeDeferred hdef5.out,?_⟩⟩
  refine⟨.string ⟨(Lib.decDigits n).toArray⟩,by simp[results,Tryz.f109,go_sem],rfl,HB5.out.trans ?_⟩
  exact⟨rfl,rfl,rfl,Zc,fun k hk=>Zqe Za⟩
 case stop=>
  rintro c k W hk h hdef
  exact h.elim
end Go.Proofs.YtjmckebecpjjfaaGreatDoor
namespace Go.Proofs.YtjmckebecpjjfaaGreatDoor
open Go.RowKit
def Tabs (w:World):Prop:=Lib.TabIs Tryz.prog w "internal/strconv.uint64pow10" .u64 Lib.pow10Tab
theorem Zet:Tryz.prog.globalNamed "internal/strconv.uint64pow10" = some 3:=Zb
theorem Tabs.below {w w':World} {B:Nat} (h:Tabs w) (hb:Below B w w') (hB:w.heap.size<=B):Tabs w':=Joins.tab_stays Zet h hb hB
theorem Tabs.cell {w:World} (h:Tabs w):∃ v,w.cell? ⟨3,0,none⟩=some v:=⟨_,Lib.TabIs.cell h Zet 0 Zd⟩
theorem Tabs.lt {w:World} (h:Tabs w):3<w.heap.size:=by
 obtain⟨v,hv⟩:=h.cell
 exact Zqf _ _ hv
end Go.Proofs.YtjmckebecpjjfaaGreatDoor
namespace Go.Proofs.YtjmckebecpjjfaaGreatDoor
open Go.Lib
def numD (q:Rat):List UInt8:=decDigits q.num.toNat
def denD (q:Rat):List UInt8:=decDigits q.den
def Fits (q:Rat):Prop:=(numD q).length<=600/\(denD q).length<=600
def str (l:List UInt8):ByteArray:=⟨l.toArray⟩
theorem ZbX (l:List UInt8):(str l).data.toList=l:=by simp[str]
theorem ZdN (s:ByteArray):str s.data.toList=s:=by simp[str]
theorem Zk5 {l m:List UInt8} (h:str l=str m):l=m:=by rw[<- ZbX l,h,ZbX]
theorem ZbW (l:List UInt8):(str l).size=l.length:=by rw[<- ZJ,ZbX]
structure IsP (q:Rat) (s t:ByteArray):Prop where
 nn:0<=q
 num:s=str (numD q)
 den:t=str (denD q)
 fits:Fits q
def okP (s t:ByteArray):Bool:=
 Z7 s.data.toList && Z7 t.data.toList && decide (0<Zr t.data.toList) && decide (Nat.gcd (Zr s.data.toList) (Zr t.data.toList)=1)
def ratP (s t:ByteArray):Rat:=mkRat (Zr s.data.toList:Nat) (Zr t.data.toList)
theorem ZiM {n d:Nat} (hd:0<d) (hg:Nat.gcd n d=1):(mkRat (n:Nat) d).num=(n:Nat)/\(mkRat (n:Nat) d).den=d:=by
 have e:=Rat.mk_eq_mkRat (n:Nat) d Za (by simpa[Nat.Coprime] using hg)
 rw[<- e]
 exact⟨rfl,rfl⟩
theorem Zfi (n d:Nat):0<=mkRat (n:Nat) d:=by
 rw[Rat.mkRat_eq_div]
 rcases Zqa d with h | h
 ·subst h
  have:((n:Nat):Int)/((0:Nat):Rat)=(0:Rat):=by rw[Rat.div_def];simp
  grind
 ·have h1:(0:Rat)<(d:Nat):=Rat.natCast_pos.2 h
  have h2:(0:Rat)<=((n:Nat):Int):=Rat.intCast_nonneg.2 Za
  rw[Rat.div_def]
  exact Rat.mul_nonneg h2 (Rat.le_of_lt (Rat.inv_pos.2 h1))
theorem ZfN {s t:ByteArray} : okP s t=true<->Z7 s.data.toList=true/\Z7 t.data.toList=true/\0<Zr t.data.toList/\Nat.gcd (Zr s.data.toList) (Zr t.data.toList)=1:=by
 unfold okP
 simp only[Zqt,Zqu]
 exact⟨fun⟨⟨⟨a,b⟩,c⟩,d⟩=>⟨a,b,c,d⟩,fun⟨a,b,c,d⟩=>⟨⟨⟨a,b⟩,c⟩,d⟩⟩
theorem Zb8 {s t:ByteArray} (h:okP s t=true):IsP (ratP s t) s t:=by
 obtain⟨h1,h2,h3,h4⟩:=ZfN.1 h
 obtain⟨e1,e2⟩:=ZiM h3 h4
 obtain⟨c1,l1⟩:=Zaj h1
 obtain⟨c2,l2⟩:=Zaj h2
 have n1:numD (ratP s t)=s.data.toList:=by
  unfold numD ratP
  rw[e1,Int.toNat_natCast,c1.text]
 have n2:denD (ratP s t)=t.data.toList:=by
  unfold denD ratP
  rw[e2,c2.text]
 exact⟨Zfi _ _,by rw[n1,ZdN],by rw[n2,ZdN],by rw[n1];exact l1,by rw[n2];exact l2⟩
theorem Zal {q:Rat} (h:0<=q):((q.num.toNat:Nat):Int)=q.num:=Int.toNat_of_nonneg (Rat.num_nonneg.2 h)
theorem IsP.vals {q:Rat} {s t:ByteArray} (h:IsP q s t):Zr s.data.toList=q.num.toNat/\Zr t.data.toList=q.den:=by
 rw[h.num,h.den,ZbX,ZbX]
 exact⟨ZaC _,ZaC _⟩
theorem IsP.ok {q:Rat} {s t:ByteArray} (h:IsP q s t):okP s t=true:=by
 obtain⟨e1,e2⟩:=h.vals
 refine ZfN.2 ⟨?_,?_,?_,?_⟩
 ·rw[h.num,ZbX];exact Zda (ZcN _) h.fits.1
 ·rw[h.den,ZbX];exact Zda (ZcN _) h.fits.2
 ·rw[e2];exact q.den_pos
 ·rw[e1,e2]
  have h1:Nat.gcd q.num.natAbs q.den=1:=q.reduced
  have h2:=Zal h.nn
  have h3:q.num.natAbs=q.num.toNat:=Za
  rwa [h3] at h1
theorem IsP.rat {q:Rat} {s t:ByteArray} (h:IsP q s t):ratP s t=q:=by
 obtain⟨e1,e2⟩:=h.vals
 unfold ratP
 rw[e1,e2,Zal h.nn,Rat.mkRat_self]
theorem ZnZ {a b:Rat} (ha:0<=a) (hb:0<=b) (h1:numD a=numD b) (h2:denD a=denD b):a=b:=by
 have e1:=Ze4 h1
 have e2:=Ze4 h2
 refine Rat.ext ?_ e2
 rw[<- Zal ha,<- Zal hb,e1]
theorem IsP.inj {a b:Rat} {s t u v:ByteArray} (ha:IsP a s t) (hb:IsP b u v) (h1:s=u) (h2:t=v):a=b:=by
 refine ZnZ ha.nn hb.nn (Zk5 ?_) (Zk5 ?_)
 ·rw[<- ha.num,<- hb.num,h1]
 ·rw[<- ha.den,<- hb.den,h2]
theorem IsP.same {a b:Rat} {s t u v:ByteArray} (ha:IsP a s t) (hb:IsP b u v) (h:a=b):s=u/\t=v:=by
 subst h
 exact⟨ha.num.trans hb.num.symm,ha.den.trans hb.den.symm⟩
def Ans (q:Rat) (s t:ByteArray) (e:Int):Prop:=(IsP q s t/\e=0)\/(¬ Fits q/\s=str []/\t=str []/\e=4)
theorem Ans.fit {q:Rat} {s t:ByteArray} {e:Int} (h:Ans q s t e) (hf:Fits q):IsP q s t/\e=0:=by
 rcases h with h | h
 ·exact h
 ·exact Zqx hf h.1
theorem Ans.zero {q:Rat} {s t:ByteArray} {e:Int} (h:Ans q s t e) (he:e=0):IsP q s t:=by
 rcases h with h | h
 ·exact h.1
 ·have:=h.2.2.2;omega
theorem ZfL (n:Nat) {d:Nat} (hd:0<d):numD (mkRat (n:Nat) d)=decDigits (n/Nat.gcd n d)/\denD (mkRat (n:Nat) d)=decDigits (d/Nat.gcd n d):=by
 have h0:d≠0:=Za
 unfold numD denD
 rw[Rat.num_mkRat,Rat.den_mkRat,if_neg h0,if_neg h0,Int.natAbs_natCast,Nat.gcd_comm d n]
 refine⟨?_,rfl⟩
 congr 1
theorem Zl0 {n d k:Nat} (hd:0<d) (hn:n<10 ^ k) (hd':d<10 ^ k) (hk0:0<k) (hk:k<=600):Fits (mkRat (n:Nat) d):=by
 obtain⟨e1,e2⟩:=ZfL n hd
 unfold Fits
 rw[e1,e2]
 exact⟨Zp4 (Zau hk0 (Nat.lt_of_le_of_lt (Nat.div_le_self _ _) hn)) hk,Zp4 (Zau hk0 (Nat.lt_of_le_of_lt (Nat.div_le_self _ _) hd')) hk⟩
theorem IsP.lt {q:Rat} {s t:ByteArray} (h:IsP q s t):q.num.toNat<10 ^ s.size/\q.den<10 ^ t.size:=by
 rw[h.num,h.den,ZbW,ZbW]
 exact⟨Ze8 _,Ze8 _⟩
theorem Zpz {a b:Rat} (ha:0<=a) (hb:0<=b):a+b=mkRat ((a.num.toNat*b.den+b.num.toNat*a.den:Nat):Int) (a.den*b.den):=by
 rw[Rat.add_def']
 congr 1
 rw[<- Zal ha,<- Zal hb]
 simp
theorem Zpp {a b:Rat} (ha:0<=a) (hb:0<=b):a*b=mkRat ((a.num.toNat*b.num.toNat:Nat):Int) (a.den*b.den):=by
 rw[Rat.mul_def']
 congr 1
 rw[<- Zal ha,<- Zal hb]
 simp
theorem ZjI {a b:Rat} (ha:0<=a) (hb:0<=b):a<=b<->a.num.toNat*b.den<=b.num.toNat*a.den:=by
 rw[Rat.le_iff,<- Zal ha,<- Zal hb]
 simp only[Int.toNat_natCast]
 exact⟨fun h=>by exact_mod_cast h,fun h=>by exact_mod_cast h⟩
theorem ZnE {a b:Rat} (ha:0<=a) (hb:0<=b):a<b<->a.num.toNat*b.den<b.num.toNat*a.den:=by
 rw[<- Rat.not_le,ZjI hb ha];omega
theorem ZnI {a b:Rat} (ha:0<=a) (hb:0<=b):a=b<->a.num.toNat*b.den=b.num.toNat*a.den:=by
 constructor
 ·rintro rfl;rfl
 ·intro h
  exact Rat.le_antisymm ((ZjI ha hb).2 Za) ((ZjI hb ha).2 Za)
theorem Zpl {a b:Rat} (ha:0<=a) (hb:0<b):a/b=mkRat ((a.num.toNat*b.den:Nat):Int) (a.den*b.num.toNat):=by
 have hb':=Rat.le_of_lt hb
 have h0:0<b.num.toNat:=by
  rcases Zqa b.num.toNat with h | h
  ·exfalso
   have h2:=Zal hb'
   rw[h] at h2
   have h3:=Rat.num_eq_zero.1 h2.symm
   rw[h3] at hb
   exact Zqx hb Zd
  ·exact h
 have hA:a=mkRat ((a.num.toNat:Nat):Int) a.den:=by rw[Zal ha,Rat.mkRat_self]
 have hB:b=mkRat ((b.num.toNat:Nat):Int) b.den:=by rw[Zal hb',Rat.mkRat_self]
 generalize a.num.toNat=n at *
 generalize b.num.toNat=m at *
 have hda:=a.den_pos
 have hdb:=b.den_pos
 generalize a.den=d at *
 generalize b.den=f at *
 subst hA;subst hB
 rw[Rat.mkRat_eq_div,Rat.mkRat_eq_div,Rat.mkRat_eq_div]
 have h1:(0:Rat)<(d:Nat):=Rat.natCast_pos.2 hda
 have h2:(0:Rat)<(f:Nat):=Rat.natCast_pos.2 hdb
 have h3:(0:Rat)<(m:Nat):=Rat.natCast_pos.2 h0
 simp only[Rat.intCast_natCast,Rat.natCast_mul]
 generalize ((d:Nat):Rat)=x at *
 generalize ((f:Nat):Rat)=y at *
 generalize ((m:Nat):Rat)=z at *
 generalize ((n:Nat):Rat)=u at *
 have hx:x≠0:=Zk
 have hy:y≠0:=Zk
 have hz:z≠0:=Zk
 grind
end Go.Proofs.YtjmckebecpjjfaaGreatDoor
namespace Go.Proofs.YtjmckebecpjjfaaGreatDoor
open Go.RowKit Go.Shelf
def Zck:ByteArray:=⟨#[48,49,50,51,52,53,54,55,56,57]⟩
theorem Zhn (c:UInt8):Zck.data.toList.contains c=ZT c:=by
 have h:∀ n:Fin 256,([48,49,50,51,52,53,54,55,56,57]:List UInt8).contains (UInt8.ofNat n.val)=ZT (UInt8.ofNat n.val):=by decide +kernel
 have:=h ⟨c.toNat,c.toNat_lt⟩
 simpa[Zck] using this
theorem ZcA {α:Type} (p:α->Bool):∀ l:List α,l.dropWhile p=[]<->l.all p=true
 | []=>Zc
 | x::l=>by
  rw[List.dropWhile_cons,List.all_cons]
  cases h:p x
  ·simp
  ·simp[ZcA p l]
theorem ZmG (l:List UInt8):Lib.trimS l Zck.data.toList=[]<->l.all ZT=true:=by
 have e:(fun c=>Zck.data.toList.contains c)=ZT:=funext Zhn
 unfold Lib.trimS Lib.trimLeftS Lib.trimRightS
 rw[ZcA,e]
 constructor
 ·intro h
  have h1:=h
  rw[List.all_reverse] at h1
  rcases hd:l.reverse.dropWhile ZT with _ | ⟨x,r⟩
  ·have:=(ZcA ZT l.reverse).1 hd
   rwa [List.all_reverse] at this
  ·exfalso
   have h2:=List.head?_dropWhile_not ZT l.reverse
   rw[hd] at h2 h1
   simp at h2 h1
   rw[h1.1] at h2
   exact Zqx h2 Zc
 ·intro h
  have h1:l.reverse.dropWhile ZT=[]:=(ZcA _ _).2 (by rw[List.all_reverse];exact h)
  rw[h1];rfl
def ZB (w:World) (b:Bool) (e:Ending) (w':World):Prop:=e=.returned (.bool b)/\Below w.heap.size w w'
theorem ZkE (s:ByteArray) (w:World) (hs:s.size<=9223372036854775807) :
  Calls Tryz.prog 121 #[.string s,.string Zck] w fun e w'=>(∃ t:ByteArray,e=.returned (.string t)/\(t.data.toList=[]<->s.data.toList.all ZT=true))/\Below w.heap.size w w':=by
 refine(Any.strings_Trim_laid Tryz.lays160 Zb s Zck w hs Zd (ascii_of_all (by decide +kernel))).mono ?_
 rintro e w' ⟨rfl,hb⟩
 exact⟨⟨_,rfl,by rw[<- ZmG]⟩,hb⟩
theorem Zgg {s t:ByteArray} (ht:t.data.toList=[]<->s.data.toList.all ZT=true):t.toList.isEmpty=s.data.toList.all ZT:=by
 rw[Zqi]
 cases h2:s.data.toList.all ZT
 ·rw[h2] at ht;simpa using ht
 ·rw[h2] at ht;simpa using ht
theorem Zll (s:ByteArray) (h:0<s.size):s.data.toList.head?=some 48<->(s[0].toNat:Int)=48:=by
 have h1:s.data.toList.head?=some s[0]:=by
  have:0<s.data.toList.length:=by rw[ZJ];exact h
  rw[List.head?_eq_getElem?,Zqg this]
  rfl
 rw[h1]
 constructor
 ·intro h2
  have:=ZpZ h2
  rw[this];rfl
 ·intro h2
  congr 1
  apply UInt8.toNat_inj.1
  show s[0].toNat=48
  omega
theorem Zg8 {s:ByteArray} (h:s.size=0\/600<s.size):Z7 s.data.toList=false:=by
 rw[Bool.eq_false_iff]
 intro hc
 have ⟨h1,h2⟩:=Zaj hc
 rw[ZJ] at h2
 have:s.data.toList.length≠0:=fun h=>h1.ne (Zp7 h)
 rw[ZJ] at this
 omega
theorem Zmy {s:ByteArray} (h:1<s.size) (h2:s.data.toList.head?=some 48):Z7 s.data.toList=false:=by
 rw[Bool.eq_false_iff]
 intro hc
 exact(Zaj hc).1.head (by rw[ZJ];exact h) h2
theorem ZhF {s:ByteArray} (h0:s.size≠0) (h1:s.size<=600) (h2:1<s.size->s.data.toList.head?≠some 48):Z7 s.data.toList=s.data.toList.all ZT:=by
 have h3:s.data.toList≠[]:=fun h=>h0 (by rw[<- ZJ,h];rfl)
 unfold Z7 Zen ZfP
 rw[ZJ,decide_eq_true h3,decide_eq_true h1,decide_eq_true h2]
 simp
theorem ZaN (s:ByteArray) (w:World) (hs:s.size<=1000000):Calls Tryz.prog 80 #[.string s] w (ZB w (Z7 s.data.toList)):=by
 have hT:=ZkE s w Za
 by_cases h0:s.size=0
 ·have hb:((s.size:Int)==0)=true:=by simp[h0]
  have HP:=ZqH (Zg8 (.inl h0))
  clear hT
  go_enter Tryz.func80,Tryz.ntmps80
  go_wp2
  go_ret
  refine⟨?_,ZpV _ _⟩
  rw[HP.out];rfl
 ·by_cases h1:600<s.size
  ·have hb:((s.size:Int)==0)=false:=by simp[h0]
   have hb2:(600:Int)<s.size:=Za
   have HP:=ZqH (Zg8 (.inr h1))
   clear hT h0
   go_enter Tryz.func80,Tryz.ntmps80
   go_wp2
   go_ret
   refine⟨?_,ZpV _ _⟩
   rw[HP.out];rfl
  ·have hb:((s.size:Int)==0)=false:=by simp[h0]
   have hb2:¬ (600:Int)<s.size:=Za
   by_cases h2:1<s.size
   ·have hb3:(1:Int)<s.size:=Za
    by_cases h4:(s[0].toNat:Int)=48
    ·have hb4:((s[0].toNat:Int)==48)=true:=by simpa using h4
     have HP:=ZqH (Zmy h2 ((Zll s Za).2 h4))
     clear h4 hT
     go_enter Tryz.func80,Tryz.ntmps80
     go_wp2
     go_ret
     refine⟨?_,ZpV _ _⟩
     rw[HP.out,<- hb4];rfl
    ·have hb4:((s[0].toNat:Int)==48)=false:=by simpa using h4
     have HP:=ZqH (ZhF h0 Za (fun _ h=>h4 ((Zll s Za).1 h)))
     clear h4
     go_enter Tryz.func80,Tryz.ntmps80
     go_wp2_with fail
     refine hT.mono ?_
     rintro e w1 ⟨⟨t,rfl,ht⟩,hB⟩
     have HE:Hid (t.toList.isEmpty=Z7 s.data.toList):=by show _=_;rw[HP.out];exact Zgg ht
     have HB:=ZqH hB
     clear hB hT ht
     go_wp2
     go_ret
     refine⟨?_,HB.out⟩
     rw[<- HE.out];rfl
   ·have hb3:¬ (1:Int)<s.size:=Za
    have HP:=ZqH (ZhF h0 Za (fun h=>Zqx h h2))
    go_enter Tryz.func80,Tryz.ntmps80
    go_wp2_with fail
    refine hT.mono ?_
    rintro e w1 ⟨⟨t,rfl,ht⟩,hB⟩
    have HE:Hid (t.toList.isEmpty=Z7 s.data.toList):=by show _=_;rw[HP.out];exact Zgg ht
    have HB:=ZqH hB
    clear hB hT ht
    go_wp2
    go_ret
    refine⟨?_,HB.out⟩
    rw[<- HE.out];rfl
def ZfZ (w:World) (n:Int) (e:Ending) (w':World):Prop:=e=.returned (.int .i64 n)/\Below w.heap.size w w'
def Zjq (w:World) (l:List UInt8) (e:Ending) (w':World):Prop:=∃ s,e=.returned (.string s)/\s=str l/\Below w.heap.size w w'
theorem Num.form {w:World} {v:Value} {n:Nat} (h:Num w v n):∃ p c,v=.slice p (Zp 1000000000 n).length c:=by
 obtain⟨p,c,rfl,_⟩:=h
 exact⟨p,c,rfl⟩
theorem Num.form' {w:World} {v:Value} {n:Nat} (h:Num w v n):∃ p l c,v=.slice p l c:=by
 obtain⟨p,c,rfl,_⟩:=h
 exact⟨p,_,c,rfl⟩
theorem Znf (p:Option Addr) (c:Nat) (w:World):Calls Tryz.prog 109 #[.slice p 0 c] w (Zjq w (Lib.decDigits 0)):=by
 go_enter Tryz.func109,Tryz.ntmps109
 go_wp2
 go_ret
 exact⟨_,rfl,by rw[Zcm];rfl,ZpV _ _⟩
theorem ZgN {v:Value} {n:Nat} {w:World} (h:Num w v n) (hl:(Zp 1000000000 n).length<=100000) (hT:Tabs w) :
  Calls Tryz.prog 109 #[v] w (Zjq w (Lib.decDigits n)):=by
 obtain⟨p,c,rfl,h1,h2,h3⟩:=h
 rcases Zqa n with h0 | h0
 ·subst h0
  have e0:(Zp 1000000000 0).length=0:=by rw[ZL];rfl
  rw[e0]
  exact Znf p c w
 ·have hp:=(Zbe (B:=1000000000) Za).2 h0
  obtain⟨L,hL⟩:∃ L,(Zp 1000000000 n).length=L+1:=⟨_,(Nat.sub_add_cancel hp).symm⟩
  obtain⟨b,off,rfl,hb,ha⟩:=h3 (Zp3 hp)
  rw[hL] at h1 ⊢
  refine(ZmL b off c L _ n hL rfl hl Za w hb ha hT (fun w' hw=>hT.below hw ZqI)).mono ?_
  rintro e w' ⟨rfl,hB⟩
  exact⟨_,rfl,rfl,hB⟩
theorem Zhz {v:Value} {n:Nat} {w:World} (h:Num w v n) (hl:(Zp 1000000000 n).length<=100000) (hT:Tabs w) :
  Calls Tryz.prog 108 #[v] w (ZfZ w ((Lib.decDigits n).length:Nat)):=by
 have ht:=ZgN h hl hT
 go_enter Tryz.func108,Tryz.ntmps108
 go_wp2_with fail
 refine ht.mono ?_
 rintro e w' ⟨s,rfl,hs,hB⟩
 have HS:Hid (s.size=(Lib.decDigits n).length):=by show _=_;rw[hs,ZbW]
 have HB:=ZqH hB
 clear hB hs ht h hT hl
 go_wp2
 go_ret
 refine⟨?_,HB.out⟩
 rw[<- HS.out];rfl
end Go.Proofs.YtjmckebecpjjfaaGreatDoor
namespace Go.Proofs.YtjmckebecpjjfaaGreatDoor
open Go.RowKit Go.Shelf
attribute [local go_sem] Oper.semAt_some
theorem Zx {S:Nat->Prop} {w w':World} {base:Nat} {e:TypeId} {size:Nat} {v:Value} {n:Nat} {xs:List Value} (h:w.ownsRow base e size v n xs) (hk:Keeps S w w') (hS:∀ g,base<=g->S g):w'.ownsRow base e size v n xs:=by
 obtain⟨h1,h2⟩:=h
 refine⟨h1,?_⟩
 rcases h2 with h2 | ⟨g,cap,cur,hv,hb,hg,hr⟩
 ·exact .inl h2
 ·refine .inr ⟨g,cap,cur,hv,hb,?_,hr⟩
  rw[hk.block g (ZqC hg) (hS g hb)];exact hg
theorem ZbK {w:World} {base:Nat} {e:TypeId} {size:Nat} {v:Value} {n:Nat} {xs:List Value} (h:w.ownsRow base e size v n xs):∀ r,v.ownBlock=some r->base<=r:=by
 rcases h.2 with ⟨rfl,_⟩ | ⟨g,cap,cur,rfl,hb,_⟩
 ·intro r hr;cases hr
 ·intro r hr;have:=ZpZ hr;subst this;exact hb
def ZbO (s:ByteArray) (k:Nat):List Value:=((List.range k).map (gval s.data.toList)).map fun x:Nat=>Value.int .u64 (x:Nat)
theorem Zg1 (Bs:Nat) (s:ByteArray) (hl:s.size<=1000000) (hd:∀ c ∈ s.data.toList,ZT c=true) (w:World)
  (hBs:w.cell? ⟨Bs,0,none⟩=some (.string s)) (hF:w.frozen? ⟨Bs,0,none⟩=false) :
  Calls Tryz.prog 178 #[.slice none 0 0,.func (.func 179) #[] #[.pointer (some ⟨Bs,0,none⟩)]] w fun e w'=>
   ∃ v,e=.returned v/\w'.ownsRow w.heap.size 146 1 v (Zbh s.data.toList) (ZbO s (Zbh s.data.toList))/\Keeps (fun b=>b<w.heap.size/\b≠Bs) w w':=by
 obtain⟨i0,hi,hz0,hz1,hz2⟩:=info_parts ZdM
 have hBl:=Zqf _ _ hBs
 have hfn:∀ k,Fence.wide.fn k:=fun _=>trivial
 refine(Zqp (n:=9)).1 ?_
 refine callsIn_of_wp_marks Tryz.func178 rfl trivial ?_ rfl
 simp only[Tryz.ntmps178,Nat.reduceAdd,Nat.reduceSub,ZqG]
 gi_wp2
 obtain⟨w3,hw3⟩:=ZqJ (w.alloc (.cells #[.slice none 0 0] 104))
 rw[hw3]
 have hD:w3.heap.size=w.heap.size+1:=by rw[<- hw3];simp
 have HK3:Hid (∀ S:Nat->Prop,Keeps S w w3):=fun S=>by rw[<- hw3];exact(Keeps.refl S w).alloc _
 have HV3:Hid (w3.cell? ⟨w.heap.size,0,none⟩=some (.slice none 0 0)/\w3.frozen? ⟨w.heap.size,0,none⟩=false):=by rw[<- hw3];exact⟨ZP _ _ _ _ rfl,Zcq _ _ _ _ rfl⟩
 refine ZgM (w.heap.size+1) hD (gf:=179) (lb:=#[.pointer (some ⟨Bs,0,none⟩)])
  (f:=fun k=>#[.int .u64 (gval s.data.toList k:Nat)]) (N:=Zbh s.data.toList) (S:=fun b=>b=Bs) (T:=fun b=>b≠Bs)
  rfl (enters_of Tryz.func179 Zb rfl) (fun _=>rfl) ?iter (fun b h=>Za) ⟨Za,Za⟩
  (fun k W=>(∃ v,W.cell? ⟨w.heap.size,0,none⟩=some v/\W.frozen? ⟨w.heap.size,0,none⟩=false/\W.ownsRow (w.heap.size+3) 146 1 v k (ZbO s k))/\Keeps (fun b=>b<w.heap.size/\b≠Bs) w W)
  (fun _ _ _=>False)
  (fun k W1 W2 h hk=>?ci)
  (fun c k W1 W2 h hk=>h.elim) ⟨⟨_,HV3.out.1,HV3.out.2,⟨by simp[ZbO],.inl ⟨rfl,rfl⟩⟩⟩,HK3.out _⟩ ?a1 ?assign ?body ?done ?stop
 case ci=>
  obtain⟨⟨v,h1,h2,h3⟩,h4⟩:=h
  refine⟨⟨v,hk.cellAt h1 (by simp;omega),?_,Zx h3 hk (fun g hg=>by simp;omega)⟩,h4.trans (hk.mono fun b hb1 hb2=>by simp;omega)⟩
  rw[hk.frozen (Zqf _ _ h1) (by simp;omega)];exact h2
 case iter=>
  exact ZkC Bs _ s hl hd w3 rfl ((HK3.out (fun _=>True)).cellAt hBs trivial) (by rw[(HK3.out (fun _=>True)).frozen hBl trivial];exact hF)
 case assign=>
  intro l k W K hK
  gi_wp2
  exact hK
 case body=>
  rintro l k W hk ⟨⟨v,hc,hf,hown⟩,HK⟩ hW
  have HO:=ZqH hown
  have HKh:=ZqH HK
  obtain⟨x,hx⟩:=ZqJ (gval s.data.toList k)
  rw[hx]
  have HX:=ZqH hx
  clear HK hx
  have hkl:k<=1000000:=by unfold Zbh at hk;rw[ZJ] at hk;omega
  have hm1:k+1<=maxLen:=by unfold maxLen;omega
  have hm2:(k+1)*8<=140737488355328:=Za
  have hm3:w.heap.size+3<=(W.alloc (.cells #[.int .u64 (x:Nat)] 146)).heap.size:=by simp;omega
  have HVB:=ZqH (ZbK hown)
  have hownA:=hown.alloc (.cells #[.int .u64 (x:Nat)] 146)
  gi_wp2_with (gi_at_builtin;go_loud (refine wpListIn_append_own _ rfl (.tmp 8) (.tmp 10) 104 rfl (w.heap.size+3) 146 i0 (.int .u64 0) 1 8 Tryz.underlying104 hi hz0 hz1 hz2 rfl Zd _ k _ rfl hownA ⟨W.heap.size,0,none⟩ 1 1 [.int .u64 (x:Nat)] rfl rfl (cell_one_new _ _ _) (by simp[Value.oneCell']) hm1 hm2 hm3 ?_);intro v' w4 hown4 hgrow4 hnil4;obtain⟨g4,cap4,rfl,hgb4,hgl4⟩:=hown4.form Za;have hk4:Keeps (fun b=>b<w.heap.size+3) W w4:=((Keeps.refl _ W).alloc _).grown hgrow4 (fun r hr=>by have:=HVB.out r hr;omega);go_loud (have hc4:=hk4.cellAt hc (by simp<;>omega);have hf4:=(hk4.frozen (Zqf _ _ hc) (by simp<;>omega)).trans hf;clear hgrow4 hnil4 hc hf))
  have hkk:Keeps (fun b=>b<w.heap.size) W (w4.setCell ⟨w.heap.size,0,none⟩ (.slice (some ⟨g4,0,none⟩) (k+1) cap4)):=
   (hk4.mono (fun b _ hb=>Za)).setCell Zc _
  refine⟨(hk4.mono (fun b _ hb=>?_)).setCell (by simp<;>omega) _,⟨_,World.cell?_setCell_same' _ _ _ (by rw[hc4];rfl),by rw[World.frozen?_setCell];exact hf4,?_⟩,HKh.out.trans (hkk.mono fun b _ hb=>hb.1)⟩
  ·rcases hb with rfl | rfl | rfl<;>omega
  ·have h5:ZbO s (k+1)=ZbO s k++[.int .u64 (x:Nat)]:=by
    unfold ZbO
    rw[List.range_succ,List.map_append,List.map_append,<- HX.out];rfl
   rw[h5]
   refine Zx (S:=fun b=>w.heap.size+3<=b) hown4 ((Keeps.refl _ _).setCell Zc _) (fun g hg=>hg)
 case done=>
  rintro W ⟨⟨v,hc,hf,hown⟩,HK⟩ hdef
  have HO:=ZqH hown
  have HKh:=ZqH HK
  have Hdef:=ZqH hdef
  have hlt:=(ZqC hdef)
  have hbl:=ZqH (ZbK hown)
  clear hown HK hdef
  gi_wp2
  refine⟨Zc,.inl ⟨_,_,rfl,run_takeDeferred Hdef.out,?_⟩⟩
  refine⟨v,by simp[results,Tryz.f178,go_sem],v,rfl,?_,HKh.out.putObj (by simp;omega) _⟩
  have h1:=Zx (S:=fun b=>w.heap.size+3<=b) HO.out ((Keeps.refl _ W).putObj (r:=w.heap.size+1) Zc (.deferred none)) (fun g hg=>hg)
  obtain⟨h2,h3⟩:=h1
  refine⟨h2,?_⟩
  rcases h3 with h3 | ⟨g,cap,cur,hv,hb,hr⟩
  ·exact .inl h3
  ·exact .inr ⟨g,cap,cur,hv,Za,hr⟩
 case stop=>
  rintro c k W hk h hdef
  exact h.elim
theorem ZhJ (s:ByteArray) (hl:s.size<=1000000) (hd:∀ c ∈ s.data.toList,ZT c=true) (w:World) :
  Calls Tryz.prog 101 #[.string s] w (ZfU w (Zr s.data.toList)):=by
 have HD:=ZqH hd
 clear hd
 go_enter Tryz.func101,Tryz.ntmps101
 go_wp2_with (first | (go_at_call 142;go_in) | (go_at_call 141;go_in))
 have hB0:=ZP w #[.string s] 9 0 rfl
 have hF0:=Zcq w #[.string s] 9 0 rfl
 have hA:=Zg1 w.heap.size s hl HD.out (w.alloc (.cells #[.string s] 9)) hB0 hF0
 clear hB0 hF0
 refine hA.mono ?_
 rintro e w2 ⟨v,rfl,hown,hk⟩
 have hsz:(w.alloc (.cells #[.string s] 9)).heap.size=w.heap.size+1:=Zc
 have hB2:Below w.heap.size w w2:=by
  refine((ZpV w.heap.size w).alloc ZqI (.cells #[.string s] 9)).trans ?_
  exact⟨hk.os,hk.tape,hk.output,hk.size,fun b hb=>hk.block b (by rw[hsz];omega) ⟨by rw[hsz];omega,Za⟩⟩
 clear hA hk
 obtain⟨N,hN⟩:=ZqJ (Zbh s.data.toList)
 rw[hN] at hown
 obtain⟨xs,hxs⟩:=ZqJ ((List.range N).map (gval s.data.toList))
 have hcells:ZbO s N=xs.map fun x:Nat=>Value.int .u64 (x:Nat):=by rw[<- hxs];rfl
 have hxl:xs.length=N:=by rw[<- hxs];simp
 have hxd:∀ x ∈ xs,x<1000000000:=by
  rw[<- hxs];intro x hx
  obtain⟨k,_,rfl⟩:=List.mem_map.1 hx
  exact Zo3 HD.out k
 have hval:val 1000000000 xs=Zr s.data.toList:=by rw[<- hxs,<- hN];exact Zic _
 rw[hcells] at hown
 have HB2:=ZqH hB2
 have HV:=ZqH hval
 clear hN hxs hcells hB2 hval
 rcases hown.2 with ⟨rfl,h0⟩ | ⟨g,cap,cur,rfl,hgb,hgr,hle,hcap,hr⟩
 ·subst h0
  obtain rfl:xs=[]:=Zp7 hxl
  have ht:=Zev none 0 [] w2 ZqI (Zp8 _) (fun x h=>by cases h) (fun h=>Zqx rfl h)
  have h2:Zr s.data.toList=0:=HV.out.symm
  have h3:Zp 1000000000 (val 1000000000 [])=[]:=by rw[show val 1000000000 []=0 from rfl,ZL]
  rw[h3] at ht
  have H2:=ZqH h2
  clear hown h2 h3
  go_wp2_with fail
  refine ht.mono ?_
  rintro e w' ⟨rfl,rfl⟩
  clear ht
  go_wp2
  go_ret
  exact⟨_,rfl,by rw[H2.out];exact ZjO _ _ _ (Zp8 _),HB2.out⟩
 ·have hrow:Row .u64 146 w2 0 g cap xs:=by subst hxl;exact⟨hown.1,by
   rcases hown.2 with h | ⟨g',cap',cur',h1,_,h3⟩
   ·exact .inl h
   ·exact .inr ⟨g',cap',cur',h1,Zp8 _,h3⟩⟩
  have ht:=Zdb hrow hxd N hxl.symm (Zr s.data.toList) HV.out
  clear hrow hown hgr hr
  go_wp2_with fail
  refine ht.mono ?_
  rintro e w' ⟨rfl,rfl,hr2⟩
  have HN:=ZqH (show Zdl 0 w2 _ _ from ⟨_,_,rfl,hr2⟩).num
  clear ht hr2
  go_wp2
  go_ret
  exact⟨_,rfl,HN.out,HB2.out⟩
end Go.Proofs.YtjmckebecpjjfaaGreatDoor
namespace Go.Proofs.YtjmckebecpjjfaaGreatDoor
open Go.RowKit Go.Shelf
theorem Num.keepsBut {w w':World} {v:Value} {n b:Nat} {cs:Array Value} {T:TypeId} (h:Num w v n) (hb:w.heap[b]?=some (.cells cs T (0,0))) (hcs:∀ (j:Nat) (x:Int),cs[j]?≠some (.int .u64 x)) (hk:Keeps (fun i=>i≠b) w w'):Num w' v n:=by
 obtain⟨p,cap,rfl,h1,h2,h3⟩:=h
 refine⟨p,cap,rfl,h1,h2,fun hne=>?_⟩
 obtain⟨b',off,rfl,hlt,ha⟩:=h3 hne
 refine⟨b',off,rfl,Zp2 hlt hk.size,?_⟩
 have hbb:b'≠b:=by
  rintro rfl
  have hpos:0<(Zp 1000000000 n).length:=List.length_pos_iff.2 hne
  have h4:=ha 0 hpos
  unfold World.cell? at h4
  simp only[hb] at h4
  exact hcs _ _ h4
 exact ha.keeps hk hbb
theorem ZhT (v1 v2:Value) (h1:∀ x:Int,v1≠.int .u64 x) (h2:∀ x:Int,v2≠.int .u64 x):∀ (j:Nat) (x:Int),(#[v1,v2]:Array Value)[j]?≠some (.int .u64 x)
 | 0,x=>by simpa using h1 x
 | 1,x=>by simpa using h2 x
 | j+2,x=>Zc
theorem ZiI {w:World} {b:Nat} (i j:Nat) (h:i≠j) {u:Value} : (w.setCell ⟨b,i,none⟩ u).cell? ⟨b,j,none⟩=w.cell? ⟨b,j,none⟩:=World.cell?_setCell_other w _ _ u (by simp[h])
def ZnY (w:World) (n d:Nat) (e:Ending) (w':World):Prop:=∃ vn vd,e=.returned (.agg #[vn,vd])/\Num w' vn n/\Num w' vd d/\Below w.heap.size w w'
theorem Zdi (s t:ByteArray) (hl:s.size<=1000000) (hl2:t.size<=1000000) (hd:∀ c ∈ s.data.toList,ZT c=true) (hd2:∀ c ∈ t.data.toList,ZT c=true) (w:World) :
  Calls Tryz.prog 47 #[ZqE s t] w (ZnY w (Zr s.data.toList) (Zr t.data.toList)):=by
 have HD:=ZqH hd
 have HD2:=ZqH hd2
 clear hd hd2
 go_enter Tryz.func47,Tryz.ntmps47
 go_wp2_with fail
 obtain⟨w3,hw3⟩:=ZqJ ((w.alloc (ZqF s t)).alloc (.cells #[.slice none 0 0,.slice none 0 0] 107))
 have hsz:w3.heap.size=w.heap.size+2:=by rw[<- hw3];simp
 have c0:w3.cell? ⟨w.heap.size,0,none⟩=some (.string s):=by rw[<- hw3,Z8 _ _ _ Zc];exact ZP _ _ _ _ rfl
 have c1:w3.cell? ⟨w.heap.size,1,none⟩=some (.string t):=by rw[<- hw3,Z8 _ _ _ Zc];exact ZP _ _ _ _ rfl
 have b3:w3.heap[w.heap.size+1]?=some (.cells #[.slice none 0 0,.slice none 0 0] 107 (0,0)):=by
  rw[<- hw3]
  have:=ZpY (w.alloc (ZqF s t)) (.cells #[.slice none 0 0,.slice none 0 0] 107)
  simpa using this
 have HB3:ZqB w w3:=by rw[<- hw3];exact((ZpV _ w).alloc ZqI _).alloc Zc _
 rw[hw3]
 clear hw3
 go_region_with (go_at_call 101;first
  | go_loud (refine(ZhJ s hl HD.out _).mono ?_;rintro e w4 ⟨v1,rfl,hv1,hB4⟩;have c1':w4.cell? ⟨w.heap.size,1,none⟩=some (.string t):=(hB4.cell (p:=⟨w.heap.size,1,none⟩) (by show w.heap.size<w3.heap.size;omega)).trans c1;have hsz4:w3.heap.size<=w4.heap.size:=hB4.size;have b4:w4.heap[w.heap.size+1]?=some (.cells #[.slice none 0 0,.slice none 0 0] 107 (0,0)):=(hB4.block (w.heap.size+1) (by show _<w3.heap.size;omega)).trans b3;have HN4:=ZqH hv1;have HB4:ZqB w w4:=HB3.out.drew.trans (hB4.mono (by show w.heap.size<=w3.heap.size;omega));clear hB4;obtain⟨p1,k1,rfl,_,_,_⟩:=hv1)
  | go_loud (refine(ZhJ t hl2 HD2.out _).mono ?_;rintro e w5 ⟨v2,rfl,hv2,hB5⟩;have b5:w5.heap[w.heap.size+1]?=some (.cells #[.slice none 0 0,.slice none 0 0] 107 (0,0)):=(hB5.block (w.heap.size+1) (by show _<w4.heap.size;omega)).trans b4;have HN5:=ZqH (HN4.out.below hB5 ZqI);have HM5:=ZqH hv2;have HB5:ZqB w w5:=HB4.out.trans (hB5.mono Za);have d0:=Zn b5 0 (v:=.slice none 0 0) rfl;have d1:=Zn b5 1 (v:=.slice none 0 0) rfl;have f0:=Zo b5 0;have f1:=Zo b5 1;clear hB5;obtain⟨p2,k2,rfl,_,_,_⟩:=hv2))
 all_goals
  obtain⟨l1,hl1⟩:=ZqJ ((Zp 1000000000 (Zr s.data.toList)).length)
  obtain⟨l2,hl2⟩:=ZqJ ((Zp 1000000000 (Zr t.data.toList)).length)
  rw[hl1] at HN5
  rw[hl2] at HM5
  rw[hl1,hl2]
  obtain⟨w6,hw6⟩:=ZqJ ((w5.setCell ⟨w.heap.size+1,0,none⟩ (.slice p1 l1 k1)).setCell ⟨w.heap.size+1,1,none⟩ (.slice p2 l2 k2))
  have hk6:Keeps (fun i=>i≠w.heap.size+1) w5 w6:=by rw[<- hw6];exact((Keeps.refl _ w5).setCell Zc _).setCell Zc _
  have r0:w6.cell? ⟨w.heap.size+1,0,none⟩=some (.slice p1 l1 k1):=by
   rw[<- hw6,ZiI 1 0 Zd]
   exact World.cell?_setCell_same' _ _ _ (by rw[d0];rfl)
  have r1:w6.cell? ⟨w.heap.size+1,1,none⟩=some (.slice p2 l2 k2):=by
   rw[<- hw6]
   exact World.cell?_setCell_same' _ _ _ (by rw[ZiI 0 1 Zd,d1];rfl)
  have HN6:=ZqH (HN5.out.keepsBut b5 (ZhT _ _ (fun x h=>by cases h) (fun x h=>by cases h)) hk6)
  have HM6:=ZqH (HM5.out.keepsBut b5 (ZhT _ _ (fun x h=>by cases h) (fun x h=>by cases h)) hk6)
  have HB6:ZqB w w6:=HB5.out.trans ⟨hk6.os,hk6.tape,hk6.output,hk6.size,fun k hk=>hk6.block k (by have:=HB5.out.size;omega) Za⟩
  rw[hw6]
  clear hw6 hk6 c0 c1 c1' d0 d1 f0 f1 b3 b4 b5
  go_wp2
  refine ZpW (v:=.agg #[.slice p1 l1 k1,.slice p2 l2 k2]) ?_ rfl ⟨_,_,rfl,HN6.out,HM6.out,HB6.out⟩
  simp[results,Tryz.f47,go_sem,r0,r1]
end Go.Proofs.YtjmckebecpjjfaaGreatDoor
