/- The parts Shown, Tabs, Right, Texts, Of, Taken, Part, Lim. -/
import Derived.Test.YtmpaflidennnoaaGreatDoorH06
import Derived.Shelf.Strings.SlTrimAscii
import Derived.Deep.RegionHeld3
import Derived.RegionTactic
set_option maxRecDepth 100000
set_option maxHeartbeats 4000000
set_option linter.unusedVariables false
set_option linter.unusedSimpArgs false
namespace Go.Proofs.YtmpaflidennnoaaGreatDoor
open Go.RowKit Go.Shelf
attribute [local go_sem] Oper.semAt_some
theorem ZgE {B b:Nat} {S:Nat->Prop} {W W':World} (hB:Below B W W') (hO:Lib.OthersKept 5 (some b) W W')
  (hS:∀ i,S i->i<B\/(i≠b/\∃ o,W.heap[i]?=some o/\∀ c fz,o≠.cells c 5 fz)):Keeps S W W':=
 ⟨hB.os,hB.tape,hB.output,hB.size,fun i _ hs=>by
  rcases hS i hs with h | ⟨h1,o,h2,h3⟩
  ·exact hB.block i h
  ·rw[h2];exact hO i o h2 (fun e=>h1 (Zou e)) h3⟩
structure Beside (bx:Nat) (o:Array Value) (T:TypeId) (W:World):Prop where
 box:W.heap[bx]?=some (.cells o T)
 d:∃ x,W.heap[bx+1]?=some (.deferred x)
 d1:∃ x,W.heap[bx+2]?=some (.loop x)
theorem Beside.keeps {S:Nat->Prop} {bx:Nat} {o:Array Value} {T:TypeId} {W W':World} (h:Beside bx o T W) (hk:Keeps S W W') (h0:S bx) (h1:S (bx+1)) (h2:S (bx+2)):Beside bx o T W':=by
 obtain⟨a,⟨x,b⟩,⟨y,c⟩⟩:=h
 exact⟨(hk.block _ (Zo9 a) h0).trans a,⟨x,(hk.block _ (Zo9 b) h1).trans b⟩,⟨y,(hk.block _ (Zo9 c) h2).trans c⟩⟩
theorem Beside.written {B b bx:Nat} {o:Array Value} {T:TypeId} {l:List UInt8} {W W':World} (h:Beside bx o T W) (hT:T≠5) (hbx:b<bx) (hB:Below B W W') (hO:Lib.OthersKept 5 (some b) W W')
  (hl:Lib.BuilderAtF 238 5 B b (.pointer (some ⟨b,0,none⟩)) (Lib.byteCells l) W') :
  Beside bx o T W'/\Keeps (fun i=>i<B\/i=bx\/i=bx+1\/i=bx+2) W W'/\Zbx B b (bx+1) l W':=by
 have hk:Keeps (fun i=>i<B\/i=bx\/i=bx+1\/i=bx+2) W W':=by
  refine ZgE hB hO fun i hi=>?_
  obtain⟨x,hx⟩:=h.d
  obtain⟨y,hy⟩:=h.d1
  rcases hi with hi | rfl | rfl | rfl
  ·exact .inl hi
  ·exact .inr ⟨Za,_,h.box,fun c fz e=>by injection e with _ e;exact hT e⟩
  ·exact .inr ⟨Za,_,hx,fun c fz e=>by cases e⟩
  ·exact .inr ⟨Za,_,hy,fun c fz e=>by cases e⟩
 have h2:=h.keeps hk (.inr (.inl rfl)) (.inr (.inr (.inl rfl))) (.inr (.inr (.inr rfl)))
 refine⟨h2,hk,Zbx.of hl ?_ ?_⟩
 ·intro c T fz e;obtain⟨x,hx⟩:=h2.d;rw[hx] at e;cases e
 ·intro c T fz e;obtain⟨x,hx⟩:=h2.d1;rw[show bx+1+1=bx+2 by omega,hx] at e;cases e
theorem Zjw {xs:List Nat} (hx:∀ x ∈ xs,x<1000000000) (hl:xs.length<=100000) (i:Nat):(Lib.decDigits (val 1000000000 (xs.drop i))).length<=900009:=by
 have h1:=Z6 (B:=1000000000) (l:=xs.drop i) fun x h=>hx x (List.mem_of_mem_drop h)
 have h3:(1000000000:Nat) ^ (xs.drop i).length=10 ^ (9*(xs.drop i).length):=by rw[Nat.pow_mul]
 rw[h3] at h1
 have h4:(xs.drop i).length<=100000:=by rw[List.length_drop];omega
 refine Zoz (Z5 (k:=9*(xs.drop i).length+9) Za (Zox h1 (ZoB Za Za))) Za
theorem Zfk (n j:Nat) (h:j<(Zp 1000000000 n).length):0<val 1000000000 ((Zp 1000000000 n).drop j):=by
 have h1:((Zp 1000000000 n).drop j).getLast?≠some 0:=by
  rw[List.getLast?_drop,if_neg Za]
  exact ZgQ Za n
 have h2:=Zft (B:=1000000000) Za (l:=(Zp 1000000000 n).drop j) (fun x hx=>ZI Za n x (List.mem_of_mem_drop hx)) h1
 rcases ZoF (val 1000000000 ((Zp 1000000000 n).drop j)) with h0 | h0
 ·rw[h0,ZO] at h2
  have h3:=congrArg List.length h2
  rw[List.length_drop] at h3
  simp at h3
  omega
 ·exact h0
theorem ZlC (nb off cap L:Nat) (xs:List Nat) (n:Nat) (hL:xs.length=L+1) (hxs:Zp 1000000000 n=xs) (hl:xs.length<=100000) (hcap:L+1<=cap) (w:World) (hnb:nb<w.heap.size) (ha:At .u64 w nb off xs)
  (htab:Lib.TabIs Tryz.prog w "internal/strconv.uint64pow10" .u64 Lib.pow10Tab) (htk:∀ w':World,Below w.heap.size w w'->Lib.TabIs Tryz.prog w' "internal/strconv.uint64pow10" .u64 Lib.pow10Tab) :
  Calls Tryz.prog 153 #[.slice (some ⟨nb,off,none⟩) (L+1) cap] w fun e w'=>e=.returned (.string ⟨(Lib.decDigits n).toArray⟩)/\Below w.heap.size w w':=by
 have HXS:=Zpe hxs
 have HX:Hid (∀ x ∈ xs,x<1000000000):=by rw[<- hxs];exact ZI Za n
 have HT:=Zpe htk
 have HA:=Zpe ha
 obtain⟨x0,hx0⟩:=Zpg (xs.getD L 0)
 have hx0l:x0<1000000000:=by rw[<- hx0];exact ZM Za HX.out _
 have hc0:w.cell? ⟨nb,off+L,none⟩=some (.int .u64 (x0:Nat)):=ha.getD Za hx0
 have HX0:=Zpe hx0
 clear ha hx0 htk hxs
 have hfn:∀ k,Fence.wide.fn k:=fun _=>trivial
 refine(ZoU (n:=9)).1 ?_
 refine callsIn_of_wp_marks Tryz.func153 rfl trivial ?_ rfl
 simp only[Tryz.ntmps153,Nat.reduceAdd,Nat.reduceSub,Zpd]
 obtain⟨w1,hw1⟩:=Zpg (w.alloc (.cells #[.pointer none,.slice none 0 0] 238))
 have hsz1:w1.heap.size=w.heap.size+1:=by rw[<- hw1];simp
 have HB1:Zo8 w w1:=by rw[<- hw1];exact(Zoq _ w).alloc Zpf _
 have HBl1:Hid (Bld w.heap.size w.heap.size [] w1):=by
  refine .inl ⟨Nat.le_refl _,.slice none 0 0,?_,World.ownsRowF_nil _ _ _ _,by simp[Value.ownBlock]⟩
  rw[<- hw1];exact Zot w _
 have hcL:(((L+1:Nat):Int)==0)=false:=by rw[beq_eq_false_iff_ne];omega
 have hf0:=Zeh x0 Za w1 (HT.out _ HB1.out)
 have hc1:w1.cell? ⟨nb,off+L,none⟩=some (.int .u64 (x0:Nat)):=(HB1.out.cell (p:=⟨nb,off+L,none⟩) hnb).trans hc0
 have hlen0:(Lib.decDigits x0).length<=9:=Z5 Za Za
 gi_wp2_with (gi_at_call 198;refine(ZoU.2 hf0).mono ?_;rintro e w2 ⟨rfl,hb2⟩)
 have hsz2:=hb2.size
 have hBl2:Bld w.heap.size w.heap.size [] w2:=by
  rcases HBl1.out with ⟨q1,v,q2,q3,q4⟩ | ⟨q1,v,q2,q3,q4⟩
  ·refine .inl ⟨q1,v,(hb2.block _ Za).trans q2,?_,q4⟩
   exact World.ownsRowF.kept (row:=none) q3 ⟨hb2.os,hb2.tape,hb2.output,hb2.size,fun k hk _=>hb2.block k hk⟩ (by cases v.ownBlock<;>simp)
  ·refine .inr ⟨q1,v,(hb2.block _ Za).trans q2,?_,q4⟩
   exact World.ownsRowF.kept (row:=none) q3 ⟨hb2.os,hb2.tape,hb2.output,hb2.size,fun k hk _=>hb2.block k hk⟩ (by cases v.ownBlock<;>simp)
 have hws:=ZcK w.heap.size w.heap.size [] ⟨(Lib.decDigits x0).toArray⟩ w2 hBl2 (by rw[<- Zz];simp;omega) Za
 have HB2:=Zpe (HB1.out.trans (hb2.mono Za))
 clear hb2 hBl2 HBl1 hf0 hc1 hc0
 gi_wp2_with (gi_at_call 197;refine(ZoU.2 hws).mono ?_;rintro e w3 ⟨rfl,hbl3,hb3,hk3⟩)
 have hsz3:=hb3.size
 have HB3:=Zpe (HB2.out.trans hb3)
 have HBl3:=Zpe hbl3
 clear hws hb3 hk3 hbl3
 gi_wp2_with (gi_at_call 127;refine(ZgY Fence.wide _ trivial rfl _ _ _ _).mono ?_;rintro e w' ⟨rfl,rfl⟩)
 obtain⟨w4,hw4⟩:=Zpg (w3.alloc (.cells #[.slice (some ⟨nb,off,none⟩) L cap] 110))
 rw[hw4]
 have hD:w4.heap.size=w3.heap.size+1:=by rw[<- hw4];simp
 have hbx4:w4.heap[w3.heap.size]?=some (.cells #[.slice (some ⟨nb,off,none⟩) L cap] 110):=by rw[<- hw4];exact Zot w3 _
 have HB4:Zo8 w w4:=by rw[<- hw4];exact HB3.out.alloc HB3.out.size _
 have HBl4:Hid (Zbx w.heap.size w.heap.size (w3.heap.size+1) (Lib.decDigits (val 1000000000 (xs.drop L))) w4):=by
  have e1:val 1000000000 (xs.drop L)=x0:=by
   have h1:=Zeq 1000000000 xs L Za
   have h2:xs[L]=xs.getD L 0:=by simp[List.getD,hL]
   rw[List.drop_of_length_le (show xs.length<=L+1 by omega)] at h1
   rw[h1,h2,HX0.out];simp[val]
  rw[e1]
  have h5:=HBl3.out
  simp only[Zo7] at h5
  have h6:Zbx w.heap.size w.heap.size (w3.heap.size+1) (Lib.decDigits x0) w3:=Zbx.of h5 (fun c T fz h=>by rw[Array.getElem?_eq_none Za] at h;cases h) (fun c T fz h=>by rw[Array.getElem?_eq_none Za] at h;cases h)
  rw[<- hw4]
  exact h6.keeps ((Keeps.refl (fun _=>True) _).alloc _) trivial (fun _ _ _=>trivial)
 have hpos:0<val 1000000000 (xs.drop L):=by rw[<- HXS.out];exact Zfk n L (by rw[HXS.out];omega)
 have HPOS:=Zpe hpos
 clear hpos HBl3
 obtain⟨ts,hts⟩:=Zpg (xs.take L)
 have HTS:Hid (xs.take L=ts):=hts
 have htl:ts.length=L:=by rw[<- hts,Zo6];omega
 clear hts
 refine ZfF (w3.heap.size+1) hD (gf:=176) (lb:=#[.pointer (some ⟨w3.heap.size,0,none⟩)])
  (f:=fun k=>#[.int .i64 (bk L k:Nat),.int .u64 (lim ts (bk L k):Nat)]) (N:=L) (S:=fun b=>b<w.heap.size\/b=w3.heap.size) (T:=fun _=>True)
  rfl (enters_of Tryz.func176 Zb rfl) (fun _=>rfl) ?iter (fun b h=>Za) ⟨trivial,trivial⟩
  (fun k W=>Zbx w.heap.size w.heap.size (w3.heap.size+1) (Lib.decDigits (val 1000000000 (xs.drop (L-k)))) W/\W.heap[w3.heap.size]?=some (.cells #[.slice (some ⟨nb,off,none⟩) L cap] 110)/\Below w.heap.size w W)
  (fun _ _ _=>False)
  (fun k W1 W2 h hk=>?ci)
  (fun c k W1 W2 h hk=>h.elim) ⟨HBl4.out,hbx4,HB4.out⟩ ?a1 ?assign ?body ?done ?stop
 case ci=>
  obtain⟨h1,h2,h3⟩:=h
  refine⟨h1.keeps hk ⟨trivial,Za,Za⟩ (fun r h4 h5=>⟨trivial,h4,h5⟩),(hk.block _ (Zo9 h2) ⟨trivial,Za,Za⟩).trans h2,h3.trans ⟨hk.os,hk.tape,hk.output,hk.size,fun b hb=>hk.block b (by have:=h3.size;omega) ⟨trivial,Za,Za⟩⟩⟩
 case iter=>
  have:=ZeU w3.heap.size (fun b=>b<w.heap.size\/b=w3.heap.size) (some ⟨nb,off,none⟩) cap ts Za w4 (.inr rfl) (by rw[htl];unfold World.cell?;simp only[hbx4];rfl)
   (fun _=>⟨nb,off,rfl,.inl hnb,fun j hj=>by
    have h1:=(HA.out.below HB4.out hnb) j Za
    rw[h1]
    have h2:ts[j]=xs[j]:=by simp only[<- HTS.out,List.getElem_take]
    rw[h2]⟩)
  rw[htl] at this
  exact this
 case assign=>
  intro l k W K hK
  gi_wp2
  exact hK
 case body=>
  rintro l k W hk ⟨hbld,hbx,hBW⟩ hW ⟨hdd,l',hll⟩
  obtain⟨i,hi⟩:=Zpg (bk L k)
  have hik:Hid (L-k=i+1/\L-(k+1)=i/\i<L):=by unfold bk at hi;exact⟨Za,Za,Za⟩
  obtain⟨x,hx⟩:=Zpg (lim ts (bk L k))
  have hxx:Hid (xs.getD i 0=x):=by
   show _=_
   rw[<- hx,hi,<- HTS.out]
   have:=hik.out.2.2
   unfold lim
   simp only[List.getD,List.getElem?_take_of_lt this]
  rw[hx]
  have hxl:x<1000000000:=by rw[<- hxx.out];exact ZM Za HX.out _
  rw[hik.out.1] at hbld
  have hBS:Beside w3.heap.size #[.slice (some ⟨nb,off,none⟩) L cap] 110 W:=⟨hbx,⟨_,hdd⟩,⟨_,hll⟩⟩
  have hlen:=Zjw HX.out hl (i+1)
  have hlx:(Lib.decDigits x).length<=9:=Z5 Za Za
  obtain⟨c,hc⟩:=Zpg (9-(Lib.decDigits x).length)
  have e9:(9:Int)-((Lib.decDigits x).length:Nat)=(c:Nat):=Za
  have hc9:c<=9:=Za
  have hf:=Zeh x Za W (HT.out _ hBW)
  have HST:Hid (Lib.decDigits (val 1000000000 (xs.drop (L-(k+1))))=Lib.decDigits (val 1000000000 (xs.drop (i+1)))++(List.replicate c 48++Lib.decDigits x)):=by
   show _=_
   rw[hik.out.2.1,<- hc,<- hxx.out]
   exact ZlQ HX.out (by have:=hik.out.2.2;omega) (by rw[<- HXS.out];exact Zfk n _ (by rw[HXS.out];have:=hik.out.2.2;omega))
  obtain⟨tx,htx⟩:=Zpg (Lib.decDigits (val 1000000000 (xs.drop (i+1))))
  rw[htx] at HST hbld hlen
  obtain⟨dx,hdx⟩:=Zpg (Lib.decDigits x)
  rw[hdx] at HST hf hlx e9
  clear hbx hdd hll htx hx hi hc hdx
  gi_wp2_with (gi_at_call 198;refine(CallsIn.inRound l (ZoU.2 hf)).mono ?_;rintro e W1 ⟨rfl,hb1⟩)
  have hbl1:=hbld.keeps (hb1.keepsAll (fun _=>True)) trivial (fun _ _ _=>trivial)
  have hbs1:=hBS.keeps (hb1.keepsAll (fun _=>True)) trivial trivial trivial
  have hsW:=hBW.size
  have hs1:=hb1.size
  have hrep:=Tryz.strings_Repeat ⟨#[48]⟩ c W1 Za (by show 1*c<=_;omega)
  clear hf hbld hBS
  have hrl:(Lib.repeatL (⟨#[48]⟩:ByteArray).data.toList c)=List.replicate c 48:=ZfH 48 c
  rw[hrl] at hrep
  gi_wp2_with (gi_at_call 199;refine(CallsIn.inRound l (ZoU.2 hrep)).mono ?_;rintro e W2 ⟨rfl,hb2⟩)
  have hbl2:=hbl1.keeps (hb2.keepsAll (fun _=>True)) trivial (fun _ _ _=>trivial)
  have hbs2:=hbs1.keeps (hb2.keepsAll (fun _=>True)) trivial trivial trivial
  have hs2:=hb2.size
  have hk2:Keeps (fun i=>i<w.heap.size\/i=w3.heap.size\/i=w3.heap.size+1\/i=w3.heap.size+2) W W2:=(hb1.keepsAll _).trans (hb2.keepsAll _)
  have hw3:=ZcK w.heap.size w.heap.size tx ⟨Array.replicate c 48⟩ W2 hbl2.bld (by rw[<- Zz];simp only[Array.toList_replicate,List.length_replicate];omega) Za
  simp only[Array.toList_replicate] at hw3
  clear hbl1 hbs1 hb1 hb2 hrep hrl hbl2
  refine(CallsIn.inRound l (ZoU.2 hw3)).mono ?_
  rintro e W3 ⟨rfl,hl3,hb3,ho3⟩
  obtain⟨hbs3,hk3,hbl3⟩:=hbs2.written Zd Za hb3 ho3 hl3
  have hs3:=hb3.size
  have HK3:=Zpe (hk2.trans hk3)
  clear hw3 hl3 hb3 ho3 hbs2 hk2 hk3
  have hw4:=ZcK w.heap.size w.heap.size (tx++List.replicate c 48) ⟨dx.toArray⟩ W3 hbl3.bld (by rw[<- Zz,ZoH,List.length_replicate];show _+dx.length<=_;omega) Za
  gi_wp2_with fail
  refine(CallsIn.inRound l (ZoU.2 hw4)).mono ?_
  rintro e W4 ⟨rfl,hl4,hb4,ho4⟩
  obtain⟨hbs4,hk4,hbl4⟩:=hbs3.written Zd Za hb4 ho4 hl4
  have HK4:=Zpe (HK3.out.trans hk4)
  have HB4:Hid (Zbx w.heap.size w.heap.size (w3.heap.size+1) (Lib.decDigits (val 1000000000 (xs.drop (L-(k+1))))) W4):=by
   show Zbx _ _ _ _ _
   rw[HST.out]
   rw[List.append_assoc] at hbl4
   exact hbl4
  have HX4:=Zpe hbs4.box
  clear hw4 hl4 hb4 ho4 hbs3 hk4 hbl4 hbs4
  gi_wp2
  refine⟨HK4.out.mono fun b _ hb=>?_,HB4.out,HX4.out,hBW.trans ⟨HK4.out.os,HK4.out.tape,HK4.out.output,HK4.out.size,fun b hb=>HK4.out.block b Za (.inl hb)⟩⟩
  omega
 case done=>
  rintro W ⟨hbld,hbx,hBW⟩ hdef
  rw[Nat.sub_self,List.drop_zero] at hbld
  have HE:Hid (Lib.decDigits (val 1000000000 xs)=Lib.decDigits n):=by show _=_;rw[<- HXS.out,ZA Za]
  rw[HE.out] at hbld
  have hS:=Tryz.Builder_String_k w.heap.size w.heap.size (Lib.decDigits n) W hbld.bld (ZdP n)
  have hlt:=(Zo9 hdef)
  gi_wp2_with fail
  refine(ZoU.2 hS).mono ?_
  rintro e W5 ⟨rfl,_,hB5,hO5⟩
  have hdef5:=Zpe (hO5 (w3.heap.size+1) _ hdef (by rw[Ne,Option.some.injEq];omega) (fun c fz h=>by cases h))
  have HB5:=Zpe (hBW.trans hB5)
  clear hS hB5 hO5
  gi_wp2
  refine⟨Zc,.inl ⟨_,_,rfl,run_takeDeferred hdef5.out,?_⟩⟩
  refine⟨.string ⟨(Lib.decDigits n).toArray⟩,by simp[results,Tryz.f153,go_sem],rfl,HB5.out.trans ?_⟩
  exact⟨rfl,rfl,rfl,Zc,fun k hk=>ZoJ Za⟩
 case stop=>
  rintro c k W hk h hdef
  exact h.elim
end Go.Proofs.YtmpaflidennnoaaGreatDoor
namespace Go.Proofs.YtmpaflidennnoaaGreatDoor
open Go.RowKit Go.Shelf
def Tabs (w:World):Prop:=Lib.TabIs Tryz.prog w "internal/strconv.uint64pow10" .u64 Lib.pow10Tab
theorem Zez:Tryz.prog.globalNamed "internal/strconv.uint64pow10" = some 3:=Zb
theorem Tabs.below {w w':World} {B:Nat} (h:Tabs w) (hb:Below B w w') (hB:w.heap.size<=B):Tabs w':=Joins.tab_stays Zez h hb hB
theorem Tabs.cell {w:World} (h:Tabs w):∃ v,w.cell? ⟨3,0,none⟩=some v:=⟨_,Lib.TabIs.cell h Zez 0 Zd⟩
theorem Tabs.lt {w:World} (h:Tabs w):3<w.heap.size:=by
 obtain⟨v,hv⟩:=h.cell
 exact ZoK _ _ hv
def Zb8:ByteArray:=⟨#[48,49,50,51,52,53,54,55,56,57]⟩
theorem Zgo (c:UInt8):Zb8.data.toList.contains c=ZG c:=by
 have h:∀ n:Fin 256,([48,49,50,51,52,53,54,55,56,57]:List UInt8).contains (UInt8.ofNat n.val)=ZG (UInt8.ofNat n.val):=by decide +kernel
 have:=h ⟨c.toNat,c.toNat_lt⟩
 simpa[Zb8] using this
theorem Zcm {α:Type} (p:α->Bool):∀ l:List α,l.dropWhile p=[]<->l.all p=true
 | []=>Zc
 | x::l=>by
  rw[List.dropWhile_cons,List.all_cons]
  cases h:p x
  ·simp
  ·simp[Zcm p l]
theorem ZlA (l:List UInt8):Lib.trimS l Zb8.data.toList=[]<->l.all ZG=true:=by
 have e:(fun c=>Zb8.data.toList.contains c)=ZG:=funext Zgo
 unfold Lib.trimS Lib.trimLeftS Lib.trimRightS
 rw[Zcm,e]
 constructor
 ·intro h
  have h1:=h
  rw[List.all_reverse] at h1
  rcases hd:l.reverse.dropWhile ZG with _ | ⟨x,r⟩
  ·have:=(Zcm ZG l.reverse).1 hd
   rwa [List.all_reverse] at this
  ·exfalso
   have h2:=List.head?_dropWhile_not ZG l.reverse
   rw[hd] at h2 h1
   simp at h2 h1
   rw[h1.1] at h2
   exact Zo4 h2 Zc
 ·intro h
  have h1:l.reverse.dropWhile ZG=[]:=(Zcm _ _).2 (by rw[List.all_reverse];exact h)
  rw[h1];rfl
def Z3 (w:World) (b:Bool) (e:Ending) (w':World):Prop:=e=.returned (.bool b)/\Below w.heap.size w w'
theorem ZjR (s:ByteArray) (w:World) (hs:s.size<=9223372036854775807) :
  Calls Tryz.prog 173 #[.string s,.string Zb8] w fun e w'=>(∃ t:ByteArray,e=.returned (.string t)/\(t.data.toList=[]<->s.data.toList.all ZG=true))/\Below w.heap.size w w':=by
 refine(Any.strings_Trim_laid Tryz.lays160 Zb s Zb8 w hs Zd (ascii_of_all (by decide +kernel))).mono ?_
 rintro e w' ⟨rfl,hb⟩
 exact⟨⟨_,rfl,by rw[<- ZlA]⟩,hb⟩
theorem ZfM {s t:ByteArray} (ht:t.data.toList=[]<->s.data.toList.all ZG=true):t.toList.isEmpty=s.data.toList.all ZG:=by
 rw[ZoN]
 cases h2:s.data.toList.all ZG
 ·rw[h2] at ht;simpa using ht
 ·rw[h2] at ht;simpa using ht
theorem Zkf (s:ByteArray) (h:0<s.size):s.data.toList.head?=some 48<->(s[0].toNat:Int)=48:=by
 have h1:s.data.toList.head?=some s[0]:=by
  have:0<s.data.toList.length:=by rw[Zz];exact h
  rw[List.head?_eq_getElem?,ZoL this]
  rfl
 rw[h1]
 constructor
 ·intro h2
  have:=Zou h2
  rw[this];rfl
 ·intro h2
  congr 1
  apply UInt8.toNat_inj.1
  show s[0].toNat=48
  omega
theorem ZgR {s:ByteArray} (h:s.size=0\/600<s.size):ZW s.data.toList=false:=by
 rw[Bool.eq_false_iff]
 intro hc
 have ⟨h1,h2⟩:=Zak hc
 rw[Zz] at h2
 have:s.data.toList.length≠0:=fun h=>h1.ne (ZoC h)
 rw[Zz] at this
 omega
theorem ZkL {s:ByteArray} (h:1<s.size) (h2:s.data.toList.head?=some 48):ZW s.data.toList=false:=by
 rw[Bool.eq_false_iff]
 intro hc
 exact(Zak hc).1.head (by rw[Zz];exact h) h2
theorem Zgs {s:ByteArray} (h0:s.size≠0) (h1:s.size<=600) (h2:1<s.size->s.data.toList.head?≠some 48):ZW s.data.toList=s.data.toList.all ZG:=by
 have h3:s.data.toList≠[]:=fun h=>h0 (by rw[<- Zz,h];rfl)
 unfold ZW Zcu Zdw
 rw[Zz,decide_eq_true h3,decide_eq_true h1,decide_eq_true h2]
 simp
theorem ZaH (s:ByteArray) (w:World) (hs:s.size<=1000000):Calls Tryz.prog 123 #[.string s] w (Z3 w (ZW s.data.toList)):=by
 have hT:=ZjR s w Za
 by_cases h0:s.size=0
 ·have hb:((s.size:Int)==0)=true:=by simp[h0]
  have HP:=Zpe (ZgR (.inl h0))
  clear hT
  go_enter Tryz.func123,Tryz.ntmps123
  go_wp2
  go_ret
  refine⟨?_,Zoq _ _⟩
  rw[HP.out];rfl
 ·by_cases h1:600<s.size
  ·have hb:((s.size:Int)==0)=false:=by simp[h0]
   have hb2:(600:Int)<s.size:=Za
   have HP:=Zpe (ZgR (.inr h1))
   clear hT h0
   go_enter Tryz.func123,Tryz.ntmps123
   go_wp2
   go_ret
   refine⟨?_,Zoq _ _⟩
   rw[HP.out];rfl
  ·have hb:((s.size:Int)==0)=false:=by simp[h0]
   have hb2:¬ (600:Int)<s.size:=Za
   by_cases h2:1<s.size
   ·have hb3:(1:Int)<s.size:=Za
    by_cases h4:(s[0].toNat:Int)=48
    ·have hb4:((s[0].toNat:Int)==48)=true:=by simpa using h4
     have HP:=Zpe (ZkL h2 ((Zkf s Za).2 h4))
     clear h4 hT
     go_enter Tryz.func123,Tryz.ntmps123
     go_wp2
     go_ret
     refine⟨?_,Zoq _ _⟩
     rw[HP.out,<- hb4];rfl
    ·have hb4:((s[0].toNat:Int)==48)=false:=by simpa using h4
     have HP:=Zpe (Zgs h0 Za (fun _ h=>h4 ((Zkf s Za).1 h)))
     clear h4
     go_enter Tryz.func123,Tryz.ntmps123
     go_wp2_with fail
     refine hT.mono ?_
     rintro e w1 ⟨⟨t,rfl,ht⟩,hB⟩
     have HE:Hid (t.toList.isEmpty=ZW s.data.toList):=by show _=_;rw[HP.out];exact ZfM ht
     have HB:=Zpe hB
     clear hB hT ht
     go_wp2
     go_ret
     refine⟨?_,HB.out⟩
     rw[<- HE.out];rfl
   ·have hb3:¬ (1:Int)<s.size:=Za
    have HP:=Zpe (Zgs h0 Za (fun h=>Zo4 h h2))
    go_enter Tryz.func123,Tryz.ntmps123
    go_wp2_with fail
    refine hT.mono ?_
    rintro e w1 ⟨⟨t,rfl,ht⟩,hB⟩
    have HE:Hid (t.toList.isEmpty=ZW s.data.toList):=by show _=_;rw[HP.out];exact ZfM ht
    have HB:=Zpe hB
    clear hB hT ht
    go_wp2
    go_ret
    refine⟨?_,HB.out⟩
    rw[<- HE.out];rfl
def ZfB (w:World) (n:Int) (e:Ending) (w':World):Prop:=e=.returned (.int .i64 n)/\Below w.heap.size w w'
def Zil (w:World) (l:List UInt8) (e:Ending) (w':World):Prop:=∃ s,e=.returned (.string s)/\s=str l/\Below w.heap.size w w'
theorem Num.form {w:World} {v:Value} {n:Nat} (h:Num w v n):∃ p c,v=.slice p (Zp 1000000000 n).length c:=by
 obtain⟨p,c,rfl,_⟩:=h
 exact⟨p,c,rfl⟩
theorem Num.form' {w:World} {v:Value} {n:Nat} (h:Num w v n):∃ p l c,v=.slice p l c:=by
 obtain⟨p,c,rfl,_⟩:=h
 exact⟨p,_,c,rfl⟩
theorem Zmj (p:Option Addr) (c:Nat) (w:World):Calls Tryz.prog 153 #[.slice p 0 c] w (Zil w (Lib.decDigits 0)):=by
 go_enter Tryz.func153,Tryz.ntmps153
 go_wp2
 go_ret
 exact⟨_,rfl,by rw[Zbr];rfl,Zoq _ _⟩
theorem Zf4 {v:Value} {n:Nat} {w:World} (h:Num w v n) (hl:(Zp 1000000000 n).length<=100000) (hT:Tabs w) :
  Calls Tryz.prog 153 #[v] w (Zil w (Lib.decDigits n)):=by
 obtain⟨p,c,rfl,h1,h2,h3⟩:=h
 rcases ZoF n with h0 | h0
 ·subst h0
  have e0:(Zp 1000000000 0).length=0:=by rw[ZO];rfl
  rw[e0]
  exact Zmj p c w
 ·have hp:=(ZaO (B:=1000000000) Za).2 h0
  obtain⟨L,hL⟩:∃ L,(Zp 1000000000 n).length=L+1:=⟨_,(Nat.sub_add_cancel hp).symm⟩
  obtain⟨b,off,rfl,hb,ha⟩:=h3 (Zoy hp)
  rw[hL] at h1 ⊢
  refine(ZlC b off c L _ n hL rfl hl Za w hb ha hT (fun w' hw=>hT.below hw Zpf)).mono ?_
  rintro e w' ⟨rfl,hB⟩
  exact⟨_,rfl,rfl,hB⟩
theorem ZgN {v:Value} {n:Nat} {w:World} (h:Num w v n) (hl:(Zp 1000000000 n).length<=100000) (hT:Tabs w) :
  Calls Tryz.prog 152 #[v] w (ZfB w ((Lib.decDigits n).length:Nat)):=by
 have ht:=Zf4 h hl hT
 go_enter Tryz.func152,Tryz.ntmps152
 go_wp2_with fail
 refine ht.mono ?_
 rintro e w' ⟨s,rfl,hs,hB⟩
 have HS:Hid (s.size=(Lib.decDigits n).length):=by show _=_;rw[hs,Zaz]
 have HB:=Zpe hB
 clear hB hs ht h hT hl
 go_wp2
 go_ret
 refine⟨?_,HB.out⟩
 rw[<- HS.out];rfl
end Go.Proofs.YtmpaflidennnoaaGreatDoor
namespace Go.Proofs.YtmpaflidennnoaaGreatDoor
open Go.RowKit Go.Shelf
attribute [local go_sem] Oper.semAt_some
theorem Ze6 {S:Nat->Prop} {w w':World} {base:Nat} {e:TypeId} {size:Nat} {v:Value} {n:Nat} {xs:List Value} (h:w.ownsRow base e size v n xs) (hk:Keeps S w w') (hS:∀ g,base<=g->S g):w'.ownsRow base e size v n xs:=by
 obtain⟨h1,h2⟩:=h
 refine⟨h1,?_⟩
 rcases h2 with h2 | ⟨g,cap,cur,hv,hb,hg,hr⟩
 ·exact .inl h2
 ·refine .inr ⟨g,cap,cur,hv,hb,?_,hr⟩
  rw[hk.block g (Zo9 hg) (hS g hb)];exact hg
theorem Zhp {w:World} {base:Nat} {e:TypeId} {size:Nat} {v:Value} {n:Nat} {xs:List Value} (h:w.ownsRow base e size v n xs):∀ r,v.ownBlock=some r->base<=r:=by
 rcases h.2 with ⟨rfl,_⟩ | ⟨g,cap,cur,rfl,hb,_⟩
 ·intro r hr;cases hr
 ·intro r hr;have:=Zou hr;subst this;exact hb
def ZbB (s:ByteArray) (k:Nat):List Value:=((List.range k).map (gval s.data.toList)).map fun x:Nat=>Value.int .u64 (x:Nat)
theorem Zf1 (Bs:Nat) (s:ByteArray) (hl:s.size<=1000000) (hd:∀ c ∈ s.data.toList,ZG c=true) (w:World)
  (hBs:w.cell? ⟨Bs,0,none⟩=some (.string s)) (hF:w.frozen? ⟨Bs,0,none⟩=false) :
  Calls Tryz.prog 214 #[.slice none 0 0,.func (.func 215) #[] #[.pointer (some ⟨Bs,0,none⟩)]] w fun e w'=>
   ∃ v,e=.returned v/\w'.ownsRow w.heap.size 158 1 v (Za9 s.data.toList) (ZbB s (Za9 s.data.toList))/\Keeps (fun b=>b<w.heap.size/\b≠Bs) w w':=by
 obtain⟨i0,hi,hz0,hz1,hz2⟩:=info_parts Zco
 have hBl:=ZoK _ _ hBs
 have hfn:∀ k,Fence.wide.fn k:=fun _=>trivial
 refine(ZoU (n:=9)).1 ?_
 refine callsIn_of_wp_marks Tryz.func214 rfl trivial ?_ rfl
 simp only[Tryz.ntmps214,Nat.reduceAdd,Nat.reduceSub,Zpd]
 gi_wp2
 obtain⟨w3,hw3⟩:=Zpg (w.alloc (.cells #[.slice none 0 0] 109))
 rw[hw3]
 have hD:w3.heap.size=w.heap.size+1:=by rw[<- hw3];simp
 have HK3:Hid (∀ S:Nat->Prop,Keeps S w w3):=fun S=>by rw[<- hw3];exact(Keeps.refl S w).alloc _
 have HV3:Hid (w3.cell? ⟨w.heap.size,0,none⟩=some (.slice none 0 0)/\w3.frozen? ⟨w.heap.size,0,none⟩=false):=by rw[<- hw3];exact⟨ZK _ _ _ _ rfl,ZcI _ _ _ _ rfl⟩
 refine Zgc (w.heap.size+1) hD (gf:=215) (lb:=#[.pointer (some ⟨Bs,0,none⟩)])
  (f:=fun k=>#[.int .u64 (gval s.data.toList k:Nat)]) (N:=Za9 s.data.toList) (S:=fun b=>b=Bs) (T:=fun b=>b≠Bs)
  rfl (enters_of Tryz.func215 Zb rfl) (fun _=>rfl) ?iter (fun b h=>Za) ⟨Za,Za⟩
  (fun k W=>(∃ v,W.cell? ⟨w.heap.size,0,none⟩=some v/\W.frozen? ⟨w.heap.size,0,none⟩=false/\W.ownsRow (w.heap.size+3) 158 1 v k (ZbB s k))/\Keeps (fun b=>b<w.heap.size/\b≠Bs) w W)
  (fun _ _ _=>False)
  (fun k W1 W2 h hk=>?ci)
  (fun c k W1 W2 h hk=>h.elim) ⟨⟨_,HV3.out.1,HV3.out.2,⟨by simp[ZbB],.inl ⟨rfl,rfl⟩⟩⟩,HK3.out _⟩ ?a1 ?assign ?body ?done ?stop
 case ci=>
  obtain⟨⟨v,h1,h2,h3⟩,h4⟩:=h
  refine⟨⟨v,hk.cellAt h1 (by simp;omega),?_,Ze6 h3 hk (fun g hg=>by simp;omega)⟩,h4.trans (hk.mono fun b hb1 hb2=>by simp;omega)⟩
  rw[hk.frozen (ZoK _ _ h1) (by simp;omega)];exact h2
 case iter=>
  exact ZjK Bs _ s hl hd w3 rfl ((HK3.out (fun _=>True)).cellAt hBs trivial) (by rw[(HK3.out (fun _=>True)).frozen hBl trivial];exact hF)
 case assign=>
  intro l k W K hK
  gi_wp2
  exact hK
 case body=>
  rintro l k W hk ⟨⟨v,hc,hf,hown⟩,HK⟩ hW
  have HO:=Zpe hown
  have HKh:=Zpe HK
  obtain⟨x,hx⟩:=Zpg (gval s.data.toList k)
  rw[hx]
  have HX:=Zpe hx
  clear HK hx
  have hkl:k<=1000000:=by unfold Za9 at hk;rw[Zz] at hk;omega
  have hm1:k+1<=maxLen:=by unfold maxLen;omega
  have hm2:(k+1)*8<=140737488355328:=Za
  have hm3:w.heap.size+3<=(W.alloc (.cells #[.int .u64 (x:Nat)] 158)).heap.size:=by simp;omega
  have HVB:=Zpe (Zhp hown)
  have hownA:=hown.alloc (.cells #[.int .u64 (x:Nat)] 158)
  gi_wp2_with (gi_at_builtin;go_loud (refine wpListIn_append_own _ rfl (.tmp 8) (.tmp 10) 109 rfl (w.heap.size+3) 158 i0 (.int .u64 0) 1 8 Tryz.underlying109 hi hz0 hz1 hz2 rfl Zd _ k _ rfl hownA ⟨W.heap.size,0,none⟩ 1 1 [.int .u64 (x:Nat)] rfl rfl (cell_one_new _ _ _) (by simp[Value.oneCell']) hm1 hm2 hm3 ?_);intro v' w4 hown4 hgrow4 hnil4;obtain⟨g4,cap4,rfl,hgb4,hgl4⟩:=hown4.form Za;have hk4:Keeps (fun b=>b<w.heap.size+3) W w4:=((Keeps.refl _ W).alloc _).grown hgrow4 (fun r hr=>by have:=HVB.out r hr;omega);go_loud (have hc4:=hk4.cellAt hc (by simp<;>omega);have hf4:=(hk4.frozen (ZoK _ _ hc) (by simp<;>omega)).trans hf;clear hgrow4 hnil4 hc hf))
  have hkk:Keeps (fun b=>b<w.heap.size) W (w4.setCell ⟨w.heap.size,0,none⟩ (.slice (some ⟨g4,0,none⟩) (k+1) cap4)):=
   (hk4.mono (fun b _ hb=>Za)).setCell Zc _
  refine⟨(hk4.mono (fun b _ hb=>?_)).setCell (by simp<;>omega) _,⟨_,World.cell?_setCell_same' _ _ _ (by rw[hc4];rfl),by rw[World.frozen?_setCell];exact hf4,?_⟩,HKh.out.trans (hkk.mono fun b _ hb=>hb.1)⟩
  ·rcases hb with rfl | rfl | rfl<;>omega
  ·have h5:ZbB s (k+1)=ZbB s k++[.int .u64 (x:Nat)]:=by
    unfold ZbB
    rw[List.range_succ,List.map_append,List.map_append,<- HX.out];rfl
   rw[h5]
   refine Ze6 (S:=fun b=>w.heap.size+3<=b) hown4 ((Keeps.refl _ _).setCell Zc _) (fun g hg=>hg)
 case done=>
  rintro W ⟨⟨v,hc,hf,hown⟩,HK⟩ hdef
  have HO:=Zpe hown
  have HKh:=Zpe HK
  have Hdef:=Zpe hdef
  have hlt:=(Zo9 hdef)
  have hbl:=Zpe (Zhp hown)
  clear hown HK hdef
  gi_wp2
  refine⟨Zc,.inl ⟨_,_,rfl,run_takeDeferred Hdef.out,?_⟩⟩
  refine⟨v,by simp[results,Tryz.f214,go_sem],v,rfl,?_,HKh.out.putObj (by simp;omega) _⟩
  have h1:=Ze6 (S:=fun b=>w.heap.size+3<=b) HO.out ((Keeps.refl _ W).putObj (r:=w.heap.size+1) Zc (.deferred none)) (fun g hg=>hg)
  obtain⟨h2,h3⟩:=h1
  refine⟨h2,?_⟩
  rcases h3 with h3 | ⟨g,cap,cur,hv,hb,hr⟩
  ·exact .inl h3
  ·exact .inr ⟨g,cap,cur,hv,Za,hr⟩
 case stop=>
  rintro c k W hk h hdef
  exact h.elim
theorem Zgt (s:ByteArray) (hl:s.size<=1000000) (hd:∀ c ∈ s.data.toList,ZG c=true) (w:World) :
  Calls Tryz.prog 125 #[.string s] w (Zeg w (Zq s.data.toList)):=by
 have HD:=Zpe hd
 clear hd
 go_enter Tryz.func125,Tryz.ntmps125
 go_wp2_with (first | (go_at_call 175;go_in) | (go_at_call 174;go_in))
 have hB0:=ZK w #[.string s] 9 0 rfl
 have hF0:=ZcI w #[.string s] 9 0 rfl
 have hA:=Zf1 w.heap.size s hl HD.out (w.alloc (.cells #[.string s] 9)) hB0 hF0
 clear hB0 hF0
 refine hA.mono ?_
 rintro e w2 ⟨v,rfl,hown,hk⟩
 have hsz:(w.alloc (.cells #[.string s] 9)).heap.size=w.heap.size+1:=Zc
 have hB2:Below w.heap.size w w2:=by
  refine((Zoq w.heap.size w).alloc Zpf (.cells #[.string s] 9)).trans ?_
  exact⟨hk.os,hk.tape,hk.output,hk.size,fun b hb=>hk.block b (by rw[hsz];omega) ⟨by rw[hsz];omega,Za⟩⟩
 clear hA hk
 obtain⟨N,hN⟩:=Zpg (Za9 s.data.toList)
 rw[hN] at hown
 obtain⟨xs,hxs⟩:=Zpg ((List.range N).map (gval s.data.toList))
 have hcells:ZbB s N=xs.map fun x:Nat=>Value.int .u64 (x:Nat):=by rw[<- hxs];rfl
 have hxl:xs.length=N:=by rw[<- hxs];simp
 have hxd:∀ x ∈ xs,x<1000000000:=by
  rw[<- hxs];intro x hx
  obtain⟨k,_,rfl⟩:=List.mem_map.1 hx
  exact ZnR HD.out k
 have hval:val 1000000000 xs=Zq s.data.toList:=by rw[<- hxs,<- hN];exact ZgZ _
 rw[hcells] at hown
 have HB2:=Zpe hB2
 have HV:=Zpe hval
 clear hN hxs hcells hB2 hval
 rcases hown.2 with ⟨rfl,h0⟩ | ⟨g,cap,cur,rfl,hgb,hgr,hle,hcap,hr⟩
 ·subst h0
  obtain rfl:xs=[]:=ZoC hxl
  have ht:=Zdo none 0 [] w2 Zpf (ZoD _) (fun x h=>by cases h) (fun h=>Zo4 rfl h)
  have h2:Zq s.data.toList=0:=HV.out.symm
  have h3:Zp 1000000000 (val 1000000000 [])=[]:=by rw[show val 1000000000 []=0 from rfl,ZO]
  rw[h3] at ht
  have H2:=Zpe h2
  clear hown h2 h3
  go_wp2_with fail
  refine ht.mono ?_
  rintro e w' ⟨rfl,rfl⟩
  clear ht
  go_wp2
  go_ret
  exact⟨_,rfl,by rw[H2.out];exact Zin _ _ _ (ZoD _),HB2.out⟩
 ·have hrow:Row .u64 158 w2 0 g cap xs:=by subst hxl;exact⟨hown.1,by
   rcases hown.2 with h | ⟨g',cap',cur',h1,_,h3⟩
   ·exact .inl h
   ·exact .inr ⟨g',cap',cur',h1,ZoD _,h3⟩⟩
  have ht:=Zcr hrow hxd N hxl.symm (Zq s.data.toList) HV.out
  clear hrow hown hgr hr
  go_wp2_with fail
  refine ht.mono ?_
  rintro e w' ⟨rfl,rfl,hr2⟩
  have HN:=Zpe (show Zc4 0 w2 _ _ from ⟨_,_,rfl,hr2⟩).num
  clear ht hr2
  go_wp2
  go_ret
  exact⟨_,rfl,HN.out,HB2.out⟩
end Go.Proofs.YtmpaflidennnoaaGreatDoor
namespace Go.Proofs.YtmpaflidennnoaaGreatDoor
open Go.RowKit Go.Shelf
theorem Num.keepsBut {w w':World} {v:Value} {n b:Nat} {cs:Array Value} {T:TypeId} (h:Num w v n) (hb:w.heap[b]?=some (.cells cs T (0,0))) (hcs:∀ (j:Nat) (x:Int),cs[j]?≠some (.int .u64 x)) (hk:Keeps (fun i=>i≠b) w w'):Num w' v n:=by
 obtain⟨p,cap,rfl,h1,h2,h3⟩:=h
 refine⟨p,cap,rfl,h1,h2,fun hne=>?_⟩
 obtain⟨b',off,rfl,hlt,ha⟩:=h3 hne
 refine⟨b',off,rfl,Zox hlt hk.size,?_⟩
 have hbb:b'≠b:=by
  rintro rfl
  have hpos:0<(Zp 1000000000 n).length:=List.length_pos_iff.2 hne
  have h4:=ha 0 hpos
  unfold World.cell? at h4
  simp only[hb] at h4
  exact hcs _ _ h4
 exact ha.keeps hk hbb
theorem Zhh (v1 v2:Value) (h1:∀ x:Int,v1≠.int .u64 x) (h2:∀ x:Int,v2≠.int .u64 x):∀ (j:Nat) (x:Int),(#[v1,v2]:Array Value)[j]?≠some (.int .u64 x)
 | 0,x=>by simpa using h1 x
 | 1,x=>by simpa using h2 x
 | j+2,x=>Zc
theorem Zhn {w:World} {b:Nat} (i j:Nat) (h:i≠j) {u:Value} : (w.setCell ⟨b,i,none⟩ u).cell? ⟨b,j,none⟩=w.cell? ⟨b,j,none⟩:=World.cell?_setCell_other w _ _ u (by simp[h])
def Zm9 (w:World) (n d:Nat) (e:Ending) (w':World):Prop:=∃ vn vd,e=.returned (.agg #[vn,vd])/\Num w' vn n/\Num w' vd d/\Below w.heap.size w w'
theorem Zdd (s t:ByteArray) (hl:s.size<=1000000) (hl2:t.size<=1000000) (hd:∀ c ∈ s.data.toList,ZG c=true) (hd2:∀ c ∈ t.data.toList,ZG c=true) (w:World) :
  Calls Tryz.prog 67 #[Zpb s t] w (Zm9 w (Zq s.data.toList) (Zq t.data.toList)):=by
 have HD:=Zpe hd
 have HD2:=Zpe hd2
 clear hd hd2
 go_enter Tryz.func67,Tryz.ntmps67
 go_wp2_with fail
 obtain⟨w3,hw3⟩:=Zpg ((w.alloc (Zpc s t)).alloc (.cells #[.slice none 0 0,.slice none 0 0] 112))
 have hsz:w3.heap.size=w.heap.size+2:=by rw[<- hw3];simp
 have c0:w3.cell? ⟨w.heap.size,0,none⟩=some (.string s):=by rw[<- hw3,Zaj _ _ _ Zc];exact ZK _ _ _ _ rfl
 have c1:w3.cell? ⟨w.heap.size,1,none⟩=some (.string t):=by rw[<- hw3,Zaj _ _ _ Zc];exact ZK _ _ _ _ rfl
 have b3:w3.heap[w.heap.size+1]?=some (.cells #[.slice none 0 0,.slice none 0 0] 112 (0,0)):=by
  rw[<- hw3]
  have:=Zot (w.alloc (Zpc s t)) (.cells #[.slice none 0 0,.slice none 0 0] 112)
  simpa using this
 have HB3:Zo8 w w3:=by rw[<- hw3];exact((Zoq _ w).alloc Zpf _).alloc Zc _
 rw[hw3]
 clear hw3
 go_region_with (go_at_call 125;first
  | go_loud (refine(Zgt s hl HD.out _).mono ?_;rintro e w4 ⟨v1,rfl,hv1,hB4⟩;have c1':w4.cell? ⟨w.heap.size,1,none⟩=some (.string t):=(hB4.cell (p:=⟨w.heap.size,1,none⟩) (by show w.heap.size<w3.heap.size;omega)).trans c1;have hsz4:w3.heap.size<=w4.heap.size:=hB4.size;have b4:w4.heap[w.heap.size+1]?=some (.cells #[.slice none 0 0,.slice none 0 0] 112 (0,0)):=(hB4.block (w.heap.size+1) (by show _<w3.heap.size;omega)).trans b3;have HN4:=Zpe hv1;have HB4:Zo8 w w4:=HB3.out.drew.trans (hB4.mono (by show w.heap.size<=w3.heap.size;omega));clear hB4;obtain⟨p1,k1,rfl,_,_,_⟩:=hv1)
  | go_loud (refine(Zgt t hl2 HD2.out _).mono ?_;rintro e w5 ⟨v2,rfl,hv2,hB5⟩;have b5:w5.heap[w.heap.size+1]?=some (.cells #[.slice none 0 0,.slice none 0 0] 112 (0,0)):=(hB5.block (w.heap.size+1) (by show _<w4.heap.size;omega)).trans b4;have HN5:=Zpe (HN4.out.below hB5 Zpf);have HM5:=Zpe hv2;have HB5:Zo8 w w5:=HB4.out.trans (hB5.mono Za);have d0:=Zn b5 0 (v:=.slice none 0 0) rfl;have d1:=Zn b5 1 (v:=.slice none 0 0) rfl;have f0:=Zo b5 0;have f1:=Zo b5 1;clear hB5;obtain⟨p2,k2,rfl,_,_,_⟩:=hv2))
 all_goals
  obtain⟨l1,hl1⟩:=Zpg ((Zp 1000000000 (Zq s.data.toList)).length)
  obtain⟨l2,hl2⟩:=Zpg ((Zp 1000000000 (Zq t.data.toList)).length)
  rw[hl1] at HN5
  rw[hl2] at HM5
  rw[hl1,hl2]
  obtain⟨w6,hw6⟩:=Zpg ((w5.setCell ⟨w.heap.size+1,0,none⟩ (.slice p1 l1 k1)).setCell ⟨w.heap.size+1,1,none⟩ (.slice p2 l2 k2))
  have hk6:Keeps (fun i=>i≠w.heap.size+1) w5 w6:=by rw[<- hw6];exact((Keeps.refl _ w5).setCell Zc _).setCell Zc _
  have r0:w6.cell? ⟨w.heap.size+1,0,none⟩=some (.slice p1 l1 k1):=by
   rw[<- hw6,Zhn 1 0 Zd]
   exact World.cell?_setCell_same' _ _ _ (by rw[d0];rfl)
  have r1:w6.cell? ⟨w.heap.size+1,1,none⟩=some (.slice p2 l2 k2):=by
   rw[<- hw6]
   exact World.cell?_setCell_same' _ _ _ (by rw[Zhn 0 1 Zd,d1];rfl)
  have HN6:=Zpe (HN5.out.keepsBut b5 (Zhh _ _ (fun x h=>by cases h) (fun x h=>by cases h)) hk6)
  have HM6:=Zpe (HM5.out.keepsBut b5 (Zhh _ _ (fun x h=>by cases h) (fun x h=>by cases h)) hk6)
  have HB6:Zo8 w w6:=HB5.out.trans ⟨hk6.os,hk6.tape,hk6.output,hk6.size,fun k hk=>hk6.block k (by have:=HB5.out.size;omega) Za⟩
  rw[hw6]
  clear hw6 hk6 c0 c1 c1' d0 d1 f0 f1 b3 b4 b5
  go_wp2
  refine Zor (v:=.agg #[.slice p1 l1 k1,.slice p2 l2 k2]) ?_ rfl ⟨_,_,rfl,HN6.out,HM6.out,HB6.out⟩
  simp[results,Tryz.f67,go_sem,r0,r1]
def ZL (R:ByteArray->ByteArray->Int->Prop) (w:World) (e:Ending) (w':World):Prop:=
 ∃ s t n,e=.returned (.tuple #[Zpb s t,.int .i64 n])/\R s t n/\Below w.heap.size w w'
theorem Num.after {w w':World} {v:Value} {n B:Nat} (h:Num w v n) (hb:Below B w w') (hB:w.heap.size<=B):Num w' v n:=Nums.below h hb hB
theorem ZdK {v1 v2:Value} {n d:Nat} {w:World} (h1:Num w v1 n) (h2:Num w v2 d) (hl1:(Zp 1000000000 n).length<=100000) (hl2:(Zp 1000000000 d).length<=100000) (hd:0<d) (hT:Tabs w) :
  Calls Tryz.prog 101 #[.agg #[v1,v2]] w (ZL (Ans (mkRat (n:Nat) d)) w):=by
 obtain⟨g,hg⟩:=Zpg (Nat.gcd n d)
 have hg0:0<g:=by rw[<- hg];exact Nat.gcd_pos_of_pos_right _ hd
 have hgl:(Zp 1000000000 g).length<=100000:=Zoz (ZN Za (by rw[<- hg];exact Nat.gcd_le_right _ hd)) hl2
 have HQ:Hid (numD (mkRat (n:Nat) d)=Lib.decDigits (n/g)/\denD (mkRat (n:Nat) d)=Lib.decDigits (d/g)):=by rw[<- hg];exact ZdM n hd
 obtain⟨p1,l1,c1,rfl⟩:=h1.form'
 obtain⟨p2,l2,c2,rfl⟩:=h2.form'
 have H1:=Zpe h1
 have H2:=Zpe h2
 have HT:=Zpe hT
 have HG0:=Zpe hg
 clear h1 h2 hT hg
 go_enter Tryz.func101,Tryz.ntmps101
 go_wp2_with fail
 obtain⟨w1,hw1⟩:=Zpg ((w.alloc (.cells #[.slice p1 l1 c1,.slice p2 l2 c2] 112)).alloc (Zpc Zpa Zpa))
 rw[hw1]
 have HX1:Hid (Zv w.heap.size [.cells #[.slice p1 l1 c1,.slice p2 l2 c2] 112,Zpc Zpa Zpa] w1):=by rw[<- hw1];exact Zv.two w _ _
 have HB1:Zo8 w w1:=by rw[<- hw1];exact((Zoq _ w).alloc Zpf _).alloc Zc _
 clear hw1
 refine(Zj5 (H1.out.after HB1.out Zpf) (H2.out.after HB1.out Zpf) hl1 hl2).mono ?_
 rintro e w2 ⟨vg,rfl,hG,hb2⟩
 obtain⟨pg,lg,cg,rfl⟩:=hG.form'
 rw[HG0.out] at hG
 have HG:=Zpe hG
 have HB2:=Zpe (HB1.out.trans (hb2.mono HB1.out.size))
 have HX2:=Zpe (HX1.out.below hb2 HX1.out.lt)
 clear hG hb2
 have c20:=HX2.out.cell 0 0 (b:=w.heap.size) rfl rfl rfl
 have c21:=HX2.out.cell 0 1 (b:=w.heap.size) rfl rfl rfl
 go_wp2_with fail
 refine(Zgd (H1.out.after HB2.out Zpf) HG.out hl1 hgl hg0).mono ?_
 rintro e w3 ⟨vn,vr,rfl,hN,_,hb3⟩
 obtain⟨pn,ln,cn,rfl⟩:=hN.form'
 have HN3:=Zpe hN
 have HG3:=Zpe (HG.out.after hb3 Zpf)
 have HB3:=Zpe (HB2.out.trans (hb3.mono HB2.out.size))
 have HX3:=Zpe (HX2.out.below hb3 HX2.out.lt)
 clear hN hb3 c20 c21
 have c31:=HX3.out.cell 0 1 (b:=w.heap.size) rfl rfl rfl
 go_wp2_with fail
 refine(Zgd (H2.out.after HB3.out Zpf) HG3.out hl2 hgl hg0).mono ?_
 rintro e w4 ⟨vd,vs,rfl,hD,_,hb4⟩
 obtain⟨pd,ld,cd,rfl⟩:=hD.form'
 have HD4:=Zpe hD
 have HN4:=Zpe (HN3.out.after hb4 Zpf)
 have HB4:=Zpe (HB3.out.trans (hb4.mono HB3.out.size))
 have HX4:=Zpe (HX3.out.below hb4 HX3.out.lt)
 clear hD hb4 c31
 have hln:(Zp 1000000000 (n/g)).length<=100000:=Zoz (ZN Za (Nat.div_le_self _ _)) hl1
 have hld:(Zp 1000000000 (d/g)).length<=100000:=Zoz (ZN Za (Nat.div_le_self _ _)) hl2
 go_wp2_with fail
 refine(ZgN HN4.out hln (HT.out.below HB4.out Zpf)).mono ?_
 rintro e w5 ⟨rfl,hb5⟩
 have HD5:=Zpe (HD4.out.after hb5 Zpf)
 have HN5:=Zpe (HN4.out.after hb5 Zpf)
 have HB5:=Zpe (HB4.out.trans (hb5.mono HB4.out.size))
 have HX5:=Zpe (HX4.out.below hb5 HX4.out.lt)
 clear hb5
 obtain⟨m1,hm1⟩:=Zpg ((Lib.decDigits (n/g)).length)
 obtain⟨m2,hm2⟩:=Zpg ((Lib.decDigits (d/g)).length)
 rw[hm1]
 have HM1:=Zpe hm1
 have HM2:=Zpe hm2
 clear hm1 hm2
 by_cases hc1:600<m1
 ·have e1:(600:Int)<(m1:Nat):=Za
  have r0:=HX5.out.cell 1 0 (b:=w.heap.size+1) rfl rfl rfl
  have r1:=HX5.out.cell 1 1 (b:=w.heap.size+1) rfl rfl rfl
  have f0:=HX5.out.free 1 0 (b:=w.heap.size+1) rfl rfl
  have f1:=HX5.out.free 1 1 (b:=w.heap.size+1) rfl rfl
  go_wp2
  have q:=Zu (HX5.out.block 1 (b:=w.heap.size+1) rfl rfl) (.string Zpa) (.string Zpa)
  have HBQ:=Zpe (Zs HB5.out (b:=w.heap.size+1) Za (.string Zpa) (.string Zpa))
  obtain⟨w9,hw9⟩:=Zpg ((w5.setCell ⟨w.heap.size+1,0,none⟩ (.string Zpa)).setCell ⟨w.heap.size+1,1,none⟩ (.string Zpa))
  rw[hw9] at q HBQ
  obtain⟨q0,q1⟩:=q
  rw[hw9]
  clear r0 r1 f0 f1 hw9
  go_wp2
  refine Zor (v:=.tuple #[Zpb Zpa Zpa,.int .i64 4]) (by simp[results,Tryz.f101,go_sem,q0,q1]) rfl ⟨_,_,_,rfl,?_,HBQ.out⟩
  exact .inr ⟨fun hf=>by have:=hf.1;rw[HQ.out.1,HM1.out] at this;omega,rfl,rfl,rfl⟩
 ·have e1:¬ (600:Int)<(m1:Nat):=Za
  go_wp2_with fail
  refine(ZgN HD5.out hld (HT.out.below HB5.out Zpf)).mono ?_
  rintro e w6 ⟨rfl,hb6⟩
  have HD6:=Zpe (HD5.out.after hb6 Zpf)
  have HN6:=Zpe (HN5.out.after hb6 Zpf)
  have HB6:=Zpe (HB5.out.trans (hb6.mono HB5.out.size))
  have HX6:=Zpe (HX5.out.below hb6 HX5.out.lt)
  clear hb6
  rw[HM2.out]
  by_cases hc2:600<m2
  ·have e2:(600:Int)<(m2:Nat):=Za
   have r0:=HX6.out.cell 1 0 (b:=w.heap.size+1) rfl rfl rfl
   have r1:=HX6.out.cell 1 1 (b:=w.heap.size+1) rfl rfl rfl
   have f0:=HX6.out.free 1 0 (b:=w.heap.size+1) rfl rfl
   have f1:=HX6.out.free 1 1 (b:=w.heap.size+1) rfl rfl
   go_wp2
   have q:=Zu (HX6.out.block 1 (b:=w.heap.size+1) rfl rfl) (.string Zpa) (.string Zpa)
   have HBQ:=Zpe (Zs HB6.out (b:=w.heap.size+1) Za (.string Zpa) (.string Zpa))
   obtain⟨w9,hw9⟩:=Zpg ((w6.setCell ⟨w.heap.size+1,0,none⟩ (.string Zpa)).setCell ⟨w.heap.size+1,1,none⟩ (.string Zpa))
   rw[hw9] at q HBQ
   obtain⟨q0,q1⟩:=q
   rw[hw9]
   clear r0 r1 f0 f1 hw9
   go_wp2
   refine Zor (v:=.tuple #[Zpb Zpa Zpa,.int .i64 4]) (by simp[results,Tryz.f101,go_sem,q0,q1]) rfl ⟨_,_,_,rfl,?_,HBQ.out⟩
   exact .inr ⟨fun hf=>by have:=hf.2;rw[HQ.out.2,HM2.out] at this;omega,rfl,rfl,rfl⟩
  ·have e2:¬ (600:Int)<(m2:Nat):=Za
   go_wp2_with fail
   refine(Zf4 HN6.out hln (HT.out.below HB6.out Zpf)).mono ?_
   rintro e w7 ⟨s,rfl,hs,hb7⟩
   have HS:=Zpe hs
   have HD7:=Zpe (HD6.out.after hb7 Zpf)
   have HB7:=Zpe (HB6.out.trans (hb7.mono HB6.out.size))
   have HX7:=Zpe (HX6.out.below hb7 HX6.out.lt)
   clear hb7 hs
   go_wp2_with fail
   refine(Zf4 HD7.out hld (HT.out.below HB7.out Zpf)).mono ?_
   rintro e w8 ⟨t,rfl,ht,hb8⟩
   have HT8:=Zpe ht
   have HB8:=Zpe (HB7.out.trans (hb8.mono HB7.out.size))
   have HX8:=Zpe (HX7.out.below hb8 HX7.out.lt)
   clear hb8 ht
   have r0:=HX8.out.cell 1 0 (b:=w.heap.size+1) rfl rfl rfl
   have r1:=HX8.out.cell 1 1 (b:=w.heap.size+1) rfl rfl rfl
   have f0:=HX8.out.free 1 0 (b:=w.heap.size+1) rfl rfl
   have f1:=HX8.out.free 1 1 (b:=w.heap.size+1) rfl rfl
   go_wp2
   have q:=Zu (HX8.out.block 1 (b:=w.heap.size+1) rfl rfl) (.string s) (.string t)
   have HBQ:=Zpe (Zs HB8.out (b:=w.heap.size+1) Za (.string s) (.string t))
   obtain⟨w9,hw9⟩:=Zpg ((w8.setCell ⟨w.heap.size+1,0,none⟩ (.string s)).setCell ⟨w.heap.size+1,1,none⟩ (.string t))
   rw[hw9] at q HBQ
   obtain⟨q0,q1⟩:=q
   rw[hw9]
   clear r0 r1 f0 f1 hw9
   go_wp2
   refine Zor (v:=.tuple #[Zpb s t,.int .i64 0]) (by simp[results,Tryz.f101,go_sem,q0,q1]) rfl ⟨_,_,_,rfl,?_,HBQ.out⟩
   refine .inl ⟨⟨ZcH _ _,?_,?_,?_⟩,rfl⟩
   ·rw[HS.out,HQ.out.1]
   ·rw[HT8.out,HQ.out.2]
   ·unfold Fits
    rw[HQ.out.1,HQ.out.2,HM1.out,HM2.out]
    omega
theorem ZkE {n k j:Nat} (h:n<10 ^ k) (hj:k<=9*j):(Zp 1000000000 n).length<=j:=by
 refine Zab Za (Zox h ?_)
 have e:(1000000000:Nat) ^ j=10 ^ (9*j):=by rw[Nat.pow_mul]
 rw[e]
 exact ZoB Za hj
theorem Zb1 {s:ByteArray} (hd:∀ c ∈ s.data.toList,ZG c=true) {j:Nat} (hj:s.size<=9*j):(Zp 1000000000 (Zq s.data.toList)).length<=j:=
 ZkE (ZbV hd) (by rw[Zz];exact hj)
end Go.Proofs.YtmpaflidennnoaaGreatDoor
