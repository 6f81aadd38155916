/- The parts BelSF. -/
import Derived.Test.YtjmckebecpjjfaaGreatDoorK102
set_option maxRecDepth 100000
set_option maxHeartbeats 8000000
set_option linter.unusedVariables false
set_option linter.unusedSimpArgs false
namespace Go.Proofs.YtjmckebecpjjfaaGreatDoor
open Go.RowKit Go.Shelf
attribute [local go_sem] Oper.semAt_some
abbrev kbO (m:Nat):Obj:=.cells #[.map (some m)] 124
abbrev fnO (v:Value):Obj:=.cells #[v] 123
def KOk (b:BelP) (ns:List NoteP) (K:Nat) (Ks:Kl):Prop:=∀ z ∈ Ks,ZC b ns (K-z.1.1) z.1.1 z.1.2=.ok z.2
def KInv (b:BelP) (ns:List NoteP) (K m:Nat) (W:World):Prop:=∃ Ks,Zcr W m Ks/\KOk b ns K Ks
theorem KInv.stay {b:BelP} {ns:List NoteP} {K m:Nat} {W W':World} (h:KInv b ns K m W) (hw:W'.heap[m]?=W.heap[m]?):KInv b ns K m W':=by
 obtain⟨Ks,h1,h2⟩:=h
 exact⟨Ks,Zh4 h1 hw,h2⟩
theorem KInv.lt {b:BelP} {ns:List NoteP} {K m:Nat} {W:World} (h:KInv b ns K m W):m<W.heap.size:=by
 obtain⟨Ks,h1,_⟩:=h
 exact Zja h1
theorem KInv.step {b:BelP} {ns:List NoteP} {K m:Nat} {W W':World} (h:KInv b ns K m W) (hb:Below W.heap.size W W'):KInv b ns K m W':=h.stay (hb.block m h.lt)
theorem KInv.map {b:BelP} {ns:List NoteP} {K m:Nat} {W:World} (h:KInv b ns K m W):∃ es cl,W.heap[m]?=some (.map es cl):=by
 obtain⟨Ks,⟨⟨es,cl,h1,_⟩,_⟩,_⟩:=h
 exact⟨es,cl,h1⟩
structure SmIn (b:BelP) (lv sv nl:Value) (K S0 KB BB NB NC FC m:Nat) (w W:World):Prop where
 base:Below w.heap.size w W
 s0:W.heap[S0]?=some (inO K)
 kb:W.heap[KB]?=some (kbO m)
 bb:W.heap[BB]?=some (belO b lv sv)
 nb:W.heap[NB]?=some (nsO nl)
 nc:W.heap[NC]?=some (fnO (.func (.func 56) #[] #[.pointer (some ⟨NB,0,none⟩)]))
 fc:W.heap[FC]?=some (fnO (.func (.func 59) #[] #[.pointer (some ⟨S0,0,none⟩),.pointer (some ⟨KB,0,none⟩),.pointer (some ⟨BB,0,none⟩),.pointer (some ⟨NC,0,none⟩),.pointer (some ⟨FC,0,none⟩)]))
 hm:w.heap.size<=m
 ne:(S0≠m/\KB≠m/\BB≠m)/\NB≠m/\NC≠m/\FC≠m
theorem SmIn.keep {b:BelP} {lv sv nl:Value} {K S0 KB BB NB NC FC m:Nat} {w W W':World} (h:SmIn b lv sv nl K S0 KB BB NB NC FC m w W) (hk:Keeps (NotM m) W W'):SmIn b lv sv nl K S0 KB BB NB NC FC m w W':=by
 obtain⟨⟨n1,n2,n3⟩,n4,n5,n6⟩:=h.ne
 have hb:∀ {x:Nat} {o:Obj},W.heap[x]?=some o->x≠m->W'.heap[x]?=some o:=fun hx hn=>(hk.block _ (ZqC hx) hn).trans hx
 have:=h.hm
 exact⟨h.base.trans ((hk.mono (S':=fun b=>b<w.heap.size) fun b _ hb=>by show b≠m;omega).toBelow h.base.size),hb h.s0 n1,hb h.kb n2,hb h.bb n3,hb h.nb n4,hb h.nc n5,hb h.fc n6,h.hm,h.ne⟩
def Zef (b:BelP) (ns:List NoteP) (K m:Nat) (r:Except Int Rat) (W:World) (e:Ending) (W':World):Prop:=Zd0 r e/\KInv b ns K m W'/\Keeps (fun x=>x≠m/\x<W.heap.size) W W'
theorem ZaL {S:Nat->Prop} {w w':World} (h:Keeps (fun x=>S x/\x<w.heap.size) w w'):Keeps S w w':=⟨h.os,h.tape,h.output,h.size,fun k hk hs=>h.block k hk ⟨hs,hk⟩⟩
theorem ZnL {b:BelP} {ns:List NoteP} {K m:Nat} {r:Except Int Rat} {W:World} (e:Ending) (w w':World) (h:Zef b ns K m r W e w) (hk:Keeps (fun b=>¬ (W.heap.size<=b/\w.heap[b]?=some (.deferred (some [])))) w w'):Zef b ns K m r W e w':=by
 obtain⟨h1,h2,h3⟩:=h
 refine⟨h1,h2.stay (hk.block m h2.lt ?_),h3.trans (hk.mono fun x _ hx hc=>Za)⟩
 rintro⟨_,hc⟩
 obtain⟨es,cl,hm⟩:=h2.map
 rw[hm] at hc
 cases hc
def FlS (W:World) (_:Unit) (g:Option Nat) (V:World):Prop:=Below W.heap.size W V/\∀ k,g=some k->V.heap[k]?=some (pObj ZqD ZqD)/\W.heap.size<=k
theorem FlS.push {W V:World} {j:Unit} (h:FlS W j none V):FlS W j (some V.heap.size) (V.alloc (pObj ZqD ZqD)):=
 ⟨h.1.alloc h.1.size _,fun k e=>by obtain rfl:=ZpZ e;exact⟨ZpY V _,h.1.size⟩⟩
theorem FlS.base {W V V':World} {j:Unit} {g:Option Nat} (h:FlS W j g V) (hb:Below V.heap.size V V'):FlS W j g V':=
 ⟨h.1.trans (hb.mono h.1.size),fun k e=>⟨(hb.block _ (ZpU.1 (h.2 k e).1).1).trans (h.2 k e).1,(h.2 k e).2⟩⟩
theorem Zkf {q c s:Rat} {y:Except Int Rat} (h:¬ Fits (c*q)):Zaw (.ok q) c y s=.error 4:=by
 unfold Zaw mulF
 simp only[if_neg h]
theorem Zni {q c s:Rat} {e:Int} (h:Fits (c*q)):Zaw (.ok q) c (.error e) s=.error e:=by
 unfold Zaw mulF
 simp only[if_pos h]
theorem ZlV {q c r s:Rat} (h:Fits (c*q)) (h2:¬ Fits (c*q*r)):Zaw (.ok q) c (.ok r) s=.error 4:=by
 unfold Zaw mulF
 simp only[if_pos h,if_neg h2]
theorem ZmB {q c r s:Rat} (h:Fits (c*q)) (h2:Fits (c*q*r)) (h3:¬ Fits (s+c*q*r)):Zaw (.ok q) c (.ok r) s=.error 4:=by
 unfold Zaw mulF
 simp only[if_pos h,if_pos h2,if_neg h3]
theorem ZlT {q c r s:Rat} (h:Fits (c*q)) (h2:Fits (c*q*r)) (h3:Fits (s+c*q*r)):Zaw (.ok q) c (.ok r) s=.ok (s+c*q*r):=by
 unfold Zaw mulF
 simp only[if_pos h,if_pos h2,if_pos h3]
def FolA (NC FC Q0 P0 q1 q2:Nat) (a':Act):Prop:=∃ (yy0 yy1 yy2 yy3 yy7 yy9 yy10 yy11 yy12 yy15 yy16 yy17 yy18 yy19 yy20 yy21 yy22 yy23 yy24 yy25 yy26 yy27 yy28 yy29 yy30 yy31 yy32 yy33 yy34 yy35 yy36 yy37 yy38 yy39 yy40 yy41 yy42 yy43 yy44 yy45 yy46 yy47 yy48 yy49 yy50 yy51 yy52 yy53 yy54 yy55 yy56 yy57 yy58 yy59 yy60 yy61 yy62 yy63 yy64 yy65 yy66 yy67 yy68 yy69 yy70 yy71 yy72 yy73 yy74 yy75 yy76 yy77 yy78 yy79 yy80 yy81 yy82 yy83 yy84 yy85 yy86 yy87 yy88:Value),a' = { tmps:=#[yy0,yy1,yy2,yy3,.pointer (some ⟨NC,0,none⟩),.pointer (some ⟨FC,0,none⟩),.pointer (some ⟨Q0,0,none⟩),yy7,.pointer (some ⟨P0,0,none⟩),yy9,yy10,yy11,yy12,.pointer (some ⟨q1,0,none⟩),.pointer (some ⟨q2,0,none⟩),yy15,yy16,yy17,yy18,yy19,yy20,yy21,yy22,yy23,yy24,yy25,yy26,yy27,yy28,yy29,yy30,yy31,yy32,yy33,yy34,yy35,yy36,yy37,yy38,yy39,yy40,yy41,yy42,yy43,yy44,yy45,yy46,yy47,yy48,yy49,yy50,yy51,yy52,yy53,yy54,yy55,yy56,yy57,yy58,yy59,yy60,yy61,yy62,yy63,yy64,yy65,yy66,yy67,yy68,yy69,yy70,yy71,yy72,yy73,yy74,yy75,yy76,yy77,yy78,yy79,yy80,yy81,yy82,yy83,yy84,yy85,yy86,yy87,yy88],defers:=[] }
def folG (b:BelP) (ns:List NoteP) (d t:Nat) (p:Pl) (i:Nat) (s:Rat):Except Int Rat:=Zaw (ZaU ns (t+1) (Z6 b p (stA (Zw b p.1) i))) (qP (stA (Zw b p.1) i).chance) (ZC b ns d (t+1) (Z6 b p (stA (Zw b p.1) i))) s
theorem ZkD {b:BelP} {lv sv nl:Value} {ns:List NoteP} {K S0 KB BB NB NC FC m:Nat} {w:World} (h:BelIn b lv sv w) (hb:ZF b=true) (hl:NotesIn ns nl w) (hn:∀ k,k<ns.length->ZH b (ntA ns k)=true) (hK:K<=32) :
  ∀ (d t:Nat) (p:Pl) (W:World),t+d=K->PlcB b p->SmIn b lv sv nl K S0 KB BB NB NC FC m w W->KInv b ns K m W->
   Calls Tryz.prog 59 #[kMo t p,.pointer (some ⟨S0,0,none⟩),.pointer (some ⟨KB,0,none⟩),.pointer (some ⟨BB,0,none⟩),.pointer (some ⟨NC,0,none⟩),.pointer (some ⟨FC,0,none⟩)] W (Zef b ns K m (ZC b ns d t p) W):=by
 have HH:=ZqH h
 have HCB:=ZqH hb
 have HL:=ZqH hl
 have HNB:=ZqH hn
 obtain⟨ng,hng⟩:=ZqJ b.sea.land.length
 obtain⟨pg,cg,rfl,_,_⟩:=h.sea.land.shape hng
 obtain⟨nz,hnz⟩:=ZqJ b.scenes.length
 obtain⟨ps,cs,rfl,_,_⟩:=h.scenes.shape hnz
 obtain⟨nn,hnn⟩:=ZqJ ns.length
 obtain⟨pn,cn,rfl,_,_⟩:=hl.list.shape hnn
 have HNS:=ZqH hnz
 clear h hb hl hn hng hnz hnn
 intro d
 induction d with
 | zero=>
  intro t p W htk hp hs hk
  obtain⟨a,x,y⟩:=p
  obtain rfl:t=K:=Za
  have HSM:=ZqH hs
  have HKI:=ZqH hk
  obtain⟨W1,hW1⟩:=ZqJ ((W.alloc (moO t (a,x,y))).alloc (pObj ZqD ZqD))
  have HE1:Hid (Env W.heap.size W [(W.heap.size+1,pObj ZqD ZqD),(W.heap.size,moO t (a,x,y))] [] W1):=by rw[<- hW1];exact((Env.start W).push _ rfl).push _ Zc
  have HS1:=ZqH (HSM.out.keep (HE1.out.base.keepsS _))
  have a0:=HE1.out.cell 1 0 (v:=.int .i64 (t:Int)) rfl rfl
  have s0:=Zn HS1.out.s0 0 (v:=.int .i64 (t:Int)) rfl
  have zz:=HH.out.vars.below HS1.out.base ZqI
  have z0:=zz.o0
  have z1:=zz.o1
  have r0:=HE1.out.cell 0 0 (v:=.string ZqD) rfl rfl
  have r1:=HE1.out.cell 0 1 (v:=.string ZqD) rfl rfl
  have f0:=HE1.out.free 0 0 rfl
  have f1:=HE1.out.free 0 1 rfl
  have HE2:=ZqH (HE1.out.fill (.string ⟨#[49]⟩) (.string ⟨#[49]⟩))
  have HK2:=ZqH (HKI.out.step HE2.out.base)
  clear hs hk zz
  go_enter Tryz.func59,Tryz.ntmps59
  go_wp2
  have q0:=HE2.out.cell 0 0 (v:=.string ⟨#[49]⟩) rfl rfl
  have q1:=HE2.out.cell 0 1 (v:=.string ⟨#[49]⟩) rfl rfl
  exact ZpW (v:=pV ⟨#[49]⟩ ⟨#[49]⟩) (by simp[results,Tryz.f59,go_sem,q0,q1]) rfl ⟨.inl ⟨1,_,_,rfl,rfl,ZbD⟩,HK2.out,(HE2.out.base.keepsS _)⟩
 | succ d ih=>
  intro t p W htk hp hs hk
  obtain⟨a,x,y⟩:=p
  have HIH:=ZqH ih
  have HPC:=ZqH hp
  have HSW:=ZqH hs
  have HKI:=ZqH hk
  have htn:¬ (t:Int)=(K:Int):=Za
  have htb:((t:Int)==(K:Int))=false:=by rw[beq_eq_false_iff_ne];exact htn
  have ht1:t+1+d=K:=Za
  have HMB:Hid (MoB (t,a,x,y)):=⟨by show t<=32;omega,ZbC (Zb6 HCB.out) hp⟩
  obtain⟨W1,hW1⟩:=ZqJ ((W.alloc (moO t (a,x,y))).alloc (pObj ZqD ZqD))
  obtain⟨Q0,hQ0⟩:=ZqJ W.heap.size
  obtain⟨R,hR⟩:=ZqJ (Q0+1)
  have HE1:Hid (Env W.heap.size W [(R,pObj ZqD ZqD),(Q0,moO t (a,x,y))] [] W1):=by rw[<- hW1,<- hR,<- hQ0];exact((Env.start W).push _ rfl).push _ Zc
  have HSM:=ZqH (HSW.out.keep (HE1.out.base.keepsS (NotM m)))
  have HKI1:=ZqH (HKI.out.step HE1.out.base)
  have HSZ:Hid (W.heap.size=Q0/\R=Q0+1/\W.heap.size<R/\W1.heap.size=Q0+2):=⟨hQ0,Za,Za,by rw[<- hW1];simp;omega⟩
  have HQ1:Hid (W1.heap[Q0]?=some (moO t (a,x,y))):=HE1.out.block 1 rfl
  have HR1:Hid (W1.heap[R]?=some (pObj ZqD ZqD)):=HE1.out.block 0 rfl
  have HQL:Hid (Q0<W1.heap.size/\Q0≠m/\R<W1.heap.size/\R≠m):=by
   have h1:=HKI.out.lt
   have h2:=HSZ.out
   exact⟨Za,Za,Za,Za⟩
  have HKW:Hid (Keeps (fun x=>x≠m) W W1):=HE1.out.base.keepsS _
  have a0:=HE1.out.cell 1 0 (v:=.int .i64 (t:Int)) rfl rfl
  have a1:=HE1.out.cell 1 1 (v:=.int .i64 a) rfl rfl
  have a2:=HE1.out.cell 1 2 (v:=.int .i64 x) rfl rfl
  have a3:=HE1.out.cell 1 3 (v:=.int .i64 y) rfl rfl
  have s0:=Zn HSM.out.s0 0 (v:=.int .i64 (K:Int)) rfl
  have kb0':=Zn HSM.out.kb 0 (v:=.map (some m)) rfl
  obtain⟨Ks,hkm,hkok⟩:=HKI1.out
  have HLK:=ZqH (Zo7 hkm (k:=(t,a,x,y)) HMB.out)
  have HKO:=ZqH hkok
  obtain⟨P0,hP0⟩:=ZqJ W1.heap.size
  clear hs hk hp ih hkm hkok
  refine(Zqp (n:=9)).1 (ZhL Tryz.func59 rfl ?_)
  simp only[Tryz.ntmps59,Nat.reduceAdd,Nat.reduceSub,ZqG]
  refine VP.mono ?_ (Zj1 (B:=W.heap.size) ZnL)
  refine VP.seq (VP.of (n:=9) ?_)
  gi_wp2
  refine VP.seq (VP.of (n:=9) ?_)
  gi_wp2
  rcases HLK.out with ⟨qk,sk,tk,hin,hik,hrun⟩ | ⟨hno,hrun⟩
  ·have hlook:=hrun W1 rfl true
   simp only[if_true] at hlook
   have HFO:Hid (ZC b ns (d+1) t (a,x,y)=.ok qk):=by
    have h1:=HKO.out _ hin
    rw[show K-t=d+1 by omega] at h1
    exact h1
   have HIK:=ZqH hik
   obtain⟨W3,hW3⟩:=ZqJ (W1.alloc (pObj sk tk))
   have HE3:Hid (Env W.heap.size W [(P0,pObj sk tk),(R,pObj ZqD ZqD),(Q0,moO t (a,x,y))] [] W3):=by rw[<- hW3];exact HE1.out.push _ hP0.symm
   have p0:=HE3.out.cell 0 0 (v:=.string sk) rfl rfl
   have p1:=HE3.out.cell 0 1 (v:=.string tk) rfl rfl
   have r0:=HE3.out.cell 1 0 (v:=.string ZqD) rfl rfl
   have r1:=HE3.out.cell 1 1 (v:=.string ZqD) rfl rfl
   have f0:=HE3.out.free 1 0 rfl
   have f1:=HE3.out.free 1 1 rfl
   obtain⟨W4,hW4⟩:=ZqJ ((W3.setCell ⟨R,0,none⟩ (.string sk)).setCell ⟨R,1,none⟩ (.string tk))
   have HR4:Hid (W4.heap[R]?=some (pObj sk tk)):=by show _=_;rw[<- hW4];exact ZQ (HE3.out.block 1 rfl) _ _
   have HB4:ZqB W W4:=by
    have h1:=HSZ.out
    show Below _ _ _
    rw[<- hW4]
    exact(HE3.out.base.setCell (p:=⟨R,0,none⟩) (by show W.heap.size<=R;omega) _).setCell (p:=⟨R,1,none⟩) (by show W.heap.size<=R;omega) _
   have HK4:=ZqH (HKI.out.step HB4.out)
   clear hrun hin hik HLK HKO
   refine VP.seq (VP.of (n:=9) ?_)
   gi_wp2
   refine VP.seq (VP.of (n:=9) ?_)
   gi_wp2
   exact⟨[],R,pV sk tk,rfl,⟨List.nodup_nil,fun D hD=>Zqx hD Zc⟩,⟨(ZqC HR4.out),Zc⟩,(fun w' hw'=>by
    have q0:=Zn (hw'.trans HR4.out) 0 (v:=.string sk) rfl
    have q1:=Zn (hw'.trans HR4.out) 1 (v:=.string tk) rfl
    simp[results,Tryz.f59,go_sem,q0,q1]),.inl ⟨_,sk,tk,HFO.out,rfl,HIK.out⟩,HK4.out,(HB4.out.keepsS _)⟩
  ·have hlook:=hrun W1 rfl true
   simp only[if_true] at hlook
   have HPM:Hid (P0≠m):=by have h1:=HKI1.out.lt;show P0≠m;omega
   have HPS:Hid (P0=Q0+2/\W1.heap.size=P0):=⟨by have:=HSZ.out;omega,hP0⟩
   clear hrun hno HLK HKO
   refine VP.seq (VP.of (n:=9) ?_)
   gi_wp2
   refine VP.seq (VP.of (n:=9) ?_)
   gi_wp2
   obtain⟨W3,hW3⟩:=ZqJ (W1.alloc (pObj ZqD ZqD))
   have HE3:Hid (Env W.heap.size W [(P0,pObj ZqD ZqD),(R,pObj ZqD ZqD),(Q0,moO t (a,x,y))] [] W3):=by rw[<- hW3];exact HE1.out.push _ hP0.symm
   have HS3:=ZqH (HSW.out.keep (HE3.out.base.keepsS (NotM m)))
   have HK3:=ZqH (HKI.out.step HE3.out.base)
   have HW3:Hid (Keeps (fun x=>x≠m/\x<W1.heap.size) W1 W3):=by show Keeps _ _ _;rw[<- hW3];exact(Keeps.refl _ W1).alloc _
   rw[hW3]
   clear hlook hW1 hW3 a0 a1 a2 a3 s0 kb0'
   obtain⟨c0,c1,c2,c3,c4⟩:=Zv HS3.out.bb
   have a1:=HE3.out.cell 2 1 (v:=.int .i64 a) rfl rfl
   have a2:=HE3.out.cell 2 2 (v:=.int .i64 x) rfl rfl
   have a3:=HE3.out.cell 2 3 (v:=.int .i64 y) rfl rfl
   refine VP.seq (VP.of (n:=9) ?_)
   gi_wp2_with fail
   refine⟨trivial,Zqp.2 ((ZjD (p:=(a,x,y)) (HH.out.sea.land.after RunR.stays HS3.out.base ZqI) (HH.out.vars.below HS3.out.base ZqI)).mono ?_)⟩
   rintro e w4 ⟨hb,hwy⟩
   have HW4:Hid (Keeps (fun x=>x≠m/\x<W1.heap.size) W1 w4):=HW3.out.trans (hb.keepsS _)
   have HE4:=ZqH (HE3.out.step hb)
   have HS4:=ZqH (HSW.out.keep (HE4.out.base.keepsS (NotM m)))
   have HK4:=ZqH (HKI.out.step HE4.out.base)
   clear c0 c1 c2 c3 c4 a1 a2 a3
   cases hst:Zaz b (a,x,y)
   ·rw[hst] at hwy
    simp only[Bool.false_eq_true,if_false] at hwy
    obtain⟨rfl,hwB,hwP⟩:=hwy
    gi_wp2
    obtain⟨⟨hp0,hp1⟩,hp2⟩:=HPC.out
    dsimp only at hp0 hp1
    rw[HNS.out] at hp1
    obtain⟨j,hj⟩:∃ j:Nat,a=j:=⟨a.toNat,Za⟩
    subst hj
    have hjn:j<nz:=Za
    clear hp0 hp1 hp2
    have hlen:=Zga HCB.out (k:=j) (by rw[HNS.out];exact hjn)
    have hsp:Zw b (j:Int)=(scA b.scenes j).strides:=by unfold Zw;rw[Int.toNat_natCast]
    obtain⟨nt,hnt⟩:=ZqJ ((scA b.scenes j).strides.length)
    rw[hnt] at hlen
    obtain⟨t1,ht⟩:∃ z:Nat,t+1=z:=⟨_,rfl⟩
    have hw1:(t:Int)+1=(t1:Int):=Za
    have HFF:Hid (ZC b ns (d+1) t ((j:Int),x,y)=Zt (folG b ns d t ((j:Int),x,y)) nt 0):=by
     show _=_
     conv=>lhs;unfold ZC
     rw[if_neg (by rw[hst];exact Bool.false_ne_true)]
     show Zt (folG b ns d t ((j:Int),x,y)) (Zw b (j:Int)).length 0=_
     rw[hsp,hnt]
    have HFG:Hid (∀ i s,folG b ns d t ((j:Int),x,y) i s=Zaw (ZaU ns t1 (Z6 b ((j:Int),x,y) (stA (Zw b j) i))) (qP (stA (Zw b j) i).chance) (ZC b ns d t1 (Z6 b ((j:Int),x,y) (stA (Zw b j) i))) s):=fun i s=>by rw[<- ht];rfl
    have HT1:Hid (t1+d=K):=by show _=_;omega
    have hok:=Zb6 HCB.out
    have HSS:Hid (∀ i,i<nt->Zao (stA (Zw b (j:Int)) i)=true):=fun i hi=>by
     rw[hsp]
     exact(hok.sc j (by rw[HNS.out];exact hjn)).st i (by rw[hnt];exact hi)
    obtain⟨sb,so,rfl,p0,n0,c0,p1,n1,c1,hsat⟩:=Zb7.at HH.out.scenes HNS.out Za
    obtain⟨hsc,_,hstl⟩:=hsat j hjn
    have hn1:n1 j=nt:=by rw[<- hnt];exact hstl.len.symm
    obtain⟨td',hp1⟩:=ZqJ (p1 j)
    obtain⟨ct,hc1'⟩:=ZqJ (c1 j)
    rw[hn1,hp1,hc1'] at hstl hsc
    obtain⟨tb,td,rfl,htat⟩:=Zad.at hstl hnt Za
    have HSC:Hid (∀ W',Below w.heap.size w W'->W'.cell? ⟨sb,so+j*4+3,none⟩=some (.slice (some ⟨tb,td,none⟩) nt ct)):=fun W' h=>(hsc W' h).2.2.2
    have HTA:=ZqH htat
    have HPB:=ZqH (ZbC hok HPC.out)
    have HGW:=ZqH (Zex hok)
    have HN8:Hid (nz<=8):=by have h1:=hok.len;rw[HNS.out] at h1;exact h1
    have HSP:=ZqH hsp
    have hnt25:nt<=25:=hlen.2
    have zz:=HH.out.vars.below HS4.out.base ZqI
    have z0:=zz.z0
    have z1:=zz.z1
    obtain⟨B,hB⟩:=ZqJ W3.heap.size
    rw[hB] at hwB hwP ⊢
    have hp4:=HE4.out.block 0 rfl
    have s0:=Zn hp4 0 (v:=.string ZqD) rfl
    have s1:=Zn hp4 1 (v:=.string ZqD) rfl
    have f0:=Zo hp4 0
    have f1:=Zo hp4 1
    obtain⟨W5,hW5⟩:=ZqJ ((w4.setCell ⟨P0,0,none⟩ (.string ⟨#[48]⟩)).setCell ⟨P0,1,none⟩ (.string ⟨#[49]⟩))
    have HP5:Hid (W5.heap[P0]?=some (pObj ⟨#[48]⟩ ⟨#[49]⟩)):=by show _=_;rw[<- hW5];exact ZQ hp4 _ _
    have hk5:Keeps (fun b=>b≠P0) w4 W5:=by rw[<- hW5];exact((Keeps.refl _ w4).setCell (p:=⟨P0,0,none⟩) (fun h=>h rfl) _).setCell (p:=⟨P0,1,none⟩) (fun h=>h rfl) _
    have HBP:Hid (P0<B/\m<W1.heap.size/\w.heap.size<=W.heap.size):=by
     have h1:=HE3.out.lt 0 rfl
     exact⟨Za,HKI1.out.lt,HSW.out.base.size⟩
    have HWB:Hid (W5.heap[B]?=some (belO b (.slice pg ng cg) (.slice (some ⟨sb,so,none⟩) nz cs))):=(hk5.block _ (ZqC hwB) (by have:=HBP.out;omega)).trans hwB
    have HWP:Hid (W5.heap[B+1]?=some (plO ((j:Int),x,y))):=(hk5.block _ (ZqC hwP) (by have:=HBP.out;omega)).trans hwP
    have HW5:Hid (Keeps (fun x=>x≠m/\x<W1.heap.size) W1 W5):=HW4.out.trans (hk5.mono fun z _ hz=>by have:=HPS.out;omega)
    have HS5:=ZqH (HSM.out.keep (ZaL HW5.out))
    have HI5:Hid (KInv b ns K m W5):=HK4.out.stay (hk5.block m HK4.out.lt (Ne.symm HPM.out))
    obtain⟨D,hD⟩:=ZqJ W5.heap.size
    have HBD:Hid (B<D/\B+1<D/\P0<D/\m<D/\W1.heap.size<=D/\B≠m/\B+1≠m):=by
     have h1:=(ZqC HWB.out)
     have h2:=(ZqC HWP.out)
     have h3:=HBP.out
     have h4:=HPS.out
     have h5:=HW5.out.size
     exact⟨Za,Za,Za,Za,Za,Za,Za⟩
    have HQ5:Hid (W5.heap[Q0]?=some (moO t ((j:Int),x,y))):=(HW5.out.block _ HQL.out.1 ⟨HQL.out.2.1,HQL.out.1⟩).trans HQ1.out
    have HPX:Hid (∀ X en,Keeps (fun z=>(z≠m/\z≠P0)/\z<D) W5 X->KInv b ns K m X->ZC b ns (d+1) t ((j:Int),x,y)=.error en->en≠0->Zef b ns K m (ZC b ns (d+1) t ((j:Int),x,y)) W (Zbv en) X):=fun X en hX hK h1 h2=>
     ⟨.inr ⟨en,h1,h2,rfl⟩,hK,(HKW.out.mono fun z _ hz=>hz.1).trans ((HW5.out.trans (hX.mono fun z _ hz=>by have:=HPS.out;have:=HBD.out;exact⟨⟨hz.1,Za⟩,Za⟩)).mono fun z hz1 hz=>⟨hz.1,by have:=HW4.out.size;have:=HE1.out.base.size;omega⟩)⟩
    have HSK:Hid (∀ X,Keeps (fun z=>(z≠m/\z≠P0)/\z<D) W5 X->Keeps (NotM m) W1 X):=fun X hX=>ZaL (HW5.out.trans (hX.mono fun z _ hz=>by have:=HPS.out;have:=HBD.out;exact⟨⟨hz.1,Za⟩,Za⟩))
    clear hst hwB hwP hsat hsc hstl htat hn1 hlen hsp hok hnt hp4 hk5 zz ht
    refine VP.seq (VP.seq (VP.of (n:=9) ?_))
    gi_wp2
    refine VP.cond (t:=false) rfl ?_
    rw[if_neg Bool.false_ne_true]
    refine VP.seq (VP.of (n:=9) ?_)
    gi_wp2
    refine VP.seq (VP.of (n:=9) ?_)
    gi_wp2
    clear hW5 s0 s1 f0 f1 z0 z1
    refine VP.block ?_
    refine ZjK (n:=9) D hD (gf:=111) (lb:=#[.pointer (some ⟨B,0,none⟩),.pointer (some ⟨B+1,0,none⟩)])
     (f:=fun i=>#[kPl (Z6 b ((j:Int),x,y) (stA (Zw b j) i)),pV (stA (Zw b j) i).chance.1 (stA (Zw b j) i).chance.2]) (N:=nt) (S:=fun z=>(z≠m/\z≠P0)/\z<D) (T:=fun _=>True)
     rfl (enters_of Tryz.func111 Zb rfl) (fun _=>rfl)
     (Zhb HGW.out (pg:=pg) (ng:=ng) (cg:=cg) (sb:=sb) (so:=so) (n:=nz) (cs:=cs) hjn HN8.out HPB.out (tb:=tb) (td:=td) (ct:=ct) hnt25 HSS.out (fun z=>(z≠m/\z≠P0)/\z<D) W5 (fun W' hk'=>?win)) (fun _ hb=>hb.2) ⟨trivial,trivial⟩
     (fun i W'=>∃ s x9 y9,Zt (folG b ns d t ((j:Int),x,y)) i 0=.ok s/\IsP s x9 y9/\W'.heap[P0]?=some (pObj x9 y9)/\KInv b ns K m W'/\Keeps (fun z=>(z≠m/\z≠P0)/\z<D) W5 W')
     (fun ch W'=>∃ en,ZC b ns (d+1) t ((j:Int),x,y)=.error en/\en≠0/\.panicked ch=Zbv en/\KInv b ns K m W'/\Keeps (fun z=>(z≠m/\z≠P0)/\z<D) W5 W')
     (fun i W1 W2 hI hk'=>?ci) ⟨0,_,_,rfl,Za5,HP5.out,HI5.out,Keeps.refl _ _⟩
     (fun i a' W'=>∃ q1 q2:Nat,FolA NC FC Q0 P0 q1 q2 a'/\W'.heap[q1]?=some (plO (Z6 b ((j:Int),x,y) (stA (Zw b j) i)))/\W'.heap[q2]?=some (pObj (stA (Zw b j) i).chance.1 (stA (Zw b j) i).chance.2)/\D+2<=q1/\D+2<=q2)
     (fun i a' W1 W2 hB' hk'=>?cb) ?assign ?body ?done ?stop
    case win=>
     have hbw:Below w.heap.size w W':=(HSM.out.keep (HSK.out W' hk')).base
     have hv:=HH.out.vars.below hbw ZqI
     refine⟨(hk'.block B (by have:=HBD.out;omega) ⟨⟨HBD.out.2.2.2.2.2.1,by have:=HBP.out;omega⟩,HBD.out.1⟩).trans HWB.out,(hk'.block (B+1) (by have:=HBD.out;omega) ⟨⟨HBD.out.2.2.2.2.2.2,by have:=HBP.out;omega⟩,HBD.out.2.1⟩).trans HWP.out,HSC.out W' hbw,fun i hi=>?_,hv.g0,hv.g1⟩
     have h1:=HTA.out W' hbw i hi
     rw[HSP.out]
     exact h1
    case ci=>
     obtain⟨s,x9,y9,h1,h2,h3,h4,h5⟩:=hI
     exact⟨s,x9,y9,h1,h2,(hk'.block P0 (ZqC h3) ⟨trivial,by have:=HBD.out;omega,by have:=HBD.out;omega⟩).trans h3,h4.stay (hk'.block m h4.lt ⟨trivial,by have:=HBD.out;omega,by have:=HBD.out;omega⟩),h5.trans (hk'.mono fun z _ hz=>⟨trivial,Za,Za⟩)⟩
    case cb=>
     obtain⟨q1,q2,h1,h2,h3,h4,h5⟩:=hB'
     exact⟨q1,q2,h1,(hk'.block q1 (ZqC h2) ⟨Za,Za⟩).trans h2,(hk'.block q2 (ZqC h3) ⟨Za,Za⟩).trans h3,h4,h5⟩
    case assign=>
     intro l i W' hi hD2
     obtain⟨PL1,hPL⟩:=ZqJ (Z6 b ((j:Int),x,y) (stA (Zw b j) i))
     obtain⟨⟨ch1,ch2⟩,hch⟩:∃ z,(stA (Zw b j) i).chance=z:=⟨_,rfl⟩
     rw[hPL,hch]
     obtain⟨l1,l2,l3⟩:=PL1
     gi_wp2
     refine⟨((Keeps.refl _ W').alloc _).alloc _,_,_,⟨_,_,_,_,_,_,_,_,_,_,_,_,_,_,_,_,_,_,_,_,_,_,_,_,_,_,_,_,_,_,_,_,_,_,_,_,_,_,_,_,_,_,_,_,_,_,_,_,_,_,_,_,_,_,_,_,_,_,_,_,_,_,_,_,_,_,_,_,_,_,_,_,_,_,_,_,_,_,_,_,_,_,_,rfl⟩,(Zqb _ _ _ Zc).trans (ZpY W' _),?_,hD2,Za⟩
     have h1:=ZpY (W'.alloc (plO (l1,l2,l3))) (pObj ch1 ch2)
     simpa using h1
    case body=>
     rintro l i a' W' hi ⟨s,x3,y3,g1,g2,g3,g4,g5⟩ ⟨q1,q2,⟨yy0,yy1,yy2,yy3,yy7,yy9,yy10,yy11,yy12,yy15,yy16,yy17,yy18,yy19,yy20,yy21,yy22,yy23,yy24,yy25,yy26,yy27,yy28,yy29,yy30,yy31,yy32,yy33,yy34,yy35,yy36,yy37,yy38,yy39,yy40,yy41,yy42,yy43,yy44,yy45,yy46,yy47,yy48,yy49,yy50,yy51,yy52,yy53,yy54,yy55,yy56,yy57,yy58,yy59,yy60,yy61,yy62,yy63,yy64,yy65,yy66,yy67,yy68,yy69,yy70,yy71,yy72,yy73,yy74,yy75,yy76,yy77,yy78,yy79,yy80,yy81,yy82,yy83,yy84,yy85,yy86,yy87,yy88,rfl⟩,b1,b2,b3,b4⟩ hD2
     have hss:=HSS.out i hi
     have HPL:Hid (PlcB b (Z6 b ((j:Int),x,y) (stA (Zw b j) i))):=Zfj HPC.out _
     have HSG:Hid (folG b ns d t ((j:Int),x,y) i s=Zaw (ZaU ns t1 (Z6 b ((j:Int),x,y) (stA (Zw b j) i))) (qP (stA (Zw b j) i).chance) (ZC b ns d t1 (Z6 b ((j:Int),x,y) (stA (Zw b j) i))) s):=HFG.out i s
     have HCH:=ZqH (ZdZ ((Bool.and_eq_true_iff.1 hss).2) Zd)
     obtain⟨PL1,hPL⟩:=ZqJ (Z6 b ((j:Int),x,y) (stA (Zw b j) i))
     obtain⟨⟨ch1,ch2⟩,hch⟩:∃ z,(stA (Zw b j) i).chance=z:=⟨_,rfl⟩
     rw[hPL] at b1 HPL HSG
     rw[hch] at b2 HCH HSG
     dsimp only at b2 HCH
     obtain⟨qc,hqc⟩:=ZqJ (qP (ch1,ch2))
     rw[hqc] at HCH HSG
     obtain⟨l1,l2,l3⟩:=PL1
     have HG1:=ZqH g1
     have HG2:=ZqH g2
     have HG3:=ZqH g3
     have HG4:=ZqH g4
     have HG5:=ZqH g5
     have HSW':=ZqH (HSM.out.keep (HSK.out W' g5))
     have HQX:Hid (W'.heap[Q0]?=some (moO t ((j:Int),x,y))):=((HSK.out W' g5).block _ HQL.out.1 HQL.out.2.1).trans HQ1.out
     have HBB:=ZqH (Zqy b1 b2)
     have HLE:Hid (D+2<=W'.heap.size/\D+2<=q1/\D+2<=q2):=⟨hD2,b3,b4⟩
     have HER:Hid (∀ en,folG b ns d t ((j:Int),x,y) i s=.error en->ZC b ns (d+1) t ((j:Int),x,y)=.error en):=fun en h=>HFF.out.trans (ZZ HG1.out h hi)
     have HOKN:Hid (∀ z,folG b ns d t ((j:Int),x,y) i s=.ok z->Zt (folG b ns d t ((j:Int),x,y)) (i+1) 0=.ok z):=fun z h=>(Zag HG1.out).trans h
     have HRE:Hid (∀ X,Keeps (fun z=>z≠m/\z<W'.heap.size) W' X->Keeps (fun z=>z=D) W' X/\Keeps (fun z=>(z≠m/\z≠P0)/\z<D) W5 X):=fun X hX=>⟨hX.mono fun z _ hz=>by have:=HBD.out;have:=HLE.out;exact⟨Za,Za⟩,HG5.out.trans (hX.mono fun z _ hz=>by have:=HLE.out;exact⟨hz.1.1,Za⟩)⟩
     have a0:=Zn HQX.out 0 (v:=.int .i64 (t:Int)) rfl
     have p0':=Zn b1 0 (v:=.int .i64 l1) rfl
     have p1':=Zn b1 1 (v:=.int .i64 l2) rfl
     have p2':=Zn b1 2 (v:=.int .i64 l3) rfl
     obtain⟨W7,hW7⟩:=ZqJ (W'.alloc (moO t1 (l1,l2,l3)))
     obtain⟨N1,hN1⟩:=ZqJ W'.heap.size
     have hb7:Below W'.heap.size W' W7:=by rw[<- hW7];exact(ZpV _ W').alloc ZqI _
     have HN7:Hid (W7.heap[N1]?=some (moO t1 (l1,l2,l3))):=by show _=_;rw[<- hW7,<- hN1];exact ZpY W' _
     have HB7:=ZqH hb7
     have HS7:=ZqH (HSW'.out.keep (hb7.keepsS (NotM m)))
     have HI7:Hid (KInv b ns K m W7):=HG4.out.step hb7
     have HC7:Hid (W7.heap[q2]?=some (pObj ch1 ch2)):=(hb7.block _ (ZqC b2)).trans b2
     have HP7:Hid (W7.heap[P0]?=some (pObj x3 y3)):=(hb7.block _ (ZqC g3)).trans g3
     have HNM:Hid (N1≠m/\q2≠m):=by have h1:=HG4.out.lt;have:=HBD.out;have:=HLE.out;exact⟨Za,Za⟩
     clear hss hPL hch hqc g1 g2 g3 g4 g5 b1 b2 b3 b4 hD2 hb7
     refine wpIn_block ?_
     refine wpIn_seq_k fun K1 hK1=>?_
     have HK1:=ZqH hK1
     clear hK1
     gi_wp2
     refine HK1.out _ _ ?_
     clear HK1 K1 hW7 hN1 a0 p0' p1' p2'
     refine wpIn_seq_k fun K1 hK1=>?_
     have HK1:=ZqH hK1
     clear hK1
     refine Zjh 8 16 [(0,9)] [(1,0),(1,1),(1,2),(0,3),(0,4),(1,5),(1,6),(0,7)] (FlS W7) () (fun i=>i==9)
      Zb Zb Zb (by rintro⟨a,w,h⟩;exact h) (fun j hj=>by have h:10<=j:=hj;simp;omega) Zi rfl rfl (fun _=>rfl) (fun a V K hK=>by go_simp;exact hK) (fun j V h=>h.push) ⟨(ZpV _ W7).drew,(fun k e=>by cases e)⟩ ?_
     have HX15:Hid (∀ X,Below W7.heap.size W7 X->SmIn b (.slice pg ng cg) (.slice (some ⟨sb,so,none⟩) nz cs) (.slice pn nn cn) K S0 KB BB NB NC FC m w X/\KInv b ns K m X/\X.heap[q2]?=some (pObj ch1 ch2)/\X.heap[N1]?=some (moO t1 (l1,l2,l3))/\X.heap[P0]?=some (pObj x3 y3)/\Keeps (fun z=>z≠m/\z<W'.heap.size) W' X):=fun X hX=>
      ⟨HS7.out.keep (hX.keepsS _),HI7.out.step hX,(hX.block _ (ZqC HC7.out)).trans HC7.out,(hX.block _ (ZqC HN7.out)).trans HN7.out,(hX.block _ (ZqC HP7.out)).trans HP7.out,(HB7.out.keepsS _).trans (hX.keepsS _)⟩
     iterate 3
      refine Zcs _ rfl (fun z=>rfl) (fun z j g w' hS=>by obtain⟨hs1,_,hc1,hn1,_⟩:=HX15.out _ hS.1;have g0:=Zn hs1.nc 0 rfl;have k0:=Zn hc1 0 (v:=.string ch1) rfl;have k1:=Zn hc1 1 (v:=.string ch2) rfl;have m0:=Zn hn1 0 (v:=.int .i64 (t1:Int)) rfl;have m1:=Zn hn1 1 (v:=.int .i64 l1) rfl;have m2:=Zn hn1 2 (v:=.int .i64 l2) rfl;have m3:=Zn hn1 3 (v:=.int .i64 l3) rfl;exact Zg) ?_
      simp only[Act.put,Zl]
     refine Zcg 56 _ rfl (fun z=>rfl) (fun z w'=>Zh) (fun g V hS=>?_)
     have HSV:=ZqH (HX15.out _ hS.1).1
     refine(ZgF (t:=t1) (p:=(l1,l2,l3)) (HL.out.below HSV.out.base ZqI) HNB.out (ZbC (Zb6 HCB.out) HPL.out) HSV.out.nb (HH.out.tabs.below HSV.out.base ZqI) (HH.out.vars.below HSV.out.base ZqI)).mono ?_
     rintro e V' ⟨hE,hb⟩
     have hS':=hS.base hb
     rcases hE with ⟨qn,u1,v1,h1,rfl,hi1⟩ | ⟨en,h1,h2,rfl⟩
     case inr=>
      obtain⟨_,k2,_,_,_,k6⟩:=HX15.out _ hS'.1
      exact .inr ⟨_,rfl,fun z=>⟨rfl,(HRE.out _ k6).1,en,HER.out en (by rw[HSG.out,h1];rfl),h2,rfl,k2,(HRE.out _ k6).2⟩⟩
     have HN1:=ZqH h1
     have HQN:=ZqH hi1
     refine .inl ⟨_,(),rfl,hS',?_⟩
     clear hb hS hS' h1 hi1 HSV
     simp only[Act.put,Zl]
     refine Zcg 24 _ rfl (fun z=>rfl) (fun z w'=>Zh) (fun g V hS=>?_)
     have HSV:=ZqH (HX15.out _ hS.1).1
     refine(Zco ch1 ch2 u1 v1 _ HCH.out.limit.1 HCH.out.limit.2 HQN.out.limit.1 HQN.out.limit.2 (HH.out.tabs.below HSV.out.base ZqI)).mono ?_
     rintro e V' ⟨x4,y4,en,rfl,hR,hb⟩
     have hS':=hS.base hb
     have HA:Hid (Ans (qc*qn) x4 y4 en):=by
      have h1:=hR.both HCH.out.ok HQN.out.ok
      rwa [HCH.out.rat,HQN.out.rat] at h1
     refine .inl ⟨_,(),rfl,hS',?_⟩
     clear hb hS hS' hR HSV
     simp only[Act.put,Zl]
     iterate 2
      refine Zcs _ rfl (fun z=>rfl) (fun z j g w' hS=>Zg) ?_
      simp only[Act.put,Zl]
     refine Zcg 57 _ rfl (fun z=>rfl) (fun z w'=>Zh) (fun g V hS=>?_)
     refine(Zat x4 y4 en _).mono ?_
     rintro e V' ⟨hE,hb⟩
     have hS':=hS.base hb
     rcases hE with ⟨hne,rfl⟩ | ⟨hne,rfl⟩
     case inr=>
      obtain⟨_,k2,_,_,_,k6⟩:=HX15.out _ hS'.1
      have hm:¬ Fits (qc*qn)/\en=4:=by
       rcases HA.out with ⟨_,h⟩ | ⟨h,_,_,h2⟩
       ·exact Zqx h hne
       ·exact⟨h,h2⟩
      exact .inr ⟨_,rfl,fun z=>⟨rfl,(HRE.out _ k6).1,en,HER.out en (by rw[HSG.out,HN1.out,hm.2];exact Zkf hm.1),hne,rfl,k2,(HRE.out _ k6).2⟩⟩
     have HIH4:=ZqH (HA.out.zero hne)
     refine .inl ⟨_,(),rfl,hS',?_⟩
     clear hb hS hS' hne
     simp only[Act.put,Zl]
     refine Zhi fun G V hS=>?_
     obtain⟨hb15,hg⟩:=hS
     obtain⟨hG,hGle⟩:=hg G rfl
     simp only[Act.put,Zl]
     have s0:=Zn hG 0 (v:=.string ZqD) rfl
     have s1:=Zn hG 1 (v:=.string ZqD) rfl
     have f0:=Zo hG 0
     have f1:=Zo hG 1
     obtain⟨W8,hW8⟩:=ZqJ ((V.setCell ⟨G,0,none⟩ (.string x4)).setCell ⟨G,1,none⟩ (.string y4))
     have HG8:Hid (W8.heap[G]?=some (pObj x4 y4)):=by show _=_;rw[<- hW8];exact ZQ hG _ _
     have hb8:Below W7.heap.size W7 W8:=by rw[<- hW8];exact(hb15.setCell (p:=⟨G,0,none⟩) hGle _).setCell (p:=⟨G,1,none⟩) hGle _
     obtain⟨j1,j2,j3,j4,j5,j6⟩:=HX15.out _ hb8
     have HS8:=ZqH j1
     have HI8:=ZqH j2
     have HN8':=ZqH j4
     have HP8:=ZqH j5
     have HK8:=ZqH j6
     have HGM:Hid (G≠m/\D<G):=by
      have h1:=HI7.out.lt
      have h2:=HB7.out.size
      have:=HLE.out
      exact⟨Za,Za⟩
     refine ZG rfl rfl fun K' hK'=>?_
     go_simp
     refine hK' _ _ (.inl rfl) ?_
     clear hK' K' hW8 s0 s1 f0 f1 hb8 hb15 hG hGle hg j1 j2 j3 j4 j5 j6
     refine Zz ?_
     refine HK1.out _ _ ?_
     clear HK1 K1
     refine Zfv [(1,0),(1,1),(1,2),(1,3),(0,4),(0,5),(1,6),(1,7),(0,8),(0,9),(1,10),(1,11),(0,12),(0,13)] (Keeps (NotM m) W8) (fun i=>i==13)
      Zb Zb Zb (by rintro⟨a,w,h⟩;exact h) (fun j hj=>by have h:14<=j:=hj;simp;omega) Zi (Keeps.refl _ W8).drew ?_
     obtain⟨V0,hV0⟩:=ZqJ W8.drew
     have HX0:Hid (Keeps (NotM m) W8 V0):=by rw[<- hV0];exact(Keeps.refl _ W8).drew
     have HI0:Hid (KInv b ns K m V0):=by rw[<- hV0];exact HI8.out.stay rfl
     rw[hV0]
     clear hV0
     have HX16:Hid (∀ X,Keeps (NotM m) W8 X->X.heap[G]?=some (pObj x4 y4)/\X.heap[N1]?=some (moO t1 (l1,l2,l3))/\X.heap[P0]?=some (pObj x3 y3)/\Keeps (fun z=>z≠m/\z<W'.heap.size) W' X):=fun X hX=>
      ⟨(hX.block _ (ZqC HG8.out) HGM.out.1).trans HG8.out,(hX.block _ (ZqC HN8'.out) HNM.out.1).trans HN8'.out,(hX.block _ (ZqC HP8.out) HPM.out).trans HP8.out,HK8.out.trans (hX.mono fun z _ hz=>hz.1)⟩
     iterate 4
      refine Zq _ rfl rfl (fun w' hS=>by obtain⟨hg1,hn1,hp1,_⟩:=HX16.out _ hS;have e0:=Zn (HS8.out.keep hS).fc 0 rfl;have k0:=Zn hg1 0 (v:=.string x4) rfl;have k1:=Zn hg1 1 (v:=.string y4) rfl;have m0:=Zn hn1 0 (v:=.int .i64 (t1:Int)) rfl;have m1:=Zn hn1 1 (v:=.int .i64 l1) rfl;have m2:=Zn hn1 2 (v:=.int .i64 l2) rfl;have m3:=Zn hn1 3 (v:=.int .i64 l3) rfl;have r0:=Zn hp1 0 (v:=.string x3) rfl;have r1:=Zn hp1 1 (v:=.string y3) rfl;exact Ze) ?_
      simp only[Act.put,Zl]
     refine Zs 59 _ rfl rfl Zf ?_
     refine(HIH.out t1 (l1,l2,l3) V0 HT1.out HPL.out (HS8.out.keep HX0.out) HI0.out).mono ?_
     rintro e V2 ⟨hE,hki,hk⟩
     have HX2:Hid (Keeps (NotM m) W8 V2):=HX0.out.trans (ZaL hk)
     have HI2:Hid (KInv b ns K m V2):=hki
     clear hki hk
     rcases hE with ⟨qf,u2,v2,h1,rfl,hi1⟩ | ⟨en,h1,h2,rfl⟩
     case inr=>
      have k6:=(HX16.out _ HX2.out).2.2.2
      refine .inr ⟨_,rfl,?_⟩
      exact⟨rfl,(HRE.out _ k6).1,en,HER.out en (by rw[HSG.out,HN1.out,h1];exact Zni HIH4.out.fits),h2,rfl,HI2.out,(HRE.out _ k6).2⟩
     have HNF:=ZqH h1
     have HQF:=ZqH hi1
     refine .inl ⟨_,rfl,HX2.out,?_⟩
     clear h1 hi1
     simp only[Act.put,Zl]
     refine Zs 24 _ rfl rfl Zf ?_
     refine(Zco x4 y4 u2 v2 _ HIH4.out.limit.1 HIH4.out.limit.2 HQF.out.limit.1 HQF.out.limit.2 (HH.out.tabs.below (HS8.out.keep HX2.out).base ZqI)).mono ?_
     rintro e V3 ⟨x5,y5,en,rfl,hR,hb⟩
     have HX3:Hid (Keeps (NotM m) W8 V3):=HX2.out.trans (hb.keepsS _)
     have HI3:Hid (KInv b ns K m V3):=HI2.out.step hb
     have HA5:Hid (Ans (qc*qn*qf) x5 y5 en):=by
      have h1:=hR.both HIH4.out.ok HQF.out.ok
      rwa [HIH4.out.rat,HQF.out.rat] at h1
     refine .inl ⟨_,rfl,HX3.out,?_⟩
     clear hb hR
     simp only[Act.put,Zl]
     iterate 2
      refine Zq _ rfl rfl (fun w' hS=>Ze) ?_
      simp only[Act.put,Zl]
     refine Zs 57 _ rfl rfl Zf ?_
     refine(Zat x5 y5 en _).mono ?_
     rintro e V4 ⟨hE,hb⟩
     have HX4:Hid (Keeps (NotM m) W8 V4):=HX3.out.trans (hb.keepsS _)
     have HI4:Hid (KInv b ns K m V4):=HI3.out.step hb
     clear hb
     rcases hE with ⟨hne,rfl⟩ | ⟨hne,rfl⟩
     case inr=>
      have k6:=(HX16.out _ HX4.out).2.2.2
      have hm:¬ Fits (qc*qn*qf)/\en=4:=by
       rcases HA5.out with ⟨_,h⟩ | ⟨h,_,_,h2⟩
       ·exact Zqx h hne
       ·exact⟨h,h2⟩
      refine .inr ⟨_,rfl,?_⟩
      exact⟨rfl,(HRE.out _ k6).1,en,HER.out en (by rw[HSG.out,HN1.out,HNF.out,hm.2];exact ZlV HIH4.out.fits hm.1),hne,rfl,HI4.out,(HRE.out _ k6).2⟩
     have HIH5:=ZqH (HA5.out.zero hne)
     refine .inl ⟨_,rfl,HX4.out,?_⟩
     clear hne
     simp only[Act.put,Zl]
     refine Zs 23 _ rfl rfl Zf ?_
     refine(Zeh x3 y3 x5 y5 _ HG2.out.limit.1 HG2.out.limit.2 HIH5.out.limit.1 HIH5.out.limit.2 (HH.out.tabs.below (HS8.out.keep HX4.out).base ZqI)).mono ?_
     rintro e V5 ⟨x6,y6,en,rfl,hR,hb⟩
     have HX5:Hid (Keeps (NotM m) W8 V5):=HX4.out.trans (hb.keepsS _)
     have HI5':Hid (KInv b ns K m V5):=HI4.out.step hb
     have HA6:Hid (Ans (s+qc*qn*qf) x6 y6 en):=by
      have h1:=hR.both HG2.out.ok HIH5.out.ok
      rwa [HG2.out.rat,HIH5.out.rat] at h1
     refine .inl ⟨_,rfl,HX5.out,?_⟩
     clear hb hR
     simp only[Act.put,Zl]
     iterate 2
      refine Zq _ rfl rfl (fun w' hS=>Ze) ?_
      simp only[Act.put,Zl]
     refine Zs 57 _ rfl rfl Zf ?_
     refine(Zat x6 y6 en _).mono ?_
     rintro e V6 ⟨hE,hb⟩
     have HX6:Hid (Keeps (NotM m) W8 V6):=HX5.out.trans (hb.keepsS _)
     have HI6:Hid (KInv b ns K m V6):=HI5'.out.step hb
     clear hb
     rcases hE with ⟨hne,rfl⟩ | ⟨hne,rfl⟩
     case inr=>
      have k6:=(HX16.out _ HX6.out).2.2.2
      have hm:¬ Fits (s+qc*qn*qf)/\en=4:=by
       rcases HA6.out with ⟨_,h⟩ | ⟨h,_,_,h2⟩
       ·exact Zqx h hne
       ·exact⟨h,h2⟩
      refine .inr ⟨_,rfl,?_⟩
      exact⟨rfl,(HRE.out _ k6).1,en,HER.out en (by rw[HSG.out,HN1.out,HNF.out,hm.2];exact ZmB HIH4.out.fits HIH5.out.fits hm.1),hne,rfl,HI6.out,(HRE.out _ k6).2⟩
     have HIH6:=ZqH (HA6.out.zero hne)
     have HLN:Hid (Zt (folG b ns d t ((j:Int),x,y)) (i+1) 0=.ok (s+qc*qn*qf)):=HOKN.out _ (by rw[HSG.out,HN1.out,HNF.out];exact ZlT HIH4.out.fits HIH5.out.fits HIH6.out.fits)
     refine .inl ⟨_,rfl,HX6.out,?_⟩
     clear hne
     simp only[Act.put,Zl]
     obtain⟨_,_,hp6,k6⟩:=HX16.out _ HX6.out
     have s0:=Zn hp6 0 (v:=.string x3) rfl
     have s1:=Zn hp6 1 (v:=.string y3) rfl
     have f0:=Zo hp6 0
     have f1:=Zo hp6 1
     obtain⟨W9,hW9⟩:=ZqJ ((V6.setCell ⟨P0,0,none⟩ (.string x6)).setCell ⟨P0,1,none⟩ (.string y6))
     have HP9:Hid (W9.heap[P0]?=some (pObj x6 y6)):=by show _=_;rw[<- hW9];exact ZQ hp6 _ _
     have hk9:Keeps (fun z=>z≠P0) V6 W9:=by rw[<- hW9];exact((Keeps.refl _ V6).setCell (p:=⟨P0,0,none⟩) (fun h=>h rfl) _).setCell (p:=⟨P0,1,none⟩) (fun h=>h rfl) _
     have HI9:Hid (KInv b ns K m W9):=HI6.out.stay (hk9.block m HI6.out.lt (Ne.symm HPM.out))
     have HK9:Hid (Keeps (fun z=>(z≠m/\z≠P0)/\z<W'.heap.size) W' W9):=(k6.mono fun z _ hz=>⟨hz.1.1,hz.2⟩).trans (hk9.mono fun z _ hz=>hz.1.2)
     refine ZG rfl rfl fun K' hK'=>?_
     go_simp
     refine hK' _ _ (.inl rfl) ?_
     clear hK' K' hW9 s0 s1 f0 f1 hk9 hp6 k6
     refine Zz ?_
     exact⟨HK9.out.mono fun z _ hz=>by have:=HBD.out;have:=HLE.out;omega,_,x6,y6,HLN.out,HIH6.out,HP9.out,HI9.out,HG5.out.trans (HK9.out.mono fun z _ hz=>⟨hz.1,by have:=HLE.out;omega⟩)⟩
    case done=>
     rintro V ⟨s9,x9,y9,g1,g2,g3,g4,g5⟩ hdef
     have HPV:=ZqH g3
     have HIZ:=ZqH g2
     have H3:Hid (ZC b ns (d+1) t ((j:Int),x,y)=.ok s9):=HFF.out.trans g1
     have HIV:=ZqH g4
     have HKV:=ZqH (HSK.out V g5)
     have HDN:Hid (([D]:List Nat).Nodup/\∀ E ∈ ([D]:List Nat),W.heap.size<=E/\V.heap[E]?=some (.deferred (some []))):=⟨List.nodup_cons.2 ⟨Zc,List.nodup_nil⟩,fun E hE=>by
      obtain rfl:E=D:=by simpa using hE
      exact⟨by have:=HBD.out;have:=HSZ.out;omega,hdef⟩⟩
     clear g1 g2 g3 g4 g5 hdef
     show VP _ _ _ _ _
     refine VP.of (n:=9) ?_
     have HKX:Hid (∃ V2,(Instr.mapUpdate 124 (.map (some m)) (kMo t ((j:Int),x,y)) (pV x9 y9)).run Tryz.prog V=.ok () V2/\KInv b ns K m V2/\Keeps (fun b=>b≠m) V V2):=by
      obtain⟨Ks,k1,k2⟩:=HIV.out
      obtain⟨V2,u1,u2,u3⟩:=ZmZ k1 (k:=(t,_,x,y)) HMB.out HIZ.out
      refine⟨V2,u1,⟨_,u2,fun z hz=>?_⟩,u3⟩
      rcases Zc4.1 hz with rfl | ⟨hz,_⟩
      ·have h9:=H3.out
       rw[show K-t=d+1 by omega]
       exact h9
      ·exact k2 z hz
     obtain⟨V2,hput,hki2,hk2⟩:=HKX.out
     have HKI2:=ZqH hki2
     have HSV:=ZqH (HSM.out.keep HKV.out)
     have HS2:=ZqH (HSV.out.keep hk2)
     have kb0:=Zn HSV.out.kb 0 (v:=.map (some m)) rfl
     have HQV:Hid (V.heap[Q0]?=some (moO t ((j:Int),x,y))):=(HKV.out.block _ HQL.out.1 HQL.out.2.1).trans HQ1.out
     have HRV:Hid (V.heap[R]?=some (pObj ZqD ZqD)):=(HKV.out.block _ HQL.out.2.2.1 HQL.out.2.2.2).trans HR1.out
     have c0:=Zn HQV.out 0 (v:=.int .i64 (t:Int)) rfl
     have c1:=Zn HQV.out 1 (v:=.int .i64 (j:Int)) rfl
     have c2:=Zn HQV.out 2 (v:=.int .i64 x) rfl
     have c3:=Zn HQV.out 3 (v:=.int .i64 y) rfl
     have d0:=Zn HPV.out 0 (v:=.string x9) rfl
     have d1:=Zn HPV.out 1 (v:=.string y9) rfl
     have HP2:Hid (V2.heap[P0]?=some (pObj x9 y9)):=(hk2.block _ (ZqC HPV.out) HPM.out).trans HPV.out
     have HR2:Hid (V2.heap[R]?=some (pObj ZqD ZqD)):=(hk2.block _ (ZqC HRV.out) HQL.out.2.2.2).trans HRV.out
     have g0:=Zn HP2.out 0 (v:=.string x9) rfl
     have g1:=Zn HP2.out 1 (v:=.string y9) rfl
     have r0:=Zn HR2.out 0 (v:=.string ZqD) rfl
     have r1:=Zn HR2.out 1 (v:=.string ZqD) rfl
     have f0:=Zo HR2.out 0
     have f1:=Zo HR2.out 1
     obtain⟨V3,hV3⟩:=ZqJ ((V2.setCell ⟨R,0,none⟩ (.string x9)).setCell ⟨R,1,none⟩ (.string y9))
     have HR3:Hid (V3.heap[R]?=some (pObj x9 y9)):=by show _=_;rw[<- hV3];exact ZQ HR2.out _ _
     have hk3:Keeps (fun b=>b≠R) V2 V3:=by rw[<- hV3];exact((Keeps.refl _ V2).setCell (p:=⟨R,0,none⟩) (fun h=>h rfl) _).setCell (p:=⟨R,1,none⟩) (fun h=>h rfl) _
     have HKI3:Hid (KInv b ns K m V3):=HKI2.out.stay (hk3.block m HKI2.out.lt (Ne.symm HQL.out.2.2.2))
     have HKF:Hid (Keeps (fun x=>x≠m/\x<W.heap.size) W V3):=by
      have h1:=HKW.out.trans (HKV.out.trans hk2)
      exact(h1.mono (S':=fun x=>x≠m/\x<W.heap.size) fun x _ hx=>hx.1).trans (hk3.mono fun z _ hz=>by have:=HSZ.out;show z≠R;omega)
     have HDZ:Hid ((([D]:List Nat)).Nodup/\∀ E9 ∈ ([D]:List Nat),W.heap.size<=E9/\V3.heap[E9]?=some (.deferred (some []))):=⟨HDN.out.1,fun E9 hD=>by
      obtain⟨h1,h2⟩:=HDN.out.2 E9 hD
      have h3:=(hk2.block _ (ZqC h2) (fun e=>by
       obtain⟨es,cl,hm⟩:=HIV.out.map
       rw[<- e,h2] at hm
       cases hm)).trans h2
      exact⟨h1,(hk3.block _ (ZqC h3) (fun e=>by rw[e,HR2.out] at h3;cases h3)).trans h3⟩⟩
     have HPO:Hid (Zd0 (ZC b ns (d+1) t ((j:Int),x,y)) (.returned (pV x9 y9))):=.inl ⟨_,x9,y9,H3.out,rfl,HIZ.out⟩
     have HRN:Hid (R ∉ ([D]:List Nat)):=fun hin=>by
      have h1:=(HDZ.out.2 R hin).2
      rw[HR3.out] at h1
      cases h1
     clear hki2 hk2 hk3
     gi_wp2
     exact⟨([D]:List Nat),R,pV x9 y9,rfl,HDZ.out,⟨(ZqC HR3.out),HRN.out⟩,(fun w' hw'=>by
      have q0:=Zn (hw'.trans HR3.out) 0 (v:=.string x9) rfl
      have q1:=Zn (hw'.trans HR3.out) 1 (v:=.string y9) rfl
      simp[results,Tryz.f59,go_sem,q0,q1]),HPO.out,HKI3.out,HKF.out⟩
    case stop=>
     rintro ch W' ⟨en,g1,g2,g3,g4,g5⟩ hdef
     have h9:=HPX.out W' en g5 g4 g1 g2
     rw[<- g3] at h9
     exact⟨[D],rfl,⟨List.nodup_cons.2 ⟨Zc,List.nodup_nil⟩,fun E hE=>by
      obtain rfl:E=D:=by simpa using hE
      exact⟨by have:=HBD.out;have:=HSZ.out;omega,hdef⟩⟩,h9⟩
   ·rw[hst] at hwy
    simp only[if_true] at hwy
    subst hwy
    gi_wp2
    obtain⟨t1,ht⟩:∃ z:Nat,t+1=z:=⟨_,rfl⟩
    have hw1:(t:Int)+1=(t1:Int):=Za
    have HFF:Hid (ZC b ns (d+1) t (a,x,y)=ZfX (ZaU ns t1 (a,x,y)) (ZC b ns d t1 (a,x,y))):=by
     show _=_
     rw[<- ht]
     conv=>lhs;unfold ZC
     rw[if_pos hst]
    have HT1:Hid (t1+d=K):=by show _=_;omega
    clear hst ht
    obtain⟨W5,hW5⟩:=ZqJ (w4.alloc (moO t1 (a,x,y)))
    obtain⟨N0,hN0⟩:=ZqJ w4.heap.size
    have HE5:Hid (Env W.heap.size W [(N0,moO t1 (a,x,y)),(P0,pObj ZqD ZqD),(R,pObj ZqD ZqD),(Q0,moO t (a,x,y))] [] W5):=by rw[<- hW5];exact HE4.out.push _ hN0.symm
    have HS5:=ZqH (HSW.out.keep (HE5.out.base.keepsS (NotM m)))
    have HK5:=ZqH (HKI.out.step HE5.out.base)
    have HNM:Hid (N0≠m):=by have h1:=HK4.out.lt;show N0≠m;omega
    have HW5:Hid (Keeps (fun x=>x≠m/\x<W1.heap.size) W1 W5):=by show Keeps _ _ _;rw[<- hW5];exact HW4.out.alloc _
    have a0:=HE4.out.cell 2 0 (v:=.int .i64 (t:Int)) rfl rfl
    have a1:=HE4.out.cell 2 1 (v:=.int .i64 a) rfl rfl
    have a2:=HE4.out.cell 2 2 (v:=.int .i64 x) rfl rfl
    have a3:=HE4.out.cell 2 3 (v:=.int .i64 y) rfl rfl
    refine VP.seq (VP.seq (VP.of (n:=9) ?_))
    gi_wp2
    refine VP.cond (t:=true) rfl ?_
    rw[if_pos rfl]
    refine VP.seq (VP.of (n:=9) ?_)
    gi_wp2
    clear hW5 hN0 hw1 a0 a1 a2 a3
    refine VP.of (n:=9) (wpIn_wide.2 ?_)
    refine ZA [(1,0),(1,1),(1,3),(1,4),(0,2),(0,5),(0,6),(1,7),(1,8),(0,9),(0,10)] (Keeps (NotM m) W5) (fun i=>i==10)
     Zb Zb (fun j hj=>by have h:11<=j:=hj;simp;omega) Zi (Keeps.refl _ W5).drew ?_
    obtain⟨V0,hV0⟩:=ZqJ W5.drew
    have HX0:Hid (Keeps (NotM m) W5 V0):=by rw[<- hV0];exact(Keeps.refl _ W5).drew
    have HI0:Hid (KInv b ns K m V0):=by rw[<- hV0];exact HK5.out.stay rfl
    rw[hV0]
    clear hV0
    have HN5:Hid (∀ X,Keeps (NotM m) W5 X->X.heap[N0]?=some (moO t1 (a,x,y))/\X.heap[P0]?=some (pObj ZqD ZqD)):=fun X hX=>⟨(hX.block _ (HE5.out.lt 0 rfl) HNM.out).trans (HE5.out.block 0 rfl),(hX.block _ (HE5.out.lt 1 rfl) HPM.out).trans (HE5.out.block 1 rfl)⟩
    have HPX:Hid (∀ X en,Keeps (NotM m) W5 X->KInv b ns K m X->ZC b ns (d+1) t (a,x,y)=.error en->en≠0->Zef b ns K m (ZC b ns (d+1) t (a,x,y)) W (Zbv en) X):=fun X en hX hK h1 h2=>
     ⟨.inr ⟨en,h1,h2,rfl⟩,hK,((HKW.out.trans ((ZaL HW5.out).trans hX)).mono fun x _ hx=>hx.1)⟩
    iterate 4
     refine Zq _ rfl rfl (fun w' hS=>by have hsx:=HS5.out.keep hS;have n0:=Zn hsx.nc 0 rfl;have n1:=Zn hsx.fc 0 rfl;have hnx:=(HN5.out _ hS).1;have m0:=Zn hnx 0 (v:=.int .i64 (t1:Int)) rfl;have m1:=Zn hnx 1 (v:=.int .i64 a) rfl;have m2:=Zn hnx 2 (v:=.int .i64 x) rfl;have m3:=Zn hnx 3 (v:=.int .i64 y) rfl;exact Ze) ?_
     simp only[Act.put,Zl]
    refine Zs 56 _ rfl rfl Zf ?_
    have HSX:=ZqH (HS5.out.keep HX0.out)
    refine(ZgF (t:=t1) (p:=(a,x,y)) (HL.out.below HSX.out.base ZqI) HNB.out HMB.out.2 HSX.out.nb (HH.out.tabs.below HSX.out.base ZqI) (HH.out.vars.below HSX.out.base ZqI)).mono ?_
    rintro e V1 ⟨hE,hb⟩
    have HX1:Hid (Keeps (NotM m) W5 V1):=HX0.out.trans (hb.keepsS _)
    have HI1:Hid (KInv b ns K m V1):=HI0.out.step hb
    clear hb
    rcases hE with ⟨q1,u1,v1,h1,rfl,hi1⟩ | ⟨en,h1,h2,rfl⟩
    case inr=>
     refine .inr ⟨_,rfl,?_⟩
     exact⟨[],rfl,⟨List.nodup_nil,fun D hD=>Zqx hD Zc⟩,HPX.out _ en HX1.out HI1.out (by rw[HFF.out,h1];rfl) h2⟩
    have H1:=ZqH h1
    have HQ1':=ZqH hi1
    refine .inl ⟨_,rfl,HX1.out,?_⟩
    clear h1 hi1
    simp only[Act.put,Zl]
    refine Zs 59 _ rfl rfl Zf ?_
    refine(HIH.out t1 (a,x,y) V1 HT1.out HPC.out (HS5.out.keep HX1.out) HI1.out).mono ?_
    rintro e V2 ⟨hE,hki,hk⟩
    have HX2:Hid (Keeps (NotM m) W5 V2):=HX1.out.trans (ZaL hk)
    have HI2:Hid (KInv b ns K m V2):=hki
    clear hki hk
    rcases hE with ⟨q2,u2,v2,h1,rfl,hi1⟩ | ⟨en,h1,h2,rfl⟩
    case inr=>
     refine .inr ⟨_,rfl,?_⟩
     exact⟨[],rfl,⟨List.nodup_nil,fun D hD=>Zqx hD Zc⟩,HPX.out _ en HX2.out HI2.out (by rw[HFF.out,H1.out,h1];rfl) h2⟩
    have H2:Hid (ZC b ns (d+1) t (a,x,y)=mulF q1 q2):=by show _=_;rw[HFF.out,H1.out,h1];rfl
    have HQ2':=ZqH hi1
    refine .inl ⟨_,rfl,HX2.out,?_⟩
    clear h1 hi1
    simp only[Act.put,Zl]
    refine Zs 24 _ rfl rfl Zf ?_
    refine(Zco u1 v1 u2 v2 _ HQ1'.out.limit.1 HQ1'.out.limit.2 HQ2'.out.limit.1 HQ2'.out.limit.2 (HH.out.tabs.below (HS5.out.keep HX2.out).base ZqI)).mono ?_
    rintro e V3 ⟨x9,y9,en,rfl,hR,hb⟩
    have HX3:Hid (Keeps (NotM m) W5 V3):=HX2.out.trans (hb.keepsS _)
    have HI3:Hid (KInv b ns K m V3):=HI2.out.step hb
    have HA:Hid (Ans (q1*q2) x9 y9 en):=by
     have h1:=hR.both HQ1'.out.ok HQ2'.out.ok
     rwa [HQ1'.out.rat,HQ2'.out.rat] at h1
    refine .inl ⟨_,rfl,HX3.out,?_⟩
    clear hb hR
    simp only[Act.put,Zl]
    iterate 2
     refine Zq _ rfl rfl (fun w' hS=>Ze) ?_
     simp only[Act.put,Zl]
    refine Zs 57 _ rfl rfl Zf ?_
    refine(Zat x9 y9 en _).mono ?_
    rintro e V4 ⟨hE,hb⟩
    have HX4:Hid (Keeps (NotM m) W5 V4):=HX3.out.trans (hb.keepsS _)
    have HI4:Hid (KInv b ns K m V4):=HI3.out.step hb
    clear hb
    rcases hE with ⟨hne,rfl⟩ | ⟨hne,rfl⟩
    case inr=>
     have HM:Hid (mulF q1 q2=.error 4/\en=4):=by
      rcases HA.out with ⟨_,h⟩ | ⟨h,_,_,h2⟩
      ·exact Zqx h hne
      ·exact⟨by unfold mulF;rw[if_neg h],h2⟩
     refine .inr ⟨_,rfl,?_⟩
     exact⟨[],rfl,⟨List.nodup_nil,fun D hD=>Zqx hD Zc⟩,HPX.out _ en HX4.out HI4.out (by rw[H2.out,HM.out.2];exact HM.out.1) hne⟩
    have HIZ:=ZqH (HA.out.zero hne)
    have H3:Hid (ZC b ns (d+1) t (a,x,y)=.ok (q1*q2)):=by
     show _=_
     rw[H2.out]
     unfold mulF
     rw[if_pos HIZ.out.fits]
    refine .inl ⟨_,rfl,HX4.out,?_⟩
    simp only[Act.put,Zl]
    have hg4:=(HN5.out _ HX4.out).2
    have s0:=Zn hg4 0 (v:=.string ZqD) rfl
    have s1:=Zn hg4 1 (v:=.string ZqD) rfl
    have f0:=Zo hg4 0
    have f1:=Zo hg4 1
    obtain⟨V,hV⟩:=ZqJ ((V4.setCell ⟨P0,0,none⟩ (.string x9)).setCell ⟨P0,1,none⟩ (.string y9))
    have HPV:Hid (V.heap[P0]?=some (pObj x9 y9)):=by show _=_;rw[<- hV];exact ZQ hg4 _ _
    have hkv:Keeps (fun b=>b≠P0) V4 V:=by rw[<- hV];exact((Keeps.refl _ V4).setCell (p:=⟨P0,0,none⟩) (fun h=>h rfl) _).setCell (p:=⟨P0,1,none⟩) (fun h=>h rfl) _
    have HIV:Hid (KInv b ns K m V):=HI4.out.stay (hkv.block m HI4.out.lt (Ne.symm HPM.out))
    have HKV:Hid (Keeps (NotM m) W1 V):=ZaL ((HW5.out.trans (HX4.out.mono fun z _ hz=>hz.1)).trans (hkv.mono fun z _ hz=>by have:=HPS.out;omega))
    refine ZG rfl rfl fun K' hK'=>?_
    go_simp
    refine hK' _ _ (.inl rfl) ?_
    clear hK' K' hg4 s0 s1 f0 f1 hne hkv hV
    refine Zz ?_
    show VP _ _ _ _ _
    refine VP.of (n:=9) ?_
    have HDN:Hid (([]:List Nat).Nodup/\∀ D ∈ ([]:List Nat),W.heap.size<=D/\V.heap[D]?=some (.deferred (some []))):=⟨List.nodup_nil,fun D hD=>Zqx hD Zc⟩
    have HKX:Hid (∃ V2,(Instr.mapUpdate 124 (.map (some m)) (kMo t (a,x,y)) (pV x9 y9)).run Tryz.prog V=.ok () V2/\KInv b ns K m V2/\Keeps (fun b=>b≠m) V V2):=by
     obtain⟨Ks,k1,k2⟩:=HIV.out
     obtain⟨V2,u1,u2,u3⟩:=ZmZ k1 (k:=(t,_,x,y)) HMB.out HIZ.out
     refine⟨V2,u1,⟨_,u2,fun z hz=>?_⟩,u3⟩
     rcases Zc4.1 hz with rfl | ⟨hz,_⟩
     ·have h9:=H3.out
      rw[show K-t=d+1 by omega]
      exact h9
     ·exact k2 z hz
    obtain⟨V2,hput,hki2,hk2⟩:=HKX.out
    have HKI2:=ZqH hki2
    have HSV:=ZqH (HSM.out.keep HKV.out)
    have HS2:=ZqH (HSV.out.keep hk2)
    have kb0:=Zn HSV.out.kb 0 (v:=.map (some m)) rfl
    have HQV:Hid (V.heap[Q0]?=some (moO t (a,x,y))):=(HKV.out.block _ HQL.out.1 HQL.out.2.1).trans HQ1.out
    have HRV:Hid (V.heap[R]?=some (pObj ZqD ZqD)):=(HKV.out.block _ HQL.out.2.2.1 HQL.out.2.2.2).trans HR1.out
    have c0:=Zn HQV.out 0 (v:=.int .i64 (t:Int)) rfl
    have c1:=Zn HQV.out 1 (v:=.int .i64 a) rfl
    have c2:=Zn HQV.out 2 (v:=.int .i64 x) rfl
    have c3:=Zn HQV.out 3 (v:=.int .i64 y) rfl
    have d0:=Zn HPV.out 0 (v:=.string x9) rfl
    have d1:=Zn HPV.out 1 (v:=.string y9) rfl
    have HP2:Hid (V2.heap[P0]?=some (pObj x9 y9)):=(hk2.block _ (ZqC HPV.out) HPM.out).trans HPV.out
    have HR2:Hid (V2.heap[R]?=some (pObj ZqD ZqD)):=(hk2.block _ (ZqC HRV.out) HQL.out.2.2.2).trans HRV.out
    have g0:=Zn HP2.out 0 (v:=.string x9) rfl
    have g1:=Zn HP2.out 1 (v:=.string y9) rfl
    have r0:=Zn HR2.out 0 (v:=.string ZqD) rfl
    have r1:=Zn HR2.out 1 (v:=.string ZqD) rfl
    have f0:=Zo HR2.out 0
    have f1:=Zo HR2.out 1
    obtain⟨V3,hV3⟩:=ZqJ ((V2.setCell ⟨R,0,none⟩ (.string x9)).setCell ⟨R,1,none⟩ (.string y9))
    have HR3:Hid (V3.heap[R]?=some (pObj x9 y9)):=by show _=_;rw[<- hV3];exact ZQ HR2.out _ _
    have hk3:Keeps (fun b=>b≠R) V2 V3:=by rw[<- hV3];exact((Keeps.refl _ V2).setCell (p:=⟨R,0,none⟩) (fun h=>h rfl) _).setCell (p:=⟨R,1,none⟩) (fun h=>h rfl) _
    have HKI3:Hid (KInv b ns K m V3):=HKI2.out.stay (hk3.block m HKI2.out.lt (Ne.symm HQL.out.2.2.2))
    have HKF:Hid (Keeps (fun x=>x≠m/\x<W.heap.size) W V3):=by
     have h1:=HKW.out.trans (HKV.out.trans hk2)
     exact(h1.mono (S':=fun x=>x≠m/\x<W.heap.size) fun x _ hx=>hx.1).trans (hk3.mono fun z _ hz=>by have:=HSZ.out;show z≠R;omega)
    have HDZ:Hid ((([]:List Nat)).Nodup/\∀ E9 ∈ ([]:List Nat),W.heap.size<=E9/\V3.heap[E9]?=some (.deferred (some []))):=⟨HDN.out.1,fun E9 hD=>by
     obtain⟨h1,h2⟩:=HDN.out.2 E9 hD
     have h3:=(hk2.block _ (ZqC h2) (fun e=>by
      obtain⟨es,cl,hm⟩:=HIV.out.map
      rw[<- e,h2] at hm
      cases hm)).trans h2
     exact⟨h1,(hk3.block _ (ZqC h3) (fun e=>by rw[e,HR2.out] at h3;cases h3)).trans h3⟩⟩
    have HPO:Hid (Zd0 (ZC b ns (d+1) t (a,x,y)) (.returned (pV x9 y9))):=.inl ⟨_,x9,y9,H3.out,rfl,HIZ.out⟩
    have HRN:Hid (R ∉ ([]:List Nat)):=fun hin=>by
     have h1:=(HDZ.out.2 R hin).2
     rw[HR3.out] at h1
     cases h1
    clear hki2 hk2 hk3
    gi_wp2
    exact⟨([]:List Nat),R,pV x9 y9,rfl,HDZ.out,⟨(ZqC HR3.out),HRN.out⟩,(fun w' hw'=>by
     have q0:=Zn (hw'.trans HR3.out) 0 (v:=.string x9) rfl
     have q1:=Zn (hw'.trans HR3.out) 1 (v:=.string y9) rfl
     simp[results,Tryz.f59,go_sem,q0,q1]),HPO.out,HKI3.out,HKF.out⟩
end Go.Proofs.YtjmckebecpjjfaaGreatDoor
