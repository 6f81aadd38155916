/- The parts BelBU, BelBW. -/
import Derived.Test.YtjmckebecpjjfaaGreatDoorH20
import Derived.Test.YtjmckebecpjjfaaGreatDoorH21
set_option maxRecDepth 100000
set_option maxHeartbeats 4000000
set_option linter.unusedVariables false
set_option linter.unusedSimpArgs false
namespace Go.Proofs.YtjmckebecpjjfaaGreatDoor
open Go.RowKit Go.Shelf
attribute [local go_sem] Oper.semAt_some
abbrev fdO (m:Nat):Obj:=.cells #[.map (some m)] 159
theorem ZbC {b:BelP} (h:BelOk b) {p:Pl} (hp:PlcB b p):PlB p:=by
 unfold PlcB at hp
 rw[Zg0] at hp
 simp only[ZcY,Zqt,Zqu] at hp
 have:=h.w1
 have:=h.h1
 have:=h.len
 unfold PlB
 omega
theorem ZmY {w w':World} {B B':Nat} {e:TypeId} {size:Nat} {v:Value} {n:Nat} {xs:List Value} (h:w.ownsRow B e size v n xs) (hk:Keeps (fun b=>¬ (B'<=b/\w.heap[b]?=some (.deferred (some [])))) w w'):w'.ownsRow B e size v n xs:=by
 obtain⟨h1,h2⟩:=h
 refine⟨h1,?_⟩
 rcases h2 with h2 | ⟨g,cap,cur,hv,hb,hg,hr⟩
 ·exact .inl h2
 ·exact .inr ⟨g,cap,cur,hv,hb,(hk.block g (ZqC hg) (by rw[hg];rintro⟨_,h⟩;cases h)).trans hg,hr⟩
theorem Zkj {r:Except Int Fl} {w0:World} (e:Ending) (w w':World) (h:ZcR r w0 e w) (hk:Keeps (fun b=>¬ (w0.heap.size<=b/\w.heap[b]?=some (.deferred (some [])))) w w'):ZcR r w0 e w':=by
 have hb:Below w0.heap.size w0 w':=h.2.trans ((hk.mono (S':=fun b=>b<w0.heap.size) fun b _ hb hc=>Za).toBelow h.2.size)
 rcases h.1 with ⟨ms,v,h1,h2,h3,h4⟩ | h1
 ·exact⟨.inl ⟨ms,v,h1,h2,ZmY h3 hk,h4⟩,hb⟩
 ·exact⟨.inr h1,hb⟩
theorem Zga {b:BelP} (hb:ZF b=true) {k:Nat} (hk:k<b.scenes.length):1<=(scA b.scenes k).strides.length/\(scA b.scenes k).strides.length<=25:=by
 unfold ZF at hb
 simp only[Zqt,Bool.not_eq_true'] at hb
 have h6:=ZcQ hb.2.1 hk
 rw[Bool.not_eq_false'] at h6
 unfold Zaa at h6
 simp only[Zqt,Zcp] at h6
 have:=h6.1.2
 omega
theorem Zk1 {b:BelP} {lv sv v:Value} {ms:Fl} {w:World} (h:BelIn b lv sv w) (hb:ZF b=true) (hm:ZK w v ms) (hms:MassOk b ms) :
  Calls Tryz.prog 45 #[belV b lv sv,v] w (ZcR (ZaB b ms) w):=by
 obtain⟨n,hn⟩:=ZqJ ms.length
 obtain⟨pm,cm,rfl,hc1,hc2⟩:=hm.shape hn
 obtain⟨ng,hng⟩:=ZqJ b.sea.land.length
 obtain⟨pg,cg,rfl,_,_⟩:=h.sea.land.shape hng
 obtain⟨ns,hns⟩:=ZqJ b.scenes.length
 obtain⟨ps,cs,rfl,_,_⟩:=h.scenes.shape hns
 have HN:=ZqH hn
 have HNS:=ZqH hns
 have HH:=ZqH h
 have HCB:=ZqH hb
 have HMS:=ZqH hms
 have HAT:=ZqH (fun h0=>ZK.at hm hn h0)
 have hmk:∀ (t:TypeId) (w:World),(Instr.makeMap t none).run Tryz.prog w=.ok (.map (some w.heap.size)) (w.alloc (.map #[] 0)):=fun _ _=>rfl
 clear h hb hms hm hn hns hng
 refine(Zqp (n:=9)).1 (ZhL Tryz.func45 rfl ?_)
 simp only[Tryz.ntmps45,Nat.reduceAdd,Nat.reduceSub,ZqG]
 refine VP.mono ?_ (Zji (B:=w.heap.size) (rs:=fun t=>t.getD 4 undef) (fun t w=>by simp[results,Tryz.f45,go_sem]) Zkj)
 refine VP.seq (VP.of (n:=9) ?_)
 gi_wp2
 refine VP.seq (VP.of (n:=9) ?_)
 gi_wp2
 obtain⟨w1,hw1⟩:=ZqJ (((w.alloc (belO b (.slice pg ng cg) (.slice ps ns cs))).alloc (.map #[] 0)).alloc (fdO (w.heap.size+1)))
 obtain⟨m,hm⟩:=ZqJ (w.heap.size+1)
 have HSZ:Hid (w1.heap.size=w.heap.size+3):=by show _=_;rw[<- hw1];simp
 have HBW:ZqB w w1:=by rw[<- hw1];exact(((ZpV _ w).alloc ZqI _).alloc Zc _).alloc (by simp;omega) _
 have HB1:Hid (w1.heap[w.heap.size]?=some (belO b (.slice pg ng cg) (.slice ps ns cs))):=by
  show _=_
  rw[<- hw1,Zqb _ _ _ (by simp;omega),Zqb _ _ _ Zc]
  exact ZpY w _
 have HF1:Hid (FMap w1 m []):=by
  have h1:=FMap.made (w.alloc (belO b (.slice pg ng cg) (.slice ps ns cs)))
  have h2:=h1.step ((ZpV _ _).alloc ZqI (fdO (w.heap.size+1)))
  rw[hw1] at h2
  rw[<- hm]
  show FMap _ _ _
  simpa using h2
 have HFD:Hid (w1.heap[w.heap.size+2]?=some (fdO m)):=by
  show _=_
  have h1:=ZpY ((w.alloc (belO b (.slice pg ng cg) (.slice ps ns cs))).alloc (.map #[] 0)) (fdO (w.heap.size+1))
  rw[hw1,hm] at h1
  simpa using h1
 have HM:=ZqH hm
 rw[hm] at hw1
 rw[show (Obj.cells #[Value.map (some (w.heap.size+1))] 159)=fdO m by rw[hm]]
 rw[hw1]
 clear hw1 hm
 refine VP.seq ?_
 refine VP.seq (VP.of (n:=9) ?_)
 gi_wp2
 refine VP.block ?_
 refine VP.loop (fun a wr=>∃ (k:Nat) (f:Fl) (Ds:List Nat) (x6 x7 x8 x9 x10 x11 x16 x17 x18 x19 x20 x21 x22 x23 x24 x25 x26 x27 x28 x29 x30 x31 x32 x33 x34 x35 x36 x37 x38 x39 x40 x41 x42 x43 x44 x45 x46 x47 x48 x49:Value),a = { tmps:=#[belV b (.slice pg ng cg) (.slice ps ns cs),.slice pm n cm,.pointer (some ⟨w.heap.size,0,none⟩),undef,.slice none 0 0,.pointer (some ⟨w.heap.size+2,0,none⟩),x6,x7,x8,x9,x10,x11,.map (some (w.heap.size+1)),.slice pm n cm,.int .i64 n,.int .i64 k,x16,x17,x18,x19,x20,x21,x22,x23,x24,x25,x26,x27,x28,x29,x30,x31,x32,x33,x34,x35,x36,x37,x38,x39,x40,x41,x42,x43,x44,x45,x46,x47,x48,x49],defers:=Ds.map ZfY }/\k<=n/\Hid (Zt (ZcW b ms) k []=.ok f)/\Hid (FMap wr m f)/\Hid (Keeps (NotM m) w1 wr)/\
   Hid (Ds.Nodup/\∀ D ∈ Ds,w1.heap.size<=D/\wr.heap[D]?=some (.deferred (some [])))) (fun a _=>n-(intOf (a.tmps.getD 15 undef)).toNat) ?_ ?_
 ·exact⟨0,[],[],_,_,_,_,_,_,_,_,_,_,_,_,_,_,_,_,_,_,_,_,_,_,_,_,_,_,_,_,_,_,_,_,_,_,_,_,_,_,_,_,by first | rfl | (simp;done),Zp8 _,rfl,HF1,Keeps.refl _ _,List.nodup_nil,fun D hD=>Zqx hD Zc⟩
 ·rintro a wr ⟨k,f,Ds,x6,x7,x8,x9,x10,x11,x16,x17,x18,x19,x20,x21,x22,x23,x24,x25,x26,x27,x28,x29,x30,x31,x32,x33,x34,x35,x36,x37,x38,x39,x40,x41,x42,x43,x44,x45,x46,x47,x48,x49,rfl,hk,HLP,HFM,HK,HDS⟩
  refine VP.seq (VP.of (n:=9) ?_)
  by_cases hlt:k<n
  ·gi_wp2
   refine VP.seq (VP.of (n:=9) ?_)
   gi_wp2
   refine VP.seq (VP.block ?_)
   have HBR:ZqB w wr:=HBW.out.trans ((HK.out.mono (S':=fun b=>b<w.heap.size) fun b _ hb=>by have:=HM.out;show b≠m;omega).toBelow HBW.out.size)
   obtain⟨b0,o0,rfl,hat⟩:=HAT.out Za
   obtain⟨s,t,hi,_,_,_,hcell⟩:=hat k hlt
   obtain⟨e0,e1,e2,e3,e4⟩:=hcell wr HBR.out
   have hmem:mA ms k ∈ ms:=by rw[<- Z9 (by rw[HN.out];exact hlt)];exact Zqm _
   have HPC:=ZqH (HMS.out.plc _ hmem)
   obtain⟨⟨⟨x0,x1,x2⟩,q⟩,hx⟩:∃ z,mA ms k=z:=⟨_,rfl⟩
   have HX:=ZqH hx
   rw[hx] at hi e0 e1 e2 HPC
   dsimp only at hi e0 e1 e2 HPC
   have HI:=ZqH hi
   clear hx hi hcell hat hmem
   obtain⟨W,hW⟩:=ZqJ (wr.alloc (maO (x0,x1,x2) s t))
   obtain⟨q0,hq0⟩:=ZqJ wr.heap.size
   have HKW:Hid (Keeps (NotM m) w1 W):=by show Keeps _ _ _;rw[<- hW];exact HK.out.alloc _
   have HQB:Hid (W.heap[q0]?=some (maO (x0,x1,x2) s t)):=by show _=_;rw[<- hW,<- hq0];exact ZpY wr _
   have HAL:ZqB wr W:=by show Below _ _ _;rw[<- hW];exact(ZpV _ wr).alloc ZqI _
   have HBW2:ZqB w W:=HBR.out.trans (HAL.out.mono HBR.out.size)
   have HFW:Hid (FMap W m f):=HFM.out.step HAL.out
   have i0':(0:Int)<=(k:Int):=Za
   have i1':(k:Int)<(n:Int):=Za
   refine VP.seq (VP.of (n:=9) ?_)
   gi_wp2
   clear hW hq0 e0 e1 e2 e3 e4
   refine VP.seq (VP.of (n:=9) (wpIn_wide.2 ?_))
   refine ZA [(1,0),(1,1),(0,2),(0,3),(1,4),(1,5),(1,6),(1,7),(1,8)] (Below W.heap.size W) (fun _=>false)
    Zb Zb (fun _ _=>rfl) Zi (ZpV _ W).drew ?_
   have HE4:Hid (Below W.heap.size W W.drew):=(ZpV _ W).drew
   have HBO:Hid (W.heap[w.heap.size]?=some (belO b (.slice pg ng cg) (.slice ps ns cs))):=(HKW.out.block _ (ZqC HB1.out) (by have:=HM.out;show w.heap.size≠m;omega)).trans HB1.out
   have HBL:Hid (w.heap.size<W.heap.size/\q0<W.heap.size):=⟨(ZqC HBO.out),(ZqC HQB.out)⟩
   iterate 2
    refine Zq _ rfl rfl (fun w' hS=>by obtain⟨c0,c1,c2,c3,c4⟩:=Zv ((hS.block _ HBL.out.1).trans HBO.out);have hq:=(hS.block _ HBL.out.2).trans HQB.out;have a0:=Zn hq 0 (v:=.int .i64 x0) rfl;have a1:=Zn hq 1 (v:=.int .i64 x1) rfl;have a2:=Zn hq 2 (v:=.int .i64 x2) rfl;have a3:=Zn hq 3 (v:=.string s) rfl;have a4:=Zn hq 4 (v:=.string t) rfl;exact Ze) ?_
    simp only[Act.put,Zl]
   refine Zs 64 _ rfl rfl Zf ?_
   have HEC:=HE4
   refine(ZbV (x0,x1,x2) s t _).mono ?_
   rintro e w5 ⟨rfl,hb⟩
   have HE5:=ZqH (HE4.out.trans (hb.mono HE4.out.size))
   refine .inl ⟨_,rfl,HE5.out,?_⟩
   clear hb HEC
   simp only[Act.put,Zl]
   have HBW5:ZqB w w5:=HBW2.out.trans (HE5.out.mono HBW2.out.size)
   refine Zs 60 _ rfl rfl Zf ?_
   refine(ZjD (HH.out.sea.land.after RunR.stays HBW5.out ZqI) (HH.out.vars.below HBW5.out ZqI)).mono ?_
   rintro e w6 ⟨hb,hwy⟩
   have HE6:ZqB W w6:=HE5.out.trans (hb.mono HE5.out.size)
   clear hb
   cases hst:Zaz b (x0,x1,x2)
   ·rw[hst] at hwy
    simp only[Bool.false_eq_true,if_false] at hwy
    obtain⟨rfl,hwB,hwP⟩:=hwy
    refine .inl ⟨_,rfl,HE6.out,?_⟩
    simp only[Act.put,Zl]
    iterate 5
     refine Zq _ rfl rfl (fun w' hS=>Ze) ?_
     simp only[Act.put,Zl]
    refine Zz ?_
    obtain⟨⟨hp0,hp1⟩,hp2⟩:=HPC.out
    dsimp only at hp0 hp1
    rw[HNS.out] at hp1
    obtain⟨j,hj⟩:∃ j:Nat,x0=j:=⟨x0.toNat,Za⟩
    subst hj
    have hjn:j<ns:=Za
    clear hp0 hp1 hp2
    have hlen:=Zga HCB.out (k:=j) (by rw[HNS.out];exact hjn)
    have hsp:Zw b (j:Int)=(scA b.scenes j).strides:=by unfold Zw;rw[Int.toNat_natCast]
    obtain⟨nt,hnt⟩:=ZqJ ((scA b.scenes j).strides.length)
    rw[hnt] at hlen
    have HMG:Hid (ZcW b ms k f=Zt (Zc8 b ((j:Int),x1,x2) q (Zw b j)) nt f):=by
     show _=_
     unfold ZcW
     rw[HX.out,if_neg (by show ¬ Zaz b ((j:Int),x1,x2)=true;rw[hst];exact Bool.false_ne_true)]
     show Zt _ (Zw b (j:Int)).length f=_
     rw[hsp,hnt]
    have hok:=Zb6 HCB.out
    have HSS:Hid (∀ i,i<nt->Zao (stA (Zw b (j:Int)) i)=true):=fun i hi=>by
     rw[hsp]
     exact(hok.sc j (by rw[HNS.out];exact hjn)).st i (by rw[hnt];exact hi)
    obtain⟨sb,so,rfl,p0,n0,c0,p1,n1,c1,hsat⟩:=Zb7.at HH.out.scenes HNS.out Za
    obtain⟨hsc,_,hstl⟩:=hsat j hjn
    have hn1:n1 j=nt:=by rw[<- hnt];exact hstl.len.symm
    obtain⟨td',hp1⟩:=ZqJ (p1 j)
    obtain⟨ct,hc1'⟩:=ZqJ (c1 j)
    rw[hn1,hp1,hc1'] at hstl hsc
    obtain⟨tb,td,rfl,htat⟩:=Zad.at hstl hnt Za
    have HSC:Hid (∀ W',Below w.heap.size w W'->W'.cell? ⟨sb,so+j*4+3,none⟩=some (.slice (some ⟨tb,td,none⟩) nt ct)):=fun W' h=>(hsc W' h).2.2.2
    have HTA:=ZqH htat
    have HPB:=ZqH (ZbC hok HPC.out)
    have HGW:=ZqH (Zex hok)
    have HN8:Hid (ns<=8):=by have h1:=hok.len;rw[HNS.out] at h1;exact h1
    have HSP:=ZqH hsp
    have hnt25:nt<=25:=hlen.2
    obtain⟨B,hB⟩:=ZqJ w5.heap.size
    rw[hB] at hwB hwP ⊢
    have HBM:Hid (m<B):=by have h1:=HE5.out.size;have h2:=HFW.out.lt;show m<B;omega
    have HWB:=ZqH hwB
    have HWP:=ZqH hwP
    obtain⟨D,hD⟩:=ZqJ w6.heap.size
    have HBD:Hid (B<D/\B+1<D):=by have h1:=(ZqC hwB);have h2:=(ZqC hwP);exact⟨Za,Za⟩
    have HFO:Hid (w6.heap[w.heap.size+2]?=some (fdO m)):=by
     have h1:=(HKW.out.block _ (ZqC HFD.out) (by have:=HM.out;show w.heap.size+2≠m;omega)).trans HFD.out
     exact(HE6.out.block _ (ZqC h1)).trans h1
    have HQ6:Hid (w6.heap[q0]?=some (maO ((j:Int),x1,x2) s t)):=(HE6.out.block _ HBL.out.2).trans HQB.out
    have HF6:Hid (FMap w6 m f):=HFW.out.step HE6.out
    have HB6:ZqB w w6:=HBW2.out.trans (HE6.out.mono HBW2.out.size)
    have HK6:Hid (Keeps (NotM m) w1 w6):=HKW.out.trans (HE6.out.keepsS _)
    have HD6:Hid (Ds.Nodup/\∀ D ∈ Ds,w1.heap.size<=D/\w6.heap[D]?=some (.deferred (some []))):=⟨HDS.out.1,fun D hD=>by
     obtain⟨h1,h2⟩:=HDS.out.2 D hD
     have h3:=(HAL.out.block _ (ZqC h2)).trans h2
     exact⟨h1,(HE6.out.block _ (ZqC h3)).trans h3⟩⟩
    have HFL:Hid (w.heap.size+2<D/\q0<D/\m<D/\w.heap.size+2≠m/\q0≠m):=by
     have h1:=(ZqC HFO.out)
     have h2:=(ZqC HQ6.out)
     have h3:=HBM.out
     have h4:=HBD.out
     have h5:=HM.out
     have h6:q0≠m:=fun e=>by
      have a1:=HFW.out
      obtain⟨⟨es,cl,hb,_⟩,_⟩:=a1
      rw[<- e,HQB.out] at hb
      cases hb
     exact⟨Za,Za,Za,Za,h6⟩
    clear hst HE4 HE5 HE6 hwB hwP hsat hsc hstl htat hn1 hlen hsp hok hnt
    show VP _ _ _ _ _
    refine VP.seq (VP.of (n:=9) ?_)
    gi_wp2
    refine VP.seq (VP.of (n:=9) ?_)
    gi_wp2
    refine VP.block ?_
    refine ZjK (n:=9) D hD (gf:=111) (lb:=#[.pointer (some ⟨B,0,none⟩),.pointer (some ⟨B+1,0,none⟩)])
     (f:=fun i=>#[kPl (Z6 b ((j:Int),x1,x2) (stA (Zw b j) i)),pV (stA (Zw b j) i).chance.1 (stA (Zw b j) i).chance.2]) (N:=nt) (S:=fun b=>b≠m/\b<D) (T:=fun _=>True)
     rfl (enters_of Tryz.func111 Zb rfl) (fun _=>rfl)
     (Zhb HGW.out (pg:=pg) (ng:=ng) (cg:=cg) (sb:=sb) (so:=so) (n:=ns) (cs:=cs) hjn HN8.out HPB.out (tb:=tb) (td:=td) (ct:=ct) hnt25 HSS.out (fun b=>b≠m/\b<D) w6 (fun W' hk'=>?win)) (fun _ hb=>hb.2) ⟨trivial,trivial⟩
     (fun i W'=>∃ fi,Zt (Zc8 b ((j:Int),x1,x2) q (Zw b j)) i f=.ok fi/\FMap W' m fi/\Keeps (fun b=>b≠m/\b<D) w6 W')
     (fun ch W'=>∃ en,ZcW b ms k f=.error en/\en≠0/\.panicked ch=Zbv en/\Keeps (fun b=>b≠m/\b<D) w6 W')
     (fun i W1 W2 hI hk'=>?ci) ⟨f,rfl,HF6.out,Keeps.refl _ _⟩
     (fun i a' W'=>∃ (q1 q2:Nat) (y0 y1 y2 y3 y4 y6 y8 y9 y12 y13 y14 y15 y16 y17 y18 y19 y20 y21 y22 y23 y24 y25 y26 y27 y28 y29 y30 y31 y32 y33 y34 y35 y36 y37 y38 y39 y40 y41 y42 y43 y44 y45 y46 y47 y48 y49:Value),a' = { tmps:=#[y0,y1,y2,y3,y4,.pointer (some ⟨w.heap.size+2,0,none⟩),y6,.pointer (some ⟨q0,0,none⟩),y8,y9,.pointer (some ⟨q1,0,none⟩),.pointer (some ⟨q2,0,none⟩),y12,y13,y14,y15,y16,y17,y18,y19,y20,y21,y22,y23,y24,y25,y26,y27,y28,y29,y30,y31,y32,y33,y34,y35,y36,y37,y38,y39,y40,y41,y42,y43,y44,y45,y46,y47,y48,y49],defers:=[] }/\W'.heap[q1]?=some (plO (Z6 b ((j:Int),x1,x2) (stA (Zw b j) i)))/\W'.heap[q2]?=some (pObj (stA (Zw b j) i).chance.1 (stA (Zw b j) i).chance.2)/\D+2<=q1/\D+2<=q2)
     (fun i a' W1 W2 hB' hk'=>?cb) ?assign ?body ?done ?stop
    case win=>
     have hbw:Below w.heap.size w W':=HB6.out.trans ((hk'.mono (S':=fun b=>b<w.heap.size) fun b _ hb=>by have:=HM.out;have:=HB6.out.size;exact⟨Za,Za⟩).toBelow HB6.out.size)
     have hv:=HH.out.vars.below hbw ZqI
     refine⟨(hk'.block B (by have:=HBD.out;omega) ⟨by have:=HBM.out;omega,HBD.out.1⟩).trans HWB.out,(hk'.block (B+1) (by have:=HBD.out;omega) ⟨by have:=HBM.out;omega,HBD.out.2⟩).trans HWP.out,HSC.out W' hbw,fun i hi=>?_,hv.g0,hv.g1⟩
     have h1:=HTA.out W' hbw i hi
     rw[HSP.out]
     exact h1
    case ci=>
     obtain⟨fi,h1,h2,h3⟩:=hI
     exact⟨fi,h1,h2.stay (hk'.block m h2.lt ⟨trivial,by have:=HFL.out;omega,by have:=HFL.out;omega⟩),h3.trans (hk'.mono fun b _ hb=>⟨trivial,Za,Za⟩)⟩
    case cb=>
     obtain⟨q1,q2,y0,y1,y2,y3,y4,y6,y8,y9,y12,y13,y14,y15,y16,y17,y18,y19,y20,y21,y22,y23,y24,y25,y26,y27,y28,y29,y30,y31,y32,y33,y34,y35,y36,y37,y38,y39,y40,y41,y42,y43,y44,y45,y46,y47,y48,y49,h1,h2,h3,h4,h5⟩:=hB'
     exact⟨q1,q2,y0,y1,y2,y3,y4,y6,y8,y9,y12,y13,y14,y15,y16,y17,y18,y19,y20,y21,y22,y23,y24,y25,y26,y27,y28,y29,y30,y31,y32,y33,y34,y35,y36,y37,y38,y39,y40,y41,y42,y43,y44,y45,y46,y47,y48,y49,h1,(hk'.block q1 (ZqC h2) ⟨Za,Za⟩).trans h2,(hk'.block q2 (ZqC h3) ⟨Za,Za⟩).trans h3,h4,h5⟩
    case assign=>
     intro l i W' hi hD2
     obtain⟨PL1,hPL⟩:=ZqJ (Z6 b ((j:Int),x1,x2) (stA (Zw b j) i))
     obtain⟨⟨ch1,ch2⟩,hch⟩:∃ z,(stA (Zw b j) i).chance=z:=⟨_,rfl⟩
     rw[hPL,hch]
     obtain⟨l1,l2,l3⟩:=PL1
     gi_wp2
     refine⟨((Keeps.refl _ W').alloc _).alloc _,_,_,_,_,_,_,_,_,_,_,_,_,_,_,_,_,_,_,_,_,_,_,_,_,_,_,_,_,_,_,_,_,_,_,_,_,_,_,_,_,_,_,_,_,_,_,_,_,rfl,(Zqb _ _ _ Zc).trans (ZpY W' _),?_,hD2,Za⟩
     have h1:=ZpY (W'.alloc (plO (l1,l2,l3))) (pObj ch1 ch2)
     simpa using h1
    case body=>
     rintro l i a' W' hi ⟨fi,g1,g2,g3⟩ ⟨q1,q2,y0,y1,y2,y3,y4,y6,y8,y9,y12,y13,y14,y15,y16,y17,y18,y19,y20,y21,y22,y23,y24,y25,y26,y27,y28,y29,y30,y31,y32,y33,y34,y35,y36,y37,y38,y39,y40,y41,y42,y43,y44,y45,y46,y47,y48,y49,rfl,b1,b2,b3,b4⟩ hD2
     have hss:=HSS.out i hi
     have HPL:Hid (PlB (Z6 b ((j:Int),x1,x2) (stA (Zw b j) i))):=ZbC (Zb6 HCB.out) (Zfj HPC.out _)
     have HSG:Hid (Zc8 b ((j:Int),x1,x2) q (Zw b j) i fi=match mulF q (qP (stA (Zw b j) i).chance) with
      | .error e=>.error e
      | .ok r=>addF fi (Z6 b ((j:Int),x1,x2) (stA (Zw b j) i)) r):=rfl
     have HCH:=ZqH (ZdZ ((Bool.and_eq_true_iff.1 hss).2) Zd)
     obtain⟨PL1,hPL⟩:=ZqJ (Z6 b ((j:Int),x1,x2) (stA (Zw b j) i))
     obtain⟨⟨ch1,ch2⟩,hch⟩:∃ z,(stA (Zw b j) i).chance=z:=⟨_,rfl⟩
     rw[hPL] at b1 HPL HSG
     rw[hch] at b2 HCH HSG
     dsimp only at b2 HCH
     obtain⟨qc,hqc⟩:=ZqJ (qP (ch1,ch2))
     rw[hqc] at HCH HSG
     obtain⟨l1,l2,l3⟩:=PL1
     have HG1:=ZqH g1
     have HG2:=ZqH g2
     have HG3:=ZqH g3
     have HFX:Hid (W'.heap[w.heap.size+2]?=some (fdO m)):=(g3.block _ (by have:=HFL.out;omega) ⟨by have:=HFL.out;omega,by have:=HFL.out;omega⟩).trans HFO.out
     have HQX:Hid (W'.heap[q0]?=some (maO ((j:Int),x1,x2) s t)):=(g3.block _ (by have:=HFL.out;omega) ⟨by have:=HFL.out;omega,by have:=HFL.out;omega⟩).trans HQ6.out
     have HB1':=ZqH b1
     have HB2':=ZqH b2
     have HQ12:Hid (q1≠m/\q2≠m):=⟨by have:=HFL.out;omega,by have:=HFL.out;omega⟩
     have HLT:Hid (w.heap.size+2<W'.heap.size/\q0<W'.heap.size/\q1<W'.heap.size/\q2<W'.heap.size):=⟨(ZqC HFX.out),(ZqC HQX.out),(ZqC b1),(ZqC b2)⟩
     have HBX:Hid (∀ X,Keeps (NotM m) W' X->Below w.heap.size w X):=fun X hX=>HB6.out.trans (((g3.trans (hX.mono fun b _ hb=>hb.1)).mono (S':=fun b=>b<w.heap.size) fun b _ hb=>by have:=HM.out;have:=HB6.out.size;exact⟨Za,Za⟩).toBelow HB6.out.size)
     have HRE:Hid (∀ X,Keeps (NotM m) W' X->Keeps (fun b=>(b≠m/\b<D)\/b=D\/b=D+1) W' X/\Keeps (fun b=>b=D) W' X/\Keeps (fun b=>b≠m/\b<D) w6 X):=fun X hX=>⟨hX.mono fun b _ hb=>by have:=HFL.out;show b≠m;omega,hX.mono fun b _ hb=>by have:=HFL.out;show b≠m;omega,HG3.out.trans (hX.mono fun b _ hb=>hb.1)⟩
     clear hss hPL hch hqc g1 g2 g3 b1 b2 b3 b4 hD2
     refine wpIn_block ?_
     refine Zfv [(1,0),(1,1),(1,2),(1,3),(1,4),(0,5),(1,6),(1,7),(0,8),(0,9)] (Keeps (NotM m) W') (fun _=>false)
      Zb Zb Zb (by rintro⟨a,w,h⟩;exact h) (fun _ _=>rfl) Zi (Keeps.refl _ W').drew ?_
     obtain⟨V4,hV4⟩:=ZqJ W'.drew
     have HE4:Hid (Keeps (NotM m) W' V4):=by rw[<- hV4];exact(Keeps.refl _ W').drew
     have HF4:Hid (FMap V4 m fi):=by rw[<- hV4];exact HG2.out.stay rfl
     rw[hV4]
     clear hV4
     have HL1:=ZqH HI.out.limit
     have HL2:=ZqH HCH.out.limit
     iterate 5
      refine Zq _ rfl rfl (fun w' hS=>by have hf:=(hS.block _ HLT.out.1 HFL.out.2.2.2.1).trans HFX.out;have hq:=(hS.block _ HLT.out.2.1 HFL.out.2.2.2.2).trans HQX.out;have hb1:=(hS.block _ HLT.out.2.2.1 HQ12.out.1).trans HB1'.out;have hb2:=(hS.block _ HLT.out.2.2.2 HQ12.out.2).trans HB2'.out;have d0:=Zn hf 0 (v:=.map (some m)) rfl;have a3:=Zn hq 3 (v:=.string s) rfl;have a4:=Zn hq 4 (v:=.string t) rfl;have p0:=Zn hb1 0 (v:=.int .i64 l1) rfl;have p1:=Zn hb1 1 (v:=.int .i64 l2) rfl;have p2:=Zn hb1 2 (v:=.int .i64 l3) rfl;have r0:=Zn hb2 0 (v:=.string ch1) rfl;have r1:=Zn hb2 1 (v:=.string ch2) rfl;exact Ze) ?_
      simp only[Act.put,Zl]
     refine Zs 24 _ rfl rfl Zf ?_
     refine(Zco s t ch1 ch2 _ HL1.out.1 HL1.out.2 HL2.out.1 HL2.out.2 (HH.out.tabs.below (HBX.out _ HE4.out) ZqI)).mono ?_
     rintro e V5 ⟨x',y',en,rfl,hR,hb⟩
     have HE5:Hid (Keeps (NotM m) W' V5):=HE4.out.below hb (fun _ hb _=>hb)
     have HF5:Hid (FMap V5 m fi):=HF4.out.step hb
     have HA:Hid (Ans (q*qc) x' y' en):=by
      have h1:=hR.both HI.out.ok HCH.out.ok
      rwa [HI.out.rat,HCH.out.rat] at h1
     refine .inl ⟨_,rfl,HE5.out,?_⟩
     clear hb hR
     simp only[Act.put,Zl]
     iterate 2
      refine Zq _ rfl rfl (fun w' hS=>Ze) ?_
      simp only[Act.put,Zl]
     refine Zs 57 _ rfl rfl Zf ?_
     refine(Zat x' y' en _).mono ?_
     rintro e V6 ⟨hE,hb⟩
     have HE6:Hid (Keeps (NotM m) W' V6):=HE5.out.below hb (fun _ hb _=>hb)
     have HF6':Hid (FMap V6 m fi):=HF5.out.step hb
     clear hb
     rcases hE with ⟨hne,rfl⟩ | ⟨hne,rfl⟩
     ·have HIZ:=ZqH (HA.out.zero hne)
      have HSG2:Hid (Zc8 b ((j:Int),x1,x2) q (Zw b j) i fi=addF fi (l1,l2,l3) (q*qc)):=by
       show _=_
       rw[HSG.out]
       unfold mulF
       rw[if_pos HIZ.out.fits]
      refine .inl ⟨_,rfl,HE6.out,?_⟩
      simp only[Act.put,Zl]
      refine Zs 93 _ rfl rfl Zf ?_
      refine(Zh0 HF6'.out HPL.out HIZ.out (HH.out.tabs.below (HBX.out _ HE6.out) ZqI) (HH.out.vars.below (HBX.out _ HE6.out) ZqI)).mono ?_
      rintro e V7 ⟨hE,hk7⟩
      have HE7:=ZqH (HE6.out.trans hk7)
      rcases hE with ⟨f',h1,rfl,hm7⟩ | ⟨ee,h1,h2,rfl⟩
      ·refine .inl ⟨_,rfl,HE7.out,?_⟩
       refine Zz ?_
       exact⟨(HRE.out _ HE7.out).1,f',by rw[Zag HG1.out,HSG2.out];exact h1,hm7,(HRE.out _ HE7.out).2.2⟩
      ·refine .inr ⟨_,rfl,?_⟩
       exact⟨rfl,(HRE.out _ HE7.out).2.1,ee,HMG.out.trans (ZZ HG1.out (HSG2.out.trans h1) hi),h2,rfl,(HRE.out _ HE7.out).2.2⟩
     ·have HSG2:Hid (Zc8 b ((j:Int),x1,x2) q (Zw b j) i fi=.error 4/\en=4):=by
       rcases HA.out with ⟨_,h⟩ | ⟨h,_,_,h2⟩
       ·exact Zqx h hne
       ·exact⟨by rw[HSG.out];unfold mulF;rw[if_neg h],h2⟩
      refine .inr ⟨_,rfl,?_⟩
      exact⟨rfl,(HRE.out _ HE6.out).2.1,en,HMG.out.trans (ZZ HG1.out (by rw[HSG2.out.1,HSG2.out.2]) hi),hne,rfl,(HRE.out _ HE6.out).2.2⟩
    case done=>
     rintro W' ⟨fi,g1,g2,g3⟩ hdef
     have HL9:Hid (Zt (ZcW b ms) (k+1) []=.ok fi):=by
      show _=_
      rw[Zag HLP.out,HMG.out,g1]
     have HM9:=ZqH g2
     have HK9:Hid (Keeps (NotM m) w1 W'):=HK6.out.trans (g3.mono fun b hb h=>⟨h,Za⟩)
     have HD9:Hid ((D::Ds).Nodup/\∀ E ∈ D::Ds,w1.heap.size<=E/\W'.heap[E]?=some (.deferred (some []))):=⟨List.nodup_cons.2 ⟨fun hin=>by have h1:=(ZpU.1 (HD6.out.2 D hin).2).1;omega,HD6.out.1⟩,fun E hE=>by
      rcases List.mem_cons.1 hE with rfl | hE
      ·exact⟨by have h1:=HK6.out.size;omega,hdef⟩
      ·obtain⟨h1,h2⟩:=HD6.out.2 E hE
       have h3:=(ZqC h2)
       exact⟨h1,(g3.block E h3 ⟨by have:=HM.out;have:=HSZ.out;omega,Za⟩).trans h2⟩⟩
     clear g1 g2 g3 hdef
     show VP _ _ _ _ _
     refine VP.of (n:=9) ?_
     gi_wp2
     refine⟨⟨k+1,fi,D::Ds,_,_,_,_,_,_,_,_,_,_,_,_,_,_,_,_,_,_,_,_,_,_,_,_,_,_,_,_,_,_,_,_,_,_,_,_,_,_,_,_,rfl,Za,HL9,HM9,HK9,HD9⟩,?_⟩
     simp[intOf]
     omega
    case stop=>
     rintro ch W' ⟨en,g1,g2,g3,g4⟩ hdef
     have HER:Hid (ZaB b ms=.error en):=by
      show _=_
      unfold ZaB
      rw[ZZ HLP.out g1 (by rw[HN.out];exact hlt)]
     have HK9:Hid (Keeps (NotM m) w1 W'):=HK6.out.trans (g4.mono fun b hb h=>⟨h,Za⟩)
     have HD9:Hid ((D::Ds).Nodup/\∀ E ∈ D::Ds,w1.heap.size<=E/\W'.heap[E]?=some (.deferred (some []))):=⟨List.nodup_cons.2 ⟨fun hin=>by have h1:=(ZpU.1 (HD6.out.2 D hin).2).1;omega,HD6.out.1⟩,fun E hE=>by
      rcases List.mem_cons.1 hE with rfl | hE
      ·exact⟨by have h1:=HK6.out.size;omega,hdef⟩
      ·obtain⟨h1,h2⟩:=HD6.out.2 E hE
       have h3:=(ZqC h2)
       exact⟨h1,(g4.block E h3 ⟨by have:=HM.out;have:=HSZ.out;omega,Za⟩).trans h2⟩⟩
     have HB9:ZqB w W':=HBW.out.trans ((HK9.out.mono (S':=fun b=>b<w.heap.size) fun b _ hb=>by have:=HM.out;show b≠m;omega).toBelow HBW.out.size)
     exact⟨D::Ds,rfl,⟨HD9.out.1,fun D hD=>⟨by have:=(HD9.out.2 D hD).1;have:=HSZ.out;omega,(HD9.out.2 D hD).2⟩⟩,.inr ⟨en,HER.out,g2,g3⟩,HB9.out⟩
   ·rw[hst] at hwy
    simp only[if_true] at hwy
    subst hwy
    refine .inl ⟨_,rfl,HE6.out,?_⟩
    simp only[Act.put,Zl]
    iterate 5
     refine Zq _ rfl rfl (fun w' hS=>Ze) ?_
     simp only[Act.put,Zl]
    refine Zz ?_
    have HMG:Hid (ZcW b ms k f=addF f (x0,x1,x2) q):=by
     show _=_
     unfold ZcW
     rw[HX.out,if_pos hst]
    clear hst
    have HFO:Hid (w6.heap[w.heap.size+2]?=some (fdO m)):=by
     have h1:=(HKW.out.block _ (ZqC HFD.out) (by have:=HM.out;show w.heap.size+2≠m;omega)).trans HFD.out
     exact(HE6.out.block _ (ZqC h1)).trans h1
    have HQ6:Hid (w6.heap[q0]?=some (maO (x0,x1,x2) s t)):=(HE6.out.block _ HBL.out.2).trans HQB.out
    have HF6:Hid (FMap w6 m f):=HFW.out.step HE6.out
    have HB6:ZqB w w6:=HBW2.out.trans (HE6.out.mono HBW2.out.size)
    have HK6:Hid (Keeps (NotM m) w1 w6):=HKW.out.trans (HE6.out.keepsS _)
    have HPB:=ZqH (ZbC (Zb6 HCB.out) HPC.out)
    have HD6:Hid (Ds.Nodup/\∀ D ∈ Ds,w1.heap.size<=D/\w6.heap[D]?=some (.deferred (some []))):=⟨HDS.out.1,fun D hD=>by
     obtain⟨h1,h2⟩:=HDS.out.2 D hD
     have h3:=(HAL.out.block _ (ZqC h2)).trans h2
     exact⟨h1,(HE6.out.block _ (ZqC h3)).trans h3⟩⟩
    have HFL:Hid (w.heap.size+2<w6.heap.size/\q0<w6.heap.size):=⟨(ZqC HFO.out),(ZqC HQ6.out)⟩
    clear HE4 HE5 HE6
    show VP _ _ _ _ _
    refine VP.seq (VP.seq (VP.of (n:=9) ?_))
    gi_wp2
    refine VP.cond (t:=true) rfl ?_
    rw[if_pos rfl]
    refine VP.seq (VP.of (n:=9) (wpIn_wide.2 ?_))
    refine ZA [(1,0),(1,1),(1,3),(1,4),(0,2),(0,5)] (Below w6.heap.size w6) (fun i=>i==5)
     Zb Zb (fun j hj=>by have h:6<=j:=hj;simp;omega) Zi (ZpV _ w6).drew ?_
    have HE7:Hid (Below w6.heap.size w6 w6.drew):=(ZpV _ w6).drew
    iterate 4
     refine Zq _ rfl rfl (fun w' hS=>by have hq:=(hS.block _ HFL.out.2).trans HQ6.out;have hf:=(hS.block _ HFL.out.1).trans HFO.out;have d0:=Zn hf 0 (v:=.map (some m)) rfl;have a0:=Zn hq 0 (v:=.int .i64 x0) rfl;have a1:=Zn hq 1 (v:=.int .i64 x1) rfl;have a2:=Zn hq 2 (v:=.int .i64 x2) rfl;have a3:=Zn hq 3 (v:=.string s) rfl;have a4:=Zn hq 4 (v:=.string t) rfl;exact Ze) ?_
     simp only[Act.put,Zl]
    refine Zs 64 _ rfl rfl Zf ?_
    have HEC:=HE7
    refine(ZbV (x0,x1,x2) s t _).mono ?_
    rintro e w8 ⟨rfl,hb⟩
    have HE8:=ZqH (HE7.out.trans (hb.mono HE7.out.size))
    refine .inl ⟨_,rfl,HE8.out,?_⟩
    clear hb HEC
    simp only[Act.put,Zl]
    have HB8:ZqB w w8:=HB6.out.trans (HE8.out.mono HB6.out.size)
    refine ZG rfl rfl fun K hK=>?_
    go_simp
    go_at_call 93
    refine(Zh0 (HF6.out.step HE8.out) HPB.out HI.out (HH.out.tabs.below HB8.out ZqI) (HH.out.vars.below HB8.out ZqI)).mono ?_
    rintro e w9 ⟨hE,hk9⟩
    have HK9:Hid (Keeps (NotM m) w1 w9):=HK6.out.trans ((HE8.out.keepsS _).trans hk9)
    have HD9:Hid (Ds.Nodup/\∀ D ∈ Ds,w1.heap.size<=D/\w9.heap[D]?=some (.deferred (some []))):=⟨HD6.out.1,fun D hD=>by
     obtain⟨h1,h2⟩:=HD6.out.2 D hD
     have h3:=(HE8.out.block _ (ZqC h2)).trans h2
     exact⟨h1,(hk9.block _ (ZqC h3) (by have:=HM.out;have:=HSZ.out;show D≠m;omega)).trans h3⟩⟩
    have HB9:ZqB w w9:=HBW.out.trans ((HK9.out.mono (S':=fun b=>b<w.heap.size) fun b _ hb=>by have:=HM.out;show b≠m;omega).toBelow HBW.out.size)
    clear hk9
    rcases hE with ⟨f',h1,rfl,hm9⟩ | ⟨en,h1,h2,rfl⟩
    ·have HL9:Hid (Zt (ZcW b ms) (k+1) []=.ok f'):=by
      show _=_
      rw[Zag HLP.out,HMG.out,h1]
     have HM9:=ZqH hm9
     refine hK _ _ (.inl rfl) ?_
     clear hK K hm9 h1
     refine Zz ?_
     show VP _ _ _ _ _
     refine VP.of (n:=9) ?_
     gi_wp2
     show VP _ _ _ _ _
     refine VP.of (n:=9) ?_
     gi_wp2
     refine⟨⟨k+1,f',Ds,_,_,_,_,_,_,_,_,_,_,_,_,_,_,_,_,_,_,_,_,_,_,_,_,_,_,_,_,_,_,_,_,_,_,_,_,_,_,_,_,rfl,Za,HL9,HM9,HK9,HD9⟩,?_⟩
     simp[intOf]
     omega
    ·have HER:Hid (ZaB b ms=.error en):=by
      show _=_
      unfold ZaB
      rw[ZZ HLP.out (HMG.out.trans h1) (by rw[HN.out];exact hlt)]
     exact⟨Ds,rfl,⟨HD9.out.1,fun D hD=>⟨by have:=(HD9.out.2 D hD).1;have:=HSZ.out;omega,(HD9.out.2 D hD).2⟩⟩,.inr ⟨en,HER.out,h2,rfl⟩,HB9.out⟩
  ·obtain rfl:k=n:=Za
   have HBR:ZqB w wr:=HBW.out.trans ((HK.out.mono (S':=fun b=>b<w.heap.size) fun b _ hb=>by have:=HM.out;show b≠m;omega).toBelow HBW.out.size)
   have HR:Hid (ZaB b ms=outF f):=by
    show _=_
    unfold ZaB
    rw[HN.out,HLP.out]
   have HMA:=ZqH (ZeI HFM.out (HH.out.vars.below HBR.out ZqI))
   have d0:wr.cell? ⟨w.heap.size+2,0,none⟩=some (.map (some m)):=Zn ((HK.out.block _ (ZqC HFD.out) (by have:=HM.out;show w.heap.size+2≠m;omega)).trans HFD.out) 0 rfl
   gi_wp2
   refine VP.seq (VP.of (n:=9) ?_)
   gi_wp2
   show VP _ _ _ _ _
   refine VP.of (n:=9) ?_
   gi_wp2_with fail
   refine⟨trivial,Zqp.2 (HMA.out.mono ?_)⟩
   rintro e wz ⟨h1,h2⟩
   have HBZ:ZqB w wz:=HBR.out.trans (h2.mono HBR.out.size)
   have HDZ:Hid (Ds.Nodup/\∀ D ∈ Ds,w.heap.size<=D/\wz.heap[D]?=some (.deferred (some []))):=⟨HDS.out.1,fun D hD=>by
    obtain⟨g1,g2⟩:=HDS.out.2 D hD
    exact⟨by have:=HSZ.out;omega,(h2.block _ (ZqC g2)).trans g2⟩⟩
   rcases h1 with ⟨ms',v,h1,rfl,h3,hg⟩ | ⟨ne,h1,h3,rfl⟩
   ·have HO:=ZqH (Zar h3 HBR.out.size)
    have H1:=ZqH h1
    clear h1 h2 h3 HMA d0
    gi_wp2
    exact⟨Ds,rfl,HDZ.out,.inl ⟨ms',v,HR.out.trans H1.out,rfl,HO.out,hg⟩,HBZ.out⟩
   ·exact⟨Ds,rfl,HDZ.out,.inr ⟨ne,HR.out.trans h1,h3,rfl⟩,HBZ.out⟩
end Go.Proofs.YtjmckebecpjjfaaGreatDoor
namespace Go.Proofs.YtjmckebecpjjfaaGreatDoor
open Go.RowKit Go.Shelf
attribute [local go_sem ↓] Go.wp_at_zero Go.wp_at_succ
theorem Zox {w:World} {v:Value} {ms:Fl} (h:ZK w v ms):∀ z ∈ ms,0<=z.2:=fun z hz=>by
 obtain⟨k,hk,rfl⟩:=List.getElem_of_mem hz
 obtain⟨p,c,h1,_,_,h4⟩:=h
 obtain⟨b,o,_,_,h7⟩:=h4 (Zp3 Za)
 obtain⟨_,_,_,p,hi,_⟩:=h7 k hk
 exact hi.nn
theorem Zh9 {ms:Fl} (h:∀ k,k+1<ms.length->plLt (mA ms k).1 (mA ms (k+1)).1=true):ZI ms:=by
 rw[ZI,List.pairwise_iff_getElem]
 have key:∀ d i,i+d+1<ms.length->plLt (mA ms i).1 (mA ms (i+d+1)).1=true:=fun d=>by
  induction d with
  | zero=>exact fun i hi=>h i hi
  | succ d ih=>exact fun i hi=>Zbc (ih i Za) (h (i+d+1) Za)
 intro i j hi hj hij
 rw[Z9 hi,Z9 hj]
 have:=key (j-i-1) i Za
 rwa [show i+(j-i-1)+1=j by omega] at this
theorem ZnB {b:BelP} {ms:Fl} (h:ZN b ms=true) (hn:∀ z ∈ ms,0<=z.2):MassOk b ms:=by
 unfold ZN at h
 rw[Zqt,Bool.not_eq_true'] at h
 have h1:∀ k,k<ms.length->ZaH b (mA ms k)=true/\(0<k->plLt (mA ms (k-1)).1 (mA ms k).1=true):=fun k hk=>by
  have h2:=ZcQ h.2 hk
  simp only[Bool.or_eq_false_iff,Bool.not_eq_false',Bool.and_eq_false_iff,decide_eq_false_iff_not] at h2
  exact⟨h2.1,fun h0=>by
   rcases h2.2 with h3 | h3
   ·exact Zqx h0 h3
   ·exact h3⟩
 have h2:∀ z ∈ ms,PlcB b z.1/\z.2≠0:=fun z hz=>by
  obtain⟨k,hk,rfl⟩:=List.getElem_of_mem hz
  rw[Z9 hk]
  have h3:=(h1 k hk).1
  unfold ZaH at h3
  simp only[Zqt,Bool.or_eq_true,Zcp,Zqu] at h3
  exact⟨⟨⟨h3.1.1.1,Za⟩,h3.1.2⟩,h3.2.2⟩
 exact⟨Zh9 fun k hk=>(h1 (k+1) hk).2 (Nat.succ_pos k),fun z hz=>(h2 z hz).1,fun z hz=>Rat.lt_of_le_of_ne (hn z hz) (Ne.symm (h2 z hz).2)⟩
end Go.Proofs.YtjmckebecpjjfaaGreatDoor
