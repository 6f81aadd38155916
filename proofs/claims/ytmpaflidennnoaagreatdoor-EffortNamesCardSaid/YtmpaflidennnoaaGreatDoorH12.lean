/- The parts LawOps, DetVals, Contains, DShort, Steps, StepsF, Pairs of a proof, put together by program (merge7.py). -/
import Derived.Test.YtmpaflidennnoaaGreatDoorH11
import Derived.Test.YtmpaflidennnoaaGreatDoorH10
import Derived.Test.YtmpaflidennnoaaGreatDoorH08
import Derived.Test.YtmpaflidennnoaaGreatDoorH03
import Derived.OrdersIn
import Derived.Test.YtmpaflidennnoaaGreatDoorH02
set_option maxRecDepth 100000
set_option maxHeartbeats 4000000
set_option linter.unusedVariables false
set_option linter.unusedSimpArgs false
namespace Go.Proofs.YtmpaflidennnoaaGreatDoor
open Go.RowKit Go.Shelf
theorem IsP.le {q:Rat} {s t:ByteArray} (h:IsP q s t):s.size≤1000000∧t.size≤1000000:=by
 obtain⟨h1,h2⟩:=h.fits
 rw[h.num,h.den,ZaG,ZaG]
 exact⟨Nat.le_trans h1 (by decide),Nat.le_trans h2 (by decide)⟩
theorem IsP.oks {q r:Rat} {s t u v:ByteArray} (h:IsP q s t) (k:IsP r u v):(okP s t && okP u v)=true:=by rw[h.ok,k.ok];rfl
theorem IsP.one {q:Rat} {s t u v:ByteArray} (h:IsP q s t) (k:IsP q u v):s=u∧t=v:=⟨by rw[h.num,k.num],by rw[h.den,k.den]⟩
theorem ZeZ {q p:Rat} {x y u v:ByteArray} {n:Int} (h:Ans q u v n) (hx:IsP p x y) (hq:q=p):u=x∧v=y∧n=0:=by
 subst hq
 obtain⟨h1,h2⟩:=h.fit hx.fits
 obtain⟨h3,h4⟩:=h1.one hx
 exact⟨h3,h4,h2⟩
theorem Zib {q r p:Rat} {s t u v x y:ByteArray} (ha:IsP q s t) (hb:IsP r u v) (hx:IsP p x y) (hq:q+r=p) (w:World) (hT:Tabs w) :
  Calls Tryz.prog 42 #[pV s t,pV u v] w (Z7 (.tuple #[pV x y,.int .i64 0]) w):=by
 refine(Zju s t u v w ha.le.1 ha.le.2 hb.le.1 hb.le.2 hT).mono ?_
 rintro e w' ⟨x',y',n,rfl,h,hbb⟩
 rcases h with ⟨h,_⟩ | ⟨_,h⟩
 ·rw[ha.oks hb] at h;cases h
 ·rw[ha.rat,hb.rat] at h
  obtain⟨rfl,rfl,rfl⟩:=ZeZ h hx hq
  exact⟨rfl,hbb⟩
theorem Zcb {q r p:Rat} {s t u v x y:ByteArray} (ha:IsP q s t) (hb:IsP r u v) (hx:IsP p x y) (hq:q*r=p) (w:World) (hT:Tabs w) :
  Calls Tryz.prog 119 #[pV s t,pV u v] w (Z7 (.tuple #[pV x y,.int .i64 0]) w):=by
 refine(ZmD s t u v w ha.le.1 ha.le.2 hb.le.1 hb.le.2 hT).mono ?_
 rintro e w' ⟨x',y',n,rfl,h,hbb⟩
 rcases h with ⟨h,_⟩ | ⟨_,h⟩
 ·rw[ha.oks hb] at h;cases h
 ·rw[ha.rat,hb.rat] at h
  obtain⟨rfl,rfl,rfl⟩:=ZeZ h hx hq
  exact⟨rfl,hbb⟩
theorem Zbw {q r p:Rat} {s t u v x y:ByteArray} (ha:IsP q s t) (hb:IsP r u v) (hx:IsP p x y) (hq:q-r=p) (w:World) (hT:Tabs w) :
  Calls Tryz.prog 104 #[pV s t,pV u v] w (Z7 (.tuple #[pV x y,.int .i64 0]) w):=by
 refine(ZjF s t u v w ha.le.1 ha.le.2 hb.le.1 hb.le.2 hT).mono ?_
 rintro e w' ⟨x',y',n,rfl,h,hbb⟩
 rcases h with ⟨h,_⟩ | ⟨_,h⟩
 ·rw[ha.oks hb] at h;cases h
 ·rw[ha.rat,hb.rat] at h
  rcases h with ⟨h,_⟩ | ⟨_,h⟩
  ·have:=hx.nn;grind
  ·obtain⟨rfl,rfl,rfl⟩:=ZeZ h hx hq
   exact⟨rfl,hbb⟩
theorem ZcU {q r p:Rat} {s t u v x y:ByteArray} (ha:IsP q s t) (hb:IsP r u v) (hx:IsP p x y) (h0:0<r) (hq:q/r=p) (w:World) (hT:Tabs w) :
  Calls Tryz.prog 169 #[pV s t,pV u v] w (Z7 (.tuple #[pV x y,.int .i64 0]) w):=by
 refine(Zmw s t u v w ha.le.1 ha.le.2 hb.le.1 hb.le.2 hT).mono ?_
 rintro e w' ⟨x',y',n,rfl,h,hbb⟩
 rcases h with ⟨h,_⟩ | ⟨_,h⟩
 ·rw[ha.oks hb] at h;cases h
 ·rw[ha.rat,hb.rat] at h
  rcases h with ⟨h,_⟩ | ⟨_,h⟩
  ·grind
  ·obtain⟨rfl,rfl,rfl⟩:=ZeZ h hx hq
   exact⟨rfl,hbb⟩
theorem ZaU {q r:Rat} {n:Int} {s t u v:ByteArray} (ha:IsP q s t) (hb:IsP r u v) (hn:sgnR q r=n) (w:World) :
  Calls Tryz.prog 22 #[pV s t,pV u v] w (Z7 (.int .i64 n) w):=by
 refine(Zjm s t u v w ha.le.1 ha.le.2 hb.le.1 hb.le.2).mono ?_
 rintro e w' ⟨m,rfl,h,hbb⟩
 rcases h with ⟨h,_⟩ | ⟨_,h⟩
 ·rw[ha.oks hb] at h;cases h
 ·rw[ha.rat,hb.rat,hn] at h
  subst h
  exact⟨rfl,hbb⟩
theorem Zl7 {q:Rat} {s t:ByteArray} (h:IsP q s t) (h0:s=⟨#[48]⟩):q=0:=by
 have h1:=h.vals.1
 rw[h0] at h1
 have h2:Zg (⟨#[48]⟩:ByteArray).data.toList=0:=by decide
 rw[h2] at h1
 have h3:=ZO h.nn
 rw[← h1] at h3
 exact Rat.num_eq_zero.1 h3.symm
theorem World.alloc_size (w:World) (o:Obj):(w.alloc o).heap.size=w.heap.size+1:=by simp
theorem Ats.three (w:World) (s t u v x y:ByteArray):Ats [(w.heap.size+1+1,x,y),(w.heap.size+1,u,v),(w.heap.size,s,t)] (((w.alloc (pObj s t)).alloc (pObj u v)).alloc (pObj x y)):=by
 have h:=(((Ats.nil w).push s t).push u v).push x y
 rw[World.alloc_size,World.alloc_size] at h
 exact h
end Go.Proofs.YtmpaflidennnoaaGreatDoor
namespace Go.Proofs.YtmpaflidennnoaaGreatDoor
open Go.RowKit Go.Shelf
attribute [local go_sem ↓] Go.wp_at_zero Go.wp_at_succ
structure DetV (w:World):Prop where
 z0:w.cell? ⟨1,0,none⟩=some (.string ⟨#[48]⟩)
 z1:w.cell? ⟨1,1,none⟩=some (.string ⟨#[49]⟩)
 o0:w.cell? ⟨2,0,none⟩=some (.string ⟨#[49]⟩)
 o1:w.cell? ⟨2,1,none⟩=some (.string ⟨#[49]⟩)
theorem DetV.below {w w':World} {B:Nat} (h:DetV w) (hb:Below B w w') (hB:w.heap.size≤B):DetV w':=
 ⟨(hb.cell (Nat.lt_of_lt_of_le (World.block_lt_of_cell? _ _ h.z0) hB)).trans h.z0,(hb.cell (Nat.lt_of_lt_of_le (World.block_lt_of_cell? _ _ h.z1) hB)).trans h.z1,
  (hb.cell (Nat.lt_of_lt_of_le (World.block_lt_of_cell? _ _ h.o0) hB)).trans h.o0,(hb.cell (Nat.lt_of_lt_of_le (World.block_lt_of_cell? _ _ h.o1) hB)).trans h.o1⟩
theorem Zbg (n low high:Int) (w:World):Calls Tryz.prog 128 #[.int .i64 n,.int .i64 low,.int .i64 high] w (ZZ w (decide (low≤n) && decide (n≤high))):=by
 by_cases h1:low≤n
 ·by_cases h2:n≤high
  ·go_enter Tryz.func128,Tryz.ntmps128
   go_wp2
   go_ret
   exact⟨by simp[h1,h2],Below.refl _ _⟩
  ·go_enter Tryz.func128,Tryz.ntmps128
   go_wp2
   go_ret
   exact⟨by simp[h1,h2],Below.refl _ _⟩
 ·go_enter Tryz.func128,Tryz.ntmps128
  go_wp2
  go_ret
  exact⟨by rw[decide_eq_false (show ¬ low≤n by omega)];rfl,Below.refl _ _⟩
def ZhX (n:Int):Ending:=.panicked [{ v:=.iface 258 (.agg #[.int .i64 n]),recovered:=false }]
def Zm9 (s t:ByteArray) (n:Int) (w:World) (e:Ending) (w':World):Prop:=
 ((n=0∧e=.returned (.agg #[.string s,.string t]))∨(n≠0∧e=ZhX n))∧Below w.heap.size w w'
theorem ZkT (s t:ByteArray) (n:Int) (w:World):Calls Tryz.prog 180 #[.agg #[.string s,.string t],.int .i64 n] w (Zm9 s t n w):=by
 by_cases hn:n=0
 ·have h0:(n !=0)=false:=by rw[bne_eq_false_iff_eq];exact hn
  have H0:=Lib.hid hn
  clear hn
  go_enter Tryz.func180,Tryz.ntmps180
  go_wp2
  refine bodyPost_ret (v:=.agg #[.string s,.string t]) (by simp[results,Tryz.f180,go_sem]) rfl ⟨.inl ⟨H0.out,rfl⟩,((Below.refl _ w).alloc (Nat.le_refl _) _).alloc (by simp) _⟩
 ·have h0:(n !=0)=true:=by rw[bne_iff_ne];exact hn
  have H0:=Lib.hid hn
  clear hn
  go_enter Tryz.func180,Tryz.ntmps180
  go_wp2
  refine⟨rfl,.inr ⟨H0.out,rfl⟩,((Below.refl _ w).alloc (Nat.le_refl _) _).alloc (by simp) _⟩
theorem ZR (s t:ByteArray) (w:World):Calls Tryz.prog 180 #[pV s t,.int .i64 0] w (Z7 (pV s t) w):=
 (ZkT s t 0 w).mono fun e w' ⟨h,hb⟩=>by
  rcases h with ⟨_,rfl⟩ | ⟨h,_⟩
  ·exact⟨rfl,hb⟩
  ·exact absurd rfl h
def ZjI (w:World) (n:Nat) (f:Nat→Bool) (e:Ending) (w':World):Prop:=
 ∃ i:Int,e=.returned (.int .i64 i)∧((0≤i∧∃ k,k<n∧f k=true)∨(i = -1∧∀ k,k<n→f k=false))∧Below w.heap.size w w'
def ZdU (w:World) (n:Nat) (f:Nat→Bool) (e:Ending) (w':World):Prop:=
 ∃ b:Bool,e=.returned (.bool b)∧((b=true∧∃ k,k<n∧f k=true)∨(b=false∧∀ k,k<n→f k=false))∧Below w.heap.size w w'
theorem Zkq {g:Nat} {caps:Array Value} (hent:∀ args w,(callFunc g args).run Tryz.prog w=.ok (.enter g args) w) {f:Nat→Bool} {v:Value} {bs:List BB} {n:Nat} {w:World} (hv:BL w v bs) (hn:bs.length=n)
  (hf:∀ k,k<n→∀ W,Below w.heap.size w W→Calls Tryz.prog g (#[bV (bAt bs k)]++caps) W (ZZ W (f k))) :
  Calls Tryz.prog 177 #[v,.func (.func g) #[] caps] w (ZjI w n f):=by
 obtain⟨p,c,rfl⟩:∃ p c,v=.slice p n c:=by obtain⟨p,c,h,_⟩:=id hv;exact⟨_,_,by rw[← hn];exact h⟩
 obtain⟨_,hc,hnc⟩:=hv.len
 have HV:=Lib.hid hv
 have HN:=Lib.hid hn
 have HF:=Lib.hid hf
 clear hv hn hf
 go_enter Tryz.func177,Tryz.ntmps177
 go_wp2
 go_loopw [8] (fun i wr=>∃ (k:Nat),i=.int .i64 k∧k≤n∧Hid (∀ j,j<k→f j=false)∧Hid (Below w.heap.size w wr)) (fun i _=>n-(intOf i).toNat)
 case atStart=>exact⟨0,rfl,Nat.zero_le _,fun j h=>by omega,Below.refl _ _⟩
 case round=>
  obtain⟨k,rfl,hk,HK,HB⟩:=hrel
  by_cases hlt:k<n
  ·obtain⟨b,o,rfl,_,hat⟩:=HV.out.at HN.out (by omega)
   obtain⟨e0,e1,e2,e3⟩:=hat wr HB.out k hlt
   have hF:∀ W,Below w.heap.size w W→Calls Tryz.prog g (#[.agg #[.string (bAt bs k).1.1,.string (bAt bs k).1.2,.string (bAt bs k).2.1,.string (bAt bs k).2.2]]++caps) W (ZZ W (f k)):=HF.out k hlt
   obtain⟨s,hs⟩:∃ s,(bAt bs k).1.1=s:=⟨_,rfl⟩
   obtain⟨t,ht⟩:∃ s,(bAt bs k).1.2=s:=⟨_,rfl⟩
   obtain⟨x,hx⟩:∃ s,(bAt bs k).2.1=s:=⟨_,rfl⟩
   obtain⟨y,hy⟩:∃ s,(bAt bs k).2.2=s:=⟨_,rfl⟩
   rw[hs] at e0
   rw[ht] at e1
   rw[hx] at e2
   rw[hy] at e3
   rw[hs,ht,hx,hy] at hF
   have HG:=Lib.hid hF
   clear hF hat hs ht hx hy
   obtain⟨r,hr⟩:∃ r,f k=r:=⟨_,rfl⟩
   have HR:=Lib.hid hr
   clear hr
   go_wp2_with fail
   refine(HG.out _ HB.out).mono ?_
   rintro e w2 ⟨rfl,hb⟩
   rw[HR.out]
   have HB2:=Lib.hid (HB.out.trans (hb.mono HB.out.size))
   clear hb e0 e1 e2 e3
   cases r
   ·have HK2:Hid (∀ j,j<k+1→f j=false):=fun j h=>by
     rcases Nat.lt_or_ge j k with h3 | h3
     ·exact HK.out j h3
     ·obtain rfl:j=k:=by omega
      exact HR.out
    go_wp2
    go_roundw
    case rel=>exact⟨k+1,by go_num,by omega,HK2,HB2⟩
    case measure=>simp[intOf];omega
   ·go_wp2
    go_ret
    exact⟨k,rfl,.inl ⟨by omega,k,hlt,HR.out⟩,HB2.out⟩
  ·obtain rfl:n=k:=by omega
   go_wp2
   go_ret
   exact⟨-1,rfl,.inr ⟨rfl,fun j h=>HK.out j h⟩,HB.out⟩
theorem Zkk {g:Nat} {caps:Array Value} (hent:∀ args w,(callFunc g args).run Tryz.prog w=.ok (.enter g args) w) {f:Nat→Bool} {v:Value} {ps:List PP} {n:Nat} {w:World} (hv:PL w v ps) (hn:ps.length=n)
  (hf:∀ k (h:k<ps.length),∀ W,Below w.heap.size w W→Calls Tryz.prog g (#[pV ps[k].1 ps[k].2]++caps) W (ZZ W (f k))) :
  Calls Tryz.prog 121 #[v,.func (.func g) #[] caps] w (ZjI w n f):=by
 obtain⟨p,c,rfl,hnc,hc,hp⟩:=hv
 unfold maxLen at hc
 rw[hn] at hnc ⊢
 have HV:=Lib.hid hp
 have HN:=Lib.hid hn
 have HF:=Lib.hid hf
 clear hp hn hf
 go_enter Tryz.func121,Tryz.ntmps121
 go_wp2
 go_loopw [8] (fun i wr=>∃ (k:Nat),i=.int .i64 k∧k≤n∧Hid (∀ j,j<k→f j=false)∧Hid (Below w.heap.size w wr)) (fun i _=>n-(intOf i).toNat)
 case atStart=>exact⟨0,rfl,Nat.zero_le _,fun j h=>by omega,Below.refl _ _⟩
 case round=>
  obtain⟨k,rfl,hk,HK,HB⟩:=hrel
  by_cases hlt:k<n
  ·have hkp:k<ps.length:=by rw[HN.out];exact hlt
   obtain⟨b,o,rfl,hbl,hat⟩:=HV.out (List.ne_nil_of_length_pos (by omega))
   obtain⟨e0,e1⟩:=(hat.below HB.out hbl) k hkp
   have hF:∀ W,Below w.heap.size w W→Calls Tryz.prog g (#[.agg #[.string ps[k].1,.string ps[k].2]]++caps) W (ZZ W (f k)):=HF.out k hkp
   obtain⟨s,hs⟩:∃ s,ps[k].1=s:=⟨_,rfl⟩
   obtain⟨t,ht⟩:∃ s,ps[k].2=s:=⟨_,rfl⟩
   rw[hs] at e0
   rw[ht] at e1
   rw[hs,ht] at hF
   have HG:=Lib.hid hF
   clear hF hat hs ht hkp
   obtain⟨r,hr⟩:∃ r,f k=r:=⟨_,rfl⟩
   have HR:=Lib.hid hr
   clear hr
   go_wp2_with fail
   refine(HG.out _ HB.out).mono ?_
   rintro e w2 ⟨rfl,hb⟩
   rw[HR.out]
   have HB2:=Lib.hid (HB.out.trans (hb.mono HB.out.size))
   clear hb e0 e1
   cases r
   ·have HK2:Hid (∀ j,j<k+1→f j=false):=fun j h=>by
     rcases Nat.lt_or_ge j k with h3 | h3
     ·exact HK.out j h3
     ·obtain rfl:j=k:=by omega
      exact HR.out
    go_wp2
    go_roundw
    case rel=>exact⟨k+1,by go_num,by omega,HK2,HB2⟩
    case measure=>simp[intOf];omega
   ·go_wp2
    go_ret
    exact⟨k,rfl,.inl ⟨by omega,k,hlt,HR.out⟩,HB2.out⟩
  ·obtain rfl:n=k:=by omega
   go_wp2
   go_ret
   exact⟨-1,rfl,.inr ⟨rfl,fun j h=>HK.out j h⟩,HB.out⟩
theorem Zhv {g:Nat} {caps:Array Value} (hent:∀ args w,(callFunc g args).run Tryz.prog w=.ok (.enter g args) w) {f:Nat→Bool} {v:Value} {bs:List BB} {n:Nat} {w:World} (hv:BL w v bs) (hn:bs.length=n) (hf:∀ k,k<n→∀ W,Below w.heap.size w W→Calls Tryz.prog g (#[bV (bAt bs k)]++caps) W (ZZ W (f k))):Calls Tryz.prog 129 #[v,.func (.func g) #[] caps] w (ZdU w n f):=by
 have HI:=Lib.hid (Zkq hent hv hn hf)
 go_enter Tryz.func129,Tryz.ntmps129
 go_wp2_with fail
 refine HI.out.mono ?_
 rintro e w2 ⟨i,rfl,hE,hb⟩
 have HB:=Lib.hid hb
 rcases hE with ⟨h0,h⟩ | ⟨rfl,h⟩
 ·have HE:=Lib.hid h
  have h0d:decide (0≤i)=true:=decide_eq_true h0
  clear h hb
  go_wp2
  go_ret
  exact⟨true,by simp,.inl ⟨rfl,HE.out⟩,HB.out⟩
 ·have HE:=Lib.hid h
  clear h hb
  go_wp2
  go_ret
  exact⟨false,by simp,.inr ⟨rfl,HE.out⟩,HB.out⟩
theorem Zc1 {g:Nat} {caps:Array Value} (hent:∀ args w,(callFunc g args).run Tryz.prog w=.ok (.enter g args) w) {f:Nat→Bool} {v:Value} {ps:List PP} {n:Nat} {w:World} (hv:PL w v ps) (hn:ps.length=n) (hf:∀ k (h:k<ps.length),∀ W,Below w.heap.size w W→Calls Tryz.prog g (#[pV ps[k].1 ps[k].2]++caps) W (ZZ W (f k))):Calls Tryz.prog 61 #[v,.func (.func g) #[] caps] w (ZdU w n f):=by
 have HI:=Lib.hid (Zkk hent hv hn hf)
 go_enter Tryz.func61,Tryz.ntmps61
 go_wp2_with fail
 refine HI.out.mono ?_
 rintro e w2 ⟨i,rfl,hE,hb⟩
 have HB:=Lib.hid hb
 rcases hE with ⟨h0,h⟩ | ⟨rfl,h⟩
 ·have HE:=Lib.hid h
  have h0d:decide (0≤i)=true:=decide_eq_true h0
  clear h hb
  go_wp2
  go_ret
  exact⟨true,by simp,.inl ⟨rfl,HE.out⟩,HB.out⟩
 ·have HE:=Lib.hid h
  clear h hb
  go_wp2
  go_ret
  exact⟨false,by simp,.inr ⟨rfl,HE.out⟩,HB.out⟩
theorem ZiW (k B:Nat) (s t:ByteArray) (hs:s.size≤1000000) (ht:t.size≤1000000) (w:World) (hB:w.cell? ⟨B,0,none⟩=some (.int .i64 k)) :
  Calls Tryz.prog 178 #[pV s t,.pointer (some ⟨B,0,none⟩)] w (ZZ w (!Zm k (s,t))):=by
 have HAL:=Lib.hid ((Below.refl w.heap.size w).alloc (Nat.le_refl _) (pObj s t))
 have hBl:=World.block_lt_of_cell? _ _ hB
 have hBc:(w.alloc (pObj s t)).cell? ⟨B,0,none⟩=some (.int .i64 k):=(ZH _ _ _ hBl).trans hB
 by_cases h1:(k:Int)<s.size
 ·have HR:Hid (Zm k (s,t)=false):=by
   show _=_
   unfold Zm
   rw[decide_eq_false (p:=(s,t).1.size≤k) (by show ¬ s.size≤k;omega)]
   simp
  go_enter Tryz.func178,Tryz.ntmps178
  go_wp2
  go_ret
  exact⟨by rw[HR.out];rfl,HAL.out⟩
 ·by_cases h2:(k:Int)<t.size
  ·have HR:Hid (Zm k (s,t)=false):=by
    show _=_
    unfold Zm
    rw[decide_eq_false (p:=(s,t).2.size≤k) (by show ¬ t.size≤k;omega)]
    simp
   go_enter Tryz.func178,Tryz.ntmps178
   go_wp2
   go_ret
   exact⟨by rw[HR.out];rfl,HAL.out⟩
  ·cases h3:okP s t
   ·have HR:Hid (Zm k (s,t)=false):=by unfold Zm;show _=_;simp[h3]
    have HE:=Lib.hid (Zbv h3)
    clear h3
    go_enter Tryz.func178,Tryz.ntmps178
    go_wp2_with fail
    refine(Zay s t _ hs ht).mono ?_
    rintro e w2 ⟨rfl,hb⟩
    rw[HE.out]
    have HB2:=Lib.hid (HAL.out.trans (hb.mono HAL.out.size))
    clear hb
    go_wp2
    go_ret
    exact⟨by rw[HR.out];rfl,HB2.out⟩
   ·have HR:Hid (Zm k (s,t)=true):=by unfold Zm;show _=_;simp[h3];omega
    have HE:=Lib.hid (Zb8 h3)
    clear h3
    go_enter Tryz.func178,Tryz.ntmps178
    go_wp2_with fail
    refine(Zay s t _ hs ht).mono ?_
    rintro e w2 ⟨rfl,hb⟩
    rw[HE.out]
    have HB2:=Lib.hid (HAL.out.trans (hb.mono HAL.out.size))
    clear hb
    go_wp2
    go_ret
    exact⟨by rw[HR.out];rfl,HB2.out⟩
def LimP (ps:List PP):Prop:=∀ p ∈ ps,p.1.size≤1000000∧p.2.size≤1000000
theorem Zgg (k:Nat) (hk:k≤1000) {v:Value} {ps:List PP} {w:World} (hv:PL w v ps) (hz:LimP ps) :
  Calls Tryz.prog 131 #[.int .i64 k,v] w (ZZ w (ps.all (Zm k))):=by
 obtain⟨n,hn⟩:∃ n,ps.length=n:=⟨_,rfl⟩
 obtain⟨p,c,rfl⟩:∃ p c,v=.slice p n c:=by obtain⟨p,c,h,_⟩:=id hv;exact⟨_,_,by rw[← hn];exact h⟩
 have hal:=(Below.refl w.heap.size w).alloc (Nat.le_refl _) (.cells #[.int .i64 k] 3)
 have HAL:=Lib.hid hal
 have HC:Hid (Calls Tryz.prog 61 #[.slice p n c,.func (.func 178) #[] #[.pointer (some ⟨w.heap.size,0,none⟩)]] (w.alloc (.cells #[.int .i64 k] 3))
   (ZdU (w.alloc (.cells #[.int .i64 k] 3)) n (fun j=>!Zm k (ps.getD j (⟨#[]⟩,⟨#[]⟩))))):=by
  refine Zc1 (enters_of Tryz.func178 (by kernel_rfl) rfl) (hv.after hal (Nat.le_refl _)) hn fun j hj W hW=>?_
  obtain⟨z1,z2⟩:=hz _ (List.getElem_mem hj)
  have e:ps.getD j (⟨#[]⟩,⟨#[]⟩)=ps[j]:=by simp[List.getD,hj]
  rw[e]
  exact ZiW k w.heap.size ps[j].1 ps[j].2 z1 z2 W ((hW.cell (by simp)).trans (ZC _ _ _ _ rfl))
 have HR:Hid ((∃ j,j<n∧(!Zm k (ps.getD j (⟨#[]⟩,⟨#[]⟩)))=true)→ps.all (Zm k)=false):=by
  rintro⟨j,hj,h⟩
  have hj2:j<ps.length:=by rw[hn];exact hj
  have e:ps.getD j (⟨#[]⟩,⟨#[]⟩)=ps[j]:=by simp[List.getD,hj2]
  rw[e] at h
  rw[← Bool.not_eq_true,List.all_eq_true]
  intro hall
  rw[hall _ (List.getElem_mem hj2)] at h
  cases h
 have HR2:Hid ((∀ j,j<n→(!Zm k (ps.getD j (⟨#[]⟩,⟨#[]⟩)))=false)→ps.all (Zm k)=true):=by
  intro h
  rw[List.all_eq_true]
  intro q hq
  obtain⟨j,hj,rfl⟩:=List.getElem_of_mem hq
  have:=h j (by rw[← hn];exact hj)
  have e:ps.getD j (⟨#[]⟩,⟨#[]⟩)=ps[j]:=by simp[List.getD,hj]
  rw[e] at this
  simpa using this
 clear hal hv hz hn
 go_enter Tryz.func131,Tryz.ntmps131
 go_wp2_with fail
 refine HC.out.mono ?_
 rintro e w2 ⟨b,rfl,h,hb⟩
 have HB2:=Lib.hid (HAL.out.trans (hb.mono HAL.out.size))
 have HE:=Lib.hid h
 clear h hb HC HAL
 go_wp2
 go_ret
 refine⟨?_,HB2.out⟩
 rcases HE.out with ⟨rfl,h⟩ | ⟨rfl,h⟩
 ·rw[HR.out h];rfl
 ·rw[HR2.out h];rfl
theorem Zgh (s t u v:ByteArray) (hs:s.size≤1000000) (ht:t.size≤1000000) (hu:u.size≤1000000) (hv:v.size≤1000000) (w:World) :
  Calls Tryz.prog 130 #[.agg #[.string s,.string t,.string u,.string v]] w (ZZ w (!(Zm 18 (s,t) && Zm 18 (u,v)))):=by
 obtain⟨w1,hw1⟩:∃ z,w.alloc (bO s t u v)=z:=⟨_,rfl⟩
 have hb1:Below w.heap.size w w1:=by rw[← hw1];exact(Below.refl w.heap.size w).alloc (Nat.le_refl _) _
 have hal:=(Below.refl w1.heap.size w1).alloc (Nat.le_refl _) (.cells #[.string s,.string t,.string u,.string v] 41)
 have HAL:=Lib.hid (hb1.trans (hal.mono hb1.size))
 have hc:=Zgg 18 (by decide) (ZmN w1 s t u v) (by
  intro p hp
  simp only[List.mem_cons,List.not_mem_nil,or_false] at hp
  rcases hp with rfl | rfl
  ·exact⟨hs,ht⟩
  ·exact⟨hu,hv⟩)
 rw[← hw1,World.size_alloc] at hc
 rw[← hw1] at HAL
 have HC:Hid (Calls Tryz.prog 131 #[.int .i64 18,.slice (some ⟨w.heap.size+1,0,none⟩) 2 2] ((w.alloc (bO s t u v)).alloc (.cells #[.string s,.string t,.string u,.string v] 41))
  (ZZ ((w.alloc (bO s t u v)).alloc (.cells #[.string s,.string t,.string u,.string v] 41)) ([(s,t),(u,v)].all (Zm 18)))):=hc
 clear hal hb1 hw1 hs ht hu hv hc
 go_enter Tryz.func130,Tryz.ntmps130
 go_wp2_with fail
 refine HC.out.mono ?_
 rintro e w2 ⟨rfl,hb⟩
 have HB2:=Lib.hid (HAL.out.trans (hb.mono HAL.out.size))
 clear hb HC HAL
 go_wp2
 go_ret
 exact⟨by simp,HB2.out⟩
end Go.Proofs.YtmpaflidennnoaaGreatDoor
namespace Go.Proofs.YtmpaflidennnoaaGreatDoor
open Go.RowKit
section
variable {P:Program} {ops:Array Oper} {Q:Exit→Act→World→Prop} {md:Region.Mode} {S:World→Prop} {bar:Nat→Bool}
def Zap (P:Program) (ops:Array Oper) (Q:Exit→Act→World→Prop) (S:World→Prop) (bar:Nat→Bool):List (Bool×Nat)→Act→World→Prop
 | [],a,w=>Q .normal a w
 | (true,i)::ks,a,w=>∃ o v,ops[i]?=some o∧YieldsIf P ops S o v a∧Zap P ops Q S bar ks (a.put o.dst v) w
 | (false,i)::ks,a,w=>∃ o,ops[i]?=some o∧(if Region.wanted o (yielded ops a.tmps) then o.wp P a w (fun a' w'=>(bar i=true∨S w')∧Zap P ops Q S bar ks a' w') Q
   else (bar i=true∨S w)∧Zap P ops Q S bar ks (a.put o.dst undef) w)
def ZcN (md:Region.Mode) (ops:Array Oper) (bar:Nat→Bool):List (Bool×Nat)→Array Bool→Bool
 | [],listed=>decide (Region.ready md ops listed=[])
 | (true,k)::ks,listed=>(Region.ready md ops listed).contains k && Region.free md ops listed k && !bar k && ((List.range ops.size).all fun j=>!bar j || decide (j=k) || Region.waitsFor md ops j k) && ZcN md ops bar ks (listed.setIfInBounds k true)
 | (false,k)::ks,listed=>decide (Region.ready md ops listed=[k]) && (!bar k || ks.all fun b=>!b.1) && ZcN md ops bar ks (listed.setIfInBounds k true)
theorem ZbF (hsel:Region.noSelect ops=true) (hQ:∀ c a o v w,Q (.panic c) (a.put o v) w→Q (.panic c) a w) (hbo:∀ j,ops.size≤j→bar j=false) :
  ∀ (ks:List (Bool×Nat)) (listed:Array Bool) (a:Act) (w:World),ZcN md ops bar ks listed=true→
   (S w∨ks.all (fun b=>!b.1)=true)→Zap P ops Q S bar ks a w→wpJ P md ops Q S bar ks.length listed a w
 | [],listed,a,w,hB,_,h=>⟨of_decide_eq_true hB,h⟩
 | (true,k)::ks,listed,a,w,hB,hS,h=>by
  simp only[ZcN,Bool.and_eq_true] at hB
  obtain⟨⟨⟨⟨hr,hf⟩,hbk⟩,hw⟩,hB'⟩:=hB
  have hSw:S w:=by
   rcases hS with hS | hS
   ·exact hS
   ·simp at hS
  obtain⟨o,v,h0,hy,hrest⟩:=h
  have hbk':bar k=false:=by simpa using hbk
  have hwait:ZhQ md ops bar k:=fun j hj hne=>by
   have hjl:j<ops.size:=by
    rcases Nat.lt_or_ge j ops.size with h' | h'
    ·exact h'
    ·rw[hbo j h'] at hj;cases hj
   rw[List.all_eq_true] at hw
   have:=hw j (List.mem_range.2 hjl)
   rw[hj] at this
   simpa[hne] using this
  have ih:=ZbF hsel hQ hbo ks (listed.setIfInBounds k true) (a.put o.dst v) w hB' (.inl hSw) hrest
  rw[List.length_cons]
  exact ZdE h0 hsel (fun c a w=>hQ c a o.dst v w) hwait hbk' ks.length listed a w (Region.free_spec h0 hf) (by simpa using hr) hy hSw ih
 | (false,k)::ks,listed,a,w,hB,hS,h=>by
  simp only[ZcN,Bool.and_eq_true,decide_eq_true_eq] at hB
  obtain⟨⟨hr,hbk⟩,hB'⟩:=hB
  obtain⟨o,h0,h⟩:=h
  refine⟨fun h1=>(by rw[hr] at h1;cases h1),fun i hi=>?_⟩
  rw[hr] at hi
  obtain rfl:i=k:=by simpa using hi
  have ih:=fun a' w' (hs:bar i=true∨S w') h'=>ZbF hsel hQ hbo ks (listed.setIfInBounds i true) a' w' hB' (by
   rcases hs with hs | hs
   ·rw[hs] at hbk
    exact .inr (by simpa using hbk)
   ·exact .inl hs) h'
  unfold wpOp
  simp only[h0]
  split at h
  ·rename_i hw;simp only[hw,if_true];exact .inl (Oper.wp_mono (fun a' w' h'=>⟨h'.1,ih a' w' h'.1 h'.2⟩) h)
  ·rename_i hw;simp only[hw];exact⟨h.1,ih _ _ h.1 h.2⟩
def ZdT (l:List Oper) (ks:List (Bool×Nat)) (bar:Nat→Bool):Bool:=
 Region.noSelect l.toArray && decide (ks.length=l.length) && ZcN .any l.toArray bar ks (Array.replicate l.toArray.size false) && ZbM l.toArray
theorem ZeV {l:List Oper} (ks:List (Bool×Nat)) (S:World→Prop) (bar:Nat→Bool) (hB:ZdT l ks bar=true) (hbo:∀ j,l.length≤j→bar j=false) (hQ:∀ c a o v w,Q (.panic c) (a.put o v) w→Q (.panic c) a w) {a:Act} {w:World} (hS:S w)
  (H:Zap P l.toArray Q S bar ks a w):wpAny P .any l.toArray Q l.toArray.size (Array.replicate l.toArray.size false) a w:=by
 simp only[ZdT,Bool.and_eq_true,decide_eq_true_eq] at hB
 obtain⟨⟨⟨hsel,hn⟩,hm⟩,_⟩:=hB
 have:=ZaT _ _ _ _ (ZbF hsel hQ (fun j hj=>hbo j (by simpa using hj)) ks _ a w hm (.inl hS) H)
 rw[hn] at this
 simpa using this
theorem ZQ {id:Nat} {a:Act} {w:World} {l:List Oper} (ks:List (Bool×Nat)) (S:World→Prop) (bar:Nat→Bool) (hm:P.follows .mixedOrders=true)
  (hB:ZdT l ks bar=true) (hbo:∀ j,l.length≤j→bar j=false) (hQ:∀ c a o v w,Q (.panic c) (a.put o v) w→Q (.panic c) a w) (hS:S w.drew)
  (H:Zap P l.toArray Q S bar ks a w.drew):(Code.region id l.toArray true).wp P Q a w:=
 wp_region_any hm (ZeV ks S bar hB hbo hQ hS H)
theorem Zi {i:Nat} {o:Oper} {ks:List (Bool×Nat)} {a:Act} {w:World} (v:Value) (ho:ops[i]?=some o) (hw:Region.wanted o (yielded ops a.tmps)=true) (hv:∀ w,S w→(execOp a.eval o).run P w=.ok (.value v) w)
  (h:Zap P ops Q S bar ks (a.put o.dst v) w):Zap P ops Q S bar ((true,i)::ks) a w:=⟨o,v,ho,.inl ⟨hw,hv⟩,h⟩
theorem Ze {i:Nat} {o:Oper} {ks:List (Bool×Nat)} {a:Act} {w:World} (ho:ops[i]?=some o) (hw:Region.wanted o (yielded ops a.tmps)=true)
  (h:∀ K:Act→World→Prop,(∀ a' w',(bar i=true∨S w')→Zap P ops Q S bar ks a' w'→K a' w')→o.wp P a w K Q):Zap P ops Q S bar ((false,i)::ks) a w:=by
 refine⟨o,ho,?_⟩
 rw[if_pos hw]
 exact h _ fun _ _ h1 h2=>⟨h1,h2⟩
theorem Zt {a:Act} {w:World} (h:Q .normal a w):Zap P ops Q S bar [] a w:=h
end
section
variable {F:Fence} {n:Nat} {P:Program} {ops:Array Oper} {Q:Exit→Act→World→Prop} {md:Region.Mode} {S:World→Prop} {bar:Nat→Bool}
def Zan (P:Program) (ops:Array Oper) (S:World→Prop) (o:Oper) (v:Value) (a:Act):Prop:=YieldsIf P ops S o v a∧∀ w,o.about P w a.eval=none
theorem Zan.wpOpIn {i:Nat} {o:Oper} {v:Value} {a:Act} (hro:F.round=none) (hi:ops[i]?=some o) (hy:Zan P ops S o v a)
  {K:Act→World→Prop} {w:World} (hS:S w) (h:K (a.put o.dst v) w):wpOpIn F n P ops Q i K a w:=by
 unfold Go.wpOpIn
 simp only[hi]
 have hab:∀ f,o.about P w a.eval=some f→F.fn f:=fun f hf=>by rw[hy.2 w] at hf;cases hf
 rcases hy.1 with ⟨hw,hv⟩ | ⟨hw,rfl⟩
 ·simp only[hw,if_true,Oper.wpIn,hro,Oper.semAt_none,hv w hS,Oper.uponIn];exact⟨hab,h⟩
 ·simp only[hw,Bool.false_eq_true,if_false];exact⟨hab,h⟩
theorem Zan.of_same {o:Oper} {v:Value} {a a':Act} (hy:Zan P ops S o v a) (he:execOp a'.eval o=execOp a.eval o)
  (hw:Region.wanted o (yielded ops a'.tmps)=Region.wanted o (yielded ops a.tmps)) (hb:∀ w,o.about P w a'.eval=o.about P w a.eval):Zan P ops S o v a':=
 ⟨hy.1.of_same he hw,fun w=>by rw[hb w];exact hy.2 w⟩
theorem ZiC {j:Nat} {oi oj:Oper} {v:Value} (hro:F.round=none) (hj:ops[j]?=some oj) (hap:oi.apart ops oj=true)
  (hsi:∀ cs b,oi.op≠.select cs b) (hsj:∀ cs b,oj.op≠.select cs b)
  (hQ:∀ c a w,Q (.panic c) (a.put oi.dst v) w→Q (.panic c) a w) {K:Act→World→Prop} {a:Act} {w:World}
  (hy:Zan P ops S oi v a) (h:wpOpIn F n P ops Q j K (a.put oi.dst v) w) :
  wpOpIn F n P ops Q j (fun a' w'=>Zan P ops S oi v a'∧K (a'.put oi.dst v) w') a w:=by
 obtain⟨h1,h2,h3⟩:=Oper.apart_spec hap
 have keep:∀ (a:Act),Zan P ops S oi v a→∀ u,Zan P ops S oi v (a.put oj.dst u):=fun a hy u=>
  hy.of_same (execOp_put oi hsi a oj.dst u h3) (wanted_put oi a oj.dst u h3) (fun w=>about_put oi w a oj.dst u h3)
 have keepD:∀ d,Zan P ops S oi v { a with defers:=d::a.defers }:=fun d=>hy.of_same rfl rfl (fun _=>rfl)
 unfold wpOpIn at *
 simp only[hj] at *
 rw[wanted_put oj a oi.dst v h1,about_put oj w a oi.dst v h1] at h
 split
 ·rename_i hw
  simp only[hw,if_true] at h
  unfold Oper.wpIn at *
  rw[about_put oj w a oi.dst v h1] at h
  refine⟨h.1,?_⟩
  have h:=h.2
  rw[hro,Oper.semAt_none,execOp_put oj hsj a oi.dst v h1] at h
  rw[hro,Oper.semAt_none]
  generalize (execOp a.eval oj).run P w=r at *
  cases r with
  | ok x w'=>
   cases x<;>simp only[Oper.uponIn] at h ⊢
   case value u=>exact⟨keep a hy u,by rw[← Act.put_comm a v u h2];exact h⟩
   case skip=>exact⟨keep a hy _,by rw[← Act.put_comm a v undef h2];exact h⟩
   case defer d=>
    refine⟨keep _ (keepD d) _,?_⟩
    rw[← Act.put_comm _ v undef h2,← Act.put_defers]
    exact h
   case enter f args=>
    refine⟨h.1,CallsIn.mono h.2 fun e w'' he=>?_⟩
    cases e with
    | returned u=>exact⟨keep a hy u,by rw[← Act.put_comm a v u h2];exact he⟩
    | panicked c=>exact hQ _ _ _ he
    | outgrown=>exact he
   case row row args=>exact⟨h.1,RowsIn.mono h.2 fun u w'' he=>⟨keep a hy u,by rw[← Act.put_comm a v u h2];exact he⟩⟩
   case round l f tmps assign body=>
    refine⟨h.1,RoundIn.mono h.2 fun e w'' he=>?_⟩
    cases e with
    | returned u=>exact⟨keep a hy u,by rw[← Act.put_comm a v u h2];exact he⟩
    | panicked c=>exact hQ _ _ _ he
    | outgrown=>exact he
  | halt x w'=>
   cases x<;>simp only[Oper.uponIn] at h ⊢
   case panic u=>exact hQ _ _ _ h
 ·rename_i hw
  simp only[hw] at h
  exact⟨h.1,keep a hy _,by rw[← Act.put_comm a v undef h2];exact h.2⟩
def ZbV (md:Region.Mode) (ops:Array Oper):Nat→Nat→Nat→Bool
 | 0,_,_=>false
 | f+1,j,i=>Region.waitsFor md ops j i || (List.range ops.size).any fun m=>Region.waitsFor md ops j m && ZbV md ops f m i
def Z0 (md:Region.Mode) (ops:Array Oper) (listed:Array Bool):Prop:=∀ j m,listed.getD j true=true→Region.waitsFor md ops j m=true→listed.getD m true=true
theorem Zi6 {j m:Nat} (h:Region.waitsFor md ops j m=true):j<ops.size:=by
 obtain⟨oj,hoj,_⟩:=Region.waitsFor_spec h
 exact(Array.getElem?_eq_some_iff.1 hoj).1
theorem ZbK {listed:Array Bool} (hc:Z0 md ops listed) {i:Nat} (hi:listed.getD i true=false):∀ (f j:Nat),ZbV md ops f j i=true→listed.getD j true=false∧j ∉ Region.ready md ops listed
 | 0,_,h=>by cases h
 | f+1,j,h=>by
  have key:∀ m,Region.waitsFor md ops j m=true→listed.getD m true=false→listed.getD j true=false∧j ∉ Region.ready md ops listed:=fun m hw hm=>by
   refine⟨?_,fun hj=>?_⟩
   ·cases hl:listed.getD j true with
    | false=>rfl
    | true=>rw[hc j m hl hw] at hm;cases hm
   ·obtain⟨oj,hoj,e,he,hb,hon⟩:=Region.waitsFor_spec hw
    obtain⟨_,oj',hoj',hall⟩:=mem_ready.1 hj
    have:oj'=oj:=Option.some.inj (hoj'.symm.trans hoj)
    subst this
    have h1:=hall e he hb
    rw[hon] at h1
    rcases Nat.lt_or_ge m listed.size with h' | h'
    ·simp[h'] at hm h1;rw[hm] at h1;cases h1
    ·simp[Array.getElem?_eq_none h'] at h1 hm
  unfold ZbV at h
  rw[Bool.or_eq_true] at h
  rcases h with h | h
  ·exact key i h hi
  ·obtain⟨m,_,hm⟩:=List.any_eq_true.1 h
   rw[Bool.and_eq_true] at hm
   exact key m hm.1 (ZbK hc hi f m hm.2).1
theorem Z0.step {listed:Array Bool} (hc:Z0 md ops listed) {j:Nat} (hj:j ∈ Region.ready md ops listed):Z0 md ops (listed.setIfInBounds j true):=by
 intro k m hk hw
 have up:∀ m,listed.getD m true=true→(listed.setIfInBounds j true).getD m true=true:=fun m hm=>by
  by_cases e:j=m
  ·subst e
   rcases Nat.lt_or_ge j listed.size with h' | h'
   ·simp[h']
   ·simp[h']
  ·rw[getD_set_ne true e];exact hm
 by_cases e:j=k
 ·subst e
  obtain⟨oj,hoj,x,hx,hb,hon⟩:=Region.waitsFor_spec hw
  obtain⟨_,oj',hoj',hall⟩:=mem_ready.1 hj
  have:oj'=oj:=Option.some.inj (hoj'.symm.trans hoj)
  subst this
  have h1:=hall x hx hb
  rw[hon] at h1
  refine up m ?_
  rcases Nat.lt_or_ge m listed.size with h' | h'
  ·simp[h'] at h1 ⊢;exact h1
  ·simp[Array.getElem?_eq_none h'] at h1 ⊢
 ·rw[getD_set_ne true e] at hk
  exact up m (hc k m hk hw)
theorem Z0.start:Z0 md ops (Array.replicate ops.size false):=by
 intro j m hj hw
 have:=Zi6 hw
 simp[this] at hj
def ZbU (md:Region.Mode) (ops:Array Oper) (bar:Nat→Bool) (i:Nat):Prop:=∀ j,bar j=true→j≠i→ZbV md ops ops.size j i=true
def wpJF (F:Fence) (n:Nat) (P:Program) (md:Region.Mode) (ops:Array Oper) (Q:Exit→Act→World→Prop) (S:World→Prop) (bar:Nat→Bool):Nat→Array Bool→Act→World→Prop
 | 0,listed,a,w=>Region.ready md ops listed=[]∧Q .normal a w
 | fuel+1,listed,a,w=>(Region.ready md ops listed=[]→Q .normal a w)∧
  ∀ i ∈ Region.ready md ops listed,wpOpIn F n P ops Q i (fun a' w'=>(bar i=true∨S w')∧wpJF F n P md ops Q S bar fuel (listed.setIfInBounds i true) a' w') a w
theorem Zeo:∀ (fuel:Nat) (listed:Array Bool) (a:Act) (w:World),wpJF F n P md ops Q S bar fuel listed a w→wpAnyIn F n P md ops Q fuel listed a w
 | 0,_,_,_,h=>h
 | fuel+1,_,_,_,h=>⟨h.1,fun i hi=>wpOpIn_mono (fun a' w' h'=>Zeo fuel _ a' w' h'.2) (h.2 i hi)⟩
theorem Zgy {i:Nat} {oi:Oper} {v:Value} (hro:F.round=none) (hi:ops[i]?=some oi) (hsel:Region.noSelect ops=true) (hQ:∀ c a w,Q (.panic c) (a.put oi.dst v) w→Q (.panic c) a w) (hbar:ZbU md ops bar i) (hbi:bar i=false) :
  ∀ (fuel:Nat) (listed:Array Bool) (a:Act) (w:World),Z0 md ops listed→
   (∀ j oj,ops[j]?=some oj→j≠i→listed.getD j true=false→(∀ e ∈ oj.after,Region.binds md e=true→e.on≠i)→oi.apart ops oj=true)→
   i ∈ Region.ready md ops listed→Zan P ops S oi v a→S w→
   wpJF F n P md ops Q S bar fuel (listed.setIfInBounds i true) (a.put oi.dst v) w→wpJF F n P md ops Q S bar (fuel+1) listed a w
 | 0,listed,a,w,_,_,hr,hy,hS,H=>by
  refine⟨fun h=>(by rw[h] at hr;cases hr),fun j hj=>?_⟩
  by_cases hji:j=i
  ·subst hji;exact hy.wpOpIn hro hi hS ⟨.inr hS,H⟩
  ·have:=ready_mono hj hji
   rw[H.1] at this
   cases this
 | fuel+1,listed,a,w,hcl,hfree,hr,hy,hS,H=>by
  refine⟨fun h=>(by rw[h] at hr;cases hr),fun j hj=>?_⟩
  by_cases hji:j=i
  ·subst hji;exact hy.wpOpIn hro hi hS ⟨.inr hS,H⟩
  ·have hbj:bar j=false:=by
    cases hb:bar j with
    | false=>rfl
    | true=>exact absurd hj (ZbK hcl (mem_ready.1 hr).1 _ _ (hbar j hb hji)).2
   obtain⟨hjun,oj,hoj,hall⟩:=mem_ready.1 hj
   have hnot:∀ e ∈ oj.after,Region.binds md e=true→e.on≠i:=fun e he hb heq=>by
    have:Region.waitsFor md ops j i=true:=by
     unfold Region.waitsFor
     rw[hoj]
     exact Array.any_eq_true'.2 ⟨e,he,by simp[hb,heq]⟩
    exact Zac hr this hj
   have h2:=ZiC hro hoj (hfree j oj hoj hji hjun hnot) (fun cs b=>Region.noSelect_spec hsel i oi cs b hi) (fun cs b=>Region.noSelect_spec hsel j oj cs b hoj) hQ hy (H.2 j (ready_mono hj hji))
   refine wpOpIn_mono (fun a' w' h3=>?_) h2
   have hS':S w':=by
    rcases h3.2.1 with h4 | h4
    ·rw[hbj] at h4;cases h4
    ·exact h4
   refine⟨.inr hS',Zgy hro hi hsel hQ hbar hbi fuel (listed.setIfInBounds j true) a' w' (hcl.step hj) (fun k ok hk hki hun hno=>?_) (ready_mono hr (Ne.symm hji)) h3.1 hS' ?_⟩
   ·refine hfree k ok hk hki ?_ hno
    by_cases hjk:j=k
    ·subst hjk;exact hjun
    ·rw[getD_set_ne true hjk] at hun;exact hun
   ·rw[Array.setIfInBounds_comm _ _ hji]
    exact h3.2.2
def ZbP (md:Region.Mode) (ops:Array Oper) (bar:Nat→Bool):List (Bool×Nat)→Array Bool→Bool
 | [],listed=>decide (Region.ready md ops listed=[])
 | (true,k)::ks,listed=>(Region.ready md ops listed).contains k && Region.free md ops listed k && !bar k && ((List.range ops.size).all fun j=>!bar j || decide (j=k) || ZbV md ops ops.size j k) && ZbP md ops bar ks (listed.setIfInBounds k true)
 | (false,k)::ks,listed=>decide (Region.ready md ops listed=[k]) && (!bar k || ks.all fun b=>!b.1) && ZbP md ops bar ks (listed.setIfInBounds k true)
def Zcl (F:Fence) (n:Nat) (P:Program) (ops:Array Oper) (Q:Exit→Act→World→Prop) (S:World→Prop) (bar:Nat→Bool):List (Bool×Nat)→Act→World→Prop
 | [],a,w=>Q .normal a w
 | (true,i)::ks,a,w=>∃ o v,ops[i]?=some o∧Zan P ops S o v a∧Zcl F n P ops Q S bar ks (a.put o.dst v) w
 | (false,i)::ks,a,w=>∃ o,ops[i]?=some o∧Region.wanted o (yielded ops a.tmps)=true∧o.wpIn F n P a w (fun a' w'=>(bar i=true∨S w')∧Zcl F n P ops Q S bar ks a' w') Q
theorem Zcr (hro:F.round=none) (hsel:Region.noSelect ops=true) (hQ:∀ c a o v w,Q (.panic c) (a.put o v) w→Q (.panic c) a w) (hbo:∀ j,ops.size≤j→bar j=false) :
  ∀ (ks:List (Bool×Nat)) (listed:Array Bool) (a:Act) (w:World),ZbP md ops bar ks listed=true→Z0 md ops listed→
   (S w∨ks.all (fun b=>!b.1)=true)→Zcl F n P ops Q S bar ks a w→wpJF F n P md ops Q S bar ks.length listed a w
 | [],listed,a,w,hB,_,_,h=>⟨of_decide_eq_true hB,h⟩
 | (true,k)::ks,listed,a,w,hB,hC,hS,h=>by
  simp only[ZbP,Bool.and_eq_true] at hB
  obtain⟨⟨⟨⟨hr,hf⟩,hbk⟩,hw⟩,hB'⟩:=hB
  have hSw:S w:=by
   rcases hS with hS | hS
   ·exact hS
   ·simp at hS
  obtain⟨o,v,h0,hy,hrest⟩:=h
  have hbk':bar k=false:=by simpa using hbk
  have hwait:ZbU md ops bar k:=fun j hj hne=>by
   have hjl:j<ops.size:=by
    rcases Nat.lt_or_ge j ops.size with h' | h'
    ·exact h'
    ·rw[hbo j h'] at hj;cases hj
   rw[List.all_eq_true] at hw
   have:=hw j (List.mem_range.2 hjl)
   rw[hj] at this
   simpa[hne] using this
  have ih:=Zcr hro hsel hQ hbo ks (listed.setIfInBounds k true) (a.put o.dst v) w hB' (hC.step (by simpa using hr)) (.inl hSw) hrest
  rw[List.length_cons]
  exact Zgy hro h0 hsel (fun c a w=>hQ c a o.dst v w) hwait hbk' ks.length listed a w hC (Region.free_spec h0 hf) (by simpa using hr) hy hSw ih
 | (false,k)::ks,listed,a,w,hB,hC,hS,h=>by
  simp only[ZbP,Bool.and_eq_true,decide_eq_true_eq] at hB
  obtain⟨⟨hr,hbk⟩,hB'⟩:=hB
  obtain⟨o,h0,hw,h⟩:=h
  refine⟨fun h1=>(by rw[h1] at hr;cases hr),fun i hi=>?_⟩
  rw[hr] at hi
  obtain rfl:i=k:=by simpa using hi
  have ih:=fun a' w' (hs:bar i=true∨S w') h'=>Zcr hro hsel hQ hbo ks (listed.setIfInBounds i true) a' w' hB' (hC.step (by rw[hr];simp)) (by
   rcases hs with hs | hs
   ·rw[hs] at hbk
    exact .inr (by simpa using hbk)
   ·exact .inl hs) h'
  unfold wpOpIn
  simp only[h0]
  simp only[hw,if_true]
  exact Oper.wpIn_mono (fun a' w' h'=>⟨h'.1,ih a' w' h'.1 h'.2⟩) h
def Zec (l:List Oper) (ks:List (Bool×Nat)) (bar:Nat→Bool):Bool:=
 Region.noSelect l.toArray && decide (ks.length=l.length) && ZbP .any l.toArray bar ks (Array.replicate l.toArray.size false)
theorem Zii {id:Nat} {a:Act} {w:World} {l:List Oper} (ks:List (Bool×Nat)) (S:World→Prop) (bar:Nat→Bool) (hro:F.round=none) (hm:P.follows .mixedOrders=true)
  (hB:Zec l ks bar=true) (hbo:∀ j,l.length≤j→bar j=false) (hQ:∀ c a o v w,Q (.panic c) (a.put o v) w→Q (.panic c) a w) (hS:S w.drew)
  (H:Zcl F n P l.toArray Q S bar ks a w.drew):(Code.region id l.toArray true).wpIn F n P Q a w:=by
 simp only[Zec,Bool.and_eq_true,decide_eq_true_eq] at hB
 obtain⟨⟨hsel,hn⟩,hm2⟩:=hB
 have:=Zeo _ _ _ _ (Zcr (F:=F) (n:=n) hro hsel hQ (fun j hj=>hbo j (by simpa using hj)) ks _ a w.drew hm2 Z0.start (.inl hS) H)
 rw[hn] at this
 exact wpIn_region_any hm (by simpa using this)
theorem Zjk {i:Nat} {o:Oper} {ks:List (Bool×Nat)} {a:Act} {w:World} (v:Value) (ho:ops[i]?=some o) (hw:Region.wanted o (yielded ops a.tmps)=true) (hab:∀ w,o.about P w a.eval=none) (hv:∀ w,S w→(execOp a.eval o).run P w=.ok (.value v) w)
  (h:Zcl F n P ops Q S bar ks (a.put o.dst v) w):Zcl F n P ops Q S bar ((true,i)::ks) a w:=⟨o,v,ho,⟨.inl ⟨hw,hv⟩,hab⟩,h⟩
theorem Zdw {i:Nat} {o:Oper} {ks:List (Bool×Nat)} {a:Act} {w:World} (ho:ops[i]?=some o) (hw:Region.wanted o (yielded ops a.tmps)=true)
  (h:∀ K:Act→World→Prop,(∀ a' w',(bar i=true∨S w')→Zcl F n P ops Q S bar ks a' w'→K a' w')→o.wpIn F n P a w K Q):Zcl F n P ops Q S bar ((false,i)::ks) a w:=
 ⟨o,ho,hw,h _ fun _ _ h1 h2=>⟨h1,h2⟩⟩
theorem ZgB {a:Act} {w:World} (h:Q .normal a w):Zcl F n P ops Q S bar [] a w:=h
end
end Go.Proofs.YtmpaflidennnoaaGreatDoor
namespace Go.Proofs.YtmpaflidennnoaaGreatDoor
open Go.RowKit Go.Shelf
attribute [local go_sem] Oper.semAt_some
def Zcd (b off n:Nat) (bs:List BB) (W:World):Prop:=∀ k,k<n→
 W.cell? ⟨b,off+k*4,none⟩=some (.string (bAt bs k).1.1)∧W.cell? ⟨b,off+k*4+1,none⟩=some (.string (bAt bs k).1.2)∧W.cell? ⟨b,off+k*4+2,none⟩=some (.string (bAt bs k).2.1)∧W.cell? ⟨b,off+k*4+3,none⟩=some (.string (bAt bs k).2.2)
theorem Zcd.keeps {b off n:Nat} {bs:List BB} {S:Nat→Prop} {w w':World} (h:Zcd b off n bs w) (hk:Keeps S w w') (hs:S b):Zcd b off n bs w':=
 fun k hl=>⟨hk.cellAt (h k hl).1 hs,hk.cellAt (h k hl).2.1 hs,hk.cellAt (h k hl).2.2.1 hs,hk.cellAt (h k hl).2.2.2 hs⟩
theorem Zgc (Bs b off n cap:Nat) (S:Nat→Prop) (bs:List BB) (h1:2≤n) (hl:n≤64) (hcap:n≤cap) (hmax:cap≤9223372036854775807) (w0:World) (hS:S Bs) (hSb:S b)
  (hBs:w0.cell? ⟨Bs,0,none⟩=some (.slice (some ⟨b,off,none⟩) n cap)) (hp:Zcd b off n bs w0) :
  Iter Tryz.prog 179 #[.pointer (some ⟨Bs,0,none⟩)] (fun k=>#[bV (bAt bs k),bV (bAt bs (k+1))]) (n-1) S (fun _=>True) w0:=by
 intro m l J Jx W hK hJ hJx hY h0
 have hB1:W.cell? ⟨Bs,0,none⟩=some (.slice (some ⟨b,off,none⟩) n cap):=hK.cellAt hBs hS
 have HP:Hid (Zcd b off n bs W):=hp.keeps hK hSb
 have HY:=Lib.hid hY
 have HJ:=Lib.hid hJ
 clear hp hY hBs hJ
 obtain⟨r,rfl⟩:∃ r,n=r+1:=⟨n-1,by omega⟩
 rw[Nat.add_sub_cancel] at *
 have hc1:¬ cap=1:=by omega
 refine callsIn_of_wp Tryz.func179 rfl trivial ?_ rfl
 simp only[Tryz.ntmps179,List.size_toArray,List.length_cons,List.length_nil,Nat.reduceAdd,Nat.reduceSub,Array.replicate_succ,Array.replicate_zero,List.push_toArray,List.append_toArray,List.nil_append,List.cons_append]
 gi_wp2
 gi_loopw [7] (fun iv wr=>∃ k:Nat,iv=.int .i64 k∧k≤r∧J k wr∧Hid (Keeps S W wr)) (fun iv _=>r-(intOf iv).toNat)
 case atStart=>exact⟨0,rfl,Nat.zero_le _,h0,Keeps.refl _ _⟩
 case round=>
  obtain⟨k,rfl,hk,hJs,HN⟩:=hrel
  have hB2:wr.drew.cell? ⟨Bs,0,none⟩=some (.slice (some ⟨b,off,none⟩) (r+1) cap):=(HN.out.drew).cellAt hB1 hS
  by_cases hlt:k<r
  ·obtain⟨s,hs⟩:∃ z,bAt bs k=z:=⟨_,rfl⟩
   obtain⟨t,ht⟩:∃ z,bAt bs (k+1)=z:=⟨_,rfl⟩
   obtain⟨⟨s0,s1⟩,s2,s3⟩:=s
   obtain⟨⟨t0,t1⟩,t2,t3⟩:=t
   have hcl:=HP.out.keeps HN.out.drew hSb
   obtain⟨a0,a1,a2,a3⟩:=hcl k (by omega)
   obtain⟨b0,b1,b2,b3⟩:=hcl (k+1) (by omega)
   rw[hs] at a0 a1 a2 a3
   rw[ht] at b0 b1 b2 b3
   simp only at a0 a1 a2 a3 b0 b1 b2 b3
   have hJd:=HJ.out _ _ _ hJs (Keeps.refl (fun _=>True) wr).drew
   obtain⟨fn,tmps,assign,body,hy,hR⟩:=HY.out k wr.drew hlt hJd
   rw[hs,ht] at hy
   simp only[bV] at hy
   clear hcl hs ht hJs hJd
   have e1:IntKind.i64.wrap ((k:Int)+1)=((k+1:Nat):Int):=by rw[IntWalk.i64_in _ (by omega)];rfl
   have i1:(k:Int)<(r:Int)+1:=by omega
   have i2:((k+1:Nat):Int)<(r:Int)+1:=by omega
   gi_wp2
   refine Zii [(true,0),(true,1),(true,2),(true,3),(true,4),(true,5),(true,6),(true,7),(true,8),(true,9),(false,10),(false,11)] (fun w'=>w'=wr.drew) (fun j=>j==10 || j==11) rfl (by kernel_rfl) (by kernel_rfl) (fun j hj=>by simp at hj ⊢;omega)
    (fun _ _ o _ _ h=>by cases o<;>exact h) rfl ?_
   iterate 10
    refine Zjk _ rfl rfl (fun _=>rfl) (fun w' hS=>by subst hS;go_simp;first | rfl | (simp only[e1,i1,i2,Int.natCast_nonneg,Int.toNat_natCast,and_self,if_true];rfl)) ?_
    simp only[Act.put,List.setIfInBounds_toArray,List.set_cons_zero,List.set_cons_succ]
   refine Zdw rfl rfl fun K hK=>?_
   go_simp
   refine⟨(fun h=>by cases h),hR.mono ?_⟩
   rintro e W3 (⟨rfl,hJ3,hk3⟩ | ⟨rfl,hJx3⟩)
   ·have HN3:=Lib.hid (HN.out.drew.trans hk3)
    clear hk3 a0 a1 a2 a3 b0 b1 b2 b3 hy hR
    refine hK _ _ (.inl rfl) ?_
    clear hK K
    refine Zdw rfl rfl fun K hK=>?_
    go_simp
    refine hK _ _ (.inl rfl) ?_
    clear hK K
    refine ZgB ?_
    gi_wp2
    go_roundw
    case rel=>exact⟨k+1,by go_num,by omega,hJ3,HN3⟩
    case measure=>simp[intOf];omega
   ·clear a0 a1 a2 a3 b0 b1 b2 b3 hy hR
    refine hK _ _ (.inl rfl) ?_
    clear hK K
    refine Zdw rfl rfl fun K hK=>?_
    go_simp
    refine hK _ _ (.inl rfl) ?_
    clear hK K
    refine ZgB ?_
    gi_wp2
    refine bodyPost_ret (results_none rfl _ _ _) rfl ?_
    exact⟨⟨_,rfl⟩,.inr ⟨k,hlt,hJx3⟩⟩
  ·obtain rfl:k=r:=by omega
   gi_wp2
   go_end0
   exact⟨⟨_,rfl⟩,.inl hJs⟩
theorem Zhq (p:Option Addr) (len cap:Nat) (w:World) :
  Calls Tryz.prog 132 #[.slice p len cap] w fun e w'=>e=.returned (.func (.func 179) #[] #[.pointer (some ⟨w.heap.size,0,none⟩)])∧w'=w.alloc (.cells #[.slice p len cap] 72):=by
 go_enter Tryz.func132,Tryz.ntmps132
 go_wp2
 go_ret
 exact⟨rfl,rfl⟩
end Go.Proofs.YtmpaflidennnoaaGreatDoor
