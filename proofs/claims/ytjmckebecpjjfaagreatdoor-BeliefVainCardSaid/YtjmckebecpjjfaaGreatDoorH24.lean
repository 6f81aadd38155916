/- The parts BelFA. -/
import Derived.Test.YtjmckebecpjjfaaGreatDoorH23
import Derived.Deep.CutRange
set_option maxRecDepth 100000
set_option maxHeartbeats 8000000
set_option linter.unusedVariables false
set_option linter.unusedSimpArgs false
namespace Go.Proofs.YtjmckebecpjjfaaGreatDoor
open Go.RowKit Go.Shelf
attribute [local go_sem ↓] Go.wp_at_zero Go.wp_at_succ
theorem Zgz:(Tryz.prog.info? 33).map (fun i=>(i.zero,i.size,i.bytes))=some (some (.slice none 0 0),1,24):=Zb
def ZX (w:World) (B:Nat) (vs:List Value) (fs:List Fl):Prop:=vs.length=fs.length/\∀ i,i<fs.length->OwnM w B (vs.getD i undef) (fs.getD i [])/\ZaZ (fs.getD i [])
theorem ZX.nil (w:World) (B:Nat):ZX w B [] []:=⟨rfl,fun i h=>Zqx h Zc⟩
theorem ZX.snoc {w:World} {B:Nat} {vs:List Value} {fs:List Fl} {v:Value} {f:Fl} (h:ZX w B vs fs) (hv:OwnM w B v f) (hg:ZaZ f):ZX w B (vs++[v]) (fs++[f]):=by
 obtain⟨h1,h2⟩:=h
 refine⟨by simp[h1],fun i hi=>?_⟩
 rw[Zqc,List.length_singleton] at hi
 rw[List.getD_eq_getElem?_getD,List.getD_eq_getElem?_getD]
 by_cases hlt:i<fs.length
 ·rw[List.getElem?_append_left Za,List.getElem?_append_left hlt,<- List.getD_eq_getElem?_getD,<- List.getD_eq_getElem?_getD]
  exact h2 i hlt
 ·obtain rfl:i=fs.length:=Za
  rw[List.getElem?_append_right Za,List.getElem?_append_right ZqI,h1,Nat.sub_self]
  exact⟨hv,hg⟩
theorem ZX.keep {S:Nat->Prop} {w w':World} {B:Nat} {vs:List Value} {fs:List Fl} (h:ZX w B vs fs) (hk:Keeps S w w') (hS:∀ g,B<=g->S g):ZX w' B vs fs:=⟨h.1,fun i hi=>⟨Zx (h.2 i hi).1 hk hS,(h.2 i hi).2⟩⟩
theorem ZhS {w w':World} {B B':Nat} {u v:Value} {n:Nat} {xs:List Value} {ms:Fl} (h:OwnM w B v ms) (hu:w.ownsRow B' 33 1 u n xs) (hk:Keeps (fun b=>u.ownBlock≠some b) w w'):OwnM w' B v ms:=by
 obtain⟨h1,h2⟩:=h
 refine⟨h1,?_⟩
 rcases h2 with h2 | ⟨g,cap,cur,hv,hb,hg,hr⟩
 ·exact .inl h2
 ·refine .inr ⟨g,cap,cur,hv,hb,(hk.block g (ZqC hg) fun he=>?_).trans hg,hr⟩
  rcases hu.2 with ⟨rfl,_⟩ | ⟨g',cap',cur',rfl,_,hg',_⟩
  ·cases he
  ·obtain rfl:=ZpZ he
   rw[show (⟨g',0,none⟩:Addr).block=g' from rfl] at hg
   rw[hg'] at hg
   injection hg with hg
   injection hg with _ hg _
   exact Zqx hg Zd
theorem ZX.row {w w':World} {B B':Nat} {u:Value} {n:Nat} {xs:List Value} {vs:List Value} {fs:List Fl} (h:ZX w B vs fs) (hu:w.ownsRow B' 33 1 u n xs) (hk:Keeps (fun b=>u.ownBlock≠some b) w w'):ZX w' B vs fs:=⟨h.1,fun i hi=>⟨ZhS (h.2 i hi).1 hu hk,(h.2 i hi).2⟩⟩
theorem Zc3 {w w':World} {B q:Nat} {e:TypeId} {size:Nat} {v:Value} {n:Nat} {xs:List Value} {s t:ByteArray} (h:w.ownsRow B e size v n xs) (he:e≠39) (hq:w.heap[q]?=some (pObj s t)) (hk:Keeps (fun b=>b≠q) w w'):w'.ownsRow B e size v n xs:=by
 obtain⟨h1,h2⟩:=h
 refine⟨h1,?_⟩
 rcases h2 with h2 | ⟨g,cap,cur,hv,hb,hg,hr⟩
 ·exact .inl h2
 ·refine .inr ⟨g,cap,cur,hv,hb,(hk.block g (ZqC hg) fun hgq=>?_).trans hg,hr⟩
  subst hgq
  rw[hq] at hg
  injection hg with hg
  injection hg with _ hg _
  exact he hg.symm
theorem ZX.part {w w':World} {B q:Nat} {vs:List Value} {fs:List Fl} {s t:ByteArray} (h:ZX w B vs fs) (hq:w.heap[q]?=some (pObj s t)) (hk:Keeps (fun b=>b≠q) w w'):ZX w' B vs fs:=⟨h.1,fun i hi=>⟨Zc3 (h.2 i hi).1 Zd hq hk,(h.2 i hi).2⟩⟩
abbrev ZhE (w:World) (v:Value) (fs:List Fl):Prop:=LL 1 (InR ZK) w v fs
theorem ZK.stay (w w':World) (v:Value) (x:Fl) (B:Nat) (h:ZK w v x) (hb:Below B w w') (hB:w.heap.size<=B):ZK w' v x:=h.after ZaQ.stays hb hB
theorem Zl3 {w:World} {B B':Nat} {u:Value} {vs:List Value} {fs:List Fl} (h:ZX w B vs fs) (hu:w.ownsRow B' 33 1 u vs.length vs):ZhE w u fs:=by
 have h0:=hu
 rcases hu.2 with ⟨rfl,hn⟩ | ⟨g,cap,cur,rfl,hb,hrow,h1,h2,_⟩
 ·obtain rfl:=Zp7 (h.1 ▸ hn)
  exact LL.nil w
 ·rw[h.1] at h1 ⊢
  refine⟨_,_,rfl,h1,h2,fun _=>⟨g,0,rfl,(ZqC hrow),fun k hk=>?_⟩⟩
  have hkv:k<vs.length:=by rw[h.1];exact hk
  have hc:=World.ownsRow.cellAt h0 k Za
  rw[Nat.zero_add,Nat.mul_one]
  refine⟨vs.getD k undef,?_,?_⟩
  ·rw[List.getD_eq_getElem?_getD,Zqg hkv]
   rw[Zqg hkv] at hc
   exact hc
  ·have h3:=h.2 k hk
   have e:fs.getD k []=fs[k]:=by rw[List.getD_eq_getElem?_getD,Zqg hk];rfl
   rw[e] at h3
   exact Zcf h3.1 h3.2
def Zoh (r:Except Int (List Fl×Rat)) (w:World) (e:Ending) (w':World):Prop:=
 ((∃ fs z v vs s t,r=.ok (fs,z)/\e=.returned (.tuple #[v,pV s t])/\ZX w' w.heap.size vs fs/\w'.ownsRow w.heap.size 33 1 v vs.length vs/\IsP z s t)\/∃ n,r=.error n/\n≠0/\e=Zbv n)/\Below w.heap.size w w'
theorem Zj9 {b:BelP} {ns:List NoteP} {K:Nat} {e:Int} (h:ZaK b=.error e):Zae b ns K=.error e:=by unfold Zae;rw[h]
theorem Zkk {b:BelP} {ns:List NoteP} {K:Nat} {m:Fl} (h:ZaK b=.ok m):Zae b ns K=match Zt (ZaG b ns) (K+1) ([],m,1) with
  | .error e=>.error e
  | .ok s=>.ok (s.1,s.2.2):=by unfold Zae;rw[h];rfl
theorem Zml {b:BelP} {ns:List NoteP} {t k:Nat} (hn:ZH b (ntA ns k)=true) {x y:Fl×Rat} (hP:Z1 b x.1 x.2) (hg:Zab ns t k x=.ok y):Z1 b y.1 y.2:=by
 unfold Zab at hg
 split at hg
 ·cases h1:ZaF x.1 (ntA ns k) with
  | error e=>rw[h1] at hg;cases hg
  | ok o=>
   obtain⟨m,z⟩:=o
   rw[h1] at hg
   simp only at hg
   cases h2:mulF x.2 z with
   | error e=>rw[h2] at hg;cases hg
   | ok l=>
    rw[h2] at hg
    obtain rfl:=Zbi h2
    cases hg
    obtain⟨p1,p2,p3,p4⟩:=hP
    obtain⟨q1,q2,q3,q4⟩:=Zby hn p1 h1
    rw[p2] at q4
    refine⟨q1,q2,Rat.mul_pos p3 q3,?_⟩
    have:=Rat.mul_le_mul_of_nonneg_left q4 (Rat.le_of_lt p3)
    show x.2*z<=1
    grind
 ·cases hg
  exact hP
theorem Zhy {b:BelP} {lv sv nl:Value} {ns:List NoteP} {K:Nat} {w:World} (h:BelIn b lv sv w) (hb:ZF b=true) (hl:NotesIn ns nl w) (hn:∀ k,k<ns.length->ZH b (ntA ns k)=true) (hK:K<=32) :
  Calls Tryz.prog 42 #[belV b lv sv,nl,.int .i64 (K:Int)] w (Zoh (Zae b ns K) w):=by
 obtain⟨n,hn'⟩:=ZqJ ns.length
 obtain⟨pn,cn,rfl,hc1,hc2⟩:=hl.list.shape hn'
 obtain⟨i0,hi,hz0,hz1,hz2⟩:=info_parts Zgz
 have HN:=ZqH hn'
 have HH:=ZqH h
 have HCB:=ZqH hb
 have HNB:=ZqH hn
 have HAT:=ZqH (fun h0=>Zbm.at hl.list hn' h0)
 obtain⟨W0,hW0⟩:=ZqJ (w.alloc (belO b lv sv))
 obtain⟨R,hR⟩:=ZqJ W0.heap.size
 have HR:Hid (w.heap.size+1=R):=by show _=_;rw[<- hR,<- hW0];simp
 obtain⟨w1,hw1⟩:=ZqJ (W0.alloc (pObj ZqD ZqD))
 have HE1:Hid (Env w.heap.size w [(R,pObj ZqD ZqD),(w.heap.size,belO b lv sv)] [] w1):=by
  rw[<- hw1,<- hW0,<- HR.out]
  exact((Env.start w).push _ rfl).push _ Zc
 have HS1:Hid (w1.heap.size=w.heap.size+2):=by show _=_;rw[<- hw1,<- hW0];simp
 have hKK:wrap64 ((K:Int)+1)=(K:Int)+1:=by unfold wrap64;omega
 clear h hb hl hn hn'
 go_enter Tryz.func42,Tryz.ntmps42
 go_wp2_with fail
 clear hw1 hW0 hR
 refine ZA [(1,0),(1,2),(0,1),(1,3),(0,4)] (Below w1.heap.size w1) (fun i=>i==4)
  Zb Zb (fun j hj=>by have h:5<=j:=hj;simp;omega) Zi (ZpV _ w1).drew ?_
 have HE4:Hid (Below w1.heap.size w1 w1.drew):=(ZpV _ w1).drew
 have HBW:Hid (∀ X,Below w1.heap.size w1 X->Below w.heap.size w X):=fun X hX=>HE1.out.base.trans (hX.mono HE1.out.own)
 iterate 2
  refine Zq _ rfl rfl (fun w' hS=>by obtain⟨c0,c1,c2,c3,c4⟩:=Zv ((HE1.out.step hS).block 1 rfl);have zz:=HH.out.vars.below (HBW.out _ hS) ZqI;have z0:=zz.o0;have z1:=zz.o1;exact Ze) ?_
  simp only[Act.put,Zl]
 refine Zs 39 _ rfl rfl Zf ?_
 refine(Ziu (HH.out.below (HBW.out _ HE4.out) ZqI) HCB.out).mono ?_
 rintro e V5 ⟨hE,hb⟩
 have HE5:ZqB w1 V5:=HE4.out.trans (hb.mono HE4.out.size)
 clear hb
 rcases hE with ⟨m0,v0,h1,rfl,h3,hg⟩ | ⟨ne,h1,h3,rfl⟩
 case inr=>
  refine .inr ⟨_,rfl,?_⟩
  exact⟨rfl,.inr ⟨ne,Zj9 h1,h3,rfl⟩,HBW.out _ HE5.out⟩
 refine .inl ⟨_,rfl,HE5.out,?_⟩
 simp only[Act.put,Zl]
 iterate 1
  refine Zq _ rfl rfl (fun w' hS=>Ze) ?_
  simp only[Act.put,Zl]
 have HFT:=ZqH (Zkk (ns:=ns) (K:=K) h1)
 have HTO:Hid (Z1 b m0 1):=by
  obtain⟨p1,p2⟩:=Zdd HCB.out h1
  exact⟨p1,p2,(by decide:(0:Rat)<1),Rat.le_refl⟩
 have HE5E:=ZqH (HE1.out.step HE5.out)
 have HE6:=ZqH (HE5E.out.fill (.string ⟨#[49]⟩) (.string ⟨#[49]⟩))
 obtain⟨wA,hwA⟩:=ZqJ ((V5.setCell ⟨R,0,none⟩ (.string ⟨#[49]⟩)).setCell ⟨R,1,none⟩ (.string ⟨#[49]⟩))
 rw[hwA] at HE6
 have hkA:Keeps (fun b=>b≠R) V5 wA:=by rw[<- hwA];exact((Keeps.refl _ V5).setCell (p:=⟨R,0,none⟩) (fun h=>h rfl) _).setCell (p:=⟨R,1,none⟩) (fun h=>h rfl) _
 obtain⟨B0,hB0⟩:=ZqJ (w.heap.size+2)
 have HB0:=ZqH hB0
 have HOA:Hid (OwnM wA B0 v0 m0):=Zar (Zx h3 hkA fun g hg=>by have:=HR.out;have:=HE4.out.size;have:=HS1.out;show g≠R;omega) (by have:=HE4.out.size;have:=HS1.out;omega)
 have HGA:=ZqH hg
 have s0:=HE5E.out.cell 0 0 (v:=.string ZqD) rfl rfl
 have s1:=HE5E.out.cell 0 1 (v:=.string ZqD) rfl rfl
 have f0:=HE5E.out.free 0 0 rfl
 have f1:=HE5E.out.free 0 1 rfl
 refine ZG rfl rfl fun K' hK'=>?_
 go_simp
 refine hK' _ _ (.inl rfl) ?_
 clear hK' K'
 refine Zz ?_
 have HSA:Hid (B0<=wA.heap.size):=by have:=HE6.out.lt 0 rfl;have:=HR.out;show B0<=_;omega
 clear hwA h1 h3 hg hkA hB0 s0 s1 f0 f1 HE4 HE5 HE5E
 have HKB:Hid (∀ X,Keeps (fun b=>b≠R/\b<B0) wA X->Below w.heap.size w X/\X.heap[w.heap.size]?=some (belO b lv sv)):=fun X hX=>by
  have:=HR.out
  have:=HB0.out
  exact⟨HE6.out.base.trans ((hX.mono (S':=fun b=>b<w.heap.size) fun b _ hb=>⟨Za,Za⟩).toBelow (by have:=HSA.out;omega)),(hX.block _ (HE6.out.lt 1 rfl) ⟨Za,Za⟩).trans (HE6.out.block 1 rfl)⟩
 have HGR0:Hid (wA.heap[R]?=some (pObj ⟨#[49]⟩ ⟨#[49]⟩)):=HE6.out.block 0 rfl
 have HRB:Hid (R<B0):=by have:=HR.out;have:=HB0.out;show R<B0;omega
 clear HE1
 go_wp2_with fail
 go_loopw [6,8,18] (fun av nv iv wr=>∃ (t:Nat) (fs:List Fl) (m:Fl) (left:Rat) (vs:List Value) (x y:ByteArray),iv=.int .i64 t/\t<=K+1/\Hid (Zt (ZaG b ns) t ([],m0,1)=.ok (fs,m,left))/\Hid (Z1 b m left)/\Hid (OwnM wr B0 nv m/\ZaZ m)/\Hid (ZX wr B0 vs fs)/\Hid (wr.ownsRow B0 33 1 av vs.length vs)/\
   Hid (vs.length=t)/\Hid (IsP left x y)/\Hid (wr.heap[R]?=some (pObj x y))/\Hid (Keeps (fun b=>b≠R/\b<B0) wA wr)) (fun _ _ iv _=>K+1-(intOf iv).toNat)
 case atStart=>exact⟨0,[],m0,1,[],⟨#[49]⟩,⟨#[49]⟩,rfl,Zp8 _,rfl,HTO,⟨HOA.out,HGA.out⟩,ZX.nil _ _,World.ownsRow_nil _ _ _ 1,rfl,ZbD,HGR0,Keeps.refl _ _⟩
 case round=>
  obtain⟨t,fs,m,left,vs,x,y,rfl,htK,HLT,HTM,HNO,HAL,HAO,HVL,HLF,HGR,HKR⟩:=hrel
  obtain⟨pa,na,ca,rfl⟩:∃ p n c,u6=Value.slice p n c:=by
   rcases HAO.out.2 with ⟨h,_⟩ | ⟨_,_,_,h,_⟩
   ·exact⟨_,_,_,h⟩
   ·exact⟨_,_,_,h⟩
  obtain⟨pv,nv,cv,rfl⟩:∃ p n c,u8=Value.slice p n c:=by
   rcases HNO.out.1.2 with ⟨h,_⟩ | ⟨_,_,_,h,_⟩
   ·exact⟨_,_,_,h⟩
   ·exact⟨_,_,_,h⟩
  by_cases hlt:t<K+1
  ·have t1:(t:Int)<(K:Int)+1:=Za
   go_upto_if 22 with (fail)
   go_cut [8] from 20 to 53 (fun s8 wc=>∃ (m2:Fl) (p8:Option Addr) (n8 c8:Nat),s8=.slice p8 n8 c8/\Hid ((if t=0 then .ok m else ZaB b m)=(.ok m2:Except Int Fl))/\Hid (Z1 b m2 left)/\Hid (OwnM wc B0 (.slice p8 n8 c8) m2/\ZaZ m2)/\Hid (ZX wc B0 vs fs)/\
     Hid (wc.ownsRow B0 33 1 (.slice pa na ca) vs.length vs)/\Hid (wc.heap[R]?=some (pObj x y))/\Hid (Keeps (fun b=>b≠R/\b<B0) wA wc))
   case first=>
    by_cases h0:t=0
    ·subst h0
     go_wp2
     go_meet
     case rel=>exact⟨m,pv,nv,cv,rfl,rfl,HTM,HNO,HAL,HAO,HGR,HKR⟩
    ·have hp0:(0:Int)<(t:Int):=Za
     obtain⟨c0,c1,c2,c3,c4⟩:=Zv (HKB.out wr HKR.out).2
     have HT0:=ZqH h0
     clear h0
     go_wp2_with fail
     refine(Zk1 (HH.out.below (HKB.out wr HKR.out).1 ZqI) HCB.out (Zcf HNO.out.1 HNO.out.2) HTM.out.1).mono ?_
     rintro e w2 ⟨hE,hb⟩
     have HK2:Hid (Keeps (fun _=>True) wr w2):=hb.keepsS _
     clear hb c0 c1 c2 c3 c4
     rcases hE with ⟨m2,v2,h1,rfl,h3,hg⟩ | ⟨ne,h1,h3,rfl⟩
     ·obtain⟨p8,n8,c8,rfl⟩:∃ p n c,v2=Value.slice p n c:=by
       rcases h3.2 with ⟨h,_⟩ | ⟨_,_,_,h,_⟩
       ·exact⟨_,_,_,h⟩
       ·exact⟨_,_,_,h⟩
      have HP1:Hid ((if t=0 then .ok m else ZaB b m)=(.ok m2:Except Int Fl)):=by
       show _=_
       rw[if_neg HT0.out,h1]
      have HP2:Hid (Z1 b m2 left):=by
       obtain⟨a1,a2⟩:=Zcz HCB.out HTM.out.1 h1
       exact⟨a1,by rw[a2];exact HTM.out.2.1,HTM.out.2.2⟩
      have HP3:Hid (OwnM w2 B0 (.slice p8 n8 c8) m2/\ZaZ m2):=⟨Zar h3 (by have:=HKR.out.size;have:=HSA.out;omega),hg⟩
      have HP4:Hid (ZX w2 B0 vs fs):=HAL.out.keep HK2.out fun _ _=>trivial
      have HP5:Hid (w2.ownsRow B0 33 1 (.slice pa na ca) vs.length vs):=Zx HAO.out HK2.out fun _ _=>trivial
      have HP6:Hid (w2.heap[R]?=some (pObj x y)):=(HK2.out.block _ (ZqC HGR.out) trivial).trans HGR.out
      have HP7:Hid (Keeps (fun b=>b≠R/\b<B0) wA w2):=HKR.out.trans (HK2.out.mono fun _ _ _=>trivial)
      clear h1 h3 hg
      go_wp2
      go_meet
      case rel=>exact⟨m2,p8,n8,c8,rfl,HP1,HP2,HP3,HP4,HP5,HP6,HP7⟩
     ·have HER:Hid (Zae b ns K=.error ne):=by
       show _=_
       have h4:ZaG b ns t (fs,m,left)=.error ne:=by
        unfold ZaG
        simp only[if_neg HT0.out,h1]
       rw[HFT.out,ZZ HLT.out h4 hlt]
      exact⟨rfl,.inr ⟨ne,HER.out,h3,rfl⟩,(HKB.out _ (HKR.out.trans (HK2.out.mono fun _ _ _=>trivial))).1⟩
   case rest=>
    obtain⟨m2,p8,n8,c8,rfl,HP1,HP2,HP3,HP4,HP5,HP6,HP7⟩:=hcut
    clear HTM HNO HAL HAO HGR HKR
    have HTE:Hid (∀ en,Zt (Zab ns t) n (m2,left)=.error en->Zae b ns K=.error en):=fun en h=>by
     have h4:ZaG b ns t (fs,m,left)=.error en:=by
      unfold ZaG
      simp only[HP1.out,HN.out,h]
     rw[HFT.out,ZZ HLT.out h4 hlt]
    have HTK:Hid (∀ m3 l3,Zt (Zab ns t) n (m2,left)=.ok (m3,l3)->Zt (ZaG b ns) (t+1) ([],m0,1)=.ok (fs++[m3],m3,l3)):=fun m3 l3 h=>by
     rw[Zag HLT.out]
     unfold ZaG
     simp only[HP1.out,HN.out,h]
    go_wp2_with fail
    go_loopw [8,28] (fun nv iv wr=>∃ (j:Nat) (m3:Fl) (l3:Rat) (x3 y3:ByteArray),iv=.int .i64 j/\j<=n/\Hid (Zt (Zab ns t) j (m2,left)=.ok (m3,l3))/\Hid (Z1 b m3 l3)/\Hid (OwnM wr B0 nv m3/\ZaZ m3)/\Hid (ZX wr B0 vs fs)/\
      Hid (wr.ownsRow B0 33 1 (.slice pa na ca) vs.length vs)/\Hid (IsP l3 x3 y3)/\Hid (wr.heap[R]?=some (pObj x3 y3))/\Hid (Keeps (fun b=>b≠R/\b<B0) wA wr)) (fun _ iv _=>n-(intOf iv).toNat)
    case atStart=>exact⟨0,m2,left,x,y,rfl,Zp8 _,rfl,HP2,HP3,HP4,HP5,HLF,HP6,HP7⟩
    case round=>
     obtain⟨j,m3,l3,x3,y3,rfl,hj,HLJ,HTJ,HNJ,HAJ,HBJ,HIJ,HGJ,HKJ⟩:=hrel
     clear HP3 HP4 HP5 HP6 HP7
     obtain⟨pv,nv,cv,rfl⟩:∃ p n c,u8=Value.slice p n c:=by
      rcases HNJ.out.1.2 with ⟨h,_⟩ | ⟨_,_,_,h,_⟩
      ·exact⟨_,_,_,h⟩
      ·exact⟨_,_,_,h⟩
     by_cases hjn:j<n
     ·obtain⟨bn,on,rfl,p0,n0,c0,hat⟩:=HAT.out Za
      obtain⟨hcell,hrun,_,_⟩:=hat j hjn
      obtain⟨e0,e1,e2,e3,e4,e5,e6⟩:=hcell wr (HKB.out wr HKJ.out).1
      have hnb:=HNB.out j (by rw[HN.out];exact hjn)
      obtain⟨pc,hpc⟩:=ZqJ (p0 j)
      obtain⟨nc,hnc⟩:=ZqJ (n0 j)
      obtain⟨cc,hcc⟩:=ZqJ (c0 j)
      rw[hpc,hnc,hcc] at e2 hrun
      have HNS:Hid (∀ y,Zab ns t j (m3,l3)=.ok y->Z1 b y.1 y.2):=fun y h=>Zml hnb HTJ.out h
      have HNG:Hid (Zab ns t j (m3,l3)=if (ntA ns j).time=(t:Nat) then (match ZaF m3 (ntA ns j) with
       | .error e=>.error e
       | .ok (m,z)=>match mulF l3 z with
        | .error e=>.error e
        | .ok l=>.ok (m,l)) else .ok (m3,l3)):=rfl
      obtain⟨nt,hnt⟩:=ZqJ (ntA ns j)
      rw[hnt] at e0 e1 e3 e4 e5 e6 hrun hnb HNG
      have HRUN:=ZqH hrun
      have HNBJ:=ZqH hnb
      obtain⟨W,hW⟩:=ZqJ (wr.alloc (ntO nt (.slice pc nc cc)))
      obtain⟨q0,hq0⟩:=ZqJ wr.heap.size
      have hqb:W.heap[q0]?=some (ntO nt (.slice pc nc cc)):=by rw[<- hW,<- hq0];exact ZpY wr _
      have HKW:Hid (Keeps (fun _=>True) wr W):=by show Keeps _ _ _;rw[<- hW];exact(Keeps.refl _ wr).alloc _
      have j0:(0:Int)<=(j:Int):=Za
      have j1:(j:Int)<(n:Int):=Za
      by_cases htm:nt.time=(t:Int)
      ·have HNG2:Hid (Zab ns t j (m3,l3)=(match ZaF m3 nt with
        | .error e=>.error e
        | .ok (m,z)=>match mulF l3 z with
         | .error e=>.error e
         | .ok l=>.ok (m,l))):=by
        show _=_
        rw[HNG.out,if_pos htm]
       obtain⟨W2,hW2⟩:=ZqJ (W.alloc (pObj ZqD ZqD))
       obtain⟨q1,hq1⟩:=ZqJ W.heap.size
       have HKW2:Hid (Keeps (fun _=>True) wr W2):=by show Keeps _ _ _;rw[<- hW2];exact HKW.out.alloc _
       have HQ1:Hid (W2.heap[q1]?=some (pObj ZqD ZqD)):=by show _=_;rw[<- hW2,<- hq1];exact ZpY W _
       have hqb2:W2.heap[q0]?=some (ntO nt (.slice pc nc cc)):=by rw[<- hW2,Zqb _ _ _ (ZqC hqb)];exact hqb
       have HQR:Hid (q1≠R/\B0<=q1):=by have h5:=HKJ.out.size;have h6:=HSA.out;have h7:=HKW.out.size;have h8:=HRB.out;exact⟨Za,Za⟩
       obtain⟨b0,b1,b2,b3,b4,b5,b6⟩:=ZaA hqb
       obtain⟨d0,d1,d2,d3,d4,d5,d6⟩:=ZaA hqb2
       have HKX:Hid (Keeps (fun b=>b≠R/\b<B0) wA W2):=HKJ.out.trans (HKW2.out.mono fun _ _ _=>trivial)
       have htm2:((nt.time !=(t:Int))=false):=by rw[bne_eq_false_iff_eq];exact htm
       clear htm
       have HLE:=ZqH (Zin (w:=W2) (nv:=.slice pc nc cc) (v:=.slice pv nv cv) HCB.out hnb (hrun.after RunR.stays (HKB.out _ HKX.out).1 ZqI) (Zcf (Zx HNJ.out.1 HKW2.out fun _ _=>trivial) HNJ.out.2) HTJ.out.1 (HH.out.tabs.below (HKB.out _ HKX.out).1 ZqI) (HH.out.vars.below (HKB.out _ HKX.out).1 ZqI))
       clear hat hcell hrun hnb hpc hnc hcc hnt hqb hqb2
       go_wp2_with fail
       refine HLE.out.mono ?_
       rintro e w3 ⟨hE,hk3⟩
       have HK3:Hid (Keeps (fun _=>True) W2 w3):=hk3.mono fun b hb _=>⟨hb,trivial⟩
       have HKY:Hid (Keeps (fun b=>b≠R/\b<B0) wA w3):=HKX.out.trans (HK3.out.mono fun _ _ _=>trivial)
       clear hk3 HLE hW hW2 hq0 hq1 b0 b1 b2 b3 b4 b5 b6 d0 d1 d2 d3 d4 d5 d6 e0 e1 e2 e3 e4 e5 e6
       rcases hE with ⟨m4,z,v4,s4,t4,h1,rfl,h3,hg,hi4⟩ | ⟨en,h1,h2,rfl⟩
       case inr=>
        have h4:Zab ns t j (m3,l3)=.error en:=by rw[HNG2.out,h1]
        exact⟨rfl,.inr ⟨en,HTE.out en (ZZ HLJ.out h4 hjn),h2,rfl⟩,(HKB.out _ HKY.out).1⟩
       have HQ3:Hid (w3.heap[q1]?=some (pObj ZqD ZqD)):=(HK3.out.block _ (ZqC HQ1.out) trivial).trans HQ1.out
       have hwr3:Keeps (fun _=>True) wr w3:=HKW2.out.trans HK3.out
       have HG3:Hid (w3.heap[R]?=some (pObj x3 y3)):=(hwr3.block _ (ZqC HGJ.out) trivial).trans HGJ.out
       have s0:=Zn HQ3.out 0 (v:=.string ZqD) rfl
       have s1:=Zn HQ3.out 1 (v:=.string ZqD) rfl
       have f0:=Zo HQ3.out 0
       have f1:=Zo HQ3.out 1
       obtain⟨W4,hW4⟩:=ZqJ ((w3.setCell ⟨q1,0,none⟩ (.string s4)).setCell ⟨q1,1,none⟩ (.string t4))
       have hq4:W4.heap[q1]?=some (pObj s4 t4):=by rw[<- hW4];exact ZQ HQ3.out _ _
       have hk4:Keeps (fun b=>b≠q1) w3 W4:=by rw[<- hW4];exact((Keeps.refl _ w3).setCell (p:=⟨q1,0,none⟩) (fun h=>h rfl) _).setCell (p:=⟨q1,1,none⟩) (fun h=>h rfl) _
       have HG4:Hid (W4.heap[R]?=some (pObj x3 y3)):=(hk4.block _ (ZqC HG3.out) (Ne.symm HQR.out.1)).trans HG3.out
       have HK4:Hid (Keeps (fun b=>b≠R/\b<B0) wA W4):=HKY.out.trans (hk4.mono fun b _ hb=>by have:=HQR.out.2;omega)
       have HO4:Hid (OwnM W4 B0 v4 m4):=Zar (Zc3 h3 Zd HQ3.out hk4) (by have h5:=(ZqC HQ1.out);have:=HQR.out.2;omega)
       have HA4:Hid (ZX W4 B0 vs fs):=(HAJ.out.keep hwr3 fun _ _=>trivial).part HQ3.out hk4
       have HB4:Hid (W4.ownsRow B0 33 1 (.slice pa na ca) vs.length vs):=Zc3 (Zx HBJ.out hwr3 fun _ _=>trivial) Zd HQ3.out hk4
       have HGF:=ZqH hg
       have HI4:=ZqH hi4
       have H1:=ZqH h1
       have g0:=Zn hq4 0 (v:=.string s4) rfl
       have g1:=Zn hq4 1 (v:=.string t4) rfl
       have r0:=Zn HG4.out 0 (v:=.string x3) rfl
       have r1:=Zn HG4.out 1 (v:=.string y3) rfl
       have HL1:=ZqH HIJ.out.limit
       have HL2:=ZqH hi4.limit
       clear h1 h3 hg hi4 hwr3 hk4 hq4
       go_wp2_with fail
       refine(Zco x3 y3 s4 t4 _ HL1.out.1 HL1.out.2 HL2.out.1 HL2.out.2 (HH.out.tabs.below (HKB.out _ HK4.out).1 ZqI)).mono ?_
       rintro e V5 ⟨x',y',en,rfl,hR,hb⟩
       have HK5:Hid (Keeps (fun _=>True) W4 V5):=hb.keepsS _
       have HA:Hid (Ans (l3*z) x' y' en):=by
        have h1:=hR.both HIJ.out.ok HI4.out.ok
        rwa [HIJ.out.rat,HI4.out.rat] at h1
       clear hb hR hW4 s0 s1 f0 f1 g0 g1 r0 r1
       go_wp2_with fail
       refine(Zat x' y' en _).mono ?_
       rintro e V6 ⟨hE,hb⟩
       have HK6:Hid (Keeps (fun _=>True) W4 V6):=HK5.out.trans (hb.keepsS _)
       have HKZ:Hid (Keeps (fun b=>b≠R/\b<B0) wA V6):=HK4.out.trans (HK6.out.mono fun _ _ _=>trivial)
       clear hb
       rcases hE with ⟨hne,rfl⟩ | ⟨hne,rfl⟩
       ·have HIZ:=ZqH (HA.out.zero hne)
        have HNOK:Hid (Zab ns t j (m3,l3)=.ok (m4,l3*z)):=by
         show _=_
         rw[HNG2.out,H1.out]
         simp only
         unfold mulF
         rw[if_pos HIZ.out.fits]
        have HLJ2:Hid (Zt (Zab ns t) (j+1) (m2,left)=.ok (m4,l3*z)):=by show _=_;rw[Zag HLJ.out,HNOK.out]
        have HT7:Hid (Z1 b m4 (l3*z)):=HNS.out _ HNOK.out
        have HG6:Hid (V6.heap[R]?=some (pObj x3 y3)):=(HK6.out.block _ (ZqC HG4.out) trivial).trans HG4.out
        have s0:=Zn HG6.out 0 (v:=.string x3) rfl
        have s1:=Zn HG6.out 1 (v:=.string y3) rfl
        have f0:=Zo HG6.out 0
        have f1:=Zo HG6.out 1
        obtain⟨W7,hW7⟩:=ZqJ ((V6.setCell ⟨R,0,none⟩ (.string x')).setCell ⟨R,1,none⟩ (.string y'))
        have hk7:Keeps (fun b=>b≠R) V6 W7:=by rw[<- hW7];exact((Keeps.refl _ V6).setCell (p:=⟨R,0,none⟩) (fun h=>h rfl) _).setCell (p:=⟨R,1,none⟩) (fun h=>h rfl) _
        have HG7:Hid (W7.heap[R]?=some (pObj x' y')):=by show _=_;rw[<- hW7];exact ZQ HG6.out _ _
        have HN7:Hid (OwnM W7 B0 v4 m4/\ZaZ m4):=⟨Zc3 (Zx HO4.out HK6.out fun _ _=>trivial) Zd HG6.out hk7,HGF.out⟩
        have HA7:Hid (ZX W7 B0 vs fs):=(HA4.out.keep HK6.out fun _ _=>trivial).part HG6.out hk7
        have HB7:Hid (W7.ownsRow B0 33 1 (.slice pa na ca) vs.length vs):=Zc3 (Zx HB4.out HK6.out fun _ _=>trivial) Zd HG6.out hk7
        have HK7:Hid (Keeps (fun b=>b≠R/\b<B0) wA W7):=HKZ.out.trans (hk7.mono fun b _ hb=>hb.1)
        clear hne hk7
        go_wp2
        go_roundw
        case rel=>exact⟨j+1,m4,l3*z,x',y',by go_num,Za,HLJ2,HT7,HN7,HA7,HB7,HIZ,HG7,HK7⟩
        case measure=>exact Zj
       ·have h4:Zab ns t j (m3,l3)=.error en:=by
         rcases HA.out with ⟨_,h⟩ | ⟨h,_,_,h2⟩
         ·exact Zqx h hne
         ·rw[HNG2.out,H1.out]
          simp only
          unfold mulF
          rw[if_neg h,h2]
        exact⟨rfl,.inr ⟨en,HTE.out en (ZZ HLJ.out h4 hjn),hne,rfl⟩,(HKB.out _ HKZ.out).1⟩
      ·have HNG2:Hid (Zab ns t j (m3,l3)=.ok (m3,l3)):=by
        show _=_
        rw[HNG.out,if_neg htm]
       obtain⟨b0,b1,b2,b3,b4,b5,b6⟩:=ZaA hqb
       have htm2:((nt.time !=(t:Int))=true):=by rw[bne_iff_ne];exact htm
       have HLJ2:Hid (Zt (Zab ns t) (j+1) (m2,left)=.ok (m3,l3)):=by show _=_;rw[Zag HLJ.out,HNG2.out]
       have HN4:Hid (OwnM W B0 (.slice pv nv cv) m3/\ZaZ m3):=⟨Zx HNJ.out.1 HKW.out fun _ _=>trivial,HNJ.out.2⟩
       have HA4:Hid (ZX W B0 vs fs):=HAJ.out.keep HKW.out fun _ _=>trivial
       have HB4:Hid (W.ownsRow B0 33 1 (.slice pa na ca) vs.length vs):=Zx HBJ.out HKW.out fun _ _=>trivial
       have HG4:Hid (W.heap[R]?=some (pObj x3 y3)):=(HKW.out.block _ (ZqC HGJ.out) trivial).trans HGJ.out
       have HK4:Hid (Keeps (fun b=>b≠R/\b<B0) wA W):=HKJ.out.trans (HKW.out.mono fun _ _ _=>trivial)
       clear hat hcell hrun hnb hpc hnc hcc hnt hqb
       go_wp2
       go_roundw
       case rel=>exact⟨j+1,m3,l3,x3,y3,by go_num,Za,HLJ2,HTJ,HN4,HA4,HB4,HIJ,HG4,HK4⟩
       case measure=>exact Zj
     ·obtain rfl:j=n:=Za
      have HLT2:Hid (Zt (ZaG b ns) (t+1) ([],m0,1)=.ok (fs++[m3],m3,l3)):=HTK.out m3 l3 HLJ.out
      have hvl:vs.length<=34:=by rw[HVL.out];omega
      have hownA:(wr.alloc (.cells #[.slice pv nv cv] 33)).ownsRow B0 33 1 (.slice pa na ca) vs.length vs:=HBJ.out.alloc _
      have hm1:vs.length+1<=maxLen:=by unfold maxLen;omega
      have hm2:(vs.length+1)*24<=140737488355328:=Za
      have hm3:B0<=(wr.alloc (.cells #[.slice pv nv cv] 33)).heap.size:=by have:=HKJ.out.size;have:=HSA.out;simp;omega
      have hnews:∀ (j:Nat) (z:Value),([.slice pv nv cv]:List Value)[j]?=some z->(wr.alloc (.cells #[.slice pv nv cv] 33)).cell? ((⟨wr.heap.size,0,none⟩:Addr).add j)=some z:=World.news_of_block (ZpY wr _)
      go_wp2_with (at_builtin;go_loud (refine Zqq _ rfl (.tmp 49) (.tmp 51) 62 rfl B0 33 i0 (.slice none 0 0) 1 24 Tryz.underlying62 hi hz0 hz1 hz2 rfl Zd _ vs.length vs rfl hownA ⟨wr.heap.size,0,none⟩ 1 1 [.slice pv nv cv] rfl rfl hnews (by simp[Value.oneCell']) hm1 hm2 hm3 ?_);intro v' w4 hown4 hgrow4 _)
      have hka:Keeps (fun _=>True) wr (wr.alloc (.cells #[.slice pv nv cv] 33)):=(Keeps.refl _ wr).alloc _
      have hk4:Keeps (fun b=>(Value.slice pa na ca).ownBlock≠some b) (wr.alloc (.cells #[.slice pv nv cv] 33)) w4:=(Keeps.refl _ _).grown hgrow4 (fun r hr h=>h hr)
      have hob:∀ b,b<B0->(Value.slice pa na ca).ownBlock≠some b:=fun b hb he=>by have:=ZbK hownA b he;omega
      have HN8:Hid (OwnM w4 B0 (.slice pv nv cv) m3/\ZaZ m3):=⟨ZhS (Zx HNJ.out.1 hka fun _ _=>trivial) hownA hk4,HNJ.out.2⟩
      have HA8:Hid (ZX w4 B0 (vs++[Value.slice pv nv cv]) (fs++[m3])):=((HAJ.out.keep hka fun _ _=>trivial).row hownA hk4).snoc HN8.out.1 HN8.out.2
      have HB8:Hid (w4.ownsRow B0 33 1 v' (vs++[Value.slice pv nv cv]).length (vs++[Value.slice pv nv cv])):=by
       show World.ownsRow _ _ _ _ _ _ _
       rw[Zqc]
       exact hown4
      have HV8:Hid ((vs++[Value.slice pv nv cv]).length=t+1):=by show _=_;rw[Zqc,HVL.out];rfl
      have HG8:Hid (w4.heap[R]?=some (pObj x3 y3)):=by
       have h1:=(hka.block _ (ZqC HGJ.out) trivial).trans HGJ.out
       exact(hk4.block _ (ZqC h1) (hob R HRB.out)).trans h1
      have HK8:Hid (Keeps (fun b=>b≠R/\b<B0) wA w4):=HKJ.out.trans ((hka.mono fun _ _ _=>trivial).trans (hk4.mono fun b _ hb=>hob b hb.2))
      clear hown4 hgrow4 hownA hnews hm1 hm2 hm3 hka hk4 hob
      go_roundw
      case rel=>exact⟨t+1,fs++[m3],m3,l3,vs++[Value.slice pv nv cv],x3,y3,by go_num,Za,HLT2,HTJ,HN8,HA8,HB8,HV8,HIJ,HG8,HK8⟩
      case measure=>exact Zj
  ·obtain rfl:t=K+1:=Za
   have HFR:Hid (Zae b ns K=.ok (fs,left)):=by
    show _=_
    rw[HFT.out,HLT.out]
   have s0:=Zn HGR.out 0 (v:=.string x) rfl
   have s1:=Zn HGR.out 1 (v:=.string y) rfl
   have f0:=Zo HGR.out 0
   have f1:=Zo HGR.out 1
   go_wp2_with fail
   clear s0 s1 f0 f1
   refine ZA [(1,0),(1,1),(1,2),(0,3)] (Below wr.heap.size wr) (fun i=>i==3)
    Zb Zb (fun j hj=>by have h:4<=j:=hj;simp;omega) Zi (ZpV _ wr).drew ?_
   iterate 3
    refine Zq _ rfl rfl (fun w' hS=>by have hg:=(hS.block _ (ZqC HGR.out)).trans HGR.out;have g0:=Zn hg 0 (v:=.string x) rfl;have g1:=Zn hg 1 (v:=.string y) rfl;exact Ze) ?_
    simp only[Act.put,Zl]
   obtain⟨V,hV⟩:=ZqJ wr.drew
   have HKV:Hid (Keeps (fun _=>True) wr V):=by show Keeps _ _ _;rw[<- hV];exact(Keeps.refl _ wr).drew
   have HGV:Hid (V.heap[R]?=some (pObj x y)):=by show _=_;rw[<- hV];exact HGR.out
   rw[hV]
   have s0:=Zn HGV.out 0 (v:=.string x) rfl
   have s1:=Zn HGV.out 1 (v:=.string y) rfl
   have f0:=Zo HGV.out 0
   have f1:=Zo HGV.out 1
   obtain⟨W7,hW7⟩:=ZqJ ((V.setCell ⟨R,0,none⟩ (.string x)).setCell ⟨R,1,none⟩ (.string y))
   have hk7:Keeps (fun b=>b≠R) V W7:=by rw[<- hW7];exact((Keeps.refl _ V).setCell (p:=⟨R,0,none⟩) (fun h=>h rfl) _).setCell (p:=⟨R,1,none⟩) (fun h=>h rfl) _
   have hg7:W7.heap[R]?=some (pObj x y):=by rw[<- hW7];exact ZQ HGV.out _ _
   have HAV:Hid (ZX W7 w.heap.size vs fs):=⟨HAL.out.1,fun i hi=>by
    obtain⟨h1,h2⟩:=((HAL.out.keep HKV.out fun _ _=>trivial).part HGV.out hk7).2 i hi
    exact⟨Zar h1 (by have:=HB0.out;omega),h2⟩⟩
   have HOV:Hid (W7.ownsRow w.heap.size 33 1 (.slice pa na ca) vs.length vs):=Zar (Zc3 (Zx HAO.out HKV.out fun _ _=>trivial) Zd HGV.out hk7) (by have:=HB0.out;omega)
   have HB7:ZqB w W7:=(HKB.out W7 (HKR.out.trans ((HKV.out.mono fun _ _ _=>trivial).trans (hk7.mono fun b _ hb=>hb.1)))).1
   have q0:=Zn hg7 0 (v:=.string x) rfl
   have q1:=Zn hg7 1 (v:=.string y) rfl
   clear hV hk7 hg7
   refine ZG rfl rfl fun K' hK'=>?_
   go_simp
   refine hK' _ _ (.inl rfl) ?_
   clear hK' K'
   refine Zz ?_
   go_wp2
   exact ZpW (v:=.tuple #[.slice pa na ca,pV x y]) (by simp[results,Tryz.f42,go_sem,q0,q1]) rfl ⟨.inl ⟨fs,left,_,vs,x,y,HFR.out,rfl,HAV.out,HOV.out,HLF.out⟩,HB7.out⟩
end Go.Proofs.YtjmckebecpjjfaaGreatDoor
