/- The parts BelBX, BelBY, BelBZ. -/
import Derived.Test.YtjmckebecpjjfaaGreatDoorH22
set_option maxRecDepth 100000
set_option maxHeartbeats 8000000
set_option linter.unusedVariables false
set_option linter.unusedSimpArgs false
namespace Go.Proofs.YtjmckebecpjjfaaGreatDoor
open Go.RowKit Go.Shelf
attribute [local go_sem ↓] Go.wp_at_zero Go.wp_at_succ
def Zpg (q:Rat) (w:World) (e:Ending) (w':World):Prop:=(∃ s t,e=.returned (pV s t)/\IsP q s t)/\Below w.heap.size w w'
theorem Zpe:∀ m:Nat,m<256->bits BinOp.and IntKind.i64 (m:Int) 1=((m % 2:Nat):Int):=by decide +kernel
theorem ZoK {m:Int} (h0:0<=m) (h1:m<=255) (k:Nat):bits BinOp.and IntKind.i64 (m/2 ^ k) 1=if bitF m k then 1 else 0:=by
 have h2:0<=m/2 ^ k:=Int.ediv_nonneg h0 (Int.le_of_lt (Int.pow_pos Zd))
 have h3:m/2 ^ k<=m:=Int.ediv_le_self _ h0
 have h4:bitF m k=decide (m/2 ^ k % 2=1):=by unfold bitF;rw[Int.toNat_natCast]
 rw[h4]
 obtain⟨v,hv⟩:∃ v:Nat,m/2 ^ k=v:=⟨(m/2 ^ k).toNat,Za⟩
 rw[hv] at h3 ⊢
 rw[Zpe v Za]
 by_cases h:(v:Int) % 2=1
 ·rw[decide_eq_true h,if_pos rfl];omega
 ·rw[decide_eq_false h,if_neg Bool.false_ne_true];omega
theorem Zhu {b:BelP} {n:NoteP} {nv:Value} {p:Pl} {w:World} (hl:RunL w nv n.cells) (hn:ZH b n=true) (hp:PlB p) (hZ:BelZ w) :
  Calls Tryz.prog 58 #[ntV n nv,kPl p] w (Zpg (ZE n p) w):=by
 obtain⟨a,x,y⟩:=p
 obtain⟨tm,mk,cl,⟨i1,i2⟩,⟨o1,o2⟩⟩:=n
 have HE1:Hid (Env w.heap.size w [(w.heap.size+1+1,pObj ZqD ZqD),(w.heap.size+1,plO (a,x,y)),(w.heap.size,ntO ⟨tm,mk,cl,(i1,i2),(o1,o2)⟩ nv)] [] (((w.alloc (ntO ⟨tm,mk,cl,(i1,i2),(o1,o2)⟩ nv)).alloc (plO (a,x,y))).alloc (pObj ZqD ZqD))):=(((Env.start w).push _ rfl).push _ Zc).push _ Zc
 obtain⟨w1,hw1⟩:=ZqJ (((w.alloc (ntO ⟨tm,mk,cl,(i1,i2),(o1,o2)⟩ nv)).alloc (plO (a,x,y))).alloc (pObj ZqD ZqD))
 rw[hw1] at HE1
 obtain⟨c0,c1,c2,c3,c4,c5,c6⟩:=ZaA (HE1.out.block 2 rfl)
 have a0:=HE1.out.cell 1 0 (v:=.int .i64 a) rfl rfl
 have a1:=HE1.out.cell 1 1 (v:=.int .i64 x) rfl rfl
 have a2:=HE1.out.cell 1 2 (v:=.int .i64 y) rfl rfl
 have hab:=hp.1
 dsimp only at hab
 obtain⟨k,rfl⟩:∃ k:Nat,a=k:=⟨a.toNat,Za⟩
 have hk:k<=7:=Za
 have hnb:=hn
 unfold ZH Zbx at hnb
 simp only[Zqt,Zcp] at hnb
 obtain⟨⟨⟨_,hmk⟩,_⟩,⟨hi,_⟩,ho,_⟩:=hnb
 have HIN:=ZqH (ZdZ hi Zd)
 have HON:=ZqH (ZdZ ho Zd)
 have hbb:=ZoK hmk.1 hmk.2 k
 have HL:=ZqH (hl.after RunR.stays HE1.out.base ZqI)
 have hzz:=hZ.below HE1.out.base ZqI
 have z0:=hzz.o0
 have z1:=hzz.o1
 have s0:=HE1.out.cell 0 0 (v:=.string ZqD) rfl rfl
 have s1:=HE1.out.cell 0 1 (v:=.string ZqD) rfl rfl
 have f0:=HE1.out.free 0 0 rfl
 have f1:=HE1.out.free 0 1 rfl
 clear hn hl hZ hmk hi ho hzz hp hab
 cases hbf:bitF mk (k:Int)
 ·rw[hbf,if_neg Bool.false_ne_true] at hbb
  have HF:Hid (ZE ⟨tm,mk,cl,(i1,i2),(o1,o2)⟩ ((k:Int),x,y)=1):=by
   show _=_
   unfold ZE
   rw[if_neg (by show ¬ bitF mk (k:Int)=true;rw[hbf];exact Bool.false_ne_true)]
  clear hbf
  go_enter Tryz.func58,Tryz.ntmps58
  go_wp2_with fail
  have HE9:=ZqH (HE1.out.fill (.string ⟨#[49]⟩) (.string ⟨#[49]⟩))
  have q0:=HE9.out.cell 0 0 (v:=.string ⟨#[49]⟩) rfl rfl
  have q1:=HE9.out.cell 0 1 (v:=.string ⟨#[49]⟩) rfl rfl
  exact ZpW (v:=pV ⟨#[49]⟩ ⟨#[49]⟩) (by simp[results,Tryz.f58,go_sem,q0,q1]) rfl ⟨⟨_,_,rfl,by rw[HF.out];exact ZbD⟩,HE9.out.base⟩
 ·rw[hbf,if_pos rfl] at hbb
  have HBF:=ZqH hbf
  clear hbf
  go_enter Tryz.func58,Tryz.ntmps58
  go_wp2_with fail
  refine(Zh5 HL.out x y).mono ?_
  rintro e w2 ⟨rfl,hb⟩
  have HE2:=ZqH (HE1.out.step hb)
  clear hb c0 c1 c2 c3 c4 c5 c6 a0 a1 a2 z0 z1 s0 s1 f0 f1 hw1 HE1
  obtain⟨c0,c1,c2,c3,c4,c5,c6⟩:=ZaA (HE2.out.block 2 rfl)
  have s0:=HE2.out.cell 0 0 (v:=.string ZqD) rfl rfl
  have s1:=HE2.out.cell 0 1 (v:=.string ZqD) rfl rfl
  have f0:=HE2.out.free 0 0 rfl
  have f1:=HE2.out.free 0 1 rfl
  have HF:Hid (ZE ⟨tm,mk,cl,(i1,i2),(o1,o2)⟩ ((k:Int),x,y)=if hasR cl x y then qP (i1,i2) else qP (o1,o2)):=by
   show _=_
   unfold ZE
   rw[if_pos (by show bitF mk (k:Int)=true;exact HBF.out)]
  cases hh:hasR cl x y
  ·have HFF:Hid (ZE ⟨tm,mk,cl,(i1,i2),(o1,o2)⟩ ((k:Int),x,y)=qP (o1,o2)):=by show _=_;rw[HF.out,hh];rfl
   clear hh
   go_wp2_with fail
   have HE9:=ZqH (HE2.out.fill (.string o1) (.string o2))
   have q0:=HE9.out.cell 0 0 (v:=.string o1) rfl rfl
   have q1:=HE9.out.cell 0 1 (v:=.string o2) rfl rfl
   exact ZpW (v:=pV o1 o2) (by simp[results,Tryz.f58,go_sem,q0,q1]) rfl ⟨⟨_,_,rfl,by rw[HFF.out];exact HON.out⟩,HE9.out.base⟩
  ·have HFF:Hid (ZE ⟨tm,mk,cl,(i1,i2),(o1,o2)⟩ ((k:Int),x,y)=qP (i1,i2)):=by show _=_;rw[HF.out,hh];rfl
   clear hh
   go_wp2_with fail
   have HE9:=ZqH (HE2.out.fill (.string i1) (.string i2))
   have q0:=HE9.out.cell 0 0 (v:=.string i1) rfl rfl
   have q1:=HE9.out.cell 0 1 (v:=.string i2) rfl rfl
   exact ZpW (v:=pV i1 i2) (by simp[results,Tryz.f58,go_sem,q0,q1]) rfl ⟨⟨_,_,rfl,by rw[HFF.out];exact HIN.out⟩,HE9.out.base⟩
def ZbT (g:Pl->Except Int Rat) (x:Pl×Rat):Except Int Rat:=
 match g x.1 with
 | .error e=>.error e
 | .ok r=>mulF x.2 r
def Zd0 (r:Except Int Rat) (e:Ending):Prop:=(∃ q s t,r=.ok q/\e=.returned (pV s t)/\IsP q s t)\/∃ n,r=.error n/\n≠0/\e=Zbv n
theorem Zmw {b:BelP} {n:NoteP} {nv:Value} {p:Pl} {q:Rat} {s t:ByteArray} {B:Nat} {w:World} (hB:w.heap[B]?=some (ntO n nv)) (hl:RunL w nv n.cells) (hn:ZH b n=true) (hp:PlB p) (hq:IsP q s t) (hT:Tabs w) (hZ:BelZ w) :
  Calls Tryz.prog 106 #[maV p s t,.pointer (some ⟨B,0,none⟩)] w (fun e w'=>Zd0 (ZbT (fun p=>.ok (ZE n p)) (p,q)) e/\Below w.heap.size w w'):=by
 have hbl:=(ZqC hB)
 have HP:=ZqH hp
 have HNB:=ZqH hn
 obtain⟨a,x,y⟩:=p
 obtain⟨fq,hfq⟩:=ZqJ (ZE n (a,x,y))
 have HPV:Hid (ZbT (fun p=>.ok (ZE n p)) ((a,x,y),q)=mulF q fq):=by
  show _=_
  unfold ZbT
  simp only[hfq]
 have HFQ:=ZqH hfq
 obtain⟨tm,mk,cl,⟨i1,i2⟩,⟨o1,o2⟩⟩:=n
 have HE1:Hid (Env w.heap.size w [(w.heap.size+1,pObj ZqD ZqD),(w.heap.size,maO (a,x,y) s t)] [] ((w.alloc (maO (a,x,y) s t)).alloc (pObj ZqD ZqD))):=((Env.start w).push _ rfl).push _ Zc
 have HB:=ZqH hB
 have HL:=ZqH hl
 have HT:=ZqH hT
 have HZ:=ZqH hZ
 have HQ:=ZqH hq
 clear hB hl hn hp hq hT hZ hfq
 go_enter Tryz.func106,Tryz.ntmps106
 go_wp2_with fail
 obtain⟨w1,hw1⟩:=ZqJ ((w.alloc (maO (a,x,y) s t)).alloc (pObj ZqD ZqD))
 rw[hw1] at HE1 ⊢
 clear hw1
 refine ZA [(1,0),(1,1),(1,2),(1,3),(0,4),(0,5),(0,6),(1,7),(1,8),(0,9),(0,10)] (Env w.heap.size w [(w.heap.size+1,pObj ZqD ZqD),(w.heap.size,maO (a,x,y) s t)] []) (fun i=>i==10)
  Zb Zb (fun j hj=>by have h:11<=j:=hj;simp;omega) Zi HE1.out.drew ?_
 have HE4:=ZqH HE1.out.drew
 have HL1:=ZqH HQ.out.limit
 iterate 4
  refine Zq _ rfl rfl (fun w' hS=>by obtain⟨c0,c1,c2,c3,c4,c5,c6⟩:=ZaA ((hS.base.block B hbl).trans HB.out);have a0:=hS.cell 1 0 (v:=.int .i64 a) rfl rfl;have a1:=hS.cell 1 1 (v:=.int .i64 x) rfl rfl;have a2:=hS.cell 1 2 (v:=.int .i64 y) rfl rfl;have a3:=hS.cell 1 3 (v:=.string s) rfl rfl;have a4:=hS.cell 1 4 (v:=.string t) rfl rfl;exact Ze) ?_
  simp only[Act.put,Zl]
 refine Zs 64 _ rfl rfl Zf ?_
 have HEC:=HE4
 refine(ZbV (a,x,y) s t _).mono ?_
 rintro e w5 ⟨rfl,hb⟩
 have HE5:=ZqH (HE4.out.step hb)
 refine .inl ⟨_,rfl,HE5.out,?_⟩
 clear hb HEC
 simp only[Act.put,Zl]
 refine Zs 58 _ rfl rfl Zf ?_
 have HEC:=HE5
 refine(Zhu (HL.out.after RunR.stays HE5.out.base ZqI) HNB.out HP.out (HZ.out.below HE5.out.base ZqI)).mono ?_
 rintro e w6 ⟨⟨u,v,rfl,hf⟩,hb⟩
 have HE6:=ZqH (HE5.out.step hb)
 refine .inl ⟨_,rfl,HE6.out,?_⟩
 clear hb HEC
 simp only[Act.put,Zl]
 rw[HFQ.out] at hf
 have HF:=ZqH hf
 have HL2:=ZqH hf.limit
 clear hf
 refine Zs 24 _ rfl rfl Zf ?_
 have HEC:=HE6
 refine(Zco s t u v _ HL1.out.1 HL1.out.2 HL2.out.1 HL2.out.2 (HT.out.below HE6.out.base ZqI)).mono ?_
 rintro e w7 ⟨x',y',en,rfl,hR,hb⟩
 have HE7:=ZqH (HE6.out.step hb)
 refine .inl ⟨_,rfl,HE7.out,?_⟩
 clear hb HEC
 simp only[Act.put,Zl]
 have HA:Hid (Ans (q*fq) x' y' en):=by
  have h1:=hR.both HQ.out.ok HF.out.ok
  rwa [HQ.out.rat,HF.out.rat] at h1
 clear hR
 iterate 2
  refine Zq _ rfl rfl (fun w' hS=>Ze) ?_
  simp only[Act.put,Zl]
 refine Zs 57 _ rfl rfl Zf ?_
 refine(Zat x' y' en _).mono ?_
 rintro e w8 ⟨hE,hb⟩
 have HE8:=ZqH (HE7.out.step hb)
 clear hb
 rcases hE with ⟨hne,rfl⟩ | ⟨hne,rfl⟩
 ·have HIZ:=ZqH (HA.out.zero hne)
  refine .inl ⟨_,rfl,HE8.out,?_⟩
  simp only[Act.put,Zl]
  have r0:=HE8.out.cell 0 0 rfl rfl
  have r1:=HE8.out.cell 0 1 rfl rfl
  have f0:=HE8.out.free 0 0 rfl
  have f1:=HE8.out.free 0 1 rfl
  have HE9:=ZqH (HE8.out.fill (.string x') (.string y'))
  refine ZG rfl rfl fun K hK=>?_
  go_simp
  refine hK _ _ (.inl rfl) ?_
  clear hK K
  refine Zz ?_
  have q0:=HE9.out.cell 0 0 (v:=.string x') rfl rfl
  have q1:=HE9.out.cell 0 1 (v:=.string y') rfl rfl
  go_wp2
  exact ZpW (v:=pV x' y') (by simp[results,Tryz.f106,go_sem,q0,q1]) rfl ⟨.inl ⟨_,_,_,by rw[HPV.out];unfold mulF;rw[if_pos HIZ.out.fits],rfl,HIZ.out⟩,HE9.out.base⟩
 ·refine .inr ⟨_,rfl,?_⟩
  have HM:Hid (mulF q fq=.error 4/\en=4):=by
   rcases HA.out with ⟨_,h⟩ | ⟨h,_,_,h2⟩
   ·exact Zqx h hne
   ·exact⟨by unfold mulF;rw[if_neg h],h2⟩
  exact⟨rfl,.inr ⟨en,by rw[HPV.out,HM.out.1,HM.out.2],hne,rfl⟩,HE8.out.base⟩
theorem ZK.cells {b o n c:Nat} {l:Fl} {w:World} (h:ZK w (.slice (some ⟨b,o,none⟩) n c) l) (hn:l.length=n) {k:Nat} (hk:k<n) :
  ∃ s t,IsP (mA l k).2 s t/\w.cell? ⟨b,o+k*5,none⟩=some (.int .i64 (mA l k).1.1)/\w.cell? ⟨b,o+k*5+1,none⟩=some (.int .i64 (mA l k).1.2.1)/\w.cell? ⟨b,o+k*5+2,none⟩=some (.int .i64 (mA l k).1.2.2)/\w.cell? ⟨b,o+k*5+3,none⟩=some (.string s)/\w.cell? ⟨b,o+k*5+4,none⟩=some (.string t):=by
 obtain⟨b',o',h1,h2⟩:=ZK.at h hn Za
 injection h1 with h1
 injection h1 with h1 h3
 subst h1
 subst h3
 obtain⟨s,t,hi,_,_,_,hc⟩:=h2 k hk
 exact⟨s,t,hi,hc w (ZpV _ w)⟩
def Zai (g:Pl->Except Int Rat) (ms:Fl):Except Int (Fl×Rat):=
 match Zt (Za9 g ms) ms.length [] with
 | .error e=>.error e
 | .ok l=>ZaY ms l
theorem ZnX {g:Pl->Except Int Rat} {ms:Fl} {k:Nat} {l:List Rat} {q:Rat} (h:ZbT g (mA ms k)=.ok q):Za9 g ms k l=.ok (l++[q]):=by
 unfold ZbT at h
 unfold Za9
 cases h1:g (mA ms k).1 with
 | error e=>rw[h1] at h;cases h
 | ok r=>rw[h1] at h;simp only at h ⊢;rw[h]
theorem ZkK {g:Pl->Except Int Rat} {ms:Fl} {k:Nat} {l:List Rat} {n:Int} (h:ZbT g (mA ms k)=.error n):Za9 g ms k l=.error n:=by
 unfold ZbT at h
 unfold Za9
 cases h1:g (mA ms k).1 with
 | error e=>rw[h1] at h;cases h;rfl
 | ok r=>rw[h1] at h;simp only at h ⊢;rw[h]
def ZjP (r:Except Int (Fl×Rat)) (Sk:Nat->Prop) (w:World) (e:Ending) (w':World):Prop:=
 ((∃ ms z v s t,r=.ok (ms,z)/\e=.returned (.tuple #[v,pV s t])/\OwnM w' w.heap.size v ms/\ZaZ ms/\IsP z s t)\/∃ n,r=.error n/\n≠0/\e=Zbv n)/\Keeps (fun b=>b<w.heap.size/\Sk b) w w'
def ZoJ (r:Except Int (Fl×Rat)) (Sk:Nat->Prop) (Inv:World->Prop) (w:World) (e:Ending) (w':World):Prop:=
 ((∃ ms z v s t,r=.ok (ms,z)/\e=.returned (.tuple #[v,pV s t])/\OwnM w' w.heap.size v ms/\ZaZ ms/\IsP z s t)\/∃ n,r=.error n/\n≠0/\e=Zbv n)/\Keeps (fun b=>b<w.heap.size/\Sk b) w w'/\Inv w'
theorem Zoa {w w':World} {B m:Nat} {f:Fl} {v:Value} {ps:List PP} (h:Own w B v ps) (hm:FMap w m f) (hk:Keeps (NotM m) w w'):Own w' B v ps:=by
 obtain⟨h1,h2⟩:=h
 refine⟨h1,?_⟩
 rcases h2 with h2 | ⟨g,cap,cur,hv,hb,hg,hr⟩
 ·exact .inl h2
 ·refine .inr ⟨g,cap,cur,hv,hb,(hk.block g (ZqC hg) ?_).trans hg,hr⟩
  rintro rfl
  obtain⟨⟨es,cl,hb2,_⟩,_⟩:=hm
  rw[hg] at hb2
  cases hb2
theorem Zgo {v:Value} {ms:Fl} {gf:Nat} {caps:Array Value} {g:Pl->Except Int Rat} {Sk:Nat->Prop} {Inv:World->Prop} {w:World} (hent:∀ args w,(callFunc gf args).run Tryz.prog w=.ok (.enter gf args) w)
  (hs:ZI ms) (hp:∀ z ∈ ms,PlB z.1) (hst:∀ W,Keeps (fun b=>b<w.heap.size/\Sk b) w W->ZK W v ms/\Tabs W/\BelZ W) (hSk:∀ b,w.heap.size<=b->Sk b)
  (hI:∀ W W',Inv W->Keeps (fun b=>b<w.heap.size) W W'->Inv W') (h0:Inv w)
  (hprod:∀ k s t W,k<ms.length->IsP (mA ms k).2 s t->Inv W->Keeps (fun b=>b<w.heap.size/\Sk b) w W->Calls Tryz.prog gf (#[maV (mA ms k).1 s t]++caps) W fun e W'=>Zd0 (ZbT g (mA ms k)) e/\Inv W'/\Keeps Sk W W') :
  Calls Tryz.prog 62 #[v,.func (.func gf) #[] caps] w (ZoJ (Zai g ms) Sk Inv w):=by
 obtain⟨n,hn⟩:=ZqJ ms.length
 obtain⟨pm,cm,rfl,hc1,hc2⟩:=(hst w (Keeps.refl _ w)).1.shape hn
 obtain⟨i0,hi,hz0,hz1,hz2⟩:=info_parts Zd4
 have HN:=ZqH hn
 have HST:=ZqH hst
 have HSK:=ZqH hSk
 have HII:=ZqH hI
 have HPR:=ZqH hprod
 have HSO:=ZqH hs
 have HPP:=ZqH hp
 have hnl:n<=528392:=by rw[<- hn];exact Zdm hs hp
 have HAT0:Hid (0<n->∃ b o,pm=some ⟨b,o,none⟩):=fun h0=>by
  obtain⟨b,o,h1,_⟩:=ZK.at (hst w (Keeps.refl _ w)).1 hn h0
  exact⟨b,o,h1⟩
 obtain⟨W0,hW0⟩:=ZqJ (w.alloc (pObj ZqD ZqD))
 have hk0:Keeps (fun _=>True) w W0:=by rw[<- hW0];exact(Keeps.refl _ w).alloc _
 have zz:=(hst W0 (hk0.mono fun _ _ _=>trivial)).2.2
 have z0:=zz.z0
 have z1:=zz.z1
 obtain⟨w1,hw1⟩:=ZqJ (W0.alloc (pObj ⟨#[48]⟩ ⟨#[49]⟩))
 obtain⟨G,hG⟩:=ZqJ W0.heap.size
 have HG:Hid (w.heap.size+1=G):=by show _=_;rw[<- hG,<- hW0];simp
 have HE1:Hid (Env w.heap.size w [(G,pObj ⟨#[48]⟩ ⟨#[49]⟩),(w.heap.size,pObj ZqD ZqD)] [] w1):=by
  rw[<- hw1,<- hW0,<- HG.out]
  exact((Env.start w).push _ rfl).push _ Zc
 have HS1:Hid (w1.heap.size=w.heap.size+2):=by show _=_;rw[<- hw1,<- hW0];simp
 have hI1:Inv w1:=hI w w1 h0 ((HE1.out.base.keepsS _).mono fun _ _ _=>trivial)
 have HI1:=ZqH hI1
 have hmk:∀ (t:TypeId) (w:World),(Instr.makeMap t none).run Tryz.prog w=.ok (.map (some w.heap.size)) (w.alloc (.map #[] 0)):=fun _ _=>rfl
 clear hn hst hSk hI hprod hs hp hk0 zz hI1 h0
 go_enter Tryz.func62,Tryz.ntmps62
 go_wp2_with fail
 clear hw1 hW0 hG z0 z1
 obtain⟨B0,hB0⟩:=ZqJ w1.heap.size
 have HB0:=ZqH hB0
 have HBS:Hid (B0=w.heap.size+2):=by show _=_;rw[<- hB0];exact HS1.out
 clear hB0
 have HW1:Hid (∀ W,Keeps (fun b=>b<B0/\Sk b) w1 W->Keeps (fun b=>b<w.heap.size/\Sk b) w W):=fun W hk=>((HE1.out.base.keepsS (fun b=>b<w.heap.size/\Sk b))).trans (hk.mono fun b _ hb=>⟨by have:=HBS.out;omega,hb.2⟩)
 go_loopw [6,18] (fun uv iv wr=>∃ (k:Nat) (qs:List PP) (l:List Rat),iv=.int .i64 k/\k<=n/\Hid (Zt (Za9 g ms) k []=.ok l)/\Hid (IsL l qs)/\Hid (qs.length=k)/\Hid (Own wr B0 uv qs)/\Hid (Keeps (fun b=>b<B0/\Sk b) w1 wr)/\Hid (Inv wr)) (fun _ iv _=>n-(intOf iv).toNat)
 case atStart=>exact⟨0,[],[],rfl,Zp8 _,rfl,IsL.nil,rfl,Own.nil _ _,Keeps.refl _ _,HI1⟩
 case round=>
  obtain⟨k,qs,l,rfl,hk,HLP,HIL,HQL,HO,HK,HI⟩:=hrel
  obtain⟨po,no,co,rfl⟩:∃ p n c,u6=Value.slice p n c:=by
   obtain⟨p,c,h,_⟩:=HO.out.pl
   exact⟨_,_,_,h⟩
  by_cases hlt:k<n
  ·obtain⟨b0,o0,rfl⟩:=HAT0.out Za
   obtain⟨s,t,hip,e0,e1,e2,e3,e4⟩:=(HST.out wr (HW1.out wr HK.out)).1.cells HN.out hlt
   obtain⟨⟨⟨x0,x1,x2⟩,q⟩,hx⟩:∃ z,mA ms k=z:=⟨_,rfl⟩
   have HX:=ZqH hx
   have hkl:k<ms.length:=by rw[HN.out];exact hlt
   obtain⟨W,hW⟩:=ZqJ (wr.alloc (maO (x0,x1,x2) s t))
   obtain⟨q0,hq0⟩:=ZqJ wr.heap.size
   have hqb:W.heap[q0]?=some (maO (x0,x1,x2) s t):=by rw[<- hW,<- hq0];exact ZpY wr _
   have hkw:∀ S:Nat->Prop,Keeps S wr W:=fun S=>by rw[<- hW];exact(Keeps.refl S wr).alloc _
   have HKW:Hid (Keeps (fun b=>b<B0/\Sk b) w1 W):=HK.out.trans (hkw _)
   have HOW:Hid (Own W B0 (.slice po no co) qs):=Zx HO.out (hkw (fun _=>True)) fun _ _=>trivial
   have hIW:Inv W:=HII.out _ _ HI.out (hkw _)
   have hpr:=HPR.out k s t W hkl hip hIW (HW1.out W HKW.out)
   have HPG:=ZqH (fun r (h:ZbT g (mA ms k)=.ok r)=>(Zag HLP.out).trans (ZnX (l:=l) h))
   have HPE:Hid (∀ en,ZbT g (mA ms k)=.error en->Zai g ms=.error en):=fun en h=>by
    unfold Zai
    rw[ZZ HLP.out (ZkK h) hkl]
   rw[hx] at hpr e0 e1 e2 HPG HPE
   dsimp only at e0 e1 e2 hpr
   have HPR1:=ZqH hpr
   have a0:=Zn hqb 0 (v:=.int .i64 x0) rfl
   have a1:=Zn hqb 1 (v:=.int .i64 x1) rfl
   have a2:=Zn hqb 2 (v:=.int .i64 x2) rfl
   have a3:=Zn hqb 3 (v:=.string s) rfl
   have a4:=Zn hqb 4 (v:=.string t) rfl
   have i0':(0:Int)<=(k:Int):=Za
   have i1':(k:Int)<(n:Int):=Za
   clear hx hip hIW hpr hkw hqb hkl
   go_wp2_with fail
   refine HPR1.out.mono ?_
   rintro e w2 ⟨hE,hi2,hk2⟩
   have HI2:=ZqH hi2
   have HK2:Hid (Keeps (fun b=>b<B0/\Sk b) w1 w2):=HKW.out.trans (hk2.mono fun _ _ hb=>hb.2)
   have HO2:Hid (Own w2 B0 (.slice po no co) qs):=Zx HOW.out hk2 fun b hb=>HSK.out b (by have:=HBS.out;omega)
   clear hi2 hk2 hW hq0 a0 a1 a2 a3 a4 HPR1 e0 e1 e2 e3 e4
   rcases hE with ⟨r,x,y,h1,rfl,hp⟩ | ⟨en,h1,h2,rfl⟩
   case inr=>exact⟨rfl,.inr ⟨en,HPE.out en h1,h2,rfl⟩,HW1.out w2 HK2.out,HI2.out⟩
   have HLN:Hid (Zt (Za9 g ms) (k+1) []=.ok (l++[r])):=HPG.out r h1
   have HIN:Hid (IsL (l++[r]) (qs++[(x,y)])):=HIL.out.snoc hp
   have HQN:Hid ((qs++[(x,y)]).length=k+1):=by show _=_;rw[Zqc,HQL.out];rfl
   clear h1 hp
   have hql:qs.length<=528392:=by rw[HQL.out];omega
   have hownA:(w2.alloc (pObj x y)).ownsRow B0 39 2 (.slice po no co) qs.length (Zam qs):=by
    have h1:w2.ownsRow B0 39 2 (.slice po no co) qs.length (Zam qs):=HO2.out
    exact h1.alloc _
   have hm1:qs.length+1<=maxLen:=by unfold maxLen;omega
   have hm2:(qs.length+1)*32<=140737488355328:=Za
   have hm3:B0<=(w2.alloc (pObj x y)).heap.size:=by have:=HK2.out.size;have:=HB0.out;simp;omega
   have hnews:∀ (j:Nat) (z:Value),([.string x,.string y]:List Value)[j]?=some z->(w2.alloc (pObj x y)).cell? ((⟨w2.heap.size,0,none⟩:Addr).add j)=some z:=World.news_of_block (ZpY w2 _)
   go_wp2_with (at_builtin;go_loud (refine Zqq _ rfl (.tmp 22) (.tmp 26) 154 rfl B0 39 i0 (ZqE ZqD ZqD) 2 32 Tryz.underlying154 hi hz0 hz1 hz2 rfl Zd _ qs.length (Zam qs) rfl hownA ⟨w2.heap.size,0,none⟩ 1 1 [.string x,.string y] rfl rfl hnews (by simp[Value.oneCell']) hm1 hm2 hm3 ?_);intro v' w4 hown4 hgrow4 _)
   have HO4:Hid (Own w4 B0 v' (qs++[(x,y)])):=by
    show w4.ownsRow _ _ _ _ _ _
    rw[Zqc,Zb0]
    exact hown4
   have hk4:Keeps (fun b=>b<B0) w2 w4:=((Keeps.refl _ w2).alloc _).grown hgrow4 (fun r hr=>by have:=ZbK hownA r hr;omega)
   have HK4:Hid (Keeps (fun b=>b<B0/\Sk b) w1 w4):=HK2.out.trans (hk4.mono fun _ _ hb=>hb.1)
   have HI4:Hid (Inv w4):=HII.out _ _ HI2.out (hk4.mono fun b _ hb=>by have:=HBS.out;omega)
   clear hown4 hgrow4 hownA hnews hm1 hm2 hm3 hk4
   go_roundw
   case rel=>exact⟨k+1,qs++[(x,y)],l++[r],by go_num,Za,HLN,HIN,HQN,HO4,HK4,HI4⟩
   case measure=>exact Zj
  ·obtain rfl:k=n:=Za
   obtain rfl:no=k:=by
    obtain⟨p,c,h,_⟩:=HO.out.pl
    injection h with _ h _
    rw[h,HQL.out]
   obtain⟨wA,hwA⟩:∃ z,z=wr:=⟨_,rfl⟩
   subst hwA
   have HLL:Hid (l.length=no):=HIL.out.1.trans HQL.out
   have HGA:Hid (wA.heap[G]?=some (pObj ⟨#[48]⟩ ⟨#[49]⟩)):=by
    have h1:=HE1.out.block 0 rfl
    have:=HG.out
    exact(HK.out.block _ (by have:=HS1.out;omega) ⟨by have:=HBS.out;omega,HSK.out _ Za⟩).trans h1
   have HRA:Hid (wA.heap[w.heap.size]?=some (pObj ZqD ZqD)):=(HK.out.block _ (by have:=HS1.out;omega) ⟨by have:=HBS.out;omega,HSK.out _ ZqI⟩).trans (HE1.out.block 1 rfl)
   have HKS:Hid (∀ X,Keeps (NotM G) wA X->Keeps (fun b=>b<w.heap.size/\Sk b) w X/\Inv X):=fun X hX=>⟨(HW1.out wA HK.out).trans (hX.mono fun b _ hb=>by have:=HG.out;have:=hb.1;show b≠G;omega),HII.out _ _ HI.out (hX.mono fun b _ hb=>by have:=HG.out;show b≠G;omega)⟩
   have HSE:Hid (Zai g ms=ZaY ms l):=by
    show _=_
    unfold Zai
    rw[HN.out,HLP.out]
   clear HE1 HI1 HK HLP hk hlt
   go_wp2_with fail
   go_loopw [31] (fun iv wr=>∃ (j:Nat) (z:Rat) (x y:ByteArray),iv=.int .i64 j/\j<=no/\Hid (Zt (addG l) j 0=.ok z)/\Hid (IsP z x y)/\Hid (wr.heap[G]?=some (pObj x y))/\Hid (Keeps (NotM G) wA wr)) (fun iv _=>no-(intOf iv).toNat)
   case atStart=>exact⟨0,0,⟨#[48]⟩,⟨#[49]⟩,rfl,Zp8 _,rfl,Za5,HGA,Keeps.refl _ _⟩
   case round=>
    obtain⟨j,z,x,y,rfl,hj,HLJ,HZ,HGR,HKR⟩:=hrel
    by_cases hlt:j<no
    ·have HOJ:Hid (Own wr B0 (.slice po no co) qs):=Zx HO.out HKR.out fun b hb=>by have:=HBS.out;have:=HG.out;show b≠G;omega
     obtain⟨bu,ou,rfl,hu⟩:=HOJ.out.pl.now Za
     have hjq:j<qs.length:=by rw[HQL.out];exact hlt
     obtain⟨u0,u1⟩:=hu j hjq
     have HA2:=ZqH (HIL.out.at hjq)
     obtain⟨⟨x2,y2⟩,hx2⟩:∃ z,qs[j]=z:=⟨_,rfl⟩
     rw[hx2] at u0 u1 HA2
     dsimp only at u0 u1 HA2
     obtain⟨q2,hq2⟩:=ZqJ (l.getD j 0)
     rw[hq2] at HA2
     have HQ2:=ZqH hq2
     obtain⟨V,hV⟩:=ZqJ (wr.alloc (pObj x2 y2))
     obtain⟨r,hr⟩:=ZqJ wr.heap.size
     have hvb:V.heap[r]?=some (pObj x2 y2):=by rw[<- hV,<- hr];exact ZpY wr _
     have hkv:∀ S:Nat->Prop,Keeps S wr V:=fun S=>by rw[<- hV];exact(Keeps.refl S wr).alloc _
     have HKV:Hid (Keeps (NotM G) wA V):=HKR.out.trans (hkv _)
     have HGV:Hid (V.heap[G]?=some (pObj x y)):=((hkv (fun _=>True)).block _ (ZqC HGR.out) trivial).trans HGR.out
     have g0:=Zn hvb 0 (v:=.string x2) rfl
     have g1:=Zn hvb 1 (v:=.string y2) rfl
     have s0:=Zn HGV.out 0 (v:=.string x) rfl
     have s1:=Zn HGV.out 1 (v:=.string y) rfl
     have HL1:=ZqH HZ.out.limit
     have HL2:=ZqH HA2.out.limit
     have j0:(0:Int)<=(j:Int):=Za
     have j1:(j:Int)<(no:Int):=Za
     clear hu hx2 hq2 hvb hkv hjq
     go_wp2_with fail
     refine(Zeh x y x2 y2 _ HL1.out.1 HL1.out.2 HL2.out.1 HL2.out.2 (HST.out V (HKS.out V HKV.out).1).2.1).mono ?_
     rintro e V5 ⟨x',y',en,rfl,hR,hb⟩
     have HK5:Hid (Keeps (NotM G) wA V5):=HKV.out.trans (hb.keepsS _)
     have HG5:Hid (V5.heap[G]?=some (pObj x y)):=(hb.block _ (ZqC HGV.out)).trans HGV.out
     have HA:Hid (Ans (z+q2) x' y' en):=by
      have h1:=hR.both HZ.out.ok HA2.out.ok
      rwa [HZ.out.rat,HA2.out.rat] at h1
     clear hb hR hV hr g0 g1 s0 s1 u0 u1
     go_wp2_with fail
     refine(Zat x' y' en _).mono ?_
     rintro e V6 ⟨hE,hb⟩
     have HK6:Hid (Keeps (NotM G) wA V6):=HK5.out.trans (hb.keepsS _)
     have HG6:Hid (V6.heap[G]?=some (pObj x y)):=(hb.block _ (ZqC HG5.out)).trans HG5.out
     clear hb
     rcases hE with ⟨hne,rfl⟩ | ⟨hne,rfl⟩
     ·have HIZ:=ZqH (HA.out.zero hne)
      have HLJ2:Hid (Zt (addG l) (j+1) 0=.ok (z+q2)):=by
       show _=_
       rw[Zag HLJ.out]
       unfold addG
       rw[HQ2.out,if_pos HIZ.out.fits]
      have s0:=Zn HG6.out 0 (v:=.string x) rfl
      have s1:=Zn HG6.out 1 (v:=.string y) rfl
      have f0:=Zo HG6.out 0
      have f1:=Zo HG6.out 1
      have HG7:Hid (((V6.setCell ⟨G,0,none⟩ (.string x')).setCell ⟨G,1,none⟩ (.string y')).heap[G]?=some (pObj x' y')):=ZQ HG6.out _ _
      have HK7:Hid (Keeps (NotM G) wA ((V6.setCell ⟨G,0,none⟩ (.string x')).setCell ⟨G,1,none⟩ (.string y'))):=(HK6.out.setCell (p:=⟨G,0,none⟩) (fun h=>h rfl) _).setCell (p:=⟨G,1,none⟩) (fun h=>h rfl) _
      clear hne
      go_wp2
      go_roundw
      case rel=>exact⟨j+1,z+q2,x',y',by go_num,Za,HLJ2,HIZ,HG7,HK7⟩
      case measure=>exact Zj
     ·have HM:Hid (addG l j z=.error 4/\en=4):=by
       rcases HA.out with ⟨_,h⟩ | ⟨h,_,_,h2⟩
       ·exact Zqx h hne
       ·exact⟨by unfold addG;rw[HQ2.out,if_neg h],h2⟩
      have HER:Hid (Zai g ms=.error en):=by
       show _=_
       rw[HSE.out]
       unfold ZaY
       have h4:addG l j z=.error en:=by rw[HM.out.2];exact HM.out.1
       rw[HLL.out,ZZ HLJ.out h4 hlt]
      exact⟨rfl,.inr ⟨en,HER.out,hne,rfl⟩,HKS.out _ HK6.out⟩
    ·obtain rfl:j=no:=Za
     have zz:=(HST.out wr (HKS.out wr HKR.out).1).2.2
     have z0:=zz.z0
     have z1:=zz.z1
     have s0:=Zn HGR.out 0 (v:=.string x) rfl
     have s1:=Zn HGR.out 1 (v:=.string y) rfl
     clear zz
     by_cases hz:z=0
     ·subst hz
      obtain⟨rfl,rfl⟩:=HZ.out.one Za5
      have HER:Hid (Zai g ms=.error 7):=by
       show _=_
       rw[HSE.out]
       unfold ZaY
       rw[HLL.out,HLJ.out]
       rfl
      go_wp2
      exact⟨rfl,.inr ⟨7,HER.out,Zd,rfl⟩,HKS.out _ HKR.out⟩
     have hno:¬ x.toList=[48]:=fun h=>hz (HZ.out.num_zero.1 (by rw[h];rfl))
     have hnb:(x.toList==[48])=false:=by rw[beq_eq_false_iff_ne];exact hno
     have HZ0:=ZqH hz
     clear hz
     obtain⟨wB,hwB⟩:=ZqJ (wr.alloc (.map #[] 0))
     obtain⟨m,hm⟩:=ZqJ wr.heap.size
     have hkb:∀ S:Nat->Prop,Keeps S wr wB:=fun S=>by rw[<- hwB];exact(Keeps.refl S wr).alloc _
     have HFB:Hid (FMap wB m []):=by rw[<- hwB,<- hm];exact FMap.made wr
     have HGB:Hid (wB.heap[G]?=some (pObj x y)):=((hkb (fun _=>True)).block _ (ZqC HGR.out) trivial).trans HGR.out
     have HRB:Hid (wB.heap[w.heap.size]?=some (pObj ZqD ZqD)):=by
      have h1:=(HKR.out.block _ (ZqC HRA.out) (by have:=HG.out;show w.heap.size≠G;omega)).trans HRA.out
      exact((hkb (fun _=>True)).block _ (ZqC h1) trivial).trans h1
     have HOB:Hid (Own wB B0 (.slice po j co) qs):=Zx (Zx HO.out HKR.out fun b hb=>by have:=HBS.out;have:=HG.out;show b≠G;omega) (hkb (fun _=>True)) fun _ _=>trivial
     have HMG:Hid (G<m/\w.heap.size<m):=by
      have h1:=(ZqC HGR.out)
      have:=HG.out
      exact⟨Za,Za⟩
     have HKT:Hid (∀ X,Keeps (NotM m) wB X->Keeps (fun b=>b<w.heap.size/\Sk b) w X/\Inv X):=fun X hX=>⟨(HKS.out wB (HKR.out.trans (hkb _))).1.trans (hX.mono fun b _ hb=>by have:=HMG.out;have:=hb.1;show b≠m;omega),HII.out _ _ (HKS.out wB (HKR.out.trans (hkb _))).2 (hX.mono fun b _ hb=>by have:=HMG.out;show b≠m;omega)⟩
     clear hkb
     go_wp2_with fail
     clear hwB hm s0 s1 z0 z1 hno hnb
     go_loopw [50] (fun iv wc=>∃ (i:Nat) (f:Fl),iv=.int .i64 i/\i<=j/\Hid (Zt (setG z ms l) i []=.ok f)/\Hid (FMap wc m f)/\Hid (Keeps (NotM m) wB wc)) (fun iv _=>j-(intOf iv).toNat)
     case atStart=>exact⟨0,[],rfl,Zp8 _,rfl,HFB,Keeps.refl _ _⟩
     case round=>
      obtain⟨i,f,rfl,hi',HLI,HFI,HKC⟩:=hrel
      by_cases hlt:i<j
      ·obtain⟨b0,o0,rfl⟩:=HAT0.out Za
       obtain⟨s,t,hip,e0,e1,e2,e3,e4⟩:=(HST.out wr (HKT.out wr HKC.out).1).1.cells HN.out hlt
       have hpl:PlB (mA ms i).1:=by rw[<- Z9 (by rw[HN.out];exact hlt)];exact HPP.out _ (Zqm _)
       obtain⟨⟨⟨x0,x1,x2⟩,q⟩,hx⟩:∃ z,mA ms i=z:=⟨_,rfl⟩
       have HX:=ZqH hx
       rw[hx] at e0 e1 e2 hpl
       dsimp only at e0 e1 e2 hpl
       have HPL:=ZqH hpl
       obtain⟨bu,ou,rfl,hu⟩:=(Zoa HOB.out HFB.out HKC.out).pl.now Za
       have hiq:i<qs.length:=by rw[HQL.out];exact hlt
       obtain⟨u0,u1⟩:=hu i hiq
       have HA3:=ZqH (HIL.out.at hiq)
       obtain⟨⟨x3,y3⟩,hx3⟩:∃ z,qs[i]=z:=⟨_,rfl⟩
       rw[hx3] at u0 u1 HA3
       dsimp only at u0 u1 HA3
       obtain⟨q3,hq3⟩:=ZqJ (l.getD i 0)
       rw[hq3] at HA3
       have HQ3:=ZqH hq3
       obtain⟨V,hV⟩:=ZqJ (wr.alloc (maO (x0,x1,x2) s t))
       obtain⟨q0,hq0⟩:=ZqJ wr.heap.size
       have hqb:V.heap[q0]?=some (maO (x0,x1,x2) s t):=by rw[<- hV,<- hq0];exact ZpY wr _
       have hkv:∀ S:Nat->Prop,Keeps S wr V:=fun S=>by rw[<- hV];exact(Keeps.refl S wr).alloc _
       have HQB:=ZqH hqb
       have HKV:Hid (Keeps (NotM m) wB V):=HKC.out.trans (hkv _)
       have HFV:Hid (FMap V m f):=HFI.out.stay ((hkv (fun _=>True)).block m HFI.out.lt trivial)
       have HGV:Hid (V.heap[G]?=some (pObj x y)):=(HKV.out.block _ (ZqC HGB.out) (by have:=HMG.out;show G≠m;omega)).trans HGB.out
       have HCU:Hid (∀ X,Below V.heap.size V X->X.cell? ⟨bu,ou+i*2,none⟩=some (.string x3)/\X.cell? ⟨bu,ou+i*2+1,none⟩=some (.string y3)/\X.heap[q0]?=some (maO (x0,x1,x2) s t)/\X.heap[G]?=some (pObj x y)):=fun X hX=>by
        have c:∀ {b o:Nat} {v:Value},wr.cell? ⟨b,o,none⟩=some v->X.cell? ⟨b,o,none⟩=some v:=fun hc=>(hX.keepsS (fun _=>True)).cellAt ((hkv (fun _=>True)).cellAt hc trivial) trivial
        exact⟨c u0,c u1,(hX.block _ (ZqC HQB.out)).trans HQB.out,(hX.block _ (ZqC HGV.out)).trans HGV.out⟩
       have HL1:=ZqH HA3.out.limit
       have HL2:=ZqH HZ.out.limit
       have i0':(0:Int)<=(i:Int):=Za
       have i1':(i:Int)<(j:Int):=Za
       clear hu hx hpl hx3 hq3 hkv hqb hiq u0 u1 hip
       go_wp2_with fail
       clear hV hq0 e0 e1 e2 e3 e4
       refine ZA [(1,0),(1,1),(1,3),(1,4),(1,5),(1,6),(1,7),(0,2),(0,8),(1,9),(1,10),(0,11),(0,12)] (Below V.heap.size V) (fun i=>i==12)
        Zb Zb (fun j hj=>by have h:13<=j:=hj;simp;omega) Zi (ZpV _ V).drew ?_
       have HE4:Hid (Below V.heap.size V V.drew):=(ZpV _ V).drew
       iterate 7
        refine Zq _ rfl rfl (fun w' hS=>by obtain⟨u0,u1,hq,hg⟩:=HCU.out w' hS;have a0:=Zn hq 0 (v:=.int .i64 x0) rfl;have a1:=Zn hq 1 (v:=.int .i64 x1) rfl;have a2:=Zn hq 2 (v:=.int .i64 x2) rfl;have a3:=Zn hq 3 (v:=.string s) rfl;have a4:=Zn hq 4 (v:=.string t) rfl;have g0:=Zn hg 0 (v:=.string x) rfl;have g1:=Zn hg 1 (v:=.string y) rfl;exact Ze) ?_
        simp only[Act.put,Zl]
       refine Zs 64 _ rfl rfl Zf ?_
       have HEC:=HE4
       refine(ZbV (x0,x1,x2) s t _).mono ?_
       rintro e w5 ⟨rfl,hb⟩
       have HE5:=ZqH (HE4.out.trans (hb.mono HE4.out.size))
       refine .inl ⟨_,rfl,HE5.out,?_⟩
       clear hb HEC
       simp only[Act.put,Zl]
       refine Zs 20 _ rfl rfl Zf ?_
       have HEC:=HE5
       refine(Zh1 x3 y3 x y _ HL1.out.1 HL1.out.2 HL2.out.1 HL2.out.2 (HST.out _ (HKT.out _ (HKV.out.trans (HE5.out.keepsS _))).1).2.1).mono ?_
       rintro e w6 ⟨x',y',en,rfl,hR,hb⟩
       have HE6:=ZqH (HE5.out.trans (hb.mono HE5.out.size))
       refine .inl ⟨_,rfl,HE6.out,?_⟩
       clear hb HEC
       simp only[Act.put,Zl]
       have HA:Hid (Ans (q3/z) x' y' en):=by
        have h1:=hR.both HA3.out.ok HZ.out.ok
        rw[HA3.out.rat,HZ.out.rat] at h1
        rcases h1 with ⟨h1,_⟩ | ⟨_,h1⟩
        ·exact Zqx h1 HZ0.out
        ·exact h1
       clear hR
       iterate 2
        refine Zq _ rfl rfl (fun w' hS=>Ze) ?_
        simp only[Act.put,Zl]
       refine Zs 57 _ rfl rfl Zf ?_
       refine(Zat x' y' en _).mono ?_
       rintro e V7 ⟨hE,hb⟩
       have HE7:ZqB V V7:=HE6.out.trans (hb.mono HE6.out.size)
       clear hb
       rcases hE with ⟨hne,rfl⟩ | ⟨hne,rfl⟩
       ·have HIZ:=ZqH (HA.out.zero hne)
        refine .inl ⟨_,rfl,HE7.out,?_⟩
        simp only[Act.put,Zl]
        obtain⟨w8,hput,hm8,hk8⟩:=(HFV.out.step HE7.out).put HPL.out Zff HIZ.out
        have HM8:=ZqH hm8
        have HK8:Hid (Keeps (NotM m) wB w8):=HKV.out.trans ((HE7.out.keepsS _).trans hk8)
        have HLI2:Hid (Zt (setG z ms l) (i+1) []=.ok (fset f (x0,x1,x2) (q3/z))):=by
         show _=_
         rw[Zag HLI.out]
         unfold setG
         rw[HQ3.out,HX.out,if_pos HIZ.out.fits]
        refine ZG rfl rfl fun K hK=>?_
        go_simp
        refine hK _ _ (.inl rfl) ?_
        clear hK K hput hm8 hk8 hne
        refine Zz ?_
        go_wp2
        go_roundw
        case rel=>exact⟨i+1,_,by go_num,Za,HLI2,HM8,HK8⟩
        case measure=>exact Zj
       ·refine .inr ⟨_,rfl,?_⟩
        have HM:Hid (setG z ms l i f=.error 4/\en=4):=by
         rcases HA.out with ⟨_,h⟩ | ⟨h,_,_,h2⟩
         ·exact Zqx h hne
         ·exact⟨by unfold setG;rw[HQ3.out,if_neg h],h2⟩
        have HER:Hid (Zai g ms=.error en):=by
         show _=_
         rw[HSE.out]
         unfold ZaY
         have h4:setG z ms l i f=.error en:=by rw[HM.out.2];exact HM.out.1
         rw[HLL.out,HLJ.out]
         simp only
         rw[if_neg HZ0.out,HN.out,ZZ HLI.out h4 hlt]
        exact⟨rfl,.inr ⟨en,HER.out,hne,rfl⟩,HKT.out _ (HKV.out.trans (HE7.out.keepsS _))⟩
      ·obtain rfl:i=j:=Za
       have HGC:Hid (wr.heap[G]?=some (pObj x y)):=(HKC.out.block _ (ZqC HGB.out) (by have:=HMG.out;show G≠m;omega)).trans HGB.out
       have HRC:Hid (wr.heap[w.heap.size]?=some (pObj ZqD ZqD)):=(HKC.out.block _ (ZqC HRB.out) (by have:=HMG.out;show w.heap.size≠m;omega)).trans HRB.out
       go_wp2_with fail
       refine ZA [(1,0),(1,2),(0,1),(1,3),(0,4)] (Below wr.heap.size wr) (fun i=>i==4)
        Zb Zb (fun j hj=>by have h:5<=j:=hj;simp;omega) Zi (ZpV _ wr).drew ?_
       have HE4:Hid (Below wr.heap.size wr wr.drew):=(ZpV _ wr).drew
       iterate 2
        refine Zq _ rfl rfl (fun w' hS=>by have hg:=(hS.block _ (ZqC HGC.out)).trans HGC.out;have g0:=Zn hg 0 (v:=.string x) rfl;have g1:=Zn hg 1 (v:=.string y) rfl;exact Ze) ?_
        simp only[Act.put,Zl]
       refine Zs 94 _ rfl rfl Zf ?_
       refine(ZeI (HFI.out.step HE4.out) (HST.out _ (HKT.out _ (HKC.out.trans (HE4.out.keepsS _))).1).2.2).mono ?_
       rintro e V5 ⟨hE,hb⟩
       have HE5:ZqB wr V5:=HE4.out.trans (hb.mono HE4.out.size)
       have HK5:Hid (Keeps (fun b=>b<w.heap.size/\Sk b) w V5/\Inv V5):=HKT.out _ (HKC.out.trans (HE5.out.keepsS _))
       clear hb
       rcases hE with ⟨ms',v,h1,rfl,h3,hg⟩ | ⟨ne,h1,h3,rfl⟩
       ·have HSR:Hid (Zai g ms=.ok (ms',z)):=by
         show _=_
         rw[HSE.out]
         unfold ZaY
         rw[HLL.out,HLJ.out]
         simp only
         rw[if_neg HZ0.out,HN.out,HLI.out]
         simp only
         rw[h1]
        refine .inl ⟨_,rfl,HE5.out,?_⟩
        simp only[Act.put,Zl]
        iterate 1
         refine Zq _ rfl rfl (fun w' hS=>Ze) ?_
         simp only[Act.put,Zl]
        have HR5:Hid (V5.heap[w.heap.size]?=some (pObj ZqD ZqD)):=(HE5.out.block _ (ZqC HRC.out)).trans HRC.out
        have s0:=Zn HR5.out 0 (v:=.string ZqD) rfl
        have s1:=Zn HR5.out 1 (v:=.string ZqD) rfl
        have f0:=Zo HR5.out 0
        have f1:=Zo HR5.out 1
        obtain⟨V6,hV6⟩:=ZqJ ((V5.setCell ⟨w.heap.size,0,none⟩ (.string x)).setCell ⟨w.heap.size,1,none⟩ (.string y))
        have hr6:V6.heap[w.heap.size]?=some (pObj x y):=by rw[<- hV6];exact ZQ HR5.out _ _
        have hk6:Keeps (fun b=>b≠w.heap.size) V5 V6:=by rw[<- hV6];exact((Keeps.refl _ V5).setCell (p:=⟨w.heap.size,0,none⟩) (fun h=>h rfl) _).setCell (p:=⟨w.heap.size,1,none⟩) (fun h=>h rfl) _
        have HO6:Hid (OwnM V6 w.heap.size v ms'):=Zar (Zx h3 hk6 fun b hb=>by
         have h5:=(ZqC HRC.out)
         have h6:=HE4.out.size
         show b≠w.heap.size
         omega) (by
         have h5:=(ZqC HRC.out)
         have h6:=HE4.out.size
         omega)
        have HK6:Hid (Keeps (fun b=>b<w.heap.size/\Sk b) w V6/\Inv V6):=⟨HK5.out.1.trans (hk6.mono fun b _ hb=>by have:=hb.1;show b≠w.heap.size;omega),HII.out _ _ HK5.out.2 (hk6.mono fun b _ hb=>by show b≠w.heap.size;omega)⟩
        have q0:=Zn hr6 0 (v:=.string x) rfl
        have q1:=Zn hr6 1 (v:=.string y) rfl
        have HGG:=ZqH hg
        clear h1 h3 hg hk6 hr6
        refine ZG rfl rfl fun K hK=>?_
        go_simp
        refine hK _ _ (.inl rfl) ?_
        clear hK K
        refine Zz ?_
        go_wp2
        exact ZpW (v:=.tuple #[v,pV x y]) (by simp[results,Tryz.f62,go_sem,q0,q1]) rfl ⟨.inl ⟨ms',z,v,x,y,HSR.out,rfl,HO6.out,HGG.out,HZ.out⟩,HK6.out⟩
       ·refine .inr ⟨_,rfl,?_⟩
        have HER:Hid (Zai g ms=.error ne):=by
         show _=_
         rw[HSE.out]
         unfold ZaY
         rw[HLL.out,HLJ.out]
         simp only
         rw[if_neg HZ0.out,HN.out,HLI.out]
         simp only
         rw[h1]
        exact⟨rfl,.inr ⟨ne,HER.out,h3,rfl⟩,HK5.out⟩
theorem Zl5 {v:Value} {ms:Fl} {gf:Nat} {caps:Array Value} {g:Pl->Except Int Rat} {Sk:Nat->Prop} {Inv:World->Prop} {w:World} (hent:∀ args w,(callFunc gf args).run Tryz.prog w=.ok (.enter gf args) w)
  (hs:ZI ms) (hp:∀ z ∈ ms,PlB z.1) (hst:∀ W,Keeps (fun b=>b<w.heap.size/\Sk b) w W->ZK W v ms/\Tabs W/\BelZ W) (hSk:∀ b,w.heap.size<=b->Sk b)
  (hI:∀ W W',Inv W->Keeps (fun b=>b<w.heap.size) W W'->Inv W') (h0:Inv w)
  (hprod:∀ k s t W,k<ms.length->IsP (mA ms k).2 s t->Inv W->Keeps (fun b=>b<w.heap.size/\Sk b) w W->Calls Tryz.prog gf (#[maV (mA ms k).1 s t]++caps) W fun e W'=>Zd0 (ZbT g (mA ms k)) e/\Inv W'/\Keeps Sk W W') :
  Calls Tryz.prog 62 #[v,.func (.func gf) #[] caps] w (ZjP (Zai g ms) Sk w):=
 (Zgo hent hs hp hst hSk hI h0 hprod).mono fun _ _ h=>⟨h.1,h.2.1⟩
theorem Zjn (ms:Fl) (n:NoteP):ZaF ms n=Zai (fun p=>.ok (ZE n p)) ms:=rfl
theorem Zin {b:BelP} {n:NoteP} {nv v:Value} {ms:Fl} {w:World} (hb:ZF b=true) (hn:ZH b n=true) (hl:RunL w nv n.cells) (hm:ZK w v ms) (hms:MassOk b ms) (hT:Tabs w) (hZ:BelZ w) :
  Calls Tryz.prog 52 #[v,ntV n nv] w (ZjP (ZaF ms n) (fun _=>True) w):=by
 obtain⟨pm,cm,rfl,_,_⟩:=hm.shape rfl
 obtain⟨nm,hnm⟩:=ZqJ ms.length
 rw[hnm] at hm ⊢
 have hok:=Zb6 hb
 have HE1:Hid (Env w.heap.size w [(w.heap.size+1,pObj ZqD ZqD),(w.heap.size,ntO n nv)] [] ((w.alloc (ntO n nv)).alloc (pObj ZqD ZqD))):=((Env.start w).push _ rfl).push _ Zc
 obtain⟨w1,hw1⟩:=ZqJ ((w.alloc (ntO n nv)).alloc (pObj ZqD ZqD))
 rw[hw1] at HE1
 have base:∀ W,Keeps (fun b=>b<w1.heap.size) w1 W->Below w.heap.size w W:=fun W hk=>HE1.out.base.trans ((hk.toBelow ZqI).mono HE1.out.own)
 have HS:=ZqH (Zl5 (w:=w1) (Sk:=fun _=>True) (Inv:=fun W=>Keeps (fun b=>b<w1.heap.size) w1 W) (g:=fun p=>.ok (ZE n p)) (caps:=#[.pointer (some ⟨w.heap.size,0,none⟩)]) (v:=.slice pm nm cm)
  (enters_of Tryz.func106 Zb rfl) hms.sorted (fun z hz=>ZbC hok (hms.plc z hz))
  (fun W hk=>have hb:=base W (hk.mono fun b _ hb=>⟨hb,trivial⟩);⟨hm.after ZaQ.stays hb ZqI,hT.below hb ZqI,hZ.below hb ZqI⟩) (fun _ _=>trivial)
  (fun W W' h hk=>h.trans (hk.mono fun b hb h=>h)) (Keeps.refl _ _)
  (fun k s t W hk hi hI _=>by
   have hb:=base W hI
   have hpl:PlB (mA ms k).1:=by rw[<- Z9 hk];exact ZbC hok (hms.plc _ (Zqm _))
   refine(Zmw ((hI.block _ (HE1.out.lt 1 rfl) (HE1.out.lt 1 rfl)).trans (HE1.out.block 1 rfl)) (hl.after RunR.stays hb ZqI) hn hpl hi (hT.below hb ZqI) (hZ.below hb ZqI)).mono ?_
   rintro e W' ⟨h1,h2⟩
   exact⟨h1,hI.trans ((h2.keepsS _).mono fun b _ hb=>hb),h2.keepsS _⟩))
 rw[<- Zjn] at HS
 clear hb hn hl hm hms hT hZ hok base hnm
 go_enter Tryz.func52,Tryz.ntmps52
 go_wp2_with fail
 refine HS.out.mono ?_
 rintro e w2 ⟨hE,hk⟩
 have HE2:Hid (Env w.heap.size w [(w.heap.size+1,pObj ZqD ZqD),(w.heap.size,ntO n nv)] [] w2):=HE1.out.step ((hk.mono fun b _ hb=>⟨hb,trivial⟩).toBelow ZqI)
 clear hk HS
 rcases hE with ⟨ms',z,v,s,t,h1,rfl,h3,hg,hi⟩ | ⟨en,h1,h2,rfl⟩
 ·have s0:=HE2.out.cell 0 0 (v:=.string ZqD) rfl rfl
  have s1:=HE2.out.cell 0 1 (v:=.string ZqD) rfl rfl
  have f0:=HE2.out.free 0 0 rfl
  have f1:=HE2.out.free 0 1 rfl
  have HE3:=ZqH (HE2.out.fill (.string s) (.string t))
  have HO:Hid (OwnM ((w2.setCell ⟨w.heap.size+1,0,none⟩ (.string s)).setCell ⟨w.heap.size+1,1,none⟩ (.string t)) w.heap.size v ms'):=by
   have hk:Keeps (fun b=>b≠w.heap.size+1) w2 ((w2.setCell ⟨w.heap.size+1,0,none⟩ (.string s)).setCell ⟨w.heap.size+1,1,none⟩ (.string t)):=((Keeps.refl _ w2).setCell (p:=⟨w.heap.size+1,0,none⟩) (fun h=>h rfl) _).setCell (p:=⟨w.heap.size+1,1,none⟩) (fun h=>h rfl) _
   have h5:=HE1.out.lt 0 rfl
   exact Zar (Zx h3 hk fun g hg=>Za) Za
  have H1:=ZqH (Zqy h1 (Zqy hg hi))
  clear h1 h3 hg hi
  go_wp2
  have q0:=HE3.out.cell 0 0 (v:=.string s) rfl rfl
  have q1:=HE3.out.cell 0 1 (v:=.string t) rfl rfl
  exact ZpW (v:=.tuple #[v,pV s t]) (by simp[results,Tryz.f52,go_sem,q0,q1]) rfl ⟨.inl ⟨ms',z,v,s,t,H1.out.1,rfl,HO.out,H1.out.2.1,H1.out.2.2⟩,(HE3.out.base.keepsS _).mono fun _ _ _=>trivial⟩
 ·exact⟨rfl,.inr ⟨en,h1,h2,rfl⟩,(HE2.out.base.keepsS _).mono fun _ _ _=>trivial⟩
end Go.Proofs.YtjmckebecpjjfaaGreatDoor
