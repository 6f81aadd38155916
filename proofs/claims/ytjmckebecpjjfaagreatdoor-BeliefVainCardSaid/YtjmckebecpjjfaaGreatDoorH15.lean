/- The parts BelN, BelO, BelQ, BelF, StepsF. -/
import Derived.Test.YtjmckebecpjjfaaGreatDoorH14
set_option maxRecDepth 100000
set_option maxHeartbeats 4000000
set_option linter.unusedVariables false
set_option linter.unusedSimpArgs false
namespace Go.Proofs.YtjmckebecpjjfaaGreatDoor
open Go.RowKit Go.Shelf
attribute [local go_sem ↓] Go.wp_at_zero Go.wp_at_succ
def Sz2 (n:NoteP):Prop:=Sz1 n.inn/\Sz1 n.out
theorem Zo5:okP ⟨#[49]⟩ ⟨#[49]⟩=true:=ZbD.ok
theorem ZnR:ratP ⟨#[49]⟩ ⟨#[49]⟩=1:=ZbD.rat
theorem Zj3 {a b:Rat} : sgnR a b<=0<->a<=b:=by
 unfold sgnR
 by_cases h1:a<b
 ·simp only[h1,if_true]
  exact⟨fun _=>Rat.le_of_lt h1,fun _=>Zd⟩
 ·by_cases h2:a=b
  ·simp only[h1,h2,if_true,if_false]
   simp
  ·simp only[h1,h2,if_false]
   constructor
   ·intro h;exact Zqx h Zd
   ·intro h;exact Zqx (Rat.lt_of_le_of_ne h h2) h1
theorem ZgE (s t:ByteArray) (hs:s.size<=1000000) (ht:t.size<=1000000) (w:World) (hz:BelZ w):Calls Tryz.prog 104 #[pV s t] w (ZB w (Zbx (s,t))):=by
 have HE1:Hid (Env w.heap.size w [(w.heap.size,pObj s t)] [] (w.alloc (pObj s t))):=(Env.start w).push _ rfl
 have HZ:=ZqH hz
 clear hz
 go_enter Tryz.func104,Tryz.ntmps104
 go_wp2_with fail
 refine(Zcn 9 s t hs ht _).mono ?_
 rintro e w2 ⟨rfl,hb⟩
 have HE2:=ZqH (HE1.out.step hb)
 clear hb HE1
 have q0:=HE2.out.cell 0 0 (v:=.string s) rfl rfl
 have q1:=HE2.out.cell 0 1 (v:=.string t) rfl rfl
 have hz2:=HZ.out.below HE2.out.base ZqI
 have o0:=hz2.o0
 have o1:=hz2.o1
 clear hz2
 cases h1:ZW 9 (s,t)
 ·have HR:Hid (Zbx (s,t)=false):=by show _=_;unfold Zbx;rw[h1];rfl
  clear h1
  go_wp2
  go_ret
  exact⟨by rw[HR.out];rfl,HE2.out.base⟩
 ·have HR:Hid (Zbx (s,t)=decide (qP (s,t)<=1)):=by show _=_;unfold Zbx;rw[h1];rfl
  have HOK:=ZqH (Zbr.1 h1).2.2
  clear h1
  go_wp2_with fail
  refine(Zgu s t ⟨#[49]⟩ ⟨#[49]⟩ _ hs ht Zd Zd).mono ?_
  rintro e w3 ⟨n,rfl,hA,hb⟩
  have HE3:=ZqH (HE2.out.step hb)
  have hn:n=sgnR (qP (s,t)) 1:=by
   rcases hA with ⟨h,_⟩ | ⟨_,h⟩
   ·have h2:okP s t=true:=HOK.out
    rw[h2,Zo5] at h
    cases h
   ·rw[ZnR] at h
    exact h
  clear hb HE2 hA q0 q1 o0 o1
  by_cases hq:qP (s,t)<=1
  ·have hn0:n<=0:=by rw[hn];exact Zj3.2 hq
   have HR2:Hid (Zbx (s,t)=true):=HR.out.trans (decide_eq_true hq)
   clear hn hq
   go_wp2
   go_ret
   exact⟨by rw[HR2.out];simp[hn0],HE3.out.base⟩
  ·have hn0:¬ n<=0:=by rw[hn];exact fun h=>hq (Zj3.1 h)
   have HR2:Hid (Zbx (s,t)=false):=HR.out.trans (decide_eq_false hq)
   clear hn hq
   go_wp2
   go_ret
   exact⟨by rw[HR2.out];simp[hn0],HE3.out.base⟩
abbrev ntV (n:NoteP) (v:Value):Value:=.agg #[.int .i64 n.time,.int .i64 n.mask,v,.string n.inn.1,.string n.inn.2,.string n.out.1,.string n.out.2]
abbrev ntO (n:NoteP) (v:Value):Obj:=.cells #[.int .i64 n.time,.int .i64 n.mask,v,.string n.inn.1,.string n.inn.2,.string n.out.1,.string n.out.2] 49
theorem ZaA {w:World} {B:Nat} {n:NoteP} {v:Value} (h:w.heap[B]?=some (ntO n v)) :
  w.cell? ⟨B,0,none⟩=some (.int .i64 n.time)/\w.cell? ⟨B,1,none⟩=some (.int .i64 n.mask)/\w.cell? ⟨B,2,none⟩=some v/\w.cell? ⟨B,3,none⟩=some (.string n.inn.1)/\w.cell? ⟨B,4,none⟩=some (.string n.inn.2)/\
   w.cell? ⟨B,5,none⟩=some (.string n.out.1)/\w.cell? ⟨B,6,none⟩=some (.string n.out.2):=
 ⟨Zn h 0 rfl,Zn h 1 rfl,Zn h 2 rfl,Zn h 3 rfl,Zn h 4 rfl,Zn h 5 rfl,Zn h 6 rfl⟩
theorem ZdY {b:BelP} {n:NoteP} {lv sv nv:Value} {w:World} (hl:RunL w lv b.sea.land) {ps:Option Addr} {ns cs:Nat} (hsv:sv=.slice ps ns cs) (hn:RunL w nv n.cells) (hz:Sz2 n) (hZ:BelZ w) :
  Calls Tryz.prog 50 #[belV b lv sv,ntV n nv] w (ZB w (ZH b n)):=by
 subst hsv
 obtain⟨pg,cg,rfl,_,_⟩:=hl.shape rfl
 obtain⟨ng,hng⟩:=ZqJ b.sea.land.length
 obtain⟨pn,cn,rfl,_,_⟩:=hn.shape rfl
 obtain⟨nn,hnn⟩:=ZqJ n.cells.length
 rw[hng] at hl ⊢
 rw[hnn] at hn ⊢
 have HL:=ZqH hl
 have HN:=ZqH hn
 have HZ:=ZqH hz
 have HZZ:=ZqH hZ
 have HE1:Hid (Env w.heap.size w [(w.heap.size+1,ntO n (.slice pn nn cn)),(w.heap.size,belO b (.slice pg ng cg) (.slice ps ns cs))] [] ((w.alloc (belO b (.slice pg ng cg) (.slice ps ns cs))).alloc (ntO n (.slice pn nn cn)))):=((Env.start w).push _ rfl).push _ Zc
 clear hl hn hz hZ hng hnn
 go_enter Tryz.func50,Tryz.ntmps50
 go_wp2_with fail
 refine(ZbG _ _ _ _).mono ?_
 rintro e w2 ⟨rfl,hb⟩
 have HE2:=ZqH (HE1.out.step hb)
 clear hb HE1
 obtain⟨g0,g1,g2,g3,g4⟩:=Zv (HE2.out.block 1 rfl)
 obtain⟨c0,c1,c2,c3,c4,c5,c6⟩:=ZaA (HE2.out.block 0 rfl)
 cases h1:inG 0 n.time 32
 ·skip
  have HNO:Hid (ZH b n=false):=by unfold ZH;rw[h1];rfl
  go_wp2
  exact ZpW (v:=.bool false) (by simp[results,Tryz.f50,go_sem]) rfl ⟨by rw[HNO.out],HE2.out.base⟩
 have H1:=ZqH h1
 clear h1
 go_wp2_with fail
 refine(ZbG _ _ _ _).mono ?_
 rintro e w3 ⟨rfl,hb⟩
 have HE3:=ZqH (HE2.out.step hb)
 clear hb HE2 g0 g1 g2 g3 g4 c0 c1 c2 c3 c4 c5 c6
 obtain⟨g0,g1,g2,g3,g4⟩:=Zv (HE3.out.block 1 rfl)
 obtain⟨c0,c1,c2,c3,c4,c5,c6⟩:=ZaA (HE3.out.block 0 rfl)
 cases h2:inG 0 n.mask 255
 ·skip
  have HNO:Hid (ZH b n=false):=by unfold ZH;rw[H1.out,h2];rfl
  go_wp2
  exact ZpW (v:=.bool false) (by simp[results,Tryz.f50,go_sem]) rfl ⟨by rw[HNO.out],HE3.out.base⟩
 have H2:=ZqH h2
 clear h2
 go_wp2_with fail
 refine(ZhM (g:=b.sea) (l:=n.cells) (HL.out.after RunR.stays HE3.out.base ZqI) (HN.out.after RunR.stays HE3.out.base ZqI)).mono ?_
 rintro e w4 ⟨rfl,hb⟩
 have HE4:=ZqH (HE3.out.step hb)
 clear hb HE3 g0 g1 g2 g3 g4 c0 c1 c2 c3 c4 c5 c6
 obtain⟨g0,g1,g2,g3,g4⟩:=Zv (HE4.out.block 1 rfl)
 obtain⟨c0,c1,c2,c3,c4,c5,c6⟩:=ZaA (HE4.out.block 0 rfl)
 cases h3:ZaR b.sea && ZaM b.sea n.cells
 ·simp only[Bool.false_eq_true,if_false]
  have HNO:Hid (ZH b n=false):=by unfold ZH;rw[H1.out,H2.out,h3];rfl
  go_wp2
  exact ZpW (v:=.bool false) (by simp[results,Tryz.f50,go_sem]) rfl ⟨by rw[HNO.out],HE4.out.base⟩
 simp only[if_true]
 have HS:Hid (ZH b n=(Zbx n.inn && Zbx n.out)):=by show _=_;unfold ZH;rw[H1.out,H2.out,h3];rfl
 clear h3
 have HF1:=ZqH (ZgE n.inn.1 n.inn.2 HZ.out.1.1 HZ.out.1.2 w4 (HZZ.out.below HE4.out.base ZqI))
 have hp1:Hid ((n.inn.1,n.inn.2)=n.inn):=rfl
 rw[hp1.out] at HF1
 go_wp2_with fail
 refine HF1.out.mono ?_
 rintro e w5 ⟨rfl,hb⟩
 have HE5:=ZqH (HE4.out.step hb)
 clear hb HE4 HF1 g0 g1 g2 g3 g4 c0 c1 c2 c3 c4 c5 c6 hp1
 obtain⟨g0,g1,g2,g3,g4⟩:=Zv (HE5.out.block 1 rfl)
 obtain⟨c0,c1,c2,c3,c4,c5,c6⟩:=ZaA (HE5.out.block 0 rfl)
 obtain⟨d1,hd1⟩:=ZqJ (Zbx n.inn)
 rw[hd1] at HS
 rw[hd1]
 clear hd1
 cases d1
 ·skip
  have HNO:Hid (ZH b n=false):=HS.out.trans rfl
  go_wp2
  exact ZpW (v:=.bool false) (by simp[results,Tryz.f50,go_sem]) rfl ⟨by rw[HNO.out],HE5.out.base⟩
 have HF2:=ZqH (ZgE n.out.1 n.out.2 HZ.out.2.1 HZ.out.2.2 w5 (HZZ.out.below HE5.out.base ZqI))
 have hp1:Hid ((n.out.1,n.out.2)=n.out):=rfl
 rw[hp1.out] at HF2
 go_wp2_with fail
 refine HF2.out.mono ?_
 rintro e w6 ⟨rfl,hb⟩
 have HE6:=ZqH (HE5.out.step hb)
 clear hb HE5 HF2 g0 g1 g2 g3 g4 c0 c1 c2 c3 c4 c5 c6 hp1
 have HS2:Hid (ZH b n=Zbx n.out):=HS.out.trans rfl
 go_wp2
 exact ZpW (v:=.bool (Zbx n.out)) (by simp[results,Tryz.f50,go_sem]) rfl ⟨by rw[HS2.out],HE6.out.base⟩
theorem Zbm.at {l:List NoteP} {p:Option Addr} {n c:Nat} {w:World} (h:Zbm w (.slice p n c) l) (hn:l.length=n) (h0:0<n) :
  ∃ b o,p=some ⟨b,o,none⟩/\∃ (p0:Nat->Option Addr) (n0 c0:Nat->Nat),
   ∀ k,k<n->(∀ W,Below w.heap.size w W->W.cell? ⟨b,o+k*7,none⟩=some (.int .i64 (ntA l k).time)/\W.cell? ⟨b,o+k*7+1,none⟩=some (.int .i64 (ntA l k).mask)/\W.cell? ⟨b,o+k*7+2,none⟩=some (.slice (p0 k) (n0 k) (c0 k))/\
    W.cell? ⟨b,o+k*7+3,none⟩=some (.string (ntA l k).inn.1)/\W.cell? ⟨b,o+k*7+4,none⟩=some (.string (ntA l k).inn.2)/\W.cell? ⟨b,o+k*7+5,none⟩=some (.string (ntA l k).out.1)/\W.cell? ⟨b,o+k*7+6,none⟩=some (.string (ntA l k).out.2))/\
    RunL w (.slice (p0 k) (n0 k) (c0 k)) (ntA l k).cells/\I64 (ntA l k).time/\I64 (ntA l k).mask:=by
 obtain⟨b,o,h1,hbl,h2⟩:=LL.at Zdy.stays h hn h0
 have each:∀ k,k<n->∃ z:Option Addr×Nat×Nat,w.cell? ⟨b,o+k*7,none⟩=some (.int .i64 (ntA l k).time)/\w.cell? ⟨b,o+k*7+1,none⟩=some (.int .i64 (ntA l k).mask)/\w.cell? ⟨b,o+k*7+2,none⟩=some (.slice z.1 z.2.1 z.2.2)/\
   w.cell? ⟨b,o+k*7+3,none⟩=some (.string (ntA l k).inn.1)/\w.cell? ⟨b,o+k*7+4,none⟩=some (.string (ntA l k).inn.2)/\w.cell? ⟨b,o+k*7+5,none⟩=some (.string (ntA l k).out.1)/\w.cell? ⟨b,o+k*7+6,none⟩=some (.string (ntA l k).out.2)/\
   RunL w (.slice z.1 z.2.1 z.2.2) (ntA l k).cells/\I64 (ntA l k).time/\I64 (ntA l k).mask:=fun k hk=>by
  obtain⟨a1,a2,⟨va,a3,a4⟩,a5,a6⟩:=h2 w (ZpV _ w) k Za
  rw[Zbn Za] at a1 a2 a4 a5 a6
  obtain⟨pa,ca,rfl,_⟩:=a4.shape rfl
  exact⟨(pa,_,ca),a1.1,a2.1,a3,a5.1,a5.2,a6.1,a6.2,a4,a1.2,a2.2⟩
 refine⟨b,o,h1,fun k=>if hk:k<n then (each k hk).choose.1 else none,fun k=>if hk:k<n then (each k hk).choose.2.1 else 0,fun k=>if hk:k<n then (each k hk).choose.2.2 else 0,fun k hk=>?_⟩
 obtain⟨g1,g2,g3,g4,g5,g6,g7,g8,g9⟩:=(each k hk).choose_spec
 simp only[dif_pos hk]
 exact⟨fun W hW=>⟨ZS g1 hbl hW ZqI,ZS g2 hbl hW ZqI,ZS g3 hbl hW ZqI,ZS g4 hbl hW ZqI,ZS g5 hbl hW ZqI,ZS g6 hbl hW ZqI,ZS g7 hbl hW ZqI⟩,g8,g9⟩
def LimN (l:List NoteP):Prop:=∀ n ∈ l,Sz2 n
theorem LimN.note {l:List NoteP} (h:LimN l) {k:Nat} (hk:k<l.length):Sz2 (ntA l k):=by rw[<- Zbn hk];exact h _ (Zqm hk)
theorem Zjo {b:BelP} {n:NoteP} {lv sv nv:Value} {w:World} (hl:RunL w lv b.sea.land) {ps:Option Addr} {ns cs B:Nat} (hsv:sv=.slice ps ns cs) (hn:RunL w nv n.cells) (hz:Sz2 n) (hZ:BelZ w) (hB:w.heap[B]?=some (belO b lv sv)) :
  Calls Tryz.prog 96 #[ntV n nv,.pointer (some ⟨B,0,none⟩)] w (ZB w (!ZH b n)):=by
 subst hsv
 have HAL:=ZqH ((ZpV w.heap.size w).alloc ZqI (ntO n nv))
 have HC:=ZqH (ZdY (hl.after RunR.stays HAL.out ZqI) (rfl:Value.slice ps ns cs=_) (hn.after RunR.stays HAL.out ZqI) hz (hZ.below HAL.out ZqI))
 obtain⟨pg,cg,rfl,_,_⟩:=hl.shape rfl
 obtain⟨pn,cn,rfl,_,_⟩:=hn.shape rfl
 have hbl:=(ZqC hB)
 obtain⟨g0,g1,g2,g3,g4⟩:=Zv ((HAL.out.block B hbl).trans hB)
 obtain⟨r,hr⟩:=ZqJ (ZH b n)
 rw[hr] at HC ⊢
 clear hl hn hz hZ hB hr hbl
 go_enter Tryz.func96,Tryz.ntmps96
 go_wp2_with fail
 refine HC.out.mono ?_
 rintro e w2 ⟨rfl,hb⟩
 have HB2:=ZqH (HAL.out.trans (hb.mono HAL.out.size))
 clear hb HC HAL g0 g1 g2 g3 g4
 go_wp2
 go_ret
 exact⟨rfl,HB2.out⟩
theorem Zju {n:NoteP} {nv:Value} {steps:Int} {B:Nat} {w:World} (hB:w.cell? ⟨B,0,none⟩=some (.int .i64 steps)) :
  Calls Tryz.prog 97 #[ntV n nv,.pointer (some ⟨B,0,none⟩)] w (ZB w (decide (steps<n.time))):=by
 have hBl:=Zqf _ _ hB
 have HAL:=ZqH ((ZpV w.heap.size w).alloc ZqI (ntO n nv))
 have k0:(w.alloc (ntO n nv)).cell? ⟨B,0,none⟩=some (.int .i64 steps):=(Z8 _ _ _ hBl).trans hB
 clear hB
 go_enter Tryz.func97,Tryz.ntmps97
 go_wp2
 go_ret
 exact⟨rfl,HAL.out⟩
abbrev inO (n:Int):Obj:=.cells #[.int .i64 n] 3
structure NotesIn (l:List NoteP) (nv:Value) (w:World):Prop where
 list:Zbm w nv l
 size:LimN l
theorem NotesIn.below {l:List NoteP} {nv:Value} {w w':World} {B:Nat} (h:NotesIn l nv w) (hb:Below B w w') (hB:w.heap.size<=B):NotesIn l nv w':=⟨h.list.after Zdy.stays hb hB,h.size⟩
theorem ZdO {b:BelP} {lv sv nv:Value} {l:List NoteP} {steps:Int} {w:World} (h:BelIn b lv sv w) (hz:LimB b) (hl:NotesIn l nv w) :
  Calls Tryz.prog 40 #[belV b lv sv,nv,.int .i64 steps] w (ZfZ w (Z3 b l steps)):=by
 obtain⟨ps,cs,hsv,_,_⟩:=h.scenes.shape rfl
 obtain⟨pg,cg,hlv,_,_⟩:=h.sea.land.shape rfl
 obtain⟨n,hn⟩:=ZqJ l.length
 obtain⟨ns,hns⟩:=ZqJ b.scenes.length
 obtain⟨ng,hng⟩:=ZqJ b.sea.land.length
 obtain⟨pn,cn,rfl,hc1,hc2⟩:=hl.list.shape hn
 rw[hns] at hsv
 rw[hng] at hlv
 subst hsv hlv
 have HH:=ZqH h
 have HZ:=ZqH hz
 have HN:=ZqH hn
 have HL:=ZqH hl
 have HE1:Hid (Env w.heap.size w [(w.heap.size+1,inO steps),(w.heap.size,belO b (.slice pg ng cg) (.slice ps ns cs))] [] ((w.alloc (belO b (.slice pg ng cg) (.slice ps ns cs))).alloc (inO steps))):=((Env.start w).push _ rfl).push _ Zc
 obtain⟨g0,g1,g2,g3,g4⟩:=Zv (HE1.out.block 1 rfl)
 clear h hz hl hn hns hng
 go_enter Tryz.func40,Tryz.ntmps40
 go_wp2_with fail
 refine(Zfs (HH.out.below HE1.out.base ZqI) HZ.out).mono ?_
 rintro e w2 ⟨rfl,hb⟩
 have HE2:=ZqH (HE1.out.step hb)
 clear hb HE1 g0 g1 g2 g3 g4
 cases h1:ZF b
 ·simp only[Bool.false_eq_true,if_false]
  have HNO:Hid (Z3 b l steps=2):=by unfold Z3;rw[h1];rfl
  go_wp2
  exact ZpW (v:=.int .i64 2) (by simp[results,Tryz.f40,go_sem]) rfl ⟨by rw[HNO.out],HE2.out.base⟩
 have H1:=ZqH h1
 clear h1
 simp only[if_true]
 have hat:Hid (0<n->∃ bb o,pn=some ⟨bb,o,none⟩/\∃ (p0:Nat->Option Addr) (n0 c0:Nat->Nat),
   ∀ k,k<n->(∀ W,Below w.heap.size w W->W.cell? ⟨bb,o+k*7,none⟩=some (.int .i64 (ntA l k).time)/\W.cell? ⟨bb,o+k*7+1,none⟩=some (.int .i64 (ntA l k).mask)/\W.cell? ⟨bb,o+k*7+2,none⟩=some (.slice (p0 k) (n0 k) (c0 k))/\
    W.cell? ⟨bb,o+k*7+3,none⟩=some (.string (ntA l k).inn.1)/\W.cell? ⟨bb,o+k*7+4,none⟩=some (.string (ntA l k).inn.2)/\W.cell? ⟨bb,o+k*7+5,none⟩=some (.string (ntA l k).out.1)/\W.cell? ⟨bb,o+k*7+6,none⟩=some (.string (ntA l k).out.2))/\
    RunL w (.slice (p0 k) (n0 k) (c0 k)) (ntA l k).cells/\I64 (ntA l k).time/\I64 (ntA l k).mask):=fun h0=>Zbm.at HL.out.list HN.out h0
 have hfun:Hid (∃ (p0:Nat->Option Addr) (n0 c0:Nat->Nat),(0<n->∃ bb o,pn=some ⟨bb,o,none⟩/\
   ∀ k,k<n->∀ W,Below w.heap.size w W->W.cell? ⟨bb,o+k*7,none⟩=some (.int .i64 (ntA l k).time)/\W.cell? ⟨bb,o+k*7+1,none⟩=some (.int .i64 (ntA l k).mask)/\W.cell? ⟨bb,o+k*7+2,none⟩=some (.slice (p0 k) (n0 k) (c0 k))/\
    W.cell? ⟨bb,o+k*7+3,none⟩=some (.string (ntA l k).inn.1)/\W.cell? ⟨bb,o+k*7+4,none⟩=some (.string (ntA l k).inn.2)/\W.cell? ⟨bb,o+k*7+5,none⟩=some (.string (ntA l k).out.1)/\W.cell? ⟨bb,o+k*7+6,none⟩=some (.string (ntA l k).out.2))/\
    ∀ k,k<n->RunL w (.slice (p0 k) (n0 k) (c0 k)) (ntA l k).cells):=by
  by_cases h0:0<n
  ·obtain⟨bb,o,e,p0,n0,c0,hk⟩:=hat.out h0
   exact⟨p0,n0,c0,fun _=>⟨bb,o,e,fun k h=>(hk k h).1⟩,fun k h=>(hk k h).2.1⟩
  ·exact⟨fun _=>none,fun _=>0,fun _=>0,fun h=>Zqx h h0,fun k h=>Za⟩
 clear hat
 obtain⟨p0,n0,c0,hcell,hrun⟩:=hfun.out
 have HCE:=ZqH hcell
 have HRU:=ZqH hrun
 clear hfun hcell hrun
 have HF1:=ZqH (Ziy (w:=w2) (g:=96) (caps:=#[.pointer (some ⟨w.heap.size,0,none⟩)]) (enters_of Tryz.func96 Zb rfl) (f:=fun k=>!ZH b (ntA l k)) (p:=pn) (n:=n) (c:=cn)
  (fun k=>(ntA l k).time) (fun k=>(ntA l k).mask) p0 n0 c0 (fun k=>(ntA l k).inn.1) (fun k=>(ntA l k).inn.2) (fun k=>(ntA l k).out.1) (fun k=>(ntA l k).out.2) ⟨hc1,hc2⟩
  (fun h0=>by
   obtain⟨bb,o,e,hk⟩:=HCE.out h0
   exact⟨bb,o,e,fun W hW k h=>hk k h W (HE2.out.base.trans (hW.mono HE2.out.own))⟩)
  (fun k hk W hW=>by
   have hb:=HE2.out.base.trans (hW.mono HE2.out.own)
   exact Zjo (HH.out.sea.land.after RunR.stays hb ZqI) rfl ((HRU.out k hk).after RunR.stays hb ZqI) (HL.out.size.note (by rw[HN.out];exact hk)) (HH.out.vars.below hb ZqI) ((hW.block _ (HE2.out.lt 1 rfl)).trans (HE2.out.block 1 rfl))))
 go_wp2_with fail
 refine HF1.out.mono ?_
 rintro e w3 ⟨rfl,hb⟩
 have HE3:=ZqH (HE2.out.step hb)
 clear hb HE2 HF1
 cases h2:ZV (fun k=>!ZH b (ntA l k)) n
 rotate_left
 ·skip
  have HNO:Hid (Z3 b l steps=2):=by unfold Z3;rw[HN.out,h2,H1.out];rfl
  go_wp2
  exact ZpW (v:=.int .i64 2) (by simp[results,Tryz.f40,go_sem]) rfl ⟨by rw[HNO.out],HE3.out.base⟩
 have H2:=ZqH h2
 clear h2
 by_cases h3:64<n
 ·have h3':(64:Int)<n:=Za
  have HNO:Hid (Z3 b l steps=3):=by unfold Z3;rw[HN.out,H2.out,H1.out,if_pos h3];rfl
  go_wp2
  exact ZpW (v:=.int .i64 3) (by simp[results,Tryz.f40,go_sem]) rfl ⟨by rw[HNO.out],HE3.out.base⟩
 have h3':¬ (64:Int)<n:=Za
 have H3:=ZqH h3
 clear h3
 have i0:=HE3.out.cell 0 0 (v:=.int .i64 steps) rfl rfl
 go_wp2_with fail
 refine(ZbG _ _ _ _).mono ?_
 rintro e w4 ⟨rfl,hb⟩
 have HE4:=ZqH (HE3.out.step hb)
 clear hb HE3 i0
 cases h4:inG 0 steps 32
 ·skip
  have HNO:Hid (Z3 b l steps=2):=by unfold Z3;rw[HN.out,H2.out,H1.out,if_neg H3.out,h4];rfl
  go_wp2
  exact ZpW (v:=.int .i64 2) (by simp[results,Tryz.f40,go_sem]) rfl ⟨by rw[HNO.out],HE4.out.base⟩
 have H4:=ZqH h4
 clear h4
 have HF2:=ZqH (Ziy (w:=w4) (g:=97) (caps:=#[.pointer (some ⟨w.heap.size+1,0,none⟩)]) (enters_of Tryz.func97 Zb rfl) (f:=fun k=>decide (steps<(ntA l k).time)) (p:=pn) (n:=n) (c:=cn)
  (fun k=>(ntA l k).time) (fun k=>(ntA l k).mask) p0 n0 c0 (fun k=>(ntA l k).inn.1) (fun k=>(ntA l k).inn.2) (fun k=>(ntA l k).out.1) (fun k=>(ntA l k).out.2) ⟨hc1,hc2⟩
  (fun h0=>by
   obtain⟨bb,o,e,hk⟩:=HCE.out h0
   exact⟨bb,o,e,fun W hW k h=>hk k h W (HE4.out.base.trans (hW.mono HE4.out.own))⟩)
  (fun k hk W hW=>Zju ((hW.cell (p:=⟨w.heap.size+1,0,none⟩) (HE4.out.lt 0 rfl)).trans (HE4.out.cell 0 0 rfl rfl))))
 go_wp2_with fail
 refine HF2.out.mono ?_
 rintro e w5 ⟨rfl,hb⟩
 have HE5:=ZqH (HE4.out.step hb)
 clear hb HE4 HF2
 cases h5:ZV (fun k=>decide (steps<(ntA l k).time)) n
 rotate_left
 ·skip
  have HNO:Hid (Z3 b l steps=2):=by unfold Z3;rw[HN.out,H2.out,H1.out,if_neg H3.out,H4.out,h5];rfl
  go_wp2
  exact ZpW (v:=.int .i64 2) (by simp[results,Tryz.f40,go_sem]) rfl ⟨by rw[HNO.out],HE5.out.base⟩
 ·skip
  have HNO:Hid (Z3 b l steps=0):=by unfold Z3;rw[HN.out,H2.out,H1.out,if_neg H3.out,H4.out,h5];rfl
  go_wp2
  exact ZpW (v:=.int .i64 0) (by simp[results,Tryz.f40,go_sem]) rfl ⟨by rw[HNO.out],HE5.out.base⟩
def PlB (p:Pl):Prop:=(0<=p.1/\p.1<=7)/\(-1<=p.2.1/\p.2.1<=255)/\(-1<=p.2.2/\p.2.2<=255)
def ZI (f:Fl):Prop:=f.Pairwise (fun a b=>plLt a.1 b.1=true)
theorem ZcF {a b:Pl} : plLt a b=true<->a.1<b.1\/(a.1=b.1/\(a.2.2<b.2.2\/(a.2.2=b.2.2/\a.2.1<b.2.1))):=by
 unfold plLt
 simp only[Bool.or_eq_true,Zqt,Zqu]
theorem ZbB (a:Pl):¬ plLt a a=true:=by
 rw[ZcF]
 rintro(h | ⟨_,h | ⟨_,h⟩⟩)<;>exact Zqx h (Int.lt_irrefl _)
theorem Zbc {a b c:Pl} (h1:plLt a b=true) (h2:plLt b c=true):plLt a c=true:=by
 rw[ZcF] at *
 omega
theorem Zhj {a b:Pl} (h:a≠b):plLt a b=true\/plLt b a=true:=by
 rw[ZcF,ZcF]
 have h1:¬ (a.1=b.1/\a.2.1=b.2.1/\a.2.2=b.2.2):=fun⟨e1,e2,e3⟩=>h (Prod.ext e1 (Prod.ext e2 e3))
 omega
theorem ZdD {a b:Pl} (h:plLt a b=true):a≠b:=fun e=>by subst e;exact ZbB _ h
theorem Zbt {f:Fl} {p:Pl} (h:∀ z ∈ f,z.1≠p):fget f p=0:=by
 induction f with
 | nil=>rfl
 | cons z r ih=>
  obtain⟨k,v⟩:=z
  simp only[fget]
  rw[if_neg (h (k,v) Zc)]
  exact ih fun y hy=>h y (List.mem_cons_of_mem _ hy)
theorem Z0 {f:Fl} (hs:ZI f) {z:Pl×Rat} (h:z ∈ f):fget f z.1=z.2:=by
 induction f with
 | nil=>simp at h
 | cons y r ih=>
  obtain⟨k,v⟩:=y
  obtain⟨h1,h2⟩:=List.pairwise_cons.1 hs
  simp only[fget]
  rcases List.mem_cons.1 h with rfl | hr
  ·rw[if_pos rfl]
  ·rw[if_neg (ZdD (h1 z hr))]
   exact ih h2 hr
theorem Zbf {f:Fl} (hs:ZI f) {p:Pl} {q:Rat} {z:Pl×Rat} : z ∈ fset f p q<->z=(p,q)\/(z ∈ f/\z.1≠p):=by
 induction f with
 | nil=>simp[fset]
 | cons y r ih=>
  obtain⟨k,v⟩:=y
  obtain⟨h1,h2⟩:=List.pairwise_cons.1 hs
  simp only[fset]
  by_cases e:k=p
  ·subst e
   rw[if_pos rfl]
   simp only[List.mem_cons]
   constructor
   ·rintro(h | h)
    ·exact .inl h
    ·exact .inr ⟨.inr h,fun e=>ZdD (h1 z h) e.symm⟩
   ·rintro(h | ⟨h | h,hne⟩)
    ·exact .inl h
    ·subst h;exact Zqx rfl hne
    ·exact .inr h
  ·rw[if_neg e]
   by_cases e2:plLt p k=true
   ·rw[if_pos e2]
    simp only[List.mem_cons]
    constructor
    ·rintro(h | h | h)
     ·exact .inl h
     ·subst h;exact .inr ⟨.inl rfl,e⟩
     ·exact .inr ⟨.inr h,fun e3=>ZdD (Zbc e2 (h1 z h)) e3.symm⟩
    ·rintro(h | ⟨h,_⟩)
     ·exact .inl h
     ·exact .inr h
   ·rw[if_neg e2]
    simp only[List.mem_cons,ih h2]
    constructor
    ·rintro(h | h | ⟨h,h3⟩)
     ·subst h;exact .inr ⟨.inl rfl,e⟩
     ·exact .inl h
     ·exact .inr ⟨.inr h,h3⟩
    ·rintro(h | ⟨h | h,h3⟩)
     ·exact .inr (.inl h)
     ·exact .inl h
     ·exact .inr (.inr ⟨h,h3⟩)
theorem Zec {f:Fl} (hs:ZI f) (p:Pl) (q:Rat):ZI (fset f p q):=by
 induction f with
 | nil=>exact List.pairwise_cons.2 ⟨fun _ h=>by simp at h,List.Pairwise.nil⟩
 | cons y r ih=>
  obtain⟨k,v⟩:=y
  obtain⟨h1,h2⟩:=List.pairwise_cons.1 hs
  simp only[fset]
  by_cases e:k=p
  ·subst e
   rw[if_pos rfl]
   exact List.pairwise_cons.2 ⟨h1,h2⟩
  ·rw[if_neg e]
   by_cases e2:plLt p k=true
   ·rw[if_pos e2]
    refine List.pairwise_cons.2 ⟨fun z hz=>?_,hs⟩
    rcases List.mem_cons.1 hz with rfl | hz
    ·exact e2
    ·exact Zbc e2 (h1 z hz)
   ·rw[if_neg e2]
    refine List.pairwise_cons.2 ⟨fun z hz=>?_,ih h2⟩
    rcases(Zbf h2).1 hz with rfl | ⟨hz,_⟩
    ·rcases Zhj e with h | h
     ·exact h
     ·exact Zqx h e2
    ·exact h1 z hz
theorem Zge {f:Fl} (hs:ZI f) (p:Pl) (q:Rat):((∃ z ∈ f,z.1=p)->(fset f p q).length=f.length)/\((∀ z ∈ f,z.1≠p)->(fset f p q).length=f.length+1):=by
 induction f with
 | nil=>exact⟨fun⟨z,hz,_⟩=>by simp at hz,fun _=>rfl⟩
 | cons y r ih=>
  obtain⟨k,v⟩:=y
  obtain⟨h1,h2⟩:=List.pairwise_cons.1 hs
  simp only[fset]
  by_cases e:k=p
  ·subst e
   rw[if_pos rfl]
   exact⟨fun _=>rfl,fun h=>Zqx rfl (h (k,v) Zc)⟩
  ·rw[if_neg e]
   by_cases e2:plLt p k=true
   ·rw[if_pos e2]
    refine⟨fun⟨z,hz,hzp⟩=>?_,fun _=>rfl⟩
    subst hzp
    rcases List.mem_cons.1 hz with rfl | hz
    ·exact Zqx rfl e
    ·exact Zqx (Zbc e2 (h1 z hz)) (ZbB _)
   ·rw[if_neg e2]
    simp only[Zqv]
    refine⟨fun⟨z,hz,hzp⟩=>?_,fun h=>?_⟩
    ·rcases List.mem_cons.1 hz with rfl | hz
     ·exact Zqx hzp e
     ·rw[(ih h2).1 ⟨z,hz,hzp⟩]
    ·rw[(ih h2).2 fun z hz=>h z (List.mem_cons_of_mem _ hz)]
def plNo (p:Pl):Nat:=((p.1.toNat*257+(p.2.2+1).toNat)*257+(p.2.1+1).toNat)
theorem Zig {a b:Pl} (ha:PlB a) (hb:PlB b) (h:plLt a b=true):plNo a<plNo b:=by
 rw[ZcF] at h
 unfold PlB at ha hb
 unfold plNo
 omega
theorem ZfS {a:Pl} (ha:PlB a):plNo a<528392:=by
 unfold PlB at ha
 unfold plNo
 omega
theorem Ze5:∀ (l:List Nat) (lo N:Nat),l.Pairwise (· < ·)->(∀ x ∈ l,lo<=x/\x<N)->lo<=N->lo+l.length<=N
 | [],lo,N,_,_,h=>by simpa using h
 | x::r,lo,N,hp,hb,h=>by
  obtain⟨h1,h2⟩:=List.pairwise_cons.1 hp
  obtain⟨h3,h4⟩:=hb x Zc
  have h5:=Ze5 r (x+1) N h2 (fun y hy=>⟨h1 y hy,(hb y (List.mem_cons_of_mem _ hy)).2⟩) h4
  simp only[Zqv]
  omega
theorem Zdm {f:Fl} (hs:ZI f) (hb:∀ z ∈ f,PlB z.1):f.length<=528392:=by
 have h:=Ze5 (f.map fun z=>plNo z.1) 0 528392 (by
  rw[List.pairwise_map]
  refine List.Pairwise.imp_of_mem (fun {a b} ha hb' hab=>Zig (hb a ha) (hb b hb') hab) hs) (fun x hx=>by
   obtain⟨z,hz,rfl⟩:=List.mem_map.1 hx
   exact⟨Zp8 _,ZfS (hb z hz)⟩) (Zp8 _)
 simpa using h
end Go.Proofs.YtjmckebecpjjfaaGreatDoor
namespace Go.Proofs.YtjmckebecpjjfaaGreatDoor
open Go.RowKit Go.Shelf Go.ChangeMaps Go.MapKept Go.ChangeShapes Go.WideShapes
open Go.WideElems (Fit rd rg rg_of rd_key rd_val)
abbrev kPl (p:Pl):Value:=.agg #[.int .i64 p.1,.int .i64 p.2.1,.int .i64 p.2.2]
abbrev plO (p:Pl):Obj:=.cells #[.int .i64 p.1,.int .i64 p.2.1,.int .i64 p.2.2] 118
theorem ZmK:(118:TypeId)<Tryz.prog.types.size:=of_decide_eq_true Zb
theorem Zmn:(match Tryz.prog.underlying 118 with | some (.array _ _) | some (.struct _)=>true | _=>false)=true:=by rw[Tryz.underlying118]
theorem Zmg:Tryz.prog.keyTypeAt 3 118=true:=Zb
theorem Zax:Maps.Keyed Tryz.prog 118:=Maps.Keyed.of_law (deep_law_laid ZhK (m:=3) Za ZmK Zmg Zmn)
theorem ZiN:Tryz.prog.keyType 118=true:=Zb
theorem Zgy:Tryz.prog.cellsOf 118=3:=Zb
theorem PlB.i64 {p:Pl} (h:PlB p):I64 p.1/\I64 p.2.1/\I64 p.2.2:=by unfold PlB at h;unfold I64;omega
theorem Zha {p:Pl} (h:PlB p):∃ kl,keyOf Tryz.prog 118 (kPl p)=some kl:=by
 have w1:=Zbo h.i64.1
 have w2:=Zbo h.i64.2.1
 have w3:=Zbo h.i64.2.2
 obtain⟨m,hm⟩:∃ m,Tryz.prog.types.size=m+1+1:=⟨Tryz.prog.types.size-2,by have h:2<=Tryz.prog.types.size:=of_decide_eq_true Zb;omega⟩
 have hf:(kPl p).formed Tryz.prog 118=true:=by simp[Value.formed,Tryz.underlying118,Zgy]
 unfold keyOf
 rw[Tryz.underlying118]
 simp only[ZiN,hf,Bool.and_self,if_true,hm,Value.cells]
 simp[Program.keyLits,Tryz.underlying118,Tryz.underlying53,Tryz.underlying3,Zgy,ZcX,Zdt,List.range,List.range.loop,w1,w2,w3]
 rw[if_pos (by intro i hi;rcases i with _ | _ | i<;>first | omega | (simp;done))]
 simp
theorem ZdE {p q:Pl} (h:kPl p=kPl q):p=q:=by
 obtain⟨a,b,c⟩:=p
 obtain⟨d,e,f⟩:=q
 have h2:a=d/\b=e/\c=f:=by simpa[kPl] using h
 obtain⟨rfl,rfl,rfl⟩:=h2
 rfl
def FMap (w:World) (m:Nat) (f:Fl):Prop:=
 (∃ es clock,w.heap[m]?=some (.map es clock)/\Fit Tryz.prog 118 noR es clock/\es.size<=f.length/\(∀ e ∈ es.toList,∃ z ∈ f,e.key=kPl z.1/\∃ s t,e.val=pV s t/\IsP z.2 s t)/\∀ z ∈ f,∃ e ∈ es.toList,e.key=kPl z.1)/\
 ZI f/\∀ z ∈ f,PlB z.1
theorem FMap.lt {w:World} {m:Nat} {f:Fl} (h:FMap w m f):m<w.heap.size:=by
 obtain⟨⟨es,clock,h1,_⟩,_⟩:=h
 exact(ZqC h1)
theorem FMap.stay {w w':World} {m:Nat} {f:Fl} (h:FMap w m f) (hw:w'.heap[m]?=w.heap[m]?):FMap w' m f:=by
 obtain⟨⟨es,clock,h1,h2⟩,h3⟩:=h
 exact⟨⟨es,clock,hw.trans h1,h2⟩,h3⟩
theorem FMap.step {w w':World} {m:Nat} {f:Fl} (h:FMap w m f) (hb:Below w.heap.size w w'):FMap w' m f:=h.stay (hb.block m h.lt)
theorem FMap.made (w:World):FMap (w.alloc (.map #[] 0)) w.heap.size []:=
 ⟨⟨#[],0,(MapKept.heap_alloc w _).1,⟨Zc,stamped_empty 0,Zc⟩,Nat.le_refl _,Zc,Zc⟩,List.Pairwise.nil,Zc⟩
theorem FMap.length {w:World} {m:Nat} {f:Fl} (h:FMap w m f):f.length<=528392:=Zdm h.2.1 h.2.2
theorem ZcI (w:World):(zeroValue 39).run Tryz.prog w=.ok (pV ZqD ZqD) w:=Zb
def ZpS (f:Fl) (p:Pl) (T:TypeId) (m:Nat) (w:World):Prop:=
 ((∃ z ∈ f,z.1=p)/\∃ s t,IsP (fget f p) s t/\∀ w',w'.heap[m]?=w.heap[m]?->∀ c:Bool,(Instr.lookup T (.map (some m)) (kPl p) c).run Tryz.prog w'=.ok (if c then .tuple #[pV s t,.bool true] else pV s t) w')\/
 ((∀ z ∈ f,z.1≠p)/\fget f p=0/\∀ w',w'.heap[m]?=w.heap[m]?->∀ c:Bool,(Instr.lookup T (.map (some m)) (kPl p) c).run Tryz.prog w'=.ok (if c then .tuple #[pV ZqD ZqD,.bool false] else pV ZqD ZqD) w')
theorem FMap.look {w:World} {m:Nat} {f:Fl} (h:FMap w m f) {p:Pl} (hp:PlB p) {T:TypeId} (hT:Tryz.prog.underlying T=some (.map 118 39)):ZpS f p T m w:=by
 obtain⟨⟨es,clock,hb,F,hs,h1,h2⟩,h3,h4⟩:=h
 obtain⟨kl,hkl⟩:=Zha hp
 by_cases hex:∃ z ∈ f,z.1=p
 ·obtain⟨z,hz,rfl⟩:=hex
  obtain⟨e,he,hek⟩:=h2 z hz
  obtain⟨z',hz',hk',s,t,hv,his⟩:=h1 e he
  have e1:z'.1=z.1:=ZdE (hk'.symm.trans hek)
  have e2:z'.2=z.2:=by rw[<- Z0 h3 hz',<- Z0 h3 hz,e1]
  refine .inl ⟨⟨z,hz,rfl⟩,s,t,by rw[Z0 h3 hz,<- e2];exact his,fun w' hw c=>?_⟩
  rcases Maps.fit_look c Zax hT (ZcI w') (hw.trans hb) F hkl with ⟨_,hno,_⟩ | ⟨e0,y0,hm0,h5,hrun,_⟩
  ·exact Zqx hek (hno e he)
  ·have e3:e0=e:=entry_eq_of_key ((stamped_iff es clock).1 F.stamped).2.2 hm0 he (h5.trans hek.symm)
   rw[e3,hv] at hrun
   exact hrun
 ·refine .inr ⟨fun z hz e=>hex ⟨z,hz,e⟩,Zbt fun z hz e=>hex ⟨z,hz,e⟩,fun w' hw c=>?_⟩
  rcases Maps.fit_look c Zax hT (ZcI w') (hw.trans hb) F hkl with ⟨hrun,_⟩ | ⟨e0,y0,hm0,h5,_⟩
  ·exact hrun
  ·obtain⟨z,hz,hk,_⟩:=h1 e0 hm0
   exact Zqx ⟨z,hz,ZdE (hk.symm.trans h5)⟩ hex
theorem FMap.put {w:World} {m:Nat} {f:Fl} (h:FMap w m f) {p:Pl} (hp:PlB p) {T:TypeId} (hT:Tryz.prog.underlying T=some (.map 118 39)) {q:Rat} {s t:ByteArray} (hq:IsP q s t) :
  ∃ w2,(Instr.mapUpdate T (.map (some m)) (kPl p) (pV s t)).run Tryz.prog w=.ok () w2/\FMap w2 m (fset f p q)/\Keeps (fun b=>b≠m) w w2:=by
 have hln:=h.length
 obtain⟨⟨es,clock,hb,F,hs,h1,h2⟩,h3,h4⟩:=h
 obtain⟨kl,hkl⟩:=Zha hp
 obtain⟨es',clock',hrun,F',hput,_,_,hwho⟩:=Maps.fit_store (R':=noR) (val:=pV s t) Zax hT hb F (by unfold maxLen;omega) (fun _ _ _ _ hz=>hz) hkl (yv:=(.nil,[])) rfl
 obtain⟨k1,k2⟩:=Zew Zax F F' hkl hput
 refine⟨_,hrun,⟨⟨es',clock',heap_setBlock_same hb _,F',?_,fun e he=>?_,fun z hz=>?_⟩,Zec h3 p q,fun z hz=>?_⟩,⟨rfl,rfl,rfl,by simp[setBlock],fun k _ hk=>heap_setBlock_other hb _ hk⟩⟩
 ·have e1:es'.size=((es'.toList.map (rg Tryz.prog 118 noR)).foldr DataW.insert []).length:=by rw[length_sorted];simp
  rw[e1,hput]
  unfold putKey
  rw[length_insert]
  obtain⟨l1,l2⟩:=Zge h3 p q
  by_cases hex:∃ z ∈ f,z.1=p
  ·rw[l1 hex]
   obtain⟨z,hz,rfl⟩:=hex
   obtain⟨e,he,hek⟩:=h2 z hz
   have hlt:(((es.toList.map (rg Tryz.prog 118 noR)).foldr DataW.insert []).filter (notKey kl)).length<((es.toList.map (rg Tryz.prog 118 noR)).foldr DataW.insert []).length:=by
    rw[List.length_filter_lt_length_iff_exists]
    refine⟨rg Tryz.prog 118 noR e,mem_sorted.2 (List.mem_map.2 ⟨e,he,rfl⟩),?_⟩
    have h5:=Zc9 F he
    rw[hek] at h5
    have h6:(rg Tryz.prog 118 noR e).1=kl:=ZpZ (h5.symm.trans hkl)
    rw[Maps.notKey_iff (Zax.key hkl)]
    exact fun hn=>hn h6
   rw[length_sorted] at hlt
   simp at hlt
   omega
  ·rw[l2 fun z hz e=>hex ⟨z,hz,e⟩]
   have e2:=List.length_filter_le (notKey kl) ((es.toList.map (rg Tryz.prog 118 noR)).foldr DataW.insert [])
   rw[length_sorted] at e2
   simp at e2
   omega
 ·rcases hwho e he with ⟨g1,g2⟩ | ⟨g1,g2⟩
  ·obtain⟨z,hz,g3,g4⟩:=h1 e g1
   exact⟨z,(Zbf h3).2 (.inr ⟨hz,fun e5=>g2 (by rw[g3,e5])⟩),g3,g4⟩
  ·exact⟨(p,q),(Zbf h3).2 (.inl rfl),g1,s,t,g2,hq⟩
 ·rcases(Zbf h3).1 hz with rfl | ⟨hz,_⟩
  ·exact k1
  ·obtain⟨e,he,hek⟩:=h2 z hz
   obtain⟨e',he',hk'⟩:=k2 e he
   exact⟨e',he',hk'.trans hek⟩
 ·rcases(Zbf h3).1 hz with rfl | ⟨hz,_⟩
  ·exact hp
  ·exact h4 z hz
end Go.Proofs.YtjmckebecpjjfaaGreatDoor
namespace Go.Proofs.YtjmckebecpjjfaaGreatDoor
open Go.RowKit
section
variable {F:Fence} {n:Nat} {P:Program} {ops:Array Oper} {Q:Exit->Act->World->Prop} {md:Region.Mode} {S:World->Prop} {bar:Nat->Bool}
def Zek (md:Region.Mode) (ops:Array Oper):Nat->Nat->Nat->Bool
 | 0,_,_=>false
 | f+1,j,i=>Region.waitsFor md ops j i || (List.range ops.size).any fun m=>Region.waitsFor md ops j m && Zek md ops f m i
def ZbH (md:Region.Mode) (ops:Array Oper) (listed:Array Bool):Prop:=∀ j m,listed.getD j true=true->Region.waitsFor md ops j m=true->listed.getD m true=true
theorem Zke {j m:Nat} (h:Region.waitsFor md ops j m=true):j<ops.size:=by
 obtain⟨oj,hoj,_⟩:=Region.waitsFor_spec h
 exact(ZqC hoj)
theorem Zel {listed:Array Bool} (hc:ZbH md ops listed) {i:Nat} (hi:listed.getD i true=false):∀ (f j:Nat),Zek md ops f j i=true->listed.getD j true=false/\j ∉ Region.ready md ops listed
 | 0,_,h=>by cases h
 | f+1,j,h=>by
  have key:∀ m,Region.waitsFor md ops j m=true->listed.getD m true=false->listed.getD j true=false/\j ∉ Region.ready md ops listed:=fun m hw hm=>by
   refine⟨?_,fun hj=>?_⟩
   ·cases hl:listed.getD j true with
    | false=>rfl
    | true=>rw[hc j m hl hw] at hm;cases hm
   ·obtain⟨oj,hoj,e,he,hb,hon⟩:=Region.waitsFor_spec hw
    obtain⟨_,oj',hoj',hall⟩:=mem_ready.1 hj
    have:oj'=oj:=ZpZ (hoj'.symm.trans hoj)
    subst this
    have h1:=hall e he hb
    rw[hon] at h1
    rcases Zp1 m listed.size with h' | h'
    ·simp[h'] at hm h1;rw[hm] at h1;cases h1
    ·simp[Array.getElem?_eq_none h'] at h1 hm
  unfold Zek at h
  rw[Bool.or_eq_true] at h
  rcases h with h | h
  ·exact key i h hi
  ·obtain⟨m,_,hm⟩:=List.any_eq_true.1 h
   rw[Zqt] at hm
   exact key m hm.1 (Zel hc hi f m hm.2).1
theorem ZbH.step {listed:Array Bool} (hc:ZbH md ops listed) {j:Nat} (hj:j ∈ Region.ready md ops listed):ZbH md ops (listed.setIfInBounds j true):=by
 intro k m hk hw
 have up:∀ m,listed.getD m true=true->(listed.setIfInBounds j true).getD m true=true:=fun m hm=>by
  by_cases e:j=m
  ·subst e
   rcases Zp1 j listed.size with h' | h'
   ·simp[h']
   ·simp[h']
  ·rw[getD_set_ne true e];exact hm
 by_cases e:j=k
 ·subst e
  obtain⟨oj,hoj,x,hx,hb,hon⟩:=Region.waitsFor_spec hw
  obtain⟨_,oj',hoj',hall⟩:=mem_ready.1 hj
  have:oj'=oj:=ZpZ (hoj'.symm.trans hoj)
  subst this
  have h1:=hall x hx hb
  rw[hon] at h1
  refine up m ?_
  rcases Zp1 m listed.size with h' | h'
  ·simp[h'] at h1 ⊢;exact h1
  ·simp[Array.getElem?_eq_none h'] at h1 ⊢
 ·rw[getD_set_ne true e] at hk
  exact up m (hc k m hk hw)
theorem ZbH.start:ZbH md ops (Array.replicate ops.size false):=by
 intro j m hj hw
 have:=Zke hw
 simp[this] at hj
def Zj7 (md:Region.Mode) (ops:Array Oper) (bar:Nat->Bool) (i:Nat):Prop:=∀ j,bar j=true->j≠i->Zek md ops ops.size j i=true
end
end Go.Proofs.YtjmckebecpjjfaaGreatDoor
