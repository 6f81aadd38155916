/- The parts BelPV, BelOP, BelSP, BelMP, BelSN. -/
import Derived.Test.YtjmckebecpjjfaaGreatDoorH25
set_option maxRecDepth 100000
set_option maxHeartbeats 8000000
set_option linter.unusedVariables false
set_option linter.unusedSimpArgs false
namespace Go.Proofs.YtjmckebecpjjfaaGreatDoor
open Go.RowKit Go.Shelf
attribute [local go_sem ↓] Go.wp_at_zero Go.wp_at_succ
theorem Zfc {f:Fl} (hs:ZI f):ZI (nzF f):=List.Pairwise.filter _ hs
theorem Zid {f:Fl} (hs:ZI f) {z:Pl×Rat} (h:z ∈ f):fget (nzF f) z.1=z.2:=by
 by_cases h0:z.2=0
 ·rw[h0]
  refine Zbt fun y hy e=>?_
  have hy2:y ∈ f/\decide (y.2≠0)=true:=List.mem_filter.1 hy
  have h1:=Z0 hs hy2.1
  rw[e,Z0 hs h,h0] at h1
  exact(of_decide_eq_true hy2.2) h1.symm
 ·exact Z0 (Zfc hs) (List.mem_filter.2 ⟨h,decide_eq_true h0⟩)
theorem ZeR {b:BelP} {ms out:Fl} {n:NoteP} {z:Rat} (hn:ZH b n=true) (hm:MassOk b ms) (h:ZaF ms n=.ok (out,z)) {i:Nat} (hi:i<ms.length) :
  fget out (mA ms i).1=(mA ms i).2*ZE n (mA ms i).1/z:=by
 have h1:=Zd1 h
 obtain⟨h2,h3,h4⟩:=ZcM hm.sorted h1
 have hw:=Zby hn hm h
 have hok:=ZeG hm hw.2.2.1 (ZeW hn hm.pos)
 rw[ZdJ h4]
 have hmem:((mA ms i).1,(Za8 n ms).getD i 0/z) ∈ Zb3 z (Za8 n ms) ms:=List.mem_map.2 ⟨i,List.mem_range.2 hi,rfl⟩
 have h5:=Zid hok.sorted hmem
 rw[Ziv hi] at h5
 exact h5
def Zdv (ws:List RunP) (p:PP):NoteP:=⟨0,255,ws,p,(⟨#[49]⟩,⟨#[49]⟩)⟩
theorem Zib {k:Int} (h0:0<=k) (h8:k<8):bitF 255 k=true:=by
 obtain⟨n,rfl⟩:∃ n:Nat,k=n:=⟨k.toNat,Za⟩
 have hn:n<8:=Za
 match n,hn with
 | 0,_=>decide
 | 1,_=>decide
 | 2,_=>decide
 | 3,_=>decide
 | 4,_=>decide
 | 5,_=>decide
 | 6,_=>decide
 | 7,_=>decide
theorem ZgB {ws:List RunP} {p:PP} {x:Pl} (h0:0<=x.1) (h8:x.1<8):ZE (Zdv ws p) x=if hasR ws x.2.1 x.2.2 then qP p else 1:=by
 unfold ZE
 have h:bitF (Zdv ws p).mask x.1=true:=Zib h0 h8
 rw[if_pos h]
 show (if hasR ws x.2.1 x.2.2=true then qP p else qP (⟨#[49]⟩,⟨#[49]⟩))=_
 have h1:qP (⟨#[49]⟩,⟨#[49]⟩)=1:=ZbD.rat
 rw[h1]
theorem Zfo {q f z:Rat} (hq:0<q) (hf0:0<=f) (hf1:f<=1) (hz0:0<z) (hz1:z<=1):q*f/z<=q/z/\(f=1->q*f/z=q/z/\q<=q*f/z)/\(f=0->q*f/z=0):=by
 have hinv:0<z⁻¹:=Rat.inv_pos.2 hz0
 have e:z*z⁻¹=1:=Rat.mul_inv_cancel z (fun h=>by rw[h] at hz0;exact Zqx hz0 Zd)
 have h1:(1:Rat)<=z⁻¹:=by
  have:=Rat.mul_le_mul_of_nonneg_right hz1 (Rat.le_of_lt hinv)
  rw[e,Rat.one_mul] at this
  exact this
 refine⟨?_,fun h=>?_,fun h=>?_⟩
 ·rw[Rat.div_def,Rat.div_def]
  refine Rat.mul_le_mul_of_nonneg_right ?_ (Rat.le_of_lt hinv)
  have:=Rat.mul_le_mul_of_nonneg_left hf1 (Rat.le_of_lt hq)
  rwa [Rat.mul_one] at this
 ·subst h
  rw[Rat.mul_one]
  refine⟨rfl,?_⟩
  rw[Rat.div_def]
  have:=Rat.mul_le_mul_of_nonneg_left h1 (Rat.le_of_lt hq)
  rwa [Rat.mul_one] at this
 ·subst h
  rw[Rat.mul_zero,Rat.div_def,Rat.zero_mul]
theorem ZmN {f:Fl} {p:Pl} (h:fget f p≠0):∃ z ∈ f,z.1=p:=by
 by_cases hex:∃ z ∈ f,z.1=p
 ·exact hex
 ·exact Zqx (Zbt fun z hz e=>hex ⟨z,hz,e⟩) h
theorem Zio {f:Fl} (hs:ZI f) (hn:∀ z ∈ f,z.2≠0) {z:Pl×Rat} : z ∈ f<->fget f z.1=z.2/\z.2≠0:=by
 constructor
 ·intro h
  exact⟨Z0 hs h,hn z h⟩
 ·rintro⟨h1,h2⟩
  obtain⟨y,hy,he⟩:=ZmN (f:=f) (p:=z.1) (by rw[h1];exact h2)
  have h3:=Z0 hs hy
  rw[he,h1] at h3
  have:y=z:=Prod.ext he h3.symm
  rw[<- this]
  exact hy
theorem Zhs:∀ {f g:Fl},ZI f->ZI g->(∀ z,z ∈ f<->z ∈ g)->f=g
 | [],[],_,_,_=>rfl
 | [],y::g,_,_,h=>Zqx ((h y).2 Zc) Zc
 | x::f,[],_,_,h=>Zqx ((h x).1 Zc) Zc
 | x::f,y::g,hf,hg,h=>by
  obtain⟨f1,f2⟩:=List.pairwise_cons.1 hf
  obtain⟨g1,g2⟩:=List.pairwise_cons.1 hg
  have hxy:x=y:=by
   rcases List.mem_cons.1 ((h x).1 Zc) with e | hx
   ·exact e
   ·rcases List.mem_cons.1 ((h y).2 Zc) with e | hy
    ·exact e.symm
    ·exact Zqx (Zbc (g1 x hx) (f1 y hy)) (ZbB _)
  subst hxy
  rw[Zhs f2 g2 fun z=>?_]
  constructor
  ·intro hz
   rcases List.mem_cons.1 ((h z).1 (List.mem_cons_of_mem _ hz)) with e | h2
   ·subst e;exact Zqx (f1 z hz) (ZbB _)
   ·exact h2
  ·intro hz
   rcases List.mem_cons.1 ((h z).2 (List.mem_cons_of_mem _ hz)) with e | h2
   ·subst e;exact Zqx (g1 z hz) (ZbB _)
   ·exact h2
theorem ZiC {f g:Fl} (hf:ZI f) (hg:ZI g) (nf:∀ z ∈ f,z.2≠0) (ng:∀ z ∈ g,z.2≠0) (h:∀ p,fget f p=fget g p):f=g:=
 Zhs hf hg fun z=>by rw[Zio hf nf,Zio hg ng,h]
def Zdf (f:Fl) (q:Rat):Fl:=f.map fun z=>(z.1,z.2*q)
theorem Zis (f:Fl) (q:Rat) (p:Pl):fget (Zdf f q) p=fget f p*q:=by
 induction f with
 | nil=>simp only[Zdf,List.map_nil,fget];grind
 | cons z r ih=>
  obtain⟨k,v⟩:=z
  unfold Zdf at *
  simp only[List.map_cons,fget]
  split
  ·rfl
  ·exact ih
theorem Zip (f:Fl) (q:Rat):totF (Zdf f q)=totF f*q:=by
 induction f with
 | nil=>simp only[Zdf,List.map_nil,totF];grind
 | cons z r ih=>
  unfold Zdf at *
  simp only[List.map_cons,totF,ih]
  grind
theorem ZgC {f:Fl} (h:ZI f) (q:Rat):ZI (Zdf f q):=by
 unfold Zdf ZI
 rw[List.pairwise_map]
 exact h
theorem ZlY {b:BelP} {f g:Fl} {l l':Rat} (hf:Z1 b f l) (hg:Z1 b g l') (h:∀ p,fget f p*l=fget g p*l'):f=g/\l=l':=by
 obtain⟨f1,f2,f3,f4⟩:=hf
 obtain⟨g1,g2,g3,g4⟩:=hg
 have key:Zdf f l=Zdf g l':=by
  refine ZiC (ZgC f1.sorted l) (ZgC g1.sorted l') (fun z hz=>?_) (fun z hz=>?_) fun p=>?_
  ·obtain⟨y,hy,rfl⟩:=List.mem_map.1 hz
   have:=Rat.mul_pos (f1.pos y hy) f3
   show y.2*l≠0
   grind
  ·obtain⟨y,hy,rfl⟩:=List.mem_map.1 hz
   have:=Rat.mul_pos (g1.pos y hy) g3
   show y.2*l'≠0
   grind
  ·rw[Zis,Zis,h]
 have hl:l=l':=by
  have h1:=Zip f l
  rw[key,Zip,f2,g2] at h1
  grind
 subst hl
 refine⟨ZiC f1.sorted g1.sorted (fun z hz=>?_) (fun z hz=>?_) fun p=>?_,rfl⟩
 ·have:=f1.pos z hz
  grind
 ·have:=g1.pos z hz
  grind
 ·have h1:=h p
  have h2:l≠0:=Zk
  have h3:fget f p*l*l⁻¹=fget g p*l*l⁻¹:=by rw[h1]
  rw[Rat.mul_assoc,Rat.mul_assoc,Rat.mul_inv_cancel l h2,Rat.mul_one,Rat.mul_one] at h3
  exact h3
def ZaI (t:Nat) (p:Pl):List NoteP->Rat
 | []=>1
 | n::ns=>(if n.time=(t:Int) then ZE n p else 1)*ZaI t p ns
theorem Zd5 (t:Nat) (p:Pl) (a c:List NoteP):ZaI t p (a++c)=ZaI t p a*ZaI t p c:=by
 induction a with
 | nil=>simp only[ZqA,ZaI];grind
 | cons n a ih=>simp only[List.cons_append,ZaI,ih];grind
theorem Zjj (t:Nat) (p:Pl) (n:NoteP):ZaI t p [n]=if n.time=(t:Int) then ZE n p else 1:=by
 simp only[ZaI];grind
theorem ZcT (t:Nat) (p:Pl) (l:List NoteP):ZaI t p l.reverse=ZaI t p l:=by
 induction l with
 | nil=>rfl
 | cons n a ih=>rw[List.reverse_cons,Zd5,ih,Zjj];simp only[ZaI];grind
theorem ZdT (t:Nat) (p:Pl) {l:List NoteP} {k:Nat} (hk:k<l.length):ZaI t p (l.take (k+1))=ZaI t p (l.take k)*(if (ntA l k).time=(t:Int) then ZE (ntA l k) p else 1):=by
 rw[List.take_succ_eq_append_getElem hk,Zd5,Zjj,Zbn hk]
theorem ZnD {t:Nat} {p:Pl} {l:List NoteP} {k:Nat} {q:Rat} (h:q*ZaI t p (l.take k)=0):q*ZaI t p l=0:=by
 have h1:=Zd5 t p (l.take k) (l.drop k)
 rw[List.take_append_drop] at h1
 rw[h1,<- Rat.mul_assoc,h,Rat.zero_mul]
theorem Znz {b:BelP} {ms out:Fl} {n:NoteP} {z:Rat} (hn:ZH b n=true) (hm:MassOk b ms) (h:ZaF ms n=.ok (out,z)) (p:Pl):fget out p*z=fget ms p*ZE n p:=by
 have hz:=(Zby hn hm h).2.2.1
 by_cases hex:∃ y ∈ ms,y.1=p
 ·obtain⟨y,hy,rfl⟩:=hex
  obtain⟨i,hi,hiy⟩:=List.getElem_of_mem hy
  rw[Z9 hi] at hiy
  have h1:=ZeR hn hm h hi
  rw[hiy] at h1
  rw[h1,Z0 hm.sorted hy,Rat.div_def,Rat.mul_assoc,Rat.mul_comm _ z,Rat.mul_inv_cancel z Zk,Rat.mul_one]
 ·have h0:∀ y ∈ ms,y.1≠p:=fun y hy e=>hex ⟨y,hy,e⟩
  rw[Zbt h0]
  have h1:=Zd1 h
  obtain⟨_,_,h4⟩:=ZcM hm.sorted h1
  rw[ZdJ h4,Zbt fun y hy=>?_]
  ·grind
  ·obtain⟨i,hi,rfl⟩:=List.mem_map.1 (List.mem_filter.1 hy).1
   have hi':=List.mem_range.1 hi
   exact h0 (mA ms i) (by rw[<- Z9 hi'];exact Zqm hi')
theorem Zbu {σ:Type} {g:Nat->σ->Except Int σ} {s:σ} {e:Int} : ∀ n,Zt g n s=.error e->∃ k s',k<n/\Zt g k s=.ok s'/\g k s'=.error e
 | 0,h=>by cases h
 | n+1,h=>by
  rw[Zdx] at h
  cases h1:Zt g n s with
  | error e'=>
   rw[h1] at h
   cases h
   obtain⟨k,s',hk,h2,h3⟩:=Zbu n h1
   exact⟨k,s',Nat.lt_succ_of_lt hk,h2,h3⟩
  | ok s'=>
   rw[h1] at h
   exact⟨n,s',Nat.lt_succ_self n,h1,h⟩
theorem ZcC {a c:Rat} {e:Int} (h:mulF a c=.error e):e=4:=by
 unfold mulF at h
 split at h
 ·cases h
 ·cases h;rfl
theorem Zou {f:Fl} {e:Int} (h:outF f=.error e):e=4:=by
 unfold outF at h
 split at h
 ·cases h
 ·cases h;rfl
theorem Zhr {ms:Fl} {l:List Rat} {e:Int} (h:ZaY ms l=.error e):e=4\/(e=7/\sumR 0 l=0):=by
 unfold ZaY at h
 cases h1:Zt (addG l) l.length 0 with
 | error e1=>
  rw[h1] at h
  cases h
  obtain⟨k,s,_,_,hg⟩:=Zbu _ h1
  unfold addG at hg
  split at hg
  ·cases hg
  ·cases hg;exact .inl rfl
 | ok y=>
  rw[h1] at h
  simp only at h
  by_cases hy:y=0
  ·rw[if_pos hy] at h
   cases h
   exact .inr ⟨rfl,by rw[<- Zlk h1,hy]⟩
  ·rw[if_neg hy] at h
   cases h2:Zt (setG y ms l) ms.length [] with
   | error e1=>
    rw[h2] at h
    cases h
    obtain⟨k,s,_,_,hg⟩:=Zbu _ h2
    unfold setG at hg
    split at hg
    ·cases hg
    ·cases hg;exact .inl rfl
   | ok f=>
    rw[h2] at h
    simp only at h
    cases h3:outF f with
    | error e1=>rw[h3] at h;cases h;exact .inl (Zou h3)
    | ok o=>rw[h3] at h;cases h
theorem ZiJ:∀ {l:List Rat} {a:Rat},0<=a->(∀ q ∈ l,0<=q)->sumR a l=0->a=0/\∀ q ∈ l,q=0
 | [],a,_,_,h=>⟨h,Zc⟩
 | q::l,a,ha,hl,h=>by
  have hq:=hl q Zc
  obtain⟨h1,h2⟩:=ZiJ (l:=l) (a:=a+q) Zk (fun x hx=>hl x (List.mem_cons_of_mem _ hx)) h
  have h3:a=0/\q=0:=by constructor<;>grind
  refine⟨h3.1,fun x hx=>?_⟩
  rcases List.mem_cons.1 hx with rfl | hx
  ·exact h3.2
  ·exact h2 x hx
theorem Znb {b:BelP} {ms:Fl} {n:NoteP} {e:Int} (hn:ZH b n=true) (hm:MassOk b ms) (h:ZaF ms n=.error e):e=4\/(e=7/\∀ p,fget ms p*ZE n p=0):=by
 unfold ZaF at h
 cases h1:Zt (Za9 (fun p=>.ok (ZE n p)) ms) ms.length [] with
 | error e1=>
  rw[h1] at h
  cases h
  obtain⟨k,s,_,_,hg⟩:=Zbu _ h1
  unfold Za9 at hg
  simp only at hg
  cases h2:mulF (mA ms k).2 (ZE n (mA ms k).1) with
  | error e2=>rw[h2] at hg;cases hg;exact .inl (ZcC h2)
  | ok q=>rw[h2] at hg;cases hg
 | ok l=>
  rw[h1] at h
  obtain rfl:=Zj4 h1
  rcases Zhr h with he | ⟨he,h0⟩
  ·exact .inl he
  ·refine .inr ⟨he,fun p=>?_⟩
   obtain⟨_,hz⟩:=ZiJ Rat.le_refl (ZeW hn hm.pos) h0
   by_cases hex:∃ y ∈ ms,y.1=p
   ·obtain⟨y,hy,rfl⟩:=hex
    rw[Z0 hm.sorted hy]
    exact hz _ (List.mem_map.2 ⟨y,hy,rfl⟩)
   ·rw[Zbt fun y hy e=>hex ⟨y,hy,e⟩,Rat.zero_mul]
theorem ZdX {b:BelP} {ns:List NoteP} {t:Nat} (hn:∀ k,k<ns.length->ZH b (ntA ns k)=true) {s r:Fl×Rat} (hs:Z1 b s.1 s.2) {k:Nat} (hk:k<=ns.length) (h:Zt (Zab ns t) k s=.ok r) :
  Z1 b r.1 r.2/\∀ p,fget r.1 p*r.2=fget s.1 p*s.2*ZaI t p (ns.take k):=by
 refine Zaf (P:=fun k r=>Z1 b r.1 r.2/\∀ p,fget r.1 p*r.2=fget s.1 p*s.2*ZaI t p (ns.take k)) ⟨hs,fun p=>by rw[List.take_zero];simp only[ZaI];grind⟩ _ (fun i x y hi hP hg=>?_) r h
 have hi':i<ns.length:=Zp2 hi hk
 obtain⟨hP,hget⟩:=hP
 unfold Zab at hg
 split at hg
 ·rename_i ht
  cases h1:ZaF x.1 (ntA ns i) with
  | error e=>rw[h1] at hg;cases hg
  | ok o=>
   obtain⟨m,z⟩:=o
   rw[h1] at hg
   simp only at hg
   cases h2:mulF x.2 z with
   | error e=>rw[h2] at hg;cases hg
   | ok l=>
    rw[h2] at hg
    obtain rfl:=Zbi h2
    cases hg
    have hl:=Znz (hn i hi') hP.1 h1
    obtain⟨p1,p2,p3,p4⟩:=hP
    obtain⟨q1,q2,q3,q4⟩:=Zby (hn i hi') p1 h1
    rw[p2] at q4
    refine⟨⟨q1,q2,Rat.mul_pos p3 q3,?_⟩,fun p=>?_⟩
    ·have:=Rat.mul_le_mul_of_nonneg_left q4 (Rat.le_of_lt p3)
     show x.2*z<=1
     grind
    ·rw[ZdT t p hi',if_pos ht]
     show fget m p*(x.2*z)=_
     have h5:=hl p
     have h6:=hget p
     grind
 ·rename_i ht
  cases hg
  refine⟨hP,fun p=>?_⟩
  rw[ZdT t p hi',if_neg ht,Rat.mul_one]
  exact hget p
theorem Zfq {b:BelP} {ns:List NoteP} {t:Nat} (hn:∀ k,k<ns.length->ZH b (ntA ns k)=true) {s:Fl×Rat} (hs:Z1 b s.1 s.2) {e:Int} (h:Zt (Zab ns t) ns.length s=.error e) :
  e=4\/(e=7/\∀ p,fget s.1 p*s.2*ZaI t p ns=0):=by
 obtain⟨k,x,hk,h1,hg⟩:=Zbu _ h
 obtain⟨hP,hget⟩:=ZdX hn hs (Zqr hk) h1
 unfold Zab at hg
 split at hg
 ·rename_i ht
  cases h2:ZaF x.1 (ntA ns k) with
  | error e2=>
   rw[h2] at hg
   cases hg
   rcases Znb (hn k hk) hP.1 h2 with he | ⟨he,h0⟩
   ·exact .inl he
   ·refine .inr ⟨he,fun p=>ZnD (k:=k+1) ?_⟩
    rw[ZdT t p hk,if_pos ht]
    have h5:=h0 p
    have h6:=hget p
    grind
  | ok o=>
   obtain⟨m,z⟩:=o
   rw[h2] at hg
   simp only at hg
   cases h3:mulF x.2 z with
   | error e2=>rw[h3] at hg;cases hg;exact .inl (ZcC h3)
   | ok l=>rw[h3] at hg;cases hg
 ·cases hg
theorem Zny {b:BelP} {ns:List NoteP} (hn:∀ k,k<ns.length->ZH b (ntA ns k)=true):∀ k,k<ns.reverse.length->ZH b (ntA ns.reverse k)=true:=fun k hk=>by
 have hk':k<ns.length:=by simpa using hk
 rw[<- Zbn hk,List.getElem_reverse,Zbn Za]
 exact hn _ Za
theorem Zgh {b:BelP} {m:Fl} {l:Rat} (h:Z1 b m l):∃ p,fget m p*l≠0:=by
 obtain⟨h1,h2,h3,_⟩:=h
 cases m with
 | nil=>simp only[totF] at h2;exact Zqx h2 Zd
 | cons z r=>
  refine⟨z.1,?_⟩
  rw[Z0 h1.sorted Zc]
  have:=Rat.mul_pos (h1.pos z Zc) h3
  grind
theorem ZkR {b:BelP} {ns:List NoteP} {t:Nat} (hn:∀ k,k<ns.length->ZH b (ntA ns k)=true) {s:Fl×Rat} (hs:Z1 b s.1 s.2) :
  Zt (Zab ns t) ns.length s=Zt (Zab ns.reverse t) ns.reverse.length s\/Zt (Zab ns t) ns.length s=.error 4\/Zt (Zab ns.reverse t) ns.reverse.length s=.error 4:=by
 have hn':=Zny hn
 cases h1:Zt (Zab ns t) ns.length s with
 | error e1=>
  rcases Zfq hn hs h1 with rfl | ⟨rfl,h0⟩
  ·exact .inr (.inl rfl)
  ·cases h2:Zt (Zab ns.reverse t) ns.reverse.length s with
   | error e2=>
    rcases Zfq hn' hs h2 with rfl | ⟨rfl,_⟩
    ·exact .inr (.inr rfl)
    ·exact .inl rfl
   | ok r2=>
    obtain⟨g1,g2⟩:=ZdX hn' hs ZqI h2
    obtain⟨p,hp⟩:=Zgh g1
    rw[g2,List.take_length,ZcT,h0] at hp
    exact Zqx rfl hp
 | ok r1=>
  obtain⟨f1,f2⟩:=ZdX hn hs ZqI h1
  cases h2:Zt (Zab ns.reverse t) ns.reverse.length s with
  | error e2=>
   rcases Zfq hn' hs h2 with rfl | ⟨rfl,h0⟩
   ·exact .inr (.inr rfl)
   ·obtain⟨p,hp⟩:=Zgh f1
    have h3:=h0 p
    rw[ZcT] at h3
    rw[f2,List.take_length,h3] at hp
    exact Zqx rfl hp
  | ok r2=>
   obtain⟨g1,g2⟩:=ZdX hn' hs ZqI h2
   obtain⟨e1,e2⟩:=ZlY f1 g1 fun p=>by rw[f2,g2,List.take_length,List.take_length,ZcT]
   exact .inl (by rw[show r1=r2 from Prod.ext e1 e2])
theorem ZnN {b:BelP} {ns:List NoteP} (hb:ZF b=true) (hn:∀ k,k<ns.length->ZH b (ntA ns k)=true) {m:Fl} (hm:ZaK b=.ok m) {t:Nat} {s:List Fl×Fl×Rat} (h:Zt (ZaG b ns) t ([],m,1)=.ok s) :
  s.1.length=t/\Z1 b s.2.1 s.2.2:=by
 obtain⟨m1,m2⟩:=Zdd hb hm
 refine Zaf (P:=fun t s=>s.1.length=t/\Z1 b s.2.1 s.2.2) ⟨rfl,m1,m2,(by decide:(0:Rat)<1),Rat.le_refl⟩ _ (fun t x y ht hP hg=>?_) s h
 obtain⟨p1,p3⟩:=hP
 unfold ZaG at hg
 cases h3:(if t=0 then .ok x.2.1 else ZaB b x.2.1:Except Int Fl) with
 | error e=>rw[h3] at hg;cases hg
 | ok now=>
  rw[h3] at hg
  simp only at hg
  have hnow:Z1 b now x.2.2:=by
   by_cases h0:t=0
   ·rw[if_pos h0] at h3;cases h3;exact p3
   ·rw[if_neg h0] at h3
    obtain⟨a1,a2⟩:=Zcz hb p3.1 h3
    exact⟨a1,by rw[a2];exact p3.2.1,p3.2.2⟩
  cases h4:Zt (Zab ns t) ns.length (now,x.2.2) with
  | error e=>rw[h4] at hg;cases hg
  | ok r=>
   rw[h4] at hg
   cases hg
   exact⟨by simp[p1],Zf8 hn hnow h4⟩
theorem Zlu {b:BelP} {ns:List NoteP} (hb:ZF b=true) (hn:∀ k,k<ns.length->ZH b (ntA ns k)=true) {t:Nat} {s:List Fl×Fl×Rat} (hs:Z1 b s.2.1 s.2.2) :
  ZaG b ns t s=ZaG b ns.reverse t s\/ZaG b ns t s=.error 4\/ZaG b ns.reverse t s=.error 4:=by
 unfold ZaG
 cases h3:(if t=0 then .ok s.2.1 else ZaB b s.2.1:Except Int Fl) with
 | error e=>exact .inl rfl
 | ok now=>
  simp only
  have hnow:Z1 b now s.2.2:=by
   by_cases h0:t=0
   ·rw[if_pos h0] at h3;cases h3;exact hs
   ·rw[if_neg h0] at h3
    obtain⟨a1,a2⟩:=Zcz hb hs.1 h3
    exact⟨a1,by rw[a2];exact hs.2.1,hs.2.2⟩
  rcases ZkR (t:=t) hn (s:=(now,s.2.2)) hnow with h | h | h
  ·exact .inl (by rw[h])
  ·exact .inr (.inl (by rw[h]))
  ·exact .inr (.inr (by rw[h]))
theorem Zgi {b:BelP} {ns:List NoteP} (hb:ZF b=true) (hn:∀ k,k<ns.length->ZH b (ntA ns k)=true) {m:Fl} (hm:ZaK b=.ok m):∀ t,
  Zt (ZaG b ns) t ([],m,1)=Zt (ZaG b ns.reverse) t ([],m,1)\/Zt (ZaG b ns) t ([],m,1)=.error 4\/Zt (ZaG b ns.reverse) t ([],m,1)=.error 4
 | 0=>.inl rfl
 | t+1=>by
  rcases Zgi hb hn hm t with h | h | h
  ·cases h1:Zt (ZaG b ns) t ([],m,1) with
   | error e=>exact .inl (by rw[Zb2 h1 1,Zb2 (h.symm.trans h1) 1])
   | ok s=>
    rw[Zag h1,Zag (h.symm.trans h1)]
    exact Zlu hb hn (ZnN hb hn hm h1).2
  ·exact .inr (.inl (Zb2 h 1))
  ·exact .inr (.inr (Zb2 h 1))
theorem Zfu {b:BelP} {ns:List NoteP} (hb:ZF b=true) (hn:∀ k,k<ns.length->ZH b (ntA ns k)=true) (k:Nat):Zae b ns k=Zae b ns.reverse k\/Zae b ns k=.error 4\/Zae b ns.reverse k=.error 4:=by
 unfold Zae
 cases hm:ZaK b with
 | error e=>exact .inl rfl
 | ok m=>
  simp only
  rcases Zgi hb hn hm (k+1) with h | h | h
  ·exact .inl (by rw[h])
  ·exact .inr (.inl (by rw[h]))
  ·exact .inr (.inr (by rw[h]))
theorem Ziz {ns:List NoteP} {f:NoteP->Bool} : ZV (fun k=>f (ntA ns.reverse k)) ns.reverse.length=ZV (fun k=>f (ntA ns k)) ns.length:=by
 rw[Bool.eq_iff_iff,ZcK,ZcK]
 constructor
 ·rintro⟨i,h1,h2⟩
  have h1':i<ns.length:=by simpa using h1
  refine⟨ns.length-1-i,Za,?_⟩
  rw[<- Zbn h1,List.getElem_reverse,Zbn Za] at h2
  exact h2
 ·rintro⟨i,h1,h2⟩
  have h3:ns.length-1-i<ns.reverse.length:=by simp;omega
  refine⟨ns.length-1-i,h3,?_⟩
  rw[<- Zbn h3,List.getElem_reverse,Zbn Za,show ns.length-1-(ns.length-1-i)=i by omega]
  exact h2
theorem Zg5 (b:BelP) (ns:List NoteP) (k:Int):Z3 b ns.reverse k=Z3 b ns k:=by
 unfold Z3
 rw[Ziz (f:=fun n=>!ZH b n),Ziz (f:=fun n=>decide (k<n.time)),List.length_reverse]
def Za1 (ns:List NoteP) (t:Nat) (p:Pl) (i:Nat) (q:Rat):Except Int Rat:=if (ntA ns i).time=(t:Int) then mulF q (ZE (ntA ns i) p) else .ok q
def ZaU (ns:List NoteP) (t:Nat) (p:Pl):Except Int Rat:=Zt (Za1 ns t p) ns.length 1
def ZfX (x:Except Int Rat) (y:Except Int Rat):Except Int Rat:=match x with
 | .error e=>.error e
 | .ok q=>match y with
  | .error e=>.error e
  | .ok r=>mulF q r
def Zaw (x:Except Int Rat) (c:Rat) (y:Except Int Rat) (s:Rat):Except Int Rat:=match x with
 | .error e=>.error e
 | .ok q=>match mulF c q with
  | .error e=>.error e
  | .ok h=>match y with
   | .error e=>.error e
   | .ok r=>match mulF h r with
    | .error e=>.error e
    | .ok z=>if Fits (s+z) then .ok (s+z) else .error 4
def ZC (b:BelP) (ns:List NoteP):Nat->Nat->Pl->Except Int Rat
 | 0,_,_=>.ok 1
 | d+1,t,p=>if Zaz b p then ZfX (ZaU ns (t+1) p) (ZC b ns d (t+1) p)
   else Zt (fun i s=>Zaw (ZaU ns (t+1) (Z6 b p (stA (Zw b p.1) i))) (qP (stA (Zw b p.1) i).chance) (ZC b ns d (t+1) (Z6 b p (stA (Zw b p.1) i))) s) (Zw b p.1).length 0
def Zav (b:BelP) (ns:List NoteP) (steps:Nat) (all:List Fl) (t:Nat) (s:List Fl):Except Int (List Fl):=
 match Zai (ZC b ns (steps-t) t) (all.getD t []) with
 | .error e=>.error e
 | .ok (o,_)=>.ok (s++[o])
def Za2 (b:BelP) (ns:List NoteP) (steps:Nat):Except Int (List Fl):=
 match Zae b ns steps with
 | .error e=>.error e
 | .ok (all,_)=>Zt (Zav b ns steps all) all.length []
def Zb5 (b:BelP) (ns:List NoteP) (steps:Int):Except Int (List Fl):=if Z3 b ns steps=0 then Za2 b ns steps.toNat else .error (Z3 b ns steps)
def ZbP (b:BelP) (ns:List NoteP):Nat->Nat->Pl->Rat
 | 0,_,_=>1
 | d+1,t,p=>if Zaz b p then ZaI (t+1) p ns*ZbP b ns d (t+1) p
   else sumR 0 ((Zw b p.1).map fun x=>qP x.chance*(ZaI (t+1) (Z6 b p x) ns*ZbP b ns d (t+1) (Z6 b p x)))
theorem Zgf {ns:List NoteP} {t:Nat} {p:Pl} {q:Rat} (h:ZaU ns t p=.ok q):q=ZaI t p ns:=by
 have:=Zaf (P:=fun k q=>q=ZaI t p (ns.take k)) rfl _ (fun k x y hk hP hg=>by
  rw[ZdT t p hk]
  unfold Za1 at hg
  split at hg
  ·rename_i ht
   obtain rfl:=Zbi hg
   rw[if_pos ht,hP]
  ·rename_i ht
   cases hg
   rw[if_neg ht,hP,Rat.mul_one]) q h
 rwa [List.take_length] at this
theorem Zgc {ns:List NoteP} {t:Nat} {p:Pl} {e:Int} (h:ZaU ns t p=.error e):e=4:=by
 obtain⟨k,s,_,_,hg⟩:=Zbu _ h
 unfold Za1 at hg
 split at hg
 ·exact ZcC hg
 ·cases hg
theorem Zn1 {x y:Except Int Rat} {z:Rat} (h:ZfX x y=.ok z):∃ q r,x=.ok q/\y=.ok r/\z=q*r:=by
 unfold ZfX at h
 cases x with
 | error e=>cases h
 | ok q=>
  simp only at h
  cases y with
  | error e=>cases h
  | ok r=>exact⟨q,r,rfl,rfl,Zbi h⟩
theorem Zn5 {x y:Except Int Rat} {e:Int} (hx:∀ e,x=.error e->e=4) (hy:∀ e,y=.error e->e=4) (h:ZfX x y=.error e):e=4:=by
 unfold ZfX at h
 cases x with
 | error e'=>cases h;exact hx _ rfl
 | ok q=>
  simp only at h
  cases y with
  | error e'=>cases h;exact hy _ rfl
  | ok r=>exact ZcC h
theorem ZlA {x y:Except Int Rat} {c s z:Rat} (h:Zaw x c y s=.ok z):∃ q r,x=.ok q/\y=.ok r/\z=s+c*(q*r):=by
 unfold Zaw at h
 cases x with
 | error e=>cases h
 | ok q=>
  simp only at h
  cases h1:mulF c q with
  | error e=>rw[h1] at h;cases h
  | ok u=>
   rw[h1] at h
   simp only at h
   cases y with
   | error e=>cases h
   | ok r=>
    simp only at h
    cases h2:mulF u r with
    | error e=>rw[h2] at h;cases h
    | ok v=>
     rw[h2] at h
     simp only at h
     split at h
     ·cases h
      obtain rfl:=Zbi h1
      obtain rfl:=Zbi h2
      exact⟨q,r,rfl,rfl,Zk⟩
     ·cases h
theorem ZlC {x y:Except Int Rat} {c s:Rat} {e:Int} (hx:∀ e,x=.error e->e=4) (hy:∀ e,y=.error e->e=4) (h:Zaw x c y s=.error e):e=4:=by
 unfold Zaw at h
 cases x with
 | error e'=>cases h;exact hx _ rfl
 | ok q=>
  simp only at h
  cases h1:mulF c q with
  | error e'=>rw[h1] at h;cases h;exact ZcC h1
  | ok u=>
   rw[h1] at h
   simp only at h
   cases y with
   | error e'=>cases h;exact hy _ rfl
   | ok r=>
    simp only at h
    cases h2:mulF u r with
    | error e'=>rw[h2] at h;cases h;exact ZcC h2
    | ok v=>
     rw[h2] at h
     simp only at h
     split at h
     ·cases h
     ·cases h;rfl
theorem Zdg {b:BelP} {ns:List NoteP} : ∀ (d t:Nat) (p:Pl) (z:Rat),ZC b ns d t p=.ok z->z=ZbP b ns d t p
 | 0,_,_,z,h=>by cases h;rfl
 | d+1,t,p,z,h=>by
  unfold ZC at h
  unfold ZbP
  by_cases hs:Zaz b p=true
  ·rw[if_pos hs] at h ⊢
   obtain⟨q,r,h1,h2,rfl⟩:=Zn1 h
   rw[Zgf h1,Zdg d _ _ _ h2]
  ·rw[if_neg hs] at h ⊢
   obtain⟨l,hl⟩:=ZqJ (Zw b p.1)
   rw[hl] at h ⊢
   have:=Zaf (P:=fun k z=>z=sumR 0 ((l.map fun x=>qP x.chance*(ZaI (t+1) (Z6 b p x) ns*ZbP b ns d (t+1) (Z6 b p x))).take k)) rfl _ (fun k x y hk hP hg=>by
    rw[Zdk (by rw[List.length_map];exact hk),<- hP]
    obtain⟨q,r,h1,h2,rfl⟩:=ZlA hg
    rw[Zgf h1,Zdg d _ _ _ h2,List.getD_eq_getElem?_getD,Zqg (by rw[List.length_map];exact hk),List.getElem_map,ZcG hk]
    rfl) z h
   rwa [Zp5 (by rw[List.length_map];exact Nat.le_refl _)] at this
theorem Zd8 {b:BelP} {ns:List NoteP} : ∀ (d t:Nat) (p:Pl) (e:Int),ZC b ns d t p=.error e->e=4
 | 0,_,_,e,h=>by cases h
 | d+1,t,p,e,h=>by
  unfold ZC at h
  by_cases hs:Zaz b p=true
  ·rw[if_pos hs] at h
   exact Zn5 (fun e=>Zgc) (fun e=>Zd8 d _ _ e) h
  ·rw[if_neg hs] at h
   obtain⟨k,s,_,_,hg⟩:=Zbu _ h
   exact ZlC (fun e=>Zgc) (fun e=>Zd8 d _ _ e) hg
theorem Zf5 {b:BelP} {ns:List NoteP} : ∀ (d t:Nat) (p:Pl),ZbP b ns.reverse d t p=ZbP b ns d t p
 | 0,_,_=>rfl
 | d+1,t,p=>by
  unfold ZbP
  simp only[ZcT,Zf5 d]
def Zdz (g:Pl->Rat) (ms:Fl):List Rat:=ms.map fun z=>z.2*g z.1
theorem ZjB {g:Pl->Except Int Rat} {x:Pl->Rat} (hx:∀ p q,g p=.ok q->q=x p) {ms:Fl} {l:List Rat} (h:Zt (Za9 g ms) ms.length []=.ok l):l=Zdz x ms:=by
 have:=Zaf (P:=fun k l=>l=Zdz x (ms.take k)) rfl _ (fun k s s' hk hP hg=>by
  unfold Za9 at hg
  cases h0:g (mA ms k).1 with
  | error e=>rw[h0] at hg;cases hg
  | ok r=>
   rw[h0] at hg
   simp only at hg
   cases h1:mulF (mA ms k).2 r with
   | error e=>rw[h1] at hg;cases hg
   | ok q=>
    rw[h1] at hg
    obtain rfl:=Zbi h1
    obtain rfl:=hx _ _ h0
    cases hg
    subst hP
    show _=Zdz x (ms.take (k+1))
    unfold Zdz
    rw[List.take_succ_eq_append_getElem hk,List.map_append,Z9 hk]
    rfl) l h
 rwa [List.take_length] at this
theorem ZnJ {g:Pl->Except Int Rat} (hx:∀ p e,g p=.error e->e=4) {ms:Fl} {e:Int} (h:Zt (Za9 g ms) ms.length []=.error e):e=4:=by
 obtain⟨k,s,_,_,hg⟩:=Zbu _ h
 unfold Za9 at hg
 cases h0:g (mA ms k).1 with
 | error e1=>rw[h0] at hg;cases hg;exact hx _ _ h0
 | ok r=>
  rw[h0] at hg
  simp only at hg
  cases h1:mulF (mA ms k).2 r with
  | error e1=>rw[h1] at hg;cases hg;exact ZcC h1
  | ok q=>rw[h1] at hg;cases hg
theorem ZkF {g:Pl->Except Int Rat} {x:Pl->Rat} (hx:∀ p q,g p=.ok q->q=x p) {ms out:Fl} {z:Rat} (hs:ZI ms) (h:Zai g ms=.ok (out,z)):z=sumR 0 (Zdz x ms)/\z≠0/\out=nzF (Zb3 z (Zdz x ms) ms):=by
 unfold Zai at h
 cases h1:Zt (Za9 g ms) ms.length [] with
 | error e=>rw[h1] at h;cases h
 | ok l=>
  rw[h1] at h
  obtain rfl:=ZjB hx h1
  obtain⟨h2,h3,h4⟩:=ZcM hs h
  exact⟨h2,h3,ZdJ h4⟩
theorem ZkP {g:Pl->Except Int Rat} {x:Pl->Rat} (hx:∀ p q,g p=.ok q->q=x p) (hb:∀ p e,g p=.error e->e=4) {ms:Fl} {e:Int} (h:Zai g ms=.error e):e=4\/(e=7/\sumR 0 (Zdz x ms)=0):=by
 unfold Zai at h
 cases h1:Zt (Za9 g ms) ms.length [] with
 | error e=>rw[h1] at h;cases h;exact .inl (ZnJ hb h1)
 | ok l=>
  rw[h1] at h
  obtain rfl:=ZjB hx h1
  exact Zhr h
def ZdV (b:BelP) (ns:List NoteP) (steps:Nat) (all:List Fl) (t:Nat):List Rat:=Zdz (ZbP b ns (steps-t) t) (all.getD t [])
def Zer (b:BelP) (ns:List NoteP) (steps:Nat) (all:List Fl) (t:Nat):Fl:=nzF (Zb3 (sumR 0 (ZdV b ns steps all t)) (ZdV b ns steps all t) (all.getD t []))
theorem Zey {b:BelP} {ns:List NoteP} {steps:Nat} {all out:List Fl} (hs:∀ t,ZI (all.getD t [])) {n:Nat} (h:Zt (Zav b ns steps all) n []=.ok out) :
  out=(List.range n).map (Zer b ns steps all)/\∀ t,t<n->sumR 0 (ZdV b ns steps all t)≠0:=by
 refine Zaf (P:=fun n out=>out=(List.range n).map (Zer b ns steps all)/\∀ t,t<n->sumR 0 (ZdV b ns steps all t)≠0) ⟨rfl,fun t h=>Zqx h (Zql _)⟩ n (fun k s s' hk hP hg=>?_) out h
 obtain⟨rfl,hP⟩:=hP
 unfold Zav at hg
 cases h1:Zai (ZC b ns (steps-k) k) (all.getD k []) with
 | error e=>rw[h1] at hg;cases hg
 | ok o=>
  obtain⟨o,z⟩:=o
  rw[h1] at hg
  cases hg
  obtain⟨h2,h3,h4⟩:=ZkF (fun p q=>Zdg _ _ p q) (hs k) h1
  refine⟨?_,fun t ht=>?_⟩
  ·rw[List.range_succ,List.map_append,h4,h2]
   rfl
  ·by_cases e:t=k
   ·subst e
    rw[h2] at h3
    exact h3
   ·exact hP t Za
theorem ZeP {b:BelP} {ns:List NoteP} {steps:Nat} {all:List Fl} {n:Nat} {e:Int} (h:Zt (Zav b ns steps all) n []=.error e):e=4\/(e=7/\∃ t,t<n/\sumR 0 (ZdV b ns steps all t)=0):=by
 obtain⟨k,s,hk,_,hg⟩:=Zbu _ h
 unfold Zav at hg
 cases h1:Zai (ZC b ns (steps-k) k) (all.getD k []) with
 | error e1=>
  rw[h1] at hg
  cases hg
  rcases ZkP (fun p q=>Zdg _ _ p q) (fun p e=>Zd8 _ _ p e) h1 with h2 | ⟨h2,h3⟩
  ·exact .inl h2
  ·exact .inr ⟨h2,k,hk,h3⟩
 | ok o=>rw[h1] at hg;cases hg
theorem Zfr (b:BelP) (ns:List NoteP) (steps:Nat) (all:List Fl) (t:Nat):ZdV b ns.reverse steps all t=ZdV b ns steps all t:=by
 unfold ZdV Zdz
 simp only[Zf5]
theorem Zkq (b:BelP) (ns:List NoteP) (steps:Nat) (all:List Fl) (t:Nat):Zer b ns.reverse steps all t=Zer b ns steps all t:=by
 unfold Zer
 rw[Zfr]
theorem ZiR {b:BelP} {ns:List NoteP} {k:Nat} {all:List Fl} {left:Rat} (hb:ZF b=true) (hn:∀ k,k<ns.length->ZH b (ntA ns k)=true) (h:Zae b ns k=.ok (all,left)) (t:Nat):ZI (all.getD t []):=by
 obtain⟨h1,h2,_⟩:=ZdL hb hn h
 by_cases ht:t<=k
 ·exact(h2 t ht).1.sorted
 ·rw[List.getD_eq_getElem?_getD,List.getElem?_eq_none Za]
  exact List.Pairwise.nil
theorem ZiO {b:BelP} {ns:List NoteP} {steps:Nat} {all:List Fl} (hs:∀ t,ZI (all.getD t [])) (n:Nat) :
  Zt (Zav b ns steps all) n []=Zt (Zav b ns.reverse steps all) n []\/Zt (Zav b ns steps all) n []=.error 4\/Zt (Zav b ns.reverse steps all) n []=.error 4:=by
 cases h1:Zt (Zav b ns steps all) n [] with
 | error e1=>
  rcases ZeP h1 with rfl | ⟨rfl,t,ht,h0⟩
  ·exact .inr (.inl rfl)
  ·cases h2:Zt (Zav b ns.reverse steps all) n [] with
   | error e2=>
    rcases ZeP h2 with rfl | ⟨rfl,_⟩
    ·exact .inr (.inr rfl)
    ·exact .inl rfl
   | ok o2=>
    have h3:=(Zey hs h2).2 t ht
    rw[Zfr] at h3
    exact Zqx h0 h3
 | ok o1=>
  obtain⟨e1,f1⟩:=Zey hs h1
  cases h2:Zt (Zav b ns.reverse steps all) n [] with
  | error e2=>
   rcases ZeP h2 with rfl | ⟨rfl,t,ht,h0⟩
   ·exact .inr (.inr rfl)
   ·rw[Zfr] at h0
    exact Zqx h0 (f1 t ht)
  | ok o2=>
   obtain⟨e2,_⟩:=Zey hs h2
   refine .inl ?_
   rw[e1,e2]
   congr 2
   funext t
   exact(Zkq b ns steps all t).symm
theorem ZjY {b:BelP} {ns:List NoteP} (hb:ZF b=true) (hn:∀ k,k<ns.length->ZH b (ntA ns k)=true) (k:Nat):Za2 b ns k=Za2 b ns.reverse k\/Za2 b ns k=.error 4\/Za2 b ns.reverse k=.error 4:=by
 unfold Za2
 rcases Zfu hb hn k with h | h | h
 ·rw[<- h]
  cases h1:Zae b ns k with
  | error e=>exact .inl rfl
  | ok r=>
   obtain⟨all,left⟩:=r
   exact ZiO (ZiR hb hn h1) _
 ·exact .inr (.inl (by rw[h]))
 ·exact .inr (.inr (by rw[h]))
theorem ZiW (b:BelP) (ns:List NoteP) (k:Int):Zb5 b ns k=Zb5 b ns.reverse k\/Zb5 b ns k=.error 4\/Zb5 b ns.reverse k=.error 4:=by
 unfold Zb5
 rw[Zg5]
 by_cases h:Z3 b ns k=0
 ·rw[if_pos h,if_pos h]
  obtain⟨h1,h2,_⟩:=ZeK h
  exact ZjY h1 h2 k.toNat
 ·rw[if_neg h,if_neg h]
  exact .inl rfl
theorem Zi3 (b:BelP) (ns:List NoteP) (k:Int):ZbF b ns k=ZbF b ns.reverse k\/ZbF b ns k=.error 4\/ZbF b ns.reverse k=.error 4:=by
 unfold ZbF
 rw[Zg5]
 by_cases h:Z3 b ns k=0
 ·rw[if_pos h,if_pos h]
  obtain⟨h1,h2,_⟩:=ZeK h
  unfold ZdS
  rcases Zfu h1 h2 k.toNat with h | h | h
  ·exact .inl (by rw[h])
  ·exact .inr (.inl (by rw[h]))
  ·exact .inr (.inr (by rw[h]))
 ·rw[if_neg h,if_neg h]
  exact .inl rfl
abbrev Mo:=Nat×Pl
abbrev Kl:=List (Mo×Rat)
abbrev kMo (t:Nat) (p:Pl):Value:=.agg #[.int .i64 t,.int .i64 p.1,.int .i64 p.2.1,.int .i64 p.2.2]
def MoB (k:Mo):Prop:=k.1<=32/\PlB k.2
theorem Zh6 {a c:Mo} (h:kMo a.1 a.2=kMo c.1 c.2):a=c:=by
 obtain⟨a,x,y,z⟩:=a
 obtain⟨c,u,v,t⟩:=c
 have h2:(a:Int)=(c:Int)/\x=u/\y=v/\z=t:=by simpa[kMo] using h
 obtain⟨h3,rfl,rfl,rfl⟩:=h2
 obtain rfl:=Int.ofNat.inj h3
 rfl
def kset (K:Kl) (k:Mo) (q:Rat):Kl:=(k,q)::K.filter fun z=>decide (z.1≠k)
theorem Zc4 {K:Kl} {k:Mo} {q:Rat} {z:Mo×Rat} : z ∈ kset K k q<->z=(k,q)\/(z ∈ K/\z.1≠k):=by
 unfold kset
 rw[List.mem_cons,List.mem_filter,Zqu]
theorem Zl6 {K:Kl} {k:Mo} {q:Rat} (h:(K.map Prod.fst).Nodup):((kset K k q).map Prod.fst).Nodup:=by
 unfold kset
 rw[List.map_cons,List.nodup_cons]
 refine⟨fun hm=>?_,?_⟩
 ·obtain⟨z,hz,he⟩:=List.mem_map.1 hm
  have:=(List.mem_filter.1 hz).2
  rw[Zqu] at this
  exact this he
 ·exact h.sublist (List.Sublist.map _ List.filter_sublist)
theorem ZeB {α:Type} : ∀ {l K:List α},l.Nodup->(∀ x ∈ l,x ∈ K)->l.length<=K.length
 | [],_,_,_=>Zp8 _
 | x::l,K,h,hm=>by
  obtain⟨h1,h2⟩:=List.nodup_cons.1 h
  obtain⟨a,c,rfl⟩:=List.append_of_mem (hm x Zc)
  have:=ZeB (K:=a++c) h2 fun y hy=>by
   have h3:=hm y (List.mem_cons_of_mem _ hy)
   rw[List.mem_append,List.mem_cons] at h3
   rw[List.mem_append]
   rcases h3 with h3 | h3 | h3
   ·exact .inl h3
   ·subst h3;exact Zqx hy h1
   ·exact .inr h3
  simp only[Zqv,Zqc] at this ⊢
  omega
theorem Znv {α β:Type} {f:α->β} (hf:∀ a c,f a=f c->a=c) {l:List α} (h:l.Nodup):(l.map f).Nodup:=by
 rw[List.nodup_iff_pairwise_ne,List.pairwise_map]
 exact(List.nodup_iff_pairwise_ne.1 h).imp fun hab e=>hab (hf _ _ e)
def moNo (k:Mo):Nat:=k.1*528392+plNo k.2
theorem Zoq {a c:Mo} (ha:MoB a) (hc:MoB c) (h:moNo a=moNo c):a=c:=by
 have h1:=ZfS ha.2
 have h2:=ZfS hc.2
 unfold moNo at h
 have e1:a.1=c.1:=Za
 have e2:plNo a.2=plNo c.2:=Za
 have e3:a.2=c.2:=by
  by_cases e:a.2=c.2
  ·exact e
  ·rcases Zhj e with h | h
   ·have:=Zig ha.2 hc.2 h;omega
   ·have:=Zig hc.2 ha.2 h;omega
 exact Prod.ext e1 e3
theorem ZkY {l:List Nat} {N:Nat} (h:l.Nodup) (hb:∀ x ∈ l,x<N):l.length<=N:=by
 have:=ZeB h (K:=List.range N) fun x hx=>List.mem_range.2 (hb x hx)
 simpa using this
theorem ZmD {K:Kl} (h:(K.map Prod.fst).Nodup) (hb:∀ z ∈ K,MoB z.1):K.length<=17436936:=by
 have h1:(K.map fun z=>moNo z.1).Nodup:=by
  rw[List.nodup_iff_pairwise_ne,List.pairwise_map]
  have h2:=List.nodup_iff_pairwise_ne.1 h
  rw[List.pairwise_map] at h2
  exact h2.imp_of_mem fun {a c} ha hc hac e=>hac (Zoq (hb a ha) (hb c hc) e)
 have:=ZkY h1 (N:=17436936) fun x hx=>by
  obtain⟨z,hz,rfl⟩:=List.mem_map.1 hx
  have h2:=hb z hz
  have h3:=ZfS h2.2
  have h4:=h2.1
  unfold moNo
  omega
 simpa using this
abbrev moO (t:Nat) (p:Pl):Obj:=.cells #[.int .i64 t,.int .i64 p.1,.int .i64 p.2.1,.int .i64 p.2.2] 120
theorem Zko {ns:List NoteP} {t:Nat} {p:Pl} {k:Nat} {q:Rat} (h:(ntA ns k).time=(t:Int)):Za1 ns t p k q=mulF q (ZE (ntA ns k) p):=by unfold Za1;rw[if_pos h]
theorem Zmx {ns:List NoteP} {t:Nat} {p:Pl} {k:Nat} {q:Rat} (h:¬ (ntA ns k).time=(t:Int)):Za1 ns t p k q=.ok q:=by unfold Za1;rw[if_neg h]
theorem ZgF {b:BelP} {nl:Value} {ns:List NoteP} {t:Nat} {p:Pl} {NB:Nat} {w:World} (hl:NotesIn ns nl w) (hn:∀ k,k<ns.length->ZH b (ntA ns k)=true) (hp:PlB p) (hB:w.heap[NB]?=some (nsO nl)) (hT:Tabs w) (hZ:BelZ w) :
  Calls Tryz.prog 56 #[kMo t p,.pointer (some ⟨NB,0,none⟩)] w (fun e w'=>Zd0 (ZaU ns t p) e/\Below w.heap.size w w'):=by
 obtain⟨n,hn'⟩:=ZqJ ns.length
 obtain⟨pn,cn,rfl,hc1,hc2⟩:=hl.list.shape hn'
 obtain⟨a,x,y⟩:=p
 have HN:=ZqH hn'
 have HNB:=ZqH hn
 have HP:=ZqH hp
 have HT:=ZqH hT
 have HZ:=ZqH hZ
 have HAT:=ZqH (fun h0=>Zbm.at hl.list hn' h0)
 have HNF:Hid (ZaU ns t (a,x,y)=Zt (Za1 ns t (a,x,y)) n 1):=by show _=_;unfold ZaU;rw[hn']
 obtain⟨W0,hW0⟩:=ZqJ ((w.alloc (moO t (a,x,y))).alloc (pObj ZqD ZqD))
 have hbl:=(ZqC hB)
 have hE0:Env w.heap.size w [(w.heap.size+1,pObj ZqD ZqD),(w.heap.size,moO t (a,x,y))] [] W0:=by rw[<- hW0];exact((Env.start w).push _ rfl).push _ Zc
 have zz:=hZ.below hE0.base ZqI
 have z0:=zz.o0
 have z1:=zz.o1
 obtain⟨P,hP⟩:=ZqJ W0.heap.size
 have HPP:Hid (w.heap.size+2=P):=by show _=_;rw[<- hP,<- hW0];simp
 obtain⟨w1,hw1⟩:=ZqJ (W0.alloc (pObj ⟨#[49]⟩ ⟨#[49]⟩))
 have HE1:Hid (Env w.heap.size w [(P,pObj ⟨#[49]⟩ ⟨#[49]⟩),(w.heap.size+1,pObj ZqD ZqD),(w.heap.size,moO t (a,x,y))] [] w1):=by rw[<- hw1];exact hE0.push _ hP.symm
 have HBN:Hid (∀ X,Below w.heap.size w X->X.cell? ⟨NB,0,none⟩=some (.slice pn n cn)):=fun X hX=>Zn ((hX.block NB hbl).trans hB) 0 rfl
 have HGP0:Hid (w1.heap[P]?=some (pObj ⟨#[49]⟩ ⟨#[49]⟩)):=HE1.out.block 0 rfl
 have HBW:Hid (∀ X,Keeps (fun b=>b≠P) w1 X->Below w.heap.size w X/\X.heap[w.heap.size]?=some (moO t (a,x,y))/\X.heap[w.heap.size+1]?=some (pObj ZqD ZqD)):=fun X hX=>by
  have:=HPP.out
  exact⟨HE1.out.base.trans ((hX.mono (S':=fun b=>b<w.heap.size) fun b _ hb=>by show b≠P;omega).toBelow HE1.out.own),(hX.block _ (HE1.out.lt 2 rfl) (by show w.heap.size≠P;omega)).trans (HE1.out.block 2 rfl),(hX.block _ (HE1.out.lt 1 rfl) (by show w.heap.size+1≠P;omega)).trans (HE1.out.block 1 rfl)⟩
 have bn:=HBN.out w1 HE1.out.base
 have HSP:Hid (P<w1.heap.size):=HE1.out.lt 0 rfl
 clear hl hn hn' hp hB hT hZ hE0 zz hbl
 go_enter Tryz.func56,Tryz.ntmps56
 go_wp2_with fail
 clear hw1 hW0 hP z0 z1 bn HE1
 go_loopw [10] (fun iv wr=>∃ (k:Nat) (q:Rat) (x3 y3:ByteArray),iv=.int .i64 k/\k<=n/\Hid (Zt (Za1 ns t (a,x,y)) k 1=.ok q)/\Hid (IsP q x3 y3)/\Hid (wr.heap[P]?=some (pObj x3 y3))/\Hid (Keeps (fun b=>b≠P) w1 wr)) (fun iv _=>n-(intOf iv).toNat)
 case atStart=>exact⟨0,1,⟨#[49]⟩,⟨#[49]⟩,rfl,Zp8 _,rfl,ZbD,HGP0,Keeps.refl _ _⟩
 case round=>
  obtain⟨k,q,x3,y3,rfl,hk,HLK,HIQ,HGP,HKR⟩:=hrel
  by_cases hlt:k<n
  ·obtain⟨bn,on,rfl,p0,n0,c0,hat⟩:=HAT.out Za
   obtain⟨hcell,hrun,_,_⟩:=hat k hlt
   obtain⟨e0,e1,e2,e3,e4,e5,e6⟩:=hcell wr (HBW.out wr HKR.out).1
   have hnb:=HNB.out k (by rw[HN.out];exact hlt)
   obtain⟨pc,hpc⟩:=ZqJ (p0 k)
   obtain⟨nc,hnc⟩:=ZqJ (n0 k)
   obtain⟨cc,hcc⟩:=ZqJ (c0 k)
   rw[hpc,hnc,hcc] at e2 hrun
   have HNY:Hid ((ntA ns k).time=(t:Int)->Za1 ns t (a,x,y) k q=mulF q (ZE (ntA ns k) (a,x,y))):=Zko
   have HNN:Hid (¬ (ntA ns k).time=(t:Int)->Za1 ns t (a,x,y) k q=.ok q):=Zmx
   obtain⟨nt,hnt⟩:=ZqJ (ntA ns k)
   rw[hnt] at e0 e1 e3 e4 e5 e6 hrun hnb HNY HNN
   have HRUN:=ZqH hrun
   have HNBJ:=ZqH hnb
   obtain⟨W,hW⟩:=ZqJ (wr.alloc (ntO nt (.slice pc nc cc)))
   obtain⟨q0,hq0⟩:=ZqJ wr.heap.size
   have hqb:W.heap[q0]?=some (ntO nt (.slice pc nc cc)):=by rw[<- hW,<- hq0];exact ZpY wr _
   have HQB:=ZqH hqb
   have hkw:∀ S:Nat->Prop,Keeps S wr W:=fun S=>by rw[<- hW];exact(Keeps.refl S wr).alloc _
   have HKW:Hid (Keeps (fun b=>b≠P) w1 W):=HKR.out.trans (hkw _)
   have HGW:Hid (W.heap[P]?=some (pObj x3 y3)):=((hkw (fun _=>True)).block _ (ZqC HGP.out) trivial).trans HGP.out
   obtain⟨b0,b1,b2,b3,b4,b5,b6⟩:=ZaA hqb
   have m0:=Zn (HBW.out W HKW.out).2.1 0 (v:=.int .i64 (t:Int)) rfl
   have j0:(0:Int)<=(k:Int):=Za
   have j1:(k:Int)<(n:Int):=Za
   clear hkw hcell hat hrun hnb hqb hpc hnc hcc hnt
   by_cases htm:nt.time=(t:Int)
   ·have htm2:((nt.time==(t:Int))=true):=by rw[beq_iff_eq];exact htm
    have HN2:=ZqH (HNY.out htm)
    clear htm
    go_upto_region 6 with (fail)
    clear hW hq0 b0 b1 b2 b3 b4 b5 b6 e0 e1 e2 e3 e4 e5 e6 m0 htm2 HNY HNN
    refine ZA [(1,0),(1,1),(1,2),(1,3),(0,4),(0,5),(1,6),(1,7),(0,8),(0,9)] (Below W.heap.size W) (fun i=>i==9)
     Zb Zb (fun j hj=>by have h:10<=j:=hj;simp;omega) Zi (ZpV _ W).drew ?_
    have HE4:Hid (Below W.heap.size W W.drew):=(ZpV _ W).drew
    have HBX:Hid (∀ X,Below W.heap.size W X->Keeps (fun b=>b≠P) w1 X/\X.heap[P]?=some (pObj x3 y3)/\X.heap[q0]?=some (ntO nt (.slice pc nc cc))):=fun X hX=>⟨HKW.out.trans (hX.keepsS _),(hX.block _ (ZqC HGW.out)).trans HGW.out,(hX.block _ (ZqC HQB.out)).trans HQB.out⟩
    iterate 4
     refine Zq _ rfl rfl (fun w' hS=>by obtain⟨hkx,hgx,hqx⟩:=HBX.out _ hS;obtain⟨b0,b1,b2,b3,b4,b5,b6⟩:=ZaA hqx;have s0:=Zn hgx 0 (v:=.string x3) rfl;have s1:=Zn hgx 1 (v:=.string y3) rfl;have hmx:=(HBW.out _ hkx).2.1;have m1:=Zn hmx 1 (v:=.int .i64 a) rfl;have m2:=Zn hmx 2 (v:=.int .i64 x) rfl;have m3:=Zn hmx 3 (v:=.int .i64 y) rfl;exact Ze) ?_
     simp only[Act.put,Zl]
    refine Zs 58 _ rfl rfl Zf ?_
    refine(Zhu (HRUN.out.after RunR.stays (HBW.out _ (HBX.out _ HE4.out).1).1 ZqI) HNBJ.out HP.out (HZ.out.below (HBW.out _ (HBX.out _ HE4.out).1).1 ZqI)).mono ?_
    rintro e V5 ⟨⟨s4,t4,rfl,hi4⟩,hb⟩
    have HE5:ZqB W V5:=HE4.out.trans (hb.mono HE4.out.size)
    obtain⟨fq,hfq⟩:=ZqJ (ZE nt (a,x,y))
    rw[hfq] at hi4 HN2
    have HI4:=ZqH hi4
    refine .inl ⟨_,rfl,HE5.out,?_⟩
    clear hb hi4 hfq
    simp only[Act.put,Zl]
    refine Zs 24 _ rfl rfl Zf ?_
    refine(Zco x3 y3 s4 t4 _ HIQ.out.limit.1 HIQ.out.limit.2 HI4.out.limit.1 HI4.out.limit.2 (HT.out.below (HBW.out _ (HBX.out _ HE5.out).1).1 ZqI)).mono ?_
    rintro e V6 ⟨x',y',en,rfl,hR,hb⟩
    have HE6:ZqB W V6:=HE5.out.trans (hb.mono HE5.out.size)
    have HA:Hid (Ans (q*fq) x' y' en):=by
     have h1:=hR.both HIQ.out.ok HI4.out.ok
     rwa [HIQ.out.rat,HI4.out.rat] at h1
    refine .inl ⟨_,rfl,HE6.out,?_⟩
    clear hb hR
    simp only[Act.put,Zl]
    iterate 2
     refine Zq _ rfl rfl (fun w' hS=>Ze) ?_
     simp only[Act.put,Zl]
    refine Zs 57 _ rfl rfl Zf ?_
    refine(Zat x' y' en _).mono ?_
    rintro e V7 ⟨hE,hb⟩
    have HE7:ZqB W V7:=HE6.out.trans (hb.mono HE6.out.size)
    clear hb
    rcases hE with ⟨hne,rfl⟩ | ⟨hne,rfl⟩
    ·have HIZ:=ZqH (HA.out.zero hne)
     have HLK2:Hid (Zt (Za1 ns t (a,x,y)) (k+1) 1=.ok (q*fq)):=by
      show _=_
      rw[Zag HLK.out,HN2.out]
      unfold mulF
      rw[if_pos HIZ.out.fits]
     refine .inl ⟨_,rfl,HE7.out,?_⟩
     simp only[Act.put,Zl]
     obtain⟨hkx,hgx,_⟩:=HBX.out _ HE7.out
     have s0:=Zn hgx 0 (v:=.string x3) rfl
     have s1:=Zn hgx 1 (v:=.string y3) rfl
     have f0:=Zo hgx 0
     have f1:=Zo hgx 1
     have HG8:Hid (((V7.setCell ⟨P,0,none⟩ (.string x')).setCell ⟨P,1,none⟩ (.string y')).heap[P]?=some (pObj x' y')):=ZQ hgx _ _
     have HK8:Hid (Keeps (fun b=>b≠P) w1 ((V7.setCell ⟨P,0,none⟩ (.string x')).setCell ⟨P,1,none⟩ (.string y'))):=(hkx.setCell (p:=⟨P,0,none⟩) (fun h=>h rfl) _).setCell (p:=⟨P,1,none⟩) (fun h=>h rfl) _
     refine ZG rfl rfl fun K' hK'=>?_
     go_simp
     refine hK' _ _ (.inl rfl) ?_
     clear hK' K' hkx hgx s0 s1 f0 f1 hne
     refine Zz ?_
     go_wp2
     go_roundw
     case rel=>exact⟨k+1,q*fq,x',y',by go_num,Za,HLK2,HIZ,HG8,HK8⟩
     case measure=>exact Zj
    ·have HM:Hid (mulF q fq=.error 4/\en=4):=by
      rcases HA.out with ⟨_,h⟩ | ⟨h,_,_,h2⟩
      ·exact Zqx h hne
      ·exact⟨by unfold mulF;rw[if_neg h],h2⟩
     have HER:Hid (ZaU ns t (a,x,y)=.error en):=by
      show _=_
      have h4:Za1 ns t (a,x,y) k q=.error en:=by rw[HN2.out,HM.out.2];exact HM.out.1
      rw[HNF.out,ZZ HLK.out h4 hlt]
     refine .inr ⟨_,rfl,?_⟩
     exact⟨rfl,.inr ⟨en,HER.out,hne,rfl⟩,(HBW.out _ (HBX.out _ HE7.out).1).1⟩
   ·have htm2:((nt.time==(t:Int))=false):=by rw[beq_eq_false_iff_ne];exact htm
    have HLK2:Hid (Zt (Za1 ns t (a,x,y)) (k+1) 1=.ok q):=by
     show _=_
     rw[Zag HLK.out,HNN.out htm]
    clear HNY HNN
    go_wp2
    go_roundw
    case rel=>exact⟨k+1,q,x3,y3,by go_num,Za,HLK2,HIQ,HGW,HKW⟩
    case measure=>exact Zj
  ·obtain rfl:k=n:=Za
   have HR:Hid (ZaU ns t (a,x,y)=.ok q):=HNF.out.trans HLK.out
   obtain⟨hbx,hmx,hrx⟩:=HBW.out wr HKR.out
   have HBX:=ZqH hbx
   have s0:=Zn HGP.out 0 (v:=.string x3) rfl
   have s1:=Zn HGP.out 1 (v:=.string y3) rfl
   have r0:=Zn hrx 0 (v:=.string ZqD) rfl
   have r1:=Zn hrx 1 (v:=.string ZqD) rfl
   have f0:=Zo hrx 0
   have f1:=Zo hrx 1
   obtain⟨wz,hwz⟩:=ZqJ ((wr.setCell ⟨w.heap.size+1,0,none⟩ (.string x3)).setCell ⟨w.heap.size+1,1,none⟩ (.string y3))
   have hrz:wz.heap[w.heap.size+1]?=some (pObj x3 y3):=by rw[<- hwz];exact ZQ hrx _ _
   have HBZ:ZqB w wz:=by show Below _ _ _;rw[<- hwz];exact(hbx.setCell (p:=⟨w.heap.size+1,0,none⟩) (Nat.le_succ _) _).setCell (p:=⟨w.heap.size+1,1,none⟩) (Nat.le_succ _) _
   have q0:=Zn hrz 0 (v:=.string x3) rfl
   have q1:=Zn hrz 1 (v:=.string y3) rfl
   clear hmx hbx hrz
   go_wp2
   exact ZpW (v:=pV x3 y3) (by simp[results,Tryz.f56,go_sem,q0,q1]) rfl ⟨.inl ⟨q,x3,y3,HR.out,rfl,HIQ.out⟩,HBZ.out⟩
end Go.Proofs.YtjmckebecpjjfaaGreatDoor
