/- The parts BelPW. -/
import Derived.Test.YtjmckebecpjjfaaGreatDoorH19
set_option linter.unusedVariables false
set_option linter.unusedSimpArgs false
namespace Go.Proofs.YtjmckebecpjjfaaGreatDoor
open Go.RowKit Go.Shelf
def totF:Fl->Rat
 | []=>0
 | z::r=>z.2+totF r
def PlcB (b:BelP) (p:Pl):Prop:=(0<=p.1/\p.1<b.scenes.length)/\(hasC b.sea p.2.1 p.2.2=true\/ZcY p=true)
structure FieldOk (b:BelP) (f:Fl):Prop where
 sorted:ZI f
 plc:∀ z ∈ f,PlcB b z.1
 nn:∀ z ∈ f,0<=z.2
structure MassOk (b:BelP) (f:Fl):Prop where
 sorted:ZI f
 plc:∀ z ∈ f,PlcB b z.1
 pos:∀ z ∈ f,0<z.2
theorem Zgw (f g:Fl):totF (f++g)=totF f+totF g:=by
 induction f with
 | nil=>simp only[ZqA,totF];grind
 | cons z r ih=>simp only[List.cons_append,totF,ih];grind
theorem Znm {f:Fl} (hs:ZI f) (p:Pl) (q:Rat):totF (fset f p q)=totF f-fget f p+q:=by
 induction f with
 | nil=>simp only[fset,totF,fget];grind
 | cons y r ih=>
  obtain⟨k,v⟩:=y
  obtain⟨h1,h2⟩:=List.pairwise_cons.1 hs
  simp only[fset]
  by_cases e:k=p
  ·rw[if_pos e]
   simp only[totF,fget,if_pos e]
   grind
  ·rw[if_neg e]
   by_cases e2:plLt p k=true
   ·rw[if_pos e2]
    have h3:fget ((k,v)::r) p=0:=Zbt fun z hz=>by
     rcases List.mem_cons.1 hz with rfl | hz
     ·exact e
     ·exact fun e3=>ZdD (Zbc e2 (h1 z hz)) e3.symm
    rw[h3]
    simp only[totF]
    grind
   ·rw[if_neg e2]
    simp only[totF,fget,if_neg e,ih h2]
    grind
theorem ZoV (f:Fl):totF (nzF f)=totF f:=by
 induction f with
 | nil=>rfl
 | cons z r ih=>
  unfold nzF at *
  rw[List.filter_cons]
  by_cases h:z.2=0
  ·simp only[h,ne_eq,not_true_eq_false,decide_false,Bool.false_eq_true,if_false,ih,totF]
   grind
  ·simp only[h,ne_eq,not_false_eq_true,decide_true,if_true,totF,ih]
theorem Zpb {f:Fl} (h:∀ z ∈ f,0<=z.2) (p:Pl):0<=fget f p:=by
 induction f with
 | nil=>exact Rat.le_refl
 | cons z r ih=>
  obtain⟨k,v⟩:=z
  simp only[fget]
  by_cases e:k=p
  ·rw[if_pos e];exact h (k,v) Zc
  ·rw[if_neg e];exact ih fun z hz=>h z (List.mem_cons_of_mem _ hz)
theorem ZnU {f f':Fl} {p:Pl} {q:Rat} (h:addF f p q=.ok f'):f'=fset f p (fget f p+q):=by
 unfold addF at h
 split at h
 ·cases h;rfl
 ·cases h
theorem ZeL {b:BelP} {f f':Fl} {p:Pl} {q:Rat} (hf:FieldOk b f) (hp:PlcB b p) (hq:0<=q) (h:addF f p q=.ok f'):FieldOk b f'/\totF f'=totF f+q:=by
 obtain rfl:=ZnU h
 have h0:=Zpb hf.nn p
 refine⟨⟨Zec hf.sorted _ _,fun z hz=>?_,fun z hz=>?_⟩,?_⟩
 ·rcases(Zbf hf.sorted).1 hz with rfl | ⟨hz,_⟩
  ·exact hp
  ·exact hf.plc z hz
 ·rcases(Zbf hf.sorted).1 hz with rfl | ⟨hz,_⟩
  ·show 0<=fget f p+q
   grind
  ·exact hf.nn z hz
 ·rw[Znm hf.sorted]
  grind
theorem FieldOk.nil (b:BelP):FieldOk b []:=⟨List.Pairwise.nil,Zc,Zc⟩
theorem ZdJ {f ms:Fl} (h:outF f=.ok ms):ms=nzF f:=by
 unfold outF at h
 split at h
 ·cases h;rfl
 ·cases h
theorem Zez {b:BelP} {f ms:Fl} (hf:FieldOk b f) (h:outF f=.ok ms):MassOk b ms/\totF ms=totF f:=by
 obtain rfl:=ZdJ h
 refine⟨⟨hf.sorted.filter _,fun z hz=>hf.plc z (List.mem_filter.1 hz).1,fun z hz=>?_⟩,ZoV f⟩
 obtain⟨h1,h2⟩:=List.mem_filter.1 hz
 have h3:=hf.nn z h1
 have h4:z.2≠0:=by simpa using h2
 exact Rat.lt_of_le_of_ne h3 (Ne.symm h4)
theorem Zoe (a c:Rat) (l:List Rat):sumR (a+c) l=a+sumR c l:=by
 induction l generalizing c with
 | nil=>rfl
 | cons q l ih=>
  simp only[sumR]
  rw[show a+c+q=a+(c+q) by grind,ih]
theorem Zim (a:Rat) (l:List Rat) (q:Rat):sumR a (l++[q])=sumR a l+q:=by
 induction l generalizing a with
 | nil=>rfl
 | cons x l ih=>simp only[List.cons_append,sumR,ih]
theorem Zdk {l:List Rat} {k:Nat} (hk:k<l.length):sumR 0 (l.take (k+1))=sumR 0 (l.take k)+l.getD k 0:=by
 rw[List.take_succ_eq_append_getElem hk,Zim]
 simp[List.getD,hk]
theorem Zjz {z:Rat} (hz:z≠0) (a:Rat) (l:List Rat):sumR (a/z) (l.map (· / z))=sumR a l/z:=by
 induction l generalizing a with
 | nil=>rfl
 | cons q l ih=>
  simp only[List.map_cons,sumR]
  rw[show a/z+q/z=(a+q)/z by grind,ih]
theorem Zlf {l:List Rat} {a:Rat} (ha:0<=a) (h:∀ q ∈ l,0<=q):0<=sumR a l:=by
 induction l generalizing a with
 | nil=>exact ha
 | cons q l ih=>
  have:=h q Zc
  exact ih Zk fun x hx=>h x (List.mem_cons_of_mem _ hx)
theorem Zil {a z:Rat} {l:List Rat} (h:sumA a l=some z):sumR a l=z:=by
 induction l generalizing a with
 | nil=>exact ZpZ h
 | cons q l ih=>
  unfold sumA at h
  split at h
  ·exact ih h
  ·cases h
theorem ZfQ {k:Nat} {p:PP} (h:ZW k p=true):0<=qP p:=(Zb8 (Zbr.1 h).2.2).nn
theorem Zgb {l s:List Rat} (hl:∀ q ∈ l,0<=q) (h:Z2 l=.ok s):(∀ q ∈ s,0<=q)/\sumR 0 s=1:=by
 unfold Z2 at h
 cases h1:sumA 0 l with
 | none=>rw[h1] at h;cases h
 | some z=>
  rw[h1] at h
  simp only at h
  by_cases hz:z=0
  ·rw[if_pos hz] at h;cases h
  ·rw[if_neg hz] at h
   cases h2:ZaD z l with
   | none=>rw[h2] at h;cases h
   | some r=>
    rw[h2] at h
    cases h
    obtain rfl:=ZeU h2
    have h3:=Zil h1
    have h4:=Zlf (a:=0) Rat.le_refl hl
    rw[h3] at h4
    have hp:0<z:=Rat.lt_of_le_of_ne h4 (Ne.symm hz)
    refine⟨fun q hq=>?_,?_⟩
    ·obtain⟨x,hx,rfl⟩:=List.mem_map.1 hq
     rw[Rat.div_def]
     exact Rat.mul_nonneg (hl x hx) (Rat.le_of_lt (Rat.inv_pos.2 hp))
    ·have h5:=Zjz hz 0 l
     rw[show (0:Rat)/z=0 by grind,h3] at h5
     rw[h5]
     grind
theorem ZhY {l:List Rat} (h:∀ q ∈ l,0<=q) (k:Nat):0<=l.getD k 0:=by
 by_cases hk:k<l.length
 ·rw[List.getD_eq_getElem?_getD,Zqg hk]
  exact h _ (Zqm hk)
 ·rw[List.getD_eq_getElem?_getD,List.getElem?_eq_none Za]
  exact Rat.le_refl
theorem Zbi {a c r:Rat} (h:mulF a c=.ok r):r=a*c:=by
 unfold mulF at h
 split at h
 ·cases h;rfl
 ·cases h
theorem Zdd {b:BelP} {ms:Fl} (hb:ZF b=true) (h:ZaK b=.ok ms):MassOk b ms/\totF ms=1:=by
 have hok:=Zb6 hb
 unfold ZaK at h
 cases h1:Z2 (b.scenes.map fun s=>qP s.weight) with
 | error e=>rw[h1] at h;cases h
 | ok qs=>
  rw[h1] at h
  simp only at h
  cases h2:Zt (ZbE b qs) b.scenes.length [] with
  | error e=>rw[h2] at h;cases h
  | ok f=>
   rw[h2] at h
   simp only at h
   have hqs:=Zgb (fun q hq=>by
    obtain⟨s,hs,rfl⟩:=List.mem_map.1 hq
    obtain⟨j,hj,rfl⟩:=List.getElem_of_mem hs
    rw[ZdC hj]
    exact ZfQ (hok.sc j hj).w9) h1
   have hql:qs.length=b.scenes.length:=by rw[ZcV h1,List.length_map]
   have key:FieldOk b f/\totF f=sumR 0 (qs.take b.scenes.length):=by
    refine Zaf (P:=fun k f=>FieldOk b f/\totF f=sumR 0 (qs.take k)) ⟨FieldOk.nil b,rfl⟩ _ (fun k s s' hk hP hg=>?_) f h2
    obtain⟨hP1,hP2⟩:=hP
    unfold ZbE at hg
    have hso:=hok.sc k hk
    cases h3:Z2 ((scA b.scenes k).start.map fun s=>qP s.weight) with
    | error e=>rw[h3] at hg;cases hg
    | ok ws=>
     rw[h3] at hg
     simp only at hg
     have hws:=Zgb (fun q hq=>by
      obtain⟨x,hx,rfl⟩:=List.mem_map.1 hq
      obtain⟨j,hj,rfl⟩:=List.getElem_of_mem hx
      rw[Zc2 hj]
      exact ZfQ (hso.sh j hj).2) h3
     have hwl:ws.length=(scA b.scenes k).start.length:=by rw[ZcV h3,List.length_map]
     have hqk:=ZhY hqs.1 k
     have key2:FieldOk b s'/\totF s'=totF s+qs.getD k 0*sumR 0 (ws.take ws.length):=by
      refine Zaf (P:=fun i f=>FieldOk b f/\totF f=totF s+qs.getD k 0*sumR 0 (ws.take i)) ⟨hP1,?_⟩ _ (fun i t t' hi hQ hgi=>?_) s' hg
      ·simp only[List.take_zero,sumR];grind
      ·obtain⟨hQ1,hQ2⟩:=hQ
       unfold ZcU at hgi
       cases h4:mulF (qs.getD k 0) (ws.getD i 0) with
       | error e=>rw[h4] at hgi;cases hgi
       | ok q=>
        rw[h4] at hgi
        simp only at hgi
        obtain rfl:=Zbi h4
        have hplc:PlcB b ((k:Int),(shA (scA b.scenes k).start i).x,(shA (scA b.scenes k).start i).y):=⟨⟨Int.natCast_nonneg k,Int.ofNat_lt.2 hk⟩,.inl (hso.sh i Za).1⟩
        obtain⟨r1,r2⟩:=ZeL hQ1 hplc (Rat.mul_nonneg hqk (ZhY hws.1 i)) hgi
        refine⟨r1,?_⟩
        rw[r2,hQ2,Zdk hi]
        grind
     refine⟨key2.1,?_⟩
     rw[key2.2,List.take_length,hws.2,hP2,Zdk Za]
     grind
   obtain⟨r1,r2⟩:=Zez key.1 h
   refine⟨r1,?_⟩
   rw[r2,key.2,<- hql,List.take_length]
   exact hqs.2
theorem ZkZ {b:BelP} (hb:ZF b=true) {k:Nat} (hk:k<b.scenes.length):sumR 0 ((scA b.scenes k).strides.map fun x=>qP x.chance)=1:=by
 unfold ZF at hb
 simp only[Zqt,Bool.not_eq_true'] at hb
 have h6:=ZcQ hb.2.1 hk
 rw[Bool.not_eq_false'] at h6
 unfold Zaa at h6
 simp only[Zqt,Zqu] at h6
 exact Zil h6.2.2.2
theorem Zfj {b:BelP} {p:Pl} (hp:PlcB b p) (s:StrideP):PlcB b (Z6 b p s):=by
 unfold Z6
 split
 ·rename_i h
  exact⟨hp.1,.inl h⟩
 ·exact⟨hp.1,.inr rfl⟩
theorem Zcz {b:BelP} {ms out:Fl} (hb:ZF b=true) (hm:MassOk b ms) (h:ZaB b ms=.ok out):MassOk b out/\totF out=totF ms:=by
 have hok:=Zb6 hb
 unfold ZaB at h
 cases h1:Zt (ZcW b ms) ms.length [] with
 | error e=>rw[h1] at h;cases h
 | ok f=>
  rw[h1] at h
  simp only at h
  have key:FieldOk b f/\totF f=totF (ms.take ms.length):=by
   refine Zaf (P:=fun k f=>FieldOk b f/\totF f=totF (ms.take k)) ⟨FieldOk.nil b,rfl⟩ _ (fun k s s' hk hP hg=>?_) f h1
   obtain⟨hP1,hP2⟩:=hP
   have hmem:mA ms k ∈ ms:=by rw[<- Z9 hk];exact Zqm hk
   have hplc:=hm.plc _ hmem
   have hpos:=hm.pos _ hmem
   have htk:totF (ms.take (k+1))=totF (ms.take k)+(mA ms k).2:=by
    rw[List.take_succ_eq_append_getElem hk,Zgw,Z9 hk]
    simp only[totF]
    grind
   rw[htk,<- hP2]
   unfold ZcW at hg
   by_cases hst:Zaz b (mA ms k).1=true
   ·rw[if_pos hst] at hg
    exact ZeL hP1 hplc (Rat.le_of_lt hpos) hg
   ·rw[if_neg hst] at hg
    have hj:(mA ms k).1.1.toNat<b.scenes.length:=by have:=hplc.1;omega
    have hso:=hok.sc _ hj
    obtain⟨l,hl⟩:=ZqJ (Zw b (mA ms k).1.1)
    have hsum:sumR 0 (l.map fun x=>qP x.chance)=1:=by rw[<- hl];exact ZkZ hb hj
    have hst':∀ i,i<l.length->Zao (stA l i)=true:=fun i hi=>by rw[<- hl] at hi ⊢;exact hso.st i hi
    rw[hl] at hg
    have key2:FieldOk b s'/\totF s'=totF s+(mA ms k).2*sumR 0 ((l.map fun x=>qP x.chance).take l.length):=by
     refine Zaf (P:=fun i f=>FieldOk b f/\totF f=totF s+(mA ms k).2*sumR 0 ((l.map fun x=>qP x.chance).take i)) ⟨hP1,?_⟩ _ (fun i t t' hi hQ hgi=>?_) s' hg
     ·simp only[List.take_zero,sumR];grind
     ·obtain⟨hQ1,hQ2⟩:=hQ
      unfold Zc8 at hgi
      cases h4:mulF (mA ms k).2 (qP (stA l i).chance) with
      | error e=>rw[h4] at hgi;cases hgi
      | ok q=>
       rw[h4] at hgi
       simp only at hgi
       obtain rfl:=Zbi h4
       have hch:0<=qP (stA l i).chance:=by
        have:=hst' i hi
        unfold Zao at this
        rw[Zqt] at this
        exact ZfQ this.2
       obtain⟨r1,r2⟩:=ZeL hQ1 (Zfj hplc _) (Rat.mul_nonneg (Rat.le_of_lt hpos) hch) hgi
       refine⟨r1,?_⟩
       rw[r2,hQ2,Zdk (by rw[List.length_map];exact hi)]
       have e1:(l.map fun x=>qP x.chance).getD i 0=qP (stA l i).chance:=by
        rw[List.getD_eq_getElem?_getD,Zqg (by rw[List.length_map];exact hi),List.getElem_map,ZcG hi]
        rfl
       rw[e1]
       grind
    refine⟨key2.1,?_⟩
    rw[key2.2,Zp5 (by rw[List.length_map];exact Nat.le_refl _),hsum]
    grind
  obtain⟨r1,r2⟩:=Zez key.1 h
  exact⟨r1,by rw[r2,key.2,List.take_length]⟩
def Za8 (n:NoteP) (ms:Fl):List Rat:=ms.map fun z=>z.2*ZE n z.1
theorem Zgs {b:BelP} {n:NoteP} (hn:ZH b n=true) (p:Pl):0<=ZE n p/\ZE n p<=1:=by
 unfold ZH Zbx at hn
 simp only[Zqt,Zqu] at hn
 obtain⟨_,⟨h1,h2⟩,h3,h4⟩:=hn
 unfold ZE
 split
 ·split
  ·exact⟨ZfQ h1,h2⟩
  ·exact⟨ZfQ h3,h4⟩
 ·exact⟨Zd,Rat.le_refl⟩
theorem Ziv {n:NoteP} {ms:Fl} {k:Nat} (h:k<ms.length):(Za8 n ms).getD k 0=(mA ms k).2*ZE n (mA ms k).1:=by
 unfold Za8
 rw[List.getD_eq_getElem?_getD,Zqg (by rw[List.length_map];exact h),List.getElem_map,Z9 h]
 rfl
theorem Zj4 {n:NoteP} {ms:Fl} {l:List Rat} (h:Zt (Za9 (fun p=>.ok (ZE n p)) ms) ms.length []=.ok l):l=Za8 n ms:=by
 have:=Zaf (P:=fun k l=>l=Za8 n (ms.take k)) rfl _ (fun k s s' hk hP hg=>by
  unfold Za9 at hg
  simp only at hg
  cases h1:mulF (mA ms k).2 (ZE n (mA ms k).1) with
  | error e=>rw[h1] at hg;cases hg
  | ok q=>
   rw[h1] at hg
   obtain rfl:=Zbi h1
   cases hg
   subst hP
   show _=Za8 n (ms.take (k+1))
   unfold Za8
   rw[List.take_succ_eq_append_getElem hk,List.map_append,Z9 hk]
   rfl) l h
 rwa [List.take_length] at this
theorem Zfg:∀ {f:Fl} {p:Pl} (q:Rat),(∀ z ∈ f,plLt z.1 p=true)->fset f p q=f++[(p,q)]
 | [],_,_,_=>rfl
 | (k,v)::r,p,q,h=>by
  have h1:=h (k,v) Zc
  simp only[fset]
  rw[if_neg (ZdD h1),if_neg (fun h2=>ZbB _ (Zbc h1 h2)),Zfg q fun z hz=>h z (List.mem_cons_of_mem _ hz)]
  rfl
def Zb3 (z:Rat) (l:List Rat) (ms:Fl):Fl:=(List.range ms.length).map fun i=>((mA ms i).1,l.getD i 0/z)
theorem Zpf {z:Rat} {ms:Fl} {l:List Rat} {f:Fl} (hs:ZI ms) (h:Zt (setG z ms l) ms.length []=.ok f):f=Zb3 z l ms:=by
 exact Zaf (P:=fun k f=>f=(List.range k).map fun i=>((mA ms i).1,l.getD i 0/z)) rfl _ (fun k s s' hk hP hg=>by
  unfold setG at hg
  split at hg
  ·cases hg
   subst hP
   rw[List.range_succ,List.map_append]
   refine Zfg _ fun y hy=>?_
   obtain⟨i,hi,rfl⟩:=List.mem_map.1 hy
   have hik:i<k:=List.mem_range.1 hi
   have h1:=List.pairwise_iff_getElem.1 hs i k Za hk hik
   rw[Z9 Za,Z9 hk] at h1
   exact h1
  ·cases hg) f h
theorem Zlk {l:List Rat} {z:Rat} (h:Zt (addG l) l.length 0=.ok z):z=sumR 0 l:=by
 have:=Zaf (P:=fun k z=>z=sumR 0 (l.take k)) rfl _ (fun k s s' hk hP hg=>by
  unfold addG at hg
  split at hg
  ·cases hg
   show _=sumR 0 (l.take (k+1))
   rw[Zdk hk,hP]
  ·cases hg) z h
 rwa [List.take_length] at this
theorem Zhq (g:Nat->Pl) (u:Nat->Rat):∀ n,totF ((List.range n).map fun i=>(g i,u i))=sumR 0 ((List.range n).map u)
 | 0=>rfl
 | n+1=>by
  rw[List.range_succ,List.map_append,List.map_append,Zgw,Zhq g u n,List.map_cons,List.map_nil,List.map_cons,List.map_nil,Zim]
  simp only[totF]
  grind
theorem Zly {l:List Rat} (d:Rat->Rat):(List.range l.length).map (fun i=>d (l.getD i 0))=l.map d:=by
 refine List.ext_getElem Zc fun i h1 h2=>?_
 simp only[List.length_map,List.length_range] at h1
 simp[List.getD,h1]
theorem Zk0 {z:Rat} {l:List Rat} {ms:Fl} (hl:l.length=ms.length) (hz:z≠0):totF (Zb3 z l ms)=sumR 0 l/z:=by
 unfold Zb3
 rw[Zhq (fun i=>(mA ms i).1) (fun i=>l.getD i 0/z),<- hl,Zly (fun x=>x/z)]
 have h:=Zjz hz 0 l
 rwa [show (0:Rat)/z=0 by grind] at h
theorem ZeG {b:BelP} {z:Rat} {l:List Rat} {ms:Fl} (hm:MassOk b ms) (hz:0<z) (hl:∀ q ∈ l,0<=q):FieldOk b (Zb3 z l ms):=by
 refine⟨?_,fun y hy=>?_,fun y hy=>?_⟩
 ·unfold Zb3 ZI
  rw[List.pairwise_map]
  refine List.Pairwise.imp_of_mem (fun {i j} hi hj hij=>?_) List.pairwise_lt_range
  have hi':=List.mem_range.1 hi
  have hj':=List.mem_range.1 hj
  have h1:=List.pairwise_iff_getElem.1 hm.sorted i j hi' hj' hij
  rwa [Z9 hi',Z9 hj'] at h1
 ·obtain⟨i,hi,rfl⟩:=List.mem_map.1 hy
  have hi':=List.mem_range.1 hi
  have h1:=hm.plc _ (Zqm hi')
  rwa [Z9 hi'] at h1
 ·obtain⟨i,hi,rfl⟩:=List.mem_map.1 hy
  show 0<=l.getD i 0/z
  rw[Rat.div_def]
  exact Rat.mul_nonneg (ZhY hl i) (Rat.le_of_lt (Rat.inv_pos.2 hz))
theorem ZcM {ms out:Fl} {l:List Rat} {z:Rat} (hs:ZI ms) (h:ZaY ms l=.ok (out,z)):z=sumR 0 l/\z≠0/\outF (Zb3 z l ms)=.ok out:=by
 unfold ZaY at h
 cases h1:Zt (addG l) l.length 0 with
 | error e=>rw[h1] at h;cases h
 | ok y=>
  rw[h1] at h
  simp only at h
  by_cases hy:y=0
  ·rw[if_pos hy] at h;cases h
  ·rw[if_neg hy] at h
   cases h2:Zt (setG y ms l) ms.length [] with
   | error e=>rw[h2] at h;cases h
   | ok f=>
    rw[h2] at h
    simp only at h
    cases h3:outF f with
    | error e=>rw[h3] at h;cases h
    | ok o=>
     rw[h3] at h
     cases h
     obtain rfl:=Zpf hs h2
     exact⟨Zlk h1,hy,h3⟩
theorem ZjH {b:BelP} {ms out:Fl} {l:List Rat} {z:Rat} (hm:MassOk b ms) (hl:l.length=ms.length) (hn:∀ q ∈ l,0<=q) (h:ZaY ms l=.ok (out,z)):MassOk b out/\totF out=1/\0<z/\z=sumR 0 l:=by
 obtain⟨h1,h2,h3⟩:=ZcM hm.sorted h
 have h4:=Zlf (a:=0) Rat.le_refl hn
 rw[<- h1] at h4
 have hz:0<z:=Rat.lt_of_le_of_ne h4 (Ne.symm h2)
 obtain⟨r1,r2⟩:=Zez (ZeG hm hz hn) h3
 refine⟨r1,?_,hz,h1⟩
 rw[r2,Zk0 hl h2,<- h1]
 grind
theorem Zln {n:NoteP} {b:BelP} (hn:ZH b n=true):∀ (ms:Fl),(∀ z ∈ ms,0<z.2)->sumR 0 (Za8 n ms)<=totF ms
 | [],_=>Rat.le_refl
 | y::ms,h=>by
  have h1:=Zln hn ms fun z hz=>h z (List.mem_cons_of_mem _ hz)
  obtain⟨f0,f1⟩:=Zgs hn y.1
  have h2:=h y Zc
  have h3:y.2*ZE n y.1<=y.2:=by
   have:=Rat.mul_le_mul_of_nonneg_left f1 (Rat.le_of_lt h2)
   grind
  show sumR 0 (y.2*ZE n y.1::Za8 n ms)<=y.2+totF ms
  have h4:=Zoe (y.2*ZE n y.1) 0 (Za8 n ms)
  simp only[sumR]
  rw[show (0:Rat)+y.2*ZE n y.1=y.2*ZE n y.1+0 by grind,h4]
  grind
theorem ZeW {b:BelP} {n:NoteP} (hn:ZH b n=true) {ms:Fl} (h:∀ z ∈ ms,0<z.2):∀ q ∈ Za8 n ms,0<=q:=fun q hq=>by
 obtain⟨z,hz,rfl⟩:=List.mem_map.1 hq
 exact Rat.mul_nonneg (Rat.le_of_lt (h z hz)) (Zgs hn z.1).1
theorem Zd1 {ms out:Fl} {n:NoteP} {z:Rat} (h:ZaF ms n=.ok (out,z)):ZaY ms (Za8 n ms)=.ok (out,z):=by
 unfold ZaF at h
 cases h1:Zt (Za9 (fun p=>.ok (ZE n p)) ms) ms.length [] with
 | error e=>rw[h1] at h;cases h
 | ok l=>
  rw[h1] at h
  obtain rfl:=Zj4 h1
  exact h
theorem Zby {b:BelP} {ms out:Fl} {n:NoteP} {z:Rat} (hn:ZH b n=true) (hm:MassOk b ms) (h:ZaF ms n=.ok (out,z)):MassOk b out/\totF out=1/\0<z/\z<=totF ms:=by
 obtain⟨h1,h2,h3,h4⟩:=ZjH hm (by simp[Za8]) (ZeW hn hm.pos) (Zd1 h)
 exact⟨h1,h2,h3,by rw[h4];exact Zln hn ms hm.pos⟩
def Z1 (b:BelP) (m:Fl) (left:Rat):Prop:=MassOk b m/\totF m=1/\0<left/\left<=1
theorem Zf8 {b:BelP} {ns:List NoteP} {t:Nat} (hn:∀ k,k<ns.length->ZH b (ntA ns k)=true) {s r:Fl×Rat} (hs:Z1 b s.1 s.2) (h:Zt (Zab ns t) ns.length s=.ok r):Z1 b r.1 r.2:=by
 refine Zaf (P:=fun _ s=>Z1 b s.1 s.2) hs _ (fun k x y hk hP hg=>?_) r h
 unfold Zab at hg
 split at hg
 ·cases h1:ZaF x.1 (ntA ns k) with
  | error e=>rw[h1] at hg;cases hg
  | ok o=>
   obtain⟨m,z⟩:=o
   rw[h1] at hg
   simp only at hg
   cases h2:mulF x.2 z with
   | error e=>rw[h2] at hg;cases hg
   | ok l=>
    rw[h2] at hg
    obtain rfl:=Zbi h2
    cases hg
    obtain⟨p1,p2,p3,p4⟩:=hP
    obtain⟨q1,q2,q3,q4⟩:=Zby (hn k hk) p1 h1
    rw[p2] at q4
    refine⟨q1,q2,Rat.mul_pos p3 q3,?_⟩
    have:=Rat.mul_le_mul_of_nonneg_left q4 (Rat.le_of_lt p3)
    show x.2*z<=1
    grind
 ·cases hg
  exact hP
theorem ZdL {b:BelP} {ns:List NoteP} {k:Nat} {all:List Fl} {left:Rat} (hb:ZF b=true) (hn:∀ k,k<ns.length->ZH b (ntA ns k)=true) (h:Zae b ns k=.ok (all,left)) :
  all.length=k+1/\(∀ i,i<=k->MassOk b (all.getD i [])/\totF (all.getD i [])=1)/\0<left/\left<=1:=by
 unfold Zae at h
 cases h1:ZaK b with
 | error e=>rw[h1] at h;cases h
 | ok m=>
  rw[h1] at h
  simp only at h
  cases h2:Zt (ZaG b ns) (k+1) ([],m,1) with
  | error e=>rw[h2] at h;cases h
  | ok s=>
   rw[h2] at h
   cases h
   obtain⟨m1,m2⟩:=Zdd hb h1
   have key:s.1.length=k+1/\(∀ i,i<k+1->MassOk b (s.1.getD i [])/\totF (s.1.getD i [])=1)/\Z1 b s.2.1 s.2.2:=by
    refine Zaf (P:=fun t s=>s.1.length=t/\(∀ i,i<t->MassOk b (s.1.getD i [])/\totF (s.1.getD i [])=1)/\Z1 b s.2.1 s.2.2) ⟨rfl,fun i hi=>Za,m1,m2,(by decide:(0:Rat)<1),Rat.le_refl⟩ _ (fun t x y ht hP hg=>?_) s h2
    obtain⟨p1,p2,p3⟩:=hP
    unfold ZaG at hg
    cases h3:(if t=0 then .ok x.2.1 else ZaB b x.2.1:Except Int Fl) with
    | error e=>rw[h3] at hg;cases hg
    | ok now=>
     rw[h3] at hg
     simp only at hg
     have hnow:Z1 b now x.2.2:=by
      by_cases h0:t=0
      ·rw[if_pos h0] at h3;cases h3;exact p3
      ·rw[if_neg h0] at h3
       obtain⟨a1,a2⟩:=Zcz hb p3.1 h3
       exact⟨a1,by rw[a2];exact p3.2.1,p3.2.2⟩
     cases h4:Zt (Zab ns t) ns.length (now,x.2.2) with
     | error e=>rw[h4] at hg;cases hg
     | ok r=>
      rw[h4] at hg
      cases hg
      have hr:=Zf8 hn hnow h4
      refine⟨by simp[p1],fun i hi=>?_,hr⟩
      rw[List.getD_eq_getElem?_getD]
      by_cases hit:i<t
      ·rw[List.getElem?_append_left Za,<- List.getD_eq_getElem?_getD]
       exact p2 i hit
      ·obtain rfl:i=x.1.length:=Za
       rw[List.getElem?_append_right ZqI,Nat.sub_self]
       exact⟨hr.1,hr.2.1⟩
   exact⟨key.1,fun i hi=>key.2.1 i Za,key.2.2.2.2.1,key.2.2.2.2.2⟩
end Go.Proofs.YtjmckebecpjjfaaGreatDoor
