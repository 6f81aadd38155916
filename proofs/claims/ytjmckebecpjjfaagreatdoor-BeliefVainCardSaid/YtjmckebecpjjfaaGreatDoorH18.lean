/- The parts BelV, BelD, BelE, BelJ, BelBM, BelBN. -/
import Derived.Test.YtjmckebecpjjfaaGreatDoorH17
set_option maxRecDepth 100000
set_option maxHeartbeats 4000000
set_option linter.unusedVariables false
set_option linter.unusedSimpArgs false
namespace Go.Proofs.YtjmckebecpjjfaaGreatDoor
open Go.RowKit Go.Shelf
attribute [local go_sem ↓] Go.wp_at_zero Go.wp_at_succ
def Zbg:Fl->List Value
 | []=>[]
 | x::r=>.int .i64 x.1.1::.int .i64 x.1.2.1::.int .i64 x.1.2.2::.string (str (numD x.2))::.string (str (denD x.2))::Zbg r
theorem ZiQ (a b:Fl):Zbg (a++b)=Zbg a++Zbg b:=by
 induction a with
 | nil=>rfl
 | cons x a ih=>simp[Zbg,ih]
def ZaZ (f:Fl):Prop:=∀ z ∈ f,PlB z.1/\0<=z.2/\Fits z.2
abbrev OwnM (w:World) (B:Nat) (v:Value) (ms:Fl):Prop:=w.ownsRow B 55 5 v ms.length (Zbg ms)
theorem FMap.good {w:World} {m:Nat} {f:Fl} (h:FMap w m f):ZaZ f:=fun z hz=>by
 obtain⟨⟨es,clock,hb,F,hs,h1,h2⟩,h3,h4⟩:=h
 obtain⟨e,he,hek⟩:=h2 z hz
 obtain⟨z',hz',hk',s,t,hv,his⟩:=h1 e he
 have e1:z'.1=z.1:=ZdE (hk'.symm.trans hek)
 have e2:z'.2=z.2:=by rw[<- Z0 h3 hz',<- Z0 h3 hz,e1]
 rw[e2] at his
 exact⟨h4 z hz,his.nn,his.fits⟩
def nzF (f:Fl):Fl:=f.filter fun x=>decide (x.2≠0)
theorem Zpd {f:Fl} {k:Nat} (h:k<f.length):nzF (f.take (k+1))=nzF (f.take k)++if f[k].2=0 then [] else [f[k]]:=by
 unfold nzF
 rw[List.take_succ_eq_append_getElem h,List.filter_append]
 congr 1
 by_cases h0:f[k].2=0
 ·rw[if_pos h0];simp[h0]
 ·rw[if_neg h0];simp[h0]
theorem Zo9 {f:Fl} (h:∀ x ∈ f,x.2≠0->Deep x.2):outF f=.ok (nzF f):=if_pos h
theorem Zo6 {f:Fl} {x:Pl×Rat} (hx:x ∈ f) (h0:x.2≠0) (h:¬ Deep x.2):outF f=.error 4:=if_neg fun hh=>h (hh x hx h0)
theorem Zar {w:World} {B B':Nat} {e:TypeId} {size:Nat} {v:Value} {n:Nat} {xs:List Value} (h:w.ownsRow B e size v n xs) (hB:B'<=B):w.ownsRow B' e size v n xs:=by
 obtain⟨h1,h2⟩:=h
 refine⟨h1,?_⟩
 rcases h2 with h2 | ⟨g,cap,cur,hv,hb,hr⟩
 ·exact .inl h2
 ·exact .inr ⟨g,cap,cur,hv,Zp4 hB hb,hr⟩
def ZcR (r:Except Int Fl) (w:World) (e:Ending) (w':World):Prop:=
 ((∃ ms v,r=.ok ms/\e=.returned v/\OwnM w' w.heap.size v ms/\ZaZ ms)\/(∃ n,r=.error n/\n≠0/\e=Zbv n))/\Below w.heap.size w w'
theorem Zns:(Tryz.prog.info? 55).map (fun i=>(i.zero,i.size,i.bytes))=some (some (.agg #[.int .i64 0,.int .i64 0,.int .i64 0,.string ZqD,.string ZqD]),5,56):=Zb
theorem ZeI {f:Fl} {m:Nat} {w:World} (hf:FMap w m f) (hZ:BelZ w) :
  Calls Tryz.prog 94 #[.map (some m)] w (ZcR (outF f) w):=by
 obtain⟨i0,hi,hz0,hz1,hz2⟩:=info_parts Zns
 have HS:=ZqH (ZlP hf)
 have HF:=ZqH hf
 have HZ:=ZqH hZ
 clear hf hZ
 go_enter Tryz.func94,Tryz.ntmps94
 go_wp2_with fail
 refine HS.out.mono ?_
 rintro e w2 ⟨v,c,rfl,h1,h2⟩
 have HG:=ZqH h1
 have HB2:=ZqH h2
 obtain⟨n,hn⟩:=ZqJ f.length
 have HN:=ZqH hn
 rw[hn]
 have HL:Hid (n<=528392):=by
  have:=HF.out.length
  show n<=_
  omega
 clear HS h1 h2 hn
 go_wp2_with fail
 go_loopw [3,10] (fun vo iv wr=>∃ k:Nat,iv=.int .i64 k/\k<=n/\Hid (∀ x ∈ f.take k,x.2≠0->Deep x.2)/\Hid (OwnM wr w2.heap.size vo (nzF (f.take k)))/\Hid (Keeps (fun b=>b<w2.heap.size) w2 wr)) (fun _ iv _=>n-(intOf iv).toNat)
 case atStart=>exact⟨0,rfl,Zp8 _,(fun x hx=>by simp at hx),⟨by simp[nzF,Zbg],.inl ⟨rfl,rfl⟩⟩,Keeps.refl _ _⟩
 case round=>
  obtain⟨k,rfl,hk,HD,HO,HK⟩:=hrel
  by_cases hlt:k<n
  ·obtain⟨g,rfl,hgb,hP⟩:=HG.out (by rw[HN.out];omega)
   have hgl:g<w2.heap.size:=Zqf _ _ (hP 0 (by simp[HN.out];omega)).1
   obtain⟨c0,c1,c2⟩:=(hP.stay HK.out hgl) k (by simp[HN.out];omega)
   have hkf:k<f.length:=by rw[HN.out];exact hlt
   rw[List.getElem_map] at c0 c1 c2
   obtain⟨⟨p,q⟩,hpq⟩:∃ z,f[k]=z:=⟨_,rfl⟩
   have hmem:(p,q) ∈ f:=by rw[<- hpq];exact Zqm hkf
   rw[hpq] at c0 c1 c2
   obtain⟨a,b,d⟩:=p
   dsimp only at c0 c1 c2
   have HPQ:=ZqH hpq
   have HMEM:=ZqH hmem
   have hF2:=HF.out.stay (HB2.out.block m HF.out.lt)
   have hm2:m<w2.heap.size:=hF2.lt
   have hFr:=hF2.stay (HK.out.block m hm2 hm2)
   obtain⟨W1,hW1⟩:=ZqJ (wr.alloc (plO (a,b,d)))
   have hmr:W1.heap[m]?=wr.heap[m]?:=by rw[<- hW1];exact((Keeps.refl (fun _=>True) wr).alloc _).block m hFr.lt trivial
   rcases hFr.look (hFr.good _ hmem).1 Zff with ⟨_,s,t,hIs,hrun⟩ | ⟨hno,_⟩
   case inr=>exact Zqx rfl (hno _ hmem)
   rw[Z0 hFr.2.1 hmem] at hIs
   have hlook:=hrun W1 hmr false
   have HI:=ZqH hIs
   have i0':(0:Int)<=(k:Int):=Za
   have i1':(k:Int)<(n:Int):=Za
   obtain⟨W2,hW2⟩:=ZqJ (W1.alloc (pObj s t))
   have HKW:Hid (Keeps (fun _=>True) wr W2):=by
    show Keeps _ _ _
    rw[<- hW2,<- hW1];exact((Keeps.refl _ wr).alloc _).alloc _
   have hs1:W1.heap.size=wr.heap.size+1:=by rw[<- hW1];simp
   have hs2:W2.heap.size=wr.heap.size+1+1:=by rw[<- hW2];simp[hs1]
   have hb1:W2.heap[wr.heap.size]?=some (plO (a,b,d)):=by
    rw[<- hW2]
    refine(((Keeps.refl (fun _=>True) W1).alloc _).block wr.heap.size Za trivial).trans ?_
    rw[<- hW1];exact ZpY wr _
   have hb2:W2.heap[W1.heap.size]?=some (pObj s t):=by rw[<- hW2];exact ZpY W1 _
   have hb0:W1.heap[wr.heap.size]?=some (plO (a,b,d)):=by rw[<- hW1];exact ZpY wr _
   have x0:=Zn hb0 0 (v:=.int .i64 a) rfl
   have x1:=Zn hb0 1 (v:=.int .i64 b) rfl
   have x2:=Zn hb0 2 (v:=.int .i64 d) rfl
   have y0:=Zn hb2 0 (v:=.string s) rfl
   have y1:=Zn hb2 1 (v:=.string t) rfl
   have p0:=Zn hb1 0 (v:=.int .i64 a) rfl
   have p1:=Zn hb1 1 (v:=.int .i64 b) rfl
   have p2:=Zn hb1 2 (v:=.int .i64 d) rfl
   have HBL:ZqB w W2:=HB2.out.trans ((HK.out.trans (HKW.out.mono fun b _ hb=>trivial)).toBelow ZqI |>.mono HB2.out.size)
   have hzz:=HZ.out.below HBL.out ZqI
   have z0:=hzz.z0
   have z1:=hzz.z1
   have HS1:=ZqH hs1
   have HS2:=ZqH hs2
   clear hP hrun hIs hpq hmem hF2 hFr hmr hb0 hb1 hb2 hzz hs1 hs2
   have HTK:=ZqH (Zpd hkf)
   have hkn:k<528392:=Zp2 hlt HL.out
   have HTM:Hid (f.take (k+1)=f.take k++[((a,b,d),q)]):=by
    show _=_
    rw[List.take_succ_eq_append_getElem hkf,HPQ.out]
   rw[HPQ.out] at HTK
   have HK2:Hid (Keeps (fun b=>b<w2.heap.size) w2 W2):=HK.out.trans (HKW.out.mono fun b _ hb=>trivial)
   by_cases hq:q=0
   ·subst hq
    obtain⟨rfl,rfl⟩:=HI.out.one Za5
    have HD2:Hid (∀ x ∈ f.take (k+1),x.2≠0->Deep x.2):=fun x hx hne=>by
     rw[HTM.out] at hx
     rcases List.mem_append.1 hx with hx | hx
     ·exact HD.out x hx hne
     ·rw[List.mem_singleton] at hx;subst hx;exact Zqx rfl hne
    have HO2:Hid (OwnM W2 w2.heap.size u3 (nzF (f.take (k+1)))):=by
     show OwnM _ _ _ _
     rw[HTK.out,if_pos rfl,List.append_nil]
     exact Zx HO.out HKW.out fun _ _=>trivial
    go_wp2
    go_roundw
    case rel=>exact⟨k+1,by go_num,Za,HD2,HO2,HK2⟩
    case measure=>exact Zj
   ·have hno:¬ s.toList=[48]:=fun h=>hq (HI.out.num_zero.1 (by rw[h];rfl))
    have hnb:(s.toList==[48])=false:=by rw[beq_eq_false_iff_ne];exact hno
    have HQ0:=ZqH hq
    have e1:s.size=(numD q).length:=by rw[HI.out.num];simp[str];rfl
    have e2:t.size=(denD q).length:=by rw[HI.out.den];simp[str];rfl
    have hl1:=HI.out.small
    by_cases hdeep:Deep q
    ·have HDE:=ZqH hdeep
     obtain⟨po,no,co,rfl⟩:∃ p n c,u3=Value.slice p n c:=by
      rcases HO.out.2 with ⟨h,_⟩ | ⟨_,_,_,h,_⟩
      ·exact⟨_,_,_,h⟩
      ·exact⟨_,_,_,h⟩
     have m1:s.size<=300:=by rw[e1];exact hdeep.1
     have m2:t.size<=300:=by rw[e2];exact hdeep.2
     have m3:¬ (300:Int)<max (s.size:Int) (t.size:Int):=by rw[Int.max_def];split<;>omega
     clear hq e1 e2 hdeep
     have HD2:Hid (∀ x ∈ f.take (k+1),x.2≠0->Deep x.2):=fun x hx hne=>by
      rw[HTM.out] at hx
      rcases List.mem_append.1 hx with hx | hx
      ·exact HD.out x hx hne
      ·rw[List.mem_singleton] at hx;subst hx;exact HDE.out
     obtain⟨L,hL⟩:=ZqJ (nzF (f.take k))
     rw[hL] at HO HTK
     have hlen:L.length<=528392:=by
      rw[<- hL]
      have h1:=List.length_filter_le (fun x:Pl×Rat=>decide (x.2≠0)) (f.take k)
      rw[Zqz] at h1
      have h2:=HL.out
      show (List.filter _ _).length<=528392
      omega
     clear hL
     have hm1:L.length+1<=maxLen:=by unfold maxLen;omega
     have hm2:(L.length+1)*56<=140737488355328:=Za
     have hownA:(W2.alloc (.cells #[.int .i64 a,.int .i64 b,.int .i64 d,.string s,.string t] 55)).ownsRow w2.heap.size 55 5 (.slice po no co) L.length (Zbg L):=(Zx HO.out HKW.out fun _ _=>trivial).alloc _
     have hm3:w2.heap.size<=(W2.alloc (.cells #[.int .i64 a,.int .i64 b,.int .i64 d,.string s,.string t] 55)).heap.size:=by have h1:=HK2.out.size;simp;omega
     have hnews:∀ (j:Nat) (u:Value),([.int .i64 a,.int .i64 b,.int .i64 d,.string s,.string t]:List Value)[j]?=some u->(W2.alloc (.cells #[.int .i64 a,.int .i64 b,.int .i64 d,.string s,.string t] 55)).cell? ((⟨W2.heap.size,0,none⟩:Addr).add j)=some u:=World.news_of_block (ZpY W2 _)
     go_wp2_with (at_builtin;go_loud (refine Zqq _ rfl (.tmp 30) (.tmp 37) 33 rfl w2.heap.size 55 i0 (.agg #[.int .i64 0,.int .i64 0,.int .i64 0,.string ZqD,.string ZqD]) 5 56 Tryz.underlying33 hi hz0 hz1 hz2 rfl Zd _ L.length (Zbg L) rfl hownA ⟨W2.heap.size,0,none⟩ 1 1 [.int .i64 a,.int .i64 b,.int .i64 d,.string s,.string t] rfl rfl hnews (by simp[Value.oneCell']) hm1 hm2 hm3 ?_);intro v' w7 hown7 hgrow7 _)
     have HO7:Hid (OwnM w7 w2.heap.size v' (nzF (f.take (k+1)))):=by
      show OwnM _ _ _ _
      rw[HTK.out,if_neg HQ0.out]
      show World.ownsRow _ _ _ _ _ _ _
      rw[Zqc,ZiQ]
      have h1:=HI.out.num
      have h2:=HI.out.den
      rw[h1,h2] at hown7
      exact hown7
     have HK7:Hid (Keeps (fun b=>b<w2.heap.size) w2 w7):=(HK2.out.alloc _).grown hgrow7 (fun z hz=>by have:=ZbK hownA z hz;omega)
     clear hown7 hgrow7 hownA hnews hm1 hm2 hm3 hlen
     go_roundw
     case rel=>exact⟨k+1,by go_num,Za,HD2,HO7,HK7⟩
     case measure=>exact Zj
    ·have HDE:=ZqH hdeep
     have m3:(300:Int)<max (s.size:Int) (t.size:Int):=by
      have:¬ (s.size<=300/\t.size<=300):=by rw[e1,e2];exact hdeep
      rw[Int.max_def];split<;>omega
     have HERR:Hid (outF f=.error 4):=Zo6 HMEM.out HQ0.out HDE.out
     clear hq e1 e2 hdeep
     go_wp2
     exact⟨rfl,.inr ⟨4,HERR.out,Zd,rfl⟩,HBL.out⟩
  ·obtain rfl:k=n:=Za
   have hall:f.take k=f:=by rw[<- HN.out,List.take_length]
   have HR:Hid (outF f=.ok (nzF f)):=by
    have h:=HD.out
    rw[hall] at h
    exact Zo9 h
   have HO2:Hid (OwnM wr w2.heap.size u3 (nzF f)):=by
    have h:=HO.out
    rwa [hall] at h
   clear hall
   have HBR:ZqB w wr:=HB2.out.trans ((HK.out.toBelow ZqI).mono HB2.out.size)
   go_wp2
   exact ZpW (by simp[results,Tryz.f94,go_sem]) rfl ⟨.inl ⟨_,_,HR.out,rfl,Zar HO2.out HB2.out.size,fun z hz=>HF.out.good z (List.mem_filter.1 hz).1⟩,HBR.out⟩
theorem Zds (p:Option Addr) (n c:Nat) (e:Int) (w:World) :
  Calls Tryz.prog 91 #[.slice p n c,.int .i64 e] w (fun E w'=>((e=0/\E=.returned (.slice p n c))\/(e≠0/\E=Zbv e))/\w'=w):=by
 by_cases hn:e=0
 ·have h0:(e !=0)=false:=by rw[bne_eq_false_iff_eq];exact hn
  have H0:=ZqH hn
  clear hn
  go_enter Tryz.func91,Tryz.ntmps91
  go_wp2
  exact ZpW (v:=.slice p n c) (by simp[results,Tryz.f91,go_sem]) rfl ⟨.inl ⟨H0.out,rfl⟩,rfl⟩
 ·have h0:(e !=0)=true:=by rw[bne_iff_ne];exact hn
  have H0:=ZqH hn
  clear hn
  go_enter Tryz.func91,Tryz.ntmps91
  go_wp2
  exact⟨rfl,.inr ⟨H0.out,rfl⟩,rfl⟩
theorem ZdZ {k:Nat} {p:PP} (h:ZW k p=true) (hk:k<=600):IsP (qP p) p.1 p.2:=by
 obtain⟨h1,h2,h3⟩:=Zbr.1 h
 have h4:=Zb8 h3
 exact h4
theorem ZgD {u:Value} {ps:List PP} {w:World} (hu:PL w u ps) (hl:ps.length<=256) (hr:∀ p ∈ ps,ZW 9 p=true) (hT:Tabs w) :
  Calls Tryz.prog 92 #[u] w (fun e w'=>Below w.heap.size w w'/\((∃ s us v,Z2 (ps.map qP)=.ok s/\IsL s us/\PL w' v us/\e=.returned (.tuple #[v,.int .i64 0]))\/(∃ n,Z2 (ps.map qP)=.error n/\e=.returned (.tuple #[.slice none 0 0,.int .i64 n])))):=by
 refine(ZkL hu (fun _ p hp=>?_) hT).mono ?_
 ·obtain⟨h1,h2,_⟩:=Zbr.1 (hr p hp)
  omega
 ·rintro e w' ⟨hb,h⟩
  have h0:chkL [ps]=0:=Zh2 (fun l hl'=>by
   obtain rfl:l=ps:=by simpa using hl'
   omega) fun l hl' p hp=>by
   obtain rfl:l=ps:=by simpa using hl'
   exact(Zbr.1 (hr p hp)).2.2
  rcases h with ⟨h,_⟩ | ⟨_,h⟩
  ·exact Zqx h0 h
  ·exact⟨hb,h⟩
theorem Zgj {qs:List Rat} {n:Int} (h:Z2 qs=.error n):n≠0:=by
 unfold Z2 at h
 repeat' split at h
 all_goals first | (cases h;decide) | cases h
theorem Zcp {a n b:Int} : inG a n b=true<->a<=n/\n<=b:=by unfold inG;simp
theorem Zg0 {g:GridP} {x y:Int} : hasC g x y=true<->(0<=x/\x<=g.w-1)/\0<=y/\y<=g.h-1:=by unfold hasC;simp[Zqt]
theorem ZcQ {f:Nat->Bool} {n k:Nat} (h:ZV f n=false) (hk:k<n):f k=false:=by
 induction n with
 | zero=>omega
 | succ n ih=>
  simp only[ZV,Bool.or_eq_false_iff] at h
  rcases(by omega:k<n\/k=n) with h1 | rfl
  ·exact ih h.1 h1
  ·exact h.2
structure SceneOk (b:BelP) (s:SceneP):Prop where
 w9:ZW 9 s.weight=true
 len:s.start.length<=256
 lens:s.strides.length<=25
 sh:∀ i,i<s.start.length->hasC b.sea (shA s.start i).x (shA s.start i).y=true/\ZW 9 (shA s.start i).weight=true
 st:∀ i,i<s.strides.length->Zao (stA s.strides i)=true
structure BelOk (b:BelP):Prop where
 w1:1<=b.sea.w/\b.sea.w<=256
 h1:1<=b.sea.h/\b.sea.h<=256
 len:b.scenes.length<=8
 sc:∀ k,k<b.scenes.length->SceneOk b (scA b.scenes k)
theorem Zb6 {b:BelP} (h:ZF b=true):BelOk b:=by
 unfold ZF ZaR at h
 simp only[Zqt,Bool.not_eq_true',Zcp] at h
 obtain⟨⟨⟨⟨h1,h2⟩,_,_⟩,_,h4⟩,h5,_⟩:=h
 refine⟨h1,h2,Za,fun k hk=>?_⟩
 have h6:=ZcQ h5 hk
 rw[Bool.not_eq_false'] at h6
 unfold Zaa at h6
 simp only[Zqt,Zcp] at h6
 obtain⟨⟨⟨a1,_,a3⟩,_,a5⟩,⟨a6,a7⟩,_⟩:=h6
 refine⟨a1,Za,Za,fun i hi=>?_,fun i hi=>?_⟩
 ·have:=Zg2 a6 hi
  unfold Zct at this
  rwa [Zqt] at this
 ·exact Zg2 a7 hi
theorem FMap.ne {w:World} {m:Nat} {f:Fl} (h:FMap w m f) {b o:Nat} {v:Value} (hc:w.cell? ⟨b,o,none⟩=some v):b≠m:=by
 rintro rfl
 obtain⟨⟨es,clock,hb,_⟩,_⟩:=h
 simp[World.cell?,hb] at hc
theorem PL.now {w:World} {p:Option Addr} {n cap:Nat} {ps:List PP} (h:PL w (.slice p n cap) ps) (h0:0<n) :
  ∃ b off,p=some ⟨b,off,none⟩/\∀ k (hk:k<ps.length),w.cell? ⟨b,off+k*2,none⟩=some (.string ps[k].1)/\w.cell? ⟨b,off+k*2+1,none⟩=some (.string ps[k].2):=by
 obtain⟨p',c',hv,_,_,h4⟩:=h
 injection hv with e1 e2 e3
 subst e1
 obtain⟨b,off,rfl,hb,hat⟩:=h4 (Zp3 Za)
 exact⟨b,off,rfl,fun k hk=>hat k hk⟩
theorem IsL.at {qs:List Rat} {ps:List PP} (h:IsL qs ps) {k:Nat} (hk:k<ps.length):IsP (qs.getD k 0) ps[k].1 ps[k].2:=by
 have h1:k<qs.length:=by rw[h.1];exact hk
 have h2:=h.2 k h1 hk
 rw[List.getD_eq_getElem?_getD,Zqg h1]
 exact h2
theorem ZcV {qs s:List Rat} (h:Z2 qs=.ok s):s.length=qs.length:=by
 unfold Z2 at h
 cases h1:sumA 0 qs with
 | none=>rw[h1] at h;cases h
 | some z=>
  rw[h1] at h
  simp only at h
  split at h
  ·cases h
  ·cases h2:ZaD z qs with
   | none=>rw[h2] at h;cases h
   | some r=>rw[h2] at h;cases h;rw[ZeU h2,List.length_map]
theorem Zd9 {b:BelP} {s:List Rat} {j:Nat} {f:Fl} {e:Int} (hs:Z2 (b.scenes.map fun s=>qP s.weight)=.ok s) (hf:Zt (ZbE b s) j []=.ok f) (hj:j<b.scenes.length) (he:ZbE b s j f=.error e):ZaK b=.error e:=by
 unfold ZaK
 rw[hs]
 simp only
 rw[ZZ hf he hj]
theorem Ziu {b:BelP} {lv sv:Value} {w:World} (h:BelIn b lv sv w) (hb:ZF b=true):Calls Tryz.prog 39 #[belV b lv sv] w (ZcR (ZaK b) w):=by
 obtain⟨pg,cg,rfl,_,_⟩:=h.sea.land.shape rfl
 obtain⟨n,hn⟩:=ZqJ b.scenes.length
 obtain⟨ng,hng⟩:=ZqJ b.sea.land.length
 obtain⟨ps,cs,rfl,hc1,hc2⟩:=h.scenes.shape hn
 obtain⟨i0,hi,hz0,hz1,hz2⟩:=info_parts Zd4
 rw[hng] at h ⊢
 have HOK:=ZqH (Zb6 hb)
 have HH:=ZqH h
 have HN:=ZqH hn
 have hn8:n<=8:=by rw[<- hn];exact(Zb6 hb).len
 have HE1:Hid (Env w.heap.size w [(w.heap.size,belO b (.slice pg ng cg) (.slice ps n cs))] [] (w.alloc (belO b (.slice pg ng cg) (.slice ps n cs)))):=(Env.start w).push _ rfl
 have HAT:=ZqH (fun h0=>Zb7.at h.scenes hn h0)
 have hmk:∀ (t:TypeId) (w:World),(Instr.makeMap t none).run Tryz.prog w=.ok (.map (some w.heap.size)) (w.alloc (.map #[] 0)):=fun _ _=>rfl
 clear h hn hng hb
 go_enter Tryz.func39,Tryz.ntmps39
 go_wp2_with fail
 obtain⟨w1,hw1⟩:=ZqJ (w.alloc (belO b (.slice pg ng cg) (.slice ps n cs)))
 rw[hw1] at HE1 ⊢
 clear hw1
 obtain⟨B0,hB0⟩:=ZqJ w1.heap.size
 have HB0:=ZqH hB0
 clear hB0
 go_loopw [3,17] (fun uv iv wr=>∃ (k:Nat) (qs:List PP),iv=.int .i64 k/\k<=n/\Hid (Own wr B0 uv qs)/\Hid (qs=(b.scenes.take k).map (·.weight))/\Hid (Below B0 w1 wr)) (fun _ iv _=>n-(intOf iv).toNat)
 case atStart=>exact⟨0,[],rfl,Zp8 _,Own.nil _ _,rfl,ZpV _ _⟩
 case round=>
  obtain⟨k,qs,rfl,hk,HO,HQ,HW1⟩:=hrel
  have HE8:Hid (Env w.heap.size w [(w.heap.size,belO b (.slice pg ng cg) (.slice ps n cs))] [] wr):=HE1.out.after HW1.out (Nat.le_of_eq HB0.out)
  obtain⟨po9,no9,co9,rfl⟩:∃ p n c,u3=Value.slice p n c:=by
   obtain⟨p,c,h,_⟩:=HO.out.pl
   exact⟨_,_,_,h⟩
  have HBS:Hid (B0<=wr.heap.size):=by
   have:=HW1.out.size
   rwa [HB0.out] at this
  by_cases hlt:k<n
  ·obtain⟨sb,so,rfl,p0,n0,c0,p1,n1,c1,hat⟩:=HAT.out Za
   obtain⟨e0,e1,e2,e3⟩:=(hat k hlt).1 wr HE8.out.base
   have hkl:k<b.scenes.length:=by rw[HN.out];exact hlt
   obtain⟨⟨⟨s1,s2⟩,sst,ssd⟩,hst⟩:∃ z,scA b.scenes k=z:=⟨_,rfl⟩
   have HQN:Hid (qs++[(s1,s2)]=(b.scenes.take (k+1)).map (·.weight)):=by
    show _=_
    rw[List.take_add_one,Zqg hkl,HQ.out,List.map_append,ZdC hkl,hst]
    rfl
   rw[hst] at e0 e1
   dsimp only at e0 e1
   clear hst hkl
   obtain⟨W,hW⟩:=ZqJ (wr.alloc (scO s1 s2 (.slice (p0 k) (n0 k) (c0 k)) (.slice (p1 k) (n1 k) (c1 k))))
   have hal:Below wr.heap.size wr W:=by rw[<- hW];exact(ZpV _ wr).alloc ZqI _
   obtain⟨q,hq⟩:=ZqJ wr.heap.size
   have hqb:W.heap[q]?=some (scO s1 s2 (.slice (p0 k) (n0 k) (c0 k)) (.slice (p1 k) (n1 k) (c1 k))):=by rw[<- hW,<- hq];exact ZpY wr _
   have HO3:Hid (Own W B0 (.slice po9 no9 co9) qs):=HO.out.after hal
   have HW3:Hid (Below B0 w1 W):=HW1.out.trans (hal.mono HBS.out)
   have hsz:B0<=W.heap.size:=Zp4 HBS.out hal.size
   have a2:=Zn hqb 0 (v:=.string s1) rfl
   have a3:=Zn hqb 1 (v:=.string s2) rfl
   have hownA:(W.alloc (pObj s1 s2)).ownsRow B0 39 2 (.slice po9 no9 co9) qs.length (Zam qs):=by
    have h1:W.ownsRow B0 39 2 (.slice po9 no9 co9) qs.length (Zam qs):=HO3.out
    exact h1.alloc _
   have hql:qs.length=k:=by rw[HQ.out,List.length_map,Zqz,HN.out];omega
   have hm1:qs.length+1<=maxLen:=by unfold maxLen;omega
   have hm2:(qs.length+1)*32<=140737488355328:=Za
   have hm3:B0<=(W.alloc (pObj s1 s2)).heap.size:=by simp;omega
   have hnews:∀ (j:Nat) (z:Value),([.string s1,.string s2]:List Value)[j]?=some z->(W.alloc (pObj s1 s2)).cell? ((⟨W.heap.size,0,none⟩:Addr).add j)=some z:=World.news_of_block (ZpY W _)
   have i0':(0:Int)<=(k:Int):=Za
   have i1':(k:Int)<(n:Int):=Za
   have f4:=HE8.out.cell 0 4 (v:=.slice (some ⟨sb,so,none⟩) n cs) rfl rfl
   clear hal hqb hql hat
   go_wp2_with (at_builtin;go_loud (refine Zqq _ rfl (.tmp 21) (.tmp 24) 154 rfl B0 39 i0 (ZqE ZqD ZqD) 2 32 Tryz.underlying154 hi hz0 hz1 hz2 rfl Zd _ qs.length (Zam qs) rfl hownA ⟨W.heap.size,0,none⟩ 1 1 [.string s1,.string s2] rfl rfl hnews (by simp[Value.oneCell']) hm1 hm2 hm3 ?_);intro v' w4' hown4 hgrow4 _)
   have HO4:Hid (Own w4' B0 v' (qs++[(s1,s2)])):=by
    show w4'.ownsRow _ _ _ _ _ _
    rw[Zqc,Zb0]
    exact hown4
   have HW4:Hid (Below B0 w1 w4'):=(HW3.out.alloc Za (pObj s1 s2)).grown hgrow4 hm3 (fun z hz=>(Zp9 hownA z hz).1)
   clear hown4 hgrow4 hownA hnews hm1 hm2 hm3 HQ
   go_roundw
   case rel=>exact⟨k+1,qs++[(s1,s2)],by go_num,Za,HO4,HQN,HW4⟩
   case measure=>exact Zj
  ·obtain rfl:n=k:=Za
   have HQ2:Hid (qs=b.scenes.map (·.weight)):=by
    have h1:=HQ.out
    rw[Zp5 (by rw[HN.out];exact Nat.le_refl _)] at h1
    exact h1
   have HRT:Hid (∀ p ∈ qs,ZW 9 p=true):=by
    rw[HQ2.out]
    intro p hp
    obtain⟨x,hx,rfl⟩:=List.mem_map.1 hp
    obtain⟨j,hj,rfl⟩:=List.getElem_of_mem hx
    rw[ZdC hj]
    exact(HOK.out.sc j hj).w9
   have hql:qs.length<=256:=by rw[HQ2.out,List.length_map,HN.out];omega
   have HS:=ZqH (ZgD HO.out.pl hql HRT.out (HH.out.tabs.below HE8.out.base ZqI))
   clear hql
   go_wp2_with fail
   refine HS.out.mono ?_
   rintro e w3 ⟨hb,hr⟩
   have HE3:=ZqH (HE8.out.step hb)
   have HQS:Hid (qs.map qP=b.scenes.map fun s=>qP s.weight):=by
    show _=_
    rw[HQ2.out,List.map_map]
    rfl
   rw[HQS.out] at hr
   clear hb HS HO HQ HQ2 HRT HW1
   rcases hr with ⟨s,us,v,hs,hl,hv,rfl⟩ | ⟨en,hs,rfl⟩
   case inr=>
    have HF:Hid (ZaK b=.error en):=by
     show _=_
     unfold ZaK
     rw[hs]
    have hne:=Zgj hs
    have HNE:=ZqH hne
    clear hs hne
    go_wp2_with fail
    refine(Zds none 0 0 en w3).mono ?_
    rintro e w4 ⟨⟨h0,rfl⟩ | ⟨h0,rfl⟩,rfl⟩
    ·exact Zqx h0 HNE.out
    ·exact⟨rfl,.inr ⟨en,HF.out,h0,rfl⟩,HE3.out.base⟩
   obtain⟨pv,nv,cv,rfl⟩:∃ p n c,v=Value.slice p n c:=by
    obtain⟨p,c,h,_⟩:=hv
    exact⟨_,_,_,h⟩
   have HSH:=ZqH hs
   have HL:=ZqH hl
   have HV:=ZqH hv
   clear hs hl hv
   go_wp2_with fail
   refine(Zds pv nv cv 0 w3).mono ?_
   rintro e w4 ⟨⟨_,rfl⟩ | ⟨h0,rfl⟩,rfl⟩
   case inr=>exact Zqx rfl h0
   have f4:=HE3.out.cell 0 4 (v:=.slice ps n cs) rfl rfl
   have HLN:Hid (us.length=n/\nv=n):=by
    have h1:=ZcV HSH.out
    have h2:=HL.out.1
    rw[List.length_map,HN.out] at h1
    have h3:us.length=nv:=by
     obtain⟨p,c,h,_⟩:=HV.out
     injection h with _ h _
     exact h.symm
    exact⟨Za,Za⟩
   obtain⟨m,hm⟩:=ZqJ w4.heap.size
   have HM:=ZqH hm
   have HF5:Hid (FMap (w4.alloc (.map #[] 0)) m []):=by
    rw[<- hm]
    exact FMap.made w4
   have HB5:Hid (Below m w4 (w4.alloc (.map #[] 0))):=(ZpV _ w4).alloc (Nat.le_of_eq hm.symm) _
   clear hm f4
   obtain⟨w5,hw5⟩:=ZqJ (w4.alloc (.map #[] 0))
   rw[hw5] at HF5 HB5
   have f5:=(HE3.out.after HB5.out (Nat.le_of_eq HM.out)).cell 0 4 (v:=.slice ps n cs) rfl rfl
   go_wp2_with fail
   clear hw5 f5
   rw[HM.out]
   go_loopw [36] (fun iv wr=>∃ (j:Nat) (f:Fl),iv=.int .i64 j/\j<=n/\Hid (Zt (ZbE b s) j []=.ok f)/\Hid (FMap wr m f)/\Hid (Below m w4 wr)) (fun iv _=>n-(intOf iv).toNat)
   case atStart=>exact⟨0,[],rfl,Zp8 _,rfl,HF5,HB5⟩
   case round=>
    obtain⟨j,f,rfl,hj,HLP,HFM,HWB⟩:=hrel
    have HER:Hid (Env w.heap.size w [(w.heap.size,belO b (.slice pg ng cg) (.slice ps n cs))] [] wr):=HE3.out.after HWB.out (Nat.le_of_eq HM.out)
    have f4:=HER.out.cell 0 4 (v:=.slice ps n cs) rfl rfl
    by_cases hlt:j<n
    ·obtain⟨sb,so,rfl,p0,n0,c0,p1,n1,c1,hat⟩:=HAT.out Za
     obtain⟨e0,e1,e2,e3⟩:=(hat j hlt).1 wr HER.out.base
     have HSL:=ZqH (hat j hlt).2.1
     have HSO:=ZqH (HOK.out.sc j (by rw[HN.out];exact hlt))
     obtain⟨sc,hsc⟩:=ZqJ (scA b.scenes j)
     have HSC:=ZqH hsc
     rw[hsc] at e0 e1 HSL HSO
     obtain⟨⟨s1,s2⟩,hsw⟩:∃ z,sc.weight=z:=⟨_,rfl⟩
     rw[hsw] at e0 e1
     dsimp only at e0 e1
     obtain⟨q0,hq0⟩:=ZqJ (p0 j)
     obtain⟨ns,hns⟩:=ZqJ (n0 j)
     obtain⟨d0,hd0⟩:=ZqJ (c0 j)
     obtain⟨q1,hq1⟩:=ZqJ (p1 j)
     obtain⟨nt,hnt⟩:=ZqJ (n1 j)
     obtain⟨d1,hd1⟩:=ZqJ (c1 j)
     rw[hq0,hns,hd0] at e2 HSL
     rw[hq1,hnt,hd1] at e3
     have HNS:=ZqH HSL.out.len
     have hns256:ns<=256:=by rw[<- HNS.out];exact HSO.out.len
     obtain⟨W,hW⟩:=ZqJ (wr.alloc (scO s1 s2 (.slice q0 ns d0) (.slice q1 nt d1)))
     have hal:Below wr.heap.size wr W:=by rw[<- hW];exact(ZpV _ wr).alloc ZqI _
     obtain⟨q,hq⟩:=ZqJ wr.heap.size
     have HQB:Hid (W.heap[q]?=some (scO s1 s2 (.slice q0 ns d0) (.slice q1 nt d1))):=by rw[<- hW,<- hq];exact ZpY wr _
     have HFW:Hid (FMap W m f):=HFM.out.step hal
     have HWW:Hid (Below m w4 W):=HWB.out.trans (hal.mono (Zqr HFM.out.lt))
     have HEW:=ZqH (HER.out.step hal)
     have a0:=Zn HQB.out 0 (v:=.string s1) rfl
     have a1:=Zn HQB.out 1 (v:=.string s2) rfl
     have a2:=Zn HQB.out 2 (v:=.slice q0 ns d0) rfl
     have a3:=Zn HQB.out 3 (v:=.slice q1 nt d1) rfl
     have i0':(0:Int)<=(j:Int):=Za
     have i1':(j:Int)<(n:Int):=Za
     have HQE:=ZqH hq
     clear hal hat hsc hsw hq0 hns hd0 hq1 hnt hd1
     go_wp2_with fail
     clear hW hq a0 a1 a2 a3 e0 e1 e2 e3 f4
     obtain⟨B1,hB1⟩:=ZqJ W.heap.size
     have HB1:=ZqH hB1
     clear hB1
     go_loopw [9,44] (fun uv iv wr=>∃ (k:Nat) (qs:List PP),iv=.int .i64 k/\k<=ns/\Hid (Own wr B1 uv qs)/\Hid (qs=(sc.start.take k).map (·.weight))/\Hid (Below B1 W wr)) (fun _ iv _=>ns-(intOf iv).toNat)
     case atStart=>exact⟨0,[],rfl,Zp8 _,Own.nil _ _,rfl,ZpV _ _⟩
     case round=>
      obtain⟨k,qs,rfl,hk,HO,HQ,HW1⟩:=hrel
      have HE8:Hid (Env w.heap.size w [(w.heap.size,belO b (.slice pg ng cg) (.slice (some ⟨sb,so,none⟩) n cs))] [] wr):=HEW.out.after HW1.out (Nat.le_of_eq HB1.out)
      obtain⟨po9,no9,co9,rfl⟩:∃ p n c,u9=Value.slice p n c:=by
       obtain⟨p,c,h,_⟩:=HO.out.pl
       exact⟨_,_,_,h⟩
      have HBS:Hid (B1<=wr.heap.size):=by
       have:=HW1.out.size
       rwa [HB1.out] at this
      by_cases hlt:k<ns
      ·obtain⟨tb,tz,rfl,hat⟩:=Zay.at (HSL.out.after ZbQ.stays HE8.out.base ZqI) HNS.out Za
       obtain⟨e0,e1,e2,e3⟩:=hat wr (ZpV _ wr) k hlt
       have hkl:k<sc.start.length:=by rw[HNS.out];exact hlt
       obtain⟨⟨x,y,⟨s1',s2'⟩⟩,hst⟩:∃ z,shA sc.start k=z:=⟨_,rfl⟩
       have HQN:Hid (qs++[(s1',s2')]=(sc.start.take (k+1)).map (·.weight)):=by
        show _=_
        rw[List.take_add_one,Zqg hkl,HQ.out,List.map_append,Zc2 hkl,hst]
        rfl
       rw[hst] at e0 e1 e2 e3
       dsimp only at e0 e1 e2 e3
       clear hst hkl
       obtain⟨V,hV⟩:=ZqJ (wr.alloc (shO x y s1' s2'))
       have hal:Below wr.heap.size wr V:=by rw[<- hV];exact(ZpV _ wr).alloc ZqI _
       obtain⟨r,hr⟩:=ZqJ wr.heap.size
       have hqb:V.heap[r]?=some (shO x y s1' s2'):=by rw[<- hV,<- hr];exact ZpY wr _
       have HO3:Hid (Own V B1 (.slice po9 no9 co9) qs):=HO.out.after hal
       have HW3:Hid (Below B1 W V):=HW1.out.trans (hal.mono HBS.out)
       have hsz:B1<=V.heap.size:=Zp4 HBS.out hal.size
       have a0:=Zn hqb 0 (v:=.int .i64 x) rfl
       have a1:=Zn hqb 1 (v:=.int .i64 y) rfl
       have a2:=Zn hqb 2 (v:=.string s1') rfl
       have a3:=Zn hqb 3 (v:=.string s2') rfl
       have hownA:(V.alloc (pObj s1' s2')).ownsRow B1 39 2 (.slice po9 no9 co9) qs.length (Zam qs):=by
        have h1:V.ownsRow B1 39 2 (.slice po9 no9 co9) qs.length (Zam qs):=HO3.out
        exact h1.alloc _
       have hql:qs.length=k:=by rw[HQ.out,List.length_map,Zqz,HNS.out];omega
       have hm1:qs.length+1<=maxLen:=by unfold maxLen;omega
       have hm2:(qs.length+1)*32<=140737488355328:=Za
       have hm3:B1<=(V.alloc (pObj s1' s2')).heap.size:=by simp;omega
       have hnews:∀ (j:Nat) (z:Value),([.string s1',.string s2']:List Value)[j]?=some z->(V.alloc (pObj s1' s2')).cell? ((⟨V.heap.size,0,none⟩:Addr).add j)=some z:=World.news_of_block (ZpY V _)
       have i0k:(0:Int)<=(k:Int):=Za
       have i1k:(k:Int)<(ns:Int):=Za
       clear hal hqb hql hat
       go_wp2_with (at_builtin;go_loud (refine Zqq _ rfl (.tmp 48) (.tmp 51) 154 rfl B1 39 i0 (ZqE ZqD ZqD) 2 32 Tryz.underlying154 hi hz0 hz1 hz2 rfl Zd _ qs.length (Zam qs) rfl hownA ⟨V.heap.size,0,none⟩ 1 1 [.string s1',.string s2'] rfl rfl hnews (by simp[Value.oneCell']) hm1 hm2 hm3 ?_);intro v' w4' hown4 hgrow4 _)
       have HO4:Hid (Own w4' B1 v' (qs++[(s1',s2')])):=by
        show w4'.ownsRow _ _ _ _ _ _
        rw[Zqc,Zb0]
        exact hown4
       have HW4:Hid (Below B1 W w4'):=(HW3.out.alloc Za (pObj s1' s2')).grown hgrow4 hm3 (fun z hz=>(Zp9 hownA z hz).1)
       clear hown4 hgrow4 hownA hnews hm1 hm2 hm3 HQ
       go_roundw
       case rel=>exact⟨k+1,qs++[(s1',s2')],by go_num,Za,HO4,HQN,HW4⟩
       case measure=>exact Zj
      ·obtain rfl:ns=k:=Za
       have HQ2:Hid (qs=sc.start.map (·.weight)):=by
        have h1:=HQ.out
        rw[Zp5 (by rw[HNS.out];exact Nat.le_refl _)] at h1
        exact h1
       have HRT:Hid (∀ p ∈ qs,ZW 9 p=true):=by
        rw[HQ2.out]
        intro p hp
        obtain⟨x,hx,rfl⟩:=List.mem_map.1 hp
        obtain⟨i,hi,rfl⟩:=List.getElem_of_mem hx
        rw[Zc2 hi]
        exact(HSO.out.sh i hi).2
       have hql:qs.length<=256:=by rw[HQ2.out,List.length_map,HNS.out];omega
       have HS:=ZqH (ZgD HO.out.pl hql HRT.out (HH.out.tabs.below HE8.out.base ZqI))
       clear hql
       go_wp2_with fail
       refine HS.out.mono ?_
       rintro e w6 ⟨hb,hr⟩
       have HE6:=ZqH (HE8.out.step hb)
       have HW6:Hid (Below B1 W w6):=HW1.out.trans (hb.mono HBS.out)
       have HQS:Hid (qs.map qP=sc.start.map fun s=>qP s.weight):=by
        show _=_
        rw[HQ2.out,List.map_map]
        rfl
       rw[HQS.out] at hr
       clear hb HS HO HQ HQ2 HRT HW1
       rcases hr with ⟨ws,us2,v2,hs2,hl2,hv2,rfl⟩ | ⟨en,hs2,rfl⟩
       case inr=>
        have HF:Hid (ZaK b=.error en):=Zd9 HSH.out HLP.out (by rw[HN.out];omega) (by unfold ZbE;rw[HSC.out,hs2])
        have hne:=Zgj hs2
        have HNE:=ZqH hne
        clear hs2 hne
        go_wp2_with fail
        refine(Zds none 0 0 en w6).mono ?_
        rintro e w4 ⟨⟨h0,rfl⟩ | ⟨h0,rfl⟩,rfl⟩
        ·exact Zqx h0 HNE.out
        ·exact⟨rfl,.inr ⟨en,HF.out,h0,rfl⟩,HE6.out.base⟩
       obtain⟨pv2,nv2,cv2,rfl⟩:∃ p n c,v2=Value.slice p n c:=by
        obtain⟨p,c,h,_⟩:=hv2
        exact⟨_,_,_,h⟩
       have HSG:Hid (ZbE b s j f=Zt (ZcU j (s.getD j 0) sc.start ws) ws.length f):=by
        show _=_
        unfold ZbE
        rw[HSC.out,hs2]
       have HLN2:Hid (us2.length=ns/\nv2=ns/\ws.length=ns):=by
        have h1:=ZcV hs2
        have h2:=hl2.1
        rw[List.length_map,HNS.out] at h1
        have h3:us2.length=nv2:=by
         obtain⟨p,c,h,_⟩:=hv2
         injection h with _ h _
         exact h.symm
        exact⟨Za,Za,h1⟩
       have HL2:=ZqH hl2
       have HV2:=ZqH hv2
       clear hs2 hl2 hv2
       go_wp2_with fail
       refine(Zds pv2 nv2 cv2 0 w6).mono ?_
       rintro e w7 ⟨⟨_,rfl⟩ | ⟨h0,rfl⟩,rfl⟩
       case inr=>exact Zqx rfl h0
       obtain⟨_,h2,_⟩:=HLN2.out
       obtain rfl:ns=nv2:=h2.symm
       have HF6:Hid (FMap w7 m f):=HFW.out.stay (HW6.out.block m (by have:=HFW.out.lt;have:=HB1.out;omega))
       have HQ6:Hid (w7.heap[q]?=some (scO s1 s2 (.slice q0 ns d0) (.slice q1 nt d1))):=(HW6.out.block q (by have:=(ZqC HQB.out);have:=HB1.out;omega)).trans HQB.out
       have HW46:Hid (Below m w4 w7):=HWW.out.trans (HW6.out.mono (by have:=HFW.out.lt;have:=HB1.out;omega))
       clear h2
       go_wp2_with fail
       go_loopw [60] (fun iv wr=>∃ (i:Nat) (f1:Fl),iv=.int .i64 i/\i<=ns/\Hid (Zt (ZcU j (s.getD j 0) sc.start ws) i f=.ok f1)/\Hid (FMap wr m f1)/\Hid (Keeps (NotM m) w7 wr)) (fun iv _=>ns-(intOf iv).toNat)
       case atStart=>exact⟨0,f,rfl,Zp8 _,rfl,HF6,Keeps.refl _ _⟩
       case round=>
        obtain⟨i,f1,rfl,hi',HLI,HFI,HK⟩:=hrel
        have HWR:Hid (Below m w4 wr):=HW46.out.trans ((HK.out.mono fun b _ hb=>by unfold NotM;omega).toBelow (by have:=HF6.out.lt;omega))
        have HER:Hid (Env w.heap.size w [(w.heap.size,belO b (.slice pg ng cg) (.slice (some ⟨sb,so,none⟩) n cs))] [] wr):=HE3.out.after HWR.out (Nat.le_of_eq HM.out)
        by_cases hlt:i<ns
        ·have hjn:j<n:=Za
         obtain⟨bu,ou,rfl,hu⟩:=HV.out.now (by have:=HLN.out.2;omega)
         have hju:j<us.length:=by have:=HLN.out.1;omega
         obtain⟨u0,u1⟩:=hu j hju
         have HA1:=ZqH (HL.out.at hju)
         obtain⟨⟨x1,y1⟩,hx1⟩:∃ z,us[j]=z:=⟨_,rfl⟩
         rw[hx1] at u0 u1 HA1
         dsimp only at u0 u1
         obtain⟨bv,ov,rfl,hv⟩:=HV2.out.now Za
         have hiu:i<us2.length:=by have:=HLN2.out.1;omega
         obtain⟨v0,v1⟩:=hv i hiu
         have HA2:=ZqH (HL2.out.at hiu)
         obtain⟨⟨x2,y2⟩,hx2⟩:∃ z,us2[i]=z:=⟨_,rfl⟩
         rw[hx2] at v0 v1 HA2
         dsimp only at v0 v1
         obtain⟨tb,tz,rfl,hat⟩:=Zay.at (HSL.out.after ZbQ.stays HER.out.base ZqI) HNS.out Za
         obtain⟨t0,t1,_,_⟩:=hat wr (ZpV _ wr) i hlt
         have HSH2:=ZqH (HSO.out.sh i (by rw[HNS.out];exact hlt))
         obtain⟨⟨x,y,sw⟩,hst⟩:∃ z,shA sc.start i=z:=⟨_,rfl⟩
         have HST:=ZqH hst
         rw[hst] at t0 t1 HSH2
         dsimp only at t0 t1
         have k0:=Zn HQ6.out 2 (v:=.slice (some ⟨tb,tz,none⟩) ns d0) rfl
         have r0:=HK.out.cellAt k0 (HF6.out.ne k0)
         have v0':=HK.out.cellAt v0 (HF6.out.ne v0)
         have v1':=HK.out.cellAt v1 (HF6.out.ne v1)
         have u0':=ZS u0 (Zqf _ _ u0) HWR.out (Nat.le_of_eq HM.out)
         have u1':=ZS u1 (Zqf _ _ u1) HWR.out (Nat.le_of_eq HM.out)
         obtain⟨V,hV⟩:=ZqJ (wr.alloc (pObj x2 y2))
         obtain⟨r,hr⟩:=ZqJ wr.heap.size
         have hvb:V.heap[r]?=some (pObj x2 y2):=by rw[<- hV,<- hr];exact ZpY wr _
         have hkv:Keeps (fun _=>True) wr V:=by rw[<- hV];exact(Keeps.refl _ wr).alloc _
         have HFV:Hid (FMap V m f1):=HFI.out.stay (hkv.block m HFI.out.lt trivial)
         have HKV:Hid (Keeps (NotM m) w7 V):=HK.out.trans (hkv.mono fun _ _ _=>trivial)
         have g0:=Zn hvb 0 (v:=.string x2) rfl
         have g1:=Zn hvb 1 (v:=.string y2) rfl
         have HCE:Hid (∀ X,Keeps (NotM m) V X->X.cell? ⟨q,2,none⟩=some (.slice (some ⟨tb,tz,none⟩) ns d0)/\X.cell? ⟨tb,tz+i*4,none⟩=some (.int .i64 x)/\X.cell? ⟨tb,tz+i*4+1,none⟩=some (.int .i64 y)/\X.cell? ⟨bu,ou+j*2,none⟩=some (.string x1)/\X.cell? ⟨bu,ou+j*2+1,none⟩=some (.string y1)/\X.cell? ⟨r,0,none⟩=some (.string x2)/\X.cell? ⟨r,1,none⟩=some (.string y2)):=fun X hX=>by
          have c:∀ {b o:Nat} {v:Value},wr.cell? ⟨b,o,none⟩=some v->X.cell? ⟨b,o,none⟩=some v:=fun hc=>hX.cellAt (hkv.cellAt hc trivial) (HFI.out.ne hc)
          exact⟨c r0,c t0,c t1,c u0',c u1',hX.cellAt g0 (HFV.out.ne g0),hX.cellAt g1 (HFV.out.ne g1)⟩
         have HBX:Hid (∀ X,Keeps (NotM m) V X->Below w.heap.size w X):=fun X hX=>HER.out.base.trans ((((hkv.mono (S':=NotM m) fun _ _ _=>trivial).trans hX).mono (S':=fun b=>b<m) fun b _ hb=>by unfold NotM;omega).toBelow (by have:=HFI.out.lt;omega) |>.mono (by have h1:=HE3.out.base.size;have h2:=HM.out;omega))
         have i0k:(0:Int)<=(i:Int):=Za
         have j0k:(0:Int)<=(j:Int):=Za
         have j1k:(j:Int)<(nv:Int):=by have:=HLN.out.2;omega
         have i1k:(i:Int)<(ns:Int):=Za
         clear hu hv hat hx1 hx2 hst k0 r0 v0 v1 u0 u1 u0' u1' t0 t1 hvb hkv hju hiu
         go_wp2_with fail
         clear hV hr g0 g1
         refine ZA [(1,0),(1,1),(1,2),(1,3),(1,4),(1,5),(1,6),(1,7),(1,8),(1,9),(1,10),(1,11),(1,12),(1,13),(0,14),(1,15),(1,16),(0,17),(0,18)] (Keeps (NotM m) V) (fun i=>false)
          Zb Zb (fun j hj=>rfl) Zi (Keeps.refl _ V).drew ?_
         obtain⟨V4,hV4⟩:=ZqJ V.drew
         have HE4:Hid (Keeps (NotM m) V V4):=by rw[<- hV4];exact(Keeps.refl _ V).drew
         have HF4:Hid (FMap V4 m f1):=by rw[<- hV4];exact HFV.out.stay rfl
         rw[hV4]
         clear hV4
         have HL1:=ZqH HA1.out.limit
         have HL2':=ZqH HA2.out.limit
         iterate 14
          refine Zq _ rfl rfl (fun w' hS=>by obtain⟨b0,b1,b2,b3,b4,b5,b6⟩:=HCE.out w' hS;exact Ze) ?_
          simp only[Act.put,Zl]
         refine Zs 24 _ rfl rfl Zf ?_
         refine(Zco x1 y1 x2 y2 _ HL1.out.1 HL1.out.2 HL2'.out.1 HL2'.out.2 (HH.out.tabs.below (HBX.out _ HE4.out) ZqI)).mono ?_
         rintro e V5 ⟨x',y',en,rfl,hR,hb⟩
         have HE5:Hid (Keeps (NotM m) V V5):=HE4.out.below hb (fun _ hb _=>hb)
         have HF5:Hid (FMap V5 m f1):=HF4.out.step hb
         have HA:Hid (Ans (s.getD j 0*ws.getD i 0) x' y' en):=by
          have h1:=hR.both HA1.out.ok HA2.out.ok
          rwa [HA1.out.rat,HA2.out.rat] at h1
         refine .inl ⟨_,rfl,HE5.out,?_⟩
         clear hb hR
         simp only[Act.put,Zl]
         iterate 2
          refine Zq _ rfl rfl (fun w' hS=>Ze) ?_
          simp only[Act.put,Zl]
         refine Zs 57 _ rfl rfl Zf ?_
         refine(Zat x' y' en _).mono ?_
         rintro e V6 ⟨hE,hb⟩
         have HE6:Hid (Keeps (NotM m) V V6):=HE5.out.below hb (fun _ hb _=>hb)
         have HF6':Hid (FMap V6 m f1):=HF5.out.step hb
         clear hb
         rcases hE with ⟨hn,rfl⟩ | ⟨hn,rfl⟩
         ·have HI:=ZqH (HA.out.zero hn)
          have HP:Hid (PlB ((j:Int),x,y)):=by
           obtain⟨⟨h1,h2⟩,h3,h4⟩:=Zg0.1 HSH2.out.1
           have h5:=HOK.out.w1
           have h6:=HOK.out.h1
           exact⟨⟨by dsimp only;omega,by dsimp only;omega⟩,⟨by dsimp only;omega,by dsimp only;omega⟩,by dsimp only;omega,by dsimp only;omega⟩
          have HSG2:Hid (ZcU j (s.getD j 0) sc.start ws i f1=addF f1 ((j:Int),x,y) (s.getD j 0*ws.getD i 0)):=by
           show _=_
           unfold ZcU mulF
           rw[if_pos HI.out.fits,HST.out]
          refine .inl ⟨_,rfl,HE6.out,?_⟩
          clear hn HA
          simp only[Act.put,Zl]
          refine Zs 93 _ rfl rfl Zf ?_
          refine(Zh0 HF6'.out HP.out HI.out (HH.out.tabs.below (HBX.out _ HE6.out) ZqI) (HH.out.vars.below (HBX.out _ HE6.out) ZqI)).mono ?_
          rintro e V7 ⟨hE,hk⟩
          have HE7:Hid (Keeps (NotM m) V V7):=HE6.out.trans hk
          rcases hE with ⟨f2,h1,rfl,h3⟩ | ⟨n2,h1,h3,rfl⟩
          ·have HF7:=ZqH h3
           have HL7:Hid (Zt (ZcU j (s.getD j 0) sc.start ws) (i+1) f=.ok f2):=by
            show _=_
            rw[Zag HLI.out,HSG2.out]
            exact h1
           have HK7:Hid (Keeps (NotM m) w7 V7):=HKV.out.trans HE7.out
           refine .inl ⟨_,rfl,HE7.out,?_⟩
           clear h1 h3 hk
           simp only[Act.put,Zl]
           refine Zz ?_
           go_wp2
           go_roundw
           case rel=>exact⟨i+1,f2,by go_num,Za,HL7,HF7,HK7⟩
           case measure=>exact Zj
          ·refine .inr ⟨_,rfl,?_⟩
           have HER2:Hid (ZbE b s j f=.error n2):=by
            show _=_
            rw[HSG.out]
            exact ZZ HLI.out (HSG2.out.trans h1) (by rw[HLN2.out.2.2];exact hlt)
           exact⟨rfl,.inr ⟨n2,Zd9 HSH.out HLP.out (by rw[HN.out];exact hjn) HER2.out,h3,rfl⟩,HBX.out _ HE7.out⟩
         ·refine .inr ⟨_,rfl,?_⟩
          have HR:Hid (ZcU j (s.getD j 0) sc.start ws i f1=.error 4/\en=4):=by
           rcases HA.out with ⟨_,h⟩ | ⟨h,_,_,h2⟩
           ·exact Zqx h hn
           ·exact⟨by unfold ZcU mulF;rw[if_neg h],h2⟩
          have HER2:Hid (ZbE b s j f=.error 4):=by
           show _=_
           rw[HSG.out]
           exact ZZ HLI.out HR.out.1 (by rw[HLN2.out.2.2];exact hlt)
          exact⟨rfl,.inr ⟨en,by rw[Zd9 HSH.out HLP.out (by rw[HN.out];exact hjn) HER2.out,HR.out.2],hn,rfl⟩,HBX.out _ HE6.out⟩
        ·obtain rfl:ns=i:=Za
         have hsz:w7.heap.size<=wr.heap.size:=HK.out.size
         have HSN:Hid (Zt (ZbE b s) (j+1) []=.ok f1):=by
          show _=_
          rw[Zag HLP.out,HSG.out,HLN2.out.2.2]
          exact HLI.out
         go_wp2
         go_roundw
         case rel=>exact⟨j+1,f1,by go_num,Za,HSN,HFI,HWR⟩
         case measure=>exact Zj
    ·obtain rfl:n=j:=Za
     have HBF:Hid (Zt (ZbE b s) b.scenes.length []=.ok f):=by
      show _=_
      rw[HN.out]
      exact HLP.out
     have HR:Hid (ZaK b=outF f):=by
      show _=_
      unfold ZaK
      rw[HSH.out]
      simp only
      rw[HBF.out]
     have HMS:=ZqH (ZeI HFM.out (HH.out.vars.below HER.out.base ZqI))
     go_wp2_with fail
     refine HMS.out.mono ?_
     rintro e wz ⟨h1,h2⟩
     have HBZ:ZqB w wz:=HER.out.base.trans (h2.mono HER.out.base.size)
     rcases h1 with ⟨ms,v,h1,rfl,h3,hg⟩ | ⟨ne,h1,h3,rfl⟩
     ·have HO:=ZqH (Zar h3 HER.out.base.size)
      have H1:=ZqH h1
      clear h1 h2 h3 HMS
      go_wp2
      exact ZpW (by simp[results,Tryz.f39,go_sem]) rfl ⟨.inl ⟨ms,v,HR.out.trans H1.out,rfl,HO.out,hg⟩,HBZ.out⟩
     ·exact⟨rfl,.inr ⟨ne,HR.out.trans h1,h3,rfl⟩,HBZ.out⟩
abbrev msO (v:Value):Obj:=.cells #[v] 33
def MasQ (r:Except Int Fl) (R C:Nat) (n:Int) (W:World):Prop:=
 (n=0->∃ ms v,r=.ok ms/\W.heap[R]?=some (msO v)/\OwnM W C v ms/\ZaZ ms)/\(n≠0->r=.error n/\W.heap[R]?=some (msO (.slice none 0 0)))
theorem MasQ.stay {r:Except Int Fl} {R C p:Nat} {n:Int} {W W':World} (h:MasQ r R C n W) (hk:Keeps (fun b=>b≠p) W W') (h1:R<p) (h2:p<C):MasQ r R C n W':=by
 have hb:∀ {o:Obj},W.heap[R]?=some o->W'.heap[R]?=some o:=fun ho=>(hk.block R (ZqC ho) Za).trans ho
 refine⟨fun hn=>?_,fun hn=>⟨(h.2 hn).1,hb (h.2 hn).2⟩⟩
 obtain⟨ms,v,e1,e2,e3,e4⟩:=h.1 hn
 exact⟨ms,v,e1,hb e2,Zx e3 hk fun g hg=>Za,e4⟩
theorem Zl2 {b:BelP} {lv sv:Value} {B R C:Nat} {w:World} (h:BelIn b lv sv w) (hb:ZF b=true) (hB:w.heap[B]?=some (belO b lv sv)) (hR:w.heap[R]?=some (msO (.slice none 0 0))) (hC:C<=w.heap.size) :
  Calls Tryz.prog 38 #[.pointer (some ⟨B,0,none⟩),.pointer (some ⟨R,0,none⟩)] w (Zhe (MasQ (ZaK b) R C) (fun x=>x≠R) w):=by
 have HC:=ZqH hC
 have HBG:=ZqH (Ziu h hb)
 have HR:=ZqH hR
 have hrl:=(ZqC hR)
 obtain⟨c0,c1,c2,c3,c4⟩:=Zv hB
 clear h hb hB hR hC
 go_enter Tryz.func38,Tryz.ntmps38
 go_wp2_with fail
 refine HBG.out.mono ?_
 rintro e w2 ⟨hE,hbel⟩
 have HB:=ZqH hbel
 have hr2:=(hbel.block R hrl).trans HR.out
 rcases hE with ⟨ms,v,h1,rfl,h2,hg⟩ | ⟨n,h1,h2,rfl⟩
 ·have d0:=Zn hr2 0 rfl
  have g0:=Zo hr2 0
  obtain⟨p9,n9,c9,rfl⟩:∃ p n c,v=Value.slice p n c:=by
   rcases h2.2 with ⟨h,_⟩ | ⟨_,_,_,h,_⟩
   ·exact⟨_,_,_,h⟩
   ·exact⟨_,_,_,h⟩
  have HO:=ZqH h2
  have H1:=ZqH h1
  have HR2:=ZqH hr2
  clear h1 h2 hbel hr2 HBG c0 c1 c2 c3 c4
  go_wp2
  go_end0
  have hk:Keeps (fun b=>b≠R) w2 (w2.setCell ⟨R,0,none⟩ (.slice p9 n9 c9)):=(Keeps.refl _ w2).setCell (p:=⟨R,0,none⟩) (fun h=>h rfl) _
  refine⟨0,.inl ⟨rfl,rfl⟩,⟨fun _=>⟨ms,_,H1.out,Zp0 HR2.out _,?_,hg⟩,fun hn=>Zqx rfl hn⟩,(((Below.keeps HB.out).mono fun _ hb _=>hb)).trans hk⟩
  exact Zar (Zx HO.out hk fun g hg=>Za) HC.out
 ·refine⟨rfl,?_⟩
  exact⟨n,.inr ⟨h2,rfl⟩,⟨fun hn=>Zqx hn h2,fun _=>⟨h1,hr2⟩⟩,(Below.keeps HB.out).mono fun _ hb _=>hb⟩
theorem ZhN:∀ (ms:Fl) (k:Nat) (h:k<ms.length),(Zbg ms)[k*5]?=some (.int .i64 ms[k].1.1)/\(Zbg ms)[k*5+1]?=some (.int .i64 ms[k].1.2.1)/\(Zbg ms)[k*5+2]?=some (.int .i64 ms[k].1.2.2)/\(Zbg ms)[k*5+3]?=some (.string (str (numD ms[k].2)))/\(Zbg ms)[k*5+4]?=some (.string (str (denD ms[k].2)))
 | [],_,h=>Zqx h Zc
 | x::ms,0,_=>⟨rfl,rfl,rfl,rfl,rfl⟩
 | x::ms,k+1,h=>by
  have h1:=ZhN ms k (by simpa using h)
  have e:(k+1)*5=k*5+5:=Za
  rw[e]
  exact h1
theorem Zcf {w:World} {B:Nat} {v:Value} {ms:Fl} (h:OwnM w B v ms) (hg:ZaZ ms):ZK w v ms:=by
 have h0:=h
 rcases h.2 with ⟨rfl,hn⟩ | ⟨g,cap,cur,rfl,hb,hrow,h1,h2,_⟩
 ·obtain rfl:=Zp7 hn
  exact LL.nil w
 ·refine⟨_,_,rfl,h1,h2,fun _=>⟨g,0,rfl,(ZqC hrow),fun k hk=>?_⟩⟩
  obtain⟨c0,c1,c2,c3,c4⟩:=ZhN ms k hk
  obtain⟨p1,p2,p3⟩:=hg _ (Zqm hk)
  have a:∀ {c:Nat} {u:Value},c<5->(Zbg ms)[k*5+c]?=some u->w.cell? ⟨g,k*5+c,none⟩=some u:=fun hc he=>(World.ownsRow.cellAt h0 _ Za).trans he
  obtain⟨i1,i2,i3⟩:=p1.i64
  rw[Nat.zero_add]
  exact⟨⟨a (c:=0) Za c0,i1⟩,⟨a Za c1,i2⟩,⟨a Za c2,i3⟩,(str (numD ms[k].2),str (denD ms[k].2)),⟨p2,rfl,rfl,p3⟩,a Za c3,a Za c4⟩
end Go.Proofs.YtjmckebecpjjfaaGreatDoor
