/- The parts PubShare, Sums, BelP, Env, EnvS. -/
import Derived.Test.YtjmckebecpjjfaaGreatDoorH10
set_option maxRecDepth 100000
set_option maxHeartbeats 4000000
set_option linter.unusedVariables false
set_option linter.unusedSimpArgs false
namespace Go.Proofs.YtjmckebecpjjfaaGreatDoor
open Go.RowKit Go.Shelf
def Z2 (qs:List Rat):Except Int (List Rat):=
 match sumA 0 qs with
 | none=>.error 4
 | some z=>if z=0 then .error 7 else match ZaD z qs with
  | none=>.error 4
  | some s=>.ok s
theorem Zph {qs:List Rat} (h2:sumA 0 qs=none):Z2 qs=.error 4:=by unfold Z2;simp only[h2]
theorem ZoI {qs:List Rat} {z:Rat} (h2:sumA 0 qs=some z) (h3:z=0):Z2 qs=.error 7:=by unfold Z2;simp only[h2,h3,if_true]
theorem ZoZ {qs:List Rat} {z:Rat} (h2:sumA 0 qs=some z) (h3:z≠0) (h4:ZaD z qs=none):Z2 qs=.error 4:=by unfold Z2;simp only[h2,h3,h4,if_false]
theorem ZoC {qs s:List Rat} {z:Rat} (h2:sumA 0 qs=some z) (h3:z≠0) (h4:ZaD z qs=some s):Z2 qs=.ok s:=by unfold Z2;simp only[h2,h3,h4,if_false]
def ZbS (u a:Value):List Obj:=[.cells #[u] 154,.cells #[a] 154]
def Zpj (B E:Nat) (u:Value) (r:Except Int (List Rat)) (w w':World):Prop:=
 ∃ s os a,r=.ok s/\IsL s os/\Own w' (E+1) a os/\Zu B (ZbS u a) w'/\Below B w w'
def Zpx (B:Nat) (u:Value) (r:Except Int (List Rat)) (w:World) (n:Int) (w':World):Prop:=
 r=.error n/\Zu B (ZbS u (.slice none 0 0)) w'/\Below B w w'
theorem Zks {u:Value} {qs:List Rat} {ps:List PP} {w:World} {B E:Nat} (hq:IsL qs ps) (hu:PL w u ps) (hn600:ps.length<=600) (hT:Tabs w)
  (hbox:Zu B (ZbS u (.slice none 0 0)) w) (hE:w.heap[E]?=some (.cells #[.int .i64 0] 34 (0,0))) (hBE:B+2<=E) :
  Calls Tryz.prog 136 #[.pointer (some ⟨B,0,none⟩),.pointer (some ⟨B+1,0,none⟩)] w
   (ZjC E (Zpj B E u (Z2 qs) w) (Zpx B u (Z2 qs) w)):=by
 obtain⟨p1,c1,hu1,_,_,_⟩:=id hu
 obtain⟨n1,hn1⟩:=ZqJ ps.length
 rw[hn1] at hu1 hn600
 subst hu1
 have HU:=ZqH hu
 have HQ:=ZqH hq
 have HN:=ZqH hn1
 have HX:=ZqH hbox
 have HE:=ZqH hE
 have HT:=ZqH hT
 have hEl:=(ZqC hE)
 have hBl:B<=w.heap.size:=Za
 clear hbox hE hT hq hn1 hu
 go_enter Tryz.func136,Tryz.ntmps136
 have k0:=HX.out.cell 0 0 (b:=B) rfl rfl rfl
 go_wp2_with fail
 refine Zkt [(true,0),(true,1),(false,2),(false,3),(false,4)] (fun w'=>w'.cell? ⟨B,0,none⟩=some (.slice p1 n1 c1)) (fun _=>false)
  Zb Zb (fun _ _=>rfl) Zi k0 ?_
 iterate 2
  refine ZlB _ rfl rfl (fun w' hS=>Zf) ?_
  simp only[Act.put,Zm]
 refine Zd6 rfl rfl fun K hK=>?_
 go_simp
 go_at_call 138
 refine(Zk8 HQ.out (HU.out.after (ZpV w.heap.size w).drew ZqI) (HT.out.below (ZpV w.heap.size w).drew ZqI)).mono ?_
 rintro e w3 ⟨hE3,hb3⟩
 have hb3':Below w.heap.size w w3:=((ZpV w.heap.size w).drew).trans hb3
 have HB3:=ZqH hb3'
 have HX3:=ZqH (HX.out.below hb3' HX.out.lt)
 have HE3:Hid (w3.heap[E]?=some (.cells #[.int .i64 0] 34 (0,0))):=(hb3'.block E hEl).trans HE.out
 have l0:=(hb3'.cell (p:=⟨B,0,none⟩) (Zqf _ _ k0)).trans k0
 have hs3:=hb3'.size
 clear hb3 hb3' k0
 rcases hE3 with ⟨z,x,y,h1,h2,rfl⟩ | ⟨h1,rfl⟩
 ·have H2:=ZqH (Zqy h1 h2)
  clear h1 h2
  refine hK _ _ (.inr l0) ?_
  clear hK K
  refine Zd6 rfl rfl fun K hK=>?_
  go_simp
  go_at_call 137
  refine(Znc H2.out.2 HQ.out (HU.out.after HB3.out ZqI) (by rw[HN.out];exact hn600) (HT.out.below HB3.out ZqI)).mono ?_
  rintro e w5 hE5
  have hb5:Below w3.heap.size w3 w5:=by
   rcases hE5 with ⟨_,_,h⟩ | ⟨_,h⟩
   ·exact h
   ·exact h.2
  have HB5:=ZqH (HB3.out.trans (hb5.mono HB3.out.size))
  have HX5:=ZqH (HX3.out.below hb5 HX3.out.lt)
  have HE5:Hid (w5.heap[E]?=some (.cells #[.int .i64 0] 34 (0,0))):=(hb5.block E Za).trans HE3.out
  have m0:=(hb5.cell (p:=⟨B,0,none⟩) (Zqf _ _ l0)).trans l0
  have hs5:=hb5.size
  clear hb5 l0
  rcases hE5 with ⟨h1,rfl,_⟩ | ⟨h0,hE6,_⟩
  ·have HR:Hid (Z2 qs=.error 7):=ZoI H2.out.1 h1
   exact⟨rfl,.inr ⟨7,rfl,HR.out,HX5.out,HB5.out.mono hBl⟩,HE5.out⟩
  ·rcases hE6 with ⟨ss,vs,va,h1,h2,rfl,h3⟩ | ⟨h1,rfl⟩
   ·have HR:Hid (Z2 qs=.ok ss):=ZoC H2.out.1 h0 h1
    have HS:=ZqH h2
    have HV:=ZqH h3
    obtain⟨pv,nv,cv,rfl⟩:∃ p n c,va=.slice p n c:=by
     obtain⟨p,c,h,_⟩:=h3.pl
     exact⟨_,_,_,h⟩
    clear h1 h2 h3 h0
    refine hK _ _ (.inr m0) ?_
    clear hK K
    have q0:=HX5.out.cell 1 0 (b:=B+1) rfl rfl rfl
    have f0:=HX5.out.free 1 0 (b:=B+1) rfl rfl
    refine Zd6 rfl rfl fun K hK=>?_
    go_simp
    have n0:(w5.setCell ⟨B+1,0,none⟩ (.slice pv nv cv)).cell? ⟨B,0,none⟩=some (.slice p1 n1 c1):=(Zqd (w:=w5) (ZpX w5 ⟨B+1,0,none⟩ _ _ Zc)).trans m0
    refine hK _ _ (.inr n0) ?_
    clear hK K m0 q0 f0
    refine ZmQ ?_
    have HX7:=HX5.out.store 1 0 (b:=B+1) rfl (.slice pv nv cv) rfl
    refine⟨rfl,.tuple #[],by simp[results,Tryz.f136,go_sem],.inl ⟨rfl,ss,vs,_,HR.out,HS.out,?_,HX7,(HB5.out.mono hBl).setCell (p:=⟨B+1,0,none⟩) (by show B<=B+1;omega) _⟩,?_⟩
    ·exact(HV.out.mono (b:=E+1) Za).kept fun g hg _=>ZpX w5 ⟨B+1,0,none⟩ _ _ (by simp;omega)
    ·exact(ZpX w5 ⟨B+1,0,none⟩ _ _ (by simp;omega)).trans HE5.out
   ·have HR:Hid (Z2 qs=.error 4):=ZoZ H2.out.1 h0 h1
    exact⟨rfl,.inr ⟨4,rfl,HR.out,HX5.out,HB5.out.mono hBl⟩,HE5.out⟩
 ·have HR:Hid (Z2 qs=.error 4):=Zph h1
  exact⟨rfl,.inr ⟨4,rfl,HR.out,HX3.out,HB3.out.mono hBl⟩,HE3.out⟩
def ZoO (ps:List PP) (w:World) (e:Ending) (w':World):Prop:=
 Below w.heap.size w w'/\((chkL [ps]≠0/\e=.returned (.tuple #[.slice none 0 0,.int .i64 (chkL [ps])]))\/
  (chkL [ps]=0/\((∃ s us v,Z2 (rats ps)=.ok s/\IsL s us/\PL w' v us/\e=.returned (.tuple #[v,.int .i64 0]))\/
   (∃ n,Z2 (rats ps)=.error n/\e=.returned (.tuple #[.slice none 0 0,.int .i64 n])))))
theorem ZiA {B:Nat} {u a0:Value} {w W:World} (h:Zu B (ZbS u a0) W) (hb:Below B w W) (a:Value) :
  Zu B (ZbS u a) (W.setCell ⟨B+1,0,none⟩ a)/\Below B w (W.setCell ⟨B+1,0,none⟩ a):=
 ⟨h.store 1 0 rfl a rfl,hb.setCell (p:=⟨B+1,0,none⟩) (by show B<=B+1;omega) _⟩
theorem ZkL {u:Value} {ps:List PP} {w:World} (hu:PL w u ps) (hsm:ps.length<=512->∀ p ∈ ps,p.1.size<=1000000/\p.2.size<=1000000) (hT:Tabs w) :
  Calls Tryz.prog 92 #[u] w (ZoO ps w):=by
 have hent:=enters_of Tryz.func136 Zb rfl
 have hmf:∀ (fn:Fn) (first cap:Array Value) (w:World),(Instr.makeFunc fn first cap).run Tryz.prog w=.ok (.func fn first cap) w:=fun _ _ _ _=>rfl
 obtain⟨p1,n1,c1,rfl⟩:∃ p n c,u=.slice p n c:=by obtain⟨p,c,h,_⟩:=hu;exact⟨_,_,_,h⟩
 have HU:=ZqH hu
 have HT:=ZqH hT
 have HSM:=ZqH hsm
 have HENT:=ZqH hent
 clear hu hT hsm hent
 go_enter Tryz.func92,Tryz.ntmps92
 go_wp2_with fail
 obtain⟨w1,hw1⟩:=ZqJ ((w.alloc (.cells #[.slice p1 n1 c1] 154)).alloc (.cells #[.slice none 0 0] 154))
 rw[hw1]
 have HX1:Hid (Zu w.heap.size (ZbS (.slice p1 n1 c1) (.slice none 0 0)) w1):=by rw[<- hw1];exact Zu.two w _ _
 have HB1:ZqB w w1:=by rw[<- hw1];exact((ZpV _ w).alloc ZqI _).alloc Zc _
 have hsz1:w1.heap.size=w.heap.size+1+1:=by rw[<- hw1];simp
 clear hw1
 have hal1:=(ZpV w1.heap.size w1).alloc ZqI (.cells #[.slice p1 n1 c1] 154)
 have HAL:=ZqH hal1
 clear hal1
 have hll:=Zjt (HU.out.after HB1.out ZqI)
 rw[hsz1] at hll
 have hck:=Zf7 hll Zc (Zix HSM.out)
 refine hck.mono ?_
 clear hll hck hsz1
 rintro e w2 ⟨rfl,hb2⟩
 have HB2:=ZqH (HB1.out.trans ((HAL.out.trans (hb2.mono HAL.out.size)).mono HB1.out.size))
 have HX2:=ZqH ((HX1.out.alloc (.cells #[.slice p1 n1 c1] 154)).below hb2 (HX1.out.alloc _).lt)
 clear hb2
 obtain⟨c,hc⟩:=ZqJ (chkL [ps])
 rw[hc]
 by_cases h0:c=0
 ·have hz:(c !=0)=false:=by rw[bne_eq_false_iff_eq];exact h0
  have HC:Hid (chkL [ps]=0):=by show _=_;rw[hc,h0]
  obtain⟨g1,g3⟩:=ZjZ HC.out
  have HQ1:=ZqH (Zj5 g3)
  have HG:Hid (ps.length<=600):=Zp4 g1 Zd
  clear h0 hc g1 g3
  go_wp2_with fail
  have hal:=(ZpV w2.heap.size w2).alloc ZqI (.cells #[.int .i64 0] 34)
  have hB3:=HB2.out.trans (hal.mono HB2.out.size)
  refine(Zik (w:=w2) HENT.out (Zks (E:=w2.heap.size) HQ1.out (HU.out.after hB3 ZqI) HG.out (HT.out.below hB3 ZqI) (HX2.out.alloc _) (ZpY w2 _) HX2.out.lt)).mono ?_
  rintro e w3 ⟨w4,n,rfl,hk,hlt,hQ⟩
  clear hal
  have HW4:Hid (∃ a,Zu w.heap.size (ZbS (.slice p1 n1 c1) a) w4/\Below w.heap.size (w2.alloc (.cells #[.int .i64 0] 34)) w4/\
    ((∃ s us,n=0/\Z2 (rats ps)=.ok s/\IsL s us/\Own w4 (w2.heap.size+1) a us)\/(Z2 (rats ps)=.error n/\a=.slice none 0 0))):=by
   rcases hQ with ⟨h1,s,us,a,h2,h3,h4,h5,h6⟩ | ⟨h1,h2,h3⟩
   ·exact⟨a,h5,h6,.inl ⟨s,us,h1,h2,h3,h4⟩⟩
   ·exact⟨_,h2,h3,.inr ⟨h1,rfl⟩⟩
  clear hQ
  obtain⟨a,hx4,hb4,hres⟩:=HW4.out
  have HX3:=ZqH (hx4.keeps hk (fun i hi=>by have:i<2:=hi;have:=HX2.out.lt;have h4:w.heap.size+2<=w2.heap.size:=this;omega))
  have hsz2:=HB2.out.size
  have HB3:ZqB w w3:=by
   have h5:Below w.heap.size w w4:=(HB2.out.alloc hsz2 _).trans hb4
   exact h5.trans ⟨hk.os,hk.tape,hk.output,hk.size,fun b hb=>hk.block b (by have:=h5.size;omega) Za⟩
  have HO3:Hid ((∃ s us,n=0/\Z2 (rats ps)=.ok s/\IsL s us/\Own w3 (w2.heap.size+1) a us)\/(Z2 (rats ps)=.error n/\a=.slice none 0 0)):=by
   rcases hres with ⟨s,us,h1,h2,h3,h5⟩ | h
   ·exact .inl ⟨s,us,h1,h2,h3,h5.kept fun g hg hv=>hk.block g (Zp9 h5 g hv).2 Za⟩
   ·exact .inr h
  have hform:∃ p n c,a=.slice p n c:=by
   rcases hres with ⟨s,us,h1,h2,h3,h5⟩ | ⟨_,h⟩
   ·obtain⟨p,c,h,_⟩:=h5.pl;exact⟨_,_,_,h⟩
   ·exact⟨_,_,_,h⟩
  obtain⟨pa,na,ca,rfl⟩:=hform
  have HL3:Hid (w2.heap.size<w3.heap.size/\w.heap.size+2<=w2.heap.size):=⟨Zp2 hlt hk.size,HX2.out.lt⟩
  clear hk hx4 hb4 hres hlt hB3 HW4
  have r0:=HX3.out.cell 1 0 (b:=w.heap.size+1) rfl rfl rfl
  have f1:=HX3.out.free 1 0 (b:=w.heap.size+1) rfl rfl
  go_wp2
  obtain⟨hp1,hp2⟩:=ZiA HX3.out HB3.out (.slice pa na ca)
  have HK9:Hid (∀ g,w.heap.size+2<=g->(w3.setCell ⟨w.heap.size+1,0,none⟩ (.slice pa na ca)).heap[g]?=w3.heap[g]?):=fun g hg=>ZpX _ ⟨w.heap.size+1,0,none⟩ _ _ (by simp;omega)
  obtain⟨w9,hw9⟩:=ZqJ (w3.setCell ⟨w.heap.size+1,0,none⟩ (.slice pa na ca))
  rw[hw9] at hp1 hp2 HK9
  rw[hw9]
  have s1:=hp1.cell 1 0 (b:=w.heap.size+1) rfl rfl rfl
  clear r0 f1 hw9
  refine ZpW (v:=.tuple #[.slice pa na ca,.int .i64 n]) (by simp[results,Tryz.f92,go_sem,s1]) rfl ⟨hp2,?_⟩
  refine .inr ⟨HC.out,?_⟩
  rcases HO3.out with ⟨s,us,h1,h2,h3,h5⟩ | ⟨h1,h2⟩
  ·exact .inl ⟨s,us,_,h2,h3,PL.put h5 (fun g hg _=>HK9.out g (by have:=HL3.out.2;omega)),by rw[h1]⟩
  ·exact .inr ⟨n,h1,by rw[h2]⟩
 ·have hz:(c !=0)=true:=by rw[bne_iff_ne];exact h0
  have HC:Hid (chkL [ps]=c/\c≠0):=⟨hc,h0⟩
  clear h0 hc
  have r0:=HX2.out.cell 1 0 (b:=w.heap.size+1) rfl rfl rfl
  have f1:=HX2.out.free 1 0 (b:=w.heap.size+1) rfl rfl
  go_wp2
  obtain⟨hp1,hp2⟩:=ZiA HX2.out HB2.out (.slice none 0 0)
  have HK9:Hid (∀ g,w.heap.size+2<=g->(w2.setCell ⟨w.heap.size+1,0,none⟩ (.slice none 0 0)).heap[g]?=w2.heap[g]?):=fun g hg=>ZpX _ ⟨w.heap.size+1,0,none⟩ _ _ (by simp;omega)
  obtain⟨w9,hw9⟩:=ZqJ (w2.setCell ⟨w.heap.size+1,0,none⟩ (.slice none 0 0))
  rw[hw9] at hp1 hp2 HK9
  rw[hw9]
  have s1:=hp1.cell 1 0 (b:=w.heap.size+1) rfl rfl rfl
  clear r0 f1 hw9
  refine ZpW (v:=.tuple #[.slice none 0 0,.int .i64 c]) (by simp[results,Tryz.f92,go_sem,s1]) rfl ⟨hp2,?_⟩
  exact .inl ⟨by rw[HC.out.1];exact HC.out.2,by rw[HC.out.1]⟩
def sumR:Rat->List Rat->Rat
 | a,[]=>a
 | a,q::qs=>sumR (a+q) qs
structure RunP where
 y:Int
 a:Int
 b:Int
structure GridP where
 w:Int
 h:Int
 size:Int
 land:List RunP
structure ShareP where
 x:Int
 y:Int
 weight:PP
structure StrideP where
 dx:Int
 dy:Int
 chance:PP
structure SceneP where
 weight:PP
 start:List ShareP
 strides:List StrideP
structure BelP where
 sea:GridP
 scenes:List SceneP
structure NoteP where
 time:Int
 mask:Int
 cells:List RunP
 inn:PP
 out:PP
def noP:PP:=(ZqD,ZqD)
def ZpH:RunP:=⟨0,0,0⟩
def ZoR:ShareP:=⟨0,0,noP⟩
def Zn2:StrideP:=⟨0,0,noP⟩
def ZoP:SceneP:=⟨noP,[],[]⟩
def Zpm:NoteP:=⟨0,0,[],noP,noP⟩
def rnA (l:List RunP) (i:Nat):RunP:=l.getD i ZpH
def shA (l:List ShareP) (i:Nat):ShareP:=l.getD i ZoR
def stA (l:List StrideP) (i:Nat):StrideP:=l.getD i Zn2
def scA (l:List SceneP) (i:Nat):SceneP:=l.getD i ZoP
def ntA (l:List NoteP) (i:Nat):NoteP:=l.getD i Zpm
def qP (p:PP):Rat:=ratP p.1 p.2
def ZW (k:Nat) (p:PP):Bool:=decide (p.1.size<=k) && decide (p.2.size<=k) && okP p.1 p.2
theorem Zbr {k:Nat} {p:PP} : ZW k p=true<->p.1.size<=k/\p.2.size<=k/\okP p.1 p.2=true:=by
 unfold ZW
 simp[and_assoc]
abbrev Pl:=Int×Int×Int
abbrev Fl:=List (Pl×Rat)
def plLt (a b:Pl):Bool:=decide (a.1<b.1) || (decide (a.1=b.1) && (decide (a.2.2<b.2.2) || (decide (a.2.2=b.2.2) && decide (a.2.1<b.2.1))))
def mA (l:Fl) (i:Nat):Pl×Rat:=l.getD i ((0,0,0),0)
def fget:Fl->Pl->Rat
 | [],_=>0
 | (k,v)::r,p=>if k=p then v else fget r p
def fset:Fl->Pl->Rat->Fl
 | [],p,q=>[(p,q)]
 | (k,v)::r,p,q=>if k=p then (p,q)::r else if plLt p k then (p,q)::(k,v)::r else (k,v)::fset r p q
def Zt {σ:Type} (g:Nat->σ->Except Int σ):Nat->σ->Except Int σ
 | 0,s=>.ok s
 | k+1,s=>match Zt g k s with
  | .error e=>.error e
  | .ok s'=>g k s'
section
variable {σ:Type} {g:Nat->σ->Except Int σ}
theorem Zdx (g:Nat->σ->Except Int σ) (k:Nat) (s:σ):Zt g (k+1) s=(match Zt g k s with | .error e=>.error e | .ok s'=>g k s'):=rfl
theorem Zag {k:Nat} {s s':σ} (h:Zt g k s=.ok s'):Zt g (k+1) s=g k s':=by rw[Zdx,h]
theorem Zb2 {k:Nat} {s:σ} {e:Int} (h:Zt g k s=.error e):∀ d,Zt g (k+d) s=.error e
 | 0=>h
 | d+1=>by rw[show k+(d+1)=k+d+1 from rfl,Zdx,Zb2 h d]
theorem ZZ {k n:Nat} {s s':σ} {e:Int} (h:Zt g k s=.ok s') (hg:g k s'=.error e) (hk:k<n):Zt g n s=.error e:=by
 have h1:Zt g (k+1) s=.error e:=(Zag h).trans hg
 have h2:=Zb2 h1 (n-(k+1))
 rwa [show k+1+(n-(k+1))=n by omega] at h2
theorem Zms {k:Nat} {s t:σ} (h:Zt g (k+1) s=.ok t):∃ s',Zt g k s=.ok s'/\g k s'=.ok t:=by
 rw[Zdx] at h
 cases h1:Zt g k s with
 | error e=>rw[h1] at h;cases h
 | ok s'=>rw[h1] at h;exact⟨s',rfl,h⟩
theorem Zaf {P:Nat->σ->Prop} {s0:σ} (h0:P 0 s0):∀ n,(∀ k s s',k<n->P k s->g k s=.ok s'->P (k+1) s')->∀ s,Zt g n s0=.ok s->P n s
 | 0,_,s,h=>by cases h;exact h0
 | n+1,hs,s,h=>by
  obtain⟨s',h1,h2⟩:=Zms h
  exact hs n s' s (Nat.lt_succ_self n) (Zaf h0 n (fun k a b hk=>hs k a b (Nat.lt_succ_of_lt hk)) s' h1) h2
end
def Zbb (l:List RunP) (i:Nat):RunP:=if i=0 then ⟨-1,0,0⟩ else rnA l (i-1)
def runG (g:GridP) (s r:RunP):Bool:=
 ((decide (max 0 s.y<=r.y) && decide (r.y<=wrap64 (g.h-1))) && (decide (0<=r.a) && decide (r.a<=wrap64 (r.b-1)))) && (decide (r.b<=g.w) && !(decide (r.y=s.y) && decide (r.a<=s.b)))
def ZV (f:Nat->Bool):Nat->Bool
 | 0=>false
 | n+1=>ZV f n || f n
def ZaM (g:GridP) (l:List RunP):Bool:=!ZV (fun i=>!runG g (Zbb l i) (rnA l i)) l.length && decide (l.length<=8192)
def inG (a n b:Int):Bool:=decide (a<=n) && decide (n<=b)
def ZaR (g:GridP):Bool:=(inG 1 g.w 256 && inG 1 g.h 256) && (inG 1 g.size 50000 && ZaM g g.land)
def hasC (g:GridP) (x y:Int):Bool:=(decide (0<=x) && decide (x<=g.w-1)) && (decide (0<=y) && decide (y<=g.h-1))
def Zba (key:Nat->Int×Int) (ok:Nat->Bool) (n:Nat):Bool:=!ZV (fun i=>ZV (fun j=>decide (key j=key i)) i || !ok i) n
def Zcy (p:PP):Bool:=decide (p.1=⟨#[48]⟩/\p.2=⟨#[49]⟩)
def Zct (g:GridP) (s:ShareP):Bool:=hasC g s.x s.y && ZW 9 s.weight
def Zao (s:StrideP):Bool:=(inG (-8) s.dx 8 && inG (-8) s.dy 8) && ZW 9 s.chance
def Zaa (g:GridP) (s:SceneP):Bool:=
 ((ZW 9 s.weight && inG 1 s.start.length 256) && inG 1 s.strides.length 25) &&
 ((Zba (fun k=>((shA s.start k).x,(shA s.start k).y)) (fun k=>Zct g (shA s.start k)) s.start.length && Zba (fun k=>((stA s.strides k).dx,(stA s.strides k).dy)) (fun k=>Zao (stA s.strides k)) s.strides.length) &&
 (ZV (fun k=>!Zcy (shA s.start k).weight) s.start.length && decide (sumA 0 (s.strides.map fun x=>qP x.chance)=some 1)))
def ZF (b:BelP):Bool:=(ZaR b.sea && inG 1 b.scenes.length 8) && (!ZV (fun k=>!Zaa b.sea (scA b.scenes k)) b.scenes.length && ZV (fun k=>!Zcy (scA b.scenes k).weight) b.scenes.length)
def hasR (l:List RunP) (x y:Int):Bool:=l.any fun r=>decide (r.y=y) && (decide (r.a<=x) && decide (x<r.b))
def Zbx (p:PP):Bool:=ZW 9 p && decide (qP p<=1)
def ZH (b:BelP) (n:NoteP):Bool:=((inG 0 n.time 32 && inG 0 n.mask 255) && (ZaR b.sea && ZaM b.sea n.cells)) && (Zbx n.inn && Zbx n.out)
def Z3 (b:BelP) (ns:List NoteP) (steps:Int):Int:=
 if !ZF b || ZV (fun k=>!ZH b (ntA ns k)) ns.length then 2 else if 64<ns.length then 3 else if !inG 0 steps 32 || ZV (fun k=>decide (steps<(ntA ns k).time)) ns.length then 2 else 0
def ZcY (p:Pl):Bool:=decide (p.2.1 = -1) && decide (p.2.2 = -1)
def Zaz (b:BelP) (p:Pl):Bool:=ZcY p || hasR b.sea.land p.2.1 p.2.2
def Deep (q:Rat):Prop:=(numD q).length<=300/\(denD q).length<=300
instance deepDec (q:Rat):Decidable (Deep q):=inferInstanceAs (Decidable (_/\_))
def addF (f:Fl) (p:Pl) (q:Rat):Except Int Fl:=if Fits (fget f p+q) then .ok (fset f p (fget f p+q)) else .error 4
def outF (f:Fl):Except Int Fl:=if ∀ x ∈ f,x.2≠0->Deep x.2 then .ok (f.filter fun x=>decide (x.2≠0)) else .error 4
def mulF (a b:Rat):Except Int Rat:=if Fits (a*b) then .ok (a*b) else .error 4
def ZcU (k:Int) (sk:Rat) (l:List ShareP) (ws:List Rat) (i:Nat) (f:Fl):Except Int Fl:=
 match mulF sk (ws.getD i 0) with
 | .error e=>.error e
 | .ok q=>addF f (k,(shA l i).x,(shA l i).y) q
def ZbE (b:BelP) (qs:List Rat) (k:Nat) (f:Fl):Except Int Fl:=
 match Z2 ((scA b.scenes k).start.map fun s=>qP s.weight) with
 | .error e=>.error e
 | .ok ws=>Zt (ZcU k (qs.getD k 0) (scA b.scenes k).start ws) ws.length f
def ZaK (b:BelP):Except Int Fl:=
 match Z2 (b.scenes.map fun s=>qP s.weight) with
 | .error e=>.error e
 | .ok qs=>match Zt (ZbE b qs) b.scenes.length [] with
  | .error e=>.error e
  | .ok f=>outF f
def Z6 (b:BelP) (p:Pl) (s:StrideP):Pl:=if hasC b.sea (p.2.1+s.dx) (p.2.2+s.dy) then (p.1,p.2.1+s.dx,p.2.2+s.dy) else (p.1,-1,-1)
def Zw (b:BelP) (k:Int):List StrideP:=(scA b.scenes k.toNat).strides
def Zc8 (b:BelP) (p:Pl) (q:Rat) (l:List StrideP) (i:Nat) (f:Fl):Except Int Fl:=
 match mulF q (qP (stA l i).chance) with
 | .error e=>.error e
 | .ok r=>addF f (Z6 b p (stA l i)) r
def ZcW (b:BelP) (ms:Fl) (i:Nat) (f:Fl):Except Int Fl:=
 if Zaz b (mA ms i).1 then addF f (mA ms i).1 (mA ms i).2
 else Zt (Zc8 b (mA ms i).1 (mA ms i).2 (Zw b (mA ms i).1.1)) (Zw b (mA ms i).1.1).length f
def ZaB (b:BelP) (ms:Fl):Except Int Fl:=
 match Zt (ZcW b ms) ms.length [] with
 | .error e=>.error e
 | .ok f=>outF f
def bitF (m k:Int):Bool:=decide (m/2 ^ k.toNat % 2=1)
def ZE (n:NoteP) (p:Pl):Rat:=if bitF n.mask p.1 then (if hasR n.cells p.2.1 p.2.2 then qP n.inn else qP n.out) else 1
def Za9 (g:Pl->Except Int Rat) (ms:Fl) (i:Nat) (l:List Rat):Except Int (List Rat):=
 match g (mA ms i).1 with
 | .error e=>.error e
 | .ok r=>match mulF (mA ms i).2 r with
  | .error e=>.error e
  | .ok q=>.ok (l++[q])
def addG (l:List Rat) (i:Nat) (s:Rat):Except Int Rat:=if Fits (s+l.getD i 0) then .ok (s+l.getD i 0) else .error 4
def setG (z:Rat) (ms:Fl) (l:List Rat) (i:Nat) (f:Fl):Except Int Fl:=if Fits (l.getD i 0/z) then .ok (fset f (mA ms i).1 (l.getD i 0/z)) else .error 4
def ZaY (ms:Fl) (l:List Rat):Except Int (Fl×Rat):=
 match Zt (addG l) l.length 0 with
 | .error e=>.error e
 | .ok z=>if z=0 then .error 7 else match Zt (setG z ms l) ms.length [] with
  | .error e=>.error e
  | .ok f=>match outF f with
   | .error e=>.error e
   | .ok o=>.ok (o,z)
def ZaF (ms:Fl) (n:NoteP):Except Int (Fl×Rat):=
 match Zt (Za9 (fun p=>.ok (ZE n p)) ms) ms.length [] with
 | .error e=>.error e
 | .ok l=>ZaY ms l
def Zab (ns:List NoteP) (t:Nat) (i:Nat) (s:Fl×Rat):Except Int (Fl×Rat):=
 if (ntA ns i).time=(t:Nat) then
  match ZaF s.1 (ntA ns i) with
  | .error e=>.error e
  | .ok (m,z)=>match mulF s.2 z with
   | .error e=>.error e
   | .ok l=>.ok (m,l)
 else .ok s
def ZaG (b:BelP) (ns:List NoteP) (t:Nat) (s:List Fl×Fl×Rat):Except Int (List Fl×Fl×Rat):=
 match (if t=0 then .ok s.2.1 else ZaB b s.2.1) with
 | .error e=>.error e
 | .ok now=>match Zt (Zab ns t) ns.length (now,s.2.2) with
  | .error e=>.error e
  | .ok (m,l)=>.ok (s.1++[m],m,l)
def Zae (b:BelP) (ns:List NoteP) (steps:Nat):Except Int (List Fl×Rat):=
 match ZaK b with
 | .error e=>.error e
 | .ok m=>match Zt (ZaG b ns) (steps+1) ([],m,1) with
  | .error e=>.error e
  | .ok s=>.ok (s.1,s.2.2)
structure SP where
 P:World->Prop
 fp:Nat->Prop
 st:∀ {w w':World},P w->Keeps fp w w'->P w'
structure Env (B:Nat) (w0:World) (bs:List (Nat×Obj)) (ps:List SP) (w:World):Prop where
 base:Below B w0 w
 own:B<=w.heap.size
 cells:∀ (i:Nat) (p:Nat×Obj),bs[i]?=some p->B<=p.1/\w.heap[p.1]?=some p.2
 apart:∀ (i j:Nat) (p q:Nat×Obj),bs[i]?=some p->bs[j]?=some q->p.1=q.1->i=j
 props:∀ (i:Nat) (q:SP),ps[i]?=some q->q.P w/\(∀ b,q.fp b->b<w.heap.size)/\(∀ (j:Nat) (p:Nat×Obj),bs[j]?=some p->¬ q.fp p.1)
section
variable {B:Nat} {w0 w w':World} {bs:List (Nat×Obj)} {ps:List SP}
theorem Env.start (w:World):Env w.heap.size w [] [] w:=⟨ZpV _ w,Nat.le_refl _,fun i p h=>by simp at h,fun i j p q h=>by simp at h,fun i q h=>by simp at h⟩
theorem Env.after {C:Nat} (h:Env B w0 bs ps w) (hb:Below C w w') (hC:w.heap.size<=C):Env B w0 bs ps w' where
 base:=h.base.trans (hb.mono (Zp4 h.own hC))
 own:=Zp4 h.own hb.size
 cells:=fun i p hp=>by
  obtain⟨h1,h2⟩:=h.cells i p hp
  refine⟨h1,?_⟩
  rw[hb.block _ (Zp2 (ZqC h2) hC)]
  exact h2
 apart:=h.apart
 props:=fun i q hq=>by
  obtain⟨h1,h2,h3⟩:=h.props i q hq
  exact⟨q.st h1 ⟨hb.os,hb.tape,hb.output,hb.size,fun k hk _=>hb.block k Za⟩,fun b hb2=>Zp2 (h2 b hb2) hb.size,h3⟩
theorem Env.step (h:Env B w0 bs ps w) (hb:Below w.heap.size w w'):Env B w0 bs ps w':=h.after hb ZqI
theorem Env.drew (h:Env B w0 bs ps w):Env B w0 bs ps w.drew:=h.step (ZpV _ w).drew
theorem Env.push (h:Env B w0 bs ps w) (o:Obj) {g:Nat} (hg:g=w.heap.size):Env B w0 ((g,o)::bs) ps (w.alloc o):=by
 subst hg
 have hb:Below w.heap.size w (w.alloc o):=(ZpV _ w).alloc ZqI o
 have h':=h.step hb
 have hlt:∀ (j:Nat) (p:Nat×Obj),bs[j]?=some p->p.1<w.heap.size:=fun j p hp=>(ZpU.1 (h.cells j p hp).2).1
 refine⟨h'.base,h'.own,fun i p hp=>?_,fun i j p q hp hq e=>?_,fun i q hq=>?_⟩
 ·cases i with
  | zero=>
   obtain rfl:=ZpZ hp
   exact⟨h.own,ZpY w o⟩
  | succ i=>exact h'.cells i p (by simpa using hp)
 ·cases i with
  | zero=>
   cases j with
   | zero=>rfl
   | succ j=>
    obtain rfl:=ZpZ hp
    have:=hlt j q (by simpa using hq)
    simp only at e
    omega
  | succ i=>
   cases j with
   | zero=>
    obtain rfl:=ZpZ hq
    have:=hlt i p (by simpa using hp)
    simp only at e
    omega
   | succ j=>rw[h.apart i j p q (by simpa using hp) (by simpa using hq) e]
 ·obtain⟨h1,h2,h3⟩:=h'.props i q hq
  refine⟨h1,h2,fun j p hp hc=>?_⟩
  cases j with
  | zero=>
   obtain rfl:=ZpZ hp
   have:=(h.props i q hq).2.1 _ hc
   simp only at this
   omega
  | succ j=>exact h3 j p (by simpa using hp) hc
theorem Env.block (h:Env B w0 bs ps w) (i:Nat) {g:Nat} {o:Obj} (hi:bs[i]?=some (g,o)):w.heap[g]?=some o:=(h.cells i _ hi).2
theorem Env.lt (h:Env B w0 bs ps w) (i:Nat) {g:Nat} {o:Obj} (hi:bs[i]?=some (g,o)):g<w.heap.size:=(ZqC (h.block i hi))
theorem Env.le (h:Env B w0 bs ps w) (i:Nat) {g:Nat} {o:Obj} (hi:bs[i]?=some (g,o)):B<=g:=(h.cells i _ hi).1
theorem Env.cell (h:Env B w0 bs ps w) (i j:Nat) {g:Nat} {cs:Array Value} {T:TypeId} {v:Value} (hi:bs[i]?=some (g,.cells cs T (0,0))) (hv:cs[j]?=some v):w.cell? ⟨g,j,none⟩=some v:=Zn (h.block i hi) j hv
theorem Env.free (h:Env B w0 bs ps w) (i j:Nat) {g:Nat} {cs:Array Value} {T:TypeId} (hi:bs[i]?=some (g,.cells cs T (0,0))):w.frozen? ⟨g,j,none⟩=false:=Zo (h.block i hi) j
theorem Env.put (h:Env B w0 bs ps w) (i:Nat) {g:Nat} {o:Obj} (o':Obj) (hi:bs[i]?=some (g,o)) (hw:w'.heap[g]?=some o') (hk:Keeps (fun b=>b≠g) w w'):Env B w0 (bs.set i (g,o')) ps w':=by
 have hil:i<bs.length:=(Zqj.1 hi).1
 have hget:∀ (j:Nat) (p:Nat×Obj),(bs.set i (g,o'))[j]?=some p->(j=i/\p=(g,o'))\/(j≠i/\bs[j]?=some p):=fun j p hp=>by
  by_cases e:j=i
  ·subst e
   rw[List.getElem?_set_self hil] at hp
   exact .inl ⟨rfl,(ZpZ hp).symm⟩
  ·rw[List.getElem?_set_ne (Ne.symm e)] at hp
   exact .inr ⟨e,hp⟩
 have hB:B<=g:=h.le i hi
 refine⟨h.base.trans ⟨hk.os,hk.tape,hk.output,hk.size,fun k hlt=>hk.block k (by have:=h.own;omega) Za⟩,Zp4 h.own hk.size,fun j p hp=>?_,fun j k p q hp hq e=>?_,fun j q hq=>?_⟩
 ·rcases hget j p hp with ⟨rfl,rfl⟩ | ⟨hne,hp⟩
  ·exact⟨hB,hw⟩
  ·obtain⟨h1,h2⟩:=h.cells j p hp
   refine⟨h1,?_⟩
   rw[hk.block _ (ZqC h2) (fun e=>hne (h.apart j i p _ hp hi e))]
   exact h2
 ·rcases hget j p hp with ⟨e1,e2⟩ | ⟨hne,hp'⟩
  ·rcases hget k q hq with ⟨e3,e4⟩ | ⟨hne2,hq'⟩
   ·rw[e1,e3]
   ·rw[e2] at e
    rw[e1]
    exact h.apart i k _ q hi hq' e
  ·rcases hget k q hq with ⟨e3,e4⟩ | ⟨hne2,hq'⟩
   ·rw[e4] at e
    rw[e3]
    exact h.apart j i p _ hp' hi e
   ·exact h.apart j k p q hp' hq' e
 ·obtain⟨h1,h2,h3⟩:=h.props j q hq
  have hng:¬ q.fp g:=h3 i _ hi
  refine⟨q.st h1 (hk.mono fun b _ hb e=>hng (e ▸ hb)),fun b hb=>Zp2 (h2 b hb) hk.size,fun k p hp hc=>?_⟩
  rcases hget k p hp with ⟨rfl,rfl⟩ | ⟨_,hp⟩
  ·exact hng hc
  ·exact h3 k p hp hc
theorem Env.store (h:Env B w0 bs ps w) (i j:Nat) {g:Nat} {cs:Array Value} {T:TypeId} (v:Value) (hi:bs[i]?=some (g,.cells cs T (0,0))):Env B w0 (bs.set i (g,.cells (cs.set! j v) T (0,0))) ps (w.setCell ⟨g,j,none⟩ v):=
 h.put i (.cells (cs.set! j v) T (0,0)) hi (Zp0 (h.block i hi) v) ((Keeps.refl _ w).setCell Zc v)
theorem Env.know (h:Env B w0 bs ps w) (q:SP) (hq:q.P w) (hf:∀ b,q.fp b->b<w.heap.size) (ha:∀ (j:Nat) (p:Nat×Obj),bs[j]?=some p->¬ q.fp p.1):Env B w0 bs (q::ps) w where
 base:=h.base
 own:=h.own
 cells:=h.cells
 apart:=h.apart
 props:=fun i r hr=>by
  cases i with
  | zero=>
   obtain rfl:=ZpZ hr
   exact⟨hq,hf,ha⟩
  | succ i=>exact h.props i r (by simpa using hr)
theorem Env.learn (h:Env B w0 bs ps w) (hb:Below w.heap.size w w') (q:SP) (hq:q.P w') (hf:∀ b,q.fp b->w.heap.size<=b/\b<w'.heap.size):Env B w0 bs (q::ps) w':=
 (h.step hb).know q hq (fun b hb2=>(hf b hb2).2) fun j p hp hc=>by
  have h1:=(hf _ hc).1
  have h2:=(ZpU.1 (h.cells j p hp).2).1
  omega
theorem Env.tail {p:Nat×Obj} (h:Env B w0 (p::bs) ps w):Env B w0 bs ps w:=
 ⟨h.base,h.own,fun i q hq=>h.cells (i+1) q (by simpa using hq),fun i j p q hp hq e=>by have:=h.apart (i+1) (j+1) p q (by simpa using hp) (by simpa using hq) e;omega,
  fun i q hq=>⟨(h.props i q hq).1,(h.props i q hq).2.1,fun j p hp=>(h.props i q hq).2.2 (j+1) p (by simpa using hp)⟩⟩
theorem Env.fill {g:Nat} {a b:Value} {T:TypeId} (h:Env B w0 ((g,.cells #[a,b] T (0,0))::bs) ps w) (x y:Value):Env B w0 ((g,.cells #[x,y] T (0,0))::bs) ps ((w.setCell ⟨g,0,none⟩ x).setCell ⟨g,1,none⟩ y):=
 h.put 0 (.cells #[x,y] T (0,0)) rfl (ZQ (h.block 0 rfl) x y) (((Keeps.refl _ w).setCell Zc x).setCell Zc y)
theorem Env.laid (h:Env B w0 bs ps w) (hb:Below w.heap.size w w') {g:Nat} {o:Obj} (hg:w'.heap[g]?=some o) (hle:w.heap.size<=g):Env B w0 ((g,o)::bs) ps w':=by
 have h':=h.step hb
 have hlt:∀ (j:Nat) (p:Nat×Obj),bs[j]?=some p->p.1<w.heap.size:=fun j p hp=>(ZpU.1 (h.cells j p hp).2).1
 refine⟨h'.base,h'.own,fun i p hp=>?_,fun i j p q hp hq e=>?_,fun i q hq=>?_⟩
 ·cases i with
  | zero=>
   obtain rfl:=ZpZ hp
   exact⟨Zp4 h.own hle,hg⟩
  | succ i=>exact h'.cells i p (by simpa using hp)
 ·cases i with
  | zero=>
   cases j with
   | zero=>rfl
   | succ j=>
    obtain rfl:=ZpZ hp
    have:=hlt j q (by simpa using hq)
    simp only at e
    omega
  | succ i=>
   cases j with
   | zero=>
    obtain rfl:=ZpZ hq
    have:=hlt i p (by simpa using hp)
    simp only at e
    omega
   | succ j=>rw[h.apart i j p q (by simpa using hp) (by simpa using hq) e]
 ·obtain⟨h1,h2,h3⟩:=h'.props i q hq
  refine⟨h1,h2,fun j p hp hc=>?_⟩
  cases j with
  | zero=>
   obtain rfl:=ZpZ hp
   have:=(h.props i q hq).2.1 _ hc
   simp only at this
   omega
  | succ j=>exact h3 j p (by simpa using hp) hc
theorem Env.only (h:Env B w0 bs ps w) (is:List Nat) (bs':List (Nat×Obj)) (hb:bs'=is.filterMap (fun i=>bs[i]?)) (hn:is.Nodup):Env B w0 bs' ps w:=by
 subst hb
 have hget:∀ (k:Nat) (p:Nat×Obj),(is.filterMap (fun i=>bs[i]?))[k]?=some p->∃ i ∈ is,bs[i]?=some p:=fun k p hp=>by
  have:=List.mem_of_getElem? hp
  rw[List.mem_filterMap] at this
  exact this
 refine⟨h.base,h.own,fun i p hp=>?_,?_,fun i q hq=>?_⟩
 ·obtain⟨j,_,hj⟩:=hget i p hp
  exact h.cells j p hj
 ·have hp:(is.filterMap (fun i=>bs[i]?)).Pairwise (fun a b=>a.1≠b.1):=by
   rw[List.pairwise_filterMap]
   refine List.Pairwise.imp ?_ hn
   intro a b hab p hp q hq e
   exact hab (h.apart a b p q hp hq e)
  intro i j p q h1 h2 e
  rcases Nat.lt_trichotomy i j with hlt | rfl | hlt
  ·obtain⟨l1,e1⟩:=Zqj.1 h1
   obtain⟨l2,e2⟩:=Zqj.1 h2
   have:=(List.pairwise_iff_getElem.1 hp) i j l1 l2 hlt
   rw[e1,e2] at this
   exact Zqx e this
  ·rfl
  ·obtain⟨l1,e1⟩:=Zqj.1 h1
   obtain⟨l2,e2⟩:=Zqj.1 h2
   have:=(List.pairwise_iff_getElem.1 hp) j i l2 l1 hlt
   rw[e1,e2] at this
   exact Zqx e.symm this
 ·obtain⟨h1,h2,h3⟩:=h.props i q hq
  refine⟨h1,h2,fun j p hp=>?_⟩
  obtain⟨k,_,hk⟩:=hget j p hp
  exact h3 k p hk
end
section
variable {S S':Nat->Prop} {Q Q':World->Prop} {w w':World}
theorem Keeps.toBelow {B:Nat} (h:Keeps (fun b=>b<B) w w') (hB:B<=w.heap.size):Below B w w':=⟨h.os,h.tape,h.output,h.size,fun k hk=>h.block k Za hk⟩
theorem _root_.Go.RowKit.Below.keepsS (h:Below w.heap.size w w') (S:Nat->Prop):Keeps S w w':=⟨h.os,h.tape,h.output,h.size,fun k hk _=>h.block k hk⟩
end
structure EnvS (S:Nat->Prop) (w0:World) (bs:List (Nat×Obj)) (w:World):Prop where
 base:Keeps S w0 w
 up:∀ b,w0.heap.size<=b->S b
 cells:∀ (i:Nat) (p:Nat×Obj),bs[i]?=some p->w0.heap.size<=p.1/\w.heap[p.1]?=some p.2
 apart:∀ (i j:Nat) (p q:Nat×Obj),bs[i]?=some p->bs[j]?=some q->p.1=q.1->i=j
section
variable {S:Nat->Prop} {w0 w w':World} {bs:List (Nat×Obj)}
theorem EnvS.start (w:World) (hu:∀ b,w.heap.size<=b->S b):EnvS S w [] w:=⟨Keeps.refl _ w,hu,fun i p h=>by simp at h,fun i j p q h=>by simp at h⟩
theorem EnvS.own (h:EnvS S w0 bs w):w0.heap.size<=w.heap.size:=h.base.size
theorem EnvS.keep (h:EnvS S w0 bs w) (hk:Keeps S w w'):EnvS S w0 bs w' where
 base:=h.base.trans hk
 up:=h.up
 cells:=fun i p hp=>by
  obtain⟨h1,h2⟩:=h.cells i p hp
  exact⟨h1,(hk.block _ (ZqC h2) (h.up _ h1)).trans h2⟩
 apart:=h.apart
theorem EnvS.step (h:EnvS S w0 bs w) (hb:Below w.heap.size w w'):EnvS S w0 bs w':=h.keep (hb.keepsS S)
theorem EnvS.drew (h:EnvS S w0 bs w):EnvS S w0 bs w.drew:=h.step (ZpV _ w).drew
theorem EnvS.push (h:EnvS S w0 bs w) (o:Obj) {g:Nat} (hg:g=w.heap.size):EnvS S w0 ((g,o)::bs) (w.alloc o):=by
 subst hg
 have h':=h.step ((ZpV _ w).alloc ZqI o)
 have hlt:∀ (j:Nat) (p:Nat×Obj),bs[j]?=some p->p.1<w.heap.size:=fun j p hp=>(ZpU.1 (h.cells j p hp).2).1
 refine⟨h'.base,h.up,fun i p hp=>?_,fun i j p q hp hq e=>?_⟩
 ·cases i with
  | zero=>
   obtain rfl:=ZpZ hp
   exact⟨h.own,ZpY w o⟩
  | succ i=>exact h'.cells i p (by simpa using hp)
 ·cases i with
  | zero=>
   cases j with
   | zero=>rfl
   | succ j=>
    obtain rfl:=ZpZ hp
    have:=hlt j q (by simpa using hq)
    simp only at e
    omega
  | succ i=>
   cases j with
   | zero=>
    obtain rfl:=ZpZ hq
    have:=hlt i p (by simpa using hp)
    simp only at e
    omega
   | succ j=>rw[h.apart i j p q (by simpa using hp) (by simpa using hq) e]
theorem EnvS.block (h:EnvS S w0 bs w) (i:Nat) {g:Nat} {o:Obj} (hi:bs[i]?=some (g,o)):w.heap[g]?=some o:=(h.cells i _ hi).2
theorem EnvS.lt (h:EnvS S w0 bs w) (i:Nat) {g:Nat} {o:Obj} (hi:bs[i]?=some (g,o)):g<w.heap.size:=(ZqC (h.block i hi))
theorem EnvS.le (h:EnvS S w0 bs w) (i:Nat) {g:Nat} {o:Obj} (hi:bs[i]?=some (g,o)):w0.heap.size<=g:=(h.cells i _ hi).1
theorem EnvS.cell (h:EnvS S w0 bs w) (i j:Nat) {g:Nat} {cs:Array Value} {T:TypeId} {v:Value} (hi:bs[i]?=some (g,.cells cs T (0,0))) (hv:cs[j]?=some v):w.cell? ⟨g,j,none⟩=some v:=Zn (h.block i hi) j hv
theorem EnvS.free (h:EnvS S w0 bs w) (i j:Nat) {g:Nat} {cs:Array Value} {T:TypeId} (hi:bs[i]?=some (g,.cells cs T (0,0))):w.frozen? ⟨g,j,none⟩=false:=Zo (h.block i hi) j
theorem EnvS.put (h:EnvS S w0 bs w) (i:Nat) {g:Nat} {o:Obj} (o':Obj) (hi:bs[i]?=some (g,o)) (hw:w'.heap[g]?=some o') (hk:Keeps (fun b=>b≠g) w w'):EnvS S w0 (bs.set i (g,o')) w':=by
 have hil:i<bs.length:=(Zqj.1 hi).1
 have hget:∀ (j:Nat) (p:Nat×Obj),(bs.set i (g,o'))[j]?=some p->(j=i/\p=(g,o'))\/(j≠i/\bs[j]?=some p):=fun j p hp=>by
  by_cases e:j=i
  ·subst e
   rw[List.getElem?_set_self hil] at hp
   exact .inl ⟨rfl,(ZpZ hp).symm⟩
  ·rw[List.getElem?_set_ne (Ne.symm e)] at hp
   exact .inr ⟨e,hp⟩
 have hB:w0.heap.size<=g:=h.le i hi
 refine⟨⟨hk.os.trans h.base.os,hk.tape.trans h.base.tape,hk.output.trans h.base.output,Zp4 h.own hk.size,fun k hlt hs=>(hk.block k (by have:=h.own;omega) Za).trans (h.base.block k hlt hs)⟩,h.up,fun j p hp=>?_,fun j k p q hp hq e=>?_⟩
 ·rcases hget j p hp with ⟨rfl,rfl⟩ | ⟨hne,hp⟩
  ·exact⟨hB,hw⟩
  ·obtain⟨h1,h2⟩:=h.cells j p hp
   refine⟨h1,?_⟩
   rw[hk.block _ (ZqC h2) (fun e=>hne (h.apart j i p _ hp hi e))]
   exact h2
 ·rcases hget j p hp with ⟨e1,e2⟩ | ⟨hne,hp'⟩
  ·rcases hget k q hq with ⟨e3,e4⟩ | ⟨hne2,hq'⟩
   ·rw[e1,e3]
   ·rw[e2] at e
    rw[e1]
    exact h.apart i k _ q hi hq' e
  ·rcases hget k q hq with ⟨e3,e4⟩ | ⟨hne2,hq'⟩
   ·rw[e4] at e
    rw[e3]
    exact h.apart j i p _ hp' hi e
   ·exact h.apart j k p q hp' hq' e
theorem EnvS.store (h:EnvS S w0 bs w) (i j:Nat) {g:Nat} {cs:Array Value} {T:TypeId} (v:Value) (hi:bs[i]?=some (g,.cells cs T (0,0))):EnvS S w0 (bs.set i (g,.cells (cs.set! j v) T (0,0))) (w.setCell ⟨g,j,none⟩ v):=
 h.put i (.cells (cs.set! j v) T (0,0)) hi (Zp0 (h.block i hi) v) ((Keeps.refl _ w).setCell Zc v)
theorem EnvS.fill {g:Nat} {a b:Value} {T:TypeId} (h:EnvS S w0 ((g,.cells #[a,b] T (0,0))::bs) w) (x y:Value):EnvS S w0 ((g,.cells #[x,y] T (0,0))::bs) ((w.setCell ⟨g,0,none⟩ x).setCell ⟨g,1,none⟩ y):=
 h.put 0 (.cells #[x,y] T (0,0)) rfl (ZQ (h.block 0 rfl) x y) (((Keeps.refl _ w).setCell Zc x).setCell Zc y)
theorem EnvS.laid (h:EnvS S w0 bs w) (hb:Keeps S w w') {g:Nat} {o:Obj} (hg:w'.heap[g]?=some o) (hle:w.heap.size<=g):EnvS S w0 ((g,o)::bs) w':=by
 have h':=h.keep hb
 have hlt:∀ (j:Nat) (p:Nat×Obj),bs[j]?=some p->p.1<w.heap.size:=fun j p hp=>(ZpU.1 (h.cells j p hp).2).1
 refine⟨h'.base,h.up,fun i p hp=>?_,fun i j p q hp hq e=>?_⟩
 ·cases i with
  | zero=>
   obtain rfl:=ZpZ hp
   exact⟨Zp4 h.own hle,hg⟩
  | succ i=>exact h'.cells i p (by simpa using hp)
 ·cases i with
  | zero=>
   cases j with
   | zero=>rfl
   | succ j=>
    obtain rfl:=ZpZ hp
    have:=hlt j q (by simpa using hq)
    simp only at e
    omega
  | succ i=>
   cases j with
   | zero=>
    obtain rfl:=ZpZ hq
    have:=hlt i p (by simpa using hp)
    simp only at e
    omega
   | succ j=>rw[h.apart i j p q (by simpa using hp) (by simpa using hq) e]
theorem EnvS.only (h:EnvS S w0 bs w) (is:List Nat) (bs':List (Nat×Obj)) (hb:bs'=is.filterMap (fun i=>bs[i]?)) (hn:is.Nodup):EnvS S w0 bs' w:=by
 subst hb
 have hget:∀ (k:Nat) (p:Nat×Obj),(is.filterMap (fun i=>bs[i]?))[k]?=some p->∃ i ∈ is,bs[i]?=some p:=fun k p hp=>by
  have:=List.mem_of_getElem? hp
  rw[List.mem_filterMap] at this
  exact this
 refine⟨h.base,h.up,fun i p hp=>?_,?_⟩
 ·obtain⟨j,_,hj⟩:=hget i p hp
  exact h.cells j p hj
 ·have hp:(is.filterMap (fun i=>bs[i]?)).Pairwise (fun a b=>a.1≠b.1):=by
   rw[List.pairwise_filterMap]
   refine List.Pairwise.imp ?_ hn
   intro a b hab p hp q hq e
   exact hab (h.apart a b p q hp hq e)
  intro i j p q h1 h2 e
  rcases Nat.lt_trichotomy i j with hlt | rfl | hlt
  ·obtain⟨l1,e1⟩:=Zqj.1 h1
   obtain⟨l2,e2⟩:=Zqj.1 h2
   have:=(List.pairwise_iff_getElem.1 hp) i j l1 l2 hlt
   rw[e1,e2] at this
   exact Zqx e this
  ·rfl
  ·obtain⟨l1,e1⟩:=Zqj.1 h1
   obtain⟨l2,e2⟩:=Zqj.1 h2
   have:=(List.pairwise_iff_getElem.1 hp) j i l2 l1 hlt
   rw[e1,e2] at this
   exact Zqx e.symm this
end
end Go.Proofs.YtjmckebecpjjfaaGreatDoor
