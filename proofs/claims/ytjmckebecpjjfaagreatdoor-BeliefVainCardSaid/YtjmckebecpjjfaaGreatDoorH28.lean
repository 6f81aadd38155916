/- The parts BOpen, BRowBase. -/
import Derived.Test.YtjmckebecpjjfaaGreatDoorH25
import Derived.Test.YtjmckebecpjjfaaGreatDoorRows
import Derived.ProofKit
import Derived.OpenShut
import Derived.LaidMore
import Derived.LaidSub
import Derived.Lay
import Derived.Lib.LaidTab
import Derived.SevenTiedAt
import Derived.Stop.Joined
import Derived.Deep.SlicePairs
set_option maxRecDepth 100000
set_option linter.unusedVariables false
set_option linter.unusedSimpArgs false
namespace Go.Proofs.YtjmckebecpjjfaaGreatDoor
open Go.ChangeShapes Go.WideShapes Go.ChangeAt Go.RowKit
section
variable {H:Type} {enc:TypeId×Value->H} {W:World} {base b0:Nat} {sp:Nat->Bool} {held:Bool}
def Zf0 {α:Type} (enc:TypeId×Value->H) (W:World) (base:Nat) (sp:Nat->Bool) (held:Bool) (e:TypeId) (k:Nat) (R:World->Nat->Nat->α->Prop):Prop:=
 ∀ (b o:Nat) (spot:Option Nat) (cs:List Value) (n:Nat) (x:DataW H×List MemPlace),cs.length=k->(∀ i,i<k->W.cell? ((⟨b,o,spot⟩:Addr).add i)=cs[i]?)->DataW.trod enc Tryz.prog W base sp held n e cs=some x->spot=none/\b<W.heap.size/\∃ q,R W b o q
theorem Zc7 {α:Type} {t e:TypeId} {k:Nat} {R:World->Nat->Nat->α->Prop} (ht:Tryz.prog.underlying t=some (.slice e)) (hk:Tryz.prog.cellsOf e=k) (hR:Zf0 enc W base sp held e k R) {n:Nat} {v:Value} {x:DataW H×List MemPlace}
  (h:DataW.trod enc Tryz.prog W base sp held n t [v]=some x):∃ l:List α,LL k R W v l:=by
 rcases Deep.open_slice ht h with ⟨hcs,_⟩ | ⟨a,len',cap',m,n,D,Pl,hcs,_,hl,hm,hmm,_,hx⟩
 ·simp only[List.cons.injEq,and_true] at hcs
  subst hcs
  exact⟨[],LL.nil W⟩
 ·simp only[List.cons.injEq,and_true] at hcs
  subst hcs
  have hlm:len'<=m:=by rw[hmm];split<;>omega
  obtain⟨b,off,spot⟩:=a
  have each:∀ i,i<len'->spot=none/\b<W.heap.size/\∃ q,R W b (off+i*k) q:=fun i hi=>by
   obtain⟨cs',h1,h2⟩:=hx i Za
   rw[hk] at h1
   obtain⟨_,hlen,hcell⟩:=World.cells?_some h1
   have e:(⟨b,off,spot⟩:Addr).add (i*k)=⟨b,off+i*k,if i*k=0 then spot else none⟩\/(⟨b,off,spot⟩:Addr).add (i*k)=⟨b,off+i*k,spot⟩:=by
    unfold Addr.add
    by_cases h0:i*k=0
    ·simp[h0]
    ·simp[h0]
   rcases e with e | e
   ·rw[e] at hcell
    obtain⟨z1,z2,z3⟩:=hR _ _ _ _ _ _ hlen hcell h2
    by_cases h0:i*k=0
    ·rw[if_pos h0] at z1
     exact⟨z1,z2,z3⟩
    ·obtain⟨c0,d1,d2⟩:=hx 0 Za
     rw[hk,Nat.zero_mul] at d1
     obtain⟨_,hlen0,hcell0⟩:=World.cells?_some d1
     have e0:(⟨b,off,spot⟩:Addr).add 0=⟨b,off,spot⟩:=by simp[Addr.add]
     rw[e0] at hcell0
     exact⟨(hR _ _ _ _ _ _ hlen0 hcell0 d2).1,z2,z3⟩
   ·rw[e] at hcell
    exact hR _ _ _ _ _ _ hlen hcell h2
  obtain⟨q,hq⟩:∃ q:(i:Nat)->i<len'->α,∀ i hi,R W b (off+i*k) (q i hi):=⟨fun i hi=>(each i hi).2.2.choose,fun i hi=>(each i hi).2.2.choose_spec⟩
  refine⟨List.ofFn fun i:Fin len'=>q i.1 i.2,some ⟨b,off,spot⟩,cap',Zc,by simpa using hl,hm,fun hne=>?_⟩
  have h0:0<len':=by
   rcases Zqa len' with h | h
   ·subst h;exact Zqx rfl hne
   ·exact h
  obtain⟨rfl,hb,_⟩:=each 0 h0
  refine⟨b,off,rfl,hb,fun j hj=>?_⟩
  have hj':j<len':=by simpa using hj
  have e:(List.ofFn fun i:Fin len'=>q i.1 i.2)[j]=q j hj':=Zc
  rw[e]
  exact hq j hj'
theorem ZcP {b o:Nat} {spot:Option Nat} {v:Value} (h:W.cell? ((⟨b,o,spot⟩:Addr).add 0)=some v):spot=none/\b<W.heap.size/\W.cell? ⟨b,o,none⟩=some v:=by
 have e0:(⟨b,o,spot⟩:Addr).add 0=⟨b,o,spot⟩:=by simp[Addr.add]
 rw[e0] at h
 have h1:spot=none:=World.cell?_spot h
 subst h1
 exact⟨rfl,Zqf _ _ h,h⟩
theorem ZcS {n:Nat} {v0 v1:Value} {x:DataW H×List MemPlace} (h:DataW.trod enc Tryz.prog W base sp held n 39 [v0,v1]=some x):∃ s t:ByteArray,v0=.string s/\v1=.string t:=by
 have ci:Tryz.prog.cellsOf 37=1:=Zb
 obtain⟨y0,y1,m,_,_,h0,h1⟩:=trod_struct2 Tryz.underlying39 h
 simp[ci] at h0 h1
 obtain⟨s,e0,_,_⟩:=DataW.trod_string Tryz.underlying37 h0
 obtain⟨t,e1,_,_⟩:=DataW.trod_string Tryz.underlying37 h1
 simp only[List.cons.injEq,and_true] at e0 e1
 exact⟨s,t,e0,e1⟩
theorem Z5 {b o i:Nat} {v:Value} {spot:Option Nat} (hs:spot=none) (h:W.cell? ((⟨b,o,spot⟩:Addr).add i)=some v):W.cell? ⟨b,o+i,none⟩=some v:=by
 subst hs
 rwa [add_plain] at h
theorem Za4 {n:Nat} {v:Value} {x:DataW H×List MemPlace} (h:DataW.trod enc Tryz.prog W base sp held n 3 [v]=some x):∃ m:Int,v=.int .i64 m/\I64 m:=by
 obtain⟨m,e,_,hw⟩:=DataW.trod_int Tryz.underlying3 h
 simp only[List.cons.injEq,and_true] at e
 exact⟨m,e,by simpa[I64,Lit.wf,IntKind.min,IntKind.max,IntKind.signed,IntKind.bits] using hw⟩
theorem Zfz:Zf0 enc W base sp held 88 3 RunR:=fun b o spot cs n x hl hc h=>by
 have ci:Tryz.prog.cellsOf 3=1:=Zb
 match cs,hl with
 | [v0,v1,v2],_=>
  obtain⟨h1,h2,h3⟩:=ZcP (hc 0 Za)
  obtain⟨xs,m,_,_,_,hxl,hff⟩:=DataW.trod_struct Tryz.underlying88 h
  match xs,hxl with
  | [y0,y1,y2],_=>
   have g0:=hff 0 _ rfl
   have g1:=hff 1 _ rfl
   have g2:=hff 2 _ rfl
   simp[ci] at g0 g1 g2
   obtain⟨i0,rfl,w0⟩:=Za4 g0
   obtain⟨i1,rfl,w1⟩:=Za4 g1
   obtain⟨i2,rfl,w2⟩:=Za4 g2
   exact⟨h1,h2,⟨i0,i1,i2⟩,⟨h3,w0⟩,⟨Z5 h1 (hc 1 Za),w1⟩,⟨Z5 h1 (hc 2 Za),w2⟩⟩
theorem ZnC {n:Nat} {v0 v1:Value} {x:DataW H×List MemPlace} (h:DataW.trod enc Tryz.prog W base sp held n 53 [v0,v1]=some x):∃ i j:Int,v0=.int .i64 i/\v1=.int .i64 j/\I64 i/\I64 j:=by
 have ci:Tryz.prog.cellsOf 3=1:=Zb
 obtain⟨y0,y1,m,_,_,g0,g1⟩:=trod_struct2 Tryz.underlying53 h
 simp[ci] at g0 g1
 obtain⟨i0,rfl,w0⟩:=Za4 g0
 obtain⟨i1,rfl,w1⟩:=Za4 g1
 exact⟨i0,i1,rfl,rfl,w0,w1⟩
theorem ZlL:Zf0 enc W base sp held 74 4 ZbQ:=fun b o spot cs n x hl hc h=>by
 have cc:Tryz.prog.cellsOf 53=2:=Zb
 have cp:Tryz.prog.cellsOf 39=2:=Zb
 match cs,hl with
 | [v0,v1,v2,v3],_=>
  obtain⟨h1,h2,h3⟩:=ZcP (hc 0 Za)
  obtain⟨y0,y1,m,_,_,g0,g1⟩:=trod_struct2 Tryz.underlying74 h
  simp[cc,cp] at g0 g1
  obtain⟨i,j,rfl,rfl,w0,w1⟩:=ZnC g0
  obtain⟨s,t,rfl,rfl⟩:=ZcS g1
  exact⟨h1,h2,⟨i,j,(s,t)⟩,⟨h3,w0⟩,⟨Z5 h1 (hc 1 Za),w1⟩,Z5 h1 (hc 2 Za),Z5 h1 (hc 3 Za)⟩
theorem ZkB:Zf0 enc W base sp held 93 4 Zb1:=fun b o spot cs n x hl hc h=>by
 have ci:Tryz.prog.cellsOf 3=1:=Zb
 have cp:Tryz.prog.cellsOf 39=2:=Zb
 match cs,hl with
 | [v0,v1,v2,v3],_=>
  obtain⟨h1,h2,h3⟩:=ZcP (hc 0 Za)
  obtain⟨xs,m,_,_,_,hxl,hff⟩:=DataW.trod_struct Tryz.underlying93 h
  match xs,hxl with
  | [y0,y1,y2],_=>
   have g0:=hff 0 _ rfl
   have g1:=hff 1 _ rfl
   have g2:=hff 2 _ rfl
   simp[ci,cp] at g0 g1 g2
   obtain⟨i,rfl,w0⟩:=Za4 g0
   obtain⟨j,rfl,w1⟩:=Za4 g1
   obtain⟨s,t,rfl,rfl⟩:=ZcS g2
   exact⟨h1,h2,⟨i,j,(s,t)⟩,⟨h3,w0⟩,⟨Z5 h1 (hc 1 Za),w1⟩,Z5 h1 (hc 2 Za),Z5 h1 (hc 3 Za)⟩
theorem Zkz:Zf0 enc W base sp held 72 4 Zeq:=fun b o spot cs n x hl hc h=>by
 have ca:Tryz.prog.cellsOf 69=1:=Zb
 have cb:Tryz.prog.cellsOf 70=1:=Zb
 have cp:Tryz.prog.cellsOf 39=2:=Zb
 match cs,hl with
 | [v0,v1,v2,v3],_=>
  obtain⟨h1,h2,h3⟩:=ZcP (hc 0 Za)
  obtain⟨xs,m,_,_,_,hxl,hff⟩:=DataW.trod_struct Tryz.underlying72 h
  match xs,hxl with
  | [y0,y1,y2],_=>
   have g0:=hff 0 _ rfl
   have g1:=hff 1 _ rfl
   have g2:=hff 2 _ rfl
   simp[ca,cb,cp] at g0 g1 g2
   obtain⟨s,t,rfl,rfl⟩:=ZcS g0
   obtain⟨l1,hl1⟩:=Zc7 Tryz.underlying69 Zb ZlL g1
   obtain⟨l2,hl2⟩:=Zc7 Tryz.underlying70 Zb ZkB g2
   exact⟨h1,h2,⟨(s,t),l1,l2⟩,⟨h3,Z5 h1 (hc 1 Za)⟩,⟨v2,Z5 h1 (hc 2 Za),hl1⟩,v3,Z5 h1 (hc 3 Za),hl2⟩
theorem ZlO:Zf0 enc W base sp held 49 7 Zdy:=fun b o spot cs n x hl hc h=>by
 have ci:Tryz.prog.cellsOf 3=1:=Zb
 have ca:Tryz.prog.cellsOf 22=1:=Zb
 have cp:Tryz.prog.cellsOf 39=2:=Zb
 match cs,hl with
 | [v0,v1,v2,v3,v4,v5,v6],_=>
  obtain⟨h1,h2,h3⟩:=ZcP (hc 0 Za)
  obtain⟨xs,m,_,_,_,hxl,hff⟩:=DataW.trod_struct Tryz.underlying49 h
  match xs,hxl with
  | [y0,y1,y2,y3,y4],_=>
   have g0:=hff 0 _ rfl
   have g1:=hff 1 _ rfl
   have g2:=hff 2 _ rfl
   have g3:=hff 3 _ rfl
   have g4:=hff 4 _ rfl
   simp[ca,ci,cp] at g0 g1 g2 g3 g4
   obtain⟨i,rfl,w0⟩:=Za4 g0
   obtain⟨j,rfl,w1⟩:=Za4 g1
   obtain⟨l,hl⟩:=Zc7 Tryz.underlying22 Zb Zfz g2
   obtain⟨s,t,rfl,rfl⟩:=ZcS g3
   obtain⟨u,v,rfl,rfl⟩:=ZcS g4
   exact⟨h1,h2,⟨i,j,l,(s,t),(u,v)⟩,⟨h3,w0⟩,⟨Z5 h1 (hc 1 Za),w1⟩,⟨v2,Z5 h1 (hc 2 Za),hl⟩,⟨Z5 h1 (hc 3 Za),Z5 h1 (hc 4 Za)⟩,Z5 h1 (hc 5 Za),Z5 h1 (hc 6 Za)⟩
end
section
variable {H:Type} {enc:TypeId×Value->H} {W:World} {base b0:Nat} {sp:Nat->Bool} {held:Bool}
theorem ZjF {T:TypeId} {v:Value} {d:DataW H} {p:List MemPlace} (hv:Value.okWide Tryz.prog W .any b0 T v) {e:TypeId} (ht:Tryz.prog.underlying T=some (.slice e)) (h:DataW.Trod enc Tryz.prog W base sp held T v d p):∃ n x,DataW.trod enc Tryz.prog W base sp held n T [v]=some x:=by
 obtain⟨a0,len,cap,rfl⟩:=okWide_slice ht hv
 obtain⟨fuel,hf⟩:=h
 exact⟨fuel,_,hf⟩
theorem Zmd {v:Value} {d:DataW H} {p:List MemPlace} (hv:Value.okWide Tryz.prog W .any b0 28 v) (h:DataW.Trod enc Tryz.prog W base sp held 28 v d p):∃ l:List NoteP,Zbm W v l:=by
 obtain⟨n,x,hf⟩:=ZjF hv Tryz.underlying28 h
 exact Zc7 Tryz.underlying28 Zb ZlO hf
theorem Zl7 (T:Array Value) (h:T.size=5):∃ v0 v1 v2 v3 v4:Value,T = #[v0,v1,v2,v3,v4]:=by
 obtain⟨l⟩:=T
 match l,h with
 | [a,b,c,d,e],_=>exact⟨a,b,c,d,e,rfl⟩
theorem ZkW {v:Value} {d:DataW H} {p:List MemPlace} (hv:Value.okWide Tryz.prog W .any b0 27 v) (h:DataW.Trod enc Tryz.prog W base sp held 27 v d p) :
  ∃ (b:BelP) (lv sv:Value),v=belV b lv sv/\GridIn b.sea lv W/\Zb7 W sv b.scenes:=by
 have hv2:=hv
 simp only[Value.okWide,Tryz.underlying27] at hv2
 obtain⟨cs,rfl,hsz,_⟩:=hv2
 have ca:Tryz.prog.cellsOf 27=5:=Zb
 have c1:Tryz.prog.cellsOf 24=4:=Zb
 have c2:Tryz.prog.cellsOf 25=1:=Zb
 have c3:Tryz.prog.cellsOf 22=1:=Zb
 have ci:Tryz.prog.cellsOf 3=1:=Zb
 rw[ca] at hsz
 obtain⟨v0,v1,v2,v3,v4,rfl⟩:=Zl7 _ hsz
 obtain⟨fuel,hf⟩:=h
 obtain⟨y0,y1,m,_,_,g0,g1⟩:=trod_struct2 Tryz.underlying27 hf
 simp[c1,c2,Value.cells] at g0 g1
 obtain⟨l2,h2⟩:=Zc7 Tryz.underlying25 Zb Zkz g1
 obtain⟨xs,m',_,_,_,hxl,hff⟩:=DataW.trod_struct Tryz.underlying24 g0
 match xs,hxl with
 | [z0,z1,z2,z3],_=>
  have k0:=hff 0 _ rfl
  have k1:=hff 1 _ rfl
  have k2:=hff 2 _ rfl
  have k3:=hff 3 _ rfl
  simp[ci,c3] at k0 k1 k2 k3
  obtain⟨i0,rfl,w0⟩:=Za4 k0
  obtain⟨i1,rfl,w1⟩:=Za4 k1
  obtain⟨i2,rfl,w2⟩:=Za4 k2
  obtain⟨l,hl⟩:=Zc7 Tryz.underlying22 Zb Zfz k3
  exact⟨⟨⟨i0,i1,i2,l⟩,l2⟩,v3,v4,rfl,⟨hl,w0,w1,w2⟩,h2⟩
end
end Go.Proofs.YtjmckebecpjjfaaGreatDoor
namespace Go.Proofs.YtjmckebecpjjfaaGreatDoor
open Go.ChangeShapes Go.WideShapes Go.ChangeAt Go.RowKit
theorem Zjw:ownKnob Tryz.prog.godebug=none:=Zb
theorem Zc0:laidOutB Tryz.prog=true:=Zb
def ZaV:List (String×DataW Unit):=Rows.beliefWholeRow.laid
theorem Zjm:(ZaV.all fun x=>x.2.handleName?.isNone)=true:=Zb
theorem pow9:(ZaV.filter fun x=>x.1=="internal/strconv.uint64pow10")=[("internal/strconv.uint64pow10",Lib.tabData .u64 Lib.pow10Tab)]:=Zb
theorem ZpO:(ZaV.filter fun x=>x.1=="cresset/belief.zero")=[("cresset/belief.zero",.agg [.lit (.string [48]),.lit (.string [49])])]:=Zb
theorem one9:(ZaV.filter fun x=>x.1=="cresset/belief.one")=[("cresset/belief.one",.agg [.lit (.string [49]),.lit (.string [49])])]:=Zb
theorem ZpQ:(ZaV.filter fun x=>x.1=="cresset/belief.gone")=[("cresset/belief.gone",.agg [.lit (.int .i64 (-1)),.lit (.int .i64 (-1))])]:=Zb
theorem Zi0 {W:World} (h:laidMetH Tryz.prog ZaV W):Tabs W:=by
 rw[MakeChecks.laidMetH_plain _ _ _ Zjm] at h
 have h2:=laidMet.filter (fun x=>x.1=="internal/strconv.uint64pow10") h
 rw[pow9] at h2
 exact Lib.tabIs_of_head Zet Zb Tryz.underlying309 Tryz.underlying146 Zb Zb h2
theorem ZfF {name:String} {g:Nat} {a b:List UInt8} {W:World} (hg:Tryz.prog.globalNamed name=some g) (hty:(Tryz.prog.globals[g]?).map (·.type)=some 39)
  (h:laidMet Tryz.prog [(name,.agg [.lit (.string a),.lit (.string b)])] W):W.cell? ⟨g,0,none⟩=some (.string ⟨a.toArray⟩)/\W.cell? ⟨g,1,none⟩=some (.string ⟨b.toArray⟩):=by
 obtain⟨ps,⟨g',t',cs,fuel,p,q,hg',ht',hvar,hd,_,_⟩,_⟩:=h
 obtain rfl:=ZpZ (hg.symm.trans hg')
 obtain rfl:=ZpZ (hty.symm.trans ht')
 obtain⟨y0,y1,n,hx,hl,h0,h1⟩:=trod_struct2 Tryz.underlying39 hd
 obtain⟨l,hl'⟩:=ZqJ cs.toList
 rw[hl'] at hl h0 h1
 have c2:Tryz.prog.cellsOf 39=2:=Zb
 have c1:Tryz.prog.cellsOf 37=1:=Zb
 rw[c2] at hl
 match l,hl with
 | [v0,v1],_=>
  dsimp only at h0 h1
  rw[c1] at h0 h1
  obtain⟨s,e0,e1,_⟩:=DataW.trod_string Tryz.underlying37 h0
  obtain⟨t,f0,f1,_⟩:=DataW.trod_string Tryz.underlying37 h1
  simp at e0 f0
  subst e0 f0
  simp only[e1,f1,Prod.mk.injEq,DataW.agg.injEq,List.cons.injEq,DataW.lit.injEq,Lit.string.injEq,and_true] at hx
  obtain⟨⟨rfl,rfl⟩,_⟩:=hx
  have k0:=World.var?_cell hg hvar 0
  have k1:=World.var?_cell hg hvar 1
  have z0:cs[0]?=some (.string s):=by rw[<- Array.getElem?_toList,hl'];rfl
  have z1:cs[1]?=some (.string t):=by rw[<- Array.getElem?_toList,hl'];rfl
  exact⟨k0.trans z0,k1.trans z1⟩
theorem ZjX {name:String} {g:Nat} {i j:Int} {W:World} (hg:Tryz.prog.globalNamed name=some g) (hty:(Tryz.prog.globals[g]?).map (·.type)=some 53)
  (h:laidMet Tryz.prog [(name,.agg [.lit (.int .i64 i),.lit (.int .i64 j)])] W):W.cell? ⟨g,0,none⟩=some (.int .i64 i)/\W.cell? ⟨g,1,none⟩=some (.int .i64 j):=by
 obtain⟨ps,⟨g',t',cs,fuel,p,q,hg',ht',hvar,hd,_,_⟩,_⟩:=h
 obtain rfl:=ZpZ (hg.symm.trans hg')
 obtain rfl:=ZpZ (hty.symm.trans ht')
 obtain⟨y0,y1,n,hx,hl,h0,h1⟩:=trod_struct2 Tryz.underlying53 hd
 obtain⟨l,hl'⟩:=ZqJ cs.toList
 rw[hl'] at hl h0 h1
 have c2:Tryz.prog.cellsOf 53=2:=Zb
 have c1:Tryz.prog.cellsOf 3=1:=Zb
 rw[c2] at hl
 match l,hl with
 | [v0,v1],_=>
  dsimp only at h0 h1
  rw[c1] at h0 h1
  obtain⟨s,e0,e1,_⟩:=DataW.trod_int Tryz.underlying3 h0
  obtain⟨t,f0,f1,_⟩:=DataW.trod_int Tryz.underlying3 h1
  simp at e0 f0
  subst e0 f0
  simp only[e1,f1,Prod.mk.injEq,DataW.agg.injEq,List.cons.injEq,DataW.lit.injEq,Lit.int.injEq,and_true,true_and] at hx
  obtain⟨⟨rfl,rfl⟩,_⟩:=hx
  have k0:=World.var?_cell hg hvar 0
  have k1:=World.var?_cell hg hvar 1
  have z0:cs[0]?=some (.int .i64 i):=by rw[<- Array.getElem?_toList,hl'];rfl
  have z1:cs[1]?=some (.int .i64 j):=by rw[<- Array.getElem?_toList,hl'];rfl
  exact⟨k0.trans z0,k1.trans z1⟩
theorem ZiS {W:World} (h:laidMetH Tryz.prog ZaV W):BelZ W:=by
 rw[MakeChecks.laidMetH_plain _ _ _ Zjm] at h
 have h2:=laidMet.filter (fun x=>x.1=="cresset/belief.zero") h
 have h3:=laidMet.filter (fun x=>x.1=="cresset/belief.one") h
 have h4:=laidMet.filter (fun x=>x.1=="cresset/belief.gone") h
 rw[ZpO] at h2
 rw[one9] at h3
 rw[ZpQ] at h4
 have k2:=ZfF (g:=1) Zb Zb h2
 have k3:=ZfF (g:=0) Zb Zb h3
 have k4:=ZjX (g:=2) Zb Zb h4
 exact⟨k2.1,k2.2,k3.1,k3.2,k4.1,k4.2⟩
theorem ZpG (os:Os):(World.holding Tryz.prog os ⟨#[],#[],[]⟩).layFits Tryz.prog ZaV []=true:=Zb
theorem Zo0 (os:Os):(World.holding Tryz.prog os ⟨#[],#[],[]⟩).layIfaces Tryz.prog ZaV (World.laidAll Tryz.prog os ZaV)=true:=Zb
theorem met9 (os:Os) (args:Array Value):laidMetH Tryz.prog ZaV ((World.laidAll Tryz.prog os ZaV).forCall (fun _ _=>0) ⟨#[],args,[]⟩).memory:=by
 rw[MakeChecks.laidMetH_plain _ _ _ Zjm]
 exact laidMet_laidAll _ (ZpG os) (Zo0 os)
theorem ZiK {H:Type} {enc:TypeId×Value->H} {W:World} {base b0:Nat} {sp:Nat->Bool} {held:Bool} {v:Value} {d:DataW H} {p:List MemPlace} (hv:Value.okWide Tryz.prog W .any b0 27 v) (h:DataW.Trod enc Tryz.prog W base sp held 27 v d p) (hL:laidMetH Tryz.prog ZaV W) :
  ∃ (b:BelP) (lv sv:Value),v=belV b lv sv/\BelIn b lv sv W:=by
 obtain⟨b,lv,sv,e,h1,h2⟩:=ZkW hv h
 exact⟨b,lv,sv,e,h1,h2,Zi0 hL,ZiS hL⟩
end Go.Proofs.YtjmckebecpjjfaaGreatDoor
