/- The parts Rise, StepsIn, CheckCurve, Halv, Sum, CurveB, Range2 of a proof, put together by program (merge7.py). -/
import Derived.Test.YtmpaflidennnoaaGreatDoorH12
import Derived.Test.YtmpaflidennnoaaGreatDoorH10
import Derived.Test.YtmpaflidennnoaaGreatDoorH01
set_option maxRecDepth 100000
set_option maxHeartbeats 4000000
set_option linter.unusedVariables false
set_option linter.unusedSimpArgs false
namespace Go.Proofs.YtmpaflidennnoaaGreatDoor
open Go.RowKit Go.Shelf
attribute [local go_sem ↓] Go.wp_at_zero Go.wp_at_succ
abbrev S8 (g:Nat) (s0 t0 u0 v0 s1 t1 u1 v1:ByteArray) (w':World):Prop:=w'.cell? ⟨g,0,none⟩=some (.string s0)∧w'.cell? ⟨g,1,none⟩=some (.string t0)∧w'.cell? ⟨g,2,none⟩=some (.string u0)∧w'.cell? ⟨g,3,none⟩=some (.string v0)∧
 w'.cell? ⟨g+1,0,none⟩=some (.string s1)∧w'.cell? ⟨g+1,1,none⟩=some (.string t1)∧w'.cell? ⟨g+1,2,none⟩=some (.string u1)∧w'.cell? ⟨g+1,3,none⟩=some (.string v1)
theorem Zjp {a b c d:Rat} {s0 t0 u0 v0 s1 t1 u1 v1 x1 y1 x2 y2 x y:ByteArray} (hc:IsP c s0 t0) (ha:IsP a u0 v0) (hd:IsP d s1 t1) (hb:IsP b u1 v1) (h1:IsP (b-a) x1 y1) (h2:IsP (d-c) x2 y2) (h3:IsP ((b-a)/(d-c)) x y) (hp:0<d-c)
  (w:World) (hT:Tabs w):Calls Tryz.prog 133 #[.agg #[.string s0,.string t0,.string u0,.string v0],.agg #[.string s1,.string t1,.string u1,.string v1]] w (Z7 (pV x y) w):=by
 have HC:=Lib.hid hc
 have HA:=Lib.hid ha
 have HD:=Lib.hid hd
 have HBB:=Lib.hid hb
 have H1:=Lib.hid h1
 have H2:=Lib.hid h2
 have H3:=Lib.hid h3
 have HP:=Lib.hid hp
 have HT:=Lib.hid hT
 clear hc ha hd hb h1 h2 h3 hp hT
 go_enter Tryz.func133,Tryz.ntmps133
 go_wp2_with fail
 obtain⟨w0,hw0⟩:∃ w0,((w.alloc (bO s0 t0 u0 v0)).alloc (bO s1 t1 u1 v1)).alloc (pObj ⟨#[]⟩ ⟨#[]⟩)=w0:=⟨_,rfl⟩
 rw[hw0]
 have HX0:Hid (Zk w.heap.size [bO s0 t0 u0 v0,bO s1 t1 u1 v1,pObj ⟨#[]⟩ ⟨#[]⟩] w0.drew):=by rw[← hw0];exact(Zk.three w _ _ _).drew
 have HB0:Hid (Below w.heap.size w w0.drew):=by rw[← hw0];exact((((Below.refl _ w).alloc (Nat.le_refl _) _).alloc (by simp) _).alloc (by simp<;>omega) _).drew
 clear hw0
 have a0:=HX0.out.cell 0 0 (b:=w.heap.size) rfl rfl rfl
 have a1:=HX0.out.cell 0 1 (b:=w.heap.size) rfl rfl rfl
 have a2:=HX0.out.cell 0 2 (b:=w.heap.size) rfl rfl rfl
 have a3:=HX0.out.cell 0 3 (b:=w.heap.size) rfl rfl rfl
 have b0:=HX0.out.cell 1 0 (b:=w.heap.size+1) rfl rfl rfl
 have b1:=HX0.out.cell 1 1 (b:=w.heap.size+1) rfl rfl rfl
 have b2:=HX0.out.cell 1 2 (b:=w.heap.size+1) rfl rfl rfl
 have b3:=HX0.out.cell 1 3 (b:=w.heap.size+1) rfl rfl rfl
 have hS0:S8 w.heap.size s0 t0 u0 v0 s1 t1 u1 v1 w0.drew:=⟨a0,a1,a2,a3,b0,b1,b2,b3⟩
 refine ZQ [(true,0),(true,1),(true,2),(true,3),(true,8),(true,9),(true,10),(true,11),(false,4),(true,5),(true,6),(false,7),(false,12),(true,13),(true,14),(false,15),(false,16),(true,17),(true,18),(false,19),(false,20)] (S8 w.heap.size s0 t0 u0 v0 s1 t1 u1 v1) (fun _=>false)
  (by kernel_rfl) (by kernel_rfl) (fun _ _=>rfl) (fun _ _ o _ _ h=>by cases o<;>exact h) hS0 ?_
 clear hS0
 iterate 8
  refine Zi _ rfl rfl (fun w' hS=>by obtain⟨a0,a1,a2,a3,b0,b1,b2,b3⟩:=hS;go_simp;rfl) ?_
  simp only[Act.put,List.setIfInBounds_toArray,List.set_cons_zero,List.set_cons_succ]
 refine Ze rfl rfl fun K hK=>?_
 go_simp
 go_at_call 104
 refine(Zbw HBB.out HA.out H1.out rfl _ (HT.out.below HB0.out (Nat.le_refl _))).mono ?_
 rintro e w1 ⟨rfl,hb⟩
 have HX1:=Lib.hid (HX0.out.below hb HX0.out.lt)
 have HB1:Hid (Below w.heap.size w w1):=HB0.out.trans (hb.mono HB0.out.size)
 clear a0 a1 a2 a3 b0 b1 b2 b3
 have a0:=HX1.out.cell 0 0 (b:=w.heap.size) rfl rfl rfl
 have a1:=HX1.out.cell 0 1 (b:=w.heap.size) rfl rfl rfl
 have a2:=HX1.out.cell 0 2 (b:=w.heap.size) rfl rfl rfl
 have a3:=HX1.out.cell 0 3 (b:=w.heap.size) rfl rfl rfl
 have b0:=HX1.out.cell 1 0 (b:=w.heap.size+1) rfl rfl rfl
 have b1:=HX1.out.cell 1 1 (b:=w.heap.size+1) rfl rfl rfl
 have b2:=HX1.out.cell 1 2 (b:=w.heap.size+1) rfl rfl rfl
 have b3:=HX1.out.cell 1 3 (b:=w.heap.size+1) rfl rfl rfl
 refine hK _ _ (.inr ⟨a0,a1,a2,a3,b0,b1,b2,b3⟩) ?_
 clear hK K hb
 iterate 2
  refine Zi _ rfl rfl (fun w' hS=>by go_simp;rfl) ?_
  simp only[Act.put,List.setIfInBounds_toArray,List.set_cons_zero,List.set_cons_succ]
 refine Ze rfl rfl fun K hK=>?_
 go_simp
 go_at_call 180
 refine(ZR x1 y1 _).mono ?_
 rintro e w2 ⟨rfl,hb⟩
 have HX2:=Lib.hid (HX1.out.below hb HX1.out.lt)
 have HB2:Hid (Below w.heap.size w w2):=HB1.out.trans (hb.mono HB1.out.size)
 clear a0 a1 a2 a3 b0 b1 b2 b3
 have a0:=HX2.out.cell 0 0 (b:=w.heap.size) rfl rfl rfl
 have a1:=HX2.out.cell 0 1 (b:=w.heap.size) rfl rfl rfl
 have a2:=HX2.out.cell 0 2 (b:=w.heap.size) rfl rfl rfl
 have a3:=HX2.out.cell 0 3 (b:=w.heap.size) rfl rfl rfl
 have b0:=HX2.out.cell 1 0 (b:=w.heap.size+1) rfl rfl rfl
 have b1:=HX2.out.cell 1 1 (b:=w.heap.size+1) rfl rfl rfl
 have b2:=HX2.out.cell 1 2 (b:=w.heap.size+1) rfl rfl rfl
 have b3:=HX2.out.cell 1 3 (b:=w.heap.size+1) rfl rfl rfl
 refine hK _ _ (.inr ⟨a0,a1,a2,a3,b0,b1,b2,b3⟩) ?_
 clear hK K hb
 refine Ze rfl rfl fun K hK=>?_
 go_simp
 go_at_call 104
 refine(Zbw HD.out HC.out H2.out rfl _ (HT.out.below HB2.out (Nat.le_refl _))).mono ?_
 rintro e w3 ⟨rfl,hb⟩
 have HX3:=Lib.hid (HX2.out.below hb HX2.out.lt)
 have HB3:Hid (Below w.heap.size w w3):=HB2.out.trans (hb.mono HB2.out.size)
 clear a0 a1 a2 a3 b0 b1 b2 b3
 have a0:=HX3.out.cell 0 0 (b:=w.heap.size) rfl rfl rfl
 have a1:=HX3.out.cell 0 1 (b:=w.heap.size) rfl rfl rfl
 have a2:=HX3.out.cell 0 2 (b:=w.heap.size) rfl rfl rfl
 have a3:=HX3.out.cell 0 3 (b:=w.heap.size) rfl rfl rfl
 have b0:=HX3.out.cell 1 0 (b:=w.heap.size+1) rfl rfl rfl
 have b1:=HX3.out.cell 1 1 (b:=w.heap.size+1) rfl rfl rfl
 have b2:=HX3.out.cell 1 2 (b:=w.heap.size+1) rfl rfl rfl
 have b3:=HX3.out.cell 1 3 (b:=w.heap.size+1) rfl rfl rfl
 refine hK _ _ (.inr ⟨a0,a1,a2,a3,b0,b1,b2,b3⟩) ?_
 clear hK K hb
 iterate 2
  refine Zi _ rfl rfl (fun w' hS=>by go_simp;rfl) ?_
  simp only[Act.put,List.setIfInBounds_toArray,List.set_cons_zero,List.set_cons_succ]
 refine Ze rfl rfl fun K hK=>?_
 go_simp
 go_at_call 180
 refine(ZR x2 y2 _).mono ?_
 rintro e w4 ⟨rfl,hb⟩
 have HX4:=Lib.hid (HX3.out.below hb HX3.out.lt)
 have HB4:Hid (Below w.heap.size w w4):=HB3.out.trans (hb.mono HB3.out.size)
 clear a0 a1 a2 a3 b0 b1 b2 b3
 have a0:=HX4.out.cell 0 0 (b:=w.heap.size) rfl rfl rfl
 have a1:=HX4.out.cell 0 1 (b:=w.heap.size) rfl rfl rfl
 have a2:=HX4.out.cell 0 2 (b:=w.heap.size) rfl rfl rfl
 have a3:=HX4.out.cell 0 3 (b:=w.heap.size) rfl rfl rfl
 have b0:=HX4.out.cell 1 0 (b:=w.heap.size+1) rfl rfl rfl
 have b1:=HX4.out.cell 1 1 (b:=w.heap.size+1) rfl rfl rfl
 have b2:=HX4.out.cell 1 2 (b:=w.heap.size+1) rfl rfl rfl
 have b3:=HX4.out.cell 1 3 (b:=w.heap.size+1) rfl rfl rfl
 refine hK _ _ (.inr ⟨a0,a1,a2,a3,b0,b1,b2,b3⟩) ?_
 clear hK K hb
 refine Ze rfl rfl fun K hK=>?_
 go_simp
 go_at_call 169
 refine(ZcU H1.out H2.out H3.out HP.out rfl _ (HT.out.below HB4.out (Nat.le_refl _))).mono ?_
 rintro e w5 ⟨rfl,hb⟩
 have HX5:=Lib.hid (HX4.out.below hb HX4.out.lt)
 have HB5:Hid (Below w.heap.size w w5):=HB4.out.trans (hb.mono HB4.out.size)
 clear a0 a1 a2 a3 b0 b1 b2 b3
 have a0:=HX5.out.cell 0 0 (b:=w.heap.size) rfl rfl rfl
 have a1:=HX5.out.cell 0 1 (b:=w.heap.size) rfl rfl rfl
 have a2:=HX5.out.cell 0 2 (b:=w.heap.size) rfl rfl rfl
 have a3:=HX5.out.cell 0 3 (b:=w.heap.size) rfl rfl rfl
 have b0:=HX5.out.cell 1 0 (b:=w.heap.size+1) rfl rfl rfl
 have b1:=HX5.out.cell 1 1 (b:=w.heap.size+1) rfl rfl rfl
 have b2:=HX5.out.cell 1 2 (b:=w.heap.size+1) rfl rfl rfl
 have b3:=HX5.out.cell 1 3 (b:=w.heap.size+1) rfl rfl rfl
 refine hK _ _ (.inr ⟨a0,a1,a2,a3,b0,b1,b2,b3⟩) ?_
 clear hK K hb
 iterate 2
  refine Zi _ rfl rfl (fun w' hS=>by go_simp;rfl) ?_
  simp only[Act.put,List.setIfInBounds_toArray,List.set_cons_zero,List.set_cons_succ]
 refine Ze rfl rfl fun K hK=>?_
 go_simp
 go_at_call 180
 refine(ZR x y _).mono ?_
 rintro e w6 ⟨rfl,hb⟩
 have HX6:=Lib.hid (HX5.out.below hb HX5.out.lt)
 have HB6:Hid (Below w.heap.size w w6):=HB5.out.trans (hb.mono HB5.out.size)
 clear a0 a1 a2 a3 b0 b1 b2 b3
 have a0:=HX6.out.cell 0 0 (b:=w.heap.size) rfl rfl rfl
 have a1:=HX6.out.cell 0 1 (b:=w.heap.size) rfl rfl rfl
 have a2:=HX6.out.cell 0 2 (b:=w.heap.size) rfl rfl rfl
 have a3:=HX6.out.cell 0 3 (b:=w.heap.size) rfl rfl rfl
 have b0:=HX6.out.cell 1 0 (b:=w.heap.size+1) rfl rfl rfl
 have b1:=HX6.out.cell 1 1 (b:=w.heap.size+1) rfl rfl rfl
 have b2:=HX6.out.cell 1 2 (b:=w.heap.size+1) rfl rfl rfl
 have b3:=HX6.out.cell 1 3 (b:=w.heap.size+1) rfl rfl rfl
 refine hK _ _ (.inr ⟨a0,a1,a2,a3,b0,b1,b2,b3⟩) ?_
 clear hK K hb
 have r0:=HX6.out.cell 2 0 (b:=w.heap.size+1+1) rfl rfl rfl
 have r1:=HX6.out.cell 2 1 (b:=w.heap.size+1+1) rfl rfl rfl
 have f0:=HX6.out.free 2 0 (b:=w.heap.size+1+1) rfl rfl
 have f1:=HX6.out.free 2 1 (b:=w.heap.size+1+1) rfl rfl
 refine Ze rfl rfl fun K hK=>?_
 go_simp
 have q:=Zh (HX6.out.block 2 (b:=w.heap.size+1+1) rfl rfl) (.string x) (.string y)
 have HBQ:=Lib.hid (Zf HB6.out (b:=w.heap.size+1+1) (by omega) (.string x) (.string y))
 have hS9:S8 w.heap.size s0 t0 u0 v0 s1 t1 u1 v1 ((w6.setCell ⟨w.heap.size+1+1,0,none⟩ (.string x)).setCell ⟨w.heap.size+1+1,1,none⟩ (.string y)):=by
  refine⟨?_,?_,?_,?_,?_,?_,?_,?_⟩<;>(rw[World.cell?_setCell_other _ _ _ _ (by simp<;>omega),World.cell?_setCell_other _ _ _ _ (by simp<;>omega)];assumption)
 refine hK _ _ (.inr hS9) ?_
 clear hK K hS9 a0 a1 a2 a3 b0 b1 b2 b3
 refine Zt ?_
 obtain⟨w9,hw9⟩:∃ w9,(w6.setCell ⟨w.heap.size+1+1,0,none⟩ (.string x)).setCell ⟨w.heap.size+1+1,1,none⟩ (.string y)=w9:=⟨_,rfl⟩
 rw[hw9] at q HBQ ⊢
 obtain⟨q0,q1⟩:=q
 clear r0 r1 f0 f1 hw9
 go_wp2
 refine bodyPost_ret (v:=pV x y) (by simp[results,Tryz.f133,go_sem,q0,q1]) rfl ⟨rfl,HBQ.out⟩
end Go.Proofs.YtmpaflidennnoaaGreatDoor
namespace Go.Proofs.YtmpaflidennnoaaGreatDoor
open Go.RowKit
theorem Zab {P:Program} {n r id:Nat} {Q:Exit→Act→World→Prop} {a:Act} {w:World} {l:List Oper} (ks:List (Bool×Nat)) (S:World→Prop) (bar:Nat→Bool) (hm:P.follows .mixedOrders=true)
  (hB:ZdT l ks bar=true) (hbo:∀ j,l.length≤j→bar j=false) (hQ:∀ c a o v w,Q (.panic c) (a.put o v) w→Q (.panic c) a w) (hout:∀ a w,¬ Q .outgrown a w) (hS:S w.drew)
  (H:Zap P l.toArray Q S bar ks a w.drew):(Code.region id l.toArray true).wpIn (Fence.wide.inRound r) n P Q a w:=by
 have hd:ZbM l.toArray=true:=by simp only[ZdT,Bool.and_eq_true] at hB;exact hB.2
 exact wpIn_region_any hm (ZaI hd hout _ _ _ _ (ZeV ks S bar hB hbo hQ hS H))
def Calm (Q:Exit→Act→World→Prop):Exit→Act→World→Prop
 | .panic _,_,_=>False
 | .outgrown,_,_=>False
 | e,a,w=>Q e a w
theorem Calm.of {Q:Exit→Act→World→Prop} : ∀ {e:Exit} {a:Act} {w:World},Calm Q e a w→Q e a w
 | .panic _,_,_,h=>h.elim
 | .outgrown,_,_,h=>h.elim
 | .normal,_,_,h=>h
 | .ret,_,_,h=>h
 | .exit _,_,_,h=>h
 | .goto _,_,_,h=>h
theorem ZbO {P:Program} {f:FuncId} {fn:Func} {c:Code} {args:Array Value} {w:World} {R:Ending→World→Prop} (hf:P.funcs[f]?=some fn) (hb:fn.body=some c)
  (h:c.wp P (Calm (bodyPostM Fence.wide 9 P fn R)) { tmps:=args++Array.replicate (fn.ntmps-args.size) undef,defers:=[] } w):Calls P f args w R:=
 (callsIn_wide (n:=9)).1 (callsIn_of_wp_marks hf hb trivial (wpIn_mono (wpIn_wide.2 h) fun _ _ _ h=>h.of) rfl)
end Go.Proofs.YtmpaflidennnoaaGreatDoor
namespace Go.Proofs.YtmpaflidennnoaaGreatDoor
open Go.RowKit Go.Shelf
attribute [local go_sem ↓] Go.wp_at_zero Go.wp_at_succ
attribute [local go_sem] Oper.semAt_some
theorem Zcc {P:Program} {ops:Array Oper} {Q:Exit→Act→World→Prop} {S:World→Prop} {bar:Nat→Bool} {i:Nat} {o:Oper} {ks:List (Bool×Nat)} {a:Act} {w:World} (ho:ops[i]?=some o) (hw:Region.wanted o (yielded ops a.tmps)=false)
  (h:Zap P ops Q S bar ks (a.put o.dst undef) w):Zap P ops Q S bar ((true,i)::ks) a w:=⟨o,undef,ho,.inr ⟨hw,rfl⟩,h⟩
theorem Zfy {P:Program} {ops:Array Oper} {Q:Exit→Act→World→Prop} {S:World→Prop} {bar:Nat→Bool} {i:Nat} {o:Oper} {ks:List (Bool×Nat)} {a:Act} {w:World} (ho:ops[i]?=some o) (hw:Region.wanted o (yielded ops a.tmps)=false) (hS:S w)
  (h:Zap P ops Q S bar ks (a.put o.dst undef) w):Zap P ops Q S bar ((false,i)::ks) a w:=by
 refine⟨o,ho,?_⟩
 rw[if_neg (by rw[hw];exact Bool.false_ne_true)]
 exact⟨.inr hS,h⟩
def Zb6 (bs:List BB) (w:World) (e:Ending) (w':World):Prop:=∃ n,e=.returned (.int .i64 n)∧Ze1 bs n∧Below w.heap.size w w'
theorem ZkP {p:Option Addr} {c n:Nat} {bs:List BB} {w:World} (hn:bs.length=n) (hm:n≤9223372036854775807) (h:(decide ((2:Int)≤n) && decide ((n:Int)≤64))=false) :
  Calls Tryz.prog 80 #[.slice p n c] w (Zb6 bs w):=by
 have HE:Hid (Ze1 bs 2):=.inr ⟨fun hc=>by
  have:=hc.len
  simp at h
  omega,rfl⟩
 have H:=Lib.hid h
 clear h hn
 go_enter Tryz.func80,Tryz.ntmps80
 go_wp2
 refine ZQ [(true,0),(true,1),(false,2),(true,3),(true,4),(true,5),(true,6),(true,7),(true,8),(true,9),(true,10),(true,11),(true,12)] (fun _=>True) (fun _=>false)
  (by kernel_rfl) (by kernel_rfl) (fun _ _=>rfl) (fun _ _ o _ _ h=>by cases o<;>exact h) trivial ?_
 iterate 2
  refine Zi _ rfl rfl (fun w' hS=>by go_simp;rfl) ?_
  simp only[Znc,Znd,Zne,Act.put,Znf,Zng,Znh]
 refine Ze rfl rfl fun K hK=>?_
 go_simp
 go_at_call 128
 refine(Zbg n 2 64 _).mono ?_
 rintro e w2 ⟨rfl,hb⟩
 rw[H.out]
 have hbx:((w.alloc (.cells #[.int .i64 0] 30)).drew).heap[w.heap.size]?=some (.cells #[.int .i64 0] 30):=World.alloc_heap_new w _
 have hb0:Below w.heap.size w ((w.alloc (.cells #[.int .i64 0] 30)).drew):=((Below.refl _ w).alloc (Nat.le_refl _) _).drew
 have hbx2:w2.heap[w.heap.size]?=some (.cells #[.int .i64 0] 30):=(hb.block _ (Array.getElem?_eq_some_iff.1 hbx).1).trans hbx
 have HB2:Hid (Below w.heap.size w w2):=hb0.trans (hb.mono hb0.size)
 have c0:=Za hbx2 0 rfl
 have f0:=Zb hbx2 0
 have HX2:=Lib.hid hbx2
 refine hK _ _ (.inr trivial) ?_
 clear hK K hb hbx hb0 hbx2
 iterate 2
  refine Zi _ rfl rfl (fun w' hS=>by go_simp;rfl) ?_
  simp only[Znc,Znd,Zne,Act.put,Znf,Zng,Znh]
 iterate 7
  refine Zcc rfl rfl ?_
  simp only[Znc,Znd,Zne,Act.put,Znf,Zng,Znh]
 iterate 1
  refine Zi _ rfl rfl (fun w' hS=>by go_simp;rfl) ?_
  simp only[Znc,Znd,Zne,Act.put,Znf,Zng,Znh]
 refine Zt ?_
 go_wp2
 have q:(w2.setCell ⟨w.heap.size,0,none⟩ (.int .i64 2)).cell? ⟨w.heap.size,0,none⟩=some (.int .i64 2):=Za (Joins.block_setCell HX2.out _) 0 rfl
 refine bodyPost_ret (v:=.int .i64 2) (by simp[results,Tryz.f80,go_sem,q]) rfl ⟨2,rfl,HE.out,HB2.out.setCell (p:=⟨w.heap.size,0,none⟩) (Nat.le_refl _) _⟩
abbrev SF (b off:Nat) (s t u v:ByteArray) (w':World):Prop:=(w'.cell? ⟨b,off,none⟩=some (.string s)∧w'.cell? ⟨b,off+1,none⟩=some (.string t)∧w'.cell? ⟨b,off+2,none⟩=some (.string u)∧w'.cell? ⟨b,off+3,none⟩=some (.string v))∧
 w'.cell? ⟨1,0,none⟩=some (.string ⟨#[48]⟩)∧w'.cell? ⟨1,1,none⟩=some (.string ⟨#[49]⟩)
theorem ZiN {b off c n:Nat} {bs:List BB} {w:World} {s t u v:ByteArray} (hn:bs.length=n) (hm:2≤n) (hm2:n≤64) (hf:bAt bs 0=((s,t),(u,v))) (hne:Hid (s.toList=[48]→t.toList=[49]→u.toList=[48]→¬ v.toList=[49])) (hz:bAt bs 0≠Zc9)
  (hS:∀ W,Below w.heap.size w W→SF b off s t u v W) :
  Calls Tryz.prog 80 #[.slice (some ⟨b,off,none⟩) n c] w (Zb6 bs w):=by
 have HE:Hid (Ze1 bs 2):=.inr ⟨fun hc=>hz hc.first,rfl⟩
 have H:Hid ((decide ((2:Int)≤n) && decide ((n:Int)≤64))=true):=by show _=_;simp;omega
 have HS:=Lib.hid hS
 clear hf hn hS hz
 go_enter Tryz.func80,Tryz.ntmps80
 go_wp2
 have hbx:((w.alloc (.cells #[.int .i64 0] 30)).drew).heap[w.heap.size]?=some (.cells #[.int .i64 0] 30):=World.alloc_heap_new w _
 have hb0:Below w.heap.size w ((w.alloc (.cells #[.int .i64 0] 30)).drew):=((Below.refl _ w).alloc (Nat.le_refl _) _).drew
 obtain⟨w1,hw1⟩:∃ z,w.alloc (.cells #[.int .i64 0] 30)=z:=⟨_,rfl⟩
 rw[hw1] at hbx hb0 ⊢
 have hSF:=HS.out _ hb0
 refine ZQ [(true,0),(true,1),(false,2),(true,3),(true,4),(true,5),(true,6),(true,7),(true,8),(true,9),(true,10),(true,11),(true,12)] (SF b off s t u v) (fun _=>false)
  (by kernel_rfl) (by kernel_rfl) (fun _ _=>rfl) (fun _ _ o _ _ h=>by cases o<;>exact h) hSF ?_
 iterate 2
  refine Zi _ rfl rfl (fun w' hS=>by go_simp;rfl) ?_
  simp only[Znc,Znd,Zne,Act.put,Znf,Zng,Znh]
 refine Ze rfl rfl fun K hK=>?_
 go_simp
 go_at_call 128
 refine(Zbg _ 2 64 _).mono ?_
 rintro e w2 ⟨rfl,hb⟩
 rw[H.out]
 have hbx2:w2.heap[w.heap.size]?=some (.cells #[.int .i64 0] 30):=(hb.block _ (Array.getElem?_eq_some_iff.1 hbx).1).trans hbx
 have HB2:Hid (Below w.heap.size w w2):=hb0.trans (hb.mono hb0.size)
 have HX2:=Lib.hid hbx2
 have hSF2:=HS.out _ HB2.out
 refine hK _ _ (.inr hSF2) ?_
 clear hK K hb hbx hb0 hbx2 hw1 hSF hSF2
 iterate 8
  refine Zi _ rfl rfl (fun w' hS=>by obtain⟨⟨a0,a1,a2,a3⟩,z0,z1⟩:=hS;go_simp;first | rfl | (rw[if_pos (by omega)])) ?_
  simp only[Znc,Znd,Zne,Act.put,Znf,Zng,Znh]
 refine Zi (.bool true) rfl rfl (fun w' hS=>by obtain⟨⟨a0,a1,a2,a3⟩,z0,z1⟩:=hS;go_simp;exact hne.out) ?_
 simp only[Znc,Znd,Zne,Act.put,Znf,Zng,Znh]
 iterate 1
  refine Zi _ rfl rfl (fun w' hS=>by obtain⟨⟨a0,a1,a2,a3⟩,z0,z1⟩:=hS;go_simp;first | rfl | (rw[if_pos (by omega)])) ?_
  simp only[Znc,Znd,Zne,Act.put,Znf,Zng,Znh]
 refine Zt ?_
 have c0:=Za HX2.out 0 rfl
 have f0:=Zb HX2.out 0
 go_wp2
 have q:(w2.setCell ⟨w.heap.size,0,none⟩ (.int .i64 2)).cell? ⟨w.heap.size,0,none⟩=some (.int .i64 2):=Za (Joins.block_setCell HX2.out _) 0 rfl
 refine bodyPost_ret (v:=.int .i64 2) (by simp[results,Tryz.f80,go_sem,q]) rfl ⟨2,rfl,HE.out,HB2.out.setCell (p:=⟨w.heap.size,0,none⟩) (Nat.le_refl _) _⟩
abbrev SL2 (b o:Nat) (x y:ByteArray) (w':World):Prop:=(w'.cell? ⟨b,o+2,none⟩=some (.string x)∧w'.cell? ⟨b,o+3,none⟩=some (.string y))∧
 w'.cell? ⟨2,0,none⟩=some (.string ⟨#[49]⟩)∧w'.cell? ⟨2,1,none⟩=some (.string ⟨#[49]⟩)
structure CurveIn (b off r c:Nat) (bs:List BB) (w:World):Prop where
 len:bs.length=r+1
 two:1≤r
 most:r≤63
 cap:r+1≤c∧c≤9223372036854775807
 first:bAt bs 0=Zc9
 lim:∀ x ∈ bs,(x.1.1.size≤1000000∧x.1.2.size≤1000000)∧(x.2.1.size≤1000000∧x.2.2.size≤1000000)
 lt:b<w.heap.size
 cells:∀ W,Below w.heap.size w W→Zcd b off (r+1) bs W
 det:DetV w
 tabs:Tabs w
theorem CurveIn.bl {b off r c:Nat} {bs:List BB} {w W:World} (h:CurveIn b off r c bs w) (hW:Below w.heap.size w W):BL W (.slice (some ⟨b,off,none⟩) (r+1) c) bs:=by
 have h1:=h.len
 refine⟨_,c,by rw[h1],by rw[h1];exact h.cap.1,by unfold maxLen;exact h.cap.2,fun _=>⟨b,off,rfl,Nat.lt_of_lt_of_le h.lt hW.size,fun j hj=>?_⟩⟩
 have:=h.cells W hW j (by omega)
 rwa [ZdL hj] at this
theorem CurveIn.sf {b off r c:Nat} {bs:List BB} {w W:World} (h:CurveIn b off r c bs w) (hW:Below w.heap.size w W):SF b off ⟨#[48]⟩ ⟨#[49]⟩ ⟨#[48]⟩ ⟨#[49]⟩ W:=by
 have h1:=h.cells W hW 0 (by omega)
 rw[h.first,Nat.zero_mul,Nat.add_zero] at h1
 have hd:=h.det.below hW (Nat.le_refl _)
 exact⟨h1,hd.z0,hd.z1⟩
theorem CurveIn.sl {b off r c:Nat} {bs:List BB} {w W:World} (h:CurveIn b off r c bs w) (hW:Below w.heap.size w W):SL2 b (off+r*4) (bAt bs r).2.1 (bAt bs r).2.2 W:=by
 have h1:=h.cells W hW r (by omega)
 have hd:=h.det.below hW (Nat.le_refl _)
 exact⟨⟨h1.2.2.1,h1.2.2.2⟩,hd.o0,hd.o1⟩
def ZaE (bs:List BB) (k:Nat):Bool:=!(Zm 18 (bAt bs k).1 && Zm 18 (bAt bs k).2)
theorem CurveIn.cf {b off r c:Nat} {bs:List BB} {w W:World} (h:CurveIn b off r c bs w) (hW:Below w.heap.size w W) :
  Calls Tryz.prog 129 #[.slice (some ⟨b,off,none⟩) (r+1) c,.func (.func 130) #[] #[]] W (ZdU W (r+1) (ZaE bs)):=
 Zhv (enters_of Tryz.func130 (by kernel_rfl) rfl) (h.bl hW) h.len fun k hk W2 _=>by
  obtain⟨⟨z1,z2⟩,z3,z4⟩:=h.lim _ (Zmn (bs:=bs) (i:=k) (by rw[h.len];exact hk))
  exact Zgh _ _ _ _ z1 z2 z3 z4 W2
end Go.Proofs.YtmpaflidennnoaaGreatDoor
namespace Go.Proofs.YtmpaflidennnoaaGreatDoor
open Go.RowKit Go.Shelf
def isPB (q:Rat) (s t:ByteArray):Bool:=decide (0≤q) && decide (s=str (numD q)) && decide (t=str (denD q)) && decide (Fits q)
theorem Zae {q:Rat} {s t:ByteArray} (h:isPB q s t=true):IsP q s t:=by
 unfold isPB at h
 simp only[Bool.and_eq_true,decide_eq_true_eq] at h
 exact⟨h.1.1.1,h.1.1.2,h.1.2,h.2⟩
def ZhN (k:Nat):BB:=((str (Lib.decDigits k),⟨#[49]⟩),(str (Lib.decDigits (2 ^ k-1)),str (Lib.decDigits (2 ^ k))))
def ZX (n:Nat):List BB:=(List.range (n+1)).map ZhN
theorem Za8 (n:Nat):(ZX n).length=n+1:=by simp[ZX]
theorem ZkC (n:Nat):ZX (n+1)=ZX n++[ZhN (n+1)]:=by
 unfold ZX
 rw[List.range_succ,List.map_append]
 rfl
theorem ZjQ:ZhN 0=Zc9:=by decide +kernel
theorem Zav:CurveP (ZX 2) where
 len:=by decide +kernel
 first:=by decide +kernel
 small:=fun i h=>by
  have h2:i<3:=by rw[Za8] at h;exact h
  match i,h2 with
  | 0,_=>decide +kernel
  | 1,_=>decide +kernel
  | 2,_=>decide +kernel
 top:=fun i h=>by
  have h2:i<3:=by rw[Za8] at h;exact h
  match i,h2 with
  | 0,_=>decide +kernel
  | 1,_=>decide +kernel
  | 2,_=>decide +kernel
 up:=fun i h=>by
  have h2:i+1<3:=by rw[Za8] at h;exact h
  match i,h2 with
  | 0,_=>decide +kernel
  | 1,_=>decide +kernel
 conc:=fun i h=>by
  have h2:i+2<3:=by rw[Za8] at h;exact h
  obtain rfl:i=0:=by omega
  unfold slp
  decide +kernel
theorem ZjH {n:Nat} {x:List UInt8} (h:Lib.decDigits n=x) (hx:x.length≤600):IsP (n:Nat) (str x) (str [49]):=by
 have h1:numD ((n:Nat):Rat)=x:=by unfold numD;rw[Rat.num_natCast,Int.toNat_natCast,h]
 have h2:denD ((n:Nat):Rat)=[49]:=by unfold denD;rw[Rat.den_natCast,ZdR]
 exact⟨Rat.natCast_nonneg,by rw[h1],by rw[h2],by unfold Fits;rw[h1,h2];exact⟨hx,by decide⟩⟩
theorem ZP:IsP 0 (⟨#[48]⟩:ByteArray) (⟨#[49]⟩:ByteArray):=by have:=ZjH (n:=0) ZbS (by decide);exact this
theorem ZjL:IsP 1 (⟨#[49]⟩:ByteArray) (⟨#[49]⟩:ByteArray):=by have:=ZjH (n:=1) ZdR (by decide);exact this
theorem IsP.num_zero {q:Rat} {s t:ByteArray} (h:IsP q s t):(s.toList==[48])=true↔q=0:=by
 have e:s.toList=s.data.toList:=ByteArray.toList_eq ..
 rw[e,beq_iff_eq]
 constructor
 ·intro h1
  refine h.inj ZP ?_ ?_ |>.trans rfl
  ·rw[← Zbi s,h1];rfl
  ·have h2:q.num.toNat=0:=by rw[← h.vals.1,h1];rfl
   have h3:=ZO h.nn
   rw[h2] at h3
   have h4:=Rat.num_eq_zero.1 h3.symm
   subst h4
   exact(h.same ZP rfl).2
 ·rintro rfl
  rw[(h.same ZP rfl).1]
theorem IsP.pos {q:Rat} {s t:ByteArray} (h:IsP q s t) (h0:q≠0):0<q:=Rat.lt_of_le_of_ne h.nn (Ne.symm h0)
theorem Own.mono {w:World} {b c:Nat} {v:Value} {ps:List PP} (h:Own w c v ps) (hb:b≤c):Own w b v ps:=by
 obtain⟨h1,h2⟩:=h
 refine⟨h1,?_⟩
 rcases h2 with h2 | ⟨g,cap,cur,hv,hb',hr⟩
 ·exact .inl h2
 ·exact .inr ⟨g,cap,cur,hv,by omega,hr⟩
end Go.Proofs.YtmpaflidennnoaaGreatDoor
namespace Go.Proofs.YtmpaflidennnoaaGreatDoor
open Go.RowKit Go.Shelf
attribute [local go_sem ↓] Go.wp_at_zero Go.wp_at_succ
attribute [local go_sem] Oper.semAt_some
theorem Zi9 {b off r c:Nat} {bs:List BB} {w:World} (hI:CurveIn b off r c bs w) (hx:∃ k,k<r+1∧ZaE bs k=true) :
  Calls Tryz.prog 80 #[.slice (some ⟨b,off,none⟩) (r+1) c] w (Zb6 bs w):=by
 have hn:¬ CurveP bs:=fun hc=>by
  obtain⟨k,hk,h⟩:=hx
  have h2:=hc.small k (by rw[hI.len];exact hk)
  unfold ZaE at h
  rw[h2.1,h2.2] at h
  cases h
 have HE:Hid (Ze1 bs 2):=.inr ⟨hn,rfl⟩
 have HX:=Lib.hid hx
 have HI:=Lib.hid hI
 have hr:=hI.most
 have e1:Hid (IntKind.i64.wrap (r:Int)=(r:Int)):=IntWalk.i64_in _ (by omega)
 clear hI hx
 go_enter Tryz.func80,Tryz.ntmps80
 have HS:Hid (∀ W,Below w.heap.size w W→SF b off ⟨#[48]⟩ ⟨#[49]⟩ ⟨#[48]⟩ ⟨#[49]⟩ W):=fun W hW=>HI.out.sf hW
 have H:Hid ((decide ((2:Int)≤(r:Int)+1) && decide ((r:Int)+1≤64))=true):=by show _=_;have:=HI.out.two;have:=HI.out.most;simp;omega
 go_wp2
 have hbx:((w.alloc (.cells #[.int .i64 0] 30)).drew).heap[w.heap.size]?=some (.cells #[.int .i64 0] 30):=World.alloc_heap_new w _
 have hb0:Below w.heap.size w ((w.alloc (.cells #[.int .i64 0] 30)).drew):=((Below.refl _ w).alloc (Nat.le_refl _) _).drew
 obtain⟨w1,hw1⟩:∃ z,w.alloc (.cells #[.int .i64 0] 30)=z:=⟨_,rfl⟩
 rw[hw1] at hbx hb0 ⊢
 have hSF:=HS.out _ hb0
 refine ZQ [(true,0),(true,1),(false,2),(true,3),(true,4),(true,5),(true,6),(true,7),(true,8),(true,9),(true,10),(true,11),(true,12)] (SF b off ⟨#[48]⟩ ⟨#[49]⟩ ⟨#[48]⟩ ⟨#[49]⟩) (fun _=>false)
  (by kernel_rfl) (by kernel_rfl) (fun _ _=>rfl) (fun _ _ o _ _ h=>by cases o<;>exact h) hSF ?_
 iterate 2
  refine Zi _ rfl rfl (fun w' hS=>by go_simp;rfl) ?_
  simp only[Znc,Znd,Zne,Act.put,Znf,Zng,Znh]
 refine Ze rfl rfl fun K hK=>?_
 go_simp
 go_at_call 128
 refine(Zbg _ 2 64 _).mono ?_
 rintro e w2 ⟨rfl,hb⟩
 rw[H.out]
 have hbx2:w2.heap[w.heap.size]?=some (.cells #[.int .i64 0] 30):=(hb.block _ (Array.getElem?_eq_some_iff.1 hbx).1).trans hbx
 have HB2:Hid (Below w.heap.size w w2):=hb0.trans (hb.mono hb0.size)
 have HX2:=Lib.hid hbx2
 have hSF2:=HS.out _ HB2.out
 refine hK _ _ (.inr hSF2) ?_
 clear hK K hb hbx hb0 hbx2 hw1 hSF hSF2
 iterate 10
  refine Zi _ rfl rfl (fun w' hS=>by obtain⟨⟨a0,a1,a2,a3⟩,z0,z1⟩:=hS;go_simp;first | rfl | (rw[if_pos (by omega)])) ?_
  simp only[Znc,Znd,Zne,Act.put,Znf,Zng,Znh]
 refine Zt ?_
 go_wp2
 refine ZQ [(true,0),(false,1),(true,2),(true,3),(true,4),(true,5),(true,6),(true,7),(true,8),(true,9),(true,10),(false,11),(true,12),(true,13)] (SL2 b (off+r*4) (bAt bs r).2.1 (bAt bs r).2.2) (fun _=>false)
  (by kernel_rfl) (by kernel_rfl) (fun _ _=>rfl) (fun _ _ o _ _ h=>by cases o<;>exact h) (HI.out.sl HB2.out.drew) ?_
 iterate 1
  refine Zi _ rfl rfl (fun w' hS=>by obtain⟨⟨a0,a1⟩,z0,z1⟩:=hS;go_simp;(try simp only[e1.out,Int.toNat_natCast]);first | rfl | (rw[if_pos (by omega)])) ?_
  simp only[Znc,Znd,Zne,Act.put,Znf,Zng,Znh]
 refine Ze rfl rfl fun K hK=>?_
 go_simp
 go_at_call 129
 refine(HI.out.cf HB2.out.drew).mono ?_
 rintro e w3 ⟨q,rfl,hE,hb⟩
 have HB3:Hid (Below w.heap.size w w3):=HB2.out.drew.trans (hb.mono HB2.out.drew.size)
 have HX3:Hid (w3.heap[w.heap.size]?=some (.cells #[.int .i64 0] 30)):=(hb.block _ (Array.getElem?_eq_some_iff.1 HX2.out).1).trans HX2.out
 rcases hE with ⟨rfl,_⟩ | ⟨_,h⟩
 rotate_left
 ·obtain⟨k,hk,h2⟩:=HX.out
  rw[h k hk] at h2
  cases h2
 have hSL:=HI.out.sl HB3.out
 refine hK _ _ (.inr hSL) ?_
 clear hK K hb
 iterate 1
  refine Zi _ rfl rfl (fun w' hS=>by obtain⟨⟨a0,a1⟩,z0,z1⟩:=hS;go_simp;(try simp only[e1.out,Int.toNat_natCast]);first | rfl | (rw[if_pos (by omega)])) ?_
  simp only[Znc,Znd,Zne,Act.put,Znf,Zng,Znh]
 iterate 8
  refine Zcc rfl rfl ?_
  simp only[Znc,Znd,Zne,Act.put,Znf,Zng,Znh]
 refine Zfy rfl rfl hSL ?_
 simp only[Znc,Znd,Zne,Act.put,Znf,Zng,Znh]
 clear hSL
 iterate 1
  refine Zcc rfl rfl ?_
  simp only[Znc,Znd,Zne,Act.put,Znf,Zng,Znh]
 iterate 1
  refine Zi _ rfl rfl (fun w' hS=>by obtain⟨⟨a0,a1⟩,z0,z1⟩:=hS;go_simp;(try simp only[e1.out,Int.toNat_natCast]);first | rfl | (rw[if_pos (by omega)])) ?_
  simp only[Znc,Znd,Zne,Act.put,Znf,Zng,Znh]
 refine Zt ?_
 have c0:=Za HX3.out 0 rfl
 have f0:=Zb HX3.out 0
 go_wp2
 have q:(w3.setCell ⟨w.heap.size,0,none⟩ (.int .i64 2)).cell? ⟨w.heap.size,0,none⟩=some (.int .i64 2):=Za (Joins.block_setCell HX3.out _) 0 rfl
 refine bodyPost_ret (v:=.int .i64 2) (by simp[results,Tryz.f80,go_sem,q]) rfl ⟨2,rfl,HE.out,HB3.out.setCell (p:=⟨w.heap.size,0,none⟩) (Nat.le_refl _) _⟩
theorem ZkL {b off r c:Nat} {bs:List BB} {w:World} (hI:CurveIn b off r c bs w) (hs:∀ k,k<r+1→ZaE bs k=false) (hx:1<hR bs r) :
  Calls Tryz.prog 80 #[.slice (some ⟨b,off,none⟩) (r+1) c] w (Zb6 bs w):=by
 have hn:¬ CurveP bs:=fun hc=>by
  have:=hc.top r (by rw[hI.len];omega)
  grind
 have HE:Hid (Ze1 bs 2):=.inr ⟨hn,rfl⟩
 have hsm:=hs r (by omega)
 unfold ZaE at hsm
 simp only[Bool.not_eq_false',Bool.and_eq_true] at hsm
 have HP:=Lib.hid (Za9 hsm.2).1
 have HG:Hid (sgnR (hR bs r) 1=1):=by
  show sgnR _ _=_
  unfold sgnR
  rw[if_neg (by grind),if_neg (by grind)]
 have HS0:=Lib.hid hs
 have HI:=Lib.hid hI
 have hr:=hI.most
 have e1:Hid (IntKind.i64.wrap (r:Int)=(r:Int)):=IntWalk.i64_in _ (by omega)
 clear hI hx hs hsm
 go_enter Tryz.func80,Tryz.ntmps80
 have HS:Hid (∀ W,Below w.heap.size w W→SF b off ⟨#[48]⟩ ⟨#[49]⟩ ⟨#[48]⟩ ⟨#[49]⟩ W):=fun W hW=>HI.out.sf hW
 have H:Hid ((decide ((2:Int)≤(r:Int)+1) && decide ((r:Int)+1≤64))=true):=by show _=_;have:=HI.out.two;have:=HI.out.most;simp;omega
 go_wp2
 have hbx:((w.alloc (.cells #[.int .i64 0] 30)).drew).heap[w.heap.size]?=some (.cells #[.int .i64 0] 30):=World.alloc_heap_new w _
 have hb0:Below w.heap.size w ((w.alloc (.cells #[.int .i64 0] 30)).drew):=((Below.refl _ w).alloc (Nat.le_refl _) _).drew
 obtain⟨w1,hw1⟩:∃ z,w.alloc (.cells #[.int .i64 0] 30)=z:=⟨_,rfl⟩
 rw[hw1] at hbx hb0 ⊢
 have hSF:=HS.out _ hb0
 refine ZQ [(true,0),(true,1),(false,2),(true,3),(true,4),(true,5),(true,6),(true,7),(true,8),(true,9),(true,10),(true,11),(true,12)] (SF b off ⟨#[48]⟩ ⟨#[49]⟩ ⟨#[48]⟩ ⟨#[49]⟩) (fun _=>false)
  (by kernel_rfl) (by kernel_rfl) (fun _ _=>rfl) (fun _ _ o _ _ h=>by cases o<;>exact h) hSF ?_
 iterate 2
  refine Zi _ rfl rfl (fun w' hS=>by go_simp;rfl) ?_
  simp only[Znc,Znd,Zne,Act.put,Znf,Zng,Znh]
 refine Ze rfl rfl fun K hK=>?_
 go_simp
 go_at_call 128
 refine(Zbg _ 2 64 _).mono ?_
 rintro e w2 ⟨rfl,hb⟩
 rw[H.out]
 have hbx2:w2.heap[w.heap.size]?=some (.cells #[.int .i64 0] 30):=(hb.block _ (Array.getElem?_eq_some_iff.1 hbx).1).trans hbx
 have HB2:Hid (Below w.heap.size w w2):=hb0.trans (hb.mono hb0.size)
 have HX2:=Lib.hid hbx2
 have hSF2:=HS.out _ HB2.out
 refine hK _ _ (.inr hSF2) ?_
 clear hK K hb hbx hb0 hbx2 hw1 hSF hSF2
 iterate 10
  refine Zi _ rfl rfl (fun w' hS=>by obtain⟨⟨a0,a1,a2,a3⟩,z0,z1⟩:=hS;go_simp;first | rfl | (rw[if_pos (by omega)])) ?_
  simp only[Znc,Znd,Zne,Act.put,Znf,Zng,Znh]
 refine Zt ?_
 go_wp2
 refine ZQ [(true,0),(false,1),(true,2),(true,3),(true,4),(true,5),(true,6),(true,7),(true,8),(true,9),(true,10),(false,11),(true,12),(true,13)] (SL2 b (off+r*4) (bAt bs r).2.1 (bAt bs r).2.2) (fun _=>false)
  (by kernel_rfl) (by kernel_rfl) (fun _ _=>rfl) (fun _ _ o _ _ h=>by cases o<;>exact h) (HI.out.sl HB2.out.drew) ?_
 iterate 1
  refine Zi _ rfl rfl (fun w' hS=>by obtain⟨⟨a0,a1⟩,z0,z1⟩:=hS;go_simp;(try simp only[e1.out,Int.toNat_natCast]);first | rfl | (rw[if_pos (by omega)])) ?_
  simp only[Znc,Znd,Zne,Act.put,Znf,Zng,Znh]
 refine Ze rfl rfl fun K hK=>?_
 go_simp
 go_at_call 129
 refine(HI.out.cf HB2.out.drew).mono ?_
 rintro e w3 ⟨q,rfl,hE,hb⟩
 have HB3:Hid (Below w.heap.size w w3):=HB2.out.drew.trans (hb.mono HB2.out.drew.size)
 have HX3:Hid (w3.heap[w.heap.size]?=some (.cells #[.int .i64 0] 30)):=(hb.block _ (Array.getElem?_eq_some_iff.1 HX2.out).1).trans HX2.out
 rcases hE with ⟨_,k,hk,h2⟩ | ⟨rfl,_⟩
 ·rw[HS0.out k hk] at h2
  cases h2
 refine hK _ _ (.inr (HI.out.sl HB3.out)) ?_
 clear hK K hb
 iterate 9
  refine Zi _ rfl rfl (fun w' hS=>by obtain⟨⟨a0,a1⟩,z0,z1⟩:=hS;go_simp;(try simp only[e1.out,Int.toNat_natCast]);first | rfl | (rw[if_pos (by omega)])) ?_
  simp only[Znc,Znd,Zne,Act.put,Znf,Zng,Znh]
 refine Ze rfl rfl fun K hK=>?_
 go_simp
 go_at_call 22
 refine(ZaU HP.out ZjL HG.out _).mono ?_
 rintro e w4 ⟨rfl,hb⟩
 have HB4:Hid (Below w.heap.size w w4):=HB3.out.trans (hb.mono HB3.out.size)
 have HX4:Hid (w4.heap[w.heap.size]?=some (.cells #[.int .i64 0] 30)):=(hb.block _ (Array.getElem?_eq_some_iff.1 HX3.out).1).trans HX3.out
 refine hK _ _ (.inr (HI.out.sl HB4.out)) ?_
 clear hK K hb
 iterate 2
  refine Zi _ rfl rfl (fun w' hS=>by obtain⟨⟨a0,a1⟩,z0,z1⟩:=hS;go_simp;(try simp only[e1.out,Int.toNat_natCast]);first | rfl | (rw[if_pos (by omega)])) ?_
  simp only[Znc,Znd,Zne,Act.put,Znf,Zng,Znh]
 refine Zt ?_
 have c0:=Za HX4.out 0 rfl
 have f0:=Zb HX4.out 0
 go_wp2
 have q:(w4.setCell ⟨w.heap.size,0,none⟩ (.int .i64 2)).cell? ⟨w.heap.size,0,none⟩=some (.int .i64 2):=Za (Joins.block_setCell HX4.out _) 0 rfl
 refine bodyPost_ret (v:=.int .i64 2) (by simp[results,Tryz.f80,go_sem,q]) rfl ⟨2,rfl,HE.out,HB4.out.setCell (p:=⟨w.heap.size,0,none⟩) (Nat.le_refl _) _⟩
end Go.Proofs.YtmpaflidennnoaaGreatDoor
namespace Go.Proofs.YtmpaflidennnoaaGreatDoor
open Go.RowKit
def Zg6 (S:Nat→Prop) (D:Nat) (I:Nat→World→Prop) (Ix:Code→Nat→World→Prop) (k:Nat) (W:World):Exit→Act→World→Prop
 | .normal,_,W'=>Keeps (fun b=>S b∨b=D∨b=D+1) W W'∧I (k+1) W'
 | .ret,_,W'=>Keeps (fun b=>b=D∨b=D+1) W W'∧Ix .ret k W'
 | .exit id,_,W'=>Keeps (fun b=>b=D∨b=D+1) W W'∧Ix (.exit id) k W'
 | .goto t,_,W'=>Keeps (fun b=>b=D∨b=D+1) W W'∧Ix (.goto t) k W'
 | .panic _,_,_=>False
 | .outgrown,_,_=>False
theorem Zdn.to3 {S:Nat→Prop} {D:Nat} {I:Nat→World→Prop} {Ix:Code→Nat→World→Prop} {k:Nat} {W:World} : ∀ {e:Exit} {a:Act} {w:World},Zdn S D I Ix k W e a w→Zg6 S D I Ix k W e a w
 | .normal,_,_,h=>h
 | .ret,_,_,h=>⟨h.1.mono fun _ _ hb=>.inr hb,h.2⟩
 | .exit _,_,_,h=>⟨h.1.mono fun _ _ hb=>.inr hb,h.2⟩
 | .goto _,_,_,h=>⟨h.1.mono fun _ _ hb=>.inr hb,h.2⟩
 | .panic _,_,_,h=>h
 | .outgrown,_,_,h=>h
theorem Zg2 {P:Program} {n:Nat} {g:Operand} {ps:Array Tmp} {assign body:Code} {Q:Exit→Act→World→Prop} {a:Act} {w:World}
  {gf:Nat} {lb:Array Value} {f:Nat→Array Value} {N:Nat} {S T:Nat→Prop} (D:Nat) (hD:w.heap.size=D)
  (hg:a.eval g=.func (.func gf) #[] lb) (eg:∀ args w,(callFunc gf args).run P w=.ok (.enter gf args) w) (hps:∀ k,(f k).size=ps.size)
  (hit:Iter P gf lb f N S T w) (hSD:∀ b,S b→b<D) (hTD:T D∧T (D+1))
  (I:Nat→World→Prop) (Ix:Code→Nat→World→Prop)
  (hI:∀ k W1 W2,I k W1→Keeps (fun b=>T b∧b≠D∧b≠D+1) W1 W2→I k W2)
  (hIx:∀ c k W1 W2,Ix c k W1→Keeps (fun b=>T b∧b≠D∧b≠D+1) W1 W2→Ix c k W2)
  (h0:I 0 w) (B:Nat→Act→World→Prop)
  (hB:∀ k a' W1 W2,B k a' W1→Keeps (fun b=>b≠D∧b≠D+1) W1 W2→B k a' W2)
  (hassign:∀ (l k:Nat) (W:World),k<N→D+2≤W.heap.size→
   assign.wpIn (Fence.wide.inRound l) (n-1-1) P (Exit.then (fun a' W'=>Keeps (fun _=>True) W W'∧B k a' W') (fun _ _ _=>False)) { tmps:=(ps.zip (f k)).foldl (fun t (p,v)=>t.setIfInBounds p v) a.tmps,defers:=[] } W)
  (hbody:∀ (l k:Nat) (a':Act) (W:World),k<N→I k W→B k a' W→D+2≤W.heap.size→body.wpIn (Fence.wide.inRound l) (n-1-1) P (Zg6 S D I Ix k W) a' W)
  (hdone:∀ W:World,I N W→W.heap[D]?=some (.deferred (some []))→Q .normal { a with defers:={ target:=.collected D,args:=#[] }::a.defers } W)
  (hstop:∀ (c:Code) (k:Nat) (W:World),k<N→Ix c k W→W.heap[D]?=some (.deferred (some []))→c.wpIn Fence.wide n P Q { a with defers:={ target:=.collected D,args:=#[] }::a.defers } W) :
  (Code.rangeFunc g ps assign body).wpIn Fence.wide n P Q a w:=by
 subst hD
 refine wpIn_rangeFunc fun fn _=>?_
 let rec0:LoopState→Option Code→Loop:=fun st pe=>{ state:=st,pending:=pe,fn,tmps:=a.tmps,params:=ps,assign,body,defers:=w.heap.size }
 obtain⟨mk,hmk⟩:∃ mk:LoopState→Option Code→Loop,mk=rec0:=⟨_,rfl⟩
 obtain⟨W1,hW1⟩:∃ W1,(w.alloc (.deferred (some []))).alloc (.loop (mk .ready none))=W1:=⟨_,rfl⟩
 have hrec1:W1.heap[w.heap.size+1]?=some (.loop (mk .ready none)):=by
  have:=World.alloc_heap_new (w.alloc (.deferred (some []))) (.loop (mk .ready none))
  rwa [World.size_alloc,hW1] at this
 have hdef1:W1.heap[w.heap.size]?=some (.deferred (some [])):=by
  rw[← hW1];exact(Below.heap_alloc _ _ _ (by simp)).trans (World.alloc_heap_new w _)
 have keepAny:∀ S':Nat→Prop,Keeps S' w W1:=fun S'=>by rw[← hW1];exact((Keeps.refl S' w).alloc _).alloc _
 refine⟨w.heap.size+1,[{ target:=.collected w.heap.size,args:=#[] }],W1,{ target:=.fn (.func gf) lb,args:=#[.func (.yield (w.heap.size+1)) #[] #[]] },W1,gf,
  #[.func (.yield (w.heap.size+1)) #[] #[]]++lb,W1,?_,?_,fun _ _=>trivial,?_,(fun h=>by cases h),?_⟩
 ·rw[← hW1,hmk];exact run_enterLoop_outer _ _ _ _ _
 ·simp only[resolve,hg]
  simp[go_sem]
 ·simp[invoke,go_sem,eg]
 ·-- the record between two rounds,and when one has said 'no more'
  have turn:∀ {k:Nat} {W2:World} (l:Loop),I k W2→W2.heap[w.heap.size]?=some (.deferred (some []))→w.heap.size+1<W2.heap.size→
    I k (W2.putObj (w.heap.size+1) (.loop l))∧(W2.putObj (w.heap.size+1) (.loop l)).heap[w.heap.size]?=some (.deferred (some []))∧(W2.putObj (w.heap.size+1) (.loop l)).heap[w.heap.size+1]?=some (.loop l):=
   fun l hi hd hlt=>⟨hI _ _ _ hi ((Keeps.refl _ _).putObj (fun h=>h.2.2 rfl) _),(World.putObj_heap_other (by omega)).trans hd,World.putObj_heap_same hlt⟩
  have turnx:∀ {c:Code} {k:Nat} {W2:World} (l:Loop),Ix c k W2→W2.heap[w.heap.size]?=some (.deferred (some []))→w.heap.size+1<W2.heap.size→
    Ix c k (W2.putObj (w.heap.size+1) (.loop l))∧(W2.putObj (w.heap.size+1) (.loop l)).heap[w.heap.size]?=some (.deferred (some []))∧(W2.putObj (w.heap.size+1) (.loop l)).heap[w.heap.size+1]?=some (.loop l):=
   fun l hi hd hlt=>⟨hIx _ _ _ _ hi ((Keeps.refl _ _).putObj (fun h=>h.2.2 rfl) _),(World.putObj_heap_other (by omega)).trans hd,World.putObj_heap_same hlt⟩
  have ltOf:∀ {W2:World} {o:Obj},W2.heap[w.heap.size+1]?=some o→w.heap.size+1<W2.heap.size:=fun h=>(Array.getElem?_eq_some_iff.1 h).1
  have stay:∀ {k:Nat} {A B:World} {l:Loop},(A.heap[w.heap.size+1]?=some (.loop l)∧A.heap[w.heap.size]?=some (.deferred (some [])))→Keeps T A B→
    B.heap[w.heap.size+1]?=some (.loop l)∧B.heap[w.heap.size]?=some (.deferred (some [])):=fun {k A B l} h hk=>
   ⟨(hk.block _ (ltOf h.1) hTD.2).trans h.1,(hk.block _ (by have:=ltOf h.1;omega) hTD.1).trans h.2⟩
  refine(hit (n-1) (w.heap.size+1)
   (fun k W=>I k W∧(W.heap[w.heap.size+1]?=some (.loop (mk .ready none))∧W.heap[w.heap.size]?=some (.deferred (some []))))
   (fun k W=>∃ c,Ix c k W∧(W.heap[w.heap.size+1]?=some (.loop (mk .done (some c)))∧W.heap[w.heap.size]?=some (.deferred (some []))))
   W1 (keepAny S)
   (fun k A B h hk=>⟨hI _ _ _ h.1 (hk.mono fun b _ hb=>hb.1),stay (k:=k) h.2 hk⟩)
   (fun k A B h hk=>by obtain⟨c,h1,h2⟩:=h;exact⟨c,hIx _ _ _ _ h1 (hk.mono fun b _ hb=>hb.1),stay (k:=k) h2 hk⟩)
   ?_ ⟨hI _ _ _ h0 (keepAny _),hrec1,hdef1⟩).mono ?_
  ·rintro k W hk ⟨hi,hl,hd⟩
   have hlt:=ltOf hl
   have hy:=run_yield (P:=P) (args:=f k) hl (by rw[hmk];exact hps k)
   rw[hmk] at hy
   refine⟨fn,_,assign,body,hy,roundIn_of_wpIn (F:=Fence.wide) trivial (wpIn_mono (hassign _ k W hk (by omega)) ?_)⟩
   rintro e a9 W9 hp9
   cases e<;>try exact hp9
   obtain⟨hk9,hb9⟩:=hp9
   have hl9:W9.heap[w.heap.size+1]?=some (.loop (mk .ready none)):=(hk9.block _ hlt trivial).trans hl
   have hd9:W9.heap[w.heap.size]?=some (.deferred (some [])):=(hk9.block _ (by omega) trivial).trans hd
   have hi9:I k W9:=hI _ _ _ hi (hk9.mono fun _ _ _=>trivial)
   have keep9:Keeps S W W9:=hk9.mono fun _ _ _=>trivial
   clear hk9 hl hd hi hlt
   have hlt:=ltOf hl9
   refine⟨_,run_beginRound hl9 (by rw[hmk]),?_⟩
   obtain⟨hi2,hd2,hl2⟩:=turn { mk .ready none with state:=.busy } hi9 hd9 hlt
   have hb2:=hB _ _ _ (W9.putObj (w.heap.size+1) (.loop { mk .ready none with state:=.busy })) hb9 ((Keeps.refl _ _).putObj (fun h=>h.2 rfl) _)
   have keepSame:Keeps S W (W9.putObj (w.heap.size+1) (.loop { mk .ready none with state:=.busy })):=keep9.putObj (fun h=>by have:=hSD _ h;omega) _
   refine wpIn_mono (hbody _ k _ _ hk hi2 hb2 (by simp;omega)) ?_
   generalize hV:W9.putObj (w.heap.size+1) (.loop { mk .ready none with state:=.busy })=V at hi2 hd2 hl2 keepSame
   have fin:∀ (jump:Option Code) (W3:World),Keeps (fun b=>b=w.heap.size∨b=w.heap.size+1) V W3→
     (Instr.endRound (w.heap.size+1) jump).run P W3=.ok (.bool jump.isNone) (W3.putObj (w.heap.size+1) (.loop (mk (if jump.isNone then .ready else .done) jump)))∧
      W3.heap[w.heap.size]?=some (.deferred (some []))∧w.heap.size+1<W3.heap.size:=fun jump W3 hk3=>by
    have hl3:W3.heap[w.heap.size+1]?=some (.loop { mk .ready none with state:=.busy }):=(hk3.block _ (ltOf hl2) (.inr rfl)).trans hl2
    have hd3:=(hk3.block _ (by have:=ltOf hl2;omega) (.inl rfl)).trans hd2
    have:=run_endRound (P:=P) jump hl3
    rw[hmk] at this ⊢
    exact⟨this,hd3,ltOf hl3⟩
   rintro e a3 W3 hp
   cases e with
   | normal=>
    obtain⟨hk3,hi3⟩:=hp
    obtain⟨hr,hd3,hlt3⟩:=fin none W3 (hk3.mono fun _ _ hb=>.inr hb)
    obtain⟨x1,x2,x3⟩:=turn (mk .ready none) hi3 hd3 hlt3
    exact⟨_,_,hr,.inl ⟨rfl,⟨x1,x3,x2⟩,(keepSame.trans (hk3.mono fun b _ hb=>.inl hb)).putObj (fun h=>by have:=hSD _ h;omega) _⟩⟩
   | ret=>
    obtain⟨hk3,hi3⟩:=hp
    obtain⟨hr,hd3,hlt3⟩:=fin (some .ret) W3 hk3
    obtain⟨x1,x2,x3⟩:=turnx (mk .done (some .ret)) hi3 hd3 hlt3
    exact⟨_,_,hr,.inr ⟨rfl,.ret,x1,x3,x2⟩⟩
   | exit id=>
    obtain⟨hk3,hi3⟩:=hp
    obtain⟨hr,hd3,hlt3⟩:=fin (some (.exit id)) W3 hk3
    obtain⟨x1,x2,x3⟩:=turnx (mk .done (some (.exit id))) hi3 hd3 hlt3
    exact⟨_,_,hr,.inr ⟨rfl,.exit id,x1,x3,x2⟩⟩
   | goto t=>
    obtain⟨hk3,hi3⟩:=hp
    obtain⟨hr,hd3,hlt3⟩:=fin (some (.goto t)) W3 hk3
    obtain⟨x1,x2,x3⟩:=turnx (mk .done (some (.goto t))) hi3 hd3 hlt3
    exact⟨_,_,hr,.inr ⟨rfl,.goto t,x1,x3,x2⟩⟩
   | panic ch=>exact hp.elim
   | outgrown=>exact hp.elim
  ·rintro e W2 ⟨⟨v,rfl⟩,(⟨hi,hl,hd⟩ | ⟨k,hk,c,hi,hl,hd⟩)⟩
   ·have he:=run_endLoop (P:=P) hl (by rw[hmk];simp[rec0])
    obtain⟨x1,x2,_⟩:=turn { mk .ready none with state:=.exhausted } hi hd (ltOf hl)
    refine⟨none,_,by rw[hmk] at he ⊢;exact he,hdone _ x1 x2⟩
   ·have he:=run_endLoop (P:=P) hl (by rw[hmk];simp[rec0])
    obtain⟨x1,x2,_⟩:=turnx { mk .done (some c) with state:=.exhausted } hi hd (ltOf hl)
    refine⟨some c,_,by rw[hmk] at he ⊢;exact he,hstop c k _ hk x1 x2⟩
theorem ZcT {P:Program} {n:Nat} {g:Operand} {ps:Array Tmp} {assign body:Code} {Q:Exit→Act→World→Prop} {a:Act} {w:World}
  {gf:Nat} {lb:Array Value} {f:Nat→Array Value} {N:Nat} {S T:Nat→Prop} (D:Nat) (hD:w.heap.size=D)
  (hg:a.eval g=.func (.func gf) #[] lb) (eg:∀ args w,(callFunc gf args).run P w=.ok (.enter gf args) w) (hps:∀ k,(f k).size=ps.size)
  (hit:Iter P gf lb f N S T w) (hSD:∀ b,S b→b<D) (hTD:T D∧T (D+1))
  (I:Nat→World→Prop) (Ix:Code→Nat→World→Prop)
  (hI:∀ k W1 W2,I k W1→Keeps (fun b=>T b∧b≠D∧b≠D+1) W1 W2→I k W2)
  (hIx:∀ c k W1 W2,Ix c k W1→Keeps (fun b=>T b∧b≠D∧b≠D+1) W1 W2→Ix c k W2)
  (h0:I 0 w) (B:Nat→Act→World→Prop)
  (hB:∀ k a' W1 W2,B k a' W1→Keeps (fun b=>b≠D∧b≠D+1) W1 W2→B k a' W2)
  (hassign:∀ (l k:Nat) (W:World),k<N→D+2≤W.heap.size→
   assign.wpIn (Fence.wide.inRound l) (n-1-1) P (Exit.then (fun a' W'=>Keeps (fun _=>True) W W'∧B k a' W') (fun _ _ _=>False)) { tmps:=(ps.zip (f k)).foldl (fun t (p,v)=>t.setIfInBounds p v) a.tmps,defers:=[] } W)
  (hbody:∀ (l k:Nat) (a':Act) (W:World),k<N→I k W→B k a' W→D+2≤W.heap.size→body.wpIn (Fence.wide.inRound l) (n-1-1) P (Zdn S D I Ix k W) a' W)
  (hdone:∀ W:World,I N W→W.heap[D]?=some (.deferred (some []))→Q .normal { a with defers:={ target:=.collected D,args:=#[] }::a.defers } W)
  (hstop:∀ (c:Code) (k:Nat) (W:World),k<N→Ix c k W→W.heap[D]?=some (.deferred (some []))→c.wpIn Fence.wide n P Q { a with defers:={ target:=.collected D,args:=#[] }::a.defers } W) :
  (Code.rangeFunc g ps assign body).wpIn Fence.wide n P Q a w:=
 Zg2 D hD hg eg hps hit hSD hTD I Ix hI hIx h0 B hB hassign (fun l k a' W h1 h2 h3 h4=>wpIn_mono (hbody l k a' W h1 h2 h3 h4) fun _ _ _ h=>h.to3) hdone hstop
end Go.Proofs.YtmpaflidennnoaaGreatDoor
