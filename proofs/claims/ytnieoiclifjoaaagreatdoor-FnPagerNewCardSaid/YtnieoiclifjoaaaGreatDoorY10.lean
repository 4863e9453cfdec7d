/-
  Packed:5 texts.
-/
import Derived.Test.YtnieoiclifjoaaaGreatDoorY9
import Derived.Test.YtnieoiclifjoaaaGreatDoorY4
import Derived.Test.YtnieoiclifjoaaaGreatDoorY2
import Derived.Test.YtnieoiclifjoaaaGreatDoorY1
set_option linter.unusedVariables false
set_option maxHeartbeats 16000000
set_option maxRecDepth 100000
namespace Go.Proofs.YtnieoiclifjoaaaGreatDoor
open Go.Proofs.Tryz
open Go.RowKit
def OD (w:World) (res:LB) (e:Ending) (w':World):Prop:=∃m i ev c,e= .returned (.tuple #[.agg #[m,i,ev,c], .int .i64 res.2.1, .int .i64 res.2.2])∧Cz w.heap.size w' m i ev c res.1∧Below w.heap.size w w'
theorem Cz.lower {lo lo':Nat} {w:World} {m i e c:Value} {k:AN} (h:Cz lo w m i e c k) (hl:lo'≤lo):Cz lo' w m i e c k:=
 ⟨⟨_,h.1.choose_spec.lower hl⟩,h.2.1.lower hl,⟨_,h.2.2.1.choose_spec.lower hl⟩,h.2.2.2.lower hl⟩
theorem Cz.far {lo g:Nat} {w w':World} {m i e c:Value} {k:AN} {cs:Array Value} {T:Nat} {fr:Nat×Nat} (h:Cz lo w m i e c k) (hg:w.grownBy w' (some g)) (hB:w.heap[g]? =some (.cells cs T fr))
 (h1:30≠T) (h2:3≠T) (h3:135≠T) (h4:85≠T) (h5:9≠T) (h6:140≠T):Cz lo w' m i e c k:=
 ⟨⟨_,h.1.choose_spec.far hg hB h1 h2⟩,h.2.1.far hg hB h3,⟨_,h.2.2.1.choose_spec.far hg hB h4 h5⟩,h.2.2.2.far hg hB h6⟩
theorem Mk {w:World} {g t:Nat} {a b c d e f:Value} (h:w.heap[g]? =some (.cells #[a,b,c,d,e,f] t (0,0))):w.cell? ⟨g,0,none⟩=some a∧w.cell? ⟨g,1,none⟩=some b∧w.cell? ⟨g,2,none⟩=some c∧w.cell? ⟨g,3,none⟩=some d∧w.cell? ⟨g,4,none⟩=some e∧w.cell? ⟨g,5,none⟩=some f:=
 ⟨cell_of_row w g 0 _ _ _ h,cell_of_row w g 1 _ _ _ h,cell_of_row w g 2 _ _ _ h,cell_of_row w g 3 _ _ _ h,cell_of_row w g 4 _ _ _ h,cell_of_row w g 5 _ _ _ h⟩
theorem BM (w:World) (g:Nat) (a b c d:Value):w.grownBy ((((w.setCell ⟨g,0,none⟩ a).setCell ⟨g,1,none⟩ b).setCell ⟨g,2,none⟩ c).setCell ⟨g,3,none⟩ d) (some g):=
 Ab (Ab (Ab (Al w g 0 a) 1 b) 2 c) 3 d
theorem Cz.shapes {lo:Nat} {w:World} {m i e c:Value} {k:AN} (h:Cz lo w m i e c k):(∃a n q,m= .slice a n q)∧(∃a n q,i= .slice a n q)∧(∃a n q,e= .slice a n q)∧∃a n q,c= .slice a n q:=by obtain⟨⟨_,h1⟩,h2,⟨_,h3⟩,h4⟩:=h;obtain⟨_,_,rfl,_,_⟩:=h1.1.rd.shape;obtain⟨_,_,rfl,_,_⟩:=h2.rd.shape;obtain⟨_,_,rfl,_,_⟩:=h3.1.rd.shape;obtain⟨_,_,rfl,_,_⟩:=h4.rd.shape;exact⟨⟨_,_,_,rfl⟩,⟨_,_,_,rfl⟩,⟨_,_,_,rfl⟩,⟨_,_,_,rfl⟩⟩
theorem K5 (w:World) (a b c:Obj):(((w.alloc a).alloc b).alloc c).heap[w.heap.size]? =some a∧(((w.alloc a).alloc b).alloc c).heap[w.heap.size+1]? =some b∧(((w.alloc a).alloc b).alloc c).heap[w.heap.size+1+1]? =some c∧Below w.heap.size w (((w.alloc a).alloc b).alloc c)∧(((w.alloc a).alloc b).alloc c).heap.size=w.heap.size+3:=by have h1:=heap_alloc_new w a;have h2:=heap_alloc_new (w.alloc a) b;have h3:=heap_alloc_new ((w.alloc a).alloc b) c;have h4:=AF (AF h1 (AG _ b)) (AG _ c);have h5:=AF h2 (AG _ c);simp only[World.size_alloc] at h2 h3 h5;refine⟨h4,h5,h3,(F3 w a b).trans ((AG _ c).mono (F3 w a b).size),by simp⟩
theorem IB {w:World} {g t:Nat} {m i e c m' i' e' c':Value} (h:w.heap[g]? =some (.cells #[m,i,e,c] t (0,0))):((((w.setCell ⟨g,0,none⟩ m').setCell ⟨g,1,none⟩ i').setCell ⟨g,2,none⟩ e').setCell ⟨g,3,none⟩ c').cell? ⟨g,0,none⟩=some m'∧((((w.setCell ⟨g,0,none⟩ m').setCell ⟨g,1,none⟩ i').setCell ⟨g,2,none⟩ e').setCell ⟨g,3,none⟩ c').cell? ⟨g,1,none⟩=some i'∧((((w.setCell ⟨g,0,none⟩ m').setCell ⟨g,1,none⟩ i').setCell ⟨g,2,none⟩ e').setCell ⟨g,3,none⟩ c').cell? ⟨g,2,none⟩=some e'∧((((w.setCell ⟨g,0,none⟩ m').setCell ⟨g,1,none⟩ i').setCell ⟨g,2,none⟩ e').setCell ⟨g,3,none⟩ c').cell? ⟨g,3,none⟩=some c':=AB (DJ h)
theorem RH (m i e c:Value) (k:AN) (call:AR) (w:World) (h:Mb w m i e c k) (hk:De k) (he:0≤call.e) (hn:call.e<3) (hnm:call.nm.size≤maxLen) (hcc:call.c≤9223372036854775807):
 Calls prog 72 #[.agg #[m,i,e,c], .agg #[.int .i64 call.k, .int .i64 call.e, .int .i64 call.a, .int .i64 call.b, .int .i64 call.c, .string call.nm]] w (OD w (AU k call)):=by
 have C:=AA (fun(lo g:Nat) (w:World) (m i e c:Value) (h:IH lo w g m i e c k) (hlo:lo≤w.heap.size)=>VP h hlo hk call he hn hnm hcc);have HR:=AA h;have HK:=AA hk;have HN:=AA (@Mm k call);generalize AU k call=res at C HN ⊢;obtain⟨kr,vr,nr⟩:=res;obtain⟨ck,ce,ca,cb,cc,nm⟩:=call;simp only[AR.on,AR.onCells] at C;clear he hn hnm hcc h hk;go_in;go_wp2_with fail;obtain⟨B0,B1,B2,hb0,hs0⟩:=K5 w (.cells #[m,i,e,c] 29) (.cells #[.int .i64 ck, .int .i64 ce, .int .i64 ca, .int .i64 cb, .int .i64 cc, .string nm] 44) (.cells #[.slice none 0 0, .slice none 0 0, .slice none 0 0, .slice none 0 0] 29);generalize((w.alloc _).alloc _).alloc _=W0 at*;refine(PY m i e c k W0 (HR.out.below hb0) HK.out).mono ?_;rintro r w1 ⟨m1,i1,e1,c1,rfl,O1,b1⟩;have hs1:=b1.size;obtain⟨⟨ma,mn,mc,rfl⟩,⟨ia,iN,ic,rfl⟩,⟨ea,en,ec,rfl⟩,⟨qa,qn,qc,rfl⟩⟩:=O1.shapes;have N3:=heap_alloc_new w1 (.cells #[.slice ma mn mc, .slice ia iN ic, .slice ea en ec, .slice qa qn qc] 29);have b2:=AG w1 (.cells #[.slice ma mn mc, .slice ia iN ic, .slice ea en ec, .slice qa qn qc] 29);obtain⟨y0,y1,y2,y3,y4,y5⟩:=Mk (AF (AF B1 b1) b2);have hI:=AA (show IH W0.heap.size _ w1.heap.size _ _ _ _ k from⟨N3,hs1,O1.below b2⟩);have hb1:=AA (b1.trans (b2.mono hs1));clear N3 O1 b1 b2 B1;go_wp2_with fail;refine(C.out _ _ _ _ _ _ _ hI.out (by have:=hb1.out.size;omega)).mono ?_;rintro r w3 ⟨rfl,hk3,b3⟩;have hb3:=hb1.out.trans b3;have hlt:w.heap.size+1+1<W0.heap.size:=by omega
 have B0':=(hb3.block _ (by omega)).trans B0;have B2':=(hb3.block _ (by omega)).trans B2;have HW3:=AA (hb0.trans (hb3.mono hb0.size));clear y0 y1 y2 y3 y4 y5 hI hb1 b3 B0 B2 C
 by_cases h0:nr=0
 ·subst h0
  have t0:((0:Int)==0)=true:=rfl;obtain⟨m',i',e',c',hI3⟩:=hk3 rfl;obtain⟨⟨ma',mn',mc',rfl⟩,⟨ia',iN',ic',rfl⟩,⟨ea',en',ec',rfl⟩,⟨qa',qn',qc',rfl⟩⟩:=hI3.2.2.shapes;obtain⟨x0,x1,x2,x3⟩:=hI3.cells;have hfz:=AM B2';obtain⟨z0,z1,z2,z3⟩:=AB B2';obtain⟨E0,E1,E2,E3⟩:=IB (m':= .slice ma' mn' mc') (i':= .slice ia' iN' ic') (e':= .slice ea' en' ec') (c':= .slice qa' qn' qc') B2';have HE:=AA (And.intro E0 (And.intro E1 (And.intro E2 E3)));have hgr:=BM w3 (w.heap.size+1+1) (.slice ma' mn' mc') (.slice ia' iN' ic') (.slice ea' en' ec') (.slice qa' qn' qc');have HR4:=AA (show Cz w.heap.size _ (.slice ma' mn' mc') (.slice ia' iN' ic') (.slice ea' en' ec') (.slice qa' qn' qc') kr from(hI3.2.2.far hgr B2' (by decide) (by decide) (by decide) (by decide) (by decide) (by decide)).lower hb0.size);have HB4:=AA (AT HW3.out hgr (by omega) HW3.out.size);clear E0 E1 E2 E3 hI3 hk3 hgr B0' B2' HN hb3;go_wp2_with fail;obtain⟨E0,E1,E2,E3⟩:=HE.out;exact bodyPost_ret (v:= .tuple #[.agg #[_,_,_,_],_,_]) (by simp[results,Tryz.results72,go_sem,E0,E1,E2,E3]) rfl ⟨_,_,_,_,rfl,HR4.out,HB4.out⟩
 ·have t0:(nr==0)=false:=by simp[h0]
  have hN:=HN.out h0;simp only[Prod.mk.injEq,and_true] at hN;obtain⟨rfl,rfl⟩:=hN;obtain⟨x0,x1,x2,x3⟩:=AB B0';clear hk3;go_wp2_with fail;refine(PY m i e c kr w3 (HR.out.below HW3.out) HK.out).mono ?_;rintro r w4 ⟨m4,i4,e4,c4,rfl,O4,b4⟩;have B4:=AF B2' b4;have hfz:=AM B4;obtain⟨z0,z1,z2,z3⟩:=AB B4;obtain⟨E0,E1,E2,E3⟩:=IB (m':=m4) (i':=i4) (e':=e4) (c':=c4) B4;have HE:=AA (And.intro E0 (And.intro E1 (And.intro E2 E3)));have hgr:=BM w4 (w.heap.size+1+1) m4 i4 e4 c4;have HR4:=AA (show Cz w.heap.size _ m4 i4 e4 c4 kr from(O4.far hgr B4 (by decide) (by decide) (by decide) (by decide) (by decide) (by decide)).lower HW3.out.size);have HB4:=AA (AT (HW3.out.trans (b4.mono HW3.out.size)) hgr (by omega) (by have:=HW3.out.size;have:=b4.size;omega));obtain⟨⟨_,_,_,rfl⟩,⟨_,_,_,rfl⟩,⟨_,_,_,rfl⟩,⟨_,_,_,rfl⟩⟩:=O4.shapes;clear E0 E1 E2 E3 O4 b4 B4 hgr B0' B2' x0 x1 x2 x3;go_wp2_with fail;obtain⟨E0,E1,E2,E3⟩:=HE.out;exact bodyPost_ret (v:= .tuple #[.agg #[_,_,_,_],_,_]) (by simp[results,Tryz.results72,go_sem,E0,E1,E2,E3]) rfl ⟨_,_,_,_,rfl,HR4.out,HB4.out⟩
def Qz (w:World) (m i e c s l q:Value) (P:BO):Prop:=Mb w m i e c P.kern∧BJ w s P.swap∧Ap w l P.low∧A3 3 Dg w q P.pages
structure JN (lo:Nat) (w:World) (m i e c s l q:Value) (P:BO):Prop where
 ker:Cz lo w m i e c P.kern
 swp:∃vs,Ah lo w s vs P.swap
 low:AE lo w l P.low
 pgs:AJ lo 127 3 Dg w q P.pages
 apart:Fa m s
structure Py (lo g:Nat) (w:World) (m i e c s l q:Value) (P:BO):Prop where
 blk:w.heap[g]? =some (.cells #[m,i,e,c,s,l,q, .int .i64 P.hand, .int .i64 P.limit] 33 (0,0))
 glo:lo≤g
 own:JN lo w m i e c s l q P
section
variable {lo g:Nat} {w w':World} {m i e c s l q:Value} {P:BO}
theorem Qz.below (h:Qz w m i e c s l q P) (hb:Below w.heap.size w w'):Qz w' m i e c s l q P:=⟨h.1.below hb,h.2.1.below hb,h.2.2.1.below hb,A3.below h.2.2.2 hb⟩
theorem JN.rd (h:JN lo w m i e c s l q P):Qz w m i e c s l q P:=⟨h.ker.rd,h.swp.choose_spec.rd,h.low.rd,h.pgs.rd⟩
theorem JN.below (h:JN lo w m i e c s l q P) (hb:Below w.heap.size w w'):JN lo w' m i e c s l q P:=⟨h.ker.below hb,⟨_,h.swp.choose_spec.below hb⟩,h.low.below hb,h.pgs.below hb,h.apart⟩
theorem JN.lower {lo':Nat} (h:JN lo w m i e c s l q P) (hl:lo'≤lo):JN lo' w m i e c s l q P:=⟨h.ker.lower hl,⟨_,h.swp.choose_spec.lower hl⟩,BQ h.low hl,BQ h.pgs hl,h.apart⟩
theorem JN.far {g T:Nat} {cs:Array Value} {fr:Nat×Nat} (h:JN lo w m i e c s l q P) (hg:w.grownBy w' (some g)) (hB:w.heap[g]? =some (.cells cs T fr))
 (h1:30≠T) (h2:3≠T) (h3:135≠T) (h4:85≠T) (h5:9≠T) (h6:140≠T) (h7:127≠T):JN lo w' m i e c s l q P:=
 ⟨h.ker.far hg hB h1 h2 h3 h4 h5 h6,⟨_,h.swp.choose_spec.far hg hB h1 h2⟩,Ek h.low hg hB h2,h.pgs.far hg hB h7,h.apart⟩
theorem Py.below (h:Py lo g w m i e c s l q P) (hb:Below w.heap.size w w'):Py lo g w' m i e c s l q P:=⟨AF h.blk hb,h.glo,h.own.below hb⟩
theorem Ad {t:Nat} {a0 a1 a2 a3 a4 a5 a6 a7 a8:Value} (h:w.heap[g]? =some (.cells #[a0,a1,a2,a3,a4,a5,a6,a7,a8] t (0,0))):
 w.cell? ⟨g,0,none⟩=some a0∧w.cell? ⟨g,1,none⟩=some a1∧w.cell? ⟨g,2,none⟩=some a2∧w.cell? ⟨g,3,none⟩=some a3∧w.cell? ⟨g,4,none⟩=some a4∧w.cell? ⟨g,5,none⟩=some a5∧w.cell? ⟨g,6,none⟩=some a6∧w.cell? ⟨g,7,none⟩=some a7∧w.cell? ⟨g,8,none⟩=some a8:=
 ⟨cell_of_row w g 0 _ _ _ h,cell_of_row w g 1 _ _ _ h,cell_of_row w g 2 _ _ _ h,cell_of_row w g 3 _ _ _ h,cell_of_row w g 4 _ _ _ h,cell_of_row w g 5 _ _ _ h,cell_of_row w g 6 _ _ _ h,cell_of_row w g 7 _ _ _ h,cell_of_row w g 8 _ _ _ h⟩
theorem Py.cells (h:Py lo g w m i e c s l q P):w.cell? ⟨g,0,none⟩=some m∧w.cell? ⟨g,1,none⟩=some i∧w.cell? ⟨g,2,none⟩=some e∧w.cell? ⟨g,3,none⟩=some c∧w.cell? ⟨g,4,none⟩=some s∧w.cell? ⟨g,5,none⟩=some l∧w.cell? ⟨g,6,none⟩=some q∧w.cell? ⟨g,7,none⟩=some (.int .i64 P.hand)∧w.cell? ⟨g,8,none⟩=some (.int .i64 P.limit):=Ad h.blk
theorem Ml {t:Nat} {a0 a1 a2 a3 a4 a5 a6 a7 a8 m' i' e' c':Value} (h:w.heap[g]? =some (.cells #[a0,a1,a2,a3,a4,a5,a6,a7,a8] t (0,0))):
 ((((w.setCell ⟨g,0,none⟩ m').setCell ⟨g,1,none⟩ i').setCell ⟨g,2,none⟩ e').setCell ⟨g,3,none⟩ c').heap[g]? =some (.cells #[m',i',e',c',a4,a5,a6,a7,a8] t (0,0)):=by
 have h0:=heap_setCell_same w g 0 _ t m' h;have h1:=heap_setCell_same _ g 1 _ t i' h0;have h2:=heap_setCell_same _ g 2 _ t e' h1;have h3:=heap_setCell_same _ g 3 _ t c' h2;simpa using h3
theorem Py.put {m' i' e' c':Value} {k':AN} {B:Nat} {w1:World} (h:Py lo g w m i e c s l q P) (hb:Below w.heap.size w w1) (hB:w.heap.size≤B) (hlo:lo≤w.heap.size) (O:Cz B w1 m' i' e' c' k'):
 Py lo g ((((w1.setCell ⟨g,0,none⟩ m').setCell ⟨g,1,none⟩ i').setCell ⟨g,2,none⟩ e').setCell ⟨g,3,none⟩ c') m' i' e' c' s l q {P with kern:=k'}:=by
 have h':=h.below hb;have hgr:=BM w1 g m' i' e' c';have O':=O.far hgr h'.blk (by decide) (by decide) (by decide) (by decide) (by decide) (by decide);have F:=h'.own.far hgr h'.blk (by decide) (by decide) (by decide) (by decide) (by decide) (by decide) (by decide);refine⟨Ml h'.blk,h.glo,⟨O'.lower (Nat.le_trans hlo hB),F.swp,F.low,F.pgs,fun b hb1 hb2=>?_⟩⟩;obtain⟨vs,r1⟩:=O.1;obtain⟨us,r2⟩:=h.own.swp;have:=(World.ownsRow.lt r1.1 b hb1).1;have:=(World.ownsRow.lt r2.1 b hb2).2;omega
end
def KN (lo:Nat) (b:Bool) (v:Value) (w:World) (k:AN):Prop:=∃q,v= .pointer (some ⟨q,0,none⟩)∧lo≤q∧if b=true then ∃m i e c,w.heap[q]? =some (.cells #[m,i,e,c] 29 (0,0))∧Cz lo w m i e c k else w.heap[q]? =some (.cells #[.slice none 0 0, .slice none 0 0, .slice none 0 0, .slice none 0 0] 29 (0,0))
theorem KN.below {lo:Nat} {b:Bool} {v:Value} {w w':World} {k:AN} (h:KN lo b v w k) (hb:Below w.heap.size w w'):KN lo b v w' k:=by
 obtain⟨q,h0,h1,h2⟩:=h;refine⟨q,h0,h1,?_⟩;cases b
 ·exact AF h2 hb
 ·obtain⟨m,i,e,c,h3,h4⟩:=h2
  exact⟨m,i,e,c,AF h3 hb,h4.below hb⟩
def J2 (lo:Nat) (v:Value) (w:World) (k:AN) (x y:Int):Prop:=∃m i e c,v= .tuple #[.agg #[m,i,e,c], .int .i64 x, .int .i64 y]∧Cz lo w m i e c k
def Is (lo:Nat) (v:Value) (w:World) (k:AN):Prop:=∃m i e c,v= .agg #[m,i,e,c]∧Cz lo w m i e c k
theorem J2.below {lo:Nat} {v:Value} {w w':World} {k:AN} {x y:Int} (h:J2 lo v w k x y) (hb:Below w.heap.size w w'):J2 lo v w' k x y:=by obtain⟨m,i,e,c,h1,h2⟩:=h;exact⟨m,i,e,c,h1,h2.below hb⟩
theorem Is.below {lo:Nat} {v:Value} {w w':World} {k:AN} (h:Is lo v w k) (hb:Below w.heap.size w w'):Is lo v w' k:=by obtain⟨m,i,e,c,h1,h2⟩:=h;exact⟨m,i,e,c,h1,h2.below hb⟩
theorem J2.far {lo g:Nat} {v:Value} {w w':World} {k:AN} {x y:Int} {cs:Array Value} {fr:Nat×Nat} (h:J2 lo v w k x y) (hg:w.grownBy w' (some g)) (hB:w.heap[g]? =some (.cells cs 29 fr)):J2 lo v w' k x y:=by obtain⟨m,i,e,c,h1,h2⟩:=h;exact⟨m,i,e,c,h1,h2.far hg hB (by decide) (by decide) (by decide) (by decide) (by decide) (by decide)⟩
theorem Is.far {lo g:Nat} {v:Value} {w w':World} {k:AN} {cs:Array Value} {fr:Nat×Nat} (h:Is lo v w k) (hg:w.grownBy w' (some g)) (hB:w.heap[g]? =some (.cells cs 29 fr)):Is lo v w' k:=by obtain⟨m,i,e,c,h1,h2⟩:=h;exact⟨m,i,e,c,h1,h2.far hg hB (by decide) (by decide) (by decide) (by decide) (by decide) (by decide)⟩
def Vu (lo g:Nat) (w:World) (s l q:Value) (P:BO) (call:AR) (r:Ending) (w':World):Prop:=
 r= .returned (.int .i64 (AU P.kern call).2.1)∧(∃m i e c,Py lo g w' m i e c s l q {P with kern:=(AU P.kern call).1}∧Cz w.heap.size w' m i e c (AU P.kern call).1)∧Below lo w w'∧w.grownBy w' (some g)
theorem Tm {lo g:Nat} {w:World} {mv iv ev cv sv lv qv:Value} {P:BO} (h:Py lo g w mv iv ev cv sv lv qv P) (hlo:lo≤w.heap.size) (hK:De P.kern) (call:AR) (he:0≤call.e) (hn:call.e<3) (hnm:call.nm.size≤maxLen) (hcc:call.c≤9223372036854775807):
 Calls prog 41 #[.pointer (some ⟨g,0,none⟩), .agg #[.int .i64 call.k, .int .i64 call.e, .int .i64 call.a, .int .i64 call.b, .int .i64 call.c, .string call.nm]] w (Vu lo g w sv lv qv P call):=by
 have b0:=AG w (.cells #[.int .i64 call.k, .int .i64 call.e, .int .i64 call.a, .int .i64 call.b, .int .i64 call.c, .string call.nm] 44);have N0:=heap_alloc_new w (.cells #[.int .i64 call.k, .int .i64 call.e, .int .i64 call.a, .int .i64 call.b, .int .i64 call.c, .string call.nm] 44);have CC:=fun W (hW:Below (w.alloc (.cells #[.int .i64 call.k, .int .i64 call.e, .int .i64 call.a, .int .i64 call.b, .int .i64 call.c, .string call.nm] 44)).heap.size (w.alloc (.cells #[.int .i64 call.k, .int .i64 call.e, .int .i64 call.a, .int .i64 call.b, .int .i64 call.c, .string call.nm] 44)) W)=>RH mv iv ev cv P.kern call W ((h.own.ker.rd.below b0).below hW) hK he hn hnm hcc
 unfold Vu;have HI:=AA (h.below b0);have Hb:=AA (b0.mono hlo);have hl0:w.heap.size<(w.alloc (.cells #[.int .i64 call.k, .int .i64 call.e, .int .i64 call.a, .int .i64 call.b, .int .i64 call.c, .string call.nm] 44)).heap.size:=by simp
 generalize AU P.kern call=res at CC ⊢;obtain⟨kr,vr,nr⟩:=res;obtain⟨ck,ce,ca,cb,cc,nm⟩:=call;dsimp only at*;go_in;go_wp2_with fail;generalize w.alloc _=W0 at*;obtain⟨x0,x1,x2,x3,_⟩:=HI.out.cells;obtain⟨y0,y1,y2,y3,y4,y5⟩:=Mk N0;have hgl:=Ao HI.out.blk;have CC:=AA CC;clear N0;refine Bs 14 mixed 23 rfl (by kernel_rfl) rfl (fun ix=>ix==11) (fun ll ix vv ww=>match ix with
  |0=>vv= .pointer (some ⟨g,0,none⟩)
  |1=>vv= .pointer (some ⟨g,0,none⟩)
  |2=>vv= .pointer (some ⟨g,0,none⟩)
  |3=>vv= .agg #[mv,iv,ev,cv]
  |4=>vv= .agg #[.int .i64 ck, .int .i64 ce, .int .i64 ca, .int .i64 cb, .int .i64 cc, .string nm]
  |5=>J2 W0.heap.size vv ww kr vr nr
  |6=>J2 W0.heap.size vv ww kr vr nr
  |7=>Is W0.heap.size vv ww kr
  |8=>vv= .int .i64 vr
  |9=>vv= .int .i64 nr
  |10=>KN W0.heap.size (ll 11) vv ww kr
  |11=>True
  |12=>vv= .int .i64 vr
  |13=>vv= .int .i64 nr
  |_=>True) (fun ll ww=>Below W0.heap.size W0 ww) ?_ ?_ ?_ ?_ ?_ ?_
 ·exact Ar (Below.refl _ _) 1
 ·intro j hj ll i vv wz ww' hi hS hLi hLj hbz hz
  match j,hj with
  |0,_|1,_|2,_|3,_|4,_=>exact hz
  |5,_=>exact(J2.below hz hbz)
  |6,_=>exact(J2.below hz hbz)
  |7,_=>exact(Is.below hz hbz)
  |8,_|9,_=>exact hz
  |10,_=>exact(KN.below (by rw[En (by rintro rfl;cases hS)];exact hz) hbz)
  |11,_|12,_|13,_=>exact hz
 ·intro ll i wz ww' hi hS hLi hbz hg
  exact hg.trans (hbz.mono hg.size)
 ·intro i hi hS o ho a wx Hb ll Hd HL hG K HK
  match i,hi,hS with
  |0,_,_=>obtain rfl:=So_ ho;exact eM ho HK (eb (Aj Hb 0))
  |1,_,_=>obtain rfl:=So_ ho;exact eC ho HK (et (Be Hd HL 0))
  |2,_,_=>obtain rfl:=So_ ho;exact eF ho HK PJ (et (Be Hd HL 1))
  |3,_,_=>obtain rfl:=So_ ho;exact eL ho HK (et (Be Hd HL 2)) (PV (bc hG hgl x0) (bc hG hgl x1) (bc hG hgl x2) (bc hG hgl x3))
  |4,_,_=>obtain rfl:=So_ ho;exact eL ho HK (eb (Aj Hb 3)) (Vx (bc hG hl0 y0) (bc hG hl0 y1) (bc hG hl0 y2) (bc hG hl0 y3) (bc hG hl0 y4) (bc hG hl0 y5))
  |5,_,_=>
   obtain rfl:=So_ ho;have d3:(a.tmps[12]?.getD undef)= .agg #[mv,iv,ev,cv]:=Be Hd HL 3;have d4:(a.tmps[13]?.getD undef)= .agg #[.int .i64 ck, .int .i64 ce, .int .i64 ca, .int .i64 cb, .int .i64 cc, .string nm]:=Be Hd HL 4;have u11:ll 11=false:=by
    cases hx:ll 11
    ·rfl
    ·exact absurd (HL.out.2.2 11 5 hx (by kernel_rfl)) (by rw[HL.out.1];decide)
   clear Hd Hb;refine AI.of rfl ?_;go_simp;refine(CC.out _ hG).mono ?_;rintro r w_ ⟨m',i',e',c',rfl,hO,hb2⟩;exact HK.out _ _ ⟨m',i',e',c',rfl,hO.lower hG.size⟩ hb2
  |6,_,_=>
   obtain rfl:=So_ ho;have d5:J2 W0.heap.size (a.tmps[14]?.getD undef) wx kr vr nr:=Be Hd HL 5;have u11:ll 11=false:=by
    cases hx:ll 11
    ·rfl
    ·exact absurd (HL.out.2.2 11 6 hx (by kernel_rfl)) (by rw[HL.out.1];decide)
   clear Hd Hb;refine AI.of rfl ?_;go_simp;exact HK.out _ _ d5 (Below.refl _ _)
  |7,_,_=>
   obtain rfl:=So_ ho;have d6:J2 W0.heap.size (a.tmps[8]?.getD undef) wx kr vr nr:=Be Hd HL 6;have u11:ll 11=false:=by
    cases hx:ll 11
    ·rfl
    ·exact absurd (HL.out.2.2 11 7 hx (by kernel_rfl)) (by rw[HL.out.1];decide)
   clear Hd Hb;obtain⟨m',i',e',c',d6,hO⟩:=d6;refine AI.of rfl ?_;go_simp;exact HK.out _ _ ⟨_,_,_,_,rfl,hO⟩ (Below.refl _ _)
  |8,_,_=>obtain rfl:=So_ ho;have d6:J2 W0.heap.size (a.tmps[8]?.getD undef) wx kr vr nr:=Be Hd HL 6;clear Hd Hb;obtain⟨m',i',e',c',d6,hO⟩:=d6;refine AI.of rfl ?_;go_simp;exact HK.out _ _ rfl (Below.refl _ _)
  |9,_,_=>obtain rfl:=So_ ho;have d6:J2 W0.heap.size (a.tmps[8]?.getD undef) wx kr vr nr:=Be Hd HL 6;clear Hd Hb;obtain⟨m',i',e',c',d6,hO⟩:=d6;refine AI.of rfl ?_;go_simp;exact HK.out _ _ rfl (Below.refl _ _)
  |10,_,_=>
   obtain rfl:=So_ ho;have u11:ll 11=false:=by
    cases hx:ll 11
    ·rfl
    ·exact absurd (HL.out.2.2 11 10 hx (by kernel_rfl)) (by rw[HL.out.1];decide)
   clear Hd Hb;refine AI.of rfl ?_;go_simp;exact HK.out _ _ ⟨_,rfl,hG.size,by rw[En (by decide),u11];exact heap_alloc_new _ _⟩ (AG _ _)
  |11,_,hs=>exact absurd hs (by decide)
  |12,_,_=>obtain rfl:=So_ ho;exact eA ho HK (et (Be Hd HL 8))
  |13,_,_=>obtain rfl:=So_ ho;exact eA ho HK (et (Be Hd HL 9))
 ·intro i hi hS o ho a wx Hb ll Hd HL hG K HK
  match i,hi,hS with
  |0,_,hs|1,_,hs|2,_,hs|3,_,hs|4,_,hs|5,_,hs|6,_,hs|7,_,hs|8,_,hs|9,_,hs|10,_,hs=>exact absurd hs (by decide)
  |11,_,_=>
   obtain rfl:=So_ ho;have d10:KN W0.heap.size (ll 11) (a.tmps[5]?.getD undef) wx kr:=Be Hd HL 10;have d7:Is W0.heap.size (a.tmps[15]?.getD undef) wx kr:=Be Hd HL 7;clear Hd Hb;obtain⟨qb,e10,hq1,hq2⟩:=d10;rw[HL.out.1] at hq2;replace hq2:wx.heap[qb]? =some (.cells #[.slice none 0 0, .slice none 0 0, .slice none 0 0, .slice none 0 0] 29 (0,0)):=hq2;obtain⟨m',i',e',c',d7,hO⟩:=d7;obtain⟨⟨va,vn,vc,rfl⟩,⟨wa,wn,wc,rfl⟩,⟨xa,xn,xc,rfl⟩,⟨ya,yn,yc,rfl⟩⟩:=hO.shapes;obtain⟨c0,c1_,c2,c3⟩:=AB hq2;have fq:=AM hq2;have hgr:=AA (BM wx qb (.slice va vn vc) (.slice wa wn wc) (.slice xa xn xc) (.slice ya yn yc));have E10:=AA e10;have Hq:=AA hq2;have HO:=AA hO;clear hq2 hO;refine AI.of rfl ?_;go_simp;exact HK.out undef _ trivial (AT hG hgr.out hq1 hG.size) (fun j hji hjn hjl hu=>match j,hjn with
    |0,_|1,_|2,_|3,_|4,_=>hu
    |5,_=>J2.far hu hgr.out Hq.out
    |6,_=>J2.far hu hgr.out Hq.out
    |7,_=>Is.far hu hgr.out Hq.out
    |8,_|9,_=>hu
    |10,_=>⟨qb,E10.out,hq1,by rw[FN];exact⟨_,_,_,_,DJ Hq.out,HO.out.far hgr.out Hq.out (by decide) (by decide) (by decide) (by decide) (by decide) (by decide)⟩⟩
    |11,_|12,_=>hu
    |13,_=>hu)
  |12,_,hs|13,_,hs=>exact absurd hs (by decide)
 ·intro vs wx ll hall hR hG
  have q10:KN W0.heap.size (ll 11) (vs 10) wx kr:=BI hR 10;have q12:(vs 12)= .int .i64 vr:=BI hR 12;clear hR;simp only[Dy,Bl,List.range,List.range.loop,List.foldl_cons,List.foldl_nil,q12];simp;generalize vs 10=z10 at q10 ⊢;clear q12;obtain⟨qb,rfl,hq1,hq2⟩:=q10;rw[hall 11 (by decide),if_pos rfl] at hq2;obtain⟨m',i',e',c',hqB,hO⟩:=hq2;clear hall;obtain⟨⟨ma,mn,mc,rfl⟩,⟨ia,iN,ic,rfl⟩,⟨ea,en,ec,rfl⟩,⟨qa,qn,qc,rfl⟩⟩:=hO.shapes;obtain⟨c0,c1_,c2,c3⟩:=AB hqB;have hIx:=HI.out.below hG;have fg:=AM hIx.blk;obtain⟨z0,z1,z2,z3,_⟩:=hIx.cells;have R:=AA (HI.out.put hG (Nat.le_refl _) (Nat.le_trans hlo (by omega)) hO);have R2:=AA ((hO.far (BM wx g (.slice ma mn mc) (.slice ia iN ic) (.slice ea en ec) (.slice qa qn qc)) hIx.blk (by decide) (by decide) (by decide) (by decide) (by decide) (by decide)).lower (Nat.le_of_lt hl0));have B:=AA (AT (Hb.out.trans (hG.mono (Nat.le_trans hlo (by omega)))) (BM wx g (.slice ma mn mc) (.slice ia iN ic) (.slice ea en ec) (.slice qa qn qc)) HI.out.glo (Nat.le_trans hlo (Nat.le_trans (by omega) hG.size)));have R3:=AA (EP ⟨b0.os,b0.tape,b0.output,b0.size,fun k hk _=>b0.block k hk⟩ (EP ⟨hG.os,hG.tape,hG.output,hG.size,fun k hk _=>hG.block k hk⟩ (BM wx g (.slice ma mn mc) (.slice ia iN ic) (.slice ea en ec) (.slice qa qn qc))));clear hIx hO hqB x0 x1 x2 x3 y0 y1 y2 y3 y4 y5;go_wp2_with fail;go_ret;exact⟨rfl,⟨_,_,_,_,R.out,R2.out⟩,B.out,R3.out⟩
def Q6 (k:AN):Prop:=HY k.infos∧∀j,j<k.envs.length→EB (AC k.envs j).rights
theorem LL (m i e c:Value) (k:AN) (w:World) (h:Mb w m i e c k) (hs:Q6 k):
 Calls prog 53 #[.agg #[m,i,e,c]] w fun e w'=>e= .returned (.bool (DU k))∧Below w.heap.size w w':=by
 obtain⟨h1,h2,h3,h4⟩:=h;have N0:=heap_alloc_new w (.cells #[m,i,e,c] 29);have hb0:=AG w (.cells #[m,i,e,c] 29);have hlt0:=Ao N0;replace h1:=h1.below hb0;replace h2:=h2.below hb0;replace h3:=h3.below hb0;replace h4:=h4.below hb0;have Hs:=AA hs;obtain⟨am,cm,rfl,_⟩:=h1.open;obtain⟨ai,ci,rfl,_,_⟩:=h2.shape;obtain⟨ae,ce,rfl,hce,hcem,HE0⟩:=h3.open;obtain⟨ac,cc,rfl,hcc,hccm⟩:=h4.shape;obtain⟨x0,x1,x2,x3⟩:=AB N0;go_in;go_wp2_with fail;generalize w.alloc _=W0 at*;have HB0:=AA hb0;have HN:=AA N0;have H1:=AA h1;have H2:=AA h2;have HE:=AA HE0;have H4:=AA h4;have Hl0:=AA hlt0;clear hs h3 HE0 h1 h2 h4 N0 hb0;have C1:=AA (fun W (hW:Below W0.heap.size W0 W)=>GJ _ k.mem W (H1.out.below hW));have C2:=AA (fun W (hW:Below W0.heap.size W0 W)=>Cl _ k.infos W (A3.below H2.out hW) Hs.out.1);have C3:=AA (fun W (hW:Below W0.heap.size W0 W)=>Gk _ k.cache W (A3.below H4.out hW));have hb:=Below.refl W0.heap.size W0;cases e1:Bg k.mem
 ·have S:=AA (Uj e1)
  have T:=AA e1;clear e1 x1 x2 x3;refine(C1.out _ hb).mono ?_;rintro e w1 ⟨rfl,hb1⟩;rw[T.out];go_wp2_with fail;go_ret;exact⟨AK S.out.symm,HB0.out.trans (hb1.mono HB0.out.size)⟩
 ·have T1:=AA e1
  clear e1 x0 x1 x2 x3 hlt0;refine(C1.out _ hb).mono ?_;rintro e w1 ⟨rfl,hb1⟩;rw[T1.out];replace hb:=hb1;clear hb1;have x1:=(AB (AF HN.out hb)).2.1;go_wp2_with fail;cases e2:A0 k.infos
  ·have S:=AA (Rh e2)
   have T:=AA e2;clear e2;refine(C2.out _ hb).mono ?_;rintro e w1 ⟨rfl,hb1⟩;rw[T.out];replace hb:=hb.trans (hb1.mono hb.size);go_wp2_with fail;go_ret;exact⟨AK S.out.symm,HB0.out.trans (hb.mono HB0.out.size)⟩
  ·have T2:=AA e2
   clear e2 x1;refine(C2.out _ hb).mono ?_;rintro e w1 ⟨rfl,hb1⟩;rw[T2.out];replace hb:=hb.trans (hb1.mono hb.size);clear hb1;have x3:=(AB (AF HN.out hb)).2.2.2;go_wp2_with fail;cases e3:Bc k.cache
   ·have S:=AA (Rg e3)
    have T:=AA e3;clear e3;refine(C3.out _ hb).mono ?_;rintro e w1 ⟨rfl,hb1⟩;rw[T.out];replace hb:=hb.trans (hb1.mono hb.size);go_wp2_with fail;go_ret;exact⟨AK S.out.symm,HB0.out.trans (hb.mono HB0.out.size)⟩
   ·have T3:=AA e3
    clear e3 x3;refine(C3.out _ hb).mono ?_;rintro e w1 ⟨rfl,hb1⟩;rw[T3.out];replace hb:=hb.trans (hb1.mono hb.size);clear hb1;have x0:=(AB (AF HN.out hb)).1;have x1:=(AB (AF HN.out hb)).2.1;have x2:=(AB (AF HN.out hb)).2.2.1
    by_cases e4:k.envs.length=3
    ·have T4:=AA e4
     have n4:((k.envs.length:Int) !=3)=false:=by simp;omega
     have hl12:=AA (At.1 T2.out).1;have C:=AA (fun W (hW:Below W0.heap.size W0 W)=>QE _ _ k.mem k.infos W (H1.out.below hW) T1.out (A3.below H2.out hW) hl12.out);clear e4;go_wp2_with fail;refine(C.out _ hb).mono ?_;rintro e w1 ⟨v',rfl,hO,hb1⟩;rw[←Tq] at hO;replace hO:=BQ hO hb.size;replace hb:=hb.trans (hb1.mono hb.size);clear hb1 x0 x1 x2;have x2:=(AB (AF HN.out hb)).2.2.1;obtain⟨gr,capr,rfl,hr1,hr2⟩:=Jx hO (by rw[Fi];omega);have hO0:Hid (AE W0.heap.size w1 (.slice (some ⟨gr,0,none⟩) 12 capr) (FG k 0)):=AA (by have:=hO;rw[Fi] at this;exact this);rw[Fi];clear hO hr2;go_wp2_with fail;have hb1:=AA hb;clear x2 hb n4;go_loopw [43] (fun i wr=>∃j:Nat,j≤k.envs.length∧i= .int .i64 j∧(∀j',j'<j→Fc k (AC k.envs j')=true)∧AE W0.heap.size wr (.slice (some ⟨gr,0,none⟩) 12 capr) (FG k j)∧Below W0.heap.size W0 wr) (fun i _=>k.envs.length - (intOf i).toNat)
     case atStart=>exact⟨0,Nat.zero_le _,rfl,fun j hj=>absurd hj (Nat.not_lt_zero _),hO0.out,hb1.out⟩
     case round=>
      obtain⟨j,hj,rfl,hpre,hO,hbel⟩:=hrel;have Hpre:=AA hpre;clear hpre
      by_cases hlt:j<k.envs.length
      ·obtain⟨b,off,ua,uc,rfl,hbl,D0,D1,RR⟩:=HE.out j hlt
       replace D0:=(hbel.cell (p:=⟨b,off+j*2,none⟩) hbl).trans D0;replace D1:=(hbel.cell (p:=⟨b,off+j*2+1,none⟩) hbl).trans D1;have N:=heap_alloc_new wr (.cells #[.slice ua (AC k.envs j).rights.length uc, .int .i64 (AC k.envs j).root] 85);have hbn:=AG wr (.cells #[.slice ua (AC k.envs j).rights.length uc, .int .i64 (AC k.envs j).root] 85);have HO:=AA (AE.below hO hbn);have hlz:(j:Int)<k.envs.length:=by omega
       have j3:j<3:=by have:=T4.out;omega
       have hjc:=AA hj;clear hO hj;go_wp2_with fail;generalize wr.alloc _=wa at*;have hba:=hbel.trans (hbn.mono hbel.size);have y0:wa.cell? ⟨wr.heap.size,0,none⟩=some (.slice ua (AC k.envs j).rights.length uc):=cell_of_row _ _ 0 _ _ _ N;have y1:wa.cell? ⟨wr.heap.size,1,none⟩=some (.int .i64 (AC k.envs j).root):=cell_of_row _ _ 1 _ _ _ N;have hl5:=Ao N;have hg0:=Nat.lt_of_lt_of_le Hl0.out hba.size;have x0:=(AB (AF HN.out hba)).1;have x1:=(AB (AF HN.out hba)).2.1;have HBA:=AA hba;have HR:=AA RR;clear D0 D1 N hbn hbel hba RR;have CR0:=fun W (hW:Below wa.heap.size wa W)=>Eb _ (AC k.envs j).rights W (A3.below (A3.below HR.out HBA.out) hW) (Hs.out.2 j hlt)
       cases e5:A2 (AC k.envs j).rights
       ·rw[e5] at CR0
        have CR:=AA CR0;have CF:=AA True.intro;have S:=AA (Ks hlt (show Fc k (AC k.envs j)=false by simp[Fc,e5]));clear CR0 e5;refine AH 35 mixed (by kernel_rfl) 170 rfl (by kernel_rfl) (fun ix vv ww=>match ix with
         |0=>vv= .pointer (some ⟨wr.heap.size,0,none⟩)
         |1=>vv= .slice ua (AC k.envs j).rights.length uc
         |2=>vv= .bool false
         |3=>vv= .bool true
         |4=>vv= .bool true
         |5|6|7|8|9|10|11|12|13|14|15|16|17|18|19|20|21|22|23=>vv=undef
         |24=>vv= .bool true
         |25=>vv= .bool true
         |26|27|28|29|30|31|32|33|34=>vv=undef
         |_=>True) ?_ ?_ ?_
        ·intro i hi vv wz ww' hbz hz
         match i,hi with
         |0,_|1,_|2,_|3,_|4,_|5,_|6,_|7,_|8,_|9,_|10,_|11,_|12,_|13,_|14,_|15,_|16,_|17,_|18,_|19,_|20,_|21,_|22,_|23,_|24,_|25,_|26,_|27,_|28,_|29,_|30,_|31,_|32,_|33,_|34,_=>exact hz
         |_+35,hq=>exact absurd hq (by omega)
        ·intro i hi o ho a wx Hb Hd hG K HK
         match i,hi with
         |0,_=>exact eF ho HK EV (eb (Aj Hb 5))
         |1,_=>exact eL ho HK (et (AD Hd 0)) (Ie (bc hG hl5 y0))
         |2,_=>obtain rfl:=So_ ho;have d1:(a.tmps[48]?.getD undef)= .slice ua (AC k.envs j).rights.length uc:=AD Hd 1;clear Hd Hb;refine AI.of rfl ?_;go_simp;refine(CR.out _ hG).mono ?_;rintro e w_ ⟨rfl,hb2⟩;exact HK.out _ _ rfl hb2
         |3,_=>exact eN ho HK (et (AD Hd 2))
         |4,_=>exact eM ho HK (et (AD Hd 3))
         |5,_|6,_|7,_|8,_=>exact eB ho HK (AD Hd 4)
         |9,_=>obtain rfl:=So_ ho;have d8:(a.tmps[55]?.getD undef)=undef:=AD Hd 8;clear Hd Hb;exact AI.un rfl rfl d8 (HK.out _ _ rfl (Below.refl _ _))
         |10,_=>obtain rfl:=So_ ho;have d8:(a.tmps[55]?.getD undef)=undef:=AD Hd 8;clear Hd Hb;exact AI.un rfl rfl d8 (HK.out _ _ rfl (Below.refl _ _))
         |11,_=>obtain rfl:=So_ ho;have d8:(a.tmps[55]?.getD undef)=undef:=AD Hd 8;clear Hd Hb;exact AI.un rfl rfl d8 (HK.out _ _ rfl (Below.refl _ _))
         |12,_=>obtain rfl:=So_ ho;have d8:(a.tmps[55]?.getD undef)=undef:=AD Hd 8;clear Hd Hb;exact AI.un rfl rfl d8 (HK.out _ _ rfl (Below.refl _ _))
         |13,_=>obtain rfl:=So_ ho;have d8:(a.tmps[55]?.getD undef)=undef:=AD Hd 8;clear Hd Hb;exact AI.un rfl rfl d8 (HK.out _ _ rfl (Below.refl _ _))
         |14,_=>obtain rfl:=So_ ho;have d13:(a.tmps[60]?.getD undef)=undef:=AD Hd 13;clear Hd Hb;exact AI.un rfl rfl d13 (HK.out _ _ rfl (Below.refl _ _))
         |15,_=>obtain rfl:=So_ ho;have d13:(a.tmps[60]?.getD undef)=undef:=AD Hd 13;clear Hd Hb;exact AI.un rfl rfl d13 (HK.out _ _ rfl (Below.refl _ _))
         |16,_=>obtain rfl:=So_ ho;have d13:(a.tmps[60]?.getD undef)=undef:=AD Hd 13;clear Hd Hb;exact AI.un rfl rfl d13 (HK.out _ _ rfl (Below.refl _ _))
         |17,_=>obtain rfl:=So_ ho;have d13:(a.tmps[60]?.getD undef)=undef:=AD Hd 13;clear Hd Hb;exact AI.un rfl rfl d13 (HK.out _ _ rfl (Below.refl _ _))
         |18,_=>obtain rfl:=So_ ho;have d13:(a.tmps[60]?.getD undef)=undef:=AD Hd 13;clear Hd Hb;exact AI.un rfl rfl d13 (HK.out _ _ rfl (Below.refl _ _))
         |19,_=>obtain rfl:=So_ ho;have d13:(a.tmps[60]?.getD undef)=undef:=AD Hd 13;clear Hd Hb;exact AI.un rfl rfl d13 (HK.out _ _ rfl (Below.refl _ _))
         |20,_=>obtain rfl:=So_ ho;have d13:(a.tmps[60]?.getD undef)=undef:=AD Hd 13;clear Hd Hb;exact AI.un rfl rfl d13 (HK.out _ _ rfl (Below.refl _ _))
         |21,_=>obtain rfl:=So_ ho;have d13:(a.tmps[60]?.getD undef)=undef:=AD Hd 13;clear Hd Hb;exact AI.un rfl rfl d13 (HK.out _ _ rfl (Below.refl _ _))
         |22,_=>obtain rfl:=So_ ho;have d8:(a.tmps[55]?.getD undef)=undef:=AD Hd 8;clear Hd Hb;exact AI.un rfl rfl d8 (HK.out _ _ rfl (Below.refl _ _))
         |23,_=>exact eB ho HK (AD Hd 4)
         |24,_=>exact eT ho HK (et (AD Hd 4)) rfl
         |25,_=>exact eM ho HK (et (AD Hd 24))
         |26,_|27,_|28,_|29,_|30,_|31,_|32,_|33,_|34,_=>exact eB ho HK (AD Hd 25)
         |_+35,hq=>exact absurd hq (by omega)
        ·intro vs wx hR hG
         have q25:(vs 25)= .bool true:=BI hR 25;have q34:(vs 34)=undef:=BI hR 34;clear hR;simp only[Ai,AX,List.range,List.range.loop,List.foldl_cons,List.foldl_nil,q25,q34];simp;clear q25 q34;have hbG:=HBA.out.trans (hG.mono HBA.out.size);clear hG;go_wp2_with fail;go_ret;exact⟨AK S.out.symm,HB0.out.trans (hbG.mono HB0.out.size)⟩
       ·rw[e5] at CR0
        have CR:=AA CR0;have E5:=AA e5;clear CR0 e5
        by_cases e6:(AC k.envs j).root= -1
        ·have E6:=AA e6
         have t6:((AC k.envs j).root != -1)=false:=by simp[e6]
         rw[e6] at y1;have t6':((-1:Int) != -1)=false:=rfl;have CF:=AA True.intro;have CX:=AA (fun W (hW:Below wa.heap.size wa W)=>Ly _ k.mem (-1) W ((H1.out.below HBA.out).below hW) (by omega));have x1':=x1;have CA:=AA (fun W (hW:Below wa.heap.size wa W) v2 ts (h2:Ap W v2 (Ak ts)) (hm:∀g,g∈ts↔g∈Az k.mem (-1))=>FH w.heap.size _ v2 _ (AC k.envs j).rights ts k.infos W ((hW.cell (p:=⟨w.heap.size,1,none⟩) hg0).trans x1') (A3.below (A3.below HR.out HBA.out) hW) (A3.below (A3.below H2.out HBA.out) hW) h2 (fun f hf=>by have:=(DN.1 ((hm f).1 hf)).1;omega));clear x1' e6;replace CA:=AA (fun W (hW:Below wa.heap.size wa W) v2 ts (h2:Ap W v2 (Ak ts)) (hm:∀g,g∈ts↔g∈Az k.mem (-1))=>by have:=CA.out W hW v2 ts h2 hm;rw[Ds hm] at this;exact this);have hbb:Hid (Aq k.infos (Az k.mem (-1)) (AC k.envs j).rights=true):=AA (by simp[Aq,Az]);rw[hbb.out] at CA;have S:=AA (show Fc k (AC k.envs j)=true by simp only[Fc,E5.out,E6.out,hbb.out];rfl);have L:=AA (VY hlt (show(AC k.envs j).root<0 by rw[E6.out];omega));clear hbb;refine AH 35 mixed (by kernel_rfl) 170 rfl (by kernel_rfl) (fun ix vv ww=>match ix with
          |0=>vv= .pointer (some ⟨wr.heap.size,0,none⟩)
          |1=>vv= .slice ua (AC k.envs j).rights.length uc
          |2=>vv= .bool true
          |3=>vv= .bool false
          |4=>vv= .bool false
          |5=>vv= .pointer (some ⟨wr.heap.size,1,none⟩)
          |6=>vv= .int .i64 (-1)
          |7=>vv= .bool false
          |8=>vv= .bool false
          |9|10|11|12|13|14|15|16|17|18|19|20|21|22=>vv=undef
          |23=>vv= .bool false
          |24=>vv= .bool false
          |25=>vv= .bool false
          |26=>vv= .pointer (some ⟨wr.heap.size,0,none⟩)
          |27=>vv= .slice ua (AC k.envs j).rights.length uc
          |28=>vv= .pointer (some ⟨w.heap.size,0,none⟩)
          |29=>vv= .slice am k.mem.length cm
          |30=>vv= .pointer (some ⟨wr.heap.size,1,none⟩)
          |31=>vv= .int .i64 (-1)
          |32=>Bt wa.heap.size k.mem (-1) ww vv
          |33=>vv= .bool true
          |34=>vv= .bool false
          |_=>True) ?_ ?_ ?_
         ·intro i hi vv wz ww' hbz hz
          match i,hi with
          |0,_|1,_|2,_|3,_|4,_|5,_|6,_|7,_|8,_|9,_|10,_|11,_|12,_|13,_|14,_|15,_|16,_|17,_|18,_|19,_|20,_|21,_|22,_|23,_|24,_|25,_|26,_|27,_|28,_|29,_|30,_|31,_=>exact hz
          |32,_=>exact(Bt.below hz hbz)
          |33,_|34,_=>exact hz
          |_+35,hq=>exact absurd hq (by omega)
         ·intro i hi o ho a wx Hb Hd hG K HK
          match i,hi with
          |0,_=>exact eF ho HK EV (eb (Aj Hb 5))
          |1,_=>exact eL ho HK (et (AD Hd 0)) (Ie (bc hG hl5 y0))
          |2,_=>obtain rfl:=So_ ho;have d1:(a.tmps[48]?.getD undef)= .slice ua (AC k.envs j).rights.length uc:=AD Hd 1;clear Hd Hb;refine AI.of rfl ?_;go_simp;refine(CR.out _ hG).mono ?_;rintro e w_ ⟨rfl,hb2⟩;exact HK.out _ _ rfl hb2
          |3,_=>exact eN ho HK (et (AD Hd 2))
          |4,_=>exact eM ho HK (et (AD Hd 3))
          |5,_=>exact eF ho HK Ez (eb (Aj Hb 5)) (hw:=gy rfl rfl (AD Hd 4))
          |6,_=>exact eL ho HK (et (AD Hd 5)) (DA (bc hG hl5 y1)) (hw:=gy rfl rfl (AD Hd 4))
          |7,_=>obtain rfl:=So_ ho;have d6:(a.tmps[53]?.getD undef)= .int .i64 (-1):=AD Hd 6;have d4:(a.tmps[51]?.getD undef)= .bool false:=AD Hd 4;clear Hd Hb;refine AI.yes rfl rfl d4 ?_;go_simp;exact HK.out _ _ rfl (Below.refl _ _)
          |8,_=>exact eM ho HK (et (AD Hd 7)) (hw:=gy rfl rfl (AD Hd 4))
          |9,_|10,_=>exact eB ho HK (AD Hd 8)
          |11,_=>obtain rfl:=So_ ho;have d8:(a.tmps[55]?.getD undef)= .bool false:=AD Hd 8;clear Hd Hb;exact AI.no rfl rfl d8 (HK.out _ _ rfl (Below.refl _ _))
          |12,_|13,_=>exact eB ho HK (AD Hd 8)
          |14,_=>obtain rfl:=So_ ho;have d13:(a.tmps[60]?.getD undef)=undef:=AD Hd 13;clear Hd Hb;exact AI.un rfl rfl d13 (HK.out _ _ rfl (Below.refl _ _))
          |15,_=>obtain rfl:=So_ ho;have d13:(a.tmps[60]?.getD undef)=undef:=AD Hd 13;clear Hd Hb;exact AI.un rfl rfl d13 (HK.out _ _ rfl (Below.refl _ _))
          |16,_=>obtain rfl:=So_ ho;have d13:(a.tmps[60]?.getD undef)=undef:=AD Hd 13;clear Hd Hb;exact AI.un rfl rfl d13 (HK.out _ _ rfl (Below.refl _ _))
          |17,_=>obtain rfl:=So_ ho;have d13:(a.tmps[60]?.getD undef)=undef:=AD Hd 13;clear Hd Hb;exact AI.un rfl rfl d13 (HK.out _ _ rfl (Below.refl _ _))
          |18,_=>obtain rfl:=So_ ho;have d13:(a.tmps[60]?.getD undef)=undef:=AD Hd 13;clear Hd Hb;exact AI.un rfl rfl d13 (HK.out _ _ rfl (Below.refl _ _))
          |19,_=>obtain rfl:=So_ ho;have d13:(a.tmps[60]?.getD undef)=undef:=AD Hd 13;clear Hd Hb;exact AI.un rfl rfl d13 (HK.out _ _ rfl (Below.refl _ _))
          |20,_=>obtain rfl:=So_ ho;have d13:(a.tmps[60]?.getD undef)=undef:=AD Hd 13;clear Hd Hb;exact AI.un rfl rfl d13 (HK.out _ _ rfl (Below.refl _ _))
          |21,_=>obtain rfl:=So_ ho;have d13:(a.tmps[60]?.getD undef)=undef:=AD Hd 13;clear Hd Hb;exact AI.un rfl rfl d13 (HK.out _ _ rfl (Below.refl _ _))
          |22,_=>exact eB ho HK (AD Hd 8)
          |23,_=>exact eE ho HK (et (AD Hd 8)) rfl (hw:=gy rfl rfl (AD Hd 4))
          |24,_=>exact eE ho HK (et (AD Hd 4)) (et (AD Hd 23))
          |25,_=>exact eM ho HK (et (AD Hd 24))
          |26,_=>exact eF ho HK EV (eb (Aj Hb 5)) (hw:=gy rfl rfl (AD Hd 25))
          |27,_=>exact eL ho HK (et (AD Hd 26)) (Ie (bc hG hl5 y0)) (hw:=gy rfl rfl (AD Hd 25))
          |28,_=>exact eF ho HK Ci (eb (Aj Hb 1)) (hw:=gy rfl rfl (AD Hd 25))
          |29,_=>exact eL ho HK (et (AD Hd 28)) (Fd (bc hG hg0 x0)) (hw:=gy rfl rfl (AD Hd 25))
          |30,_=>exact eF ho HK Ez (eb (Aj Hb 5)) (hw:=gy rfl rfl (AD Hd 25))
          |31,_=>exact eL ho HK (et (AD Hd 30)) (DA (bc hG hl5 y1)) (hw:=gy rfl rfl (AD Hd 25))
          |32,_=>obtain rfl:=So_ ho;have d29:(a.tmps[76]?.getD undef)= .slice am k.mem.length cm:=AD Hd 29;have d31:(a.tmps[78]?.getD undef)= .int .i64 (-1):=AD Hd 31;have d25:(a.tmps[72]?.getD undef)= .bool false:=AD Hd 25;clear Hd Hb;refine AI.yes rfl rfl d25 ?_;go_simp;refine(CX.out _ hG).mono ?_;rintro e w_ ⟨v',ts,rfl,hO,hmem,_,hb2⟩;exact HK.out _ _ ⟨ts,BQ hO hG.size,hmem⟩ hb2
          |33,_=>obtain rfl:=So_ ho;have e1:a.tmps[1]?.getD undef= .pointer (some ⟨w.heap.size,0,none⟩):=eg (Aj Hb 1);have d27:(a.tmps[74]?.getD undef)= .slice ua (AC k.envs j).rights.length uc:=AD Hd 27;have d32:Bt wa.heap.size k.mem (-1) wx (a.tmps[79]?.getD undef):=AD Hd 32;have d25:(a.tmps[72]?.getD undef)= .bool false:=AD Hd 25;clear Hd Hb;generalize e79:a.tmps[79]?.getD undef=v2 at d32;obtain⟨ts,hO,hmem⟩:=d32;have CAx:=CA.out wx hG v2 ts (AE.rd hO) hmem;refine AI.yes rfl rfl d25 ?_;go_simp;refine CAx.mono ?_;rintro e w_ ⟨rfl,hb2⟩;exact HK.out _ _ rfl hb2
          |34,_=>exact eN ho HK (et (AD Hd 33)) (hw:=gy rfl rfl (AD Hd 25))
          |_+35,hq=>exact absurd hq (by omega)
         ·intro vs wx hR hG
          have q25:(vs 25)= .bool false:=BI hR 25;have q34:(vs 34)= .bool false:=BI hR 34;clear hR;simp only[Ai,AX,List.range,List.range.loop,List.foldl_cons,List.foldl_nil,q25,q34];simp;clear q25 q34;have hbG:=HBA.out.trans (hG.mono HBA.out.size);replace y1:=(hG.cell (p:=⟨wr.heap.size,1,none⟩) hl5).trans y1;have HO2:=AA (AE.below HO.out hG);clear hG x0 x1 y0;go_wp2_with fail;go_roundw
          case rel=>exact⟨j+1,by omega,by go_num,Ay Hpre.out S.out,by rw[L.out];exact HO2.out,hbG⟩
          case measure=>simp[intOf];omega
        ·have t6:((AC k.envs j).root != -1)=true:=by simp[e6]
         have CF0:=fun W (_:Below wa.heap.size wa W)=>Ae (BT (AC k.envs j).root W)
         cases e7:Bk (AC k.envs j).root 0 11
         ·rw[e7] at CF0
          have CF:=AA CF0;have S:=AA (Ks hlt (show Fc k (AC k.envs j)=false by simp[Fc,e6,e7]));clear CF0 e6 e7;refine AH 35 mixed (by kernel_rfl) 170 rfl (by kernel_rfl) (fun ix vv ww=>match ix with
           |0=>vv= .pointer (some ⟨wr.heap.size,0,none⟩)
           |1=>vv= .slice ua (AC k.envs j).rights.length uc
           |2=>vv= .bool true
           |3=>vv= .bool false
           |4=>vv= .bool false
           |5=>vv= .pointer (some ⟨wr.heap.size,1,none⟩)
           |6=>vv= .int .i64 ((AC k.envs j).root)
           |7=>vv= .bool true
           |8=>vv= .bool true
           |9=>vv= .pointer (some ⟨wr.heap.size,1,none⟩)
           |10=>vv= .int .i64 ((AC k.envs j).root)
           |11=>vv= .bool false
           |12=>vv= .bool true
           |13=>vv= .bool true
           |14|15|16|17|18|19|20|21=>vv=undef
           |22=>vv= .bool true
           |23=>vv= .bool true
           |24=>vv= .bool true
           |25=>vv= .bool true
           |26|27|28|29|30|31|32|33|34=>vv=undef
           |_=>True) ?_ ?_ ?_
          ·intro i hi vv wz ww' hbz hz
           match i,hi with
           |0,_|1,_|2,_|3,_|4,_|5,_|6,_|7,_|8,_|9,_|10,_|11,_|12,_|13,_|14,_|15,_|16,_|17,_|18,_|19,_|20,_|21,_|22,_|23,_|24,_|25,_|26,_|27,_|28,_|29,_|30,_|31,_|32,_|33,_|34,_=>exact hz
           |_+35,hq=>exact absurd hq (by omega)
          ·intro i hi o ho a wx Hb Hd hG K HK
           match i,hi with
           |0,_=>exact eF ho HK EV (eb (Aj Hb 5))
           |1,_=>exact eL ho HK (et (AD Hd 0)) (Ie (bc hG hl5 y0))
           |2,_=>obtain rfl:=So_ ho;have d1:(a.tmps[48]?.getD undef)= .slice ua (AC k.envs j).rights.length uc:=AD Hd 1;clear Hd Hb;refine AI.of rfl ?_;go_simp;refine(CR.out _ hG).mono ?_;rintro e w_ ⟨rfl,hb2⟩;exact HK.out _ _ rfl hb2
           |3,_=>exact eN ho HK (et (AD Hd 2))
           |4,_=>exact eM ho HK (et (AD Hd 3))
           |5,_=>exact eF ho HK Ez (eb (Aj Hb 5)) (hw:=gy rfl rfl (AD Hd 4))
           |6,_=>exact eL ho HK (et (AD Hd 5)) (DA (bc hG hl5 y1)) (hw:=gy rfl rfl (AD Hd 4))
           |7,_=>obtain rfl:=So_ ho;have d6:(a.tmps[53]?.getD undef)= .int .i64 ((AC k.envs j).root):=AD Hd 6;have d4:(a.tmps[51]?.getD undef)= .bool false:=AD Hd 4;clear Hd Hb;refine AI.yes rfl rfl d4 ?_;go_simp;exact HK.out _ _ rfl (Below.refl _ _)
           |8,_=>exact eM ho HK (et (AD Hd 7)) (hw:=gy rfl rfl (AD Hd 4))
           |9,_=>exact eF ho HK Ez (eb (Aj Hb 5)) (hw:=gy rfl rfl (AD Hd 8))
           |10,_=>exact eL ho HK (et (AD Hd 9)) (DA (bc hG hl5 y1)) (hw:=gy rfl rfl (AD Hd 8))
           |11,_=>obtain rfl:=So_ ho;have d10:(a.tmps[57]?.getD undef)= .int .i64 ((AC k.envs j).root):=AD Hd 10;have d8:(a.tmps[55]?.getD undef)= .bool true:=AD Hd 8;clear Hd Hb;refine AI.yes rfl rfl d8 ?_;go_simp;refine(CF.out _ hG).mono ?_;rintro e w_ ⟨rfl,hb2⟩;exact HK.out _ _ rfl hb2
           |12,_=>exact eN ho HK (et (AD Hd 11)) (hw:=gy rfl rfl (AD Hd 8))
           |13,_=>exact eM ho HK (et (AD Hd 12)) (hw:=gy rfl rfl (AD Hd 8))
           |14,_|15,_|16,_|17,_|18,_|19,_|20,_|21,_=>exact eB ho HK (AD Hd 13)
           |22,_=>exact eT ho HK (et (AD Hd 13)) rfl (hw:=gy rfl rfl (AD Hd 8))
           |23,_=>exact eT ho HK (et (AD Hd 8)) (et (AD Hd 22)) (hw:=gy rfl rfl (AD Hd 4))
           |24,_=>exact eE ho HK (et (AD Hd 4)) (et (AD Hd 23))
           |25,_=>exact eM ho HK (et (AD Hd 24))
           |26,_|27,_|28,_|29,_|30,_|31,_|32,_|33,_|34,_=>exact eB ho HK (AD Hd 25)
           |_+35,hq=>exact absurd hq (by omega)
          ·intro vs wx hR hG
           have q25:(vs 25)= .bool true:=BI hR 25;have q34:(vs 34)=undef:=BI hR 34;clear hR;simp only[Ai,AX,List.range,List.range.loop,List.foldl_cons,List.foldl_nil,q25,q34];simp;clear q25 q34;have hbG:=HBA.out.trans (hG.mono HBA.out.size);clear hG;go_wp2_with fail;go_ret;exact⟨AK S.out.symm,HB0.out.trans (hbG.mono HB0.out.size)⟩
         ·rw[e7] at CF0
          obtain⟨r,hr⟩:∃r:Nat,(AC k.envs j).root=(r:Int):=⟨(AC k.envs j).root.toNat,by have:=(AZ.1 e7).1;omega⟩
          have hr12:r<12:=by have:=(AZ.1 e7).2;omega
          have E7:=AA (And.intro e6 e7);rw[hr] at CF0 t6 y1;have CF:=AA CF0;have Hr:=AA hr;clear CF0 e6 e7 hr;have hri:(r:Int)<k.infos.length:=by have:=hl12.out;omega
          obtain⟨a9,c9,ev,_,_,H2o⟩:=A3.open As (by decide) (A3.below H2.out HBA.out);cases ev;obtain⟨bi,offi,rfl,hbi,f0c,_,_⟩:=H2o.infoCells (show r<k.infos.length by have:=hl12.out;omega);clear H2o
          by_cases e8:(infoAt k.infos r).k=3
          ·have t8:((infoAt k.infos r).k !=3)=false:=by simp[e8]
           have CX:=AA (fun W (hW:Below wa.heap.size wa W)=>Lx _ k.mem r W ((H1.out.below HBA.out).below hW) T1.out hr12);have x1':=x1;have CA:=AA (fun W (hW:Below wa.heap.size wa W) v2 ts (h2:Ap W v2 (Ak ts)) (hm:∀g,g∈ts↔g∈Az k.mem (r:Int))=>by have:=FH w.heap.size _ v2 _ (AC k.envs j).rights ts k.infos W ((hW.cell (p:=⟨w.heap.size,1,none⟩) hg0).trans x1') (A3.below (A3.below HR.out HBA.out) hW) (A3.below (A3.below H2.out HBA.out) hW) h2 (fun f hf=>by have:=reach_lt (root:=(r:Int)) (by omega) f ((hm f).1 hf);have:=hl12.out;omega);rw[Ds hm] at this;exact this);clear x1';have E8:=AA e8;clear e8;generalize hbb:Aq k.infos (Az k.mem (r:Int)) (AC k.envs j).rights=bb at CA;have HBb:=AA hbb;clear hbb;refine AH 35 mixed (by kernel_rfl) 170 rfl (by kernel_rfl) (fun ix vv ww=>match ix with
            |0=>vv= .pointer (some ⟨wr.heap.size,0,none⟩)
            |1=>vv= .slice ua (AC k.envs j).rights.length uc
            |2=>vv= .bool true
            |3=>vv= .bool false
            |4=>vv= .bool false
            |5=>vv= .pointer (some ⟨wr.heap.size,1,none⟩)
            |6=>vv= .int .i64 r
            |7=>vv= .bool true
            |8=>vv= .bool true
            |9=>vv= .pointer (some ⟨wr.heap.size,1,none⟩)
            |10=>vv= .int .i64 r
            |11=>vv= .bool true
            |12=>vv= .bool false
            |13=>vv= .bool false
            |14=>vv= .pointer (some ⟨w.heap.size,1,none⟩)
            |15=>vv= .slice (some ⟨bi,offi,none⟩) k.infos.length ci
            |16=>vv= .pointer (some ⟨wr.heap.size,1,none⟩)
            |17=>vv= .int .i64 r
            |18=>vv= .pointer (some ⟨bi,offi+r*3,none⟩)
            |19=>vv= .pointer (some ⟨bi,offi+r*3,none⟩)
            |20=>vv= .int .i64 ((infoAt k.infos r).k)
            |21=>vv= .bool false
            |22=>vv= .bool false
            |23=>vv= .bool false
            |24=>vv= .bool false
            |25=>vv= .bool false
            |26=>vv= .pointer (some ⟨wr.heap.size,0,none⟩)
            |27=>vv= .slice ua (AC k.envs j).rights.length uc
            |28=>vv= .pointer (some ⟨w.heap.size,0,none⟩)
            |29=>vv= .slice am k.mem.length cm
            |30=>vv= .pointer (some ⟨wr.heap.size,1,none⟩)
            |31=>vv= .int .i64 r
            |32=>Bt wa.heap.size k.mem ((r:Int)) ww vv
            |33=>vv= .bool bb
            |34=>vv= .bool (!bb)
            |_=>True) ?_ ?_ ?_
           ·intro i hi vv wz ww' hbz hz
            match i,hi with
            |0,_|1,_|2,_|3,_|4,_|5,_|6,_|7,_|8,_|9,_|10,_|11,_|12,_|13,_|14,_|15,_|16,_|17,_|18,_|19,_|20,_|21,_|22,_|23,_|24,_|25,_|26,_|27,_|28,_|29,_|30,_|31,_=>exact hz
            |32,_=>exact(Bt.below hz hbz)
            |33,_|34,_=>exact hz
            |_+35,hq=>exact absurd hq (by omega)
           ·intro i hi o ho a wx Hb Hd hG K HK
            match i,hi with
            |0,_=>exact eF ho HK EV (eb (Aj Hb 5))
            |1,_=>exact eL ho HK (et (AD Hd 0)) (Ie (bc hG hl5 y0))
            |2,_=>obtain rfl:=So_ ho;have d1:(a.tmps[48]?.getD undef)= .slice ua (AC k.envs j).rights.length uc:=AD Hd 1;clear Hd Hb;refine AI.of rfl ?_;go_simp;refine(CR.out _ hG).mono ?_;rintro e w_ ⟨rfl,hb2⟩;exact HK.out _ _ rfl hb2
            |3,_=>exact eN ho HK (et (AD Hd 2))
            |4,_=>exact eM ho HK (et (AD Hd 3))
            |5,_=>exact eF ho HK Ez (eb (Aj Hb 5)) (hw:=gy rfl rfl (AD Hd 4))
            |6,_=>exact eL ho HK (et (AD Hd 5)) (DA (bc hG hl5 y1)) (hw:=gy rfl rfl (AD Hd 4))
            |7,_=>obtain rfl:=So_ ho;have d6:(a.tmps[53]?.getD undef)= .int .i64 r:=AD Hd 6;have d4:(a.tmps[51]?.getD undef)= .bool false:=AD Hd 4;clear Hd Hb;refine AI.yes rfl rfl d4 ?_;go_simp;exact HK.out _ _ rfl (Below.refl _ _)
            |8,_=>exact eM ho HK (et (AD Hd 7)) (hw:=gy rfl rfl (AD Hd 4))
            |9,_=>exact eF ho HK Ez (eb (Aj Hb 5)) (hw:=gy rfl rfl (AD Hd 8))
            |10,_=>exact eL ho HK (et (AD Hd 9)) (DA (bc hG hl5 y1)) (hw:=gy rfl rfl (AD Hd 8))
            |11,_=>obtain rfl:=So_ ho;have d10:(a.tmps[57]?.getD undef)= .int .i64 r:=AD Hd 10;have d8:(a.tmps[55]?.getD undef)= .bool true:=AD Hd 8;clear Hd Hb;refine AI.yes rfl rfl d8 ?_;go_simp;refine(CF.out _ hG).mono ?_;rintro e w_ ⟨rfl,hb2⟩;exact HK.out _ _ rfl hb2
            |12,_=>exact eN ho HK (et (AD Hd 11)) (hw:=gy rfl rfl (AD Hd 8))
            |13,_=>exact eM ho HK (et (AD Hd 12)) (hw:=gy rfl rfl (AD Hd 8))
            |14,_=>exact eF ho HK CU (eb (Aj Hb 1)) (hw:=gy rfl rfl (AD Hd 13))
            |15,_=>exact eL ho HK (et (AD Hd 14)) (FF (bc hG hg0 x1)) (hw:=gy rfl rfl (AD Hd 13))
            |16,_=>exact eF ho HK Ez (eb (Aj Hb 5)) (hw:=gy rfl rfl (AD Hd 13))
            |17,_=>exact eL ho HK (et (AD Hd 16)) (DA (bc hG hl5 y1)) (hw:=gy rfl rfl (AD Hd 13))
            |18,_=>obtain rfl:=So_ ho;have d15:(a.tmps[62]?.getD undef)= .slice (some ⟨bi,offi,none⟩) k.infos.length ci:=AD Hd 15;have d17:(a.tmps[64]?.getD undef)= .int .i64 r:=AD Hd 17;have d13:(a.tmps[60]?.getD undef)= .bool false:=AD Hd 13;clear Hd Hb;refine AI.yes rfl rfl d13 ?_;go_simp;exact HK.out _ _ rfl (Below.refl _ _)
            |19,_=>exact eF ho HK F4 (et (AD Hd 18)) (hw:=gy rfl rfl (AD Hd 13))
            |20,_=>exact eL ho HK (et (AD Hd 19)) (DA (bc hG hbi f0c)) (hw:=gy rfl rfl (AD Hd 13))
            |21,_=>obtain rfl:=So_ ho;have d20:(a.tmps[67]?.getD undef)= .int .i64 ((infoAt k.infos r).k):=AD Hd 20;have d13:(a.tmps[60]?.getD undef)= .bool false:=AD Hd 13;clear Hd Hb;refine AI.yes rfl rfl d13 ?_;go_simp;exact HK.out _ _ rfl (Below.refl _ _)
            |22,_=>exact eE ho HK (et (AD Hd 13)) (et (AD Hd 21)) (hw:=gy rfl rfl (AD Hd 8))
            |23,_=>exact eT ho HK (et (AD Hd 8)) (et (AD Hd 22)) (hw:=gy rfl rfl (AD Hd 4))
            |24,_=>exact eE ho HK (et (AD Hd 4)) (et (AD Hd 23))
            |25,_=>exact eM ho HK (et (AD Hd 24))
            |26,_=>exact eF ho HK EV (eb (Aj Hb 5)) (hw:=gy rfl rfl (AD Hd 25))
            |27,_=>exact eL ho HK (et (AD Hd 26)) (Ie (bc hG hl5 y0)) (hw:=gy rfl rfl (AD Hd 25))
            |28,_=>exact eF ho HK Ci (eb (Aj Hb 1)) (hw:=gy rfl rfl (AD Hd 25))
            |29,_=>exact eL ho HK (et (AD Hd 28)) (Fd (bc hG hg0 x0)) (hw:=gy rfl rfl (AD Hd 25))
            |30,_=>exact eF ho HK Ez (eb (Aj Hb 5)) (hw:=gy rfl rfl (AD Hd 25))
            |31,_=>exact eL ho HK (et (AD Hd 30)) (DA (bc hG hl5 y1)) (hw:=gy rfl rfl (AD Hd 25))
            |32,_=>obtain rfl:=So_ ho;have d29:(a.tmps[76]?.getD undef)= .slice am k.mem.length cm:=AD Hd 29;have d31:(a.tmps[78]?.getD undef)= .int .i64 r:=AD Hd 31;have d25:(a.tmps[72]?.getD undef)= .bool false:=AD Hd 25;clear Hd Hb;refine AI.yes rfl rfl d25 ?_;go_simp;refine(CX.out _ hG).mono ?_;rintro e w_ ⟨v',ts,rfl,hO,hmem,_,hb2⟩;exact HK.out _ _ ⟨ts,BQ hO hG.size,hmem⟩ hb2
            |33,_=>obtain rfl:=So_ ho;have e1:a.tmps[1]?.getD undef= .pointer (some ⟨w.heap.size,0,none⟩):=eg (Aj Hb 1);have d27:(a.tmps[74]?.getD undef)= .slice ua (AC k.envs j).rights.length uc:=AD Hd 27;have d32:Bt wa.heap.size k.mem ((r:Int)) wx (a.tmps[79]?.getD undef):=AD Hd 32;have d25:(a.tmps[72]?.getD undef)= .bool false:=AD Hd 25;clear Hd Hb;generalize e79:a.tmps[79]?.getD undef=v2 at d32;obtain⟨ts,hO,hmem⟩:=d32;have CAx:=CA.out wx hG v2 ts (AE.rd hO) hmem;refine AI.yes rfl rfl d25 ?_;go_simp;refine CAx.mono ?_;rintro e w_ ⟨rfl,hb2⟩;exact HK.out _ _ rfl hb2
            |34,_=>exact eN ho HK (et (AD Hd 33)) (hw:=gy rfl rfl (AD Hd 25))
            |_+35,hq=>exact absurd hq (by omega)
           ·intro vs wx hR hG
            have q25:(vs 25)= .bool false:=BI hR 25;have q34:(vs 34)= .bool (!bb):=BI hR 34;clear hR;simp only[Ai,AX,List.range,List.range.loop,List.foldl_cons,List.foldl_nil,q25,q34];simp;clear q25 q34;have hbG:=HBA.out.trans (hG.mono HBA.out.size);replace y1:=(hG.cell (p:=⟨wr.heap.size,1,none⟩) hl5).trans y1;have HO2:=AE.below HO.out hG;clear hG x0 x1 y0 f0c;cases bb
            ·have S:=AA (Ks hlt (show Fc k (AC k.envs j)=false by simp only[Fc,Hr.out,HBb.out,Bool.and_false]))
             clear HO2;go_wp2_with fail;go_ret;exact⟨AK S.out.symm,HB0.out.trans (hbG.mono HB0.out.size)⟩
            ·have S:=AA (show Fc k (AC k.envs j)=true by
              have e7:=E7.out.2;rw[Hr.out] at e7;simp only[Fc,E5.out,Hr.out,HBb.out,e7,Int.toNat_natCast,E8.out];simp)
             have L:=AA (Uz hlt Hr.out hr12);obtain⟨s1,s2⟩:=Ry (k:=k) (j:=j) T1.out T4.out hr12;have own1:wx.ownsRow W0.heap.size 3 1 (.slice (some ⟨gr,0,none⟩) 12 capr) 12 ((FG k j).map (Value.int .i64)):=by have:=HO2;unfold AE at this;rwa [Fi] at this
             have C:=(own1.cellAt r (by omega)).trans (Iz (xs:=FG k j) (by rw[Fi];exact hr12));have Fr:=own1.frozenAt r;have S2:=AA (own1.stored r (.int .i64 (nth (FG k j) r+1)));have r0:(0:Int)≤r:=by omega
             have r12:(r:Int)<12:=by omega
             have hgrl:=hr1;have Hgr:Hid (W0.heap.size≤gr):=AA (own1.lt gr rfl).1;clear HO2 own1;generalize nth (FG k j) r=nn at*;go_wp2_with fail;go_roundw
             case rel=>refine⟨j+1,by omega,by go_num,Ay Hpre.out S.out,?_,AT hbG S2.out.2 Hgr.out hbG.size⟩;rw[L.out];unfold AE;rw[List.length_set,Fi,List.map_set];exact S2.out.1
             case measure=>simp[intOf];omega
          ·have t8:((infoAt k.infos r).k !=3)=true:=by simp[e8]
           have S:=AA (Ks hlt (show Fc k (AC k.envs j)=false by simp[Fc,Hr.out,e8]));clear e8;refine AH 35 mixed (by kernel_rfl) 170 rfl (by kernel_rfl) (fun ix vv ww=>match ix with
            |0=>vv= .pointer (some ⟨wr.heap.size,0,none⟩)
            |1=>vv= .slice ua (AC k.envs j).rights.length uc
            |2=>vv= .bool true
            |3=>vv= .bool false
            |4=>vv= .bool false
            |5=>vv= .pointer (some ⟨wr.heap.size,1,none⟩)
            |6=>vv= .int .i64 r
            |7=>vv= .bool true
            |8=>vv= .bool true
            |9=>vv= .pointer (some ⟨wr.heap.size,1,none⟩)
            |10=>vv= .int .i64 r
            |11=>vv= .bool true
            |12=>vv= .bool false
            |13=>vv= .bool false
            |14=>vv= .pointer (some ⟨w.heap.size,1,none⟩)
            |15=>vv= .slice (some ⟨bi,offi,none⟩) k.infos.length ci
            |16=>vv= .pointer (some ⟨wr.heap.size,1,none⟩)
            |17=>vv= .int .i64 r
            |18=>vv= .pointer (some ⟨bi,offi+r*3,none⟩)
            |19=>vv= .pointer (some ⟨bi,offi+r*3,none⟩)
            |20=>vv= .int .i64 ((infoAt k.infos r).k)
            |21=>vv= .bool true
            |22=>vv= .bool true
            |23=>vv= .bool true
            |24=>vv= .bool true
            |25=>vv= .bool true
            |26|27|28|29|30|31|32|33|34=>vv=undef
            |_=>True) ?_ ?_ ?_
           ·intro i hi vv wz ww' hbz hz
            match i,hi with
            |0,_|1,_|2,_|3,_|4,_|5,_|6,_|7,_|8,_|9,_|10,_|11,_|12,_|13,_|14,_|15,_|16,_|17,_|18,_|19,_|20,_|21,_|22,_|23,_|24,_|25,_|26,_|27,_|28,_|29,_|30,_|31,_|32,_|33,_|34,_=>exact hz
            |_+35,hq=>exact absurd hq (by omega)
           ·intro i hi o ho a wx Hb Hd hG K HK
            match i,hi with
            |0,_=>exact eF ho HK EV (eb (Aj Hb 5))
            |1,_=>exact eL ho HK (et (AD Hd 0)) (Ie (bc hG hl5 y0))
            |2,_=>obtain rfl:=So_ ho;have d1:(a.tmps[48]?.getD undef)= .slice ua (AC k.envs j).rights.length uc:=AD Hd 1;clear Hd Hb;refine AI.of rfl ?_;go_simp;refine(CR.out _ hG).mono ?_;rintro e w_ ⟨rfl,hb2⟩;exact HK.out _ _ rfl hb2
            |3,_=>exact eN ho HK (et (AD Hd 2))
            |4,_=>exact eM ho HK (et (AD Hd 3))
            |5,_=>exact eF ho HK Ez (eb (Aj Hb 5)) (hw:=gy rfl rfl (AD Hd 4))
            |6,_=>exact eL ho HK (et (AD Hd 5)) (DA (bc hG hl5 y1)) (hw:=gy rfl rfl (AD Hd 4))
            |7,_=>obtain rfl:=So_ ho;have d6:(a.tmps[53]?.getD undef)= .int .i64 r:=AD Hd 6;have d4:(a.tmps[51]?.getD undef)= .bool false:=AD Hd 4;clear Hd Hb;refine AI.yes rfl rfl d4 ?_;go_simp;exact HK.out _ _ rfl (Below.refl _ _)
            |8,_=>exact eM ho HK (et (AD Hd 7)) (hw:=gy rfl rfl (AD Hd 4))
            |9,_=>exact eF ho HK Ez (eb (Aj Hb 5)) (hw:=gy rfl rfl (AD Hd 8))
            |10,_=>exact eL ho HK (et (AD Hd 9)) (DA (bc hG hl5 y1)) (hw:=gy rfl rfl (AD Hd 8))
            |11,_=>obtain rfl:=So_ ho;have d10:(a.tmps[57]?.getD undef)= .int .i64 r:=AD Hd 10;have d8:(a.tmps[55]?.getD undef)= .bool true:=AD Hd 8;clear Hd Hb;refine AI.yes rfl rfl d8 ?_;go_simp;refine(CF.out _ hG).mono ?_;rintro e w_ ⟨rfl,hb2⟩;exact HK.out _ _ rfl hb2
            |12,_=>exact eN ho HK (et (AD Hd 11)) (hw:=gy rfl rfl (AD Hd 8))
            |13,_=>exact eM ho HK (et (AD Hd 12)) (hw:=gy rfl rfl (AD Hd 8))
            |14,_=>exact eF ho HK CU (eb (Aj Hb 1)) (hw:=gy rfl rfl (AD Hd 13))
            |15,_=>exact eL ho HK (et (AD Hd 14)) (FF (bc hG hg0 x1)) (hw:=gy rfl rfl (AD Hd 13))
            |16,_=>exact eF ho HK Ez (eb (Aj Hb 5)) (hw:=gy rfl rfl (AD Hd 13))
            |17,_=>exact eL ho HK (et (AD Hd 16)) (DA (bc hG hl5 y1)) (hw:=gy rfl rfl (AD Hd 13))
            |18,_=>obtain rfl:=So_ ho;have d15:(a.tmps[62]?.getD undef)= .slice (some ⟨bi,offi,none⟩) k.infos.length ci:=AD Hd 15;have d17:(a.tmps[64]?.getD undef)= .int .i64 r:=AD Hd 17;have d13:(a.tmps[60]?.getD undef)= .bool false:=AD Hd 13;clear Hd Hb;refine AI.yes rfl rfl d13 ?_;go_simp;exact HK.out _ _ rfl (Below.refl _ _)
            |19,_=>exact eF ho HK F4 (et (AD Hd 18)) (hw:=gy rfl rfl (AD Hd 13))
            |20,_=>exact eL ho HK (et (AD Hd 19)) (DA (bc hG hbi f0c)) (hw:=gy rfl rfl (AD Hd 13))
            |21,_=>obtain rfl:=So_ ho;have d20:(a.tmps[67]?.getD undef)= .int .i64 ((infoAt k.infos r).k):=AD Hd 20;have d13:(a.tmps[60]?.getD undef)= .bool false:=AD Hd 13;clear Hd Hb;refine AI.yes rfl rfl d13 ?_;go_simp;exact HK.out _ _ rfl (Below.refl _ _)
            |22,_=>exact eE ho HK (et (AD Hd 13)) (et (AD Hd 21)) (hw:=gy rfl rfl (AD Hd 8))
            |23,_=>exact eT ho HK (et (AD Hd 8)) (et (AD Hd 22)) (hw:=gy rfl rfl (AD Hd 4))
            |24,_=>exact eE ho HK (et (AD Hd 4)) (et (AD Hd 23))
            |25,_=>exact eM ho HK (et (AD Hd 24))
            |26,_|27,_|28,_|29,_|30,_|31,_|32,_|33,_|34,_=>exact eB ho HK (AD Hd 25)
            |_+35,hq=>exact absurd hq (by omega)
           ·intro vs wx hR hG
            have q25:(vs 25)= .bool true:=BI hR 25;have q34:(vs 34)=undef:=BI hR 34;clear hR;simp only[Ai,AX,List.range,List.range.loop,List.foldl_cons,List.foldl_nil,q25,q34];simp;clear q25 q34;have hbG:=HBA.out.trans (hG.mono HBA.out.size);clear hG;go_wp2_with fail;go_ret;exact⟨AK S.out.symm,HB0.out.trans (hbG.mono HB0.out.size)⟩
      ·obtain rfl:j=k.envs.length:=by omega
       have HEO:=AA (fun j (hj:j<3)=>Hpre.out j (by have:=T4.out;omega));have hO3:Hid (AE W0.heap.size wr (.slice (some ⟨gr,0,none⟩) 12 capr) (FG k 3)):=AA (by have:=hO;rwa [T4.out] at this);have x1:=(AB (AF HN.out hbel)).2.1;have Hgr:Hid (gr<wr.heap.size):=AA (World.ownsRow.lt hO gr rfl).2;have hb2:=AA hbel;clear hO hbel Hpre;go_wp2_with fail;clear x1;obtain⟨wq,rfl⟩:∃wq:World,wq=wr:=⟨_,rfl⟩
       go_loopw [97] (fun i wr=>∃f:Nat,f≤k.infos.length∧i= .int .i64 f∧(∀f',f'<f→FE k f'=true∧Im k f'=true)∧AE W0.heap.size wr (.slice (some ⟨gr,0,none⟩) 12 capr) (FG k 3)∧Below W0.heap.size W0 wr) (fun i _=>k.infos.length - (intOf i).toNat)
       case atStart=>exact⟨0,Nat.zero_le _,rfl,fun j hj=>absurd hj (Nat.not_lt_zero _),hO3.out,hb2.out⟩
       case round=>
        obtain⟨f,hf,rfl,hpre,hO,hbel⟩:=hrel;have Hpre:=AA hpre;clear hpre
        by_cases hlt:f<k.infos.length
        ·obtain⟨a9,c9,ev,_,_,H2o⟩:=A3.open As (by decide) (A3.below H2.out hbel)
         cases ev;obtain⟨bi,offi,rfl,hbi,D0,D1,D2⟩:=H2o.infoCells hlt;have N:=heap_alloc_new wr (.cells #[.int .i64 (infoAt k.infos f).k, .string (infoAt k.infos f).g, .int .i64 (infoAt k.infos f).r] 135);have hbn:=AG wr (.cells #[.int .i64 (infoAt k.infos f).k, .string (infoAt k.infos f).g, .int .i64 (infoAt k.infos f).r] 135);have HO:=AA (AE.below hO hbn);have hlz:(f:Int)<k.infos.length:=by omega
         have hf12:f<12:=by have:=hl12.out;omega
         have hfz:(f:Int)<12:=by omega
         clear hO H2o;go_wp2_with fail;generalize wr.alloc _=wa at*;have hba:=hbel.trans (hbn.mono hbel.size);have y0:wa.cell? ⟨wr.heap.size,0,none⟩=some (.int .i64 (infoAt k.infos f).k):=cell_of_row _ _ 0 _ _ _ N;have y2:wa.cell? ⟨wr.heap.size,2,none⟩=some (.int .i64 (infoAt k.infos f).r):=cell_of_row _ _ 2 _ _ _ N;have hl7:=Ao N;have hg0:=Nat.lt_of_lt_of_le Hl0.out hba.size;have x0:=(AB (AF HN.out hba)).1;have x1:=(AB (AF HN.out hba)).2.1;have own1:wa.ownsRow W0.heap.size 3 1 (.slice (some ⟨gr,0,none⟩) 12 capr) 12 ((FG k 3).map (Value.int .i64)):=by have:=HO.out;unfold AE at this;rwa [Fi] at this
         have f1c:=(own1.cellAt f (by omega)).trans (Iz (xs:=FG k 3) (by rw[Fi];exact hf12));have hgr:=(own1.lt gr rfl).2;have HBA:=AA hba;have CT0:=fun W (_:Below wa.heap.size wa W)=>Ae (By (infoAt k.infos f).k W)
         clear D0 D1 D2 N hbn hbel hba own1;cases e5:Ba (infoAt k.infos f).k
         ·rw[e5] at CT0
          have CT:=AA CT0;have TB:=AA (show FE k f=true by simp[FE,e5]);clear CT0 e5;refine AH 23 mixed (by kernel_rfl) 170 rfl (by kernel_rfl) (fun ix vv ww=>match ix with
           |0=>vv= .pointer (some ⟨wr.heap.size,0,none⟩)
           |1=>vv= .int .i64 ((infoAt k.infos f).k)
           |2=>vv= .bool false
           |3=>vv= .bool false
           |4|5|6|7|8|9|10|11|12|13=>vv=undef
           |14=>vv= .bool false
           |15=>vv= .bool false
           |16=>vv= .pointer (some ⟨wr.heap.size,2,none⟩)
           |17=>vv= .int .i64 ((infoAt k.infos f).r)
           |18=>vv= .slice (some ⟨gr,0,none⟩) 12 capr
           |19=>vv= .int .i64 f
           |20=>vv= .pointer (some ⟨gr,f,none⟩)
           |21=>vv= .int .i64 (nth (FG k 3) f)
           |22=>vv= .bool ((infoAt k.infos f).r !=nth (FG k 3) f)
           |_=>True) ?_ ?_ ?_
          ·intro i hi vv wz ww' hbz hz
           match i,hi with
           |0,_|1,_|2,_|3,_|4,_|5,_|6,_|7,_|8,_|9,_|10,_|11,_|12,_|13,_|14,_|15,_|16,_|17,_|18,_|19,_|20,_|21,_|22,_=>exact hz
           |_+23,hq=>exact absurd hq (by omega)
          ·intro i hi o ho a wx Hb Hd hG K HK
           match i,hi with
           |0,_=>exact eF ho HK F4 (eb (Aj Hb 7))
           |1,_=>exact eL ho HK (et (AD Hd 0)) (DA (bc hG hl7 y0))
           |2,_=>obtain rfl:=So_ ho;have d1:(a.tmps[103]?.getD undef)= .int .i64 ((infoAt k.infos f).k):=AD Hd 1;clear Hd Hb;refine AI.of rfl ?_;go_simp;refine(CT.out _ hG).mono ?_;rintro e w_ ⟨rfl,hb2⟩;exact HK.out _ _ rfl hb2
           |3,_=>exact eM ho HK (et (AD Hd 2))
           |4,_|5,_|6,_|7,_|8,_|9,_|10,_|11,_|12,_|13,_=>exact eB ho HK (AD Hd 3)
           |14,_=>exact eE ho HK (et (AD Hd 3)) rfl
           |15,_=>exact eM ho HK (et (AD Hd 14))
           |16,_=>exact eF ho HK GW (eb (Aj Hb 7)) (hw:=gy rfl rfl (AD Hd 15))
           |17,_=>exact eL ho HK (et (AD Hd 16)) (DA (bc hG hl7 y2)) (hw:=gy rfl rfl (AD Hd 15))
           |18,_=>exact eM ho HK (eb (Aj Hb 3)) (hw:=gy rfl rfl (AD Hd 15))
           |19,_=>exact eM ho HK (eb (Aj Hb 6)) (hw:=gy rfl rfl (AD Hd 15))
           |20,_=>obtain rfl:=So_ ho;have d18:(a.tmps[120]?.getD undef)= .slice (some ⟨gr,0,none⟩) 12 capr:=AD Hd 18;have d19:(a.tmps[121]?.getD undef)= .int .i64 f:=AD Hd 19;have d15:(a.tmps[117]?.getD undef)= .bool false:=AD Hd 15;clear Hd Hb;refine AI.yes rfl rfl d15 ?_;go_simp;exact HK.out _ _ rfl (Below.refl _ _)
           |21,_=>exact eL ho HK (et (AD Hd 20)) (DA (bc hG hgr f1c)) (hw:=gy rfl rfl (AD Hd 15))
           |22,_=>obtain rfl:=So_ ho;have d17:(a.tmps[119]?.getD undef)= .int .i64 ((infoAt k.infos f).r):=AD Hd 17;have d21:(a.tmps[123]?.getD undef)= .int .i64 (nth (FG k 3) f):=AD Hd 21;have d15:(a.tmps[117]?.getD undef)= .bool false:=AD Hd 15;clear Hd Hb;refine AI.yes rfl rfl d15 ?_;go_simp;exact HK.out _ _ rfl (Below.refl _ _)
           |_+23,hq=>exact absurd hq (by omega)
          ·intro vs wx hR hG
           have q15:(vs 15)= .bool false:=BI hR 15;have q22:(vs 22)= .bool ((infoAt k.infos f).r !=nth (FG k 3) f):=BI hR 22;clear hR;simp only[Ai,AX,List.range,List.range.loop,List.foldl_cons,List.foldl_nil,q15,q22];simp;clear q15 q22;have hbG:=HBA.out.trans (hG.mono HBA.out.size);have HO2:=AA (AE.below HO.out hG);clear hG x0 x1 y0 y2 f1c;have RL:=Qn (k:=k) T4.out hf12;cases hne:((infoAt k.infos f).r !=nth (FG k 3) f)
           ·have S1:=AA (show Im k f=true by rw[RL];simpa using hne)
            clear RL;go_wp2_with fail;go_roundw
            case rel=>exact⟨f+1,by omega,by go_num,Ay Hpre.out ⟨TB.out,S1.out⟩,HO2.out,hbG⟩
            case measure=>simp[intOf];omega
           ·have S:=AA (QV hf12 (show Im k f=false by rw[RL];simpa using hne))
            clear RL;go_wp2_with fail;go_ret;exact⟨AK S.out.symm,HB0.out.trans (hbG.mono HB0.out.size)⟩
         ·rw[e5] at CT0
          have CT:=AA CT0;have CG0:=fun W (hW:Below wa.heap.size wa W) v2 (h2:BC W v2 [⟨#[]⟩])=>QP _ _ v2 k.mem k.infos f (infoAt k.infos f).k [⟨#[]⟩] W ((H1.out.below HBA.out).below hW) T1.out (A3.below (A3.below H2.out HBA.out) hW) hl12.out hf12 e5 h2
          cases e6:Gv k.mem k.infos f (infoAt k.infos f).k [⟨#[]⟩]
          ·rw[e6] at CG0
           have CG:=AA CG0;have S:=AA (Uk hf12 (show FE k f=false by simp[FE,e5,e6]));clear CT0 e5 CG0 e6;refine AH 23 mixed (by kernel_rfl) 170 rfl (by kernel_rfl) (fun ix vv ww=>match ix with
            |0=>vv= .pointer (some ⟨wr.heap.size,0,none⟩)
            |1=>vv= .int .i64 ((infoAt k.infos f).k)
            |2=>vv= .bool true
            |3=>vv= .bool true
            |4=>vv= .pointer (some ⟨w.heap.size,0,none⟩)
            |5=>vv= .slice am k.mem.length cm
            |6=>vv= .pointer (some ⟨w.heap.size,1,none⟩)
            |7=>vv= .slice (some ⟨bi,offi,none⟩) k.infos.length ci
            |8=>vv= .int .i64 f
            |9=>vv= .pointer (some ⟨wr.heap.size,0,none⟩)
            |10=>vv= .int .i64 ((infoAt k.infos f).k)
            |11=>BC ww vv [⟨#[]⟩]
            |12=>vv= .bool false
            |13=>vv= .bool true
            |14=>vv= .bool true
            |15=>vv= .bool true
            |16|17|18|19|20|21|22=>vv=undef
            |_=>True) ?_ ?_ ?_
           ·intro i hi vv wz ww' hbz hz
            match i,hi with
            |0,_|1,_|2,_|3,_|4,_|5,_|6,_|7,_|8,_|9,_|10,_=>exact hz
            |11,_=>exact(A3.below hz hbz)
            |12,_|13,_|14,_|15,_|16,_|17,_|18,_|19,_|20,_|21,_|22,_=>exact hz
            |_+23,hq=>exact absurd hq (by omega)
           ·intro i hi o ho a wx Hb Hd hG K HK
            match i,hi with
            |0,_=>exact eF ho HK F4 (eb (Aj Hb 7))
            |1,_=>exact eL ho HK (et (AD Hd 0)) (DA (bc hG hl7 y0))
            |2,_=>obtain rfl:=So_ ho;have d1:(a.tmps[103]?.getD undef)= .int .i64 ((infoAt k.infos f).k):=AD Hd 1;clear Hd Hb;refine AI.of rfl ?_;go_simp;refine(CT.out _ hG).mono ?_;rintro e w_ ⟨rfl,hb2⟩;exact HK.out _ _ rfl hb2
            |3,_=>exact eM ho HK (et (AD Hd 2))
            |4,_=>exact eF ho HK Ci (eb (Aj Hb 1)) (hw:=gy rfl rfl (AD Hd 3))
            |5,_=>exact eL ho HK (et (AD Hd 4)) (Fd (bc hG hg0 x0)) (hw:=gy rfl rfl (AD Hd 3))
            |6,_=>exact eF ho HK CU (eb (Aj Hb 1)) (hw:=gy rfl rfl (AD Hd 3))
            |7,_=>exact eL ho HK (et (AD Hd 6)) (FF (bc hG hg0 x1)) (hw:=gy rfl rfl (AD Hd 3))
            |8,_=>exact eM ho HK (eb (Aj Hb 6)) (hw:=gy rfl rfl (AD Hd 3))
            |9,_=>exact eF ho HK F4 (eb (Aj Hb 7)) (hw:=gy rfl rfl (AD Hd 3))
            |10,_=>exact eL ho HK (et (AD Hd 9)) (DA (bc hG hl7 y0)) (hw:=gy rfl rfl (AD Hd 3))
            |11,_=>obtain rfl:=So_ ho;have d3:(a.tmps[105]?.getD undef)= .bool true:=AD Hd 3;clear Hd Hb;refine AI.yes rfl rfl d3 ?_;go_simp;exact HK.out _ _ (Rd.news _ #[.string ⟨#[]⟩] _ 1 1 rfl (by simp[maxLen])) (AG _ _)
            |12,_=>obtain rfl:=So_ ho;have d5:(a.tmps[107]?.getD undef)= .slice am k.mem.length cm:=AD Hd 5;have d7:(a.tmps[109]?.getD undef)= .slice (some ⟨bi,offi,none⟩) k.infos.length ci:=AD Hd 7;have d8:(a.tmps[110]?.getD undef)= .int .i64 f:=AD Hd 8;have d10:(a.tmps[112]?.getD undef)= .int .i64 ((infoAt k.infos f).k):=AD Hd 10;have d11:BC wx (a.tmps[113]?.getD undef) [⟨#[]⟩]:=AD Hd 11;have d3:(a.tmps[105]?.getD undef)= .bool true:=AD Hd 3;clear Hd Hb;generalize e113:a.tmps[113]?.getD undef=v2 at d11;have CGx:=CG.out wx hG v2 d11;refine AI.yes rfl rfl d3 ?_;go_simp;refine CGx.mono ?_;rintro e w_ ⟨rfl,hb2⟩;exact HK.out _ _ rfl hb2
            |13,_=>exact eN ho HK (et (AD Hd 12)) (hw:=gy rfl rfl (AD Hd 3))
            |14,_=>exact eT ho HK (et (AD Hd 3)) (et (AD Hd 13))
            |15,_=>exact eM ho HK (et (AD Hd 14))
            |16,_|17,_|18,_|19,_|20,_|21,_|22,_=>exact eB ho HK (AD Hd 15)
            |_+23,hq=>exact absurd hq (by omega)
           ·intro vs wx hR hG
            have q15:(vs 15)= .bool true:=BI hR 15;have q22:(vs 22)=undef:=BI hR 22;clear hR;simp only[Ai,AX,List.range,List.range.loop,List.foldl_cons,List.foldl_nil,q15,q22];simp;clear q15 q22;have hbG:=HBA.out.trans (hG.mono HBA.out.size);clear hG x0 x1 y0 y2 f1c;go_wp2_with fail;go_ret;exact⟨AK S.out.symm,HB0.out.trans (hbG.mono HB0.out.size)⟩
          ·rw[e6] at CG0
           have CG:=AA CG0;have TB:=AA (show FE k f=true by simp[FE,e6]);clear CT0 e5 CG0 e6;refine AH 23 mixed (by kernel_rfl) 170 rfl (by kernel_rfl) (fun ix vv ww=>match ix with
            |0=>vv= .pointer (some ⟨wr.heap.size,0,none⟩)
            |1=>vv= .int .i64 ((infoAt k.infos f).k)
            |2=>vv= .bool true
            |3=>vv= .bool true
            |4=>vv= .pointer (some ⟨w.heap.size,0,none⟩)
            |5=>vv= .slice am k.mem.length cm
            |6=>vv= .pointer (some ⟨w.heap.size,1,none⟩)
            |7=>vv= .slice (some ⟨bi,offi,none⟩) k.infos.length ci
            |8=>vv= .int .i64 f
            |9=>vv= .pointer (some ⟨wr.heap.size,0,none⟩)
            |10=>vv= .int .i64 ((infoAt k.infos f).k)
            |11=>BC ww vv [⟨#[]⟩]
            |12=>vv= .bool true
            |13=>vv= .bool false
            |14=>vv= .bool false
            |15=>vv= .bool false
            |16=>vv= .pointer (some ⟨wr.heap.size,2,none⟩)
            |17=>vv= .int .i64 ((infoAt k.infos f).r)
            |18=>vv= .slice (some ⟨gr,0,none⟩) 12 capr
            |19=>vv= .int .i64 f
            |20=>vv= .pointer (some ⟨gr,f,none⟩)
            |21=>vv= .int .i64 (nth (FG k 3) f)
            |22=>vv= .bool ((infoAt k.infos f).r !=nth (FG k 3) f)
            |_=>True) ?_ ?_ ?_
           ·intro i hi vv wz ww' hbz hz
            match i,hi with
            |0,_|1,_|2,_|3,_|4,_|5,_|6,_|7,_|8,_|9,_|10,_=>exact hz
            |11,_=>exact(A3.below hz hbz)
            |12,_|13,_|14,_|15,_|16,_|17,_|18,_|19,_|20,_|21,_|22,_=>exact hz
            |_+23,hq=>exact absurd hq (by omega)
           ·intro i hi o ho a wx Hb Hd hG K HK
            match i,hi with
            |0,_=>exact eF ho HK F4 (eb (Aj Hb 7))
            |1,_=>exact eL ho HK (et (AD Hd 0)) (DA (bc hG hl7 y0))
            |2,_=>obtain rfl:=So_ ho;have d1:(a.tmps[103]?.getD undef)= .int .i64 ((infoAt k.infos f).k):=AD Hd 1;clear Hd Hb;refine AI.of rfl ?_;go_simp;refine(CT.out _ hG).mono ?_;rintro e w_ ⟨rfl,hb2⟩;exact HK.out _ _ rfl hb2
            |3,_=>exact eM ho HK (et (AD Hd 2))
            |4,_=>exact eF ho HK Ci (eb (Aj Hb 1)) (hw:=gy rfl rfl (AD Hd 3))
            |5,_=>exact eL ho HK (et (AD Hd 4)) (Fd (bc hG hg0 x0)) (hw:=gy rfl rfl (AD Hd 3))
            |6,_=>exact eF ho HK CU (eb (Aj Hb 1)) (hw:=gy rfl rfl (AD Hd 3))
            |7,_=>exact eL ho HK (et (AD Hd 6)) (FF (bc hG hg0 x1)) (hw:=gy rfl rfl (AD Hd 3))
            |8,_=>exact eM ho HK (eb (Aj Hb 6)) (hw:=gy rfl rfl (AD Hd 3))
            |9,_=>exact eF ho HK F4 (eb (Aj Hb 7)) (hw:=gy rfl rfl (AD Hd 3))
            |10,_=>exact eL ho HK (et (AD Hd 9)) (DA (bc hG hl7 y0)) (hw:=gy rfl rfl (AD Hd 3))
            |11,_=>obtain rfl:=So_ ho;have d3:(a.tmps[105]?.getD undef)= .bool true:=AD Hd 3;clear Hd Hb;refine AI.yes rfl rfl d3 ?_;go_simp;exact HK.out _ _ (Rd.news _ #[.string ⟨#[]⟩] _ 1 1 rfl (by simp[maxLen])) (AG _ _)
            |12,_=>obtain rfl:=So_ ho;have d5:(a.tmps[107]?.getD undef)= .slice am k.mem.length cm:=AD Hd 5;have d7:(a.tmps[109]?.getD undef)= .slice (some ⟨bi,offi,none⟩) k.infos.length ci:=AD Hd 7;have d8:(a.tmps[110]?.getD undef)= .int .i64 f:=AD Hd 8;have d10:(a.tmps[112]?.getD undef)= .int .i64 ((infoAt k.infos f).k):=AD Hd 10;have d11:BC wx (a.tmps[113]?.getD undef) [⟨#[]⟩]:=AD Hd 11;have d3:(a.tmps[105]?.getD undef)= .bool true:=AD Hd 3;clear Hd Hb;generalize e113:a.tmps[113]?.getD undef=v2 at d11;have CGx:=CG.out wx hG v2 d11;refine AI.yes rfl rfl d3 ?_;go_simp;refine CGx.mono ?_;rintro e w_ ⟨rfl,hb2⟩;exact HK.out _ _ rfl hb2
            |13,_=>exact eN ho HK (et (AD Hd 12)) (hw:=gy rfl rfl (AD Hd 3))
            |14,_=>exact eT ho HK (et (AD Hd 3)) (et (AD Hd 13))
            |15,_=>exact eM ho HK (et (AD Hd 14))
            |16,_=>exact eF ho HK GW (eb (Aj Hb 7)) (hw:=gy rfl rfl (AD Hd 15))
            |17,_=>exact eL ho HK (et (AD Hd 16)) (DA (bc hG hl7 y2)) (hw:=gy rfl rfl (AD Hd 15))
            |18,_=>exact eM ho HK (eb (Aj Hb 3)) (hw:=gy rfl rfl (AD Hd 15))
            |19,_=>exact eM ho HK (eb (Aj Hb 6)) (hw:=gy rfl rfl (AD Hd 15))
            |20,_=>obtain rfl:=So_ ho;have d18:(a.tmps[120]?.getD undef)= .slice (some ⟨gr,0,none⟩) 12 capr:=AD Hd 18;have d19:(a.tmps[121]?.getD undef)= .int .i64 f:=AD Hd 19;have d15:(a.tmps[117]?.getD undef)= .bool false:=AD Hd 15;clear Hd Hb;refine AI.yes rfl rfl d15 ?_;go_simp;exact HK.out _ _ rfl (Below.refl _ _)
            |21,_=>exact eL ho HK (et (AD Hd 20)) (DA (bc hG hgr f1c)) (hw:=gy rfl rfl (AD Hd 15))
            |22,_=>obtain rfl:=So_ ho;have d17:(a.tmps[119]?.getD undef)= .int .i64 ((infoAt k.infos f).r):=AD Hd 17;have d21:(a.tmps[123]?.getD undef)= .int .i64 (nth (FG k 3) f):=AD Hd 21;have d15:(a.tmps[117]?.getD undef)= .bool false:=AD Hd 15;clear Hd Hb;refine AI.yes rfl rfl d15 ?_;go_simp;exact HK.out _ _ rfl (Below.refl _ _)
            |_+23,hq=>exact absurd hq (by omega)
           ·intro vs wx hR hG
            have q15:(vs 15)= .bool false:=BI hR 15;have q22:(vs 22)= .bool ((infoAt k.infos f).r !=nth (FG k 3) f):=BI hR 22;clear hR;simp only[Ai,AX,List.range,List.range.loop,List.foldl_cons,List.foldl_nil,q15,q22];simp;clear q15 q22;have hbG:=HBA.out.trans (hG.mono HBA.out.size);have HO2:=AA (AE.below HO.out hG);clear hG x0 x1 y0 y2 f1c;have RL:=Qn (k:=k) T4.out hf12;cases hne:((infoAt k.infos f).r !=nth (FG k 3) f)
            ·have S1:=AA (show Im k f=true by rw[RL];simpa using hne)
             clear RL;go_wp2_with fail;go_roundw
             case rel=>exact⟨f+1,by omega,by go_num,Ay Hpre.out ⟨TB.out,S1.out⟩,HO2.out,hbG⟩
             case measure=>simp[intOf];omega
            ·have S:=AA (QV hf12 (show Im k f=false by rw[RL];simpa using hne))
             clear RL;go_wp2_with fail;go_ret;exact⟨AK S.out.symm,HB0.out.trans (hbG.mono HB0.out.size)⟩
        ·obtain rfl:f=k.infos.length:=by omega
         have HTR:=AA (fun f (hf:f<12)=>Hpre.out f (by have:=hl12.out;omega));have x3:=(AB (AF HN.out hbel)).2.2.2;have hb3:=AA hbel;clear hO hbel Hpre;go_wp2_with fail;clear x3;obtain⟨wq2,rfl⟩:∃wq:World,wq=wr:=⟨_,rfl⟩
         go_loopw [130] (fun i wr=>∃j:Nat,j≤k.cache.length∧i= .int .i64 j∧(∀j',j'<j→Dd k (Ac k.cache j')=true)∧Below W0.heap.size W0 wr) (fun i _=>k.cache.length - (intOf i).toNat)
         case atStart=>exact⟨0,Nat.zero_le _,rfl,fun j hj=>absurd hj (Nat.not_lt_zero _),hb3.out⟩
         case round=>
          obtain⟨j,hj,rfl,hpre,hbel⟩:=hrel;have Hpre:=AA hpre;clear hpre
          by_cases hlt:j<k.cache.length
          ·obtain⟨a9,c9,ev,_,_,H4o⟩:=A3.open Bi (by decide) (A3.below H4.out hbel)
           cases ev;obtain⟨bi,offi,rfl,hbi,D0,D1,D2,D3⟩:=H4o.cachedCells hlt;have hco:CZ (Ac k.cache j)=true:=by have h1:=T3.out;unfold Bc at h1;simp only[Bool.and_eq_true,List.all_eq_true] at h1;have h2:=h1.1 j (List.mem_range.2 hlt);unfold EI at h2;simp only[Bool.and_eq_true] at h2;exact h2.1
           have hcl:k.cache.length≤4:=by have h1:=T3.out;unfold Bc at h1;simp only[Bool.and_eq_true,decide_eq_true_eq] at h1;exact h1.2
           unfold CZ at hco;simp only[Bool.and_eq_true,AZ] at hco;obtain⟨⟨⟨e0,e2⟩,p0,p2⟩,f0,f2⟩:=hco;obtain⟨en,hen⟩:∃n:Nat,(Ac k.cache j).e=(n:Int):=⟨(Ac k.cache j).e.toNat,by omega⟩
           obtain⟨pn,hpn⟩:∃n:Nat,(Ac k.cache j).p=(n:Int):=⟨(Ac k.cache j).p.toNat,by omega⟩
           obtain⟨fn,hfn⟩:∃n:Nat,(Ac k.cache j).f=(n:Int):=⟨(Ac k.cache j).f.toNat,by omega⟩
           have TO:=AA (show Dd k (Ac k.cache j)=(decide (0≤(AC k.envs en).root)&&decide (BV k.mem (AC k.envs en).root.toNat (4*pn)=(0,fn,(Ac k.cache j).w))) by unfold Dd;rw[hen,hpn,hfn];rfl);have hen3:en<3:=by omega
           have hpn16:pn<16:=by omega
           have KT:=AA (Ri (k:=k) hlt);rw[hen] at D0;rw[hpn] at D1;rw[hfn] at D2;generalize hcw:(Ac k.cache j).w=cw at*;have N:=heap_alloc_new wr (.cells #[.int .i64 en, .int .i64 pn, .int .i64 fn, .bool cw] 140);have hbn:=AG wr (.cells #[.int .i64 en, .int .i64 pn, .int .i64 fn, .bool cw] 140);have hlz:(j:Int)<k.cache.length:=by omega
           have hjz:(j:Int)<4:=by omega
           have hba:=hbel.trans (hbn.mono hbel.size);obtain⟨b,off,ua,uc,rfl,hbl,E0,E1,RR⟩:=HE.out en (by have:=T4.out;omega);replace E1:=(hba.cell (p:=⟨b,off+en*2+1,none⟩) hbl).trans E1;have x0:=(AB (AF HN.out hba)).1;have x2:=(AB (AF HN.out hba)).2.2.1;obtain⟨y0,y1,y2,y3⟩:=AB N;have env3:(en:Int)<k.envs.length:=by have:=T4.out;omega
           have HBA:=AA hba;have HEe:=AA (HEO.out en hen3);have hEN:=AA (And.intro hen (And.intro hpn hfn));clear H4o E0 RR hbn hbel hba N e0 e2 p0 p2 f0 f2 hen hpn hfn hcl
           by_cases hroot:(AC k.envs en).root<0
           ·have S:=AA (KT.out (by rw[TO.out];simp;omega))
            have hbG:=HBA.out;clear x0 y1 y2 y3;go_wp2_with fail;go_ret;exact⟨AK S.out.symm,HB0.out.trans (hbG.mono HB0.out.size)⟩
           ·obtain⟨rn,hrn⟩:∃n:Nat,(AC k.envs en).root=(n:Int):=⟨(AC k.envs en).root.toNat,by omega⟩
            have hrn12:rn<12:=by
             have h1:=HEe.out;unfold Fc at h1;simp only[Bool.and_eq_true,Bool.or_eq_true,decide_eq_true_eq,AZ] at h1
             rcases h1.1.2 with h|h<;>omega
            have CW0:=fun W (hW:Below W0.heap.size W0 W)=>NY _ k.mem rn (4*pn) W (H1.out.below hW) T1.out hrn12 (by omega)
            have hl9:wr.heap.size<(wr.alloc (.cells #[.int .i64 en, .int .i64 pn, .int .i64 fn, .bool cw] 140)).heap.size:=by simp
            rw[hrn] at E1 TO hroot;unfold GE at CW0;rw[show((4*pn:Nat):Int)=(pn:Int)*4 by omega] at CW0;simp only[Int.toNat_natCast] at TO;obtain⟨code,fr,wb,hwp⟩:∃code fr wb,BV k.mem rn (4*pn)=(code,fr,wb):=⟨_,_,_,rfl⟩
            simp only[hwp] at CW0 TO;clear hwp;have TO2:=AA (show Dd k (Ac k.cache j)=(decide (code=0)&&(decide (fr=fn)&&decide (wb=cw))) by
             rw[TO.out];have:(0:Int)≤(rn:Int):=by omega
             simp[this])
            by_cases hc0:code=0
            ·subst hc0
             rw[if_pos rfl] at CW0;unfold IX at CW0;rw[show((4*pn%4:Nat):Int)=0 by omega] at CW0;have CW:=AA CW0;clear CW0;go_wp2_with fail;refine(CW.out _ HBA.out).mono ?_;rintro e w2 ⟨rfl,hb2⟩;have hbG0:=HBA.out.trans (hb2.mono HBA.out.size);replace y2:=(hb2.cell (p:=⟨wr.heap.size,2,none⟩) hl9).trans y2;replace y3:=(hb2.cell (p:=⟨wr.heap.size,3,none⟩) hl9).trans y3;clear x0 x2 E1 y0 y1 hb2;have hbG:=hbG0.trans ((AG w2 (.cells #[.int .i64 fr, .int .i64 0, .bool wb] 142)).mono hbG0.size);replace y2:=((AG w2 (.cells #[.int .i64 fr, .int .i64 0, .bool wb] 142)).cell (World.block_lt_of_cell? w2 _ y2)).trans y2;replace y3:=((AG w2 (.cells #[.int .i64 fr, .int .i64 0, .bool wb] 142)).cell (World.block_lt_of_cell? w2 _ y3)).trans y3;have HG:=AA hbG;clear hbG0 hbG hroot
             by_cases hfr:fr=fn
             ·have t1:((fr:Int) !=(fn:Int))=false:=by simp[hfr]
              by_cases hwb:wb=cw
              ·have S:=AA (show Dd k (Ac k.cache j)=true by rw[TO2.out];simp[hfr,hwb])
               subst hwb;clear hfr;cases wb
               all_goals
                go_wp2_with fail;go_roundw
                case rel=>exact⟨j+1,by omega,by go_num,Ay Hpre.out S.out,HG.out⟩
                case measure=>simp[intOf];omega
              ·have S:=AA (KT.out (by rw[TO2.out];simp[hwb]))
               have hq:=AA hwb;clear hfr hwb;cases wb<;>cases cw
               ·exact absurd rfl hq.out
               ·go_wp2_with fail
                go_ret;exact⟨AK S.out.symm,HB0.out.trans (HG.out.mono HB0.out.size)⟩
               ·go_wp2_with fail
                go_ret;exact⟨AK S.out.symm,HB0.out.trans (HG.out.mono HB0.out.size)⟩
               ·exact absurd rfl hq.out
             ·have t1:((fr:Int) !=(fn:Int))=true:=by simp;omega
              have S:=AA (KT.out (by rw[TO2.out];simp[hfr]));clear hfr y3;go_wp2_with fail;go_ret;exact⟨AK S.out.symm,HB0.out.trans (HG.out.mono HB0.out.size)⟩
            ·rw[if_neg hc0] at CW0
             unfold Db at CW0;have CW:=AA CW0;have t1:(code !=0)=true:=by simp[hc0]
             have S:=AA (KT.out (by rw[TO2.out];simp[hc0]));clear CW0 hc0;go_wp2_with fail;refine(CW.out _ HBA.out).mono ?_;rintro e w2 ⟨rfl,hb2⟩;have hbG0:=HBA.out.trans (hb2.mono HBA.out.size);have HG:=AA (hbG0.trans ((AG w2 (.cells #[.int .i64 0, .int .i64 0, .bool false] 142)).mono hbG0.size));clear x0 x2 E1 y0 y1 y2 y3 hb2 hbG0 hroot;go_wp2_with fail;go_ret;exact⟨AK S.out.symm,HB0.out.trans (HG.out.mono HB0.out.size)⟩
          ·have S:=AA (Ul T1.out T2.out T3.out T4.out HEO.out HTR.out (fun j' hj'=>Hpre.out j' (by omega)))
           have hbG:=hbel;go_wp2_with fail;go_ret;exact⟨AK S.out.symm,HB0.out.trans (hbG.mono HB0.out.size)⟩
    ·have S:=AA (TZ e4)
     have n4:((k.envs.length:Int) !=3)=true:=by simp;omega
     clear e4;go_wp2_with fail;go_ret;exact⟨AK S.out.symm,HB0.out.trans (hb.mono HB0.out.size)⟩
theorem OL {k:AN} (h:De k):Q6 k:=by
 refine⟨fun x hx=>?_,fun j hj=>FW (h.rights j (by rw[h.envl] at hj;exact hj))⟩;obtain⟨f,hf⟩:=List.getElem?_of_mem hx;have hl:=(List.getElem?_eq_some_iff.1 hf).1;rw[h.len] at hl;have hi:=h.inf f hl;have e:infoAt k.infos f=x:=by unfold infoAt;rw[List.getD_eq_getElem?_getD,hf];rfl
 rw[e] at hi
 rcases hi with⟨_,g⟩|⟨_,_,g⟩
 ·rw[g];exact Nat.zero_le _
 ·unfold A4 at g
  rw[Bool.and_eq_true,decide_eq_true_eq] at g;have:=g.2;unfold maxLen;omega
structure Su (lo g:Nat) (o:Value) (st:AN×List Int) (w wr:World) (m i e c:Value):Prop where
 blk:wr.heap[g]? =some (.cells #[m,i,e,c] 29 (0,0))
 glo:lo≤g
 ker:∃vs,Ah lo wr m vs st.1.mem∧∀v∈vs,Fa o v
 inf:AJ lo 135 3 Ag wr i st.1.infos
 env:∃ps,Bm lo wr e ps st.1.envs
 cac:AJ lo 140 4 AP wr c st.1.cache
 out:AE lo wr o st.2
 bel:Below lo w wr
 lo:lo≤wr.heap.size
section
variable {lo g:Nat} {o m i e c:Value} {st:AN×List Int} {w wr w':World}
theorem Su.below (h:Su lo g o st w wr m i e c) (hb:Below wr.heap.size wr w'):Su lo g o st w w' m i e c:=by obtain⟨vs,h1,h2⟩:=h.ker;obtain⟨ps,h3⟩:=h.env;exact⟨AF h.blk hb,h.glo,⟨vs,h1.below hb,h2⟩,h.inf.below hb,⟨ps,h3.below hb⟩,h.cac.below hb,h.out.below hb,h.bel.trans (hb.mono h.lo),Nat.le_trans h.lo hb.size⟩
theorem Su.own (h:Su lo g o st w wr m i e c):Cz lo wr m i e c st.1:=by obtain⟨vs,h1,_⟩:=h.ker;exact⟨⟨vs,h1⟩,h.inf,h.env,h.cac⟩
theorem Su.start {k:AN} {w2:World} (O:Cz lo w2 m i e c k) (hb:Below lo w w2) (hl:lo≤w2.heap.size):Su lo w2.heap.size (.slice none 0 0) (k,[]) w (w2.alloc (.cells #[m,i,e,c] 29)) m i e c:=by
 have b3:=AG w2 (.cells #[m,i,e,c] 29);obtain⟨⟨vs,h1⟩,h2,⟨ps,h3⟩,h4⟩:=O.below b3;exact⟨heap_alloc_new _ _,hl,⟨vs,h1,fun v hv b hb'=>by simp[Value.ownBlock] at hb'⟩,h2,⟨ps,h3⟩,h4,World.ownsRow_nil _ _ _ _,hb.trans (b3.mono hl),Nat.le_trans hl b3.size⟩
theorem Su.put {m' i' e' c':Value} {k':AN} (h:Su lo g o st w wr m i e c) {w1:World} (hb:Below wr.heap.size wr w1) (O:Cz wr.heap.size w1 m' i' e' c' k'):
 Su lo g o (k',st.2) w ((((w1.setCell ⟨g,0,none⟩ m').setCell ⟨g,1,none⟩ i').setCell ⟨g,2,none⟩ e').setCell ⟨g,3,none⟩ c') m' i' e' c':=by
 have h':=h.below hb;have hgr:=BM w1 g m' i' e' c';obtain⟨⟨vs,h1⟩,h2,⟨ps,h3⟩,h4⟩:=O;refine⟨DJ h'.blk,h.glo,⟨vs,(h1.far hgr h'.blk (by decide) (by decide)).lower h.lo,fun v hv b hb1 hb2=>?_⟩,(h2.far hgr h'.blk (by decide)).lower h.lo,⟨ps,(h3.far hgr h'.blk (by decide) (by decide)).lower h.lo⟩,(h4.far hgr h'.blk (by decide)).lower h.lo,Ek h'.out hgr h'.blk (by decide),AT h'.bel hgr h.glo h'.lo,Nat.le_trans h'.lo hgr.size⟩;obtain⟨j,hj⟩:=List.getElem?_of_mem hv;have hlen:=h1.2.1.1;obtain⟨x,hx⟩:∃x,k'.mem[j]? =some x:=⟨_,List.getElem?_eq_getElem (by rw[←hlen];exact(List.getElem?_eq_some_iff.1 hj).1)⟩
 have:=(World.ownsRow.lt (h1.2.1.2 j v x hj hx) b hb2).1;have:=(World.ownsRow.lt h.out b hb1).2;omega
theorem Su.push {o':Value} {x:Int} (h:Su lo g o st w wr m i e c) (h1:w'.ownsRow lo 3 1 o' (st.2.length+1) (st.2.map (Value.int .i64)++[.int .i64 x])) (h2:wr.grownBy w' o.ownBlock) (h3:o'.ownBlock=o.ownBlock∨o'.ownBlock=some wr.heap.size) (h4:Below lo wr w'):
 Su lo g o' (st.1,st.2++[x]) w w' m i e c:=by
 obtain⟨vs,r1,r2⟩:=h.ker;obtain⟨ps,r3⟩:=h.env;have hne:=Bz h.out h.blk (by decide);refine⟨(h2.block g (Ao h.blk) (fun e=>hne e.symm)).trans h.blk,h.glo,⟨vs,⟨Av r1.1 h2 (BK r1.1 h.out (by decide)).ne,?_,r1.2.2⟩,?_⟩,Av h.inf h2 (BK h.inf h.out (by decide)).ne,⟨ps,Av r3.1 h2 (BK r3.1 h.out (by decide)).ne,r3.2.1.mono fun _ _ x=>⟨Av x.1 h2 (BK x.1 h.out (by decide)).ne,x.2⟩,r3.2.2⟩,Av h.cac h2 (BK h.cac h.out (by decide)).ne,by simpa[AE] using h1,h.bel.trans h4,Nat.le_trans h.lo h4.size⟩
 ·refine⟨r1.2.1.1,fun j u y hu hy=>Av (r1.2.1.2 j u y hu hy) h2 ?_⟩
  exact(r2 u (List.mem_of_getElem? hu)).symm.ne
 ·intro v hv
  obtain⟨j,hj⟩:=List.getElem?_of_mem hv;obtain⟨y,hy⟩:∃y,st.1.mem[j]? =some y:=⟨_,List.getElem?_eq_getElem (by rw[←r1.2.1.1];exact(List.getElem?_eq_some_iff.1 hj).1)⟩
  exact(r2 v hv).grown h3 (fun b hb=>(World.ownsRow.lt (r1.2.1.2 j v y hj hy) b hb).2)
end
theorem SS (w:World) (a b:Obj):((w.alloc a).alloc b).heap[w.heap.size]? =some a∧((w.alloc a).alloc b).heap[w.heap.size+1]? =some b∧Below w.heap.size w ((w.alloc a).alloc b)∧((w.alloc a).alloc b).heap.size=w.heap.size+2:=by have h1:=heap_alloc_new w a;have h2:=heap_alloc_new (w.alloc a) b;have h4:=AF h1 (AG _ b);simp only[World.size_alloc] at h2;exact⟨h4,h2,F3 w a b,by simp⟩
structure Ma (l:List Oper) (n:Nat) (a0:Act) (R:Nat→Value→World→Prop) (G:(Nat→Bool)→(Nat→Value)→World→Prop) (listed:Array Bool) (a:Act) (w:World):Prop where
 head:HeadInv .any l.toArray n listed
 defers:a.defers=a0.defers
 size:a.tmps.size=a0.tmps.size
 base:∀t,(∀i,i<n→AX l i≠t)→a.tmps[t]? =a0.tmps[t]?
 post:∀i,i<n→listed.getD i false=true→R i (a.tmps.getD (AX l i) undef) w
 glob:G (fun j=>listed.getD j false) (fun j=>a.tmps.getD (AX l j) undef) w
section
variable {P:Program}
theorem Ma.wpAny {l:List Oper} {n:Nat} {a0:Act} {R:Nat→Value→World→Prop} {G:(Nat→Bool)→(Nat→Value)→World→Prop} {Q:Exit→Act→World→Prop}
 (hB:IA l n=true) (hdst:∀i,i<n→AX l i<a0.tmps.size)
 (hstep:∀i,i<n→∀o,l[i]? =some o→∀a w,a.defers=a0.defers→a.tmps.size=a0.tmps.size→(∀t,(∀i,i<n→AX l i≠t)→a.tmps[t]? =a0.tmps[t]?)→
  (∀j,Region.waitsFor .any l.toArray i j=true→R j (a.tmps.getD (AX l j) undef) w)→∀L:Nat→Bool,L i=false→(∀j,Region.waitsFor .any l.toArray i j=true→L j=true)→(∀j j',L j=true→Region.waitsFor .any l.toArray j j'=true→L j'=true)→G L (fun j=>a.tmps.getD (AX l j) undef) w→
  ∀K:Act→World→Prop,(∀v w',R i v w'→(∀vs',vs' i=v→(∀j,j<n→j≠i→vs' j=a.tmps.getD (AX l j) undef)→G (JK L i) vs' w')→(∀j u,j≠i→j<n→L j=true→R j u w→R j u w')→K (a.put o.dst v) w')→AI P l o a w K Q)
 (htail:∀a w,a.defers=a0.defers→a.tmps.size=a0.tmps.size→(∀t,(∀i,i<n→AX l i≠t)→a.tmps[t]? =a0.tmps[t]?)→
  (∀i,i<n→R i (a.tmps.getD (AX l i) undef) w)→∀L:Nat→Bool,(∀i,i<n→L i=true)→G L (fun j=>a.tmps.getD (AX l j) undef) w→wpList P l.toArray Q (l.drop n) a w):
 ∀(f:Nat) (listed:Array Bool) (a:Act) (w:World),f=(l.length - n)+((List.range n).filter fun i=>!listed.getD i false).length→Ma l n a0 R G listed a w→Go.wpAny P .any l.toArray Q f listed a w:=by
 simp only[IA,Bool.and_eq_true,decide_eq_true_eq] at hB;obtain⟨⟨⟨⟨⟨⟨hn,hs⟩,hc⟩,hg⟩,hdis⟩,hseq⟩,hback⟩:=hB;have hgd:∀i,i<n→∃o d,l[i]? =some o∧o.dst=some d∧AX l i=d:=by
  intro i hi;have:=List.all_eq_true.1 hg i (List.mem_range.2 hi);cases ho:l[i]? with
  |none=>rw[ho] at this;cases this
  |some o=>rw[ho] at this;simp only[Option.isSome_iff_exists] at this;obtain⟨d,h2⟩:=this;exact⟨o,d,rfl,h2,by simp[AX,ho,h2]⟩
 have hne:∀i j,i<n→j<n→i≠j→AX l i≠AX l j:=by intro i j hi hj hij;have:=List.all_eq_true.1 (List.all_eq_true.1 hdis i (List.mem_range.2 hi)) j (List.mem_range.2 hj);simpa[hij] using this
 have hn':n<l.toArray.size:=by simpa using hn
 intro f
 induction f with
 |zero=>intro listed a w hf _;omega
 |succ f ih=>
  intro listed a w hf inv
  by_cases hall:∀i,i<n→listed.getD i false=true
  ·have hlisted:listed=Array.ofFn (n:=l.length) fun i=>decide (i.val<n):=by
    have hsz:listed.size=l.length:=by have:=inv.head.size;simpa using this
    apply Array.ext
    ·simp[hsz]
    ·intro i h1 h2
     simp only[Array.getElem_ofFn]
     by_cases hi:i<n
     ·have:=hall i hi
      simp[h1] at this;simp[hi,this]
     ·have:=inv.head.tail i (by omega) (by simpa[hsz] using h1)
      simp[h1] at this;simp[hi,this]
   have h0:((List.range n).filter fun i=>!listed.getD i false)=[]:=by rw[List.filter_eq_nil_iff];intro i hi;simp[hall i (List.mem_range.1 hi)]
   have hT:=htail a w inv.defers inv.size inv.base (fun i hi=>inv.post i hi (hall i hi)) _ hall inv.glob;have hW:=wpAny_of_seq (P:=P) (md:= .any) (ops:=l.toArray) (Q':=Q) (l.drop n) n listed a w (fun j=>by simp[List.getElem?_drop]) (by rw[hlisted];simpa using hseq) hT;have e:(l.drop n).length=f+1:=by rw[h0] at hf;simp at hf ⊢;omega
   rw[e] at hW;exact hW
  ·obtain⟨i0,hi0⟩:=Classical.not_forall.1 hall
   obtain⟨hi0n,hi0l⟩:=Classical.not_imp.1 hi0;have hi0f:listed.getD i0 false=false:=by simpa using hi0l
   have hsz:listed.size=l.length:=by have:=inv.head.size;simpa using this
   have hi0t:listed.getD i0 true=false:=getD_in (by omega) hi0f;refine⟨fun hr=>?_,fun i hi=>?_⟩
   ·exfalso
    have:∀k,k≤l.length→∀i,i<k→i<n→listed.getD i true=false→False:=by
     intro k
     induction k with
     |zero=>intro _ i hi;omega
     |succ k ihk=>
      intro hk i hik hin hun;have hnr:i∉Region.ready .any l.toArray listed:=by rw[hr];simp
      obtain⟨o,d,ho,_,_⟩:=hgd i hin;apply hnr;rw[mem_ready];refine⟨hun,o,by simpa using ho,fun e he hb=>?_⟩;have hlt:e.on<i:=by have:=List.all_eq_true.1 hback i (List.mem_range.2 (by omega));rw[ho] at this;simpa[hb] using Array.all_eq_true'.1 this e he
      cases hx:listed.getD e.on false with
      |true=>rfl
      |false=>exact(ihk (by omega) e.on (by omega) (by omega) (getD_in (by omega) hx)).elim
    exact this l.length (Nat.le_refl _) i0 (by omega) hi0n hi0t
   ·have hin:i<n:=by
     rcases Nat.lt_or_ge i n with h|h
     ·exact h
     ·exact absurd hi (tail_waits hs hc hn' inv.head _ i0 rfl hi0n hi0t i h)
    obtain⟨o,d,ho,hod,hdo⟩:=hgd i hin;obtain⟨hun,o',ho',hdep⟩:=mem_ready.1 hi;obtain rfl:o'=o:=by
     have:l[i]? =some o':=by simpa using ho'
     rw[ho] at this;exact(So_ this).symm
    have hdeps:∀j,Region.waitsFor .any l.toArray i j=true→R j (a.tmps.getD (AX l j) undef) w:=by
     intro j hj;obtain⟨oj,hoj,e,he,hb,rfl⟩:=Region.waitsFor_spec hj;obtain rfl:oj=o':=So_ (hoj.symm.trans ho');have hlt:e.on<i:=by have:=List.all_eq_true.1 hback i (List.mem_range.2 (by omega));rw[ho] at this;simpa[hb] using Array.all_eq_true'.1 this e he
     exact inv.post e.on (by omega) (hdep e he hb)
    unfold Go.wpOp;rw[ho'];have hlis:∀j,Region.waitsFor .any l.toArray i j=true→listed.getD j false=true:=by intro j hj;obtain⟨oj,hoj,e,he,hb,rfl⟩:=Region.waitsFor_spec hj;obtain rfl:oj=o':=So_ (hoj.symm.trans ho');exact hdep e he hb
    suffices H:∀K:Act→World→Prop,(∀v w',R i v w'→(∀vs',vs' i=v→(∀j,j<n→j≠i→vs' j=a.tmps.getD (AX l j) undef)→G (JK (fun j=>listed.getD j false) i) vs' w')→(∀j u,j≠i→j<n→listed.getD j false=true→R j u w→R j u w')→K (a.put o'.dst v) w')→AI P l o' a w K Q by
     have hK:=H (Go.wpAny P .any l.toArray Q f (listed.setIfInBounds i true)) ?_
     ·cases hwt:Region.wanted o' (yielded l.toArray a.tmps) with
      |true=>dsimp only;rw[hwt,if_pos rfl];exact .inl (hK.1 hwt)
      |false=>dsimp only;rw[hwt,if_neg Bool.false_ne_true];exact hK.2 hwt
     ·intro v w' hR hG' hkeep
      have hcount:f=(l.length - n)+((List.range n).filter fun k=>!(listed.setIfInBounds i true).getD k false).length:=by
       have hone:((List.range n).filter fun k=>!listed.getD k false).length=((List.range n).filter fun k=>!(listed.setIfInBounds i true).getD k false).length+1:=by
        have hmem:i∈(List.range n).filter fun k=>!listed.getD k false:=by rw[List.mem_filter];exact⟨List.mem_range.2 hin,by simp[getD_both hun]⟩
        have hnd:((List.range n).filter fun k=>!listed.getD k false).Nodup:=List.nodup_range.filter _;have he:((List.range n).filter fun k=>!(listed.setIfInBounds i true).getD k false)=((List.range n).filter fun k=>!listed.getD k false).erase i:=by
         rw[hnd.erase_eq_filter,List.filter_filter];refine List.filter_congr fun k hk=>?_
         by_cases hki:k=i
         ·subst hki
          simp[EW (show k<listed.size by omega)]
         ·rw[getD_set_ne false (Ne.symm hki)]
          simp[hki]
        rw[he,List.length_erase_of_mem hmem];have:=List.length_pos_of_mem hmem;omega
       omega
      refine ih _ _ _ hcount ⟨inv.head.set hi hin,?_,?_,?_,?_,?_⟩
      ·rw[hod];exact inv.defers
      ·rw[hod];simpa[Act.put] using inv.size
      ·intro t ht
       rw[hod];simp only[Act.put];rw[Array.getElem?_setIfInBounds_ne (by rw[←hdo];exact ht i hin)];exact inv.base t ht
      ·intro j hj hjl
       rw[hod];simp only[Act.put]
       by_cases hji:j=i
       ·subst hji
        rw[hdo];have:d<a.tmps.size:=by rw[←hdo,inv.size];exact hdst j hj
        simpa[this] using hR
       ·have hjl':listed.getD j false=true:=by rwa [getD_set_ne false (Ne.symm hji)] at hjl
        have h1:=hkeep j _ hji hj hjl' (inv.post j hj hjl');have e:(a.tmps.setIfInBounds d v).getD (AX l j) undef=a.tmps.getD (AX l j) undef:=by
         have:d≠AX l j:=by rw[←hdo];exact hne i j hin hj (Ne.symm hji)
         simp only[Array.getD_eq_getD_getElem?];rw[Array.getElem?_setIfInBounds_ne this]
        rw[e];exact h1
      ·have eL:(fun j=>(listed.setIfInBounds i true).getD j false)=JK (fun j=>listed.getD j false) i:=by
        funext j
        unfold JK
        by_cases hji:j=i
        ·subst hji
         rw[if_pos rfl,EW (by omega)]
        ·rw[if_neg hji,getD_set_ne false (Ne.symm hji)]
       rw[eL];refine hG' _ ?_ (fun j hj hji=>?_)
       ·show(a.put o'.dst v).tmps.getD (AX l i) undef=v
        rw[hod];simp only[Act.put];rw[hdo];have:d<a.tmps.size:=by rw[←hdo,inv.size];exact hdst i hin
        simp[this]
       ·show(a.put o'.dst v).tmps.getD (AX l j) undef=a.tmps.getD (AX l j) undef
        rw[hod];simp only[Act.put];have:d≠AX l j:=by rw[←hdo];exact hne i j hin hj (Ne.symm hji)
        simp only[Array.getD_eq_getD_getElem?];rw[Array.getElem?_setIfInBounds_ne this]
    have hclo:∀j j',listed.getD j false=true→Region.waitsFor .any l.toArray j j'=true→listed.getD j' false=true:=by intro j j' hj hw;obtain⟨oj,hoj,e,he,hb,rfl⟩:=Region.waitsFor_spec hw;exact inv.head.closed j oj hoj hj e he hb
    exact fun K hK=>hstep i hin o' ho a w inv.defers inv.size inv.base hdeps _ (getD_both hun) hlis hclo inv.glob K hK
theorem Li {id:Nat} {Q:Exit→Act→World→Prop} {a0:Act} {w0:World} {l:List Oper} (n:Nat) (hm:P.follows .mixedOrders=true) (hB:IA l n=true)
 (N:Nat) (hN:a0.tmps.size=N) (hD:UV l n N=true) (R:Nat→Value→World→Prop) (G:(Nat→Bool)→(Nat→Value)→World→Prop) (hG:∀vs,G (fun _=>false) vs {w0 with drawn:=w0.drawn+1})
 (hstep:∀i,i<n→∀o,l[i]? =some o→∀a w,Hid (a.defers=a0.defers∧a.tmps.size=a0.tmps.size∧∀t,(∀i,i<n→AX l i≠t)→a.tmps[t]? =a0.tmps[t]?)→
  Hid (∀j,Region.waitsFor .any l.toArray i j=true→R j (a.tmps[AX l j]?.getD undef) w)→∀L:Nat→Bool,Hid (L i=false∧(∀j,Region.waitsFor .any l.toArray i j=true→L j=true)∧∀j j',L j=true→Region.waitsFor .any l.toArray j j'=true→L j'=true)→G L (fun j=>a.tmps.getD (AX l j) undef) w→
  ∀K:Act→World→Prop,Hid (∀v w',R i v w'→(∀vs',vs' i=v→(∀j,j<n→j≠i→vs' j=a.tmps.getD (AX l j) undef)→G (JK L i) vs' w')→(∀j u,j≠i→j<n→L j=true→R j u w→R j u w')→K (a.put o.dst v) w')→AI P l o a w K Q)
 (htail:∀(vs:Nat→Value) w,(∀i,i<n→R i (vs i) w)→∀L:Nat→Bool,(∀i,i<n→L i=true)→G L vs w→wpList P l.toArray Q (l.drop n) {a0 with tmps:=Ai l (List.range n) vs a0.tmps} w):
 (Code.region id l.toArray true).wp P Q a0 w0:=by
 have hdst:∀i,i<n→AX l i<a0.tmps.size:=fun i hi=>by have:=List.all_eq_true.1 hD i (List.mem_range.2 hi);rw[hN];simpa using this
 refine wp_region_any hm ?_;refine Ma.wpAny (a0:=a0) (R:=R) (G:=G) hB hdst (fun i hi o ho a w h1 h2 h3 h4 L h6 h7 h8 h5 K hK=>hstep i hi o ho a w (AA ⟨h1,h2,h3⟩) (AA fun j hj=>by have:=h4 j hj;rwa [Array.getD_eq_getD_getElem?] at this) L (AA ⟨h6,h7,h8⟩) h5 K (AA hK)) (fun a w h1 h2 h3 h4 L h6 h5=>?_) _ _ _ _ ?_ ⟨⟨by simp,fun j oj _ hl=>(by rw[getD_replicate_false] at hl;cases hl),fun t _ ht=>getD_in (by simpa using ht) (getD_replicate_false _ _)⟩,rfl,rfl,fun _ _=>rfl,fun i _ hl=>(by rw[getD_replicate_false] at hl;cases hl),(show G (fun j=>(Array.replicate l.toArray.size false).getD j false) _ _ from(funext fun j=>getD_replicate_false _ _:(fun j=>(Array.replicate l.toArray.size false).getD j false)=fun _=>false)▸hG _)⟩
 ·have e:=OJ l (List.range n) a0.tmps a.tmps h2 (fun t ht=>h3 t fun i hi=>ht i (List.mem_range.2 hi))
  have:=htail (fun i=>a.tmps.getD (AX l i) undef) w h4 L h6 h5;rw[←e] at this;obtain⟨tm,df⟩:=a;dsimp only at h1 this;subst h1;exact this
 ·have hn:n<l.length:=by
   simp only[IA,Bool.and_eq_true,decide_eq_true_eq] at hB;exact hB.1.1.1.1.1.1
  have:((List.range n).filter fun i=>!(Array.replicate l.toArray.size false).getD i false)=List.range n:=by rw[List.filter_eq_self];intro i _;rw[getD_replicate_false];rfl
  rw[this];simp;omega
theorem Nb {id:Nat} {Q:Exit→Act→World→Prop} {a0:Act} {w0:World} {l:List Oper} (n:Nat) (hm:P.follows .mixedOrders=true) (hB:IA l n=true)
 (N:Nat) (hN:a0.tmps.size=N) (hD:UV l n N=true) (i1 i2:Nat) (hw:Region.waitsFor .any l.toArray i2 i1=true) (h1n:i1<n) (h2n:i2<n) (Pair:Value→Value→Prop) (R:Nat→Value→World→Prop) (hmono:∀i,i<n→∀v w w',Below w.heap.size w w'→R i v w→R i v w')
 (hstep:∀i,i<n→i≠i2→∀o,l[i]? =some o→∀a w,Hid (a.defers=a0.defers∧a.tmps.size=a0.tmps.size∧∀t,(∀i,i<n→AX l i≠t)→a.tmps[t]? =a0.tmps[t]?)→
  Hid (∀j,Region.waitsFor .any l.toArray i j=true→R j (a.tmps[AX l j]?.getD undef) w)→Below w0.heap.size w0 w→
  ∀K:Act→World→Prop,Hid (∀v w',R i v w'→Below w.heap.size w w'→K (a.put o.dst v) w')→AI P l o a w K Q)
 (hpair:∀o,l[i2]? =some o→∀a w,Hid (a.defers=a0.defers∧a.tmps.size=a0.tmps.size∧∀t,(∀i,i<n→AX l i≠t)→a.tmps[t]? =a0.tmps[t]?)→
  Hid (∀j,Region.waitsFor .any l.toArray i2 j=true→R j (a.tmps[AX l j]?.getD undef) w)→Below w0.heap.size w0 w→
  ∀K:Act→World→Prop,Hid (∀v w',R i2 v w'→Pair (a.tmps[AX l i1]?.getD undef) v→Below w.heap.size w w'→K (a.put o.dst v) w')→AI P l o a w K Q)
 (htail:∀(vs:Nat→Value) w,(∀i,i<n→R i (vs i) w)→Pair (vs i1) (vs i2)→Below w0.heap.size w0 w→wpList P l.toArray Q (l.drop n) {a0 with tmps:=Ai l (List.range n) vs a0.tmps} w):
 (Code.region id l.toArray true).wp P Q a0 w0:=by
 refine Li n hm hB N hN hD R (fun L vs w=>Below w0.heap.size w0 w∧(L i2=true→Pair (vs i1) (vs i2))) (fun vs=>⟨⟨rfl,rfl,rfl,Nat.le_refl _,fun _ _=>rfl⟩,fun h=>by cases h⟩) ?_ (fun vs w h1 L hL h2=>htail vs w h1 (h2.2 (hL i2 h2n)) h2.1);intro i hi o ho a w Hb Hd L HL hG K HK;have up:∀{w':World},Below w.heap.size w w'→Below w0.heap.size w0 w':=fun h2=>hG.1.trans ⟨h2.os,h2.tape,h2.output,h2.size,fun k hk=>h2.block k (Nat.lt_of_lt_of_le hk hG.1.size)⟩
 by_cases e2:i=i2
 ·subst e2
  refine hpair o ho a w Hb Hd hG.1 K (AA fun v w' h1 hp h2=>HK.out v w' h1 (fun vs' hv ho'=>⟨up h2,fun _=>?_⟩) (fun j u _ hj _ h=>hmono j hj u w w' h2 h));have hne:i1≠i:=fun e=>by have:=HL.out.2.1 i1 hw;rw[e,HL.out.1] at this;cases this
  rw[hv,ho' i1 h1n hne,Array.getD_eq_getD_getElem?];exact hp
 ·refine hstep i hi e2 o ho a w Hb Hd hG.1 K (AA fun v w' h1 h2=>HK.out v w' h1 (fun vs' hv ho'=>⟨up h2,fun hl=>?_⟩) (fun j u _ hj _ h=>hmono j hj u w w' h2 h))
  have hl2:L i2=true:=by unfold JK at hl;rwa [if_neg (Ne.symm e2)] at hl
  have e1:i1≠i:=fun e=>by have:=HL.out.2.2 i2 i1 hl2 hw;rw[e,HL.out.1] at this;cases this
  have:=hG.2 hl2;rw[ho' i1 h1n e1,ho' i2 h2n (Ne.symm e2)];exact this
end
end Go.Proofs.YtnieoiclifjoaaaGreatDoor
