/-
  Packed:12 texts.
-/
import Derived.Test.YtinbcpipjfljeaaGreatDoorY5
import Derived.Test.YtinbcpipjfljeaaGreatDoorY4
import Derived.Test.YtinbcpipjfljeaaGreatDoorY1
set_option linter.unusedVariables false
set_option linter.unusedSimpArgs false
set_option maxHeartbeats 16000000
set_option maxRecDepth 100000
open Go Go.Proofs.YtinbcpipjfljeaaGreatDoor
open And renaming intro->ye
open _root_.Array renaming all_eq_true'->vJ,getD_eq_getD_getElem?->xo,getElem?_setIfInBounds_ne->xL,replicate->wJ
open Bool renaming and_eq_true->yt
open Go.Act renaming put->vN
open Go.Lib renaming toList_data->xz
open Go.Region renaming waitsFor->ym,waitsFor_spec->wW
open Go.RowKit.Below renaming refl->yF
open Go.Value renaming int->yf
open Go.World renaming block_lt_of_cell?->yC,size_alloc->xG
open Go.World.ownsRow renaming cellAt->xC,frozenAt->xP,lt->yr
open Go renaming cell_of_row->yi,getD_replicate_false->xM,getD_set_ne->wC,heap_alloc_new->yw,heap_setCell_same->yu
open Int renaming toNat_natCast->xY
open List renaming all_eq_true->yk,foldl_cons->yA,foldl_nil->yy,getD_eq_getElem?_getD->xU,getElem?_eq_getElem->yx,getElem?_eq_some_iff->yq,getElem?_of_mem->xA,getElem?_set->vm,length_append->yl,length_set->xV,length_singleton->xO,mem_range->yj,range->yE,replicate->xX
open List.range renaming loop->yB
open Nat renaming add_zero->xQ,le_refl->yv,le_trans->yD,lt_of_lt_of_le->xZ,not_lt_zero->xR,zero_le->yh
open Ne renaming symm->wH
variable {k:AN} {c' e' i' iv m' qv sv v:Value}
namespace Go.Proofs.YtinbcpipjfljeaaGreatDoor
open Go.Proofs.Tryz
def Eh (k:AN) (r:L8):Prop:=(r.2.2≠0->r=(k,0,r.2.2))/\0<=r.2.2/\r.2.2<=4
theorem Eh.code {n:Int} (h0:0<=n) (h4:n<=4):Eh k (k,0,n):=⟨fun _=>rfl,h0,h4⟩
theorem Eh.done {k':AN} {v:Int}:Eh k (k',v,0):=⟨fun h=>absurd rfl h,by show(0:Int)<=0;omega,by show(0:Int)<=4;omega⟩
theorem Eh.zD {p:Prop} [Decidable p] {a b:L8} (ha:Eh k a) (hb:Eh k b):Eh k (if p then a else b):=by split<;>assumption
theorem Pj {r:List AU×Int}:Eh k (EA k r):=by
 unfold EA Mi
 split
 .exact .done
 .split
  .exact .code (by omega) (by omega)
  .exact .code (by omega) (by omega)
theorem YD {c:Ab}:Eh k (Ad k c):=by
 have c1:Eh k (k,0,1):= .code (by omega) (by omega);have c2:Eh k (k,0,2):= .code (by omega) (by omega);have c3:Eh k (k,0,3):= .code (by omega) (by omega);have c4:Eh k (k,0,4):= .code (by omega) (by omega);unfold Ad;refine .zD (.zD c3 (.zD c1 (.zD c4 .done))) (.zD ?_ (.zD ?_ (.zD ?_ (.zD ?_ (.zD ?_ c3)))))
 .unfold Gb
  refine .zD c3 (.zD c1 (.zD (.zD c3 (.zD c2 .done)) (.zD (.zD c3 .done) (.zD Pj (.zD Pj ?_)))));unfold Gt;exact .zD c3 (.zD c1 (.zD c1 .done))
 .unfold OK
  exact .zD c3 (.zD c1 .done)
 .unfold Kx
  exact .zD c3 (.zD c1 (.zD c4 .done))
 .unfold Jg
  exact .zD c3 (.zD c1 (.zD c2 .done))
 .unfold QI
  exact .zD c3 (.zD c3 (.zD c1 (.zD .done .done)))
theorem PA {k:AN} {c:Ab} (h:(Ad k c).2.2≠0):Ad k c=(k,0,(Ad k c).2.2):=YD.1 h
theorem Oz {kind e a b c:Int} {s t:ByteArray} (h:kind≠1/\kind≠8/\kind≠9):Ad k ⟨kind,e,a,b,c,s⟩=Ad k ⟨kind,e,a,b,c,t⟩:=by unfold Ad;simp only[h.1,h.2.1,h.2.2,if_false];rfl
open Go.RowKit
def M8 (w:World) (res:L8) (e:Ending) (w':World):Prop:=∃m i ev c,e= .returned (.tuple #[.agg #[m,i,ev,c], .int .i64 res.2.1, .int .i64 res.2.2])/\DO w.heap.size w' m i ev c res.1/\Below w.heap.size w w'
theorem DO.lower {lo lo':Nat} {w:World} {m i e c:Value} (h:DO lo w m i e c k) (hl:lo'<=lo):DO lo' w m i e c k:=
 ⟨⟨_,h.1.choose_spec.lower hl⟩,h.2.1.lower hl,⟨_,h.2.2.1.choose_spec.lower hl⟩,h.2.2.2.lower hl⟩
theorem DO.yN {lo g:Nat} {w w':World} {m i e c:Value} {cs:Array Value} {T:Nat} {fr:Nat×Nat} (h:DO lo w m i e c k) (hg:w.grownBy w' (some g)) (hB:w.heap[g]? =some (.cells cs T fr))
 (h1:29≠T:=by decide) (h2:3≠T:=by decide) (h3:93≠T:=by decide) (h4:62≠T:=by decide) (h5:9≠T:=by decide) (h6:98≠T:=by decide):DO lo w' m i e c k:=
 ⟨⟨_,h.1.choose_spec.yN hg hB h1 h2⟩,h.2.1.yN hg hB h3,⟨_,h.2.2.1.choose_spec.yN hg hB h4 h5⟩,h.2.2.2.yN hg hB h6⟩
theorem Oy {w:World} {g t:Nat} {a b c d e f:Value} (h:w.heap[g]? =some (.cells #[a,b,c,d,e,f] t (0,0))):w.cell? ⟨g,0,none⟩=some a/\w.cell? ⟨g,1,none⟩=some b/\w.cell? ⟨g,2,none⟩=some c/\w.cell? ⟨g,3,none⟩=some d/\w.cell? ⟨g,4,none⟩=some e/\w.cell? ⟨g,5,none⟩=some f:=
 ⟨yi w g 0 _ _ _ h,yi w g 1 _ _ _ h,yi w g 2 _ _ _ h,yi w g 3 _ _ _ h,yi w g 4 _ _ _ h,yi w g 5 _ _ _ h⟩
theorem Ao (w:World) (g:Nat) (a b c d:Value):w.grownBy ((((w.setCell ⟨g,0,none⟩ a).setCell ⟨g,1,none⟩ b).setCell ⟨g,2,none⟩ c).setCell ⟨g,3,none⟩ d) (some g):=
 An (An (An (Aq w g 0 a) 1 b) 2 c) 3 d
theorem DO.zS {lo:Nat} {w:World} {m i e c:Value} (h:DO lo w m i e c k):(∃a n q,m= .slice a n q)/\(∃a n q,i= .slice a n q)/\(∃a n q,e= .slice a n q)/\∃a n q,c= .slice a n q:=by obtain⟨⟨_,h1⟩,h2,⟨_,h3⟩,h4⟩:=h;obtain⟨_,_,rfl,_,_⟩:=h1.1.rd.shape;obtain⟨_,_,rfl,_,_⟩:=h2.rd.shape;obtain⟨_,_,rfl,_,_⟩:=h3.1.rd.shape;obtain⟨_,_,rfl,_,_⟩:=h4.rd.shape;exact⟨⟨_,_,_,rfl⟩,⟨_,_,_,rfl⟩,⟨_,_,_,rfl⟩,⟨_,_,_,rfl⟩⟩
theorem KW (w:World) (a b c:Obj):(((w.alloc a).alloc b).alloc c).heap[w.heap.size]? =some a/\(((w.alloc a).alloc b).alloc c).heap[w.heap.size+1]? =some b/\(((w.alloc a).alloc b).alloc c).heap[w.heap.size+1+1]? =some c/\Below w.heap.size w (((w.alloc a).alloc b).alloc c)/\(((w.alloc a).alloc b).alloc c).heap.size=w.heap.size+3:=by have h1:=yw w a;have h2:=yw (w.alloc a) b;have h3:=yw ((w.alloc a).alloc b) c;have h4:=AC (AC h1 (AD _ b)) (AD _ c);have h5:=AC h2 (AD _ c);simp only[xG] at h2 h3 h5;refine⟨h4,h5,h3,(Gu w a b).trans ((AD _ c).mono (Gu w a b).size),by simp⟩
theorem JS {w:World} {g t:Nat} {m i e c:Value} (h:w.heap[g]? =some (.cells #[m,i,e,c] t (0,0))):((((w.setCell ⟨g,0,none⟩ m').setCell ⟨g,1,none⟩ i').setCell ⟨g,2,none⟩ e').setCell ⟨g,3,none⟩ c').cell? ⟨g,0,none⟩=some m'/\((((w.setCell ⟨g,0,none⟩ m').setCell ⟨g,1,none⟩ i').setCell ⟨g,2,none⟩ e').setCell ⟨g,3,none⟩ c').cell? ⟨g,1,none⟩=some i'/\((((w.setCell ⟨g,0,none⟩ m').setCell ⟨g,1,none⟩ i').setCell ⟨g,2,none⟩ e').setCell ⟨g,3,none⟩ c').cell? ⟨g,2,none⟩=some e'/\((((w.setCell ⟨g,0,none⟩ m').setCell ⟨g,1,none⟩ i').setCell ⟨g,2,none⟩ e').setCell ⟨g,3,none⟩ c').cell? ⟨g,3,none⟩=some c':=AF (Cs h)
theorem VH (m i e c:Value) (k:AN) (call:Ab) (w:World) (h:MM w m i e c k) (hk:DI k) (he:0<=call.e) (hn:call.e<3) (dA:call.nm.size<=maxLen) (eo:Jb call) (dh:call.c<=9223372036854775807):
 Calls prog 119 #[.agg #[m,i,e,c], .agg #[.int .i64 call.k, .int .i64 call.e, .int .i64 call.a, .int .i64 call.b, .int .i64 call.c, .string call.nm]] w (M8 w (Ad k call)):=by
 have C:=AA (fun(lo g:Nat) (w:World) (m i e c:Value) (h:Ic lo w g m i e c k) (bl:lo<=w.heap.size)=>ZX h bl hk call he hn dA eo dh);have HR:=AA h;have HK:=AA hk;have HN:=AA (@PA k call);generalize Ad k call=res at C HN ⊢;obtain⟨kr,vr,nr⟩:=res;obtain⟨ck,ce,ca,cb,cc,nm⟩:=call;simp only[Ab.on,Ab.onCells] at C;clear he hn dA dh h hk;go_in;go_wp2_with fail;obtain⟨B0,B1,B2,bB,fH⟩:=KW w (.cells #[m,i,e,c] 28) (.cells #[.int .i64 ck, .int .i64 ce, .int .i64 ca, .int .i64 cb, .int .i64 cc, .string nm] 79) (.cells #[.slice none 0 0, .slice none 0 0, .slice none 0 0, .slice none 0 0] 28);generalize((w.alloc _).alloc _).alloc _=W0 at*;refine(TD m i e c k W0 (HR.out.below bB) HK.out).mono ?_;rintro r w1 ⟨m1,i1,e1,c1,rfl,O1,b1⟩;have eT:=b1.size;obtain⟨⟨ma,mn,mc,rfl⟩,⟨ia,iN,ic,rfl⟩,⟨ea,en,ec,rfl⟩,⟨qa,qn,qc,rfl⟩⟩:=O1.zS;have N3:=yw w1 (.cells #[.slice ma mn mc, .slice ia iN ic, .slice ea en ec, .slice qa qn qc] 28);have b2:=AD w1 (.cells #[.slice ma mn mc, .slice ia iN ic, .slice ea en ec, .slice qa qn qc] 28);obtain⟨y0,y1,y2,y3,y4,y5⟩:=Oy (AC (AC B1 b1) b2);have hI:=AA (show Ic W0.heap.size _ w1.heap.size _ _ _ _ k from⟨N3,eT,O1.below b2⟩);have au:=AA (b1.trans (b2.mono eT));clear N3 O1 b1 b2 B1;go_wp2_with fail;refine(C.out _ _ _ _ _ _ _ hI.out (by have:=au.out.size;omega)).mono ?_;rintro r w3 ⟨rfl,eq,b3⟩;have cP:=au.out.trans b3;have bg:w.heap.size+1+1<W0.heap.size:=by omega
 have eO:=(cP.block _ (by omega)).trans B0;have cI:=(cP.block _ (by omega)).trans B2;have cF:=AA (bB.trans (cP.mono bB.size));clear y0 y1 y2 y3 y4 y5 hI au b3 B0 B2 C
 by_cases h0:nr=0
 focus
  subst h0
  have t0:((0:Int)==0)=true:=rfl;obtain⟨m',i',e',c',dD⟩:=eq rfl;obtain⟨⟨dY,dW,dX,rfl⟩,⟨ee,ef,d0,rfl⟩,⟨eG,eE,eF,rfl⟩,⟨dT,dQ,dS,rfl⟩⟩:=dD.2.2.zS;obtain⟨x0,x1,x2,x3⟩:=dD.cells;have cq:=AK cI;obtain⟨z0,z1,z2,z3⟩:=AF cI;obtain⟨E0,E1,E2,E3⟩:=JS (m':= .slice dY dW dX) (i':= .slice ee ef d0) (e':= .slice eG eE eF) (c':= .slice dT dQ dS) cI;have HE:=AA (ye E0 (ye E1 (ye E2 E3)));have az:=Ao w3 (w.heap.size+1+1) (.slice dY dW dX) (.slice ee ef d0) (.slice eG eE eF) (.slice dT dQ dS);have fp:=AA (show DO w.heap.size _ (.slice dY dW dX) (.slice ee ef d0) (.slice eG eE eF) (.slice dT dQ dS) kr from(dD.2.2.yN az cI).lower bB.size);have fv:=AA (AM cF.out az (by omega) cF.out.size);clear E0 E1 E2 E3 dD eq az eO cI HN cP
 rotate_left
 focus
  have t0:(nr==0)=false:=by simp[h0]
  have hN:=HN.out h0;simp only[Prod.mk.injEq,and_true] at hN;obtain⟨rfl,rfl⟩:=hN;obtain⟨x0,x1,x2,x3⟩:=AF eO;clear eq;go_wp2_with fail;refine(TD m i e c kr w3 (HR.out.below cF.out) HK.out).mono ?_;rintro r w4 ⟨m4,i4,e4,c4,rfl,O4,b4⟩;have B4:=AC cI b4;have cq:=AK B4;obtain⟨z0,z1,z2,z3⟩:=AF B4;obtain⟨E0,E1,E2,E3⟩:=JS (m':=m4) (i':=i4) (e':=e4) (c':=c4) B4;have HE:=AA (ye E0 (ye E1 (ye E2 E3)));have az:=Ao w4 (w.heap.size+1+1) m4 i4 e4 c4;have fp:=AA (show DO w.heap.size _ m4 i4 e4 c4 kr from(O4.yN az B4).lower cF.out.size);have fv:=AA (AM (cF.out.trans (b4.mono cF.out.size)) az (by omega) (by have:=cF.out.size;have:=b4.size;omega));obtain⟨⟨_,_,_,rfl⟩,⟨_,_,_,rfl⟩,⟨_,_,_,rfl⟩,⟨_,_,_,rfl⟩⟩:=O4.zS;clear E0 E1 E2 E3 O4 b4 B4 az eO cI x0 x1 x2 x3
 rotate_left
 all_goals
  go_wp2_with fail;exact bodyPost_ret (v:= .tuple #[.agg #[_,_,_,_],_,_]) (by simp[results,Tryz.results119,go_sem,HE.out]) rfl ⟨_,_,_,_,rfl,fp.out,fv.out⟩
def Lr (w:World) (m i e c s l q:Value) (P:AR):Prop:=MM w m i e c P.zX/\Bc w s P.swap/\Ax w l P.low/\BJ 3 Cz w q P.No
structure Ez (lo:Nat) (w:World) (m i e c s l q:Value) (P:AR):Prop where
 ker:DO lo w m i e c P.zX
 swp:∃vs,At lo w s vs P.swap
 low:AG lo w l P.low
 pgs:AP lo 40 3 Cz w q P.No
 apart:Fa m s
structure Gg (lo g:Nat) (w:World) (m i e c s l q:Value) (P:AR):Prop where
 yM:w.heap[g]? =some (.cells #[m,i,e,c,s,l,q, .int .i64 P.zT, .int .i64 P.zW] 32 (0,0))
 yL:lo<=g
 own:Ez lo w m i e c s l q P
section
variable {lo g:Nat} {w w':World} {m i e c s l q:Value} {P:AR}
theorem Lr.below (h:Lr w m i e c s l q P) (hb:Below w.heap.size w w'):Lr w' m i e c s l q P:=⟨h.1.below hb,h.2.1.below hb,h.2.2.1.below hb,BJ.below h.2.2.2 hb⟩
theorem Ez.rd (h:Ez lo w m i e c s l q P):Lr w m i e c s l q P:=⟨h.ker.rd,h.swp.choose_spec.rd,h.low.rd,h.pgs.rd⟩
theorem Ez.below (h:Ez lo w m i e c s l q P) (hb:Below w.heap.size w w'):Ez lo w' m i e c s l q P:=⟨h.ker.below hb,⟨_,h.swp.choose_spec.below hb⟩,h.low.below hb,h.pgs.below hb,h.apart⟩
theorem Ez.lower {lo':Nat} (h:Ez lo w m i e c s l q P) (hl:lo'<=lo):Ez lo' w m i e c s l q P:=⟨h.ker.lower hl,⟨_,h.swp.choose_spec.lower hl⟩,BR h.low hl,BR h.pgs hl,h.apart⟩
theorem Ez.yN {g T:Nat} {cs:Array Value} {fr:Nat×Nat} (h:Ez lo w m i e c s l q P) (hg:w.grownBy w' (some g)) (hB:w.heap[g]? =some (.cells cs T fr))
 (h1:29≠T:=by decide) (h2:3≠T:=by decide) (h3:93≠T:=by decide) (h4:62≠T:=by decide) (h5:9≠T:=by decide) (h6:98≠T:=by decide) (h7:40≠T:=by decide):Ez lo w' m i e c s l q P:=
 ⟨h.ker.yN hg hB h1 h2 h3 h4 h5 h6,⟨_,h.swp.choose_spec.yN hg hB h1 h2⟩,Eo h.low hg hB h2,h.pgs.yN hg hB h7,h.apart⟩
theorem Gg.below (h:Gg lo g w m i e c s l q P) (hb:Below w.heap.size w w'):Gg lo g w' m i e c s l q P:=⟨AC h.yM hb,h.yL,h.own.below hb⟩
theorem AE {t:Nat} {a0 a1 a2 a3 a4 a5 a6 a7 a8:Value} (h:w.heap[g]? =some (.cells #[a0,a1,a2,a3,a4,a5,a6,a7,a8] t (0,0))):
 w.cell? ⟨g,0,none⟩=some a0/\w.cell? ⟨g,1,none⟩=some a1/\w.cell? ⟨g,2,none⟩=some a2/\w.cell? ⟨g,3,none⟩=some a3/\w.cell? ⟨g,4,none⟩=some a4/\w.cell? ⟨g,5,none⟩=some a5/\w.cell? ⟨g,6,none⟩=some a6/\w.cell? ⟨g,7,none⟩=some a7/\w.cell? ⟨g,8,none⟩=some a8:=
 ⟨yi w g 0 _ _ _ h,yi w g 1 _ _ _ h,yi w g 2 _ _ _ h,yi w g 3 _ _ _ h,yi w g 4 _ _ _ h,yi w g 5 _ _ _ h,yi w g 6 _ _ _ h,yi w g 7 _ _ _ h,yi w g 8 _ _ _ h⟩
theorem Gg.cells (h:Gg lo g w m i e c s l q P):w.cell? ⟨g,0,none⟩=some m/\w.cell? ⟨g,1,none⟩=some i/\w.cell? ⟨g,2,none⟩=some e/\w.cell? ⟨g,3,none⟩=some c/\w.cell? ⟨g,4,none⟩=some s/\w.cell? ⟨g,5,none⟩=some l/\w.cell? ⟨g,6,none⟩=some q/\w.cell? ⟨g,7,none⟩=some (.int .i64 P.zT)/\w.cell? ⟨g,8,none⟩=some (.int .i64 P.zW):=AE h.yM
theorem JL {t:Nat} {a0 a1 a2 a3 a4 a5 a6 a7 a8:Value} (h:w.heap[g]? =some (.cells #[a0,a1,a2,a3,a4,a5,a6,a7,a8] t (0,0))):
 ((((w.setCell ⟨g,0,none⟩ m').setCell ⟨g,1,none⟩ i').setCell ⟨g,2,none⟩ e').setCell ⟨g,3,none⟩ c').heap[g]? =some (.cells #[m',i',e',c',a4,a5,a6,a7,a8] t (0,0)):=by
 have h0:=yu w g 0 _ t m' h;have h1:=yu _ g 1 _ t i' h0;have h2:=yu _ g 2 _ t e' h1;have h3:=yu _ g 3 _ t c' h2;simpa using h3
theorem Gg.put {k':AN} {B:Nat} {w1:World} (h:Gg lo g w m i e c s l q P) (hb:Below w.heap.size w w1) (hB:w.heap.size<=B) (bl:lo<=w.heap.size) (O:DO B w1 m' i' e' c' k'):
 Gg lo g ((((w1.setCell ⟨g,0,none⟩ m').setCell ⟨g,1,none⟩ i').setCell ⟨g,2,none⟩ e').setCell ⟨g,3,none⟩ c') m' i' e' c' s l q {P with zX:=k'}:=by
 have h':=h.below hb;have az:=Ao w1 g m' i' e' c';have O':=O.yN az h'.yM;have F:=h'.own.yN az h'.yM;refine⟨JL h'.yM,h.yL,⟨O'.lower (yD bl hB),F.swp,F.low,F.pgs,fun b au an=>?_⟩⟩;obtain⟨vs,r1⟩:=O.1;obtain⟨us,r2⟩:=h.own.swp;have:=(yr r1.1 b au).1;have:=(yr r2.1 b an).2;omega
end
def JG (lo:Nat) (b:Bool) (v:Value) (w:World) (k:AN):Prop:=∃q,v= .pointer (some ⟨q,0,none⟩)/\lo<=q/\if b=true then ∃m i e c,w.heap[q]? =some (.cells #[m,i,e,c] 28 (0,0))/\DO lo w m i e c k else w.heap[q]? =some (.cells #[.slice none 0 0, .slice none 0 0, .slice none 0 0, .slice none 0 0] 28 (0,0))
theorem JG.below {lo:Nat} {b:Bool} {w w':World} (h:JG lo b v w k) (hb:Below w.heap.size w w'):JG lo b v w' k:=by
 obtain⟨q,h0,h1,h2⟩:=h;refine⟨q,h0,h1,?_⟩;cases b
 .exact AC h2 hb
 .obtain⟨m,i,e,c,h3,h4⟩:=h2
  exact⟨m,i,e,c,AC h3 hb,h4.below hb⟩
def Lp (lo:Nat) (v:Value) (w:World) (k:AN) (x y:Int):Prop:=∃m i e c,v= .tuple #[.agg #[m,i,e,c], .int .i64 x, .int .i64 y]/\DO lo w m i e c k
def GU (lo:Nat) (v:Value) (w:World) (k:AN):Prop:=∃m i e c,v= .agg #[m,i,e,c]/\DO lo w m i e c k
theorem Lp.below {lo:Nat} {w w':World} {x y:Int} (h:Lp lo v w k x y) (hb:Below w.heap.size w w'):Lp lo v w' k x y:=by obtain⟨m,i,e,c,h1,h2⟩:=h;exact⟨m,i,e,c,h1,h2.below hb⟩
theorem GU.below {lo:Nat} {w w':World} (h:GU lo v w k) (hb:Below w.heap.size w w'):GU lo v w' k:=by obtain⟨m,i,e,c,h1,h2⟩:=h;exact⟨m,i,e,c,h1,h2.below hb⟩
theorem Lp.yN {lo g:Nat} {w w':World} {x y:Int} {cs:Array Value} {fr:Nat×Nat} (h:Lp lo v w k x y) (hg:w.grownBy w' (some g)) (hB:w.heap[g]? =some (.cells cs 28 fr)):Lp lo v w' k x y:=by obtain⟨m,i,e,c,h1,h2⟩:=h;exact⟨m,i,e,c,h1,h2.yN hg hB⟩
theorem GU.yN {lo g:Nat} {w w':World} {cs:Array Value} {fr:Nat×Nat} (h:GU lo v w k) (hg:w.grownBy w' (some g)) (hB:w.heap[g]? =some (.cells cs 28 fr)):GU lo v w' k:=by obtain⟨m,i,e,c,h1,h2⟩:=h;exact⟨m,i,e,c,h1,h2.yN hg hB⟩
def ZM (lo g:Nat) (w:World) (s l q:Value) (P:AR) (call:Ab) (r:Ending) (w':World):Prop:=
 r= .returned (.int .i64 (Ad P.zX call).2.1)/\(∃m i e c,Gg lo g w' m i e c s l q {P with zX:=(Ad P.zX call).1}/\DO w.heap.size w' m i e c (Ad P.zX call).1)/\Below lo w w'/\w.grownBy w' (some g)
theorem Lh {lo g:Nat} {w:World} {mv ev cv lv:Value} {P:AR} (h:Gg lo g w mv iv ev cv sv lv qv P) (bl:lo<=w.heap.size) (hK:DI P.zX) (call:Ab) (he:0<=call.e) (hn:call.e<3) (dA:call.nm.size<=maxLen) (eo:Jb call) (dh:call.c<=9223372036854775807):
 Calls prog 55 #[.pointer (some ⟨g,0,none⟩), .agg #[.int .i64 call.k, .int .i64 call.e, .int .i64 call.a, .int .i64 call.b, .int .i64 call.c, .string call.nm]] w (ZM lo g w sv lv qv P call):=by
 have b0:=AD w (.cells #[.int .i64 call.k, .int .i64 call.e, .int .i64 call.a, .int .i64 call.b, .int .i64 call.c, .string call.nm] 79);have N0:=yw w (.cells #[.int .i64 call.k, .int .i64 call.e, .int .i64 call.a, .int .i64 call.b, .int .i64 call.c, .string call.nm] 79);have CC:=fun W (hW:Below (w.alloc (.cells #[.int .i64 call.k, .int .i64 call.e, .int .i64 call.a, .int .i64 call.b, .int .i64 call.c, .string call.nm] 79)).heap.size (w.alloc (.cells #[.int .i64 call.k, .int .i64 call.e, .int .i64 call.a, .int .i64 call.b, .int .i64 call.c, .string call.nm] 79)) W)=>VH mv iv ev cv P.zX call W ((h.own.ker.rd.below b0).below hW) hK he hn dA eo dh
 unfold ZM;have HI:=AA (h.below b0);have Hb:=AA (b0.mono bl);have bv:w.heap.size<(w.alloc (.cells #[.int .i64 call.k, .int .i64 call.e, .int .i64 call.a, .int .i64 call.b, .int .i64 call.c, .string call.nm] 79)).heap.size:=by simp
 generalize Ad P.zX call=res at CC ⊢;obtain⟨kr,vr,nr⟩:=res;obtain⟨ck,ce,ca,cb,cc,nm⟩:=call;dsimp only at*;go_in;go_wp2_with fail;generalize w.alloc _=W0 at*;obtain⟨x0,x1,x2,x3,_⟩:=HI.out.cells;obtain⟨y0,y1,y2,y3,y4,y5⟩:=Oy N0;have dB:=AY HI.out.yM;have CC:=AA CC;clear N0;refine Dz 14 23 (fun ix=>ix==11) [.p g 0, .p g 0, .p g 0, .a #[mv,iv,ev,cv], .a #[.int .i64 ck, .int .i64 ce, .int .i64 ca, .int .i64 cb, .int .i64 cc, .string nm], .z, .z, .z, .i vr, .i nr, .z, .z, .i vr, .i nr] (fun ll ix vv ww=>match ix with
  |5|6=>Lp W0.heap.size vv ww kr vr nr
  |7=>GU W0.heap.size vv ww kr
  |10=>JG W0.heap.size (ll 11) vv ww kr
  |_=>True) (fun ll ww=>Below W0.heap.size W0 ww) ?_ ?_ ?_ ?_ ?_ ?_
 .exact A9 (yF _ _) 1
 .intro j hj ll i vv wz cJ hi hS ga gL bo hz
  match j,hj with
  |5,_|6,_=>exact(Lp.below hz bo)
  |7,_=>exact(GU.below hz bo)
  |10,_=>exact(JG.below (by rw[F9 (by rintro rfl;cases hS)];exact hz) bo)
  |0,_|1,_|2,_|3,_|4,_|8,_|9,_|11,_|12,_|13,_=>exact hz
 .intro ll i wz cJ hi hS ga bo hg
  exact hg.trans (bo.mono hg.size)
 .intro i hi hS o ho a wx Hb ll Hd HL hG K HK
  have av:=bc hG dB x0;have ax:=bc hG dB x1;have ay:=bc hG dB x2;have bn:=bc hG dB x3;have bx:=bc hG bv y0;have dx:=bc hG bv y1;have dw:=bc hG bv y2;have dv:=bc hG bv y3;have du:=bc hG bv y4;have dt:=bc hG bv y5
  match i,hi,hS with
  |0,_,_|1,_,_|2,_,_|12,_,_|13,_,_=>exact WR ho HK Hb Hd HL
  |3,_,_=>exact NU ho HK Hb Hd HL (hl:=NZ ‹_› ‹_› ‹_› ‹_›)
  |4,_,_=>exact NU ho HK Hb Hd HL (hl:=aw ‹_› ‹_› ‹_› ‹_› ‹_› ‹_›)
  |5,_,_=>exact bR ho HK Hb Hd HL (CC.out _ hG) (by rintro r w_ ⟨m',i',e',c',rfl,hO,an⟩;exact⟨_,rfl,⟨m',i',e',c',rfl,hO.lower hG.size⟩,an⟩)
  |11,_,hs=>cases hs
  |6,_,_=>clear av ax ay bn bx dx dw dv du dt;obtain rfl:=yH ho;have d5:Lp W0.heap.size (a.tmps[14]?.getD undef) wx kr vr nr:=DT Hd HL 5;have dP:=Ba HL 11;clear Hd Hb;refine yG ?_;go_simp;exact HK.out _ _ d5 (yF _ _)
  |7,_,_=>clear av ax ay bn bx dx dw dv du dt;obtain rfl:=yH ho;have d6:Lp W0.heap.size (a.tmps[8]?.getD undef) wx kr vr nr:=DT Hd HL 6;have dP:=Ba HL 11;clear Hd Hb;obtain⟨m',i',e',c',d6,hO⟩:=d6;refine yG ?_;go_simp;exact HK.out _ _ ⟨_,_,_,_,rfl,hO⟩ (yF _ _)
  |8,_,_|9,_,_=>clear av ax ay bn bx dx dw dv du dt;obtain rfl:=yH ho;have d6:Lp W0.heap.size (a.tmps[8]?.getD undef) wx kr vr nr:=DT Hd HL 6;clear Hd Hb;obtain⟨m',i',e',c',d6,hO⟩:=d6;refine yG ?_;go_simp;exact HK.out _ _ rfl (yF _ _)
  |10,_,_=>clear av ax ay bn bx dx dw dv du dt;obtain rfl:=yH ho;have dP:=Ba HL 11;clear Hd Hb;refine yG ?_;go_simp;exact HK.out _ _ ⟨_,rfl,hG.size,by rw[F9 (by decide),dP];exact yw _ _⟩ (AD _ _)
 .intro i hi hS o ho a wx Hb ll Hd HL hG K HK
  match i,hi,hS with
  |0,_,hs|1,_,hs|2,_,hs|3,_,hs|4,_,hs|5,_,hs|6,_,hs|7,_,hs|8,_,hs|9,_,hs|10,_,hs|12,_,hs|13,_,hs=>cases hs
  |11,_,_=>
   obtain rfl:=yH ho;have dJ:JG W0.heap.size (ll 11) (a.tmps[5]?.getD undef) wx kr:=DT Hd HL 10;have d7:GU W0.heap.size (a.tmps[15]?.getD undef) wx kr:=DT Hd HL 7;clear Hd Hb;obtain⟨qb,gf,ek,ch⟩:=dJ;rw[HL.out.1] at ch;replace ch:wx.heap[qb]? =some (.cells #[.slice none 0 0, .slice none 0 0, .slice none 0 0, .slice none 0 0] 28 (0,0)):=ch;obtain⟨m',i',e',c',d7,hO⟩:=d7;obtain⟨⟨va,vn,vc,rfl⟩,⟨wa,wn,wc,rfl⟩,⟨xa,xn,xc,rfl⟩,⟨ya,yn,yc,rfl⟩⟩:=hO.zS;obtain⟨c0,gk,c2,c3⟩:=AF ch;have fq:=AK ch;have az:=AA (Ao wx qb (.slice va vn vc) (.slice wa wn wc) (.slice xa xn xc) (.slice ya yn yc));have gt:=AA gf;have Hq:=AA ch;have HO:=AA hO;clear ch hO;refine yG ?_;go_simp;exact HK.out undef _ trivial (AM hG az.out ek hG.size) (fun j b9 fQ fb hu=>match j,fQ with
    |0,_|1,_|2,_|3,_|4,_|8,_|9,_|11,_|12,_|13,_=>hu
    |5,_|6,_=>Lp.yN hu az.out Hq.out
    |7,_=>GU.yN hu az.out Hq.out
    |10,_=>⟨qb,gt.out,ek,by rw[Ge];exact⟨_,_,_,_,Cs Hq.out,HO.out.yN az.out Hq.out⟩⟩)
 .intro vs wx ll bt hR hG
  have eR:JG W0.heap.size (ll 11) (vs 10) wx kr:=BZ hR 10;have cS:(vs 12)= .int .i64 vr:=BZ hR 12;clear hR;simp only[Dc,Bq,yE,yB,yA,yy,cS];simp;generalize vs 10=z10 at eR ⊢;clear cS;obtain⟨qb,rfl,ek,ch⟩:=eR;rw[bt 11 (by decide),if_pos rfl] at ch;obtain⟨m',i',e',c',eU,hO⟩:=ch;clear bt;obtain⟨⟨ma,mn,mc,rfl⟩,⟨ia,iN,ic,rfl⟩,⟨ea,en,ec,rfl⟩,⟨qa,qn,qc,rfl⟩⟩:=hO.zS;obtain⟨c0,gk,c2,c3⟩:=AF eU;have dC:=HI.out.below hG;have fg:=AK dC.yM;obtain⟨z0,z1,z2,z3,_⟩:=dC.cells;have R:=AA (HI.out.put hG (yv _) (yD bl (by omega)) hO);have R2:=AA ((hO.yN (Ao wx g (.slice ma mn mc) (.slice ia iN ic) (.slice ea en ec) (.slice qa qn qc)) dC.yM).lower (Nat.le_of_lt bv));have B:=AA (AM (Hb.out.trans (hG.mono (yD bl (by omega)))) (Ao wx g (.slice ma mn mc) (.slice ia iN ic) (.slice ea en ec) (.slice qa qn qc)) HI.out.yL (yD bl (yD (by omega) hG.size)));have R3:=AA (AO ⟨b0.os,b0.tape,b0.output,b0.size,fun k hk _=>b0.block k hk⟩ (AO ⟨hG.os,hG.tape,hG.output,hG.size,fun k hk _=>hG.block k hk⟩ (Ao wx g (.slice ma mn mc) (.slice ia iN ic) (.slice ea en ec) (.slice qa qn qc))));clear dC hO eU x0 x1 x2 x3 y0 y1 y2 y3 y4 y5;go_wp2_with fail;go_ret;exact⟨rfl,⟨_,_,_,_,R.out,R2.out⟩,B.out,R3.out⟩
def EQ (k:AN):Prop:=Hz k.Os/\∀j,j<k.zZ.length->DP (AJ k.zZ j).zV
theorem NF (m i e c:Value) (k:AN) (w:World) (h:MM w m i e c k) (hs:EQ k):
 Calls prog 30 #[.agg #[m,i,e,c]] w fun e w'=>e= .returned (.bool (Cj k))/\Below w.heap.size w w':=by
 obtain⟨h1,h2,h3,h4⟩:=h;have N0:=yw w (.cells #[m,i,e,c] 28);have bB:=AD w (.cells #[m,i,e,c] 28);have cY:=AY N0;replace h1:=h1.below bB;replace h2:=h2.below bB;replace h3:=h3.below bB;replace h4:=h4.below bB;have Hs:=AA hs;obtain⟨am,cm,rfl,_⟩:=h1.open;obtain⟨ai,ci,rfl,_,_⟩:=h2.shape;obtain⟨ae,ce,rfl,gH,f3,ft⟩:=h3.open;obtain⟨ac,cc,rfl,dh,f5⟩:=h4.shape;obtain⟨x0,x1,x2,x3⟩:=AF N0;go_in;go_wp2_with fail;generalize w.alloc _=W0 at*;have ao:=AA bB;have HN:=AA N0;have H1:=AA h1;have H2:=AA h2;have HE:=AA ft;have H4:=AA h4;have fl:=AA cY;clear hs h3 ft h1 h2 h4 N0 bB;have C1:=AA (fun W (hW:Below W0.heap.size W0 W)=>NH _ k.mem W (H1.out.below hW));have C2:=AA (fun W (hW:Below W0.heap.size W0 W)=>Fd _ k.Os W (BJ.below H2.out hW) Hs.out.1);have C3:=AA (fun W (hW:Below W0.heap.size W0 W)=>KY _ k.zY W (BJ.below H4.out hW));have hb:=yF W0.heap.size W0;cases e1:Bs k.mem
 .have S:=AA (Yb e1)
  have T:=AA e1;clear e1 x1 x2 x3;refine(C1.out _ hb).mono ?_;rintro e w1 ⟨rfl,au⟩;rw[T.out];go_wp2_with fail;go_ret;exact⟨AI S.out.symm,ao.out.trans (au.mono ao.out.size)⟩
 .have T1:=AA e1
  clear e1 x0 x1 x2 x3 cY;refine(C1.out _ hb).mono ?_;rintro e w1 ⟨rfl,au⟩;rw[T1.out];replace hb:=au;clear au;have x1:=(AF (AC HN.out hb)).2.1;go_wp2_with fail;cases e2:BK k.Os
  .have S:=AA (Vc e2)
   have T:=AA e2;clear e2;refine(C2.out _ hb).mono ?_;rintro e w1 ⟨rfl,au⟩;rw[T.out];replace hb:=hb.trans (au.mono hb.size);go_wp2_with fail;go_ret;exact⟨AI S.out.symm,ao.out.trans (hb.mono ao.out.size)⟩
  .have T2:=AA e2
   clear e2 x1;refine(C2.out _ hb).mono ?_;rintro e w1 ⟨rfl,au⟩;rw[T2.out];replace hb:=hb.trans (au.mono hb.size);clear au;have x3:=(AF (AC HN.out hb)).2.2.2;go_wp2_with fail;cases e3:BQ k.zY
   .have S:=AA (Vb e3)
    have T:=AA e3;clear e3;refine(C3.out _ hb).mono ?_;rintro e w1 ⟨rfl,au⟩;rw[T.out];replace hb:=hb.trans (au.mono hb.size);go_wp2_with fail;go_ret;exact⟨AI S.out.symm,ao.out.trans (hb.mono ao.out.size)⟩
   .have T3:=AA e3
    clear e3 x3;refine(C3.out _ hb).mono ?_;rintro e w1 ⟨rfl,au⟩;rw[T3.out];replace hb:=hb.trans (au.mono hb.size);clear au;have x0:=(AF (AC HN.out hb)).1;have x1:=(AF (AC HN.out hb)).2.1;have x2:=(AF (AC HN.out hb)).2.2.1
    by_cases e4:k.zZ.length=3
    .have T4:=AA e4
     have n4:((k.zZ.length:Int) !=3)=false:=by simp;omega
     have bz:=AA (A0.1 T2.out).1;have C:=AA (fun W (hW:Below W0.heap.size W0 W)=>Tv _ _ k.mem k.Os W (H1.out.below hW) T1.out (BJ.below H2.out hW) bz.out);clear e4;go_wp2_with fail;refine(C.out _ hb).mono ?_;rintro e w1 ⟨v',rfl,hO,au⟩;rw[<-Rn] at hO;replace hO:=BR hO hb.size;replace hb:=hb.trans (au.mono hb.size);clear au x0 x1 x2;have x2:=(AF (AC HN.out hb)).2.2.1;obtain⟨gr,bu,rfl,fL,fJ⟩:=JE hO (by rw[Dm];omega);have f9:Hid (AG W0.heap.size w1 (.slice (some ⟨gr,0,none⟩) 12 bu) (EZ k 0)):=AA (by have:=hO;rw[Dm] at this;exact this);rw[Dm];clear hO fJ;go_wp2_with fail;have au:=AA hb;clear x2 hb n4;go_loopw [43] (fun i wr=>∃j:Nat,j<=k.zZ.length/\i= .int .i64 j/\(∀j',j'<j->Dp k (AJ k.zZ j')=true)/\AG W0.heap.size wr (.slice (some ⟨gr,0,none⟩) 12 bu) (EZ k j)/\Below W0.heap.size W0 wr) (fun i _=>k.zZ.length - (intOf i).toNat)
     case atStart=>exact⟨0,yh _,rfl,fun j hj=>absurd hj (xR _),f9.out,au.out⟩
     case round=>
      obtain⟨j,hj,rfl,br,hO,ad⟩:=hrel;have bf:=AA br;clear br
      by_cases bg:j<k.zZ.length
      .obtain⟨b,cK,ua,uc,rfl,cN,D0,D1,RR⟩:=HE.out j bg
       replace D0:=(ad.cell (p:=⟨b,cK+j*2,none⟩) cN).trans D0;replace D1:=(ad.cell (p:=⟨b,cK+j*2+1,none⟩) cN).trans D1;have N:=yw wr (.cells #[.slice ua (AJ k.zZ j).zV.length uc, .int .i64 (AJ k.zZ j).root] 62);have cl:=AD wr (.cells #[.slice ua (AJ k.zZ j).zV.length uc, .int .i64 (AJ k.zZ j).root] 62);have HO:=AA (AG.below hO cl);have eX:(j:Int)<k.zZ.length:=by omega
       have j3:j<3:=by have:=T4.out;omega
       have gD:=AA hj;clear hO hj;go_wp2_with fail;generalize wr.alloc _=wa at*;have bs:=ad.trans (cl.mono ad.size);have y0:wa.cell? ⟨wr.heap.size,0,none⟩=some (.slice ua (AJ k.zZ j).zV.length uc):=yi _ _ 0 _ _ _ N;have y1:wa.cell? ⟨wr.heap.size,1,none⟩=some (.int .i64 (AJ k.zZ j).root):=yi _ _ 1 _ _ _ N;have bZ:=AY N;have cd:=xZ fl.out bs.size;have x0:=(AF (AC HN.out bs)).1;have x1:=(AF (AC HN.out bs)).2.1;have aq:=AA bs;have HR:=AA RR;clear D0 D1 N cl ad bs RR;have cQ:=fun W (hW:Below wa.heap.size wa W)=>NI _ (AJ k.zZ j).zV W (BJ.below (BJ.below HR.out aq.out) hW) (Hs.out.2 j bg)
       cases e5:BO (AJ k.zZ j).zV
       .rw[e5] at cQ
        have CR:=AA cQ;have CF:=AA True.intro;have S:=AA (Ma bg (show Dp k (AJ k.zZ j)=false by simp[Dp,e5]));clear cQ e5;refine Aa 35 170 [.p wr.heap.size 0, .v (.slice ua (AJ k.zZ j).zV.length uc), .b false, .b true, .b true, .u, .u, .u, .u, .u, .u, .u, .u, .u, .u, .u, .u, .u, .u, .u, .u, .u, .u, .u, .b true, .b true, .u, .u, .u, .u, .u, .u, .u, .u, .u] (fun _ _ _=>True) ?_ ?_
        .intro i hi o ho a wx Hb Hd hG K HK
         have av:=bc hG bZ y0
         match i,hi with
         |0,_|3,_|4,_|24,_|25,_=>exact sP ho HK Hb Hd
         |1,_=>exact sL ho HK Hb Hd (hl:=K9 ‹_›)
         |2,_=>exact sD ho HK Hb Hd (CR.out _ hG)
         |5,_|6,_|7,_|8,_|9,_|10,_|12,_|13,_|14,_|15,_|16,_|17,_|18,_|19,_|20,_|21,_|22,_|23,_|26,_|27,_|28,_|29,_|30,_|31,_|32,_|33,_|34,_=>exact sB ho HK Hd
         |11,_=>clear av;obtain rfl:=yH ho;have d8:(a.tmps[55]?.getD undef)=undef:=BT Hd 8;clear Hd Hb;exact AX.un rfl rfl d8 (HK.out _ _ rfl (yF _ _))
         |_+35,hq=>omega
        .intro vs wx hR hG
         have bD:(vs 25)= .bool true:=BZ hR 25;have bC:(vs 34)=undef:=BZ hR 34;clear hR;simp only[Al,AV,yE,yB,yA,yy,bD,bC];simp;clear bD bC;have ba:=aq.out.trans (hG.mono aq.out.size);clear hG;go_wp2_with fail;go_ret;exact⟨AI S.out.symm,ao.out.trans (ba.mono ao.out.size)⟩
       .rw[e5] at cQ
        have CR:=AA cQ;have E5:=AA e5;clear cQ e5
        by_cases e6:(AJ k.zZ j).root= -1
        .have E6:=AA e6
         have t6:((AJ k.zZ j).root != -1)=false:=by simp[e6]
         rw[e6] at y1;have gu:((-1:Int) != -1)=false:=rfl;have CF:=AA True.intro;have CX:=AA (fun W (hW:Below wa.heap.size wa W)=>OI _ k.mem (-1) W ((H1.out.below aq.out).below hW) (by omega));have cz:=x1;have CA:=AA (fun W (hW:Below wa.heap.size wa W) v2 ts (h2:Ax W v2 (Ay ts)) (hm:∀g,g∈ts↔g∈BY k.mem (-1))=>Kr w.heap.size _ v2 _ (AJ k.zZ j).zV ts k.Os W ((hW.cell (p:=⟨w.heap.size,1,none⟩) cd).trans cz) (BJ.below (BJ.below HR.out aq.out) hW) (BJ.below (BJ.below H2.out aq.out) hW) h2 (fun f hf=>by have:=(DU.1 ((hm f).1 hf)).1;omega));clear cz e6;replace CA:=AA (fun W (hW:Below wa.heap.size wa W) v2 ts (h2:Ax W v2 (Ay ts)) (hm:∀g,g∈ts↔g∈BY k.mem (-1))=>by have:=CA.out W hW v2 ts h2 hm;rw[Fq hm] at this;exact this);have cO:Hid (BC k.Os (BY k.mem (-1)) (AJ k.zZ j).zV=true):=AA (by simp[BC,BY]);rw[cO.out] at CA;have S:=AA (show Dp k (AJ k.zZ j)=true by simp only[Dp,E5.out,E6.out,cO.out];rfl);have L:=AA (Wc bg (show(AJ k.zZ j).root<0 by rw[E6.out];omega));clear cO;refine BS 35 170 [.p wr.heap.size 0, .v (.slice ua (AJ k.zZ j).zV.length uc), .b true, .b false, .b false, .p wr.heap.size 1, .i (-1), .b false, .b false, .u, .u, .u, .u, .u, .u, .u, .u, .u, .u, .u, .u, .u, .u, .b false, .b false, .b false, .p wr.heap.size 0, .v (.slice ua (AJ k.zZ j).zV.length uc), .p w.heap.size 0, .v (.slice am k.mem.length cm), .p wr.heap.size 1, .i (-1), .z, .b true, .b false] (fun ix vv ww=>match ix with
          |32=>GQ wa.heap.size k.mem (-1) ww vv
          |_=>True) ?_ ?_ ?_
         .intro i hi o ho a wx Hb Hd hG K HK
          have av:=bc hG bZ y0;have ax:=bc hG bZ y1;have ay:=bc hG cd x0
          match i,hi with
          |0,_|3,_|4,_|5,_|8,_|23,_|24,_|25,_|26,_|28,_|30,_|34,_=>exact sP ho HK Hb Hd
          |1,_|27,_=>exact sL ho HK Hb Hd (hl:=K9 ‹_›)
          |2,_=>exact sD ho HK Hb Hd (CR.out _ hG)
          |6,_|31,_=>exact sL ho HK Hb Hd (hl:=Fo ‹_›)
          |9,_|10,_|12,_|13,_|14,_|15,_|16,_|17,_|18,_|19,_|20,_|21,_|22,_=>exact sB ho HK Hd
          |29,_=>exact sL ho HK Hb Hd (hl:=GM ‹_›)
          |32,_=>exact sC ho HK Hb Hd (CX.out _ hG) (by rintro e w_ ⟨v',ts,rfl,hO,bj,_,an⟩;exact⟨_,rfl,⟨ts,BR hO hG.size,bj⟩,an⟩)
          |7,_=>clear av ax ay;obtain rfl:=yH ho;have d6:(a.tmps[53]?.getD undef)= .int .i64 (-1):=BT Hd 6;have d4:(a.tmps[51]?.getD undef)= .bool false:=BT Hd 4;clear Hd Hb;refine AX.yes rfl rfl d4 ?_;go_simp;exact HK.out _ _ rfl (yF _ _)
          |11,_=>clear av ax ay;obtain rfl:=yH ho;have d8:(a.tmps[55]?.getD undef)= .bool false:=BT Hd 8;clear Hd Hb;exact AX.no rfl rfl d8 (HK.out _ _ rfl (yF _ _))
          |33,_=>clear av ax ay;obtain rfl:=yH ho;have e1:a.tmps[1]?.getD undef= .pointer (some ⟨w.heap.size,0,none⟩):=eg (OV Hb 1);have gg:(a.tmps[74]?.getD undef)= .slice ua (AJ k.zZ j).zV.length uc:=BT Hd 27;have dl:GQ wa.heap.size k.mem (-1) wx (a.tmps[79]?.getD undef):=BT Hd 32;have eH:(a.tmps[72]?.getD undef)= .bool false:=BT Hd 25;clear Hd Hb;generalize e79:a.tmps[79]?.getD undef=v2 at dl;obtain⟨ts,hO,bj⟩:=dl;have eM:=CA.out wx hG v2 ts (AG.rd hO) bj;refine AX.yes rfl rfl eH ?_;go_simp;refine eM.mono ?_;rintro e w_ ⟨rfl,an⟩;exact HK.out _ _ rfl an
          |_+35,hq=>omega
         .intro i hi vv wz cJ bo hz
          match i,hi with
          |32,_=>exact(GQ.below hz bo)
          |0,_|1,_|2,_|3,_|4,_|5,_|6,_|7,_|8,_|9,_|10,_|11,_|12,_|13,_|14,_|15,_|16,_|17,_|18,_|19,_|20,_|21,_|22,_|23,_|24,_|25,_|26,_|27,_|28,_|29,_|30,_|31,_|33,_|34,_=>exact hz
          |_+35,hq=>omega
         .intro vs wx hR hG
          have bD:(vs 25)= .bool false:=BZ hR 25;have bC:(vs 34)= .bool false:=BZ hR 34;clear hR;simp only[Al,AV,yE,yB,yA,yy,bD,bC];simp;clear bD bC;have ba:=aq.out.trans (hG.mono aq.out.size);replace y1:=(hG.cell (p:=⟨wr.heap.size,1,none⟩) bZ).trans y1;have cf:=AA (AG.below HO.out hG);clear hG x0 x1 y0;go_wp2_with fail;go_roundw
          case rel=>exact⟨j+1,by omega,by go_num,Aj bf.out S.out,by rw[L.out];exact cf.out,ba⟩
          case measure=>simp[intOf];omega
        .have t6:((AJ k.zZ j).root != -1)=true:=by simp[e6]
         have cH:=fun W (_:Below wa.heap.size wa W)=>BM (Em (AJ k.zZ j).root W)
         cases e7:Bd (AJ k.zZ j).root 0 11
         .rw[e7] at cH
          have CF:=AA cH;have S:=AA (Ma bg (show Dp k (AJ k.zZ j)=false by simp[Dp,e6,e7]));clear cH e6 e7;refine Aa 35 170 [.p wr.heap.size 0, .v (.slice ua (AJ k.zZ j).zV.length uc), .b true, .b false, .b false, .p wr.heap.size 1, .i ((AJ k.zZ j).root), .b true, .b true, .p wr.heap.size 1, .i ((AJ k.zZ j).root), .b false, .b true, .b true, .u, .u, .u, .u, .u, .u, .u, .u, .b true, .b true, .b true, .b true, .u, .u, .u, .u, .u, .u, .u, .u, .u] (fun _ _ _=>True) ?_ ?_
          .intro i hi o ho a wx Hb Hd hG K HK
           have av:=bc hG bZ y0;have ax:=bc hG bZ y1
           match i,hi with
           |0,_|3,_|4,_|5,_|8,_|9,_|12,_|13,_|22,_|23,_|24,_|25,_=>exact sP ho HK Hb Hd
           |1,_=>exact sL ho HK Hb Hd (hl:=K9 ‹_›)
           |2,_=>exact sD ho HK Hb Hd (CR.out _ hG)
           |6,_|10,_=>exact sL ho HK Hb Hd (hl:=Fo ‹_›)
           |11,_=>exact sD ho HK Hb Hd (CF.out _ hG)
           |14,_|15,_|16,_|17,_|18,_|19,_|20,_|21,_|26,_|27,_|28,_|29,_|30,_|31,_|32,_|33,_|34,_=>exact sB ho HK Hd
           |7,_=>clear av ax;obtain rfl:=yH ho;have d6:(a.tmps[53]?.getD undef)= .int .i64 ((AJ k.zZ j).root):=BT Hd 6;have d4:(a.tmps[51]?.getD undef)= .bool false:=BT Hd 4;clear Hd Hb;refine AX.yes rfl rfl d4 ?_;go_simp;exact HK.out _ _ rfl (yF _ _)
           |_+35,hq=>omega
          .intro vs wx hR hG
           have bD:(vs 25)= .bool true:=BZ hR 25;have bC:(vs 34)=undef:=BZ hR 34;clear hR;simp only[Al,AV,yE,yB,yA,yy,bD,bC];simp;clear bD bC;have ba:=aq.out.trans (hG.mono aq.out.size);clear hG;go_wp2_with fail;go_ret;exact⟨AI S.out.symm,ao.out.trans (ba.mono ao.out.size)⟩
         .rw[e7] at cH
          obtain⟨r,hr⟩:∃r:Nat,(AJ k.zZ j).root=(r:Int):=⟨(AJ k.zZ j).root.toNat,by have:=(Ac.1 e7).1;omega⟩
          have cn:r<12:=by have:=(Ac.1 e7).2;omega
          have E7:=AA (ye e6 e7);rw[hr] at cH t6 y1;have CF:=AA cH;have Hr:=AA hr;clear cH e6 e7 hr;have gy:(r:Int)<k.Os.length:=by have:=bz.out;omega
          obtain⟨a9,c9,ev,_,_,dr⟩:=BJ.open Az (by decide) (BJ.below H2.out aq.out);cases ev;obtain⟨bi,be,rfl,dj,eD,_,_⟩:=dr.zR (show r<k.Os.length by have:=bz.out;omega);clear dr
          by_cases e8:(zU k.Os r).k=3
          .have t8:((zU k.Os r).k !=3)=false:=by simp[e8]
           have CX:=AA (fun W (hW:Below wa.heap.size wa W)=>OH _ k.mem r W ((H1.out.below aq.out).below hW) T1.out cn);have cz:=x1;have CA:=AA (fun W (hW:Below wa.heap.size wa W) v2 ts (h2:Ax W v2 (Ay ts)) (hm:∀g,g∈ts↔g∈BY k.mem (r:Int))=>by have:=Kr w.heap.size _ v2 _ (AJ k.zZ j).zV ts k.Os W ((hW.cell (p:=⟨w.heap.size,1,none⟩) cd).trans cz) (BJ.below (BJ.below HR.out aq.out) hW) (BJ.below (BJ.below H2.out aq.out) hW) h2 (fun f hf=>by have:=zy (root:=(r:Int)) (by omega) f ((hm f).1 hf);have:=bz.out;omega);rw[Fq hm] at this;exact this);clear cz;have E8:=AA e8;clear e8;generalize cO:BC k.Os (BY k.mem (r:Int)) (AJ k.zZ j).zV=bb at CA;have fu:=AA cO;clear cO;refine BS 35 170 [.p wr.heap.size 0, .v (.slice ua (AJ k.zZ j).zV.length uc), .b true, .b false, .b false, .p wr.heap.size 1, .i ((r:Int)), .b true, .b true, .p wr.heap.size 1, .i ((r:Int)), .b true, .b false, .b false, .p w.heap.size 1, .v (.slice (some ⟨bi,be,none⟩) k.Os.length ci), .p wr.heap.size 1, .i ((r:Int)), .p bi (be+r*3), .p bi (be+r*3), .i ((zU k.Os r).k), .b false, .b false, .b false, .b false, .b false, .p wr.heap.size 0, .v (.slice ua (AJ k.zZ j).zV.length uc), .p w.heap.size 0, .v (.slice am k.mem.length cm), .p wr.heap.size 1, .i ((r:Int)), .z, .b bb, .b (!bb)] (fun ix vv ww=>match ix with
            |32=>GQ wa.heap.size k.mem ((r:Int)) ww vv
            |_=>True) ?_ ?_ ?_
           .intro i hi o ho a wx Hb Hd hG K HK
            have av:=bc hG bZ y0;have ax:=bc hG bZ y1;have ay:=bc hG cd x1;have bn:=bc hG dj eD;have bx:=bc hG cd x0
            match i,hi with
            |0,_|3,_|4,_|5,_|8,_|9,_|12,_|13,_|14,_|16,_|19,_|22,_|23,_|24,_|25,_|26,_|28,_|30,_|34,_=>exact sP ho HK Hb Hd
            |1,_|27,_=>exact sL ho HK Hb Hd (hl:=K9 ‹_›)
            |2,_=>exact sD ho HK Hb Hd (CR.out _ hG)
            |6,_|10,_|17,_|20,_|31,_=>exact sL ho HK Hb Hd (hl:=Fo ‹_›)
            |11,_=>exact sD ho HK Hb Hd (CF.out _ hG)
            |15,_=>exact sL ho HK Hb Hd (hl:=GF ‹_›)
            |18,_=>exact sI ho HK Hb Hd (hr:=by clear Hd Hb HK;go_simp)
            |29,_=>exact sL ho HK Hb Hd (hl:=GM ‹_›)
            |32,_=>exact sC ho HK Hb Hd (CX.out _ hG) (by rintro e w_ ⟨v',ts,rfl,hO,bj,_,an⟩;exact⟨_,rfl,⟨ts,BR hO hG.size,bj⟩,an⟩)
            |7,_=>clear av ax ay bn bx;obtain rfl:=yH ho;have d6:(a.tmps[53]?.getD undef)= .int .i64 r:=BT Hd 6;have d4:(a.tmps[51]?.getD undef)= .bool false:=BT Hd 4;clear Hd Hb;refine AX.yes rfl rfl d4 ?_;go_simp;exact HK.out _ _ rfl (yF _ _)
            |21,_=>clear av ax ay bn bx;obtain rfl:=yH ho;have gi:(a.tmps[67]?.getD undef)= .int .i64 ((zU k.Os r).k):=BT Hd 20;have eI:(a.tmps[60]?.getD undef)= .bool false:=BT Hd 13;clear Hd Hb;refine AX.yes rfl rfl eI ?_;go_simp;exact HK.out _ _ rfl (yF _ _)
            |33,_=>clear av ax ay bn bx;obtain rfl:=yH ho;have e1:a.tmps[1]?.getD undef= .pointer (some ⟨w.heap.size,0,none⟩):=eg (OV Hb 1);have gg:(a.tmps[74]?.getD undef)= .slice ua (AJ k.zZ j).zV.length uc:=BT Hd 27;have dl:GQ wa.heap.size k.mem ((r:Int)) wx (a.tmps[79]?.getD undef):=BT Hd 32;have eH:(a.tmps[72]?.getD undef)= .bool false:=BT Hd 25;clear Hd Hb;generalize e79:a.tmps[79]?.getD undef=v2 at dl;obtain⟨ts,hO,bj⟩:=dl;have eM:=CA.out wx hG v2 ts (AG.rd hO) bj;refine AX.yes rfl rfl eH ?_;go_simp;refine eM.mono ?_;rintro e w_ ⟨rfl,an⟩;exact HK.out _ _ rfl an
            |_+35,hq=>omega
           .intro i hi vv wz cJ bo hz
            match i,hi with
            |32,_=>exact(GQ.below hz bo)
            |0,_|1,_|2,_|3,_|4,_|5,_|6,_|7,_|8,_|9,_|10,_|11,_|12,_|13,_|14,_|15,_|16,_|17,_|18,_|19,_|20,_|21,_|22,_|23,_|24,_|25,_|26,_|27,_|28,_|29,_|30,_|31,_|33,_|34,_=>exact hz
            |_+35,hq=>omega
           .intro vs wx hR hG
            have bD:(vs 25)= .bool false:=BZ hR 25;have bC:(vs 34)= .bool (!bb):=BZ hR 34;clear hR;simp only[Al,AV,yE,yB,yA,yy,bD,bC];simp;clear bD bC;have ba:=aq.out.trans (hG.mono aq.out.size);replace y1:=(hG.cell (p:=⟨wr.heap.size,1,none⟩) bZ).trans y1;have cf:=AG.below HO.out hG;clear hG x0 x1 y0 eD;cases bb
            .have S:=AA (Ma bg (show Dp k (AJ k.zZ j)=false by simp only[Dp,Hr.out,fu.out,Bool.and_false]))
             clear cf;go_wp2_with fail;go_ret;exact⟨AI S.out.symm,ao.out.trans (ba.mono ao.out.size)⟩
            .have S:=AA (show Dp k (AJ k.zZ j)=true by
              have e7:=E7.out.2;rw[Hr.out] at e7;simp only[Dp,E5.out,Hr.out,fu.out,e7,xY,E8.out];simp)
             have L:=AA (Uj bg Hr.out cn);obtain⟨s1,s2⟩:=Pq (k:=k) (j:=j) T1.out T4.out cn;have bm:wx.ownsRow W0.heap.size 3 1 (.slice (some ⟨gr,0,none⟩) 12 bu) 12 ((EZ k j).map (yf .i64)):=by have:=cf;unfold AG at this;rwa [Dm] at this
             have C:=(bm.cellAt r (by omega)).trans (FQ (xs:=EZ k j) (by rw[Dm];exact cn));have Fr:=bm.frozenAt r;have S2:=AA (bm.stored r (.int .i64 (nth (EZ k j) r+1)));have r0:(0:Int)<=r:=by omega
             have gv:(r:Int)<12:=by omega
             have fW:=fL;have fm:Hid (W0.heap.size<=gr):=AA (bm.lt gr rfl).1;clear cf bm;generalize nth (EZ k j) r=nn at*;go_wp2_with fail;go_roundw
             case rel=>refine⟨j+1,by omega,by go_num,Aj bf.out S.out,?_,AM ba S2.out.2 fm.out ba.size⟩;rw[L.out];unfold AG;rw[xV,Dm,List.map_set];exact S2.out.1
             case measure=>simp[intOf];omega
          .have t8:((zU k.Os r).k !=3)=true:=by simp[e8]
           have S:=AA (Ma bg (show Dp k (AJ k.zZ j)=false by simp[Dp,Hr.out,e8]));clear e8;refine Aa 35 170 [.p wr.heap.size 0, .v (.slice ua (AJ k.zZ j).zV.length uc), .b true, .b false, .b false, .p wr.heap.size 1, .i ((r:Int)), .b true, .b true, .p wr.heap.size 1, .i ((r:Int)), .b true, .b false, .b false, .p w.heap.size 1, .v (.slice (some ⟨bi,be,none⟩) k.Os.length ci), .p wr.heap.size 1, .i ((r:Int)), .p bi (be+r*3), .p bi (be+r*3), .i ((zU k.Os r).k), .b true, .b true, .b true, .b true, .b true, .u, .u, .u, .u, .u, .u, .u, .u, .u] (fun _ _ _=>True) ?_ ?_
           .intro i hi o ho a wx Hb Hd hG K HK
            have av:=bc hG bZ y0;have ax:=bc hG bZ y1;have ay:=bc hG cd x1;have bn:=bc hG dj eD
            match i,hi with
            |0,_|3,_|4,_|5,_|8,_|9,_|12,_|13,_|14,_|16,_|19,_|22,_|23,_|24,_|25,_=>exact sP ho HK Hb Hd
            |1,_=>exact sL ho HK Hb Hd (hl:=K9 ‹_›)
            |2,_=>exact sD ho HK Hb Hd (CR.out _ hG)
            |6,_|10,_|17,_|20,_=>exact sL ho HK Hb Hd (hl:=Fo ‹_›)
            |11,_=>exact sD ho HK Hb Hd (CF.out _ hG)
            |15,_=>exact sL ho HK Hb Hd (hl:=GF ‹_›)
            |18,_=>exact sI ho HK Hb Hd (hr:=by clear Hd Hb HK;go_simp)
            |26,_|27,_|28,_|29,_|30,_|31,_|32,_|33,_|34,_=>exact sB ho HK Hd
            |7,_=>clear av ax ay bn;obtain rfl:=yH ho;have d6:(a.tmps[53]?.getD undef)= .int .i64 r:=BT Hd 6;have d4:(a.tmps[51]?.getD undef)= .bool false:=BT Hd 4;clear Hd Hb;refine AX.yes rfl rfl d4 ?_;go_simp;exact HK.out _ _ rfl (yF _ _)
            |21,_=>clear av ax ay bn;obtain rfl:=yH ho;have gi:(a.tmps[67]?.getD undef)= .int .i64 ((zU k.Os r).k):=BT Hd 20;have eI:(a.tmps[60]?.getD undef)= .bool false:=BT Hd 13;clear Hd Hb;refine AX.yes rfl rfl eI ?_;go_simp;exact HK.out _ _ rfl (yF _ _)
            |_+35,hq=>omega
           .intro vs wx hR hG
            have bD:(vs 25)= .bool true:=BZ hR 25;have bC:(vs 34)=undef:=BZ hR 34;clear hR;simp only[Al,AV,yE,yB,yA,yy,bD,bC];simp;clear bD bC;have ba:=aq.out.trans (hG.mono aq.out.size);clear hG;go_wp2_with fail;go_ret;exact⟨AI S.out.symm,ao.out.trans (ba.mono ao.out.size)⟩
      .obtain rfl:j=k.zZ.length:=by omega
       have fs:=AA (fun j (hj:j<3)=>bf.out j (by have:=T4.out;omega));have f8:Hid (AG W0.heap.size wr (.slice (some ⟨gr,0,none⟩) 12 bu) (EZ k 3)):=AA (by have:=hO;rwa [T4.out] at this);have x1:=(AF (AC HN.out ad)).2.1;have fm:Hid (gr<wr.heap.size):=AA (yr hO gr rfl).2;have an:=AA ad;clear hO ad bf;go_wp2_with fail;clear x1;obtain⟨wq,rfl⟩:∃wq:World,wq=wr:=⟨_,rfl⟩
       go_loopw [97] (fun i wr=>∃f:Nat,f<=k.Os.length/\i= .int .i64 f/\(∀f',f'<f->DY k f'=true/\Gl k f'=true)/\AG W0.heap.size wr (.slice (some ⟨gr,0,none⟩) 12 bu) (EZ k 3)/\Below W0.heap.size W0 wr) (fun i _=>k.Os.length - (intOf i).toNat)
       case atStart=>exact⟨0,yh _,rfl,fun j hj=>absurd hj (xR _),f8.out,an.out⟩
       case round=>
        obtain⟨f,hf,rfl,br,hO,ad⟩:=hrel;have bf:=AA br;clear br
        by_cases bg:f<k.Os.length
        .obtain⟨a9,c9,ev,_,_,dr⟩:=BJ.open Az (by decide) (BJ.below H2.out ad)
         cases ev;obtain⟨bi,be,rfl,dj,D0,D1,D2⟩:=dr.zR bg;have N:=yw wr (.cells #[.int .i64 (zU k.Os f).k, .string (zU k.Os f).g, .int .i64 (zU k.Os f).r] 93);have cl:=AD wr (.cells #[.int .i64 (zU k.Os f).k, .string (zU k.Os f).g, .int .i64 (zU k.Os f).r] 93);have HO:=AA (AG.below hO cl);have eX:(f:Int)<k.Os.length:=by omega
         have bk:f<12:=by have:=bz.out;omega
         have cq:(f:Int)<12:=by omega
         clear hO dr;go_wp2_with fail;generalize wr.alloc _=wa at*;have bs:=ad.trans (cl.mono ad.size);have y0:wa.cell? ⟨wr.heap.size,0,none⟩=some (.int .i64 (zU k.Os f).k):=yi _ _ 0 _ _ _ N;have y2:wa.cell? ⟨wr.heap.size,2,none⟩=some (.int .i64 (zU k.Os f).r):=yi _ _ 2 _ _ _ N;have c7:=AY N;have cd:=xZ fl.out bs.size;have x0:=(AF (AC HN.out bs)).1;have x1:=(AF (AC HN.out bs)).2.1;have bm:wa.ownsRow W0.heap.size 3 1 (.slice (some ⟨gr,0,none⟩) 12 bu) 12 ((EZ k 3).map (yf .i64)):=by have:=HO.out;unfold AG at this;rwa [Dm] at this
         have dk:=(bm.cellAt f (by omega)).trans (FQ (xs:=EZ k 3) (by rw[Dm];exact bk));have az:=(bm.lt gr rfl).2;have aq:=AA bs;have cG:=fun W (_:Below wa.heap.size wa W)=>BM (IT (zU k.Os f).k W)
         clear D0 D1 D2 N cl ad bs bm;cases e5:Bb (zU k.Os f).k
         .rw[e5] at cG
          have CT:=AA cG;have TB:=AA (show DY k f=true by simp[DY,e5]);clear cG e5;refine Aa 23 170 [.p wr.heap.size 0, .i ((zU k.Os f).k), .b false, .b false, .u, .u, .u, .u, .u, .u, .u, .u, .u, .u, .b false, .b false, .p wr.heap.size 2, .i ((zU k.Os f).r), .s gr 12 bu, .i ((f:Int)), .p gr f, .i (nth (EZ k 3) f), .b ((zU k.Os f).r !=nth (EZ k 3) f)] (fun _ _ _=>True) ?_ ?_
          .intro i hi o ho a wx Hb Hd hG K HK
           have av:=bc hG c7 y0;have ax:=bc hG c7 y2;have ay:=bc hG az dk
           match i,hi with
           |0,_|3,_|14,_|15,_|16,_|18,_|19,_=>exact sP ho HK Hb Hd
           |1,_|17,_|21,_=>exact sL ho HK Hb Hd (hl:=Fo ‹_›)
           |2,_=>exact sD ho HK Hb Hd (CT.out _ hG)
           |4,_|5,_|6,_|7,_|8,_|9,_|10,_|11,_|12,_|13,_=>exact sB ho HK Hd
           |20,_=>exact sI ho HK Hb Hd (hr:=by clear Hd Hb HK;go_simp)
           |22,_=>clear av ax ay;obtain rfl:=yH ho;have gj:(a.tmps[119]?.getD undef)= .int .i64 ((zU k.Os f).r):=BT Hd 17;have gh:(a.tmps[123]?.getD undef)= .int .i64 (nth (EZ k 3) f):=BT Hd 21;have dI:(a.tmps[117]?.getD undef)= .bool false:=BT Hd 15;clear Hd Hb;refine AX.yes rfl rfl dI ?_;go_simp;exact HK.out _ _ rfl (yF _ _)
           |_+23,hq=>omega
          .intro vs wx hR hG
           have cu:(vs 15)= .bool false:=BZ hR 15;have ct:(vs 22)= .bool ((zU k.Os f).r !=nth (EZ k 3) f):=BZ hR 22;clear hR;simp only[Al,AV,yE,yB,yA,yy,cu,ct];simp;clear cu ct;have ba:=aq.out.trans (hG.mono aq.out.size);have cf:=AA (AG.below HO.out hG);clear hG x0 x1 y0 y2 dk;have RL:=Pp (k:=k) T4.out bk;cases bV:((zU k.Os f).r !=nth (EZ k 3) f)
           .have S1:=AA (show Gl k f=true by rw[RL];simpa using bV)
            clear RL;go_wp2_with fail;go_roundw
            case rel=>exact⟨f+1,by omega,by go_num,Aj bf.out ⟨TB.out,S1.out⟩,cf.out,ba⟩
            case measure=>simp[intOf];omega
           .have S:=AA (UL bk (show Gl k f=false by rw[RL];simpa using bV))
            clear RL;go_wp2_with fail;go_ret;exact⟨AI S.out.symm,ao.out.trans (ba.mono ao.out.size)⟩
         .rw[e5] at cG
          have CT:=AA cG;have cR:=fun W (hW:Below wa.heap.size wa W) v2 (h2:BP W v2 [⟨#[]⟩])=>YS _ _ v2 k.mem k.Os f (zU k.Os f).k [⟨#[]⟩] W ((H1.out.below aq.out).below hW) T1.out (BJ.below (BJ.below H2.out aq.out) hW) bz.out bk e5 h2
          cases e6:Im k.mem k.Os f (zU k.Os f).k [⟨#[]⟩]
          .rw[e6] at cR
           have CG:=AA cR;have S:=AA (Yc bk (show DY k f=false by simp[DY,e5,e6]));clear cG e5 cR e6;refine BS 23 170 [.p wr.heap.size 0, .i ((zU k.Os f).k), .b true, .b true, .p w.heap.size 0, .v (.slice am k.mem.length cm), .p w.heap.size 1, .v (.slice (some ⟨bi,be,none⟩) k.Os.length ci), .i ((f:Int)), .p wr.heap.size 0, .i ((zU k.Os f).k), .z, .b false, .b true, .b true, .b true, .u, .u, .u, .u, .u, .u, .u] (fun ix vv ww=>match ix with
            |11=>BP ww vv [⟨#[]⟩]
            |_=>True) ?_ ?_ ?_
           .intro i hi o ho a wx Hb Hd hG K HK
            have av:=bc hG c7 y0;have ax:=bc hG cd x0;have ay:=bc hG cd x1
            match i,hi with
            |0,_|3,_|4,_|6,_|8,_|9,_|13,_|14,_|15,_=>exact sP ho HK Hb Hd
            |1,_|10,_=>exact sL ho HK Hb Hd (hl:=Fo ‹_›)
            |2,_=>exact sD ho HK Hb Hd (CT.out _ hG)
            |5,_=>exact sL ho HK Hb Hd (hl:=GM ‹_›)
            |7,_=>exact sL ho HK Hb Hd (hl:=GF ‹_›)
            |16,_|17,_|18,_|19,_|20,_|21,_|22,_=>exact sB ho HK Hd
            |11,_=>clear av ax ay;obtain rfl:=yH ho;have d3:(a.tmps[105]?.getD undef)= .bool true:=BT Hd 3;clear Hd Hb;refine AX.yes rfl rfl d3 ?_;go_simp;exact HK.out _ _ (Rd.news _ #[.string ⟨#[]⟩] _ 1 1 rfl (by simp[maxLen])) (AD _ _)
            |12,_=>clear av ax ay;obtain rfl:=yH ho;have d5:(a.tmps[107]?.getD undef)= .slice am k.mem.length cm:=BT Hd 5;have d7:(a.tmps[109]?.getD undef)= .slice (some ⟨bi,be,none⟩) k.Os.length ci:=BT Hd 7;have d8:(a.tmps[110]?.getD undef)= .int .i64 f:=BT Hd 8;have dJ:(a.tmps[112]?.getD undef)= .int .i64 ((zU k.Os f).k):=BT Hd 10;have dm:BP wx (a.tmps[113]?.getD undef) [⟨#[]⟩]:=BT Hd 11;have d3:(a.tmps[105]?.getD undef)= .bool true:=BT Hd 3;clear Hd Hb;generalize e113:a.tmps[113]?.getD undef=v2 at dm;have eK:=CG.out wx hG v2 dm;refine AX.yes rfl rfl d3 ?_;go_simp;refine eK.mono ?_;rintro e w_ ⟨rfl,an⟩;exact HK.out _ _ rfl an
            |_+23,hq=>omega
           .intro i hi vv wz cJ bo hz
            match i,hi with
            |11,_=>exact(BJ.below hz bo)
            |0,_|1,_|2,_|3,_|4,_|5,_|6,_|7,_|8,_|9,_|10,_|12,_|13,_|14,_|15,_|16,_|17,_|18,_|19,_|20,_|21,_|22,_=>exact hz
            |_+23,hq=>omega
           .intro vs wx hR hG
            have cu:(vs 15)= .bool true:=BZ hR 15;have ct:(vs 22)=undef:=BZ hR 22;clear hR;simp only[Al,AV,yE,yB,yA,yy,cu,ct];simp;clear cu ct;have ba:=aq.out.trans (hG.mono aq.out.size);clear hG x0 x1 y0 y2 dk;go_wp2_with fail;go_ret;exact⟨AI S.out.symm,ao.out.trans (ba.mono ao.out.size)⟩
          .rw[e6] at cR
           have CG:=AA cR;have TB:=AA (show DY k f=true by simp[DY,e6]);clear cG e5 cR e6;refine BS 23 170 [.p wr.heap.size 0, .i ((zU k.Os f).k), .b true, .b true, .p w.heap.size 0, .v (.slice am k.mem.length cm), .p w.heap.size 1, .v (.slice (some ⟨bi,be,none⟩) k.Os.length ci), .i ((f:Int)), .p wr.heap.size 0, .i ((zU k.Os f).k), .z, .b true, .b false, .b false, .b false, .p wr.heap.size 2, .i ((zU k.Os f).r), .s gr 12 bu, .i ((f:Int)), .p gr f, .i (nth (EZ k 3) f), .b ((zU k.Os f).r !=nth (EZ k 3) f)] (fun ix vv ww=>match ix with
            |11=>BP ww vv [⟨#[]⟩]
            |_=>True) ?_ ?_ ?_
           .intro i hi o ho a wx Hb Hd hG K HK
            have av:=bc hG c7 y0;have ax:=bc hG cd x0;have ay:=bc hG cd x1;have bn:=bc hG c7 y2;have bx:=bc hG az dk
            match i,hi with
            |0,_|3,_|4,_|6,_|8,_|9,_|13,_|14,_|15,_|16,_|18,_|19,_=>exact sP ho HK Hb Hd
            |1,_|10,_|17,_|21,_=>exact sL ho HK Hb Hd (hl:=Fo ‹_›)
            |2,_=>exact sD ho HK Hb Hd (CT.out _ hG)
            |5,_=>exact sL ho HK Hb Hd (hl:=GM ‹_›)
            |7,_=>exact sL ho HK Hb Hd (hl:=GF ‹_›)
            |20,_=>exact sI ho HK Hb Hd (hr:=by clear Hd Hb HK;go_simp)
            |11,_=>clear av ax ay bn bx;obtain rfl:=yH ho;have d3:(a.tmps[105]?.getD undef)= .bool true:=BT Hd 3;clear Hd Hb;refine AX.yes rfl rfl d3 ?_;go_simp;exact HK.out _ _ (Rd.news _ #[.string ⟨#[]⟩] _ 1 1 rfl (by simp[maxLen])) (AD _ _)
            |12,_=>clear av ax ay bn bx;obtain rfl:=yH ho;have d5:(a.tmps[107]?.getD undef)= .slice am k.mem.length cm:=BT Hd 5;have d7:(a.tmps[109]?.getD undef)= .slice (some ⟨bi,be,none⟩) k.Os.length ci:=BT Hd 7;have d8:(a.tmps[110]?.getD undef)= .int .i64 f:=BT Hd 8;have dJ:(a.tmps[112]?.getD undef)= .int .i64 ((zU k.Os f).k):=BT Hd 10;have dm:BP wx (a.tmps[113]?.getD undef) [⟨#[]⟩]:=BT Hd 11;have d3:(a.tmps[105]?.getD undef)= .bool true:=BT Hd 3;clear Hd Hb;generalize e113:a.tmps[113]?.getD undef=v2 at dm;have eK:=CG.out wx hG v2 dm;refine AX.yes rfl rfl d3 ?_;go_simp;refine eK.mono ?_;rintro e w_ ⟨rfl,an⟩;exact HK.out _ _ rfl an
            |22,_=>clear av ax ay bn bx;obtain rfl:=yH ho;have gj:(a.tmps[119]?.getD undef)= .int .i64 ((zU k.Os f).r):=BT Hd 17;have gh:(a.tmps[123]?.getD undef)= .int .i64 (nth (EZ k 3) f):=BT Hd 21;have dI:(a.tmps[117]?.getD undef)= .bool false:=BT Hd 15;clear Hd Hb;refine AX.yes rfl rfl dI ?_;go_simp;exact HK.out _ _ rfl (yF _ _)
            |_+23,hq=>omega
           .intro i hi vv wz cJ bo hz
            match i,hi with
            |11,_=>exact(BJ.below hz bo)
            |0,_|1,_|2,_|3,_|4,_|5,_|6,_|7,_|8,_|9,_|10,_|12,_|13,_|14,_|15,_|16,_|17,_|18,_|19,_|20,_|21,_|22,_=>exact hz
            |_+23,hq=>omega
           .intro vs wx hR hG
            have cu:(vs 15)= .bool false:=BZ hR 15;have ct:(vs 22)= .bool ((zU k.Os f).r !=nth (EZ k 3) f):=BZ hR 22;clear hR;simp only[Al,AV,yE,yB,yA,yy,cu,ct];simp;clear cu ct;have ba:=aq.out.trans (hG.mono aq.out.size);have cf:=AA (AG.below HO.out hG);clear hG x0 x1 y0 y2 dk;have RL:=Pp (k:=k) T4.out bk;cases bV:((zU k.Os f).r !=nth (EZ k 3) f)
            .have S1:=AA (show Gl k f=true by rw[RL];simpa using bV)
             clear RL;go_wp2_with fail;go_roundw
             case rel=>exact⟨f+1,by omega,by go_num,Aj bf.out ⟨TB.out,S1.out⟩,cf.out,ba⟩
             case measure=>simp[intOf];omega
            .have S:=AA (UL bk (show Gl k f=false by rw[RL];simpa using bV))
             clear RL;go_wp2_with fail;go_ret;exact⟨AI S.out.symm,ao.out.trans (ba.mono ao.out.size)⟩
        .obtain rfl:f=k.Os.length:=by omega
         have gl:=AA (fun f (hf:f<12)=>bf.out f (by have:=bz.out;omega));have x3:=(AF (AC HN.out ad)).2.2.2;have cP:=AA ad;clear hO ad bf;go_wp2_with fail;clear x3;obtain⟨wq2,rfl⟩:∃wq:World,wq=wr:=⟨_,rfl⟩
         go_loopw [130] (fun i wr=>∃j:Nat,j<=k.zY.length/\i= .int .i64 j/\(∀j',j'<j->Cm k (AT k.zY j')=true)/\Below W0.heap.size W0 wr) (fun i _=>k.zY.length - (intOf i).toNat)
         case atStart=>exact⟨0,yh _,rfl,fun j hj=>absurd hj (xR _),cP.out⟩
         case round=>
          obtain⟨j,hj,rfl,br,ad⟩:=hrel;have bf:=AA br;clear br
          by_cases bg:j<k.zY.length
          .obtain⟨a9,c9,ev,_,_,fw⟩:=BJ.open Cg (by decide) (BJ.below H4.out ad)
           cases ev;obtain⟨bi,be,rfl,dj,D0,D1,D2,D3⟩:=fw.zN bg;have ey:CU (AT k.zY j)=true:=by have h1:=T3.out;unfold BQ at h1;simp only[yt,yk] at h1;have h2:=h1.1 j (yj.2 bg);unfold Ct at h2;simp only[yt] at h2;exact h2.1
           have fd:k.zY.length<=4:=by have h1:=T3.out;unfold BQ at h1;simp only[yt,decide_eq_true_eq] at h1;exact h1.2
           unfold CU at ey;simp only[yt,Ac] at ey;obtain⟨⟨⟨e0,e2⟩,p0,p2⟩,f0,f2⟩:=ey;obtain⟨en,hen⟩:∃n:Nat,(AT k.zY j).e=(n:Int):=⟨(AT k.zY j).e.toNat,by omega⟩
           obtain⟨pn,hpn⟩:∃n:Nat,(AT k.zY j).p=(n:Int):=⟨(AT k.zY j).p.toNat,by omega⟩
           obtain⟨fn,hfn⟩:∃n:Nat,(AT k.zY j).f=(n:Int):=⟨(AT k.zY j).f.toNat,by omega⟩
           have TO:=AA (show Cm k (AT k.zY j)=(decide (0<=(AJ k.zZ en).root)&&decide (Bu k.mem (AJ k.zZ en).root.toNat (4*pn)=(0,fn,(AT k.zY j).w))) by unfold Cm;rw[hen,hpn,hfn];rfl);have ew:en<3:=by omega
           have eV:pn<16:=by omega
           have KT:=AA (Vd (k:=k) bg);rw[hen] at D0;rw[hpn] at D1;rw[hfn] at D2;generalize hcw:(AT k.zY j).w=cw at*;have N:=yw wr (.cells #[.int .i64 en, .int .i64 pn, .int .i64 fn, .bool cw] 98);have cl:=AD wr (.cells #[.int .i64 en, .int .i64 pn, .int .i64 fn, .bool cw] 98);have eX:(j:Int)<k.zY.length:=by omega
           have gz:(j:Int)<4:=by omega
           have bs:=ad.trans (cl.mono ad.size);obtain⟨b,cK,ua,uc,rfl,cN,E0,E1,RR⟩:=HE.out en (by have:=T4.out;omega);replace E1:=(bs.cell (p:=⟨b,cK+en*2+1,none⟩) cN).trans E1;have x0:=(AF (AC HN.out bs)).1;have x2:=(AF (AC HN.out bs)).2.2.1;obtain⟨y0,y1,y2,y3⟩:=AF N;have ge:(en:Int)<k.zZ.length:=by have:=T4.out;omega
           have aq:=AA bs;have go:=AA (fs.out en ew);have gM:=AA (ye hen (ye hpn hfn));clear fw E0 RR cl ad bs N e0 e2 p0 p2 f0 f2 hen hpn hfn fd
           by_cases bX:(AJ k.zZ en).root<0
           .have S:=AA (KT.out (by rw[TO.out];simp;omega))
            have ba:=aq.out;clear x0 y1 y2 y3;go_wp2_with fail;go_ret;exact⟨AI S.out.symm,ao.out.trans (ba.mono ao.out.size)⟩
           .obtain⟨rn,hrn⟩:∃n:Nat,(AJ k.zZ en).root=(n:Int):=⟨(AJ k.zZ en).root.toNat,by omega⟩
            have cV:rn<12:=by
             have h1:=go.out;unfold Dp at h1;simp only[yt,Bool.or_eq_true,decide_eq_true_eq,Ac] at h1
             rcases h1.1.2 with h|h<;>omega
            have bW:=fun W (hW:Below W0.heap.size W0 W)=>ZG _ k.mem rn (4*pn) W (H1.out.below hW) T1.out cV (by omega)
            have e9:wr.heap.size<(wr.alloc (.cells #[.int .i64 en, .int .i64 pn, .int .i64 fn, .bool cw] 98)).heap.size:=by simp
            rw[hrn] at E1 TO bX;unfold Ib at bW;rw[show((4*pn:Nat):Int)=(pn:Int)*4 by omega] at bW;simp only[xY] at TO;obtain⟨code,fr,wb,hwp⟩:∃code fr wb,Bu k.mem rn (4*pn)=(code,fr,wb):=⟨_,_,_,rfl⟩
            simp only[hwp] at bW TO;clear hwp;have dM:=AA (show Cm k (AT k.zY j)=(decide (code=0)&&(decide (fr=fn)&&decide (wb=cw))) by
             rw[TO.out];have:(0:Int)<=(rn:Int):=by omega
             simp[this])
            by_cases di:code=0
            .subst di
             rw[if_pos rfl] at bW;unfold MI at bW;rw[show((4*pn%4:Nat):Int)=0 by omega] at bW;have CW:=AA bW;clear bW;go_wp2_with fail;refine(CW.out _ aq.out).mono ?_;rintro e w2 ⟨rfl,an⟩;have bA:=aq.out.trans (an.mono aq.out.size);replace y2:=(an.cell (p:=⟨wr.heap.size,2,none⟩) e9).trans y2;replace y3:=(an.cell (p:=⟨wr.heap.size,3,none⟩) e9).trans y3;clear x0 x2 E1 y0 y1 an;have ba:=bA.trans ((AD w2 (.cells #[.int .i64 fr, .int .i64 0, .bool wb] 100)).mono bA.size);replace y2:=((AD w2 (.cells #[.int .i64 fr, .int .i64 0, .bool wb] 100)).cell (yC w2 _ y2)).trans y2;replace y3:=((AD w2 (.cells #[.int .i64 fr, .int .i64 0, .bool wb] 100)).cell (yC w2 _ y3)).trans y3;have HG:=AA ba;clear bA ba bX
             by_cases cM:fr=fn
             .have t1:((fr:Int) !=(fn:Int))=false:=by simp[cM]
              by_cases cT:wb=cw
              .have S:=AA (show Cm k (AT k.zY j)=true by rw[dM.out];simp[cM,cT])
               subst cT;clear cM;cases wb
               all_goals
                go_wp2_with fail;go_roundw
                case rel=>exact⟨j+1,by omega,by go_num,Aj bf.out S.out,HG.out⟩
                case measure=>simp[intOf];omega
              .have S:=AA (KT.out (by rw[dM.out];simp[cT]))
               have hq:=AA cT;clear cM cT;cases wb<;>cases cw
               .exact absurd rfl hq.out
               .go_wp2_with fail
                go_ret;exact⟨AI S.out.symm,ao.out.trans (HG.out.mono ao.out.size)⟩
               .go_wp2_with fail
                go_ret;exact⟨AI S.out.symm,ao.out.trans (HG.out.mono ao.out.size)⟩
               .exact absurd rfl hq.out
             .have t1:((fr:Int) !=(fn:Int))=true:=by simp;omega
              have S:=AA (KT.out (by rw[dM.out];simp[cM]));clear cM y3;go_wp2_with fail;go_ret;exact⟨AI S.out.symm,ao.out.trans (HG.out.mono ao.out.size)⟩
            .rw[if_neg di] at bW
             unfold En at bW;have CW:=AA bW;have t1:(code !=0)=true:=by simp[di]
             have S:=AA (KT.out (by rw[dM.out];simp[di]));clear bW di;go_wp2_with fail;refine(CW.out _ aq.out).mono ?_;rintro e w2 ⟨rfl,an⟩;have bA:=aq.out.trans (an.mono aq.out.size);have HG:=AA (bA.trans ((AD w2 (.cells #[.int .i64 0, .int .i64 0, .bool false] 100)).mono bA.size));clear x0 x2 E1 y0 y1 y2 y3 an bA bX;go_wp2_with fail;go_ret;exact⟨AI S.out.symm,ao.out.trans (HG.out.mono ao.out.size)⟩
          .have S:=AA (Yd T1.out T2.out T3.out T4.out fs.out gl.out (fun j' gG=>bf.out j' (by omega)))
           have ba:=ad;go_wp2_with fail;go_ret;exact⟨AI S.out.symm,ao.out.trans (ba.mono ao.out.size)⟩
    .have S:=AA (XI e4)
     have n4:((k.zZ.length:Int) !=3)=true:=by simp;omega
     clear e4;go_wp2_with fail;go_ret;exact⟨AI S.out.symm,ao.out.trans (hb.mono ao.out.size)⟩
theorem Ce (h:DI k):EQ k:=by
 refine⟨fun x hx=>?_,fun j hj=>GJ (h.zV j (by rw[h.zP] at hj;exact hj))⟩;obtain⟨f,hf⟩:=xA hx;have hl:=(yq.1 hf).1;rw[h.len] at hl;have hi:=h.inf f hl;have e:zU k.Os f=x:=by unfold zU;rw[xU,hf];rfl
 rw[e] at hi
 rcases hi with⟨_,g⟩|⟨_,_,g⟩
 .rw[g];exact yh _
 .unfold BN at g
  rw[yt,decide_eq_true_eq] at g;have:=g.2;unfold maxLen;omega
structure Wi (lo g:Nat) (o:Value) (st:AN×List Int) (w wr:World) (m i e c:Value):Prop where
 yM:wr.heap[g]? =some (.cells #[m,i,e,c] 28 (0,0))
 yL:lo<=g
 ker:∃vs,At lo wr m vs st.1.mem/\∀v∈vs,Fa o v
 inf:AP lo 93 3 A2 wr i st.1.Os
 env:∃ps,DA lo wr e ps st.1.zZ
 cac:AP lo 98 4 Ae wr c st.1.zY
 out:AG lo wr o st.2
 bel:Below lo w wr
 lo:lo<=wr.heap.size
section
variable {lo g:Nat} {o m i e c:Value} {st:AN×List Int} {w wr w':World}
theorem Wi.below (h:Wi lo g o st w wr m i e c) (hb:Below wr.heap.size wr w'):Wi lo g o st w w' m i e c:=by obtain⟨vs,h1,h2⟩:=h.ker;obtain⟨ps,h3⟩:=h.env;exact⟨AC h.yM hb,h.yL,⟨vs,h1.below hb,h2⟩,h.inf.below hb,⟨ps,h3.below hb⟩,h.cac.below hb,h.out.below hb,h.bel.trans (hb.mono h.lo),yD h.lo hb.size⟩
theorem Wi.own (h:Wi lo g o st w wr m i e c):DO lo wr m i e c st.1:=by obtain⟨vs,h1,_⟩:=h.ker;exact⟨⟨vs,h1⟩,h.inf,h.env,h.cac⟩
theorem Wi.start {w2:World} (O:DO lo w2 m i e c k) (hb:Below lo w w2) (hl:lo<=w2.heap.size):Wi lo w2.heap.size (.slice none 0 0) (k,[]) w (w2.alloc (.cells #[m,i,e,c] 28)) m i e c:=by
 have b3:=AD w2 (.cells #[m,i,e,c] 28);obtain⟨⟨vs,h1⟩,h2,⟨ps,h3⟩,h4⟩:=O.below b3;exact⟨yw _ _,hl,⟨vs,h1,fun v hv b cD=>by simp[Value.ownBlock] at cD⟩,h2,⟨ps,h3⟩,h4,World.ownsRow_nil _ _ _ _,hb.trans (b3.mono hl),yD hl b3.size⟩
theorem Wi.put {k':AN} (h:Wi lo g o st w wr m i e c) {w1:World} (hb:Below wr.heap.size wr w1) (O:DO wr.heap.size w1 m' i' e' c' k'):
 Wi lo g o (k',st.2) w ((((w1.setCell ⟨g,0,none⟩ m').setCell ⟨g,1,none⟩ i').setCell ⟨g,2,none⟩ e').setCell ⟨g,3,none⟩ c') m' i' e' c':=by
 have h':=h.below hb;have az:=Ao w1 g m' i' e' c';obtain⟨⟨vs,h1⟩,h2,⟨ps,h3⟩,h4⟩:=O;refine⟨Cs h'.yM,h.yL,⟨vs,(h1.yN az h'.yM).lower h.lo,fun v hv b au an=>?_⟩,(h2.yN az h'.yM).lower h.lo,⟨ps,(h3.yN az h'.yM).lower h.lo⟩,(h4.yN az h'.yM).lower h.lo,Eo h'.out az h'.yM,AM h'.bel az h.yL h'.lo,yD h'.lo az.size⟩;obtain⟨j,hj⟩:=xA hv;have bY:=h1.2.1.1;obtain⟨x,hx⟩:∃x,k'.mem[j]? =some x:=⟨_,yx (by rw[<-bY];exact(yq.1 hj).1)⟩
 have:=(yr (h1.2.1.2 j v x hj hx) b an).1;have:=(yr h.out b au).2;omega
theorem Wi.push {o':Value} {x:Int} (h:Wi lo g o st w wr m i e c) (h1:w'.ownsRow lo 3 1 o' (st.2.length+1) (st.2.map (yf .i64)++[.int .i64 x])) (h2:wr.grownBy w' o.ownBlock) (h3:o'.ownBlock=o.ownBlock∨o'.ownBlock=some wr.heap.size) (h4:Below lo wr w'):
 Wi lo g o' (st.1,st.2++[x]) w w' m i e c:=by
 obtain⟨vs,r1,r2⟩:=h.ker;obtain⟨ps,r3⟩:=h.env;have bV:=Dd h.out h.yM (by decide);refine⟨(h2.block g (AY h.yM) (fun e=>bV e.symm)).trans h.yM,h.yL,⟨vs,⟨Au r1.1 h2 (A7 r1.1 h.out (by decide)).ne,?_,r1.2.2⟩,?_⟩,Au h.inf h2 (A7 h.inf h.out (by decide)).ne,⟨ps,Au r3.1 h2 (A7 r3.1 h.out (by decide)).ne,r3.2.1.mono fun _ _ x=>⟨Au x.1 h2 (A7 x.1 h.out (by decide)).ne,x.2⟩,r3.2.2⟩,Au h.cac h2 (A7 h.cac h.out (by decide)).ne,by simpa[AG] using h1,h.bel.trans h4,yD h.lo h4.size⟩
 .refine⟨r1.2.1.1,fun j u y hu hy=>Au (r1.2.1.2 j u y hu hy) h2 ?_⟩
  exact(r2 u (List.mem_of_getElem? hu)).symm.ne
 .intro v hv
  obtain⟨j,hj⟩:=xA hv;obtain⟨y,hy⟩:∃y,st.1.mem[j]? =some y:=⟨_,yx (by rw[<-r1.2.1.1];exact(yq.1 hj).1)⟩
  exact(r2 v hv).grown h3 (fun b hb=>(yr (r1.2.1.2 j v y hj hy) b hb).2)
end
theorem ML (w:World) (a b:Obj):((w.alloc a).alloc b).heap[w.heap.size]? =some a/\((w.alloc a).alloc b).heap[w.heap.size+1]? =some b/\Below w.heap.size w ((w.alloc a).alloc b)/\((w.alloc a).alloc b).heap.size=w.heap.size+2:=by have h1:=yw w a;have h2:=yw (w.alloc a) b;have h4:=AC h1 (AD _ b);simp only[xG] at h2;exact⟨h4,h2,Gu w a b,by simp⟩
structure Ou (l:List Oper) (n:Nat) (a0:Act) (R:Nat->Value->World->Prop) (G:(Nat->Bool)->(Nat->Value)->World->Prop) (ab:Array Bool) (a:Act) (w:World):Prop where
 head:HeadInv .any l.toArray n ab
 defers:a.defers=a0.defers
 size:a.tmps.size=a0.tmps.size
 base:∀t,(∀i,i<n->AV l i≠t)->a.tmps[t]? =a0.tmps[t]?
 post:∀i,i<n->ab.getD i false=true->R i (a.tmps.getD (AV l i) undef) w
 glob:G (fun j=>ab.getD j false) (fun j=>a.tmps.getD (AV l j) undef) w
section
variable {P:Program}
theorem Ou.wpAny {l:List Oper} {n:Nat} {a0:Act} {R:Nat->Value->World->Prop} {G:(Nat->Bool)->(Nat->Value)->World->Prop} {Q:Exit->Act->World->Prop}
 (hB:IA l n=true) (cr:∀i,i<n->AV l i<a0.tmps.size)
 (bq:∀i,i<n->∀o,l[i]? =some o->∀a w,a.defers=a0.defers->a.tmps.size=a0.tmps.size->(∀t,(∀i,i<n->AV l i≠t)->a.tmps[t]? =a0.tmps[t]?)->
  (∀j,ym .any l.toArray i j=true->R j (a.tmps.getD (AV l j) undef) w)->∀L:Nat->Bool,L i=false->(∀j,ym .any l.toArray i j=true->L j=true)->(∀j j',L j=true->ym .any l.toArray j j'=true->L j'=true)->G L (fun j=>a.tmps.getD (AV l j) undef) w->
  ∀K:Act->World->Prop,(∀v w',R i v w'->(∀bd,bd i=v->(∀j,j<n->j≠i->bd j=a.tmps.getD (AV l j) undef)->G (F8 L i) bd w')->(∀j u,j≠i->j<n->L j=true->R j u w->R j u w')->K (a.put o.dst v) w')->AX P l o a w K Q)
 (bp:∀a w,a.defers=a0.defers->a.tmps.size=a0.tmps.size->(∀t,(∀i,i<n->AV l i≠t)->a.tmps[t]? =a0.tmps[t]?)->
  (∀i,i<n->R i (a.tmps.getD (AV l i) undef) w)->∀L:Nat->Bool,(∀i,i<n->L i=true)->G L (fun j=>a.tmps.getD (AV l j) undef) w->wpList P l.toArray Q (l.drop n) a w):
 ∀(f:Nat) (ab:Array Bool) (a:Act) (w:World),f=(l.length - n)+((yE n).filter fun i=>!ab.getD i false).length->Ou l n a0 R G ab a w->Go.wpAny P .any l.toArray Q f ab a w:=by
 simp only[IA,yt,decide_eq_true_eq] at hB;obtain⟨⟨⟨⟨⟨⟨hn,hs⟩,hc⟩,hg⟩,ex⟩,ej⟩,cy⟩:=hB;have fc:∀i,i<n->∃o d,l[i]? =some o/\o.dst=some d/\AV l i=d:=by
  intro i hi;have:=yk.1 hg i (yj.2 hi);cases ho:l[i]? with
  |none=>rw[ho] at this;cases this
  |some o=>rw[ho] at this;simp only[Option.isSome_iff_exists] at this;obtain⟨d,h2⟩:=this;exact⟨o,d,rfl,h2,by simp[AV,ho,h2]⟩
 have bV:∀i j,i<n->j<n->i≠j->AV l i≠AV l j:=by intro i j hi hj fU;have:=yk.1 (yk.1 ex i (yj.2 hi)) j (yj.2 hj);simpa[fU] using this
 have fP:n<l.toArray.size:=by simpa using hn
 intro f
 induction f with
 |zero=>intro ab a w hf _;omega
 |succ f ih=>
  intro ab a w hf bh
  by_cases bt:∀i,i<n->ab.getD i false=true
  .have cp:ab=Array.ofFn (n:=l.length) fun i=>decide (i.val<n):=by
    have eh:ab.size=l.length:=by have:=bh.head.size;simpa using this
    apply Array.ext
    .simp[eh]
    .intro i h1 h2
     simp only[Array.getElem_ofFn]
     by_cases hi:i<n
     .have:=bt i hi
      simp[h1] at this;simp[hi,this]
     .have:=bh.head.tail i (by omega) (by simpa[eh] using h1)
      simp[h1] at this;simp[hi,this]
   have h0:((yE n).filter fun i=>!ab.getD i false)=[]:=by rw[List.filter_eq_nil_iff];intro i hi;simp[bt i (yj.1 hi)]
   have hT:=bp a w bh.defers bh.size bh.base (fun i hi=>bh.post i hi (bt i hi)) _ bt bh.glob;have hW:=wpAny_of_seq (P:=P) (md:= .any) (ops:=l.toArray) (Q':=Q) (l.drop n) n ab a w (fun j=>by simp[List.getElem?_drop]) (by rw[cp];simpa using ej) hT;have e:(l.drop n).length=f+1:=by rw[h0] at hf;simp at hf ⊢;omega
   rw[e] at hW;exact hW
  .obtain⟨i0,fV⟩:=Classical.not_forall.1 bt
   obtain⟨dc,es⟩:=Classical.not_imp.1 fV;have eu:ab.getD i0 false=false:=by simpa using es
   have eh:ab.size=l.length:=by have:=bh.head.size;simpa using this
   have db:ab.getD i0 true=false:=getD_in (by omega) eu;refine⟨fun hr=>?_,fun i hi=>?_⟩
   .exfalso
    have:∀k,k<=l.length->∀i,i<k->i<n->ab.getD i true=false->False:=by
     intro k
     induction k with
     |zero=>intro _ i hi;omega
     |succ k ihk=>
      intro hk i er cj dz;have fN:i∉Region.ready .any l.toArray ab:=by rw[hr];simp
      obtain⟨o,d,ho,_,_⟩:=fc i cj;apply fN;rw[mem_ready];refine⟨dz,o,by simpa using ho,fun e he hb=>?_⟩;have bg:e.on<i:=by have:=yk.1 cy i (yj.2 (by omega));rw[ho] at this;simpa[hb] using vJ.1 this e he
      cases hx:ab.getD e.on false with
      |true=>rfl
      |false=>exact(ihk (by omega) e.on (by omega) (by omega) (getD_in (by omega) hx)).elim
    exact this l.length (yv _) i0 (by omega) dc db
   .have cj:i<n:=by
     rcases Nat.lt_or_ge i n with h|h
     .exact h
     .exact absurd hi (tail_waits hs hc fP bh.head _ i0 rfl dc db i h)
    obtain⟨o,d,ho,cL,cB⟩:=fc i cj;obtain⟨dz,o',co,de⟩:=mem_ready.1 hi;obtain rfl:o'=o:=by
     have:l[i]? =some o':=by simpa using co
     rw[ho] at this;exact(yH this).symm
    have dd:∀j,ym .any l.toArray i j=true->R j (a.tmps.getD (AV l j) undef) w:=by
     intro j hj;obtain⟨oj,cX,e,he,hb,rfl⟩:=wW hj;obtain rfl:oj=o':=yH (cX.symm.trans co);have bg:e.on<i:=by have:=yk.1 cy i (yj.2 (by omega));rw[ho] at this;simpa[hb] using vJ.1 this e he
     exact bh.post e.on (by omega) (de e he hb)
    unfold Go.wpOp;rw[co];have em:∀j,ym .any l.toArray i j=true->ab.getD j false=true:=by intro j hj;obtain⟨oj,cX,e,he,hb,rfl⟩:=wW hj;obtain rfl:oj=o':=yH (cX.symm.trans co);exact de e he hb
    suffices H:∀K:Act->World->Prop,(∀v w',R i v w'->(∀bd,bd i=v->(∀j,j<n->j≠i->bd j=a.tmps.getD (AV l j) undef)->G (F8 (fun j=>ab.getD j false) i) bd w')->(∀j u,j≠i->j<n->ab.getD j false=true->R j u w->R j u w')->K (a.put o'.dst v) w')->AX P l o' a w K Q by
     have hK:=H (Go.wpAny P .any l.toArray Q f (ab.setIfInBounds i true)) ?_
     .cases dy:Region.wanted o' (yielded l.toArray a.tmps) with
      |true=>dsimp only;rw[dy,if_pos rfl];exact .inl (hK.1 dy)
      |false=>dsimp only;rw[dy,if_neg Bool.false_ne_true];exact hK.2 dy
     .intro v w' hR gb c8
      have cC:f=(l.length - n)+((yE n).filter fun k=>!(ab.setIfInBounds i true).getD k false).length:=by
       have fM:((yE n).filter fun k=>!ab.getD k false).length=((yE n).filter fun k=>!(ab.setIfInBounds i true).getD k false).length+1:=by
        have bj:i∈(yE n).filter fun k=>!ab.getD k false:=by rw[List.mem_filter];exact⟨yj.2 cj,by simp[getD_both dz]⟩
        have fO:((yE n).filter fun k=>!ab.getD k false).Nodup:=List.nodup_range.filter _;have he:((yE n).filter fun k=>!(ab.setIfInBounds i true).getD k false)=((yE n).filter fun k=>!ab.getD k false).erase i:=by
         rw[fO.erase_eq_filter,List.filter_filter];refine List.filter_congr fun k hk=>?_
         by_cases ep:k=i
         .subst ep
          simp[Eu (show k<ab.size by omega)]
         .rw[wC false (wH ep)]
          simp[ep]
        rw[he,List.length_erase_of_mem bj];have:=List.length_pos_of_mem bj;omega
       omega
      refine ih _ _ _ cC ⟨bh.head.set hi cj,?_,?_,?_,?_,?_⟩
      .rw[cL];exact bh.defers
      .rw[cL];simpa[vN] using bh.size
      .intro t ht
       rw[cL];simp only[vN];rw[xL (by rw[<-cB];exact ht i cj)];exact bh.base t ht
      .intro j hj fb
       rw[cL];simp only[vN]
       by_cases b9:j=i
       .subst b9
        rw[cB];have:d<a.tmps.size:=by rw[<-cB,bh.size];exact cr j hj
        simpa[this] using hR
       .have da:ab.getD j false=true:=by rwa [wC false (wH b9)] at fb
        have h1:=c8 j _ b9 hj da (bh.post j hj da);have e:(a.tmps.setIfInBounds d v).getD (AV l j) undef=a.tmps.getD (AV l j) undef:=by
         have:d≠AV l j:=by rw[<-cB];exact bV i j cj hj (wH b9)
         simp only[xo];rw[xL this]
        rw[e];exact h1
      .have eL:(fun j=>(ab.setIfInBounds i true).getD j false)=F8 (fun j=>ab.getD j false) i:=by
        funext j
        unfold F8
        by_cases b9:j=i
        .subst b9
         rw[if_pos rfl,Eu (by omega)]
        .rw[if_neg b9,wC false (wH b9)]
       rw[eL];refine gb _ ?_ (fun j hj b9=>?_)
       .show(a.put o'.dst v).tmps.getD (AV l i) undef=v
        rw[cL];simp only[vN];rw[cB];have:d<a.tmps.size:=by rw[<-cB,bh.size];exact cr i cj
        simp[this]
       .show(a.put o'.dst v).tmps.getD (AV l j) undef=a.tmps.getD (AV l j) undef
        rw[cL];simp only[vN];have:d≠AV l j:=by rw[<-cB];exact bV i j cj hj (wH b9)
        simp only[xo];rw[xL this]
    have ez:∀j j',ab.getD j false=true->ym .any l.toArray j j'=true->ab.getD j' false=true:=by intro j j' hj hw;obtain⟨oj,cX,e,he,hb,rfl⟩:=wW hw;exact bh.head.closed j oj cX hj e he hb
    exact fun K hK=>bq i cj o' ho a w bh.defers bh.size bh.base dd _ (getD_both dz) em ez bh.glob K hK
theorem Nk {id:Nat} {Q:Exit->Act->World->Prop} {a0:Act} {w0:World} {l:List Oper} (n:Nat) (hm:P.follows .mixedOrders=true) (hB:IA l n=true)
 (N:Nat) (hN:a0.tmps.size=N) (hD:VL l n N=true) (R:Nat->Value->World->Prop) (G:(Nat->Bool)->(Nat->Value)->World->Prop) (hG:∀vs,G (fun _=>false) vs {w0 with drawn:=w0.drawn+1})
 (bq:∀i,i<n->∀o,l[i]? =some o->∀a w,Hid (a.defers=a0.defers/\a.tmps.size=a0.tmps.size/\∀t,(∀i,i<n->AV l i≠t)->a.tmps[t]? =a0.tmps[t]?)->
  Hid (∀j,ym .any l.toArray i j=true->R j (a.tmps[AV l j]?.getD undef) w)->∀L:Nat->Bool,Hid (L i=false/\(∀j,ym .any l.toArray i j=true->L j=true)/\∀j j',L j=true->ym .any l.toArray j j'=true->L j'=true)->G L (fun j=>a.tmps.getD (AV l j) undef) w->
  ∀K:Act->World->Prop,Hid (∀v w',R i v w'->(∀bd,bd i=v->(∀j,j<n->j≠i->bd j=a.tmps.getD (AV l j) undef)->G (F8 L i) bd w')->(∀j u,j≠i->j<n->L j=true->R j u w->R j u w')->K (a.put o.dst v) w')->AX P l o a w K Q)
 (bp:∀(vs:Nat->Value) w,(∀i,i<n->R i (vs i) w)->∀L:Nat->Bool,(∀i,i<n->L i=true)->G L vs w->wpList P l.toArray Q (l.drop n) {a0 with tmps:=Al l (yE n) vs a0.tmps} w):
 (Code.region id l.toArray true).wp P Q a0 w0:=by
 have cr:∀i,i<n->AV l i<a0.tmps.size:=fun i hi=>by have:=yk.1 hD i (yj.2 hi);rw[hN];simpa using this
 refine wp_region_any hm ?_;refine Ou.wpAny (a0:=a0) (R:=R) (G:=G) hB cr (fun i hi o ho a w h1 h2 h3 h4 L h6 h7 h8 h5 K hK=>bq i hi o ho a w (AA ⟨h1,h2,h3⟩) (AA fun j hj=>by have:=h4 j hj;rwa [xo] at this) L (AA ⟨h6,h7,h8⟩) h5 K (AA hK)) (fun a w h1 h2 h3 h4 L h6 h5=>?_) _ _ _ _ ?_ ⟨⟨by simp,fun j oj _ hl=>(by rw[xM] at hl;cases hl),fun t _ ht=>getD_in (by simpa using ht) (xM _ _)⟩,rfl,rfl,fun _ _=>rfl,fun i _ hl=>(by rw[xM] at hl;cases hl),(show G (fun j=>(wJ l.toArray.size false).getD j false) _ _ from(funext fun j=>xM _ _:(fun j=>(wJ l.toArray.size false).getD j false)=fun _=>false)▸hG _)⟩
 .have e:=RA l (yE n) a0.tmps a.tmps h2 (fun t ht=>h3 t fun i hi=>ht i (yj.2 hi))
  have:=bp (fun i=>a.tmps.getD (AV l i) undef) w h4 L h6 h5;rw[<-e] at this;obtain⟨tm,df⟩:=a;dsimp only at h1 this;subst h1;exact this
 .have hn:n<l.length:=by
   simp only[IA,yt,decide_eq_true_eq] at hB;exact hB.1.1.1.1.1.1
  have:((yE n).filter fun i=>!(wJ l.toArray.size false).getD i false)=yE n:=by rw[List.filter_eq_self];intro i _;rw[xM];rfl
  rw[this];simp;omega
theorem QO {id:Nat} {Q:Exit->Act->World->Prop} {a0:Act} {w0:World} {l:List Oper} (n:Nat) (hm:P.follows .mixedOrders=true) (hB:IA l n=true)
 (N:Nat) (hN:a0.tmps.size=N) (hD:VL l n N=true) (i1 i2:Nat) (hw:ym .any l.toArray i2 i1=true) (fh:i1<n) (ff:i2<n) (cE:Value->Value->Prop) (R:Nat->Value->World->Prop) (cx:∀i,i<n->∀v w w',Below w.heap.size w w'->R i v w->R i v w')
 (bq:∀i,i<n->i≠i2->∀o,l[i]? =some o->∀a w,Hid (a.defers=a0.defers/\a.tmps.size=a0.tmps.size/\∀t,(∀i,i<n->AV l i≠t)->a.tmps[t]? =a0.tmps[t]?)->
  Hid (∀j,ym .any l.toArray i j=true->R j (a.tmps[AV l j]?.getD undef) w)->Below w0.heap.size w0 w->
  ∀K:Act->World->Prop,Hid (∀v w',R i v w'->Below w.heap.size w w'->K (a.put o.dst v) w')->AX P l o a w K Q)
 (cW:∀o,l[i2]? =some o->∀a w,Hid (a.defers=a0.defers/\a.tmps.size=a0.tmps.size/\∀t,(∀i,i<n->AV l i≠t)->a.tmps[t]? =a0.tmps[t]?)->
  Hid (∀j,ym .any l.toArray i2 j=true->R j (a.tmps[AV l j]?.getD undef) w)->Below w0.heap.size w0 w->
  ∀K:Act->World->Prop,Hid (∀v w',R i2 v w'->cE (a.tmps[AV l i1]?.getD undef) v->Below w.heap.size w w'->K (a.put o.dst v) w')->AX P l o a w K Q)
 (bp:∀(vs:Nat->Value) w,(∀i,i<n->R i (vs i) w)->cE (vs i1) (vs i2)->Below w0.heap.size w0 w->wpList P l.toArray Q (l.drop n) {a0 with tmps:=Al l (yE n) vs a0.tmps} w):
 (Code.region id l.toArray true).wp P Q a0 w0:=by
 refine Nk n hm hB N hN hD R (fun L vs w=>Below w0.heap.size w0 w/\(L i2=true->cE (vs i1) (vs i2))) (fun vs=>⟨⟨rfl,rfl,rfl,yv _,fun _ _=>rfl⟩,fun h=>by cases h⟩) ?_ (fun vs w h1 L hL h2=>bp vs w h1 (h2.2 (hL i2 ff)) h2.1);intro i hi o ho a w Hb Hd L HL hG K HK;have up:∀{w':World},Below w.heap.size w w'->Below w0.heap.size w0 w':=fun h2=>hG.1.trans ⟨h2.os,h2.tape,h2.output,h2.size,fun k hk=>h2.block k (xZ hk hG.1.size)⟩
 by_cases e2:i=i2
 .subst e2
  refine cW o ho a w Hb Hd hG.1 K (AA fun v w' h1 hp h2=>HK.out v w' h1 (fun bd hv co=>⟨up h2,fun _=>?_⟩) (fun j u _ hj _ h=>cx j hj u w w' h2 h));have bV:i1≠i:=fun e=>by have:=HL.out.2.1 i1 hw;rw[e,HL.out.1] at this;cases this
  rw[hv,co i1 fh bV,xo];exact hp
 .refine bq i hi e2 o ho a w Hb Hd hG.1 K (AA fun v w' h1 h2=>HK.out v w' h1 (fun bd hv co=>⟨up h2,fun hl=>?_⟩) (fun j u _ hj _ h=>cx j hj u w w' h2 h))
  have fa:L i2=true:=by unfold F8 at hl;rwa [if_neg (wH e2)] at hl
  have e1:i1≠i:=fun e=>by have:=HL.out.2.2 i2 i1 fa hw;rw[e,HL.out.1] at this;cases this
  have:=hG.2 fa;rw[co i1 fh e1,co i2 ff (wH e2)];exact this
end
theorem Pg (v:Value) (m:List (List Int)) (w:World) (h:Bc w v m) (el:m.length=16) (eW:∀k,k<16->(AH m k).length<=4):
 Calls prog 50 #[v] w fun e w'=>∃v' vs,e= .returned v'/\At w.heap.size w' v' vs m/\Below w.heap.size w w':=by
 obtain⟨vs,h1,h2⟩:=h;have cg:vs.length=16:=by rw[h2.1,el]
 have CC:=AA (Ls v vs w h1 (by omega) (Rj h2));have CI:=AA (fun k (hk:k<16) W (hW:Below w.heap.size w W)=>ID (vs.getD k (.bool false)) (AH m k) W (Ax.below (h2.2 k _ _ (A1 (by omega)) (by unfold AH;exact A1 (by omega))) hW) (by have:=eW k hk;omega));have SH:=AA (fun k (hk:k<16)=>(by obtain⟨a,c,e,_⟩:=(h2.2 k _ _ (A1 (d:=Value.bool false) (by omega)) (A1 (d:=[]) (by omega))).open;exact⟨a,_,c,e⟩:∃a n c,vs.getD k (.bool false)= .slice a n c));have dn:=AA cg;have fk:=AA el;obtain⟨ai,ci,rfl,_,_⟩:=h1.shape;clear h1 h2 eW el;rw[cg] at CC ⊢;clear cg;go_in;go_wp2_with fail;refine(CC.out).mono ?_;rintro e w1 ⟨v',rfl,hO,au⟩;obtain⟨g,bK,rfl,c1,c2,q1,q2,cq⟩:=hO.zO (by have:=dn.out;omega);unfold maxLen at c2;rw[dn.out] at hO c1 ⊢;have HO:=AA hO;have HB:=AA au;clear hO au cq;go_wp2_with fail;go_loopw [10] (fun i wr=>∃us:List Value,us.length<=16/\i= .int .i64 us.length/\Fc w.heap.size wr (.slice (some ⟨g,0,none⟩) 16 bK) us (vs.drop us.length) m/\Below w.heap.size w wr) (fun i _=>16 - (intOf i).toNat)
 case atStart=>exact⟨[],by simp,rfl,⟨HO.out,Fb.nil,DF.nil⟩,HB.out⟩
 case round=>
  obtain⟨us,hk,rfl,hH,ad⟩:=hrel
  by_cases bg:us.length<16
  .have eY:us.length<vs.length:=by rw[dn.out];exact bg
   have ed:vs.drop us.length=vs.getD us.length (.bool false)::vs.drop (us.length+1):=by
    rw[List.drop_eq_getElem_cons eY]
    congr 1
    simp[eY]
   rw[ed] at hH;have bY:(us++vs.getD us.length (.bool false)::vs.drop (us.length+1)).length=16:=by have:=dn.out;simp only[yl,List.length_cons,List.length_drop];omega
   have dE:=hH.1;rw[<-bY] at dE;have D:=AP.zB D8 dE (k:=us.length) (x:=vs.getD us.length (.bool false)) (by simp) 0 _ rfl;rw[Nat.mul_one,xQ] at D;have C:=CI.out _ bg wr ad;have hr:m[us.length]? =some (AH m us.length):=by unfold AH;exact A1 (by rw[fk.out];exact bg)
   have HH:=AA hH;have HR:=AA hr;have CH:=AA C;have eJ:=AA bY;have cq:=xP dE us.length;have gO:(16:Int)<=bK:=by omega
   clear hH dE hr C ed bY;generalize hu0:vs.getD us.length (.bool false)=u0 at*;obtain⟨a0,n0,c0,rfl⟩:∃a n c,u0= .slice a n c:=by have:=SH.out _ bg;rwa [hu0] at this
   go_wp2_with fail;refine(CH.out).mono ?_;rintro e w2 ⟨u,rfl,hu,an⟩;have D2:=(an.cell (p:=⟨g,us.length,none⟩) (yC wr _ D)).trans D;have fY:=(an.frozen (p:=⟨g,us.length,none⟩) (yC wr _ D)).trans cq;have ST:=AA (Fc.step HH.out eJ.out.symm an ad.size hu HR.out);have gp:=AA (AM (ad.trans (an.mono ad.size)) ST.out.2 q1 (yD ad.size an.size));obtain⟨a9,c9,rfl,_⟩:=hu.rd.open;clear D cq hu an ad;go_wp2_with fail;go_roundw
   case rel=>refine⟨us++[.slice a9 (AH m us.length).length c9],by rw[yl,xO];omega,by rw[yl,xO];go_num,?_,gp.out⟩;rw[yl,xO];exact ST.out.1
   case measure=>simp[intOf];omega
  .have e12:us.length=16:=by omega
   rw[List.drop_eq_nil_of_le (by rw[e12,dn.out];exact yv _)] at hH;have R:=AA (hH.whole (by rw[e12,fk.out]));clear hH;go_wp2_with fail;go_ret;exact⟨_,us,rfl,R.out,ad⟩
theorem Ez.zS {lo:Nat} {w:World} {m i e c s l q:Value} {P:AR} (h:Ez lo w m i e c s l q P):((∃a n q,m= .slice a n q)/\(∃a n q,i= .slice a n q)/\(∃a n q,e= .slice a n q)/\∃a n q,c= .slice a n q)/\(∃a n q,s= .slice a n q)/\(∃a n q,l= .slice a n q)/\∃a n r,q= .slice a n r:=by obtain⟨h1,⟨_,h2⟩,h3,h4,_⟩:=h;obtain⟨_,_,rfl,_,_⟩:=h2.1.rd.shape;obtain⟨_,_,rfl,_,_⟩:=h3.rd.open;obtain⟨_,_,rfl,_,_⟩:=h4.rd.shape;exact⟨h1.zS,⟨_,_,_,rfl⟩,⟨_,_,_,rfl⟩,⟨_,_,_,rfl⟩⟩
theorem Ue {P:AR} (h:EC P):P.swap.length=16/\∀k,k<16->(AH P.swap k).length<=4:=by
 refine⟨h.zF,fun k hk=>?_⟩
 rcases h.zx k hk with e|e
 .rw[e];exact yh _
 .have:=(A5.1 e).1;omega
section
variable {w:World} {g t:Nat} {a0 a1 a2 a3 a4 a5 a6 a7 a8 b0 b1 b2 b3 b4 b5 b6 b7 b8:Value}
def Er (w:World) (g:Nat) (b0 b1 b2 b3 b4 b5 b6:Value):World:=((((((w.setCell ⟨g,0,none⟩ b0).setCell ⟨g,1,none⟩ b1).setCell ⟨g,2,none⟩ b2).setCell ⟨g,3,none⟩ b3).setCell ⟨g,4,none⟩ b4).setCell ⟨g,5,none⟩ b5).setCell ⟨g,6,none⟩ b6
theorem Y4 (h:w.heap[g]? =some (.cells #[a0,a1,a2,a3,a4,a5,a6,a7,a8] t (0,0))):(((w.setCell ⟨g,4,none⟩ b4).setCell ⟨g,5,none⟩ b5).setCell ⟨g,6,none⟩ b6).heap[g]? =some (.cells #[a0,a1,a2,a3,b4,b5,b6,a7,a8] t (0,0)):=by have h4:=yu _ g 4 _ t b4 h;have h5:=yu _ g 5 _ t b5 h4;have h6:=yu _ g 6 _ t b6 h5;simpa using h6
theorem V9:w.grownBy (((w.setCell ⟨g,4,none⟩ b4).setCell ⟨g,5,none⟩ b5).setCell ⟨g,6,none⟩ b6) (some g):=An (An (Aq _ _ _ _) _ _) _ _
theorem Y5 (h:w.heap[g]? =some (.cells #[a0,a1,a2,a3,a4,a5,a6,a7,a8] t (0,0))):(Er w g b0 b1 b2 b3 b4 b5 b6).heap[g]? =some (.cells #[b0,b1,b2,b3,b4,b5,b6,a7,a8] t (0,0)):=by have h0:=yu w g 0 _ t b0 h;have h1:=yu _ g 1 _ t b1 h0;have h2:=yu _ g 2 _ t b2 h1;have h3:=yu _ g 3 _ t b3 h2;have h4:=yu _ g 4 _ t b4 h3;have h5:=yu _ g 5 _ t b5 h4;have h6:=yu _ g 6 _ t b6 h5;unfold Er;simpa using h6
theorem WA:w.grownBy (Er w g b0 b1 b2 b3 b4 b5 b6) (some g):=by unfold Er;exact An (An (An (An (An (An (Aq _ _ _ _) _ _) _ _) _ _) _ _) _ _) _ _
theorem GO (h:w.heap[g]? =some (.cells #[a0,a1,a2,a3,a4,a5,a6,a7,a8] t (0,0))):(((Er w g b0 b1 b2 b3 b4 b5 b6).setCell ⟨g,7,none⟩ b7).setCell ⟨g,8,none⟩ b8).heap[g]? =some (.cells #[b0,b1,b2,b3,b4,b5,b6,b7,b8] t (0,0)):=by have h7:=yu _ g 7 _ t b7 (Y5 (b0:=b0) (b1:=b1) (b2:=b2) (b3:=b3) (b4:=b4) (b5:=b5) (b6:=b6) h);have h8:=yu _ g 8 _ t b8 h7;simpa using h8
theorem Ex:w.grownBy (((Er w g b0 b1 b2 b3 b4 b5 b6).setCell ⟨g,7,none⟩ b7).setCell ⟨g,8,none⟩ b8) (some g):=An (An WA _ _) _ _
end
def AQ (m i e c s l q:Value) (h n:Int):Value:= .agg #[m,i,e,c,s,l,q, .int .i64 h, .int .i64 n]
def OX (w:World) (P:AR) (r:Ending) (w':World):Prop:=∃m i e c s l q,r= .returned (AQ m i e c s l q P.zT P.zW)/\Ez w.heap.size w' m i e c s l q P/\Below w.heap.size w w'
theorem Wl {lo:Nat} {m i e c s:Value} {w w':World} {vs:List Value} {fy:List (List Int)} (h:GU lo v w k) (E:v= .agg #[m,i,e,c]) (o:At w.heap.size w' s vs fy):Fa m s:=by obtain⟨m1,i1,e1,c1,rfl,⟨us,h1⟩,_⟩:=h;simp only[Value.agg.injEq,Array.mk.injEq,List.cons.injEq,and_true] at E;obtain⟨rfl,_⟩:=E;intro b hb cD;have:=(yr h1.1 b hb).2;have:=(yr o.1 b cD).1;omega
theorem Ug (mv iv ev cv sv lv qv:Value) (P:AR) (w:World) (h:Lr w mv iv ev cv sv lv qv P) (hP:EC P):
 Calls prog 22 #[AQ mv iv ev cv sv lv qv P.zT P.zW] w (OX w P):=by
 unfold AQ;obtain⟨B0,B1,bB,fH⟩:=ML w (.cells #[mv,iv,ev,cv,sv,lv,qv, .int .i64 P.zT, .int .i64 P.zW] 32) (.cells #[.slice none 0 0, .slice none 0 0, .slice none 0 0, .slice none 0 0, .slice none 0 0, .slice none 0 0, .slice none 0 0, .int .i64 0, .int .i64 0] 32);have h':=h.below bB;have ei:=Ue hP;go_in;go_wp2_with fail;generalize(w.alloc _).alloc _=W0 at*;have C1:=AA (fun W (hW:Below W0.heap.size W0 W)=>TD mv iv ev cv P.zX W (h'.1.below hW) hP.k);have C2:=AA (fun W (hW:Below W0.heap.size W0 W)=>Pg sv P.swap W (h'.2.1.below hW) ei.1 ei.2);have C3:=AA (fun W (hW:Below W0.heap.size W0 W)=>ID lv P.low W (h'.2.2.1.below hW) (by rw[hP.zv];omega));have C4:=AA (fun W (hW:Below W0.heap.size W0 W)=>QQ qv P.No W (BJ.below h'.2.2.2 hW) (by rw[hP.zQ];omega));have ao:=AA B0;have gq:=AA B1;have dN:=AA bB;obtain⟨x0,x1,x2,x3,x4,x5,x6,x7,x8⟩:=AE B0;have bv:w.heap.size<W0.heap.size:=by omega
 clear h h' ei B0 B1 bB x7 x8 hP;refine QO 13 mixed (by kernel_rfl) 20 rfl (by kernel_rfl) 2 5 (by kernel_rfl) (by decide) (by decide) (fun V1 V2=>∀m i e c,V1= .agg #[m,i,e,c]->Fa m V2) (fun ix vv ww=>match ix with
  |0|12=>vv= .pointer (some ⟨w.heap.size,0,none⟩)
  |1=>vv= .agg #[mv,iv,ev,cv]
  |2=>GU W0.heap.size vv ww P.zX
  |3=>vv= .pointer (some ⟨w.heap.size,4,none⟩)
  |4=>vv=sv
  |5=>∃bd,At W0.heap.size ww vv bd P.swap
  |6=>vv= .pointer (some ⟨w.heap.size,5,none⟩)
  |7=>vv=lv
  |8=>AG W0.heap.size ww vv P.low
  |9=>vv= .pointer (some ⟨w.heap.size,6,none⟩)
  |10=>vv=qv
  |11=>AP W0.heap.size 40 3 Cz ww vv P.No
  |_=>True) ?_ ?_ ?_ ?_
 .intro i hi vv wz cJ bo hz
  match i,hi with
  |0,_|1,_|3,_|4,_|6,_|7,_|9,_|10,_=>exact hz
  |2,_=>exact(GU.below hz bo)
  |5,_=>exact(by obtain⟨bd,h'⟩:=hz;exact⟨bd,h'.below bo⟩)
  |8,_=>exact(AG.below hz bo)
  |11,_=>exact(AP.below hz bo)
  |12,_=>exact hz
 .intro i hi fT o ho a wx Hb Hd hG K HK
  match i,hi,fT with
  |0,_,_=>exact dF ho rfl (gn rfl) HK rfl YM (eb (OV Hb 1)) rfl
  |1,_,_=>exact dL ho rfl (gn rfl) HK rfl (et (BT Hd 0)) (NZ (bc hG bv x0) (bc hG bv x1) (bc hG bv x2) (bc hG bv x3)) rfl
  |2,_,_=>obtain rfl:=yH ho;have d1:(a.tmps[4]?.getD undef)= .agg #[mv,iv,ev,cv]:=BT Hd 1;clear Hd Hb;refine yG ?_;go_simp;refine(C1.out _ hG).mono ?_;rintro r w_ ⟨m',i',e',c',rfl,hO,an⟩;exact HK.out _ _ ⟨m',i',e',c',rfl,hO.lower hG.size⟩ an
  |3,_,_=>exact dF ho rfl (gn rfl) HK rfl aE (eb (OV Hb 1)) rfl
  |4,_,_=>exact dL ho rfl (gn rfl) HK rfl (et (BT Hd 3)) (GM (bc hG bv x4)) rfl
  |5,_,hs=>exact absurd rfl hs
  |6,_,_=>exact dF ho rfl (gn rfl) HK rfl aF (eb (OV Hb 1)) rfl
  |7,_,_=>exact dL ho rfl (gn rfl) HK rfl (et (BT Hd 6)) (Jx (bc hG bv x5)) rfl
  |8,_,_=>obtain rfl:=yH ho;have d7:(a.tmps[10]?.getD undef)=lv:=BT Hd 7;clear Hd Hb;refine yG ?_;go_simp;refine(C3.out _ hG).mono ?_;rintro e w_ ⟨v',rfl,hO,an⟩;exact HK.out _ _ (BR hO hG.size) an
  |9,_,_=>exact dF ho rfl (gn rfl) HK rfl aG (eb (OV Hb 1)) rfl
  |10,_,_=>exact dL ho rfl (gn rfl) HK rfl (et (BT Hd 9)) (Zd (bc hG bv x6)) rfl
  |11,_,_=>obtain rfl:=yH ho;have dJ:(a.tmps[13]?.getD undef)=qv:=BT Hd 10;clear Hd Hb;refine yG ?_;go_simp;refine(C4.out _ hG).mono ?_;rintro e w_ ⟨v',rfl,hO,an⟩;exact HK.out _ _ (hO.lower hG.size) an
  |12,_,_=>exact dF ho rfl (gn rfl) HK rfl YM (eb (OV Hb 1)) rfl
 .intro o ho a wx Hb Hd hG K HK
  obtain rfl:=yH ho;have d4:(a.tmps[7]?.getD undef)=sv:=BT Hd 4;have d2:GU W0.heap.size (a.tmps[5]?.getD undef) wx P.zX:=BT Hd 2;clear Hd Hb;refine yG ?_;go_simp;refine(C2.out _ hG).mono ?_;rintro e w_ ⟨v',bd,rfl,hO,an⟩;exact HK.out _ _ ⟨bd,hO.lower hG.size⟩ (fun m i e c E=>Wl d2 E hO) an
 .intro vs wx hR hP hG
  have q2:GU W0.heap.size (vs 2) wx P.zX:=BZ hR 2;have q5:∃bd,At W0.heap.size wx (vs 5) bd P.swap:=BZ hR 5
  have q8:AG W0.heap.size wx (vs 8) P.low:=BZ hR 8;have dU:AP W0.heap.size 40 3 Cz wx (vs 11) P.No:=BZ hR 11;have cS:(vs 12)= .pointer (some ⟨w.heap.size,0,none⟩):=BZ hR 12;clear hR;simp only[Al,AV,yE,yB,yA,yy,cS];simp;generalize vs 2=z2 at q2 hP ⊢;generalize vs 5=z5 at q5 hP ⊢;generalize vs 8=z8 at q8 ⊢;generalize vs 11=z11 at dU ⊢;clear cS;obtain⟨m',i',e',c',rfl,k1⟩:=q2;obtain⟨bd,k2⟩:=q5;have fe:Fa m' z5:=hP _ _ _ _ rfl;have O:=(⟨k1,⟨bd,k2⟩,q8,dU,fe⟩:Ez W0.heap.size wx m' i' e' c' z5 z8 z11 P);obtain⟨⟨⟨ma,mn,mc,rfl⟩,⟨ia,iN,ic,rfl⟩,⟨ea,en,ec,rfl⟩,⟨qa,qn,qc,rfl⟩⟩,⟨sa,sn,sc,rfl⟩,⟨la,ln,lc,rfl⟩,⟨pa,pn,pc,rfl⟩⟩:=O.zS;have B0:=(hG.block _ bv).trans ao.out;have B1:=(hG.block (w.heap.size+1) (by omega)).trans gq.out;obtain⟨fG,cz,fF,fE,fD,fC,fB,fA,fz⟩:=AE B0;have f0:=AK B0;go_step;go_simp;have dH:=Ao wx w.heap.size (.slice ma mn mc) (.slice ia iN ic) (.slice ea en ec) (.slice qa qn qc);have ds:=JL (m':= .slice ma mn mc) (i':= .slice ia iN ic) (e':= .slice ea en ec) (c':= .slice qa qn qc) B0;have O1:=O.yN dH B0;have eN:=(dH.block (w.heap.size+1) (by have:=hG.size;omega) (by intro e;have:=yH e;omega)).trans B1;have bw:=AM (dN.out.trans (hG.mono dN.out.size)) dH (yv _) (yD dN.out.size hG.size);clear O dH B0 B1 hG f0 fG cz fF fE fD fC fB fA fz k1 k2 q8 dU hP fe x0 x1 x2 x3 x4 x5 x6;generalize(((wx.setCell _ _).setCell _ _).setCell _ _).setCell _ _=W1 at*;obtain⟨_,_,_,_,c4,c5,c6,_⟩:=AE ds;have f4:=AK ds;have S2:=Y4 (b4:= .slice sa sn sc) (b5:= .slice la ln lc) (b6:= .slice pa pn pc) ds;have dG:=V9 (w:=W1) (g:=w.heap.size) (b4:= .slice sa sn sc) (b5:= .slice la ln lc) (b6:= .slice pa pn pc);have O2:=O1.yN dG ds;have dO:=(dG.block (w.heap.size+1) (AY eN) (by intro e;have:=yH e;omega)).trans eN;have fj:=AM bw dG (yv _) bw.size;obtain⟨y0,y1,y2,y3,y4,y5,y6,y7,y8⟩:=AE S2;obtain⟨u0,u1,u2,u3,u4,u5,u6,u7,u8⟩:=AE dO;have f1:=AK dO;have cf:=AA O2;have dq:=AA dO;have dp:=AA fj;clear O1 ds eN bw dG S2 O2 dO fj;go_wp2_with fail;clear y0 y1 y2 y3 y4 y5 y6 y7 y8 u0 u1 u2 u3 u4 u5 u6 u7 u8 f1 c4 c5 c6 f4;generalize((W1.setCell _ _).setCell _ _).setCell _ _=W2 at*;have eC:=Ex (w:=W2) (g:=w.heap.size+1) (b0:= .slice ma mn mc) (b1:= .slice ia iN ic) (b2:= .slice ea en ec) (b3:= .slice qa qn qc) (b4:= .slice sa sn sc) (b5:= .slice la ln lc) (b6:= .slice pa pn pc) (b7:= .int .i64 P.zT) (b8:= .int .i64 P.zW);have N3:=GO (b0:= .slice ma mn mc) (b1:= .slice ia iN ic) (b2:= .slice ea en ec) (b3:= .slice qa qn qc) (b4:= .slice sa sn sc) (b5:= .slice la ln lc) (b6:= .slice pa pn pc) (b7:= .int .i64 P.zT) (b8:= .int .i64 P.zW) dq.out
  have O3:=(cf.out.yN eC dq.out).lower dN.out.size;have B3:=AM dp.out eC (by omega) dp.out.size;unfold Er at eC N3 O3 B3;exact bodyPost_ret (v:= .agg #[_,_,_,_,_,_,_,_,_]) (by simp[results,Tryz.results22,go_sem,AE N3]) rfl ⟨_,_,_,_,_,_,_,rfl,O3,B3⟩
theorem DO.past {lo:Nat} {w w':World} {m i e c:Value} {row:Option Nat} (h:DO lo w m i e c k) (hg:w.grownBy w' row) (hr:∀b,row=some b->b<lo):DO lo w' m i e c k:=by
 obtain⟨⟨vs,h1,h2,h3⟩,h4,⟨ps,h5,h6,h7⟩,h8⟩:=h;exact⟨⟨vs,Bp h1 hg hr,h2.mono fun _ _ x=>Bp x hg hr,h3⟩,Bp h4 hg hr,⟨ps,Bp h5 hg hr,h6.mono fun _ _ x=>⟨Bp x.1 hg hr,x.2⟩,h7⟩,Bp h8 hg hr⟩
theorem TH (w:World) (s:ByteArray) (t:TypeId):BP (w.alloc (.cells #[.string s] t)) (.slice (some ⟨w.heap.size,0,none⟩) 1 1) [s]:=
 Rd.zE w #[.string s] t 1 1 _ rfl rfl (by simp[maxLen])
theorem Zo (w:World) (a b c:ByteArray) (t u:TypeId):
 LV ((((w.alloc (.cells #[.string a] t)).alloc (.cells #[.string b] t)).alloc (.cells #[.string c] t)).alloc (.cells #[.slice (some ⟨w.heap.size,0,none⟩) 1 1, .slice (some ⟨w.heap.size+1,0,none⟩) 1 1, .slice (some ⟨w.heap.size+1+1,0,none⟩) 1 1] u))
  (.slice (some ⟨w.heap.size+1+1+1,0,none⟩) 3 3) [[a],[b],[c]]:=by
 have h1:=TH w a t;have h2:=TH (w.alloc (.cells #[.string a] t)) b t;have h3:=TH ((w.alloc (.cells #[.string a] t)).alloc (.cells #[.string b] t)) c t;simp only[xG] at h2 h3;refine⟨[.slice (some ⟨w.heap.size,0,none⟩) 1 1, .slice (some ⟨w.heap.size+1,0,none⟩) 1 1, .slice (some ⟨w.heap.size+1+1,0,none⟩) 1 1],?_,rfl,?_⟩
 .exact Rd.zE _ #[_,_,_] u 1 3 _ (by simp) rfl (by simp[maxLen])
 .intro i x y hx hy
  match i,hx,hy with
  |0,hx,hy=>simp at hx hy;subst hx hy;exact((BJ.below h1 (AD _ _)).below (AD _ _)).below (AD _ _)
  |1,hx,hy=>simp at hx hy;subst hx hy;exact(BJ.below h2 (AD _ _)).below (AD _ _)
  |2,hx,hy=>simp at hx hy;subst hx hy;exact BJ.below h3 (AD _ _)
def Mh:List (List ByteArray):=[[gA],[gB],[gC]]
theorem Pa:∀ts∈Mh,BO ts=true:=by
 intro ts h;simp only[Mh,List.mem_cons,List.not_mem_nil,or_false] at h
 rcases h with rfl|rfl|rfl<;>decide+kernel
theorem Qj:∀ts∈Mh,DP ts:=fun ts h=>GJ (Pa ts h)
theorem Ub:Mg Mh=Ds 0:=by kernel_rfl
def U3 (r:Ending):Prop:=r= .returned (.tuple #[AQ (.slice none 0 0) (.slice none 0 0) (.slice none 0 0) (.slice none 0 0) (.slice none 0 0) (.slice none 0 0) (.slice none 0 0) 0 0, .bool false])
theorem XP:(madeCells (Value.agg #[.int .i64 0, .int .i64 0, .bool false]).cells (16*3)).toList=Ch Cz (xX 16 ⟨0,0,false⟩):=by kernel_rfl
def U0 (lo:Nat) (v:Value) (w:World) (m i e c:Value) (l:Int):Prop:=∃s q,v= .agg #[m,i,e,c,s, .slice none 0 0,q, .int .i64 0, .int .i64 l]/\At lo w s (xX 16 (.slice none 0 0)) (xX 16 [])/\AP lo 40 3 Cz w q (xX 16 ⟨0,0,false⟩)
theorem U0.below {lo:Nat} {w w':World} {m i e c:Value} {l:Int} (h:U0 lo v w m i e c l) (hb:Below w.heap.size w w'):U0 lo v w' m i e c l:=by obtain⟨s,q,h1,h2,h3⟩:=h;exact⟨s,q,h1,h2.below hb,h3.below hb⟩
def LU (lo:Nat) (v:Value) (w:World):Prop:=∃g,v= .pointer (some ⟨g,0,none⟩)/\lo<=g/\w.heap[g]? =some (.cells #[.slice none 0 0, .slice none 0 0, .slice none 0 0, .slice none 0 0, .slice none 0 0, .slice none 0 0, .slice none 0 0, .int .i64 0, .int .i64 0] 32 (0,0))
theorem LU.below {lo:Nat} {w w':World} (h:LU lo v w) (hb:Below w.heap.size w w'):LU lo v w':=by obtain⟨g,h1,h2,h3⟩:=h;exact⟨g,h1,h2,AC h3 hb⟩
theorem Lg {w:World} {lo e sz n:Nat} {xs:List Value} (h:w.ownsRow lo e sz v n xs):∃a n c,v= .slice a n c:=by
 rcases h.2 with⟨rfl,_⟩|⟨g',bK,fi,rfl,_⟩
 .exact⟨_,_,_,rfl⟩
 .exact⟨_,_,_,rfl⟩
def LA (k:Nat):List Int:=(yE k).map fun j=>((j+1:Nat):Int)
theorem Vo (k:Nat):LA (k+1)=LA k++[((k+1:Nat):Int)]:=by simp[LA,List.range_succ]
theorem Ra (k:Nat):(LA k).length=k:=by simp[LA]
def bP (lo g:Nat) (w:World) (s l q:Value) (P:AR) (k':AN) (w':World):Prop:=
 (∃m i e c,Gg lo g w' m i e c s l q {P with zX:=k'}/\DO w.heap.size w' m i e c k')/\Below lo w w'/\w.grownBy w' (some g)
theorem JQ {lo:Nat} {w:World} {xs:List Int} (h:AG lo w v xs) {j:Nat} (hj:j<xs.length):∃b bK,v= .slice (some ⟨b,0,none⟩) xs.length bK/\b<w.heap.size/\w.cell? ⟨b,j,none⟩=some (.int .i64 (xs.getD j 0)):=by
 have h0:=h;unfold AG at h0
 rcases h0.2 with⟨rfl,e⟩|⟨b,bK,fi,rfl,_,_,_⟩
 .omega
 .refine⟨b,bK,rfl,(yr h0 b rfl).2,?_⟩
  have:=xC h0 j (by omega);rw[this];simp[xU,hj]
theorem Pm {lo g:Nat} {w:World} {mv ev cv lv:Value} {P:AR} (h:Gg lo g w mv iv ev cv sv lv qv P) (bl:lo<=w.heap.size) (hK:DI P.zX) (cZ:P.low.length=4) {n:Nat} (hn:n<16) (wd:Int) (hw:wd<=9223372036854775807):
 Calls prog 57 #[.pointer (some ⟨g,0,none⟩), .int .i64 n, .int .i64 wd] w (fun r w'=>r= .returned (.tuple #[])/\bP lo g w sv lv qv P (Ad P.zX (II P n wd)).1 w'):=by
 obtain⟨a,ha⟩:∃a,a=n/4:=⟨_,rfl⟩
 obtain⟨b,hb⟩:∃b,b=n%4:=⟨_,rfl⟩
 have e:Ad P.zX (II P n wd)=Ad P.zX ⟨6,0,BG P.low a,(b:Int),wd,⟨#[]⟩⟩:=by subst ha hb;exact(Oz ⟨by decide,by decide,by decide⟩)
 rw[e];have q1:(n:Int)/4=(a:Int):=by omega
 have q2:(n:Int)%4=(b:Int):=by omega
 have C:=Lh h bl hK ⟨6,0,BG P.low a,(b:Int),wd,⟨#[]⟩⟩ (show(0:Int)<=0 by decide) (show(0:Int)<3 by decide) (yh _) (by unfold Jb;simp) hw;obtain⟨_,_,_,_,_,c5,_⟩:=h.cells;obtain⟨lb,lc,rfl,eZ,D⟩:=JQ h.own.low (j:=a) (by omega);rw[cZ] at C c5;replace D:w.cell? ⟨lb,a,none⟩=some (.int .i64 (BG P.low a)):=D;have f7:(a:Int)<4:=by omega
 have Hn:=AA hn;generalize BG P.low a=la at*;dsimp only at C;unfold ZM at C;clear h ha hb e hn;go_in;go_wp2_with fail;refine C.mono ?_;rintro r w1 ⟨rfl,h2⟩;have H2:=AA h2;clear h2 C D c5;go_wp2_with fail;go_returns;exact⟨rfl,by rw[cZ];exact H2.out⟩
theorem VK {l:List Bi} {k:Nat} {x:Bi} (h:l[k]? =some x) (wh:Int):Ai (l.take (k+1)) wh=Ai (l.take k) wh+D5 (NW wh x):=by rw[Cw h];unfold Ai;rw[List.countP_append];simp[List.countP_cons,D5]
theorem Pi {g:Nat} {w:World} {ps:List Bi} (hq:w.cell? ⟨g,6,none⟩=some qv) (hR:BJ 3 Cz w qv ps) (hl:ps.length=16) (wh:Int):
 Calls prog 36 #[.pointer (some ⟨g,0,none⟩), .int .i64 wh] w (fun r w'=>r= .returned (.int .i64 (Ai ps wh:Int))/\Below w.heap.size w w'):=by
 obtain⟨a,c,rfl,_⟩:=hR.shape;have H0:=SJ.of Ew (by decide) hR;rw[hl] at hq;go_in;go_wp2_with fail;go_loopw [5,7,13] (fun n _ ix wr=>∃k:Nat,k<=16/\ix= .int .i64 k/\n= .int .i64 (Ai (ps.take k) wh:Int)/\Below w.heap.size w wr) (fun _ _ ix _=>16 - (intOf ix).toNat)
 case atStart=>exact⟨0,by omega,rfl,rfl,yF _ _⟩
 case round=>
  obtain⟨k,hk,rfl,rfl,hb⟩:=hrel
  by_cases bg:k<16
  .obtain⟨x,hx⟩:∃x,ps[k]? =some x:=⟨_,yx (by omega)⟩
   obtain⟨b,cK,rfl,cN,hc⟩:=(H0.below hb) k x hx;have D0:=hc 0 _ rfl;have D1:=hc 1 _ rfl;have D2:=hc 2 _ rfl;rw[xQ] at D0;have Nx:=AA (VK hx wh);have fd:Ai (ps.take k) wh<=16:=by unfold Ai;exact yD List.countP_le_length (by rw[List.length_take];omega)
   generalize Ai (ps.take k) wh=n at*;have gx:(k:Int)<16:=by omega
   obtain⟨xw,xa,xu⟩:=x;have bw:=AA (hb.trans ((AD wr (.cells #[.int .i64 xw, .int .i64 xa, .bool xu] 40)).mono hb.size));clear hc hx H0 hR
   by_cases hw:xw=wh
   focus
    subst hw
    have t1:D5 (NW xw ⟨xw,xa,xu⟩)=1:=by simp[NW,D5]
   rotate_left
   focus
    have t1:D5 (NW wh ⟨xw,xa,xu⟩)=0:=by simp[NW,D5,hw]
    have t2:(xw==wh)=false:=by simp[hw]
    clear hw
   rotate_left
   all_goals
    go_wp2_with fail;go_roundw
    case rel=>exact⟨k+1,by omega,by go_num,by rw[Nx.out,t1];go_num,bw.out⟩
    case measure=>simp[intOf];omega
  .obtain rfl:k=16:=by omega
   rw[List.take_of_length_le (by omega)];go_wp2_with fail;go_ret;exact⟨rfl,hb⟩
theorem Ga (vs:List Value):Ch F3 vs=vs:=by
 induction vs with
 |nil=>rfl
 |cons v vs ih=>rw[H5,ih];rfl
theorem At.set {lo B:Nat} {w0 w:World} {gs n bK j:Nat} {vs:List Value} {S:List (List Int)} {v':Value} {r:List Int} (h:At lo w0 (.slice (some ⟨gs,0,none⟩) n bK) vs S) (hb:Below w0.heap.size w0 w) (hO:AG B w v' r) (hB:w0.heap.size<=B) (bl:lo<=w0.heap.size) (hn:n=vs.length) (hj:j<vs.length):
 At lo (w.setCell ⟨gs,j,none⟩ v') (.slice (some ⟨gs,0,none⟩) n bK) (vs.set j v') (S.set j r)/\w.grownBy (w.setCell ⟨gs,j,none⟩ v') (some gs):=by
 have h':=h.below hb;obtain⟨h1,⟨eB,h2⟩,h3⟩:=h';have g1:w.ownsRow lo 29 1 (.slice (some ⟨gs,0,none⟩) n bK) n vs:=by have:=h1;unfold AP at this;rw[Ga,<-hn] at this;exact this
 obtain⟨s1,s2⟩:=World.ownsRow.stored g1 j v';obtain⟨fi,dg⟩:=A6 g1 gs rfl;have old:∀(i:Nat) u,vs[i]? =some u->∀b,u.ownBlock=some b->b<w0.heap.size:=fun i u hu b cD=>by
  obtain⟨x,hx⟩:∃x,S[i]? =some x:=⟨_,yx (by rw[<-eB];exact(yq.1 hu).1)⟩
  exact(yr (h.2.1.2 i u x hu hx) b cD).2
 refine⟨⟨?_,⟨by rw[xV,xV];exact eB,fun i u x hu hx=>?_⟩,fun i k u u' er hu cA=>?_⟩,s2⟩
 .unfold AP
  rw[Ga,xV,<-hn];exact s1
 .rw[vm] at hu hx
  by_cases e:j=i
  .subst e
   rw[if_pos rfl,if_pos hj] at hu;rw[if_pos rfl,if_pos (by rw[<-eB];exact hj)] at hx;cases hu;cases hx;exact Eo (BR hO (yD bl hB)) s2 dg
  .rw[if_neg e] at hu hx
   exact Eo (h2 i u x hu hx) s2 dg
 .have fresh:∀b,v'.ownBlock=some b->w0.heap.size<=b:=fun b cD=>yD hB (yr hO b cD).1
  rw[vm] at hu cA
  by_cases e:j=i
  .subst e
   rw[if_pos rfl,if_pos hj] at hu;rw[if_neg er] at cA;cases hu;intro b au an;have:=fresh b au;have:=old k u' cA b an;omega
  .rw[if_neg e] at hu
   by_cases e':j=k
   .subst e'
    rw[if_pos rfl,if_pos hj] at cA;cases cA;intro b au an;have:=fresh b an;have:=old i u hu b au;omega
   .rw[if_neg e'] at cA
    exact h3 i k u u' er hu cA
theorem Tb (v:Value) (r:List Int) (w:World) (h:Ax w v r):Calls prog 162 #[v] w fun e w'=>e= .returned (.bool r.isEmpty)/\Below w.heap.size w w':=by obtain⟨a,c,rfl,_,_,_⟩:=h.open;have S:=AA (show((r.length:Int)==0)=r.isEmpty by cases r<;>simp<;>omega);go_in;go_wp2_with fail;go_ret;exact⟨AI S.out,yF _ _⟩
theorem Uo {lo:Nat} {w:World} {vs:List Value} {S:List (List Int)} {r:List Int} (hs:At lo w sv vs S) (hl:S.length=16) (bl:lo<=w.heap.size) (hr:Ax w v r) (h4:r.length<=4) {j:Nat} (hj:BW S=(j:Int)) (fS:j<16):
 Calls prog 118 #[sv,v] w (fun e w'=>e= .returned (.int .i64 j)/\(∃bd,At lo w' sv bd (S.set j r))/\Below lo w w'/\w.grownBy w' sv.ownBlock):=by
 have cg:vs.length=16:=by rw[hs.2.1.1,hl]
 have C:=Ja 162 #[] List.isEmpty sv S w hs.rd (fun _ _=>by kernel_rfl) (fun u r _ W _ hr=>Tb u r W hr);rw[show Fl List.isEmpty S=(j:Int) from hj] at C;obtain⟨gs,bK,rfl,c1,c2,q1,q2,cq⟩:=hs.1.zO (by omega);rw[cg] at hs C ⊢;have gF:¬(j:Int)<0:=by omega
 have gE:(j:Int)<16:=by omega
 go_in;go_wp2_with fail;refine C.mono ?_;rintro e w1 ⟨rfl,b1⟩;go_wp2_with fail;refine(ID v r w1 (hr.below b1) (by omega)).mono ?_;rintro e w2 ⟨v',rfl,hO,b2⟩;have bb:=b1.trans (b2.mono b1.size);have R:=hs.set (B:=w1.heap.size) (j:=j) bb hO b1.size bl cg.symm (by omega);have g1:w2.ownsRow lo 29 1 (.slice (some ⟨gs,0,none⟩) 16 bK) 16 vs:=by have:=(hs.below bb).1;unfold AP at this;rwa [Ga,cg] at this
 have C1:=xC g1 j (by omega);rw[yx (by omega)] at C1;have F1:=xP g1 j;have B1:=AA (AM (bb.mono bl) R.2 (yr hs.1 gs rfl).1 (yD bl bb.size));have G1:=AA (AO (⟨bb.os,bb.tape,bb.output,bb.size,fun k hk _=>bb.block k hk⟩:w.grownBy w2 (some gs)) R.2);have R1:=AA R.1;have gN:(16:Int)<=bK:=by omega
 obtain⟨ra,rn,rc,rfl⟩:=Lg hO;clear C hO R g1 b1 b2 bb cq;go_wp2_with fail;go_ret;exact⟨rfl,⟨_,R1.out⟩,B1.out,G1.out⟩
theorem Vr {Os:List AU} {f:Nat} (hk:SP (zU Os f)):Fi Os f=(decide ((zU Os f).g=gA)&&decide ((zU Os f).r=1)&&decide ((zU Os f).k≠0)):=by
 unfold Fi
 by_cases h:(zU Os f).g=gA
 .have:(zU Os f).k≠0:=fun e=>by
   rcases hk with⟨_,g⟩|⟨a,_⟩
   .rw[h] at g;cases g
   .omega
  simp[this]
 .simp[h]
theorem MC {g:Nat} {w:World} {Os:List AU} (hi:w.cell? ⟨g,1,none⟩=some iv) (hR:BJ 3 A2 w iv Os) (hl:Os.length=12) {f:Nat} (hf:f<12) (hk:SP (zU Os f)):
 Calls prog 80 #[.pointer (some ⟨g,0,none⟩), .int .i64 f] w (fun r w'=>r= .returned (.bool (Fi Os f))/\Below w.heap.size w w'):=by
 have E:=AA (Vr hk);obtain⟨a,c,rfl,gJ,gI⟩:=hR.shape;have H0:=SJ.of Az (by decide) hR;have hx:Os[f]? =some (zU Os f):=Ci (by omega);obtain⟨b,cK,rfl,cN,hc⟩:=H0 f _ hx;have D0:=hc 0 _ rfl;have D1:=hc 1 _ rfl;have D2:=hc 2 _ rfl;rw[xQ] at D0;rw[hl] at hi;have fZ:(f:Int)<12:=by omega
 generalize zU Os f=x at*;obtain⟨k,gd,r⟩:=x;dsimp only at D0 D1 D2 E;clear hc H0 hR hx hk hl;have eg:gd=gA↔gd.toList=[97]:=⟨fun h=>by subst h;rw[xz];rfl,fun h=>by rw[xz] at h;cases gd with|mk d=>cases d with|mk l=>simp at h;subst h;rfl⟩
 by_cases hg:gd.toList=[97]
 .have t1:(gd.toList==[97])=true:=by simp[hg]
  by_cases hr:r=1
  .subst hr
   have t3:(k !=0)=decide (k≠0):=by by_cases h:k=0<;>simp[h]
   have E2:=AA (show Fi Os f=(k !=0) by rw[E.out,t3];simp[eg.2 hg]);clear hg eg E t3;go_in;go_wp2_with fail;go_ret;exact⟨AI E2.out.symm,AD _ _⟩
  .have t2:(r==1)=false:=by simp[hr]
   have E2:=AA (show Fi Os f=false by rw[E.out];simp[hr]);clear hg eg E hr;go_in;go_wp2_with fail;go_ret;exact⟨AI E2.out.symm,AD _ _⟩
 .have t1:(gd.toList==[97])=false:=by simp[hg]
  have E2:=AA (show Fi Os f=false by rw[E.out];simp[eg,hg]);clear hg eg E;go_in;go_wp2_with fail;go_ret;exact⟨AI E2.out.symm,AD _ _⟩
theorem Xc {g:Nat} {w:World} {mv ev cv lv:Value} {P:AR} (hB:w.heap[g]? =some (.cells #[mv,iv,ev,cv,sv,lv,qv, .int .i64 P.zT, .int .i64 P.zW] 32 (0,0))) (h:Lr w mv iv ev cv sv lv qv P) (hm:P.zX.mem.length=12) (hr:∀f,f<12->(AH P.zX.mem f).length=4) (cZ:P.low.length=4) {n:Nat} (hn:n<16) (bl:0<=BG P.low (n/4)/\BG P.low (n/4)<=11):
 Calls prog 84 #[.pointer (some ⟨g,0,none⟩), .int .i64 n] w (fun r w'=>r= .returned (.int .i64 (Br P n))/\Below w.heap.size w w'):=by
 unfold Br As;obtain⟨ja,ha⟩:∃ja,ja=n/4:=⟨_,rfl⟩
 obtain⟨jb,hb⟩:∃jb,jb=n%4:=⟨_,rfl⟩
 rw[<-ha] at bl ⊢;rw[<-hb];have q1:(n:Int)/4=(ja:Int):=by omega
 have q2:(n:Int)%4=(jb:Int):=by omega
 have gw:(n:Int).tmod 4=(jb:Int):=by rw[Int.tmod_eq_emod_of_nonneg (by omega)];exact q2
 have f6:jb<4:=by omega
 have f7:ja<4:=by omega
 obtain⟨x0,_,_,_,_,x5,_⟩:=AE hB;have hg:=AY hB;obtain⟨al,lc,rfl,_,_,HL⟩:=h.2.2.1.open;obtain⟨lb,dZ,rfl,DL⟩:=HL.at (k:=ja) (by omega);have eZ:=yC w _ DL;replace DL:w.cell? ⟨lb,dZ+ja,none⟩=some (.int .i64 (BG P.low ja)):=DL;obtain⟨f,hf⟩:∃f:Nat,BG P.low ja=(f:Int):=⟨(BG P.low ja).toNat,by omega⟩
 rw[hf] at DL bl ⊢;have bk:f<12:=by omega
 obtain⟨vs,o1,o2⟩:=h.1.1;have cg:vs.length=12:=by rw[o2.1,hm]
 obtain⟨am,cm,rfl,eA,_,HM⟩:=BJ.open D8 (by decide) o1;obtain⟨u,hu⟩:∃u,vs[f]? =some u:=⟨_,yx (by omega)⟩
 have cU:=o2.2 f u (AH P.zX.mem f) hu (by unfold AH;exact A1 (by omega));obtain⟨gm,eS,rfl,fX,fx⟩:=HM f u hu;have DR:=fx 0 _ rfl;obtain⟨ar,rc,rfl,_,_,fo⟩:=cU.open;obtain⟨rb,eP,rfl,DW⟩:=fo.at (k:=jb) (by rw[hr f bk];exact f6);have fI:=yC w _ DW;rw[Nat.mul_one,xQ,hr f bk] at DR;rw[cg] at x0;rw[cZ] at x5;rw[show((f:Int)).toNat=f from rfl];have fZ:(f:Int)<12:=by omega
 have gK:(ja:Int)<4:=by omega
 have dj:(jb:Int)<4:=by omega
 unfold nth at DW;generalize(AH P.zX.mem f).getD jb 0=wd at DW ⊢;clear h hm hr cZ bl hf o1 o2 cU hu cg eA ha hb HL HM fo fx hB;go_in;go_wp2_with fail;refine Aa 19 24 [.p g 0, .p g 0, .p g 0, .p g 0, .v (.slice (some ⟨gm,eS,none⟩) 12 cm), .p g 0, .p g 0, .p g 5, .v (.slice (some ⟨lb,dZ,none⟩) 4 lc), .i ((n:Int)), .i ((ja:Int)), .p lb (dZ+ja), .i ((f:Int)), .p gm (eS+f), .v (.slice (some ⟨rb,eP,none⟩) 4 rc), .i ((n:Int)), .i ((jb:Int)), .p rb (eP+jb), .i wd] (fun _ _ _=>True) ?_ ?_
 .intro i hi o ho a wx Hb Hd hG K HK
  have av:=bc hG hg x0;have ax:=bc hG hg x5;have ay:=bc hG eZ DL;have bn:=bc hG fX DR;have bx:=bc hG fI DW
  match i,hi with
  |0,_|1,_|2,_|3,_|5,_|6,_|7,_|9,_|15,_=>exact sP ho HK Hb Hd
  |4,_=>exact sL ho HK Hb Hd (hl:=GM ‹_›)
  |8,_|14,_=>exact sL ho HK Hb Hd (hl:=Jx ‹_›)
  |11,_|13,_|17,_=>exact sI ho HK Hb Hd (hr:=by clear Hd Hb HK;go_simp)
  |12,_|18,_=>exact sL ho HK Hb Hd (hl:=Fo ‹_›)
  |10,_=>clear av ax ay bn bx;obtain rfl:=yH ho;have d9:(a.tmps[14]?.getD undef)= .int .i64 n:=BT Hd 9;clear Hd Hb;refine yG ?_;go_simp;exact HK.out _ _ (by show yf .i64 (IntKind.i64.wrap _)=_;rw[IntWalk.i64_in _ (by omega)]) (yF _ _)
  |16,_=>clear av ax ay bn bx;obtain rfl:=yH ho;have dI:(a.tmps[20]?.getD undef)= .int .i64 n:=BT Hd 15;clear Hd Hb;refine yG ?_;go_simp;exact HK.out _ _ rfl (yF _ _)
  |_+19,hq=>omega
 .intro vs wx hR hG
  have eQ:(vs 18)= .int .i64 wd:=BZ hR 18;clear hR;simp only[Al,AV,yE,yB,yA,yy,eQ];simp;clear eQ;go_wp2_with fail;go_ret;exact⟨rfl,hG⟩
end Go.Proofs.YtinbcpipjfljeaaGreatDoor
