/-
  Packed:27 texts.
-/
import Derived.Test.YtpdjjjdkhedibaaGreatDoorY1
import Derived.Test.YtpdjjjdkhedibaaGreatDoorY4
import Derived.Test.YtpdjjjdkhedibaaGreatDoorY3
import Derived.Test.YtpdjjjdkhedibaaGreatDoorY2
import Derived.Deep.DeepCutAuto
import Derived.Deep.CutBlock
set_option linter.unusedVariables false
set_option linter.unusedSimpArgs false
set_option maxHeartbeats 16000000
set_option maxRecDepth 100000
open Go Go.Proofs.YtpdjjjdkhedibaaGreatDoor
open And renaming intro->xU
open Bool renaming and_eq_true->yu,and_eq_true_iff->wV,true_and->wt
open Decidable renaming em->vR
open Go.IntWalk renaming i64_in->xA
open Go.Lib renaming toList_data->xj
open Go.Proofs.Tryz renaming results139->uN,results143->rR,results190->vQ,results47->rM,results49->tJ,results88->rN
open Go.Region renaming waitsFor->xV
open Go.RowKit.Below renaming refl->yD
open Go.Value renaming int->xY,oneCell'->xG,ownBlock->vK,slice->xi
open Go.Value.slice renaming injEq->xH
open Go.World renaming block_lt_of_cell?->yA,cell?_alloc_new->tp,cell?_of_block->vX,size_alloc->xx
open Go.World.ownsRow renaming cellAt->xB,frozenAt->xJ,lt->yk,stored->wJ
open Go renaming bodyPost_ret->yr,cell_of_row->ym,heap_alloc_new->yi,heap_setCell_other->tV,heap_setCell_same->yq
open Int renaming eq_ofNat_of_zero_le->xQ,tmod_eq_emod_of_nonneg->vS,toNat_natCast->yd
open List renaming all_eq_true->xZ,filter_cons->vN,foldl_cons->yz,foldl_nil->yx,getD_eq_getElem?_getD->xO,getElem?_eq_getElem->yw,getElem?_map->xm,getElem?_set_self->xv,getElem?_take->ve,length_append->yj,length_filter_le->xy,length_set->xP,length_take->xT,mem_append->wC,mem_cons->xD,mem_of_getElem?->yh,mem_range->xS,not_mem_nil->wD,range->yC
open List.range renaming loop->yy
open Nat renaming add_le_add_left->su,add_zero->xK,le_of_lt->uA,le_refl->yv,le_succ->wu,le_trans->yB,lt_of_lt_of_le->xW,min_eq_left->ux,mul_le_mul_left->wg,mul_le_mul_right->wA,mul_one->wB,not_lt_zero->xN,zero_le->yg
variable {bu j:Nat} {W:World} {u:Value}
namespace Go.Proofs.YtpdjjjdkhedibaaGreatDoor
open Go.Proofs.Tryz
open Go.RowKit
structure Vj(lo g qk:Nat)(w:World)(m i e c s l q:Value)(P:AR)(mk ik ek ck:Value)(kc:AO):Prop where
 box:w.heap[g]?=some (.cells #[m,i,e,c,s,l,q,.int .i64 P.zR,.int .i64 P.zU] 32 (0,0))
 res:w.heap[g+1]?=some (.cells #[.slice none 0 0,.slice none 0 0,.slice none 0 0,.slice none 0 0,.slice none 0 0,.slice none 0 0,.slice none 0 0,.int .i64 0,.int .i64 0] 32 (0,0))
 kb:w.heap[qk]?=some (.cells #[mk,ik,ek,ck] 28 (0,0))
 own:FQ lo w mk ik ek ck s l q {P with zV:=kc}
 yJ:lo<=g/\lo<=qk/\lo<=w.heap.size
section
variable {lo g qk:Nat} {w w1:World} {m i e c s l q mk ik ek ck:Value} {P:AR} {kc:AO}
theorem Vj.below(h:Vj lo g qk w m i e c s l q P mk ik ek ck kc)(R:Below w.heap.size w w1):Vj lo g qk w1 m i e c s l q P mk ik ek ck kc:=
 ⟨AB h.box R,AB h.res R,AB h.kb R,h.own.below R,h.yJ.1,h.yJ.2.1,yB h.yJ.2.2 R.size⟩
theorem Vj.put{m' i' e' c':Value}{k':AO}(h:Vj lo g qk w m i e c s l q P mk ik ek ck kc)(R:Below w.heap.size w w1)(HK:Da w.heap.size w1 m' i' e' c' k'):Vj lo g qk (FG w1 qk m' i' e' c') m i e c s l q P m' i' e' c' k':=by
 have h':=h.below R;have gr:=Ao w1 qk m' i' e' c';have F:=h'.own.yL gr h'.kb;refine⟨Ap h'.box gr (Br h'.kb h'.box),Ap h'.res gr (Br h'.kb h'.res),Cx h'.kb,⟨(HK.yL gr h'.kb).lower h.yJ.2.2,F.swp,F.low,F.pgs,λj X V=>?_⟩,h.yJ.1,h.yJ.2.1,yB h'.yJ.2.2 gr.size⟩;obtain⟨us,r1⟩:=HK.1;obtain⟨vs,r2⟩:=h.own.swp;have e1:=(yk r1.1 j X).1;have e2:=(yk r2.1 j V).2;omega
theorem Vj.swap{gs sl:Nat}{v':Value}{r:List Int}(h:Vj lo g qk w m i e c (.slice (some ⟨gs,0,none⟩) 16 bu) l q P mk ik ek ck kc)(hl:P.swap.length=16)(R:Below w.heap.size w w1)(hO:AF w.heap.size w1 v' r)(K:sl<16):
 Vj lo g qk (w1.setCell ⟨gs,sl,none⟩ v') m i e c (.slice (some ⟨gs,0,none⟩) 16 bu) l q {P with swap:=P.swap.set sl r} mk ik ek ck kc/\w1.grownBy (w1.setCell ⟨gs,sl,none⟩ v') (some gs)/\lo<=gs:=by
 obtain⟨vs,cN⟩:=h.own.swp;replace cN:Au lo w (.slice (some ⟨gs,0,none⟩) 16 bu) vs P.swap:=cN;have eA:vs.length=16:=by rw[cN.2.1.1];exact hl
 have hb:=cN.set (B:=w.heap.size) (j:=sl) (r:=r) (v':=v') R hO (yv _) h.yJ.2.2 eA.symm (by omega);have h':=h.below R;obtain⟨cu,dX⟩:=A6 (cN.below R).1 gs rfl;obtain⟨B,hglo,⟨⟨⟨ms,k1,k2,k3⟩,k4,⟨ps,k5,k6,k7⟩,k8⟩,⟨us,hs'⟩,hlw,hp,g7⟩⟩:True/\lo<=g/\FQ lo w1 mk ik ek ck (.slice (some ⟨gs,0,none⟩) 16 bu) l q {P with zV:=kc}:=⟨trivial,h'.yJ.1,h'.own⟩;have hg:=hb.2;refine⟨⟨Ap h'.box hg (Br dX h'.box),Ap h'.res hg (Br dX h'.res),Ap h'.kb hg (Br dX h'.kb),⟨⟨⟨ms,Aw k1 hg g7.ne,k2.mono λ_ _ x=>Aw x hg (A8 x hs'.1 (by decide)).ne,k3⟩,Aw k4 hg (A8 k4 hs'.1 (by decide)).ne,⟨ps,Aw k5 hg (A8 k5 hs'.1 (by decide)).ne,k6.mono λ_ _ x=>⟨Aw x.1 hg (A8 x.1 hs'.1 (by decide)).ne,x.2⟩,k7⟩,Aw k8 hg (A8 k8 hs'.1 (by decide)).ne⟩,⟨_,hb.1⟩,Aw hlw hg (A8 hlw hs'.1 (by decide)).ne,Aw hp hg (A8 hp hs'.1 (by decide)).ne,g7⟩,h.yJ.1,h.yJ.2.1,yB h'.yJ.2.2 hg.size⟩,hg,(yk cN.1 gs rfl).1⟩
theorem Vj.back(h:Vj lo g qk w m i e c s l q P mk ik ek ck kc):Gi lo g (FG w g mk ik ek ck) mk ik ek ck s l q {P with zV:=kc}/\(FG w g mk ik ek ck).heap[g+1]?=some (.cells #[.slice none 0 0,.slice none 0 0,.slice none 0 0,.slice none 0 0,.slice none 0 0,.slice none 0 0,.slice none 0 0,.int .i64 0,.int .i64 0] 32 (0,0))/\w.grownBy (FG w g mk ik ek ck) (some g):=by have gr:=Ao w g mk ik ek ck;exact⟨⟨Jm h.box,h.yJ.1,h.own.yL gr h.box⟩,Ap h.res gr (by omega),gr⟩
end
def Ue(lo:Nat)(w:World)(s l q:Value)(Q:AR)(r:Ending)(w':World):Prop:=(∃m i e c,r=.returned (.tuple #[AN m i e c s l q Q.zR Q.zU,.bool true])/\FQ lo w' m i e c s l q Q)/\Below lo w w'/\E9 w w'
theorem ZG{lo:Nat}{w:World}{m i e c s l q:Value}{Q Q':AR}(h:Q=Q')(HK:FQ lo W m i e c s l q Q')(B:Below lo w W)(T:E9 w W):Ue lo w s l q Q (.returned (.tuple #[AN m i e c s l q Q'.zR Q'.zU,.bool true])) W:=by subst h;exact⟨⟨_,_,_,_,rfl,HK⟩,B,T⟩
theorem YB{lo:Nat}{w:World}{mv iv ev cv sv lv qv:Value}{P:AR}(h:FQ lo w mv iv ev cv sv lv qv P)(ay:lo<=w.heap.size)(hP:Du P){n:Nat}(hn:n<16)(hw:(AC P.zY n).w≠1)(eR:0<=Am P.zV.zZ):
 Calls prog 92 #[AN mv iv ev cv sv lv qv P.zR P.zU,.int .i64 n] w (Ue lo w sv lv qv (PL P n).1):=by
 obtain⟨k1,fr,dp,iA,kV⟩:∃k1 fr,Ae P.zV (Ag 1 0 0 0)=(k1,fr,0)/\(0<=fr/\fr<=11)/\DQ k1:=by obtain⟨g1,_,_⟩:=Fg (zZ:=P.zV.zZ) (by omega);rw[hP.k.len] at g1;have L:=FR (kind:=1) (a:=0) (b:=0) (c:=0) hP.k;have e:=MM (k:=P.zV) hP.may eR (a:=0) (b:=0) (c:=0);rw[e] at L;exact⟨_,_,e,⟨eR,by omega⟩,L⟩
 have lh:=WM (n:=n) dp;generalize dm:(PL P n).1=QQ_;obtain⟨ta,ha⟩:∃a,a=n/4:=⟨_,rfl⟩
 obtain⟨tb,R⟩:∃b,b=n%4:=⟨_,rfl⟩
 obtain⟨la,hla⟩:∃la,la=BO P.low ta:=⟨_,rfl⟩
 have q1:(n:Int)/4=(ta:Int):=by omega
 have q2:(n:Int)%4=(tb:Int):=by omega
 have nz:ta<4:=by omega
 have pC:(ta:Int)<4:=by omega
 have gQ:(n:Int)<16:=by omega
 rw[lh] at dm;unfold Ig at dm;rw[<-ha,<-R,<-hla] at dm;replace dm:=dm.symm;generalize hpx:AC P.zY n=x at dm hw;obtain⟨pw,pa,pu⟩:=x;dsimp only at dm hw;unfold Ue AN;obtain⟨N0,N1,bn,bx⟩:=Jz w (.cells #[mv,iv,ev,cv,sv,lv,qv,.int .i64 P.zR,.int .i64 P.zU] 32) ((.cells #[.slice none 0 0,.slice none 0 0,.slice none 0 0,.slice none 0 0,.slice none 0 0,.slice none 0 0,.slice none 0 0,.int .i64 0,.int .i64 0] 32));have cg:=(⟨N0,ay,h.below bn⟩:Gi lo w.heap.size _ mv iv ev cv sv lv qv P);obtain⟨⟨⟨ma,mn,mc,rfl⟩,⟨ia,iN,ic,rfl⟩,⟨ea,en,ec,rfl⟩,⟨ka,kn,kc,rfl⟩⟩,_,⟨gK,gJ,lc,rfl⟩,_⟩:=h.zQ;obtain⟨gF,cN⟩:=h.swp;have eA:gF.length=16:=by rw[cN.2.1.1];exact hP.zD
 obtain⟨gs,sc,e1,_,_,_,_,_⟩:=cN.1.zM (by omega);rw[eA] at e1;subst e1;obtain⟨gq,qc,rfl,gu,jy,jH,iV,_⟩:=cg.page (n:=0) (by rw[hP.zO];omega);rw[hP.zO] at h cg N0 N1 bn bx gu ⊢;have C1:=Fd cg.own.ker.rd hP.k 1 0 0 0 (by decide);unfold Kk at C1;rw[dp] at C1;dsimp only at C1;rw[show((0:Int)==0)=true from rfl] at C1;obtain⟨k0,mA,k2,k3,_⟩:=cg.cells;have hZ:=AA bx;have ks:=AA N1;have HI:=AA cg;have nV:=AA ay;have dl:=AA (yB ay bn.size);have cz:=AA (bn.mono ay);have f7:=AA ((E9.refl w).below bn);have HP:=AA hP;have ki:=AA iA;have ku:=AA kV;have iG:=AA (show n<P.zY.length by rw[hP.zO];exact hn);have iF:=AA hP.zO;have ig:=AA hP.zt;have nW:=AA hla.symm;have iE:=AA hpx;have iJ:=AA dm;have oo:=AA C1;clear h ay hP iA kV hla hpx dm cg N0 N1 bn bx cN eA C1 dp lh gu ha R eR;go_in;go_wp2_with fail;generalize(w.alloc _).alloc _=W0 at*;generalize hg:w.heap.size=g at*;have Hg:=AA hg;clear hg;refine oo.out.mono ?_;rintro r w1 ⟨m1,i1,e1,c1,rfl,O1,b1⟩;obtain⟨⟨ir,iq,bN,rfl⟩,⟨jl,jo,jj,rfl⟩,⟨jW,jS,jU,rfl⟩,⟨jh,jd,jf,rfl⟩⟩:=O1.zQ;have I1:=HI.out.below b1;have bA:=AI w1 (.cells #[.slice ir iq bN,.slice jl jo jj,.slice jW jS jU,.slice jh jd jf] 28);have I2:=I1.below bA;obtain⟨_,_,_,_,_,_,x6,_,_⟩:=I2.cells;obtain⟨dU,f2,p0,p1,p2⟩:=I2.pg (n:=n) iG.out;rw[iE.out] at p0 p1 p2;dsimp only at p0 p1 p2;obtain⟨NA,NB,j3,_⟩:=Jz w1 (.cells #[.slice ir iq bN,.slice jl jo jj,.slice jW jS jU,.slice jh jd jf] 28) (.cells #[.int .i64 pw,.int .i64 pa,.bool pu] 43);have fw:=b1.trans (j3.mono b1.size);have g7:Fp (.slice ir iq bN) (.slice (some ⟨gs,0,none⟩) 16 sc):=λj X V=>by obtain⟨us,r1⟩:=O1.1;obtain⟨vs,r2⟩:=HI.out.own.swp;have e1:=(yk r1.1 j X).1;have e2:=(yk r2.1 j V).2;omega
 have I4:=AA (⟨AB HI.out.yK fw,AB ks.out fw,NA,⟨(O1.below j3).lower dl.out,⟨_,HI.out.own.swp.choose_spec.below fw⟩,AF.below HI.out.own.low fw,AQ.below HI.out.own.pgs fw,g7⟩,HI.out.yJ,yB dl.out b1.size,yB dl.out fw.size⟩:Vj lo g w1.heap.size _ _ _ _ _ _ _ _ P _ _ _ _ k1);have gb:=AA (cz.out.trans (fw.mono dl.out));have iH:=AA (f7.out.below fw);have iK:=AA NB;clear I1 bA I2 NA NB j3 fw g7 O1 b1 k0 mA k2 k3;go_wp2_with fail;generalize(w1.alloc _).alloc _=W3 at*;generalize w1.heap.size=qk at*;obtain⟨qx,iy⟩:∃qx,qx=qk+1:=⟨_,rfl⟩
 rw[<-iy] at iK ⊢;clear iy x6 p0 p1 p2 f2 dU;obtain⟨mk,ik,ek,ck,I4⟩:∃mk ik ek ck,Hid (Vj lo g qk W3 (.slice ma mn mc) (.slice ia iN ic) (.slice ea en ec) (.slice ka kn kc) (.slice (some ⟨gs,0,none⟩) 16 sc) (.slice gK gJ lc) (.slice (some ⟨gq,0,none⟩) 16 qc) P mk ik ek ck k1):=⟨_,_,_,_,I4⟩
 by_cases ez:pw=2
 focus
  subst ez;have dm:=iJ.out;rw[if_pos rfl,if_pos rfl] at dm;obtain⟨sl,fS,hsl16,bt⟩:∃sl:Nat,pa=(sl:Int)/\sl<16/\Ds (AG P.swap sl)=true:=by
   rcases HP.out.zY n (by have:=iG.out;have:=iF.out;omega) with⟨x,_⟩|⟨x,_⟩|⟨z,x2,x3,x4,x5⟩
   .rw[iE.out] at x;exact absurd x (show ¬(2:Int)=0 by decide)
   .rw[iE.out] at x;exact absurd x (show ¬(2:Int)=1 by decide)
   .rw[iE.out] at x2 x3
    refine⟨pa.toNat,by have:=x2.1;simp only at this;omega,by have:=x2.2;simp only at this;omega,?_⟩
    rcases HP.out.zv pa.toNat (by have:=x2.2;simp only at this;omega) with x|x
    .exact absurd x x3
    .exact x
  subst fS;rw[yd] at dm;have HQ:=AA dm;have eh:=AA (A4.1 bt);have mN:(sl:Int)<16:=by omega
  clear dm iJ bt;go_loopw [10] (λix wr=>∃j:Nat,j<=4/\ix=.int .i64 j/\(∃mk ik ek ck,Vj lo g qk wr (.slice ma mn mc) (.slice ia iN ic) (.slice ea en ec) (.slice ka kn kc) (.slice (some ⟨gs,0,none⟩) 16 sc) (.slice gK gJ lc) (.slice (some ⟨gq,0,none⟩) 16 qc) P mk ik ek ck (Gk k1 fr (AG P.swap sl) j))/\wr.heap[qx]?=some (.cells #[.int .i64 2,.int .i64 sl,.bool pu] 43 (0,0))/\Below lo w wr/\E9 w wr) (λix _=>4 - (intOf ix).toNat)
  case atStart=>exact⟨0,by omega,rfl,⟨_,_,_,_,I4.out⟩,iK.out,gb.out,iH.out⟩
  case' round=>
   clear I4 iK gb iH;obtain⟨j,hj,rfl,⟨mk,ik,ek,ck,I5⟩,gp,B5,T5⟩:=hrel;obtain⟨⟨⟨ua,un,uc,rfl⟩,⟨va,vn,vc,rfl⟩,⟨ya,yn,yc,rfl⟩,⟨za,zn,zc,rfl⟩⟩,_,_⟩:=I5.own.zQ;obtain⟨gF,cN⟩:=I5.own.swp;replace cN:Au lo wr (.slice (some ⟨gs,0,none⟩) 16 sc) gF P.swap:=cN;have eA:gF.length=16:=by rw[cN.2.1.1];exact HP.out.zD
   obtain⟨gr,rc,hu,gk,_,_⟩:=cN.row (f:=sl) (by rw[HP.out.zD];exact hsl16) (by rw[eh.out.1];decide);rw[eh.out.1] at hu gk;have DS:=AQ.zz ER (by rw[eA];exact cN.1) hu 0 _ rfl;rw[wB,xK] at DS;obtain⟨_,_,_,_,x4,_⟩:=AD I5.box;obtain⟨ip,iT,_⟩:=GI gp;have io:=AA I5;have j9:=AA gp;have dP:=AA B5;have lI:=AA T5;clear T5
   by_cases ac:j<4
   .have gx:(j:Int)<4:=by omega
    have DW:wr.cell? ⟨gr,j,none⟩=some (.int .i64 ((AG P.swap sl).getD j 0)):=by have:=xB (show wr.ownsRow lo 3 1 (.slice (some ⟨gr,0,none⟩) 4 rc) 4 ((AG P.swap sl).map (xY .i64)) by have:=gk;unfold AF at this;rwa [eh.out.1] at this) j ac;rw[this,xm,A2 (d:=0) (by rw[eh.out.1];exact ac)];rfl
    have kK:(AG P.swap sl).getD j 0<=9223372036854775807:=by have:=(eh.out.2 _ (DT (d:=0) (show j<(AG P.swap sl).length by rw[eh.out.1];exact ac))).2;omega
    have kg:=AA (K5 (k:=k1) (f:=fr) (ws:=AG P.swap sl) (j:=j));have RK:=I5.own.ker.rd;have CM:=λW (hW:Below wr.heap.size wr W)=>Fd (RK.below hW) (K4 ku.out (f:=fr) (ws:=AG P.swap sl) j) 3 fr (j:Int) ((AG P.swap sl).getD j 0) kK
    have ng:g≠qk:=Br I5.box I5.kb;have nx:qx≠qk:=Br gp I5.kb;have ns:gs≠qk:=by obtain⟨cu,dX⟩:=A6 cN.1 gs rfl;exact Br dX I5.kb
    have nr:gr≠qk:=by obtain⟨cu,dX⟩:=A6 gk gr rfl;exact Br dX I5.kb
    have jI:=AW I5.box;have iy:=AW gp;have jF:=(yk cN.1 gs rfl).2;have jG:=(yk gk gr rfl).2;have fe:=I5.kb;have eB:=AW fe;obtain⟨n0,n1,n2,n3⟩:=AE fe;generalize(AG P.swap sl).getD j 0=wd at*;generalize Ae (Gk k1 fr (AG P.swap sl) j) (Ag 3 fr (j:Int) wd)=res1 at CM kg;obtain⟨fN,gh,mp⟩:=res1;unfold Kk at CM;dsimp only at CM kg;generalize(mp==0)=br1 at CM;replace CM:=AA CM;clear RK kK cN hu gk eA I5 gp B5 hj;go_wp2_with fail;refine Co 18 86 (λix=>ix==17) [.a #[.slice ua un uc,.slice va vn vc,.slice ya yn yc,.slice za zn zc],.i fr,.i ((j:Int)),.p g 4,.s gs 16 sc,.p qx 1,.i ((sl:Int)),.p gs sl,.s gr 4 rc,.i ((j:Int)),.p gr j,.i wd,.z,.z,.z,.i gh,.b br1,.z] (λll ix vv ww=>match ix with
     |12|13=>Ew wr.heap.size vv ww fN gh br1
     |14=>Gl wr.heap.size vv ww fN
     |_=>True) (λll ww=>GB wr (qk) fN (ll 17) ww) ?_ ?_ ?_ ?_ ?_ ?_
    .exact Av (yD _ _) 1
    .intro j hj ll i vv wz fx hi hS jN nB eT hz
     match j,hj with
     |12,_|13,_=>exact(Ew.below hz eT)
     |14,_=>exact(Gl.below hz eT)
     |0,_|1,_|2,_|3,_|4,_|5,_|6,_|7,_|8,_|9,_|10,_|11,_|15,_|16,_|17,_=>exact hz
     |_+18,hq=>omega
    .intro ll i wz fx hi hS jN eT hg
     show GB _ _ _ (GU ll i 17) _
     rw[EB (by rintro rfl;cases hS)];exact GB.grow hg eT
    .intro i hi hS o E a wx Z ll J D H hs O
     match i,hi,hS with
     |0,_,_=>have ff:=A9 D 17;have di:=(show wx.cell? ⟨qk,0,none⟩=some (.slice ua un uc) from GB.cell H (by cases hx:ll 17 with|false=>rfl|true=>exact absurd (D.out.2.2 12 0 (D.out.2.2 13 12 (D.out.2.2 14 13 (D.out.2.2 17 14 (hx) (by kernel_rfl)) (by kernel_rfl)) (by kernel_rfl)) (by kernel_rfl)) (by rw[D.out.1];decide)) eB n0);have bN:=(show wx.cell? ⟨qk,1,none⟩=some (.slice va vn vc) from GB.cell H (by cases hx:ll 17 with|false=>rfl|true=>exact absurd (D.out.2.2 12 0 (D.out.2.2 13 12 (D.out.2.2 14 13 (D.out.2.2 17 14 (hx) (by kernel_rfl)) (by kernel_rfl)) (by kernel_rfl)) (by kernel_rfl)) (by rw[D.out.1];decide)) eB n1);have dh:=(show wx.cell? ⟨qk,2,none⟩=some (.slice ya yn yc) from GB.cell H (by cases hx:ll 17 with|false=>rfl|true=>exact absurd (D.out.2.2 12 0 (D.out.2.2 13 12 (D.out.2.2 14 13 (D.out.2.2 17 14 (hx) (by kernel_rfl)) (by kernel_rfl)) (by kernel_rfl)) (by kernel_rfl)) (by rw[D.out.1];decide)) eB n2);have cw:=(show wx.cell? ⟨qk,3,none⟩=some (.slice za zn zc) from GB.cell H (by cases hx:ll 17 with|false=>rfl|true=>exact absurd (D.out.2.2 12 0 (D.out.2.2 13 12 (D.out.2.2 14 13 (D.out.2.2 17 14 (hx) (by kernel_rfl)) (by kernel_rfl)) (by kernel_rfl)) (by kernel_rfl)) (by rw[D.out.1];decide)) eB n3);exact JM E O Z J D (hl:=OM ‹_› ‹_› ‹_› ‹_›)
     |1,_,_|2,_,_|3,_,_|5,_,_|9,_,_=>exact Rb E O Z J D
     |4,_,_=>have ff:=A9 D 17;have bk:=(show wx.cell? ⟨g,4,none⟩=some (.slice (some ⟨gs,0,none⟩) 16 sc) from GB.other H jI ng x4);exact JM E O Z J D (hl:=F9 ‹_›)
     |6,_,_=>have ff:=A9 D 17;have dx:=(show wx.cell? ⟨qx,1,none⟩=some (.int .i64 sl) from GB.other H iy nx iT);exact JM E O Z J D (hl:=FT ‹_›)
     |8,_,_=>have ff:=A9 D 17;have fy:=(show wx.cell? ⟨gs,sl,none⟩=some (.slice (some ⟨gr,0,none⟩) 4 rc) from GB.other H jF ns DS);exact JM E O Z J D (hl:=KU ‹_›)
     |11,_,_=>have ff:=A9 D 17;have gj:=(show wx.cell? ⟨gr,j,none⟩=some (.int .i64 wd) from GB.other H jG nr DW);exact JM E O Z J D (hl:=FT ‹_›)
     |17,_,K=>cases K
     |7,_,_=>obtain rfl:=yF E;have d4:(a.tmps[40]?.getD undef)=.slice (some ⟨gs,0,none⟩) 16 sc:=Cw J D 4;have d6:(a.tmps[42]?.getD undef)=.int .i64 sl:=Cw J D 6;have ff:=A9 D 17;clear J Z;refine yE ?_;go_simp;exact O.out _ _ rfl (yD _ _)
     |10,_,_=>obtain rfl:=yF E;have d8:(a.tmps[44]?.getD undef)=.slice (some ⟨gr,0,none⟩) 4 rc:=Cw J D 8;have d9:(a.tmps[45]?.getD undef)=.int .i64 j:=Cw J D 9;have ff:=A9 D 17;clear J Z;refine yE ?_;go_simp;exact O.out _ _ rfl (yD _ _)
     |12,_,_=>
      obtain rfl:=yF E;have d0:(a.tmps[36]?.getD undef)=.agg #[.slice ua un uc,.slice va vn vc,.slice ya yn yc,.slice za zn zc]:=Cw J D 0;have d1:(a.tmps[37]?.getD undef)=.int .i64 fr:=Cw J D 1;have d2:(a.tmps[38]?.getD undef)=.int .i64 j:=Cw J D 2;have jY:(a.tmps[47]?.getD undef)=.int .i64 wd:=Cw J D 11;have ff:=A9 D 17;clear J Z;refine yE ?_;go_simp;have hE:Below wr.heap.size wr wx:=by
       rw[show ll 17=false from(by cases hx:ll 17 with|false=>rfl|true=>exact absurd (D.out.2.2 13 12 (D.out.2.2 14 13 (D.out.2.2 17 14 (hx) (by kernel_rfl)) (by kernel_rfl)) (by kernel_rfl)) (by rw[D.out.1];decide))] at H;exact H
      refine(CM.out _ hE).mono ?_;rintro r w_ ⟨m',i',e',c',rfl,hO,dZ⟩;exact O.out _ _ ⟨m',i',e',c',rfl,hO.lower hE.size⟩ dZ
     |13,_,_=>obtain rfl:=yF E;have eH:Ew wr.heap.size (a.tmps[48]?.getD undef) wx fN gh br1:=Cw J D 12;have ff:=A9 D 17;clear J Z;refine yE ?_;go_simp;exact O.out _ _ eH (yD _ _)
     |14,_,_=>obtain rfl:=yF E;have fF:Ew wr.heap.size (a.tmps[35]?.getD undef) wx fN gh br1:=Cw J D 13;have ff:=A9 D 17;clear J Z;obtain⟨m',i',e',c',fF,hO⟩:=fF;refine yE ?_;go_simp;exact O.out _ _ ⟨_,_,_,_,rfl,hO⟩ (yD _ _)
     |15,_,_|16,_,_=>obtain rfl:=yF E;have fF:Ew wr.heap.size (a.tmps[35]?.getD undef) wx fN gh br1:=Cw J D 13;clear J Z;obtain⟨m',i',e',c',fF,hO⟩:=fF;refine yE ?_;go_simp;exact O.out _ _ rfl (yD _ _)
     |_+18,hq,_=>omega
    .intro i hi hS o E a wx Z ll J D H hs O
     match i,hi,hS with
     |0,_,K|1,_,K|2,_,K|3,_,K|4,_,K|5,_,K|6,_,K|7,_,K|8,_,K|9,_,K|10,_,K|11,_,K|12,_,K|13,_,K|14,_,K|15,_,K|16,_,K=>cases K
     |17,_,_=>
      obtain rfl:=yF E;have e6:a.tmps[6]?.getD undef=.pointer (some ⟨qk,0,none⟩):=eg (PI Z 6);have gy:Gl wr.heap.size (a.tmps[49]?.getD undef) wx fN:=Cw J D 14;clear J Z;rw[D.out.1] at H;replace H:Below wr.heap.size wr wx:=H;obtain⟨m',i',e',c',gy,hO⟩:=gy;obtain⟨⟨va,vn,vc,rfl⟩,⟨wa,wn,wc,rfl⟩,⟨xa,xn,xc,rfl⟩,⟨ya,yn,yc,rfl⟩⟩:=hO.zQ;have dU:=AB fe H;obtain⟨c0,lz,c2,c3⟩:=AE dU;have fq:=AK dU;have az:=AA (Ao wx (qk) (.slice va vn vc) (.slice wa wn wc) (.slice xa xn xc) (.slice ya yn yc));have Hq:=AA dU;have HO:=AA hO;clear dU hO;refine yE ?_;go_simp;exact O.out undef _ trivial (by show GB _ _ _ (GU ll 17 17) _;rw[FN];exact⟨wx,_,_,_,_,H,HO.out,yD _ _⟩) (λj gx gv kW hu=>match j,gv with
       |0,_|1,_|2,_|3,_|4,_|5,_|6,_|7,_|8,_|9,_|10,_|11,_|15,_|16,_=>hu
       |12,_|13,_=>Ew.yL hu az.out Hq.out
       |14,_=>Gl.yL hu az.out Hq.out
       |17,_=>absurd rfl gx
       |_+18,hq=>absurd hq (by omega))
     |_+18,hq,_=>omega
    .intro vs wx ll eV hR H
     have kA:(vs 15)=.int .i64 gh:=BS hR 15;clear hR;simp only[Cn,BQ,yC,yy,yz,yx,kA];simp;clear kA;rw[eV 17 (by decide)] at H;obtain⟨wz,m3,i3,e3,c3,dj,hO,fA⟩:=H;have da:Below (FG wz qk m3 i3 e3 c3).heap.size (FG wz qk m3 i3 e3 c3) wx:=by simpa[FG] using fA
     have I7:=AA ((io.out.put dj hO).below da);have l6:=io.out.yJ.2.2;have B7:=AA (dP.out.trans ((AM (dj.mono l6) (Ao wz qk m3 i3 e3 c3) io.out.yJ.2.1 (yB l6 dj.size):Below lo wr _).trans (da.mono (yB l6 (yB dj.size (Ao wz qk m3 i3 e3 c3).size)))));have X7:=AA (AB (Ap (AB j9.out dj) (Ao wz qk m3 i3 e3 c3) nx.symm) da);have T7:=AA (((lI.out.below dj).other (Ao wz qk m3 i3 e3 c3) (AB fe dj) (by decide)).below da);clear eV dj fA da hO fe eB n0 n1 n2 n3 CM io j9 dP x4 ip iT DS DW;go_wp2_with fail;go_roundw;exact⟨j+1,by omega,by go_num,⟨_,_,_,_,by rw[kg.out];exact I7.out⟩,X7.out,B7.out,T7.out⟩;simp[intOf];omega
   obtain rfl:j=4:=by omega
   rw[show((4:Nat):Int)=4 from rfl];have h1:=I5.swap (r:=[]) HP.out.zD (AI wr (.cells #[] 3)) (FF wr) hsl16;have I6:=AA h1.1;have B6:=AA (AM (B5.trans ((AI wr (.cells #[] 3)).mono I5.yJ.2.2)) h1.2.1 h1.2.2 (yB I5.yJ.2.2 (AI wr (.cells #[] 3)).size));have lN:=AA (K4 ku.out (f:=fr) (ws:=AG P.swap sl) 4);have D4:=((AI wr (.cells #[] 3)).cell (yA _ _ DS)).trans DS;have F4:=xJ (show(wr.alloc (.cells #[] 3)).ownsRow lo 29 1 (.slice (some ⟨gs,0,none⟩) 16 sc) 16 gF by have:=(cN.below (AI wr (.cells #[] 3))).1;unfold AQ at this;rwa [Gs,eA] at this) sl;obtain⟨lw,eS⟩:=A6 (cN.below (AI wr (.cells #[] 3))).1 gs rfl;have T6:=AA ((lI.out.below (AI wr (.cells #[] 3))).other h1.2.1 eS (by decide));generalize hW6:World.setCell _ _ _=W6 at I6 B6 T6;clear h1 cN hu gk eA I5 gp B5 hj io j9 dP;go_wp2_with fail;clear D4 F4 DS x4 ip iT hW6;have hQ:QQ_= {P with zV:=(Ae (Gk k1 fr (AG P.swap sl) 4) (Ag 6 la (tb:Int) (IB fr))).1,swap:=P.swap.set sl [],zY:=P.zY.set n ⟨1,fr,true⟩}:=HQ.out;clear HQ;obtain⟨mk,ik,ek,ck,I6⟩:∃mk ik ek ck,Hid (Vj lo g qk W6 (.slice ma mn mc) (.slice ia iN ic) (.slice ea en ec) (.slice ka kn kc) (.slice (some ⟨gs,0,none⟩) 16 sc) (.slice gK gJ lc) (.slice (some ⟨gq,0,none⟩) 16 qc) ⟨P.zV,P.swap.set sl [],P.low,P.zY,P.zR,P.zU⟩ mk ik ek ck (Gk k1 fr (AG P.swap sl) 4)):=⟨_,_,_,_,I6⟩
   generalize Gk k1 fr (AG P.swap sl) 4=K2 at*;generalize P.swap.set sl []=S2 at*
 rotate_left
 focus
  have dm:=iJ.out;rw[if_neg ez,if_neg ez] at dm;have t2:(pw==2)=false:=by simp[ez]
  have HQ:=AA dm;have lN:=ku;have I6:=I4;have B6:=gb;have T6:=iH;obtain⟨ip,_,_⟩:=GI iK.out;clear dm iJ ez I4 gb iH;refine wp_loop_rounds 1 ?_;rw[rounds_succ];go_wp2_with fail;obtain⟨W6,rfl⟩:∃W6,W6=W3:=⟨_,rfl⟩
  clear ip;have hQ:QQ_= {P with zV:=(Ae (k1) (Ag 6 la (tb:Int) (IB fr))).1,swap:=P.swap,zY:=P.zY.set n ⟨1,fr,true⟩}:=HQ.out;clear HQ;obtain⟨mk,ik,ek,ck,I6⟩:∃mk ik ek ck,Hid (Vj lo g qk W6 (.slice ma mn mc) (.slice ia iN ic) (.slice ea en ec) (.slice ka kn kc) (.slice (some ⟨gs,0,none⟩) 16 sc) (.slice gK gJ lc) (.slice (some ⟨gq,0,none⟩) 16 qc) ⟨P.zV,P.swap,P.low,P.zY,P.zR,P.zU⟩ mk ik ek ck (k1)):=⟨_,_,_,_,I6⟩
  obtain⟨K2,rfl⟩:∃K2,K2=k1:=⟨_,rfl⟩
  generalize P.swap=S2 at hQ I6
 all_goals
  obtain⟨⟨⟨ua,un,uc,rfl⟩,⟨va,vn,vc,rfl⟩,⟨ya,yn,yc,rfl⟩,⟨za,zn,zc,rfl⟩⟩,_,_⟩:=I6.out.own.zQ;obtain⟨lb,it,hF,kU,DL⟩:=Iu I6.out.own.low (j:=ta) (by show ta<P.low.length;rw[ig.out];exact nz);replace hF:xi gK gJ lc=.slice (some ⟨lb,0,none⟩) P.low.length it:=hF;rw[ig.out] at hF;simp only[xH] at hF;obtain⟨rfl,rfl,rfl⟩:=hF;replace DL:W6.cell? ⟨lb,ta,none⟩=some (.int .i64 (BO P.low ta)):=DL;rw[nW.out] at DL;have nl:lb≠qk:=by obtain⟨cu,dX⟩:=A6 I6.out.own.low lb rfl;exact Br dX I6.out.kb
  have ng:g≠qk:=Br I6.out.box I6.out.kb;have jI:=AW I6.out.box;have fe:=I6.out.kb;have eB:=AW fe;obtain⟨n0,n1,n2,n3⟩:=AE fe;obtain⟨_,_,_,_,_,x5,_,_,_⟩:=AD I6.out.box;have he:IB fr<=9223372036854775807:=by have:=ki.out;unfold IB;omega
  have CP:=AA (λW=>MD fr W ki.out.1 ki.out.2);have RK:Mu W6 _ _ _ _ (K2):=I6.out.own.ker.rd;have CM:=λW (hW:Below W6.heap.size W6 W)=>Fd (RK.below hW) lN.out 6 la (tb:Int) (IB fr) he
  generalize IB fr=en_ at he CP CM hQ;generalize Ae (K2) (Ag 6 la (tb:Int) en_)=res2 at CM hQ;obtain⟨fM,gg,mo⟩:=res2;unfold Kk at CM;dsimp only at CM hQ;have HQ:=AA hQ;clear hQ;generalize(mo==0)=br2 at CM;replace CM:=AA CM;clear RK he;go_wp2_with fail;refine Co 17 86 (λix=>ix==16) [.a #[.slice ua un uc,.slice va vn vc,.slice ya yn yc,.slice za zn zc],.p g 5,.s lb 4 lc,.i ((n:Int)),.i ((ta:Int)),.p lb ta,.i la,.i ((n:Int)),.i ((tb:Int)),.i fr,.i en_,.z,.z,.z,.i gg,.b br2,.z] (λll ix vv ww=>match ix with
   |11|12=>Ew W6.heap.size vv ww fM gg br2
   |13=>Gl W6.heap.size vv ww fM
   |_=>True) (λll ww=>GB W6 (qk) fM (ll 16) ww) ?_ ?_ ?_ ?_ ?_ ?_
  .exact Av (yD _ _) 1
  .intro j hj ll i vv wz fx hi hS jN nB eT hz
   match j,hj with
   |11,_|12,_=>exact(Ew.below hz eT)
   |13,_=>exact(Gl.below hz eT)
   |0,_|1,_|2,_|3,_|4,_|5,_|6,_|7,_|8,_|9,_|10,_|14,_|15,_|16,_=>exact hz
   |_+17,hq=>omega
  .intro ll i wz fx hi hS jN eT hg
   show GB _ _ _ (GU ll i 16) _
   rw[EB (by rintro rfl;cases hS)];exact GB.grow hg eT
  .intro i hi hS o E a wx Z ll J D H hs O
   match i,hi,hS with
   |0,_,_=>have fg:=A9 D 16;have di:=(show wx.cell? ⟨qk,0,none⟩=some (.slice ua un uc) from GB.cell H (by cases hx:ll 16 with|false=>rfl|true=>exact absurd (D.out.2.2 11 0 (D.out.2.2 12 11 (D.out.2.2 13 12 (D.out.2.2 16 13 (hx) (by kernel_rfl)) (by kernel_rfl)) (by kernel_rfl)) (by kernel_rfl)) (by rw[D.out.1];decide)) eB n0);have bN:=(show wx.cell? ⟨qk,1,none⟩=some (.slice va vn vc) from GB.cell H (by cases hx:ll 16 with|false=>rfl|true=>exact absurd (D.out.2.2 11 0 (D.out.2.2 12 11 (D.out.2.2 13 12 (D.out.2.2 16 13 (hx) (by kernel_rfl)) (by kernel_rfl)) (by kernel_rfl)) (by kernel_rfl)) (by rw[D.out.1];decide)) eB n1);have dh:=(show wx.cell? ⟨qk,2,none⟩=some (.slice ya yn yc) from GB.cell H (by cases hx:ll 16 with|false=>rfl|true=>exact absurd (D.out.2.2 11 0 (D.out.2.2 12 11 (D.out.2.2 13 12 (D.out.2.2 16 13 (hx) (by kernel_rfl)) (by kernel_rfl)) (by kernel_rfl)) (by kernel_rfl)) (by rw[D.out.1];decide)) eB n2);have cw:=(show wx.cell? ⟨qk,3,none⟩=some (.slice za zn zc) from GB.cell H (by cases hx:ll 16 with|false=>rfl|true=>exact absurd (D.out.2.2 11 0 (D.out.2.2 12 11 (D.out.2.2 13 12 (D.out.2.2 16 13 (hx) (by kernel_rfl)) (by kernel_rfl)) (by kernel_rfl)) (by kernel_rfl)) (by rw[D.out.1];decide)) eB n3);exact JM E O Z J D (hl:=OM ‹_› ‹_› ‹_› ‹_›)
   |1,_,_|3,_,_|7,_,_|9,_,_=>exact Rb E O Z J D
   |2,_,_=>have fg:=A9 D 16;have bk:=(show wx.cell? ⟨g,5,none⟩=some (.slice (some ⟨lb,0,none⟩) 4 lc) from GB.other H jI ng x5);exact JM E O Z J D (hl:=KU ‹_›)
   |6,_,_=>have fg:=A9 D 16;have dx:=(show wx.cell? ⟨lb,ta,none⟩=some (.int .i64 la) from GB.other H kU nl DL);exact JM E O Z J D (hl:=FT ‹_›)
   |16,_,K=>cases K
   |4,_,_=>obtain rfl:=yF E;have d3:(a.tmps[65]?.getD undef)=.int .i64 n:=Cw J D 3;have fg:=A9 D 16;clear J Z;refine yE ?_;go_simp;exact O.out _ _ (by show xY .i64 (IntKind.i64.wrap (ta:Int))=.int .i64 ta;rw[xA _ (by omega)]) (yD _ _)
   |5,_,_=>obtain rfl:=yF E;have d2:(a.tmps[64]?.getD undef)=.slice (some ⟨lb,0,none⟩) 4 lc:=Cw J D 2;have d4:(a.tmps[66]?.getD undef)=.int .i64 ta:=Cw J D 4;have fg:=A9 D 16;clear J Z;refine yE ?_;go_simp;exact O.out _ _ rfl (yD _ _)
   |8,_,_=>obtain rfl:=yF E;have d7:(a.tmps[69]?.getD undef)=.int .i64 n:=Cw J D 7;have fg:=A9 D 16;clear J Z;refine yE ?_;go_simp;exact O.out _ _ (by show xY .i64 (Int.tmod (n:Int) 4)=.int .i64 tb;rw[vS (by omega)];exact congrArg _ q2) (yD _ _)
   |10,_,_=>obtain rfl:=yF E;have d9:(a.tmps[71]?.getD undef)=.int .i64 fr:=Cw J D 9;have fg:=A9 D 16;clear J Z;refine yE ?_;go_simp;refine(CP.out _).mono ?_;rintro r w_ ⟨rfl,dZ⟩;exact O.out _ _ rfl dZ
   |11,_,_=>
    obtain rfl:=yF E;have d0:(a.tmps[62]?.getD undef)=.agg #[.slice ua un uc,.slice va vn vc,.slice ya yn yc,.slice za zn zc]:=Cw J D 0;have d6:(a.tmps[68]?.getD undef)=.int .i64 la:=Cw J D 6;have d8:(a.tmps[70]?.getD undef)=.int .i64 tb:=Cw J D 8;have nK:(a.tmps[72]?.getD undef)=.int .i64 en_:=Cw J D 10;have fg:=A9 D 16;clear J Z;refine yE ?_;go_simp;have hE:Below W6.heap.size W6 wx:=by
     rw[show ll 16=false from(by cases hx:ll 16 with|false=>rfl|true=>exact absurd (D.out.2.2 12 11 (D.out.2.2 13 12 (D.out.2.2 16 13 (hx) (by kernel_rfl)) (by kernel_rfl)) (by kernel_rfl)) (by rw[D.out.1];decide))] at H;exact H
    refine(CM.out _ hE).mono ?_;rintro r w_ ⟨m',i',e',c',rfl,hO,dZ⟩;exact O.out _ _ ⟨m',i',e',c',rfl,hO.lower hE.size⟩ dZ
   |12,_,_=>obtain rfl:=yF E;have jY:Ew W6.heap.size (a.tmps[73]?.getD undef) wx fM gg br2:=Cw J D 11;have fg:=A9 D 16;clear J Z;refine yE ?_;go_simp;exact O.out _ _ jY (yD _ _)
   |13,_,_=>obtain rfl:=yF E;have eH:Ew W6.heap.size (a.tmps[61]?.getD undef) wx fM gg br2:=Cw J D 12;have fg:=A9 D 16;clear J Z;obtain⟨m',i',e',c',eH,hO⟩:=eH;refine yE ?_;go_simp;exact O.out _ _ ⟨_,_,_,_,rfl,hO⟩ (yD _ _)
   |14,_,_|15,_,_=>obtain rfl:=yF E;have eH:Ew W6.heap.size (a.tmps[61]?.getD undef) wx fM gg br2:=Cw J D 12;clear J Z;obtain⟨m',i',e',c',eH,hO⟩:=eH;refine yE ?_;go_simp;exact O.out _ _ rfl (yD _ _)
   |_+17,hq,_=>omega
  .intro i hi hS o E a wx Z ll J D H hs O
   match i,hi,hS with
   |0,_,K|1,_,K|2,_,K|3,_,K|4,_,K|5,_,K|6,_,K|7,_,K|8,_,K|9,_,K|10,_,K|11,_,K|12,_,K|13,_,K|14,_,K|15,_,K=>cases K
   |16,_,_=>
    obtain rfl:=yF E;have e6:a.tmps[6]?.getD undef=.pointer (some ⟨qk,0,none⟩):=eg (PI Z 6);have fF:Gl W6.heap.size (a.tmps[74]?.getD undef) wx fM:=Cw J D 13;clear J Z;rw[D.out.1] at H;replace H:Below W6.heap.size W6 wx:=H;obtain⟨m',i',e',c',fF,hO⟩:=fF;obtain⟨⟨va,vn,vc,rfl⟩,⟨wa,wn,wc,rfl⟩,⟨xa,xn,xc,rfl⟩,⟨ya,yn,yc,rfl⟩⟩:=hO.zQ;have dU:=AB fe H;obtain⟨c0,lz,c2,c3⟩:=AE dU;have fq:=AK dU;have az:=AA (Ao wx (qk) (.slice va vn vc) (.slice wa wn wc) (.slice xa xn xc) (.slice ya yn yc));have Hq:=AA dU;have HO:=AA hO;clear dU hO;refine yE ?_;go_simp;exact O.out undef _ trivial (by show GB _ _ _ (GU ll 16 16) _;rw[FN];exact⟨wx,_,_,_,_,H,HO.out,yD _ _⟩) (λj gx gv kW hu=>match j,gv with
     |0,_|1,_|2,_|3,_|4,_|5,_|6,_|7,_|8,_|9,_|10,_|14,_|15,_=>hu
     |11,_|12,_=>Ew.yL hu az.out Hq.out
     |13,_=>Gl.yL hu az.out Hq.out
     |16,_=>absurd rfl gx
     |_+17,hq=>absurd hq (by omega))
   |_+17,hq,_=>omega
  .intro vs wx ll eV hR H
   have gH:(vs 14)=.int .i64 gg:=BS hR 14;clear hR;simp only[Cn,BQ,yC,yy,yz,yx,gH];simp;clear gH;rw[eV 16 (by decide)] at H;obtain⟨wz,m3,i3,e3,c3,dj,hO,fA⟩:=H;have da:Below (FG wz qk m3 i3 e3 c3).heap.size (FG wz qk m3 i3 e3 c3) wx:=by simpa[FG] using fA
   have I7:=(I6.out.put dj hO).below da;have l6:=I6.out.yJ.2.2;have B7:=B6.out.trans ((AM (dj.mono l6) (Ao wz qk m3 i3 e3 c3) I6.out.yJ.2.1 (yB l6 dj.size):Below lo W6 _).trans (da.mono (yB l6 (yB dj.size (Ao wz qk m3 i3 e3 c3).size))));have T7:=((T6.out.below dj).other (Ao wz qk m3 i3 e3 c3) (AB I6.out.kb dj) (by decide)).below da;obtain⟨⟨⟨i7,iY,cw,rfl⟩,⟨jk,jm,ji,rfl⟩,⟨jV,jR,jT,rfl⟩,⟨jg,jb,je,rfl⟩⟩,_,_⟩:=I7.own.zQ;clear eV dj fA da hO fe eB n0 n1 n2 n3 CM CP x5 DL nl ng kU I6 B6;have X8:=I7.back;have B8:=AM B7 X8.2.2 I7.yJ.1 I7.yJ.2.2;have l8:=yB I7.yJ.2.2 X8.2.2.size;have N8:=X8.2.1;have T8:=T7.fresh X8.2.2 (by have:=Hg.out;omega);have I8:=X8.1;obtain⟨d0,d1,d2,d3⟩:=AE I7.kb;obtain⟨t0,t1,t2,t3,_⟩:=AD I7.box;have ft:=AK I7.box;clear X8;unfold FG at I8 B8 N8 l8 T8;generalize hW8:(((wx.setCell _ _).setCell _ _).setCell _ _).setCell _ _=W8 at I8 N8 B8 l8 T8;obtain⟨_,_,_,_,_,_,s6,_,_⟩:=I8.cells;obtain⟨kR,f8,p0,p1,p2⟩:=I8.pg (n:=n) iG.out;have I9:=I8.zp (n:=n) iF.out.symm iG.out ⟨1,fr,true⟩;have N9:=Ap N8 I9.2.1 (by obtain⟨cu,dX⟩:=A6 I8.own.pgs gq rfl;exact(Br dX N8));have B9:=AM B8 I9.2.1 I9.2.2 l8;have l9:=yB l8 I9.2.1.size;obtain⟨lw,eS⟩:=A6 I8.own.pgs gq rfl;have T9:=T8.other I9.2.1 eS (by decide);have I9:=I9.1;generalize hW9:((W8.setCell _ _).setCell _ _).setCell _ _=W9 at I9 N9 B9 l9 T9;have n5:=AA T9;have dk:=AA (Cp N9 I9.own);obtain⟨x0,z,x2,x3,x4,x5,x6,x7,x8⟩:=I9.cells;obtain⟨r0,r1,r2,r3,r4,r5,r6,r7,r8⟩:=AD N9;have pF:=AK N9;have ot:=AA B9;have nX:=AA l9;have ii:=AA I9.yJ;clear I7 I8 N8 B8 l8 I9 N9 B9 l9 B7 l6 T7 T8 T9 T6;obtain⟨j7,j6,fY⟩:=dk.out;have fI:=AM ot.out fY (by have:=ii.out;omega) nX.out;have j4:=n5.out.fresh fY (by have:=Hg.out;omega);unfold Dy at j7 j6 fI j4;have cP:=ZG HQ.out j6 fI j4;unfold Ue AN at cP;dsimp only at cP;have HR:=AA cP;have HE:=AA (AD j7);clear j7 j6 fY fI j4 cP;go_wp2_with ((try simp only[Exit.inBlock,Exit.then]);with_reducible refine yr (v:=.tuple #[.agg #[.slice i7 iY cw,.slice jk jm ji,.slice jV jR jT,.slice jg jb je,.slice (some ⟨gs,0,none⟩) 16 sc,.slice (some ⟨lb,0,none⟩) 4 lc,.slice (some ⟨gq,0,none⟩) 16 qc,.int .i64 P.zR,.int .i64 P.zU],.bool true]) ?_ rfl HR.out);obtain⟨E0,E1,E2,E3,E4,E5,E6,E7,E8⟩:=HE.out;simp[results,Tryz.results92,go_sem,E0,E1,E2,E3,E4,E5,E6,E7,E8]
theorem aN{p:AR}(h:Du p):Ir p=Sc p:=by
 have:=h.count;unfold Ir Sc
 by_cases hx:Am p.zV.zZ<0
 .simp[hx]
 .by_cases hy:(Aj p.zY 1:Int)=p.zU
  .simp[hx,hy]
  .have:¬p.zU<=(Aj p.zY 1:Int):=by omega
   simp[hx,hy,this]
theorem ZF{p:AR}{n:Nat}(h:Du p)(hf:0<=Am p.zV.zZ):(PL p n).2=true:=by rw[WM (MM (k:=p.zV) h.may hf (a:=0) (b:=0) (c:=0))]
def Mi(lo:Nat)(w:World)(m i e c s l q:Value)(P:AR)(t:AR×Bool)(r:Ending)(w':World):Prop:=
 (t.2=true->∃m i e c s l q,r=.returned (.tuple #[AN m i e c s l q t.1.zR t.1.zU,.bool true])/\FQ lo w' m i e c s l q t.1)/\
 (t.2=false->r=.returned (.tuple #[AN m i e c s l q P.zR P.zU,.bool false]))/\Below lo w w'/\E9 w w'
theorem Qt{lo:Nat}{w:World}{m i e c s l q m' i' e' c' s' l' q':Value}{P Q:AR}{t:AR×Bool}(ht:t=(Q,true))(HK:FQ lo W m' i' e' c' s' l' q' Q)(B:Below lo w W)(T:E9 w W):Mi lo w m i e c s l q P t (.returned (.tuple #[AN m' i' e' c' s' l' q' Q.zR Q.zU,.bool true])) W:=
 ⟨λ_=>⟨m',i',e',c',s',l',q',by rw[ht],by rw[ht];exact HK⟩,λh=>(by rw[ht] at h;cases h),B,T⟩
theorem Yd{lo:Nat}{w:World}{m i e c s l q:Value}{P Q:AR}{t:AR×Bool}(ht:t=(Q,false))(B:Below lo w W)(T:E9 w W):Mi lo w m i e c s l q P t (.returned (.tuple #[AN m i e c s l q P.zR P.zU,.bool false])) W:=
 ⟨λh=>(by rw[ht] at h;cases h),λ_=>rfl,B,T⟩
theorem Ts{lo:Nat}{w:World}{mv iv ev cv sv lv qv:Value}{P:AR}(h:FQ lo w mv iv ev cv sv lv qv P)(ay:lo<=w.heap.size)(hP:Du P){n:Nat}(hn:n<16):
 Calls prog 49 #[AN mv iv ev cv sv lv qv P.zR P.zU,.int .i64 n] w (Mi lo w mv iv ev cv sv lv qv P (BN P n)):=by
 unfold AN Mi AN;obtain⟨N0,N1,bn,bx⟩:=Jz w (.cells #[mv,iv,ev,cv,sv,lv,qv,.int .i64 P.zR,.int .i64 P.zU] 32) ((.cells #[.slice none 0 0,.slice none 0 0,.slice none 0 0,.slice none 0 0,.slice none 0 0,.slice none 0 0,.slice none 0 0,.int .i64 0,.int .i64 0] 32));have cg:=(⟨N0,ay,h.below bn⟩:Gi lo w.heap.size _ mv iv ev cv sv lv qv P);obtain⟨⟨⟨ma,mn,mc,rfl⟩,⟨ia,iN,ic,rfl⟩,⟨ea,en,ec,rfl⟩,⟨ka,kn,kc,rfl⟩⟩,⟨sa,sn,sc,rfl⟩,⟨la,ln,lc,rfl⟩,_⟩:=h.zQ;obtain⟨gq,qc,rfl,gu,jy,jH,iV,_⟩:=cg.page (n:=0) (by rw[hP.zO];omega);rw[hP.zO] at h cg N0 N1 bn bx gu ⊢;have gQ:(n:Int)<16:=by omega
 obtain⟨_,_,_,_,_,_,x6,_,_⟩:=cg.cells;obtain⟨kQ,fq,p0,p1,p2⟩:=cg.pg (n:=n) (by rw[hP.zO];exact hn);have hx:P.zY[n]?=some (AC P.zY n):=by unfold AC;exact A2 (by rw[hP.zO];exact hn)
 have HP:=AA hP;have cz:=AA (bn.mono ay);have f7:=AA ((E9.refl w).below bn);have nV:=AA ay;have dl:=AA (yB ay bn.size);have ks:=AA N1;have HI:=AA cg;have lH:=AA (λhw=>Nj (n:=n) hP hw);have T1:=AA (Qw (p:=P) (n:=n));have T2:=AA (λhw=>Qu (n:=n) hP hw);have T3:=AA (λhw=>Qv hP hn hw);have lC:=AA (λm pg hd (h:cL P n m pg hd)=>h.is);generalize BN P n=t at lH T1 T2 lC ⊢
 by_cases hw:(AC P.zY n).w=1
 .have HT:=AA (lH.out hw)
  rw[hw] at p0;have fX:=cg.zo (n:=n) (x:=AC P.zY n) (y:= {AC P.zY n with u:=true}) (j:=2) (u:=.bool true) hP.zO.symm hx (by decide) rfl;have N2:=Ap N1 fX.2.1 (by obtain⟨cu,dX⟩:=A6 cg.own.pgs gq rfl;exact(Br dX N1));obtain⟨lw,eS⟩:=A6 cg.own.pgs gq rfl;have T2:=f7.out.other fX.2.1 eS (by decide);have B2:=AM cz.out fX.2.1 fX.2.2 dl.out;have l2:=yB dl.out fX.2.1.size;have I2:=fX.1;clear h hP ay hx hw cg N0 N1 bn bx gu fX;go_in;go_upto_region 1 with fail;generalize(w.alloc _).alloc _=W0 at*;generalize hg:w.heap.size=g at*;have Hg:=AA hg;clear hg;generalize hW1:W0.setCell ⟨gq,n*3+2,none⟩ (.bool true)=W1 at I2 N2 T2 B2 l2;have S3:=AA (Cp N2 I2.own);obtain⟨y0,y1,y2,y3,y4,y5,y6,y7,y8⟩:=I2.cells;obtain⟨z0,z1,z2,z3,z4,z5,z6,z7,z8⟩:=AD N2;have fz:=AK N2;have iL:=AA B2;have n7:=AA T2;have nZ:=AA l2;have ii:=AA I2.yJ;clear I2 N2 B2 T2 l2 p1 kQ;obtain⟨N4,O4,lp⟩:=S3.out;have B4:=AM iL.out lp (by have:=ii.out;omega) nZ.out;have T4:=n7.out.fresh lp (by have:=Hg.out;omega);unfold Dy at N4 O4 B4 T4;have cP:=Qt (m:=.slice ma mn mc) (i:=.slice ia iN ic) (e:=.slice ea en ec) (c:=.slice ka kn kc) (s:=.slice sa sn sc) (l:=.slice la ln lc) (q:=.slice (some ⟨gq,0,none⟩) 16 qc) (P:=P) (Q:= {P with zY:=FO P.zY n}) HT.out O4 B4 T4;unfold Mi AN at cP
  try dsimp only at cP
  have HR:=AA cP;have HE:=AA (AD N4);clear cP;go_wp2_with ((try simp only[Exit.then]);with_reducible refine yr (v:=.tuple #[.agg #[.slice ma mn mc,.slice ia iN ic,.slice ea en ec,.slice ka kn kc,.slice sa sn sc,.slice la ln lc,.slice (some ⟨gq,0,none⟩) 16 qc,.int .i64 P.zR,.int .i64 P.zU],.bool true]) ?_ rfl HR.out);obtain⟨E0,E1,E2,E3,E4,E5,E6,E7,E8⟩:=HE.out;simp[results,tJ,go_sem,E0,E1,E2,E3,E4,E5,E6,E7,E8]
 .have t0:((AC P.zY n).w==1)=false:=by simp[hw]
  replace T1:=AA (T1.out hw);replace T2:=AA (T2.out hw);replace T3:=AA (T3.out hw);have TV:=AA (Vh hP);have mI:=AA hw;have gS:=AA hP.zU;have HF:=AA (aN hP);have RI:=AA cg.own.ker.rd.2.1;have RQ:=AA (show BK 3 DG _ _ P.zY from cg.own.pgs.rd);have oh:=AA (Ar hP.k).2.1;have iF:=AA hP.zO;generalize(AC P.zY n).w=pw at p0 t0;obtain⟨x0,z,x2,x3,x4,x5,x6,x7,x8⟩:=cg.cells;clear h hP ay hx hw cg N0 N1 bn gu p1 p2;go_in;go_upto_region 4 with fail;generalize(w.alloc _).alloc _=W0 at*;generalize hg:w.heap.size=g at*;have Hg:=AA hg;have df:=AW HI.out.yK;have hZ:=AA bx;clear hg bx;obtain⟨L8,hcnt⟩:∃c:Nat,c=Aj P.zY 1:=⟨_,rfl⟩
  have CC:=AA (λW (hW:Below W0.heap.size W0 W)=>by have:=NI (.slice ma mn mc) (.slice ia iN ic) (.slice ea en ec) (.slice ka kn kc) (.slice sa sn sc) (.slice la ln lc) (.slice (some ⟨gq,0,none⟩) 16 qc) P 1 W (BK.below RQ.out hW) (by have:=iF.out;omega);unfold AN at this;rw[<-hcnt] at this;exact this);have CF:=AA (λW (hW:Below W0.heap.size W0 W)=>Qj (.slice ia iN ic) P.zV.zZ W (BK.below RI.out hW) oh.out);have kY:Sc P=(decide (P.zU<=(L8:Int))||decide (Am P.zV.zZ<0)):=by rw[hcnt];rfl
  have kj:=AA kY;have n4:=AA hcnt;clear kY hcnt RQ RI p0 t0 fq kQ;go_cut [32] (λmb wx=>mb=.bool (Sc P)/\Below W0.heap.size W0 wx)
  case first=>
   refine Aa 4 49 [.a #[.slice ma mn mc,.slice ia iN ic,.slice ea en ec,.slice ka kn kc,.slice sa sn sc,.slice la ln lc,(.slice (some ⟨gq,0,none⟩) 16 qc),.int .i64 (P.zR),.int .i64 (P.zU)],.i ((L8:Int)),.p g 8,.i (P.zU)] (λ_ _ _=>True) ?_ ?_
   .intro i hi o E a wx Z J H hs O
    have di:=bc H df x0;have bN:=bc H df z;have dh:=bc H df x2;have cw:=bc H df x3;have bk:=bc H df x4;have dx:=bc H df x5;have fy:=bc H df x6;have gj:=bc H df x7;have gI:=bc H df x8
    match i,hi with
    |0,_=>exact sL E O Z J (hl:=Tz ‹_› ‹_› ‹_› ‹_› ‹_› ‹_› ‹_› ‹_› ‹_›)
    |1,_=>exact sD E O Z J (CC.out _ H)
    |2,_=>exact sP E O Z J
    |3,_=>exact sL E O Z J (hl:=FT ‹_›)
   .intro vs wx hR H
    have q1:(vs 1)=.int .i64 L8:=BS hR 1;have q3:(vs 3)=.int .i64 (P.zU):=BS hR 3;clear hR;simp only[Ak,Ah,yC,yy,yz,yx,q1,q3];simp;clear q1 q3;have HG:=AA H;obtain⟨_,y1,_,_,_,_,_,_,y8⟩:=(HI.out.below H).cells;clear H x0 z x2 x3 x4 x5 x6 x7 x8
    by_cases hc:P.zU<=(L8:Int)
    .have ho:=AA (show Sc P=true by rw[kj.out];simp[hc])
     go_wp2_with fail;go_meet
     case rel=>exact⟨by rw[ho.out],HG.out⟩
    .have ho:=AA (show Sc P=(((P.zV.zZ.countP (λx=>decide (x.k=0)):Nat):Int)==0) by
      rw[kj.out];have:= @WG P.zV.zZ
      by_cases hz:P.zV.zZ.countP (λx=>decide (x.k=0))=0
      .simp[hc,hz,this.2 hz]
      .have X:¬Am P.zV.zZ<0:=λh=>hz (this.1 h)
       simp[hc,hz,X])
     go_wp2_with fail;refine(CF.out _ HG.out).mono ?_;rintro r w1 ⟨rfl,b1⟩;have oj:=AA (HG.out.trans (b1.mono HG.out.size));clear b1;generalize List.countP _ P.zV.zZ=nf at*;go_wp2_with fail;go_meet
     case rel=>exact⟨by rw[ho.out],oj.out⟩
  case rest=>
  obtain⟨rfl,H⟩:=hcut;clear CC CF kj x0 z x2 x3 x4 x5 x6 x7 x8
  rename_i W1
  have eK:=AA (HI.out.below H);have du:=AA (cz.out.trans (H.mono dl.out));have HN:=AA (AB ks.out H);have iI:=AA (f7.out.below H);have ei:=AA (yB dl.out H.size);clear H HI;rw[<-HF.out];obtain⟨y0,y1,y2,y3,y4,y5,y6,y7,y8⟩:=eK.out.cells;go_upto_if 32 with fail;go_cut [] (λwx=>∃P1 m i e c s,Gi lo g wx m i e c s (.slice la ln lc) (.slice (some ⟨gq,0,none⟩) 16 qc) P1/\wx.heap[g+1]?=some (.cells #[.slice none 0 0,.slice none 0 0,.slice none 0 0,.slice none 0 0,.slice none 0 0,.slice none 0 0,.slice none 0 0,.int .i64 0,.int .i64 0] 32 (0,0))/\Below lo w wx/\E9 w wx/\lo<=wx.heap.size/\Du P1/\0<=Am P1.zV.zZ/\(AC P1.zY n).w≠1/\t=PL P1 n)
  case first=>
   cases hf:Ir P
   .have lO:=AA (T2.out hf)
    go_wp2_with fail;go_meet
    case rel=>exact⟨P,_,_,_,_,_,eK.out,HN.out,du.out,iI.out,ei.out,HP.out,lO.out.2,mI.out,lO.out.1⟩
   .have CV:=Rh eK.out.own ei.out HP.out
    unfold Vt AN at CV
    by_cases hz:Aj P.zY 1=0
    .have kS:=T1.out ⟨by
      unfold Ir at hf;simp only[Bool.or_eq_true,decide_eq_true_eq] at hf;have:=gS.out
      rcases hf with hf|hf
      .exact hf
      .omega,hz⟩
     have fC:=TV.out.2 hz;generalize Cd 32 P.zY P.zR=t at CV fC;obtain⟨pg,hd,o⟩:=t;cases fC;dsimp only[Vg] at CV;have CV:=AA CV;have nT:=AA kS;clear kS hf hz;go_wp2_with fail;refine CV.out.mono ?_;rintro r w2 ⟨rfl,O2,b2,s2⟩;have b3:=AI w2 (.cells #[.slice ma mn mc,.slice ia iN ic,.slice ea en ec,.slice ka kn kc,.slice sa sn sc,.slice la ln lc,.slice (some ⟨gq,0,none⟩) 16 qc,.int .i64 hd,.int .i64 P.zU] 32);have N3:=AB (s2 _ _ HN.out) b3;have I3:=AB (s2 _ _ eK.out.yK) b3;have B3:=du.out.trans (b2.trans (b3.mono (yB ei.out b2.size)));have T3:=(iI.out.trans s2).below b3;have l3:=yB (yB ei.out b2.size) b3.size;have N4:=F5 (b0:=.slice ma mn mc) (b1:=.slice ia iN ic) (b2:=.slice ea en ec) (b3:=.slice ka kn kc) (b4:=.slice sa sn sc) (b5:=.slice la ln lc) (b6:=.slice (some ⟨gq,0,none⟩) 16 qc) (b7:=.int .i64 P.zR) (b8:=.int .i64 P.zU) N3;have G4:=EY (w:=w2.alloc (.cells #[.slice ma mn mc,.slice ia iN ic,.slice ea en ec,.slice ka kn kc,.slice sa sn sc,.slice la ln lc,.slice (some ⟨gq,0,none⟩) 16 qc,.int .i64 hd,.int .i64 P.zU] 32)) (g:=g+1) (b0:=.slice ma mn mc) (b1:=.slice ia iN ic) (b2:=.slice ea en ec) (b3:=.slice ka kn kc) (b4:=.slice sa sn sc) (b5:=.slice la ln lc) (b6:=.slice (some ⟨gq,0,none⟩) 16 qc) (b7:=.int .i64 P.zR) (b8:=.int .i64 P.zU);have B4:=AA (AM B3 G4 (by have:=eK.out.yJ;omega) l3);have T4:=AA (T3.fresh G4 (by have:=Hg.out;omega));have od:=AA N4;obtain⟨c0,c1,c2,c3,c4,c5,c6,c7,c8⟩:=AD I3;obtain⟨z0,z1,z2,z3,z4,z5,z6,z7,z8⟩:=AD N3;have fz:=AK N3;clear O2 b2 s2 b3 N3 I3 B3 T3 l3 N4 G4 y0 y1 y2 y3 y4 y5 y6 y7 y8 CV;have N4:=od.out;unfold Dy at N4 B4 T4;have cP:=Yd (m:=.slice ma mn mc) (i:=.slice ia iN ic) (e:=.slice ea en ec) (c:=.slice ka kn kc) (s:=.slice sa sn sc) (l:=.slice la ln lc) (q:=.slice (some ⟨gq,0,none⟩) 16 qc) (P:=P) (Q:=P) nT.out B4.out T4.out;have HR:=AA cP;have HE:=AA (AD N4);clear cP;go_wp2_with fail;refine yr (v:=.tuple #[.agg #[.slice ma mn mc,.slice ia iN ic,.slice ea en ec,.slice ka kn kc,.slice sa sn sc,.slice la ln lc,.slice (some ⟨gq,0,none⟩) 16 qc,.int .i64 P.zR,.int .i64 P.zU],.bool false]) ?_ rfl HR.out;obtain⟨E0,E1,E2,E3,E4,E5,E6,E7,E8⟩:=HE.out;simp[results,tJ,go_sem,E0,E1,E2,E3,E4,E5,E6,E7,E8]
    .obtain⟨mm,pgs,hd,eY⟩:=T3.out hf (λx=>hz x.2)
     rw[eY.vic] at CV;dsimp only[Vg] at CV;have cC:=AA eY;have CV:=AA CV;have pv:¬(mm:Int)<0:=by omega
     clear eY hf hz;go_wp2_with fail;refine CV.out.mono ?_;rintro r w2 ⟨rfl,O2,b2,s2⟩;have b3:=AI w2 (.cells #[.slice ma mn mc,.slice ia iN ic,.slice ea en ec,.slice ka kn kc,.slice sa sn sc,.slice la ln lc,.slice (some ⟨gq,0,none⟩) 16 qc,.int .i64 hd,.int .i64 P.zU] 32);have l3:=yB (yB ei.out b2.size) b3.size;have CO:=WW (O2.below b3) l3 cC.out.ok1 cC.out.m16 cC.out.mw1;unfold Vq AN at CO;dsimp only at CO;have CO:=AA CO;have N3:=AA (AB (s2 _ _ HN.out) b3);have I3:=AA (AB (s2 _ _ eK.out.yK) b3);have B3:=AA (du.out.trans (b2.trans (b3.mono (yB ei.out b2.size))));have T3:=AA ((iI.out.trans s2).below b3);have nY:=AA l3;clear O2 b2 s2 b3 l3 y0 y1 y2 y3 y4 y5 y6 y7 y8 CV;go_wp2_with fail;refine CO.out.mono ?_;rintro r w4 ⟨⟨m4,i4,e4,c4,s4,rfl,O4⟩,b4,t4⟩;obtain⟨⟨⟨el,ej,bk,rfl⟩,⟨ew,ex,eu,rfl⟩,⟨eG,eE,eF,rfl⟩,⟨er,eo,ep,rfl⟩⟩,⟨oJ,oE,oH,rfl⟩,_⟩:=O4.zQ;have S5:=Cp (t4 _ _ I3.out) O4;have N5:=AA (Ap (t4 _ _ N3.out) S5.2.2 (by omega));have T5:=AA ((T3.out.trans t4).fresh S5.2.2 (by have:=Hg.out;omega));have l4:=yB nY.out b4.size;have B5:=AA (AM (B3.out.trans b4) S5.2.2 eK.out.yJ l4);have l5:=AA (yB l4 S5.2.2.size);have I5:=AA (⟨S5.1,eK.out.yJ,S5.2.1⟩:Gi lo g _ _ _ _ _ _ _ _ _);obtain⟨z0,z1,z2,z3,z4,z5,z6,z7,z8⟩:=AD (t4 _ _ I3.out);have fz:=AK (t4 _ _ I3.out);clear S5 O4 b4 t4 l4 CO;unfold Dy at N5 T5 B5 l5 I5;go_wp2_with fail;go_meet
     case rel=>exact⟨_,_,_,_,_,_,I5.out,N5.out,B5.out,T5.out,l5.out,cC.out.ok2,cC.out.free,cC.out.nw,lC.out _ _ _ cC.out⟩
  case rest=>obtain⟨P1,m1,i1,e1,c1,s1,I1,N1,B1,lD,l1,O1,f1,n1,t1⟩:=hcut;have CI:=YB I1.own l1 O1 hn n1 f1;have kN:=ZF (n:=n) O1 f1;generalize PL P1 n=ti at CI kN t1;obtain⟨Q,bb⟩:=ti;obtain rfl:bb=true:=kN;unfold Ue AN at CI;dsimp only at CI;have nR:=AA t1;obtain⟨⟨⟨ir,iq,bN,rfl⟩,⟨jl,jo,jj,rfl⟩,⟨jW,jS,jU,rfl⟩,⟨jh,jd,jf,rfl⟩⟩,⟨l7,lV,lX,rfl⟩,_⟩:=I1.own.zQ;obtain⟨x0,z,x2,x3,x4,x5,x6,x7,x8⟩:=I1.cells;have kq:=AA N1;have kv:=AA B1;have ko:=AA lD;have kh:=AA l1;have ii:=AA I1.yJ;have CI:=AA CI;clear I1 N1 B1 lD l1 O1 f1 n1 t1 y0 y1 y2 y3 y4 y5 y6 y7 y8 eK HN du iI T1 T2 T3 TV gS;go_wp2_with fail;refine CI.out.mono ?_;rintro r w6 ⟨⟨m6,i6,e6,c6,rfl,O6⟩,b6,s6⟩;obtain⟨⟨⟨mr,mq,fy,rfl⟩,⟨mC,mD,mB,rfl⟩,⟨nI,nG,nH,rfl⟩,⟨mz,mx,my,rfl⟩⟩,_⟩:=O6.zQ;have N6:=s6 _ _ kq.out;have S7:=AA (Cp N6 O6);have B6:=AA (kv.out.trans b6);have T6:=AA (ko.out.trans s6);have l6:=AA (yB kh.out b6.size);obtain⟨z0,z1,z2,z3,z4,z5,z6,z7,z8⟩:=AD N6;have fz:=AK N6;clear O6 b6 s6 N6 CI x0 z x2 x3 x4 x5 x6 x7 x8;obtain⟨N8,O8,lm⟩:=S7.out;have B8:=AM B6.out lm (by have:=ii.out;omega) l6.out;have T8:=T6.out.fresh lm (by have:=Hg.out;omega);unfold Dy at N8 O8 B8 T8;have cP:=Qt (m:=.slice ma mn mc) (i:=.slice ia iN ic) (e:=.slice ea en ec) (c:=.slice ka kn kc) (s:=.slice sa sn sc) (l:=.slice la ln lc) (q:=.slice (some ⟨gq,0,none⟩) 16 qc) (P:=P) nR.out O8 B8 T8;unfold Mi AN at cP;have HR:=AA cP;have HE:=AA (AD N8);clear cP;go_wp2_with ((try simp only[Exit.then]);with_reducible refine yr (v:=.tuple #[.agg #[.slice mr mq fy,.slice mC mD mB,.slice nI nG nH,.slice mz mx my,.slice l7 lV lX,.slice la ln lc,.slice (some ⟨gq,0,none⟩) 16 qc,.int .i64 Q.zR,.int .i64 Q.zU],.bool true]) ?_ rfl HR.out);obtain⟨E0,E1,E2,E3,E4,E5,E6,E7,E8⟩:=HE.out;simp[results,tJ,go_sem,E0,E1,E2,E3,E4,E5,E6,E7,E8]
theorem VE(mv iv ev cv sv lv qv:Value)(P:AR)(n:Nat)(w:World)(h:Jy w mv iv ev cv sv lv qv P)(hh:cQ P)(hn:n<16):
 Calls prog 41 #[AN mv iv ev cv sv lv qv P.zR P.zU,.int .i64 n] w λr w'=>r=.returned (.bool (GZ P n))/\Below w.heap.size w w':=by
 unfold AN;obtain⟨N0,b0⟩:=Dd w (.cells #[mv,iv,ev,cv,sv,lv,qv,.int .i64 P.zR,.int .i64 P.zU] 32);have h0:=h.below b0;have hK:DQ P.zV:=El.1 hh.k;obtain⟨j,hj⟩:∃j,j=n/4:=⟨_,rfl⟩
 obtain⟨t,ht⟩:∃t,t=n%4:=⟨_,rfl⟩
 have q1:(n:Int)/4=(j:Int):=by omega
 have q2:(n:Int)%4=(t:Int):=by omega
 have kX:j<4:=by omega
 have mK:t<4:=by omega
 have mV:=hh.lr j kX;obtain⟨lf,hlf⟩:∃x:Nat,BO P.low j=(x:Int):=⟨(BO P.low j).toNat,by omega⟩
 have gT:lf<12:=by omega
 have lg:Bt P n=As P.zV.mem lf t:=by unfold Bt;rw[<-hj,<-ht,hlf,yd]
 have gQ:(n:Int)<16:=by omega
 have HS:=AA h0.2.1;have cg:=AA h0.1.2.1;obtain⟨aq,cq,rfl,_,_,HQ⟩:=BK.open En (by decide) h0.2.2.2;obtain⟨bq,oq,rfl,nu,D0,D1,D2⟩:=HQ.zq (k:=n) (by rw[hh.pl];exact hn);have pr:(n:Int)<P.zY.length:=by rw[hh.pl];exact gQ
 obtain⟨am,cm,rfl,_,_,HM⟩:=h0.1.1.open;obtain⟨al,cl,rfl,_,_,D⟩:=h0.2.2.1.open;obtain⟨bl,ol,rfl,DL⟩:=D.at (k:=j) (by rw[hh.ll];exact kX);rw[show nth P.low j=(lf:Int) from hlf] at DL;obtain⟨bm,om,br,eL,cr,rfl,fk,DM,fj,nn,gD⟩:=HM.row4 (Ar hK).1 gT;have DW:=gD t mK;obtain⟨ai,ci,rfl,_,_,eK⟩:=BK.open A0 (by decide) cg.out;have HI:=AA eK;obtain⟨lB,lx,rfl,_,_,_⟩:=h0.2.1.open;obtain⟨x0,z,x2,x3,x4,x5,x6,x7,x8⟩:=AD N0;obtain⟨po,hpo⟩:∃po,po=GZ P n:=⟨_,rfl⟩
 rw[<-hpo];have PO:=hpo;unfold GZ at PO;rw[lg] at PO;generalize hpw:(AC P.zY n).w=pw at D0 PO;generalize hpa:(AC P.zY n).a=pa at D1 PO;generalize hpu:(AC P.zY n).u=pu at D2 PO;generalize htw:As P.zV.mem lf t=tw at DW PO;have kW:(j:Int)<P.low.length:=by rw[hh.ll];omega
 have jv:(lf:Int)<P.zV.mem.length:=by have:=(Ai.1 (Ar hK).1).1;omega
 have mJ:(t:Int)<4:=by omega
 have f4:=AA (A1.1 (Ar hK).2.1).1;replace PO:=AA PO;clear hpo hpw hpa hpu htw lg hlf mV hj ht HQ HM D gD h h0;have bx:(w.alloc (.cells #[.slice (some ⟨bm,om,none⟩) P.zV.mem.length cm,.slice ai P.zV.zZ.length ci,ev,cv,.slice lB P.swap.length lx,.slice (some ⟨bl,ol,none⟩) P.low.length cl,.slice (some ⟨bq,oq,none⟩) P.zY.length cq,.int .i64 P.zR,.int .i64 P.zU] 32)).heap.size=w.heap.size+1:=by simp
 go_in;go_wp2_with fail;generalize w.alloc _=W0 at*;obtain⟨N2,b2⟩:=Dd W0 (.cells #[.int .i64 pw,.int .i64 pa,.bool pu] 43);have kt:=AA (AB N0 b2);have iL:=AA (b0.trans (b2.mono b0.size));have ij:=AA b2;replace DL:=(b2.cell (yA _ _ DL)).trans DL;replace DM:=(b2.cell (yA _ _ DM)).trans DM;replace DW:=(b2.cell (yA _ _ DW)).trans DW;clear x0 z x2 x3 x4 x5 x6 x7 x8 D0 D1 D2 nu fk fj eK N0 b0 b2;obtain⟨qp,hqp⟩:∃q,q=w.heap.size+1:=⟨_,rfl⟩
 rw[bx] at N2;rw[<-hqp] at N2 ⊢;generalize W0.alloc _=W2 at*;clear hqp bx;obtain⟨x0,_,_,_,_,x5,_,_,_⟩:=AD kt.out;have df:=AW kt.out;have ar:=yA _ _ DL;have fk:=yA _ _ DM;have fj:=yA _ _ DW;have og:=AA N2;clear N2;go_wp2_with fail;refine Aa 15 94 [.p w.heap.size 0,.p w.heap.size 0,.v (.slice (some ⟨bm,om,none⟩) P.zV.mem.length cm),.p w.heap.size 5,.v (.slice (some ⟨bl,ol,none⟩) P.low.length cl),.i ((n:Int)),.i ((j:Int)),.p bl (ol+j),.i ((lf:Int)),.p bm (om+lf),.v (.slice (some ⟨br,eL,none⟩) 4 cr),.i ((n:Int)),.i ((t:Int)),.p br (eL+t),.i tw] (λ_ _ _=>True) ?_ ?_
 .intro i hi o E a wx Z J H hs O
  have bN:=bc H df x5;have dh:=bc H ar DL;have cw:=bc H fk DM;have bk:=bc H fj DW
  match i,hi with
  |0,_|1,_|3,_|5,_|11,_=>exact sP E O Z J
  |2,_=>exact sL E O Z J (hl:=F9 (bc H df x0))
  |4,_|10,_=>exact sL E O Z J (hl:=KU ‹_›)
  |7,_|9,_|13,_=>exact sI E O Z J (hr:=by clear J Z O;go_simp)
  |8,_|14,_=>exact sL E O Z J (hl:=FT ‹_›)
  |6,_=>clear bN dh cw bk;obtain rfl:=yF E;have d5:(a.tmps[19]?.getD undef)=.int .i64 n:=Ba J 5;clear J Z;refine yE ?_;go_simp;exact O.out _ _ (by show xY .i64 (IntKind.i64.wrap (j:Int))=.int .i64 j;rw[xA _ (by omega)]) (yD _ _)
  |12,_=>clear bN dh cw bk;obtain rfl:=yF E;have jY:(a.tmps[25]?.getD undef)=.int .i64 n:=Ba J 11;clear J Z;refine yE ?_;go_simp;exact O.out _ _ (by show xY .i64 (Int.tmod (n:Int) 4)=.int .i64 t;rw[vS (by omega)];exact congrArg _ q2) (yD _ _)
  |_+15,hq=>omega
 .intro vs wx hR H
  have gH:(vs 14)=.int .i64 tw:=BS hR 14;clear hR;simp only[Ak,Ah,yC,yy,yz,yx,gH];simp;clear gH;have HB:=AA (iL.out.trans (H.mono iL.out.size));have kl:=AA (ij.out.trans (H.mono ij.out.size));obtain⟨_,z,_,_,x4,_,_,_,_⟩:=AD (AB kt.out H);obtain⟨p0,p1,p2⟩:=GI (AB og.out H);clear x0 x5 DL DM DW H ar fk fj
  by_cases e0:pw=0
  .subst e0
   rw[if_pos rfl] at PO
   by_cases ea:pa=0
   .subst ea
    cases pu
    .have S:=AA (show po=(tw==0) by rw[PO.out];simp;by_cases h3:tw=0<;>simp[h3])
     clear PO z x4;go_wp2_with fail;go_ret;exact⟨AH S.out.symm,HB.out⟩
    .have S:=AA (show po=false by rw[PO.out];simp)
     clear PO z x4;go_wp2_with fail;go_ret;exact⟨AH S.out.symm,HB.out⟩
   .have S:=AA (show po=false by rw[PO.out];simp[ea])
    clear PO z x4;go_wp2_with fail;go_ret;exact⟨AH S.out.symm,HB.out⟩
  rw[if_neg e0] at PO;have t0:(pw==0)=false:=by simp[e0]
  by_cases e1:pw=1
  .subst e1
   rw[if_pos rfl] at PO;clear t0 e0 x4;have CF:=AA (λW=>EI pa W);go_wp2_with fail;refine(CF.out _).mono ?_;rintro r w3 ⟨rfl,rfl⟩;cases eQ:BZ pa 0 11
   .have S:=AA (show po=false by rw[PO.out,eQ];rfl)
    clear PO eQ z;go_wp2_with fail;go_ret;exact⟨AH S.out.symm,HB.out⟩
   have ab:=AZ.1 eQ;obtain⟨fr,rfl⟩:∃x:Nat,pa=(x:Int):=⟨pa.toNat,by omega⟩
   have iA:fr<12:=by omega
   rw[eQ,yd] at PO;clear eQ;go_wp2_with fail;refine(MD (fr:Int) _ (by omega) (by omega)).mono ?_;rintro r w3 ⟨rfl,b3⟩;have fu:=AA (HB.out.trans (b3.mono HB.out.size));have pA:(fr:Int)<12:=by omega
   have ni:(fr:Int)<P.zV.zZ.length:=by have:=f4.out;omega
   obtain⟨bi,oi,rfl,fV,F0,F1,F2⟩:=(HI.out.below (kl.out.trans (b3.mono kl.out.size))).zP (k:=fr) (by have:=f4.out;omega);replace z:=(b3.cell (yA _ _ z)).trans z;replace p1:=(b3.cell (yA _ _ p1)).trans p1;clear p0 p2 b3 F0 fV;generalize IB (fr:Int)=en_ at PO ⊢
   by_cases et:tw=en_
   .subst et
    have dw:=AA (show po=(decide ((zS P.zV.zZ fr).g=gA)&&decide ((zS P.zV.zZ fr).r=1)) by rw[PO.out];simp[F3]);clear PO;generalize zS P.zV.zZ fr=x at F1 F2 dw;obtain⟨xk,xg,xr⟩:=x;dsimp only at F1 F2 dw;have eg:xg=gA↔xg.toList=[97]:=⟨λh=>by subst h;rw[xj];rfl,λh=>by rw[xj] at h;cases xg with|mk d=>cases d with|mk l=>simp at h;subst h;rfl⟩
    by_cases hg:xg.toList=[97]
    .have t1:(xg.toList==[97])=true:=by simp[hg]
     have S:=AA (show po=(xr==1) by rw[dw.out,decide_eq_true (eg.2 hg),wt];by_cases h3:xr=1<;>simp[h3]);clear hg eg dw;go_wp2_with fail;go_ret;exact⟨AH S.out.symm,fu.out⟩
    .have t1:(xg.toList==[97])=false:=by simp[hg]
     have S:=AA (show po=false by rw[dw.out,decide_eq_false (λh=>hg (eg.1 h)),Bool.false_and]);clear hg eg dw;go_wp2_with fail;go_ret;exact⟨AH S.out.symm,fu.out⟩
   .have S:=AA (show po=false by rw[PO.out];simp[et])
    have t1:(tw==en_)=false:=by simp[et]
    clear PO et;go_wp2_with fail;go_ret;exact⟨AH S.out.symm,fu.out⟩
  rw[if_neg e1] at PO;have t1:(pw==1)=false:=by simp[e1]
  by_cases e2:pw=2
  .subst e2
   rw[if_pos rfl] at PO;clear t0 t1 e0 e1 z;have CG:=AA (UM _ P.swap pa _ (HS.out.below kl.out) hh.s);go_wp2_with fail;refine CG.out.mono ?_;rintro r w3 ⟨⟨v',rfl⟩,b3⟩;have fu:=AA (HB.out.trans (b3.mono HB.out.size));have dw:=AA (show po=(BZ pa 0 15&&!(AG P.swap pa.toNat).isEmpty&&!pu&&decide (tw=0)) from PO.out);generalize(BZ pa 0 15&&!(AG P.swap pa.toNat).isEmpty)=bb at dw ⊢;replace p2:=(b3.cell (yA _ _ p2)).trans p2;clear PO CG b3 x4 p0 p1;cases bb
   .have S:=AA (show po=false by rw[dw.out];rfl)
    go_wp2_with fail;go_ret;exact⟨AH S.out.symm,fu.out⟩
   .cases pu
    .have S:=AA (show po=(tw==0) by rw[dw.out];simp;by_cases h3:tw=0<;>simp[h3])
     go_wp2_with fail;go_ret;exact⟨AH S.out.symm,fu.out⟩
    .have S:=AA (show po=false by rw[dw.out];rfl)
     go_wp2_with fail;go_ret;exact⟨AH S.out.symm,fu.out⟩
  .have t2:(pw==2)=false:=by simp[e2]
   have S:=AA (show po=false by rw[PO.out,if_neg e2]);clear PO z x4 e0 e1 e2;go_wp2_with fail;go_ret;exact⟨AH S.out.symm,HB.out⟩
theorem Rg(mv iv ev cv sv lv qv:Value)(P:AR)(w:World)(h:Jy w mv iv ev cv sv lv qv P)(L:Cr P.zV=true):
 Calls prog 39 #[AN mv iv ev cv sv lv qv P.zR P.zU] w λr w'=>r=.returned (.bool (Bv P))/\Below w.heap.size w w':=by
 unfold AN;obtain⟨N0,b0⟩:=Dd w (.cells #[mv,iv,ev,cv,sv,lv,qv,.int .i64 P.zR,.int .i64 P.zU] 32);have h0:=h.below b0;have hK:DQ P.zV:=El.1 L;have mQ:=zA hK (show 0<3 by omega);have iz:=(A1.1 (Ar hK).2.1).1;have jv:=(Ai.1 (Ar hK).1).1;have nk:=hK.zN;obtain⟨ae,ce,rfl,_,_,HE⟩:=h0.1.2.2.1.open;obtain⟨be,oe,ua,uc,rfl,_,_,D1,_⟩:=HE 0 (by omega);have e0:oe+0*2+1=oe+1:=by omega
 rw[e0] at D1;obtain⟨ai,ci,rfl,_,_,cg⟩:=BK.open A0 (by decide) h0.1.2.1;obtain⟨am,cm,rfl,_,_,lL⟩:=h0.1.1.open;obtain⟨al,cl,rfl,_,_,lM⟩:=h0.2.2.1.open;obtain⟨x0,z,x2,x3,x4,x5,x6,x7,x8⟩:=AD N0;have pD:(0:Int)<P.zV.zX.length:=by omega
 have TO:=AA (show Bv P=(decide (0<=Ab P.zV 0)&&decide (P.low.length=4)&&F3 P.zV.zZ (Ab P.zV 0).toNat&&(yC 4).all (Fk P)) from rfl);have kP:Ab P.zV 0=(AJ P.zV.zX 0).root:=rfl;rw[<-kP] at D1 mQ;generalize hrr:Ab P.zV 0=root at*;have nS:=AA hrr;have HM:=AA lL;have HI:=AA cg;have D:=AA lM;have O:=AA hK;have f4:=AA iz;have nU:=AA jv;clear h h0 L kP hrr lL cg lM HE hK nk iz jv;have HN:=AA N0;have ad:=AA b0;clear N0 b0
 by_cases hr:root<0
 .have S:=AA (show Bv P=false by rw[TO.out,decide_eq_false (by omega)];rfl)
  clear TO;go_in;go_wp2_with fail;go_ret;exact⟨AH S.out.symm,ad.out⟩
 obtain⟨rn,rfl⟩:∃x:Nat,root=(x:Int):=⟨root.toNat,by omega⟩
 have mS:rn<12:=by omega
 have mR:(rn:Int)<12:=by omega
 have pm:(rn:Int)<P.zV.mem.length:=by have:=nU.out;omega
 have pp:(rn:Int)<P.zV.zZ.length:=by have:=f4.out;omega
 rcases vR (P.low.length=4) with hll|hll
 rotate_left
 .have S:=AA (show Bv P=false by rw[TO.out,decide_eq_false hll];simp)
  have t1:((P.low.length:Int) !=4)=true:=by simp;omega
  clear TO hll;go_in;go_wp2_with fail;go_ret;exact⟨AH S.out.symm,ad.out⟩
 have t1:((P.low.length:Int) !=4)=false:=by simp;omega
 have ig:=AA hll;obtain⟨bi,oi,rfl,nv,_,F1,F2⟩:=HI.out.zP (k:=rn) (by have:=f4.out;omega);have fG:=AA (show Bv P=(decide ((zS P.zV.zZ rn).g=gA)&&decide ((zS P.zV.zZ rn).r=1)&&(yC 4).all (Fk P)) by rw[TO.out,decide_eq_true hll,decide_eq_true (by omega:(0:Int)<=(rn:Int)),yd];simp[F3])
 clear TO hll;generalize zS P.zV.zZ rn=x at F1 F2 fG;obtain⟨xk,xg,xr⟩:=x;dsimp only at F1 F2 fG;have eg:xg=gA↔xg.toList=[97]:=⟨λh=>by subst h;rw[xj];rfl,λh=>by rw[xj] at h;cases xg with|mk d=>cases d with|mk l=>simp at h;subst h;rfl⟩
 rcases vR (xg.toList=[97]) with hg|hg
 rotate_left
 .have t2:(xg.toList==[97])=false:=by simp[hg]
  have S:=AA (show Bv P=false by rw[fG.out,decide_eq_false (λh=>hg (eg.1 h))];rfl);clear fG hg eg;go_in;go_wp2_with fail;go_ret;exact⟨AH S.out.symm,ad.out⟩
 have t2:(xg.toList==[97])=true:=by simp[hg]
 rcases vR (xr=1) with hr1|hr1
 rotate_left
 .have t3:(xr !=1)=true:=by simp[hr1]
  have S:=AA (show Bv P=false by rw[fG.out,decide_eq_false hr1];simp);clear fG hg eg hr1;go_in;go_wp2_with fail;go_ret;exact⟨AH S.out.symm,ad.out⟩
 have t3:(xr !=1)=false:=by simp[hr1]
 have hY:=AA (show Bv P=(yC 4).all (Fk P) by rw[fG.out,decide_eq_true (eg.2 hg),decide_eq_true hr1];rfl);clear fG hg eg hr1;go_in;go_wp2_with fail;generalize w.alloc _=W0 at*;clear x0 z x2 x3 x4 x5 x6 x7 x8 D1 F1 F2 t1 t2 t3;go_loopw [4,5] (λix _ wr=>∃k:Nat,k<=4/\ix=.int .i64 k/\(∀j,j<k->Fk P j=true)/\Below W0.heap.size W0 wr) (λix _ _=>4 - (intOf ix).toNat)
 exact⟨0,yg _,rfl,λj hj=>absurd hj (xN _),yD _ _⟩
 obtain⟨k,L,rfl,ax,R⟩:=hrel;have b9:=AA ax;clear ax
 by_cases ac:k<4
 .have gW:(k:Int)<4:=by omega
  have jz:(k:Int)<P.low.length:=by have:=ig.out;omega
  obtain⟨x0,z,_,_,_,x5,_,_,_⟩:=AD (AB HN.out R);have df:=AW (AB HN.out R);obtain⟨bl,ol,rfl,DL⟩:=(D.out.below R).at (k:=k) (by have:=ig.out;omega);obtain⟨bm,om,br,eL,cr,rfl,jM,kw,jL,nn,gD⟩:=HM.out.row4 (Ar O.out).1 mS;have DM:=(R.cell (yA _ _ kw)).trans kw;have DW:=(R.cell (yA _ _ (gD k ac))).trans (gD k ac);have fk:=yA _ _ DM;have fj:=yA _ _ DW;have LO:=AA (show Fk P k=(BZ (BO P.low k) 0 11&&decide (As P.zV.mem (Ab P.zV 0).toNat k=IB (BO P.low k))&&F3 P.zV.zZ (BO P.low k).toNat) from rfl);rw[nS.out,yd] at LO;rw[show nth P.low k=BO P.low k from rfl] at DL;generalize BO P.low k=fv at DL LO;generalize As P.zV.mem rn k=tw at DW LO;clear kw gD jM jL;have gE:=λW (hW:Below wr.heap.size wr W)=>BJ (EI fv W)
  cases eQ:BZ fv 0 11
  .rw[eQ] at gE LO
   have CF:=AA gE;have dz:Fk P k=false:=by rw[LO.out];rfl
   clear gE LO eQ;have S:=AA (hY.out.trans (GW ac dz));go_wp2_with fail;refine Aa 36 86 [.i fv,.b false,.b true,.b true,.u,.u,.u,.u,.u,.u,.u,.u,.u,.u,.u,.u,.b true,.b true,.u,.u,.u,.u,.u,.u,.u,.u,.b true,.b true,.u,.u,.u,.u,.u,.u,.u,.u] (λ_ _ _=>True) ?_ ?_
   .intro i hi o E a wx Z J H hs O
    match i,hi with
    |0,_|2,_|3,_|16,_|17,_|26,_|27,_=>exact sP E O Z J
    |1,_=>exact sD E O Z J (CF.out _ H)
    |4,_|5,_|6,_|7,_|8,_|9,_|10,_|11,_|12,_|13,_|14,_|15,_|18,_|19,_|20,_|21,_|22,_|23,_|24,_|25,_|28,_|29,_|30,_|31,_|32,_|33,_|34,_|35,_=>exact sB E O J
    |_+36,hq=>omega
   .intro vs wx hR H
    have dQ:(vs 27)=.bool true:=BS hR 27;clear hR;simp only[Ak,Ah,yC,yy,yz,yx,dQ];simp;clear dQ;have dM:=R.trans (H.mono R.size);clear H x0 z DM DW;go_wp2_with fail;go_ret;exact⟨AH S.out.symm,ad.out.trans (dM.mono ad.out.size)⟩
  have ab:=AZ.1 eQ;obtain⟨fr,rfl⟩:∃x:Nat,fv=(x:Int):=⟨fv.toNat,by omega⟩
  have iA:fr<12:=by omega
  have nh:(fr:Int)<12:=by omega
  have ni:(fr:Int)<P.zV.zZ.length:=by have:=f4.out;omega
  rw[eQ] at gE LO;have CF:=AA gE;have ky:=λW (hW:Below wr.heap.size wr W)=>MD (fr:Int) W (by omega) (by omega)
  rw[yd,wt] at LO;generalize IB (fr:Int)=en_ at LO ky;have CP:=AA ky;obtain⟨pL,oS,e9,g0,_,F1,F2⟩:=(HI.out.below R).zP (k:=fr) (by have:=f4.out;omega);cases e9;have fV:=yA _ _ F1;have eJ:Fk P k=(decide (tw=en_)&&(decide ((zS P.zV.zZ fr).g=gA)&&decide ((zS P.zV.zZ fr).r=1))):=LO.out;clear gE ky LO eQ ab g0;generalize zS P.zV.zZ fr=x at F1 F2 eJ;obtain⟨ou,xg,xr⟩:=x;dsimp only at F1 F2 eJ
  rcases vR (tw=en_) with et|et
  rotate_left
  .have t1:(tw !=en_)=true:=by simp[et]
   have dz:Fk P k=false:=by rw[eJ,decide_eq_false et];rfl
   clear eJ et;have S:=AA (hY.out.trans (GW ac dz));go_wp2_with fail;refine Aa 36 86 [.i ((fr:Int)),.b true,.b false,.b false,.p w.heap.size 0,.p w.heap.size 0,.v (.slice (some ⟨bm,om,none⟩) P.zV.mem.length cm),.i ((rn:Int)),.p bm (om+rn),.v (.slice (some ⟨br,eL,none⟩) 4 cr),.i ((k:Int)),.p br (eL+k),.i tw,.i ((fr:Int)),.i en_,.b true,.b true,.b true,.u,.u,.u,.u,.u,.u,.u,.u,.b true,.b true,.u,.u,.u,.u,.u,.u,.u,.u] (λ_ _ _=>True) ?_ ?_
   .intro i hi o E a wx Z J H hs O
    match i,hi with
    |0,_|2,_|3,_|4,_|5,_|7,_|10,_|13,_|16,_|17,_|26,_|27,_=>exact sP E O Z J
    |1,_=>exact sD E O Z J (CF.out _ H)
    |6,_=>exact sL E O Z J (hl:=F9 (bc H df x0))
    |8,_|11,_=>exact sI E O Z J (hr:=by clear J Z O;go_simp)
    |9,_=>exact sL E O Z J (hl:=KU (bc H fk DM))
    |12,_=>exact sL E O Z J (hl:=FT (bc H fj DW))
    |14,_=>exact sD E O Z J (CP.out _ H)
    |18,_|19,_|20,_|21,_|22,_|23,_|24,_|25,_|28,_|29,_|30,_|31,_|32,_|33,_|34,_|35,_=>exact sB E O J
    |15,_=>obtain rfl:=yF E;have eH:(a.tmps[61]?.getD undef)=.int .i64 tw:=Ba J 12;have gy:(a.tmps[63]?.getD undef)=.int .i64 en_:=Ba J 14;have d3:(a.tmps[52]?.getD undef)=.bool false:=Ba J 3;clear J Z;refine AX.yes rfl rfl d3 ?_;go_simp;exact O.out _ _ rfl (yD _ _)
    |_+36,hq=>omega
   .intro vs wx hR H
    have dQ:(vs 27)=.bool true:=BS hR 27;clear hR;simp only[Ak,Ah,yC,yy,yz,yx,dQ];simp;clear dQ;have dM:=R.trans (H.mono R.size);clear H x0 z DM DW;go_wp2_with fail;go_ret;exact⟨AH S.out.symm,ad.out.trans (dM.mono ad.out.size)⟩
  have t1:(tw !=en_)=false:=by simp[et]
  rw[decide_eq_true et,wt] at eJ;have eg:xg=gA↔xg.toList=[97]:=⟨λh=>by subst h;rw[xj];rfl,λh=>by rw[xj] at h;cases xg with|mk d=>cases d with|mk l=>simp at h;subst h;rfl⟩;clear et
  rcases vR (xg.toList=[97]) with hg|hg
  rotate_left
  .have t2:(xg.toList==[97])=false:=by simp[hg]
   have dz:Fk P k=false:=by rw[eJ,decide_eq_false (λh=>hg (eg.1 h))];rfl
   clear eJ hg eg;have S:=AA (hY.out.trans (GW ac dz));go_wp2_with fail;refine Aa 36 86 [.i ((fr:Int)),.b true,.b false,.b false,.p w.heap.size 0,.p w.heap.size 0,.v (.slice (some ⟨bm,om,none⟩) P.zV.mem.length cm),.i ((rn:Int)),.p bm (om+rn),.v (.slice (some ⟨br,eL,none⟩) 4 cr),.i ((k:Int)),.p br (eL+k),.i tw,.i ((fr:Int)),.i en_,.b false,.b false,.b false,.p w.heap.size 0,.p w.heap.size 1,.v (.slice (some ⟨bi,oi,none⟩) P.zV.zZ.length ci),.i ((fr:Int)),.p bi (oi+fr*3),.p bi (oi+fr*3+1),.t xg,.b true,.b true,.b true,.u,.u,.u,.u,.u,.u,.u,.u] (λ_ _ _=>True) ?_ ?_
   .intro i hi o E a wx Z J H hs O
    match i,hi with
    |0,_|2,_|3,_|4,_|5,_|7,_|10,_|13,_|16,_|17,_|18,_|19,_|21,_|23,_|26,_|27,_=>exact sP E O Z J
    |1,_=>exact sD E O Z J (CF.out _ H)
    |6,_=>exact sL E O Z J (hl:=F9 (bc H df x0))
    |8,_|11,_|22,_=>exact sI E O Z J (hr:=by clear J Z O;go_simp)
    |9,_=>exact sL E O Z J (hl:=KU (bc H fk DM))
    |12,_=>exact sL E O Z J (hl:=FT (bc H fj DW))
    |14,_=>exact sD E O Z J (CP.out _ H)
    |20,_=>exact sL E O Z J (hl:=GY (bc H df z))
    |24,_=>exact sL E O Z J (hl:=ZP (bc H fV F1))
    |28,_|29,_|30,_|31,_|32,_|33,_|34,_|35,_=>exact sB E O J
    |15,_=>obtain rfl:=yF E;have eH:(a.tmps[61]?.getD undef)=.int .i64 tw:=Ba J 12;have gy:(a.tmps[63]?.getD undef)=.int .i64 en_:=Ba J 14;have d3:(a.tmps[52]?.getD undef)=.bool false:=Ba J 3;clear J Z;refine AX.yes rfl rfl d3 ?_;go_simp;exact O.out _ _ rfl (yD _ _)
    |25,_=>obtain rfl:=yF E;have lu:(a.tmps[73]?.getD undef)=.string xg:=Ba J 24;have hH:(a.tmps[66]?.getD undef)=.bool false:=Ba J 17;clear J Z;refine AX.yes rfl rfl hH ?_;go_simp;exact O.out _ _ rfl (yD _ _)
    |_+36,hq=>omega
   .intro vs wx hR H
    have dQ:(vs 27)=.bool true:=BS hR 27;clear hR;simp only[Ak,Ah,yC,yy,yz,yx,dQ];simp;clear dQ;have dM:=R.trans (H.mono R.size);clear H x0 z DM DW;go_wp2_with fail;go_ret;exact⟨AH S.out.symm,ad.out.trans (dM.mono ad.out.size)⟩
  have t2:(xg.toList==[97])=true:=by simp[hg]
  rw[decide_eq_true (eg.2 hg),wt] at eJ;clear hg eg
  rcases vR (xr=1) with hr1|hr1
  rotate_left
  .have t3:(xr !=1)=true:=by simp[hr1]
   have dz:Fk P k=false:=by rw[eJ,decide_eq_false hr1]
   clear eJ hr1;have S:=AA (hY.out.trans (GW ac dz));go_wp2_with fail;refine Aa 36 86 [.i ((fr:Int)),.b true,.b false,.b false,.p w.heap.size 0,.p w.heap.size 0,.v (.slice (some ⟨bm,om,none⟩) P.zV.mem.length cm),.i ((rn:Int)),.p bm (om+rn),.v (.slice (some ⟨br,eL,none⟩) 4 cr),.i ((k:Int)),.p br (eL+k),.i tw,.i ((fr:Int)),.i en_,.b false,.b false,.b false,.p w.heap.size 0,.p w.heap.size 1,.v (.slice (some ⟨bi,oi,none⟩) P.zV.zZ.length ci),.i ((fr:Int)),.p bi (oi+fr*3),.p bi (oi+fr*3+1),.t xg,.b false,.b false,.b false,.p w.heap.size 0,.p w.heap.size 1,.v (.slice (some ⟨bi,oi,none⟩) P.zV.zZ.length ci),.i ((fr:Int)),.p bi (oi+fr*3),.p bi (oi+fr*3+2),.i xr,.b true] (λ_ _ _=>True) ?_ ?_
   .intro i hi o E a wx Z J H hs O
    have di:=bc H df x0;have bN:=bc H fk DM;have dh:=bc H fj DW;have cw:=bc H df z;have bk:=bc H fV F1;have dx:=bc H fV F2
    match i,hi with
    |0,_|2,_|3,_|4,_|5,_|7,_|10,_|13,_|16,_|17,_|18,_|19,_|21,_|23,_|26,_|27,_|28,_|29,_|31,_|33,_=>exact sP E O Z J
    |1,_=>exact sD E O Z J (CF.out _ H)
    |6,_=>exact sL E O Z J (hl:=F9 ‹_›)
    |8,_|11,_|22,_|32,_=>exact sI E O Z J (hr:=by clear J Z O;go_simp)
    |9,_=>exact sL E O Z J (hl:=KU ‹_›)
    |12,_|34,_=>exact sL E O Z J (hl:=FT ‹_›)
    |14,_=>exact sD E O Z J (CP.out _ H)
    |20,_|30,_=>exact sL E O Z J (hl:=GY ‹_›)
    |24,_=>exact sL E O Z J (hl:=ZP ‹_›)
    |15,_=>clear di bN dh cw bk dx;obtain rfl:=yF E;have eH:(a.tmps[61]?.getD undef)=.int .i64 tw:=Ba J 12;have gy:(a.tmps[63]?.getD undef)=.int .i64 en_:=Ba J 14;have d3:(a.tmps[52]?.getD undef)=.bool false:=Ba J 3;clear J Z;refine AX.yes rfl rfl d3 ?_;go_simp;exact O.out _ _ rfl (yD _ _)
    |25,_=>clear di bN dh cw bk dx;obtain rfl:=yF E;have lu:(a.tmps[73]?.getD undef)=.string xg:=Ba J 24;have hH:(a.tmps[66]?.getD undef)=.bool false:=Ba J 17;clear J Z;refine AX.yes rfl rfl hH ?_;go_simp;exact O.out _ _ rfl (yD _ _)
    |35,_=>clear di bN dh cw bk dx;obtain rfl:=yF E;have nJ:(a.tmps[83]?.getD undef)=.int .i64 xr:=Ba J 34;have jX:(a.tmps[76]?.getD undef)=.bool false:=Ba J 27;clear J Z;refine AX.yes rfl rfl jX ?_;go_simp;exact O.out _ _ rfl (yD _ _)
    |_+36,hq=>omega
   .intro vs wx hR H
    have dQ:(vs 27)=.bool false:=BS hR 27;have gG:(vs 35)=.bool true:=BS hR 35;clear hR;simp only[Ak,Ah,yC,yy,yz,yx,dQ,gG];simp;clear dQ gG;have dM:=R.trans (H.mono R.size);clear H x0 z DM DW;go_wp2_with fail;go_ret;exact⟨AH S.out.symm,ad.out.trans (dM.mono ad.out.size)⟩
  have t3:(xr !=1)=false:=by simp[hr1]
  have de:Fk P k=true:=by rw[eJ,decide_eq_true hr1]
  clear eJ hr1;have S:=AA (de);go_wp2_with fail;refine Aa 36 86 [.i ((fr:Int)),.b true,.b false,.b false,.p w.heap.size 0,.p w.heap.size 0,.v (.slice (some ⟨bm,om,none⟩) P.zV.mem.length cm),.i ((rn:Int)),.p bm (om+rn),.v (.slice (some ⟨br,eL,none⟩) 4 cr),.i ((k:Int)),.p br (eL+k),.i tw,.i ((fr:Int)),.i en_,.b false,.b false,.b false,.p w.heap.size 0,.p w.heap.size 1,.v (.slice (some ⟨bi,oi,none⟩) P.zV.zZ.length ci),.i ((fr:Int)),.p bi (oi+fr*3),.p bi (oi+fr*3+1),.t xg,.b false,.b false,.b false,.p w.heap.size 0,.p w.heap.size 1,.v (.slice (some ⟨bi,oi,none⟩) P.zV.zZ.length ci),.i ((fr:Int)),.p bi (oi+fr*3),.p bi (oi+fr*3+2),.i xr,.b false] (λ_ _ _=>True) ?_ ?_
  .intro i hi o E a wx Z J H hs O
   have di:=bc H df x0;have bN:=bc H fk DM;have dh:=bc H fj DW;have cw:=bc H df z;have bk:=bc H fV F1;have dx:=bc H fV F2
   match i,hi with
   |0,_|2,_|3,_|4,_|5,_|7,_|10,_|13,_|16,_|17,_|18,_|19,_|21,_|23,_|26,_|27,_|28,_|29,_|31,_|33,_=>exact sP E O Z J
   |1,_=>exact sD E O Z J (CF.out _ H)
   |6,_=>exact sL E O Z J (hl:=F9 ‹_›)
   |8,_|11,_|22,_|32,_=>exact sI E O Z J (hr:=by clear J Z O;go_simp)
   |9,_=>exact sL E O Z J (hl:=KU ‹_›)
   |12,_|34,_=>exact sL E O Z J (hl:=FT ‹_›)
   |14,_=>exact sD E O Z J (CP.out _ H)
   |20,_|30,_=>exact sL E O Z J (hl:=GY ‹_›)
   |24,_=>exact sL E O Z J (hl:=ZP ‹_›)
   |15,_=>clear di bN dh cw bk dx;obtain rfl:=yF E;have eH:(a.tmps[61]?.getD undef)=.int .i64 tw:=Ba J 12;have gy:(a.tmps[63]?.getD undef)=.int .i64 en_:=Ba J 14;have d3:(a.tmps[52]?.getD undef)=.bool false:=Ba J 3;clear J Z;refine AX.yes rfl rfl d3 ?_;go_simp;exact O.out _ _ rfl (yD _ _)
   |25,_=>clear di bN dh cw bk dx;obtain rfl:=yF E;have lu:(a.tmps[73]?.getD undef)=.string xg:=Ba J 24;have hH:(a.tmps[66]?.getD undef)=.bool false:=Ba J 17;clear J Z;refine AX.yes rfl rfl hH ?_;go_simp;exact O.out _ _ rfl (yD _ _)
   |35,_=>clear di bN dh cw bk dx;obtain rfl:=yF E;have nJ:(a.tmps[83]?.getD undef)=.int .i64 xr:=Ba J 34;have jX:(a.tmps[76]?.getD undef)=.bool false:=Ba J 27;clear J Z;refine AX.yes rfl rfl jX ?_;go_simp;exact O.out _ _ rfl (yD _ _)
   |_+36,hq=>omega
  .intro vs wx hR H
   have dQ:(vs 27)=.bool false:=BS hR 27;have gG:(vs 35)=.bool false:=BS hR 35;clear hR;simp only[Ak,Ah,yC,yy,yz,yx,dQ,gG];simp;clear dQ gG;have dM:=R.trans (H.mono R.size);clear H x0 z DM DW;go_wp2_with fail;go_roundw;exact⟨k+1,by omega,by go_num,Al b9.out S.out,dM⟩;simp[intOf];omega
 .have ek:k=4:=by omega
  have ax:=b9.out;rw[ek] at ax;have S:=AA (hY.out.trans (xZ.2 λj hj=>ax j (xS.1 hj)));have gW:¬(k:Int)<4:=by omega
  clear b9 ax;go_wp2_with fail;go_ret;exact⟨AH S.out.symm,ad.out.trans (R.mono ad.out.size)⟩
theorem UU{l:List Bo}{k s:Nat}(L:k<l.length):Cb (l.take (k+1)) s=Cb (l.take k) s+(if(AC l k).w=2/\(AC l k).a=(s:Int) then 1 else 0):=by
 unfold Cb;rw[DA (x:=AC l k) (A2 L),List.countP_append]
 congr 1
 simp only[List.countP_cons,List.countP_nil,Cz,yu,decide_eq_true_eq,Nat.zero_add]
theorem Wv{l:List Bo}{s:Nat}:Cb l s<=l.length:=by unfold Cb;exact List.countP_le_length
theorem Tr(mv iv ev cv sv lv qv:Value)(P:AR)(w:World)(h:Jy w mv iv ev cv sv lv qv P)(fS:P.swap.length=16)(eN:P.zY.length<=1048576):
 Calls prog 40 #[AN mv iv ev cv sv lv qv P.zR P.zU] w λr w'=>r=.returned (.bool ((yC 16).all (D6 P)))/\Below w.heap.size w w':=by
 unfold AN;obtain⟨res,db⟩:∃res,res=(yC 16).all (D6 P):=⟨_,rfl⟩
 rw[<-db];have ib:=AA db;clear db;obtain⟨N0,b0⟩:=Dd w (.cells #[mv,iv,ev,cv,sv,lv,qv,.int .i64 P.zR,.int .i64 P.zU] 32);have h0:=h.below b0;obtain⟨aq,cq,rfl,_,_,lJ⟩:=BK.open En (by decide) h0.2.2.2;obtain⟨lB,lx,rfl,_,_,f7⟩:=h0.2.1.open;obtain⟨_,_,_,_,x4,_,x6,_,_⟩:=AD N0;have kf:=AA fS;clear h fS N0 h0;go_in;go_wp2_with fail;generalize w.alloc _=W0 at*;have HQ:=AA lJ;have HS:=AA f7;have ad:=AA b0;clear lJ f7 b0;go_loopw [3,4,5] (λix _ _ wr=>∃i0:Nat,i0<=16/\ix=.int .i64 i0/\(∀j,j<i0->D6 P j=true)/\W0=wr) (λix _ _ _=>16 - (intOf ix).toNat)
 exact⟨0,yg _,rfl,λj hj=>absurd hj (xN _),rfl⟩
 obtain⟨i0,hi,rfl,ax,rfl⟩:=hrel;have b9:=AA ax;clear ax
 by_cases ac:i0<16
 .have iz:(i0:Int)<P.swap.length:=by have:=kf.out;omega
  go_wp2_with fail;go_loopw [4,5] (λs4 s5 wi=>∃k:Nat,k<=P.zY.length/\s5=.int .i64 k/\s4=.int .i64 (Cb (P.zY.take k) i0:Nat)/\W0=wi) (λ_ s5 _=>P.zY.length - (intOf s5).toNat)
  exact⟨0,yg _,rfl,rfl,rfl⟩
  obtain⟨k,L,rfl,rfl,rfl⟩:=hrel
  by_cases jz:k<P.zY.length
  .have gW:(k:Int)<P.zY.length:=by omega
   obtain⟨b,dS,rfl,_,D0,D1,_⟩:=HQ.out.zq jz;have S:=UU (s:=i0) jz;have fD:=Wv (l:=P.zY.take k) (s:=i0);rw[xT] at fD
   by_cases hw:(AC P.zY k).w=2
   .have t0:((AC P.zY k).w==2)=true:=by simp[hw]
    by_cases ha:(AC P.zY k).a=(i0:Int)
    .have t1:((AC P.zY k).a==(i0:Int))=true:=by simp[ha]
     rw[if_pos ⟨hw,ha⟩] at S;have S:=AA S;generalize Cb (P.zY.take k) i0=n0 at*;clear hw ha;go_wp2_with fail;go_roundw;exact⟨k+1,by omega,by go_num,by rw[S.out];go_num,by first|rfl|trivial⟩;simp[intOf];omega
    .have t1:((AC P.zY k).a==(i0:Int))=false:=by simp[ha]
     rw[if_neg (λh=>ha h.2)] at S;have S:=AA S;clear hw ha;go_wp2_with fail;go_roundw;exact⟨k+1,by omega,by go_num,by rw[S.out,xK],by first|rfl|trivial⟩;simp[intOf];omega
   .have t0:((AC P.zY k).w==2)=false:=by simp[hw]
    rw[if_neg (λh=>hw h.1)] at S;have S:=AA S;clear hw;go_wp2_with fail;go_roundw;exact⟨k+1,by omega,by go_num,by rw[S.out,xK],by first|rfl|trivial⟩;simp[intOf];omega
  .obtain rfl:k=P.zY.length:=by omega
   have gW:¬(P.zY.length:Int)<P.zY.length:=by omega
   rw[List.take_length];obtain⟨b,dS,u,rfl,ar,HL,hr⟩:=HS.out i0 (by have:=kf.out;omega);obtain⟨au,cu,rfl,_,_,_⟩:=hr.open;have SO:D6 P i0=decide (Cb P.zY i0=if(AG P.swap i0).isEmpty then 0 else 1):=rfl;have EM:(AG P.swap i0).isEmpty=true↔(AG P.swap i0).length=0:=by cases AG P.swap i0<;>simp
   have ga:=AA (λ(hx:D6 P i0=false)=>(ib.out.trans (GW ac hx):res=false));generalize Cb P.zY i0=n0 at SO ⊢;have mW:(0:Int)<=((AG P.swap i0).length:Int):=by omega
   by_cases X:1<n0
   .have t1:(1:Int)<(n0:Int):=by omega
    have S:=AA (ga.out (by rw[SO];split<;>simp<;>omega));clear SO EM hr;go_wp2_with fail;go_ret;exact⟨AH S.out.symm,ad.out⟩
   .have t1:¬(1:Int)<(n0:Int):=by omega
    by_cases he:(AG P.swap i0).length=0
    .have t2:¬(0:Int)<((AG P.swap i0).length:Int):=by omega
     have lS:decide (0<(AG P.swap i0).length)=false:=decide_eq_false (by omega);rw[if_pos (EM.2 he)] at SO
     by_cases hn:n0=0
     .have t3:((n0:Int)==1)=false:=beq_eq_false_iff_ne.2 (by omega)
      have S:=AA (show D6 P i0=true by rw[SO];simp[hn]);clear SO EM hr hn he;go_wp2_with fail;go_roundw;exact⟨i0+1,by omega,by go_num,Al b9.out S.out,by first|rfl|trivial⟩;simp[intOf];omega
     .have t3:((n0:Int)==1)=true:=beq_iff_eq.2 (by omega)
      have S:=AA (ga.out (by rw[SO];simp[hn]));clear SO EM hr hn he;go_wp2_with fail;go_ret;exact⟨AH S.out.symm,ad.out⟩
    .have t2:(0:Int)<((AG P.swap i0).length:Int):=by omega
     have lS:decide (0<(AG P.swap i0).length)=true:=decide_eq_true (by omega);rw[if_neg (λh=>he (EM.1 h))] at SO
     by_cases hn:n0=1
     .have t3:((n0:Int)==1)=true:=beq_iff_eq.2 (by omega)
      have S:=AA (show D6 P i0=true by rw[SO];simp[hn]);clear SO EM hr hn he;go_wp2_with fail;go_roundw;exact⟨i0+1,by omega,by go_num,Al b9.out S.out,by first|rfl|trivial⟩;simp[intOf];omega
     .have t3:((n0:Int)==1)=false:=beq_eq_false_iff_ne.2 (by omega)
      have S:=AA (ga.out (by rw[SO];simp[hn]));clear SO EM hr hn he;go_wp2_with fail;go_ret;exact⟨AH S.out.symm,ad.out⟩
 .have ek:i0=16:=by omega
  have ax:=b9.out;rw[ek] at ax;have S:=AA (show res=true from ib.out.trans (xZ.2 λj hj=>ax j (xS.1 hj)));have iz:¬(i0:Int)<P.swap.length:=by have:=kf.out;omega
  clear b9 ax;go_wp2_with fail;go_ret;exact⟨AH S.out.symm,ad.out⟩
theorem Ey(mv iv ev cv sv lv qv:Value)(P:AR)(w:World)(h:Jy w mv iv ev cv sv lv qv P)(K:Dn P.zV):
 Calls prog 14 #[AN mv iv ev cv sv lv qv P.zR P.zU] w λr w'=>r=.returned (.bool (BI P))/\Below w.heap.size w w':=by
 obtain⟨po,hpo⟩:∃po,po=BI P:=⟨_,rfl⟩
 rw[<-hpo];have PO:=AA (show po=(Cr P.zV&&FM P.swap&&Gm P.zV&&Bv P&&decide (P.zY.length=16)&&(yC 16).all (D6 P)&&(yC 16).all (GZ P)&&BZ P.zR 0 15&&BZ P.zU 1 6&&decide ((Aj P.zY 1:Int)<=P.zU)) from hpo);clear hpo;unfold AN;obtain⟨N0,b0⟩:=Dd w (.cells #[mv,iv,ev,cv,sv,lv,qv,.int .i64 P.zR,.int .i64 P.zU] 32);have HR:=AA (h.below b0);have Hs:=AA K;obtain⟨aq,cq,rfl,_,_⟩:=h.2.2.2.shape;obtain⟨x0,z,x2,x3,x4,x5,x6,x7,x8⟩:=AD N0;clear h K;go_in;go_wp2_with fail;generalize w.alloc _=W0 at*;have HN:=AA N0;have ad:=AA b0;have R:Below W0.heap.size W0 W0:=yD _ _;clear N0 b0;cases e1:Cr P.zV
 .have S:=AA (show po=false by rw[PO.out];simp[e1])
  have C:=Kc mv iv ev cv P.zV _ (HR.out.1.below R) Hs.out;rw[e1] at C;clear e1;go_wp2_with (refine C.mono ?_;rintro r w_ ⟨rfl,bD⟩;clear x0 z x2 x3 x4 x5 x6 x7 x8);go_ret;exact⟨AH S.out.symm,ad.out.trans ((R.trans (bD.mono R.size)).mono ad.out.size)⟩
 have C:=Kc mv iv ev cv P.zV _ (HR.out.1.below R) Hs.out;rw[e1] at C;have T1:=AA e1;rw[e1] at PO;clear e1;go_wp2_with fail;refine C.mono ?_;rintro r w_ ⟨rfl,bD⟩;replace R:=R.trans (bD.mono R.size);clear bD C x0 z x2 x3 x4 x5 x6 x7 x8;obtain⟨x0,z,x2,x3,x4,x5,x6,x7,x8⟩:=AD (AB HN.out R);cases e2:FM P.swap
 .have S:=AA (show po=false by rw[PO.out];simp[e2])
  have C:=IG sv P.swap _ (HR.out.2.1.below R);rw[e2] at C;clear e2;go_wp2_with (refine C.mono ?_;rintro r w_ ⟨rfl,bD⟩;clear x0 z x2 x3 x4 x5 x6 x7 x8);go_ret;exact⟨AH S.out.symm,ad.out.trans ((R.trans (bD.mono R.size)).mono ad.out.size)⟩
 have C:=IG sv P.swap _ (HR.out.2.1.below R);rw[e2] at C;have T2:=AA e2;rw[e2] at PO;clear e2;go_wp2_with fail;refine C.mono ?_;rintro r w_ ⟨rfl,bD⟩;replace R:=R.trans (bD.mono R.size);clear bD C x0 z x2 x3 x4 x5 x6 x7 x8;obtain⟨x0,z,x2,x3,x4,x5,x6,x7,x8⟩:=AD (AB HN.out R);cases e3:Gm P.zV
 .have S:=AA (show po=false by rw[PO.out];simp[e3])
  have C:=NH mv iv ev cv P.zV _ (HR.out.1.2.2.1.below R) (El.1 T1.out).zN Hs.out.2;rw[e3] at C;clear e3;go_wp2_with (refine C.mono ?_;rintro r w_ ⟨rfl,bD⟩;clear x0 z x2 x3 x4 x5 x6 x7 x8);go_ret;exact⟨AH S.out.symm,ad.out.trans ((R.trans (bD.mono R.size)).mono ad.out.size)⟩
 have C:=NH mv iv ev cv P.zV _ (HR.out.1.2.2.1.below R) (El.1 T1.out).zN Hs.out.2;rw[e3] at C;have T3:=AA e3;rw[e3] at PO;clear e3;go_wp2_with fail;refine C.mono ?_;rintro r w_ ⟨rfl,bD⟩;replace R:=R.trans (bD.mono R.size);clear bD C x0 z x2 x3 x4 x5 x6 x7 x8;obtain⟨x0,z,x2,x3,x4,x5,x6,x7,x8⟩:=AD (AB HN.out R);have TX:=AA (λW (hW:Below W0.heap.size W0 W)=>Rg mv iv ev cv sv lv _ P W (HR.out.below hW) T1.out);unfold AN at TX;cases e4:Bv P
 .have S:=AA (show po=false by rw[PO.out];simp[e4])
  have C:=TX.out _ R;rw[e4] at C;clear e4;go_wp2_with (refine C.mono ?_;rintro r w_ ⟨rfl,bD⟩;clear x0 z x2 x3 x4 x5 x6 x7 x8);go_ret;exact⟨AH S.out.symm,ad.out.trans ((R.trans (bD.mono R.size)).mono ad.out.size)⟩
 have C:=TX.out _ R;rw[e4] at C;have T4:=AA e4;rw[e4] at PO;clear e4;go_wp2_with fail;refine C.mono ?_;rintro r w_ ⟨rfl,bD⟩;replace R:=R.trans (bD.mono R.size);clear bD C x0 z x2 x3 x4 x5 x6 x7 x8;obtain⟨x0,z,x2,x3,x4,x5,x6,x7,x8⟩:=AD (AB HN.out R);clear TX
 rcases vR (P.zY.length=16) with eN|eN
 rotate_left
 .have S:=AA (show po=false by rw[PO.out];simp[eN])
  have t5:((P.zY.length:Int) !=16)=true:=bne_iff_ne.2 (by omega);clear eN;go_wp2_with fail;go_ret;exact⟨AH S.out.symm,ad.out.trans (R.mono ad.out.size)⟩
 have t5:((P.zY.length:Int) !=16)=false:=by rw[eN];rfl
 have ie:=AA eN;rw[decide_eq_true eN] at PO;clear eN;have SX:=AA (λW (hW:Below W0.heap.size W0 W)=>Tr mv iv ev cv sv lv _ P W (HR.out.below hW) (GT.1 T2.out).1 (by have:=ie.out;omega));unfold AN at SX;obtain⟨sl,fS⟩:∃sl,sl=(yC 16).all (D6 P):=⟨_,rfl⟩
 rw[<-fS] at SX PO;clear fS;cases e6:sl
 .have S:=AA (show po=false by rw[PO.out];simp[e6])
  have C:=SX.out _ R;rw[e6] at C;clear e6;go_wp2_with (refine C.mono ?_;rintro r w_ ⟨rfl,bD⟩;clear x0 z x2 x3 x4 x5 x6 x7 x8);go_ret;exact⟨AH S.out.symm,ad.out.trans ((R.trans (bD.mono R.size)).mono ad.out.size)⟩
 have C:=SX.out _ R;rw[e6] at C;have T6:=AA e6;rw[e6] at PO;clear e6;go_wp2_with fail;refine C.mono ?_;rintro r w_ ⟨rfl,bD⟩;replace R:=R.trans (bD.mono R.size);clear bD C x0 z x2 x3 x4 x5 x6 x7 x8;obtain⟨x0,z,x2,x3,x4,x5,x6,x7,x8⟩:=AD (AB HN.out R);clear SX t5;have gR:=AA (Qr T4.out);have HF:Hid (cQ P):=AA ⟨T1.out,T2.out,gR.out.1,gR.out.2,ie.out⟩;have kx:=AA (λW (hW:Below W0.heap.size W0 W) n (hn:n<16)=>VE mv iv ev cv sv lv _ P n W (HR.out.below hW) HF.out hn);unfold AN at kx;have du:=AA R;clear R x0 z x2 x3 x4 x5 x6 x7 x8;go_wp2_with fail;go_loopw [3] (λs3 wr=>∃k:Nat,k<=16/\s3=.int .i64 k/\(∀j,j<k->GZ P j=true)/\Below W0.heap.size W0 wr) (λs3 _=>16 - (intOf s3).toNat)
 exact⟨0,yg _,rfl,λj hj=>absurd hj (xN _),du.out⟩
 obtain⟨k,L,rfl,ax,R⟩:=hrel;have b9:=AA ax;clear ax;obtain⟨x0,z,x2,x3,x4,x5,x6,x7,x8⟩:=AD (AB HN.out R)
 by_cases ac:k<16
 .have gW:(k:Int)<P.zY.length:=by have:=ie.out;omega
  have C:=kx.out wr R k ac;cases e1:GZ P k
  .rw[e1] at C
   have S:=AA (show po=false by rw[PO.out,GW ac e1];simp);clear e1;go_wp2_with (refine C.mono ?_;rintro r w_ ⟨rfl,bD⟩);go_ret;exact⟨AH S.out.symm,ad.out.trans ((R.trans (bD.mono R.size)).mono ad.out.size)⟩
  .rw[e1] at C
   have S:=AA e1;clear e1;go_wp2_with fail;refine C.mono ?_;rintro r w_ ⟨rfl,bD⟩;go_wp2_with fail;go_roundw;exact⟨k+1,by omega,by go_num,Al b9.out S.out,R.trans (bD.mono R.size)⟩;simp[intOf];omega
 .have ek:k=16:=by omega
  have ax:=b9.out;rw[ek] at ax;have dw:=AA (show po=(BZ P.zR 0 15&&BZ P.zU 1 6&&decide ((Aj P.zY 1:Int)<=P.zU)) by
   rw[PO.out,show(yC 16).all (GZ P)=true from xZ.2 λj hj=>ax j (xS.1 hj)];simp)
  have gW:¬(k:Int)<P.zY.length:=by have:=ie.out;omega
  have eD:=AW (AB HN.out R);have gf:=λW (hW:Below wr.heap.size wr W)=>BJ (C8 P.zR 0 15 W)
  have gd:=λW (hW:Below wr.heap.size wr W)=>BJ (C8 P.zU 1 6 W)
  have iM:=λW (hW:Below wr.heap.size wr W)=>NI mv iv ev cv sv lv _ P 1 W (BK.below (BK.below HR.out.2.2.2 R) hW) (by have:=ie.out;omega)
  unfold AN at iM;generalize Aj P.zY 1=cn at iM dw;have CN:=AA iM;clear b9 ax iM PO kx;cases X:BZ P.zR 0 15
  .rw[X] at gf
   have CH:=AA gf;have S:=AA (show po=false by rw[dw.out,X];rfl);clear gf gd X;go_wp2_with fail;refine Aa 14 62 [.p w.heap.size 7,.i (P.zR),.b false,.b false,.u,.u,.u,.b false,.b false,.u,.u,.u,.u,.u] (λ_ _ _=>True) ?_ ?_
   .intro i hi o E a wx Z J H hs O
    match i,hi with
    |0,_|3,_|7,_|8,_=>exact sP E O Z J
    |1,_=>exact sL E O Z J (hl:=FT (bc H eD x7))
    |2,_=>exact sD E O Z J (CH.out _ H)
    |4,_|5,_|6,_|9,_|10,_|11,_|12,_|13,_=>exact sB E O J
   .intro vs wx hR H
    have q8:(vs 8)=.bool false:=BS hR 8;clear hR;simp only[Ak,Ah,yC,yy,yz,yx,q8];simp;clear q8;have dM:=R.trans (H.mono R.size);clear x0 z x2 x3 x4 x5 x6 x7 x8 H;go_wp2_with fail;go_ret;exact⟨AH S.out.symm,ad.out.trans (dM.mono ad.out.size)⟩
  .rw[X] at gf
   have CH:=AA gf;cases V:BZ P.zU 1 6
   .rw[V] at gd
    have CL:=AA gd;have S:=AA (show po=false by rw[dw.out,X,V];rfl);clear gf gd X V;go_wp2_with fail;refine Aa 14 62 [.p w.heap.size 7,.i (P.zR),.b true,.b true,.p w.heap.size 8,.i (P.zU),.b false,.b false,.b false,.u,.u,.u,.u,.u] (λ_ _ _=>True) ?_ ?_
    .intro i hi o E a wx Z J H hs O
     have di:=bc H eD x7;have bN:=bc H eD x8
     match i,hi with
     |0,_|3,_|4,_|7,_|8,_=>exact sP E O Z J
     |1,_|5,_=>exact sL E O Z J (hl:=FT ‹_›)
     |2,_=>exact sD E O Z J (CH.out _ H)
     |6,_=>exact sD E O Z J (CL.out _ H)
     |9,_|10,_|11,_|12,_|13,_=>exact sB E O J
    .intro vs wx hR H
     have q8:(vs 8)=.bool false:=BS hR 8;clear hR;simp only[Ak,Ah,yC,yy,yz,yx,q8];simp;clear q8;have dM:=R.trans (H.mono R.size);clear x0 z x2 x3 x4 x5 x6 x7 x8 H;go_wp2_with fail;go_ret;exact⟨AH S.out.symm,ad.out.trans (dM.mono ad.out.size)⟩
   .rw[V] at gd
    have CL:=AA gd;have S:=AA (show po=decide ((cn:Int)<=P.zU) by rw[dw.out,X,V];rfl);clear gf gd X V;go_wp2_with fail;refine Aa 14 62 [.p w.heap.size 7,.i (P.zR),.b true,.b true,.p w.heap.size 8,.i (P.zU),.b true,.b true,.b true,.a #[mv,iv,ev,cv,sv,lv,.slice aq P.zY.length cq,.int .i64 (P.zR),.int .i64 (P.zU)],.i ((cn:Int)),.p w.heap.size 8,.i (P.zU),.b (decide ((cn:Int)<=P.zU))] (λ_ _ _=>True) ?_ ?_
    .intro i hi o E a wx Z J H hs O
     have di:=bc H eD x7;have bN:=bc H eD x8;have dh:=bc H eD x0;have cw:=bc H eD z;have bk:=bc H eD x2;have dx:=bc H eD x3;have fy:=bc H eD x4;have gj:=bc H eD x5;have gI:=bc H eD x6
     match i,hi with
     |0,_|3,_|4,_|7,_|8,_|11,_=>exact sP E O Z J
     |1,_|5,_|12,_=>exact sL E O Z J (hl:=FT ‹_›)
     |2,_=>exact sD E O Z J (CH.out _ H)
     |6,_=>exact sD E O Z J (CL.out _ H)
     |9,_=>exact sL E O Z J (hl:=Tz ‹_› ‹_› ‹_› ‹_› ‹_› ‹_› ‹_› ‹_› ‹_›)
     |10,_=>exact sD E O Z J (CN.out _ H)
     |13,_=>clear di bN dh cw bk dx fy gj gI;obtain rfl:=yF E;have nK:(a.tmps[57]?.getD undef)=.int .i64 cn:=Ba J 10;have eH:(a.tmps[59]?.getD undef)=.int .i64 (P.zU):=Ba J 12;have d8:(a.tmps[55]?.getD undef)=.bool true:=Ba J 8;clear J Z;refine AX.yes rfl rfl d8 ?_;go_simp;exact O.out _ _ rfl (yD _ _)
    .intro vs wx hR H
     have q8:(vs 8)=.bool true:=BS hR 8;have kB:(vs 13)=.bool (decide ((cn:Int)<=P.zU)):=BS hR 13;clear hR;simp only[Ak,Ah,yC,yy,yz,yx,q8,kB];simp;clear q8 kB;have dM:=R.trans (H.mono R.size);clear x0 z x2 x3 x4 x5 x6 x7 x8 H;go_wp2_with fail;go_ret;exact⟨AH S.out.symm,ad.out.trans (dM.mono ad.out.size)⟩
theorem LF(mv iv ev cv sv lv qv:Value)(P:AR)(w:World)(h:Jy w mv iv ev cv sv lv qv P)(hP:Du P){n:Nat}(hn:n<16):
 Calls prog 17 #[AN mv iv ev cv sv lv qv P.zR P.zU,.int .i64 n] w (Fx w (BN P n)):=by
 have cF:=λlo W m i e c s l q (HK:FQ lo W m i e c s l q P) (hl:lo<=W.heap.size)=>Ts HK hl hP hn
 have HT:=λ(h:(BN P n).2=false)=>Fn hP hn h
 generalize BN P n=t at cF HT ⊢;obtain⟨Q,bb⟩:=t;unfold Mi AN at cF;dsimp only at cF HT ⊢;have cF:=AA cF;have HT:=AA HT;unfold AN Fx AN;obtain⟨N0,N1,bn,bx⟩:=Jz w (.cells #[mv,iv,ev,cv,sv,lv,qv,.int .i64 P.zR,.int .i64 P.zU] 32) ((.cells #[.slice none 0 0,.slice none 0 0,.slice none 0 0,.slice none 0 0,.slice none 0 0,.slice none 0 0,.slice none 0 0,.int .i64 0,.int .i64 0] 32));have h0:=h.below bn;have de:BI P=true:=Ca.2 hP;obtain⟨x0,z,x2,x3,x4,x5,x6,x7,x8⟩:=AD N0;have hZ:=AA bx;clear bx;go_in;go_wp2_with fail;generalize(w.alloc _).alloc _=W0 at*;have CV:=Ey mv iv ev cv sv lv qv P W0 h0 (CQ hP.k);have CO:=AA (λW (hW:Below W0.heap.size W0 W)=>Lg mv iv ev cv sv lv qv P W (h0.below hW) hP);rw[de] at CV;unfold AN at CV CO;have cz:=AA bn;have ad:=AA N0;have du:=AA N1;have pM:=AA hP;have gQ:BZ (n:Int) 0 15=true:=AZ.2 (by omega);clear h h0 bn N0 N1 hP de x0 z x2 x3 x4 x5 x6 x7 x8;refine CV.mono ?_;rintro r w1 ⟨rfl,b1⟩;obtain⟨x0,z,x2,x3,x4,x5,x6,x7,x8⟩:=AD (AB ad.out b1);have dt:=AA b1;clear b1 CV;go_wp2_with fail;refine(C8 _ _ _ _).mono ?_;rintro r w2 ⟨rfl,rfl⟩;rw[gQ];go_wp2_with fail;refine(CO.out w1 dt.out).mono ?_;rintro r w2 ⟨m2,i2,e2,c2,s2,l2,q2,rfl,O2,b2⟩;unfold AN;obtain⟨⟨⟨ma,mn,mc,rfl⟩,⟨ia,iN,ic,rfl⟩,⟨ea,en,ec,rfl⟩,⟨ka,kn,kc,rfl⟩⟩,⟨sa,sn,sc,rfl⟩,⟨la,ln,lc,rfl⟩,⟨pa,pn,pc,rfl⟩⟩:=O2.zQ;have CT:=AA (cF.out _ _ _ _ _ _ _ _ _ O2 b2.size);clear cF;have ij:=AA b2;clear O2 b2 x0 z x2 x3 x4 x5 x6 x7 x8;go_wp2_with fail;refine CT.out.mono ?_;rintro r w3 ⟨hy,js,b3,s3⟩;have hX:=dt.out.trans ((ij.out.trans b3).mono dt.out.size);have B2:=AB (AB du.out dt.out) ij.out;have N3:=s3 _ _ B2;cases bb
 focus
  obtain rfl:=js rfl
  obtain rfl:=HT.out rfl;have b4:=AI w3 (.cells #[.slice ma mn mc,.slice ia iN ic,.slice ea en ec,.slice ka kn kc,.slice sa sn sc,.slice la ln lc,.slice pa pn pc,.int .i64 Q.zR,.int .i64 Q.zU] 32);have B4:=AB N3 b4;have iB:=hX.trans (b4.mono hX.size);obtain⟨x0,z,x2,x3,x4,x5,x6,x7,x8⟩:=AD (AB ad.out iB);have dd:=AA (cz.out.trans (iB.mono cz.out.size));have lP:=AA (CO.out _ iB);have gb:=AA B4;clear hy js b3 s3 hX B2 N3 b4 iB CT B4;go_wp2_with fail;refine lP.out.mono ?_;rintro r w5 ⟨m5,i5,e5,c5,s5,l5,q5,rfl,O5,b5⟩;unfold AN;clear x0 z x2 x3 x4 x5 x6 x7 x8 lP;generalize w3.alloc _=W4 at*;obtain⟨⟨⟨_,_,_,rfl⟩,⟨_,_,_,rfl⟩,⟨_,_,_,rfl⟩,⟨_,_,_,rfl⟩⟩,⟨_,_,_,rfl⟩,⟨_,_,_,rfl⟩,⟨_,_,_,rfl⟩⟩:=O5.zQ;have N5:=AB gb.out b5;have S5:=Cp N5 O5;obtain⟨a0,a1,a2,a3,a4,a5,a6,a7,a8⟩:=AD N5;have f5:=AK N5;have gz:=AA S5;have km:=AA b5;have lG:=AA (AW gb.out)
 rotate_left
 focus
  obtain⟨m3,i3,e3,c3,oL,l3,q3,rfl,O3⟩:=hy rfl
  obtain⟨⟨⟨i7,iY,cw,rfl⟩,⟨jk,jm,ji,rfl⟩,⟨jV,jR,jT,rfl⟩,⟨jg,jb,je,rfl⟩⟩,⟨lZ,lU,lW,rfl⟩,⟨mw,mt,mu,rfl⟩,⟨mg,me,mf,rfl⟩⟩:=O3.zQ;have b5:=AI w3 (.cells #[.slice i7 iY cw,.slice jk jm ji,.slice jV jR jT,.slice jg jb je,.slice lZ lU lW,.slice mw mt mu,.slice mg me mf,.int .i64 Q.zR,.int .i64 Q.zU] 32);have O5:=(O3.below b5).lower (lo':=w.heap.size) (yB cz.out.size dt.out.size);have dd:=AA (cz.out.trans (hX.mono cz.out.size));have lK:=AA N3;clear hy js b3 s3 hX B2 CT O3 N3;have N5:=AB lK.out b5;have S5:=Cp N5 O5;obtain⟨a0,a1,a2,a3,a4,a5,a6,a7,a8⟩:=AD N5;have f5:=AK N5;have gz:=AA S5;have km:=AA b5;have lG:=AA (AW lK.out)
 rotate_left
 all_goals
  clear O5 S5 N5 b5;go_wp2_with fail;clear a0 a1 a2 a3 a4 a5 a6 a7 a8 f5;obtain⟨N6,O6,dc⟩:=gz.out;have B6:=AM (dd.out.trans (km.out.mono (by have:=dd.out.size;have:=lG.out;omega))) dc (by omega) (by have:=dd.out.size;have:=km.out.size;omega);have O7:=O6.lower (lo':=w.heap.size) (by have:=dd.out.size;omega);unfold Dy at N6 O7 B6;exact yr (v:=.tuple #[.agg #[_,_,_,_,_,_,_,_,_],_]) (by simp[results,Tryz.results17,go_sem,AD N6]) rfl ⟨_,_,_,_,_,_,_,rfl,O7,B6⟩
theorem Jy.shp{w:World}{m i e c s l q:Value}{P:AR}(h:Jy w m i e c s l q P):((∃a n q,m=.slice a n q)/\(∃a n q,i=.slice a n q)/\(∃a n q,e=.slice a n q)/\∃a n q,c=.slice a n q)/\(∃a n q,s=.slice a n q)/\(∃a n q,l=.slice a n q)/\∃a n r,q=.slice a n r:=by obtain⟨⟨X,V,h3,h4⟩,h5,h6,h7⟩:=h;obtain⟨_,_,rfl,_⟩:=X.open;obtain⟨_,_,rfl,_⟩:=V.shape;obtain⟨_,_,rfl,_⟩:=h3.open;obtain⟨_,_,rfl,_⟩:=h4.shape;obtain⟨_,_,rfl,_⟩:=h5.open;obtain⟨_,_,rfl,_⟩:=h6.open;obtain⟨_,_,rfl,_⟩:=h7.shape;exact⟨⟨⟨_,_,_,rfl⟩,⟨_,_,_,rfl⟩,⟨_,_,_,rfl⟩,⟨_,_,_,rfl⟩⟩,⟨_,_,_,rfl⟩,⟨_,_,_,rfl⟩,⟨_,_,_,rfl⟩⟩
def Xa:AR:=⟨⟨[],[],[],[]⟩,[],[],[],0,0⟩
theorem L3(w:World):Jy w (.slice none 0 0) (.slice none 0 0) (.slice none 0 0) (.slice none 0 0) (.slice none 0 0) (.slice none 0 0) (.slice none 0 0) Xa:=
 ⟨⟨⟨[],AQ.rd (MG GO 0 29 1 w),Fq.nil⟩,AQ.rd (MG A3 0 92 3 w),⟨[],AQ.rd (MG Ep 0 74 2 w),Fq.nil⟩,AQ.rd (MG AU 0 112 4 w)⟩,⟨[],AQ.rd (MG GO 0 29 1 w),Fq.nil⟩,AF.rd (lo:=0) (World.ownsRow_nil _ _ _ _),AQ.rd (MG DG 0 43 3 w)⟩
def OY(P:AR)(n:Int):AR×Bool:=if(BI P&&BZ n 0 15)=true then BN P n.toNat else(Xa,false)
def ap(w:World)(t:AR×Bool)(r:Ending)(w':World):Prop:=∃m i e c s l q,r=.returned (.tuple #[AN m i e c s l q t.1.zR t.1.zU,.bool t.2])/\Jy w' m i e c s l q t.1/\Below w.heap.size w w'
theorem cG(mv iv ev cv sv lv qv:Value)(P:AR)(n:Int)(w:World)(h:Jy w mv iv ev cv sv lv qv P)(K:Dn P.zV):
 Calls prog 15 #[AN mv iv ev cv sv lv qv P.zR P.zU,.int .i64 n] w (ap w (OY P n)):=by
 unfold OY;cases R:(BI P&&BZ n 0 15)
 .exact(KI _ _ _ _ _ _ _ P n w h K R).mono λ_ w' ⟨X,V⟩=>⟨_,_,_,_,_,_,_,X,L3 w',V⟩
 .obtain⟨X,V⟩:=wV.1 R
  obtain⟨h3,h4⟩:=AZ.1 V;obtain⟨a,rfl⟩:=xQ h3;exact(Ji _ _ _ _ _ _ _ P w h (Ca.1 X) (n:=a) (by omega)).mono λ_ _ ⟨m,i,e,c,s,l,q,X,V,h3⟩=>⟨m,i,e,c,s,l,q,X,V.rd,h3⟩
def PP(w:World)(t:AR×Int×Bool)(r:Ending)(w':World):Prop:=∃m i e c s l q,r=.returned (.tuple #[AN m i e c s l q t.1.zR t.1.zU,.int .i64 t.2.1,.bool t.2.2])/\FQ w.heap.size w' m i e c s l q t.1/\Below w.heap.size w w'
def Vn(r:Ending):Prop:=r=.returned (.tuple #[AN (.slice none 0 0) (.slice none 0 0) (.slice none 0 0) (.slice none 0 0) (.slice none 0 0) (.slice none 0 0) (.slice none 0 0) 0 0,.int .i64 0,.bool false])
def Uf(w:World)(t:AR×Int)(r:Ending)(w':World):Prop:=∃m i e c s l q,r=.returned (.tuple #[AN m i e c s l q t.1.zR t.1.zU,.int .i64 t.2])/\FQ w.heap.size w' m i e c s l q t.1/\Below w.heap.size w w'
theorem VI{p:AR}{a:Nat}{Q:AR}(h:BN p (a/4)=(Q,true)):IN p a=({Q with zV:=(Ae Q.zV (Ag 10 (a:Int) 0 0)).1},(Ae Q.zV (Ag 10 (a:Int) 0 0)).2.1,true):=by unfold IN;rw[h];rfl
theorem TF{p:AR}{a:Nat}{x:Int}{Q:AR}(h:BN p (a/4)=(Q,true)):GR p a x=({Q with zV:=(Ae Q.zV (Ag 11 (a:Int) x 0)).1},true):=by unfold GR;rw[h];rfl
theorem Lp(mv iv ev cv sv lv qv:Value)(P:AR)(w:World)(h:Jy w mv iv ev cv sv lv qv P)(hP:Du P){a:Nat}(ha:a<64):
 Calls prog 12 #[AN mv iv ev cv sv lv qv P.zR P.zU,.int .i64 a] w (PP w (IN P a)):=by
 obtain⟨j,hj⟩:∃j,j=a/4:=⟨_,rfl⟩
 have q1:(a:Int)/4=(j:Int):=by omega
 have hA:BZ (a:Int) 0 63=true:=AZ.2 (by omega);have ed:=Kf (p:=P) (n:=a/4) hP (by omega);have ee:=NP hP ha;have av:=λQ=>VI (p:=P) (a:=a) (Q:=Q)
 have eP:j<16:=by omega
 have fp:=λ(h:(BN P j).2=false)=>Fn hP eP h
 have cF:=λW (hR:Jy W mv iv ev cv sv lv qv P)=>LF mv iv ev cv sv lv qv P W hR hP eP
 rw[<-hj] at ed ee av;generalize BN P j=t at ed ee av cF fp;generalize IN P a=tt at ee av ⊢;obtain⟨Q,bb⟩:=t;dsimp only at ed ee av cF fp;have HC:=λm i e c W (hR:Mu W m i e c Q.zV)=>Fd hR ed.k 10 (a:Int) 0 0 (by decide)
 have av:=av Q;generalize Ae Q.zV (Ag 10 (a:Int) 0 0)=res at HC av;obtain⟨kr,vr,nr⟩:=res;unfold Kk at HC;dsimp only at HC av;have HC:=AA HC;unfold Fx AN at cF;have cF:=AA cF;unfold AN PP AN;obtain⟨N0,N1,bn,bx⟩:=Jz w (.cells #[mv,iv,ev,cv,sv,lv,qv,.int .i64 P.zR,.int .i64 P.zU] 32) (.cells #[.slice none 0 0,.slice none 0 0,.slice none 0 0,.slice none 0 0,.slice none 0 0,.slice none 0 0,.slice none 0 0,.int .i64 0,.int .i64 0] 32);have h0:=h.below bn;have de:BI P=true:=Ca.2 hP;obtain⟨x0,z,x2,x3,x4,x5,x6,x7,x8⟩:=AD N0;have hZ:=AA bx;clear bx;go_in;go_wp2_with fail;generalize(w.alloc _).alloc _=W0 at*;have CV:=Ey mv iv ev cv sv lv qv P W0 h0 (CQ hP.k);rw[de] at CV;have cP:=AA h0;have f6:=AA fp;unfold AN at CV;have ob:=AA ed;have f9:=AA ee;have dO:=AA av;have cz:=AA bn;have ad:=AA N0;have du:=AA N1;clear h h0 bn N0 N1 hP de x0 z x2 x3 x4 x5 x6 x7 x8 ed ee av hj fp;refine CV.mono ?_;rintro r w1 ⟨rfl,b1⟩;obtain⟨x0,z,x2,x3,x4,x5,x6,x7,x8⟩:=AD (AB ad.out b1);have dt:=AA b1;clear b1 CV;go_wp2_with fail;refine(Gf _ _).mono ?_;rintro r w2 ⟨rfl,rfl⟩;rw[hA];go_wp2_with fail;refine(cF.out w1 (cP.out.below dt.out)).mono ?_;rintro r w2 ⟨m2,i2,e2,c2,s2,l2,q2,rfl,O2,b2⟩;obtain⟨⟨⟨ma,mn,mc,rfl⟩,⟨ia,iN,ic,rfl⟩,⟨ea,en,ec,rfl⟩,⟨qa,qn,qc,rfl⟩⟩,⟨sa,sn,sc,rfl⟩,⟨la,ln,lc,rfl⟩,⟨pa,pn,pc,rfl⟩⟩:=O2.zQ;have bA:=AI w2 (.cells #[.slice ma mn mc,.slice ia iN ic,.slice ea en ec,.slice qa qn qc,.slice sa sn sc,.slice la ln lc,.slice pa pn pc,.int .i64 Q.zR,.int .i64 Q.zU] 32);have I3:=Gi.start O2 b2.size;have cp:=dt.out.trans ((b2.trans (bA.mono b2.size)).mono dt.out.size);have cT:=AA I3;have N3:=AA (AB du.out cp);have dd:=AA (cz.out.trans (cp.mono cz.out.size));have dN:=AA (yB cz.out.size dt.out.size);have e7:=AA (yB b2.size bA.size);clear O2 bA I3 cp b2 x0 z x2 x3 x4 x5 x6 x7 x8 cF cP;cases bb
 focus
  have e:=f9.out rfl
  obtain rfl:=f6.out rfl;subst e;clear f9 dO f6 HC;have S5:=Cp N3.out (cT.out.own.lower dN.out);obtain⟨c0,c1,c2,c3,c4,c5,c6,c7,c8⟩:=cT.out.cells;obtain⟨a0,a1,a2,a3,a4,a5,a6,a7,a8⟩:=AD N3.out;have f5:=AK N3.out;have gz:=AA S5;clear S5;go_wp2_with fail;obtain⟨N6,O6,dc⟩:=gz.out;have B6:=AM dd.out dc (by omega) dd.out.size
 rotate_left
 focus
  have e:=dO.out rfl
  subst e;have C3:=AA (HC.out _ _ _ _ _ cT.out.own.ker.rd);obtain⟨c0,c1,c2,c3,c4,c5,c6,c7,c8⟩:=cT.out.cells;clear dO f9 f6 HC;go_wp2_with fail;generalize hg3:w2.heap.size=g3 at*;generalize w2.alloc _=W3 at*;refine C3.out.mono ?_;rintro r w4 ⟨m4,i4,e4,j1,rfl,O4,b4⟩;obtain⟨⟨el,ej,bk,rfl⟩,⟨ew,ex,eu,rfl⟩,⟨eG,eE,eF,rfl⟩,⟨er,eo,ep,rfl⟩⟩:=O4.zQ;have bA:=AI w4 (.cells #[.slice el ej bk,.slice ew ex eu,.slice eG eE eF,.slice er eo ep] 28);have dg:=b4.trans (bA.mono b4.size);have I4:=cT.out.below dg;have I5:=cT.out.put dg (yv _) e7.out (O4.below bA);have G5:=Ao (w4.alloc (.cells #[.slice el ej bk,.slice ew ex eu,.slice eG eE eF,.slice er eo ep] 28)) g3 (.slice el ej bk) (.slice ew ex eu) (.slice eG eE eF) (.slice er eo ep);have N4:=AB N3.out dg;have ng:g3≠w.heap.size+1:=λe=>by have X:=cT.out.yJ;have V:=AW du.out;have h3:=dt.out.size;omega
  have N5:=Ap N4 G5 ng;have B5:=AM (dd.out.trans (dg.mono dd.out.size)) G5 (yB dN.out cT.out.yJ) (yB dd.out.size dg.size);obtain⟨d0,d1,d2,d3,_⟩:=I4.cells;have fd:=AK I4.yK;generalize hW5:((((w4.alloc _).setCell _ _).setCell _ _).setCell _ _).setCell _ _=W5 at I5 G5 N5 B5;have S6:=Cp N5 (I5.own.lower dN.out);obtain⟨y0,y1,y2,y3,y4,y5,y6,y7,y8⟩:=I5.cells;obtain⟨a0,a1,a2,a3,a4,a5,a6,a7,a8⟩:=AD N5;have f5:=AK N5;have il:=AA S6;have dP:=AA B5;clear S6 b4 bA dg O4 I4 I5 G5 N4 N5 B5 C3 c0 c1 c2 c3 c4 c5 c6 c7 c8;go_wp2_with fail;obtain⟨N6,O6,dc⟩:=il.out;have B6:=AM dP.out dc (by omega) dP.out.size
 rotate_left
 all_goals
  unfold Dy at N6 O6 B6;exact yr (v:=.tuple #[.agg #[_,_,_,_,_,_,_,_,_],_,_]) (by simp[results,Tryz.results12,go_sem,AD N6]) rfl ⟨_,_,_,_,_,_,_,rfl,O6,B6⟩
theorem JK(mv iv ev cv sv lv qv:Value)(P:AR)(w:World)(h:Jy w mv iv ev cv sv lv qv P)(hP:Du P){a:Nat}(ha:a<64){x:Int}(hx:Dk x=true):
 Calls prog 25 #[AN mv iv ev cv sv lv qv P.zR P.zU,.int .i64 a,.int .i64 x] w (Fx w (GR P a x)):=by
 obtain⟨j,hj⟩:∃j,j=a/4:=⟨_,rfl⟩
 have q1:(a:Int)/4=(j:Int):=by omega
 have hA:BZ (a:Int) 0 63=true:=AZ.2 (by omega);have ed:=Kf (p:=P) (n:=a/4) hP (by omega);have ee:=Lu (w:=x) hP ha;have av:=λQ=>TF (p:=P) (a:=a) (x:=x) (Q:=Q)
 have eP:j<16:=by omega
 have fp:=λ(h:(BN P j).2=false)=>Fn hP eP h
 have cF:=λW (hR:Jy W mv iv ev cv sv lv qv P)=>LF mv iv ev cv sv lv qv P W hR hP eP
 rw[<-hj] at ed ee av;generalize BN P j=t at ed ee av cF fp;generalize GR P a x=tt at ee av ⊢;obtain⟨Q,bb⟩:=t;dsimp only at ed ee av cF fp;have HC:=λm i e c W (hR:Mu W m i e c Q.zV)=>Fd hR ed.k 11 (a:Int) x 0 (by decide)
 have av:=av Q;generalize Ae Q.zV (Ag 11 (a:Int) x 0)=res at HC av;obtain⟨kr,vr,nr⟩:=res;unfold Kk at HC;dsimp only at HC av;have HC:=AA HC;unfold Fx AN at cF;have cF:=AA cF;unfold AN Fx AN;obtain⟨N0,N1,bn,bx⟩:=Jz w (.cells #[mv,iv,ev,cv,sv,lv,qv,.int .i64 P.zR,.int .i64 P.zU] 32) (.cells #[.slice none 0 0,.slice none 0 0,.slice none 0 0,.slice none 0 0,.slice none 0 0,.slice none 0 0,.slice none 0 0,.int .i64 0,.int .i64 0] 32);have h0:=h.below bn;have de:BI P=true:=Ca.2 hP;obtain⟨x0,z,x2,x3,x4,x5,x6,x7,x8⟩:=AD N0;have hZ:=AA bx;clear bx;go_in;go_wp2_with fail;generalize(w.alloc _).alloc _=W0 at*;have CV:=Ey mv iv ev cv sv lv qv P W0 h0 (CQ hP.k);rw[de] at CV;have cP:=AA h0;have f6:=AA fp;unfold AN at CV;have ob:=AA ed;have f9:=AA ee;have dO:=AA av;have cz:=AA bn;have ad:=AA N0;have du:=AA N1;clear h h0 bn N0 N1 hP de x0 z x2 x3 x4 x5 x6 x7 x8 ed ee av hj fp;refine CV.mono ?_;rintro r w1 ⟨rfl,b1⟩;obtain⟨x0,z,x2,x3,x4,x5,x6,x7,x8⟩:=AD (AB ad.out b1);have dt:=AA b1;clear b1 CV;go_wp2_with fail;refine(Gf _ _).mono ?_;rintro r w2 ⟨rfl,rfl⟩;rw[hA];go_wp2_with fail;refine(C8 _ _ _ _).mono ?_;rintro r w2 ⟨rfl,rfl⟩;rw[show BZ x 0 9999=true from hx];go_wp2_with fail;refine(cF.out w1 (cP.out.below dt.out)).mono ?_;rintro r w2 ⟨m2,i2,e2,c2,s2,l2,q2,rfl,O2,b2⟩;obtain⟨⟨⟨ma,mn,mc,rfl⟩,⟨ia,iN,ic,rfl⟩,⟨ea,en,ec,rfl⟩,⟨qa,qn,qc,rfl⟩⟩,⟨sa,sn,sc,rfl⟩,⟨la,ln,lc,rfl⟩,⟨pa,pn,pc,rfl⟩⟩:=O2.zQ;have bA:=AI w2 (.cells #[.slice ma mn mc,.slice ia iN ic,.slice ea en ec,.slice qa qn qc,.slice sa sn sc,.slice la ln lc,.slice pa pn pc,.int .i64 Q.zR,.int .i64 Q.zU] 32);have I3:=Gi.start O2 b2.size;have cp:=dt.out.trans ((b2.trans (bA.mono b2.size)).mono dt.out.size);have cT:=AA I3;have N3:=AA (AB du.out cp);have dd:=AA (cz.out.trans (cp.mono cz.out.size));have dN:=AA (yB cz.out.size dt.out.size);have e7:=AA (yB b2.size bA.size);clear O2 bA I3 cp b2 x0 z x2 x3 x4 x5 x6 x7 x8 cF cP;cases bb
 focus
  have e:=f9.out rfl
  obtain rfl:=f6.out rfl;subst e;clear f9 dO f6 HC;have S5:=Cp N3.out (cT.out.own.lower dN.out);obtain⟨c0,c1,c2,c3,c4,c5,c6,c7,c8⟩:=cT.out.cells;obtain⟨a0,a1,a2,a3,a4,a5,a6,a7,a8⟩:=AD N3.out;have f5:=AK N3.out;have gz:=AA S5;clear S5;go_wp2_with fail;obtain⟨N6,O6,dc⟩:=gz.out;have B6:=AM dd.out dc (by omega) dd.out.size
 rotate_left
 focus
  have e:=dO.out rfl
  subst e;have C3:=AA (HC.out _ _ _ _ _ cT.out.own.ker.rd);obtain⟨c0,c1,c2,c3,c4,c5,c6,c7,c8⟩:=cT.out.cells;clear dO f9 f6 HC;go_wp2_with fail;generalize hg3:w2.heap.size=g3 at*;generalize w2.alloc _=W3 at*;refine C3.out.mono ?_;rintro r w4 ⟨m4,i4,e4,j1,rfl,O4,b4⟩;obtain⟨⟨el,ej,bk,rfl⟩,⟨ew,ex,eu,rfl⟩,⟨eG,eE,eF,rfl⟩,⟨er,eo,ep,rfl⟩⟩:=O4.zQ;have bA:=AI w4 (.cells #[.slice el ej bk,.slice ew ex eu,.slice eG eE eF,.slice er eo ep] 28);have dg:=b4.trans (bA.mono b4.size);have I4:=cT.out.below dg;have I5:=cT.out.put dg (yv _) e7.out (O4.below bA);have G5:=Ao (w4.alloc (.cells #[.slice el ej bk,.slice ew ex eu,.slice eG eE eF,.slice er eo ep] 28)) g3 (.slice el ej bk) (.slice ew ex eu) (.slice eG eE eF) (.slice er eo ep);have N4:=AB N3.out dg;have ng:g3≠w.heap.size+1:=λe=>by have X:=cT.out.yJ;have V:=AW du.out;have h3:=dt.out.size;omega
  have N5:=Ap N4 G5 ng;have B5:=AM (dd.out.trans (dg.mono dd.out.size)) G5 (yB dN.out cT.out.yJ) (yB dd.out.size dg.size);obtain⟨d0,d1,d2,d3,_⟩:=I4.cells;have fd:=AK I4.yK;generalize hW5:((((w4.alloc _).setCell _ _).setCell _ _).setCell _ _).setCell _ _=W5 at I5 G5 N5 B5;have S6:=Cp N5 (I5.own.lower dN.out);obtain⟨y0,y1,y2,y3,y4,y5,y6,y7,y8⟩:=I5.cells;obtain⟨a0,a1,a2,a3,a4,a5,a6,a7,a8⟩:=AD N5;have f5:=AK N5;have il:=AA S6;have dP:=AA B5;clear S6 b4 bA dg O4 I4 I5 G5 N4 N5 B5 C3 c0 c1 c2 c3 c4 c5 c6 c7 c8;go_wp2_with fail;obtain⟨N6,O6,dc⟩:=il.out;have B6:=AM dP.out dc (by omega) dP.out.size
 rotate_left
 all_goals
  unfold Dy at N6 O6 B6;exact yr (v:=.tuple #[.agg #[_,_,_,_,_,_,_,_,_],_]) (by simp[results,Tryz.results25,go_sem,AD N6]) rfl ⟨_,_,_,_,_,_,_,rfl,O6,B6⟩
def Dr(Y:World)(g N:Nat)(w:World):Prop:=Ex Y w (.pointer (some ⟨g,0,none⟩)) N/\Below Y.heap.size Y w/\Y.heap.size<=g/\g<w.heap.size
theorem Dr.of{Y w:World}{hb:Value}{N:Nat}(h:Ex Y w hb N)(R:Below Y.heap.size Y w):∃g,hb=.pointer (some ⟨g,0,none⟩)/\Dr Y g N w:=by obtain⟨g,j2,bs,p,rfl,hg,fm,hr⟩:=h;exact⟨g,rfl,⟨g,j2,bs,p,rfl,hg,fm,hr⟩,R,hg,(Array.getElem?_eq_some_iff.1 fm).1⟩
theorem Dr.keep{Y w w':World}{g N:Nat}{row:Option Nat}(h:Dr Y g N w)(hg:w.grownBy w' row)(X:row≠some g)(V:∀k,row=some k->Y.heap.size<=k):Dr Y g N w':=by
 obtain⟨⟨g',j2,bs,p,hR,nc,fm,hr⟩,R,ay,ac⟩:=h;obtain rfl:g=g':=by simpa using hR
 exact⟨⟨g,j2,bs,p,rfl,nc,(hg.block g ac (λe=>X e.symm)).trans fm,hr⟩,R.grown hg R.size V,ay,xW ac hg.size⟩
theorem Dr.below{Y w w':World}{g N:Nat}(h:Dr Y g N w)(R:Below w.heap.size w w'):Dr Y g N w':=h.keep (AY R none) (by simp) (λk L=>by cases L)
theorem Dr.alloc{Y w:World}{g N:Nat}(h:Dr Y g N w)(o:Obj):Dr Y g N (w.alloc o):=h.below (AI _ _)
theorem Dr.mono{Y w:World}{g N M:Nat}(h:Dr Y g N w)(hm:N<=M):Dr Y g M w:=⟨h.1.mono hm,h.2⟩
theorem Dr.set{Y w:World}{g N b:Nat}(h:Dr Y g N w)(dv:b≠g)(R:Y.heap.size<=b):Dr Y g N (w.setCell ⟨b,j,none⟩ u):=
 h.keep (Aq w b j u) (by simpa using dv) (λk L=>by cases L;exact R)
theorem Dr.lt{Y w:World}{g N:Nat}(h:Dr Y g N w):g<w.heap.size:=h.2.2.2
theorem Dr.pick{Y w:World}{g N:Nat}(n:Int)(h:Dr Y g N w)(hN:N<=1000000:=by omega)(hn:n<=1000000:=by decide):
 Calls prog 48 #[.pointer (some ⟨g,0,none⟩),.int .i64 n] w λe w'=>∃x:Int,e=.returned (.int .i64 x)/\0<=x/\(0<n->x<n)/\Dr Y g (N+1) w'/\w.grownBy w' (some g):=
 (Zf Y _ N n w h.1 h.2.1 hN hn).mono λ_ _ hp=>by
  obtain⟨x,rfl,⟨dy,fh,fP⟩,hr,fo,g1,nb,az⟩:=hp;obtain rfl:g=g1:=by simpa using nb
  exact⟨x,rfl,dy,fh,⟨hr,fo,h.2.2.1,xW h.2.2.2 az.size⟩,az⟩
theorem HJ{Y w:World}{row:Option Nat}(h:Y.grownBy w row)(o:Obj):Y.grownBy (w.alloc o) row:=AP h (AY (AI _ _) row)
theorem Ci{Y w:World}{row:Option Nat}(h:Y.grownBy w row){b j:Nat}(R:Y.heap.size<=b)(u:Value):Y.grownBy (w.setCell ⟨b,j,none⟩ u) row:=
 ⟨h.os,h.tape,h.output,by simpa using h.size,λk L dv=>(tV w ⟨b,j,none⟩ k u (by intro e;simp at e;omega)).trans (h.block k L dv)⟩
def GE(Y:World)(g N:Nat)(w:World)(P:Value->Prop)(e:Ending)(w':World):Prop:=∃v,e=.returned v/\P v/\Dr Y g N w'/\w.grownBy w' (some g)
theorem OO{Y w:World}{g N:Nat}(b n:Nat)(ss:List ByteArray)(h:Dr Y g N w)(hN:N<=1000000)(hn:ss.length=n)(h0:0<n)(X:n<=1000)(dv:b≠g)(R:b<w.heap.size)(hc:∀k,k<n->w.cell? ⟨b,k,none⟩=some (.string (Di ss k))):
 Calls prog 191 #[.pointer (some ⟨g,0,none⟩),.slice (some ⟨b,0,none⟩) n n] w (GE Y g (N+1) w λv=>∃s,s∈ss/\v=.string s):=by
 have Hc:=AA hc;clear hc;have Hn:=AA hn;clear hn;go_in;go_wp2_with fail;refine(h.pick _ hN (by omega)).mono ?_;rintro e w1 ⟨x,rfl,gt,dy,h',az⟩;have dy:=dy (by omega);obtain⟨x,rfl⟩:=xQ gt;have HL:w1.cell? ⟨b,x,none⟩=some (.string (Di ss x)):=(vX (az.block b R (by simpa using dv))).trans (Hc.out x (by omega));have fh:x<n:=by omega
 go_wp2_with fail;go_ret;exact⟨_,rfl,⟨Di ss x,yh (If (by rw[Hn.out];exact fh)),rfl⟩,h',az⟩
theorem X6(f:Int)(b:Bool)(w:World)(h0:0<=f)(X:f<=1000):
 Calls prog 81 #[.int .i64 f,.bool b] w λe w'=>e=.returned (.int .i64 (if b then 4*f+3 else 4*f+1))/\w=w':=by
 cases b<;>(go_in;go_wp2_with fail;go_ret;exact⟨rfl,rfl⟩)
theorem DO{w w1:World}{g:Nat}{vs:Array Value}{t:Nat}(az:(w.alloc (.cells vs t)).grownBy w1 (some g))(ac:g<w.heap.size)(hj:vs[j]?=some u):w1.cell? ⟨w.heap.size,j,none⟩=some u:=by refine(vX (az.block w.heap.size (by simp) (by simp;omega))).trans ?_;rw[tp];exact hj
theorem Lh{Y w:World}{g N:Nat}(h:Dr Y g N w)(hN:N<=900000):
 Calls prog 60 #[.pointer (some ⟨g,0,none⟩)] w (GE Y g (N+2) w λv=>∃x:Int,v=.int .i64 x):=by
 go_in;go_wp2_with fail;refine(h.pick _).mono ?_;rintro e w1 ⟨x,rfl,gt,dy,X,g1⟩
 by_cases hx:x=0
 .subst hx
  go_wp2_with fail;refine((X.alloc _).pick _).mono ?_;rintro e w2 ⟨y,rfl,ey,cx,V,g2⟩;have cx:=cx (by decide);have c0:=DO (j:=0) g2 X.lt rfl;have c1:=DO (j:=1) g2 X.lt rfl;have c2:=DO (j:=2) g2 X.lt rfl;have G:=AA (AP g1 (AP (AY (AI _ _) _) g2));clear g1 g2
  rcases(show y=0∨y=1∨y=2 by omega) with rfl|rfl|rfl
  all_goals
   go_wp2_with fail;go_ret;exact⟨_,rfl,⟨_,rfl⟩,V,G.out⟩
 .have t0:(x==0)=false:=by simp[hx]
  clear hx;go_wp2_with (refine(X.pick _).mono ?_;rintro e w2 ⟨y,rfl,ey,cx,V,g2⟩;have G:=AA (AP g1 g2);clear g1 g2);go_ret;exact⟨_,rfl,⟨_,rfl⟩,V,G.out⟩
theorem NL{Y w:World}{g N:Nat}(h:Dr Y g N w)(hN:N<=900000):
 Calls prog 142 #[.pointer (some ⟨g,0,none⟩)] w (GE Y g (N+3) w λv=>∃x:Int,v=.int .i64 x/\ -1<=x/\x<=9999):=by
 go_in;go_wp2_with fail;refine(h.pick _).mono ?_;rintro e w1 ⟨x,rfl,gt,dy,X,g1⟩;have dy:=dy (by decide)
 by_cases hx:x=0
 .subst hx
  go_wp2_with fail;go_ret;exact⟨_,rfl,⟨0,rfl,by decide,by decide⟩,X.mono (by omega),g1⟩
 by_cases iw:x=1
 .subst iw
  go_wp2_with fail;go_ret;exact⟨_,rfl,⟨0,rfl,by decide,by decide⟩,X.mono (by omega),g1⟩
 by_cases fh:x=2
 .subst fh
  clear hx iw;go_wp2_with fail;refine((X.alloc _).pick _).mono ?_;rintro e w2 ⟨y,rfl,ey,cx,V,g2⟩;have cx:=cx (by decide);have c0:=DO (j:=0) g2 X.lt rfl;have c1:=DO (j:=1) g2 X.lt rfl;have c2:=DO (j:=2) g2 X.lt rfl;have c3:=DO (j:=3) g2 X.lt rfl;have c4:=DO (j:=4) g2 X.lt rfl;have c5:=DO (j:=5) g2 X.lt rfl;have c6:=DO (j:=6) g2 X.lt rfl;have G:=AA (AP g1 (AP (AY (AI _ _) _) g2));clear g1 g2
  rcases(show y=0∨y=1∨y=2∨y=3∨y=4∨y=5∨y=6 by omega) with rfl|rfl|rfl|rfl|rfl|rfl|rfl
  all_goals
   go_wp2_with fail;go_ret;exact⟨_,rfl,⟨_,rfl,by decide,by decide⟩,V.mono (by omega),G.out⟩
 .have t0:(x==0)=false:=by simp[hx]
  have t1:(x==1)=false:=by simp[iw]
  have t2:(x==2)=false:=by simp[fh]
  clear hx iw fh;go_wp2_with fail;refine(X.pick _).mono ?_;rintro e w2 ⟨y,rfl,ey,cx,V,g2⟩;have cx:=cx (by decide);go_wp2_with (refine(V.pick _).mono ?_;rintro e w3 ⟨x1,rfl,pf,dj,h3,g3⟩;have dj:=dj (by decide);have G:=AA (AP (AP g1 g2) g3);clear g1 g2 g3);go_ret;exact⟨_,rfl,⟨_,rfl,by omega,by omega⟩,h3.mono (by omega),G.out⟩
theorem KV(w:World)(ss:List ByteArray)(t:TypeId){k:Nat}(L:k<ss.length):(w.alloc (.cells (ss.map Value.string).toArray t)).cell? ⟨w.heap.size,k,none⟩=some (.string (Di ss k)):=by rw[tp];simp only[List.getElem?_toArray,xm];rw[If L];rfl
theorem JU{Y w:World}{g N:Nat}(h:Dr Y g N w)(hN:N<=900000):
 Calls prog 192 #[.pointer (some ⟨g,0,none⟩)] w (GE Y g (N+2) w λv=>∃s,s.size<=8/\v=.string s):=by
 go_in;go_wp2_with fail;refine(h.pick _).mono ?_;rintro e w1 ⟨x,rfl,gt,dy,X,g1⟩
 by_cases hx:x=0
 .subst hx
  go_wp2_with fail;refine(OO w1.heap.size 4 [⟨#[100]⟩,⟨#[65]⟩,⟨#[97,98,99,97,98]⟩,⟨#[97,32,98]⟩] (X.alloc _) (by omega) rfl (by decide) (by decide) (by have:=X.lt;omega) (by simp) (λk L=>KV w1 [⟨#[100]⟩,⟨#[65]⟩,⟨#[97,98,99,97,98]⟩,⟨#[97,32,98]⟩] _ L)).mono ?_;rintro e w2 ⟨v,rfl,⟨s,K,rfl⟩,V,g2⟩;have G:=AA (AP g1 (AP (AY (AI _ _) _) g2));have hl:s.size<=8:=by
   simp only[xD,wD,or_false] at K
   rcases K with rfl|rfl|rfl|rfl<;>decide
  clear g1 g2 K;go_wp2_with fail;go_ret;exact⟨_,rfl,⟨s,hl,rfl⟩,V,G.out⟩
 .have t0:(x==0)=false:=by simp[hx]
  clear hx;go_wp2_with fail;refine(OO w1.heap.size 12 [⟨#[]⟩,⟨#[97]⟩,⟨#[98]⟩,⟨#[99]⟩,⟨#[97,98]⟩,⟨#[97,97]⟩,⟨#[97,98,99]⟩,⟨#[98,97]⟩,⟨#[98]⟩,⟨#[97]⟩,⟨#[97,98,99,97]⟩,⟨#[97,99]⟩] (X.alloc _) (by omega) rfl (by decide) (by decide) (by have:=X.lt;omega) (by simp) (λk L=>KV w1 [⟨#[]⟩,⟨#[97]⟩,⟨#[98]⟩,⟨#[99]⟩,⟨#[97,98]⟩,⟨#[97,97]⟩,⟨#[97,98,99]⟩,⟨#[98,97]⟩,⟨#[98]⟩,⟨#[97]⟩,⟨#[97,98,99,97]⟩,⟨#[97,99]⟩] _ L)).mono ?_;rintro e w2 ⟨v,rfl,⟨s,K,rfl⟩,V,g2⟩;have G:=AA (AP g1 (AP (AY (AI _ _) _) g2));have hl:s.size<=8:=by
   simp only[xD,wD,or_false] at K
   rcases K with rfl|rfl|rfl|rfl|rfl|rfl|rfl|rfl|rfl|rfl|rfl|rfl<;>decide
  clear g1 g2 K;go_wp2_with fail;go_ret;exact⟨_,rfl,⟨s,hl,rfl⟩,V,G.out⟩
theorem TM.info{w:World}{a:Option Addr}{xs:List AV}(h:TM 3 A3 w a xs){k:Nat}{x:AV}(L:xs[k]?=some x):∃b dS,a=some ⟨b,dS,none⟩/\b<w.heap.size/\w.cell? ⟨b,dS+k*3,none⟩=some (.int .i64 x.k)/\w.cell? ⟨b,dS+k*3+1,none⟩=some (.string x.g)/\w.cell? ⟨b,dS+k*3+2,none⟩=some (.int .i64 x.r):=by obtain⟨b,dS,rfl,ac,hc⟩:=h k x L;exact⟨b,dS,rfl,ac,hc 0 _ rfl,hc 1 _ rfl,hc 2 _ rfl⟩
def aA(xs:List Int):Prop:=∀x∈xs,0<=x/\x<12
theorem Oq{Y w:World}{g N:Nat}(m i e c:Value)(xs:List AV)(kind:Int)(h:Dr Y g N w)(hN:N<=900000)(hi:Bb w i xs)(hl:xs.length<=12):
 Calls prog 230 #[.pointer (some ⟨g,0,none⟩),.agg #[m,i,e,c],.int .i64 kind] w (GE Y g (N+1) w λv=>∃x:Int,v=.int .i64 x/\0<=x/\x<12):=by
 obtain⟨a,bu,rfl,hc,nq,H0⟩:=BK.open A0 (by decide) hi;unfold maxLen at nq;clear hi;go_in;go_wp2_with fail;have fo:=AI w (.cells #[m,.slice a xs.length bu,e,c] 28);have lk:(w.alloc (.cells #[m,.slice a xs.length bu,e,c] 28)).heap[w.heap.size]?=some (.cells #[m,.slice a xs.length bu,e,c] 28 (0,0)):=yi w _;have gO:w.heap.size+1=(w.alloc (.cells #[m,.slice a xs.length bu,e,c] 28)).heap.size:=by simp
 generalize w.alloc (.cells #[m,.slice a xs.length bu,e,c] 28)=W at fo lk gO;rw[gO];go_loopw [7,8] (λo i wr=>∃k:Nat,∃ys:List Int,k<=xs.length/\ys.length<=k/\aA ys/\i=.int .i64 k/\AF W.heap.size wr o ys/\Below W.heap.size W wr) (λ_ i _=>xs.length - (intOf i).toNat)
 exact⟨0,[],yg _,yg _,λx hx=>(by cases hx),rfl,Cu _ _ _,AI _ _⟩
 obtain⟨k,ys,L,ph,kJ,rfl,dW,dq⟩:=hrel;have j8:=AA kJ;clear kJ;obtain⟨c0,c1,c2,c3⟩:=AE ((dq.block _ (by omega)).trans lk);clear c0 c2 c3
 by_cases ac:k<xs.length
 .obtain⟨x,hx⟩:∃x,xs[k]?=some x:=⟨_,yw ac⟩
  obtain⟨b,dS,rfl,ar,D0,_,_⟩:=H0.info hx;have HL:wr.cell? ⟨b,dS+k*3,none⟩=some (.int .i64 x.k):=((fo.trans (dq.mono fo.size)).cell (p:=⟨b,dS+k*3,none⟩) ar).trans D0;clear D0 hx
  by_cases dT:x.k=kind
  .have t0:(x.k==kind)=true:=by simp[dT]
   clear dT;have ay:=dq.size;go_wp2_with (at_builtin;go_must (refine Bg (lo:=W.heap.size) (n:=ys.length) (xs:=ys.map (xY .i64)) (m:=1) (news:=[.int .i64 k]) rfl rfl 3 (.int .i64 0) 1 8 underlying29 Tryz.zI rfl (by decide) rfl (Bx dW (AI _ _)) rfl (Rd.zC _ #[_] _ 1 1 _ (by simp) rfl (by simp[maxLen])) (by simp[xG]) (by unfold maxLen;omega) (by omega) (by simp;omega) ?_;intro o' w4 g1 g2 g3 g4));go_roundw
   case rel=>exact⟨k+1,ys++[(k:Int)],by omega,by simp;omega,λy hy=>by
    rcases wC.1 hy with h'|h'
    .exact j8.out y h'
    .simp at h';subst h';omega,by go_num,by simpa[AF] using g1,(dq.alloc dq.size _).trans g4⟩
   case measure=>simp[intOf];omega
  .have t0:(x.k==kind)=false:=by simp[dT]
   clear dT;go_wp2_with fail;go_roundw;exact⟨k+1,ys,by omega,by omega,j8.out,by go_num,dW,dq⟩;simp[intOf];omega
 .have hD:Dr Y g N wr:=(h.below fo).below dq
  have li:w.grownBy wr (some g):=AY (fo.trans (dq.mono fo.size)) _;have pz:g<W.heap.size:=xW h.lt fo.size
  by_cases hz:ys.length=0
  .obtain⟨_,_,rfl,_,_⟩:=(AF.rd dW).open
   have t0:((ys.length:Int)==0)=true:=by simp[hz]
   clear hz;go_wp2_with (refine(hD.pick _).mono ?_;rintro e w2 ⟨y,rfl,ey,cx,V,g2⟩;have cx:=cx (by decide));go_ret;exact⟨_,rfl,⟨_,rfl,ey,cx⟩,V,AP li g2⟩
  .obtain⟨q,cq,rfl,hq,eB⟩:=Jd dW (by omega)
   have t0:((ys.length:Int)==0)=false:=by simp[hz]
   have mU:0<ys.length:=by omega
   have np:ys.length<=cq/\cq<=maxLen:=by obtain⟨_,_,he,X,V,_⟩:=(AF.rd dW).open;simp at he;obtain⟨_,rfl⟩:=he;exact⟨X,V⟩
   obtain⟨pq,dU⟩:=np;unfold maxLen at dU;clear hz;go_wp2_with (refine(hD.pick _ (by omega) (by omega)).mono ?_;rintro e w2 ⟨y,rfl,ey,cx,V,g2⟩;have cx:=cx (by omega);obtain⟨y,rfl⟩:=xQ ey;have gP:=Aw dW g2 (.inr (by simp[vK];omega));have C:=(gP.cellAt y (by omega)).trans (Fh (xs:=ys) (by omega));have hx:=j8.out (nth ys y) (by rw[Mq (by omega)];exact List.getElem_mem _));go_ret;exact⟨_,rfl,⟨_,rfl,hx.1,hx.2⟩,V,AP li g2⟩
def LN(x:Ac):Prop:=x.nm.size<=8/\0<=x.e/\x.e<3/\x.c<=1000000
def BG(Y:World)(g N:Nat)(w:World)(m i e c:Value)(b:Nat)(wr:World):Prop:=
 ∃x:Ac,LN x/\Dr Y g N wr/\w.grownBy wr (some g)/\w.heap.size+1<b/\g<w.heap.size/\Y.heap.size<=w.heap.size/\wr.heap[b]?=some (.cells x.cs 55 (0,0))/\
  wr.heap[w.heap.size]?=some (.cells #[m,i,e,c] 28 (0,0))/\(∃y:Ac,wr.heap[w.heap.size+1]?=some (.cells y.cs 55 (0,0)))
theorem Gn{w:World}{b:Nat}{x:Ac}(h:w.heap[b]?=some (.cells x.cs 55 (0,0))):w.cell? ⟨b,0,none⟩=some (.int .i64 x.k)/\w.cell? ⟨b,1,none⟩=some (.int .i64 x.e)/\w.cell? ⟨b,2,none⟩=some (.int .i64 x.a)/\w.cell? ⟨b,3,none⟩=some (.int .i64 x.b)/\w.cell? ⟨b,4,none⟩=some (.int .i64 x.c)/\w.cell? ⟨b,5,none⟩=some (.string x.nm):=
 ⟨ym w b 0 _ _ _ h,ym w b 1 _ _ _ h,ym w b 2 _ _ _ h,ym w b 3 _ _ _ h,ym w b 4 _ _ _ h,ym w b 5 _ _ _ h⟩
section
variable {Y w wr w':World} {g N M b:Nat} {m i e c:Value}
theorem BG.kc(h:BG Y g N w m i e c b wr):wr.cell? ⟨w.heap.size,0,none⟩=some m/\wr.cell? ⟨w.heap.size,1,none⟩=some i/\wr.cell? ⟨w.heap.size,2,none⟩=some e/\wr.cell? ⟨w.heap.size,3,none⟩=some c:=by obtain⟨x,_,_,_,_,_,_,_,X,_⟩:=h;exact AE X
theorem BG.cc(h:BG Y g N w m i e c b wr):∃x:Ac,wr.cell? ⟨b,0,none⟩=some (.int .i64 x.k)/\wr.cell? ⟨b,1,none⟩=some (.int .i64 x.e)/\wr.cell? ⟨b,2,none⟩=some (.int .i64 x.a)/\wr.cell? ⟨b,3,none⟩=some (.int .i64 x.b)/\wr.cell? ⟨b,4,none⟩=some (.int .i64 x.c)/\wr.cell? ⟨b,5,none⟩=some (.string x.nm)/\(∀j,wr.frozen? ⟨b,j,none⟩=false)/\Hid (wr.heap[b]?=some (.cells x.cs 55 (0,0))):=by obtain⟨x,_,_,_,_,_,_,X,_⟩:=h;obtain⟨c0,c1,c2,c3,c4,c5⟩:=Gn X;exact⟨x,c0,c1,c2,c3,c4,c5,AK X,AA X⟩
theorem BG.dr(h:BG Y g N w m i e c b wr):Dr Y g N wr:=by obtain⟨x,_,X,_⟩:=h;exact X
theorem BG.draw(h:BG Y g N w m i e c b wr)(hd:Dr Y g M w')(hg:wr.grownBy w' (some g)):BG Y g M w m i e c b w':=by
 obtain⟨x,h0,X,V,h3,h4,h5,h6,h7,⟨y,h8⟩⟩:=h;have yL:∀{q:Nat} {o:Obj},w.heap.size<=q->wr.heap[q]?=some o->w'.heap[q]?=some o:=λ{q o} hq R=>(hg.block q (AW R) (by simp;omega)).trans R
 exact⟨x,h0,hd,AP V hg,h3,h4,h5,yL (by omega) h6,yL (yv _) h7,⟨y,yL (by omega) h8⟩⟩
theorem BG.put(h:BG Y g N w m i e c b wr)(j:Nat){v:Value}(hG:∀x:Ac,LN x->∃y:Ac,LN y/\y.cs=x.cs.setIfInBounds j v):BG Y g N w m i e c b (wr.setCell ⟨b,j,none⟩ v):=by
 obtain⟨x,h0,X,V,h3,h4,h5,h6,h7,⟨y,h8⟩⟩:=h;obtain⟨x1,z0,z1⟩:=hG x h0;have R:=yq wr b j _ _ v h6;rw[<-z1] at R;have yL:∀{q:Nat} {o:Obj},q≠b->wr.heap[q]?=some o->(wr.setCell ⟨b,j,none⟩ v).heap[q]?=some o:=λ{q o} hq R=>(tV wr ⟨b,j,none⟩ q _ (λe=>hq (by simpa using e))).trans R
 exact⟨x1,z0,X.set (by omega) (by omega),Ci V (by omega) _,h3,h4,h5,R,yL (by omega) h7,⟨y,yL (by omega) h8⟩⟩
theorem BG.set0(h:BG Y g N w m i e c b wr)(x1:Int):BG Y g N w m i e c b (wr.setCell ⟨b,0,none⟩ (.int .i64 x1)):=h.put 0 λx h=>⟨⟨x1,x.e,x.a,x.b,x.c,x.nm⟩,h,rfl⟩
theorem BG.set1(h:BG Y g N w m i e c b wr)(x1:Int)(hz:0<=x1)(mF:x1<3):BG Y g N w m i e c b (wr.setCell ⟨b,1,none⟩ (.int .i64 x1)):=h.put 1 λx h=>⟨⟨x.k,x1,x.a,x.b,x.c,x.nm⟩,⟨h.1,hz,mF,h.2.2.2⟩,rfl⟩
theorem BG.set2(h:BG Y g N w m i e c b wr)(x1:Int):BG Y g N w m i e c b (wr.setCell ⟨b,2,none⟩ (.int .i64 x1)):=h.put 2 λx h=>⟨⟨x.k,x.e,x1,x.b,x.c,x.nm⟩,h,rfl⟩
theorem BG.set3(h:BG Y g N w m i e c b wr)(x1:Int):BG Y g N w m i e c b (wr.setCell ⟨b,3,none⟩ (.int .i64 x1)):=h.put 3 λx h=>⟨⟨x.k,x.e,x.a,x1,x.c,x.nm⟩,h,rfl⟩
theorem BG.set4(h:BG Y g N w m i e c b wr)(x1:Int)(hz:x1<=1000000):BG Y g N w m i e c b (wr.setCell ⟨b,4,none⟩ (.int .i64 x1)):=h.put 4 λx h=>⟨⟨x.k,x.e,x.a,x.b,x1,x.nm⟩,⟨h.1,h.2.1,h.2.2.1,hz⟩,rfl⟩
theorem BG.setS(h:BG Y g N w m i e c b wr)(s:ByteArray)(K:s.size<=8):BG Y g N w m i e c b (wr.setCell ⟨b,5,none⟩ (.string s)):=h.put 5 λx h=>⟨⟨x.k,x.e,x.a,x.b,x.c,s⟩,⟨K,h.2⟩,rfl⟩
theorem BG.gr(h:BG Y g N w m i e c b wr):w.grownBy wr (some g):=by obtain⟨x,_,_,X,_⟩:=h;exact X
theorem BG.ne(h:BG Y g N w m i e c b wr):w.heap.size≠b/\b≠w.heap.size/\w.heap.size+1≠b/\b≠w.heap.size+1:=by obtain⟨x,_,_,_,X,_⟩:=h;omega
theorem cY{w:World}{q:Nat}{x y:Ac}(h:w.heap[q]?=some (.cells y.cs 55 (0,0))):
 ((((((w.setCell ⟨q,0,none⟩ (.int .i64 x.k)).setCell ⟨q,1,none⟩ (.int .i64 x.e)).setCell ⟨q,2,none⟩ (.int .i64 x.a)).setCell ⟨q,3,none⟩ (.int .i64 x.b)).setCell ⟨q,4,none⟩ (.int .i64 x.c)).setCell ⟨q,5,none⟩ (.string x.nm)).heap[q]?=some (.cells x.cs 55 (0,0)):=by
 have h0:=yq w q 0 _ _ (.int .i64 x.k) h;have X:=yq _ q 1 _ _ (.int .i64 x.e) h0;have V:=yq _ q 2 _ _ (.int .i64 x.a) X;have h3:=yq _ q 3 _ _ (.int .i64 x.b) V;have h4:=yq _ q 4 _ _ (.int .i64 x.c) h3;have h5:=yq _ q 5 _ _ (.string x.nm) h4;simpa[Ac.cs] using h5
theorem BG.qc(h:BG Y g N w m i e c b wr):∃y:Ac,wr.cell? ⟨w.heap.size+1,0,none⟩=some (.int .i64 y.k)/\wr.cell? ⟨w.heap.size+1,1,none⟩=some (.int .i64 y.e)/\wr.cell? ⟨w.heap.size+1,2,none⟩=some (.int .i64 y.a)/\wr.cell? ⟨w.heap.size+1,3,none⟩=some (.int .i64 y.b)/\wr.cell? ⟨w.heap.size+1,4,none⟩=some (.int .i64 y.c)/\wr.cell? ⟨w.heap.size+1,5,none⟩=some (.string y.nm)/\∀j,wr.frozen? ⟨w.heap.size+1,j,none⟩=false:=by obtain⟨x,_,_,_,_,_,_,_,_,⟨y,X⟩⟩:=h;obtain⟨c0,c1,c2,c3,c4,c5⟩:=Gn X;exact⟨y,c0,c1,c2,c3,c4,c5,AK X⟩
def Z7(Y:World)(g N:Nat)(w:World)(x:Ac)(W:World):Prop:=
 (W.cell? ⟨w.heap.size+1,0,none⟩=some (.int .i64 x.k)/\W.cell? ⟨w.heap.size+1,1,none⟩=some (.int .i64 x.e)/\W.cell? ⟨w.heap.size+1,2,none⟩=some (.int .i64 x.a)/\W.cell? ⟨w.heap.size+1,3,none⟩=some (.int .i64 x.b)/\W.cell? ⟨w.heap.size+1,4,none⟩=some (.int .i64 x.c)/\W.cell? ⟨w.heap.size+1,5,none⟩=some (.string x.nm))/\
 GE Y g N w (λv=>∃x:Ac,v=.agg x.cs/\LN x) (.returned (.agg x.cs)) W
theorem BG.fin(h:BG Y g N w m i e c b wr)(x:Ac)(R:wr.heap[b]?=some (.cells x.cs 55 (0,0)))(hM:N<=M):Z7 Y g M w x ((((((wr.setCell ⟨w.heap.size+1,0,none⟩ (.int .i64 x.k)).setCell ⟨w.heap.size+1,1,none⟩ (.int .i64 x.e)).setCell ⟨w.heap.size+1,2,none⟩ (.int .i64 x.a)).setCell ⟨w.heap.size+1,3,none⟩ (.int .i64 x.b)).setCell ⟨w.heap.size+1,4,none⟩ (.int .i64 x.c)).setCell ⟨w.heap.size+1,5,none⟩ (.string x.nm)):=by
 obtain⟨x',h0,X,V,h3,h4,h5,h6,h7,⟨y,h8⟩⟩:=h;have hx:LN x:=by rw[h6] at R;simp[Ac.cs] at R;obtain⟨a0,a1,a2,a3,a4,a5⟩:=R;exact⟨a5▸h0.1,a1▸h0.2.1,a1▸h0.2.2.1,a4▸h0.2.2.2⟩
 have n1:w.heap.size+1≠g:=by omega
 have n2:Y.heap.size<=w.heap.size+1:=by omega
 have n3:w.heap.size<=w.heap.size+1:=by omega
 exact⟨Gn (cY h8),_,rfl,⟨x,rfl,hx⟩,((((((X.set n1 n2).set n1 n2).set n1 n2).set n1 n2).set n1 n2).set n1 n2).mono hM,Ci (Ci (Ci (Ci (Ci (Ci V n3 _) n3 _) n3 _) n3 _) n3 _) n3 _⟩
theorem BG.pk(h:BG Y g N w m i e c b wr)(n:Int)(hN:N<=900000:=by omega)(h0:0<n:=by decide)(hn:n<=1000000:=by decide):Calls prog 48 #[.pointer (some ⟨g,0,none⟩),.int .i64 n] wr λe' w'=>∃x:Int,e'=.returned (.int .i64 x)/\0<=x/\x<n/\BG Y g (N+1) w m i e c b w':=
 (h.dr.pick n (by omega) hn).mono λ_ _ hp=>by obtain⟨x,rfl,X,V,h3,h4⟩:=hp;exact⟨x,rfl,X,V h0,h.draw h3 h4⟩
theorem BG.kd{xs:List AV}(h:BG Y g N w m i e c b wr)(kind:Int)(hN:N<=900000)(hi:∀w',w.grownBy w' (some g)->Bb w' i xs)(hl:xs.length<=12):Calls prog 230 #[.pointer (some ⟨g,0,none⟩),.agg #[m,i,e,c],.int .i64 kind] wr λe' w'=>∃x:Int,e'=.returned (.int .i64 x)/\0<=x/\x<12/\BG Y g (N+1) w m i e c b w':=
 (Oq m i e c xs kind h.dr hN (hi _ h.gr) hl).mono λ_ _ hp=>by obtain⟨_,rfl,⟨x,rfl,X,V⟩,h3,h4⟩:=hp;exact⟨x,rfl,X,V,h.draw h3 h4⟩
theorem BG.mono(h:BG Y g N w m i e c b wr)(hm:N<=M):BG Y g M w m i e c b wr:=by obtain⟨x,h0,X,V⟩:=h;exact⟨x,h0,X.mono hm,V⟩
end
def cH(g b:Nat)(m i e c:Value)(k:Nat)(v:Value):Prop:=match k with
 |0|2=>v=.pointer (some ⟨g,0,none⟩)
 |1=>v=.agg #[m,i,e,c]
 |3=>∃x1:Int,v=.int .i64 x1/\0<=x1/\x1<2
 |4|5=>∃x1:Int,v=.int .i64 x1
 |6=>v=.pointer (some ⟨b,2,none⟩)
 |_=>True
theorem WR(f:Int)(b:Bool)(w:World)(h0:0<=f)(X:f<=1000):
 Calls prog 81 #[.int .i64 f,.bool b] w λe w'=>∃d:Int,e=.returned (.int .i64 d)/\d<=1000000/\w=w':=(X6 f b w h0 X).mono λ_ _ h=>⟨_,h.1,by split<;>omega,h.2⟩
theorem Oo{Y w:World}{g N:Nat}(m i e c:Value)(xs:List AV)(h:Dr Y g N w)(hN:N<=800000)(hi:∀w',w.grownBy w' (some g)->Bb w' i xs)(hl:xs.length<=12):
 Calls prog 190 #[.pointer (some ⟨g,0,none⟩),.agg #[m,i,e,c]] w (GE Y g (N+20) w λv=>∃x:Ac,v=.agg x.cs/\LN x):=by
 have ac:=h.lt;have bp:Y.heap.size<=w.heap.size:=h.2.1.size;have jE:=hi;have Hi:=AA hi;clear hi jE;go_in;go_wp2_with fail;refine(((h.alloc _).alloc _).pick _).mono ?_;rintro e' w1 ⟨x,rfl,gt,dy,X,g1⟩;have dy:=dy (by decide);go_wp2_with fail;refine(X.pick _).mono ?_;rintro e' w2 ⟨y,rfl,ey,cx,V,g2⟩;go_wp2_with fail;refine(OO w2.heap.size 6 [⟨#[97]⟩,⟨#[98]⟩,⟨#[99]⟩,⟨#[97,98]⟩,⟨#[98,98]⟩,⟨#[97]⟩] (V.alloc _) (by omega) rfl (by decide) (by decide) (by have:=V.lt;omega) (by simp) (λk L=>KV w2 [⟨#[97]⟩,⟨#[98]⟩,⟨#[99]⟩,⟨#[97,98]⟩,⟨#[98,98]⟩,⟨#[97]⟩] _ L)).mono ?_;rintro e' w3 ⟨v,rfl,⟨s,K,rfl⟩,h3,g3⟩;have gU:s.size<=8:=by
  simp only[xD,wD,or_false] at K
  rcases K with rfl|rfl|rfl|rfl|rfl|rfl<;>decide
 go_upto_block 0 with fail;have A:BG Y g (N+3) w m i e c w3.heap.size (w3.alloc (.cells #[.int .i64 (1+x),.int .i64 y,.int .i64 0,.int .i64 0,.int .i64 0,.string s] 55)):=by
  have G:=AP (AP g1 g2) (AP (AY (AI _ _) _) g3);have hz:=G.size;simp at hz;have B1:=yi (w.alloc (.cells #[m,i,e,c] 28)) (.cells #[.int .i64 0,.int .i64 0,.int .i64 0,.int .i64 0,.int .i64 0,.string ⟨#[]⟩] 55);have B0:=AB (yi w (.cells #[m,i,e,c] 28)) (AI _ (.cells #[.int .i64 0,.int .i64 0,.int .i64 0,.int .i64 0,.int .i64 0,.string ⟨#[]⟩] 55));simp only[xx] at B1;have yL:∀{q:Nat} {o:Obj},w.heap.size<=q->((w.alloc (.cells #[m,i,e,c] 28)).alloc (.cells #[.int .i64 0,.int .i64 0,.int .i64 0,.int .i64 0,.int .i64 0,.string ⟨#[]⟩] 55)).heap[q]?=some o->(w3.alloc (.cells #[.int .i64 (1+x),.int .i64 y,.int .i64 0,.int .i64 0,.int .i64 0,.string s] 55)).heap[q]?=some o:=λ{q o} hq R=>AB ((G.block q (AW R) (by simp;omega)).trans R) (AI _ _)
  exact⟨⟨1+x,y,0,0,0,s⟩,⟨gU,ey,cx (by decide),by simp only;omega⟩,h3.alloc _,HJ (AP (AY (IA _ _ _) _) G) _,by omega,ac,bp,yi _ _,yL (yv _) B0,⟨⟨0,0,0,0,0,⟨#[]⟩⟩,yL (by omega) B1⟩⟩
 clear X V h3 g1 g2 g3 h K ey cx;generalize w3.alloc (.cells #[.int .i64 (1+x),.int .i64 y,.int .i64 0,.int .i64 0,.int .i64 0,.string s] 55)=wr at A;generalize w3.heap.size=b at A;obtain⟨gZ,gY,gX,fU⟩:=A.ne;go_cut [] (λwx=>BG Y g (N+12) w m i e c b wx)
 case first=>
  rcases(show x=0∨x=1∨x=2∨x=3∨x=4∨x=5∨x=6∨x=7∨x=8∨x=9∨x=10 by omega) with rfl|rfl|rfl|rfl|rfl|rfl|rfl|rfl|rfl|rfl|rfl
  .go_wp2_with fail
   go_meet;exact A.mono (by omega)
  .obtain⟨k0,k1,k2,k3⟩:=A.kc
   go_wp2_with fail;refine(A.kd _ (by omega) Hi.out hl).mono ?_;rintro e' w4 ⟨x1,rfl,z0,z1,S4⟩;replace A:=S4;clear S4 k0 k1 k2 k3;obtain⟨z,c0,c1,c2,c3,c4,c5,hf,ao⟩:=A.cc;go_wp2_with fail;go_meet;exact(A.set2 _).mono (by omega)
  .obtain⟨k0,k1,k2,k3⟩:=A.kc
   go_wp2_with fail;refine(A.kd _ (by omega) Hi.out hl).mono ?_;rintro e' w4 ⟨x1,rfl,z0,z1,S4⟩;replace A:=S4;clear S4 k0 k1 k2 k3;obtain⟨z,c0,c1,c2,c3,c4,c5,hf,ao⟩:=A.cc;go_wp2_with fail;refine((A.set2 _).pk _).mono ?_;rintro e' w4 ⟨x1,rfl,z0,z1,S4⟩;replace A:=S4;clear S4 c0 c1 c2 c3 c4 c5 hf ao;obtain⟨z,c0,c1,c2,c3,c4,c5,hf,ao⟩:=A.cc;go_wp2_with fail;refine((A.set3 _).pk _).mono ?_;rintro e' w4 ⟨p,rfl,p0,p1,S4⟩;replace A:=S4;clear S4 c0 c1 c2 c3 c4 c5 hf ao;go_wp2_with fail;refine(A.pk _).mono ?_;rintro e' w4 ⟨q,rfl,q0,q1,S4⟩;replace A:=S4;clear S4
   rcases(show p=0∨p=1 by omega) with rfl|rfl
   rotate_left
   rotate_left
   all_goals
    obtain⟨z,c0,c1,c2,c3,c4,c5,hf,ao⟩:=A.cc
    go_wp2_with fail;go_meet;exact(A.set4 _ (by omega)).mono (by omega)
  .obtain⟨k0,k1,k2,k3⟩:=A.kc
   go_wp2_with fail;refine(A.kd _ (by omega) Hi.out hl).mono ?_;rintro e' w4 ⟨x1,rfl,z0,z1,S4⟩;replace A:=S4;clear S4 k0 k1 k2 k3;obtain⟨z,c0,c1,c2,c3,c4,c5,hf,ao⟩:=A.cc;go_wp2_with fail;refine((A.set2 _).pk _).mono ?_;rintro e' w4 ⟨x1,rfl,z0,z1,S4⟩;replace A:=S4;clear S4 c0 c1 c2 c3 c4 c5 hf ao;obtain⟨z,c0,c1,c2,c3,c4,c5,hf,ao⟩:=A.cc;go_wp2_with fail;go_meet;exact(A.set3 _).mono (by omega)
  .go_wp2_with fail
   refine F6 7 mixed (by kernel_rfl) 152 rfl (by kernel_rfl) (λk v _=>cH g b m i e c k v) (λhk wr=>(hk 3=false->BG Y g (N+3) w m i e c b wr)/\(hk 5=false->BG Y g (N+4) w m i e c b wr)/\BG Y g (N+5) w m i e c b wr) ?_ ?_ ?_
   .have Sd:=A.draw (A.dr.below (Av (yD _ _) 1)) (AY (Av (yD _ _) 1) _)
    exact⟨λ_=>Sd,λ_=>Sd.mono (by omega),Sd.mono (by omega)⟩
   .intro k L o E a w5 Z J hk D H hs O
    match k,L with
    |0,_=>
     obtain rfl:=yF E;have e0:a.tmps[0]?.getD undef=.pointer (some ⟨g,0,none⟩):=by rw[PI Z 0];rfl
     clear J Z;refine yE ?_;go_simp;exact O.out _ _ rfl ⟨λh=>H.1 (Dc h),λh=>H.2.1 (Dc h),H.2.2⟩ (λj u _ _ _ h=>h)
    |1,_=>
     obtain rfl:=yF E;have e3:a.tmps[3]?.getD undef=.pointer (some ⟨w.heap.size,0,none⟩):=by rw[PI Z 3];rfl
     clear J Z;refine yE ?_;obtain⟨k0,k1,k2,k3⟩:=H.2.2.kc;go_simp;exact O.out _ _ rfl ⟨λh=>H.1 (Dc h),λh=>H.2.1 (Dc h),H.2.2⟩ (λj u _ _ _ h=>h)
    |2,_=>
     obtain rfl:=yF E;have e0:a.tmps[0]?.getD undef=.pointer (some ⟨g,0,none⟩):=by rw[PI Z 0];rfl
     clear J Z;refine yE ?_;go_simp;exact O.out _ _ rfl ⟨λh=>H.1 (Dc h),λh=>H.2.1 (Dc h),H.2.2⟩ (λj u _ _ _ h=>h)
    |3,_=>
     obtain rfl:=yF E;have d2:=Ba J 2
     change a.tmps[53]?.getD undef=.pointer (some ⟨g,0,none⟩) at d2
     clear J Z;refine yE ?_;have S3:=H.1 D.out.1;go_simp;refine(S3.dr.pick _).mono ?_;rintro e' w6 ⟨x1,rfl,z0,z1,h6,g6⟩;have S4:=S3.draw h6 g6;exact O.out _ _ ⟨x1,rfl,z0,z1 (by decide)⟩ ⟨λh=>by simp[GU] at h,λ_=>S4,S4.mono (by omega)⟩ (λj u _ _ _ h=>h)
    |4,_=>
     obtain rfl:=yF E;have d3:=Ba J 3
     change ∃x1:Int,a.tmps[54]?.getD undef=.int .i64 x1/\0<=x1/\x1<2 at d3
     clear J Z;refine yE ?_;obtain⟨x1,d3,z0,z1⟩:=d3;go_simp;exact O.out _ _ ⟨_,rfl⟩ ⟨λh=>H.1 (Dc h),λh=>H.2.1 (Dc h),H.2.2⟩ (λj u _ _ _ h=>h)
    |5,_=>
     obtain rfl:=yF E;have d0:=Ba J 0
     change a.tmps[51]?.getD undef=.pointer (some ⟨g,0,none⟩) at d0
     have d1:=Ba J 1
     change a.tmps[52]?.getD undef=.agg #[m,i,e,c] at d1
     have d4:=Ba J 4
     change ∃x1:Int,a.tmps[55]?.getD undef=.int .i64 x1 at d4
     clear J Z;refine yE ?_;obtain⟨x1,d4⟩:=d4;have S4:=H.2.1 D.out.1;go_simp;refine(Oq m i e c xs _ S4.dr (by omega) (Hi.out _ S4.gr) hl).mono ?_;rintro e' w6 ⟨v,rfl,⟨z',rfl,_,_⟩,h6,g6⟩;have S5:=S4.draw h6 g6;have l3:hk 3=true:=D.out.2.2 4 3 (D.out.2.1 4 (by kernel_rfl)) (by kernel_rfl);exact O.out _ _ ⟨_,rfl⟩ ⟨(λh=>by rw[Dc h] at l3;cases l3),λh=>by simp[GU] at h,S5.mono (by omega)⟩ (λj u _ _ _ h=>h)
    |6,_=>
     obtain rfl:=yF E;have e5:a.tmps[5]?.getD undef=.pointer (some ⟨b,0,none⟩):=by rw[PI Z 5];rfl
     clear J Z;refine yE ?_;go_simp;exact O.out _ _ rfl ⟨λh=>H.1 (Dc h),λh=>H.2.1 (Dc h),H.2.2⟩ (λj u _ _ _ h=>h)
   .intro ys w5 hR hk hL H
    obtain⟨x1,hz⟩:=BS hR 5;have h6:ys 6=.pointer (some ⟨b,2,none⟩):=BS hR 6;replace A:=H.2.2;clear hR hL H;simp only[Ak,Ah,yC,yy,yz,yx,hz,h6];simp;generalize ys 0=z0;generalize ys 1=z1;generalize ys 2=z2;generalize ys 3=z3;generalize ys 4=z4;clear hz h6;obtain⟨z,c0,c1,c2,c3,c4,c5,hf,ao⟩:=A.cc;go_wp2_with fail;go_meet;exact(A.set2 _).mono (by omega)
  .go_wp2_with fail
   refine(A.pk _).mono ?_;rintro e' w4 ⟨p,rfl,p0,p1,S4⟩;replace A:=S4;clear S4;obtain⟨k0,k1,k2,k3⟩:=A.kc;go_wp2_with fail;refine(A.kd _ (by omega) Hi.out hl).mono ?_;rintro e' w4 ⟨x1,rfl,z0,z1,S4⟩;replace A:=S4;clear S4 k0 k1 k2 k3;obtain⟨z,c0,c1,c2,c3,c4,c5,hf,ao⟩:=A.cc;go_wp2_with fail;refine((A.set2 _).pk _).mono ?_;rintro e' w4 ⟨x1,rfl,z0,z1,S4⟩;replace A:=S4;clear S4 c0 c1 c2 c3 c4 c5 hf ao;obtain⟨k0,k1,k2,k3⟩:=A.kc;obtain⟨z,c0,c1,c2,c3,c4,c5,hf,ao⟩:=A.cc;go_wp2_with fail;refine((A.set3 _).kd _ (by omega) Hi.out hl).mono ?_;rintro e' w4 ⟨f,rfl,f0,f1,S4⟩;replace A:=S4;clear S4 k0 k1 k2 k3 c0 c1 c2 c3 c4 c5 hf ao;go_wp2_with fail;refine(A.pk _).mono ?_;rintro e' w4 ⟨t,rfl,t0,t1,S4⟩;replace A:=S4;clear S4;go_wp2_with fail;refine(WR f _ _ (by omega) (by omega)).mono ?_;rintro e' w4 ⟨d,rfl,hd,rfl⟩;obtain⟨z,c0,c1,c2,c3,c4,c5,hf,ao⟩:=A.cc;go_wp2_with fail;refine((A.set4 _ hd).pk _).mono ?_;rintro e' w4 ⟨u,rfl,u0,u1,S4⟩;replace A:=S4;clear S4 c0 c1 c2 c3 c4 c5 hf ao
   by_cases hu:u=0
   .subst hu
    go_wp2_with fail;refine(NL A.dr (by omega)).mono ?_;rintro e' w4 ⟨v,rfl,⟨z',rfl,_,pd⟩,h4,g4⟩;replace A:=A.draw h4 g4;clear h4 g4;obtain⟨z,c0,c1,c2,c3,c4,c5,hf,ao⟩:=A.cc;go_wp2_with fail;go_meet;exact(A.set4 _ (by omega)).mono (by omega)
   .have t0:(u==0)=false:=by simp[hu]
    clear hu;go_wp2_with fail;go_meet;exact A.mono (by omega)
  .obtain⟨k0,k1,k2,k3⟩:=A.kc
   go_wp2_with fail;refine(A.kd _ (by omega) Hi.out hl).mono ?_;rintro e' w4 ⟨x1,rfl,z0,z1,S4⟩;replace A:=S4;clear S4 k0 k1 k2 k3;obtain⟨z,c0,c1,c2,c3,c4,c5,hf,ao⟩:=A.cc;go_wp2_with fail;refine((A.set2 _).pk _).mono ?_;rintro e' w4 ⟨u,rfl,u0,u1,S4⟩;replace A:=S4;clear S4 c0 c1 c2 c3 c4 c5 hf ao
   by_cases hu:u=0
   .subst hu
    obtain⟨z,c0,c1,c2,c3,c4,c5,hf,ao⟩:=A.cc;go_wp2_with fail;go_meet;exact(A.set2 _).mono (by omega)
   .have t0:(u==0)=false:=by simp[hu]
    clear hu;go_wp2_with fail;go_meet;exact A.mono (by omega)
  rotate_left
  rotate_left
  .go_wp2_with fail
   refine(A.pk _).mono ?_;rintro e' w4 ⟨p,rfl,p0,p1,S4⟩;replace A:=S4;clear S4;go_wp2_with fail;refine(A.pk _).mono ?_;rintro e' w4 ⟨q,rfl,q0,q1,S4⟩;replace A:=S4;clear S4;go_wp2_with fail;refine(A.pk _).mono ?_;rintro e' w4 ⟨r,rfl,r0,r1,S4⟩;replace A:=S4;clear S4
   rcases(show p=0∨p=1 by omega) with rfl|rfl
   .obtain⟨z,c0,c1,c2,c3,c4,c5,hf,ao⟩:=A.cc
    go_wp2_with fail;refine((A.set2 _).pk _).mono ?_;rintro e' w4 ⟨x1,rfl,z0,z1,S4⟩;replace A:=S4;clear S4 c0 c1 c2 c3 c4 c5 hf ao;obtain⟨z,c0,c1,c2,c3,c4,c5,hf,ao⟩:=A.cc;go_wp2_with fail;go_meet;exact(A.set3 _).mono (by omega)
   .obtain⟨z,c0,c1,c2,c3,c4,c5,hf,ao⟩:=A.cc
    go_wp2_with fail;refine((A.set2 _).pk _).mono ?_;rintro e' w4 ⟨x1,rfl,z0,z1,S4⟩;replace A:=S4;clear S4 c0 c1 c2 c3 c4 c5 hf ao;obtain⟨z,c0,c1,c2,c3,c4,c5,hf,ao⟩:=A.cc;go_wp2_with fail;go_meet;exact(A.set3 _).mono (by omega)
  .go_wp2_with fail
   refine(A.pk _).mono ?_;rintro e' w4 ⟨p,rfl,p0,p1,S4⟩;replace A:=S4;clear S4;go_wp2_with fail;refine(A.pk _).mono ?_;rintro e' w4 ⟨q,rfl,q0,q1,S4⟩;replace A:=S4;clear S4;go_wp2_with fail;refine(A.pk _).mono ?_;rintro e' w4 ⟨r,rfl,r0,r1,S4⟩;replace A:=S4;clear S4
   rcases(show p=0∨p=1 by omega) with rfl|rfl
   rotate_left
   rotate_left
   all_goals
    obtain⟨z,c0,c1,c2,c3,c4,c5,hf,ao⟩:=A.cc
    go_wp2_with fail;refine((A.set2 _).pk _).mono ?_;rintro e' w4 ⟨x1,rfl,z0,z1,S4⟩;replace A:=S4;clear S4 c0 c1 c2 c3 c4 c5 hf ao;obtain⟨z,c0,c1,c2,c3,c4,c5,hf,ao⟩:=A.cc;go_wp2_with fail;go_meet;exact(A.set3 _).mono (by omega)
  all_goals
   go_wp2_with fail
   refine(A.pk _).mono ?_;rintro e' w4 ⟨x1,rfl,z0,z1,S4⟩;replace A:=S4;clear S4;obtain⟨z,c0,c1,c2,c3,c4,c5,hf,ao⟩:=A.cc;go_wp2_with fail;go_meet;exact(A.set2 _).mono (by omega)
 case rest=>
  clear A;have A:=hcut;go_wp2_with fail;refine(A.pk _).mono ?_;rintro e' w4 ⟨q,rfl,q0,q1,S4⟩;replace A:=S4;clear S4
  by_cases iS:q=0
  .subst iS
   go_wp2_with fail;refine(A.pk _).mono ?_;rintro e' w4 ⟨x1,rfl,z0,z1,S4⟩;replace A:=S4;clear S4;obtain⟨z,c0,c1,c2,c3,c4,c5,hf,ao⟩:=A.cc;obtain⟨y1,d0,d1,d2,d3,d4,d5,eC⟩:=A.qc;go_wp2_with fail;obtain⟨⟨E0,E1,E2,E3,E4,E5⟩,Fin⟩:=BG.fin (M:=N+20) (A.set0 (x1 - 1)) ⟨x1 - 1,z.e,z.a,z.b,z.c,z.nm⟩ (by have:=yq w4 b 0 _ _ (.int .i64 (x1 - 1)) ao.out;simpa[Ac.cs] using this) (by omega);exact yr (v:=.agg #[_,_,_,_,_,_]) (by simp[results,vQ,go_sem,E0,E1,E2,E3,E4,E5]) rfl Fin
  by_cases iR:q=1
  .subst iR
   go_wp2_with fail;refine(A.pk _).mono ?_;rintro e' w4 ⟨x1,rfl,z0,z1,S4⟩;replace A:=S4;clear S4;obtain⟨z,c0,c1,c2,c3,c4,c5,hf,ao⟩:=A.cc;obtain⟨y1,d0,d1,d2,d3,d4,d5,eC⟩:=A.qc;go_wp2_with fail;obtain⟨⟨E0,E1,E2,E3,E4,E5⟩,Fin⟩:=BG.fin (M:=N+20) (A.set2 (x1 - 2)) ⟨z.k,z.e,x1 - 2,z.b,z.c,z.nm⟩ (by have:=yq w4 b 2 _ _ (.int .i64 (x1 - 2)) ao.out;simpa[Ac.cs] using this) (by omega);exact yr (v:=.agg #[_,_,_,_,_,_]) (by simp[results,vQ,go_sem,E0,E1,E2,E3,E4,E5]) rfl Fin
  by_cases iQ:q=2
  .subst iQ
   go_wp2_with fail;refine(A.pk _).mono ?_;rintro e' w4 ⟨x1,rfl,z0,z1,S4⟩;replace A:=S4;clear S4;obtain⟨z,c0,c1,c2,c3,c4,c5,hf,ao⟩:=A.cc;obtain⟨y1,d0,d1,d2,d3,d4,d5,eC⟩:=A.qc;go_wp2_with fail;obtain⟨⟨E0,E1,E2,E3,E4,E5⟩,Fin⟩:=BG.fin (M:=N+20) (A.set3 (x1 - 1)) ⟨z.k,z.e,z.a,x1 - 1,z.c,z.nm⟩ (by have:=yq w4 b 3 _ _ (.int .i64 (x1 - 1)) ao.out;simpa[Ac.cs] using this) (by omega);exact yr (v:=.agg #[_,_,_,_,_,_]) (by simp[results,vQ,go_sem,E0,E1,E2,E3,E4,E5]) rfl Fin
  by_cases iP:q=3
  .subst iP
   go_wp2_with fail;refine(JU A.dr (by omega)).mono ?_;rintro e' w4 ⟨v,rfl,⟨s',K,rfl⟩,h4,g4⟩;replace A:=A.draw h4 g4;clear h4 g4;obtain⟨z,c0,c1,c2,c3,c4,c5,hf,ao⟩:=A.cc;obtain⟨y1,d0,d1,d2,d3,d4,d5,eC⟩:=A.qc;go_wp2_with fail;obtain⟨⟨E0,E1,E2,E3,E4,E5⟩,Fin⟩:=BG.fin (M:=N+20) (A.setS s' K) ⟨z.k,z.e,z.a,z.b,z.c,s'⟩ (by have:=yq w4 b 5 _ _ (.string s') ao.out;simpa[Ac.cs] using this) (by omega);exact yr (v:=.agg #[_,_,_,_,_,_]) (by simp[results,vQ,go_sem,E0,E1,E2,E3,E4,E5]) rfl Fin
  by_cases iO:q=4
  .subst iO
   go_wp2_with fail;have f3:=A.draw (A.dr.alloc (.cells #[.int .i64 (-1),.int .i64 10000,.int .i64 2,.int .i64 49] 3)) (AY (AI _ _) _);have dn:=A.dr.lt;refine(f3.dr.pick _).mono ?_;rintro e' w5 ⟨x1,rfl,z0,z1,h5,g5⟩;replace z1:=z1 (by decide);replace A:=f3.draw h5 g5;have l0:=DO (j:=0) g5 dn rfl;have l1:=DO (j:=1) g5 dn rfl;have l2:=DO (j:=2) g5 dn rfl;have l3:=DO (j:=3) g5 dn rfl;clear h5 g5 f3 dn;obtain⟨z,c0,c1,c2,c3,c4,c5,hf,ao⟩:=A.cc
   rcases(show x1=0∨x1=1∨x1=2∨x1=3 by omega) with rfl|rfl|rfl|rfl
   focus
    obtain⟨y1,d0,d1,d2,d3,d4,d5,eC⟩:=A.qc
    go_wp2_with fail;obtain⟨⟨E0,E1,E2,E3,E4,E5⟩,Fin⟩:=BG.fin (M:=N+20) (A.set4 (-1) (by decide)) ⟨z.k,z.e,z.a,z.b,-1,z.nm⟩ (by have:=yq w5 b 4 _ _ (.int .i64 (-1)) ao.out;simpa[Ac.cs] using this) (by omega)
   rotate_left
   focus
    obtain⟨y1,d0,d1,d2,d3,d4,d5,eC⟩:=A.qc
    go_wp2_with fail;obtain⟨⟨E0,E1,E2,E3,E4,E5⟩,Fin⟩:=BG.fin (M:=N+20) (A.set4 (10000) (by decide)) ⟨z.k,z.e,z.a,z.b,10000,z.nm⟩ (by have:=yq w5 b 4 _ _ (.int .i64 (10000)) ao.out;simpa[Ac.cs] using this) (by omega)
   rotate_left
   focus
    obtain⟨y1,d0,d1,d2,d3,d4,d5,eC⟩:=A.qc
    go_wp2_with fail;obtain⟨⟨E0,E1,E2,E3,E4,E5⟩,Fin⟩:=BG.fin (M:=N+20) (A.set4 (2) (by decide)) ⟨z.k,z.e,z.a,z.b,2,z.nm⟩ (by have:=yq w5 b 4 _ _ (.int .i64 (2)) ao.out;simpa[Ac.cs] using this) (by omega)
   rotate_left
   focus
    obtain⟨y1,d0,d1,d2,d3,d4,d5,eC⟩:=A.qc
    go_wp2_with fail;obtain⟨⟨E0,E1,E2,E3,E4,E5⟩,Fin⟩:=BG.fin (M:=N+20) (A.set4 (49) (by decide)) ⟨z.k,z.e,z.a,z.b,49,z.nm⟩ (by have:=yq w5 b 4 _ _ (.int .i64 (49)) ao.out;simpa[Ac.cs] using this) (by omega)
   rotate_left
   all_goals
    exact yr (v:=.agg #[_,_,_,_,_,_]) (by simp[results,vQ,go_sem,E0,E1,E2,E3,E4,E5]) rfl Fin
  have t0:(q==0)=false:=by simp[iS]
  have t1:(q==1)=false:=by simp[iR]
  have t2:(q==2)=false:=by simp[iQ]
  have t3:(q==3)=false:=by simp[iP]
  have t4:(q==4)=false:=by simp[iO]
  clear iS iR iQ iP iO;obtain⟨z,c0,c1,c2,c3,c4,c5,hf,ao⟩:=A.cc;obtain⟨y1,d0,d1,d2,d3,d4,d5,eC⟩:=A.qc;go_wp2_with fail;obtain⟨⟨E0,E1,E2,E3,E4,E5⟩,Fin⟩:=BG.fin (M:=N+20) A z ao.out (by omega);exact yr (v:=.agg #[_,_,_,_,_,_]) (by simp[results,vQ,go_sem,E0,E1,E2,E3,E4,E5]) rfl Fin
def Vl(x:Ac):Prop:=LN x/\(x.e=1∨x.e=2)
theorem GE.e12{Y w:World}{g N:Nat}{x:Ac}(h:GE Y g N w (λv=>∃x:Ac,v=.agg x.cs/\LN x) (.returned (.agg x.cs)) W)(he:x.e=1∨x.e=2):GE Y g N w (λv=>∃x:Ac,v=.agg x.cs/\Vl x) (.returned (.agg x.cs)) W:=by obtain⟨v,e,⟨x',e2,hx⟩,X⟩:=h;cases e;refine⟨_,rfl,⟨x',e2,hx,?_⟩,X⟩;simp[Ac.cs] at e2;rw[<-e2.2.1];exact he
theorem Tx{Y w:World}{g N:Nat}(m i e c:Value)(xs:List AV)(h:Dr Y g N w)(hN:N<=700000)(hi:∀w',w.grownBy w' (some g)->Bb w' i xs)(hl:xs.length<=12):
 Calls prog 139 #[.pointer (some ⟨g,0,none⟩),.agg #[m,i,e,c]] w (GE Y g (N+30) w λv=>∃x:Ac,v=.agg x.cs/\Vl x):=by
 have ac:=h.lt;have bp:Y.heap.size<=w.heap.size:=h.2.1.size;have Hi:=AA hi;clear hi;go_in;go_wp2_with fail;have gA:=AY (IA w (.cells #[m,i,e,c] 28) (.cells #[.int .i64 0,.int .i64 0,.int .i64 0,.int .i64 0,.int .i64 0,.string ⟨#[]⟩] 55)) (some g);refine(Oo m i e c xs ((h.alloc _).alloc _) (by omega) (λw' hg=>Hi.out w' (AP gA hg)) hl).mono ?_;rintro e' w1 ⟨v,rfl,⟨x,rfl,hx⟩,X,g1⟩;have A:BG Y g (N+20) w m i e c w1.heap.size (w1.alloc (.cells x.cs 55)):=by
  have hz:=g1.size;simp at hz;have B1:=yi (w.alloc (.cells #[m,i,e,c] 28)) (.cells #[.int .i64 0,.int .i64 0,.int .i64 0,.int .i64 0,.int .i64 0,.string ⟨#[]⟩] 55);have B0:=AB (yi w (.cells #[m,i,e,c] 28)) (AI _ (.cells #[.int .i64 0,.int .i64 0,.int .i64 0,.int .i64 0,.int .i64 0,.string ⟨#[]⟩] 55));simp only[xx] at B1;have yL:∀{q:Nat} {o:Obj},w.heap.size<=q->((w.alloc (.cells #[m,i,e,c] 28)).alloc (.cells #[.int .i64 0,.int .i64 0,.int .i64 0,.int .i64 0,.int .i64 0,.string ⟨#[]⟩] 55)).heap[q]?=some o->(w1.alloc (.cells x.cs 55)).heap[q]?=some o:=λ{q o} hq R=>AB ((g1.block q (AW R) (by simp;omega)).trans R) (AI _ _)
  exact⟨x,hx,X.alloc _,HJ (AP gA g1) _,by omega,ac,bp,yi _ _,yL (yv _) B0,⟨⟨0,0,0,0,0,⟨#[]⟩⟩,yL (by omega) B1⟩⟩
 clear X g1 h gA;simp only[Ac.cs] at A ⊢;go_wp2_with fail;generalize w1.alloc (.cells #[.int .i64 x.k,.int .i64 x.e,.int .i64 x.a,.int .i64 x.b,.int .i64 x.c,.string x.nm] 55)=wr at A ⊢;generalize w1.heap.size=b at A ⊢;obtain⟨gZ,gY,gX,fU⟩:=A.ne;refine(A.pk _).mono ?_;rintro e' w4 ⟨x1,rfl,z0,z1,S4⟩;replace A:=S4;clear S4;obtain⟨z,c0,c1,c2,c3,c4,c5,hf,ao⟩:=A.cc
 by_cases L:z.k=1
 .have t0:(z.k==1)=true:=by simp[L]
  clear L;go_wp2_with fail;refine((A.set1 _ (by omega) (by omega)).dr.pick _).mono ?_;rintro e' w5 ⟨u,rfl,u0,u1,h5,g5⟩;replace u1:=u1 (by decide);have lj:w5.heap[b]?=some (.cells (Ac.cs ⟨z.k,1+x1,z.a,z.b,z.c,z.nm⟩) 55 (0,0)):=(g5.block b (by have:=AW ao.out;simpa using this) (by have:=A.gr.size;have:=gZ;simp;obtain⟨_,_,_,_,h9,_⟩:=A;omega)).trans (by have:=yq w4 b 1 _ _ (.int .i64 (1+x1)) ao.out;simpa[Ac.cs] using this);have dP:=AA lj;clear lj;replace A:=(A.set1 _ (by omega) (by omega)).draw h5 g5;clear h5 g5 c0 c1 c2 c3 c4 c5 hf ao t0
  by_cases hu:0<u
  .go_wp2_with fail
   have f3:=A.draw (A.dr.alloc (.cells #[.string ⟨#[98]⟩,.string ⟨#[99]⟩] 9)) (AY (AI _ _) _);refine(OO w5.heap.size 2 [⟨#[98]⟩,⟨#[99]⟩] f3.dr (by omega) rfl (by decide) (by decide) (by have:=A.dr.lt;omega) (by simp) (λk L=>KV w5 [⟨#[98]⟩,⟨#[99]⟩] _ L)).mono ?_;rintro e' w6 ⟨v,rfl,⟨s,K,rfl⟩,h6,g6⟩;replace A:=f3.draw h6 g6;clear h6 g6 f3;simp only[xD,wD,or_false] at K;obtain⟨z,c0,c1,c2,c3,c4,c5,hf,ao⟩:=A.cc
   rcases K with rfl|rfl
   .obtain⟨y1,d0,d1,d2,d3,d4,d5,eC⟩:=A.qc
    go_wp2_with fail;obtain⟨⟨E0,E1,E2,E3,E4,E5⟩,Fin⟩:=BG.fin (M:=N+30) ((A.setS ⟨#[98]⟩ (by decide)).set1 1 (by decide) (by decide)) ⟨z.k,1,z.a,z.b,z.c,⟨#[98]⟩⟩ (by have h0:=yq w6 b 5 _ _ (.string ⟨#[98]⟩) ao.out;have X:=yq _ b 1 _ _ (.int .i64 1) h0;simpa[Ac.cs] using X) (by omega);exact yr (v:=.agg #[_,_,_,_,_,_]) (by simp[results,uN,go_sem,E0,E1,E2,E3,E4,E5]) rfl (Fin.e12 (.inl rfl))
   .obtain⟨y1,d0,d1,d2,d3,d4,d5,eC⟩:=A.qc
    have jQ:(((w6.setCell ⟨b,5,none⟩ (.string ⟨#[99]⟩)).setCell ⟨b,1,none⟩ (.int .i64 1)).setCell ⟨b,1,none⟩ (.int .i64 2)).heap[b]?=some (.cells (Ac.cs ⟨z.k,2,z.a,z.b,z.c,⟨#[99]⟩⟩) 55 (0,0)):=by have h0:=yq w6 b 5 _ _ (.string ⟨#[99]⟩) ao.out;have X:=yq _ b 1 _ _ (.int .i64 1) h0;have V:=yq _ b 1 _ _ (.int .i64 2) X;simpa[Ac.cs] using V
    have cd:=(Gn jQ).2.1;have fu:=AA jQ;clear jQ;go_wp2_with fail;obtain⟨⟨E0,E1,E2,E3,E4,E5⟩,Fin⟩:=BG.fin (M:=N+30) (((A.setS ⟨#[99]⟩ (by decide)).set1 1 (by decide) (by decide)).set1 2 (by decide) (by decide)) ⟨z.k,2,z.a,z.b,z.c,⟨#[99]⟩⟩ fu.out (by omega);exact yr (v:=.agg #[_,_,_,_,_,_]) (by simp[results,uN,go_sem,E0,E1,E2,E3,E4,E5]) rfl (Fin.e12 (.inr rfl))
  .have u2:u<=0:=by omega
   obtain⟨c0,c1,c2,c3,c4,c5⟩:=Gn dP.out;obtain⟨y1,d0,d1,d2,d3,d4,d5,eC⟩:=A.qc;go_wp2_with fail;obtain⟨⟨E0,E1,E2,E3,E4,E5⟩,Fin⟩:=BG.fin (M:=N+30) A _ dP.out (by omega);exact yr (v:=.agg #[_,_,_,_,_,_]) (by simp[results,uN,go_sem,E0,E1,E2,E3,E4,E5]) rfl (Fin.e12 (by simp only;omega))
 .have t0:(z.k==1)=false:=by simp[L]
  clear L;obtain⟨y1,d0,d1,d2,d3,d4,d5,eC⟩:=A.qc;go_wp2_with fail;obtain⟨⟨E0,E1,E2,E3,E4,E5⟩,Fin⟩:=BG.fin (M:=N+30) (A.set1 (1+x1) (by omega) (by omega)) ⟨z.k,1+x1,z.a,z.b,z.c,z.nm⟩ (by have:=yq w4 b 1 _ _ (.int .i64 (1+x1)) ao.out;simpa[Ac.cs] using this) (by omega);exact yr (v:=.agg #[_,_,_,_,_,_]) (by simp[results,uN,go_sem,E0,E1,E2,E3,E4,E5]) rfl (Fin.e12 (by simp only;omega))
def J2(Y:World)(g N:Nat)(w:World)(P:Value->World->Prop)(e:Ending)(w':World):Prop:=∃v,e=.returned v/\P v w'/\Dr Y g N w'/\w.grownBy w' (some g)
def Pk(m:Int)(v:Value):Prop:=∃x:Int,v=.int .i64 x/\0<=x/\x<m
theorem yO(cs:List Nat)(hk:Nat->Bool)(i:Nat):(cs.filter λj=>!GU hk i j).length<=(cs.filter λj=>!hk j).length:=by
 induction cs with
 |nil=>exact yv _
 |cons c cs ih=>
  simp only[vN]
  by_cases h:c=i
  .subst h
   rw[show GU hk c c=true by simp[GU]];cases hk c<;>simp<;>omega
  .rw[show GU hk i c=hk c by simp[GU,h]]
   cases hk c<;>simp<;>omega
theorem Y2(cs:List Nat)(hk:Nat->Bool)(i:Nat)(hi:cs.contains i=true)(hL:hk i=false):(cs.filter λj=>!GU hk i j).length+1<=(cs.filter λj=>!hk j).length:=by
 induction cs with
 |nil=>cases hi
 |cons c cs ih=>
  simp only[vN]
  by_cases h:c=i
  .subst h
   rw[show GU hk c c=true by simp[GU],hL];have:=yO cs hk c;simp;omega
  .rw[show GU hk i c=hk c by simp[GU,h]]
   have jE:cs.contains i=true:=by simpa[Ne.symm h] using hi
   have:=ih jE;cases hk c<;>simp<;>omega
def Xb(Y:World)(g:Nat)(W0:World)(N0 kk c:Nat)(cs:List Nat)(hk:Nat->Bool)(w:World):Prop:=∃M,M+kk*(cs.filter λj=>!hk j).length<=N0+kk*c/\Dr Y g M w/\W0.grownBy w (some g)
section
variable {P:Program} {l:List Oper} {n i:Nat} {o o':Oper} {a a0:Act} {w Y W0:World} {hs:Act->World->Prop} {Q:Exit->Act->World->Prop} {h2:List Vx} {hb:Nat->Value->World->Prop} {v:Value} {g N0 kk c:Nat} {cs:List Nat} {hk:Nat->Bool}
abbrev cZ(l:List Oper)(n:Nat)(a0 a:Act):Prop:=a.defers=a0.defers/\a.tmps.size=a0.tmps.size/\∀t,(∀i,i<n->Ah l i≠t)->a.tmps[t]?=a0.tmps[t]?
abbrev cf(l:List Oper)(i:Nat)(h2:List Vx)(hb:Nat->Value->World->Prop)(a:Act)(w:World):Prop:=∀j,xV .any l.toArray i j=true->RV h2 hb j (a.tmps[Ah l j]?.getD undef) w
abbrev cO(h2:List Vx)(hb:Nat->Value->World->Prop)(Y:World)(g:Nat)(W0:World)(N0 kk c:Nat)(cs:List Nat)(hk:Nat->Bool)(i:Nat)(o:Oper)(a:Act)(w:World)(hs:Act->World->Prop):Prop:=∀v w',RV h2 hb i v w'->Xb Y g W0 N0 kk c cs (GU hk i) w'->w.grownBy w' (some g)->hs (a.put o.dst v) w'
theorem gc{b dS:Nat}(hW:W0.grownBy w (some g))(ac:b<W0.heap.size)(dv:b≠g)(h:W0.cell? ⟨b,dS,none⟩=some v):w.cell? ⟨b,dS,none⟩=some v:=(vX (hW.block b ac (by simpa using dv))).trans h
theorem dR{F:FuncId}{vs:Array Value}{Pv:Value->World->Prop}{k:Nat}(E:l[i]?=some o)(HQ:Hid (cO h2 hb Y g W0 N0 kk c cs hk i o a w hs))(Z:Hid (cZ l n a0 a))(J:Hid (cf l i h2 hb a w))(D:Hid (hk i=false))(H:Xb Y g W0 N0 kk c cs hk w)
 (hc:∀M,M<=N0+kk*c->Dr Y g M w->W0.grownBy w (some g)->Calls P F vs w (J2 Y g (M+k) w Pv))(L:k<=kk:=by decide)(hR:∀v w',Pv v w'->RV h2 hb i v w':=by exact λ_ _ h=>h)(hi:cs.contains i=true:=by rfl)
 (e:l[i]?=some o':=by rfl)(hw:LG l i h2 o'=some true:=by kernel_rfl)(hr:(execOp (Zj l n i h2 a0 a) o').run P w=.ok (.enter F vs) w:=by kernel_rfl):AX P l o a w hs Q:=by
 obtain rfl:=yF (E.symm.trans e);refine⟨λ_=>?_,λh=>absurd ((Kh J hw).symm.trans h) (by decide)⟩;unfold Oper.wp;rw[<-Qg Z J,hr,Oper.upon_enter];obtain⟨M,hM,hD,hW⟩:=H;refine(hc M (by omega) hD hW).mono ?_;intro x w' h;obtain⟨v,rfl,X,V,h3⟩:=h;have hl:=Y2 cs hk i hi D.out;refine HQ.out v w' (hR v w' X) ⟨M+kk,?_,V.mono (by omega),AP hW h3⟩ h3;have:=wg kk hl;rw[Nat.mul_add,wB] at this;omega
theorem cj{F:FuncId}{vs:Array Value}{Pv:Value->Prop}{k:Nat}(E:l[i]?=some o)(HQ:Hid (cO h2 hb Y g W0 N0 kk c cs hk i o a w hs))(Z:Hid (cZ l n a0 a))(J:Hid (cf l i h2 hb a w))(D:Hid (hk i=false))(H:Xb Y g W0 N0 kk c cs hk w)
 (hc:∀M,M<=N0+kk*c->Dr Y g M w->W0.grownBy w (some g)->Calls P F vs w (GE Y g (M+k) w Pv))(L:k<=kk:=by decide)(hR:∀v w',Pv v->RV h2 hb i v w':=by exact λ_ _ h=>h)(hi:cs.contains i=true:=by rfl)
 (e:l[i]?=some o':=by rfl)(hw:LG l i h2 o'=some true:=by kernel_rfl)(hr:(execOp (Zj l n i h2 a0 a) o').run P w=.ok (.enter F vs) w:=by kernel_rfl):AX P l o a w hs Q:=
 dR (Pv:=λv _=>Pv v) E HQ Z J D H hc L hR hi e hw hr
theorem FI{id:Nat}(n N kk c:Nat)(cs:List Nat)(h2:List Vx)(hb:Nat->Value->World->Prop)(jP:Dr Y g N0 W0)
 (gM:∀i,i<n->∀o,l[i]?=some o->∀a w,Hid (cZ l n a0 a)->Hid (cf l i h2 hb a w)->∀hk:Nat->Bool,Hid (hk i=false)->Xb Y g W0 N0 kk c cs hk w->W0.grownBy w (some g)->
  ∀hs:Act->World->Prop,Hid (cO h2 hb Y g W0 N0 kk c cs hk i o a w hs)->Hid (∀v w',RV h2 hb i v w'->Below w.heap.size w w'->hs (a.put o.dst v) w')->AX P l o a w hs Q)
 (eM:∀(vs:Nat->Value) w,(∀i,i<n->RV h2 hb i (vs i) w)->Dr Y g (N0+kk*c) w->W0.grownBy w (some g)->wpList P l.toArray Q (l.drop n) {a0 with tmps:=Ak l (yC n) vs a0.tmps} w)
 (hst:∀i,i<n->∀v w w',w.grownBy w' (some g)->hb i v w->hb i v w':=by exact λ_ _ _ _ _ _ h=>h)(jJ:cs.length=c:=by rfl)
 (hm:P.follows .mixedOrders=true:=by kernel_rfl)(hB:IW l n=true:=by kernel_rfl)(hN:a0.tmps.size=N:=by rfl)(hD:V7 l n N=true:=by kernel_rfl):(Code.region id l.toArray true).wp P Q a0 W0:=by
 subst jJ;refine F6 n hm hB N hN hD (RV h2 hb) (λhk w=>Xb Y g W0 N0 kk cs.length cs hk w) ?_ ?_ ?_
 .refine⟨N0,?_,jP.below (Av (yD _ _) 1),AY (Av (yD _ _) 1) _⟩
  have:=xy (λj=>!(λ_:Nat=>false) j) cs;exact su (wg kk this) _
 .intro i hi o E a w Z J hk D H hs O
  have hq:cO h2 hb Y g W0 N0 kk cs.length cs hk i o a w hs:=λv w' X V h3=>O.out v w' X V λj u _ hj _ h=>RV.mono (hst j hj u w w' h3) h
  have hW:W0.grownBy w (some g):=by obtain⟨_,_,_,h⟩:=H;exact h
  refine gM i hi o E a w Z J hk (AA D.out.1) H hW hs (AA hq) (AA λv w' X R=>hq v w' X ?_ (AY R _));obtain⟨M,V,h3,h4⟩:=H;have:=wg kk (yO cs hk i);exact⟨M,by omega,h3.below R,AP h4 (AY R _)⟩
 .intro vs w hR hk hL H
  obtain⟨M,V,h3,h4⟩:=H;exact eM vs w hR (h3.mono (by omega)) h4
def Qb(l:List Oper):Nat->Nat->Nat->Bool
 |0,_,_=>false
 |f+1,k,i=>xV .any l.toArray k i||(yC l.length).any λj=>xV .any l.toArray k j&&Qb l f j i
theorem VU{f k:Nat}(hc:∀j j',hk j=true->xV .any l.toArray j j'=true->hk j'=true)(L:hk k=true)(h:Qb l f k i=true):hk i=true:=by
 induction f generalizing k with
 |zero=>cases h
 |succ f ih=>
  unfold Qb at h
  rcases Bool.or_eq_true_iff.1 h with h|h
  .exact hc k i L h
  .obtain⟨j,_,hj⟩:=List.any_eq_true.1 h
   obtain⟨X,V⟩:=wV.1 hj;exact ih (hc k j L X) V
def aw(s:Nat)(U:Nat->Value->Prop)(hb:Nat->Value->World->Prop)(hk:Nat->Bool)(i:Nat)(v:Value)(w:World):Prop:=U i v/\(hk s=false->hb i v w)
def dJ(Y:World)(g:Nat)(W0:World)(N0 kk c:Nat)(cs:List Nat)(s:Nat)(Af:World->Prop)(hk:Nat->Bool)(w:World):Prop:=(hk s=true->Af w)/\(hk s=false->Xb Y g W0 N0 kk c cs hk w)
theorem IL{id s:Nat}{U:Nat->Value->Prop}(n N kk c:Nat)(cs:List Nat)(h2:List Vx)(hb:Nat->Value->World->Prop)(Af:World->Prop)(jP:Dr Y g N0 W0)
 (fT:∀i,i<n->(i==s||cs.contains i)=false->∀o,l[i]?=some o->∀a w,Hid (Yk l n a0 a)->∀hk:Nat->Bool,Hid (Xd l n h2 (aw s U hb) hk a w)->Hid (XJ l i hk)->(Qb l n s i=true->W0.grownBy w (some g))->
  ∀hs:Act->World->Prop,Hid (bQ h2 (aw s U hb) hk i o a w hs)->AX P l o a w hs Q)
 (dp:∀i,i<n->cs.contains i=true->∀o,l[i]?=some o->∀a w,Hid (Yk l n a0 a)->∀hk:Nat->Bool,Hid (Xd l n h2 (aw s U hb) hk a w)->Hid (XJ l i hk)->Xb Y g W0 N0 kk c cs hk w->
  ∀hs:Act->World->Prop,Hid (∀v w',U i v->hb i v w'->EV h2 i=none->Xb Y g W0 N0 kk c cs (GU hk i) w'->w.grownBy w' (some g)->hs (a.put o.dst v) w')->AX P l o a w hs Q)
 (fQ:∀o,l[s]?=some o->∀a w,Hid (Yk l n a0 a)->∀hk:Nat->Bool,Hid (Xd l n h2 (aw s U hb) hk a w)->Hid (XJ l s hk)->Dr Y g (N0+kk*c) w->W0.grownBy w (some g)->
  ∀hs:Act->World->Prop,Hid (∀v w',Af w'->hs (a.put o.dst v) w')->AX P l o a w hs Q)
 (nC:∀w w',Below w.heap.size w w'->Af w->Af w')
 (eM:∀(vs:Nat->Value) w,∀hk:Nat->Bool,(∀i,i<n->RF h2 (aw s U hb) hk i (vs i) w)->Af w->wpList P l.toArray Q [] {a0 with tmps:=Cn l (yC n) vs a0.tmps} w)
 (hst:∀i,i<n->∀v w w',w.grownBy w' (some g)->hb i v w->hb i v w':=by exact λ_ _ _ _ _ _ h=>h)(jJ:cs.length=c:=by rfl)(mM:s<n:=by decide)(mO:EV h2 s=some undef:=by rfl)(kO:(l[s]?).bind (·.dst)=none:=by rfl)
 (pj:cs.contains s=false:=by rfl)(mT:cs.all (λi=>decide (i<n)&&Qb l n s i&&((l[i]?).bind (·.dst)).isSome)=true:=by kernel_rfl)
 (hm:P.follows .mixedOrders=true:=by kernel_rfl)(hN:a0.tmps.size=N:=by rfl)(hB:XL l N=true:=by kernel_rfl)(hn:l.length=n:=by rfl):(Code.region id l.toArray true).wp P Q a0 W0:=by
 subst jJ;refine Co n N (λi=>i==s||cs.contains i) h2 (aw s U hb) (dJ Y g W0 N0 kk cs.length cs s Af) ?_ ?_ ?_ ?_ ?_ ?_ hm hN hB hn
 .refine⟨λh=>(by cases h),λ_=>⟨N0,?_,jP.below (Av (yD _ _) 1),AY (Av (yD _ _) 1) _⟩⟩
  have:=xy (λj=>!(λ_:Nat=>false) j) cs;exact su (wg kk this) _
 .intro j hj hk i v w w' _ _ _ _ R h
  exact⟨h.1,λK=>hst j hj v w w' (AY R _) (h.2 (Dc K))⟩
 .intro hk i w w' _ hS _ R h
  have dv:s≠i:=by rintro rfl;simp at hS
  have e:GU hk i s=hk s:=by simp[GU,dv]
  refine⟨λK=>nC w w' R (h.1 (e▸K)),λK=>?_⟩;obtain⟨M,V,h3,h4⟩:=h.2 (e▸K);have:=wg kk (yO cs hk i);exact⟨M,by omega,h3.below R,AP h4 (AY R _)⟩
 .intro i hi hS o E a w Z hk J D H hs O
  refine fT i hi hS o E a w Z hk J D (λhr=>?_) hs O;have K:hk s=false:=by
   cases hx:hk s with
   |false=>rfl
   |true=>exact absurd (VU D.out.2.2 hx hr) (by rw[D.out.1];decide)
  obtain⟨_,_,_,h⟩:=H.2 K;exact h
 .intro i hi hS o E a w Z hk J D H hs O
  by_cases jD:i=s
  .subst jD
   obtain⟨M,V,h3,h4⟩:=H.2 D.out.1;refine fQ o E a w Z hk J D (h3.mono (by omega)) h4 hs (AA λv w' hA=>O.out v w' ?_ ⟨λ_=>hA,λh=>by simp[GU] at h⟩ λj gx hj _ h=>?_)
   .have e:o.dst=none:=by rw[E] at kO;exact kO
    rw[e];exact RF.of mO
   .exact RF.mono (λh=>⟨h.1,λV=>by simp[GU] at V⟩) h
  .have hc:cs.contains i=true:=by simpa[jD] using hS
   have h3:=xZ.1 mT i (by simpa using hc);simp only[yu,decide_eq_true_eq] at h3;obtain⟨⟨_,hr⟩,hd⟩:=h3;have K:hk s=false:=by
    cases hx:hk s with
    |false=>rfl
    |true=>exact absurd (VU D.out.2.2 hx hr) (by rw[D.out.1];decide)
   have e:GU hk i s=hk s:=by simp[GU,Ne.symm jD]
   refine dp i hi hc o E a w Z hk J D (H.2 K) hs (AA λv w' X V hv hD hW=>O.out v w' ?_ ⟨λh=>(by rw[e,K] at h;cases h),λ_=>hD⟩ λj gx hj _ h=>?_)
   .obtain⟨d,hd⟩:=Option.isSome_iff_exists.1 hd
    have e2:o.dst=some d:=by rw[E] at hd;exact hd
    rw[e2];unfold RF;rw[hv];exact⟨X,λ_=>V⟩
   .exact RF.mono (λh=>⟨h.1,λV=>hst j hj _ _ _ hW (h.2 (Dc V))⟩) h
 .intro vs w hk hL hR H
  exact eM vs w hk hR (H.1 (hL s mM))
theorem fR{s:Nat}{U:Nat->Value->Prop}{F:FuncId}{vs:Array Value}{Pv:Value->World->Prop}{k:Nat}(E:l[i]?=some o)(HQ:Hid (∀v w',U i v->hb i v w'->EV h2 i=none->Xb Y g W0 N0 kk c cs (GU hk i) w'->w.grownBy w' (some g)->hs (a.put o.dst v) w'))(Z:Hid (Yk l n a0 a))(J:Hid (Xd l n h2 (aw s U hb) hk a w))(D:Hid (XJ l i hk))(H:Xb Y g W0 N0 kk c cs hk w)
 (hc:∀M,M<=N0+kk*c->Dr Y g M w->W0.grownBy w (some g)->Calls P F vs w (J2 Y g (M+k) w Pv))(L:k<=kk:=by decide)(hR:∀v w',Pv v w'->U i v/\hb i v w')(hv:EV h2 i=none:=by rfl)(hi:cs.contains i=true:=by rfl)
 (e:l[i]?=some o':=by rfl)(hw:PD l n i h2 o'=some true:=by kernel_rfl)(hr:(execOp (Wn l n i h2 a0 a) o').run P w=.ok (.enter F vs) w:=by kernel_rfl):AX P l o a w hs Q:=by
 obtain rfl:=yF (E.symm.trans e);refine⟨λ_=>?_,λh=>absurd ((Nm J D hw).symm.trans h) (by decide)⟩;unfold Oper.wp;rw[<-Pa Z J D,hr,Oper.upon_enter];obtain⟨M,hM,hD,hW⟩:=H;refine(hc M (by omega) hD hW).mono ?_;intro x w' h;obtain⟨v,rfl,X,V,h3⟩:=h;have hl:=Y2 cs hk i hi D.out.1;obtain⟨r1,r2⟩:=hR v w' X;refine HQ.out v w' r1 r2 hv ⟨M+kk,?_,V.mono (by omega),AP hW h3⟩ h3;have:=wg kk hl;rw[Nat.mul_add,wB] at this;omega
theorem dK{m:Int}(E:l[i]?=some o)(HQ:Hid (cO h2 hb Y g W0 N0 kk c cs hk i o a w hs))(Z:Hid (cZ l n a0 a))(J:Hid (cf l i h2 hb a w))(D:Hid (hk i=false))(H:Xb Y g W0 N0 kk c cs hk w)(hN:N0+kk*c<=1000000)(hm:0<m/\m<=1000000:=by decide)
 (e:l[i]?=some o':=by rfl)(hr:(execOp (Zj l n i h2 a0 a) o').run prog w=.ok (.enter 48 #[.pointer (some ⟨g,0,none⟩),.int .i64 m]) w:=by kernel_rfl)
 (hw:LG l i h2 o'=some true:=by kernel_rfl)(L:1<=kk:=by decide)(hR:∀v w',Pk m v->RV h2 hb i v w':=by exact λ_ _ h=>h)(hi:cs.contains i=true:=by rfl):AX prog l o a w hs Q:=
 cj (Pv:=Pk m) (k:=1) E HQ Z J D H (λM hM hD hW=>(hD.pick m (by omega) hm.2).mono λ_ _ h=>by obtain⟨x,rfl,h0,X,V,h3⟩:=h;exact⟨_,rfl,⟨x,rfl,h0,X hm.1⟩,V,h3⟩) L hR hi e hw hr
theorem fK{s:Nat}{U:Nat->Value->Prop}{m:Int}(E:l[i]?=some o)(HQ:Hid (∀v w',U i v->hb i v w'->EV h2 i=none->Xb Y g W0 N0 kk c cs (GU hk i) w'->w.grownBy w' (some g)->hs (a.put o.dst v) w'))(Z:Hid (Yk l n a0 a))(J:Hid (Xd l n h2 (aw s U hb) hk a w))(D:Hid (XJ l i hk))(H:Xb Y g W0 N0 kk c cs hk w)(hN:N0+kk*c<=1000000)(hm:0<m/\m<=1000000:=by decide)
 (e:l[i]?=some o':=by rfl)(hr:(execOp (Wn l n i h2 a0 a) o').run prog w=.ok (.enter 48 #[.pointer (some ⟨g,0,none⟩),.int .i64 m]) w:=by kernel_rfl)
 (hw:PD l n i h2 o'=some true:=by kernel_rfl)(L:1<=kk:=by decide)(hR:∀v w',Pk m v->U i v/\hb i v w':=by exact λ_ _ h=>⟨h,trivial⟩)(hv:EV h2 i=none:=by rfl)(hi:cs.contains i=true:=by rfl):AX prog l o a w hs Q:=
 fR (Pv:=λv _=>Pk m v) (k:=1) E HQ Z J D H (λM hM hD hW=>(hD.pick m (by omega) hm.2).mono λ_ _ h=>by obtain⟨x,rfl,h0,X,V,h3⟩:=h;exact⟨_,rfl,⟨x,rfl,h0,X hm.1⟩,V,h3⟩) L hR hv hi e hw hr
end
structure Uc(w0:World)(g N:Nat)(w:World)(T n b:Nat)(cs:Array Value)(wr:World):Prop where
 dr:Dr w0 g N wr
 gr:w.grownBy wr (some g)
 lt:w.heap.size<b
 glt:g<w.heap.size
 lo:w0.heap.size<=w.heap.size
 yK:wr.heap[b]?=some (.cells cs T (0,0))
 res:∃rs:Array Value,rs.size=n/\wr.heap[w.heap.size]?=some (.cells rs T (0,0))
section
variable {Y w wr w':World} {g N M T n b:Nat} {cs:Array Value}
theorem Uc.draw(h:Uc Y g N w T n b cs wr)(hd:Dr Y g M w')(hg:wr.grownBy w' (some g)):Uc Y g M w T n b cs w':=by
 have yL:∀{q:Nat} {o:Obj},w.heap.size<=q->wr.heap[q]?=some o->w'.heap[q]?=some o:=λ{q o} hq R=>(hg.block q (AW R) (by have:=h.glt;simp;omega)).trans R
 obtain⟨rs,X,V⟩:=h.res;exact⟨hd,AP h.gr hg,h.lt,h.glt,h.lo,yL (uA h.lt) h.yK,rs,X,yL (yv _) V⟩
theorem Uc.pk(h:Uc Y g N w T n b cs wr)(m:Int)(hN:N<=900000:=by omega)(h0:0<m:=by decide)(hm:m<=1000000:=by decide):Calls prog 48 #[.pointer (some ⟨g,0,none⟩),.int .i64 m] wr λe' w'=>∃x:Int,e'=.returned (.int .i64 x)/\0<=x/\x<m/\Uc Y g (N+1) w T n b cs w':=
 (h.dr.pick m (by omega) hm).mono λ_ _ hp=>by obtain⟨x,rfl,X,V,h3,h4⟩:=hp;exact⟨x,rfl,X,V h0,h.draw h3 h4⟩
theorem Uc.set(h:Uc Y g N w T n b cs wr)(j:Nat)(u:Value){cs':Array Value}(e:cs.setIfInBounds j u=cs'):Uc Y g N w T n b cs' (wr.setCell ⟨b,j,none⟩ u):=by
 have R:=yq wr b j _ _ u h.yK;obtain⟨rs,X,V⟩:=h.res;have:=h.lt;have:=h.lo;have:=h.glt;exact⟨h.dr.set (by omega) (by omega),Ci h.gr (by omega) _,h.lt,h.glt,h.lo,by rw[R,e],rs,X,(tV wr ⟨b,j,none⟩ _ _ (λe=>by simp at e;omega)).trans V⟩
theorem Uc.start{T n:Nat}{cs x1:Array Value}{w1:World}(X:Dr Y g N w1)(g1:(w.alloc (.cells x1 T)).grownBy w1 (some g))(hz:x1.size=n)(cy:g<w.heap.size)(ay:Y.heap.size<=w.heap.size):Uc Y g N w T n w1.heap.size cs (w1.alloc (.cells cs T)):=by have K:=g1.size;simp at K;have B0:=yi w (.cells x1 T);have B1:=(g1.block w.heap.size (by simp) (by simp;omega)).trans B0;exact⟨X.alloc _,HJ (AP (AY (AI _ _) _) g1) _,by omega,cy,ay,yi _ _,x1,hz,AB B1 (AI _ _)⟩
end
theorem Uc.mono{Y w wr:World}{g N M T n b:Nat}{cs:Array Value}(h:Uc Y g N w T n b cs wr)(hm:N<=M):Uc Y g M w T n b cs wr:=⟨h.dr.mono hm,h.gr,h.lt,h.glt,h.lo,h.yK,h.res⟩
theorem LX{w:World}{g T:Nat}{a b c:Value}(h:w.heap[g]?=some (.cells #[a,b,c] T (0,0))):w.cell? ⟨g,0,none⟩=some a/\w.cell? ⟨g,1,none⟩=some b/\w.cell? ⟨g,2,none⟩=some c:=⟨ym w g 0 _ _ _ h,ym w g 1 _ _ _ h,ym w g 2 _ _ _ h⟩
theorem NM{w w1:World}{g:Nat}(xs:List Int)(t:Nat)(az:(w.alloc (.cells (xs.map (xY .i64)).toArray t)).grownBy w1 (some g))(ac:g<w.heap.size){y:Nat}(hy:y<xs.length):∃q:Int,w1.cell? ⟨w.heap.size,y,none⟩=some (.int .i64 q):=
 ⟨xs[y],DO az ac (by simp[hy])⟩
theorem cU{Y w wr:World}{g N M T:Nat}{rs:Array Value}{v0 v1 v2 v3:Value}(hd:Dr Y g N wr)(hg:w.grownBy wr (some g))(cy:g<w.heap.size)(ay:Y.heap.size<=w.heap.size)(K:rs.size=4)(hB:wr.heap[w.heap.size]?=some (.cells rs T (0,0)))(hM:N<=M){P:Value->Prop}(hP:P (.agg #[v0,v1,v2,v3])):
 ((((wr.setCell ⟨w.heap.size,0,none⟩ v0).setCell ⟨w.heap.size,1,none⟩ v1).setCell ⟨w.heap.size,2,none⟩ v2).setCell ⟨w.heap.size,3,none⟩ v3).heap[w.heap.size]?=some (.cells #[v0,v1,v2,v3] T (0,0))/\
 GE Y g M w P (.returned (.agg #[v0,v1,v2,v3])) ((((wr.setCell ⟨w.heap.size,0,none⟩ v0).setCell ⟨w.heap.size,1,none⟩ v1).setCell ⟨w.heap.size,2,none⟩ v2).setCell ⟨w.heap.size,3,none⟩ v3):=by
 obtain⟨a0,a1,a2,a3,rfl⟩:∃a0 a1 a2 a3,rs= #[a0,a1,a2,a3]:=by
  match rs,K with
  |⟨[a0,a1,a2,a3]⟩,_=>exact⟨a0,a1,a2,a3,rfl⟩
 have n1:w.heap.size≠g:=by omega
 have n3:w.heap.size<=w.heap.size:=yv _;exact⟨Cx hB,_,rfl,hP,((((hd.set n1 ay).set n1 ay).set n1 ay).set n1 ay).mono hM,Ci (Ci (Ci (Ci hg n3 _) n3 _) n3 _) n3 _⟩
theorem bG{Y w wr:World}{g N M T:Nat}{rs:Array Value}{v0 v1 v2:Value}(hd:Dr Y g N wr)(hg:w.grownBy wr (some g))(cy:g<w.heap.size)(ay:Y.heap.size<=w.heap.size)(K:rs.size=3)(hB:wr.heap[w.heap.size]?=some (.cells rs T (0,0)))(hM:N<=M){P:Value->Prop}(hP:P (.agg #[v0,v1,v2])):
 (((wr.setCell ⟨w.heap.size,0,none⟩ v0).setCell ⟨w.heap.size,1,none⟩ v1).setCell ⟨w.heap.size,2,none⟩ v2).heap[w.heap.size]?=some (.cells #[v0,v1,v2] T (0,0))/\
 GE Y g M w P (.returned (.agg #[v0,v1,v2])) (((wr.setCell ⟨w.heap.size,0,none⟩ v0).setCell ⟨w.heap.size,1,none⟩ v1).setCell ⟨w.heap.size,2,none⟩ v2):=by
 obtain⟨a0,a1,a2,rfl⟩:∃a0 a1 a2,rs= #[a0,a1,a2]:=by
  match rs,K with
  |⟨[a0,a1,a2]⟩,_=>exact⟨a0,a1,a2,rfl⟩
 have n1:w.heap.size≠g:=by omega
 have n3:w.heap.size<=w.heap.size:=yv _;have h0:=yq wr w.heap.size 0 _ _ v0 hB;have X:=yq _ w.heap.size 1 _ _ v1 h0;have V:=yq _ w.heap.size 2 _ _ v2 X;exact⟨by simpa using V,_,rfl,hP,(((hd.set n1 ay).set n1 ay).set n1 ay).mono hM,Ci (Ci (Ci hg n3 _) n3 _) n3 _⟩
theorem Tw{Y w:World}{g N:Nat}(h:Dr Y g N w)(hN:N<=900000):
 Calls prog 231 #[.pointer (some ⟨g,0,none⟩)] w (GE Y g (N+2) w λv=>∃x:Int,v=.int .i64 x):=by
 go_in;go_wp2_with fail;refine(h.pick _).mono ?_;rintro e w1 ⟨x,rfl,gt,dy,X,g1⟩
 by_cases hx:x=0
 .subst hx
  go_wp2_with fail;refine((X.alloc _).pick _).mono ?_;rintro e w2 ⟨y,rfl,ey,cx,V,g2⟩;have cx:=cx (by decide);have c0:=DO (j:=0) g2 X.lt rfl;have c1:=DO (j:=1) g2 X.lt rfl;have c2:=DO (j:=2) g2 X.lt rfl;have G:=AA (AP g1 (AP (AY (AI _ _) _) g2));clear g1 g2
  rcases(show y=0∨y=1∨y=2 by omega) with rfl|rfl|rfl
  all_goals
   go_wp2_with fail;go_ret;exact⟨_,rfl,⟨_,rfl⟩,V,G.out⟩
 .have t0:(x==0)=false:=by simp[hx]
  clear hx;go_wp2_with (refine(X.pick _).mono ?_;rintro e w2 ⟨y,rfl,ey,cx,V,g2⟩;have G:=AA (AP g1 g2);clear g1 g2);go_ret;exact⟨_,rfl,⟨_,rfl⟩,V,G.out⟩
theorem MY{Y w:World}{g N:Nat}(h:Dr Y g N w)(hN:N<=800000):
 Calls prog 195 #[.pointer (some ⟨g,0,none⟩)] w (GE Y g (N+8) w λv=>∃x:Ad,v=.agg #[.int .i64 x.e,.int .i64 x.p,.int .i64 x.f,.bool x.w]):=by
 have ac:=h.lt;have bp:Y.heap.size<=w.heap.size:=h.2.1.size;go_in;go_wp2_with fail;refine((h.alloc _).pick _).mono ?_;rintro e w1 ⟨x,rfl,_,_,X,g1⟩;go_wp2_with fail;refine(X.pick _).mono ?_;rintro e w2 ⟨y,rfl,_,_,V,g2⟩;go_wp2_with fail;refine(V.pick _).mono ?_;rintro e w3 ⟨f,rfl,_,_,h3,g3⟩;have A:=Uc.start (T:=112) (n:=4) (cs:= #[.int .i64 x,.int .i64 y,.int .i64 f,.bool false]) h3 (AP (AP g1 g2) g3) rfl ac bp;clear h X V h3 g1 g2 g3;go_wp2_with fail;generalize w3.alloc _=w4 at A ⊢;generalize w3.heap.size=b at A ⊢;refine(A.pk _).mono ?_;rintro e w5 ⟨x1,rfl,_,_,S5⟩;clear A;obtain⟨c0,c1,c2,c3⟩:=AE S5.yK;have fz:=AK S5.yK;go_wp2_with fail;have S6:=S5.set (cs':= #[.int .i64 x,.int .i64 y,.int .i64 f,.bool (x1==0)]) 3 (.bool (x1==0)) (by simp);refine(S6.pk _).mono ?_;rintro e w7 ⟨u,rfl,_,_,A⟩;clear S5 S6 c0 c1 c2 c3 fz;have dY:=A.lt;go_upto_block 0 with fail;go_cut [] (λwx=>∃x:Ad,Uc Y g (N+8) w 112 4 b #[.int .i64 x.e,.int .i64 x.p,.int .i64 x.f,.bool x.w] wx)
 case first=>
  by_cases u0:u=0
  .subst u0
   go_wp2_with fail;have dn:=A.dr.lt;have SA:=A.draw (A.dr.alloc (.cells #[.int .i64 (-1),.int .i64 3] 3)) (AY (AI _ _) _);refine(SA.dr.pick _).mono ?_;rintro e w6 ⟨k9,rfl,k0,k1,h6,g6⟩;replace k1:=k1 (by decide);obtain⟨k9,rfl⟩:=xQ k0;obtain⟨q,hq⟩:=NM [-1,3] 3 g6 dn (y:=k9) (by simp;omega);have S6:=SA.draw h6 g6;clear A SA g6 h6 dn;obtain⟨c0,c1,c2,c3⟩:=AE S6.yK;have fz:=AK S6.yK;go_wp2_with fail;go_meet;exact⟨⟨q,y,f,x1==0⟩,(S6.set 0 _ (by simp)).mono (by omega)⟩
  have t0:(u==0)=false:=by simp[u0]
  by_cases u1:u=1
  .subst u1
   clear u0;go_wp2_with fail;have dn:=A.dr.lt;have SA:=A.draw (A.dr.alloc (.cells #[.int .i64 (-1),.int .i64 15,.int .i64 16] 3)) (AY (AI _ _) _);refine(SA.dr.pick _).mono ?_;rintro e w6 ⟨k9,rfl,k0,k1,h6,g6⟩;replace k1:=k1 (by decide);obtain⟨k9,rfl⟩:=xQ k0;obtain⟨q,hq⟩:=NM [-1,15,16] 3 g6 dn (y:=k9) (by simp;omega);have S6:=SA.draw h6 g6;clear A SA g6 h6 dn;obtain⟨c0,c1,c2,c3⟩:=AE S6.yK;have fz:=AK S6.yK;go_wp2_with fail;go_meet;exact⟨⟨x,q,f,x1==0⟩,(S6.set 1 _ (by simp)).mono (by omega)⟩
  have t1:(u==1)=false:=by simp[u1]
  by_cases u2:u=2
  .subst u2
   clear u0 u1;go_wp2_with fail;refine(Tw A.dr (by omega)).mono ?_;rintro e w8 ⟨_,rfl,⟨q,rfl⟩,h8,g8⟩;have S6:=A.draw h8 g8;clear A h8 g8;obtain⟨c0,c1,c2,c3⟩:=AE S6.yK;have fz:=AK S6.yK;go_wp2_with fail;go_meet;exact⟨⟨x,y,q,x1==0⟩,(S6.set 2 _ (by simp)).mono (by omega)⟩
  have t2:(u==2)=false:=by simp[u2]
  clear u0 u1 u2;go_wp2_with fail;go_meet;exact⟨⟨x,y,f,x1==0⟩,A.mono (by omega)⟩
 case rest=>
  clear A;obtain⟨z,S6⟩:=hcut;obtain⟨c0,c1,c2,c3⟩:=AE S6.yK;have fz:=AK S6.yK;obtain⟨rs,gN,ef⟩:=S6.res;have fE:=AK ef;obtain⟨BX,FX⟩:=cU (v0:=.int .i64 z.e) (v1:=.int .i64 z.p) (v2:=.int .i64 z.f) (v3:=.bool z.w) S6.dr S6.gr S6.glt S6.lo gN ef (yv _) (P:=λv=>∃x:Ad,v=.agg #[.int .i64 x.e,.int .i64 x.p,.int .i64 x.f,.bool x.w]) ⟨z,rfl⟩;obtain⟨r0,r1,r2,r3,rfl⟩:∃r0 r1 r2 r3,rs= #[r0,r1,r2,r3]:=by
   match rs,gN with
   |⟨[a0,a1,a2,a3]⟩,_=>exact⟨a0,a1,a2,a3,rfl⟩
  obtain⟨d0,d1,d2,d3⟩:=AE ef;have BH:=AA BX;have FH:=AA FX;clear BX FX ef S6;go_wp2_with fail;exact yr (v:=.agg #[_,_,_,_]) (by simp[results,Tryz.results195,go_sem,AE BH.out]) rfl FH.out
def Mx(v:Value):Prop:=∃x:AV,x.g.size<=8/\v=.agg #[.int .i64 x.k,.string x.g,.int .i64 x.r]
theorem VF{Y w:World}{g N:Nat}(h:Dr Y g N w)(hN:N<=800000):
 Calls prog 143 #[.pointer (some ⟨g,0,none⟩)] w (GE Y g (N+10) w Mx):=by
 have ac:=h.lt;have bp:Y.heap.size<=w.heap.size:=h.2.1.size;go_in;go_wp2_with fail;refine((h.alloc _).pick _).mono ?_;rintro e w1 ⟨x,rfl,_,_,X,g1⟩
 by_cases x0:x=0
 .subst x0
  have B0:=yi w (.cells #[.int .i64 0,.string ⟨#[]⟩,.int .i64 0] 92);have B1:=(g1.block w.heap.size (by simp) (by simp;omega)).trans B0;have fE:=AK B1;obtain⟨d0,d1,d2⟩:=LX B1;obtain⟨BX,FX⟩:=bG (v0:=.int .i64 0) (v1:=.string ⟨#[]⟩) (v2:=.int .i64 0) X (AP (AY (AI _ _) _) g1) ac bp rfl B1 (M:=N+10) (by omega) (P:=Mx) ⟨⟨0,⟨#[]⟩,0⟩,by decide,rfl⟩;have BH:=AA BX;have FH:=AA FX;clear BX FX B0 B1 X g1 h;go_wp2_with fail;exact yr (v:=.agg #[_,_,_]) (by simp[results,rR,go_sem,LX BH.out]) rfl FH.out
 have t9:(x==0)=false:=by simp[x0]
 clear x0;go_wp2_with fail;refine(X.pick _).mono ?_;rintro e w2 ⟨x,rfl,_,_,V,g2⟩;go_wp2_with fail;refine(OO w2.heap.size 5 [⟨#[97]⟩,⟨#[97]⟩,⟨#[98]⟩,⟨#[97,98]⟩,⟨#[]⟩] (V.alloc _) (by omega) rfl (by decide) (by decide) (by have:=V.lt;omega) (by simp) (λk L=>KV w2 [⟨#[97]⟩,⟨#[97]⟩,⟨#[98]⟩,⟨#[97,98]⟩,⟨#[]⟩] _ L)).mono ?_;rintro e w3 ⟨v,rfl,⟨s,K,rfl⟩,h3,g3⟩;have gU:s.size<=8:=by
  simp only[xD,wD,or_false] at K
  rcases K with rfl|rfl|rfl|rfl|rfl<;>decide
 clear K;go_wp2_with fail;refine(h3.pick _).mono ?_;rintro e w4 ⟨y,rfl,y0,y1,h4,g4⟩;replace y1:=y1 (by decide);go_wp2_with fail;refine(h4.pick _).mono ?_;rintro e w5 ⟨f,rfl,f0,f1,h5,g5⟩;replace f1:=f1 (by decide);have A:=Uc.start (T:=92) (n:=3) (cs:= #[.int .i64 (1+x),.string s,.int .i64 (wrap64 (y*f))]) h5 (AP (AP (AP g1 g2) (AP (AY (AI _ _) _) g3)) (AP g4 g5)) rfl ac bp;clear h X V h3 h4 h5 g1 g2 g3 g4 g5;go_wp2_with fail;generalize w5.alloc _=w7 at A ⊢;generalize w5.heap.size=b at A ⊢;generalize wrap64 (y*f)=r at A ⊢;generalize 1+x=k at A ⊢;refine(A.pk _).mono ?_;rintro e w8 ⟨u,rfl,_,_,S8⟩;clear A;have A:=S8;clear S8;have dY:=A.lt;go_upto_block 0 with fail;go_cut [] (λwx=>∃x:AV,x.g.size<=8/\Uc Y g (N+10) w 92 3 b #[.int .i64 x.k,.string x.g,.int .i64 x.r] wx)
 case first=>
  by_cases u0:u=0
  .subst u0
   go_wp2_with fail;have dn:=A.dr.lt;have SA:=A.draw (A.dr.alloc (.cells #[.int .i64 (-1),.int .i64 0,.int .i64 4] 3)) (AY (AI _ _) _);refine(SA.dr.pick _).mono ?_;rintro e w6 ⟨k9,rfl,k0,k1,h6,g6⟩;replace k1:=k1 (by decide);obtain⟨k9,rfl⟩:=xQ k0;obtain⟨q,hq⟩:=NM [-1,0,4] 3 g6 dn (y:=k9) (by simp;omega);have S6:=SA.draw h6 g6;clear A SA g6 h6 dn;obtain⟨c0,c1,c2⟩:=LX S6.yK;have fz:=AK S6.yK;go_wp2_with fail;go_meet;exact⟨⟨q,s,r⟩,gU,(S6.set 0 _ (by simp)).mono (by omega)⟩
  have t0:(u==0)=false:=by simp[u0]
  by_cases u1:u=1
  .subst u1
   clear u0;go_wp2_with fail;refine(JU A.dr (by omega)).mono ?_;rintro e w9 ⟨_,rfl,⟨q,kR,rfl⟩,h8,g8⟩;have S6:=A.draw h8 g8;clear A h8 g8;obtain⟨c0,c1,c2⟩:=LX S6.yK;have fz:=AK S6.yK;go_wp2_with fail;go_meet;exact⟨⟨k,q,r⟩,kR,(S6.set 1 _ (by simp)).mono (by omega)⟩
  have t1:(u==1)=false:=by simp[u1]
  by_cases u2:u=2
  .subst u2
   clear u0 u1;go_wp2_with fail;have dn:=A.dr.lt;have SA:=A.draw (A.dr.alloc (.cells #[.int .i64 (-1),.int .i64 50,.int .i64 51] 3)) (AY (AI _ _) _);refine(SA.dr.pick _).mono ?_;rintro e w6 ⟨k9,rfl,k0,k1,h6,g6⟩;replace k1:=k1 (by decide);obtain⟨k9,rfl⟩:=xQ k0;obtain⟨q,hq⟩:=NM [-1,50,51] 3 g6 dn (y:=k9) (by simp;omega);have S6:=SA.draw h6 g6;clear A SA g6 h6 dn;obtain⟨c0,c1,c2⟩:=LX S6.yK;have fz:=AK S6.yK;go_wp2_with fail;go_meet;exact⟨⟨k,s,q⟩,gU,(S6.set 2 _ (by simp)).mono (by omega)⟩
  have t2:(u==2)=false:=by simp[u2]
  clear u0 u1 u2;go_wp2_with fail;go_meet;exact⟨⟨k,s,r⟩,gU,A.mono (by omega)⟩
 case rest=>
  clear A;obtain⟨z,mG,S6⟩:=hcut;obtain⟨c0,c1,c2⟩:=LX S6.yK;have fz:=AK S6.yK;obtain⟨rs,gN,ef⟩:=S6.res;have fE:=AK ef;obtain⟨BX,FX⟩:=bG (v0:=.int .i64 z.k) (v1:=.string z.g) (v2:=.int .i64 z.r) S6.dr S6.gr S6.glt S6.lo gN ef (yv _) (P:=Mx) ⟨z,mG,rfl⟩;obtain⟨r0,r1,r2,rfl⟩:∃r0 r1 r2,rs= #[r0,r1,r2]:=by
   match rs,gN with
   |⟨[a0,a1,a2]⟩,_=>exact⟨a0,a1,a2,rfl⟩
  obtain⟨d0,d1,d2⟩:=LX ef;have BH:=AA BX;have FH:=AA FX;clear BX FX ef S6;go_wp2_with fail;exact yr (v:=.agg #[_,_,_]) (by simp[results,rR,go_sem,LX BH.out]) rfl FH.out
theorem IT{w w1 w2:World}{g q:Nat}(h:w.grownBy w1 (some g))(V:w1.grownBy w2 (some q))(hq:w.heap.size<=q):w.grownBy w2 (some g):=
 ⟨V.os.trans h.os,V.tape.trans h.tape,V.output.trans h.output,yB h.size V.size,λk L dv=>(V.block k (xW L h.size) (λe=>by cases e;omega)).trans (h.block k L dv)⟩
structure Mf(ok:AO->Prop)(w0:World)(g N:Nat)(w:World)(b:Nat)(m i e c:Value)(k:AO)(wr:World):Prop where
 dr:Dr w0 g N wr
 gr:w.grownBy wr (some g)
 yI:Il (w.heap.size+1) wr b m i e c k
 good:ok k
 glt:g<w.heap.size
 lo:w0.heap.size<=w.heap.size
 lt:w.heap.size<b
 res:∃a0 a1 a2 a3,wr.heap[w.heap.size]?=some (.cells #[a0,a1,a2,a3] 28 (0,0))
section
variable {ok:AO->Prop} {Y w wr w':World} {g N M b:Nat} {m i e c m' i' e' c':Value} {k k':AO}
theorem Mf.draw(h:Mf ok Y g N w b m i e c k wr)(hd:Dr Y g M w')(hg:wr.grownBy w' (some g)):Mf ok Y g M w b m i e c k w':=by
 have cy:=h.glt;have hp:∀b',some g=some b'->b'<w.heap.size+1:=λb' e=>by cases e;omega
 have jr:∀b',some g=some b'->b'<w.heap.size:=λb' e=>by cases e;exact cy
 obtain⟨a0,a1,a2,a3,X⟩:=h.res;exact⟨hd,AP h.gr hg,⟨Fy h.yI.1 h.yI.2.1 hg hp,h.yI.2.1,h.yI.2.2.past hg hp⟩,h.good,cy,h.lo,h.lt,a0,a1,a2,a3,Fy X (yv _) hg jr⟩
theorem Mf.below(h:Mf ok Y g N w b m i e c k wr)(R:Below wr.heap.size wr w'):Mf ok Y g N w b m i e c k w':=h.draw (h.dr.below R) (AY R _)
theorem Mf.mono(h:Mf ok Y g N w b m i e c k wr)(hm:N<=M):Mf ok Y g M w b m i e c k wr:=⟨h.dr.mono hm,h.gr,h.yI,h.good,h.glt,h.lo,h.lt,h.res⟩
theorem Mf.pk(h:Mf ok Y g N w b m i e c k wr)(n:Int)(hN:N<=900000:=by omega)(h0:0<n:=by decide)(hn:n<=1000000:=by decide):Calls prog 48 #[.pointer (some ⟨g,0,none⟩),.int .i64 n] wr λe' w'=>∃x:Int,e'=.returned (.int .i64 x)/\0<=x/\x<n/\Mf ok Y g (N+1) w b m i e c k w':=
 (h.dr.pick n (by omega) hn).mono λ_ _ hp=>by obtain⟨x,rfl,X,V,h3,h4⟩:=hp;exact⟨x,rfl,X,V h0,h.draw h3 h4⟩
theorem bd{b0 b1 b2 b3:Value}(hd:Dr Y g N wr)(hg:w.grownBy wr (some g))(hB:wr.heap[b]?=some (.cells #[b0,b1,b2,b3] 28 (0,0)))(HK:Da (w.heap.size+1) wr m' i' e' c' k')(L:ok k')(h3:g<w.heap.size)(V:Y.heap.size<=w.heap.size)(X:w.heap.size<b)(db:∃a0 a1 a2 a3,wr.heap[w.heap.size]?=some (.cells #[a0,a1,a2,a3] 28 (0,0))):Mf ok Y g N w b m' i' e' c' k' ((((wr.setCell ⟨b,0,none⟩ m').setCell ⟨b,1,none⟩ i').setCell ⟨b,2,none⟩ e').setCell ⟨b,3,none⟩ c'):=by
 have az:=Ao wr b m' i' e' c';obtain⟨a0,a1,a2,a3,h4⟩:=db;have n1:b≠g:=by omega
 have n2:Y.heap.size<=b:=by omega
 have n3:w.heap.size<=b:=by omega
 exact⟨(((hd.set n1 n2).set n1 n2).set n1 n2).set n1 n2,Ci (Ci (Ci (Ci hg n3 _) n3 _) n3 _) n3 _,⟨Cx hB,X,HK.yL az hB⟩,L,h3,V,X,a0,a1,a2,a3,(az.block _ (AW h4) (by simp;omega)).trans h4⟩
end
def dA(ok:AO->Prop)(Y:World)(g N:Nat)(w:World):Ending->World->Prop:=J2 Y g N w λv w'=>∃m i e c k,v=.agg #[m,i,e,c]/\PK w.heap.size w' m i e c k/\ok k
def JQ(ok:AO->Prop)(Y:World)(g N:Nat)(w:World)(b:Nat)(wr:World):Prop:=∃m i e c k,Dr Y g N wr/\w.grownBy wr (some g)/\wr.heap[b]?=some (.cells #[m,i,e,c] 28 (0,0))/\PK w.heap.size wr m i e c k/\ok k/\∃a0 a1 a2 a3,wr.heap[w.heap.size]?=some (.cells #[a0,a1,a2,a3] 28 (0,0))
theorem Mf.ke{ok ok':AO->Prop}{Y w wr w1:World}{g N M b q:Nat}{m i e c m' i' e' c':Value}{k k':AO}(h:Mf ok Y g N w b m i e c k wr)(az:wr.grownBy w1 (some q))(hq:w.heap.size<q)(hB:w1.heap[b]?=some (.cells #[m',i',e',c'] 28 (0,0)))(HK:PK (w.heap.size+1) w1 m' i' e' c' k')(L:ok' k')(hM:N<=M):JQ ok' Y g M w b w1:=by
 obtain⟨a0,a1,a2,a3,h4⟩:=h.res;have X:=h.glt;have V:=h.lo;exact⟨m',i',e',c',k',(h.dr.keep az (by simp;omega) (λk L=>by cases L;omega)).mono hM,IT h.gr az (by omega),hB,HK.map (λ_ _ _ _ _ _ _ h=>BU h (wu _)),L,a0,a1,a2,a3,(az.block _ (AW h4) (by simp;omega)).trans h4⟩
def dC(ok:AO->Prop)(Y:World)(g N:Nat)(w:World)(m i e c:Value)(W:World):Prop:=W.heap[w.heap.size]?=some (.cells #[m,i,e,c] 28 (0,0))/\dA ok Y g N w (.returned (.agg #[m,i,e,c])) W
theorem bg{ok:AO->Prop}{Y w wr:World}{g N M:Nat}{m i e c a0 a1 a2 a3:Value}{k:AO}(hd:Dr Y g N wr)(hg:w.grownBy wr (some g))(S:PK w.heap.size wr m i e c k)(L:ok k)(cy:g<w.heap.size)(ay:Y.heap.size<=w.heap.size)(hB:wr.heap[w.heap.size]?=some (.cells #[a0,a1,a2,a3] 28 (0,0)))(hM:N<=M):
 dC ok Y g M w m i e c ((((wr.setCell ⟨w.heap.size,0,none⟩ m).setCell ⟨w.heap.size,1,none⟩ i).setCell ⟨w.heap.size,2,none⟩ e).setCell ⟨w.heap.size,3,none⟩ c):=by
 have az:=Ao wr w.heap.size m i e c;have n1:w.heap.size≠g:=by omega
 have n3:=yv w.heap.size;exact⟨Cx hB,_,rfl,⟨_,_,_,_,k,rfl,S.map (KM az hB (.inl rfl) (yv _)),L⟩,((((hd.set n1 ay).set n1 ay).set n1 ay).set n1 ay).mono hM,Ci (Ci (Ci (Ci hg n3 _) n3 _) n3 _) n3 _⟩
structure IQ(ok:AR->Prop)(w0:World)(g N:Nat)(w:World)(b:Nat)(m i e c s l q:Value)(P:AR)(wr:World):Prop where
 dr:Dr w0 g N wr
 gr:w.grownBy wr (some g)
 yG:Gi (w.heap.size+1) b wr m i e c s l q P
 good:ok P
 glt:g<w.heap.size
 lo:w0.heap.size<=w.heap.size
 lt:w.heap.size<b
 res:∃a0 a1 a2 a3 a4 a5 a6 a7 a8,wr.heap[w.heap.size]?=some (.cells #[a0,a1,a2,a3,a4,a5,a6,a7,a8] 32 (0,0))
section
variable {ok:AR->Prop} {Y w wr w':World} {g N M b:Nat} {m i e c s l q m' i' e' c' s' l' q':Value} {P P':AR}
theorem FQ.past'{lo:Nat}{row:Option Nat}(h:FQ lo w m i e c s l q P)(hg:w.grownBy w' row)(hr:∀b,row=some b->b<lo):FQ lo w' m i e c s l q P:=by
 obtain⟨X,⟨vs,V,h3,h4⟩,h5,h6,h7⟩:=h;exact⟨X.past hg hr,⟨vs,Bs V hg hr,h3.mono λ_ _ x=>Bs x hg hr,h4⟩,Bs h5 hg hr,Bs h6 hg hr,h7⟩
theorem IQ.draw(h:IQ ok Y g N w b m i e c s l q P wr)(hd:Dr Y g M w')(hg:wr.grownBy w' (some g)):IQ ok Y g M w b m i e c s l q P w':=by
 have cy:=h.glt;have hp:∀b',some g=some b'->b'<w.heap.size+1:=λb' e=>by cases e;omega
 have jr:∀b',some g=some b'->b'<w.heap.size:=λb' e=>by cases e;exact cy
 obtain⟨a0,a1,a2,a3,a4,a5,a6,a7,a8,X⟩:=h.res;exact⟨hd,AP h.gr hg,⟨Fy h.yG.yK h.yG.yJ hg hp,h.yG.yJ,h.yG.own.past' hg hp⟩,h.good,cy,h.lo,h.lt,a0,a1,a2,a3,a4,a5,a6,a7,a8,Fy X (yv _) hg jr⟩
theorem IQ.below(h:IQ ok Y g N w b m i e c s l q P wr)(R:Below wr.heap.size wr w'):IQ ok Y g N w b m i e c s l q P w':=h.draw (h.dr.below R) (AY R _)
theorem IQ.mono(h:IQ ok Y g N w b m i e c s l q P wr)(hm:N<=M):IQ ok Y g M w b m i e c s l q P wr:=⟨h.dr.mono hm,h.gr,h.yG,h.good,h.glt,h.lo,h.lt,h.res⟩
theorem IQ.pk(h:IQ ok Y g N w b m i e c s l q P wr)(n:Int)(hN:N<=900000:=by omega)(h0:0<n:=by decide)(hn:n<=1000000:=by decide):Calls prog 48 #[.pointer (some ⟨g,0,none⟩),.int .i64 n] wr λe' w'=>∃x:Int,e'=.returned (.int .i64 x)/\0<=x/\x<n/\IQ ok Y g (N+1) w b m i e c s l q P w':=
 (h.dr.pick n (by omega) hn).mono λ_ _ hp=>by obtain⟨x,rfl,X,V,h3,h4⟩:=hp;exact⟨x,rfl,X,V h0,h.draw h3 h4⟩
theorem bz{b0 b1 b2 b3 b4 b5 b6 b7 b8:Value}(hd:Dr Y g N wr)(hg:w.grownBy wr (some g))(hB:wr.heap[b]?=some (.cells #[b0,b1,b2,b3,b4,b5,b6,b7,b8] 32 (0,0)))(HK:FQ (w.heap.size+1) wr m' i' e' c' s' l' q' P')(L:ok P')(h3:g<w.heap.size)(V:Y.heap.size<=w.heap.size)(X:w.heap.size<b)(db:∃a0 a1 a2 a3 a4 a5 a6 a7 a8,wr.heap[w.heap.size]?=some (.cells #[a0,a1,a2,a3,a4,a5,a6,a7,a8] 32 (0,0))):IQ ok Y g N w b m' i' e' c' s' l' q' P' (((Dy wr b m' i' e' c' s' l' q').setCell ⟨b,7,none⟩ (.int .i64 P'.zR)).setCell ⟨b,8,none⟩ (.int .i64 P'.zU)):=by
 obtain⟨n6,o6,dc⟩:=Cp hB HK;obtain⟨a0,a1,a2,a3,a4,a5,a6,a7,a8,h4⟩:=db;exact⟨hd.keep dc (by simp;omega) (λk L=>by cases L;omega),IT hg dc (by omega),⟨n6,X,o6⟩,L,h3,V,X,a0,a1,a2,a3,a4,a5,a6,a7,a8,(dc.block _ (AW h4) (by simp;omega)).trans h4⟩
end
def dB(ok:AR->Prop)(Y:World)(g N:Nat)(w:World):Ending->World->Prop:=J2 Y g N w λv w'=>∃m i e c s l q P,v=AN m i e c s l q P.zR P.zU/\Nr w.heap.size w' m i e c s l q P/\ok P
def Ug(ok:AR->Prop)(Y:World)(g N:Nat)(w:World)(b:Nat)(wr:World):Prop:=∃m i e c s l q P,Dr Y g N wr/\w.grownBy wr (some g)/\wr.heap[b]?=some (.cells #[m,i,e,c,s,l,q,.int .i64 P.zR,.int .i64 P.zU] 32 (0,0))/\Nr w.heap.size wr m i e c s l q P/\ok P/\∃a0 a1 a2 a3 a4 a5 a6 a7 a8,wr.heap[w.heap.size]?=some (.cells #[a0,a1,a2,a3,a4,a5,a6,a7,a8] 32 (0,0))
theorem IQ.pe{ok ok':AR->Prop}{Y w wr w1:World}{g N M b q:Nat}{m i e c s l p m' i' e' c' s' l' p':Value}{P P':AR}(h:IQ ok Y g N w b m i e c s l p P wr)(az:wr.grownBy w1 (some q))(hq:w.heap.size<q)(hB:w1.heap[b]?=some (.cells #[m',i',e',c',s',l',p',.int .i64 P'.zR,.int .i64 P'.zU] 32 (0,0)))(HK:Nr (w.heap.size+1) w1 m' i' e' c' s' l' p' P')(L:ok' P')(hM:N<=M):Ug ok' Y g M w b w1:=by
 obtain⟨a0,a1,a2,a3,a4,a5,a6,a7,a8,h4⟩:=h.res;have X:=h.glt;have V:=h.lo;exact⟨m',i',e',c',s',l',p',P',(h.dr.keep az (by simp;omega) (λk L=>by cases L;omega)).mono hM,IT h.gr az (by omega),hB,HK.map (λ_ _ _ _ _ _ _ h=>BU h (wu _)),L,a0,a1,a2,a3,a4,a5,a6,a7,a8,(az.block _ (AW h4) (by simp;omega)).trans h4⟩
def dD(ok:AR->Prop)(Y:World)(g N:Nat)(w:World)(m i e c s l q:Value)(P:AR)(W:World):Prop:=W.heap[w.heap.size]?=some (.cells #[m,i,e,c,s,l,q,.int .i64 P.zR,.int .i64 P.zU] 32 (0,0))/\dB ok Y g N w (.returned (AN m i e c s l q P.zR P.zU)) W
theorem cA{ok:AR->Prop}{Y w wr:World}{g N M:Nat}{m i e c s l q a0 a1 a2 a3 a4 a5 a6 a7 a8:Value}{P:AR}(hd:Dr Y g N wr)(hg:w.grownBy wr (some g))(S:Nr w.heap.size wr m i e c s l q P)(L:ok P)(cy:g<w.heap.size)(ay:Y.heap.size<=w.heap.size)(hB:wr.heap[w.heap.size]?=some (.cells #[a0,a1,a2,a3,a4,a5,a6,a7,a8] 32 (0,0)))(hM:N<=M):
 dD ok Y g M w m i e c s l q P (((Dy wr w.heap.size m i e c s l q).setCell ⟨w.heap.size,7,none⟩ (.int .i64 P.zR)).setCell ⟨w.heap.size,8,none⟩ (.int .i64 P.zU)):=by
 have az:=EY (w:=wr) (g:=w.heap.size) (b0:=m) (b1:=i) (b2:=e) (b3:=c) (b4:=s) (b5:=l) (b6:=q) (b7:=.int .i64 P.zR) (b8:=.int .i64 P.zU);exact⟨F5 hB,_,rfl,⟨_,_,_,_,_,_,_,P,rfl,S.map (KM az hB (.inr rfl) (yv _)),L⟩,(hd.keep az (by simp;omega) (λk L=>by cases L;exact ay)).mono hM,IT hg az (yv _)⟩
structure LJ(w0:World)(g N:Nat)(w W1:World)(b:Nat)(m i e c s l q:Value)(P:AR)(wr:World):Prop where
 dr:Dr w0 g N wr
 gr:w.grownBy wr (some g)
 yK:wr.heap[b]?=some (.cells #[m,i,e,c,s,l,q,.int .i64 P.zR,.int .i64 P.zU] 32 (0,0))
 sf:Nr (w.heap.size+1) wr m i e c s l q P
 good:Du P
 glt:g<w.heap.size
 lo:w0.heap.size<=w.heap.size
 lt:w.heap.size<b
 sz:W1.heap.size<=wr.heap.size
 kp:∀k,k<W1.heap.size->k≠g->k≠b->wr.heap[k]?=W1.heap[k]?
section
variable {Y w W1 wr w':World} {g N M b:Nat} {m i e c s l q m' i' e' c' s' l' q':Value} {P P':AR}
theorem LJ.draw(h:LJ Y g N w W1 b m i e c s l q P wr)(hd:Dr Y g M w')(hg:wr.grownBy w' (some g)):LJ Y g M w W1 b m i e c s l q P w':=by
 have X:=h.glt;have V:=h.lt;have h3:=h.sz;exact⟨hd,AP h.gr hg,(hg.block b (AW h.yK) (by simp;omega)).trans h.yK,h.sf.map (GD hg (by omega) (yv _)),h.good,X,h.lo,V,yB h3 hg.size,λk L jA jB=>(hg.block k (by omega) (by simp;omega)).trans (h.kp k L jA jB)⟩
theorem LJ.below(h:LJ Y g N w W1 b m i e c s l q P wr)(R:Below wr.heap.size wr w'):LJ Y g N w W1 b m i e c s l q P w':=h.draw (h.dr.below R) (AY R _)
theorem LJ.mono(h:LJ Y g N w W1 b m i e c s l q P wr)(hm:N<=M):LJ Y g M w W1 b m i e c s l q P wr:=⟨h.dr.mono hm,h.gr,h.yK,h.sf,h.good,h.glt,h.lo,h.lt,h.sz,h.kp⟩
theorem LJ.pk(h:LJ Y g N w W1 b m i e c s l q P wr)(n:Int)(hN:N<=900000:=by omega)(h0:0<n:=by decide)(hn:n<=1000000:=by decide):Calls prog 48 #[.pointer (some ⟨g,0,none⟩),.int .i64 n] wr λe' w'=>∃x:Int,e'=.returned (.int .i64 x)/\0<=x/\x<n/\LJ Y g (N+1) w W1 b m i e c s l q P w':=
 (h.dr.pick n (by omega) hn).mono λ_ _ hp=>by obtain⟨x,rfl,X,V,h3,h4⟩:=hp;exact⟨x,rfl,X,V h0,h.draw h3 h4⟩
theorem LJ.put(h:LJ Y g N w W1 b m i e c s l q P wr)(HK:Nr (w.heap.size+1) wr m' i' e' c' s' l' q' P')(L:Du P'):
 LJ Y g N w W1 b m' i' e' c' s' l' q' P' (((Dy wr b m' i' e' c' s' l' q').setCell ⟨b,7,none⟩ (.int .i64 P'.zR)).setCell ⟨b,8,none⟩ (.int .i64 P'.zU)):=by
 have X:=h.glt;have V:=h.lt;have h3:=h.sz;have h4:=h.lo;have dc:=EY (w:=wr) (g:=b) (b0:=m') (b1:=i') (b2:=e') (b3:=c') (b4:=s') (b5:=l') (b6:=q') (b7:=.int .i64 P'.zR) (b8:=.int .i64 P'.zU);exact⟨h.dr.keep dc (by simp;omega) (λk L=>by cases L;omega),IT h.gr dc (by omega),F5 h.yK,HK.map (KM dc h.yK (.inr rfl) (yv _)),L,X,h4,V,yB h3 dc.size,λk L jA jB=>(dc.block k (by omega) (by simp;omega)).trans (h.kp k L jA jB)⟩
end
def Pf(Y:World)(g N:Nat)(w W1:World)(b:Nat)(wr:World):Prop:=∃m i e c s l q P,LJ Y g N w W1 b m i e c s l q P wr
theorem Pf.below{Y w W1 wr w':World}{g N b:Nat}(h:Pf Y g N w W1 b wr)(R:Below wr.heap.size wr w'):Pf Y g N w W1 b w':=by obtain⟨m,i,e,c,s,l,q,P,h⟩:=h;exact⟨m,i,e,c,s,l,q,P,h.below R⟩
def Ob(lo:Nat)(w:World)(v:Value):Prop:=∃m i e c s l q P,v=AN m i e c s l q P.zR P.zU/\Nr lo w m i e c s l q P/\Du P
theorem Ob.past{lo g:Nat}{w w':World}{v:Value}(h:Ob lo w v)(hg:g<lo)(R:w.grownBy w' (some g)):Ob lo w' v:=by obtain⟨m,i,e,c,s,l,q,P,X,V,h3⟩:=h;exact⟨m,i,e,c,s,l,q,P,X,V.map (GD R hg (yv _)),h3⟩
theorem Nr.pgR{lo lo':Nat}{w:World}{m i e c s l q:Value}{P:AR}(h:Nr lo w m i e c s l q P)(L:Du P)(hl:lo'<=lo):Ob lo' w (AN m i e c s l q P.zR P.zU):=⟨m,i,e,c,s,l,q,P,rfl,h.map (λ_ _ _ _ _ _ _ x=>BU x hl),L⟩
theorem JQ.put{ok:AO->Prop}{Y w wr:World}{g N b:Nat}{a0 a1 a2 a3 b0 b1 b2 b3 m' i' e' c':Value}{k':AO}(hd:Dr Y g N wr)(hg:w.grownBy wr (some g))(hB:wr.heap[b]?=some (.cells #[b0,b1,b2,b3] 28 (0,0)))(HK:PK w.heap.size wr m' i' e' c' k')(L:ok k')(ac:g<w.heap.size)(ay:Y.heap.size<=w.heap.size)(R:w.heap.size<b)(db:wr.heap[w.heap.size]?=some (.cells #[a0,a1,a2,a3] 28 (0,0))):
 JQ ok Y g N w b ((((wr.setCell ⟨b,0,none⟩ m').setCell ⟨b,1,none⟩ i').setCell ⟨b,2,none⟩ e').setCell ⟨b,3,none⟩ c'):=by
 have az:=Ao wr b m' i' e' c';exact⟨m',i',e',c',k',hd.keep az (by simp;omega) (λk L=>by cases L;omega),IT hg az (by omega),Cx hB,HK.map (KM az hB (.inl rfl) (yv _)),L,a0,a1,a2,a3,(az.block _ (AW db) (by simp;omega)).trans db⟩
theorem JQ.draw{ok:AO->Prop}{Y w wr w':World}{g N M b:Nat}(h:JQ ok Y g N w b wr)(ac:g<w.heap.size)(R:w.heap.size<b)(hd:Dr Y g M w')(hg:wr.grownBy w' (some g)):JQ ok Y g M w b w':=by
 obtain⟨m,i,e,c,k,X,V,h3,h4,h5,a0,a1,a2,a3,h6⟩:=h;exact⟨m,i,e,c,k,hd,AP V hg,(hg.block _ (AW h3) (by simp;omega)).trans h3,h4.map (λ_ _ _ _ _ _ _ x=>Bs x hg (λb' e=>by cases e;exact ac)),h5,a0,a1,a2,a3,(hg.block _ (AW h6) (by simp;omega)).trans h6⟩
theorem JQ.below{ok:AO->Prop}{Y w wr w':World}{g N b:Nat}(h:JQ ok Y g N w b wr)(ac:g<w.heap.size)(R:w.heap.size<b)(ld:Below wr.heap.size wr w'):JQ ok Y g N w b w':=by obtain⟨m,i,e,c,k,X,V⟩:=h;exact JQ.draw ⟨m,i,e,c,k,X,V⟩ ac R (X.below ld) (AY ld _)
theorem JQ.mono{ok:AO->Prop}{Y w wr:World}{g N M b:Nat}(h:JQ ok Y g N w b wr)(hm:N<=M):JQ ok Y g M w b wr:=by obtain⟨m,i,e,c,k,X,V⟩:=h;exact⟨m,i,e,c,k,X.mono hm,V⟩
theorem JQ.pk{ok:AO->Prop}{Y w wr:World}{g N b:Nat}(h:JQ ok Y g N w b wr)(ac:g<w.heap.size)(R:w.heap.size<b)(n:Int)(hN:N<=900000:=by omega)(h0:0<n:=by decide)(hn:n<=1000000:=by decide):Calls prog 48 #[.pointer (some ⟨g,0,none⟩),.int .i64 n] wr λe' w'=>∃x:Int,e'=.returned (.int .i64 x)/\0<=x/\x<n/\JQ ok Y g (N+1) w b w':=by
 obtain⟨m,i,e,c,k,X,V⟩:=h;refine(X.pick n (by omega) hn).mono λ_ _ hp=>?_
 obtain⟨x,rfl,h3,h4,h5,h6⟩:=hp;exact⟨x,rfl,h3,h4 h0,JQ.draw ⟨m,i,e,c,k,X,V⟩ ac R h5 h6⟩
def Yn(lo:Nat)(w:World)(v:Value):Prop:=∃m i e c k,v=.agg #[m,i,e,c]/\PK lo w m i e c k/\DQ k
theorem Yn.past{lo g:Nat}{w w':World}{v:Value}(h:Yn lo w v)(hg:g<lo)(R:w.grownBy w' (some g)):Yn lo w' v:=by obtain⟨m,i,e,c,k,X,V,h3⟩:=h;exact⟨m,i,e,c,k,X,V.map (GD R hg (yv _)),h3⟩
theorem Tu(mv iv ev cv sv lv qv:Value)(P:AR)(call:Ac)(w:World)(h:Jy w mv iv ev cv sv lv qv P)(hP:Du P)(he:0<=call.e/\call.e<3)(kT:call.nm.size<=maxLen)(kZ:call.c<=9223372036854775807):
 Calls prog 140 #[AN mv iv ev cv sv lv qv P.zR P.zU,.agg call.cs] w (Uf w (OP P call)):=by
 unfold AN Uf OP AN;have CC:=AA (λW (hR:Mu W mv iv ev cv P.zV)=>Le hR hP.k call he kT kZ);unfold Nt at CC;generalize Ae P.zV call=res at CC ⊢;obtain⟨kr,vr,nr⟩:=res;obtain⟨ck,ce,ca,cb,cc,nm⟩:=call;simp only[Ac.cs] at CC ⊢
 try dsimp only at CC ⊢
 obtain⟨N0,NC,N1,bn,bx⟩:=LC w (.cells #[mv,iv,ev,cv,sv,lv,qv,.int .i64 P.zR,.int .i64 P.zU] 32) (.cells #[.int .i64 ck,.int .i64 ce,.int .i64 ca,.int .i64 cb,.int .i64 cc,.string nm] 55) ((.cells #[.slice none 0 0,.slice none 0 0,.slice none 0 0,.slice none 0 0,.slice none 0 0,.slice none 0 0,.slice none 0 0,.int .i64 0,.int .i64 0] 32));have h0:=h.below bn;have CO:=AA (Lg mv iv ev cv sv lv qv P _ h0 hP);unfold PR AN at CO;have n8:=AA h0.1;obtain⟨x0,z,x2,x3,x4,x5,x6,x7,x8⟩:=AD N0;have hZ:=AA bx;clear bx h h0 he kT kZ hP;go_in;go_wp2_with fail;generalize((w.alloc _).alloc _).alloc _=W0 at*;have cz:=AA bn;have ad:=AA N0;have op:=AA NC;have du:=AA N1;clear bn N0 NC N1 x0 z x2 x3 x4 x5 x6 x7 x8;refine CO.out.mono ?_;rintro r w2 ⟨m2,i2,e2,c2,s2,l2,q2,rfl,O2,b2⟩;obtain⟨⟨⟨ma,mn,mc,rfl⟩,⟨ia,iN,ic,rfl⟩,⟨ea,en,ec,rfl⟩,⟨qa,qn,qc,rfl⟩⟩,⟨sa,sn,sc,rfl⟩,⟨la,ln,lc,rfl⟩,⟨pa,pn,pc,rfl⟩⟩:=O2.zQ;have bA:=AI w2 (.cells #[.slice ma mn mc,.slice ia iN ic,.slice ea en ec,.slice qa qn qc,.slice sa sn sc,.slice la ln lc,.slice pa pn pc,.int .i64 P.zR,.int .i64 P.zU] 32);have I3:=Gi.start O2 b2.size;have cp:=b2.trans (bA.mono b2.size);obtain⟨x0,z,x2,x3,_⟩:=AD (AB ad.out cp);obtain⟨k0,k1,k2,k3,k4,k5⟩:=Jl (AB op.out cp);have cT:=AA I3;have N3:=AA (AB du.out cp);have dd:=AA (cz.out.trans (cp.mono cz.out.size));have e7:=AA (yB b2.size bA.size);have lQ:=AA (CC.out _ (n8.out.below cp));clear O2 bA I3 cp b2 CO CC;go_wp2_with fail;generalize hg3:w2.heap.size=g3 at*;generalize w2.alloc _=W3 at*;refine lQ.out.mono ?_;rintro r w4 ⟨m4,i4,e4,j1,rfl,O4,b4⟩;obtain⟨⟨el,ej,bk,rfl⟩,⟨ew,ex,eu,rfl⟩,⟨eG,eE,eF,rfl⟩,⟨er,eo,ep,rfl⟩⟩:=O4.zQ;have bA:=AI w4 (.cells #[.slice el ej bk,.slice ew ex eu,.slice eG eE eF,.slice er eo ep] 28);have dg:=b4.trans (bA.mono b4.size);have I4:=cT.out.below dg;have I5:=cT.out.put dg (yv _) e7.out (O4.below bA);have G5:=Ao (w4.alloc (.cells #[.slice el ej bk,.slice ew ex eu,.slice eG eE eF,.slice er eo ep] 28)) g3 (.slice el ej bk) (.slice ew ex eu) (.slice eG eE eF) (.slice er eo ep);have N4:=AB N3.out dg;have ng:g3≠w.heap.size+1+1:=λe=>by have X:=cT.out.yJ;have V:=AW du.out;omega
 have N5:=Ap N4 G5 ng;have B5:=AM (dd.out.trans (dg.mono dd.out.size)) G5 (yB cz.out.size cT.out.yJ) (yB dd.out.size dg.size);obtain⟨d0,d1,d2,d3,_⟩:=I4.cells;have fd:=AK I4.yK;generalize hW5:((((w4.alloc _).setCell _ _).setCell _ _).setCell _ _).setCell _ _=W5 at I5 G5 N5 B5;have S6:=Cp N5 (I5.own.lower cz.out.size);obtain⟨y0,y1,y2,y3,y4,y5,y6,y7,y8⟩:=I5.cells;obtain⟨a0,a1,a2,a3,a4,a5,a6,a7,a8⟩:=AD N5;have f5:=AK N5;have il:=AA S6;have dP:=AA B5;clear S6 b4 bA dg O4 I4 I5 G5 N4 N5 B5 lQ x0 z x2 x3 k0 k1 k2 k3 k4 k5;go_wp2_with fail;obtain⟨N6,O6,dc⟩:=il.out;have B6:=AM dP.out dc (by omega) dP.out.size;unfold Dy at N6 O6 B6;exact yr (v:=.tuple #[.agg #[_,_,_,_,_,_,_,_,_],_]) (by simp[results,Tryz.results140,go_sem,AD N6]) rfl ⟨_,_,_,_,_,_,_,rfl,O6,B6⟩
theorem Pf.mono{Y w W1 wr:World}{g N M b:Nat}(h:Pf Y g N w W1 b wr)(hm:N<=M):Pf Y g M w W1 b wr:=by obtain⟨m,i,e,c,s,l,q,P,h⟩:=h;exact⟨m,i,e,c,s,l,q,P,h.mono hm⟩
theorem Ty{Y w:World}{g N:Nat}(h:Dr Y g N w)(hN:N<=100000):
 Calls prog 87 #[.pointer (some ⟨g,0,none⟩)] w (dB Du Y g (N+900) w):=by
 have ac:=h.lt;have bp:Y.heap.size<=w.heap.size:=h.2.1.size;obtain⟨B0,bA⟩:=Dd w (.cells #[.slice none 0 0,.slice none 0 0,.slice none 0 0,.slice none 0 0,.slice none 0 0,.slice none 0 0,.slice none 0 0,.int .i64 0,.int .i64 0] 32);have gA:=AY bA (some g);have hA:=h.below bA;have fB:=AW B0;go_in;go_wp2_with fail;generalize w.alloc _=wa at*;refine(hA.pick _).mono ?_;rintro e w2 ⟨y,rfl,y0,y1,V,g2⟩;replace y1:=y1 (by decide);have R2:=(g2.block w.heap.size fB (by simp;omega)).trans B0;have G2:=AP gA g2;have fA:w.heap.size+1<=w2.heap.size:=yB fB g2.size;clear hA gA B0 bA g2 h fB;go_wp2_with fail;refine(Nc (1+y) w2 (by omega) (by omega)).mono ?_;rintro e w6 ⟨m1,i1,e1,c1,s1,l1,q1,rfl,O6,b6⟩;obtain⟨⟨⟨ma,mn,mc,rfl⟩,⟨ia,iN,ic,rfl⟩,⟨ea,en,ec,rfl⟩,⟨ca,cn,cc,rfl⟩⟩,⟨sa,sn,sc,rfl⟩,⟨la,ln,lc,rfl⟩,⟨qa,qn,qc,rfl⟩⟩:=O6.zQ;have eX:Du (VQ (1+y)):=XP (by omega) (by omega);clear y0 y1;generalize VQ (1+y)=P1 at*;unfold AN;have bB:=AI w6 (.cells #[.slice ma mn mc,.slice ia iN ic,.slice ea en ec,.slice ca cn cc,.slice sa sn sc,.slice la ln lc,.slice qa qn qc,.int .i64 P1.zR,.int .i64 P1.zU] 32);have fs:=b6.trans (bB.mono b6.size);have A:LJ Y g (N+1) w (w6.alloc (.cells #[.slice ma mn mc,.slice ia iN ic,.slice ea en ec,.slice ca cn cc,.slice sa sn sc,.slice la ln lc,.slice qa qn qc,.int .i64 P1.zR,.int .i64 P1.zU] 32)) w6.heap.size _ _ _ _ _ _ _ P1 (w6.alloc (.cells #[.slice ma mn mc,.slice ia iN ic,.slice ea en ec,.slice ca cn cc,.slice sa sn sc,.slice la ln lc,.slice qa qn qc,.int .i64 P1.zR,.int .i64 P1.zU] 32)):=⟨V.below fs,AP G2 (AY fs _),yi _ _,O6.map (Jv bB fA),eX,ac,bp,by have:=b6.size;omega,yv _,λ_ _ _ _=>rfl⟩;have R6:=AB R2 fs;clear O6 b6 bB fs V G2 R2 eX fA;go_wp2_with fail;generalize w6.alloc _=W1 at*;generalize w6.heap.size=b at*;refine(A.pk 24).mono ?_;rintro e w7 ⟨n,rfl,n0,n1,S7⟩;clear A;obtain⟨n,rfl⟩:=xQ n0;have jt:n<24:=by omega
 clear n0 n1;go_wp2_with fail;refine(S7.pk 5).mono ?_;rintro e w8 ⟨x1,rfl,z0,z1,S8⟩;clear S7;go_wp2_with fail;generalize(x1==0)=gr;go_loopw [7] (λi wr=>∃j:Nat,j<=n/\i=.int .i64 j/\Pf Y g (N+3+33*j) w W1 b wr) (λi _=>n - (intOf i).toNat)
 exact⟨0,yg _,rfl,_,_,_,_,_,_,_,P1,S8⟩
 clear S8 z0 z1;obtain⟨j,hj,rfl,m1,i1,e1,c1,s1,l1,q1,Q,A⟩:=hrel;obtain⟨⟨⟨ma,mn,mc,rfl⟩,⟨ia,iN,ic,rfl⟩,⟨ea,en,ec,rfl⟩,⟨ca,cn,cc,rfl⟩⟩,⟨sa,sn,sc,rfl⟩,⟨la,ln,lc,rfl⟩,⟨qa,qn,qc,rfl⟩⟩:=A.sf.zQ
 by_cases gv:j<n
 .go_wp2_with fail
  refine(A.pk 4).mono ?_;rintro e wr ⟨x,rfl,x0,z,S4⟩;clear A;obtain⟨N1,hN1⟩:∃M,M=N+3+33*j+1:=⟨_,rfl⟩
  rw[<-hN1] at S4;have jw:=S4.lt;obtain⟨c0,c1,c2,c3,c4,c5,c6,c7,c8⟩:=AD S4.yK;have ar:=AW S4.yK
  rcases(show(x=0∨x=1)∨x=2∨x=3 by omega) with hx|rfl|rfl
  .rcases hx with rfl|rfl<;>go_wp2_with fail
   all_goals
    refine IL (s:=10) (U:=λix vv=>match ix with
     |2=>Pk 64 vv
     |4=>Pk 999 vv
     |5=>∃x:Int,vv=.int .i64 x/\1<=x/\x<=999
     |6|7=>∃v,∃x:Bool,vv=.tuple #[v,.bool x]
     |_=>True) 11 66 1 2 [2,4] [.a #[.slice ma mn mc,.slice ia iN ic,.slice ea en ec,.slice ca cn cc,.slice sa sn sc,.slice la ln lc,.slice qa qn qc,.int .i64 Q.zR,.int .i64 Q.zU],.p g 0,.z,.p g 0,.z,.z,.z,.z,.z,.z,.u] (λix vv ww=>match ix with
     |6|7=>∃v,(∃x:Bool,vv=.tuple #[v,.bool x])/\Ob (w.heap.size+1) ww v
     |8=>Ob (w.heap.size+1) ww vv
     |9=>True
     |_=>True) (λww=>Pf Y g (N1+2) w W1 b ww) S4.dr ?_ ?_ ?_ ?_ ?_ (hst:=?_)
    .intro i hi hS o E a wx Z ll J D hr hs O
     match i,hi,hS with
     |0,_,_=>have hW:=hr (by kernel_rfl);have di:=gc hW ar (by omega) c0;have bN:=gc hW ar (by omega) c1;have dh:=gc hW ar (by omega) c2;have cw:=gc hW ar (by omega) c3;have bk:=gc hW ar (by omega) c4;have dx:=gc hW ar (by omega) c5;have fy:=gc hW ar (by omega) c6;have gj:=gc hW ar (by omega) c7;have gI:=gc hW ar (by omega) c8;exact JM E O Z J D (hl:=Tz ‹_› ‹_› ‹_› ‹_› ‹_› ‹_› ‹_› ‹_› ‹_›)
     |1,_,_|3,_,_=>exact Rb E O Z J D
     |2,_,K|4,_,K|10,_,K=>cases K
     |5,_,_=>obtain rfl:=yF E;have d4:(Pk 999 (a.tmps[36]?.getD undef))/\(ll 10=false->True):=Cw J D 4;obtain⟨⟨x4,d4,p2,p3⟩,_⟩:=d4;have fJ:=A9 D 10;clear J Z;refine yE ?_;go_simp;exact O.out _ _ ⟨⟨_,by rw[xA _ (by omega)],by omega,by omega⟩,λ_=>trivial⟩ (yD _ _)
     |6,_,_=>obtain rfl:=yF E;have d0:(a.tmps[32]?.getD undef)=.agg #[.slice ma mn mc,.slice ia iN ic,.slice ea en ec,.slice ca cn cc,.slice sa sn sc,.slice la ln lc,.slice qa qn qc,.int .i64 Q.zR,.int .i64 Q.zU]:=Cw J D 0;have d2:(Pk 64 (a.tmps[34]?.getD undef))/\(ll 10=false->True):=Cw J D 2;obtain⟨⟨x2,d2,p0,p1⟩,_⟩:=d2;have d5:(∃x:Int,(a.tmps[37]?.getD undef)=.int .i64 x/\1<=x/\x<=999)/\(ll 10=false->True):=Cw J D 5;obtain⟨⟨x5,d5,r0,r1⟩,_⟩:=d5;have fJ:=A9 D 10;clear J Z;have hW:=hr (by kernel_rfl);have fW:=S4.sf.map (GD hW (by omega) (yv _));have jp:=hW.size;obtain⟨a2,rfl⟩:=xQ p0;refine yE ?_;go_simp;refine(JK _ _ _ _ _ _ _ Q wx fW.rd S4.good (a:=a2) (by omega) (x:=x5) (AZ.2 (by omega))).mono ?_;rintro e w_ ⟨m9,i9,e9,c9,s9,l9,q9,rfl,hO,dZ⟩;exact O.out _ _ ⟨⟨_,_,rfl⟩,λ_=>⟨_,⟨_,rfl⟩,hO.sf.pgR (OX S4.good (by omega) (AZ.2 (by omega))) (by omega)⟩⟩ dZ
     |7,_,_=>obtain rfl:=yF E;have d6:(∃v,∃x:Bool,(a.tmps[38]?.getD undef)=.tuple #[v,.bool x])/\(ll 10=false->∃v,(∃x:Bool,(a.tmps[38]?.getD undef)=.tuple #[v,.bool x])/\Ob (w.heap.size+1) wx v):=Cw J D 6;have fJ:=A9 D 10;clear J Z;have q:=d6.2 (A9 D 10);obtain⟨v9,⟨x9,e9⟩,q⟩:=q;refine yE ?_;go_simp;exact O.out _ _ ⟨⟨_,_,rfl⟩,λ_=>⟨_,⟨_,rfl⟩,q⟩⟩ (yD _ _)
     |8,_,_=>obtain rfl:=yF E;have d7:(∃v,∃x:Bool,(a.tmps[31]?.getD undef)=.tuple #[v,.bool x])/\(ll 10=false->∃v,(∃x:Bool,(a.tmps[31]?.getD undef)=.tuple #[v,.bool x])/\Ob (w.heap.size+1) wx v):=Cw J D 7;have fJ:=A9 D 10;clear J Z;have q:=d7.2 (A9 D 10);obtain⟨v9,⟨x9,e9⟩,q⟩:=q;refine yE ?_;go_simp;exact O.out _ _ ⟨trivial,λ_=>q⟩ (yD _ _)
     |9,_,_=>obtain rfl:=yF E;have d7:(∃v,∃x:Bool,(a.tmps[31]?.getD undef)=.tuple #[v,.bool x])/\(ll 10=false->∃v,(∃x:Bool,(a.tmps[31]?.getD undef)=.tuple #[v,.bool x])/\Ob (w.heap.size+1) wx v):=Cw J D 7;clear J Z;obtain⟨v9,x9,e9⟩:=d7.1;refine yE ?_;go_simp;exact O.out _ _ ⟨trivial,λ_=>trivial⟩ (yD _ _)
    .intro i hi hS o E a wx Z ll J D H hs O
     match i,hi,hS with
     |2,_,_=>exact fK (m:=64) E O Z J D H (by omega)
     |4,_,_=>exact fK (m:=999) E O Z J D H (by omega)
     |0,_,K|1,_,K|3,_,K|5,_,K|6,_,K|7,_,K|8,_,K|9,_,K|10,_,K=>cases K
    .intro o E a wx Z ll J D hD hW hs O
     obtain rfl:=yF E;have e3:a.tmps[3]?.getD undef=.pointer (some ⟨b,0,none⟩):=eg (PI Z 3);have d8:(True)/\(ll 10=false->Ob (w.heap.size+1) wx (a.tmps[39]?.getD undef)):=Cw J D 8;clear J Z;have q:=d8.2 D.out.1;obtain⟨m9,i9,e9,c9,s9,l9,q9,P9,e0,eW,eO⟩:=q;unfold AN at e0;obtain⟨⟨⟨va,vn,vc,rfl⟩,⟨wa,wn,wc,rfl⟩,⟨xa,xn,xc,rfl⟩,⟨ya,yn,yc,rfl⟩⟩,⟨ta,tn,tc,rfl⟩,⟨ua,un,uc,rfl⟩,⟨za,zn,zc,rfl⟩⟩:=eW.zQ;have S9:=(S4.draw hD hW).put eW eO;have B9:=(S4.draw hD hW).yK;obtain⟨c0,c1,c2,c3,c4,c5,c6,c7,c8⟩:=AD B9;have fq:=AK B9;refine yE ?_;go_simp;exact O.out undef _ ⟨_,_,_,_,_,_,_,P9,S9⟩
    .exact λ_ _ R h=>h.below R
    rotate_left
    .intro i hi v ww fx hg hz
     match i,hi with
     |6,_|7,_=>exact(by obtain⟨v9,X,V⟩:=hz;exact⟨v9,X,V.past (by omega) hg⟩)
     |8,_=>exact(hz.past (by omega) hg)
     |9,_|0,_|1,_|2,_|3,_|4,_|5,_|10,_=>exact hz
    .intro vs wx ll hR hA
     clear hR;simp only[Cn,BQ,yC,yy,yz,yx];simp
     try generalize vs 0=z0
     try generalize vs 1=z1
     try generalize vs 2=z2
     try generalize vs 3=z3
     try generalize vs 4=z4
     try generalize vs 5=z5
     try generalize vs 6=z6
     try generalize vs 7=z7
     try generalize vs 8=z8
     try generalize vs 9=z9
     try generalize vs 10=z10
     go_wp2_with fail;go_roundw;exact⟨j+1,by omega,by go_num,hA.mono (by omega)⟩;simp[intOf];omega
  .go_wp2_with fail
   refine IL (s:=8) (U:=λix vv=>match ix with
    |2=>Pk 64 vv
    |3|4=>∃v x y,vv=.tuple #[v,.int .i64 x,.bool y]
    |_=>True) 9 66 1 1 [2] [.a #[.slice ma mn mc,.slice ia iN ic,.slice ea en ec,.slice ca cn cc,.slice sa sn sc,.slice la ln lc,.slice qa qn qc,.int .i64 Q.zR,.int .i64 Q.zU],.p g 0,.z,.z,.z,.z,.z,.z,.u] (λix vv ww=>match ix with
    |3|4=>∃v,(∃x y,vv=.tuple #[v,.int .i64 x,.bool y])/\Ob (w.heap.size+1) ww v
    |5=>Ob (w.heap.size+1) ww vv
    |6|7=>True
    |_=>True) (λww=>Pf Y g (N1+1) w W1 b ww) S4.dr ?_ ?_ ?_ ?_ ?_ (hst:=?_)
   .intro i hi hS o E a wx Z ll J D hr hs O
    match i,hi,hS with
    |0,_,_=>have hW:=hr (by kernel_rfl);have di:=gc hW ar (by omega) c0;have bN:=gc hW ar (by omega) c1;have dh:=gc hW ar (by omega) c2;have cw:=gc hW ar (by omega) c3;have bk:=gc hW ar (by omega) c4;have dx:=gc hW ar (by omega) c5;have fy:=gc hW ar (by omega) c6;have gj:=gc hW ar (by omega) c7;have gI:=gc hW ar (by omega) c8;exact JM E O Z J D (hl:=Tz ‹_› ‹_› ‹_› ‹_› ‹_› ‹_› ‹_› ‹_› ‹_›)
    |1,_,_=>exact Rb E O Z J D
    |2,_,K|8,_,K=>cases K
    |3,_,_=>obtain rfl:=yF E;have d0:(a.tmps[44]?.getD undef)=.agg #[.slice ma mn mc,.slice ia iN ic,.slice ea en ec,.slice ca cn cc,.slice sa sn sc,.slice la ln lc,.slice qa qn qc,.int .i64 Q.zR,.int .i64 Q.zU]:=Cw J D 0;have d2:(Pk 64 (a.tmps[46]?.getD undef))/\(ll 8=false->True):=Cw J D 2;obtain⟨⟨x2,d2,p0,p1⟩,_⟩:=d2;have u8:=A9 D 8;clear J Z;have hW:=hr (by kernel_rfl);have fW:=S4.sf.map (GD hW (by omega) (yv _));have jp:=hW.size;obtain⟨a2,rfl⟩:=xQ p0;refine yE ?_;go_simp;refine(Lp _ _ _ _ _ _ _ Q wx fW.rd S4.good (a:=a2) (by omega)).mono ?_;rintro e w_ ⟨m9,i9,e9,c9,s9,l9,q9,rfl,hO,dZ⟩;exact O.out _ _ ⟨⟨_,_,_,rfl⟩,λ_=>⟨_,⟨_,_,rfl⟩,hO.sf.pgR (VK S4.good (by omega)) (by omega)⟩⟩ dZ
    |4,_,_=>obtain rfl:=yF E;have d3:(∃v x y,(a.tmps[47]?.getD undef)=.tuple #[v,.int .i64 x,.bool y])/\(ll 8=false->∃v,(∃x y,(a.tmps[47]?.getD undef)=.tuple #[v,.int .i64 x,.bool y])/\Ob (w.heap.size+1) wx v):=Cw J D 3;have u8:=A9 D 8;clear J Z;have q:=d3.2 (A9 D 8);obtain⟨v9,⟨x9,y9,e9⟩,q⟩:=q;refine yE ?_;go_simp;exact O.out _ _ ⟨⟨_,_,_,rfl⟩,λ_=>⟨_,⟨_,_,rfl⟩,q⟩⟩ (yD _ _)
    |5,_,_=>obtain rfl:=yF E;have d4:(∃v x y,(a.tmps[43]?.getD undef)=.tuple #[v,.int .i64 x,.bool y])/\(ll 8=false->∃v,(∃x y,(a.tmps[43]?.getD undef)=.tuple #[v,.int .i64 x,.bool y])/\Ob (w.heap.size+1) wx v):=Cw J D 4;have u8:=A9 D 8;clear J Z;have q:=d4.2 (A9 D 8);obtain⟨v9,⟨x9,y9,e9⟩,q⟩:=q;refine yE ?_;go_simp;exact O.out _ _ ⟨trivial,λ_=>q⟩ (yD _ _)
    |6,_,_=>obtain rfl:=yF E;have d4:(∃v x y,(a.tmps[43]?.getD undef)=.tuple #[v,.int .i64 x,.bool y])/\(ll 8=false->∃v,(∃x y,(a.tmps[43]?.getD undef)=.tuple #[v,.int .i64 x,.bool y])/\Ob (w.heap.size+1) wx v):=Cw J D 4;clear J Z;obtain⟨v9,x9,y9,e9⟩:=d4.1;refine yE ?_;go_simp;exact O.out _ _ ⟨trivial,λ_=>trivial⟩ (yD _ _)
    |7,_,_=>obtain rfl:=yF E;have d4:(∃v x y,(a.tmps[43]?.getD undef)=.tuple #[v,.int .i64 x,.bool y])/\(ll 8=false->∃v,(∃x y,(a.tmps[43]?.getD undef)=.tuple #[v,.int .i64 x,.bool y])/\Ob (w.heap.size+1) wx v):=Cw J D 4;clear J Z;obtain⟨v9,x9,y9,e9⟩:=d4.1;refine yE ?_;go_simp;exact O.out _ _ ⟨trivial,λ_=>trivial⟩ (yD _ _)
   .intro i hi hS o E a wx Z ll J D H hs O
    match i,hi,hS with
    |2,_,_=>exact fK (m:=64) E O Z J D H (by omega)
    |0,_,K|1,_,K|3,_,K|4,_,K|5,_,K|6,_,K|7,_,K|8,_,K=>cases K
   .intro o E a wx Z ll J D hD hW hs O
    obtain rfl:=yF E;have e3:a.tmps[3]?.getD undef=.pointer (some ⟨b,0,none⟩):=eg (PI Z 3);have d5:(True)/\(ll 8=false->Ob (w.heap.size+1) wx (a.tmps[48]?.getD undef)):=Cw J D 5;clear J Z;have q:=d5.2 D.out.1;obtain⟨m9,i9,e9,c9,s9,l9,q9,P9,e0,eW,eO⟩:=q;unfold AN at e0;obtain⟨⟨⟨va,vn,vc,rfl⟩,⟨wa,wn,wc,rfl⟩,⟨xa,xn,xc,rfl⟩,⟨ya,yn,yc,rfl⟩⟩,⟨ta,tn,tc,rfl⟩,⟨ua,un,uc,rfl⟩,⟨za,zn,zc,rfl⟩⟩:=eW.zQ;have S9:=(S4.draw hD hW).put eW eO;have B9:=(S4.draw hD hW).yK;obtain⟨c0,c1,c2,c3,c4,c5,c6,c7,c8⟩:=AD B9;have fq:=AK B9;refine yE ?_;go_simp;exact O.out undef _ ⟨_,_,_,_,_,_,_,P9,S9⟩
   .exact λ_ _ R h=>h.below R
   rotate_left
   .intro i hi v ww fx hg hz
    match i,hi with
    |3,_|4,_=>exact(by obtain⟨v9,X,V⟩:=hz;exact⟨v9,X,V.past (by omega) hg⟩)
    |5,_=>exact(hz.past (by omega) hg)
    |6,_|7,_|0,_|1,_|2,_|8,_=>exact hz
   .intro vs wx ll hR hA
    clear hR;simp only[Cn,BQ,yC,yy,yz,yx];simp
    try generalize vs 0=z0
    try generalize vs 1=z1
    try generalize vs 2=z2
    try generalize vs 3=z3
    try generalize vs 4=z4
    try generalize vs 5=z5
    try generalize vs 6=z6
    try generalize vs 7=z7
    try generalize vs 8=z8
    go_wp2_with fail;go_roundw;exact⟨j+1,by omega,by go_num,hA.mono (by omega)⟩;simp[intOf];omega
  .go_wp2_with fail
   refine(Tx _ _ _ _ Q.zV.zZ S4.dr (by omega) (λw' hg=>(S4.sf.map (GD hg (by omega) (yv _))).rd.1.2.1) (Nat.le_of_eq S4.good.k.len)).mono ?_;rintro e w9 ⟨v,rfl,⟨x,rfl,hx⟩,h9,g9⟩;have S9:=S4.draw h9 g9;obtain⟨NC,bC⟩:=Dd w9 (.cells #[.int .i64 x.k,.int .i64 x.e,.int .i64 x.a,.int .i64 x.b,.int .i64 x.c,.string x.nm] 55);clear S4 h9 g9 c0 c1 c2 c3 c4 c5 c6 c7 c8 ar;simp only[Ac.cs];go_upto_if 57 with fail;generalize w9.alloc _=wc at*;go_cut [] (λW=>∃y:Ac,Vl y/\W.heap[w9.heap.size]?=some (.cells y.cs 55 (0,0))/\Below w9.heap.size w9 W)
   case first=>
    cases gr
    .go_wp2_with fail
     go_meet;exact⟨x,hx,NC,bC⟩
    .have fc:=AK NC
     obtain⟨d0,d1,d2,d3,d4,d5⟩:=Gn NC;have N2:=cY (x:=⟨1,1,0,0,0,⟨#[98]⟩⟩) NC;go_wp2_with fail;go_meet;exact⟨⟨1,1,0,0,0,⟨#[98]⟩⟩,⟨⟨by decide,by decide,by decide,by decide⟩,.inl rfl⟩,N2,AM (AM (AM (AM (AM (AM bC (Aq _ _ 0 _) (yv _) bC.size) (Aq _ _ 1 _) (yv _) (by simpa using bC.size)) (Aq _ _ 2 _) (yv _) (by simpa using bC.size)) (Aq _ _ 3 _) (yv _) (by simpa using bC.size)) (Aq _ _ 4 _) (yv _) (by simpa using bC.size)) (Aq _ _ 5 _) (yv _) (by simpa using bC.size)⟩
   case rest=>
   clear NC bC hx;obtain⟨y,⟨hy,gL⟩,NY,bY⟩:=hcut;have dk:=S9.below bY;obtain⟨c0,c1,c2,c3,c4,c5,c6,c7,c8⟩:=AD dk.yK;obtain⟨d0,d1,d2,d3,d4,d5⟩:=Gn NY;have C:=Tu _ _ _ _ _ _ _ Q y _ dk.sf.rd dk.good ⟨hy.2.1,hy.2.2.1⟩ (by have:=hy.1;unfold maxLen;omega) (by have:=hy.2.2.2;omega);have hO:=(Zb dk.good gL).1;unfold AN at C;simp only[Ac.cs] at C;go_wp2_with fail;refine C.mono ?_;rintro e ov ⟨m9,i9,e9,c9,s9,l9,q9,rfl,j5,lA⟩;obtain⟨⟨⟨va,vn,vc,rfl⟩,⟨wa,wn,wc,rfl⟩,⟨xa,xn,xc,rfl⟩,⟨ya,yn,yc,rfl⟩⟩,⟨ta,tn,tc,rfl⟩,⟨ua,un,uc,rfl⟩,⟨za,zn,zc,rfl⟩⟩:=j5.zQ;unfold AN;have iC:=dk.below lA;have nQ:=AA ((iC.put (j5.sf.map (λ_ _ _ _ _ _ _ x=>BU x (by have:=dk.lt;have:=AW dk.yK;omega))) hO).mono (M:=N+3+33*(j+1)) (by omega));have fq:=AK iC.yK;clear c0 c1 c2 c3 c4 c5 c6 c7 c8 d0 d1 d2 d3 d4 d5 C;obtain⟨c0,c1,c2,c3,c4,c5,c6,c7,c8⟩:=AD iC.yK;clear iC dk S9 j5 lA bY NY hO hy gL;go_wp2_with fail;go_roundw;exact⟨j+1,by omega,by go_num,_,_,_,_,_,_,_,_,nQ.out⟩;simp[intOf];omega
 .obtain⟨c0,c1,c2,c3,c4,c5,c6,c7,c8⟩:=AD A.yK
  have kM:=AW R6;have R9:=(A.kp w.heap.size kM (by omega) (by have:=A.lt;omega)).trans R6;obtain⟨d0,d1,d2,d3,d4,d5,d6,d7,d8⟩:=AD R9;have fE:=AK R9;obtain⟨BX,FX⟩:=cA (ok:=Du) (M:=N+900) A.dr A.gr (A.sf.map (λ_ _ _ _ _ _ _ x=>BU x (wu _))) A.good ac bp R9 (by omega);unfold Dy at BX FX;have BH:=AA BX;have FH:=AA FX;clear BX FX A R9 R6;go_wp2_with fail;exact yr (v:=.agg #[_,_,_,_,_,_,_,_,_]) (by simp[results,Tryz.results87,go_sem,AD BH.out]) rfl FH.out
theorem Ys{ss:List ByteArray}{s:ByteArray}:BW (Gy ss s).1=true:=by
 unfold Gy
 by_cases h:(BW ss&&BV s)=true
 .rw[if_pos h]
  obtain⟨X,V⟩:=wV.1 h;exact Yv X V
 .rw[if_neg h]
  decide+kernel
def bR(w:World)(r:Ending)(w':World):Prop:=∃v' b,r=.returned (.tuple #[v',.bool b])/\(∃c',AQ w.heap.size 112 4 AU w' v' c'/\c'.length<=4)/\Below w.heap.size w w'
theorem Ro(v:Value)(c:List Ad)(x:Ad)(w:World)(h:DJ w v c):
 Calls prog 194 #[v,.agg #[.int .i64 x.e,.int .i64 x.p,.int .i64 x.f,.bool x.w]] w (bR w):=by
 obtain⟨N0,b0⟩:=Dd w (.cells #[.int .i64 x.e,.int .i64 x.p,.int .i64 x.f,.bool x.w] 112);have h0:=BK.below h b0;go_in;go_wp2_with fail;generalize w.alloc _=W0 at*;have ad:=AA b0;have HN:=AA N0;obtain⟨y0,y1,y2,y3⟩:=AE N0;clear N0 b0;refine(JJ v c W0 h0).mono ?_;rintro r w1 ⟨rfl,b1⟩;cases hc:BT c
 .go_wp2_with fail
  go_ret2;exact⟨_,_,rfl,⟨[],AQ.lower (CU AU _ _ _) (yB ad.out.size b1.size),yg _⟩,(ad.out.trans (b1.mono ad.out.size)).alloc (yB ad.out.size b1.size) _⟩
 .have hl:=(Eg.1 hc).2.2
  obtain⟨y0,y1,y2,y3⟩:=AE (AB HN.out b1);go_wp2_with fail;refine(NJ x _).mono ?_;rintro r w2 ⟨rfl,b2⟩;have cp:=b1.trans (b2.mono b1.size);cases hx:Bl x
  .go_wp2_with fail
   go_ret2;exact⟨_,_,rfl,⟨[],AQ.lower (CU AU _ _ _) (yB ad.out.size cp.size),yg _⟩,(ad.out.trans (cp.mono ad.out.size)).alloc (yB ad.out.size cp.size) _⟩
  .obtain⟨y0,y1,y2,y3⟩:=AE (AB HN.out cp)
   have hp:=(Eg.1 (XU hc hx)).2.2;go_wp2_with fail;refine(Sh v c x _ (BK.below h0 cp) hl).mono ?_;rintro r w3 ⟨v',rfl,O3,b3⟩;have HO:=AA (xU O3 hp);have HB:=AA ((ad.out.trans ((cp.trans (b3.mono cp.size)).mono ad.out.size)));have D:=AA (yB ad.out.size cp.size);obtain⟨a9,c9,e9,_,_⟩:=O3.rd.shape;generalize List.length _=n9 at e9;subst e9;clear O3 hp b3 b1 b2 cp hl;go_wp2_with fail;go_ret2;exact⟨_,_,rfl,⟨_,HO.out.1.lower D.out,HO.out.2⟩,HB.out⟩
theorem OJ{w w1 w2:World}{g:Nat}{row:Option Nat}(h:w.grownBy w1 (some g))(V:w1.grownBy w2 row)(hq:∀k,row=some k->w.heap.size<=k):w.grownBy w2 (some g):=
 ⟨V.os.trans h.os,V.tape.trans h.tape,V.output.trans h.output,yB h.size V.size,λk L dv=>(V.block k (xW L h.size) (λe=>by have:=hq k e.symm;omega)).trans (h.block k L dv)⟩
theorem QV(w:World)(e:TypeId)(sz n:Nat)(xs:List Value)(hl:xs.length=n*sz)(hm:n<=maxLen):(w.alloc (.cells xs.toArray e)).ownsRow w.heap.size e sz (.slice (some ⟨w.heap.size,0,none⟩) n n) n xs:=
 ⟨hl,.inr ⟨_,_,_,rfl,yv _,yi _ _,yv _,hm,by simpa using hl,by rw[<-hl];simp⟩⟩
theorem Ww{ss:List ByteArray}{s:ByteArray}(h:Db ss)(K:s.size<=maxLen):Db (ss++[s]):=by
 intro x hx
 rcases wC.1 hx with X|X
 .exact h x X
 .simp at X;subst X;exact K
theorem Ri{Y w:World}{g N:Nat}(h:Dr Y g N w)(hN:N<=700000):
 Calls prog 144 #[.pointer (some ⟨g,0,none⟩)] w (J2 Y g (N+60) w λv w'=>∃ss,AQ w.heap.size 9 1 BD w' v ss/\Db ss):=by
 have ac:=h.lt;have bp:Y.heap.size<=w.heap.size:=h.2.1.size;go_in;go_wp2_with fail;have o1:=CU BD w 9 1;have X:=h.alloc (.cells #[] 9);have g1:w.grownBy (w.alloc (.cells #[] 9)) (some g):=AY (AI _ _) _;generalize w.alloc (.cells #[] 9)=wa at o1 X g1;generalize(xi (some ⟨w.heap.size,0,none⟩) 0 0)=o at o1 ⊢;refine(X.pick _).mono ?_;rintro e w2 ⟨n,rfl,n0,n1,V,g2⟩;replace n1:=n1 (by decide);obtain⟨n,rfl⟩:=xQ n0;have hp:∀b',some g=some b'->b'<w.heap.size:=λb' e=>by cases e;exact ac
 have o2:AQ w.heap.size 9 1 BD w2 o []:=Bs o1 g2 hp;have g3:=AP g1 g2;clear o1 X g1 g2 h;have Hp:=AA hp;clear hp;go_wp2_with fail;go_loopw [3,5] (λo i wr=>∃k:Nat,∃ss,k<=n/\i=.int .i64 k/\BW ss=true/\AQ w.heap.size 9 1 BD wr o ss/\Dr Y g (N+1+3*k) wr/\w.grownBy wr (some g)) (λ_ i _=>n - (intOf i).toNat)
 exact⟨0,[],yg _,rfl,by decide+kernel,o2,V,g3⟩
 clear o2 V g3;obtain⟨k,ss,L,rfl,de,hO,hD,H⟩:=hrel;have fH:=AA de;have HO:=AA hO;obtain⟨oa,oc,rfl,_,_⟩:=hO.rd.shape;have gV:=(Gb.1 fH.out).2.2;clear de hO
 by_cases jx:k<n
 .go_wp2_with fail
  refine(JU hD (by omega)).mono ?_;rintro e w3 ⟨_,rfl,⟨s,mP,rfl⟩,h3,g3⟩;have O3:AQ w.heap.size 9 1 BD w3 _ ss:=Bs HO.out g3 Hp.out;have hz:w.heap.size<=w3.heap.size:=yB H.size g3.size;go_wp2_with fail;refine(Lq _ ss s w3 O3.rd (Gc fH.out) (by unfold maxLen;omega)).mono ?_;rintro e w4 ⟨v4,rfl,O4,b4⟩;cases R:(Gy ss s).2
  .have HR:=AA (xU (O3.below b4) (xU (h3.below b4) (AP (AP H g3) (AY b4 _))))
   clear gV O3 O4 h3 g3 b4 hD H;go_wp2_with fail;go_roundw;exact⟨k+1,ss,by omega,by go_num,fH.out,HR.out.1,HR.out.2.1.mono (by omega),HR.out.2.2⟩;simp[intOf];omega
  .have HR:=AA (xU (O4.lower hz) (xU (h3.below b4) (AP (AP H g3) (AY b4 _))))
   clear gV O3 O4 h3 g3 b4 hD H;go_wp2_with fail;go_roundw;exact⟨k+1,(Gy ss s).1,by omega,by go_num,Ys,HR.out.1,HR.out.2.1.mono (by omega),HR.out.2.2⟩;simp[intOf];omega
 .have mY:k<=7:=by omega
  go_wp2_with fail;refine(hD.pick _).mono ?_;rintro e w3 ⟨u,rfl,_,_,h3,g3⟩;have O3:AQ w.heap.size 9 1 BD w3 _ ss:=Bs HO.out g3 Hp.out;have G3:=AP H g3;clear hD H HO g3
  by_cases u0:u=0
  .subst u0
   go_wp2_with fail;refine(JU h3 (by omega)).mono ?_;rintro e w4 ⟨_,rfl,⟨s,mP,rfl⟩,h4,g4⟩;have O4:AQ w.heap.size 9 1 BD w4 _ ss:=Bs O3 g4 Hp.out;have G4:=AP G3 g4;have hz:w.heap.size<=w4.heap.size:=G4.size;have im:=AA O4;have HH:=AA (xU h4 G4);clear O3 h3 G3 g4 O4 h4 G4;go_wp2_with (at_builtin;go_must (refine Bg (lo:=w.heap.size) (n:=ss.length) (xs:=Cc BD ss) (m:=1) (news:=[.string s]) rfl rfl 9 (.string ⟨#[]⟩) 1 16 underlying72 Tryz.zJ rfl (by decide) rfl (Bx im.out (AI _ _)) rfl (Rd.zC _ #[_] _ 1 1 _ (by simp) rfl (by simp[maxLen])) (by simp[xG]) (by unfold maxLen;omega) (by omega) (by simp;omega) ?_;intro o' w9 k1 k2 k3 k4));have o9:AQ w.heap.size 9 1 BD w9 o' (ss++[s]):=by unfold AQ;rw[Bf,EZ,yj];exact k1
   have bt:∀k,(xi oa ss.length oc).ownBlock=some k->w.heap.size<=k:=λk e=>(yk im.out k e).1
   have D9:=(HH.out.1.alloc (.cells #[.string s] 9)).keep k2 (λe=>by have:=bt g e;have:=Hp.out g rfl;omega) (λk e=>yB bp (bt k e));have G9:=OJ (HJ HH.out.2 (.cells #[.string s] 9)) k2 bt;have HF:=AA (xU o9 (xU (D9.mono (M:=N+60) (by omega)) G9));clear o9 D9 G9 k1 k2 k3 k4;go_wp2_with fail;go_ret;exact⟨_,rfl,⟨_,HF.out.1,Ww (Gc fH.out) (by unfold maxLen;omega)⟩,HF.out.2.1,HF.out.2.2⟩
  have t0:(u==0)=false:=by simp[u0]
  clear u0;go_wp2_with fail;refine(h3.pick _).mono ?_;rintro e w4 ⟨u',rfl,_,_,h4,g4⟩;have O4:AQ w.heap.size 9 1 BD w4 _ ss:=Bs O3 g4 Hp.out;have HF:=AA (xU O4 (xU (h4.mono (M:=N+60) (by omega)) (AP G3 g4)));clear O3 h3 G3 g4 O4 h4 t0
  by_cases u0:u'=0
  .subst u0
   go_wp2_with fail;go_ret;refine⟨_,rfl,⟨[⟨#[97]⟩,⟨#[97,97]⟩,⟨#[97,98]⟩,⟨#[98]⟩,⟨#[98,97]⟩,⟨#[99]⟩],AQ.lower (QV w4 9 1 6 (Cc BD [⟨#[97]⟩,⟨#[97,97]⟩,⟨#[97,98]⟩,⟨#[98]⟩,⟨#[98,97]⟩,⟨#[99]⟩]) rfl (by simp[maxLen])) HF.out.2.2.size,?_⟩,HF.out.2.1.alloc _,HJ HF.out.2.2 _⟩;intro x hx;simp only[xD,wD,or_false] at hx
   rcases hx with rfl|rfl|rfl|rfl|rfl|rfl<;>decide
  have t0:(u'==0)=false:=by simp[u0]
  clear u0;go_wp2_with fail;go_ret;exact⟨_,rfl,⟨_,HF.out.1,Gc fH.out⟩,HF.out.2.1,HF.out.2.2⟩
theorem Tv{Y w:World}{g N:Nat}(h:Dr Y g N w)(hN:N<=700000):
 Calls prog 145 #[.pointer (some ⟨g,0,none⟩)] w (J2 Y g (N+80) w λv w'=>∃ss,AQ w.heap.size 112 4 AU w' v ss):=by
 have ac:=h.lt;have bp:Y.heap.size<=w.heap.size:=h.2.1.size;go_in;go_wp2_with fail;have o1:=CU AU w 112 4;have X:=h.alloc (.cells #[] 112);have g1:w.grownBy (w.alloc (.cells #[] 112)) (some g):=AY (AI _ _) _;generalize w.alloc (.cells #[] 112)=wa at o1 X g1;generalize(xi (some ⟨w.heap.size,0,none⟩) 0 0)=o at o1 ⊢;refine(X.pick _).mono ?_;rintro e w2 ⟨n,rfl,n0,n1,V,g2⟩;replace n1:=n1 (by decide);obtain⟨n,rfl⟩:=xQ n0;have hp:∀b',some g=some b'->b'<w.heap.size:=λb' e=>by cases e;exact ac
 have o2:AQ w.heap.size 112 4 AU w2 o []:=Bs o1 g2 hp;have g3:=AP g1 g2;clear o1 X g1 g2 h;have Hp:=AA hp;clear hp;go_wp2_with fail;go_loopw [3,5] (λo i wr=>∃k:Nat,∃ss,k<=n/\i=.int .i64 k/\ss.length<=4/\AQ w.heap.size 112 4 AU wr o ss/\Dr Y g (N+1+8*k) wr/\w.grownBy wr (some g)) (λ_ i _=>n - (intOf i).toNat)
 exact⟨0,[],yg _,rfl,yg _,o2,V,g3⟩
 clear o2 V g3;obtain⟨k,ss,L,rfl,de,hO,hD,H⟩:=hrel;have fH:=AA de;have HO:=AA hO;obtain⟨oa,oc,rfl,_,_⟩:=hO.rd.shape;have gV:ss.length<=6:=by have:=fH.out;omega
 clear de hO
 by_cases jx:k<n
 .go_wp2_with fail
  refine(MY hD (by omega)).mono ?_;rintro e w3 ⟨_,rfl,⟨s,rfl⟩,h3,g3⟩;have O3:AQ w.heap.size 112 4 AU w3 _ ss:=Bs HO.out g3 Hp.out;have hz:w.heap.size<=w3.heap.size:=yB H.size g3.size;go_wp2_with fail;refine(Ro _ ss s w3 O3.rd).mono ?_;rintro e w4 ⟨v4,bb,rfl,⟨lT,O4,mX⟩,b4⟩;cases bb
  .have HR:=AA (xU (O3.below b4) (xU (h3.below b4) (AP (AP H g3) (AY b4 _))))
   clear gV O3 O4 h3 g3 b4 hD H;go_wp2_with fail;go_roundw;exact⟨k+1,ss,by omega,by go_num,fH.out,HR.out.1,HR.out.2.1.mono (by omega),HR.out.2.2⟩;simp[intOf];omega
  .have HR:=AA (xU (O4.lower hz) (xU (h3.below b4) (AP (AP H g3) (AY b4 _))))
   clear gV O3 O4 h3 g3 b4 hD H;go_wp2_with fail;go_roundw;exact⟨k+1,lT,by omega,by go_num,mX,HR.out.1,HR.out.2.1.mono (by omega),HR.out.2.2⟩;simp[intOf];omega
 .have mY:k<=7:=by omega
  go_wp2_with fail;refine(hD.pick _).mono ?_;rintro e w3 ⟨u,rfl,_,_,h3,g3⟩;have O3:AQ w.heap.size 112 4 AU w3 _ ss:=Bs HO.out g3 Hp.out;have G3:=AP H g3;clear hD H HO g3;have HF:=AA (xU O3 (xU (h3.mono (M:=N+80) (by omega)) G3))
  by_cases u0:u=0
  .subst u0
   go_wp2_with fail;refine(MY h3 (by omega)).mono ?_;rintro e w4 ⟨_,rfl,⟨s,rfl⟩,h4,g4⟩;have O4:AQ w.heap.size 112 4 AU w4 _ ss:=Bs O3 g4 Hp.out;have G4:=AP G3 g4;have hz:w.heap.size<=w4.heap.size:=G4.size;have im:=AA O4;have HH:=AA (xU h4 G4);clear O3 h3 G3 g4 O4 h4 G4;go_wp2_with (at_builtin;go_must (refine Bg (lo:=w.heap.size) (n:=ss.length) (xs:=Cc AU ss) (m:=1) (news:=[.int .i64 s.e,.int .i64 s.p,.int .i64 s.f,.bool s.w]) rfl rfl 112 (.agg #[.int .i64 0,.int .i64 0,.int .i64 0,.bool false]) 4 32 underlying26 Tryz.zF rfl (by decide) rfl (Bx im.out (AI _ _)) rfl (Rd.zC _ #[.int .i64 s.e,.int .i64 s.p,.int .i64 s.f,.bool s.w] _ 4 1 _ (by simp) rfl (by simp[maxLen])) (by simp[xG]) (by unfold maxLen;omega) (by omega) (by simp;omega) ?_;intro o' w9 k1 k2 k3 k4));have o9:AQ w.heap.size 112 4 AU w9 o' (ss++[s]):=by unfold AQ;rw[Bf,EZ,yj];exact k1
   have bt:∀k,(xi oa ss.length oc).ownBlock=some k->w.heap.size<=k:=λk e=>(yk im.out k e).1
   have D9:=(HH.out.1.alloc (.cells #[.int .i64 s.e,.int .i64 s.p,.int .i64 s.f,.bool s.w] 112)).keep k2 (λe=>by have:=bt g e;have:=Hp.out g rfl;omega) (λk e=>yB bp (bt k e));have G9:=OJ (HJ HH.out.2 (.cells #[.int .i64 s.e,.int .i64 s.p,.int .i64 s.f,.bool s.w] 112)) k2 bt;have HF:=AA (xU o9 (xU (D9.mono (M:=N+80) (by omega)) G9));clear o9 D9 G9 k1 k2 k3 k4;go_wp2_with fail;go_ret;exact⟨_,rfl,⟨_,HF.out.1⟩,HF.out.2.1,HF.out.2.2⟩
  have t0:(u==0)=false:=by simp[u0]
  clear u0
  by_cases u0:u=1
  .subst u0
   clear O3 h3 G3;go_wp2_with (at_builtin;go_must (refine Bg (lo:=w.heap.size) (n:=ss.length) (xs:=Cc AU ss) (m:=ss.length) (news:=Cc AU ss) rfl rfl 112 (.agg #[.int .i64 0,.int .i64 0,.int .i64 0,.bool false]) 4 32 underlying26 Tryz.zF rfl (by decide) rfl HF.out.1 rfl (HF.out.1.rd) (J9 ss) (by unfold maxLen;omega) (by omega) (HF.out.2.2.size) ?_;intro o' w9 k1 k2 k3 k4));have o9:AQ w.heap.size 112 4 AU w9 o' (ss++ss):=by unfold AQ;rw[Bf,yj];exact k1
   have bt:∀k,(xi oa ss.length oc).ownBlock=some k->w.heap.size<=k:=λk e=>(yk HF.out.1 k e).1
   have D9:=HF.out.2.1.keep k2 (λe=>by have:=bt g e;have:=Hp.out g rfl;omega) (λk e=>yB bp (bt k e));have G9:=OJ HF.out.2.2 k2 bt;have HH:=AA (xU o9 (xU D9 G9));clear o9 D9 G9 k1 k2 k3 k4;go_wp2_with fail;go_ret;exact⟨_,rfl,⟨_,HH.out.1⟩,HH.out.2.1,HH.out.2.2⟩
  have t1:(u==1)=false:=by simp[u0]
  clear u0 O3 h3 G3;go_wp2_with fail;go_ret;exact⟨_,rfl,⟨_,HF.out.1⟩,HF.out.2.1,HF.out.2.2⟩
def VM:List ByteArray:=[⟨#[98]⟩,⟨#[97]⟩,⟨#[97,98]⟩,⟨#[]⟩]
theorem bj{s:ByteArray}(K:s∈VM):DQ (NQ [[gA],[s],[gC]]):=by
 simp only[VM,xD,wD,or_false] at K
 rcases K with rfl|rfl|rfl|rfl<;>exact El.1 (by kernel_rfl)
theorem Wb{s:ByteArray}(K:s∈VM):∀ts∈[[gA],[s],[gC]],BW ts=true:=by
 intro ts h;simp only[VM,xD,wD,or_false] at K h
 rcases h with rfl|rfl|rfl
 .decide+kernel
 .rcases K with rfl|rfl|rfl|rfl<;>decide+kernel
 .decide+kernel
theorem YI{s:ByteArray}(K:s∈VM):∀ts∈[[gA],[s],[gC]],Db ts:=by
 intro ts h;simp only[VM,xD,wD,or_false] at K h
 rcases h with rfl|rfl|rfl<;>intro x hx<;>rw[List.mem_singleton] at hx<;>subst hx
 .decide
 .rcases K with rfl|rfl|rfl|rfl<;>decide
 .decide
theorem YS{w:World}{va vb vc:Value}{a b c:List ByteArray}(u:TypeId)(ha:BY w va a)(R:BY w vb b)(hc:BY w vc c)(sa:∃x n k,va=.slice x n k)(sb:∃x n k,vb=.slice x n k)(sc:∃x n k,vc=.slice x n k):
 L6 (w.alloc (.cells #[va,vb,vc] u)) (.slice (some ⟨w.heap.size,0,none⟩) 3 3) [a,b,c]:=by
 obtain⟨_,_,_,rfl⟩:=sa;obtain⟨_,_,_,rfl⟩:=sb;obtain⟨_,_,_,rfl⟩:=sc;refine⟨[_,_,_],Rd.zC _ #[_,_,_] u 1 3 _ (by simp) rfl (by simp[maxLen]),rfl,?_⟩;intro i x y hx hy
 match i,hx,hy with
 |0,hx,hy=>simp at hx hy;subst hx hy;exact ha.below (AI _ _)
 |1,hx,hy=>simp at hx hy;subst hx hy;exact R.below (AI _ _)
 |2,hx,hy=>simp at hx hy;subst hx hy;exact hc.below (AI _ _)
theorem Rj{Y w:World}{g N:Nat}(h:Dr Y g N w)(hN:N<=400000):
 Calls prog 141 #[.pointer (some ⟨g,0,none⟩)] w (dA DQ Y g (N+3000) w):=by
 have ac:=h.lt;have bp:Y.heap.size<=w.heap.size:=h.2.1.size;go_in;go_wp2_with fail;obtain⟨B0,BA,b0,bx⟩:=Jz w (.cells #[.slice none 0 0,.slice none 0 0,.slice none 0 0,.slice none 0 0] 28) (.cells #[.string ⟨#[97]⟩] 9);go_wp2_with fail;generalize(w.alloc _).alloc _=wa at*;rw[<-bx];have h0:=h.below b0;refine(OO wa.heap.size 4 VM (h0.alloc _) (by omega) rfl (by decide) (by decide) (by have:=h0.lt;omega) (by simp) (λk L=>KV wa VM _ L)).mono ?_;rintro e w1 ⟨v,rfl,⟨s,K,rfl⟩,X,g1⟩;have g2:=AP (AY (AI wa (.cells #[.string ⟨#[98]⟩,.string ⟨#[97]⟩,.string ⟨#[97,98]⟩,.string ⟨#[]⟩] 9)) (some g)) g1;have lR:=(g2.block _ (AW BA) (by simp;omega)).trans BA;have B1:=(g2.block _ (AW B0) (by simp;omega)).trans B0;have G1:=AP (AY b0 (some g)) g2;clear h0 g1 g2 BA B0 b0 h;obtain⟨NS,NC,b1,gO⟩:=Jz w1 (.cells #[.string s] 9) (.cells #[.string ⟨#[99]⟩] 9);have jq:=YS 72 (show BY _ _ [⟨#[97]⟩] from NX (AB lR b1)) (show BY _ _ [s] from NX NS) (show BY _ _ [⟨#[99]⟩] from NX NC) ⟨_,_,_,rfl⟩ ⟨_,_,_,rfl⟩ ⟨_,_,_,rfl⟩;rw[gO] at jq;go_wp2_with fail;refine(LQ _ [[⟨#[97]⟩],[s],[⟨#[99]⟩]] _ jq rfl (Wb K) (YI K)).mono ?_;rintro e w2 ⟨m,i,ev,c,rfl,O2,b2⟩;have eU:=b1.trans (((AI _ _).trans (b2.mono (AI _ _).size)).mono b1.size);obtain⟨⟨ma,mn,mc,rfl⟩,⟨ia,iN,ic,rfl⟩,⟨ea,en,ec,rfl⟩,⟨ca,cn,cc,rfl⟩⟩:=O2.zQ;have bK:=AI w2 (.cells #[.slice ma mn mc,.slice ia iN ic,.slice ea en ec,.slice ca cn cc] 28);have ez:w.heap.size<w2.heap.size:=by have:=AW B1;have:=eU.size;omega
 have A:JQ DQ Y g (N+1) w w2.heap.size (w2.alloc (.cells #[.slice ma mn mc,.slice ia iN ic,.slice ea en ec,.slice ca cn cc] 28)):=⟨_,_,_,_,NQ [[⟨#[97]⟩],[s],[⟨#[99]⟩]],(X.below eU).below bK,AP (AP G1 (AY eU _)) (AY bK _),yi _ _,(O2.sf.map (Jv bK (by have:=b1.size;have:=(AI ((w1.alloc (.cells #[.string s] 9)).alloc (.cells #[.string ⟨#[99]⟩] 9)) (.cells #[.slice (some ⟨w.heap.size+1,0,none⟩) 1 1,.slice (some ⟨w1.heap.size,0,none⟩) 1 1,.slice (some ⟨w1.heap.size+1,0,none⟩) 1 1] 72)).size;have:=AW B1;omega))),bj K,_,_,_,_,AB (AB B1 eU) bK⟩;clear O2 b2 eU jq NS NC b1 gO X G1 lR B1 bK bx K;go_wp2_with fail;generalize w2.alloc _=w3 at*;generalize w2.heap.size=b at*;refine(A.pk ac ez 5 (by omega) (by decide) (by decide)).mono ?_;rintro e w4 ⟨x,rfl,x0,z,S4⟩;clear A;go_upto_if 24 with fail;go_cut [] (λwx=>JQ DQ Y g (N+20) w b wx)
 case first=>
  by_cases hx:0<x
  .go_wp2_with fail
   refine(S4.pk ac ez 3 (by omega) (by decide) (by decide)).mono ?_;rintro e w5 ⟨y,rfl,y0,y1,S5⟩;clear S4;go_wp2_with fail;refine(Nc (1+y) w5 (by omega) (by omega)).mono ?_;rintro e w6 ⟨m1,i1,e1,c1,s1,l1,q1,rfl,O6,b6⟩;obtain⟨⟨⟨ma,mn,mc,rfl⟩,⟨ia,iN,ic,rfl⟩,⟨ea,en,ec,rfl⟩,⟨ca,cn,cc,rfl⟩⟩,⟨sa,sn,sc,rfl⟩,⟨la,ln,lc,rfl⟩,⟨qa,qn,qc,rfl⟩⟩:=O6.zQ;have eX:Du (VQ (1+y)):=XP (by omega) (by omega);clear y0 y1;generalize VQ (1+y)=P1 at*;unfold AN;have bB:=AI w6 (.cells #[.slice ma mn mc,.slice ia iN ic,.slice ea en ec,.slice ca cn cc,.slice sa sn sc,.slice la ln lc,.slice qa qn qc,.int .i64 P1.zR,.int .i64 P1.zU] 32);have fs:=b6.trans (bB.mono b6.size);have SK:=S5.below ac ez fs;obtain⟨_,_,_,_,_,h5,g5,B5,_,_,_⟩:=S5;have ny:=AW B5;have A:LJ Y g (N+3) w (w6.alloc (.cells #[.slice ma mn mc,.slice ia iN ic,.slice ea en ec,.slice ca cn cc,.slice sa sn sc,.slice la ln lc,.slice qa qn qc,.int .i64 P1.zR,.int .i64 P1.zU] 32)) w6.heap.size _ _ _ _ _ _ _ P1 (w6.alloc (.cells #[.slice ma mn mc,.slice ia iN ic,.slice ea en ec,.slice ca cn cc,.slice sa sn sc,.slice la ln lc,.slice qa qn qc,.int .i64 P1.zR,.int .i64 P1.zU] 32)):=
    ⟨(h5.below fs).mono (by omega),AP g5 (AY fs _),yi _ _,O6.map (Jv bB (by omega)),eX,ac,bp,by have:=b6.size;omega,yv _,λ_ _ _ _=>rfl⟩
   have pB:b<w6.heap.size:=by have:=b6.size;omega
   clear O6 b6 bB fs h5 g5 B5 eX ny;go_wp2_with fail;generalize w6.alloc _=W1 at*;generalize w6.heap.size=b5 at*;refine(A.pk 4).mono ?_;rintro e w7 ⟨n,rfl,n0,n1,S7⟩;clear A;obtain⟨n,rfl⟩:=xQ n0;have pt:n<4:=by omega
   clear n0 n1;go_wp2_with fail;go_loopw [8] (λi wr=>∃j:Nat,j<=n/\i=.int .i64 j/\Pf Y g (N+4+2*j) w W1 b5 wr) (λi _=>n - (intOf i).toNat)
   exact⟨0,yg _,rfl,_,_,_,_,_,_,_,P1,S7⟩
   clear S7;obtain⟨j,hj,rfl,m1,i1,e1,c1,s1,l1,q1,Q,A⟩:=hrel;have jw:=AW A.yK;obtain⟨⟨⟨ma,mn,mc,rfl⟩,⟨ia,iN,ic,rfl⟩,⟨ea,en,ec,rfl⟩,⟨ca,cn,cc,rfl⟩⟩,⟨sa,sn,sc,rfl⟩,⟨la,ln,lc,rfl⟩,⟨qa,qn,qc,rfl⟩⟩:=A.sf.zQ
   by_cases gv:j<n
   .go_wp2_with fail
    obtain⟨N1,hN1⟩:∃M,M=N+4+2*j:=⟨_,rfl⟩
    rw[<-hN1] at A;obtain⟨c0,c1,c2,c3,c4,c5,c6,c7,c8⟩:=AD A.yK;have ar:=AW A.yK;refine IL (s:=10) (U:=λix vv=>match ix with
     |2=>Pk 64 vv
     |4=>Pk 99 vv
     |5=>∃x:Int,vv=.int .i64 x/\1<=x/\x<=99
     |6|7=>∃v,∃x:Bool,vv=.tuple #[v,.bool x]
     |_=>True) 11 68 1 2 [2,4] [.a #[.slice ma mn mc,.slice ia iN ic,.slice ea en ec,.slice ca cn cc,.slice sa sn sc,.slice la ln lc,.slice qa qn qc,.int .i64 Q.zR,.int .i64 Q.zU],.p g 0,.z,.p g 0,.z,.z,.z,.z,.z,.z,.u] (λix vv ww=>match ix with
     |6|7=>∃v,(∃x:Bool,vv=.tuple #[v,.bool x])/\Ob (w.heap.size+1) ww v
     |8=>Ob (w.heap.size+1) ww vv
     |9=>True
     |_=>True) (λww=>Pf Y g (N1+2) w W1 b5 ww) A.dr ?_ ?_ ?_ ?_ ?_ (hst:=?_)
    .intro i hi hS o E a wx Z ll J D hr hs O
     match i,hi,hS with
     |0,_,_=>have hW:=hr (by kernel_rfl);have di:=gc hW ar (by omega) c0;have bN:=gc hW ar (by omega) c1;have dh:=gc hW ar (by omega) c2;have cw:=gc hW ar (by omega) c3;have bk:=gc hW ar (by omega) c4;have dx:=gc hW ar (by omega) c5;have fy:=gc hW ar (by omega) c6;have gj:=gc hW ar (by omega) c7;have gI:=gc hW ar (by omega) c8;exact JM E O Z J D (hl:=Tz ‹_› ‹_› ‹_› ‹_› ‹_› ‹_› ‹_› ‹_› ‹_›)
     |1,_,_|3,_,_=>exact Rb E O Z J D
     |2,_,K|4,_,K|10,_,K=>cases K
     |5,_,_=>obtain rfl:=yF E;have d4:(Pk 99 (a.tmps[44]?.getD undef))/\(ll 10=false->True):=Cw J D 4;obtain⟨⟨x4,d4,p2,p3⟩,_⟩:=d4;have fJ:=A9 D 10;clear J Z;refine yE ?_;go_simp;exact O.out _ _ ⟨⟨_,by rw[xA _ (by omega)],by omega,by omega⟩,λ_=>trivial⟩ (yD _ _)
     |6,_,_=>obtain rfl:=yF E;have d0:(a.tmps[40]?.getD undef)=.agg #[.slice ma mn mc,.slice ia iN ic,.slice ea en ec,.slice ca cn cc,.slice sa sn sc,.slice la ln lc,.slice qa qn qc,.int .i64 Q.zR,.int .i64 Q.zU]:=Cw J D 0;have d2:(Pk 64 (a.tmps[42]?.getD undef))/\(ll 10=false->True):=Cw J D 2;obtain⟨⟨x2,d2,p0,p1⟩,_⟩:=d2;have d5:(∃x:Int,(a.tmps[45]?.getD undef)=.int .i64 x/\1<=x/\x<=99)/\(ll 10=false->True):=Cw J D 5;obtain⟨⟨x5,d5,r0,r1⟩,_⟩:=d5;have fJ:=A9 D 10;clear J Z;have hW:=hr (by kernel_rfl);have fW:=A.sf.map (GD hW (by omega) (yv _));have jp:=hW.size;obtain⟨a2,rfl⟩:=xQ p0;refine yE ?_;go_simp;refine(JK _ _ _ _ _ _ _ Q wx fW.rd A.good (a:=a2) (by omega) (x:=x5) (AZ.2 (by omega))).mono ?_;rintro e w_ ⟨m9,i9,e9,c9,s9,l9,q9,rfl,hO,dZ⟩;exact O.out _ _ ⟨⟨_,_,rfl⟩,λ_=>⟨_,⟨_,rfl⟩,hO.sf.pgR (OX A.good (by omega) (AZ.2 (by omega))) (by omega)⟩⟩ dZ
     |7,_,_=>obtain rfl:=yF E;have d6:(∃v,∃x:Bool,(a.tmps[46]?.getD undef)=.tuple #[v,.bool x])/\(ll 10=false->∃v,(∃x:Bool,(a.tmps[46]?.getD undef)=.tuple #[v,.bool x])/\Ob (w.heap.size+1) wx v):=Cw J D 6;have fJ:=A9 D 10;clear J Z;have q:=d6.2 (A9 D 10);obtain⟨v9,⟨x9,e9⟩,q⟩:=q;refine yE ?_;go_simp;exact O.out _ _ ⟨⟨_,_,rfl⟩,λ_=>⟨_,⟨_,rfl⟩,q⟩⟩ (yD _ _)
     |8,_,_=>obtain rfl:=yF E;have d7:(∃v,∃x:Bool,(a.tmps[39]?.getD undef)=.tuple #[v,.bool x])/\(ll 10=false->∃v,(∃x:Bool,(a.tmps[39]?.getD undef)=.tuple #[v,.bool x])/\Ob (w.heap.size+1) wx v):=Cw J D 7;have fJ:=A9 D 10;clear J Z;have q:=d7.2 (A9 D 10);obtain⟨v9,⟨x9,e9⟩,q⟩:=q;refine yE ?_;go_simp;exact O.out _ _ ⟨trivial,λ_=>q⟩ (yD _ _)
     |9,_,_=>obtain rfl:=yF E;have d7:(∃v,∃x:Bool,(a.tmps[39]?.getD undef)=.tuple #[v,.bool x])/\(ll 10=false->∃v,(∃x:Bool,(a.tmps[39]?.getD undef)=.tuple #[v,.bool x])/\Ob (w.heap.size+1) wx v):=Cw J D 7;clear J Z;obtain⟨v9,x9,e9⟩:=d7.1;refine yE ?_;go_simp;exact O.out _ _ ⟨trivial,λ_=>trivial⟩ (yD _ _)
    .intro i hi hS o E a wx Z ll J D H hs O
     match i,hi,hS with
     |2,_,_=>exact fK (m:=64) E O Z J D H (by omega)
     |4,_,_=>exact fK (m:=99) E O Z J D H (by omega)
     |0,_,K|1,_,K|3,_,K|5,_,K|6,_,K|7,_,K|8,_,K|9,_,K|10,_,K=>cases K
    .intro o E a wx Z ll J D hD hW hs O
     obtain rfl:=yF E;have e5:a.tmps[5]?.getD undef=.pointer (some ⟨b5,0,none⟩):=eg (PI Z 5);have d8:(True)/\(ll 10=false->Ob (w.heap.size+1) wx (a.tmps[47]?.getD undef)):=Cw J D 8;clear J Z;have q:=d8.2 D.out.1;obtain⟨m9,i9,e9,c9,s9,l9,q9,P9,e0,eW,eO⟩:=q;unfold AN at e0;obtain⟨⟨⟨va,vn,vc,rfl⟩,⟨wa,wn,wc,rfl⟩,⟨xa,xn,xc,rfl⟩,⟨ya,yn,yc,rfl⟩⟩,⟨ta,tn,tc,rfl⟩,⟨ua,un,uc,rfl⟩,⟨za,zn,zc,rfl⟩⟩:=eW.zQ;have S9:=(A.draw hD hW).put eW eO;have B9:=(A.draw hD hW).yK;obtain⟨c0,c1,c2,c3,c4,c5,c6,c7,c8⟩:=AD B9;have fq:=AK B9;refine yE ?_;go_simp;exact O.out undef _ ⟨_,_,_,_,_,_,_,P9,S9⟩
    .exact λ_ _ R h=>h.below R
    rotate_left
    .intro i hi v ww fx hg hz
     match i,hi with
     |6,_|7,_=>exact(by obtain⟨v9,X,V⟩:=hz;exact⟨v9,X,V.past (by omega) hg⟩)
     |8,_=>exact(hz.past (by omega) hg)
     |9,_|0,_|1,_|2,_|3,_|4,_|5,_|10,_=>exact hz
    .intro vs wx ll hR hA
     clear hR;simp only[Cn,BQ,yC,yy,yz,yx];simp
     try generalize vs 0=z0
     try generalize vs 1=z1
     try generalize vs 2=z2
     try generalize vs 3=z3
     try generalize vs 4=z4
     try generalize vs 5=z5
     try generalize vs 6=z6
     try generalize vs 7=z7
     try generalize vs 8=z8
     try generalize vs 9=z9
     try generalize vs 10=z10
     go_wp2_with fail;go_roundw;exact⟨j+1,by omega,by go_num,by rw[show N+4+2*(j+1)=N1+2 from by omega];exact hA⟩;simp[intOf];omega
   .obtain⟨c0,c1,c2,c3,c4,c5,c6,c7,c8⟩:=AD A.yK
    obtain⟨_,_,_,_,_,_,_,B9,_,_,a0,a1,a2,a3,R9⟩:=SK;have na:b≠g:=by omega
    have kM:=AW R9;have fI:=(A.kp b (AW B9) na (by omega)).trans B9;have lF:=(A.kp w.heap.size (AW R9) (by omega) (by omega)).trans R9;obtain⟨d0,d1,d2,d3⟩:=AE fI;have fd:=AK fI;have HR:=AA (JQ.put (A.dr.mono (M:=N+20) (by omega)) A.gr fI (A.sf.1.map (λ_ _ _ _ _ _ _ x=>BU x (wu _))) A.good.k ac bp ez lF);clear B9 R9 fI lF A;go_wp2_with fail;go_meet;exact HR.out
  .go_wp2_with fail
   go_meet;exact S4.mono (by omega)
 case rest=>
 clear S4 x0 z;go_wp2_with fail;refine(hcut.pk ac ez 24 (by omega) (by decide) (by decide)).mono ?_;rintro e w5 ⟨n,rfl,n0,n1,S5⟩;clear hcut;obtain⟨n,rfl⟩:=xQ n0;have jt:n<24:=by omega
 clear n0 n1;go_wp2_with fail;go_loopw [10] (λi wr=>∃j:Nat,j<=n/\i=.int .i64 j/\JQ DQ Y g (N+21+20*j) w b wr) (λi _=>n - (intOf i).toNat)
 exact⟨0,yg _,rfl,S5⟩
 clear S5;obtain⟨j,hj,rfl,m1,i1,e1,c1,k,hd,jO,hB,hC,L,a0,a1,a2,a3,hR⟩:=hrel;obtain⟨⟨ma,mn,mc,rfl⟩,⟨ia,iN,ic,rfl⟩,⟨ea,en,ec,rfl⟩,⟨ca,cn,cc,rfl⟩⟩:=hC.zQ;obtain⟨c0,c1,c2,c3⟩:=AE hB;have ar:=AW hB;have kL:=ez
 by_cases gv:j<n
 .go_wp2_with fail
  obtain⟨N1,hN1⟩:∃M,M=N+21+20*j:=⟨_,rfl⟩
  rw[<-hN1] at hd;refine IL (s:=9) (U:=λix vv=>match ix with
   |3=>∃x:Ac,vv=.agg x.cs/\LN x
   |4|5=>∃v,∃x y:Int,vv=.tuple #[v,.int .i64 x,.int .i64 y]
   |_=>True) 10 68 20 1 [3] [.a #[.slice ma mn mc,.slice ia iN ic,.slice ea en ec,.slice ca cn cc],.p g 0,.a #[.slice ma mn mc,.slice ia iN ic,.slice ea en ec,.slice ca cn cc],.z,.z,.z,.z,.z,.z,.u] (λix vv ww=>match ix with
   |4|5=>∃v,(∃x y:Int,vv=.tuple #[v,.int .i64 x,.int .i64 y])/\Yn w.heap.size ww v
   |6=>Yn w.heap.size ww vv
   |7|8=>True
   |_=>True) (λww=>JQ DQ Y g (N1+20) w b ww) hd ?_ ?_ ?_ ?_ ?_ (hst:=?_)
  .intro i hi hS o E a wx Z ll J D hr hs O
   match i,hi,hS with
   |0,_,_|2,_,_=>have hW:=hr (by kernel_rfl);have di:=gc hW ar (by omega) c0;have bN:=gc hW ar (by omega) c1;have dh:=gc hW ar (by omega) c2;have cw:=gc hW ar (by omega) c3;exact JM E O Z J D (hl:=OM ‹_› ‹_› ‹_› ‹_›)
   |1,_,_=>exact Rb E O Z J D
   |3,_,K|9,_,K=>cases K
   |4,_,_=>obtain rfl:=yF E;have d0:(a.tmps[59]?.getD undef)=.agg #[.slice ma mn mc,.slice ia iN ic,.slice ea en ec,.slice ca cn cc]:=Cw J D 0;have d3:(∃x:Ac,(a.tmps[62]?.getD undef)=.agg x.cs/\LN x)/\(ll 9=false->True):=Cw J D 3;obtain⟨⟨cl,d3,fD⟩,_⟩:=d3;have u9:=A9 D 9;clear J Z;have hW:=hr (by kernel_rfl);have fW:=hC.map (GD hW ac (yv _));have jp:=hW.size;refine yE ?_;go_simp;refine(Le fW.rd L cl ⟨fD.2.1,fD.2.2.1⟩ (by have:=fD.1;unfold maxLen;omega) (by have:=fD.2.2.2;omega)).mono ?_;rintro e w_ ⟨m9,i9,e9,c9,rfl,hO,dZ⟩;exact O.out _ _ ⟨⟨_,_,_,rfl⟩,λ_=>⟨_,⟨_,_,rfl⟩,m9,i9,e9,c9,_,rfl,hO.sf.map (λ_ _ _ _ _ _ _ x=>BU x (by omega)),M8 L ⟨fD.2.1,by have:=fD.2.2.1;omega⟩⟩⟩ dZ
   |5,_,_=>obtain rfl:=yF E;have d4:(∃v,∃x y:Int,(a.tmps[63]?.getD undef)=.tuple #[v,.int .i64 x,.int .i64 y])/\(ll 9=false->∃v,(∃x y:Int,(a.tmps[63]?.getD undef)=.tuple #[v,.int .i64 x,.int .i64 y])/\Yn w.heap.size wx v):=Cw J D 4;have u9:=A9 D 9;clear J Z;have q:=d4.2 (A9 D 9);obtain⟨v9,⟨x9,y9,e9⟩,q⟩:=q;refine yE ?_;go_simp;exact O.out _ _ ⟨⟨_,_,_,rfl⟩,λ_=>⟨_,⟨_,_,rfl⟩,q⟩⟩ (yD _ _)
   |6,_,_=>obtain rfl:=yF E;have d5:(∃v,∃x y:Int,(a.tmps[58]?.getD undef)=.tuple #[v,.int .i64 x,.int .i64 y])/\(ll 9=false->∃v,(∃x y:Int,(a.tmps[58]?.getD undef)=.tuple #[v,.int .i64 x,.int .i64 y])/\Yn w.heap.size wx v):=Cw J D 5;have u9:=A9 D 9;clear J Z;have q:=d5.2 (A9 D 9);obtain⟨v9,⟨x9,y9,e9⟩,q⟩:=q;refine yE ?_;go_simp;exact O.out _ _ ⟨trivial,λ_=>q⟩ (yD _ _)
   |7,_,_=>obtain rfl:=yF E;have d5:(∃v,∃x y:Int,(a.tmps[58]?.getD undef)=.tuple #[v,.int .i64 x,.int .i64 y])/\(ll 9=false->∃v,(∃x y:Int,(a.tmps[58]?.getD undef)=.tuple #[v,.int .i64 x,.int .i64 y])/\Yn w.heap.size wx v):=Cw J D 5;clear J Z;obtain⟨v9,x9,y9,e9⟩:=d5.1;refine yE ?_;go_simp;exact O.out _ _ ⟨trivial,λ_=>trivial⟩ (yD _ _)
   |8,_,_=>obtain rfl:=yF E;have d5:(∃v,∃x y:Int,(a.tmps[58]?.getD undef)=.tuple #[v,.int .i64 x,.int .i64 y])/\(ll 9=false->∃v,(∃x y:Int,(a.tmps[58]?.getD undef)=.tuple #[v,.int .i64 x,.int .i64 y])/\Yn w.heap.size wx v):=Cw J D 5;clear J Z;obtain⟨v9,x9,y9,e9⟩:=d5.1;refine yE ?_;go_simp;exact O.out _ _ ⟨trivial,λ_=>trivial⟩ (yD _ _)
  .intro i hi hS o E a wx Z ll J D H hs O
   match i,hi,hS with
   |3,_,_=>exact fR (Pv:=λv _=>∃x:Ac,v=.agg x.cs/\LN x) E O Z J D H (λM hM hD hW=>Oo (.slice ma mn mc) (.slice ia iN ic) (.slice ea en ec) (.slice ca cn cc) k.zZ hD (by omega) (λw' hg=>(hC.map (GD (AP hW hg) ac (yv _))).rd.2.1) (Nat.le_of_eq L.len)) (hR:=λ_ _ h=>⟨h,trivial⟩)
   |0,_,K|1,_,K|2,_,K|4,_,K|5,_,K|6,_,K|7,_,K|8,_,K|9,_,K=>cases K
  .intro o E a wx Z ll J D hD hW hs O
   obtain rfl:=yF E;have e3:a.tmps[3]?.getD undef=.pointer (some ⟨b,0,none⟩):=eg (PI Z 3);have d6:(True)/\(ll 9=false->Yn w.heap.size wx (a.tmps[64]?.getD undef)):=Cw J D 6;clear J Z;have q:=d6.2 D.out.1;obtain⟨m9,i9,e9,c9,k9,e0,eW,eO⟩:=q;obtain⟨⟨va,vn,vc,rfl⟩,⟨wa,wn,wc,rfl⟩,⟨xa,xn,xc,rfl⟩,⟨ya,yn,yc,rfl⟩⟩:=eW.zQ;have ef:=(hW.block b ar (by simp;omega)).trans hB;have nA:=(hW.block _ (AW hR) (by simp;omega)).trans hR;obtain⟨c0,c1,c2,c3⟩:=AE ef;have fq:=AK ef;refine yE ?_;go_simp;exact O.out undef _ (JQ.put hD (AP jO hW) ef eW eO ac bp kL nA)
  .exact λ_ _ R h=>h.below ac kL R
  rotate_left
  .intro i hi v ww fx hg hz
   match i,hi with
   |4,_|5,_=>exact(by obtain⟨v9,X,V⟩:=hz;exact⟨v9,X,V.past ac hg⟩)
   |6,_=>exact(hz.past ac hg)
   |7,_|8,_|0,_|1,_|2,_|3,_|9,_=>exact hz
  .intro vs wx ll hR hA
   clear hR;simp only[Cn,BQ,yC,yy,yz,yx];simp
   try generalize vs 0=z0
   try generalize vs 1=z1
   try generalize vs 2=z2
   try generalize vs 3=z3
   try generalize vs 4=z4
   try generalize vs 5=z5
   try generalize vs 6=z6
   try generalize vs 7=z7
   try generalize vs 8=z8
   try generalize vs 9=z9
   go_wp2_with fail;go_roundw;exact⟨j+1,by omega,by go_num,by rw[show N+21+20*(j+1)=N1+20 from by omega];exact hA⟩;simp[intOf];omega
 .obtain⟨d0,d1,d2,d3⟩:=AE hR
  have fE:=AK hR;obtain⟨BX,FX⟩:=bg (ok:=DQ) (M:=N+3000) hd jO hC L ac bp hR (by omega);have BH:=AA BX;have FH:=AA FX;clear BX FX hB hd jO hC hR L;go_wp2_with fail;exact yr (v:=.agg #[_,_,_,_]) (by simp[results,Tryz.results141,go_sem,AE BH.out]) rfl FH.out
theorem TE{xs:List AV}{f:Nat}{y:AV}(h:IS xs)(hy:y.g.size<=maxLen):IS (xs.set f y):=by
 intro x hx
 rcases List.mem_or_eq_of_mem_set hx with X|X
 .exact h x X
 .subst X;exact hy
theorem Qp{es:List Eh}{f:Eh->Eh}(h:∀i,i<es.length->Db (AJ es i).zT)(hf:∀e,Db e.zT->Db (f e).zT):∀i,i<(At es j f).length->Db (AJ (At es j f) i).zT:=by
 intro i hi;rw[DF] at hi;rw[GX]
 split
 .rename_i e
  exact hf _ (h j e.2)
 .exact h i hi
theorem Wx{es:List Eh}{n:Nat}(h:∀i,i<es.length->Db (AJ es i).zT):∀i,i<(es.take n).length->Db (AJ (es.take n) i).zT:=by
 intro i hi;rw[xT] at hi;have e:AJ (es.take n) i=AJ es i:=by unfold AJ;rw[xO,xO,ve,if_pos (by omega)]
 rw[e];exact h i (by omega)
section
variable {lo g:Nat} {w w':World} {m i e c:Value} {k:AO}
theorem Il.putWord(h:Il lo w g m i e c k)(de:Bu k.mem=true){f:Nat}(hf:f<12):
 ∃gm hJ gw ds,m=.slice (some ⟨gm,0,none⟩) 12 hJ/\gm<w.heap.size/\lo<=gm/\w.cell? ⟨gm,f,none⟩=some (.slice (some ⟨gw,0,none⟩) 4 ds)/\lo<=gw/\
  ∀W q,w.grownBy W (some q)->q<lo->Il lo W g m i e c k->(∀j,W.frozen? ⟨gw,j,none⟩=false)/\gw<W.heap.size/\(∀j,j<4->∃u,W.cell? ⟨gw,j,none⟩=some u)/\∀j v,Il lo (W.setCell ⟨gw,j,none⟩ (.int .i64 v)) g m i e c {k with mem:=k.mem.set f ((AG k.mem f).set j v)}/\W.grownBy (W.setCell ⟨gw,j,none⟩ (.int .i64 v)) (some gw):=by
 obtain⟨gm,bu,gw,ds,vs,rfl,m7,_,hc,hl,ay,X,V,o,hu,hx⟩:=h.zd de hf;have h4:=(A4.1 ((Ai.1 de).2 f hf)).1;refine⟨gm,bu,gw,ds,rfl,m7,(yk o.1 gm rfl).1,hc,ay,λW q hg hq hI=>?_⟩;have hp:∀b',some q=some b'->b'<lo:=λb' e=>by cases e;exact hq
 have mH:w.ownsRow lo 3 1 (.slice (some ⟨gw,0,none⟩) 4 ds) 4 ((AG k.mem f).map (xY .i64)):=by have:=hx;unfold AF at this;rwa [h4] at this
 have iu:=Bs mH hg hp;refine⟨λq=>xJ iu q,(yk iu gw rfl).2,λj hj=>?_,λj v=>?_⟩
 .rw[xB iu j hj,xm,yw (by omega)]
  exact⟨_,rfl⟩
 have S:=wJ iu j (.int .i64 v);have hO:AF lo (W.setCell ⟨gw,j,none⟩ (.int .i64 v)) (.slice (some ⟨gw,0,none⟩) 4 ds) ((AG k.mem f).set j v):=by unfold AF;rw[xP,h4,List.map_set];exact S.1
 exact⟨hI.row ⟨Bs o.1 hg hp,o.2.1.mono λ_ _ x=>Bs x hg hp,o.2.2⟩ (by rw[(Ai.1 de).1];exact hf) hu hO S.2,S.2⟩
theorem Il.infoPut{gi n:Nat}(h:Il lo w g m (.slice (some ⟨gi,0,none⟩) n bu) e c k)(hn:n=k.zZ.length){f:Nat}(hf:f<k.zZ.length)(y:AV):
 Il lo (((w.setCell ⟨gi,f*3,none⟩ (.int .i64 y.k)).setCell ⟨gi,f*3+1,none⟩ (.string y.g)).setCell ⟨gi,f*3+2,none⟩ (.int .i64 y.r)) g m (.slice (some ⟨gi,0,none⟩) n bu) e c {k with zZ:=k.zZ.set f y}/\w.grownBy (((w.setCell ⟨gi,f*3,none⟩ (.int .i64 y.k)).setCell ⟨gi,f*3+1,none⟩ (.string y.g)).setCell ⟨gi,f*3+2,none⟩ (.int .i64 y.r)) (some gi)/\lo<=gi:=by
 have hx:k.zZ[f]?=some k.zZ[f]:=yw hf;obtain⟨a1,a2,a3⟩:=h.info hn hx (j:=0) (by decide) (y:= {k.zZ[f] with k:=y.k}) (u:=.int .i64 y.k) rfl;have dy:({k with zZ:=k.zZ.set f {k.zZ[f] with k:=y.k}}:AO).zZ[f]?=some {k.zZ[f] with k:=y.k}:=xv hf;obtain⟨b1,b2,_⟩:=a1.info (by simpa using hn) dy (j:=1) (by decide) (y:= {k.zZ[f] with k:=y.k,g:=y.g}) (u:=.string y.g) rfl;have fh:({k with zZ:=(k.zZ.set f {k.zZ[f] with k:=y.k}).set f {k.zZ[f] with k:=y.k,g:=y.g}}:AO).zZ[f]?=some {k.zZ[f] with k:=y.k,g:=y.g}:=xv (by simpa using hf);obtain⟨c1,c2,_⟩:=b1.info (by simpa using hn) fh (j:=2) (by decide) (y:=y) (u:=.int .i64 y.r) rfl;refine⟨?_,AP (AP a2 b2) c2,a3⟩;have e:((k.zZ.set f {k.zZ[f] with k:=y.k}).set f {k.zZ[f] with k:=y.k,g:=y.g}).set f y=k.zZ.set f y:=by simp
 rw[<-e];exact c1
theorem Il.rightsSf{ge n:Nat}(h:Il lo w g m i (.slice (some ⟨ge,0,none⟩) n bu) c k)(hn:n=k.zX.length){j:Nat}(hj:j<k.zX.length){u:Value}{ss:List ByteArray}(hu:AQ lo 9 1 BD w u ss):
 (w.setCell ⟨ge,j*2,none⟩ u).heap[g]?=some (.cells #[m,i,.slice (some ⟨ge,0,none⟩) n bu,c] 28 (0,0))/\PK lo (w.setCell ⟨ge,j*2,none⟩ u) m i (.slice (some ⟨ge,0,none⟩) n bu) c {k with zX:=At k.zX j (Bc ss)}/\w.grownBy (w.setCell ⟨ge,j*2,none⟩ u) (some ge)/\lo<=ge:=by
 obtain⟨hB,hg,⟨vs,o1⟩,o2,⟨fL,a1,b2,b3⟩,o4⟩:=h;have eN:fL.length=k.zX.length:=b2.1;rw[<-eN] at hn;subst hn;have jC:j<fL.length:=by omega
 have S:=AQ.zx Fm a1 (k:=j) (x:=fL[j]) (yw jC) (j:=0) (by decide) (y:=(u,fL[j].2)) (u:=u) rfl;rw[xK] at S;obtain⟨fZ,hc⟩:=A6 a1 ge rfl;have dv:9≠74:=by decide
 have kC:=o1.yL S.2 hc;refine⟨Kn hB S.2 hc (by decide),⟨⟨vs,kC.1,kC.2.1⟩,o2.yL S.2 hc,⟨fL.set j (u,fL[j].2),?_,⟨?_,?_⟩⟩,o4.yL S.2 hc⟩,S.2,(yk a1 ge rfl).1⟩
 .have:=S.1
  unfold AQ;rw[xP];have h5:=this;unfold AQ at h5;rw[xP] at h5;exact h5
 .rw[xP,DF];exact eN
 .intro q p ev hp fi
  rw[Jc (d:=⟨[],0⟩)] at fi
  by_cases e:j=q
  .subst e
   rw[xv jC] at hp;rw[xv hj] at fi;cases hp;cases fi;have hx:=b2.2 j fL[j] (k.zX.getD j ⟨[],0⟩) (yw jC) (A2 hj);exact⟨hu.yL S.2 hc dv,hx.2⟩
  .rw[List.getElem?_set_ne e] at hp fi
   have hx:=b2.2 q p ev hp fi;exact⟨hx.1.yL S.2 hc dv,hx.2⟩
theorem SZ{α:Type}{cs:α->List Value}{sz:Nat}(K:∀x,(cs x).length=sz)(xs:List α)(n:Nat):Cc cs (xs.take n)=(Cc cs xs).take (n*sz):=by
 induction xs generalizing n with
 |nil=>simp[Cc]
 |cons x xs ih=>
  cases n with
  |zero=>simp[Cc]
  |succ n=>rw[List.take_succ_cons,G0,G0,ih,show(n+1)*sz=(cs x).length+n*sz by rw[K,Nat.succ_mul,Nat.add_comm],List.take_length_add_append]
theorem Ze{α:Type}{cs:α->List Value}{sz e g n x:Nat}{xs:List α}(K:∀x,(cs x).length=sz)(h:AQ lo e sz cs w (.slice (some ⟨g,0,none⟩) n bu) xs)(hn:n=xs.length)(hx:x<=n):AQ lo e sz cs w (.slice (some ⟨g,0,none⟩) x bu) (xs.take x):=by
 subst hn;have hl:(xs.take x).length=x:=by rw[xT];omega
 obtain⟨X,V⟩:=h;unfold AQ;rw[hl]
 rcases V with⟨h3,_⟩|⟨g',cap',fZ,h3,h4,h5,h6,h7,h8,h9⟩
 .cases h3
 .simp only[xH,Option.some.injEq,Addr.mk.injEq,true_and,and_true] at h3
  obtain⟨rfl,rfl⟩:=h3;refine⟨?_,.inr ⟨g,bu,fZ,rfl,h4,h5,by omega,h7,h8,?_⟩⟩
  .rw[SZ K,xT,X]
   exact ux (wA sz hx)
  .rw[SZ K,<-h9,List.take_take,ux (wA sz hx)]
theorem PK.cutEnvs{ge n x:Nat}(h:PK lo w m i (.slice (some ⟨ge,0,none⟩) n bu) c k)(hn:n=k.zX.length)(hx:x<=n):PK lo w m i (.slice (some ⟨ge,0,none⟩) x bu) c {k with zX:=k.zX.take x}:=by
 obtain⟨X,V,⟨ps,h3,h4⟩,h5⟩:=h;refine⟨X,V,⟨ps.take x,Ze Fm h3 (hn.trans h4.1.symm) hx,?_,λj p ev hp fi=>?_⟩,h5⟩
 .rw[xT,xT,h4.1]
 .rw[ve] at hp fi
  split at hp
  .rename_i hj
   rw[if_pos hj] at fi;exact h4.2 j p ev hp fi
  .cases hp
end
def Pm(lo:Nat)(w:World)(v:Value):Prop:=∃ss,AQ lo 9 1 BD w v ss/\Db ss
theorem Pm.past{lo g:Nat}{w w':World}{v:Value}(h:Pm lo w v)(hg:g<lo)(R:w.grownBy w' (some g)):Pm lo w' v:=by
 obtain⟨ss,X,V⟩:=h;exact⟨ss,Bs X R (λb' e=>by cases e;exact hg),V⟩
theorem YV{P:Program}{f:FuncId}{vs:Array Value}{Y w:World}{g N lo:Nat}(h:Calls P f vs w (J2 Y g N w λv w'=>∃ss,AQ w.heap.size 9 1 BD w' v ss/\Db ss))(hl:lo<=w.heap.size):Calls P f vs w (J2 Y g N w λv w'=>Pm lo w' v):=
 h.mono λ_ _ h=>by obtain⟨v,rfl,⟨ss,X,V⟩,h3⟩:=h;exact⟨v,rfl,⟨ss,X.lower hl,V⟩,h3⟩
theorem WX{Y w:World}{g N:Nat}(h:Dr Y g N w)(hN:N<=300000):
 Calls prog 88 #[.pointer (some ⟨g,0,none⟩)] w (dA Dn Y g (N+3200) w):=by
 have ac:=h.lt;have bp:Y.heap.size<=w.heap.size:=h.2.1.size;have B0:=yi w (.cells #[.slice none 0 0,.slice none 0 0,.slice none 0 0,.slice none 0 0] 28);have gA:=AY (AI w (.cells #[.slice none 0 0,.slice none 0 0,.slice none 0 0,.slice none 0 0] 28)) (some g);have bx:w.heap.size+1=(w.alloc (.cells #[.slice none 0 0,.slice none 0 0,.slice none 0 0,.slice none 0 0] 28)).heap.size:=by simp
 go_in;go_wp2_with fail;have hA:=h.alloc (.cells #[.slice none 0 0,.slice none 0 0,.slice none 0 0,.slice none 0 0] 28);generalize w.alloc _=wa at*;refine(Rj hA (by omega)).mono ?_;rintro e w1 ⟨v,rfl,⟨m,i,ev,c,k,rfl,S1,L⟩,X,g1⟩;obtain⟨⟨ma,mn,mc,rfl⟩,⟨ia,iN,ic,rfl⟩,⟨ea,en,ec,rfl⟩,⟨ca,cn,cc,rfl⟩⟩:=S1.zQ;rw[<-bx] at S1;have py:g<wa.heap.size:=by omega
 have B1:=(g1.block w.heap.size (by omega) (by simp;omega)).trans B0;obtain⟨NK,bK⟩:=Dd w1 (.cells #[.slice ma mn mc,.slice ia iN ic,.slice ea en ec,.slice ca cn cc] 28);have V:=X.below bK;have G2:=AP (AP gA g1) (AY bK (some g));have B2:=AB B1 bK;have S2:PK (w.heap.size+1) _ _ _ _ _ k:=S1.map (Jv bK (yv _));have ar:w.heap.size<w1.heap.size:=by have:=g1.size;omega
 clear S1 B1 X g1 hA B0 bK gA h;go_wp2_with fail;obtain⟨b,R⟩:∃b,b=w1.heap.size:=⟨_,rfl⟩
 rw[<-R] at NK ar ⊢;clear R;generalize w1.alloc _=w2 at*;refine(V.pick _).mono ?_;rintro e w3 ⟨x,rfl,x0,z,h3,g3⟩;have hp:∀b',some g=some b'->b'<w.heap.size+1:=λb' e=>by cases e;omega
 have S3:PK (w.heap.size+1) w3 _ _ _ _ k:=S2.map (GD g3 (by omega) (yv _));have B3:=Fy B2 (yv _) g3 (λb' e=>by cases e;exact ac);have eI:=Fy NK (uA ar) g3 (λb' e=>by cases e;exact ac);have G3:=AP G2 g3;obtain⟨c0,c1,c2,c3⟩:=AE eI;clear S2 B2 NK V G2 g3
 by_cases hx:0<x
 .obtain⟨d0,d1,d2,d3⟩:=AE B3
  have fE:=AK B3;obtain⟨BX,FX⟩:=bg (ok:=Dn) (M:=N+3200) h3 G3 (S3.map (λ_ _ _ _ _ _ _ h=>BU h (wu _))) (CQ L) ac bp B3 (by omega);have BH:=AA BX;have FH:=AA FX;clear BX FX B3 h3 G3 S3 eI L;go_wp2_with fail;exact yr (v:=.agg #[_,_,_,_]) (by simp[results,rN,go_sem,AE BH.out]) rfl FH.out
 .have hS:=S3.rd
  go_wp2_with fail;refine(Ld _ _ _ _ k w3 hS L).mono ?_;rintro e w4 ⟨m',i',e',c',rfl,O4,b4⟩;obtain⟨⟨kG,kF,iZ,rfl⟩,⟨kH,kI,fO,rfl⟩,⟨ls,lq,eZ,rfl⟩,⟨nP,nL,nM,rfl⟩⟩:=O4.zQ;have h4:=h3.below b4;have hz:w.heap.size+1<=w3.heap.size:=by have:=AW B3;omega
  have iD:=AB eI b4;have fz:=AK iD;have A:=bd (ok:=DQ) h4 (AP G3 (AY b4 _)) iD (O4.lower hz) L ac bp ar ⟨_,_,_,_,AB B3 b4⟩;obtain⟨c0,c1,c2,c3⟩:=AE iD;clear h3 h4 G3 S3 hS eI iD B3 O4 b4 hz;go_wp2_with fail;generalize(((w4.setCell _ _).setCell _ _).setCell _ _).setCell _ _=w5 at A ⊢;refine(A.pk _).mono ?_;rintro e w6 ⟨f,rfl,f0,f1,S6⟩;clear A c0 c1 c2 c3 fz;go_wp2_with fail;refine(S6.pk _).mono ?_;rintro e w7 ⟨u,rfl,u0,u1,A⟩;clear S6;obtain⟨f,rfl⟩:=xQ f0;go_upto_block 0 with fail;go_cut [] (λwx=>JQ Dn Y g (N+3200) w b wx)
  case rest=>clear A;obtain⟨m9,i9,e9,c9,k9,h9,G9,N9,S9,eO,a0,a1,a2,a3,B9⟩:=hcut;obtain⟨⟨kG,kF,iZ,rfl⟩,⟨kH,kI,fO,rfl⟩,⟨ls,lq,eZ,rfl⟩,⟨nP,nL,nM,rfl⟩⟩:=S9.zQ;obtain⟨c0,c1,c2,c3⟩:=AE N9;obtain⟨d0,d1,d2,d3⟩:=AE B9;have fE:=AK B9;obtain⟨BX,FX⟩:=bg (ok:=Dn) h9 G9 S9 eO ac bp B9 (yv _);have BH:=AA BX;have FH:=AA FX;clear BX FX B9 N9 h9 G9 S9 L;go_wp2_with fail;exact yr (v:=.agg #[_,_,_,_]) (by simp[results,rN,go_sem,AE BH.out]) rfl FH.out
  case first=>
   have hf:f<12:=by omega
   have nj:(f:Int)<12:=by omega
   rcases(show u=0∨u=1∨u=2∨u=3∨u=4∨u=5∨u=6 by omega) with rfl|rfl|rfl|rfl|rfl|rfl|rfl
   .obtain⟨gm,hJ,gw,ds,e1,mj,mi,Df,mh,SW⟩:=A.yI.putWord (Ar L).1 hf
    cases e1;have SW:=AA SW;obtain⟨c0,c1,c2,c3⟩:=AE A.yI.1;have bf:=AW A.yI.1;have dY:=A.lt;have fb:w.heap.size+1<=w7.heap.size:=by omega
    go_wp2_with fail;refine FI 10 87 3 2 [6,8] [.p b 0,.s gm 12 iZ,.i ((f:Int)),.p gm f,.s gw 4 ds,.p g 0,.z,.p g 0,.z,.z] (λix vv ww=>match ix with
     |6=>Pk 4 vv
     |8=>∃x:Int,vv=.int .i64 x/\ -1<=x/\x<=9999
     |9=>∃x:Int,vv=.int .i64 x
     |_=>True) A.dr ?_ ?_
    .intro i hi o E a wx Z J ll D H hW hs HQ O
     match i,hi with
     |0,_|2,_|5,_|7,_=>exact sP E O Z J
     |1,_=>exact sL E O Z J (hl:=F9 (gc hW bf (by omega) c0))
     |3,_=>exact sI E O Z J (hr:=by clear J Z O;go_simp)
     |4,_=>exact sL E O Z J (hl:=KU (gc hW mj (by omega) Df))
     |6,_=>exact dK (m:=4) E HQ Z J D H (by omega)
     |8,_=>exact cj E HQ Z J D H (λM hM hD hW=>NL hD (by omega))
     |9,_=>
      obtain rfl:=yF E;have d8:∃x:Int,(a.tmps[27]?.getD undef)=.int .i64 x/\ -1<=x/\x<=9999:=Ba J 8
      obtain⟨x8,d8,y0,y1⟩:=d8;clear J Z;refine yE ?_;go_simp;exact O.out _ _ ⟨_,rfl⟩ (yD _ _)
    .intro vs wx hR hD hW
     have q4:(vs 4)=.slice (some ⟨gw,0,none⟩) 4 ds:=BS hR 4;have q6:Pk 4 (vs 6):=BS hR 6;obtain⟨x6,q6,p0,p1⟩:=q6;have q9:∃x:Int,(vs 9)=.int .i64 x:=BS hR 9
     obtain⟨x9,q9⟩:=q9;clear hR;simp only[Ak,Ah,yC,yy,yz,yx,q4,q6,q9];simp;clear q4 q6 q9;have S9:=A.draw hD hW;obtain⟨x6,rfl⟩:=xQ p0;obtain⟨fz,px,jK,lE⟩:=SW.out wx g hW (by omega) S9.yI;obtain⟨_,jK⟩:=jK x6 (by omega);obtain⟨I9,g9⟩:=lE x6 x9;have HR:=AA (S9.ke (ok':=Dn) g9 (by omega) I9.1 I9.2.2.sf ⟨(CQ L).1,(CQ L).2⟩ (M:=N+3200) (by omega));clear S9 I9 g9 lE hD hW A;go_wp2_with fail;go_meet;exact HR.out
   .skip
    obtain⟨gi,j0,e1,kD,iU,_,_,D2,_⟩:=A.yI.zS' (f:=f) (by rw[L.len];exact hf);rw[L.len] at e1;cases e1;obtain⟨c0,c1,c2,c3⟩:=AE A.yI.1;have bf:=AW A.yI.1;have dY:=A.lt;have fb:w.heap.size+1<=w7.heap.size:=by omega
    go_wp2_with fail;refine FI 5 87 10 1 [4] [.p b 1,.s gi 12 fO,.i ((f:Int)),.p g 0,.z] (λix vv ww=>match ix with
     |4=>Mx vv
     |_=>True) A.dr ?_ ?_
    .intro i hi o E a wx Z J ll D H hW hs HQ O
     match i,hi with
     |0,_|2,_|3,_=>exact sP E O Z J
     |1,_=>exact sL E O Z J (hl:=GY (gc hW bf (by omega) c1))
     |4,_=>exact cj E HQ Z J D H (λM hM hD hW=>VF hD (by omega))
    .intro vs wx hR hD hW
     have q1:(vs 1)=.slice (some ⟨gi,0,none⟩) 12 fO:=BS hR 1;have q2:(vs 2)=.int .i64 f:=BS hR 2;have q4:Mx (vs 4):=BS hR 4;obtain⟨y4,pi,q4⟩:=q4;clear hR;simp only[Ak,Ah,yC,yy,yz,yx,q1,q2,q4];simp;clear q1 q2 q4;have S9:=A.draw hD hW;obtain⟨nE,hT,e1,iW,_,_,_,_,fz⟩:=S9.yI.zS' (f:=f) (by rw[L.len];exact hf);rw[L.len] at e1;cases e1;obtain⟨I9,g9,_⟩:=S9.yI.infoPut L.len.symm (f:=f) (by rw[L.len];exact hf) y4;have HR:=AA (S9.ke (ok':=Dn) g9 (by omega) I9.1 I9.2.2.sf ⟨TE (CQ L).1 (by unfold maxLen;omega),(CQ L).2⟩ (M:=N+3200) (by omega));clear S9 I9 g9 hD hW A;go_wp2_with fail;go_meet;exact HR.out
   .skip
    obtain⟨gi,j0,e1,kD,iU,_,_,D2,_⟩:=A.yI.zS' (f:=f) (by rw[L.len];exact hf);rw[L.len] at e1;cases e1;obtain⟨c0,c1,c2,c3⟩:=AE A.yI.1;have bf:=AW A.yI.1;have dY:=A.lt;have fb:w.heap.size+1<=w7.heap.size:=by omega
    go_wp2_with fail;refine Aa 10 87 [.p b 1,.s gi 12 fO,.i ((f:Int)),.p b 1,.s gi 12 fO,.i ((f:Int)),.p gi (f*3),.p gi (f*3+2),.i ((zS k.zZ f).r),.z] (λix vv ww=>match ix with
     |9=>∃x:Int,vv=.int .i64 x
     |_=>True) ?_ ?_
    .intro i hi o E a wx Z J H hs O
     have di:=bc H bf c1;have bN:=bc H kD D2
     match i,hi with
     |0,_|2,_|3,_|5,_|7,_=>exact sP E O Z J
     |1,_|4,_=>exact sL E O Z J (hl:=GY ‹_›)
     |6,_=>exact sI E O Z J (hr:=by clear J Z O;go_simp)
     |8,_=>exact sL E O Z J (hl:=FT ‹_›)
     |9,_=>clear di bN;obtain rfl:=yF E;have d8:(a.tmps[48]?.getD undef)=.int .i64 ((zS k.zZ f).r):=Ba J 8;clear J Z;refine yE ?_;go_simp;exact O.out _ _ ⟨_,rfl⟩ (yD _ _)
    .intro vs wx hR H
     have q1:(vs 1)=.slice (some ⟨gi,0,none⟩) 12 fO:=BS hR 1;have q2:(vs 2)=.int .i64 f:=BS hR 2;have q9:∃x:Int,(vs 9)=.int .i64 x:=BS hR 9
     obtain⟨x9,q9⟩:=q9;clear hR;simp only[Ak,Ah,yC,yy,yz,yx,q1,q2,q9];simp;clear q1 q2 q9;have S9:=A.below H;obtain⟨nE,hT,e1,iW,_,d0,d1,d2,fz⟩:=S9.yI.zS' (f:=f) (by rw[L.len];exact hf);rw[L.len] at e1;cases e1;obtain⟨I9,g9,_⟩:=S9.yI.info L.len.symm (f:=f) (x:=zS k.zZ f) (Cq (by rw[L.len];exact hf)) (j:=2) (by decide) (y:= {zS k.zZ f with r:=x9}) (u:=.int .i64 x9) rfl;have HR:=AA (S9.ke (ok':=Dn) g9 (by omega) I9.1 I9.2.2.sf ⟨TE (CQ L).1 (show(zS k.zZ f).g.size<=maxLen from(CQ L).1 _ (yh (Cq (show f<k.zZ.length by rw[L.len];exact hf)))),(CQ L).2⟩ (M:=N+3200) (by omega));clear S9 I9 g9 H A;go_wp2_with fail;go_meet;exact HR.out
   .skip
    obtain⟨ge,hV,_,_,e1,kE,_⟩:=A.yI.env (j:=0) (by rw[L.zN];decide);rw[L.zN] at e1;cases e1;obtain⟨c0,c1,c2,c3⟩:=AE A.yI.1;have bf:=AW A.yI.1;have dY:=A.lt;have fb:w.heap.size+1<=w7.heap.size:=by omega
    go_wp2_with fail;refine FI 7 87 1 2 [3,5] [.p b 2,.s ge 3 eZ,.p g 0,.z,.p g 0,.z,.z] (λix vv ww=>match ix with
     |3=>Pk 3 vv
     |5=>Pk 13 vv
     |6=>∃x:Int,vv=.int .i64 x
     |_=>True) A.dr ?_ ?_
    .intro i hi o E a wx Z J ll D H hW hs HQ O
     match i,hi with
     |0,_|2,_|4,_=>exact sP E O Z J
     |1,_=>exact sL E O Z J (hl:=OL (gc hW bf (by omega) c2))
     |3,_=>exact dK (m:=3) E HQ Z J D H (by omega)
     |5,_=>exact dK (m:=13) E HQ Z J D H (by omega)
     |6,_=>obtain rfl:=yF E;have d5:Pk 13 (a.tmps[59]?.getD undef):=Ba J 5;obtain⟨x5,d5,q0,q1⟩:=d5;clear J Z;refine yE ?_;go_simp;exact O.out _ _ ⟨_,rfl⟩ (yD _ _)
    .intro vs wx hR hD hW
     have q1:(vs 1)=.slice (some ⟨ge,0,none⟩) 3 eZ:=BS hR 1;have q3:Pk 3 (vs 3):=BS hR 3;obtain⟨x3,q3,p0,p1⟩:=q3;have q6:∃x:Int,(vs 6)=.int .i64 x:=BS hR 6
     obtain⟨x9,q6⟩:=q6;clear hR;simp only[Ak,Ah,yC,yy,yz,yx,q1,q3,q6];simp;clear q1 q3 q6;have S9:=A.draw hD hW;obtain⟨x3,rfl⟩:=xQ p0;have fP:x3<3:=by omega
     obtain⟨nF,hU,_,_,e1,iX,_,_,_,fz⟩:=S9.yI.env (j:=x3) (by rw[L.zN];exact fP);rw[L.zN] at e1;cases e1;obtain⟨I9,g9,_⟩:=S9.yI.root L.zN.symm (j:=x3) (by rw[L.zN];exact fP) x9;have HR:=AA (S9.ke (ok':=Dn) g9 (by omega) I9.1 I9.2.2.sf ⟨(CQ L).1,Qp (CQ L).2 (λ_ h=>h)⟩ (M:=N+3200) (by omega));clear S9 I9 g9 hD hW A;go_wp2_with fail;go_meet;exact HR.out
   .skip
    obtain⟨ge,hV,_,_,e1,kE,_⟩:=A.yI.env (j:=0) (by rw[L.zN];decide);rw[L.zN] at e1;cases e1;obtain⟨c0,c1,c2,c3⟩:=AE A.yI.1;have bf:=AW A.yI.1;have dY:=A.lt;have fb:w.heap.size+1<=w7.heap.size:=by omega
    go_wp2_with fail;refine FI 6 87 60 2 [3,5] [.p b 2,.s ge 3 eZ,.p g 0,.z,.p g 0,.z] (λix vv ww=>match ix with
     |3=>Pk 3 vv
     |5=>Pm (w.heap.size+1) ww vv
     |_=>True) A.dr ?_ ?_ (hst:=?_)
    .intro i hi o E a wx Z J ll D H hW hs HQ O
     match i,hi with
     |0,_|2,_|4,_=>exact sP E O Z J
     |1,_=>exact sL E O Z J (hl:=OL (gc hW bf (by omega) c2))
     |3,_=>exact dK (m:=3) E HQ Z J D H (by omega)
     |5,_=>exact dR E HQ Z J D H (λM hM hD hW=>YV (Ri hD (by omega)) (yB fb hW.size))
    rotate_left
    .intro i hi vv wz fx eT hz
     match i,hi with
     |3,_=>exact hz
     |5,_=>exact Pm.past hz (by omega) eT
     |0,_|1,_|2,_|4,_=>exact hz
    .intro vs wx hR hD hW
     have q1:(vs 1)=.slice (some ⟨ge,0,none⟩) 3 eZ:=BS hR 1;have q3:Pk 3 (vs 3):=BS hR 3;obtain⟨x3,q3,p0,p1⟩:=q3;have q5:Pm (w.heap.size+1) wx (vs 5):=BS hR 5;clear hR;simp only[Ak,Ah,yC,yy,yz,yx,q1,q3];simp;generalize vs 5=z5 at q5 ⊢;clear q1 q3;have S9:=A.draw hD hW;obtain⟨x3,rfl⟩:=xQ p0;have fP:x3<3:=by omega
     obtain⟨nF,hU,_,_,e1,iX,_,_,_,fz⟩:=S9.yI.env (j:=x3) (by rw[L.zN];exact fP);rw[L.zN] at e1;cases e1;obtain⟨ss,hO,mL⟩:=q5;obtain⟨N9,dk,g9,_⟩:=S9.yI.rightsSf L.zN.symm (j:=x3) (by rw[L.zN];exact fP) hO;have HR:=AA (S9.ke (ok':=Dn) g9 (by omega) N9 dk ⟨(CQ L).1,Qp (CQ L).2 (λ_ _=>mL)⟩ (M:=N+3200) (by omega));obtain⟨_,_,rfl,_,_⟩:=hO.rd.shape;clear S9 N9 dk g9 hD hW A hO;go_wp2_with fail;go_meet;exact HR.out
   .skip
    obtain⟨c0,c1,c2,c3⟩:=AE A.yI.1;have bf:=AW A.yI.1;have dY:=A.lt;have fb:w.heap.size+1<=w7.heap.size:=by omega
    go_wp2_with fail;refine(Tv A.dr (by omega)).mono ?_;rintro e w8 ⟨v,rfl,⟨ss,hO⟩,h8,g8⟩;have S9:=A.draw h8 g8;have hO:=hO.lower fb;have g9:=Aq w8 b 3 v;have N9:=yq w8 b 3 _ _ v S9.yI.1;have O9:=S9.yI.2.2.sf;have dk:PK (w.heap.size+1) (w8.setCell ⟨b,3,none⟩ v) _ _ _ v {k with zW:=ss}:=PK.map (⟨O9.1,O9.2.1,O9.2.2.1,hO⟩:PK (w.heap.size+1) w8 _ _ _ v {k with zW:=ss}) (KM g9 S9.yI.1 (.inl rfl) (yv _));have HR:=AA (S9.ke (ok':=Dn) g9 dY (by simpa using N9) dk ⟨(CQ L).1,(CQ L).2⟩ (M:=N+3200) (by omega));have fz:=AK S9.yI.1;obtain⟨c0,c1,c2,c3⟩:=AE S9.yI.1;obtain⟨_,_,rfl,_,_⟩:=hO.rd.shape;clear S9 N9 dk O9 g9 h8 g8 A hO;go_wp2_with fail;go_meet;exact HR.out
   .skip
    obtain⟨ge,hV,_,_,e1,kE,_⟩:=A.yI.env (j:=0) (by rw[L.zN];decide);rw[L.zN] at e1;cases e1;obtain⟨c0,c1,c2,c3⟩:=AE A.yI.1;have bf:=AW A.yI.1;have dY:=A.lt;have fb:w.heap.size+1<=w7.heap.size:=by omega
    go_wp2_with fail;refine FI 4 87 1 1 [3] [.p b 2,.s ge 3 eZ,.p g 0,.z] (λix vv ww=>match ix with
     |3=>Pk 3 vv
     |_=>True) A.dr ?_ ?_
    .intro i hi o E a wx Z J ll D H hW hs HQ O
     match i,hi with
     |0,_|2,_=>exact sP E O Z J
     |1,_=>exact sL E O Z J (hl:=OL (gc hW bf (by omega) c2))
     |3,_=>exact dK (m:=3) E HQ Z J D H (by omega)
    .intro vs wx hR hD hW
     have q1:(vs 1)=.slice (some ⟨ge,0,none⟩) 3 eZ:=BS hR 1;have q3:Pk 3 (vs 3):=BS hR 3;obtain⟨x3,q3,p0,p1⟩:=q3;clear hR;simp only[Ak,Ah,yC,yy,yz,yx,q1,q3];simp;clear q1 q3;have S9:=A.draw hD hW;obtain⟨x3,rfl⟩:=xQ p0;have fP:x3<3:=by omega
     have nt:3<=eZ:=by obtain⟨_,_,e9,jK,_⟩:=S9.yI.2.2.2.2.1.choose_spec.1.rd.shape;simp only[xH] at e9;obtain⟨_,e8,rfl⟩:=e9;omega
     have g9:=Aq wx b 2 (.slice (some ⟨ge,0,none⟩) x3 eZ);have N9:=yq wx b 2 _ _ (.slice (some ⟨ge,0,none⟩) x3 eZ) S9.yI.1;have dk:=(S9.yI.2.2.sf.cutEnvs L.zN.symm (x:=x3) (by omega)).map (KM g9 S9.yI.1 (.inl rfl) (yv _));have HR:=AA (S9.ke (ok':=Dn) g9 dY (by simpa using N9) dk ⟨(CQ L).1,Wx (CQ L).2⟩ (M:=N+3200) (by omega));have fz:=AK S9.yI.1;obtain⟨c0,c1,c2,c3⟩:=AE S9.yI.1;clear S9 N9 dk g9 hD hW A;go_wp2_with fail;go_meet;exact HR.out
def Oc(P:AR):Prop:=Dn P.zV
theorem SL{α β γ:Type}{hb:α->β->Prop}{S:α->γ->Prop}{xs:List α}{ys:List β}(h:Fq hb xs ys)(f:∀x y,hb x y->∃x1,S x x1):∃zs,Fq S xs zs:=by
 induction xs generalizing ys with
 |nil=>exact⟨[],rfl,λi x y h=>by simp at h⟩
 |cons a xs ih=>
  cases ys with
  |nil=>exact absurd h.1 (by simp)
  |cons b ys=>
   obtain⟨x1,hz⟩:=f a b (h.2 0 a b rfl rfl);obtain⟨zs,X,V⟩:=ih (ys:=ys) ⟨by simpa using h.1,λi x y hx hy=>h.2 (i+1) x y (by simpa using hx) (by simpa using hy)⟩;refine⟨x1::zs,by simp[X],λi x y hx hy=>?_⟩;cases i with
   |zero=>simp at hx hy;subst hx hy;exact hz
   |succ i=>exact V i x y (by simpa using hx) (by simpa using hy)
theorem UD{lo:Nat}{w:World}{r:List Int}(gl j:Nat)(x:Int)(h:AF lo w u r):∃r',AF lo (w.setCell ⟨gl,j,none⟩ (.int .i64 x)) u r':=by
 have hg:=Aq w gl j (.int .i64 x)
 by_cases hu:u.ownBlock=some gl
 .have h0:=h
  obtain⟨X,V⟩:=h0
  rcases V with⟨e,e2⟩|⟨g',cap',fZ,e,h3⟩
  .subst e
   simp[vK] at hu
  .subst e
   simp[vK] at hu;subst hu;refine⟨r.set j x,?_⟩;have S:=(wJ h j (.int .i64 x)).1;unfold AF;rw[xP,List.map_set];exact S
 .exact⟨r,Aw h hg (.inr hu)⟩
section
variable {ok:AR->Prop} {Y w wr:World} {g N M b:Nat} {m i e c s l q:Value} {P:AR}
theorem Nr.lowPut{lo gl n:Nat}(h:Nr lo w m i e c s (.slice (some ⟨gl,0,none⟩) n bu) q P)(j:Nat)(x:Int):
 ∃P',Nr lo (w.setCell ⟨gl,j,none⟩ (.int .i64 x)) m i e c s (.slice (some ⟨gl,0,none⟩) n bu) q P'/\P'.zR=P.zR/\P'.zU=P.zU/\P'.zV.zZ=P.zV.zZ/\P'.zV.zX=P.zV.zX:=by
 obtain⟨⟨⟨vs,X,V⟩,h3,⟨ps,h4,h5⟩,h6⟩,⟨us,h7,h8⟩,h9,nD⟩:=h;have hg:=Aq w gl j (.int .i64 x);obtain⟨fZ,hc⟩:=A6 h9 gl rfl;obtain⟨m',hm⟩:=SL V λu r h=>UD gl j x h
 obtain⟨s',K⟩:=SL h8 (S:=Yr lo (w.setCell ⟨gl,j,none⟩ (.int .i64 x))) λu r h=>by
  rcases h with h|h
  .obtain⟨r',h'⟩:=UD gl j x h
   exact⟨r',.inl h'⟩
  .exact⟨r,.inr h⟩
 obtain⟨l',hl⟩:=UD gl j x h9;exact⟨⟨⟨m',P.zV.zZ,P.zV.zX,P.zV.zW⟩,s',l',P.zY,P.zR,P.zU⟩,⟨⟨⟨vs,X.yL hg hc,hm⟩,h3.yL hg hc,⟨ps,h4.yL hg hc,h5.mono λ_ _ h=>⟨h.1.yL hg hc,h.2⟩⟩,h6.yL hg hc⟩,⟨us,h7.yL hg hc,K⟩,hl,nD.yL hg hc⟩,rfl,rfl,rfl,rfl⟩
theorem IQ.page{gq n0 n:Nat}{x y:Bo}(A:IQ ok Y g N w b m i e c s l (.slice (some ⟨gq,0,none⟩) n0 bu) P wr)(ju:n0=P.zY.length)(L:P.zY[n]?=some x)(hj:j<3)(hy:DG y=(DG x).set j u)(K:Oc P)(hM:N<=M):Ug Oc Y g M w b (wr.setCell ⟨gq,n*3+j,none⟩ u):=by obtain⟨I,g9,h9⟩:=A.yG.zo ju L hj hy;exact A.pe (ok':=Oc) g9 (by omega) I.yK I.own.sf K hM
theorem IQ.zR(A:IQ ok Y g N w b m i e c s l q P wr)(x:Int)(K:Oc P)(hM:N<=M):Ug Oc Y g M w b (wr.setCell ⟨b,7,none⟩ (.int .i64 x)):=by obtain⟨I,g9⟩:=A.yG.zg x;exact A.pe (ok':=Oc) g9 A.lt I.yK I.own.sf K hM
theorem IQ.lim(A:IQ ok Y g N w b m i e c s l q P wr)(x:Int)(K:Oc P)(hM:N<=M):Ug Oc Y g M w b (wr.setCell ⟨b,8,none⟩ (.int .i64 x)):=by have g9:=Aq wr b 8 (.int .i64 x);have h8:=yq wr b 8 _ _ (.int .i64 x) A.yG.yK;exact A.pe (ok':=Oc) (P':= {P with zU:=x}) g9 A.lt (by simpa using h8) (A.yG.own.sf.map (KM g9 A.yG.yK (.inr rfl) (yv _))) K hM
theorem IQ.zV{m' i' e' c':Value}{k':AO}(A:IQ ok Y g N w b m i e c s l q P wr)(S:PK (w.heap.size+1) wr m' i' e' c' k')(K:Dn k')(hM:N<=M):Ug Oc Y g M w b ((((wr.setCell ⟨b,0,none⟩ m').setCell ⟨b,1,none⟩ i').setCell ⟨b,2,none⟩ e').setCell ⟨b,3,none⟩ c'):=by have g9:=Ao wr b m' i' e' c';have HK:=A.yG.own.sf;exact A.pe (ok':=Oc) (P':= {P with zV:=k'}) g9 A.lt (Jm A.yG.yK) (Nr.map (⟨S,HK.2⟩:Nr (w.heap.size+1) wr m' i' e' c' s l q {P with zV:=k'}) (KM g9 A.yG.yK (.inr rfl) (yv _))) K hM
theorem IQ.row{gs n0 n:Nat}{v':Value}{r:List Int}{w1:World}(A:IQ ok Y g N w b m i e c (.slice (some ⟨gs,0,none⟩) n0 bu) l q P wr)(R:Below wr.heap.size wr w1)(hO:AF wr.heap.size w1 v' r)(ju:n0=P.swap.length)(hn:n<P.swap.length)(K:Oc P)(hM:N<=M):Ug Oc Y g M w b (w1.setCell ⟨gs,n,none⟩ v'):=by
 obtain⟨vs,hr⟩:=A.yG.own.swp;have ay:w.heap.size+1<=wr.heap.size:=by have:=AW A.yG.yK;have:=A.lt;omega
 have hb:=hr.set (B:=wr.heap.size) (j:=n) R hO (yv _) ay (ju.trans hr.2.1.1.symm) (by rw[hr.2.1.1];exact hn);have I:=(A.yG.below R).yY hb.2 hb.1;have X:=(yk hr.1 gs rfl).1;exact(A.below R).pe (ok':=Oc) hb.2 (by omega) I.yK I.own.sf K hM
theorem IQ.lowx{gl n0:Nat}(A:IQ ok Y g N w b m i e c s (.slice (some ⟨gl,0,none⟩) n0 bu) q P wr)(j:Nat)(x:Int)(K:Oc P)(hM:N<=M):Ug Oc Y g M w b (wr.setCell ⟨gl,j,none⟩ (.int .i64 x)):=by have HK:=A.yG.own;obtain⟨P',S',e1,e2,e3,e4⟩:=HK.sf.lowPut j x;obtain⟨fZ,hc⟩:=A6 HK.low gl rfl;have X:=(yk HK.low gl rfl).1;have g9:=Aq wr gl j (.int .i64 x);have hB:=Ap A.yG.yK g9 (Br hc A.yG.yK);rw[<-e1,<-e2] at hB;refine A.pe (ok':=Oc) g9 (by omega) hB S' ?_ hM;unfold Oc Dn at K ⊢;rw[e3,e4];exact K
end
theorem QI{Y w:World}{g N:Nat}(h:Dr Y g N w)(hN:N<=50000):
 Calls prog 47 #[.pointer (some ⟨g,0,none⟩)] w (dB Oc Y g (N+4300) w):=by
 have ac:=h.lt;have bp:Y.heap.size<=w.heap.size:=h.2.1.size;obtain⟨B0,bA⟩:=Dd w (.cells #[.slice none 0 0,.slice none 0 0,.slice none 0 0,.slice none 0 0,.slice none 0 0,.slice none 0 0,.slice none 0 0,.int .i64 0,.int .i64 0] 32);have gA:=AY bA (some g);have hA:=h.below bA;have fB:=AW B0;go_in;go_wp2_with fail;generalize w.alloc _=wa at*;refine(Ty hA (by omega)).mono ?_;rintro e w1 ⟨v,rfl,⟨m,i,ev,c,s,l,q,P,rfl,S1,hP⟩,X,g1⟩;obtain⟨⟨⟨ma,mn,mc,rfl⟩,⟨ia,iN,ic,rfl⟩,⟨ea,en,ec,rfl⟩,⟨va,vn,vc,rfl⟩⟩,⟨sa,sn,sc,rfl⟩,⟨la,ln,lc,rfl⟩,⟨qa,qn,qc,rfl⟩⟩:=S1.zQ;unfold AN;have B1:=(g1.block w.heap.size fB (by simp;omega)).trans B0;obtain⟨NK,bK⟩:=Dd w1 (.cells #[.slice ma mn mc,.slice ia iN ic,.slice ea en ec,.slice va vn vc,.slice sa sn sc,.slice la ln lc,.slice qa qn qc,.int .i64 P.zR,.int .i64 P.zU] 32);have V:=X.below bK;have G2:=AP (AP gA g1) (AY bK (some g));have B2:=AB B1 bK;have S2:=S1.map (Jv bK fB);have ar:w.heap.size<w1.heap.size:=xW fB g1.size;clear S1 B1 X g1 hA B0 bK gA h bA fB;go_wp2_with fail;generalize w1.alloc _=w2 at*;generalize w1.heap.size=b at*;refine(V.pick _).mono ?_;rintro e w3 ⟨x,rfl,x0,z,h3,g3⟩;have hp:∀b',some g=some b'->b'<w.heap.size+1:=λb' e=>by cases e;omega
 have S3:=S2.map (GD g3 (show g<w.heap.size+1 by omega) (yv _));have B3:=Fy B2 (yv _) g3 (λb' e=>by cases e;exact ac);have eI:=Fy NK (uA ar) g3 (λb' e=>by cases e;exact ac);have G3:=AP G2 g3;obtain⟨c0,c1,c2,c3,c4,c5,c6,c7,c8⟩:=AD eI;have K:Oc P:=CQ hP.k;clear S2 B2 NK V G2 g3
 by_cases hx:0<x
 .obtain⟨d0,d1,d2,d3,d4,d5,d6,d7,d8⟩:=AD B3
  have fE:=AK B3;obtain⟨BX,FX⟩:=cA (ok:=Oc) (M:=N+4300) h3 G3 (S3.map (λ_ _ _ _ _ _ _ h=>BU h (wu _))) K ac bp B3 (by omega);unfold Dy at BX FX;have BH:=AA BX;have FH:=AA FX;clear BX FX B3 h3 G3 S3 eI hP K;go_wp2_with fail;exact yr (v:=.agg #[_,_,_,_,_,_,_,_,_]) (by simp[results,rM,go_sem,AD BH.out]) rfl FH.out
 .have CC:=Lg _ _ _ _ _ _ _ P w3 S3.rd hP
  unfold AN at CC;go_wp2_with fail;refine CC.mono ?_;rintro e w4 ⟨m4,i4,e4,j1,s4,l4,q4,rfl,O4,b4⟩;obtain⟨⟨⟨kG,kF,iZ,rfl⟩,⟨kH,kI,fO,rfl⟩,⟨ls,lq,eZ,rfl⟩,⟨oC,oy,oA,rfl⟩⟩,⟨oK,oF,lY,rfl⟩,⟨o5,oY,it,rfl⟩,⟨oQ,oN,kz,rfl⟩⟩:=O4.zQ;unfold AN;have h4:=h3.below b4;have mE:w.heap.size+1<=w3.heap.size:=by have:=AW eI;omega
  have A:=bz (b:=b) h4 (AP G3 (AY b4 _)) (AB eI b4) (O4.lower mE) hP ac bp ar ⟨_,_,_,_,_,_,_,_,_,AB B3 b4⟩;have fz:=AK (AB eI b4);clear c0 c1 c2 c3 c4 c5 c6 c7 c8;obtain⟨c0,c1,c2,c3,c4,c5,c6,c7,c8⟩:=AD (AB eI b4);have A:=AA A;clear S3 B3 eI h3 G3 O4 b4 h4 CC;go_wp2_with fail;replace A:=A.out;unfold Dy at A;generalize((((((((w4.setCell _ _).setCell _ _).setCell _ _).setCell _ _).setCell _ _).setCell _ _).setCell _ _).setCell _ _).setCell _ _=w5 at A ⊢;refine(A.pk 16).mono ?_;rintro e w6 ⟨f,rfl,f0,f1,S6⟩;clear A c0 c1 c2 c3 c4 c5 c6 c7 c8 fz;go_wp2_with fail;refine(S6.pk 7).mono ?_;rintro e w7 ⟨u,rfl,u0,u1,A⟩;clear S6;obtain⟨f,rfl⟩:=xQ f0;go_upto_block 0 with fail;go_cut [] (λwx=>Ug Oc Y g (N+4200) w b wx)
  case rest=>clear A;obtain⟨m9,i9,e9,c9,s9,l9,q9,P9,h9,G9,N9,S9,eO,a0,a1,a2,a3,a4,a5,a6,a7,a8,B9⟩:=hcut;obtain⟨⟨⟨oW,oU,oV,rfl⟩,⟨o8,pb,o7,rfl⟩,⟨pI,pG,pH,rfl⟩,⟨oB,ox,oz,rfl⟩⟩,⟨oI,oD,oG,rfl⟩,⟨o3,oX,oZ,rfl⟩,⟨oP,oM,oO,rfl⟩⟩:=S9.zQ;obtain⟨c0,c1,c2,c3,c4,c5,c6,c7,c8⟩:=AD N9;obtain⟨d0,d1,d2,d3,d4,d5,d6,d7,d8⟩:=AD B9;have fE:=AK B9;obtain⟨BX,FX⟩:=cA (ok:=Oc) (M:=N+4300) h9 G9 S9 eO ac bp B9 (by omega);unfold Dy at BX FX;have BH:=AA BX;have FH:=AA FX;clear BX FX B9 N9 h9 G9 S9;go_wp2_with fail;exact yr (v:=.agg #[_,_,_,_,_,_,_,_,_]) (by simp[results,rM,go_sem,AD BH.out]) rfl FH.out
  case first=>
   have hf:f<16:=by omega
   have nj:(f:Int)<16:=by omega
   rcases(show u=0∨u=1∨u=2∨u=3∨u=4∨u=5∨u=6 by omega) with rfl|rfl|rfl|rfl|rfl|rfl|rfl
   .skip
    obtain⟨gq,jZ,e1,_,_,iV,_⟩:=A.yG.page (n:=f) (by rw[hP.zO];exact hf);rw[hP.zO] at e1;cases e1;obtain⟨c0,c1,c2,c3,c4,c5,c6,c7,c8⟩:=AD A.yG.yK;have bf:=AW A.yG.yK;have dY:=A.lt;go_wp2_with fail;refine FI 7 69 1 1 [4] [.p b 6,.s gq 16 kz,.i ((f:Int)),.p g 0,.z,.p gq (f*3),.p gq (f*3)] (λix vv ww=>match ix with
     |4=>Pk 4 vv
     |_=>True) A.dr ?_ ?_
    .intro i hi o E a wx Z J ll D H hW hs HQ O
     match i,hi with
     |0,_|2,_|3,_|6,_=>exact sP E O Z J
     |1,_=>exact sL E O Z J (hl:=aO (gc hW bf (by omega) c6))
     |4,_=>exact dK (m:=4) E HQ Z J D H (by omega)
     |5,_=>exact sI E O Z J (hr:=by clear J Z O;go_simp)
    .intro vs wx hR hD hW
     have q4:Pk 4 (vs 4):=BS hR 4;obtain⟨x4,q4,p0,p1⟩:=q4;have q6:(vs 6)=.pointer (some ⟨gq,f*3,none⟩):=BS hR 6;clear hR;simp only[Ak,Ah,yC,yy,yz,yx,q4,q6];simp;clear q4 q6;have S9:=A.draw hD hW;obtain⟨jH,fq,d0,d1,d2⟩:=S9.yG.pg (n:=f) (by rw[hP.zO];exact hf);have HR:=AA (S9.page (x:=AC P.zY f) (y:= {AC P.zY f with w:=x4}) (n:=f) (j:=0) hP.zO.symm (by unfold AC;exact A2 (by rw[hP.zO];exact hf)) (by decide) rfl K (M:=N+4200) (by omega));clear S9 hD hW A;go_wp2_with fail;go_meet;exact HR.out
   .skip
    obtain⟨gq,jZ,e1,_,_,iV,_⟩:=A.yG.page (n:=f) (by rw[hP.zO];exact hf);rw[hP.zO] at e1;cases e1;obtain⟨c0,c1,c2,c3,c4,c5,c6,c7,c8⟩:=AD A.yG.yK;have bf:=AW A.yG.yK;have dY:=A.lt;go_wp2_with fail;refine FI 7 69 1 1 [4] [.p b 6,.s gq 16 kz,.i ((f:Int)),.p g 0,.z,.p gq (f*3),.p gq (f*3+1)] (λix vv ww=>match ix with
     |4=>Pk 16 vv
     |_=>True) A.dr ?_ ?_
    .intro i hi o E a wx Z J ll D H hW hs HQ O
     match i,hi with
     |0,_|2,_|3,_|6,_=>exact sP E O Z J
     |1,_=>exact sL E O Z J (hl:=aO (gc hW bf (by omega) c6))
     |4,_=>exact dK (m:=16) E HQ Z J D H (by omega)
     |5,_=>exact sI E O Z J (hr:=by clear J Z O;go_simp)
    .intro vs wx hR hD hW
     have q4:Pk 16 (vs 4):=BS hR 4;obtain⟨x4,q4,p0,p1⟩:=q4;have q6:(vs 6)=.pointer (some ⟨gq,f*3+1,none⟩):=BS hR 6;clear hR;simp only[Ak,Ah,yC,yy,yz,yx,q4,q6];simp;clear q4 q6;have S9:=A.draw hD hW;obtain⟨jH,fq,d0,d1,d2⟩:=S9.yG.pg (n:=f) (by rw[hP.zO];exact hf);have HR:=AA (S9.page (x:=AC P.zY f) (y:= {AC P.zY f with a:=x4}) (n:=f) (j:=1) hP.zO.symm (by unfold AC;exact A2 (by rw[hP.zO];exact hf)) (by decide) rfl K (M:=N+4200) (by omega));clear S9 hD hW A;go_wp2_with fail;go_meet;exact HR.out
   .obtain⟨vs,hr⟩:=A.yG.own.swp
    have eA:vs.length=16:=by rw[hr.2.1.1,hP.zD]
    obtain⟨gs,nO,e1,lz,pK,oR,md,nd⟩:=hr.1.zM (by omega);rw[eA] at e1;cases e1;have b4:=AI w7 (.cells #[.int .i64 1,.int .i64 2,.int .i64 3,.int .i64 4] 3);have hO:AF w7.heap.size (w7.alloc (.cells #[.int .i64 1,.int .i64 2,.int .i64 3,.int .i64 4] 3)) (.slice (some ⟨w7.heap.size,0,none⟩) 4 4) [1,2,3,4]:=QV w7 3 1 4 [.int .i64 1,.int .i64 2,.int .i64 3,.int .i64 4] rfl (by decide);have HR:=AA (A.row (n:=f) b4 hO hP.zD.symm (by rw[hP.zD];exact hf) K (M:=N+4200) (by omega));have g1:(w7.alloc (.cells #[.int .i64 1,.int .i64 2,.int .i64 3,.int .i64 4] 3)).ownsRow (w.heap.size+1) 29 1 (.slice (some ⟨gs,0,none⟩) 16 lY) 16 vs:=by have:=(hr.below b4).1;unfold AQ at this;rwa [Gs,eA] at this
    have C1:=xB g1 f (by omega);rw[yw (by omega)] at C1;have F1:=xJ g1 f;obtain⟨c0,c1,c2,c3,c4,c5,c6,c7,c8⟩:=AD A.yG.yK;have m0:gs<w7.heap.size:=md;clear g1 hO b4 hr nd A;go_wp2_with fail;go_meet;rw[<-World.setCell_alloc_past _ gs f _ m0];exact HR.out
   .skip
    go_wp2_with fail;refine(A.pk 20).mono ?_;rintro e w8 ⟨x1,rfl,z0,z1,S8⟩;obtain⟨c0,c1,c2,c3,c4,c5,c6,c7,c8⟩:=AD S8.yG.yK;have fq:=AK S8.yG.yK;have HR:=AA (λx=>S8.zR x K (M:=N+4200) (by omega));clear S8 A;go_wp2_with fail;go_meet;exact HR.out _
   .skip
    go_wp2_with fail;refine(A.pk 9).mono ?_;rintro e w8 ⟨x1,rfl,z0,z1,S8⟩;obtain⟨c0,c1,c2,c3,c4,c5,c6,c7,c8⟩:=AD S8.yG.yK;have fq:=AK S8.yG.yK;have HR:=AA (λx=>S8.lim x K (M:=N+4200) (by omega));clear S8 A;go_wp2_with fail;go_meet;exact HR.out _
   .obtain⟨gl,nN,e1,oT,_⟩:=Iu A.yG.own.low (j:=0) (by rw[hP.zt];decide)
    rw[hP.zt] at e1;cases e1;obtain⟨c0,c1,c2,c3,c4,c5,c6,c7,c8⟩:=AD A.yG.yK;have bf:=AW A.yG.yK;have dY:=A.lt;go_wp2_with fail;refine FI 6 69 1 2 [3,5] [.p b 5,.s gl 4 it,.p g 0,.z,.p g 0,.z] (λix vv ww=>match ix with
     |3=>Pk 4 vv
     |5=>Pk 12 vv
     |_=>True) A.dr ?_ ?_
    .intro i hi o E a wx Z J ll D H hW hs HQ O
     match i,hi with
     |0,_|2,_|4,_=>exact sP E O Z J
     |1,_=>exact sL E O Z J (hl:=KU (gc hW bf (by omega) c5))
     |3,_=>exact dK (m:=4) E HQ Z J D H (by omega)
     |5,_=>exact dK (m:=12) E HQ Z J D H (by omega)
    .intro vs wx hR hD hW
     have q1:(vs 1)=.slice (some ⟨gl,0,none⟩) 4 it:=BS hR 1;have q3:Pk 4 (vs 3):=BS hR 3;obtain⟨x3,q3,p0,p1⟩:=q3;have q5:Pk 12 (vs 5):=BS hR 5;obtain⟨x5,q5,q0,q1⟩:=q5;clear hR;simp only[Ak,Ah,yC,yy,yz,yx,q1,q3,q5];simp;clear q1 q3 q5;have S9:=A.draw hD hW;obtain⟨x3,rfl⟩:=xQ p0;obtain⟨pE,ly,e1,ml,D9⟩:=Iu S9.yG.own.low (j:=x3) (by rw[hP.zt];omega);rw[hP.zt] at e1;cases e1;have ow:=S9.yG.own.low;unfold AF at ow;rw[hP.zt] at ow;have fl:=xJ ow x3;clear ow;have HR:=AA (S9.lowx x3 x5 K (M:=N+4200) (by omega));clear S9 hD hW A;go_wp2_with fail;go_meet;exact HR.out
   .go_wp2_with fail
    refine(WX A.dr (by omega)).mono ?_;rintro e w8 ⟨v,rfl,⟨m8,i8,e8,pJ,k',rfl,S8,mZ⟩,h8,g8⟩;obtain⟨⟨ka,kn,kc,rfl⟩,⟨ja,jn,jc,rfl⟩,⟨fa,fn,fc,rfl⟩,⟨ra,rn,rc,rfl⟩⟩:=S8.zQ;have S9:=A.draw h8 g8;have fz:=AK S9.yG.yK;obtain⟨c0,c1,c2,c3,c4,c5,c6,c7,c8⟩:=AD S9.yG.yK;have fb:w.heap.size+1<=w7.heap.size:=by have:=AW A.yG.yK;have:=A.lt;omega
    have HR:=AA (S9.zV (S8.map (λ_ _ _ _ _ _ _ x=>BU x fb)) mZ (M:=N+4200) (by omega));clear S9 S8 h8 g8 A;go_wp2_with fail;go_meet;exact HR.out
structure Dq(w wa W0:World)(g N rb:Nat)(o0 o1:Obj)(p s:Bool)(ww:World):Prop where
 dr:p=false->Dr wa g N ww
 sz:W0.heap.size<=ww.heap.size
 kp:∀k,k<W0.heap.size->k≠g->k≠rb->ww.heap[k]?=W0.heap[k]?
 bw:Below w.heap.size w ww
 rb:ww.heap[rb]?=some (if s then o1 else o0)
section
variable {w wa W0 ww w':World} {g N rb:Nat} {o0 o1:Obj} {p s:Bool}
theorem Dq.below(h:Dq w wa W0 g N rb o0 o1 p s ww)(R:Below ww.heap.size ww w'):Dq w wa W0 g N rb o0 o1 p s w':=
 ⟨λe=>(h.dr e).below R,yB h.sz R.size,λk L X V=>(R.block k (xW L h.sz)).trans (h.kp k L X V),h.bw.trans (R.mono h.bw.size),AB h.rb R⟩
theorem Dq.cell(h:Dq w wa W0 g N rb o0 o1 p s ww){k j:Nat}{v:Value}(L:k<W0.heap.size)(X:k≠g)(V:k≠rb)(hv:W0.cell? ⟨k,j,none⟩=some v):ww.cell? ⟨k,j,none⟩=some v:=by have:=h.kp k L X V;unfold World.cell? at hv ⊢;rw[this];exact hv
end
def R4(lo:Nat)(v:Value)(w:World):Prop:=∃q o,∃x:Int,v=.pointer (some ⟨q,o,none⟩)/\lo<=q/\w.cell? ⟨q,o,none⟩=some (.int .i64 x)
theorem R4.past{lo q:Nat}{v:Value}{w w':World}(h:R4 lo v w)(hg:w.grownBy w' (some q))(hq:q<lo):R4 lo v w':=by obtain⟨b,o,x,X,V,h3⟩:=h;exact⟨b,o,x,X,V,gc hg (yA _ _ h3) (by simp;omega) h3⟩
def R1(k lo:Nat)(v:Value)(w:World):Prop:=∃xs:List Int,xs.length=k/\AF lo w v xs
theorem R1.past{k lo q:Nat}{v:Value}{w w':World}(h:R1 k lo v w)(hg:w.grownBy w' (some q))(hq:q<lo):R1 k lo v w':=by
 obtain⟨x,y,h⟩:=h;exact⟨x,y,Bs h hg (λb e=>by cases e;exact hq)⟩
theorem bH{w wa W0 ww:World}{g N rb lo:Nat}{o0 o1:Obj}{p s:Bool}{cu:Array Value}(h:Dq w wa W0 g N rb o0 o1 p s ww)(hB:W0.heap[rb]?=some (.cells cu 32 (0,0)))(hg:g<lo):∀t sz n v xs,t≠28->t≠32->W0.ownsRow lo t sz v n xs->ww.ownsRow lo t sz v n xs:=by
 intro t sz n v xs _ V ⟨h3,h4⟩;refine⟨h3,?_⟩
 rcases h4 with h4|⟨q,bu,fZ,rfl,hq,hh,hr⟩
 .exact .inl h4
 .refine .inr ⟨q,bu,fZ,rfl,hq,(h.kp q (AW hh) (by omega) ?_).trans hh,hr⟩
  rintro rfl;rw[hB] at hh;simp at hh;exact V hh.2.symm
def Z9(w:World)(r:Ending)(w':World):Prop:=∃m i e c s l q P n,r=.returned (.tuple #[AN m i e c s l q P.zR P.zU,.int .i64 n])/\Jy w' m i e c s l q P/\Oc P/\Below w.heap.size w w'
end Go.Proofs.YtpdjjjdkhedibaaGreatDoor
