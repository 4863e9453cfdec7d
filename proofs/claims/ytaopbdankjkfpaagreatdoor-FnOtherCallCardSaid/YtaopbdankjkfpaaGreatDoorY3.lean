/-
  Packed:42 texts.
-/
import Derived.Test.YtaopbdankjkfpaaGreatDoorY1
import Derived.Test.YtaopbdankjkfpaaGreatDoorY2
import Derived.Lib.Strings
import Derived.WalkKit
import Derived.Deep.DeepCutAuto
set_option linter.unusedVariables false
set_option linter.unusedSimpArgs false
set_option maxHeartbeats 16000000
set_option maxRecDepth 100000
open Go Go.Proofs.YtaopbdankjkfpaaGreatDoor
open And renaming intro->yk
open Bool renaming and_eq_true->yD,eq_iff_iff->xi,or_eq_true->xP
open Go.Lib renaming toList_data->xC
open Go.Region renaming waitsFor->yl
open Go.RowKit.Below renaming refl->yO
open Go.Value renaming int->ym,oneCell'->xR,slice->xB
open Go.Value.slice renaming injEq->xS
open Go.World renaming block_lt_of_cell?->yM,size_alloc->xK
open Go.World.ownsRow renaming cellAt->xx,frozenAt->xT,lt->yB,stored->wm
open Go renaming bodyPost_ret->yC,cell_of_row->yz,cell_regrown->yy,heap_alloc_new->yw,heap_setCell_same->yF
open Int renaming toNat_natCast->yq
open List renaming all_eq_false->xh,all_eq_true->yr,any_eq_true->vV,countP_cons->xA,countP_le_length->vy,count_le_length->vx,filter_append->wF,filter_cons->vS,filter_nil->vo,findIdx_eq->tN,foldl_append->vJ,foldl_cons->yK,foldl_nil->yI,getD_eq_getElem?_getD->yg,getElem?_eq_getElem->yH,getElem?_eq_some_iff->yE,getElem?_map->xz,getElem?_of_mem->xq,getElem?_replicate->uR,getElem?_set->we,getElem?_take->uX,getElem_of_mem->xl,isPrefixOf_iff_prefix->vl,length_append->yA,length_drop->xm,length_filter_le->xL,length_nil->wY,length_set->yi,length_singleton->xQ,length_take->yt,map_append->xN,map_set->vj,mem_filter->wO,mem_flatMap->wV,mem_of_getElem?->yx,mem_range->yj,not_mem_nil->wX,range->yN,range_succ->xI,replicate->yd,take_length->xG,take_of_length_le->xo
open List.range renaming loop->yJ
open Nat renaming add_zero->xU,eq_zero_or_pos->wC,le_refl->yG,le_succ->wH,le_trans->yL,lt_of_lt_of_le->yv,lt_succ_iff_lt_or_eq->xE,mul_one->wR,not_lt_zero->xW,zero_le->yu
variable {a cg f j n:Nat} {ss:List ByteArray} {fs:List Nat} {p:AR} {iv qv v:Value}
namespace Go.Proofs.YtaopbdankjkfpaaGreatDoor
open Go.Proofs.Tryz
open Go.RowKit
theorem Ys{k:AN}{c:AU}:(LP k c).2.1=0:=by
 unfold LP
 split
 .rfl
 .split<;>rfl
theorem WT{k:AN}{c:AU}:(Fa k c).2.1=0:=by
 unfold Fa
 split
 .rfl
 .split
  .rfl
  .split<;>rfl
theorem Ve{k:AN}{c:AU}:(EC k c).2.1=0:=by
 unfold EC
 split
 .rfl
 .split
  .rfl
  .split<;>rfl
theorem aI{k:AN}{c:AU}:(IF k c).2.1=0:=by
 unfold IF
 split
 .rfl
 .split
  .rfl
  .split<;>rfl
theorem PJ{k:AN}{r:List AV×Int}:(Do k r).2.1=0:=by
 unfold Do
 split<;>rfl
theorem QR{k:AN}{c:AU}:(FE k c).2.1=0:=by
 unfold FE
 split
 .unfold Kb
  split
  .rfl
  .split<;>rfl
 .split
  .unfold Kg
   split<;>rfl
  .split
   .exact PJ
   .split
    .exact PJ
    .exact aI
theorem Ds.two{lo g:Nat}{w W:World}{res:Mq}{r:Ending}{w':World}(h:Ds lo g W res r w')(hv:res.2.1=0)(A:Below lo w W):∃n,r=.returned (.int .i64 n)/\GF lo g w res (.returned (.tuple #[.int .i64 0,.int .i64 n])) w':=by obtain⟨N,V,h3⟩:=h;exact⟨_,N,by rw[hv],V,A.trans h3⟩
theorem GF.of{lo g:Nat}{w W:World}{res:Mq}{r:Ending}{w':World}(h:GF lo g W res r w')(A:Below lo w W):∃v n,r=.returned (.tuple #[.int .i64 v,.int .i64 n])/\GF lo g w res (.returned (.tuple #[.int .i64 v,.int .i64 n])) w':=by obtain⟨N,V,h3⟩:=h;exact⟨_,_,N,rfl,V,A.trans h3⟩
theorem Sn{k:AN}{c:AU}:HZ k c=if Bh c.a 0 11=false∨(Sc k.Xy c.a.toNat).k=0∨(c.k=4/\Bi c.b=false) then(k,0,3) else if FF k c.e (Sc k.Xy c.a.toNat).g=false then(k,0,1) else FE k c:=rfl
theorem Ka{k:AN}{c:AU}(h:Bh c.a 0 11=false∨(Sc k.Xy c.a.toNat).k=0∨(c.k=4/\Bi c.b=false)):HZ k c=(k,0,3):=Sn.trans (if_pos h)
theorem U6{k:AN}{c:AU}(N:Bh c.a 0 11=true)(V:(Sc k.Xy c.a.toNat).k≠0)(h3:c.k=4->Bi c.b=true):HZ k c=if FF k c.e (Sc k.Xy c.a.toNat).g=false then(k,0,1) else FE k c:=
 Sn.trans (if_neg (by rintro(x|x|⟨x,y⟩);(· rw[N] at x;cases x);(· exact V x);(· rw[h3 x] at y;cases y)))
theorem ak{lo g:Nat}{w:World}{m i e c:Value}{k:AN}(h:IT lo w g m i e c k)(dn:lo<=w.heap.size)(hK:DP k)(call:AU)(he:0<=call.e)(hn:call.e<3)(eB:call.nm.size<=maxLen)(fS:call.c<=9223372036854775807):
 Calls prog 47 #[call.on g] w (GF lo g w (Ae k call)):=by
 have S0:=Eb.start h dn call;obtain⟨k1,e1,a1,b1,c1,nm⟩:=call;obtain⟨en,rfl⟩:∃n:Nat,e1=(n:Int):=⟨e1.toNat,by simp only at he;omega⟩
 have fy:en<3:=by simp only at hn;omega
 simp only[AU.on,AU.onCells] at S0 eB fS ⊢;obtain⟨ge,cg,e9,_,⟨⟨mF,mE⟩,mD,mC⟩,_⟩:=S0.V3 (by rw[hK.zY];omega);rw[hK.zY] at e9;obtain⟨gi,nI,e8,_,_,⟨⟨mB,mA⟩,mz,my⟩,_⟩:=S0.Xy (by rw[hK.len];omega);rw[hK.len] at e8;obtain⟨gm,nH,e7,_,⟨mx,mu⟩,mt,mr⟩:=S0.mems (Am hK).1;subst e7 e8 e9;obtain⟨y0,y1,y2,y3,y4,y5,y6⟩:=S0.ys;obtain⟨x0,x1,x2,x3⟩:=S0.xs;have z:=AA hK;have HS:=AA S0;clear hK h S0 dn he hn;have CY:=λ(W:World)(mm ii ee cc:Value)(h:IT lo W g mm ii ee cc k)(an:Nat)=>VS h ⟨k1,(en:Int),(an:Int),b1,c1,nm⟩ (Sc k.Xy an).g (by simp) (by rw[z.out.zY];simp only;omega)
 simp only[AU.on,AU.onCells] at CY;replace CY:=AA CY
 by_cases jC:2<=k1/\k1<=6
 .have HP:=AA (show Ae k ⟨k1,(en:Int),a1,b1,c1,nm⟩=HZ k ⟨k1,(en:Int),a1,b1,c1,nm⟩ by
   have cr:k1=2∨k1=3∨k1=4∨k1=5∨k1=6:=by omega
   rcases cr with rfl|rfl|rfl|rfl|rfl<;>rfl)
  have CF:=λ(W:World)(mm ii ee cc:Value)(h:IT lo W g mm ii ee cc k)(hl:lo<=W.heap.size)(an:Nat)(ha:an<12)(ht:k1=4->Bi b1=true)=>WM h hl z.out ⟨k1,(en:Int),(an:Int),b1,c1,nm⟩ (by simp) (by simp only;omega) jC (by simp only;omega) ht fS
  simp only[AU.on,AU.onCells] at CF;replace CF:=AA CF
  by_cases gy:k1=4
  .subst gy
   go_in;go_wp2_with fail;generalize w.alloc _=W0 at*;have cF:=Uo (w1:=W0) (λW=>Dk a1 W);have cT:=Uo (w1:=W0) (λW=>Fq b1 W);replace y0:=yy y0;replace y1:=yy y1;replace y2:=yy y2;replace y3:=yy y3;replace y4:=yy y4;replace y5:=yy y5;replace y6:=yy y6;replace x1:=yy x1;clear x0 x2 x3;cases c8:Bh a1 0 11
   .have hj:=AA (HP.out.trans (Ka (.inl c8)))
    rw[c8] at cF;have d0:=y0;have d1:=y0;refine BV ?_
    repeat(go_big_quiet_step (first|exact cF _ _|exact cT _ _))
    refine BU λwq bq=>?_
    clear y0 y1 y2 y3 y4 y5 y6 x1 d0 d1;go_wp2_with fail;go_ret2;exact GF.bad hj.out (by decide) (HS.out.below bq).bel
   have T:=AA c8;rw[c8] at cF;obtain⟨an,rfl⟩:∃n:Nat,a1=(n:Int):=⟨a1.toNat,by have:=(AZ.1 c8).1;omega⟩
   have f9:an<12:=by have:=(AZ.1 c8).2;omega
   have lI:(an:Int)<12:=by omega
   clear c8;obtain⟨d0,d1,_⟩:=HS.out.Sc (f:=an) (by rw[z.out.len];exact f9);replace d0:=yy d0;replace d1:=yy d1
   by_cases h0:(Sc k.Xy an).k=0
   .have hj:=AA (HP.out.trans (Ka (.inr (.inl h0))))
    have t0:((Sc k.Xy an).k==0)=true:=by simp[h0]
    clear h0;refine BV ?_
    repeat(go_big_quiet_step (first|exact cF _ _|exact cT _ _))
    refine BU λwq bq=>?_
    clear y0 y1 y2 y3 y4 y5 y6 x1 d0 d1;go_wp2_with fail;go_ret2;exact GF.bad hj.out (by decide) (HS.out.below bq).bel
   have t0:((Sc k.Xy an).k==0)=false:=by simp[h0]
   cases ht:Bi b1
   .have hj:=AA (HP.out.trans (Ka (.inr (.inr ⟨rfl,ht⟩))))
    rw[ht] at cT;refine BV ?_
    repeat(go_big_quiet_step (first|exact cF _ _|exact cT _ _))
    refine BU λwq bq=>?_
    clear y0 y1 y2 y3 y4 y5 y6 x1 d0 d1;go_wp2_with fail;go_ret2;exact GF.bad hj.out (by decide) (HS.out.below bq).bel
   rw[ht] at cT;have dm:=AA (HP.out.trans (U6 T.out h0 (λ_=>ht)));clear h0;refine BV ?_
   repeat(go_big_quiet_step (first|exact cF _ _|exact cT _ _))
   refine BU λwq bq=>?_
   have S1:=AA (HS.out.below bq);obtain⟨W1,rfl⟩:∃W1:World,W1=wq:=⟨_,rfl⟩
   clear y0 y1 y2 y3 y4 y5 y6 x1 d0 d1 t0 cF cT bq;obtain⟨y0,y1,y2,y3,y4,y5,y6⟩:=S1.out.ys;have x1:=S1.out.xs.2.1;obtain⟨d0,d1,_⟩:=S1.out.Sc (f:=an) (by rw[z.out.len];exact f9);have CM:=Tk (w1:=W1) (λW R=>CY.out W _ _ _ _ (S1.out.below R).yT an);replace y0:=yy y0;replace y1:=yy y1;replace y2:=yy y2;replace y3:=yy y3;replace y4:=yy y4;replace y5:=yy y5;replace y6:=yy y6;replace x1:=yy x1;replace d1:=yy d1;cases hm:FF k (en:Int) (Sc k.Xy an).g
   .have hj:=AA (dm.out.trans (if_pos hm))
    rw[hm] at CM;clear hm;go_wp2_with fail;refine BV ?_
    repeat(go_big_quiet_step (exact CM _ _))
    refine BU λwq bq=>?_
    clear y0 y1 y2 y3 y4 y5 y6 x1 d0 d1;go_wp2_with fail;go_ret2;exact GF.bad hj.out (by decide) (S1.out.below bq).bel
   have kU:=AA (dm.out.trans (if_neg (by show ¬FF k (en:Int) (Sc k.Xy an).g=false;rw[hm];decide)));rw[hm] at CM;clear hm;go_wp2_with fail;refine BV ?_
   repeat(go_big_quiet_step (exact CM _ _))
   refine BU λwq bq=>?_
   have S2:=AA (S1.out.below bq);obtain⟨W2,rfl⟩:∃W2:World,W2=wq:=⟨_,rfl⟩
   clear y0 y1 y2 y3 y4 y5 y6 x1 d0 d1 bq CM;obtain⟨y0,y1,y2,y3,y4,y5,y6⟩:=S2.out.ys;go_wp2_with (refine(CF.out W2 _ _ _ _ S2.out.yT S2.out.lo an f9 (λ_=>ht)).mono ?_;rintro r w1 hr;obtain⟨n,rfl,hE⟩:=Ds.two hr QR S2.out.bel;have HE:=AA hE;clear hr hE y0 y1 y2 y3 y4 y5 y6);go_ret2;rw[kU.out];exact HE.out
  have HF:k1=4->Bi b1=true:=λx=>(gy x).elim
  have cr:k1=2∨k1=3∨k1=5∨k1=6:=by omega
  clear jC gy
  rcases cr with rfl|rfl|rfl|rfl
  all_goals
   go_in;go_wp2_with fail;generalize w.alloc _=W0 at*;have cF:=Uo (w1:=W0) (λW=>Dk a1 W);have cT:=Uo (w1:=W0) (λW=>Fq b1 W);replace y0:=yy y0;replace y1:=yy y1;replace y2:=yy y2;replace y3:=yy y3;replace y4:=yy y4;replace y5:=yy y5;replace y6:=yy y6;replace x1:=yy x1;clear x0 x2 x3;cases c8:Bh a1 0 11
   .have hj:=AA (HP.out.trans (Ka (.inl c8)))
    rw[c8] at cF;have d0:=y0;have d1:=y0;refine BV ?_
    repeat(go_big_quiet_step (first|exact cF _ _|exact cT _ _))
    refine BU λwq bq=>?_
    clear y0 y1 y2 y3 y4 y5 y6 x1 d0 d1;go_wp2_with fail;go_ret2;exact GF.bad hj.out (by decide) (HS.out.below bq).bel
   have T:=AA c8;rw[c8] at cF;obtain⟨an,rfl⟩:∃n:Nat,a1=(n:Int):=⟨a1.toNat,by have:=(AZ.1 c8).1;omega⟩
   have f9:an<12:=by have:=(AZ.1 c8).2;omega
   have lI:(an:Int)<12:=by omega
   clear c8;obtain⟨d0,d1,_⟩:=HS.out.Sc (f:=an) (by rw[z.out.len];exact f9);replace d0:=yy d0;replace d1:=yy d1
   by_cases h0:(Sc k.Xy an).k=0
   .have hj:=AA (HP.out.trans (Ka (.inr (.inl h0))))
    have t0:((Sc k.Xy an).k==0)=true:=by simp[h0]
    clear h0;refine BV ?_
    repeat(go_big_quiet_step (first|exact cF _ _|exact cT _ _))
    refine BU λwq bq=>?_
    clear y0 y1 y2 y3 y4 y5 y6 x1 d0 d1;go_wp2_with fail;go_ret2;exact GF.bad hj.out (by decide) (HS.out.below bq).bel
   have t0:((Sc k.Xy an).k==0)=false:=by simp[h0]
   have dm:=AA (HP.out.trans (U6 T.out h0 (by simp)));clear h0;refine BV ?_
   repeat(go_big_quiet_step (first|exact cF _ _|exact cT _ _))
   refine BU λwq bq=>?_
   have S1:=AA (HS.out.below bq);obtain⟨W1,rfl⟩:∃W1:World,W1=wq:=⟨_,rfl⟩
   clear y0 y1 y2 y3 y4 y5 y6 x1 d0 d1 t0 cF cT bq;obtain⟨y0,y1,y2,y3,y4,y5,y6⟩:=S1.out.ys;have x1:=S1.out.xs.2.1;obtain⟨d0,d1,_⟩:=S1.out.Sc (f:=an) (by rw[z.out.len];exact f9);have CM:=Tk (w1:=W1) (λW R=>CY.out W _ _ _ _ (S1.out.below R).yT an);replace y0:=yy y0;replace y1:=yy y1;replace y2:=yy y2;replace y3:=yy y3;replace y4:=yy y4;replace y5:=yy y5;replace y6:=yy y6;replace x1:=yy x1;replace d1:=yy d1;cases hm:FF k (en:Int) (Sc k.Xy an).g
   .have hj:=AA (dm.out.trans (if_pos hm))
    rw[hm] at CM;clear hm;go_wp2_with fail;refine BV ?_
    repeat(go_big_quiet_step (exact CM _ _))
    refine BU λwq bq=>?_
    clear y0 y1 y2 y3 y4 y5 y6 x1 d0 d1;go_wp2_with fail;go_ret2;exact GF.bad hj.out (by decide) (S1.out.below bq).bel
   have kU:=AA (dm.out.trans (if_neg (by show ¬FF k (en:Int) (Sc k.Xy an).g=false;rw[hm];decide)));rw[hm] at CM;clear hm;go_wp2_with fail;refine BV ?_
   repeat(go_big_quiet_step (exact CM _ _))
   refine BU λwq bq=>?_
   have S2:=AA (S1.out.below bq);obtain⟨W2,rfl⟩:∃W2:World,W2=wq:=⟨_,rfl⟩
   clear y0 y1 y2 y3 y4 y5 y6 x1 d0 d1 bq CM;obtain⟨y0,y1,y2,y3,y4,y5,y6⟩:=S2.out.ys;go_wp2_with (refine(CF.out W2 _ _ _ _ S2.out.yT S2.out.lo an f9 HF).mono ?_;rintro r w1 hr;obtain⟨n,rfl,hE⟩:=Ds.two hr QR S2.out.bel;have HE:=AA hE;clear hr hE y0 y1 y2 y3 y4 y5 y6);go_ret2;rw[kU.out];exact HE.out
 by_cases cr:k1=10∨k1=11
 .skip
  have HP:=AA (show Ae k ⟨k1,(en:Int),a1,b1,c1,nm⟩=Nz k ⟨k1,(en:Int),a1,b1,c1,nm⟩ by rcases cr with rfl|rfl<;>rfl);have C:=aN HS.out.yT HS.out.lo z.out ⟨k1,(en:Int),a1,b1,c1,nm⟩ (by simp) (by simp only;omega) cr;simp only[AU.on,AU.onCells] at C
  rcases cr with rfl|rfl
  all_goals
   go_in;go_wp2_with fail;generalize w.alloc _=W0 at*;refine C.mono ?_;rintro r w1 hr;obtain⟨v,n,rfl,hE⟩:=GF.of hr HS.out.bel;have HE:=AA hE;clear C;clear hr hE y0 y1 y2 y3 y4 y5 y6 x0 x1 x2 x3;go_wp2_with fail;go_ret2;rw[HP.out];exact HE.out
 have jE:¬k1=10:=λx=>cr (.inl x)
 have jD:¬k1=11:=λx=>cr (.inr x)
 clear cr
 by_cases cr:k1=1
 .skip
  have HP:=AA (show Ae k ⟨k1,(en:Int),a1,b1,c1,nm⟩=JU k ⟨k1,(en:Int),a1,b1,c1,nm⟩ by subst cr;rfl);have C:=Y0 HS.out.yT HS.out.lo z.out ⟨k1,(en:Int),a1,b1,c1,nm⟩ (by simp) (by simp only;omega) eB;simp only[AU.on,AU.onCells] at C;subst cr;go_in;go_wp2_with fail;generalize w.alloc _=W0 at*;refine C.mono ?_;rintro r w1 hr;obtain⟨v,n,rfl,hE⟩:=GF.of hr HS.out.bel;have HE:=AA hE;clear C;clear hr hE y0 y1 y2 y3 y4 y5 y6 x0 x1 x2 x3;go_wp2_with fail;go_ret2;rw[HP.out];exact HE.out
 have jI:=cr;clear cr
 by_cases cr:k1=7
 .skip
  have HP:=AA (show Ae k ⟨k1,(en:Int),a1,b1,c1,nm⟩=LP k ⟨k1,(en:Int),a1,b1,c1,nm⟩ by subst cr;rfl);have C:=Yr HS.out.yT HS.out.lo z.out ⟨k1,(en:Int),a1,b1,c1,nm⟩ (by simp) (by simp only;omega);simp only[AU.on,AU.onCells] at C;subst cr;go_in;go_wp2_with fail;generalize w.alloc _=W0 at*;refine C.mono ?_;rintro r w1 hr;obtain⟨n,rfl,hE⟩:=Ds.two hr Ys HS.out.bel;have HE:=AA hE;clear C;clear hr hE y0 y1 y2 y3 y4 y5 y6 x0 x1 x2 x3;go_wp2_with fail;go_ret2;rw[HP.out];exact HE.out
 have jH:=cr;clear cr
 by_cases cr:k1=8
 .skip
  have HP:=AA (show Ae k ⟨k1,(en:Int),a1,b1,c1,nm⟩=Fa k ⟨k1,(en:Int),a1,b1,c1,nm⟩ by subst cr;rfl);have C:=WS HS.out.yT HS.out.lo z.out ⟨k1,(en:Int),a1,b1,c1,nm⟩ (by simp) (by simp only;omega) eB;simp only[AU.on,AU.onCells] at C;subst cr;go_in;go_wp2_with fail;generalize w.alloc _=W0 at*;refine C.mono ?_;rintro r w1 hr;obtain⟨n,rfl,hE⟩:=Ds.two hr WT HS.out.bel;have HE:=AA hE;clear C;clear hr hE y0 y1 y2 y3 y4 y5 y6 x0 x1 x2 x3;go_wp2_with fail;go_ret2;rw[HP.out];exact HE.out
 have jG:=cr;clear cr
 by_cases cr:k1=9
 .skip
  have HP:=AA (show Ae k ⟨k1,(en:Int),a1,b1,c1,nm⟩=EC k ⟨k1,(en:Int),a1,b1,c1,nm⟩ by subst cr;rfl);have C:=Vd HS.out.yT HS.out.lo z.out ⟨k1,(en:Int),a1,b1,c1,nm⟩ (by simp) (by simp only;omega) eB;simp only[AU.on,AU.onCells] at C;subst cr;go_in;go_wp2_with fail;generalize w.alloc _=W0 at*;refine C.mono ?_;rintro r w1 hr;obtain⟨n,rfl,hE⟩:=Ds.two hr Ve HS.out.bel;have HE:=AA hE;clear C;clear hr hE y0 y1 y2 y3 y4 y5 y6 x0 x1 x2 x3;go_wp2_with fail;go_ret2;rw[HP.out];exact HE.out
 have jF:=cr;clear cr;have lk:k1≠2:=by omega
 have lj:k1≠3:=by omega
 have gy:k1≠4:=by omega
 have li:k1≠5:=by omega
 have lh:k1≠6:=by omega
 have hj:=AA (show Ae k ⟨k1,(en:Int),a1,b1,c1,nm⟩=(k,0,3) by unfold Ae;rw[if_neg jI,if_neg (by rw[Bool.not_eq_true,Tx];show k1<2∨6<k1;omega),if_neg jH,if_neg jG,if_neg jF,if_neg (by rintro(x|x);(· exact jE x);(· exact jD x))])
 have t1:(k1==1)=false:=by simp[jI]
 have t2:(k1==2)=false:=by simp[lk]
 have t3:(k1==3)=false:=by simp[lj]
 have t4:(k1==4)=false:=by simp[gy]
 have t5:(k1==5)=false:=by simp[li]
 have t6:(k1==6)=false:=by simp[lh]
 have t7:(k1==7)=false:=by simp[jH]
 have t8:(k1==8)=false:=by simp[jG]
 have t9:(k1==9)=false:=by simp[jF]
 have ta:(k1==10)=false:=by simp[jE]
 have tb:(k1==11)=false:=by simp[jD]
 clear jI lk lj gy li lh jH jG jF jE jD jC y0 y2 y3 y4 y5 y6 x0 x1 x2 x3;go_in;go_wp2_with fail;go_ret2;exact GF.bad hj.out (by decide) HS.out.bel
theorem Tr{a b:ByteArray}:LX a b=true↔a.data.toList<+:b.data.toList:=by unfold LX;exact vl
theorem Sh{a b c:ByteArray}(N:LX a b=true)(V:LX b c=true):LX a c=true:=Tr.2 ((Tr.1 N).trans (Tr.1 V))
def P7(k:AN)(f:Nat):Prop:=(Sc k.Xy f).r=1/\((∃t i,t<12/\Bi (A2 k t)=true/\i<4/\Du f (Au k.mem t i)=true/\(Sc k.Xy t).g=gA)∨Ab k 0=(f:Int))
def Dt(k k':AN):Prop:=(∀e,e<3->CQ (BB k' e) gA=CQ (BB k e) gA)/\Ab k' 0=Ab k 0/\
 ∀f,f<12->(Sc k.Xy f).g=gA->A2 k f≠0->AH k'.mem f=AH k.mem f/\(Sc k'.Xy f).g=gA/\(P7 k f->(Sc k'.Xy f).r=(Sc k.Xy f).r)
theorem Dt.refl(k:AN):Dt k k:=⟨λ_ _=>rfl,rfl,λ_ _ h _=>⟨rfl,h,λ_=>rfl⟩⟩
section
variable {k:AN} (h:DP k)
include h
theorem PG{t:Nat}(hf:f<12)(O:P7 k f)(ht:t<12)(gz:Bi (A2 k t)=true)(K:(Sc k.Xy t).g≠gA):f∉named (AH k.mem t):=λhm=>by
 obtain⟨i,H,hn⟩:=h.named_at ht hm;obtain⟨N,V⟩:=O
 rcases V with⟨t',i',a,b,c,d,e⟩|V
 .have:=(h.once hf N ht gz H hn a b c d).1
  subst this;exact K e
 .exact h.zo hf N ht gz H hn (e:=0) (by omega) V
theorem Wt{e:Nat}(hf:f<12)(O:P7 k f)(he:e<3)(h0:e≠0):Ab k e≠(f:Int):=λhr=>by
 obtain⟨N,V⟩:=O
 rcases V with⟨t',i',a,b,c,d,_⟩|V
 .exact h.zo hf N a b c d he hr
 .have fE:=h.refs f hf
  rw[IC h.zY] at fE;unfold Ab at hr V;have:e=1∨e=2:=by omega
  unfold ER at fE
  rcases this with rfl|rfl<;>simp[hr,V] at fE<;>split at fE<;>omega
end
theorem Nq{k:AN}{e:Nat}{m:List (List Int)}{i:List AV}{c:List Ad}(hl:k.V3.length=3)(ha:a<3):BB ⟨m,i,An k.V3 a (BQ ss),c⟩ e=if e=a then ss else BB k e:=by
 unfold BB
 show(AF (An k.V3 a (BQ ss)) e).Tj=_
 rw[Gk]
 by_cases h:e=a
 .rw[if_pos ⟨h,by rw[hl];exact ha⟩,if_pos h];rfl
 .rw[if_neg (λx=>h x.1),if_neg h]
theorem Q0{k:AN}{e:Nat}{m:List (List Int)}{i:List AV}{c:List Ad}:Ab ⟨m,i,An k.V3 a (BQ ss),c⟩ e=Ab k e:=by
 unfold Ab
 show(AF (An k.V3 a (BQ ss)) e).root=_
 rw[Gk]
 split
 .next h=>rw[h.1];rfl
 .rfl
section
variable {k:AN} (h:DP k) {c:AU} (he:c.e=1∨c.e=2) (bu:∀e,1<=e->e<3->CQ (BB k e) gA=false)
include h he bu
theorem Qb{g:ByteArray}(hm:FF k c.e g=true):g≠gA:=λe=>by have _:=h;have _:=he;have _:=bu;subst e;have:=bu c.e.toNat (by omega) (by omega);unfold FF at hm;unfold BB at this;rw[hm] at this;cases this
theorem Zy{g:ByteArray}(hm:FF k c.e g=true):LX g gA=false:=by
 have _:=h;have _:=he;have _:=bu;cases hc:LX g gA
 .rfl
 .exfalso
  obtain⟨s,hs,N⟩:=IL.1 hm;have:=bu c.e.toNat (by omega) (by omega);have V:CQ (BB k c.e.toNat) gA=true:=IL.2 ⟨s,hs,Sh N hc⟩;rw[V] at this;cases this
theorem XQ:Dt k (JU k c).1:=by
 have _:=h;have _:=he;have _:=bu;unfold JU
 split
 .exact Dt.refl k
 .split
  .exact Dt.refl k
  .split
   .exact Dt.refl k
   .next c8=>
    obtain⟨g1,g2,g3⟩:=GZ c8;refine⟨λ_ _=>rfl,rfl,λf hf K D=>?_⟩;have dt:f≠(Ar k.Xy).toNat:=λe=>by unfold A2 at D;rw[e] at D;exact D g2
    show AH (k.mem.set _ _) f=_/\(Sc (k.Xy.set _ _) f).g=gA/\(_->(Sc (k.Xy.set _ _) f).r=_)
    rw[Oh,if_neg (λx=>dt x.1),Hj,if_neg (λx=>dt x.1)];exact⟨rfl,K,λ_=>rfl⟩
theorem WQ(hA:c.a.toNat<12)(hm:FF k c.e (Sc k.Xy c.a.toNat).g=true):Dt k (Kb k c).1:=by
 have _:=h;have _:=he;have _:=bu;have eT:=Qb h he bu hm;unfold Kb
 split
 .exact Dt.refl k
 .split
  .exact Dt.refl k
  .refine⟨λ_ _=>rfl,rfl,λf hf K D=>?_⟩
   have dt:f≠c.a.toNat:=λe=>eT (by rw[<-e];exact K)
   show _/\(Sc (k.Xy.set _ _) f).g=gA/\(_->(Sc (k.Xy.set _ _) f).r=_)
   rw[Hj,if_neg (λx=>dt x.1)];exact⟨rfl,K,λ_=>rfl⟩
theorem Wx(hm:FF k c.e (Sc k.Xy c.a.toNat).g=true):Dt k (Kg k c).1:=by
 have _:=h;have _:=he;have _:=bu;have eT:=Qb h he bu hm;unfold Kg
 split
 .exact Dt.refl k
 .refine⟨λ_ _=>rfl,rfl,λf hf K D=>?_⟩
  have dt:f≠c.a.toNat:=λe=>eT (by rw[<-e];exact K)
  show AH (Ci _ _ _ _) f=_/\_/\_
  rw[ID,if_neg (λx=>dt x.1)];exact⟨rfl,K,λ_=>rfl⟩
theorem Mh{n kind:Int}(eT:(Sc k.Xy a).g≠gA)(m8:∀f,f<12->(Sc k.Xy f).g=gA->P7 k f->f∉fs):Dt k {k with Xy:=An (BK k.Xy fs n) a (DU kind)}:=by
 have _:=h;have _:=he;have _:=bu;refine⟨λ_ _=>rfl,rfl,λf hf K D=>?_⟩;have dt:f≠a:=λe=>eT (by rw[<-e];exact K)
 show AH k.mem f=AH k.mem f/\(Sc (An (BK k.Xy fs n) a (DU kind)) f).g=gA/\(_->(Sc (An (BK k.Xy fs n) a (DU kind)) f).r=_)
 rw[Fb,if_neg (λx=>dt x.1),Np (by rw[h.len];exact hf)];refine⟨rfl,K,λO=>?_⟩;have:=List.count_eq_zero_of_not_mem (m8 f hf K O)
 show(Sc k.Xy f).r+n*((fs.count f:Nat):Int)=_
 rw[this];simp
theorem Nj{r:List AV×Int}(hr:r.2=0->Dt k {k with Xy:=r.1}):Dt k (Do k r).1:=by
 have _:=h;have _:=he;have _:=bu;unfold Do
 split
 .next h0=>exact hr h0
 .exact Dt.refl k
theorem Yk(hm:FF k c.e (Sc k.Xy c.a.toNat).g=true):Dt k (Do k (F7 k.mem k.Xy c.a.toNat c.b (AF k.V3 c.e.toNat).Tj)).1:=by
 have _:=h;have _:=he;have _:=bu;have eT:=Qb h he bu hm;refine Nj h he bu λh0=>?_
 revert h0
 unfold F7
 split
 .intro x;cases x
 .split
  .intro x;cases x
  .next hgood=>
   split
   .intro _
    refine Mh h he bu eT λf hf K _ c7=>?_
    obtain⟨w,hw,N,V⟩:=Fk.1 c7;have:=MM.1 (by simpa using hgood) w hw;unfold Fp at this;rw[if_pos N,V] at this;simp only[yD] at this;have:=this.2;rw[K] at this;have ha:=bu c.e.toNat (by omega) (by omega);unfold BB at ha;rw[this] at ha;cases ha
   .intro x;cases x
theorem Vm(hA:c.a.toNat<12)(hm:FF k c.e (Sc k.Xy c.a.toNat).g=true):Dt k (Do k (Cy k.mem k.Xy c.a.toNat)).1:=by
 have _:=h;have _:=he;have _:=bu;have eT:=Qb h he bu hm;refine Nj h he bu λh0=>?_
 revert h0
 unfold Cy
 split
 .intro x;cases x
 .next el=>
  split
  .intro _
   have gz:Bi (A2 k c.a.toNat)=true:=by
    cases A:Bi (A2 k c.a.toNat)
    .exact absurd (.inl A) el
    .rfl
   exact Mh h he bu eT λf hf K O=>PG h hf O hA gz eT
  .intro x;cases x
theorem Yu(hA:c.a.toNat<12)(hm:FF k c.e (Sc k.Xy c.a.toNat).g=true):Dt k (IF k c).1:=by
 have _:=h;have _:=he;have _:=bu;have eT:=Qb h he bu hm;unfold IF
 split
 .exact Dt.refl k
 .next el=>
  split
  .exact Dt.refl k
  .split
   .exact Dt.refl k
   .next hno2=>
    have gz:Bi (A2 k c.a.toNat)=true:=by
     cases A:Bi (A2 k c.a.toNat)
     .exact absurd (.inl A) el
     .rfl
    have lH:c.b.toNat<4:=by
     cases A:Bh c.b 0 3
     .exact absurd (.inr (.inl A)) el
     .have:=AZ.1 A;omega
    refine⟨λ_ _=>rfl,rfl,λf hf K D=>?_⟩;have dt:f≠c.a.toNat:=λe=>eT (by rw[<-e];exact K)
    show AH (Ci _ _ _ _) f=_/\(Sc (A7 (A7 k.Xy _ _) c.c 1) f).g=gA/\(_->(Sc (A7 (A7 k.Xy _ _) c.c 1) f).r=_)
    rw[ID,if_neg (λx=>dt x.1),Fl (by rw[Co];exact h.len),Fl h.len];refine⟨rfl,K,λO=>?_⟩;have e1:Du f (Au k.mem c.a.toNat c.b.toNat)=false:=by
     cases hn:Du f (Au k.mem c.a.toNat c.b.toNat)
     .rfl
     .exfalso
      have g6:Bn (Au k.mem c.a.toNat c.b.toNat)=true/\BM (Au k.mem c.a.toNat c.b.toNat)=f:=by simpa[Du] using hn
      have:=J2 g6.1;rw[g6.2] at this;exact PG h hf O hA gz eT this
    have e2:Du f c.c=false:=by
     cases hn:Du f c.c
     .rfl
     .exfalso
      have g6:Bn c.c=true/\BM c.c=f:=by simpa[Du] using hn
      refine hno2 ⟨g6.1,?_⟩;rw[g6.2,K];have:=bu c.e.toNat (by omega) (by omega);exact this
    rw[e1,e2];simp[ER]
theorem XC:Dt k (LP k c).1:=by
 have _:=h;have _:=he;have _:=bu;unfold LP
 split
 .exact Dt.refl k
 .next el=>
  split
  .exact Dt.refl k
  .next hno2=>
   have fy:c.e.toNat<3:=by omega
   have hX:c.e.toNat≠0:=by omega
   refine⟨λe _=>?_,?_,λf hf K D=>⟨rfl,?_⟩⟩
   .have:BB ⟨k.mem,k.Xy,An k.V3 c.e.toNat (Dz c.a),GI k.V0 c.e⟩ e=BB k e:=by
     unfold BB
     show(AF (An k.V3 c.e.toNat (Dz c.a)) e).Tj=_
     rw[Gk]
     split
     .next h=>rw[h.1];rfl
     .rfl
    show CQ (BB ⟨k.mem,k.Xy,An k.V3 c.e.toNat (Dz c.a),GI k.V0 c.e⟩ e) gA=_
    rw[this]
   .show(AF (An k.V3 c.e.toNat (Dz c.a)) 0).root=_
    rw[Gk,if_neg (λx=>hX x.1.symm)];rfl
   .have hl:=h.len
    show(Sc (Ge k.Xy (AF k.V3 c.e.toNat).root c.a) f).g=gA/\(_->(Sc (Ge k.Xy (AF k.V3 c.e.toNat).root c.a) f).r=_)
    rw[TN hl hf];refine⟨K,λO=>?_⟩;have e1:decide ((AF k.V3 c.e.toNat).root=(f:Int))=false:=decide_eq_false (Wt h hf O fy hX);have e2:decide (c.a=(f:Int))=false:=decide_eq_false λhx=>by
     have:BI k.Xy (Ba k.mem c.a) (AF k.V3 c.e.toNat).Tj=true:=by simpa using hno2
     have:=GW.1 this f (Dl.2 ⟨by omega,.inl (by omega)⟩);rw[K] at this;have ha:=bu c.e.toNat (by omega) (by omega);unfold BB at ha;rw[this] at ha;cases ha
    rw[e1,e2];simp[ER]
theorem Zs{s g:ByteArray}(hc:LX s g=false):CQ (BR ss s).1 g=CQ ss g:=by
 have _:=h;have _:=he;have _:=bu;unfold BR
 split
 .rfl
 .split
  .rfl
  .rw[xi,IL,IL]
   constructor
   .rintro⟨x,hx,hxc⟩
    rcases NJ.1 hx with rfl|hx
    .rw[hc] at hxc;cases hxc
    .exact⟨x,hx,hxc⟩
   .rintro⟨x,hx,hxc⟩
    exact⟨x,NJ.2 (.inr hx),hxc⟩
theorem Ya{s g:ByteArray}(hc:LX s g=false):CQ (Bc ss s) g=CQ ss g:=by
 have _:=h;have _:=he;have _:=bu;unfold Bc;rw[xi,IL,IL];constructor
 .rintro⟨x,hx,hxc⟩
  exact⟨x,(wO.1 hx).1,hxc⟩
 .rintro⟨x,hx,hxc⟩
  refine⟨x,wO.2 ⟨hx,?_⟩,hxc⟩;cases hs:LX s x
  .rfl
  .rw[Sh hs hxc] at hc;cases hc
theorem VB:Dt k (Fa k c).1:=by
 have _:=h;have _:=he;have _:=bu;unfold Fa
 split
 .exact Dt.refl k
 .next el=>
  split
  .exact Dt.refl k
  .next hm=>
   split
   .exact Dt.refl k
   .have ku:c.a.toNat<3:=by
     cases A:Bh c.a 0 2
     .exact absurd (.inl A) el
     .have:=AZ.1 A;omega
    have ke:=Zy h he bu (g:=c.nm) (by simpa using hm);refine⟨λe _=>?_,Q0,λf hf K D=>⟨rfl,K,λ_=>rfl⟩⟩;rw[Nq h.zY ku]
    split
    .next hea=>rw[hea];exact Zs h he bu ke
    .rfl
theorem UU:Dt k (EC k c).1:=by
 have _:=h;have _:=he;have _:=bu;unfold EC
 split
 .exact Dt.refl k
 .next el=>
  split
  .exact Dt.refl k
  .next hm=>
   split
   .exact Dt.refl k
   .have ku:c.a.toNat<3:=by
     cases A:Bh c.a 0 2
     .exact absurd (.inl A) el
     .have:=AZ.1 A;omega
    have ke:=Zy h he bu (g:=c.nm) (by simpa using hm);refine⟨λe _=>?_,Q0,λf hf K D=>⟨rfl,K,λ_=>rfl⟩⟩;rw[Nq h.zY ku]
    split
    .next hea=>rw[hea];exact Ya h he bu ke
    .rfl
theorem XY{m:List (List Int)}{root:Int}(h0:0<=root)(hw:(Bv m root.toNat a).1=0):(Bv m root.toNat a).2.1∈Ba m root:=by
 have _:=h;have _:=he;have _:=bu
 revert hw
 unfold Bv
 split
 .next N=>
  split
  .next V=>
   intro _;exact Dl.2 ⟨h0,.inr (.inr ⟨_,J2 N,J2 V⟩)⟩
  .intro x;cases x
 .intro x;cases x
theorem Y3:Dt k (Nz k c).1:=by
 have _:=h;have _:=he;have _:=bu;unfold Nz;dsimp only
 split
 .exact Dt.refl k
 .next el=>
  split
  .exact Dt.refl k
  .next hw=>
   split
   .exact Dt.refl k
   .split
    .have h0:0<=(AF k.V3 c.e.toNat).root:=by
      rcases Int.lt_or_le (AF k.V3 c.e.toNat).root 0 with hh|hh
      .exact absurd (.inr (.inl hh)) el
      .exact hh
     have hr:=XY h he bu (a:=c.a.toNat) h0 (by simpa using hw);have ib:=h.allow c.e.toNat (by omega) _ hr;refine⟨λ_ _=>rfl,rfl,λf hf K D=>?_⟩;have dt:f≠(Bv k.mem (AF k.V3 c.e.toNat).root.toNat c.a.toNat).2.1:=λe=>by rw[<-e,K,bu c.e.toNat (by omega) (by omega)] at ib;cases ib
     show AH (Ci _ _ _ _) f=_/\_/\_
     rw[ID,if_neg (λx=>dt x.1)];exact⟨rfl,K,λ_=>rfl⟩
    .exact⟨λ_ _=>rfl,rfl,λf hf K D=>⟨rfl,K,λ_=>rfl⟩⟩
theorem Ut:Dt k (Ae k c).1:=by
 have _:=h;have _:=he;have _:=bu;unfold Ae
 split
 .exact XQ h he bu
 .split
  .unfold HZ
   split
   .exact Dt.refl k
   .next el=>
    split
    .exact Dt.refl k
    .next hm=>
     have g9:FF k c.e (Sc k.Xy c.a.toNat).g=true:=by simpa using hm
     have hA:c.a.toNat<12:=by
      cases A:Bh c.a 0 11
      .exact absurd (.inl A) el
      .have:=AZ.1 A;omega
     split
     .exact WQ h he bu hA g9
     .split
      .exact Wx h he bu g9
      .split
       .exact Yk h he bu g9
       .split
        .exact Vm h he bu hA g9
        .exact Yu h he bu hA g9
  .split
   .exact XC h he bu
   .split
    .exact VB h he bu
    .split
     .exact UU h he bu
     .split
      .exact Y3 h he bu
      .exact Dt.refl k
end
theorem Qk(h:Ec p){c:AU}(he:c.e=1∨c.e=2):Ec (Ig p c).1/\∀a,a<64->EL (Ig p c).1 a=EL p a:=by
 have hg:=Ut h.k he h.alone;have iL:DP (Ae p.Vw c).1:=Ll h.k (by omega);obtain⟨k1,k2,k3⟩:=hg;have iG:=h.zL;have fe:P7 p.Vw (Ab p.Vw 0).toNat:=⟨h.yX.2,.inr (by have:=h.root;omega)⟩;have fC:∀i,i<4->P7 p.Vw (Be p.low i).toNat:=λi H=>⟨(h.lows i H).2.2.2.2,.inl ⟨_,i,iG.1,by rw[iG.2];rfl,H,h.zx H,h.yX.1⟩⟩
 have eP:∀n,n<16->(AC p.Xx n).w=1->P7 p.Vw (AC p.Xx n).a.toNat:=λn hn hw=>by obtain⟨f1,f2,f3⟩:=h.zR hn hw;have hl:=h.zV (i:=n/4) (by omega);exact⟨f3.2,.inl ⟨_,n%4,hl.1,by rw[hl.2];rfl,by omega,f1,(h.lows (n/4) (by omega)).2.2.2.1⟩⟩
 have ft:=k3 _ iG.1 h.yX.1 (by rw[iG.2];decide);have gg:=λi (H:i<4)=>k3 _ (h.zV H).1 (h.lows i H).2.2.2.1 (by rw[(h.zV H).2];decide)
 have eF:=λn (hn:n<16) (hw:(AC p.Xx n).w=1)=>k3 _ (h.zS hn hw).1 (h.zR hn hw).2.2.1 (by rw[(h.zS hn hw).2];decide)
 have mL:∀n,n<16->Bx (Ig p c).1 n=Bx p n:=λn hn=>by
  unfold Bx Ig Au
  show(AH (Ae p.Vw c).1.mem (Be p.low (n/4)).toNat).getD (n%4) 0=_
  rw[(gg (n/4) (by omega)).1]
 refine⟨⟨iL,h.zO,h.zG,?_,λe N V=>?_,?_,h.zE,?_,λi H=>?_,h.zZ,h.slots,λn hn=>?_,h.Il,h.UQ,h.count⟩,λa ha=>?_⟩
 .exact(k1 0 (by omega)).trans h.may
 .exact(k1 e V).trans (h.alone e N V)
 .show 0<=Ab (Ae p.Vw c).1 0
  rw[k2];exact h.root
 .show LU (Ae p.Vw c).1.Xy (Ab (Ae p.Vw c).1 0).toNat
  rw[k2];exact⟨ft.2.1,(ft.2.2 fe).trans h.yX.2⟩
 .obtain⟨x1,x2,x3,x4⟩:=h.lows i H
  refine⟨x1,x2,?_,(gg i H).2.1,((gg i H).2.2 (fC i H)).trans x4.2⟩
  show Au (Ae p.Vw c).1.mem (Ab (Ae p.Vw c).1 0).toNat i=_
  rw[k2];unfold Au;rw[ft.1];exact x3
 .have:=h.Xx n hn
  unfold Kr at this ⊢;rw[mL n hn]
  rcases this with x|⟨x1,x2,x3,x4⟩|x
  .exact .inl x
  .exact .inr (.inl ⟨x1,x2,x3,(eF n hn x1).2.1,((eF n hn x1).2.2 (eP n hn x1)).trans x4.2⟩)
  .exact .inr (.inr x)
 .unfold EL
  show(if(AC p.Xx (a/4)).w=1 then Au (Ae p.Vw c).1.mem (AC p.Xx (a/4)).a.toNat (a%4) else _)=_
  by_cases w1:(AC p.Xx (a/4)).w=1
  .rw[if_pos w1,if_pos w1]
   unfold Au;rw[(eF _ (by omega) w1).1]
  .rw[if_neg w1,if_neg w1];rfl
def gB:ByteArray:=⟨#[98]⟩
def gC:ByteArray:=⟨#[99]⟩
def dM:AN:=⟨yd 12 [0,0,0,0],yd 12 ⟨0,⟨#[]⟩,0⟩,[⟨[gA],-1⟩,⟨[gB],-1⟩,⟨[gC],-1⟩],[]⟩
def Ke:List AU:=[Ai 1 0 0 0,Ai 4 0 3 0,Ai 7 0 0 0,
 Ai 1 0 0 0,Ai 4 1 2 0,Ai 6 0 0 7,Ai 1 0 0 0,Ai 4 2 2 0,Ai 6 0 1 11,Ai 1 0 0 0,Ai 4 3 2 0,Ai 6 0 2 15,Ai 1 0 0 0,Ai 4 4 2 0,Ai 6 0 3 19]
def EJ(n:Nat):AN:=(Ke.take n).foldl (λk c=>(Ae k c).1) dM
def bv:AN:=⟨[7,11,15,19]::yd 11 [0,0,0,0],⟨3,gA,1⟩::(yd 4 ⟨2,gA,1⟩++yd 7 ⟨0,⟨#[]⟩,0⟩),[⟨[gA],0⟩,⟨[gB],-1⟩,⟨[gC],-1⟩],[]⟩
theorem Wq:EJ 15=bv:=by kernel_rfl
theorem bM:Ae (EJ 0) (Ai 1 0 0 0)=(EJ 1,0,0):=by kernel_rfl
theorem bI:Ae (EJ 1) (Ai 4 0 3 0)=(EJ 2,0,0):=by kernel_rfl
theorem Zw:Ae (EJ 2) (Ai 7 0 0 0)=(EJ 3,0,0):=by kernel_rfl
theorem Zx:∀i,i<4->Ae (EJ (3*i+3)) (Ai 1 0 0 0)=(EJ (3*i+4),((i+1:Nat):Int),0)
 |0,_|1,_|2,_|3,_=>by kernel_rfl
 |_+4,h=>by omega
theorem bH:∀i,i<4->Ae (EJ (3*i+4)) (Ai 4 ((i+1:Nat):Int) 2 0)=(EJ (3*i+5),0,0)
 |0,_|1,_|2,_|3,_=>by kernel_rfl
 |_+4,h=>by omega
theorem bJ:∀i,i<4->Ae (EJ (3*i+5)) (Ai 6 0 (i:Int) (Iy ((i+1:Nat):Int)))=(EJ (3*i+6),0,0)
 |0,_|1,_|2,_|3,_=>by kernel_rfl
 |_+4,h=>by omega
theorem Zv:∀n,n<=15->DP (EJ n):=by
 have h0:DP (EJ 0):=EZ.1 (by kernel_rfl);intro n
 induction n with
 |zero=>exact λ_=>h0
 |succ n ih=>
  intro hn;have av:n<Ke.length:=by show n<15;omega
  have e:EJ (n+1)=(Ae (EJ n) Ke[n]).1:=by unfold EJ;rw[List.take_succ_eq_append_getElem av,vJ];rfl
  rw[e];have he:(Ke[n]).e=0:=by
   have:∀c∈Ke,c.e=0:=by
    intro c hc;simp only[Ke,List.mem_cons,wX,or_false] at hc
    rcases hc with h|h|h|h|h|h|h|h|h|h|h|h|h|h|h<;>(subst h;rfl)
   exact this _ (List.getElem_mem av)
  exact Ll (ih (by omega)) (by rw[he];omega)
def VW(UQ:Int):AR:=⟨bv,yd 16 [],[1,2,3,4],yd 16 ⟨0,0,false⟩,0,UQ⟩
theorem Xj{l:Int}(N:1<=l)(h6:l<=6):Ec (VW l):=by
 have h:Ec (VW 1):=EP.1 (by kernel_rfl);exact⟨h.k,h.zO,h.zG,h.may,h.alone,h.root,h.zE,h.yX,h.lows,h.zZ,h.slots,λn hn=>h.Xx n hn,h.Il,⟨N,h6⟩,by
  show((As (yd 16 ⟨0,0,false⟩) 1:Nat):Int)<=l
  have:As (yd 16 ⟨0,0,false⟩) 1=0:=by kernel_rfl
  omega⟩
def FM(k:AN)(r:Mq):Prop:=(r.2.2≠0->r=(k,0,r.2.2))/\0<=r.2.2/\r.2.2<=4
theorem FM.code{k:AN}{n:Int}(h0:0<=n)(h4:n<=4):FM k (k,0,n):=⟨λ_=>rfl,h0,h4⟩
theorem FM.done{k k':AN}{v:Int}:FM k (k',v,0):=⟨λh=>absurd rfl h,by show(0:Int)<=0;omega,by show(0:Int)<=4;omega⟩
theorem FM.zM{k:AN}{p:Prop} [Decidable p] {a b:Mq}(ha:FM k a)(A:FM k b):FM k (if p then a else b):=by split<;>assumption
theorem Qr{k:AN}{r:List AV×Int}:FM k (Do k r):=by
 unfold Do Gv
 split
 .exact .done
 .split
  .exact .code (by omega) (by omega)
  .exact .code (by omega) (by omega)
theorem ZN{k:AN}{c:AU}:FM k (Ae k c):=by
 have c1:FM k (k,0,1):=.code (by omega) (by omega);have c2:FM k (k,0,2):=.code (by omega) (by omega);have c3:FM k (k,0,3):=.code (by omega) (by omega);have c4:FM k (k,0,4):=.code (by omega) (by omega);unfold Ae;refine .zM (.zM c3 (.zM c1 (.zM c4 .done))) (.zM ?_ (.zM ?_ (.zM ?_ (.zM ?_ (.zM ?_ c3)))))
 .unfold HZ
  refine .zM c3 (.zM c1 (.zM (.zM c3 (.zM c2 .done)) (.zM (.zM c3 .done) (.zM Qr (.zM Qr ?_)))));unfold IF;exact .zM c3 (.zM c1 (.zM c1 .done))
 .unfold LP
  exact .zM c3 (.zM c1 .done)
 .unfold Fa
  exact .zM c3 (.zM c1 (.zM c4 .done))
 .unfold EC
  exact .zM c3 (.zM c1 (.zM c2 .done))
 .unfold Nz
  exact .zM c3 (.zM c3 (.zM c1 (.zM .done .done)))
theorem QH{k:AN}{c:AU}(h:(Ae k c).2.2≠0):Ae k c=(k,0,(Ae k c).2.2):=ZN.1 h
def Hy(w:World)(res:Mq)(e:Ending)(w':World):Prop:=∃m i ev c,e=.returned (.tuple #[.agg #[m,i,ev,c],.int .i64 res.2.1,.int .i64 res.2.2])/\Dh w.heap.size w' m i ev c res.1/\Below w.heap.size w w'
theorem Dh.lower{lo lo':Nat}{w:World}{m i e c:Value}{k:AN}(h:Dh lo w m i e c k)(hl:lo'<=lo):Dh lo' w m i e c k:=
 ⟨⟨_,h.1.choose_spec.lower hl⟩,h.2.1.lower hl,⟨_,h.2.2.1.choose_spec.lower hl⟩,h.2.2.2.lower hl⟩
theorem Dh.yW{lo g:Nat}{w w':World}{m i e c:Value}{k:AN}{cs:Array Value}{T:Nat}{fr:Nat×Nat}(h:Dh lo w m i e c k)(K:w.grownBy w' (some g))(hB:w.heap[g]?=some (.cells cs T fr))
 (N:29≠T:=by decide)(V:3≠T:=by decide)(h3:91≠T:=by decide)(h4:66≠T:=by decide)(h5:9≠T:=by decide)(h6:96≠T:=by decide):Dh lo w' m i e c k:=
 ⟨⟨_,h.1.choose_spec.yW K hB N V⟩,h.2.1.yW K hB h3,⟨_,h.2.2.1.choose_spec.yW K hB h4 h5⟩,h.2.2.2.yW K hB h6⟩
theorem Dd{w:World}{g t:Nat}{a b c d e f:Value}(h:w.heap[g]?=some (.cells #[a,b,c,d,e,f] t (0,0))):w.cell? ⟨g,0,none⟩=some a/\w.cell? ⟨g,1,none⟩=some b/\w.cell? ⟨g,2,none⟩=some c/\w.cell? ⟨g,3,none⟩=some d/\w.cell? ⟨g,4,none⟩=some e/\w.cell? ⟨g,5,none⟩=some f:=
 ⟨yz w g 0 _ _ _ h,yz w g 1 _ _ _ h,yz w g 2 _ _ _ h,yz w g 3 _ _ _ h,yz w g 4 _ _ _ h,yz w g 5 _ _ _ h⟩
theorem Aq(w:World)(g:Nat)(a b c d:Value):w.grownBy ((((w.setCell ⟨g,0,none⟩ a).setCell ⟨g,1,none⟩ b).setCell ⟨g,2,none⟩ c).setCell ⟨g,3,none⟩ d) (some g):=
 Ao (Ao (Ao (Ak w g 0 a) 1 b) 2 c) 3 d
theorem Dh.Ex{lo:Nat}{w:World}{m i e c:Value}{k:AN}(h:Dh lo w m i e c k):(∃a n q,m=.slice a n q)/\(∃a n q,i=.slice a n q)/\(∃a n q,e=.slice a n q)/\∃a n q,c=.slice a n q:=by obtain⟨⟨_,N⟩,V,⟨_,h3⟩,h4⟩:=h;obtain⟨_,_,rfl,_,_⟩:=N.1.rd.shape;obtain⟨_,_,rfl,_,_⟩:=V.rd.shape;obtain⟨_,_,rfl,_,_⟩:=h3.1.rd.shape;obtain⟨_,_,rfl,_,_⟩:=h4.rd.shape;exact⟨⟨_,_,_,rfl⟩,⟨_,_,_,rfl⟩,⟨_,_,_,rfl⟩,⟨_,_,_,rfl⟩⟩
theorem FY(w:World)(a b c:Obj):(((w.alloc a).alloc b).alloc c).heap[w.heap.size]?=some a/\(((w.alloc a).alloc b).alloc c).heap[w.heap.size+1]?=some b/\(((w.alloc a).alloc b).alloc c).heap[w.heap.size+1+1]?=some c/\Below w.heap.size w (((w.alloc a).alloc b).alloc c)/\(((w.alloc a).alloc b).alloc c).heap.size=w.heap.size+3:=by have N:=yw w a;have V:=yw (w.alloc a) b;have h3:=yw ((w.alloc a).alloc b) c;have h4:=AB (AB N (AJ _ b)) (AJ _ c);have h5:=AB V (AJ _ c);simp only[xK] at V h3 h5;refine⟨h4,h5,h3,(IH w a b).trans ((AJ _ c).mono (IH w a b).size),by simp⟩
theorem J0{w:World}{g t:Nat}{m i e c m' i' e' c':Value}(h:w.heap[g]?=some (.cells #[m,i,e,c] t (0,0))):((((w.setCell ⟨g,0,none⟩ m').setCell ⟨g,1,none⟩ i').setCell ⟨g,2,none⟩ e').setCell ⟨g,3,none⟩ c').cell? ⟨g,0,none⟩=some m'/\((((w.setCell ⟨g,0,none⟩ m').setCell ⟨g,1,none⟩ i').setCell ⟨g,2,none⟩ e').setCell ⟨g,3,none⟩ c').cell? ⟨g,1,none⟩=some i'/\((((w.setCell ⟨g,0,none⟩ m').setCell ⟨g,1,none⟩ i').setCell ⟨g,2,none⟩ e').setCell ⟨g,3,none⟩ c').cell? ⟨g,2,none⟩=some e'/\((((w.setCell ⟨g,0,none⟩ m').setCell ⟨g,1,none⟩ i').setCell ⟨g,2,none⟩ e').setCell ⟨g,3,none⟩ c').cell? ⟨g,3,none⟩=some c':=AE (Cw h)
theorem QI(m i e c:Value)(k:AN)(call:AU)(w:World)(h:Le w m i e c k)(D:DP k)(he:0<=call.e)(hn:call.e<3)(eB:call.nm.size<=maxLen)(fS:call.c<=9223372036854775807):
 Calls prog 20 #[.agg #[m,i,e,c],.agg #[.int .i64 call.k,.int .i64 call.e,.int .i64 call.a,.int .i64 call.b,.int .i64 call.c,.string call.nm]] w (Hy w (Ae k call)):=by
 have C:=AA (λ(lo g:Nat)(w:World)(m i e c:Value)(h:IT lo w g m i e c k)(dn:lo<=w.heap.size)=>ak h dn D call he hn eB fS);have HR:=AA h;have z:=AA D;have HN:=AA (@QH k call);generalize Ae k call=res at C HN ⊢;obtain⟨kr,vr,nr⟩:=res;obtain⟨ck,ce,ca,cb,cc,nm⟩:=call;simp only[AU.on,AU.onCells] at C;clear he hn eB fS h D;go_in;go_wp2_with fail;obtain⟨B0,B1,B2,bp,fv⟩:=FY w (.cells #[m,i,e,c] 28) (.cells #[.int .i64 ck,.int .i64 ce,.int .i64 ca,.int .i64 cb,.int .i64 cc,.string nm] 34) (.cells #[.slice none 0 0,.slice none 0 0,.slice none 0 0,.slice none 0 0] 28);generalize((w.alloc _).alloc _).alloc _=W0 at*;refine(Po m i e c k W0 (HR.out.below bp) z.out).mono ?_;rintro r w1 ⟨m1,i1,e1,c1,rfl,O1,b1⟩;have lm:=b1.size;obtain⟨⟨ma,mn,mc,rfl⟩,⟨ia,iN,ic,rfl⟩,⟨ea,en,ec,rfl⟩,⟨qa,qn,qc,rfl⟩⟩:=O1.Ex;obtain⟨N3,b2⟩:=EH w1 (.cells #[.slice ma mn mc,.slice ia iN ic,.slice ea en ec,.slice qa qn qc] 28);obtain⟨y0,y1,y2,y3,y4,y5⟩:=Dd (AB (AB B1 b1) b2);have hI:=AA (show IT W0.heap.size _ w1.heap.size _ _ _ _ k from⟨N3,lm,O1.below b2⟩);have br:=AA (b1.trans (b2.mono lm));clear N3 O1 b1 b2 B1;go_wp2_with fail;refine(C.out _ _ _ _ _ _ _ hI.out (by have:=br.out.size;omega)).mono ?_;rintro r w3 ⟨rfl,j0,b3⟩;have eN:=br.out.trans b3;have av:w.heap.size+1+1<W0.heap.size:=by omega
 have kZ:=(eN.block _ (by omega)).trans B0;have gv:=(eN.block _ (by omega)).trans B2;have dp:=AA (bp.trans (eN.mono bp.size));clear y0 y1 y2 y3 y4 y5 hI br b3 B0 B2 C
 by_cases h0:nr=0
 focus
  subst h0
  have t0:((0:Int)==0)=true:=rfl;obtain⟨m',i',e',c',iU⟩:=j0 rfl;obtain⟨⟨jB,jy,jz,rfl⟩,⟨jM,jO,jK,rfl⟩,⟨kH,kD,kF,rfl⟩,⟨js,jo,jq,rfl⟩⟩:=iU.2.2.Ex;obtain⟨x0,x1,x2,x3⟩:=iU.cells;have em:=AK gv;obtain⟨z0,z1,z2,z3⟩:=AE gv;obtain⟨E0,E1,E2,E3⟩:=J0 (m':=.slice jB jy jz) (i':=.slice jM jO jK) (e':=.slice kH kD kF) (c':=.slice js jo jq) gv;have HE:=AA (yk E0 (yk E1 (yk E2 E3)));have ey:=Aq w3 (w.heap.size+1+1) (.slice jB jy jz) (.slice jM jO jK) (.slice kH kD kF) (.slice js jo jq);have lZ:=AA (show Dh w.heap.size _ (.slice jB jy jz) (.slice jM jO jK) (.slice kH kD kF) (.slice js jo jq) kr from(iU.2.2.yW ey gv).lower bp.size);have ji:=AA (AM dp.out ey (by omega) dp.out.size);clear E0 E1 E2 E3 iU j0 ey kZ gv HN eN
 rotate_left
 focus
  have t0:(nr==0)=false:=by simp[h0]
  have hN:=HN.out h0;simp only[Prod.mk.injEq,and_true] at hN;obtain⟨rfl,rfl⟩:=hN;obtain⟨x0,x1,x2,x3⟩:=AE kZ;clear j0;go_wp2_with fail;refine(Po m i e c kr w3 (HR.out.below dp.out) z.out).mono ?_;rintro r w4 ⟨m4,i4,e4,c4,rfl,O4,b4⟩;have B4:=AB gv b4;have em:=AK B4;obtain⟨z0,z1,z2,z3⟩:=AE B4;obtain⟨E0,E1,E2,E3⟩:=J0 (m':=m4) (i':=i4) (e':=e4) (c':=c4) B4;have HE:=AA (yk E0 (yk E1 (yk E2 E3)));have ey:=Aq w4 (w.heap.size+1+1) m4 i4 e4 c4;have lZ:=AA (show Dh w.heap.size _ m4 i4 e4 c4 kr from(O4.yW ey B4).lower dp.out.size);have ji:=AA (AM (dp.out.trans (b4.mono dp.out.size)) ey (by omega) (by have:=dp.out.size;have:=b4.size;omega));obtain⟨⟨_,_,_,rfl⟩,⟨_,_,_,rfl⟩,⟨_,_,_,rfl⟩,⟨_,_,_,rfl⟩⟩:=O4.Ex;clear E0 E1 E2 E3 O4 b4 B4 ey kZ gv x0 x1 x2 x3
 rotate_left
 all_goals
  go_wp2_with fail;exact yC (v:=.tuple #[.agg #[_,_,_,_],_,_]) (by simp[results,Tryz.results20,go_sem,HE.out]) rfl ⟨_,_,_,_,rfl,lZ.out,ji.out⟩
def KR(w:World)(m i e c s l q:Value)(P:AR):Prop:=Le w m i e c P.Vw/\Bf w s P.swap/\Ax w l P.low/\BG 3 DI w q P.Xx
structure Fh(lo:Nat)(w:World)(m i e c s l q:Value)(P:AR):Prop where
 ker:Dh lo w m i e c P.Vw
 swp:∃vs,Az lo w s vs P.swap
 low:AG lo w l P.low
 pgs:AO lo 74 3 DI w q P.Xx
 apart:GD m s
structure JR(lo g:Nat)(w:World)(m i e c s l q:Value)(P:AR):Prop where
 yV:w.heap[g]?=some (.cells #[m,i,e,c,s,l,q,.int .i64 P.Il,.int .i64 P.UQ] 32 (0,0))
 yU:lo<=g
 own:Fh lo w m i e c s l q P
section
variable {lo g:Nat} {w w':World} {m i e c s l q:Value} {P:AR}
theorem KR.below(h:KR w m i e c s l q P)(A:Below w.heap.size w w'):KR w' m i e c s l q P:=⟨h.1.below A,h.2.1.below A,h.2.2.1.below A,BG.below h.2.2.2 A⟩
theorem Fh.rd(h:Fh lo w m i e c s l q P):KR w m i e c s l q P:=⟨h.ker.rd,h.swp.choose_spec.rd,h.low.rd,h.pgs.rd⟩
theorem Fh.below(h:Fh lo w m i e c s l q P)(A:Below w.heap.size w w'):Fh lo w' m i e c s l q P:=⟨h.ker.below A,⟨_,h.swp.choose_spec.below A⟩,h.low.below A,h.pgs.below A,h.apart⟩
theorem Fh.lower{lo':Nat}(h:Fh lo w m i e c s l q P)(hl:lo'<=lo):Fh lo' w m i e c s l q P:=⟨h.ker.lower hl,⟨_,h.swp.choose_spec.lower hl⟩,BZ h.low hl,BZ h.pgs hl,h.apart⟩
theorem Fh.yW{g T:Nat}{cs:Array Value}{fr:Nat×Nat}(h:Fh lo w m i e c s l q P)(K:w.grownBy w' (some g))(hB:w.heap[g]?=some (.cells cs T fr))
 (N:29≠T:=by decide)(V:3≠T:=by decide)(h3:91≠T:=by decide)(h4:66≠T:=by decide)(h5:9≠T:=by decide)(h6:96≠T:=by decide)(h7:74≠T:=by decide):Fh lo w' m i e c s l q P:=
 ⟨h.ker.yW K hB N V h3 h4 h5 h6,⟨_,h.swp.choose_spec.yW K hB N V⟩,FR h.low K hB V,h.pgs.yW K hB h7,h.apart⟩
theorem JR.below(h:JR lo g w m i e c s l q P)(A:Below w.heap.size w w'):JR lo g w' m i e c s l q P:=⟨AB h.yV A,h.yU,h.own.below A⟩
theorem AD{t:Nat}{a0 a1 a2 a3 a4 a5 a6 a7 a8:Value}(h:w.heap[g]?=some (.cells #[a0,a1,a2,a3,a4,a5,a6,a7,a8] t (0,0))):
 w.cell? ⟨g,0,none⟩=some a0/\w.cell? ⟨g,1,none⟩=some a1/\w.cell? ⟨g,2,none⟩=some a2/\w.cell? ⟨g,3,none⟩=some a3/\w.cell? ⟨g,4,none⟩=some a4/\w.cell? ⟨g,5,none⟩=some a5/\w.cell? ⟨g,6,none⟩=some a6/\w.cell? ⟨g,7,none⟩=some a7/\w.cell? ⟨g,8,none⟩=some a8:=
 ⟨yz w g 0 _ _ _ h,yz w g 1 _ _ _ h,yz w g 2 _ _ _ h,yz w g 3 _ _ _ h,yz w g 4 _ _ _ h,yz w g 5 _ _ _ h,yz w g 6 _ _ _ h,yz w g 7 _ _ _ h,yz w g 8 _ _ _ h⟩
theorem JR.cells(h:JR lo g w m i e c s l q P):w.cell? ⟨g,0,none⟩=some m/\w.cell? ⟨g,1,none⟩=some i/\w.cell? ⟨g,2,none⟩=some e/\w.cell? ⟨g,3,none⟩=some c/\w.cell? ⟨g,4,none⟩=some s/\w.cell? ⟨g,5,none⟩=some l/\w.cell? ⟨g,6,none⟩=some q/\w.cell? ⟨g,7,none⟩=some (.int .i64 P.Il)/\w.cell? ⟨g,8,none⟩=some (.int .i64 P.UQ):=AD h.yV
theorem Iv{t:Nat}{a0 a1 a2 a3 a4 a5 a6 a7 a8 m' i' e' c':Value}(h:w.heap[g]?=some (.cells #[a0,a1,a2,a3,a4,a5,a6,a7,a8] t (0,0))):
 ((((w.setCell ⟨g,0,none⟩ m').setCell ⟨g,1,none⟩ i').setCell ⟨g,2,none⟩ e').setCell ⟨g,3,none⟩ c').heap[g]?=some (.cells #[m',i',e',c',a4,a5,a6,a7,a8] t (0,0)):=by
 have h0:=yF w g 0 _ t m' h;have N:=yF _ g 1 _ t i' h0;have V:=yF _ g 2 _ t e' N;have h3:=yF _ g 3 _ t c' V;simpa using h3
theorem JR.put{m' i' e' c':Value}{k':AN}{B:Nat}{w1:World}(h:JR lo g w m i e c s l q P)(A:Below w.heap.size w w1)(hB:w.heap.size<=B)(dn:lo<=w.heap.size)(ho:Dh B w1 m' i' e' c' k'):
 JR lo g ((((w1.setCell ⟨g,0,none⟩ m').setCell ⟨g,1,none⟩ i').setCell ⟨g,2,none⟩ e').setCell ⟨g,3,none⟩ c') m' i' e' c' s l q {P with Vw:=k'}:=by
 have h':=h.below A;have ey:=Aq w1 g m' i' e' c';have O':=ho.yW ey h'.yV;have F:=h'.own.yW ey h'.yV;refine⟨Iv h'.yV,h.yU,⟨O'.lower (yL dn hB),F.swp,F.low,F.pgs,λb br bk=>?_⟩⟩;obtain⟨L,r1⟩:=ho.1;obtain⟨us,r2⟩:=h.own.swp;have:=(yB r1.1 b br).1;have:=(yB r2.1 b bk).2;omega
end
def Mm(lo:Nat)(b:Bool)(v:Value)(w:World)(k:AN):Prop:=∃q,v=.pointer (some ⟨q,0,none⟩)/\lo<=q/\if b=true then ∃m i e c,w.heap[q]?=some (.cells #[m,i,e,c] 28 (0,0))/\Dh lo w m i e c k else w.heap[q]?=some (.cells #[.slice none 0 0,.slice none 0 0,.slice none 0 0,.slice none 0 0] 28 (0,0))
theorem Mm.below{lo:Nat}{b:Bool}{w w':World}{k:AN}(h:Mm lo b v w k)(A:Below w.heap.size w w'):Mm lo b v w' k:=by
 obtain⟨q,h0,N,V⟩:=h;refine⟨q,h0,N,?_⟩;cases b
 .exact AB V A
 .obtain⟨m,i,e,c,h3,h4⟩:=V
  exact⟨m,i,e,c,AB h3 A,h4.below A⟩
def IW(lo:Nat)(v:Value)(w:World)(k:AN):Prop:=∃m i e c,v=.agg #[m,i,e,c]/\Dh lo w m i e c k
theorem IW.below{lo:Nat}{w w':World}{k:AN}(h:IW lo v w k)(A:Below w.heap.size w w'):IW lo v w' k:=by obtain⟨m,i,e,c,N,V⟩:=h;exact⟨m,i,e,c,N,V.below A⟩
theorem IW.yW{lo g:Nat}{w w':World}{k:AN}{cs:Array Value}{fr:Nat×Nat}(h:IW lo v w k)(K:w.grownBy w' (some g))(hB:w.heap[g]?=some (.cells cs 28 fr)):IW lo v w' k:=by obtain⟨m,i,e,c,N,V⟩:=h;exact⟨m,i,e,c,N,V.yW K hB⟩
def Jo(k:AN):Prop:=Ib k.Xy/\∀j,j<k.V3.length->DH (AF k.V3 j).Tj
def V6(k:AN):Prop:=Jo k/\k.Xy.length<=12
theorem KS(m i e c:Value)(k:AN)(w:World)(h:Le w m i e c k)(hs:Jo k):
 Calls prog 26 #[.agg #[m,i,e,c]] w λe w'=>e=.returned (.bool (Cr k))/\Below w.heap.size w w':=by
 obtain⟨N,V,h3,h4⟩:=h;obtain⟨N0,bp⟩:=EH w (.cells #[m,i,e,c] 28);have fW:=AW N0;replace N:=N.below bp;replace V:=V.below bp;replace h3:=h3.below bp;replace h4:=h4.below bp;have Hs:=AA hs;obtain⟨am,cm,rfl,_⟩:=N.open;obtain⟨ai,ci,rfl,_,_⟩:=V.shape;obtain⟨ae,ce,rfl,fz,nf,l7⟩:=h3.open;obtain⟨ac,cc,rfl,fS,nh⟩:=h4.shape;obtain⟨x0,x1,x2,x3⟩:=AE N0;go_in;go_wp2_with fail;generalize w.alloc _=W0 at*;have b9:=AA bp;have HN:=AA N0;have H1:=AA N;have H2:=AA V;have HE:=AA l7;have H4:=AA h4;have lT:=AA fW;clear hs h3 l7 N V h4 N0 bp;have C1:=AA (λW (R:Below W0.heap.size W0 W)=>IX _ k.mem W (H1.out.below R));have C2:=AA (λW (R:Below W0.heap.size W0 W)=>DV _ k.Xy W (BG.below H2.out R) Hs.out.1);have C3:=AA (λW (R:Below W0.heap.size W0 W)=>JH _ k.V0 W (BG.below H4.out R));have A:=yO W0.heap.size W0;cases e1:Bq k.mem
 .have S:=AA (Zj e1)
  have T:=AA e1;clear e1 x1 x2 x3;refine(C1.out _ A).mono ?_;rintro e w1 ⟨rfl,br⟩;rw[T.out];go_wp2_with fail;go_ret;exact⟨AI S.out.symm,b9.out.trans (br.mono b9.out.size)⟩
 .have T1:=AA e1
  clear e1 x0 x1 x2 x3 fW;refine(C1.out _ A).mono ?_;rintro e w1 ⟨rfl,br⟩;rw[T1.out];replace A:=br;clear br;have x1:=(AE (AB HN.out A)).2.1;go_wp2_with fail;cases e2:A8 k.Xy
  .have S:=AA (WZ e2)
   have T:=AA e2;clear e2;refine(C2.out _ A).mono ?_;rintro e w1 ⟨rfl,br⟩;rw[T.out];replace A:=A.trans (br.mono A.size);go_wp2_with fail;go_ret;exact⟨AI S.out.symm,b9.out.trans (A.mono b9.out.size)⟩
  .have T2:=AA e2
   clear e2 x1;refine(C2.out _ A).mono ?_;rintro e w1 ⟨rfl,br⟩;rw[T2.out];replace A:=A.trans (br.mono A.size);clear br;have x3:=(AE (AB HN.out A)).2.2.2;go_wp2_with fail;cases e3:Bd k.V0
   .have S:=AA (WY e3)
    have T:=AA e3;clear e3;refine(C3.out _ A).mono ?_;rintro e w1 ⟨rfl,br⟩;rw[T.out];replace A:=A.trans (br.mono A.size);go_wp2_with fail;go_ret;exact⟨AI S.out.symm,b9.out.trans (A.mono b9.out.size)⟩
   .have T3:=AA e3
    clear e3 x3;refine(C3.out _ A).mono ?_;rintro e w1 ⟨rfl,br⟩;rw[T3.out];replace A:=A.trans (br.mono A.size);clear br;have x0:=(AE (AB HN.out A)).1;have x1:=(AE (AB HN.out A)).2.1;have x2:=(AE (AB HN.out A)).2.2.1
    by_cases e4:k.V3.length=3
    .have T4:=AA e4
     have n4:((k.V3.length:Int) !=3)=false:=by simp;omega
     have du:=AA (A1.1 T2.out).1;have C:=AA (λW (R:Below W0.heap.size W0 W)=>Uy _ _ k.mem k.Xy W (H1.out.below R) T1.out (BG.below H2.out R) du.out);clear e4;go_wp2_with fail;refine(C.out _ A).mono ?_;rintro e w1 ⟨v',rfl,hO,br⟩;rw[<-TI] at hO;replace hO:=BZ hO A.size;replace A:=A.trans (br.mono A.size);clear br x0 x1 x2;have x2:=(AE (AB HN.out A)).2.2.1;obtain⟨gr,ew,rfl,fE,iI⟩:=Jj hO (by rw[EF];omega);have iS:Hid (AG W0.heap.size w1 (.slice (some ⟨gr,0,none⟩) 12 ew) (Ew k 0)):=AA (by have:=hO;rw[EF] at this;exact this);rw[EF];clear hO iI;go_wp2_with fail;have br:=AA A;clear x2 A n4;go_loopw [43] (λi wr=>∃j:Nat,j<=k.V3.length/\i=.int .i64 j/\(∀j',j'<j->EI k (AF k.V3 j')=true)/\AG W0.heap.size wr (.slice (some ⟨gr,0,none⟩) 12 ew) (Ew k j)/\Below W0.heap.size W0 wr) (λi _=>k.V3.length - (intOf i).toNat)
     exact⟨0,yu _,rfl,λj E=>absurd E (xW _),iS.out,br.out⟩
     obtain⟨j,E,rfl,ab,hO,be⟩:=hrel;have au:=AA ab;clear ab
     by_cases av:j<k.V3.length
     .obtain⟨b,bl,ua,uc,rfl,bx,D0,D1,RR⟩:=HE.out j av
      replace D0:=(be.cell (p:=⟨b,bl+j*2,none⟩) bx).trans D0;replace D1:=(be.cell (p:=⟨b,bl+j*2+1,none⟩) bx).trans D1;obtain⟨h1,eZ⟩:=EH wr (.cells #[.slice ua (AF k.V3 j).Tj.length uc,.int .i64 (AF k.V3 j).root] 66);have HO:=AA (AG.below hO eZ);have lx:(j:Int)<k.V3.length:=by omega
      have j3:j<3:=by have:=T4.out;omega
      have oJ:=AA E;clear hO E;go_wp2_with fail;generalize wr.alloc _=wa at*;have eu:=be.trans (eZ.mono be.size);have y0:wa.cell? ⟨wr.heap.size,0,none⟩=some (.slice ua (AF k.V3 j).Tj.length uc):=yz _ _ 0 _ _ _ h1;have y1:wa.cell? ⟨wr.heap.size,1,none⟩=some (.int .i64 (AF k.V3 j).root):=yz _ _ 1 _ _ _ h1;have fl:=AW h1;have es:=yv lT.out eu.size;have x0:=(AE (AB HN.out eu)).1;have x1:=(AE (AB HN.out eu)).2.1;have cl:=AA eu;have HR:=AA RR;clear D0 D1 h1 eZ be eu RR;have gO:=λW (R:Below wa.heap.size wa W)=>Gh _ (AF k.V3 j).Tj W (BG.below (BG.below HR.out cl.out) R) (Hs.out.2 j av)
      cases e5:BS (AF k.V3 j).Tj
      .rw[e5] at gO
       have CR:=AA gO;have CF:=AA True.intro;have S:=AA (NU av (show EI k (AF k.V3 j)=false by simp[EI,e5]));clear gO e5;refine Ac 35 170 [.p wr.heap.size 0,.v (.slice ua (AF k.V3 j).Tj.length uc),.b false,.b true,.b true,.u,.u,.u,.u,.u,.u,.u,.u,.u,.u,.u,.u,.u,.u,.u,.u,.u,.u,.u,.b true,.b true,.u,.u,.u,.u,.u,.u,.u,.u,.u] (λ_ _ _=>True) ?_ ?_
       .intro i H o O a wx Y J Z hg z
        match i,H with
        |0,_|3,_|4,_|24,_|25,_=>exact sP O z Y J
        |1,_=>exact sL O z Y J (hl:=KN (bc Z fl y0))
        |2,_=>exact sD O z Y J (CR.out _ Z)
        |5,_|6,_|7,_|8,_|9,_|10,_|12,_|13,_|14,_|15,_|16,_|17,_|18,_|19,_|20,_|21,_|22,_|23,_|26,_|27,_|28,_|29,_|30,_|31,_|32,_|33,_|34,_=>exact sB O z J
        |11,_=>obtain rfl:=yQ O;have d8:(a.tmps[55]?.getD undef)=undef:=BY J 8;clear J Y;exact AY.un rfl rfl d8 (z.out _ _ rfl (yO _ _))
        |_+35,hq=>omega
       .intro L wx hR Z
        have eJ:(L 25)=.bool true:=Bg hR 25;have eI:(L 34)=undef:=Bg hR 34;clear hR;simp only[Aj,Ag,yN,yJ,yK,yI,eJ,eI];simp;clear eJ eI;have bY:=cl.out.trans (Z.mono cl.out.size);clear Z;go_wp2_with fail;go_ret;exact⟨AI S.out.symm,b9.out.trans (bY.mono b9.out.size)⟩
      .rw[e5] at gO
       have CR:=AA gO;have E5:=AA e5;clear gO e5
       by_cases e6:(AF k.V3 j).root= -1
       .have E6:=AA e6
        have t6:((AF k.V3 j).root != -1)=false:=by simp[e6]
        rw[e6] at y1;have ov:((-1:Int) != -1)=false:=rfl;have CF:=AA True.intro;have CX:=AA (λW (R:Below wa.heap.size wa W)=>PM _ k.mem (-1) W ((H1.out.below cl.out).below R) (by omega));have fU:=x1;have CA:=AA (λW (R:Below wa.heap.size wa W) v2 ts (V:Ax W v2 (A4 ts)) (hm:∀g,g∈ts↔g∈Ba k.mem (-1))=>It w.heap.size _ v2 _ (AF k.V3 j).Tj ts k.Xy W ((R.cell (p:=⟨w.heap.size,1,none⟩) es).trans fU) (BG.below (BG.below HR.out cl.out) R) (BG.below (BG.below H2.out cl.out) R) V (λf hf=>by have:=(Dl.1 ((hm f).1 hf)).1;omega));clear fU e6;replace CA:=AA (λW (R:Below wa.heap.size wa W) v2 ts (V:Ax W v2 (A4 ts)) (hm:∀g,g∈ts↔g∈Ba k.mem (-1))=>by have:=CA.out W R v2 ts V hm;rw[FO hm] at this;exact this);have gI:Hid (BI k.Xy (Ba k.mem (-1)) (AF k.V3 j).Tj=true):=AA (by simp[BI,Ba]);rw[gI.out] at CA;have S:=AA (show EI k (AF k.V3 j)=true by simp only[EI,E5.out,E6.out,gI.out];rfl);have vs:=AA (Xp av (show(AF k.V3 j).root<0 by rw[E6.out];omega));clear gI;refine A5 35 170 [.p wr.heap.size 0,.v (.slice ua (AF k.V3 j).Tj.length uc),.b true,.b false,.b false,.p wr.heap.size 1,.i (-1),.b false,.b false,.u,.u,.u,.u,.u,.u,.u,.u,.u,.u,.u,.u,.u,.u,.b false,.b false,.b false,.p wr.heap.size 0,.v (.slice ua (AF k.V3 j).Tj.length uc),.p w.heap.size 0,.v (.slice am k.mem.length cm),.p wr.heap.size 1,.i (-1),.z,.b true,.b false] (λix vv ww=>match ix with
         |32=>Ey wa.heap.size k.mem (-1) ww vv
         |_=>True) ?_ ?_ ?_
        .intro i H o O a wx Y J Z hg z
         have bB:=bc Z fl y0;have bs:=bc Z fl y1;have bX:=bc Z es x0
         match i,H with
         |0,_|3,_|4,_|5,_|8,_|23,_|24,_|25,_|26,_|28,_|30,_|34,_=>exact sP O z Y J
         |1,_|27,_=>exact sL O z Y J (hl:=KN ‹_›)
         |2,_=>exact sD O z Y J (CR.out _ Z)
         |6,_|31,_=>exact sL O z Y J (hl:=Fy ‹_›)
         |9,_|10,_|12,_|13,_|14,_|15,_|16,_|17,_|18,_|19,_|20,_|21,_|22,_=>exact sB O z J
         |29,_=>exact sL O z Y J (hl:=GQ ‹_›)
         |32,_=>exact sC O z Y J (CX.out _ Z) (by rintro e w_ ⟨v',ts,rfl,hO,dr,_,bk⟩;exact⟨_,rfl,⟨ts,BZ hO Z.size,dr⟩,bk⟩)
         |7,_=>clear bB bs bX;obtain rfl:=yQ O;have d6:(a.tmps[53]?.getD undef)=.int .i64 (-1):=BY J 6;have d4:(a.tmps[51]?.getD undef)=.bool false:=BY J 4;clear J Y;refine AY.yes rfl rfl d4 ?_;go_simp;exact z.out _ _ rfl (yO _ _)
         |11,_=>clear bB bs bX;obtain rfl:=yQ O;have d8:(a.tmps[55]?.getD undef)=.bool false:=BY J 8;clear J Y;exact AY.no rfl rfl d8 (z.out _ _ rfl (yO _ _))
         |33,_=>clear bB bs bX;obtain rfl:=yQ O;have e1:a.tmps[1]?.getD undef=.pointer (some ⟨w.heap.size,0,none⟩):=eg (PV Y 1);have nA:(a.tmps[74]?.getD undef)=.slice ua (AF k.V3 j).Tj.length uc:=BY J 27;have ik:Ey wa.heap.size k.mem (-1) wx (a.tmps[79]?.getD undef):=BY J 32;have kI:(a.tmps[72]?.getD undef)=.bool false:=BY J 25;clear J Y;generalize e79:a.tmps[79]?.getD undef=v2 at ik;obtain⟨ts,hO,dr⟩:=ik;have kX:=CA.out wx Z v2 ts (AG.rd hO) dr;refine AY.yes rfl rfl kI ?_;go_simp;refine kX.mono ?_;rintro e w_ ⟨rfl,bk⟩;exact z.out _ _ rfl bk
         |_+35,hq=>omega
        .intro i H vv wz fI dw hz
         match i,H with
         |32,_=>exact(Ey.below hz dw)
         |0,_|1,_|2,_|3,_|4,_|5,_|6,_|7,_|8,_|9,_|10,_|11,_|12,_|13,_|14,_|15,_|16,_|17,_|18,_|19,_|20,_|21,_|22,_|23,_|24,_|25,_|26,_|27,_|28,_|29,_|30,_|31,_|33,_|34,_=>exact hz
         |_+35,hq=>omega
        .intro L wx hR Z
         have eJ:(L 25)=.bool false:=Bg hR 25;have eI:(L 34)=.bool false:=Bg hR 34;clear hR;simp only[Aj,Ag,yN,yJ,yK,yI,eJ,eI];simp;clear eJ eI;have bY:=cl.out.trans (Z.mono cl.out.size);replace y1:=(Z.cell (p:=⟨wr.heap.size,1,none⟩) fl).trans y1;have eG:=AA (AG.below HO.out Z);clear Z x0 x1 y0;go_wp2_with fail;go_roundw;exact⟨j+1,by omega,by go_num,Al au.out S.out,by rw[vs.out];exact eG.out,bY⟩;simp[intOf];omega
       .have t6:((AF k.V3 j).root != -1)=true:=by simp[e6]
        have gt:=λW (_:Below wa.heap.size wa W)=>A3 (Dk (AF k.V3 j).root W)
        cases e7:Bh (AF k.V3 j).root 0 11
        .rw[e7] at gt
         have CF:=AA gt;have S:=AA (NU av (show EI k (AF k.V3 j)=false by simp[EI,e6,e7]));clear gt e6 e7;refine Ac 35 170 [.p wr.heap.size 0,.v (.slice ua (AF k.V3 j).Tj.length uc),.b true,.b false,.b false,.p wr.heap.size 1,.i ((AF k.V3 j).root),.b true,.b true,.p wr.heap.size 1,.i ((AF k.V3 j).root),.b false,.b true,.b true,.u,.u,.u,.u,.u,.u,.u,.u,.b true,.b true,.b true,.b true,.u,.u,.u,.u,.u,.u,.u,.u,.u] (λ_ _ _=>True) ?_ ?_
         .intro i H o O a wx Y J Z hg z
          have bB:=bc Z fl y0;have bs:=bc Z fl y1
          match i,H with
          |0,_|3,_|4,_|5,_|8,_|9,_|12,_|13,_|22,_|23,_|24,_|25,_=>exact sP O z Y J
          |1,_=>exact sL O z Y J (hl:=KN ‹_›)
          |2,_=>exact sD O z Y J (CR.out _ Z)
          |6,_|10,_=>exact sL O z Y J (hl:=Fy ‹_›)
          |11,_=>exact sD O z Y J (CF.out _ Z)
          |14,_|15,_|16,_|17,_|18,_|19,_|20,_|21,_|26,_|27,_|28,_|29,_|30,_|31,_|32,_|33,_|34,_=>exact sB O z J
          |7,_=>clear bB bs;obtain rfl:=yQ O;have d6:(a.tmps[53]?.getD undef)=.int .i64 ((AF k.V3 j).root):=BY J 6;have d4:(a.tmps[51]?.getD undef)=.bool false:=BY J 4;clear J Y;refine AY.yes rfl rfl d4 ?_;go_simp;exact z.out _ _ rfl (yO _ _)
          |_+35,hq=>omega
         .intro L wx hR Z
          have eJ:(L 25)=.bool true:=Bg hR 25;have eI:(L 34)=undef:=Bg hR 34;clear hR;simp only[Aj,Ag,yN,yJ,yK,yI,eJ,eI];simp;clear eJ eI;have bY:=cl.out.trans (Z.mono cl.out.size);clear Z;go_wp2_with fail;go_ret;exact⟨AI S.out.symm,b9.out.trans (bY.mono b9.out.size)⟩
        .rw[e7] at gt
         obtain⟨r,hr⟩:∃r:Nat,(AF k.V3 j).root=(r:Int):=⟨(AF k.V3 j).root.toNat,by have:=(AZ.1 e7).1;omega⟩
         have eA:r<12:=by have:=(AZ.1 e7).2;omega
         have E7:=AA (yk e6 e7);rw[hr] at gt t6 y1;have CF:=AA gt;have Hr:=AA hr;clear gt e6 e7 hr;have mN:(r:Int)<k.Xy.length:=by have:=du.out;omega
         obtain⟨a9,c9,ev,_,_,iB⟩:=BG.open Av (by decide) (BG.below H2.out cl.out);cases ev;obtain⟨bi,bf,rfl,cu,kB,_,_⟩:=iB.Dq (show r<k.Xy.length by have:=du.out;omega);clear iB
         by_cases e8:(Sc k.Xy r).k=3
         .have t8:((Sc k.Xy r).k !=3)=false:=by simp[e8]
          have CX:=AA (λW (R:Below wa.heap.size wa W)=>PL _ k.mem r W ((H1.out.below cl.out).below R) T1.out eA);have fU:=x1;have CA:=AA (λW (R:Below wa.heap.size wa W) v2 ts (V:Ax W v2 (A4 ts)) (hm:∀g,g∈ts↔g∈Ba k.mem (r:Int))=>by have:=It w.heap.size _ v2 _ (AF k.V3 j).Tj ts k.Xy W ((R.cell (p:=⟨w.heap.size,1,none⟩) es).trans fU) (BG.below (BG.below HR.out cl.out) R) (BG.below (BG.below H2.out cl.out) R) V (λf hf=>by have:=zH (root:=(r:Int)) (by omega) f ((hm f).1 hf);have:=du.out;omega);rw[FO hm] at this;exact this);clear fU;have E8:=AA e8;clear e8;generalize gI:BI k.Xy (Ba k.mem (r:Int)) (AF k.V3 j).Tj=bb at CA;have l8:=AA gI;clear gI;refine A5 35 170 [.p wr.heap.size 0,.v (.slice ua (AF k.V3 j).Tj.length uc),.b true,.b false,.b false,.p wr.heap.size 1,.i ((r:Int)),.b true,.b true,.p wr.heap.size 1,.i ((r:Int)),.b true,.b false,.b false,.p w.heap.size 1,.v (.slice (some ⟨bi,bf,none⟩) k.Xy.length ci),.p wr.heap.size 1,.i ((r:Int)),.p bi (bf+r*3),.p bi (bf+r*3),.i ((Sc k.Xy r).k),.b false,.b false,.b false,.b false,.b false,.p wr.heap.size 0,.v (.slice ua (AF k.V3 j).Tj.length uc),.p w.heap.size 0,.v (.slice am k.mem.length cm),.p wr.heap.size 1,.i ((r:Int)),.z,.b bb,.b (!bb)] (λix vv ww=>match ix with
           |32=>Ey wa.heap.size k.mem ((r:Int)) ww vv
           |_=>True) ?_ ?_ ?_
          .intro i H o O a wx Y J Z hg z
           have bB:=bc Z fl y0;have bs:=bc Z fl y1;have bX:=bc Z es x1;have dq:=bc Z cu kB;have eK:=bc Z es x0
           match i,H with
           |0,_|3,_|4,_|5,_|8,_|9,_|12,_|13,_|14,_|16,_|19,_|22,_|23,_|24,_|25,_|26,_|28,_|30,_|34,_=>exact sP O z Y J
           |1,_|27,_=>exact sL O z Y J (hl:=KN ‹_›)
           |2,_=>exact sD O z Y J (CR.out _ Z)
           |6,_|10,_|17,_|20,_|31,_=>exact sL O z Y J (hl:=Fy ‹_›)
           |11,_=>exact sD O z Y J (CF.out _ Z)
           |15,_=>exact sL O z Y J (hl:=GV ‹_›)
           |18,_=>exact sI O z Y J (hr:=by clear J Y z;go_simp)
           |29,_=>exact sL O z Y J (hl:=GQ ‹_›)
           |32,_=>exact sC O z Y J (CX.out _ Z) (by rintro e w_ ⟨v',ts,rfl,hO,dr,_,bk⟩;exact⟨_,rfl,⟨ts,BZ hO Z.size,dr⟩,bk⟩)
           |7,_=>clear bB bs bX dq eK;obtain rfl:=yQ O;have d6:(a.tmps[53]?.getD undef)=.int .i64 r:=BY J 6;have d4:(a.tmps[51]?.getD undef)=.bool false:=BY J 4;clear J Y;refine AY.yes rfl rfl d4 ?_;go_simp;exact z.out _ _ rfl (yO _ _)
           |21,_=>clear bB bs bX dq eK;obtain rfl:=yQ O;have nC:(a.tmps[67]?.getD undef)=.int .i64 ((Sc k.Xy r).k):=BY J 20;have gK:(a.tmps[60]?.getD undef)=.bool false:=BY J 13;clear J Y;refine AY.yes rfl rfl gK ?_;go_simp;exact z.out _ _ rfl (yO _ _)
           |33,_=>clear bB bs bX dq eK;obtain rfl:=yQ O;have e1:a.tmps[1]?.getD undef=.pointer (some ⟨w.heap.size,0,none⟩):=eg (PV Y 1);have nA:(a.tmps[74]?.getD undef)=.slice ua (AF k.V3 j).Tj.length uc:=BY J 27;have ik:Ey wa.heap.size k.mem ((r:Int)) wx (a.tmps[79]?.getD undef):=BY J 32;have kI:(a.tmps[72]?.getD undef)=.bool false:=BY J 25;clear J Y;generalize e79:a.tmps[79]?.getD undef=v2 at ik;obtain⟨ts,hO,dr⟩:=ik;have kX:=CA.out wx Z v2 ts (AG.rd hO) dr;refine AY.yes rfl rfl kI ?_;go_simp;refine kX.mono ?_;rintro e w_ ⟨rfl,bk⟩;exact z.out _ _ rfl bk
           |_+35,hq=>omega
          .intro i H vv wz fI dw hz
           match i,H with
           |32,_=>exact(Ey.below hz dw)
           |0,_|1,_|2,_|3,_|4,_|5,_|6,_|7,_|8,_|9,_|10,_|11,_|12,_|13,_|14,_|15,_|16,_|17,_|18,_|19,_|20,_|21,_|22,_|23,_|24,_|25,_|26,_|27,_|28,_|29,_|30,_|31,_|33,_|34,_=>exact hz
           |_+35,hq=>omega
          .intro L wx hR Z
           have eJ:(L 25)=.bool false:=Bg hR 25;have eI:(L 34)=.bool (!bb):=Bg hR 34;clear hR;simp only[Aj,Ag,yN,yJ,yK,yI,eJ,eI];simp;clear eJ eI;have bY:=cl.out.trans (Z.mono cl.out.size);replace y1:=(Z.cell (p:=⟨wr.heap.size,1,none⟩) fl).trans y1;have eG:=AG.below HO.out Z;clear Z x0 x1 y0 kB;cases bb
           .have S:=AA (NU av (show EI k (AF k.V3 j)=false by simp only[EI,Hr.out,l8.out,Bool.and_false]))
            clear eG;go_wp2_with fail;go_ret;exact⟨AI S.out.symm,b9.out.trans (bY.mono b9.out.size)⟩
           .have S:=AA (show EI k (AF k.V3 j)=true by
             have e7:=E7.out.2;rw[Hr.out] at e7;simp only[EI,E5.out,Hr.out,l8.out,e7,yq,E8.out];simp)
            have vs:=AA (Vc av Hr.out eA);obtain⟨s1,s2⟩:=Qx (k:=k) (j:=j) T1.out T4.out eA;have bC:wx.ownsRow W0.heap.size 3 1 (.slice (some ⟨gr,0,none⟩) 12 ew) 12 ((Ew k j).map (ym .i64)):=by have:=eG;unfold AG at this;rwa [EF] at this
            have C:=(bC.cellAt r (by omega)).trans (Fv (xs:=Ew k j) (by rw[EF];exact eA));have Fr:=bC.frozenAt r;have S2:=AA (bC.stored r (.int .i64 (nth (Ew k j) r+1)));have r0:(0:Int)<=r:=by omega
            have ox:(r:Int)<12:=by omega
            have m0:=fE;have lU:Hid (W0.heap.size<=gr):=AA (bC.lt gr rfl).1;clear eG bC;generalize nth (Ew k j) r=nn at*;go_wp2_with fail;go_roundw
            case rel=>refine⟨j+1,by omega,by go_num,Al au.out S.out,?_,AM bY S2.out.2 lU.out bY.size⟩;rw[vs.out];unfold AG;rw[yi,EF,vj];exact S2.out.1
            case measure=>simp[intOf];omega
         .have t8:((Sc k.Xy r).k !=3)=true:=by simp[e8]
          have S:=AA (NU av (show EI k (AF k.V3 j)=false by simp[EI,Hr.out,e8]));clear e8;refine Ac 35 170 [.p wr.heap.size 0,.v (.slice ua (AF k.V3 j).Tj.length uc),.b true,.b false,.b false,.p wr.heap.size 1,.i ((r:Int)),.b true,.b true,.p wr.heap.size 1,.i ((r:Int)),.b true,.b false,.b false,.p w.heap.size 1,.v (.slice (some ⟨bi,bf,none⟩) k.Xy.length ci),.p wr.heap.size 1,.i ((r:Int)),.p bi (bf+r*3),.p bi (bf+r*3),.i ((Sc k.Xy r).k),.b true,.b true,.b true,.b true,.b true,.u,.u,.u,.u,.u,.u,.u,.u,.u] (λ_ _ _=>True) ?_ ?_
          .intro i H o O a wx Y J Z hg z
           have bB:=bc Z fl y0;have bs:=bc Z fl y1;have bX:=bc Z es x1;have dq:=bc Z cu kB
           match i,H with
           |0,_|3,_|4,_|5,_|8,_|9,_|12,_|13,_|14,_|16,_|19,_|22,_|23,_|24,_|25,_=>exact sP O z Y J
           |1,_=>exact sL O z Y J (hl:=KN ‹_›)
           |2,_=>exact sD O z Y J (CR.out _ Z)
           |6,_|10,_|17,_|20,_=>exact sL O z Y J (hl:=Fy ‹_›)
           |11,_=>exact sD O z Y J (CF.out _ Z)
           |15,_=>exact sL O z Y J (hl:=GV ‹_›)
           |18,_=>exact sI O z Y J (hr:=by clear J Y z;go_simp)
           |26,_|27,_|28,_|29,_|30,_|31,_|32,_|33,_|34,_=>exact sB O z J
           |7,_=>clear bB bs bX dq;obtain rfl:=yQ O;have d6:(a.tmps[53]?.getD undef)=.int .i64 r:=BY J 6;have d4:(a.tmps[51]?.getD undef)=.bool false:=BY J 4;clear J Y;refine AY.yes rfl rfl d4 ?_;go_simp;exact z.out _ _ rfl (yO _ _)
           |21,_=>clear bB bs bX dq;obtain rfl:=yQ O;have nC:(a.tmps[67]?.getD undef)=.int .i64 ((Sc k.Xy r).k):=BY J 20;have gK:(a.tmps[60]?.getD undef)=.bool false:=BY J 13;clear J Y;refine AY.yes rfl rfl gK ?_;go_simp;exact z.out _ _ rfl (yO _ _)
           |_+35,hq=>omega
          .intro L wx hR Z
           have eJ:(L 25)=.bool true:=Bg hR 25;have eI:(L 34)=undef:=Bg hR 34;clear hR;simp only[Aj,Ag,yN,yJ,yK,yI,eJ,eI];simp;clear eJ eI;have bY:=cl.out.trans (Z.mono cl.out.size);clear Z;go_wp2_with fail;go_ret;exact⟨AI S.out.symm,b9.out.trans (bY.mono b9.out.size)⟩
     .obtain rfl:j=k.V3.length:=by omega
      have l4:=AA (λj (E:j<3)=>au.out j (by have:=T4.out;omega));have nq:Hid (AG W0.heap.size wr (.slice (some ⟨gr,0,none⟩) 12 ew) (Ew k 3)):=AA (by have:=hO;rwa [T4.out] at this);have x1:=(AE (AB HN.out be)).2.1;have lU:Hid (gr<wr.heap.size):=AA (yB hO gr rfl).2;have bk:=AA be;clear hO be au;go_wp2_with fail;clear x1;obtain⟨wq,rfl⟩:∃wq:World,wq=wr:=⟨_,rfl⟩
      go_loopw [97] (λi wr=>∃f:Nat,f<=k.Xy.length/\i=.int .i64 f/\(∀f',f'<f->Dp k f'=true/\IB k f'=true)/\AG W0.heap.size wr (.slice (some ⟨gr,0,none⟩) 12 ew) (Ew k 3)/\Below W0.heap.size W0 wr) (λi _=>k.Xy.length - (intOf i).toNat)
      exact⟨0,yu _,rfl,λj E=>absurd E (xW _),nq.out,bk.out⟩
      obtain⟨f,hf,rfl,ab,hO,be⟩:=hrel;have au:=AA ab;clear ab
      by_cases av:f<k.Xy.length
      .obtain⟨a9,c9,ev,_,_,iB⟩:=BG.open Av (by decide) (BG.below H2.out be)
       cases ev;obtain⟨bi,bf,rfl,cu,D0,D1,D2⟩:=iB.Dq av;obtain⟨h1,eZ⟩:=EH wr (.cells #[.int .i64 (Sc k.Xy f).k,.string (Sc k.Xy f).g,.int .i64 (Sc k.Xy f).r] 91);have HO:=AA (AG.below hO eZ);have lx:(f:Int)<k.Xy.length:=by omega
       have dv:f<12:=by have:=du.out;omega
       have em:(f:Int)<12:=by omega
       clear hO iB;go_wp2_with fail;generalize wr.alloc _=wa at*;have eu:=be.trans (eZ.mono be.size);have y0:wa.cell? ⟨wr.heap.size,0,none⟩=some (.int .i64 (Sc k.Xy f).k):=yz _ _ 0 _ _ _ h1;have y2:wa.cell? ⟨wr.heap.size,2,none⟩=some (.int .i64 (Sc k.Xy f).r):=yz _ _ 2 _ _ _ h1;have hV:=AW h1;have es:=yv lT.out eu.size;have x0:=(AE (AB HN.out eu)).1;have x1:=(AE (AB HN.out eu)).2.1;have bC:wa.ownsRow W0.heap.size 3 1 (.slice (some ⟨gr,0,none⟩) 12 ew) 12 ((Ew k 3).map (ym .i64)):=by have:=HO.out;unfold AG at this;rwa [EF] at this
       have ij:=(bC.cellAt f (by omega)).trans (Fv (xs:=Ew k 3) (by rw[EF];exact dv));have ey:=(bC.lt gr rfl).2;have cl:=AA eu;have eH:=λW (_:Below wa.heap.size wa W)=>A3 (Fq (Sc k.Xy f).k W)
       clear D0 D1 D2 h1 eZ be eu bC;cases e5:Bi (Sc k.Xy f).k
       .rw[e5] at eH
        have CT:=AA eH;have TB:=AA (show Dp k f=true by simp[Dp,e5]);clear eH e5;refine Ac 23 170 [.p wr.heap.size 0,.i ((Sc k.Xy f).k),.b false,.b false,.u,.u,.u,.u,.u,.u,.u,.u,.u,.u,.b false,.b false,.p wr.heap.size 2,.i ((Sc k.Xy f).r),.s gr 12 ew,.i ((f:Int)),.p gr f,.i (nth (Ew k 3) f),.b ((Sc k.Xy f).r !=nth (Ew k 3) f)] (λ_ _ _=>True) ?_ ?_
        .intro i H o O a wx Y J Z hg z
         have bB:=bc Z hV y0;have bs:=bc Z hV y2;have bX:=bc Z ey ij
         match i,H with
         |0,_|3,_|14,_|15,_|16,_|18,_|19,_=>exact sP O z Y J
         |1,_|17,_|21,_=>exact sL O z Y J (hl:=Fy ‹_›)
         |2,_=>exact sD O z Y J (CT.out _ Z)
         |4,_|5,_|6,_|7,_|8,_|9,_|10,_|11,_|12,_|13,_=>exact sB O z J
         |20,_=>exact sI O z Y J (hr:=by clear J Y z;go_simp)
         |22,_=>clear bB bs bX;obtain rfl:=yQ O;have nD:(a.tmps[119]?.getD undef)=.int .i64 ((Sc k.Xy f).r):=BY J 17;have nB:(a.tmps[123]?.getD undef)=.int .i64 (nth (Ew k 3) f):=BY J 21;have gJ:(a.tmps[117]?.getD undef)=.bool false:=BY J 15;clear J Y;refine AY.yes rfl rfl gJ ?_;go_simp;exact z.out _ _ rfl (yO _ _)
         |_+23,hq=>omega
        .intro L wx hR Z
         have fL:(L 15)=.bool false:=Bg hR 15;have fJ:(L 22)=.bool ((Sc k.Xy f).r !=nth (Ew k 3) f):=Bg hR 22;clear hR;simp only[Aj,Ag,yN,yJ,yK,yI,fL,fJ];simp;clear fL fJ;have bY:=cl.out.trans (Z.mono cl.out.size);have eG:=AA (AG.below HO.out Z);clear Z x0 x1 y0 y2 ij;have RL:=Qw (k:=k) T4.out dv;cases dt:((Sc k.Xy f).r !=nth (Ew k 3) f)
         .have S1:=AA (show IB k f=true by rw[RL];simpa using dt)
          clear RL;go_wp2_with fail;go_roundw;exact⟨f+1,by omega,by go_num,Al au.out ⟨TB.out,S1.out⟩,eG.out,bY⟩;simp[intOf];omega
         .have S:=AA (VH dv (show IB k f=false by rw[RL];simpa using dt))
          clear RL;go_wp2_with fail;go_ret;exact⟨AI S.out.symm,b9.out.trans (bY.mono b9.out.size)⟩
       .rw[e5] at eH
        have CT:=AA eH;have eX:=λW (R:Below wa.heap.size wa W) v2 (V:BT W v2 [⟨#[]⟩])=>VA _ _ v2 k.mem k.Xy f (Sc k.Xy f).k [⟨#[]⟩] W ((H1.out.below cl.out).below R) T1.out (BG.below (BG.below H2.out cl.out) R) du.out dv e5 V
        cases e6:IU k.mem k.Xy f (Sc k.Xy f).k [⟨#[]⟩]
        .rw[e6] at eX
         have CG:=AA eX;have S:=AA (Zk dv (show Dp k f=false by simp[Dp,e5,e6]));clear eH e5 eX e6;refine A5 23 170 [.p wr.heap.size 0,.i ((Sc k.Xy f).k),.b true,.b true,.p w.heap.size 0,.v (.slice am k.mem.length cm),.p w.heap.size 1,.v (.slice (some ⟨bi,bf,none⟩) k.Xy.length ci),.i ((f:Int)),.p wr.heap.size 0,.i ((Sc k.Xy f).k),.z,.b false,.b true,.b true,.b true,.u,.u,.u,.u,.u,.u,.u] (λix vv ww=>match ix with
          |11=>BT ww vv [⟨#[]⟩]
          |_=>True) ?_ ?_ ?_
         .intro i H o O a wx Y J Z hg z
          have bB:=bc Z hV y0;have bs:=bc Z es x0;have bX:=bc Z es x1
          match i,H with
          |0,_|3,_|4,_|6,_|8,_|9,_|13,_|14,_|15,_=>exact sP O z Y J
          |1,_|10,_=>exact sL O z Y J (hl:=Fy ‹_›)
          |2,_=>exact sD O z Y J (CT.out _ Z)
          |5,_=>exact sL O z Y J (hl:=GQ ‹_›)
          |7,_=>exact sL O z Y J (hl:=GV ‹_›)
          |16,_|17,_|18,_|19,_|20,_|21,_|22,_=>exact sB O z J
          |11,_=>clear bB bs bX;obtain rfl:=yQ O;have d3:(a.tmps[105]?.getD undef)=.bool true:=BY J 3;clear J Y;refine AY.yes rfl rfl d3 ?_;go_simp;exact z.out _ _ (Rd.news _ #[.string ⟨#[]⟩] _ 1 1 rfl (by simp[maxLen])) (AJ _ _)
          |12,_=>clear bB bs bX;obtain rfl:=yQ O;have d5:(a.tmps[107]?.getD undef)=.slice am k.mem.length cm:=BY J 5;have d7:(a.tmps[109]?.getD undef)=.slice (some ⟨bi,bf,none⟩) k.Xy.length ci:=BY J 7;have d8:(a.tmps[110]?.getD undef)=.int .i64 f:=BY J 8;have lM:(a.tmps[112]?.getD undef)=.int .i64 ((Sc k.Xy f).k):=BY J 10;have fG:BT wx (a.tmps[113]?.getD undef) [⟨#[]⟩]:=BY J 11;have d3:(a.tmps[105]?.getD undef)=.bool true:=BY J 3;clear J Y;generalize e113:a.tmps[113]?.getD undef=v2 at fG;have gp:=CG.out wx Z v2 fG;refine AY.yes rfl rfl d3 ?_;go_simp;refine gp.mono ?_;rintro e w_ ⟨rfl,bk⟩;exact z.out _ _ rfl bk
          |_+23,hq=>omega
         .intro i H vv wz fI dw hz
          match i,H with
          |11,_=>exact(BG.below hz dw)
          |0,_|1,_|2,_|3,_|4,_|5,_|6,_|7,_|8,_|9,_|10,_|12,_|13,_|14,_|15,_|16,_|17,_|18,_|19,_|20,_|21,_|22,_=>exact hz
          |_+23,hq=>omega
         .intro L wx hR Z
          have fL:(L 15)=.bool true:=Bg hR 15;have fJ:(L 22)=undef:=Bg hR 22;clear hR;simp only[Aj,Ag,yN,yJ,yK,yI,fL,fJ];simp;clear fL fJ;have bY:=cl.out.trans (Z.mono cl.out.size);clear Z x0 x1 y0 y2 ij;go_wp2_with fail;go_ret;exact⟨AI S.out.symm,b9.out.trans (bY.mono b9.out.size)⟩
        .rw[e6] at eX
         have CG:=AA eX;have TB:=AA (show Dp k f=true by simp[Dp,e6]);clear eH e5 eX e6;refine A5 23 170 [.p wr.heap.size 0,.i ((Sc k.Xy f).k),.b true,.b true,.p w.heap.size 0,.v (.slice am k.mem.length cm),.p w.heap.size 1,.v (.slice (some ⟨bi,bf,none⟩) k.Xy.length ci),.i ((f:Int)),.p wr.heap.size 0,.i ((Sc k.Xy f).k),.z,.b true,.b false,.b false,.b false,.p wr.heap.size 2,.i ((Sc k.Xy f).r),.s gr 12 ew,.i ((f:Int)),.p gr f,.i (nth (Ew k 3) f),.b ((Sc k.Xy f).r !=nth (Ew k 3) f)] (λix vv ww=>match ix with
          |11=>BT ww vv [⟨#[]⟩]
          |_=>True) ?_ ?_ ?_
         .intro i H o O a wx Y J Z hg z
          have bB:=bc Z hV y0;have bs:=bc Z es x0;have bX:=bc Z es x1;have dq:=bc Z hV y2;have eK:=bc Z ey ij
          match i,H with
          |0,_|3,_|4,_|6,_|8,_|9,_|13,_|14,_|15,_|16,_|18,_|19,_=>exact sP O z Y J
          |1,_|10,_|17,_|21,_=>exact sL O z Y J (hl:=Fy ‹_›)
          |2,_=>exact sD O z Y J (CT.out _ Z)
          |5,_=>exact sL O z Y J (hl:=GQ ‹_›)
          |7,_=>exact sL O z Y J (hl:=GV ‹_›)
          |20,_=>exact sI O z Y J (hr:=by clear J Y z;go_simp)
          |11,_=>clear bB bs bX dq eK;obtain rfl:=yQ O;have d3:(a.tmps[105]?.getD undef)=.bool true:=BY J 3;clear J Y;refine AY.yes rfl rfl d3 ?_;go_simp;exact z.out _ _ (Rd.news _ #[.string ⟨#[]⟩] _ 1 1 rfl (by simp[maxLen])) (AJ _ _)
          |12,_=>clear bB bs bX dq eK;obtain rfl:=yQ O;have d5:(a.tmps[107]?.getD undef)=.slice am k.mem.length cm:=BY J 5;have d7:(a.tmps[109]?.getD undef)=.slice (some ⟨bi,bf,none⟩) k.Xy.length ci:=BY J 7;have d8:(a.tmps[110]?.getD undef)=.int .i64 f:=BY J 8;have lM:(a.tmps[112]?.getD undef)=.int .i64 ((Sc k.Xy f).k):=BY J 10;have fG:BT wx (a.tmps[113]?.getD undef) [⟨#[]⟩]:=BY J 11;have d3:(a.tmps[105]?.getD undef)=.bool true:=BY J 3;clear J Y;generalize e113:a.tmps[113]?.getD undef=v2 at fG;have gp:=CG.out wx Z v2 fG;refine AY.yes rfl rfl d3 ?_;go_simp;refine gp.mono ?_;rintro e w_ ⟨rfl,bk⟩;exact z.out _ _ rfl bk
          |22,_=>clear bB bs bX dq eK;obtain rfl:=yQ O;have nD:(a.tmps[119]?.getD undef)=.int .i64 ((Sc k.Xy f).r):=BY J 17;have nB:(a.tmps[123]?.getD undef)=.int .i64 (nth (Ew k 3) f):=BY J 21;have gJ:(a.tmps[117]?.getD undef)=.bool false:=BY J 15;clear J Y;refine AY.yes rfl rfl gJ ?_;go_simp;exact z.out _ _ rfl (yO _ _)
          |_+23,hq=>omega
         .intro i H vv wz fI dw hz
          match i,H with
          |11,_=>exact(BG.below hz dw)
          |0,_|1,_|2,_|3,_|4,_|5,_|6,_|7,_|8,_|9,_|10,_|12,_|13,_|14,_|15,_|16,_|17,_|18,_|19,_|20,_|21,_|22,_=>exact hz
          |_+23,hq=>omega
         .intro L wx hR Z
          have fL:(L 15)=.bool false:=Bg hR 15;have fJ:(L 22)=.bool ((Sc k.Xy f).r !=nth (Ew k 3) f):=Bg hR 22;clear hR;simp only[Aj,Ag,yN,yJ,yK,yI,fL,fJ];simp;clear fL fJ;have bY:=cl.out.trans (Z.mono cl.out.size);have eG:=AA (AG.below HO.out Z);clear Z x0 x1 y0 y2 ij;have RL:=Qw (k:=k) T4.out dv;cases dt:((Sc k.Xy f).r !=nth (Ew k 3) f)
          .have S1:=AA (show IB k f=true by rw[RL];simpa using dt)
           clear RL;go_wp2_with fail;go_roundw;exact⟨f+1,by omega,by go_num,Al au.out ⟨TB.out,S1.out⟩,eG.out,bY⟩;simp[intOf];omega
          .have S:=AA (VH dv (show IB k f=false by rw[RL];simpa using dt))
           clear RL;go_wp2_with fail;go_ret;exact⟨AI S.out.symm,b9.out.trans (bY.mono b9.out.size)⟩
      .obtain rfl:f=k.Xy.length:=by omega
       have nZ:=AA (λf (hf:f<12)=>au.out f (by have:=du.out;omega));have x3:=(AE (AB HN.out be)).2.2.2;have eN:=AA be;clear hO be au;go_wp2_with fail;clear x3;obtain⟨wq2,rfl⟩:∃wq:World,wq=wr:=⟨_,rfl⟩
       go_loopw [130] (λi wr=>∃j:Nat,j<=k.V0.length/\i=.int .i64 j/\(∀j',j'<j->Cs k (AT k.V0 j')=true)/\Below W0.heap.size W0 wr) (λi _=>k.V0.length - (intOf i).toNat)
       exact⟨0,yu _,rfl,λj E=>absurd E (xW _),eN.out⟩
       obtain⟨j,E,rfl,ab,be⟩:=hrel;have au:=AA ab;clear ab
       by_cases av:j<k.V0.length
       .obtain⟨a9,c9,ev,_,_,me⟩:=BG.open Ce (by decide) (BG.below H4.out be)
        cases ev;obtain⟨bi,bf,rfl,cu,D0,D1,D2,D3⟩:=me.zW av;have kf:Bu (AT k.V0 j)=true:=by have N:=T3.out;unfold Bd at N;simp only[yD,yr] at N;have V:=N.1 j (yj.2 av);unfold DA at V;simp only[yD] at V;exact V.1
        have ki:k.V0.length<=4:=by have N:=T3.out;unfold Bd at N;simp only[yD,decide_eq_true_eq] at N;exact N.2
        unfold Bu at kf;simp only[yD,AZ] at kf;obtain⟨⟨⟨e0,e2⟩,p0,p2⟩,f0,f2⟩:=kf;obtain⟨en,fy⟩:∃n:Nat,(AT k.V0 j).e=(n:Int):=⟨(AT k.V0 j).e.toNat,by omega⟩
        obtain⟨pn,hpn⟩:∃n:Nat,(AT k.V0 j).p=(n:Int):=⟨(AT k.V0 j).p.toNat,by omega⟩
        obtain⟨fn,hfn⟩:∃n:Nat,(AT k.V0 j).f=(n:Int):=⟨(AT k.V0 j).f.toNat,by omega⟩
        have TO:=AA (show Cs k (AT k.V0 j)=(decide (0<=(AF k.V3 en).root)&&decide (Bv k.mem (AF k.V3 en).root.toNat (4*pn)=(0,fn,(AT k.V0 j).w))) by unfold Cs;rw[fy,hpn,hfn];rfl);have kd:en<3:=by omega
        have ls:pn<16:=by omega
        have KT:=AA (Wa (k:=k) av);rw[fy] at D0;rw[hpn] at D1;rw[hfn] at D2;generalize hcw:(AT k.V0 j).w=cw at*;obtain⟨h1,eZ⟩:=EH wr (.cells #[.int .i64 en,.int .i64 pn,.int .i64 fn,.bool cw] 96);have lx:(j:Int)<k.V0.length:=by omega
        have oI:(j:Int)<4:=by omega
        have eu:=be.trans (eZ.mono be.size);obtain⟨b,bl,ua,uc,rfl,bx,E0,E1,RR⟩:=HE.out en (by have:=T4.out;omega);replace E1:=(eu.cell (p:=⟨b,bl+en*2+1,none⟩) bx).trans E1;have x0:=(AE (AB HN.out eu)).1;have x2:=(AE (AB HN.out eu)).2.2.1;obtain⟨y0,y1,y2,y3⟩:=AE h1;have nz:(en:Int)<k.V3.length:=by have:=T4.out;omega
        have cl:=AA eu;have oh:=AA (l4.out en kd);have oS:=AA (yk fy (yk hpn hfn));clear me E0 RR eZ be eu h1 e0 e2 p0 p2 f0 f2 fy hpn hfn ki
        by_cases dk:(AF k.V3 en).root<0
        .have S:=AA (KT.out (by rw[TO.out];simp;omega))
         have bY:=cl.out;clear x0 y1 y2 y3;go_wp2_with fail;go_ret;exact⟨AI S.out.symm,b9.out.trans (bY.mono b9.out.size)⟩
        .obtain⟨rn,hrn⟩:∃n:Nat,(AF k.V3 en).root=(n:Int):=⟨(AF k.V3 en).root.toNat,by omega⟩
         have gZ:rn<12:=by
          have N:=oh.out;unfold EI at N;simp only[yD,xP,decide_eq_true_eq,AZ] at N
          rcases N.1.2 with h|h<;>omega
         have fa:=λW (R:Below W0.heap.size W0 W)=>Vr _ k.mem rn (4*pn) W (H1.out.below R) T1.out gZ (by omega)
         have lz:wr.heap.size<(wr.alloc (.cells #[.int .i64 en,.int .i64 pn,.int .i64 fn,.bool cw] 96)).heap.size:=by simp
         rw[hrn] at E1 TO dk;unfold IV at fa;rw[show((4*pn:Nat):Int)=(pn:Int)*4 by omega] at fa;simp only[yq] at TO;obtain⟨code,fr,wb,hwp⟩:∃code fr wb,Bv k.mem rn (4*pn)=(code,fr,wb):=⟨_,_,_,rfl⟩
         simp only[hwp] at fa TO;clear hwp;have iZ:=AA (show Cs k (AT k.V0 j)=(decide (code=0)&&(decide (fr=fn)&&decide (wb=cw))) by
          rw[TO.out];have:(0:Int)<=(rn:Int):=by omega
          simp[this])
         by_cases hZ:code=0
         .subst hZ
          rw[if_pos rfl] at fa;unfold Lx at fa;rw[show((4*pn%4:Nat):Int)=0 by omega] at fa;have CW:=AA fa;clear fa;go_wp2_with fail;refine(CW.out _ cl.out).mono ?_;rintro e w2 ⟨rfl,bk⟩;have eE:=cl.out.trans (bk.mono cl.out.size);replace y2:=(bk.cell (p:=⟨wr.heap.size,2,none⟩) lz).trans y2;replace y3:=(bk.cell (p:=⟨wr.heap.size,3,none⟩) lz).trans y3;clear x0 x2 E1 y0 y1 bk;have bY:=eE.trans ((AJ w2 (.cells #[.int .i64 fr,.int .i64 0,.bool wb] 98)).mono eE.size);replace y2:=((AJ w2 (.cells #[.int .i64 fr,.int .i64 0,.bool wb] 98)).cell (yM w2 _ y2)).trans y2;replace y3:=((AJ w2 (.cells #[.int .i64 fr,.int .i64 0,.bool wb] 98)).cell (yM w2 _ y3)).trans y3;have HG:=AA bY;clear eE bY dk
          by_cases c8:fr=fn
          .have t1:((fr:Int) !=(fn:Int))=false:=by simp[c8]
           by_cases gU:wb=cw
           .have S:=AA (show Cs k (AT k.V0 j)=true by rw[iZ.out];simp[c8,gU])
            subst gU;clear c8;cases wb
            all_goals
             go_wp2_with fail;go_roundw;exact⟨j+1,by omega,by go_num,Al au.out S.out,HG.out⟩;simp[intOf];omega
           .have S:=AA (KT.out (by rw[iZ.out];simp[gU]))
            have hq:=AA gU;clear c8 gU;cases wb<;>cases cw
            .exact absurd rfl hq.out
            .go_wp2_with fail
             go_ret;exact⟨AI S.out.symm,b9.out.trans (HG.out.mono b9.out.size)⟩
            .go_wp2_with fail
             go_ret;exact⟨AI S.out.symm,b9.out.trans (HG.out.mono b9.out.size)⟩
            .exact absurd rfl hq.out
          .have t1:((fr:Int) !=(fn:Int))=true:=by simp;omega
           have S:=AA (KT.out (by rw[iZ.out];simp[c8]));clear c8 y3;go_wp2_with fail;go_ret;exact⟨AI S.out.symm,b9.out.trans (HG.out.mono b9.out.size)⟩
         .rw[if_neg hZ] at fa
          unfold Ez at fa;have CW:=AA fa;have t1:(code !=0)=true:=by simp[hZ]
          have S:=AA (KT.out (by rw[iZ.out];simp[hZ]));clear fa hZ;go_wp2_with (refine(CW.out _ cl.out).mono ?_;rintro e w2 ⟨rfl,bk⟩;have eE:=cl.out.trans (bk.mono cl.out.size);have HG:=AA (eE.trans ((AJ w2 (.cells #[.int .i64 0,.int .i64 0,.bool false] 98)).mono eE.size));clear x0 x2 E1 y0 y1 y2 y3 bk eE dk);go_ret;exact⟨AI S.out.symm,b9.out.trans (HG.out.mono b9.out.size)⟩
       .have S:=AA (Zl T1.out T2.out T3.out T4.out l4.out nZ.out (λj' oK=>au.out j' (by omega)))
        have bY:=be;go_wp2_with fail;go_ret;exact⟨AI S.out.symm,b9.out.trans (bY.mono b9.out.size)⟩
    .have S:=AA (YR e4)
     have n4:((k.V3.length:Int) !=3)=true:=by simp;omega
     clear e4;go_wp2_with fail;go_ret;exact⟨AI S.out.symm,b9.out.trans (A.mono b9.out.size)⟩
theorem Cc{k:AN}(h:DP k):Jo k:=by
 refine⟨λx hx=>?_,λj E=>Ej (h.Tj j (by rw[h.zY] at E;exact E))⟩;obtain⟨f,hf⟩:=xq hx;have hl:=(yE.1 hf).1;rw[h.len] at hl;have H:=h.inf f hl;have e:Sc k.Xy f=x:=by unfold Sc;rw[yg,hf];rfl
 rw[e] at H
 rcases H with⟨_,g⟩|⟨_,_,g⟩
 .rw[g];exact yu _
 .unfold BO at g
  rw[yD,decide_eq_true_eq] at g;have:=g.2;unfold maxLen;omega
section
variable {lo g:Nat} {o m i e c:Value} {st:AN×List Int} {w wr w':World}
end
theorem LJ(w:World)(a b:Obj):((w.alloc a).alloc b).heap[w.heap.size]?=some a/\((w.alloc a).alloc b).heap[w.heap.size+1]?=some b/\Below w.heap.size w ((w.alloc a).alloc b)/\((w.alloc a).alloc b).heap.size=w.heap.size+2:=by have N:=yw w a;have V:=yw (w.alloc a) b;have h4:=AB N (AJ _ b);simp only[xK] at V;exact⟨h4,V,IH w a b,by simp⟩
section
variable {P:Program}
theorem Rf{id:Nat}{Q:Exit->Act->World->Prop}{a0:Act}{w0:World}{l:List Oper}(n:Nat)(hm:P.follows .mixedOrders=true)(hB:Ih l n=true)
 (h1:Nat)(hN:a0.tmps.size=h1)(hD:WH l n h1=true)(i1 i2:Nat)(hw:yl .any l.toArray i2 i1=true)(iW:i1<n)(ky:i2<n)(gf:Value->Value->Prop)(hW:Nat->Value->World->Prop)(g8:∀i,i<n->∀v w w',Below w.heap.size w w'->hW i v w->hW i v w')
 (gW:∀i,i<n->i≠i2->∀o,l[i]?=some o->∀a w,Hid (a.defers=a0.defers/\a.tmps.size=a0.tmps.size/\∀t,(∀i,i<n->Ag l i≠t)->a.tmps[t]?=a0.tmps[t]?)->
  Hid (∀j,yl .any l.toArray i j=true->hW j (a.tmps[Ag l j]?.getD undef) w)->Below w0.heap.size w0 w->
  ∀hg:Act->World->Prop,Hid (∀v w',hW i v w'->Below w.heap.size w w'->hg (a.put o.dst v) w')->AY P l o a w hg Q)
 (g5:∀o,l[i2]?=some o->∀a w,Hid (a.defers=a0.defers/\a.tmps.size=a0.tmps.size/\∀t,(∀i,i<n->Ag l i≠t)->a.tmps[t]?=a0.tmps[t]?)->
  Hid (∀j,yl .any l.toArray i2 j=true->hW j (a.tmps[Ag l j]?.getD undef) w)->Below w0.heap.size w0 w->
  ∀hg:Act->World->Prop,Hid (∀v w',hW i2 v w'->gf (a.tmps[Ag l i1]?.getD undef) v->Below w.heap.size w w'->hg (a.put o.dst v) w')->AY P l o a w hg Q)
 (gV:∀(L:Nat->Value) w,(∀i,i<n->hW i (L i) w)->gf (L i1) (L i2)->Below w0.heap.size w0 w->wpList P l.toArray Q (l.drop n) {a0 with tmps:=Aj l (yN n) L a0.tmps} w):
 (Code.region id l.toArray true).wp P Q a0 w0:=by
 subst hN;refine MF hm (I:=λvs L w=>(∀i,i<n->vs i=true->hW i (L i) w)/\Below w0.heap.size w0 w/\(vs i2=true->gf (L i1) (L i2))) (TG hB hD) (λL=>⟨λi _ h=>(by cases h),⟨rfl,rfl,rfl,yG _,λ_ _=>rfl⟩,λh=>by cases h⟩) (λi H o O a w N V h3 vs h6 h7 h8 hI hg hK=>?_) (λa w N V h3 vs hL hI=>?_)
 .have up:∀{w':World},Below w.heap.size w w'->Below w0.heap.size w0 w':=λV=>hI.2.1.trans ⟨V.os,V.tape,V.output,V.size,λk D=>V.block k (yv D hI.2.1.size)⟩
  have hd:=AA λj (E:yl .any l.toArray i j=true)=>by have:=hI.1 j (h7 j E).2 (h7 j E).1;rwa [Km hB (h7 j E).2] at this
  have gR:∀{v w'},hW i v w'->Below w.heap.size w w'->∀ej:Nat->Value,ej i=(match o.dst with|some _=>v|none=>undef)->(∀j,j<n->j≠i->ej j=EQ l a.tmps j)->∀j,j<n->Gn vs i j=true->hW j (ej j) w':=by
   intro v w' hR A ej hv fN j E hl
   by_cases e:j=i
   .subst e
    rw[hv];simp only[WI hB H O];exact hR
   .have mW:vs j=true:=by unfold Gn at hl;rwa [if_neg e] at hl
    rw[fN j E e];exact g8 j E _ w w' A (hI.1 j E mW)
  by_cases e2:i=i2
  .subst e2
   have dt:i1≠i:=λe=>by have:=(h7 i1 hw).1;rw[e,h6] at this;cases this
   refine g5 o O a w (AA ⟨N,V,Jy hB h3⟩) hd hI.2.1 hg (AA λv w' hR hp A=>hK v w' λej hv fN=>⟨gR hR A ej hv fN,up A,λ_=>?_⟩);rw[hv,fN i1 iW dt,Km hB iW];simp only[WI hB H O];exact hp
  .refine gW i H e2 o O a w (AA ⟨N,V,Jy hB h3⟩) hd hI.2.1 hg (AA λv w' hR A=>hK v w' λej hv fN=>⟨gR hR A ej hv fN,up A,λhl=>?_⟩)
   have eS:vs i2=true:=by unfold Gn at hl;rwa [if_neg (Ne.symm e2)] at hl
   have e1:i1≠i:=λe=>by have:=h8 i2 i1 eS hw;rw[e,h6] at this;cases this
   rw[fN i1 iW e1,fN i2 ky (Ne.symm e2)];exact hI.2.2 eS
 .have e:=Sl l (yN n) a0.tmps a.tmps V (λt ht=>Jy hB h3 t λi H=>ht i (yj.2 H))
  have hv:∀i,i<n->a.tmps.getD (Ag l i) undef=EQ l a.tmps i:=λi H=>by rw[Array.getD_eq_getD_getElem?,<-Km hB H]
  have:=gV (λi=>a.tmps.getD (Ag l i) undef) w (λi H=>by rw[hv i H];exact hI.1 i H (hL i H)) (by rw[hv i1 iW,hv i2 ky];exact hI.2.2 (hL i2 ky)) hI.2.1;rw[<-e] at this;obtain⟨tm,df⟩:=a;dsimp only at N this;subst N;exact this
end
theorem Qm(v:Value)(m:List (List Int))(w:World)(h:Bf w v m)(er:m.length=16)(bL:∀k,k<16->(AH m k).length<=4):
 Calls prog 44 #[v] w λe w'=>∃v' L,e=.returned v'/\Az w.heap.size w' v' L m/\Below w.heap.size w w':=by
 obtain⟨L,N,V⟩:=h;have eR:L.length=16:=by rw[V.1,er]
 have CC:=AA (MY v L w N (by omega) (TC V));have CI:=AA (λk (D:k<16) W (R:Below w.heap.size w W)=>KJ (L.getD k (.bool false)) (AH m k) W (Ax.below (V.2 k _ _ (BD (by omega)) (by unfold AH;exact BD (by omega))) R) (by have:=bL k D;omega));have SH:=AA (λk (D:k<16)=>(by obtain⟨a,c,e,_⟩:=(V.2 k _ _ (BD (d:=Value.bool false) (by omega)) (BD (d:=[]) (by omega))).open;exact⟨a,_,c,e⟩:∃a n c,L.getD k (.bool false)=.slice a n c));have ip:=AA eR;have lS:=AA er;obtain⟨ai,ci,rfl,_,_⟩:=N.shape;clear N V bL er;rw[eR] at CC ⊢;clear eR;go_in;go_wp2_with fail;refine(CC.out).mono ?_;rintro e w1 ⟨v',rfl,hO,br⟩;obtain⟨g,cg,rfl,c1,c2,q1,q2,em⟩:=hO.zX (by have:=ip.out;omega);unfold maxLen at c2;rw[ip.out] at hO c1 ⊢;have HO:=AA hO;have HB:=AA br;clear hO br em;go_wp2_with fail;go_loopw [10] (λi wr=>∃us:List Value,us.length<=16/\i=.int .i64 us.length/\GG w.heap.size wr (.slice (some ⟨g,0,none⟩) 16 cg) us (L.drop us.length) m/\Below w.heap.size w wr) (λi _=>16 - (intOf i).toNat)
 exact⟨[],by simp,rfl,⟨HO.out,GE.nil,DO.nil⟩,HB.out⟩
 obtain⟨us,D,rfl,hH,be⟩:=hrel
 by_cases av:us.length<16
 .have ly:us.length<L.length:=by rw[ip.out];exact av
  have ed:L.drop us.length=L.getD us.length (.bool false)::L.drop (us.length+1):=by
   rw[List.drop_eq_getElem_cons ly]
   congr 1
   simp[ly]
  rw[ed] at hH;have fX:(us++L.getD us.length (.bool false)::L.drop (us.length+1)).length=16:=by have:=ip.out;simp only[yA,List.length_cons,xm];omega
  have iV:=hH.1;rw[<-fX] at iV;have hk:=AO.zK FI iV (k:=us.length) (x:=L.getD us.length (.bool false)) (by simp) 0 _ rfl;rw[wR,xU] at hk;have C:=CI.out _ av wr be;have hr:m[us.length]?=some (AH m us.length):=by unfold AH;exact BD (by rw[lS.out];exact av)
  have HH:=AA hH;have HR:=AA hr;have CH:=AA C;have kS:=AA fX;have em:=xT iV us.length;have oY:(16:Int)<=cg:=by omega
  clear hH iV hr C ed fX;generalize hu0:L.getD us.length (.bool false)=u0 at*;obtain⟨a0,n0,c0,rfl⟩:∃a n c,u0=.slice a n c:=by have:=SH.out _ av;rwa [hu0] at this
  go_wp2_with fail;refine(CH.out).mono ?_;rintro e w2 ⟨u,rfl,hu,bk⟩;have D2:=(bk.cell (p:=⟨g,us.length,none⟩) (yM wr _ hk)).trans hk;have m7:=(bk.frozen (p:=⟨g,us.length,none⟩) (yM wr _ hk)).trans em;have ST:=AA (GG.step HH.out kS.out.symm bk be.size hu HR.out);have gj:=AA (AM (be.trans (bk.mono be.size)) ST.out.2 q1 (yL be.size bk.size));obtain⟨a9,c9,rfl,_⟩:=hu.rd.open;clear hk em hu bk be;go_wp2_with fail;go_roundw
  case rel=>refine⟨us++[.slice a9 (AH m us.length).length c9],by rw[yA,xQ];omega,by rw[yA,xQ];go_num,?_,gj.out⟩;rw[yA,xQ];exact ST.out.1
  case measure=>simp[intOf];omega
 .have e12:us.length=16:=by omega
  rw[List.drop_eq_nil_of_le (by rw[e12,ip.out];exact yG _)] at hH;have hW:=AA (hH.whole (by rw[e12,lS.out]));clear hH;go_wp2_with fail;go_ret;exact⟨_,us,rfl,hW.out,be⟩
theorem Fh.Ex{lo:Nat}{w:World}{m i e c s l q:Value}{P:AR}(h:Fh lo w m i e c s l q P):((∃a n q,m=.slice a n q)/\(∃a n q,i=.slice a n q)/\(∃a n q,e=.slice a n q)/\∃a n q,c=.slice a n q)/\(∃a n q,s=.slice a n q)/\(∃a n q,l=.slice a n q)/\∃a n r,q=.slice a n r:=by obtain⟨N,⟨_,V⟩,h3,h4,_⟩:=h;obtain⟨_,_,rfl,_,_⟩:=V.1.rd.shape;obtain⟨_,_,rfl,_,_⟩:=h3.rd.open;obtain⟨_,_,rfl,_,_⟩:=h4.rd.shape;exact⟨N.Ex,⟨_,_,_,rfl⟩,⟨_,_,_,rfl⟩,⟨_,_,_,rfl⟩⟩
theorem VX{P:AR}(h:Ec P):P.swap.length=16/\∀k,k<16->(AH P.swap k).length<=4:=by
 refine⟨h.zO,λk D=>?_⟩
 rcases h.zG k D with e|e
 .rw[e];exact yu _
 .have:=(A6.1 e).1;omega
section
variable {w:World} {g t:Nat} {a0 a1 a2 a3 a4 a5 a6 a7 a8 b0 b1 b2 b3 b4 b5 b6 b7 b8:Value}
def Fd(w:World)(g:Nat)(b0 b1 b2 b3 b4 b5 b6:Value):World:=((((((w.setCell ⟨g,0,none⟩ b0).setCell ⟨g,1,none⟩ b1).setCell ⟨g,2,none⟩ b2).setCell ⟨g,3,none⟩ b3).setCell ⟨g,4,none⟩ b4).setCell ⟨g,5,none⟩ b5).setCell ⟨g,6,none⟩ b6
theorem aE(h:w.heap[g]?=some (.cells #[a0,a1,a2,a3,a4,a5,a6,a7,a8] t (0,0))):(((w.setCell ⟨g,4,none⟩ b4).setCell ⟨g,5,none⟩ b5).setCell ⟨g,6,none⟩ b6).heap[g]?=some (.cells #[a0,a1,a2,a3,b4,b5,b6,a7,a8] t (0,0)):=by have h4:=yF _ g 4 _ t b4 h;have h5:=yF _ g 5 _ t b5 h4;have h6:=yF _ g 6 _ t b6 h5;simpa using h6
theorem XI:w.grownBy (((w.setCell ⟨g,4,none⟩ b4).setCell ⟨g,5,none⟩ b5).setCell ⟨g,6,none⟩ b6) (some g):=Ao (Ao (Ak _ _ _ _) _ _) _ _
theorem aG(h:w.heap[g]?=some (.cells #[a0,a1,a2,a3,a4,a5,a6,a7,a8] t (0,0))):(Fd w g b0 b1 b2 b3 b4 b5 b6).heap[g]?=some (.cells #[b0,b1,b2,b3,b4,b5,b6,a7,a8] t (0,0)):=by have h0:=yF w g 0 _ t b0 h;have N:=yF _ g 1 _ t b1 h0;have V:=yF _ g 2 _ t b2 N;have h3:=yF _ g 3 _ t b3 V;have h4:=yF _ g 4 _ t b4 h3;have h5:=yF _ g 5 _ t b5 h4;have h6:=yF _ g 6 _ t b6 h5;unfold Fd;simpa using h6
theorem XK:w.grownBy (Fd w g b0 b1 b2 b3 b4 b5 b6) (some g):=by unfold Fd;exact Ao (Ao (Ao (Ao (Ao (Ao (Ak _ _ _ _) _ _) _ _) _ _) _ _) _ _) _ _
theorem IP(h:w.heap[g]?=some (.cells #[a0,a1,a2,a3,a4,a5,a6,a7,a8] t (0,0))):(((Fd w g b0 b1 b2 b3 b4 b5 b6).setCell ⟨g,7,none⟩ b7).setCell ⟨g,8,none⟩ b8).heap[g]?=some (.cells #[b0,b1,b2,b3,b4,b5,b6,b7,b8] t (0,0)):=by have h7:=yF _ g 7 _ t b7 (aG (b0:=b0) (b1:=b1) (b2:=b2) (b3:=b3) (b4:=b4) (b5:=b5) (b6:=b6) h);have h8:=yF _ g 8 _ t b8 h7;simpa using h8
theorem F8:w.grownBy (((Fd w g b0 b1 b2 b3 b4 b5 b6).setCell ⟨g,7,none⟩ b7).setCell ⟨g,8,none⟩ b8) (some g):=Ao (Ao XK _ _) _ _
end
def AQ(m i e c s l q:Value)(h n:Int):Value:=.agg #[m,i,e,c,s,l,q,.int .i64 h,.int .i64 n]
def Pd(w:World)(P:AR)(r:Ending)(w':World):Prop:=∃m i e c s l q,r=.returned (AQ m i e c s l q P.Il P.UQ)/\Fh w.heap.size w' m i e c s l q P/\Below w.heap.size w w'
theorem X0{lo:Nat}{m i e c s:Value}{w w':World}{k:AN}{L:List Value}{mf:List (List Int)}(h:IW lo v w k)(hj:v=.agg #[m,i,e,c])(o:Az w.heap.size w' s L mf):GD m s:=by obtain⟨m1,i1,e1,c1,rfl,⟨us,N⟩,_⟩:=h;simp only[Value.agg.injEq,Array.mk.injEq,List.cons.injEq,and_true] at hj;obtain⟨rfl,_⟩:=hj;intro b A f8;have:=(yB N.1 b A).2;have:=(yB o.1 b f8).1;omega
theorem VZ(mv iv ev cv sv lv qv:Value)(P:AR)(w:World)(h:KR w mv iv ev cv sv lv qv P)(hP:Ec P):
 Calls prog 19 #[AQ mv iv ev cv sv lv qv P.Il P.UQ] w (Pd w P):=by
 unfold AQ;obtain⟨B0,B1,bp,fv⟩:=LJ w (.cells #[mv,iv,ev,cv,sv,lv,qv,.int .i64 P.Il,.int .i64 P.UQ] 32) (.cells #[.slice none 0 0,.slice none 0 0,.slice none 0 0,.slice none 0 0,.slice none 0 0,.slice none 0 0,.slice none 0 0,.int .i64 0,.int .i64 0] 32);have h':=h.below bp;have fh:=VX hP;go_in;go_wp2_with fail;generalize(w.alloc _).alloc _=W0 at*;have C1:=AA (λW (R:Below W0.heap.size W0 W)=>Po mv iv ev cv P.Vw W (h'.1.below R) hP.k);have C2:=AA (λW (R:Below W0.heap.size W0 W)=>Qm sv P.swap W (h'.2.1.below R) fh.1 fh.2);have C3:=AA (λW (R:Below W0.heap.size W0 W)=>KJ lv P.low W (h'.2.2.1.below R) (by rw[hP.zE];omega));have C4:=AA (λW (R:Below W0.heap.size W0 W)=>Rh qv P.Xx W (BG.below h'.2.2.2 R) (by rw[hP.zZ];omega));have b9:=AA B0;have fT:=AA B1;have dx:=AA bp;obtain⟨x0,x1,x2,x3,x4,x5,x6,x7,x8⟩:=AD B0;have fx:w.heap.size<W0.heap.size:=by omega
 clear h h' fh B0 B1 bp x7 x8 hP;refine Rf 13 mixed (by kernel_rfl) 20 rfl (by kernel_rfl) 2 5 (by kernel_rfl) (by decide) (by decide) (λV1 V2=>∀m i e c,V1=.agg #[m,i,e,c]->GD m V2) (λix vv ww=>match ix with
  |0|12=>vv=.pointer (some ⟨w.heap.size,0,none⟩)
  |1=>vv=.agg #[mv,iv,ev,cv]
  |2=>IW W0.heap.size vv ww P.Vw
  |3=>vv=.pointer (some ⟨w.heap.size,4,none⟩)
  |4=>vv=sv
  |5=>∃ej,Az W0.heap.size ww vv ej P.swap
  |6=>vv=.pointer (some ⟨w.heap.size,5,none⟩)
  |7=>vv=lv
  |8=>AG W0.heap.size ww vv P.low
  |9=>vv=.pointer (some ⟨w.heap.size,6,none⟩)
  |10=>vv=qv
  |11=>AO W0.heap.size 74 3 DI ww vv P.Xx
  |_=>True) ?_ ?_ ?_ ?_
 .intro i H vv wz fI dw hz
  match i,H with
  |0,_|1,_|3,_|4,_|6,_|7,_|9,_|10,_=>exact hz
  |2,_=>exact(IW.below hz dw)
  |5,_=>exact(by obtain⟨ej,h'⟩:=hz;exact⟨ej,h'.below dw⟩)
  |8,_=>exact(AG.below hz dw)
  |11,_=>exact(AO.below hz dw)
  |12,_=>exact hz
 .intro i H mY o O a wx Y J Z hg z
  match i,H,mY with
  |0,_,_=>exact dF O rfl (gn rfl) z rfl ZW (eb (PV Y 1)) rfl
  |1,_,_=>exact dL O rfl (gn rfl) z rfl (et (BY J 0)) (PZ (bc Z fx x0) (bc Z fx x1) (bc Z fx x2) (bc Z fx x3)) rfl
  |2,_,_=>obtain rfl:=yQ O;have d1:(a.tmps[4]?.getD undef)=.agg #[mv,iv,ev,cv]:=BY J 1;clear J Y;refine yP ?_;go_simp;refine(C1.out _ Z).mono ?_;rintro r w_ ⟨m',i',e',c',rfl,hO,bk⟩;exact z.out _ _ ⟨m',i',e',c',rfl,hO.lower Z.size⟩ bk
  |3,_,_=>exact dF O rfl (gn rfl) z rfl cL (eb (PV Y 1)) rfl
  |4,_,_=>exact dL O rfl (gn rfl) z rfl (et (BY J 3)) (GQ (bc Z fx x4)) rfl
  |5,_,hs=>exact absurd rfl hs
  |6,_,_=>exact dF O rfl (gn rfl) z rfl cM (eb (PV Y 1)) rfl
  |7,_,_=>exact dL O rfl (gn rfl) z rfl (et (BY J 6)) (K9 (bc Z fx x5)) rfl
  |8,_,_=>obtain rfl:=yQ O;have d7:(a.tmps[10]?.getD undef)=lv:=BY J 7;clear J Y;refine yP ?_;go_simp;refine(C3.out _ Z).mono ?_;rintro e w_ ⟨v',rfl,hO,bk⟩;exact z.out _ _ (BZ hO Z.size) bk
  |9,_,_=>exact dF O rfl (gn rfl) z rfl cO (eb (PV Y 1)) rfl
  |10,_,_=>exact dL O rfl (gn rfl) z rfl (et (BY J 9)) (bE (bc Z fx x6)) rfl
  |11,_,_=>obtain rfl:=yQ O;have lM:(a.tmps[13]?.getD undef)=qv:=BY J 10;clear J Y;refine yP ?_;go_simp;refine(C4.out _ Z).mono ?_;rintro e w_ ⟨v',rfl,hO,bk⟩;exact z.out _ _ (hO.lower Z.size) bk
  |12,_,_=>exact dF O rfl (gn rfl) z rfl ZW (eb (PV Y 1)) rfl
 .intro o O a wx Y J Z hg z
  obtain rfl:=yQ O;have d4:(a.tmps[7]?.getD undef)=sv:=BY J 4;have d2:IW W0.heap.size (a.tmps[5]?.getD undef) wx P.Vw:=BY J 2;clear J Y;refine yP ?_;go_simp;refine(C2.out _ Z).mono ?_;rintro e w_ ⟨v',ej,rfl,hO,bk⟩;exact z.out _ _ ⟨ej,hO.lower Z.size⟩ (λm i e c hj=>X0 d2 hj hO) bk
 .intro L wx hR hP Z
  have q2:IW W0.heap.size (L 2) wx P.Vw:=Bg hR 2;have q5:∃ej,Az W0.heap.size wx (L 5) ej P.swap:=Bg hR 5
  have q8:AG W0.heap.size wx (L 8) P.low:=Bg hR 8;have jt:AO W0.heap.size 74 3 DI wx (L 11) P.Xx:=Bg hR 11;have gQ:(L 12)=.pointer (some ⟨w.heap.size,0,none⟩):=Bg hR 12;clear hR;simp only[Aj,Ag,yN,yJ,yK,yI,gQ];simp;generalize L 2=z2 at q2 hP ⊢;generalize L 5=z5 at q5 hP ⊢;generalize L 8=z8 at q8 ⊢;generalize L 11=z11 at jt ⊢;clear gQ;obtain⟨m',i',e',c',rfl,k1⟩:=q2;obtain⟨ej,k2⟩:=q5;have ez:GD m' z5:=hP _ _ _ _ rfl;have ho:=(⟨k1,⟨ej,k2⟩,q8,jt,ez⟩:Fh W0.heap.size wx m' i' e' c' z5 z8 z11 P);obtain⟨⟨⟨ma,mn,mc,rfl⟩,⟨ia,iN,ic,rfl⟩,⟨ea,en,ec,rfl⟩,⟨qa,qn,qc,rfl⟩⟩,⟨sa,sn,sc,rfl⟩,⟨la,ln,lc,rfl⟩,⟨pa,pn,pc,rfl⟩⟩:=ho.Ex;have B0:=(Z.block _ fx).trans b9.out;have B1:=(Z.block (w.heap.size+1) (by omega)).trans fT.out;obtain⟨mq,fU,mp,mo,ml,mj,mi,mh,mg⟩:=AD B0;have f0:=AK B0;go_step;go_simp;have iY:=Aq wx w.heap.size (.slice ma mn mc) (.slice ia iN ic) (.slice ea en ec) (.slice qa qn qc);have iD:=Iv (m':=.slice ma mn mc) (i':=.slice ia iN ic) (e':=.slice ea en ec) (c':=.slice qa qn qc) B0;have O1:=ho.yW iY B0;have kY:=(iY.block (w.heap.size+1) (by have:=Z.size;omega) (by intro e;have:=yQ e;omega)).trans B1;have bw:=AM (dx.out.trans (Z.mono dx.out.size)) iY (yG _) (yL dx.out.size Z.size);clear ho iY B0 B1 Z f0 mq fU mp mo ml mj mi mh mg k1 k2 q8 jt hP ez x0 x1 x2 x3 x4 x5 x6;generalize(((wx.setCell _ _).setCell _ _).setCell _ _).setCell _ _=W1 at*;obtain⟨_,_,_,_,c4,c5,c6,_⟩:=AD iD;have f4:=AK iD;have S2:=aE (b4:=.slice sa sn sc) (b5:=.slice la ln lc) (b6:=.slice pa pn pc) iD;have iX:=XI (w:=W1) (g:=w.heap.size) (b4:=.slice sa sn sc) (b5:=.slice la ln lc) (b6:=.slice pa pn pc);have O2:=O1.yW iX iD;have jj:=(iX.block (w.heap.size+1) (AW kY) (by intro e;have:=yQ e;omega)).trans kY;have lN:=AM bw iX (yG _) bw.size;obtain⟨y0,y1,y2,y3,y4,y5,y6,y7,y8⟩:=AD S2;obtain⟨u0,u1,u2,u3,u4,u5,u6,u7,u8⟩:=AD jj;have f1:=AK jj;have eG:=AA O2;have iA:=AA jj;have iu:=AA lN;clear O1 iD kY bw iX S2 O2 jj lN;go_wp2_with fail;clear y0 y1 y2 y3 y4 y5 y6 y7 y8 u0 u1 u2 u3 u4 u5 u6 u7 u8 f1 c4 c5 c6 f4;generalize((W1.setCell _ _).setCell _ _).setCell _ _=W2 at*;have kA:=F8 (w:=W2) (g:=w.heap.size+1) (b0:=.slice ma mn mc) (b1:=.slice ia iN ic) (b2:=.slice ea en ec) (b3:=.slice qa qn qc) (b4:=.slice sa sn sc) (b5:=.slice la ln lc) (b6:=.slice pa pn pc) (b7:=.int .i64 P.Il) (b8:=.int .i64 P.UQ);have N3:=IP (b0:=.slice ma mn mc) (b1:=.slice ia iN ic) (b2:=.slice ea en ec) (b3:=.slice qa qn qc) (b4:=.slice sa sn sc) (b5:=.slice la ln lc) (b6:=.slice pa pn pc) (b7:=.int .i64 P.Il) (b8:=.int .i64 P.UQ) iA.out
  have O3:=(eG.out.yW kA iA.out).lower dx.out.size;have B3:=AM iu.out kA (by omega) iu.out.size;unfold Fd at kA N3 O3 B3;exact yC (v:=.agg #[_,_,_,_,_,_,_,_,_]) (by simp[results,Tryz.results19,go_sem,AD N3]) rfl ⟨_,_,_,_,_,_,_,rfl,O3,B3⟩
theorem Dh.past{lo:Nat}{w w':World}{m i e c:Value}{k:AN}{row:Option Nat}(h:Dh lo w m i e c k)(K:w.grownBy w' row)(hr:∀b,row=some b->b<lo):Dh lo w' m i e c k:=by
 obtain⟨⟨L,N,V,h3⟩,h4,⟨ps,h5,h6,h7⟩,h8⟩:=h;exact⟨⟨L,Br N K hr,V.mono λ_ _ x=>Br x K hr,h3⟩,Br h4 K hr,⟨ps,Br h5 K hr,h6.mono λ_ _ x=>⟨Br x.1 K hr,x.2⟩,h7⟩,Br h8 K hr⟩
theorem UT(w:World)(s:ByteArray)(t:TypeId):BT (w.alloc (.cells #[.string s] t)) (.slice (some ⟨w.heap.size,0,none⟩) 1 1) [s]:=
 Rd.zN w #[.string s] t 1 1 _ rfl rfl (by simp[maxLen])
theorem bR(w:World)(a b c:ByteArray)(t u:TypeId):
 MI ((((w.alloc (.cells #[.string a] t)).alloc (.cells #[.string b] t)).alloc (.cells #[.string c] t)).alloc (.cells #[.slice (some ⟨w.heap.size,0,none⟩) 1 1,.slice (some ⟨w.heap.size+1,0,none⟩) 1 1,.slice (some ⟨w.heap.size+1+1,0,none⟩) 1 1] u))
  (.slice (some ⟨w.heap.size+1+1+1,0,none⟩) 3 3) [[a],[b],[c]]:=by
 have N:=UT w a t;have V:=UT (w.alloc (.cells #[.string a] t)) b t;have h3:=UT ((w.alloc (.cells #[.string a] t)).alloc (.cells #[.string b] t)) c t;simp only[xK] at V h3;refine⟨[.slice (some ⟨w.heap.size,0,none⟩) 1 1,.slice (some ⟨w.heap.size+1,0,none⟩) 1 1,.slice (some ⟨w.heap.size+1+1,0,none⟩) 1 1],?_,rfl,?_⟩
 .exact Rd.zN _ #[_,_,_] u 1 3 _ (by simp) rfl (by simp[maxLen])
 .intro i x y hx hy
  match i,hx,hy with
  |0,hx,hy=>simp at hx hy;subst hx hy;exact((BG.below N (AJ _ _)).below (AJ _ _)).below (AJ _ _)
  |1,hx,hy=>simp at hx hy;subst hx hy;exact(BG.below V (AJ _ _)).below (AJ _ _)
  |2,hx,hy=>simp at hx hy;subst hx hy;exact BG.below h3 (AJ _ _)
def Nh:List (List ByteArray):=[[gA],[gB],[gC]]
theorem Qf:∀ts∈Nh,BS ts=true:=by
 intro ts h;simp only[Nh,List.mem_cons,wX,or_false] at h
 rcases h with rfl|rfl|rfl<;>decide+kernel
theorem SI:∀ts∈Nh,DH ts:=λts h=>Ej (Qf ts h)
theorem VV:Ng Nh=EJ 0:=by kernel_rfl
theorem YZ:(madeCells (Value.agg #[.int .i64 0,.int .i64 0,.bool false]).cells (16*3)).toList=CZ DI (yd 16 ⟨0,0,false⟩):=by kernel_rfl
def MH(lo:Nat)(v:Value)(w:World):Prop:=∃g,v=.pointer (some ⟨g,0,none⟩)/\lo<=g/\w.heap[g]?=some (.cells #[.slice none 0 0,.slice none 0 0,.slice none 0 0,.slice none 0 0,.slice none 0 0,.slice none 0 0,.slice none 0 0,.int .i64 0,.int .i64 0] 32 (0,0))
theorem MH.below{lo:Nat}{w w':World}(h:MH lo v w)(A:Below w.heap.size w w'):MH lo v w':=by obtain⟨g,N,V,h3⟩:=h;exact⟨g,N,V,AB h3 A⟩
theorem Oe{w:World}{lo e sz n:Nat}{xs:List Value}(h:w.ownsRow lo e sz v n xs):∃a n c,v=.slice a n c:=by
 rcases h.2 with⟨rfl,_⟩|⟨g',cg,gL,rfl,_⟩
 .exact⟨_,_,_,rfl⟩
 .exact⟨_,_,_,rfl⟩
def Ls(k:Nat):List Int:=(yN k).map λj=>((j+1:Nat):Int)
theorem Wm(k:Nat):Ls (k+1)=Ls k++[((k+1:Nat):Int)]:=by simp[Ls,xI]
theorem Su(k:Nat):(Ls k).length=k:=by simp[Ls]
theorem Kd{lo:Nat}{w:World}{xs:List Int}(h:AG lo w v xs){j:Nat}(E:j<xs.length):∃b cg,v=.slice (some ⟨b,0,none⟩) xs.length cg/\b<w.heap.size/\w.cell? ⟨b,j,none⟩=some (.int .i64 (xs.getD j 0)):=by
 have h0:=h;unfold AG at h0
 rcases h0.2 with⟨rfl,e⟩|⟨b,cg,gL,rfl,_,_,_⟩
 .omega
 .refine⟨b,cg,rfl,(yB h0 b rfl).2,?_⟩
  have:=xx h0 j (by omega);rw[this];simp[yg,E]
theorem WG{l:List Bs}{k:Nat}{x:Bs}(h:l[k]?=some x)(wh:Int):As (l.take (k+1)) wh=As (l.take k) wh+ER (OY wh x):=by rw[DF h];unfold As;rw[List.countP_append];simp[xA,ER]
theorem Ww{g:Nat}{w:World}{ps:List Bs}(hq:w.cell? ⟨g,6,none⟩=some qv)(hR:BG 3 DI w qv ps)(hl:ps.length=16)(wh:Int):
 Calls prog 37 #[.pointer (some ⟨g,0,none⟩),.int .i64 wh] w (λr w'=>r=.returned (.int .i64 (As ps wh:Int))/\Below w.heap.size w w'):=by
 obtain⟨a,c,rfl,_⟩:=hR.shape;have H0:=Tc.of Es (by decide) hR;rw[hl] at hq;go_in;go_wp2_with fail;go_loopw [5,7,13] (λn _ ix wr=>∃k:Nat,k<=16/\ix=.int .i64 k/\n=.int .i64 (As (ps.take k) wh:Int)/\Below w.heap.size w wr) (λ_ _ ix _=>16 - (intOf ix).toNat)
 exact⟨0,by omega,rfl,rfl,yO _ _⟩
 obtain⟨k,D,rfl,rfl,A⟩:=hrel
 by_cases av:k<16
 .obtain⟨x,hx⟩:∃x,ps[k]?=some x:=⟨_,yH (by omega)⟩
  obtain⟨b,bl,rfl,bx,hc⟩:=(H0.below A) k x hx;have D0:=hc 0 _ rfl;have D1:=hc 1 _ rfl;have D2:=hc 2 _ rfl;rw[xU] at D0;have Nx:=AA (WG hx wh);have ki:As (ps.take k) wh<=16:=by unfold As;exact yL vy (by rw[yt];omega)
  generalize As (ps.take k) wh=n at*;have mH:(k:Int)<16:=by omega
  obtain⟨xw,xa,xu⟩:=x;have bw:=AA (A.trans ((AJ wr (.cells #[.int .i64 xw,.int .i64 xa,.bool xu] 74)).mono A.size));clear hc hx H0 hR
  by_cases hw:xw=wh
  focus
   subst hw
   have t1:ER (OY xw ⟨xw,xa,xu⟩)=1:=by simp[OY,ER]
  rotate_left
  focus
   have t1:ER (OY wh ⟨xw,xa,xu⟩)=0:=by simp[OY,ER,hw]
   have t2:(xw==wh)=false:=by simp[hw]
   clear hw
  rotate_left
  all_goals
   go_wp2_with fail;go_roundw;exact⟨k+1,by omega,by go_num,by rw[Nx.out,t1];go_num,bw.out⟩;simp[intOf];omega
 .obtain rfl:k=16:=by omega
  rw[xo (by omega)];go_wp2_with fail;go_ret;exact⟨rfl,A⟩
theorem Jr(L:List Value):CZ Gc L=L:=by
 induction L with
 |nil=>rfl
 |cons v L ih=>rw[H6,ih];rfl
theorem Az.set{lo B:Nat}{w0 w:World}{gs:Nat}{L:List Value}{S:List (List Int)}{v':Value}{r:List Int}(h:Az lo w0 (.slice (some ⟨gs,0,none⟩) n cg) L S)(A:Below w0.heap.size w0 w)(hO:AG B w v' r)(hB:w0.heap.size<=B)(dn:lo<=w0.heap.size)(hn:n=L.length)(E:j<L.length):
 Az lo (w.setCell ⟨gs,j,none⟩ v') (.slice (some ⟨gs,0,none⟩) n cg) (L.set j v') (S.set j r)/\w.grownBy (w.setCell ⟨gs,j,none⟩ v') (some gs):=by
 have h':=h.below A;obtain⟨N,⟨kz,V⟩,h3⟩:=h';have g1:w.ownsRow lo 29 1 (.slice (some ⟨gs,0,none⟩) n cg) n L:=by have:=N;unfold AO at this;rw[Jr,<-hn] at this;exact this
 obtain⟨s1,s2⟩:=wm g1 j v';obtain⟨gL,eD⟩:=A9 g1 gs rfl;have old:∀(i:Nat) u,L[i]?=some u->∀b,u.ownBlock=some b->b<w0.heap.size:=λi u hu b f8=>by
  obtain⟨x,hx⟩:∃x,S[i]?=some x:=⟨_,yH (by rw[<-kz];exact(yE.1 hu).1)⟩
  exact(yB (h.2.1.2 i u x hu hx) b f8).2
 refine⟨⟨?_,⟨by rw[yi,yi];exact kz,λi u x hu hx=>?_⟩,λi k u u' lB hu fV=>?_⟩,s2⟩
 .unfold AO
  rw[Jr,yi,<-hn];exact s1
 .rw[we] at hu hx
  by_cases e:j=i
  .subst e
   rw[if_pos rfl,if_pos E] at hu;rw[if_pos rfl,if_pos (by rw[<-kz];exact E)] at hx;cases hu;cases hx;exact FR (BZ hO (yL dn hB)) s2 eD
  .rw[if_neg e] at hu hx
   exact FR (V i u x hu hx) s2 eD
 .have fresh:∀b,v'.ownBlock=some b->w0.heap.size<=b:=λb f8=>yL hB (yB hO b f8).1
  rw[we] at hu fV
  by_cases e:j=i
  .subst e
   rw[if_pos rfl,if_pos E] at hu;rw[if_neg lB] at fV;cases hu;intro b br bk;have:=fresh b br;have:=old k u' fV b bk;omega
  .rw[if_neg e] at hu
   by_cases e':j=k
   .subst e'
    rw[if_pos rfl,if_pos E] at fV;cases fV;intro b br bk;have:=fresh b bk;have:=old i u hu b br;omega
   .rw[if_neg e'] at fV
    exact h3 i k u u' lB hu fV
theorem Wp{Xy:List AV}(D:Tg (Sc Xy f)):GK Xy f=(decide ((Sc Xy f).g=gA)&&decide ((Sc Xy f).r=1)&&decide ((Sc Xy f).k≠0)):=by
 unfold GK
 by_cases h:(Sc Xy f).g=gA
 .have:(Sc Xy f).k≠0:=λe=>by
   rcases D with⟨_,g⟩|⟨a,_⟩
   .rw[h] at g;cases g
   .omega
  simp[this]
 .simp[h]
theorem Mv{g:Nat}{w:World}{Xy:List AV}(H:w.cell? ⟨g,1,none⟩=some iv)(hR:BG 3 At w iv Xy)(hl:Xy.length=12){f:Nat}(hf:f<12)(D:Tg (Sc Xy f)):
 Calls prog 75 #[.pointer (some ⟨g,0,none⟩),.int .i64 f] w (λr w'=>r=.returned (.bool (GK Xy f))/\Below w.heap.size w w'):=by
 have hj:=AA (Wp D);obtain⟨a,c,rfl,kl,iQ⟩:=hR.shape;have H0:=Tc.of Av (by decide) hR;have hx:Xy[f]?=some (Sc Xy f):=Ca (by omega);obtain⟨b,bl,rfl,bx,hc⟩:=H0 f _ hx;have D0:=hc 0 _ rfl;have D1:=hc 1 _ rfl;have D2:=hc 2 _ rfl;rw[xU] at D0;rw[hl] at H;have j9:(f:Int)<12:=by omega
 generalize Sc Xy f=x at*;obtain⟨k,gd,r⟩:=x;dsimp only at D0 D1 D2 hj;clear hc H0 hR hx D hl;have eg:gd=gA↔gd.toList=[97]:=⟨λh=>by subst h;rw[xC];rfl,λh=>by rw[xC] at h;cases gd with|mk d=>cases d with|mk l=>simp at h;subst h;rfl⟩
 by_cases K:gd.toList=[97]
 .have t1:(gd.toList==[97])=true:=by simp[K]
  by_cases hr:r=1
  .subst hr
   have t3:(k !=0)=decide (k≠0):=by by_cases h:k=0<;>simp[h]
   have E2:=AA (show GK Xy f=(k !=0) by rw[hj.out,t3];simp[eg.2 K]);clear K eg hj t3;go_in;go_wp2_with fail;go_ret;exact⟨AI E2.out.symm,AJ _ _⟩
  .have t2:(r==1)=false:=by simp[hr]
   have E2:=AA (show GK Xy f=false by rw[hj.out];simp[hr]);clear K eg hj hr;go_in;go_wp2_with fail;go_ret;exact⟨AI E2.out.symm,AJ _ _⟩
 .have t1:(gd.toList==[97])=false:=by simp[K]
  have E2:=AA (show GK Xy f=false by rw[hj.out];simp[eg,K]);clear K eg hj;go_in;go_wp2_with fail;go_ret;exact⟨AI E2.out.symm,AJ _ _⟩
theorem Ym{g:Nat}{w:World}{mv ev cv sv lv:Value}{P:AR}(hB:w.heap[g]?=some (.cells #[mv,iv,ev,cv,sv,lv,qv,.int .i64 P.Il,.int .i64 P.UQ] 32 (0,0)))(h:KR w mv iv ev cv sv lv qv P)(hm:P.Vw.mem.length=12)(hr:∀f,f<12->(AH P.Vw.mem f).length=4)(hJ:P.low.length=4){n:Nat}(hn:n<16)(dn:0<=Be P.low (n/4)/\Be P.low (n/4)<=11):
 Calls prog 80 #[.pointer (some ⟨g,0,none⟩),.int .i64 n] w (λr w'=>r=.returned (.int .i64 (Bx P n))/\Below w.heap.size w w'):=by
 unfold Bx Au;obtain⟨ja,ha⟩:∃ja,ja=n/4:=⟨_,rfl⟩
 obtain⟨jb,A⟩:∃jb,jb=n%4:=⟨_,rfl⟩
 rw[<-ha] at dn ⊢;rw[<-A];have q1:(n:Int)/4=(ja:Int):=by omega
 have q2:(n:Int)%4=(jb:Int):=by omega
 have oy:(n:Int).tmod 4=(jb:Int):=by rw[Int.tmod_eq_emod_of_nonneg (by omega)];exact q2
 have lH:jb<4:=by omega
 have oQ:ja<4:=by omega
 obtain⟨x0,_,_,_,_,x5,_⟩:=AD hB;have K:=AW hB;obtain⟨al,lc,rfl,_,_,HL⟩:=h.2.2.1.open;obtain⟨lb,gT,rfl,DL⟩:=HL.at (k:=ja) (by omega);have mU:=yM w _ DL;replace DL:w.cell? ⟨lb,gT+ja,none⟩=some (.int .i64 (Be P.low ja)):=DL;obtain⟨f,hf⟩:∃f:Nat,Be P.low ja=(f:Int):=⟨(Be P.low ja).toNat,by omega⟩
 rw[hf] at DL dn ⊢;have dv:f<12:=by omega
 obtain⟨L,o1,o2⟩:=h.1.1;have eR:L.length=12:=by rw[o2.1,hm]
 obtain⟨am,cm,rfl,kk,_,HM⟩:=BG.open FI (by decide) o1;obtain⟨u,hu⟩:∃u,L[f]?=some u:=⟨_,yH (by omega)⟩
 have ep:=o2.2 f u (AH P.Vw.mem f) hu (by unfold AH;exact BD (by omega));obtain⟨gm,jw,rfl,iO,iC⟩:=HM f u hu;have DR:=iC 0 _ rfl;obtain⟨ar,rc,rfl,_,_,iw⟩:=ep.open;obtain⟨rb,iE,rfl,DW⟩:=iw.at (k:=jb) (by rw[hr f dv];exact lH);have mO:=yM w _ DW;rw[wR,xU,hr f dv] at DR;rw[eR] at x0;rw[hJ] at x5;rw[show((f:Int)).toNat=f from rfl];have j9:(f:Int)<12:=by omega
 have lI:(ja:Int)<4:=by omega
 have cu:(jb:Int)<4:=by omega
 unfold nth at DW;generalize(AH P.Vw.mem f).getD jb 0=wd at DW ⊢;clear h hm hr hJ dn hf o1 o2 ep hu eR kk ha A HL HM iw iC hB;go_in;go_wp2_with fail;refine Ac 19 24 [.p g 0,.p g 0,.p g 0,.p g 0,.v (.slice (some ⟨gm,jw,none⟩) 12 cm),.p g 0,.p g 0,.p g 5,.v (.slice (some ⟨lb,gT,none⟩) 4 lc),.i ((n:Int)),.i ((ja:Int)),.p lb (gT+ja),.i ((f:Int)),.p gm (jw+f),.v (.slice (some ⟨rb,iE,none⟩) 4 rc),.i ((n:Int)),.i ((jb:Int)),.p rb (iE+jb),.i wd] (λ_ _ _=>True) ?_ ?_
 .intro i H o O a wx Y J Z hg z
  have bs:=bc Z K x5;have bX:=bc Z mU DL;have dq:=bc Z iO DR;have eK:=bc Z mO DW
  match i,H with
  |0,_|1,_|2,_|3,_|5,_|6,_|7,_|9,_|15,_=>exact sP O z Y J
  |4,_=>exact sL O z Y J (hl:=GQ (bc Z K x0))
  |8,_|14,_=>exact sL O z Y J (hl:=K9 ‹_›)
  |11,_|13,_|17,_=>exact sI O z Y J (hr:=by clear J Y z;go_simp)
  |12,_|18,_=>exact sL O z Y J (hl:=Fy ‹_›)
  |10,_=>clear bs bX dq eK;obtain rfl:=yQ O;have d9:(a.tmps[14]?.getD undef)=.int .i64 n:=BY J 9;clear J Y;refine yP ?_;go_simp;exact z.out _ _ (by show ym .i64 (IntKind.i64.wrap _)=_;rw[IntWalk.i64_in _ (by omega)]) (yO _ _)
  |16,_=>clear bs bX dq eK;obtain rfl:=yQ O;have gJ:(a.tmps[20]?.getD undef)=.int .i64 n:=BY J 15;clear J Y;refine yP ?_;go_simp;exact z.out _ _ rfl (yO _ _)
  |_+19,hq=>omega
 .intro L wx hR Z
  have ld:(L 18)=.int .i64 wd:=Bg hR 18;clear hR;simp only[Aj,Ag,yN,yJ,yK,yI,ld];simp;clear ld;go_wp2_with fail;go_ret;exact⟨rfl,Z⟩
theorem OR{p:Nat->Bool}{k:Nat}(D:k<n)(h:p k=false):(yN n).all p=false:=xh.2 ⟨k,yj.2 D,by simp[h]⟩
theorem Nw{g:Nat}{w:World}{mv ev cv sv lv:Value}{P:AR}(hB:w.heap[g]?=some (.cells #[mv,iv,ev,cv,sv,lv,qv,.int .i64 P.Il,.int .i64 P.UQ] 32 (0,0)))(h:KR w mv iv ev cv sv lv qv P)(hK:DP P.Vw):
 Calls prog 33 #[.pointer (some ⟨g,0,none⟩)] w (λr w'=>r=.returned (.bool (Bz P))/\Below w.heap.size w w'):=by
 have T:Bz P=(decide (0<=Ab P.Vw 0)&&decide (P.low.length=4)&&GK P.Vw.Xy (Ab P.Vw 0).toNat&&(yN 4).all (Fz P)):=rfl;have vs:∀i,Fz P i=(Bh (Be P.low i) 0 11&&decide (Au P.Vw.mem (Ab P.Vw 0).toNat i=Iy (Be P.low i))&&GK P.Vw.Xy (Be P.low i).toNat):=λi=>rfl
 obtain⟨x0,x1,x2,_,_,x5,_⟩:=AD hB;obtain⟨ps,iP,gH⟩:=h.1.2.2.1;have fP:ps.length=3:=by rw[gH.1,hK.zY]
 obtain⟨ae,ce,rfl,_,_,HE⟩:=BG.open F6 (by decide) iP;obtain⟨p0,hp0⟩:∃p,ps[0]?=some p:=⟨_,yH (by omega)⟩
 obtain⟨ge,ny,rfl,_,fz⟩:=HE 0 p0 hp0;have DE:=fz 1 _ rfl;rw[show p0.2=Ab P.Vw 0 from(gH.2 0 p0 (AF P.Vw.V3 0) hp0 (by unfold AF;exact BD (by rw[hK.zY];omega))).2,Nat.zero_mul,xU] at DE;rw[fP] at x2;obtain⟨al,lc,rfl,mV,eS,HL⟩:=h.2.2.1.open;unfold maxLen at eS;have ig:=h.1.2.1;have hQ:=hK.len;have ie:=AA hK.inf
 rcases hK.roots 0 (by omega) with hr|⟨eY,fE,iI⟩
 .have S:=AA (show Bz P=false by rw[T,hr];rfl)
  rw[hr] at DE;clear T vs hr ig ie hQ HL h hB hK;go_in;go_wp2_with fail;go_ret;exact⟨AI S.out.symm,yO _ _⟩
 .obtain⟨rn,hrn⟩:∃n:Nat,Ab P.Vw 0=(n:Int):=⟨(Ab P.Vw 0).toNat,by omega⟩
  have fi:rn<12:=by omega
  simp only[hrn,yq] at T vs;rw[hrn] at DE;have nr:¬(rn:Int)<0:=by omega
  by_cases gF:P.low.length=4
  .have CR:=AA (λW (R:Below w.heap.size w W)=>Mv (w:=W) (f:=rn) ((R.cell (yM w _ x1)).trans x1) (BG.below ig R) hQ fi (ie.out rn fi))
   obtain⟨L,o1,o2⟩:=h.1.1;have eR:L.length=12:=by rw[o2.1];exact(Ah.1 hK.mem).1
   obtain⟨am,cm,rfl,_,_,HM⟩:=BG.open FI (by decide) o1;obtain⟨u,hu⟩:∃u,L[rn]?=some u:=⟨_,yH (by omega)⟩
   have ep:=o2.2 rn u (AH P.Vw.mem rn) hu (by unfold AH;exact BD (by rw[<-o2.1];omega));have gD:(AH P.Vw.mem rn).length=4:=(A6.1 ((Ah.1 hK.mem).2 rn fi)).1;obtain⟨gm,jw,rfl,_,iC⟩:=HM rn u hu;have DR:=iC 0 _ rfl;obtain⟨ar,rc,rfl,_,_,iw⟩:=ep.open;rw[wR,xU,gD] at DR;rw[eR] at x0;rw[gF] at x5;have HF:=AA (yk x0 (yk x1 (yk x5 DR)));have i9:=AA (yk iw (yk gD (yk HL gF)));have oD:(0:Int)<=(rn:Int):=by omega
   have T2:=AA (show Bz P=(GK P.Vw.Xy rn&&(yN 4).all (Fz P)) by rw[T];simp[gF]);have ob:=AA vs;have CI:=AA (λ(f:Nat)(hf:f<12) W (R:Below w.heap.size w W)=>Mv (w:=W) (f:=f) ((R.cell (yM w _ HF.out.2.1)).trans HF.out.2.1) (BG.below ig R) hQ hf (ie.out f hf));clear T vs eY fE iI hrn ig ie hQ HL h hB hK o1 o2 ep hu eR HM iC iw gD mV DR gF x1;cases hm:GK P.Vw.Xy rn
   .rw[hm] at CR T2
    go_in;go_wp2_with (refine(CR.out _ (yO _ _)).mono ?_;rintro r w1 ⟨rfl,b1⟩);go_ret;exact⟨AI T2.out.symm,b1⟩
   .rw[hm] at CR T2
    go_in;go_wp2_with fail;refine(CR.out _ (yO _ _)).mono ?_;rintro r w1 ⟨rfl,b1⟩;replace x5:=(b1.cell (yM w _ x5)).trans x5;have cq:=AA b1;clear x0 x2 DE b1;go_wp2_with fail;clear x5;go_loopw [4,5,6,7,37] (λ_ _ _ _ ix wr=>∃k:Nat,k<=4/\ix=.int .i64 k/\(∀j,j<k->Fz P j=true)/\Below w.heap.size w wr) (λ_ _ _ _ ix _=>4 - (intOf ix).toNat)
    exact⟨0,by omega,rfl,λj E=>by omega,cq.out⟩
    obtain⟨k,D,rfl,bO,A⟩:=hrel
    by_cases av:k<4
    .have k4:(k:Int)<4:=by omega
     obtain⟨lb,gT,rfl,DL⟩:=i9.out.2.2.1.at (k:=k) (by rw[i9.out.2.2.2];exact av);obtain⟨rb,iE,rfl,DW⟩:=i9.out.1.at (k:=k) (by rw[i9.out.2.1];exact av);replace DL:=(A.cell (yM w _ DL)).trans DL;replace DW:=(A.cell (yM w _ DW)).trans DW;have x0:=(A.cell (yM w _ HF.out.1)).trans HF.out.1;have DR:=(A.cell (yM w _ HF.out.2.2.2)).trans HF.out.2.2.2;have ei:=AA bO;have Y:=AA A;have LK:=ob.out k;replace DL:wr.cell? ⟨lb,gT+k,none⟩=some (.int .i64 (Be P.low k)):=DL;replace DW:wr.cell? ⟨rb,iE+k,none⟩=some (.int .i64 (Au P.Vw.mem rn k)):=DW;generalize Be P.low k=v at DL LK;generalize Au P.Vw.mem rn k=wd at DW LK;clear bO A;cases c7:Bh v 0 11
     .have S:=AA (show Bz P=false by rw[T2.out,OR av (by rw[LK,c7];rfl)];rfl)
      clear LK;go_wp2_with (refine(Om v true _ c7).mono ?_;rintro r w3 ⟨rfl,rfl⟩);go_ret;exact⟨AI S.out.symm,Y.out⟩
     .have hv:=AZ.1 c7
      obtain⟨f,rfl⟩:∃f:Nat,v=(f:Int):=⟨v.toNat,by omega⟩
      have hf:f<12:=by omega
      have CF:=AA (CI.out f hf wr Y.out);rw[c7,yq] at LK;go_wp2_with fail;refine(ND (f:Int) _ hv.1 hv.2).mono ?_;rintro r w3 ⟨rfl,rfl⟩
      by_cases he:wd=Iy (f:Int)
      .have t1:(wd !=Iy (f:Int))=false:=by simp[he]
       have i6:Fz P k=GK P.Vw.Xy f:=by rw[LK];simp[he]
       generalize Iy (f:Int)=en at t1;clear LK he c7;go_wp2_with fail;refine CF.out.mono ?_;rintro r w4 ⟨rfl,b4⟩;have lY:=AA (Y.out.trans (b4.mono Y.out.size));cases lw:GK P.Vw.Xy f
       .have S:=AA (show Bz P=false by rw[T2.out,OR av (by rw[i6,lw])];rfl)
        clear i6 b4;go_wp2_with fail;go_ret;exact⟨AI S.out.symm,lY.out⟩
       .have nN:=AA (i6.trans lw)
        clear i6 b4;go_wp2_with fail;go_roundw
        case rel=>exact⟨k+1,by omega,by go_num,λj E=>by
         rcases xE.1 E with x|x
         .exact ei.out j x
         .subst x;exact nN.out,lY.out⟩
        case measure=>simp[intOf];omega
      .have t1:(wd !=Iy (f:Int))=true:=by simp[he]
       have S:=AA (show Bz P=false by rw[T2.out,OR av (by rw[LK];simp[he])];rfl);generalize Iy (f:Int)=en at t1;clear LK he c7;go_wp2_with fail;go_ret;exact⟨AI S.out.symm,Y.out⟩
    .obtain rfl:k=4:=by omega
     have S:=AA (show Bz P=true by rw[T2.out,Bool.true_and];exact yr.2 λj E=>bO j (yj.1 E));clear bO;rw[show((4:Nat):Int)=4 from rfl];go_wp2_with fail;go_ret;exact⟨AI S.out.symm,A⟩
  .have S:=AA (show Bz P=false by rw[T];simp[gF])
   have t4:((P.low.length:Int) !=4)=true:=by simp;omega
   clear T vs eY fE iI hrn ig ie hQ HL h hB hK gF;go_in;go_wp2_with fail;go_ret;exact⟨AI S.out.symm,yO _ _⟩
def Et(P:AR)(n:Nat):Bool:=
 if(AC P.Xx n).w=0 then decide ((AC P.Xx n).a=0)&&!(AC P.Xx n).u&&decide (Bx P n=0)
 else if(AC P.Xx n).w=1 then Bh (AC P.Xx n).a 0 11&&decide (Bx P n=Iy (AC P.Xx n).a)&&GK P.Vw.Xy (AC P.Xx n).a.toNat
 else if(AC P.Xx n).w=2 then Bh (AC P.Xx n).a 0 15&&!(AC P.Xx n).u&&decide (Bx P n=0)
 else false
def Ga(ks:List Int)(x:Bs):List Int:=if x.w=2 then ks.set x.a.toNat (nth ks x.a.toNat+1) else ks
def Jf(lo:Nat)(v:Value)(w:World):Prop:=∃q,v=.pointer (some ⟨q,0,none⟩)/\lo<=q/\w.heap[q]?=some (.cells #[.int .i64 0,.int .i64 0,.bool false] 74 (0,0))
theorem Jf.below{lo:Nat}{w w':World}(h:Jf lo v w)(A:Below w.heap.size w w'):Jf lo v w':=by obtain⟨q,N,V,h3⟩:=h;exact⟨q,N,V,AB h3 A⟩
def Ti(lo:Nat)(w:World)(kv:Value)(ks:List Int)(b:Bool)(r:Ending)(w':World):Prop:=r=.returned (.bool b)/\AG lo w' kv ks/\w.grownBy w' kv.ownBlock/\Below lo w w'
theorem Wu{lo g:Nat}{w:World}{mv ev cv sv lv kv:Value}{P:AR}{ks:List Int}(hB:w.heap[g]?=some (.cells #[mv,iv,ev,cv,sv,lv,qv,.int .i64 P.Il,.int .i64 P.UQ] 32 (0,0)))(h:KR w mv iv ev cv sv lv qv P)(hK:DP P.Vw)(hJ:P.low.length=4)(dn:∀i,i<4->0<=Be P.low i/\Be P.low i<=11)(fP:P.Xx.length=16)
 (D:AG lo w kv ks)(fY:ks.length=16)(cr:∀j,j<16->0<=nth ks j/\nth ks j<=1000)(fj:lo<=w.heap.size){n:Nat}(hn:n<16):
 Calls prog 35 #[.pointer (some ⟨g,0,none⟩),.int .i64 n,kv] w (λr w'=>∃gx,Ti lo w kv gx (Et P n) r w'/\(Et P n=true->gx=Ga ks (AC P.Xx n))):=by
 have CW:=AA (λW (R:Below w.heap.size w W)=>Ym (w:=W) (AB hB R) (h.below R) (Ah.1 hK.mem).1 (λf hf=>(A6.1 ((Ah.1 hK.mem).2 f hf)).1) hJ hn (dn (n/4) (by omega)));have x6:=(AD hB).2.2.2.2.2.2.1;have x1:=(AD hB).2.1;have CM:=AA (λ(f:Nat)(hf:f<12) W (R:Below w.heap.size w W)=>Mv (w:=W) (f:=f) ((R.cell (yM w _ x1)).trans x1) (BG.below h.1.2.1 R) hK.len hf (hK.inf f hf));obtain⟨aq,qc,rfl,jW,jV,HQ⟩:=BG.open Es (by decide) h.2.2.2;rw[fP] at x6 jW;obtain⟨qb,k9,rfl,jU,hc⟩:=HQ n _ (show P.Xx[n]?=some (AC P.Xx n) from BD (by omega));have D0:=hc 0 _ rfl;have D1:=hc 1 _ rfl;have D2:=hc 2 _ rfl;rw[xU] at D0;have K:=AW hB;have PH:Et P n=(if(AC P.Xx n).w=0 then decide ((AC P.Xx n).a=0)&&!(AC P.Xx n).u&&decide (Bx P n=0) else if(AC P.Xx n).w=1 then Bh (AC P.Xx n).a 0 11&&decide (Bx P n=Iy (AC P.Xx n).a)&&GK P.Vw.Xy (AC P.Xx n).a.toNat else if(AC P.Xx n).w=2 then Bh (AC P.Xx n).a 0 15&&!(AC P.Xx n).u&&decide (Bx P n=0) else false):=rfl;generalize Et P n=res at PH ⊢;generalize Bx P n=tw at PH CW;generalize AC P.Xx n=x at PH D0 D1 D2 ⊢;obtain⟨xw,xa,xu⟩:=x;dsimp only at PH D0 D1 D2;have oE:(n:Int)<16:=by omega
 have fB:=AA PH;have l1:=AA D;clear PH hc HQ h hB hK hJ dn fP x1 jW jV D;obtain⟨ka,kn,kc,rfl⟩:=Oe l1.out;go_in;go_wp2_with fail;refine A5 11 78 [.p g 0,.p g 0,.p g 6,.v (.slice (some ⟨qb,k9,none⟩) 16 qc),.i ((n:Int)),.p qb (k9+n*3),.a #[.int .i64 xw,.int .i64 xa,.bool xu],.p g 0,.i ((n:Int)),.i tw,.z] (λix vv ww=>match ix with
  |10=>Jf w.heap.size vv ww
  |_=>True) ?_ ?_ ?_
 .intro i H o O a wx Y J Z hg z
  match i,H with
  |0,_|1,_|2,_|4,_|7,_|8,_=>exact sP O z Y J
  |3,_=>exact sL O z Y J (hl:=bE (bc Z K x6))
  |5,_=>exact sI O z Y J (hr:=by clear J Y z;go_simp)
  |6,_=>exact sL O z Y J (hl:=dc (bc Z jU D0) (bc Z jU D1) (bc Z jU D2))
  |9,_=>exact sD O z Y J (CW.out _ Z)
  |10,_=>obtain rfl:=yQ O;clear J Y;refine yP ?_;go_simp;exact z.out _ _ ⟨_,rfl,Z.size,yw _ _⟩ (AJ _ _)
 .intro i H vv wz fI dw hz
  match i,H with
  |10,_=>exact(Jf.below hz dw)
  |0,_|1,_|2,_|3,_|4,_|5,_|6,_|7,_|8,_|9,_=>exact hz
 .intro L wx hR Z
  have q6:(L 6)=.agg #[.int .i64 xw,.int .i64 xa,.bool xu]:=Bg hR 6;have q9:(L 9)=.int .i64 tw:=Bg hR 9;have lg:Jf w.heap.size (L 10) wx:=Bg hR 10;clear hR;simp only[Aj,Ag,yN,yJ,yK,yI,q6,q9];simp;generalize L 10=z10 at lg ⊢;clear q6 q9;obtain⟨q,rfl,lp,gE⟩:=lg;have c0:=yz _ _ 0 _ _ _ gE;have nK:=yz _ _ 1 _ _ _ gE;have c2:=yz _ _ 2 _ _ _ gE;have fq:=AK gE;have Pl:=Of (W:=w) (a:=.int .i64 xw) (b:=.int .i64 xa) (c:=.bool xu) gE Z lp;go_step;go_simp;clear c0 nK c2 fq gE Z D0 D1 D2 x6;generalize((wx.setCell _ _).setCell _ _).setCell _ _=W1 at*;have y0:=yz _ _ 0 _ _ _ Pl.1;have y1:=yz _ _ 1 _ _ _ Pl.1;have y2:=yz _ _ 2 _ _ _ Pl.1;have dm:=AA Pl.2;have jf:=AA (show AG lo W1 (.slice ka kn kc) ks from l1.out.below Pl.2);have NO:=AA (λ(W:World)(R:Below W1.heap.size W1 W)(b:Bool)(A:res=b)(mJ:xw≠2∨b=false)=>(⟨ks,⟨by rw[A],jf.out.below R,⟨(dm.out.trans (R.mono dm.out.size)).os,(dm.out.trans (R.mono dm.out.size)).tape,(dm.out.trans (R.mono dm.out.size)).output,(dm.out.trans (R.mono dm.out.size)).size,λk D _=>(dm.out.trans (R.mono dm.out.size)).block k D⟩,(dm.out.trans (R.mono dm.out.size)).mono fj⟩,λht=>by
   rcases mJ with x|x
   .unfold Ga;rw[if_neg x]
   .rw[A,x] at ht;cases ht⟩:∃gx,Ti lo w (.slice ka kn kc) gx res (.returned (.bool b)) W/\(res=true->gx=Ga ks ⟨xw,xa,xu⟩)))
  clear Pl
  by_cases h0:xw=0
  .subst h0
   by_cases ha:xa=0
   .have t1:(xa==0)=true:=by simp[ha]
    cases xu
    .have hW:=AA (show res=(tw==0) by rw[fB.out];simp[ha];by_cases h:tw=0<;>simp[h])
     clear ha;go_wp2_with fail;go_ret;exact NO.out _ (yO _ _) _ hW.out (.inl (by decide))
    .have hW:=AA (show res=false by rw[fB.out];simp)
     clear ha;go_wp2_with fail;go_ret;exact NO.out _ (yO _ _) _ hW.out (.inl (by decide))
   .have t1:(xa==0)=false:=by simp[ha]
    have hW:=AA (show res=false by rw[fB.out];simp[ha]);clear ha;go_wp2_with fail;go_ret;exact NO.out _ (yO _ _) _ hW.out (.inl (by decide))
  .have n0:(xw==0)=false:=by simp[h0]
   by_cases N:xw=1
   .subst N
    cases c7:Bh xa 0 11
    .have hW:=AA (show res=false by rw[fB.out,c7];rfl)
     go_wp2_with (refine(Om xa true _ c7).mono ?_;rintro r w3 ⟨rfl,rfl⟩);go_ret;exact NO.out _ (yO _ _) _ hW.out (.inl (by decide))
    .have hv:=AZ.1 c7
     obtain⟨f,rfl⟩:∃f:Nat,xa=(f:Int):=⟨xa.toNat,by omega⟩
     have hf:f<12:=by omega
     have CF:=AA (CM.out f hf W1 dm.out);have R0:res=(decide (tw=Iy (f:Int))&&GK P.Vw.Xy f):=by rw[fB.out,c7];simp
     go_wp2_with fail;refine(ND (f:Int) _ hv.1 hv.2).mono ?_;rintro r w3 ⟨rfl,rfl⟩
     by_cases he:tw=Iy (f:Int)
     .have hW:=AA (show res=GK P.Vw.Xy f by rw[R0];simp[he])
      have t1:(tw==Iy (f:Int))=true:=by simp[he]
      generalize Iy (f:Int)=en at t1;clear R0 he c7;go_wp2_with (refine CF.out.mono ?_;rintro r w4 ⟨rfl,b4⟩;have ji:=AA b4;clear b4);go_ret;exact NO.out _ ji.out _ hW.out (.inl (by decide))
     .have hW:=AA (show res=false by rw[R0];simp[he])
      have t1:(tw==Iy (f:Int))=false:=by simp[he]
      generalize Iy (f:Int)=en at t1;clear R0 he c7;go_wp2_with fail;go_ret;exact NO.out _ (yO _ _) _ hW.out (.inl (by decide))
   .have n1:(xw==1)=false:=by simp[N]
    by_cases V:xw=2
    .subst V
     cases c7:Bh xa 0 15
     .have hW:=AA (show res=false by rw[fB.out,c7];rfl)
      go_wp2_with (refine(D5 _ _ _ _).mono ?_;rintro r w3 ⟨rfl,rfl⟩;rw[c7]);go_ret;exact NO.out _ (yO _ _) _ hW.out (.inr rfl)
     .have hv:=AZ.1 c7
      obtain⟨sl,rfl⟩:∃sl:Nat,xa=(sl:Int):=⟨xa.toNat,by omega⟩
      have gX:sl<16:=by omega
      have mM:(sl:Int)<16:=by omega
      cases xu
      .by_cases ht:tw=0
       .have t1:(tw !=0)=false:=by simp[ht]
        have hW:=AA (show res=true by rw[fB.out,c7];simp[ht]);have A:=cr sl gX;obtain⟨kb,mG,ek,oH,KC⟩:=Kd jf.out (j:=sl) (by omega);cases ek;rw[fY] at jf ⊢;replace KC:W1.cell? ⟨kb,sl,none⟩=some (.int .i64 (nth ks sl)):=KC;have bC:W1.ownsRow lo 3 1 (.slice (some ⟨kb,0,none⟩) 16 kc) 16 (ks.map (ym .i64)):=by have:=jf.out;unfold AG at this;rwa [fY] at this
        have FK:=xT bC sl;obtain⟨s1,s2⟩:=wm bC sl (.int .i64 (nth ks sl+1));have mT:=(yB bC kb rfl).1;have lP:=AA (show Ti lo w (.slice (some ⟨kb,0,none⟩) 16 kc) (Ga ks ⟨2,(sl:Int),false⟩) true (.returned (.bool true)) (W1.setCell ⟨kb,sl,none⟩ (.int .i64 (nth ks sl+1))) from
         ⟨rfl,by
          show AG _ _ _ (ks.set sl (nth ks sl+1))
          unfold AG;rw[yi,vj,fY];exact s1,AP ⟨dm.out.os,dm.out.tape,dm.out.output,dm.out.size,λk D _=>dm.out.block k D⟩ s2,AM (dm.out.mono fj) s2 mT (yL fj dm.out.size)⟩)
        generalize nth ks sl=old at KC A lP;clear ht c7 s1 s2 bC;go_wp2_with (refine(D5 _ _ _ _).mono ?_;rintro r w3 ⟨rfl,rfl⟩;rw[show Bh (sl:Int) 0 15=true from AZ.2 hv]);go_ret;exact⟨_,by rw[hW.out,fY];exact lP.out,λ_=>rfl⟩
       .have t1:(tw !=0)=true:=by simp[ht]
        have hW:=AA (show res=false by rw[fB.out,c7];simp[ht]);clear ht;go_wp2_with (refine(D5 _ _ _ _).mono ?_;rintro r w3 ⟨rfl,rfl⟩;rw[c7]);go_ret;exact NO.out _ (yO _ _) _ hW.out (.inr rfl)
      .have hW:=AA (show res=false by rw[fB.out,c7];simp)
       go_wp2_with (refine(D5 _ _ _ _).mono ?_;rintro r w3 ⟨rfl,rfl⟩;rw[c7]);go_ret;exact NO.out _ (yO _ _) _ hW.out (.inr rfl)
    .have n2:(xw==2)=false:=by simp[V]
     have hW:=AA (show res=false by rw[fB.out];simp[h0,N,V]);clear h0 N V;go_wp2_with fail;go_ret;exact NO.out _ (yO _ _) _ hW.out (.inr rfl)
theorem Zh(ks:List Int)(x:Bs):(Ga ks x).length=ks.length:=by
 unfold Ga
 split
 .simp
 .rfl
theorem Zi{ks:List Int}{x:Bs}(hl:ks.length=16)(hx:x.w=2->0<=x.a/\x.a<=15)(s:Nat):nth (Ga ks x) s=nth ks s+(ER (DB s x):Int):=by
 unfold Ga DB
 by_cases h:x.w=2
 .rw[if_pos h]
  have:=hx h;unfold nth;rw[yg,we]
  by_cases e:x.a.toNat=s
  .subst e
   have e2:x.a=((x.a.toNat:Nat):Int):=by omega
   have A:ER (decide (x.w=2)&&decide (x.a=((x.a.toNat:Nat):Int)))=1:=by rw[<-e2];simp[h,ER]
   rw[if_pos rfl,if_pos (by omega),A];simp
  .have A:ER (decide (x.w=2)&&decide (x.a=(s:Int)))=0:=by
    have:x.a≠(s:Int):=by omega
    simp[this,ER]
   rw[if_neg e,A];simp[yg]
 .rw[if_neg h]
  have A:ER (decide (x.w=2)&&decide (x.a=(s:Int)))=0:=by simp[h,ER]
  rw[A];simp
theorem Zg{l:List Bs}(hx:∀x∈l,x.w=2->0<=x.a/\x.a<=15){ks:List Int}(hl:ks.length=16)(s:Nat):(l.foldl Ga ks).length=16/\nth (l.foldl Ga ks) s=nth ks s+(Ch l s:Int):=by
 induction l generalizing ks with
 |nil=>exact⟨hl,by simp[Ch]⟩
 |cons x l ih=>
  have I:=ih (λy hy=>hx y (List.mem_cons_of_mem _ hy)) (ks:=Ga ks x) (by rw[Zh,hl]);refine⟨I.1,?_⟩;rw[yK,I.2,Zi hl (hx x (List.mem_cons_self ..))];unfold Ch;rw[xA];unfold ER
  split<;>simp_all<;>omega
theorem Xf{P:AR}(hl:P.Xx.length=16)(hs:(yN 16).all (ED P)=true){n:Nat}(hn:n<16):Gm P n=Et P n:=by
 unfold Gm Et
 by_cases h0:(AC P.Xx n).w=0
 .rw[if_pos h0,if_pos h0]
 rw[if_neg h0,if_neg h0]
 by_cases N:(AC P.Xx n).w=1
 .rw[if_pos N,if_pos N]
 rw[if_neg N,if_neg N]
 by_cases V:(AC P.Xx n).w=2
 .rw[if_pos V,if_pos V]
  cases c7:Bh (AC P.Xx n).a 0 15
  .simp
  .have hv:=AZ.1 c7
   have O:=yr.1 hs (AC P.Xx n).a.toNat (yj.2 (by omega));unfold ED at O;rw[decide_eq_true_eq] at O;have hm:AC P.Xx n∈P.Xx:=by have:P.Xx[n]?=some (AC P.Xx n):=BD (by omega);exact yx this
   have g0:0<Ch P.Xx (AC P.Xx n).a.toNat:=by
    unfold Ch;rw[List.countP_pos_iff];refine⟨_,hm,?_⟩;unfold DB;have:(AC P.Xx n).a=(((AC P.Xx n).a.toNat:Nat):Int):=by omega
    rw[<-this];simp[V]
   cases he:(AH P.swap (AC P.Xx n).a.toNat).isEmpty
   .simp
   .rw[he,if_pos rfl] at O;omega
 .rw[if_neg V,if_neg V]
theorem SJ(P:AR):CU P=(Cr P.Vw&&Ff P.swap&&decide (P.Xx.length=16)&&Bz P&&Gx P.Vw&&(yN 16).all (Et P)&&(yN 16).all (ED P)&&(Bh P.Il 0 15&&Bh P.UQ 1 6&&decide ((As P.Xx 1:Int)<=P.UQ))):=by
 unfold CU
 by_cases hl:P.Xx.length=16
 .cases hs:(yN 16).all (ED P)
  .simp
  .have:(yN 16).all (Gm P)=(yN 16).all (Et P):=by
    rw[xi,yr,yr];exact⟨λh n hn=>by rw[<-Xf hl hs (yj.1 hn)];exact h n hn,λh n hn=>by rw[Xf hl hs (yj.1 hn)];exact h n hn⟩
   rw[this];cases Cr P.Vw<;>cases Ff P.swap<;>cases Gx P.Vw<;>cases Bz P<;>cases(yN 16).all (Et P)<;>simp[hl,Bool.and_assoc]
 .simp[hl]
theorem Up{hg:AN}{k:Nat}(D:k<3)(h:CQ (BB hg k) gA≠decide (k=0)):Gx hg=false:=by
 unfold Gx
 match k,D,h with
 |0,_,h=>simp at h;simp[h]
 |1,_,h=>simp at h;simp[h]
 |2,_,h=>simp at h;simp[h]
theorem X1{hg:AN}(h:∀j,j<3->CQ (BB hg j) gA=decide (j=0)):Gx hg=true:=by unfold Gx;rw[h 0 (by omega),h 1 (by omega),h 2 (by omega)];rfl
theorem WU{P:AR}(hl:P.Xx.length=16){k:Nat}(h:∀j,j<k->Et P j=true):∀x∈P.Xx.take k,x.w=2->0<=x.a/\x.a<=15:=by
 intro x hx hw;obtain⟨j,E⟩:=xq hx;have iM:j<k:=by have:=(yE.1 E).1;rw[yt] at this;omega
 rw[uX,if_pos iM] at E;have e:AC P.Xx j=x:=by unfold AC;rw[yg,E];rfl
 have:=h j iM;unfold Et at this;rw[e,if_neg (by omega),if_neg (by omega),if_pos hw] at this;simp only[yD] at this;exact AZ.1 this.1.1
theorem RU{P:AR}(h:Bz P=true):P.low.length=4/\∀i,i<4->0<=Be P.low i/\Be P.low i<=11:=by
 unfold Bz at h;simp only[yD,decide_eq_true_eq,yr,yj] at h;refine⟨h.1.1.2,λi H=>?_⟩;have:=h.2 i H;unfold Fz at this;simp only[yD] at this;exact AZ.1 this.1.1
theorem IG(mv iv ev cv sv lv qv:Value)(P:AR)(w:World)(h:KR w mv iv ev cv sv lv qv P)(hs:Jo P.Vw):
 Calls prog 11 #[AQ mv iv ev cv sv lv qv P.Il P.UQ] w (λr w'=>r=.returned (.bool (CU P))/\Below w.heap.size w w'):=by
 have Pt:=SJ P;unfold AQ;obtain⟨N0,b0⟩:=EH w (.cells #[mv,iv,ev,cv,sv,lv,qv,.int .i64 P.Il,.int .i64 P.UQ] 32);have h0:=h.below b0;go_in;go_wp2_with fail;generalize w.alloc _=W0 at*;have C1:=AA (λW (R:Below W0.heap.size W0 W)=>KS mv iv ev cv P.Vw W (h0.1.below R) hs);have C2:=AA (λW (R:Below W0.heap.size W0 W)=>QC sv P.swap W (h0.2.1.below R));have dx:=AA b0;obtain⟨aq,qc,rfl,jW,jV⟩:=h0.2.2.2.shape;unfold maxLen at jV;have av:w.heap.size<W0.heap.size:=AW N0;cases D:Cr P.Vw
 .have S:=AA (show CU P=false by rw[Pt,D];rfl)
  rw[D] at C1;clear Pt;refine(C1.out W0 (yO _ _)).mono ?_;rintro r w1 ⟨rfl,b1⟩;have HB:=AA (dx.out.trans (b1.mono dx.out.size));clear N0 b0 h h0 b1;go_wp2_with fail;go_ret;exact⟨AI S.out.symm,HB.out⟩
 rw[D] at C1;refine(C1.out W0 (yO _ _)).mono ?_;rintro r w1 ⟨rfl,b1⟩;have x4:=(AD (AB N0 b1)).2.2.2.2.1;have B1:=AA b1;cases fh:Ff P.swap
 .have S:=AA (show CU P=false by rw[Pt,D,fh];rfl)
  have C:=C2.out w1 b1;rw[fh] at C;clear Pt N0 b0 h h0 b1;go_wp2_with (refine C.mono ?_;rintro r w2 ⟨rfl,b2⟩;have HB:=AA (dx.out.trans ((B1.out.trans (b2.mono B1.out.size)).mono dx.out.size));clear b2);go_ret;exact⟨AI S.out.symm,HB.out⟩
 have C:=C2.out w1 b1;rw[fh] at C;clear b1;go_wp2_with fail;refine C.mono ?_;rintro r w2 ⟨rfl,b2⟩;have B2:=AA (B1.out.trans (b2.mono B1.out.size));have x6:=(AD (AB N0 B2.out)).2.2.2.2.2.2.1;clear b2 C x4
 by_cases hl:P.Xx.length=16
 .rw[hl] at x6
  cases ht:Bz P
  .have S:=AA (show CU P=false by rw[Pt,D,fh,ht];simp)
   have C:=Nw (AB N0 B2.out) (h0.below B2.out) (EZ.1 D);rw[ht] at C;clear Pt N0 b0 h h0;go_wp2_with (refine C.mono ?_;rintro r w3 ⟨rfl,b3⟩;have HB:=AA (dx.out.trans ((B2.out.trans (b3.mono B2.out.size)).mono dx.out.size));clear b3);go_ret;exact⟨AI S.out.symm,HB.out⟩
  .have C:=Nw (AB N0 B2.out) (h0.below B2.out) (EZ.1 D)
   rw[ht] at C;go_wp2_with fail;refine C.mono ?_;rintro r w3 ⟨rfl,b3⟩;have B3:=AA (B2.out.trans (b3.mono B2.out.size));have dp:=AA (dx.out.trans (B3.out.mono dx.out.size));have hK:=EZ.1 D;have h3:=h0.below B3.out;have N3:=AB N0 B3.out;obtain⟨ps,iP,gH⟩:=h3.1.2.2.1;have fP:ps.length=3:=by rw[gH.1,hK.zY]
   obtain⟨ae,ce,rfl,ng,_,HE⟩:=BG.open F6 (by decide) iP;have x2:=(AD N3).2.2.1;rw[fP] at x2;have i3:=AA (show CU P=(Gx P.Vw&&(yN 16).all (Et P)&&(yN 16).all (ED P)&&(Bh P.Il 0 15&&Bh P.UQ 1 6&&decide ((As P.Xx 1:Int)<=P.UQ))) by rw[Pt,D,fh,ht];simp[hl]);have z:=AA hK;have HL:=AA (yk hl (yk fh ht));have H3:=AA (yk N3 h3);have l6:=AA (yk HE gH);have oi:=AA fP;clear Pt D hK fh ht hl N0 b0 h h0 C1 C2 C b3 x6 HE iP gH fP hs N3 h3 B1 B2;go_wp2_with fail;clear x2;go_loopw [3,4,33] (λ_ _ ix wr=>∃k:Nat,k<=3/\ix=.int .i64 k/\(∀j,j<k->CQ (BB P.Vw j) gA=decide (j=0))/\Below w3.heap.size w3 wr) (λ_ _ ix _=>3 - (intOf ix).toNat)
   exact⟨0,by omega,rfl,λj E=>by omega,yO _ _⟩
   obtain⟨k,iL,rfl,bO,A⟩:=hrel
   by_cases hC:k<3
   .have k3:(k:Int)<3:=by omega
    obtain⟨p,hp⟩:∃p,ps[k]?=some p:=⟨_,yH (by have:=oi.out;omega)⟩
    obtain⟨ge,ny,rfl,lC,fz⟩:=l6.out.1 k p hp;have iH:=l6.out.2.2 k p (AF P.Vw.V3 k) hp (by unfold AF;exact BD (by rw[z.out.zY];omega));have D0:=(A.cell (yM w3 _ (fz 0 _ rfl))).trans (fz 0 _ rfl);have D1:=(A.cell (yM w3 _ (fz 1 _ rfl))).trans (fz 1 _ rfl);rw[xU] at D0;obtain⟨pv,pr⟩:=p;dsimp only at D0 D1 iH;obtain⟨pa,pn,rfl,_,_⟩:=BG.shape iH.1;have bn:=A.trans ((AJ wr (.cells #[.slice pa (AF P.Vw.V3 k).Tj.length pn,.int .i64 pr] 66)).mono A.size);have CM:=Pm _ (AF P.Vw.V3 k).Tj gA _ (BG.below iH.1 bn);have ei:=AA bO;have lV:=AA bn;have HM:=AA (show CQ (BB P.Vw k) gA=CQ (AF P.Vw.V3 k).Tj gA from rfl);generalize CQ (AF P.Vw.V3 k).Tj gA=b at CM HM;generalize(AF P.Vw.V3 k).Tj.length=rl at*;clear fz iH bO bn hp;go_wp2_with fail;refine CM.mono ?_;rintro r w5 ⟨rfl,b5⟩;have gh:=AA (lV.out.trans (b5.mono lV.out.size));clear b5 CM
    by_cases k0:k=0
    .have t0:((k:Int)==0)=true:=by simp[k0]
     cases b
     .have S:=AA (show CU P=false by rw[i3.out,Up hC (by rw[HM.out];simp[k0])];rfl)
      clear k0;go_wp2_with fail;go_ret;exact⟨AI S.out.symm,dp.out.trans (gh.out.mono dp.out.size)⟩
     .have K0:=AA k0
      clear k0;go_wp2_with fail;go_roundw
      case rel=>exact⟨k+1,by omega,by go_num,λj E=>by
       rcases xE.1 E with x|x
       .exact ei.out j x
       .subst x;rw[HM.out];simp[K0.out],gh.out⟩
      case measure=>simp[intOf];omega
    .have t0:((k:Int)==0)=false:=by simp[k0]
     cases b
     .have K0:=AA k0
      clear k0;go_wp2_with fail;go_roundw
      case rel=>exact⟨k+1,by omega,by go_num,λj E=>by
       rcases xE.1 E with x|x
       .exact ei.out j x
       .subst x;rw[HM.out];simp[K0.out],gh.out⟩
      case measure=>simp[intOf];omega
     .have S:=AA (show CU P=false by rw[i3.out,Up hC (by rw[HM.out];simp[k0])];rfl)
      clear k0;go_wp2_with fail;go_ret;exact⟨AI S.out.symm,dp.out.trans (gh.out.mono dp.out.size)⟩
   .obtain rfl:k=3:=by omega
    have lO:=AA (show CU P=((yN 16).all (Et P)&&(yN 16).all (ED P)&&(Bh P.Il 0 15&&Bh P.UQ 1 6&&decide ((As P.Xx 1:Int)<=P.UQ))) by rw[i3.out,X1 bO];simp);have fA:=AA A;have TL:=AA (RU HL.out.2.2);clear bO i3;rw[show((3:Nat):Int)=3 from rfl];have x6:=(AD (AB H3.out.1 A)).2.2.2.2.2.2.1;rw[HL.out.1] at x6;go_wp2_with (refine Pq (n:=16) rfl rfl 3 (.int .i64 0) 8 underlying29 Tryz.zT rfl rfl (by omega) (by unfold maxLen;omega) ?_;intro w6 ad be iF;replace x6:=(be.cell (yM wr _ x6)).trans x6);have St:AG w3.heap.size w6 (.slice (some ⟨wr.heap.size,0,none⟩) 16 16) (yd 16 0):=BZ (by simpa[AG] using ad) fA.out.size;have nX:=AA (fA.out.trans (be.mono fA.out.size));generalize wr.heap.size=gk at*;clear ad be iF A;go_wp2_with fail;clear x6;go_loopw [6,49] (λ_ ix wx=>∃k:Nat,k<=16/\ix=.int .i64 k/\(∀j,j<k->Et P j=true)/\AG w3.heap.size wx (.slice (some ⟨gk,0,none⟩) 16 16) ((P.Xx.take k).foldl Ga (yd 16 0))/\Below w3.heap.size w3 wx) (λ_ ix _=>16 - (intOf ix).toNat)
    exact⟨0,by omega,rfl,λj E=>by omega,St,nX.out⟩
    clear St;obtain⟨k,iL,rfl,bO,St,A⟩:=hrel;have KA:=AA (λs=>Zg (l:=P.Xx.take k) (WU HL.out.1 bO) (ks:=yd 16 0) (by simp) s)
    by_cases fQ:k<16
    .have mH:(k:Int)<16:=by omega
     have C:=Wu (AB H3.out.1 A) (H3.out.2.below A) z.out TL.out.1 TL.out.2 HL.out.1 St (KA.out 0).1 (λj E=>by
      rw[(KA.out j).2];have h0:nth (yd 16 (0:Int)) j=0:=by unfold nth;rw[yg,uR];split<;>rfl
      have N:Ch (P.Xx.take k) j<=(P.Xx.take k).length:=by unfold Ch;exact vy
      have V:(P.Xx.take k).length<=16:=by rw[yt];omega
      omega) A.size fQ
     have Nx:=AA (show(P.Xx.take (k+1)).foldl Ga (yd 16 0)=Ga ((P.Xx.take k).foldl Ga (yd 16 0)) (AC P.Xx k) by rw[DF (show P.Xx[k]?=some (AC P.Xx k) from BD (by have:=HL.out.1;omega)),vJ];rfl)
     have ei:=AA bO;have Y:=AA A;generalize(P.Xx.take k).foldl Ga (yd 16 0)=ks at*;clear bO A St KA;go_wp2_with fail;refine C.mono ?_;rintro r w7 ⟨gx,⟨rfl,o7,g7,b7⟩,e7⟩;have lX:=AA (Y.out.trans b7);have O7:=AA o7;cases jX:Et P k
     .have S:=AA (show CU P=false by rw[lO.out,OR fQ jX];rfl)
      clear o7 g7 b7 e7 C;go_wp2_with fail;go_ret;exact⟨AI S.out.symm,dp.out.trans (lX.out.mono dp.out.size)⟩
     .have E7:=AA (e7 jX)
      have PH:=AA jX;clear o7 g7 b7 e7 C;go_wp2_with fail;go_roundw
      case rel=>exact⟨k+1,by omega,by go_num,λj E=>by
       rcases xE.1 E with x|x
       .exact ei.out j x
       .subst x;exact PH.out,by rw[Nx.out,<-E7.out];exact O7.out,lX.out⟩
      case measure=>simp[intOf];omega
    .obtain rfl:k=16:=by omega
     have kM:=AA (show CU P=((yN 16).all (ED P)&&(Bh P.Il 0 15&&Bh P.UQ 1 6&&decide ((As P.Xx 1:Int)<=P.UQ))) by rw[lO.out,yr.2 (λj E=>bO j (yj.1 E))];simp);rw[xo (by have:=HL.out.1;omega)] at St KA;generalize P.Xx.foldl Ga (yd 16 0)=ks at St KA;have fY:=(KA.out 0).1;have bC:wr.ownsRow w3.heap.size 3 1 (.slice (some ⟨gk,0,none⟩) 16 16) 16 (ks.map (ym .i64)):=by have:=St;unfold AG at this;rwa [fY] at this
     have KC:=AA (λ(j:Nat)(E:j<16)=>show wr.cell? ⟨gk,j,none⟩=some (.int .i64 (Ch P.Xx j:Int)) from by
      rw[xx bC j (by omega),xz,yH (by omega)];have e:=(KA.out j).2;have h0:nth (yd 16 (0:Int)) j=0:=by unfold nth;rw[yg,uR];split<;>rfl
      rw[h0,Int.zero_add] at e;unfold nth at e;rw[yg,yH (by omega)] at e;simp at e;rw[<-e];rfl)
     obtain⟨L,s1,s2⟩:=(H3.out.2.below A).2.1;have gX:P.swap.length=16:=(Gf.1 HL.out.2.1).1;have eR:L.length=16:=by rw[s2.1,gX]
     obtain⟨oZ,oW,rfl,_,_,HS⟩:=BG.open FI (by decide) s1;have x4:=(AD (AB H3.out.1 A)).2.2.2.2.1;rw[eR] at x4;have nP:=AA x4;have Y:=AA A;have i8:=AA (yk HS (yk s2 (yk gX eR)));clear bO A St KA bC fY HS s1 s2 gX eR x4;generalize hW4:wr=w4 at*;go_wp2_with fail;go_loopw [7,8,59] (λ_ _ ix wx=>∃k:Nat,k<=16/\ix=.int .i64 k/\(∀j,j<k->ED P j=true)/\w4=wx) (λ_ _ ix _=>16 - (intOf ix).toNat)
     exact⟨0,by omega,rfl,λj E=>by omega,rfl⟩
     obtain⟨k,iL,rfl,bO,rfl⟩:=hrel
     by_cases fk:k<16
     .have oz:(k:Int)<16:=by omega
      have nO:=KC.out k fk;obtain⟨u,hu⟩:∃u,L[k]?=some u:=⟨_,yH (by have:=i8.out.2.2.2;omega)⟩
      obtain⟨sb,ow,rfl,oB,lF⟩:=i8.out.1 k u hu;have DS:=lF 0 _ rfl;have jT:=i8.out.2.1.2 k u (AH P.swap k) hu (by unfold AH;exact BD (by have:=i8.out.2.2.1;omega));obtain⟨ua,uc,rfl,_,_,_⟩:=jT.open;rw[wR,xU] at DS;have x4:=nP.out;have ei:=AA bO;have SO:ED P k=decide (Ch P.Xx k=if(AH P.swap k).isEmpty then 0 else 1):=rfl;generalize Ch P.Xx k=n at nO SO;generalize AH P.swap k=row at DS SO jT;clear lF bO hu jT
      by_cases hr:row=[]
      .subst hr
       simp only[wY] at DS
       by_cases eL:n=0
       .have PS:=AA (show ED P k=true by rw[SO,eL];rfl)
        subst eL;clear SO;go_wp2_with fail;go_roundw
        case rel=>exact⟨k+1,by omega,by go_num,λj E=>by
         rcases xE.1 E with x|x
         .exact ei.out j x
         .subst x;exact PS.out,trivial⟩
        case measure=>simp[intOf];omega
       .have S:=AA (show CU P=false by rw[kM.out,OR fk (by rw[SO];simp[eL])];rfl)
        have t1:((n:Int) !=0)=true:=by simp;omega
        clear SO eL;go_wp2_with fail;go_ret;exact⟨AI S.out.symm,dp.out.trans (Y.out.mono dp.out.size)⟩
      .have g0:0<row.length:=List.length_pos_iff.2 hr
       have he:row.isEmpty=false:=by cases row with|nil=>exact absurd rfl hr|cons a l=>rfl
       generalize row.length=rl at DS g0;have p1:(0:Int)<(rl:Int):=by omega
       have t2:((rl:Int)==0)=false:=by simp;omega
       rw[he] at SO;clear hr he
       by_cases iJ:n=1
       .have PS:=AA (show ED P k=true by rw[SO,iJ];rfl)
        subst iJ;clear SO;go_wp2_with fail;go_roundw
        case rel=>exact⟨k+1,by omega,by go_num,λj E=>by
         rcases xE.1 E with x|x
         .exact ei.out j x
         .subst x;exact PS.out,trivial⟩
        case measure=>simp[intOf];omega
       .have S:=AA (show CU P=false by rw[kM.out,OR fk (by rw[SO];simp[iJ])];rfl)
        have t1:((n:Int) !=1)=true:=by simp;omega
        clear SO iJ;go_wp2_with fail;go_ret;exact⟨AI S.out.symm,dp.out.trans (Y.out.mono dp.out.size)⟩
     .obtain rfl:k=16:=by omega
      have io:=AA (show CU P=(Bh P.Il 0 15&&Bh P.UQ 1 6&&decide ((As P.Xx 1:Int)<=P.UQ)) by rw[kM.out,yr.2 (λj E=>bO j (yj.1 E))];simp);have N4:=AB H3.out.1 Y.out;have lq:=H3.out.2.below Y.out;have x7:=(AD N4).2.2.2.2.2.2.2.1;have x8:=(AD N4).2.2.2.2.2.2.2.2;have h9:=AW N4;have CN:=AA (λW (R:Below w4.heap.size w4 W)=>Ww (AD (AB N4 R)).2.2.2.2.2.2.1 (BG.below lq.2.2.2 R) HL.out.1 1);have CH:=AA (λW=>D5 P.Il 0 15 W);have CL:=AA (λW=>D5 P.UQ 1 6 W);clear bO N4 lq;cases j6:Bh P.Il 0 15
      .have S:=AA (show CU P=false by rw[io.out,j6];rfl)
       rw[j6] at CH;go_wp2_with fail;refine Ac 14 103 [.p w.heap.size 7,.i (P.Il),.b false,.b false,.u,.u,.u,.b false,.b false,.u,.u,.u,.u,.b false] (λ_ _ _=>True) ?_ ?_
       .intro i H o O a wx Y J Z hg z
        match i,H with
        |0,_|3,_|7,_|8,_|13,_=>exact sP O z Y J
        |1,_=>exact sL O z Y J (hl:=Fy (bc Z h9 x7))
        |2,_=>exact sE O z Y J (CH.out _)
        |4,_|5,_|6,_|9,_|10,_|11,_|12,_=>exact sB O z J
       .intro L wx hR Z
        have fM:(L 13)=.bool false:=Bg hR 13;clear hR;simp only[Aj,Ag,yN,yJ,yK,yI,fM];simp;clear fM;go_wp2_with fail;go_ret;exact⟨AI S.out.symm,dp.out.trans ((Y.out.trans (Z.mono Y.out.size)).mono dp.out.size)⟩
      .rw[j6] at CH io
       cases gG:Bh P.UQ 1 6
       .have S:=AA (show CU P=false by rw[io.out,gG];rfl)
        rw[gG] at CL;go_wp2_with fail;refine Ac 14 103 [.p w.heap.size 7,.i (P.Il),.b true,.b true,.p w.heap.size 8,.i (P.UQ),.b false,.b false,.b false,.u,.u,.u,.u,.b false] (λ_ _ _=>True) ?_ ?_
        .intro i H o O a wx Y J Z hg z
         have bB:=bc Z h9 x7;have bs:=bc Z h9 x8
         match i,H with
         |0,_|3,_|4,_|7,_|8,_|13,_=>exact sP O z Y J
         |1,_|5,_=>exact sL O z Y J (hl:=Fy ‹_›)
         |2,_=>exact sE O z Y J (CH.out _)
         |6,_=>exact sE O z Y J (CL.out _)
         |9,_|10,_|11,_|12,_=>exact sB O z J
        .intro L wx hR Z
         have fM:(L 13)=.bool false:=Bg hR 13;clear hR;simp only[Aj,Ag,yN,yJ,yK,yI,fM];simp;clear fM;go_wp2_with fail;go_ret;exact⟨AI S.out.symm,dp.out.trans ((Y.out.trans (Z.mono Y.out.size)).mono dp.out.size)⟩
       .rw[gG] at CL io
        have S:=AA (show CU P=decide ((As P.Xx 1:Int)<=P.UQ) by rw[io.out];simp);generalize As P.Xx 1=cn at CN S;go_wp2_with fail;refine Ac 14 103 [.p w.heap.size 7,.i (P.Il),.b true,.b true,.p w.heap.size 8,.i (P.UQ),.b true,.b true,.b true,.i ((cn:Int)),.p w.heap.size 8,.i (P.UQ),.b (decide ((cn:Int)<=P.UQ)),.b (decide ((cn:Int)<=P.UQ))] (λ_ _ _=>True) ?_ ?_
        .intro i H o O a wx Y J Z hg z
         have bB:=bc Z h9 x7;have bs:=bc Z h9 x8
         match i,H with
         |0,_|3,_|4,_|7,_|8,_|10,_|13,_=>exact sP O z Y J
         |1,_|5,_|11,_=>exact sL O z Y J (hl:=Fy ‹_›)
         |2,_=>exact sE O z Y J (CH.out _)
         |6,_=>exact sE O z Y J (CL.out _)
         |9,_=>exact sD O z Y J (CN.out _ Z)
         |12,_=>clear bB bs;obtain rfl:=yQ O;have d9:(a.tmps[98]?.getD undef)=.int .i64 cn:=BY J 9;have fG:(a.tmps[100]?.getD undef)=.int .i64 (P.UQ):=BY J 11;have d8:(a.tmps[97]?.getD undef)=.bool true:=BY J 8;clear J Y;refine AY.yes rfl rfl d8 ?_;go_simp;exact z.out _ _ rfl (yO _ _)
        .intro L wx hR Z
         have fM:(L 13)=.bool (decide ((cn:Int)<=P.UQ)):=Bg hR 13;clear hR;simp only[Aj,Ag,yN,yJ,yK,yI,fM];simp;clear fM;go_wp2_with fail;go_ret;exact⟨AI S.out.symm,dp.out.trans ((Y.out.trans (Z.mono Y.out.size)).mono dp.out.size)⟩
 .have S:=AA (show CU P=false by rw[Pt];simp[hl])
  have t1:((P.Xx.length:Int) !=16)=true:=by simp;omega
  have HB:=AA (dx.out.trans (B2.out.mono dx.out.size));clear Pt N0 b0 h h0 hl;go_wp2_with fail;go_ret;exact⟨AI S.out.symm,HB.out⟩
section
variable {lo g:Nat} {w w1:World} {m i e c s l q:Value} {P:AR}
theorem JR.zt(h:JR lo g w m i e c s l q P)(x:Int):JR lo g (w.setCell ⟨g,7,none⟩ (.int .i64 x)) m i e c s l q {P with Il:=x}/\w.grownBy (w.setCell ⟨g,7,none⟩ (.int .i64 x)) (some g):=by have ey:=Ak w g 7 (.int .i64 x);have F:=h.own.yW ey h.yV;refine⟨⟨?_,h.yU,⟨F.ker,F.swp,F.low,F.pgs,F.apart⟩⟩,ey⟩;have:=yF w g 7 _ 32 (.int .i64 x) h.yV;simpa using this
theorem JR.zA{gq n0:Nat}{x y:Bs}{u:Value}(h:JR lo g w m i e c s l (.slice (some ⟨gq,0,none⟩) n0 cg) P)(eL:n0=P.Xx.length)(D:P.Xx[n]?=some x)(E:j<3)(hy:DI y=(DI x).set j u):
 JR lo g (w.setCell ⟨gq,n*3+j,none⟩ u) m i e c s l (.slice (some ⟨gq,0,none⟩) n0 cg) {P with Xx:=P.Xx.set n y}/\w.grownBy (w.setCell ⟨gq,n*3+j,none⟩ u) (some gq)/\lo<=gq:=by
 obtain⟨hB,fm,⟨k0,⟨L,hs⟩,fj,hp,ez⟩⟩:=h;subst eL;have S:=AO.zI Es hp D E hy;obtain⟨gL,hc⟩:=A9 hp gq rfl;exact⟨⟨Ap hB S.2 (Bt hc hB),fm,⟨k0.yW S.2 hc,⟨L,hs.yW S.2 hc⟩,FR fj S.2 hc,S.1,ez⟩⟩,S.2,(yB hp gq rfl).1⟩
theorem JR.zB{gq n0:Nat}(h:JR lo g w m i e c s l (.slice (some ⟨gq,0,none⟩) n0 cg) P)(eL:n0=P.Xx.length)(hn:n<P.Xx.length)(y:Bs):
 JR lo g (((w.setCell ⟨gq,n*3,none⟩ (.int .i64 y.w)).setCell ⟨gq,n*3+1,none⟩ (.int .i64 y.a)).setCell ⟨gq,n*3+2,none⟩ (.bool y.u)) m i e c s l (.slice (some ⟨gq,0,none⟩) n0 cg) {P with Xx:=P.Xx.set n y}/\w.grownBy (((w.setCell ⟨gq,n*3,none⟩ (.int .i64 y.w)).setCell ⟨gq,n*3+1,none⟩ (.int .i64 y.a)).setCell ⟨gq,n*3+2,none⟩ (.bool y.u)) (some gq)/\lo<=gq:=by
 obtain⟨hB,fm,⟨k0,⟨L,hs⟩,fj,hp,ez⟩⟩:=h;subst eL;have S:=AO.stored Es hp hn y;obtain⟨gL,hc⟩:=A9 hp gq rfl;exact⟨⟨Ap hB S.2 (Bt hc hB),fm,⟨k0.yW S.2 hc,⟨L,hs.yW S.2 hc⟩,FR fj S.2 hc,S.1,ez⟩⟩,S.2,(yB hp gq rfl).1⟩
theorem JR.zl(h:JR lo g w m i e c s l q P){L:List Value}{S:List (List Int)}(K:w.grownBy w1 s.ownBlock)(hO:Az lo w1 s L S):JR lo g w1 m i e c s l q {P with swap:=S}:=by
 obtain⟨hB,fm,⟨⟨⟨ms,k1,k2,k3⟩,k4,⟨ps,k5,k6,k7⟩,k8⟩,⟨us,hs⟩,fj,hp,ez⟩⟩:=h;have dt:=Dx hs.1 hB (by decide);refine⟨(K.block g (AW hB) (λe=>dt e.symm)).trans hB,fm,⟨⟨⟨ms,Aw k1 K ez.ne,k2.mono λ_ _ x=>Aw x K (BJ x hs.1 (by decide)).ne,k3⟩,Aw k4 K (BJ k4 hs.1 (by decide)).ne,⟨ps,Aw k5 K (BJ k5 hs.1 (by decide)).ne,k6.mono λ_ _ x=>⟨Aw x.1 K (BJ x.1 hs.1 (by decide)).ne,x.2⟩,k7⟩,Aw k8 K (BJ k8 hs.1 (by decide)).ne⟩,⟨L,hO⟩,Aw fj K (BJ fj hs.1 (by decide)).ne,Aw hp K (BJ hp hs.1 (by decide)).ne,ez⟩⟩
theorem JR.page(h:JR lo g w m i e c s l q P){n:Nat}(hn:n<P.Xx.length):∃gq cg,q=.slice (some ⟨gq,0,none⟩) P.Xx.length cg/\P.Xx.length<=cg/\lo<=gq/\gq<w.heap.size/\gq≠g/\(∀j,w.frozen? ⟨gq,j,none⟩=false)/\w.cell? ⟨gq,n*3,none⟩=some (.int .i64 (AC P.Xx n).w)/\w.cell? ⟨gq,n*3+1,none⟩=some (.int .i64 (AC P.Xx n).a)/\w.cell? ⟨gq,n*3+2,none⟩=some (.bool (AC P.Xx n).u):=by obtain⟨gq,cg,rfl,N,_,h3,h4,h5⟩:=h.own.pgs.zX (by omega);have hc:=AO.zK Es h.own.pgs (k:=n) (x:=AC P.Xx n) (by unfold AC;exact BD hn);obtain⟨gL,eD⟩:=A9 h.own.pgs gq rfl;exact⟨gq,cg,rfl,N,h3,h4,Bt eD h.yV,h5,hc 0 _ rfl,hc 1 _ rfl,hc 2 _ rfl⟩
theorem JR.pg{gq n0:Nat}(h:JR lo g w m i e c s l (.slice (some ⟨gq,0,none⟩) n0 cg) P){n:Nat}(hn:n<P.Xx.length):gq<w.heap.size/\(∀j,w.frozen? ⟨gq,j,none⟩=false)/\w.cell? ⟨gq,n*3,none⟩=some (.int .i64 (AC P.Xx n).w)/\w.cell? ⟨gq,n*3+1,none⟩=some (.int .i64 (AC P.Xx n).a)/\w.cell? ⟨gq,n*3+2,none⟩=some (.bool (AC P.Xx n).u):=by obtain⟨oU,nJ,e,N,V,h3,h4,h5⟩:=h.page hn;simp only[xS,Option.some.injEq,Addr.mk.injEq] at e;obtain⟨⟨rfl,_⟩,_,rfl⟩:=e;exact⟨h3,h5⟩
end
structure dA(p:AR)(n m:Nat)(Xx:List Bs)(Il:Int):Prop where
 vic:Ct 32 p.Xx p.Il=(Xx,Il,some m)
 m16:m<16
 mw:(AC p.Xx m).w=1
 ok1:Ec {p with Xx:=Xx,Il:=Il}
 mw1:(AC Xx m).w=1
 ok2:Ec (Ep {p with Xx:=Xx,Il:=Il} m)
 free:0<=Ar (Ep {p with Xx:=Xx,Il:=Il} m).Vw.Xy
 nw:(AC (Ep {p with Xx:=Xx,Il:=Il} m).Xx n).w≠1
 pg:(AC (Ep {p with Xx:=Xx,Il:=Il} m).Xx n).w=(AC p.Xx n).w/\(AC (Ep {p with Xx:=Xx,Il:=Il} m).Xx n).a=(AC p.Xx n).a
 room:(As (Ep {p with Xx:=Xx,Il:=Il} m).Xx 1:Int)+1<=p.UQ
 is:CJ p n=Pi (Ep {p with Xx:=Xx,Il:=Il} m) n
theorem XS(h:Ec p){n:Nat}(hn:n<16)(hw:(AC p.Xx n).w≠1)(hf:Jt p=true)(el:¬(Ar p.Vw.Xy<0/\As p.Xx 1=0)):∃m Xx Il,dA p n m Xx Il:=by
 have hc:0<As p.Xx 1:=by
  rcases wC (As p.Xx 1) with h0|h0
  .exfalso
   unfold Jt at hf;simp only[xP,decide_eq_true_eq] at hf;have:=h.UQ
   rcases hf with hf|hf
   .exact el ⟨hf,h0⟩
   .omega
  .exact h0
 obtain⟨i,H,j5⟩:=Jg.1 hc;rw[h.zZ] at H;obtain⟨m,hm⟩:=JF 32 p.Xx p.Il h.Il.1 h.Il.2 h.zZ i H j5 (.inr (by have:=QN h.Il.1 h.Il.2 H;omega));have hU:=Iq 32 p.Xx p.Il;have hH:=KH 32 p.Xx p.Il h.Il.1 h.Il.2;have hI:=Jl 32 p.Xx p.Il h.Il.1 h.Il.2 m hm;have hT:CJ p n=match Ct 32 p.Xx p.Il with
  |(Xx,Il,some m)=>Pi (Ep {p with Xx:=Xx,Il:=Il} m) n
  |(_,_,none)=>(p,false):=by
  unfold CJ;rw[if_neg hw,if_neg el,if_pos hf];rfl
 revert hU hH hI hm hT
 generalize hv:Ct 32 p.Xx p.Il=r;obtain⟨pg,hd,o⟩:=r;intro hm hU hH hI hT;cases hm;have h':=hU.ok h hH.1 hH.2;have mw1:=(hU.w m).trans hI.2;have O:=UM h' hI.1 mw1;have mR:n≠m:=λe=>hw (by rw[e];exact hI.2)
 have lr:AC (Ep {p with Xx:=pg,Il:=hd} m).Xx n=AC pg n:=by
  show AC (pg.set m _) n=_
  rw[Ea,if_neg (λh=>mR h.1)]
 refine⟨m,pg,hd,hv,hI.1,hI.2,h',mw1,O.1,O.2.2.2,?_,?_,?_,hT⟩
 .rw[lr,hU.w];exact hw
 .rw[lr];exact⟨hU.w n,hU.at' n⟩
 .have N:As (Ep {p with Xx:=pg,Il:=hd} m).Xx 1+1=As pg 1:=O.2.2.1
  have V:As pg 1=As p.Xx 1:=hU.count 1;have h3:=h.count;omega
theorem XR(h:Ec p){n:Nat}(hw:(AC p.Xx n).w≠1)(hf:Jt p=false):CJ p n=Pi p n/\0<=Ar p.Vw.Xy:=by
 have N:¬Ar p.Vw.Xy<0:=λe=>by unfold Jt at hf;simp[e] at hf
 refine⟨?_,by omega⟩;unfold CJ;rw[if_neg hw,if_neg (λx=>N x.1),if_neg (by rw[hf];simp)]
theorem XT(hw:(AC p.Xx n).w≠1)(h:Ar p.Vw.Xy<0/\As p.Xx 1=0):CJ p n=(p,false):=by unfold CJ;rw[if_neg hw,if_pos h]
theorem Vq{k:Nat}{Xx:List Bs}{Il:Int}:Ct (k+1) Xx Il=if(AC Xx Il.toNat).w=1/\(AC Xx Il.toNat).u=false then(Xx,FQ Il,some Il.toNat) else Ct k (Xx.set Il.toNat (PR (AC Xx Il.toNat))) (FQ Il):=rfl
theorem Vp(h:Ec p):(Ct 32 p.Xx p.Il).2.2=none↔As p.Xx 1=0:=by
 constructor
 .intro hx
  rcases wC (As p.Xx 1) with h0|h0
  .exact h0
  .obtain⟨i,H,j5⟩:=Jg.1 h0
   rw[h.zZ] at H;obtain⟨m,hm⟩:=JF 32 p.Xx p.Il h.Il.1 h.Il.2 h.zZ i H j5 (.inr (by have:=QN h.Il.1 h.Il.2 H;omega));rw[hx] at hm;cases hm
 .intro h0
  cases hx:(Ct 32 p.Xx p.Il).2.2 with
  |none=>rfl
  |some m=>have hI:=Jl 32 p.Xx p.Il h.Il.1 h.Il.2 m hx;have:=Jg.2 ⟨m,by rw[h.zZ];exact hI.1,hI.2⟩;omega
theorem EA.one(a:List Bs)(j:Nat):EA a (a.set j (PR (AC a j))):=EA.step (EA.refl _)
theorem EA.trans{a b c:List Bs}(h:EA a b)(h':EA b c):EA a c:=⟨h'.len.trans h.len,λi=>(h'.w i).trans (h.w i),λi=>(h'.at' i).trans (h.at' i),λi hu=>h.u i (h'.u i hu)⟩
def Jb(k:AN)(f:Int)(ws:List Int)(j:Nat):AN:=(yN j).foldl (λk i=>(Ae k (Ai 3 f (i:Nat) (ws.getD i 0))).1) k
theorem Nm{k:AN}{f:Int}{ws:List Int}:Jb k f ws (j+1)=(Ae (Jb k f ws j) (Ai 3 f (j:Int) (ws.getD j 0))).1:=by unfold Jb;rw[xI,vJ];rfl
theorem Qs{k:AN}(h:DP k){f:Int}{ws:List Int}(j:Nat):DP (Jb k f ws j):=by
 induction j with
 |zero=>exact h
 |succ j ih=>rw[Nm];exact II ih
theorem Zc{k1:AN}{fr:Int}(h:Ae p.Vw (Ai 1 0 0 0)=(k1,fr,0)):
 Pi p n=({p with Vw:=(Ae (if(AC p.Xx n).w=2 then VY k1 fr (AH p.swap (AC p.Xx n).a.toNat) else k1) (LH p n (Iy fr))).1,swap:=if(AC p.Xx n).w=2 then p.swap.set (AC p.Xx n).a.toNat [] else p.swap,Xx:=p.Xx.set n ⟨1,fr,true⟩},true):=by
 unfold Pi;rw[h];simp only;rw[if_neg (by simp)]
theorem DK{lo g:Nat}{w:World}{a0 a1 a2 a3 a4 a5 a6 a7 a8 m i e c s l q:Value}{P:AR}(hB:w.heap[g]?=some (.cells #[a0,a1,a2,a3,a4,a5,a6,a7,a8] 32 (0,0)))(ho:Fh lo w m i e c s l q P):
 (((Fd w g m i e c s l q).setCell ⟨g,7,none⟩ (.int .i64 P.Il)).setCell ⟨g,8,none⟩ (.int .i64 P.UQ)).heap[g]?=some (.cells #[m,i,e,c,s,l,q,.int .i64 P.Il,.int .i64 P.UQ] 32 (0,0))/\
 Fh lo (((Fd w g m i e c s l q).setCell ⟨g,7,none⟩ (.int .i64 P.Il)).setCell ⟨g,8,none⟩ (.int .i64 P.UQ)) m i e c s l q P/\
 w.grownBy (((Fd w g m i e c s l q).setCell ⟨g,7,none⟩ (.int .i64 P.Il)).setCell ⟨g,8,none⟩ (.int .i64 P.UQ)) (some g):=by
 have gr:=F8 (w:=w) (g:=g) (b0:=m) (b1:=i) (b2:=e) (b3:=c) (b4:=s) (b5:=l) (b6:=q) (b7:=.int .i64 P.Il) (b8:=.int .i64 P.UQ);exact⟨IP hB,ho.yW gr hB,gr⟩
theorem KI{B g:Nat}{w0 w:World}{a0 a1 a2 a3 a4 a5 a6 a7 a8:Value}(hB:w.heap[g]?=some (.cells #[a0,a1,a2,a3,a4,a5,a6,a7,a8] 32 (0,0)))(A:Below B w0 w)(K:B<=g):
 (((Fd w g (.slice none 0 0) (.slice none 0 0) (.slice none 0 0) (.slice none 0 0) (.slice none 0 0) (.slice none 0 0) (.slice none 0 0)).setCell ⟨g,7,none⟩ (.int .i64 0)).setCell ⟨g,8,none⟩ (.int .i64 0)).heap[g]?=some (.cells #[.slice none 0 0,.slice none 0 0,.slice none 0 0,.slice none 0 0,.slice none 0 0,.slice none 0 0,.slice none 0 0,.int .i64 0,.int .i64 0] 32 (0,0))/\
 Below B w0 (((Fd w g (.slice none 0 0) (.slice none 0 0) (.slice none 0 0) (.slice none 0 0) (.slice none 0 0) (.slice none 0 0) (.slice none 0 0)).setCell ⟨g,7,none⟩ (.int .i64 0)).setCell ⟨g,8,none⟩ (.int .i64 0)):=
 ⟨IP hB,AM A F8 K (yL K (Nat.le_of_lt (AW hB)))⟩
theorem JR.start{lo:Nat}{w:World}{m i e c s l q:Value}{P:AR}(ho:Fh lo w m i e c s l q P)(dn:lo<=w.heap.size):JR lo w.heap.size (w.alloc (.cells #[m,i,e,c,s,l,q,.int .i64 P.Il,.int .i64 P.UQ] 32)) m i e c s l q P:=
 ⟨yw _ _,dn,ho.below (AJ _ _)⟩
def KX(w:World)(t:AR×Bool)(r:Ending)(w':World):Prop:=∃m i e c s l q,r=.returned (.tuple #[AQ m i e c s l q t.1.Il t.1.UQ,.bool t.2])/\Fh w.heap.size w' m i e c s l q t.1/\Below w.heap.size w w'
def Xc(w:World)(t:AR×Int×Bool)(r:Ending)(w':World):Prop:=∃m i e c s l q,r=.returned (.tuple #[AQ m i e c s l q t.1.Il t.1.UQ,.int .i64 t.2.1,.bool t.2.2])/\Fh w.heap.size w' m i e c s l q t.1/\Below w.heap.size w w'
def KW(w:World)(t:AR×Int)(r:Ending)(w':World):Prop:=∃m i e c s l q,r=.returned (.tuple #[AQ m i e c s l q t.1.Il t.1.UQ,.int .i64 t.2])/\Fh w.heap.size w' m i e c s l q t.1/\Below w.heap.size w w'
def Th(r:Ending):Prop:=r=.returned (.tuple #[AQ (.slice none 0 0) (.slice none 0 0) (.slice none 0 0) (.slice none 0 0) (.slice none 0 0) (.slice none 0 0) (.slice none 0 0) 0 0,.int .i64 5])
theorem Zo{Q:AR}(h:CJ p (a/4)=(Q,true)):LN p a=({Q with Vw:=(Ae Q.Vw (Ai 10 (a:Int) 0 0)).1},(Ae Q.Vw (Ai 10 (a:Int) 0 0)).2.1,true):=by unfold LN;rw[h];rfl
theorem Yy{x:Int}{Q:AR}(h:CJ p (a/4)=(Q,true)):JP p a x=({Q with Vw:=(Ae Q.Vw (Ai 11 (a:Int) x 0)).1},true):=by unfold JP;rw[h];rfl
theorem Rk(mv iv ev cv sv lv qv:Value)(P:AR)(call:AU)(w:World)(h:KR w mv iv ev cv sv lv qv P)(hs:Jo P.Vw)(el:(CU P&&Bh call.e 1 2)=false):
 Calls prog 6 #[AQ mv iv ev cv sv lv qv P.Il P.UQ,.agg #[.int .i64 call.k,.int .i64 call.e,.int .i64 call.a,.int .i64 call.b,.int .i64 call.c,.string call.nm]] w λr w'=>Th r/\Below w.heap.size w w':=by
 unfold AQ;obtain⟨B0,B1,B2,bp,fv⟩:=FY w (.cells #[mv,iv,ev,cv,sv,lv,qv,.int .i64 P.Il,.int .i64 P.UQ] 32) (.cells #[.int .i64 call.k,.int .i64 call.e,.int .i64 call.a,.int .i64 call.b,.int .i64 call.c,.string call.nm] 34) (.cells #[.slice none 0 0,.slice none 0 0,.slice none 0 0,.slice none 0 0,.slice none 0 0,.slice none 0 0,.slice none 0 0,.int .i64 0,.int .i64 0] 32);have h0:=h.below bp;go_in;go_wp2_with fail;generalize((w.alloc _).alloc _).alloc _=W0 at*;have CV:=AA (λW (R:Below W0.heap.size W0 W)=>IG mv iv ev cv sv lv qv P W (h0.below R) hs);have dx:=AA bp;have fT:=AA B1;have gj:=AA B2;generalize CU P=ok at*;clear h h0 bp B0 fv;refine(CV.out W0 (yO _ _)).mono ?_;rintro r w1 ⟨rfl,b1⟩;have Bw:=AA (dx.out.trans (b1.mono dx.out.size));have N1:=AB gj.out b1;obtain⟨_,y1,_⟩:=Dd (AB fT.out b1);clear b1 B1 B2 CV;cases ok
 rotate_left
 focus
  go_wp2_with fail
  refine(Ou _ _).mono ?_;rintro r w2 ⟨rfl,rfl⟩;rw[show Bh call.e 1 2=false by simpa using el]
 rotate_left
 all_goals
  clear y1
  have f1:=AK N1;obtain⟨a0,a1,a2,a3,a4,a5,a6,a7,a8⟩:=AD N1;have S2:=AA (KI N1 (Bw.out) (by omega));clear N1;go_wp2_with fail;clear a0 a1 a2 a3 a4 a5 a6 a7 a8 f1;obtain⟨N2,B2⟩:=S2.out;unfold Fd at N2 B2;exact yC (v:=.tuple #[.agg #[_,_,_,_,_,_,_,_,_],_]) (by simp[results,Tryz.results6,go_sem,AD N2]) rfl ⟨rfl,B2⟩
theorem P8(mv iv ev cv sv lv qv:Value)(P:AR)(call:AU)(w:World)(h:KR w mv iv ev cv sv lv qv P)(hP:Ec P)(he:1<=call.e/\call.e<=2)(eB:call.nm.size<=maxLen)(fS:call.c<=9223372036854775807):
 Calls prog 6 #[AQ mv iv ev cv sv lv qv P.Il P.UQ,.agg #[.int .i64 call.k,.int .i64 call.e,.int .i64 call.a,.int .i64 call.b,.int .i64 call.c,.string call.nm]] w (KW w (Ig P call)):=by
 unfold AQ KW;obtain⟨B0,B1,B2,bp,fv⟩:=FY w (.cells #[mv,iv,ev,cv,sv,lv,qv,.int .i64 P.Il,.int .i64 P.UQ] 32) (.cells #[.int .i64 call.k,.int .i64 call.e,.int .i64 call.a,.int .i64 call.b,.int .i64 call.c,.string call.nm] 34) (.cells #[.slice none 0 0,.slice none 0 0,.slice none 0 0,.slice none 0 0,.slice none 0 0,.slice none 0 0,.slice none 0 0,.int .i64 0,.int .i64 0] 32);have h0:=h.below bp;have bL:CU P=true:=EP.2 hP;have kV:=AA ((Qk hP (c:=call) (by omega)).1);have CC:=AA (λm i e c W (hR:Le W m i e c P.Vw)=>QI m i e c P.Vw call W hR hP.k (by omega) (by omega) eB fS);have HE:=AA (show Bh call.e 1 2=true from AZ.2 he);have HO:Ig P call=({P with Vw:=(Ae P.Vw call).1},(Ae P.Vw call).2.2):=rfl;rw[HO] at kV;have Ho:=AA HO;unfold Hy at CC;generalize Ae P.Vw call=res at CC kV Ho;clear HO;obtain⟨ck,ce,ca,cb,cc,nm⟩:=call;dsimp only at*;go_in;go_wp2_with fail;generalize((w.alloc _).alloc _).alloc _=W0 at*;have CV:=AA (λW (R:Below W0.heap.size W0 W)=>IG mv iv ev cv sv lv qv P W (h0.below R) (Cc hP.k));have CO:=AA (λW (R:Below W0.heap.size W0 W)=>VZ mv iv ev cv sv lv qv P W (h0.below R) hP);rw[bL] at CV;have dx:=AA bp;have b9:=AA B0;have fT:=AA B1;have gj:=AA B2;have o4:=AA fv;clear h h0 bp B0 B1 B2 hP bL fv he;refine(CV.out W0 (yO _ _)).mono ?_;rintro r w1 ⟨rfl,b1⟩;obtain⟨x0,x1,x2,x3,x4,x5,x6,x7,x8⟩:=AD (AB b9.out b1);obtain⟨_,y1,_⟩:=Dd (AB fT.out b1);have cq:=AA b1;clear b1 CV;go_wp2_with fail;refine(Ou _ _).mono ?_;rintro r w2 ⟨rfl,rfl⟩;rw[HE.out];clear y1;go_wp2_with fail;refine(CO.out w1 cq.out).mono ?_;rintro r w2 ⟨m2,i2,e2,c2,s2,l2,q2,rfl,O2,b2⟩;unfold AQ;obtain⟨⟨⟨ma,mn,mc,rfl⟩,⟨ia,iN,ic,rfl⟩,⟨ea,en,ec,rfl⟩,⟨qa,qn,qc,rfl⟩⟩,⟨sa,sn,sc,rfl⟩,⟨la,ln,lc,rfl⟩,⟨pa,pn,pc,rfl⟩⟩:=O2.Ex;have eS:W0.heap.size<=w2.heap.size:=yL cq.out.size b2.size;have I3:=JR.start (O2.lower cq.out.size) eS;have b3:Below W0.heap.size W0 (w2.alloc (.cells #[.slice ma mn mc,.slice ia iN ic,.slice ea en ec,.slice qa qn qc,.slice sa sn sc,.slice la ln lc,.slice pa pn pc,.int .i64 P.Il,.int .i64 P.UQ] 32)):=cq.out.trans ((b2.mono cq.out.size).trans ((AJ _ _).mono eS));obtain⟨y0,y1,y2,y3,y4,y5⟩:=Dd (AB fT.out b3);clear O2 b2 x0 x1 x2 x3 x4 x5 x6 x7 x8;go_wp2_with fail;generalize w2.heap.size=g3 at*;generalize w2.alloc _=W3 at*;have jg:=AA I3;have fA:=AA b3;clear I3 b3;refine(CC.out _ _ _ _ W3 jg.out.own.ker.rd).mono ?_;rintro r w4 ⟨m4,i4,e4,c4,rfl,O4,b4⟩;obtain⟨⟨jA,jx,eK,rfl⟩,⟨jL,jN,jJ,rfl⟩,⟨kG,kC,kE,rfl⟩,⟨jr,jn,jp,rfl⟩⟩:=O4.Ex;have b5:=b4.trans ((AJ w4 (.cells #[.slice jA jx eK,.slice jL jN jJ,.slice kG kC kE,.slice jr jn jp] 28)).mono b4.size);have I4:=jg.out.below b5;have I5:=jg.out.put b5 (yG _) fA.out.size (O4.below (AJ w4 (.cells #[.slice jA jx eK,.slice jL jN jJ,.slice kG kC kE,.slice jr jn jp] 28)))
 have B5:=AM (fA.out.trans (b5.mono fA.out.size)) (Aq _ g3 (.slice jA jx eK) (.slice jL jN jJ) (.slice kG kC kE) (.slice jr jn jp)) jg.out.yU (yL fA.out.size b5.size);have oc:=AA I5;have l9:=AA B5;obtain⟨x0,x1,x2,x3,x4,x5,x6,x7,x8⟩:=AD I4.yV;have fg:=AK I4.yV;clear y0 y1 y2 y3 y4 y5 O4 b4 b5 I4 I5 B5 CC;go_wp2_with fail;clear x0 x1 x2 x3 x4 x5 x6 x7 x8 fg;generalize((((w4.alloc _).setCell _ _).setCell _ _).setCell _ _).setCell _ _=W5 at*;have B3:=AB gj.out l9.out;have jh:=AA (dx.out.trans (l9.out.mono dx.out.size));have C6:=VZ _ _ _ _ _ _ _ {P with Vw:=res.1} W5 oc.out.own.rd kV.out;refine C6.mono ?_;rintro r w5 ⟨m5,i5,e5,c5,s5,l5,q5,rfl,O5,b5⟩;unfold AQ;clear C6;obtain⟨⟨⟨ma,mn,mc,rfl⟩,⟨ia,iN,ic,rfl⟩,⟨ea,en,ec,rfl⟩,⟨qa,qn,qc,rfl⟩⟩,⟨sa,sn,sc,rfl⟩,⟨la,ln,lc,rfl⟩,⟨pa,pn,pc,rfl⟩⟩:=O5.Ex;have N5:=AB B3 b5;have S5:=DK N5 O5;obtain⟨a0,a1,a2,a3,a4,a5,a6,a7,a8⟩:=AD N5;have f5:=AK N5;have n5:=AA S5;have gh:=AA b5;have nR:=AA (AW B3);clear O5 S5 N5 b5 B3;go_wp2_with fail;clear a0 a1 a2 a3 a4 a5 a6 a7 a8 f5;obtain⟨N6,O6,nx⟩:=n5.out;have B6:=AM (jh.out.trans (gh.out.mono (by have:=jh.out.size;have:=nR.out;omega))) nx (by omega) (by have:=jh.out.size;have:=gh.out.size;omega);have O7:=O6.lower (lo':=w.heap.size) (by have:=jh.out.size;omega);unfold Fd at N6 O7 B6;exact yC (v:=.tuple #[.agg #[.slice ma mn mc,.slice ia iN ic,.slice ea en ec,.slice qa qn qc,.slice sa sn sc,.slice la ln lc,.slice pa pn pc,.int .i64 P.Il,.int .i64 P.UQ],.int .i64 res.2.2]) (by simp[results,Tryz.results6,go_sem,AD N6]) rfl (by rw[Ho.out];exact⟨_,_,_,_,_,_,_,rfl,O7,B6⟩)
theorem EN(n:Int)(w:World):Calls prog 112 #[.int .i64 n] w λe w'=>e=.returned (.bool (Bh n 0 11))/\w=w':=by go_in;go_wp2_with (go_at_call 22;refine(Cx _ _ _ _).mono ?_;rintro e w' ⟨rfl,rfl⟩);go_ret;exact⟨rfl,rfl⟩
theorem Jh(n:Int)(w:World):Calls prog 200 #[.int .i64 n] w λe w'=>e=.returned (.bool (Bh n 0 2))/\w=w':=by go_in;go_wp2_with (go_at_call 22;refine(Cx _ _ _ _).mono ?_;rintro e w' ⟨rfl,rfl⟩);go_ret;exact⟨rfl,rfl⟩
theorem Fx(n:Int)(w:World):Calls prog 162 #[.int .i64 n] w λe w'=>e=.returned (.bool (Bi n))/\w=w':=by
 by_cases V:n=2
 .subst V
  go_in;go_wp2_with fail;go_ret;exact⟨rfl,rfl⟩
 .have t2:(n==2)=false:=by simp[V]
  have hj:=AA (show Bi n=(n==3) by by_cases h3:n=3<;>simp[Bi,V,h3]);clear V;go_in;go_wp2_with fail;go_ret;exact⟨AI hj.out.symm,rfl⟩
def EU(x:Int):Int:=if x=0 then 0 else if Bn x then 1 else 2
theorem KK(x:Int)(w:World):Calls prog 213 #[.int .i64 x] w λe w'=>e=.returned (.int .i64 (EU x))/\w=w':=by
 by_cases h0:x=0
 .subst h0
  go_in;go_wp2_with fail;go_ret;exact⟨rfl,rfl⟩
 .have t0:(x==0)=false:=by simp[h0]
  by_cases N:0<x
  .by_cases V:x%2=1
   .have t2:(x%2==1)=true:=by simp[V]
    by_cases h3:x<48
    .have hj:=AA (show EU x=1 by unfold EU;rw[if_neg h0,if_pos (by simp[Bn,N,V,h3])])
     clear V h0;go_in;go_wp2_with fail;go_ret;exact⟨Cl hj.out.symm,rfl⟩
    .have hj:=AA (show EU x=2 by unfold EU;rw[if_neg h0,if_neg (by simp[Bn,N,V,h3])])
     clear V h0;go_in;go_wp2_with fail;go_ret;exact⟨Cl hj.out.symm,rfl⟩
   .have t2:(x%2==1)=false:=by simp[V]
    have hj:=AA (show EU x=2 by unfold EU;rw[if_neg h0,if_neg (by simp[Bn,V])]);clear V h0;go_in;go_wp2_with fail;go_ret;exact⟨Cl hj.out.symm,rfl⟩
  .have hj:=AA (show EU x=2 by unfold EU;rw[if_neg h0,if_neg (by simp[Bn,N])])
   clear h0;go_in;go_wp2_with fail;go_ret;exact⟨Cl hj.out.symm,rfl⟩
theorem DG(x:Int)(w:World)(hx:x<=9223372036854775807):Calls prog 206 #[.int .i64 x] w λe w'=>e=.returned (Tt x)/\w=w':=by
 cases K:Bn x
 focus
  have hj:=AA (Eg K)
  have hg:(EU x !=1)=true:=by unfold EU;split<;>simp[K]
  generalize D:EU x=k at hg;have z:=AA D;clear K D
 rotate_left
 focus
  have hp:0<x/\x%2=1/\x<48:=by simpa[Bn,and_assoc] using K
  have W:Kv x=(x%4==3):=by cases h:(x%4==3)<;>simp_all[Kv]
  have hj:=AA (show Tt x=.tuple #[.int .i64 (x/4),.bool (x%4==3),.bool true] by rw[Ed K,U1 K,W]);have z:=AA (show EU x=1 by unfold EU;rw[if_neg (by omega),K];rfl);have h0:0<=x:=by omega
  clear K W hp
 rotate_left
 all_goals
  go_in;go_wp2_with (go_at_call 213;refine(KK _ _).mono ?_;rintro e w' ⟨rfl,rfl⟩;rw[z.out]);go_ret3;exact⟨Og hj.out.symm,rfl⟩
theorem aj(a b:ByteArray):((b.extract 0 a.size).toList==a.toList)=LX a b:=by rw[xi,beq_iff_eq,xC,xC];unfold LX;rw[vl,List.prefix_iff_eq_take];simp only[ByteArray.data_extract,Array.toList_extract,List.extract,Nat.sub_zero,List.drop_zero,Array.length_toList,ByteArray.size_data];exact eq_comm
theorem Me(a b:ByteArray)(w:World)(ha:a.size<=maxLen)(A:b.size<=maxLen):Calls prog 166 #[.string a,.string b] w λe w'=>e=.returned (.bool (LX a b))/\w=w':=by
 unfold maxLen at ha A
 by_cases h:a.size<=b.size
 .have N:(a.size:Int)<=b.size:=by omega
  have hj:=AA (aj a b);go_in;go_wp2_with fail;go_ret;exact⟨AI hj.out,rfl⟩
 .have N:¬(a.size:Int)<=b.size:=by omega
  have hj:=AA (show LX a b=false by
   cases hc:LX a b
   .rfl
   .have:=(vl.1 hc).length_le
    simp at this;omega)
  go_in;go_wp2_with fail;go_ret;exact⟨AI hj.out.symm,rfl⟩
theorem J6{α:Type}{p:α->Bool}{xs:List α}{f:Nat->α}(hf:∀k,k<xs.length->xs[k]?=some (f k))(h:∀j,j<xs.length->p (f j)=true):xs.all p=true:=by rw[yr];intro x hx;obtain⟨j,E,rfl⟩:=xl hx;have:=h j E;have e:=hf j E;rw[yH E] at e;rw[yQ e];exact this
theorem JK{α:Type}{p:α->Bool}{xs:List α}{x:α}{k:Nat}(hx:xs[k]?=some x)(hp:p x=false):xs.all p=false:=by rw[xh];exact⟨x,yx hx,by simp[hp]⟩
theorem OS{α:Type}{p:α->Bool}{xs:List α}{x:α}{k:Nat}(hx:xs[k]?=some x)(hp:p x=true):xs.any p=true:=vV.2 ⟨x,yx hx,hp⟩
theorem Lj{α:Type}{p:α->Bool}{xs:List α}{f:Nat->α}(hf:∀k,k<xs.length->xs[k]?=some (f k))(h:∀j,j<xs.length->p (f j)=false):xs.any p=false:=by rw[List.any_eq_false];intro x hx;obtain⟨j,E,rfl⟩:=xl hx;have:=h j E;have e:=hf j E;rw[yH E] at e;rw[yQ e];simp[this]
theorem Pn{xs:List Int}{k:Nat}(h:k<xs.length):xs[k]?=some (nth xs k):=Qh h
theorem Lq(v:Value)(r:List Int)(w:World)(h:Ax w v r):Calls prog 110 #[v] w λe w'=>e=.returned (.bool (D8 r))/\Below w.heap.size w w':=by
 obtain⟨a,c,rfl,hc,cd,hi⟩:=h.open;unfold maxLen at cd;have HH:=AA hi;clear h hi;go_in;go_wp2_with fail;go_loopw [3] (λix wr=>∃k:Nat,k<=r.length/\ix=.int .i64 k/\(∀j,j<k->EB (nth r j)=true)/\Below w.heap.size w wr) (λix _=>r.length - (intOf ix).toNat)
 exact⟨0,yu _,rfl,λj E=>absurd E (xW _),yO _ _⟩
 obtain⟨k,D,rfl,ab,A⟩:=hrel;have au:=AA ab;clear ab
 by_cases av:k<r.length
 .have bN:(k:Int)<(r.length:Int):=by omega
  obtain⟨b,bl,rfl,hk⟩:=(HH.out.below A).at av;cases hp:EB (nth r k)
  .have S:=AA (show D8 r=false by unfold D8;rw[JK (Pn av) hp];rfl)
   have Hp:=AA hp;clear hp;go_wp2_with (refine(Cx _ _ _ _).mono ?_;rintro e w' ⟨rfl,rfl⟩;rw[show Bh _ 0 9999=false from Hp.out]);go_ret;exact⟨AI S.out.symm,A⟩
  .have Hp:=AA hp
   clear hp;go_wp2_with fail;refine(Cx _ _ _ _).mono ?_;rintro e w' ⟨rfl,rfl⟩;rw[show Bh _ 0 9999=true from Hp.out];go_wp2_with fail;go_roundw;exact⟨k+1,by omega,by go_num,Al au.out Hp.out,A⟩;simp[intOf];omega
 .have ek:k=r.length:=by omega
  have ab:=au.out;rw[ek] at ab;have S:=AA (show D8 r=((r.length:Int)==4) by unfold D8;rw[J6 (λk D=>Pn D) ab];by_cases h4:r.length=4<;>simp[h4]<;>omega);clear au ab;go_wp2_with fail;go_ret;exact⟨AI S.out.symm,A⟩
theorem KD{m:List (List Int)}{k:Nat}(h:k<m.length):m[k]?=some (AH m k):=by unfold AH;exact BD h
theorem Ii(v:Value)(m:List (List Int))(w:World)(h:Bf w v m):Calls prog 103 #[v] w λe w'=>e=.returned (.bool (Bq m))/\Below w.heap.size w w':=by
 obtain⟨a,c,rfl,hc,cd,hi⟩:=h.open;unfold maxLen at cd;have HH:=AA hi;clear h hi;go_in;go_wp2_with fail;go_loopw [3] (λix wr=>∃k:Nat,k<=m.length/\ix=.int .i64 k/\(∀j,j<k->D8 (AH m j)=true)/\Below w.heap.size w wr) (λix _=>m.length - (intOf ix).toNat)
 exact⟨0,yu _,rfl,λj E=>absurd E (xW _),yO _ _⟩
 obtain⟨k,D,rfl,ab,A⟩:=hrel;have au:=AA ab;clear ab
 by_cases av:k<m.length
 .have bN:(k:Int)<(m.length:Int):=by omega
  obtain⟨b,bl,u,rfl,bx,hk,hr⟩:=(HH.out.below A) k av;have C:=AA (Lq u _ wr hr);clear hr;cases hp:D8 (AH m k)
  .have S:=AA (show Bq m=false by unfold Bq;rw[JK (KD av) hp];rfl)
   have Hp:=AA hp;clear hp;go_wp2_with (refine C.out.mono ?_;rintro e w2 ⟨rfl,b2⟩;rw[Hp.out]);go_ret;exact⟨AI S.out.symm,A.trans (b2.mono A.size)⟩
  .have Hp:=AA hp
   clear hp;go_wp2_with fail;refine C.out.mono ?_;rintro e w2 ⟨rfl,b2⟩;rw[Hp.out];go_wp2_with fail;go_roundw;exact⟨k+1,by omega,by go_num,Al au.out Hp.out,A.trans (b2.mono A.size)⟩;simp[intOf];omega
 .have ek:k=m.length:=by omega
  have ab:=au.out;rw[ek] at ab;have S:=AA (show Bq m=((m.length:Int)==12) by unfold Bq;rw[J6 (λk D=>KD D) ab];by_cases h4:m.length=12<;>simp[h4]<;>omega);clear au ab;go_wp2_with fail;go_ret;exact⟨AI S.out.symm,A⟩
theorem XG{x:AV}(D:x.k=0):DT x=decide (x=AV.zero):=by unfold DT;rw[show Bh x.k 1 3=false from Tx.2 (by omega)];simp
theorem M6{x:AV}(D:x.k≠0):DT x=(Bh x.k 1 3&&BO x.g&&Bh x.r 0 50):=by unfold DT;rw[show decide (x=AV.zero)=false by simp;intro e;rw[e] at D;exact D rfl];simp
theorem VJ(x:AV)(w:World)(hs:x.g.size<=maxLen):Calls prog 156 #[x.val] w λe w'=>e=.returned (.bool (DT x))/\Below w.heap.size w w':=by
 have E0:=XG (x:=x);have E1:=M6 (x:=x);generalize DT x=res at E0 E1 ⊢;obtain⟨k,g,r⟩:=x;simp only[AV.val];dsimp only at E0 E1 hs;have C:=AA (λW=>EY g W hs)
 by_cases D:k=0
 .subst D
  have hW:=AA (show res=(decide (g=⟨#[]⟩)&&decide (r=0)) by rw[E0 rfl];simp[AV.zero]);clear E0 E1
  by_cases K:g=⟨#[]⟩
  .subst K
   by_cases hr:r=0
   .subst hr
    go_in;go_wp2_with fail;go_ret;exact⟨AI (by rw[hW.out];rfl),AJ _ _⟩
   .have R2:=AA (show res=false by rw[hW.out];simp[hr])
    go_in;go_wp2_with fail;go_ret;exact⟨AI R2.out.symm,AJ _ _⟩
  .have R2:=AA (show res=false by rw[hW.out];simp[K])
   have lC:¬g.toList=[]:=λe=>K (by rw[xC] at e;obtain⟨⟨l⟩⟩:=g;simp at e;rw[e])
   go_in;go_wp2_with fail;go_ret;exact⟨AI R2.out.symm,AJ _ _⟩
 .have t0:(k==0)=false:=by simp[D]
  have hW:=AA (E1 D);clear E0 E1 D;go_in;go_wp2_with fail;refine(Cx _ _ _ _).mono ?_;rintro e w2 ⟨rfl,rfl⟩;cases N:Bh k 1 3
  .have R2:=AA (show res=false by rw[hW.out,N];rfl)
   go_wp2_with fail;go_ret;exact⟨AI R2.out.symm,AJ _ _⟩
  .go_wp2_with fail
   refine(C.out _).mono ?_;rintro e w2 ⟨rfl,rfl⟩;cases V:BO g
   .have R2:=AA (show res=false by rw[hW.out,N,V];rfl)
    go_wp2_with fail;go_ret;exact⟨AI R2.out.symm,AJ _ _⟩
   .have R2:=AA (show res=Bh r 0 50 by rw[hW.out,N,V];rfl)
    go_wp2_with (refine(Cx _ _ _ _).mono ?_;rintro e w2 ⟨rfl,rfl⟩);go_ret;exact⟨AI R2.out.symm,AJ _ _⟩
theorem Db(v:Value)(xs:List AV)(w:World)(h:BW w v xs)(hs:Ib xs):Calls prog 104 #[v] w λe w'=>e=.returned (.bool (A8 xs))/\Below w.heap.size w w':=by
 obtain⟨a,c,rfl,hc,cd,hi⟩:=BG.open Av (by decide) h;unfold maxLen at cd;have HH:=AA hi;have HS:=AA hs;clear h hi hs;go_in;go_wp2_with fail;go_loopw [3] (λix wr=>∃k:Nat,k<=xs.length/\ix=.int .i64 k/\(∀j,j<k->DT (Sc xs j)=true)/\Below w.heap.size w wr) (λix _=>xs.length - (intOf ix).toNat)
 exact⟨0,yu _,rfl,λj E=>absurd E (xW _),yO _ _⟩
 obtain⟨k,D,rfl,ab,A⟩:=hrel;have au:=AA ab;clear ab
 by_cases av:k<xs.length
 .have bN:(k:Int)<(xs.length:Int):=by omega
  obtain⟨b,bl,rfl,bx,D0,D1,D2⟩:=(HH.out.below A).Dq av;have C:=VJ (Sc xs k) wr (HS.out _ (yx (Ca av)));simp only[AV.val] at C;have HC:=AA C;clear C;cases hp:DT (Sc xs k)
  .have S:=AA (show A8 xs=false by unfold A8;rw[JK (Ca av) hp];rfl)
   have Hp:=AA hp;clear hp;go_wp2_with (refine HC.out.mono ?_;rintro e w2 ⟨rfl,b2⟩;rw[Hp.out]);go_ret;exact⟨AI S.out.symm,A.trans (b2.mono A.size)⟩
  .have Hp:=AA hp
   clear hp;go_wp2_with fail;refine HC.out.mono ?_;rintro e w2 ⟨rfl,b2⟩;rw[Hp.out];go_wp2_with fail;go_roundw;exact⟨k+1,by omega,by go_num,Al au.out Hp.out,A.trans (b2.mono A.size)⟩;simp[intOf];omega
 .have ek:k=xs.length:=by omega
  have ab:=au.out;rw[ek] at ab;have S:=AA (show A8 xs=((xs.length:Int)==12) by unfold A8;rw[J6 (λk D=>Ca D) ab];by_cases h4:xs.length=12<;>simp[h4]<;>omega);clear au ab;go_wp2_with fail;go_ret;exact⟨AI S.out.symm,A⟩
theorem Za{xs:List AV}{k:Nat}(D:k<xs.length)(h:∀j,j<k->decide ((Sc xs j).k=0)=false)(hp:decide ((Sc xs k).k=0)=true):Ar xs=(k:Int):=by
 have g:∀j (E:j<xs.length),xs[j]=Sc xs j:=λj E=>by have:=Ca E;rw[yH E] at this;exact yQ this
 unfold Ar;rw[if_pos (OS (Ca D) hp)];have:xs.findIdx (λx=>decide (x.k=0))=k:=by
  rw[tN D];exact⟨by rw[g k D];exact hp,λj E=>by rw[g j (by omega)];exact h j E⟩
 rw[this]
theorem YH{xs:List AV}(h:∀j,j<xs.length->decide ((Sc xs j).k=0)=false):Ar xs= -1:=by
 unfold Ar;rw[if_neg];rw[Lj (λk D=>Ca D) h];simp
theorem Ox(v:Value)(xs:List AV)(w:World)(h:BW w v xs):Calls prog 208 #[v] w λe w'=>e=.returned (.int .i64 (Ar xs))/\Below w.heap.size w w':=by
 obtain⟨a,c,rfl,hc,cd,hi⟩:=BG.open Av (by decide) h;unfold maxLen at cd;have HH:=AA hi;clear h hi;go_in;go_wp2_with fail;go_loopw [3] (λix wr=>∃k:Nat,k<=xs.length/\ix=.int .i64 k/\(∀j,j<k->decide ((Sc xs j).k=0)=false)/\Below w.heap.size w wr) (λix _=>xs.length - (intOf ix).toNat)
 exact⟨0,yu _,rfl,λj E=>absurd E (xW _),yO _ _⟩
 obtain⟨k,D,rfl,ab,A⟩:=hrel;have au:=AA ab;clear ab
 by_cases av:k<xs.length
 .have bN:(k:Int)<(xs.length:Int):=by omega
  obtain⟨b,bl,rfl,bx,D0,D1,D2⟩:=(HH.out.below A).Dq av;cases hp:decide ((Sc xs k).k=0)
  .have t0:((Sc xs k).k==0)=false:=by simpa using hp
   have Hp:=AA hp;clear hp;go_wp2_with fail;go_roundw;exact⟨k+1,by omega,by go_num,Al au.out Hp.out,A⟩;simp[intOf];omega
  .have t0:((Sc xs k).k==0)=true:=by simpa using hp
   have S:=AA (Za av au.out hp);have Hp:=AA hp;clear hp;go_wp2_with fail;go_ret;exact⟨Cl S.out.symm,A⟩
 .have ek:k=xs.length:=by omega
  have ab:=au.out;rw[ek] at ab;have S:=AA (YH ab);clear au ab;go_wp2_with fail;go_ret;exact⟨Cl S.out.symm,A⟩
theorem Sr(v:Value)(xs:List Int)(n:Int)(w:World)(h:Ax w v xs):Calls prog 246 #[v,.int .i64 n] w λe w'=>e=.returned (.bool (xs.any λx=>decide (x=n)))/\Below w.heap.size w w':=by
 obtain⟨a,c,rfl,hc,cd,hi⟩:=h.open;unfold maxLen at cd;have HH:=AA hi;clear h hi;go_in;go_wp2_with fail;go_loopw [5] (λix wr=>∃k:Nat,k<=xs.length/\ix=.int .i64 k/\(∀j,j<k->decide (nth xs j=n)=false)/\Below w.heap.size w wr) (λix _=>xs.length - (intOf ix).toNat)
 exact⟨0,yu _,rfl,λj E=>absurd E (xW _),yO _ _⟩
 obtain⟨k,D,rfl,ab,A⟩:=hrel;have au:=AA ab;clear ab
 by_cases av:k<xs.length
 .have bN:(k:Int)<(xs.length:Int):=by omega
  obtain⟨b,bl,rfl,hk⟩:=(HH.out.below A).at av;cases hp:decide (nth xs k=n)
  .have t0:(nth xs k==n)=false:=by simpa using hp
   have Hp:=AA hp;clear hp;go_wp2_with fail;go_roundw;exact⟨k+1,by omega,by go_num,Al au.out Hp.out,A⟩;simp[intOf];omega
  .have t0:(nth xs k==n)=true:=by simpa using hp
   have S:=AA (OS (p:=λx=>decide (x=n)) (Pn av) hp);have Hp:=AA hp;clear hp;go_wp2_with fail;go_ret;exact⟨AI S.out.symm,A⟩
 .have ek:k=xs.length:=by omega
  have ab:=au.out;rw[ek] at ab;have S:=AA (Lj (p:=λx=>decide (x=n)) (λk D=>Pn D) ab);clear au ab;go_wp2_with fail;go_ret;exact⟨AI S.out.symm,A⟩
theorem Ky(v:Value)(ss:List ByteArray)(g:ByteArray)(w:World)(h:BT w v ss)(hs:DH ss)(K:g.size<=maxLen):Calls prog 111 #[v,.string g] w λe w'=>e=.returned (.bool (CQ ss g))/\Below w.heap.size w w':=by
 obtain⟨a,c,rfl,hc,cd,hi⟩:=BG.open FJ (by decide) h;unfold maxLen at cd;have HH:=AA hi;have HS:=AA (yk hs K);clear h hi hs K;go_in;go_wp2_with fail;go_loopw [5] (λix wr=>∃k:Nat,k<=ss.length/\ix=.int .i64 k/\(∀j,j<k->LX (Cp ss j) g=false)/\Below w.heap.size w wr) (λix _=>ss.length - (intOf ix).toNat)
 exact⟨0,yu _,rfl,λj E=>absurd E (xW _),yO _ _⟩
 obtain⟨k,D,rfl,ab,A⟩:=hrel;have au:=AA ab;clear ab
 by_cases av:k<ss.length
 .have bN:(k:Int)<(ss.length:Int):=by omega
  obtain⟨b,bl,rfl,hk⟩:=(HH.out.below A).str av;have C:=AA (Me (Cp ss k) g wr (HS.out.1 _ (yx (Gl av))) HS.out.2);cases hp:LX (Cp ss k) g
  .have Hp:=AA hp
   clear hp;go_wp2_with fail;refine C.out.mono ?_;rintro e w2 ⟨rfl,rfl⟩;rw[Hp.out];go_wp2_with fail;go_roundw;exact⟨k+1,by omega,by go_num,Al au.out Hp.out,A⟩;simp[intOf];omega
  .have S:=AA (show CQ ss g=true from OS (p:=λs=>LX s g) (Gl av) hp)
   have Hp:=AA hp;clear hp;go_wp2_with (refine C.out.mono ?_;rintro e w2 ⟨rfl,rfl⟩;rw[Hp.out]);go_ret;exact⟨AI S.out.symm,A⟩
 .have ek:k=ss.length:=by omega
  have ab:=au.out;rw[ek] at ab;have S:=AA (show CQ ss g=false from Lj (p:=λs=>LX s g) (λk D=>Gl D) ab);clear au ab;go_wp2_with fail;go_ret;exact⟨AI S.out.symm,A⟩
def IS(fs:List Nat)(k:Nat):Nat:=fs.getD k 0
theorem GY{k:Nat}(h:k<fs.length):fs[k]?=some (IS fs k):=by unfold IS;exact BD h
theorem Pj{k:Nat}:nth (A4 fs) k=(IS fs k:Int):=by unfold nth A4 IS;simp only[yg,xz];cases fs[k]? <;>rfl
theorem Cm:(A4 fs).length=fs.length:=by simp[A4]
theorem Gb(v1 v2 v3:Value)(xs:List AV)(fs:List Nat)(ss:List ByteArray)(w:World)(N:BW w v1 xs)(V:Ax w v2 (A4 fs))(h3:BT w v3 ss)(hf:∀f∈fs,f<xs.length)(hI:Ib xs)(hs:DH ss):
 Calls prog 160 #[v1,v2,v3] w λe w'=>e=.returned (.bool (BI xs fs ss))/\Below w.heap.size w w':=by
 obtain⟨a1,c1,rfl,kl,kh,H1⟩:=BG.open Av (by decide) N;obtain⟨a2,c2,rfl,iQ,fZ,H2⟩:=V.open;rw[Cm] at iQ ⊢;unfold maxLen at kh fZ;have CM:=AA (λW (R:Below w.heap.size w W) (g:ByteArray) (K:g.size<=maxLen)=>Ky v3 ss g W (BG.below h3 R) hs K);have og:=AA H1;have oe:=AA H2;have HF:=AA (yk hf hI);obtain⟨a3,c3,rfl,oP,nb⟩:=h3.shape;clear N V h3 H1 H2 hf hI hs;go_in;go_wp2_with fail;go_loopw [7] (λix wr=>∃k:Nat,k<=fs.length/\ix=.int .i64 k/\(∀j,j<k->CQ ss (Sc xs (IS fs j)).g=true)/\Below w.heap.size w wr) (λix _=>fs.length - (intOf ix).toNat)
 exact⟨0,yu _,rfl,λj E=>absurd E (xW _),yO _ _⟩
 obtain⟨k,D,rfl,ab,A⟩:=hrel;have au:=AA ab;clear ab
 by_cases av:k<fs.length
 .have bN:(k:Int)<(fs.length:Int):=by omega
  obtain⟨b2,ju,rfl,hk⟩:=(oe.out.below A).at (k:=k) (by rw[Cm];exact av);rw[Pj] at hk;have eU:=HF.out.1 _ (yx (GY av));obtain⟨b,bl,rfl,bx,D0,D1,D2⟩:=(og.out.below A).Dq eU;have j9:(IS fs k:Int)<xs.length:=by omega
  have C:=AA (CM.out wr A (Sc xs (IS fs k)).g (HF.out.2 _ (yx (Ca eU))));cases hp:CQ ss (Sc xs (IS fs k)).g
  .have S:=AA (show BI xs fs ss=false from JK (p:=λf=>CQ ss (Sc xs f).g) (GY av) hp)
   have Hp:=AA hp;clear hp;go_wp2_with (refine C.out.mono ?_;rintro e w2 ⟨rfl,b2⟩;rw[Hp.out]);go_ret;exact⟨AI S.out.symm,A.trans (b2.mono A.size)⟩
  .have Hp:=AA hp
   clear hp;go_wp2_with fail;refine C.out.mono ?_;rintro e w2 ⟨rfl,b2⟩;rw[Hp.out];go_wp2_with fail;go_roundw;exact⟨k+1,by omega,by go_num,Al au.out Hp.out,A.trans (b2.mono A.size)⟩;simp[intOf];omega
 .have ek:k=fs.length:=by omega
  have ab:=au.out;rw[ek] at ab;have S:=AA (show BI xs fs ss=true from J6 (p:=λf=>CQ ss (Sc xs f).g) (λk D=>GY D) ab);clear au ab;go_wp2_with fail;go_ret;exact⟨AI S.out.symm,A⟩
theorem VF{a b:List Nat}:A4 (a++b)=A4 a++A4 b:=by simp[A4]
theorem JC{lo:Nat}{w:World}{ys zs:List Nat}(h:w.ownsRow lo 3 1 v (ys.length+zs.length) ((A4 ys).map (ym .i64)++(A4 zs).map (ym .i64))):AG lo w v (A4 (ys++zs)):=by unfold AG;rw[VF,xN,yA,Cm,Cm];exact h
theorem Lv(xs:List Int):∀u∈xs.map (ym .i64),u.oneCell'=true:=by intro u hu;obtain⟨x,_,rfl⟩:=List.mem_map.1 hu;rfl
theorem FU(w:World):AG w.heap.size (w.alloc (.cells #[] 3)) (.slice (some ⟨w.heap.size,0,none⟩) 0 0) (A4 []):=Cu w 3 1
theorem JB(v:Value)(r:List Int)(w:World)(h:Ax w v r)(hl:r.length<=100)(hx:∀k,k<r.length->nth r k<=9223372036854775807):Calls prog 205 #[v] w λe w'=>∃v',e=.returned v'/\AG w.heap.size w' v' (A4 (named r))/\Below w.heap.size w w':=by
 obtain⟨a,c,rfl,hc,cd,hi⟩:=h.open;unfold maxLen at cd;have HH:=AA hi;have HX:=AA hx;have bA:=AJ w (.cells #[] 3);have o1:=FU w;clear h hi hx;go_in;go_wp2_with fail;generalize w.alloc (.cells #[] 3)=wa at o1 bA ⊢;generalize(xB (some ⟨w.heap.size,0,none⟩) 0 0)=o at o1 ⊢;go_loopw [3,4,5,6,7] (λo ix _ _ _ wr=>∃k:Nat,k<=r.length/\ix=.int .i64 k/\AG w.heap.size wr o (A4 (named (r.take k)))/\Below w.heap.size w wr) (λ_ ix _ _ _ _=>r.length - (intOf ix).toNat)
 exact⟨0,yu _,rfl,o1,bA⟩
 clear o1 bA;obtain⟨k,D,rfl,ad,A⟩:=hrel
 by_cases av:k<r.length
 .have bN:(k:Int)<(r.length:Int):=by omega
  obtain⟨b,bl,rfl,hk⟩:=(HH.out.below A).at av;have ll:=HX.out k av;have Nx:=AA (Jw av);have eC:(named (r.take k)).length<=100:=by have:=FG (r:=r.take k);rw[yt] at this;omega
  change (Hid (named (r.take (k+1))=named (r.take k)++(if Bn (nth r k) then[BM (nth r k)] else[]))) at Nx
  generalize named (r.take k)=ys at ad Nx eC;generalize nth r k=x at hk Nx ll;have bK:=AA ad;obtain⟨_,_,rfl,_⟩:=(AG.rd ad).open;clear ad;go_wp2_with fail;refine(DG x _ ll).mono ?_;rintro e w2 ⟨rfl,rfl⟩;cases K:Bn x
  .rw[Eg K]
   have cN:=AA (show named (r.take (k+1))=ys by rw[Nx.out,K];simp);clear K Nx;go_wp2_with fail;go_roundw;exact⟨k+1,by omega,by go_num,by rw[cN.out];exact bK.out,A⟩;simp[intOf];omega
  .rw[Ed K]
   have cN:=AA (show named (r.take (k+1))=ys++[BM x] by rw[Nx.out,K];simp);generalize BM x=f at cN;clear K Nx;rw[Cm];go_wp2_with (at_builtin;go_must (refine Bm (lo:=w.heap.size) (n:=ys.length) (xs:=(A4 ys).map (ym .i64)) (m:=1) (news:=[.int .i64 f]) rfl rfl 3 (.int .i64 0) 1 8 underlying29 Tryz.zT rfl (by decide) rfl (by have:=AG.below bK.out (AJ wr (.cells #[.int .i64 f] 3));unfold AG at this;rw[Cm] at this;exact this) rfl (Rd.zN _ #[_] _ 1 1 _ (by simp) rfl (by simp[maxLen])) (by simp[xR]) (by unfold maxLen;omega) (by omega) (by have:=A.size;simp;omega) ?_;intro o' w9 k1 k2 k3 k4));go_roundw;exact⟨k+1,by omega,by go_num,by rw[cN.out];exact JC (zs:=[f]) k1,(A.alloc A.size _).trans k4⟩;simp[intOf];omega
 .obtain rfl:k=r.length:=by omega
  rw[xG] at ad;go_wp2_with fail;go_ret;exact⟨_,rfl,ad,A⟩
theorem LD{lo:Nat}{w w':World}{ys:List Nat}(h:AG lo w v (A4 ys))(A:Below w.heap.size w w'):w'.ownsRow lo 3 1 v ys.length ((A4 ys).map (ym .i64)):=by
 have:=AG.below h A;unfold AG at this
 rwa [Cm] at this
theorem Er{lo:Nat}{w:World}{ys:List Nat}(h:AG lo w v (A4 ys)):∃a c,v=.slice a ys.length c/\ys.length<=c:=by obtain⟨a,c,e,hc,_⟩:=(AG.rd h).open;rw[Cm] at e hc;exact⟨a,c,e,hc⟩
def IQ(fs:List Nat)(k:Nat):List Nat:=(yN k).filter λf=>fs.contains f
theorem SZ{k:Nat}:IQ fs (k+1)=IQ fs k++(if fs.contains k then[k] else[]):=by
 unfold IQ;rw[xI,wF]
 congr 1
 simp only[vS,vo]
theorem Ug{k:Nat}:(IQ fs k).length<=k:=by
 have:=xL (λf=>fs.contains f) (yN k);simpa[IQ] using this
theorem VC{k:Nat}:((A4 fs).any λx=>decide (x=(k:Int)))=fs.contains k:=by
 rw[xi,List.contains_iff_mem];simp[A4];constructor
 .rintro⟨x,hx,e⟩
  obtain rfl:x=k:=by omega
  exact hx
 .intro h
  exact⟨k,h,rfl⟩
theorem K4(v:Value)(fs:List Nat)(w:World)(h:Ax w v (A4 fs)):Calls prog 202 #[v] w λe w'=>∃v',e=.returned v'/\AG w.heap.size w' v' (A4 (Ip fs))/\Below w.heap.size w w':=by
 have C:=AA (λ(k:Nat) W (R:Below w.heap.size w W)=>Sr v (A4 fs) (k:Int) W (Ax.below h R));have bA:=AJ w (.cells #[] 3);have o1:=FU w;clear h;go_in;go_wp2_with fail;generalize w.alloc (.cells #[] 3)=wa at o1 bA ⊢;generalize(xB (some ⟨w.heap.size,0,none⟩) 0 0)=o at o1 ⊢;go_loopw [3,4] (λo ix wr=>∃k:Nat,k<=12/\ix=.int .i64 k/\AG w.heap.size wr o (A4 (IQ fs k))/\Below w.heap.size w wr) (λ_ ix _=>12 - (intOf ix).toNat)
 exact⟨0,yu _,rfl,o1,bA⟩
 clear o1 bA;obtain⟨k,D,rfl,ad,A⟩:=hrel
 by_cases av:k<12
 .have bN:(k:Int)<12:=by omega
  have Nx:=AA (SZ (fs:=fs) (k:=k));have eC:=Ug (fs:=fs) (k:=k);generalize IQ fs k=ys at ad Nx eC;have Ck:=C.out k wr A;rw[VC] at Ck;have HC:=AA Ck;have bK:=AA ad;obtain⟨_,_,rfl,_⟩:=Er ad;clear ad Ck;go_wp2_with fail;refine HC.out.mono ?_;rintro e w2 ⟨rfl,b2⟩;have bk:=A.trans (b2.mono A.size);have dy:=AA (bK.out.below b2);cases K:fs.contains k
  .have cN:=AA (show IQ fs (k+1)=ys by rw[Nx.out,K];simp)
   clear K Nx;go_wp2_with fail;go_roundw;exact⟨k+1,by omega,by go_num,by rw[cN.out];exact dy.out,bk⟩;simp[intOf];omega
  .have cN:=AA (show IQ fs (k+1)=ys++[k] by rw[Nx.out,K];simp)
   clear K Nx;go_wp2_with (at_builtin;go_must (refine Bm (lo:=w.heap.size) (n:=ys.length) (xs:=(A4 ys).map (ym .i64)) (m:=1) (news:=[.int .i64 k]) rfl rfl 3 (.int .i64 0) 1 8 underlying29 Tryz.zT rfl (by decide) rfl (LD dy.out (AJ _ (.cells #[.int .i64 k] 3))) rfl (Rd.zN _ #[_] _ 1 1 _ (by simp) rfl (by simp[maxLen])) (by simp[xR]) (by unfold maxLen;omega) (by omega) (by have:=bk.size;simp;omega) ?_;intro o' w9 k1 k2 k3 k4));go_roundw;exact⟨k+1,by omega,by go_num,by rw[cN.out];exact JC (zs:=[k]) k1,(bk.alloc bk.size _).trans k4⟩;simp[intOf];omega
 .obtain rfl:k=12:=by omega
  rw[show((12:Nat):Int)=12 from rfl];go_wp2_with fail;go_ret;exact⟨_,rfl,ad,A⟩
theorem MD{m:List (List Int)}(hm:Bq m=true){f:Nat}(hf:f<12):∀k,k<(AH m f).length->nth (AH m f) k<=9223372036854775807:=λk D=>by obtain⟨h4,hw⟩:=A6.1 ((Ah.1 hm).2 f hf);have:=(hw _ (Di (d:=0) D)).2;unfold nth;omega
theorem K5(v:Value)(m:List (List Int))(root:Nat)(w:World)(h:Bf w v m)(hm:Bq m=true)(hr:root<12):Calls prog 201 #[v,.int .i64 root] w λe w'=>∃v',e=.returned v'/\AG w.heap.size w' v' (A4 (E9 m root))/\Below w.heap.size w w':=by
 obtain⟨a,c,rfl,hc,cd,hi⟩:=h.open;have er:=(Ah.1 hm).1;have fi:=(A6.1 ((Ah.1 hm).2 root hr)).1;obtain⟨b,bl,u,rfl,bx,hk,hR⟩:=hi root (by omega);have C:=AA (JB u (AH m root) w hR (by omega) (MD hm hr));have mN:(root:Int)<12:=by omega
 rw[er];obtain⟨_,_,rfl,_⟩:=hR.open;unfold E9;clear h hi hR hm er hc cd fi;go_in;go_wp2_with fail;refine C.out.mono ?_;rintro e w1 ⟨v1,rfl,o1,b1⟩;have C2:=AA (K4 v1 _ w1 (AG.rd o1));have cq:=AA b1;clear o1 b1 C;go_wp2_with (refine C2.out.mono ?_;rintro e w2 ⟨v2,rfl,o2,b2⟩;have kQ:=AA (M5 o2 cq.out.size);have eO:=AA (cq.out.trans (b2.mono cq.out.size));clear o2 b2 C2);go_ret;exact⟨_,rfl,kQ.out,eO.out⟩
def GJ(m:List (List Int))(ts:List Nat)(k:Nat):List Nat:=(ts.take k).flatMap λt=>named (AH m t)
theorem Mc{m:List (List Int)}{ts:List Nat}{k:Nat}(h:k<ts.length):GJ m ts (k+1)=GJ m ts k++named (AH m (IS ts k)):=by unfold GJ;rw[DF (GY h),List.flatMap_append];simp
theorem Tv{m:List (List Int)}{ts:List Nat}{k:Nat}(hl:∀t∈ts,(AH m t).length=4):(GJ m ts k).length<=4*k:=by
 induction k with
 |zero=>simp[GJ]
 |succ k ih=>
  by_cases h:k<ts.length
  .rw[Mc h,yA]
   have N:=FG (r:=AH m (IS ts k));have V:=hl _ (yx (GY h));omega
  .have:GJ m ts (k+1)=GJ m ts k:=by unfold GJ;rw[xo (by omega),xo (by omega)]
   rw[this];omega
theorem UH(v:Value)(m:List (List Int))(root:Nat)(w:World)(h:Bf w v m)(hm:Bq m=true)(hr:root<12):Calls prog 203 #[v,.int .i64 root] w λe w'=>∃v',e=.returned v'/\AG w.heap.size w' v' (A4 (JW m root))/\Below w.heap.size w w':=by
 have bA:=AJ w (.cells #[] 3);have o1:=FU w;have C:=AA (K5 v m root _ (h.below bA) hm hr);obtain⟨a,c,rfl,hc,cd,hi⟩:=h.open;have er:=(Ah.1 hm).1;have hT:∀t∈E9 m root,t<12:=λt ht=>Fj (JD.1 ht)
 have ep:∀t∈E9 m root,(AH m t).length=4:=λt ht=>(A6.1 ((Ah.1 hm).2 t (hT t ht))).1
 have du:(E9 m root).length<=12:=L7;have FS:JW m root=Ip (GJ m (E9 m root) (E9 m root).length):=by unfold JW GJ;rw[xG]
 rw[FS];have HH:=AA hi;have HT:=AA (yk hT ep);have Hm:=AA hm;rw[er] at C ⊢;generalize E9 m root=ts at*;clear h hi hm hT ep FS hc cd;go_in;go_wp2_with fail;generalize w.alloc (.cells #[] 3)=wa at o1 bA C ⊢;refine C.out.mono ?_;rintro e w1 ⟨v1,rfl,t1,b1⟩;have br:=bA.trans (b1.mono bA.size);have o2:=AG.below o1 b1;obtain⟨a1,c1,rfl,kl⟩:=Er t1;have n3:=AA t1;have cq:=AA br;have ez:GD (.slice (some ⟨w.heap.size,0,none⟩) 0 0) (.slice a1 ts.length c1):=λb A f8=>by have N:=(yB t1 b f8).1;have V:=(yB o1 b A).2;omega
 clear C o1 bA t1 b1 br;go_wp2_with fail;generalize(xB (some ⟨w.heap.size,0,none⟩) 0 0)=o at o2 ez ⊢;go_loopw [5,7] (λo ix wr=>∃k:Nat,k<=ts.length/\ix=.int .i64 k/\AG w.heap.size wr o (A4 (GJ m ts k))/\Below w.heap.size w wr/\AG wa.heap.size wr (.slice a1 ts.length c1) (A4 ts)/\GD o (.slice a1 ts.length c1)) (λ_ ix _=>ts.length - (intOf ix).toNat)
 exact⟨0,yu _,rfl,o2,cq.out,n3.out,ez⟩
 clear o2 ez;obtain⟨k,D,rfl,ad,A,jQ,ez⟩:=hrel
 by_cases av:k<ts.length
 .have bN:(k:Int)<(ts.length:Int):=by omega
  obtain⟨_,_,e1,_,_,H1⟩:=(AG.rd jQ).open;simp only[xS] at e1;obtain⟨rfl,e2,rfl⟩:=e1;clear e2;obtain⟨b1,ff,rfl,D1⟩:=H1.at (k:=k) (by rw[Cm];exact av);rw[Pj] at D1;clear H1;have dr:=yx (GY av);have hf:=HT.out.1 _ dr;have gD:=HT.out.2 _ dr;obtain⟨b,bl,u,rfl,bx,hk,hR⟩:=(HH.out.below A) (IS ts k) (by omega);have CN:=AA (JB u (AH m (IS ts k)) wr hR (by omega) (MD Hm.out hf));have j9:(IS ts k:Int)<12:=by omega
  have Nx:=AA (Mc (m:=m) av);have eC:=Tv (k:=k) HT.out.2;have eB:=FG (r:=AH m (IS ts k));rw[gD] at eB;obtain⟨_,_,rfl,_⟩:=hR.open;generalize GJ m ts k=ys at ad Nx eC;generalize named (AH m (IS ts k))=zs at CN Nx eB;generalize IS ts k=f at*;have bK:=AA ad;obtain⟨_,_,rfl,_⟩:=Er ad;have Ht:=AA (yk jQ ez);clear ad hR dr gD jQ ez;go_wp2_with fail;refine CN.out.mono ?_;rintro e w2 ⟨v2,rfl,o2,b2⟩;have eO:=AA (A.trans (b2.mono A.size));have i7:=AA (yk (AG.below Ht.out.1 b2) Ht.out.2);have dy:=AA (bK.out.below b2);have lJ:=AG.rd o2;obtain⟨az,cz,rfl,lE⟩:=Er o2;have gN:=AA lJ;clear o2 b2 lJ hk D1;go_wp2_with (at_builtin;go_must (refine Bm (lo:=w.heap.size) (n:=ys.length) (xs:=(A4 ys).map (ym .i64)) (m:=zs.length) (news:=(A4 zs).map (ym .i64)) rfl rfl 3 (.int .i64 0) 1 8 underlying29 Tryz.zT rfl (by decide) rfl (LD dy.out (yO _ _)) rfl (by have:=gN.out;unfold Ax at this;rw[Cm] at this;exact this) (Lv _) (by unfold maxLen;omega) (by omega) (by have:=eO.out.size;omega) ?_;intro o' w9 k1 k2 k3 k4));go_roundw;exact⟨k+1,by omega,by go_num,by rw[Nx.out];exact JC k1,eO.out.trans k4,Aw i7.out.1 k2 i7.out.2.symm.ne,i7.out.2.grown k3 (λb A=>(yB i7.out.1 b A).2)⟩;simp[intOf];omega
 .obtain rfl:k=ts.length:=by omega
  have C2:=AA (K4 _ _ wr (AG.rd ad));obtain⟨_,_,rfl,_⟩:=Er ad;have Y:=AA A;clear ad A;go_wp2_with (refine C2.out.mono ?_;rintro e w2 ⟨v2,rfl,o2,b2⟩;have kQ:=AA (M5 o2 Y.out.size);have eO:=AA (Y.out.trans (b2.mono Y.out.size));clear o2 b2 C2);go_ret;exact⟨_,rfl,kQ.out,eO.out⟩
theorem Xk(w:World)(n:Nat):AG w.heap.size (w.alloc (.cells #[.int .i64 n] 3)) (.slice (some ⟨w.heap.size,0,none⟩) 1 1) (A4 [n]):=UO (n:=1) (C:=1) rfl (yG _) (by decide) (yG _)
theorem JZ(v:Value)(m:List (List Int))(root:Int)(w:World)(h:Bf w v m)(hm:Bq m=true)(hr:root<12):Calls prog 161 #[v,.int .i64 root] w λe w'=>∃v',e=.returned v'/\AG w.heap.size w' v' (A4 (Ev m root))/\Below w.heap.size w w':=by
 by_cases hn:root<0
 .have hj:Ev m root=[]:=by unfold Ev;rw[if_pos hn]
  have o1:=FU w;rw[hj];go_in;go_wp2_with fail;go_ret;exact⟨_,rfl,o1,AJ _ _⟩
 .obtain⟨r,rfl⟩:∃r:Nat,root=(r:Int):=⟨root.toNat,by omega⟩
  have hj:Ev m (r:Int)=Ip (([r]++E9 m r)++JW m r):=by unfold Ev;rw[if_neg hn,yq];rfl
  have eA:r<12:=by omega
  rw[hj];have b0:=AJ w (.cells #[.int .i64 r] 3);have o0:=Xk w r;have CT:=AA (λW (R:Below w.heap.size w W)=>K5 v m r W (h.below R) hm eA);have CF:=AA (λW (R:Below w.heap.size w W)=>UH v m r W (h.below R) hm eA);have ht:(E9 m r).length<=12:=L7;have hf:(JW m r).length<=12:=L7;obtain⟨a,c,rfl,hc,cd,_⟩:=h.open;generalize E9 m r=ts at*;generalize JW m r=fs at*;clear h hm hj hc cd;go_in;go_wp2_with fail;generalize w.alloc _=wa at o0 b0 ⊢;refine(CT.out wa b0).mono ?_;rintro e w1 ⟨v1,rfl,o1,b1⟩;have O0:=AG.below o0 b1;have br:=b0.trans (b1.mono b0.size);have gN:=AA (AG.rd o1);have fj:w.heap.size<=w1.heap.size:=br.size;have cq:=AA br;obtain⟨az,cz,rfl,lE⟩:=Er o1;clear o0 b0 o1 b1 br;have ou:A4 [r]=A4 ([r]:List Nat):=rfl;go_wp2_with (at_builtin;go_must (refine Bm (lo:=w.heap.size) (n:=1) (xs:=(A4 [r]).map (ym .i64)) (m:=ts.length) (news:=(A4 ts).map (ym .i64)) rfl rfl 3 (.int .i64 0) 1 8 underlying29 Tryz.zT rfl (by decide) rfl (LD O0 (yO _ _)) rfl (by have:=gN.out;unfold Ax at this;rw[Cm] at this;exact this) (Lv _) (by unfold maxLen;omega) (by omega) (by omega) ?_;intro o' w9 k1 k2 k3 k4));have cC:=cq.out.trans k4;refine(CF.out w9 cC).mono ?_;rintro e w2 ⟨v2,rfl,o2,b2⟩;have O9:=JC (ys:=[r]) (zs:=ts) k1;have O2:=AG.below O9 b2;have eO:=AA (cC.trans (b2.mono cC.size));have kT:=AA (AG.rd o2);obtain⟨ay,cy,rfl,oN⟩:=Er o2;obtain⟨ax,cx,rfl,oO⟩:=Er O2;clear O0 gN k1 k2 k3 k4 cC O9 o2 b2;go_wp2_with (at_builtin;go_must (refine Bm (lo:=w.heap.size) (n:=([r]++ts).length) (xs:=(A4 ([r]++ts)).map (ym .i64)) (m:=fs.length) (news:=(A4 fs).map (ym .i64)) rfl rfl 3 (.int .i64 0) 1 8 underlying29 Tryz.zT rfl (by decide) rfl (LD O2 (yO _ _)) rfl (by have:=kT.out;unfold Ax at this;rw[Cm] at this;exact this) (Lv _) (by simp only[yA,xQ];unfold maxLen;omega) (by simp only[yA,xQ];omega) (by have:=eO.out.size;omega) ?_;intro o8 w8 k1 k2 k3 k4));have iR:=eO.out.trans k4;have O8:=JC k1;refine(K4 o8 _ w8 (AG.rd O8)).mono ?_;rintro e w3 ⟨v3,rfl,o3,b3⟩;have nT:=AA (M5 o3 iR.size);have fA:=AA (iR.trans (b3.mono iR.size));clear O8 iR k1 k2 k3 k4 o3 b3 O2;go_wp2_with fail;go_ret;exact⟨_,rfl,nT.out,fA.out⟩
theorem Ki(w:World)(a b:Obj):((w.alloc a).alloc b).heap[w.heap.size]?=some a/\((w.alloc a).alloc b).heap[w.heap.size+1]?=some b/\Below w.heap.size w ((w.alloc a).alloc b)/\((w.alloc a).alloc b).heap.size=w.heap.size+2:=by have N:=yw w a;have V:=yw (w.alloc a) b;have h4:=AB N (AJ _ b);simp only[xK] at V;exact⟨h4,V,IH w a b,by simp⟩
def Gu(k:AN)(a n:Nat):List Nat:=(yN n).filter (Rb k a)
theorem Sb{k:AN}:Gu k a (n+1)=Gu k a n++(if Rb k a n then[n] else[]):=by
 unfold Gu;rw[xI,wF]
 congr 1
 simp only[vS,vo]
theorem Ui{k:AN}:(Gu k a n).length<=n:=by have:=xL (Rb k a) (yN n);simpa[Gu] using this
theorem UD(mv iv ev cv:Value)(k:AN)(a:Nat)(w:World)(h:Le w mv iv ev cv k)(D:DP k):Calls prog 215 #[.agg #[mv,iv,ev,cv],.int .i64 a] w λe w'=>∃v',e=.returned v'/\AG w.heap.size w' v' (A4 (Uh k a))/\Below w.heap.size w w':=by
 obtain⟨N0,N1,bp,fv⟩:=Ki w (.cells #[mv,iv,ev,cv] 28) (.cells #[] 3);have o1:AG w.heap.size ((w.alloc (.cells #[mv,iv,ev,cv] 28)).alloc (.cells #[] 3)) (.slice (some ⟨w.heap.size+1,0,none⟩) 0 0) (A4 []):=by have:=FU (w.alloc (.cells #[mv,iv,ev,cv] 28));simp only[xK] at this;exact M5 this (wH _)
 have CT:=AA (λ(r:Nat)(hr:r<12) W (R:Below w.heap.size w W)=>K5 mv k.mem r W (h.1.below R) D.mem hr);obtain⟨ae,ce,rfl,fz,na,HE⟩:=h.2.2.1.open;rw[D.zY] at fz N0 o1 bp ⊢;have HR:=AA D.roots;have od:=AA HE;have it:=AA D.zY;have US:Uh k a=Gu k a 3:=rfl;rw[US];clear h D HE US fv N1;go_in;go_wp2_with fail;generalize(w.alloc _).alloc _=wa at o1 bp N0 ⊢;have n9:=AA N0;clear N0;generalize(xB (some ⟨w.heap.size+1,0,none⟩) 0 0)=o at o1 ⊢;go_loopw [5,6,7] (λo ix _ wr=>∃n:Nat,n<=3/\ix=.int .i64 n/\AG w.heap.size wr o (A4 (Gu k a n))/\Below w.heap.size w wr/\wr.heap[w.heap.size]?=some (.cells #[mv,iv,.slice ae 3 ce,cv] 28 (0,0))) (λ_ ix _ _=>3 - (intOf ix).toNat)
 exact⟨0,yu _,rfl,o1,bp,n9.out⟩
 clear o1 bp;obtain⟨n,hn,rfl,ad,A,hN⟩:=hrel;obtain⟨x0,_,x2,_⟩:=AE hN
 by_cases av:n<3
 .have bN:(n:Int)<3:=by omega
  obtain⟨b,bl,ua,uc,rfl,bx,D0,D1,_⟩:=(od.out.below A) n (by rw[it.out];exact av);have dk:=HR.out n av;have Nx:=AA (Sb (k:=k) (a:=a) (n:=n));have eC:=Ui (k:=k) (a:=a) (n:=n);have UE:Rb k a n=(decide ((AF k.V3 n).root=(a:Int))||(decide (0<=(AF k.V3 n).root)&&(E9 k.mem (AF k.V3 n).root.toNat).contains a)):=rfl
  change (AF k.V3 n).root= -1∨(0<=(AF k.V3 n).root/\(AF k.V3 n).root<=11/\_) at dk
  generalize Gu k a n=ys at ad Nx eC;generalize Rb k a n=ub at Nx UE;generalize(AF k.V3 n).root=rt at D1 dk UE;have bK:=AA ad;have HN:=AA hN;obtain⟨_,_,rfl,_⟩:=Er ad;clear ad hN D0;have gM:Hid (ub=true->Gu k a (n+1)=ys++[n]):=AA λe=>by rw[Nx.out,e];simp
  have NO:Hid (ub=false->Gu k a (n+1)=ys):=AA λe=>by rw[Nx.out,e];simp
  clear Nx
  by_cases e1:rt=(a:Int)
  .have t1:(rt==(a:Int))=true:=by simp[e1]
   have cN:=AA (gM.out (by rw[UE];simp[e1]));clear gM NO UE e1 dk;go_wp2_with (at_builtin;go_must (refine Bm (lo:=w.heap.size) (n:=ys.length) (xs:=(A4 ys).map (ym .i64)) (m:=1) (news:=[.int .i64 n]) rfl rfl 3 (.int .i64 0) 1 8 underlying29 Tryz.zT rfl (by decide) rfl (LD bK.out (AJ _ (.cells #[.int .i64 n] 3))) rfl (Rd.zN _ #[_] _ 1 1 _ (by simp) rfl (by simp[maxLen])) (by simp[xR]) (by unfold maxLen;omega) (by omega) (by have:=A.size;simp;omega) ?_;intro o' w9 k1 k2 k3 k4));go_roundw;exact⟨n+1,by omega,by go_num,by rw[cN.out];exact JC (zs:=[n]) k1,(A.alloc A.size _).trans k4,(k2.block w.heap.size (by have:=AW HN.out;simp;omega) (λe=>Dx bK.out HN.out (by decide) e.symm)).trans (AB HN.out (AJ _ _))⟩;simp[intOf];omega
  .have t1:(rt==(a:Int))=false:=by simp[e1]
   rcases dk with rfl|⟨h0,h11,_⟩
   .have cN:=AA (NO.out (by rw[UE];simp[e1]))
    clear gM NO UE e1;go_wp2_with fail;go_roundw;exact⟨n+1,by omega,by go_num,by rw[cN.out];exact bK.out,A,HN.out⟩;simp[intOf];omega
   .obtain⟨r,rfl⟩:∃r:Nat,rt=(r:Int):=⟨rt.toNat,by omega⟩
    have C:=AA (CT.out r (by omega) wr A);rw[yq] at UE;go_wp2_with fail;refine C.out.mono ?_;rintro e w2 ⟨v2,rfl,o2,b2⟩;have CH:=Sr v2 _ (a:Int) w2 (AG.rd o2);rw[VC] at CH;generalize(E9 k.mem r).contains a=bt at UE CH;have oj:=AA CH;have bk:=A.trans (b2.mono A.size);have dy:=AA (bK.out.below b2);have kW:=AA (AB HN.out b2);clear CH o2 b2 C x0 x2 D1;go_wp2_with fail;refine oj.out.mono ?_;rintro e w3 ⟨rfl,b3⟩;have eN:=bk.trans (b3.mono bk.size);have fu:=AA (dy.out.below b3);have je:=AA (AB kW.out b3);clear b3 bk;cases bt
    .have cN:=AA (NO.out (by rw[UE];simp[e1]))
     clear gM NO UE e1;go_wp2_with fail;go_roundw;exact⟨n+1,by omega,by go_num,by rw[cN.out];exact fu.out,eN,je.out⟩;simp[intOf];omega
    .have cN:=AA (gM.out (by rw[UE];simp))
     clear gM NO UE e1;go_wp2_with (at_builtin;go_must (refine Bm (lo:=w.heap.size) (n:=ys.length) (xs:=(A4 ys).map (ym .i64)) (m:=1) (news:=[.int .i64 n]) rfl rfl 3 (.int .i64 0) 1 8 underlying29 Tryz.zT rfl (by decide) rfl (LD fu.out (AJ _ (.cells #[.int .i64 n] 3))) rfl (Rd.zN _ #[_] _ 1 1 _ (by simp) rfl (by simp[maxLen])) (by simp[xR]) (by unfold maxLen;omega) (by omega) (by have:=eN.size;simp;omega) ?_;intro o' w9 k1 k2 k3 k4));go_roundw;exact⟨n+1,by omega,by go_num,by rw[cN.out];exact JC (zs:=[n]) k1,(eN.alloc eN.size _).trans k4,(k2.block w.heap.size (by have:=AW je.out;simp;omega) (λe=>Dx fu.out je.out (by decide) e.symm)).trans (AB je.out (AJ _ _))⟩;simp[intOf];omega
 .obtain rfl:n=3:=by omega
  rw[show((3:Nat):Int)=3 from rfl];go_wp2_with fail;go_ret;exact⟨_,rfl,ad,A⟩
theorem FP{l:List Ad}{k:Nat}(h:k<l.length):l[k]?=some (AT l k):=by simp[AT,h]
theorem Ln{α:Type}{p:α->Bool}{l:List α}{k:Nat}{x:α}(h:l[k]?=some x):(l.take (k+1)).filter p=(l.take k).filter p++(if p x then[x] else[]):=by
 rw[DF h,wF]
 congr 1
 simp only[vS,vo]
theorem JM{α:Type}{p:α->Bool}{l:List α}{k:Nat}:((l.take k).filter p).length<=l.length:=yL (xL _ _) (by rw[yt];omega)
theorem QX(v:Value)(c:List Ad)(e:Int)(w:World)(h:DY w v c)(hl:c.length<=100):Calls prog 216 #[v,.int .i64 e] w λr w'=>∃v',r=.returned v'/\AO w.heap.size 96 4 AX w' v' (GI c e)/\Below w.heap.size w w':=by
 obtain⟨a,cp,rfl,hc,cd,hi⟩:=BG.open Ce (by decide) h;unfold maxLen at cd;have HH:=AA hi;have bA:=AJ w (.cells #[] 96);have o1:=Cd AX w 96 4;clear h hi;go_in;go_wp2_with fail;generalize w.alloc (.cells #[] 96)=wa at o1 bA ⊢;generalize(xB (some ⟨w.heap.size,0,none⟩) 0 0)=o at o1 ⊢;go_loopw [5,6] (λo ix wr=>∃k:Nat,k<=c.length/\ix=.int .i64 k/\AO w.heap.size 96 4 AX wr o ((c.take k).filter (λy=>decide (y.e≠e)))/\Below w.heap.size w wr) (λ_ ix _=>c.length - (intOf ix).toNat)
 exact⟨0,yu _,rfl,o1,bA⟩
 clear o1 bA;obtain⟨k,D,rfl,ad,A⟩:=hrel
 by_cases av:k<c.length
 .have bN:(k:Int)<(c.length:Int):=by omega
  obtain⟨b,bl,rfl,bx,D0,D1,D2,D3⟩:=(HH.out.below A).zW av;have Nx:=AA (Ln (p:=λy=>decide (y.e≠e)) (FP av));have eC:=JM (p:=λy=>decide (y.e≠e)) (l:=c) (k:=k);generalize AT c k=x at D0 D1 D2 D3 Nx;generalize(c.take k).filter (λy=>decide (y.e≠e))=ys at ad Nx eC;have bK:=AA ad;obtain⟨_,_,rfl,_⟩:=ad.rd.shape;clear ad;cases hp:decide (x.e≠e)
  .have t0:(x.e !=e)=false:=by simpa using hp
   have cN:=AA (show(c.take (k+1)).filter (λy=>decide (y.e≠e))=ys by rw[Nx.out,hp];simp);have Hp:=AA hp;clear hp Nx;go_wp2_with fail;go_roundw;exact⟨k+1,by omega,by go_num,by rw[cN.out];exact bK.out,A⟩;simp[intOf];omega
  .have t0:(x.e !=e)=true:=by simpa using hp
   have cN:=AA (show(c.take (k+1)).filter (λy=>decide (y.e≠e))=ys++[x] by rw[Nx.out,hp];simp);have Hp:=AA hp;clear hp Nx;go_wp2_with (at_builtin;go_must (refine Bm (lo:=w.heap.size) (n:=ys.length) (xs:=CZ AX ys) (m:=1) (news:=[.int .i64 x.e,.int .i64 x.p,.int .i64 x.f,.bool x.w]) rfl rfl 96 (.agg #[.int .i64 0,.int .i64 0,.int .i64 0,.bool false]) 4 32 underlying26 Tryz.zQ rfl (by decide) rfl (Bl (bK.out) (AJ _ _)) rfl (Rd.zN _ #[.int .i64 x.e,.int .i64 x.p,.int .i64 x.f,.bool x.w] _ 4 1 _ rfl (by simp) (by simp[maxLen])) (by simp[xR]) (by unfold maxLen;omega) (by omega) (by have:=(A).size;simp;omega) ?_;intro o' w9 k1 k2 k3 k4));go_roundw;exact⟨k+1,by omega,by go_num,by rw[cN.out];unfold AO;rw[Bj,Ee,yA];exact k1,((A).alloc (A).size _).trans k4⟩;simp[intOf];omega
 .obtain rfl:k=c.length:=by omega
  rw[xG] at ad;go_wp2_with fail;go_ret;exact⟨_,rfl,ad,A⟩
theorem ZY{c:List Ad}{e p:Int}{k:Nat}(D:k<c.length)(h:∀j,j<k->BN e p (AT c j)=false)(hp:BN e p (AT c k)=true):Gr c e p=(k:Int):=by
 have g:∀j (E:j<c.length),c[j]=AT c j:=λj E=>by have:=FP E;rw[yH E] at this;exact yQ this
 unfold Gr;rw[if_pos (OS (FP D) hp)];have:c.findIdx (BN e p)=k:=by
  rw[tN D];exact⟨by rw[g k D];exact hp,λj E=>by rw[g j (by omega)];exact h j E⟩
 rw[this]
theorem YD{c:List Ad}{e p:Int}(h:∀j,j<c.length->BN e p (AT c j)=false):Gr c e p= -1:=by
 unfold Gr;rw[if_neg];rw[Lj (λk D=>FP D) h];simp
theorem QY(v:Value)(c:List Ad)(e p:Int)(w:World)(h:DY w v c):Calls prog 158 #[v,.int .i64 e,.int .i64 p] w λr w'=>r=.returned (.int .i64 (Gr c e p))/\Below w.heap.size w w':=by
 obtain⟨a,cp,rfl,hc,cd,hi⟩:=BG.open Ce (by decide) h;unfold maxLen at cd;have HH:=AA hi;clear h hi;go_in;go_wp2_with fail;go_loopw [7] (λix wr=>∃k:Nat,k<=c.length/\ix=.int .i64 k/\(∀j,j<k->BN e p (AT c j)=false)/\Below w.heap.size w wr) (λix _=>c.length - (intOf ix).toNat)
 exact⟨0,yu _,rfl,λj E=>absurd E (xW _),yO _ _⟩
 obtain⟨k,D,rfl,ab,A⟩:=hrel;have au:=AA ab;clear ab
 by_cases av:k<c.length
 .have bN:(k:Int)<(c.length:Int):=by omega
  obtain⟨b,bl,rfl,bx,D0,D1,D2,D3⟩:=(HH.out.below A).zW av;have SE:BN e p (AT c k)=(decide ((AT c k).e=e)&&decide ((AT c k).p=p)):=rfl;have FA:=AA (λhp=>ZY (e:=e) (p:=p) av au.out hp);have NE:=AA (λhp=>Al au.out (show BN e p (AT c k)=false from hp));rw[SE] at FA NE;clear SE;generalize AT c k=x at D0 D1 D2 D3 FA NE
  by_cases N:x.e=e
  .have t1:(x.e==e)=true:=by simp[N]
   by_cases V:x.p=p
   .have t2:(x.p==p)=true:=by simp[V]
    have S:=AA (FA.out (by simp[N,V]));clear FA NE N V;go_wp2_with fail;go_ret;exact⟨Cl S.out.symm,A⟩
   .have t2:(x.p==p)=false:=by simp[V]
    have h1:=AA (NE.out (by simp[V]));clear FA NE N V;go_wp2_with fail;go_roundw;exact⟨k+1,by omega,by go_num,h1.out,A⟩;simp[intOf];omega
  .have t1:(x.e==e)=false:=by simp[N]
   have h1:=AA (NE.out (by simp[N]));clear FA NE N;go_wp2_with fail;go_roundw;exact⟨k+1,by omega,by go_num,h1.out,A⟩;simp[intOf];omega
 .obtain rfl:k=c.length:=by omega
  have S:=AA (YD au.out);go_wp2_with fail;go_ret;exact⟨Cl S.out.symm,A⟩
theorem Yg{k:Nat}(h:k<ss.length):ss[k]?=some (Cp ss k):=Gl h
theorem VI(v:Value)(ss:List ByteArray)(s:ByteArray)(w:World)(h:BT w v ss)(hs:DH ss)(hz:s.size<=maxLen)(hl:ss.length<=100):Calls prog 217 #[v,.string s] w λr w'=>∃v',r=.returned v'/\AO w.heap.size 9 1 Ay w' v' (Bc ss s)/\Below w.heap.size w w':=by
 obtain⟨a,cp,rfl,hc,cd,hi⟩:=BG.open FJ (by decide) h;unfold maxLen at cd;have HH:=AA hi;have HS:=AA (yk hs hz);have bA:=AJ w (.cells #[] 9);have o1:=Cd Ay w 9 1;clear h hi hs hz;go_in;go_wp2_with fail;generalize w.alloc (.cells #[] 9)=wa at o1 bA ⊢;generalize(xB (some ⟨w.heap.size,0,none⟩) 0 0)=o at o1 ⊢;go_loopw [5,6] (λo ix wr=>∃k:Nat,k<=ss.length/\ix=.int .i64 k/\AO w.heap.size 9 1 Ay wr o ((ss.take k).filter (λr=>!LX s r))/\Below w.heap.size w wr) (λ_ ix _=>ss.length - (intOf ix).toNat)
 exact⟨0,yu _,rfl,o1,bA⟩
 clear o1 bA;obtain⟨k,D,rfl,ad,A⟩:=hrel
 by_cases av:k<ss.length
 .have bN:(k:Int)<(ss.length:Int):=by omega
  obtain⟨b,bl,rfl,hk⟩:=(HH.out.below A).str av;have C:=AA (Me s (Cp ss k) wr HS.out.2 (HS.out.1 _ (yx (Gl av))));have Nx:=AA (Ln (p:=λr=>!LX s r) (Yg av));have eC:=JM (p:=λr=>!LX s r) (l:=ss) (k:=k);generalize Cp ss k=x at hk Nx C;generalize(ss.take k).filter (λr=>!LX s r)=ys at ad Nx eC;have bK:=AA ad;obtain⟨_,_,rfl,_⟩:=ad.rd.shape;clear ad;cases hp:!LX s x
  .have cN:=AA (show(ss.take (k+1)).filter (λr=>!LX s r)=ys by rw[Nx.out,hp];simp)
   have Hp:=AA hp;clear hp Nx;go_wp2_with fail;refine C.out.mono ?_;rintro e w2 ⟨rfl,rfl⟩;rw[show LX s x=!false by rw[<-Hp.out];simp];go_wp2_with fail;go_roundw;exact⟨k+1,by omega,by go_num,by rw[cN.out];exact bK.out,A⟩;simp[intOf];omega
  .have cN:=AA (show(ss.take (k+1)).filter (λr=>!LX s r)=ys++[x] by rw[Nx.out,hp];simp)
   have Hp:=AA hp;clear hp Nx;go_wp2_with fail;refine C.out.mono ?_;rintro e w2 ⟨rfl,rfl⟩;rw[show LX s x=!true by rw[<-Hp.out];simp];go_wp2_with (at_builtin;go_must (refine Bm (lo:=w.heap.size) (n:=ys.length) (xs:=CZ Ay ys) (m:=1) (news:=[.string x]) rfl rfl 9 (.string ⟨#[]⟩) 1 16 underlying64 Tryz.zU rfl (by decide) rfl (Bl (bK.out) (AJ _ _)) rfl (Rd.zN _ #[.string x] _ 1 1 _ rfl (by simp) (by simp[maxLen])) (by simp[xR]) (by unfold maxLen;omega) (by omega) (by have:=(A).size;simp;omega) ?_;intro o' w9 k1 k2 k3 k4));go_roundw;exact⟨k+1,by omega,by go_num,by rw[cN.out];unfold AO;rw[Bj,Ee,yA];exact k1,((A).alloc (A).size _).trans k4⟩;simp[intOf];omega
 .obtain rfl:k=ss.length:=by omega
  rw[xG] at ad;go_wp2_with fail;go_ret;exact⟨_,rfl,ad,A⟩
theorem Fo{α:Type}{cs:α->List Value}{lo:Nat}{w:World}{ops:Array Oper}{rest:List Oper}{o:Oper}{a:Act}{Q:Exit->Act->World->Prop}{s x:Operand}{t:TypeId}
 (j8:o.guard=none)(O:o.op=.call {callee:=.builtin .append,args:= #[s,x],argTypes:= #[t,t]})
 (e:TypeId)(HK:Value)(sz bytes:Nat)(ht:prog.underlying t=some (.slice e))(H:(prog.info? e).map (λi=>(i.zero,i.size,i.bytes))=some (some HK,sz,bytes))
 (mI:HK.cells.size=sz)(iF:0<sz){v u:Value}{xs:List α}(hs:a.eval s=v)(ad:AO lo e sz cs w v ([]:List α))
 (hx:a.eval x=u)(hr:BG sz cs w u xs)(N:∀u∈CZ cs xs,u.oneCell'=true)(nu:xs.length<=1048576)(f7:bytes<=1048576)(dn:lo<=w.heap.size)
 (hK:∀v' w',AO lo e sz cs w' v' xs->Below lo w w'->wpList prog ops Q rest (a.put o.dst v') w'):wpList prog ops Q (o::rest) a w:=by
 refine Bm j8 O e HK sz bytes ht H mI iF hs ad hx hr N ?_ ?_ dn λv' w' k1 _ _ k4=>hK v' w' ?_ k4
 .unfold maxLen;simp only[wY];omega
 .simp only[wY]
  have N:=Nat.mul_le_mul_right bytes (show 0+xs.length<=1048576 by omega);have V:=Nat.mul_le_mul_left 1048576 f7;omega
 .unfold AO
  have:([]:List α).length+xs.length=xs.length:=by simp
  rw[this] at k1;exact k1
theorem Fc(xs:List AV):∀u∈CZ At xs,u.oneCell'=true:=by
 intro u hu;obtain⟨s,_,hs⟩:=wV.1 hu;simp[At] at hs
 rcases hs with rfl|rfl|rfl<;>rfl
theorem J9(xs:List Ad):∀u∈CZ AX xs,u.oneCell'=true:=by
 intro u hu;obtain⟨s,_,hs⟩:=wV.1 hu;simp[AX] at hs
 rcases hs with rfl|rfl|rfl|rfl<;>rfl
theorem IA(xs:List ByteArray):∀u∈CZ Ay xs,u.oneCell'=true:=by
 intro u hu;obtain⟨s,_,hs⟩:=wV.1 hu;simp[Ay] at hs
 rcases hs with rfl<;>rfl
theorem Zm(v:Value)(m:List (List Int))(f:Nat)(w:World)(h:Bf w v m)(hm:Bq m=true)(hf:f<12):Calls prog 270 #[v,.int .i64 f] w λe w'=>e=.returned (.bool true)/\Below w.heap.size w w':=by have C:=Ii v m w h;rw[hm] at C;have HC:=AA C;have hj:Bh (f:Int) 0 11=true:=AZ.2 (by omega);have HE:=AA hj;clear C h hm hj;go_in;go_wp2_with fail;refine HC.out.mono ?_;rintro e w1 ⟨rfl,b1⟩;go_wp2_with fail;refine(EN _ _).mono ?_;rintro e w2 ⟨rfl,rfl⟩;rw[HE.out];go_wp2_with fail;go_ret;exact⟨rfl,b1⟩
theorem Oy(v iv:Value)(m:List (List Int))(xs:List AV)(f:Nat)(w:World)(h:Bf w v m)(hm:Bq m=true)(hI:BW w iv xs)(dl:A8 xs=true)(hf:f<12):Calls prog 262 #[v,iv,.int .i64 f] w λe w'=>e=.returned (.bool true)/\Below w.heap.size w w':=by
 have C1:=AA (Zm v m f w h hm hf);have C2:=AA (λW (R:Below w.heap.size w W)=>by have:=Db iv xs W (BG.below hI R) (By dl);rw[dl] at this;exact this);clear h hm hI dl;go_in;go_wp2_with fail;refine C1.out.mono ?_;rintro e w1 ⟨rfl,b1⟩;go_wp2_with (refine(C2.out _ b1).mono ?_;rintro e w2 ⟨rfl,b2⟩);go_ret;exact⟨rfl,b1.trans (b2.mono b1.size)⟩
theorem RA(v:Value)(xs:List AV)(g:ByteArray)(f:Nat)(w:World)(h:BW w v xs)(bL:A8 xs=true)(K:BO g=true)(c8:Ar xs=(f:Int))(hf:f<12):
 Calls prog 209 #[v,.string g] w λe w'=>∃v',e=.returned (.tuple #[v',.int .i64 f,.bool true])/\AO w.heap.size 91 3 At w' v' (xs.set f ⟨1,g,0⟩)/\Below w.heap.size w w':=by
 have hl:=(A1.1 bL).1;have c0:=Ox v xs w h;rw[c8] at c0;have C0:=AA c0;have m3:=KP K;have iO:g.size<=maxLen:=by unfold maxLen;omega
 have C1:=AA (λW (R:Below w.heap.size w W)=>by have:=Db v xs W (BG.below h R) (By bL);rw[bL] at this;exact this);have C2:=AA (λW=>by have:=EY g W iO;rw[K] at this;exact this);have HR:=AA (λW (R:Below w.heap.size w W)=>BG.below h R);obtain⟨a,c,rfl,hc,cd⟩:=h.shape;have Hl:=AA hl;have du:xs.length<=12:=by omega
 clear h bL K c8 c0 iO m3 hl;go_in;go_wp2_with fail;refine C0.out.mono ?_;rintro e w0 ⟨rfl,b0⟩;go_wp2_with fail;refine(C1.out _ b0).mono ?_;rintro e w1 ⟨rfl,b1⟩;have br:=b0.trans (b1.mono b0.size);go_wp2_with fail;refine(C2.out _).mono ?_;rintro e w1 ⟨rfl,rfl⟩;have cq:=AA br;go_wp2_with (at_builtin;go_must (refine Fo (cs:=At) rfl rfl 91 (.agg #[.int .i64 0,.string ⟨#[]⟩,.int .i64 0]) 3 32 underlying24 Tryz.zP rfl (by decide) rfl (Cd At _ _ _) rfl (HR.out _ (br.trans ((AJ _ _).mono br.size))) (Fc _) (by omega) (by decide) (by simp) ?_;intro v' w9 hO cC));have bk:=(cq.out.trans ((AJ _ _).mono cq.out.size)).trans (cC.mono cq.out.size);obtain⟨q,cg,rfl,c1,c2,q1,q2,em⟩:=hO.zX (by have:=Hl.out;omega);have hS:=AA (AO.stored Av hO (show f<xs.length by have:=Hl.out;omega) ⟨1,g,0⟩);obtain⟨d0,d1,d2⟩:=AO.Dq hO (show f<xs.length by have:=Hl.out;omega);have hB:=AA (AM bk hS.out.2 (yL cq.out.size q1) bk.size);have dn:=cq.out.size;have eU:(f:Int)<xs.length:=by have:=Hl.out;omega
 unfold maxLen at c2;have eL:¬(f:Int)<0:=by omega
 clear hO cC br b0 b1 bk du;go_wp2_with fail;go_ret3;exact⟨_,rfl,hS.out.1.lower dn,hB.out⟩
theorem Q9(v:Value)(xs:List AV)(f:Nat)(w:World)(h:BW w v xs)(bL:A8 xs=true)(hf:f<12)(D:(Sc xs f).k=1)(hr:(Sc xs f).r=0):
 Calls prog 211 #[v,.int .i64 f] w λe w'=>∃v',e=.returned (.tuple #[v',.bool true])/\AO w.heap.size 91 3 At w' v' (xs.set f AV.zero)/\Below w.heap.size w w':=by
 have hl:=(A1.1 bL).1;have C1:=AA (λW (R:Below w.heap.size w W)=>by have:=Db v xs W (BG.below h R) (By bL);rw[bL] at this;exact this);have HE:=AA (show Bh (f:Int) 0 11=true from AZ.2 (by omega));have HR:=AA (λW (R:Below w.heap.size w W)=>BG.below h R);obtain⟨ai,ci,rfl,kj,f6,H2⟩:=BG.open Av (by decide) h;obtain⟨bi,bf,rfl,cu,D0,_,D2⟩:=H2.Dq (show f<xs.length by omega);have eU:(f:Int)<xs.length:=by omega
 have t1:((Sc xs f).k !=1)=false:=by simp[D]
 have t2:¬0<(Sc xs f).r:=by omega
 have Hl:=AA hl;have A:=yO w.heap.size w;clear h bL D hr H2 hl;go_in;go_wp2_with fail;refine(C1.out _ A).mono ?_;rintro e w_ ⟨rfl,eM⟩;replace A:=A.trans (eM.mono A.size);clear eM;go_wp2_with fail;refine(EN _ _).mono ?_;rintro e w2 ⟨rfl,rfl⟩;rw[HE.out];replace D0:=(A.cell (p:=⟨bi,bf+f*3,none⟩) cu).trans D0;replace D2:=(A.cell (p:=⟨bi,bf+f*3+2,none⟩) cu).trans D2;have cq:=AA A;go_wp2_with (at_builtin;go_must (refine Fo (cs:=At) rfl rfl 91 (.agg #[.int .i64 0,.string ⟨#[]⟩,.int .i64 0]) 3 32 underlying24 Tryz.zP rfl (by decide) rfl (Cd At _ _ _) rfl (HR.out _ (cq.out.trans ((AJ _ _).mono cq.out.size))) (Fc _) (by have:=Hl.out;omega) (by decide) (by simp) ?_;intro v' w9 hO cC));have bk:=(cq.out.trans ((AJ _ _).mono cq.out.size)).trans (cC.mono cq.out.size);obtain⟨q,cg,rfl,c1,c2,q1,q2,em⟩:=hO.zX (by have:=Hl.out;omega);have hS:=AA (AO.stored Av hO (show f<xs.length by have:=Hl.out;omega) AV.zero);obtain⟨d0,d1,d2⟩:=AO.Dq hO (show f<xs.length by have:=Hl.out;omega);have hB:=AA (AM bk hS.out.2 (yL cq.out.size q1) bk.size);have dn:=cq.out.size;unfold maxLen at c2;have eL:¬(f:Int)<0:=by omega
 clear hO cC bk A D0 D2;go_wp2_with fail;go_ret2;exact⟨_,rfl,hS.out.1.lower dn,hB.out⟩
theorem SN(v:Value)(xs:List AV)(f:Nat)(w:World)(h:BW w v xs)(bL:A8 xs=true)(hf:f<12)(D:(Sc xs f).k=1)(hr:(Sc xs f).r≠0):
 Calls prog 211 #[v,.int .i64 f] w λe w'=>∃v',e=.returned (.tuple #[v',.bool false])/\Below w.heap.size w w':=by
 have hl:=(A1.1 bL).1;have eY:=(IJ ((A1.1 bL).2 f hf)).2.1;have C1:=AA (λW (R:Below w.heap.size w W)=>by have:=Db v xs W (BG.below h R) (By bL);rw[bL] at this;exact this);have HE:=AA (show Bh (f:Int) 0 11=true from AZ.2 (by omega));obtain⟨ai,ci,rfl,kj,f6,H2⟩:=BG.open Av (by decide) h;obtain⟨bi,bf,rfl,cu,D0,_,D2⟩:=H2.Dq (show f<xs.length by omega);have eU:(f:Int)<xs.length:=by omega
 have t1:((Sc xs f).k !=1)=false:=by simp[D]
 have t2:0<(Sc xs f).r:=by omega
 have A:=yO w.heap.size w;clear h bL D hr H2 hl eY;go_in;go_wp2_with fail;refine(C1.out _ A).mono ?_;rintro e w_ ⟨rfl,eM⟩;replace A:=A.trans (eM.mono A.size);clear eM;go_wp2_with (refine(EN _ _).mono ?_;rintro e w2 ⟨rfl,rfl⟩;rw[HE.out];replace D0:=(A.cell (p:=⟨bi,bf+f*3,none⟩) cu).trans D0;replace D2:=(A.cell (p:=⟨bi,bf+f*3+2,none⟩) cu).trans D2);go_ret2;exact⟨_,rfl,A.alloc A.size _⟩
theorem UB(v rv:Value)(xs:List AV)(f:Nat)(x kind:Int)(ss:List ByteArray)(w:World)(h:BW w v xs)(hl:xs.length=12)(hI:Ib xs)(hv:BT w rv ss)(hs:DH ss)(hx:x<=9223372036854775807)(D:2<=kind/\kind<=3):
 Calls prog 204 #[v,.int .i64 f,.int .i64 x,.int .i64 kind,rv] w λe w'=>e=.returned (.bool (Fp xs f kind ss x))/\Below w.heap.size w w':=by
 cases K:Bn x
 .have h2:=AA (Eg K)
  have G:=AA (show Fp xs f kind ss x=(x==0) by simp only[Fp,K];rw[xi];simp);obtain⟨_,_,rfl,_⟩:=h.shape;obtain⟨_,_,rfl,_⟩:=hv.shape;clear K h hl hI hv hs;go_in;go_wp2_with (go_at_call 206;refine(DG _ _ hx).mono ?_;rintro e w' ⟨rfl,rfl⟩;rw[h2.out]);go_ret;exact⟨AI G.out.symm,yO _ _⟩
 .have h2:=AA (Ed K)
  have hF:=ET K;have G:=Sp (Xy:=xs) (f:=f) (kind:=kind) (ss:=ss) K;have jP:BM x<xs.length:=by omega
  have HC:=AA (Ky rv ss (Sc xs (BM x)).g w hv hs (hI _ (yx (Ca jP))));obtain⟨a,c,rfl,_,_,hi⟩:=BG.open Av (by decide) h;obtain⟨b,bl,rfl,bx,D0,D1,_⟩:=hi.Dq jP;obtain⟨_,_,rfl,_⟩:=hv.shape;generalize BM x=o at*;generalize CQ ss (Sc xs o).g=mb at HC G;have lu:(o:Int)<xs.length:=by omega
  clear K h hl hI hv hs hi jP hF
  by_cases e1:o=f
  .have t1:((o:Int) !=(f:Int))=false:=by simp[e1]
   have hW:=AA (show Fp xs f kind ss x=false by rw[G];simp[e1]);clear G e1;go_in;go_wp2_with (go_at_call 206;refine(DG _ _ hx).mono ?_;rintro e w' ⟨rfl,rfl⟩;rw[h2.out]);go_ret;exact⟨AI hW.out.symm,yO _ _⟩
  .have t1:((o:Int) !=(f:Int))=true:=by simp;omega
   by_cases e2:(Sc xs o).k=kind - 1
   .have t2:((Sc xs o).k==kind - 1)=true:=by simp[e2]
    have hW:=AA (show Fp xs f kind ss x=mb by rw[G];simp[e1,e2]);clear G e1 e2;go_in;go_wp2_with (go_at_call 206;refine(DG _ _ hx).mono ?_;rintro e w' ⟨rfl,rfl⟩;rw[h2.out]);refine HC.out.mono ?_;rintro e w2 ⟨rfl,b2⟩;go_wp2_with fail;go_ret;exact⟨AI hW.out.symm,b2⟩
   .have t2:((Sc xs o).k==kind - 1)=false:=by simp[e2]
    have hW:=AA (show Fp xs f kind ss x=false by rw[G];simp[e2]);clear G e1 e2;go_in;go_wp2_with (go_at_call 206;refine(DG _ _ hx).mono ?_;rintro e w' ⟨rfl,rfl⟩;rw[h2.out]);go_ret;exact⟨AI hW.out.symm,yO _ _⟩
theorem XZ{m:List (List Int)}(hm:Bq m=true){f:Nat}(hf:f<12){k:Nat}(D:k<4):(AH m f)[k]?=some (Au m f k):=by have:=(A6.1 ((Ah.1 hm).2 f hf)).1;unfold Au;exact BD (by omega)
theorem co{m:List (List Int)}(hm:Bq m=true){f:Nat}(hf:f<12){k:Nat}(D:k<4):Au m f k<=9223372036854775807:=by obtain⟨h4,hw⟩:=A6.1 ((Ah.1 hm).2 f hf);have:=(hw _ (yx (XZ hm hf D))).2;omega
theorem Sq(v iv rv:Value)(m:List (List Int))(xs:List AV)(f:Nat)(kind:Int)(ss:List ByteArray)(w:World)(h:Bf w v m)(hm:Bq m=true)(hI:BW w iv xs)(hl:xs.length=12)(gY:Ib xs)(hf:f<12)(D:Bi kind=true)(hv:BT w rv ss)(hs:DH ss):
 Calls prog 163 #[v,iv,.int .i64 f,.int .i64 kind,rv] w λe w'=>e=.returned (.bool (IU m xs f kind ss))/\Below w.heap.size w w':=by
 have j1:2<=kind/\kind<=3:=by simp only[Bi,xP,decide_eq_true_eq] at D;omega
 have CE:=AA (λ(x:Int)(hx:x<=9223372036854775807) W (R:Below w.heap.size w W)=>UB iv rv xs f x kind ss W (BG.below hI R) hl gY (BG.below hv R) hs hx j1);have Hm:=AA hm;have lQ:=AA (A6.1 ((Ah.1 hm).2 f hf)).1;have er:=(Ah.1 hm).1;obtain⟨a,c,rfl,_,_,hi⟩:=h.open;obtain⟨_,_,rfl,_⟩:=hI.shape;obtain⟨_,_,rfl,_⟩:=hv.shape;have HH:=AA hi;have eU:(f:Int)<m.length:=by omega
 clear h hm hI hl gY D hv hs j1 er hi;go_in;go_wp2_with fail;go_loopw [11] (λix wr=>∃k:Nat,k<=4/\ix=.int .i64 k/\(∀j,j<k->Fp xs f kind ss (Au m f j)=true)/\Below w.heap.size w wr) (λix _=>4 - (intOf ix).toNat)
 exact⟨0,yu _,rfl,λj E=>absurd E (xW _),yO _ _⟩
 obtain⟨k,D,rfl,ab,A⟩:=hrel;have au:=AA ab;clear ab
 by_cases av:k<4
 .have bN:(k:Int)<(4:Int):=by omega
  obtain⟨b,bl,b2,ju,c2,rfl,bx,hk,nj,ni,W0⟩:=(HH.out.below A).row4 Hm.out hf;have D2:=W0 k av;have C:=AA (CE.out (Au m f k) (co Hm.out hf av) wr A);clear W0;cases hp:Fp xs f kind ss (Au m f k)
  .have S:=AA (show IU m xs f kind ss=false from JK (XZ Hm.out hf av) hp)
   have Hp:=AA hp;clear hp;go_wp2_with (refine C.out.mono ?_;rintro e w2 ⟨rfl,b2⟩;rw[Hp.out]);go_ret;exact⟨AI S.out.symm,A.trans (b2.mono A.size)⟩
  .have Hp:=AA hp
   clear hp;go_wp2_with fail;refine C.out.mono ?_;rintro e w2 ⟨rfl,b2⟩;rw[Hp.out];go_wp2_with fail;go_roundw;exact⟨k+1,by omega,by go_num,Al au.out Hp.out,A.trans (b2.mono A.size)⟩;simp[intOf];omega
 .have ek:k=4:=by omega
  have ab:=au.out;rw[ek] at ab;have S:=AA (show IU m xs f kind ss=true from J6 (f:=Au m f) (λk D=>XZ Hm.out hf (by have:=lQ.out;omega)) (λj E=>ab j (by have:=lQ.out;omega)));clear au ab;go_wp2_with fail;go_ret;exact⟨AI S.out.symm,A⟩
theorem Wy{Xy:List AV}{n:Int}(E:j<fs.length):BK Xy (fs.take (j+1)) n=(BK Xy (fs.take j) n).set (IS fs j) (Ic n (Sc (BK Xy (fs.take j) n) (IS fs j))):=by unfold BK;rw[DF (GY E),vJ];exact Hv
theorem Gj{p:Nat->Bool}{k:Nat}(D:k<n)(h:p k=false):(yN n).all p=false:=by rw[xh];exact⟨k,yj.2 D,by rw[h];decide⟩
theorem Na(x:Ad)(w:World):Calls prog 157 #[.agg #[.int .i64 x.e,.int .i64 x.p,.int .i64 x.f,.bool x.w]] w λe w'=>e=.returned (.bool (Bu x))/\Below w.heap.size w w':=by
 obtain⟨N0,bp⟩:=EH w (.cells #[.int .i64 x.e,.int .i64 x.p,.int .i64 x.f,.bool x.w] 96);obtain⟨x0,x1,x2,_⟩:=AE N0;have hj:Bu x=(Bh x.e 0 2&&Bh x.p 0 15&&Bh x.f 0 11):=rfl;have HE:=AA hj;clear hj N0;go_in;go_wp2_with fail;generalize w.alloc _=W0 at*;refine(Jh _ _).mono ?_;rintro r w1 ⟨rfl,rfl⟩;cases N:Bh x.e 0 2
 .have S:=AA (show Bu x=false by rw[HE.out,N];rfl)
  clear N;go_wp2_with fail;go_ret;exact⟨AI S.out.symm,bp⟩
 .rw[N] at HE
  clear N;go_wp2_with fail;refine(Cx _ _ _ _).mono ?_;rintro r w1 ⟨rfl,rfl⟩;cases V:Bh x.p 0 15
  .have S:=AA (show Bu x=false by rw[HE.out,V];rfl)
   clear V;go_wp2_with fail;go_ret;exact⟨AI S.out.symm,bp⟩
  .rw[V] at HE
   have S:=AA (show Bu x=Bh x.f 0 11 by rw[HE.out];simp);clear V;go_wp2_with (refine(EN _ _).mono ?_;rintro r w1 ⟨rfl,rfl⟩);go_ret;exact⟨AI S.out.symm,bp⟩
theorem Yx{c:List Ad}{k:Nat}(D:k<c.length):DA c k=(Bu (AT c k)&&!decide (Gr c (AT c k).e (AT c k).p<(k:Int))):=by
 unfold DA
 congr 1
 congr 1
 have fO:BN (AT c k).e (AT c k).p (AT c k)=true:=by simp[BN]
 rw[xi,decide_eq_true_eq,vV];unfold Gr;rw[if_pos (OS (FP D) fO)];have eU:c.findIdx (BN (AT c k).e (AT c k).p)<c.length:=List.findIdx_lt_length.2 ⟨_,yx (FP D),fO⟩;constructor
 .rintro⟨x,hx,hp⟩
  obtain⟨j,E⟩:=xq hx;have iM:j<k:=by have:=(yE.1 E).1;rw[yt] at this;omega
  rw[uX,if_pos iM] at E;have:c.findIdx (BN (AT c k).e (AT c k).p)<=j:=by
   rcases Nat.lt_or_ge j (c.findIdx (BN (AT c k).e (AT c k).p)) with h|h
   .have hn:=List.not_of_lt_findIdx h
    have e:c[j]'(by omega)=x:=by have V:=yH (l:=c) (i:=j) (by omega);rw[V] at E;exact yQ E
    rw[e] at hn;rw[hp] at hn;cases hn
   .exact h
  omega
 .intro h
  refine⟨c[c.findIdx (BN (AT c k).e (AT c k).p)],?_,List.findIdx_getElem⟩;rw[List.mem_take_iff_getElem];exact⟨_,by omega,rfl⟩
theorem JO(v:Value)(c:List Ad)(w:World)(h:DY w v c):Calls prog 105 #[v] w λe w'=>e=.returned (.bool (Bd c))/\Below w.heap.size w w':=by
 have HV:=AA h;obtain⟨a,cp,rfl,hc,cd,hi⟩:=BG.open Ce (by decide) h;unfold maxLen at cd;have HH:=AA hi;clear h hi;go_in;go_wp2_with fail;go_loopw [3] (λix wr=>∃k:Nat,k<=c.length/\ix=.int .i64 k/\(∀j,j<k->DA c j=true)/\Below w.heap.size w wr) (λix _=>c.length - (intOf ix).toNat)
 exact⟨0,yu _,rfl,λj E=>absurd E (xW _),yO _ _⟩
 obtain⟨k,D,rfl,ab,A⟩:=hrel;have au:=AA ab;clear ab
 by_cases av:k<c.length
 .have bN:(k:Int)<(c.length:Int):=by omega
  have nY:=AA (BG.below HV.out A);obtain⟨b,bl,rfl,kq,D0,D1,D2,D3⟩:=(HH.out.below A).zW av;have bx:=yM _ _ D0;have SF:=Yx av;have gP:=λW (R:Below wr.heap.size wr W)=>Na (AT c k) W
  have CF:=AA (λW (R:Below wr.heap.size wr W)=>QY _ c (AT c k).e (AT c k).p W (BG.below nY.out R));generalize Gr c (AT c k).e (AT c k).p=fd at SF CF;clear kq;cases N:Bu (AT c k)
  .rw[N] at gP
   have CA:=AA gP;rw[N] at SF;clear gP N;have fo:DA c k=false:=by rw[SF];rfl
   clear SF;have S:=AA (show Bd c=false by unfold Bd;rw[Gj av fo];rfl);go_wp2_with fail;refine Ac 21 35 [.v (.slice (some ⟨b,bl,none⟩) c.length cp),.i ((k:Int)),.p b (bl+k*4),.a #[.int .i64 ((AT c k).e),.int .i64 ((AT c k).p),.int .i64 ((AT c k).f),.bool (AT c k).w],.b false,.b true,.b true,.u,.u,.u,.u,.u,.u,.u,.u,.u,.u,.u,.u,.u,.u] (λ_ _ _=>True) ?_ ?_
   .intro i H o O a wx Y J Z hg z
    match i,H with
    |0,_|1,_|5,_|6,_=>exact sP O z Y J
    |2,_=>exact sI O z Y J (hr:=by clear J Y z;go_simp)
    |3,_=>exact sL O z Y J (hl:=Zn (bc Z bx D0) (bc Z bx D1) (bc Z bx D2) (bc Z bx D3))
    |4,_=>exact sD O z Y J (CA.out _ Z)
    |7,_|8,_|9,_|10,_|11,_|12,_|13,_|14,_|15,_|16,_|17,_|18,_|19,_|20,_=>exact sB O z J
    |_+21,hq=>omega
   .intro L wx hR Z
    have q6:(L 6)=.bool true:=Bg hR 6;clear hR;simp only[Aj,Ag,yN,yJ,yK,yI,q6];simp;clear q6;have bY:=A.trans (Z.mono A.size);clear Z D0 D1 D2 D3;go_wp2_with fail;go_ret;exact⟨AI S.out.symm,bY⟩
  .rw[N] at gP
   have CA:=AA gP;rw[N] at SF;clear gP N
   by_cases V:fd<(k:Int)
   .have fo:DA c k=false:=by rw[SF];simp[V]
    clear SF;have S:=AA (show Bd c=false by unfold Bd;rw[Gj av fo];rfl);go_wp2_with fail;refine Ac 21 35 [.v (.slice (some ⟨b,bl,none⟩) c.length cp),.i ((k:Int)),.p b (bl+k*4),.a #[.int .i64 ((AT c k).e),.int .i64 ((AT c k).p),.int .i64 ((AT c k).f),.bool (AT c k).w],.b true,.b false,.b false,.v (.slice (some ⟨b,bl,none⟩) c.length cp),.v (.slice (some ⟨b,bl,none⟩) c.length cp),.i ((k:Int)),.p b (bl+k*4),.p b (bl+k*4),.i ((AT c k).e),.v (.slice (some ⟨b,bl,none⟩) c.length cp),.i ((k:Int)),.p b (bl+k*4),.p b (bl+k*4+1),.i ((AT c k).p),.i fd,.i ((k:Int)),.b true] (λ_ _ _=>True) ?_ ?_
    .intro i H o O a wx Y J Z hg z
     have bB:=bc Z bx D0;have bs:=bc Z bx D1;have bX:=bc Z bx D2;have dq:=bc Z bx D3
     match i,H with
     |0,_|1,_|5,_|6,_|7,_|8,_|9,_|11,_|13,_|14,_|16,_|19,_=>exact sP O z Y J
     |2,_|10,_|15,_=>exact sI O z Y J (hr:=by clear J Y z;go_simp)
     |3,_=>exact sL O z Y J (hl:=Zn ‹_› ‹_› ‹_› ‹_›)
     |4,_=>exact sD O z Y J (CA.out _ Z)
     |12,_|17,_=>exact sL O z Y J (hl:=Fy ‹_›)
     |18,_=>exact sD O z Y J (CF.out _ Z)
     |20,_=>clear bB bs bX dq;obtain rfl:=yQ O;have kJ:(a.tmps[28]?.getD undef)=.int .i64 fd:=BY J 18;have gb:(a.tmps[29]?.getD undef)=.int .i64 k:=BY J 19;have d6:(a.tmps[16]?.getD undef)=.bool false:=BY J 6;clear J Y;refine AY.yes rfl rfl d6 ?_;go_simp;exact z.out _ _ rfl (yO _ _)
     |_+21,hq=>omega
    .intro L wx hR Z
     have q6:(L 6)=.bool false:=Bg hR 6;have fb:(L 20)=.bool true:=Bg hR 20;clear hR;simp only[Aj,Ag,yN,yJ,yK,yI,q6,fb];simp;clear q6 fb;have bY:=A.trans (Z.mono A.size);clear Z D0 D1 D2 D3;go_wp2_with fail;go_ret;exact⟨AI S.out.symm,bY⟩
   .have bL:DA c k=true:=by rw[SF];simp[V]
    clear SF;have S:=AA (bL);go_wp2_with fail;refine Ac 21 35 [.v (.slice (some ⟨b,bl,none⟩) c.length cp),.i ((k:Int)),.p b (bl+k*4),.a #[.int .i64 ((AT c k).e),.int .i64 ((AT c k).p),.int .i64 ((AT c k).f),.bool (AT c k).w],.b true,.b false,.b false,.v (.slice (some ⟨b,bl,none⟩) c.length cp),.v (.slice (some ⟨b,bl,none⟩) c.length cp),.i ((k:Int)),.p b (bl+k*4),.p b (bl+k*4),.i ((AT c k).e),.v (.slice (some ⟨b,bl,none⟩) c.length cp),.i ((k:Int)),.p b (bl+k*4),.p b (bl+k*4+1),.i ((AT c k).p),.i fd,.i ((k:Int)),.b false] (λ_ _ _=>True) ?_ ?_
    .intro i H o O a wx Y J Z hg z
     have bB:=bc Z bx D0;have bs:=bc Z bx D1;have bX:=bc Z bx D2;have dq:=bc Z bx D3
     match i,H with
     |0,_|1,_|5,_|6,_|7,_|8,_|9,_|11,_|13,_|14,_|16,_|19,_=>exact sP O z Y J
     |2,_|10,_|15,_=>exact sI O z Y J (hr:=by clear J Y z;go_simp)
     |3,_=>exact sL O z Y J (hl:=Zn ‹_› ‹_› ‹_› ‹_›)
     |4,_=>exact sD O z Y J (CA.out _ Z)
     |12,_|17,_=>exact sL O z Y J (hl:=Fy ‹_›)
     |18,_=>exact sD O z Y J (CF.out _ Z)
     |20,_=>clear bB bs bX dq;obtain rfl:=yQ O;have kJ:(a.tmps[28]?.getD undef)=.int .i64 fd:=BY J 18;have gb:(a.tmps[29]?.getD undef)=.int .i64 k:=BY J 19;have d6:(a.tmps[16]?.getD undef)=.bool false:=BY J 6;clear J Y;refine AY.yes rfl rfl d6 ?_;go_simp;exact z.out _ _ (congrArg Value.bool (decide_eq_false (by omega))) (yO _ _)
     |_+21,hq=>omega
    .intro L wx hR Z
     have q6:(L 6)=.bool false:=Bg hR 6;have fb:(L 20)=.bool false:=Bg hR 20;clear hR;simp only[Aj,Ag,yN,yJ,yK,yI,q6,fb];simp;clear q6 fb;have bY:=A.trans (Z.mono A.size);clear Z D0 D1 D2 D3;go_wp2_with fail;go_roundw;exact⟨k+1,by omega,by go_num,Al au.out S.out,bY⟩;simp[intOf];omega
 .have ek:k=c.length:=by omega
  have ab:=au.out;rw[ek] at ab;have S:=AA (show Bd c=decide ((c.length:Int)<=4) by
   unfold Bd;have:(yN c.length).all (DA c)=true:=yr.2 λj E=>ab j (yj.1 E)
   rw[this,Bool.true_and]
   by_cases h:c.length<=4
   .rw[decide_eq_true h,decide_eq_true (by omega:(c.length:Int)<=4)]
   .rw[decide_eq_false h,decide_eq_false (by omega:¬(c.length:Int)<=4)])
  clear au ab;go_wp2_with fail;go_ret;exact⟨AI S.out.symm,A⟩
theorem Mf(m i e c:Value)(k:AN)(w:World)(h:Bf w m k.mem)(hm:Bq k.mem=true)(hI:BW w i k.Xy)(dl:A8 k.Xy=true):
 Calls prog 107 #[.agg #[m,i,e,c]] w λr w'=>r=.returned (.bool ((yN 12).all (Dp k)))/\Below w.heap.size w w':=by
 obtain⟨N0,bp⟩:=EH w (.cells #[m,i,e,c] 28);replace h:=h.below bp;replace hI:=BG.below hI bp;obtain⟨am,cm,rfl,_⟩:=h.open;obtain⟨ai,ci,rfl,_,_,l3⟩:=BG.open Av (by decide) hI;have gG:=(A1.1 dl).1;have gY:=By dl;generalize eB:k.mem.length=nm at*;have Hl:=AA gG;have o5:=AA eB;clear gG eB;go_in;go_wp2_with fail;generalize w.alloc _=W0 at*;have HN:=AA N0;have HH:=AA l3;have HR:=AA h;have HI:=AA hI;have Hm:=AA hm;have Hs:=AA gY;have fx:=AW N0;clear h hI hm dl gY N0 l3;go_loopw [3] (λix wr=>∃f:Nat,f<=12/\ix=.int .i64 f/\(∀j,j<f->Dp k j=true)/\Below W0.heap.size W0 wr) (λix _=>12 - (intOf ix).toNat)
 exact⟨0,yu _,rfl,λj E=>absurd E (xW _),yO _ _⟩
 obtain⟨f,hf,rfl,ab,A⟩:=hrel;have au:=AA ab;clear ab
 by_cases av:f<12
 .have bN:(f:Int)<12:=by omega
  have eU:(f:Int)<k.Xy.length:=by have:=Hl.out;omega
  obtain⟨x0,x1,_,_⟩:=AE (AB HN.out A);have es:w.heap.size<wr.heap.size:=yv fx A.size;obtain⟨bi,bf,rfl,kt,D0,_,_⟩:=(HH.out.below A).Dq (show f<k.Xy.length by have:=Hl.out;omega);have cu:=yM _ _ D0;have eH:=λW (R:Below wr.heap.size wr W)=>A3 (Fx (Sc k.Xy f).k W)
  have TO:Dp k f=(!Bi (Sc k.Xy f).k||IU k.mem k.Xy f (Sc k.Xy f).k [⟨#[]⟩]):=rfl;clear kt;cases N:Bi (Sc k.Xy f).k
  .rw[N] at eH TO
   have CT:=AA eH;have bL:Dp k f=true:=by rw[TO];rfl
   clear eH TO N;have S:=AA (bL);go_wp2_with fail;refine Ac 21 31 [.p w.heap.size 1,.v (.slice (some ⟨bi,bf,none⟩) k.Xy.length ci),.i ((f:Int)),.p bi (bf+f*3),.p bi (bf+f*3),.i ((Sc k.Xy f).k),.b false,.b false,.u,.u,.u,.u,.u,.u,.u,.u,.u,.u,.u,.u,.u] (λ_ _ _=>True) ?_ ?_
   .intro i H o O a wx Y J Z hg z
    match i,H with
    |0,_|2,_|4,_|7,_=>exact sP O z Y J
    |1,_=>exact sL O z Y J (hl:=GV (bc Z es x1))
    |3,_=>exact sI O z Y J (hr:=by clear J Y z;go_simp)
    |5,_=>exact sL O z Y J (hl:=Fy (bc Z cu D0))
    |6,_=>exact sD O z Y J (CT.out _ Z)
    |8,_|9,_|10,_|11,_|12,_|13,_|14,_|15,_|16,_|17,_|18,_|19,_|20,_=>exact sB O z J
    |_+21,hq=>omega
   .intro L wx hR Z
    have q7:(L 7)=.bool false:=Bg hR 7;clear hR;simp only[Aj,Ag,yN,yJ,yK,yI,q7];simp;clear q7;have bY:=A.trans (Z.mono A.size);clear Z D0 x0 x1;go_wp2_with fail;go_roundw;exact⟨f+1,by omega,by go_num,Al au.out S.out,bY⟩;simp[intOf];omega
  .have eX:=λW (R:Below wr.heap.size wr W) v2 (V:BT W v2 [⟨#[]⟩])=>Sq _ _ v2 k.mem k.Xy f (Sc k.Xy f).k [⟨#[]⟩] W ((HR.out.below A).below R) Hm.out (BG.below (BG.below HI.out A) R) Hl.out Hs.out av N V (λs hs=>by rw[List.mem_singleton] at hs;subst hs;exact yu _)
   rw[N] at eH TO;have CT:=AA eH;cases V:IU k.mem k.Xy f (Sc k.Xy f).k [⟨#[]⟩]
   .rw[V] at eX TO
    have CG:=AA eX;have fo:Dp k f=false:=by rw[TO];rfl
    clear eH TO N V eX;have S:=AA (show(yN 12).all (Dp k)=false from Gj av fo);go_wp2_with fail;refine A5 21 31 [.p w.heap.size 1,.v (.slice (some ⟨bi,bf,none⟩) k.Xy.length ci),.i ((f:Int)),.p bi (bf+f*3),.p bi (bf+f*3),.i ((Sc k.Xy f).k),.b true,.b true,.p w.heap.size 0,.v (.slice am nm cm),.p w.heap.size 1,.v (.slice (some ⟨bi,bf,none⟩) k.Xy.length ci),.i ((f:Int)),.p w.heap.size 1,.v (.slice (some ⟨bi,bf,none⟩) k.Xy.length ci),.i ((f:Int)),.p bi (bf+f*3),.p bi (bf+f*3),.i ((Sc k.Xy f).k),.z,.b false] (λix vv ww=>match ix with
     |19=>BT ww vv [⟨#[]⟩]
     |_=>True) ?_ ?_ ?_
    .intro i H o O a wx Y J Z hg z
     have bB:=bc Z es x1;have bs:=bc Z cu D0;have bX:=bc Z es x0
     match i,H with
     |0,_|2,_|4,_|7,_|8,_|10,_|12,_|13,_|15,_|17,_=>exact sP O z Y J
     |1,_|11,_|14,_=>exact sL O z Y J (hl:=GV ‹_›)
     |3,_|16,_=>exact sI O z Y J (hr:=by clear J Y z;go_simp)
     |5,_|18,_=>exact sL O z Y J (hl:=Fy ‹_›)
     |6,_=>exact sD O z Y J (CT.out _ Z)
     |9,_=>exact sL O z Y J (hl:=GQ ‹_›)
     |19,_=>clear bB bs bX;obtain rfl:=yQ O;have d7:(a.tmps[15]?.getD undef)=.bool true:=BY J 7;clear J Y;refine AY.yes rfl rfl d7 ?_;go_simp;exact z.out _ _ (Rd.news _ #[.string ⟨#[]⟩] _ 1 1 rfl (by simp[maxLen])) (AJ _ _)
     |20,_=>clear bB bs bX;obtain rfl:=yQ O;have d9:(a.tmps[17]?.getD undef)=.slice am nm cm:=BY J 9;have fG:(a.tmps[19]?.getD undef)=.slice (some ⟨bi,bf,none⟩) k.Xy.length ci:=BY J 11;have lL:(a.tmps[20]?.getD undef)=.int .i64 f:=BY J 12;have kJ:(a.tmps[26]?.getD undef)=.int .i64 ((Sc k.Xy f).k):=BY J 18;have gb:BT wx (a.tmps[27]?.getD undef) [⟨#[]⟩]:=BY J 19;have d7:(a.tmps[15]?.getD undef)=.bool true:=BY J 7;clear J Y;generalize e27:a.tmps[27]?.getD undef=v2 at gb;have gp:=CG.out wx Z v2 gb;refine AY.yes rfl rfl d7 ?_;go_simp;refine gp.mono ?_;rintro e w_ ⟨rfl,bk⟩;exact z.out _ _ rfl bk
     |_+21,hq=>omega
    .intro i H vv wz fI dw hz
     match i,H with
     |19,_=>exact(BG.below hz dw)
     |0,_|1,_|2,_|3,_|4,_|5,_|6,_|7,_|8,_|9,_|10,_|11,_|12,_|13,_|14,_|15,_|16,_|17,_|18,_|20,_=>exact hz
     |_+21,hq=>omega
    .intro L wx hR Z
     have q7:(L 7)=.bool true:=Bg hR 7;have fb:(L 20)=.bool false:=Bg hR 20;clear hR;simp only[Aj,Ag,yN,yJ,yK,yI,q7,fb];simp;clear q7 fb;have bY:=A.trans (Z.mono A.size);clear Z D0 x0 x1;go_wp2_with fail;go_ret;exact⟨AI S.out.symm,bp.trans (bY.mono bp.size)⟩
   .rw[V] at eX TO
    have CG:=AA eX;have bL:Dp k f=true:=by rw[TO];rfl
    clear eH TO N V eX;have S:=AA (bL);go_wp2_with fail;refine A5 21 31 [.p w.heap.size 1,.v (.slice (some ⟨bi,bf,none⟩) k.Xy.length ci),.i ((f:Int)),.p bi (bf+f*3),.p bi (bf+f*3),.i ((Sc k.Xy f).k),.b true,.b true,.p w.heap.size 0,.v (.slice am nm cm),.p w.heap.size 1,.v (.slice (some ⟨bi,bf,none⟩) k.Xy.length ci),.i ((f:Int)),.p w.heap.size 1,.v (.slice (some ⟨bi,bf,none⟩) k.Xy.length ci),.i ((f:Int)),.p bi (bf+f*3),.p bi (bf+f*3),.i ((Sc k.Xy f).k),.z,.b true] (λix vv ww=>match ix with
     |19=>BT ww vv [⟨#[]⟩]
     |_=>True) ?_ ?_ ?_
    .intro i H o O a wx Y J Z hg z
     have bB:=bc Z es x1;have bs:=bc Z cu D0;have bX:=bc Z es x0
     match i,H with
     |0,_|2,_|4,_|7,_|8,_|10,_|12,_|13,_|15,_|17,_=>exact sP O z Y J
     |1,_|11,_|14,_=>exact sL O z Y J (hl:=GV ‹_›)
     |3,_|16,_=>exact sI O z Y J (hr:=by clear J Y z;go_simp)
     |5,_|18,_=>exact sL O z Y J (hl:=Fy ‹_›)
     |6,_=>exact sD O z Y J (CT.out _ Z)
     |9,_=>exact sL O z Y J (hl:=GQ ‹_›)
     |19,_=>clear bB bs bX;obtain rfl:=yQ O;have d7:(a.tmps[15]?.getD undef)=.bool true:=BY J 7;clear J Y;refine AY.yes rfl rfl d7 ?_;go_simp;exact z.out _ _ (Rd.news _ #[.string ⟨#[]⟩] _ 1 1 rfl (by simp[maxLen])) (AJ _ _)
     |20,_=>clear bB bs bX;obtain rfl:=yQ O;have d9:(a.tmps[17]?.getD undef)=.slice am nm cm:=BY J 9;have fG:(a.tmps[19]?.getD undef)=.slice (some ⟨bi,bf,none⟩) k.Xy.length ci:=BY J 11;have lL:(a.tmps[20]?.getD undef)=.int .i64 f:=BY J 12;have kJ:(a.tmps[26]?.getD undef)=.int .i64 ((Sc k.Xy f).k):=BY J 18;have gb:BT wx (a.tmps[27]?.getD undef) [⟨#[]⟩]:=BY J 19;have d7:(a.tmps[15]?.getD undef)=.bool true:=BY J 7;clear J Y;generalize e27:a.tmps[27]?.getD undef=v2 at gb;have gp:=CG.out wx Z v2 gb;refine AY.yes rfl rfl d7 ?_;go_simp;refine gp.mono ?_;rintro e w_ ⟨rfl,bk⟩;exact z.out _ _ rfl bk
     |_+21,hq=>omega
    .intro i H vv wz fI dw hz
     match i,H with
     |19,_=>exact(BG.below hz dw)
     |0,_|1,_|2,_|3,_|4,_|5,_|6,_|7,_|8,_|9,_|10,_|11,_|12,_|13,_|14,_|15,_|16,_|17,_|18,_|20,_=>exact hz
     |_+21,hq=>omega
    .intro L wx hR Z
     have q7:(L 7)=.bool true:=Bg hR 7;have fb:(L 20)=.bool true:=Bg hR 20;clear hR;simp only[Aj,Ag,yN,yJ,yK,yI,q7,fb];simp;clear q7 fb;have bY:=A.trans (Z.mono A.size);clear Z D0 x0 x1;go_wp2_with fail;go_roundw;exact⟨f+1,by omega,by go_num,Al au.out S.out,bY⟩;simp[intOf];omega
 .have ek:f=12:=by omega
  have ab:=au.out;rw[ek] at ab;have S:=AA (show(yN 12).all (Dp k)=true from yr.2 λj E=>ab j (yj.1 E));clear au ab;go_wp2_with fail;go_ret;exact⟨AI S.out.symm,bp.trans (A.mono bp.size)⟩
def ag(m:List (List Int))(Xy:List AV)(t i g:Nat):Nat:=
 ((yN t).map λu=>if Bi (Sc Xy u).k then(named (AH m u)).count g else 0).sum+((named (AH m t)).take i).count g
def WE(m:List (List Int))(Xy:List AV)(t i:Nat):List Int:=(yN 12).map λg=>(ag m Xy t i g:Int)
section
variable {m:List (List Int)} {Xy:List AV} {t i g:Nat}
theorem NP:(WE m Xy t i).length=12:=by simp[WE]
theorem Tq(h:g<12):nth (WE m Xy t i) g=ag m Xy t i g:=by unfold WE nth;rw[yg,xz,List.getElem?_range h];rfl
theorem ZP:WE m Xy t 0=G0 m Xy t 0:=by simp[WE,ag,G0,Iw,named]
theorem ZO(H:i<(named (AH m t)).length):WE m Xy t (i+1)=(WE m Xy t i).set (IS (named (AH m t)) i) (ag m Xy t i (IS (named (AH m t)) i)+1):=by
 have hf:IS (named (AH m t)) i<12:=Fj (yx (GY H));refine ML (by simp[WE]) λg K=>?_
 rw[NP] at K;rw[UL (by rw[NP];exact hf),Tq K,Tq K];unfold ag;rw[DF (GY H),List.count_append]
 by_cases e:g=IS (named (AH m t)) i
 .subst e;simp;omega
 .rw[if_neg e,List.count_singleton]
  have:(IS (named (AH m t)) i==g)=false:=by simp;exact λh=>e h.symm
  rw[this];simp
theorem af(D:Bi (Sc Xy t).k=true):WE m Xy t (named (AH m t)).length=G0 m Xy (t+1) 0:=by unfold WE ag G0 Iw;rw[xI (n:=t),xG];simp[D,named]
theorem cK(hm:Bq m=true)(ht:t<=12):ag m Xy t i g<=100:=by
 have N:=QL (Xy:=Xy) (g:=g) (j:=0) hm ht (by omega);have V:((named (AH m t)).take i).count g<=4:=by
  have h3:=vx (a:=g) (l:=(named (AH m t)).take i);have h4:=FG (r:=AH m t);rw[yt] at h3;have h5:(AH m t).length<=4:=by
   rcases Nat.lt_or_ge t 12 with h|h
   .exact Nat.le_of_eq (A6.1 ((Ah.1 hm).2 t h)).1
   .have:AH m t=[]:=by unfold AH;rw[yg,List.getElem?_eq_none (by have:=(Ah.1 hm).1;omega)];rfl
    rw[this];simp
  omega
 unfold Iw at N;unfold ag;simp[named] at N;have:((yN t).map λu=>if Bi (Sc Xy u).k then(named (AH m u)).count g else 0).sum<=4*t:=by
  clear N V
  induction t with
  |zero=>simp
  |succ t ih=>
   have:=ih (by omega);rw[xI,xN,List.sum_append];have V:(if Bi (Sc Xy t).k then(named (AH m t)).count g else 0)<=4:=by
    split
    .have h3:=vx (a:=g) (l:=named (AH m t))
     have h4:=FG (r:=AH m t);have h5:=(A6.1 ((Ah.1 hm).2 t (by omega))).1;omega
    .omega
   simp only[List.map_cons,List.map_nil,List.sum_cons,List.sum_nil];omega
 omega
end
theorem UA(v iv:Value)(m:List (List Int))(Xy:List AV)(w:World)(h:Bf w v m)(bL:Bq m=true)(hI:BW w iv Xy)(hl:Xy.length=12):
 Calls prog 164 #[v,iv] w λe w'=>∃v',e=.returned v'/\AG w.heap.size w' v' ((yN 12).map λg=>(countP m Xy g:Int))/\Below w.heap.size w w':=by
 obtain⟨q,c,rfl,hc,cd,H0⟩:=h.open;obtain⟨a2,c2,rfl,iQ,fZ,H2⟩:=BG.open Av (by decide) hI;have er:=(Ah.1 bL).1;unfold maxLen at cd fZ;rw[er] at hc ⊢;rw[hl] at iQ ⊢;have iq:=AA bL;have HR:=AA H0;have HI:=AA H2;have Hl:=AA hl;clear h bL H0 H2 er hI hl;go_in;go_wp2_with (at_make;go_must (refine Pq (n:=12) rfl rfl 3 (.int .i64 0) 8 underlying29 Tryz.zT rfl rfl (by omega) (by unfold maxLen;omega) ?_;intro w1 ad be iF));have iS:AG w.heap.size w1 (.slice (some ⟨w.heap.size,0,none⟩) 12 12) (G0 m Xy 0 0):=by unfold AG;rw[Jq,Sg];exact ad
 have m6:w.heap.size<=w.heap.size:=yG _;have fT:=AA be;clear ad be;go_loopw [6,7,8] (λi s7 s8 wr=>∃t:Nat,t<=12/\i=.int .i64 t/\AG w.heap.size wr (.slice (some ⟨w.heap.size,0,none⟩) 12 12) (G0 m Xy t 0)/\Below w.heap.size w wr) (λi _ _ _=>12 - (intOf i).toNat)
 exact⟨0,yu _,rfl,iS,fT.out⟩
 obtain⟨t,ht,rfl,hO,be⟩:=hrel;clear iS
 by_cases av:t<12
 .have bN:(t:Int)<12:=by omega
  obtain⟨bm,gS,u,rfl,kp,M0,hr⟩:=HR.out t (by rw[(Ah.1 iq.out).1];exact av);have M:=(be.cell (p:=⟨bm,gS+t,none⟩) kp).trans M0;have fi:=(A6.1 ((Ah.1 iq.out).2 _ av)).1;have CN:=JB _ (AH m t) wr (Ax.below hr be) (by omega) (MD iq.out av);have HO:=AA hO;have Y:=AA be;have lC:=(yB HO.out w.heap.size rfl).2;obtain⟨wo,rfl⟩:∃wo:World,wo=wr:=⟨_,rfl⟩
  clear M0 hr hO;go_wp2_with fail;refine CN.mono ?_;rintro e w2 ⟨v2,rfl,O2,b2⟩;have bk:=Y.out.trans (b2.mono Y.out.size);have eC:=Qd iq.out av;obtain⟨an,il,rfl,kg,nd,HN⟩:=O2.rd.open;rw[Cm] at kg ⊢;have eG:=AA (AG.below HO.out b2);have ON:=AA O2;clear CN O2 be M;cases D:Bi (Sc Xy t).k
  .have S:=AA (Sf (m:=m) D)
   have z:=AA D;obtain⟨bi,bf,rfl,cu,D0,_,_⟩:=(HI.out.below bk).Dq (show t<Xy.length by rw[Hl.out];exact av);clear D;go_wp2_with fail;go_loopw [8] (λs8 wi=>s8=.int .i64 0/\w2=wi) (λ_ _=>0)
   exact⟨rfl,rfl⟩
   obtain⟨rfl,rfl⟩:=hrel
   by_cases h0:0<(named (AH m t)).length
   focus
    have nv:(0:Int)<(named (AH m t)).length:=by omega
    go_wp2_with (go_at_call 162;refine(Fx _ _).mono ?_;rintro e w' ⟨rfl,rfl⟩;rw[z.out])
   rotate_left
   focus
    have nv:¬(0:Int)<(named (AH m t)).length:=by omega
    go_wp2_with fail
   rotate_left
   all_goals
    go_roundw;exact⟨t+1,by omega,by go_num,by rw[<-S.out];exact eG.out,bk⟩;simp[intOf];omega
  .have S:=AA (af (m:=m) D)
   have z:=AA D;have o6:=AA HN;have n6:Hid (AG w.heap.size w2 (.slice (some ⟨w.heap.size,0,none⟩) 12 12) (WE m Xy t 0)):=AA (by rw[ZP];exact eG.out);have gj:=AA bk;generalize hns:(named (AH m t)).length=nl at*;have ir:=AA hns;clear D bk eG HO HN hns;go_wp2_with fail;go_loopw [8] (λs8 wi=>∃j:Nat,j<=nl/\s8=.int .i64 j/\AG w.heap.size wi (.slice (some ⟨w.heap.size,0,none⟩) 12 12) (WE m Xy t j)/\AG wo.heap.size wi (.slice an nl il) (A4 (named (AH m t)))/\Below w.heap.size w wi) (λs8 _=>nl - (intOf s8).toNat)
   exact⟨0,yu _,rfl,n6.out,by have:=ON.out;rwa [Cm,ir.out] at this,gj.out⟩
   obtain⟨j,E,rfl,kx,iT,cu⟩:=hrel;obtain⟨bi,bf,rfl,nk,D0,_,_⟩:=(HI.out.below cu).Dq (show t<Xy.length by rw[Hl.out];exact av)
   by_cases j4:j<nl
   .have mX:(j:Int)<(nl:Int):=by omega
    obtain⟨bn,eQ,e1,DN⟩:=(show JG wr an (A4 (named (AH m t))) from by obtain⟨x1,x2,ex,_,_,hx⟩:=iT.rd.open;rw[Cm,ir.out] at ex;simp only[xS] at ex;obtain⟨rfl,_,rfl⟩:=ex;exact hx).at (k:=j) (by rw[Cm,ir.out];exact j4)
    subst e1;rw[Pj] at DN;have hj:=AA (ZO (Xy:=Xy) (show j<(named (AH m t)).length by rw[ir.out];exact j4));have hF:IS (named (AH m t)) j<12:=Fj (yx (GY (by rw[ir.out];exact j4)));have ki:=cK (Xy:=Xy) (i:=j) (g:=IS (named (AH m t)) j) iq.out (Nat.le_of_lt av);have bC:wr.ownsRow w.heap.size 3 1 (.slice (some ⟨w.heap.size,0,none⟩) 12 12) 12 ((WE m Xy t j).map (ym .i64)):=by have:=kx;unfold AG at this;rwa [NP] at this
    have DC:=(bC.cellAt (IS (named (AH m t)) j) (by omega)).trans (Fv (xs:=WE m Xy t j) (by rw[NP];exact hF));rw[Tq hF] at DC;have j7:∀b,(xB (some ⟨bn,eQ,none⟩) nl il).ownBlock=some b->b≠w.heap.size:=λb A=>by have:=(yB iT b A).1;omega
    have iz:=AA bC;have n8:=AA iT;generalize IS (named (AH m t)) j=fr at*;generalize ag m Xy t j fr=cn at*;have m9:(fr:Int)<12:=by omega
    have eZ:=yM _ _ DN;have lD:=yM _ _ DC;obtain⟨nc,hnc⟩:∃nc:Int,(cn:Int)+1=nc:=⟨_,rfl⟩
    have lR:=AA hnc;have lW:=AA cu;clear bC kx iT hnc cu;go_wp2_with (go_at_call 162;refine(Fx _ _).mono ?_;rintro e w' ⟨rfl,rfl⟩;rw[z.out]);refine Ac 13 48 [.s w.heap.size 12 12,.v (.slice (some ⟨bn,eQ,none⟩) nl il),.i ((j:Int)),.p bn (eQ+j),.i ((fr:Int)),.s w.heap.size 12 12,.v (.slice (some ⟨bn,eQ,none⟩) nl il),.i ((j:Int)),.p bn (eQ+j),.i ((fr:Int)),.p w.heap.size fr,.i ((cn:Int)),.i nc] (λ_ _ _=>True) ?_ ?_
    .intro i H o O a wx Y J Z hg z
     have bB:=bc Z eZ DN;have bs:=bc Z lD DC
     match i,H with
     |0,_|1,_|2,_|5,_|6,_|7,_=>exact sP O z Y J
     |3,_|8,_|10,_=>exact sI O z Y J (hr:=by clear J Y z;go_simp)
     |4,_|9,_|11,_=>exact sL O z Y J (hl:=Fy ‹_›)
     |12,_=>clear bB bs;obtain rfl:=yQ O;have fG:(a.tmps[44]?.getD undef)=.int .i64 cn:=BY J 11;clear J Y;refine yP ?_;go_simp;exact z.out _ _ (by show ym .i64 (IntKind.i64.wrap ((cn:Int)+1))=.int .i64 nc;rw[IntWalk.i64_in _ (by omega),lR.out]) (yO _ _)
    .intro L wx hR Z
     have q0:(L 0)=.slice (some ⟨w.heap.size,0,none⟩) 12 12:=Bg hR 0;have q4:(L 4)=.int .i64 fr:=Bg hR 4;have gQ:(L 12)=.int .i64 nc:=Bg hR 12;clear hR;simp only[Aj,Ag,yN,yJ,yK,yI,q0,q4,gQ];simp;clear q0 q4 gQ;have O3:=Bl iz.out Z;have Fr:=O3.frozenAt fr;have C2:=(Z.cell (p:=⟨w.heap.size,fr,none⟩) lD).trans DC;have S2:=AA (O3.stored fr (.int .i64 nc));have l0:=AG.below n8.out Z;have kW:=AA (Aw l0 (Ak wx w.heap.size fr (.int .i64 nc)) (by
      rcases hv:(xB (some ⟨bn,eQ,none⟩) nl il).ownBlock with _|b
      .exact .inl rfl
      .exact .inr λe=>j7 b hv (yQ e)))
     have md:=AA (lW.out.trans (Z.mono lW.out.size));clear D0 DN DC Z O3 l0;go_wp2_with fail;go_roundw
     case rel=>refine⟨j+1,by omega,by go_num,?_,kW.out,AM md.out S2.out.2 m6 md.out.size⟩;rw[hj.out,lR.out];unfold AG;rw[yi,NP,vj];exact S2.out.1
     case measure=>simp[intOf];omega
   .obtain rfl:j=nl:=by omega
    go_wp2_with fail;go_roundw;exact⟨t+1,by omega,by go_num,by rw[<-S.out];exact kx,cu⟩;simp[intOf];omega
 .obtain rfl:t=12:=by omega
  rw[Uu] at hO;go_wp2_with fail;go_ret;exact⟨_,rfl,hO,be⟩
theorem QV(v iv:Value)(m:List (List Int))(xs:List AV)(f:Nat)(n:Int)(w:World)(h:Bf w v m)(hm:Bq m=true)(hI:BW w iv xs)(dl:A8 xs=true)(hf:f<12)(hn:n=1∨n= -1):
 Calls prog 263 #[v,iv,.int .i64 f,.int .i64 n] w λe w'=>∃v',e=.returned v'/\AO w.heap.size 91 3 At w' v' (BK xs (named (AH m f)) n)/\Below w.heap.size w w':=by
 have Hl:=AA (A1.1 dl).1;have er:=(Ah.1 hm).1;have HR:=AA (λW (R:Below w.heap.size w W)=>BG.below hI R);have kP:=AA (λW (R:Below w.heap.size w W)=>h.below R);have fi:=(A6.1 ((Ah.1 hm).2 f hf)).1;have CN:=AA (λu W hu=>JB u (AH m f) W hu (by omega) (MD hm hf));have h4:=Qd hm hf;have ol:=AA (λg (K:g∈named (AH m f))=>Fj K);have nW:=AA dl;have Hn:=AA hn;have oF: -1<=n/\n<=1:=by omega
 obtain⟨am,cm,rfl,_,_,_⟩:=h.open;obtain⟨ai,ci,rfl,_,_⟩:=hI.shape;have oL:(f:Int)<m.length:=by omega
 have eU:f<m.length:=by omega
 generalize named (AH m f)=fs at*;clear h hm hI dl hn fi er;go_in;go_wp2_with (at_builtin;go_must (refine Fo (cs:=At) rfl rfl 91 (.agg #[.int .i64 0,.string ⟨#[]⟩,.int .i64 0]) 3 32 underlying24 Tryz.zP rfl (by decide) rfl (Cd At _ _ _) rfl (HR.out _ (AJ _ _)) (Fc _) (by have:=Hl.out;omega) (by decide) (by simp) ?_;intro v' w9 hO cC));have br:=(AJ w _).trans cC;obtain⟨q,cg,rfl,c1,c2,q1,q2,em⟩:=hO.zX (by have:=Hl.out;omega);unfold maxLen at c2;have HO:=AA hO;have cq:=AA br;obtain⟨a9,c9,e9,_,_,H9⟩:=(kP.out _ br).open;simp only[xS] at e9;obtain⟨rfl,_,rfl⟩:=e9;obtain⟨b,bl,u,rfl,bx,hk,hR⟩:=H9 f eU;have C:=AA (CN.out u w9 hR);obtain⟨_,_,rfl,_⟩:=hR.open;have eL:¬(f:Int)<0:=by omega
 clear hO cC br H9 hR CN em;go_wp2_with fail;refine C.out.mono ?_;rintro e w1 ⟨v1,rfl,o1,b1⟩;obtain⟨a1,kK,rfl,kl⟩:=Er o1;have n7:=AA (HO.out.below b1);have nU:=AA o1;have nQ:=AA (cq.out.trans (b1.mono cq.out.size));clear o1 b1 C hk;go_wp2_with fail;go_loopw [11] (λix wr=>∃k:Nat,k<=fs.length/\ix=.int .i64 k/\AO w.heap.size 91 3 At wr (.slice (some ⟨q,0,none⟩) xs.length cg) (BK xs (fs.take k) n)/\AG w9.heap.size wr (.slice a1 fs.length kK) (A4 fs)/\Below w.heap.size w wr) (λix _=>fs.length - (intOf ix).toNat)
 exact⟨0,yu _,rfl,by simpa[BK] using n7.out,nU.out,nQ.out⟩
 obtain⟨k,D,rfl,hO,o1,A⟩:=hrel
 by_cases av:k<fs.length
 .have bN:(k:Int)<(fs.length:Int):=by omega
  obtain⟨a2,oX,e2,_,_,H1⟩:=(AG.rd o1).open;simp only[xS] at e2;obtain⟨rfl,e2,rfl⟩:=e2;clear e2;obtain⟨b1,ff,rfl,hk⟩:=H1.at (k:=k) (by rw[Cm];exact av);rw[Pj] at hk;have jZ:=(yB o1 b1 rfl).2;have O:=ol.out _ (yx (GY av));have RN:=Wy (Xy:=xs) (n:=n) av;obtain⟨r1,r2,_⟩:=KB nW.out (fs:=fs.take k) (by rw[yt];omega) Hn.out O;have iK:(BK xs (fs.take k) n).length=xs.length:=Jk;rw[<-iK] at hO;generalize BK xs (fs.take k) n=X at*;generalize IS fs k=o at*;have jY:o<X.length:=by rw[iK,Hl.out];exact O
  have lu:(o:Int)<xs.length:=by rw[Hl.out];omega
  have mP:¬(o:Int)<0:=by omega
  obtain⟨_,_,d2⟩:=AO.Dq hO jY;have hq:=(yB hO q rfl).2;have jd:=AA hO;have nS:=AA (Ca jY);have nV:=AA iK;have kR:=AA o1;have hj:=AA RN;have Y:=AA A;clear RN hO o1 A H1 iK jY;go_wp2_with fail;refine Ac 17 44 [.s q xs.length cg,.v (.slice (some ⟨b1,ff,none⟩) fs.length kK),.i ((k:Int)),.p b1 (ff+k),.i ((o:Int)),.s q xs.length cg,.v (.slice (some ⟨b1,ff,none⟩) fs.length kK),.i ((k:Int)),.p b1 (ff+k),.i ((o:Int)),.p q (o*3),.p q (o*3+2),.i ((Sc X o).r),.i n,.i ((Sc X o).r+n),.p q (o*3),.p q (o*3+2)] (λ_ _ _=>True) ?_ ?_
  .intro i H o O a wx Y J Z hg z
   have bB:=bc Z jZ hk;have bs:=bc Z hq d2
   match i,H with
   |0,_|1,_|2,_|5,_|6,_|7,_|11,_|13,_|16,_=>exact sP O z Y J
   |3,_|8,_|10,_|15,_=>exact sI O z Y J (hr:=by clear J Y z;go_simp)
   |4,_|9,_|12,_=>exact sL O z Y J (hl:=Fy ‹_›)
   |14,_=>clear bB bs;obtain rfl:=yQ O;have lL:(a.tmps[38]?.getD undef)=.int .i64 ((Sc X o).r):=BY J 12;have gK:(a.tmps[39]?.getD undef)=.int .i64 n:=BY J 13;clear J Y;refine yP ?_;go_simp;exact z.out _ _ (by show ym .i64 (IntKind.i64.wrap _)=_;rw[IntWalk.i64_in _ (by omega)]) (yO _ _)
   |_+17,hq=>omega
  .intro L wx hR Z
   have lf:(L 14)=.int .i64 ((Sc X o).r+n):=Bg hR 14;have fc:(L 16)=.pointer (some ⟨q,o*3+2,none⟩):=Bg hR 16;clear hR;simp only[Aj,Ag,yN,yJ,yK,yI,lf,fc];simp;clear lf fc;have i0:=AA (AO.zI Av (jd.out.below Z) nS.out (j:=2) (by decide) (y:=Ic n (Sc X o)) (u:=.int .i64 ((Sc X o).r+n)) rfl);have lG:=AA (Y.out.trans (Z.mono Y.out.size));have Fw:wx.frozen? ⟨q,o*3+2,none⟩=false:=xT (jd.out.below Z) (o*3+2);obtain⟨gL,eD⟩:=A9 (jd.out.below Z) q rfl;have N2:=AA (FR (kR.out.below Z) i0.out.2 eD);have lp:q<wx.heap.size:=(yB (jd.out.below Z) q rfl).2;rw[nV.out] at i0;have oV:=(Z.cell (p:=⟨q,o*3+2,none⟩) hq).trans d2;clear Z eD d2 hk;go_wp2_with fail;go_roundw;exact⟨k+1,by omega,by go_num,by rw[hj.out];exact i0.out.1,N2.out,AM lG.out i0.out.2 q1 lG.out.size⟩;simp[intOf];omega
 .obtain rfl:k=fs.length:=by omega
  rw[xG] at hO;go_wp2_with fail;go_ret;exact⟨_,rfl,hO,A⟩
theorem QS{xs:List AV}{kind:Int}(h:A8 xs=true)(hf:f<12)(lA:(Sc xs f).k≠0)(D:1<=kind/\kind<=3):A8 (An xs f (DU kind))=true:=by
 obtain⟨hl,V⟩:=A1.1 h;refine A1.2 ⟨by rw[Cz];exact hl,λg K=>?_⟩;rw[Fb]
 split
 .have:=V f hf
  rw[M6 lA] at this;rw[M6 (x:=DU kind _) (by show kind≠0;omega)]
  show(Bh kind 1 3&&BO (Sc xs f).g&&Bh (Sc xs f).r 0 50)=true
  simp only[yD] at this ⊢;exact⟨⟨AZ.2 D,this.1.2⟩,this.2⟩
 .exact V g K
theorem SP(v iv rv:Value)(m:List (List Int))(xs:List AV)(f:Nat)(kind:Int)(ss:List ByteArray)(w:World)(h:Bf w v m)(bL:Bq m=true)(hI:BW w iv xs)(dl:A8 xs=true)(hf:f<12)(D:Bi kind=true)(hv:BT w rv ss)(jR:DH ss)(hr:BS ss=true):
 Calls prog 247 #[v,iv,.int .i64 f,.int .i64 kind,rv] w (Mo (F7 m xs f kind ss) w):=by
 have hl:=(A1.1 dl).1;have j1:2<=kind/\kind<=3:=by simp only[Bi,xP,decide_eq_true_eq] at D;omega
 have eY:=(IJ ((A1.1 dl).2 f hf)).2.1;have C1:=AA (λW (R:Below w.heap.size w W)=>Oy v iv m xs f W (h.below R) bL (BG.below hI R) dl hf);have C3:=AA (λW (_:Below w.heap.size w W)=>A3 (by have:=Fx kind W;rw[D] at this;exact this));have C4:=AA (λW (R:Below w.heap.size w W)=>by have:=Gi rv ss W (BG.below hv R) jR;rw[hr] at this;exact this);have C7:=AA (λW (R:Below w.heap.size w W)=>Sq v iv rv m xs f kind ss W (h.below R) bL (BG.below hI R) hl (By dl) hf D (BG.below hv R) jR);have HR:=AA (λW (R:Below w.heap.size w W)=>BG.below hI R);have SM:=AA (MU (kind:=kind) bL dl hf (.inl (rfl:(1:Int)=1)));have PN:=AA (UR (m:=m) (Xy:=xs) (f:=f) (kind:=kind) (ss:=ss));have cP:=AA (λ(j2:(Sc xs f).k=1) W (R:Below w.heap.size w W) u (hu:BW W u (An xs f (DU kind)))=>QV v u m (An xs f (DU kind)) f 1 W (h.below R) bL hu (QS dl hf (by omega) (by omega)) hf (.inl rfl));obtain⟨ai,ci,rfl,kj,f6,H2⟩:=BG.open Av (by decide) hI;obtain⟨bi,bf,rfl,cu,D0,_,D2⟩:=H2.Dq (show f<xs.length by omega);obtain⟨_,_,rfl,_⟩:=h.open;obtain⟨_,_,rfl,_⟩:=hv.shape;have eU:(f:Int)<xs.length:=by omega
 have Hl:=AA hl;have A:=yO w.heap.size w;clear h bL hI dl D hv jR hr hl H2;go_in;go_wp2_with fail;refine(C1.out _ A).mono ?_;rintro e w_ ⟨rfl,eM⟩;replace A:=A.trans (eM.mono A.size);clear eM;go_wp2_with fail;refine(C3.out _ A).mono ?_;rintro e w_ ⟨rfl,eM⟩;replace A:=A.trans (eM.mono A.size);clear eM;go_wp2_with fail;refine(C4.out _ A).mono ?_;rintro e w4 ⟨rfl,n4,rfl⟩;replace A:=A.trans (A0 (yO _ _) n4|>.mono A.size);have Y:=AA A
 by_cases e1:(Sc xs f).k=1
 .by_cases e2:(Sc xs f).r=0
  .have t1:((Sc xs f).k !=1)=false:=by simp[e1]
   have t2:¬0<(Sc xs f).r:=by omega
   have P:=AA (show F7 m xs f kind ss=if IU m xs f kind ss=false then(xs,2)
    else if A8 (An (BK xs (named (AH m f)) 1) f (DU kind)) then(An (BK xs (named (AH m f)) 1) f (DU kind),0) else(xs,1) by rw[PN.out,if_neg (by simp[e1,e2])])
   have gu:=AA (cP.out e1);clear e1 e2 cP PN eY;go_wp2_with (at_builtin;go_must (refine Fo (cs:=At) rfl rfl 91 (.agg #[.int .i64 0,.string ⟨#[]⟩,.int .i64 0]) 3 32 underlying24 Tryz.zP rfl (by decide) rfl (Cd At _ _ _) rfl (HR.out _ (Y.out.trans ((AJ _ _).mono Y.out.size))) (Fc _) (by have:=Hl.out;omega) (by decide) (by simp) ?_;intro v' w9 hO cC;have eo:=AA ((Y.out.trans ((AJ _ _).mono Y.out.size)).trans (cC.mono Y.out.size));replace D0:=(eo.out.cell (p:=⟨bi,bf+f*3,none⟩) cu).trans D0;replace D2:=(eo.out.cell (p:=⟨bi,bf+f*3+2,none⟩) cu).trans D2;clear cC));refine(C7.out _ eo.out).mono ?_;rintro e gw ⟨rfl,kL⟩;replace hO:=AO.below hO kL;have eW:=AA (eo.out.trans (kL.mono eo.out.size));clear kL D0 D2;cases K:IU m xs f kind ss
   .have P2:=AA (show F7 m xs f kind ss=(xs,2) by rw[P.out,K];rfl)
    clear K;have HO:=AA hO;clear hO;go_wp2_with fail;go_ret2;exact⟨_,by rw[P2.out];rfl,by rw[P2.out];exact HO.out.lower Y.out.size,eW.out⟩
   .have P2:=AA (show F7 m xs f kind ss=if A8 (An (BK xs (named (AH m f)) 1) f (DU kind)) then(An (BK xs (named (AH m f)) 1) f (DU kind),0) else(xs,1) by rw[P.out,K];rfl)
    clear K;obtain⟨q,cg,rfl,c1,c2,q1,q2,em⟩:=hO.zX (by have:=Hl.out;omega);unfold maxLen at c2;obtain⟨d0,_,_⟩:=AO.Dq hO (show f<xs.length by have:=Hl.out;omega);have Fr:=em (f*3);have S0:=AO.zI Av hO (Ca (show f<xs.length by have:=Hl.out;omega)) (j:=0) (by decide) (y:=DU kind (Sc xs f)) (u:=.int .i64 kind) rfl;rw[xU] at S0;have dd:=AM eW.out S0.2 (yL Y.out.size q1) eW.out.size;rw[<-Hv (f:=DU kind)] at S0;have S:=AA (AO.lower S0.1 Y.out.size);have eL:¬(f:Int)<0:=by omega
    clear S0 hO em;go_wp2_with fail;generalize hwN:gw.setCell _ _=wN at*;clear d0 Fr hwN q2;have kw:(An xs f (DU kind)).length=xs.length:=Cz;have CA:=gu.out wN dd (.slice (some ⟨q,0,none⟩) xs.length cg) (AO.rd S.out);clear kw;refine CA.mono ?_;rintro e jl ⟨jm,rfl,fD,im⟩;rw[<-PD] at fD;have ef:=dd.trans (im.mono dd.size);have kO:=AA (AO.lower fD dd.size);have fH:=AO.rd fD;clear fD im S;generalize hM:An (BK xs (named (AH m f)) 1) f (DU kind)=M at*;have C9:=Db jm M jl fH SM.out;obtain⟨nM,nL,rfl,_,_⟩:=fH.shape;cases hq:A8 M
    .have P3:=AA (show F7 m xs f kind ss=(xs,1) by rw[P2.out,hq];rfl)
     rw[hq] at C9;have C:=AA C9;have ds:=AA ef;clear C9 hq fH ef dd;go_wp2_with fail;refine(C.out).mono ?_;rintro e jk ⟨rfl,eV⟩;have dz:=ds.out.trans (eV.mono ds.out.size);have dg:=AA dz;clear eV dz c1 c2;go_wp2_with (at_builtin;go_must (refine Fo (cs:=At) rfl rfl 91 (.agg #[.int .i64 0,.string ⟨#[]⟩,.int .i64 0]) 3 32 underlying24 Tryz.zP rfl (by decide) rfl (Cd At _ _ _) rfl (HR.out _ (dg.out.trans ((AJ _ _).mono dg.out.size))) (Fc _) (by have:=Hl.out;omega) (by decide) (by simp) ?_;intro v' w9 hO cC));have fp:=(dg.out.trans ((AJ _ _).mono dg.out.size)).trans (cC.mono dg.out.size);have HO:=AA (hO.lower dg.out.size);have gl:=AA fp;clear hO cC fp;go_wp2_with fail;go_ret2;exact⟨_,by rw[P3.out];rfl,by rw[P3.out];exact HO.out,gl.out⟩
    .have P3:=AA (show F7 m xs f kind ss=(M,0) by rw[P2.out,hq];rfl)
     rw[hq] at C9;have C:=AA C9;have ds:=AA ef;clear C9 hq fH ef dd;go_wp2_with (refine(C.out).mono ?_;rintro e jk ⟨rfl,eV⟩;have dz:=ds.out.trans (eV.mono ds.out.size);have kN:=AA (kO.out.below eV);clear eV c1 c2);go_ret2;exact⟨_,by rw[P3.out];rfl,by rw[P3.out];exact kN.out,dz⟩
  .have t1:((Sc xs f).k !=1)=false:=by simp[e1]
   have t2:0<(Sc xs f).r:=by omega
   have P2:=AA (show F7 m xs f kind ss=(xs,1) by rw[PN.out,if_pos (.inr e2)]);clear e1 e2 cP PN eY;go_wp2_with (at_builtin;go_must (refine Fo (cs:=At) rfl rfl 91 (.agg #[.int .i64 0,.string ⟨#[]⟩,.int .i64 0]) 3 32 underlying24 Tryz.zP rfl (by decide) rfl (Cd At _ _ _) rfl (HR.out _ (Y.out.trans ((AJ _ _).mono Y.out.size))) (Fc _) (by have:=Hl.out;omega) (by decide) (by simp) ?_;intro v' w9 hO cC;have eo:=AA ((Y.out.trans ((AJ _ _).mono Y.out.size)).trans (cC.mono Y.out.size));replace D0:=(eo.out.cell (p:=⟨bi,bf+f*3,none⟩) cu).trans D0;replace D2:=(eo.out.cell (p:=⟨bi,bf+f*3+2,none⟩) cu).trans D2;clear cC));go_ret2;exact⟨_,by rw[P2.out];rfl,by rw[P2.out];exact hO.lower Y.out.size,eo.out⟩
 .have t1:((Sc xs f).k !=1)=true:=by simp[e1]
  have P2:=AA (show F7 m xs f kind ss=(xs,1) by rw[PN.out,if_pos (.inl e1)]);clear e1 cP PN eY;go_wp2_with (at_builtin;go_must (refine Fo (cs:=At) rfl rfl 91 (.agg #[.int .i64 0,.string ⟨#[]⟩,.int .i64 0]) 3 32 underlying24 Tryz.zP rfl (by decide) rfl (Cd At _ _ _) rfl (HR.out _ (Y.out.trans ((AJ _ _).mono Y.out.size))) (Fc _) (by have:=Hl.out;omega) (by decide) (by simp) ?_;intro v' w9 hO cC;have eo:=AA ((Y.out.trans ((AJ _ _).mono Y.out.size)).trans (cC.mono Y.out.size));replace D0:=(eo.out.cell (p:=⟨bi,bf+f*3,none⟩) cu).trans D0;clear cC));go_ret2;exact⟨_,by rw[P2.out];rfl,by rw[P2.out];exact hO.lower Y.out.size,eo.out⟩
theorem Pb(v iv:Value)(m:List (List Int))(xs:List AV)(f:Nat)(w:World)(h:Bf w v m)(bL:Bq m=true)(hI:BW w iv xs)(dl:A8 xs=true)(hf:f<12):
 Calls prog 248 #[v,iv,.int .i64 f] w (Mo (Cy m xs f) w):=by
 have hl:=(A1.1 dl).1;have eY:=(IJ ((A1.1 dl).2 f hf)).2.1;have C1:=AA (λW (R:Below w.heap.size w W)=>Oy v iv m xs f W (h.below R) bL (BG.below hI R) dl hf);have HR:=AA (λW (R:Below w.heap.size w W)=>BG.below hI R);have SM:=AA (MU (kind:=1) bL dl hf (.inr (rfl:(-1:Int)= -1)));have PN:=AA (Ny (m:=m) (Xy:=xs) (f:=f));have cP:=AA (λ(j2:Bi (Sc xs f).k=true) W (R:Below w.heap.size w W) u (hu:BW W u (An xs f (DU 1)))=>QV v u m (An xs f (DU 1)) f (-1) W (h.below R) bL hu (QS dl hf (by intro e;rw[e] at j2;cases j2) (by omega)) hf (.inr rfl));obtain⟨ai,ci,rfl,kj,f6,H2⟩:=BG.open Av (by decide) hI;obtain⟨bi,bf,rfl,cu,D0,_,D2⟩:=H2.Dq (show f<xs.length by omega);obtain⟨_,_,rfl,_⟩:=h.open;have eU:(f:Int)<xs.length:=by omega
 have Hl:=AA hl;have A:=yO w.heap.size w;have CK:=AA (λW=>Fx (Sc xs f).k W);clear h bL hI dl hl H2;go_in;go_wp2_with fail;refine(C1.out _ A).mono ?_;rintro e w_ ⟨rfl,eM⟩;replace A:=A.trans (eM.mono A.size);clear eM;have Y:=AA A;clear A;go_wp2_with (at_builtin;go_must (refine Fo (cs:=At) rfl rfl 91 (.agg #[.int .i64 0,.string ⟨#[]⟩,.int .i64 0]) 3 32 underlying24 Tryz.zP rfl (by decide) rfl (Cd At _ _ _) rfl (HR.out _ (Y.out.trans ((AJ _ _).mono Y.out.size))) (Fc _) (by have:=Hl.out;omega) (by decide) (by simp) ?_;intro v' w9 hO cC;have eo:=AA ((Y.out.trans ((AJ _ _).mono Y.out.size)).trans (cC.mono Y.out.size));replace D0:=(eo.out.cell (p:=⟨bi,bf+f*3,none⟩) cu).trans D0;replace D2:=(eo.out.cell (p:=⟨bi,bf+f*3+2,none⟩) cu).trans D2;clear cC));have eW:=eo;refine(CK.out _).mono ?_;rintro e gw ⟨rfl,rfl⟩;cases e1:Bi (Sc xs f).k
 .have P2:=AA (show Cy m xs f=(xs,1) by rw[PN.out,if_pos (.inl e1)])
  clear e1 cP PN eY;have HO:=AA hO;clear hO;go_wp2_with fail;go_ret2;exact⟨_,by rw[P2.out];rfl,by rw[P2.out];exact HO.out.lower Y.out.size,eo.out⟩
 .by_cases e2:(Sc xs f).r=0
  .have t2:¬0<(Sc xs f).r:=by omega
   have P2:=AA (show Cy m xs f=if A8 (An (BK xs (named (AH m f)) (-1)) f (DU 1)) then(An (BK xs (named (AH m f)) (-1)) f (DU 1),0) else(xs,2) by rw[PN.out,if_neg (by simp[e1,e2])]);have gu:=AA (cP.out e1);clear e1 e2 cP PN eY;obtain⟨gw,rfl⟩:∃gw:World,gw=w9:=⟨_,rfl⟩
   obtain⟨q,cg,rfl,c1,c2,q1,q2,em⟩:=hO.zX (by have:=Hl.out;omega);unfold maxLen at c2;obtain⟨d0,_,_⟩:=AO.Dq hO (show f<xs.length by have:=Hl.out;omega);have Fr:=em (f*3);have S0:=AO.zI Av hO (Ca (show f<xs.length by have:=Hl.out;omega)) (j:=0) (by decide) (y:=DU 1 (Sc xs f)) (u:=.int .i64 1) rfl;rw[xU] at S0;have dd:=AM eW.out S0.2 (yL Y.out.size q1) eW.out.size;rw[<-Hv (f:=DU 1)] at S0;have S:=AA (AO.lower S0.1 Y.out.size);have eL:¬(f:Int)<0:=by omega
   clear S0 hO em;go_wp2_with fail;generalize hwN:gw.setCell _ _=wN at*;clear d0 Fr hwN q2;have kw:(An xs f (DU 1)).length=xs.length:=Cz;have CA:=gu.out wN dd (.slice (some ⟨q,0,none⟩) xs.length cg) (AO.rd S.out);clear kw;refine CA.mono ?_;rintro e jl ⟨jm,rfl,fD,im⟩;rw[<-PD] at fD;have ef:=dd.trans (im.mono dd.size);have kO:=AA (AO.lower fD dd.size);have fH:=AO.rd fD;clear fD im S;generalize hM:An (BK xs (named (AH m f)) (-1)) f (DU 1)=M at*;have C9:=Db jm M jl fH SM.out;obtain⟨nM,nL,rfl,_,_⟩:=fH.shape;cases hq:A8 M
   .have P3:=AA (show Cy m xs f=(xs,2) by rw[P2.out,hq];rfl)
    rw[hq] at C9;have C:=AA C9;have ds:=AA ef;clear C9 hq fH ef dd;go_wp2_with fail;refine(C.out).mono ?_;rintro e jk ⟨rfl,eV⟩;have dz:=ds.out.trans (eV.mono ds.out.size);have dg:=AA dz;clear eV dz c1 c2;go_wp2_with (at_builtin;go_must (refine Fo (cs:=At) rfl rfl 91 (.agg #[.int .i64 0,.string ⟨#[]⟩,.int .i64 0]) 3 32 underlying24 Tryz.zP rfl (by decide) rfl (Cd At _ _ _) rfl (HR.out _ (dg.out.trans ((AJ _ _).mono dg.out.size))) (Fc _) (by have:=Hl.out;omega) (by decide) (by simp) ?_;intro v' w9 hO cC));have fp:=(dg.out.trans ((AJ _ _).mono dg.out.size)).trans (cC.mono dg.out.size);have HO:=AA (hO.lower dg.out.size);have gl:=AA fp;clear hO cC fp;go_wp2_with fail;go_ret2;exact⟨_,by rw[P3.out];rfl,by rw[P3.out];exact HO.out,gl.out⟩
   .have P3:=AA (show Cy m xs f=(M,0) by rw[P2.out,hq];rfl)
    rw[hq] at C9;have C:=AA C9;have ds:=AA ef;clear C9 hq fH ef dd;go_wp2_with (refine(C.out).mono ?_;rintro e jk ⟨rfl,eV⟩;have dz:=ds.out.trans (eV.mono ds.out.size);have kN:=AA (kO.out.below eV);clear eV c1 c2);go_ret2;exact⟨_,by rw[P3.out];rfl,by rw[P3.out];exact kN.out,dz⟩
  .have t2:0<(Sc xs f).r:=by omega
   have P2:=AA (show Cy m xs f=(xs,1) by rw[PN.out,if_pos (.inr e2)]);clear e1 e2 cP PN eY;have HO:=AA hO;clear hO;go_wp2_with fail;go_ret2;exact⟨_,by rw[P2.out];rfl,by rw[P2.out];exact HO.out.lower Y.out.size,eo.out⟩
theorem If{k:AN}(h:DP k){j:Nat}(E:j<3):DH (AF k.V3 j).Tj:=Ej (h.Tj j E)
theorem Jv(m i e c:Value)(k:AN)(en:Nat)(g:ByteArray)(w:World)(h:GO w e k.V3)(D:DP k)(fy:en<3)(K:g.size<=maxLen):
 Calls prog 207 #[.agg #[m,i,e,c],.int .i64 en,.string g] w λr w'=>r=.returned (.bool (CQ (AF k.V3 en).Tj g))/\Below w.heap.size w w':=by
 obtain⟨N0,bp⟩:=EH w (.cells #[m,i,e,c] 28);obtain⟨a,cp,rfl,hc,cd,hi⟩:=(h.below bp).open;obtain⟨b,bl,ua,uc,rfl,bx,D0,_,hR⟩:=hi en (by rw[D.zY];exact fy);have C:=AA (Ky _ _ g _ hR (If D fy) K);have oM:(en:Int)<k.V3.length:=by rw[D.zY];omega
 obtain⟨_,_,x2,_⟩:=AE N0;have eL:¬(en:Int)<0:=by omega
 clear h D hi hR N0;go_in;go_wp2_with fail;generalize w.alloc _=W0 at*;refine C.out.mono ?_;rintro e w1 ⟨rfl,b1⟩;go_wp2_with fail;go_ret;exact⟨rfl,bp.trans (b1.mono bp.size)⟩
theorem Rr(m i e c:Value)(k:AN)(x:Int)(w:World)(h:Bf w m k.mem)(H:BW w i k.Xy)(hm:Bq k.mem=true)(hl:k.Xy.length=12)(hx:x<=9223372036854775807):
 Calls prog 214 #[.agg #[m,i,e,c],.int .i64 x] w λr w'=>∃v',r=.returned v'/\AG w.heap.size w' v' (A4 (Kt k x))/\Below w.heap.size w w':=by
 obtain⟨N0,bp⟩:=EH w (.cells #[m,i,e,c] 28);obtain⟨x0,x1,_,_⟩:=AE N0;have fW:=AW N0;cases K:Bn x
 .have h2:=AA (Eg K)
  have hj:Kt k x=[]:=by unfold Kt;rw[K];rfl
  rw[hj];have o1:=FU (w.alloc (.cells #[m,i,e,c] 28));simp only[xK] at o1;clear K hj;go_in;go_wp2_with (go_at_call 206;refine(DG _ _ hx).mono ?_;rintro e w' ⟨rfl,rfl⟩;rw[h2.out]);go_ret;exact⟨_,rfl,M5 o1 (wH _),bp.alloc bp.size _⟩
 .have h2:=AA (Ed K)
  have hF:=ET K;have BE:Kt k x=BM x::(if(Sc k.Xy (BM x)).k=2 then named (AH k.mem (BM x)) else[]):=by unfold Kt;rw[K,if_pos rfl]
  rw[BE];generalize BM x=o at*;obtain⟨ai,ci,rfl,_,_,HI⟩:=BG.open Av (by decide) (BG.below H bp);obtain⟨bi,bf,rfl,cu,D0,_,_⟩:=HI.Dq (show o<k.Xy.length by omega);have lu:(o:Int)<k.Xy.length:=by omega
  have mP:¬(o:Int)<0:=by omega
  have o1:=Xk (w.alloc (.cells #[m,.slice (some ⟨bi,bf,none⟩) k.Xy.length ci,e,c] 28)) o;clear K BE HI H
  by_cases V:(Sc k.Xy o).k=2
  .have t2:((Sc k.Xy o).k !=2)=false:=by simp[V]
   rw[if_pos V];have er:=(Ah.1 hm).1;obtain⟨am,cm,rfl,_,_,HM⟩:=(h.below bp).open;obtain⟨bm,gS,u,rfl,kp,DM,hR⟩:=HM o (by omega);have oC:(o:Int)<k.mem.length:=by omega
   have fi:=(A6.1 ((Ah.1 hm).2 o hF)).1;have CN:=AA (λW (R:Below _ _ W)=>JB u (AH k.mem o) W (Ax.below hR R) (by omega) (MD hm hF));have eC:=Qd hm hF;obtain⟨_,_,rfl,_⟩:=hR.open;generalize named (AH k.mem o)=ns at*;simp only[xK] at o1;have ko:=kp;simp only[xK] at ko;clear V h hm hl HM hR er fi N0;go_in;go_wp2_with (go_at_call 206;refine(DG _ _ hx).mono ?_;rintro e w' ⟨rfl,rfl⟩;rw[h2.out]);generalize w.alloc _=W0 at*;have C:=AA (CN.out _ (AJ W0 (.cells #[.int .i64 o] 3)));refine C.out.mono ?_;rintro r w1 ⟨v1,rfl,n1,b1⟩;have O1:=AA (AG.below o1 b1);have km:=(AJ W0 (.cells #[.int .i64 o] 3)).trans (b1.mono (AJ W0 (.cells #[.int .i64 o] 3)).size);have oA:=km.size;have br:=bp.trans (km.mono bp.size);have gN:=AA (AG.rd n1);have cq:=AA br;obtain⟨az,cz,rfl,lE⟩:=Er n1;clear o1 n1 b1 br km CN C x0 x1 D0 DM;go_wp2_with (at_builtin;go_must (refine Bm (lo:=w.heap.size+1) (n:=1) (xs:=(A4 [o]).map (ym .i64)) (m:=ns.length) (news:=(A4 ns).map (ym .i64)) rfl rfl 3 (.int .i64 0) 1 8 underlying29 Tryz.zT rfl (by decide) rfl (LD O1.out (yO _ _)) rfl (by have:=gN.out;unfold Ax at this;rw[Cm] at this;exact this) (Lv _) (by unfold maxLen;omega) (by omega) (by omega) ?_;intro o' w9 k1 k2 k3 k4));go_ret;exact⟨_,rfl,M5 (JC (ys:=[o]) (zs:=ns) k1) (wH _),cq.out.trans (k4.mono (wH _))⟩
  .have t2:((Sc k.Xy o).k !=2)=true:=by simp[V]
   rw[if_neg V];simp only[xK] at o1;obtain⟨_,_,rfl,_⟩:=h.open;clear V h hm hl N0;go_in;go_wp2_with (go_at_call 206;refine(DG _ _ hx).mono ?_;rintro e w' ⟨rfl,rfl⟩;rw[h2.out]);go_ret;exact⟨_,rfl,M5 o1 (wH _),bp.alloc bp.size _⟩
theorem OE{lo:Nat}{w:World}{ops:Array Oper}{rest:List Oper}{o:Oper}{a:Act}{Q:Exit->Act->World->Prop}{s x:Operand}{t:TypeId}
 (j8:o.guard=none)(O:o.op=.call {callee:=.builtin .append,args:= #[s,x],argTypes:= #[t,t]})
 (ht:prog.underlying t=some (.slice 3)){v u:Value}{xs:List Int}(hs:a.eval s=v)(ad:AG lo w v [])
 (hx:a.eval x=u)(hr:Ax w u xs)(nu:xs.length<=1048576)(dn:lo<=w.heap.size)
 (hK:∀v' w',AG lo w' v' xs->Below lo w w'->wpList prog ops Q rest (a.put o.dst v') w'):wpList prog ops Q (o::rest) a w:=by
 refine Bm (n:=0) (xs:=[]) (m:=xs.length) (news:=xs.map (ym .i64)) j8 O 3 (.int .i64 0) 1 8 ht Tryz.zT rfl (by decide) hs ad hx hr (Lv _) ?_ ?_ dn λv' w' k1 _ _ k4=>hK v' w' ?_ k4
 .unfold maxLen;omega
 .omega
 .unfold AG
  rw[Nat.zero_add] at k1;exact k1
theorem Mx(v:Value)(m:List (List Int))(w:World)(h:Bf w v m)(hl:m.length<=100)(hr:∀f,f<m.length->(AH m f).length<=100):
 Calls prog 86 #[v] w λe w'=>∃v' L,e=.returned v'/\Az w.heap.size w' v' L m/\Below w.heap.size w w':=by
 obtain⟨a,c,rfl,hc,cd,hi⟩:=h.open;unfold maxLen at cd;have HH:=AA hi;have HR:=AA hr;clear h hi hr;go_in;go_wp2_with fail;go_loopw [3,4] (λo i wr=>∃k:Nat,∃L:List Value,k<=m.length/\L.length=k/\i=.int .i64 k/\Az w.heap.size wr o L (m.take k)/\Below w.heap.size w wr) (λ_ i _=>m.length - (intOf i).toNat)
 exact⟨0,[],by omega,rfl,rfl,⟨Cu _ _ _,GE.nil,DO.nil⟩,AJ _ _⟩
 obtain⟨k,L,D,eS,rfl,hO,be⟩:=hrel;have Hl:=AA eS;clear eS
 by_cases av:k<m.length
 .have bN:(k:Int)<(m.length:Int):=by omega
  have mK:L.length<=100:=by rw[Hl.out];omega
  have fi:=HR.out k av;have TK:=AA (DF (KD av));obtain⟨b,bl,u,rfl,bx,hk,hR⟩:=(HH.out.below be) k av;generalize AH m k=r at*;have np:=AA (Ax.below hR (AJ wr (.cells #[] 3)));obtain⟨_,_,rfl,_⟩:=hR.open;have HO:=AA hO;have eh:=AA be;obtain⟨_,_,rfl,_⟩:=hO.1.rd.shape;clear hR hO be;go_wp2_with (first|(at_builtin;refine OE rfl rfl underlying29 rfl (FU wr) rfl np.out (by omega) (AJ wr (.cells #[] 3)).size ?_;intro u' w2 hu bk;have eO:=AA ((AJ wr (.cells #[] 3)).trans bk);have Hu:=AA hu;obtain⟨ua,uc,rfl,_⟩:=(AG.rd hu).open;clear hu bk)|(at_builtin;go_must (refine Bm (lo:=w.heap.size) (n:=L.length) (xs:=CZ Gc L) (m:=1) rfl rfl 29 (.slice none 0 0) 1 24 underlying23 Tryz.zk rfl (by decide) rfl ((HO.out.below eO.out).below (AJ _ _)).1 rfl (Rd.zN _ #[_] _ 1 1 _ (by simp) rfl (by simp[maxLen])) (by simp[xR]) (by unfold maxLen;omega) (by omega) (by have N:=eh.out.size;have V:=eO.out.size;simp;omega) ?_;intro o' w3 g1 g2 g3 g4)));go_roundw
  case rel=>have bk:=eO.out.trans ((AJ w2 (.cells #[.slice ua r.length uc] 29)).mono eO.out.size);have hP:=HO.out.push bk eh.out.size (Hu.out.below (AJ _ _)) g1 g2;exact⟨k+1,L++[.slice ua r.length uc],by omega,by rw[yA,Hl.out];rfl,by go_num,by rw[TK.out];exact hP,(eh.out.trans (bk.mono eh.out.size)).trans g4⟩
  case measure=>simp[intOf];omega
 .obtain rfl:k=m.length:=by omega
  rw[xG] at hO;go_wp2_with fail;go_ret;exact⟨_,L,rfl,hO,be⟩
theorem Wf(w:World):Calls prog 137 #[] w λe w'=>∃v L,e=.returned v/\Az w.heap.size w' v L (yd 16 [])/\Below w.heap.size w w':=by
 go_in;go_wp2_with fail;go_loopw [1,2] (λo i wr=>∃k:Nat,∃L:List Value,k<=16/\L.length=k/\i=.int .i64 k/\Az w.heap.size wr o L (yd k [])/\Below w.heap.size w wr) (λ_ i _=>16 - (intOf i).toNat)
 exact⟨0,[],by omega,rfl,rfl,⟨Cu _ _ _,GE.nil,DO.nil⟩,AJ _ _⟩
 obtain⟨k,L,D,eS,rfl,hO,be⟩:=hrel;have Hl:=AA eS;clear eS
 by_cases av:k<16
 .have mK:L.length<=16:=by rw[Hl.out];omega
  have bk:=(AJ wr (.cells #[] 3));have HO:=AA hO;have eh:=AA be;obtain⟨_,_,rfl,_⟩:=hO.1.rd.shape;clear hO be;go_wp2_with (at_builtin;go_must (refine Bm (lo:=w.heap.size) (n:=L.length) (xs:=CZ Gc L) (m:=1) (news:=[.slice (some ⟨wr.heap.size,0,none⟩) 0 0]) rfl rfl 29 (.slice none 0 0) 1 24 underlying23 Tryz.zk rfl (by decide) rfl ((HO.out.below bk).below (AJ _ _)).1 rfl (Rd.zN _ #[_] _ 1 1 _ (by simp) rfl (by simp[maxLen])) (by simp[xR]) (by unfold maxLen;omega) (by omega) (by have N:=eh.out.size;have V:=bk.size;simp;omega) ?_;intro o' w3 g1 g2 g3 g4));go_roundw
  case rel=>have eN:=bk.trans ((AJ (wr.alloc (.cells #[] 3)) (.cells #[.slice (some ⟨wr.heap.size,0,none⟩) 0 0] 29)).mono bk.size);have hu:AG wr.heap.size (wr.alloc (.cells #[] 3)) (.slice (some ⟨wr.heap.size,0,none⟩) 0 0) []:=FU wr;have hP:=HO.out.push eN eh.out.size (hu.below (AJ _ _)) g1 g2;exact⟨k+1,L++[.slice (some ⟨wr.heap.size,0,none⟩) 0 0],by omega,by rw[yA,Hl.out];rfl,by go_num,by rw[List.replicate_succ'];exact hP,(eh.out.trans (eN.mono eh.out.size)).trans g4⟩
  case measure=>simp[intOf];omega
 .obtain rfl:k=16:=by omega
  go_wp2_with fail;go_ret;exact⟨_,L,rfl,hO,be⟩
theorem Xo{w:World}{g T:Nat}{a b c d:Value}(h:w.heap[g]?=some (.cells #[a,b,c,d] T (0,0))):Rd w (.slice (some ⟨g,0,none⟩) 1 1) 4 1 [a,b,c,d]:=by
 obtain⟨h0,N,V,h3⟩:=AE h;refine⟨_,_,rfl,yG _,by simp[maxLen],rfl,nofun,λ_=>⟨g,0,rfl,λj E=>?_⟩⟩;rw[Nat.zero_add]
 match j,E with
 |0,_=>exact h0
 |1,_=>exact N
 |2,_=>exact V
 |3,_=>exact h3
 |_+4,E=>exact absurd E (by omega)
theorem cY{w:World}{b bl c sz k:Nat}{xs:List Value}(h:Rd w (.slice (some ⟨b,bl,none⟩) n c) sz n xs)(D:k<=n):Rd w (.slice (some ⟨b,bl+k*sz,none⟩) (n - k) (c - k)) sz (n - k) (xs.drop (k*sz)):=by
 obtain⟨ao,c',hv,oG,cd,hl,mQ,hc⟩:=h;simp only[xS,true_and] at hv;obtain⟨rfl,rfl⟩:=hv;have cr:k*sz+(n - k)*sz=n*sz:=by rw[<-Nat.add_mul];congr 1;omega
 refine⟨_,_,rfl,by omega,by omega,by rw[xm];omega,(by intro e;cases e),λlA=>?_⟩;obtain⟨b',jv,e,hY⟩:=hc (by omega);obtain⟨rfl,rfl⟩:b=b'/\bl=jv:=by simpa using e
 refine⟨_,_,rfl,λj E=>?_⟩;rw[Nat.add_assoc,hY (k*sz+j) (by omega),List.getElem?_drop]
theorem aB{w:World}{q:Nat}{F:List Ad}(h:BG 4 AX w (.slice (some ⟨q,0,none⟩) F.length cg) F)(N:1<=F.length):BG 4 AX w (.slice (some ⟨q,4,none⟩) (F.length - 1) (cg - 1)) (F.drop 1):=by
 have r:=cY h (k:=1) N;cases F with
 |nil=>simp at N
 |cons y F=>exact r
theorem Ss(v:Value)(c:List Ad)(x:Ad)(w:World)(h:DY w v c)(hl:c.length<=4):
 Calls prog 186 #[v,.agg #[.int .i64 x.e,.int .i64 x.p,.int .i64 x.f,.bool x.w]] w λr w'=>∃v',r=.returned v'/\AO w.heap.size 96 4 AX w' v' (JN c x)/\Below w.heap.size w w':=by
 obtain⟨a,cp,rfl,hc,cd,hi⟩:=BG.open Ce (by decide) h;have ni:c.length<=1000:=by omega
 unfold maxLen at cd;have HH:=AA hi;obtain⟨N0,N1,bp,fv⟩:=Ki w (.cells #[.int .i64 x.e,.int .i64 x.p,.int .i64 x.f,.bool x.w] 96) (.cells #[] 96);have o1:AO (w.heap.size+1) 96 4 AX ((w.alloc (.cells #[.int .i64 x.e,.int .i64 x.p,.int .i64 x.f,.bool x.w] 96)).alloc (.cells #[] 96)) (.slice (some ⟨w.heap.size+1,0,none⟩) 0 0) []:=by have:=Cd AX (w.alloc (.cells #[.int .i64 x.e,.int .i64 x.p,.int .i64 x.f,.bool x.w] 96)) 96 4;simp only[xK] at this;exact this
 have oa:=AA hl;have PE:JN c x=(if(c.filter λy=>!BN x.e x.p y).length=4 then(c.filter λy=>!BN x.e x.p y).drop 1 else c.filter λy=>!BN x.e x.p y)++[x]:=rfl;have jc:=AA PE;clear h hi hl PE fv N1;go_in;go_wp2_with fail;generalize(w.alloc _).alloc _=wa at o1 bp N0 ⊢;generalize(xB (some ⟨w.heap.size+1,0,none⟩) 0 0)=o at o1 ⊢;go_loopw [5,6] (λo ix wr=>∃k:Nat,k<=c.length/\ix=.int .i64 k/\AO (w.heap.size+1) 96 4 AX wr o ((c.take k).filter λy=>!BN x.e x.p y)/\Below w.heap.size w wr/\wr.heap[w.heap.size]?=some (.cells #[.int .i64 x.e,.int .i64 x.p,.int .i64 x.f,.bool x.w] 96 (0,0))) (λ_ ix _=>c.length - (intOf ix).toNat)
 exact⟨0,yu _,rfl,o1,bp,N0⟩
 clear o1 bp N0;obtain⟨k,D,rfl,ad,A,hN⟩:=hrel
 by_cases av:k<c.length
 .have bN:(k:Int)<(c.length:Int):=by omega
  obtain⟨b,bl,rfl,bx,D0,D1,D2,D3⟩:=(HH.out.below A).zW av;have Nx:=AA (Ln (p:=λy=>!BN x.e x.p y) (FP av));have eC:=JM (p:=λy=>!BN x.e x.p y) (l:=c) (k:=k);generalize AT c k=y at D0 D1 D2 D3 Nx;generalize(c.take k).filter (λy=>!BN x.e x.p y)=ys at ad Nx eC;obtain⟨x0,x1,x2,x3⟩:=AE hN;have fw:=AW hN;have bK:=AA ad;have Y:=AA A;have HN:=AA hN;obtain⟨_,_,rfl,_⟩:=ad.rd.shape;clear ad A hN
  by_cases e1:y.e=x.e
  .by_cases e2:y.p=x.p
   .skip
    have t1:(y.e !=x.e)=false:=by simp[e1]
    have t2:(y.p !=x.p)=false:=by simp[e2]
    have cN:=AA (show(c.take (k+1)).filter (λy=>!BN x.e x.p y)=ys by rw[Nx.out];simp[BN,e1,e2]);clear Nx e1 e2;go_wp2_with fail;refine Ac 17 50 [.v (.slice (some ⟨b,bl,none⟩) c.length cp),.i ((k:Int)),.p b (bl+k*4),.p b (bl+k*4),.i (y.e),.p w.heap.size 0,.i (x.e),.b false,.b false,.v (.slice (some ⟨b,bl,none⟩) c.length cp),.i ((k:Int)),.p b (bl+k*4),.p b (bl+k*4+1),.i (y.p),.p w.heap.size 1,.i (x.p),.b false] (λ_ _ _=>True) ?_ ?_
    .intro i H o O a wx Y J Z hg z
     have bB:=bc Z bx D0;have bs:=bc Z fw x0;have bX:=bc Z bx D1;have dq:=bc Z fw x1
     match i,H with
     |0,_|1,_|3,_|5,_|8,_|9,_|10,_|12,_|14,_=>exact sP O z Y J
     |2,_|11,_=>exact sI O z Y J (hr:=by clear J Y z;go_simp)
     |4,_|6,_|13,_|15,_=>exact sL O z Y J (hl:=Fy ‹_›)
     |7,_=>clear bB bs bX dq;obtain rfl:=yQ O;have d4:(a.tmps[18]?.getD undef)=.int .i64 (y.e):=BY J 4;have d6:(a.tmps[20]?.getD undef)=.int .i64 (x.e):=BY J 6;clear J Y;refine yP ?_;go_simp;exact z.out _ _ rfl (yO _ _)
     |16,_=>clear bB bs bX dq;obtain rfl:=yQ O;have gK:(a.tmps[27]?.getD undef)=.int .i64 (y.p):=BY J 13;have gJ:(a.tmps[29]?.getD undef)=.int .i64 (x.p):=BY J 15;have d8:(a.tmps[22]?.getD undef)=.bool false:=BY J 8;clear J Y;refine AY.yes rfl rfl d8 ?_;go_simp;exact z.out _ _ rfl (yO _ _)
     |_+17,hq=>omega
    .intro L wx hR Z
     have q8:(L 8)=.bool false:=Bg hR 8;have fc:(L 16)=.bool false:=Bg hR 16;clear hR;simp only[Aj,Ag,yN,yJ,yK,yI,q8,fc];simp;clear q8 fc;go_wp2_with fail;go_roundw;exact⟨k+1,by omega,by go_num,by rw[cN.out];exact AO.below bK.out Z,Y.out.trans (Z.mono Y.out.size),AB HN.out Z⟩;simp[intOf];omega
   .skip
    have t1:(y.e !=x.e)=false:=by simp[e1]
    have t2:(y.p !=x.p)=true:=by simp[e2]
    have cN:=AA (show(c.take (k+1)).filter (λy=>!BN x.e x.p y)=ys++[y] by rw[Nx.out];simp[BN,e1,e2]);clear Nx e1 e2;go_wp2_with fail;refine Ac 17 50 [.v (.slice (some ⟨b,bl,none⟩) c.length cp),.i ((k:Int)),.p b (bl+k*4),.p b (bl+k*4),.i (y.e),.p w.heap.size 0,.i (x.e),.b false,.b false,.v (.slice (some ⟨b,bl,none⟩) c.length cp),.i ((k:Int)),.p b (bl+k*4),.p b (bl+k*4+1),.i (y.p),.p w.heap.size 1,.i (x.p),.b true] (λ_ _ _=>True) ?_ ?_
    .intro i H o O a wx Y J Z hg z
     have bB:=bc Z bx D0;have bs:=bc Z fw x0;have bX:=bc Z bx D1;have dq:=bc Z fw x1
     match i,H with
     |0,_|1,_|3,_|5,_|8,_|9,_|10,_|12,_|14,_=>exact sP O z Y J
     |2,_|11,_=>exact sI O z Y J (hr:=by clear J Y z;go_simp)
     |4,_|6,_|13,_|15,_=>exact sL O z Y J (hl:=Fy ‹_›)
     |7,_=>clear bB bs bX dq;obtain rfl:=yQ O;have d4:(a.tmps[18]?.getD undef)=.int .i64 (y.e):=BY J 4;have d6:(a.tmps[20]?.getD undef)=.int .i64 (x.e):=BY J 6;clear J Y;refine yP ?_;go_simp;exact z.out _ _ rfl (yO _ _)
     |16,_=>clear bB bs bX dq;obtain rfl:=yQ O;have gK:(a.tmps[27]?.getD undef)=.int .i64 (y.p):=BY J 13;have gJ:(a.tmps[29]?.getD undef)=.int .i64 (x.p):=BY J 15;have d8:(a.tmps[22]?.getD undef)=.bool false:=BY J 8;clear J Y;refine AY.yes rfl rfl d8 ?_;go_simp;exact z.out _ _ rfl (yO _ _)
     |_+17,hq=>omega
    .intro L wx hR Z
     have q8:(L 8)=.bool false:=Bg hR 8;have fc:(L 16)=.bool true:=Bg hR 16;clear hR;simp only[Aj,Ag,yN,yJ,yK,yI,q8,fc];simp;clear q8 fc;have ot:=(Z.cell (p:=⟨b,bl+k*4,none⟩) bx).trans D0;have oq:=(Z.cell (p:=⟨b,bl+k*4+1,none⟩) bx).trans D1;have oo:=(Z.cell (p:=⟨b,bl+k*4+2,none⟩) bx).trans D2;have om:=(Z.cell (p:=⟨b,bl+k*4+3,none⟩) bx).trans D3;have fF:=Y.out.trans (Z.mono Y.out.size);have iy:=AA (AO.below bK.out Z);have ga:=AB HN.out Z;clear D0 D1 D2 D3;go_wp2_with (at_builtin;go_must (refine Bm (lo:=w.heap.size+1) (n:=ys.length) (xs:=CZ AX ys) (m:=1) (news:=[.int .i64 y.e,.int .i64 y.p,.int .i64 y.f,.bool y.w]) rfl rfl 96 (.agg #[.int .i64 0,.int .i64 0,.int .i64 0,.bool false]) 4 32 underlying26 Tryz.zQ rfl (by decide) rfl (Bl iy.out (AJ _ _)) rfl (Rd.zN _ #[.int .i64 y.e,.int .i64 y.p,.int .i64 y.f,.bool y.w] _ 4 1 _ rfl (by simp) (by simp[maxLen])) (by simp[xR]) (by unfold maxLen;omega) (by omega) (by have:=fF.size;have:=AW ga;simp;omega) ?_;intro o' w9 k1 k2 k3 k4));go_roundw;exact⟨k+1,by omega,by go_num,by rw[cN.out];unfold AO;rw[Bj,Ee,yA];exact k1,(fF.alloc fF.size _).trans (k4.mono (wH _)),(k2.block w.heap.size (by have:=AW ga;simp;omega) (λe=>by have:=(iy.out.lt _ e.symm).1;omega)).trans (AB ga (AJ _ _))⟩;simp[intOf];omega
  .skip
   have t1:(y.e !=x.e)=true:=by simp[e1]
   have cN:=AA (show(c.take (k+1)).filter (λy=>!BN x.e x.p y)=ys++[y] by rw[Nx.out];simp[BN,e1]);clear Nx e1;go_wp2_with fail;refine Ac 17 50 [.v (.slice (some ⟨b,bl,none⟩) c.length cp),.i ((k:Int)),.p b (bl+k*4),.p b (bl+k*4),.i (y.e),.p w.heap.size 0,.i (x.e),.b true,.b true,.u,.u,.u,.u,.u,.u,.u,.u] (λ_ _ _=>True) ?_ ?_
   .intro i H o O a wx Y J Z hg z
    have bB:=bc Z bx D0;have bs:=bc Z fw x0
    match i,H with
    |0,_|1,_|3,_|5,_|8,_=>exact sP O z Y J
    |2,_=>exact sI O z Y J (hr:=by clear J Y z;go_simp)
    |4,_|6,_=>exact sL O z Y J (hl:=Fy ‹_›)
    |9,_|10,_|11,_|12,_|13,_|14,_|15,_|16,_=>exact sB O z J
    |7,_=>clear bB bs;obtain rfl:=yQ O;have d4:(a.tmps[18]?.getD undef)=.int .i64 (y.e):=BY J 4;have d6:(a.tmps[20]?.getD undef)=.int .i64 (x.e):=BY J 6;clear J Y;refine yP ?_;go_simp;exact z.out _ _ rfl (yO _ _)
    |_+17,hq=>omega
   .intro L wx hR Z
    have q8:(L 8)=.bool true:=Bg hR 8;have fc:(L 16)=undef:=Bg hR 16;clear hR;simp only[Aj,Ag,yN,yJ,yK,yI,q8,fc];simp;clear q8 fc;have ot:=(Z.cell (p:=⟨b,bl+k*4,none⟩) bx).trans D0;have oq:=(Z.cell (p:=⟨b,bl+k*4+1,none⟩) bx).trans D1;have oo:=(Z.cell (p:=⟨b,bl+k*4+2,none⟩) bx).trans D2;have om:=(Z.cell (p:=⟨b,bl+k*4+3,none⟩) bx).trans D3;have fF:=Y.out.trans (Z.mono Y.out.size);have iy:=AA (AO.below bK.out Z);have ga:=AB HN.out Z;clear D0 D1 D2 D3;go_wp2_with (at_builtin;go_must (refine Bm (lo:=w.heap.size+1) (n:=ys.length) (xs:=CZ AX ys) (m:=1) (news:=[.int .i64 y.e,.int .i64 y.p,.int .i64 y.f,.bool y.w]) rfl rfl 96 (.agg #[.int .i64 0,.int .i64 0,.int .i64 0,.bool false]) 4 32 underlying26 Tryz.zQ rfl (by decide) rfl (Bl iy.out (AJ _ _)) rfl (Rd.zN _ #[.int .i64 y.e,.int .i64 y.p,.int .i64 y.f,.bool y.w] _ 4 1 _ rfl (by simp) (by simp[maxLen])) (by simp[xR]) (by unfold maxLen;omega) (by omega) (by have:=fF.size;have:=AW ga;simp;omega) ?_;intro o' w9 k1 k2 k3 k4));go_roundw;exact⟨k+1,by omega,by go_num,by rw[cN.out];unfold AO;rw[Bj,Ee,yA];exact k1,(fF.alloc fF.size _).trans (k4.mono (wH _)),(k2.block w.heap.size (by have:=AW ga;simp;omega) (λe=>by have:=(iy.out.lt _ e.symm).1;omega)).trans (AB ga (AJ _ _))⟩;simp[intOf];omega
 .obtain rfl:k=c.length:=by omega
  rw[xG] at ad;have eU:(c.filter λy=>!BN x.e x.p y).length<=c.length:=xL ..;have lK:=jc.out;generalize(c.filter λy=>!BN x.e x.p y)=F at*;have jc:=AA lK;clear lK;have oR:F.length<=4:=by have:=oa.out;omega
  obtain⟨x0,x1,x2,x3⟩:=AE hN;have fw:=AW hN;have HO:=AA ad
  by_cases h4:F.length=4
  focus
   have P:=AA (show JN c x=F.drop 1++[x] by rw[jc.out,if_pos h4])
   obtain⟨q,cg,rfl,c1,c2,q1,q2,em⟩:=ad.zX (by omega);unfold maxLen at c2;have oT:(4:Int)<=F.length:=by omega
   have H4:=AA h4;clear h4 ad;go_wp2_with fail;have RG:=AA (aB (AO.rd HO.out) (by have:=H4.out;omega));have nt:(F.drop 1).length<=3:=by rw[xm];have:=H4.out;omega
   generalize F.drop 1=G at*;generalize(xB (some ⟨q,4,none⟩) (F.length - 1) (cg - 1))=u5 at RG ⊢;clear HO
  rotate_left
  focus
   have P:=AA (show JN c x=F++[x] by rw[jc.out,if_neg h4])
   obtain⟨_,_,e5,_,_⟩:=ad.rd.shape;have mS:¬(4:Int)<=F.length:=by omega
   have RG:=AA ad.rd;have nt:F.length<=3:=by omega
   clear h4 HO;cases e5;clear ad;go_wp2_with fail;generalize F=G at*;generalize(xB _ G.length _)=u5 at RG ⊢
  rotate_left
  all_goals
   refine A5 5 50 [.z,.v u5,.z,.a #[.int .i64 (x.e),.int .i64 (x.p),.int .i64 (x.f),.bool (x.w)],.z] (λix vv ww=>match ix with
    |0=>∃g,vv=.slice (some ⟨g,0,none⟩) 0 0/\wr.heap.size<=g/\ww.heap[g]?=some (.cells #[] 96 (0,0))
    |2=>AO wr.heap.size 96 4 AX ww vv G
    |4=>∃g,vv=.slice (some ⟨g,0,none⟩) 1 1/\wr.heap.size<=g/\ww.heap[g]?=some (.cells #[.int .i64 x.e,.int .i64 x.p,.int .i64 x.f,.bool x.w] 96 (0,0))
    |_=>True) ?_ ?_ ?_
   .intro i H o O a wx Y J Z hg z
    match i,H with
    |1,_=>exact sP O z Y J
    |3,_=>exact sL O z Y J (hl:=Zn (bc Z fw x0) (bc Z fw x1) (bc Z fw x2) (bc Z fw x3))
    |0,_=>obtain rfl:=yQ O;clear J Y;refine yP ?_;go_simp;exact z.out _ _ ⟨_,rfl,Z.size,yw _ _⟩ (AJ _ _)
    |2,_=>
     obtain rfl:=yQ O;have d0:∃g,(a.tmps[44]?.getD undef)=.slice (some ⟨g,0,none⟩) 0 0/\wr.heap.size<=g/\wx.heap[g]?=some (.cells #[] 96 (0,0)):=BY J 0
     have d1:(a.tmps[45]?.getD undef)=u5:=BY J 1;clear J Y;refine yP ?_;obtain⟨g,nG,nF,nE⟩:=d0;obtain⟨v7,w4,jS,r1,r2,_⟩:=Dm (lo:=wr.heap.size) (w:=wx) (t:=26) (ty:=26) 96 _ 4 32 underlying26 Tryz.zQ rfl (by decide) nE nF (BG.below RG.out Z) (J9 _) (by omega);refine Cq rfl (Bp nG) (Bp d1) jS ?_;exact z.out _ _ r1 r2
    |4,_=>obtain rfl:=yQ O;have d3:(a.tmps[47]?.getD undef)=.agg #[.int .i64 (x.e),.int .i64 (x.p),.int .i64 (x.f),.bool (x.w)]:=BY J 3;clear J Y;refine yP ?_;go_simp;exact z.out _ _ ⟨_,rfl,Z.size,yw _ _⟩ (AJ _ _)
   .intro i H vv wz fI dw hz
    match i,H with
    |0,_|4,_=>exact(by obtain⟨g,h0,N,V⟩:=hz;exact⟨g,h0,N,AB V dw⟩)
    |2,_=>exact(AO.below hz dw)
    |1,_|3,_=>exact hz
   .intro L wx hR Z
    have q2:AO wr.heap.size 96 4 AX wx (L 2) G:=Bg hR 2;have q4:∃g,(L 4)=.slice (some ⟨g,0,none⟩) 1 1/\wr.heap.size<=g/\wx.heap[g]?=some (.cells #[.int .i64 x.e,.int .i64 x.p,.int .i64 x.f,.bool x.w] 96 (0,0)):=Bg hR 4
    clear hR;simp only[Aj,Ag,yN,yJ,yK,yI];simp;generalize L 2=z2 at q2 ⊢;generalize L 4=z4 at q4 ⊢;obtain⟨g4,rfl,_,q4⟩:=q4;have Q2:=AA q2;have Q4:=AA (Xo q4);have fF:=A.trans (Z.mono A.size);have mZ:=Z.size;obtain⟨_,_,rfl,_⟩:=q2.rd.shape;clear q2 q4 x0 x1 x2 x3;go_wp2_with (at_builtin;go_must (refine Bm (lo:=wr.heap.size) (n:=G.length) (xs:=CZ AX G) (m:=1) (news:=[.int .i64 x.e,.int .i64 x.p,.int .i64 x.f,.bool x.w]) rfl rfl 96 (.agg #[.int .i64 0,.int .i64 0,.int .i64 0,.bool false]) 4 32 underlying26 Tryz.zQ rfl (by decide) rfl Q2.out rfl Q4.out (by simp[xR]) (by unfold maxLen;omega) (by omega) mZ ?_;intro o' w9 k1 k2 k3 k4));go_ret;exact⟨_,rfl,by rw[P.out];unfold AO;rw[Bj,Ee,yA];exact BZ k1 A.size,fF.trans (k4.mono A.size)⟩
end Go.Proofs.YtaopbdankjkfpaaGreatDoor
