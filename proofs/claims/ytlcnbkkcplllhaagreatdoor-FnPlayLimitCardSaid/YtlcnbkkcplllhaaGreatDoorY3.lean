/-
  Packed:37 texts.
-/
import Derived.Test.YtlcnbkkcplllhaaGreatDoorY1
import Derived.Test.YtlcnbkkcplllhaaGreatDoorY2
import Derived.Lib.Strings
import Derived.WalkKit
import Derived.Deep.DeepCutAuto
set_option linter.unusedVariables false
set_option linter.unusedSimpArgs false
set_option maxHeartbeats 16000000
set_option maxRecDepth 100000
open Go Go.Proofs.YtlcnbkkcplllhaaGreatDoor
open And renaming intro->yj
open Bool renaming and_eq_true->yD,eq_iff_iff->wW,or_eq_true->xM
open Go.Lib renaming toList_data->xA
open Go.Region renaming waitsFor->yk
open Go.RowKit.Below renaming refl->yN
open Go.Value renaming int->yl,oneCell'->xR,slice->xG
open Go.Value.slice renaming injEq->xQ
open Go.World renaming block_lt_of_cell?->yK,size_alloc->xz
open Go.World.ownsRow renaming cellAt->xO,frozenAt->xU,lt->yC,stored->wj
open Go renaming bodyPost_ret->yB,cell_of_row->yy,cell_regrown->yw,heap_alloc_new->yx,heap_setCell_same->yE
open Int renaming toNat_natCast->yq
open List renaming all_eq_false->xj,all_eq_true->yr,any_eq_true->vP,countP_cons->xt,countP_le_length->vX,count_le_length->vt,filter_append->wD,filter_cons->vN,filter_nil->vk,findIdx_eq->tI,foldl_append->vG,foldl_cons->yJ,foldl_nil->yH,getD_eq_getElem?_getD->yg,getElem?_eq_getElem->yG,getElem?_eq_some_iff->yA,getElem?_map->xq,getElem?_of_mem->xN,getElem?_replicate->uN,getElem?_set->vW,getElem?_take->uV,getElem_of_mem->wY,isPrefixOf_iff_prefix->vi,length_append->yz,length_filter_le->xv,length_nil->xi,length_set->yh,length_singleton->xP,length_take->ym,map_append->xK,map_set->vf,mem_filter->wK,mem_flatMap->wR,mem_of_getElem?->yv,mem_range->yi,not_mem_nil->wU,range->yL,range_succ->xH,replicate->xW,take_length->xE,take_of_length_le->xm
open List.range renaming loop->yI
open Nat renaming add_zero->xT,eq_zero_or_pos->wA,le_of_lt->td,le_refl->yF,le_trans->yM,lt_of_lt_of_le->yu,lt_succ_iff_lt_or_eq->xC,mul_one->wZ,not_lt_zero->xV,zero_le->yt
open Go renaming World->Ω,Value->Φ,Calls->Ξ,undef->Θ
open Go.RowKit renaming Below->Γ
variable {a cq gq j n:Nat} {ss:List ByteArray} {fs:List Nat} {p:AP} {cv ev iv lv mv qv sv v:Φ}
namespace Go.Proofs.YtlcnbkkcplllhaaGreatDoor
open Go.Proofs.Tryz
open Go.RowKit
variable{hj k:AR}
theorem bH{c:AT}:(Ly k c).2.1=0:=by
 unfold Ly
 split
 .rfl
 split<;>rfl
theorem YM{c:AT}:(Fx k c).2.1=0:=by
 unfold Fx
 split
 .rfl
 split
 .rfl
 split<;>rfl
theorem XW{c:AT}:(ER k c).2.1=0:=by
 unfold ER
 split
 .rfl
 split
 .rfl
 split<;>rfl
theorem dl{c:AT}:(Ik k c).2.1=0:=by
 unfold Ik
 split
 .rfl
 split
 .rfl
 split<;>rfl
theorem Qf{r:List AX×Int}:(EB k r).2.1=0:=by
 unfold EB
 split<;>rfl
theorem SN{c:AT}:(Fd k c).2.1=0:=by
 unfold Fd
 split
 .unfold K4
  split
  .rfl
  split<;>rfl
 split
 .unfold LE
  split<;>rfl
 split
 .exact Qf
 split
 .exact Qf
 exact dl
variable{r:Ending}
variable{B f g lo t:Nat}
variable{res:Nu}
variable{W w w' w0:Ω}
theorem ED.two (h:ED lo g W res r w')(hv:res.2.1=0)(A:Γ lo w W):∃n,r=.returned (.int .i64 n)/\Gk lo g w res (.returned (.tuple #[θ,.int .i64 n])) w':=by obtain⟨L,O,h3⟩:=h;exact⟨_,L,by rw[hv],O,A.trans h3⟩
theorem Gk.of (h:Gk lo g W res r w')(A:Γ lo w W):∃v n,r=.returned (.tuple #[.int .i64 v,.int .i64 n])/\Gk lo g w res (.returned (.tuple #[.int .i64 v,.int .i64 n])) w':=by obtain⟨L,O,h3⟩:=h;exact⟨_,_,L,rfl,O,A.trans h3⟩
theorem Uf{c:AT}:IV k c=if Bj c.a 0 11=false∨(JR k.Zh c.a.toNat).k=0∨(c.k=4/\Bp c.b=false) then(k,0,3) else if Ff k c.e (JR k.Zh c.a.toNat).g=false then(k,0,1) else Fd k c:=rfl
theorem Kz{c:AT}(h:Bj c.a 0 11=false∨(JR k.Zh c.a.toNat).k=0∨(c.k=4/\Bp c.b=false)):IV k c=(k,0,3):=Uf.trans (if_pos h)
theorem Wl{c:AT}(L:Bj c.a 0 11=true)(O:(JR k.Zh c.a.toNat).k≠0)(h3:c.k=4->Bp c.b=true):IV k c=if Ff k c.e (JR k.Zh c.a.toNat).g=false then(k,0,1) else Fd k c:=
 Uf.trans (if_neg (by rintro(x|x|⟨x,y⟩);(· rw[L] at x;cases x);(· exact O x);(· rw[h3 x] at y;cases y)))
variable{a0 a1 a2 a3 a4 a5 a6 a7 a8 c e i l m q s:Φ}
theorem eQ (h:Iz lo w g m i e c k)(bD:lo<=w.heap.size)(hK:DZ k)(call:AT)(he:0<=call.e)(hn:call.e<3)(fz:call.nm.size<=maxLen)(jk:call.c<=9223372036854775807):
 Ξ prog 64 #[call.on g] w (Gk lo g w (Ad k call)):=by
 have S0:=Em.start h bD call;obtain⟨k1,e1,a1,b1,c1,nm⟩:=call;obtain⟨en,rfl⟩:∃n:Nat,e1=(n:Int):=⟨e1.toNat,by simp only at he;omega⟩
 have ip:en<3:=by simp only at hn;omega
 simp only[AT.on,AT.onCells] at S0 fz jk ⊢;obtain⟨ge,cq,e9,_,⟨⟨qf,qe⟩,qd,p9⟩,_⟩:=S0.Xr (by rw[hK.zX];omega);rw[hK.zX] at e9;obtain⟨gi,rq,e8,_,_,⟨⟨p8,p7⟩,p6,p5⟩,_⟩:=S0.Zh (by rw[hK.len];omega);rw[hK.len] at e8;obtain⟨gm,rp,e7,_,⟨p4,p3⟩,pZ,pY⟩:=S0.mems (Aq hK).1;subst e7 e8 e9;obtain⟨y0,y1,y2,y3,y4,y5,y6⟩:=S0.ys;obtain⟨x0,x1,x2,x3⟩:=S0.xs;have Z:=AA hK;have HS:=AA S0;clear hK h S0 bD he hn;have CY:=λ(W:Ω)(mm ii ee cc:Φ)(h:Iz lo W g mm ii ee cc k)(an:Nat)=>XJ h ⟨k1,(en:Int),(an:Int),b1,c1,nm⟩ (JR k.Zh an).g χ (by rw[Z.zX];simp only;omega)
 simp only[AT.on,AT.onCells] at CY;replace CY:=AA CY
 by_cases m9:2<=k1/\k1<=6
 .have HP:=AA (show Ad k ⟨k1,(en:Int),a1,b1,c1,nm⟩=IV k ⟨k1,(en:Int),a1,b1,c1,nm⟩ by
   have cd:k1=2∨k1=3∨k1=4∨k1=5∨k1=6:=ω;rcases cd with rfl|rfl|rfl|rfl|rfl<;>rfl)
  have CF:=λ(W:Ω)(mm ii ee cc:Φ)(h:Iz lo W g mm ii ee cc k)(hl:lo<=W.heap.size)(an:Nat)(ha:an<12)(ht:k1=4->Bp b1=true)=>YG h hl Z ⟨k1,(en:Int),(an:Int),b1,c1,nm⟩ χ (by simp only;omega) m9 (by simp only;omega) ht jk
  simp only[AT.on,AT.onCells] at CF;replace CF:=AA CF
  by_cases kj:k1=4
  .subst kj
   go_in;go_wp2_with fail;generalize w.alloc _=W0 at*;have cF:=WT (w1:=W0) (λW=>Dy a1 W);have cT:=WT (w1:=W0) (λW=>GR b1 W);replace y0:=yw y0;replace y1:=yw y1;replace y2:=yw y2;replace y3:=yw y3;replace y4:=yw y4;replace y5:=yw y5;replace y6:=yw y6;replace x1:=yw x1;clear x0 x2 x3;cases cN:Bj a1 0 11
   .have hW:=AA (HP.trans (Kz (.inl cN)))
    rw[cN] at cF;have d0:=y0;have d1:=y0;refine Ba ?_
    repeat(go_big_quiet_step (first|exact cF _ _|exact cT _ _))
    refine BZ λwq bq=>?_
    clear y0 y1 y2 y3 y4 y5 y6 x1 d0 d1;go_wp2;go_ret2;exact Gk.bad hW ψ (HS.below bq).bel
   have T:=AA cN;rw[cN] at cF;obtain⟨an,rfl⟩:∃n:Nat,a1=(n:Int):=⟨a1.toNat,by have:=(Aa.1 cN).1;omega⟩
   have j5:an<12:=by have:=(Aa.1 cN).2;omega
   have o9:(an:Int)<12:=ω;clear cN;obtain⟨d0,d1,_⟩:=HS.JR (f:=an) (by rw[Z.len];exact j5);replace d0:=yw d0;replace d1:=yw d1
   by_cases h0:(JR k.Zh an).k=0
   .have hW:=AA (HP.trans (Kz (.inr (.inl h0))))
    have t0:((JR k.Zh an).k==0)=true:=by simp[h0]
    clear h0;refine Ba ?_
    repeat(go_big_quiet_step (first|exact cF _ _|exact cT _ _))
    refine BZ λwq bq=>?_
    clear y0 y1 y2 y3 y4 y5 y6 x1 d0 d1;go_wp2;go_ret2;exact Gk.bad hW ψ (HS.below bq).bel
   have t0:((JR k.Zh an).k==0)=false:=by simp[h0]
   cases ht:Bp b1
   .have hW:=AA (HP.trans (Kz (.inr (.inr ⟨rfl,ht⟩))))
    rw[ht] at cT;refine Ba ?_
    repeat(go_big_quiet_step (first|exact cF _ _|exact cT _ _))
    refine BZ λwq bq=>?_
    clear y0 y1 y2 y3 y4 y5 y6 x1 d0 d1;go_wp2;go_ret2;exact Gk.bad hW ψ (HS.below bq).bel
   rw[ht] at cT;have dr:=AA (HP.trans (Wl T h0 (λ_=>ht)));clear h0;refine Ba ?_
   repeat(go_big_quiet_step (first|exact cF _ _|exact cT _ _))
   refine BZ λwq bq=>?_
   have S1:=AA (HS.below bq);obtain⟨W1,rfl⟩:∃W1:Ω,W1=wq:=⟨_,rfl⟩
   clear y0 y1 y2 y3 y4 y5 y6 x1 d0 d1 t0 cF cT bq;obtain⟨y0,y1,y2,y3,y4,y5,y6⟩:=S1.ys;have x1:=S1.xs.2.1;obtain⟨d0,d1,_⟩:=S1.JR (f:=an) (by rw[Z.len];exact j5);have CM:=VP (w1:=W1) (λW E=>CY W _ _ _ _ (S1.below E).yS an);replace y0:=yw y0;replace y1:=yw y1;replace y2:=yw y2;replace y3:=yw y3;replace y4:=yw y4;replace y5:=yw y5;replace y6:=yw y6;replace x1:=yw x1;replace d1:=yw d1;cases hm:Ff k (en:Int) (JR k.Zh an).g
   .have hW:=AA (dr.trans (if_pos hm))
    rw[hm] at CM;clear hm;go_wp2_with fail;refine Ba ?_
    repeat(go_big_quiet_step (exact CM _ _))
    refine BZ λwq bq=>?_
    clear y0 y1 y2 y3 y4 y5 y6 x1 d0 d1;go_wp2;go_ret2;exact Gk.bad hW ψ (S1.below bq).bel
   have ou:=AA (dr.trans (if_neg (by show ¬Ff k (en:Int) (JR k.Zh an).g=false;rw[hm];decide)));rw[hm] at CM;clear hm;go_wp2_with fail;refine Ba ?_
   repeat(go_big_quiet_step (exact CM _ _))
   refine BZ λwq bq=>?_
   have S2:=AA (S1.below bq);obtain⟨W2,rfl⟩:∃W2:Ω,W2=wq:=⟨_,rfl⟩
   clear y0 y1 y2 y3 y4 y5 y6 x1 d0 d1 bq CM;obtain⟨y0,y1,y2,y3,y4,y5,y6⟩:=S2.ys;go_wp2_with (refine(CF W2 _ _ _ _ S2.yS S2.lo an j5 (λ_=>ht)).mono ?_;rintro r w1 hr;obtain⟨n,rfl,hE⟩:=ED.two hr SN S2.bel;have HE:=AA hE;clear hr hE y0 y1 y2 y3 y4 y5 y6);go_ret2;rw[ou.u];exact HE.u
  have HF:k1=4->Bp b1=true:=λx=>(kj x).elim
  have cd:k1=2∨k1=3∨k1=5∨k1=6:=ω;clear m9 kj
  rcases cd with rfl|rfl|rfl|rfl
  all_goals
   go_in;go_wp2_with fail;generalize w.alloc _=W0 at*;have cF:=WT (w1:=W0) (λW=>Dy a1 W);have cT:=WT (w1:=W0) (λW=>GR b1 W);replace y0:=yw y0;replace y1:=yw y1;replace y2:=yw y2;replace y3:=yw y3;replace y4:=yw y4;replace y5:=yw y5;replace y6:=yw y6;replace x1:=yw x1;clear x0 x2 x3;cases cN:Bj a1 0 11
   .have hW:=AA (HP.trans (Kz (.inl cN)))
    rw[cN] at cF;have d0:=y0;have d1:=y0;refine Ba ?_
    repeat(go_big_quiet_step (first|exact cF _ _|exact cT _ _))
    refine BZ λwq bq=>?_
    clear y0 y1 y2 y3 y4 y5 y6 x1 d0 d1;go_wp2;go_ret2;exact Gk.bad hW ψ (HS.below bq).bel
   have T:=AA cN;rw[cN] at cF;obtain⟨an,rfl⟩:∃n:Nat,a1=(n:Int):=⟨a1.toNat,by have:=(Aa.1 cN).1;omega⟩
   have j5:an<12:=by have:=(Aa.1 cN).2;omega
   have o9:(an:Int)<12:=ω;clear cN;obtain⟨d0,d1,_⟩:=HS.JR (f:=an) (by rw[Z.len];exact j5);replace d0:=yw d0;replace d1:=yw d1
   by_cases h0:(JR k.Zh an).k=0
   .have hW:=AA (HP.trans (Kz (.inr (.inl h0))))
    have t0:((JR k.Zh an).k==0)=true:=by simp[h0]
    clear h0;refine Ba ?_
    repeat(go_big_quiet_step (first|exact cF _ _|exact cT _ _))
    refine BZ λwq bq=>?_
    clear y0 y1 y2 y3 y4 y5 y6 x1 d0 d1;go_wp2;go_ret2;exact Gk.bad hW ψ (HS.below bq).bel
   have t0:((JR k.Zh an).k==0)=false:=by simp[h0]
   have dr:=AA (HP.trans (Wl T h0 χ));clear h0;refine Ba ?_
   repeat(go_big_quiet_step (first|exact cF _ _|exact cT _ _))
   refine BZ λwq bq=>?_
   have S1:=AA (HS.below bq);obtain⟨W1,rfl⟩:∃W1:Ω,W1=wq:=⟨_,rfl⟩
   clear y0 y1 y2 y3 y4 y5 y6 x1 d0 d1 t0 cF cT bq;obtain⟨y0,y1,y2,y3,y4,y5,y6⟩:=S1.ys;have x1:=S1.xs.2.1;obtain⟨d0,d1,_⟩:=S1.JR (f:=an) (by rw[Z.len];exact j5);have CM:=VP (w1:=W1) (λW E=>CY W _ _ _ _ (S1.below E).yS an);replace y0:=yw y0;replace y1:=yw y1;replace y2:=yw y2;replace y3:=yw y3;replace y4:=yw y4;replace y5:=yw y5;replace y6:=yw y6;replace x1:=yw x1;replace d1:=yw d1;cases hm:Ff k (en:Int) (JR k.Zh an).g
   .have hW:=AA (dr.trans (if_pos hm))
    rw[hm] at CM;clear hm;go_wp2_with fail;refine Ba ?_
    repeat(go_big_quiet_step (exact CM _ _))
    refine BZ λwq bq=>?_
    clear y0 y1 y2 y3 y4 y5 y6 x1 d0 d1;go_wp2;go_ret2;exact Gk.bad hW ψ (S1.below bq).bel
   have ou:=AA (dr.trans (if_neg (by show ¬Ff k (en:Int) (JR k.Zh an).g=false;rw[hm];decide)));rw[hm] at CM;clear hm;go_wp2_with fail;refine Ba ?_
   repeat(go_big_quiet_step (exact CM _ _))
   refine BZ λwq bq=>?_
   have S2:=AA (S1.below bq);obtain⟨W2,rfl⟩:∃W2:Ω,W2=wq:=⟨_,rfl⟩
   clear y0 y1 y2 y3 y4 y5 y6 x1 d0 d1 bq CM;obtain⟨y0,y1,y2,y3,y4,y5,y6⟩:=S2.ys;go_wp2_with (refine(CF W2 _ _ _ _ S2.yS S2.lo an j5 HF).mono ?_;rintro r w1 hr;obtain⟨n,rfl,hE⟩:=ED.two hr SN S2.bel;have HE:=AA hE;clear hr hE y0 y1 y2 y3 y4 y5 y6);go_ret2;rw[ou.u];exact HE.u
 by_cases cd:k1=10∨k1=11
 .skip
  have HP:=AA (show Ad k ⟨k1,(en:Int),a1,b1,c1,nm⟩=PV k ⟨k1,(en:Int),a1,b1,c1,nm⟩ by rcases cd with rfl|rfl<;>rfl);have C:=dt HS.yS HS.lo Z ⟨k1,(en:Int),a1,b1,c1,nm⟩ χ (by simp only;omega) cd;simp only[AT.on,AT.onCells] at C
  rcases cd with rfl|rfl
  all_goals
   go_in;go_wp2_with fail;generalize w.alloc _=W0 at*;refine C.mono ?_;rintro r w1 hr;obtain⟨v,n,rfl,hE⟩:=Gk.of hr HS.bel;have HE:=AA hE;clear C;clear hr hE y0 y1 y2 y3 y4 y5 y6 x0 x1 x2 x3;go_wp2;go_ret2;rw[HP.u];exact HE.u
 have nb:¬k1=10:=λx=>cd (.inl x)
 have na:¬k1=11:=λx=>cd (.inr x)
 clear cd
 by_cases cd:k1=1
 .skip
  have HP:=AA (show Ad k ⟨k1,(en:Int),a1,b1,c1,nm⟩=J0 k ⟨k1,(en:Int),a1,b1,c1,nm⟩ by subst cd;rfl);have C:=bR HS.yS HS.lo Z ⟨k1,(en:Int),a1,b1,c1,nm⟩ χ (by simp only;omega) fz;simp only[AT.on,AT.onCells] at C;subst cd;go_in;go_wp2_with fail;generalize w.alloc _=W0 at*;refine C.mono ?_;rintro r w1 hr;obtain⟨v,n,rfl,hE⟩:=Gk.of hr HS.bel;have HE:=AA hE;clear C;clear hr hE y0 y1 y2 y3 y4 y5 y6 x0 x1 x2 x3;go_wp2;go_ret2;rw[HP.u];exact HE.u
 have nh:=cd;clear cd
 by_cases cd:k1=7
 .skip
  have HP:=AA (show Ad k ⟨k1,(en:Int),a1,b1,c1,nm⟩=Ly k ⟨k1,(en:Int),a1,b1,c1,nm⟩ by subst cd;rfl);have C:=bG HS.yS HS.lo Z ⟨k1,(en:Int),a1,b1,c1,nm⟩ χ (by simp only;omega);simp only[AT.on,AT.onCells] at C;subst cd;go_in;go_wp2_with fail;generalize w.alloc _=W0 at*;refine C.mono ?_;rintro r w1 hr;obtain⟨n,rfl,hE⟩:=ED.two hr bH HS.bel;have HE:=AA hE;clear C;clear hr hE y0 y1 y2 y3 y4 y5 y6 x0 x1 x2 x3;go_wp2;go_ret2;rw[HP.u];exact HE.u
 have ng:=cd;clear cd
 by_cases cd:k1=8
 .skip
  have HP:=AA (show Ad k ⟨k1,(en:Int),a1,b1,c1,nm⟩=Fx k ⟨k1,(en:Int),a1,b1,c1,nm⟩ by subst cd;rfl);have C:=YL HS.yS HS.lo Z ⟨k1,(en:Int),a1,b1,c1,nm⟩ χ (by simp only;omega) fz;simp only[AT.on,AT.onCells] at C;subst cd;go_in;go_wp2_with fail;generalize w.alloc _=W0 at*;refine C.mono ?_;rintro r w1 hr;obtain⟨n,rfl,hE⟩:=ED.two hr YM HS.bel;have HE:=AA hE;clear C;clear hr hE y0 y1 y2 y3 y4 y5 y6 x0 x1 x2 x3;go_wp2;go_ret2;rw[HP.u];exact HE.u
 have nf:=cd;clear cd
 by_cases cd:k1=9
 .skip
  have HP:=AA (show Ad k ⟨k1,(en:Int),a1,b1,c1,nm⟩=ER k ⟨k1,(en:Int),a1,b1,c1,nm⟩ by subst cd;rfl);have C:=XV HS.yS HS.lo Z ⟨k1,(en:Int),a1,b1,c1,nm⟩ χ (by simp only;omega) fz;simp only[AT.on,AT.onCells] at C;subst cd;go_in;go_wp2_with fail;generalize w.alloc _=W0 at*;refine C.mono ?_;rintro r w1 hr;obtain⟨n,rfl,hE⟩:=ED.two hr XW HS.bel;have HE:=AA hE;clear C;clear hr hE y0 y1 y2 y3 y4 y5 y6 x0 x1 x2 x3;go_wp2;go_ret2;rw[HP.u];exact HE.u
 have nd:=cd;clear cd;have oI:k1≠2:=ω;have oH:k1≠3:=ω;have kj:k1≠4:=ω;have oG:k1≠5:=ω;have oF:k1≠6:=ω;have hW:=AA (show Ad k ⟨k1,(en:Int),a1,b1,c1,nm⟩=(k,0,3) by unfold Ad;rw[if_neg nh,if_neg (by rw[Bool.not_eq_true,Vd];show k1<2∨6<k1;omega),if_neg ng,if_neg nf,if_neg nd,if_neg (by rintro(x|x);(· exact nb x);(· exact na x))])
 have t1:(k1==1)=false:=by simp[nh]
 have t2:(k1==2)=false:=by simp[oI]
 have t3:(k1==3)=false:=by simp[oH]
 have t4:(k1==4)=false:=by simp[kj]
 have t5:(k1==5)=false:=by simp[oG]
 have t6:(k1==6)=false:=by simp[oF]
 have t7:(k1==7)=false:=by simp[ng]
 have t8:(k1==8)=false:=by simp[nf]
 have t9:(k1==9)=false:=by simp[nd]
 have ta:(k1==10)=false:=by simp[nb]
 have tb:(k1==11)=false:=by simp[na]
 clear nh oI oH kj oG oF ng nf nd nb na m9 y0 y2 y3 y4 y5 y6 x0 x1 x2 x3;go_in;go_wp2;go_ret2;exact Gk.bad hW ψ HS.bel
variable{b:ByteArray}
theorem VW{a:ByteArray}:L8 a b=true↔a.data.toList<+:b.data.toList:=by unfold L8;exact vi
theorem UZ{a c:ByteArray}(L:L8 a b=true)(O:L8 b c=true):L8 a c=true:=VW.2 ((VW.1 L).trans (VW.1 O))
def Rg(k:AR)(f:Nat):Prop:=(JR k.Zh f).r=1/\((∃t i,t<12/\Bp (A3 k t)=true/\i<4/\EG f (Aw k.mem t i)=true/\(JR k.Zh t).g=gA)∨Ab k 0=(f:Int))
def EF(k k':AR):Prop:=(∀e,e<3->Cd (BJ k' e) gA=Cd (BJ k e) gA)/\Ab k' 0=Ab k 0/\
 ∀f,f<12->(JR k.Zh f).g=gA->A3 k f≠0->AK k'.mem f=AK k.mem f/\(JR k'.Zh f).g=gA/\(Rg k f->(JR k'.Zh f).r=(JR k.Zh f).r)
theorem EF.refl (k:AR):EF k k:=⟨λ_ _=>rfl,rfl,λ_ _ h _=>⟨rfl,h,λ_=>rfl⟩⟩
section
variable {k:AR} (h:DZ k)
include h
theorem Qd{f t:Nat}(hf:f<12)(V:Rg k f)(ht:t<12)(kk:Bp (A3 k t)=true)(H:(JR k.Zh t).g≠gA):f∉named (AK k.mem t):=λhm=>by
 obtain⟨i,R,hn⟩:=h.named_at ht hm;obtain⟨L,O⟩:=V
 rcases O with⟨t',i',a,b,c,d,e⟩|O
 .have:=(h.once hf L ht kk R hn a b c d).1
  subst this;exact H e
 exact h.zm hf L ht kk R hn (e:=0) ω O
theorem Yk{f e:Nat}(hf:f<12)(V:Rg k f)(he:e<3)(h0:e≠0):Ab k e≠(f:Int):=λhr=>by
 obtain⟨L,O⟩:=V
 rcases O with⟨t',i',a,b,c,d,_⟩|O
 .exact h.zm hf L a b c d he hr
 have jr:=h.refs f hf
 rw[Ig h.zX] at jr;unfold Ab at hr O;have:e=1∨e=2:=ω;unfold Ee at jr
 rcases this with rfl|rfl<;>simp[hr,O] at jr<;>split at jr<;>omega
end
theorem PG{e:Nat}{m:List (List Int)}{i:List AX}{c:List Ag}(hl:k.Xr.length=3)(ha:a<3):BJ ⟨m,i,Ao k.Xr a (BT ss),c⟩ e=if e=a then ss else BJ k e:=by
 unfold BJ
 show(AH (Ao k.Xr a (BT ss)) e).Pj=_
 rw[IA]
 by_cases h:e=a
 .rw[if_pos ⟨h,by rw[hl];exact ha⟩,if_pos h];rfl
 rw[if_neg (λx=>h x.1),if_neg h]
theorem TN{e:Nat}{m:List (List Int)}{i:List AX}{c:List Ag}:Ab ⟨m,i,Ao k.Xr a (BT ss),c⟩ e=Ab k e:=by
 unfold Ab
 show(AH (Ao k.Xr a (BT ss)) e).root=_
 rw[IA]
 split
 .next h=>rw[h.1];rfl
 rfl
section
variable {k:AR} (h:DZ k) {c:AT} (he:c.e=1∨c.e=2) (bk:∀e,1<=e->e<3->Cd (BJ k e) gA=false)
include h he bk
theorem Sk{g:ByteArray}(hm:Ff k c.e g=true):g≠gA:=λe=>by have _:=h;have _:=he;have _:=bk;subst e;have:=bk c.e.toNat ω ω;unfold Ff at hm;unfold BJ at this;rw[hm] at this;cases this
theorem dU{g:ByteArray}(hm:Ff k c.e g=true):L8 g gA=false:=by
 have _:=h;have _:=he;have _:=bk;cases hc:L8 g gA
 .rfl
 exfalso
 obtain⟨s,hs,L⟩:=Is.1 hm;have:=bk c.e.toNat ω ω;have O:Cd (BJ k c.e.toNat) gA=true:=Is.2 ⟨s,hs,UZ L hc⟩;rw[O] at this;cases this
theorem Y8:EF k (J0 k c).1:=by
 have _:=h;have _:=he;have _:=bk;unfold J0
 split
 .exact EF.refl k
 split
 .exact EF.refl k
 split
 .exact EF.refl k
 next cN=>
 obtain⟨g1,g2,g3⟩:=GW cN;refine⟨λ_ _=>rfl,rfl,λf hf H N=>?_⟩;have dg:f≠(An k.Zh).toNat:=λe=>by unfold A3 at N;rw[e] at N;exact N g2
 show AK (k.mem.set _ _) f=_/\(JR (k.Zh.set _ _) f).g=gA/\(_->(JR (k.Zh.set _ _) f).r=_)
 rw[QG,if_neg (λx=>dg x.1),IW,if_neg (λx=>dg x.1)];exact⟨rfl,H,λ_=>rfl⟩
theorem YJ(hA:c.a.toNat<12)(hm:Ff k c.e (JR k.Zh c.a.toNat).g=true):EF k (K4 k c).1:=by
 have _:=h;have _:=he;have _:=bk;have im:=Sk h he bk hm;unfold K4
 split
 .exact EF.refl k
 split
 .exact EF.refl k
 refine⟨λ_ _=>rfl,rfl,λf hf H N=>?_⟩
 have dg:f≠c.a.toNat:=λe=>im (by rw[<-e];exact H)
 show _/\(JR (k.Zh.set _ _) f).g=gA/\(_->(JR (k.Zh.set _ _) f).r=_)
 rw[IW,if_neg (λx=>dg x.1)];exact⟨rfl,H,λ_=>rfl⟩
theorem Yo(hm:Ff k c.e (JR k.Zh c.a.toNat).g=true):EF k (LE k c).1:=by
 have _:=h;have _:=he;have _:=bk;have im:=Sk h he bk hm;unfold LE
 split
 .exact EF.refl k
 refine⟨λ_ _=>rfl,rfl,λf hf H N=>?_⟩
 have dg:f≠c.a.toNat:=λe=>im (by rw[<-e];exact H)
 show AK (Cn _ _ _ _) f=_/\_/\_
 rw[Ih,if_neg (λx=>dg x.1)];exact⟨rfl,H,λ_=>rfl⟩
theorem Nh{n kind:Int}(im:(JR k.Zh a).g≠gA)(qJ:∀f,f<12->(JR k.Zh f).g=gA->Rg k f->f∉fs):EF k {k with Zh:=Ao (BO k.Zh fs n) a (Dl kind)}:=by
 have _:=h;have _:=he;have _:=bk;refine⟨λ_ _=>rfl,rfl,λf hf H N=>?_⟩;have dg:f≠a:=λe=>im (by rw[<-e];exact H)
 show AK k.mem f=AK k.mem f/\(JR (Ao (BO k.Zh fs n) a (Dl kind)) f).g=gA/\(_->(JR (Ao (BO k.Zh fs n) a (Dl kind)) f).r=_)
 rw[Fy,if_neg (λx=>dg x.1),PF (by rw[h.len];exact hf)];refine⟨rfl,H,λV=>?_⟩;have:=List.count_eq_zero_of_not_mem (qJ f hf H V)
 show(JR k.Zh f).r+n*((fs.count f:Nat):Int)=_
 rw[this];simp
theorem Oz{r:List AX×Int}(hr:r.2=0->EF k {k with Zh:=r.1}):EF k (EB k r).1:=by
 have _:=h;have _:=he;have _:=bk;unfold EB
 split
 .next h0=>exact hr h0
 exact EF.refl k
theorem af(hm:Ff k c.e (JR k.Zh c.a.toNat).g=true):EF k (EB k (Gc k.mem k.Zh c.a.toNat c.b (AH k.Xr c.e.toNat).Pj)).1:=by
 have _:=h;have _:=he;have _:=bk;have im:=Sk h he bk hm;refine Oz h he bk λh0=>?_
 revert h0
 unfold Gc
 split
 .intro x;cases x
 split
 .intro x;cases x
 next hgood=>
 split
 .intro _
  refine Nh h he bk im λf hf H _ cC=>?_
  obtain⟨w,hw,L,O⟩:=GJ.1 cC;have:=My.1 (by simpa using hgood) w hw;unfold GQ at this;rw[if_pos L,O] at this;simp only[yD] at this;have:=this.2;rw[H] at this;have ha:=bk c.e.toNat ω ω;unfold BJ at ha;rw[this] at ha;cases ha
 intro x;cases x
theorem Xd(hA:c.a.toNat<12)(hm:Ff k c.e (JR k.Zh c.a.toNat).g=true):EF k (EB k (DH k.mem k.Zh c.a.toNat)).1:=by
 have _:=h;have _:=he;have _:=bk;have im:=Sk h he bk hm;refine Oz h he bk λh0=>?_
 revert h0
 unfold DH
 split
 .intro x;cases x
 next cu=>
 split
 .intro _
  have kk:Bp (A3 k c.a.toNat)=true:=by
   cases A:Bp (A3 k c.a.toNat)
   .exact absurd (.inl A) cu
   rfl
  exact Nh h he bk im λf hf H V=>Qd h hf V hA kk im
 intro x;cases x
theorem bJ(hA:c.a.toNat<12)(hm:Ff k c.e (JR k.Zh c.a.toNat).g=true):EF k (Ik k c).1:=by
 have _:=h;have _:=he;have _:=bk;have im:=Sk h he bk hm;unfold Ik
 split
 .exact EF.refl k
 next cu=>
 split
 .exact EF.refl k
 split
 .exact EF.refl k
 next hno2=>
 have kk:Bp (A3 k c.a.toNat)=true:=by
  cases A:Bp (A3 k c.a.toNat)
  .exact absurd (.inl A) cu
  rfl
 have jv:c.b.toNat<4:=by
  cases A:Bj c.b 0 3
  .exact absurd (.inr (.inl A)) cu
  have:=Aa.1 A;omega
 refine⟨λ_ _=>rfl,rfl,λf hf H N=>?_⟩;have dg:f≠c.a.toNat:=λe=>im (by rw[<-e];exact H)
 show AK (Cn _ _ _ _) f=_/\(JR (BD (BD k.Zh _ _) c.c 1) f).g=gA/\(_->(JR (BD (BD k.Zh _ _) c.c 1) f).r=_)
 rw[Ih,if_neg (λx=>dg x.1),GL (by rw[Cv];exact h.len),GL h.len];refine⟨rfl,H,λV=>?_⟩;have e1:EG f (Aw k.mem c.a.toNat c.b.toNat)=false:=by
  cases hn:EG f (Aw k.mem c.a.toNat c.b.toNat)
  .rfl
  exfalso
  have kQ:Bv (Aw k.mem c.a.toNat c.b.toNat)=true/\BP (Aw k.mem c.a.toNat c.b.toNat)=f:=by simpa[EG] using hn
  have:=Kc kQ.1;rw[kQ.2] at this;exact Qd h hf V hA kk im this
 have e2:EG f c.c=false:=by
  cases hn:EG f c.c
  .rfl
  exfalso
  have kQ:Bv c.c=true/\BP c.c=f:=by simpa[EG] using hn
  refine hno2 ⟨kQ.1,?_⟩;rw[kQ.2,H];have:=bk c.e.toNat ω ω;exact this
 rw[e1,e2];simp[Ee]
theorem Yt:EF k (Ly k c).1:=by
 have _:=h;have _:=he;have _:=bk;unfold Ly
 split
 .exact EF.refl k
 next cu=>
 split
 .exact EF.refl k
 next hno2=>
 have ip:c.e.toNat<3:=ω;have kZ:c.e.toNat≠0:=ω;refine⟨λe _=>?_,?_,λf hf H N=>⟨rfl,?_⟩⟩
 .have:BJ ⟨k.mem,k.Zh,Ao k.Xr c.e.toNat (EJ c.a),Gm k.Xo c.e⟩ e=BJ k e:=by
   unfold BJ
   show(AH (Ao k.Xr c.e.toNat (EJ c.a)) e).Pj=_
   rw[IA]
   split
   .next h=>rw[h.1];rfl
   rfl
  show Cd (BJ ⟨k.mem,k.Zh,Ao k.Xr c.e.toNat (EJ c.a),Gm k.Xo c.e⟩ e) gA=_
  rw[this]
 .show(AH (Ao k.Xr c.e.toNat (EJ c.a)) 0).root=_
  rw[IA,if_neg (λx=>kZ x.1.symm)];rfl
 have hl:=h.len
 show(JR (Hh k.Zh (AH k.Xr c.e.toNat).root c.a) f).g=gA/\(_->(JR (Hh k.Zh (AH k.Xr c.e.toNat).root c.a) f).r=_)
 rw[U4 hl hf];refine⟨H,λV=>?_⟩;have e1:decide ((AH k.Xr c.e.toNat).root=(f:Int))=false:=decide_eq_false (Yk h hf V ip kZ);have e2:decide (c.a=(f:Int))=false:=decide_eq_false λhx=>by
  have:BM k.Zh (Bg k.mem c.a) (AH k.Xr c.e.toNat).Pj=true:=by simpa using hno2
  have:=Gv.1 this f (Dz.2 ⟨ω,.inl ω⟩);rw[H] at this;have ha:=bk c.e.toNat ω ω;unfold BJ at ha;rw[this] at ha;cases ha
 rw[e1,e2];simp[Ee]
theorem dN{s g:ByteArray}(hc:L8 s g=false):Cd (BV ss s).1 g=Cd ss g:=by
 have _:=h;have _:=he;have _:=bk;unfold BV
 split
 .rfl
 split
 .rfl
 rw[wW,Is,Is]
 constructor
 .rintro⟨x,hx,hxc⟩
  rcases Oa.1 hx with rfl|hx
  .rw[hc] at hxc;cases hxc
  exact⟨x,hx,hxc⟩
 rintro⟨x,hx,hxc⟩
 exact⟨x,Oa.2 (.inr hx),hxc⟩
theorem aR{s g:ByteArray}(hc:L8 s g=false):Cd (Bi ss s) g=Cd ss g:=by
 have _:=h;have _:=he;have _:=bk;unfold Bi;rw[wW,Is,Is];constructor
 .rintro⟨x,hx,hxc⟩
  exact⟨x,(wK.1 hx).1,hxc⟩
 rintro⟨x,hx,hxc⟩
 refine⟨x,wK.2 ⟨hx,?_⟩,hxc⟩;cases hs:L8 s x
 .rfl
 rw[UZ hs hxc] at hc;cases hc
theorem Wq:EF k (Fx k c).1:=by
 have _:=h;have _:=he;have _:=bk;unfold Fx
 split
 .exact EF.refl k
 next cu=>
 split
 .exact EF.refl k
 next hm=>
 split
 .exact EF.refl k
 have nU:c.a.toNat<3:=by
  cases A:Bj c.a 0 2
  .exact absurd (.inl A) cu
  have:=Aa.1 A;omega
 have nL:=dU h he bk (g:=c.nm) (by simpa using hm);refine⟨λe _=>?_,TN,λf hf H N=>⟨rfl,H,λ_=>rfl⟩⟩;rw[PG h.zX nU]
 split
 .next hea=>rw[hea];exact dN h he bk nL
 rfl
theorem V5:EF k (ER k c).1:=by
 have _:=h;have _:=he;have _:=bk;unfold ER
 split
 .exact EF.refl k
 next cu=>
 split
 .exact EF.refl k
 next hm=>
 split
 .exact EF.refl k
 have nU:c.a.toNat<3:=by
  cases A:Bj c.a 0 2
  .exact absurd (.inl A) cu
  have:=Aa.1 A;omega
 have nL:=dU h he bk (g:=c.nm) (by simpa using hm);refine⟨λe _=>?_,TN,λf hf H N=>⟨rfl,H,λ_=>rfl⟩⟩;rw[PG h.zX nU]
 split
 .next hea=>rw[hea];exact aR h he bk nL
 rfl
theorem ZD{m:List (List Int)}{root:Int}(h0:0<=root)(hw:(CU m root.toNat a).1=0):(CU m root.toNat a).2.1∈Bg m root:=by
 have _:=h;have _:=he;have _:=bk
 revert hw
 unfold CU
 split
 .next L=>
  split
  .next O=>
   intro _;exact Dz.2 ⟨h0,.inr (.inr ⟨_,Kc L,Kc O⟩)⟩
  intro x;cases x
 intro x;cases x
theorem bU:EF k (PV k c).1:=by
 have _:=h;have _:=he;have _:=bk;unfold PV;dsimp only
 split
 .exact EF.refl k
 next cu=>
 split
 .exact EF.refl k
 next hw=>
 split
 .exact EF.refl k
 split
 .have h0:0<=(AH k.Xr c.e.toNat).root:=by
   rcases Int.lt_or_le (AH k.Xr c.e.toNat).root 0 with hh|hh
   .exact absurd (.inr (.inl hh)) cu
   exact hh
  have hr:=ZD h he bk (a:=c.a.toNat) h0 (by simpa using hw);have lg:=h.allow c.e.toNat ω _ hr;refine⟨λ_ _=>rfl,rfl,λf hf H N=>?_⟩;have dg:f≠(CU k.mem (AH k.Xr c.e.toNat).root.toNat c.a.toNat).2.1:=λe=>by rw[<-e,H,bk c.e.toNat ω ω] at lg;cases lg
  show AK (Cn _ _ _ _) f=_/\_/\_
  rw[Ih,if_neg (λx=>dg x.1)];exact⟨rfl,H,λ_=>rfl⟩
 exact⟨λ_ _=>rfl,rfl,λf hf H N=>⟨rfl,H,λ_=>rfl⟩⟩
theorem WY:EF k (Ad k c).1:=by
 have _:=h;have _:=he;have _:=bk;unfold Ad
 split
 .exact Y8 h he bk
 split
 .unfold IV
  split
  .exact EF.refl k
  next cu=>
  split
  .exact EF.refl k
  next hm=>
  have kS:Ff k c.e (JR k.Zh c.a.toNat).g=true:=by simpa using hm
  have hA:c.a.toNat<12:=by
   cases A:Bj c.a 0 11
   .exact absurd (.inl A) cu
   have:=Aa.1 A;omega
  split
  .exact YJ h he bk hA kS
  split
  .exact Yo h he bk kS
  split
  .exact af h he bk kS
  split
  .exact Xd h he bk hA kS
  exact bJ h he bk hA kS
 split
 .exact Yt h he bk
 split
 .exact Wq h he bk
 split
 .exact V5 h he bk
 split
 .exact bU h he bk
 exact EF.refl k
end
theorem Ox (h:Dd p){c:AT}(he:c.e=1∨c.e=2):Dd (HY p c).1/\∀a,a<64->Fu (HY p c).1 a=Fu p a:=by
 have hj:=WY h.k he h.alone;have l3:DZ (Ad p.V0 c).1:=Od h.k ω;obtain⟨k1,k2,k3⟩:=hj;have lV:=h.zK;have iM:Rg p.V0 (Ab p.V0 0).toNat:=⟨h.yW.2,.inr (by have:=h.root;omega)⟩;have jp:∀i,i<4->Rg p.V0 (Bd p.low i).toNat:=λi R=>⟨(h.lows i R).2.2.2.2,.inl ⟨_,i,lV.1,by rw[lV.2];rfl,R,h.zw R,h.yW.1⟩⟩
 have ij:∀n,n<16->(AD p.Xs n).w=1->Rg p.V0 (AD p.Xs n).a.toNat:=λn hn hw=>by obtain⟨f1,f2,f3⟩:=h.zQ hn hw;have hl:=h.zU (i:=n/4) ω;exact⟨f3.2,.inl ⟨_,n%4,hl.1,by rw[hl.2];rfl,ω,f1,(h.lows (n/4) ω).2.2.2.1⟩⟩
 have jd:=k3 _ lV.1 h.yW.1 (by rw[lV.2];decide);have kd:=λi (R:i<4)=>k3 _ (h.zU R).1 (h.lows i R).2.2.2.1 (by rw[(h.zU R).2];decide)
 have g9:=λn (hn:n<16) (hw:(AD p.Xs n).w=1)=>k3 _ (h.zR hn hw).1 (h.zQ hn hw).2.2.1 (by rw[(h.zR hn hw).2];decide)
 have qk:∀n,n<16->CZ (HY p c).1 n=CZ p n:=λn hn=>by
  unfold CZ HY Aw
  show(AK (Ad p.V0 c).1.mem (Bd p.low (n/4)).toNat).getD (n%4) 0=_
  rw[(kd (n/4) ω).1]
 refine⟨⟨l3,h.zN,h.zF,?_,λe L O=>?_,?_,h.zD,?_,λi R=>?_,h.zY,h.slots,λn hn=>?_,h.FU,h.VO,h.count⟩,λa ha=>?_⟩
 .exact(k1 0 ω).trans h.may
 .exact(k1 e O).trans (h.alone e L O)
 .show 0<=Ab (Ad p.V0 c).1 0
  rw[k2];exact h.root
 .show L5 (Ad p.V0 c).1.Zh (Ab (Ad p.V0 c).1 0).toNat
  rw[k2];exact⟨jd.2.1,(jd.2.2 iM).trans h.yW.2⟩
 .obtain⟨x1,x2,x3,x4⟩:=h.lows i R
  refine⟨x1,x2,?_,(kd i R).2.1,((kd i R).2.2 (jp i R)).trans x4.2⟩
  show Aw (Ad p.V0 c).1.mem (Ab (Ad p.V0 c).1 0).toNat i=_
  rw[k2];unfold Aw;rw[jd.1];exact x3
 .have:=h.Xs n hn
  unfold LV at this ⊢;rw[qk n hn]
  rcases this with x|⟨x1,x2,x3,x4⟩|x
  .exact .inl x
  .exact .inr (.inl ⟨x1,x2,x3,(g9 n hn x1).2.1,((g9 n hn x1).2.2 (ij n hn x1)).trans x4.2⟩)
  exact .inr (.inr x)
 unfold Fu
 show(if(AD p.Xs (a/4)).w=1 then Aw (Ad p.V0 c).1.mem (AD p.Xs (a/4)).a.toNat (a%4) else _)=_
 by_cases w1:(AD p.Xs (a/4)).w=1
 .rw[if_pos w1,if_pos w1]
  unfold Aw;rw[(g9 _ ω w1).1]
 rw[if_neg w1,if_neg w1];rfl
def gB:ByteArray:=⟨#[98]⟩
def gC:ByteArray:=⟨#[99]⟩
def ga:AR:=⟨xW 12 [0,0,0,0],xW 12 ⟨0,⟨#[]⟩,0⟩,[⟨[gA],-1⟩,⟨[gB],-1⟩,⟨[gC],-1⟩],[]⟩
def LA:List AT:=[Ah 1 0 0 0,Ah 4 0 3 0,Ah 7 0 0 0,
 Ah 1 0 0 0,Ah 4 1 2 0,Ah 6 0 0 7,Ah 1 0 0 0,Ah 4 2 2 0,Ah 6 0 1 11,Ah 1 0 0 0,Ah 4 3 2 0,Ah 6 0 2 15,Ah 1 0 0 0,Ah 4 4 2 0,Ah 6 0 3 19]
def EX(n:Nat):AR:=(LA.take n).foldl (λk c=>(Ad k c).1) ga
def fM:AR:=⟨[7,11,15,19]::xW 11 [0,0,0,0],⟨3,gA,1⟩::(xW 4 ⟨2,gA,1⟩++xW 7 ⟨0,⟨#[]⟩,0⟩),[⟨[gA],0⟩,⟨[gB],-1⟩,⟨[gC],-1⟩],[]⟩
theorem Yg:EX 15=fM:=φ
theorem eZ:Ad (EX 0) (Ah 1 0 0 0)=(EX 1,0,0):=φ
theorem eX:Ad (EX 1) (Ah 4 0 3 0)=(EX 2,0,0):=φ
theorem dS:Ad (EX 2) (Ah 7 0 0 0)=(EX 3,0,0):=φ
theorem dT:∀i,i<4->Ad (EX (3*i+3)) (Ah 1 0 0 0)=(EX (3*i+4),((i+1:Nat):Int),0)
 |0,_|1,_|2,_|3,_=>φ
 |_+4,h=>ω
theorem eW:∀i,i<4->Ad (EX (3*i+4)) (Ah 4 ((i+1:Nat):Int) 2 0)=(EX (3*i+5),0,0)
 |0,_|1,_|2,_|3,_=>φ
 |_+4,h=>ω
theorem eY:∀i,i<4->Ad (EX (3*i+5)) (Ah 6 0 (i:Int) (Ip ((i+1:Nat):Int)))=(EX (3*i+6),0,0)
 |0,_|1,_|2,_|3,_=>φ
 |_+4,h=>ω
theorem dQ:∀n,n<=15->DZ (EX n):=by
 have h0:DZ (EX 0):=FI.1 φ;intro n
 induction n with
 |zero=>exact λ_=>h0
 |succ n ih=>
  intro hn;have ao:n<LA.length:=by show n<15;omega
  have e:EX (n+1)=(Ad (EX n) LA[n]).1:=by unfold EX;rw[List.take_succ_eq_append_getElem ao,vG];rfl
  rw[e];have he:(LA[n]).e=0:=by
   have:∀c∈LA,c.e=0:=by
    intro c hc;simp only[LA,List.mem_cons,wU,or_false] at hc
    rcases hc with h|h|h|h|h|h|h|h|h|h|h|h|h|h|h<;>(subst h;rfl)
   exact this _ (List.getElem_mem ao)
  exact Od (ih ω) (by rw[he];omega)
def XN(VO:Int):AP:=⟨fM,xW 16 [],[1,2,3,4],xW 16 ⟨0,0,false⟩,0,VO⟩
theorem ZM{l:Int}(L:1<=l)(h6:l<=6):Dd (XN l):=by
 have h:Dd (XN 1):=Ct.1 φ;exact⟨h.k,h.zN,h.zF,h.may,h.alone,h.root,h.zD,h.yW,h.lows,h.zY,h.slots,λn hn=>h.Xs n hn,h.FU,⟨L,h6⟩,by
  show((Al (xW 16 ⟨0,0,false⟩) 1:Nat):Int)<=l
  have:Al (xW 16 ⟨0,0,false⟩) 1=0:=φ;omega⟩
def Fl(k:AR)(r:Nu):Prop:=(r.2.2≠0->r=(k,0,r.2.2))/\0<=r.2.2/\r.2.2<=4
theorem Fl.code{n:Int}(h0:0<=n)(h4:n<=4):Fl k (k,0,n):=⟨λ_=>rfl,h0,h4⟩
theorem Fl.done{k':AR}{v:Int}:Fl k (k',v,0):=⟨λh=>absurd rfl h,by show(0:Int)<=0;omega,by show(0:Int)<=4;omega⟩
theorem Fl.zL{p:Prop} [Decidable p] {a b:Nu}(ha:Fl k a)(A:Fl k b):Fl k (if p then a else b):=by split<;>assumption
theorem TA{r:List AX×Int}:Fl k (EB k r):=by
 unfold EB IJ
 split
 .exact .done
 split
 .exact .code ω ω
 exact .code ω ω
theorem cK{c:AT}:Fl k (Ad k c):=by
 have c1:Fl k (k,0,1):=.code ω ω;have c2:Fl k (k,0,2):=.code ω ω;have c3:Fl k (k,0,3):=.code ω ω;have c4:Fl k (k,0,4):=.code ω ω;unfold Ad;refine .zL (.zL c3 (.zL c1 (.zL c4 .done))) (.zL ?_ (.zL ?_ (.zL ?_ (.zL ?_ (.zL ?_ c3)))))
 .unfold IV
  refine .zL c3 (.zL c1 (.zL (.zL c3 (.zL c2 .done)) (.zL (.zL c3 .done) (.zL TA (.zL TA ?_)))));unfold Ik;exact .zL c3 (.zL c1 (.zL c1 .done))
 .unfold Ly
  exact .zL c3 (.zL c1 .done)
 .unfold Fx
  exact .zL c3 (.zL c1 (.zL c4 .done))
 .unfold ER
  exact .zL c3 (.zL c1 (.zL c2 .done))
 unfold PV
 exact .zL c3 (.zL c3 (.zL c1 (.zL .done .done)))
theorem Rr{c:AT}(h:(Ad k c).2.2≠0):Ad k c=(k,0,(Ad k c).2.2):=cK.1 h
theorem MN{kind e a b c:Int}{s t:ByteArray}(h:kind≠1/\kind≠8/\kind≠9):Ad k ⟨kind,e,a,b,c,s⟩=Ad k ⟨kind,e,a,b,c,t⟩:=by unfold Ad;simp only[h.1,h.2.1,h.2.2,if_false];rfl
def Mr(w:Ω)(res:Nu)(e:Ending)(w':Ω):Prop:=∃m i ev c,e=.returned (.tuple #[.agg #[m,i,ev,c],res.2.1,res.2.2])/\Du w w' m i ev c res.1/\Γ w w w'
theorem Du.lower{lo':Nat}(h:Du lo w m i e c k)(hl:lo'<=lo):Du lo' w m i e c k:=
 ⟨⟨_,h.1.choose_spec.lower hl⟩,h.2.1.lower hl,⟨_,h.2.2.1.choose_spec.lower hl⟩,h.2.2.2.lower hl⟩
variable{cs:Array Φ}
theorem Du.yV{T:Nat}{fr:Nat×Nat}(h:Du lo w m i e c k)(H:w.grownBy w' (some g))(hB:w.heap[g]?=some (.cells cs T fr))
 (L:29≠T:=by decide)(O:3≠T:=by decide)(h3:115≠T:=by decide)(h4:81≠T:=by decide)(h5:9≠T:=by decide)(h6:125≠T:=by decide):Du lo w' m i e c k:=
 ⟨⟨_,h.1.choose_spec.yV H hB L O⟩,h.2.1.yV H hB h3,⟨_,h.2.2.1.choose_spec.yV H hB h4 h5⟩,h.2.2.2.yV H hB h6⟩
theorem FE{a b d f:Φ}(h:w.heap[g]?=some (.cells #[a,b,c,d,e,f] t (0,0))):w.cell? g=some a/\w.cell? (g,1)=some b/\w.cell? (g,2)=some c/\w.cell? (g,3)=some d/\w.cell? (g,4)=some e/\w.cell? (g,5)=some f:=
 ⟨yy w g 0 _ _ _ h,yy w g 1 _ _ _ h,yy w g 2 _ _ _ h,yy w g 3 _ _ _ h,yy w g 4 _ _ _ h,yy w g 5 _ _ _ h⟩
theorem Ar (w:Ω)(g:Nat)(a b c d:Φ):w.grownBy ((((w.setCell g a).setCell (g,1) b).setCell (g,2) c).setCell (g,3) d) (some g):=
 As (As (As (Ak w g 0 a) 1 b) 2 c) 3 d
theorem Du.Dq (h:Du lo w m i e c k):(∃a n q,m=.slice a n q)/\(∃a n q,i=.slice a n q)/\(∃a n q,e=.slice a n q)/\∃a n q,c=.slice a n q:=by obtain⟨⟨_,L⟩,O,⟨_,h3⟩,h4⟩:=h;obtain⟨_,_,rfl,_,_⟩:=L.1.rd.shape;obtain⟨_,_,rfl,_,_⟩:=O.rd.shape;obtain⟨_,_,rfl,_,_⟩:=h3.1.rd.shape;obtain⟨_,_,rfl,_,_⟩:=h4.rd.shape;exact⟨⟨_,_,_,rfl⟩,⟨_,_,_,rfl⟩,⟨_,_,_,rfl⟩,⟨_,_,_,rfl⟩⟩
theorem Ft (w:Ω)(a b c:Obj):(((w.alloc a).alloc b).alloc c).heap[w.heap.size]?=some a/\(((w.alloc a).alloc b).alloc c).heap[w.heap.size+1]?=some b/\(((w.alloc a).alloc b).alloc c).heap[w.heap.size+1+1]?=some c/\Γ w w (((w.alloc a).alloc b).alloc c)/\(((w.alloc a).alloc b).alloc c).heap.size=w.heap.size+3:=by have L:=yx w a;have O:=yx (w.alloc a) b;have h3:=yx ((w.alloc a).alloc b) c;have h4:=AB (AB L (AJ _ b)) (AJ _ c);have h5:=AB O (AJ _ c);simp only[xz] at O h3 h5;refine⟨h4,h5,h3,(IE w a b).trans ((AJ _ c).mono (IE w a b).size),χ⟩
theorem KZ{m' i' e' c':Φ}(h:w.heap[g]?=some (.cells #[m,i,e,c] t (0,0))):((((w.setCell g m').setCell (g,1) i').setCell (g,2) e').setCell (g,3) c').cell? g=some m'/\((((w.setCell g m').setCell (g,1) i').setCell (g,2) e').setCell (g,3) c').cell? (g,1)=some i'/\((((w.setCell g m').setCell (g,1) i').setCell (g,2) e').setCell (g,3) c').cell? (g,2)=some e'/\((((w.setCell g m').setCell (g,1) i').setCell (g,2) e').setCell (g,3) c').cell? (g,3)=some c':=AG (DF h)
theorem Rs (m i e c:Φ)(k:AR)(call:AT)(w:Ω)(h:Ns w m i e c k)(N:DZ k)(he:0<=call.e)(hn:call.e<3)(fz:call.nm.size<=maxLen)(jk:call.c<=9223372036854775807):
 Ξ prog 26 #[.agg #[m,i,e,c],.agg #[call.k,call.e,call.a,call.b,call.c,call.nm]] w (Mr w (Ad k call)):=by
 have C:=AA (λ(lo g:Nat)(w:Ω)(m i e c:Φ)(h:Iz lo w g m i e c k)(bD:lo<=w.heap.size)=>eQ h bD N call he hn fz jk);have HR:=AA h;have Z:=AA N;have HN:=AA (@Rr k call);generalize Ad k call=res at C HN ⊢;obtain⟨kr,vr,nr⟩:=res;obtain⟨ck,ce,ca,cb,cc,nm⟩:=call;simp only[AT.on,AT.onCells] at C;clear he hn fz jk h N;go_in;go_wp2_with fail;obtain⟨B0,B1,B2,br,iS⟩:=Ft w (.cells #[m,i,e,c] 28) (.cells #[ck,ce,ca,cb,cc,nm] 34) (.cells #[ι,ι,ι,ι] 28);generalize((w.alloc _).alloc _).alloc _=W0 at*;refine(Vw m i e c k W0 (HR.below br) Z.u).mono ?_;rintro r w1 ⟨m1,i1,e1,c1,rfl,O1,b1⟩;have oM:=b1.size;obtain⟨⟨ma,mn,mc,rfl⟩,⟨ia,iN,ic,rfl⟩,⟨ea,en,ec,rfl⟩,⟨qa,qn,qc,rfl⟩⟩:=O1.Dq;obtain⟨N3,b2⟩:=EU w1 (.cells #[.slice ma mn mc,.slice ia iN ic,.slice ea en ec,.slice qa qn qc] 28);obtain⟨y0,y1,y2,y3,y4,y5⟩:=FE (AB (AB B1 b1) b2);have hI:=AA (show Iz W0 _ w1.heap.size _ _ _ _ k from⟨N3,oM,O1.below b2⟩);have bl:=AA (b1.trans (b2.mono oM));clear N3 O1 b1 b2 B1;go_wp2_with fail;refine(C _ _ _ _ _ _ _ hI (by have:=bl.size;omega)).mono ?_;rintro r w3 ⟨rfl,ko,b3⟩;have g8:=bl.trans b3;have ao:w.heap.size+1+1<W0.heap.size:=ω;have oB:=(g8.block _ ω).trans B0;have kh:=(g8.block _ ω).trans B2;have es:=AA (br.trans (g8.mono br.size));clear y0 y1 y2 y3 y4 y5 hI bl b3 B0 B2 C
 by_cases h0:nr=0
 focus
  subst h0
  have t0:((0:Int)==0)=true:=rfl;obtain⟨m',i',e',c',mj⟩:=ko rfl;obtain⟨⟨m8,mZ,m0,rfl⟩,⟨np,ns,nj,rfl⟩,⟨ob,n7,n9,rfl⟩,⟨mR,mN,mP,rfl⟩⟩:=mj.2.2.Dq;obtain⟨x0,x1,x2,x3⟩:=mj.cells;have io:=AI kh;obtain⟨z0,z1,z2,z3⟩:=AG kh;obtain⟨E0,E1,E2,E3⟩:=KZ (m':=.slice m8 mZ m0) (i':=.slice np ns nj) (e':=.slice ob n7 n9) (c':=.slice mR mN mP) kh;have HE:=AA (yj E0 (yj E1 (yj E2 E3)));have fc:=Ar w3 (w.heap.size+1+1) (.slice m8 mZ m0) (.slice np ns nj) (.slice ob n7 n9) (.slice mR mN mP);have pz:=AA (show Du w _ (.slice m8 mZ m0) (.slice np ns nj) (.slice ob n7 n9) (.slice mR mN mP) kr from(mj.2.2.yV fc kh).lower br.size);have jA:=AA (AM es fc ω es.size);clear E0 E1 E2 E3 mj ko fc oB kh HN g8
 rotate_left
 focus
  have t0:(nr==0)=false:=by simp[h0]
  have hN:=HN h0;simp only[Prod.mk.injEq,and_true] at hN;obtain⟨rfl,rfl⟩:=hN;obtain⟨x0,x1,x2,x3⟩:=AG oB;clear ko;go_wp2_with fail;refine(Vw m i e c kr w3 (HR.below es.u) Z.u).mono ?_;rintro r w4 ⟨m4,i4,e4,c4,rfl,O4,b4⟩;have B4:=AB kh b4;have io:=AI B4;obtain⟨z0,z1,z2,z3⟩:=AG B4;obtain⟨E0,E1,E2,E3⟩:=KZ (m':=m4) (i':=i4) (e':=e4) (c':=c4) B4;have HE:=AA (yj E0 (yj E1 (yj E2 E3)));have fc:=Ar w4 (w.heap.size+1+1) m4 i4 e4 c4;have pz:=AA (show Du w _ m4 i4 e4 c4 kr from(O4.yV fc B4).lower es.size);have jA:=AA (AM (es.trans (b4.mono es.size)) fc ω (by have:=es.size;have:=b4.size;omega));obtain⟨⟨_,_,_,rfl⟩,⟨_,_,_,rfl⟩,⟨_,_,_,rfl⟩,⟨_,_,_,rfl⟩⟩:=O4.Dq;clear E0 E1 E2 E3 O4 b4 B4 fc oB kh x0 x1 x2 x3
 rotate_left
 all_goals
  go_wp2_with fail;exact yB (v:=.tuple #[.agg #[_,_,_,_],_,_]) (by simp[results,Tryz.results26,go_sem,HE.u]) rfl ⟨_,_,_,_,rfl,pz.u,jA.u⟩
def JA(w:Ω)(m i e c s l q:Φ)(P:AP):Prop:=Ns w m i e c P.V0/\Bl w s P.swap/\A1 w l P.low/\BK 3 DT w q P.Xs
structure Es(lo:Nat)(w:Ω)(m i e c s l q:Φ)(P:AP):Prop where
 ker:Du lo w m i e c P.V0
 swp:∃vs,Ay lo w s vs P.swap
 low:AE lo w l P.low
 pgs:AQ lo 87 3 DT w q P.Xs
 apart:GP m s
structure ID(lo g:Nat)(w:Ω)(m i e c s l q:Φ)(P:AP):Prop where
 yU:w.heap[g]?=some (.cells #[m,i,e,c,s,l,q,P.FU,P.VO] 32 (0,0))
 yT:lo<=g
 own:Es lo w m i e c s l q P
section
variable {lo g:Nat} {w w':Ω} {m i e c s l q:Φ} {P:AP}
theorem JA.below(h:JA w m i e c s l q P)(A:Γ w w w'):JA w' m i e c s l q P:=⟨h.1.below A,h.2.1.below A,h.2.2.1.below A,BK.below h.2.2.2 A⟩
theorem Es.rd(h:Es lo w m i e c s l q P):JA w m i e c s l q P:=⟨h.ker.rd,h.swp.choose_spec.rd,h.low.rd,h.pgs.rd⟩
theorem Es.below(h:Es lo w m i e c s l q P)(A:Γ w w w'):Es lo w' m i e c s l q P:=⟨h.ker.below A,⟨_,h.swp.choose_spec.below A⟩,h.low.below A,h.pgs.below A,h.apart⟩
theorem Es.lower{lo':Nat}(h:Es lo w m i e c s l q P)(hl:lo'<=lo):Es lo' w m i e c s l q P:=⟨h.ker.lower hl,⟨_,h.swp.choose_spec.lower hl⟩,Bb h.low hl,Bb h.pgs hl,h.apart⟩
theorem Es.yV{g T:Nat}{cs:Array Φ}{fr:Nat×Nat}(h:Es lo w m i e c s l q P)(H:w.grownBy w' (some g))(hB:w.heap[g]?=some (.cells cs T fr))
 (L:29≠T:=by decide)(O:3≠T:=by decide)(h3:115≠T:=by decide)(h4:81≠T:=by decide)(h5:9≠T:=by decide)(h6:125≠T:=by decide)(h7:87≠T:=by decide):Es lo w' m i e c s l q P:=
 ⟨h.ker.yV H hB L O h3 h4 h5 h6,⟨_,h.swp.choose_spec.yV H hB L O⟩,Eu h.low H hB O,h.pgs.yV H hB h7,h.apart⟩
theorem ID.below(h:ID lo g w m i e c s l q P)(A:Γ w w w'):ID lo g w' m i e c s l q P:=⟨AB h.yU A,h.yT,h.own.below A⟩
theorem AC{t:Nat}{a0 a1 a2 a3 a4 a5 a6 a7 a8:Φ}(h:w.heap[g]?=some (.cells #[a0,a1,a2,a3,a4,a5,a6,a7,a8] t (0,0))):
 w.cell? g=some a0/\w.cell? (g,1)=some a1/\w.cell? (g,2)=some a2/\w.cell? (g,3)=some a3/\w.cell? (g,4)=some a4/\w.cell? (g,5)=some a5/\w.cell? (g,6)=some a6/\w.cell? (g,7)=some a7/\w.cell? (g,8)=some a8:=
 ⟨yy w g 0 _ _ _ h,yy w g 1 _ _ _ h,yy w g 2 _ _ _ h,yy w g 3 _ _ _ h,yy w g 4 _ _ _ h,yy w g 5 _ _ _ h,yy w g 6 _ _ _ h,yy w g 7 _ _ _ h,yy w g 8 _ _ _ h⟩
theorem ID.cells(h:ID lo g w m i e c s l q P):w.cell? g=some m/\w.cell? (g,1)=some i/\w.cell? (g,2)=some e/\w.cell? (g,3)=some c/\w.cell? (g,4)=some s/\w.cell? (g,5)=some l/\w.cell? (g,6)=some q/\w.cell? (g,7)=some (.int .i64 P.FU)/\w.cell? (g,8)=some (.int .i64 P.VO):=AC h.yU
theorem KN{t:Nat}{a0 a1 a2 a3 a4 a5 a6 a7 a8 m' i' e' c':Φ}(h:w.heap[g]?=some (.cells #[a0,a1,a2,a3,a4,a5,a6,a7,a8] t (0,0))):
 ((((w.setCell g m').setCell (g,1) i').setCell (g,2) e').setCell (g,3) c').heap[g]?=some (.cells #[m',i',e',c',a4,a5,a6,a7,a8] t (0,0)):=by
 have h0:=yE w g 0 _ t m' h;have L:=yE _ g 1 _ t i' h0;have O:=yE _ g 2 _ t e' L;have h3:=yE _ g 3 _ t c' O;simpa using h3
theorem ID.put{m' i' e' c':Φ}{k':AR}{B:Nat}{w1:Ω}(h:ID lo g w m i e c s l q P)(A:Γ w w w1)(hB:w.heap.size<=B)(bD:lo<=w.heap.size)(h2:Du B w1 m' i' e' c' k'):
 ID lo g ((((w1.setCell g m').setCell (g,1) i').setCell (g,2) e').setCell (g,3) c') m' i' e' c' s l q {P with V0:=k'}:=by
 have h':=h.below A;have fc:=Ar w1 g m' i' e' c';have O':=h2.yV fc h'.yU;have F:=h'.own.yV fc h'.yU;refine⟨KN h'.yU,h.yT,⟨O'.lower (yM bD hB),F.swp,F.low,F.pgs,λb bl bf=>?_⟩⟩;obtain⟨D,r1⟩:=h2.1;obtain⟨us,r2⟩:=h.own.swp;have:=(yC r1.1 b bl).1;have:=(yC r2.1 b bf).2;omega
end
def KI(lo:Nat)(b:Bool)(v:Φ)(w:Ω)(k:AR):Prop:=∃q,v=.pointer (some ⟨q,0,none⟩)/\lo<=q/\if b=true then ∃m i e c,w.heap[q]?=some (.cells #[m,i,e,c] 28 (0,0))/\Du lo w m i e c k else w.heap[q]?=some (.cells #[ι,ι,ι,ι] 28 (0,0))
theorem KI.below{b:Bool}(h:KI lo b v w k)(A:Γ w w w'):KI lo b v w' k:=by
 obtain⟨q,h0,L,O⟩:=h;refine⟨q,h0,L,?_⟩;cases b
 .exact AB O A
 obtain⟨m,i,e,c,h3,h4⟩:=O
 exact⟨m,i,e,c,AB h3 A,h4.below A⟩
def NP(lo:Nat)(v:Φ)(w:Ω)(k:AR)(x y:Int):Prop:=∃m i e c,v=.tuple #[.agg #[m,i,e,c],x,y]/\Du lo w m i e c k
def IM(lo:Nat)(v:Φ)(w:Ω)(k:AR):Prop:=∃m i e c,v=.agg #[m,i,e,c]/\Du lo w m i e c k
variable{x y:Int}
theorem NP.below (h:NP lo v w k x y)(A:Γ w w w'):NP lo v w' k x y:=by obtain⟨m,i,e,c,L,O⟩:=h;exact⟨m,i,e,c,L,O.below A⟩
theorem IM.below (h:IM lo v w k)(A:Γ w w w'):IM lo v w' k:=by obtain⟨m,i,e,c,L,O⟩:=h;exact⟨m,i,e,c,L,O.below A⟩
theorem NP.yV{fr:Nat×Nat}(h:NP lo v w k x y)(H:w.grownBy w' (some g))(hB:w.heap[g]?=some (.cells cs 28 fr)):NP lo v w' k x y:=by obtain⟨m,i,e,c,L,O⟩:=h;exact⟨m,i,e,c,L,O.yV H hB⟩
theorem IM.yV{fr:Nat×Nat}(h:IM lo v w k)(H:w.grownBy w' (some g))(hB:w.heap[g]?=some (.cells cs 28 fr)):IM lo v w' k:=by obtain⟨m,i,e,c,L,O⟩:=h;exact⟨m,i,e,c,L,O.yV H hB⟩
def Zi(lo g:Nat)(w:Ω)(s l q:Φ)(P:AP)(call:AT)(r:Ending)(w':Ω):Prop:=
 r=.returned (.int .i64 (Ad P.V0 call).2.1)/\(∃m i e c,ID lo g w' m i e c s l q {P with V0:=(Ad P.V0 call).1}/\Du w w' m i e c (Ad P.V0 call).1)/\Γ lo w w'/\w.grownBy w' (some g)
variable{P Q:AP}
theorem KG (h:ID lo g w mv iv ev cv sv lv qv P)(bD:lo<=w.heap.size)(hK:DZ P.V0)(call:AT)(he:0<=call.e)(hn:call.e<3)(fz:call.nm.size<=maxLen)(jk:call.c<=9223372036854775807):
 Ξ prog 34 #[.pointer g,.agg #[call.k,call.e,call.a,call.b,call.c,call.nm]] w (Zi lo g w sv lv qv P call):=by
 obtain⟨N0,b0⟩:=EU w (.cells #[call.k,call.e,call.a,call.b,call.c,call.nm] 34);have CC:=λW (E:Γ (w.alloc (.cells #[call.k,call.e,call.a,call.b,call.c,call.nm] 34)).heap.size (w.alloc (.cells #[call.k,call.e,call.a,call.b,call.c,call.nm] 34)) W)=>Rs mv iv ev cv P.V0 call W ((h.own.ker.rd.below b0).below E) hK he hn fz jk
 unfold Zi;have HI:=AA (h.below b0);have z:=AA (b0.mono bD);have fx:w.heap.size<(w.alloc (.cells #[call.k,call.e,call.a,call.b,call.c,call.nm] 34)).heap.size:=χ;generalize Ad P.V0 call=res at CC ⊢;obtain⟨kr,vr,nr⟩:=res;obtain⟨ck,ce,ca,cb,cc,nm⟩:=call;dsimp only at*;go_in;go_wp2_with fail;generalize w.alloc _=W0 at*;obtain⟨x0,x1,x2,x3,_⟩:=HI.cells;obtain⟨y0,y1,y2,y3,y4,y5⟩:=FE N0;have jZ:=AU HI.yU;have CC:=AA CC;clear N0;refine Db 14 23 (λix=>ix==11) [.p g 0,.p g 0,.p g 0,.a #[mv,iv,ev,cv],.a #[.int .i64 ck,.int .i64 ce,.int .i64 ca,.int .i64 cb,.int .i64 cc,.string nm],.z,.z,.z,.i vr,.i nr,.z,.z,.i vr,.i nr] (λll ix vv ww=>match ix with
  |5|6=>NP W0 vv ww kr vr nr
  |7=>IM W0 vv ww kr
  |10=>KI W0 (ll 11) vv ww kr
  |_=>True) (λll ww=>Γ W0 W0 ww) ?_ ?_ ?_ ?_ ?_ ?_
 .exact Ap (yN _ _) 1
 .intro j K ll i vv wz jo R hS qZ yo em hz
  match j,K with
  |5,_|6,_=>exact(NP.below hz em)
  |7,_=>exact(IM.below hz em)
  |10,_=>exact(KI.below (by rw[Fg (by rintro rfl;cases hS)];exact hz) em)
  |0,_|1,_|2,_|3,_|4,_|8,_|9,_|11,_|12,_|13,_=>exact hz
 .intro ll i wz jo R hS qZ em H
  exact H.trans (em.mono H.size)
 .intro i R hS o V a wx z ll J HL Y hj Z
  have bB:=bc Y jZ x0;have bp:=bc Y jZ x1;have bL:=bc Y jZ x2;have eL:=bc Y jZ x3;have fp:=bc Y fx y0;have lT:=bc Y fx y1;have lS:=bc Y fx y2;have lR:=bc Y fx y3;have lQ:=bc Y fx y4;have lP:=bc Y fx y5
  match i,R,hS with
  |0,_,_|1,_,_|2,_,_|12,_,_|13,_,_=>exact Xn V Z z J HL
  |3,_,_=>exact Lb V Z z J HL (hl:=P7 ‹_› ‹_› ‹_› ‹_›)
  |4,_,_=>exact Lb V Z z J HL (hl:=f9 ‹_› ‹_› ‹_› ‹_› ‹_› ‹_›)
  |5,_,_=>exact gy V Z z J HL (CC _ Y) (by rintro r w_ ⟨m',i',e',c',rfl,hO,bf⟩;exact⟨_,rfl,⟨m',i',e',c',rfl,hO.lower Y.size⟩,bf⟩)
  |11,_,hs=>cases hs
  |6,_,_=>clear bB bp bL eL fp lT lS lR lQ lP;obtain rfl:=yP V;have d5:NP W0 (a.tmps[14]?.getD Θ) wx kr vr nr:=Dc J HL 5;have mL:=Be HL 11;clear J z;refine yO ?_;go_simp;exact Z _ _ d5 (yN _ _)
  |7,_,_=>clear bB bp bL eL fp lT lS lR lQ lP;obtain rfl:=yP V;have d6:NP W0 (a.tmps[8]?.getD Θ) wx kr vr nr:=Dc J HL 6;have mL:=Be HL 11;clear J z;obtain⟨m',i',e',c',d6,hO⟩:=d6;refine yO ?_;go_simp;exact Z _ _ ⟨_,_,_,_,rfl,hO⟩ (yN _ _)
  |8,_,_|9,_,_=>clear bB bp bL eL fp lT lS lR lQ lP;obtain rfl:=yP V;have d6:NP W0 (a.tmps[8]?.getD Θ) wx kr vr nr:=Dc J HL 6;clear J z;obtain⟨m',i',e',c',d6,hO⟩:=d6;refine yO ?_;go_simp;exact Z _ _ rfl (yN _ _)
  |10,_,_=>clear bB bp bL eL fp lT lS lR lQ lP;obtain rfl:=yP V;have mL:=Be HL 11;clear J z;refine yO ?_;go_simp;exact Z _ _ ⟨_,rfl,Y.size,by rw[Fg ψ,mL];exact yx _ _⟩ (AJ _ _)
 .intro i R hS o V a wx z ll J HL Y hj Z
  match i,R,hS with
  |0,_,hs|1,_,hs|2,_,hs|3,_,hs|4,_,hs|5,_,hs|6,_,hs|7,_,hs|8,_,hs|9,_,hs|10,_,hs|12,_,hs|13,_,hs=>cases hs
  |11,_,_=>
   obtain rfl:=yP V;have mx:KI W0 (ll 11) (a.tmps[5]?.getD Θ) wx kr:=Dc J HL 10;have d7:IM W0 (a.tmps[15]?.getD Θ) wx kr:=Dc J HL 7;clear J z;obtain⟨qb,ri,jt,fy⟩:=mx;rw[HL.1] at fy;replace fy:wx.heap[qb]?=some (.cells #[ι,ι,ι,ι] 28 (0,0)):=fy;obtain⟨m',i',e',c',d7,hO⟩:=d7;obtain⟨⟨va,vn,vc,rfl⟩,⟨wa,wn,wc,rfl⟩,⟨xa,xn,xc,rfl⟩,⟨ya,yn,yc,rfl⟩⟩:=hO.Dq;obtain⟨c0,oe,c2,c3⟩:=AG fy;have fq:=AI fy;have fc:=AA (Ar wx qb (.slice va vn vc) (.slice wa wn wc) (.slice xa xn xc) (.slice ya yn yc));have ty:=AA ri;have Hq:=AA fy;have HO:=AA hO;clear fy hO;refine yO ?_;go_simp;exact Z Θ _ trivial (AM Y fc jt Y.size) (λj qC qA l4 hu=>match j,qA with
    |0,_|1,_|2,_|3,_|4,_|8,_|9,_|11,_|12,_|13,_=>hu
    |5,_|6,_=>NP.yV hu fc Hq.u
    |7,_=>IM.yV hu fc Hq.u
    |10,_=>⟨qb,ty.u,jt,by rw[Gh];exact⟨_,_,_,_,DF Hq.u,HO.yV fc Hq⟩⟩)
 intro D wx ll bs hR Y
 have kD:KI W0 (ll 11) (D 10) wx kr:=Bh hR 10;have jE:(D 12)=.int .i64 vr:=Bh hR 12;clear hR;simp only[DV,Bo,yL,yI,yJ,yH,jE];simp;generalize D 10=z10 at kD ⊢;clear jE;obtain⟨qb,rfl,jt,fy⟩:=kD;rw[bs 11 ψ,if_pos rfl] at fy;obtain⟨m',i',e',c',js,hO⟩:=fy;clear bs;obtain⟨⟨ma,mn,mc,rfl⟩,⟨ia,iN,ic,rfl⟩,⟨ea,en,ec,rfl⟩,⟨qa,qn,qc,rfl⟩⟩:=hO.Dq;obtain⟨c0,oe,c2,c3⟩:=AG js;have mi:=HI.below Y;have fg:=AI mi.yU;obtain⟨z0,z1,z2,z3,_⟩:=mi.cells;have hi:=AA (HI.put Y (yF _) (yM bD ω) hO);have R2:=AA ((hO.yV (Ar wx g (.slice ma mn mc) (.slice ia iN ic) (.slice ea en ec) (.slice qa qn qc)) mi.yU).lower (td fx));have B:=AA (AM (z.trans (Y.mono (yM bD ω))) (Ar wx g (.slice ma mn mc) (.slice ia iN ic) (.slice ea en ec) (.slice qa qn qc)) HI.yT (yM bD (yM ω Y.size)));have R3:=AA (AO ⟨b0.os,b0.tape,b0.output,b0.size,λk N _=>b0.block k N⟩ (AO ⟨Y.os,Y.tape,Y.output,Y.size,λk N _=>Y.block k N⟩ (Ar wx g (.slice ma mn mc) (.slice ia iN ic) (.slice ea en ec) (.slice qa qn qc))));clear mi hO js x0 x1 x2 x3 y0 y1 y2 y3 y4 y5;go_wp2;go_ret;exact⟨rfl,⟨_,_,_,_,hi.u,R2.u⟩,B.u,R3.u⟩
def Gs(k:AR):Prop:=JH k.Zh/\∀j,j<k.Xr.length->DQ (AH k.Xr j).Pj
def Xv(k:AR):Prop:=Gs k/\k.Zh.length<=12
theorem Pn (m i e c:Φ)(k:AR)(w:Ω)(h:Ns w m i e c k)(hs:Gs k):
 Ξ prog 49 #[.agg #[m,i,e,c]] w λe w'=>e=.returned (.bool (Cx k))/\Γ w w w':=by
 obtain⟨L,O,h3,h4⟩:=h;obtain⟨N0,br⟩:=EU w (.cells #[m,i,e,c] 28);have kU:=AU N0;replace L:=L.below br;replace O:=O.below br;replace h3:=h3.below br;replace h4:=h4.below br;have Hs:=AA hs;obtain⟨am,cm,rfl,_⟩:=L.open;obtain⟨ai,ci,rfl,_,_⟩:=O.shape;obtain⟨ae,ce,rfl,jj,qQ,pG⟩:=h3.open;obtain⟨ac,cc,rfl,jk,qS⟩:=h4.shape;obtain⟨x0,x1,x2,x3⟩:=AG N0;go_in;go_wp2_with fail;generalize w.alloc _=W0 at*;have bE:=AA br;have HN:=AA N0;have H1:=AA L;have H2:=AA O;have HE:=AA pG;have H4:=AA h4;have pq:=AA kU;clear hs h3 pG L O h4 N0 br;have C1:=AA (λW (E:Γ W0 W0 W)=>JD _ k.mem W (H1.below E));have C2:=AA (λW (E:Γ W0 W0 W)=>Dn _ k.Zh W (BK.below H2 E) Hs.1);have C3:=AA (λW (E:Γ W0 W0 W)=>Jn _ k.Xo W (BK.below H4 E));have A:=yN W0 W0;cases e1:By k.mem
 .have S:=AA (dD e1)
  have T:=AA e1;clear e1 x1 x2 x3;refine(C1 _ A).mono ?_;rintro e w1 ⟨rfl,bl⟩;rw[T.u];go_wp2;go_ret;exact⟨AF S.symm,bE.trans (bl.mono bE.size)⟩
 have T1:=AA e1
 clear e1 x0 x1 x2 x3 kU;refine(C1 _ A).mono ?_;rintro e w1 ⟨rfl,bl⟩;rw[T1.u];replace A:=bl;clear bl;have x1:=(AG (AB HN A)).2.1;go_wp2_with fail;cases e2:BG k.Zh
 .have S:=AA (YS e2)
  have T:=AA e2;clear e2;refine(C2 _ A).mono ?_;rintro e w1 ⟨rfl,bl⟩;rw[T.u];replace A:=A.trans (bl.mono A.size);go_wp2;go_ret;exact⟨AF S.symm,bE.trans (A.mono bE.size)⟩
 have T2:=AA e2
 clear e2 x1;refine(C2 _ A).mono ?_;rintro e w1 ⟨rfl,bl⟩;rw[T2.u];replace A:=A.trans (bl.mono A.size);clear bl;have x3:=(AG (AB HN A)).2.2.2;go_wp2_with fail;cases e3:Bk k.Xo
 .have S:=AA (YR e3)
  have T:=AA e3;clear e3;refine(C3 _ A).mono ?_;rintro e w1 ⟨rfl,bl⟩;rw[T.u];replace A:=A.trans (bl.mono A.size);go_wp2;go_ret;exact⟨AF S.symm,bE.trans (A.mono bE.size)⟩
 have T3:=AA e3
 clear e3 x3;refine(C3 _ A).mono ?_;rintro e w1 ⟨rfl,bl⟩;rw[T3.u];replace A:=A.trans (bl.mono A.size);clear bl;have x0:=(AG (AB HN A)).1;have x1:=(AG (AB HN A)).2.1;have x2:=(AG (AB HN A)).2.2.1
 by_cases e4:k.Xr.length=3
 .have T4:=AA e4
  have n4:((k.Xr.length:Int) !=3)=false:=η;have fa:=AA (A2.1 T2.u).1;have C:=AA (λW (E:Γ W0 W0 W)=>Wd _ _ k.mem k.Zh W (H1.below E) T1 (BK.below H2 E) fa.u);clear e4;go_wp2_with fail;refine(C _ A).mono ?_;rintro e w1 ⟨v',rfl,hO,bl⟩;rw[<-U1] at hO;replace hO:=Bb hO A.size;replace A:=A.trans (bl.mono A.size);clear bl x0 x1 x2;have x2:=(AG (AB HN A)).2.2.1;obtain⟨gr,gb,rfl,jr,lX⟩:=JM hO (by rw[EV];omega);have mg:eh (AE W0 w1 (.slice gr 12 gb) (FO k 0)):=AA (by have:=hO;rw[EV] at this;exact this);rw[EV];clear hO lX;go_wp2_with fail;have bl:=AA A;clear x2 A n4;go_loopw [43] (λi wr=>∃j:Nat,j<=k.Xr.length/\i=.int .i64 j/\(∀j',j'<j->EW k (AH k.Xr j')=true)/\AE W0 wr (.slice gr 12 gb) (FO k j)/\Γ W0 W0 wr) (λi _=>k.Xr.length - (intOf i).toNat)
  exact⟨0,yt _,rfl,λj K=>absurd K (xV _),mg.u,bl.u⟩
  obtain⟨j,K,rfl,ab,hO,av⟩:=hrel;have ad:=AA ab;clear ab
  by_cases ao:j<k.Xr.length
  .obtain⟨b,bx,ua,uc,rfl,cl,D0,D1,RR⟩:=HE j ao
   replace D0:=(av.cell (p:=⟨b,bx+j*2,none⟩) cl).trans D0;replace D1:=(av.cell (p:=⟨b,bx+j*2+1,none⟩) cl).trans D1;obtain⟨hk,iy⟩:=EU wr (.cells #[.slice ua (AH k.Xr j).Pj.length uc,.int .i64 (AH k.Xr j).root] 81);have HO:=AA (AE.below hO iy);have oQ:(j:Int)<k.Xr.length:=ω;have j3:j<3:=by have:=T4.u;omega
   have xd:=AA K;clear hO K;go_wp2_with fail;generalize wr.alloc _=wa at*;have f8:=av.trans (iy.mono av.size);have y0:wa.cell? wr=some (.slice ua (AH k.Xr j).Pj.length uc):=yy _ _ 0 _ _ _ hk;have y1:wa.cell? (wr,1)=some (.int .i64 (AH k.Xr j).root):=yy _ _ 1 _ _ _ hk;have iX:=AU hk;have f7:=yu pq f8.size;have x0:=(AG (AB HN f8)).1;have x1:=(AG (AB HN f8)).2.1;have bY:=AA f8;have HR:=AA RR;clear D0 D1 hk iy av f8 RR;have kA:=λW (E:Γ wa wa W)=>H5 _ (AH k.Xr j).Pj W (BK.below (BK.below HR bY.u) E) (Hs.2 j ao)
   cases e5:BW (AH k.Xr j).Pj
   .rw[e5] at kA
    have CR:=AA kA;have CF:=AA True.intro;have S:=AA (Oi ao (show EW k (AH k.Xr j)=false by simp[EW,e5]));clear kA e5;refine Ac 35 170 [.p wr.heap.size 0,.v (.slice ua (AH k.Xr j).Pj.length uc),.b false,.b true,.b true,.u,.u,.u,.u,.u,.u,.u,.u,.u,.u,.u,.u,.u,.u,.u,.u,.u,.u,.u,.b true,.b true,.u,.u,.u,.u,.u,.u,.u,.u,.u] (λ_ _ _=>True) ?_ ?_
    .intro i R o V a wx z J Y hj Z
     match i,R with
     |0,_|3,_|4,_|24,_|25,_=>exact sP V Z z J
     |1,_=>exact sL V Z z J (hl:=Kt (bc Y iX y0))
     |2,_=>exact sD V Z z J (CR _ Y)
     |5,_|6,_|7,_|8,_|9,_|10,_|12,_|13,_|14,_|15,_|16,_|17,_|18,_|19,_|20,_|21,_|22,_|23,_|26,_|27,_|28,_|29,_|30,_|31,_|32,_|33,_|34,_=>exact sB V Z J
     |11,_=>obtain rfl:=yP V;have d8:(a.tmps[55]?.getD Θ)=Θ:=Bc J 8;clear J z;exact AZ.un rfl rfl d8 (Z _ _ rfl (yN _ _))
     |_+35,hq=>omega
    intro D wx hR Y
    have hX:(D 25)=.bool true:=Bh hR 25;have hQ:(D 34)=Θ:=Bh hR 34;clear hR;simp only[Ai,Ae,yL,yI,yJ,yH,hX,hQ];simp;clear hX hQ;have bK:=bY.trans (Y.mono bY.size);clear Y;go_wp2;go_ret;exact⟨AF S.symm,bE.trans (bK.mono bE.size)⟩
   rw[e5] at kA
   have CR:=AA kA;have E5:=AA e5;clear kA e5
   by_cases e6:(AH k.Xr j).root= -1
   .have E6:=AA e6
    have t6:((AH k.Xr j).root != -1)=false:=by simp[e6]
    rw[e6] at y1;have vu:((-1:Int) != -1)=false:=rfl;have CF:=AA True.intro;have CX:=AA (λW (E:Γ wa wa W)=>Qk _ k.mem (-1) W ((H1.below bY.u).below E) ω);have jP:=x1;have CA:=AA (λW (E:Γ wa wa W) v2 ts (O:A1 W v2 (A5 ts)) (hm:∀g,g∈ts↔g∈Bg k.mem (-1))=>JZ w _ v2 _ (AH k.Xr j).Pj ts k.Zh W ((E.cell (p:=⟨w,1,none⟩) f7).trans jP) (BK.below (BK.below HR bY.u) E) (BK.below (BK.below H2 bY.u) E) O (λf hf=>by have:=(Dz.1 ((hm f).1 hf)).1;omega));clear jP e6;replace CA:=AA (λW (E:Γ wa wa W) v2 ts (O:A1 W v2 (A5 ts)) (hm:∀g,g∈ts↔g∈Bg k.mem (-1))=>by have:=CA W E v2 ts O hm;rw[Fp hm] at this;exact this);have ku:eh (BM k.Zh (Bg k.mem (-1)) (AH k.Xr j).Pj=true):=AA (by simp[BM,Bg]);rw[ku.u] at CA;have S:=AA (show EW k (AH k.Xr j)=true by simp only[EW,E5.u,E6.u,ku.u];rfl);have h1:=AA (ZV ao (show(AH k.Xr j).root<0 by rw[E6.u];omega));clear ku;refine A9 35 170 [.p wr.heap.size 0,.v (.slice ua (AH k.Xr j).Pj.length uc),.b true,.b false,.b false,.p wr.heap.size 1,.i (-1),.b false,.b false,.u,.u,.u,.u,.u,.u,.u,.u,.u,.u,.u,.u,.u,.u,.b false,.b false,.b false,.p wr.heap.size 0,.v (.slice ua (AH k.Xr j).Pj.length uc),.p w.heap.size 0,.v (.slice am k.mem.length cm),.p wr.heap.size 1,.i (-1),.z,.b true,.b false] (λix vv ww=>match ix with
     |32=>FV wa k.mem (-1) ww vv
     |_=>True) ?_ ?_ ?_
    .intro i R o V a wx z J Y hj Z
     have bB:=bc Y iX y0;have bp:=bc Y iX y1;have bL:=bc Y f7 x0
     match i,R with
     |0,_|3,_|4,_|5,_|8,_|23,_|24,_|25,_|26,_|28,_|30,_|34,_=>exact sP V Z z J
     |1,_|27,_=>exact sL V Z z J (hl:=Kt ‹_›)
     |2,_=>exact sD V Z z J (CR _ Y)
     |6,_|31,_=>exact sL V Z z J (hl:=GO ‹_›)
     |9,_|10,_|12,_|13,_|14,_|15,_|16,_|17,_|18,_|19,_|20,_|21,_|22,_=>exact sB V Z J
     |29,_=>exact sL V Z z J (hl:=GZ ‹_›)
     |32,_=>exact sC V Z z J (CX _ Y) (by rintro e w_ ⟨v',ts,rfl,hO,ez,_,bf⟩;exact⟨_,rfl,⟨ts,Bb hO Y.size,ez⟩,bf⟩)
     |7,_=>clear bB bp bL;obtain rfl:=yP V;have d6:(a.tmps[53]?.getD Θ)=.int .i64 (-1):=Bc J 6;have d4:(a.tmps[51]?.getD Θ)=.bool false:=Bc J 4;clear J z;refine AZ.yes rfl rfl d4 ?_;go_simp;exact Z _ _ rfl (yN _ _)
     |11,_=>clear bB bp bL;obtain rfl:=yP V;have d8:(a.tmps[55]?.getD Θ)=.bool false:=Bc J 8;clear J z;exact AZ.no rfl rfl d8 (Z _ _ rfl (yN _ _))
     |33,_=>clear bB bp bL;obtain rfl:=yP V;have e1:a.tmps[1]?.getD Θ=.pointer w:=eg (No z 1);have rj:(a.tmps[74]?.getD Θ)=.slice ua (AH k.Xr j).Pj.length uc:=Bc J 27;have lp:FV wa k.mem (-1) wx (a.tmps[79]?.getD Θ):=Bc J 32;have oc:(a.tmps[72]?.getD Θ)=.bool false:=Bc J 25;clear J z;generalize e79:a.tmps[79]?.getD Θ=v2 at lp;obtain⟨ts,hO,ez⟩:=lp;have oz:=CA wx Y v2 ts (AE.rd hO) ez;refine AZ.yes rfl rfl oc ?_;go_simp;refine oz.mono ?_;rintro e w_ ⟨rfl,bf⟩;exact Z _ _ rfl bf
     |_+35,hq=>omega
    .intro i R vv wz jo em hz
     match i,R with
     |32,_=>exact(FV.below hz em)
     |0,_|1,_|2,_|3,_|4,_|5,_|6,_|7,_|8,_|9,_|10,_|11,_|12,_|13,_|14,_|15,_|16,_|17,_|18,_|19,_|20,_|21,_|22,_|23,_|24,_|25,_|26,_|27,_|28,_|29,_|30,_|31,_|33,_|34,_=>exact hz
     |_+35,hq=>omega
    intro D wx hR Y
    have hX:(D 25)=.bool false:=Bh hR 25;have hQ:(D 34)=.bool false:=Bh hR 34;clear hR;simp only[Ai,Ae,yL,yI,yJ,yH,hX,hQ];simp;clear hX hQ;have bK:=bY.trans (Y.mono bY.size);replace y1:=(Y.cell (p:=⟨wr,1,none⟩) iX).trans y1;have hC:=AA (AE.below HO Y);clear Y x0 x1 y0;go_wp2;go_roundw;exact⟨j+1,ω,ξ,Am ad S.u,by rw[h1.u];exact hC.u,bK⟩;simp[intOf];omega
   have t6:((AH k.Xr j).root != -1)=true:=by simp[e6]
   have kg:=λW (_:Γ wa wa W)=>A4 (Dy (AH k.Xr j).root W)
   cases e7:Bj (AH k.Xr j).root 0 11
   .rw[e7] at kg
    have CF:=AA kg;have S:=AA (Oi ao (show EW k (AH k.Xr j)=false by simp[EW,e6,e7]));clear kg e6 e7;refine Ac 35 170 [.p wr.heap.size 0,.v (.slice ua (AH k.Xr j).Pj.length uc),.b true,.b false,.b false,.p wr.heap.size 1,.i ((AH k.Xr j).root),.b true,.b true,.p wr.heap.size 1,.i ((AH k.Xr j).root),.b false,.b true,.b true,.u,.u,.u,.u,.u,.u,.u,.u,.b true,.b true,.b true,.b true,.u,.u,.u,.u,.u,.u,.u,.u,.u] (λ_ _ _=>True) ?_ ?_
    .intro i R o V a wx z J Y hj Z
     have bB:=bc Y iX y0;have bp:=bc Y iX y1
     match i,R with
     |0,_|3,_|4,_|5,_|8,_|9,_|12,_|13,_|22,_|23,_|24,_|25,_=>exact sP V Z z J
     |1,_=>exact sL V Z z J (hl:=Kt ‹_›)
     |2,_=>exact sD V Z z J (CR _ Y)
     |6,_|10,_=>exact sL V Z z J (hl:=GO ‹_›)
     |11,_=>exact sD V Z z J (CF _ Y)
     |14,_|15,_|16,_|17,_|18,_|19,_|20,_|21,_|26,_|27,_|28,_|29,_|30,_|31,_|32,_|33,_|34,_=>exact sB V Z J
     |7,_=>clear bB bp;obtain rfl:=yP V;have d6:(a.tmps[53]?.getD Θ)=.int .i64 ((AH k.Xr j).root):=Bc J 6;have d4:(a.tmps[51]?.getD Θ)=.bool false:=Bc J 4;clear J z;refine AZ.yes rfl rfl d4 ?_;go_simp;exact Z _ _ rfl (yN _ _)
     |_+35,hq=>omega
    intro D wx hR Y
    have hX:(D 25)=.bool true:=Bh hR 25;have hQ:(D 34)=Θ:=Bh hR 34;clear hR;simp only[Ai,Ae,yL,yI,yJ,yH,hX,hQ];simp;clear hX hQ;have bK:=bY.trans (Y.mono bY.size);clear Y;go_wp2;go_ret;exact⟨AF S.symm,bE.trans (bK.mono bE.size)⟩
   rw[e7] at kg
   obtain⟨r,hr⟩:∃r:Nat,(AH k.Xr j).root=(r:Int):=⟨(AH k.Xr j).root.toNat,by have:=(Aa.1 e7).1;omega⟩
   have g4:r<12:=by have:=(Aa.1 e7).2;omega
   have E7:=AA (yj e6 e7);rw[hr] at kg t6 y1;have CF:=AA kg;have Hr:=AA hr;clear kg e6 e7 hr;have qm:(r:Int)<k.Zh.length:=by have:=fa.u;omega
   obtain⟨a9,c9,ev,_,_,lL⟩:=BK.open Az ψ (BK.below H2 bY.u);cases ev;obtain⟨bi,be,rfl,fk,n5,_,_⟩:=lL.zZ (show r<k.Zh.length by have:=fa.u;omega);clear lL
   by_cases e8:(JR k.Zh r).k=3
   .have t8:((JR k.Zh r).k !=3)=false:=by simp[e8]
    have CX:=AA (λW (E:Γ wa wa W)=>Qj _ k.mem r W ((H1.below bY.u).below E) T1 g4);have jP:=x1;have CA:=AA (λW (E:Γ wa wa W) v2 ts (O:A1 W v2 (A5 ts)) (hm:∀g,g∈ts↔g∈Bg k.mem (r:Int))=>by have:=JZ w _ v2 _ (AH k.Xr j).Pj ts k.Zh W ((E.cell (p:=⟨w,1,none⟩) f7).trans jP) (BK.below (BK.below HR bY.u) E) (BK.below (BK.below H2 bY.u) E) O (λf hf=>by have:=zG (root:=(r:Int)) ω f ((hm f).1 hf);have:=fa.u;omega);rw[Fp hm] at this;exact this);clear jP;have E8:=AA e8;clear e8;generalize ku:BM k.Zh (Bg k.mem (r:Int)) (AH k.Xr j).Pj=bb at CA;have pI:=AA ku;clear ku;refine A9 35 170 [.p wr.heap.size 0,.v (.slice ua (AH k.Xr j).Pj.length uc),.b true,.b false,.b false,.p wr.heap.size 1,.i ((r:Int)),.b true,.b true,.p wr.heap.size 1,.i ((r:Int)),.b true,.b false,.b false,.p w.heap.size 1,.v (.slice (some ⟨bi,be,none⟩) k.Zh.length ci),.p wr.heap.size 1,.i ((r:Int)),.p bi (be+r*3),.p bi (be+r*3),.i ((JR k.Zh r).k),.b false,.b false,.b false,.b false,.b false,.p wr.heap.size 0,.v (.slice ua (AH k.Xr j).Pj.length uc),.p w.heap.size 0,.v (.slice am k.mem.length cm),.p wr.heap.size 1,.i ((r:Int)),.z,.b bb,.b (!bb)] (λix vv ww=>match ix with
     |32=>FV wa k.mem ((r:Int)) ww vv
     |_=>True) ?_ ?_ ?_
    .intro i R o V a wx z J Y hj Z
     have bB:=bc Y iX y0;have bp:=bc Y iX y1;have bL:=bc Y f7 x1;have eL:=bc Y fk n5;have fp:=bc Y f7 x0
     match i,R with
     |0,_|3,_|4,_|5,_|8,_|9,_|12,_|13,_|14,_|16,_|19,_|22,_|23,_|24,_|25,_|26,_|28,_|30,_|34,_=>exact sP V Z z J
     |1,_|27,_=>exact sL V Z z J (hl:=Kt ‹_›)
     |2,_=>exact sD V Z z J (CR _ Y)
     |6,_|10,_|17,_|20,_|31,_=>exact sL V Z z J (hl:=GO ‹_›)
     |11,_=>exact sD V Z z J (CF _ Y)
     |15,_=>exact sL V Z z J (hl:=Gt ‹_›)
     |18,_=>exact sI V Z z J (hr:=by clear J z Z;go_simp)
     |29,_=>exact sL V Z z J (hl:=GZ ‹_›)
     |32,_=>exact sC V Z z J (CX _ Y) (by rintro e w_ ⟨v',ts,rfl,hO,ez,_,bf⟩;exact⟨_,rfl,⟨ts,Bb hO Y.size,ez⟩,bf⟩)
     |7,_=>clear bB bp bL eL fp;obtain rfl:=yP V;have d6:(a.tmps[53]?.getD Θ)=.int .i64 r:=Bc J 6;have d4:(a.tmps[51]?.getD Θ)=.bool false:=Bc J 4;clear J z;refine AZ.yes rfl rfl d4 ?_;go_simp;exact Z _ _ rfl (yN _ _)
     |21,_=>clear bB bp bL eL fp;obtain rfl:=yP V;have rm:(a.tmps[67]?.getD Θ)=.int .i64 ((JR k.Zh r).k):=Bc J 20;have mu:(a.tmps[60]?.getD Θ)=.bool false:=Bc J 13;clear J z;refine AZ.yes rfl rfl mu ?_;go_simp;exact Z _ _ rfl (yN _ _)
     |33,_=>clear bB bp bL eL fp;obtain rfl:=yP V;have e1:a.tmps[1]?.getD Θ=.pointer w:=eg (No z 1);have rj:(a.tmps[74]?.getD Θ)=.slice ua (AH k.Xr j).Pj.length uc:=Bc J 27;have lp:FV wa k.mem ((r:Int)) wx (a.tmps[79]?.getD Θ):=Bc J 32;have oc:(a.tmps[72]?.getD Θ)=.bool false:=Bc J 25;clear J z;generalize e79:a.tmps[79]?.getD Θ=v2 at lp;obtain⟨ts,hO,ez⟩:=lp;have oz:=CA wx Y v2 ts (AE.rd hO) ez;refine AZ.yes rfl rfl oc ?_;go_simp;refine oz.mono ?_;rintro e w_ ⟨rfl,bf⟩;exact Z _ _ rfl bf
     |_+35,hq=>omega
    .intro i R vv wz jo em hz
     match i,R with
     |32,_=>exact(FV.below hz em)
     |0,_|1,_|2,_|3,_|4,_|5,_|6,_|7,_|8,_|9,_|10,_|11,_|12,_|13,_|14,_|15,_|16,_|17,_|18,_|19,_|20,_|21,_|22,_|23,_|24,_|25,_|26,_|27,_|28,_|29,_|30,_|31,_|33,_|34,_=>exact hz
     |_+35,hq=>omega
    intro D wx hR Y
    have hX:(D 25)=.bool false:=Bh hR 25;have hQ:(D 34)=.bool (!bb):=Bh hR 34;clear hR;simp only[Ai,Ae,yL,yI,yJ,yH,hX,hQ];simp;clear hX hQ;have bK:=bY.trans (Y.mono bY.size);replace y1:=(Y.cell (p:=⟨wr,1,none⟩) iX).trans y1;have hC:=AE.below HO Y;clear Y x0 x1 y0 n5;cases bb
    .have S:=AA (Oi ao (show EW k (AH k.Xr j)=false by simp only[EW,Hr.u,pI.u,Bool.and_false]))
     clear hC;go_wp2;go_ret;exact⟨AF S.symm,bE.trans (bK.mono bE.size)⟩
    have S:=AA (show EW k (AH k.Xr j)=true by
     have e7:=E7.2;rw[Hr.u] at e7;simp only[EW,E5.u,Hr.u,pI.u,e7,yq,E8.u];simp)
    have h1:=AA (XU ao Hr g4);obtain⟨s1,s2⟩:=TI (k:=k) (j:=j) T1 T4 g4;have bC:wx.ownsRow W0.heap.size 3 1 (.slice gr 12 gb) 12 ((FO k j).map (yl .i64)):=by have:=hC;unfold AE at this;rwa [EV] at this
    have C:=(bC.cellAt r ω).trans (GX (xs:=FO k j) (by rw[EV];exact g4));have Fr:=bC.frozenAt r;have S2:=AA (bC.stored r (.int .i64 (nth (FO k j) r+1)));have r0:(0:Int)<=r:=ω;have v4:(r:Int)<12:=ω;have qF:=jr;have pt:eh (W0.heap.size<=gr):=AA (bC.lt gr rfl).1;clear hC bC;generalize nth (FO k j) r=nn at*;go_wp2;go_roundw
    case rel=>refine⟨j+1,ω,ξ,Am ad S.u,?_,AM bK S2.2 pt bK.size⟩;rw[h1.u];unfold AE;rw[yh,EV,vf];exact S2.1
    case measure=>simp[intOf];omega
   have t8:((JR k.Zh r).k !=3)=true:=by simp[e8]
   have S:=AA (Oi ao (show EW k (AH k.Xr j)=false by simp[EW,Hr.u,e8]));clear e8;refine Ac 35 170 [.p wr.heap.size 0,.v (.slice ua (AH k.Xr j).Pj.length uc),.b true,.b false,.b false,.p wr.heap.size 1,.i ((r:Int)),.b true,.b true,.p wr.heap.size 1,.i ((r:Int)),.b true,.b false,.b false,.p w.heap.size 1,.v (.slice (some ⟨bi,be,none⟩) k.Zh.length ci),.p wr.heap.size 1,.i ((r:Int)),.p bi (be+r*3),.p bi (be+r*3),.i ((JR k.Zh r).k),.b true,.b true,.b true,.b true,.b true,.u,.u,.u,.u,.u,.u,.u,.u,.u] (λ_ _ _=>True) ?_ ?_
   .intro i R o V a wx z J Y hj Z
    have bB:=bc Y iX y0;have bp:=bc Y iX y1;have bL:=bc Y f7 x1;have eL:=bc Y fk n5
    match i,R with
    |0,_|3,_|4,_|5,_|8,_|9,_|12,_|13,_|14,_|16,_|19,_|22,_|23,_|24,_|25,_=>exact sP V Z z J
    |1,_=>exact sL V Z z J (hl:=Kt ‹_›)
    |2,_=>exact sD V Z z J (CR _ Y)
    |6,_|10,_|17,_|20,_=>exact sL V Z z J (hl:=GO ‹_›)
    |11,_=>exact sD V Z z J (CF _ Y)
    |15,_=>exact sL V Z z J (hl:=Gt ‹_›)
    |18,_=>exact sI V Z z J (hr:=by clear J z Z;go_simp)
    |26,_|27,_|28,_|29,_|30,_|31,_|32,_|33,_|34,_=>exact sB V Z J
    |7,_=>clear bB bp bL eL;obtain rfl:=yP V;have d6:(a.tmps[53]?.getD Θ)=.int .i64 r:=Bc J 6;have d4:(a.tmps[51]?.getD Θ)=.bool false:=Bc J 4;clear J z;refine AZ.yes rfl rfl d4 ?_;go_simp;exact Z _ _ rfl (yN _ _)
    |21,_=>clear bB bp bL eL;obtain rfl:=yP V;have rm:(a.tmps[67]?.getD Θ)=.int .i64 ((JR k.Zh r).k):=Bc J 20;have mu:(a.tmps[60]?.getD Θ)=.bool false:=Bc J 13;clear J z;refine AZ.yes rfl rfl mu ?_;go_simp;exact Z _ _ rfl (yN _ _)
    |_+35,hq=>omega
   intro D wx hR Y
   have hX:(D 25)=.bool true:=Bh hR 25;have hQ:(D 34)=Θ:=Bh hR 34;clear hR;simp only[Ai,Ae,yL,yI,yJ,yH,hX,hQ];simp;clear hX hQ;have bK:=bY.trans (Y.mono bY.size);clear Y;go_wp2;go_ret;exact⟨AF S.symm,bE.trans (bK.mono bE.size)⟩
  obtain rfl:j=k.Xr.length:=ω;have pE:=AA (λj (K:j<3)=>ad j (by have:=T4.u;omega));have qY:eh (AE W0 wr (.slice gr 12 gb) (FO k 3)):=AA (by have:=hO;rwa [T4.u] at this);have x1:=(AG (AB HN av)).2.1;have pt:eh (gr<wr.heap.size):=AA (yC hO gr rfl).2;have bf:=AA av;clear hO av ad;go_wp2_with fail;clear x1;obtain⟨wq,rfl⟩:∃wq:Ω,wq=wr:=⟨_,rfl⟩
  go_loopw [97] (λi wr=>∃f:Nat,f<=k.Zh.length/\i=.int .i64 f/\(∀f',f'<f->EC k f'=true/\If k f'=true)/\AE W0 wr (.slice gr 12 gb) (FO k 3)/\Γ W0 W0 wr) (λi _=>k.Zh.length - (intOf i).toNat)
  exact⟨0,yt _,rfl,λj K=>absurd K (xV _),qY.u,bf.u⟩
  obtain⟨f,hf,rfl,ab,hO,av⟩:=hrel;have ad:=AA ab;clear ab
  by_cases ao:f<k.Zh.length
  .obtain⟨a9,c9,ev,_,_,lL⟩:=BK.open Az ψ (BK.below H2 av)
   cases ev;obtain⟨bi,be,rfl,fk,D0,D1,D2⟩:=lL.zZ ao;obtain⟨hk,iy⟩:=EU wr (.cells #[.int .i64 (JR k.Zh f).k,.string (JR k.Zh f).g,.int .i64 (JR k.Zh f).r] 115);have HO:=AA (AE.below hO iy);have oQ:(f:Int)<k.Zh.length:=ω
   have el:f<12:=by have:=fa.u;omega
   have io:(f:Int)<12:=ω;clear hO lL;go_wp2_with fail;generalize wr.alloc _=wa at*;have f8:=av.trans (iy.mono av.size);have y0:wa.cell? wr=some (.int .i64 (JR k.Zh f).k):=yy _ _ 0 _ _ _ hk;have y2:wa.cell? (wr,2)=some (.int .i64 (JR k.Zh f).r):=yy _ _ 2 _ _ _ hk;have kX:=AU hk;have f7:=yu pq f8.size;have x0:=(AG (AB HN f8)).1;have x1:=(AG (AB HN f8)).2.1;have bC:wa.ownsRow W0.heap.size 3 1 (.slice gr 12 gb) 12 ((FO k 3).map (yl .i64)):=by have:=HO.u;unfold AE at this;rwa [EV] at this
   have lm:=(bC.cellAt f ω).trans (GX (xs:=FO k 3) (by rw[EV];exact el));have fc:=(bC.lt gr rfl).2;have bY:=AA f8;have hM:=λW (_:Γ wa wa W)=>A4 (GR (JR k.Zh f).k W)
   clear D0 D1 D2 hk iy av f8 bC;cases e5:Bp (JR k.Zh f).k
   .rw[e5] at hM
    have CT:=AA hM;have TB:=AA (show EC k f=true by simp[EC,e5]);clear hM e5;refine Ac 23 170 [.p wr.heap.size 0,.i ((JR k.Zh f).k),.b false,.b false,.u,.u,.u,.u,.u,.u,.u,.u,.u,.u,.b false,.b false,.p wr.heap.size 2,.i ((JR k.Zh f).r),.s gr 12 gb,.i ((f:Int)),.p gr f,.i (nth (FO k 3) f),.b ((JR k.Zh f).r !=nth (FO k 3) f)] (λ_ _ _=>True) ?_ ?_
    .intro i R o V a wx z J Y hj Z
     have bB:=bc Y kX y0;have bp:=bc Y kX y2;have bL:=bc Y fc lm
     match i,R with
     |0,_|3,_|14,_|15,_|16,_|18,_|19,_=>exact sP V Z z J
     |1,_|17,_|21,_=>exact sL V Z z J (hl:=GO ‹_›)
     |2,_=>exact sD V Z z J (CT _ Y)
     |4,_|5,_|6,_|7,_|8,_|9,_|10,_|11,_|12,_|13,_=>exact sB V Z J
     |20,_=>exact sI V Z z J (hr:=by clear J z Z;go_simp)
     |22,_=>clear bB bp bL;obtain rfl:=yP V;have ro:(a.tmps[119]?.getD Θ)=.int .i64 ((JR k.Zh f).r):=Bc J 17;have rk:(a.tmps[123]?.getD Θ)=.int .i64 (nth (FO k 3) f):=Bc J 21;have mt:(a.tmps[117]?.getD Θ)=.bool false:=Bc J 15;clear J z;refine AZ.yes rfl rfl mt ?_;go_simp;exact Z _ _ rfl (yN _ _)
     |_+23,hq=>omega
    intro D wx hR Y
    have jC:(D 15)=.bool false:=Bh hR 15;have jB:(D 22)=.bool ((JR k.Zh f).r !=nth (FO k 3) f):=Bh hR 22;clear hR;simp only[Ai,Ae,yL,yI,yJ,yH,jC,jB];simp;clear jC jB;have bK:=bY.trans (Y.mono bY.size);have hC:=AA (AE.below HO Y);clear Y x0 x1 y0 y2 lm;have RL:=TH (k:=k) T4 el;cases dg:((JR k.Zh f).r !=nth (FO k 3) f)
    .have S1:=AA (show If k f=true by rw[RL];simpa using dg)
     clear RL;go_wp2;go_roundw;exact⟨f+1,ω,ξ,Am ad ⟨TB.u,S1.u⟩,hC.u,bK⟩;simp[intOf];omega
    have S:=AA (Ww el (show If k f=false by rw[RL];simpa using dg))
    clear RL;go_wp2;go_ret;exact⟨AF S.symm,bE.trans (bK.mono bE.size)⟩
   rw[e5] at hM
   have CT:=AA hM;have it:=λW (E:Γ wa wa W) v2 (O:BY W v2 [⟨#[]⟩])=>Wp _ _ v2 k.mem k.Zh f (JR k.Zh f).k [⟨#[]⟩] W ((H1.below bY.u).below E) T1 (BK.below (BK.below H2 bY.u) E) fa el e5 O
   cases e6:JB k.mem k.Zh f (JR k.Zh f).k [⟨#[]⟩]
   .rw[e6] at it
    have CG:=AA it;have S:=AA (dE el (show EC k f=false by simp[EC,e5,e6]));clear hM e5 it e6;refine A9 23 170 [.p wr.heap.size 0,.i ((JR k.Zh f).k),.b true,.b true,.p w.heap.size 0,.v (.slice am k.mem.length cm),.p w.heap.size 1,.v (.slice (some ⟨bi,be,none⟩) k.Zh.length ci),.i ((f:Int)),.p wr.heap.size 0,.i ((JR k.Zh f).k),.z,.b false,.b true,.b true,.b true,.u,.u,.u,.u,.u,.u,.u] (λix vv ww=>match ix with
     |11=>BY ww vv [⟨#[]⟩]
     |_=>True) ?_ ?_ ?_
    .intro i R o V a wx z J Y hj Z
     have bB:=bc Y kX y0;have bp:=bc Y f7 x0;have bL:=bc Y f7 x1
     match i,R with
     |0,_|3,_|4,_|6,_|8,_|9,_|13,_|14,_|15,_=>exact sP V Z z J
     |1,_|10,_=>exact sL V Z z J (hl:=GO ‹_›)
     |2,_=>exact sD V Z z J (CT _ Y)
     |5,_=>exact sL V Z z J (hl:=GZ ‹_›)
     |7,_=>exact sL V Z z J (hl:=Gt ‹_›)
     |16,_|17,_|18,_|19,_|20,_|21,_|22,_=>exact sB V Z J
     |11,_=>clear bB bp bL;obtain rfl:=yP V;have d3:(a.tmps[105]?.getD Θ)=.bool true:=Bc J 3;clear J z;refine AZ.yes rfl rfl d3 ?_;go_simp;exact Z _ _ (Rd.news _ #[.string ⟨#[]⟩] _ 1 1 rfl ζ) (AJ _ _)
     |12,_=>clear bB bp bL;obtain rfl:=yP V;have d5:(a.tmps[107]?.getD Θ)=.slice am k.mem.length cm:=Bc J 5;have d7:(a.tmps[109]?.getD Θ)=.slice (some ⟨bi,be,none⟩) k.Zh.length ci:=Bc J 7;have d8:(a.tmps[110]?.getD Θ)=.int .i64 f:=Bc J 8;have mx:(a.tmps[112]?.getD Θ)=.int .i64 ((JR k.Zh f).k):=Bc J 10;have jw:BY wx (a.tmps[113]?.getD Θ) [⟨#[]⟩]:=Bc J 11;have d3:(a.tmps[105]?.getD Θ)=.bool true:=Bc J 3;clear J z;generalize e113:a.tmps[113]?.getD Θ=v2 at jw;have kf:=CG wx Y v2 jw;refine AZ.yes rfl rfl d3 ?_;go_simp;refine kf.mono ?_;rintro e w_ ⟨rfl,bf⟩;exact Z _ _ rfl bf
     |_+23,hq=>omega
    .intro i R vv wz jo em hz
     match i,R with
     |11,_=>exact(BK.below hz em)
     |0,_|1,_|2,_|3,_|4,_|5,_|6,_|7,_|8,_|9,_|10,_|12,_|13,_|14,_|15,_|16,_|17,_|18,_|19,_|20,_|21,_|22,_=>exact hz
     |_+23,hq=>omega
    intro D wx hR Y
    have jC:(D 15)=.bool true:=Bh hR 15;have jB:(D 22)=Θ:=Bh hR 22;clear hR;simp only[Ai,Ae,yL,yI,yJ,yH,jC,jB];simp;clear jC jB;have bK:=bY.trans (Y.mono bY.size);clear Y x0 x1 y0 y2 lm;go_wp2;go_ret;exact⟨AF S.symm,bE.trans (bK.mono bE.size)⟩
   rw[e6] at it
   have CG:=AA it;have TB:=AA (show EC k f=true by simp[EC,e6]);clear hM e5 it e6;refine A9 23 170 [.p wr.heap.size 0,.i ((JR k.Zh f).k),.b true,.b true,.p w.heap.size 0,.v (.slice am k.mem.length cm),.p w.heap.size 1,.v (.slice (some ⟨bi,be,none⟩) k.Zh.length ci),.i ((f:Int)),.p wr.heap.size 0,.i ((JR k.Zh f).k),.z,.b true,.b false,.b false,.b false,.p wr.heap.size 2,.i ((JR k.Zh f).r),.s gr 12 gb,.i ((f:Int)),.p gr f,.i (nth (FO k 3) f),.b ((JR k.Zh f).r !=nth (FO k 3) f)] (λix vv ww=>match ix with
    |11=>BY ww vv [⟨#[]⟩]
    |_=>True) ?_ ?_ ?_
   .intro i R o V a wx z J Y hj Z
    have bB:=bc Y kX y0;have bp:=bc Y f7 x0;have bL:=bc Y f7 x1;have eL:=bc Y kX y2;have fp:=bc Y fc lm
    match i,R with
    |0,_|3,_|4,_|6,_|8,_|9,_|13,_|14,_|15,_|16,_|18,_|19,_=>exact sP V Z z J
    |1,_|10,_|17,_|21,_=>exact sL V Z z J (hl:=GO ‹_›)
    |2,_=>exact sD V Z z J (CT _ Y)
    |5,_=>exact sL V Z z J (hl:=GZ ‹_›)
    |7,_=>exact sL V Z z J (hl:=Gt ‹_›)
    |20,_=>exact sI V Z z J (hr:=by clear J z Z;go_simp)
    |11,_=>clear bB bp bL eL fp;obtain rfl:=yP V;have d3:(a.tmps[105]?.getD Θ)=.bool true:=Bc J 3;clear J z;refine AZ.yes rfl rfl d3 ?_;go_simp;exact Z _ _ (Rd.news _ #[.string ⟨#[]⟩] _ 1 1 rfl ζ) (AJ _ _)
    |12,_=>clear bB bp bL eL fp;obtain rfl:=yP V;have d5:(a.tmps[107]?.getD Θ)=.slice am k.mem.length cm:=Bc J 5;have d7:(a.tmps[109]?.getD Θ)=.slice (some ⟨bi,be,none⟩) k.Zh.length ci:=Bc J 7;have d8:(a.tmps[110]?.getD Θ)=.int .i64 f:=Bc J 8;have mx:(a.tmps[112]?.getD Θ)=.int .i64 ((JR k.Zh f).k):=Bc J 10;have jw:BY wx (a.tmps[113]?.getD Θ) [⟨#[]⟩]:=Bc J 11;have d3:(a.tmps[105]?.getD Θ)=.bool true:=Bc J 3;clear J z;generalize e113:a.tmps[113]?.getD Θ=v2 at jw;have kf:=CG wx Y v2 jw;refine AZ.yes rfl rfl d3 ?_;go_simp;refine kf.mono ?_;rintro e w_ ⟨rfl,bf⟩;exact Z _ _ rfl bf
    |22,_=>clear bB bp bL eL fp;obtain rfl:=yP V;have ro:(a.tmps[119]?.getD Θ)=.int .i64 ((JR k.Zh f).r):=Bc J 17;have rk:(a.tmps[123]?.getD Θ)=.int .i64 (nth (FO k 3) f):=Bc J 21;have mt:(a.tmps[117]?.getD Θ)=.bool false:=Bc J 15;clear J z;refine AZ.yes rfl rfl mt ?_;go_simp;exact Z _ _ rfl (yN _ _)
    |_+23,hq=>omega
   .intro i R vv wz jo em hz
    match i,R with
    |11,_=>exact(BK.below hz em)
    |0,_|1,_|2,_|3,_|4,_|5,_|6,_|7,_|8,_|9,_|10,_|12,_|13,_|14,_|15,_|16,_|17,_|18,_|19,_|20,_|21,_|22,_=>exact hz
    |_+23,hq=>omega
   intro D wx hR Y
   have jC:(D 15)=.bool false:=Bh hR 15;have jB:(D 22)=.bool ((JR k.Zh f).r !=nth (FO k 3) f):=Bh hR 22;clear hR;simp only[Ai,Ae,yL,yI,yJ,yH,jC,jB];simp;clear jC jB;have bK:=bY.trans (Y.mono bY.size);have hC:=AA (AE.below HO Y);clear Y x0 x1 y0 y2 lm;have RL:=TH (k:=k) T4 el;cases dg:((JR k.Zh f).r !=nth (FO k 3) f)
   .have S1:=AA (show If k f=true by rw[RL];simpa using dg)
    clear RL;go_wp2;go_roundw;exact⟨f+1,ω,ξ,Am ad ⟨TB.u,S1.u⟩,hC.u,bK⟩;simp[intOf];omega
   have S:=AA (Ww el (show If k f=false by rw[RL];simpa using dg))
   clear RL;go_wp2;go_ret;exact⟨AF S.symm,bE.trans (bK.mono bE.size)⟩
  obtain rfl:f=k.Zh.length:=ω;have r7:=AA (λf (hf:f<12)=>ad f (by have:=fa.u;omega));have x3:=(AG (AB HN av)).2.2.2;have g8:=AA av;clear hO av ad;go_wp2_with fail;clear x3;obtain⟨wq2,rfl⟩:∃wq:Ω,wq=wr:=⟨_,rfl⟩
  go_loopw [130] (λi wr=>∃j:Nat,j<=k.Xo.length/\i=.int .i64 j/\(∀j',j'<j->Cz k (AV k.Xo j')=true)/\Γ W0 W0 wr) (λi _=>k.Xo.length - (intOf i).toNat)
  exact⟨0,yt _,rfl,λj K=>absurd K (xV _),g8.u⟩
  obtain⟨j,K,rfl,ab,av⟩:=hrel;have ad:=AA ab;clear ab
  by_cases ao:j<k.Xo.length
  .obtain⟨a9,c9,ev,_,_,pL⟩:=BK.open Cj ψ (BK.below H4 av)
   cases ev;obtain⟨bi,be,rfl,fk,D0,D1,D2,D3⟩:=pL.zV ao;have nM:CQ (AV k.Xo j)=true:=by have L:=T3.u;unfold Bk at L;simp only[yD,yr] at L;have O:=L.1 j (yi.2 ao);unfold DJ at O;simp only[yD] at O;exact O.1
   have md:k.Xo.length<=4:=by have L:=T3.u;unfold Bk at L;simp only[yD,decide_eq_true_eq] at L;exact L.2
   unfold CQ at nM;simp only[yD,Aa] at nM;obtain⟨⟨⟨e0,e2⟩,p0,p2⟩,f0,f2⟩:=nM;obtain⟨en,ip⟩:∃n:Nat,(AV k.Xo j).e=(n:Int):=⟨(AV k.Xo j).e.toNat,ω⟩
   obtain⟨pn,hpn⟩:∃n:Nat,(AV k.Xo j).p=(n:Int):=⟨(AV k.Xo j).p.toNat,ω⟩
   obtain⟨fn,j0⟩:∃n:Nat,(AV k.Xo j).f=(n:Int):=⟨(AV k.Xo j).f.toNat,ω⟩
   have TO:=AA (show Cz k (AV k.Xo j)=(decide (0<=(AH k.Xr en).root)&&decide (CU k.mem (AH k.Xr en).root.toNat (4*pn)=(0,fn,(AV k.Xo j).w))) by unfold Cz;rw[ip,hpn,j0];rfl);have nK:en<3:=ω;have oO:pn<16:=ω;have KT:=AA (YT (k:=k) ao);rw[ip] at D0;rw[hpn] at D1;rw[j0] at D2;generalize hcw:(AV k.Xo j).w=cw at*;obtain⟨hk,iy⟩:=EU wr (.cells #[en,pn,fn,cw] 125);have oQ:(j:Int)<k.Xo.length:=ω;have xb:(j:Int)<4:=ω;have f8:=av.trans (iy.mono av.size);obtain⟨b,bx,ua,uc,rfl,cl,E0,E1,RR⟩:=HE en (by have:=T4.u;omega);replace E1:=(f8.cell (p:=⟨b,bx+en*2+1,none⟩) cl).trans E1;have x0:=(AG (AB HN f8)).1;have x2:=(AG (AB HN f8)).2.2.1;obtain⟨y0,y1,y2,y3⟩:=AG hk;have rh:(en:Int)<k.Xr.length:=by have:=T4.u;omega
   have bY:=AA f8;have te:=AA (pE en nK);have yp:=AA (yj ip (yj hpn j0));clear pL E0 RR iy av f8 hk e0 e2 p0 p2 f0 f2 ip hpn j0 md
   by_cases c8:(AH k.Xr en).root<0
   .have S:=AA (KT (by rw[TO.u];simp;omega))
    have bK:=bY.u;clear x0 y1 y2 y3;go_wp2;go_ret;exact⟨AF S.symm,bE.trans (bK.mono bE.size)⟩
   obtain⟨rn,hrn⟩:∃n:Nat,(AH k.Xr en).root=(n:Int):=⟨(AH k.Xr en).root.toNat,ω⟩
   have kM:rn<12:=by
    have L:=te.u;unfold EW at L;simp only[yD,xM,decide_eq_true_eq,Aa] at L
    rcases L.1.2 with h|h<;>omega
   have iK:=λW (E:Γ W0 W0 W)=>Xh _ k.mem rn (4*pn) W (H1.below E) T1 kM ω
   have oT:wr.heap.size<(wr.alloc (.cells #[en,pn,fn,cw] 125)).heap.size:=χ;rw[hrn] at E1 TO c8;unfold JC at iK;rw[(ω:((4*pn:Nat):Int)=(pn:Int)*4)] at iK;simp only[yq] at TO;obtain⟨code,fr,wb,hwp⟩:∃code fr wb,CU k.mem rn (4*pn)=(code,fr,wb):=⟨_,_,_,rfl⟩
   simp only[hwp] at iK TO;clear hwp;have my:=AA (show Cz k (AV k.Xo j)=(decide (code=0)&&(decide (fr=fn)&&decide (wb=cw))) by
    rw[TO.u];have:(0:Int)<=(rn:Int):=ω;simp[this])
   by_cases k9:code=0
   .subst k9
    rw[if_pos rfl] at iK;unfold Mb at iK;rw[(ω:((4*pn%4:Nat):Int)=0)] at iK;have CW:=AA iK;clear iK;go_wp2_with fail;refine(CW _ bY.u).mono ?_;rintro e w2 ⟨rfl,bf⟩;have g6:=bY.trans (bf.mono bY.size);replace y2:=(bf.cell (p:=⟨wr,2,none⟩) oT).trans y2;replace y3:=(bf.cell (p:=⟨wr,3,none⟩) oT).trans y3;clear x0 x2 E1 y0 y1 bf;have bK:=g6.trans ((AJ w2 (.cells #[fr,θ,wb] 127)).mono g6.size);replace y2:=((AJ w2 (.cells #[fr,θ,wb] 127)).cell (yK w2 _ y2)).trans y2;replace y3:=((AJ w2 (.cells #[fr,θ,wb] 127)).cell (yK w2 _ y3)).trans y3;have HG:=AA bK;clear g6 bK c8
    by_cases cN:fr=fn
    .have t1:((fr:Int) !=(fn:Int))=false:=by simp[cN]
     by_cases kG:wb=cw
     .have S:=AA (show Cz k (AV k.Xo j)=true by rw[my.u];simp[cN,kG])
      subst kG;clear cN;cases wb
      all_goals
       go_wp2;go_roundw;exact⟨j+1,ω,ξ,Am ad S.u,HG.u⟩;simp[intOf];omega
     have S:=AA (KT (by rw[my.u];simp[kG]))
     have hq:=AA kG;clear cN kG;cases wb<;>cases cw
     .exact absurd rfl hq.u
     .go_wp2
      go_ret;exact⟨AF S.symm,bE.trans (HG.mono bE.size)⟩
     .go_wp2
      go_ret;exact⟨AF S.symm,bE.trans (HG.mono bE.size)⟩
     exact absurd rfl hq.u
    have t1:((fr:Int) !=(fn:Int))=true:=η;have S:=AA (KT (by rw[my.u];simp[cN]));clear cN y3;go_wp2;go_ret;exact⟨AF S.symm,bE.trans (HG.mono bE.size)⟩
   rw[if_neg k9] at iK
   unfold FW at iK;have CW:=AA iK;have t1:(code !=0)=true:=by simp[k9]
   have S:=AA (KT (by rw[my.u];simp[k9]));clear iK k9;go_wp2_with (refine(CW _ bY.u).mono ?_;rintro e w2 ⟨rfl,bf⟩;have g6:=bY.trans (bf.mono bY.size);have HG:=AA (g6.trans ((AJ w2 (.cells #[θ,θ,υ] 127)).mono g6.size));clear x0 x2 E1 y0 y1 y2 y3 bf g6 c8);go_ret;exact⟨AF S.symm,bE.trans (HG.mono bE.size)⟩
  have S:=AA (dG T1 T2 T3 T4 pE r7 (λj' xg=>ad j' ω))
  have bK:=av;go_wp2;go_ret;exact⟨AF S.symm,bE.trans (bK.mono bE.size)⟩
 have S:=AA (aH e4)
 have n4:((k.Xr.length:Int) !=3)=true:=η;clear e4;go_wp2;go_ret;exact⟨AF S.symm,bE.trans (A.mono bE.size)⟩
theorem CJ (h:DZ k):Gs k:=by
 refine⟨λx hx=>?_,λj K=>Ex (h.Pj j (by rw[h.zX] at K;exact K))⟩;obtain⟨f,hf⟩:=xN hx;have hl:=(yA.1 hf).1;rw[h.len] at hl;have R:=h.inf f hl;have e:JR k.Zh f=x:=by unfold JR;rw[yg,hf];rfl
 rw[e] at R
 rcases R with⟨_,g⟩|⟨_,_,g⟩
 .rw[g];exact yt _
 unfold BR at g
 rw[yD,decide_eq_true_eq] at g;have:=g.2;unfold maxLen;omega
section
variable {lo g:Nat} {o m i e c:Φ} {st:AR×List Int} {w wr w':Ω}
end
theorem FR (w:Ω)(a b:Obj):((w.alloc a).alloc b).heap[w.heap.size]?=some a/\((w.alloc a).alloc b).heap[w.heap.size+1]?=some b/\Γ w w ((w.alloc a).alloc b)/\((w.alloc a).alloc b).heap.size=w.heap.size+2:=by have L:=yx w a;have O:=yx (w.alloc a) b;have h4:=AB L (AJ _ b);simp only[xz] at O;exact⟨h4,O,IE w a b,χ⟩
section
variable {P:Program}
theorem Tm{id:Nat}{Q:Exit->Act->Ω->Prop}{a0:Act}{w0:Ω}{l:List Oper}(n:Nat)(hm:P.follows .mixedOrders=true)(hB:Iu l n=true)
 (hk:Nat)(hN:a0.tmps.size=hk)(hD:Wg l n hk=true)(i1 i2:Nat)(hw:yk .any l.toArray i2 i1=true)(mo:i1<n)(nY:i2<n)(j9:Φ->Φ->Prop)(hi:Nat->Φ->Ω->Prop)(kR:∀i,i<n->∀v w w',Γ w.heap.size w w'->hi i v w->hi i v w')
 (kJ:∀i,i<n->i≠i2->∀o,l[i]?=some o->∀a w,eh (a.defers=a0.defers/\a.tmps.size=a0.tmps.size/\∀t,(∀i,i<n->Ae l i≠t)->a.tmps[t]?=a0.tmps[t]?)->
  eh (∀j,yk .any l.toArray i j=true->hi j (a.tmps[Ae l j]?.getD Θ) w)->Γ w0 w0 w->
  ∀hj:Act->Ω->Prop,eh (∀v w',hi i v w'->Γ w w w'->hj (a.put o.dst v) w')->AZ P l o a w hj Q)
 (kP:∀o,l[i2]?=some o->∀a w,eh (a.defers=a0.defers/\a.tmps.size=a0.tmps.size/\∀t,(∀i,i<n->Ae l i≠t)->a.tmps[t]?=a0.tmps[t]?)->
  eh (∀j,yk .any l.toArray i2 j=true->hi j (a.tmps[Ae l j]?.getD Θ) w)->Γ w0 w0 w->
  ∀hj:Act->Ω->Prop,eh (∀v w',hi i2 v w'->j9 (a.tmps[Ae l i1]?.getD Θ) v->Γ w w w'->hj (a.put o.dst v) w')->AZ P l o a w hj Q)
 (kI:∀(D:Nat->Φ) w,(∀i,i<n->hi i (D i) w)->j9 (D i1) (D i2)->Γ w0 w0 w->wpList P l.toArray Q (l.drop n) {a0 with tmps:=Ai l (yL n) D a0.tmps} w):
 (Code.region id l.toArray true).wp P Q a0 w0:=by
 subst hN;refine Mo hm (I:=λh1 D w=>(∀i,i<n->h1 i=true->hi i (D i) w)/\Γ w0 w0 w/\(h1 i2=true->j9 (D i1) (D i2))) (Uz hB hD) (λD=>⟨λi _ h=>(by cases h),⟨rfl,rfl,rfl,yF _,λ_ _=>rfl⟩,λh=>by cases h⟩) (λi R o V a w L O h3 h1 h6 h7 h8 hI hj hK=>?_) (λa w L O h3 h1 hL hI=>?_)
 .have up:∀{w':Ω},Γ w w w'->Γ w0 w0 w':=λO=>hI.2.1.trans ⟨O.os,O.tape,O.output,O.size,λk N=>O.block k (yu N hI.2.1.size)⟩
  have hd:=AA λj (K:yk .any l.toArray i j=true)=>by have:=hI.1 j (h7 j K).2 (h7 j K).1;rwa [LL hB (h7 j K).2] at this
  have kE:∀{v w'},hi i v w'->Γ w w w'->∀fm:Nat->Φ,fm i=(match o.dst with|some _=>v|none=>Θ)->(∀j,j<n->j≠i->fm j=Ec l a.tmps j)->∀j,j<n->Hz h1 i j=true->hi j (fm j) w':=by
   intro v w' hR A fm hv jF j K hl
   by_cases e:j=i
   .subst e
    rw[hv];simp only[YC hB R V];exact hR
   have qz:h1 j=true:=by unfold Hz at hl;rwa [if_neg e] at hl
   rw[jF j K e];exact kR j K _ w w' A (hI.1 j K qz)
  by_cases e2:i=i2
  .subst e2
   have dg:i1≠i:=λe=>by have:=(h7 i1 hw).1;rw[e,h6] at this;cases this
   refine kP o V a w (AA ⟨L,O,KX hB h3⟩) hd hI.2.1 hj (AA λv w' hR hp A=>hK v w' λfm hv jF=>⟨kE hR A fm hv jF,up A,λ_=>?_⟩);rw[hv,jF i1 mo dg,LL hB mo];simp only[YC hB R V];exact hp
  refine kJ i R e2 o V a w (AA ⟨L,O,KX hB h3⟩) hd hI.2.1 hj (AA λv w' hR A=>hK v w' λfm hv jF=>⟨kE hR A fm hv jF,up A,λhl=>?_⟩)
  have jh:h1 i2=true:=by unfold Hz at hl;rwa [if_neg (Ne.symm e2)] at hl
  have e1:i1≠i:=λe=>by have:=h8 i2 i1 jh hw;rw[e,h6] at this;cases this
  rw[jF i1 mo e1,jF i2 nY (Ne.symm e2)];exact hI.2.2 jh
 have e:=Ud l (yL n) a0.tmps a.tmps O (λt ht=>KX hB h3 t λi R=>ht i (yi.2 R))
 have hv:∀i,i<n->a.tmps.getD (Ae l i) Θ=Ec l a.tmps i:=λi R=>by rw[Array.getD_eq_getD_getElem?,<-LL hB R]
 have:=kI (λi=>a.tmps.getD (Ae l i) Θ) w (λi R=>by rw[hv i R];exact hI.1 i R (hL i R)) (by rw[hv i1 mo,hv i2 nY];exact hI.2.2 (hL i2 nY)) hI.2.1;rw[<-e] at this;obtain⟨tm,df⟩:=a;dsimp only at L this;subst L;exact this
end
theorem Su (v:Φ)(m:List (List Int))(w:Ω)(h:Bl w v m)(fv:m.length=16)(b9:∀k,k<16->(AK m k).length<=4):
 Ξ prog 61 #[v] w λe w'=>∃v' D,e=.returned v'/\Ay w w' v' D m/\Γ w w w':=by
 obtain⟨D,L,O⟩:=h;have cr:D.length=16:=by rw[O.1,fv]
 have CC:=AA (NU v D w L ω (Us O));have CI:=AA (λk (N:k<16) W (E:Γ w w W)=>JQ (D.getD k (.bool false)) (AK m k) W (A1.below (O.2 k _ _ (A6 ω) (by unfold AK;exact A6 ω)) E) (by have:=b9 k N;omega));have SH:=AA (λk (N:k<16)=>(by obtain⟨a,c,e,_⟩:=(O.2 k _ _ (A6 (d:=Value.bool false) ω) (A6 (d:=[]) ω)).open;exact⟨a,_,c,e⟩:∃a n c,D.getD k (.bool false)=.slice a n c));have ls:=AA cr;have pp:=AA fv;obtain⟨ai,ci,rfl,_,_⟩:=L.shape;clear L O b9 fv;rw[cr] at CC ⊢;clear cr;go_in;go_wp2_with fail;refine CC.mono ?_;rintro e w1 ⟨v',rfl,hO,bl⟩;obtain⟨g,cq,rfl,c1,c2,q1,q2,io⟩:=hO.zW (by have:=ls.u;omega);unfold maxLen at c2;rw[ls.u] at hO c1 ⊢;have HO:=AA hO;have HB:=AA bl;clear hO bl io;go_wp2_with fail;go_loopw [10] (λi wr=>∃us:List Φ,us.length<=16/\i=.int .i64 us.length/\Gl w wr (.slice g 16 cq) us (D.drop us.length) m/\Γ w w wr) (λi _=>16 - (intOf i).toNat)
 exact⟨[],χ,rfl,⟨HO.u,Gj.nil,Dh.nil⟩,HB.u⟩
 obtain⟨us,N,rfl,hH,av⟩:=hrel
 by_cases ao:us.length<16
 .have oR:us.length<D.length:=by rw[ls.u];exact ao
  have ed:D.drop us.length=D.getD us.length (.bool false)::D.drop (us.length+1):=by
   rw[List.drop_eq_getElem_cons oR]
   congr 1
   simp[oR]
  rw[ed] at hH;have jW:(us++D.getD us.length (.bool false)::D.drop (us.length+1)).length=16:=by have:=ls.u;simp only[yz,List.length_cons,List.length_drop];omega
  have ml:=hH.1;rw[<-jW] at ml;have vs:=AQ.zJ Eh ml (k:=us.length) (x:=D.getD us.length (.bool false)) χ 0 _ rfl;rw[wZ,xT] at vs;have C:=CI _ ao wr av;have hr:m[us.length]?=some (AK m us.length):=by unfold AK;exact A6 (by rw[pp.u];exact ao)
  have HH:=AA hH;have HR:=AA hr;have CH:=AA C;have oo:=AA jW;have io:=xU ml us.length;have z9:(16:Int)<=cq:=ω;clear hH ml hr C ed jW;generalize hu0:D.getD us.length (.bool false)=u0 at*;obtain⟨a0,n0,c0,rfl⟩:∃a n c,u0=.slice a n c:=by have:=SH _ ao;rwa [hu0] at this
  go_wp2_with fail;refine CH.mono ?_;rintro e w2 ⟨u,rfl,hu,bf⟩;have D2:=(bf.cell (p:=⟨g,us.length,none⟩) (yK wr _ vs)).trans vs;have qI:=(bf.frozen (p:=⟨g,us.length,none⟩) (yK wr _ vs)).trans io;have ST:=AA (Gl.step HH oo.symm bf av.size hu HR.u);have ig:=AA (AM (av.trans (bf.mono av.size)) ST.2 q1 (yM av.size bf.size));obtain⟨a9,c9,rfl,_⟩:=hu.rd.open;clear vs io hu bf av;go_wp2;go_roundw
  case rel=>refine⟨us++[.slice a9 (AK m us.length).length c9],by rw[yz,xP];omega,by rw[yz,xP];go_num,?_,ig.u⟩;rw[yz,xP];exact ST.1
  case measure=>simp[intOf];omega
 have e12:us.length=16:=ω;rw[List.drop_eq_nil_of_le (by rw[e12,ls.u];exact yF _)] at hH;have hi:=AA (hH.whole (by rw[e12,pp.u]));clear hH;go_wp2;go_ret;exact⟨_,us,rfl,hi.u,av⟩
theorem Es.Dq (h:Es lo w m i e c s l q P):((∃a n q,m=.slice a n q)/\(∃a n q,i=.slice a n q)/\(∃a n q,e=.slice a n q)/\∃a n q,c=.slice a n q)/\(∃a n q,s=.slice a n q)/\(∃a n q,l=.slice a n q)/\∃a n r,q=.slice a n r:=by obtain⟨L,⟨_,O⟩,h3,h4,_⟩:=h;obtain⟨_,_,rfl,_,_⟩:=O.1.rd.shape;obtain⟨_,_,rfl,_,_⟩:=h3.rd.open;obtain⟨_,_,rfl,_,_⟩:=h4.rd.shape;exact⟨L.Dq,⟨_,_,_,rfl⟩,⟨_,_,_,rfl⟩,⟨_,_,_,rfl⟩⟩
theorem XQ (h:Dd P):P.swap.length=16/\∀k,k<16->(AK P.swap k).length<=4:=by
 refine⟨h.zN,λk N=>?_⟩
 rcases h.zF k N with e|e
 .rw[e];exact yt _
 have:=(BB.1 e).1;omega
section
variable {w:Ω} {g t:Nat} {a0 a1 a2 a3 a4 a5 a6 a7 a8 b0 b1 b2 b3 b4 b5 b6 b7 b8:Φ}
def DO(w:Ω)(g:Nat)(b0 b1 b2 b3 b4 b5 b6:Φ):Ω:=((((((w.setCell g b0).setCell (g,1) b1).setCell (g,2) b2).setCell (g,3) b3).setCell (g,4) b4).setCell (g,5) b5).setCell (g,6) b6
theorem dh(h:w.heap[g]?=some (.cells #[a0,a1,a2,a3,a4,a5,a6,a7,a8] t (0,0))):(((w.setCell (g,4) b4).setCell (g,5) b5).setCell (g,6) b6).heap[g]?=some (.cells #[a0,a1,a2,a3,b4,b5,b6,a7,a8] t (0,0)):=by have h4:=yE _ g 4 _ t b4 h;have h5:=yE _ g 5 _ t b5 h4;have h6:=yE _ g 6 _ t b6 h5;simpa using h6
theorem Yz:w.grownBy (((w.setCell (g,4) b4).setCell (g,5) b5).setCell (g,6) b6) (some g):=As (As (Ak _ _ _ _) _ _) _ _
theorem dj(h:w.heap[g]?=some (.cells #[a0,a1,a2,a3,a4,a5,a6,a7,a8] t (0,0))):(DO w g b0 b1 b2 b3 b4 b5 b6).heap[g]?=some (.cells #[b0,b1,b2,b3,b4,b5,b6,a7,a8] t (0,0)):=by have h0:=yE w g 0 _ t b0 h;have L:=yE _ g 1 _ t b1 h0;have O:=yE _ g 2 _ t b2 L;have h3:=yE _ g 3 _ t b3 O;have h4:=yE _ g 4 _ t b4 h3;have h5:=yE _ g 5 _ t b5 h4;have h6:=yE _ g 6 _ t b6 h5;unfold DO;simpa using h6
theorem Y1:w.grownBy (DO w g b0 b1 b2 b3 b4 b5 b6) (some g):=by unfold DO;exact As (As (As (As (As (As (Ak _ _ _ _) _ _) _ _) _ _) _ _) _ _) _ _
theorem Hj(h:w.heap[g]?=some (.cells #[a0,a1,a2,a3,a4,a5,a6,a7,a8] t (0,0))):(((DO w g b0 b1 b2 b3 b4 b5 b6).setCell (g,7) b7).setCell (g,8) b8).heap[g]?=some (.cells #[b0,b1,b2,b3,b4,b5,b6,b7,b8] t (0,0)):=by have h7:=yE _ g 7 _ t b7 (dj (b0:=b0) (b1:=b1) (b2:=b2) (b3:=b3) (b4:=b4) (b5:=b5) (b6:=b6) h);have h8:=yE _ g 8 _ t b8 h7;simpa using h8
theorem FQ:w.grownBy (((DO w g b0 b1 b2 b3 b4 b5 b6).setCell (g,7) b7).setCell (g,8) b8) (some g):=As (As Y1 _ _) _ _
end
def AN(m i e c s l q:Φ)(h n:Int):Φ:=.agg #[m,i,e,c,s,l,q,h,n]
def OS(w:Ω)(P:AP)(r:Ending)(w':Ω):Prop:=∃m i e c s l q,r=.returned (AN m i e c s l q P.FU P.VO)/\Es w w' m i e c s l q P/\Γ w w w'
variable{D:List Φ}
theorem Zk{pM:List (List Int)}(h:IM lo v w k)(hW:v=.agg #[m,i,e,c])(o:Ay w w' s D pM):GP m s:=by obtain⟨m1,i1,e1,c1,rfl,⟨us,L⟩,_⟩:=h;simp only[Value.agg.injEq,Array.mk.injEq,List.cons.injEq,and_true] at hW;obtain⟨rfl,_⟩:=hW;intro b A j4;have:=(yC L.1 b A).2;have:=(yC o.1 b j4).1;omega
theorem Ji (mv iv ev cv sv lv qv:Φ)(P:AP)(w:Ω)(h:JA w mv iv ev cv sv lv qv P)(hP:Dd P):
 Ξ prog 25 #[AN mv iv ev cv sv lv qv P.FU P.VO] w (OS w P):=by
 unfold AN;obtain⟨B0,B1,br,iS⟩:=FR w (.cells #[mv,iv,ev,cv,sv,lv,qv,P.FU,P.VO] 32) (.cells #[ι,ι,ι,ι,ι,ι,ι,θ,θ] 32);have h':=h.below br;have ei:=XQ hP;go_in;go_wp2_with fail;generalize(w.alloc _).alloc _=W0 at*;have C1:=AA (λW (E:Γ W0 W0 W)=>Vw mv iv ev cv P.V0 W (h'.1.below E) hP.k);have C2:=AA (λW (E:Γ W0 W0 W)=>Su sv P.swap W (h'.2.1.below E) ei.1 ei.2);have C3:=AA (λW (E:Γ W0 W0 W)=>JQ lv P.low W (h'.2.2.1.below E) (by rw[hP.zD];omega));have C4:=AA (λW (E:Γ W0 W0 W)=>To qv P.Xs W (BK.below h'.2.2.2 E) (by rw[hP.zY];omega));have bE:=AA B0;have fl:=AA B1;have cP:=AA br;obtain⟨x0,x1,x2,x3,x4,x5,x6,x7,x8⟩:=AC B0;have fx:w.heap.size<W0.heap.size:=ω;clear h h' ei B0 B1 br x7 x8 hP;refine Tm 13 mixed φ 20 rfl φ 2 5 φ ψ ψ (λV1 V2=>∀m i e c,V1=.agg #[m,i,e,c]->GP m V2) (λix vv ww=>match ix with
  |0|12=>vv=.pointer w
  |1=>vv=.agg #[mv,iv,ev,cv]
  |2=>IM W0 vv ww P.V0
  |3=>vv=.pointer (some ⟨w,4,none⟩)
  |4=>vv=sv
  |5=>∃fm,Ay W0 ww vv fm P.swap
  |6=>vv=.pointer (some ⟨w,5,none⟩)
  |7=>vv=lv
  |8=>AE W0 ww vv P.low
  |9=>vv=.pointer (some ⟨w,6,none⟩)
  |10=>vv=qv
  |11=>AQ W0.heap.size 87 3 DT ww vv P.Xs
  |_=>True) ?_ ?_ ?_ ?_
 .intro i R vv wz jo em hz
  match i,R with
  |0,_|1,_|3,_|4,_|6,_|7,_|9,_|10,_=>exact hz
  |2,_=>exact(IM.below hz em)
  |5,_=>exact(by obtain⟨fm,h'⟩:=hz;exact⟨fm,h'.below em⟩)
  |8,_=>exact(AE.below hz em)
  |11,_=>exact(AQ.below hz em)
  |12,_=>exact hz
 .intro i R qE o V a wx z J Y hj Z
  match i,R,qE with
  |0,_,_=>exact dF V rfl (gn rfl) Z rfl cV (eb (No z 1)) rfl
  |1,_,_=>exact dL V rfl (gn rfl) Z rfl (et (Bc J 0)) (P7 (bc Y fx x0) (bc Y fx x1) (bc Y fx x2) (bc Y fx x3)) rfl
  |2,_,_=>obtain rfl:=yP V;have d1:(a.tmps[4]?.getD Θ)=.agg #[mv,iv,ev,cv]:=Bc J 1;clear J z;refine yO ?_;go_simp;refine(C1 _ Y).mono ?_;rintro r w_ ⟨m',i',e',c',rfl,hO,bf⟩;exact Z _ _ ⟨m',i',e',c',rfl,hO.lower Y.size⟩ bf
  |3,_,_=>exact dF V rfl (gn rfl) Z rfl fh (eb (No z 1)) rfl
  |4,_,_=>exact dL V rfl (gn rfl) Z rfl (et (Bc J 3)) (GZ (bc Y fx x4)) rfl
  |5,_,hs=>exact absurd rfl hs
  |6,_,_=>exact dF V rfl (gn rfl) Z rfl fi (eb (No z 1)) rfl
  |7,_,_=>exact dL V rfl (gn rfl) Z rfl (et (Bc J 6)) (K5 (bc Y fx x5)) rfl
  |8,_,_=>obtain rfl:=yP V;have d7:(a.tmps[10]?.getD Θ)=lv:=Bc J 7;clear J z;refine yO ?_;go_simp;refine(C3 _ Y).mono ?_;rintro e w_ ⟨v',rfl,hO,bf⟩;exact Z _ _ (Bb hO Y.size) bf
  |9,_,_=>exact dF V rfl (gn rfl) Z rfl fj (eb (No z 1)) rfl
  |10,_,_=>exact dL V rfl (gn rfl) Z rfl (et (Bc J 9)) (eU (bc Y fx x6)) rfl
  |11,_,_=>obtain rfl:=yP V;have mx:(a.tmps[13]?.getD Θ)=qv:=Bc J 10;clear J z;refine yO ?_;go_simp;refine(C4 _ Y).mono ?_;rintro e w_ ⟨v',rfl,hO,bf⟩;exact Z _ _ (hO.lower Y.size) bf
  |12,_,_=>exact dF V rfl (gn rfl) Z rfl cV (eb (No z 1)) rfl
 .intro o V a wx z J Y hj Z
  obtain rfl:=yP V;have d4:(a.tmps[7]?.getD Θ)=sv:=Bc J 4;have d2:IM W0 (a.tmps[5]?.getD Θ) wx P.V0:=Bc J 2;clear J z;refine yO ?_;go_simp;refine(C2 _ Y).mono ?_;rintro e w_ ⟨v',fm,rfl,hO,bf⟩;exact Z _ _ ⟨fm,hO.lower Y.size⟩ (λm i e c hW=>Zk d2 hW hO) bf
 intro D wx hR hP Y
 have q2:IM W0 (D 2) wx P.V0:=Bh hR 2;have q5:∃fm,Ay W0 wx (D 5) fm P.swap:=Bh hR 5
 have q8:AE W0 wx (D 8) P.low:=Bh hR 8;have mS:AQ W0.heap.size 87 3 DT wx (D 11) P.Xs:=Bh hR 11;have jE:(D 12)=.pointer w:=Bh hR 12;clear hR;simp only[Ai,Ae,yL,yI,yJ,yH,jE];simp;generalize D 2=z2 at q2 hP ⊢;generalize D 5=z5 at q5 hP ⊢;generalize D 8=z8 at q8 ⊢;generalize D 11=z11 at mS ⊢;clear jE;obtain⟨m',i',e',c',rfl,k1⟩:=q2;obtain⟨fm,k2⟩:=q5;have gl:GP m' z5:=hP _ _ _ _ rfl;have h2:=(⟨k1,⟨fm,k2⟩,q8,mS,gl⟩:Es W0 wx m' i' e' c' z5 z8 z11 P);obtain⟨⟨⟨ma,mn,mc,rfl⟩,⟨ia,iN,ic,rfl⟩,⟨ea,en,ec,rfl⟩,⟨qa,qn,qc,rfl⟩⟩,⟨sa,sn,sc,rfl⟩,⟨la,ln,lc,rfl⟩,⟨pa,pn,pc,rfl⟩⟩:=h2.Dq;have B0:=(Y.block _ fx).trans bE.u;have B1:=(Y.block (w.heap.size+1) ω).trans fl.u;obtain⟨pU,jP,pT,pS,pR,pQ,pP,pO,pN⟩:=AC B0;have f0:=AI B0;go_step;go_simp;have mr:=Ar wx w (.slice ma mn mc) (.slice ia iN ic) (.slice ea en ec) (.slice qa qn qc);have lN:=KN (m':=.slice ma mn mc) (i':=.slice ia iN ic) (e':=.slice ea en ec) (c':=.slice qa qn qc) B0;have O1:=h2.yV mr B0;have oA:=(mr.block (w.heap.size+1) (by have:=Y.size;omega) (by intro e;have:=yP e;omega)).trans B1;have bw:=AM (cP.trans (Y.mono cP.size)) mr (yF _) (yM cP.size Y.size);clear h2 mr B0 B1 Y f0 pU jP pT pS pR pQ pP pO pN k1 k2 q8 mS hP gl x0 x1 x2 x3 x4 x5 x6;generalize(((wx.setCell _ _).setCell _ _).setCell _ _).setCell _ _=W1 at*;obtain⟨_,_,_,_,c4,c5,c6,_⟩:=AC lN;have f4:=AI lN;have S2:=dh (b4:=.slice sa sn sc) (b5:=.slice la ln lc) (b6:=.slice pa pn pc) lN;have mq:=Yz (w:=W1) (g:=w.heap.size) (b4:=.slice sa sn sc) (b5:=.slice la ln lc) (b6:=.slice pa pn pc);have O2:=O1.yV mq lN;have mK:=(mq.block (w.heap.size+1) (AU oA) (by intro e;have:=yP e;omega)).trans oA;have pi:=AM bw mq (yF _) bw.size;obtain⟨y0,y1,y2,y3,y4,y5,y6,y7,y8⟩:=AC S2;obtain⟨u0,u1,u2,u3,u4,u5,u6,u7,u8⟩:=AC mK;have f1:=AI mK;have hC:=AA O2;have lK:=AA mK;have lB:=AA pi;clear O1 lN oA bw mq S2 O2 mK pi;go_wp2_with fail;clear y0 y1 y2 y3 y4 y5 y6 y7 y8 u0 u1 u2 u3 u4 u5 u6 u7 u8 f1 c4 c5 c6 f4;generalize((W1.setCell _ _).setCell _ _).setCell _ _=W2 at*;have n3:=FQ (w:=W2) (g:=w.heap.size+1) (b0:=.slice ma mn mc) (b1:=.slice ia iN ic) (b2:=.slice ea en ec) (b3:=.slice qa qn qc) (b4:=.slice sa sn sc) (b5:=.slice la ln lc) (b6:=.slice pa pn pc) (b7:=.int .i64 P.FU) (b8:=.int .i64 P.VO);have N3:=Hj (b0:=.slice ma mn mc) (b1:=.slice ia iN ic) (b2:=.slice ea en ec) (b3:=.slice qa qn qc) (b4:=.slice sa sn sc) (b5:=.slice la ln lc) (b6:=.slice pa pn pc) (b7:=.int .i64 P.FU) (b8:=.int .i64 P.VO) lK.u
 have O3:=(hC.yV n3 lK).lower cP.size;have B3:=AM lB n3 ω lB.size;unfold DO at n3 N3 O3 B3;exact yB (v:=.agg #[_,_,_,_,_,_,_,_,_]) (by simp[results,Tryz.results25,go_sem,AC N3]) rfl ⟨_,_,_,_,_,_,_,rfl,O3,B3⟩
theorem Du.past{row:Option Nat}(h:Du lo w m i e c k)(H:w.grownBy w' row)(hr:∀b,row=some b->b<lo):Du lo w' m i e c k:=by
 obtain⟨⟨D,L,O,h3⟩,h4,⟨ps,h5,h6,h7⟩,h8⟩:=h;exact⟨⟨D,BU L H hr,O.mono λ_ _ x=>BU x H hr,h3⟩,BU h4 H hr,⟨ps,BU h5 H hr,h6.mono λ_ _ x=>⟨BU x.1 H hr,x.2⟩,h7⟩,BU h8 H hr⟩
theorem V4 (w:Ω)(s:ByteArray)(t:TypeId):BY (w.alloc (.cells #[s] t)) (.slice w 1 1) [s]:=
 Rd.zM w #[.string s] t 1 1 _ rfl rfl ζ
theorem ZT (w:Ω)(a b c:ByteArray)(t u:TypeId):
 Mu ((((w.alloc (.cells #[a] t)).alloc (.cells #[b] t)).alloc (.cells #[c] t)).alloc (.cells #[.slice w 1 1,.slice (some ⟨w.heap.size+1,0,none⟩) 1 1,.slice (some ⟨w.heap.size+1+1,0,none⟩) 1 1] u))
  (.slice (some ⟨w.heap.size+1+1+1,0,none⟩) 3 3) [[a],[b],[c]]:=by
 have L:=V4 w a t;have O:=V4 (w.alloc (.cells #[a] t)) b t;have h3:=V4 ((w.alloc (.cells #[a] t)).alloc (.cells #[b] t)) c t;simp only[xz] at O h3;refine⟨[.slice w 1 1,.slice (some ⟨w.heap.size+1,0,none⟩) 1 1,.slice (some ⟨w.heap.size+1+1,0,none⟩) 1 1],?_,rfl,?_⟩
 .exact Rd.zM _ #[_,_,_] u 1 3 _ χ rfl ζ
 intro i x y hx hy
 match i,hx,hy with
 |0,hx,hy=>simp at hx hy;subst hx hy;exact((BK.below L (AJ _ _)).below (AJ _ _)).below (AJ _ _)
 |1,hx,hy=>simp at hx hy;subst hx hy;exact(BK.below O (AJ _ _)).below (AJ _ _)
 |2,hx,hy=>simp at hx hy;subst hx hy;exact BK.below h3 (AJ _ _)
def M6:List (List ByteArray):=[[gA],[gB],[gC]]
theorem OF:∀ts∈M6,BW ts=true:=by
 intro ts h;simp only[M6,List.mem_cons,wU,or_false] at h
 rcases h with rfl|rfl|rfl<;>decide+kernel
theorem Ng:∀ts∈M6,DQ ts:=λts h=>Ex (OF ts h)
theorem Qa:Ou M6=EX 0:=φ
def fV(r:Ending):Prop:=r=.returned (.tuple #[AN (.slice none 0 0) (.slice none 0 0) (.slice none 0 0) (.slice none 0 0) (.slice none 0 0) (.slice none 0 0) (.slice none 0 0) 0 0,υ])
theorem aQ:(madeCells (Value.agg #[θ,θ,υ]).cells (16*3)).toList=Ce DT (xW 16 ⟨0,0,false⟩):=φ
def Ms(lo:Nat)(v:Φ)(w:Ω):Prop:=∃g,v=.pointer (some ⟨g,0,none⟩)/\lo<=g/\w.heap[g]?=some (.cells #[ι,ι,ι,ι,ι,ι,ι,θ,θ] 32 (0,0))
theorem Ms.below (h:Ms lo v w)(A:Γ w w w'):Ms lo v w':=by obtain⟨g,L,O,h3⟩:=h;exact⟨g,L,O,AB h3 A⟩
theorem ND{e sz n:Nat}{xs:List Φ}(h:w.ownsRow lo e sz v n xs):∃a n c,v=.slice a n c:=by
 rcases h.2 with⟨rfl,_⟩|⟨g',cq,j8,rfl,_⟩
 .exact⟨_,_,_,rfl⟩
 exact⟨_,_,_,rfl⟩
def MU(k:Nat):List Int:=(yL k).map λj=>((j+1:Nat):Int)
theorem Yc (k:Nat):MU (k+1)=MU k++[((k+1:Nat):Int)]:=by simp[MU,xH]
theorem Ul (k:Nat):(MU k).length=k:=by simp[MU]
def iA(lo g:Nat)(w:Ω)(s l q:Φ)(P:AP)(k':AR)(w':Ω):Prop:=
 (∃m i e c,ID lo g w' m i e c s l q {P with V0:=k'}/\Du w w' m i e c k')/\Γ lo w w'/\w.grownBy w' (some g)
variable{ks ws xs:List Int}
theorem KU (h:AE lo w v xs){j:Nat}(K:j<xs.length):∃b cq,v=.slice (some ⟨b,0,none⟩) xs.length cq/\b<w.heap.size/\w.cell? ⟨b,j,none⟩=some (.int .i64 (xs.getD j 0)):=by
 have h0:=h;unfold AE at h0
 rcases h0.2 with⟨rfl,e⟩|⟨b,cq,j8,rfl,_,_,_⟩
 .omega
 refine⟨b,cq,rfl,(yC h0 b rfl).2,?_⟩
 have:=xO h0 j ω;rw[this];simp[yg,K]
theorem TD (h:ID lo g w mv iv ev cv sv lv qv P)(bD:lo<=w.heap.size)(hK:DZ P.V0)(jK:P.low.length=4){n:Nat}(hn:n<16)(wd:Int)(hw:wd<=9223372036854775807):
 Ξ prog 137 #[.pointer g,.int .i64 n,.int .i64 wd] w (λr w'=>r=.returned (.tuple #[])/\iA lo g w sv lv qv P (Ad P.V0 (JU P n wd)).1 w'):=by
 obtain⟨a,ha⟩:∃a,a=n/4:=⟨_,rfl⟩
 obtain⟨b,A⟩:∃b,b=n%4:=⟨_,rfl⟩
 have e:Ad P.V0 (JU P n wd)=Ad P.V0 ⟨6,0,Bd P.low a,(b:Int),wd,⟨#[]⟩⟩:=by subst ha A;exact(MN ⟨ψ,ψ,ψ⟩)
 rw[e];have q1:(n:Int)/4=(a:Int):=ω;have q2:(n:Int)%4=(b:Int):=ω;have C:=KG h bD hK ⟨6,0,Bd P.low a,(b:Int),wd,⟨#[]⟩⟩ (ψ:(0:Int)<=0) (ψ:(0:Int)<3) (yt _) hw;obtain⟨_,_,_,_,_,c5,_⟩:=h.cells;obtain⟨lb,lc,rfl,oS,vs⟩:=KU h.own.low (j:=a) ω;rw[jK] at C c5;replace vs:w.cell? (lb,a)=some (.int .i64 (Bd P.low a)):=vs;have qW:(a:Int)<4:=ω;have Hn:=AA hn;generalize Bd P.low a=la at*;dsimp only at C;unfold Zi at C;clear h ha A e hn;go_in;go_wp2_with (refine C.mono ?_;rintro r w1 ⟨rfl,O⟩;have H2:=AA O;clear O C vs c5);go_returns;exact⟨rfl,by rw[jK];exact H2.u⟩
theorem YB{l:List Bx}{k:Nat}{x:Bx}(h:l[k]?=some x)(wh:Int):Al (l.take (k+1)) wh=Al (l.take k) wh+Ee (Pz wh x):=by rw[DA h];unfold Al;rw[List.countP_append];simp[xt,Ee]
theorem Sy{ps:List Bx}(hq:w.cell? (g,6)=some qv)(hR:BK 3 DT w qv ps)(hl:ps.length=16)(wh:Int):
 Ξ prog 55 #[.pointer g,.int .i64 wh] w (λr w'=>r=.returned (.int .i64 (Al ps wh:Int))/\Γ w w w'):=by
 obtain⟨a,c,rfl,_⟩:=hR.shape;have H0:=VE.of F7 ψ hR;rw[hl] at hq;go_in;go_wp2_with fail;go_loopw [5,7,13] (λn _ ix wr=>∃k:Nat,k<=16/\ix=.int .i64 k/\n=.int .i64 (Al (ps.take k) wh:Int)/\Γ w w wr) (λ_ _ ix _=>16 - (intOf ix).toNat)
 exact⟨0,ω,rfl,rfl,yN _ _⟩
 obtain⟨k,N,rfl,rfl,A⟩:=hrel
 by_cases ao:k<16
 .obtain⟨x,hx⟩:∃x,ps[k]?=some x:=⟨_,yG ω⟩
  obtain⟨b,bx,rfl,cl,hc⟩:=(H0.below A) k x hx;have D0:=hc 0 _ rfl;have D1:=hc 1 _ rfl;have D2:=hc 2 _ rfl;rw[xT] at D0;have Nx:=AA (YB hx wh);have md:Al (ps.take k) wh<=16:=by unfold Al;exact yM vX (by rw[ym];omega)
  generalize Al (ps.take k) wh=n at*;have qh:(k:Int)<16:=ω;obtain⟨xw,xa,xu⟩:=x;have bw:=AA (A.trans ((AJ wr (.cells #[xw,xa,xu] 87)).mono A.size));clear hc hx H0 hR
  by_cases hw:xw=wh
  focus
   subst hw
   have t1:Ee (Pz xw ⟨xw,xa,xu⟩)=1:=by simp[Pz,Ee]
  rotate_left
  focus
   have t1:Ee (Pz wh ⟨xw,xa,xu⟩)=0:=by simp[Pz,Ee,hw]
   have t2:(xw==wh)=false:=by simp[hw]
   clear hw
  rotate_left
  all_goals
   go_wp2;go_roundw;exact⟨k+1,ω,ξ,by rw[Nx.u,t1];go_num,bw.u⟩;simp[intOf];omega
 obtain rfl:k=16:=ω;rw[xm ω];go_wp2;go_ret;exact⟨rfl,A⟩
theorem IU (D:List Φ):Ce HJ D=D:=by
 induction D with
 |nil=>rfl
 |cons v D ih=>rw[Ia,ih];rfl
variable{S:List (List Int)}
theorem Ay.set{gs:Nat}{v':Φ}{r:List Int}(h:Ay lo w0 (.slice gs n cq) D S)(A:Γ w0 w0 w)(hO:AE B w v' r)(hB:w0.heap.size<=B)(bD:lo<=w0.heap.size)(hn:n=D.length)(K:j<D.length):
 Ay lo (w.setCell (gs,j) v') (.slice gs n cq) (D.set j v') (S.set j r)/\w.grownBy (w.setCell (gs,j) v') (some gs):=by
 have h':=h.below A;obtain⟨L,⟨nZ,O⟩,h3⟩:=h';have g1:w.ownsRow lo 29 1 (.slice gs n cq) n D:=by have:=L;unfold AQ at this;rw[IU,<-hn] at this;exact this
 obtain⟨s1,s2⟩:=wj g1 j v';obtain⟨j8,g5⟩:=A7 g1 gs rfl;have old:∀(i:Nat) u,D[i]?=some u->∀b,u.ownBlock=some b->b<w0.heap.size:=λi u hu b j4=>by
  obtain⟨x,hx⟩:∃x,S[i]?=some x:=⟨_,yG (by rw[<-nZ];exact(yA.1 hu).1)⟩
  exact(yC (h.2.1.2 i u x hu hx) b j4).2
 refine⟨⟨?_,⟨by rw[yh,yh];exact nZ,λi u x hu hx=>?_⟩,λi k u u' oX hu jS=>?_⟩,s2⟩
 .unfold AQ
  rw[IU,yh,<-hn];exact s1
 .rw[vW] at hu hx
  by_cases e:j=i
  .subst e
   rw[if_pos rfl,if_pos K] at hu;rw[if_pos rfl,if_pos (by rw[<-nZ];exact K)] at hx;cases hu;cases hx;exact Eu (Bb hO (yM bD hB)) s2 g5
  rw[if_neg e] at hu hx
  exact Eu (O i u x hu hx) s2 g5
 have fresh:∀b,v'.ownBlock=some b->w0.heap.size<=b:=λb j4=>yM hB (yC hO b j4).1
 rw[vW] at hu jS
 by_cases e:j=i
 .subst e
  rw[if_pos rfl,if_pos K] at hu;rw[if_neg oX] at jS;cases hu;intro b bl bf;have:=fresh b bl;have:=old k u' jS b bf;omega
 rw[if_neg e] at hu
 by_cases e':j=k
 .subst e'
  rw[if_pos rfl,if_pos K] at jS;cases jS;intro b bl bf;have:=fresh b bf;have:=old i u hu b bl;omega
 rw[if_neg e'] at jS
 exact h3 i k u u' oX hu jS
theorem WM (v:Φ)(r:List Int)(w:Ω)(h:A1 w v r):Ξ prog 242 #[v] w λe w'=>e=.returned (.bool r.isEmpty)/\Γ w w w':=by obtain⟨a,c,rfl,_,_,_⟩:=h.open;have S:=AA (show((r.length:Int)==0)=r.isEmpty by cases r<;>simp<;>omega);go_in;go_wp2;go_ret;exact⟨AF S.u,yN _ _⟩
theorem Xb{r:List Int}(hs:Ay lo w sv D S)(hl:S.length=16)(bD:lo<=w.heap.size)(hr:A1 w v r)(h4:r.length<=4){j:Nat}(K:Bs S=(j:Int))(qD:j<16):
 Ξ prog 199 #[sv,v] w (λe w'=>e=.returned (.int .i64 j)/\(∃fm,Ay lo w' sv fm (S.set j r))/\Γ lo w w'/\w.grownBy w' sv.ownBlock):=by
 have cr:D.length=16:=by rw[hs.2.1.1,hl]
 have C:=Kf 242 #[] List.isEmpty sv S w hs.rd (λ_ _=>φ) (λu r _ W _ hr=>WM u r W hr);rw[show GV List.isEmpty S=(j:Int) from K] at C;obtain⟨gs,cq,rfl,c1,c2,q1,q2,io⟩:=hs.1.zW ω;rw[cr] at hs C ⊢;have xf:¬(j:Int)<0:=ω;have xe:(j:Int)<16:=ω;go_in;go_wp2_with fail;refine C.mono ?_;rintro e w1 ⟨rfl,b1⟩;go_wp2_with fail;refine(JQ v r w1 (hr.below b1) ω).mono ?_;rintro e w2 ⟨v',rfl,hO,b2⟩;have bb:=b1.trans (b2.mono b1.size);have hi:=hs.set (B:=w1.heap.size) (j:=j) bb hO b1.size bD cr.symm ω;have g1:w2.ownsRow lo 29 1 (.slice gs 16 cq) 16 D:=by have:=(hs.below bb).1;unfold AQ at this;rwa [IU,cr] at this
 have C1:=xO g1 j ω;rw[yG ω] at C1;have F1:=xU g1 j;have B1:=AA (AM (bb.mono bD) hi.2 (yC hs.1 gs rfl).1 (yM bD bb.size));have G1:=AA (AO (⟨bb.os,bb.tape,bb.output,bb.size,λk N _=>bb.block k N⟩:w.grownBy w2 (some gs)) hi.2);have R1:=AA hi.1;have z7:(16:Int)<=cq:=ω;obtain⟨ra,rn,rc,rfl⟩:=ND hO;clear C hO hi g1 b1 b2 bb io;go_wp2;go_ret;exact⟨rfl,⟨_,R1.u⟩,B1.u,G1.u⟩
variable{Zh:List AX}
theorem Yf (N:VI (JR Zh f)):Gp Zh f=(decide ((JR Zh f).g=gA)&&decide ((JR Zh f).r=1)&&decide ((JR Zh f).k≠0)):=by
 unfold Gp
 by_cases h:(JR Zh f).g=gA
 .have:(JR Zh f).k≠0:=λe=>by
   rcases N with⟨_,g⟩|⟨a,_⟩
   .rw[h] at g;cases g
   omega
  simp[this]
 simp[h]
theorem OA (R:w.cell? (g,1)=some iv)(hR:BK 3 Av w iv Zh)(hl:Zh.length=12)(hf:f<12)(N:VI (JR Zh f)):
 Ξ prog 107 #[.pointer g,.int .i64 f] w (λr w'=>r=.returned (.bool (Gp Zh f))/\Γ w w w'):=by
 have hW:=AA (Yf N);obtain⟨a,c,rfl,nR,me⟩:=hR.shape;have H0:=VE.of Az ψ hR;have hx:Zh[f]?=some (JR Zh f):=Cg ω;obtain⟨b,bx,rfl,cl,hc⟩:=H0 f _ hx;have D0:=hc 0 _ rfl;have D1:=hc 1 _ rfl;have D2:=hc 2 _ rfl;rw[xT] at D0;rw[hl] at R;have l8:(f:Int)<12:=ω;generalize JR Zh f=x at*;obtain⟨k,gd,r⟩:=x;dsimp only at D0 D1 D2 hW;clear hc H0 hR hx N hl;have eg:gd=gA↔gd.toList=[97]:=⟨λh=>by subst h;rw[xA];rfl,λh=>by rw[xA] at h;cases gd with|mk d=>cases d with|mk l=>simp at h;subst h;rfl⟩
 by_cases H:gd.toList=[97]
 .have t1:(gd.toList==[97])=true:=by simp[H]
  by_cases hr:r=1
  .subst hr
   have t3:(k !=0)=decide (k≠0):=by by_cases h:k=0<;>simp[h]
   have E2:=AA (show Gp Zh f=(k !=0) by rw[hW.u,t3];simp[eg.2 H]);clear H eg hW t3;go_in;go_wp2;go_ret;exact⟨AF E2.symm,AJ _ _⟩
  have t2:(r==1)=false:=by simp[hr]
  have E2:=AA (show Gp Zh f=false by rw[hW.u];simp[hr]);clear H eg hW hr;go_in;go_wp2;go_ret;exact⟨AF E2.symm,AJ _ _⟩
 have t1:(gd.toList==[97])=false:=by simp[H]
 have E2:=AA (show Gp Zh f=false by rw[hW.u];simp[eg,H]);clear H eg hW;go_in;go_wp2;go_ret;exact⟨AF E2.symm,AJ _ _⟩
theorem aj (hB:w.heap[g]?=some (.cells #[mv,iv,ev,cv,sv,lv,qv,P.FU,P.VO] 32 (0,0)))(h:JA w mv iv ev cv sv lv qv P)(hm:P.V0.mem.length=12)(hr:∀f,f<12->(AK P.V0.mem f).length=4)(jK:P.low.length=4){n:Nat}(hn:n<16)(bD:0<=Bd P.low (n/4)/\Bd P.low (n/4)<=11):
 Ξ prog 112 #[.pointer g,.int .i64 n] w (λr w'=>r=.returned (.int .i64 (CZ P n))/\Γ w w w'):=by
 unfold CZ Aw;obtain⟨ja,ha⟩:∃ja,ja=n/4:=⟨_,rfl⟩
 obtain⟨jb,A⟩:∃jb,jb=n%4:=⟨_,rfl⟩
 rw[<-ha] at bD ⊢;rw[<-A];have q1:(n:Int)/4=(ja:Int):=ω;have q2:(n:Int)%4=(jb:Int):=ω;have v5:(n:Int).tmod 4=(jb:Int):=by rw[Int.tmod_eq_emod_of_nonneg ω];exact q2
 have jv:jb<4:=ω;have qW:ja<4:=ω;obtain⟨x0,_,_,_,_,x5,_⟩:=AC hB;have H:=AU hB;obtain⟨al,lc,rfl,_,_,HL⟩:=h.2.2.1.open;obtain⟨lb,kF,rfl,DL⟩:=HL.at (k:=ja) ω;have oS:=yK w _ DL;replace DL:w.cell? (lb,kF+ja)=some (.int .i64 (Bd P.low ja)):=DL;obtain⟨f,hf⟩:∃f:Nat,Bd P.low ja=(f:Int):=⟨(Bd P.low ja).toNat,ω⟩
 rw[hf] at DL bD ⊢;have el:f<12:=ω;obtain⟨D,o1,o2⟩:=h.1.1;have cr:D.length=12:=by rw[o2.1,hm]
 obtain⟨am,cm,rfl,nQ,_,HM⟩:=BK.open Eh ψ o1;obtain⟨u,hu⟩:∃u,D[f]?=some u:=⟨_,yG ω⟩
 have ej:=o2.2 f u (AK P.V0.mem f) hu (by unfold AK;exact A6 ω);obtain⟨gm,mX,rfl,jY,lM⟩:=HM f u hu;have DR:=lM 0 _ rfl;obtain⟨ar,rc,rfl,_,_,lD⟩:=ej.open;obtain⟨rb,lO,rfl,DW⟩:=lD.at (k:=jb) (by rw[hr f el];exact jv);have qo:=yK w _ DW;rw[wZ,xT,hr f el] at DR;rw[cr] at x0;rw[jK] at x5;rw[show((f:Int)).toNat=f from rfl];have l8:(f:Int)<12:=ω;have o9:(ja:Int)<4:=ω;have fk:(jb:Int)<4:=ω;unfold nth at DW;generalize(AK P.V0.mem f).getD jb 0=wd at DW ⊢;clear h hm hr jK bD hf o1 o2 ej hu cr nQ ha A HL HM lD lM hB;go_in;go_wp2_with fail;refine Ac 19 24 [.p g 0,.p g 0,.p g 0,.p g 0,.v (.slice (some ⟨gm,mX,none⟩) 12 cm),.p g 0,.p g 0,.p g 5,.v (.slice (some ⟨lb,kF,none⟩) 4 lc),.i ((n:Int)),.i ((ja:Int)),.p lb (kF+ja),.i ((f:Int)),.p gm (mX+f),.v (.slice (some ⟨rb,lO,none⟩) 4 rc),.i ((n:Int)),.i ((jb:Int)),.p rb (lO+jb),.i wd] (λ_ _ _=>True) ?_ ?_
 .intro i R o V a wx z J Y hj Z
  have bp:=bc Y H x5;have bL:=bc Y oS DL;have eL:=bc Y jY DR;have fp:=bc Y qo DW
  match i,R with
  |0,_|1,_|2,_|3,_|5,_|6,_|7,_|9,_|15,_=>exact sP V Z z J
  |4,_=>exact sL V Z z J (hl:=GZ (bc Y H x0))
  |8,_|14,_=>exact sL V Z z J (hl:=K5 ‹_›)
  |11,_|13,_|17,_=>exact sI V Z z J (hr:=by clear J z Z;go_simp)
  |12,_|18,_=>exact sL V Z z J (hl:=GO ‹_›)
  |10,_=>clear bp bL eL fp;obtain rfl:=yP V;have d9:(a.tmps[14]?.getD Θ)=.int .i64 n:=Bc J 9;clear J z;refine yO ?_;go_simp;exact Z _ _ (by show yl .i64 (IntKind.i64.wrap _)=_;rw[IntWalk.i64_in _ ω]) (yN _ _)
  |16,_=>clear bp bL eL fp;obtain rfl:=yP V;have mt:(a.tmps[20]?.getD Θ)=.int .i64 n:=Bc J 15;clear J z;refine yO ?_;go_simp;exact Z _ _ rfl (yN _ _)
  |_+19,hq=>omega
 intro D wx hR Y
 have oD:(D 18)=.int .i64 wd:=Bh hR 18;clear hR;simp only[Ai,Ae,yL,yI,yJ,yH,oD];simp;clear oD;go_wp2;go_ret;exact⟨rfl,Y⟩
theorem Pq{p:Nat->Bool}{k:Nat}(N:k<n)(h:p k=false):(yL n).all p=false:=xj.2 ⟨k,yi.2 N,by simp[h]⟩
theorem PP (hB:w.heap[g]?=some (.cells #[mv,iv,ev,cv,sv,lv,qv,P.FU,P.VO] 32 (0,0)))(h:JA w mv iv ev cv sv lv qv P)(hK:DZ P.V0):
 Ξ prog 51 #[.pointer g] w (λr w'=>r=.returned (.bool (Cb P))/\Γ w w w'):=by
 have T:Cb P=(decide (0<=Ab P.V0 0)&&decide (P.low.length=4)&&Gp P.V0.Zh (Ab P.V0 0).toNat&&(yL 4).all (Ga P)):=rfl;have h1:∀i,Ga P i=(Bj (Bd P.low i) 0 11&&decide (Aw P.V0.mem (Ab P.V0 0).toNat i=Ip (Bd P.low i))&&Gp P.V0.Zh (Bd P.low i).toNat):=λi=>rfl
 obtain⟨x0,x1,x2,_,_,x5,_⟩:=AC hB;obtain⟨ps,l9,kt⟩:=h.1.2.2.1;have il:ps.length=3:=by rw[kt.1,hK.zX]
 obtain⟨ae,ce,rfl,_,_,HE⟩:=BK.open Gb ψ l9;obtain⟨p0,hp0⟩:∃p,ps[0]?=some p:=⟨_,yG ω⟩
 obtain⟨ge,rg,rfl,_,jj⟩:=HE 0 p0 hp0;have DE:=jj 1 _ rfl;rw[show p0.2=Ab P.V0 0 from(kt.2 0 p0 (AH P.V0.Xr 0) hp0 (by unfold AH;exact A6 (by rw[hK.zX];omega))).2,Nat.zero_mul,xT] at DE;rw[il] at x2;obtain⟨al,lc,rfl,qy,jh,HL⟩:=h.2.2.1.open;unfold maxLen at jh;have lj:=h.1.2.1;have kW:=hK.len;have li:=AA hK.inf
 rcases hK.roots 0 ω with hr|⟨lY,jr,lX⟩
 .have S:=AA (show Cb P=false by rw[T,hr];rfl)
  rw[hr] at DE;clear T h1 hr lj li kW HL h hB hK;go_in;go_wp2;go_ret;exact⟨AF S.symm,yN _ _⟩
 obtain⟨rn,hrn⟩:∃n:Nat,Ab P.V0 0=(n:Int):=⟨(Ab P.V0 0).toNat,ω⟩
 have jI:rn<12:=ω;simp only[hrn,yq] at T h1;rw[hrn] at DE;have nr:¬(rn:Int)<0:=ω;by_cases km:P.low.length=4
 .have CR:=AA (λW (E:Γ w w W)=>OA (w:=W) (f:=rn) ((E.cell (yK w _ x1)).trans x1) (BK.below lj E) kW jI (li rn jI))
  obtain⟨D,o1,o2⟩:=h.1.1;have cr:D.length=12:=by rw[o2.1];exact(Aj.1 hK.mem).1
  obtain⟨am,cm,rfl,_,_,HM⟩:=BK.open Eh ψ o1;obtain⟨u,hu⟩:∃u,D[rn]?=some u:=⟨_,yG ω⟩
  have ej:=o2.2 rn u (AK P.V0.mem rn) hu (by unfold AK;exact A6 (by rw[<-o2.1];omega));have gp:(AK P.V0.mem rn).length=4:=(BB.1 ((Aj.1 hK.mem).2 rn jI)).1;obtain⟨gm,mX,rfl,_,lM⟩:=HM rn u hu;have DR:=lM 0 _ rfl;obtain⟨ar,rc,rfl,_,_,lD⟩:=ej.open;rw[wZ,xT,gp] at DR;rw[cr] at x0;rw[km] at x5;have HF:=AA (yj x0 (yj x1 (yj x5 DR)));have mE:=AA (yj lD (yj gp (yj HL km)));have wf:(0:Int)<=(rn:Int):=ω;have T2:=AA (show Cb P=(Gp P.V0.Zh rn&&(yL 4).all (Ga P)) by rw[T];simp[km]);have s0:=AA h1;have CI:=AA (λ(f:Nat)(hf:f<12) W (E:Γ w w W)=>OA (w:=W) (f:=f) ((E.cell (yK w _ HF.2.1)).trans HF.2.1) (BK.below lj E) kW hf (li f hf));clear T h1 lY jr lX hrn lj li kW HL h hB hK o1 o2 ej hu cr HM lM lD gp qy DR km x1;cases hm:Gp P.V0.Zh rn
  .rw[hm] at CR T2
   go_in;go_wp2_with (refine(CR _ (yN _ _)).mono ?_;rintro r w1 ⟨rfl,b1⟩);go_ret;exact⟨AF T2.symm,b1⟩
  rw[hm] at CR T2
  go_in;go_wp2_with fail;refine(CR _ (yN _ _)).mono ?_;rintro r w1 ⟨rfl,b1⟩;replace x5:=(b1.cell (yK w _ x5)).trans x5;have bu:=AA b1;clear x0 x2 DE b1;go_wp2_with fail;clear x5;go_loopw [4,5,6,7,37] (λ_ _ _ _ ix wr=>∃k:Nat,k<=4/\ix=.int .i64 k/\(∀j,j<k->Ga P j=true)/\Γ w w wr) (λ_ _ _ _ ix _=>4 - (intOf ix).toNat)
  exact⟨0,ω,rfl,λj K=>ω,bu.u⟩
  obtain⟨k,N,rfl,bs,A⟩:=hrel
  by_cases ao:k<4
  .have k4:(k:Int)<4:=ω
   obtain⟨lb,kF,rfl,DL⟩:=mE.2.2.1.at (k:=k) (by rw[mE.2.2.2];exact ao);obtain⟨rb,lO,rfl,DW⟩:=mE.1.at (k:=k) (by rw[mE.2.1];exact ao);replace DL:=(A.cell (yK w _ DL)).trans DL;replace DW:=(A.cell (yK w _ DW)).trans DW;have x0:=(A.cell (yK w _ HF.1)).trans HF.1;have DR:=(A.cell (yK w _ HF.2.2.2)).trans HF.2.2.2;have ft:=AA bs;have z:=AA A;have LK:=s0 k;replace DL:wr.cell? (lb,kF+k)=some (.int .i64 (Bd P.low k)):=DL;replace DW:wr.cell? (rb,lO+k)=some (.int .i64 (Aw P.V0.mem rn k)):=DW;generalize Bd P.low k=v at DL LK;generalize Aw P.V0.mem rn k=wd at DW LK;clear bs A;cases cC:Bj v 0 11
   .have S:=AA (show Cb P=false by rw[T2.u,Pq ao (by rw[LK,cC];rfl)];rfl)
    clear LK;go_wp2_with (refine(QJ v true _ cC).mono ?_;rintro r w3 ⟨rfl,rfl⟩);go_ret;exact⟨AF S.symm,z.u⟩
   have hv:=Aa.1 cC
   obtain⟨f,rfl⟩:∃f:Nat,v=(f:Int):=⟨v.toNat,ω⟩
   have hf:f<12:=ω;have CF:=AA (CI f hf wr z.u);rw[cC,yq] at LK;go_wp2_with fail;refine(J1 (f:Int) _ hv.1 hv.2).mono ?_;rintro r w3 ⟨rfl,rfl⟩
   by_cases he:wd=Ip (f:Int)
   .have t1:(wd !=Ip (f:Int))=false:=by simp[he]
    have mB:Ga P k=Gp P.V0.Zh f:=by rw[LK];simp[he]
    generalize Ip (f:Int)=en at t1;clear LK he cC;go_wp2_with fail;refine CF.mono ?_;rintro r w4 ⟨rfl,b4⟩;have ke:=AA (z.trans (b4.mono z.size));cases oP:Gp P.V0.Zh f
    .have S:=AA (show Cb P=false by rw[T2.u,Pq ao (by rw[mB,oP])];rfl)
     clear mB b4;go_wp2;go_ret;exact⟨AF S.symm,ke.u⟩
    have rs:=AA (mB.trans oP)
    clear mB b4;go_wp2;go_roundw
    case rel=>exact⟨k+1,ω,ξ,λj K=>by
     rcases xC.1 K with x|x
     .exact ft j x
     subst x;exact rs.u,ke.u⟩
    case measure=>simp[intOf];omega
   have t1:(wd !=Ip (f:Int))=true:=by simp[he]
   have S:=AA (show Cb P=false by rw[T2.u,Pq ao (by rw[LK];simp[he])];rfl);generalize Ip (f:Int)=en at t1;clear LK he cC;go_wp2;go_ret;exact⟨AF S.symm,z.u⟩
  obtain rfl:k=4:=ω;have S:=AA (show Cb P=true by rw[T2.u,Bool.true_and];exact yr.2 λj K=>bs j (yi.1 K));clear bs;rw[show((4:Nat):Int)=4 from rfl];go_wp2;go_ret;exact⟨AF S.symm,A⟩
 have S:=AA (show Cb P=false by rw[T];simp[km])
 have t4:((P.low.length:Int) !=4)=true:=η;clear T h1 lY jr lX hrn lj li kW HL h hB hK km;go_in;go_wp2;go_ret;exact⟨AF S.symm,yN _ _⟩
def FL(P:AP)(n:Nat):Bool:=
 if(AD P.Xs n).w=0 then decide ((AD P.Xs n).a=0)&&!(AD P.Xs n).u&&decide (CZ P n=0)
 else if(AD P.Xs n).w=1 then Bj (AD P.Xs n).a 0 11&&decide (CZ P n=Ip (AD P.Xs n).a)&&Gp P.V0.Zh (AD P.Xs n).a.toNat
 else if(AD P.Xs n).w=2 then Bj (AD P.Xs n).a 0 15&&!(AD P.Xs n).u&&decide (CZ P n=0)
 else false
def Gz(ks:List Int)(x:Bx):List Int:=if x.w=2 then ks.set x.a.toNat (nth ks x.a.toNat+1) else ks
def KD(lo:Nat)(v:Φ)(w:Ω):Prop:=∃q,v=.pointer (some ⟨q,0,none⟩)/\lo<=q/\w.heap[q]?=some (.cells #[θ,θ,υ] 87 (0,0))
theorem KD.below (h:KD lo v w)(A:Γ w w w'):KD lo v w':=by obtain⟨q,L,O,h3⟩:=h;exact⟨q,L,O,AB h3 A⟩
def VK(lo:Nat)(w:Ω)(kv:Φ)(ks:List Int)(b:Bool)(r:Ending)(w':Ω):Prop:=r=.returned (.bool b)/\AE lo w' kv ks/\w.grownBy w' kv.ownBlock/\Γ lo w w'
theorem Yl{kv:Φ}(hB:w.heap[g]?=some (.cells #[mv,iv,ev,cv,sv,lv,qv,P.FU,P.VO] 32 (0,0)))(h:JA w mv iv ev cv sv lv qv P)(hK:DZ P.V0)(jK:P.low.length=4)(bD:∀i,i<4->0<=Bd P.low i/\Bd P.low i<=11)(il:P.Xs.length=16)
 (N:AE lo w kv ks)(jX:ks.length=16)(cd:∀j,j<16->0<=nth ks j/\nth ks j<=1000)(iU:lo<=w.heap.size){n:Nat}(hn:n<16):
 Ξ prog 53 #[.pointer g,.int .i64 n,kv] w (λr w'=>∃ki,VK lo w kv ki (FL P n) r w'/\(FL P n=true->ki=Gz ks (AD P.Xs n))):=by
 have CW:=AA (λW (E:Γ w w W)=>aj (w:=W) (AB hB E) (h.below E) (Aj.1 hK.mem).1 (λf hf=>(BB.1 ((Aj.1 hK.mem).2 f hf)).1) jK hn (bD (n/4) ω));have x6:=(AC hB).2.2.2.2.2.2.1;have x1:=(AC hB).2.1;have CM:=AA (λ(f:Nat)(hf:f<12) W (E:Γ w w W)=>OA (w:=W) (f:=f) ((E.cell (yK w _ x1)).trans x1) (BK.below h.1.2.1 E) hK.len hf (hK.inf f hf));obtain⟨aq,qc,rfl,jt,fy,HQ⟩:=BK.open F7 ψ h.2.2.2;rw[il] at x6 jt;obtain⟨qb,oC,rfl,nz,hc⟩:=HQ n _ (show P.Xs[n]?=some (AD P.Xs n) from A6 ω);have D0:=hc 0 _ rfl;have D1:=hc 1 _ rfl;have D2:=hc 2 _ rfl;rw[xT] at D0;have H:=AU hB;have PH:FL P n=(if(AD P.Xs n).w=0 then decide ((AD P.Xs n).a=0)&&!(AD P.Xs n).u&&decide (CZ P n=0) else if(AD P.Xs n).w=1 then Bj (AD P.Xs n).a 0 11&&decide (CZ P n=Ip (AD P.Xs n).a)&&Gp P.V0.Zh (AD P.Xs n).a.toNat else if(AD P.Xs n).w=2 then Bj (AD P.Xs n).a 0 15&&!(AD P.Xs n).u&&decide (CZ P n=0) else false):=rfl;generalize FL P n=res at PH ⊢;generalize CZ P n=tw at PH CW;generalize AD P.Xs n=x at PH D0 D1 D2 ⊢;obtain⟨xw,xa,xu⟩:=x;dsimp only at PH D0 D1 D2;have nD:(n:Int)<16:=ω;have jn:=AA PH;have pC:=AA N;clear PH hc HQ h hB hK jK bD il x1 jt fy N;obtain⟨ka,kn,kc,rfl⟩:=ND pC.u;go_in;go_wp2_with fail;refine A9 11 78 [.p g 0,.p g 0,.p g 6,.v (.slice (some ⟨qb,oC,none⟩) 16 qc),.i ((n:Int)),.p qb (oC+n*3),.a #[.int .i64 xw,.int .i64 xa,.bool xu],.p g 0,.i ((n:Int)),.i tw,.z] (λix vv ww=>match ix with
  |10=>KD w vv ww
  |_=>True) ?_ ?_ ?_
 .intro i R o V a wx z J Y hj Z
  match i,R with
  |0,_|1,_|2,_|4,_|7,_|8,_=>exact sP V Z z J
  |3,_=>exact sL V Z z J (hl:=eU (bc Y H x6))
  |5,_=>exact sI V Z z J (hr:=by clear J z Z;go_simp)
  |6,_=>exact sL V Z z J (hl:=iD (bc Y nz D0) (bc Y nz D1) (bc Y nz D2))
  |9,_=>exact sD V Z z J (CW _ Y)
  |10,_=>obtain rfl:=yP V;clear J z;refine yO ?_;go_simp;exact Z _ _ ⟨_,rfl,Y.size,yx _ _⟩ (AJ _ _)
 .intro i R vv wz jo em hz
  match i,R with
  |10,_=>exact(KD.below hz em)
  |0,_|1,_|2,_|3,_|4,_|5,_|6,_|7,_|8,_|9,_=>exact hz
 intro D wx hR Y
 have q6:(D 6)=.agg #[xw,xa,xu]:=Bh hR 6;have q9:(D 9)=.int .i64 tw:=Bh hR 9;have kD:KD w (D 10) wx:=Bh hR 10;clear hR;simp only[Ai,Ae,yL,yI,yJ,yH,q6,q9];simp;generalize D 10=z10 at kD ⊢;clear q6 q9;obtain⟨q,rfl,kl,js⟩:=kD;have c0:=yy _ _ 0 _ _ _ js;have oe:=yy _ _ 1 _ _ _ js;have c2:=yy _ _ 2 _ _ _ js;have fq:=AI js;have Pl:=QD (W:=w) (a:=.int .i64 xw) (b:=.int .i64 xa) (c:=.bool xu) js Y kl;go_step;go_simp;clear c0 oe c2 fq js Y D0 D1 D2 x6;generalize((wx.setCell _ _).setCell _ _).setCell _ _=W1 at*;have y0:=yy _ _ 0 _ _ _ Pl.1;have y1:=yy _ _ 1 _ _ _ Pl.1;have y2:=yy _ _ 2 _ _ _ Pl.1;have dr:=AA Pl.2;have jy:=AA (show AE lo W1 (.slice ka kn kc) ks from pC.below Pl.2);have NO:=AA (λ(W:Ω)(E:Γ W1 W1 W)(b:Bool)(A:res=b)(jg:xw≠2∨b=false)=>(⟨ks,⟨by rw[A],jy.below E,⟨(dr.trans (E.mono dr.size)).os,(dr.trans (E.mono dr.size)).tape,(dr.trans (E.mono dr.size)).output,(dr.trans (E.mono dr.size)).size,λk N _=>(dr.trans (E.mono dr.size)).block k N⟩,(dr.trans (E.mono dr.size)).mono iU⟩,λht=>by
  rcases jg with x|x
  .unfold Gz;rw[if_neg x]
  rw[A,x] at ht;cases ht⟩:∃ki,VK lo w (.slice ka kn kc) ki res (.returned (.bool b)) W/\(res=true->ki=Gz ks ⟨xw,xa,xu⟩)))
 clear Pl
 by_cases h0:xw=0
 .subst h0
  by_cases ha:xa=0
  .have t1:(xa==0)=true:=by simp[ha]
   cases xu
   .have hi:=AA (show res=(tw==0) by rw[jn.u];simp[ha];by_cases h:tw=0<;>simp[h])
    clear ha;go_wp2;go_ret;exact NO _ (yN _ _) _ hi (.inl ψ)
   have hi:=AA (show res=false by rw[jn.u];simp)
   clear ha;go_wp2;go_ret;exact NO _ (yN _ _) _ hi (.inl ψ)
  have t1:(xa==0)=false:=by simp[ha]
  have hi:=AA (show res=false by rw[jn.u];simp[ha]);clear ha;go_wp2;go_ret;exact NO _ (yN _ _) _ hi (.inl ψ)
 have n0:(xw==0)=false:=by simp[h0]
 by_cases L:xw=1
 .subst L
  cases cC:Bj xa 0 11
  .have hi:=AA (show res=false by rw[jn.u,cC];rfl)
   go_wp2_with (refine(QJ xa true _ cC).mono ?_;rintro r w3 ⟨rfl,rfl⟩);go_ret;exact NO _ (yN _ _) _ hi (.inl ψ)
  have hv:=Aa.1 cC
  obtain⟨f,rfl⟩:∃f:Nat,xa=(f:Int):=⟨xa.toNat,ω⟩
  have hf:f<12:=ω;have CF:=AA (CM f hf W1 dr.u);have R0:res=(decide (tw=Ip (f:Int))&&Gp P.V0.Zh f):=by rw[jn.u,cC];simp
  go_wp2_with fail;refine(J1 (f:Int) _ hv.1 hv.2).mono ?_;rintro r w3 ⟨rfl,rfl⟩
  by_cases he:tw=Ip (f:Int)
  .have hi:=AA (show res=Gp P.V0.Zh f by rw[R0];simp[he])
   have t1:(tw==Ip (f:Int))=true:=by simp[he]
   generalize Ip (f:Int)=en at t1;clear R0 he cC;go_wp2_with (refine CF.mono ?_;rintro r w4 ⟨rfl,b4⟩;have jA:=AA b4;clear b4);go_ret;exact NO _ jA _ hi (.inl ψ)
  have hi:=AA (show res=false by rw[R0];simp[he])
  have t1:(tw==Ip (f:Int))=false:=by simp[he]
  generalize Ip (f:Int)=en at t1;clear R0 he cC;go_wp2;go_ret;exact NO _ (yN _ _) _ hi (.inl ψ)
 have n1:(xw==1)=false:=by simp[L]
 by_cases O:xw=2
 .subst O
  cases cC:Bj xa 0 15
  .have hi:=AA (show res=false by rw[jn.u,cC];rfl)
   go_wp2_with (refine(EL _ _ _ _).mono ?_;rintro r w3 ⟨rfl,rfl⟩;rw[cC]);go_ret;exact NO _ (yN _ _) _ hi (.inr rfl)
  have hv:=Aa.1 cC
  obtain⟨sl,rfl⟩:∃sl:Nat,xa=(sl:Int):=⟨xa.toNat,ω⟩
  have hY:sl<16:=ω;have nv:(sl:Int)<16:=ω;cases xu
  .by_cases ht:tw=0
   .have t1:(tw !=0)=false:=by simp[ht]
    have hi:=AA (show res=true by rw[jn.u,cC];simp[ht]);have A:=cd sl hY;obtain⟨kb,qg,ek,wN,KC⟩:=KU jy (j:=sl) ω;cases ek;rw[jX] at jy ⊢;replace KC:W1.cell? (kb,sl)=some (.int .i64 (nth ks sl)):=KC;have bC:W1.ownsRow lo 3 1 (.slice kb 16 kc) 16 (ks.map (yl .i64)):=by have:=jy.u;unfold AE at this;rwa [jX] at this
    have FK:=xU bC sl;obtain⟨s1,s2⟩:=wj bC sl (.int .i64 (nth ks sl+1));have qu:=(yC bC kb rfl).1;have pk:=AA (show VK lo w (.slice kb 16 kc) (Gz ks ⟨2,(sl:Int),false⟩) true (.returned (.bool true)) (W1.setCell (kb,sl) (.int .i64 (nth ks sl+1))) from
     ⟨rfl,by
      show AE _ _ _ (ks.set sl (nth ks sl+1))
      unfold AE;rw[yh,vf,jX];exact s1,AO ⟨dr.os,dr.tape,dr.output,dr.size,λk N _=>dr.block k N⟩ s2,AM (dr.mono iU) s2 qu (yM iU dr.size)⟩)
    generalize nth ks sl=old at KC A pk;clear ht cC s1 s2 bC;go_wp2_with (refine(EL _ _ _ _).mono ?_;rintro r w3 ⟨rfl,rfl⟩;rw[show Bj (sl:Int) 0 15=true from Aa.2 hv]);go_ret;exact⟨_,by rw[hi.u,jX];exact pk.u,λ_=>rfl⟩
   have t1:(tw !=0)=true:=by simp[ht]
   have hi:=AA (show res=false by rw[jn.u,cC];simp[ht]);clear ht;go_wp2_with (refine(EL _ _ _ _).mono ?_;rintro r w3 ⟨rfl,rfl⟩;rw[cC]);go_ret;exact NO _ (yN _ _) _ hi (.inr rfl)
  have hi:=AA (show res=false by rw[jn.u,cC];simp)
  go_wp2_with (refine(EL _ _ _ _).mono ?_;rintro r w3 ⟨rfl,rfl⟩;rw[cC]);go_ret;exact NO _ (yN _ _) _ hi (.inr rfl)
 have n2:(xw==2)=false:=by simp[O]
 have hi:=AA (show res=false by rw[jn.u];simp[h0,L,O]);clear h0 L O;go_wp2;go_ret;exact NO _ (yN _ _) _ hi (.inr rfl)
theorem dB (ks:List Int)(x:Bx):(Gz ks x).length=ks.length:=by
 unfold Gz
 split
 .simp
 rfl
theorem dC{x:Bx}(hl:ks.length=16)(hx:x.w=2->0<=x.a/\x.a<=15)(s:Nat):nth (Gz ks x) s=nth ks s+(Ee (DK s x):Int):=by
 unfold Gz DK
 by_cases h:x.w=2
 .rw[if_pos h]
  have:=hx h;unfold nth;rw[yg,vW]
  by_cases e:x.a.toNat=s
  .subst e
   have e2:x.a=((x.a.toNat:Nat):Int):=ω;have A:Ee (decide (x.w=2)&&decide (x.a=((x.a.toNat:Nat):Int)))=1:=by rw[<-e2];simp[h,Ee]
   rw[if_pos rfl,if_pos ω,A];simp
  have A:Ee (decide (x.w=2)&&decide (x.a=(s:Int)))=0:=by
   have:x.a≠(s:Int):=ω;simp[this,Ee]
  rw[if_neg e,A];simp[yg]
 rw[if_neg h]
 have A:Ee (decide (x.w=2)&&decide (x.a=(s:Int)))=0:=by simp[h,Ee]
 rw[A];simp
theorem dA{l:List Bx}(hx:∀x∈l,x.w=2->0<=x.a/\x.a<=15)(hl:ks.length=16)(s:Nat):(l.foldl Gz ks).length=16/\nth (l.foldl Gz ks) s=nth ks s+(Cm l s:Int):=by
 induction l generalizing ks with
 |nil=>exact⟨hl,by simp[Cm]⟩
 |cons x l ih=>
  have I:=ih (λy hy=>hx y (List.mem_cons_of_mem _ hy)) (ks:=Gz ks x) (by rw[dB,hl]);refine⟨I.1,?_⟩;rw[yJ,I.2,dC hl (hx x (List.mem_cons_self ..))];unfold Cm;rw[xt];unfold Ee
  split<;>simp_all<;>omega
theorem ZJ (hl:P.Xs.length=16)(hs:(yL 16).all (ET P)=true){n:Nat}(hn:n<16):IC P n=FL P n:=by
 unfold IC FL
 by_cases h0:(AD P.Xs n).w=0
 .rw[if_pos h0,if_pos h0]
 rw[if_neg h0,if_neg h0]
 by_cases L:(AD P.Xs n).w=1
 .rw[if_pos L,if_pos L]
 rw[if_neg L,if_neg L]
 by_cases O:(AD P.Xs n).w=2
 .rw[if_pos O,if_pos O]
  cases cC:Bj (AD P.Xs n).a 0 15
  .simp
  have hv:=Aa.1 cC
  have V:=yr.1 hs (AD P.Xs n).a.toNat (yi.2 ω);unfold ET at V;rw[decide_eq_true_eq] at V;have hm:AD P.Xs n∈P.Xs:=by have:P.Xs[n]?=some (AD P.Xs n):=A6 ω;exact yv this
  have kO:0<Cm P.Xs (AD P.Xs n).a.toNat:=by
   unfold Cm;rw[List.countP_pos_iff];refine⟨_,hm,?_⟩;unfold DK;have:(AD P.Xs n).a=(((AD P.Xs n).a.toNat:Nat):Int):=ω;rw[<-this];simp[O]
  cases he:(AK P.swap (AD P.Xs n).a.toNat).isEmpty
  .simp
  rw[he,if_pos rfl] at V;omega
 rw[if_neg O,if_neg O]
theorem UI (P:AP):BN P=(Cx P.V0&&F9 P.swap&&decide (P.Xs.length=16)&&Cb P&&IN P.V0&&(yL 16).all (FL P)&&(yL 16).all (ET P)&&(Bj P.FU 0 15&&Bj P.VO 1 6&&decide ((Al P.Xs 1:Int)<=P.VO))):=by
 unfold BN
 by_cases hl:P.Xs.length=16
 .cases hs:(yL 16).all (ET P)
  .simp
  have:(yL 16).all (IC P)=(yL 16).all (FL P):=by
   rw[wW,yr,yr];exact⟨λh n hn=>by rw[<-ZJ hl hs (yi.1 hn)];exact h n hn,λh n hn=>by rw[ZJ hl hs (yi.1 hn)];exact h n hn⟩
  rw[this];cases Cx P.V0<;>cases F9 P.swap<;>cases IN P.V0<;>cases Cb P<;>cases(yL 16).all (FL P)<;>simp[hl,Bool.and_assoc]
 simp[hl]
theorem WU{k:Nat}(N:k<3)(h:Cd (BJ hj k) gA≠decide (k=0)):IN hj=false:=by
 unfold IN
 match k,N,h with
 |0,_,h=>simp at h;simp[h]
 |1,_,h=>simp at h;simp[h]
 |2,_,h=>simp at h;simp[h]
theorem Zl (h:∀j,j<3->Cd (BJ hj j) gA=decide (j=0)):IN hj=true:=by unfold IN;rw[h 0 ω,h 1 ω,h 2 ω];rfl
theorem YN (hl:P.Xs.length=16){k:Nat}(h:∀j,j<k->FL P j=true):∀x∈P.Xs.take k,x.w=2->0<=x.a/\x.a<=15:=by
 intro x hx hw;obtain⟨j,K⟩:=xN hx;have l6:j<k:=by have:=(yA.1 K).1;rw[ym] at this;omega
 rw[uV,if_pos l6] at K;have e:AD P.Xs j=x:=by unfold AD;rw[yg,K];rfl
 have:=h j l6;unfold FL at this;rw[e,if_neg ω,if_neg ω,if_pos hw] at this;simp only[yD] at this;exact Aa.1 this.1.1
theorem Tc (h:Cb P=true):P.low.length=4/\∀i,i<4->0<=Bd P.low i/\Bd P.low i<=11:=by
 unfold Cb at h;simp only[yD,decide_eq_true_eq,yr,yi] at h;refine⟨h.1.1.2,λi R=>?_⟩;have:=h.2 i R;unfold Ga at this;simp only[yD] at this;exact Aa.1 this.1.1
theorem GF (mv iv ev cv sv lv qv:Φ)(P:AP)(w:Ω)(h:JA w mv iv ev cv sv lv qv P)(hs:Gs P.V0):
 Ξ prog 19 #[AN mv iv ev cv sv lv qv P.FU P.VO] w (λr w'=>r=.returned (.bool (BN P))/\Γ w w w'):=by
 have Pt:=UI P;unfold AN;obtain⟨N0,b0⟩:=EU w (.cells #[mv,iv,ev,cv,sv,lv,qv,P.FU,P.VO] 32);have h0:=h.below b0;go_in;go_wp2_with fail;generalize w.alloc _=W0 at*;have C1:=AA (λW (E:Γ W0 W0 W)=>Pn mv iv ev cv P.V0 W (h0.1.below E) hs);have C2:=AA (λW (E:Γ W0 W0 W)=>Rl sv P.swap W (h0.2.1.below E));have cP:=AA b0;obtain⟨aq,qc,rfl,jt,fy⟩:=h0.2.2.2.shape;unfold maxLen at fy;have ao:w.heap.size<W0.heap.size:=AU N0;cases N:Cx P.V0
 .have S:=AA (show BN P=false by rw[Pt,N];rfl)
  rw[N] at C1;clear Pt;refine(C1 W0 (yN _ _)).mono ?_;rintro r w1 ⟨rfl,b1⟩;have HB:=AA (cP.trans (b1.mono cP.size));clear N0 b0 h h0 b1;go_wp2;go_ret;exact⟨AF S.symm,HB.u⟩
 rw[N] at C1;refine(C1 W0 (yN _ _)).mono ?_;rintro r w1 ⟨rfl,b1⟩;have x4:=(AC (AB N0 b1)).2.2.2.2.1;have B1:=AA b1;cases ei:F9 P.swap
 .have S:=AA (show BN P=false by rw[Pt,N,ei];rfl)
  have C:=C2 w1 b1;rw[ei] at C;clear Pt N0 b0 h h0 b1;go_wp2_with (refine C.mono ?_;rintro r w2 ⟨rfl,b2⟩;have HB:=AA (cP.trans ((B1.trans (b2.mono B1.size)).mono cP.size));clear b2);go_ret;exact⟨AF S.symm,HB.u⟩
 have C:=C2 w1 b1;rw[ei] at C;clear b1;go_wp2_with fail;refine C.mono ?_;rintro r w2 ⟨rfl,b2⟩;have B2:=AA (B1.trans (b2.mono B1.size));have x6:=(AC (AB N0 B2.u)).2.2.2.2.2.2.1;clear b2 C x4
 by_cases hl:P.Xs.length=16
 .rw[hl] at x6
  cases ht:Cb P
  .have S:=AA (show BN P=false by rw[Pt,N,ei,ht];simp)
   have C:=PP (AB N0 B2.u) (h0.below B2.u) (FI.1 N);rw[ht] at C;clear Pt N0 b0 h h0;go_wp2_with (refine C.mono ?_;rintro r w3 ⟨rfl,b3⟩;have HB:=AA (cP.trans ((B2.trans (b3.mono B2.size)).mono cP.size));clear b3);go_ret;exact⟨AF S.symm,HB.u⟩
  have C:=PP (AB N0 B2.u) (h0.below B2.u) (FI.1 N)
  rw[ht] at C;go_wp2_with fail;refine C.mono ?_;rintro r w3 ⟨rfl,b3⟩;have B3:=AA (B2.trans (b3.mono B2.size));have es:=AA (cP.trans (B3.mono cP.size));have hK:=FI.1 N;have h3:=h0.below B3.u;have N3:=AB N0 B3.u;obtain⟨ps,l9,kt⟩:=h3.1.2.2.1;have il:ps.length=3:=by rw[kt.1,hK.zX]
  obtain⟨ae,ce,rfl,qR,_,HE⟩:=BK.open Gb ψ l9;have x2:=(AC N3).2.2.1;rw[il] at x2;have mA:=AA (show BN P=(IN P.V0&&(yL 16).all (FL P)&&(yL 16).all (ET P)&&(Bj P.FU 0 15&&Bj P.VO 1 6&&decide ((Al P.Xs 1:Int)<=P.VO))) by rw[Pt,N,ei,ht];simp[hl]);have Z:=AA hK;have HL:=AA (yj hl (yj ei ht));have H3:=AA (yj N3 h3);have pF:=AA (yj HE kt);have ti:=AA il;clear Pt N hK ei ht hl N0 b0 h h0 C1 C2 C b3 x6 HE l9 kt il hs N3 h3 B1 B2;go_wp2_with fail;clear x2;go_loopw [3,4,33] (λ_ _ ix wr=>∃k:Nat,k<=3/\ix=.int .i64 k/\(∀j,j<k->Cd (BJ P.V0 j) gA=decide (j=0))/\Γ w3 w3 wr) (λ_ _ ix _=>3 - (intOf ix).toNat)
  exact⟨0,ω,rfl,λj K=>ω,yN _ _⟩
  obtain⟨k,l3,rfl,bs,A⟩:=hrel
  by_cases kT:k<3
  .have k3:(k:Int)<3:=ω
   obtain⟨p,hp⟩:∃p,ps[k]?=some p:=⟨_,yG (by have:=ti.u;omega)⟩
   obtain⟨ge,rg,rfl,jZ,jj⟩:=pF.1 k p hp;have lW:=pF.2.2 k p (AH P.V0.Xr k) hp (by unfold AH;exact A6 (by rw[Z.zX];omega));have D0:=(A.cell (yK w3 _ (jj 0 _ rfl))).trans (jj 0 _ rfl);have D1:=(A.cell (yK w3 _ (jj 1 _ rfl))).trans (jj 1 _ rfl);rw[xT] at D0;obtain⟨pv,pr⟩:=p;dsimp only at D0 D1 lW;obtain⟨pa,pn,rfl,_,_⟩:=BK.shape lW.1;have bn:=A.trans ((AJ wr (.cells #[.slice pa (AH P.V0.Xr k).Pj.length pn,pr] 81)).mono A.size);have CM:=Q9 _ (AH P.V0.Xr k).Pj gA _ (BK.below lW.1 bn);have ft:=AA bs;have pu:=AA bn;have HM:=AA (show Cd (BJ P.V0 k) gA=Cd (AH P.V0.Xr k).Pj gA from rfl);generalize Cd (AH P.V0.Xr k).Pj gA=b at CM HM;generalize(AH P.V0.Xr k).Pj.length=rl at*;clear jj lW bs bn hp;go_wp2_with fail;refine CM.mono ?_;rintro r w5 ⟨rfl,b5⟩;have ir:=AA (pu.trans (b5.mono pu.size));clear b5 CM
   by_cases k0:k=0
   .have t0:((k:Int)==0)=true:=by simp[k0]
    cases b
    .have S:=AA (show BN P=false by rw[mA.u,WU kT (by rw[HM.u];simp[k0])];rfl)
     clear k0;go_wp2;go_ret;exact⟨AF S.symm,es.trans (ir.mono es.size)⟩
    have K0:=AA k0
    clear k0;go_wp2;go_roundw
    case rel=>exact⟨k+1,ω,ξ,λj K=>by
     rcases xC.1 K with x|x
     .exact ft j x
     subst x;rw[HM.u];simp[K0.u],ir.u⟩
    case measure=>simp[intOf];omega
   have t0:((k:Int)==0)=false:=by simp[k0]
   cases b
   .have K0:=AA k0
    clear k0;go_wp2;go_roundw
    case rel=>exact⟨k+1,ω,ξ,λj K=>by
     rcases xC.1 K with x|x
     .exact ft j x
     subst x;rw[HM.u];simp[K0.u],ir.u⟩
    case measure=>simp[intOf];omega
   have S:=AA (show BN P=false by rw[mA.u,WU kT (by rw[HM.u];simp[k0])];rfl)
   clear k0;go_wp2;go_ret;exact⟨AF S.symm,es.trans (ir.mono es.size)⟩
  obtain rfl:k=3:=ω;have pj:=AA (show BN P=((yL 16).all (FL P)&&(yL 16).all (ET P)&&(Bj P.FU 0 15&&Bj P.VO 1 6&&decide ((Al P.Xs 1:Int)<=P.VO))) by rw[mA.u,Zl bs];simp);have iJ:=AA A;have TL:=AA (Tc HL.2.2);clear bs mA;rw[show((3:Nat):Int)=3 from rfl];have x6:=(AC (AB H3.1 A)).2.2.2.2.2.2.1;rw[HL.1] at x6;go_wp2_with (refine RH (n:=16) rfl rfl 3 (.int .i64 0) 8 underlying29 Tryz.zS rfl rfl ω μ ?_;intro w6 au av lU;replace x6:=(av.cell (yK wr _ x6)).trans x6);have St:AE w3 w6 (.slice wr 16 16) (xW 16 0):=Bb (by simpa[AE] using au) iJ.size;have r3:=AA (iJ.trans (av.mono iJ.size));generalize wr.heap.size=gk at*;clear au av lU A;go_wp2_with fail;clear x6;go_loopw [6,49] (λ_ ix wx=>∃k:Nat,k<=16/\ix=.int .i64 k/\(∀j,j<k->FL P j=true)/\AE w3 wx (.slice gk 16 16) ((P.Xs.take k).foldl Gz (xW 16 0))/\Γ w3 w3 wx) (λ_ ix _=>16 - (intOf ix).toNat)
  exact⟨0,ω,rfl,λj K=>ω,St,r3.u⟩
  clear St;obtain⟨k,l3,rfl,bs,St,A⟩:=hrel;have KA:=AA (λs=>dA (l:=P.Xs.take k) (YN HL.1 bs) (ks:=xW 16 0) χ s)
  by_cases jJ:k<16
  .have qh:(k:Int)<16:=ω
   have C:=Yl (AB H3.1 A) (H3.2.below A) Z TL.1 TL.2 HL.1 St (KA 0).1 (λj K=>by
    rw[(KA j).2];have h0:nth (xW 16 (0:Int)) j=0:=by unfold nth;rw[yg,uN];split<;>rfl
    have L:Cm (P.Xs.take k) j<=(P.Xs.take k).length:=by unfold Cm;exact vX
    have O:(P.Xs.take k).length<=16:=by rw[ym];omega
    omega) A.size jJ
   have Nx:=AA (show(P.Xs.take (k+1)).foldl Gz (xW 16 0)=Gz ((P.Xs.take k).foldl Gz (xW 16 0)) (AD P.Xs k) by rw[DA (show P.Xs[k]?=some (AD P.Xs k) from A6 (by have:=HL.1;omega)),vG];rfl)
   have ft:=AA bs;have z:=AA A;generalize(P.Xs.take k).foldl Gz (xW 16 0)=ks at*;clear bs A St KA;go_wp2_with fail;refine C.mono ?_;rintro r w7 ⟨ki,⟨rfl,o7,g7,b7⟩,e7⟩;have py:=AA (z.trans b7);have O7:=AA o7;cases nA:FL P k
   .have S:=AA (show BN P=false by rw[pj.u,Pq jJ nA];rfl)
    clear o7 g7 b7 e7 C;go_wp2;go_ret;exact⟨AF S.symm,es.trans (py.mono es.size)⟩
   have E7:=AA (e7 nA)
   have PH:=AA nA;clear o7 g7 b7 e7 C;go_wp2;go_roundw
   case rel=>exact⟨k+1,ω,ξ,λj K=>by
    rcases xC.1 K with x|x
    .exact ft j x
    subst x;exact PH.u,by rw[Nx.u,<-E7.u];exact O7.u,py.u⟩
   case measure=>simp[intOf];omega
  obtain rfl:k=16:=ω;have oh:=AA (show BN P=((yL 16).all (ET P)&&(Bj P.FU 0 15&&Bj P.VO 1 6&&decide ((Al P.Xs 1:Int)<=P.VO))) by rw[pj.u,yr.2 (λj K=>bs j (yi.1 K))];simp);rw[xm (by have:=HL.1;omega)] at St KA;generalize P.Xs.foldl Gz (xW 16 0)=ks at St KA;have jX:=(KA 0).1;have bC:wr.ownsRow w3.heap.size 3 1 (.slice gk 16 16) 16 (ks.map (yl .i64)):=by have:=St;unfold AE at this;rwa [jX] at this
  have KC:=AA (λ(j:Nat)(K:j<16)=>show wr.cell? (gk,j)=some (.int .i64 (Cm P.Xs j:Int)) from by
   rw[xO bC j ω,xq,yG ω];have e:=(KA j).2;have h0:nth (xW 16 (0:Int)) j=0:=by unfold nth;rw[yg,uN];split<;>rfl
   rw[h0,Int.zero_add] at e;unfold nth at e;rw[yg,yG ω] at e;simp at e;rw[<-e];rfl)
  obtain⟨D,s1,s2⟩:=(H3.2.below A).2.1;have hY:P.swap.length=16:=(Hv.1 HL.2.1).1;have cr:D.length=16:=by rw[s2.1,hY]
  obtain⟨Af,z4,rfl,_,_,HS⟩:=BK.open Eh ψ s1;have x4:=(AC (AB H3.1 A)).2.2.2.2.1;rw[cr] at x4;have rx:=AA x4;have z:=AA A;have mD:=AA (yj HS (yj s2 (yj hY cr)));clear bs A St KA bC jX HS s1 s2 hY cr x4;generalize hW4:wr=w4 at*;go_wp2_with fail;go_loopw [7,8,59] (λ_ _ ix wx=>∃k:Nat,k<=16/\ix=.int .i64 k/\(∀j,j<k->ET P j=true)/\w4=wx) (λ_ _ ix _=>16 - (intOf ix).toNat)
  exact⟨0,ω,rfl,λj K=>ω,rfl⟩
  obtain⟨k,l3,rfl,bs,rfl⟩:=hrel
  by_cases iV:k<16
  .have v6:(k:Int)<16:=ω
   have ru:=KC k iV;obtain⟨u,hu⟩:∃u,D[k]?=some u:=⟨_,yG (by have:=mD.2.2.2;omega)⟩
   obtain⟨sb,v0,rfl,v7,o4⟩:=mD.1 k u hu;have DS:=o4 0 _ rfl;have nx:=mD.2.1.2 k u (AK P.swap k) hu (by unfold AK;exact A6 (by have:=mD.2.2.1;omega));obtain⟨ua,uc,rfl,_,_,_⟩:=nx.open;rw[wZ,xT] at DS;have x4:=rx.u;have ft:=AA bs;have SO:ET P k=decide (Cm P.Xs k=if(AK P.swap k).isEmpty then 0 else 1):=rfl;generalize Cm P.Xs k=n at ru SO;generalize AK P.swap k=row at DS SO nx;clear o4 bs hu nx
   by_cases hr:row=[]
   .subst hr
    simp only[xi] at DS
    by_cases iT:n=0
    .have PS:=AA (show ET P k=true by rw[SO,iT];rfl)
     subst iT;clear SO;go_wp2;go_roundw
     case rel=>exact⟨k+1,ω,ξ,λj K=>by
      rcases xC.1 K with x|x
      .exact ft j x
      subst x;exact PS.u,trivial⟩
     case measure=>simp[intOf];omega
    have S:=AA (show BN P=false by rw[oh.u,Pq iV (by rw[SO];simp[iT])];rfl)
    have t1:((n:Int) !=0)=true:=η;clear SO iT;go_wp2;go_ret;exact⟨AF S.symm,es.trans (z.mono es.size)⟩
   have kO:0<row.length:=List.length_pos_iff.2 hr
   have he:row.isEmpty=false:=by cases row with|nil=>exact absurd rfl hr|cons a l=>rfl
   generalize row.length=rl at DS kO;have p1:(0:Int)<(rl:Int):=ω;have t2:((rl:Int)==0)=false:=η;rw[he] at SO;clear hr he
   by_cases lZ:n=1
   .have PS:=AA (show ET P k=true by rw[SO,lZ];rfl)
    subst lZ;clear SO;go_wp2;go_roundw
    case rel=>exact⟨k+1,ω,ξ,λj K=>by
     rcases xC.1 K with x|x
     .exact ft j x
     subst x;exact PS.u,trivial⟩
    case measure=>simp[intOf];omega
   have S:=AA (show BN P=false by rw[oh.u,Pq iV (by rw[SO];simp[lZ])];rfl)
   have t1:((n:Int) !=1)=true:=η;clear SO lZ;go_wp2;go_ret;exact⟨AF S.symm,es.trans (z.mono es.size)⟩
  obtain rfl:k=16:=ω;have lr:=AA (show BN P=(Bj P.FU 0 15&&Bj P.VO 1 6&&decide ((Al P.Xs 1:Int)<=P.VO)) by rw[oh.u,yr.2 (λj K=>bs j (yi.1 K))];simp);have N4:=AB H3.1 z.u;have kN:=H3.2.below z.u;have x7:=(AC N4).2.2.2.2.2.2.2.1;have x8:=(AC N4).2.2.2.2.2.2.2.2;have ld:=AU N4;have CN:=AA (λW (E:Γ w4 w4 W)=>Sy (AC (AB N4 E)).2.2.2.2.2.2.1 (BK.below kN.2.2.2 E) HL.1 1);have CH:=AA (λW=>EL P.FU 0 15 W);have CL:=AA (λW=>EL P.VO 1 6 W);clear bs N4 kN;cases nH:Bj P.FU 0 15
  .have S:=AA (show BN P=false by rw[lr.u,nH];rfl)
   rw[nH] at CH;go_wp2_with fail;refine Ac 14 103 [.p w.heap.size 7,.i (P.FU),.b false,.b false,.u,.u,.u,.b false,.b false,.u,.u,.u,.u,.b false] (λ_ _ _=>True) ?_ ?_
   .intro i R o V a wx z J Y hj Z
    match i,R with
    |0,_|3,_|7,_|8,_|13,_=>exact sP V Z z J
    |1,_=>exact sL V Z z J (hl:=GO (bc Y ld x7))
    |2,_=>exact sE V Z z J (CH _)
    |4,_|5,_|6,_|9,_|10,_|11,_|12,_=>exact sB V Z J
   intro D wx hR Y
   have jD:(D 13)=.bool false:=Bh hR 13;clear hR;simp only[Ai,Ae,yL,yI,yJ,yH,jD];simp;clear jD;go_wp2;go_ret;exact⟨AF S.symm,es.trans ((z.trans (Y.mono z.size)).mono es.size)⟩
  rw[nH] at CH lr
  cases kp:Bj P.VO 1 6
  .have S:=AA (show BN P=false by rw[lr.u,kp];rfl)
   rw[kp] at CL;go_wp2_with fail;refine Ac 14 103 [.p w.heap.size 7,.i (P.FU),.b true,.b true,.p w.heap.size 8,.i (P.VO),.b false,.b false,.b false,.u,.u,.u,.u,.b false] (λ_ _ _=>True) ?_ ?_
   .intro i R o V a wx z J Y hj Z
    have bB:=bc Y ld x7;have bp:=bc Y ld x8
    match i,R with
    |0,_|3,_|4,_|7,_|8,_|13,_=>exact sP V Z z J
    |1,_|5,_=>exact sL V Z z J (hl:=GO ‹_›)
    |2,_=>exact sE V Z z J (CH _)
    |6,_=>exact sE V Z z J (CL _)
    |9,_|10,_|11,_|12,_=>exact sB V Z J
   intro D wx hR Y
   have jD:(D 13)=.bool false:=Bh hR 13;clear hR;simp only[Ai,Ae,yL,yI,yJ,yH,jD];simp;clear jD;go_wp2;go_ret;exact⟨AF S.symm,es.trans ((z.trans (Y.mono z.size)).mono es.size)⟩
  rw[kp] at CL lr
  have S:=AA (show BN P=decide ((Al P.Xs 1:Int)<=P.VO) by rw[lr.u];simp);generalize Al P.Xs 1=cn at CN S;go_wp2_with fail;refine Ac 14 103 [.p w.heap.size 7,.i (P.FU),.b true,.b true,.p w.heap.size 8,.i (P.VO),.b true,.b true,.b true,.i ((cn:Int)),.p w.heap.size 8,.i (P.VO),.b (decide ((cn:Int)<=P.VO)),.b (decide ((cn:Int)<=P.VO))] (λ_ _ _=>True) ?_ ?_
  .intro i R o V a wx z J Y hj Z
   have bB:=bc Y ld x7;have bp:=bc Y ld x8
   match i,R with
   |0,_|3,_|4,_|7,_|8,_|10,_|13,_=>exact sP V Z z J
   |1,_|5,_|11,_=>exact sL V Z z J (hl:=GO ‹_›)
   |2,_=>exact sE V Z z J (CH _)
   |6,_=>exact sE V Z z J (CL _)
   |9,_=>exact sD V Z z J (CN _ Y)
   |12,_=>clear bB bp;obtain rfl:=yP V;have d9:(a.tmps[98]?.getD Θ)=.int .i64 cn:=Bc J 9;have jw:(a.tmps[100]?.getD Θ)=.int .i64 (P.VO):=Bc J 11;have d8:(a.tmps[97]?.getD Θ)=.bool true:=Bc J 8;clear J z;refine AZ.yes rfl rfl d8 ?_;go_simp;exact Z _ _ rfl (yN _ _)
  intro D wx hR Y
  have jD:(D 13)=.bool (decide ((cn:Int)<=P.VO)):=Bh hR 13;clear hR;simp only[Ai,Ae,yL,yI,yJ,yH,jD];simp;clear jD;go_wp2;go_ret;exact⟨AF S.symm,es.trans ((z.trans (Y.mono z.size)).mono es.size)⟩
 have S:=AA (show BN P=false by rw[Pt];simp[hl])
 have t1:((P.Xs.length:Int) !=16)=true:=η;have HB:=AA (cP.trans (B2.mono cP.size));clear Pt N0 b0 h h0 hl;go_wp2;go_ret;exact⟨AF S.symm,HB.u⟩
section
variable {lo g:Nat} {w w1:Ω} {m i e c s l q:Φ} {P:AP}
theorem ID.zr(h:ID lo g w m i e c s l q P)(x:Int):ID lo g (w.setCell (g,7) (.int .i64 x)) m i e c s l q {P with FU:=x}/\w.grownBy (w.setCell (g,7) (.int .i64 x)) (some g):=by have fc:=Ak w g 7 (.int .i64 x);have F:=h.own.yV fc h.yU;refine⟨⟨?_,h.yT,⟨F.ker,F.swp,F.low,F.pgs,F.apart⟩⟩,fc⟩;have:=yE w g 7 _ 32 (.int .i64 x) h.yU;simpa using this
theorem ID.zz{n0:Nat}{x y:Bx}{u:Φ}(h:ID lo g w m i e c s l (.slice gq n0 cq) P)(iT:n0=P.Xs.length)(N:P.Xs[n]?=some x)(K:j<3)(hy:DT y=(DT x).set j u):
 ID lo g (w.setCell (gq,n*3+j) u) m i e c s l (.slice gq n0 cq) {P with Xs:=P.Xs.set n y}/\w.grownBy (w.setCell (gq,n*3+j) u) (some gq)/\lo<=gq:=by
 obtain⟨hB,iZ,⟨k0,⟨D,hs⟩,iU,hp,gl⟩⟩:=h;subst iT;have S:=AQ.zH F7 hp N K hy;obtain⟨j8,hc⟩:=A7 hp gq rfl;exact⟨⟨At hB S.2 (Bz hc hB),iZ,⟨k0.yV S.2 hc,⟨D,hs.yV S.2 hc⟩,Eu iU S.2 hc,S.1,gl⟩⟩,S.2,(yC hp gq rfl).1⟩
theorem ID.zA{n0:Nat}(h:ID lo g w m i e c s l (.slice gq n0 cq) P)(iT:n0=P.Xs.length)(hn:n<P.Xs.length)(y:Bx):
 ID lo g (((w.setCell (gq,n*3) (.int .i64 y.w)).setCell (gq,n*3+1) (.int .i64 y.a)).setCell (gq,n*3+2) (.bool y.u)) m i e c s l (.slice gq n0 cq) {P with Xs:=P.Xs.set n y}/\w.grownBy (((w.setCell (gq,n*3) (.int .i64 y.w)).setCell (gq,n*3+1) (.int .i64 y.a)).setCell (gq,n*3+2) (.bool y.u)) (some gq)/\lo<=gq:=by
 obtain⟨hB,iZ,⟨k0,⟨D,hs⟩,iU,hp,gl⟩⟩:=h;subst iT;have S:=AQ.stored F7 hp hn y;obtain⟨j8,hc⟩:=A7 hp gq rfl;exact⟨⟨At hB S.2 (Bz hc hB),iZ,⟨k0.yV S.2 hc,⟨D,hs.yV S.2 hc⟩,Eu iU S.2 hc,S.1,gl⟩⟩,S.2,(yC hp gq rfl).1⟩
theorem ID.zk(h:ID lo g w m i e c s l q P){D:List Φ}{S:List (List Int)}(H:w.grownBy w1 s.ownBlock)(hO:Ay lo w1 s D S):ID lo g w1 m i e c s l q {P with swap:=S}:=by
 obtain⟨hB,iZ,⟨⟨⟨ms,k1,k2,k3⟩,k4,⟨ps,k5,k6,k7⟩,k8⟩,⟨us,hs⟩,iU,hp,gl⟩⟩:=h;have dg:=DD hs.1 hB ψ;refine⟨(H.block g (AU hB) (λe=>dg e.symm)).trans hB,iZ,⟨⟨⟨ms,Au k1 H gl.ne,k2.mono λ_ _ x=>Au x H (BI x hs.1 ψ).ne,k3⟩,Au k4 H (BI k4 hs.1 ψ).ne,⟨ps,Au k5 H (BI k5 hs.1 ψ).ne,k6.mono λ_ _ x=>⟨Au x.1 H (BI x.1 hs.1 ψ).ne,x.2⟩,k7⟩,Au k8 H (BI k8 hs.1 ψ).ne⟩,⟨D,hO⟩,Au iU H (BI iU hs.1 ψ).ne,Au hp H (BI hp hs.1 ψ).ne,gl⟩⟩
theorem ID.page(h:ID lo g w m i e c s l q P){n:Nat}(hn:n<P.Xs.length):∃gq cq,q=.slice (some ⟨gq,0,none⟩) P.Xs.length cq/\P.Xs.length<=cq/\lo<=gq/\gq<w.heap.size/\gq≠g/\(∀j,w.frozen? ⟨gq,j,none⟩=false)/\w.cell? ⟨gq,n*3,none⟩=some (.int .i64 (AD P.Xs n).w)/\w.cell? ⟨gq,n*3+1,none⟩=some (.int .i64 (AD P.Xs n).a)/\w.cell? ⟨gq,n*3+2,none⟩=some (.bool (AD P.Xs n).u):=by obtain⟨gq,cq,rfl,L,_,h3,h4,h5⟩:=h.own.pgs.zW ω;have hc:=AQ.zJ F7 h.own.pgs (k:=n) (x:=AD P.Xs n) (by unfold AD;exact A6 hn);obtain⟨j8,g5⟩:=A7 h.own.pgs gq rfl;exact⟨gq,cq,rfl,L,h3,h4,Bz g5 h.yU,h5,hc 0 _ rfl,hc 1 _ rfl,hc 2 _ rfl⟩
theorem ID.pg{n0:Nat}(h:ID lo g w m i e c s l (.slice gq n0 cq) P){n:Nat}(hn:n<P.Xs.length):gq<w.heap.size/\(∀j,w.frozen? ⟨gq,j,none⟩=false)/\w.cell? (gq,n*3)=some (.int .i64 (AD P.Xs n).w)/\w.cell? (gq,n*3+1)=some (.int .i64 (AD P.Xs n).a)/\w.cell? (gq,n*3+2)=some (.bool (AD P.Xs n).u):=by obtain⟨za,rr,e,L,O,h3,h4,h5⟩:=h.page hn;simp only[xQ,Option.some.injEq,Addr.mk.injEq] at e;obtain⟨⟨rfl,_⟩,_,rfl⟩:=e;exact⟨h3,h5⟩
end
structure gT(p:AP)(n m:Nat)(Xs:List Bx)(FU:Int):Prop where
 vic:Cq 32 p.Xs p.FU=(Xs,FU,some m)
 m16:m<16
 mw:(AD p.Xs m).w=1
 ok1:Dd {p with Xs:=Xs,FU:=FU}
 mw1:(AD Xs m).w=1
 ok2:Dd (Er {p with Xs:=Xs,FU:=FU} m)
 free:0<=An (Er {p with Xs:=Xs,FU:=FU} m).V0.Zh
 nw:(AD (Er {p with Xs:=Xs,FU:=FU} m).Xs n).w≠1
 pg:(AD (Er {p with Xs:=Xs,FU:=FU} m).Xs n).w=(AD p.Xs n).w/\(AD (Er {p with Xs:=Xs,FU:=FU} m).Xs n).a=(AD p.Xs n).a
 room:(Al (Er {p with Xs:=Xs,FU:=FU} m).Xs 1:Int)+1<=p.VO
 is:Bm p n=Qv (Er {p with Xs:=Xs,FU:=FU} m) n
theorem Tg (h:Dd p){n:Nat}(hn:n<16)(hw:(AD p.Xs n).w≠1)(hf:Jf p=true)(cu:¬(An p.V0.Zh<0/\Al p.Xs 1=0)):∃m Xs FU,gT p n m Xs FU:=by
 have hc:0<Al p.Xs 1:=by
  rcases wA (Al p.Xs 1) with h0|h0
  .exfalso
   unfold Jf at hf;simp only[xM,decide_eq_true_eq] at hf;have:=h.VO
   rcases hf with hf|hf
   .exact cu ⟨hf,h0⟩
   omega
  exact h0
 obtain⟨i,R,nG⟩:=JJ.1 hc;rw[h.zY] at R;obtain⟨m,hm⟩:=Jl 32 p.Xs p.FU h.FU.1 h.FU.2 h.zY i R nG (.inr (by have:=Rz h.FU.1 h.FU.2 R;omega));have hU:=JW 32 p.Xs p.FU;have hH:=Kq 32 p.Xs p.FU h.FU.1 h.FU.2;have hI:=Ii 32 p.Xs p.FU h.FU.1 h.FU.2 m hm;have hT:Bm p n=match Cq 32 p.Xs p.FU with
  |(Xs,FU,some m)=>Qv (Er {p with Xs:=Xs,FU:=FU} m) n
  |(_,_,none)=>(p,false):=by
  unfold Bm;rw[if_neg hw,if_neg cu,if_pos hf];rfl
 revert hU hH hI hm hT
 generalize hv:Cq 32 p.Xs p.FU=r;obtain⟨pg,hd,o⟩:=r;intro hm hU hH hI hT;cases hm;have h':=hU.ok h hH.1 hH.2;have mw1:=(hU.w m).trans hI.2;have V:=Vu h' hI.1 mw1;have qt:n≠m:=λe=>hw (by rw[e];exact hI.2)
 have oN:AD (Er {p with Xs:=pg,FU:=hd} m).Xs n=AD pg n:=by
  show AD (pg.set m _) n=_
  rw[EH,if_neg (λh=>qt h.1)]
 refine⟨m,pg,hd,hv,hI.1,hI.2,h',mw1,V.1,V.2.2.2,?_,?_,?_,hT⟩
 .rw[oN,hU.w];exact hw
 .rw[oN];exact⟨hU.w n,hU.at' n⟩
 have L:Al (Er {p with Xs:=pg,FU:=hd} m).Xs 1+1=Al pg 1:=V.2.2.1
 have O:Al pg 1=Al p.Xs 1:=hU.count 1;have h3:=h.count;omega
theorem Tf (h:Dd p){n:Nat}(hw:(AD p.Xs n).w≠1)(hf:Jf p=false):Bm p n=Qv p n/\0<=An p.V0.Zh:=by
 have L:¬An p.V0.Zh<0:=λe=>by unfold Jf at hf;simp[e] at hf
 refine⟨?_,ω⟩;unfold Bm;rw[if_neg hw,if_neg (λx=>L x.1),if_neg (by rw[hf];simp)]
theorem Ti (hw:(AD p.Xs n).w≠1)(h:An p.V0.Zh<0/\Al p.Xs 1=0):Bm p n=(p,false):=by unfold Bm;rw[if_neg hw,if_pos h]
theorem Qo{k:Nat}{Xs:List Bx}{FU:Int}:Cq (k+1) Xs FU=if(AD Xs FU.toNat).w=1/\(AD Xs FU.toNat).u=false then(Xs,FJ FU,some FU.toNat) else Cq k (Xs.set FU.toNat (PT (AD Xs FU.toNat))) (FJ FU):=rfl
theorem Xg (h:Dd p):(Cq 32 p.Xs p.FU).2.2=none↔Al p.Xs 1=0:=by
 constructor
 .intro hx
  rcases wA (Al p.Xs 1) with h0|h0
  .exact h0
  obtain⟨i,R,nG⟩:=JJ.1 h0
  rw[h.zY] at R;obtain⟨m,hm⟩:=Jl 32 p.Xs p.FU h.FU.1 h.FU.2 h.zY i R nG (.inr (by have:=Rz h.FU.1 h.FU.2 R;omega));rw[hx] at hm;cases hm
 intro h0
 cases hx:(Cq 32 p.Xs p.FU).2.2 with
 |none=>rfl
 |some m=>have hI:=Ii 32 p.Xs p.FU h.FU.1 h.FU.2 m hx;have:=JJ.2 ⟨m,by rw[h.zY];exact hI.1,hI.2⟩;omega
def ch(g:Nat)(w:Ω):Int:=match w.cell? (g,7) with
 |some (.int _ n)=>n
 |_=>0
def dv(gq n:Nat)(w:Ω):Bool:=match w.cell? (gq,n*3+2) with
 |some (.bool b)=>b
 |_=>false
def dW(g gq n:Nat)(w:Ω):Nat:=yV (ch g w) n+if dv gq n w then 16 else 0
theorem ZN{qc:Nat}(h:ID lo g w m i e c s l (.slice gq 16 qc) P)(hl:P.Xs.length=16){n:Nat}(hn:n<16):dW g gq n w=yV P.FU n+if(AD P.Xs n).u then 16 else 0:=by obtain⟨_,_,_,_,d2⟩:=h.pg (n:=n) ω;unfold dW ch dv;rw[h.cells.2.2.2.2.2.2.2.1,d2]
theorem iA.yQ (h:iA lo g w s l q P k w'):∃m i e c,ID lo g w' m i e c s l q {P with V0:=k}:=by obtain⟨⟨m,i,e,c,h,_⟩,_⟩:=h;exact⟨m,i,e,c,h⟩
theorem DY.one (a:List Bx)(j:Nat):DY a (a.set j (PT (AD a j))):=DY.step (DY.refl _)
theorem DY.trans{a b c:List Bx}(h:DY a b)(h':DY b c):DY a c:=⟨h'.len.trans h.len,λi=>(h'.w i).trans (h.w i),λi=>(h'.at' i).trans (h.at' i),λi hu=>h.u i (h'.u i hu)⟩
theorem XL (h:ID lo g w mv iv ev cv sv lv qv P)(bD:lo<=w.heap.size)(hP:Dd P){pg:List Bx}{hd:Int}{n:Nat}(hv:Cq 32 P.Xs P.FU=(pg,hd,some n)):
 Ξ prog 136 #[.pointer g] w (λr w'=>r=.returned (.tuple #[])/\(∃m i e c,ID lo g w' m i e c sv lv qv (Er {P with Xs:=pg,FU:=hd} n))/\Γ lo w w'):=by
 obtain⟨gq,qc,rfl,ny,nE,qG,mW,_⟩:=h.page (n:=0) (by rw[hP.zY];omega);rw[hP.zY] at h ny ⊢;have hV:=AA hv;have iz:=AA hP;have jT:n<16:=by have:=(Ii 32 P.Xs P.FU hP.FU.1 hP.FU.2 n (by rw[hv]));exact this.1
 have HI:=AA h;have kx:=AA bD;have hh:=hP.FU;have mV:=mW.symm;clear h hP hv bD;go_in;go_wp2_with fail;go_loopw [2,3] (λ_ _ wr=>∃k Xs FU,ID lo g wr mv iv ev cv sv lv (.slice gq 16 qc) {P with Xs:=Xs,FU:=FU}/\Cq k Xs FU=(pg,hd,some n)/\DY P.Xs Xs/\0<=FU/\FU<=15/\Γ lo w wr) (λ_ _ wr=>dW g gq n wr)
 exact⟨32,P.Xs,P.FU,HI.u,hV.u,DY.refl _,hh.1,hh.2,yN _ _⟩
 obtain⟨k,Xs,FU,hI,jq,hU,h0,mp,A⟩:=hrel;obtain⟨k,rfl⟩:∃k',k=k'+1:=by
  cases k with
  |zero=>unfold Cq at jq;cases jq
  |succ k=>exact⟨k,rfl⟩
 rw[Qo] at jq;obtain⟨j,rfl⟩:∃j:Nat,FU=(j:Int):=⟨FU.toNat,ω⟩
 rw[yq] at jq;unfold FJ at jq;have K:j<16:=ω;have qC:(j:Int)<16:=ω;have il:Xs.length=16:=by rw[hU.len];exact iz.zY
 have yf:=AA (hU.ok iz h0 mp);have M0:=AA (ZN hI il jT);obtain⟨kl,fq,p0,p1,p2⟩:=hI.pg (n:=j) (by show j<Xs.length;rw[il];exact K);obtain⟨_,_,_,_,_,_,x6,x7,_⟩:=hI.cells;have fg:=AI hI.yU;have I1:=(hI.zr (((j:Int)+1)%16)).1;have B1:=AM A (hI.zr (((j:Int)+1)%16)).2 hI.yT (yM kx A.size);have hN:0<=((j:Int)+1)%16/\((j:Int)+1)%16<=15:=M7 (FU:=(j:Int)) h0 mp;have j6:=AA (λ(dg:j≠n)=>show yV (((j:Int)+1)%16) n+1=yV (j:Int) n from Og (FU:=(j:Int)) h0 mp jT dg);have jc:=AA (show yV (((j:Int)+1)%16) j=15 from Ry (FU:=(j:Int)) h0 mp);have i8:=AA (show yV (j:Int) j=0 from Wj (FU:=(j:Int)) h0);have xk:=AU hI.yU;have hx:Xs[j]?=some (AD Xs j):=by unfold AD;exact A6 ω
 generalize hpj:AD Xs j=x at jq p0 p1 p2 hx;obtain⟨xw,xa,xu⟩:=x;dsimp only at p0 p1 p2 jq I1;have jm:=AA hpj;have HX:=AA hx;have jN:=AA il;have jf:=AA I1;have fl:=AA B1;have HU:=AA hU;have HN:=AA hN;have HV:=AA jq;clear hI hU hpj hx jq il A I1 B1 hN kl
 by_cases hc:xw=1/\xu=false
 .obtain⟨rfl,rfl⟩:=hc
  have jR:=HV.u;rw[if_pos ⟨rfl,rfl⟩] at jR;simp only[Prod.mk.injEq,Option.some.injEq] at jR;obtain⟨rfl,rfl,rfl⟩:=jR;have ef:=AA (HU.ok iz HN.1 HN.2);clear HV M0 j6 jc i8 hV;obtain⟨k0,_,_,_,k4,_⟩:=jf.cells;go_wp2_with fail;generalize wr.setCell _ _=W1 at*;clear x6 x7 p0 p1 p2 fg fq;have l7:=AU jf.yU;have f6:lo<=W1.heap.size:=yM kx fl.size;obtain⟨jt,fq,p0,p1,p2⟩:=jf.pg (n:=j) (by show j<Xs.length;rw[jN.u];exact K);replace p1:W1.cell? (gq,j*3+1)=some (.int .i64 (AD Xs j).a):=p1;rw[jm.u] at p1;have nJ:=ef.zR K (by show(AD Xs j).w=1;rw[jm.u]);have j0:=(ef.zQ K (by show(AD Xs j).w=1;rw[jm.u])).2.1;simp only[jm.u] at nJ j0;obtain⟨f,rfl⟩:∃f:Nat,xa=(f:Int):=⟨xa.toNat,ω⟩
  have el:f<12:=by simpa using nJ.1
  obtain⟨D,o1⟩:=jf.own.ker.1;have fv:P.V0.mem.length=12:=iz.meml;have cr:D.length=12:=by rw[o1.2.1.1];exact fv
  obtain⟨gm,cm,e1,cg,_,_,jY,_⟩:=o1.1.zW ω;have gp:(AK P.V0.mem f).length=4:=iz.rowl el;obtain⟨gw,cw,hu,iP,_,_⟩:=o1.row (f:=f) (by show f<P.V0.mem.length;omega) (by show 0<(AK P.V0.mem f).length;omega);subst e1;rw[cr] at k0;replace hu:D[f]?=some (.slice gw (AK P.V0.mem f).length cw):=hu;replace iP:AE lo W1 (.slice gw (AK P.V0.mem f).length cw) (AK P.V0.mem f):=iP;rw[gp] at hu iP;have DR:=AQ.zJ Eh o1.1 hu 0 _ rfl;rw[wZ,xT] at DR;have iR:=ef.slot K (by show(AD Xs j).w≠2;rw[jm.u];show(1:Int)≠2;decide);obtain⟨sl,hY⟩:∃sl:Nat,Bs P.swap=(sl:Int):=⟨(Bs P.swap).toNat,by have:=iR.1;simp only at this;omega⟩
  have jG:sl<16:=by have:=iR.2.1;simp only[hY] at this;omega
  have lh:=AE.rd iP;obtain⟨jQ,ei⟩:=jf.own.swp;have CS:=AA (λW (E:Γ W1 W1 W)=>Xb (ei.below E) iz.zN (yM f6 E.size) (lh.below E) (by rw[gp];omega) hY jG);have l8:(f:Int)<12:=ω;have rz:=AA hY;have lz:=AA f6;clear lh iP hu gp cr fv o1 j0 iR ei hY p0 p2 f6 nJ;refine Ac 15 68 [.p g 0,.p g 0,.p g 4,.v sv,.p g 0,.p g 0,.p g 0,.p g 0,.s gm 12 cm,.p gq (j*3),.p gq (j*3),.p gq (j*3+1),.i ((f:Int)),.p gm f,.s gw 4 cw] (λ_ _ _=>True) ?_ ?_
  .intro i R o V a wx z J Y hj Z
   have bB:=bc Y l7 k4;have bp:=bc Y l7 k0
   match i,R with
   |0,_|1,_|2,_|4,_|5,_|6,_|7,_|9,_|10,_|11,_=>exact sP V Z z J
   |3,_|8,_=>exact sL V Z z J (hl:=GZ ‹_›)
   |12,_=>exact sL V Z z J (hl:=GO (bc Y jt p1))
   |13,_=>exact sI V Z z J (hr:=by clear J z Z;go_simp)
   |14,_=>exact sL V Z z J (hl:=K5 (bc Y jY DR))
   |_+15,hq=>omega
  intro D wx hR Y
  have q3:(D 3)=sv:=Bh hR 3;have kC:(D 14)=.slice gw 4 cw:=Bh hR 14;clear hR;simp only[Ai,Ae,yL,yI,yJ,yH,q3,kC];simp;clear q3 kC;replace Y:Γ W1 W1 wx:=Y;go_wp2_with fail;refine(CS _ Y).mono ?_;rintro r w2 ⟨rfl,⟨vb,pd⟩,bf,kq⟩;have I2:=(jf.below Y).zk kq pd;have B2:=fl.trans ((Y.mono lz.u).trans (bf.mono (yF _)));have eD:lo<=w2.heap.size:=yM lz (yM Y.size kq.size);have C2:=AA (TD I2 eD iz.k iz.zD K 0 ψ);have ig:=AA B2;clear pd bf kq I2 B2 Y CS k0 k4 p1 DR cg jY;go_wp2_with fail;refine C2.mono ?_;rintro r w3 ⟨rfl,hT⟩;obtain⟨m3,i3,e3,c3,I3⟩:=hT.yQ;have B3:=AA (ig.trans hT.2.1);have kV:lo<=w3.heap.size:=yM eD hT.2.2.size;obtain⟨v8,zc,_,p1,_⟩:=I3.pg (n:=j) (by show j<Xs.length;rw[jN.u];exact K);replace p1:w3.cell? (gq,j*3+1)=some (.int .i64 (AD Xs j).a):=p1;rw[jm.u] at p1;have ko:DZ (Ad P.V0 (JU {P with Xs:=Xs,FU:=(((j:Int)+1)%16),swap:=P.swap.set sl (AK P.V0.mem f)} j 0)).1:=GG iz.k;have C3:=KG I3 kV ko ⟨2,0,(f:Int),0,0,⟨#[]⟩⟩ (ψ:(0:Int)<=0) (ψ:(0:Int)<3) (yt _) (ψ:(0:Int)<=9223372036854775807);have pH:=AA C3;clear hT I3 ko C3 C2;go_wp2_with (refine pH.mono ?_;rintro r w4 ⟨rfl,⟨m4,i4,e4,c4,I4,_⟩,jv,iw⟩;have B4:=B3.trans jv;have ju:lo<=w4.heap.size:=yM kV iw.size;have I5:=I4.zA (n:=j) jN.symm (by show j<Xs.length;rw[jN.u];exact K) ⟨2,(sl:Int),false⟩;obtain⟨kN,pe,p0,p1,p2⟩:=I4.pg (n:=j) (by show j<Xs.length;rw[jN.u];exact K);have B5:=AA (AM B4 I5.2.1 I5.2.2 ju);have lH:=AA I5.1;clear I4 I5 jv iw B4 pH);go_returns;refine⟨rfl,⟨m4,i4,e4,c4,?_⟩,B5.u⟩;have:=lH.u;rw[MN (t:=gA) ⟨ψ,ψ,ψ⟩] at this;unfold Er Ah;simp only[jm.u,yq,rz.u];exact this
 have jR:=HV.u
 rw[if_neg hc] at jR;have r4:=AA jR;have jl:=jf.zz (n:=j) (x:=⟨xw,xa,xu⟩) (y:=⟨xw,xa,false⟩) (j:=2) (u:=.bool false) jN.symm HX ψ rfl;have B2:=AA (AM fl jl.2.1 jl.2.2 (yM kx fl.size));have pb:DY P.Xs (Xs.set j (PT (AD Xs j))):=DY.trans HU (DY.one Xs j);have h9:=AA jl.1;have M2:=AA (ZN jl.1 (by show(Xs.set j _).length=16;rw[yh];exact jN.u) jT);have r6:=AA pb;have ao:dW g gq n ((wr.setCell (g,7) (.int .i64 ((((j:Int)+1)%16)))).setCell (gq,j*3+2) (.bool false))<dW g gq n wr:=by
  rw[M0.u,M2.u]
  show yV (((j:Int)+1)%16) n+_<yV (j:Int) n+_
  by_cases e:j=n
  .subst e
   have hu:xu=true:=by
    have kH:xw=1:=by have:=(Ii 32 P.Xs P.FU iz.FU.1 iz.FU.2 j (by rw[hV.u])).2;rw[<-HU.w j,jm.u] at this;exact this
    cases xu
    .exact absurd ⟨kH,rfl⟩ hc
    rfl
   have e1:(AD (Xs.set j ⟨xw,xa,false⟩) j).u=false:=by rw[EH,if_pos ⟨rfl,by rw[jN.u];exact K⟩]
   have e2:(AD Xs j).u=true:=by rw[jm.u];exact hu
   have L:=jc.u;have O:=i8.u
   show _+(if(AD (Xs.set j ⟨xw,xa,false⟩) j).u=true then 16 else 0)<_+(if(AD Xs j).u=true then 16 else 0)
   rw[e1,e2,L,O];decide
  have e1:(AD (Xs.set j ⟨xw,xa,false⟩) n)=AD Xs n:=by rw[EH,if_neg (λh=>e h.1.symm)]
  have:=j6 e
  show _+(if(AD (Xs.set j ⟨xw,xa,false⟩) n).u=true then 16 else 0)<_+(if(AD Xs n).u=true then 16 else 0)
  rw[e1];omega
 have rE:=AA ao;clear jl pb jR HV j6 jc i8 M0 M2 ao hV
 by_cases kH:xw=1
 focus
  subst kH
  obtain rfl:xu=true:=by
   cases xu
   .exact absurd ⟨rfl,rfl⟩ hc
   rfl
  clear hc
 rotate_left
 focus
  have t1:(xw !=1)=true:=by simp[kH]
  clear hc kH
 rotate_left
 all_goals
  go_wp2;go_roundw
  case rel=>exact⟨k,_,_,h9.u,r4.u,by have:=r6.u;rw[jm.u] at this;exact this,HN.1,HN.2,B2.u⟩
  case measure=>exact rE.u
def IK(k:AR)(f:Int)(ws:List Int)(j:Nat):AR:=(yL j).foldl (λk i=>(Ad k (Ah 3 f (i:Nat) (ws.getD i 0))).1) k
theorem Lo{f:Int}:IK k f ws (j+1)=(Ad (IK k f ws j) (Ah 3 f (j:Int) (ws.getD j 0))).1:=by unfold IK;rw[xH,vG];rfl
theorem Ln (h:DZ k){f:Int}(j:Nat):DZ (IK k f ws j):=by
 induction j with
 |zero=>exact h
 |succ j ih=>rw[Lo];exact GG ih
theorem YP{k1:AR}{fr:Int}(h:Ad p.V0 (Ah 1 0 0 0)=(k1,fr,0)):
 Qv p n=({p with V0:=(Ad (if(AD p.Xs n).w=2 then XR k1 fr (AK p.swap (AD p.Xs n).a.toNat) else k1) (JU p n (Ip fr))).1,swap:=if(AD p.Xs n).w=2 then p.swap.set (AD p.Xs n).a.toNat [] else p.swap,Xs:=p.Xs.set n ⟨1,fr,true⟩},true):=by
 unfold Qv;rw[h];simp only;rw[if_neg χ]
theorem cf{b o:Nat}(h:w.grownBy w' (some g))(dg:b≠g)(hc:w.cell? (b,o)=some v):w'.cell? (b,o)=some v:=
 (Bt h (yK w _ hc) (λe=>dg (yP e).symm)).trans hc
def RU(lo g:Nat)(w:Ω)(sv lv qv:Φ)(t:AP×Bool)(r:Ending)(w':Ω):Prop:=
 r=.returned (.bool t.2)/\(t.2=true->∃m i e c,ID lo g w' m i e c sv lv qv t.1)/\Γ lo w w'
theorem Zn (h:ID lo g w mv iv ev cv sv lv qv P)(bD:lo<=w.heap.size)(hP:Dd P){n:Nat}(hn:n<16):
 Ξ prog 70 #[.pointer g,.int .i64 n] w (RU lo g w sv lv qv (Bm P n)):=by
 obtain⟨gq,qc,rfl,ny,nE,qG,mW,_⟩:=h.page (n:=0) (by rw[hP.zY];omega);rw[hP.zY] at h ny ⊢;unfold RU;have iz:=AA hP;have HI:=AA h;have kx:=AA bD;have nD:(n:Int)<16:=ω;have mV:=mW.symm;obtain⟨_,_,_,_,_,_,x6,_,_⟩:=h.cells;obtain⟨kl,fq,p0,p1,p2⟩:=h.pg (n:=n) (by rw[hP.zY];exact hn);have hx:P.Xs[n]?=some (AD P.Xs n):=by unfold AD;exact A6 (by rw[hP.zY];exact hn)
 by_cases hw:(AD P.Xs n).w=1
 .have HT:=AA (Th hP hw)
  have jl:=h.zz (n:=n) (x:=AD P.Xs n) (y:= {AD P.Xs n with u:=true}) (j:=2) (u:=.bool true) hP.zY.symm hx ψ rfl;have B2:=AA (AM (yN _ _) jl.2.1 jl.2.2 bD);have h9:=AA jl.1;rw[hw] at p0;clear h hP bD hx jl hw;go_in;go_wp2;go_ret;refine⟨AF (by rw[HT.u]),λ_=>⟨mv,iv,ev,cv,?_⟩,B2.u⟩;rw[HT.u];exact h9.u
 have t0:((AD P.Xs n).w==1)=false:=by simp[hw]
 have qj:=AA hw;have CN:=AA (Sy (w:=w) x6 (by have:=h.own.pgs.rd;exact this) hP.zY 1);have md:Al P.Xs 1<=16:=by unfold Al;exact yM vX (Nat.le_of_eq hP.zY)
 have CF:=AA (λW (E:Γ w w W)=>Ks iv P.V0.Zh W (BK.below h.own.ker.2.1.rd E));have T1:=AA (Ti (p:=P) (n:=n) hw);have T2:=AA (Tf hP hw);have T3:=AA (Tg hP hn hw);have FP:Jf P=(decide (An P.V0.Zh<0)||decide ((Al P.Xs 1:Int)=P.VO)):=rfl;have jz:=AA FP;have qw:=hP.VO;have pA:=AA hP;generalize(AD P.Xs n).w=pw at p0 t0;clear h hP bD hx hw FP p1 p2;go_in;go_wp2_with fail;refine CN.mono ?_;rintro r w1 ⟨rfl,b1⟩;have x1:=(HI.below b1).cells.2.1;have bu:=AA b1;clear p0 fq kl CN x6 b1;go_wp2_with fail;refine(CF _ bu.u).mono ?_;rintro r w2 ⟨rfl,b2⟩;have h9:=AA (HI.below (bu.trans (b2.mono bu.size)));have ig:=AA ((bu.trans (b2.mono bu.size)).mono kx.u);have eD:=AA (yM kx (yM bu.size b2.size));have x8:=h9.cells.2.2.2.2.2.2.2.2;clear b2 x1 HI CF;have tc:(((Al P.Xs 1:Nat):Int)==0)=decide (Al P.Xs 1=0):=by by_cases e:Al P.Xs 1=0<;>simp[e]
 have tl:(((Al P.Xs 1:Nat):Int)==P.VO)=decide ((Al P.Xs 1:Int)=P.VO):=by by_cases e:(Al P.Xs 1:Int)=P.VO<;>simp[e]
 go_upto_region 7 with fail;have mI:=AA (χ:decide (An P.V0.Zh<0)=true↔An P.V0.Zh<0);rw[show(decide (An P.V0.Zh<0))=decide (An P.V0.Zh<0) from rfl] at jz;generalize decide (An P.V0.Zh<0)=fb at mI jz ⊢;go_cut [40] (λpW wx=>pW=.bool (fb&&decide (Al P.Xs 1=0))/\w2=wx)
 case first=>
  cases fb
  .go_wp2_with fail
   go_meet
   case rel=>exact⟨rfl,rfl⟩
  go_wp2_with fail
  go_meet
  case rel=>exact⟨χ,rfl⟩
 case rest=>
  obtain⟨rfl,rfl⟩:=hcut;cases cu:(fb&&decide (Al P.Xs 1=0))
  .go_upto_region 9 with fail
   go_cut [49] (λpV wx=>pV=.bool (fb||decide ((Al P.Xs 1:Int)=P.VO))/\w2=wx)
   case first=>
    cases fb
    .go_wp2_with fail
     go_meet
     case rel=>exact⟨χ,rfl⟩
    go_wp2_with fail
    go_meet
    case rel=>exact⟨rfl,rfl⟩
   case rest=>
   obtain⟨rfl,rfl⟩:=hcut;rw[<-jz.u];go_upto_if 49 with fail;go_cut [] (λwx=>∃P1 m i e c,ID lo g wx m i e c sv lv (.slice gq 16 qc) P1/\Γ lo w wx/\lo<=wx.heap.size/\Dd P1/\0<=An P1.V0.Zh/\(AD P1.Xs n).w≠1/\Bm P n=Qv P1 n)
   case first=>
    have nC:¬(An P.V0.Zh<0/\Al P.Xs 1=0):=λh=>by rw[mI.2 h.1,h.2] at cu;cases cu
    cases hf:Jf P
    .have HF:=T2 hf
     go_wp2_with fail;go_meet
     case rel=>exact⟨P,_,_,_,_,h9.u,ig.u,eD.u,pA.u,HF.2,qj.u,HF.1⟩
    obtain⟨mm,pgs,hd,i9⟩:=T3 hf nC
    have CM:=AA (XL h9 eD pA i9.vic);have ie:=AA i9;clear i9;go_wp2_with fail;refine CM.mono ?_;rintro r w3 ⟨rfl,⟨m1,i1,e1,c1,I1⟩,g8⟩;have jf:=AA I1;have fl:=AA (ig.trans g8);have f6:=AA (yM eD g8.size);clear I1 g8 CM;go_wp2_with fail;go_meet
    case rel=>exact⟨_,_,_,_,_,jf.u,fl.u,f6.u,ie.ok2,ie.free,ie.nw,ie.is⟩
   case rest=>
   obtain⟨P1,m1,i1,e1,c1,I1,B1,l1,O1,f1,n1,t1⟩:=hcut;have jf:=AA I1;have fl:=AA B1;have f6:=AA l1;have ef:=AA O1;have lJ:=AA f1;have ox:=AA t1;clear I1 B1 l1 O1 f1 t1 x8 h9 ig eD cu tc tl mI T1 T2 T3 jz;have C1:=KG jf f6 ef.k ⟨1,0,0,0,0,gA⟩ (ψ:(0:Int)<=0) (ψ:(0:Int)<3) ψ (ψ:(0:Int)<=9223372036854775807);obtain⟨k1,fr,i0,kY,jL,oW⟩:∃k1 fr,Ad P1.V0 (Ah 1 0 0 0)=(k1,fr,0)/\0<=fr/\fr<=11/\DZ k1:=by obtain⟨g1,_,_⟩:=GW (Zh:=P1.V0.Zh) (by have:=lJ.u;omega);rw[ef.k.len] at g1;have N:=GG (kind:=1) (a:=0) (b:=0) (c:=0) ef.k;have e:=NL (k:=P1.V0) ef.may lJ (a:=0) (b:=0) (c:=0);rw[e] at N;exact⟨_,_,e,lJ.u,by have:=lJ.u;omega,N⟩
   have jM:=ox.u;rw[YP i0] at jM;unfold Zi at C1;rw[show(⟨1,0,0,0,0,gA⟩:AT)=Ah 1 0 0 0 from rfl,i0] at C1;have ky:=AA (yj kY jL);have jy:=AA oW;clear i0 kY jL oW lJ;go_wp2_with fail;refine C1.mono ?_;rintro r w2 ⟨rfl,⟨m2,i2,e2,c2,I2,_⟩,bf,kq⟩;have B2:=AA (fl.trans bf);have eD:=AA (yM f6 kq.size);obtain⟨fy,pf,p0,p1,p2⟩:=I2.pg (n:=n) (by show n<P1.Xs.length;rw[ef.zY];exact hn);have h9:=AA I2;simp only at p0 p1;clear C1 bf kq I2
   by_cases jg:(AD P1.Xs n).w=2
   .rw[if_pos jg,if_pos jg] at jM
    have qr:(0<=(AD P1.Xs n).a/\(AD P1.Xs n).a<=15)/\EP (AK P1.swap (AD P1.Xs n).a.toNat)=true:=by
     rcases ef.Xs n hn with⟨x,_⟩|⟨x,_⟩|⟨x1,x2,x3,x4,x5⟩
     .omega
     .omega
     rcases ef.zF (AD P1.Xs n).a.toNat ω with x|x
     .exact absurd x x3
     exact⟨ω,x⟩
    obtain⟨⟨qX,nV⟩,ej⟩:=qr;obtain⟨sl,hY⟩:∃sl:Nat,(AD P1.Xs n).a=(sl:Int):=⟨(AD P1.Xs n).a.toNat,ω⟩
    have jG:sl<16:=ω;have nv:(sl:Int)<16:=ω;rw[hY,yq] at ej jM;rw[hY] at p1;rw[jg] at p0;have lF:=AA jM;obtain⟨gp,oL⟩:=BB.1 ej;obtain⟨jQ,ei⟩:=h9.own.swp;have iQ:Ay lo w2 sv jQ P1.swap:=ei;have kK:P1.swap.length=16:=ef.zN;have cr:jQ.length=16:=by rw[iQ.2.1.1,kK]
    obtain⟨gs,sc,e1,ql,_,qx,xp,_⟩:=iQ.1.zW ω;rw[cr] at e1 ql;subst e1;obtain⟨gr,rc,hu,iP,_,_⟩:=iQ.row (f:=sl) ω ω;rw[gp] at hu iP;have DR:=AQ.zJ Eh (by rw[cr];exact iQ.1) hu 0 _ rfl;rw[wZ,xT] at DR;have x4:=h9.cells.2.2.2.2.1;have nW:=AE.rd iP;have pX:gr≠g:=by obtain⟨j8,hc⟩:=A7 iP gr rfl;exact Bz hc h9.yU
    have DW:∀j,j<4->w2.cell? ⟨gr,j,none⟩=some (.int .i64 ((AK P1.swap sl).getD j 0)):=λj K=>by have:=xO (show w2.ownsRow lo 3 1 (.slice gr 4 rc) 4 ((AK P1.swap sl).map (yl .i64)) by have:=iP;unfold AE at this;rwa [gp] at this) j K;rw[this,xq,A6 (d:=0) ω];rfl
    have Hr:=AA (yj gp oL);have tk:=AA DW;clear jM ei iQ hu iP nW ej gp oL qX nV cr kK DW jg;go_wp2_with fail;go_quiet (fail);generalize hwq:w2.drewN _=w3;have b3:Γ w2 w2 w3:=by subst hwq;exact Ap (yN _ _) _
    have kz:=AA (h9.below b3);have g3:w2.grownBy w3 (some g):=AW b3 _;have s9:=AA g3;have B3:=AA (B2.trans (b3.mono eD.u));clear hwq b3 g3 x4 p0 p1 p2 pf fy DR;go_wp2_with fail;go_loopw [9,10,71] (λ_ _ ix wr=>∃k:Nat,k<=4/\ix=.int .i64 k/\(∃m i e c,ID lo g wr m i e c (.slice gs 16 sc) lv (.slice gq 16 qc) {P1 with V0:=IK k1 fr (AK P1.swap sl) k})/\w2.grownBy wr (some g)/\Γ lo w wr) (λ_ _ ix _=>4 - (intOf ix).toNat)
    exact⟨0,ω,rfl,⟨_,_,_,_,kz.u⟩,s9.u,B3.u⟩
    obtain⟨k,N,rfl,⟨m4,i4,e4,c4,I4⟩,iw,B4⟩:=hrel;have ju:lo<=wr.heap.size:=yM eD iw.size
    by_cases oU:k<4
    .have k4:(k:Int)<4:=ω
     have DW:=cf iw pX (tk k oU);have oK:(AK P1.swap sl).getD k 0<=9223372036854775807:=by have:=(Hr.2 _ (Di (d:=0) (show k<(AK P1.swap sl).length by rw[Hr.1];exact oU))).2;omega
     have C4:=AA (KG I4 ju (Ln jy k) ⟨3,0,fr,(k:Int),(AK P1.swap sl).getD k 0,⟨#[]⟩⟩ (ψ:(0:Int)<=0) (ψ:(0:Int)<3) (yt _) oK);have rI:=AA iw;have jA:=AA B4;have rA:=AA (Lo (k:=k1) (f:=fr) (ws:=AK P1.swap sl) (j:=k));generalize(AK P1.swap sl).getD k 0=wd at*;clear I4 iw B4 oK;go_wp2_with fail;refine C4.mono ?_;rintro r w5 ⟨rfl,⟨m5,i5,e5,c5,I5,_⟩,o6,oZ⟩;have pl:ID lo g w5 m5 i5 e5 c5 (.slice gs 16 sc) lv (.slice gq 16 qc) {P1 with V0:=IK k1 fr (AK P1.swap sl) (k+1)}:=by rw[MN (t:=gA) ⟨ψ,ψ,ψ⟩] at I5;rw[rA.u];exact I5
     have lH:=AA pl;have G5:=AA (AO rI oZ);have B5:=AA (jA.trans o6);clear I5 pl o6 oZ C4 DW;go_wp2;go_roundw;exact⟨k+1,ω,ξ,⟨_,_,_,_,lH.u⟩,G5.u,B5.u⟩;simp[intOf];omega
    obtain rfl:k=4:=ω;rw[show((4:Nat):Int)=4 from rfl];have lI:=AA I4;have jA:=AA B4;have ly:=AA ju;generalize hW4:wr=W4 at*;clear I4 iw B4 hW4;have x4:=lI.cells.2.2.2.2.1;have iw:=AU lI.yU;obtain⟨kN,pe,_,p1,_⟩:=lI.pg (n:=n) (by show n<P1.Xs.length;rw[ef.zY];exact hn);replace p1:W4.cell? (gq,n*3+1)=some (.int .i64 (AD P1.Xs n).a):=p1;rw[hY] at p1;go_wp2_with fail;refine Ac 9 105 [.p g 0,.p g 0,.p g 4,.s gs 16 sc,.p gq (n*3),.p gq (n*3),.p gq (n*3+1),.i ((sl:Int)),.p gs sl] (λ_ _ _=>True) ?_ ?_
    .intro i R o V a wx z J Y hj Z
     match i,R with
     |0,_|1,_|2,_|4,_|5,_|6,_=>exact sP V Z z J
     |3,_=>exact sL V Z z J (hl:=GZ (bc Y iw x4))
     |7,_=>exact sL V Z z J (hl:=GO (bc Y kN p1))
     |8,_=>exact sI V Z z J (hr:=by clear J z Z;go_simp)
    intro D wx hR Y
    have q8:(D 8)=.pointer (some ⟨gs,sl,none⟩):=Bh hR 8;clear hR;simp only[Ai,Ae,yL,yI,yJ,yH,q8];simp;clear q8;replace Y:Γ W4 W4 wx:=Y;have oi:=lI.below Y;obtain⟨jQ,ei⟩:=oi.own.swp;replace ei:Ay lo wx (.slice gs 16 sc) jQ P1.swap:=ei;have cr:jQ.length=16:=by rw[ei.2.1.1];exact ef.zN
    have jU:=yM ly Y.size;have hi:=ei.set (B:=wx.heap.size) (j:=sl) (r:=[]) (v':=.slice none 0 0) (yN _ _) (World.ownsRow_nil _ _ _ _) (yF _) jU cr.symm ω;have I5:=AA (oi.zk hi.2 hi.1);have g1:wx.ownsRow lo 29 1 (.slice gs 16 sc) 16 jQ:=by have:=ei.1;unfold AQ at this;rwa [IU,cr] at this
    obtain⟨cv0,C1⟩:∃v,wx.cell? (gs,sl)=some v:=by have C1:=xO g1 sl ω;rw[yG ω] at C1;exact⟨_,C1⟩
    have F1:=xU g1 sl;have B5:=AA (AM (jA.trans (Y.mono ly.u)) hi.2 (yC ei.1 gs rfl).1 jU);have iW:=AA (yM jU hi.2.size);have ow:=AA (Ln jy (f:=fr) (ws:=AK P1.swap sl) 4);have lG:=lF;clear lI jA oi hi g1 ei x4 p1 pe lF cr;go_wp2_with fail;clear C1 F1;generalize wx.setCell _ _=w5 at*;refine(J1 fr _ ky.1 ky.2).mono ?_;rintro r w6 ⟨rfl,rfl⟩;have C6:=AA (TD (P:= {P1 with V0:=IK k1 fr (AK P1.swap sl) 4,swap:=P1.swap.set sl []}) I5 iW ow ef.zD hn (Ip fr) (by have:=ky.2;unfold Ip;omega));generalize ip:Ip fr=en at C6;have oq:=AA ip;clear ip;go_wp2_with (refine C6.mono ?_;rintro r w7 ⟨rfl,hT⟩;obtain⟨m7,i7,e7,c7,I7⟩:=hT.yQ;have B7:=B5.trans hT.2.1;have jV:lo<=w7.heap.size:=yM iW hT.2.2.size;obtain⟨qp,rf,p0,p1,p2⟩:=I7.pg (n:=n) (by show n<P1.Xs.length;rw[ef.zY];exact hn);have I8:=I7.zA (n:=n) ef.zY.symm (by show n<P1.Xs.length;rw[ef.zY];exact hn) ⟨1,fr,true⟩;have B8:=AA (AM B7 I8.2.1 I8.2.2 jV);have oy:=AA I8.1;clear hT I7 I8 B7 C6);go_ret;refine⟨AF (by rw[lG.u]),λ_=>⟨m7,i7,e7,c7,?_⟩,B8.u⟩;rw[lG.u];have e8:=oy.u;rw[<-oq.u] at e8;exact e8
   rw[if_neg jg,if_neg jg] at jM
   have t2:((AD P1.Xs n).w==2)=false:=by simp[jg]
   have lG:=AA jM;have I5:=h9;have B5:=B2;have iW:=eD;have ow:=jy;generalize(AD P1.Xs n).w=pw at p0 t2;clear jM jg jy;go_wp2_with fail;clear p0 p1 p2 t2 pf fy;refine(J1 fr _ ky.1 ky.2).mono ?_;rintro r w6 ⟨rfl,rfl⟩;have C6:=AA (TD (P:= {P1 with V0:=k1,swap:=P1.swap}) I5 iW ow ef.zD hn (Ip fr) (by have:=ky.2;unfold Ip;omega));generalize ip:Ip fr=en at C6;have oq:=AA ip;clear ip;go_wp2_with (refine C6.mono ?_;rintro r w7 ⟨rfl,hT⟩;obtain⟨m7,i7,e7,c7,I7⟩:=hT.yQ;have B7:=B5.trans hT.2.1;have jV:lo<=w7.heap.size:=yM iW hT.2.2.size;obtain⟨qp,rf,p0,p1,p2⟩:=I7.pg (n:=n) (by show n<P1.Xs.length;rw[ef.zY];exact hn);have I8:=I7.zA (n:=n) ef.zY.symm (by show n<P1.Xs.length;rw[ef.zY];exact hn) ⟨1,fr,true⟩;have B8:=AA (AM B7 I8.2.1 I8.2.2 jV);have oy:=AA I8.1;clear hT I7 I8 B7 C6);go_ret;refine⟨AF (by rw[lG.u]),λ_=>⟨m7,i7,e7,c7,?_⟩,B8.u⟩;rw[lG.u];have e8:=oy.u;rw[<-oq.u] at e8;exact e8
  have HT:=AA (T1 (by
   simp only[yD,decide_eq_true_eq] at cu;exact⟨mI.1 cu.1,cu.2⟩))
  go_wp2;go_ret;exact⟨AF (by rw[HT.u]),λh=>(by rw[HT.u] at h;cases h),ig.u⟩
theorem Bu (hB:w.heap[g]?=some (.cells #[a0,a1,a2,a3,a4,a5,a6,a7,a8] 32 (0,0)))(h2:Es lo w m i e c s l q P):
 (((DO w g m i e c s l q).setCell (g,7) (.int .i64 P.FU)).setCell (g,8) (.int .i64 P.VO)).heap[g]?=some (.cells #[m,i,e,c,s,l,q,P.FU,P.VO] 32 (0,0))/\
 Es lo (((DO w g m i e c s l q).setCell (g,7) (.int .i64 P.FU)).setCell (g,8) (.int .i64 P.VO)) m i e c s l q P/\
 w.grownBy (((DO w g m i e c s l q).setCell (g,7) (.int .i64 P.FU)).setCell (g,8) (.int .i64 P.VO)) (some g):=by
 have gr:=FQ (w:=w) (g:=g) (b0:=m) (b1:=i) (b2:=e) (b3:=c) (b4:=s) (b5:=l) (b6:=q) (b7:=.int .i64 P.FU) (b8:=.int .i64 P.VO);exact⟨Hj hB,h2.yV gr hB,gr⟩
theorem Ed (hB:w.heap[g]?=some (.cells #[a0,a1,a2,a3,a4,a5,a6,a7,a8] 32 (0,0)))(A:Γ B w0 w)(H:B<=g):
 (((DO w g (.slice none 0 0) (.slice none 0 0) (.slice none 0 0) (.slice none 0 0) (.slice none 0 0) (.slice none 0 0) (.slice none 0 0)).setCell (g,7) (.int .i64 0)).setCell (g,8) (.int .i64 0)).heap[g]?=some (.cells #[ι,ι,ι,ι,ι,ι,ι,θ,θ] 32 (0,0))/\
 Γ B w0 (((DO w g (.slice none 0 0) (.slice none 0 0) (.slice none 0 0) (.slice none 0 0) (.slice none 0 0) (.slice none 0 0) (.slice none 0 0)).setCell (g,7) (.int .i64 0)).setCell (g,8) (.int .i64 0)):=
 ⟨Hj hB,AM A FQ H (yM H (td (AU hB)))⟩
theorem ID.start (h2:Es lo w m i e c s l q P)(bD:lo<=w.heap.size):ID lo w.heap.size (w.alloc (.cells #[m,i,e,c,s,l,q,P.FU,P.VO] 32)) m i e c s l q P:=
 ⟨yx _ _,bD,h2.below (AJ _ _)⟩
def Fo(w:Ω)(t:AP×Bool)(r:Ending)(w':Ω):Prop:=∃m i e c s l q,r=.returned (.tuple #[AN m i e c s l q t.1.FU t.1.VO,t.2])/\Es w w' m i e c s l q t.1/\Γ w w w'
theorem Tu (mv iv ev cv sv lv qv:Φ)(P:AP)(n:Int)(w:Ω)(h:JA w mv iv ev cv sv lv qv P)(hs:Gs P.V0)(cu:(BN P&&Bj n 0 15)=false):
 Ξ prog 33 #[AN mv iv ev cv sv lv qv P.FU P.VO,.int .i64 n] w λr w'=>fV r/\Γ w w w':=by
 unfold AN;obtain⟨B0,B1,br,iS⟩:=FR w (.cells #[mv,iv,ev,cv,sv,lv,qv,P.FU,P.VO] 32) (.cells #[ι,ι,ι,ι,ι,ι,ι,θ,θ] 32);have h0:=h.below br;go_in;go_wp2_with fail;generalize(w.alloc _).alloc _=W0 at*;have CV:=AA (λW (E:Γ W0 W0 W)=>GF mv iv ev cv sv lv qv P W (h0.below E) hs);have cP:=AA br;have fl:=AA B1;generalize BN P=ok at*;clear h h0 br B0 iS;refine(CV W0 (yN _ _)).mono ?_;rintro r w1 ⟨rfl,b1⟩;have Bw:=AA (cP.trans (b1.mono cP.size));have N1:=AB fl b1;have f1:=AI N1;obtain⟨a0,a1,a2,a3,a4,a5,a6,a7,a8⟩:=AC N1;have S2:=AA (Ed N1 (Bw.u) ω);clear b1 B1 N1;cases ok
 rotate_left
 focus
  go_wp2_with fail
  refine(OC _ _).mono ?_;rintro r w2 ⟨rfl,rfl⟩;rw[show Bj n 0 15=false by simpa using cu]
 rotate_left
 all_goals
  go_wp2_with fail
  clear a0 a1 a2 a3 a4 a5 a6 a7 a8 f1;obtain⟨N2,B2⟩:=S2.u;unfold DO at N2 B2;exact yB (v:=.tuple #[.agg #[_,_,_,_,_,_,_,_,_],_]) (by simp[results,Tryz.results33,go_sem,AC N2]) rfl ⟨rfl,B2⟩
theorem MG (mv iv ev cv sv lv qv:Φ)(P:AP)(w:Ω)(h:JA w mv iv ev cv sv lv qv P)(hP:Dd P){n:Nat}(hn:n<16):
 Ξ prog 33 #[AN mv iv ev cv sv lv qv P.FU P.VO,.int .i64 n] w (Fo w (Bm P n)):=by
 unfold AN Fo;obtain⟨B0,B1,br,iS⟩:=FR w (.cells #[mv,iv,ev,cv,sv,lv,qv,P.FU,P.VO] 32) (.cells #[ι,ι,ι,ι,ι,ι,ι,θ,θ] 32);have h0:=h.below br;have b9:BN P=true:=Ct.2 hP;have HT:=λ(h:(Bm P n).2=false)=>Gg hP hn h
 have HO:=LJ hP hn;generalize hT:Bm P n=t at HT HO ⊢;obtain⟨Q,bb⟩:=t;replace HT:=AA HT;replace HO:=AA HO;have rH:=AA hT;clear hT;dsimp only at HT HO ⊢;go_in;go_wp2_with fail;generalize(w.alloc _).alloc _=W0 at*;have CV:=AA (λW (E:Γ W0 W0 W)=>GF mv iv ev cv sv lv qv P W (h0.below E) (CJ hP.k));have CO:=AA (λW (E:Γ W0 W0 W)=>Ji mv iv ev cv sv lv qv P W (h0.below E) hP);rw[b9] at CV;have cP:=AA br;have bE:=AA B0;have fl:=AA B1;have sf:=AA hP;have nD:Bj (n:Int) 0 15=true:=Aa.2 ω;clear h h0 br B0 B1 hP b9;refine(CV W0 (yN _ _)).mono ?_;rintro r w1 ⟨rfl,b1⟩;obtain⟨x0,x1,x2,x3,x4,x5,x6,x7,x8⟩:=AC (AB bE b1);have bu:=AA b1;clear b1 CV;go_wp2_with fail;refine(OC _ _).mono ?_;rintro r w2 ⟨rfl,rfl⟩;rw[nD];go_wp2_with fail;refine(CO w1 bu.u).mono ?_;rintro r w2 ⟨m2,i2,e2,c2,s2,l2,q2,rfl,O2,b2⟩;unfold AN;obtain⟨⟨⟨ma,mn,mc,rfl⟩,⟨ia,iN,ic,rfl⟩,⟨ea,en,ec,rfl⟩,⟨qa,qn,qc,rfl⟩⟩,⟨sa,sn,sc,rfl⟩,⟨la,ln,lc,rfl⟩,⟨pa,pn,pc,rfl⟩⟩:=O2.Dq;have jh:W0.heap.size<=w2.heap.size:=yM bu.size b2.size;have I3:=ID.start (O2.lower bu.size) jh;have b3:Γ W0 W0 (w2.alloc (.cells #[.slice ma mn mc,.slice ia iN ic,.slice ea en ec,.slice qa qn qc,.slice sa sn sc,.slice la ln lc,.slice pa pn pc,P.FU,P.VO] 32)):=bu.trans ((b2.mono bu.size).trans ((AJ _ _).mono jh));clear O2 b2 x0 x1 x2 x3 x4 x5 x6 x7 x8;go_wp2_with fail;generalize w2.heap.size=g3 at*;generalize w2.alloc _=W3 at*;have CB:=Zn I3 b3.size sf hn;have iJ:=AA b3;clear I3 b3;rw[rH.u] at CB;unfold RU at CB;refine CB.mono ?_;rintro r w4 ⟨rfl,hI,jv⟩;have ke:=AA (iJ.trans jv);have B1:=AB fl ke.u;have jO:=AA (cP.trans (ke.mono cP.size));cases bb
 .have hs:=HT rfl
  obtain⟨x0,x1,x2,x3,x4,x5,x6,x7,x8⟩:=AC (AB bE ke.u);clear hI jv CB;go_wp2_with fail;refine(CO w4 ke.u).mono ?_;rintro r w5 ⟨m5,i5,e5,c5,s5,l5,q5,rfl,O5,b5⟩;unfold AN;clear x0 x1 x2 x3 x4 x5 x6 x7 x8;subst hs;obtain⟨⟨⟨ma,mn,mc,rfl⟩,⟨ia,iN,ic,rfl⟩,⟨ea,en,ec,rfl⟩,⟨qa,qn,qc,rfl⟩⟩,⟨sa,sn,sc,rfl⟩,⟨la,ln,lc,rfl⟩,⟨pa,pn,pc,rfl⟩⟩:=O5.Dq;have N5:=AB B1 b5;have S5:=Bu N5 O5;obtain⟨a0,a1,a2,a3,a4,a5,a6,a7,a8⟩:=AC N5;have f5:=AI N5;have lC:=AA S5;have ir:=AA b5;have lu:=AA (AU B1);clear O5 S5 N5 b5 B1;go_wp2_with fail;clear a0 a1 a2 a3 a4 a5 a6 a7 a8 f5;obtain⟨N6,O6,lk⟩:=lC.u;have B6:=AM (jO.trans (ir.mono (by have:=jO.size;have:=lu.u;omega))) lk ω (by have:=jO.size;have:=ir.size;omega);have O7:=O6.lower (lo':=w.heap.size) (by have:=jO.size;omega);unfold DO at N6 O7 B6;exact yB (v:=.tuple #[.agg #[_,_,_,_,_,_,_,_,_],υ]) (by simp[results,Tryz.results33,go_sem,AC N6]) rfl ⟨_,_,_,_,_,_,_,rfl,O7,B6⟩
 obtain⟨m4,i4,e4,c4,I4⟩:=hI rfl
 have C5:=AA (Ji _ _ _ _ _ _ _ Q w4 I4.own.rd HO.u);obtain⟨x0,x1,x2,x3,x4,x5,x6,x7,x8⟩:=AC I4.yU;clear jv CB I4;go_wp2_with fail;refine C5.mono ?_;rintro r w5 ⟨m5,i5,e5,c5,s5,l5,q5,rfl,O5,b5⟩;unfold AN;clear x0 x1 x2 x3 x4 x5 x6 x7 x8 C5;obtain⟨⟨⟨ma,mn,mc,rfl⟩,⟨ia,iN,ic,rfl⟩,⟨ea,en,ec,rfl⟩,⟨qa,qn,qc,rfl⟩⟩,⟨sa,sn,sc,rfl⟩,⟨la,ln,lc,rfl⟩,⟨pa,pn,pc,rfl⟩⟩:=O5.Dq;have N5:=AB B1 b5;have S5:=Bu N5 O5;obtain⟨a0,a1,a2,a3,a4,a5,a6,a7,a8⟩:=AC N5;have f5:=AI N5;have lC:=AA S5;have ir:=AA b5;have lu:=AA (AU B1);clear O5 S5 N5 b5 B1;go_wp2_with fail;clear a0 a1 a2 a3 a4 a5 a6 a7 a8 f5;obtain⟨N6,O6,lk⟩:=lC.u;have B6:=AM (jO.trans (ir.mono (by have:=jO.size;have:=lu.u;omega))) lk ω (by have:=jO.size;have:=ir.size;omega);have O7:=O6.lower (lo':=w.heap.size) (by have:=jO.size;omega);unfold DO at N6 O7 B6;exact yB (v:=.tuple #[.agg #[_,_,_,_,_,_,_,_,_],τ]) (by simp[results,Tryz.results33,go_sem,AC N6]) rfl ⟨_,_,_,_,_,_,_,rfl,O7,B6⟩
def Mt(w:Ω)(t:AP×Int×Bool)(r:Ending)(w':Ω):Prop:=∃m i e c s l q,r=.returned (.tuple #[AN m i e c s l q t.1.FU t.1.VO,t.2.1,t.2.2])/\Es w w' m i e c s l q t.1/\Γ w w w'
def fU(r:Ending):Prop:=r=.returned (.tuple #[AN (.slice none 0 0) (.slice none 0 0) (.slice none 0 0) (.slice none 0 0) (.slice none 0 0) (.slice none 0 0) (.slice none 0 0) 0 0,θ,υ])
def Im(w:Ω)(t:AP×Int)(r:Ending)(w':Ω):Prop:=∃m i e c s l q,r=.returned (.tuple #[AN m i e c s l q t.1.FU t.1.VO,t.2])/\Es w w' m i e c s l q t.1/\Γ w w w'
def VJ(r:Ending):Prop:=r=.returned (.tuple #[AN (.slice none 0 0) (.slice none 0 0) (.slice none 0 0) (.slice none 0 0) (.slice none 0 0) (.slice none 0 0) (.slice none 0 0) 0 0,.int .i64 5])
theorem XH (h:Bm p (a/4)=(Q,true)):GC p a=({Q with V0:=(Ad Q.V0 (Ah 10 (a:Int) 0 0)).1},(Ad Q.V0 (Ah 10 (a:Int) 0 0)).2.1,true):=by unfold GC;rw[h];rfl
theorem U9 (h:Bm p (a/4)=(Q,true)):Gf p a x=({Q with V0:=(Ad Q.V0 (Ah 11 (a:Int) x 0)).1},true):=by unfold Gf;rw[h];rfl
theorem Ts (mv iv ev cv sv lv qv:Φ)(P:AP)(call:AT)(w:Ω)(h:JA w mv iv ev cv sv lv qv P)(hs:Gs P.V0)(cu:(BN P&&Bj call.e 1 2)=false):
 Ξ prog 8 #[AN mv iv ev cv sv lv qv P.FU P.VO,.agg #[call.k,call.e,call.a,call.b,call.c,call.nm]] w λr w'=>VJ r/\Γ w w w':=by
 unfold AN;obtain⟨B0,B1,B2,br,iS⟩:=Ft w (.cells #[mv,iv,ev,cv,sv,lv,qv,P.FU,P.VO] 32) (.cells #[call.k,call.e,call.a,call.b,call.c,call.nm] 34) (.cells #[ι,ι,ι,ι,ι,ι,ι,θ,θ] 32);have h0:=h.below br;go_in;go_wp2_with fail;generalize((w.alloc _).alloc _).alloc _=W0 at*;have CV:=AA (λW (E:Γ W0 W0 W)=>GF mv iv ev cv sv lv qv P W (h0.below E) hs);have cP:=AA br;have fl:=AA B1;have ig:=AA B2;generalize BN P=ok at*;clear h h0 br B0 iS;refine(CV W0 (yN _ _)).mono ?_;rintro r w1 ⟨rfl,b1⟩;have Bw:=AA (cP.trans (b1.mono cP.size));have N1:=AB ig b1;obtain⟨_,y1,_⟩:=FE (AB fl b1);clear b1 B1 B2 CV;cases ok
 rotate_left
 focus
  go_wp2_with fail
  refine(Ic _ _).mono ?_;rintro r w2 ⟨rfl,rfl⟩;rw[show Bj call.e 1 2=false by simpa using cu]
 rotate_left
 all_goals
  clear y1
  have f1:=AI N1;obtain⟨a0,a1,a2,a3,a4,a5,a6,a7,a8⟩:=AC N1;have S2:=AA (Ed N1 (Bw.u) ω);clear N1;go_wp2_with fail;clear a0 a1 a2 a3 a4 a5 a6 a7 a8 f1;obtain⟨N2,B2⟩:=S2.u;unfold DO at N2 B2;exact yB (v:=.tuple #[.agg #[_,_,_,_,_,_,_,_,_],_]) (by simp[results,Tryz.results8,go_sem,AC N2]) rfl ⟨rfl,B2⟩
theorem MF (mv iv ev cv sv lv qv:Φ)(P:AP)(call:AT)(w:Ω)(h:JA w mv iv ev cv sv lv qv P)(hP:Dd P)(he:1<=call.e/\call.e<=2)(fz:call.nm.size<=maxLen)(jk:call.c<=9223372036854775807):
 Ξ prog 8 #[AN mv iv ev cv sv lv qv P.FU P.VO,.agg #[call.k,call.e,call.a,call.b,call.c,call.nm]] w (Im w (HY P call)):=by
 unfold AN Im;obtain⟨B0,B1,B2,br,iS⟩:=Ft w (.cells #[mv,iv,ev,cv,sv,lv,qv,P.FU,P.VO] 32) (.cells #[call.k,call.e,call.a,call.b,call.c,call.nm] 34) (.cells #[ι,ι,ι,ι,ι,ι,ι,θ,θ] 32);have h0:=h.below br;have b9:BN P=true:=Ct.2 hP;have ef:=AA ((Ox hP (c:=call) ω).1);have CC:=AA (λm i e c W (hR:Ns W m i e c P.V0)=>Rs m i e c P.V0 call W hR hP.k ω ω fz jk);have HE:=AA (show Bj call.e 1 2=true from Aa.2 he);have HO:HY P call=({P with V0:=(Ad P.V0 call).1},(Ad P.V0 call).2.2):=rfl;rw[HO] at ef;have Ho:=AA HO;unfold Mr at CC;generalize Ad P.V0 call=res at CC ef Ho;clear HO;obtain⟨ck,ce,ca,cb,cc,nm⟩:=call;dsimp only at*;go_in;go_wp2_with fail;generalize((w.alloc _).alloc _).alloc _=W0 at*;have CV:=AA (λW (E:Γ W0 W0 W)=>GF mv iv ev cv sv lv qv P W (h0.below E) (CJ hP.k));have CO:=AA (λW (E:Γ W0 W0 W)=>Ji mv iv ev cv sv lv qv P W (h0.below E) hP);rw[b9] at CV;have cP:=AA br;have bE:=AA B0;have fl:=AA B1;have ig:=AA B2;have AL:=AA iS;clear h h0 br B0 B1 B2 hP b9 iS he;refine(CV W0 (yN _ _)).mono ?_;rintro r w1 ⟨rfl,b1⟩;obtain⟨x0,x1,x2,x3,x4,x5,x6,x7,x8⟩:=AC (AB bE b1);obtain⟨_,y1,_⟩:=FE (AB fl b1);have bu:=AA b1;clear b1 CV;go_wp2_with fail;refine(Ic _ _).mono ?_;rintro r w2 ⟨rfl,rfl⟩;rw[HE.u];clear y1;go_wp2_with fail;refine(CO w1 bu.u).mono ?_;rintro r w2 ⟨m2,i2,e2,c2,s2,l2,q2,rfl,O2,b2⟩;unfold AN;obtain⟨⟨⟨ma,mn,mc,rfl⟩,⟨ia,iN,ic,rfl⟩,⟨ea,en,ec,rfl⟩,⟨qa,qn,qc,rfl⟩⟩,⟨sa,sn,sc,rfl⟩,⟨la,ln,lc,rfl⟩,⟨pa,pn,pc,rfl⟩⟩:=O2.Dq;have jh:W0.heap.size<=w2.heap.size:=yM bu.size b2.size;have I3:=ID.start (O2.lower bu.size) jh;have b3:Γ W0 W0 (w2.alloc (.cells #[.slice ma mn mc,.slice ia iN ic,.slice ea en ec,.slice qa qn qc,.slice sa sn sc,.slice la ln lc,.slice pa pn pc,P.FU,P.VO] 32)):=bu.trans ((b2.mono bu.size).trans ((AJ _ _).mono jh));obtain⟨y0,y1,y2,y3,y4,y5⟩:=FE (AB fl b3);clear O2 b2 x0 x1 x2 x3 x4 x5 x6 x7 x8;go_wp2_with fail;generalize w2.heap.size=g3 at*;generalize w2.alloc _=W3 at*;have kz:=AA I3;have iJ:=AA b3;clear I3 b3;refine(CC _ _ _ _ W3 kz.own.ker.rd).mono ?_;rintro r w4 ⟨m4,i4,e4,c4,rfl,O4,b4⟩;obtain⟨⟨m6,mY,fp,rfl⟩,⟨nk,nq,ni,rfl⟩,⟨oa,n6,n8,rfl⟩,⟨mQ,mM,mO,rfl⟩⟩:=O4.Dq;have b5:=b4.trans ((AJ w4 (.cells #[.slice m6 mY fp,.slice nk nq ni,.slice oa n6 n8,.slice mQ mM mO] 28)).mono b4.size);have I4:=kz.below b5;have I5:=kz.put b5 (yF _) iJ.size (O4.below (AJ w4 (.cells #[.slice m6 mY fp,.slice nk nq ni,.slice oa n6 n8,.slice mQ mM mO] 28)))
 have B5:=AM (iJ.trans (b5.mono iJ.size)) (Ar _ g3 (.slice m6 mY fp) (.slice nk nq ni) (.slice oa n6 n8) (.slice mQ mM mO)) kz.yT (yM iJ.size b5.size);have lH:=AA I5;have pJ:=AA B5;obtain⟨x0,x1,x2,x3,x4,x5,x6,x7,x8⟩:=AC I4.yU;have fg:=AI I4.yU;clear y0 y1 y2 y3 y4 y5 O4 b4 b5 I4 I5 B5 CC;go_wp2_with fail;clear x0 x1 x2 x3 x4 x5 x6 x7 x8 fg;generalize((((w4.alloc _).setCell _ _).setCell _ _).setCell _ _).setCell _ _=W5 at*;have B3:=AB ig pJ.u;have mJ:=AA (cP.trans (pJ.mono cP.size));have C6:=Ji _ _ _ _ _ _ _ {P with V0:=res.1} W5 lH.own.rd ef.u;refine C6.mono ?_;rintro r w5 ⟨m5,i5,e5,c5,s5,l5,q5,rfl,O5,b5⟩;unfold AN;clear C6;obtain⟨⟨⟨ma,mn,mc,rfl⟩,⟨ia,iN,ic,rfl⟩,⟨ea,en,ec,rfl⟩,⟨qa,qn,qc,rfl⟩⟩,⟨sa,sn,sc,rfl⟩,⟨la,ln,lc,rfl⟩,⟨pa,pn,pc,rfl⟩⟩:=O5.Dq;have N5:=AB B3 b5;have S5:=Bu N5 O5;obtain⟨a0,a1,a2,a3,a4,a5,a6,a7,a8⟩:=AC N5;have f5:=AI N5;have lC:=AA S5;have ir:=AA b5;have lu:=AA (AU B3);clear O5 S5 N5 b5 B3;go_wp2_with fail;clear a0 a1 a2 a3 a4 a5 a6 a7 a8 f5;obtain⟨N6,O6,lk⟩:=lC.u;have B6:=AM (mJ.trans (ir.mono (by have:=mJ.size;have:=lu.u;omega))) lk ω (by have:=mJ.size;have:=ir.size;omega);have O7:=O6.lower (lo':=w.heap.size) (by have:=mJ.size;omega);unfold DO at N6 O7 B6;exact yB (v:=.tuple #[.agg #[.slice ma mn mc,.slice ia iN ic,.slice ea en ec,.slice qa qn qc,.slice sa sn sc,.slice la ln lc,.slice pa pn pc,P.FU,P.VO],res.2.2]) (by simp[results,Tryz.results8,go_sem,AC N6]) rfl (by rw[Ho.u];exact⟨_,_,_,_,_,_,_,rfl,O7,B6⟩)
theorem EZ (n:Int)(w:Ω):Ξ prog 90 #[.int .i64 n] w λe w'=>e=.returned (.bool (Bj n 0 11))/\w=w':=by go_in;go_wp2_with (go_at_call 27;refine(Cr _ _ _ _).mono ?_;rintro e w' ⟨rfl,rfl⟩);go_ret;exact⟨rfl,rfl⟩
theorem KE (n:Int)(w:Ω):Ξ prog 205 #[.int .i64 n] w λe w'=>e=.returned (.bool (Bj n 0 2))/\w=w':=by go_in;go_wp2_with (go_at_call 27;refine(Cr _ _ _ _).mono ?_;rintro e w' ⟨rfl,rfl⟩);go_ret;exact⟨rfl,rfl⟩
theorem GY (n:Int)(w:Ω):Ξ prog 147 #[.int .i64 n] w λe w'=>e=.returned (.bool (Bp n))/\w=w':=by
 by_cases O:n=2
 .subst O
  go_in;go_wp2;go_ret;exact⟨rfl,rfl⟩
 have t2:(n==2)=false:=by simp[O]
 have hW:=AA (show Bp n=(n==3) by by_cases h3:n=3<;>simp[Bp,O,h3]);clear O;go_in;go_wp2;go_ret;exact⟨AF hW.symm,rfl⟩
def Eg(x:Int):Int:=if x=0 then 0 else if Bv x then 1 else 2
theorem Kr (x:Int)(w:Ω):Ξ prog 237 #[.int .i64 x] w λe w'=>e=.returned (.int .i64 (Eg x))/\w=w':=by
 by_cases h0:x=0
 .subst h0
  go_in;go_wp2;go_ret;exact⟨rfl,rfl⟩
 have t0:(x==0)=false:=by simp[h0]
 by_cases L:0<x
 .by_cases O:x%2=1
  .have t2:(x%2==1)=true:=by simp[O]
   by_cases h3:x<48
   .have hW:=AA (show Eg x=1 by unfold Eg;rw[if_neg h0,if_pos (by simp[Bv,L,O,h3])])
    clear O h0;go_in;go_wp2;go_ret;exact⟨Cy hW.symm,rfl⟩
   have hW:=AA (show Eg x=2 by unfold Eg;rw[if_neg h0,if_neg (by simp[Bv,L,O,h3])])
   clear O h0;go_in;go_wp2;go_ret;exact⟨Cy hW.symm,rfl⟩
  have t2:(x%2==1)=false:=by simp[O]
  have hW:=AA (show Eg x=2 by unfold Eg;rw[if_neg h0,if_neg (by simp[Bv,O])]);clear O h0;go_in;go_wp2;go_ret;exact⟨Cy hW.symm,rfl⟩
 have hW:=AA (show Eg x=2 by unfold Eg;rw[if_neg h0,if_neg (by simp[Bv,L])])
 clear h0;go_in;go_wp2;go_ret;exact⟨Cy hW.symm,rfl⟩
theorem DP (x:Int)(w:Ω)(hx:x<=9223372036854775807):Ξ prog 211 #[.int .i64 x] w λe w'=>e=.returned (VY x)/\w=w':=by
 cases H:Bv x
 focus
  have hW:=AA (Et H)
  have hj:(Eg x !=1)=true:=by unfold Eg;split<;>simp[H]
  generalize N:Eg x=k at hj;have Z:=AA N;clear H N
 rotate_left
 focus
  have hp:0<x/\x%2=1/\x<48:=by simpa[Bv,and_assoc] using H
  have W:LZ x=(x%4==3):=by cases h:(x%4==3)<;>simp_all[LZ]
  have hW:=AA (show VY x=.tuple #[.int .i64 (x/4),.bool (x%4==3),τ] by rw[En H,Wh H,W]);have Z:=AA (show Eg x=1 by unfold Eg;rw[if_neg ω,H];rfl);have h0:0<=x:=ω;clear H W hp
 rotate_left
 all_goals
  go_in;go_wp2_with (go_at_call 237;refine(Kr _ _).mono ?_;rintro e w' ⟨rfl,rfl⟩;rw[Z.u]);go_ret3;exact⟨QF hW.symm,rfl⟩
theorem eP (a b:ByteArray):((b.extract 0 a.size).toList==a.toList)=L8 a b:=by rw[wW,beq_iff_eq,xA,xA];unfold L8;rw[vi,List.prefix_iff_eq_take];simp only[ByteArray.data_extract,Array.toList_extract,List.extract,Nat.sub_zero,List.drop_zero,Array.length_toList,ByteArray.size_data];exact eq_comm
theorem Nb (a b:ByteArray)(w:Ω)(ha:a.size<=maxLen)(A:b.size<=maxLen):Ξ prog 151 #[.string a,.string b] w λe w'=>e=.returned (.bool (L8 a b))/\w=w':=by
 unfold maxLen at ha A
 by_cases h:a.size<=b.size
 .have L:(a.size:Int)<=b.size:=ω
  have hW:=AA (eP a b);go_in;go_wp2;go_ret;exact⟨AF hW.u,rfl⟩
 have L:¬(a.size:Int)<=b.size:=ω;have hW:=AA (show L8 a b=false by
  cases hc:L8 a b
  .rfl
  have:=(vi.1 hc).length_le
  simp at this;omega)
 go_in;go_wp2;go_ret;exact⟨AF hW.symm,rfl⟩
theorem Kg{α:Type}{p:α->Bool}{xs:List α}{f:Nat->α}(hf:∀k,k<xs.length->xs[k]?=some (f k))(h:∀j,j<xs.length->p (f j)=true):xs.all p=true:=by rw[yr];intro x hx;obtain⟨j,K,rfl⟩:=wY hx;have:=h j K;have e:=hf j K;rw[yG K] at e;rw[yP e];exact this
theorem Jr{α:Type}{p:α->Bool}{xs:List α}{x:α}{k:Nat}(hx:xs[k]?=some x)(hp:p x=false):xs.all p=false:=by rw[xj];exact⟨x,yv hx,by simp[hp]⟩
theorem Pr{α:Type}{p:α->Bool}{xs:List α}{x:α}{k:Nat}(hx:xs[k]?=some x)(hp:p x=true):xs.any p=true:=vP.2 ⟨x,yv hx,hp⟩
theorem ML{α:Type}{p:α->Bool}{xs:List α}{f:Nat->α}(hf:∀k,k<xs.length->xs[k]?=some (f k))(h:∀j,j<xs.length->p (f j)=false):xs.any p=false:=by rw[List.any_eq_false];intro x hx;obtain⟨j,K,rfl⟩:=wY hx;have:=h j K;have e:=hf j K;rw[yG K] at e;rw[yP e];simp[this]
theorem RA{k:Nat}(h:k<xs.length):xs[k]?=some (nth xs k):=Sp h
theorem MT (v:Φ)(r:List Int)(w:Ω)(h:A1 w v r):Ξ prog 88 #[v] w λe w'=>e=.returned (.bool (EP r))/\Γ w w w':=by
 obtain⟨a,c,rfl,hc,cg,hg⟩:=h.open;unfold maxLen at cg;have HH:=AA hg;clear h hg;go_in;go_wp2_with fail;go_loopw [3] (λix wr=>∃k:Nat,k<=r.length/\ix=.int .i64 k/\(∀j,j<k->Dx (nth r j)=true)/\Γ w w wr) (λix _=>r.length - (intOf ix).toNat)
 exact⟨0,yt _,rfl,λj K=>absurd K (xV _),yN _ _⟩
 obtain⟨k,N,rfl,ab,A⟩:=hrel;have ad:=AA ab;clear ab
 by_cases ao:k<r.length
 .have bP:(k:Int)<(r.length:Int):=ω
  obtain⟨b,bx,rfl,vs⟩:=(HH.below A).at ao;cases hp:Dx (nth r k)
  .have S:=AA (show EP r=false by unfold EP;rw[Jr (RA ao) hp];rfl)
   have Hp:=AA hp;clear hp;go_wp2_with (refine(Cr _ _ _ _).mono ?_;rintro e w' ⟨rfl,rfl⟩;rw[show Bj _ 0 9999=false from Hp.u]);go_ret;exact⟨AF S.symm,A⟩
  have Hp:=AA hp
  clear hp;go_wp2_with fail;refine(Cr _ _ _ _).mono ?_;rintro e w' ⟨rfl,rfl⟩;rw[show Bj _ 0 9999=true from Hp.u];go_wp2;go_roundw;exact⟨k+1,ω,ξ,Am ad Hp.u,A⟩;simp[intOf];omega
 have ek:k=r.length:=ω;have ab:=ad.u;rw[ek] at ab;have S:=AA (show EP r=((r.length:Int)==4) by unfold EP;rw[Kg (λk N=>RA N) ab];by_cases h4:r.length=4<;>simp[h4]<;>omega);clear ad ab;go_wp2;go_ret;exact⟨AF S.symm,A⟩
theorem Km{m:List (List Int)}{k:Nat}(h:k<m.length):m[k]?=some (AK m k):=by unfold AK;exact A6 h
theorem JN (v:Φ)(m:List (List Int))(w:Ω)(h:Bl w v m):Ξ prog 81 #[v] w λe w'=>e=.returned (.bool (By m))/\Γ w w w':=by
 obtain⟨a,c,rfl,hc,cg,hg⟩:=h.open;unfold maxLen at cg;have HH:=AA hg;clear h hg;go_in;go_wp2_with fail;go_loopw [3] (λix wr=>∃k:Nat,k<=m.length/\ix=.int .i64 k/\(∀j,j<k->EP (AK m j)=true)/\Γ w w wr) (λix _=>m.length - (intOf ix).toNat)
 exact⟨0,yt _,rfl,λj K=>absurd K (xV _),yN _ _⟩
 obtain⟨k,N,rfl,ab,A⟩:=hrel;have ad:=AA ab;clear ab
 by_cases ao:k<m.length
 .have bP:(k:Int)<(m.length:Int):=ω
  obtain⟨b,bx,u,rfl,cl,vs,hr⟩:=(HH.below A) k ao;have C:=AA (MT u _ wr hr);clear hr;cases hp:EP (AK m k)
  .have S:=AA (show By m=false by unfold By;rw[Jr (Km ao) hp];rfl)
   have Hp:=AA hp;clear hp;go_wp2_with (refine C.mono ?_;rintro e w2 ⟨rfl,b2⟩;rw[Hp.u]);go_ret;exact⟨AF S.symm,A.trans (b2.mono A.size)⟩
  have Hp:=AA hp
  clear hp;go_wp2_with fail;refine C.mono ?_;rintro e w2 ⟨rfl,b2⟩;rw[Hp.u];go_wp2;go_roundw;exact⟨k+1,ω,ξ,Am ad Hp.u,A.trans (b2.mono A.size)⟩;simp[intOf];omega
 have ek:k=m.length:=ω;have ab:=ad.u;rw[ek] at ab;have S:=AA (show By m=((m.length:Int)==12) by unfold By;rw[Kg (λk N=>Km N) ab];by_cases h4:m.length=12<;>simp[h4]<;>omega);clear ad ab;go_wp2;go_ret;exact⟨AF S.symm,A⟩
theorem Yx{x:AX}(N:x.k=0):Dk x=decide (x=AX.zero):=by unfold Dk;rw[show Bj x.k 1 3=false from Vd.2 ω];simp
theorem OJ{x:AX}(N:x.k≠0):Dk x=(Bj x.k 1 3&&BR x.g&&Bj x.r 0 50):=by unfold Dk;rw[show decide (x=AX.zero)=false by simp;intro e;rw[e] at N;exact N rfl];simp
theorem Wy (x:AX)(w:Ω)(hs:x.g.size<=maxLen):Ξ prog 142 #[x.val] w λe w'=>e=.returned (.bool (Dk x))/\Γ w w w':=by
 have E0:=Yx (x:=x);have E1:=OJ (x:=x);generalize Dk x=res at E0 E1 ⊢;obtain⟨k,g,r⟩:=x;simp only[AX.val];dsimp only at E0 E1 hs;have C:=AA (λW=>El g W hs)
 by_cases N:k=0
 .subst N
  have hi:=AA (show res=(decide (g=⟨#[]⟩)&&decide (r=0)) by rw[E0 rfl];simp[AX.zero]);clear E0 E1
  by_cases H:g=⟨#[]⟩
  .subst H
   by_cases hr:r=0
   .subst hr
    go_in;go_wp2;go_ret;exact⟨AF (by rw[hi.u];rfl),AJ _ _⟩
   have R2:=AA (show res=false by rw[hi.u];simp[hr])
   go_in;go_wp2;go_ret;exact⟨AF R2.symm,AJ _ _⟩
  have R2:=AA (show res=false by rw[hi.u];simp[H])
  have jZ:¬g.toList=[]:=λe=>H (by rw[xA] at e;obtain⟨⟨l⟩⟩:=g;simp at e;rw[e])
  go_in;go_wp2;go_ret;exact⟨AF R2.symm,AJ _ _⟩
 have t0:(k==0)=false:=by simp[N]
 have hi:=AA (E1 N);clear E0 E1 N;go_in;go_wp2_with fail;refine(Cr _ _ _ _).mono ?_;rintro e w2 ⟨rfl,rfl⟩;cases L:Bj k 1 3
 .have R2:=AA (show res=false by rw[hi.u,L];rfl)
  go_wp2;go_ret;exact⟨AF R2.symm,AJ _ _⟩
 go_wp2_with fail
 refine(C _).mono ?_;rintro e w2 ⟨rfl,rfl⟩;cases O:BR g
 .have R2:=AA (show res=false by rw[hi.u,L,O];rfl)
  go_wp2;go_ret;exact⟨AF R2.symm,AJ _ _⟩
 have R2:=AA (show res=Bj r 0 50 by rw[hi.u,L,O];rfl)
 go_wp2_with (refine(Cr _ _ _ _).mono ?_;rintro e w2 ⟨rfl,rfl⟩);go_ret;exact⟨AF R2.symm,AJ _ _⟩
theorem Dt (v:Φ)(xs:List AX)(w:Ω)(h:Bf w v xs)(hs:JH xs):Ξ prog 82 #[v] w λe w'=>e=.returned (.bool (BG xs))/\Γ w w w':=by
 obtain⟨a,c,rfl,hc,cg,hg⟩:=BK.open Az ψ h;unfold maxLen at cg;have HH:=AA hg;have HS:=AA hs;clear h hg hs;go_in;go_wp2_with fail;go_loopw [3] (λix wr=>∃k:Nat,k<=xs.length/\ix=.int .i64 k/\(∀j,j<k->Dk (JR xs j)=true)/\Γ w w wr) (λix _=>xs.length - (intOf ix).toNat)
 exact⟨0,yt _,rfl,λj K=>absurd K (xV _),yN _ _⟩
 obtain⟨k,N,rfl,ab,A⟩:=hrel;have ad:=AA ab;clear ab
 by_cases ao:k<xs.length
 .have bP:(k:Int)<(xs.length:Int):=ω
  obtain⟨b,bx,rfl,cl,D0,D1,D2⟩:=(HH.below A).zZ ao;have C:=Wy (JR xs k) wr (HS _ (yv (Cg ao)));simp only[AX.val] at C;have HC:=AA C;clear C;cases hp:Dk (JR xs k)
  .have S:=AA (show BG xs=false by unfold BG;rw[Jr (Cg ao) hp];rfl)
   have Hp:=AA hp;clear hp;go_wp2_with (refine HC.mono ?_;rintro e w2 ⟨rfl,b2⟩;rw[Hp.u]);go_ret;exact⟨AF S.symm,A.trans (b2.mono A.size)⟩
  have Hp:=AA hp
  clear hp;go_wp2_with fail;refine HC.mono ?_;rintro e w2 ⟨rfl,b2⟩;rw[Hp.u];go_wp2;go_roundw;exact⟨k+1,ω,ξ,Am ad Hp.u,A.trans (b2.mono A.size)⟩;simp[intOf];omega
 have ek:k=xs.length:=ω;have ab:=ad.u;rw[ek] at ab;have S:=AA (show BG xs=((xs.length:Int)==12) by unfold BG;rw[Kg (λk N=>Cg N) ab];by_cases h4:xs.length=12<;>simp[h4]<;>omega);clear ad ab;go_wp2;go_ret;exact⟨AF S.symm,A⟩
theorem cY{xs:List AX}{k:Nat}(N:k<xs.length)(h:∀j,j<k->decide ((JR xs j).k=0)=false)(hp:decide ((JR xs k).k=0)=true):An xs=(k:Int):=by
 have g:∀j (K:j<xs.length),xs[j]=JR xs j:=λj K=>by have:=Cg K;rw[yG K] at this;exact yP this
 unfold An;rw[if_pos (Pr (Cg N) hp)];have:xs.findIdx (λx=>decide (x.k=0))=k:=by
  rw[tI N];exact⟨by rw[g k N];exact hp,λj K=>by rw[g j ω];exact h j K⟩
 rw[this]
theorem Z1{xs:List AX}(h:∀j,j<xs.length->decide ((JR xs j).k=0)=false):An xs= -1:=by
 unfold An;rw[if_neg];rw[ML (λk N=>Cg N) h];simp
theorem QS (v:Φ)(xs:List AX)(w:Ω)(h:Bf w v xs):Ξ prog 232 #[v] w λe w'=>e=.returned (.int .i64 (An xs))/\Γ w w w':=by
 obtain⟨a,c,rfl,hc,cg,hg⟩:=BK.open Az ψ h;unfold maxLen at cg;have HH:=AA hg;clear h hg;go_in;go_wp2_with fail;go_loopw [3] (λix wr=>∃k:Nat,k<=xs.length/\ix=.int .i64 k/\(∀j,j<k->decide ((JR xs j).k=0)=false)/\Γ w w wr) (λix _=>xs.length - (intOf ix).toNat)
 exact⟨0,yt _,rfl,λj K=>absurd K (xV _),yN _ _⟩
 obtain⟨k,N,rfl,ab,A⟩:=hrel;have ad:=AA ab;clear ab
 by_cases ao:k<xs.length
 .have bP:(k:Int)<(xs.length:Int):=ω
  obtain⟨b,bx,rfl,cl,D0,D1,D2⟩:=(HH.below A).zZ ao;cases hp:decide ((JR xs k).k=0)
  .have t0:((JR xs k).k==0)=false:=by simpa using hp
   have Hp:=AA hp;clear hp;go_wp2;go_roundw;exact⟨k+1,ω,ξ,Am ad Hp.u,A⟩;simp[intOf];omega
  have t0:((JR xs k).k==0)=true:=by simpa using hp
  have S:=AA (cY ao ad hp);have Hp:=AA hp;clear hp;go_wp2;go_ret;exact⟨Cy S.symm,A⟩
 have ek:k=xs.length:=ω;have ab:=ad.u;rw[ek] at ab;have S:=AA (Z1 ab);clear ad ab;go_wp2;go_ret;exact⟨Cy S.symm,A⟩
theorem Uj (v:Φ)(xs:List Int)(n:Int)(w:Ω)(h:A1 w v xs):Ξ prog 244 #[v,.int .i64 n] w λe w'=>e=.returned (.bool (xs.any λx=>decide (x=n)))/\Γ w w w':=by
 obtain⟨a,c,rfl,hc,cg,hg⟩:=h.open;unfold maxLen at cg;have HH:=AA hg;clear h hg;go_in;go_wp2_with fail;go_loopw [5] (λix wr=>∃k:Nat,k<=xs.length/\ix=.int .i64 k/\(∀j,j<k->decide (nth xs j=n)=false)/\Γ w w wr) (λix _=>xs.length - (intOf ix).toNat)
 exact⟨0,yt _,rfl,λj K=>absurd K (xV _),yN _ _⟩
 obtain⟨k,N,rfl,ab,A⟩:=hrel;have ad:=AA ab;clear ab
 by_cases ao:k<xs.length
 .have bP:(k:Int)<(xs.length:Int):=ω
  obtain⟨b,bx,rfl,vs⟩:=(HH.below A).at ao;cases hp:decide (nth xs k=n)
  .have t0:(nth xs k==n)=false:=by simpa using hp
   have Hp:=AA hp;clear hp;go_wp2;go_roundw;exact⟨k+1,ω,ξ,Am ad Hp.u,A⟩;simp[intOf];omega
  have t0:(nth xs k==n)=true:=by simpa using hp
  have S:=AA (Pr (p:=λx=>decide (x=n)) (RA ao) hp);have Hp:=AA hp;clear hp;go_wp2;go_ret;exact⟨AF S.symm,A⟩
 have ek:k=xs.length:=ω;have ab:=ad.u;rw[ek] at ab;have S:=AA (ML (p:=λx=>decide (x=n)) (λk N=>RA N) ab);clear ad ab;go_wp2;go_ret;exact⟨AF S.symm,A⟩
theorem Ld (v:Φ)(ss:List ByteArray)(g:ByteArray)(w:Ω)(h:BY w v ss)(hs:DQ ss)(H:g.size<=maxLen):Ξ prog 89 #[v,.string g] w λe w'=>e=.returned (.bool (Cd ss g))/\Γ w w w':=by
 obtain⟨a,c,rfl,hc,cg,hg⟩:=BK.open Fi ψ h;unfold maxLen at cg;have HH:=AA hg;have HS:=AA (yj hs H);clear h hg hs H;go_in;go_wp2_with fail;go_loopw [5] (λix wr=>∃k:Nat,k<=ss.length/\ix=.int .i64 k/\(∀j,j<k->L8 (Cw ss j) g=false)/\Γ w w wr) (λix _=>ss.length - (intOf ix).toNat)
 exact⟨0,yt _,rfl,λj K=>absurd K (xV _),yN _ _⟩
 obtain⟨k,N,rfl,ab,A⟩:=hrel;have ad:=AA ab;clear ab
 by_cases ao:k<ss.length
 .have bP:(k:Int)<(ss.length:Int):=ω
  obtain⟨b,bx,rfl,vs⟩:=(HH.below A).str ao;have C:=AA (Nb (Cw ss k) g wr (HS.1 _ (yv (IB ao))) HS.2);cases hp:L8 (Cw ss k) g
  .have Hp:=AA hp
   clear hp;go_wp2_with fail;refine C.mono ?_;rintro e w2 ⟨rfl,rfl⟩;rw[Hp.u];go_wp2;go_roundw;exact⟨k+1,ω,ξ,Am ad Hp.u,A⟩;simp[intOf];omega
  have S:=AA (show Cd ss g=true from Pr (p:=λs=>L8 s g) (IB ao) hp)
  have Hp:=AA hp;clear hp;go_wp2_with (refine C.mono ?_;rintro e w2 ⟨rfl,rfl⟩;rw[Hp.u]);go_ret;exact⟨AF S.symm,A⟩
 have ek:k=ss.length:=ω;have ab:=ad.u;rw[ek] at ab;have S:=AA (show Cd ss g=false from ML (p:=λs=>L8 s g) (λk N=>IB N) ab);clear ad ab;go_wp2;go_ret;exact⟨AF S.symm,A⟩
def Iy(fs:List Nat)(k:Nat):Nat:=fs.getD k 0
theorem Gx{k:Nat}(h:k<fs.length):fs[k]?=some (Iy fs k):=by unfold Iy;exact A6 h
theorem Q3{k:Nat}:nth (A5 fs) k=(Iy fs k:Int):=by unfold nth A5 Iy;simp only[yg,xq];cases fs[k]? <;>rfl
theorem Cs:(A5 fs).length=fs.length:=by simp[A5]
theorem G0 (v1 v2 v3:Φ)(xs:List AX)(fs:List Nat)(ss:List ByteArray)(w:Ω)(L:Bf w v1 xs)(O:A1 w v2 (A5 fs))(h3:BY w v3 ss)(hf:∀f∈fs,f<xs.length)(hI:JH xs)(hs:DQ ss):
 Ξ prog 145 #[v1,v2,v3] w λe w'=>e=.returned (.bool (BM xs fs ss))/\Γ w w w':=by
 obtain⟨a1,c1,rfl,nR,nO,H1⟩:=BK.open Az ψ L;obtain⟨a2,c2,rfl,me,j1,H2⟩:=O.open;rw[Cs] at me ⊢;unfold maxLen at nO j1;have CM:=AA (λW (E:Γ w w W) (g:ByteArray) (H:g.size<=maxLen)=>Ld v3 ss g W (BK.below h3 E) hs H);have s6:=AA H1;have s4:=AA H2;have HF:=AA (yj hf hI);obtain⟨a3,c3,rfl,ye,qN⟩:=h3.shape;clear L O h3 H1 H2 hf hI hs;go_in;go_wp2_with fail;go_loopw [7] (λix wr=>∃k:Nat,k<=fs.length/\ix=.int .i64 k/\(∀j,j<k->Cd ss (JR xs (Iy fs j)).g=true)/\Γ w w wr) (λix _=>fs.length - (intOf ix).toNat)
 exact⟨0,yt _,rfl,λj K=>absurd K (xV _),yN _ _⟩
 obtain⟨k,N,rfl,ab,A⟩:=hrel;have ad:=AA ab;clear ab
 by_cases ao:k<fs.length
 .have bP:(k:Int)<(fs.length:Int):=ω
  obtain⟨b2,mU,rfl,vs⟩:=(s4.below A).at (k:=k) (by rw[Cs];exact ao);rw[Q3] at vs;have ji:=HF.1 _ (yv (Gx ao));obtain⟨b,bx,rfl,cl,D0,D1,D2⟩:=(s6.below A).zZ ji;have l8:(Iy fs k:Int)<xs.length:=ω;have C:=AA (CM wr A (JR xs (Iy fs k)).g (HF.2 _ (yv (Cg ji))));cases hp:Cd ss (JR xs (Iy fs k)).g
  .have S:=AA (show BM xs fs ss=false from Jr (p:=λf=>Cd ss (JR xs f).g) (Gx ao) hp)
   have Hp:=AA hp;clear hp;go_wp2_with (refine C.mono ?_;rintro e w2 ⟨rfl,b2⟩;rw[Hp.u]);go_ret;exact⟨AF S.symm,A.trans (b2.mono A.size)⟩
  have Hp:=AA hp
  clear hp;go_wp2_with fail;refine C.mono ?_;rintro e w2 ⟨rfl,b2⟩;rw[Hp.u];go_wp2;go_roundw;exact⟨k+1,ω,ξ,Am ad Hp.u,A.trans (b2.mono A.size)⟩;simp[intOf];omega
 have ek:k=fs.length:=ω;have ab:=ad.u;rw[ek] at ab;have S:=AA (show BM xs fs ss=true from Kg (p:=λf=>Cd ss (JR xs f).g) (λk N=>Gx N) ab);clear ad ab;go_wp2;go_ret;exact⟨AF S.symm,A⟩
theorem Wu{a b:List Nat}:A5 (a++b)=A5 a++A5 b:=by simp[A5]
variable{ts ys:List Nat}
theorem Jh{zs:List Nat}(h:w.ownsRow lo 3 1 v (ys.length+zs.length) ((A5 ys).map (yl .i64)++(A5 zs).map (yl .i64))):AE lo w v (A5 (ys++zs)):=by unfold AE;rw[Wu,xK,yz,Cs,Cs];exact h
theorem MY (xs:List Int):∀u∈xs.map (yl .i64),u.oneCell'=true:=by intro u hu;obtain⟨x,_,rfl⟩:=List.mem_map.1 hu;rfl
theorem GK (w:Ω):AE w (w.alloc (.cells #[] 3)) (.slice w 0 0) (A5 []):=Co w 3 1
theorem Jg (v:Φ)(r:List Int)(w:Ω)(h:A1 w v r)(hl:r.length<=100)(hx:∀k,k<r.length->nth r k<=9223372036854775807):Ξ prog 210 #[v] w λe w'=>∃v',e=.returned v'/\AE w w' v' (A5 (named r))/\Γ w w w':=by
 obtain⟨a,c,rfl,hc,cg,hg⟩:=h.open;unfold maxLen at cg;have HH:=AA hg;have HX:=AA hx;have bA:=AJ w (.cells #[] 3);have o1:=GK w;clear h hg hx;go_in;go_wp2_with fail;generalize w.alloc (.cells #[] 3)=wa at o1 bA ⊢;generalize(xG (some ⟨w,0,none⟩) 0 0)=o at o1 ⊢;go_loopw [3,4,5,6,7] (λo ix _ _ _ wr=>∃k:Nat,k<=r.length/\ix=.int .i64 k/\AE w wr o (A5 (named (r.take k)))/\Γ w w wr) (λ_ ix _ _ _ _=>r.length - (intOf ix).toNat)
 exact⟨0,yt _,rfl,o1,bA⟩
 clear o1 bA;obtain⟨k,N,rfl,au,A⟩:=hrel
 by_cases ao:k<r.length
 .have bP:(k:Int)<(r.length:Int):=ω
  obtain⟨b,bx,rfl,vs⟩:=(HH.below A).at ao;have oJ:=HX k ao;have Nx:=AA (KV ao);have iu:(named (r.take k)).length<=100:=by have:=Fh (r:=r.take k);rw[ym] at this;omega
  change (eh (named (r.take (k+1))=named (r.take k)++(if Bv (nth r k) then[BP (nth r k)] else[]))) at Nx
  generalize named (r.take k)=ys at au Nx iu;generalize nth r k=x at vs Nx oJ;have bX:=AA au;obtain⟨_,_,rfl,_⟩:=(AE.rd au).open;clear au;go_wp2_with fail;refine(DP x _ oJ).mono ?_;rintro e w2 ⟨rfl,rfl⟩;cases H:Bv x
  .rw[Et H]
   have er:=AA (show named (r.take (k+1))=ys by rw[Nx.u,H];simp);clear H Nx;go_wp2;go_roundw;exact⟨k+1,ω,ξ,by rw[er.u];exact bX.u,A⟩;simp[intOf];omega
  rw[En H]
  have er:=AA (show named (r.take (k+1))=ys++[BP x] by rw[Nx.u,H];simp);generalize BP x=f at er;clear H Nx;rw[Cs];go_wp2_with (at_builtin;go_must (refine Bn (lo:=w.heap.size) (n:=ys.length) (xs:=(A5 ys).map (yl .i64)) (m:=1) (news:=[.int .i64 f]) rfl rfl 3 (.int .i64 0) 1 8 underlying29 Tryz.zS rfl ψ rfl (by have:=AE.below bX (AJ wr (.cells #[f] 3));unfold AE at this;rw[Cs] at this;exact this) rfl (Rd.zM _ #[_] _ 1 1 _ χ rfl ζ) (by simp[xR]) μ ω (by have:=A.size;simp;omega) ?_;intro o' w9 k1 k2 k3 k4));go_roundw;exact⟨k+1,ω,ξ,by rw[er.u];exact Jh (zs:=[f]) k1,(A.alloc A.size _).trans k4⟩;simp[intOf];omega
 obtain rfl:k=r.length:=ω;rw[xE] at au;go_wp2;go_ret;exact⟨_,rfl,au,A⟩
theorem Ll (h:AE lo w v (A5 ys))(A:Γ w w w'):w'.ownsRow lo 3 1 v ys.length ((A5 ys).map (yl .i64)):=by
 have:=AE.below h A;unfold AE at this
 rwa [Cs] at this
theorem FG (h:AE lo w v (A5 ys)):∃a c,v=.slice a ys.length c/\ys.length<=c:=by obtain⟨a,c,e,hc,_⟩:=(AE.rd h).open;rw[Cs] at e hc;exact⟨a,c,e,hc⟩
def Iw(fs:List Nat)(k:Nat):List Nat:=(yL k).filter λf=>fs.contains f
theorem UR{k:Nat}:Iw fs (k+1)=Iw fs k++(if fs.contains k then[k] else[]):=by
 unfold Iw;rw[xH,wD]
 congr 1
 simp only[vN,vk]
theorem WJ{k:Nat}:(Iw fs k).length<=k:=by
 have:=xv (λf=>fs.contains f) (yL k);simpa[Iw] using this
theorem Wr{k:Nat}:((A5 fs).any λx=>decide (x=(k:Int)))=fs.contains k:=by
 rw[wW,List.contains_iff_mem];simp[A5];constructor
 .rintro⟨x,hx,e⟩
  obtain rfl:x=k:=ω;exact hx
 intro h
 exact⟨k,h,rfl⟩
theorem Lf (v:Φ)(fs:List Nat)(w:Ω)(h:A1 w v (A5 fs)):Ξ prog 207 #[v] w λe w'=>∃v',e=.returned v'/\AE w w' v' (A5 (JV fs))/\Γ w w w':=by
 have C:=AA (λ(k:Nat) W (E:Γ w w W)=>Uj v (A5 fs) (k:Int) W (A1.below h E));have bA:=AJ w (.cells #[] 3);have o1:=GK w;clear h;go_in;go_wp2_with fail;generalize w.alloc (.cells #[] 3)=wa at o1 bA ⊢;generalize(xG (some ⟨w,0,none⟩) 0 0)=o at o1 ⊢;go_loopw [3,4] (λo ix wr=>∃k:Nat,k<=12/\ix=.int .i64 k/\AE w wr o (A5 (Iw fs k))/\Γ w w wr) (λ_ ix _=>12 - (intOf ix).toNat)
 exact⟨0,yt _,rfl,o1,bA⟩
 clear o1 bA;obtain⟨k,N,rfl,au,A⟩:=hrel
 by_cases ao:k<12
 .have bP:(k:Int)<12:=ω
  have Nx:=AA (UR (fs:=fs) (k:=k));have iu:=WJ (fs:=fs) (k:=k);generalize Iw fs k=ys at au Nx iu;have Ck:=C k wr A;rw[Wr] at Ck;have HC:=AA Ck;have bX:=AA au;obtain⟨_,_,rfl,_⟩:=FG au;clear au Ck;go_wp2_with fail;refine HC.mono ?_;rintro e w2 ⟨rfl,b2⟩;have bf:=A.trans (b2.mono A.size);have fo:=AA (bX.below b2);cases H:fs.contains k
  .have er:=AA (show Iw fs (k+1)=ys by rw[Nx.u,H];simp)
   clear H Nx;go_wp2;go_roundw;exact⟨k+1,ω,ξ,by rw[er.u];exact fo.u,bf⟩;simp[intOf];omega
  have er:=AA (show Iw fs (k+1)=ys++[k] by rw[Nx.u,H];simp)
  clear H Nx;go_wp2_with (at_builtin;go_must (refine Bn (lo:=w.heap.size) (n:=ys.length) (xs:=(A5 ys).map (yl .i64)) (m:=1) (news:=[.int .i64 k]) rfl rfl 3 (.int .i64 0) 1 8 underlying29 Tryz.zS rfl ψ rfl (Ll fo (AJ _ (.cells #[k] 3))) rfl (Rd.zM _ #[_] _ 1 1 _ χ rfl ζ) (by simp[xR]) μ ω (by have:=bf.size;simp;omega) ?_;intro o' w9 k1 k2 k3 k4));go_roundw;exact⟨k+1,ω,ξ,by rw[er.u];exact Jh (zs:=[k]) k1,(bf.alloc bf.size _).trans k4⟩;simp[intOf];omega
 obtain rfl:k=12:=ω;rw[show((12:Nat):Int)=12 from rfl];go_wp2;go_ret;exact⟨_,rfl,au,A⟩
theorem Mn{m:List (List Int)}(hm:By m=true)(hf:f<12):∀k,k<(AK m f).length->nth (AK m f) k<=9223372036854775807:=λk N=>by obtain⟨h4,hw⟩:=BB.1 ((Aj.1 hm).2 f hf);have:=(hw _ (Di (d:=0) N)).2;unfold nth;omega
theorem Lg (v:Φ)(m:List (List Int))(root:Nat)(w:Ω)(h:Bl w v m)(hm:By m=true)(hr:root<12):Ξ prog 206 #[v,.int .i64 root] w λe w'=>∃v',e=.returned v'/\AE w w' v' (A5 (Fa m root))/\Γ w w w':=by
 obtain⟨a,c,rfl,hc,cg,hg⟩:=h.open;have fv:=(Aj.1 hm).1;have jI:=(BB.1 ((Aj.1 hm).2 root hr)).1;obtain⟨b,bx,u,rfl,cl,vs,hR⟩:=hg root ω;have C:=AA (Jg u (AK m root) w hR ω (Mn hm hr));have qm:(root:Int)<12:=ω;rw[fv];obtain⟨_,_,rfl,_⟩:=hR.open;unfold Fa;clear h hg hR hm fv hc cg jI;go_in;go_wp2_with fail;refine C.mono ?_;rintro e w1 ⟨v1,rfl,o1,b1⟩;have C2:=AA (Lf v1 _ w1 (AE.rd o1));have bu:=AA b1;clear o1 b1 C;go_wp2_with (refine C2.mono ?_;rintro e w2 ⟨v2,rfl,o2,b2⟩;have ol:=AA (OH o2 bu.size);have jx:=AA (bu.trans (b2.mono bu.size));clear o2 b2 C2);go_ret;exact⟨_,rfl,ol.u,jx.u⟩
def Gn(m:List (List Int))(ts:List Nat)(k:Nat):List Nat:=(ts.take k).flatMap λt=>named (AK m t)
theorem NZ{m:List (List Int)}{k:Nat}(h:k<ts.length):Gn m ts (k+1)=Gn m ts k++named (AK m (Iy ts k)):=by unfold Gn;rw[DA (Gx h),List.flatMap_append];simp
theorem Va{m:List (List Int)}{k:Nat}(hl:∀t∈ts,(AK m t).length=4):(Gn m ts k).length<=4*k:=by
 induction k with
 |zero=>simp[Gn]
 |succ k ih=>
  by_cases h:k<ts.length
  .rw[NZ h,yz]
   have L:=Fh (r:=AK m (Iy ts k));have O:=hl _ (yv (Gx h));omega
  have:Gn m ts (k+1)=Gn m ts k:=by unfold Gn;rw[xm ω,xm ω]
  rw[this];omega
theorem Vm (v:Φ)(m:List (List Int))(root:Nat)(w:Ω)(h:Bl w v m)(hm:By m=true)(hr:root<12):Ξ prog 208 #[v,.int .i64 root] w λe w'=>∃v',e=.returned v'/\AE w w' v' (A5 (J3 m root))/\Γ w w w':=by
 have bA:=AJ w (.cells #[] 3);have o1:=GK w;have C:=AA (Lg v m root _ (h.below bA) hm hr);obtain⟨a,c,rfl,hc,cg,hg⟩:=h.open;have fv:=(Aj.1 hm).1;have hT:∀t∈Fa m root,t<12:=λt ht=>GI (Jj.1 ht)
 have ej:∀t∈Fa m root,(AK m t).length=4:=λt ht=>(BB.1 ((Aj.1 hm).2 t (hT t ht))).1
 have fa:(Fa m root).length<=12:=Mh;have FS:J3 m root=JV (Gn m (Fa m root) (Fa m root).length):=by unfold J3 Gn;rw[xE]
 rw[FS];have HH:=AA hg;have HT:=AA (yj hT ej);have Hm:=AA hm;rw[fv] at C ⊢;generalize Fa m root=ts at*;clear h hg hm hT ej FS hc cg;go_in;go_wp2_with fail;generalize w.alloc (.cells #[] 3)=wa at o1 bA C ⊢;refine C.mono ?_;rintro e w1 ⟨v1,rfl,t1,b1⟩;have bl:=bA.trans (b1.mono bA.size);have o2:=AE.below o1 b1;obtain⟨a1,c1,rfl,nR⟩:=FG t1;have r8:=AA t1;have bu:=AA bl;have gl:GP (.slice w 0 0) (.slice a1 ts.length c1):=λb A j4=>by have L:=(yC t1 b j4).1;have O:=(yC o1 b A).2;omega
 clear C o1 bA t1 b1 bl;go_wp2_with fail;generalize(xG (some ⟨w,0,none⟩) 0 0)=o at o2 gl ⊢;go_loopw [5,7] (λo ix wr=>∃k:Nat,k<=ts.length/\ix=.int .i64 k/\AE w wr o (A5 (Gn m ts k))/\Γ w w wr/\AE wa wr (.slice a1 ts.length c1) (A5 ts)/\GP o (.slice a1 ts.length c1)) (λ_ ix _=>ts.length - (intOf ix).toNat)
 exact⟨0,yt _,rfl,o2,bu.u,r8.u,gl⟩
 clear o2 gl;obtain⟨k,N,rfl,au,A,nu,gl⟩:=hrel
 by_cases ao:k<ts.length
 .have bP:(k:Int)<(ts.length:Int):=ω
  obtain⟨_,_,e1,_,_,H1⟩:=(AE.rd nu).open;simp only[xQ] at e1;obtain⟨rfl,e2,rfl⟩:=e1;clear e2;obtain⟨b1,iO,rfl,D1⟩:=H1.at (k:=k) (by rw[Cs];exact ao);rw[Q3] at D1;clear H1;have ez:=yv (Gx ao);have hf:=HT.1 _ ez;have gp:=HT.2 _ ez;obtain⟨b,bx,u,rfl,cl,vs,hR⟩:=(HH.below A) (Iy ts k) ω;have CN:=AA (Jg u (AK m (Iy ts k)) wr hR ω (Mn Hm hf));have l8:(Iy ts k:Int)<12:=ω;have Nx:=AA (NZ (m:=m) ao);have iu:=Va (k:=k) HT.2;have fz:=Fh (r:=AK m (Iy ts k));rw[gp] at fz;obtain⟨_,_,rfl,_⟩:=hR.open;generalize Gn m ts k=ys at au Nx iu;generalize named (AK m (Iy ts k))=zs at CN Nx fz;generalize Iy ts k=f at*;have bX:=AA au;obtain⟨_,_,rfl,_⟩:=FG au;have Ht:=AA (yj nu gl);clear au hR ez gp nu gl;go_wp2_with fail;refine CN.mono ?_;rintro e w2 ⟨v2,rfl,o2,b2⟩;have jx:=AA (A.trans (b2.mono A.size));have mC:=AA (yj (AE.below Ht.1 b2) Ht.2);have fo:=AA (bX.below b2);have lh:=AE.rd o2;obtain⟨az,cz,rfl,qL⟩:=FG o2;have mF:=AA lh;clear o2 b2 lh vs D1;go_wp2_with (at_builtin;go_must (refine Bn (lo:=w.heap.size) (n:=ys.length) (xs:=(A5 ys).map (yl .i64)) (m:=zs.length) (news:=(A5 zs).map (yl .i64)) rfl rfl 3 (.int .i64 0) 1 8 underlying29 Tryz.zS rfl ψ rfl (Ll fo (yN _ _)) rfl (by have:=mF.u;unfold A1 at this;rw[Cs] at this;exact this) (MY _) μ ω (by have:=jx.size;omega) ?_;intro o' w9 k1 k2 k3 k4));go_roundw;exact⟨k+1,ω,ξ,by rw[Nx.u];exact Jh k1,jx.trans k4,Au mC.1 k2 mC.2.symm.ne,mC.2.grown k3 (λb A=>(yC mC.1 b A).2)⟩;simp[intOf];omega
 obtain rfl:k=ts.length:=ω;have C2:=AA (Lf _ _ wr (AE.rd au));obtain⟨_,_,rfl,_⟩:=FG au;have z:=AA A;clear au A;go_wp2_with (refine C2.mono ?_;rintro e w2 ⟨v2,rfl,o2,b2⟩;have ol:=AA (OH o2 z.size);have jx:=AA (z.trans (b2.mono z.size));clear o2 b2 C2);go_ret;exact⟨_,rfl,ol.u,jx.u⟩
theorem ZO (w:Ω)(n:Nat):AE w (w.alloc (.cells #[n] 3)) (.slice w 1 1) (A5 [n]):=Vy (n:=1) (C:=1) rfl (yF _) ψ (yF _)
theorem J6 (v:Φ)(m:List (List Int))(root:Int)(w:Ω)(h:Bl w v m)(hm:By m=true)(hr:root<12):Ξ prog 146 #[v,.int .i64 root] w λe w'=>∃v',e=.returned v'/\AE w w' v' (A5 (FN m root))/\Γ w w w':=by
 by_cases hn:root<0
 .have hW:FN m root=[]:=by unfold FN;rw[if_pos hn]
  have o1:=GK w;rw[hW];go_in;go_wp2;go_ret;exact⟨_,rfl,o1,AJ _ _⟩
 obtain⟨r,rfl⟩:∃r:Nat,root=(r:Int):=⟨root.toNat,ω⟩
 have hW:FN m (r:Int)=JV (([r]++Fa m r)++J3 m r):=by unfold FN;rw[if_neg hn,yq];rfl
 have g4:r<12:=ω;rw[hW];have b0:=AJ w (.cells #[r] 3);have o0:=ZO w r;have CT:=AA (λW (E:Γ w w W)=>Lg v m r W (h.below E) hm g4);have CF:=AA (λW (E:Γ w w W)=>Vm v m r W (h.below E) hm g4);have ht:(Fa m r).length<=12:=Mh;have hf:(J3 m r).length<=12:=Mh;obtain⟨a,c,rfl,hc,cg,_⟩:=h.open;generalize Fa m r=ts at*;generalize J3 m r=fs at*;clear h hm hW hc cg;go_in;go_wp2_with fail;generalize w.alloc _=wa at o0 b0 ⊢;refine(CT wa b0).mono ?_;rintro e w1 ⟨v1,rfl,o1,b1⟩;have O0:=AE.below o0 b1;have bl:=b0.trans (b1.mono b0.size);have mF:=AA (AE.rd o1);have iU:w.heap.size<=w1.heap.size:=bl.size;have bu:=AA bl;obtain⟨az,cz,rfl,qL⟩:=FG o1;clear o0 b0 o1 b1 bl;have u9:A5 [r]=A5 ([r]:List Nat):=rfl;go_wp2_with (at_builtin;go_must (refine Bn (lo:=w.heap.size) (n:=1) (xs:=(A5 [r]).map (yl .i64)) (m:=ts.length) (news:=(A5 ts).map (yl .i64)) rfl rfl 3 (.int .i64 0) 1 8 underlying29 Tryz.zS rfl ψ rfl (Ll O0 (yN _ _)) rfl (by have:=mF.u;unfold A1 at this;rw[Cs] at this;exact this) (MY _) μ ω ω ?_;intro o' w9 k1 k2 k3 k4));have iq:=bu.trans k4;refine(CF w9 iq).mono ?_;rintro e w2 ⟨v2,rfl,o2,b2⟩;have O9:=Jh (ys:=[r]) (zs:=ts) k1;have O2:=AE.below O9 b2;have jx:=AA (iq.trans (b2.mono iq.size));have ot:=AA (AE.rd o2);obtain⟨ay,cy,rfl,xx⟩:=FG o2;obtain⟨ax,cx,rfl,x9⟩:=FG O2;clear O0 mF k1 k2 k3 k4 iq O9 o2 b2;go_wp2_with (at_builtin;go_must (refine Bn (lo:=w.heap.size) (n:=([r]++ts).length) (xs:=(A5 ([r]++ts)).map (yl .i64)) (m:=fs.length) (news:=(A5 fs).map (yl .i64)) rfl rfl 3 (.int .i64 0) 1 8 underlying29 Tryz.zS rfl ψ rfl (Ll O2 (yN _ _)) rfl (by have:=ot.u;unfold A1 at this;rw[Cs] at this;exact this) (MY _) (by simp only[yz,xP];unfold maxLen;omega) (by simp only[yz,xP];omega) (by have:=jx.size;omega) ?_;intro o8 w8 k1 k2 k3 k4));have mf:=jx.trans k4;have O8:=Jh k1;refine(Lf o8 _ w8 (AE.rd O8)).mono ?_;rintro e w3 ⟨v3,rfl,o3,b3⟩;have rC:=AA (OH o3 mf.size);have iJ:=AA (mf.trans (b3.mono mf.size));clear O8 mf k1 k2 k3 k4 o3 b3 O2;go_wp2;go_ret;exact⟨_,rfl,rC.u,iJ.u⟩
theorem LG (w:Ω)(a b:Obj):((w.alloc a).alloc b).heap[w.heap.size]?=some a/\((w.alloc a).alloc b).heap[w.heap.size+1]?=some b/\Γ w w ((w.alloc a).alloc b)/\((w.alloc a).alloc b).heap.size=w.heap.size+2:=by have L:=yx w a;have O:=yx (w.alloc a) b;have h4:=AB L (AJ _ b);simp only[xz] at O;exact⟨h4,O,IE w a b,χ⟩
def II(k:AR)(a n:Nat):List Nat:=(yL n).filter (Tj k a)
theorem UV:II k a (n+1)=II k a n++(if Tj k a n then[n] else[]):=by
 unfold II;rw[xH,wD]
 congr 1
 simp only[vN,vk]
theorem WO:(II k a n).length<=n:=by have:=xv (Tj k a) (yL n);simpa[II] using this
theorem Vj (mv iv ev cv:Φ)(k:AR)(a:Nat)(w:Ω)(h:Ns w mv iv ev cv k)(N:DZ k):Ξ prog 239 #[.agg #[mv,iv,ev,cv],.int .i64 a] w λe w'=>∃v',e=.returned v'/\AE w w' v' (A5 (WN k a))/\Γ w w w':=by
 obtain⟨N0,N1,br,iS⟩:=LG w (.cells #[mv,iv,ev,cv] 28) (.cells #[] 3);have o1:AE w ((w.alloc (.cells #[mv,iv,ev,cv] 28)).alloc (.cells #[] 3)) (.slice (some ⟨w.heap.size+1,0,none⟩) 0 0) (A5 []):=by have:=GK (w.alloc (.cells #[mv,iv,ev,cv] 28));simp only[xz] at this;exact OH this (Nat.le_succ _)
 have CT:=AA (λ(r:Nat)(hr:r<12) W (E:Γ w w W)=>Lg mv k.mem r W (h.1.below E) N.mem hr);obtain⟨ae,ce,rfl,jj,qM,HE⟩:=h.2.2.1.open;rw[N.zX] at jj N0 o1 br ⊢;have HR:=AA N.roots;have s3:=AA HE;have lA:=AA N.zX;have US:WN k a=II k a 3:=rfl;rw[US];clear h N HE US iS N1;go_in;go_wp2_with fail;generalize(w.alloc _).alloc _=wa at o1 br N0 ⊢;have sx:=AA N0;clear N0;generalize(xG (some ⟨w.heap.size+1,0,none⟩) 0 0)=o at o1 ⊢;go_loopw [5,6,7] (λo ix _ wr=>∃n:Nat,n<=3/\ix=.int .i64 n/\AE w wr o (A5 (II k a n))/\Γ w w wr/\wr.heap[w.heap.size]?=some (.cells #[mv,iv,.slice ae 3 ce,cv] 28 (0,0))) (λ_ ix _ _=>3 - (intOf ix).toNat)
 exact⟨0,yt _,rfl,o1,br,sx.u⟩
 clear o1 br;obtain⟨n,hn,rfl,au,A,hN⟩:=hrel;obtain⟨x0,_,x2,_⟩:=AG hN
 by_cases ao:n<3
 .have bP:(n:Int)<3:=ω
  obtain⟨b,bx,ua,uc,rfl,cl,D0,D1,_⟩:=(s3.below A) n (by rw[lA.u];exact ao);have c8:=HR n ao;have Nx:=AA (UV (k:=k) (a:=a) (n:=n));have iu:=WO (k:=k) (a:=a) (n:=n);have UE:Tj k a n=(decide ((AH k.Xr n).root=(a:Int))||(decide (0<=(AH k.Xr n).root)&&(Fa k.mem (AH k.Xr n).root.toNat).contains a)):=rfl
  change (AH k.Xr n).root= -1∨(0<=(AH k.Xr n).root/\(AH k.Xr n).root<=11/\_) at c8
  generalize II k a n=ys at au Nx iu;generalize Tj k a n=ub at Nx UE;generalize(AH k.Xr n).root=rt at D1 c8 UE;have bX:=AA au;have HN:=AA hN;obtain⟨_,_,rfl,_⟩:=FG au;clear au hN D0;have kw:eh (ub=true->II k a (n+1)=ys++[n]):=AA λe=>by rw[Nx.u,e];simp
  have NO:eh (ub=false->II k a (n+1)=ys):=AA λe=>by rw[Nx.u,e];simp
  clear Nx
  by_cases e1:rt=(a:Int)
  .have t1:(rt==(a:Int))=true:=by simp[e1]
   have er:=AA (kw (by rw[UE];simp[e1]));clear kw NO UE e1 c8;go_wp2_with (at_builtin;go_must (refine Bn (lo:=w.heap.size) (n:=ys.length) (xs:=(A5 ys).map (yl .i64)) (m:=1) (news:=[.int .i64 n]) rfl rfl 3 (.int .i64 0) 1 8 underlying29 Tryz.zS rfl ψ rfl (Ll bX (AJ _ (.cells #[n] 3))) rfl (Rd.zM _ #[_] _ 1 1 _ χ rfl ζ) (by simp[xR]) μ ω (by have:=A.size;simp;omega) ?_;intro o' w9 k1 k2 k3 k4));go_roundw;exact⟨n+1,ω,ξ,by rw[er.u];exact Jh (zs:=[n]) k1,(A.alloc A.size _).trans k4,(k2.block w (by have:=AU HN.u;simp;omega) (λe=>DD bX HN ψ e.symm)).trans (AB HN (AJ _ _))⟩;simp[intOf];omega
  have t1:(rt==(a:Int))=false:=by simp[e1]
  rcases c8 with rfl|⟨h0,h11,_⟩
  .have er:=AA (NO (by rw[UE];simp[e1]))
   clear kw NO UE e1;go_wp2;go_roundw;exact⟨n+1,ω,ξ,by rw[er.u];exact bX.u,A,HN.u⟩;simp[intOf];omega
  obtain⟨r,rfl⟩:∃r:Nat,rt=(r:Int):=⟨rt.toNat,ω⟩
  have C:=AA (CT r ω wr A);rw[yq] at UE;go_wp2_with fail;refine C.mono ?_;rintro e w2 ⟨v2,rfl,o2,b2⟩;have CH:=Uj v2 _ (a:Int) w2 (AE.rd o2);rw[Wr] at CH;generalize(Fa k.mem r).contains a=bt at UE CH;have tn:=AA CH;have bf:=A.trans (b2.mono A.size);have fo:=AA (bX.below b2);have ov:=AA (AB HN b2);clear CH o2 b2 C x0 x2 D1;go_wp2_with fail;refine tn.mono ?_;rintro e w3 ⟨rfl,b3⟩;have g8:=bf.trans (b3.mono bf.size);have je:=AA (fo.below b3);have mH:=AA (AB ov b3);clear b3 bf;cases bt
  .have er:=AA (NO (by rw[UE];simp[e1]))
   clear kw NO UE e1;go_wp2;go_roundw;exact⟨n+1,ω,ξ,by rw[er.u];exact je.u,g8,mH.u⟩;simp[intOf];omega
  have er:=AA (kw (by rw[UE];simp))
  clear kw NO UE e1;go_wp2_with (at_builtin;go_must (refine Bn (lo:=w.heap.size) (n:=ys.length) (xs:=(A5 ys).map (yl .i64)) (m:=1) (news:=[.int .i64 n]) rfl rfl 3 (.int .i64 0) 1 8 underlying29 Tryz.zS rfl ψ rfl (Ll je (AJ _ (.cells #[n] 3))) rfl (Rd.zM _ #[_] _ 1 1 _ χ rfl ζ) (by simp[xR]) μ ω (by have:=g8.size;simp;omega) ?_;intro o' w9 k1 k2 k3 k4));go_roundw;exact⟨n+1,ω,ξ,by rw[er.u];exact Jh (zs:=[n]) k1,(g8.alloc g8.size _).trans k4,(k2.block w (by have:=AU mH.u;simp;omega) (λe=>DD je mH ψ e.symm)).trans (AB mH (AJ _ _))⟩;simp[intOf];omega
 obtain rfl:n=3:=ω;rw[show((3:Nat):Int)=3 from rfl];go_wp2;go_ret;exact⟨_,rfl,au,A⟩
theorem Fq{l:List Ag}{k:Nat}(h:k<l.length):l[k]?=some (AV l k):=by simp[AV,h]
theorem MP{α:Type}{p:α->Bool}{l:List α}{k:Nat}{x:α}(h:l[k]?=some x):(l.take (k+1)).filter p=(l.take k).filter p++(if p x then[x] else[]):=by
 rw[DA h,wD]
 congr 1
 simp only[vN,vk]
theorem Jt{α:Type}{p:α->Bool}{l:List α}{k:Nat}:((l.take k).filter p).length<=l.length:=yM (xv _ _) (by rw[ym];omega)
theorem SZ (v:Φ)(c:List Ag)(e:Int)(w:Ω)(h:Do w v c)(hl:c.length<=100):Ξ prog 240 #[v,.int .i64 e] w λr w'=>∃v',r=.returned v'/\AQ w.heap.size 125 4 AY w' v' (Gm c e)/\Γ w w w':=by
 obtain⟨a,cp,rfl,hc,cg,hg⟩:=BK.open Cj ψ h;unfold maxLen at cg;have HH:=AA hg;have bA:=AJ w (.cells #[] 125);have o1:=Ci AY w 125 4;clear h hg;go_in;go_wp2_with fail;generalize w.alloc (.cells #[] 125)=wa at o1 bA ⊢;generalize(xG (some ⟨w,0,none⟩) 0 0)=o at o1 ⊢;go_loopw [5,6] (λo ix wr=>∃k:Nat,k<=c.length/\ix=.int .i64 k/\AQ w.heap.size 125 4 AY wr o ((c.take k).filter (λy=>decide (y.e≠e)))/\Γ w w wr) (λ_ ix _=>c.length - (intOf ix).toNat)
 exact⟨0,yt _,rfl,o1,bA⟩
 clear o1 bA;obtain⟨k,N,rfl,au,A⟩:=hrel
 by_cases ao:k<c.length
 .have bP:(k:Int)<(c.length:Int):=ω
  obtain⟨b,bx,rfl,cl,D0,D1,D2,D3⟩:=(HH.below A).zV ao;have Nx:=AA (MP (p:=λy=>decide (y.e≠e)) (Fq ao));have iu:=Jt (p:=λy=>decide (y.e≠e)) (l:=c) (k:=k);generalize AV c k=x at D0 D1 D2 D3 Nx;generalize(c.take k).filter (λy=>decide (y.e≠e))=ys at au Nx iu;have bX:=AA au;obtain⟨_,_,rfl,_⟩:=au.rd.shape;clear au;cases hp:decide (x.e≠e)
  .have t0:(x.e !=e)=false:=by simpa using hp
   have er:=AA (show(c.take (k+1)).filter (λy=>decide (y.e≠e))=ys by rw[Nx.u,hp];simp);have Hp:=AA hp;clear hp Nx;go_wp2;go_roundw;exact⟨k+1,ω,ξ,by rw[er.u];exact bX.u,A⟩;simp[intOf];omega
  have t0:(x.e !=e)=true:=by simpa using hp
  have er:=AA (show(c.take (k+1)).filter (λy=>decide (y.e≠e))=ys++[x] by rw[Nx.u,hp];simp);have Hp:=AA hp;clear hp Nx;go_wp2_with (at_builtin;go_must (refine Bn (lo:=w.heap.size) (n:=ys.length) (xs:=Ce AY ys) (m:=1) (news:=[.int .i64 x.e,.int .i64 x.p,.int .i64 x.f,.bool x.w]) rfl rfl 125 (.agg #[θ,θ,θ,υ]) 4 32 underlying26 Tryz.zP rfl ψ rfl (A8 (bX.u) (AJ _ _)) rfl (Rd.zM _ #[.int .i64 x.e,.int .i64 x.p,.int .i64 x.f,.bool x.w] _ 4 1 _ rfl χ ζ) (by simp[xR]) μ ω (by have:=(A).size;simp;omega) ?_;intro o' w9 k1 k2 k3 k4));go_roundw;exact⟨k+1,ω,ξ,by rw[er.u];unfold AQ;rw[Bq,Eo,yz];exact k1,((A).alloc (A).size _).trans k4⟩;simp[intOf];omega
 obtain rfl:k=c.length:=ω;rw[xE] at au;go_wp2;go_ret;exact⟨_,rfl,au,A⟩
theorem cW{c:List Ag}{e p:Int}{k:Nat}(N:k<c.length)(h:∀j,j<k->BQ e p (AV c j)=false)(hp:BQ e p (AV c k)=true):IG c e p=(k:Int):=by
 have g:∀j (K:j<c.length),c[j]=AV c j:=λj K=>by have:=Fq K;rw[yG K] at this;exact yP this
 unfold IG;rw[if_pos (Pr (Fq N) hp)];have:c.findIdx (BQ e p)=k:=by
  rw[tI N];exact⟨by rw[g k N];exact hp,λj K=>by rw[g j ω];exact h j K⟩
 rw[this]
theorem Zv{c:List Ag}{e p:Int}(h:∀j,j<c.length->BQ e p (AV c j)=false):IG c e p= -1:=by
 unfold IG;rw[if_neg];rw[ML (λk N=>Fq N) h];simp
theorem Sa (v:Φ)(c:List Ag)(e p:Int)(w:Ω)(h:Do w v c):Ξ prog 144 #[v,.int .i64 e,.int .i64 p] w λr w'=>r=.returned (.int .i64 (IG c e p))/\Γ w w w':=by
 obtain⟨a,cp,rfl,hc,cg,hg⟩:=BK.open Cj ψ h;unfold maxLen at cg;have HH:=AA hg;clear h hg;go_in;go_wp2_with fail;go_loopw [7] (λix wr=>∃k:Nat,k<=c.length/\ix=.int .i64 k/\(∀j,j<k->BQ e p (AV c j)=false)/\Γ w w wr) (λix _=>c.length - (intOf ix).toNat)
 exact⟨0,yt _,rfl,λj K=>absurd K (xV _),yN _ _⟩
 obtain⟨k,N,rfl,ab,A⟩:=hrel;have ad:=AA ab;clear ab
 by_cases ao:k<c.length
 .have bP:(k:Int)<(c.length:Int):=ω
  obtain⟨b,bx,rfl,cl,D0,D1,D2,D3⟩:=(HH.below A).zV ao;have SE:BQ e p (AV c k)=(decide ((AV c k).e=e)&&decide ((AV c k).p=p)):=rfl;have FA:=AA (λhp=>cW (e:=e) (p:=p) ao ad hp);have NE:=AA (λhp=>Am ad (show BQ e p (AV c k)=false from hp));rw[SE] at FA NE;clear SE;generalize AV c k=x at D0 D1 D2 D3 FA NE
  by_cases L:x.e=e
  .have t1:(x.e==e)=true:=by simp[L]
   by_cases O:x.p=p
   .have t2:(x.p==p)=true:=by simp[O]
    have S:=AA (FA (by simp[L,O]));clear FA NE L O;go_wp2;go_ret;exact⟨Cy S.symm,A⟩
   have t2:(x.p==p)=false:=by simp[O]
   have hk:=AA (NE (by simp[O]));clear FA NE L O;go_wp2;go_roundw;exact⟨k+1,ω,ξ,hk.u,A⟩;simp[intOf];omega
  have t1:(x.e==e)=false:=by simp[L]
  have hk:=AA (NE (by simp[L]));clear FA NE L;go_wp2;go_roundw;exact⟨k+1,ω,ξ,hk.u,A⟩;simp[intOf];omega
 obtain rfl:k=c.length:=ω;have S:=AA (Zv ad.u);go_wp2;go_ret;exact⟨Cy S.symm,A⟩
theorem aX{k:Nat}(h:k<ss.length):ss[k]?=some (Cw ss k):=IB h
theorem Wx (v:Φ)(ss:List ByteArray)(s:ByteArray)(w:Ω)(h:BY w v ss)(hs:DQ ss)(hz:s.size<=maxLen)(hl:ss.length<=100):Ξ prog 241 #[v,.string s] w λr w'=>∃v',r=.returned v'/\AQ w.heap.size 9 1 A0 w' v' (Bi ss s)/\Γ w w w':=by
 obtain⟨a,cp,rfl,hc,cg,hg⟩:=BK.open Fi ψ h;unfold maxLen at cg;have HH:=AA hg;have HS:=AA (yj hs hz);have bA:=AJ w (.cells #[] 9);have o1:=Ci A0 w 9 1;clear h hg hs hz;go_in;go_wp2_with fail;generalize w.alloc (.cells #[] 9)=wa at o1 bA ⊢;generalize(xG (some ⟨w,0,none⟩) 0 0)=o at o1 ⊢;go_loopw [5,6] (λo ix wr=>∃k:Nat,k<=ss.length/\ix=.int .i64 k/\AQ w.heap.size 9 1 A0 wr o ((ss.take k).filter (λr=>!L8 s r))/\Γ w w wr) (λ_ ix _=>ss.length - (intOf ix).toNat)
 exact⟨0,yt _,rfl,o1,bA⟩
 clear o1 bA;obtain⟨k,N,rfl,au,A⟩:=hrel
 by_cases ao:k<ss.length
 .have bP:(k:Int)<(ss.length:Int):=ω
  obtain⟨b,bx,rfl,vs⟩:=(HH.below A).str ao;have C:=AA (Nb s (Cw ss k) wr HS.2 (HS.1 _ (yv (IB ao))));have Nx:=AA (MP (p:=λr=>!L8 s r) (aX ao));have iu:=Jt (p:=λr=>!L8 s r) (l:=ss) (k:=k);generalize Cw ss k=x at vs Nx C;generalize(ss.take k).filter (λr=>!L8 s r)=ys at au Nx iu;have bX:=AA au;obtain⟨_,_,rfl,_⟩:=au.rd.shape;clear au;cases hp:!L8 s x
  .have er:=AA (show(ss.take (k+1)).filter (λr=>!L8 s r)=ys by rw[Nx.u,hp];simp)
   have Hp:=AA hp;clear hp Nx;go_wp2_with fail;refine C.mono ?_;rintro e w2 ⟨rfl,rfl⟩;rw[show L8 s x=!false by rw[<-Hp.u];simp];go_wp2;go_roundw;exact⟨k+1,ω,ξ,by rw[er.u];exact bX.u,A⟩;simp[intOf];omega
  have er:=AA (show(ss.take (k+1)).filter (λr=>!L8 s r)=ys++[x] by rw[Nx.u,hp];simp)
  have Hp:=AA hp;clear hp Nx;go_wp2_with fail;refine C.mono ?_;rintro e w2 ⟨rfl,rfl⟩;rw[show L8 s x=!true by rw[<-Hp.u];simp];go_wp2_with (at_builtin;go_must (refine Bn (lo:=w.heap.size) (n:=ys.length) (xs:=Ce A0 ys) (m:=1) (news:=[.string x]) rfl rfl 9 (.string ⟨#[]⟩) 1 16 underlying79 Tryz.zT rfl ψ rfl (A8 (bX.u) (AJ _ _)) rfl (Rd.zM _ #[.string x] _ 1 1 _ rfl χ ζ) (by simp[xR]) μ ω (by have:=(A).size;simp;omega) ?_;intro o' w9 k1 k2 k3 k4));go_roundw;exact⟨k+1,ω,ξ,by rw[er.u];unfold AQ;rw[Bq,Eo,yz];exact k1,((A).alloc (A).size _).trans k4⟩;simp[intOf];omega
 obtain rfl:k=ss.length:=ω;rw[xE] at au;go_wp2;go_ret;exact⟨_,rfl,au,A⟩
theorem GN{α:Type}{cs:α->List Φ}{ops:Array Oper}{rest:List Oper}{o:Oper}{a:Act}{Q:Exit->Act->Ω->Prop}{s x:Operand}{t:TypeId}
 (qH:o.guard=none)(V:o.op=.call {callee:=.builtin .append,args:= #[s,x],argTypes:= #[t,t]})
 (e:TypeId)(Hb:Φ)(sz bytes:Nat)(ht:prog.underlying t=some (.slice e))(R:(prog.info? e).map (λi=>(i.zero,i.size,i.bytes))=some (some Hb,sz,bytes))
 (qi:Hb.cells.size=sz)(lU:0<sz){v u:Φ}{xs:List α}(hs:a.eval s=v)(au:AQ lo e sz cs w v ([]:List α))
 (hx:a.eval x=u)(hr:BK sz cs w u xs)(L:∀u∈Ce cs xs,u.oneCell'=true)(y9:xs.length<=1048576)(j2:bytes<=1048576)(bD:lo<=w.heap.size)
 (hK:∀v' w',AQ lo e sz cs w' v' xs->Γ lo w w'->wpList prog ops Q rest (a.put o.dst v') w'):wpList prog ops Q (o::rest) a w:=by
 refine Bn qH V e Hb sz bytes ht R qi lU hs au hx hr L ?_ ?_ bD λv' w' k1 _ _ k4=>hK v' w' ?_ k4
 .unfold maxLen;simp only[xi];omega
 .simp only[xi]
  have L:=Nat.mul_le_mul_right bytes (ω:0+xs.length<=1048576);have O:=Nat.mul_le_mul_left 1048576 j2;omega
 unfold AQ
 have:([]:List α).length+xs.length=xs.length:=χ;rw[this] at k1;exact k1
theorem F6 (xs:List AX):∀u∈Ce Av xs,u.oneCell'=true:=by
 intro u hu;obtain⟨s,_,hs⟩:=wR.1 hu;simp[Av] at hs
 rcases hs with rfl|rfl|rfl<;>rfl
theorem Kk (xs:List Ag):∀u∈Ce AY xs,u.oneCell'=true:=by
 intro u hu;obtain⟨s,_,hs⟩:=wR.1 hu;simp[AY] at hs
 rcases hs with rfl|rfl|rfl|rfl<;>rfl
theorem Ie (xs:List ByteArray):∀u∈Ce A0 xs,u.oneCell'=true:=by
 intro u hu;obtain⟨s,_,hs⟩:=wR.1 hu;simp[A0] at hs
 rcases hs with rfl<;>rfl
theorem dH (v:Φ)(m:List (List Int))(f:Nat)(w:Ω)(h:Bl w v m)(hm:By m=true)(hf:f<12):Ξ prog 290 #[v,.int .i64 f] w λe w'=>e=.returned (.bool true)/\Γ w w w':=by have C:=JN v m w h;rw[hm] at C;have HC:=AA C;have hW:Bj (f:Int) 0 11=true:=Aa.2 ω;have HE:=AA hW;clear C h hm hW;go_in;go_wp2_with fail;refine HC.mono ?_;rintro e w1 ⟨rfl,b1⟩;go_wp2_with fail;refine(EZ _ _).mono ?_;rintro e w2 ⟨rfl,rfl⟩;rw[HE.u];go_wp2;go_ret;exact⟨rfl,b1⟩
theorem QT (v iv:Φ)(m:List (List Int))(xs:List AX)(f:Nat)(w:Ω)(h:Bl w v m)(hm:By m=true)(hI:Bf w iv xs)(iY:BG xs=true)(hf:f<12):Ξ prog 283 #[v,iv,.int .i64 f] w λe w'=>e=.returned (.bool true)/\Γ w w w':=by
 have C1:=AA (dH v m f w h hm hf);have C2:=AA (λW (E:Γ w w W)=>by have:=Dt iv xs W (BK.below hI E) (Ca iY);rw[iY] at this;exact this);clear h hm hI iY;go_in;go_wp2_with fail;refine C1.mono ?_;rintro e w1 ⟨rfl,b1⟩;go_wp2_with (refine(C2 _ b1).mono ?_;rintro e w2 ⟨rfl,b2⟩);go_ret;exact⟨rfl,b1.trans (b2.mono b1.size)⟩
theorem TS (v:Φ)(xs:List AX)(g:ByteArray)(f:Nat)(w:Ω)(h:Bf w v xs)(b9:BG xs=true)(H:BR g=true)(cN:An xs=(f:Int))(hf:f<12):
 Ξ prog 233 #[v,.string g] w λe w'=>∃v',e=.returned (.tuple #[v',f,τ])/\AQ w.heap.size 115 3 Av w' v' (xs.set f ⟨1,g,0⟩)/\Γ w w w':=by
 have hl:=(A2.1 b9).1;have c0:=QS v xs w h;rw[cN] at c0;have C0:=AA c0;have iw:=Ku H;have jY:g.size<=maxLen:=μ;have C1:=AA (λW (E:Γ w w W)=>by have:=Dt v xs W (BK.below h E) (Ca b9);rw[b9] at this;exact this);have C2:=AA (λW=>by have:=El g W jY;rw[H] at this;exact this);have HR:=AA (λW (E:Γ w w W)=>BK.below h E);obtain⟨a,c,rfl,hc,cg⟩:=h.shape;have Hl:=AA hl;have fa:xs.length<=12:=ω;clear h b9 H cN c0 jY iw hl;go_in;go_wp2_with fail;refine C0.mono ?_;rintro e w0 ⟨rfl,b0⟩;go_wp2_with fail;refine(C1 _ b0).mono ?_;rintro e w1 ⟨rfl,b1⟩;have bl:=b0.trans (b1.mono b0.size);go_wp2_with fail;refine(C2 _).mono ?_;rintro e w1 ⟨rfl,rfl⟩;have bu:=AA bl;go_wp2_with (at_builtin;go_must (refine GN (cs:=Av) rfl rfl 115 (.agg #[θ,ϑ,θ]) 3 32 underlying24 Tryz.zO rfl ψ rfl (Ci Av _ _ _) rfl (HR _ (bl.trans ((AJ _ _).mono bl.size))) (F6 _) ω ψ χ ?_;intro v' w9 hO iq));have bf:=(bu.trans ((AJ _ _).mono bu.size)).trans (iq.mono bu.size);obtain⟨q,cq,rfl,c1,c2,q1,q2,io⟩:=hO.zW (by have:=Hl.u;omega);have hS:=AA (AQ.stored Az hO (show f<xs.length by have:=Hl.u;omega) ⟨1,g,0⟩);obtain⟨d0,d1,d2⟩:=AQ.zZ hO (show f<xs.length by have:=Hl.u;omega);have hB:=AA (AM bf hS.2 (yM bu.size q1) bf.size);have bD:=bu.size;have ji:(f:Int)<xs.length:=by have:=Hl.u;omega
 unfold maxLen at c2;have iT:¬(f:Int)<0:=ω;clear hO iq bl b0 b1 bf fa;go_wp2_with fail;go_ret3;exact⟨_,rfl,hS.1.lower bD,hB.u⟩
theorem TR (v:Φ)(xs:List AX)(f:Nat)(w:Ω)(h:Bf w v xs)(b9:BG xs=true)(hf:f<12)(N:(JR xs f).k=1)(hr:(JR xs f).r=0):
 Ξ prog 235 #[v,.int .i64 f] w λe w'=>∃v',e=.returned (.tuple #[v',τ])/\AQ w.heap.size 115 3 Av w' v' (xs.set f AX.zero)/\Γ w w w':=by
 have hl:=(A2.1 b9).1;have C1:=AA (λW (E:Γ w w W)=>by have:=Dt v xs W (BK.below h E) (Ca b9);rw[b9] at this;exact this);have HE:=AA (show Bj (f:Int) 0 11=true from Aa.2 ω);have HR:=AA (λW (E:Γ w w W)=>BK.below h E);obtain⟨ai,ci,rfl,qP,nP,H2⟩:=BK.open Az ψ h;obtain⟨bi,be,rfl,fk,D0,_,D2⟩:=H2.zZ (ω:f<xs.length);have ji:(f:Int)<xs.length:=ω;have t1:((JR xs f).k !=1)=false:=by simp[N]
 have t2:¬0<(JR xs f).r:=ω;have Hl:=AA hl;have A:=yN w w;clear h b9 N hr H2 hl;go_in;go_wp2_with fail;refine(C1 _ A).mono ?_;rintro e w_ ⟨rfl,lf⟩;replace A:=A.trans (lf.mono A.size);clear lf;go_wp2_with fail;refine(EZ _ _).mono ?_;rintro e w2 ⟨rfl,rfl⟩;rw[HE.u];replace D0:=(A.cell (p:=⟨bi,be+f*3,none⟩) fk).trans D0;replace D2:=(A.cell (p:=⟨bi,be+f*3+2,none⟩) fk).trans D2;have bu:=AA A;go_wp2_with (at_builtin;go_must (refine GN (cs:=Av) rfl rfl 115 (.agg #[θ,ϑ,θ]) 3 32 underlying24 Tryz.zO rfl ψ rfl (Ci Av _ _ _) rfl (HR _ (bu.trans ((AJ _ _).mono bu.size))) (F6 _) (by have:=Hl.u;omega) ψ χ ?_;intro v' w9 hO iq));have bf:=(bu.trans ((AJ _ _).mono bu.size)).trans (iq.mono bu.size);obtain⟨q,cq,rfl,c1,c2,q1,q2,io⟩:=hO.zW (by have:=Hl.u;omega);have hS:=AA (AQ.stored Az hO (show f<xs.length by have:=Hl.u;omega) AX.zero);obtain⟨d0,d1,d2⟩:=AQ.zZ hO (show f<xs.length by have:=Hl.u;omega);have hB:=AA (AM bf hS.2 (yM bu.size q1) bf.size);have bD:=bu.size;unfold maxLen at c2;have iT:¬(f:Int)<0:=ω;clear hO iq bf A D0 D2;go_wp2;go_ret2;exact⟨_,rfl,hS.1.lower bD,hB.u⟩
theorem UK (v:Φ)(xs:List AX)(f:Nat)(w:Ω)(h:Bf w v xs)(b9:BG xs=true)(hf:f<12)(N:(JR xs f).k=1)(hr:(JR xs f).r≠0):
 Ξ prog 235 #[v,.int .i64 f] w λe w'=>∃v',e=.returned (.tuple #[v',υ])/\Γ w w w':=by
 have hl:=(A2.1 b9).1;have lY:=(Iq ((A2.1 b9).2 f hf)).2.1;have C1:=AA (λW (E:Γ w w W)=>by have:=Dt v xs W (BK.below h E) (Ca b9);rw[b9] at this;exact this);have HE:=AA (show Bj (f:Int) 0 11=true from Aa.2 ω);obtain⟨ai,ci,rfl,qP,nP,H2⟩:=BK.open Az ψ h;obtain⟨bi,be,rfl,fk,D0,_,D2⟩:=H2.zZ (ω:f<xs.length);have ji:(f:Int)<xs.length:=ω;have t1:((JR xs f).k !=1)=false:=by simp[N]
 have t2:0<(JR xs f).r:=ω;have A:=yN w w;clear h b9 N hr H2 hl lY;go_in;go_wp2_with fail;refine(C1 _ A).mono ?_;rintro e w_ ⟨rfl,lf⟩;replace A:=A.trans (lf.mono A.size);clear lf;go_wp2_with (refine(EZ _ _).mono ?_;rintro e w2 ⟨rfl,rfl⟩;rw[HE.u];replace D0:=(A.cell (p:=⟨bi,be+f*3,none⟩) fk).trans D0;replace D2:=(A.cell (p:=⟨bi,be+f*3+2,none⟩) fk).trans D2);go_ret2;exact⟨_,rfl,A.alloc A.size _⟩
theorem Vh (v rv:Φ)(xs:List AX)(f:Nat)(x kind:Int)(ss:List ByteArray)(w:Ω)(h:Bf w v xs)(hl:xs.length=12)(hI:JH xs)(hv:BY w rv ss)(hs:DQ ss)(hx:x<=9223372036854775807)(N:2<=kind/\kind<=3):
 Ξ prog 209 #[v,.int .i64 f,.int .i64 x,.int .i64 kind,rv] w λe w'=>e=.returned (.bool (GQ xs f kind ss x))/\Γ w w w':=by
 cases H:Bv x
 .have ho:=AA (Et H)
  have G:=AA (show GQ xs f kind ss x=(x==0) by simp only[GQ,H];rw[wW];simp);obtain⟨_,_,rfl,_⟩:=h.shape;obtain⟨_,_,rfl,_⟩:=hv.shape;clear H h hl hI hv hs;go_in;go_wp2_with (go_at_call 211;refine(DP _ _ hx).mono ?_;rintro e w' ⟨rfl,rfl⟩;rw[ho.u]);go_ret;exact⟨AF G.symm,yN _ _⟩
 have ho:=AA (En H)
 have hF:=Ef H;have G:=Uh (Zh:=xs) (f:=f) (kind:=kind) (ss:=ss) H;have nt:BP x<xs.length:=ω;have HC:=AA (Ld rv ss (JR xs (BP x)).g w hv hs (hI _ (yv (Cg nt))));obtain⟨a,c,rfl,_,_,hg⟩:=BK.open Az ψ h;obtain⟨b,bx,rfl,cl,D0,D1,_⟩:=hg.zZ nt;obtain⟨_,_,rfl,_⟩:=hv.shape;generalize BP x=o at*;generalize Cd ss (JR xs o).g=mb at HC G;have qs:(o:Int)<xs.length:=ω;clear H h hl hI hv hs hg nt hF
 by_cases e1:o=f
 .have t1:((o:Int) !=(f:Int))=false:=by simp[e1]
  have hi:=AA (show GQ xs f kind ss x=false by rw[G];simp[e1]);clear G e1;go_in;go_wp2_with (go_at_call 211;refine(DP _ _ hx).mono ?_;rintro e w' ⟨rfl,rfl⟩;rw[ho.u]);go_ret;exact⟨AF hi.symm,yN _ _⟩
 have t1:((o:Int) !=(f:Int))=true:=η;by_cases e2:(JR xs o).k=kind - 1
 .have t2:((JR xs o).k==kind - 1)=true:=by simp[e2]
  have hi:=AA (show GQ xs f kind ss x=mb by rw[G];simp[e1,e2]);clear G e1 e2;go_in;go_wp2_with (go_at_call 211;refine(DP _ _ hx).mono ?_;rintro e w' ⟨rfl,rfl⟩;rw[ho.u]);refine HC.mono ?_;rintro e w2 ⟨rfl,b2⟩;go_wp2;go_ret;exact⟨AF hi.symm,b2⟩
 have t2:((JR xs o).k==kind - 1)=false:=by simp[e2]
 have hi:=AA (show GQ xs f kind ss x=false by rw[G];simp[e2]);clear G e1 e2;go_in;go_wp2_with (go_at_call 211;refine(DP _ _ hx).mono ?_;rintro e w' ⟨rfl,rfl⟩;rw[ho.u]);go_ret;exact⟨AF hi.symm,yN _ _⟩
theorem ZE{m:List (List Int)}(hm:By m=true)(hf:f<12){k:Nat}(N:k<4):(AK m f)[k]?=some (Aw m f k):=by have:=(BB.1 ((Aj.1 hm).2 f hf)).1;unfold Aw;exact A6 ω
theorem gP{m:List (List Int)}(hm:By m=true)(hf:f<12){k:Nat}(N:k<4):Aw m f k<=9223372036854775807:=by obtain⟨h4,hw⟩:=BB.1 ((Aj.1 hm).2 f hf);have:=(hw _ (yv (ZE hm hf N))).2;omega
theorem Ui (v iv rv:Φ)(m:List (List Int))(xs:List AX)(f:Nat)(kind:Int)(ss:List ByteArray)(w:Ω)(h:Bl w v m)(hm:By m=true)(hI:Bf w iv xs)(hl:xs.length=12)(kL:JH xs)(hf:f<12)(N:Bp kind=true)(hv:BY w rv ss)(hs:DQ ss):
 Ξ prog 148 #[v,iv,.int .i64 f,.int .i64 kind,rv] w λe w'=>e=.returned (.bool (JB m xs f kind ss))/\Γ w w w':=by
 have oV:2<=kind/\kind<=3:=by simp only[Bp,xM,decide_eq_true_eq] at N;omega
 have CE:=AA (λ(x:Int)(hx:x<=9223372036854775807) W (E:Γ w w W)=>Vh iv rv xs f x kind ss W (BK.below hI E) hl kL (BK.below hv E) hs hx oV);have Hm:=AA hm;have pm:=AA (BB.1 ((Aj.1 hm).2 f hf)).1;have fv:=(Aj.1 hm).1;obtain⟨a,c,rfl,_,_,hg⟩:=h.open;obtain⟨_,_,rfl,_⟩:=hI.shape;obtain⟨_,_,rfl,_⟩:=hv.shape;have HH:=AA hg;have ji:(f:Int)<m.length:=ω;clear h hm hI hl kL N hv hs oV fv hg;go_in;go_wp2_with fail;go_loopw [11] (λix wr=>∃k:Nat,k<=4/\ix=.int .i64 k/\(∀j,j<k->GQ xs f kind ss (Aw m f j)=true)/\Γ w w wr) (λix _=>4 - (intOf ix).toNat)
 exact⟨0,yt _,rfl,λj K=>absurd K (xV _),yN _ _⟩
 obtain⟨k,N,rfl,ab,A⟩:=hrel;have ad:=AA ab;clear ab
 by_cases ao:k<4
 .have bP:(k:Int)<(4:Int):=ω
  obtain⟨b,bx,b2,mU,c2,rfl,cl,vs,qU,yb,W0⟩:=(HH.below A).row4 Hm hf;have D2:=W0 k ao;have C:=AA (CE (Aw m f k) (gP Hm hf ao) wr A);clear W0;cases hp:GQ xs f kind ss (Aw m f k)
  .have S:=AA (show JB m xs f kind ss=false from Jr (ZE Hm hf ao) hp)
   have Hp:=AA hp;clear hp;go_wp2_with (refine C.mono ?_;rintro e w2 ⟨rfl,b2⟩;rw[Hp.u]);go_ret;exact⟨AF S.symm,A.trans (b2.mono A.size)⟩
  have Hp:=AA hp
  clear hp;go_wp2_with fail;refine C.mono ?_;rintro e w2 ⟨rfl,b2⟩;rw[Hp.u];go_wp2;go_roundw;exact⟨k+1,ω,ξ,Am ad Hp.u,A.trans (b2.mono A.size)⟩;simp[intOf];omega
 have ek:k=4:=ω;have ab:=ad.u;rw[ek] at ab;have S:=AA (show JB m xs f kind ss=true from Kg (f:=Aw m f) (λk N=>ZE Hm hf (by have:=pm.u;omega)) (λj K=>ab j (by have:=pm.u;omega)));clear ad ab;go_wp2;go_ret;exact⟨AF S.symm,A⟩
theorem Yp{n:Int}(K:j<fs.length):BO Zh (fs.take (j+1)) n=(BO Zh (fs.take j) n).set (Iy fs j) (JI n (JR (BO Zh (fs.take j) n) (Iy fs j))):=by unfold BO;rw[DA (Gx K),vG];exact IX
theorem H7{p:Nat->Bool}{k:Nat}(N:k<n)(h:p k=false):(yL n).all p=false:=by rw[xj];exact⟨k,yi.2 N,by rw[h];decide⟩
theorem Om (x:Ag)(w:Ω):Ξ prog 143 #[.agg #[x.e,x.p,x.f,x.w]] w λe w'=>e=.returned (.bool (CQ x))/\Γ w w w':=by
 obtain⟨N0,br⟩:=EU w (.cells #[x.e,x.p,x.f,x.w] 125);obtain⟨x0,x1,x2,_⟩:=AG N0;have hW:CQ x=(Bj x.e 0 2&&Bj x.p 0 15&&Bj x.f 0 11):=rfl;have HE:=AA hW;clear hW N0;go_in;go_wp2_with fail;generalize w.alloc _=W0 at*;refine(KE _ _).mono ?_;rintro r w1 ⟨rfl,rfl⟩;cases L:Bj x.e 0 2
 .have S:=AA (show CQ x=false by rw[HE.u,L];rfl)
  clear L;go_wp2;go_ret;exact⟨AF S.symm,br⟩
 rw[L] at HE
 clear L;go_wp2_with fail;refine(Cr _ _ _ _).mono ?_;rintro r w1 ⟨rfl,rfl⟩;cases O:Bj x.p 0 15
 .have S:=AA (show CQ x=false by rw[HE.u,O];rfl)
  clear O;go_wp2;go_ret;exact⟨AF S.symm,br⟩
 rw[O] at HE
 have S:=AA (show CQ x=Bj x.f 0 11 by rw[HE.u];simp);clear O;go_wp2_with (refine(EZ _ _).mono ?_;rintro r w1 ⟨rfl,rfl⟩);go_ret;exact⟨AF S.symm,br⟩
theorem bO{c:List Ag}{k:Nat}(N:k<c.length):DJ c k=(CQ (AV c k)&&!decide (IG c (AV c k).e (AV c k).p<(k:Int))):=by
 unfold DJ
 congr 1
 congr 1
 have jH:BQ (AV c k).e (AV c k).p (AV c k)=true:=by simp[BQ]
 rw[wW,decide_eq_true_eq,vP];unfold IG;rw[if_pos (Pr (Fq N) jH)];have ji:c.findIdx (BQ (AV c k).e (AV c k).p)<c.length:=List.findIdx_lt_length.2 ⟨_,yv (Fq N),jH⟩;constructor
 .rintro⟨x,hx,hp⟩
  obtain⟨j,K⟩:=xN hx;have l6:j<k:=by have:=(yA.1 K).1;rw[ym] at this;omega
  rw[uV,if_pos l6] at K;have:c.findIdx (BQ (AV c k).e (AV c k).p)<=j:=by
   rcases Nat.lt_or_ge j (c.findIdx (BQ (AV c k).e (AV c k).p)) with h|h
   .have hn:=List.not_of_lt_findIdx h
    have e:c[j]' ω=x:=by have O:=yG (l:=c) (i:=j) ω;rw[O] at K;exact yP K
    rw[e] at hn;rw[hp] at hn;cases hn
   exact h
  omega
 intro h
 refine⟨c[c.findIdx (BQ (AV c k).e (AV c k).p)],?_,List.findIdx_getElem⟩;rw[List.mem_take_iff_getElem];exact⟨_,ω,rfl⟩
theorem Jv (v:Φ)(c:List Ag)(w:Ω)(h:Do w v c):Ξ prog 83 #[v] w λe w'=>e=.returned (.bool (Bk c))/\Γ w w w':=by
 have HV:=AA h;obtain⟨a,cp,rfl,hc,cg,hg⟩:=BK.open Cj ψ h;unfold maxLen at cg;have HH:=AA hg;clear h hg;go_in;go_wp2_with fail;go_loopw [3] (λix wr=>∃k:Nat,k<=c.length/\ix=.int .i64 k/\(∀j,j<k->DJ c j=true)/\Γ w w wr) (λix _=>c.length - (intOf ix).toNat)
 exact⟨0,yt _,rfl,λj K=>absurd K (xV _),yN _ _⟩
 obtain⟨k,N,rfl,ab,A⟩:=hrel;have ad:=AA ab;clear ab
 by_cases ao:k<c.length
 .have bP:(k:Int)<(c.length:Int):=ω
  have r5:=AA (BK.below HV A);obtain⟨b,bx,rfl,nS,D0,D1,D2,D3⟩:=(HH.below A).zV ao;have cl:=yK _ _ D0;have SF:=bO ao;have kB:=λW (E:Γ wr wr W)=>Om (AV c k) W
  have CF:=AA (λW (E:Γ wr wr W)=>Sa _ c (AV c k).e (AV c k).p W (BK.below r5 E));generalize IG c (AV c k).e (AV c k).p=fd at SF CF;clear nS;cases L:CQ (AV c k)
  .rw[L] at kB
   have CA:=AA kB;rw[L] at SF;clear kB L;have i6:DJ c k=false:=by rw[SF];rfl
   clear SF;have S:=AA (show Bk c=false by unfold Bk;rw[H7 ao i6];rfl);go_wp2_with fail;refine Ac 21 35 [.v (.slice (some ⟨b,bx,none⟩) c.length cp),.i ((k:Int)),.p b (bx+k*4),.a #[.int .i64 ((AV c k).e),.int .i64 ((AV c k).p),.int .i64 ((AV c k).f),.bool (AV c k).w],.b false,.b true,.b true,.u,.u,.u,.u,.u,.u,.u,.u,.u,.u,.u,.u,.u,.u] (λ_ _ _=>True) ?_ ?_
   .intro i R o V a wx z J Y hj Z
    match i,R with
    |0,_|1,_|5,_|6,_=>exact sP V Z z J
    |2,_=>exact sI V Z z J (hr:=by clear J z Z;go_simp)
    |3,_=>exact sL V Z z J (hl:=XG (bc Y cl D0) (bc Y cl D1) (bc Y cl D2) (bc Y cl D3))
    |4,_=>exact sD V Z z J (CA _ Y)
    |7,_|8,_|9,_|10,_|11,_|12,_|13,_|14,_|15,_|16,_|17,_|18,_|19,_|20,_=>exact sB V Z J
    |_+21,hq=>omega
   intro D wx hR Y
   have q6:(D 6)=.bool true:=Bh hR 6;clear hR;simp only[Ai,Ae,yL,yI,yJ,yH,q6];simp;clear q6;have bK:=A.trans (Y.mono A.size);clear Y D0 D1 D2 D3;go_wp2;go_ret;exact⟨AF S.symm,bK⟩
  rw[L] at kB
  have CA:=AA kB;rw[L] at SF;clear kB L
  by_cases O:fd<(k:Int)
  .have i6:DJ c k=false:=by rw[SF];simp[O]
   clear SF;have S:=AA (show Bk c=false by unfold Bk;rw[H7 ao i6];rfl);go_wp2_with fail;refine Ac 21 35 [.v (.slice (some ⟨b,bx,none⟩) c.length cp),.i ((k:Int)),.p b (bx+k*4),.a #[.int .i64 ((AV c k).e),.int .i64 ((AV c k).p),.int .i64 ((AV c k).f),.bool (AV c k).w],.b true,.b false,.b false,.v (.slice (some ⟨b,bx,none⟩) c.length cp),.v (.slice (some ⟨b,bx,none⟩) c.length cp),.i ((k:Int)),.p b (bx+k*4),.p b (bx+k*4),.i ((AV c k).e),.v (.slice (some ⟨b,bx,none⟩) c.length cp),.i ((k:Int)),.p b (bx+k*4),.p b (bx+k*4+1),.i ((AV c k).p),.i fd,.i ((k:Int)),.b true] (λ_ _ _=>True) ?_ ?_
   .intro i R o V a wx z J Y hj Z
    have bB:=bc Y cl D0;have bp:=bc Y cl D1;have bL:=bc Y cl D2;have eL:=bc Y cl D3
    match i,R with
    |0,_|1,_|5,_|6,_|7,_|8,_|9,_|11,_|13,_|14,_|16,_|19,_=>exact sP V Z z J
    |2,_|10,_|15,_=>exact sI V Z z J (hr:=by clear J z Z;go_simp)
    |3,_=>exact sL V Z z J (hl:=XG ‹_› ‹_› ‹_› ‹_›)
    |4,_=>exact sD V Z z J (CA _ Y)
    |12,_|17,_=>exact sL V Z z J (hl:=GO ‹_›)
    |18,_=>exact sD V Z z J (CF _ Y)
    |20,_=>clear bB bp bL eL;obtain rfl:=yP V;have od:(a.tmps[28]?.getD Θ)=.int .i64 fd:=Bc J 18;have j7:(a.tmps[29]?.getD Θ)=.int .i64 k:=Bc J 19;have d6:(a.tmps[16]?.getD Θ)=.bool false:=Bc J 6;clear J z;refine AZ.yes rfl rfl d6 ?_;go_simp;exact Z _ _ rfl (yN _ _)
    |_+21,hq=>omega
   intro D wx hR Y
   have q6:(D 6)=.bool false:=Bh hR 6;have iL:(D 20)=.bool true:=Bh hR 20;clear hR;simp only[Ai,Ae,yL,yI,yJ,yH,q6,iL];simp;clear q6 iL;have bK:=A.trans (Y.mono A.size);clear Y D0 D1 D2 D3;go_wp2;go_ret;exact⟨AF S.symm,bK⟩
  have b9:DJ c k=true:=by rw[SF];simp[O]
  clear SF;have S:=AA (b9);go_wp2_with fail;refine Ac 21 35 [.v (.slice (some ⟨b,bx,none⟩) c.length cp),.i ((k:Int)),.p b (bx+k*4),.a #[.int .i64 ((AV c k).e),.int .i64 ((AV c k).p),.int .i64 ((AV c k).f),.bool (AV c k).w],.b true,.b false,.b false,.v (.slice (some ⟨b,bx,none⟩) c.length cp),.v (.slice (some ⟨b,bx,none⟩) c.length cp),.i ((k:Int)),.p b (bx+k*4),.p b (bx+k*4),.i ((AV c k).e),.v (.slice (some ⟨b,bx,none⟩) c.length cp),.i ((k:Int)),.p b (bx+k*4),.p b (bx+k*4+1),.i ((AV c k).p),.i fd,.i ((k:Int)),.b false] (λ_ _ _=>True) ?_ ?_
  .intro i R o V a wx z J Y hj Z
   have bB:=bc Y cl D0;have bp:=bc Y cl D1;have bL:=bc Y cl D2;have eL:=bc Y cl D3
   match i,R with
   |0,_|1,_|5,_|6,_|7,_|8,_|9,_|11,_|13,_|14,_|16,_|19,_=>exact sP V Z z J
   |2,_|10,_|15,_=>exact sI V Z z J (hr:=by clear J z Z;go_simp)
   |3,_=>exact sL V Z z J (hl:=XG ‹_› ‹_› ‹_› ‹_›)
   |4,_=>exact sD V Z z J (CA _ Y)
   |12,_|17,_=>exact sL V Z z J (hl:=GO ‹_›)
   |18,_=>exact sD V Z z J (CF _ Y)
   |20,_=>clear bB bp bL eL;obtain rfl:=yP V;have od:(a.tmps[28]?.getD Θ)=.int .i64 fd:=Bc J 18;have j7:(a.tmps[29]?.getD Θ)=.int .i64 k:=Bc J 19;have d6:(a.tmps[16]?.getD Θ)=.bool false:=Bc J 6;clear J z;refine AZ.yes rfl rfl d6 ?_;go_simp;exact Z _ _ (congrArg Value.bool (decide_eq_false ω)) (yN _ _)
   |_+21,hq=>omega
  intro D wx hR Y
  have q6:(D 6)=.bool false:=Bh hR 6;have iL:(D 20)=.bool false:=Bh hR 20;clear hR;simp only[Ai,Ae,yL,yI,yJ,yH,q6,iL];simp;clear q6 iL;have bK:=A.trans (Y.mono A.size);clear Y D0 D1 D2 D3;go_wp2;go_roundw;exact⟨k+1,ω,ξ,Am ad S.u,bK⟩;simp[intOf];omega
 have ek:k=c.length:=ω;have ab:=ad.u;rw[ek] at ab;have S:=AA (show Bk c=decide ((c.length:Int)<=4) by
  unfold Bk;have:(yL c.length).all (DJ c)=true:=yr.2 λj K=>ab j (yi.1 K)
  rw[this,Bool.true_and]
  by_cases h:c.length<=4
  .rw[decide_eq_true h,decide_eq_true (ω:(c.length:Int)<=4)]
  rw[decide_eq_false h,decide_eq_false (ω:¬(c.length:Int)<=4)])
 clear ad ab;go_wp2;go_ret;exact⟨AF S.symm,A⟩
theorem Nc (m i e c:Φ)(k:AR)(w:Ω)(h:Bl w m k.mem)(hm:By k.mem=true)(hI:Bf w i k.Zh)(iY:BG k.Zh=true):
 Ξ prog 85 #[.agg #[m,i,e,c]] w λr w'=>r=.returned (.bool ((yL 12).all (EC k)))/\Γ w w w':=by
 obtain⟨N0,br⟩:=EU w (.cells #[m,i,e,c] 28);replace h:=h.below br;replace hI:=BK.below hI br;obtain⟨am,cm,rfl,_⟩:=h.open;obtain⟨ai,ci,rfl,_,_,pD⟩:=BK.open Az ψ hI;have kp:=(A2.1 iY).1;have kL:=Ca iY;generalize fz:k.mem.length=nm at*;have Hl:=AA kp;have AS:=AA fz;clear kp fz;go_in;go_wp2_with fail;generalize w.alloc _=W0 at*;have HN:=AA N0;have HH:=AA pD;have HR:=AA h;have HI:=AA hI;have Hm:=AA hm;have Hs:=AA kL;have fx:=AU N0;clear h hI hm iY kL N0 pD;go_loopw [3] (λix wr=>∃f:Nat,f<=12/\ix=.int .i64 f/\(∀j,j<f->EC k j=true)/\Γ W0 W0 wr) (λix _=>12 - (intOf ix).toNat)
 exact⟨0,yt _,rfl,λj K=>absurd K (xV _),yN _ _⟩
 obtain⟨f,hf,rfl,ab,A⟩:=hrel;have ad:=AA ab;clear ab
 by_cases ao:f<12
 .have bP:(f:Int)<12:=ω
  have ji:(f:Int)<k.Zh.length:=by have:=Hl.u;omega
  obtain⟨x0,x1,_,_⟩:=AG (AB HN A);have f7:w.heap.size<wr.heap.size:=yu fx A.size;obtain⟨bi,be,rfl,nT,D0,_,_⟩:=(HH.below A).zZ (show f<k.Zh.length by have:=Hl.u;omega);have fk:=yK _ _ D0;have hM:=λW (E:Γ wr wr W)=>A4 (GY (JR k.Zh f).k W)
  have TO:EC k f=(!Bp (JR k.Zh f).k||JB k.mem k.Zh f (JR k.Zh f).k [⟨#[]⟩]):=rfl;clear nT;cases L:Bp (JR k.Zh f).k
  .rw[L] at hM TO
   have CT:=AA hM;have b9:EC k f=true:=by rw[TO];rfl
   clear hM TO L;have S:=AA (b9);go_wp2_with fail;refine Ac 21 31 [.p w.heap.size 1,.v (.slice (some ⟨bi,be,none⟩) k.Zh.length ci),.i ((f:Int)),.p bi (be+f*3),.p bi (be+f*3),.i ((JR k.Zh f).k),.b false,.b false,.u,.u,.u,.u,.u,.u,.u,.u,.u,.u,.u,.u,.u] (λ_ _ _=>True) ?_ ?_
   .intro i R o V a wx z J Y hj Z
    match i,R with
    |0,_|2,_|4,_|7,_=>exact sP V Z z J
    |1,_=>exact sL V Z z J (hl:=Gt (bc Y f7 x1))
    |3,_=>exact sI V Z z J (hr:=by clear J z Z;go_simp)
    |5,_=>exact sL V Z z J (hl:=GO (bc Y fk D0))
    |6,_=>exact sD V Z z J (CT _ Y)
    |8,_|9,_|10,_|11,_|12,_|13,_|14,_|15,_|16,_|17,_|18,_|19,_|20,_=>exact sB V Z J
    |_+21,hq=>omega
   intro D wx hR Y
   have q7:(D 7)=.bool false:=Bh hR 7;clear hR;simp only[Ai,Ae,yL,yI,yJ,yH,q7];simp;clear q7;have bK:=A.trans (Y.mono A.size);clear Y D0 x0 x1;go_wp2;go_roundw;exact⟨f+1,ω,ξ,Am ad S.u,bK⟩;simp[intOf];omega
  have it:=λW (E:Γ wr wr W) v2 (O:BY W v2 [⟨#[]⟩])=>Ui _ _ v2 k.mem k.Zh f (JR k.Zh f).k [⟨#[]⟩] W ((HR.below A).below E) Hm (BK.below (BK.below HI A) E) Hl Hs ao L O (λs hs=>by rw[List.mem_singleton] at hs;subst hs;exact yt _)
  rw[L] at hM TO;have CT:=AA hM;cases O:JB k.mem k.Zh f (JR k.Zh f).k [⟨#[]⟩]
  .rw[O] at it TO
   have CG:=AA it;have i6:EC k f=false:=by rw[TO];rfl
   clear hM TO L O it;have S:=AA (show(yL 12).all (EC k)=false from H7 ao i6);go_wp2_with fail;refine A9 21 31 [.p w.heap.size 1,.v (.slice (some ⟨bi,be,none⟩) k.Zh.length ci),.i ((f:Int)),.p bi (be+f*3),.p bi (be+f*3),.i ((JR k.Zh f).k),.b true,.b true,.p w.heap.size 0,.v (.slice am nm cm),.p w.heap.size 1,.v (.slice (some ⟨bi,be,none⟩) k.Zh.length ci),.i ((f:Int)),.p w.heap.size 1,.v (.slice (some ⟨bi,be,none⟩) k.Zh.length ci),.i ((f:Int)),.p bi (be+f*3),.p bi (be+f*3),.i ((JR k.Zh f).k),.z,.b false] (λix vv ww=>match ix with
    |19=>BY ww vv [⟨#[]⟩]
    |_=>True) ?_ ?_ ?_
   .intro i R o V a wx z J Y hj Z
    have bB:=bc Y f7 x1;have bp:=bc Y fk D0;have bL:=bc Y f7 x0
    match i,R with
    |0,_|2,_|4,_|7,_|8,_|10,_|12,_|13,_|15,_|17,_=>exact sP V Z z J
    |1,_|11,_|14,_=>exact sL V Z z J (hl:=Gt ‹_›)
    |3,_|16,_=>exact sI V Z z J (hr:=by clear J z Z;go_simp)
    |5,_|18,_=>exact sL V Z z J (hl:=GO ‹_›)
    |6,_=>exact sD V Z z J (CT _ Y)
    |9,_=>exact sL V Z z J (hl:=GZ ‹_›)
    |19,_=>clear bB bp bL;obtain rfl:=yP V;have d7:(a.tmps[15]?.getD Θ)=.bool true:=Bc J 7;clear J z;refine AZ.yes rfl rfl d7 ?_;go_simp;exact Z _ _ (Rd.news _ #[.string ⟨#[]⟩] _ 1 1 rfl ζ) (AJ _ _)
    |20,_=>clear bB bp bL;obtain rfl:=yP V;have d9:(a.tmps[17]?.getD Θ)=.slice am nm cm:=Bc J 9;have jw:(a.tmps[19]?.getD Θ)=.slice (some ⟨bi,be,none⟩) k.Zh.length ci:=Bc J 11;have ph:(a.tmps[20]?.getD Θ)=.int .i64 f:=Bc J 12;have od:(a.tmps[26]?.getD Θ)=.int .i64 ((JR k.Zh f).k):=Bc J 18;have j7:BY wx (a.tmps[27]?.getD Θ) [⟨#[]⟩]:=Bc J 19;have d7:(a.tmps[15]?.getD Θ)=.bool true:=Bc J 7;clear J z;generalize e27:a.tmps[27]?.getD Θ=v2 at j7;have kf:=CG wx Y v2 j7;refine AZ.yes rfl rfl d7 ?_;go_simp;refine kf.mono ?_;rintro e w_ ⟨rfl,bf⟩;exact Z _ _ rfl bf
    |_+21,hq=>omega
   .intro i R vv wz jo em hz
    match i,R with
    |19,_=>exact(BK.below hz em)
    |0,_|1,_|2,_|3,_|4,_|5,_|6,_|7,_|8,_|9,_|10,_|11,_|12,_|13,_|14,_|15,_|16,_|17,_|18,_|20,_=>exact hz
    |_+21,hq=>omega
   intro D wx hR Y
   have q7:(D 7)=.bool true:=Bh hR 7;have iL:(D 20)=.bool false:=Bh hR 20;clear hR;simp only[Ai,Ae,yL,yI,yJ,yH,q7,iL];simp;clear q7 iL;have bK:=A.trans (Y.mono A.size);clear Y D0 x0 x1;go_wp2;go_ret;exact⟨AF S.symm,br.trans (bK.mono br.size)⟩
  rw[O] at it TO
  have CG:=AA it;have b9:EC k f=true:=by rw[TO];rfl
  clear hM TO L O it;have S:=AA (b9);go_wp2_with fail;refine A9 21 31 [.p w.heap.size 1,.v (.slice (some ⟨bi,be,none⟩) k.Zh.length ci),.i ((f:Int)),.p bi (be+f*3),.p bi (be+f*3),.i ((JR k.Zh f).k),.b true,.b true,.p w.heap.size 0,.v (.slice am nm cm),.p w.heap.size 1,.v (.slice (some ⟨bi,be,none⟩) k.Zh.length ci),.i ((f:Int)),.p w.heap.size 1,.v (.slice (some ⟨bi,be,none⟩) k.Zh.length ci),.i ((f:Int)),.p bi (be+f*3),.p bi (be+f*3),.i ((JR k.Zh f).k),.z,.b true] (λix vv ww=>match ix with
   |19=>BY ww vv [⟨#[]⟩]
   |_=>True) ?_ ?_ ?_
  .intro i R o V a wx z J Y hj Z
   have bB:=bc Y f7 x1;have bp:=bc Y fk D0;have bL:=bc Y f7 x0
   match i,R with
   |0,_|2,_|4,_|7,_|8,_|10,_|12,_|13,_|15,_|17,_=>exact sP V Z z J
   |1,_|11,_|14,_=>exact sL V Z z J (hl:=Gt ‹_›)
   |3,_|16,_=>exact sI V Z z J (hr:=by clear J z Z;go_simp)
   |5,_|18,_=>exact sL V Z z J (hl:=GO ‹_›)
   |6,_=>exact sD V Z z J (CT _ Y)
   |9,_=>exact sL V Z z J (hl:=GZ ‹_›)
   |19,_=>clear bB bp bL;obtain rfl:=yP V;have d7:(a.tmps[15]?.getD Θ)=.bool true:=Bc J 7;clear J z;refine AZ.yes rfl rfl d7 ?_;go_simp;exact Z _ _ (Rd.news _ #[.string ⟨#[]⟩] _ 1 1 rfl ζ) (AJ _ _)
   |20,_=>clear bB bp bL;obtain rfl:=yP V;have d9:(a.tmps[17]?.getD Θ)=.slice am nm cm:=Bc J 9;have jw:(a.tmps[19]?.getD Θ)=.slice (some ⟨bi,be,none⟩) k.Zh.length ci:=Bc J 11;have ph:(a.tmps[20]?.getD Θ)=.int .i64 f:=Bc J 12;have od:(a.tmps[26]?.getD Θ)=.int .i64 ((JR k.Zh f).k):=Bc J 18;have j7:BY wx (a.tmps[27]?.getD Θ) [⟨#[]⟩]:=Bc J 19;have d7:(a.tmps[15]?.getD Θ)=.bool true:=Bc J 7;clear J z;generalize e27:a.tmps[27]?.getD Θ=v2 at j7;have kf:=CG wx Y v2 j7;refine AZ.yes rfl rfl d7 ?_;go_simp;refine kf.mono ?_;rintro e w_ ⟨rfl,bf⟩;exact Z _ _ rfl bf
   |_+21,hq=>omega
  .intro i R vv wz jo em hz
   match i,R with
   |19,_=>exact(BK.below hz em)
   |0,_|1,_|2,_|3,_|4,_|5,_|6,_|7,_|8,_|9,_|10,_|11,_|12,_|13,_|14,_|15,_|16,_|17,_|18,_|20,_=>exact hz
   |_+21,hq=>omega
  intro D wx hR Y
  have q7:(D 7)=.bool true:=Bh hR 7;have iL:(D 20)=.bool true:=Bh hR 20;clear hR;simp only[Ai,Ae,yL,yI,yJ,yH,q7,iL];simp;clear q7 iL;have bK:=A.trans (Y.mono A.size);clear Y D0 x0 x1;go_wp2;go_roundw;exact⟨f+1,ω,ξ,Am ad S.u,bK⟩;simp[intOf];omega
 have ek:f=12:=ω;have ab:=ad.u;rw[ek] at ab;have S:=AA (show(yL 12).all (EC k)=true from yr.2 λj K=>ab j (yi.1 K));clear ad ab;go_wp2;go_ret;exact⟨AF S.symm,br.trans (A.mono br.size)⟩
def eN(m:List (List Int))(Zh:List AX)(t i g:Nat):Nat:=
 ((yL t).map λu=>if Bp (JR Zh u).k then(named (AK m u)).count g else 0).sum+((named (AK m t)).take i).count g
def X5(m:List (List Int))(Zh:List AX)(t i:Nat):List Int:=(yL 12).map λg=>(eN m Zh t i g:Int)
section
variable {m:List (List Int)} {Zh:List AX} {t i g:Nat}
theorem Oe:(X5 m Zh t i).length=12:=by simp[X5]
theorem VV(h:g<12):nth (X5 m Zh t i) g=eN m Zh t i g:=by unfold X5 nth;rw[yg,xq,List.getElem?_range h];rfl
theorem cM:X5 m Zh t 0=IR m Zh t 0:=by simp[X5,eN,IR,Jb,named]
theorem cL(R:i<(named (AK m t)).length):X5 m Zh t (i+1)=(X5 m Zh t i).set (Iy (named (AK m t)) i) (eN m Zh t i (Iy (named (AK m t)) i)+1):=by
 have hf:Iy (named (AK m t)) i<12:=GI (yv (Gx R));refine Mx (by simp[X5]) λg H=>?_
 rw[Oe] at H;rw[Vt (by rw[Oe];exact hf),VV H,VV H];unfold eN;rw[DA (Gx R),List.count_append]
 by_cases e:g=Iy (named (AK m t)) i
 .subst e;simp;omega
 rw[if_neg e,List.count_singleton]
 have:(Iy (named (AK m t)) i==g)=false:=by simp;exact λh=>e h.symm
 rw[this];simp
theorem eM(N:Bp (JR Zh t).k=true):X5 m Zh t (named (AK m t)).length=IR m Zh (t+1) 0:=by unfold X5 eN IR Jb;rw[xH (n:=t),xE];simp[N,named]
theorem ff(hm:By m=true)(ht:t<=12):eN m Zh t i g<=100:=by
 have L:=Rv (Zh:=Zh) (g:=g) (j:=0) hm ht ω;have O:((named (AK m t)).take i).count g<=4:=by
  have h3:=vt (a:=g) (l:=(named (AK m t)).take i);have h4:=Fh (r:=AK m t);rw[ym] at h3;have h5:(AK m t).length<=4:=by
   rcases Nat.lt_or_ge t 12 with h|h
   .exact Nat.le_of_eq (BB.1 ((Aj.1 hm).2 t h)).1
   have:AK m t=[]:=by unfold AK;rw[yg,List.getElem?_eq_none (by have:=(Aj.1 hm).1;omega)];rfl
   rw[this];simp
  omega
 unfold Jb at L;unfold eN;simp[named] at L;have:((yL t).map λu=>if Bp (JR Zh u).k then(named (AK m u)).count g else 0).sum<=4*t:=by
  clear L O
  induction t with
  |zero=>simp
  |succ t ih=>
   have:=ih ω;rw[xH,xK,List.sum_append];have O:(if Bp (JR Zh t).k then(named (AK m t)).count g else 0)<=4:=by
    split
    .have h3:=vt (a:=g) (l:=named (AK m t))
     have h4:=Fh (r:=AK m t);have h5:=(BB.1 ((Aj.1 hm).2 t ω)).1;omega
    omega
   simp only[List.map_cons,List.map_nil,List.sum_cons,List.sum_nil];omega
 omega
end
theorem Vg (v iv:Φ)(m:List (List Int))(Zh:List AX)(w:Ω)(h:Bl w v m)(b9:By m=true)(hI:Bf w iv Zh)(hl:Zh.length=12):
 Ξ prog 149 #[v,iv] w λe w'=>∃v',e=.returned v'/\AE w w' v' ((yL 12).map λg=>(countP m Zh g:Int))/\Γ w w w':=by
 obtain⟨q,c,rfl,hc,cg,H0⟩:=h.open;obtain⟨a2,c2,rfl,me,j1,H2⟩:=BK.open Az ψ hI;have fv:=(Aj.1 b9).1;unfold maxLen at cg j1;rw[fv] at hc ⊢;rw[hl] at me ⊢;have lw:=AA b9;have HR:=AA H0;have HI:=AA H2;have Hl:=AA hl;clear h b9 H0 H2 fv hI hl;go_in;go_wp2_with (at_make;go_must (refine RH (n:=12) rfl rfl 3 (.int .i64 0) 8 underlying29 Tryz.zS rfl rfl ω μ ?_;intro w1 au av lU));have mg:AE w w1 (.slice w 12 12) (IR m Zh 0 0):=by unfold AE;rw[KP,UY];exact au
 have l7:w.heap.size<=w.heap.size:=yF _;have fl:=AA av;clear au av;go_loopw [6,7,8] (λi s7 s8 wr=>∃t:Nat,t<=12/\i=.int .i64 t/\AE w wr (.slice w 12 12) (IR m Zh t 0)/\Γ w w wr) (λi _ _ _=>12 - (intOf i).toNat)
 exact⟨0,yt _,rfl,mg,fl.u⟩
 obtain⟨t,ht,rfl,hO,av⟩:=hrel;clear mg
 by_cases ao:t<12
 .have bP:(t:Int)<12:=ω
  obtain⟨bm,mT,u,rfl,qT,M0,hr⟩:=HR t (by rw[(Aj.1 lw.u).1];exact ao);have M:=(av.cell (p:=⟨bm,mT+t,none⟩) qT).trans M0;have jI:=(BB.1 ((Aj.1 lw.u).2 _ ao)).1;have CN:=Jg _ (AK m t) wr (A1.below hr av) ω (Mn lw ao);have HO:=AA hO;have z:=AA av;have jZ:=(yC HO w rfl).2;obtain⟨wo,rfl⟩:∃wo:Ω,wo=wr:=⟨_,rfl⟩
  clear M0 hr hO;go_wp2_with fail;refine CN.mono ?_;rintro e w2 ⟨v2,rfl,O2,b2⟩;have bf:=z.trans (b2.mono z.size);have iu:=Sl lw ao;obtain⟨an,lq,rfl,nN,qO,HN⟩:=O2.rd.open;rw[Cs] at nN ⊢;have hC:=AA (AE.below HO b2);have ON:=AA O2;clear CN O2 av M;cases N:Bp (JR Zh t).k
  .have S:=AA (UX (m:=m) N)
   have Z:=AA N;obtain⟨bi,be,rfl,fk,D0,_,_⟩:=(HI.below bf).zZ (show t<Zh.length by rw[Hl.u];exact ao);clear N;go_wp2_with fail;go_loopw [8] (λs8 wi=>s8=.int .i64 0/\w2=wi) (λ_ _=>0)
   exact⟨rfl,rfl⟩
   obtain⟨rfl,rfl⟩:=hrel
   by_cases h0:0<(named (AK m t)).length
   focus
    have re:(0:Int)<(named (AK m t)).length:=ω;go_wp2_with (go_at_call 147;refine(GY _ _).mono ?_;rintro e w' ⟨rfl,rfl⟩;rw[Z.u])
   rotate_left
   focus
    have re:¬(0:Int)<(named (AK m t)).length:=ω;go_wp2_with fail
   rotate_left
   all_goals
    go_roundw;exact⟨t+1,ω,ξ,by rw[<-S.u];exact hC.u,bf⟩;simp[intOf];omega
  have S:=AA (eM (m:=m) N)
  have Z:=AA N;have BA:=AA HN;have sm:eh (AE w w2 (.slice w 12 12) (X5 m Zh t 0)):=AA (by rw[cM];exact hC.u);have ig:=AA bf;generalize hns:(named (AK m t)).length=nl at*;have lx:=AA hns;clear N bf hC HO HN hns;go_wp2_with fail;go_loopw [8] (λs8 wi=>∃j:Nat,j<=nl/\s8=.int .i64 j/\AE w wi (.slice w 12 12) (X5 m Zh t j)/\AE wo wi (.slice an nl lq) (A5 (named (AK m t)))/\Γ w w wi) (λs8 _=>nl - (intOf s8).toNat)
  exact⟨0,yt _,rfl,sm.u,by have:=ON.u;rwa [Cs,lx.u] at this,ig.u⟩
  obtain⟨j,K,rfl,nX,mh,fk⟩:=hrel;obtain⟨bi,be,rfl,qV,D0,_,_⟩:=(HI.below fk).zZ (show t<Zh.length by rw[Hl.u];exact ao)
  by_cases l4:j<nl
  .have qB:(j:Int)<(nl:Int):=ω
   obtain⟨bn,ik,e1,DN⟩:=(show Jm wr an (A5 (named (AK m t))) from by obtain⟨x1,x2,ex,_,_,hx⟩:=mh.rd.open;rw[Cs,lx.u] at ex;simp only[xQ] at ex;obtain⟨rfl,_,rfl⟩:=ex;exact hx).at (k:=j) (by rw[Cs,lx.u];exact l4)
   subst e1;rw[Q3] at DN;have hW:=AA (cL (Zh:=Zh) (show j<(named (AK m t)).length by rw[lx.u];exact l4));have hF:Iy (named (AK m t)) j<12:=GI (yv (Gx (by rw[lx.u];exact l4)));have md:=ff (Zh:=Zh) (i:=j) (g:=Iy (named (AK m t)) j) lw (td ao);have bC:wr.ownsRow w.heap.size 3 1 (.slice w 12 12) 12 ((X5 m Zh t j).map (yl .i64)):=by have:=nX;unfold AE at this;rwa [Oe] at this
   have DC:=(bC.cellAt (Iy (named (AK m t)) j) ω).trans (GX (xs:=X5 m Zh t j) (by rw[Oe];exact hF));rw[VV hF] at DC;have nI:∀b,(xG (some ⟨bn,ik,none⟩) nl lq).ownBlock=some b->b≠w.heap.size:=λb A=>by have:=(yC mh b A).1;omega
   have lE:=AA bC;have sw:=AA mh;generalize Iy (named (AK m t)) j=fr at*;generalize eN m Zh t j fr=cn at*;have qK:(fr:Int)<12:=ω;have iy:=yK _ _ DN;have oY:=yK _ _ DC;obtain⟨nc,hnc⟩:∃nc:Int,(cn:Int)+1=nc:=⟨_,rfl⟩
   have po:=AA hnc;have px:=AA fk;clear bC nX mh hnc fk;go_wp2_with (go_at_call 147;refine(GY _ _).mono ?_;rintro e w' ⟨rfl,rfl⟩;rw[Z.u]);refine Ac 13 48 [.s w.heap.size 12 12,.v (.slice (some ⟨bn,ik,none⟩) nl lq),.i ((j:Int)),.p bn (ik+j),.i ((fr:Int)),.s w.heap.size 12 12,.v (.slice (some ⟨bn,ik,none⟩) nl lq),.i ((j:Int)),.p bn (ik+j),.i ((fr:Int)),.p w.heap.size fr,.i ((cn:Int)),.i nc] (λ_ _ _=>True) ?_ ?_
   .intro i R o V a wx z J Y hj Z
    have bB:=bc Y iy DN;have bp:=bc Y oY DC
    match i,R with
    |0,_|1,_|2,_|5,_|6,_|7,_=>exact sP V Z z J
    |3,_|8,_|10,_=>exact sI V Z z J (hr:=by clear J z Z;go_simp)
    |4,_|9,_|11,_=>exact sL V Z z J (hl:=GO ‹_›)
    |12,_=>clear bB bp;obtain rfl:=yP V;have jw:(a.tmps[44]?.getD Θ)=.int .i64 cn:=Bc J 11;clear J z;refine yO ?_;go_simp;exact Z _ _ (by show yl .i64 (IntKind.i64.wrap ((cn:Int)+1))=.int .i64 nc;rw[IntWalk.i64_in _ ω,po.u]) (yN _ _)
   intro D wx hR Y
   have q0:(D 0)=.slice w 12 12:=Bh hR 0;have q4:(D 4)=.int .i64 fr:=Bh hR 4;have jE:(D 12)=.int .i64 nc:=Bh hR 12;clear hR;simp only[Ai,Ae,yL,yI,yJ,yH,q0,q4,jE];simp;clear q0 q4 jE;have O3:=A8 lE Y;have Fr:=O3.frozenAt fr;have C2:=(Y.cell (p:=⟨w,fr,none⟩) oY).trans DC;have S2:=AA (O3.stored fr (.int .i64 nc));have pB:=AE.below sw Y;have ov:=AA (Au pB (Ak wx w fr (.int .i64 nc)) (by
    rcases hv:(xG (some ⟨bn,ik,none⟩) nl lq).ownBlock with _|b
    .exact .inl rfl
    exact .inr λe=>nI b hv (yP e)))
   have pK:=AA (px.trans (Y.mono px.size));clear D0 DN DC Y O3 pB;go_wp2;go_roundw
   case rel=>refine⟨j+1,ω,ξ,?_,ov.u,AM pK S2.2 l7 pK.size⟩;rw[hW.u,po.u];unfold AE;rw[yh,Oe,vf];exact S2.1
   case measure=>simp[intOf];omega
  obtain rfl:j=nl:=ω;go_wp2;go_roundw;exact⟨t+1,ω,ξ,by rw[<-S.u];exact nX,fk⟩;simp[intOf];omega
 obtain rfl:t=12:=ω;rw[WZ] at hO;go_wp2;go_ret;exact⟨_,rfl,hO,av⟩
theorem SV (v iv:Φ)(m:List (List Int))(xs:List AX)(f:Nat)(n:Int)(w:Ω)(h:Bl w v m)(hm:By m=true)(hI:Bf w iv xs)(iY:BG xs=true)(hf:f<12)(hn:n=1∨n= -1):
 Ξ prog 284 #[v,iv,.int .i64 f,.int .i64 n] w λe w'=>∃v',e=.returned v'/\AQ w.heap.size 115 3 Av w' v' (BO xs (named (AK m f)) n)/\Γ w w w':=by
 have Hl:=AA (A2.1 iY).1;have fv:=(Aj.1 hm).1;have HR:=AA (λW (E:Γ w w W)=>BK.below hI E);have oj:=AA (λW (E:Γ w w W)=>h.below E);have jI:=(BB.1 ((Aj.1 hm).2 f hf)).1;have CN:=AA (λu W hu=>Jg u (AK m f) W hu ω (Mn hm hf));have h4:=Sl hm hf;have tt:=AA (λg (H:g∈named (AK m f))=>GI H);have rG:=AA iY;have Hn:=AA hn;have wy: -1<=n/\n<=1:=ω;obtain⟨am,cm,rfl,_,_,_⟩:=h.open;obtain⟨ai,ci,rfl,_,_⟩:=hI.shape;have xr:(f:Int)<m.length:=ω;have ji:f<m.length:=ω;generalize named (AK m f)=fs at*;clear h hm hI iY hn jI fv;go_in;go_wp2_with (at_builtin;go_must (refine GN (cs:=Av) rfl rfl 115 (.agg #[θ,ϑ,θ]) 3 32 underlying24 Tryz.zO rfl ψ rfl (Ci Av _ _ _) rfl (HR _ (AJ _ _)) (F6 _) (by have:=Hl.u;omega) ψ χ ?_;intro v' w9 hO iq));have bl:=(AJ w _).trans iq;obtain⟨q,cq,rfl,c1,c2,q1,q2,io⟩:=hO.zW (by have:=Hl.u;omega);unfold maxLen at c2;have HO:=AA hO;have bu:=AA bl;obtain⟨a9,c9,e9,_,_,H9⟩:=(oj _ bl).open;simp only[xQ] at e9;obtain⟨rfl,_,rfl⟩:=e9;obtain⟨b,bx,u,rfl,cl,vs,hR⟩:=H9 f ji;have C:=AA (CN u w9 hR);obtain⟨_,_,rfl,_⟩:=hR.open;have iT:¬(f:Int)<0:=ω;clear hO iq bl H9 hR CN io;go_wp2_with fail;refine C.mono ?_;rintro e w1 ⟨v1,rfl,o1,b1⟩;obtain⟨a1,og,rfl,nR⟩:=FG o1;have so:=AA (HO.below b1);have rD:=AA o1;have ry:=AA (bu.trans (b1.mono bu.size));clear o1 b1 C vs;go_wp2_with fail;go_loopw [11] (λix wr=>∃k:Nat,k<=fs.length/\ix=.int .i64 k/\AQ w.heap.size 115 3 Av wr (.slice q xs.length cq) (BO xs (fs.take k) n)/\AE w9 wr (.slice a1 fs.length og) (A5 fs)/\Γ w w wr) (λix _=>fs.length - (intOf ix).toNat)
 exact⟨0,yt _,rfl,by simpa[BO] using so.u,rD.u,ry.u⟩
 obtain⟨k,N,rfl,hO,o1,A⟩:=hrel
 by_cases ao:k<fs.length
 .have bP:(k:Int)<(fs.length:Int):=ω
  obtain⟨a2,z6,e2,_,_,H1⟩:=(AE.rd o1).open;simp only[xQ] at e2;obtain⟨rfl,e2,rfl⟩:=e2;clear e2;obtain⟨b1,iO,rfl,vs⟩:=H1.at (k:=k) (by rw[Cs];exact ao);rw[Q3] at vs;have nF:=(yC o1 b1 rfl).2;have V:=tt _ (yv (Gx ao));have RN:=Yp (Zh:=xs) (n:=n) ao;obtain⟨r1,r2,_⟩:=Kl rG (fs:=fs.take k) (by rw[ym];omega) Hn V;have l0:(BO xs (fs.take k) n).length=xs.length:=KH;rw[<-l0] at hO;generalize BO xs (fs.take k) n=X at*;generalize Iy fs k=o at*;have nB:o<X.length:=by rw[l0,Hl.u];exact V
  have qs:(o:Int)<xs.length:=by rw[Hl.u];omega
  have v9:¬(o:Int)<0:=ω;obtain⟨_,_,d2⟩:=AQ.zZ hO nB;have hq:=(yC hO q rfl).2;have mG:=AA hO;have rB:=AA (Cg nB);have rF:=AA l0;have om:=AA o1;have hW:=AA RN;have z:=AA A;clear RN hO o1 A H1 l0 nB;go_wp2_with fail;refine Ac 17 44 [.s q xs.length cq,.v (.slice (some ⟨b1,iO,none⟩) fs.length og),.i ((k:Int)),.p b1 (iO+k),.i ((o:Int)),.s q xs.length cq,.v (.slice (some ⟨b1,iO,none⟩) fs.length og),.i ((k:Int)),.p b1 (iO+k),.i ((o:Int)),.p q (o*3),.p q (o*3+2),.i ((JR X o).r),.i n,.i ((JR X o).r+n),.p q (o*3),.p q (o*3+2)] (λ_ _ _=>True) ?_ ?_
  .intro i R o V a wx z J Y hj Z
   have bB:=bc Y nF vs;have bp:=bc Y hq d2
   match i,R with
   |0,_|1,_|2,_|5,_|6,_|7,_|11,_|13,_|16,_=>exact sP V Z z J
   |3,_|8,_|10,_|15,_=>exact sI V Z z J (hr:=by clear J z Z;go_simp)
   |4,_|9,_|12,_=>exact sL V Z z J (hl:=GO ‹_›)
   |14,_=>clear bB bp;obtain rfl:=yP V;have ph:(a.tmps[38]?.getD Θ)=.int .i64 ((JR X o).r):=Bc J 12;have mu:(a.tmps[39]?.getD Θ)=.int .i64 n:=Bc J 13;clear J z;refine yO ?_;go_simp;exact Z _ _ (by show yl .i64 (IntKind.i64.wrap _)=_;rw[IntWalk.i64_in _ ω]) (yN _ _)
   |_+17,hq=>omega
  intro D wx hR Y
  have kC:(D 14)=.int .i64 ((JR X o).r+n):=Bh hR 14;have oE:(D 16)=.pointer (some ⟨q,o*3+2,none⟩):=Bh hR 16;clear hR;simp only[Ai,Ae,yL,yI,yJ,yH,kC,oE];simp;clear kC oE;have mz:=AA (AQ.zH Az (mG.below Y) rB (j:=2) ψ (y:=JI n (JR X o)) (u:=.int .i64 ((JR X o).r+n)) rfl);have o5:=AA (z.trans (Y.mono z.size));have Fw:wx.frozen? (q,o*3+2)=false:=xU (mG.below Y) (o*3+2);obtain⟨j8,g5⟩:=A7 (mG.below Y) q rfl;have N2:=AA (Eu (om.below Y) mz.2 g5);have kl:q<wx.heap.size:=(yC (mG.below Y) q rfl).2;rw[rF.u] at mz;have zn:=(Y.cell (p:=⟨q,o*3+2,none⟩) hq).trans d2;clear Y g5 d2 vs;go_wp2;go_roundw;exact⟨k+1,ω,ξ,by rw[hW.u];exact mz.1,N2.u,AM o5 mz.2 q1 o5.size⟩;simp[intOf];omega
 obtain rfl:k=fs.length:=ω;rw[xE] at hO;go_wp2;go_ret;exact⟨_,rfl,hO,A⟩
end Go.Proofs.YtlcnbkkcplllhaaGreatDoor
