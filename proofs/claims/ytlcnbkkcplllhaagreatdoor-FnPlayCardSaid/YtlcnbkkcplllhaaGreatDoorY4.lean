/-
  Packed:32 texts.
-/
import Derived.Test.YtlcnbkkcplllhaaGreatDoorY1
import Derived.Test.YtlcnbkkcplllhaaGreatDoorY3
import Derived.Test.YtlcnbkkcplllhaaGreatDoorY2
import Derived.Deep.DeepCutAuto
import Derived.Deep.CutBlock
set_option linter.unusedVariables false
set_option linter.unusedSimpArgs false
set_option maxHeartbeats 16000000
set_option maxRecDepth 100000
open Go Go.Proofs.YtlcnbkkcplllhaaGreatDoor
open And renaming intro->yj
open Bool renaming and_eq_true->yC,or_eq_true->xL,true_and->wv
open Go.Exit renaming inBlock->xS
open Go.IntKind renaming i64->wU
open Go.IntWalk renaming i64_in->xA
open Go.Lib renaming toList_data->xI
open Go.Proofs.Tryz renaming results133->rU,results189->uO,results192->uN,results193->vy,results194->tQ,results195->wk,results196->vz,results92->tI
open Go.Region renaming waitsFor->yk
open Go.RowKit.Below renaming cell->sQ,refl->yN
open Go.Value renaming int->yl,oneCell'->xR
open Go.Value.slice renaming injEq->xQ
open Go.World renaming block_lt_of_cell?->yK,size_alloc->xt
open Go.World.ownsRow renaming cellAt->xN,frozenAt->xV,lt->yE
open Go renaming bodyPost_ret->yB,cell_of_row->yx,heap_alloc_new->yy,heap_setCell_same->yA
open Int renaming toNat_natCast->yq
open List renaming all_eq_false->wZ,all_eq_true->ym,any_eq_true->wu,countP_append->uj,countP_cons->xE,countP_le_length->wC,countP_nil->rV,eq_nil_of_length_eq_zero->xY,foldl_cons->yJ,foldl_nil->yH,getD_eq_getElem?_getD->yd,getElem?_eq_getElem->yG,getElem?_eq_some_iff->yD,getElem?_of_mem->xO,getElem?_replicate->vO,isEmpty->vl,isEmpty_iff->tO,length->wS,length_append->yz,length_drop->xC,length_replicate->uy,length_set->yi,length_singleton->xP,length_take->yr,mem_of_getElem?->yw,mem_range->yh,mem_singleton->xy,range->yL,replicate->xZ,take_length->xD,take_of_length_le->xz
open List.range renaming loop->yI
open Nat renaming add_zero->xT,eq_zero_or_pos->wJ,le_add_right->wt,le_refl->yF,le_trans->yM,lt_of_lt_of_le->yt,lt_succ_iff_lt_or_eq->xK,mul_one->wX,not_lt_zero->xU,zero_add->wK,zero_le->yu
open Go renaming World->Ω,Value->Φ,Calls->Ξ,undef->Θ
open Go.RowKit renaming Below->Γ
variable {T cg f gq:Nat} {c' cv e' ev i' iv m' mv v:Φ} {b:Bool} {x y:Int} {p:AR} {ss:List ByteArray} {W:Ω}
namespace Go.Proofs.YtlcnbkkcplllhaaGreatDoor
open Go.Proofs.Tryz
open Go.RowKit
def Kr(w:Ω)(m i e c s l q:Φ)(P:AR):Prop:=Nk w m i e c P.Ve/\Bn w s P.swap/\A3 w l P.low/\BN 3 Dc w q P.XY
structure EI(lo:Nat)(w:Ω)(m i e c s l q:Φ)(P:AR):Prop where
 ker:Dy lo w m i e c P.Ve
 swp:∃vs,Ay lo w s vs P.swap
 low:AE lo w l P.low
 pgs:AP lo 87 3 Dc w q P.XY
 apart:GH m s
structure Hj(lo g:Nat)(w:Ω)(m i e c s l q:Φ)(P:AR):Prop where
 yU:w.heap[g]?=some (.cells #[m,i,e,c,s,l,q,P.FV,P.U4] 32 (0,0))
 yT:lo<=g
 own:EI lo w m i e c s l q P
section
variable {lo g:Nat} {w H:Ω} {m i e c s l q:Φ} {P:AR}
theorem Kr.below(h:Kr w m i e c s l q P)(N:Γ w w H):Kr H m i e c s l q P:=⟨h.1.below N,h.2.1.below N,h.2.2.1.below N,BN.below h.2.2.2 N⟩
theorem EI.rd(h:EI lo w m i e c s l q P):Kr w m i e c s l q P:=⟨h.ker.rd,h.swp.choose_spec.rd,h.low.rd,h.pgs.rd⟩
theorem EI.below(h:EI lo w m i e c s l q P)(N:Γ w w H):EI lo H m i e c s l q P:=⟨h.ker.below N,⟨_,h.swp.choose_spec.below N⟩,h.low.below N,h.pgs.below N,h.apart⟩
theorem EI.lower{lo':Nat}(h:EI lo w m i e c s l q P)(hl:lo'<=lo):EI lo' w m i e c s l q P:=⟨h.ker.lower hl,⟨_,h.swp.choose_spec.lower hl⟩,BS h.low hl,BS h.pgs hl,h.apart⟩
theorem EI.yV{g:Nat}{cs:Array Φ}{fr:Nat×Nat}(h:EI lo w m i e c s l q P)(hg:w.grownBy H (some g))(hB:w.heap[g]?=some (.cells cs T fr))
 (h1:29≠T:=by decide)(L:3≠T:=by decide)(h3:115≠T:=by decide)(h4:81≠T:=by decide)(h5:9≠T:=by decide)(h6:125≠T:=by decide)(h7:87≠T:=by decide):EI lo H m i e c s l q P:=
 ⟨h.ker.yV hg hB h1 L h3 h4 h5 h6,⟨_,h.swp.choose_spec.yV hg hB h1 L⟩,DY h.low hg hB L,h.pgs.yV hg hB h7,h.apart⟩
theorem Hj.below(h:Hj lo g w m i e c s l q P)(N:Γ w w H):Hj lo g H m i e c s l q P:=⟨AB h.yU N,h.yT,h.own.below N⟩
theorem AC{t:Nat}{a0 a1 a2 a3 a4 a5 a6 a7 a8:Φ}(h:w.heap[g]?=some (.cells #[a0,a1,a2,a3,a4,a5,a6,a7,a8] t (0,0))):
 w.cell? g=some a0/\w.cell? (g,1)=some a1/\w.cell? (g,2)=some a2/\w.cell? (g,3)=some a3/\w.cell? (g,4)=some a4/\w.cell? (g,5)=some a5/\w.cell? (g,6)=some a6/\w.cell? (g,7)=some a7/\w.cell? (g,8)=some a8:=
 ⟨yx w g 0 _ _ _ h,yx w g 1 _ _ _ h,yx w g 2 _ _ _ h,yx w g 3 _ _ _ h,yx w g 4 _ _ _ h,yx w g 5 _ _ _ h,yx w g 6 _ _ _ h,yx w g 7 _ _ _ h,yx w g 8 _ _ _ h⟩
theorem Hj.cells(h:Hj lo g w m i e c s l q P):w.cell? g=some m/\w.cell? (g,1)=some i/\w.cell? (g,2)=some e/\w.cell? (g,3)=some c/\w.cell? (g,4)=some s/\w.cell? (g,5)=some l/\w.cell? (g,6)=some q/\w.cell? (g,7)=some (.int .i64 P.FV)/\w.cell? (g,8)=some (.int .i64 P.U4):=AC h.yU
theorem KL{t:Nat}{a0 a1 a2 a3 a4 a5 a6 a7 a8:Φ}(h:w.heap[g]?=some (.cells #[a0,a1,a2,a3,a4,a5,a6,a7,a8] t (0,0))):
 ((((w.setCell g m').setCell (g,1) i').setCell (g,2) e').setCell (g,3) c').heap[g]?=some (.cells #[m',i',e',c',a4,a5,a6,a7,a8] t (0,0)):=by
 have h0:=yA w g 0 _ t m' h;have h1:=yA _ g 1 _ t i' h0;have L:=yA _ g 2 _ t e' h1;have h3:=yA _ g 3 _ t c' L;simpa using h3
theorem Hj.put{k':AQ}{B:Nat}{w1:Ω}(h:Hj lo g w m i e c s l q P)(N:Γ w w w1)(hB:w.heap.size<=B)(ay:lo<=w.heap.size)(wx:Dy B w1 m' i' e' c' k'):
 Hj lo g ((((w1.setCell g m').setCell (g,1) i').setCell (g,2) e').setCell (g,3) c') m' i' e' c' s l q {P with Ve:=k'}:=by
 have h':=h.below N;have bk:=Aq w1 g m' i' e' c';have O':=wx.yV bk h'.yU;have F:=h'.own.yV bk h'.yU;refine⟨KL h'.yU,h.yT,⟨O'.lower (yM ay hB),F.swp,F.low,F.pgs,λb cl bf=>?_⟩⟩;obtain⟨Z,r1⟩:=wx.1;obtain⟨us,r2⟩:=h.own.swp;have:=(yE r1.1 b cl).1;have:=(yE r2.1 b bf).2;omega
end
def KD(lo:Nat)(b:Bool)(v:Φ)(w:Ω)(k:AQ):Prop:=∃q,v=.pointer (some ⟨q,0,none⟩)/\lo<=q/\if b=true then ∃m i e c,w.heap[q]?=some (.cells #[m,i,e,c] 28 (0,0))/\Dy lo w m i e c k else w.heap[q]?=some (.cells #[ι,ι,ι,ι] 28 (0,0))
variable{k x2:AQ}
variable{b0 g j lo n o q:Nat}
variable{H w ww:Ω}
theorem KD.below (h:KD lo b v w k)(N:Γ w w H):KD lo b v H k:=by
 obtain⟨q,h0,h1,L⟩:=h;refine⟨q,h0,h1,?_⟩;cases b
 .exact AB L N
 obtain⟨m,i,e,c,h3,h4⟩:=L
 exact⟨m,i,e,c,AB h3 N,h4.below N⟩
def NG(lo:Nat)(v:Φ)(w:Ω)(k:AQ)(x y:Int):Prop:=∃m i e c,v=.tuple #[.agg #[m,i,e,c],x,y]/\Dy lo w m i e c k
def IG(lo:Nat)(v:Φ)(w:Ω)(k:AQ):Prop:=∃m i e c,v=.agg #[m,i,e,c]/\Dy lo w m i e c k
theorem NG.below (h:NG lo v w k x y)(N:Γ w w H):NG lo v H k x y:=by obtain⟨m,i,e,c,h1,L⟩:=h;exact⟨m,i,e,c,h1,L.below N⟩
theorem IG.below (h:IG lo v w k)(N:Γ w w H):IG lo v H k:=by obtain⟨m,i,e,c,h1,L⟩:=h;exact⟨m,i,e,c,h1,L.below N⟩
variable{cs cu ie:Array Φ}
theorem NG.yV{fr:Nat×Nat}(h:NG lo v w k x y)(hg:w.grownBy H (some g))(hB:w.heap[g]?=some (.cells cs 28 fr)):NG lo v H k x y:=by obtain⟨m,i,e,c,h1,L⟩:=h;exact⟨m,i,e,c,h1,L.yV hg hB⟩
theorem IG.yV{fr:Nat×Nat}(h:IG lo v w k)(hg:w.grownBy H (some g))(hB:w.heap[g]?=some (.cells cs 28 fr)):IG lo v H k:=by obtain⟨m,i,e,c,h1,L⟩:=h;exact⟨m,i,e,c,h1,L.yV hg hB⟩
def ZK(lo g:Nat)(w:Ω)(s l q:Φ)(P:AR)(call:AV)(r:Ending)(H:Ω):Prop:=
 r=.returned (.int .i64 (Ad P.Ve call).2.1)/\(∃m i e c,Hj lo g H m i e c s l q {P with Ve:=(Ad P.Ve call).1}/\Dy w H m i e c (Ad P.Ve call).1)/\Γ lo w H/\w.grownBy H (some g)
variable{P:AR}
variable{c e i lv m qv s sv u:Φ}
theorem J9 (h:Hj lo g w mv iv ev cv sv lv qv P)(ay:lo<=w.heap.size)(hK:Dg P.Ve)(call:AV)(he:0<=call.e)(hn:call.e<3)(f2:call.nm.size<=maxLen)(lq:call.c<=9223372036854775807):
 Ξ prog 34 #[.pointer g,.agg #[call.k,call.e,call.a,call.b,call.c,call.nm]] w (ZK lo g w sv lv qv P call):=by
 obtain⟨N0,b0⟩:=Ec w (.cells #[call.k,call.e,call.a,call.b,call.c,call.nm] 34);have CC:=λW (hW:Γ (w.alloc (.cells #[call.k,call.e,call.a,call.b,call.c,call.nm] 34)).heap.size (w.alloc (.cells #[call.k,call.e,call.a,call.b,call.c,call.nm] 34)) W)=>Rg mv iv ev cv P.Ve call W ((h.own.ker.rd.below b0).below hW) hK he hn f2 lq
 unfold ZK;have HI:=AA (h.below b0);have V:=AA (b0.mono ay);have gt:w.heap.size<(w.alloc (.cells #[call.k,call.e,call.a,call.b,call.c,call.nm] 34)).heap.size:=χ;generalize Ad P.Ve call=res at CC ⊢;obtain⟨kr,vr,nr⟩:=res;obtain⟨ck,ce,ca,cb,cc,nm⟩:=call;dsimp only at*;go_in;go_wp2_with fail;generalize w.alloc _=W0 at*;obtain⟨E,D,K,x3,_⟩:=HI.cells;obtain⟨y0,y1,y2,y3,y4,y5⟩:=LW N0;have jq:=AY HI.yU;have CC:=AA CC;clear N0;refine Cv 14 23 (λix=>ix==11) [.p g 0,.p g 0,.p g 0,.a #[mv,iv,ev,cv],.a #[.int .i64 ck,.int .i64 ce,.int .i64 ca,.int .i64 cb,.int .i64 cc,.string nm],.z,.z,.z,.i vr,.i nr,.z,.z,.i vr,.i nr] (λll ix vv ww=>match ix with
  |5|6=>NG W0 vv ww kr vr nr
  |7=>IG W0 vv ww kr
  |10=>KD W0 (ll 11) vv ww kr
  |_=>True) (λll ww=>Γ W0 W0 ww) ?_ ?_ ?_ ?_ ?_ ?_
 .exact Ai (yN _ _) 1
 .intro j hj ll i vv wz fl hi hS ir lw bs hz
  match j,hj with
  |5,_|6,_=>exact(NG.below hz bs)
  |7,_=>exact(IG.below hz bs)
  |10,_=>exact(KD.below (by rw[E9 (by rintro rfl;cases hS)];exact hz) bs)
  |0,_|1,_|2,_|3,_|4,_|8,_|9,_|11,_|12,_|13,_=>exact hz
 .intro ll i wz fl hi hS ir bs hg
  exact hg.trans (bs.mono hg.size)
 .intro i hi hS o Y a O V ll A R J x2 z
  have bC:=bc J jq E;have bA:=bc J jq D;have cC:=bc J jq K;have cz:=bc J jq x3;have cy:=bc J gt y0;have fb:=bc J gt y1;have g3:=bc J gt y2;have im:=bc J gt y3;have iA:=bc J gt y4;have iz:=bc J gt y5
  match i,hi,hS with
  |0,_,_|1,_,_|2,_,_|12,_,_|13,_,_=>exact Tj Y z V A R
  |3,_,_=>exact Kf Y z V A R (hl:=Pi ‹_› ‹_› ‹_› ‹_›)
  |4,_,_=>exact Kf Y z V A R (hl:=fX ‹_› ‹_› ‹_› ‹_› ‹_› ‹_›)
  |5,_,_=>exact ey Y z V A R (CC _ J) (by rintro r w_ ⟨m',i',e',c',rfl,hO,bf⟩;exact⟨_,rfl,⟨m',i',e',c',rfl,hO.lower J.size⟩,bf⟩)
  |11,_,hs=>cases hs
  |6,_,_=>clear bC bA cC cz cy fb g3 im iA iz;obtain rfl:=yP Y;have d5:NG W0 (a.tmps[14]?.getD Θ) O kr vr nr:=Cr A R 5;have gN:=A6 R 11;clear A V;refine yO ?_;go_simp;exact z _ _ d5 (yN _ _)
  |7,_,_=>clear bC bA cC cz cy fb g3 im iA iz;obtain rfl:=yP Y;have d6:NG W0 (a.tmps[8]?.getD Θ) O kr vr nr:=Cr A R 6;have gN:=A6 R 11;clear A V;obtain⟨m',i',e',c',d6,hO⟩:=d6;refine yO ?_;go_simp;exact z _ _ ⟨_,_,_,_,rfl,hO⟩ (yN _ _)
  |8,_,_|9,_,_=>clear bC bA cC cz cy fb g3 im iA iz;obtain rfl:=yP Y;have d6:NG W0 (a.tmps[8]?.getD Θ) O kr vr nr:=Cr A R 6;clear A V;obtain⟨m',i',e',c',d6,hO⟩:=d6;refine yO ?_;go_simp;exact z _ _ rfl (yN _ _)
  |10,_,_=>clear bC bA cC cz cy fb g3 im iA iz;obtain rfl:=yP Y;have gN:=A6 R 11;clear A V;refine yO ?_;go_simp;exact z _ _ ⟨_,rfl,J.size,by rw[E9 ψ,gN];exact yy _ _⟩ (AG _ _)
 .intro i hi hS o Y a O V ll A R J x2 z
  match i,hi,hS with
  |0,_,hs|1,_,hs|2,_,hs|3,_,hs|4,_,hs|5,_,hs|6,_,hs|7,_,hs|8,_,hs|9,_,hs|10,_,hs|12,_,hs|13,_,hs=>cases hs
  |11,_,_=>
   obtain rfl:=yP Y;have gW:KD W0 (ll 11) (a.tmps[5]?.getD Θ) O kr:=Cr A R 10;have d7:IG W0 (a.tmps[15]?.getD Θ) O kr:=Cr A R 7;clear A V;obtain⟨qb,iM,gp,cr⟩:=gW;rw[R.1] at cr;replace cr:O.heap[qb]?=some (.cells #[ι,ι,ι,ι] 28 (0,0)):=cr;obtain⟨m',i',e',c',d7,hO⟩:=d7;obtain⟨⟨va,vn,vc,rfl⟩,⟨wa,wn,wc,rfl⟩,⟨xa,xn,xc,rfl⟩,⟨ya,yn,yc,rfl⟩⟩:=hO.Dq;obtain⟨c0,jA,c2,c3⟩:=AH cr;have fq:=AK cr;have bk:=AA (Aq O qb (.slice va vn vc) (.slice wa wn wc) (.slice xa xn xc) (.slice ya yn yc));have mY:=AA iM;have Hq:=AA cr;have HO:=AA hO;clear cr hO;refine yO ?_;go_simp;exact z Θ _ trivial (AM J bk gp J.size) (λj f3 gg fd hu=>match j,gg with
    |0,_|1,_|2,_|3,_|4,_|8,_|9,_|11,_|12,_|13,_=>hu
    |5,_|6,_=>NG.yV hu bk Hq.u
    |7,_=>IG.yV hu bk Hq.u
    |10,_=>⟨qb,mY.u,gp,by rw[Fh];exact⟨_,_,_,_,DP Hq.u,HO.yV bk Hq⟩⟩)
 intro Z O ll az hR J
 have dr:KD W0 (ll 11) (Z 10) O kr:=Be hR 10;have cN:(Z 12)=.int .i64 vr:=Be hR 12;clear hR;simp only[DD,Bj,yL,yI,yJ,yH,cN];simp;generalize Z 10=z10 at dr ⊢;clear cN;obtain⟨qb,rfl,gp,cr⟩:=dr;rw[az 11 ψ,if_pos rfl] at cr;obtain⟨m',i',e',c',fv,hO⟩:=cr;clear az;obtain⟨⟨ma,mn,mc,rfl⟩,⟨ia,iN,ic,rfl⟩,⟨ea,en,ec,rfl⟩,⟨qa,qn,qc,rfl⟩⟩:=hO.Dq;obtain⟨c0,jA,c2,c3⟩:=AH fv;have lx:=HI.below J;have fg:=AK lx.yU;obtain⟨z0,z1,z2,z3,_⟩:=lx.cells;have HL:=AA (HI.put J (yF _) (yM ay ω) hO);have R2:=AA ((hO.yV (Aq O g (.slice ma mn mc) (.slice ia iN ic) (.slice ea en ec) (.slice qa qn qc)) lx.yU).lower (Nat.le_of_lt gt));have B:=AA (AM (V.trans (J.mono (yM ay ω))) (Aq O g (.slice ma mn mc) (.slice ia iN ic) (.slice ea en ec) (.slice qa qn qc)) HI.yT (yM ay (yM ω J.size)));have R3:=AA (AO ⟨b0.os,b0.tape,b0.output,b0.size,λk hk _=>b0.block k hk⟩ (AO ⟨J.os,J.tape,J.output,J.size,λk hk _=>J.block k hk⟩ (Aq O g (.slice ma mn mc) (.slice ia iN ic) (.slice ea en ec) (.slice qa qn qc))));clear lx hO fv E D K x3 y0 y1 y2 y3 y4 y5;go_wp2;go_ret;exact⟨rfl,⟨_,_,_,_,HL.u,R2.u⟩,B.u,R3.u⟩
theorem Cm (h:Dg k):KH k:=by
 refine⟨λx hx=>?_,λj hj=>Ez (h.PQ j (by rw[h.zX] at hj;exact hj))⟩;obtain⟨f,hf⟩:=xO hx;have hl:=(yD.1 hf).1;rw[h.len] at hl;have hi:=h.inf f hl;have e:JK k.ZJ f=x:=by unfold JK;rw[yd,hf];rfl
 rw[e] at hi
 rcases hi with⟨_,g⟩|⟨_,_,g⟩
 .rw[g];exact yu _
 unfold BT at g
 rw[yC,decide_eq_true_eq] at g;have:=g.2;unfold maxLen;omega
section
variable {lo g:Nat} {o m i e c:Φ} {st:AQ×List Int} {w wr H:Ω}
end
theorem IR (w:Ω)(a b:Obj):((w.alloc a).alloc b).heap[w.heap.size]?=some a/\((w.alloc a).alloc b).heap[w.heap.size+1]?=some b/\Γ w w ((w.alloc a).alloc b)/\((w.alloc a).alloc b).heap.size=w.heap.size+2:=by have h1:=yy w a;have L:=yy (w.alloc a) b;have h4:=AB h1 (AG _ b);simp only[xt] at L;exact⟨h4,L,Hv w a b,χ⟩
section
variable {P:Program}
theorem TY{id:Nat}{Q:Exit->Act->Ω->Prop}{a0:Act}{w0:Ω}{l:List Oper}(n:Nat)(hm:P.follows .mixedOrders=true)(hB:Ip l n=true)
 (hb:Nat)(hN:a0.tmps.size=hb)(hD:WN l n hb=true)(i1 i2:Nat)(hw:yk .any l.toArray i2 i1=true)(lz:i1<n)(mx:i2<n)(jC:Φ->Φ->Prop)(HL:Nat->Φ->Ω->Prop)(kq:∀i,i<n->∀v w H,Γ w.heap.size w H->HL i v w->HL i v H)
 (j9:∀i,i<n->i≠i2->∀o,l[i]?=some o->∀a w,dv (a.defers=a0.defers/\a.tmps.size=a0.tmps.size/\∀t,(∀i,i<n->Ae l i≠t)->a.tmps[t]?=a0.tmps[t]?)->
  dv (∀j,yk .any l.toArray i j=true->HL j (a.tmps[Ae l j]?.getD Θ) w)->Γ w0 w0 w->
  ∀x2:Act->Ω->Prop,dv (∀v H,HL i v H->Γ w w H->x2 (a.put o.dst v) H)->AT P l o a w x2 Q)
 (kl:∀o,l[i2]?=some o->∀a w,dv (a.defers=a0.defers/\a.tmps.size=a0.tmps.size/\∀t,(∀i,i<n->Ae l i≠t)->a.tmps[t]?=a0.tmps[t]?)->
  dv (∀j,yk .any l.toArray i2 j=true->HL j (a.tmps[Ae l j]?.getD Θ) w)->Γ w0 w0 w->
  ∀x2:Act->Ω->Prop,dv (∀v H,HL i2 v H->jC (a.tmps[Ae l i1]?.getD Θ) v->Γ w w H->x2 (a.put o.dst v) H)->AT P l o a w x2 Q)
 (j8:∀(Z:Nat->Φ) w,(∀i,i<n->HL i (Z i) w)->jC (Z i1) (Z i2)->Γ w0 w0 w->wpList P l.toArray Q (l.drop n) {a0 with tmps:=Aj l (yL n) Z a0.tmps} w):
 (Code.region id l.toArray true).wp P Q a0 w0:=by
 subst hN;refine Mh hm (I:=λh2 Z w=>(∀i,i<n->h2 i=true->HL i (Z i) w)/\Γ w0 w0 w/\(h2 i2=true->jC (Z i1) (Z i2))) (Ug hB hD) (λZ=>⟨λi _ h=>(by cases h),⟨rfl,rfl,rfl,yF _,λ_ _=>rfl⟩,λh=>by cases h⟩) (λi hi o Y a w h1 L h3 h2 h6 h7 h8 hI x2 hK=>?_) (λa w h1 L h3 h2 hL hI=>?_)
 .have up:∀{H:Ω},Γ w w H->Γ w0 w0 H:=λL=>hI.2.1.trans ⟨L.os,L.tape,L.output,L.size,λk hk=>L.block k (yt hk hI.2.1.size)⟩
  have hd:=AA λj (hj:yk .any l.toArray i j=true)=>by have:=hI.1 j (h7 j hj).2 (h7 j hj).1;rwa [LL hB (h7 j hj).2] at this
  have j1:∀{v H},HL i v H->Γ w w H->∀fm:Nat->Φ,fm i=(match o.dst with|some _=>v|none=>Θ)->(∀j,j<n->j≠i->fm j=Ef l a.tmps j)->∀j,j<n->Hh h2 i j=true->HL j (fm j) H:=by
   intro v H hR N fm hv iS j hj hl
   by_cases e:j=i
   .subst e
    rw[hv];simp only[Xm hB hi Y];exact hR
   have pR:h2 j=true:=by unfold Hh at hl;rwa [if_neg e] at hl
   rw[iS j hj e];exact kq j hj _ w H N (hI.1 j hj pR)
  by_cases e2:i=i2
  .subst e2
   have gU:i1≠i:=λe=>by have:=(h7 i1 hw).1;rw[e,h6] at this;cases this
   refine kl o Y a w (AA ⟨h1,L,KU hB h3⟩) hd hI.2.1 x2 (AA λv H hR hp N=>hK v H λfm hv iS=>⟨j1 hR N fm hv iS,up N,λ_=>?_⟩);rw[hv,iS i1 lz gU,LL hB lz];simp only[Xm hB hi Y];exact hp
  refine j9 i hi e2 o Y a w (AA ⟨h1,L,KU hB h3⟩) hd hI.2.1 x2 (AA λv H hR N=>hK v H λfm hv iS=>⟨j1 hR N fm hv iS,up N,λhl=>?_⟩)
  have lh:h2 i2=true:=by unfold Hh at hl;rwa [if_neg (Ne.symm e2)] at hl
  have e1:i1≠i:=λe=>by have:=h8 i2 i1 lh hw;rw[e,h6] at this;cases this
  rw[iS i1 lz e1,iS i2 mx (Ne.symm e2)];exact hI.2.2 lh
 have e:=UM l (yL n) a0.tmps a.tmps L (λt ht=>KU hB h3 t λi hi=>ht i (yh.2 hi))
 have hv:∀i,i<n->a.tmps.getD (Ae l i) Θ=Ef l a.tmps i:=λi hi=>by rw[Array.getD_eq_getD_getElem?,<-LL hB hi]
 have:=j8 (λi=>a.tmps.getD (Ae l i) Θ) w (λi hi=>by rw[hv i hi];exact hI.1 i hi (hL i hi)) (by rw[hv i1 lz,hv i2 mx];exact hI.2.2 (hL i2 mx)) hI.2.1;rw[<-e] at this;obtain⟨tm,df⟩:=a;dsimp only at h1 this;subst h1;exact this
end
theorem Sf (v:Φ)(m:List (List Int))(w:Ω)(h:Bn w v m)(iH:m.length=16)(gQ:∀k,k<16->(AJ m k).length<=4):
 Ξ prog 61 #[v] w λe H=>∃v' Z,e=.returned v'/\Ay w H v' Z m/\Γ w w H:=by
 obtain⟨Z,h1,L⟩:=h;have fp:Z.length=16:=by rw[L.1,iH]
 have CC:=AA (NJ v Z w h1 ω (Ub L));have CI:=AA (λk (hk:k<16) W (hW:Γ w w W)=>JJ (Z.getD k (.bool false)) (AJ m k) W (A3.below (L.2 k _ _ (A9 ω) (by unfold AJ;exact A9 ω)) hW) (by have:=gQ k hk;omega));have SH:=AA (λk (hk:k<16)=>(by obtain⟨a,c,e,_⟩:=(L.2 k _ _ (A9 (d:=Value.bool false) ω) (A9 (d:=[]) ω)).open;exact⟨a,_,c,e⟩:∃a n c,Z.getD k (.bool false)=.slice a n c));have kM:=AA fp;have oh:=AA iH;obtain⟨ai,ci,rfl,_,_⟩:=h1.shape;clear h1 L gQ iH;rw[fp] at CC ⊢;clear fp;go_in;go_wp2_with fail;refine CC.mono ?_;rintro e w1 ⟨v',rfl,hO,cl⟩;obtain⟨g,cg,rfl,c1,c2,q1,q2,bu⟩:=hO.zW (by have:=kM.u;omega);unfold maxLen at c2;rw[kM.u] at hO c1 ⊢;have HO:=AA hO;have HB:=AA cl;clear hO cl bu;go_wp2_with fail;go_loopw [10] (λi wr=>∃us:List Φ,us.length<=16/\i=.int .i64 us.length/\Ga w wr (.slice g 16 cg) us (Z.drop us.length) m/\Γ w w wr) (λi _=>16 - (intOf i).toNat)
 exact⟨[],χ,rfl,⟨HO.u,GY.nil,Dk.nil⟩,HB.u⟩
 obtain⟨us,hk,rfl,hH,es⟩:=hrel
 by_cases bl:us.length<16
 .have nC:us.length<Z.length:=by rw[kM.u];exact bl
  have ed:Z.drop us.length=Z.getD us.length (.bool false)::Z.drop (us.length+1):=by
   rw[List.drop_eq_getElem_cons nC]
   congr 1
   simp[nC]
  rw[ed] at hH;have jl:(us++Z.getD us.length (.bool false)::Z.drop (us.length+1)).length=16:=by have:=kM.u;simp only[yz,List.length_cons,xC];omega
  have ly:=hH.1;rw[<-jl] at ly;have x1:=AP.zJ Ej ly (k:=us.length) (x:=Z.getD us.length (.bool false)) χ 0 _ rfl;rw[wX,xT] at x1;have C:=CI _ bl wr es;have hr:m[us.length]?=some (AJ m us.length):=by unfold AJ;exact A9 (by rw[oh.u];exact bl)
  have HH:=AA hH;have HR:=AA hr;have CH:=AA C;have mP:=AA jl;have bu:=xV ly us.length;have ub:(16:Int)<=cg:=ω;clear hH ly hr C ed jl;generalize hu0:Z.getD us.length (.bool false)=u0 at*;obtain⟨a0,n0,c0,rfl⟩:∃a n c,u0=.slice a n c:=by have:=SH _ bl;rwa [hu0] at this
  go_wp2_with fail;refine CH.mono ?_;rintro e w2 ⟨u,rfl,hu,bf⟩;have D2:=(bf.cell (p:=⟨g,us.length,none⟩) (yK wr _ x1)).trans x1;have pZ:=(bf.frozen (p:=⟨g,us.length,none⟩) (yK wr _ x1)).trans bu;have ST:=AA (Ga.step HH mP.symm bf es.size hu HR.u);have jX:=AA (AM (es.trans (bf.mono es.size)) ST.2 q1 (yM es.size bf.size));obtain⟨a9,c9,rfl,_⟩:=hu.rd.open;clear x1 bu hu bf es;go_wp2;go_roundw
  case rel=>refine⟨us++[.slice a9 (AJ m us.length).length c9],by rw[yz,xP];omega,by rw[yz,xP];go_num,?_,jX.u⟩;rw[yz,xP];exact ST.1
  case measure=>simp[intOf];omega
 have e12:us.length=16:=ω;rw[List.drop_eq_nil_of_le (by rw[e12,kM.u];exact yF _)] at hH;have HL:=AA (hH.whole (by rw[e12,oh.u]));clear hH;go_wp2;go_ret;exact⟨_,us,rfl,HL.u,es⟩
theorem EI.Dq{l q:Φ}(h:EI lo w m i e c s l q P):((∃a n q,m=.slice a n q)/\(∃a n q,i=.slice a n q)/\(∃a n q,e=.slice a n q)/\∃a n q,c=.slice a n q)/\(∃a n q,s=.slice a n q)/\(∃a n q,l=.slice a n q)/\∃a n r,q=.slice a n r:=by obtain⟨h1,⟨_,L⟩,h3,h4,_⟩:=h;obtain⟨_,_,rfl,_,_⟩:=L.1.rd.shape;obtain⟨_,_,rfl,_,_⟩:=h3.rd.open;obtain⟨_,_,rfl,_,_⟩:=h4.rd.shape;exact⟨h1.Dq,⟨_,_,_,rfl⟩,⟨_,_,_,rfl⟩,⟨_,_,_,rfl⟩⟩
theorem Wx (h:Dz P):P.swap.length=16/\∀k,k<16->(AJ P.swap k).length<=4:=by
 refine⟨h.zN,λk hk=>?_⟩
 rcases h.zF k hk with e|e
 .rw[e];exact yu _
 have:=(BG.1 e).1;omega
section
variable {w:Ω} {g t:Nat} {a0 a1 a2 a3 a4 a5 a6 a7 a8 b0 b1 b2 b3 b4 b5 b6 b7 b8:Φ}
def De(w:Ω)(g:Nat)(b0 b1 b2 b3 b4 b5 b6:Φ):Ω:=((((((w.setCell g b0).setCell (g,1) b1).setCell (g,2) b2).setCell (g,3) b3).setCell (g,4) b4).setCell (g,5) b5).setCell (g,6) b6
theorem cj(h:w.heap[g]?=some (.cells #[a0,a1,a2,a3,a4,a5,a6,a7,a8] t (0,0))):(((w.setCell (g,4) b4).setCell (g,5) b5).setCell (g,6) b6).heap[g]?=some (.cells #[a0,a1,a2,a3,b4,b5,b6,a7,a8] t (0,0)):=by have h4:=yA _ g 4 _ t b4 h;have h5:=yA _ g 5 _ t b5 h4;have h6:=yA _ g 6 _ t b6 h5;simpa using h6
theorem Yc:w.grownBy (((w.setCell (g,4) b4).setCell (g,5) b5).setCell (g,6) b6) (some g):=Ar (Ar (At _ _ _ _) _ _) _ _
theorem co(h:w.heap[g]?=some (.cells #[a0,a1,a2,a3,a4,a5,a6,a7,a8] t (0,0))):(De w g b0 b1 b2 b3 b4 b5 b6).heap[g]?=some (.cells #[b0,b1,b2,b3,b4,b5,b6,a7,a8] t (0,0)):=by have h0:=yA w g 0 _ t b0 h;have h1:=yA _ g 1 _ t b1 h0;have L:=yA _ g 2 _ t b2 h1;have h3:=yA _ g 3 _ t b3 L;have h4:=yA _ g 4 _ t b4 h3;have h5:=yA _ g 5 _ t b5 h4;have h6:=yA _ g 6 _ t b6 h5;unfold De;simpa using h6
theorem Yd:w.grownBy (De w g b0 b1 b2 b3 b4 b5 b6) (some g):=by unfold De;exact Ar (Ar (Ar (Ar (Ar (Ar (At _ _ _ _) _ _) _ _) _ _) _ _) _ _) _ _
theorem H6(h:w.heap[g]?=some (.cells #[a0,a1,a2,a3,a4,a5,a6,a7,a8] t (0,0))):(((De w g b0 b1 b2 b3 b4 b5 b6).setCell (g,7) b7).setCell (g,8) b8).heap[g]?=some (.cells #[b0,b1,b2,b3,b4,b5,b6,b7,b8] t (0,0)):=by have h7:=yA _ g 7 _ t b7 (co (b0:=b0) (b1:=b1) (b2:=b2) (b3:=b3) (b4:=b4) (b5:=b5) (b6:=b6) h);have h8:=yA _ g 8 _ t b8 h7;simpa using h8
theorem Fz:w.grownBy (((De w g b0 b1 b2 b3 b4 b5 b6).setCell (g,7) b7).setCell (g,8) b8) (some g):=Ar (Ar Yd _ _) _ _
end
def AN(m i e c s l q:Φ)(h n:Int):Φ:=.agg #[m,i,e,c,s,l,q,h,n]
def OH(w:Ω)(P:AR)(r:Ending)(H:Ω):Prop:=∃m i e c s l q,r=.returned (AN m i e c s l q P.FV P.U4)/\EI w H m i e c s l q P/\Γ w w H
variable{Z:List Φ}
theorem ZM{oC:List (List Int)}(h:IG lo v w k)(x0:v=.agg #[m,i,e,c])(o:Ay w H s Z oC):GH m s:=by obtain⟨m1,i1,e1,c1,rfl,⟨us,h1⟩,_⟩:=h;simp only[Value.agg.injEq,Array.mk.injEq,List.cons.injEq,and_true] at x0;obtain⟨rfl,_⟩:=x0;intro b N qh;have:=(yE h1.1 b N).2;have:=(yE o.1 b qh).1;omega
theorem Jd (mv iv ev cv sv lv qv:Φ)(P:AR)(w:Ω)(h:Kr w mv iv ev cv sv lv qv P)(hP:Dz P):
 Ξ prog 25 #[AN mv iv ev cv sv lv qv P.FV P.U4] w (OH w P):=by
 unfold AN;obtain⟨B0,B1,bB,ji⟩:=IR w (.cells #[mv,iv,ev,cv,sv,lv,qv,P.FV,P.U4] 32) (.cells #[ι,ι,ι,ι,ι,ι,ι,θ,θ] 32);have h':=h.below bB;have gP:=Wx hP;go_in;go_wp2_with fail;generalize(w.alloc _).alloc _=W0 at*;have C1:=AA (λW (hW:Γ W0 W0 W)=>Vb mv iv ev cv P.Ve W (h'.1.below hW) hP.k);have C2:=AA (λW (hW:Γ W0 W0 W)=>Sf sv P.swap W (h'.2.1.below hW) gP.1 gP.2);have C3:=AA (λW (hW:Γ W0 W0 W)=>JJ lv P.low W (h'.2.2.1.below hW) (by rw[hP.zD];omega));have C4:=AA (λW (hW:Γ W0 W0 W)=>Tb qv P.XY W (BN.below h'.2.2.2 hW) (by rw[hP.zY];omega));have gy:=AA B0;have jY:=AA B1;have gM:=AA bB;obtain⟨E,D,K,x3,x4,x5,x6,x7,x8⟩:=AC B0;have gt:w.heap.size<W0.heap.size:=ω;clear h h' gP B0 B1 bB x7 x8 hP;refine TY 13 mixed φ 20 rfl φ 2 5 φ ψ ψ (λV1 V2=>∀m i e c,V1=.agg #[m,i,e,c]->GH m V2) (λix vv ww=>match ix with
  |0|12=>vv=.pointer w
  |1=>vv=.agg #[mv,iv,ev,cv]
  |2=>IG W0 vv ww P.Ve
  |3=>vv=.pointer (some ⟨w,4,none⟩)
  |4=>vv=sv
  |5=>∃fm,Ay W0 ww vv fm P.swap
  |6=>vv=.pointer (some ⟨w,5,none⟩)
  |7=>vv=lv
  |8=>AE W0 ww vv P.low
  |9=>vv=.pointer (some ⟨w,6,none⟩)
  |10=>vv=qv
  |11=>AP W0.heap.size 87 3 Dc ww vv P.XY
  |_=>True) ?_ ?_ ?_ ?_
 .intro i hi vv wz fl bs hz
  match i,hi with
  |0,_|1,_|3,_|4,_|6,_|7,_|9,_|10,_=>exact hz
  |2,_=>exact(IG.below hz bs)
  |5,_=>exact(by obtain⟨fm,h'⟩:=hz;exact⟨fm,h'.below bs⟩)
  |8,_=>exact(AE.below hz bs)
  |11,_=>exact(AP.below hz bs)
  |12,_=>exact hz
 .intro i hi pY o Y a O V A J x2 z
  match i,hi,pY with
  |0,_,_=>exact dF Y rfl (gn rfl) z rfl bU (eb (OF V 1)) rfl
  |1,_,_=>exact dL Y rfl (gn rfl) z rfl (et (Bd A 0)) (Pi (bc J gt E) (bc J gt D) (bc J gt K) (bc J gt x3)) rfl
  |2,_,_=>obtain rfl:=yP Y;have d1:(a.tmps[4]?.getD Θ)=.agg #[mv,iv,ev,cv]:=Bd A 1;clear A V;refine yO ?_;go_simp;refine(C1 _ J).mono ?_;rintro r w_ ⟨m',i',e',c',rfl,hO,bf⟩;exact z _ _ ⟨m',i',e',c',rfl,hO.lower J.size⟩ bf
  |3,_,_=>exact dF Y rfl (gn rfl) z rfl ep (eb (OF V 1)) rfl
  |4,_,_=>exact dL Y rfl (gn rfl) z rfl (et (Bd A 3)) (GR (bc J gt x4)) rfl
  |5,_,hs=>exact absurd rfl hs
  |6,_,_=>exact dF Y rfl (gn rfl) z rfl eu (eb (OF V 1)) rfl
  |7,_,_=>exact dL Y rfl (gn rfl) z rfl (et (Bd A 6)) (K5 (bc J gt x5)) rfl
  |8,_,_=>obtain rfl:=yP Y;have d7:(a.tmps[10]?.getD Θ)=lv:=Bd A 7;clear A V;refine yO ?_;go_simp;refine(C3 _ J).mono ?_;rintro e w_ ⟨v',rfl,hO,bf⟩;exact z _ _ (BS hO J.size) bf
  |9,_,_=>exact dF Y rfl (gn rfl) z rfl ew (eb (OF V 1)) rfl
  |10,_,_=>exact dL Y rfl (gn rfl) z rfl (et (Bd A 9)) (dm (bc J gt x6)) rfl
  |11,_,_=>obtain rfl:=yP Y;have gW:(a.tmps[13]?.getD Θ)=qv:=Bd A 10;clear A V;refine yO ?_;go_simp;refine(C4 _ J).mono ?_;rintro e w_ ⟨v',rfl,hO,bf⟩;exact z _ _ (hO.lower J.size) bf
  |12,_,_=>exact dF Y rfl (gn rfl) z rfl bU (eb (OF V 1)) rfl
 .intro o Y a O V A J x2 z
  obtain rfl:=yP Y;have d4:(a.tmps[7]?.getD Θ)=sv:=Bd A 4;have d2:IG W0 (a.tmps[5]?.getD Θ) O P.Ve:=Bd A 2;clear A V;refine yO ?_;go_simp;refine(C2 _ J).mono ?_;rintro e w_ ⟨v',fm,rfl,hO,bf⟩;exact z _ _ ⟨fm,hO.lower J.size⟩ (λm i e c x0=>ZM d2 x0 hO) bf
 intro Z O hR hP J
 have q2:IG W0 (Z 2) O P.Ve:=Be hR 2;have q5:∃fm,Ay W0 O (Z 5) fm P.swap:=Be hR 5
 have q8:AE W0 O (Z 8) P.low:=Be hR 8;have f8:AP W0.heap.size 87 3 Dc O (Z 11) P.XY:=Be hR 11;have cN:(Z 12)=.pointer w:=Be hR 12;clear hR;simp only[Aj,Ae,yL,yI,yJ,yH,cN];simp;generalize Z 2=z2 at q2 hP ⊢;generalize Z 5=z5 at q5 hP ⊢;generalize Z 8=z8 at q8 ⊢;generalize Z 11=z11 at f8 ⊢;clear cN;obtain⟨m',i',e',c',rfl,k1⟩:=q2;obtain⟨fm,k2⟩:=q5;have iK:GH m' z5:=hP _ _ _ _ rfl;have wx:=(⟨k1,⟨fm,k2⟩,q8,f8,iK⟩:EI W0 O m' i' e' c' z5 z8 z11 P);obtain⟨⟨⟨ma,mn,mc,rfl⟩,⟨ia,iN,ic,rfl⟩,⟨ea,en,ec,rfl⟩,⟨qa,qn,qc,rfl⟩⟩,⟨sa,sn,sc,rfl⟩,⟨la,ln,lc,rfl⟩,⟨pa,pn,pc,rfl⟩⟩:=wx.Dq;have B0:=(J.block _ gt).trans gy.u;have B1:=(J.block (w.heap.size+1) ω).trans jY.u;obtain⟨oO,oN,oL,oJ,oH,oG,oF,oE,oD⟩:=AC B0;have f0:=AK B0;go_step;go_simp;have lB:=Aq O w (.slice ma mn mc) (.slice ia iN ic) (.slice ea en ec) (.slice qa qn qc);have kW:=KL (m':=.slice ma mn mc) (i':=.slice ia iN ic) (e':=.slice ea en ec) (c':=.slice qa qn qc) B0;have O1:=wx.yV lB B0;have na:=(lB.block (w.heap.size+1) (by have:=J.size;omega) (by intro e;have:=yP e;omega)).trans B1;have bw:=AM (gM.trans (J.mono gM.size)) lB (yF _) (yM gM.size J.size);clear wx lB B0 B1 J f0 oO oN oL oJ oH oG oF oE oD k1 k2 q8 f8 hP iK E D K x3 x4 x5 x6;generalize(((O.setCell _ _).setCell _ _).setCell _ _).setCell _ _=W1 at*;obtain⟨_,_,_,_,c4,c5,c6,_⟩:=AC kW;have f4:=AK kW;have S2:=cj (b4:=.slice sa sn sc) (b5:=.slice la ln lc) (b6:=.slice pa pn pc) kW;have h9:=Yc (w:=W1) (g:=w.heap.size) (b4:=.slice sa sn sc) (b5:=.slice la ln lc) (b6:=.slice pa pn pc);have O2:=O1.yV h9 kW;have lO:=(h9.block (w.heap.size+1) (AY na) (by intro e;have:=yP e;omega)).trans na;have nZ:=AM bw h9 (yF _) bw.size;obtain⟨y0,y1,y2,y3,y4,y5,y6,y7,y8⟩:=AC S2;obtain⟨u0,u1,u2,u3,u4,u5,u6,u7,u8⟩:=AC lO;have f1:=AK lO;have qU:=AA O2;have kU:=AA lO;have kP:=AA nZ;clear O1 kW na bw h9 S2 O2 lO nZ;go_wp2_with fail;clear y0 y1 y2 y3 y4 y5 y6 y7 y8 u0 u1 u2 u3 u4 u5 u6 u7 u8 f1 c4 c5 c6 f4;generalize((W1.setCell _ _).setCell _ _).setCell _ _=W2 at*;have mA:=Fz (w:=W2) (g:=w.heap.size+1) (b0:=.slice ma mn mc) (b1:=.slice ia iN ic) (b2:=.slice ea en ec) (b3:=.slice qa qn qc) (b4:=.slice sa sn sc) (b5:=.slice la ln lc) (b6:=.slice pa pn pc) (b7:=.int .i64 P.FV) (b8:=.int .i64 P.U4);have N3:=H6 (b0:=.slice ma mn mc) (b1:=.slice ia iN ic) (b2:=.slice ea en ec) (b3:=.slice qa qn qc) (b4:=.slice sa sn sc) (b5:=.slice la ln lc) (b6:=.slice pa pn pc) (b7:=.int .i64 P.FV) (b8:=.int .i64 P.U4) kU.u
 have O3:=(qU.yV mA kU).lower gM.size;have B3:=AM kP mA ω kP.size;unfold De at mA N3 O3 B3;exact yB (v:=.agg #[_,_,_,_,_,_,_,_,_]) (by simp[results,Tryz.results25,go_sem,AC N3]) rfl ⟨_,_,_,_,_,_,_,rfl,O3,B3⟩
theorem Dy.past{row:Option Nat}(h:Dy lo w m i e c k)(hg:w.grownBy H row)(hr:∀b,row=some b->b<lo):Dy lo H m i e c k:=by
 obtain⟨⟨Z,h1,L,h3⟩,h4,⟨ps,h5,h6,h7⟩,h8⟩:=h;exact⟨⟨Z,Bc h1 hg hr,L.mono λ_ _ x=>Bc x hg hr,h3⟩,Bc h4 hg hr,⟨ps,Bc h5 hg hr,h6.mono λ_ _ x=>⟨Bc x.1 hg hr,x.2⟩,h7⟩,Bc h8 hg hr⟩
theorem Vh (w:Ω)(s:ByteArray)(t:TypeId):BZ (w.alloc (.cells #[s] t)) (.slice w 1 1) [s]:=
 Rd.zM w #[.string s] t 1 1 _ rfl rfl ζ
theorem Y5 (w:Ω)(a b c:ByteArray)(t u:TypeId):
 Mm ((((w.alloc (.cells #[a] t)).alloc (.cells #[b] t)).alloc (.cells #[c] t)).alloc (.cells #[.slice w 1 1,.slice (some ⟨w.heap.size+1,0,none⟩) 1 1,.slice (some ⟨w.heap.size+1+1,0,none⟩) 1 1] u))
  (.slice (some ⟨w.heap.size+1+1+1,0,none⟩) 3 3) [[a],[b],[c]]:=by
 have h1:=Vh w a t;have L:=Vh (w.alloc (.cells #[a] t)) b t;have h3:=Vh ((w.alloc (.cells #[a] t)).alloc (.cells #[b] t)) c t;simp only[xt] at L h3;refine⟨[.slice w 1 1,.slice (some ⟨w.heap.size+1,0,none⟩) 1 1,.slice (some ⟨w.heap.size+1+1,0,none⟩) 1 1],?_,rfl,?_⟩
 .exact Rd.zM _ #[_,_,_] u 1 3 _ χ rfl ζ
 intro i x y hx hy
 match i,hx,hy with
 |0,hx,hy=>simp at hx hy;subst hx hy;exact((BN.below h1 (AG _ _)).below (AG _ _)).below (AG _ _)
 |1,hx,hy=>simp at hx hy;subst hx hy;exact(BN.below L (AG _ _)).below (AG _ _)
 |2,hx,hy=>simp at hx hy;subst hx hy;exact BN.below h3 (AG _ _)
def Mt:List (List ByteArray):=[[gA],[gB],[gC]]
theorem Nu:∀ts∈Mt,BY ts=true:=by
 intro ts h;simp only[Mt,List.mem_cons,List.not_mem_nil,or_false] at h
 rcases h with rfl|rfl|rfl<;>decide+kernel
theorem NZ:∀ts∈Mt,Db ts:=λts h=>Ez (Nu ts h)
theorem QN:Oh Mt=Eb 0:=φ
theorem Zt:(madeCells (Value.agg #[θ,θ,υ]).cells (16*3)).toList=Cb Dc (xZ 16 ⟨0,0,false⟩):=φ
def Ml(lo:Nat)(v:Φ)(w:Ω):Prop:=∃g,v=.pointer (some ⟨g,0,none⟩)/\lo<=g/\w.heap[g]?=some (.cells #[ι,ι,ι,ι,ι,ι,ι,θ,θ] 32 (0,0))
theorem Ml.below (h:Ml lo v w)(N:Γ w w H):Ml lo v H:=by obtain⟨g,h1,L,h3⟩:=h;exact⟨g,h1,L,AB h3 N⟩
theorem Mx{e sz:Nat}{xs:List Φ}(h:w.ownsRow lo e sz v n xs):∃a n c,v=.slice a n c:=by
 rcases h.2 with⟨rfl,_⟩|⟨g',cg,lE,rfl,_⟩
 .exact⟨_,_,_,rfl⟩
 exact⟨_,_,_,rfl⟩
def MO(k:Nat):List Int:=(yL k).map λj=>((j+1:Nat):Int)
theorem YG (k:Nat):MO (k+1)=MO k++[((k+1:Nat):Int)]:=by simp[MO,List.range_succ]
theorem UU (k:Nat):(MO k).length=k:=by simp[MO]
def gD(lo g:Nat)(w:Ω)(s l q:Φ)(P:AR)(k':AQ)(H:Ω):Prop:=
 (∃m i e c,Hj lo g H m i e c s l q {P with Ve:=k'}/\Dy w H m i e c k')/\Γ lo w H/\w.grownBy H (some g)
theorem LA{xs:List Int}(h:AE lo w v xs)(hj:j<xs.length):∃b cg,v=.slice (some ⟨b,0,none⟩) xs.length cg/\b<w.heap.size/\w.cell? ⟨b,j,none⟩=some (.int .i64 (xs.getD j 0)):=by
 have h0:=h;unfold AE at h0
 rcases h0.2 with⟨rfl,e⟩|⟨b,cg,lE,rfl,_,_,_⟩
 .omega
 refine⟨b,cg,rfl,(yE h0 b rfl).2,?_⟩
 have:=xN h0 j ω;rw[this];simp[yd,hj]
theorem Sn (h:Hj lo g w mv iv ev cv sv lv qv P)(ay:lo<=w.heap.size)(hK:Dg P.Ve)(iZ:P.low.length=4)(hn:n<16)(wd:Int)(hw:wd<=9223372036854775807):
 Ξ prog 137 #[.pointer g,.int .i64 n,.int .i64 wd] w (λr H=>r=.returned (.tuple #[])/\gD lo g w sv lv qv P (Ad P.Ve (JN P n wd)).1 H):=by
 obtain⟨a,ha⟩:∃a,a=n/4:=⟨_,rfl⟩
 obtain⟨b,N⟩:∃b,b=n%4:=⟨_,rfl⟩
 have e:Ad P.Ve (JN P n wd)=Ad P.Ve ⟨6,0,Bf P.low a,(b:Int),wd,⟨#[]⟩⟩:=by subst ha N;exact(MI ⟨ψ,ψ,ψ⟩)
 rw[e];have q1:(n:Int)/4=(a:Int):=ω;have q2:(n:Int)%4=(b:Int):=ω;have C:=J9 h ay hK ⟨6,0,Bf P.low a,(b:Int),wd,⟨#[]⟩⟩ (ψ:(0:Int)<=0) (ψ:(0:Int)<3) (yu _) hw;obtain⟨_,_,_,_,_,c5,_⟩:=h.cells;obtain⟨lb,lc,rfl,bt,x1⟩:=LA h.own.low (j:=a) ω;rw[iZ] at C c5;replace x1:w.cell? (lb,a)=some (.int .i64 (Bf P.low a)):=x1;have qi:(a:Int)<4:=ω;have Hn:=AA hn;generalize Bf P.low a=la at*;dsimp only at C;unfold ZK at C;clear h ha N e hn;go_in;go_wp2_with (refine C.mono ?_;rintro r w1 ⟨rfl,L⟩;have H2:=AA L;clear L C x1 c5);go_returns;exact⟨rfl,by rw[iZ];exact H2.u⟩
variable{l:List Bz}
theorem Xl{k:Nat}{x:Bz}(h:l[k]?=some x)(wh:Int):Al (l.take (k+1)) wh=Al (l.take k) wh+Eg (Pg wh x):=by rw[DQ h];unfold Al;rw[uj];simp[xE,Eg]
theorem Sj{ps:List Bz}(hq:w.cell? (g,6)=some qv)(hR:BN 3 Dc w qv ps)(hl:ps.length=16)(wh:Int):
 Ξ prog 55 #[.pointer g,.int .i64 wh] w (λr H=>r=.returned (.int .i64 (Al ps wh:Int))/\Γ w w H):=by
 obtain⟨a,c,rfl,_⟩:=hR.shape;have H0:=Uw.of Fy ψ hR;rw[hl] at hq;go_in;go_wp2_with fail;go_loopw [5,7,13] (λn _ ix wr=>∃k:Nat,k<=16/\ix=.int .i64 k/\n=.int .i64 (Al (ps.take k) wh:Int)/\Γ w w wr) (λ_ _ ix _=>16 - (intOf ix).toNat)
 exact⟨0,ω,rfl,rfl,yN _ _⟩
 obtain⟨k,hk,rfl,rfl,N⟩:=hrel
 by_cases bl:k<16
 .obtain⟨x,hx⟩:∃x,ps[k]?=some x:=⟨_,yG ω⟩
  obtain⟨b,cP,rfl,i7,hc⟩:=(H0.below N) k x hx;have D0:=hc 0 _ rfl;have D1:=hc 1 _ rfl;have D2:=hc 2 _ rfl;rw[xT] at D0;have Nx:=AA (Xl hx wh);have lm:Al (ps.take k) wh<=16:=by unfold Al;exact yM wC (by rw[yr];omega)
  generalize Al (ps.take k) wh=n at*;have pu:(k:Int)<16:=ω;obtain⟨xw,xa,xu⟩:=x;have bw:=AA (N.trans ((AG wr (.cells #[xw,xa,xu] 87)).mono N.size));clear hc hx H0 hR
  by_cases hw:xw=wh
  focus
   subst hw
   have t1:Eg (Pg xw ⟨xw,xa,xu⟩)=1:=by simp[Pg,Eg]
  rotate_left
  focus
   have t1:Eg (Pg wh ⟨xw,xa,xu⟩)=0:=by simp[Pg,Eg,hw]
   have t2:(xw==wh)=false:=by simp[hw]
   clear hw
  rotate_left
  all_goals
   go_wp2;go_roundw;exact⟨k+1,ω,ξ,by rw[Nx.u,t1];go_num,bw.u⟩;simp[intOf];omega
 obtain rfl:k=16:=ω;rw[xz ω];go_wp2;go_ret;exact⟨rfl,N⟩
theorem Vz (v:Φ)(r:List Int)(w:Ω)(h:A3 w v r):Ξ prog 242 #[v] w λe H=>e=.returned (.bool r.isEmpty)/\Γ w w H:=by obtain⟨a,c,rfl,_,_,_⟩:=h.open;have S:=AA (show((r.length:Int)==0)=r.isEmpty by cases r<;>simp<;>omega);go_in;go_wp2;go_ret;exact⟨AF S.u,yN _ _⟩
variable{ks r:List Int}
theorem XI{S:List (List Int)}(hs:Ay lo w sv Z S)(hl:S.length=16)(ay:lo<=w.heap.size)(hr:A3 w v r)(h4:r.length<=4)(hj:Bt S=(j:Int))(pW:j<16):
 Ξ prog 199 #[sv,v] w (λe H=>e=.returned (.int .i64 j)/\(∃fm,Ay lo H sv fm (S.set j r))/\Γ lo w H/\w.grownBy H sv.ownBlock):=by
 have fp:Z.length=16:=by rw[hs.2.1.1,hl]
 have C:=Kc 242 #[] vl sv S w hs.rd (λ_ _=>φ) (λu r _ W _ hr=>Vz u r W hr);rw[show GN vl S=(j:Int) from hj] at C;obtain⟨gs,cg,rfl,c1,c2,q1,q2,bu⟩:=hs.1.zW ω;rw[fp] at hs C ⊢;have r7:¬(j:Int)<0:=ω;have pX:(j:Int)<16:=ω;go_in;go_wp2_with fail;refine C.mono ?_;rintro e w1 ⟨rfl,b1⟩;go_wp2_with fail;refine(JJ v r w1 (hr.below b1) ω).mono ?_;rintro e w2 ⟨v',rfl,hO,b2⟩;have bb:=b1.trans (b2.mono b1.size);have HL:=hs.set (B:=w1.heap.size) (j:=j) bb hO b1.size ay fp.symm ω;have g1:w2.ownsRow lo 29 1 (.slice gs 16 cg) 16 Z:=by have:=(hs.below bb).1;unfold AP at this;rwa [IM,fp] at this
 have C1:=xN g1 j ω;rw[yG ω] at C1;have F1:=xV g1 j;have B1:=AA (AM (bb.mono ay) HL.2 (yE hs.1 gs rfl).1 (yM ay bb.size));have G1:=AA (AO (⟨bb.os,bb.tape,bb.output,bb.size,λk hk _=>bb.block k hk⟩:w.grownBy w2 (some gs)) HL.2);have R1:=AA HL.1;have tt:(16:Int)<=cg:=ω;obtain⟨ra,rn,rc,rfl⟩:=Mx hO;clear C hO HL g1 b1 b2 bb bu;go_wp2;go_ret;exact⟨rfl,⟨_,R1.u⟩,B1.u,G1.u⟩
variable{ZJ xs:List AW}
theorem YJ (hk:U0 (JK ZJ f)):Gd ZJ f=(decide ((JK ZJ f).g=gA)&&decide ((JK ZJ f).r=1)&&decide ((JK ZJ f).k≠0)):=by
 unfold Gd
 by_cases h:(JK ZJ f).g=gA
 .have:(JK ZJ f).k≠0:=λe=>by
   rcases hk with⟨_,g⟩|⟨a,_⟩
   .rw[h] at g;cases g
   omega
  simp[this]
 simp[h]
theorem Nr (hi:w.cell? (g,1)=some iv)(hR:BN 3 Au w iv ZJ)(hl:ZJ.length=12){f:Nat}(hf:f<12)(hk:U0 (JK ZJ f)):
 Ξ prog 107 #[.pointer g,.int .i64 f] w (λr H=>r=.returned (.bool (Gd ZJ f))/\Γ w w H):=by
 have x0:=AA (YJ hk);obtain⟨a,c,rfl,i6,iJ⟩:=hR.shape;have H0:=Uw.of Az ψ hR;have hx:ZJ[f]?=some (JK ZJ f):=Cj ω;obtain⟨b,cP,rfl,i7,hc⟩:=H0 f _ hx;have D0:=hc 0 _ rfl;have D1:=hc 1 _ rfl;have D2:=hc 2 _ rfl;rw[xT] at D0;rw[hl] at hi;have mj:(f:Int)<12:=ω;generalize JK ZJ f=x at*;obtain⟨k,gd,r⟩:=x;dsimp only at D0 D1 D2 x0;clear hc H0 hR hx hk hl;have eg:gd=gA↔gd.toList=[97]:=⟨λh=>by subst h;rw[xI];rfl,λh=>by rw[xI] at h;cases gd with|mk d=>cases d with|mk l=>simp at h;subst h;rfl⟩
 by_cases hg:gd.toList=[97]
 .have t1:(gd.toList==[97])=true:=by simp[hg]
  by_cases hr:r=1
  .subst hr
   have t3:(k !=0)=decide (k≠0):=by by_cases h:k=0<;>simp[h]
   have E2:=AA (show Gd ZJ f=(k !=0) by rw[x0.u,t3];simp[eg.2 hg]);clear hg eg x0 t3;go_in;go_wp2;go_ret;exact⟨AF E2.symm,AG _ _⟩
  have t2:(r==1)=false:=by simp[hr]
  have E2:=AA (show Gd ZJ f=false by rw[x0.u];simp[hr]);clear hg eg x0 hr;go_in;go_wp2;go_ret;exact⟨AF E2.symm,AG _ _⟩
 have t1:(gd.toList==[97])=false:=by simp[hg]
 have E2:=AA (show Gd ZJ f=false by rw[x0.u];simp[eg,hg]);clear hg eg x0;go_in;go_wp2;go_ret;exact⟨AF E2.symm,AG _ _⟩
theorem aD (hB:w.heap[g]?=some (.cells #[mv,iv,ev,cv,sv,lv,qv,P.FV,P.U4] 32 (0,0)))(h:Kr w mv iv ev cv sv lv qv P)(hm:P.Ve.mem.length=12)(hr:∀f,f<12->(AJ P.Ve.mem f).length=4)(iZ:P.low.length=4)(hn:n<16)(ay:0<=Bf P.low (n/4)/\Bf P.low (n/4)<=11):
 Ξ prog 112 #[.pointer g,.int .i64 n] w (λr H=>r=.returned (.int .i64 (Ce P n))/\Γ w w H):=by
 unfold Ce Aw;obtain⟨ja,ha⟩:∃ja,ja=n/4:=⟨_,rfl⟩
 obtain⟨jb,N⟩:∃jb,jb=n%4:=⟨_,rfl⟩
 rw[<-ha] at ay ⊢;rw[<-N];have q1:(n:Int)/4=(ja:Int):=ω;have q2:(n:Int)%4=(jb:Int):=ω;have rx:(n:Int).tmod 4=(jb:Int):=by rw[Int.tmod_eq_emod_of_nonneg ω];exact q2
 have fs:jb<4:=ω;have qi:ja<4:=ω;obtain⟨E,_,_,_,_,x5,_⟩:=AC hB;have hg:=AY hB;obtain⟨al,lc,rfl,_,_,R⟩:=h.2.2.1.open;obtain⟨lb,j3,rfl,DL⟩:=R.at (k:=ja) ω;have bt:=yK w _ DL;replace DL:w.cell? (lb,j3+ja)=some (.int .i64 (Bf P.low ja)):=DL;obtain⟨f,hf⟩:∃f:Nat,Bf P.low ja=(f:Int):=⟨(Bf P.low ja).toNat,ω⟩
 rw[hf] at DL ay ⊢;have gj:f<12:=ω;obtain⟨Z,o1,o2⟩:=h.1.1;have fp:Z.length=12:=by rw[o2.1,hm]
 obtain⟨am,cm,rfl,mq,_,HM⟩:=BN.open Ej ψ o1;obtain⟨u,hu⟩:∃u,Z[f]?=some u:=⟨_,yG ω⟩
 have g5:=o2.2 f u (AJ P.Ve.mem f) hu (by unfold AJ;exact A9 ω);obtain⟨gm,lS,rfl,gu,kV⟩:=HM f u hu;have DR:=kV 0 _ rfl;obtain⟨ar,rc,rfl,_,_,kR⟩:=g5.open;obtain⟨rb,k9,rfl,DW⟩:=kR.at (k:=jb) (by rw[hr f gj];exact fs);have pD:=yK w _ DW;rw[wX,xT,hr f gj] at DR;rw[fp] at E;rw[iZ] at x5;rw[show((f:Int)).toNat=f from rfl];have mj:(f:Int)<12:=ω;have sx:(ja:Int)<4:=ω;have sw:(jb:Int)<4:=ω;unfold nth at DW;generalize(AJ P.Ve.mem f).getD jb 0=wd at DW ⊢;clear h hm hr iZ ay hf o1 o2 g5 hu fp mq ha N R HM kR kV hB;go_in;go_wp2_with fail;refine Ac 19 24 [.p g 0,.p g 0,.p g 0,.p g 0,.v (.slice (some ⟨gm,lS,none⟩) 12 cm),.p g 0,.p g 0,.p g 5,.v (.slice (some ⟨lb,j3,none⟩) 4 lc),.i ((n:Int)),.i ((ja:Int)),.p lb (j3+ja),.i ((f:Int)),.p gm (lS+f),.v (.slice (some ⟨rb,k9,none⟩) 4 rc),.i ((n:Int)),.i ((jb:Int)),.p rb (k9+jb),.i wd] (λ_ _ _=>True) ?_ ?_
 .intro i hi o Y a O V A J x2 z
  have bA:=bc J hg x5;have cC:=bc J bt DL;have cz:=bc J gu DR;have cy:=bc J pD DW
  match i,hi with
  |0,_|1,_|2,_|3,_|5,_|6,_|7,_|9,_|15,_=>exact sP Y z V A
  |4,_=>exact sL Y z V A (hl:=GR (bc J hg E))
  |8,_|14,_=>exact sL Y z V A (hl:=K5 ‹_›)
  |11,_|13,_|17,_=>exact sI Y z V A (hr:=by clear A V z;go_simp)
  |12,_|18,_=>exact sL Y z V A (hl:=F7 ‹_›)
  |10,_=>clear bA cC cz cy;obtain rfl:=yP Y;have d9:(a.tmps[14]?.getD Θ)=.int .i64 n:=Bd A 9;clear A V;refine yO ?_;go_simp;exact z _ _ (by show yl .i64 (wU.wrap _)=_;rw[xA _ ω]) (yN _ _)
  |16,_=>clear bA cC cz cy;obtain rfl:=yP Y;have tb:(a.tmps[20]?.getD Θ)=.int .i64 n:=Bd A 15;clear A V;refine yO ?_;go_simp;exact z _ _ rfl (yN _ _)
  |_+19,hq=>omega
 intro Z O hR J
 have nn:(Z 18)=.int .i64 wd:=Be hR 18;clear hR;simp only[Aj,Ae,yL,yI,yJ,yH,nn];simp;clear nn;go_wp2;go_ret;exact⟨rfl,J⟩
theorem PX{p:Nat->Bool}{k:Nat}(hk:k<n)(h:p k=false):(yL n).all p=false:=wZ.2 ⟨k,yh.2 hk,by simp[h]⟩
theorem Ox (hB:w.heap[g]?=some (.cells #[mv,iv,ev,cv,sv,lv,qv,P.FV,P.U4] 32 (0,0)))(h:Kr w mv iv ev cv sv lv qv P)(hK:Dg P.Ve):
 Ξ prog 51 #[.pointer g] w (λr H=>r=.returned (.bool (Ch P))/\Γ w w H):=by
 have T:Ch P=(decide (0<=Ab P.Ve 0)&&decide (P.low.length=4)&&Gd P.Ve.ZJ (Ab P.Ve 0).toNat&&(yL 4).all (GT P)):=rfl;have h2:∀i,GT P i=(Bo (Bf P.low i) 0 11&&decide (Aw P.Ve.mem (Ab P.Ve 0).toNat i=Ii (Bf P.low i))&&Gd P.Ve.ZJ (Bf P.low i).toNat):=λi=>rfl
 obtain⟨E,D,K,_,_,x5,_⟩:=AC hB;obtain⟨ps,lk,jL⟩:=h.1.2.2.1;have gT:ps.length=3:=by rw[jL.1,hK.zX]
 obtain⟨ae,ce,rfl,_,_,HE⟩:=BN.open GU ψ lk;obtain⟨p0,hp0⟩:∃p,ps[0]?=some p:=⟨_,yG ω⟩
 obtain⟨ge,ql,rfl,_,ju⟩:=HE 0 p0 hp0;have DE:=ju 1 _ rfl;rw[show p0.2=Ab P.Ve 0 from(jL.2 0 p0 (AI P.Ve.XX 0) hp0 (by unfold AI;exact A9 (by rw[hK.zX];omega))).2,Nat.zero_mul,xT] at DE;rw[gT] at K;obtain⟨al,lc,rfl,pQ,lh,R⟩:=h.2.2.1.open;unfold maxLen at lh;have kH:=h.1.2.1;have ky:=hK.len;have kG:=AA hK.inf
 rcases hK.roots 0 ω with hr|⟨hr0,hr1,hr2⟩
 .have S:=AA (show Ch P=false by rw[T,hr];rfl)
  rw[hr] at DE;clear T h2 hr kH kG ky R h hB hK;go_in;go_wp2;go_ret;exact⟨AF S.symm,yN _ _⟩
 obtain⟨rn,hrn⟩:∃n:Nat,Ab P.Ve 0=(n:Int):=⟨(Ab P.Ve 0).toNat,ω⟩
 have lY:rn<12:=ω;simp only[hrn,yq] at T h2;rw[hrn] at DE;have nr:¬(rn:Int)<0:=ω;by_cases jJ:P.low.length=4
 .have CR:=AA (λW (hW:Γ w w W)=>Nr (w:=W) (f:=rn) ((hW.cell (yK w _ D)).trans D) (BN.below kH hW) ky lY (kG rn lY))
  obtain⟨Z,o1,o2⟩:=h.1.1;have fp:Z.length=12:=by rw[o2.1];exact(Ak.1 hK.mem).1
  obtain⟨am,cm,rfl,_,_,HM⟩:=BN.open Ej ψ o1;obtain⟨u,hu⟩:∃u,Z[rn]?=some u:=⟨_,yG ω⟩
  have g5:=o2.2 rn u (AJ P.Ve.mem rn) hu (by unfold AJ;exact A9 (by rw[<-o2.1];omega));have iT:(AJ P.Ve.mem rn).length=4:=(BG.1 ((Ak.1 hK.mem).2 rn lY)).1;obtain⟨gm,lS,rfl,_,kV⟩:=HM rn u hu;have DR:=kV 0 _ rfl;obtain⟨ar,rc,rfl,_,_,kR⟩:=g5.open;rw[wX,xT,iT] at DR;rw[fp] at E;rw[jJ] at x5;have HF:=AA (yj E (yj D (yj x5 DR)));have lK:=AA (yj kR (yj iT (yj R jJ)));have rF:(0:Int)<=(rn:Int):=ω;have T2:=AA (show Ch P=(Gd P.Ve.ZJ rn&&(yL 4).all (GT P)) by rw[T];simp[jJ]);have qV:=AA h2;have CI:=AA (λ(f:Nat)(hf:f<12) W (hW:Γ w w W)=>Nr (w:=W) (f:=f) ((hW.cell (yK w _ HF.2.1)).trans HF.2.1) (BN.below kH hW) ky hf (kG f hf));clear T h2 hr0 hr1 hr2 hrn kH kG ky R h hB hK o1 o2 g5 hu fp HM kV kR iT pQ DR jJ D;cases hm:Gd P.Ve.ZJ rn
  .rw[hm] at CR T2
   go_in;go_wp2_with (refine(CR _ (yN _ _)).mono ?_;rintro r w1 ⟨rfl,b1⟩);go_ret;exact⟨AF T2.symm,b1⟩
  rw[hm] at CR T2
  go_in;go_wp2_with fail;refine(CR _ (yN _ _)).mono ?_;rintro r w1 ⟨rfl,b1⟩;replace x5:=(b1.cell (yK w _ x5)).trans x5;have qO:=AA b1;clear E K DE b1;go_wp2_with fail;clear x5;go_loopw [4,5,6,7,37] (λ_ _ _ _ ix wr=>∃k:Nat,k<=4/\ix=.int .i64 k/\(∀j,j<k->GT P j=true)/\Γ w w wr) (λ_ _ _ _ ix _=>4 - (intOf ix).toNat)
  exact⟨0,ω,rfl,λj hj=>ω,qO.u⟩
  obtain⟨k,hk,rfl,az,N⟩:=hrel
  by_cases bl:k<4
  .have k4:(k:Int)<4:=ω
   obtain⟨lb,j3,rfl,DL⟩:=lK.2.2.1.at (k:=k) (by rw[lK.2.2.2];exact bl);obtain⟨rb,k9,rfl,DW⟩:=lK.1.at (k:=k) (by rw[lK.2.1];exact bl);replace DL:=(N.cell (yK w _ DL)).trans DL;replace DW:=(N.cell (yK w _ DW)).trans DW;have E:=(N.cell (yK w _ HF.1)).trans HF.1;have DR:=(N.cell (yK w _ HF.2.2.2)).trans HF.2.2.2;have cF:=AA az;have V:=AA N;have LK:=qV k;replace DL:wr.cell? (lb,j3+k)=some (.int .i64 (Bf P.low k)):=DL;replace DW:wr.cell? (rb,k9+k)=some (.int .i64 (Aw P.Ve.mem rn k)):=DW;generalize Bf P.low k=v at DL LK;generalize Aw P.Ve.mem rn k=wd at DW LK;clear az N;cases bY:Bo v 0 11
   .have S:=AA (show Ch P=false by rw[T2.u,PX bl (by rw[LK,bY];rfl)];rfl)
    clear LK;go_wp2_with (refine(Py v true _ bY).mono ?_;rintro r w3 ⟨rfl,rfl⟩);go_ret;exact⟨AF S.symm,V.u⟩
   have hv:=Aa.1 bY
   obtain⟨f,rfl⟩:∃f:Nat,v=(f:Int):=⟨v.toNat,ω⟩
   have hf:f<12:=ω;have CF:=AA (CI f hf wr V.u);rw[bY,yq] at LK;go_wp2_with fail;refine(Jv (f:Int) _ hv.1 hv.2).mono ?_;rintro r w3 ⟨rfl,rfl⟩
   by_cases he:wd=Ii (f:Int)
   .have t1:(wd !=Ii (f:Int))=false:=by simp[he]
    have lH:GT P k=Gd P.Ve.ZJ f:=by rw[LK];simp[he]
    generalize Ii (f:Int)=en at t1;clear LK he bY;go_wp2_with fail;refine CF.mono ?_;rintro r w4 ⟨rfl,b4⟩;have om:=AA (V.trans (b4.mono V.size));cases nB:Gd P.Ve.ZJ f
    .have S:=AA (show Ch P=false by rw[T2.u,PX bl (by rw[lH,nB])];rfl)
     clear lH b4;go_wp2;go_ret;exact⟨AF S.symm,om.u⟩
    have qy:=AA (lH.trans nB)
    clear lH b4;go_wp2;go_roundw
    case rel=>exact⟨k+1,ω,ξ,λj hj=>by
     rcases xK.1 hj with x|x
     .exact cF j x
     subst x;exact qy.u,om.u⟩
    case measure=>simp[intOf];omega
   have t1:(wd !=Ii (f:Int))=true:=by simp[he]
   have S:=AA (show Ch P=false by rw[T2.u,PX bl (by rw[LK];simp[he])];rfl);generalize Ii (f:Int)=en at t1;clear LK he bY;go_wp2;go_ret;exact⟨AF S.symm,V.u⟩
  obtain rfl:k=4:=ω;have S:=AA (show Ch P=true by rw[T2.u,wv];exact ym.2 λj hj=>az j (yh.1 hj));clear az;rw[show((4:Nat):Int)=4 from rfl];go_wp2;go_ret;exact⟨AF S.symm,N⟩
 have S:=AA (show Ch P=false by rw[T];simp[jJ])
 have t4:((P.low.length:Int) !=4)=true:=η;clear T h2 hr0 hr1 hr2 hrn kH kG ky R h hB hK jJ;go_in;go_wp2;go_ret;exact⟨AF S.symm,yN _ _⟩
def FQ(P:AR)(n:Nat):Bool:=
 if(AD P.XY n).w=0 then decide ((AD P.XY n).a=0)&&!(AD P.XY n).u&&decide (Ce P n=0)
 else if(AD P.XY n).w=1 then Bo (AD P.XY n).a 0 11&&decide (Ce P n=Ii (AD P.XY n).a)&&Gd P.Ve.ZJ (AD P.XY n).a.toNat
 else if(AD P.XY n).w=2 then Bo (AD P.XY n).a 0 15&&!(AD P.XY n).u&&decide (Ce P n=0)
 else false
def Gq(ks:List Int)(x:Bz):List Int:=if x.w=2 then ks.set x.a.toNat (nth ks x.a.toNat+1) else ks
def J5(lo:Nat)(v:Φ)(w:Ω):Prop:=∃q,v=.pointer (some ⟨q,0,none⟩)/\lo<=q/\w.heap[q]?=some (.cells #[θ,θ,υ] 87 (0,0))
theorem J5.below (h:J5 lo v w)(N:Γ w w H):J5 lo v H:=by obtain⟨q,h1,L,h3⟩:=h;exact⟨q,h1,L,AB h3 N⟩
def U1(lo:Nat)(w:Ω)(kv:Φ)(ks:List Int)(b:Bool)(r:Ending)(H:Ω):Prop:=r=.returned (.bool b)/\AE lo H kv ks/\w.grownBy H kv.ownBlock/\Γ lo w H
theorem YO{kv:Φ}(hB:w.heap[g]?=some (.cells #[mv,iv,ev,cv,sv,lv,qv,P.FV,P.U4] 32 (0,0)))(h:Kr w mv iv ev cv sv lv qv P)(hK:Dg P.Ve)(iZ:P.low.length=4)(ay:∀i,i<4->0<=Bf P.low i/\Bf P.low i<=11)(gT:P.XY.length=16)
 (hk:AE lo w kv ks)(jo:ks.length=16)(pS:∀j,j<16->0<=nth ks j/\nth ks j<=1000)(ip:lo<=w.heap.size)(hn:n<16):
 Ξ prog 53 #[.pointer g,.int .i64 n,kv] w (λr H=>∃jG,U1 lo w kv jG (FQ P n) r H/\(FQ P n=true->jG=Gq ks (AD P.XY n))):=by
 have CW:=AA (λW (hW:Γ w w W)=>aD (w:=W) (AB hB hW) (h.below hW) (Ak.1 hK.mem).1 (λf hf=>(BG.1 ((Ak.1 hK.mem).2 f hf)).1) iZ hn (ay (n/4) ω));have x6:=(AC hB).2.2.2.2.2.2.1;have D:=(AC hB).2.1;have CM:=AA (λ(f:Nat)(hf:f<12) W (hW:Γ w w W)=>Nr (w:=W) (f:=f) ((hW.cell (yK w _ D)).trans D) (BN.below h.1.2.1 hW) hK.len hf (hK.inf f hf));obtain⟨aq,qc,rfl,gp,cr,HQ⟩:=BN.open Fy ψ h.2.2.2;rw[gT] at x6 gp;obtain⟨qb,nh,rfl,l0,hc⟩:=HQ n _ (show P.XY[n]?=some (AD P.XY n) from A9 ω);have D0:=hc 0 _ rfl;have D1:=hc 1 _ rfl;have D2:=hc 2 _ rfl;rw[xT] at D0;have hg:=AY hB;have PH:FQ P n=(if(AD P.XY n).w=0 then decide ((AD P.XY n).a=0)&&!(AD P.XY n).u&&decide (Ce P n=0) else if(AD P.XY n).w=1 then Bo (AD P.XY n).a 0 11&&decide (Ce P n=Ii (AD P.XY n).a)&&Gd P.Ve.ZJ (AD P.XY n).a.toNat else if(AD P.XY n).w=2 then Bo (AD P.XY n).a 0 15&&!(AD P.XY n).u&&decide (Ce P n=0) else false):=rfl;generalize FQ P n=res at PH ⊢;generalize Ce P n=tw at PH CW;generalize AD P.XY n=x at PH D0 D1 D2 ⊢;obtain⟨xw,xa,xu⟩:=x;dsimp only at PH D0 D1 D2;have rH:(n:Int)<16:=ω;have iw:=AA PH;have ou:=AA hk;clear PH hc HQ h hB hK iZ ay gT D gp cr hk;obtain⟨ka,kn,kc,rfl⟩:=Mx ou.u;go_in;go_wp2_with fail;refine BD 11 78 [.p g 0,.p g 0,.p g 6,.v (.slice (some ⟨qb,nh,none⟩) 16 qc),.i ((n:Int)),.p qb (nh+n*3),.a #[.int .i64 xw,.int .i64 xa,.bool xu],.p g 0,.i ((n:Int)),.i tw,.z] (λix vv ww=>match ix with
  |10=>J5 w vv ww
  |_=>True) ?_ ?_ ?_
 .intro i hi o Y a O V A J x2 z
  match i,hi with
  |0,_|1,_|2,_|4,_|7,_|8,_=>exact sP Y z V A
  |3,_=>exact sL Y z V A (hl:=dm (bc J hg x6))
  |5,_=>exact sI Y z V A (hr:=by clear A V z;go_simp)
  |6,_=>exact sL Y z V A (hl:=gF (bc J l0 D0) (bc J l0 D1) (bc J l0 D2))
  |9,_=>exact sD Y z V A (CW _ J)
  |10,_=>obtain rfl:=yP Y;clear A V;refine yO ?_;go_simp;exact z _ _ ⟨_,rfl,J.size,yy _ _⟩ (AG _ _)
 .intro i hi vv wz fl bs hz
  match i,hi with
  |10,_=>exact(J5.below hz bs)
  |0,_|1,_|2,_|3,_|4,_|5,_|6,_|7,_|8,_|9,_=>exact hz
 intro Z O hR J
 have q6:(Z 6)=.agg #[xw,xa,xu]:=Be hR 6;have q9:(Z 9)=.int .i64 tw:=Be hR 9;have dr:J5 w (Z 10) O:=Be hR 10;clear hR;simp only[Aj,Ae,yL,yI,yJ,yH,q6,q9];simp;generalize Z 10=z10 at dr ⊢;clear q6 q9;obtain⟨q,rfl,lZ,fv⟩:=dr;have c0:=yx _ _ 0 _ _ _ fv;have jA:=yx _ _ 1 _ _ _ fv;have c2:=yx _ _ 2 _ _ _ fv;have fq:=AK fv;have Pl:=Pq (W:=w) (a:=.int .i64 xw) (b:=.int .i64 xa) (c:=.bool xu) fv J lZ;go_step;go_simp;clear c0 jA c2 fq fv J D0 D1 D2 x6;generalize((O.setCell _ _).setCell _ _).setCell _ _=W1 at*;have y0:=yx _ _ 0 _ _ _ Pl.1;have y1:=yx _ _ 1 _ _ _ Pl.1;have y2:=yx _ _ 2 _ _ _ Pl.1;have br:=AA Pl.2;have lN:=AA (show AE lo W1 (.slice ka kn kc) ks from ou.below Pl.2);have NO:=AA (λ(W:Ω)(hW:Γ W1 W1 W)(b:Bool)(N:res=b)(pz:xw≠2∨b=false)=>(⟨ks,⟨by rw[N],lN.below hW,⟨(br.trans (hW.mono br.size)).os,(br.trans (hW.mono br.size)).tape,(br.trans (hW.mono br.size)).output,(br.trans (hW.mono br.size)).size,λk hk _=>(br.trans (hW.mono br.size)).block k hk⟩,(br.trans (hW.mono br.size)).mono ip⟩,λht=>by
  rcases pz with x|x
  .unfold Gq;rw[if_neg x]
  rw[N,x] at ht;cases ht⟩:∃jG,U1 lo w (.slice ka kn kc) jG res (.returned (.bool b)) W/\(res=true->jG=Gq ks ⟨xw,xa,xu⟩)))
 clear Pl
 by_cases h0:xw=0
 .subst h0
  by_cases ha:xa=0
  .have t1:(xa==0)=true:=by simp[ha]
   cases xu
   .have HL:=AA (show res=(tw==0) by rw[iw.u];simp[ha];by_cases h:tw=0<;>simp[h])
    clear ha;go_wp2;go_ret;exact NO _ (yN _ _) _ HL (.inl ψ)
   have HL:=AA (show res=false by rw[iw.u];simp)
   clear ha;go_wp2;go_ret;exact NO _ (yN _ _) _ HL (.inl ψ)
  have t1:(xa==0)=false:=by simp[ha]
  have HL:=AA (show res=false by rw[iw.u];simp[ha]);clear ha;go_wp2;go_ret;exact NO _ (yN _ _) _ HL (.inl ψ)
 have n0:(xw==0)=false:=by simp[h0]
 by_cases h1:xw=1
 .subst h1
  cases bY:Bo xa 0 11
  .have HL:=AA (show res=false by rw[iw.u,bY];rfl)
   go_wp2_with (refine(Py xa true _ bY).mono ?_;rintro r w3 ⟨rfl,rfl⟩);go_ret;exact NO _ (yN _ _) _ HL (.inl ψ)
  have hv:=Aa.1 bY
  obtain⟨f,rfl⟩:∃f:Nat,xa=(f:Int):=⟨xa.toNat,ω⟩
  have hf:f<12:=ω;have CF:=AA (CM f hf W1 br.u);have R0:res=(decide (tw=Ii (f:Int))&&Gd P.Ve.ZJ f):=by rw[iw.u,bY];simp
  go_wp2_with fail;refine(Jv (f:Int) _ hv.1 hv.2).mono ?_;rintro r w3 ⟨rfl,rfl⟩
  by_cases he:tw=Ii (f:Int)
  .have HL:=AA (show res=Gd P.Ve.ZJ f by rw[R0];simp[he])
   have t1:(tw==Ii (f:Int))=true:=by simp[he]
   generalize Ii (f:Int)=en at t1;clear R0 he bY;go_wp2_with (refine CF.mono ?_;rintro r w4 ⟨rfl,b4⟩;have jW:=AA b4;clear b4);go_ret;exact NO _ jW _ HL (.inl ψ)
  have HL:=AA (show res=false by rw[R0];simp[he])
  have t1:(tw==Ii (f:Int))=false:=by simp[he]
  generalize Ii (f:Int)=en at t1;clear R0 he bY;go_wp2;go_ret;exact NO _ (yN _ _) _ HL (.inl ψ)
 have n1:(xw==1)=false:=by simp[h1]
 by_cases L:xw=2
 .subst L
  cases bY:Bo xa 0 15
  .have HL:=AA (show res=false by rw[iw.u,bY];rfl)
   go_wp2_with (refine(EU _ _ _ _).mono ?_;rintro r w3 ⟨rfl,rfl⟩;rw[bY]);go_ret;exact NO _ (yN _ _) _ HL (.inr rfl)
  have hv:=Aa.1 bY
  obtain⟨sl,rfl⟩:∃sl:Nat,xa=(sl:Int):=⟨xa.toNat,ω⟩
  have io:sl<16:=ω;have pC:(sl:Int)<16:=ω;cases xu
  .by_cases ht:tw=0
   .have t1:(tw !=0)=false:=by simp[ht]
    have HL:=AA (show res=true by rw[iw.u,bY];simp[ht]);have N:=pS sl io;obtain⟨kb,pt,ek,r6,KC⟩:=LA lN (j:=sl) ω;cases ek;rw[jo] at lN ⊢;replace KC:W1.cell? (kb,sl)=some (.int .i64 (nth ks sl)):=KC;have gz:W1.ownsRow lo 3 1 (.slice kb 16 kc) 16 (ks.map (yl .i64)):=by have:=lN.u;unfold AE at this;rwa [jo] at this
    have FK:=xV gz sl;obtain⟨s1,s2⟩:=World.ownsRow.stored gz sl (.int .i64 (nth ks sl+1));have pP:=(yE gz kb rfl).1;have n7:=AA (show U1 lo w (.slice kb 16 kc) (Gq ks ⟨2,(sl:Int),false⟩) true (.returned (.bool true)) (W1.setCell (kb,sl) (.int .i64 (nth ks sl+1))) from
     ⟨rfl,by
      show AE _ _ _ (ks.set sl (nth ks sl+1))
      unfold AE;rw[yi,List.map_set,jo];exact s1,AO ⟨br.os,br.tape,br.output,br.size,λk hk _=>br.block k hk⟩ s2,AM (br.mono ip) s2 pP (yM ip br.size)⟩)
    generalize nth ks sl=old at KC N n7;clear ht bY s1 s2 gz;go_wp2_with (refine(EU _ _ _ _).mono ?_;rintro r w3 ⟨rfl,rfl⟩;rw[show Bo (sl:Int) 0 15=true from Aa.2 hv]);go_ret;exact⟨_,by rw[HL.u,jo];exact n7.u,λ_=>rfl⟩
   have t1:(tw !=0)=true:=by simp[ht]
   have HL:=AA (show res=false by rw[iw.u,bY];simp[ht]);clear ht;go_wp2_with (refine(EU _ _ _ _).mono ?_;rintro r w3 ⟨rfl,rfl⟩;rw[bY]);go_ret;exact NO _ (yN _ _) _ HL (.inr rfl)
  have HL:=AA (show res=false by rw[iw.u,bY];simp)
  go_wp2_with (refine(EU _ _ _ _).mono ?_;rintro r w3 ⟨rfl,rfl⟩;rw[bY]);go_ret;exact NO _ (yN _ _) _ HL (.inr rfl)
 have n2:(xw==2)=false:=by simp[L]
 have HL:=AA (show res=false by rw[iw.u];simp[h0,h1,L]);clear h0 h1 L;go_wp2;go_ret;exact NO _ (yN _ _) _ HL (.inr rfl)
theorem UA (v1 v2:Φ)(xs:List ByteArray)(w:Ω)(h1:BZ w v1 xs)(L:BZ w v2 xs):
 Ξ prog 134 #[v1,v2] w λe H=>e=.returned (.bool true)/\∃n,H=w.drewN n:=by
 obtain⟨a1,c1,rfl,i6,er,H1⟩:=BN.open Fj ψ h1;obtain⟨a2,c2,rfl,iJ,el,H2⟩:=BN.open Fj ψ L;unfold maxLen at er el;clear h1 L;have N:((xs.length:Int) !=xs.length)=false:=χ;go_in;go_wp2_with fail;go_loopw [5] (λi wr=>∃k:Nat,k<=xs.length/\i=.int .i64 k/\∃n,wr=w.drewN n) (λi _=>xs.length - (intOf i).toNat)
 exact⟨0,yu _,rfl,0,rfl⟩
 obtain⟨k,hk,rfl,n,rfl⟩:=hrel
 by_cases bl:k<xs.length
 .have cp:(k:Int)<(xs.length:Int):=ω
  obtain⟨b1,o1,rfl,D1⟩:=H1.str bl;obtain⟨b2,o2,rfl,D2⟩:=H2.str bl;clear H1 H2;go_wp2_with fail;go_quiet (fail);go_wp2;go_roundw;exact⟨k+1,ω,ξ,_,rfl⟩;simp[intOf];omega
 have cp:¬(k:Int)<(xs.length:Int):=ω;go_wp2;go_ret;exact⟨rfl,_,rfl⟩
theorem Ty (v1 v2:Φ)(xs:List AW)(w:Ω)(h1:Bh w v1 xs)(L:Bh w v2 xs):
 Ξ prog 66 #[v1,v2] w λe H=>e=.returned (.bool true)/\∃n,H=w.drewN n:=by
 obtain⟨a1,c1,rfl,i6,er,H1⟩:=BN.open Az ψ h1;obtain⟨a2,c2,rfl,iJ,el,H2⟩:=BN.open Az ψ L;unfold maxLen at er el;clear h1 L;have N:((xs.length:Int) !=xs.length)=false:=χ;go_in;go_wp2_with fail;go_loopw [5] (λi wr=>∃k:Nat,k<=xs.length/\i=.int .i64 k/\∃n,wr=w.drewN n) (λi _=>xs.length - (intOf i).toNat)
 exact⟨0,yu _,rfl,0,rfl⟩
 obtain⟨k,hk,rfl,n,rfl⟩:=hrel
 by_cases bl:k<xs.length
 .have cp:(k:Int)<(xs.length:Int):=ω
  obtain⟨b1,o1,rfl,_,m6,m5,oA⟩:=H1.zZ bl;obtain⟨b2,o2,rfl,_,m0,mZ,oz⟩:=H2.zZ bl;clear H1 H2;go_wp2_with fail;go_quiet (fail);go_wp2;go_roundw;exact⟨k+1,ω,ξ,_,rfl⟩;simp[intOf];omega
 have cp:¬(k:Int)<(xs.length:Int):=ω;go_wp2;go_ret;exact⟨rfl,_,rfl⟩
theorem Tx (v1 v2:Φ)(xs:List Ag)(w:Ω)(h1:Ds w v1 xs)(L:Ds w v2 xs):
 Ξ prog 68 #[v1,v2] w λe H=>e=.returned (.bool true)/\∃n,H=w.drewN n:=by
 obtain⟨a1,c1,rfl,i6,er,H1⟩:=BN.open Co ψ h1;obtain⟨a2,c2,rfl,iJ,el,H2⟩:=BN.open Co ψ L;unfold maxLen at er el;clear h1 L;have N:((xs.length:Int) !=xs.length)=false:=χ;go_in;go_wp2_with fail;go_loopw [5] (λi wr=>∃k:Nat,k<=xs.length/\i=.int .i64 k/\∃n,wr=w.drewN n) (λi _=>xs.length - (intOf i).toNat)
 exact⟨0,yu _,rfl,0,rfl⟩
 obtain⟨k,hk,rfl,n,rfl⟩:=hrel
 by_cases bl:k<xs.length
 .have cp:(k:Int)<(xs.length:Int):=ω
  obtain⟨b1,o1,rfl,_,m6,m5,oA,wy⟩:=H1.zV bl;obtain⟨b2,o2,rfl,_,m0,mZ,oz,ws⟩:=H2.zV bl;clear H1 H2;go_wp2_with fail;go_quiet (fail);go_wp2;go_roundw;exact⟨k+1,ω,ξ,_,rfl⟩;simp[intOf];omega
 have cp:¬(k:Int)<(xs.length:Int):=ω;go_wp2;go_ret;exact⟨rfl,_,rfl⟩
variable{a:Option Addr}
theorem Uw.zB{xs:List Bz}(h:Uw 3 Dc w a xs){k:Nat}(hk:k<xs.length):∃b cP,a=some ⟨b,cP,none⟩/\b<w.heap.size/\w.cell? ⟨b,cP+k*3,none⟩=some (.int .i64 (AD xs k).w)/\w.cell? ⟨b,cP+k*3+1,none⟩=some (.int .i64 (AD xs k).a)/\w.cell? ⟨b,cP+k*3+2,none⟩=some (.bool (AD xs k).u):=by obtain⟨b,cP,rfl,i7,hc⟩:=h k _ (show xs[k]?=some (AD xs k) from A9 hk);exact⟨b,cP,rfl,i7,by simpa using hc 0 _ rfl,hc 1 _ rfl,hc 2 _ rfl⟩
theorem Tz (v1 v2:Φ)(xs:List Bz)(w:Ω)(h1:BN 3 Dc w v1 xs)(L:BN 3 Dc w v2 xs):
 Ξ prog 31 #[v1,v2] w λe H=>e=.returned (.bool true)/\∃n,H=w.drewN n:=by
 obtain⟨a1,c1,rfl,i6,er,H1⟩:=BN.open Fy ψ h1;obtain⟨a2,c2,rfl,iJ,el,H2⟩:=BN.open Fy ψ L;unfold maxLen at er el;clear h1 L;have N:((xs.length:Int) !=xs.length)=false:=χ;go_in;go_wp2_with fail;go_loopw [5] (λi wr=>∃k:Nat,k<=xs.length/\i=.int .i64 k/\∃n,wr=w.drewN n) (λi _=>xs.length - (intOf i).toNat)
 exact⟨0,yu _,rfl,0,rfl⟩
 obtain⟨k,hk,rfl,n,rfl⟩:=hrel
 by_cases bl:k<xs.length
 .have cp:(k:Int)<(xs.length:Int):=ω
  obtain⟨b1,o1,rfl,_,m6,m5,oA⟩:=H1.zB bl;obtain⟨b2,o2,rfl,_,m0,mZ,oz⟩:=H2.zB bl;clear H1 H2;go_wp2_with fail;go_quiet (fail);go_wp2;go_roundw;exact⟨k+1,ω,ξ,_,rfl⟩;simp[intOf];omega
 have cp:¬(k:Int)<(xs.length:Int):=ω;go_wp2;go_ret;exact⟨rfl,_,rfl⟩
theorem So{P:Program}{f:FuncId}(h:∀m,Ξ P f ie (w.drewN m) λe H=>e=.returned (.bool true)/\∃j,H=(w.drewN m).drewN j):∀x,Ξ P f ie (w.drewN (n+x)) λe oP=>e=.returned (.bool true)/\∃j,oP=w.drewN (n+j):=by intro x;refine(h (n+x)).mono ?_;rintro e H ⟨rfl,j,rfl⟩;exact⟨rfl,x+j,by rw[MJ,Nat.add_assoc]⟩
theorem Nc (v1 v2:Φ)(xs:List Int)(w:Ω)(h1:A3 w v1 xs)(L:A3 w v2 xs):
 Ξ prog 15 #[v1,v2] w λe H=>e=.returned (.bool true)/\∃n,H=w.drewN n:=by
 refine(Ey v1 v2 xs xs w h1 L).mono ?_;rintro e H ⟨rfl,h⟩;exact⟨χ,h⟩
theorem MZ (v1 v2:Φ)(xs:List (List Int))(w:Ω)(h1:Bn w v1 xs)(L:Bn w v2 xs):
 Ξ prog 30 #[v1,v2] w λe H=>e=.returned (.bool true)/\∃n,H=w.drewN n:=by
 obtain⟨a1,c1,rfl,i6,er,H1⟩:=h1.open;obtain⟨a2,c2,rfl,iJ,el,H2⟩:=L.open;unfold maxLen at er el;clear h1 L;have N:((xs.length:Int) !=xs.length)=false:=χ;go_in;go_wp2_with fail;go_loopw [5] (λi wr=>∃k:Nat,k<=xs.length/\i=.int .i64 k/\∃n,wr=w.drewN n) (λi _=>xs.length - (intOf i).toNat)
 exact⟨0,yu _,rfl,0,rfl⟩
 obtain⟨k,hk,rfl,n,rfl⟩:=hrel
 by_cases bl:k<xs.length
 .have cp:(k:Int)<(xs.length:Int):=ω
  obtain⟨b1,o1,u1,rfl,_,D1,R1⟩:=H1 k bl;obtain⟨b2,o2,u2,rfl,_,D2,R2⟩:=H2 k bl;have HQ:=AA (So (w:=w) (n:=n) λm=>Nc u1 u2 (AJ xs k) (w.drewN m) (R1.below (Ai (yN _ _) m)) (R2.below (Ai (yN _ _) m)));clear H1 H2 R1 R2;go_wp2_with fail;go_quiet ((go_at_call 15;exact HQ _));go_wp2;go_roundw;exact⟨k+1,ω,ξ,_,rfl⟩;simp[intOf];omega
 have cp:¬(k:Int)<(xs.length:Int):=ω;go_wp2;go_ret;exact⟨rfl,_,rfl⟩
theorem Vn (v1 v2:Φ)(xs:List FF)(w:Ω)(h1:Gf w v1 xs)(L:Gf w v2 xs):
 Ξ prog 67 #[v1,v2] w λe H=>e=.returned (.bool true)/\∃n,H=w.drewN n:=by
 obtain⟨a1,c1,rfl,i6,er,H1⟩:=h1.open;obtain⟨a2,c2,rfl,iJ,el,H2⟩:=L.open;unfold maxLen at er el;clear h1 L;have N:((xs.length:Int) !=xs.length)=false:=χ;go_in;go_wp2_with fail;go_loopw [5] (λi wr=>∃k:Nat,k<=xs.length/\i=.int .i64 k/\∃n,wr=w.drewN n) (λi _=>xs.length - (intOf i).toNat)
 exact⟨0,yu _,rfl,0,rfl⟩
 obtain⟨k,hk,rfl,n,rfl⟩:=hrel
 by_cases bl:k<xs.length
 .have cp:(k:Int)<(xs.length:Int):=ω
  obtain⟨b1,o1,rm,rj,rfl,_,m6,m5,R1⟩:=H1 k bl;obtain⟨b2,o2,rk,rh,rfl,_,m0,mZ,R2⟩:=H2 k bl;have HQ:=AA (So (w:=w) (n:=n) λm=>UA _ _ (AI xs k).PQ (w.drewN m) (BN.below R1 (Ai (yN _ _) m)) (BN.below R2 (Ai (yN _ _) m)));clear H1 H2 R1 R2;go_wp2_with fail;go_quiet ((go_at_call 134;exact HQ _));go_wp2;go_roundw;exact⟨k+1,ω,ξ,_,rfl⟩;simp[intOf];omega
 have cp:¬(k:Int)<(xs.length:Int):=ω;go_wp2;go_ret;exact⟨rfl,_,rfl⟩
theorem IK{P:Program}{f:FuncId}{v:Ending}(h:Ξ P f ie w λe H=>e=v/\∃n,H=w.drewN n):Ξ P f ie w λe H=>e=v/\Γ w w H:=NP h
theorem TD (m i e c m' i' e' c':Φ)(k:AQ)(w:Ω)(h1:Nk w m i e c k)(L:Nk w m' i' e' c' k):
 Ξ prog 29 #[.agg #[m,i,e,c],.agg #[m',i',e',c']] w λr H=>r=.returned (.bool true)/\Γ w w H:=by
 obtain⟨N0,N1,bB,ji⟩:=LF w (.cells #[m,i,e,c] 28) (.cells #[m',i',e',c'] 28);have H1:=AA (h1.below bB);have H2:=AA (L.below bB);clear h1 L;go_in;go_wp2_with fail;generalize(w.alloc _).alloc _=W0 at*;have HN:=AA (yj N0 N1);have gy:=AA bB;obtain⟨E,D,K,x3⟩:=AH N0;obtain⟨y0,y1,y2,y3⟩:=AH N1;clear N0 N1 bB ji;have N:Γ W0 W0 W0:=yN _ _;go_wp2_with fail;refine(IK (MZ m m' k.mem _ (H1.1.below N) (H2.1.below N))).mono ?_;rintro r w_ ⟨rfl,ex⟩;replace N:=N.trans (ex.mono N.size);clear ex E D K x3 y0 y1 y2 y3;obtain⟨E,D,K,x3⟩:=AH (AB HN.1 N);obtain⟨y0,y1,y2,y3⟩:=AH (AB HN.2 N);go_wp2_with fail;refine(IK (Ty i i' k.ZJ _ (BN.below H1.2.1 N) (BN.below H2.2.1 N))).mono ?_;rintro r w_ ⟨rfl,ex⟩;replace N:=N.trans (ex.mono N.size);clear ex E D K x3 y0 y1 y2 y3;obtain⟨E,D,K,x3⟩:=AH (AB HN.1 N);obtain⟨y0,y1,y2,y3⟩:=AH (AB HN.2 N);go_wp2_with fail;refine(IK (Vn e e' k.XX _ (H1.2.2.1.below N) (H2.2.2.1.below N))).mono ?_;rintro r w_ ⟨rfl,ex⟩;replace N:=N.trans (ex.mono N.size);clear ex E D K x3 y0 y1 y2 y3;obtain⟨E,D,K,x3⟩:=AH (AB HN.1 N);obtain⟨y0,y1,y2,y3⟩:=AH (AB HN.2 N);go_wp2_with (refine(IK (Tx c c' k.XU _ (BN.below H1.2.2.2 N) (BN.below H2.2.2.2 N))).mono ?_;rintro r w_ ⟨rfl,ex⟩;replace N:=N.trans (ex.mono N.size);clear ex E D K x3 y0 y1 y2 y3;obtain⟨E,D,K,x3⟩:=AH (AB HN.1 N);obtain⟨y0,y1,y2,y3⟩:=AH (AB HN.2 N));go_ret;exact⟨rfl,gy.trans (N.mono gy.size)⟩
theorem FE (m i e c s l q m' i' e' c' s' l' q':Φ)(P:AR)(w:Ω)(h1:Kr w m i e c s l q P)(L:Kr w m' i' e' c' s' l' q' P):
 Ξ prog 10 #[AN m i e c s l q P.FV P.U4,AN m' i' e' c' s' l' q' P.FV P.U4] w λr H=>r=.returned (.bool true)/\Γ w w H:=by
 unfold AN;obtain⟨N0,N1,bB,ji⟩:=LF w (.cells #[m,i,e,c,s,l,q,P.FV,P.U4] 32) (.cells #[m',i',e',c',s',l',q',P.FV,P.U4] 32);have H1:=AA (h1.below bB);have H2:=AA (L.below bB);clear h1 L;go_in;go_wp2_with fail;generalize(w.alloc _).alloc _=W0 at*;have HN:=AA (yj N0 N1);have gy:=AA bB;obtain⟨E,D,K,x3,x4,x5,x6,x7,x8⟩:=AC N0;obtain⟨y0,y1,y2,y3,y4,y5,y6,y7,y8⟩:=AC N1;clear N0 N1 bB ji;have N:Γ W0 W0 W0:=yN _ _;go_wp2_with fail;refine(TD m i e c m' i' e' c' P.Ve _ (H1.1.below N) (H2.1.below N)).mono ?_;rintro r w_ ⟨rfl,ex⟩;replace N:=N.trans (ex.mono N.size);clear ex E D K x3 x4 x5 x6 x7 x8 y0 y1 y2 y3 y4 y5 y6 y7 y8;obtain⟨E,D,K,x3,x4,x5,x6,x7,x8⟩:=AC (AB HN.1 N);obtain⟨y0,y1,y2,y3,y4,y5,y6,y7,y8⟩:=AC (AB HN.2 N);go_wp2_with fail;refine(IK (MZ s s' P.swap _ (H1.2.1.below N) (H2.2.1.below N))).mono ?_;rintro r w_ ⟨rfl,ex⟩;replace N:=N.trans (ex.mono N.size);clear ex E D K x3 x4 x5 x6 x7 x8 y0 y1 y2 y3 y4 y5 y6 y7 y8;obtain⟨E,D,K,x3,x4,x5,x6,x7,x8⟩:=AC (AB HN.1 N);obtain⟨y0,y1,y2,y3,y4,y5,y6,y7,y8⟩:=AC (AB HN.2 N);go_wp2_with fail;refine(IK (Nc l l' P.low _ (H1.2.2.1.below N) (H2.2.2.1.below N))).mono ?_;rintro r w_ ⟨rfl,ex⟩;replace N:=N.trans (ex.mono N.size);clear ex E D K x3 x4 x5 x6 x7 x8 y0 y1 y2 y3 y4 y5 y6 y7 y8;obtain⟨E,D,K,x3,x4,x5,x6,x7,x8⟩:=AC (AB HN.1 N);obtain⟨y0,y1,y2,y3,y4,y5,y6,y7,y8⟩:=AC (AB HN.2 N);go_wp2_with (refine(IK (Tz q q' P.XY _ (BN.below H1.2.2.2 N) (BN.below H2.2.2.2 N))).mono ?_;rintro r w_ ⟨rfl,ex⟩;replace N:=N.trans (ex.mono N.size);clear ex E D K x3 x4 x5 x6 x7 x8 y0 y1 y2 y3 y4 y5 y6 y7 y8;obtain⟨E,D,K,x3,x4,x5,x6,x7,x8⟩:=AC (AB HN.1 N);obtain⟨y0,y1,y2,y3,y4,y5,y6,y7,y8⟩:=AC (AB HN.2 N));go_ret;exact⟨rfl,gy.trans (N.mono gy.size)⟩
def UO(p:AR):Bool:=decide (p.U4<=(Al p.XY 1:Int))||decide (Ao p.Ve.ZJ<0)
theorem Xs:Ao ZJ<0↔ZJ.countP (λx=>decide (x.k=0))=0:=by
 unfold Ao;rw[List.countP_eq_zero];constructor
 .intro h x hx hk
  rw[if_pos (wu.2 ⟨x,hx,hk⟩)] at h;omega
 intro h
 rw[if_neg]
 .decide
 intro ha
 obtain⟨x,hx,hk⟩:=wu.1 ha;exact h x hx hk
def M7(r:List Int):Bool:=r.isEmpty||EW r
theorem Ut{s:List (List Int)}:F3 s=(s.all M7&&decide (s.length=16)):=rfl
theorem Iq (v:Φ)(s:List (List Int))(w:Ω)(h:Bn w v s):Ξ prog 41 #[v] w λe H=>e=.returned (.bool (F3 s))/\Γ w w H:=by
 obtain⟨ao,c,rfl,hc,i5,w'⟩:=h.open;unfold maxLen at i5;have HH:=AA w';clear h w';go_in;go_wp2_with fail;go_loopw [3] (λix wr=>∃k:Nat,k<=s.length/\ix=.int .i64 k/\(∀j,j<k->M7 (AJ s j)=true)/\Γ w w wr) (λix _=>s.length - (intOf ix).toNat)
 exact⟨0,yu _,rfl,λj hj=>absurd hj (xU _),yN _ _⟩
 obtain⟨k,hk,rfl,bE,N⟩:=hrel;have bP:=AA bE;clear bE
 by_cases bl:k<s.length
 .have cp:(k:Int)<(s.length:Int):=ω
  obtain⟨b,cP,u,rfl,i7,x1,hr⟩:=(HH.below N) k bl;have C:=MN u _ wr hr;obtain⟨au,cu,rfl,_,_,_⟩:=hr.open
  by_cases he:(AJ s k).length=0
  .have t0:¬(0:Int)<(AJ s k).length:=ω
   have S:=AA (show M7 (AJ s k)=true by unfold M7;rw[tO.2 (xY he)];rfl);clear C hr he;go_wp2;go_roundw;exact⟨k+1,ω,ξ,Am bP S.u,N⟩;simp[intOf];omega
  have t0:(0:Int)<(AJ s k).length:=ω;have x0:M7 (AJ s k)=EW (AJ s k):=by
   unfold M7;have:(AJ s k).isEmpty=false:=by cases hx:AJ s k;rw[hx] at he;exact absurd rfl he;rfl
   rw[this,Bool.false_or]
  have C:=AA C;cases L:EW (AJ s k)
  .have S:=AA (show F3 s=false by rw[Ut,Jl (Kk bl) (x0.trans L)];rfl)
   have T:=AA L;clear hr he x0 L;go_wp2_with (refine C.mono ?_;rintro e w2 ⟨rfl,b2⟩;rw[T.u]);go_ret;exact⟨AF S.symm,N.trans (b2.mono N.size)⟩
  have S:=AA (x0.trans L)
  have T:=AA L;clear hr he x0 L;go_wp2_with fail;refine C.mono ?_;rintro e w2 ⟨rfl,b2⟩;rw[T.u];go_wp2;go_roundw;exact⟨k+1,ω,ξ,Am bP S.u,N.trans (b2.mono N.size)⟩;simp[intOf];omega
 have ek:k=s.length:=ω;have bE:=bP.u;rw[ek] at bE;have S:=AA (show F3 s=((s.length:Int)==16) by
  rw[Ut,Kd (λk hk=>Kk hk) bE,wv]
  by_cases h3:s.length=16<;>simp[h3]<;>omega)
 have cp:¬(k:Int)<(s.length:Int):=ω;clear bP bE;go_wp2;go_ret;exact⟨AF S.symm,N⟩
theorem OZ (m i e c:Φ)(k:AQ)(w:Ω)(hE:Gf w e k.XX)(nK:k.XX.length=3)(ny:∀j,j<k.XX.length->Db (AI k.XX j).PQ):
 Ξ prog 42 #[.agg #[m,i,e,c]] w λr H=>r=.returned (.bool (IH k))/\Γ w w H:=by
 obtain⟨N0,bB⟩:=Ec w (.cells #[m,i,e,c] 28);obtain⟨ae,ce,rfl,_,_,ow⟩:=(hE.below bB).open;have AL:IH k=(Ci (AI k.XX 0).PQ gA&&!Ci (AI k.XX 1).PQ gA&&!Ci (AI k.XX 2).PQ gA):=rfl;have CM:=AA (λv j (hj:j<3) W (hW:BZ W v (AI k.XX j).PQ)=>Lb v (AI k.XX j).PQ gA W hW (ny j ω) ψ);unfold gA at CM;have jU:=AA nK;clear nK ny hE;go_in;go_wp2_with fail;generalize w.alloc _=W0 at*;have HN:=AA N0;have HE:=AA ow;have gy:=AA bB;have HA:=AA AL;clear N0 ow bB AL;go_loopw [3] (λix wr=>∃j:Nat,1<=j/\j<=3/\ix=.int .i64 j/\(∀j',1<=j'->j'<j->Ci (AI k.XX j').PQ gA=false)/\Γ W0 W0 wr) (λix _=>3 - (intOf ix).toNat)
 exact⟨1,ω,ω,rfl,λj h1 L=>ω,yN _ _⟩
 obtain⟨j,pX,hj,rfl,bE,N⟩:=hrel;have bP:=AA bE;clear bE;obtain⟨_,_,K,_⟩:=AH (AB HN N)
 by_cases bl:j<3
 .have fd:(j:Int)<k.XX.length:=by have:=jU.u;omega
  obtain⟨b,cP,ua,uc,rfl,i7,D0,_,RR⟩:=(HE.below N) j (by have:=jU.u;omega);have C:=CM _ j bl wr RR;cases hm:Ci (AI k.XX j).PQ ⟨#[97]⟩
  .rw[hm] at C
   have S:=AA (show Ci (AI k.XX j).PQ gA=false from hm);clear hm RR;go_wp2_with fail;refine C.mono ?_;rintro r w2 ⟨rfl,b2⟩;go_wp2;go_roundw
   case rel=>exact⟨j+1,ω,ω,ξ,λj' h1 L=>by
    rcases xK.1 L with h|rfl
    .exact bP j' h1 h
    exact S.u,N.trans (b2.mono N.size)⟩
   case measure=>simp[intOf];omega
  rw[hm] at C
  have S:=AA (show IH k=false by
   have pM:Ci (AI k.XX j).PQ gA=true:=hm;rw[HA.u];have:j=1∨j=2:=ω;rcases this with rfl|rfl<;>rw[pM]<;>simp)
  clear hm RR;go_wp2_with (refine C.mono ?_;rintro r w2 ⟨rfl,b2⟩);go_ret;exact⟨AF S.symm,gy.trans ((N.trans (b2.mono N.size)).mono gy.size)⟩
 obtain rfl:j=3:=ω;obtain⟨b,cP,ua,uc,rfl,i7,D0,_,RR⟩:=(HE.below N) 0 (by have:=jU.u;omega);have C:=CM _ 0 ω wr RR;have fd:¬((3:Nat):Int)<k.XX.length:=by have:=jU.u;omega
 have pV:¬(3:Int)<k.XX.length:=by have:=jU.u;omega
 have s4:(0:Int)<k.XX.length:=by have:=jU.u;omega
 have S:=AA (show IH k=Ci (AI k.XX 0).PQ ⟨#[97]⟩ by rw[HA.u,bP 1 ω ω,bP 2 ω ω];simp[gA])
 have e0:cP+0*2=cP:=ω;rw[e0] at D0;clear RR bP;go_wp2_with (refine C.mono ?_;rintro r w2 ⟨rfl,b2⟩);go_ret;exact⟨AF S.symm,gy.trans ((N.trans (b2.mono N.size)).mono gy.size)⟩
variable{wh:Int}
theorem WJ{k:Nat}(hk:k<l.length):Al (l.take (k+1)) wh=Al (l.take k) wh+(if(AD l k).w=wh then 1 else 0):=by
 unfold Al;rw[DQ (x:=AD l k) (A9 hk),uj]
 congr 1
 simp only[xE,rV,Pg,decide_eq_true_eq,wK]
theorem ZS:Al l wh<=l.length:=by unfold Al;exact wC
theorem Oa (mv iv ev cv sv lv qv:Φ)(P:AR)(wh:Int)(w:Ω)(h:BN 3 Dc w qv P.XY)(hl:P.XY.length<=1048576):
 Ξ prog 46 #[AN mv iv ev cv sv lv qv P.FV P.U4,.int .i64 wh] w λr H=>r=.returned (.int .i64 (Al P.XY wh:Nat))/\Γ w w H:=by
 unfold AN;obtain⟨N0,bB⟩:=Ec w (.cells #[mv,iv,ev,cv,sv,lv,qv,P.FV,P.U4] 32);obtain⟨aq,cq,rfl,_,_,oq⟩:=BN.open Fy ψ (BN.below h bB);obtain⟨_,_,_,_,_,_,x6,_,_⟩:=AC N0;clear h;go_in;go_wp2_with fail;generalize w.alloc _=W0 at*;have HQ:=AA oq;clear oq N0;go_loopw [5,6] (λn ix wr=>∃k:Nat,k<=P.XY.length/\ix=.int .i64 k/\n=.int .i64 (Al (P.XY.take k) wh:Nat)/\W0=wr) (λn ix _=>P.XY.length - (intOf ix).toNat)
 exact⟨0,yu _,rfl,rfl,rfl⟩
 obtain⟨k,hk,rfl,rfl,rfl⟩:=hrel
 by_cases bl:k<P.XY.length
 .have l8:(k:Int)<P.XY.length:=ω
  obtain⟨b,cP,rfl,_,D0,_,_⟩:=HQ.zB bl;have S:=WJ (wh:=wh) bl;have lm:=ZS (l:=P.XY.take k) (wh:=wh);rw[yr] at lm
  by_cases hw:(AD P.XY k).w=wh
  .rw[if_pos hw] at S
   have t0:((AD P.XY k).w==wh)=true:=by simp[hw]
   have S:=AA S;generalize Al (P.XY.take k) wh=n0 at*;clear hw;go_wp2;go_roundw;exact⟨k+1,ω,ξ,by rw[S.u];go_num,by first|rfl|trivial⟩;simp[intOf];omega
  rw[if_neg hw] at S
  have t0:((AD P.XY k).w==wh)=false:=by simp[hw]
  have S:=AA S;clear hw;go_wp2;go_roundw;exact⟨k+1,ω,ξ,by rw[S.u,xT],by first|rfl|trivial⟩;simp[intOf];omega
 obtain rfl:k=P.XY.length:=ω;have l8:¬(P.XY.length:Int)<P.XY.length:=ω;rw[xD];go_wp2;go_ret;exact⟨rfl,bB⟩
theorem Xr{l:List AW}{k:Nat}(hk:k<l.length):(l.take (k+1)).countP (λx=>decide (x.k=0))=(l.take k).countP (λx=>decide (x.k=0))+(if(JK l k).k=0 then 1 else 0):=by
 rw[DQ (Cj hk),uj]
 congr 1
 simp only[xE,rV,decide_eq_true_eq,wK]
theorem Sy (v:Φ)(l:List AW)(w:Ω)(h:Bh w v l)(jp:BJ l=true):
 Ξ prog 201 #[v] w λr H=>r=.returned (.int .i64 (l.countP (λx=>decide (x.k=0)):Nat))/\Γ w w H:=by
 have CV:=Dx v l w h (Cg jp);rw[jp] at CV;obtain⟨ai,ci,rfl,_,_,H0⟩:=BN.open Az ψ h;have l7:=(A4.1 jp).1;have r4:(l.length:Int)<=12:=ω;have HH:=AA H0;have CV:=AA CV;clear h H0 jp l7;go_in;go_wp2_with fail;go_loopw [3,4] (λn ix wr=>∃k:Nat,k<=l.length/\ix=.int .i64 k/\n=.int .i64 ((l.take k).countP (λx=>decide (x.k=0)):Nat)/\w=wr) (λn ix _=>l.length - (intOf ix).toNat)
 exact⟨0,yu _,rfl,rfl,rfl⟩
 obtain⟨k,hk,rfl,rfl,rfl⟩:=hrel
 by_cases bl:k<l.length
 .have l8:(k:Int)<l.length:=ω
  obtain⟨b,cP,rfl,_,D0,_,_⟩:=HH.zZ bl;have S:=Xr bl;have lm:=wC (p:=λx:AW=>decide (x.k=0)) (l:=l.take k);rw[yr] at lm
  by_cases hw:(JK l k).k=0
  .rw[if_pos hw] at S
   have t0:((JK l k).k==0)=true:=by simp[hw]
   have S:=AA S;generalize List.countP _ (l.take k)=n0 at*;clear hw;go_wp2;go_roundw;exact⟨k+1,ω,ξ,by rw[S.u];go_num,by first|rfl|trivial⟩;simp[intOf];omega
  rw[if_neg hw] at S
  have t0:((JK l k).k==0)=false:=by simp[hw]
  have S:=AA S;clear hw;go_wp2;go_roundw;exact⟨k+1,ω,ξ,by rw[S.u,xT],by first|rfl|trivial⟩;simp[intOf];omega
 obtain rfl:k=l.length:=ω;have l8:¬(l.length:Int)<l.length:=ω;rw[xD];go_wp2_with (refine CV.mono ?_;rintro r w2 ⟨rfl,b2⟩);go_ret;exact⟨rfl,b2⟩
theorem WU{s:List (List Int)}{k:Nat}(hk:k<s.length)(h:∀j,j<k->(AJ s j).isEmpty=false)(hp:(AJ s k).isEmpty=true):Bt s=(k:Int):=by
 have g:∀j (hj:j<s.length),s[j]=AJ s j:=λj hj=>by have:=Kk hj;rw[yG hj] at this;exact yP this
 unfold Bt;rw[if_pos (PY (Kk hk) hp)];have:s.findIdx vl=k:=by
  rw[List.findIdx_eq hk];exact⟨by rw[g k hk];exact hp,λj hj=>by rw[g j ω];exact h j hj⟩
 rw[this]
theorem VH{s:List (List Int)}(h:∀j,j<s.length->(AJ s j).isEmpty=false):Bt s= -1:=by
 unfold Bt;rw[if_neg];rw[MG (λk hk=>Kk hk) h];simp
theorem Wk (v:Φ)(s:List (List Int))(w:Ω)(h:Bn w v s):Ξ prog 270 #[v] w λe H=>e=.returned (.int .i64 (Bt s))/\Γ w w H:=by
 obtain⟨ao,c,rfl,hc,i5,w'⟩:=h.open;unfold maxLen at i5;have HH:=AA w';clear h w';go_in;go_wp2_with fail;go_loopw [3] (λix wr=>∃k:Nat,k<=s.length/\ix=.int .i64 k/\(∀j,j<k->(AJ s j).isEmpty=false)/\Γ w w wr) (λix _=>s.length - (intOf ix).toNat)
 exact⟨0,yu _,rfl,λj hj=>absurd hj (xU _),yN _ _⟩
 obtain⟨k,hk,rfl,bE,N⟩:=hrel;have bP:=AA bE;clear bE
 by_cases bl:k<s.length
 .have cp:(k:Int)<(s.length:Int):=ω
  obtain⟨b,cP,u,rfl,i7,x1,hr⟩:=(HH.below N) k bl;obtain⟨au,cu,rfl,_,_,_⟩:=hr.open;cases hp:(AJ s k).isEmpty
  .have t0:(((AJ s k).length:Int)==0)=false:=by rw[<-hp];cases hx:AJ s k<;>simp<;>omega
   have Hp:=AA hp;clear hp;go_wp2;go_roundw;exact⟨k+1,ω,ξ,Am bP Hp.u,N⟩;simp[intOf];omega
  have t0:(((AJ s k).length:Int)==0)=true:=by rw[<-hp];cases hx:AJ s k<;>simp<;>omega
  have S:=AA (WU bl bP hp);have Hp:=AA hp;clear hp;go_wp2;go_ret;exact⟨DI S.symm,N⟩
 have ek:k=s.length:=ω;have bE:=bP.u;rw[ek] at bE;have S:=AA (VH bE);clear bP bE;go_wp2;go_ret;exact⟨DI S.symm,N⟩
theorem Xh{c:AV}(h:c.k=1):Ad k c=Ju k c:=by unfold Ad;rw[if_pos h]
theorem Wj (h:Dy lo w m iv ev cv k)(ay:lo<=w.heap.size)(hk:Dg k)(call:AV)(he:0<=call.e/\call.e<3)(L:call.k=1)(f2:call.nm.size<=maxLen):
 Ξ prog 189 #[.agg #[m,iv,ev,cv],.agg call.cs] w (L2 lo w (Ad k call)):=by
 have bK:=SC.start h ay call;have P0:Ad k call=if BT call.nm=false then(k,0,3) else if Ci (AI k.XX call.e.toNat).PQ call.nm=false then(k,0,1) else if Ao k.ZJ<0 then(k,0,4) else({k with ZJ:=k.ZJ.set (Ao k.ZJ).toNat ⟨1,call.nm,0⟩,mem:=k.mem.set (Ao k.ZJ).toNat [0,0,0,0]},Ao k.ZJ,0):=Xh L
 have gQ:=(Ap hk).1;have jp:=(Ap hk).2.1;obtain⟨gm,bi,rfl,_⟩:=Ep.mems bK gQ;obtain⟨am,ga,cm,ai,ni,ci,ae,gO,ce,ac,nc,cc,em,rfl,rfl,rfl⟩:=bK.Dq;clear em;have S0:=AA bK;obtain⟨kk,e,a,b,c,nm⟩:=call;simp only at he f2;obtain⟨en,rfl⟩:∃n:Nat,e=(n:Int):=⟨e.toNat,ω⟩
 simp only[AV.cs,yq] at S0 P0 ⊢;have HP:=AA P0;have z:=AA hk;have CR:=AA (λW=>A7 (En nm W f2));have CM:=AA (λW (h:Gf W (.slice ae gO ce) k.XX)=>KQ (.slice gm 12 bi) (.slice ai ni ci) (.slice ae gO ce) (.slice ac nc cc) k en nm W h hk ω f2);have CF:=AA (λW (h:Bh W (.slice ai ni ci) k.ZJ)=>QD (.slice ai ni ci) k.ZJ W h);obtain⟨E,D,K,x3⟩:=S0.xs;obtain⟨y0,y1,y2,y3,y4,y5⟩:=S0.ys6;have g0:=AA gQ;have qK:=AA jp;generalize hrv:BT nm=rv at CR HP;generalize hmb:Ci (AI k.XX en).PQ nm=mb at CM HP;have qH:=AA hrv;clear h L bK he hk gQ jp f2 P0 hrv hmb;generalize hW0:((w.alloc _).alloc _).alloc _=W0 at*;go_in;go_wp2_with fail;refine(CR _).mono ?_;rintro r w0 ⟨rfl,bB⟩;have S0:=AA (S0.below bB);clear E D K x3 y0 y1 y2 y3 y4 y5 bB hW0;cases rv
 .have bp:=AA (show Ad k ⟨kk,(en:Int),a,b,c,nm⟩=(k,0,3) by rw[HP.u];rfl)
  clear HP CR CM CF;obtain⟨⟨E,D,K,x3⟩,⟨⟨z0,z1,z2,z3⟩,bu⟩,HE,HR⟩:=S0.yR ay (v:=0) (code:=3) (bp.u) ψ;go_wp2_with ((try simp only[xS,Exit.then]);with_reducible refine yB ?_ rfl HR.u;obtain⟨E0,E1,E2,E3⟩:=HE.u;simp[results,uO,go_sem,E0,E1,E2,E3])
 obtain⟨E,D,K,x3⟩:=S0.xs
 obtain⟨y0,y1,y2,y3,y4,y5⟩:=S0.ys6;go_wp2_with fail;refine(CM _ S0.K.2.2.1).mono ?_;rintro r w1 ⟨rfl,cl⟩;have S1:=AA (S0.below cl);clear E D K x3 y0 y1 y2 y3 y4 y5 cl;cases mb
 .have bp:=AA (show Ad k ⟨kk,(en:Int),a,b,c,nm⟩=(k,0,1) by rw[HP.u];rfl)
  obtain⟨⟨E,D,K,x3⟩,⟨⟨z0,z1,z2,z3⟩,bu⟩,HE,HR⟩:=S1.yR ay (v:=0) (code:=1) (bp.u) ψ;go_wp2_with ((try simp only[xS,Exit.then]);with_reducible refine yB ?_ rfl HR.u;obtain⟨E0,E1,E2,E3⟩:=HE.u;simp[results,uO,go_sem,E0,E1,E2,E3])
 have br:=AA (show Ad k ⟨kk,(en:Int),a,b,c,nm⟩=if Ao k.ZJ<0 then(k,0,4) else({k with ZJ:=k.ZJ.set (Ao k.ZJ).toNat ⟨1,nm,0⟩,mem:=k.mem.set (Ao k.ZJ).toNat [0,0,0,0]},Ao k.ZJ,0) by rw[HP.u];rfl)
 obtain⟨E,D,K,x3⟩:=S1.xs;clear HP;go_wp2_with fail;refine(CF _ S1.K.2.1).mono ?_;rintro r w2 ⟨rfl,bf⟩;have S2:=AA (S1.below bf);clear E D K x3 bf
 by_cases jK:Ao k.ZJ<0
 .have bp:=AA (show Ad k ⟨kk,(en:Int),a,b,c,nm⟩=(k,0,4) by rw[br.u,if_pos jK])
  clear br;obtain⟨⟨E,D,K,x3⟩,⟨⟨z0,z1,z2,z3⟩,bu⟩,HE,HR⟩:=S2.yR ay (v:=0) (code:=4) (bp.u) ψ;go_wp2_with ((try simp only[xS,Exit.then]);with_reducible refine yB ?_ rfl HR.u;obtain⟨E0,E1,E2,E3⟩:=HE.u;simp[results,uO,go_sem,E0,E1,E2,E3])
 obtain⟨p7,_,_⟩:=GO (ZJ:=k.ZJ) ω;obtain⟨f,hf⟩:∃f:Nat,Ao k.ZJ=(f:Int):=⟨(Ao k.ZJ).toNat,ω⟩
 have gj:f<12:=by have:=z.len;omega
 have bp:=AA (show Ad k ⟨kk,(en:Int),a,b,c,nm⟩=({k with ZJ:=k.ZJ.set f ⟨1,nm,0⟩,mem:=k.mem.set f [0,0,0,0]},(f:Int),0) by rw[br.u,if_neg jK,hf];rfl);have CT:=AA (λW hi=>TA (.slice ai ni ci) k.ZJ nm f W hi qK qH hf gj);obtain⟨E,D,K,x3⟩:=S2.xs;obtain⟨y0,y1,y2,y3,y4,y5⟩:=S2.ys6;rw[hf];clear br hf jK p7;go_wp2_with fail;refine(CT _ S2.K.2.1).mono ?_;rintro r w3 ⟨v',rfl,hO,dg⟩;clear E D K x3 y0 y1 y2 y3 y4 y5;have S3:=AA (S2.zy dg hO);have lC:=AK (S2.below dg).yS.1;have oM:=(S2.below dg).xs.2.1;obtain⟨a9,c9,e9,_,_⟩:=hO.rd.shape;generalize wS _=n9 at e9;subst e9;clear hO dg;generalize hW9:w3.setCell _ _=W9 at S3;obtain⟨E,D,K,x3⟩:=S3.xs;have bm:=S3.lts.2.1;have mj:(f:Int)<12:=ω;have iH:=(Ak.1 g0.u).1;go_wp2_with fail;refine BD 4 49 [.p w.heap.size 0,.s gm 12 bi,.i ((f:Int)),.z] (λix vv ww=>match ix with
  |3=>AE W9 ww vv [0,0,0,0]
  |_=>True) ?_ ?_ ?_
 .intro i hi o Y a O V A J x2 z
  match i,hi with
  |0,_|2,_=>exact sP Y z V A
  |1,_=>exact sL Y z V A (hl:=GR (bc J bm E))
  |3,_=>obtain rfl:=yP Y;clear A V;obtain⟨i0,kz,j4,gY,iR⟩:=info_parts Tryz.zS;obtain⟨w9,bX,h3,h4⟩:=run_make_full (P:=prog) O O.heap.size 29 3 i0 _ 1 underlying29 kz j4 gY .i64 .i64 4 (by rw[iR];decide) ψ (yF _);have h5:=Below.zE h4;rw[Wp (.int .i64 0) rfl 4] at h3;have kh:(Instr.makeSlice 29 (.int .i64 4) (.int .i64 4)).run prog O=.ok (.slice O 4 4) w9:=bX;clear kz j4 gY iR bX;refine yO ?_;go_simp;exact z _ _ (BS h3 J.size) h5
 .intro i hi vv wz fl bs hz
  match i,hi with
  |3,_=>exact(AE.below hz bs)
  |0,_|1,_|2,_=>exact hz
 intro Z O hR J
 have q1:(Z 1)=.slice gm 12 bi:=Be hR 1;have q2:(Z 2)=.int .i64 f:=Be hR 2;have q3:AE W9 O (Z 3) [0,0,0,0]:=Be hR 3;clear hR;simp only[Aj,Ae,yL,yI,yJ,yH,q1,q2];simp;generalize Z 3=z3 at q3 ⊢;clear q1 q2;have S4:=AA (S3.newRow iH.symm J q3 (by rw[iH];exact gj));obtain⟨s6,nY,nX,jd,oQ,e2,_,_,D2,_⟩:=(S3.below J).yS.zo g0 gj;cases e2;have Fr:=AK (BB ((S3.below J).yS.2.2.1.choose_spec.1) gm rfl).choose_spec;obtain⟨a9,c9,e9,_,_⟩:=q3.rd.open;rw[show([0,0,0,0]:List Int).length=4 from rfl] at e9;subst e9;generalize hW10:O.setCell _ _=W10 at S4;clear E D K x3 q3 J bm;obtain⟨⟨E,D,K,x3⟩,⟨⟨z0,z1,z2,z3⟩,bu⟩,HE,HR⟩:=S4.fin ay (v:=(f:Int)) (code:=0) (bp.u);go_wp2_with ((try simp only[xS,Exit.then]);with_reducible refine yB ?_ rfl HR.u;obtain⟨E0,E1,E2,E3⟩:=HE.u;simp[results,uO,go_sem,E0,E1,E2,E3])
theorem Z8{m:List (List Int)}{kind:Int}:(GV m xs f kind ss).2=0∨(GV m xs f kind ss).2=1∨(GV m xs f kind ss).2=2:=by
 unfold GV
 repeat' split
 all_goals simp
theorem XK{m:List (List Int)}:(DT m xs f).2=0∨(DT m xs f).2=1∨(DT m xs f).2=2:=by
 unfold DT
 repeat' split
 all_goals simp
theorem X6 (h:Dy lo w mv iv ev cv k)(ay:lo<=w.heap.size)(hk:Dg k)(call:AV)(he:0<=call.e/\call.e<3)(L:call.k=4∨call.k=5):
 Ξ prog 192 #[.agg #[mv,iv,ev,cv],.agg call.cs] w (L2 lo w (Ad k call)):=by
 have bK:=SC.start h ay call;have P0:=ZP (k:=k) L;obtain⟨gi,av,e8,gh,_⟩:=bK.ZJ (by rw[hk.len];omega);rw[hk.len] at e8;obtain⟨am,ga,cm,ai,ni,ci,ae,gO,ce,ac,nc,cc,em,ei,ee,ec⟩:=bK.Dq;subst e8;clear ei;have S0:=AA bK;obtain⟨kk,e,a,b,c,nm⟩:=call;simp only at he L;obtain⟨en,rfl⟩:∃n:Nat,e=(n:Int):=⟨e.toNat,ω⟩
 have gv:en<3:=ω;simp only[AV.cs] at S0 P0 ⊢;obtain⟨rfl,rfl,rfl⟩:=yj em (yj ee ec);have HP:=AA P0;have z:=AA hk;have Hl:=AA hk.len;obtain⟨bad,hbad⟩:∃b',decide (Bo a 0 11=false∨(JK k.ZJ a.toNat).k=0∨(kk=4/\Bp b=false))=b':=⟨_,rfl⟩
 have HB:=AA hbad;obtain⟨E,D,K,x3⟩:=S0.xs;obtain⟨y0,y1,y2,y3,y4,y5⟩:=S0.ys6;clear h bK he hk P0 L hbad;go_in;go_upto_region 1 with fail;go_cut [33] (λpf O=>pf=.bool bad/\SC lo w.heap.size ⟨kk,(en:Int),a,b,c,nm⟩ w O (.slice am ga cm) (.slice gi 12 av) (.slice ae gO ce) (.slice ac nc cc) k)
 case first=>
  go_wp2_with fail;refine(A7 (Ed _ _)).mono ?_;rintro r w1 ⟨rfl,cl⟩;have S1:=AA (S0.below cl);clear E D K x3 y0 y1 y2 y3 y4 y5 cl;cases e1:Bo a 0 11
  .have E1:=AA e1
   clear e1;go_wp2_with fail;go_meet
   case rel=>exact⟨by rw[<-HB.u];simp[E1.u],S1.u⟩
  have ab:=Aa.1 e1;have E1:=AA e1;clear e1;obtain⟨X,rfl⟩:∃n:Nat,a=(n:Int):=⟨a.toNat,ω⟩
  have iL:(X:Int)<12:=ω;obtain⟨E,D,K,x3⟩:=S1.xs;obtain⟨y0,y1,y2,y3,y4,y5⟩:=S1.ys6;obtain⟨D0,_,_⟩:=S1.JK (f:=X) (by rw[Hl.u];omega);have HB:=AA (show decide (Bo (X:Int) 0 11=false∨(JK k.ZJ X).k=0∨(kk=4/\Bp b=false))=bad from HB.u);generalize(JK k.ZJ X).k=kd at*
  by_cases e0:kd=0
  .subst e0
   go_wp2_with fail;go_meet
   case rel=>exact⟨by rw[<-HB.u];simp,S1.u⟩
  have t0:(kd==0)=false:=by simp[e0]
  have E0:=AA e0;clear e0;cases tk:(kk==4)
  .have TK:=AA (show kk≠4 by simpa using tk)
   go_wp2_with fail;go_meet
   case rel=>exact⟨by rw[<-HB.u];simp[E1.u,E0.u,TK.u],S1.u⟩
  have TK:=AA (show kk=4 by simpa using tk);go_wp2_with fail;refine(A7 (GQ _ _)).mono ?_;rintro r w2 ⟨rfl,bf⟩;have S2:=AA (S1.below bf);clear E D K x3 y0 y1 y2 y3 y4 y5 D0 bf;go_wp2_with fail;go_meet
  case rel=>exact⟨by rw[<-HB.u];cases hw:Bp b<;>simp[E1.u,E0.u,TK.u],S2.u⟩
 case rest=>
 obtain⟨rfl,hS⟩:=hcut;have S2:=AA hS;obtain⟨w2,rfl⟩:∃w2,w2=wc:=⟨_,rfl⟩
 clear E D K x3 y0 y1 y2 y3 y4 y5 hS S0;cases bad
 rotate_left
 .have bp:=AA (HP.trans (if_pos (of_decide_eq_true HB.u)))
  clear HP HB;obtain⟨⟨E,D,K,x3⟩,⟨⟨z0,z1,z2,z3⟩,bu⟩,HE,HR⟩:=S2.yR ay (v:=0) (code:=3) (bp.u) ψ;go_wp2_with ((try simp only[xS,Exit.then]);with_reducible refine yB ?_ rfl HR.u;obtain⟨E0,E1,E2,E3⟩:=HE.u;simp[results,uN,go_sem,E0,E1,E2,E3])
 have iV:=of_decide_eq_false HB.u;have lf:=HP.trans (if_neg iV);have ab:=Aa.1 (show Bo a 0 11=true by cases e1:Bo a 0 11;(· exact absurd (.inl e1) iV);(· rfl));obtain⟨X,rfl⟩:∃n:Nat,a=(n:Int):=⟨a.toNat,ω⟩
 have cT:X<12:=ω;have iL:(X:Int)<12:=ω;have jm:kk=4->Bp b=true:=λx=>by cases e:Bp b;(· exact absurd (.inr (.inr ⟨x,e⟩)) iV);(· rfl)
 have HG:=AA (Cg (Ap z.u).2.1 _ (yw (Cj (show X<k.ZJ.length by rw[Hl.u];exact cT))));have CP:=AA (λW (h:Nk W (.slice am ga cm) (.slice gi 12 av) (.slice ae gO ce) (.slice ac nc cc) k)=>Tl _ _ _ _ k kk b c en X nm W h z gv cT jm);replace lf:Ad k ⟨kk,(en:Int),(X:Int),b,c,nm⟩=if Ci (AI k.XX en).PQ (JK k.ZJ X).g=false then(k,0,1) else EG k (if kk=4 then GV k.mem k.ZJ X b (AI k.XX en).PQ else DT k.mem k.ZJ X):=lf
 have br:=AA lf;have HC:=AA (show(if kk=4 then GV k.mem k.ZJ X b (AI k.XX en).PQ else DT k.mem k.ZJ X).2=0∨(if kk=4 then GV k.mem k.ZJ X b (AI k.XX en).PQ else DT k.mem k.ZJ X).2=1∨(if kk=4 then GV k.mem k.ZJ X b (AI k.XX en).PQ else DT k.mem k.ZJ X).2=2 by
  split
  .exact Z8
  exact XK)
 generalize(if kk=4 then GV k.mem k.ZJ X b (AI k.XX en).PQ else DT k.mem k.ZJ X)=res at CP br HC;clear HP HB iV ab jm lf;obtain⟨E,D,K,x3⟩:=S2.xs;obtain⟨y0,y1,y2,y3,y4,y5⟩:=S2.ys6;obtain⟨_,D1,_⟩:=S2.JK (f:=X) (by rw[Hl.u];exact cT);obtain⟨bt,bm,_,_⟩:=S2.lts;have mf:=S2.zx;have CM:=AA (λW (h:Gf W (.slice ae gO ce) k.XX)=>KQ (.slice am ga cm) (.slice gi 12 av) (.slice ae gO ce) (.slice ac nc cc) k en (JK k.ZJ X).g W h z gv HG.u);generalize(JK k.ZJ X).g=gd at D1 CM br;generalize Ci (AI k.XX en).PQ gd=mb at CM br;go_wp2_with fail;refine Ac 10 64 [.a #[.slice am ga cm,.slice gi 12 av,.slice ae gO ce,.slice ac nc cc],.p (w.heap.size+1) 1,.i ((en:Int)),.p w.heap.size 1,.s gi 12 av,.p (w.heap.size+1) 2,.i ((X:Int)),.p gi (X*3),.p gi (X*3+1),.t gd] (λ_ _ _=>True) ?_ ?_
 .intro i hi o Y a O V A J x2 z
  have bC:=bc J bm E;have bA:=bc J bm D;have cC:=bc J bm K;have cz:=bc J bm x3;have cy:=bc J bt y1;have fb:=bc J bt y2;have g3:=bc J mf D1
  match i,hi with
  |0,_=>exact sL Y z V A (hl:=Pi ‹_› ‹_› ‹_› ‹_›)
  |1,_|3,_|5,_|8,_=>exact sP Y z V A
  |2,_|6,_=>exact sL Y z V A (hl:=F7 ‹_›)
  |4,_=>exact sL Y z V A (hl:=Gi ‹_›)
  |7,_=>exact sI Y z V A (hr:=by clear A V z;go_simp)
  |9,_=>exact sL Y z V A (hl:=Zq ‹_›)
 intro Z O hR J
 have q0:(Z 0)=.agg #[.slice am ga cm,.slice gi 12 av,.slice ae gO ce,.slice ac nc cc]:=Be hR 0;have q2:(Z 2)=.int .i64 en:=Be hR 2;have q9:(Z 9)=.string gd:=Be hR 9;clear hR;simp only[Aj,Ae,yL,yI,yJ,yH,q0,q2,q9];simp;clear q0 q2 q9;have S3:=AA (S2.below J);clear E D K x3 y0 y1 y2 y3 y4 y5 D1 J;go_wp2_with fail;refine(CM _ S3.K.2.2.1).mono ?_;rintro r w4 ⟨rfl,fs⟩;have S4:=AA (S3.below fs);clear fs;cases mb
 .have bp:=AA (show Ad k ⟨kk,(en:Int),(X:Int),b,c,nm⟩=(k,0,1) by rw[br.u];rfl)
  obtain⟨⟨E,D,K,x3⟩,⟨⟨z0,z1,z2,z3⟩,bu⟩,HE,HR⟩:=S4.yR ay (v:=0) (code:=1) (bp.u) ψ;go_wp2_with ((try simp only[xS,Exit.then]);with_reducible refine yB ?_ rfl HR.u;obtain⟨E0,E1,E2,E3⟩:=HE.u;simp[results,uN,go_sem,E0,E1,E2,E3])
 obtain⟨E,D,K,x3⟩:=S4.xs
 obtain⟨y0,y1,y2,y3,y4,y5⟩:=S4.ys6;obtain⟨ri,rc⟩:=res;have bp:=AA (show Ad k ⟨kk,(en:Int),(X:Int),b,c,nm⟩=EG k (ri,rc) by rw[br.u];rfl);go_wp2_with fail;refine(CP _ S4.K).mono ?_;rintro r w5 ⟨v',rfl,hO,f7⟩;simp only at hO ⊢;clear E D K x3 y0 y1 y2 y3 y4 y5 br
 rcases HC.u with e|e|e<;>subst e
 .have S5:=AA (S4.zy f7 hO)
  have lC:=AK (S4.below f7).yS.1;have oM:=(S4.below f7).xs.2.1;obtain⟨a9,c9,e9,_,_⟩:=hO.rd.shape;generalize wS _=n9 at e9;subst e9;clear hO f7;generalize hW9:w5.setCell _ _=W9 at S5;obtain⟨⟨E,D,K,x3⟩,⟨⟨z0,z1,z2,z3⟩,bu⟩,HE,HR⟩:=S5.fin ay (v:=0) (code:=0) (bp.u);go_wp2_with ((try simp only[xS,Exit.then]);with_reducible refine yB ?_ rfl HR.u;obtain⟨E0,E1,E2,E3⟩:=HE.u;simp[results,uN,go_sem,E0,E1,E2,E3])
 all_goals
  have S5:=AA (S4.below f7);obtain⟨a9,c9,e9,_,_⟩:=hO.rd.shape;generalize wS _=n9 at e9;subst e9;clear hO f7;obtain⟨⟨E,D,K,x3⟩,⟨⟨z0,z1,z2,z3⟩,bu⟩,HE,HR⟩:=S5.yR ay (v:=0) (code:=_) (bp.u) (by first|exact(ψ:IC 1≠0)|exact(ψ:IC 2≠0));go_wp2_with ((try simp only[xS,Exit.then]);with_reducible refine yB ?_ rfl HR.u;obtain⟨E0,E1,E2,E3⟩:=HE.u;simp[results,uN,IC,go_sem,E0,E1,E2,E3])
theorem eF (h:Dg k){o:Int}:(GF k.ZJ o).length=12/\∀n<12,0 - 1<=(JK (GF k.ZJ o) n).r/\(JK (GF k.ZJ o) n).r<=47:=by
 unfold GF
 split
 .refine⟨DU.trans h.len,λn hn=>?_⟩
  have r1:=h.yZ hn;rw[Fu]
  split
  .next hx=>
   rw[hx.1] at r1
   show 0 - 1<=(JK k.ZJ _).r+ -1/\(JK k.ZJ _).r+ -1<=47
   omega
  omega
 exact⟨h.len,λn hn=>by have r1:=h.yZ hn;omega⟩
theorem Wi (h:Dy lo w mv iv ev cv k)(ay:lo<=w.heap.size)(hk:Dg k)(call:AV)(he:0<=call.e/\call.e<3)(L:call.k=7):
 Ξ prog 194 #[.agg #[mv,iv,ev,cv],.agg call.cs] w (L2 lo w (Ad k call)):=by
 have bK:=SC.start h ay call;have P0:=(Xg (k:=k) L).trans XE;obtain⟨ge,be,e9,_,_⟩:=bK.XX (by rw[hk.zX];omega);rw[hk.zX] at e9;obtain⟨gi,av,e8,_,_⟩:=bK.ZJ (by rw[hk.len];omega);rw[hk.len] at e8;obtain⟨am,ga,cm,ai,ni,ci,ae,gO,ce,ac,nc,cc,em,ei,ee,ec⟩:=bK.Dq;subst e8 e9 em ec;clear ei ee;have S0:=AA bK;obtain⟨kk,e,ra,b,c,nm⟩:=call;simp only at he L;subst L;obtain⟨en,rfl⟩:∃n:Nat,e=(n:Int):=⟨e.toNat,ω⟩
 have gv:en<3:=ω;have jt:(en:Int)<3:=ω;simp only[AV.cs,yq] at S0 P0 ⊢;obtain⟨rt,hrt⟩:∃r,(AI k.XX en).root=r:=⟨_,rfl⟩
 rw[hrt] at P0;have og:=AA hrt;have HP:=AA P0;have z:=AA hk;obtain⟨bad,hbad⟩:∃b,decide (ra≠ -1/\(Bo ra 0 11=false∨(JK k.ZJ ra.toNat).k≠3))=b:=⟨_,rfl⟩
 have HB:=AA hbad;obtain⟨E,D,K,x3⟩:=S0.xs;obtain⟨y0,y1,y2,y3,y4,y5⟩:=S0.ys6;clear h bK he hk hrt hbad P0;go_in;go_upto_region 1 with fail;go_cut [26] (λph O=>ph=.bool bad/\SC lo w.heap.size ⟨7,(en:Int),ra,b,c,nm⟩ w O (.slice am ga cm) (.slice gi 12 av) (.slice ge 3 be) (.slice ac nc cc) k)
 case first=>
  by_cases e1:ra= -1
  .have t1:(ra != -1)=false:=by simp[e1]
   have E1:=AA e1;clear e1;go_wp2_with fail;go_meet
   case rel=>exact⟨by rw[<-HB.u];simp[E1.u],S0.u⟩
  have t1:(ra != -1)=true:=by simp[e1]
  have E1:=AA e1;clear e1;go_wp2_with fail;refine(A7 (Ed _ _)).mono ?_;rintro r w1 ⟨rfl,cl⟩;have S1:=AA (S0.below cl);clear E D K x3 y0 y1 y2 y3 y4 y5;cases e2:Bo ra 0 11
  .go_wp2_with fail
   go_meet
   case rel=>exact⟨by rw[<-HB.u];simp[E1.u,e2],S1.u⟩
  have ab:=Aa.1 e2
  have E2:=AA e2;clear e2;obtain⟨X,rfl⟩:∃n:Nat,ra=(n:Int):=⟨ra.toNat,ω⟩
  have iL:(X:Int)<12:=ω;obtain⟨E,D,K,x3⟩:=S1.xs;obtain⟨y0,y1,y2,y3,y4,y5⟩:=S1.ys6;obtain⟨d0,_,_⟩:=S1.JK (f:=X) (by rw[z.len];omega);go_wp2_with fail;go_meet
  case rel=>exact⟨by rw[<-HB.u];by_cases h3:(JK k.ZJ X).k=3<;>simp[E1.u,E2.u,h3],S1.u⟩
 case rest=>
 obtain⟨rfl,hS⟩:=hcut;have S2:=AA hS;obtain⟨w2,rfl⟩:∃w2,w2=wc:=⟨_,rfl⟩
 clear E D K x3 y0 y1 y2 y3 y4 y5 hS S0;cases bad
 .have br:=AA (HP.trans (if_neg (of_decide_eq_false HB.u)))
  have Ha:=AA (show(ra= -1∨0<=ra)/\ra<12 by
   have:=of_decide_eq_false HB.u
   by_cases e1:ra= -1
   .omega
   cases e2:Bo ra 0 11
   .exact absurd ⟨e1,.inl e2⟩ this
   have:=Aa.1 e2
   omega)
  clear HP HB;obtain⟨E,D,K,x3⟩:=S2.xs;obtain⟨y0,y1,y2,y3,y4,y5⟩:=S2.ys6;obtain⟨bt,bm,_,_⟩:=S2.lts;have hM:=S2.zg;obtain⟨ua,uc,D0,D1,HL⟩:=S2.env (j:=en) (by rw[z.zX];exact gv);have RM:=S2.K.1;have RI:=S2.K.2.1;have CX:=AA (λW (hW:Γ w2 w2 W)=>J0 _ k.mem ra W (RM.below hW) (Ap z.u).1 Ha.2);have CA:=AA (λW (hW:Γ w2 w2 W) v2 (L:A3 W v2 (A8 (FT k.mem ra)))=>by have:=Gr _ v2 _ k.ZJ (FT k.mem ra) (AI k.XX en).PQ W (BN.below RI hW) L (BN.below HL hW) (λf hf=>by have:=zG Ha.2 f ((Gt Ha.2 f).1 hf);have:=z.len;omega) (Cg (Ap z.u).2.1) (JF z gv);rw[Fo (Gt Ha.2)] at this;exact this);generalize BO k.ZJ (Bi k.mem ra) (AI k.XX en).PQ=bb at CA br;clear RM RI HL;go_wp2_with fail;refine BD 14 98 [.p w.heap.size 1,.s gi 12 av,.p w.heap.size 0,.v (.slice am ga cm),.p (w.heap.size+1) 2,.i ra,.z,.p w.heap.size 2,.s ge 3 be,.p (w.heap.size+1) 1,.i ((en:Int)),.p ge (en*2),.p ge (en*2),.v (.slice ua (AI k.XX en).PQ.length uc)] (λix vv ww=>match ix with
   |6=>AE w2 ww vv (A8 (FT k.mem (ra)))
   |_=>True) ?_ ?_ ?_
  .intro i hi o Y a O V A J x2 z
   have cC:=bc J bt y2;have cy:=bc J bt y1
   match i,hi with
   |0,_|2,_|4,_|7,_|9,_|12,_=>exact sP Y z V A
   |1,_=>exact sL Y z V A (hl:=Gi (bc J bm D))
   |3,_=>exact sL Y z V A (hl:=GR (bc J bm E))
   |5,_|10,_=>exact sL Y z V A (hl:=F7 ‹_›)
   |6,_=>exact sC Y z V A (CX _ J) (by rintro e w_ ⟨v',rfl,hO,bf⟩;exact⟨_,rfl,(BS hO J.size),bf⟩)
   |8,_=>exact sL Y z V A (hl:=Ph (bc J bm K))
   |11,_=>exact sI Y z V A (hr:=by clear A V z;go_simp)
   |13,_=>exact sL Y z V A (hl:=Kt (bc J hM D0))
  .intro i hi vv wz fl bs hz
   match i,hi with
   |6,_=>exact(AE.below hz bs)
   |0,_|1,_|2,_|3,_|4,_|5,_|7,_|8,_|9,_|10,_|11,_|12,_|13,_=>exact hz
  intro Z O hR J
  have q1:(Z 1)=.slice gi 12 av:=Be hR 1;have q6:AE w2 O (Z 6) (A8 (FT k.mem (ra))):=Be hR 6;have c7:(Z 13)=.slice ua (AI k.XX en).PQ.length uc:=Be hR 13;clear hR;simp only[Aj,Ae,yL,yI,yJ,yH,q1,c7];simp;generalize Z 6=z6 at q6 ⊢;clear q1 c7;have S3:=AA (S2.below J);obtain⟨a8,c8,e8,_⟩:=q6.rd.open;have HQ:=AA q6.rd;generalize wS _=n8 at e8;subst e8;have gR:=AA J;clear E D K x3 y0 y1 y2 y3 y4 y5 D0 D1 J q6;go_wp2_with fail;refine(CA _ gR _ HQ.u).mono ?_;rintro r w4 ⟨rfl,fs⟩;have S4:=AA (S3.below fs);clear fs gR HQ CA;cases bb
  .have bp:=AA (br.trans (if_pos rfl))
   obtain⟨⟨E,D,K,x3⟩,⟨⟨z0,z1,z2,z3⟩,bu⟩,HE,HR⟩:=S4.yR ay (v:=0) (code:=1) (bp.u) ψ;go_wp2_with ((try simp only[xS,Exit.then]);with_reducible refine yB ?_ rfl HR.u;obtain⟨E0,E1,E2,E3⟩:=HE.u;simp[results,tQ,go_sem,E0,E1,E2,E3])
  have bp:=AA (br.trans (if_neg ψ));clear br;obtain⟨E,D,K,x3⟩:=S4.xs;obtain⟨y0,y1,y2,y3,y4,y5⟩:=S4.ys6;obtain⟨_,_,_,D1,_⟩:=S4.env (j:=en) (by rw[z.zX];exact gv);rw[og.u] at D1;go_upto_if 53 with fail;clear E D K x3 y0 y1 y2 y3 y4 y5 D1;go_cut [] (λO=>SC lo w.heap.size ⟨7,(en:Int),ra,b,c,nm⟩ w O (.slice am ga cm) (.slice gi 12 av) (.slice ge 3 be) (.slice ac nc cc) {k with ZJ:=GF k.ZJ rt})
  case first=>
   by_cases Y:rt<0
   .have t5:¬(0:Int)<=rt:=ω
    go_wp2_with fail;go_meet
    case rel=>exact(by unfold GF;rw[if_neg ω];exact S4.u)
   obtain⟨rn,rfl⟩:∃n:Nat,rt=(n:Int):=⟨rt.toNat,ω⟩
   have ft:rn<12:=by have:=zK z gv;rw[og.u] at this;omega
   have t5:(0:Int)<=(rn:Int):=ω;clear Y;obtain⟨E,D,K,x3⟩:=S4.xs;obtain⟨y0,y1,y2,y3,y4,y5⟩:=S4.ys6;obtain⟨bt,bm,_,_⟩:=S4.lts;have gh:=S4.zx;obtain⟨_,_,d2⟩:=S4.JK (f:=rn) (by show rn<(k.ZJ).length;have:=z.len;omega)
   try simp only at d2
   have gK:=z.yZ ft;generalize hrv:(JK (k.ZJ) rn).r=rv at d2 gK;obtain⟨nr,hnr⟩:∃nr,rv - 1=nr:=⟨_,rfl⟩
   have il:=AA hnr;clear hnr;have jw:(rn:Int)<12:=ω;go_wp2_with fail;refine Ac 10 98 [.p w.heap.size 1,.s gi 12 av,.i ((rn:Int)),.p w.heap.size 1,.s gi 12 av,.i ((rn:Int)),.p gi (rn*3),.p gi (rn*3+2),.i rv,.i nr] (λ_ _ _=>True) ?_ ?_
   .intro i hi o Y a O V A J x2 z
    have bC:=bc J bm D;have bA:=bc J gh d2
    match i,hi with
    |0,_|2,_|3,_|5,_|7,_=>exact sP Y z V A
    |1,_|4,_=>exact sL Y z V A (hl:=Gi ‹_›)
    |6,_=>exact sI Y z V A (hr:=by clear A V z;go_simp)
    |8,_=>exact sL Y z V A (hl:=F7 ‹_›)
    |9,_=>clear bC bA;obtain rfl:=yP Y;have d8:(a.tmps[62]?.getD Θ)=.int .i64 rv:=Bd A 8;clear A V;refine yO ?_;go_simp;exact z _ _ (by show yl .i64 (wU.wrap (rv - 1))=.int .i64 nr;rw[xA _ ω,il.u]) (yN _ _)
   intro Z O hR J
   have q1:(Z 1)=.slice gi 12 av:=Be hR 1;have q2:(Z 2)=.int .i64 rn:=Be hR 2;have q9:(Z 9)=.int .i64 nr:=Be hR 9;clear hR;simp only[Aj,Ae,yL,yI,yJ,yH,q1,q2,q9];simp;clear q1 q2 q9;have SB:=AA (S4.below J);obtain⟨_,_,ib⟩:=SB.JK (f:=rn) (by show rn<(k.ZJ).length;have:=z.len;omega);have Fr:=SB.fzi (rn*3+2);have S5:=SB.info (by show 12=(k.ZJ).length;have:=z.len;omega) (f:=rn) (by show rn<(k.ZJ).length;have:=z.len;omega) (-1)
   try simp only at S5 ib
   rw[hrv] at S5 ib;rw[show rv+ -1=nr by have:=il.u;omega] at S5;replace S5:=AA S5;generalize hW5:O.setCell _ _=W5 at S5;clear E D K x3 y0 y1 y2 y3 y4 y5 d2 J SB;go_wp2_with fail;go_meet
   case rel=>exact(by unfold GF;rw[if_pos ω,yq];exact S5.u)
  case rest=>
  have hX:=eF (o:=rt) z.u;generalize GF k.ZJ rt=an at*;obtain⟨s0,nM⟩:=hX;have S5:=AA hcut;obtain⟨W5,rfl⟩:∃W5,W5=wc:=⟨_,rfl⟩
  clear hcut S4;obtain⟨y0,y1,y2,y3,y4,y5⟩:=S5.ys6;go_upto_if 68 with fail;clear y0 y1 y2 y3 y4 y5;go_cut [] (λO=>SC lo w.heap.size ⟨7,(en:Int),ra,b,c,nm⟩ w O (.slice am ga cm) (.slice gi 12 av) (.slice ge 3 be) (.slice ac nc cc) {k with ZJ:=KV an ra})
  case first=>
   by_cases Y:ra<0
   .have t7:¬(0:Int)<=ra:=ω
    go_wp2_with fail;go_meet
    case rel=>exact(by unfold KV;rw[if_neg ω];exact S5.u)
   obtain⟨X,rfl⟩:∃n:Nat,ra=(n:Int):=⟨ra.toNat,ω⟩
   have cT:X<12:=by have:=Ha.2;omega
   have t7:(0:Int)<=(X:Int):=ω;clear Y;obtain⟨E,D,K,x3⟩:=S5.xs;obtain⟨y0,y1,y2,y3,y4,y5⟩:=S5.ys6;obtain⟨bt,bm,_,_⟩:=S5.lts;have gh:=S5.zx;obtain⟨_,_,d2⟩:=S5.JK (f:=X) (by show X<(an).length;have:=z.len;omega)
   try simp only at d2
   have gK:=nM X cT;generalize hrv:(JK (an) X).r=rv at d2 gK;obtain⟨nr,hnr⟩:∃nr,rv+1=nr:=⟨_,rfl⟩
   have il:=AA hnr;clear hnr;have jw:(X:Int)<12:=ω;go_wp2_with fail;refine Ac 12 98 [.p w.heap.size 1,.s gi 12 av,.p (w.heap.size+1) 2,.i ((X:Int)),.p w.heap.size 1,.s gi 12 av,.p (w.heap.size+1) 2,.i ((X:Int)),.p gi (X*3),.p gi (X*3+2),.i rv,.i nr] (λ_ _ _=>True) ?_ ?_
   .intro i hi o Y a O V A J x2 z
    have bC:=bc J bm D;have bA:=bc J bt y2;have cC:=bc J gh d2
    match i,hi with
    |0,_|2,_|4,_|6,_|9,_=>exact sP Y z V A
    |1,_|5,_=>exact sL Y z V A (hl:=Gi ‹_›)
    |3,_|7,_|10,_=>exact sL Y z V A (hl:=F7 ‹_›)
    |8,_=>exact sI Y z V A (hr:=by clear A V z;go_simp)
    |11,_=>clear bC bA cC;obtain rfl:=yP Y;have gW:(a.tmps[79]?.getD Θ)=.int .i64 rv:=Bd A 10;clear A V;refine yO ?_;go_simp;exact z _ _ (by show yl .i64 (wU.wrap (rv+1))=.int .i64 nr;rw[xA _ ω,il.u]) (yN _ _)
   intro Z O hR J
   have q1:(Z 1)=.slice gi 12 av:=Be hR 1;have q3:(Z 3)=.int .i64 X:=Be hR 3;have f8:(Z 11)=.int .i64 nr:=Be hR 11;clear hR;simp only[Aj,Ae,yL,yI,yJ,yH,q1,q3,f8];simp;clear q1 q3 f8;have SB:=AA (S5.below J);obtain⟨_,_,ib⟩:=SB.JK (f:=X) (by show X<(an).length;have:=z.len;omega);have Fr:=SB.fzi (X*3+2);have S6:=SB.info (by show 12=(an).length;have:=z.len;omega) (f:=X) (by show X<(an).length;have:=z.len;omega) (1)
   try simp only at S6 ib
   rw[hrv] at S6 ib;rw[show rv+1=nr by have:=il.u;omega] at S6;replace S6:=AA S6;generalize hW6:O.setCell _ _=W6 at S6;clear E D K x3 y0 y1 y2 y3 y4 y5 d2 J SB;go_wp2_with fail;go_meet
   case rel=>exact(by unfold KV;rw[if_pos ω,yq];exact S6.u)
  case rest=>
  have S6:=AA hcut;obtain⟨W6,rfl⟩:∃W6,W6=wc:=⟨_,rfl⟩
  clear hcut S5 nM;obtain⟨E,D,K,x3⟩:=S6.xs;obtain⟨y0,y1,y2,y3,y4,y5⟩:=S6.ys6;obtain⟨_,_,D0,D1,_⟩:=S6.env (j:=en) (by show en<k.XX.length;rw[z.zX];exact gv);have Fe:=S6.fze (en*2+1);have T1:=AA (S6.root z.zX.symm (by show en<k.XX.length;rw[z.zX];exact gv) ra);generalize hW7:W6.setCell _ _=W7 at T1;have CD:=AA (λW (h:Ds W (.slice ac nc cc) k.XU)=>Rz (.slice ac nc cc) k.XU (en:Int) W h (by have:=Rt z.u;omega));have kX:=T1.xs.2.2.2;obtain⟨_,yo,_⟩:=T1.ys6;go_wp2_with fail;refine(CD _ T1.K.2.2.2).mono ?_;rintro r w8 ⟨v',rfl,hO,lu⟩;have T2:=AA (T1.XU lu hO);have lC:=AK (T1.below lu).yS.1;have oI:=(T1.below lu).xs.2.2.2;clear E D K x3 y0 y1 y2 y3 y4 y5 kX yo D0 D1 Fe hW7;obtain⟨a9,c9,e9,_,_⟩:=hO.rd.shape;generalize wS _=n9 at e9;subst e9;clear hO lu;generalize hW10:w8.setCell _ _=W10 at T2;obtain⟨⟨E,D,K,x3⟩,⟨⟨z0,z1,z2,z3⟩,bu⟩,HE,HR⟩:=T2.fin ay (v:=0) (code:=0) (bp.u);go_wp2_with ((try simp only[xS,Exit.then]);with_reducible refine yB ?_ rfl HR.u;obtain⟨E0,E1,E2,E3⟩:=HE.u;simp[results,tQ,go_sem,E0,E1,E2,E3])
 have bp:=AA (HP.trans (if_pos (of_decide_eq_true HB.u)))
 clear HP HB;obtain⟨⟨E,D,K,x3⟩,⟨⟨z0,z1,z2,z3⟩,bu⟩,HE,HR⟩:=S2.yR ay (v:=0) (code:=3) (bp.u) ψ;go_wp2_with ((try simp only[xS,Exit.then]);with_reducible refine yB ?_ rfl HR.u;obtain⟨E0,E1,E2,E3⟩:=HE.u;simp[results,tQ,go_sem,E0,E1,E2,E3])
theorem dY{s:ByteArray}(h1:BY ss=true)(L:BT s=true):IS ss s=if(decide (Pb ss s<ss.length)&&decide (Cz ss (Pb ss s)=s))=true then(ss,true) else if ss.length=6 then(ss,false) else(Cp ss (Pb ss s) s,true):=by
 unfold IS;rw[h1,L,<-db h1]
 show BW ss s=_
 unfold BW;rw[bF];rfl
theorem QA{k:Nat}{s:ByteArray}:Cp ss k s=(ss.take k++[s])++ss.drop k:=by simp[Cp]
theorem Oo{x:Φ}(h:w.heap[g]?=some (.cells #[x] T (0,0))):Rd w (.slice g 1 1) 1 1 [x]:=by
 have h0:=yx _ _ 0 _ _ _ h;refine⟨_,_,rfl,yF _,ζ,rfl,nofun,λ_=>⟨g,0,rfl,λj hj=>?_⟩⟩;rw[wK]
 match j,hj with
 |0,_=>exact h0
 |_+1,hj=>exact absurd hj ω
theorem XH{c:Nat}(h:BZ w (.slice a ss.length c) ss)(a':Option Addr)(ha:a'=none->a=none):BZ w (.slice a' 0 (c - ss.length)) (ss.drop ss.length):=by
 obtain⟨ao,c',hv,rI,i5,hl,l3,hc⟩:=h;simp only[xQ] at hv;obtain⟨rfl,_,rfl⟩:=hv;rw[List.drop_length];exact⟨_,_,rfl,yu _,ω,rfl,λh=>by have:=l3 (ha h);omega,λh=>absurd h (Nat.lt_irrefl 0)⟩
theorem MY (v:Φ)(ss:List ByteArray)(s:ByteArray)(w:Ω)(h:BZ w v ss)(hs:Db ss)(hz:s.size<=maxLen):Ξ prog 173 #[v,.string s] w (dS w (IS ss s)):=by
 have C1:=AA (On (Gz v ss w h hs));have C2:=AA (λW=>A7 (En s W hz));obtain⟨pa,c,rfl,hc,i5,w'⟩:=BN.open Fj ψ h;have HR:=AA (λW (hW:Γ w w W)=>BN.below h hW);have HH:=AA w';unfold maxLen at i5;clear h hs hz w';generalize hrv:BY ss=rv at C1;generalize hsv:BT s=sv at C2;have HV:=AA (yj hrv hsv);clear hrv hsv;cases rv
 .have P:=AA (show IS ss s=([],false) by unfold IS;rw[HV.1];rfl)
  go_in;go_wp2_with (refine C1.mono ?_;rintro r w1 ⟨rfl,b1⟩);go_ret2;exact⟨_,by rw[P.u];rfl,by rw[P.u];exact AP.lower (Cn A0 _ _ _) b1.size,b1.alloc b1.size _⟩
 cases sv
 .have P:=AA (show IS ss s=([],false) by unfold IS;rw[HV.1,HV.2];rfl)
  go_in;go_wp2_with fail;refine C1.mono ?_;rintro r w1 ⟨rfl,b1⟩;go_wp2_with (refine(C2 _).mono ?_;rintro r w2 ⟨rfl,b2⟩;have b3:=b1.trans (b2.mono b1.size);clear b1 b2);go_ret2;exact⟨_,by rw[P.u];rfl,by rw[P.u];exact AP.lower (Cn A0 _ _ _) b3.size,b3.alloc b3.size _⟩
 have r5:=(Ew.1 HV.1).2.2
 have HP:=AA (dY (ss:=ss) (s:=s) HV.1 HV.2);go_in;go_wp2_with fail;refine C1.mono ?_;rintro r w1 ⟨rfl,b1⟩;go_wp2_with fail;refine(C2 _).mono ?_;rintro r w2 ⟨rfl,b2⟩;have b3:=b1.trans (b2.mono b1.size);clear b1 b2 C1 C2;go_wp2_with fail;go_loopw [6] (λix wr=>∃k:Nat,k<=ss.length/\ix=.int .i64 k/\(∀j,j<k->OE (Cz ss j) s=true)/\Γ w w wr) (λix _=>ss.length - (intOf ix).toNat)
 exact⟨0,yu _,rfl,λj hj=>absurd hj (xU _),b3⟩
 obtain⟨k,hk,rfl,bE,N⟩:=hrel;have bP:=AA bE;have HB:=AA N;clear bE b3
 by_cases bl:k<ss.length
 .have cp:(k:Int)<(ss.length:Int):=ω
  obtain⟨b,cP,rfl,x1⟩:=(HH.below N).str bl;cases ht:Op.bytesLess (Cz ss k).toList s.toList
  .have iO:=AA (show Pb ss s=k from VD hk bP (λ_=>ht))
   have Ht:=AA ht;clear N
   by_cases he:Cz ss k=s
   .have te:((Cz ss k).toList==s.toList)=true:=by rw[he];simp
    have P:=AA (show IS ss s=(ss,true) by rw[HP.u,iO.u,if_pos (by simp[bl,he])]);clear he HP;go_wp2_with (at_builtin;go_must (refine GG (cs:=A0) rfl rfl 9 (.string ⟨#[]⟩) 1 16 underlying79 Tryz.zT rfl ψ rfl (Cn A0 _ _ _) rfl (HR _ (HB.trans ((AG _ _).mono HB.size))) (IX _) ω ψ χ ?_;intro v' w9 hO ez));have HO:=AA hO;obtain⟨a9,c9,e9,_,_⟩:=hO.rd.shape;generalize wS _=n9 at e9;subst e9;have gL:=AA ((HB.trans ((AG _ _).mono HB.size)).trans (ez.mono HB.size));clear hO ez;go_wp2;go_ret2;exact⟨_,by rw[P.u];rfl,by rw[P.u];exact HO.lower HB.size,gL.u⟩
   have te:((Cz ss k).toList==s.toList)=false:=by
    rw[beq_eq_false_iff_ne];exact λe=>he (ByteArray.ext (Array.toList_inj.mp (by rw[<-xI,<-xI];exact e)))
   have br:=AA (show IS ss s=if ss.length=6 then(ss,false) else(Cp ss k s,true) by rw[HP.u,iO.u,if_neg (by simp[he])]);clear he HP
   by_cases h6:ss.length=6
   .have P:=AA (show IS ss s=(ss,false) by rw[br.u,if_pos h6])
    have mu:(6:Int)<=(ss.length:Int):=ω;clear h6;go_wp2_with (at_builtin;go_must (refine GG (cs:=A0) rfl rfl 9 (.string ⟨#[]⟩) 1 16 underlying79 Tryz.zT rfl ψ rfl (Cn A0 _ _ _) rfl (HR _ (HB.trans ((AG _ _).mono HB.size))) (IX _) ω ψ χ ?_;intro v' w9 hO ez));have HO:=AA hO;obtain⟨a9,c9,e9,_,_⟩:=hO.rd.shape;generalize wS _=n9 at e9;subst e9;have gL:=AA ((HB.trans ((AG _ _).mono HB.size)).trans (ez.mono HB.size));clear hO ez;go_wp2;go_ret2;exact⟨_,by rw[P.u];rfl,by rw[P.u];exact HO.lower HB.size,gL.u⟩
   have P:=AA (show IS ss s=(Cp ss k s,true) by rw[br.u,if_neg h6])
   have mu:¬(6:Int)<=(ss.length:Int):=ω;have pT:k<=c:=ω;clear h6;go_wp2_with fail;refine Cv 14 63 (λix=>ix==7||ix==11) [.z,.v (.slice (some ⟨b,cP,none⟩) ss.length c),.i ((k:Int)),.z,.z,.t s,.z,.z,.v (.slice (some ⟨b,cP,none⟩) ss.length c),.i ((k:Int)),.z,.z,.z,.b true] (λll ix vv ww=>match ix with
    |0=>(ll 4=false->Ly wr.heap.size 9 ww vv)
    |3=>(∀W',Γ wr wr W'->BZ W' vv (ss.take k))
    |4=>(ll 7=false->AP wr.heap.size 9 1 A0 ww vv (ss.take k))
    |6=>(ll 7=false->∃g,vv=.slice (some ⟨g,0,none⟩) 1 1/\ww.heap[g]?=some (.cells #[s] 9 (0,0)))
    |7=>(ll 11=false->AP wr.heap.size 9 1 A0 ww vv (ss.take k++[s]))
    |10=>(∀W',Γ wr wr W'->BZ W' vv (ss.drop k))
    |11|12=>AP wr.heap.size 9 1 A0 ww vv (Cp ss k s)
    |_=>True) (λll ww=>Γ wr wr ww) ?_ ?_ ?_ ?_ ?_ ?_
   .exact Ai (yN _ _) 1
   .intro j hj ll i vv wz fl hi hS ir lw bs hz
    match j,hj with
    |0,_=>exact(λhL=>Ly.below (hz (Do hL)) bs)
    |3,_|10,_=>exact hz
    |4,_|7,_=>exact(λhL=>AP.below (hz (Do hL)) bs)
    |6,_=>exact(λhL=>by obtain⟨g,h0,h1⟩:=hz (Do hL);exact⟨g,h0,AB h1 bs⟩)
    |11,_|12,_=>exact(AP.below hz bs)
    |1,_|2,_|5,_|8,_|9,_|13,_=>exact hz
   .intro ll i wz fl hi hS ir bs hg
    exact hg.trans (bs.mono hg.size)
   .intro i hi hS o Y a O V ll A R J x2 z
    match i,hi,hS with
    |1,_,_|2,_,_|5,_,_|8,_,_|9,_,_|13,_,_=>exact Tj Y z V A R
    |7,_,hs|11,_,hs=>cases hs
    |0,_,_=>obtain rfl:=yP Y;clear A V;refine yO ?_;go_simp;exact z _ _ (λ_=>⟨_,rfl,J.size,yy _ _⟩) (AG _ _)
    |3,_,_=>obtain rfl:=yP Y;have d1:(a.tmps[52]?.getD Θ)=.slice (some ⟨b,cP,none⟩) ss.length c:=Cr A R 1;have d2:(a.tmps[53]?.getD Θ)=.int .i64 k:=Cr A R 2;clear A V;refine yO ?_;go_simp;exact z _ _ (λW' hW=>Us (HR W' (HB.trans (hW.mono HB.size))) rfl ω) (yN _ _)
    |4,_,_=>obtain rfl:=yP Y;have d0:(ll 4=false->Ly wr.heap.size 9 O (a.tmps[51]?.getD Θ)):=Cr A R 0;have d3:(∀W',Γ wr wr W'->BZ W' (a.tmps[54]?.getD Θ) (ss.take k)):=Cr A R 3;have u7:=A6 R 7;clear A V;refine yO ?_;obtain⟨g_,mH,mG,mF⟩:=d0 R.1;obtain⟨v7,w4,bX,r1,r2,_⟩:=ED (lo:=wr.heap.size) (w:=O) (t:=79) (ty:=79) 9 _ 1 16 underlying79 Tryz.zT rfl ψ mF mG (d3 _ J) (IX _) (by rw[yr];omega);refine Bv rfl (Bs mH) (Bs rfl) bX ?_;exact z _ _ (λ_=>r1) r2
    |6,_,_=>obtain rfl:=yP Y;have d5:(a.tmps[56]?.getD Θ)=.string s:=Cr A R 5;have u7:=A6 R 7;clear A V;refine yO ?_;go_simp;exact z _ _ (λ_=>⟨_,rfl,yy _ _⟩) (AG _ _)
    |10,_,_=>obtain rfl:=yP Y;have d8:(a.tmps[59]?.getD Θ)=.slice (some ⟨b,cP,none⟩) ss.length c:=Cr A R 8;have d9:(a.tmps[60]?.getD Θ)=.int .i64 k:=Cr A R 9;have gN:=A6 R 11;clear A V;refine yO ?_;go_simp;rw[show(if c=k then some (⟨b,cP,none⟩:Addr) else some ⟨b,cP+k,none⟩)=some ⟨b,if c=k then cP else cP+k,none⟩ by split<;>rfl];exact z _ _ (λW' hW=>aP (HR W' (HB.trans (hW.mono HB.size))) rfl ω b _ (λh=>⟨rfl,if_neg ω⟩)) (yN _ _)
    |12,_,_=>obtain rfl:=yP Y;have jO:AP wr.heap.size 9 1 A0 O (a.tmps[62]?.getD Θ) (Cp ss k s):=Cr A R 11;have u7:ll 7=true:=R.2.1 7 φ;have gN:ll 11=true:=R.2.1 11 φ;clear A V;refine yO ?_;go_simp;exact z _ _ jO (yN _ _)
   .intro i hi hS o Y a O V ll A R J x2 z
    match i,hi,hS with
    |0,_,hs|1,_,hs|2,_,hs|3,_,hs|4,_,hs|5,_,hs|6,_,hs|8,_,hs|9,_,hs|10,_,hs|12,_,hs|13,_,hs=>cases hs
    |7,_,_=>
     obtain rfl:=yP Y;have d4:(ll 7=false->AP wr.heap.size 9 1 A0 O (a.tmps[55]?.getD Θ) (ss.take k)):=Cr A R 4;have d6:(ll 7=false->∃g,(a.tmps[57]?.getD Θ)=.slice (some ⟨g,0,none⟩) 1 1/\O.heap[g]?=some (.cells #[s] 9 (0,0))):=Cr A R 6;have gN:=A6 R 11;clear A V;refine yO ?_;have D4:=d4 R.1;obtain⟨g6,e6,B6⟩:=d6 R.1;obtain⟨v7,w4,bX,r1,_,r3⟩:=Ib (lo:=wr.heap.size) (w:=O) (t:=79) 79 9 _ 1 16 underlying79 Tryz.zT rfl ψ D4 (Oo B6) (by simp[xR]) (by rw[yr];unfold maxLen;omega) (by rw[yr];omega) J.size;refine Bv rfl (Bs rfl) (Bs e6) bX ?_;have jg:AP wr.heap.size 9 1 A0 w4 v7 (ss.take k++[s]):=by unfold AP;rw[Bq,Es,yz];exact r1
     exact z _ _ (λ_=>jg) (J.trans r3) (λj f3 gg fd hu=>match j,gg with
      |1,_|2,_|3,_|5,_|8,_|9,_|10,_|13,_=>hu
      |0,_=>(λh=>absurd ((Do h).symm.trans (R.2.1 4 φ)) ψ)
      |4,_|6,_=>(λh=>absurd h (by rw[Fh];decide))
      |7,_=>absurd rfl f3
      |11,_=>absurd (gN.symm.trans fd) ψ
      |12,_=>absurd (gN.symm.trans (R.2.2 12 11 fd φ)) ψ)
    |11,_,_=>
     obtain rfl:=yP Y;have d7:(ll 11=false->AP wr.heap.size 9 1 A0 O (a.tmps[58]?.getD Θ) (ss.take k++[s])):=Cr A R 7;have gW:(∀W',Γ wr wr W'->BZ W' (a.tmps[61]?.getD Θ) (ss.drop k)):=Cr A R 10;have u7:ll 7=true:=R.2.1 7 φ;clear A V;refine yO ?_;have D7:=d7 R.1;obtain⟨v7,w4,bX,r1,_,r3⟩:=Ib (lo:=wr.heap.size) (w:=O) (t:=79) 79 9 _ 1 16 underlying79 Tryz.zT rfl ψ D7 (gW _ J) (IX _) (by simp only[yz,yr,xC];unfold maxLen;simp;omega) (by simp only[yz,yr,xC];simp;omega) J.size;refine Bv rfl (Bs rfl) (Bs rfl) bX ?_;have jg:AP wr.heap.size 9 1 A0 w4 v7 (Cp ss k s):=by unfold AP;rw[QA,Bq,yz];exact r1
     exact z _ _ jg (J.trans r3) (λj f3 gg fd hu=>match j,gg with
      |1,_|2,_|3,_|5,_|8,_|9,_|10,_|13,_=>hu
      |0,_=>(λh=>absurd ((Do h).symm.trans (R.2.2 7 4 u7 φ)) ψ)
      |4,_|6,_=>(λh=>absurd ((Do h).symm.trans (u7)) ψ)
      |7,_=>(λh=>absurd h (by rw[Fh];decide))
      |11,_=>absurd rfl f3
      |12,_=>absurd (R.1.symm.trans (R.2.2 12 11 fd φ)) ψ)
   intro Z O ll az hR J
   have cN:AP wr.heap.size 9 1 A0 O (Z 12) (Cp ss k s):=Be hR 12;have c7:(Z 13)=.bool true:=Be hR 13;clear hR;simp only[DD,Bj,yL,yI,yJ,yH,c7];simp;generalize Z 12=z12 at cN ⊢;clear c7;have HO:=AA cN;have gL:=AA (HB.trans (J.mono HB.size));go_wp2;go_ret2;exact⟨_,by rw[P.u];rfl,by rw[P.u];exact HO.lower HB.size,gL.u⟩
  have Ht:=AA (show OE (Cz ss k) s=true from ht)
  go_wp2;go_roundw;exact⟨k+1,ω,ξ,Am bP Ht.u,N⟩;simp[intOf];omega
 obtain rfl:k=ss.length:=ω;have iO:=AA (show Pb ss s=ss.length from VD hk bP (λh=>absurd h ω));have br:=AA (show IS ss s=if ss.length=6 then(ss,false) else(Cp ss ss.length s,true) by rw[HP.u,iO.u,if_neg χ]);clear HP
 by_cases h6:ss.length=6
 .have P:=AA (show IS ss s=(ss,false) by rw[br.u,if_pos h6])
  have mu:(6:Int)<=(ss.length:Int):=ω;clear h6;go_wp2_with (at_builtin;go_must (refine GG (cs:=A0) rfl rfl 9 (.string ⟨#[]⟩) 1 16 underlying79 Tryz.zT rfl ψ rfl (Cn A0 _ _ _) rfl (HR _ (HB.trans ((AG _ _).mono HB.size))) (IX _) ω ψ χ ?_;intro v' w9 hO ez));have HO:=AA hO;obtain⟨a9,c9,e9,_,_⟩:=hO.rd.shape;generalize wS _=n9 at e9;subst e9;have gL:=AA ((HB.trans ((AG _ _).mono HB.size)).trans (ez.mono HB.size));clear hO ez;go_wp2;go_ret2;exact⟨_,by rw[P.u];rfl,by rw[P.u];exact HO.lower HB.size,gL.u⟩
 have P:=AA (show IS ss s=(Cp ss ss.length s,true) by rw[br.u,if_neg h6])
 have mu:¬(6:Int)<=(ss.length:Int):=ω;have pT:ss.length<=c:=ω;clear h6;go_wp2_with fail;refine Cv 14 63 (λix=>ix==7||ix==11) [.z,.v (.slice pa ss.length c),.i ((ss.length:Int)),.z,.z,.t s,.z,.z,.v (.slice pa ss.length c),.i ((ss.length:Int)),.z,.z,.z,.b true] (λll ix vv ww=>match ix with
  |0=>(ll 4=false->Ly wr.heap.size 9 ww vv)
  |3=>(∀W',Γ wr wr W'->BZ W' vv (ss.take ss.length))
  |4=>(ll 7=false->AP wr.heap.size 9 1 A0 ww vv (ss.take ss.length))
  |6=>(ll 7=false->∃g,vv=.slice (some ⟨g,0,none⟩) 1 1/\ww.heap[g]?=some (.cells #[s] 9 (0,0)))
  |7=>(ll 11=false->AP wr.heap.size 9 1 A0 ww vv (ss.take ss.length++[s]))
  |10=>(∀W',Γ wr wr W'->BZ W' vv (ss.drop ss.length))
  |11|12=>AP wr.heap.size 9 1 A0 ww vv (Cp ss ss.length s)
  |_=>True) (λll ww=>Γ wr wr ww) ?_ ?_ ?_ ?_ ?_ ?_
 .exact Ai (yN _ _) 1
 .intro j hj ll i vv wz fl hi hS ir lw bs hz
  match j,hj with
  |0,_=>exact(λhL=>Ly.below (hz (Do hL)) bs)
  |3,_|10,_=>exact hz
  |4,_|7,_=>exact(λhL=>AP.below (hz (Do hL)) bs)
  |6,_=>exact(λhL=>by obtain⟨g,h0,h1⟩:=hz (Do hL);exact⟨g,h0,AB h1 bs⟩)
  |11,_|12,_=>exact(AP.below hz bs)
  |1,_|2,_|5,_|8,_|9,_|13,_=>exact hz
 .intro ll i wz fl hi hS ir bs hg
  exact hg.trans (bs.mono hg.size)
 .intro i hi hS o Y a O V ll A R J x2 z
  match i,hi,hS with
  |1,_,_|2,_,_|5,_,_|8,_,_|9,_,_|13,_,_=>exact Tj Y z V A R
  |7,_,hs|11,_,hs=>cases hs
  |0,_,_=>obtain rfl:=yP Y;clear A V;refine yO ?_;go_simp;exact z _ _ (λ_=>⟨_,rfl,J.size,yy _ _⟩) (AG _ _)
  |3,_,_=>obtain rfl:=yP Y;have d1:(a.tmps[52]?.getD Θ)=.slice pa ss.length c:=Cr A R 1;have d2:(a.tmps[53]?.getD Θ)=.int .i64 ((ss.length:Int)):=Cr A R 2;clear A V;refine yO ?_;go_simp;exact z _ _ (λW' hW=>Us (HR W' (HB.trans (hW.mono HB.size))) rfl ω) (yN _ _)
  |4,_,_=>obtain rfl:=yP Y;have d0:(ll 4=false->Ly wr.heap.size 9 O (a.tmps[51]?.getD Θ)):=Cr A R 0;have d3:(∀W',Γ wr wr W'->BZ W' (a.tmps[54]?.getD Θ) (ss.take ss.length)):=Cr A R 3;have u7:=A6 R 7;clear A V;refine yO ?_;obtain⟨g_,mH,mG,mF⟩:=d0 R.1;obtain⟨v7,w4,bX,r1,r2,_⟩:=ED (lo:=wr.heap.size) (w:=O) (t:=79) (ty:=79) 9 _ 1 16 underlying79 Tryz.zT rfl ψ mF mG (d3 _ J) (IX _) (by rw[yr];omega);refine Bv rfl (Bs mH) (Bs rfl) bX ?_;exact z _ _ (λ_=>r1) r2
  |6,_,_=>obtain rfl:=yP Y;have d5:(a.tmps[56]?.getD Θ)=.string s:=Cr A R 5;have u7:=A6 R 7;clear A V;refine yO ?_;go_simp;exact z _ _ (λ_=>⟨_,rfl,yy _ _⟩) (AG _ _)
  |10,_,_=>
   obtain rfl:=yP Y;have d8:(a.tmps[59]?.getD Θ)=.slice pa ss.length c:=Cr A R 8;have d9:(a.tmps[60]?.getD Θ)=.int .i64 ((ss.length:Int)):=Cr A R 9;have gN:=A6 R 11;clear A V;refine yO ?_;go_simp
   rcases pa with _|ad
   .go_simp
    exact z _ _ (λW' hW=>XH (HR W' (HB.trans (hW.mono HB.size))) none (λ_=>rfl)) (yN _ _)
   go_simp
   exact z _ _ (λW' hW=>XH (HR W' (HB.trans (hW.mono HB.size))) _ (λh=>by split at h<;>cases h)) (yN _ _)
  |12,_,_=>obtain rfl:=yP Y;have jO:AP wr.heap.size 9 1 A0 O (a.tmps[62]?.getD Θ) (Cp ss ss.length s):=Cr A R 11;have u7:ll 7=true:=R.2.1 7 φ;have gN:ll 11=true:=R.2.1 11 φ;clear A V;refine yO ?_;go_simp;exact z _ _ jO (yN _ _)
 .intro i hi hS o Y a O V ll A R J x2 z
  match i,hi,hS with
  |0,_,hs|1,_,hs|2,_,hs|3,_,hs|4,_,hs|5,_,hs|6,_,hs|8,_,hs|9,_,hs|10,_,hs|12,_,hs|13,_,hs=>cases hs
  |7,_,_=>
   obtain rfl:=yP Y;have d4:(ll 7=false->AP wr.heap.size 9 1 A0 O (a.tmps[55]?.getD Θ) (ss.take ss.length)):=Cr A R 4;have d6:(ll 7=false->∃g,(a.tmps[57]?.getD Θ)=.slice (some ⟨g,0,none⟩) 1 1/\O.heap[g]?=some (.cells #[s] 9 (0,0))):=Cr A R 6;have gN:=A6 R 11;clear A V;refine yO ?_;have D4:=d4 R.1;obtain⟨g6,e6,B6⟩:=d6 R.1;obtain⟨v7,w4,bX,r1,_,r3⟩:=Ib (lo:=wr.heap.size) (w:=O) (t:=79) 79 9 _ 1 16 underlying79 Tryz.zT rfl ψ D4 (Oo B6) (by simp[xR]) (by rw[yr];unfold maxLen;omega) (by rw[yr];omega) J.size;refine Bv rfl (Bs rfl) (Bs e6) bX ?_;have jg:AP wr.heap.size 9 1 A0 w4 v7 (ss.take ss.length++[s]):=by unfold AP;rw[Bq,Es,yz];exact r1
   exact z _ _ (λ_=>jg) (J.trans r3) (λj f3 gg fd hu=>match j,gg with
    |1,_|2,_|3,_|5,_|8,_|9,_|10,_|13,_=>hu
    |0,_=>(λh=>absurd ((Do h).symm.trans (R.2.1 4 φ)) ψ)
    |4,_|6,_=>(λh=>absurd h (by rw[Fh];decide))
    |7,_=>absurd rfl f3
    |11,_=>absurd (gN.symm.trans fd) ψ
    |12,_=>absurd (gN.symm.trans (R.2.2 12 11 fd φ)) ψ)
  |11,_,_=>
   obtain rfl:=yP Y;have d7:(ll 11=false->AP wr.heap.size 9 1 A0 O (a.tmps[58]?.getD Θ) (ss.take ss.length++[s])):=Cr A R 7;have gW:(∀W',Γ wr wr W'->BZ W' (a.tmps[61]?.getD Θ) (ss.drop ss.length)):=Cr A R 10;have u7:ll 7=true:=R.2.1 7 φ;clear A V;refine yO ?_;have D7:=d7 R.1;obtain⟨v7,w4,bX,r1,_,r3⟩:=Ib (lo:=wr.heap.size) (w:=O) (t:=79) 79 9 _ 1 16 underlying79 Tryz.zT rfl ψ D7 (gW _ J) (IX _) (by simp only[yz,yr,xC];unfold maxLen;simp;omega) (by simp only[yz,yr,xC];simp;omega) J.size;refine Bv rfl (Bs rfl) (Bs rfl) bX ?_;have jg:AP wr.heap.size 9 1 A0 w4 v7 (Cp ss ss.length s):=by unfold AP;rw[QA,Bq,yz];exact r1
   exact z _ _ jg (J.trans r3) (λj f3 gg fd hu=>match j,gg with
    |1,_|2,_|3,_|5,_|8,_|9,_|10,_|13,_=>hu
    |0,_=>(λh=>absurd ((Do h).symm.trans (R.2.2 7 4 u7 φ)) ψ)
    |4,_|6,_=>(λh=>absurd ((Do h).symm.trans (u7)) ψ)
    |7,_=>(λh=>absurd h (by rw[Fh];decide))
    |11,_=>absurd rfl f3
    |12,_=>absurd (R.1.symm.trans (R.2.2 12 11 fd φ)) ψ)
 intro Z O ll az hR J
 have cN:AP wr.heap.size 9 1 A0 O (Z 12) (Cp ss ss.length s):=Be hR 12;have c7:(Z 13)=.bool true:=Be hR 13;clear hR;simp only[DD,Bj,yL,yI,yJ,yH,c7];simp;generalize Z 12=z12 at cN ⊢;clear c7;have HO:=AA cN;have gL:=AA (HB.trans (J.mono HB.size));go_wp2;go_ret2;exact⟨_,by rw[P.u];rfl,by rw[P.u];exact HO.lower HB.size,gL.u⟩
theorem Ep.PQ{HL:List Nat}{W':Ω}{ge:Nat}(h:Ep T cs HL lo g b0 w W m i (.slice ge n cg) c k)(hn:n=k.XX.length)(N:Γ W W W')(hj:j<k.XX.length){ss:List ByteArray}(hu:AP W.heap.size 9 1 A0 W' u ss):
 Ep T cs HL lo g b0 w (W'.setCell (ge,j*2) u) m i (.slice ge n cg) c {k with XX:=An k.XX j (BV ss)}:=by
 have S:=h.yS.PQ hn h.lo N hj hu;have h':=h.below N;obtain⟨ps,o⟩:=h'.yS.2.2.2.2.1;obtain⟨c2,L⟩:=BB o.1 ge rfl;exact⟨S.1,As h'.yU S.2.1 (Ca L h'.yU h.ty.2.2.1),AM h'.bel S.2.1 S.2.2 h'.lo,yM h'.lo S.2.1.size,h.ty,h'.kf.row S.2.1 L ψ,λb hr=>⟨(h.rs b hr).1,As (h'.rs b hr).2 S.2.1 (Ca L (h'.rs b hr).2 ψ)⟩⟩
theorem Tm (h:Dy lo w mv iv ev cv k)(ay:lo<=w.heap.size)(hk:Dg k)(call:AV)(he:0<=call.e/\call.e<3)(L:call.k=8∨call.k=9)(f2:call.nm.size<=maxLen):
 Ξ prog 195 #[.agg #[mv,iv,ev,cv],.agg call.cs] w (L2 lo w (Ad k call)):=by
 have bK:=SC.start h ay call;obtain⟨ge,be,e9,_,_⟩:=bK.XX (by rw[hk.zX];omega);rw[hk.zX] at e9;obtain⟨gi,av,e8,_,_⟩:=bK.ZJ (by rw[hk.len];omega);rw[hk.len] at e8;obtain⟨am,ga,cm,ai,ni,ci,ae,gO,ce,ac,nc,cc,em,ei,ee,ec⟩:=bK.Dq;subst e8 e9 em ec;clear ei ee;have S0:=AA bK;obtain⟨kk,e,ra,b,c,nm⟩:=call;simp only at he L f2;obtain⟨en,rfl⟩:∃n:Nat,e=(n:Int):=⟨e.toNat,ω⟩
 have gv:en<3:=ω;have jt:(en:Int)<3:=ω;simp only[AV.cs] at S0 ⊢;have z:=AA hk;have CR:=AA (λW=>A7 (En nm W f2));have HN:=AA f2;have CM:=AA (λW (h:Gf W (.slice ge 3 be) k.XX)=>KQ (.slice am ga cm) (.slice gi 12 av) (.slice ge 3 be) (.slice ac nc cc) k en nm W h hk gv f2);obtain⟨E,D,K,x3⟩:=S0.xs;obtain⟨y0,y1,y2,y3,y4,y5⟩:=S0.ys6;have HP:dv (Ad k ⟨kk,(en:Int),ra,b,c,nm⟩=if Bo ra 0 2=false∨BT nm=false∨(kk=9/\ra=(en:Int)) then(k,0,3)
  else if Ci (AI k.XX en).PQ nm=false then(k,0,1)
  else if kk=8 then(if(BW (AI k.XX ra.toNat).PQ nm).2=false then(k,0,4) else({k with XX:=An k.XX ra.toNat (BV (BW (AI k.XX ra.toNat).PQ nm).1)},0,0))
  else(if BO k.ZJ (Bi k.mem (AI k.XX ra.toNat).root) (Bk (AI k.XX ra.toNat).PQ nm)=false then(k,0,2) else({k with XX:=An k.XX ra.toNat (BV (Bk (AI k.XX ra.toNat).PQ nm))},0,0))):=by
  refine gf ?_
  rcases L with rfl|rfl
  .rw[WD rfl]
   unfold Ft Fg;simp
  rw[VA rfl]
  unfold EX Fg;simp only[yq]
  by_cases a1:Bo ra 0 2=false<;>by_cases a2:BT nm=false<;>by_cases a3:ra=(en:Int)<;>simp[a1,a2,a3]
 have H2:=AA L;clear h bK he hk L f2;generalize hW0:((w.alloc _).alloc _).alloc _=W0 at*;cases e1:Bo ra 0 2
 .have bp:=AA (show Ad k ⟨kk,(en:Int),ra,b,c,nm⟩=(k,0,3) by rw[HP.u,if_pos (.inl e1)])
  have E1:=AA e1;clear e1 HP;go_in;go_wp2_with fail;refine(A7 (J7 _ _)).mono ?_;rintro r w1 ⟨rfl,cl⟩;rw[E1.u];have S1:=AA (S0.below cl);clear E D K x3 y0 y1 y2 y3 y4 y5 cl hW0;obtain⟨⟨E,D,K,x3⟩,⟨⟨z0,z1,z2,z3⟩,bu⟩,HE,HR⟩:=S1.yR ay (v:=0) (code:=3) (bp.u) ψ;go_wp2_with ((try simp only[xS,Exit.then]);with_reducible refine yB ?_ rfl HR.u;obtain⟨E0,E1,E2,E3⟩:=HE.u;simp[results,wk,go_sem,E0,E1,E2,E3])
 have E1:=AA e1
 have ab:=Aa.1 e1;obtain⟨X,rfl⟩:∃n:Nat,ra=(n:Int):=⟨ra.toNat,ω⟩
 have cT:X<3:=ω;have iL:(X:Int)<3:=ω;generalize hrv:BT nm=rv at CR;have HV:=AA hrv;clear e1 ab hrv;cases rv
 .have bp:=AA (show Ad k ⟨kk,(en:Int),(X:Int),b,c,nm⟩=(k,0,3) by rw[HP.u,if_pos (.inr (.inl HV.u))])
  clear HP;go_in;go_wp2_with fail;refine(A7 (J7 _ _)).mono ?_;rintro r w1 ⟨rfl,cl⟩;rw[E1.u];have S1:=AA (S0.below cl);clear E D K x3 y0 y1 y2 y3 y4 y5 cl hW0;obtain⟨y0,y1,y2,y3,y4,y5⟩:=S1.ys6;go_wp2_with fail;refine(CR _).mono ?_;rintro r w2 ⟨rfl,bf⟩;have S2:=AA (S1.below bf);clear y0 y1 y2 y3 y4 y5 bf;obtain⟨⟨E,D,K,x3⟩,⟨⟨z0,z1,z2,z3⟩,bu⟩,HE,HR⟩:=S2.yR ay (v:=0) (code:=3) (bp.u) ψ;go_wp2_with ((try simp only[xS,Exit.then]);with_reducible refine yB ?_ rfl HR.u;obtain⟨E0,E1,E2,E3⟩:=HE.u;simp[results,wk,go_sem,E0,E1,E2,E3])
 rcases H2.u with rfl|rfl
 .have br:=AA (show Ad k ⟨8,(en:Int),(X:Int),b,c,nm⟩=if Ci (AI k.XX en).PQ nm=false then(k,0,1) else if(BW (AI k.XX X).PQ nm).2=false then(k,0,4) else({k with XX:=An k.XX X (BV (BW (AI k.XX X).PQ nm).1)},0,0) by rw[HP.u,if_neg (by rintro(x|x|⟨x,_⟩);(· rw[E1.u] at x;cases x);(· rw[HV.u] at x;cases x);cases x)];rfl)
  clear HP;go_in;go_wp2_with fail;refine(A7 (J7 _ _)).mono ?_;rintro r w1 ⟨rfl,cl⟩;rw[E1.u];have S1:=AA (S0.below cl);clear E D K x3 y0 y1 y2 y3 y4 y5 cl hW0;obtain⟨y0,y1,y2,y3,y4,y5⟩:=S1.ys6;go_wp2_with fail;refine(CR _).mono ?_;rintro r w2 ⟨rfl,bf⟩;have S2:=AA (S1.below bf);clear y0 y1 y2 y3 y4 y5 bf;obtain⟨y0,y1,y2,y3,y4,y5⟩:=S2.ys6;obtain⟨E,D,K,x3⟩:=S2.xs;generalize hmb:Ci (AI k.XX en).PQ nm=mb at CM br;clear hmb;go_wp2_with fail;refine(CM _ S2.K.2.2.1).mono ?_;rintro r w4 ⟨rfl,fs⟩;have S4:=AA (S2.below fs);clear E D K x3 y0 y1 y2 y3 y4 y5 fs CM;cases mb
  .have bp:=AA (show Ad k ⟨8,(en:Int),(X:Int),b,c,nm⟩=(k,0,1) by rw[br.u];rfl)
   obtain⟨⟨E,D,K,x3⟩,⟨⟨z0,z1,z2,z3⟩,bu⟩,HE,HR⟩:=S4.yR ay (v:=0) (code:=1) (bp.u) ψ;go_wp2_with ((try simp only[xS,Exit.then]);with_reducible refine yB ?_ rfl HR.u;obtain⟨E0,E1,E2,E3⟩:=HE.u;simp[results,wk,go_sem,E0,E1,E2,E3])
  skip
  obtain⟨E,D,K,x3⟩:=S4.xs;obtain⟨y0,y1,y2,y3,y4,y5⟩:=S4.ys6;obtain⟨bt,bm,_,_⟩:=S4.lts;have hM:=S4.zg;obtain⟨ua,uc,D0,D1,HL⟩:=S4.env (j:=X) (by rw[z.zX];exact cT);have CP:=AA (λW (hW:Γ w4 w4 W)=>by have:=MY _ (AI k.XX X).PQ nm W (BN.below HL hW) (JF z cT) HN.u;rw[show IS (AI k.XX X).PQ nm=BW (AI k.XX X).PQ nm by unfold IS;rw[show BY (AI k.XX X).PQ=true from z.PQ X cT,HV.u];rfl] at this;exact this);have bp:=AA (show Ad k ⟨8,(en:Int),(X:Int),b,c,nm⟩=if(BW (AI k.XX X).PQ nm).2=false then(k,0,4) else({k with XX:=An k.XX X (BV (BW (AI k.XX X).PQ nm).1)},0,0) by rw[br.u];rfl);generalize BW (AI k.XX X).PQ nm=res at CP bp;clear HL br;go_wp2_with fail;refine BD 14 102 [.p w.heap.size 2,.s ge 3 be,.p (w.heap.size+1) 2,.i ((X:Int)),.p ge (X*2),.p ge (X*2),.v (.slice ua (AI k.XX X).PQ.length uc),.p (w.heap.size+1) 5,.t nm,.z,.z,.z,.b (res.2),.z] (λix vv ww=>match ix with
   |9|10=>∃v',vv=.tuple #[v',res.2]/\AP w4.heap.size 9 1 A0 ww v' res.1
   |11|13=>AP w4.heap.size 9 1 A0 ww vv res.1
   |_=>True) ?_ ?_ ?_
  .intro i hi o Y a O V A J x2 z
   match i,hi with
   |0,_|2,_|5,_|7,_=>exact sP Y z V A
   |1,_=>exact sL Y z V A (hl:=Ph (bc J bm K))
   |3,_=>exact sL Y z V A (hl:=F7 (bc J bt y2))
   |4,_=>exact sI Y z V A (hr:=by clear A V z;go_simp)
   |6,_=>exact sL Y z V A (hl:=Kt (bc J hM D0))
   |8,_=>exact sL Y z V A (hl:=Zq (bc J bt y5))
   |9,_=>exact sC Y z V A (CP _ J) (by rintro e w_ ⟨v',rfl,hO,bf⟩;exact⟨_,rfl,⟨_,rfl,hO.lower J.size⟩,bf⟩)
   |10,_=>
    obtain rfl:=yP Y;have d9:∃v',(a.tmps[54]?.getD Θ)=.tuple #[v',res.2]/\AP w4.heap.size 9 1 A0 O v' res.1:=Bd A 9
    clear A V;refine yO ?_;go_simp;exact z _ _ d9 (yN _ _)
   |11,_=>
    obtain rfl:=yP Y;have gW:∃v',(a.tmps[44]?.getD Θ)=.tuple #[v',res.2]/\AP w4.heap.size 9 1 A0 O v' res.1:=Bd A 10
    clear A V;obtain⟨v',gW,hO⟩:=gW;refine yO ?_;go_simp;exact z _ _ hO (yN _ _)
   |12,_=>
    obtain rfl:=yP Y;have gW:∃v',(a.tmps[44]?.getD Θ)=.tuple #[v',res.2]/\AP w4.heap.size 9 1 A0 O v' res.1:=Bd A 10
    clear A V;obtain⟨v',gW,hO⟩:=gW;refine yO ?_;go_simp;exact z _ _ rfl (yN _ _)
   |13,_=>obtain rfl:=yP Y;have jO:AP w4.heap.size 9 1 A0 O (a.tmps[55]?.getD Θ) res.1:=Bd A 11;clear A V;refine yO ?_;go_simp;exact z _ _ jO (yN _ _)
  .intro i hi vv wz fl bs hz
   match i,hi with
   |9,_|10,_=>exact(by obtain⟨v',h0,h1⟩:=hz;exact⟨v',h0,AP.below h1 bs⟩)
   |11,_|13,_=>exact(AP.below hz bs)
   |0,_|1,_|2,_|3,_|4,_|5,_|6,_|7,_|8,_|12,_=>exact hz
  intro Z O hR J
  have cN:(Z 12)=.bool (res.2):=Be hR 12;have c7:AP w4.heap.size 9 1 A0 O (Z 13) res.1:=Be hR 13;clear hR;simp only[Aj,Ae,yL,yI,yJ,yH,cN];simp;generalize Z 13=z13 at c7 ⊢;clear cN;have S5:=AA (S4.below J);have HO:=AA c7;have gR:=AA J;obtain⟨a9,c9,e9,_,_⟩:=c7.rd.shape;generalize wS _=n9 at e9;subst e9;clear E D K x3 y0 y1 y2 y3 y4 y5 D0 D1 c7 J;obtain⟨rs,rb⟩:=res;cases rb
  focus
   have fk:=AA (show Ad k ⟨8,(en:Int),(X:Int),b,c,nm⟩=(k,0,4) by rw[bp.u];rfl)
   obtain⟨⟨E,D,K,x3⟩,⟨⟨z0,z1,z2,z3⟩,bu⟩,HE,HR⟩:=S5.yR ay (v:=0) (code:=4) (fk.u) ψ
  rotate_left
  focus
   have fk:=AA (show Ad k ⟨8,(en:Int),(X:Int),b,c,nm⟩=({k with XX:=An k.XX X (BV rs)},0,0) by rw[bp.u];rfl)
   have T:=AA (S4.PQ z.zX.symm gR (j:=X) (by rw[z.zX];exact cT) HO.u);obtain⟨_,_,qr,_,_⟩:=S5.env (j:=X) (by rw[z.zX];exact cT);have Fe:=S5.fze (X*2);have oK:=S5.xs.2.2.1;obtain⟨_,_,yo,_⟩:=S5.ys6;generalize hW9:O.setCell _ _=W9 at T;obtain⟨⟨E,D,K,x3⟩,⟨⟨z0,z1,z2,z3⟩,bu⟩,HE,HR⟩:=T.fin ay (v:=0) (code:=0) (fk.u)
  rotate_left
  all_goals
   go_wp2_with ((try simp only[xS,Exit.then]);with_reducible refine yB ?_ rfl HR.u;obtain⟨E0,E1,E2,E3⟩:=HE.u;simp[results,wk,go_sem,E0,E1,E2,E3])
 by_cases ee:X=en
 .have bp:=AA (show Ad k ⟨9,(en:Int),(X:Int),b,c,nm⟩=(k,0,3) by rw[HP.u,if_pos (.inr (.inr ⟨rfl,by rw[ee]⟩))])
  have te:((X:Int)==(en:Int))=true:=by rw[ee];simp
  clear HP ee;go_in;go_wp2_with fail;refine(A7 (J7 _ _)).mono ?_;rintro r w1 ⟨rfl,cl⟩;rw[E1.u];have S1:=AA (S0.below cl);clear E D K x3 y0 y1 y2 y3 y4 y5 cl hW0;obtain⟨y0,y1,y2,y3,y4,y5⟩:=S1.ys6;go_wp2_with fail;refine(CR _).mono ?_;rintro r w2 ⟨rfl,bf⟩;have S2:=AA (S1.below bf);clear y0 y1 y2 y3 y4 y5 bf;obtain⟨y0,y1,y2,y3,y4,y5⟩:=S2.ys6;obtain⟨⟨E,D,K,x3⟩,⟨⟨z0,z1,z2,z3⟩,bu⟩,HE,HR⟩:=S2.yR ay (v:=0) (code:=3) (bp.u) ψ;go_wp2_with ((try simp only[xS,Exit.then]);with_reducible refine yB ?_ rfl HR.u;obtain⟨E0,E1,E2,E3⟩:=HE.u;simp[results,wk,go_sem,E0,E1,E2,E3])
 have br:=AA (show Ad k ⟨9,(en:Int),(X:Int),b,c,nm⟩=if Ci (AI k.XX en).PQ nm=false then(k,0,1) else if BO k.ZJ (Bi k.mem (AI k.XX X).root) (Bk (AI k.XX X).PQ nm)=false then(k,0,2) else({k with XX:=An k.XX X (BV (Bk (AI k.XX X).PQ nm))},0,0) by rw[HP.u,if_neg (by rintro(x|x|⟨_,x⟩);(· rw[E1.u] at x;cases x);(· rw[HV.u] at x;cases x);exact ee ω)];rfl)
 have te:((X:Int)==(en:Int))=false:=η;clear HP ee;go_in;go_wp2_with fail;refine(A7 (J7 _ _)).mono ?_;rintro r w1 ⟨rfl,cl⟩;rw[E1.u];have S1:=AA (S0.below cl);clear E D K x3 y0 y1 y2 y3 y4 y5 cl hW0;obtain⟨y0,y1,y2,y3,y4,y5⟩:=S1.ys6;go_wp2_with fail;refine(CR _).mono ?_;rintro r w2 ⟨rfl,bf⟩;have S2:=AA (S1.below bf);clear y0 y1 y2 y3 y4 y5 bf;obtain⟨y0,y1,y2,y3,y4,y5⟩:=S2.ys6;obtain⟨E,D,K,x3⟩:=S2.xs;generalize hmb:Ci (AI k.XX en).PQ nm=mb at CM br;clear hmb;go_wp2_with fail;refine(CM _ S2.K.2.2.1).mono ?_;rintro r w4 ⟨rfl,fs⟩;have S4:=AA (S2.below fs);clear E D K x3 y0 y1 y2 y3 y4 y5 fs CM;cases mb
 .have bp:=AA (show Ad k ⟨9,(en:Int),(X:Int),b,c,nm⟩=(k,0,1) by rw[br.u];rfl)
  obtain⟨⟨E,D,K,x3⟩,⟨⟨z0,z1,z2,z3⟩,bu⟩,HE,HR⟩:=S4.yR ay (v:=0) (code:=1) (bp.u) ψ;go_wp2_with ((try simp only[xS,Exit.then]);with_reducible refine yB ?_ rfl HR.u;obtain⟨E0,E1,E2,E3⟩:=HE.u;simp[results,wk,go_sem,E0,E1,E2,E3])
 skip
 obtain⟨E,D,K,x3⟩:=S4.xs;obtain⟨y0,y1,y2,y3,y4,y5⟩:=S4.ys6;obtain⟨bt,bm,_,_⟩:=S4.lts;have hM:=S4.zg;obtain⟨ua,uc,D0,D1,HL⟩:=S4.env (j:=X) (by rw[z.zX];exact cT);have lU:=JF z cT;have CD:=AA (λW (hW:Γ w4 w4 W)=>We _ (AI k.XX X).PQ nm W (BN.below HL hW) lU HN (by have:(AI k.XX X).PQ.length<=6:=(Ew.1 (z.PQ X cT)).2.2;omega));have bp:=AA (show Ad k ⟨9,(en:Int),(X:Int),b,c,nm⟩=if BO k.ZJ (Bi k.mem (AI k.XX X).root) (Bk (AI k.XX X).PQ nm)=false then(k,0,2) else({k with XX:=An k.XX X (BV (Bk (AI k.XX X).PQ nm))},0,0) by rw[br.u];rfl);have lV:Db (Bk (AI k.XX X).PQ nm):=λs hs=>lU s (List.mem_filter.1 hs).1
 generalize Bk (AI k.XX X).PQ nm=rs at CD bp lV;have qF:=AA lV;clear HL br lU lV;go_wp2_with fail;refine Ac 9 102 [.p w.heap.size 2,.s ge 3 be,.p (w.heap.size+1) 2,.i ((X:Int)),.p ge (X*2),.p ge (X*2),.v (.slice ua (AI k.XX X).PQ.length uc),.p (w.heap.size+1) 5,.t nm] (λ_ _ _=>True) ?_ ?_
 .intro i hi o Y a O V A J x2 z
  match i,hi with
  |0,_|2,_|5,_|7,_=>exact sP Y z V A
  |1,_=>exact sL Y z V A (hl:=Ph (bc J bm K))
  |3,_=>exact sL Y z V A (hl:=F7 (bc J bt y2))
  |4,_=>exact sI Y z V A (hr:=by clear A V z;go_simp)
  |6,_=>exact sL Y z V A (hl:=Kt (bc J hM D0))
  |8,_=>exact sL Y z V A (hl:=Zq (bc J bt y5))
 intro Z O hR J
 have q6:(Z 6)=.slice ua (AI k.XX X).PQ.length uc:=Be hR 6;have q8:(Z 8)=.string nm:=Be hR 8;clear hR;simp only[Aj,Ae,yL,yI,yJ,yH,q6,q8];simp;clear q6 q8;have gR:=AA J;clear E D K x3 y0 y1 y2 y3 y4 y5 D0 D1 J bt bm hM;go_wp2_with fail;refine(CD _ gR.u).mono ?_;rintro r w5 ⟨v',rfl,hO,f7⟩;have g2:=AA (gR.trans (f7.mono gR.size));have S5:=AA (S4.below g2.u);have HO:=AA (hO.lower gR.size);obtain⟨a9,c9,e9,_,_⟩:=hO.rd.shape;have qR:=AA hO.rd;generalize wS _=n9 at e9;subst e9;clear hO f7 CD;obtain⟨E,D,K,x3⟩:=S5.xs;obtain⟨y0,y1,y2,y3,y4,y5⟩:=S5.ys6;obtain⟨bt,bm,_,_⟩:=S5.lts;have hM:=S5.zg;obtain⟨_,_,D0,D1,_⟩:=S5.env (j:=X) (by rw[z.zX];exact cT);have ft:(AI k.XX X).root<12:=by have:=zK z cT;omega
 have RM:=S5.K.1;have RI:=S5.K.2.1;have CX:=AA (λW (hW:Γ w5 w5 W)=>J0 _ k.mem (AI k.XX X).root W (RM.below hW) (Ap z.u).1 ft);have CA:=AA (λW (hW:Γ w5 w5 W) v2 (L:A3 W v2 (A8 (FT k.mem (AI k.XX X).root)))=>by have:=Gr _ v2 _ k.ZJ (FT k.mem (AI k.XX X).root) rs W (BN.below RI hW) L (BN.below qR hW) (λf hf=>by have:=zG ft f ((Gt ft f).1 hf);have:=z.len;omega) (Cg (Ap z.u).2.1) qF.u;rw[Fo (Gt ft)] at this;exact this);generalize hbb:BO k.ZJ (Bi k.mem (AI k.XX X).root) rs=bb at CA bp;clear hbb RM RI ft;go_wp2_with fail;refine BD 13 102 [.p w.heap.size 1,.s gi 12 av,.p w.heap.size 0,.v (.slice am ga cm),.p w.heap.size 2,.s ge 3 be,.p (w.heap.size+1) 2,.i ((X:Int)),.p ge (X*2),.p ge (X*2+1),.i ((AI k.XX X).root),.z,.v (.slice a9 n9 c9)] (λix vv ww=>match ix with
  |11=>AE w5 ww vv (A8 (FT k.mem (AI k.XX X).root))
  |_=>True) ?_ ?_ ?_
 .intro i hi o Y a O V A J x2 z
  have cz:=bc J bt y2;have cy:=bc J hM D1
  match i,hi with
  |0,_|2,_|4,_|6,_|9,_|12,_=>exact sP Y z V A
  |1,_=>exact sL Y z V A (hl:=Gi (bc J bm D))
  |3,_=>exact sL Y z V A (hl:=GR (bc J bm E))
  |5,_=>exact sL Y z V A (hl:=Ph (bc J bm K))
  |7,_|10,_=>exact sL Y z V A (hl:=F7 ‹_›)
  |8,_=>exact sI Y z V A (hr:=by clear A V z;go_simp)
  |11,_=>exact sC Y z V A (CX _ J) (by rintro e w_ ⟨v9,rfl,hO,bf⟩;exact⟨_,rfl,(BS hO J.size),bf⟩)
 .intro i hi vv wz fl bs hz
  match i,hi with
  |11,_=>exact(AE.below hz bs)
  |0,_|1,_|2,_|3,_|4,_|5,_|6,_|7,_|8,_|9,_|10,_|12,_=>exact hz
 intro Z O hR J
 have q1:(Z 1)=.slice gi 12 av:=Be hR 1;have f8:AE w5 O (Z 11) (A8 (FT k.mem (AI k.XX X).root)):=Be hR 11;have cN:(Z 12)=.slice a9 n9 c9:=Be hR 12;clear hR;simp only[Aj,Ae,yL,yI,yJ,yH,q1,cN];simp;generalize Z 11=z11 at f8 ⊢;clear q1 cN;have HQ:=AA f8.rd;obtain⟨a8,c8,e8,_⟩:=f8.rd.open;generalize wS _=n8 at e8;subst e8;have lI:=AA J;clear E D K x3 y0 y1 y2 y3 y4 y5 D0 D1 J bt bm hM f8;go_wp2_with fail;refine(CA _ lI _ HQ.u).mono ?_;rintro r w7 ⟨rfl,jv⟩;have kQ:=AA ((g2.trans (lI.mono g2.size)).trans (jv.mono (yM g2.size lI.size)));have S7:=AA (S4.below kQ.u);have qT:=AA (AP.below (AP.below HO lI.u) jv);clear jv CA HQ;cases bb
 focus
  have fk:=AA (show Ad k ⟨9,(en:Int),(X:Int),b,c,nm⟩=(k,0,2) by rw[bp.u];rfl)
  obtain⟨⟨E,D,K,x3⟩,⟨⟨z0,z1,z2,z3⟩,bu⟩,HE,HR⟩:=S7.yR ay (v:=0) (code:=2) (fk.u) ψ
 rotate_left
 focus
  have fk:=AA (show Ad k ⟨9,(en:Int),(X:Int),b,c,nm⟩=({k with XX:=An k.XX X (BV rs)},0,0) by rw[bp.u];rfl)
  have T:=AA (S4.PQ z.zX.symm kQ (j:=X) (by rw[z.zX];exact cT) qT.u);obtain⟨_,_,qr,_,_⟩:=S7.env (j:=X) (by rw[z.zX];exact cT);have Fe:=S7.fze (X*2);have oK:=S7.xs.2.2.1;obtain⟨_,_,yo,_⟩:=S7.ys6;generalize hW9:w7.setCell _ _=W9 at T;obtain⟨⟨E,D,K,x3⟩,⟨⟨z0,z1,z2,z3⟩,bu⟩,HE,HR⟩:=T.fin ay (v:=0) (code:=0) (fk.u)
 rotate_left
 all_goals
  go_wp2_with ((try simp only[xS,Exit.then]);with_reducible refine yB ?_ rfl HR.u;obtain⟨E0,E1,E2,E3⟩:=HE.u;simp[results,wk,go_sem,E0,E1,E2,E3])
theorem X5 (h:Dy lo w mv iv ev cv k)(ay:lo<=w.heap.size)(hk:Dg k)(call:AV)(he:0<=call.e/\call.e<3)(L:call.k=10∨call.k=11):
 Ξ prog 196 #[.agg #[mv,iv,ev,cv],.agg call.cs] w (L2 lo w (Ad k call)):=by
 have bK:=SC.start h ay call;have P0:=(ZR (k:=k) L).trans ZE;have gQ:=(Ap hk).1;obtain⟨gm,bi,e7,_⟩:=Ep.mems bK gQ;obtain⟨ge,be,e9,_,_⟩:=bK.XX (by rw[hk.zX];omega);rw[hk.zX] at e9;obtain⟨am,ga,cm,ai,ni,ci,ae,gO,ce,ac,nc,cc,em,ei,ee,ec⟩:=bK.Dq;subst e7 e9 ei ec;clear em ee;have S0:=AA bK;obtain⟨kk,e,ra,b,c,nm⟩:=call;simp only at he L;obtain⟨en,rfl⟩:∃n:Nat,e=(n:Int):=⟨e.toNat,ω⟩
 have gv:en<3:=ω;have jt:(en:Int)<3:=ω;simp only[AV.cs,yq] at S0 P0 ⊢;obtain⟨E,D,K,x3⟩:=S0.xs;obtain⟨y0,y1,y2,y3,y4,y5⟩:=S0.ys6;obtain⟨_,_,_,D1,_⟩:=S0.env (j:=en) (by rw[hk.zX];exact gv);obtain⟨rt,hrt⟩:∃r,(AI k.XX en).root=r:=⟨_,rfl⟩
 rw[hrt] at P0 D1;have ki:=AA hrt;have HP:=AA P0;have z:=AA hk;have g0:=AA gQ;obtain⟨bad,hbad⟩:∃b',decide (Bo ra 0 63=false∨rt<0∨(kk=11/\EJ b=false))=b':=⟨_,rfl⟩
 have HB:=AA hbad;clear h bK he hk P0 gQ hrt hbad L;go_in;go_upto_region 2 with fail;clear D1;go_cut [37] (λpe O=>pe=.bool bad/\SC lo w.heap.size ⟨kk,(en:Int),ra,b,c,nm⟩ w O (.slice gm 12 bi) (.slice ai ni ci) (.slice ge 3 be) (.slice ac nc cc) k)
 case first=>
  go_wp2_with fail;refine(A7 (Fv _ _)).mono ?_;rintro r w1 ⟨rfl,cl⟩;have S1:=AA (S0.below cl);clear E D K x3 y0 y1 y2 y3 y4 y5 cl;obtain⟨y0,y1,y2,y3,y4,y5⟩:=S1.ys6;cases e1:Bo ra 0 63
  .have E1:=AA e1
   clear e1;go_wp2_with fail;go_meet
   case rel=>exact⟨by rw[<-HB.u];simp[E1.u],S1.u⟩
  have E1:=AA e1;clear e1
  by_cases h0:rt<0
  .have H0:=AA h0
   go_wp2_with fail;go_meet
   case rel=>exact⟨by rw[<-HB.u];simp[H0.u],S1.u⟩
  have H0:=AA h0;cases tk:(kk==11)
  .have TK:=AA (show kk≠11 by simpa using tk)
   go_wp2_with fail;go_meet
   case rel=>exact⟨by rw[<-HB.u];simp[E1.u,H0.u,TK.u],S1.u⟩
  have TK:=AA (show kk=11 by simpa using tk);go_wp2_with fail;refine(A7 (DF _ _ _ _)).mono ?_;rintro r w2 ⟨rfl,bf⟩;have S2:=AA (S1.below bf);clear y0 y1 y2 y3 y4 y5 bf;go_wp2_with fail;go_meet
  case rel=>exact⟨by rw[<-HB.u];unfold EJ;cases hw:Bo b 0 9999<;>simp[E1.u,H0.u,TK.u,hw],S2.u⟩
 case rest=>
 obtain⟨rfl,hS⟩:=hcut;have S2:=AA hS;obtain⟨w2,rfl⟩:∃w2,w2=wc:=⟨_,rfl⟩
 clear E D K x3 y0 y1 y2 y3 y4 y5 hS S0;cases bad
 rotate_left
 .have bp:=AA (HP.trans (if_pos (of_decide_eq_true HB.u)))
  clear HP HB;obtain⟨⟨E,D,K,x3⟩,⟨⟨z0,z1,z2,z3⟩,bu⟩,HE,HR⟩:=S2.yR ay (v:=0) (code:=3) (bp.u) ψ;go_wp2_with ((try simp only[xS,Exit.then]);with_reducible refine yB ?_ rfl HR.u;obtain⟨E0,E1,E2,E3⟩:=HE.u;simp[results,vz,go_sem,E0,E1,E2,E3])
 have iE:=HP.trans (if_neg (of_decide_eq_false HB.u));have iV:=of_decide_eq_false HB.u;have ab:=Aa.1 (show Bo ra 0 63=true by cases e1:Bo ra 0 63;(· exact absurd (.inl e1) iV);(· rfl));obtain⟨X,rfl⟩:∃n:Nat,ra=(n:Int):=⟨ra.toNat,ω⟩
 have cT:X<64:=ω;obtain⟨rn,rfl⟩:∃n:Nat,rt=(n:Int):=⟨rt.toNat,by have:¬rt<0:=λx=>iV (.inr (.inl x));omega⟩
 have ft:rn<12:=by have:=zK z gv;rw[ki.u] at this;omega
 simp only[yq] at iE;have mR:=AA iE;clear iE HP HB iV ab;obtain⟨E,D,K,x3⟩:=S2.xs;obtain⟨y0,y1,y2,y3,y4,y5⟩:=S2.ys6;have CF:=AA (SG _ k.XU (en:Int) ((X:Int)/4) w2 S2.K.2.2.2);go_wp2_with fail;refine CF.mono ?_;rintro r w3 ⟨rfl,dg⟩;have S3:=AA (S2.below dg);clear E D K x3 y0 y1 y2 y3 y4 y5 dg CF;obtain⟨E,D,K,x3⟩:=S3.xs;obtain⟨y0,y1,y2,y3,y4,y5⟩:=S3.ys6;have FC:=AA (λh=>Xn (c:=k.XU) (e:=(en:Int)) (p:=((X:Int)/4)) h);generalize hat:H5 k.XU (en:Int) ((X:Int)/4)=at_ at*;have oo:=AA hat;clear hat;go_upto_if 52 with fail;obtain⟨n5,f7⟩:=Ec w3 (.cells #[θ,.int .i64 ((X:Int)%4),υ] 127);have jH:=S3.lts.2.1;have S5:=AA (S3.below f7);have kN:=AA S3.lo;have g2:=AA f7;have qg:=f7.size;clear E D K x3 y0 y1 y2 y3 y4 y5 f7;generalize hW5:w3.alloc _=W5 at*;generalize hqq:w3.heap.size=q at*;have qI:=AA hqq;clear hqq;have N5:=AA n5;clear n5 hW5;have rD:q≠w.heap.size:=ω;have nH:w.heap.size≠q:=ω;go_cut [10,11] (λkZ ru O=>∃(fr:Nat) (wb:Bool),fr<12/\Cd k.mem rn X=(0,fr,wb)/\(SC lo w.heap.size ⟨kk,(en:Int),(X:Int),b,c,nm⟩ w O (.slice gm 12 bi) (.slice ai ni ci) (.slice ge 3 be) (.slice ac nc cc) k)/\O.heap[q]?=some (.cells #[fr,.int .i64 ((X:Int)%4),wb] 127 (0,0)))
 case first=>
  obtain⟨E,D,K,x3⟩:=S5.xs;obtain⟨y0,y1,y2,y3,y4,y5⟩:=S5.ys6;obtain⟨c0,c1,c2⟩:=Gm N5.u;have bu:=AK N5.u
  by_cases bl:at_<0
  .have CW:=AA (Ry _ k.mem rn X W5 S5.K.1 g0 ft cT)
   go_wp2_with fail;refine CW.mono ?_;rintro r w6 ⟨rfl,mt⟩;have S6:=AA (S5.below mt);have N6:=AA (AB N5 mt);clear E D K x3 y0 y1 y2 y3 y4 y5 c0 c1 c2 bu mt CW;rw[show Ix k.mem rn X=.tuple #[if(Cd k.mem rn X).1=0 then MU (Cd k.mem rn X).2.1 X (Cd k.mem rn X).2.2 else FY,.int .i64 (Cd k.mem rn X).1] from rfl];have qB:=AA (λfr wb (h:Cd k.mem rn X=(0,fr,wb))=>Yo h);generalize iC:Cd k.mem rn X=res at*;clear iC;obtain⟨cd,fr,wb⟩:=res
   by_cases lp:cd=0
   .subst lp
    have gV:=qB fr wb rfl;rw[if_pos rfl];unfold MU;rw[(ω:((X%4:Nat):Int)=(X:Int)%4)];have B7:=AG w6 (.cells #[fr,.int .i64 ((X:Int)%4),wb] 127);obtain⟨T8,n8⟩:=(S6.below B7).place ψ (AB N6 B7) (yM kN (yF _)) (.int .i64 fr) (.int .i64 ((X:Int)%4)) (.bool wb);have T8:=AA T8;have N8:=AA n8;obtain⟨c0,c1,c2⟩:=Gm (AB N6 B7);have bu:=AK (AB N6 B7);have pH:q≠w6.heap.size:=by have:=AY N6.u;omega
    have pG:w6.heap.size≠q:=λe=>pH e.symm
    clear B7 n8;go_wp2_with fail;go_meet
    case rel=>exact⟨fr,wb,gV,rfl,T8.u,N8.u⟩
   rw[if_neg lp]
   unfold FY;have B7:=AG w6 (.cells #[θ,θ,υ] 127);have S7:=AA (S6.below B7);have qd:(cd !=0)=true:=by simp[lp]
   have bp:=AA (mR.trans (if_pos lp));clear B7;obtain⟨⟨E,D,K,x3⟩,⟨⟨z0,z1,z2,z3⟩,bu⟩,HE,HR⟩:=S7.yR ay (v:=0) (code:=3) (bp.u) ψ;go_wp2_with ((try simp only[xS,Exit.then]);with_reducible refine yB ?_ rfl HR.u;obtain⟨E0,E1,E2,E3⟩:=HE.u;simp[results,vz,go_sem,E0,E1,E2,E3])
  obtain⟨j,hj,ej,hs⟩:=FC ω;rw[(ω:(X:Int)/4=((X/4:Nat):Int))] at hs;obtain⟨fr,gV,mo,iC⟩:=WC z hj hs rfl;generalize(AU k.XU j).w=wb at mo iC;obtain⟨a8,c8,e8,_,_,H8⟩:=BN.open Co ψ S3.K.2.2.2;cases e8;obtain⟨bc,j2,rfl,mr,D0,D1,D2,D3⟩:=H8.zV hj;rw[mo] at D2 D3;rw[qI.u] at mr;simp only at D2 D3;have wq:=(g2.cell (p:=⟨bc,j2+j*4+2,none⟩) mr).trans D2;have wi:=(g2.cell (p:=⟨bc,j2+j*4+3,none⟩) mr).trans D3;obtain⟨T8,n8⟩:=S5.place2 ψ N5 (yM kN (yF _)) (.int .i64 fr) (.bool wb);have T8:=AA T8;have N8:=AA n8;have f3:(j:Int)<k.XU.length:=ω;have qf:bc≠q:=ω;have pF:q≠bc:=ω;rw[ki.u] at iC;rw[yq] at iC;subst ej;clear hs mo D0 D1 D2 D3 n8 H8;go_wp2_with fail;go_meet
  case rel=>exact⟨fr,wb,gV,iC,T8.u,N8.u⟩
 case rest=>
  obtain⟨fr,wb,gV,iC,s8,n8⟩:=hcut;generalize wc=w8 at*;have S8:=AA s8;have N8:=AA n8;have iE:=mR.u;rw[iC,if_neg χ,(ω:((X:Int)%4).toNat=X%4)] at iE;simp only at iE;clear s8 n8 mR iC;obtain⟨E,D,K,x3⟩:=S8.xs;obtain⟨y0,y1,y2,y3,y4,y5⟩:=S8.ys6;obtain⟨p0,p1,p2⟩:=Gm N8.u;go_upto_region 13 with fail;go_cut [87] (λo9 O=>o9=.bool ((kk==11)&&!wb)/\O=w8)
  case first=>
   cases tk:(kk==11)
   all_goals
    go_wp2_with fail;go_meet
    case rel=>exact⟨by rw[tk];rfl,rfl⟩
  case rest=>
  obtain⟨rfl,rfl⟩:=hcut;obtain⟨w8,rfl⟩:∃w8,w8=wc:=⟨_,rfl⟩
  cases bf:((kk==11)&&!wb)
  rotate_left
  .have bp:=AA (iE.trans (if_pos (by simpa using bf)))
   obtain⟨⟨E,D,K,x3⟩,⟨⟨z0,z1,z2,z3⟩,bu⟩,HE,HR⟩:=S8.yR ay (v:=0) (code:=1) (bp.u) ψ;go_wp2_with ((try simp only[xS,Exit.then]);with_reducible refine yB ?_ rfl HR.u;obtain⟨E0,E1,E2,E3⟩:=HE.u;simp[results,vz,go_sem,E0,E1,E2,E3])
  have bp:=AA (iE.trans (if_neg (by simpa using bf)));clear iE bf;go_upto_if 90 with fail;clear E D K x3 y0 y1 y2 y3 y4 y5 p0 p1 p2;go_cut [] (λO=>∃cv,(SC lo w.heap.size ⟨kk,(en:Int),(X:Int),b,c,nm⟩ w O (.slice gm 12 bi) (.slice ai ni ci) (.slice ge 3 be) cv {k with XU:=Km k.XU (en:Int) ((X:Int)/4) fr wb})/\O.heap[q]?=some (.cells #[fr,.int .i64 ((X:Int)%4),wb] 127 (0,0)))
  case first=>
   by_cases bl:at_<0
   .obtain⟨E,D,K,x3⟩:=S8.xs
    obtain⟨y0,y1,y2,y3,y4,y5⟩:=S8.ys6;obtain⟨p0,p1,p2⟩:=Gm N8.u;have CP:=AA (UT _ k.XU ⟨(en:Int),(X:Int)/4,(fr:Int),wb⟩ w8 S8.K.2.2.2 (Rt z.u));go_wp2_with fail;refine CP.mono ?_;rintro r w9 ⟨v',rfl,hO,ez⟩;have T9:=AA (S8.XU ez hO);have N9:=AA (show(w9.setCell (w,3) v').heap[q]?=_ from As (AB N8 ez) (At w9 w.heap.size 3 v') nH);have hU:=AA (show Km k.XU (en:Int) ((X:Int)/4) fr wb=Jo k.XU ⟨(en:Int),(X:Int)/4,(fr:Int),wb⟩ by unfold Km;rw[oo.u,if_pos bl]);have lC:=AK (S8.below ez).yS.1;have kX:=(S8.below ez).xs.2.2.2;clear E D K x3 y0 y1 y2 y3 y4 y5 p0 p1 p2 CP;obtain⟨a9,c9,e9,_,_⟩:=hO.rd.shape;generalize wS _=n9 at e9;subst e9;clear hO ez;go_wp2_with fail;go_meet
    case rel=>exact⟨_,by rw[hU.u];exact T9.u,N9.u⟩
   have hU:=AA (show Km k.XU (en:Int) ((X:Int)/4) fr wb=k.XU by unfold Km;rw[oo.u,if_neg ω])
   go_wp2_with fail;go_meet
   case rel=>exact⟨_,by rw[hU.u];exact S8.u,N8.u⟩
  case rest=>
   obtain⟨cv,kZ,nt⟩:=hcut;generalize wc=gS at*;have gZ:=AA kZ;have lG:=AA nt;obtain⟨jR,c9,e9,_,_⟩:=(kZ.K.2.2.2).shape;generalize wS _=nc9 at e9;subst e9;generalize c9=cc9 at*;clear kZ nt S8 N8;obtain⟨E,D,K,x3⟩:=gZ.xs;obtain⟨y0,y1,y2,y3,y4,y5⟩:=gZ.ys6;obtain⟨p0,p1,p2⟩:=Gm lG.u;obtain⟨bt,bm,_,_⟩:=gZ.lts;have ku:=AY lG.u;cases tk:(kk==11)
   .have jE:=AA tk
    obtain⟨gw,eL,x1,hF,kC,hC,_,_,_,gU,_⟩:=Ep.mrow gZ g0 gV;have gu:gm<gS.heap.size:=yK _ _ x1;have kA:(fr:Int)<12:=ω;have nW:(X:Int)%4<4:=ω;have Dw:=hC (X%4) ω;obtain⟨pK,jN⟩:=gZ.rs _ (xy.2 rfl);have pj:gw≠w.heap.size+2:=gU _ _ _ jN ψ;clear gU;have ns:q≠w.heap.size+2:=λe=>by rw[e] at lG;rw[lG.u] at jN;simp at jN
    have po:gm≠w.heap.size+2:=λe=>by obtain⟨Z,o⟩:=gZ.yS.2.2.1;obtain⟨cu,p8⟩:=BB o.1 gm rfl;exact Ca p8 jN ψ e
    have fk:=bp.trans (if_neg (by simpa using jE.u));generalize Aw k.mem fr (X%4)=wd at Dw fk;have fk:=AA fk;obtain⟨⟨z0,z1,z2,z3⟩,bu⟩:=gZ.zs;go_wp2_with fail;refine Cv 14 131 (λix=>ix==11) [.a #[.slice gm 12 bi,.slice ai ni ci,.slice ge 3 be,.slice jR nc9 cc9],.p w.heap.size 0,.s gm 12 bi,.p q 0,.i ((fr:Int)),.p gm fr,.s gw 4 eL,.p q 1,.i (((X:Int)%4)),.p gw (X%4),.i wd,.z,.i wd,.i 0] (λll ix vv ww=>match ix with
     |_=>True) (λll ww=>GA gS (w.heap.size+2) (.slice gm 12 bi) (.slice ai ni ci) (.slice ge 3 be) (.slice jR nc9 cc9) (ll 11) ww) ?_ ?_ ?_ ?_ ?_ ?_
    .exact Ai (yN _ _) 1
    .exact λ_ _ _ _ _ _ _ _ _ _ _ _ h=>h
    .intro ll i wz fl hi hS ir bs hg
     show GA _ _ _ _ _ _ (Hh ll i 11) _
     rw[E9 (by rintro rfl;cases hS)];exact GA.grow hg bs
    .intro i hi hS o Y a O V ll A R J x2 z
     match i,hi,hS with
     |0,_,_=>have gN:=A6 R 11;have bC:=(show O.cell? w=some (.slice gm 12 bi) from(GA.cell J bm χ).trans E);have bA:=(show O.cell? (w,1)=some (.slice ai ni ci) from(GA.cell J bm χ).trans D);have cC:=(show O.cell? (w,2)=some (.slice ge 3 be) from(GA.cell J bm χ).trans K);have cz:=(show O.cell? (w,3)=some (.slice jR nc9 cc9) from(GA.cell J bm χ).trans x3);exact Kf Y z V A R (hl:=Pi ‹_› ‹_› ‹_› ‹_›)
     |1,_,_|3,_,_|7,_,_|12,_,_|13,_,_=>exact Tj Y z V A R
     |2,_,_=>have bC:=(show O.cell? w=some (.slice gm 12 bi) from(GA.cell J bm χ).trans E);exact Kf Y z V A R (hl:=GR ‹_›)
     |4,_,_=>have cy:=(show O.cell? q=some (.int .i64 fr) from(GA.cell J ku ns).trans p0);exact Kf Y z V A R (hl:=F7 ‹_›)
     |6,_,_=>have fb:=(show O.cell? (gm,fr)=some (.slice gw 4 eL) from(GA.cell J gu po).trans x1);exact Kf Y z V A R (hl:=K5 ‹_›)
     |8,_,_=>have g3:=(show O.cell? (q,1)=some (.int .i64 (((X:Int)%4))) from(GA.cell J ku ns).trans p1);exact Kf Y z V A R (hl:=F7 ‹_›)
     |10,_,_=>have im:=(show O.cell? (gw,X%4)=some (.int .i64 wd) from(GA.cell J hF pj).trans Dw);exact Kf Y z V A R (hl:=F7 ‹_›)
     |11,_,hs=>cases hs
     |5,_,_=>obtain rfl:=yP Y;have d2:(a.tmps[122]?.getD Θ)=.slice gm 12 bi:=Cr A R 2;have d4:(a.tmps[124]?.getD Θ)=.int .i64 fr:=Cr A R 4;clear A V;refine yO ?_;go_simp;exact z _ _ rfl (yN _ _)
     |9,_,_=>obtain rfl:=yP Y;have d6:(a.tmps[126]?.getD Θ)=.slice gw 4 eL:=Cr A R 6;have d8:(a.tmps[128]?.getD Θ)=.int .i64 (((X:Int)%4)):=Cr A R 8;clear A V;refine yO ?_;go_simp;exact z _ _ rfl (yN _ _)
    .intro i hi hS o Y a O V ll A R J x2 z
     match i,hi,hS with
     |0,_,hs|1,_,hs|2,_,hs|3,_,hs|4,_,hs|5,_,hs|6,_,hs|7,_,hs|8,_,hs|9,_,hs|10,_,hs|12,_,hs|13,_,hs=>cases hs
     |11,_,_=>
      obtain rfl:=yP Y;have e4:a.tmps[4]?.getD Θ=.pointer (some ⟨w.heap.size+2,0,none⟩):=eg (OF V 4);have d0:(a.tmps[120]?.getD Θ)=.agg #[.slice gm 12 bi,.slice ai ni ci,.slice ge 3 be,.slice jR nc9 cc9]:=Cr A R 0;clear A V;rw[R.1] at J;replace J:Γ gS gS O:=J;have B2:=AB jN J;obtain⟨c0,c1,c2,c3⟩:=AH B2;have r8:=AK B2;refine yO ?_;go_simp;exact z Θ _ trivial (by show GA _ _ _ _ _ _ (Hh ll 11 11) _;rw[Fh];exact⟨O,J,yN _ _⟩) (λj f3 gg fd hu=>match j,gg with
       |0,_|1,_|2,_|3,_|4,_|5,_|6,_|7,_|8,_|9,_|10,_|12,_|13,_=>hu
       |11,_=>absurd rfl f3)
    intro Z O ll az hR J
    have cN:(Z 12)=.int .i64 wd:=Be hR 12;have c7:(Z 13)=.int .i64 0:=Be hR 13;clear hR;simp only[DD,Bj,yL,yI,yJ,yH,cN,c7];simp;clear cN c7;rw[az 11 ψ] at J;obtain⟨wz,h1,L⟩:=J;have mz:Γ (Fq wz (w.heap.size+2) (.slice gm 12 bi) (.slice ai ni ci) (.slice ge 3 be) (.slice jR nc9 cc9)).heap.size (Fq wz (w.heap.size+2) (.slice gm 12 bi) (.slice ai ni ci) (.slice ge 3 be) (.slice jR nc9 cc9)) O:=by simpa[Fq] using L
    obtain⟨kJ,kS⟩:=(gZ.below h1).ret (yM ay (wt _ _)) (wt _ _) (v:=wd) (code:=0) fk.u;obtain⟨E0,E1,E2,E3⟩:=AH (AB kJ mz);have HR:=AA (kS.below (by have:=(gZ.below h1).lo;simpa using this) mz);have HE:=AA (yj E0 (yj E1 (yj E2 E3)));clear E D K x3 y0 y1 y2 y3 y4 y5 p0 p1 p2 z0 z1 z2 z3 bu x1 Dw E0 E1 E2 E3 kJ kS h1 L mz jN;go_wp2_with fail;exact yB (v:=.tuple #[.agg #[_,_,_,_],wd,θ]) (by simp[results,vz,go_sem,HE.u]) rfl HR.u
   have jE:=AA tk
   obtain⟨gw,eL,x1,hF,kC,_⟩:=Ep.mrow gZ g0 gV;have gu:gm<gS.heap.size:=yK _ _ x1;have kA:(fr:Int)<12:=ω;have nW:(X:Int)%4<4:=ω;have fk:=AA (bp.trans (if_pos (by simpa using jE.u)));go_wp2_with fail;refine Ac 10 131 [.p w.heap.size 0,.s gm 12 bi,.p q 0,.i ((fr:Int)),.p gm fr,.s gw 4 eL,.p q 1,.i (((X:Int)%4)),.p (w.heap.size+1) 3,.i b] (λ_ _ _=>True) ?_ ?_
   .intro i hi o Y a O V A J x2 z
    have bA:=bc J ku p0;have cz:=bc J ku p1;have cy:=bc J bt y3
    match i,hi with
    |0,_|2,_|6,_|8,_=>exact sP Y z V A
    |1,_=>exact sL Y z V A (hl:=GR (bc J bm E))
    |3,_|7,_|9,_=>exact sL Y z V A (hl:=F7 ‹_›)
    |4,_=>exact sI Y z V A (hr:=by clear A V z;go_simp)
    |5,_=>exact sL Y z V A (hl:=K5 (bc J gu x1))
   intro Z O hR J
   have q5:(Z 5)=.slice gw 4 eL:=Be hR 5;have q7:(Z 7)=.int .i64 (((X:Int)%4)):=Be hR 7;have q9:(Z 9)=.int .i64 b:=Be hR 9;clear hR;simp only[Aj,Ae,yL,yI,yJ,yH,q5,q7,q9];simp;clear q5 q7 q9;have ig:=AA (gZ.below J);obtain⟨nX,jd,D2,_,_,hC,Fr,_,_,py,hS⟩:=Ep.mrow ig g0 gV;clear py;have eD:=D2.symm.trans ((J.cell (p:=⟨gm,fr,none⟩) gu).trans x1);cases eD;have D3:=hC (X%4) ω;have it:=AA (hS (X%4) b ω);generalize hW9:O.setCell _ _=W9 at it;clear E D K x3 y0 y1 y2 y3 y4 y5 p0 p1 p2 x1 D2 hS J gZ hC kA nW hF kC gu bt bm ku;obtain⟨⟨E,D,K,x3⟩,⟨⟨z0,z1,z2,z3⟩,bu⟩,HE,HR⟩:=it.fin ay (v:=0) (code:=0) (fk.u);go_wp2_with ((try simp only[xS,Exit.then]);with_reducible refine yB ?_ rfl HR.u;obtain⟨E0,E1,E2,E3⟩:=HE.u;simp[results,vz,go_sem,E0,E1,E2,E3])
def eI(w H:Ω):Prop:=∀(b:Nat)(cu:Array Φ),w.heap[b]?=some (.cells cu 28 (0,0))->H.heap[b]?=w.heap[b]?
theorem L2.up{b:Nat}{W1:Ω}{res:Nm}(h:Ep T cs [b] lo w.heap.size b0 w W m i e c k)(ay:lo<=b)(li:w.heap.size<=b)
 (hs:fj m' i' e' c')(hK:res.2.2=0->Dy lo W1 m' i' e' c' res.1)(N:Γ lo W W1)(hf:eI W W1):
 W1.heap[b]?=some (.cells #[ι,ι,ι,ι] 28 (0,0))/\
 ((((W1.setCell b m').setCell (b,1) i').setCell (b,2) e').setCell (b,3) c').heap[b]?=some (.cells #[m',i',e',c'] 28 (0,0))/\
 L2 lo w res (.returned (.tuple #[.agg #[m',i',e',c'],res.2.1,res.2.2])) ((((W1.setCell b m').setCell (b,1) i').setCell (b,2) e').setCell (b,3) c'):=by
 obtain⟨gU,nV⟩:=h.rs b (xy.2 rfl);have hB:=(hf b _ nV).trans nV;have bk:=Ar (Ar (Ar (At W1 b 0 m') 1 i') 2 e') 3 c';refine⟨hB,DP hB,m',i',e',c',rfl,hs,λhc=>?_,((((h.bel.trans N).setCell ay _).setCell ay _).setCell ay _).setCell ay _,λq cu hq=>?_⟩
 .obtain⟨⟨Z,o1⟩,o2,⟨ps,o3⟩,o4⟩:=hK hc
  exact⟨⟨Z,o1.yV bk hB⟩,o2.yV bk hB,⟨ps,o3.yV bk hB⟩,o4.yV bk hB⟩
 have e1:=(h.kf q cu (by have:=AY hq;omega) hq).trans hq
 have e2:=(hf q cu e1).trans e1;exact(As e2 bk (by have:=AY hq;omega)).trans hq.symm
theorem Rj (x:Int):∃(fn:Nat) (wr:Bool),VE x=.tuple #[fn,wr,.bool (Bx x)]/\fn<12/\(Bx x=true->fn=BQ x):=by
 cases h:Bx x
 .exact⟨0,false,Ev h,ψ,λh=>by cases h⟩
 exact⟨BQ x,LY x,Er h,Eh h,λ_=>rfl⟩
theorem V4{a e:Nat}(h:e∈GX k a):e<3:=by rw[<-Jf] at h;exact Ym h
theorem aV{a:Nat}:(GX k a).length<=3:=by rw[<-Jf];exact Mf
theorem bW{c:AV}(h:EV k c=true)(ht:Bp (JK k.ZJ c.a.toNat).k=true):Bx c.c=true->(JK k.ZJ (BQ c.c)).k≠3:=by intro hg;unfold EV at h;rw[if_pos hg,decide_eq_true_eq] at h;simp only[Bp,xL,decide_eq_true_eq] at ht;omega
theorem Su{n:Int}(h:Bx x=false):BI ZJ x n=ZJ:=by unfold BI;rw[if_neg (by rw[h];decide)]
theorem Uj{n:Int}(h:Bx x=true)(hf:f=BQ x):BI ZJ x n=An ZJ f (JD n):=by unfold BI;rw[if_pos h,hf]
theorem X9 (h:Dy lo w mv iv ev cv k)(ay:lo<=w.heap.size)(hk:Dg k)(call:AV)(he:0<=call.e/\call.e<3)(L:call.k=6)(hc:call.c<=9223372036854775807):
 Ξ prog 193 #[.agg #[mv,iv,ev,cv],.agg call.cs] w (L2 lo w (Ad k call)):=by
 have bK:=SC.start h ay call;have P0:=ZQ (k:=k) L;have FZ:=AA (λhz=>KN (k:=k) (c:=call) (kind:=0) hz);have gQ:=(Ap hk).1;obtain⟨gm,bi,e7,_⟩:=Ep.mems bK gQ;obtain⟨ge,be,e9,_,_⟩:=bK.XX (by rw[hk.zX];omega);rw[hk.zX] at e9;obtain⟨gi,av,e8,_,_⟩:=bK.ZJ (by rw[hk.len];omega);rw[hk.len] at e8;obtain⟨am,ga,cm,ai,ni,ci,ae,gO,ce,ac,nc,cc,em,ei,ee,ec⟩:=bK.Dq;subst e7 e8 e9 ec;clear em ei ee;have S0:=AA bK;obtain⟨kk,e,ra,b,c,nm⟩:=call;simp only at he L hc;subst L;obtain⟨en,rfl⟩:∃n:Nat,e=(n:Int):=⟨e.toNat,ω⟩
 have gv:en<3:=ω;have jt:(en:Int)<3:=ω;simp only[AV.cs] at S0 P0 FZ ⊢;have HP:=AA P0;have z:=AA hk;have g0:=AA gQ;have CF:=AA (λW (h:Nk W (.slice gm 12 bi) (.slice gi 12 av) (.slice ge 3 be) (.slice ac nc cc) k)=>Lc _ _ _ _ k 6 (en:Int) ra b c nm 0 W h hk he (.inl rfl));have CG:=AA (λW=>A7 (Da c W hc));have Hc:=AA hc;obtain⟨E,D,K,x3⟩:=S0.xs;obtain⟨y0,y1,y2,y3,y4,y5⟩:=S0.ys6;generalize hfc:Cl k ⟨6,(en:Int),ra,b,c,nm⟩ 0=fc at*;clear h bK he hk P0 gQ hfc hc;generalize hW0:((w.alloc _).alloc _).alloc _=W0 at*;go_in;go_wp2_with fail;refine(CF _ S0.K).mono ?_;rintro r w1 ⟨rfl,cl⟩;have S1:=AA (S0.below cl);clear E D K x3 y0 y1 y2 y3 y4 y5 cl CF hW0
 by_cases ef:fc=0
 .subst ef
  obtain⟨bY,_,hm,_,nx⟩:=FZ rfl;have ab:=Aa.1 bY;obtain⟨X,rfl⟩:∃n:Nat,ra=(n:Int):=⟨ra.toNat,ω⟩
  have cT:X<12:=ω;have iL:(X:Int)<12:=ω;have br:=AA (show Ad k ⟨6,(en:Int),(X:Int),b,c,nm⟩=dB k ⟨6,(en:Int),(X:Int),b,c,nm⟩ by rw[HP.u];rfl);have mL:=AA (nx (by first|rfl|trivial));obtain⟨E,D,K,x3⟩:=S1.xs;obtain⟨y0,y1,y2,y3,y4,y5⟩:=S1.ys6;clear bY hm nx ab FZ HP;go_wp2_with fail;refine(CG _).mono ?_;rintro r w2 ⟨rfl,bf⟩;have S2:=AA (S1.below bf);obtain⟨fn,wf,hV,js,iq⟩:=Rj c;rw[hV];clear E D K x3 y0 y1 y2 y3 y4 y5 bf hV CG S0 S1;obtain⟨E,D,K,x3⟩:=S2.xs;obtain⟨y0,y1,y2,y3,y4,y5⟩:=S2.ys6;obtain⟨bt,bm,_,_⟩:=S2.lts;have gh:=S2.zx;obtain⟨d0,_,_⟩:=S2.JK (f:=X) (by rw[z.len];exact cT);obtain⟨f0,_,_⟩:=S2.JK (f:=fn) (by rw[z.len];exact js);have CB:=AA (λW (hW:Γ w2 w2 W)=>A7 (DF b 0 3 W));have CK:=AA (λW (hW:Γ w2 w2 W)=>A7 (Kp c W));have p6:(fn:Int)<12:=ω;obtain⟨okb,hokb⟩:∃okb,okb=(Bo b 0 3&&EV k ⟨6,(en:Int),(X:Int),b,c,nm⟩):=⟨_,rfl⟩
  have gl:=AA hokb;have mU:=AA iq;generalize hsm:Bx c=sm at*;have ij:=AA hsm;clear hokb iq hsm;go_wp2_with fail;go_cut [60] (λpd O=>pd=.bool (!okb)/\Ep 34 #[.int .i64 6,.int .i64 en,.int .i64 X,.int .i64 b,.int .i64 c,.string nm] [w.heap.size+2] lo w.heap.size (w.heap.size+1) w O (.slice gm 12 bi) (.slice gi 12 av) (.slice ge 3 be) (.slice ac nc cc) k)
  case first=>
   have qx:(decide (0<=b)&&decide (b<=3))=Bo b 0 3:=rfl;clear qx;cases dg:Bo b 0 3
   .have x0:=AA (show okb=false by rw[gl.u,dg];rfl)
    rw[dg] at CB;clear dg d0 f0;refine Ac 29 167 [.p (w.heap.size+1) 3,.i b,.b false,.b true,.b true,.u,.u,.u,.u,.b true,.b true,.u,.u,.u,.u,.u,.u,.u,.u,.u,.u,.u,.u,.u,.u,.u,.u,.u,.u] (λ_ _ _=>True) ?_ ?_
    .intro i hi o Y a O V A J x2 z
     match i,hi with
     |0,_|3,_|4,_|9,_|10,_=>exact sP Y z V A
     |1,_=>exact sL Y z V A (hl:=F7 (bc J bt y3))
     |2,_=>exact sD Y z V A (CB _ J)
     |5,_|6,_|7,_|8,_|11,_|12,_|13,_|14,_|15,_|16,_|17,_|18,_|19,_|20,_|21,_|22,_|23,_|24,_|25,_|26,_|27,_|28,_=>exact sB Y z A
     |_+29,hq=>omega
    intro Z O hR J
    have dr:(Z 10)=.bool true:=Be hR 10;clear hR;simp only[Aj,Ae,yL,yI,yJ,yH,dr];simp;clear dr;clear E D K x3 y0 y1 y2 y3 y4 y5;go_wp2_with fail;go_meet
    case rel=>exact⟨by rw[x0.u];rfl,S2.below J⟩
   rw[dg] at CB
   cases sm
   .by_cases jM:c=0
    .have x0:=AA (show okb=true by rw[gl.u,dg];simp only[EV,ij.u];simp[jM])
     have EK:Ei c=0:=by simp[Ei,jM]
     rw[EK] at CK;clear dg jM EK d0 f0;refine Ac 29 167 [.p (w.heap.size+1) 3,.i b,.b true,.b false,.b false,.p (w.heap.size+1) 4,.i c,.i 0,.b false,.b false,.b false,.b false,.b false,.u,.u,.u,.u,.u,.u,.u,.u,.u,.u,.u,.u,.u,.u,.u,.b false] (λ_ _ _=>True) ?_ ?_
     .intro i hi o Y a O V A J x2 z
      have bC:=bc J bt y3;have bA:=bc J bt y4
      match i,hi with
      |0,_|3,_|4,_|5,_|9,_|10,_|11,_|12,_|28,_=>exact sP Y z V A
      |1,_|6,_=>exact sL Y z V A (hl:=F7 ‹_›)
      |2,_=>exact sD Y z V A (CB _ J)
      |7,_=>exact sD Y z V A (CK _ J)
      |13,_|14,_|15,_|16,_|17,_|18,_|19,_|20,_|21,_|22,_|23,_|24,_|25,_|26,_|27,_=>exact sB Y z A
      |8,_=>clear bC bA;obtain rfl:=yP Y;have d7:(a.tmps[38]?.getD Θ)=.int .i64 0:=Bd A 7;have d4:(a.tmps[35]?.getD Θ)=.bool false:=Bd A 4;clear A V;refine AT.yes rfl rfl d4 ?_;go_simp;exact z _ _ rfl (yN _ _)
      |_+29,hq=>omega
     intro Z O hR J
     have dr:(Z 10)=.bool false:=Be hR 10;have iQ:(Z 28)=.bool false:=Be hR 28;clear hR;simp only[Aj,Ae,yL,yI,yJ,yH,dr,iQ];simp;clear dr iQ;clear E D K x3 y0 y1 y2 y3 y4 y5;go_wp2_with fail;go_meet
     case rel=>exact⟨by rw[x0.u];rfl,S2.below J⟩
    have x0:=AA (show okb=false by rw[gl.u,dg];simp only[EV,ij.u];simp[jM])
    have EK:Ei c=2:=by simp[Ei,jM,ij.u]
    rw[EK] at CK;clear dg jM EK d0 f0;refine Ac 29 167 [.p (w.heap.size+1) 3,.i b,.b true,.b false,.b false,.p (w.heap.size+1) 4,.i c,.i 2,.b true,.b true,.b true,.u,.u,.u,.u,.u,.u,.u,.u,.u,.u,.u,.u,.u,.u,.u,.u,.u,.u] (λ_ _ _=>True) ?_ ?_
    .intro i hi o Y a O V A J x2 z
     have bC:=bc J bt y3;have bA:=bc J bt y4
     match i,hi with
     |0,_|3,_|4,_|5,_|9,_|10,_=>exact sP Y z V A
     |1,_|6,_=>exact sL Y z V A (hl:=F7 ‹_›)
     |2,_=>exact sD Y z V A (CB _ J)
     |7,_=>exact sD Y z V A (CK _ J)
     |11,_|12,_|13,_|14,_|15,_|16,_|17,_|18,_|19,_|20,_|21,_|22,_|23,_|24,_|25,_|26,_|27,_|28,_=>exact sB Y z A
     |8,_=>clear bC bA;obtain rfl:=yP Y;have d7:(a.tmps[38]?.getD Θ)=.int .i64 2:=Bd A 7;have d4:(a.tmps[35]?.getD Θ)=.bool false:=Bd A 4;clear A V;refine AT.yes rfl rfl d4 ?_;go_simp;exact z _ _ rfl (yN _ _)
     |_+29,hq=>omega
    intro Z O hR J
    have dr:(Z 10)=.bool true:=Be hR 10;clear hR;simp only[Aj,Ae,yL,yI,yJ,yH,dr];simp;clear dr;clear E D K x3 y0 y1 y2 y3 y4 y5;go_wp2_with fail;go_meet
    case rel=>exact⟨by rw[x0.u];rfl,S2.below J⟩
   have EK:Ei c=1:=by
    unfold Ei;rw[if_neg (by intro h;have:=ij.u;rw[h] at this;cases this),ij.u];rfl
   rw[EK] at CK;have iq:=mU rfl;have jm:=mL.u;generalize hka:(JK k.ZJ X).k=ka at d0 jm;generalize hkf:(JK k.ZJ fn).k=kf at f0;have nE:2<=ka/\ka<=3:=by simp only[Bp,xL,decide_eq_true_eq,yq,hka] at jm;omega
   obtain⟨km,hkm⟩:∃km,ka - 1=km:=⟨_,rfl⟩
   have oi:=AA hkm
   by_cases hq:kf=km
   .have x0:=AA (show okb=true by rw[gl.u,dg];simp[EV,ij.u,<-iq,hka,hkf];omega)
    have oR:(kf !=km)=false:=by simp[hq]
    clear dg EK iq jm hka hkf hkm hq;refine Ac 29 167 [.p (w.heap.size+1) 3,.i b,.b true,.b false,.b false,.p (w.heap.size+1) 4,.i c,.i 1,.b false,.b false,.b false,.b true,.b true,.p w.heap.size 1,.s gi 12 av,.i ((fn:Int)),.p gi (fn*3),.p gi (fn*3),.i kf,.p w.heap.size 1,.s gi 12 av,.p (w.heap.size+1) 2,.i ((X:Int)),.p gi (X*3),.p gi (X*3),.i ka,.i km,.b false,.b false] (λ_ _ _=>True) ?_ ?_
    .intro i hi o Y a O V A J x2 z
     have bC:=bc J bt y3;have bA:=bc J bt y4;have cC:=bc J bm D;have cz:=bc J gh f0;have cy:=bc J bt y2;have fb:=bc J gh d0
     match i,hi with
     |0,_|3,_|4,_|5,_|9,_|10,_|11,_|12,_|13,_|15,_|17,_|19,_|21,_|24,_|28,_=>exact sP Y z V A
     |1,_|6,_|18,_|22,_|25,_=>exact sL Y z V A (hl:=F7 ‹_›)
     |2,_=>exact sD Y z V A (CB _ J)
     |7,_=>exact sD Y z V A (CK _ J)
     |14,_|20,_=>exact sL Y z V A (hl:=Gi ‹_›)
     |16,_|23,_=>exact sI Y z V A (hr:=by clear A V z;go_simp)
     |8,_=>clear bC bA cC cz cy fb;obtain rfl:=yP Y;have d7:(a.tmps[38]?.getD Θ)=.int .i64 1:=Bd A 7;have d4:(a.tmps[35]?.getD Θ)=.bool false:=Bd A 4;clear A V;refine AT.yes rfl rfl d4 ?_;go_simp;exact z _ _ rfl (yN _ _)
     |26,_=>clear bC bA cC cz cy fb;obtain rfl:=yP Y;have qo:(a.tmps[56]?.getD Θ)=.int .i64 ka:=Bd A 25;have jz:(a.tmps[43]?.getD Θ)=.bool true:=Bd A 12;clear A V;refine AT.yes rfl rfl jz ?_;go_simp;exact z _ _ (by show yl .i64 (wU.wrap (ka - 1))=.int .i64 km;rw[xA _ ω,oi.u]) (yN _ _)
     |27,_=>clear bC bA cC cz cy fb;obtain rfl:=yP Y;have qp:(a.tmps[49]?.getD Θ)=.int .i64 kf:=Bd A 18;have qm:(a.tmps[57]?.getD Θ)=.int .i64 km:=Bd A 26;have jz:(a.tmps[43]?.getD Θ)=.bool true:=Bd A 12;clear A V;refine AT.yes rfl rfl jz ?_;go_simp;exact z _ _ rfl (yN _ _)
     |_+29,hq=>omega
    intro Z O hR J
    have dr:(Z 10)=.bool false:=Be hR 10;have iQ:(Z 28)=.bool false:=Be hR 28;clear hR;simp only[Aj,Ae,yL,yI,yJ,yH,dr,iQ];simp;clear dr iQ;clear E D K x3 y0 y1 y2 y3 y4 y5 d0 f0;go_wp2_with fail;go_meet
    case rel=>exact⟨by rw[x0.u];rfl,S2.below J⟩
   have x0:=AA (show okb=false by rw[gl.u,dg];simp[EV,ij.u,<-iq,hka,hkf];omega)
   have oR:(kf !=km)=true:=by simp[hq]
   clear dg EK iq jm hka hkf hkm hq;refine Ac 29 167 [.p (w.heap.size+1) 3,.i b,.b true,.b false,.b false,.p (w.heap.size+1) 4,.i c,.i 1,.b false,.b false,.b false,.b true,.b true,.p w.heap.size 1,.s gi 12 av,.i ((fn:Int)),.p gi (fn*3),.p gi (fn*3),.i kf,.p w.heap.size 1,.s gi 12 av,.p (w.heap.size+1) 2,.i ((X:Int)),.p gi (X*3),.p gi (X*3),.i ka,.i km,.b true,.b true] (λ_ _ _=>True) ?_ ?_
   .intro i hi o Y a O V A J x2 z
    have bC:=bc J bt y3;have bA:=bc J bt y4;have cC:=bc J bm D;have cz:=bc J gh f0;have cy:=bc J bt y2;have fb:=bc J gh d0
    match i,hi with
    |0,_|3,_|4,_|5,_|9,_|10,_|11,_|12,_|13,_|15,_|17,_|19,_|21,_|24,_|28,_=>exact sP Y z V A
    |1,_|6,_|18,_|22,_|25,_=>exact sL Y z V A (hl:=F7 ‹_›)
    |2,_=>exact sD Y z V A (CB _ J)
    |7,_=>exact sD Y z V A (CK _ J)
    |14,_|20,_=>exact sL Y z V A (hl:=Gi ‹_›)
    |16,_|23,_=>exact sI Y z V A (hr:=by clear A V z;go_simp)
    |8,_=>clear bC bA cC cz cy fb;obtain rfl:=yP Y;have d7:(a.tmps[38]?.getD Θ)=.int .i64 1:=Bd A 7;have d4:(a.tmps[35]?.getD Θ)=.bool false:=Bd A 4;clear A V;refine AT.yes rfl rfl d4 ?_;go_simp;exact z _ _ rfl (yN _ _)
    |26,_=>clear bC bA cC cz cy fb;obtain rfl:=yP Y;have qo:(a.tmps[56]?.getD Θ)=.int .i64 ka:=Bd A 25;have jz:(a.tmps[43]?.getD Θ)=.bool true:=Bd A 12;clear A V;refine AT.yes rfl rfl jz ?_;go_simp;exact z _ _ (by show yl .i64 (wU.wrap (ka - 1))=.int .i64 km;rw[xA _ ω,oi.u]) (yN _ _)
    |27,_=>clear bC bA cC cz cy fb;obtain rfl:=yP Y;have qp:(a.tmps[49]?.getD Θ)=.int .i64 kf:=Bd A 18;have qm:(a.tmps[57]?.getD Θ)=.int .i64 km:=Bd A 26;have jz:(a.tmps[43]?.getD Θ)=.bool true:=Bd A 12;clear A V;refine AT.yes rfl rfl jz ?_;go_simp;exact z _ _ rfl (yN _ _)
    |_+29,hq=>omega
   intro Z O hR J
   have dr:(Z 10)=.bool false:=Be hR 10;have iQ:(Z 28)=.bool true:=Be hR 28;clear hR;simp only[Aj,Ae,yL,yI,yJ,yH,dr,iQ];simp;clear dr iQ;clear E D K x3 y0 y1 y2 y3 y4 y5 d0 f0;go_wp2_with fail;go_meet
   case rel=>exact⟨by rw[x0.u];rfl,S2.below J⟩
  case rest=>
  obtain⟨lW,S3⟩:=hcut;subst lW;replace S3:=AA S3;clear E D K x3 y0 y1 y2 y3 y4 y5 d0 f0 CB CK S2 bt bm gh;obtain⟨w3,rfl⟩:∃w3:Ω,w3=wc:=⟨_,rfl⟩
  cases okb
  .have bp:=AA (show Ad k ⟨6,(en:Int),(X:Int),b,c,nm⟩=(k,0,3) by
    rw[br.u];unfold dB;rw[if_pos];have:=gl.u;cases h1:Bo b 0 3
    .exact .inl rfl
    refine .inr ?_
    rw[h1,wv] at this;exact this.symm)
   clear br;obtain⟨⟨E,D,K,x3⟩,⟨⟨z0,z1,z2,z3⟩,bu⟩,HE,HR⟩:=S3.yR ay (v:=0) (code:=3) (bp.u) ψ;go_wp2_with ((try simp only[xS,Exit.then]);with_reducible refine yB ?_ rfl HR.u;obtain⟨E0,E1,E2,E3⟩:=HE.u;simp[results,vy,go_sem,E0,E1,E2,E3])
  obtain⟨dg,hfit⟩:Bo b 0 3=true/\EV k ⟨6,(en:Int),(X:Int),b,c,nm⟩=true:=by
   have:=gl.symm
   rwa [yC] at this
  have mV:=AA (Xd (k:=k) (bW hfit mL.u));have bp:=AA (show Ad k ⟨6,(en:Int),(X:Int),b,c,nm⟩=_ from br.trans (by unfold dB;rw[if_neg (by rw[dg,hfit];simp)]));have bb:=Aa.1 dg;obtain⟨bn,rfl⟩:∃n:Nat,b=(n:Int):=⟨b.toNat,ω⟩
  have ls:bn<4:=ω;have qe:(bn:Int)<4:=ω;simp only[yq] at bp;clear dg hfit bb br gl;obtain⟨nd,hnd⟩:∃nd,nd=Du k c:=⟨_,rfl⟩
  have v6:=AA hnd;obtain⟨us,hus⟩:∃us,us=GX k X:=⟨_,rfl⟩
  have qC:=AA hus;have rB:us.length<=3:=by rw[hus];exact aV
  have qD:=AA (show ∀e,e∈us->e<3 by rw[hus];exact λe h=>V4 h);have mM:=AA (show ∀g,g∈nd->g<k.ZJ.length by
   rw[hnd,z.len];intro g hg;unfold Du at hg
   split at hg
   .next hgc=>
    rcases List.mem_cons.1 hg with h|h
    .rw[h];exact Eh hgc
    split at h
    .exact F9 h
    cases h
   cases hg)
  rw[<-hnd,<-hus] at bp;rw[<-hnd] at mV;clear hnd hus;have oB:=AA (λW (h1:Bn W (.slice gm 12 bi) k.mem) (L:Bh W (.slice gi 12 av) k.ZJ)=>Tk (.slice gm 12 bi) (.slice gi 12 av) (.slice ge 3 be) (.slice ac nc cc) k c W h1 L g0 z.len Hc.u);obtain⟨E,D,K,x3⟩:=S3.xs;obtain⟨y0,y1,y2,y3,y4,y5⟩:=S3.ys6;go_wp2_with fail;refine(oB _ S3.K.1 S3.K.2.1).mono ?_;rintro r w4 ⟨vb,rfl,jI,fs⟩;rw[mV.u] at jI;have S4:=AA (S3.below fs);have g9:=S3.lts.2.1;clear E D K x3 y0 y1 y2 y3 y4 y5 oB mV;obtain⟨E,D,K,x3⟩:=S4.xs;obtain⟨y0,y1,y2,y3,y4,y5⟩:=S4.ys6;go_wp2_with fail;refine(VP _ _ _ _ k X _ S4.K z.u).mono ?_;rintro r w5 ⟨vu,rfl,iF,f7⟩;rw[aU z (show Bp (A5 k X)=true from mL.u),<-qC.u] at iF;have S5:=AA (S4.below f7);have OB:=AA (AE.below jI f7);have OU:=AA iF;have l4:w.heap.size<w4.heap.size:=yt g9 fs.size;obtain⟨ax,cx,rfl,_,_,_⟩:=iF.rd.open;rw[Cx] at OU ⊢;clear E D K x3 y0 y1 y2 y3 y4 y5 jI iF fs f7 S3 S4;go_upto_block 0 with fail;go_cut [] (λO=>(∀e,e∈us->BO k.ZJ nd (AI k.XX e).PQ=true)/\∃a9 n9 c9,Ep 34 #[.int .i64 6,.int .i64 en,.int .i64 X,.int .i64 bn,.int .i64 c,.string nm] [w.heap.size+2] lo w.heap.size (w.heap.size+1) w O (.slice gm 12 bi) (.slice gi 12 av) (.slice ge 3 be) (.slice a9 n9 c9) {k with XU:=IL us k.XU})
  case first=>
   go_wp2_with fail;go_loopw [13] (λlP wr=>∃j:Nat,j<=us.length/\lP=.int .i64 j/\(∀e,e∈us.take j->BO k.ZJ nd (AI k.XX e).PQ=true)/\AE w3 wr vb (A8 nd)/\AE w4 wr (.slice ax us.length cx) (A8 us)/\∃a9 n9 c9,Ep 34 #[.int .i64 6,.int .i64 en,.int .i64 X,.int .i64 bn,.int .i64 c,.string nm] [w.heap.size+2] lo w.heap.size (w.heap.size+1) w wr (.slice gm 12 bi) (.slice gi 12 av) (.slice ge 3 be) (.slice a9 n9 c9) {k with XU:=IL (us.take j) k.XU}) (λlP _=>us.length - (intOf lP).toNat)
   exact⟨0,yu _,rfl,λe he=>by simp at he,OB.u,OU.u,ac,nc,cc,S5.u⟩
   obtain⟨j,hj,rfl,az,jI,iF,a9,n9,c9,hS⟩:=hrel;have cF:=AA az;have S:=AA hS;have ot:=AA jI;have qS:=AA iF;clear az hS jI OB OU
   by_cases bl:j<us.length
   .obtain⟨v4,tc,lT,_,_,H0⟩:=iF.rd.open
    rw[Cx] at lT;simp only[xQ] at lT;obtain⟨rfl,_,rfl⟩:=lT;obtain⟨bx,iy,rfl,DX⟩:=H0.at (k:=j) (by rw[Cx];exact bl);rw[SY bl] at DX;obtain⟨un,hun⟩:∃u,u=us.getD j 0:=⟨_,rfl⟩
    rw[<-hun] at DX;have op:=AA hun;have jj:un∈us:=by rw[hun];exact yw (A9 bl)
    have j7:=qD un jj;have mN:=AA jj;clear hun jj H0 iF;have fd:(j:Int)<us.length:=ω;have pA:(un:Int)<3:=ω;obtain⟨E,D,K,x3⟩:=S.xs;obtain⟨y0,y1,y2,y3,y4,y5⟩:=S.ys6;obtain⟨bt,bm,_,_⟩:=S.lts;have hM:=S.zg;have gL:bx<wr.heap.size:=yK _ _ DX;obtain⟨ua,uc,D0,_,HL⟩:=S.env (j:=un) (by show un<k.XX.length;rw[z.zX];exact j7);have RI:=S.K.2.1;have RB:=ot.rd;have CA:=AA (λW (hW:Γ wr wr W)=>Gr _ vb _ k.ZJ nd (AI k.XX un).PQ W (BN.below RI hW) (A3.below RB hW) (BN.below HL hW) mM (Cg (Ap z.u).2.1) (JF z j7));generalize hbbq:BO k.ZJ nd (AI k.XX un).PQ=bq at CA;have oj:=AA hbbq;clear hbbq RI HL RB;go_wp2_with fail;refine Ac 12 167 [.p w.heap.size 1,.s gi 12 av,.v vb,.p w.heap.size 2,.s ge 3 be,.v (.slice (some ⟨bx,iy,none⟩) us.length cx),.i ((j:Int)),.p bx (iy+j),.i ((un:Int)),.p ge (un*2),.p ge (un*2),.v (.slice ua (AI k.XX un).PQ.length uc)] (λ_ _ _=>True) ?_ ?_
    .intro i hi o Y a O V A J x2 z
     match i,hi with
     |0,_|2,_|3,_|5,_|6,_|10,_=>exact sP Y z V A
     |1,_=>exact sL Y z V A (hl:=Gi (bc J bm D))
     |4,_=>exact sL Y z V A (hl:=Ph (bc J bm K))
     |7,_|9,_=>exact sI Y z V A (hr:=by clear A V z;go_simp)
     |8,_=>exact sL Y z V A (hl:=F7 (bc J gL DX))
     |11,_=>exact sL Y z V A (hl:=Kt (bc J hM D0))
    intro Z O hR J
    have q1:(Z 1)=.slice gi 12 av:=Be hR 1;have q2:(Z 2)=vb:=Be hR 2;have f8:(Z 11)=.slice ua (AI k.XX un).PQ.length uc:=Be hR 11;clear hR;simp only[Aj,Ae,yL,yI,yJ,yH,q1,q2,f8];simp;clear q1 q2 f8;have S6:=AA (S.below J);have gR:=AA J;clear E D K x3 y0 y1 y2 y3 y4 y5 D0 J;go_wp2_with fail;refine(CA _ gR.u).mono ?_;rintro r w7 ⟨rfl,jv⟩;have S7:=AA (S6.below jv);have mX:=AA (gR.trans (jv.mono gR.size));clear jv CA gR S6;cases bq
    .have fk:=AA (show Ad k ⟨6,(en:Int),(X:Int),(bn:Int),c,nm⟩=(k,0,1) by rw[bp.u,if_pos (wZ.2 ⟨un,mN.u,by rw[oj.u];decide⟩)])
     obtain⟨⟨E,D,K,x3⟩,⟨⟨z0,z1,z2,z3⟩,bu⟩,HE,HR⟩:=S7.yR ay (v:=0) (code:=1) (fk.u) ψ;go_wp2_with ((try simp only[xS,Exit.then]);with_reducible refine yB ?_ rfl HR.u;obtain⟨E0,E1,E2,E3⟩:=HE.u;simp[results,vy,go_sem,E0,E1,E2,E3])
    have jy:=(mX.cell gL).trans DX
    have kD:bx<w7.heap.size:=yK _ _ jy;clear DX gL;have DX:=jy;have gL:=kD;clear jy kD;obtain⟨E,D,K,x3⟩:=S7.xs;obtain⟨bt,bm,_,_⟩:=S7.lts;have CD:=AA (λW (h:Ds W (.slice a9 n9 c9) (IL (us.take j) k.XU))=>Rz (.slice a9 n9 c9) (IL (us.take j) k.XU) (un:Int) W h (by have:=UK (us.take j) (Ap z.u).2.2;simp only[Bl,yC,decide_eq_true_eq] at this;omega));go_wp2_with fail;refine Ac 6 167 [.p w.heap.size 3,.v (.slice a9 n9 c9),.v (.slice (some ⟨bx,iy,none⟩) us.length cx),.i ((j:Int)),.p bx (iy+j),.i ((un:Int))] (λ_ _ _=>True) ?_ ?_
    .intro i hi o Y a O V A J x2 z
     match i,hi with
     |0,_|2,_|3,_=>exact sP Y z V A
     |1,_=>exact sL Y z V A (hl:=YF (bc J bm x3))
     |4,_=>exact sI Y z V A (hr:=by clear A V z;go_simp)
     |5,_=>exact sL Y z V A (hl:=F7 (bc J gL DX))
    intro Z O hR J
    have q1:(Z 1)=.slice a9 n9 c9:=Be hR 1;have q5:(Z 5)=.int .i64 un:=Be hR 5;clear hR;simp only[Aj,Ae,yL,yI,yJ,yH,q1,q5];simp;clear q1 q5;have S8:=AA (S7.below J);have oy:=AA (mX.trans (J.mono mX.size));have kX:=S8.xs.2.2.2;clear E D K x3 J DX;go_wp2_with fail;refine(CD _ S8.K.2.2.2).mono ?_;rintro r w9 ⟨v',rfl,hO,ez⟩;have T2:=AA (S8.XU ez hO);have mW:=oy.trans (ez.mono oy.size);have od:=AA (Pp (g:=w.heap.size) (j:=3) (u:=v') (AE.below ot mW) g9);have ob:=AA (Pp (g:=w.heap.size) (j:=3) (u:=v') (AE.below qS mW) l4);have lC:=AK (S8.below ez).yS.1;have oI:=(S8.below ez).xs.2.2.2;clear kX mW ez;obtain⟨a8,c8,e9,_,_⟩:=hO.rd.shape;generalize wS _=n8 at e9;subst e9;clear hO;generalize hW10:w9.setCell _ _=W10 at T2 od ob;go_wp2;go_roundw
    case rel=>
     refine⟨j+1,ω,ξ,λe he=>?_,od.u,ob.u,a8,n8,c8,?_⟩
     .rw[DQ (A9 (d:=0) bl),List.mem_append,xy] at he
      rcases he with he|rfl
      .exact cF e he
      rw[<-op.u];exact oj.u
     rw[P8 bl,<-op.u];exact T2.u
    case measure=>simp[intOf];omega
   obtain rfl:j=us.length:=ω;rw[xD] at cF S;have fd:¬(us.length:Int)<us.length:=ω;clear iF;go_wp2_with fail;go_meet
   case rel=>exact⟨cF.u,_,_,_,S.u⟩
  case rest=>
  obtain⟨az,a9,n9,c9,hS⟩:=hcut;have S:=AA hS;have fk:=AA (bp.trans (if_neg (by rw[Bool.not_eq_false,ym];exact az)));obtain⟨gS,rfl⟩:∃gS:Ω,gS=wc:=⟨_,rfl⟩
  clear az hS bp OB OU S5;obtain⟨mm,iG⟩:∃mm,mm=(sm&&!Ci (AI k.XX en).PQ (JK k.ZJ (BQ c)).g):=⟨_,rfl⟩
  have jT:=AA iG;clear iG;go_wp2_with fail;go_cut [112] (λlQ O=>lQ=.bool mm/\Ep 34 #[.int .i64 6,.int .i64 en,.int .i64 X,.int .i64 bn,.int .i64 c,.string nm] [w.heap.size+2] lo w.heap.size (w.heap.size+1) w O (.slice gm 12 bi) (.slice gi 12 av) (.slice ge 3 be) (.slice a9 n9 c9) {k with XU:=IL us k.XU})
  case first=>
   obtain⟨E,D,K,x3⟩:=S.xs;obtain⟨y0,y1,y2,y3,y4,y5⟩:=S.ys6;obtain⟨bt,bm,_,_⟩:=S.lts;have gh:=S.zx;obtain⟨_,f1,_⟩:=S.JK (f:=fn) (by show fn<k.ZJ.length;rw[z.len];exact js)
   try simp only at f1
   cases sm
   .clear f1
    refine Ac 13 167 [.b false,.b false,.u,.u,.u,.u,.u,.u,.u,.u,.u,.u,.u] (λ_ _ _=>True) ?_ ?_
    .intro i hi o Y a O V A J x2 z
     match i,hi with
     |0,_|1,_=>exact sP Y z V A
     |2,_|3,_|4,_|5,_|6,_|7,_|8,_|9,_|10,_|11,_|12,_=>exact sB Y z A
    intro Z O hR J
    have q1:(Z 1)=.bool false:=Be hR 1;clear hR;simp only[Aj,Ae,yL,yI,yJ,yH,q1];simp;clear q1;clear E D K x3 y0 y1 y2 y3 y4 y5;go_wp2_with fail;go_meet
    case rel=>exact⟨by rw[jT.u];rfl,S.below J⟩
   have iq:=mU rfl
   have kT:=jT.u;have RE:=S.K.2.2.1;have CM:=AA (λW (hW:Γ gS gS W)=>KQ (.slice gm 12 bi) (.slice gi 12 av) (.slice ge 3 be) (.slice a9 n9 c9) k en (JK k.ZJ fn).g W (RE.below hW) z gv (Cg (Ap z.u).2.1 _ (yw (Cj (by rw[z.len];exact js)))));rw[<-iq] at kT;generalize(JK k.ZJ fn).g=fg at f1 CM kT;clear RE iq;generalize Ci (AI k.XX en).PQ fg=my at CM kT;have HM:=AA kT;clear kT;cases my
   .skip
    refine Ac 13 167 [.b true,.b true,.a #[.slice gm 12 bi,.slice gi 12 av,.slice ge 3 be,.slice a9 n9 c9],.p (w.heap.size+1) 1,.i ((en:Int)),.p w.heap.size 1,.s gi 12 av,.i ((fn:Int)),.p gi (fn*3),.p gi (fn*3+1),.t fg,.b false,.b true] (λ_ _ _=>True) ?_ ?_
    .intro i hi o Y a O V A J x2 z
     have bC:=bc J bm E;have bA:=bc J bm D;have cC:=bc J bm K;have cz:=bc J bm x3;have cy:=bc J bt y1;have fb:=bc J gh f1
     match i,hi with
     |0,_|1,_|3,_|5,_|7,_|9,_|12,_=>exact sP Y z V A
     |2,_=>exact sL Y z V A (hl:=Pi ‹_› ‹_› ‹_› ‹_›)
     |4,_=>exact sL Y z V A (hl:=F7 ‹_›)
     |6,_=>exact sL Y z V A (hl:=Gi ‹_›)
     |8,_=>exact sI Y z V A (hr:=by clear A V z;go_simp)
     |10,_=>exact sL Y z V A (hl:=Zq ‹_›)
     |11,_=>exact sD Y z V A (CM _ J)
    intro Z O hR J
    have q1:(Z 1)=.bool true:=Be hR 1;have cN:(Z 12)=.bool true:=Be hR 12;clear hR;simp only[Aj,Ae,yL,yI,yJ,yH,q1,cN];simp;clear q1 cN;clear E D K x3 y0 y1 y2 y3 y4 y5 f1;go_wp2_with fail;go_meet
    case rel=>exact⟨by rw[HM.u];rfl,S.below J⟩
   skip
   refine Ac 13 167 [.b true,.b true,.a #[.slice gm 12 bi,.slice gi 12 av,.slice ge 3 be,.slice a9 n9 c9],.p (w.heap.size+1) 1,.i ((en:Int)),.p w.heap.size 1,.s gi 12 av,.i ((fn:Int)),.p gi (fn*3),.p gi (fn*3+1),.t fg,.b true,.b false] (λ_ _ _=>True) ?_ ?_
   .intro i hi o Y a O V A J x2 z
    have bC:=bc J bm E;have bA:=bc J bm D;have cC:=bc J bm K;have cz:=bc J bm x3;have cy:=bc J bt y1;have fb:=bc J gh f1
    match i,hi with
    |0,_|1,_|3,_|5,_|7,_|9,_|12,_=>exact sP Y z V A
    |2,_=>exact sL Y z V A (hl:=Pi ‹_› ‹_› ‹_› ‹_›)
    |4,_=>exact sL Y z V A (hl:=F7 ‹_›)
    |6,_=>exact sL Y z V A (hl:=Gi ‹_›)
    |8,_=>exact sI Y z V A (hr:=by clear A V z;go_simp)
    |10,_=>exact sL Y z V A (hl:=Zq ‹_›)
    |11,_=>exact sD Y z V A (CM _ J)
   intro Z O hR J
   have q1:(Z 1)=.bool true:=Be hR 1;have cN:(Z 12)=.bool false:=Be hR 12;clear hR;simp only[Aj,Ae,yL,yI,yJ,yH,q1,cN];simp;clear q1 cN;clear E D K x3 y0 y1 y2 y3 y4 y5 f1;go_wp2_with fail;go_meet
   case rel=>exact⟨by rw[HM.u];rfl,S.below J⟩
  case rest=>
  obtain⟨kg,ig⟩:=hcut;subst kg;replace ig:=AA ig;clear S;obtain⟨iP,rfl⟩:∃iP:Ω,iP=wc:=⟨_,rfl⟩
  cases mm
  rotate_left
  .have lM:=AA (show Ad k ⟨6,(en:Int),(X:Int),(bn:Int),c,nm⟩=(k,0,1) by
    have iG:=jT.symm;rw[yC,Bool.not_eq_true'] at iG;exact fk.trans (if_pos ⟨ij.trans iG.1,iG.2⟩))
   clear jT fk;obtain⟨⟨E,D,K,x3⟩,⟨⟨z0,z1,z2,z3⟩,bu⟩,HE,HR⟩:=ig.yR ay (v:=0) (code:=1) (lM.u) ψ;go_wp2_with ((try simp only[xS,Exit.then]);with_reducible refine yB ?_ rfl HR.u;obtain⟨E0,E1,E2,E3⟩:=HE.u;simp[results,vy,go_sem,E0,E1,E2,E3])
  have kp:¬(Bx c=true/\Fg k (en:Int) (JK k.ZJ (BQ c)).g=false):=by rintro⟨h1,L⟩;have h3:sm=true:=ij.symm.trans h1;have h4:Ci (AI k.XX en).PQ (JK k.ZJ (BQ c)).g=false:=L;have iG:=jT.u;rw[h3,h4] at iG;cases iG
  have lM:=AA (fk.trans (if_neg kp));clear jT fk kp;obtain⟨wo,hwo⟩:∃wo,wo=Aw k.mem X bn:=⟨_,rfl⟩
  have nv:=z.word (f:=X) (i:=bn) cT ls;rw[<-hwo] at nv lM;obtain⟨fo,jZ,nN,p5,kB⟩:=Rj wo;have m7:=λW (hW:Γ iP iP W)=>A7 (Da wo W ω)
  rw[nN] at m7;have CO:=AA m7;have qZ:=AA kB;generalize hso:Bx wo=so at*;have oe:=AA hso;have p4:(fo:Int)<12:=ω;obtain⟨E,D,K,x3⟩:=ig.xs;obtain⟨y0,y1,y2,y3,y4,y5⟩:=ig.ys6;obtain⟨bt,bm,_,_⟩:=ig.lts;obtain⟨gw,eL,Dw,hF,kC,Dj,_⟩:=ig.mrow g0 (f:=X) cT;have Dv:=Dj bn ls
  try simp only at Dv
  rw[<-hwo] at Dv;have gu:gm<iP.heap.size:=yK _ _ Dw;have v8:=AA hwo;clear Dj m7 nN kB hso nv hwo;go_wp2_with fail;refine Ac 17 167 [.p w.heap.size 0,.s gm 12 bi,.p (w.heap.size+1) 2,.i ((X:Int)),.p gm X,.s gw 4 eL,.p (w.heap.size+1) 3,.i ((bn:Int)),.p gw bn,.i wo,.v (.tuple #[fo,jZ,so]),.v (.tuple #[fo,jZ,so]),.i ((fo:Int)),.b jZ,.b so,.i ((fo:Int)),.b jZ] (λ_ _ _=>True) ?_ ?_
  .intro i hi o Y a O V A J x2 z
   have bA:=bc J bt y2;have cz:=bc J bt y3;have cy:=bc J hF Dv
   match i,hi with
   |0,_|2,_|6,_|11,_|12,_|13,_|14,_|15,_|16,_=>exact sP Y z V A
   |1,_=>exact sL Y z V A (hl:=GR (bc J bm E))
   |3,_|7,_|9,_=>exact sL Y z V A (hl:=F7 ‹_›)
   |4,_|8,_=>exact sI Y z V A (hr:=by clear A V z;go_simp)
   |5,_=>exact sL Y z V A (hl:=K5 (bc J gu Dw))
   |10,_=>exact sD Y z V A (CO _ J)
   |_+17,hq=>omega
  intro Z O hR J
  have j0:(Z 14)=.bool so:=Be hR 14;have nq:(Z 15)=.int .i64 fo:=Be hR 15;have np:(Z 16)=.bool jZ:=Be hR 16;clear hR;simp only[Aj,Ae,yL,yI,yJ,yH,j0,nq,np];simp;clear j0 nq np;have it:=AA (ig.below J);clear E D K x3 y0 y1 y2 y3 y4 y5 Dw Dv J CO gu hF kC ig bt bm;obtain⟨w12,rfl⟩:∃w12:Ω,w12=O:=⟨_,rfl⟩
  go_upto_if 129 with fail;go_cut [] (λO=>Ep 34 #[.int .i64 6,.int .i64 en,.int .i64 X,.int .i64 bn,.int .i64 c,.string nm] [w.heap.size+2] lo w.heap.size (w.heap.size+1) w O (.slice gm 12 bi) (.slice gi 12 av) (.slice ge 3 be) (.slice a9 n9 c9) {k with XU:=IL us k.XU,ZJ:=BI k.ZJ wo (-1)})
  case first=>
   cases so
   .have x0:=AA (Su (ZJ:=k.ZJ) (n:= -1) oe.u)
    go_wp2_with fail;go_meet
    case rel=>rw[x0.u];exact it.u
   have x0:=AA (Uj (ZJ:=k.ZJ) (n:= -1) oe (qZ rfl))
   obtain⟨E,D,K,x3⟩:=it.xs;obtain⟨bt,bm,_,_⟩:=it.lts;have gh:=it.zx;obtain⟨_,_,d2⟩:=it.JK (f:=fo) (by show fo<(k.ZJ).length;have:=z.len;(try simp only[Cy]);omega)
   try simp only at d2
   have gK:=z.yZ p5;generalize hrv:(JK (k.ZJ) fo).r=rv at d2 gK;obtain⟨nr,hnr⟩:∃nr,rv - 1=nr:=⟨_,rfl⟩
   have il:=AA hnr;clear hnr;have jw:(fo:Int)<12:=ω;go_wp2_with fail;refine Ac 10 167 [.p w.heap.size 1,.s gi 12 av,.i ((fo:Int)),.p w.heap.size 1,.s gi 12 av,.i ((fo:Int)),.p gi (fo*3),.p gi (fo*3+2),.i rv,.i nr] (λ_ _ _=>True) ?_ ?_
   .intro i hi o Y a O V A J x2 z
    have bC:=bc J bm D;have bA:=bc J gh d2
    match i,hi with
    |0,_|2,_|3,_|5,_|7,_=>exact sP Y z V A
    |1,_|4,_=>exact sL Y z V A (hl:=Gi ‹_›)
    |6,_=>exact sI Y z V A (hr:=by clear A V z;go_simp)
    |8,_=>exact sL Y z V A (hl:=F7 ‹_›)
    |9,_=>clear bC bA;obtain rfl:=yP Y;have d8:(a.tmps[138]?.getD Θ)=.int .i64 rv:=Bd A 8;clear A V;refine yO ?_;go_simp;exact z _ _ (by show yl .i64 (wU.wrap (rv - 1))=.int .i64 nr;rw[xA _ ω,il.u]) (yN _ _)
   intro Z O hR J
   have q1:(Z 1)=.slice gi 12 av:=Be hR 1;have q2:(Z 2)=.int .i64 fo:=Be hR 2;have q9:(Z 9)=.int .i64 nr:=Be hR 9;clear hR;simp only[Aj,Ae,yL,yI,yJ,yH,q1,q2,q9];simp;clear q1 q2 q9;have SB:=AA (it.below J);obtain⟨_,_,ib⟩:=SB.JK (f:=fo) (by show fo<(k.ZJ).length;have:=z.len;(try simp only[Cy]);omega);have Fr:=SB.fzi (fo*3+2);have NN:=SB.info (by show 12=(k.ZJ).length;have:=z.len;(try simp only[Cy]);omega) (f:=fo) (by show fo<(k.ZJ).length;have:=z.len;(try simp only[Cy]);omega) (-1)
   try simp only at NN ib
   rw[hrv] at NN ib;rw[show rv+ -1=nr by have:=il.u;omega] at NN;replace NN:=AA NN;generalize hW9:O.setCell _ _=W9 at NN;clear E D K x3 d2 J SB;go_wp2_with fail;go_meet
   case rel=>rw[x0.u];exact NN.u
  case rest=>
  replace hcut:=AA hcut;have jB:=hcut;clear hcut it;obtain⟨w12,rfl⟩:∃w12:Ω,w12=wc:=⟨_,rfl⟩
  go_upto_if 142 with fail;go_cut [] (λO=>Ep 34 #[.int .i64 6,.int .i64 en,.int .i64 X,.int .i64 bn,.int .i64 c,.string nm] [w.heap.size+2] lo w.heap.size (w.heap.size+1) w O (.slice gm 12 bi) (.slice gi 12 av) (.slice ge 3 be) (.slice a9 n9 c9) {k with XU:=IL us k.XU,ZJ:=BI (BI k.ZJ wo (-1)) c 1})
  case first=>
   cases sm
   .have x0:=AA (Su (ZJ:=BI k.ZJ wo (-1)) (n:=1) ij.u)
    go_wp2_with fail;go_meet
    case rel=>rw[x0.u];exact jB.u
   have x0:=AA (Uj (ZJ:=BI k.ZJ wo (-1)) (n:=1) ij (mU rfl))
   have SR:=AA (KI.refer (Nz (Ap z.u).2.1) z.len (n:= -1) (x:=wo) (.inr rfl));obtain⟨E,D,K,x3⟩:=jB.xs;obtain⟨bt,bm,_,_⟩:=jB.lts;have gh:=jB.zx;obtain⟨_,_,d2⟩:=jB.JK (f:=fn) (by show fn<(BI k.ZJ wo (-1)).length;have:=z.len;(try simp only[Cy]);omega)
   try simp only at d2
   have gK:=SR fn (by simp only[Cy];rw[z.len];exact js);generalize hrv:(JK (BI k.ZJ wo (-1)) fn).r=rv at d2 gK;obtain⟨nr,hnr⟩:∃nr,rv+1=nr:=⟨_,rfl⟩
   have il:=AA hnr;clear hnr;have jw:(fn:Int)<12:=ω;go_wp2_with fail;refine Ac 10 167 [.p w.heap.size 1,.s gi 12 av,.i ((fn:Int)),.p w.heap.size 1,.s gi 12 av,.i ((fn:Int)),.p gi (fn*3),.p gi (fn*3+2),.i rv,.i nr] (λ_ _ _=>True) ?_ ?_
   .intro i hi o Y a O V A J x2 z
    have bC:=bc J bm D;have bA:=bc J gh d2
    match i,hi with
    |0,_|2,_|3,_|5,_|7,_=>exact sP Y z V A
    |1,_|4,_=>exact sL Y z V A (hl:=Gi ‹_›)
    |6,_=>exact sI Y z V A (hr:=by clear A V z;go_simp)
    |8,_=>exact sL Y z V A (hl:=F7 ‹_›)
    |9,_=>clear bC bA;obtain rfl:=yP Y;have d8:(a.tmps[151]?.getD Θ)=.int .i64 rv:=Bd A 8;clear A V;refine yO ?_;go_simp;exact z _ _ (by show yl .i64 (wU.wrap (rv+1))=.int .i64 nr;rw[xA _ ω,il.u]) (yN _ _)
   intro Z O hR J
   have q1:(Z 1)=.slice gi 12 av:=Be hR 1;have q2:(Z 2)=.int .i64 fn:=Be hR 2;have q9:(Z 9)=.int .i64 nr:=Be hR 9;clear hR;simp only[Aj,Ae,yL,yI,yJ,yH,q1,q2,q9];simp;clear q1 q2 q9;have SB:=AA (jB.below J);obtain⟨_,_,ib⟩:=SB.JK (f:=fn) (by show fn<(BI k.ZJ wo (-1)).length;have:=z.len;(try simp only[Cy]);omega);have Fr:=SB.fzi (fn*3+2);have NN:=SB.info (by show 12=(BI k.ZJ wo (-1)).length;have:=z.len;(try simp only[Cy]);omega) (f:=fn) (by show fn<(BI k.ZJ wo (-1)).length;have:=z.len;(try simp only[Cy]);omega) (1)
   try simp only at NN ib
   rw[hrv] at NN ib;rw[show rv+1=nr by have:=il.u;omega] at NN;replace NN:=AA NN;generalize hW9:O.setCell _ _=W9 at NN;clear E D K x3 d2 J SB;go_wp2_with fail;go_meet
   case rel=>rw[x0.u];exact NN.u
  case rest=>
  replace hcut:=AA hcut;have jS:=hcut;clear hcut jB;obtain⟨w13,rfl⟩:∃w13:Ω,w13=wc:=⟨_,rfl⟩
  obtain⟨E,D,K,x3⟩:=jS.xs;obtain⟨y0,y1,y2,y3,y4,y5⟩:=jS.ys6;obtain⟨bt,bm,_,_⟩:=jS.lts;obtain⟨gw,eL,Dw,hF,kC,_⟩:=jS.mrow g0 (f:=X) cT;have gu:gm<w13.heap.size:=yK _ _ Dw;go_wp2_with fail;refine Ac 10 167 [.p w.heap.size 0,.s gm 12 bi,.p (w.heap.size+1) 2,.i ((X:Int)),.p gm X,.s gw 4 eL,.p (w.heap.size+1) 3,.i ((bn:Int)),.p (w.heap.size+1) 4,.i c] (λ_ _ _=>True) ?_ ?_
  .intro i hi o Y a O V A J x2 z
   have bA:=bc J bt y2;have cz:=bc J bt y3;have cy:=bc J bt y4
   match i,hi with
   |0,_|2,_|6,_|8,_=>exact sP Y z V A
   |1,_=>exact sL Y z V A (hl:=GR (bc J bm E))
   |3,_|7,_|9,_=>exact sL Y z V A (hl:=F7 ‹_›)
   |4,_=>exact sI Y z V A (hr:=by clear A V z;go_simp)
   |5,_=>exact sL Y z V A (hl:=K5 (bc J gu Dw))
  intro Z O hR J
  have q5:(Z 5)=.slice gw 4 eL:=Be hR 5;have q7:(Z 7)=.int .i64 bn:=Be hR 7;have q9:(Z 9)=.int .i64 c:=Be hR 9;clear hR;simp only[Aj,Ae,yL,yI,yJ,yH,q5,q7,q9];simp;clear q5 q7 q9;have qw:=AA (jS.below J);obtain⟨nX,jd,D2,_,_,hC,Fr,_,_,_,hS⟩:=qw.mrow g0 (f:=X) cT;have eD:=D2.symm.trans ((J.cell (p:=⟨gm,X,none⟩) gu).trans Dw);cases eD;have D3:=hC bn ls;have n4:=AA (hS bn c ls);generalize hW9:O.setCell _ _=W9 at n4;clear E D K x3 y0 y1 y2 y3 y4 y5 Dw D2 hS J jS hC;obtain⟨⟨E,D,K,x3⟩,⟨⟨z0,z1,z2,z3⟩,bu⟩,HE,HR⟩:=n4.fin ay (v:=0) (code:=0) (lM.u);go_wp2_with ((try simp only[xS,Exit.then]);with_reducible refine yB ?_ rfl HR.u;obtain⟨E0,E1,E2,E3⟩:=HE.u;simp[results,vy,go_sem,E0,E1,E2,E3])
 have t1:(fc !=0)=true:=by simp[ef]
 have hc:=AA ef;have bp:=AA (show Ad k ⟨6,(en:Int),ra,b,c,nm⟩=(k,0,fc) by rw[HP.u,if_neg ef]);clear ef FZ HP;obtain⟨⟨E,D,K,x3⟩,⟨⟨z0,z1,z2,z3⟩,bu⟩,HE,HR⟩:=S1.yR ay (v:=0) (code:=fc) (bp.u) (hc.u);go_wp2_with ((try simp only[xS,Exit.then]);with_reducible refine yB ?_ rfl HR.u;obtain⟨E0,E1,E2,E3⟩:=HE.u;simp[results,vy,go_sem,E0,E1,E2,E3])
theorem Zn (h:Dy lo w mv iv ev cv k)(ay:lo<=w.heap.size)(hk:Dg k)(call:AV)(he:0<=call.e/\call.e<3)(f2:call.nm.size<=maxLen)(hc:call.c<=9223372036854775807):
 Ξ prog 133 #[.agg #[mv,iv,ev,cv],.agg call.cs] w (L2 lo w (Ad k call)):=by
 have bK:=SC.start h ay call;obtain⟨am,ga,cm,ai,ni,ci,ae,gO,ce,ac,nc,cc,rfl,rfl,rfl,rfl⟩:=bK.Dq;have S0:=AA bK;obtain⟨kk,e,a,b,c,nm⟩:=call;simp only[AV.cs] at S0 ⊢;have z:=AA hk;have HE:=AA he;have HN:=AA f2;have HC:=AA hc;obtain⟨E,D,K,x3⟩:=S0.xs;obtain⟨y0,y1,y2,y3,y4,y5⟩:=S0.ys6;clear h bK he hk f2 hc;generalize hW0:((w.alloc _).alloc _).alloc _=W0 at*
 by_cases hk:kk=1∨kk=2∨kk=3∨kk=4∨kk=5∨kk=6∨kk=7∨kk=8∨kk=9∨kk=10∨kk=11
 .skip
  rcases hk with rfl|rfl|rfl|rfl|rfl|rfl|rfl|rfl|rfl|rfl|rfl
  all_goals
   have C:=S0.yS.2.2;go_in;go_wp2_with fail
   first
   |refine(Wj C S0.lo z ⟨_,e,a,b,c,nm⟩ HE rfl HN.u).mono ?_
   |refine(Wg C S0.lo z ⟨_,e,a,b,c,nm⟩ HE rfl).mono ?_
   |refine(Wh C S0.lo z ⟨_,e,a,b,c,nm⟩ HE rfl).mono ?_
   |refine(X6 C S0.lo z ⟨_,e,a,b,c,nm⟩ HE χ).mono ?_
   |refine(X9 C S0.lo z ⟨_,e,a,b,c,nm⟩ HE rfl HC.u).mono ?_
   |refine(Wi C S0.lo z ⟨_,e,a,b,c,nm⟩ HE rfl).mono ?_
   |refine(Tm C S0.lo z ⟨_,e,a,b,c,nm⟩ HE χ HN.u).mono ?_
   |refine(X5 C S0.lo z ⟨_,e,a,b,c,nm⟩ HE χ).mono ?_
   rintro r w1 ⟨m',i',e',c',rfl,hs,hK,N,hf⟩;obtain⟨hB,kJ,kS⟩:=L2.up S0 (yM ay (wt _ _)) (wt _ _) hs hK N hf;obtain⟨am,ry,cm,ai,ni,ci,ae,rz,ce,ac,nc,cc,rfl,rfl,rfl,rfl⟩:=hs;obtain⟨z0,z1,z2,z3⟩:=AH hB;have bu:=AK hB;have rf:=AA (AH kJ);have HR:=AA kS;clear hK N hf hB kJ kS E D K x3 y0 y1 y2 y3 y4 y5 hW0;go_wp2_with fail;exact yB (v:=.tuple #[.agg #[_,_,_,_],.int .i64 _,.int .i64 _]) (by simp[results,rU,go_sem,rf.u]) rfl HR.u
 simp only[not_or] at hk;obtain⟨e1,e2,e3,e4,e5,e6,e7,e8,e9,iM,lD⟩:=hk;have bp:=AA (show Ad k ⟨kk,e,a,b,c,nm⟩=(k,0,3) by unfold Ad;rw[if_neg e1,if_neg (by rw[Aa];simp only;omega),if_neg e7,if_neg e8,if_neg e9,if_neg (by simp only;omega)]);have t1:(kk==1)=false:=by simp[e1]
 have t2:(kk==2)=false:=by simp[e2]
 have t3:(kk==3)=false:=by simp[e3]
 have t4:(kk==4)=false:=by simp[e4]
 have t5:(kk==5)=false:=by simp[e5]
 have t6:(kk==6)=false:=by simp[e6]
 have t7:(kk==7)=false:=by simp[e7]
 have t8:(kk==8)=false:=by simp[e8]
 have t9:(kk==9)=false:=by simp[e9]
 have rp:(kk==10)=false:=by simp[iM]
 have ro:(kk==11)=false:=by simp[lD]
 clear e1 e2 e3 e4 e5 e6 e7 e8 e9 iM lD;go_in;obtain⟨⟨E,D,K,x3⟩,⟨⟨z0,z1,z2,z3⟩,bu⟩,HE,HR⟩:=S0.yR ay (v:=0) (code:=3) (bp.u) ψ;go_wp2_with ((try simp only[xS,Exit.then]);with_reducible refine yB ?_ rfl HR.u;obtain⟨E0,E1,E2,E3⟩:=HE.u;simp[results,rU,go_sem,E0,E1,E2,E3])
def Q8(lo:Nat)(b:Bool)(v:Φ)(w:Ω)(k:AQ):Prop:=b=true∨∃m i e c,v=.agg #[m,i,e,c]/\Dy lo w m i e c k
theorem Q8.below (h:Q8 lo b v w k)(N:Γ w w H):Q8 lo b v H k:=h.imp id λ⟨m,i,e,c,h1,L⟩=>⟨m,i,e,c,h1,L.below N⟩
theorem Q8.yV (h:Q8 lo b v w k)(hg:w.grownBy H (some g))(hB:w.heap[g]?=some (.cells cu 28 (0,0))):Q8 lo b v H k:=h.imp id λ⟨m,i,e,c,h1,L⟩=>⟨m,i,e,c,h1,L.yV hg hB⟩
def QK(lo:Nat)(w:Ω)(m i e c:Φ)(k:AQ)(y:Int):Prop:=fj m i e c/\(y=0->Dy lo w m i e c k)
theorem QK.below (h:QK lo w m i e c k y)(N:Γ w w H):QK lo H m i e c k y:=⟨h.1,λh0=>(h.2 h0).below N⟩
theorem QK.yV (h:QK lo w m i e c k y)(hg:w.grownBy H (some g))(hB:w.heap[g]?=some (.cells cu 28 (0,0))):QK lo H m i e c k y:=⟨h.1,λh0=>(h.2 h0).yV hg hB⟩
def NH(lo:Nat)(v:Φ)(w:Ω)(k:AQ)(x y:Int):Prop:=∃m i e c,v=.tuple #[.agg #[m,i,e,c],x,y]/\QK lo w m i e c k y
def Tf(lo:Nat)(v:Φ)(w:Ω)(k:AQ)(y:Int):Prop:=∃m i e c,v=.agg #[m,i,e,c]/\QK lo w m i e c k y
theorem NH.below (h:NH lo v w k x y)(N:Γ w w H):NH lo v H k x y:=by obtain⟨m,i,e,c,h1,L⟩:=h;exact⟨m,i,e,c,h1,L.below N⟩
theorem NH.yV (h:NH lo v w k x y)(hg:w.grownBy H (some g))(hB:w.heap[g]?=some (.cells cu 28 (0,0))):NH lo v H k x y:=by obtain⟨m,i,e,c,h1,L⟩:=h;exact⟨m,i,e,c,h1,L.yV hg hB⟩
theorem Tf.below (h:Tf lo v w k y)(N:Γ w w H):Tf lo v H k y:=by obtain⟨m,i,e,c,h1,L⟩:=h;exact⟨m,i,e,c,h1,L.below N⟩
theorem Tf.yV (h:Tf lo v w k y)(hg:w.grownBy H (some g))(hB:w.heap[g]?=some (.cells cu 28 (0,0))):Tf lo v H k y:=by obtain⟨m,i,e,c,h1,L⟩:=h;exact⟨m,i,e,c,h1,L.yV hg hB⟩
def JB(lo:Nat)(b:Bool)(v:Φ)(w:Ω)(k:AQ)(y:Int):Prop:=∃q,v=.pointer (some ⟨q,0,none⟩)/\lo<=q/\if b=true then ∃m i e c,w.heap[q]?=some (.cells #[m,i,e,c] 28 (0,0))/\QK lo w m i e c k y else w.heap[q]?=some (.cells #[ι,ι,ι,ι] 28 (0,0))
theorem JB.below (h:JB lo b v w k y)(N:Γ w w H):JB lo b v H k y:=by
 obtain⟨q,h0,h1,L⟩:=h;refine⟨q,h0,h1,?_⟩;cases b
 .exact AB L N
 obtain⟨m,i,e,c,h3,h4⟩:=L
 exact⟨m,i,e,c,AB h3 N,h4.below N⟩
theorem JB.stay (h:JB lo false v w k y)(hf:eI w H):JB lo false v H k y:=by obtain⟨q,h0,h1,L⟩:=h;exact⟨q,h0,h1,(hf q _ L).trans L⟩
theorem MM (h:Nk w mv iv ev cv k)(hk:Dg k)(call:AV)(he:0<=call.e/\call.e<3)(f2:call.nm.size<=maxLen)(lq:call.c<=9223372036854775807):
 Ξ prog 65 #[.agg #[mv,iv,ev,cv],.agg call.cs] w (Mk w (Ad k call)):=by
 have m8:=AA (λ(lo:Nat)(W:Ω)(m1 i1 e1 c1:Φ)(h:Dy lo W m1 i1 e1 c1 k)(ay:lo<=W.heap.size)=>Zn h ay hk call he f2 lq);have HR:=AA h;have qW:=AA hk;have HN:=AA (@Rf k call);generalize Ad k call=res at m8 HN ⊢;obtain⟨kr,vr,nr⟩:=res;obtain⟨ck,ce,ca,cb,cc,nm⟩:=call;simp only[AV.cs] at m8 ⊢;obtain⟨B0,B1,B2,bB,ji⟩:=It w (.cells #[mv,iv,ev,cv] 28) (.cells #[ck,ce,ca,cb,cc,nm] 34) (.cells #[ι,ι,ι,ι] 28);have CC:=AA (λW (hW:Γ (((w.alloc (.cells #[mv,iv,ev,cv] 28)).alloc (.cells #[ck,ce,ca,cb,cc,nm] 34)).alloc (.cells #[ι,ι,ι,ι] 28)).heap.size _ W)=>ML mv iv ev cv k W ((HR.below bB).below hW) qW.u);clear he f2 lq h hk;go_in;go_wp2_with fail;generalize((w.alloc _).alloc _).alloc _=W0 at*;obtain⟨E,D,K,x3⟩:=AH B0;obtain⟨y0,y1,y2,y3,y4,y5⟩:=KK B1;have lj:=AY B0;have kF:=AY B1;have gy:=AA bB;have HB:=AA (yj B0 B2);clear bB B0 B1 B2;have bB:=kF;clear kF;refine Cv 12 26 (λix=>ix==3||ix==9) [.a #[mv,iv,ev,cv],.z,.a #[.int .i64 ck,.int .i64 ce,.int .i64 ca,.int .i64 cb,.int .i64 cc,.string nm],.z,.z,.z,.i vr,.i nr,.z,.z,.i vr,.i nr] (λll ix vv ww=>match ix with
  |1=>Q8 W0 (ll 3) vv ww k
  |3|4=>NH W0 vv ww kr vr nr
  |5=>Tf W0 vv ww kr nr
  |8=>JB W0 (ll 9) vv ww kr nr
  |_=>True) (λll ww=>Γ W0 W0 ww) ?_ ?_ ?_ ?_ ?_ ?_
 .exact Ai (yN _ _) 1
 .intro j hj ll i vv wz fl hi hS ir lw bs hz
  match j,hj with
  |1,_=>exact(Q8.below (by rw[E9 (by rintro rfl;exact absurd hS ψ)];exact hz) bs)
  |3,_|4,_=>exact(NH.below hz bs)
  |5,_=>exact(Tf.below hz bs)
  |8,_=>exact(JB.below (by rw[E9 (by rintro rfl;exact absurd hS ψ)];exact hz) bs)
  |0,_|2,_|6,_|7,_|9,_|10,_|11,_=>exact hz
 .intro ll i wz fl hi hS ir bs hg
  exact hg.trans (bs.mono hg.size)
 .intro i hi hS o Y a O V ll A R J x2 z
  have bC:=bc J lj E;have bA:=bc J lj D;have cC:=bc J lj K;have cz:=bc J lj x3;have cy:=bc J bB y0;have fb:=bc J bB y1;have g3:=bc J bB y2;have im:=bc J bB y3;have iA:=bc J bB y4;have iz:=bc J bB y5
  match i,hi,hS with
  |0,_,_=>exact Kf Y z V A R (hl:=Pi ‹_› ‹_› ‹_› ‹_›)
  |1,_,_=>exact ey Y z V A R (CC _ J) (by rintro r w_ ⟨m',i',e',c',rfl,hO,bf⟩;exact⟨_,rfl,(.inr ⟨m',i',e',c',rfl,hO.lower J.size⟩),bf⟩)
  |2,_,_=>exact Kf Y z V A R (hl:=fX ‹_› ‹_› ‹_› ‹_› ‹_› ‹_›)
  |10,_,_|11,_,_=>exact Tj Y z V A R
  |3,_,hs|9,_,hs=>cases hs
  |4,_,_=>clear bC bA cC cz cy fb g3 im iA iz;obtain rfl:=yP Y;have d3:NH W0 (a.tmps[14]?.getD Θ) O kr vr nr:=Cr A R 3;have u3:ll 3=true:=R.2.1 3 φ;have u9:=A6 R 9;clear A V;refine yO ?_;go_simp;exact z _ _ d3 (yN _ _)
  |5,_,_=>clear bC bA cC cz cy fb g3 im iA iz;obtain rfl:=yP Y;have d4:NH W0 (a.tmps[10]?.getD Θ) O kr vr nr:=Cr A R 4;have u9:=A6 R 9;clear A V;obtain⟨m',i',e',c',d4,hO⟩:=d4;refine yO ?_;go_simp;exact z _ _ ⟨_,_,_,_,rfl,hO⟩ (yN _ _)
  |6,_,_|7,_,_=>clear bC bA cC cz cy fb g3 im iA iz;obtain rfl:=yP Y;have d4:NH W0 (a.tmps[10]?.getD Θ) O kr vr nr:=Cr A R 4;clear A V;obtain⟨m',i',e',c',d4,hO⟩:=d4;refine yO ?_;go_simp;exact z _ _ rfl (yN _ _)
  |8,_,_=>clear bC bA cC cz cy fb g3 im iA iz;obtain rfl:=yP Y;have u9:=A6 R 9;clear A V;refine yO ?_;go_simp;exact z _ _ ⟨_,rfl,J.size,by rw[E9 ψ,u9];exact yy _ _⟩ (AG _ _)
 .intro i hi hS o Y a O V ll A R J x2 z
  match i,hi,hS with
  |0,_,hs|1,_,hs|2,_,hs|4,_,hs|5,_,hs|6,_,hs|7,_,hs|8,_,hs|10,_,hs|11,_,hs=>cases hs
  |3,_,_=>
   obtain rfl:=yP Y;have d1:Q8 W0 (ll 3) (a.tmps[12]?.getD Θ) O k:=Cr A R 1;have d2:(a.tmps[13]?.getD Θ)=.agg #[ck,ce,ca,cb,cc,nm]:=Cr A R 2;have u9:=A6 R 9;clear A V
   rcases d1 with d1|⟨m',i',e',c',d1,hO⟩
   .rw[R.1] at d1;cases d1
   refine yO ?_;go_simp;refine(m8 _ _ _ _ _ _ hO J.size).mono ?_;rintro r w_ ⟨m2,i2,e2,c2,rfl,hs,pU,bf,hf⟩;exact z _ _ ⟨m2,i2,e2,c2,rfl,hs,pU⟩ (J.trans bf) (λj f3 gg fd hu=>match j,gg with
    |0,_|2,_|6,_|7,_|9,_|10,_|11,_=>hu
    |1,_=> .inl (by rw[Fh])
    |3,_=>absurd rfl f3
    |4,_=>absurd (R.2.2 4 3 (fd) φ) (by rw[R.1];decide)
    |5,_=>absurd (R.2.2 4 3 (R.2.2 5 4 (fd) φ) φ) (by rw[R.1];decide)
    |8,_=>by
     change JB _ (ll 9) _ _ _ _ at hu
     rw[u9] at hu
     show JB _ (Hh ll 3 9) _ _ _ _
     rw[E9 ψ,u9];exact JB.stay hu hf)
  |9,_,_=>
   obtain rfl:=yP Y;have d8:JB W0 (ll 9) (a.tmps[7]?.getD Θ) O kr nr:=Cr A R 8;have d5:Tf W0 (a.tmps[15]?.getD Θ) O kr nr:=Cr A R 5;have u3:ll 3=true:=R.2.1 3 φ;clear A V;obtain⟨qb,iM,gp,cr⟩:=d8;rw[R.1] at cr;replace cr:O.heap[qb]?=some (.cells #[ι,ι,ι,ι] 28 (0,0)):=cr;obtain⟨m',i',e',c',d5,hO⟩:=d5;obtain⟨va,vn,vc,wa,wn,wc,xa,xn,xc,ya,yn,yc,rfl,rfl,rfl,rfl⟩:=hO.1;obtain⟨c0,jA,c2,c3⟩:=AH cr;have fq:=AK cr;have bk:=AA (Aq O qb (.slice va vn vc) (.slice wa wn wc) (.slice xa xn xc) (.slice ya yn yc));have mY:=AA iM;have Hq:=AA cr;have HO:=AA hO;clear cr hO;refine yO ?_;go_simp;exact z Θ _ trivial (AM J bk gp J.size) (λj f3 gg fd hu=>match j,gg with
    |0,_|2,_|6,_|7,_|10,_|11,_=>hu
    |1,_=>by
     show Q8 _ (Hh ll 9 3) _ _ _
     rw[E9 ψ];exact Q8.yV hu bk Hq.u
    |3,_|4,_=>NH.yV hu bk Hq.u
    |5,_=>Tf.yV hu bk Hq.u
    |8,_=>⟨qb,mY.u,gp,by rw[Fh];exact⟨_,_,_,_,DP Hq.u,HO.yV bk Hq.u⟩⟩
    |9,_=>absurd rfl f3)
 intro Z O ll az hR J
 have q8:JB W0 (ll 9) (Z 8) O kr nr:=Be hR 8;have dr:(Z 10)=.int .i64 vr:=Be hR 10;have f8:(Z 11)=.int .i64 nr:=Be hR 11;clear hR;simp only[DD,Bj,yL,yI,yJ,yH,dr,f8];simp;generalize Z 8=z8 at q8 ⊢;clear dr f8;obtain⟨qb,rfl,gp,cr⟩:=q8;rw[az 9 ψ,if_pos rfl] at cr;obtain⟨m',i',e',c',fv,hO⟩:=cr;clear az E D K x3 y0 y1 y2 y3 y4 y5;obtain⟨va,vn,vc,wa,wn,wc,xa,xn,xc,ya,yn,yc,rfl,rfl,rfl,rfl⟩:=hO.1;obtain⟨c0,jA,c2,c3⟩:=AH fv;have ng:=AB HB.1 J;have gX:=AB HB.2 J;have jV:=AA (gy.trans (J.mono gy.size))
 by_cases h0:nr=0
 focus
  subst h0
  have hK:=hO.2 rfl;have bu:=AK gX;obtain⟨z0,z1,z2,z3⟩:=AH gX;obtain⟨E0,E1,E2,E3⟩:=KW (m':=.slice va vn vc) (i':=.slice wa wn wc) (e':=.slice xa xn xc) (c':=.slice ya yn yc) gX;have HE:=AA (yj E0 (yj E1 (yj E2 E3)));have bk:=Aq O (w.heap.size+1+1) (.slice va vn vc) (.slice wa wn wc) (.slice xa xn xc) (.slice ya yn yc);have lL:=AA (show Dy w _ (.slice va vn vc) (.slice wa wn wc) (.slice xa xn xc) (.slice ya yn yc) kr from(hK.yV bk gX).lower gy.size);have jW:=AA (AM jV bk ω jV.size);clear E0 E1 E2 E3 hO hK bk ng gX HN J fv
 rotate_left
 focus
  have t0:(nr !=0)=true:=by simp[h0]
  have hN:=HN h0;simp only[Prod.mk.injEq,and_true] at hN;obtain⟨rfl,rfl⟩:=hN;obtain⟨E,D,K,x3⟩:=AH ng;have rg:=CC O J;clear hO fv c0 jA c2 c3;go_wp2_with fail;refine rg.mono ?_;rintro r w4 ⟨m4,i4,e4,c4,rfl,O4,b4⟩;have B4:=AB gX b4;have bu:=AK B4;obtain⟨z0,z1,z2,z3⟩:=AH B4;obtain⟨E0,E1,E2,E3⟩:=KW (m':=m4) (i':=i4) (e':=e4) (c':=c4) B4;have HE:=AA (yj E0 (yj E1 (yj E2 E3)));have bk:=Aq w4 (w.heap.size+1+1) m4 i4 e4 c4;have lL:=AA (show Dy w _ m4 i4 e4 c4 kr from(O4.yV bk B4).lower jV.size);have jW:=AA (AM (jV.trans (b4.mono jV.size)) bk ω (by have:=jV.size;have:=b4.size;omega));obtain⟨⟨_,_,_,rfl⟩,⟨_,_,_,rfl⟩,⟨_,_,_,rfl⟩,⟨_,_,_,rfl⟩⟩:=O4.Dq;clear E0 E1 E2 E3 O4 b4 B4 bk ng gX E D K x3 J
 rotate_left
 all_goals
  go_wp2_with fail;exact yB (v:=.tuple #[.agg #[_,_,_,_],_,_]) (by simp[results,Tryz.results65,go_sem,HE.u]) rfl ⟨_,_,_,_,rfl,lL.u,jW.u⟩
def LR(w:Ω)(res:Nm)(r:Ending)(H:Ω):Prop:=∃m i e c,r=.returned (.tuple #[.agg #[m,i,e,c],res.2.1,.bool (res.2.2==0)])/\Dy w H m i e c res.1/\Γ w w H
theorem GK (h:Nk w m i e c k)(hk:Dg k)(kind a b x:Int)(hx:x<=9223372036854775807):
 Ξ prog 80 #[.agg #[m,i,e,c],.int .i64 kind,.int .i64 a,.int .i64 b,.int .i64 x] w (LR w (Ad k (Ah kind a b x))):=by
 obtain⟨N0,N1,bB,ji⟩:=LF w (.cells #[m,i,e,c] 28) (.cells #[ι,ι,ι,ι] 28);have C:=MM (h.below bB) hk (Ah kind a b x) ⟨Int.le_refl 0,(ψ:(0:Int)<3)⟩ (ψ:gA.size<=maxLen) hx;simp only[AV.cs,Ah,gA] at C ⊢;generalize Ad k ⟨kind,0,a,b,x,⟨#[97]⟩⟩=res at C ⊢;obtain⟨kr,vr,nr⟩:=res;have C:=AA C;clear h hk hx;obtain⟨E,D,K,x3⟩:=AH N0;go_in;go_wp2_with fail;generalize(w.alloc _).alloc _=W0 at*;refine C.mono ?_;rintro r w1 ⟨m1,i1,e1,c1,rfl,O1,b1⟩;obtain⟨⟨ma,mn,mc,rfl⟩,⟨ia,iN,ic,rfl⟩,⟨ea,en,ec,rfl⟩,⟨qa,qn,qc,rfl⟩⟩:=O1.Dq;obtain⟨N2,b2⟩:=Ec w1 (.cells #[.slice ma mn mc,.slice ia iN ic,.slice ea en ec,.slice qa qn qc] 28);have gX:=AB (AB N1 b1) b2;have O2:=O1.below b2;have HW:=AA (bB.trans ((b1.trans (b2.mono b1.size)).mono bB.size));have bu:=AK gX;obtain⟨z0,z1,z2,z3⟩:=AH gX;obtain⟨p0,p1,p2,p3⟩:=AH N2;obtain⟨E0,E1,E2,E3⟩:=KW (m':=.slice ma mn mc) (i':=.slice ia iN ic) (e':=.slice ea en ec) (c':=.slice qa qn qc) gX;have HE:=AA (yj E0 (yj E1 (yj E2 E3)));have bk:=Aq (w1.alloc (.cells #[.slice ma mn mc,.slice ia iN ic,.slice ea en ec,.slice qa qn qc] 28)) (w.heap.size+1) (.slice ma mn mc) (.slice ia iN ic) (.slice ea en ec) (.slice qa qn qc);have lL:=AA (show Dy w _ (.slice ma mn mc) (.slice ia iN ic) (.slice ea en ec) (.slice qa qn qc) kr from(O2.yV bk gX).lower bB.size);have jW:=AA (AM HW bk ω HW.size);clear E0 E1 E2 E3 bk gX N0 N1 N2 E D K x3 O1 O2 b1 b2 bB ji C;go_wp2_with fail;exact yB (v:=.tuple #[.agg #[_,_,_,_],_,_]) (by simp[results,Tryz.results80,go_sem,HE.u]) rfl ⟨_,_,_,_,rfl,lL.u,jW.u⟩
def Qg(lo:Nat)(w:Ω)(m i e c:Φ)(k:AQ):Prop:=(∃Z,AP lo 29 1 Gs w m Z/\GY (AE lo w) Z k.mem)/\AP lo 115 3 Au w i k.ZJ/\(∃ps,AP lo 81 2 FR w e ps/\GY (λp e=>AP lo 9 1 A0 w p.1 e.PQ/\p.2=e.root) ps k.XX)/\AP lo 125 4 AZ w c k.XU
def aw(lo:Nat)(w:Ω)(u:Φ)(r:List Int):Prop:=AE lo w u r∨(r=[]/\∃a cg,u=.slice a 0 cg/\cg<=maxLen/\(a=none->cg=0))
theorem aw.rd (h:aw lo w u r):A3 w u r:=by
 rcases h with h|⟨rfl,a,cg,rfl,h1,L⟩
 .exact AE.rd h
 exact⟨a,cg,rfl,yu _,h1,rfl,L,λh0=>absurd h0 (Nat.lt_irrefl 0)⟩
def Qh(lo:Nat)(w:Ω)(m i e c s l q:Φ)(P:AR):Prop:=Qg lo w m i e c P.Ve/\(∃Z,AP lo 29 1 Gs w s Z/\GY (aw lo w) Z P.swap)/\AE lo w l P.low/\AP lo 87 3 Dc w q P.XY
section
variable {lo lo':Nat} {w H:Ω} {m i e c s l q:Φ} {k:AQ} {P:AR}
theorem Dy.sf(h:Dy lo w m i e c k):Qg lo w m i e c k:=by obtain⟨⟨Z,h1,L,_⟩,h3,⟨ps,h4,h5,_⟩,h6⟩:=h;exact⟨⟨Z,h1,L⟩,h3,⟨ps,h4,h5⟩,h6⟩
theorem EI.sf(h:EI lo w m i e c s l q P):Qh lo w m i e c s l q P:=by
 obtain⟨Z,h1,L,_⟩:=h.swp;exact⟨h.ker.sf,⟨Z,h1,L.mono λ_ _ h=> .inl h⟩,h.low,h.pgs⟩
theorem Qg.rd(h:Qg lo w m i e c k):Nk w m i e c k:=by
 obtain⟨⟨Z,h1,L⟩,h3,⟨ps,h4,h5⟩,h6⟩:=h;exact⟨⟨Z,h1.rd,L.mono λ_ _ h=>AE.rd h⟩,h3.rd,⟨ps,h4.rd,h5.mono λ_ _ h=>⟨h.1.rd,h.2⟩⟩,h6.rd⟩
theorem Qh.rd(h:Qh lo w m i e c s l q P):Kr w m i e c s l q P:=by
 obtain⟨h0,⟨Z,h1,L⟩,h3,h4⟩:=h;exact⟨h0.rd,⟨Z,h1.rd,L.mono λ_ _ h=>h.rd⟩,h3.rd,h4.rd⟩
theorem Qg.map(h:Qg lo w m i e c k)(f:∀t sz n v xs,t≠28->t≠32->w.ownsRow lo t sz v n xs->H.ownsRow lo' t sz v n xs):Qg lo' H m i e c k:=by
 obtain⟨⟨Z,h1,L⟩,h3,⟨ps,h4,h5⟩,h6⟩:=h;exact⟨⟨Z,f _ _ _ _ _ ψ ψ h1,L.mono λ_ _ h=>f _ _ _ _ _ ψ ψ h⟩,f _ _ _ _ _ ψ ψ h3,⟨ps,f _ _ _ _ _ ψ ψ h4,h5.mono λ_ _ h=>⟨f _ _ _ _ _ ψ ψ h.1,h.2⟩⟩,f _ _ _ _ _ ψ ψ h6⟩
theorem Qh.map(h:Qh lo w m i e c s l q P)(f:∀t sz n v xs,t≠28->t≠32->w.ownsRow lo t sz v n xs->H.ownsRow lo' t sz v n xs):Qh lo' H m i e c s l q P:=by
 obtain⟨h0,⟨Z,h1,L⟩,h3,h4⟩:=h;exact⟨h0.map f,⟨Z,f _ _ _ _ _ ψ ψ h1,L.mono λ_ _ h=>h.imp (f _ _ _ _ _ ψ ψ) id⟩,f _ _ _ _ _ ψ ψ h3,f _ _ _ _ _ ψ ψ h4⟩
theorem IF{g:Nat}(hg:w.grownBy H (some g))(hl:g<lo)(ay:lo'<=lo):∀t sz n v xs,t≠28->t≠32->w.ownsRow lo t sz v n xs->H.ownsRow lo' t sz v n xs:=λ_ _ _ _ _ _ _ h=>BS (Bc h hg (λk hk=>by cases hk;exact hl)) ay
theorem LG(N:Γ w w H)(ay:lo'<=lo):∀t sz n v xs,t≠28->t≠32->w.ownsRow lo t sz v n xs->H.ownsRow lo' t sz v n xs:=λ_ _ _ _ _ _ _ h=>BS (BC h N) ay
theorem Lo{b:Nat}{cu:Array Φ}(hg:w.grownBy H (some b))(hB:w.heap[b]?=some (.cells cu T (0,0)))(hT:T=28∨T=32)(ay:lo'<=lo):∀t sz n v xs,t≠28->t≠32->w.ownsRow lo t sz v n xs->H.ownsRow lo' t sz v n xs:=
 λ_ _ _ _ _ h1 L h=>BS (DY h hg hB (by rcases hT with rfl|rfl;(· exact h1);(· exact L))) ay
theorem Qg.Dq(h:Qg lo w m i e c k):(∃a n q,m=.slice a n q)/\(∃a n q,i=.slice a n q)/\(∃a n q,e=.slice a n q)/\∃a n q,c=.slice a n q:=by obtain⟨⟨Z,h1,L⟩,h3,⟨ps,h4,h5⟩,h6⟩:=h;obtain⟨_,_,rfl,_,_⟩:=h1.rd.shape;obtain⟨_,_,rfl,_,_⟩:=h3.rd.shape;obtain⟨_,_,rfl,_,_⟩:=h4.rd.shape;obtain⟨_,_,rfl,_,_⟩:=h6.rd.shape;exact⟨⟨_,_,_,rfl⟩,⟨_,_,_,rfl⟩,⟨_,_,_,rfl⟩,⟨_,_,_,rfl⟩⟩
theorem Qh.Dq(h:Qh lo w m i e c s l q P):((∃a n q,m=.slice a n q)/\(∃a n q,i=.slice a n q)/\(∃a n q,e=.slice a n q)/\∃a n q,c=.slice a n q)/\(∃a n q,s=.slice a n q)/\(∃a n q,l=.slice a n q)/\∃a n r,q=.slice a n r:=by obtain⟨h0,⟨Z,h1,L⟩,h3,h4⟩:=h;have h5:=h0.Dq;obtain⟨_,_,rfl,_,_⟩:=h1.rd.shape;obtain⟨_,_,rfl,_,_⟩:=h3.rd.shape;obtain⟨_,_,rfl,_,_⟩:=h4.rd.shape;exact⟨h5,⟨_,_,_,rfl⟩,⟨_,_,_,rfl⟩,⟨_,_,_,rfl⟩⟩
end
theorem Ms (f:Int)(w:Ω)(h0:0<=f)(h1:f<=11):Ξ prog 91 #[.int .i64 f,.bool true] w λe H=>e=.returned (.int .i64 (Ii f))/\Γ w w H:=by unfold Ii;go_in;go_wp2;go_ret;exact⟨rfl,yN _ _⟩
def GB(W:Ω)(q:Nat)(k:AQ)(t:Bool)(ww:Ω):Prop:=match t with
 |false=>Γ W W ww
 |true=>∃wz m i e c,Γ W W wz/\Dy W wz m i e c k/\Γ wz.heap.size (Fq wz q m i e c) ww
variable{t:Bool}
theorem GB.grow{fl:Ω}(h:GB W q k t ww)(N:Γ ww ww fl):GB W q k t fl:=by
 cases t
 .exact Below.trans h (N.mono (Below.size h))
 obtain⟨wz,m,i,e,c,h1,h3,L⟩:=h
 exact⟨wz,m,i,e,c,h1,h3,L.trans (N.mono (by have:=L.size;simpa[Fq] using this))⟩
theorem GB.cell (h:GB W q k t ww)(ht:t=false){v:Φ}(hg:g<W.heap.size)(hc:W.cell? (g,o)=some v):ww.cell? (g,o)=some v:=by subst ht;exact(sQ (p:=⟨g,o,none⟩) h hg).trans hc
theorem GB.other (h:GB W q k t ww){v:Φ}(hg:g<W.heap.size)(gU:g≠q)(hc:W.cell? (g,o)=some v):ww.cell? (g,o)=some v:=by
 cases t
 .exact(sQ (p:=⟨g,o,none⟩) h hg).trans hc
 obtain⟨wz,m,i,e,c,h1,_,L⟩:=h
 have hz:g<wz.heap.size:=yt hg h1.size;exact(sQ (p:=⟨g,o,none⟩) L (by simpa[Fq] using hz)).trans ((Bu (o:=o) (Aq wz q m i e c) hz (λe=>gU (yP e).symm)).trans ((h1.cell (p:=⟨g,o,none⟩) hg).trans hc))
def Fc(lo:Nat)(v:Φ)(w:Ω)(k:AQ)(x:Int)(b:Bool):Prop:=∃m i e c,v=.tuple #[.agg #[m,i,e,c],x,b]/\Dy lo w m i e c k
theorem Fc.below (h:Fc lo v w k x b)(N:Γ w w H):Fc lo v H k x b:=by obtain⟨m,i,e,c,h1,L⟩:=h;exact⟨m,i,e,c,h1,L.below N⟩
theorem Fc.yV (h:Fc lo v w k x b)(hg:w.grownBy H (some g))(hB:w.heap[g]?=some (.cells cu 28 (0,0))):Fc lo v H k x b:=by obtain⟨m,i,e,c,h1,L⟩:=h;exact⟨m,i,e,c,h1,L.yV hg hB⟩
def PW(lo:Nat)(w:Ω)(v:Φ):Prop:=∃Z,AP lo 29 1 Gs w v Z/\Z.length=16/\∀u∈Z,∃a cg,u=.slice a 0 cg/\cg<=maxLen/\(a=none->cg=0)
theorem PW.of (h:Ay lo w v Z (xZ 16 [])):PW lo w v:=by
 have hl:Z.length=16:=h.2.1.1.trans (uy ..);refine⟨Z,h.1,hl,λu hu=>?_⟩;obtain⟨j,hj⟩:=xO hu;have fd:=(yD.1 hj).1;have hr:=h.2.1.2 j u [] hj (by rw[vO,if_pos ω]);obtain⟨a,cg,rfl,_,hc,_,hn,_⟩:=hr.rd;exact⟨a,cg,rfl,hc,hn⟩
theorem PW.below (h:PW lo w v)(N:Γ w w H):PW lo H v:=by obtain⟨Z,h1,L⟩:=h;exact⟨Z,AP.below h1 N,L⟩
theorem PW.lower{lo':Nat}(h:PW lo w v)(hl:lo'<=lo):PW lo' w v:=by obtain⟨Z,h1,L⟩:=h;exact⟨Z,BS h1 hl,L⟩
theorem PW.yV{fr:Nat×Nat}(h:PW lo w v)(hg:w.grownBy H (some g))(hB:w.heap[g]?=some (.cells cu T fr))(hT:29≠T:=by decide):PW lo H v:=by obtain⟨Z,h1,L⟩:=h;exact⟨Z,AP.yV h1 hg hB hT,L⟩
theorem PW.grown{o:Option Nat}(h:PW lo w v)(hg:w.grownBy H o)(hT:∀b,v.ownBlock=some b->o≠some b):PW lo H v:=by
 obtain⟨Z,h1,L⟩:=h;refine⟨Z,Av h1 hg ?_,L⟩
 rcases hv:v.ownBlock with _|b
 .exact .inl rfl
 exact .inr (hT b hv).symm
theorem PW.sf (h:PW lo w v):∃Z,AP lo 29 1 Gs w v Z/\GY (aw lo w) Z (xZ 16 []):=by
 obtain⟨Z,h1,L,h3⟩:=h;refine⟨Z,h1,⟨by rw[L,uy],λi x y hx hy=>?_⟩⟩;rw[vO] at hy
 split at hy
 .cases hy
  exact .inr ⟨rfl,h3 x (yw hx)⟩
 cases hy
theorem PW.slice (h:PW lo w v):∃a n c,v=.slice a n c:=by obtain⟨Z,h1,_⟩:=h;obtain⟨_,_,rfl,_,_⟩:=h1.rd.shape;exact⟨_,_,_,rfl⟩
structure Kw(lo g gk q:Nat)(w:Ω)(l:Int)(n j:Nat)(m i e c sv lv qv:Φ):Prop where
 pb:w.heap[g]?=some (.cells #[ι,ι,ι,ι,sv,lv,qv,θ,l] 32 (0,0))
 kb:w.heap[q]?=some (.cells #[m,i,e,c] 28 (0,0))
 gb:∃a b c d,w.heap[gk]?=some (.cells #[a,b,c,d] 28 (0,0))
 yT:lo<=g/\lo<=gk/\lo<=q/\lo<=w.heap.size
 ker:Dy lo w m i e c (Eb n)
 swp:PW lo w sv
 low:AE lo w lv (MO j)
 pgs:AP lo 87 3 Dc w qv (xZ 16 ⟨0,0,false⟩)
section
variable {lo g gk q:Nat} {w w1:Ω} {l:Int} {n j:Nat} {m i e c sv lv qv:Φ}
theorem Kw.below(h:Kw lo g gk q w l n j m i e c sv lv qv)(N:Γ w w w1):Kw lo g gk q w1 l n j m i e c sv lv qv:=by obtain⟨a,b,c',d,hg⟩:=h.gb;exact⟨AB h.pb N,AB h.kb N,⟨a,b,c',d,AB hg N⟩,⟨h.yT.1,h.yT.2.1,h.yT.2.2.1,yM h.yT.2.2.2 N.size⟩,h.ker.below N,h.swp.below N,h.low.below N,h.pgs.below N⟩
theorem Kw.keep(h:Kw lo g gk q w l n j m i e c sv lv qv){p:Nat}{cu:Array Φ}(hp:w.heap[p]?=some (.cells cu 28 (0,0)))(hg:w.grownBy w1 (some p)):
 w1.heap[g]?=some (.cells #[ι,ι,ι,ι,sv,lv,qv,θ,l] 32 (0,0))/\PW lo w1 sv/\AE lo w1 lv (MO j)/\AP lo 87 3 Dc w1 qv (xZ 16 ⟨0,0,false⟩):=
 ⟨As h.pb hg (Ca hp h.pb),h.swp.yV hg hp,DY h.low hg hp,h.pgs.yV hg hp⟩
theorem Kw.put{n':Nat}(h:Kw lo g gk q w l n j m i e c sv lv qv)(N:Γ w w w1)(wx:Dy w w1 m' i' e' c' (Eb n')):Kw lo g gk q (Fq w1 q m' i' e' c') l n' j m' i' e' c' sv lv qv:=by
 have h':=h.below N;have bk:=Aq w1 q m' i' e' c';obtain⟨k1,k2,k3,k4⟩:=h'.keep h'.kb bk;obtain⟨a,b,c2,d,hg⟩:=h'.gb;refine⟨k1,DP h'.kb,?_,⟨h.yT.1,h.yT.2.1,h.yT.2.2.1,yM h'.yT.2.2.2 bk.size⟩,(wx.yV bk h'.kb).lower h.yT.2.2.2,k2,k3,k4⟩
 by_cases e:q=gk
 .subst e
  exact⟨_,_,_,_,DP h'.kb⟩
 exact⟨a,b,c2,d,As hg bk e⟩
theorem Kw.new{n':Nat}(h:Kw lo g gk q w l n j m i e c sv lv qv)(N:Γ w w w1)(wx:Dy w w1 m' i' e' c' (Eb n')):Kw lo g gk w1 (w1.alloc (.cells #[m',i',e',c'] 28)) l n' j m' i' e' c' sv lv qv:=by have h':=(h.below N).below (AG w1 (.cells #[m',i',e',c'] 28));exact⟨h'.pb,yy _ _,h'.gb,⟨h.yT.1,h.yT.2.1,yM h.yT.2.2.2 N.size,h'.yT.2.2.2⟩,(wx.below (AG _ _)).lower h.yT.2.2.2,h'.swp,h'.low,h'.pgs⟩
theorem Kw.back(h:Kw lo g gk q w l n j m i e c sv lv qv):Kw lo g gk gk (Fq w gk m i e c) l n j m i e c sv lv qv:=by obtain⟨a,b,c2,d,hg⟩:=h.gb;have bk:=Aq w gk m i e c;obtain⟨k1,k2,k3,k4⟩:=h.keep hg bk;exact⟨k1,DP hg,⟨_,_,_,_,DP hg⟩,⟨h.yT.1,h.yT.2.1,h.yT.2.1,yM h.yT.2.2.2 bk.size⟩,h.ker.yV bk hg,k2,k3,k4⟩
theorem Kw.push{B:Nat}{w4 w5:Ω}{o':Φ}{fr:Int}(h:Kw lo g gk q w l n j m i e c sv lv qv)(x2:Dy B w m i e c (Eb n))(hB:lo<=B)(hr:∀b,lv.ownBlock=some b->b<B)(b4:Γ w w w4)(q1:w5.ownsRow lo 3 1 o' (j+1) ((MO j).map (yl .i64)++[.int .i64 fr]))(q2:w4.grownBy w5 lv.ownBlock)(gV:fr=((j+1:Nat):Int)):
 w5.heap[g]?=some (.cells #[ι,ι,ι,ι,sv,lv,qv,θ,l] 32 (0,0))/\Kw lo g gk q (w5.setCell (g,5) o') l n (j+1) m i e c sv o' qv:=by
 have h4:=h.below b4;have gU:=DH h4.low h4.pb ψ;have pI:=DH h4.low h4.kb ψ;obtain⟨a,b,c2,d,hg⟩:=h4.gb;have pJ:=DH h4.low hg ψ;have i8:=(q2.block g (AY h4.pb) (λe=>gU e.symm)).trans h4.pb;have nR:=(q2.block q (AY h4.kb) (λe=>pI e.symm)).trans h4.kb;have nT:=(q2.block gk (AY hg) (λe=>pJ e.symm)).trans hg;have gr:=At w5 g 5 o';have S6:=(h4.swp.grown q2 (λb N he=>by obtain⟨Z,o1,_⟩:=h4.swp;obtain⟨tl,i6⟩:=BB o1 b N;obtain⟨ti,iJ⟩:=BB h4.low b he;rw[i6] at iJ;simp at iJ)).yV gr i8
 have l5:AE lo w5 o' (MO (j+1)):=by rw[YG,<-gV];simpa[AE,UU] using q1
 refine⟨i8,⟨?_,As nR gr (Ca i8 nR),⟨a,b,c2,d,As nT gr (Ca i8 nT)⟩,⟨h.yT.1,h.yT.2.1,h.yT.2.2.1,yM h4.yT.2.2.2 (yM q2.size gr.size)⟩,(((x2.below b4).past q2 hr).lower hB).yV gr i8,S6,DY l5 gr i8,DY (Av h4.pgs q2 (BK h4.pgs h4.low ψ).ne) gr i8⟩⟩
 .have:=yA w5 g 5 _ _ o' i8
  simpa using this
end
theorem UV (h:Nk w m i e c (Eb n))(hn:n<=15)(kind a b x:Int)(hx:x<=9223372036854775807){v:Int}(hc:Ad (Eb n) (Ah kind a b x)=(Eb (n+1),v,0)):
 Ξ prog 80 #[.agg #[m,i,e,c],.int .i64 kind,.int .i64 a,.int .i64 b,.int .i64 x] w
  (λr H=>∃m i e c,r=.returned (.tuple #[.agg #[m,i,e,c],v,τ])/\Dy w H m i e c (Eb (n+1))/\Γ w w H):=by
 have:=GK h (cM n hn) kind a b x hx;rw[hc] at this;exact this
def eZ(w:Ω)(P:AR)(b:Bool)(r:Ending)(H:Ω):Prop:=∃m i e c s lo q,r=.returned (.tuple #[AN m i e c s lo q P.FV P.U4,b])/\Qh w H m i e c s lo q P/\Γ w w H
def PK(lo:Nat)(v:Φ)(w:Ω)(l:Int):Prop:=∃s lv q,v=.agg #[ι,ι,ι,ι,s,lv,q,θ,l]/\PW lo w s/\AE lo w lv []/\AP lo 87 3 Dc w q (xZ 16 ⟨0,0,false⟩)
theorem PK.below{l:Int}(h:PK lo v w l)(N:Γ w w H):PK lo v H l:=by obtain⟨s,lv,q,h1,L,h3,h4⟩:=h;exact⟨s,lv,q,h1,L.below N,h3.below N,h4.below N⟩
theorem Ot (l:Int)(w:Ω)(h1:1<=l)(h6:l<=6):Ξ prog 113 #[.int .i64 l] w (eZ w (Wu l) true):=by
 obtain⟨N0,b0⟩:=Ec w (.cells #[ι,ι,ι,ι,ι,ι,ι,θ,θ] 32);go_in;go_wp2_with fail;refine(DF _ _ _ _).mono ?_;rintro e H ⟨rfl,rfl⟩;rw[show Bo l 1 6=true from Aa.2 ⟨h1,h6⟩];have hF:=AY N0;generalize w.alloc _=W0 at*;go_wp2_with fail;have nz:=Y5 W0 ⟨#[97]⟩ ⟨#[98]⟩ ⟨#[99]⟩ 9 79;have bn:=((Hv W0 (.cells #[.string ⟨#[97]⟩] 9) (.cells #[.string ⟨#[98]⟩] 9)).trans ((AG _ (.cells #[.string ⟨#[99]⟩] 9)).mono (Hv W0 _ _).size));replace bn:=bn.trans ((AG _ (.cells #[.slice W0 1 1,.slice (some ⟨W0.heap.size+1,0,none⟩) 1 1,.slice (some ⟨W0.heap.size+1+1,0,none⟩) 1 1] 79)).mono bn.size);generalize(((W0.alloc _).alloc _).alloc _).alloc _=w5 at*;refine(KE _ Mt w5 nz rfl Nu NZ).mono ?_;rintro e w6 ⟨mk,ik,ek,ck,rfl,O6,b6⟩;rw[QN] at O6;obtain⟨⟨ma,mn,mc,rfl⟩,⟨ia,iN,ic,rfl⟩,⟨ea,en,ec,rfl⟩,⟨qa,qn,qc,rfl⟩⟩:=O6.Dq;obtain⟨N7,b7⟩:=Ec w6 (.cells #[.slice ma mn mc,.slice ia iN ic,.slice ea en ec,.slice qa qn qc] 28);have O7:=(O6.below b7).lower bn.size;have B7:=bn.trans ((b6.trans (b7.mono b6.size)).mono bn.size);have jr:W0.heap.size<=w6.heap.size:=yM bn.size b6.size;go_wp2_with fail;generalize w6.heap.size=gk at N7 jr ⊢;generalize w6.alloc _=W7 at*;have HO:=AA O7;have HB:=AA B7;have HN:=AA N0;have mT:=AA N7;have V:=AA b0;clear nz bn O6 b6 b7 N7 O7 B7 N0 b0;refine BD 6 87 [.z,.z,.z,.i l,.z,.z] (λix vv ww=>match ix with
  |0=>PW W7 ww vv
  |1=>AE W7 ww vv []
  |2=>AP W7.heap.size 87 3 Dc ww vv (xZ 16 ⟨0,0,false⟩)
  |4=>PK W7 vv ww l
  |5=>Ml W7 vv ww
  |_=>True) ?_ ?_ ?_
 .intro i hi o Y a O V A J x2 z
  match i,hi with
  |0,_=>exact sC Y z V A (YA _) (by rintro r w_ ⟨v',Z,rfl,hO,bf⟩;exact⟨_,rfl,((PW.of hO).lower J.size),bf⟩)
  |3,_=>exact sP Y z V A
  |1,_=>obtain rfl:=yP Y;clear A V;refine yO ?_;go_simp;exact z _ _ (BS (GD O) J.size) (AG _ _)
  |2,_=>obtain rfl:=yP Y;clear A V;obtain⟨i0,kz,j4,gY,iR⟩:=info_parts Tryz.zv;obtain⟨w9,bX,h3,h4⟩:=run_make_full (P:=prog) O O.heap.size 30 87 i0 _ 3 underlying30 kz j4 gY .i64 .i64 16 (by rw[iR];decide) ψ (yF _);have h5:=Below.zE h4;rw[Zt] at h3;have kh:(Instr.makeSlice 30 (.int .i64 16) (.int .i64 16)).run prog O=.ok (.slice O 16 16) w9:=bX;clear kz j4 gY iR bX;refine yO ?_;go_simp;exact z _ _ (BS h3 J.size) h5
  |4,_=>obtain rfl:=yP Y;have d0:PW W7 O (a.tmps[25]?.getD Θ):=Bd A 0;have d1:AE W7 O (a.tmps[26]?.getD Θ) []:=Bd A 1;have d2:AP W7.heap.size 87 3 Dc O (a.tmps[27]?.getD Θ) (xZ 16 ⟨0,0,false⟩):=Bd A 2;have d3:(a.tmps[28]?.getD Θ)=.int .i64 l:=Bd A 3;clear A V;generalize e25:a.tmps[25]?.getD Θ=s' at d0;generalize e26:a.tmps[26]?.getD Θ=l' at d1;generalize e27:a.tmps[27]?.getD Θ=q' at d2;have D0:=AA d0;have D1:=AA d1;have D2:=AA d2;obtain⟨_,_,_,rfl⟩:=d0.slice;obtain⟨_,_,rfl,_,_,_⟩:=d1.rd.open;obtain⟨_,_,rfl,_,_⟩:=d2.rd.shape;clear d0 d1 d2;refine yO ?_;go_simp;exact z _ _ ⟨_,_,_,rfl,D0.u,D1.u,D2.u⟩ (yN _ _)
  |5,_=>obtain rfl:=yP Y;clear A V;refine yO ?_;go_simp;exact z _ _ ⟨_,rfl,J.size,yy _ _⟩ (AG _ _)
 .intro i hi vv wz fl bs hz
  match i,hi with
  |0,_=>exact(PW.below hz bs)
  |1,_=>exact(AE.below hz bs)
  |2,_=>exact(AP.below hz bs)
  |4,_=>exact(PK.below hz bs)
  |5,_=>exact(Ml.below hz bs)
  |3,_=>exact hz
 intro Z O hR J
 have q4:PK W7 (Z 4) O l:=Be hR 4;have q5:Ml W7 (Z 5) O:=Be hR 5;clear hR;simp only[Aj,Ae,yL,yI,yJ,yH];simp;generalize Z 4=z4 at q4 ⊢;generalize Z 5=z5 at q5 ⊢;obtain⟨s',l',q',rfl,r1,r0,r2⟩:=q4;obtain⟨g,rfl,mg,iI⟩:=q5;obtain⟨sa,sn,sc,rfl⟩:=r1.slice;obtain⟨la,ln,lc,rfl⟩:∃a n c,l'=.slice a n c:=by obtain⟨_,_,rfl,_,_,_⟩:=r0.rd.open;exact⟨_,_,_,rfl⟩
 obtain⟨pa,pn,pc,rfl⟩:∃a n c,q'=.slice a n c:=by obtain⟨_,_,rfl,_,_⟩:=r2.rd.shape;exact⟨_,_,_,rfl⟩
 obtain⟨E,D,K,x3,x4,x5,x6,x7,x8⟩:=AC iI;have fz:=AK iI;go_step;go_simp;have bk:=Fz (w:=O) (g:=g) (b0:=.slice none 0 0) (b1:=.slice none 0 0) (b2:=.slice none 0 0) (b3:=.slice none 0 0) (b4:=.slice sa sn sc) (b5:=.slice la ln lc) (b6:=.slice pa pn pc) (b7:=.int .i64 0) (b8:=.int .i64 l);have N8:=H6 (b0:=.slice none 0 0) (b1:=.slice none 0 0) (b2:=.slice none 0 0) (b3:=.slice none 0 0) (b4:=.slice sa sn sc) (b5:=.slice la ln lc) (b6:=.slice pa pn pc) (b7:=.int .i64 0) (b8:=.int .i64 l) iI;have K8:=As (AB mT J) bk (Ca iI (AB mT J));have I8:Kw W0 g gk gk _ l 0 0 _ _ _ _ _ _ _:=⟨N8,K8,⟨_,_,_,_,K8⟩,⟨yM HB.size mg,jr,jr,yM HB.size (yM J.size bk.size)⟩,(HO.below J).yV bk iI,(r1.lower HB.size).yV bk iI,DY (BS r0 HB.size) bk iI,AP.yV (BS r2 HB.size) bk iI⟩;have B8:=AM (HB.trans (J.mono HB.size)) bk (yM HB.size mg) (yM HB.size J.size);clear r0 r1 r2 N8 K8 bk E D K x3 x4 x5 x6 x7 x8 fz iI mg J HO HB mT;unfold De at I8 B8;generalize((((((((O.setCell _ _).setCell _ _).setCell _ _).setCell _ _).setCell _ _).setCell _ _).setCell _ _).setCell _ _).setCell _ _=W8 at*;replace I8:=AA I8;replace B8:=AA B8;obtain⟨k0,k1,k2,k3⟩:=AH I8.kb;have C:=UV (n:=0) I8.ker.rd ω 1 0 0 0 ψ du;go_wp2_with fail;refine C.mono ?_;rintro r w9 ⟨m9,i9,e9,c9,rfl,O9,b9⟩;have I9:=AA (I8.put b9 O9);have B9:=AA (AM (B8.trans (b9.mono I8.yT.2.2.2)) (Aq w9 gk m9 i9 e9 c9) I8.yT.2.1 (yM I8.yT.2.2.2 b9.size));have kf:=AK (I8.below b9).kb;obtain⟨k0,k1,k2,k3⟩:=AH (I8.below b9).kb;obtain⟨⟨ua,un,uc,rfl⟩,⟨va,vn,vc,rfl⟩,⟨ya,yn,yc,rfl⟩,⟨za,zn,zc,rfl⟩⟩:=O9.Dq;unfold Fq at I9;generalize hW9:(((w9.setCell _ _).setCell _ _).setCell _ _).setCell _ _=W9 at I9 B9;obtain⟨n0,n1,n2,n3⟩:=AH I9.kb;clear O9 b9 I8 B8 C;go_wp2_with fail;clear k0 k1 k2 k3 kf;have C:=UV (n:=1) I9.ker.rd ω 4 0 3 0 ψ ds;refine C.mono ?_;rintro r gS ⟨pq,px,iM,qu,rfl,mK,jQ⟩;have ii:=AA (I9.put jQ mK);have nf:=AA (AM (B9.trans (jQ.mono I9.yT.2.2.2)) (Aq gS gk pq px iM qu) I9.yT.2.1 (yM I9.yT.2.2.2 jQ.size));have kf:=AK (I9.below jQ).kb;obtain⟨k0,k1,k2,k3⟩:=AH (I9.below jQ).kb;obtain⟨⟨ua,un,uc,rfl⟩,⟨va,vn,vc,rfl⟩,⟨ya,yn,yc,rfl⟩,⟨za,zn,zc,rfl⟩⟩:=mK.Dq;unfold Fq at ii;generalize hW10:(((gS.setCell _ _).setCell _ _).setCell _ _).setCell _ _=W10 at ii nf;obtain⟨n0,n1,n2,n3⟩:=AH ii.kb;clear mK jQ I9 B9 C;go_wp2_with fail;clear k0 k1 k2 k3 kf;clear n0 n1 n2 n3;have C:=UV (n:=2) ii.ker.rd ω 7 0 0 0 ψ cO
 refine C.mono ?_;rintro r iP ⟨pp,pw,lD,qt,rfl,mJ,jP⟩;have kL:=AA (ii.put jP mJ);have nb:=AA (AM (nf.trans (jP.mono ii.yT.2.2.2)) (Aq iP gk pp pw lD qt) ii.yT.2.1 (yM ii.yT.2.2.2 jP.size));have kf:=AK (ii.below jP).kb;obtain⟨k0,k1,k2,k3⟩:=AH (ii.below jP).kb;obtain⟨⟨ua,un,uc,rfl⟩,⟨va,vn,vc,rfl⟩,⟨ya,yn,yc,rfl⟩,⟨za,zn,zc,rfl⟩⟩:=mJ.Dq;unfold Fq at kL;generalize hW11:(((iP.setCell _ _).setCell _ _).setCell _ _).setCell _ _=W11 at kL nb;obtain⟨n0,n1,n2,n3⟩:=AH kL.kb;clear mJ jP ii nf C;go_wp2_with fail;clear k0 k1 k2 k3 kf;go_wp2_with fail;go_loopw [9,10,11,12] (λix _ _ _ wr=>∃k:Nat,k<=4/\ix=.int .i64 k/\∃m i e c la ln lc,Kw W0 g gk gk wr l (3*k+3) k m i e c (.slice sa sn sc) (.slice la ln lc) (.slice pa pn pc)/\Γ W0 W0 wr) (λix _ _ _ _=>4 - (intOf ix).toNat)
 exact⟨0,ω,rfl,_,_,_,_,_,_,_,kL.u,nb.u⟩
 clear kL nb;obtain⟨k,hk,rfl,mv,iv,ev,cv,la,ln,lc,I0,B0⟩:=hrel;replace I0:=AA I0;replace B0:=AA B0
 by_cases bl:k<4
 .obtain⟨fr,gV⟩:∃fr:Int,fr=((k+1:Nat):Int):=⟨_,rfl⟩
  have T1:=cQ k bl;have T2:=dq k bl;have T3:=dt k bl;rw[<-gV] at T1 T2 T3;have jK:0<=fr/\fr<=11:=ω;have qL:=AA gV;clear gV;have k4:(k:Int)<4:=ω;obtain⟨⟨ka,kn,kc,mE⟩,⟨ja,jn,jc,mD⟩,⟨fa,fn,fc,mC⟩,⟨ra,rn,rc,mB⟩⟩:=I0.ker.Dq;subst mE mD mC mB;obtain⟨k0,k1,k2,k3⟩:=AH I0.kb;have C:=UV (n:=3*k+3) I0.ker.rd ω 1 0 0 0 ψ T1;go_wp2_with fail;refine C.mono ?_;rintro r w1 ⟨m1,i1,e1,c1,rfl,O1,b1⟩;have I1:=AA (I0.new b1 O1);have B1:=AA (B0.trans ((b1.trans ((AG w1 (.cells #[m1,i1,e1,c1] 28)).mono b1.size)).mono I0.yT.2.2.2));obtain⟨⟨ua,un,uc,rfl⟩,⟨va,vn,vc,rfl⟩,⟨ya,yn,yc,rfl⟩,⟨za,zn,zc,rfl⟩⟩:=O1.Dq;clear O1 b1 C k0 k1 k2 k3 I0 B0;obtain⟨k0,k1,k2,k3⟩:=AH I1.kb;go_wp2_with fail;clear k0 k1 k2 k3;obtain⟨q1,gp⟩:∃q1,q1=w1.heap.size:=⟨_,rfl⟩
  rw[<-gp] at I1 ⊢;clear gp;generalize w1.alloc _=W1 at*;have C:=UV (n:=3*k+4) I1.ker.rd ω 4 fr 2 0 ψ T2;refine C.mono ?_;rintro r w2 ⟨m2,i2,e2,c2,rfl,O2,b2⟩;have I2:=AA (I1.put b2 O2);have B2:=AA (AM (B1.trans (b2.mono I1.yT.2.2.2)) (Aq w2 q1 m2 i2 e2 c2) I1.yT.2.2.1 (yM I1.yT.2.2.2 b2.size));have kf:=AK (I1.below b2).kb;obtain⟨k0,k1,k2,k3⟩:=AH (I1.below b2).kb;obtain⟨⟨ua,un,uc,rfl⟩,⟨va,vn,vc,rfl⟩,⟨ya,yn,yc,rfl⟩,⟨za,zn,zc,rfl⟩⟩:=O2.Dq;unfold Fq at I2;generalize hW2:(((w2.setCell _ _).setCell _ _).setCell _ _).setCell _ _=W2 at I2 B2;obtain⟨n0,n1,n2,n3⟩:=AH I2.kb;clear O2 b2 I1 B1 C;go_wp2_with fail;clear k0 k1 k2 k3 kf;have fv:=I2.kb;have jH:=AY fv;have he:Ii fr<=9223372036854775807:=by unfold Ii;omega
  have CP:=AA (λW=>Ms fr W jK.1 jK.2);generalize Ii fr=en_ at T3 he CP;have RK:=I2.ker.rd;have CM:=AA (λW (hW:Γ W2 W2 W)=>UV (n:=3*k+5) (RK.below hW) ω 6 0 (k:Int) en_ he T3);clear T1 T2 T3 RK;refine Cv 11 87 (λix=>ix==10) [.a #[.slice ua un uc,.slice va vn vc,.slice ya yn yc,.slice za zn zc],.i 0,.i ((k:Int)),.i fr,.i en_,.z,.z,.z,.i 0,.b true,.z] (λll ix vv ww=>match ix with
   |5|6=>Fc W2 vv ww (Eb (3*k+6)) 0 true
   |7=>IG W2 vv ww (Eb (3*k+6))
   |_=>True) (λll ww=>GB W2 (q1) (Eb (3*k+6)) (ll 10) ww) ?_ ?_ ?_ ?_ ?_ ?_
  .exact Ai (yN _ _) 1
  .intro j hj ll i vv wz fl hi hS ir lw bs hz
   match j,hj with
   |5,_|6,_=>exact(Fc.below hz bs)
   |7,_=>exact(IG.below hz bs)
   |0,_|1,_|2,_|3,_|4,_|8,_|9,_|10,_=>exact hz
  .intro ll i wz fl hi hS ir bs hg
   show GB _ _ _ (Hh ll i 10) _
   rw[E9 (by rintro rfl;cases hS)];exact GB.grow hg bs
  .intro i hi hS o Y a O V ll A R J x2 z
   match i,hi,hS with
   |0,_,_=>have kY:=A6 R 10;have bC:=(show O.cell? q1=some (.slice ua un uc) from GB.cell J (by cases hx:ll 10 with|false=>rfl|true=>exact absurd (R.2.2 5 0 (R.2.2 6 5 (R.2.2 7 6 (R.2.2 10 7 (hx) φ) φ) φ) φ) (by rw[R.1];decide)) jH n0);have bA:=(show O.cell? (q1,1)=some (.slice va vn vc) from GB.cell J (by cases hx:ll 10 with|false=>rfl|true=>exact absurd (R.2.2 5 0 (R.2.2 6 5 (R.2.2 7 6 (R.2.2 10 7 (hx) φ) φ) φ) φ) (by rw[R.1];decide)) jH n1);have cC:=(show O.cell? (q1,2)=some (.slice ya yn yc) from GB.cell J (by cases hx:ll 10 with|false=>rfl|true=>exact absurd (R.2.2 5 0 (R.2.2 6 5 (R.2.2 7 6 (R.2.2 10 7 (hx) φ) φ) φ) φ) (by rw[R.1];decide)) jH n2);have cz:=(show O.cell? (q1,3)=some (.slice za zn zc) from GB.cell J (by cases hx:ll 10 with|false=>rfl|true=>exact absurd (R.2.2 5 0 (R.2.2 6 5 (R.2.2 7 6 (R.2.2 10 7 (hx) φ) φ) φ) φ) (by rw[R.1];decide)) jH n3);exact Kf Y z V A R (hl:=Pi ‹_› ‹_› ‹_› ‹_›)
   |1,_,_|2,_,_|3,_,_=>exact Tj Y z V A R
   |10,_,hs=>cases hs
   |4,_,_=>obtain rfl:=yP Y;have d3:(a.tmps[71]?.getD Θ)=.int .i64 fr:=Cr A R 3;have kY:=A6 R 10;clear A V;refine yO ?_;go_simp;refine(CP _).mono ?_;rintro r w_ ⟨rfl,bf⟩;exact z _ _ rfl bf
   |5,_,_=>
    obtain rfl:=yP Y;have d0:(a.tmps[68]?.getD Θ)=.agg #[.slice ua un uc,.slice va vn vc,.slice ya yn yc,.slice za zn zc]:=Cr A R 0;have d1:(a.tmps[69]?.getD Θ)=.int .i64 0:=Cr A R 1;have d2:(a.tmps[70]?.getD Θ)=.int .i64 k:=Cr A R 2;have d4:(a.tmps[72]?.getD Θ)=.int .i64 en_:=Cr A R 4;have kY:=A6 R 10;clear A V;refine yO ?_;go_simp;have nS:Γ W2 W2 O:=by
     rw[show ll 10=false from(by cases hx:ll 10 with|false=>rfl|true=>exact absurd (R.2.2 6 5 (R.2.2 7 6 (R.2.2 10 7 (hx) φ) φ) φ) (by rw[R.1];decide))] at J;exact J
    refine(CM _ nS).mono ?_;rintro r w_ ⟨m',i',e',c',rfl,hO,bf⟩;exact z _ _ ⟨m',i',e',c',rfl,hO.lower nS.size⟩ bf
   |6,_,_=>obtain rfl:=yP Y;have d5:Fc W2 (a.tmps[73]?.getD Θ) O (Eb (3*k+6)) 0 true:=Cr A R 5;have kY:=A6 R 10;clear A V;refine yO ?_;go_simp;exact z _ _ d5 (yN _ _)
   |7,_,_=>obtain rfl:=yP Y;have d6:Fc W2 (a.tmps[67]?.getD Θ) O (Eb (3*k+6)) 0 true:=Cr A R 6;have kY:=A6 R 10;clear A V;obtain⟨m',i',e',c',d6,hO⟩:=d6;refine yO ?_;go_simp;exact z _ _ ⟨_,_,_,_,rfl,hO⟩ (yN _ _)
   |8,_,_=>obtain rfl:=yP Y;have d6:Fc W2 (a.tmps[67]?.getD Θ) O (Eb (3*k+6)) 0 true:=Cr A R 6;clear A V;obtain⟨m',i',e',c',d6,hO⟩:=d6;refine yO ?_;go_simp;exact z _ _ rfl (yN _ _)
   |9,_,_=>obtain rfl:=yP Y;have d6:Fc W2 (a.tmps[67]?.getD Θ) O (Eb (3*k+6)) 0 true:=Cr A R 6;clear A V;obtain⟨m',i',e',c',d6,hO⟩:=d6;refine yO ?_;go_simp;exact z _ _ rfl (yN _ _)
  .intro i hi hS o Y a O V ll A R J x2 z
   match i,hi,hS with
   |0,_,hs|1,_,hs|2,_,hs|3,_,hs|4,_,hs|5,_,hs|6,_,hs|7,_,hs|8,_,hs|9,_,hs=>cases hs
   |10,_,_=>
    obtain rfl:=yP Y;have iM:a.tmps[10]?.getD Θ=.pointer q1:=eg (OF V 10);have d7:IG W2 (a.tmps[74]?.getD Θ) O (Eb (3*k+6)):=Cr A R 7;clear A V;rw[R.1] at J;replace J:Γ W2 W2 O:=J;obtain⟨m',i',e',c',d7,hO⟩:=d7;obtain⟨⟨va,vn,vc,rfl⟩,⟨wa,wn,wc,rfl⟩,⟨xa,xn,xc,rfl⟩,⟨ya,yn,yc,rfl⟩⟩:=hO.Dq;have cr:=AB fv J;obtain⟨c0,jA,c2,c3⟩:=AH cr;have fq:=AK cr;have bk:=AA (Aq O (q1) (.slice va vn vc) (.slice wa wn wc) (.slice xa xn xc) (.slice ya yn yc));have Hq:=AA cr;have HO:=AA hO;clear cr hO;refine yO ?_;go_simp;exact z Θ _ trivial (by show GB _ _ _ (Hh ll 10 10) _;rw[Fh];exact⟨O,_,_,_,_,J,HO.u,yN _ _⟩) (λj f3 gg fd hu=>match j,gg with
     |0,_|1,_|2,_|3,_|4,_|8,_|9,_=>hu
     |5,_|6,_=>Fc.yV hu bk Hq.u
     |7,_=>IG.yV hu bk Hq.u
     |10,_=>absurd rfl f3)
  intro Z O ll az hR J
  have q8:(Z 8)=.int .i64 0:=Be hR 8;clear hR;simp only[DD,Bj,yL,yI,yJ,yH,q8];simp;clear q8;rw[az 10 ψ] at J;obtain⟨wz,m3,i3,e3,c3,gY,hO,iR⟩:=J;have iB:Γ (Fq wz q1 m3 i3 e3 c3).heap.size (Fq wz q1 m3 i3 e3 c3) O:=by simpa[Fq] using iR
  have I3:=(I2.put gY hO).below iB;have K3:=(hO.yV (Aq wz q1 m3 i3 e3 c3) (AB fv gY)).below iB;have B3:=B2.trans ((AM (gY.mono I2.yT.2.2.2) (Aq wz q1 m3 i3 e3 c3) I2.yT.2.2.1 (yM I2.yT.2.2.2 gY.size):Γ W0 W2 _).trans (iB.mono (yM I2.yT.2.2.2 (yM gY.size (Aq wz q1 m3 i3 e3 c3).size))));have kt:∀b,(Value.slice la ln lc).ownBlock=some b->b<W2.heap.size:=λb N=>(yE I2.low b N).2
  have qk:=I2.yT.2.2.2;clear az gY iR iB hO fv jH n0 n1 n2 n3 CM CP;have nu:=UU k;have HP:=AA (λw4 w5 o' (b4:Γ O O w4) q1 (q2:w4.grownBy w5 (Value.slice la ln lc).ownBlock)=>Kw.push (o':=o') (w5:=w5) I3 K3 qk kt b4 q1 q2 qL.u);obtain⟨_,_,_,_,_,c5,_⟩:=AC I3.pb;have f5:=AK I3.pb;have b4:=AG O (.cells #[fr] 3);have iY:(O.alloc (.cells #[fr] 3)).ownsRow W0.heap.size 3 1 (.slice la ln lc) k ((MO k).map (yl .i64)):=by have:=AE.below I3.low b4;unfold AE at this;rwa [nu] at this
  have pO:ln=k:=by obtain⟨_,_,hv,_⟩:=I3.low.rd.open;simp only[xQ] at hv;rw[nu] at hv;exact hv.2.1
  subst pO;have L4:=yM I3.yT.2.2.2 b4.size;have HI:=AA (yj B3 (yj b4 L4));have jq:=AA I3.yT.1;have qj:=I3.yT.2.2.2;clear I3 I2 K3 B3 B2 kt;go_wp2_with (at_builtin;go_must (refine Bm (lo:=W0.heap.size) (n:=ln) (xs:=(MO ln).map (yl .i64)) (m:=1) (news:=[.int .i64 fr]) rfl rfl 3 (.int .i64 0) 1 8 underlying29 Tryz.zS rfl ψ rfl iY rfl (Rd.zM _ #[_] _ 1 1 _ χ rfl ζ) (by simp[xR]) μ ω L4 ?_;intro o' w5 lR nk pi nj;obtain⟨oa,on,oc,rfl⟩:=Mx lR;have an:=HP _ _ _ HI.2.1 lR nk;have f6:=AK an.1;have c6:=yx _ _ 5 _ _ _ an.1;have HX:=AA an.2;have HQ:=AA nj;obtain⟨k0,k1,k2,k3⟩:=AH HX.kb;obtain⟨xa,xb,xc,xd,li⟩:=HX.gb;obtain⟨v0,v1,v2,v3⟩:=AH li;have ta:=AK li;obtain⟨⟨o8,oV,oZ,rfl⟩,⟨o6,oU,oY,rfl⟩,⟨o5,oT,oX,rfl⟩,⟨o0,oS,oW,rfl⟩⟩:=HX.ker.Dq;clear an lR nk pi nj iY li));have B5:=AA (AM (HI.1.trans ((HI.2.1.mono qj).trans HQ.u)) (At w5 g 5 (.slice oa on oc)) jq (yM HI.2.2 HQ.size));have I6:=HX.back;have B6:=AM B5 (Aq _ gk (.slice o8 oV oZ) (.slice o6 oU oY) (.slice o5 oT oX) (.slice o0 oS oW)) HX.yT.2.1 HX.yT.2.2.2;go_roundw;exact⟨ln+1,ω,ξ,_,_,_,_,_,_,_,I6,B6⟩;simp[intOf];omega
 obtain rfl:k=4:=ω;obtain⟨⟨ka,kn,kc,mE⟩,⟨ja,jn,jc,mD⟩,⟨fa,fn,fc,mC⟩,⟨ra,rn,rc,mB⟩⟩:=I0.ker.Dq;subst mE mD mC mB;obtain⟨k0,k1,k2,k3⟩:=AH I0.kb;have iU:=I0.pb;have bk:=Aq wr g (.slice ka kn kc) (.slice ja jn jc) (.slice fa fn fc) (.slice ra rn rc);have N1:=KL (m':=.slice ka kn kc) (i':=.slice ja jn jc) (e':=.slice fa fn fc) (c':=.slice ra rn rc) iU;have jX:=(B0.block w hF).trans HN.u;have jf:=As jX bk (by have:=I0.yT.1;omega);obtain⟨E,D,K,x3,x4,x5,x6,x7,x8⟩:=AC iU;have fz:=AK iU;obtain⟨z0,z1,z2,z3,z4,z5,z6,z7,z8⟩:=AC N1;obtain⟨y0,y1,y2,y3,y4,y5,y6,y7,y8⟩:=AC jf;have fy:=AK jf;have h9:=Fz (w:=((((wr.setCell g (.slice ka kn kc)).setCell (g,1) (.slice ja jn jc)).setCell (g,2) (.slice fa fn fc)).setCell (g,3) (.slice ra rn rc))) (g:=w.heap.size) (b0:=.slice ka kn kc) (b1:=.slice ja jn jc) (b2:=.slice fa fn fc) (b3:=.slice ra rn rc) (b4:=.slice sa sn sc) (b5:=.slice la ln lc) (b6:=.slice pa pn pc) (b7:=.int .i64 0) (b8:=.int .i64 l);have NN:=H6 (b0:=.slice ka kn kc) (b1:=.slice ja jn jc) (b2:=.slice fa fn fc) (b3:=.slice ra rn rc) (b4:=.slice sa sn sc) (b5:=.slice la ln lc) (b6:=.slice pa pn pc) (b7:=.int .i64 0) (b8:=.int .i64 l) jf;have RK:=(((I0.ker.yV bk iU).yV h9 jf).sf);have RS:=((I0.swp.yV bk iU).yV h9 jf).sf;have RL:AE _ _ _ _:=DY (DY I0.low bk iU ψ) h9 jf;have RQ:=AP.yV (AP.yV I0.pgs bk iU ψ) h9 jf;have RP:=AA (show Qh w _ (.slice ka kn kc) (.slice ja jn jc) (.slice fa fn fc) (.slice ra rn rc) (.slice sa sn sc) (.slice la ln lc) (.slice pa pn pc) (Wu l) from Qh.map (lo:=W0.heap.size) ⟨by have:=RK;rw[show 3*4+3=15 from rfl,YK] at this;exact this,RS,RL,RQ⟩ (λ_ _ _ _ _ _ _ h=>BS h (Nat.le_of_lt hF)));have BF:=AA (AM (AM (V.trans (B0.mono V.size)) bk (by have:=I0.yT.1;omega) (yM (yM V.size (yF _)) I0.yT.2.2.2)) h9 (yF _) (yM (yM V.size I0.yT.2.2.2) bk.size));have HE:=AA (AC NN);clear RK RS RL RQ h9 NN bk N1 jX jf iU I0 B0;rw[show((4:Nat):Int)=4 from rfl];go_wp2_with fail;obtain⟨E0,E1,E2,E3,E4,E5,E6,E7,E8⟩:=HE.u;unfold De at E0 E1 E2 E3 E4 E5 E6 E7 E8;exact yB (v:=.tuple #[.agg #[_,_,_,_,_,_,_,_,_],_]) (by simp[results,Tryz.results113,go_sem,E0,E1,E2,E3,E4,E5,E6,E7,E8];exact⟨rfl,rfl⟩) rfl ⟨_,_,_,_,_,_,_,rfl,RP.u,BF.u⟩
theorem Vl (v:Φ)(s:List (List Int))(sl:Int)(w:Ω)(h:Bn w v s)(hs:F3 s=true):Ξ prog 92 #[v,.int .i64 sl] w λe H=>(∃v',e=.returned (.tuple #[v',.bool (Bo sl 0 15&&!(AJ s sl.toNat).isEmpty)]))/\Γ w w H:=by
 have CV:=Iq v s w h;rw[hs] at CV;have Hl:=AA (Gw.1 hs).1;have qG:=AA (Gw.1 hs).2;obtain⟨ao,c,rfl,hc,_,w'⟩:=h.open;have CV:=AA CV;have HH:=AA w';generalize hbb:(Bo sl 0 15&&!(AJ s sl.toNat).isEmpty)=bb;have jD:=AA hbb;clear h w' hs hbb;go_in;go_wp2_with fail;refine CV.mono ?_;rintro r w1 ⟨rfl,b1⟩;go_wp2_with fail;refine(DF _ _ _ _).mono ?_;rintro r w2 ⟨rfl,rfl⟩;cases bY:Bo sl 0 15
 .obtain rfl:bb=false:=by rw[<-jD.u,bY];rfl
  clear bY jD;go_wp2_with fail;exact yB (v:=.tuple #[.slice w1 0 0,υ]) (by simp[results,tI,go_sem]) rfl ⟨⟨_,rfl⟩,b1.trans ((AG _ _).mono b1.size)⟩
 have ab:=Aa.1 bY
 obtain⟨n,rfl⟩:∃n:Nat,sl=(n:Int):=⟨sl.toNat,ω⟩
 have g8:n<16:=ω;have rG:(n:Int)<s.length:=by have:=Hl.u;omega
 obtain⟨b,cP,u,rfl,i7,x1,hr⟩:=(HH.below b1) n (by have:=Hl.u;omega);obtain⟨au,cu,rfl,_,_,_⟩:=hr.open;rw[yq,bY,wv] at jD
 by_cases he:(AJ s n).length=0
 .have t0:(((AJ s n).length:Int)==0)=true:=by simp[he]
  obtain rfl:bb=false:=by rw[<-jD.u,tO.2 (xY he)];rfl
  clear hr he bY jD ab;go_wp2_with fail;exact yB (v:=.tuple #[.slice w1 0 0,υ]) (by simp[results,tI,go_sem]) rfl ⟨⟨_,rfl⟩,b1.trans ((AG _ _).mono b1.size)⟩
 have t0:(((AJ s n).length:Int)==0)=false:=beq_eq_false_iff_ne.2 ω;obtain rfl:bb=true:=by rw[<-jD.u];cases hx:AJ s n;rw[hx] at he;exact absurd rfl he;rfl
 have iT:(AJ s n).length<=4:=by
  rcases qG n g8 with h0|h0
  .rw[h0];simp
  exact Nat.le_of_eq (BG.1 h0).1
 have HR:=AA (A3.below hr (AG w1 (.cells #[] 3)));have D':=((AG w1 (.cells #[] 3)).cell (yK _ _ x1)).trans x1;have nU:=AA b1;clear he bY hr jD ab;go_wp2_with (at_builtin;refine PF rfl rfl underlying29 rfl (GD w1) rfl HR ω (AG w1 (.cells #[] 3)).size ?_;intro u' w9 hu ez;have qM:=AA ez;clear hu ez);exact yB (v:=.tuple #[_,τ]) (by simp[results,tI,go_sem];rfl) rfl ⟨⟨_,rfl⟩,nU.trans (((AG w1 (.cells #[] 3)).trans qM.u).mono nU.size)⟩
structure fT(P:AR):Prop where
 k:DG P.Ve=true
 s:F3 P.swap=true
 ll:P.low.length=4
 lr:∀i,i<4->0<=Bf P.low i/\Bf P.low i<=11
 pl:P.XY.length=16
theorem bz (ks:List Int)(x:Bz):(Gq ks x).length=ks.length:=by
 unfold Gq
 split
 .simp
 rfl
theorem cA{x:Bz}(hl:ks.length=16)(hx:x.w=2->0<=x.a/\x.a<=15)(s:Nat):nth (Gq ks x) s=nth ks s+(Eg (DZ s x):Int):=by
 unfold Gq DZ
 by_cases h:x.w=2
 .rw[if_pos h]
  have:=hx h;unfold nth;rw[yd,List.getElem?_set]
  by_cases e:x.a.toNat=s
  .subst e
   have e2:x.a=((x.a.toNat:Nat):Int):=ω;have N:Eg (decide (x.w=2)&&decide (x.a=((x.a.toNat:Nat):Int)))=1:=by rw[<-e2];simp[h,Eg]
   rw[if_pos rfl,if_pos ω,N];simp
  have N:Eg (decide (x.w=2)&&decide (x.a=(s:Int)))=0:=by
   have:x.a≠(s:Int):=ω;simp[this,Eg]
  rw[if_neg e,N];simp[yd]
 rw[if_neg h]
 have N:Eg (decide (x.w=2)&&decide (x.a=(s:Int)))=0:=by simp[h,Eg]
 rw[N];simp
theorem bv (hx:∀x∈l,x.w=2->0<=x.a/\x.a<=15)(hl:ks.length=16)(s:Nat):(l.foldl Gq ks).length=16/\nth (l.foldl Gq ks) s=nth ks s+(Cq l s:Int):=by
 induction l generalizing ks with
 |nil=>exact⟨hl,by simp[Cq]⟩
 |cons x l ih=>
  have I:=ih (λy hy=>hx y (List.mem_cons_of_mem _ hy)) (ks:=Gq ks x) (by rw[bz,hl]);refine⟨I.1,?_⟩;rw[yJ,I.2,cA hl (hx x (List.mem_cons_self ..))];unfold Cq;rw[xE];unfold Eg
  split<;>simp_all<;>omega
theorem Yw (hl:P.XY.length=16)(hs:(yL 16).all (EY P)=true)(hn:n<16):HZ P n=FQ P n:=by
 unfold HZ FQ
 by_cases h0:(AD P.XY n).w=0
 .rw[if_pos h0,if_pos h0]
 rw[if_neg h0,if_neg h0]
 by_cases h1:(AD P.XY n).w=1
 .rw[if_pos h1,if_pos h1]
 rw[if_neg h1,if_neg h1]
 by_cases L:(AD P.XY n).w=2
 .rw[if_pos L,if_pos L]
  cases bY:Bo (AD P.XY n).a 0 15
  .simp
  have hv:=Aa.1 bY
  have Y:=ym.1 hs (AD P.XY n).a.toNat (yh.2 ω);unfold EY at Y;rw[decide_eq_true_eq] at Y;have hm:AD P.XY n∈P.XY:=by have:P.XY[n]?=some (AD P.XY n):=A9 ω;exact yw this
  have kj:0<Cq P.XY (AD P.XY n).a.toNat:=by
   unfold Cq;rw[List.countP_pos_iff];refine⟨_,hm,?_⟩;unfold DZ;have:(AD P.XY n).a=(((AD P.XY n).a.toNat:Nat):Int):=ω;rw[<-this];simp[L]
  cases he:(AJ P.swap (AD P.XY n).a.toNat).isEmpty
  .simp
  rw[he,if_pos rfl] at Y;omega
 rw[if_neg L,if_neg L]
theorem Ts (P:AR):By P=(DG P.Ve&&F3 P.swap&&decide (P.XY.length=16)&&Ch P&&IH P.Ve&&(yL 16).all (FQ P)&&(yL 16).all (EY P)&&(Bo P.FV 0 15&&Bo P.U4 1 6&&decide ((Al P.XY 1:Int)<=P.U4))):=by
 unfold By
 by_cases hl:P.XY.length=16
 .cases hs:(yL 16).all (EY P)
  .simp
  have:(yL 16).all (HZ P)=(yL 16).all (FQ P):=by
   rw[Bool.eq_iff_iff,ym,ym];exact⟨λh n hn=>by rw[<-Yw hl hs (yh.1 hn)];exact h n hn,λh n hn=>by rw[Yw hl hs (yh.1 hn)];exact h n hn⟩
  rw[this];cases DG P.Ve<;>cases F3 P.swap<;>cases IH P.Ve<;>cases Ch P<;>cases(yL 16).all (FQ P)<;>simp[hl,Bool.and_assoc]
 simp[hl]
theorem V9{k:Nat}(hk:k<3)(h:Ci (BM x2 k) gA≠decide (k=0)):IH x2=false:=by
 unfold IH
 match k,hk,h with
 |0,_,h=>simp at h;simp[h]
 |1,_,h=>simp at h;simp[h]
 |2,_,h=>simp at h;simp[h]
theorem ZN (h:∀j,j<3->Ci (BM x2 j) gA=decide (j=0)):IH x2=true:=by unfold IH;rw[h 0 ω,h 1 ω,h 2 ω];rfl
theorem Xx (hl:P.XY.length=16){k:Nat}(h:∀j,j<k->FQ P j=true):∀x∈P.XY.take k,x.w=2->0<=x.a/\x.a<=15:=by
 intro x hx hw;obtain⟨j,hj⟩:=xO hx;have nG:j<k:=by have:=(yD.1 hj).1;rw[yr] at this;omega
 rw[List.getElem?_take,if_pos nG] at hj;have e:AD P.XY j=x:=by unfold AD;rw[yd,hj];rfl
 have:=h j nG;unfold FQ at this;rw[e,if_neg ω,if_neg ω,if_pos hw] at this;simp only[yC] at this;exact Aa.1 this.1.1
theorem TI (h:Ch P=true):P.low.length=4/\∀i,i<4->0<=Bf P.low i/\Bf P.low i<=11:=by
 unfold Ch at h;simp only[yC,decide_eq_true_eq,ym,yh] at h;refine⟨h.1.1.2,λi hi=>?_⟩;have:=h.2 i hi;unfold GT at this;simp only[yC] at this;exact Aa.1 this.1.1
theorem Gk (mv iv ev cv sv lv qv:Φ)(P:AR)(w:Ω)(h:Kr w mv iv ev cv sv lv qv P)(hs:KH P.Ve):
 Ξ prog 19 #[AN mv iv ev cv sv lv qv P.FV P.U4] w (λr H=>r=.returned (.bool (By P))/\Γ w w H):=by
 have Pt:=Ts P;unfold AN;obtain⟨N0,b0⟩:=Ec w (.cells #[mv,iv,ev,cv,sv,lv,qv,P.FV,P.U4] 32);have h0:=h.below b0;go_in;go_wp2_with fail;generalize w.alloc _=W0 at*;have C1:=AA (λW (hW:Γ W0 W0 W)=>PT mv iv ev cv P.Ve W (h0.1.below hW) hs);have C2:=AA (λW (hW:Γ W0 W0 W)=>RZ sv P.swap W (h0.2.1.below hW));have gM:=AA b0;obtain⟨aq,qc,rfl,gp,cr⟩:=h0.2.2.2.shape;unfold maxLen at cr;have bl:w.heap.size<W0.heap.size:=AY N0;cases hk:DG P.Ve
 .have S:=AA (show By P=false by rw[Pt,hk];rfl)
  rw[hk] at C1;clear Pt;refine(C1 W0 (yN _ _)).mono ?_;rintro r w1 ⟨rfl,b1⟩;have HB:=AA (gM.trans (b1.mono gM.size));clear N0 b0 h h0 b1;go_wp2;go_ret;exact⟨AF S.symm,HB.u⟩
 rw[hk] at C1;refine(C1 W0 (yN _ _)).mono ?_;rintro r w1 ⟨rfl,b1⟩;have x4:=(AC (AB N0 b1)).2.2.2.2.1;have B1:=AA b1;cases gP:F3 P.swap
 .have S:=AA (show By P=false by rw[Pt,hk,gP];rfl)
  have C:=C2 w1 b1;rw[gP] at C;clear Pt N0 b0 h h0 b1;go_wp2_with (refine C.mono ?_;rintro r w2 ⟨rfl,b2⟩;have HB:=AA (gM.trans ((B1.trans (b2.mono B1.size)).mono gM.size));clear b2);go_ret;exact⟨AF S.symm,HB.u⟩
 have C:=C2 w1 b1;rw[gP] at C;clear b1;go_wp2_with fail;refine C.mono ?_;rintro r w2 ⟨rfl,b2⟩;have B2:=AA (B1.trans (b2.mono B1.size));have x6:=(AC (AB N0 B2.u)).2.2.2.2.2.2.1;clear b2 C x4
 by_cases hl:P.XY.length=16
 .rw[hl] at x6
  cases ht:Ch P
  .have S:=AA (show By P=false by rw[Pt,hk,gP,ht];simp)
   have C:=Ox (AB N0 B2.u) (h0.below B2.u) (FN.1 hk);rw[ht] at C;clear Pt N0 b0 h h0;go_wp2_with (refine C.mono ?_;rintro r w3 ⟨rfl,b3⟩;have HB:=AA (gM.trans ((B2.trans (b3.mono B2.size)).mono gM.size));clear b3);go_ret;exact⟨AF S.symm,HB.u⟩
  have C:=Ox (AB N0 B2.u) (h0.below B2.u) (FN.1 hk)
  rw[ht] at C;go_wp2_with fail;refine C.mono ?_;rintro r w3 ⟨rfl,b3⟩;have B3:=AA (B2.trans (b3.mono B2.size));have gx:=AA (gM.trans (B3.mono gM.size));have hK:=FN.1 hk;have h3:=h0.below B3.u;have N3:=AB N0 B3.u;obtain⟨ps,lk,jL⟩:=h3.1.2.2.1;have gT:ps.length=3:=by rw[jL.1,hK.zX]
  obtain⟨ae,ce,rfl,p9,_,HE⟩:=BN.open GU ψ lk;have K:=(AC N3).2.2.1;rw[gT] at K;have lF:=AA (show By P=(IH P.Ve&&(yL 16).all (FQ P)&&(yL 16).all (EY P)&&(Bo P.FV 0 15&&Bo P.U4 1 6&&decide ((Al P.XY 1:Int)<=P.U4))) by rw[Pt,hk,gP,ht];simp[hl]);have z:=AA hK;have R:=AA (yj hl (yj gP ht));have H3:=AA (yj N3 h3);have ov:=AA (yj HE jL);have re:=AA gT;clear Pt hk hK gP ht hl N0 b0 h h0 C1 C2 C b3 x6 HE lk jL gT hs N3 h3 B1 B2;go_wp2_with fail;clear K;go_loopw [3,4,33] (λ_ _ ix wr=>∃k:Nat,k<=3/\ix=.int .i64 k/\(∀j,j<k->Ci (BM P.Ve j) gA=decide (j=0))/\Γ w3 w3 wr) (λ_ _ ix _=>3 - (intOf ix).toNat)
  exact⟨0,ω,rfl,λj hj=>ω,yN _ _⟩
  obtain⟨k,nD,rfl,az,N⟩:=hrel
  by_cases g9:k<3
  .have k3:(k:Int)<3:=ω
   obtain⟨p,hp⟩:∃p,ps[k]?=some p:=⟨_,yG (by have:=re.u;omega)⟩
   obtain⟨ge,ql,rfl,jq,ju⟩:=ov.1 k p hp;have ld:=ov.2.2 k p (AI P.Ve.XX k) hp (by unfold AI;exact A9 (by rw[z.zX];omega));have D0:=(N.cell (yK w3 _ (ju 0 _ rfl))).trans (ju 0 _ rfl);have D1:=(N.cell (yK w3 _ (ju 1 _ rfl))).trans (ju 1 _ rfl);rw[xT] at D0;obtain⟨pv,pr⟩:=p;dsimp only at D0 D1 ld;obtain⟨pa,pn,rfl,_,_⟩:=BN.shape ld.1;have bn:=N.trans ((AG wr (.cells #[.slice pa (AI P.Ve.XX k).PQ.length pn,pr] 81)).mono N.size);have CM:=Qp _ (AI P.Ve.XX k).PQ gA _ (BN.below ld.1 bn);have cF:=AA az;have ol:=AA bn;have HM:=AA (show Ci (BM P.Ve k) gA=Ci (AI P.Ve.XX k).PQ gA from rfl);generalize Ci (AI P.Ve.XX k).PQ gA=b at CM HM;generalize(AI P.Ve.XX k).PQ.length=rl at*;clear ju ld az bn hp;go_wp2_with fail;refine CM.mono ?_;rintro r w5 ⟨rfl,b5⟩;have g2:=AA (ol.trans (b5.mono ol.size));clear b5 CM
   by_cases k0:k=0
   .have t0:((k:Int)==0)=true:=by simp[k0]
    cases b
    .have S:=AA (show By P=false by rw[lF.u,V9 g9 (by rw[HM.u];simp[k0])];rfl)
     clear k0;go_wp2;go_ret;exact⟨AF S.symm,gx.trans (g2.mono gx.size)⟩
    have K0:=AA k0
    clear k0;go_wp2;go_roundw
    case rel=>exact⟨k+1,ω,ξ,λj hj=>by
     rcases xK.1 hj with x|x
     .exact cF j x
     subst x;rw[HM.u];simp[K0.u],g2.u⟩
    case measure=>simp[intOf];omega
   have t0:((k:Int)==0)=false:=by simp[k0]
   cases b
   .have K0:=AA k0
    clear k0;go_wp2;go_roundw
    case rel=>exact⟨k+1,ω,ξ,λj hj=>by
     rcases xK.1 hj with x|x
     .exact cF j x
     subst x;rw[HM.u];simp[K0.u],g2.u⟩
    case measure=>simp[intOf];omega
   have S:=AA (show By P=false by rw[lF.u,V9 g9 (by rw[HM.u];simp[k0])];rfl)
   clear k0;go_wp2;go_ret;exact⟨AF S.symm,gx.trans (g2.mono gx.size)⟩
  obtain rfl:k=3:=ω;have n6:=AA (show By P=((yL 16).all (FQ P)&&(yL 16).all (EY P)&&(Bo P.FV 0 15&&Bo P.U4 1 6&&decide ((Al P.XY 1:Int)<=P.U4))) by rw[lF.u,ZN az];simp);have mQ:=AA N;have TL:=AA (TI R.2.2);clear az lF;rw[show((3:Nat):Int)=3 from rfl];have x6:=(AC (AB H3.1 N)).2.2.2.2.2.2.1;rw[R.1] at x6;go_wp2_with (refine Qv (n:=16) rfl rfl 3 (.int .i64 0) 8 underlying29 Tryz.zS rfl rfl ω μ ?_;intro w6 ko es pB;replace x6:=(es.cell (yK wr _ x6)).trans x6);have St:AE w3 w6 (.slice wr 16 16) (xZ 16 0):=BS (by simpa[AE] using ko) mQ.size;have qN:=AA (mQ.trans (es.mono mQ.size));generalize wr.heap.size=gk at*;clear ko es pB N;go_wp2_with fail;clear x6;go_loopw [6,49] (λ_ ix O=>∃k:Nat,k<=16/\ix=.int .i64 k/\(∀j,j<k->FQ P j=true)/\AE w3 O (.slice gk 16 16) ((P.XY.take k).foldl Gq (xZ 16 0))/\Γ w3 w3 O) (λ_ ix _=>16 - (intOf ix).toNat)
  exact⟨0,ω,rfl,λj hj=>ω,St,qN.u⟩
  clear St;obtain⟨k,nD,rfl,az,St,N⟩:=hrel;have KA:=AA (λs=>bv (l:=P.XY.take k) (Xx R.1 az) (ks:=xZ 16 0) χ s)
  by_cases iX:k<16
  .have pu:(k:Int)<16:=ω
   have C:=YO (AB H3.1 N) (H3.2.below N) z TL.1 TL.2 R.1 St (KA 0).1 (λj hj=>by
    rw[(KA j).2];have h0:nth (xZ 16 (0:Int)) j=0:=by unfold nth;rw[yd,vO];split<;>rfl
    have h1:Cq (P.XY.take k) j<=(P.XY.take k).length:=by unfold Cq;exact wC
    have L:(P.XY.take k).length<=16:=by rw[yr];omega
    omega) N.size iX
   have Nx:=AA (show(P.XY.take (k+1)).foldl Gq (xZ 16 0)=Gq ((P.XY.take k).foldl Gq (xZ 16 0)) (AD P.XY k) by rw[DQ (show P.XY[k]?=some (AD P.XY k) from A9 (by have:=R.1;omega)),List.foldl_append];rfl)
   have cF:=AA az;have V:=AA N;generalize(P.XY.take k).foldl Gq (xZ 16 0)=ks at*;clear az N St KA;go_wp2_with fail;refine C.mono ?_;rintro r w7 ⟨jG,⟨rfl,o7,g7,b7⟩,e7⟩;have kQ:=AA (V.trans b7);have O7:=AA o7;cases l2:FQ P k
   .have S:=AA (show By P=false by rw[n6.u,PX iX l2];rfl)
    clear o7 g7 b7 e7 C;go_wp2;go_ret;exact⟨AF S.symm,gx.trans (kQ.mono gx.size)⟩
   have E7:=AA (e7 l2)
   have PH:=AA l2;clear o7 g7 b7 e7 C;go_wp2;go_roundw
   case rel=>exact⟨k+1,ω,ξ,λj hj=>by
    rcases xK.1 hj with x|x
    .exact cF j x
    subst x;exact PH.u,by rw[Nx.u,<-E7.u];exact O7.u,kQ.u⟩
   case measure=>simp[intOf];omega
  obtain rfl:k=16:=ω;have mI:=AA (show By P=((yL 16).all (EY P)&&(Bo P.FV 0 15&&Bo P.U4 1 6&&decide ((Al P.XY 1:Int)<=P.U4))) by rw[n6.u,ym.2 (λj hj=>az j (yh.1 hj))];simp);rw[xz (by have:=R.1;omega)] at St KA;generalize P.XY.foldl Gq (xZ 16 0)=ks at St KA;have jo:=(KA 0).1;have gz:wr.ownsRow w3.heap.size 3 1 (.slice gk 16 16) 16 (ks.map (yl .i64)):=by have:=St;unfold AE at this;rwa [jo] at this
  have KC:=AA (λ(j:Nat)(hj:j<16)=>show wr.cell? (gk,j)=some (.int .i64 (Cq P.XY j:Int)) from by
   rw[xN gz j ω,List.getElem?_map,yG ω];have e:=(KA j).2;have h0:nth (xZ 16 (0:Int)) j=0:=by unfold nth;rw[yd,vO];split<;>rfl
   rw[h0,Int.zero_add] at e;unfold nth at e;rw[yd,yG ω] at e;simp at e;rw[<-e];rfl)
  obtain⟨Z,s1,s2⟩:=(H3.2.below N).2.1;have io:P.swap.length=16:=(Gw.1 R.2.1).1;have fp:Z.length=16:=by rw[s2.1,io]
  obtain⟨v5,tn,rfl,_,_,HS⟩:=BN.open Ej ψ s1;have x4:=(AC (AB H3.1 N)).2.2.2.2.1;rw[fp] at x4;have qA:=AA x4;have V:=AA N;have lJ:=AA (yj HS (yj s2 (yj io fp)));clear az N St KA gz jo HS s1 s2 io fp x4;generalize hW4:wr=w4 at*;go_wp2_with fail;go_loopw [7,8,59] (λ_ _ ix O=>∃k:Nat,k<=16/\ix=.int .i64 k/\(∀j,j<k->EY P j=true)/\w4=O) (λ_ _ ix _=>16 - (intOf ix).toNat)
  exact⟨0,ω,rfl,λj hj=>ω,rfl⟩
  obtain⟨k,nD,rfl,az,rfl⟩:=hrel
  by_cases hA:k<16
  .have rA:(k:Int)<16:=ω
   have qz:=KC k hA;obtain⟨u,hu⟩:∃u,Z[k]?=some u:=⟨_,yG (by have:=lJ.2.2.2;omega)⟩
   obtain⟨sb,rr,rfl,rC,nL⟩:=lJ.1 k u hu;have DS:=nL 0 _ rfl;have lX:=lJ.2.1.2 k u (AJ P.swap k) hu (by unfold AJ;exact A9 (by have:=lJ.2.2.1;omega));obtain⟨ua,uc,rfl,_,_,_⟩:=lX.open;rw[wX,xT] at DS;have x4:=qA.u;have cF:=AA az;have SO:EY P k=decide (Cq P.XY k=if(AJ P.swap k).isEmpty then 0 else 1):=rfl;generalize Cq P.XY k=n at qz SO;generalize AJ P.swap k=row at DS SO lX;clear nL az hu lX
   by_cases hr:row=[]
   .subst hr
    simp only[List.length_nil] at DS
    by_cases iW:n=0
    .have PS:=AA (show EY P k=true by rw[SO,iW];rfl)
     subst iW;clear SO;go_wp2;go_roundw
     case rel=>exact⟨k+1,ω,ξ,λj hj=>by
      rcases xK.1 hj with x|x
      .exact cF j x
      subst x;exact PS.u,trivial⟩
     case measure=>simp[intOf];omega
    have S:=AA (show By P=false by rw[mI.u,PX hA (by rw[SO];simp[iW])];rfl)
    have t1:((n:Int) !=0)=true:=η;clear SO iW;go_wp2;go_ret;exact⟨AF S.symm,gx.trans (V.mono gx.size)⟩
   have kj:0<row.length:=List.length_pos_iff.2 hr
   have he:row.isEmpty=false:=by cases row with|nil=>exact absurd rfl hr|cons a l=>rfl
   generalize row.length=rl at DS kj;have p1:(0:Int)<(rl:Int):=ω;have t2:((rl:Int)==0)=false:=η;rw[he] at SO;clear hr he
   by_cases lg:n=1
   .have PS:=AA (show EY P k=true by rw[SO,lg];rfl)
    subst lg;clear SO;go_wp2;go_roundw
    case rel=>exact⟨k+1,ω,ξ,λj hj=>by
     rcases xK.1 hj with x|x
     .exact cF j x
     subst x;exact PS.u,trivial⟩
    case measure=>simp[intOf];omega
   have S:=AA (show By P=false by rw[mI.u,PX hA (by rw[SO];simp[lg])];rfl)
   have t1:((n:Int) !=1)=true:=η;clear SO lg;go_wp2;go_ret;exact⟨AF S.symm,gx.trans (V.mono gx.size)⟩
  obtain rfl:k=16:=ω;have kK:=AA (show By P=(Bo P.FV 0 15&&Bo P.U4 1 6&&decide ((Al P.XY 1:Int)<=P.U4)) by rw[mI.u,ym.2 (λj hj=>az j (yh.1 hj))];simp);have N4:=AB H3.1 V.u;have l1:=H3.2.below V.u;have x7:=(AC N4).2.2.2.2.2.2.2.1;have x8:=(AC N4).2.2.2.2.2.2.2.2;have kE:=AY N4;have CN:=AA (λW (hW:Γ w4 w4 W)=>Sj (AC (AB N4 hW)).2.2.2.2.2.2.1 (BN.below l1.2.2.2 hW) R.1 1);have CH:=AA (λW=>EU P.FV 0 15 W);have CL:=AA (λW=>EU P.U4 1 6 W);clear az N4 l1;cases me:Bo P.FV 0 15
  .have S:=AA (show By P=false by rw[kK.u,me];rfl)
   rw[me] at CH;go_wp2_with fail;refine Ac 14 103 [.p w.heap.size 7,.i (P.FV),.b false,.b false,.u,.u,.u,.b false,.b false,.u,.u,.u,.u,.b false] (λ_ _ _=>True) ?_ ?_
   .intro i hi o Y a O V A J x2 z
    match i,hi with
    |0,_|3,_|7,_|8,_|13,_=>exact sP Y z V A
    |1,_=>exact sL Y z V A (hl:=F7 (bc J kE x7))
    |2,_=>exact sE Y z V A (CH _)
    |4,_|5,_|6,_|9,_|10,_|11,_|12,_=>exact sB Y z A
   intro Z O hR J
   have c7:(Z 13)=.bool false:=Be hR 13;clear hR;simp only[Aj,Ae,yL,yI,yJ,yH,c7];simp;clear c7;go_wp2;go_ret;exact⟨AF S.symm,gx.trans ((V.trans (J.mono V.size)).mono gx.size)⟩
  rw[me] at CH kK
  cases md:Bo P.U4 1 6
  .have S:=AA (show By P=false by rw[kK.u,md];rfl)
   rw[md] at CL;go_wp2_with fail;refine Ac 14 103 [.p w.heap.size 7,.i (P.FV),.b true,.b true,.p w.heap.size 8,.i (P.U4),.b false,.b false,.b false,.u,.u,.u,.u,.b false] (λ_ _ _=>True) ?_ ?_
   .intro i hi o Y a O V A J x2 z
    have bC:=bc J kE x7;have bA:=bc J kE x8
    match i,hi with
    |0,_|3,_|4,_|7,_|8,_|13,_=>exact sP Y z V A
    |1,_|5,_=>exact sL Y z V A (hl:=F7 ‹_›)
    |2,_=>exact sE Y z V A (CH _)
    |6,_=>exact sE Y z V A (CL _)
    |9,_|10,_|11,_|12,_=>exact sB Y z A
   intro Z O hR J
   have c7:(Z 13)=.bool false:=Be hR 13;clear hR;simp only[Aj,Ae,yL,yI,yJ,yH,c7];simp;clear c7;go_wp2;go_ret;exact⟨AF S.symm,gx.trans ((V.trans (J.mono V.size)).mono gx.size)⟩
  rw[md] at CL kK
  have S:=AA (show By P=decide ((Al P.XY 1:Int)<=P.U4) by rw[kK.u];simp);generalize Al P.XY 1=cn at CN S;go_wp2_with fail;refine Ac 14 103 [.p w.heap.size 7,.i (P.FV),.b true,.b true,.p w.heap.size 8,.i (P.U4),.b true,.b true,.b true,.i ((cn:Int)),.p w.heap.size 8,.i (P.U4),.b (decide ((cn:Int)<=P.U4)),.b (decide ((cn:Int)<=P.U4))] (λ_ _ _=>True) ?_ ?_
  .intro i hi o Y a O V A J x2 z
   have bC:=bc J kE x7;have bA:=bc J kE x8
   match i,hi with
   |0,_|3,_|4,_|7,_|8,_|10,_|13,_=>exact sP Y z V A
   |1,_|5,_|11,_=>exact sL Y z V A (hl:=F7 ‹_›)
   |2,_=>exact sE Y z V A (CH _)
   |6,_=>exact sE Y z V A (CL _)
   |9,_=>exact sD Y z V A (CN _ J)
   |12,_=>clear bC bA;obtain rfl:=yP Y;have d9:(a.tmps[98]?.getD Θ)=.int .i64 cn:=Bd A 9;have jO:(a.tmps[100]?.getD Θ)=.int .i64 (P.U4):=Bd A 11;have d8:(a.tmps[97]?.getD Θ)=.bool true:=Bd A 8;clear A V;refine AT.yes rfl rfl d8 ?_;go_simp;exact z _ _ rfl (yN _ _)
  intro Z O hR J
  have c7:(Z 13)=.bool (decide ((cn:Int)<=P.U4)):=Be hR 13;clear hR;simp only[Aj,Ae,yL,yI,yJ,yH,c7];simp;clear c7;go_wp2;go_ret;exact⟨AF S.symm,gx.trans ((V.trans (J.mono V.size)).mono gx.size)⟩
 have S:=AA (show By P=false by rw[Pt];simp[hl])
 have t1:((P.XY.length:Int) !=16)=true:=η;have HB:=AA (gM.trans (B2.mono gM.size));clear Pt N0 b0 h h0 hl;go_wp2;go_ret;exact⟨AF S.symm,HB.u⟩
section
variable {lo g:Nat} {w w1:Ω} {m i e c s l q:Φ} {P:AR}
theorem Hj.zr(h:Hj lo g w m i e c s l q P)(x:Int):Hj lo g (w.setCell (g,7) (.int .i64 x)) m i e c s l q {P with FV:=x}/\w.grownBy (w.setCell (g,7) (.int .i64 x)) (some g):=by have bk:=At w g 7 (.int .i64 x);have F:=h.own.yV bk h.yU;refine⟨⟨?_,h.yT,⟨F.ker,F.swp,F.low,F.pgs,F.apart⟩⟩,bk⟩;have:=yA w g 7 _ 32 (.int .i64 x) h.yU;simpa using this
theorem Hj.zz{n0 n j:Nat}{x y:Bz}{u:Φ}(h:Hj lo g w m i e c s l (.slice gq n0 cg) P)(iW:n0=P.XY.length)(hk:P.XY[n]?=some x)(hj:j<3)(hy:Dc y=(Dc x).set j u):
 Hj lo g (w.setCell (gq,n*3+j) u) m i e c s l (.slice gq n0 cg) {P with XY:=P.XY.set n y}/\w.grownBy (w.setCell (gq,n*3+j) u) (some gq)/\lo<=gq:=by
 obtain⟨hB,hJ,⟨k0,⟨Z,hs⟩,ip,hp,iK⟩⟩:=h;subst iW;have S:=AP.zH Fy hp hk hj hy;obtain⟨lE,hc⟩:=BB hp gq rfl;exact⟨⟨As hB S.2 (Ca hc hB),hJ,⟨k0.yV S.2 hc,⟨Z,hs.yV S.2 hc⟩,DY ip S.2 hc,S.1,iK⟩⟩,S.2,(yE hp gq rfl).1⟩
theorem Hj.zA{n0 n:Nat}(h:Hj lo g w m i e c s l (.slice gq n0 cg) P)(iW:n0=P.XY.length)(hn:n<P.XY.length)(y:Bz):
 Hj lo g (((w.setCell (gq,n*3) (.int .i64 y.w)).setCell (gq,n*3+1) (.int .i64 y.a)).setCell (gq,n*3+2) (.bool y.u)) m i e c s l (.slice gq n0 cg) {P with XY:=P.XY.set n y}/\w.grownBy (((w.setCell (gq,n*3) (.int .i64 y.w)).setCell (gq,n*3+1) (.int .i64 y.a)).setCell (gq,n*3+2) (.bool y.u)) (some gq)/\lo<=gq:=by
 obtain⟨hB,hJ,⟨k0,⟨Z,hs⟩,ip,hp,iK⟩⟩:=h;subst iW;have S:=AP.stored Fy hp hn y;obtain⟨lE,hc⟩:=BB hp gq rfl;exact⟨⟨As hB S.2 (Ca hc hB),hJ,⟨k0.yV S.2 hc,⟨Z,hs.yV S.2 hc⟩,DY ip S.2 hc,S.1,iK⟩⟩,S.2,(yE hp gq rfl).1⟩
theorem Hj.zk(h:Hj lo g w m i e c s l q P){Z:List Φ}{S:List (List Int)}(hg:w.grownBy w1 s.ownBlock)(hO:Ay lo w1 s Z S):Hj lo g w1 m i e c s l q {P with swap:=S}:=by
 obtain⟨hB,hJ,⟨⟨⟨ms,k1,k2,k3⟩,k4,⟨ps,k5,k6,k7⟩,k8⟩,⟨us,hs⟩,ip,hp,iK⟩⟩:=h;have gU:=DH hs.1 hB ψ;refine⟨(hg.block g (AY hB) (λe=>gU e.symm)).trans hB,hJ,⟨⟨⟨ms,Av k1 hg iK.ne,k2.mono λ_ _ x=>Av x hg (BK x hs.1 ψ).ne,k3⟩,Av k4 hg (BK k4 hs.1 ψ).ne,⟨ps,Av k5 hg (BK k5 hs.1 ψ).ne,k6.mono λ_ _ x=>⟨Av x.1 hg (BK x.1 hs.1 ψ).ne,x.2⟩,k7⟩,Av k8 hg (BK k8 hs.1 ψ).ne⟩,⟨Z,hO⟩,Av ip hg (BK ip hs.1 ψ).ne,Av hp hg (BK hp hs.1 ψ).ne,iK⟩⟩
theorem Hj.page(h:Hj lo g w m i e c s l q P){n:Nat}(hn:n<P.XY.length):∃gq cg,q=.slice (some ⟨gq,0,none⟩) P.XY.length cg/\P.XY.length<=cg/\lo<=gq/\gq<w.heap.size/\gq≠g/\(∀j,w.frozen? ⟨gq,j,none⟩=false)/\w.cell? ⟨gq,n*3,none⟩=some (.int .i64 (AD P.XY n).w)/\w.cell? ⟨gq,n*3+1,none⟩=some (.int .i64 (AD P.XY n).a)/\w.cell? ⟨gq,n*3+2,none⟩=some (.bool (AD P.XY n).u):=by obtain⟨gq,cg,rfl,h1,_,h3,h4,h5⟩:=h.own.pgs.zW ω;have hc:=AP.zJ Fy h.own.pgs (k:=n) (x:=AD P.XY n) (by unfold AD;exact A9 hn);obtain⟨lE,ml⟩:=BB h.own.pgs gq rfl;exact⟨gq,cg,rfl,h1,h3,h4,Ca ml h.yU,h5,hc 0 _ rfl,hc 1 _ rfl,hc 2 _ rfl⟩
theorem Hj.pg{n0:Nat}(h:Hj lo g w m i e c s l (.slice gq n0 cg) P){n:Nat}(hn:n<P.XY.length):gq<w.heap.size/\(∀j,w.frozen? ⟨gq,j,none⟩=false)/\w.cell? (gq,n*3)=some (.int .i64 (AD P.XY n).w)/\w.cell? (gq,n*3+1)=some (.int .i64 (AD P.XY n).a)/\w.cell? (gq,n*3+2)=some (.bool (AD P.XY n).u):=by obtain⟨s5,qs,e,h1,L,h3,h4,h5⟩:=h.page hn;simp only[xQ,Option.some.injEq,Addr.mk.injEq] at e;obtain⟨⟨rfl,_⟩,_,rfl⟩:=e;exact⟨h3,h5⟩
end
structure fQ(p:AR)(n m:Nat)(XY:List Bz)(FV:Int):Prop where
 vic:Ct 32 p.XY p.FV=(XY,FV,some m)
 m16:m<16
 mw:(AD p.XY m).w=1
 ok1:Dz {p with XY:=XY,FV:=FV}
 mw1:(AD XY m).w=1
 ok2:Dz (Eu {p with XY:=XY,FV:=FV} m)
 free:0<=Ao (Eu {p with XY:=XY,FV:=FV} m).Ve.ZJ
 nw:(AD (Eu {p with XY:=XY,FV:=FV} m).XY n).w≠1
 pg:(AD (Eu {p with XY:=XY,FV:=FV} m).XY n).w=(AD p.XY n).w/\(AD (Eu {p with XY:=XY,FV:=FV} m).XY n).a=(AD p.XY n).a
 room:(Al (Eu {p with XY:=XY,FV:=FV} m).XY 1:Int)+1<=p.U4
 is:Br p n=Qi (Eu {p with XY:=XY,FV:=FV} m) n
theorem TP (h:Dz p)(hn:n<16)(hw:(AD p.XY n).w≠1)(hf:JZ p=true)(kp:¬(Ao p.Ve.ZJ<0/\Al p.XY 1=0)):∃m XY FV,fQ p n m XY FV:=by
 have hc:0<Al p.XY 1:=by
  rcases wJ (Al p.XY 1) with h0|h0
  .exfalso
   unfold JZ at hf;simp only[xL,decide_eq_true_eq] at hf;have:=h.U4
   rcases hf with hf|hf
   .exact kp ⟨hf,h0⟩
   omega
  exact h0
 obtain⟨i,hi,l9⟩:=J6.1 hc;rw[h.zY] at hi;obtain⟨m,hm⟩:=Jg 32 p.XY p.FV h.FV.1 h.FV.2 h.zY i hi l9 (.inr (by have:=Rl h.FV.1 h.FV.2 hi;omega));have hU:=JP 32 p.XY p.FV;have hH:=Kn 32 p.XY p.FV h.FV.1 h.FV.2;have hI:=Ic 32 p.XY p.FV h.FV.1 h.FV.2 m hm;have hT:Br p n=match Ct 32 p.XY p.FV with
  |(XY,FV,some m)=>Qi (Eu {p with XY:=XY,FV:=FV} m) n
  |(_,_,none)=>(p,false):=by
  unfold Br;rw[if_neg hw,if_neg kp,if_pos hf];rfl
 revert hU hH hI hm hT
 generalize hv:Ct 32 p.XY p.FV=r;obtain⟨pg,hd,o⟩:=r;intro hm hU hH hI hT;cases hm;have h':=hU.ok h hH.1 hH.2;have mw1:=(hU.w m).trans hI.2;have Y:=VZ h' hI.1 mw1;have pL:n≠m:=λe=>hw (by rw[e];exact hI.2)
 have nA:AD (Eu {p with XY:=pg,FV:=hd} m).XY n=AD pg n:=by
  show AD (pg.set m _) n=_
  rw[EQ,if_neg (λh=>pL h.1)]
 refine⟨m,pg,hd,hv,hI.1,hI.2,h',mw1,Y.1,Y.2.2.2,?_,?_,?_,hT⟩
 .rw[nA,hU.w];exact hw
 .rw[nA];exact⟨hU.w n,hU.at' n⟩
 have h1:Al (Eu {p with XY:=pg,FV:=hd} m).XY 1+1=Al pg 1:=Y.2.2.1
 have L:Al pg 1=Al p.XY 1:=hU.count 1;have h3:=h.count;omega
theorem TN (h:Dz p)(hw:(AD p.XY n).w≠1)(hf:JZ p=false):Br p n=Qi p n/\0<=Ao p.Ve.ZJ:=by
 have h1:¬Ao p.Ve.ZJ<0:=λe=>by unfold JZ at hf;simp[e] at hf
 refine⟨?_,ω⟩;unfold Br;rw[if_neg hw,if_neg (λx=>h1 x.1),if_neg (by rw[hf];simp)]
theorem TR (hw:(AD p.XY n).w≠1)(h:Ao p.Ve.ZJ<0/\Al p.XY 1=0):Br p n=(p,false):=by unfold Br;rw[if_neg hw,if_pos h]
theorem Qa{k:Nat}{XY:List Bz}{FV:Int}:Ct (k+1) XY FV=if(AD XY FV.toNat).w=1/\(AD XY FV.toNat).u=false then(XY,FO FV,some FV.toNat) else Ct k (XY.set FV.toNat (Oz (AD XY FV.toNat))) (FO FV):=rfl
theorem XO (h:Dz p):(Ct 32 p.XY p.FV).2.2=none↔Al p.XY 1=0:=by
 constructor
 .intro hx
  rcases wJ (Al p.XY 1) with h0|h0
  .exact h0
  obtain⟨i,hi,l9⟩:=J6.1 h0
  rw[h.zY] at hi;obtain⟨m,hm⟩:=Jg 32 p.XY p.FV h.FV.1 h.FV.2 h.zY i hi l9 (.inr (by have:=Rl h.FV.1 h.FV.2 hi;omega));rw[hx] at hm;cases hm
 intro h0
 cases hx:(Ct 32 p.XY p.FV).2.2 with
 |none=>rfl
 |some m=>have hI:=Ic 32 p.XY p.FV h.FV.1 h.FV.2 m hx;have:=J6.2 ⟨m,by rw[h.zY];exact hI.1,hI.2⟩;omega
def bg(g:Nat)(w:Ω):Int:=match w.cell? (g,7) with
 |some (.int _ n)=>n
 |_=>0
def dJ(gq n:Nat)(w:Ω):Bool:=match w.cell? (gq,n*3+2) with
 |some (.bool b)=>b
 |_=>false
def cS(g gq n:Nat)(w:Ω):Nat:=yV (bg g w) n+if dJ gq n w then 16 else 0
theorem Y0{qc:Nat}{l:Φ}(h:Hj lo g w m i e c s l (.slice gq 16 qc) P)(hl:P.XY.length=16)(hn:n<16):cS g gq n w=yV P.FV n+if(AD P.XY n).u then 16 else 0:=by obtain⟨_,_,_,_,d2⟩:=h.pg (n:=n) ω;unfold cS bg dJ;rw[h.cells.2.2.2.2.2.2.2.1,d2]
theorem gD.yQ{l q:Φ}(h:gD lo g w s l q P k H):∃m i e c,Hj lo g H m i e c s l q {P with Ve:=k}:=by obtain⟨⟨m,i,e,c,h,_⟩,_⟩:=h;exact⟨m,i,e,c,h⟩
theorem Dd.one (a:List Bz)(j:Nat):Dd a (a.set j (Oz (AD a j))):=Dd.step (Dd.refl _)
theorem Dd.trans{a b c:List Bz}(h:Dd a b)(h':Dd b c):Dd a c:=⟨h'.len.trans h.len,λi=>(h'.w i).trans (h.w i),λi=>(h'.at' i).trans (h.at' i),λi hu=>h.u i (h'.u i hu)⟩
theorem Ws (h:Hj lo g w mv iv ev cv sv lv qv P)(ay:lo<=w.heap.size)(hP:Dz P){pg:List Bz}{hd:Int}(hv:Ct 32 P.XY P.FV=(pg,hd,some n)):
 Ξ prog 136 #[.pointer g] w (λr H=>r=.returned (.tuple #[])/\(∃m i e c,Hj lo g H m i e c sv lv qv (Eu {P with XY:=pg,FV:=hd} n))/\Γ lo w H):=by
 obtain⟨gq,qc,rfl,pE,pN,nH,pm,_⟩:=h.page (n:=0) (by rw[hP.zY];omega);rw[hP.zY] at h pE ⊢;have hV:=AA hv;have hY:=AA hP;have g8:n<16:=by have:=(Ic 32 P.XY P.FV hP.FV.1 hP.FV.2 n (by rw[hv]));exact this.1
 have HI:=AA h;have mO:=AA ay;have hh:=hP.FV;have pk:=pm.symm;clear h hP hv ay;go_in;go_wp2_with fail;go_loopw [2,3] (λ_ _ wr=>∃k XY FV,Hj lo g wr mv iv ev cv sv lv (.slice gq 16 qc) {P with XY:=XY,FV:=FV}/\Ct k XY FV=(pg,hd,some n)/\Dd P.XY XY/\0<=FV/\FV<=15/\Γ lo w wr) (λ_ _ wr=>cS g gq n wr)
 exact⟨32,P.XY,P.FV,HI.u,hV.u,Dd.refl _,hh.1,hh.2,yN _ _⟩
 obtain⟨k,XY,FV,hI,iD,hU,h0,lA,N⟩:=hrel;obtain⟨k,rfl⟩:∃k',k=k'+1:=by
  cases k with
  |zero=>unfold Ct at iD;cases iD
  |succ k=>exact⟨k,rfl⟩
 rw[Qa] at iD;obtain⟨j,rfl⟩:∃j:Nat,FV=(j:Int):=⟨FV.toNat,ω⟩
 rw[yq] at iD;unfold FO at iD;have hj:j<16:=ω;have f3:(j:Int)<16:=ω;have gT:XY.length=16:=by rw[hU.len];exact hY.zY
 have s3:=AA (hU.ok hY h0 lA);have M0:=AA (Y0 hI gT g8);obtain⟨lZ,fq,p0,p1,p2⟩:=hI.pg (n:=j) (by show j<XY.length;rw[gT];exact hj);obtain⟨_,_,_,_,_,_,x6,x7,_⟩:=hI.cells;have fg:=AK hI.yU;have I1:=(hI.zr (((j:Int)+1)%16)).1;have B1:=AM N (hI.zr (((j:Int)+1)%16)).2 hI.yT (yM mO N.size);have hN:0<=((j:Int)+1)%16/\((j:Int)+1)%16<=15:=Mu (FV:=(j:Int)) h0 lA;have jx:=AA (λ(gU:j≠n)=>show yV (((j:Int)+1)%16) n+1=yV (j:Int) n from OV (FV:=(j:Int)) h0 lA g8 gU);have hZ:=AA (show yV (((j:Int)+1)%16) j=15 from Rk (FV:=(j:Int)) h0 lA);have hQ:=AA (show yV (j:Int) j=0 from WQ (FV:=(j:Int)) h0);have hF:=AY hI.yU;have hx:XY[j]?=some (AD XY j):=by unfold AD;exact A9 ω
 generalize hpj:AD XY j=x at iD p0 p1 p2 hx;obtain⟨xw,xa,xu⟩:=x;dsimp only at p0 p1 p2 iD I1;have iu:=AA hpj;have HX:=AA hx;have je:=AA gT;have jF:=AA I1;have jY:=AA B1;have HU:=AA hU;have HN:=AA hN;have HV:=AA iD;clear hI hU hpj hx iD gT N I1 B1 hN lZ
 by_cases hc:xw=1/\xu=false
 .obtain⟨rfl,rfl⟩:=hc
  have jh:=HV.u;rw[if_pos ⟨rfl,rfl⟩] at jh;simp only[Prod.mk.injEq,Option.some.injEq] at jh;obtain⟨rfl,rfl,rfl⟩:=jh;have mS:=AA (HU.ok hY HN.1 HN.2);clear HV M0 jx hZ hQ hV;obtain⟨k0,_,_,_,k4,_⟩:=jF.cells;go_wp2_with fail;generalize wr.setCell _ _=W1 at*;clear x6 x7 p0 p1 p2 fg fq;have nJ:=AY jF.yU;have jk:lo<=W1.heap.size:=yM mO jY.size;obtain⟨gp,fq,p0,p1,p2⟩:=jF.pg (n:=j) (by show j<XY.length;rw[je.u];exact hj);replace p1:W1.cell? (gq,j*3+1)=some (.int .i64 (AD XY j).a):=p1;rw[iu.u] at p1;have mi:=mS.zR hj (by show(AD XY j).w=1;rw[iu.u]);have js:=(mS.zQ hj (by show(AD XY j).w=1;rw[iu.u])).2.1;simp only[iu.u] at mi js;obtain⟨f,rfl⟩:∃f:Nat,xa=(f:Int):=⟨xa.toNat,ω⟩
  have gj:f<12:=by simpa using mi.1
  obtain⟨Z,o1⟩:=jF.own.ker.1;have iH:P.Ve.mem.length=12:=hY.meml;have fp:Z.length=12:=by rw[o1.2.1.1];exact iH
  obtain⟨gm,cm,e1,i5,_,_,gu,_⟩:=o1.1.zW ω;have iT:(AJ P.Ve.mem f).length=4:=hY.rowl gj;obtain⟨gw,cw,hu,j5,_,_⟩:=o1.row (f:=f) (by show f<P.Ve.mem.length;omega) (by show 0<(AJ P.Ve.mem f).length;omega);subst e1;rw[fp] at k0;replace hu:Z[f]?=some (.slice gw (AJ P.Ve.mem f).length cw):=hu;replace j5:AE lo W1 (.slice gw (AJ P.Ve.mem f).length cw) (AJ P.Ve.mem f):=j5;rw[iT] at hu j5;have DR:=AP.zJ Ej o1.1 hu 0 _ rfl;rw[wX,xT] at DR;have g4:=mS.slot hj (by show(AD XY j).w≠2;rw[iu.u];show(1:Int)≠2;decide);obtain⟨sl,io⟩:∃sl:Nat,Bt P.swap=(sl:Int):=⟨(Bt P.swap).toNat,by have:=g4.1;simp only at this;omega⟩
  have ke:sl<16:=by have:=g4.2.1;simp only[io] at this;omega
  have nP:=AE.rd j5;obtain⟨rq,gP⟩:=jF.own.swp;have CS:=AA (λW (hW:Γ W1 W1 W)=>XI (gP.below hW) hY.zN (yM jk hW.size) (nP.below hW) (by rw[iT];omega) io ke);have mj:(f:Int)<12:=ω;have qE:=AA io;have kO:=AA jk;clear nP j5 hu iT fp iH o1 js g4 gP io p0 p2 jk mi;refine Ac 15 68 [.p g 0,.p g 0,.p g 4,.v sv,.p g 0,.p g 0,.p g 0,.p g 0,.s gm 12 cm,.p gq (j*3),.p gq (j*3),.p gq (j*3+1),.i ((f:Int)),.p gm f,.s gw 4 cw] (λ_ _ _=>True) ?_ ?_
  .intro i hi o Y a O V A J x2 z
   have bC:=bc J nJ k4;have bA:=bc J nJ k0
   match i,hi with
   |0,_|1,_|2,_|4,_|5,_|6,_|7,_|9,_|10,_|11,_=>exact sP Y z V A
   |3,_|8,_=>exact sL Y z V A (hl:=GR ‹_›)
   |12,_=>exact sL Y z V A (hl:=F7 (bc J gp p1))
   |13,_=>exact sI Y z V A (hr:=by clear A V z;go_simp)
   |14,_=>exact sL Y z V A (hl:=K5 (bc J gu DR))
   |_+15,hq=>omega
  intro Z O hR J
  have q3:(Z 3)=sv:=Be hR 3;have j0:(Z 14)=.slice gw 4 cw:=Be hR 14;clear hR;simp only[Aj,Ae,yL,yI,yJ,yH,q3,j0];simp;clear q3 j0;replace J:Γ W1 W1 O:=J;go_wp2_with fail;refine(CS _ J).mono ?_;rintro r w2 ⟨rfl,⟨oQ,nQ⟩,bf,mh⟩;have I2:=(jF.below J).zk mh nQ;have B2:=jY.trans ((J.mono kO.u).trans (bf.mono (yF _)));have kx:lo<=w2.heap.size:=yM kO (yM J.size mh.size);have C2:=AA (Sn I2 kx hY.k hY.zD hj 0 ψ);have jX:=AA B2;clear nQ bf mh I2 B2 J CS k0 k4 p1 DR i5 gu;go_wp2_with fail;refine C2.mono ?_;rintro r w3 ⟨rfl,hT⟩;obtain⟨m3,i3,e3,c3,I3⟩:=hT.yQ;have B3:=AA (jX.trans hT.2.1);have kw:lo<=w3.heap.size:=yM kx hT.2.2.size;obtain⟨rE,s9,_,p1,_⟩:=I3.pg (n:=j) (by show j<XY.length;rw[je.u];exact hj);replace p1:w3.cell? (gq,j*3+1)=some (.int .i64 (AD XY j).a):=p1;rw[iu.u] at p1;have nF:Dg (Ad P.Ve (JN {P with XY:=XY,FV:=(((j:Int)+1)%16),swap:=P.swap.set sl (AJ P.Ve.mem f)} j 0)).1:=F6 hY.k;have C3:=J9 I3 kw nF ⟨2,0,(f:Int),0,0,⟨#[]⟩⟩ (ψ:(0:Int)<=0) (ψ:(0:Int)<3) (yu _) (ψ:(0:Int)<=9223372036854775807);have ox:=AA C3;clear hT I3 nF C3 C2;go_wp2_with (refine ox.mono ?_;rintro r w4 ⟨rfl,⟨m4,i4,e4,c4,I4,_⟩,fs,nI⟩;have B4:=B3.trans fs;have l6:lo<=w4.heap.size:=yM kw nI.size;have I5:=I4.zA (n:=j) je.symm (by show j<XY.length;rw[je.u];exact hj) ⟨2,(sl:Int),false⟩;obtain⟨l1,s7,p0,p1,p2⟩:=I4.pg (n:=j) (by show j<XY.length;rw[je.u];exact hj);have B5:=AA (AM B4 I5.2.1 I5.2.2 l6);have qX:=AA I5.1;clear I4 I5 fs nI B4 ox);go_returns;refine⟨rfl,⟨m4,i4,e4,c4,?_⟩,B5.u⟩;have:=qX.u;rw[MI (t:=gA) ⟨ψ,ψ,ψ⟩] at this;unfold Eu Ah;simp only[iu.u,yq,qE.u];exact this
 have jh:=HV.u
 rw[if_neg hc] at jh;have qP:=AA jh;have kI:=jF.zz (n:=j) (x:=⟨xw,xa,xu⟩) (y:=⟨xw,xa,false⟩) (j:=2) (u:=.bool false) je.symm HX ψ rfl;have B2:=AA (AM jY kI.2.1 kI.2.2 (yM mO jY.size));have nO:Dd P.XY (XY.set j (Oz (AD XY j))):=Dd.trans HU (Dd.one XY j);have qY:=AA kI.1;have M2:=AA (Y0 kI.1 (by show(XY.set j _).length=16;rw[yi];exact je.u) g8);have qQ:=AA nO;have bl:cS g gq n ((wr.setCell (g,7) (.int .i64 ((((j:Int)+1)%16)))).setCell (gq,j*3+2) (.bool false))<cS g gq n wr:=by
  rw[M0.u,M2.u]
  show yV (((j:Int)+1)%16) n+_<yV (j:Int) n+_
  by_cases e:j=n
  .subst e
   have hu:xu=true:=by
    have j6:xw=1:=by have:=(Ic 32 P.XY P.FV hY.FV.1 hY.FV.2 j (by rw[hV.u])).2;rw[<-HU.w j,iu.u] at this;exact this
    cases xu
    .exact absurd ⟨j6,rfl⟩ hc
    rfl
   have e1:(AD (XY.set j ⟨xw,xa,false⟩) j).u=false:=by rw[EQ,if_pos ⟨rfl,by rw[je.u];exact hj⟩]
   have e2:(AD XY j).u=true:=by rw[iu.u];exact hu
   have h1:=hZ.u;have L:=hQ.u
   show _+(if(AD (XY.set j ⟨xw,xa,false⟩) j).u=true then 16 else 0)<_+(if(AD XY j).u=true then 16 else 0)
   rw[e1,e2,h1,L];decide
  have e1:(AD (XY.set j ⟨xw,xa,false⟩) n)=AD XY n:=by rw[EQ,if_neg (λh=>e h.1.symm)]
  have:=jx e
  show _+(if(AD (XY.set j ⟨xw,xa,false⟩) n).u=true then 16 else 0)<_+(if(AD XY n).u=true then 16 else 0)
  rw[e1];omega
 have qJ:=AA bl;clear kI nO jh HV jx hZ hQ M0 M2 bl hV
 by_cases j6:xw=1
 focus
  subst j6
  obtain rfl:xu=true:=by
   cases xu
   .exact absurd ⟨rfl,rfl⟩ hc
   rfl
  clear hc
 rotate_left
 focus
  have t1:(xw !=1)=true:=by simp[j6]
  clear hc j6
 rotate_left
 all_goals
  go_wp2;go_roundw
  case rel=>exact⟨k,_,_,qY.u,qP.u,by have:=qQ.u;rw[iu.u] at this;exact this,HN.1,HN.2,B2.u⟩
  case measure=>exact qJ.u
end Go.Proofs.YtlcnbkkcplllhaaGreatDoor
