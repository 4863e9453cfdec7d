/-
  Packed:29 texts.
-/
import Derived.Test.YtlcnbkkcplllhaaGreatDoorY1
import Derived.Test.YtlcnbkkcplllhaaGreatDoorY4
import Derived.Deep.DeepCutAuto
import Derived.Test.YtlcnbkkcplllhaaGreatDoorY3
import Derived.Test.YtlcnbkkcplllhaaGreatDoorY2
import Derived.Deep.CutBlock
set_option linter.unusedVariables false
set_option linter.unusedSimpArgs false
set_option maxHeartbeats 16000000
set_option maxRecDepth 100000
open Go Go.Proofs.YtlcnbkkcplllhaaGreatDoor
open And renaming intro->yj
open Bool renaming and_eq_true->yC,and_eq_true_iff->um,true_and->wv
open Decidable renaming em->vS
open Go.IntWalk renaming i64_in->xA
open Go.Lib renaming toList_data->xI
open Go.Proofs.Tryz renaming results11->rO,results116->rS,results141->tP,results202->rT,results22->uD,results33->rP,results58->vJ
open Go.Region renaming waitsFor->yk
open Go.RowKit.Below renaming refl->yN
open Go.Value renaming int->yl,oneCell'->xR,slice->xv
open Go.World renaming block_lt_of_cell?->yK,cell?_alloc_new->tq,cell?_of_block->vW,ownsRow_nil->xo,size_alloc->xt
open Go.World.ownsRow renaming cellAt->xN,frozenAt->xV,lt->yE
open Go renaming bodyPost_ret->yB,cell_of_row->yx,heap_alloc_new->yy,heap_setCell_other->tT,heap_setCell_same->yA
open Int renaming eq_ofNat_of_zero_le->yg,tmod_eq_emod_of_nonneg->wF,toNat_natCast->yq
open List renaming all_eq_true->ym,countP_le_length->wC,filter_cons->vP,foldl_cons->yJ,foldl_nil->yH,getElem?_eq_getElem->yG,getElem?_map->xq,length_append->yz,length_filter_le->xG,mem_append->wI,mem_cons->xH,mem_range->yh,not_mem_nil->wM,range->yL
open List.range renaming loop->yI
open Nat renaming add_le_add_left->sG,add_zero->xT,le_of_eq->ve,le_refl->yF,le_succ->we,le_trans->yM,lt_of_lt_of_le->yt,mul_le_mul_left->wA,mul_one->wX,not_lt_zero->xU,zero_le->yu
open Go renaming World->Ω,Value->Φ,Calls->Ξ,undef->Θ
open Go.RowKit renaming Below->Γ
variable {a1 a2 a3 cv ev iv lv mv qv sv:Φ} {W:Ω}
namespace Go.Proofs.YtlcnbkkcplllhaaGreatDoor
open Go.Proofs.Tryz
open Go.RowKit
def ID(k:AQ)(f:Int)(ws:List Int)(j:Nat):AQ:=(yL j).foldl (λk i=>(Ad k (Ah 3 f (i:Nat) (ws.getD i 0))).1) k
variable{k k':AQ}
variable{f x:Int}
variable{ws:List Int}
variable{M N T a b g j lo n:Nat}
theorem Lk:ID k f ws (j+1)=(Ad (ID k f ws j) (Ah 3 f (j:Int) (ws.getD j 0))).1:=by unfold ID;rw[List.range_succ,List.foldl_append];rfl
theorem Lj (h:Dg k)(j:Nat):Dg (ID k f ws j):=by
 induction j with
 |zero=>exact h
 |succ j ih=>rw[Lk];exact F6 ih
variable{P Q p:AR}
theorem Xz{k1:AQ}{fr:Int}(h:Ad p.Ve (Ah 1 0 0 0)=(k1,fr,0)):
 Qi p n=({p with Ve:=(Ad (if(AD p.XY n).w=2 then Wy k1 fr (AJ p.swap (AD p.XY n).a.toNat) else k1) (JN p n (Ii fr))).1,swap:=if(AD p.XY n).w=2 then p.swap.set (AD p.XY n).a.toNat [] else p.swap,XY:=p.XY.set n ⟨1,fr,true⟩},true):=by
 unfold Qi;rw[h];simp only;rw[if_neg χ]
variable{a0 a4 a5 a6 a7 a8 c c' e e' i i' l l' m m' q s s' u v v0 v1 v2:Φ}
variable{E J W1 w w1 w2 wr:Ω}
theorem bd{o:Nat}(h:w.grownBy E (some g))(gT:b≠g)(hc:w.cell? (b,o)=some v):E.cell? (b,o)=some v:=
 (Bu h (yK w _ hc) (λe=>gT (yP e).symm)).trans hc
def Qx(lo g:Nat)(w:Ω)(sv lv qv:Φ)(t:AR×Bool)(r:Ending)(E:Ω):Prop:=
 r=.returned (.bool t.2)/\(t.2=true->∃m i e c,Hj lo g E m i e c sv lv qv t.1)/\Γ lo w E
theorem ZO (h:Hj lo g w mv iv ev cv sv lv qv P)(av:lo<=w.heap.size)(hP:Dz P)(hn:n<16):
 Ξ prog 70 #[.pointer g,.int .i64 n] w (Qx lo g w sv lv qv (Br P n)):=by
 obtain⟨gq,qc,rfl,iW,jc,lU,kw,_⟩:=h.page (n:=0) (by rw[hP.zY];omega);rw[hP.zY] at h iW ⊢;unfold Qx;have o3:=AA hP;have HI:=AA h;have iB:=AA av;have jb:(n:Int)<16:=ω;have mB:=kw.symm;obtain⟨_,_,_,_,_,_,x6,_,_⟩:=h.cells;obtain⟨kH,fq,p0,p1,p2⟩:=h.pg (n:=n) (by rw[hP.zY];exact hn);have hx:P.XY[n]?=some (AD P.XY n):=by unfold AD;exact A9 (by rw[hP.zY];exact hn)
 by_cases hw:(AD P.XY n).w=1
 .have HT:=AA (TQ hP hw)
  have gd:=h.zz (n:=n) (x:=AD P.XY n) (y:= {AD P.XY n with u:=true}) (j:=2) (u:=.bool true) hP.zY.symm hx ψ rfl;have B2:=AA (AM (yN _ _) gd.2.1 gd.2.2 av);have gx:=AA gd.1;rw[hw] at p0;clear h hP av hx gd hw;go_in;go_wp2;go_ret;refine⟨AF (by rw[HT.u]),λ_=>⟨mv,iv,ev,cv,?_⟩,B2.u⟩;rw[HT.u];exact gx.u
 have t0:((AD P.XY n).w==1)=false:=by simp[hw]
 have mY:=AA hw;have CN:=AA (Sj (w:=w) x6 (by have:=h.own.pgs.rd;exact this) hP.zY 1);have je:Al P.XY 1<=16:=by unfold Al;exact yM wC (ve hP.zY)
 have CF:=AA (λW (hW:Γ w w W)=>Ks iv P.Ve.ZJ W (BN.below h.own.ker.2.1.rd hW));have T1:=AA (TR (p:=P) (n:=n) hw);have T2:=AA (TN hP hw);have T3:=AA (TP hP hn hw);have FP:JZ P=(decide (Ao P.Ve.ZJ<0)||decide ((Al P.XY 1:Int)=P.U4)):=rfl;have jn:=AA FP;have jO:=hP.U4;have pI:=AA hP;generalize(AD P.XY n).w=pw at p0 t0;clear h hP av hx hw FP p1 p2;go_in;go_wp2_with fail;refine CN.mono ?_;rintro r w1 ⟨rfl,b1⟩;have R:=(HI.below b1).cells.2.1;have bX:=AA b1;clear p0 fq kH CN x6 b1;go_wp2_with fail;refine(CF _ bX.u).mono ?_;rintro r w2 ⟨rfl,b2⟩;have gx:=AA (HI.below (bX.trans (b2.mono bX.size)));have im:=AA ((bX.trans (b2.mono bX.size)).mono iB.u);have gl:=AA (yM iB (yM bX.size b2.size));have x8:=gx.cells.2.2.2.2.2.2.2.2;clear b2 R HI CF;have tc:(((Al P.XY 1:Nat):Int)==0)=decide (Al P.XY 1=0):=by by_cases e:Al P.XY 1=0<;>simp[e]
 have tl:(((Al P.XY 1:Nat):Int)==P.U4)=decide ((Al P.XY 1:Int)=P.U4):=by by_cases e:(Al P.XY 1:Int)=P.U4<;>simp[e]
 go_upto_region 7 with fail;have ml:=AA (χ:decide (Ao P.Ve.ZJ<0)=true↔Ao P.Ve.ZJ<0);rw[show(decide (Ao P.Ve.ZJ<0))=decide (Ao P.Ve.ZJ<0) from rfl] at jn;generalize decide (Ao P.Ve.ZJ<0)=fb at ml jn ⊢;go_cut [40] (λqd wx=>qd=.bool (fb&&decide (Al P.XY 1=0))/\w2=wx)
 case first=>
  cases fb
  .go_wp2_with fail
   go_meet
   case rel=>exact⟨rfl,rfl⟩
  go_wp2_with fail
  go_meet
  case rel=>exact⟨χ,rfl⟩
 case rest=>
  obtain⟨rfl,rfl⟩:=hcut;cases j6:(fb&&decide (Al P.XY 1=0))
  .go_upto_region 9 with fail
   go_cut [49] (λp9 wx=>p9=.bool (fb||decide ((Al P.XY 1:Int)=P.U4))/\w2=wx)
   case first=>
    cases fb
    .go_wp2_with fail
     go_meet
     case rel=>exact⟨χ,rfl⟩
    go_wp2_with fail
    go_meet
    case rel=>exact⟨rfl,rfl⟩
   case rest=>
   obtain⟨rfl,rfl⟩:=hcut;rw[<-jn.u];go_upto_if 49 with fail;go_cut [] (λwx=>∃P1 m i e c,Hj lo g wx m i e c sv lv (.slice gq 16 qc) P1/\Γ lo w wx/\lo<=wx.heap.size/\Dz P1/\0<=Ao P1.Ve.ZJ/\(AD P1.XY n).w≠1/\Br P n=Qi P1 n)
   case first=>
    have nc:¬(Ao P.Ve.ZJ<0/\Al P.XY 1=0):=λh=>by rw[ml.2 h.1,h.2] at j6;cases j6
    cases hf:JZ P
    .have HF:=T2 hf
     go_wp2_with fail;go_meet
     case rel=>exact⟨P,_,_,_,_,gx.u,im.u,gl.u,pI.u,HF.2,mY.u,HF.1⟩
    obtain⟨mm,pgs,hd,er⟩:=T3 hf nc
    have CM:=AA (Ws gx gl pI er.vic);have bx:=AA er;clear er;go_wp2_with fail;refine CM.mono ?_;rintro r w3 ⟨rfl,⟨m1,i1,e1,c1,I1⟩,j8⟩;have dg:=AA I1;have bt:=AA (im.trans j8);have jd:=AA (yM gl j8.size);clear I1 j8 CM;go_wp2_with fail;go_meet
    case rel=>exact⟨_,_,_,_,_,dg.u,bt.u,jd.u,bx.ok2,bx.free,bx.nw,bx.is⟩
   case rest=>
   obtain⟨P1,m1,i1,e1,c1,I1,B1,l1,O1,f1,n1,t1⟩:=hcut;have dg:=AA I1;have bt:=AA B1;have jd:=AA l1;have cT:=AA O1;have lI:=AA f1;have ow:=AA t1;clear I1 B1 l1 O1 f1 t1 x8 gx im gl j6 tc tl ml T1 T2 T3 jn;have C1:=J9 dg jd cT.k ⟨1,0,0,0,0,gA⟩ (ψ:(0:Int)<=0) (ψ:(0:Int)<3) ψ (ψ:(0:Int)<=9223372036854775807);obtain⟨k1,fr,cC,kT,jy,kR⟩:∃k1 fr,Ad P1.Ve (Ah 1 0 0 0)=(k1,fr,0)/\0<=fr/\fr<=11/\Dg k1:=by obtain⟨g1,_,_⟩:=GO (ZJ:=P1.Ve.ZJ) (by have:=lI.u;omega);rw[cT.k.len] at g1;have hk:=F6 (kind:=1) (a:=0) (b:=0) (c:=0) cT.k;have e:=NF (k:=P1.Ve) cT.may lI (a:=0) (b:=0) (c:=0);rw[e] at hk;exact⟨_,_,e,lI.u,by have:=lI.u;omega,hk⟩
   have jz:=ow.u;rw[Xz cC] at jz;unfold ZK at C1;rw[show(⟨1,0,0,0,0,gA⟩:AV)=Ah 1 0 0 0 from rfl,cC] at C1;have iZ:=AA (yj kT jy);have jF:=AA kR;clear cC kT jy kR lI;go_wp2_with fail;refine C1.mono ?_;rintro r w2 ⟨rfl,⟨m2,i2,e2,c2,I2,_⟩,fn,oS⟩;have B2:=AA (bt.trans fn);have gl:=AA (yM jd oS.size);obtain⟨cP,pi,p0,p1,p2⟩:=I2.pg (n:=n) (by show n<P1.XY.length;rw[cT.zY];exact hn);have gx:=AA I2;simp only at p0 p1;clear C1 fn oS I2
   by_cases fk:(AD P1.XY n).w=2
   .rw[if_pos fk,if_pos fk] at jz
    have qT:(0<=(AD P1.XY n).a/\(AD P1.XY n).a<=15)/\EW (AJ P1.swap (AD P1.XY n).a.toNat)=true:=by
     rcases cT.XY n hn with⟨x,_⟩|⟨x,_⟩|⟨R,x2,x3,x4,x5⟩
     .omega
     .omega
     rcases cT.zF (AD P1.XY n).a.toNat ω with x|x
     .exact absurd x x3
     exact⟨ω,x⟩
    obtain⟨⟨rp,nF⟩,bE⟩:=qT;obtain⟨sl,gg⟩:∃sl:Nat,(AD P1.XY n).a=(sl:Int):=⟨(AD P1.XY n).a.toNat,ω⟩
    have gk:sl<16:=ω;have m0:(sl:Int)<16:=ω;rw[gg,yq] at bE jz;rw[gg] at p1;rw[fk] at p0;have lF:=AA jz;obtain⟨ja,oG⟩:=BG.1 bE;obtain⟨hY,bp⟩:=gx.own.swp;have iE:Ay lo w2 sv hY P1.swap:=bp;have kE:P1.swap.length=16:=cT.zN;have ed:hY.length=16:=by rw[iE.2.1.1,kE]
    obtain⟨gs,sc,e1,oM,_,qV,BF,_⟩:=iE.1.zW ω;rw[ed] at e1 oM;subst e1;obtain⟨gr,rc,hu,ge,_,_⟩:=iE.row (f:=sl) ω ω;rw[ja] at hu ge;have DR:=AP.zJ Ej (by rw[ed];exact iE.1) hu 0 _ rfl;rw[wX,xT] at DR;have x4:=gx.cells.2.2.2.2.1;have nG:=AE.rd ge;have qi:gr≠g:=by obtain⟨CR,hc⟩:=BB ge gr rfl;exact Ca hc gx.yU
    have DW:∀j,j<4->w2.cell? ⟨gr,j,none⟩=some (.int .i64 ((AJ P1.swap sl).getD j 0)):=λj hj=>by have:=xN (show w2.ownsRow lo 3 1 (.slice gr 4 rc) 4 ((AJ P1.swap sl).map (yl .i64)) by have:=ge;unfold AE at this;rwa [ja] at this) j hj;rw[this,xq,A9 (d:=0) ω];rfl
    have Hr:=AA (yj ja oG);have wf:=AA DW;clear jz bp iE hu ge nG bE ja oG rp nF ed kE DW fk;go_wp2_with fail;go_quiet (fail);generalize hwq:w2.drewN _=w3;have b3:Γ w2 w2 w3:=by subst hwq;exact Ai (yN _ _) _
    have cF:=AA (gx.below b3);have g3:w2.grownBy w3 (some g):=AX b3 _;have v8:=AA g3;have B3:=AA (B2.trans (b3.mono gl.u));clear hwq b3 g3 x4 p0 p1 p2 pi cP DR;go_wp2_with fail;go_loopw [9,10,71] (λ_ _ ix wr=>∃k:Nat,k<=4/\ix=.int .i64 k/\(∃m i e c,Hj lo g wr m i e c (.slice gs 16 sc) lv (.slice gq 16 qc) {P1 with Ve:=ID k1 fr (AJ P1.swap sl) k})/\w2.grownBy wr (some g)/\Γ lo w wr) (λ_ _ ix _=>4 - (intOf ix).toNat)
    exact⟨0,ω,rfl,⟨_,_,_,_,cF.u⟩,v8.u,B3.u⟩
    obtain⟨k,hk,rfl,⟨m4,i4,e4,c4,I4⟩,iI,B4⟩:=hrel;have kK:lo<=wr.heap.size:=yM gl iI.size
    by_cases oP:k<4
    .have k4:(k:Int)<4:=ω
     have DW:=bd iI qi (wf k oP);have kC:(AJ P1.swap sl).getD k 0<=9223372036854775807:=by have:=(Hr.2 _ (Dl (d:=0) (show k<(AJ P1.swap sl).length by rw[Hr.1];exact oP))).2;omega
     have C4:=AA (J9 I4 kK (Lj jF k) ⟨3,0,fr,(k:Int),(AJ P1.swap sl).getD k 0,⟨#[]⟩⟩ (ψ:(0:Int)<=0) (ψ:(0:Int)<3) (yu _) kC);have tm:=AA iI;have gj:=AA B4;have ly:=AA (Lk (k:=k1) (f:=fr) (ws:=AJ P1.swap sl) (j:=k));generalize(AJ P1.swap sl).getD k 0=wd at*;clear I4 iI B4 kC;go_wp2_with fail;refine C4.mono ?_;rintro r w5 ⟨rfl,⟨m5,i5,e5,c5,I5,_⟩,iY,oR⟩;have pA:Hj lo g w5 m5 i5 e5 c5 (.slice gs 16 sc) lv (.slice gq 16 qc) {P1 with Ve:=ID k1 fr (AJ P1.swap sl) (k+1)}:=by rw[MI (t:=gA) ⟨ψ,ψ,ψ⟩] at I5;rw[ly.u];exact I5
     have jm:=AA pA;have G5:=AA (AO tm oR);have B5:=AA (gj.trans iY);clear I5 pA iY oR C4 DW;go_wp2;go_roundw;exact⟨k+1,ω,ξ,⟨_,_,_,_,jm.u⟩,G5.u,B5.u⟩;simp[intOf];omega
    obtain rfl:k=4:=ω;rw[show((4:Nat):Int)=4 from rfl];have lH:=AA I4;have gj:=AA B4;have lA:=AA kK;generalize hW4:wr=W4 at*;clear I4 iI B4 hW4;have x4:=lH.cells.2.2.2.2.1;have iI:=AY lH.yU;obtain⟨qR,ry,_,p1,_⟩:=lH.pg (n:=n) (by show n<P1.XY.length;rw[cT.zY];exact hn);replace p1:W4.cell? (gq,n*3+1)=some (.int .i64 (AD P1.XY n).a):=p1;rw[gg] at p1;go_wp2_with fail;refine Ac 9 105 [.p g 0,.p g 0,.p g 4,.s gs 16 sc,.p gq (n*3),.p gq (n*3),.p gq (n*3+1),.i ((sl:Int)),.p gs sl] (λ_ _ _=>True) ?_ ?_
    .intro i hi o X a wx D A Y hb O
     match i,hi with
     |0,_|1,_|2,_|4,_|5,_|6,_=>exact sP X O D A
     |3,_=>exact sL X O D A (hl:=GR (bc Y iI x4))
     |7,_=>exact sL X O D A (hl:=F7 (bc Y qR p1))
     |8,_=>exact sI X O D A (hr:=by clear A D O;go_simp)
    intro vs wx hR Y
    have q8:(vs 8)=.pointer (some ⟨gs,sl,none⟩):=Be hR 8;clear hR;simp only[Aj,Ae,yL,yI,yJ,yH,q8];simp;clear q8;replace Y:Γ W4 W4 wx:=Y;have n5:=lH.below Y;obtain⟨hY,bp⟩:=n5.own.swp;replace bp:Ay lo wx (.slice gs 16 sc) hY P1.swap:=bp;have ed:hY.length=16:=by rw[bp.2.1.1];exact cT.zN
    have jM:=yM lA Y.size;have x1:=bp.set (B:=wx.heap.size) (j:=sl) (r:=[]) (v':=.slice none 0 0) (yN _ _) (xo _ _ _ _) (yF _) jM ed.symm ω;have I5:=AA (n5.zk x1.2 x1.1);have g1:wx.ownsRow lo 29 1 (.slice gs 16 sc) 16 hY:=by have:=bp.1;unfold AP at this;rwa [IM,ed] at this
    obtain⟨cv0,C1⟩:∃v,wx.cell? (gs,sl)=some v:=by have C1:=xN g1 sl ω;rw[yG ω] at C1;exact⟨_,C1⟩
    have F1:=xV g1 sl;have B5:=AA (AM (gj.trans (Y.mono lA.u)) x1.2 (yE bp.1 gs rfl).1 jM);have iG:=AA (yM jM x1.2.size);have ko:=AA (Lj jF (f:=fr) (ws:=AJ P1.swap sl) 4);have lG:=lF;clear lH gj n5 x1 g1 bp x4 p1 ry lF ed;go_wp2_with fail;clear C1 F1;generalize wx.setCell _ _=w5 at*;refine(Jv fr _ iZ.1 iZ.2).mono ?_;rintro r w6 ⟨rfl,rfl⟩;have C6:=AA (Sn (P:= {P1 with Ve:=ID k1 fr (AJ P1.swap sl) 4,swap:=P1.swap.set sl []}) I5 iG ko cT.zD hn (Ii fr) (by have:=iZ.2;unfold Ii;omega));generalize hen:Ii fr=en at C6;have oh:=AA hen;clear hen;go_wp2_with (refine C6.mono ?_;rintro r w7 ⟨rfl,hT⟩;obtain⟨m7,i7,e7,c7,I7⟩:=hT.yQ;have B7:=B5.trans hT.2.1;have jN:lo<=w7.heap.size:=yM iG hT.2.2.size;obtain⟨qQ,rx,p0,p1,p2⟩:=I7.pg (n:=n) (by show n<P1.XY.length;rw[cT.zY];exact hn);have I8:=I7.zA (n:=n) cT.zY.symm (by show n<P1.XY.length;rw[cT.zY];exact hn) ⟨1,fr,true⟩;have B8:=AA (AM B7 I8.2.1 I8.2.2 jN);have ox:=AA I8.1;clear hT I7 I8 B7 C6);go_ret;refine⟨AF (by rw[lG.u]),λ_=>⟨m7,i7,e7,c7,?_⟩,B8.u⟩;rw[lG.u];have e8:=ox.u;rw[<-oh.u] at e8;exact e8
   rw[if_neg fk,if_neg fk] at jz
   have t2:((AD P1.XY n).w==2)=false:=by simp[fk]
   have lG:=AA jz;have I5:=gx;have B5:=B2;have iG:=gl;have ko:=jF;generalize(AD P1.XY n).w=pw at p0 t2;clear jz fk jF;go_wp2_with fail;clear p0 p1 p2 t2 pi cP;refine(Jv fr _ iZ.1 iZ.2).mono ?_;rintro r w6 ⟨rfl,rfl⟩;have C6:=AA (Sn (P:= {P1 with Ve:=k1,swap:=P1.swap}) I5 iG ko cT.zD hn (Ii fr) (by have:=iZ.2;unfold Ii;omega));generalize hen:Ii fr=en at C6;have oh:=AA hen;clear hen;go_wp2_with (refine C6.mono ?_;rintro r w7 ⟨rfl,hT⟩;obtain⟨m7,i7,e7,c7,I7⟩:=hT.yQ;have B7:=B5.trans hT.2.1;have jN:lo<=w7.heap.size:=yM iG hT.2.2.size;obtain⟨qQ,rx,p0,p1,p2⟩:=I7.pg (n:=n) (by show n<P1.XY.length;rw[cT.zY];exact hn);have I8:=I7.zA (n:=n) cT.zY.symm (by show n<P1.XY.length;rw[cT.zY];exact hn) ⟨1,fr,true⟩;have B8:=AA (AM B7 I8.2.1 I8.2.2 jN);have ox:=AA I8.1;clear hT I7 I8 B7 C6);go_ret;refine⟨AF (by rw[lG.u]),λ_=>⟨m7,i7,e7,c7,?_⟩,B8.u⟩;rw[lG.u];have e8:=ox.u;rw[<-oh.u] at e8;exact e8
  have HT:=AA (T1 (by
   simp only[yC,decide_eq_true_eq] at j6;exact⟨ml.1 j6.1,j6.2⟩))
  go_wp2;go_ret;exact⟨AF (by rw[HT.u]),λh=>(by rw[HT.u] at h;cases h),im.u⟩
theorem Bg (hB:w.heap[g]?=some (.cells #[a0,a1,a2,a3,a4,a5,a6,a7,a8] 32 (0,0)))(HK:EI lo w m i e c s l q P):
 (((De w g m i e c s l q).setCell (g,7) (.int .i64 P.FV)).setCell (g,8) (.int .i64 P.U4)).heap[g]?=some (.cells #[m,i,e,c,s,l,q,P.FV,P.U4] 32 (0,0))/\
 EI lo (((De w g m i e c s l q).setCell (g,7) (.int .i64 P.FV)).setCell (g,8) (.int .i64 P.U4)) m i e c s l q P/\
 w.grownBy (((De w g m i e c s l q).setCell (g,7) (.int .i64 P.FV)).setCell (g,8) (.int .i64 P.U4)) (some g):=by
 have gr:=Fz (w:=w) (g:=g) (b0:=m) (b1:=i) (b2:=e) (b3:=c) (b4:=s) (b5:=l) (b6:=q) (b7:=.int .i64 P.FV) (b8:=.int .i64 P.U4);exact⟨H6 hB,HK.yV gr hB,gr⟩
theorem Ko{B:Nat}(hB:w.heap[g]?=some (.cells #[a0,a1,a2,a3,a4,a5,a6,a7,a8] 32 (0,0)))(K:Γ B J w)(hg:B<=g):
 (((De w g (.slice none 0 0) (.slice none 0 0) (.slice none 0 0) (.slice none 0 0) (.slice none 0 0) (.slice none 0 0) (.slice none 0 0)).setCell (g,7) (.int .i64 0)).setCell (g,8) (.int .i64 0)).heap[g]?=some (.cells #[ι,ι,ι,ι,ι,ι,ι,θ,θ] 32 (0,0))/\
 Γ B J (((De w g (.slice none 0 0) (.slice none 0 0) (.slice none 0 0) (.slice none 0 0) (.slice none 0 0) (.slice none 0 0) (.slice none 0 0)).setCell (g,7) (.int .i64 0)).setCell (g,8) (.int .i64 0)):=
 ⟨H6 hB,AM K Fz hg (yM hg (Nat.le_of_lt (AY hB)))⟩
theorem Hj.start (HK:EI lo w m i e c s l q P)(av:lo<=w.heap.size):Hj lo w.heap.size (w.alloc (.cells #[m,i,e,c,s,l,q,P.FV,P.U4] 32)) m i e c s l q P:=
 ⟨yy _ _,av,HK.below (AG _ _)⟩
def FJ(w:Ω)(t:AR×Bool)(r:Ending)(E:Ω):Prop:=∃m i e c s l q,r=.returned (.tuple #[AN m i e c s l q t.1.FV t.1.U4,t.2])/\EI w E m i e c s l q t.1/\Γ w w E
theorem MB (mv iv ev cv sv lv qv:Φ)(P:AR)(w:Ω)(h:Kr w mv iv ev cv sv lv qv P)(hP:Dz P)(hn:n<16):
 Ξ prog 33 #[AN mv iv ev cv sv lv qv P.FV P.U4,.int .i64 n] w (FJ w (Br P n)):=by
 unfold AN FJ;obtain⟨B0,B1,ac,az⟩:=IR w (.cells #[mv,iv,ev,cv,sv,lv,qv,P.FV,P.U4] 32) (.cells #[ι,ι,ι,ι,ι,ι,ι,θ,θ] 32);have h0:=h.below ac;have ez:By P=true:=EB.2 hP;have HT:=λ(h:(Br P n).2=false)=>GW hP hn h
 have HO:=LJ hP hn;generalize hT:Br P n=t at HT HO ⊢;obtain⟨Q,bb⟩:=t;replace HT:=AA HT;replace HO:=AA HO;have tk:=AA hT;clear hT;dsimp only at HT HO ⊢;go_in;go_wp2_with fail;generalize(w.alloc _).alloc _=W0 at*;have CV:=AA (λW (hW:Γ W0 W0 W)=>Gk mv iv ev cv sv lv qv P W (h0.below hW) (Cm hP.k));have CO:=AA (λW (hW:Γ W0 W0 W)=>Jd mv iv ev cv sv lv qv P W (h0.below hW) hP);rw[ez] at CV;have bw:=AA ac;have ad:=AA B0;have bt:=AA B1;have pG:=AA hP;have jb:Bo (n:Int) 0 15=true:=Aa.2 ω;clear h h0 ac B0 B1 hP ez;refine(CV W0 (yN _ _)).mono ?_;rintro r w1 ⟨rfl,b1⟩;obtain⟨x0,R,x2,x3,x4,x5,x6,x7,x8⟩:=AC (AB ad b1);have bX:=AA b1;clear b1 CV;go_wp2_with fail;refine(Rs _ _).mono ?_;rintro r w2 ⟨rfl,rfl⟩;rw[jb];go_wp2_with fail;refine(CO w1 bX.u).mono ?_;rintro r w2 ⟨m2,i2,e2,c2,s2,l2,q2,rfl,O2,b2⟩;unfold AN;obtain⟨⟨⟨ma,mn,mc,rfl⟩,⟨ia,iN,ic,rfl⟩,⟨ea,en,ec,rfl⟩,⟨qa,qn,qc,rfl⟩⟩,⟨sa,sn,sc,rfl⟩,⟨la,ln,lc,rfl⟩,⟨pa,pn,pc,rfl⟩⟩:=O2.Dq;have kP:W0.heap.size<=w2.heap.size:=yM bX.size b2.size;have I3:=Hj.start (O2.lower bX.size) kP;have b3:Γ W0 W0 (w2.alloc (.cells #[.slice ma mn mc,.slice ia iN ic,.slice ea en ec,.slice qa qn qc,.slice sa sn sc,.slice la ln lc,.slice pa pn pc,P.FV,P.U4] 32)):=bX.trans ((b2.mono bX.size).trans ((AG _ _).mono kP));clear O2 b2 x0 R x2 x3 x4 x5 x6 x7 x8;go_wp2_with fail;generalize w2.heap.size=g3 at*;generalize w2.alloc _=W3 at*;have CB:=ZO I3 b3.size pG hn;have jD:=AA b3;clear I3 b3;rw[tk.u] at CB;unfold Qx at CB;refine CB.mono ?_;rintro r w4 ⟨rfl,hI,nD⟩;have jl:=AA (jD.trans nD);have B1:=AB bt jl.u;have b9:=AA (bw.trans (jl.mono bw.size));cases bb
 .have z:=HT rfl
  obtain⟨x0,R,x2,x3,x4,x5,x6,x7,x8⟩:=AC (AB ad jl.u);clear hI nD CB;go_wp2_with fail;refine(CO w4 jl.u).mono ?_;rintro r w5 ⟨m5,i5,e5,c5,s5,l5,q5,rfl,O5,b5⟩;unfold AN;clear x0 R x2 x3 x4 x5 x6 x7 x8;subst z;obtain⟨⟨⟨ma,mn,mc,rfl⟩,⟨ia,iN,ic,rfl⟩,⟨ea,en,ec,rfl⟩,⟨qa,qn,qc,rfl⟩⟩,⟨sa,sn,sc,rfl⟩,⟨la,ln,lc,rfl⟩,⟨pa,pn,pc,rfl⟩⟩:=O5.Dq;have N5:=AB B1 b5;have S5:=Bg N5 O5;obtain⟨a0,a1,a2,a3,a4,a5,a6,a7,a8⟩:=AC N5;have f5:=AK N5;have gS:=AA S5;have fp:=AA b5;have iA:=AA (AY B1);clear O5 S5 N5 b5 B1;go_wp2_with fail;clear a0 a1 a2 a3 a4 a5 a6 a7 a8 f5;obtain⟨N6,O6,cy⟩:=gS.u;have B6:=AM (b9.trans (fp.mono (by have:=b9.size;have:=iA.u;omega))) cy ω (by have:=b9.size;have:=fp.size;omega);have O7:=O6.lower (lo':=w.heap.size) (by have:=b9.size;omega);unfold De at N6 O7 B6;exact yB (v:=.tuple #[.agg #[_,_,_,_,_,_,_,_,_],υ]) (by simp[results,rP,go_sem,AC N6]) rfl ⟨_,_,_,_,_,_,_,rfl,O7,B6⟩
 obtain⟨m4,i4,e4,c4,I4⟩:=hI rfl
 have C5:=AA (Jd _ _ _ _ _ _ _ Q w4 I4.own.rd HO.u);obtain⟨x0,R,x2,x3,x4,x5,x6,x7,x8⟩:=AC I4.yU;clear nD CB I4;go_wp2_with fail;refine C5.mono ?_;rintro r w5 ⟨m5,i5,e5,c5,s5,l5,q5,rfl,O5,b5⟩;unfold AN;clear x0 R x2 x3 x4 x5 x6 x7 x8 C5;obtain⟨⟨⟨ma,mn,mc,rfl⟩,⟨ia,iN,ic,rfl⟩,⟨ea,en,ec,rfl⟩,⟨qa,qn,qc,rfl⟩⟩,⟨sa,sn,sc,rfl⟩,⟨la,ln,lc,rfl⟩,⟨pa,pn,pc,rfl⟩⟩:=O5.Dq;have N5:=AB B1 b5;have S5:=Bg N5 O5;obtain⟨a0,a1,a2,a3,a4,a5,a6,a7,a8⟩:=AC N5;have f5:=AK N5;have gS:=AA S5;have fp:=AA b5;have iA:=AA (AY B1);clear O5 S5 N5 b5 B1;go_wp2_with fail;clear a0 a1 a2 a3 a4 a5 a6 a7 a8 f5;obtain⟨N6,O6,cy⟩:=gS.u;have B6:=AM (b9.trans (fp.mono (by have:=b9.size;have:=iA.u;omega))) cy ω (by have:=b9.size;have:=fp.size;omega);have O7:=O6.lower (lo':=w.heap.size) (by have:=b9.size;omega);unfold De at N6 O7 B6;exact yB (v:=.tuple #[.agg #[_,_,_,_,_,_,_,_,_],τ]) (by simp[results,rP,go_sem,AC N6]) rfl ⟨_,_,_,_,_,_,_,rfl,O7,B6⟩
theorem YL (xs:List Bz):∀u∈Cb Dc xs,u.oneCell'=true:=by
 intro u hu;obtain⟨s,_,z⟩:=List.mem_flatMap.1 hu;simp[Dc] at z
 rcases z with rfl|rfl|rfl<;>rfl
theorem Kg (mv iv ev cv sv lv qv:Φ)(P:AR)(w:Ω)(h:Kr w mv iv ev cv sv lv qv P)(hP:Dz P):
 Ξ prog 37 #[AN mv iv ev cv sv lv qv P.FV P.U4] w (OH w P):=by
 unfold AN OH;obtain⟨N0,N1,ac,az⟩:=LF w (.cells #[mv,iv,ev,cv,sv,lv,qv,P.FV,P.U4] 32) (.cells #[ι,ι,ι,ι,ι,ι,ι,θ,θ] 32);have HR:=AA h;have bp:=AA (Wx hP);have jv:=AA hP.zD;have hE:=AA hP.zY;have CK:=AA (ML mv iv ev cv P.Ve _ (h.1.below ac) hP.k);obtain⟨x0,R,x2,x3,_⟩:=AC N0;have iO:=AA az;clear h hP az;go_in;go_wp2_with fail;generalize(w.alloc _).alloc _=W0 at*;refine CK.mono ?_;rintro r w1 ⟨m1,i1,e1,c1,rfl,O1,b1⟩;obtain⟨⟨ma,mn,mc,rfl⟩,⟨ia,iN,ic,rfl⟩,⟨ea,en,ec,rfl⟩,⟨ka,kn,kc,rfl⟩⟩:=O1.Dq;have B1:=AB N0 b1;have R1:=AB N1 b1;have f1:=AK B1;obtain⟨y0,y1,y2,y3,_⟩:=AC B1;have B2:=KL (m':=.slice ma mn mc) (i':=.slice ia iN ic) (e':=.slice ea en ec) (c':=.slice ka kn kc) B1;have G2:=Aq w1 w (.slice ma mn mc) (.slice ia iN ic) (.slice ea en ec) (.slice ka kn kc);have b2:=AM (ac.trans (b1.mono ac.size)) G2 (yF _) (yM ac.size b1.size);have oE:=yM ac.size (yF W0.heap.size);generalize hW2:(((w1.setCell _ _).setCell _ _).setCell _ _).setCell _ _=W2 at B2 G2 b2;obtain⟨_,_,_,_,c4,_⟩:=AC B2;have bt:=AA (yj B1 R1);have im:=AA B2;have pO:=AA G2;have hH:=AA b2;have pK:=AA (O1.lower ac.size);have gY:=AA oE;clear x0 R x2 x3 N0 N1 b1 O1 B1 R1 B2 G2 b2 ac CK oE;go_wp2_with fail;clear y0 y1 y2 y3 f1 c4;refine(Ns sv P.swap W2 (HR.2.1.below hH.u) (by have:=bp.1;omega) (λf hf=>by have V:=bp.1;have:=bp.2 f ω;omega)).mono ?_;rintro r w3 ⟨v3,vs,rfl,O3,b3⟩;obtain⟨sa,sn,sc,rfl⟩:∃a n c,v3=.slice a n c:=by obtain⟨_,_,rfl,_,_⟩:=O3.1.rd.shape;exact⟨_,_,_,rfl⟩
 have B3:=AB im b3;have f3:=AK B3;obtain⟨_,_,_,_,y4,_⟩:=AC B3;have G4:=At w3 w.heap.size 4 (.slice sa sn sc);have B4:=yA w3 w.heap.size 4 _ 32 (.slice sa sn sc) B3;have b4:=AM (hH.trans (b3.mono hH.size)) G4 (yF _) (yM hH.size b3.size);generalize hW4:w3.setCell _ _=W4 at B4 G4 b4;replace B4:W4.heap[w.heap.size]?=some (.cells #[.slice ma mn mc,.slice ia iN ic,.slice ea en ec,.slice ka kn kc,.slice sa sn sc,lv,qv,P.FV,P.U4] 32 (0,0)):=by simpa using B4
 obtain⟨_,_,_,_,_,c5,_⟩:=AC B4;have hJ:=AA B3;have gj:=AA B4;have v7:=AA G4;have jl:=AA b4;have pJ:=AA O3;have jD:=AA b3;have RL:=AA (A3.below HR.2.2.1 (b4.trans ((AG W4 (.cells #[] 3)).mono b4.size)));have rG:=((AG W4 (.cells #[] 3)).cell (yK _ _ c5)).trans c5;clear B3 B4 G4 b4 O3 b3;go_wp2_with (first|(at_builtin;refine PF rfl rfl underlying29 rfl (GD W4) rfl RL (by have:=jv.u;omega) (AG W4 (.cells #[] 3)).size ?_;intro u5 w5 hu iY;obtain⟨la,kz,rfl,_⟩:=(AE.rd hu).open;have b5:=(AG W4 (.cells #[] 3)).trans iY;have B5:=AB gj b5;have f5:=AK B5;obtain⟨_,_,_,_,_,y5,_⟩:=AC B5;have G6:=At w5 w.heap.size 5 (.slice la P.low.length kz);have B6:=yA w5 w.heap.size 5 _ 32 (.slice la P.low.length kz) B5;have b6:=AM (jl.trans (b5.mono jl.size)) G6 (yF _) (yM jl.size b5.size);generalize hW6:w5.setCell _ _=W6 at B6 G6 b6;replace B6:W6.heap[w.heap.size]?=some (.cells #[.slice ma mn mc,.slice ia iN ic,.slice ea en ec,.slice ka kn kc,.slice sa sn sc,.slice la P.low.length kz,qv,P.FV,P.U4] 32 (0,0)):=(by simpa using B6);obtain⟨_,_,_,_,_,_,c6,_⟩:=AC B6;have rF:=((AG W6 (.cells #[] 87)).cell (yK _ _ c6)).trans c6;have HU:=AA hu;have fs:=AA B5;have wq:=AA B6;have v6:=AA G6;have fp:=AA b5;have km:=AA b6;have RQ:=AA (BN.below HR.2.2.2 (km.trans ((AG W6 (.cells #[] 87)).mono km.size)));clear hu iY b5 B5 G6 B6 b6 c5 rG y4 f3)|(at_builtin;go_must (refine GG (cs:=Dc) rfl rfl 87 (.agg #[θ,θ,υ]) 3 24 underlying30 Tryz.zv rfl ψ rfl (Cn Dc W6 _ _) rfl RQ (YL _) (by have:=hE.u;omega) ψ (AG W6 (.cells #[] 87)).size ?_;intro u7 w7 hq oW;obtain⟨pa,lJ,rfl,_⟩:=hq.rd.shape;have b7:=(AG W6 (.cells #[] 87)).trans oW;have B7:=AB wq b7;have f7:=AK B7;obtain⟨_,_,_,_,_,_,y6,_⟩:=AC B7;have G8:=At w7 w.heap.size 6 (.slice pa P.XY.length lJ);have B8:=yA w7 w.heap.size 6 _ 32 (.slice pa P.XY.length lJ) B7;have b8:=AM (km.trans (b7.mono km.size)) G8 (yF _) (yM km.size b7.size);generalize hW8:w7.setCell _ _=W8 at B8 G8 b8;replace B8:W8.heap[w.heap.size]?=some (.cells #[.slice ma mn mc,.slice ia iN ic,.slice ea en ec,.slice ka kn kc,.slice sa sn sc,.slice la P.low.length kz,.slice pa P.XY.length lJ,P.FV,P.U4] 32 (0,0)):=(by simpa using B8);have nL:=AO v6 (AO (AX b7 _) G8);have nM:=AO v7 (AO (AX fp _) nL);have nN:=AO pO (AO (AX jD _) nM);have R8:=As bt.2 nN ω;have O8:EI w W8 (.slice ma mn mc) (.slice ia iN ic) (.slice ea en ec) (.slice ka kn kc) (.slice sa sn sc) (.slice la P.low.length kz) (.slice pa P.XY.length lJ) P:=⟨pK.yV nN bt.1,⟨vs,(pJ.yV nM hJ).lower hH.size⟩,BS (DY HU nL fs) jl.size,BS (AP.yV hq G8 B7) km.size,λb K rm=>(by obtain⟨us,r1⟩:=pK.1;have q1:=(yE r1.1 b K).2;have q2:=(yE pJ.1 b rm).1;have q3:=pO.size;omega)⟩;have S9:=Bg R8 O8;obtain⟨d0,d1,d2,d3,d4,d5,d6,d7,d8⟩:=AC B8;obtain⟨z0,z1,z2,z3,z4,z5,z6,z7,z8⟩:=AC R8;have f8:=AK R8;have t8:=AA S9;have pB:=AA b8;clear hq oW b7 B7 G8 B8 b8 nL nM nN R8 O8 S9 c6 rF y5 f5)))
 obtain⟨N9,O9,rv⟩:=t8.u;have B9:=AM pB rv ω pB.size;unfold De at N9 O9 B9;exact yB (v:=.agg #[_,_,_,_,_,_,_,_,_]) (by simp[results,Tryz.results37,go_sem,AC N9]) rfl ⟨_,_,_,_,_,_,_,rfl,O9,B9⟩
theorem Vm (v u:Φ)(S:List (List Int))(r:List Int)(w:Ω)(h:Bn w v S)(z:F3 S=true)(hr:A3 w u r)(j5:EW r=true)(hj:Bt S=(j:Int))(ie:j<16):
 Ξ prog 243 #[v,u] w λe E=>(∃v' vs,e=.returned (.tuple #[v',j,τ])/\Ay w E v' vs (S.set j r))/\Γ w w E:=by
 have C1:=Wk v S w h;rw[hj] at C1;have C1:=AA C1;have C2:=AA (λW (hW:Γ w w W)=>by have:=Iq v S W (h.below hW);rw[z] at this;exact this);have C3:=AA (λW (hW:Γ w w W)=>by have:=MN u r W (A3.below hr hW);rw[j5] at this;exact this);have gg:=(Gw.1 z).1;have oK:=(Gw.1 z).2;have qO:∀f,f<S.length->(AJ S f).length<=100:=λf hf=>by
  rcases oK f ω with h0|h0
  .rw[h0];simp
  have:=(BG.1 h0).1;omega
 have C4:=AA (λW (hW:Γ w w W)=>Ns v S W (h.below hW) ω qO);have HR:=AA (λW (hW:Γ w w W)=>A3.below hr hW);have ja:r.length<=1048576:=by have:=(BG.1 j5).1;omega
 have lu:=AA gg;have A2:¬(j:Int)<0:=ω;have BE:(j:Int)<16:=ω;clear h z hr j5 gg oK hj;go_in;go_wp2_with fail;refine C1.mono ?_;rintro e w1 ⟨rfl,b1⟩;go_wp2_with fail;refine(C2 _ b1).mono ?_;rintro e w2 ⟨rfl,b2⟩;have B2:=b1.trans (b2.mono b1.size);go_wp2_with fail;refine(C3 _ B2).mono ?_;rintro e w3 ⟨rfl,b3⟩;have B3:=B2.trans (b3.mono B2.size);clear b1 b2 b3 B2;go_wp2_with fail;refine(C4 _ B3).mono ?_;rintro e w4 ⟨v',vs,rfl,O4,b4⟩;have ed:vs.length=16:=by rw[O4.2.1.1];exact lu.u
 obtain⟨gs,ij,rfl,c1,c2,q1,q2,q7⟩:=O4.1.zW ω;rw[ed] at O4 c1 ⊢;have B4:=B3.trans (b4.mono B3.size);have gj:=AA B4;have hJ:=AA B3;have jE:=AA O4;have mf:=AA ed;have ub:=AA (HR _ (B4.trans ((AG w4 (.cells #[] 3)).mono B4.size)));clear O4 b4 B3 B4 q7 ed;go_wp2_with (at_builtin;refine PF rfl rfl underlying29 rfl (GD w4) rfl ub ja (AG w4 (.cells #[] 3)).size ?_;intro u5 w5 hu iY;have b5:=(AG w4 (.cells #[] 3)).trans iY;have x1:=jE.set (B:=w4.heap.size) (j:=j) b5 hu (yF _) ω mf.symm (by have:=mf.u;omega);have g1:w5.ownsRow w3.heap.size 29 1 (.slice gs 16 ij) 16 vs:=(by have:=(jE.below b5).1;unfold AP at this;rwa [IM,mf.u] at this);have K1:=xN g1 j ω;rw[yG (by have:=mf.u;omega)] at K1;have F1:=xV g1 j;have up:=AA (x1.1.lower hJ.size);have B6:=AA (AM (gj.trans (b5.mono gj.size)) x1.2 (by have:=hJ.size;omega) (yM gj.size b5.size));obtain⟨ra,rn,rc,rfl⟩:=Mx hu;have CX:(16:Int)<=ij:=ω;clear x1 g1 hu iY b5);exact yB (v:=.tuple #[_,_,τ]) (by simp[results,Tryz.results243,go_sem]) rfl ⟨⟨_,_,rfl,up.u⟩,B6.u⟩
def Fn(w E:Ω):Prop:=∀(b:Nat)(cu:Array Φ),w.heap[b]?=some (.cells cu 32 (0,0))->E.heap[b]?=some (.cells cu 32 (0,0))
section
variable {w w1 w2:Ω} {p T:Nat} {cu:Array Φ}
theorem Fn.refl(w:Ω):Fn w w:=λ_ _ h=>h
theorem Fn.trans(h:Fn w w1)(h':Fn w1 w2):Fn w w2:=λb cu K=>h' b cu (h b cu K)
theorem Fn.below(h:Fn w w1)(K:Γ w1 w1 w2):Fn w w2:=λb cu hB=>AB (h b cu hB) K
theorem Fn.fresh(h:Fn w w1)(hg:w1.grownBy w2 (some p))(hp:w.heap.size<=p):Fn w w2:=λb cu hB=>As (h b cu hB) hg (by have:=AY hB;omega)
theorem Fn.other(h:Fn w w1)(hg:w1.grownBy w2 (some p))(hB:w1.heap[p]?=some (.cells cu T (0,0)))(hT:T≠32):Fn w w2:=λb c K=>As (h b c K) hg (Ca hB (h b c K) hT)
end
def XN:Option Nat->Int
 |some n=>(n:Int)
 |none=> -1
def Xb(lo:Nat)(w:Ω)(m i e c s l q:Φ)(P:AR)(t:List Bz×Int×Option Nat)(r:Ending)(E:Ω):Prop:=
 r=.returned (.tuple #[AN m i e c s l q t.2.1 P.U4,.int .i64 (XN t.2.2)])/\EI lo E m i e c s l q {P with XY:=t.1,FV:=t.2.1}/\Γ lo w E/\Fn w E
theorem To (h:EI lo w mv iv ev cv sv lv qv P)(av:lo<=w.heap.size)(hP:Dz P):
 Ξ prog 202 #[AN mv iv ev cv sv lv qv P.FV P.U4] w (Xb lo w mv iv ev cv sv lv qv P (Ct 32 P.XY P.FV)):=by
 unfold AN Xb AN;obtain⟨N0,N1,ac,az⟩:=LF w (.cells #[mv,iv,ev,cv,sv,lv,qv,P.FV,P.U4] 32) (.cells #[ι,ι,ι,ι,ι,ι,ι,θ,θ] 32);have HI:=AA (⟨N0,av,h.below ac⟩:Hj lo w.heap.size _ mv iv ev cv sv lv qv P);obtain⟨⟨⟨ma,mn,mc,rfl⟩,⟨ia,iN,ic,rfl⟩,⟨ea,en,ec,rfl⟩,⟨ka,kn,kc,rfl⟩⟩,⟨sa,sn,sc,rfl⟩,⟨la,ln,lc,rfl⟩,⟨pa,pn,pc,e7⟩⟩:=h.Dq;obtain⟨gq,qc,e8,iW,jc,lU,kw,_⟩:=HI.page (n:=0) (by rw[hP.zY];omega);rw[hP.zY] at e8 iW;subst e8;clear e7;have iO:=AA az;have bP:=AA (yM av ac.size);have bw:=AA (ac.mono av);have iR:=AA ((Fn.refl w).below ac);have jY:=AA N1;have iB:=AA av;have o3:=AA hP;have hh:=hP.FV;have mB:=kw.symm;generalize hv:Ct 32 P.XY P.FV=t;obtain⟨pg,hd,o⟩:=t;have hV:=AA hv;clear h hP av N0 N1 ac az hv;go_in;go_wp2_with fail;generalize(w.alloc _).alloc _=W0 at*;generalize hg:w.heap.size=g at*;have Hg:=AA hg;clear hg;go_loopw [4,5] (λix _ wr=>∃k XY FV,k<=32/\ix=.int .i64 ((32 - k:Nat):Int)/\Hj lo g wr (.slice ma mn mc) (.slice ia iN ic) (.slice ea en ec) (.slice ka kn kc) (.slice sa sn sc) (.slice la ln lc) (.slice gq 16 qc) {P with XY:=XY,FV:=FV}/\wr.heap[g+1]?=some (.cells #[ι,ι,ι,ι,ι,ι,ι,θ,θ] 32 (0,0))/\Ct k XY FV=(pg,hd,o)/\Dd P.XY XY/\0<=FV/\FV<=15/\Γ lo w wr/\Fn w wr) (λix _ _=>32 - (intOf ix).toNat)
 exact⟨32,P.XY,P.FV,yF _,rfl,HI.u,jY.u,hV.u,Dd.refl _,hh.1,hh.2,bw.u,iR.u⟩
 obtain⟨k,XY,FV,hk,rfl,hI,hN,iV,hU,h0,ru,K,hst⟩:=hrel;cases k with
 |zero=>
  obtain⟨rfl,rfl,rfl⟩:XY=pg/\FV=hd/\none=o:=by unfold Ct at iV;simpa using iV
  have HS:=AA (Bg hN hI.own);obtain⟨x0,R,x2,x3,x4,x5,x6,x7,x8⟩:=hI.cells;obtain⟨z0,z1,z2,z3,z4,z5,z6,z7,z8⟩:=AC hN;have fz:=AK hN;have D:=AA K;have sm:=AA hst;clear hI hN K hst hU iV hk;rw[show((32 - 0:Nat):Int)=32 from rfl];go_wp2_with fail;obtain⟨N2,O2,lj⟩:=HS.u;have B2:=AM D lj (by have:=Hg.u;have:=iB.u;omega) (by have:=D.size;have:=Hg.u;have:=iB.u;omega);have T2:=sm.fresh lj (by have:=Hg.u;omega);unfold De at N2 O2 B2 T2;exact yB (v:=.tuple #[.agg #[_,_,_,_,_,_,_,_,_],_]) (by simp[results,rT,go_sem,XN,AC N2]) rfl ⟨rfl,O2,B2,T2⟩
 |succ k=>
  rw[Qa] at iV;obtain⟨j,rfl⟩:∃j:Nat,FV=(j:Int):=⟨FV.toNat,ω⟩
  rw[yq] at iV;unfold FO at iV;have hj:j<16:=ω;have jx:(j:Int)<16:=ω;obtain⟨ix,hix⟩:∃ix:Nat,ix=32 - (k+1):=⟨_,rfl⟩
  have qZ:(ix:Int)<32:=ω;have te:=AA (ω:32 - k=ix+1);rw[<-hix];clear hix;have hE:XY.length=16:=by rw[hU.len];exact o3.zY
  obtain⟨_,_,_,_,_,_,_,x7,_⟩:=hI.cells;have fg:=AK hI.yU;have P1:=hI.zr (((j:Int)+1)%16);have B1:=AM K P1.2 hI.yT (by have:=K.size;have:=Hg.u;have:=iB.u;omega);have N1:=As hN P1.2 ω;have I1:=P1.1;have T1:=hst.fresh P1.2 (by have:=Hg.u;omega);clear P1 hst;generalize hW1:wr.setCell _ _=W1 at I1 B1 N1 T1;have jX:=AA T1;clear T1;obtain⟨kH,fq,p0,p1,p2⟩:=I1.pg (n:=j) (by show j<XY.length;rw[hE];exact hj);obtain⟨c0,c1,c2,c3,c4,c5,c6,c7,c8⟩:=I1.cells;have lg:0<=((j:Int)+1)%16/\((j:Int)+1)%16<=15:=Mu (FV:=(j:Int)) h0 ru;have hx:XY[j]?=some (AD XY j):=by unfold AD;exact A9 ω
  replace p0:W1.cell? (gq,j*3)=some (.int .i64 (AD XY j).w):=p0;replace p1:W1.cell? (gq,j*3+1)=some (.int .i64 (AD XY j).a):=p1;replace p2:W1.cell? (gq,j*3+2)=some (.bool (AD XY j).u):=p2;have pC:=AA (Dd.trans hU (Dd.one XY j));have CD:=AA hU;generalize hpj:AD XY j=x at iV p0 p1 p2 hx pC;obtain⟨xw,xa,xu⟩:=x;dsimp only at p0 p1 p2 iV;have HX:=AA hx;have u4:=AA hE;have dg:=AA I1;have bt:=AA B1;have HN:=AA N1;have lE:=AA lg;have HV:=AA iV;have Hk:=AA hk;clear hI hU hx iV hE K I1 B1 N1 lg hN hpj hk
  by_cases hc:xw=1/\xu=false
  .obtain⟨rfl,rfl⟩:=hc
   have jJ:=HV.u;rw[if_pos ⟨rfl,rfl⟩] at jJ;simp only[Prod.mk.injEq] at jJ;obtain⟨rfl,rfl,rfl⟩:=jJ;clear HV hV;have HS:=AA (Bg HN dg.own);obtain⟨z0,z1,z2,z3,z4,z5,z6,z7,z8⟩:=AC HN.u;have fz:=AK HN.u;go_wp2_with fail;obtain⟨N2,O2,lj⟩:=HS.u;have B2:=AM bt lj (by have:=Hg.u;have:=iB.u;omega) (by have:=bt.size;have:=Hg.u;have:=iB.u;omega);have T2:=jX.fresh lj (by have:=Hg.u;omega);unfold De at N2 O2 B2 T2;exact yB (v:=.tuple #[.agg #[_,_,_,_,_,_,_,_,_],_]) (by simp[results,rT,go_sem,XN,AC N2]) rfl ⟨rfl,O2,B2,T2⟩
  have jJ:=HV.u
  rw[if_neg hc] at jJ;have t6:=AA jJ;have gd:=dg.zz (n:=j) (x:=⟨xw,xa,xu⟩) (y:=⟨xw,xa,false⟩) (j:=2) (u:=.bool false) u4.symm HX ψ rfl;have B2:=AA (AM bt gd.2.1 gd.2.2 (by have:=bt.size;have:=Hg.u;have:=iB.u;omega));have rr:=AA (As HN gd.2.1 (by obtain⟨cu,gt⟩:=BB dg.own.pgs gq rfl;exact(Ca gt HN)));have gx:=AA gd.1;obtain⟨lZ,f6⟩:=BB dg.own.pgs gq rfl;have T2:=AA (jX.other gd.2.1 f6 ψ);clear gd jJ HV hV
  by_cases mX:xw=1
  focus
   subst mX
   obtain rfl:xu=true:=by
    cases xu
    .exact absurd ⟨rfl,rfl⟩ hc
    rfl
   clear hc
  rotate_left
  focus
   have t1:(xw==1)=false:=by simp[mX]
   clear hc mX
  rotate_left
  all_goals
   go_wp2;go_roundw;exact⟨k,_,_,by have:=Hk.u;omega,by rw[te.u];go_num,gx.u,rr.u,t6.u,pC.u,lE.1,lE.2,B2.u,T2.u⟩;simp[intOf];omega
section
variable {lo g:Nat} {w E:Ω} {m i e c s l q:Φ} {P:AR}
theorem Hj.kfar{p:Nat}{cu:Array Φ}(h:Hj lo g w m i e c s l q P)(hp:w.heap[p]?=some (.cells cu 28 (0,0)))(hg:w.grownBy E (some p)):Hj lo g E m i e c s l q P:=
 ⟨As h.yU hg (Ca hp h.yU),h.yT,h.own.yV hg hp⟩
theorem Hj.putSw{s':Φ}{vs:List Φ}{S:List (List Int)}(h:Hj lo g w m i e c s l q P)(HK:Ay lo w s' vs S)(ha:GH m s'):Hj lo g (w.setCell (g,4) s') m i e c s' l q {P with swap:=S}:=by have gr:=At w g 4 s';have F:=h.own.yV gr h.yU;have B:=yA w g 4 _ 32 s' h.yU;exact⟨by simpa using B,h.yT,⟨F.ker,⟨vs,HK.yV gr h.yU⟩,F.low,F.pgs,ha⟩⟩
theorem Hj.putK{m' i' e' c':Φ}{k:AQ}(h:Hj lo g w m i e c s l q P)(HK:Dy lo w m' i' e' c' k)(ha:GH m' s):Hj lo g ((((w.setCell g m').setCell (g,1) i').setCell (g,2) e').setCell (g,3) c') m' i' e' c' s l q {P with Ve:=k}:=by have gr:=Aq w g m' i' e' c';have F:=h.own.yV gr h.yU;exact⟨KL h.yU,h.yT,⟨HK.yV gr h.yU,F.swp,F.low,F.pgs,ha⟩⟩
end
def dP(lo:Nat)(v:Φ)(w:Ω)(S:List (List Int)):Prop:=∃vs,Ay lo w v vs S
def MC(lo:Nat)(v:Φ)(w:Ω)(S:List (List Int))(x:Int):Prop:=∃u,v=.tuple #[u,x,τ]/\dP lo u w S
variable{S:List (List Int)}
theorem dP.below (h:dP lo v w S)(K:Γ w w E):dP lo v E S:=by obtain⟨vs,h⟩:=h;exact⟨vs,h.below K⟩
theorem MC.below (h:MC lo v w S x)(K:Γ w w E):MC lo v E S x:=by obtain⟨u,V,L⟩:=h;exact⟨u,V,L.below K⟩
def XZ(lo:Nat)(w:Ω)(l q:Φ)(Q:AR)(r:Ending)(E:Ω):Prop:=(∃m i e c s,r=.returned (AN m i e c s l q Q.FV Q.U4)/\EI lo E m i e c s l q Q)/\Γ lo w E/\Fn w E
theorem YB (h:EI lo w mv iv ev cv sv lv qv P)(av:lo<=w.heap.size)(hP:Dz P)(hn:n<16)(hw:(AD P.XY n).w=1):
 Ξ prog 203 #[AN mv iv ev cv sv lv qv P.FV P.U4,.int .i64 n] w (XZ lo w lv qv (Eu P n)):=by
 have oU:=hP.zR hn hw;have re:=(hP.zQ hn hw).2.1;have iF:=hP.slot hn (by rw[hw];decide);obtain⟨f,hf⟩:∃f:Nat,(AD P.XY n).a=(f:Int):=⟨(AD P.XY n).a.toNat,ω⟩
 obtain⟨sl,gg⟩:∃sl:Nat,Bt P.swap=(sl:Int):=⟨(Bt P.swap).toNat,by have:=iF.1;omega⟩
 have gk:sl<16:=by have:=iF.2.1;omega
 have kU:f<12:=by have:=oU.1;omega
 obtain⟨ta,ha⟩:∃a,a=n/4:=⟨_,rfl⟩
 obtain⟨tb,K⟩:∃b,b=n%4:=⟨_,rfl⟩
 have q1:(n:Int)/4=(ta:Int):=ω;have q2:(n:Int)%4=(tb:Int):=ω;have nE:ta<4:=ω;have nI:Dg (Ad P.Ve (Ah 6 (Bf P.low ta) (tb:Int) 0)).1:=F6 hP.k;have hQ:Eu P n= {P with Ve:=(Ad (Ad P.Ve (Ah 6 (Bf P.low ta) (tb:Int) 0)).1 (Ah 2 (f:Int) 0 0)).1,swap:=P.swap.set sl (AJ P.Ve.mem f),XY:=P.XY.set n ⟨2,(sl:Int),false⟩}:=by unfold Eu JN;rw[hf,gg,<-ha,<-K,yq,yq]
 rw[hQ];have CM:=λm i e c W (hR:Nk W m i e c P.Ve)=>GK hR hP.k 6 (Bf P.low ta) (tb:Int) 0 ψ
 generalize Ad P.Ve (Ah 6 (Bf P.low ta) (tb:Int) 0)=res1 at CM nI ⊢;obtain⟨fy,hX,n1⟩:=res1;dsimp only at CM nI ⊢;have C4:=λm i e c W (hR:Nk W m i e c fy)=>GK hR nI 2 (f:Int) 0 0 ψ
 generalize Ad fy (Ah 2 (f:Int) 0 0)=res2 at C4 ⊢;obtain⟨js,jG,n2⟩:=res2;unfold LR at CM C4;dsimp only at CM C4 ⊢;generalize(n1==0)=br1 at CM;replace CM:=AA CM;replace C4:=AA C4;unfold AN XZ AN;obtain⟨⟨_,⟨ia,iN,ic,rfl⟩,⟨ea,en,ec,rfl⟩,⟨ka,kn,kc,rfl⟩⟩,⟨sa,sn,sc,rfl⟩,_⟩:=h.Dq;obtain⟨gq,qc,e3,_,_,jc,lU,_⟩:=h.pgs.zW (by rw[hP.zY];omega);rw[hP.zY] at e3;obtain⟨lb,lc,e2,iX,DL⟩:=LA h.low (j:=ta) (by rw[hP.zD];exact nE);rw[hP.zD] at e2;obtain⟨vs,o1⟩:=h.ker.1;have j7:P.Ve.mem.length=12:=hP.meml;have ed:vs.length=12:=by rw[o1.2.1.1];exact j7
 obtain⟨gm,cm,e1,nA,_,_,kS,_⟩:=o1.1.zW ω;have ja:(AJ P.Ve.mem f).length=4:=hP.rowl kU;obtain⟨gw,cw,hu,ge,_,_⟩:=o1.row (f:=f) ω ω;have DR:=AP.zJ Ej (e1▸o1.1) hu 0 _ rfl;rw[ed] at e1;rw[ja] at hu ge DR;rw[wX,xT] at DR;subst e1 e2 e3;obtain⟨N0,N1,ac,az⟩:=LF w (.cells #[.slice gm 12 cm,.slice ia iN ic,.slice ea en ec,.slice ka kn kc,.slice sa sn sc,.slice lb 4 lc,.slice gq 16 qc,P.FV,P.U4] 32) (.cells #[ι,ι,ι,ι,ι,ι,ι,θ,θ] 32);have cp:=(⟨N0,av,h.below ac⟩:Hj lo w.heap.size _ _ _ _ _ _ _ _ P);replace DR:=(ac.cell (p:=⟨gm,f,none⟩) kS).trans DR;replace DL:=(ac.cell (p:=⟨lb,ta,none⟩) iX).trans DL;replace iX:=yt iX ac.size;replace kS:=yt kS ac.size;replace ge:=AE.below ge ac;have oY:=AE.rd ge;have oZ:=cp.own.swp.choose_spec.rd;have o0:=cp.own.ker.rd;have bp:F3 P.swap=true:=Gw.2 ⟨hP.zN,hP.zF⟩;have oN:EW (AJ P.Ve.mem f)=true:=(Ak.1 hP.k.mem).2 f kU;obtain⟨_,_,p1,_⟩:True/\True/\_/\True:=⟨trivial,trivial,(cp.pg (n:=n) (by rw[hP.zY];exact hn)).2.2.2.1,trivial⟩;rw[hf] at p1;obtain⟨k0,k1,k2,k3,k4,k5,k6,_,_⟩:=cp.cells;have iO:=AA az;have jY:=AA N1;have HI:=AA cp;have iB:=AA av;have bw:=AA (ac.mono av);have iR:=AA ((Fn.refl w).below ac);have HP:=AA hP;have O:=AA hP.k;have ot:=AA o0;replace DL:_=some (yl .i64 (Bf P.low ta)):=DL;generalize Bf P.low ta=la at*;have CS:=AA (λW (hW:Γ _ _ W)=>Vm (.slice sa sn sc) (.slice gw 4 cw) P.swap (AJ P.Ve.mem f) W (oZ.below hW) bp (oY.below hW) oN gg gk);have jb:(n:Int)<16:=ω;have Cf:(f:Int)<12:=ω;have ro:(ta:Int)<4:=ω;have bP:=AA (yM av ac.size);have jV:=AA (show n<P.XY.length by rw[hP.zY];exact hn);have kl:=AA hP.zY;clear h av hP hw oU re iF hf gg hQ cp N0 N1 ac az o1 hu ge ja j7 ed oY oZ o0 bp oN nA ha K;go_in;go_wp2_with fail;generalize(w.alloc _).alloc _=W0 at*;generalize hg:w.heap.size=g at*;have Hg:=AA hg;have el:=AY HI.yU;clear hg;refine BD 15 64 [.p g 4,.v (.slice sa sn sc),.p g 0,.p g 0,.s gm 12 cm,.i ((f:Int)),.p gm f,.s gw 4 cw,.z,.z,.z,.i ((sl:Int)),.b true,.z,.i ((sl:Int))] (λix vv ww=>match ix with
  |8|9=>MC W0 vv ww (P.swap.set sl (AJ P.Ve.mem f)) (sl:Int)
  |10|13=>dP W0 vv ww (P.swap.set sl (AJ P.Ve.mem f))
  |_=>True) ?_ ?_ ?_
 .intro i hi o X a wx D A Y hb O
  have cz:=bc Y el k4;have bu:=bc Y el k0
  match i,hi with
  |0,_|2,_|3,_|5,_|14,_=>exact sP X O D A
  |1,_|4,_=>exact sL X O D A (hl:=GR ‹_›)
  |6,_=>exact sI X O D A (hr:=by clear A D O;go_simp)
  |7,_=>exact sL X O D A (hl:=K5 (bc Y kS DR))
  |8,_=>exact sC X O D A (CS _ Y) (by rintro r w_ ⟨⟨v',pW,rfl,hO⟩,fn⟩;exact⟨_,rfl,⟨v',rfl,pW,hO.lower Y.size⟩,fn⟩)
  |9,_=>clear cz bu;obtain rfl:=yP X;have d8:MC W0 (a.tmps[27]?.getD Θ) wx (P.swap.set sl (AJ P.Ve.mem f)) (sl:Int):=Bd A 8;clear A D;refine yO ?_;go_simp;exact O _ _ d8 (yN _ _)
  |10,_=>clear cz bu;obtain rfl:=yP X;have d9:MC W0 (a.tmps[18]?.getD Θ) wx (P.swap.set sl (AJ P.Ve.mem f)) (sl:Int):=Bd A 9;clear A D;obtain⟨v',d9,hO⟩:=d9;refine yO ?_;go_simp;exact O _ _ hO (yN _ _)
  |11,_|12,_=>clear cz bu;obtain rfl:=yP X;have d9:MC W0 (a.tmps[18]?.getD Θ) wx (P.swap.set sl (AJ P.Ve.mem f)) (sl:Int):=Bd A 9;clear A D;obtain⟨v',d9,hO⟩:=d9;refine yO ?_;go_simp;exact O _ _ rfl (yN _ _)
  |13,_=>clear cz bu;obtain rfl:=yP X;have lp:dP W0 (a.tmps[28]?.getD Θ) wx (P.swap.set sl (AJ P.Ve.mem f)):=Bd A 10;clear A D;refine yO ?_;go_simp;exact O _ _ lp (yN _ _)
  |_+15,hq=>omega
 .intro i hi vv wz iU gh hz
  match i,hi with
  |8,_|9,_=>exact(MC.below hz gh)
  |10,_|13,_=>exact(dP.below hz gh)
  |0,_|1,_|2,_|3,_|4,_|5,_|6,_|7,_|11,_|12,_|14,_=>exact hz
  |_+15,hq=>omega
 intro vs wx hR Y
 have oD:(vs 12)=.bool true:=Be hR 12;have kv:dP W0 (vs 13) wx (P.swap.set sl (AJ P.Ve.mem f)):=Be hR 13;have jq:(vs 14)=.int .i64 sl:=Be hR 14;clear hR;simp only[Aj,Ae,yL,yI,yJ,yH,oD,jq];simp;generalize vs 13=pV at kv ⊢;clear oD jq;obtain⟨hY,hO⟩:=kv;obtain⟨ua,un,uc,rfl⟩:∃a n c,pV=.slice a n c:=by obtain⟨_,_,rfl,_,_⟩:=hO.1.rd.shape;exact⟨_,_,_,rfl⟩
 obtain⟨W1,rfl⟩:∃W1,W1=wx:=⟨_,rfl⟩
 have HO:=AA hO;have dg:=AA (HI.below Y);have bt:=AA (bw.trans (Y.mono bP.u));have HN:=AA (AB jY Y);have HT:=AA (iR.below Y);have kM:=yt iX Y.size;replace DL:=(Y.cell (p:=⟨lb,ta,none⟩) iX).trans DL;have pS:=CM.u;clear CM;have CM:=AA (λW (hW:Γ W1 W1 W)=>pS _ _ _ _ W ((ot.below Y).below hW));clear pS;have iX:=kM;have lw:=AA Y.size;clear hO Y k0 k1 k2 k3 k4 k5 k6 p1 DR kS kM CS;obtain⟨k0,k1,k2,k3,k4,k5,k6,_,_⟩:=dg.cells;have jQ:=AY dg.yU;go_wp2_with fail;refine Cv 19 64 (λix=>ix==16) [.p g 0,.a #[.slice gm 12 cm,.slice ia iN ic,.slice ea en ec,.slice ka kn kc],.p g 5,.s lb 4 lc,.i ((n:Int)),.i ((ta:Int)),.p lb ta,.i la,.i ((n:Int)),.i ((tb:Int)),.z,.z,.z,.i hX,.b br1,.z,.z,.i hX,.b br1] (λll ix vv ww=>match ix with
  |10|11=>Fc W1 vv ww fy hX br1
  |12=>IG W1 vv ww fy
  |15=>KD W1 (ll 16) vv ww fy
  |_=>True) (λll ww=>Γ W1 W1 ww) ?_ ?_ ?_ ?_ ?_ ?_
 .exact Ai (yN _ _) 1
 .intro j hj ll i vv wz iU hi hS lh o5 gh hz
  match j,hj with
  |10,_|11,_=>exact(Fc.below hz gh)
  |12,_=>exact(IG.below hz gh)
  |15,_=>exact(KD.below (by rw[E9 (by rintro rfl;cases hS)];exact hz) gh)
  |0,_|1,_|2,_|3,_|4,_|5,_|6,_|7,_|8,_|9,_|13,_|14,_|16,_|17,_|18,_=>exact hz
  |_+19,hq=>omega
 .intro ll i wz iU hi hS lh gh hg
  exact hg.trans (gh.mono hg.size)
 .intro i hi hS o X a wx D ll A Z Y hb O
  have cz:=bc Y jQ k0;have bu:=bc Y jQ k1;have cg:=bc Y jQ k2;have cx:=bc Y jQ k3;have ay:=bc Y jQ k5;have ef:=bc Y iX DL
  match i,hi,hS with
  |0,_,_|2,_,_|4,_,_|8,_,_|17,_,_|18,_,_=>exact Tj X O D A Z
  |1,_,_=>exact Kf X O D A Z (hl:=Pi ‹_› ‹_› ‹_› ‹_›)
  |3,_,_=>exact Kf X O D A Z (hl:=K5 ‹_›)
  |7,_,_=>exact Kf X O D A Z (hl:=F7 ‹_›)
  |10,_,_=>exact ey X O D A Z (CM _ Y) (by rintro r w_ ⟨m',i',e',c',rfl,hO,fn⟩;exact⟨_,rfl,⟨m',i',e',c',rfl,hO.lower Y.size⟩,fn⟩)
  |16,_,z=>cases z
  |5,_,_=>clear cz bu cg cx ay ef;obtain rfl:=yP X;have d4:(a.tmps[36]?.getD Θ)=.int .i64 n:=Cr A Z 4;have gy:=A6 Z 16;clear A D;refine yO ?_;go_simp;exact O _ _ (by show yl .i64 (IntKind.i64.wrap (ta:Int))=.int .i64 ta;rw[xA _ ω]) (yN _ _)
  |6,_,_=>clear cz bu cg cx ay ef;obtain rfl:=yP X;have d3:(a.tmps[35]?.getD Θ)=.slice lb 4 lc:=Cr A Z 3;have d5:(a.tmps[37]?.getD Θ)=.int .i64 ta:=Cr A Z 5;have gy:=A6 Z 16;clear A D;refine yO ?_;go_simp;exact O _ _ rfl (yN _ _)
  |9,_,_=>clear cz bu cg cx ay ef;obtain rfl:=yP X;have d8:(a.tmps[40]?.getD Θ)=.int .i64 n:=Cr A Z 8;have gy:=A6 Z 16;clear A D;refine yO ?_;go_simp;exact O _ _ (by show yl .i64 (Int.tmod (n:Int) 4)=.int .i64 tb;rw[wF ω];exact congrArg _ q2) (yN _ _)
  |11,_,_=>clear cz bu cg cx ay ef;obtain rfl:=yP X;have lp:Fc W1 (a.tmps[42]?.getD Θ) wx fy hX br1:=Cr A Z 10;have gy:=A6 Z 16;clear A D;refine yO ?_;go_simp;exact O _ _ lp (yN _ _)
  |12,_,_=>clear cz bu cg cx ay ef;obtain rfl:=yP X;have jj:Fc W1 (a.tmps[31]?.getD Θ) wx fy hX br1:=Cr A Z 11;have gy:=A6 Z 16;clear A D;obtain⟨m',i',e',c',jj,hO⟩:=jj;refine yO ?_;go_simp;exact O _ _ ⟨_,_,_,_,rfl,hO⟩ (yN _ _)
  |13,_,_|14,_,_=>clear cz bu cg cx ay ef;obtain rfl:=yP X;have jj:Fc W1 (a.tmps[31]?.getD Θ) wx fy hX br1:=Cr A Z 11;clear A D;obtain⟨m',i',e',c',jj,hO⟩:=jj;refine yO ?_;go_simp;exact O _ _ rfl (yN _ _)
  |15,_,_=>clear cz bu cg cx ay ef;obtain rfl:=yP X;have gy:=A6 Z 16;clear A D;refine yO ?_;go_simp;exact O _ _ ⟨_,rfl,Y.size,by rw[E9 ψ,gy];exact yy _ _⟩ (AG _ _)
  |_+19,hq,_=>omega
 .intro i hi hS o X a wx D ll A Z Y hb O
  match i,hi,hS with
  |0,_,z|1,_,z|2,_,z|3,_,z|4,_,z|5,_,z|6,_,z|7,_,z|8,_,z|9,_,z|10,_,z|11,_,z|12,_,z|13,_,z|14,_,z|15,_,z|17,_,z|18,_,z=>cases z
  |16,_,_=>
   obtain rfl:=yP X;have rE:KD W1 (ll 16) (a.tmps[9]?.getD Θ) wx fy:=Cr A Z 15;have gX:IG W1 (a.tmps[43]?.getD Θ) wx fy:=Cr A Z 12;clear A D;obtain⟨qb,rC,lR,cP⟩:=rE;rw[Z.1] at cP;replace cP:wx.heap[qb]?=some (.cells #[ι,ι,ι,ι] 28 (0,0)):=cP;obtain⟨m',i',e',c',gX,hO⟩:=gX;obtain⟨⟨va,vn,vc,rfl⟩,⟨wa,wn,wc,rfl⟩,⟨xa,xn,xc,rfl⟩,⟨ya,yn,yc,rfl⟩⟩:=hO.Dq;obtain⟨c0,mb,c2,c3⟩:=AH cP;have fq:=AK cP;have bf:=AA (Aq wx qb (.slice va vn vc) (.slice wa wn wc) (.slice xa xn xc) (.slice ya yn yc));have wy:=AA rC;have Hq:=AA cP;have HO:=AA hO;clear cP hO;refine yO ?_;go_simp;exact O Θ _ trivial (AM Y bf lR Y.size) (λj jx jw nq hu=>match j,jw with
    |0,_|1,_|2,_|3,_|4,_|5,_|6,_|7,_|8,_|9,_|13,_|14,_|16,_|17,_|18,_=>hu
    |10,_|11,_=>Fc.yV hu bf Hq.u
    |12,_=>IG.yV hu bf Hq.u
    |15,_=>⟨qb,wy.u,lR,by rw[Fh];exact⟨_,_,_,_,DP Hq.u,HO.yV bf Hq⟩⟩
    |_+19,hq=>absurd hq ω)
  |_+19,hq,_=>omega
 intro vs wx ll gv hR Y
 have ku:KD W1 (ll 16) (vs 15) wx fy:=Be hR 15;clear hR;simp only[DD,Bj,yL,yI,yJ,yH];simp;generalize vs 15=z15 at ku ⊢;obtain⟨qb,rfl,lR,cP⟩:=ku;rw[gv 16 ψ,if_pos rfl] at cP;obtain⟨m',i',e',c',hC,nH⟩:=cP;clear gv k0 k1 k2 k3 k4 k5 k6 DL;obtain⟨⟨va,vn,vc,rfl⟩,⟨wa,wn,wc,rfl⟩,⟨xa,xn,xc,rfl⟩,⟨ya,yn,yc,rfl⟩⟩:=nH.Dq;obtain⟨c0,mb,c2,c3⟩:=AH hC;have C4:=AA (C4 _ _ _ _ _ nH.rd);have HG:=AA Y;have st:=AA hC;clear Y hC nH;go_wp2_with fail;refine C4.mono ?_;rintro r w5 ⟨m2,i2,e2,CW,rfl,O2,b5⟩;obtain⟨⟨lN,lL,cg,rfl⟩,⟨mR,mU,mO,rfl⟩,⟨nV,nP,nS,rfl⟩,⟨mL,mF,mI,rfl⟩⟩:=O2.Dq;clear C4 c0 mb c2 c3;have Q5:=AB st b5;have fq:=AK Q5;obtain⟨z0,z1,z2,z3⟩:=AH Q5;have G6:=Aq w5 qb (.slice lN lL cg) (.slice mR mU mO) (.slice nV nP nS) (.slice mL mF mI);have I6:=((dg.below HG.u).below b5).kfar Q5 G6;have N5:=AB (AB HN HG.u) b5;have N6:=As N5 G6 (Ca Q5 N5);have K6:=O2.yV G6 Q5;have S6:=((HO.below HG.u).below b5).yV G6 Q5;have l5:lo<=w5.heap.size:=yM bP (yM lw (yM HG.size b5.size));have B6:=AM ((bt.trans (HG.mono (yM bP lw.u))).trans (b5.mono (yM bP (yM lw HG.size)))) G6 (by have:=bP.u;have:=lw.u;omega) l5;have Q6:=DP (m':=.slice lN lL cg) (i':=.slice mR mU mO) (e':=.slice nV nP nS) (c':=.slice mL mF mI) Q5;have l6:=yM l5 G6.size;have T6:=((HT.below HG.u).below b5).other G6 Q5 ψ;have pv:GH (.slice lN lL cg) (.slice ua un uc):=λj V L=>by obtain⟨us,r1⟩:=O2.1;have e1:=(yE r1.1 j V).1;have e2:=(yE HO.1 j L).2;have e3:=HG.size;omega
 have pt:GH (.slice gm 12 cm) (.slice ua un uc):=λj V L=>by obtain⟨us,r1⟩:=HI.own.ker.1;have e1:=(yE r1.1 j V).2;have e2:=(yE HO.1 j L).1;omega
 generalize hW6:(((w5.setCell _ _).setCell _ _).setCell _ _).setCell _ _=W6 at G6 I6 N6 K6 S6 B6 Q6 l6 T6;have I7:=I6.putSw (S6.lower bP.u) pt;have G7:=At W6 g 4 (.slice ua un uc);have K7:=K6.yV G7 I6.yU;have N7:=As N6 G7 ω;have Q7:=As Q6 G7 (Ca I6.yU Q6);have B7:=AM B6 G7 I6.yT l6;have l7:=yM l6 G7.size;have T7:=T6.fresh G7 (by have:=Hg.u;omega);obtain⟨_,_,_,_,a4,_⟩:=I6.cells;have fa:=AK I6.yU;generalize hW7:W6.setCell _ _=W7 at G7 I7 K7 N7 Q7 B7 l7 T7;have I8:=I7.putK (K7.lower (yM bP (yM lw HG.size))) pv;have G8:=Aq W7 g (.slice lN lL cg) (.slice mR mU mO) (.slice nV nP nS) (.slice mL mF mI);have N8:=As N7 G8 ω;have B8:=AM B7 G8 I7.yT l7;have l8:=yM l7 G8.size;have T8:=T7.fresh G8 (by have:=Hg.u;omega);obtain⟨d0,d1,d2,d3⟩:=AH Q7;obtain⟨t0,t1,t2,t3,_⟩:=I7.cells;have ft:=AK I7.yU;generalize hW8:(((W7.setCell _ _).setCell _ _).setCell _ _).setCell _ _=W8 at I8 G8 N8 B8 l8 T8;obtain⟨_,_,_,_,_,_,s6,_,_⟩:=I8.cells;obtain⟨na,f8,p0,p1,p2⟩:=I8.pg (n:=n) jV.u;have I9:=I8.zA (n:=n) kl.symm jV ⟨2,(sl:Int),false⟩;have N9:=As N8 I9.2.1 (by obtain⟨cu,gt⟩:=BB I8.own.pgs gq rfl;exact(Ca gt N8));have B9:=AM B8 I9.2.1 I9.2.2 l8;have l9:=yM l8 I9.2.1.size;obtain⟨lZ,f6⟩:=BB I8.own.pgs gq rfl;have T9:=T8.other I9.2.1 f6 ψ;have I9:=I9.1;generalize hW9:((W8.setCell _ _).setCell _ _).setCell _ _=W9 at I9 N9 B9 l9 T9;have oo:=AA T9;have iy:=AA (Bg N9 I9.own);obtain⟨x0,R,x2,x3,x4,x5,x6,x7,x8⟩:=I9.cells;obtain⟨r0,r1,r2,r3,r4,r5,r6,r7,r8⟩:=AC N9;have fr:=AK N9;have oy:=AA B9;have ob:=AA l9;clear T6 T7 T8 T9 I6 N5 N6 K6 S6 B6 Q6 l6 I7 K7 N7 Q7 B7 l7 I8 N8 B8 l8 I9 N9 B9 l9 pv pt O2 b5 Q5 G6 G7 G8 l5;go_wp2_with fail;obtain⟨kj,ki,ii⟩:=iy.u;have iT:=AM oy ii (by have:=HI.yT;omega) ob.u;have kh:=oo.fresh ii (by have:=Hg.u;omega);unfold De at kj ki iT kh;exact yB (v:=.agg #[_,_,_,_,_,_,_,_,_]) (by simp[results,Tryz.results203,go_sem,AC kj]) rfl ⟨⟨_,_,_,_,_,rfl,ki⟩,iT,kh⟩
structure XS(lo g qk:Nat)(w:Ω)(m i e c s l q:Φ)(P:AR)(mk ik ek ck:Φ)(kc:AQ):Prop where
 box:w.heap[g]?=some (.cells #[m,i,e,c,s,l,q,P.FV,P.U4] 32 (0,0))
 res:w.heap[g+1]?=some (.cells #[ι,ι,ι,ι,ι,ι,ι,θ,θ] 32 (0,0))
 kb:w.heap[qk]?=some (.cells #[mk,ik,ek,ck] 28 (0,0))
 own:EI lo w mk ik ek ck s l q {P with Ve:=kc}
 yT:lo<=g/\lo<=qk/\lo<=w.heap.size
section
variable {lo g qk:Nat} {w w1:Ω} {m i e c s l q mk ik ek ck:Φ} {P:AR} {kc:AQ}
theorem XS.below(h:XS lo g qk w m i e c s l q P mk ik ek ck kc)(K:Γ w w w1):XS lo g qk w1 m i e c s l q P mk ik ek ck kc:=
 ⟨AB h.box K,AB h.res K,AB h.kb K,h.own.below K,h.yT.1,h.yT.2.1,yM h.yT.2.2 K.size⟩
theorem XS.put{m' i' e' c':Φ}{k':AQ}(h:XS lo g qk w m i e c s l q P mk ik ek ck kc)(K:Γ w w w1)(HK:Dy w w1 m' i' e' c' k'):XS lo g qk (Fq w1 qk m' i' e' c') m i e c s l q P m' i' e' c' k':=by
 have h':=h.below K;have gr:=Aq w1 qk m' i' e' c';have F:=h'.own.yV gr h'.kb;refine⟨As h'.box gr (Ca h'.kb h'.box),As h'.res gr (Ca h'.kb h'.res),DP h'.kb,⟨(HK.yV gr h'.kb).lower h.yT.2.2,F.swp,F.low,F.pgs,λj V L=>?_⟩,h.yT.1,h.yT.2.1,yM h'.yT.2.2 gr.size⟩;obtain⟨us,r1⟩:=HK.1;obtain⟨vs,r2⟩:=h.own.swp;have e1:=(yE r1.1 j V).1;have e2:=(yE r2.1 j L).2;omega
theorem XS.swap{gs ij sl:Nat}{v':Φ}{r:List Int}(h:XS lo g qk w m i e c (.slice gs 16 ij) l q P mk ik ek ck kc)(hl:P.swap.length=16)(K:Γ w w w1)(hO:AE w w1 v' r)(z:sl<16):
 XS lo g qk (w1.setCell (gs,sl) v') m i e c (.slice gs 16 ij) l q {P with swap:=P.swap.set sl r} mk ik ek ck kc/\w1.grownBy (w1.setCell (gs,sl) v') (some gs)/\lo<=gs:=by
 obtain⟨vs,bp⟩:=h.own.swp;replace bp:Ay lo w (.slice gs 16 ij) vs P.swap:=bp;have ed:vs.length=16:=by rw[bp.2.1.1];exact hl
 have x1:=bp.set (B:=w.heap.size) (j:=sl) (r:=r) (v':=v') K hO (yF _) h.yT.2.2 ed.symm ω;have h':=h.below K;obtain⟨cu,gt⟩:=BB (bp.below K).1 gs rfl;obtain⟨B,hglo,⟨⟨⟨ms,k1,k2,k3⟩,k4,⟨ps,k5,k6,k7⟩,k8⟩,⟨us,hs'⟩,hlw,hp,kZ⟩⟩:True/\lo<=g/\EI lo w1 mk ik ek ck (.slice gs 16 ij) l q {P with Ve:=kc}:=⟨trivial,h'.yT.1,h'.own⟩;have hg:=x1.2;refine⟨⟨As h'.box hg (Ca gt h'.box),As h'.res hg (Ca gt h'.res),As h'.kb hg (Ca gt h'.kb),⟨⟨⟨ms,Av k1 hg kZ.ne,k2.mono λ_ _ x=>Av x hg (BK x hs'.1 ψ).ne,k3⟩,Av k4 hg (BK k4 hs'.1 ψ).ne,⟨ps,Av k5 hg (BK k5 hs'.1 ψ).ne,k6.mono λ_ _ x=>⟨Av x.1 hg (BK x.1 hs'.1 ψ).ne,x.2⟩,k7⟩,Av k8 hg (BK k8 hs'.1 ψ).ne⟩,⟨_,x1.1⟩,Av hlw hg (BK hlw hs'.1 ψ).ne,Av hp hg (BK hp hs'.1 ψ).ne,kZ⟩,h.yT.1,h.yT.2.1,yM h'.yT.2.2 hg.size⟩,hg,(yE bp.1 gs rfl).1⟩
theorem XS.back(h:XS lo g qk w m i e c s l q P mk ik ek ck kc):Hj lo g (Fq w g mk ik ek ck) mk ik ek ck s l q {P with Ve:=kc}/\(Fq w g mk ik ek ck).heap[g+1]?=some (.cells #[ι,ι,ι,ι,ι,ι,ι,θ,θ] 32 (0,0))/\w.grownBy (Fq w g mk ik ek ck) (some g):=by have gr:=Aq w g mk ik ek ck;exact⟨⟨KL h.box,h.yT.1,h.own.yV gr h.box⟩,As h.res gr ω,gr⟩
end
def V6(lo:Nat)(w:Ω)(s l q:Φ)(Q:AR)(r:Ending)(E:Ω):Prop:=(∃m i e c,r=.returned (.tuple #[AN m i e c s l q Q.FV Q.U4,τ])/\EI lo E m i e c s l q Q)/\Γ lo w E/\Fn w E
theorem bj{Q':AR}(h:Q=Q')(HK:EI lo W m i e c s l q Q')(B:Γ lo w W)(T:Fn w W):V6 lo w s l q Q (.returned (.tuple #[AN m i e c s l q Q'.FV Q'.U4,τ])) W:=by subst h;exact⟨⟨_,_,_,_,rfl,HK⟩,B,T⟩
theorem Zp (h:EI lo w mv iv ev cv sv lv qv P)(av:lo<=w.heap.size)(hP:Dz P)(hn:n<16)(hw:(AD P.XY n).w≠1)(iJ:0<=Ao P.Ve.ZJ):
 Ξ prog 204 #[AN mv iv ev cv sv lv qv P.FV P.U4,.int .i64 n] w (V6 lo w sv lv qv (Qi P n).1):=by
 obtain⟨k1,fr,cC,lW,kR⟩:∃k1 fr,Ad P.Ve (Ah 1 0 0 0)=(k1,fr,0)/\(0<=fr/\fr<=11)/\Dg k1:=by obtain⟨g1,_,_⟩:=GO (ZJ:=P.Ve.ZJ) ω;rw[hP.k.len] at g1;have hk:=F6 (kind:=1) (a:=0) (b:=0) (c:=0) hP.k;have e:=NF (k:=P.Ve) hP.may iJ (a:=0) (b:=0) (c:=0);rw[e] at hk;exact⟨_,_,e,⟨iJ,ω⟩,hk⟩
 have o7:=Xz (n:=n) cC;generalize gi:(Qi P n).1=QQ_;obtain⟨ta,ha⟩:∃a,a=n/4:=⟨_,rfl⟩
 obtain⟨tb,K⟩:∃b,b=n%4:=⟨_,rfl⟩
 obtain⟨la,hla⟩:∃la,la=Bf P.low ta:=⟨_,rfl⟩
 have q1:(n:Int)/4=(ta:Int):=ω;have q2:(n:Int)%4=(tb:Int):=ω;have nE:ta<4:=ω;have ro:(ta:Int)<4:=ω;have jb:(n:Int)<16:=ω;rw[o7] at gi;unfold JN at gi;rw[<-ha,<-K,<-hla] at gi;replace gi:=gi.symm;generalize hpx:AD P.XY n=x at gi hw;obtain⟨pw,pa,pu⟩:=x;dsimp only at gi hw;unfold V6 AN;obtain⟨N0,N1,ac,az⟩:=LF w (.cells #[mv,iv,ev,cv,sv,lv,qv,P.FV,P.U4] 32) (.cells #[ι,ι,ι,ι,ι,ι,ι,θ,θ] 32);have cp:=(⟨N0,av,h.below ac⟩:Hj lo w.heap.size _ mv iv ev cv sv lv qv P);obtain⟨⟨⟨ma,mn,mc,rfl⟩,⟨ia,iN,ic,rfl⟩,⟨ea,en,ec,rfl⟩,⟨ka,kn,kc,rfl⟩⟩,_,⟨kA,ky,lc,rfl⟩,_⟩:=h.Dq;obtain⟨hY,bp⟩:=h.swp;have ed:hY.length=16:=by rw[bp.2.1.1];exact hP.zN
 obtain⟨gs,sc,e1,_,_,_,_,_⟩:=bp.1.zW ω;rw[ed] at e1;subst e1;obtain⟨gq,qc,rfl,iW,jc,lU,kw,_⟩:=cp.page (n:=0) (by rw[hP.zY];omega);rw[hP.zY] at h cp N0 N1 ac az iW ⊢;have C1:=GK cp.own.ker.rd hP.k 1 0 0 0 ψ;unfold LR at C1;rw[cC] at C1;dsimp only at C1;rw[show((0:Int)==0)=true from rfl] at C1;obtain⟨k0,qA,k2,k3,_⟩:=cp.cells;have iO:=AA az;have jY:=AA N1;have HI:=AA cp;have iB:=AA av;have bP:=AA (yM av ac.size);have bw:=AA (ac.mono av);have iR:=AA ((Fn.refl w).below ac);have HP:=AA hP;have iZ:=AA lW;have jF:=AA kR;have jV:=AA (show n<P.XY.length by rw[hP.zY];exact hn);have kl:=AA hP.zY;have lB:=AA hP.zD;have s0:=AA hla.symm;have mg:=AA hpx;have mi:=AA gi;have wh:=AA C1;clear h av hP lW kR hla hpx gi cp N0 N1 ac az bp ed C1 cC o7 iW ha K iJ;go_in;go_wp2_with fail;generalize(w.alloc _).alloc _=W0 at*;generalize hg:w.heap.size=g at*;have Hg:=AA hg;clear hg;refine wh.mono ?_;rintro r w1 ⟨m1,i1,e1,c1,rfl,O1,b1⟩;obtain⟨⟨lO,lM,bu,rfl⟩,⟨mS,mV,mP,rfl⟩,⟨nW,nQ,nT,rfl⟩,⟨mM,mG,mJ,rfl⟩⟩:=O1.Dq;have I1:=HI.below b1;have bA:=AG w1 (.cells #[.slice lO lM bu,.slice mS mV mP,.slice nW nQ nT,.slice mM mG mJ] 28);have I2:=I1.below bA;obtain⟨_,_,_,_,_,_,x6,_,_⟩:=I2.cells;obtain⟨cP,f2,p0,p1,p2⟩:=I2.pg (n:=n) jV.u;rw[mg.u] at p0 p1 p2;dsimp only at p0 p1 p2;obtain⟨NA,NB,nZ,_⟩:=LF w1 (.cells #[.slice lO lM bu,.slice mS mV mP,.slice nW nQ nT,.slice mM mG mJ] 28) (.cells #[pw,pa,pu] 87);have jp:=b1.trans (nZ.mono b1.size);have kZ:GH (.slice lO lM bu) (.slice gs 16 sc):=λj V L=>by obtain⟨us,r1⟩:=O1.1;obtain⟨vs,r2⟩:=HI.own.swp;have e1:=(yE r1.1 j V).1;have e2:=(yE r2.1 j L).2;omega
 have I4:=AA (⟨AB HI.yU jp,AB jY jp,NA,⟨(O1.below nZ).lower bP.u,⟨_,HI.own.swp.choose_spec.below jp⟩,AE.below HI.own.low jp,AP.below HI.own.pgs jp,kZ⟩,HI.yT,yM bP b1.size,yM bP jp.size⟩:XS lo g w1 _ _ _ _ _ _ _ _ P _ _ _ _ k1);have gj:=AA (bw.trans (jp.mono bP.u));have mh:=AA (iR.below jp);have mj:=AA NB;clear I1 bA I2 NA NB nZ jp kZ O1 b1 k0 qA k2 k3;go_wp2_with fail;generalize(w1.alloc _).alloc _=W3 at*;generalize w1.heap.size=qk at*;obtain⟨qx,lQ⟩:∃qx,qx=qk+1:=⟨_,rfl⟩
 rw[<-lQ] at mj ⊢;clear lQ x6 p0 p1 p2 f2 cP;obtain⟨mk,ik,ek,ck,I4⟩:∃mk ik ek ck,dv (XS lo g qk W3 (.slice ma mn mc) (.slice ia iN ic) (.slice ea en ec) (.slice ka kn kc) (.slice gs 16 sc) (.slice kA ky lc) (.slice gq 16 qc) P mk ik ek ck k1):=⟨_,_,_,_,I4⟩
 by_cases fk:pw=2
 focus
  subst fk;have gi:=mi.u;rw[if_pos rfl,if_pos rfl] at gi;obtain⟨sl,gg,gk,bE⟩:∃sl:Nat,pa=(sl:Int)/\sl<16/\EW (AJ P.swap sl)=true:=by
   rcases HP.XY n (by have:=jV.u;have:=kl.u;omega) with⟨x,_⟩|⟨x,_⟩|⟨R,x2,x3,x4,x5⟩
   .rw[mg.u] at x;exact absurd x (ψ:¬(2:Int)=0)
   .rw[mg.u] at x;exact absurd x (ψ:¬(2:Int)=1)
   rw[mg.u] at x2 x3
   refine⟨pa.toNat,by have:=x2.1;simp only at this;omega,by have:=x2.2;simp only at this;omega,?_⟩
   rcases HP.zF pa.toNat (by have:=x2.2;simp only at this;omega) with x|x
   .exact absurd x x3
   exact x
  subst gg;rw[yq] at gi;have HQ:=AA gi;have il:=AA (BG.1 bE);have m0:(sl:Int)<16:=ω;clear gi mi bE;go_loopw [10] (λix wr=>∃j:Nat,j<=4/\ix=.int .i64 j/\(∃mk ik ek ck,XS lo g qk wr (.slice ma mn mc) (.slice ia iN ic) (.slice ea en ec) (.slice ka kn kc) (.slice gs 16 sc) (.slice kA ky lc) (.slice gq 16 qc) P mk ik ek ck (ID k1 fr (AJ P.swap sl) j))/\wr.heap[qx]?=some (.cells #[.int .i64 2,sl,pu] 87 (0,0))/\Γ lo w wr/\Fn w wr) (λix _=>4 - (intOf ix).toNat)
  case atStart=>exact⟨0,ω,rfl,⟨_,_,_,_,I4.u⟩,mj.u,gj.u,mh.u⟩
  case' round=>
   clear I4 mj gj mh;obtain⟨j,hj,rfl,⟨mk,ik,ek,ck,I5⟩,j3,B5,T5⟩:=hrel;obtain⟨⟨⟨ua,un,uc,rfl⟩,⟨va,vn,vc,rfl⟩,⟨ya,yn,yc,rfl⟩,⟨za,zn,zc,rfl⟩⟩,_,_⟩:=I5.own.Dq;obtain⟨hY,bp⟩:=I5.own.swp;replace bp:Ay lo wr (.slice gs 16 sc) hY P.swap:=bp;have ed:hY.length=16:=by rw[bp.2.1.1];exact HP.zN
   obtain⟨gr,rc,hu,ge,_,_⟩:=bp.row (f:=sl) (by rw[HP.zN];exact gk) (by rw[il.1];decide);rw[il.1] at hu ge;have DS:=AP.zJ Ej (by rw[ed];exact bp.1) hu 0 _ rfl;rw[wX,xT] at DS;obtain⟨_,_,_,_,x4,_⟩:=AC I5.box;obtain⟨lK,mA,_⟩:=Gm j3;have jm:=AA I5;have n8:=AA j3;have fs:=AA B5;have pE:=AA T5;clear T5
   by_cases ao:j<4
   .have jx:(j:Int)<4:=ω
    have DW:wr.cell? (gr,j)=some (.int .i64 ((AJ P.swap sl).getD j 0)):=by have:=xN (show wr.ownsRow lo 3 1 (.slice gr 4 rc) 4 ((AJ P.swap sl).map (yl .i64)) by have:=ge;unfold AE at this;rwa [il.1] at this) j ao;rw[this,xq,A9 (d:=0) (by rw[il.1];exact ao)];rfl
    have kC:(AJ P.swap sl).getD j 0<=9223372036854775807:=by have:=(il.2 _ (Dl (d:=0) (show j<(AJ P.swap sl).length by rw[il.1];exact ao))).2;omega
    have ly:=AA (Lk (k:=k1) (f:=fr) (ws:=AJ P.swap sl) (j:=j));have RK:=I5.own.ker.rd;have CM:=λW (hW:Γ wr wr W)=>GK (RK.below hW) (Lj jF (f:=fr) (ws:=AJ P.swap sl) j) 3 fr (j:Int) ((AJ P.swap sl).getD j 0) kC
    have ng:g≠qk:=Ca I5.box I5.kb;have nx:qx≠qk:=Ca j3 I5.kb;have ns:gs≠qk:=by obtain⟨cu,gt⟩:=BB bp.1 gs rfl;exact Ca gt I5.kb
    have nr:gr≠qk:=by obtain⟨cu,gt⟩:=BB ge gr rfl;exact Ca gt I5.kb
    have iI:=AY I5.box;have lQ:=AY j3;have nv:=(yE bp.1 gs rfl).2;have ny:=(yE ge gr rfl).2;have hC:=I5.kb;have it:=AY hC;obtain⟨n0,n1,n2,n3⟩:=AH hC;generalize(AJ P.swap sl).getD j 0=wd at*;generalize Ad (ID k1 fr (AJ P.swap sl) j) (Ah 3 fr (j:Int) wd)=res1 at CM ly;obtain⟨fy,hX,ql⟩:=res1;unfold LR at CM;dsimp only at CM ly;generalize(ql==0)=br1 at CM;replace CM:=AA CM;clear RK kC bp hu ge ed I5 j3 B5 hj;go_wp2_with fail;refine Cv 18 86 (λix=>ix==17) [.a #[.slice ua un uc,.slice va vn vc,.slice ya yn yc,.slice za zn zc],.i fr,.i ((j:Int)),.p g 4,.s gs 16 sc,.p qx 1,.i ((sl:Int)),.p gs sl,.s gr 4 rc,.i ((j:Int)),.p gr j,.i wd,.z,.z,.z,.i hX,.b br1,.z] (λll ix vv ww=>match ix with
     |12|13=>Fc wr vv ww fy hX br1
     |14=>IG wr vv ww fy
     |_=>True) (λll ww=>GB wr (qk) fy (ll 17) ww) ?_ ?_ ?_ ?_ ?_ ?_
    .exact Ai (yN _ _) 1
    .intro j hj ll i vv wz iU hi hS lh o5 gh hz
     match j,hj with
     |12,_|13,_=>exact(Fc.below hz gh)
     |14,_=>exact(IG.below hz gh)
     |0,_|1,_|2,_|3,_|4,_|5,_|6,_|7,_|8,_|9,_|10,_|11,_|15,_|16,_|17,_=>exact hz
     |_+18,hq=>omega
    .intro ll i wz iU hi hS lh gh hg
     show GB _ _ _ (Hh ll i 17) _
     rw[E9 (by rintro rfl;cases hS)];exact GB.grow hg gh
    .intro i hi hS o X a wx D ll A Z Y hb O
     match i,hi,hS with
     |0,_,_=>have i8:=A6 Z 17;have cz:=(show wx.cell? qk=some (.slice ua un uc) from GB.cell Y (by cases hx:ll 17 with|false=>rfl|true=>exact absurd (Z.2.2 12 0 (Z.2.2 13 12 (Z.2.2 14 13 (Z.2.2 17 14 (hx) φ) φ) φ) φ) (by rw[Z.1];decide)) it n0);have bu:=(show wx.cell? (qk,1)=some (.slice va vn vc) from GB.cell Y (by cases hx:ll 17 with|false=>rfl|true=>exact absurd (Z.2.2 12 0 (Z.2.2 13 12 (Z.2.2 14 13 (Z.2.2 17 14 (hx) φ) φ) φ) φ) (by rw[Z.1];decide)) it n1);have cg:=(show wx.cell? (qk,2)=some (.slice ya yn yc) from GB.cell Y (by cases hx:ll 17 with|false=>rfl|true=>exact absurd (Z.2.2 12 0 (Z.2.2 13 12 (Z.2.2 14 13 (Z.2.2 17 14 (hx) φ) φ) φ) φ) (by rw[Z.1];decide)) it n2);have cx:=(show wx.cell? (qk,3)=some (.slice za zn zc) from GB.cell Y (by cases hx:ll 17 with|false=>rfl|true=>exact absurd (Z.2.2 12 0 (Z.2.2 13 12 (Z.2.2 14 13 (Z.2.2 17 14 (hx) φ) φ) φ) φ) (by rw[Z.1];decide)) it n3);exact Kf X O D A Z (hl:=Pi ‹_› ‹_› ‹_› ‹_›)
     |1,_,_|2,_,_|3,_,_|5,_,_|9,_,_=>exact Tj X O D A Z
     |4,_,_=>have i8:=A6 Z 17;have ay:=(show wx.cell? (g,4)=some (.slice gs 16 sc) from GB.other Y iI ng x4);exact Kf X O D A Z (hl:=GR ‹_›)
     |6,_,_=>have i8:=A6 Z 17;have ef:=(show wx.cell? (qx,1)=some (.int .i64 sl) from GB.other Y lQ nx mA);exact Kf X O D A Z (hl:=F7 ‹_›)
     |8,_,_=>have i8:=A6 Z 17;have jr:=(show wx.cell? (gs,sl)=some (.slice gr 4 rc) from GB.other Y nv ns DS);exact Kf X O D A Z (hl:=K5 ‹_›)
     |11,_,_=>have i8:=A6 Z 17;have j2:=(show wx.cell? (gr,j)=some (.int .i64 wd) from GB.other Y ny nr DW);exact Kf X O D A Z (hl:=F7 ‹_›)
     |17,_,z=>cases z
     |7,_,_=>obtain rfl:=yP X;have d4:(a.tmps[40]?.getD Θ)=.slice gs 16 sc:=Cr A Z 4;have d6:(a.tmps[42]?.getD Θ)=.int .i64 sl:=Cr A Z 6;have i8:=A6 Z 17;clear A D;refine yO ?_;go_simp;exact O _ _ rfl (yN _ _)
     |10,_,_=>obtain rfl:=yP X;have d8:(a.tmps[44]?.getD Θ)=.slice gr 4 rc:=Cr A Z 8;have d9:(a.tmps[45]?.getD Θ)=.int .i64 j:=Cr A Z 9;have i8:=A6 Z 17;clear A D;refine yO ?_;go_simp;exact O _ _ rfl (yN _ _)
     |12,_,_=>
      obtain rfl:=yP X;have d0:(a.tmps[36]?.getD Θ)=.agg #[.slice ua un uc,.slice va vn vc,.slice ya yn yc,.slice za zn zc]:=Cr A Z 0;have d1:(a.tmps[37]?.getD Θ)=.int .i64 fr:=Cr A Z 1;have d2:(a.tmps[38]?.getD Θ)=.int .i64 j:=Cr A Z 2;have jj:(a.tmps[47]?.getD Θ)=.int .i64 wd:=Cr A Z 11;have i8:=A6 Z 17;clear A D;refine yO ?_;go_simp;have li:Γ wr wr wx:=by
       rw[show ll 17=false from(by cases hx:ll 17 with|false=>rfl|true=>exact absurd (Z.2.2 13 12 (Z.2.2 14 13 (Z.2.2 17 14 (hx) φ) φ) φ) (by rw[Z.1];decide))] at Y;exact Y
      refine(CM _ li).mono ?_;rintro r w_ ⟨m',i',e',c',rfl,hO,fn⟩;exact O _ _ ⟨m',i',e',c',rfl,hO.lower li.size⟩ fn
     |13,_,_=>obtain rfl:=yP X;have gX:Fc wr (a.tmps[48]?.getD Θ) wx fy hX br1:=Cr A Z 12;have i8:=A6 Z 17;clear A D;refine yO ?_;go_simp;exact O _ _ gX (yN _ _)
     |14,_,_=>obtain rfl:=yP X;have jA:Fc wr (a.tmps[35]?.getD Θ) wx fy hX br1:=Cr A Z 13;have i8:=A6 Z 17;clear A D;obtain⟨m',i',e',c',jA,hO⟩:=jA;refine yO ?_;go_simp;exact O _ _ ⟨_,_,_,_,rfl,hO⟩ (yN _ _)
     |15,_,_|16,_,_=>obtain rfl:=yP X;have jA:Fc wr (a.tmps[35]?.getD Θ) wx fy hX br1:=Cr A Z 13;clear A D;obtain⟨m',i',e',c',jA,hO⟩:=jA;refine yO ?_;go_simp;exact O _ _ rfl (yN _ _)
     |_+18,hq,_=>omega
    .intro i hi hS o X a wx D ll A Z Y hb O
     match i,hi,hS with
     |0,_,z|1,_,z|2,_,z|3,_,z|4,_,z|5,_,z|6,_,z|7,_,z|8,_,z|9,_,z|10,_,z|11,_,z|12,_,z|13,_,z|14,_,z|15,_,z|16,_,z=>cases z
     |17,_,_=>
      obtain rfl:=yP X;have e6:a.tmps[6]?.getD Θ=.pointer qk:=eg (OF D 6);have kg:IG wr (a.tmps[49]?.getD Θ) wx fy:=Cr A Z 14;clear A D;rw[Z.1] at Y;replace Y:Γ wr wr wx:=Y;obtain⟨m',i',e',c',kg,hO⟩:=kg;obtain⟨⟨va,vn,vc,rfl⟩,⟨wa,wn,wc,rfl⟩,⟨xa,xn,xc,rfl⟩,⟨ya,yn,yc,rfl⟩⟩:=hO.Dq;have cP:=AB hC Y;obtain⟨c0,mb,c2,c3⟩:=AH cP;have fq:=AK cP;have bf:=AA (Aq wx (qk) (.slice va vn vc) (.slice wa wn wc) (.slice xa xn xc) (.slice ya yn yc));have Hq:=AA cP;have HO:=AA hO;clear cP hO;refine yO ?_;go_simp;exact O Θ _ trivial (by show GB _ _ _ (Hh ll 17 17) _;rw[Fh];exact⟨wx,_,_,_,_,Y,HO.u,yN _ _⟩) (λj jx jw nq hu=>match j,jw with
       |0,_|1,_|2,_|3,_|4,_|5,_|6,_|7,_|8,_|9,_|10,_|11,_|15,_|16,_=>hu
       |12,_|13,_=>Fc.yV hu bf Hq.u
       |14,_=>IG.yV hu bf Hq.u
       |17,_=>absurd rfl jx
       |_+18,hq=>absurd hq ω)
     |_+18,hq,_=>omega
    intro vs wx ll gv hR Y
    have ku:(vs 15)=.int .i64 hX:=Be hR 15;clear hR;simp only[DD,Bj,yL,yI,yJ,yH,ku];simp;clear ku;rw[gv 17 ψ] at Y;obtain⟨wz,m3,i3,e3,c3,f4,hO,jt⟩:=Y;have eL:Γ (Fq wz qk m3 i3 e3 c3).heap.size (Fq wz qk m3 i3 e3 c3) wx:=by simpa[Fq] using jt
    have I7:=AA ((jm.put f4 hO).below eL);have l6:=jm.yT.2.2;have B7:=AA (fs.trans ((AM (f4.mono l6) (Aq wz qk m3 i3 e3 c3) jm.yT.2.1 (yM l6 f4.size):Γ lo wr _).trans (eL.mono (yM l6 (yM f4.size (Aq wz qk m3 i3 e3 c3).size)))));have X7:=AA (AB (As (AB n8 f4) (Aq wz qk m3 i3 e3 c3) nx.symm) eL);have T7:=AA (((pE.below f4).other (Aq wz qk m3 i3 e3 c3) (AB hC f4) ψ).below eL);clear gv f4 jt eL hO hC it n0 n1 n2 n3 CM jm n8 fs x4 lK mA DS DW;go_wp2;go_roundw;exact⟨j+1,ω,ξ,⟨_,_,_,_,by rw[ly.u];exact I7.u⟩,X7.u,B7.u,T7.u⟩;simp[intOf];omega
   obtain rfl:j=4:=ω;rw[show((4:Nat):Int)=4 from rfl];have ho:=I5.swap (r:=[]) HP.zN (AG wr (.cells #[] 3)) (GD wr) gk;have I6:=AA ho.1;have B6:=AA (AM (B5.trans ((AG wr (.cells #[] 3)).mono I5.yT.2.2)) ho.2.1 ho.2.2 (yM I5.yT.2.2 (AG wr (.cells #[] 3)).size));have ko:=AA (Lj jF (f:=fr) (ws:=AJ P.swap sl) 4);have D4:=((AG wr (.cells #[] 3)).cell (yK _ _ DS)).trans DS;have F4:=xV (show(wr.alloc (.cells #[] 3)).ownsRow lo 29 1 (.slice gs 16 sc) 16 hY by have:=(bp.below (AG wr (.cells #[] 3))).1;unfold AP at this;rwa [IM,ed] at this) sl;obtain⟨lZ,f6⟩:=BB (bp.below (AG wr (.cells #[] 3))).1 gs rfl;have T6:=AA ((pE.below (AG wr (.cells #[] 3))).other ho.2.1 f6 ψ);generalize hW6:World.setCell _ _ _=W6 at I6 B6 T6;clear ho bp hu ge ed I5 j3 B5 hj jm n8 fs;go_wp2_with fail;clear D4 F4 DS x4 lK mA hW6;have hQ:QQ_= {P with Ve:=(Ad (ID k1 fr (AJ P.swap sl) 4) (Ah 6 la (tb:Int) (Ii fr))).1,swap:=P.swap.set sl [],XY:=P.XY.set n ⟨1,fr,true⟩}:=HQ.u;clear HQ;obtain⟨mk,ik,ek,ck,I6⟩:∃mk ik ek ck,dv (XS lo g qk W6 (.slice ma mn mc) (.slice ia iN ic) (.slice ea en ec) (.slice ka kn kc) (.slice gs 16 sc) (.slice kA ky lc) (.slice gq 16 qc) ⟨P.Ve,P.swap.set sl [],P.low,P.XY,P.FV,P.U4⟩ mk ik ek ck (ID k1 fr (AJ P.swap sl) 4)):=⟨_,_,_,_,I6⟩
   generalize ID k1 fr (AJ P.swap sl) 4=K2 at*;generalize P.swap.set sl []=S2 at*
 rotate_left
 focus
  have gi:=mi.u;rw[if_neg fk,if_neg fk] at gi;have t2:(pw==2)=false:=by simp[fk]
  have HQ:=AA gi;have ko:=jF;have I6:=I4;have B6:=gj;have T6:=mh;obtain⟨lK,_,_⟩:=Gm mj.u;clear gi mi fk I4 gj mh;refine wp_loop_rounds 1 ?_;rw[rounds_succ];go_wp2_with fail;obtain⟨W6,rfl⟩:∃W6,W6=W3:=⟨_,rfl⟩
  clear lK;have hQ:QQ_= {P with Ve:=(Ad (k1) (Ah 6 la (tb:Int) (Ii fr))).1,swap:=P.swap,XY:=P.XY.set n ⟨1,fr,true⟩}:=HQ.u;clear HQ;obtain⟨mk,ik,ek,ck,I6⟩:∃mk ik ek ck,dv (XS lo g qk W6 (.slice ma mn mc) (.slice ia iN ic) (.slice ea en ec) (.slice ka kn kc) (.slice gs 16 sc) (.slice kA ky lc) (.slice gq 16 qc) ⟨P.Ve,P.swap,P.low,P.XY,P.FV,P.U4⟩ mk ik ek ck (k1)):=⟨_,_,_,_,I6⟩
  obtain⟨K2,rfl⟩:∃K2,K2=k1:=⟨_,rfl⟩
  generalize P.swap=S2 at hQ I6
 all_goals
  obtain⟨⟨⟨ua,un,uc,rfl⟩,⟨va,vn,vc,rfl⟩,⟨ya,yn,yc,rfl⟩,⟨za,zn,zc,rfl⟩⟩,_,_⟩:=I6.own.Dq;obtain⟨lb,qt,lk,iX,DL⟩:=LA I6.own.low (j:=ta) (by show ta<P.low.length;rw[lB.u];exact nE);replace lk:xv kA ky lc=.slice lb P.low.length qt:=lk;rw[lB.u] at lk;simp only[Value.slice.injEq] at lk;obtain⟨rfl,rfl,rfl⟩:=lk;replace DL:W6.cell? (lb,ta)=some (.int .i64 (Bf P.low ta)):=DL;rw[s0.u] at DL;have nl:lb≠qk:=by obtain⟨cu,gt⟩:=BB I6.own.low lb rfl;exact Ca gt I6.kb
  have ng:g≠qk:=Ca I6.box I6.kb;have iI:=AY I6.box;have hC:=I6.kb;have it:=AY hC;obtain⟨n0,n1,n2,n3⟩:=AH hC;obtain⟨_,_,_,_,_,x5,_,_,_⟩:=AC I6.box;have he:Ii fr<=9223372036854775807:=by have:=iZ.u;unfold Ii;omega
  have CP:=AA (λW=>Ms fr W iZ.1 iZ.2);have RK:Nk W6 _ _ _ _ (K2):=I6.own.ker.rd;have CM:=λW (hW:Γ W6 W6 W)=>GK (RK.below hW) ko 6 la (tb:Int) (Ii fr) he
  generalize Ii fr=en_ at he CP CM hQ;generalize Ad (K2) (Ah 6 la (tb:Int) en_)=res2 at CM hQ;obtain⟨js,jG,qj⟩:=res2;unfold LR at CM;dsimp only at CM hQ;have HQ:=AA hQ;clear hQ;generalize(qj==0)=br2 at CM;replace CM:=AA CM;clear RK he;go_wp2_with fail;refine Cv 17 86 (λix=>ix==16) [.a #[.slice ua un uc,.slice va vn vc,.slice ya yn yc,.slice za zn zc],.p g 5,.s lb 4 lc,.i ((n:Int)),.i ((ta:Int)),.p lb ta,.i la,.i ((n:Int)),.i ((tb:Int)),.i fr,.i en_,.z,.z,.z,.i jG,.b br2,.z] (λll ix vv ww=>match ix with
   |11|12=>Fc W6 vv ww js jG br2
   |13=>IG W6 vv ww js
   |_=>True) (λll ww=>GB W6 (qk) js (ll 16) ww) ?_ ?_ ?_ ?_ ?_ ?_
  .exact Ai (yN _ _) 1
  .intro j hj ll i vv wz iU hi hS lh o5 gh hz
   match j,hj with
   |11,_|12,_=>exact(Fc.below hz gh)
   |13,_=>exact(IG.below hz gh)
   |0,_|1,_|2,_|3,_|4,_|5,_|6,_|7,_|8,_|9,_|10,_|14,_|15,_|16,_=>exact hz
   |_+17,hq=>omega
  .intro ll i wz iU hi hS lh gh hg
   show GB _ _ _ (Hh ll i 16) _
   rw[E9 (by rintro rfl;cases hS)];exact GB.grow hg gh
  .intro i hi hS o X a wx D ll A Z Y hb O
   match i,hi,hS with
   |0,_,_=>have gy:=A6 Z 16;have cz:=(show wx.cell? qk=some (.slice ua un uc) from GB.cell Y (by cases hx:ll 16 with|false=>rfl|true=>exact absurd (Z.2.2 11 0 (Z.2.2 12 11 (Z.2.2 13 12 (Z.2.2 16 13 (hx) φ) φ) φ) φ) (by rw[Z.1];decide)) it n0);have bu:=(show wx.cell? (qk,1)=some (.slice va vn vc) from GB.cell Y (by cases hx:ll 16 with|false=>rfl|true=>exact absurd (Z.2.2 11 0 (Z.2.2 12 11 (Z.2.2 13 12 (Z.2.2 16 13 (hx) φ) φ) φ) φ) (by rw[Z.1];decide)) it n1);have cg:=(show wx.cell? (qk,2)=some (.slice ya yn yc) from GB.cell Y (by cases hx:ll 16 with|false=>rfl|true=>exact absurd (Z.2.2 11 0 (Z.2.2 12 11 (Z.2.2 13 12 (Z.2.2 16 13 (hx) φ) φ) φ) φ) (by rw[Z.1];decide)) it n2);have cx:=(show wx.cell? (qk,3)=some (.slice za zn zc) from GB.cell Y (by cases hx:ll 16 with|false=>rfl|true=>exact absurd (Z.2.2 11 0 (Z.2.2 12 11 (Z.2.2 13 12 (Z.2.2 16 13 (hx) φ) φ) φ) φ) (by rw[Z.1];decide)) it n3);exact Kf X O D A Z (hl:=Pi ‹_› ‹_› ‹_› ‹_›)
   |1,_,_|3,_,_|7,_,_|9,_,_=>exact Tj X O D A Z
   |2,_,_=>have gy:=A6 Z 16;have ay:=(show wx.cell? (g,5)=some (.slice lb 4 lc) from GB.other Y iI ng x5);exact Kf X O D A Z (hl:=K5 ‹_›)
   |6,_,_=>have gy:=A6 Z 16;have ef:=(show wx.cell? (lb,ta)=some (.int .i64 la) from GB.other Y iX nl DL);exact Kf X O D A Z (hl:=F7 ‹_›)
   |16,_,z=>cases z
   |4,_,_=>obtain rfl:=yP X;have d3:(a.tmps[65]?.getD Θ)=.int .i64 n:=Cr A Z 3;have gy:=A6 Z 16;clear A D;refine yO ?_;go_simp;exact O _ _ (by show yl .i64 (IntKind.i64.wrap (ta:Int))=.int .i64 ta;rw[xA _ ω]) (yN _ _)
   |5,_,_=>obtain rfl:=yP X;have d2:(a.tmps[64]?.getD Θ)=.slice lb 4 lc:=Cr A Z 2;have d4:(a.tmps[66]?.getD Θ)=.int .i64 ta:=Cr A Z 4;have gy:=A6 Z 16;clear A D;refine yO ?_;go_simp;exact O _ _ rfl (yN _ _)
   |8,_,_=>obtain rfl:=yP X;have d7:(a.tmps[69]?.getD Θ)=.int .i64 n:=Cr A Z 7;have gy:=A6 Z 16;clear A D;refine yO ?_;go_simp;exact O _ _ (by show yl .i64 (Int.tmod (n:Int) 4)=.int .i64 tb;rw[wF ω];exact congrArg _ q2) (yN _ _)
   |10,_,_=>obtain rfl:=yP X;have d9:(a.tmps[71]?.getD Θ)=.int .i64 fr:=Cr A Z 9;have gy:=A6 Z 16;clear A D;refine yO ?_;go_simp;refine(CP _).mono ?_;rintro r w_ ⟨rfl,fn⟩;exact O _ _ rfl fn
   |11,_,_=>
    obtain rfl:=yP X;have d0:(a.tmps[62]?.getD Θ)=.agg #[.slice ua un uc,.slice va vn vc,.slice ya yn yc,.slice za zn zc]:=Cr A Z 0;have d6:(a.tmps[68]?.getD Θ)=.int .i64 la:=Cr A Z 6;have d8:(a.tmps[70]?.getD Θ)=.int .i64 tb:=Cr A Z 8;have lp:(a.tmps[72]?.getD Θ)=.int .i64 en_:=Cr A Z 10;have gy:=A6 Z 16;clear A D;refine yO ?_;go_simp;have li:Γ W6 W6 wx:=by
     rw[show ll 16=false from(by cases hx:ll 16 with|false=>rfl|true=>exact absurd (Z.2.2 12 11 (Z.2.2 13 12 (Z.2.2 16 13 (hx) φ) φ) φ) (by rw[Z.1];decide))] at Y;exact Y
    refine(CM _ li).mono ?_;rintro r w_ ⟨m',i',e',c',rfl,hO,fn⟩;exact O _ _ ⟨m',i',e',c',rfl,hO.lower li.size⟩ fn
   |12,_,_=>obtain rfl:=yP X;have jj:Fc W6 (a.tmps[73]?.getD Θ) wx js jG br2:=Cr A Z 11;have gy:=A6 Z 16;clear A D;refine yO ?_;go_simp;exact O _ _ jj (yN _ _)
   |13,_,_=>obtain rfl:=yP X;have gX:Fc W6 (a.tmps[61]?.getD Θ) wx js jG br2:=Cr A Z 12;have gy:=A6 Z 16;clear A D;obtain⟨m',i',e',c',gX,hO⟩:=gX;refine yO ?_;go_simp;exact O _ _ ⟨_,_,_,_,rfl,hO⟩ (yN _ _)
   |14,_,_|15,_,_=>obtain rfl:=yP X;have gX:Fc W6 (a.tmps[61]?.getD Θ) wx js jG br2:=Cr A Z 12;clear A D;obtain⟨m',i',e',c',gX,hO⟩:=gX;refine yO ?_;go_simp;exact O _ _ rfl (yN _ _)
   |_+17,hq,_=>omega
  .intro i hi hS o X a wx D ll A Z Y hb O
   match i,hi,hS with
   |0,_,z|1,_,z|2,_,z|3,_,z|4,_,z|5,_,z|6,_,z|7,_,z|8,_,z|9,_,z|10,_,z|11,_,z|12,_,z|13,_,z|14,_,z|15,_,z=>cases z
   |16,_,_=>
    obtain rfl:=yP X;have e6:a.tmps[6]?.getD Θ=.pointer qk:=eg (OF D 6);have jA:IG W6 (a.tmps[74]?.getD Θ) wx js:=Cr A Z 13;clear A D;rw[Z.1] at Y;replace Y:Γ W6 W6 wx:=Y;obtain⟨m',i',e',c',jA,hO⟩:=jA;obtain⟨⟨va,vn,vc,rfl⟩,⟨wa,wn,wc,rfl⟩,⟨xa,xn,xc,rfl⟩,⟨ya,yn,yc,rfl⟩⟩:=hO.Dq;have cP:=AB hC Y;obtain⟨c0,mb,c2,c3⟩:=AH cP;have fq:=AK cP;have bf:=AA (Aq wx (qk) (.slice va vn vc) (.slice wa wn wc) (.slice xa xn xc) (.slice ya yn yc));have Hq:=AA cP;have HO:=AA hO;clear cP hO;refine yO ?_;go_simp;exact O Θ _ trivial (by show GB _ _ _ (Hh ll 16 16) _;rw[Fh];exact⟨wx,_,_,_,_,Y,HO.u,yN _ _⟩) (λj jx jw nq hu=>match j,jw with
     |0,_|1,_|2,_|3,_|4,_|5,_|6,_|7,_|8,_|9,_|10,_|14,_|15,_=>hu
     |11,_|12,_=>Fc.yV hu bf Hq.u
     |13,_=>IG.yV hu bf Hq.u
     |16,_=>absurd rfl jx
     |_+17,hq=>absurd hq ω)
   |_+17,hq,_=>omega
  intro vs wx ll gv hR Y
  have jq:(vs 14)=.int .i64 jG:=Be hR 14;clear hR;simp only[DD,Bj,yL,yI,yJ,yH,jq];simp;clear jq;rw[gv 16 ψ] at Y;obtain⟨wz,m3,i3,e3,c3,f4,hO,jt⟩:=Y;have eL:Γ (Fq wz qk m3 i3 e3 c3).heap.size (Fq wz qk m3 i3 e3 c3) wx:=by simpa[Fq] using jt
  have I7:=(I6.put f4 hO).below eL;have l6:=I6.yT.2.2;have B7:=B6.trans ((AM (f4.mono l6) (Aq wz qk m3 i3 e3 c3) I6.yT.2.1 (yM l6 f4.size):Γ lo W6 _).trans (eL.mono (yM l6 (yM f4.size (Aq wz qk m3 i3 e3 c3).size))));have T7:=((T6.below f4).other (Aq wz qk m3 i3 e3 c3) (AB I6.kb f4) ψ).below eL;obtain⟨⟨⟨mD,mC,cx,rfl⟩,⟨mQ,mT,mN,rfl⟩,⟨nU,nO,nR,rfl⟩,⟨mK,mE,mH,rfl⟩⟩,_,_⟩:=I7.own.Dq;clear gv f4 jt eL hO hC it n0 n1 n2 n3 CM CP x5 DL nl ng iX I6 B6;have X8:=I7.back;have B8:=AM B7 X8.2.2 I7.yT.1 I7.yT.2.2;have l8:=yM I7.yT.2.2 X8.2.2.size;have N8:=X8.2.1;have T8:=T7.fresh X8.2.2 (by have:=Hg.u;omega);have I8:=X8.1;obtain⟨d0,d1,d2,d3⟩:=AH I7.kb;obtain⟨t0,t1,t2,t3,_⟩:=AC I7.box;have ft:=AK I7.box;clear X8;unfold Fq at I8 B8 N8 l8 T8;generalize hW8:(((wx.setCell _ _).setCell _ _).setCell _ _).setCell _ _=W8 at I8 N8 B8 l8 T8;obtain⟨_,_,_,_,_,_,s6,_,_⟩:=I8.cells;obtain⟨na,f8,p0,p1,p2⟩:=I8.pg (n:=n) jV.u;have I9:=I8.zA (n:=n) kl.symm jV ⟨1,fr,true⟩;have N9:=As N8 I9.2.1 (by obtain⟨cu,gt⟩:=BB I8.own.pgs gq rfl;exact(Ca gt N8));have B9:=AM B8 I9.2.1 I9.2.2 l8;have l9:=yM l8 I9.2.1.size;obtain⟨lZ,f6⟩:=BB I8.own.pgs gq rfl;have T9:=T8.other I9.2.1 f6 ψ;have I9:=I9.1;generalize hW9:((W8.setCell _ _).setCell _ _).setCell _ _=W9 at I9 N9 B9 l9 T9;have oo:=AA T9;have iy:=AA (Bg N9 I9.own);obtain⟨x0,R,x2,x3,x4,x5,x6,x7,x8⟩:=I9.cells;obtain⟨r0,r1,r2,r3,r4,r5,r6,r7,r8⟩:=AC N9;have CQ:=AK N9;have oy:=AA B9;have ob:=AA l9;have lC:=AA I9.yT;clear I7 I8 N8 B8 l8 I9 N9 B9 l9 B7 l6 T7 T8 T9 T6;obtain⟨kj,ki,ii⟩:=iy.u;have iT:=AM oy ii (by have:=lC.u;omega) ob.u;have kh:=oo.fresh ii (by have:=Hg.u;omega);unfold De at kj ki iT kh;have eD:=bj HQ ki iT kh;unfold V6 AN at eD;dsimp only at eD;have HR:=AA eD;have HE:=AA (AC kj);clear kj ki ii iT kh eD;go_wp2_with ((try simp only[Exit.inBlock,Exit.then]);with_reducible refine yB (v:=.tuple #[.agg #[.slice mD mC cx,.slice mQ mT mN,.slice nU nO nR,.slice mK mE mH,.slice gs 16 sc,.slice lb 4 lc,.slice gq 16 qc,P.FV,P.U4],τ]) ?_ rfl HR.u);obtain⟨E0,E1,E2,E3,E4,E5,E6,E7,E8⟩:=HE.u;simp[results,Tryz.results204,go_sem,E0,E1,E2,E3,E4,E5,E6,E7,E8]
theorem dl (h:Dz p):JZ p=UO p:=by
 have:=h.count;unfold JZ UO
 by_cases hx:Ao p.Ve.ZJ<0
 .simp[hx]
 by_cases hy:(Al p.XY 1:Int)=p.U4
 .simp[hx,hy]
 have:¬p.U4<=(Al p.XY 1:Int):=ω;simp[hx,hy,this]
theorem bh (h:Dz p)(hf:0<=Ao p.Ve.ZJ):(Qi p n).2=true:=by rw[Xz (NF (k:=p.Ve) h.may hf (a:=0) (b:=0) (c:=0))]
def Nn(lo:Nat)(w:Ω)(m i e c s l q:Φ)(P:AR)(t:AR×Bool)(r:Ending)(E:Ω):Prop:=
 (t.2=true->∃m i e c s l q,r=.returned (.tuple #[AN m i e c s l q t.1.FV t.1.U4,τ])/\EI lo E m i e c s l q t.1)/\
 (t.2=false->r=.returned (.tuple #[AN m i e c s l q P.FV P.U4,υ]))/\Γ lo w E/\Fn w E
theorem TM{q':Φ}{t:AR×Bool}(ht:t=(Q,true))(HK:EI lo W m' i' e' c' s' l' q' Q)(B:Γ lo w W)(T:Fn w W):Nn lo w m i e c s l q P t (.returned (.tuple #[AN m' i' e' c' s' l' q' Q.FV Q.U4,τ])) W:=
 ⟨λ_=>⟨m',i',e',c',s',l',q',by rw[ht],by rw[ht];exact HK⟩,λh=>(by rw[ht] at h;cases h),B,T⟩
theorem aR{t:AR×Bool}(ht:t=(Q,false))(B:Γ lo w W)(T:Fn w W):Nn lo w m i e c s l q P t (.returned (.tuple #[AN m i e c s l q P.FV P.U4,υ])) W:=
 ⟨λh=>(by rw[ht] at h;cases h),λ_=>rfl,B,T⟩
theorem VR (h:EI lo w mv iv ev cv sv lv qv P)(av:lo<=w.heap.size)(hP:Dz P)(hn:n<16):
 Ξ prog 141 #[AN mv iv ev cv sv lv qv P.FV P.U4,.int .i64 n] w (Nn lo w mv iv ev cv sv lv qv P (Br P n)):=by
 unfold AN Nn AN;obtain⟨N0,N1,ac,az⟩:=LF w (.cells #[mv,iv,ev,cv,sv,lv,qv,P.FV,P.U4] 32) (.cells #[ι,ι,ι,ι,ι,ι,ι,θ,θ] 32);have cp:=(⟨N0,av,h.below ac⟩:Hj lo w.heap.size _ mv iv ev cv sv lv qv P);obtain⟨⟨⟨ma,mn,mc,rfl⟩,⟨ia,iN,ic,rfl⟩,⟨ea,en,ec,rfl⟩,⟨ka,kn,kc,rfl⟩⟩,⟨sa,sn,sc,rfl⟩,⟨la,ln,lc,rfl⟩,_⟩:=h.Dq;obtain⟨gq,qc,rfl,iW,jc,lU,kw,_⟩:=cp.page (n:=0) (by rw[hP.zY];omega);rw[hP.zY] at h cp N0 N1 ac az iW ⊢;have jb:(n:Int)<16:=ω;obtain⟨_,_,_,_,_,_,x6,_,_⟩:=cp.cells;obtain⟨kH,fq,p0,p1,p2⟩:=cp.pg (n:=n) (by rw[hP.zY];exact hn);have hx:P.XY[n]?=some (AD P.XY n):=by unfold AD;exact A9 (by rw[hP.zY];exact hn)
 have HP:=AA hP;have bw:=AA (ac.mono av);have iR:=AA ((Fn.refl w).below ac);have iB:=AA av;have bP:=AA (yM av ac.size);have jY:=AA N1;have HI:=AA cp;have pD:=AA (λhw=>TQ (n:=n) hP hw);have T1:=AA (TR (p:=P) (n:=n));have T2:=AA (λhw=>TN (n:=n) hP hw);have T3:=AA (λhw=>TP hP hn hw);have px:=AA (λm pg hd (h:fQ P n m pg hd)=>h.is);generalize Br P n=t at pD T1 T2 px ⊢
 by_cases hw:(AD P.XY n).w=1
 .have HT:=AA (pD hw)
  rw[hw] at p0;have gd:=cp.zz (n:=n) (x:=AD P.XY n) (y:= {AD P.XY n with u:=true}) (j:=2) (u:=.bool true) hP.zY.symm hx ψ rfl;have N2:=As N1 gd.2.1 (by obtain⟨cu,gt⟩:=BB cp.own.pgs gq rfl;exact(Ca gt N1));obtain⟨lZ,f6⟩:=BB cp.own.pgs gq rfl;have T2:=iR.other gd.2.1 f6 ψ;have B2:=AM bw gd.2.1 gd.2.2 bP.u;have l2:=yM bP gd.2.1.size;have I2:=gd.1;clear h hP av hx hw cp N0 N1 ac az iW gd;go_in;go_upto_region 1 with fail;generalize(w.alloc _).alloc _=W0 at*;generalize hg:w.heap.size=g at*;have Hg:=AA hg;clear hg;generalize hW1:W0.setCell (gq,n*3+2) (.bool true)=W1 at I2 N2 T2 B2 l2;have S3:=AA (Bg N2 I2.own);obtain⟨y0,y1,y2,y3,y4,y5,y6,y7,y8⟩:=I2.cells;obtain⟨z0,z1,z2,z3,z4,z5,z6,z7,z8⟩:=AC N2;have fz:=AK N2;have im:=AA B2;have t7:=AA T2;have s8:=AA l2;have lC:=AA I2.yT;clear I2 N2 B2 T2 l2 p1 kH;obtain⟨N4,O4,ph⟩:=S3.u;have B4:=AM im ph (by have:=lC.u;omega) s8.u;have T4:=t7.fresh ph (by have:=Hg.u;omega);unfold De at N4 O4 B4 T4;have eD:=TM (m:=.slice ma mn mc) (i:=.slice ia iN ic) (e:=.slice ea en ec) (c:=.slice ka kn kc) (s:=.slice sa sn sc) (l:=.slice la ln lc) (q:=.slice gq 16 qc) (P:=P) (Q:= {P with XY:=F5 P.XY n}) HT O4 B4 T4;unfold Nn AN at eD
  try dsimp only at eD
  have HR:=AA eD;have HE:=AA (AC N4);clear eD;go_wp2_with ((try simp only[Exit.then]);with_reducible refine yB (v:=.tuple #[.agg #[.slice ma mn mc,.slice ia iN ic,.slice ea en ec,.slice ka kn kc,.slice sa sn sc,.slice la ln lc,.slice gq 16 qc,P.FV,P.U4],τ]) ?_ rfl HR.u);obtain⟨E0,E1,E2,E3,E4,E5,E6,E7,E8⟩:=HE.u;simp[results,tP,go_sem,E0,E1,E2,E3,E4,E5,E6,E7,E8]
 have t0:((AD P.XY n).w==1)=false:=by simp[hw]
 replace T1:=AA (T1 hw);replace T2:=AA (T2 hw);replace T3:=AA (T3 hw);have TV:=AA (XO hP);have mY:=AA hw;have jO:=AA hP.U4;have HF:=AA (dl hP);have RI:=AA cp.own.ker.rd.2.1;have RQ:=AA (show BN 3 Dc _ _ P.XY from cp.own.pgs.rd);have v5:=AA (Ap hP.k).2.1;have kl:=AA hP.zY;generalize(AD P.XY n).w=pw at p0 t0;obtain⟨x0,R,x2,x3,x4,x5,x6,x7,x8⟩:=cp.cells;clear h hP av hx hw cp N0 N1 ac iW p1 p2;go_in;go_upto_region 4 with fail;generalize(w.alloc _).alloc _=W0 at*;generalize hg:w.heap.size=g at*;have Hg:=AA hg;have el:=AY HI.yU;have iO:=AA az;clear hg az;obtain⟨Mn,hcnt⟩:∃c:Nat,c=Al P.XY 1:=⟨_,rfl⟩
 have CC:=AA (λW (hW:Γ W0 W0 W)=>by have:=Oa (.slice ma mn mc) (.slice ia iN ic) (.slice ea en ec) (.slice ka kn kc) (.slice sa sn sc) (.slice la ln lc) (.slice gq 16 qc) P 1 W (BN.below RQ hW) (by have:=kl.u;omega);unfold AN at this;rw[<-hcnt] at this;exact this);have CF:=AA (λW (hW:Γ W0 W0 W)=>Sy (.slice ia iN ic) P.Ve.ZJ W (BN.below RI hW) v5.u);have oT:UO P=(decide (P.U4<=(Mn:Int))||decide (Ao P.Ve.ZJ<0)):=by rw[hcnt];rfl
 have og:=AA oT;have ty:=AA hcnt;clear oT hcnt RQ RI p0 t0 fq kH;go_cut [32] (λqe wx=>qe=.bool (UO P)/\Γ W0 W0 wx)
 case first=>
  refine Ac 4 49 [.a #[.slice ma mn mc,.slice ia iN ic,.slice ea en ec,.slice ka kn kc,.slice sa sn sc,.slice la ln lc,(.slice gq 16 qc),.int .i64 (P.FV),.int .i64 (P.U4)],.i ((Mn:Int)),.p g 8,.i (P.U4)] (λ_ _ _=>True) ?_ ?_
  .intro i hi o X a wx D A Y hb O
   have cz:=bc Y el x0;have bu:=bc Y el R;have cg:=bc Y el x2;have cx:=bc Y el x3;have ay:=bc Y el x4;have ef:=bc Y el x5;have jr:=bc Y el x6;have j2:=bc Y el x7;have kx:=bc Y el x8
   match i,hi with
   |0,_=>exact sL X O D A (hl:=Pj ‹_› ‹_› ‹_› ‹_› ‹_› ‹_› ‹_› ‹_› ‹_›)
   |1,_=>exact sD X O D A (CC _ Y)
   |2,_=>exact sP X O D A
   |3,_=>exact sL X O D A (hl:=F7 ‹_›)
  intro vs wx hR Y
  have q1:(vs 1)=.int .i64 Mn:=Be hR 1;have q3:(vs 3)=.int .i64 (P.U4):=Be hR 3;clear hR;simp only[Aj,Ae,yL,yI,yJ,yH,q1,q3];simp;clear q1 q3;have HG:=AA Y;obtain⟨_,y1,_,_,_,_,_,_,y8⟩:=(HI.below Y).cells;clear Y x0 R x2 x3 x4 x5 x6 x7 x8
  by_cases hc:P.U4<=(Mn:Int)
  .have w':=AA (show UO P=true by rw[og.u];simp[hc])
   go_wp2_with fail;go_meet
   case rel=>exact⟨by rw[w'.u],HG.u⟩
  have w':=AA (show UO P=(((P.Ve.ZJ.countP (λx=>decide (x.k=0)):Nat):Int)==0) by
   rw[og.u];have:= @Xs P.Ve.ZJ
   by_cases hz:P.Ve.ZJ.countP (λx=>decide (x.k=0))=0
   .simp[hc,hz,this.2 hz]
   have V:¬Ao P.Ve.ZJ<0:=λh=>hz (this.1 h)
   simp[hc,hz,V])
  go_wp2_with fail;refine(CF _ HG.u).mono ?_;rintro r w1 ⟨rfl,b1⟩;have wb:=AA (HG.trans (b1.mono HG.size));clear b1;generalize List.countP _ P.Ve.ZJ=nf at*;go_wp2_with fail;go_meet
  case rel=>exact⟨by rw[w'.u],wb.u⟩
 case rest=>
 obtain⟨rfl,Y⟩:=hcut;clear CC CF og x0 R x2 x3 x4 x5 x6 x7 x8
 rename_i W1
 have dg:=AA (HI.below Y);have bt:=AA (bw.trans (Y.mono bP.u));have HN:=AA (AB jY Y);have jX:=AA (iR.below Y);have gY:=AA (yM bP Y.size);clear Y HI;rw[<-HF.u];obtain⟨y0,y1,y2,y3,y4,y5,y6,y7,y8⟩:=dg.cells;go_upto_if 32 with fail;go_cut [] (λwx=>∃P1 m i e c s,Hj lo g wx m i e c s (.slice la ln lc) (.slice gq 16 qc) P1/\wx.heap[g+1]?=some (.cells #[ι,ι,ι,ι,ι,ι,ι,θ,θ] 32 (0,0))/\Γ lo w wx/\Fn w wx/\lo<=wx.heap.size/\Dz P1/\0<=Ao P1.Ve.ZJ/\(AD P1.XY n).w≠1/\t=Qi P1 n)
 case first=>
  cases hf:JZ P
  .have pP:=AA (T2 hf)
   go_wp2_with fail;go_meet
   case rel=>exact⟨P,_,_,_,_,_,dg.u,HN.u,bt.u,jX.u,gY.u,HP.u,pP.2,mY.u,pP.1⟩
  have CV:=To dg.own gY HP.u
  unfold Xb AN at CV
  by_cases hz:Al P.XY 1=0
  .have oO:=T1 ⟨by
    unfold JZ at hf;simp only[Bool.or_eq_true,decide_eq_true_eq] at hf;have:=jO.u
    rcases hf with hf|hf
    .exact hf
    omega,hz⟩
   have ju:=TV.2 hz;generalize Ct 32 P.XY P.FV=t at CV ju;obtain⟨pg,hd,o⟩:=t;cases ju;dsimp only[XN] at CV;have CV:=AA CV;have sw:=AA oO;clear oO hf hz;go_wp2_with fail;refine CV.mono ?_;rintro r w2 ⟨rfl,O2,b2,s2⟩;have b3:=AG w2 (.cells #[.slice ma mn mc,.slice ia iN ic,.slice ea en ec,.slice ka kn kc,.slice sa sn sc,.slice la ln lc,.slice gq 16 qc,hd,P.U4] 32);have N3:=AB (s2 _ _ HN.u) b3;have I3:=AB (s2 _ _ dg.yU) b3;have B3:=bt.trans (b2.trans (b3.mono (yM gY b2.size)));have T3:=(jX.trans s2).below b3;have l3:=yM (yM gY b2.size) b3.size;have N4:=H6 (b0:=.slice ma mn mc) (b1:=.slice ia iN ic) (b2:=.slice ea en ec) (b3:=.slice ka kn kc) (b4:=.slice sa sn sc) (b5:=.slice la ln lc) (b6:=.slice gq 16 qc) (b7:=.int .i64 P.FV) (b8:=.int .i64 P.U4) N3;have G4:=Fz (w:=w2.alloc (.cells #[.slice ma mn mc,.slice ia iN ic,.slice ea en ec,.slice ka kn kc,.slice sa sn sc,.slice la ln lc,.slice gq 16 qc,hd,P.U4] 32)) (g:=g+1) (b0:=.slice ma mn mc) (b1:=.slice ia iN ic) (b2:=.slice ea en ec) (b3:=.slice ka kn kc) (b4:=.slice sa sn sc) (b5:=.slice la ln lc) (b6:=.slice gq 16 qc) (b7:=.int .i64 P.FV) (b8:=.int .i64 P.U4);have B4:=AA (AM B3 G4 (by have:=dg.yT;omega) l3);have T4:=AA (T3.fresh G4 (by have:=Hg.u;omega));have u6:=AA N4;obtain⟨c0,c1,c2,c3,c4,c5,c6,c7,c8⟩:=AC I3;obtain⟨z0,z1,z2,z3,z4,z5,z6,z7,z8⟩:=AC N3;have fz:=AK N3;clear O2 b2 s2 b3 N3 I3 B3 T3 l3 N4 G4 y0 y1 y2 y3 y4 y5 y6 y7 y8 CV;have N4:=u6.u;unfold De at N4 B4 T4;have eD:=aR (m:=.slice ma mn mc) (i:=.slice ia iN ic) (e:=.slice ea en ec) (c:=.slice ka kn kc) (s:=.slice sa sn sc) (l:=.slice la ln lc) (q:=.slice gq 16 qc) (P:=P) (Q:=P) sw B4 T4.u;have HR:=AA eD;have HE:=AA (AC N4);clear eD;go_wp2_with fail;refine yB (v:=.tuple #[.agg #[.slice ma mn mc,.slice ia iN ic,.slice ea en ec,.slice ka kn kc,.slice sa sn sc,.slice la ln lc,.slice gq 16 qc,P.FV,P.U4],υ]) ?_ rfl HR.u;obtain⟨E0,E1,E2,E3,E4,E5,E6,E7,E8⟩:=HE.u;simp[results,tP,go_sem,E0,E1,E2,E3,E4,E5,E6,E7,E8]
  obtain⟨mm,pgs,hd,er⟩:=T3 hf (λx=>hz x.2)
  rw[er.vic] at CV;dsimp only[XN] at CV;have bx:=AA er;have CV:=AA CV;have Bw:¬(mm:Int)<0:=ω;clear er hf hz;go_wp2_with fail;refine CV.mono ?_;rintro r w2 ⟨rfl,O2,b2,s2⟩;have b3:=AG w2 (.cells #[.slice ma mn mc,.slice ia iN ic,.slice ea en ec,.slice ka kn kc,.slice sa sn sc,.slice la ln lc,.slice gq 16 qc,hd,P.U4] 32);have l3:=yM (yM gY b2.size) b3.size;have CO:=YB (O2.below b3) l3 bx.ok1 bx.m16 bx.mw1;unfold XZ AN at CO;dsimp only at CO;have CO:=AA CO;have N3:=AA (AB (s2 _ _ HN.u) b3);have I3:=AA (AB (s2 _ _ dg.yU) b3);have B3:=AA (bt.trans (b2.trans (b3.mono (yM gY b2.size))));have T3:=AA ((jX.trans s2).below b3);have s7:=AA l3;clear O2 b2 s2 b3 l3 y0 y1 y2 y3 y4 y5 y6 y7 y8 CV;go_wp2_with fail;refine CO.mono ?_;rintro r w4 ⟨⟨m4,i4,e4,c4,s4,rfl,O4⟩,b4,t4⟩;obtain⟨⟨⟨gK,gz,ay,rfl⟩,⟨gM,gN,gL,rfl⟩,⟨gQ,gO,gP,rfl⟩,⟨iq,io,ip,rfl⟩⟩,⟨xf,xd,xe,rfl⟩,_⟩:=O4.Dq;have S5:=Bg (t4 _ _ I3.u) O4;have N5:=AA (As (t4 _ _ N3.u) S5.2.2 ω);have T5:=AA ((T3.trans t4).fresh S5.2.2 (by have:=Hg.u;omega));have l4:=yM s7 b4.size;have B5:=AA (AM (B3.trans b4) S5.2.2 dg.yT l4);have l5:=AA (yM l4 S5.2.2.size);have I5:=AA (⟨S5.1,dg.yT,S5.2.1⟩:Hj lo g _ _ _ _ _ _ _ _ _);obtain⟨z0,z1,z2,z3,z4,z5,z6,z7,z8⟩:=AC (t4 _ _ I3.u);have fz:=AK (t4 _ _ I3.u);clear S5 O4 b4 t4 l4 CO;unfold De at N5 T5 B5 l5 I5;go_wp2_with fail;go_meet
  case rel=>exact⟨_,_,_,_,_,_,I5.u,N5.u,B5.u,T5.u,l5.u,bx.ok2,bx.free,bx.nw,px _ _ _ bx.u⟩
 case rest=>obtain⟨P1,m1,i1,e1,c1,s1,I1,N1,B1,py,l1,O1,f1,n1,t1⟩:=hcut;have CI:=Zp I1.own l1 O1 hn n1 f1;have oJ:=bh (n:=n) O1 f1;generalize Qi P1 n=ti at CI oJ t1;obtain⟨Q,bb⟩:=ti;obtain rfl:bb=true:=oJ;unfold V6 AN at CI;dsimp only at CI;have rI:=AA t1;obtain⟨⟨⟨lO,lM,bu,rfl⟩,⟨mS,mV,mP,rfl⟩,⟨nW,nQ,nT,rfl⟩,⟨mM,mG,mJ,rfl⟩⟩,⟨p8,p4,p6,rfl⟩,_⟩:=I1.own.Dq;obtain⟨x0,R,x2,x3,x4,x5,x6,x7,x8⟩:=I1.cells;have ou:=AA N1;have oz:=AA B1;have op:=AA py;have od:=AA l1;have lC:=AA I1.yT;have CI:=AA CI;clear I1 N1 B1 py l1 O1 f1 n1 t1 y0 y1 y2 y3 y4 y5 y6 y7 y8 dg HN bt jX T1 T2 T3 TV jO;go_wp2_with fail;refine CI.mono ?_;rintro r w6 ⟨⟨m6,i6,e6,c6,rfl,O6⟩,b6,s6⟩;obtain⟨⟨⟨qo,qm,jr,rfl⟩,⟨qC,qD,qB,rfl⟩,⟨rB,rz,rA,rfl⟩,⟨qz,qw,qy,rfl⟩⟩,_⟩:=O6.Dq;have N6:=s6 _ _ ou.u;have S7:=AA (Bg N6 O6);have B6:=AA (oz.trans b6);have T6:=AA (op.trans s6);have l6:=AA (yM od b6.size);obtain⟨z0,z1,z2,z3,z4,z5,z6,z7,z8⟩:=AC N6;have fz:=AK N6;clear O6 b6 s6 N6 CI x0 R x2 x3 x4 x5 x6 x7 x8;obtain⟨N8,O8,pf⟩:=S7.u;have B8:=AM B6 pf (by have:=lC.u;omega) l6.u;have T8:=T6.fresh pf (by have:=Hg.u;omega);unfold De at N8 O8 B8 T8;have eD:=TM (m:=.slice ma mn mc) (i:=.slice ia iN ic) (e:=.slice ea en ec) (c:=.slice ka kn kc) (s:=.slice sa sn sc) (l:=.slice la ln lc) (q:=.slice gq 16 qc) (P:=P) rI O8 B8 T8;unfold Nn AN at eD;have HR:=AA eD;have HE:=AA (AC N8);clear eD;go_wp2_with ((try simp only[Exit.then]);with_reducible refine yB (v:=.tuple #[.agg #[.slice qo qm jr,.slice qC qD qB,.slice rB rz rA,.slice qz qw qy,.slice p8 p4 p6,.slice la ln lc,.slice gq 16 qc,Q.FV,Q.U4],τ]) ?_ rfl HR.u);obtain⟨E0,E1,E2,E3,E4,E5,E6,E7,E8⟩:=HE.u;simp[results,tP,go_sem,E0,E1,E2,E3,E4,E5,E6,E7,E8]
theorem Wl (mv iv ev cv sv lv qv:Φ)(P:AR)(n:Nat)(w:Ω)(h:Kr w mv iv ev cv sv lv qv P)(hh:fT P)(hn:n<16):
 Ξ prog 45 #[AN mv iv ev cv sv lv qv P.FV P.U4,.int .i64 n] w λr E=>r=.returned (.bool (HZ P n))/\Γ w w E:=by
 unfold AN;obtain⟨N0,b0⟩:=Ec w (.cells #[mv,iv,ev,cv,sv,lv,qv,P.FV,P.U4] 32);have h0:=h.below b0;have hK:Dg P.Ve:=FN.1 hh.k;obtain⟨j,hj⟩:∃j,j=n/4:=⟨_,rfl⟩
 obtain⟨t,ht⟩:∃t,t=n%4:=⟨_,rfl⟩
 have q1:(n:Int)/4=(j:Int):=ω;have q2:(n:Int)%4=(t:Int):=ω;have oQ:j<4:=ω;have qH:t<4:=ω;have qU:=hh.lr j oQ;obtain⟨lf,hlf⟩:∃x:Nat,Bf P.low j=(x:Int):=⟨(Bf P.low j).toNat,ω⟩
 have kL:lf<12:=ω;have oX:Ce P n=Aw P.Ve.mem lf t:=by unfold Ce;rw[<-hj,<-ht,hlf,yq]
 have jb:(n:Int)<16:=ω;have HS:=AA h0.2.1;have cp:=AA h0.1.2.1;obtain⟨aq,cq,rfl,_,_,HQ⟩:=BN.open Fy ψ h0.2.2.2;obtain⟨bq,oq,rfl,rj,D0,D1,D2⟩:=HQ.zB (k:=n) (by rw[hh.pl];exact hn);have AS:(n:Int)<P.XY.length:=by rw[hh.pl];exact jb
 obtain⟨am,cm,rfl,_,_,HM⟩:=h0.1.1.open;obtain⟨al,cl,rfl,_,_,Z⟩:=h0.2.2.1.open;obtain⟨bl,ol,rfl,DL⟩:=Z.at (k:=j) (by rw[hh.ll];exact oQ);rw[show nth P.low j=(lf:Int) from hlf] at DL;obtain⟨bm,om,br,iC,cr,rfl,jg,DM,jf,rh,kq⟩:=HM.row4 (Ap hK).1 kL;have DW:=kq t qH;obtain⟨ai,ci,rfl,_,_,dg⟩:=BN.open Az ψ cp.u;have HI:=AA dg;obtain⟨pr,pm,rfl,_,_,_⟩:=h0.2.1.open;obtain⟨x0,R,x2,x3,x4,x5,x6,x7,x8⟩:=AC N0;obtain⟨po,hpo⟩:∃po,po=HZ P n:=⟨_,rfl⟩
 rw[<-hpo];have PO:=hpo;unfold HZ at PO;rw[oX] at PO;generalize hpw:(AD P.XY n).w=pw at D0 PO;generalize hpa:(AD P.XY n).a=pa at D1 PO;generalize hpu:(AD P.XY n).u=pu at D2 PO;generalize htw:Aw P.Ve.mem lf t=tw at DW PO;have nq:(j:Int)<P.low.length:=by rw[hh.ll];omega
 have j7:(lf:Int)<P.Ve.mem.length:=by have:=(Ak.1 (Ap hK).1).1;omega
 have qG:(t:Int)<4:=ω;have jW:=AA (A4.1 (Ap hK).2.1).1;replace PO:=AA PO;clear hpo hpw hpa hpu htw oX hlf qU hj ht HQ HM Z kq h h0;have az:(w.alloc (.cells #[.slice (some ⟨bm,om,none⟩) P.Ve.mem.length cm,.slice ai P.Ve.ZJ.length ci,ev,cv,.slice pr P.swap.length pm,.slice (some ⟨bl,ol,none⟩) P.low.length cl,.slice (some ⟨bq,oq,none⟩) P.XY.length cq,P.FV,P.U4] 32)).heap.size=w.heap.size+1:=χ;go_in;go_wp2_with fail;generalize w.alloc _=W0 at*;obtain⟨N2,b2⟩:=Ec W0 (.cells #[pw,pa,pu] 87);have ov:=AA (AB N0 b2);have im:=AA (b0.trans (b2.mono b0.size));have hH:=AA b2;replace DL:=(b2.cell (yK _ _ DL)).trans DL;replace DM:=(b2.cell (yK _ _ DM)).trans DM;replace DW:=(b2.cell (yK _ _ DW)).trans DW;clear x0 R x2 x3 x4 x5 x6 x7 x8 D0 D1 D2 rj jg jf dg N0 b0 b2;obtain⟨qp,hqp⟩:∃q,q=w.heap.size+1:=⟨_,rfl⟩
 rw[az] at N2;rw[<-hqp] at N2 ⊢;generalize W0.alloc _=W2 at*;clear hqp az;obtain⟨x0,_,_,_,_,x5,_,_,_⟩:=AC ov.u;have el:=AY ov.u;have bn:=yK _ _ DL;have jg:=yK _ _ DM;have jf:=yK _ _ DW;have vu:=AA N2;clear N2;go_wp2_with fail;refine Ac 15 94 [.p w.heap.size 0,.p w.heap.size 0,.v (.slice (some ⟨bm,om,none⟩) P.Ve.mem.length cm),.p w.heap.size 5,.v (.slice (some ⟨bl,ol,none⟩) P.low.length cl),.i ((n:Int)),.i ((j:Int)),.p bl (ol+j),.i ((lf:Int)),.p bm (om+lf),.v (.slice (some ⟨br,iC,none⟩) 4 cr),.i ((n:Int)),.i ((t:Int)),.p br (iC+t),.i tw] (λ_ _ _=>True) ?_ ?_
 .intro i hi o X a wx D A Y hb O
  have bu:=bc Y el x5;have cg:=bc Y bn DL;have cx:=bc Y jg DM;have ay:=bc Y jf DW
  match i,hi with
  |0,_|1,_|3,_|5,_|11,_=>exact sP X O D A
  |2,_=>exact sL X O D A (hl:=GR (bc Y el x0))
  |4,_|10,_=>exact sL X O D A (hl:=K5 ‹_›)
  |7,_|9,_|13,_=>exact sI X O D A (hr:=by clear A D O;go_simp)
  |8,_|14,_=>exact sL X O D A (hl:=F7 ‹_›)
  |6,_=>clear bu cg cx ay;obtain rfl:=yP X;have d5:(a.tmps[19]?.getD Θ)=.int .i64 n:=Bd A 5;clear A D;refine yO ?_;go_simp;exact O _ _ (by show yl .i64 (IntKind.i64.wrap (j:Int))=.int .i64 j;rw[xA _ ω]) (yN _ _)
  |12,_=>clear bu cg cx ay;obtain rfl:=yP X;have jj:(a.tmps[25]?.getD Θ)=.int .i64 n:=Bd A 11;clear A D;refine yO ?_;go_simp;exact O _ _ (by show yl .i64 (Int.tmod (n:Int) 4)=.int .i64 t;rw[wF ω];exact congrArg _ q2) (yN _ _)
  |_+15,hq=>omega
 intro vs wx hR Y
 have jq:(vs 14)=.int .i64 tw:=Be hR 14;clear hR;simp only[Aj,Ae,yL,yI,yJ,yH,jq];simp;clear jq;have HB:=AA (im.trans (Y.mono im.size));have oj:=AA (hH.trans (Y.mono hH.size));obtain⟨_,R,_,_,x4,_,_,_,_⟩:=AC (AB ov Y);obtain⟨p0,p1,p2⟩:=Gm (AB vu Y);clear x0 x5 DL DM DW Y bn jg jf
 by_cases e0:pw=0
 .subst e0
  rw[if_pos rfl] at PO
  by_cases ea:pa=0
  .subst ea
   cases pu
   .have S:=AA (show po=(tw==0) by rw[PO.u];simp;by_cases h3:tw=0<;>simp[h3])
    clear PO R x4;go_wp2;go_ret;exact⟨AF S.symm,HB.u⟩
   have S:=AA (show po=false by rw[PO.u];simp)
   clear PO R x4;go_wp2;go_ret;exact⟨AF S.symm,HB.u⟩
  have S:=AA (show po=false by rw[PO.u];simp[ea])
  clear PO R x4;go_wp2;go_ret;exact⟨AF S.symm,HB.u⟩
 rw[if_neg e0] at PO;have t0:(pw==0)=false:=by simp[e0]
 by_cases e1:pw=1
 .subst e1
  rw[if_pos rfl] at PO;clear t0 e0 x4;have CF:=AA (λW=>Ed pa W);go_wp2_with fail;refine(CF _).mono ?_;rintro r w3 ⟨rfl,rfl⟩;cases iH:Bo pa 0 11
  .have S:=AA (show po=false by rw[PO.u,iH];rfl)
   clear PO iH R;go_wp2;go_ret;exact⟨AF S.symm,HB.u⟩
  have ab:=Aa.1 iH;obtain⟨fr,rfl⟩:∃x:Nat,pa=(x:Int):=⟨pa.toNat,ω⟩
  have lW:fr<12:=ω;rw[iH,yq] at PO;clear iH;go_wp2_with fail;refine(Ms (fr:Int) _ ω ω).mono ?_;rintro r w3 ⟨rfl,b3⟩;have hJ:=AA (HB.trans (b3.mono HB.size));have Ck:(fr:Int)<12:=ω;have rf:(fr:Int)<P.Ve.ZJ.length:=by have:=jW.u;omega
  obtain⟨bi,oi,rfl,jS,F0,F1,F2⟩:=(HI.below (oj.trans (b3.mono oj.size))).zZ (k:=fr) (by have:=jW.u;omega);replace R:=(b3.cell (yK _ _ R)).trans R;replace p1:=(b3.cell (yK _ _ p1)).trans p1;clear p0 p2 b3 F0 jS;generalize Ii (fr:Int)=en_ at PO ⊢
  by_cases et:tw=en_
  .subst et
   have gR:=AA (show po=(decide ((JK P.Ve.ZJ fr).g=gA)&&decide ((JK P.Ve.ZJ fr).r=1)) by rw[PO.u];simp[Gd]);clear PO;generalize JK P.Ve.ZJ fr=x at F1 F2 gR;obtain⟨xk,xg,xr⟩:=x;dsimp only at F1 F2 gR;have eg:xg=gA↔xg.toList=[97]:=⟨λh=>by subst h;rw[xI];rfl,λh=>by rw[xI] at h;cases xg with|mk d=>cases d with|mk l=>simp at h;subst h;rfl⟩
   by_cases hg:xg.toList=[97]
   .have t1:(xg.toList==[97])=true:=by simp[hg]
    have S:=AA (show po=(xr==1) by rw[gR.u,decide_eq_true (eg.2 hg),wv];by_cases h3:xr=1<;>simp[h3]);clear hg eg gR;go_wp2;go_ret;exact⟨AF S.symm,hJ.u⟩
   have t1:(xg.toList==[97])=false:=by simp[hg]
   have S:=AA (show po=false by rw[gR.u,decide_eq_false (λh=>hg (eg.1 h)),Bool.false_and]);clear hg eg gR;go_wp2;go_ret;exact⟨AF S.symm,hJ.u⟩
  have S:=AA (show po=false by rw[PO.u];simp[et])
  have t1:(tw==en_)=false:=by simp[et]
  clear PO et;go_wp2;go_ret;exact⟨AF S.symm,hJ.u⟩
 rw[if_neg e1] at PO;have t1:(pw==1)=false:=by simp[e1]
 by_cases e2:pw=2
 .subst e2
  rw[if_pos rfl] at PO;clear t0 t1 e0 e1 R;have CG:=AA (Vl _ P.swap pa _ (HS.below oj.u) hh.s);go_wp2_with fail;refine CG.mono ?_;rintro r w3 ⟨⟨v',rfl⟩,b3⟩;have hJ:=AA (HB.trans (b3.mono HB.size));have gR:=AA (show po=(Bo pa 0 15&&!(AJ P.swap pa.toNat).isEmpty&&!pu&&decide (tw=0)) from PO.u);generalize(Bo pa 0 15&&!(AJ P.swap pa.toNat).isEmpty)=bb at gR ⊢;replace p2:=(b3.cell (yK _ _ p2)).trans p2;clear PO CG b3 x4 p0 p1;cases bb
  .have S:=AA (show po=false by rw[gR.u];rfl)
   go_wp2;go_ret;exact⟨AF S.symm,hJ.u⟩
  cases pu
  .have S:=AA (show po=(tw==0) by rw[gR.u];simp;by_cases h3:tw=0<;>simp[h3])
   go_wp2;go_ret;exact⟨AF S.symm,hJ.u⟩
  have S:=AA (show po=false by rw[gR.u];rfl)
  go_wp2;go_ret;exact⟨AF S.symm,hJ.u⟩
 have t2:(pw==2)=false:=by simp[e2]
 have S:=AA (show po=false by rw[PO.u,if_neg e2]);clear PO R x4 e0 e1 e2;go_wp2;go_ret;exact⟨AF S.symm,HB.u⟩
theorem Tn (mv iv ev cv sv lv qv:Φ)(P:AR)(w:Ω)(h:Kr w mv iv ev cv sv lv qv P)(hk:DG P.Ve=true):
 Ξ prog 43 #[AN mv iv ev cv sv lv qv P.FV P.U4] w λr E=>r=.returned (.bool (Ch P))/\Γ w w E:=by
 unfold AN;obtain⟨N0,b0⟩:=Ec w (.cells #[mv,iv,ev,cv,sv,lv,qv,P.FV,P.U4] 32);have h0:=h.below b0;have hK:Dg P.Ve:=FN.1 hk;have qL:=zK hK (ω:0<3);have lT:=(A4.1 (Ap hK).2.1).1;have j7:=(Ak.1 (Ap hK).1).1;have rg:=hK.zX;obtain⟨ae,ce,rfl,_,_,HE⟩:=h0.1.2.2.1.open;obtain⟨be,oe,ua,uc,rfl,_,_,D1,_⟩:=HE 0 ω;have e0:oe+0*2+1=oe+1:=ω;rw[e0] at D1;obtain⟨ai,ci,rfl,_,_,cp⟩:=BN.open Az ψ h0.1.2.1;obtain⟨am,cm,rfl,_,_,pM⟩:=h0.1.1.open;obtain⟨al,cl,rfl,_,_,pN⟩:=h0.2.2.1.open;obtain⟨x0,R,x2,x3,x4,x5,x6,x7,x8⟩:=AC N0;have CE:(0:Int)<P.Ve.XX.length:=ω;have TO:=AA (show Ch P=(decide (0<=Ab P.Ve 0)&&decide (P.low.length=4)&&Gd P.Ve.ZJ (Ab P.Ve 0).toNat&&(yL 4).all (GT P)) from rfl);have j5:Ab P.Ve 0=(AI P.Ve.XX 0).root:=rfl;rw[<-j5] at D1 qL;generalize hrr:Ab P.Ve 0=root at*;have so:=AA hrr;have HM:=AA pM;have HI:=AA cp;have Z:=AA pN;have O:=AA hK;have jW:=AA lT;have sx:=AA j7;clear h h0 hk j5 hrr pM cp pN HE hK rg lT j7;have HN:=AA N0;have ad:=AA b0;clear N0 b0
 by_cases hr:root<0
 .have S:=AA (show Ch P=false by rw[TO.u,decide_eq_false ω];rfl)
  clear TO;go_in;go_wp2;go_ret;exact⟨AF S.symm,ad.u⟩
 obtain⟨rn,rfl⟩:∃x:Nat,root=(x:Int):=⟨root.toNat,ω⟩
 have qN:rn<12:=ω;have qM:(rn:Int)<12:=ω;have zs:(rn:Int)<P.Ve.mem.length:=by have:=sx.u;omega
 have AL:(rn:Int)<P.Ve.ZJ.length:=by have:=jW.u;omega
 rcases vS (P.low.length=4) with jv|jv
 rotate_left
 .have S:=AA (show Ch P=false by rw[TO.u,decide_eq_false jv];simp)
  have t1:((P.low.length:Int) !=4)=true:=η;clear TO jv;go_in;go_wp2;go_ret;exact⟨AF S.symm,ad.u⟩
 have t1:((P.low.length:Int) !=4)=false:=η;have lB:=AA jv;obtain⟨bi,oi,rfl,rk,_,F1,F2⟩:=HI.zZ (k:=rn) (by have:=jW.u;omega);have jB:=AA (show Ch P=(decide ((JK P.Ve.ZJ rn).g=gA)&&decide ((JK P.Ve.ZJ rn).r=1)&&(yL 4).all (GT P)) by rw[TO.u,decide_eq_true jv,decide_eq_true (ω:(0:Int)<=(rn:Int)),yq];simp[Gd])
 clear TO jv;generalize JK P.Ve.ZJ rn=x at F1 F2 jB;obtain⟨xk,xg,xr⟩:=x;dsimp only at F1 F2 jB;have eg:xg=gA↔xg.toList=[97]:=⟨λh=>by subst h;rw[xI];rfl,λh=>by rw[xI] at h;cases xg with|mk d=>cases d with|mk l=>simp at h;subst h;rfl⟩
 rcases vS (xg.toList=[97]) with hg|hg
 rotate_left
 .have t2:(xg.toList==[97])=false:=by simp[hg]
  have S:=AA (show Ch P=false by rw[jB.u,decide_eq_false (λh=>hg (eg.1 h))];rfl);clear jB hg eg;go_in;go_wp2;go_ret;exact⟨AF S.symm,ad.u⟩
 have t2:(xg.toList==[97])=true:=by simp[hg]
 rcases vS (xr=1) with hr1|hr1
 rotate_left
 .have t3:(xr !=1)=true:=by simp[hr1]
  have S:=AA (show Ch P=false by rw[jB.u,decide_eq_false hr1];simp);clear jB hg eg hr1;go_in;go_wp2;go_ret;exact⟨AF S.symm,ad.u⟩
 have t3:(xr !=1)=false:=by simp[hr1]
 have ls:=AA (show Ch P=(yL 4).all (GT P) by rw[jB.u,decide_eq_true (eg.2 hg),decide_eq_true hr1];rfl);clear jB hg eg hr1;go_in;go_wp2_with fail;generalize w.alloc _=W0 at*;clear x0 R x2 x3 x4 x5 x6 x7 x8 D1 F1 F2 t1 t2 t3;go_loopw [4,5] (λix _ wr=>∃k:Nat,k<=4/\ix=.int .i64 k/\(∀j,j<k->GT P j=true)/\Γ W0 W0 wr) (λix _ _=>4 - (intOf ix).toNat)
 exact⟨0,yu _,rfl,λj hj=>absurd hj (xU _),yN _ _⟩
 obtain⟨k,hk,rfl,bk,K⟩:=hrel;have df:=AA bk;clear bk
 by_cases ao:k<4
 .have kQ:(k:Int)<4:=ω
  have nk:(k:Int)<P.low.length:=by have:=lB.u;omega
  obtain⟨x0,R,_,_,_,x5,_,_,_⟩:=AC (AB HN K);have el:=AY (AB HN K);obtain⟨bl,ol,rfl,DL⟩:=(Z.below K).at (k:=k) (by have:=lB.u;omega);obtain⟨bm,om,br,iC,cr,rfl,nC,oA,nB,rh,kq⟩:=HM.row4 (Ap O.u).1 qN;have DM:=(K.cell (yK _ _ oA)).trans oA;have DW:=(K.cell (yK _ _ (kq k ao))).trans (kq k ao);have jg:=yK _ _ DM;have jf:=yK _ _ DW;have LO:=AA (show GT P k=(Bo (Bf P.low k) 0 11&&decide (Aw P.Ve.mem (Ab P.Ve 0).toNat k=Ii (Bf P.low k))&&Gd P.Ve.ZJ (Bf P.low k).toNat) from rfl);rw[so.u,yq] at LO;rw[show nth P.low k=Bf P.low k from rfl] at DL;generalize Bf P.low k=fv at DL LO;generalize Aw P.Ve.mem rn k=tw at DW LO;clear oA kq nC nB;have ks:=λW (hW:Γ wr wr W)=>A7 (Ed fv W)
  cases iH:Bo fv 0 11
  .rw[iH] at ks LO
   have CF:=AA ks;have gU:GT P k=false:=by rw[LO.u];rfl
   clear ks LO iH;have S:=AA (ls.trans (G0 ao gU));go_wp2_with fail;refine Ac 36 86 [.i fv,.b false,.b true,.b true,.u,.u,.u,.u,.u,.u,.u,.u,.u,.u,.u,.u,.b true,.b true,.u,.u,.u,.u,.u,.u,.u,.u,.b true,.b true,.u,.u,.u,.u,.u,.u,.u,.u] (λ_ _ _=>True) ?_ ?_
   .intro i hi o X a wx D A Y hb O
    match i,hi with
    |0,_|2,_|3,_|16,_|17,_|26,_|27,_=>exact sP X O D A
    |1,_=>exact sD X O D A (CF _ Y)
    |4,_|5,_|6,_|7,_|8,_|9,_|10,_|11,_|12,_|13,_|14,_|15,_|18,_|19,_|20,_|21,_|22,_|23,_|24,_|25,_|28,_|29,_|30,_|31,_|32,_|33,_|34,_|35,_=>exact sB X O A
    |_+36,hq=>omega
   intro vs wx hR Y
   have g0:(vs 27)=.bool true:=Be hR 27;clear hR;simp only[Aj,Ae,yL,yI,yJ,yH,g0];simp;clear g0;have gV:=K.trans (Y.mono K.size);clear Y x0 R DM DW;go_wp2;go_ret;exact⟨AF S.symm,ad.trans (gV.mono ad.size)⟩
  have ab:=Aa.1 iH;obtain⟨fr,rfl⟩:∃x:Nat,fv=(x:Int):=⟨fv.toNat,ω⟩
  have lW:fr<12:=ω;have rb:(fr:Int)<12:=ω;have rf:(fr:Int)<P.Ve.ZJ.length:=by have:=jW.u;omega
  rw[iH] at ks LO;have CF:=AA ks;have oC:=λW (hW:Γ wr wr W)=>Ms (fr:Int) W ω ω
  rw[yq,wv] at LO;generalize Ii (fr:Int)=en_ at LO oC;have CP:=AA oC;obtain⟨CY,yb,e9,kY,_,F1,F2⟩:=(HI.below K).zZ (k:=fr) (by have:=jW.u;omega);cases e9;have jS:=yK _ _ F1;have iz:GT P k=(decide (tw=en_)&&(decide ((JK P.Ve.ZJ fr).g=gA)&&decide ((JK P.Ve.ZJ fr).r=1))):=LO.u;clear ks oC LO iH ab kY;generalize JK P.Ve.ZJ fr=x at F1 F2 iz;obtain⟨wN,xg,xr⟩:=x;dsimp only at F1 F2 iz
  rcases vS (tw=en_) with et|et
  rotate_left
  .have t1:(tw !=en_)=true:=by simp[et]
   have gU:GT P k=false:=by rw[iz,decide_eq_false et];rfl
   clear iz et;have S:=AA (ls.trans (G0 ao gU));go_wp2_with fail;refine Ac 36 86 [.i ((fr:Int)),.b true,.b false,.b false,.p w.heap.size 0,.p w.heap.size 0,.v (.slice (some ⟨bm,om,none⟩) P.Ve.mem.length cm),.i ((rn:Int)),.p bm (om+rn),.v (.slice (some ⟨br,iC,none⟩) 4 cr),.i ((k:Int)),.p br (iC+k),.i tw,.i ((fr:Int)),.i en_,.b true,.b true,.b true,.u,.u,.u,.u,.u,.u,.u,.u,.b true,.b true,.u,.u,.u,.u,.u,.u,.u,.u] (λ_ _ _=>True) ?_ ?_
   .intro i hi o X a wx D A Y hb O
    match i,hi with
    |0,_|2,_|3,_|4,_|5,_|7,_|10,_|13,_|16,_|17,_|26,_|27,_=>exact sP X O D A
    |1,_=>exact sD X O D A (CF _ Y)
    |6,_=>exact sL X O D A (hl:=GR (bc Y el x0))
    |8,_|11,_=>exact sI X O D A (hr:=by clear A D O;go_simp)
    |9,_=>exact sL X O D A (hl:=K5 (bc Y jg DM))
    |12,_=>exact sL X O D A (hl:=F7 (bc Y jf DW))
    |14,_=>exact sD X O D A (CP _ Y)
    |18,_|19,_|20,_|21,_|22,_|23,_|24,_|25,_|28,_|29,_|30,_|31,_|32,_|33,_|34,_|35,_=>exact sB X O A
    |15,_=>obtain rfl:=yP X;have gX:(a.tmps[61]?.getD Θ)=.int .i64 tw:=Bd A 12;have kg:(a.tmps[63]?.getD Θ)=.int .i64 en_:=Bd A 14;have d3:(a.tmps[52]?.getD Θ)=.bool false:=Bd A 3;clear A D;refine AT.yes rfl rfl d3 ?_;go_simp;exact O _ _ rfl (yN _ _)
    |_+36,hq=>omega
   intro vs wx hR Y
   have g0:(vs 27)=.bool true:=Be hR 27;clear hR;simp only[Aj,Ae,yL,yI,yJ,yH,g0];simp;clear g0;have gV:=K.trans (Y.mono K.size);clear Y x0 R DM DW;go_wp2;go_ret;exact⟨AF S.symm,ad.trans (gV.mono ad.size)⟩
  have t1:(tw !=en_)=false:=by simp[et]
  rw[decide_eq_true et,wv] at iz;have eg:xg=gA↔xg.toList=[97]:=⟨λh=>by subst h;rw[xI];rfl,λh=>by rw[xI] at h;cases xg with|mk d=>cases d with|mk l=>simp at h;subst h;rfl⟩;clear et
  rcases vS (xg.toList=[97]) with hg|hg
  rotate_left
  .have t2:(xg.toList==[97])=false:=by simp[hg]
   have gU:GT P k=false:=by rw[iz,decide_eq_false (λh=>hg (eg.1 h))];rfl
   clear iz hg eg;have S:=AA (ls.trans (G0 ao gU));go_wp2_with fail;refine Ac 36 86 [.i ((fr:Int)),.b true,.b false,.b false,.p w.heap.size 0,.p w.heap.size 0,.v (.slice (some ⟨bm,om,none⟩) P.Ve.mem.length cm),.i ((rn:Int)),.p bm (om+rn),.v (.slice (some ⟨br,iC,none⟩) 4 cr),.i ((k:Int)),.p br (iC+k),.i tw,.i ((fr:Int)),.i en_,.b false,.b false,.b false,.p w.heap.size 0,.p w.heap.size 1,.v (.slice (some ⟨bi,oi,none⟩) P.Ve.ZJ.length ci),.i ((fr:Int)),.p bi (oi+fr*3),.p bi (oi+fr*3+1),.t xg,.b true,.b true,.b true,.u,.u,.u,.u,.u,.u,.u,.u] (λ_ _ _=>True) ?_ ?_
   .intro i hi o X a wx D A Y hb O
    match i,hi with
    |0,_|2,_|3,_|4,_|5,_|7,_|10,_|13,_|16,_|17,_|18,_|19,_|21,_|23,_|26,_|27,_=>exact sP X O D A
    |1,_=>exact sD X O D A (CF _ Y)
    |6,_=>exact sL X O D A (hl:=GR (bc Y el x0))
    |8,_|11,_|22,_=>exact sI X O D A (hr:=by clear A D O;go_simp)
    |9,_=>exact sL X O D A (hl:=K5 (bc Y jg DM))
    |12,_=>exact sL X O D A (hl:=F7 (bc Y jf DW))
    |14,_=>exact sD X O D A (CP _ Y)
    |20,_=>exact sL X O D A (hl:=Gi (bc Y el R))
    |24,_=>exact sL X O D A (hl:=Zq (bc Y jS F1))
    |28,_|29,_|30,_|31,_|32,_|33,_|34,_|35,_=>exact sB X O A
    |15,_=>obtain rfl:=yP X;have gX:(a.tmps[61]?.getD Θ)=.int .i64 tw:=Bd A 12;have kg:(a.tmps[63]?.getD Θ)=.int .i64 en_:=Bd A 14;have d3:(a.tmps[52]?.getD Θ)=.bool false:=Bd A 3;clear A D;refine AT.yes rfl rfl d3 ?_;go_simp;exact O _ _ rfl (yN _ _)
    |25,_=>obtain rfl:=yP X;have pj:(a.tmps[73]?.getD Θ)=.string xg:=Bd A 24;have lm:(a.tmps[66]?.getD Θ)=.bool false:=Bd A 17;clear A D;refine AT.yes rfl rfl lm ?_;go_simp;exact O _ _ rfl (yN _ _)
    |_+36,hq=>omega
   intro vs wx hR Y
   have g0:(vs 27)=.bool true:=Be hR 27;clear hR;simp only[Aj,Ae,yL,yI,yJ,yH,g0];simp;clear g0;have gV:=K.trans (Y.mono K.size);clear Y x0 R DM DW;go_wp2;go_ret;exact⟨AF S.symm,ad.trans (gV.mono ad.size)⟩
  have t2:(xg.toList==[97])=true:=by simp[hg]
  rw[decide_eq_true (eg.2 hg),wv] at iz;clear hg eg
  rcases vS (xr=1) with hr1|hr1
  rotate_left
  .have t3:(xr !=1)=true:=by simp[hr1]
   have gU:GT P k=false:=by rw[iz,decide_eq_false hr1]
   clear iz hr1;have S:=AA (ls.trans (G0 ao gU));go_wp2_with fail;refine Ac 36 86 [.i ((fr:Int)),.b true,.b false,.b false,.p w.heap.size 0,.p w.heap.size 0,.v (.slice (some ⟨bm,om,none⟩) P.Ve.mem.length cm),.i ((rn:Int)),.p bm (om+rn),.v (.slice (some ⟨br,iC,none⟩) 4 cr),.i ((k:Int)),.p br (iC+k),.i tw,.i ((fr:Int)),.i en_,.b false,.b false,.b false,.p w.heap.size 0,.p w.heap.size 1,.v (.slice (some ⟨bi,oi,none⟩) P.Ve.ZJ.length ci),.i ((fr:Int)),.p bi (oi+fr*3),.p bi (oi+fr*3+1),.t xg,.b false,.b false,.b false,.p w.heap.size 0,.p w.heap.size 1,.v (.slice (some ⟨bi,oi,none⟩) P.Ve.ZJ.length ci),.i ((fr:Int)),.p bi (oi+fr*3),.p bi (oi+fr*3+2),.i xr,.b true] (λ_ _ _=>True) ?_ ?_
   .intro i hi o X a wx D A Y hb O
    have cz:=bc Y el x0;have bu:=bc Y jg DM;have cg:=bc Y jf DW;have cx:=bc Y el R;have ay:=bc Y jS F1;have ef:=bc Y jS F2
    match i,hi with
    |0,_|2,_|3,_|4,_|5,_|7,_|10,_|13,_|16,_|17,_|18,_|19,_|21,_|23,_|26,_|27,_|28,_|29,_|31,_|33,_=>exact sP X O D A
    |1,_=>exact sD X O D A (CF _ Y)
    |6,_=>exact sL X O D A (hl:=GR ‹_›)
    |8,_|11,_|22,_|32,_=>exact sI X O D A (hr:=by clear A D O;go_simp)
    |9,_=>exact sL X O D A (hl:=K5 ‹_›)
    |12,_|34,_=>exact sL X O D A (hl:=F7 ‹_›)
    |14,_=>exact sD X O D A (CP _ Y)
    |20,_|30,_=>exact sL X O D A (hl:=Gi ‹_›)
    |24,_=>exact sL X O D A (hl:=Zq ‹_›)
    |15,_=>clear cz bu cg cx ay ef;obtain rfl:=yP X;have gX:(a.tmps[61]?.getD Θ)=.int .i64 tw:=Bd A 12;have kg:(a.tmps[63]?.getD Θ)=.int .i64 en_:=Bd A 14;have d3:(a.tmps[52]?.getD Θ)=.bool false:=Bd A 3;clear A D;refine AT.yes rfl rfl d3 ?_;go_simp;exact O _ _ rfl (yN _ _)
    |25,_=>clear cz bu cg cx ay ef;obtain rfl:=yP X;have pj:(a.tmps[73]?.getD Θ)=.string xg:=Bd A 24;have lm:(a.tmps[66]?.getD Θ)=.bool false:=Bd A 17;clear A D;refine AT.yes rfl rfl lm ?_;go_simp;exact O _ _ rfl (yN _ _)
    |35,_=>clear cz bu cg cx ay ef;obtain rfl:=yP X;have rD:(a.tmps[83]?.getD Θ)=.int .i64 xr:=Bd A 34;have nX:(a.tmps[76]?.getD Θ)=.bool false:=Bd A 27;clear A D;refine AT.yes rfl rfl nX ?_;go_simp;exact O _ _ rfl (yN _ _)
    |_+36,hq=>omega
   intro vs wx hR Y
   have g0:(vs 27)=.bool false:=Be hR 27;have kt:(vs 35)=.bool true:=Be hR 35;clear hR;simp only[Aj,Ae,yL,yI,yJ,yH,g0,kt];simp;clear g0 kt;have gV:=K.trans (Y.mono K.size);clear Y x0 R DM DW;go_wp2;go_ret;exact⟨AF S.symm,ad.trans (gV.mono ad.size)⟩
  have t3:(xr !=1)=false:=by simp[hr1]
  have ez:GT P k=true:=by rw[iz,decide_eq_true hr1]
  clear iz hr1;have S:=AA (ez);go_wp2_with fail;refine Ac 36 86 [.i ((fr:Int)),.b true,.b false,.b false,.p w.heap.size 0,.p w.heap.size 0,.v (.slice (some ⟨bm,om,none⟩) P.Ve.mem.length cm),.i ((rn:Int)),.p bm (om+rn),.v (.slice (some ⟨br,iC,none⟩) 4 cr),.i ((k:Int)),.p br (iC+k),.i tw,.i ((fr:Int)),.i en_,.b false,.b false,.b false,.p w.heap.size 0,.p w.heap.size 1,.v (.slice (some ⟨bi,oi,none⟩) P.Ve.ZJ.length ci),.i ((fr:Int)),.p bi (oi+fr*3),.p bi (oi+fr*3+1),.t xg,.b false,.b false,.b false,.p w.heap.size 0,.p w.heap.size 1,.v (.slice (some ⟨bi,oi,none⟩) P.Ve.ZJ.length ci),.i ((fr:Int)),.p bi (oi+fr*3),.p bi (oi+fr*3+2),.i xr,.b false] (λ_ _ _=>True) ?_ ?_
  .intro i hi o X a wx D A Y hb O
   have cz:=bc Y el x0;have bu:=bc Y jg DM;have cg:=bc Y jf DW;have cx:=bc Y el R;have ay:=bc Y jS F1;have ef:=bc Y jS F2
   match i,hi with
   |0,_|2,_|3,_|4,_|5,_|7,_|10,_|13,_|16,_|17,_|18,_|19,_|21,_|23,_|26,_|27,_|28,_|29,_|31,_|33,_=>exact sP X O D A
   |1,_=>exact sD X O D A (CF _ Y)
   |6,_=>exact sL X O D A (hl:=GR ‹_›)
   |8,_|11,_|22,_|32,_=>exact sI X O D A (hr:=by clear A D O;go_simp)
   |9,_=>exact sL X O D A (hl:=K5 ‹_›)
   |12,_|34,_=>exact sL X O D A (hl:=F7 ‹_›)
   |14,_=>exact sD X O D A (CP _ Y)
   |20,_|30,_=>exact sL X O D A (hl:=Gi ‹_›)
   |24,_=>exact sL X O D A (hl:=Zq ‹_›)
   |15,_=>clear cz bu cg cx ay ef;obtain rfl:=yP X;have gX:(a.tmps[61]?.getD Θ)=.int .i64 tw:=Bd A 12;have kg:(a.tmps[63]?.getD Θ)=.int .i64 en_:=Bd A 14;have d3:(a.tmps[52]?.getD Θ)=.bool false:=Bd A 3;clear A D;refine AT.yes rfl rfl d3 ?_;go_simp;exact O _ _ rfl (yN _ _)
   |25,_=>clear cz bu cg cx ay ef;obtain rfl:=yP X;have pj:(a.tmps[73]?.getD Θ)=.string xg:=Bd A 24;have lm:(a.tmps[66]?.getD Θ)=.bool false:=Bd A 17;clear A D;refine AT.yes rfl rfl lm ?_;go_simp;exact O _ _ rfl (yN _ _)
   |35,_=>clear cz bu cg cx ay ef;obtain rfl:=yP X;have rD:(a.tmps[83]?.getD Θ)=.int .i64 xr:=Bd A 34;have nX:(a.tmps[76]?.getD Θ)=.bool false:=Bd A 27;clear A D;refine AT.yes rfl rfl nX ?_;go_simp;exact O _ _ rfl (yN _ _)
   |_+36,hq=>omega
  intro vs wx hR Y
  have g0:(vs 27)=.bool false:=Be hR 27;have kt:(vs 35)=.bool false:=Be hR 35;clear hR;simp only[Aj,Ae,yL,yI,yJ,yH,g0,kt];simp;clear g0 kt;have gV:=K.trans (Y.mono K.size);clear Y x0 R DM DW;go_wp2;go_roundw;exact⟨k+1,ω,ξ,Am df S.u,gV⟩;simp[intOf];omega
 have ek:k=4:=ω;have bk:=df.u;rw[ek] at bk;have S:=AA (ls.trans (ym.2 λj hj=>bk j (yh.1 hj)));have kQ:¬(k:Int)<4:=ω;clear df bk;go_wp2;go_ret;exact⟨AF S.symm,ad.trans (K.mono ad.size)⟩
theorem Vt{l:List Bz}{k s:Nat}(hk:k<l.length):Cq (l.take (k+1)) s=Cq (l.take k) s+(if(AD l k).w=2/\(AD l k).a=(s:Int) then 1 else 0):=by
 unfold Cq;rw[DQ (x:=AD l k) (A9 hk),List.countP_append]
 congr 1
 simp only[List.countP_cons,List.countP_nil,DZ,yC,decide_eq_true_eq,Nat.zero_add]
theorem Ye{l:List Bz}{s:Nat}:Cq l s<=l.length:=by unfold Cq;exact wC
theorem VQ (mv iv ev cv sv lv qv:Φ)(P:AR)(w:Ω)(h:Kr w mv iv ev cv sv lv qv P)(gg:P.swap.length=16)(hE:P.XY.length<=1048576):
 Ξ prog 44 #[AN mv iv ev cv sv lv qv P.FV P.U4] w λr E=>r=.returned (.bool ((yL 16).all (EY P)))/\Γ w w E:=by
 unfold AN;obtain⟨res,fm⟩:∃res,res=(yL 16).all (EY P):=⟨_,rfl⟩
 rw[<-fm];have lx:=AA fm;clear fm;obtain⟨N0,b0⟩:=Ec w (.cells #[mv,iv,ev,cv,sv,lv,qv,P.FV,P.U4] 32);have h0:=h.below b0;obtain⟨aq,cq,rfl,_,_,pF⟩:=BN.open Fy ψ h0.2.2.2;obtain⟨pr,pm,rfl,_,_,iR⟩:=h0.2.1.open;obtain⟨_,_,_,_,x4,_,x6,_,_⟩:=AC N0;have lu:=AA gg;clear h gg N0 h0;go_in;go_wp2_with fail;generalize w.alloc _=W0 at*;have HQ:=AA pF;have HS:=AA iR;have ad:=AA b0;clear pF iR b0;go_loopw [3,4,5] (λix _ _ wr=>∃i0:Nat,i0<=16/\ix=.int .i64 i0/\(∀j,j<i0->EY P j=true)/\W0=wr) (λix _ _ _=>16 - (intOf ix).toNat)
 exact⟨0,yu _,rfl,λj hj=>absurd hj (xU _),rfl⟩
 obtain⟨i0,hi,rfl,bk,rfl⟩:=hrel;have df:=AA bk;clear bk
 by_cases ao:i0<16
 .have lT:(i0:Int)<P.swap.length:=by have:=lu.u;omega
  go_wp2_with fail;go_loopw [4,5] (λs4 s5 wi=>∃k:Nat,k<=P.XY.length/\s5=.int .i64 k/\s4=.int .i64 (Cq (P.XY.take k) i0:Nat)/\W0=wi) (λ_ s5 _=>P.XY.length - (intOf s5).toNat)
  exact⟨0,yu _,rfl,rfl,rfl⟩
  obtain⟨k,hk,rfl,rfl,rfl⟩:=hrel
  by_cases nk:k<P.XY.length
  .have kQ:(k:Int)<P.XY.length:=ω
   obtain⟨b,g7,rfl,_,D0,D1,_⟩:=HQ.zB nk;have S:=Vt (s:=i0) nk;have je:=Ye (l:=P.XY.take k) (s:=i0);rw[List.length_take] at je
   by_cases hw:(AD P.XY k).w=2
   .have t0:((AD P.XY k).w==2)=true:=by simp[hw]
    by_cases ha:(AD P.XY k).a=(i0:Int)
    .have t1:((AD P.XY k).a==(i0:Int))=true:=by simp[ha]
     rw[if_pos ⟨hw,ha⟩] at S;have S:=AA S;generalize Cq (P.XY.take k) i0=n0 at*;clear hw ha;go_wp2;go_roundw;exact⟨k+1,ω,ξ,by rw[S.u];go_num,by first|rfl|trivial⟩;simp[intOf];omega
    have t1:((AD P.XY k).a==(i0:Int))=false:=by simp[ha]
    rw[if_neg (λh=>ha h.2)] at S;have S:=AA S;clear hw ha;go_wp2;go_roundw;exact⟨k+1,ω,ξ,by rw[S.u,xT],by first|rfl|trivial⟩;simp[intOf];omega
   have t0:((AD P.XY k).w==2)=false:=by simp[hw]
   rw[if_neg (λh=>hw h.1)] at S;have S:=AA S;clear hw;go_wp2;go_roundw;exact⟨k+1,ω,ξ,by rw[S.u,xT],by first|rfl|trivial⟩;simp[intOf];omega
  obtain rfl:k=P.XY.length:=ω;have kQ:¬(P.XY.length:Int)<P.XY.length:=ω;rw[List.take_length];obtain⟨b,g7,u,rfl,bn,Hb,hr⟩:=HS i0 (by have:=lu.u;omega);obtain⟨au,cu,rfl,_,_,_⟩:=hr.open;have SO:EY P i0=decide (Cq P.XY i0=if(AJ P.swap i0).isEmpty then 0 else 1):=rfl;have EM:(AJ P.swap i0).isEmpty=true↔(AJ P.swap i0).length=0:=by cases AJ P.swap i0<;>simp
  have jZ:=AA (λ(hx:EY P i0=false)=>(lx.trans (G0 ao hx):res=false));generalize Cq P.XY i0=n0 at SO ⊢;have qW:(0:Int)<=((AJ P.swap i0).length:Int):=ω;by_cases V:1<n0
  .have t1:(1:Int)<(n0:Int):=ω
   have S:=AA (jZ (by rw[SO];split<;>simp<;>omega));clear SO EM hr;go_wp2;go_ret;exact⟨AF S.symm,ad.u⟩
  have t1:¬(1:Int)<(n0:Int):=ω;by_cases he:(AJ P.swap i0).length=0
  .have t2:¬(0:Int)<((AJ P.swap i0).length:Int):=ω
   have pX:decide (0<(AJ P.swap i0).length)=false:=decide_eq_false ω;rw[if_pos (EM.2 he)] at SO
   by_cases hn:n0=0
   .have t3:((n0:Int)==1)=false:=beq_eq_false_iff_ne.2 ω
    have S:=AA (show EY P i0=true by rw[SO];simp[hn]);clear SO EM hr hn he;go_wp2;go_roundw;exact⟨i0+1,ω,ξ,Am df S.u,by first|rfl|trivial⟩;simp[intOf];omega
   have t3:((n0:Int)==1)=true:=beq_iff_eq.2 ω;have S:=AA (jZ (by rw[SO];simp[hn]));clear SO EM hr hn he;go_wp2;go_ret;exact⟨AF S.symm,ad.u⟩
  have t2:(0:Int)<((AJ P.swap i0).length:Int):=ω;have pX:decide (0<(AJ P.swap i0).length)=true:=decide_eq_true ω;rw[if_neg (λh=>he (EM.1 h))] at SO
  by_cases hn:n0=1
  .have t3:((n0:Int)==1)=true:=beq_iff_eq.2 ω
   have S:=AA (show EY P i0=true by rw[SO];simp[hn]);clear SO EM hr hn he;go_wp2;go_roundw;exact⟨i0+1,ω,ξ,Am df S.u,by first|rfl|trivial⟩;simp[intOf];omega
  have t3:((n0:Int)==1)=false:=beq_eq_false_iff_ne.2 ω;have S:=AA (jZ (by rw[SO];simp[hn]));clear SO EM hr hn he;go_wp2;go_ret;exact⟨AF S.symm,ad.u⟩
 have ek:i0=16:=ω;have bk:=df.u;rw[ek] at bk;have S:=AA (show res=true from lx.trans (ym.2 λj hj=>bk j (yh.1 hj)));have lT:¬(i0:Int)<P.swap.length:=by have:=lu.u;omega
 clear df bk;go_wp2;go_ret;exact⟨AF S.symm,ad.u⟩
theorem Eo (mv iv ev cv sv lv qv:Φ)(P:AR)(w:Ω)(h:Kr w mv iv ev cv sv lv qv P)(z:KH P.Ve):
 Ξ prog 16 #[AN mv iv ev cv sv lv qv P.FV P.U4] w λr E=>r=.returned (.bool (By P))/\Γ w w E:=by
 obtain⟨po,hpo⟩:∃po,po=By P:=⟨_,rfl⟩
 rw[<-hpo];have PO:=AA (show po=(DG P.Ve&&F3 P.swap&&IH P.Ve&&Ch P&&decide (P.XY.length=16)&&(yL 16).all (EY P)&&(yL 16).all (HZ P)&&Bo P.FV 0 15&&Bo P.U4 1 6&&decide ((Al P.XY 1:Int)<=P.U4)) from hpo);clear hpo;unfold AN;obtain⟨N0,b0⟩:=Ec w (.cells #[mv,iv,ev,cv,sv,lv,qv,P.FV,P.U4] 32);have HR:=AA (h.below b0);have Hs:=AA z;obtain⟨aq,cq,rfl,_,_⟩:=h.2.2.2.shape;obtain⟨x0,R,x2,x3,x4,x5,x6,x7,x8⟩:=AC N0;clear h z;go_in;go_wp2_with fail;generalize w.alloc _=W0 at*;have HN:=AA N0;have ad:=AA b0;have K:Γ W0 W0 W0:=yN _ _;clear N0 b0;cases e1:DG P.Ve
 .have S:=AA (show po=false by rw[PO.u];simp[e1])
  have C:=LE mv iv ev cv P.Ve _ (HR.1.below K) Hs.u;rw[e1] at C;clear e1;go_wp2_with (refine C.mono ?_;rintro r w_ ⟨rfl,cN⟩;clear x0 R x2 x3 x4 x5 x6 x7 x8);go_ret;exact⟨AF S.symm,ad.trans ((K.trans (cN.mono K.size)).mono ad.size)⟩
 have C:=LE mv iv ev cv P.Ve _ (HR.1.below K) Hs.u;rw[e1] at C;have T1:=AA e1;rw[e1] at PO;clear e1;go_wp2_with fail;refine C.mono ?_;rintro r w_ ⟨rfl,cN⟩;replace K:=K.trans (cN.mono K.size);clear cN C x0 R x2 x3 x4 x5 x6 x7 x8;obtain⟨x0,R,x2,x3,x4,x5,x6,x7,x8⟩:=AC (AB HN K);cases e2:F3 P.swap
 .have S:=AA (show po=false by rw[PO.u];simp[e2])
  have C:=Iq sv P.swap _ (HR.2.1.below K);rw[e2] at C;clear e2;go_wp2_with (refine C.mono ?_;rintro r w_ ⟨rfl,cN⟩;clear x0 R x2 x3 x4 x5 x6 x7 x8);go_ret;exact⟨AF S.symm,ad.trans ((K.trans (cN.mono K.size)).mono ad.size)⟩
 have C:=Iq sv P.swap _ (HR.2.1.below K);rw[e2] at C;have T2:=AA e2;rw[e2] at PO;clear e2;go_wp2_with fail;refine C.mono ?_;rintro r w_ ⟨rfl,cN⟩;replace K:=K.trans (cN.mono K.size);clear cN C x0 R x2 x3 x4 x5 x6 x7 x8;obtain⟨x0,R,x2,x3,x4,x5,x6,x7,x8⟩:=AC (AB HN K);cases e3:IH P.Ve
 .have S:=AA (show po=false by rw[PO.u];simp[e3])
  have C:=OZ mv iv ev cv P.Ve _ (HR.1.2.2.1.below K) (FN.1 T1.u).zX Hs.2;rw[e3] at C;clear e3;go_wp2_with (refine C.mono ?_;rintro r w_ ⟨rfl,cN⟩;clear x0 R x2 x3 x4 x5 x6 x7 x8);go_ret;exact⟨AF S.symm,ad.trans ((K.trans (cN.mono K.size)).mono ad.size)⟩
 have C:=OZ mv iv ev cv P.Ve _ (HR.1.2.2.1.below K) (FN.1 T1.u).zX Hs.2;rw[e3] at C;have T3:=AA e3;rw[e3] at PO;clear e3;go_wp2_with fail;refine C.mono ?_;rintro r w_ ⟨rfl,cN⟩;replace K:=K.trans (cN.mono K.size);clear cN C x0 R x2 x3 x4 x5 x6 x7 x8;obtain⟨x0,R,x2,x3,x4,x5,x6,x7,x8⟩:=AC (AB HN K);have TX:=AA (λW (hW:Γ W0 W0 W)=>Tn mv iv ev cv sv lv _ P W (HR.below hW) T1.u);unfold AN at TX;cases e4:Ch P
 .have S:=AA (show po=false by rw[PO.u];simp[e4])
  have C:=TX _ K;rw[e4] at C;clear e4;go_wp2_with (refine C.mono ?_;rintro r w_ ⟨rfl,cN⟩;clear x0 R x2 x3 x4 x5 x6 x7 x8);go_ret;exact⟨AF S.symm,ad.trans ((K.trans (cN.mono K.size)).mono ad.size)⟩
 have C:=TX _ K;rw[e4] at C;have T4:=AA e4;rw[e4] at PO;clear e4;go_wp2_with fail;refine C.mono ?_;rintro r w_ ⟨rfl,cN⟩;replace K:=K.trans (cN.mono K.size);clear cN C x0 R x2 x3 x4 x5 x6 x7 x8;obtain⟨x0,R,x2,x3,x4,x5,x6,x7,x8⟩:=AC (AB HN K);clear TX
 rcases vS (P.XY.length=16) with hE|hE
 rotate_left
 .have S:=AA (show po=false by rw[PO.u];simp[hE])
  have t5:((P.XY.length:Int) !=16)=true:=bne_iff_ne.2 ω;clear hE;go_wp2;go_ret;exact⟨AF S.symm,ad.trans (K.mono ad.size)⟩
 have t5:((P.XY.length:Int) !=16)=false:=by rw[hE];rfl
 have lz:=AA hE;rw[decide_eq_true hE] at PO;clear hE;have SX:=AA (λW (hW:Γ W0 W0 W)=>VQ mv iv ev cv sv lv _ P W (HR.below hW) (Gw.1 T2.u).1 (by have:=lz.u;omega));unfold AN at SX;obtain⟨sl,gg⟩:∃sl,sl=(yL 16).all (EY P):=⟨_,rfl⟩
 rw[<-gg] at SX PO;clear gg;cases e6:sl
 .have S:=AA (show po=false by rw[PO.u];simp[e6])
  have C:=SX _ K;rw[e6] at C;clear e6;go_wp2_with (refine C.mono ?_;rintro r w_ ⟨rfl,cN⟩;clear x0 R x2 x3 x4 x5 x6 x7 x8);go_ret;exact⟨AF S.symm,ad.trans ((K.trans (cN.mono K.size)).mono ad.size)⟩
 have C:=SX _ K;rw[e6] at C;have T6:=AA e6;rw[e6] at PO;clear e6;go_wp2_with fail;refine C.mono ?_;rintro r w_ ⟨rfl,cN⟩;replace K:=K.trans (cN.mono K.size);clear cN C x0 R x2 x3 x4 x5 x6 x7 x8;obtain⟨x0,R,x2,x3,x4,x5,x6,x7,x8⟩:=AC (AB HN K);clear SX t5;have kJ:=AA (TI T4.u);have HF:dv (fT P):=AA ⟨T1.u,T2.u,kJ.1,kJ.2,lz.u⟩;have oB:=AA (λW (hW:Γ W0 W0 W) n (hn:n<16)=>Wl mv iv ev cv sv lv _ P n W (HR.below hW) HF hn);unfold AN at oB;have bt:=AA K;clear K x0 R x2 x3 x4 x5 x6 x7 x8;go_wp2_with fail;go_loopw [3] (λs3 wr=>∃k:Nat,k<=16/\s3=.int .i64 k/\(∀j,j<k->HZ P j=true)/\Γ W0 W0 wr) (λs3 _=>16 - (intOf s3).toNat)
 exact⟨0,yu _,rfl,λj hj=>absurd hj (xU _),bt.u⟩
 obtain⟨k,hk,rfl,bk,K⟩:=hrel;have df:=AA bk;clear bk;obtain⟨x0,R,x2,x3,x4,x5,x6,x7,x8⟩:=AC (AB HN K)
 by_cases ao:k<16
 .have kQ:(k:Int)<P.XY.length:=by have:=lz.u;omega
  have C:=oB wr K k ao;cases e1:HZ P k
  .rw[e1] at C
   have S:=AA (show po=false by rw[PO.u,G0 ao e1];simp);clear e1;go_wp2_with (refine C.mono ?_;rintro r w_ ⟨rfl,cN⟩);go_ret;exact⟨AF S.symm,ad.trans ((K.trans (cN.mono K.size)).mono ad.size)⟩
  rw[e1] at C
  have S:=AA e1;clear e1;go_wp2_with fail;refine C.mono ?_;rintro r w_ ⟨rfl,cN⟩;go_wp2;go_roundw;exact⟨k+1,ω,ξ,Am df S.u,K.trans (cN.mono K.size)⟩;simp[intOf];omega
 have ek:k=16:=ω;have bk:=df.u;rw[ek] at bk;have gR:=AA (show po=(Bo P.FV 0 15&&Bo P.U4 1 6&&decide ((Al P.XY 1:Int)<=P.U4)) by
  rw[PO.u,show(yL 16).all (HZ P)=true from ym.2 λj hj=>bk j (yh.1 hj)];simp)
 have kQ:¬(k:Int)<P.XY.length:=by have:=lz.u;omega
 have iw:=AY (AB HN K);have j1:=λW (hW:Γ wr wr W)=>A7 (DF P.FV 0 15 W)
 have j0:=λW (hW:Γ wr wr W)=>A7 (DF P.U4 1 6 W)
 have mp:=λW (hW:Γ wr wr W)=>Oa mv iv ev cv sv lv _ P 1 W (BN.below (BN.below HR.2.2.2 K) hW) (by have:=lz.u;omega)
 unfold AN at mp;generalize Al P.XY 1=cn at mp gR;have CN:=AA mp;clear df bk mp PO oB;cases V:Bo P.FV 0 15
 .rw[V] at j1
  have CH:=AA j1;have S:=AA (show po=false by rw[gR.u,V];rfl);clear j1 j0 V;go_wp2_with fail;refine Ac 14 62 [.p w.heap.size 7,.i (P.FV),.b false,.b false,.u,.u,.u,.b false,.b false,.u,.u,.u,.u,.u] (λ_ _ _=>True) ?_ ?_
  .intro i hi o X a wx D A Y hb O
   match i,hi with
   |0,_|3,_|7,_|8,_=>exact sP X O D A
   |1,_=>exact sL X O D A (hl:=F7 (bc Y iw x7))
   |2,_=>exact sD X O D A (CH _ Y)
   |4,_|5,_|6,_|9,_|10,_|11,_|12,_|13,_=>exact sB X O A
  intro vs wx hR Y
  have q8:(vs 8)=.bool false:=Be hR 8;clear hR;simp only[Aj,Ae,yL,yI,yJ,yH,q8];simp;clear q8;have gV:=K.trans (Y.mono K.size);clear x0 R x2 x3 x4 x5 x6 x7 x8 Y;go_wp2;go_ret;exact⟨AF S.symm,ad.trans (gV.mono ad.size)⟩
 rw[V] at j1
 have CH:=AA j1;cases L:Bo P.U4 1 6
 .rw[L] at j0
  have CL:=AA j0;have S:=AA (show po=false by rw[gR.u,V,L];rfl);clear j1 j0 V L;go_wp2_with fail;refine Ac 14 62 [.p w.heap.size 7,.i (P.FV),.b true,.b true,.p w.heap.size 8,.i (P.U4),.b false,.b false,.b false,.u,.u,.u,.u,.u] (λ_ _ _=>True) ?_ ?_
  .intro i hi o X a wx D A Y hb O
   have cz:=bc Y iw x7;have bu:=bc Y iw x8
   match i,hi with
   |0,_|3,_|4,_|7,_|8,_=>exact sP X O D A
   |1,_|5,_=>exact sL X O D A (hl:=F7 ‹_›)
   |2,_=>exact sD X O D A (CH _ Y)
   |6,_=>exact sD X O D A (CL _ Y)
   |9,_|10,_|11,_|12,_|13,_=>exact sB X O A
  intro vs wx hR Y
  have q8:(vs 8)=.bool false:=Be hR 8;clear hR;simp only[Aj,Ae,yL,yI,yJ,yH,q8];simp;clear q8;have gV:=K.trans (Y.mono K.size);clear x0 R x2 x3 x4 x5 x6 x7 x8 Y;go_wp2;go_ret;exact⟨AF S.symm,ad.trans (gV.mono ad.size)⟩
 rw[L] at j0
 have CL:=AA j0;have S:=AA (show po=decide ((cn:Int)<=P.U4) by rw[gR.u,V,L];rfl);clear j1 j0 V L;go_wp2_with fail;refine Ac 14 62 [.p w.heap.size 7,.i (P.FV),.b true,.b true,.p w.heap.size 8,.i (P.U4),.b true,.b true,.b true,.a #[mv,iv,ev,cv,sv,lv,.slice aq P.XY.length cq,.int .i64 (P.FV),.int .i64 (P.U4)],.i ((cn:Int)),.p w.heap.size 8,.i (P.U4),.b (decide ((cn:Int)<=P.U4))] (λ_ _ _=>True) ?_ ?_
 .intro i hi o X a wx D A Y hb O
  have cz:=bc Y iw x7;have bu:=bc Y iw x8;have cg:=bc Y iw x0;have cx:=bc Y iw R;have ay:=bc Y iw x2;have ef:=bc Y iw x3;have jr:=bc Y iw x4;have j2:=bc Y iw x5;have kx:=bc Y iw x6
  match i,hi with
  |0,_|3,_|4,_|7,_|8,_|11,_=>exact sP X O D A
  |1,_|5,_|12,_=>exact sL X O D A (hl:=F7 ‹_›)
  |2,_=>exact sD X O D A (CH _ Y)
  |6,_=>exact sD X O D A (CL _ Y)
  |9,_=>exact sL X O D A (hl:=Pj ‹_› ‹_› ‹_› ‹_› ‹_› ‹_› ‹_› ‹_› ‹_›)
  |10,_=>exact sD X O D A (CN _ Y)
  |13,_=>clear cz bu cg cx ay ef jr j2 kx;obtain rfl:=yP X;have lp:(a.tmps[57]?.getD Θ)=.int .i64 cn:=Bd A 10;have gX:(a.tmps[59]?.getD Θ)=.int .i64 (P.U4):=Bd A 12;have d8:(a.tmps[55]?.getD Θ)=.bool true:=Bd A 8;clear A D;refine AT.yes rfl rfl d8 ?_;go_simp;exact O _ _ rfl (yN _ _)
 intro vs wx hR Y
 have q8:(vs 8)=.bool true:=Be hR 8;have kv:(vs 13)=.bool (decide ((cn:Int)<=P.U4)):=Be hR 13;clear hR;simp only[Aj,Ae,yL,yI,yJ,yH,q8,kv];simp;clear q8 kv;have gV:=K.trans (Y.mono K.size);clear x0 R x2 x3 x4 x5 x6 x7 x8 Y;go_wp2;go_ret;exact⟨AF S.symm,ad.trans (gV.mono ad.size)⟩
theorem Lu (mv iv ev cv sv lv qv:Φ)(P:AR)(w:Ω)(h:Kr w mv iv ev cv sv lv qv P)(hP:Dz P)(hn:n<16):
 Ξ prog 79 #[AN mv iv ev cv sv lv qv P.FV P.U4,.int .i64 n] w (FJ w (Br P n)):=by
 have ex:=λlo W m i e c s l q (HK:EI lo W m i e c s l q P) (hl:lo<=W.heap.size)=>VR HK hl hP hn
 have HT:=λ(h:(Br P n).2=false)=>GW hP hn h
 generalize Br P n=t at ex HT ⊢;obtain⟨Q,bb⟩:=t;unfold Nn AN at ex;dsimp only at ex HT ⊢;have ex:=AA ex;have HT:=AA HT;unfold AN FJ AN;obtain⟨N0,N1,ac,az⟩:=LF w (.cells #[mv,iv,ev,cv,sv,lv,qv,P.FV,P.U4] 32) (.cells #[ι,ι,ι,ι,ι,ι,ι,θ,θ] 32);have h0:=h.below ac;have ez:By P=true:=EB.2 hP;obtain⟨x0,R,x2,x3,x4,x5,x6,x7,x8⟩:=AC N0;have iO:=AA az;clear az;go_in;go_wp2_with fail;generalize(w.alloc _).alloc _=W0 at*;have CV:=Eo mv iv ev cv sv lv qv P W0 h0 (Cm hP.k);have CO:=AA (λW (hW:Γ W0 W0 W)=>Kg mv iv ev cv sv lv qv P W (h0.below hW) hP);rw[ez] at CV;unfold AN at CV CO;have bw:=AA ac;have ad:=AA N0;have bt:=AA N1;have pG:=AA hP;have jb:Bo (n:Int) 0 15=true:=Aa.2 ω;clear h h0 ac N0 N1 hP ez x0 R x2 x3 x4 x5 x6 x7 x8;refine CV.mono ?_;rintro r w1 ⟨rfl,b1⟩;obtain⟨x0,R,x2,x3,x4,x5,x6,x7,x8⟩:=AC (AB ad b1);have bX:=AA b1;clear b1 CV;go_wp2_with fail;refine(DF _ _ _ _).mono ?_;rintro r w2 ⟨rfl,rfl⟩;rw[jb];go_wp2_with fail;refine(CO w1 bX.u).mono ?_;rintro r w2 ⟨m2,i2,e2,c2,s2,l2,q2,rfl,O2,b2⟩;unfold AN;obtain⟨⟨⟨ma,mn,mc,rfl⟩,⟨ia,iN,ic,rfl⟩,⟨ea,en,ec,rfl⟩,⟨ka,kn,kc,rfl⟩⟩,⟨sa,sn,sc,rfl⟩,⟨la,ln,lc,rfl⟩,⟨pa,pn,pc,rfl⟩⟩:=O2.Dq;have CT:=AA (ex _ _ _ _ _ _ _ _ _ O2 b2.size);clear ex;have hH:=AA b2;clear O2 b2 x0 R x2 x3 x4 x5 x6 x7 x8;go_wp2_with fail;refine CT.mono ?_;rintro r w3 ⟨hy,nd,b3,s3⟩;have lq:=bX.trans ((hH.trans b3).mono bX.size);have B2:=AB (AB bt bX.u) hH.u;have N3:=s3 _ _ B2;cases bb
 focus
  obtain rfl:=nd rfl
  obtain rfl:=HT rfl;have b4:=AG w3 (.cells #[.slice ma mn mc,.slice ia iN ic,.slice ea en ec,.slice ka kn kc,.slice sa sn sc,.slice la ln lc,.slice pa pn pc,Q.FV,Q.U4] 32);have B4:=AB N3 b4;have md:=lq.trans (b4.mono lq.size);obtain⟨x0,R,x2,x3,x4,x5,x6,x7,x8⟩:=AC (AB ad md);have b9:=AA (bw.trans (md.mono bw.size));have pR:=AA (CO _ md);have gj:=AA B4;clear hy nd b3 s3 lq B2 N3 b4 md CT B4;go_wp2_with fail;refine pR.mono ?_;rintro r w5 ⟨m5,i5,e5,c5,s5,l5,q5,rfl,O5,b5⟩;unfold AN;clear x0 R x2 x3 x4 x5 x6 x7 x8 pR;generalize w3.alloc _=W4 at*;obtain⟨⟨⟨_,_,_,rfl⟩,⟨_,_,_,rfl⟩,⟨_,_,_,rfl⟩,⟨_,_,_,rfl⟩⟩,⟨_,_,_,rfl⟩,⟨_,_,_,rfl⟩,⟨_,_,_,rfl⟩⟩:=O5.Dq;have N5:=AB gj b5;have S5:=Bg N5 O5;obtain⟨a0,a1,a2,a3,a4,a5,a6,a7,a8⟩:=AC N5;have f5:=AK N5;have gS:=AA S5;have fp:=AA b5;have iA:=AA (AY gj.u)
 rotate_left
 focus
  obtain⟨m3,i3,e3,c3,xp,l3,q3,rfl,O3⟩:=hy rfl
  obtain⟨⟨⟨mD,mC,cx,rfl⟩,⟨mQ,mT,mN,rfl⟩,⟨nU,nO,nR,rfl⟩,⟨mK,mE,mH,rfl⟩⟩,⟨p7,pZ,p5,rfl⟩,⟨qu,qr,qs,rfl⟩,⟨qh,qf,qg,rfl⟩⟩:=O3.Dq;have b5:=AG w3 (.cells #[.slice mD mC cx,.slice mQ mT mN,.slice nU nO nR,.slice mK mE mH,.slice p7 pZ p5,.slice qu qr qs,.slice qh qf qg,Q.FV,Q.U4] 32);have O5:=(O3.below b5).lower (lo':=w.heap.size) (yM bw.size bX.size);have b9:=AA (bw.trans (lq.mono bw.size));have pL:=AA N3;clear hy nd b3 s3 lq B2 CT O3 N3;have N5:=AB pL b5;have S5:=Bg N5 O5;obtain⟨a0,a1,a2,a3,a4,a5,a6,a7,a8⟩:=AC N5;have f5:=AK N5;have gS:=AA S5;have fp:=AA b5;have iA:=AA (AY pL.u)
 rotate_left
 all_goals
  clear O5 S5 N5 b5;go_wp2_with fail;clear a0 a1 a2 a3 a4 a5 a6 a7 a8 f5;obtain⟨N6,O6,cy⟩:=gS.u;have B6:=AM (b9.trans (fp.mono (by have:=b9.size;have:=iA.u;omega))) cy ω (by have:=b9.size;have:=fp.size;omega);have O7:=O6.lower (lo':=w.heap.size) (by have:=b9.size;omega);unfold De at N6 O7 B6;exact yB (v:=.tuple #[.agg #[_,_,_,_,_,_,_,_,_],_]) (by simp[results,Tryz.results79,go_sem,AC N6]) rfl ⟨_,_,_,_,_,_,_,rfl,O7,B6⟩
def LQ(w:Ω)(t:AR×Int×Bool)(r:Ending)(E:Ω):Prop:=∃m i e c s l q,r=.returned (.tuple #[AN m i e c s l q t.1.FV t.1.U4,t.2.1,t.2.2])/\EI w E m i e c s l q t.1/\Γ w w E
def JS(w:Ω)(t:AR×Int)(r:Ending)(E:Ω):Prop:=∃m i e c s l q,r=.returned (.tuple #[AN m i e c s l q t.1.FV t.1.U4,t.2])/\EI w E m i e c s l q t.1/\Γ w w E
theorem Wo (h:Br p (a/4)=(Q,true)):IW p a=({Q with Ve:=(Ad Q.Ve (Ah 10 (a:Int) 0 0)).1},(Ad Q.Ve (Ah 10 (a:Int) 0 0)).2.1,true):=by unfold IW;rw[h];rfl
theorem Ur (h:Br p (a/4)=(Q,true)):Gg p a x=({Q with Ve:=(Ad Q.Ve (Ah 11 (a:Int) x 0)).1},true):=by unfold Gg;rw[h];rfl
theorem MX (mv iv ev cv sv lv qv:Φ)(P:AR)(w:Ω)(h:Kr w mv iv ev cv sv lv qv P)(hP:Dz P)(ha:a<64):
 Ξ prog 38 #[AN mv iv ev cv sv lv qv P.FV P.U4,.int .i64 a] w (LQ w (IW P a)):=by
 obtain⟨j,hj⟩:∃j,j=a/4:=⟨_,rfl⟩
 have q1:(a:Int)/4=(j:Int):=ω;have hA:Bo (a:Int) 0 63=true:=Aa.2 ω;have ga:=LJ (p:=P) (n:=a/4) hP ω;have gb:=VX hP ha;have ar:=λQ=>Wo (p:=P) (a:=a) (Q:=Q)
 have ie:j<16:=ω;have gW:=λ(h:(Br P j).2=false)=>GW hP ie h
 have ex:=λW (hR:Kr W mv iv ev cv sv lv qv P)=>Lu mv iv ev cv sv lv qv P W hR hP ie
 rw[<-hj] at ga gb ar;generalize Br P j=t at ga gb ar ex gW;generalize IW P a=tt at gb ar ⊢;obtain⟨Q,bb⟩:=t;dsimp only at ga gb ar ex gW;have HC:=λm i e c W (hR:Nk W m i e c Q.Ve)=>GK hR ga.k 10 (a:Int) 0 0 ψ
 have ar:=ar Q;generalize Ad Q.Ve (Ah 10 (a:Int) 0 0)=res at HC ar;obtain⟨kr,vr,nr⟩:=res;unfold LR at HC;dsimp only at HC ar;have HC:=AA HC;unfold FJ AN at ex;have ex:=AA ex;unfold AN LQ AN;obtain⟨N0,N1,ac,az⟩:=LF w (.cells #[mv,iv,ev,cv,sv,lv,qv,P.FV,P.U4] 32) (.cells #[ι,ι,ι,ι,ι,ι,ι,θ,θ] 32);have h0:=h.below ac;have ez:By P=true:=EB.2 hP;obtain⟨x0,R,x2,x3,x4,x5,x6,x7,x8⟩:=AC N0;have iO:=AA az;clear az;go_in;go_wp2_with fail;generalize(w.alloc _).alloc _=W0 at*;have CV:=Eo mv iv ev cv sv lv qv P W0 h0 (Cm hP.k);rw[ez] at CV;have eD:=AA h0;have iQ:=AA gW;unfold AN at CV;have cT:=AA ga;have iS:=AA gb;have es:=AA ar;have bw:=AA ac;have ad:=AA N0;have bt:=AA N1;clear h h0 ac N0 N1 hP ez x0 R x2 x3 x4 x5 x6 x7 x8 ga gb ar hj gW;refine CV.mono ?_;rintro r w1 ⟨rfl,b1⟩;obtain⟨x0,R,x2,x3,x4,x5,x6,x7,x8⟩:=AC (AB ad b1);have bX:=AA b1;clear b1 CV;go_wp2_with fail;refine(Fv _ _).mono ?_;rintro r w2 ⟨rfl,rfl⟩;rw[hA];go_wp2_with fail;refine(ex w1 (eD.below bX.u)).mono ?_;rintro r w2 ⟨m2,i2,e2,c2,s2,l2,q2,rfl,O2,b2⟩;obtain⟨⟨⟨ma,mn,mc,rfl⟩,⟨ia,iN,ic,rfl⟩,⟨ea,en,ec,rfl⟩,⟨qa,qn,qc,rfl⟩⟩,⟨sa,sn,sc,rfl⟩,⟨la,ln,lc,rfl⟩,⟨pa,pn,pc,rfl⟩⟩:=O2.Dq;have bA:=AG w2 (.cells #[.slice ma mn mc,.slice ia iN ic,.slice ea en ec,.slice qa qn qc,.slice sa sn sc,.slice la ln lc,.slice pa pn pc,Q.FV,Q.U4] 32);have I3:=Hj.start O2 b2.size;have ee:=bX.trans ((b2.trans (bA.mono b2.size)).mono bX.size);have cF:=AA I3;have N3:=AA (AB bt ee);have b9:=AA (bw.trans (ee.mono bw.size));have gZ:=AA (yM bw.size bX.size);have iP:=AA (yM b2.size bA.size);clear O2 bA I3 ee b2 x0 R x2 x3 x4 x5 x6 x7 x8 ex eD;cases bb
 focus
  have e:=iS rfl
  obtain rfl:=iQ rfl;subst e;clear iS es iQ HC;have S5:=Bg N3 (cF.own.lower gZ.u);obtain⟨c0,c1,c2,c3,c4,c5,c6,c7,c8⟩:=cF.cells;obtain⟨a0,a1,a2,a3,a4,a5,a6,a7,a8⟩:=AC N3.u;have f5:=AK N3.u;have gS:=AA S5;clear S5;go_wp2_with fail;obtain⟨N6,O6,cy⟩:=gS.u;have B6:=AM b9 cy ω b9.size
 rotate_left
 focus
  have e:=es rfl
  subst e;have C3:=AA (HC _ _ _ _ _ cF.own.ker.rd);obtain⟨c0,c1,c2,c3,c4,c5,c6,c7,c8⟩:=cF.cells;clear es iS iQ HC;go_wp2_with fail;generalize lV:w2.heap.size=g3 at*;generalize w2.alloc _=W3 at*;refine C3.mono ?_;rintro r w4 ⟨m4,i4,e4,pp,rfl,O4,b4⟩;obtain⟨⟨gK,gz,ay,rfl⟩,⟨gM,gN,gL,rfl⟩,⟨gQ,gO,gP,rfl⟩,⟨iq,io,ip,rfl⟩⟩:=O4.Dq;have bA:=AG w4 (.cells #[.slice gK gz ay,.slice gM gN gL,.slice gQ gO gP,.slice iq io ip] 28);have fo:=b4.trans (bA.mono b4.size);have I4:=cF.below fo;have I5:=cF.put fo (yF _) iP (O4.below bA);have G5:=Aq (w4.alloc (.cells #[.slice gK gz ay,.slice gM gN gL,.slice gQ gO gP,.slice iq io ip] 28)) g3 (.slice gK gz ay) (.slice gM gN gL) (.slice gQ gO gP) (.slice iq io ip);have N4:=AB N3 fo;have ng:g3≠w.heap.size+1:=λe=>by have V:=cF.yT;have L:=AY bt.u;have h3:=bX.size;omega
  have N5:=As N4 G5 ng;have B5:=AM (b9.trans (fo.mono b9.size)) G5 (yM gZ cF.yT) (yM b9.size fo.size);obtain⟨d0,d1,d2,d3,_⟩:=I4.cells;have fd:=AK I4.yU;generalize hW5:((((w4.alloc _).setCell _ _).setCell _ _).setCell _ _).setCell _ _=W5 at I5 G5 N5 B5;have S6:=Bg N5 (I5.own.lower gZ.u);obtain⟨y0,y1,y2,y3,y4,y5,y6,y7,y8⟩:=I5.cells;obtain⟨a0,a1,a2,a3,a4,a5,a6,a7,a8⟩:=AC N5;have f5:=AK N5;have lD:=AA S6;have fs:=AA B5;clear S6 b4 bA fo O4 I4 I5 G5 N4 N5 B5 C3 c0 c1 c2 c3 c4 c5 c6 c7 c8;go_wp2_with fail;obtain⟨N6,O6,cy⟩:=lD.u;have B6:=AM fs cy ω fs.size
 rotate_left
 all_goals
  unfold De at N6 O6 B6;exact yB (v:=.tuple #[.agg #[_,_,_,_,_,_,_,_,_],_,_]) (by simp[results,Tryz.results38,go_sem,AC N6]) rfl ⟨_,_,_,_,_,_,_,rfl,O6,B6⟩
theorem Jq (mv iv ev cv sv lv qv:Φ)(P:AR)(w:Ω)(h:Kr w mv iv ev cv sv lv qv P)(hP:Dz P)(ha:a<64)(hx:EJ x=true):
 Ξ prog 39 #[AN mv iv ev cv sv lv qv P.FV P.U4,.int .i64 a,.int .i64 x] w (FJ w (Gg P a x)):=by
 obtain⟨j,hj⟩:∃j,j=a/4:=⟨_,rfl⟩
 have q1:(a:Int)/4=(j:Int):=ω;have hA:Bo (a:Int) 0 63=true:=Aa.2 ω;have ga:=LJ (p:=P) (n:=a/4) hP ω;have gb:=TH (w:=x) hP ha;have ar:=λQ=>Ur (p:=P) (a:=a) (x:=x) (Q:=Q)
 have ie:j<16:=ω;have gW:=λ(h:(Br P j).2=false)=>GW hP ie h
 have ex:=λW (hR:Kr W mv iv ev cv sv lv qv P)=>Lu mv iv ev cv sv lv qv P W hR hP ie
 rw[<-hj] at ga gb ar;generalize Br P j=t at ga gb ar ex gW;generalize Gg P a x=tt at gb ar ⊢;obtain⟨Q,bb⟩:=t;dsimp only at ga gb ar ex gW;have HC:=λm i e c W (hR:Nk W m i e c Q.Ve)=>GK hR ga.k 11 (a:Int) x 0 ψ
 have ar:=ar Q;generalize Ad Q.Ve (Ah 11 (a:Int) x 0)=res at HC ar;obtain⟨kr,vr,nr⟩:=res;unfold LR at HC;dsimp only at HC ar;have HC:=AA HC;unfold FJ AN at ex;have ex:=AA ex;unfold AN FJ AN;obtain⟨N0,N1,ac,az⟩:=LF w (.cells #[mv,iv,ev,cv,sv,lv,qv,P.FV,P.U4] 32) (.cells #[ι,ι,ι,ι,ι,ι,ι,θ,θ] 32);have h0:=h.below ac;have ez:By P=true:=EB.2 hP;obtain⟨x0,R,x2,x3,x4,x5,x6,x7,x8⟩:=AC N0;have iO:=AA az;clear az;go_in;go_wp2_with fail;generalize(w.alloc _).alloc _=W0 at*;have CV:=Eo mv iv ev cv sv lv qv P W0 h0 (Cm hP.k);rw[ez] at CV;have eD:=AA h0;have iQ:=AA gW;unfold AN at CV;have cT:=AA ga;have iS:=AA gb;have es:=AA ar;have bw:=AA ac;have ad:=AA N0;have bt:=AA N1;clear h h0 ac N0 N1 hP ez x0 R x2 x3 x4 x5 x6 x7 x8 ga gb ar hj gW;refine CV.mono ?_;rintro r w1 ⟨rfl,b1⟩;obtain⟨x0,R,x2,x3,x4,x5,x6,x7,x8⟩:=AC (AB ad b1);have bX:=AA b1;clear b1 CV;go_wp2_with fail;refine(Fv _ _).mono ?_;rintro r w2 ⟨rfl,rfl⟩;rw[hA];go_wp2_with fail;refine(DF _ _ _ _).mono ?_;rintro r w2 ⟨rfl,rfl⟩;rw[show Bo x 0 9999=true from hx];go_wp2_with fail;refine(ex w1 (eD.below bX.u)).mono ?_;rintro r w2 ⟨m2,i2,e2,c2,s2,l2,q2,rfl,O2,b2⟩;obtain⟨⟨⟨ma,mn,mc,rfl⟩,⟨ia,iN,ic,rfl⟩,⟨ea,en,ec,rfl⟩,⟨qa,qn,qc,rfl⟩⟩,⟨sa,sn,sc,rfl⟩,⟨la,ln,lc,rfl⟩,⟨pa,pn,pc,rfl⟩⟩:=O2.Dq;have bA:=AG w2 (.cells #[.slice ma mn mc,.slice ia iN ic,.slice ea en ec,.slice qa qn qc,.slice sa sn sc,.slice la ln lc,.slice pa pn pc,Q.FV,Q.U4] 32);have I3:=Hj.start O2 b2.size;have ee:=bX.trans ((b2.trans (bA.mono b2.size)).mono bX.size);have cF:=AA I3;have N3:=AA (AB bt ee);have b9:=AA (bw.trans (ee.mono bw.size));have gZ:=AA (yM bw.size bX.size);have iP:=AA (yM b2.size bA.size);clear O2 bA I3 ee b2 x0 R x2 x3 x4 x5 x6 x7 x8 ex eD;cases bb
 focus
  have e:=iS rfl
  obtain rfl:=iQ rfl;subst e;clear iS es iQ HC;have S5:=Bg N3 (cF.own.lower gZ.u);obtain⟨c0,c1,c2,c3,c4,c5,c6,c7,c8⟩:=cF.cells;obtain⟨a0,a1,a2,a3,a4,a5,a6,a7,a8⟩:=AC N3.u;have f5:=AK N3.u;have gS:=AA S5;clear S5;go_wp2_with fail;obtain⟨N6,O6,cy⟩:=gS.u;have B6:=AM b9 cy ω b9.size
 rotate_left
 focus
  have e:=es rfl
  subst e;have C3:=AA (HC _ _ _ _ _ cF.own.ker.rd);obtain⟨c0,c1,c2,c3,c4,c5,c6,c7,c8⟩:=cF.cells;clear es iS iQ HC;go_wp2_with fail;generalize lV:w2.heap.size=g3 at*;generalize w2.alloc _=W3 at*;refine C3.mono ?_;rintro r w4 ⟨m4,i4,e4,pp,rfl,O4,b4⟩;obtain⟨⟨gK,gz,ay,rfl⟩,⟨gM,gN,gL,rfl⟩,⟨gQ,gO,gP,rfl⟩,⟨iq,io,ip,rfl⟩⟩:=O4.Dq;have bA:=AG w4 (.cells #[.slice gK gz ay,.slice gM gN gL,.slice gQ gO gP,.slice iq io ip] 28);have fo:=b4.trans (bA.mono b4.size);have I4:=cF.below fo;have I5:=cF.put fo (yF _) iP (O4.below bA);have G5:=Aq (w4.alloc (.cells #[.slice gK gz ay,.slice gM gN gL,.slice gQ gO gP,.slice iq io ip] 28)) g3 (.slice gK gz ay) (.slice gM gN gL) (.slice gQ gO gP) (.slice iq io ip);have N4:=AB N3 fo;have ng:g3≠w.heap.size+1:=λe=>by have V:=cF.yT;have L:=AY bt.u;have h3:=bX.size;omega
  have N5:=As N4 G5 ng;have B5:=AM (b9.trans (fo.mono b9.size)) G5 (yM gZ cF.yT) (yM b9.size fo.size);obtain⟨d0,d1,d2,d3,_⟩:=I4.cells;have fd:=AK I4.yU;generalize hW5:((((w4.alloc _).setCell _ _).setCell _ _).setCell _ _).setCell _ _=W5 at I5 G5 N5 B5;have S6:=Bg N5 (I5.own.lower gZ.u);obtain⟨y0,y1,y2,y3,y4,y5,y6,y7,y8⟩:=I5.cells;obtain⟨a0,a1,a2,a3,a4,a5,a6,a7,a8⟩:=AC N5;have f5:=AK N5;have lD:=AA S6;have fs:=AA B5;clear S6 b4 bA fo O4 I4 I5 G5 N4 N5 B5 C3 c0 c1 c2 c3 c4 c5 c6 c7 c8;go_wp2_with fail;obtain⟨N6,O6,cy⟩:=lD.u;have B6:=AM fs cy ω fs.size
 rotate_left
 all_goals
  unfold De at N6 O6 B6;exact yB (v:=.tuple #[.agg #[_,_,_,_,_,_,_,_,_],_]) (by simp[results,Tryz.results39,go_sem,AC N6]) rfl ⟨_,_,_,_,_,_,_,rfl,O6,B6⟩
theorem L9 (mv iv ev cv sv lv qv:Φ)(P:AR)(call:AV)(w:Ω)(h:Kr w mv iv ev cv sv lv qv P)(hP:Dz P)(he:1<=call.e/\call.e<=2)(lS:call.nm.size<=maxLen)(lX:call.c<=9223372036854775807):
 Ξ prog 8 #[AN mv iv ev cv sv lv qv P.FV P.U4,.agg #[call.k,call.e,call.a,call.b,call.c,call.nm]] w (JS w (Io P call)):=by
 unfold AN JS;obtain⟨B0,B1,B2,ac,az⟩:=It w (.cells #[mv,iv,ev,cv,sv,lv,qv,P.FV,P.U4] 32) (.cells #[call.k,call.e,call.a,call.b,call.c,call.nm] 34) (.cells #[ι,ι,ι,ι,ι,ι,ι,θ,θ] 32);have h0:=h.below ac;have ez:By P=true:=EB.2 hP;have cT:=AA ((Sc hP (c:=call) ω).1);have CC:=AA (λm i e c W (hR:Nk W m i e c P.Ve)=>Rg m i e c P.Ve call W hR hP.k ω ω lS lX);have HE:=AA (show Bo call.e 1 2=true from Aa.2 he);have HO:Io P call=({P with Ve:=(Ad P.Ve call).1},(Ad P.Ve call).2.2):=rfl;rw[HO] at cT;have Ho:=AA HO;unfold Mk at CC;generalize Ad P.Ve call=res at CC cT Ho;clear HO;obtain⟨ck,ce,ca,cb,cc,nm⟩:=call;dsimp only at*;go_in;go_wp2_with fail;generalize((w.alloc _).alloc _).alloc _=W0 at*;have CV:=AA (λW (hW:Γ W0 W0 W)=>Gk mv iv ev cv sv lv qv P W (h0.below hW) (Cm hP.k));have CO:=AA (λW (hW:Γ W0 W0 W)=>Jd mv iv ev cv sv lv qv P W (h0.below hW) hP);rw[ez] at CV;have bw:=AA ac;have ad:=AA B0;have bt:=AA B1;have im:=AA B2;have iO:=AA az;clear h h0 ac B0 B1 B2 hP ez az he;refine(CV W0 (yN _ _)).mono ?_;rintro r w1 ⟨rfl,b1⟩;obtain⟨x0,R,x2,x3,x4,x5,x6,x7,x8⟩:=AC (AB ad b1);obtain⟨_,y1,_⟩:=LW (AB bt b1);have bX:=AA b1;clear b1 CV;go_wp2_with fail;refine(Ja _ _).mono ?_;rintro r w2 ⟨rfl,rfl⟩;rw[HE.u];clear y1;go_wp2_with fail;refine(CO w1 bX.u).mono ?_;rintro r w2 ⟨m2,i2,e2,c2,s2,l2,q2,rfl,O2,b2⟩;unfold AN;obtain⟨⟨⟨ma,mn,mc,rfl⟩,⟨ia,iN,ic,rfl⟩,⟨ea,en,ec,rfl⟩,⟨qa,qn,qc,rfl⟩⟩,⟨sa,sn,sc,rfl⟩,⟨la,ln,lc,rfl⟩,⟨pa,pn,pc,rfl⟩⟩:=O2.Dq;have kP:W0.heap.size<=w2.heap.size:=yM bX.size b2.size;have I3:=Hj.start (O2.lower bX.size) kP;have b3:Γ W0 W0 (w2.alloc (.cells #[.slice ma mn mc,.slice ia iN ic,.slice ea en ec,.slice qa qn qc,.slice sa sn sc,.slice la ln lc,.slice pa pn pc,P.FV,P.U4] 32)):=bX.trans ((b2.mono bX.size).trans ((AG _ _).mono kP));obtain⟨y0,y1,y2,y3,y4,y5⟩:=LW (AB bt b3);clear O2 b2 x0 R x2 x3 x4 x5 x6 x7 x8;go_wp2_with fail;generalize w2.heap.size=g3 at*;generalize w2.alloc _=W3 at*;have cF:=AA I3;have jD:=AA b3;clear I3 b3;refine(CC _ _ _ _ W3 cF.own.ker.rd).mono ?_;rintro r w4 ⟨m4,i4,e4,c4,rfl,O4,b4⟩;obtain⟨⟨gK,gz,ay,rfl⟩,⟨gM,gN,gL,rfl⟩,⟨gQ,gO,gP,rfl⟩,⟨mt,mq,mr,rfl⟩⟩:=O4.Dq;have b5:=b4.trans ((AG w4 (.cells #[.slice gK gz ay,.slice gM gN gL,.slice gQ gO gP,.slice mt mq mr] 28)).mono b4.size);have I4:=cF.below b5;have I5:=cF.put b5 (yF _) jD.size (O4.below (AG w4 (.cells #[.slice gK gz ay,.slice gM gN gL,.slice gQ gO gP,.slice mt mq mr] 28)))
 have B5:=AM (jD.trans (b5.mono jD.size)) (Aq _ g3 (.slice gK gz ay) (.slice gM gN gL) (.slice gQ gO gP) (.slice mt mq mr)) cF.yT (yM jD.size b5.size);have jm:=AA I5;have fs:=AA B5;obtain⟨x0,R,x2,x3,x4,x5,x6,x7,x8⟩:=AC I4.yU;have fg:=AK I4.yU;clear y0 y1 y2 y3 y4 y5 O4 b4 b5 I4 I5 B5 CC;go_wp2_with fail;clear x0 R x2 x3 x4 x5 x6 x7 x8 fg;generalize((((w4.alloc _).setCell _ _).setCell _ _).setCell _ _).setCell _ _=W5 at*;have B3:=AB im fs.u;have jo:=AA (bw.trans (fs.mono bw.size));have C6:=Jd _ _ _ _ _ _ _ {P with Ve:=res.1} W5 jm.own.rd cT.u;refine C6.mono ?_;rintro r w5 ⟨m5,i5,e5,c5,s5,l5,q5,rfl,O5,b5⟩;unfold AN;clear C6;obtain⟨⟨⟨ma,mn,mc,rfl⟩,⟨ia,iN,ic,rfl⟩,⟨ea,en,ec,rfl⟩,⟨qa,qn,qc,rfl⟩⟩,⟨sa,sn,sc,rfl⟩,⟨la,ln,lc,rfl⟩,⟨pa,pn,pc,rfl⟩⟩:=O5.Dq;have N5:=AB B3 b5;have S5:=Bg N5 O5;obtain⟨a0,a1,a2,a3,a4,a5,a6,a7,a8⟩:=AC N5;have f5:=AK N5;have gS:=AA S5;have fp:=AA b5;have iA:=AA (AY B3);clear O5 S5 N5 b5 B3;go_wp2_with fail;clear a0 a1 a2 a3 a4 a5 a6 a7 a8 f5;obtain⟨N6,O6,cy⟩:=gS.u;have B6:=AM (jo.trans (fp.mono (by have:=jo.size;have:=iA.u;omega))) cy ω (by have:=jo.size;have:=fp.size;omega);have O7:=O6.lower (lo':=w.heap.size) (by have:=jo.size;omega);unfold De at N6 O7 B6;exact yB (v:=.tuple #[.agg #[.slice ma mn mc,.slice ia iN ic,.slice ea en ec,.slice qa qn qc,.slice sa sn sc,.slice la ln lc,.slice pa pn pc,P.FV,P.U4],res.2.2]) (by simp[results,Tryz.results8,go_sem,AC N6]) rfl (by rw[Ho.u];exact⟨_,_,_,_,_,_,_,rfl,O7,B6⟩)
theorem Ob (mv iv ev cv sv lv qv:Φ)(P:AR)(call:AV)(w:Ω)(h:Kr w mv iv ev cv sv lv qv P)(hP:Dz P)(he:0<=call.e/\call.e<3)(lS:call.nm.size<=maxLen)(lX:call.c<=9223372036854775807):
 Ξ prog 28 #[AN mv iv ev cv sv lv qv P.FV P.U4,.agg call.cs] w (JS w (Io P call)):=by
 unfold AN JS Io AN;have CC:=AA (λW (hR:Nk W mv iv ev cv P.Ve)=>MM hR hP.k call he lS lX);unfold Mk at CC;generalize Ad P.Ve call=res at CC ⊢;obtain⟨kr,vr,nr⟩:=res;obtain⟨ck,ce,ca,cb,cc,nm⟩:=call;simp only[AV.cs] at CC ⊢
 try dsimp only at CC ⊢
 obtain⟨N0,NC,N1,ac,az⟩:=It w (.cells #[mv,iv,ev,cv,sv,lv,qv,P.FV,P.U4] 32) (.cells #[ck,ce,ca,cb,cc,nm] 34) (.cells #[ι,ι,ι,ι,ι,ι,ι,θ,θ] 32);have h0:=h.below ac;have CO:=AA (Kg mv iv ev cv sv lv qv P _ h0 hP);unfold OH AN at CO;have ot:=AA h0.1;obtain⟨x0,R,x2,x3,x4,x5,x6,x7,x8⟩:=AC N0;have iO:=AA az;clear az h h0 he lS lX hP;go_in;go_wp2_with fail;generalize((w.alloc _).alloc _).alloc _=W0 at*;have bw:=AA ac;have ad:=AA N0;have wo:=AA NC;have bt:=AA N1;clear ac N0 NC N1 x0 R x2 x3 x4 x5 x6 x7 x8;refine CO.mono ?_;rintro r w2 ⟨m2,i2,e2,c2,s2,l2,q2,rfl,O2,b2⟩;obtain⟨⟨⟨ma,mn,mc,rfl⟩,⟨ia,iN,ic,rfl⟩,⟨ea,en,ec,rfl⟩,⟨qa,qn,qc,rfl⟩⟩,⟨sa,sn,sc,rfl⟩,⟨la,ln,lc,rfl⟩,⟨pa,pn,pc,rfl⟩⟩:=O2.Dq;have bA:=AG w2 (.cells #[.slice ma mn mc,.slice ia iN ic,.slice ea en ec,.slice qa qn qc,.slice sa sn sc,.slice la ln lc,.slice pa pn pc,P.FV,P.U4] 32);have I3:=Hj.start O2 b2.size;have ee:=b2.trans (bA.mono b2.size);obtain⟨x0,R,x2,x3,_⟩:=AC (AB ad ee);obtain⟨k0,k1,k2,k3,k4,k5⟩:=KK (AB wo ee);have cF:=AA I3;have N3:=AA (AB bt ee);have b9:=AA (bw.trans (ee.mono bw.size));have iP:=AA (yM b2.size bA.size);have pT:=AA (CC _ (ot.below ee));clear O2 bA I3 ee b2 CO CC;go_wp2_with fail;generalize lV:w2.heap.size=g3 at*;generalize w2.alloc _=W3 at*;refine pT.mono ?_;rintro r w4 ⟨m4,i4,e4,pp,rfl,O4,b4⟩;obtain⟨⟨gK,gz,ay,rfl⟩,⟨gM,gN,gL,rfl⟩,⟨gQ,gO,gP,rfl⟩,⟨iq,io,ip,rfl⟩⟩:=O4.Dq;have bA:=AG w4 (.cells #[.slice gK gz ay,.slice gM gN gL,.slice gQ gO gP,.slice iq io ip] 28);have fo:=b4.trans (bA.mono b4.size);have I4:=cF.below fo;have I5:=cF.put fo (yF _) iP (O4.below bA);have G5:=Aq (w4.alloc (.cells #[.slice gK gz ay,.slice gM gN gL,.slice gQ gO gP,.slice iq io ip] 28)) g3 (.slice gK gz ay) (.slice gM gN gL) (.slice gQ gO gP) (.slice iq io ip);have N4:=AB N3 fo;have ng:g3≠w.heap.size+1+1:=λe=>by have V:=cF.yT;have L:=AY bt.u;omega
 have N5:=As N4 G5 ng;have B5:=AM (b9.trans (fo.mono b9.size)) G5 (yM bw.size cF.yT) (yM b9.size fo.size);obtain⟨d0,d1,d2,d3,_⟩:=I4.cells;have fd:=AK I4.yU;generalize hW5:((((w4.alloc _).setCell _ _).setCell _ _).setCell _ _).setCell _ _=W5 at I5 G5 N5 B5;have S6:=Bg N5 (I5.own.lower bw.size);obtain⟨y0,y1,y2,y3,y4,y5,y6,y7,y8⟩:=I5.cells;obtain⟨a0,a1,a2,a3,a4,a5,a6,a7,a8⟩:=AC N5;have f5:=AK N5;have lD:=AA S6;have fs:=AA B5;clear S6 b4 bA fo O4 I4 I5 G5 N4 N5 B5 pT x0 R x2 x3 k0 k1 k2 k3 k4 k5;go_wp2_with fail;obtain⟨N6,O6,cy⟩:=lD.u;have B6:=AM fs cy ω fs.size;unfold De at N6 O6 B6;exact yB (v:=.tuple #[.agg #[_,_,_,_,_,_,_,_,_],_]) (by simp[results,Tryz.results28,go_sem,AC N6]) rfl ⟨_,_,_,_,_,_,_,rfl,O6,B6⟩
theorem Kr.shp (h:Kr w m i e c s l q P):((∃a n q,m=.slice a n q)/\(∃a n q,i=.slice a n q)/\(∃a n q,e=.slice a n q)/\∃a n q,c=.slice a n q)/\(∃a n q,s=.slice a n q)/\(∃a n q,l=.slice a n q)/\∃a n r,q=.slice a n r:=by obtain⟨⟨V,L,h3,h4⟩,h5,h6,h7⟩:=h;obtain⟨_,_,rfl,_⟩:=V.open;obtain⟨_,_,rfl,_⟩:=L.shape;obtain⟨_,_,rfl,_⟩:=h3.open;obtain⟨_,_,rfl,_⟩:=h4.shape;obtain⟨_,_,rfl,_⟩:=h5.open;obtain⟨_,_,rfl,_⟩:=h6.open;obtain⟨_,_,rfl,_⟩:=h7.shape;exact⟨⟨⟨_,_,_,rfl⟩,⟨_,_,_,rfl⟩,⟨_,_,_,rfl⟩,⟨_,_,_,rfl⟩⟩,⟨_,_,_,rfl⟩,⟨_,_,_,rfl⟩,⟨_,_,_,rfl⟩⟩
def dO:AR:=⟨⟨[],[],[],[]⟩,[],[],[],0,0⟩
theorem TZ (w:Ω):Kr w (.slice none 0 0) (.slice none 0 0) (.slice none 0 0) (.slice none 0 0) (.slice none 0 0) (.slice none 0 0) (.slice none 0 0) dO:=
 ⟨⟨⟨[],AP.rd (Mw Gs 0 29 1 w),GY.nil⟩,AP.rd (Mw Au 0 115 3 w),⟨[],AP.rd (Mw FR 0 81 2 w),GY.nil⟩,AP.rd (Mw AZ 0 125 4 w)⟩,⟨[],AP.rd (Mw Gs 0 29 1 w),GY.nil⟩,AE.rd (lo:=0) (xo _ _ _ _),AP.rd (Mw Dc 0 87 3 w)⟩
theorem NM (mv iv ev cv sv lv qv:Φ)(P:AR)(w:Ω)(h:Kr w mv iv ev cv sv lv qv P)(hP:Dz P)(ha:a<64):
 Ξ prog 11 #[AN mv iv ev cv sv lv qv P.FV P.U4,.int .i64 a] w (LQ w (IW P a)):=by
 unfold AN LQ;obtain⟨B0,B1,ac,az⟩:=IR w (.cells #[mv,iv,ev,cv,sv,lv,qv,P.FV,P.U4] 32) (.cells #[ι,ι,ι,ι,ι,ι,ι,θ,θ] 32);have h0:=h.below ac;obtain⟨j,hj⟩:∃j,j=a/4:=⟨_,rfl⟩
 have q1:(a:Int)/4=(j:Int):=ω;have hA:Bo (a:Int) 0 63=true:=Aa.2 ω;have ga:=LJ (p:=P) (n:=a/4) hP ω;have gW:=λ(h:(Br P (a/4)).2=false)=>GW hP ω h
 have o4:=SN hP ha;have gb:=VX hP ha;have ar:=λQ=>Wo (p:=P) (a:=a) (Q:=Q)
 have CT:=λW (hW:Γ ((w.alloc (.cells #[mv,iv,ev,cv,sv,lv,qv,P.FV,P.U4] 32)).alloc (.cells #[ι,ι,ι,ι,ι,ι,ι,θ,θ] 32)).heap.size ((w.alloc (.cells #[mv,iv,ev,cv,sv,lv,qv,P.FV,P.U4] 32)).alloc (.cells #[ι,ι,ι,ι,ι,ι,ι,θ,θ] 32)) W)=>MB mv iv ev cv sv lv qv P W (h0.below hW) hP (n:=a/4) ω
 rw[<-hj] at ga gb ar CT gW;generalize Br P j=t at ga gb ar CT gW;obtain⟨Q,bb⟩:=t;dsimp only at ga gb ar CT gW;go_in;go_wp2_with fail;generalize(w.alloc _).alloc _=W0 at*;have mo:=AA (CT W0 (yN _ _));have cT:=AA ga;have iS:=AA gb;have iQ:=AA gW;have pH:=AA o4;have es:=AA ar;unfold FJ at mo;simp only[AN] at mo;have bw:=AA ac;have bt:=AA B1;have iO:=AA az;have HP:=AA hP;obtain⟨x0,R,x2,x3,x4,x5,x6,x7,x8⟩:=AC B0;clear h h0 ac B0 B1 hP ga gb ar gW o4 CT hj az;refine(FD _ _).mono ?_;rintro r w1 ⟨rfl,rfl⟩;rw[hA];go_wp2_with fail;refine mo.mono ?_;rintro r w1 ⟨m1,i1,e1,c1,s1,l1,xx,rfl,O1,b1⟩;obtain⟨⟨⟨ma,mn,mc,rfl⟩,⟨ia,iN,ic,rfl⟩,⟨ea,en,ec,rfl⟩,⟨qa,qn,qc,rfl⟩⟩,⟨sa,sn,sc,rfl⟩,⟨la,ln,lc,rfl⟩,⟨pa,pn,pc,rfl⟩⟩:=O1.Dq;have I2:=Hj.start O1 b1.size;have b2:=b1.trans ((AG w1 (.cells #[.slice ma mn mc,.slice ia iN ic,.slice ea en ec,.slice qa qn qc,.slice sa sn sc,.slice la ln lc,.slice pa pn pc,Q.FV,Q.U4] 32)).mono b1.size);have gx:=AA I2;have hH:=AA b2;have B1:=AB bt b2;have b9:=AA (bw.trans (b2.mono bw.size));clear O1 b1 x0 R x2 x3 x4 x5 x6 x7 x8 mo I2 b2;cases bb
 .have e:=iS rfl
  have z:=iQ rfl;have He:=AA e;clear e iS es iQ;subst z;have O5:=gx.own;have b5:=(λW:Ω=>yN W W) (w1.alloc (.cells #[.slice ma mn mc,.slice ia iN ic,.slice ea en ec,.slice qa qn qc,.slice sa sn sc,.slice la ln lc,.slice pa pn pc,Q.FV,Q.U4] 32));have N5:=AB B1 b5;have S5:=Bg N5 O5;obtain⟨a0,a1,a2,a3,a4,a5,a6,a7,a8⟩:=AC N5;have f5:=AK N5;have gS:=AA S5;have fp:=AA b5;have iA:=AA (AY B1);clear O5 S5 N5 b5 B1;go_wp2_with fail;clear a0 a1 a2 a3 a4 a5 a6 a7 a8 f5;obtain⟨N6,O6,cy⟩:=gS.u;have B6:=AM (b9.trans (fp.mono (by have:=b9.size;have:=iA.u;omega))) cy ω (by have:=b9.size;have:=fp.size;omega);have O7:=O6.lower (lo':=w.heap.size) (by have:=iO.u;omega);unfold De at N6 O7 B6;exact yB (v:=.tuple #[.agg #[.slice ma mn mc,.slice ia iN ic,.slice ea en ec,.slice qa qn qc,.slice sa sn sc,.slice la ln lc,.slice pa pn pc,Q.FV,Q.U4],θ,υ]) (by simp[results,rO,go_sem,AC N6]) rfl (by rw[He.u];exact⟨_,_,_,_,_,_,_,rfl,O7,B6⟩)
 have e:=es Q rfl
 have C3:=J9 gx hH.size cT.k ⟨10,0,(a:Int),0,0,⟨#[]⟩⟩ (ψ:(0:Int)<=0) (ψ:(0:Int)<3) (yu _) (ψ:(0:Int)<=9223372036854775807);unfold ZK at C3;rw[MI (t:=gA) ⟨ψ,ψ,ψ⟩,show(⟨10,0,(a:Int),0,0,gA⟩:AV)=Ah 10 (a:Int) 0 0 from rfl] at C3;have C0:=AA (F6 (kind:=10) (a:=(a:Int)) (b:=0) (c:=0) cT.k);have j9:=pH.u;rw[e] at j9;have He:=AA e;have u3:=AA j9;have pQ:=AA C3;clear C3 e es iS pH j9 iQ;generalize Ad Q.Ve (Ah 10 (a:Int) 0 0)=res at*;go_wp2_with fail;generalize w1.heap.size=g2 at*;generalize w1.alloc _=W2 at*;refine pQ.mono ?_;rintro r w3 ⟨rfl,⟨m3,i3,e3,c3,I3,_⟩,j8,lV⟩;have kf:=AA (hH.trans j8);obtain⟨x0,R,x2,x3,x4,x5,x6,x7,x8⟩:=AC I3.yU;have j9:Dz {Q with Ve:=res.1}:=u3.u;have C5:=AA (Jd _ _ _ _ _ _ _ {Q with Ve:=res.1} w3 I3.own.rd j9);have B3:=AB bt kf.u;have jo:=AA (bw.trans (kf.mono bw.size));clear j8 lV pQ I3 B1 j9;go_wp2_with fail;refine C5.mono ?_;rintro r w5 ⟨m5,i5,e5,c5,s5,l5,q5,rfl,O5,b5⟩;unfold AN;clear x0 R x2 x3 x4 x5 x6 x7 x8 C5;obtain⟨⟨⟨ma,mn,mc,rfl⟩,⟨ia,iN,ic,rfl⟩,⟨ea,en,ec,rfl⟩,⟨qa,qn,qc,rfl⟩⟩,⟨sa,sn,sc,rfl⟩,⟨la,ln,lc,rfl⟩,⟨pa,pn,pc,rfl⟩⟩:=O5.Dq;have N5:=AB B3 b5;have S5:=Bg N5 O5;obtain⟨a0,a1,a2,a3,a4,a5,a6,a7,a8⟩:=AC N5;have f5:=AK N5;have gS:=AA S5;have fp:=AA b5;have iA:=AA (AY B3);clear O5 S5 N5 b5 B3;go_wp2_with fail;clear a0 a1 a2 a3 a4 a5 a6 a7 a8 f5;obtain⟨N6,O6,cy⟩:=gS.u;have B6:=AM (jo.trans (fp.mono (by have:=jo.size;have:=iA.u;omega))) cy ω (by have:=jo.size;have:=fp.size;omega);have O7:=O6.lower (lo':=w.heap.size) (by have:=jo.size;omega);unfold De at N6 O7 B6;exact yB (v:=.tuple #[.agg #[.slice ma mn mc,.slice ia iN ic,.slice ea en ec,.slice qa qn qc,.slice sa sn sc,.slice la ln lc,.slice pa pn pc,Q.FV,Q.U4],res.2.1,τ]) (by simp[results,rO,go_sem,AC N6]) rfl (by rw[He.u];exact⟨_,_,_,_,_,_,_,rfl,O7,B6⟩)
def Dr(J:Ω)(g N:Nat)(w:Ω):Prop:=Fd J w (.pointer g) N/\Γ J J w/\J.heap.size<=g/\g<w.heap.size
theorem Dr.of{x1:Φ}(h:Fd J w x1 N)(K:Γ J J w):∃g,x1=.pointer (some ⟨g,0,none⟩)/\Dr J g N w:=by obtain⟨g,nY,bs,p,rfl,hg,jh,hr⟩:=h;exact⟨g,rfl,⟨g,nY,bs,p,rfl,hg,jh,hr⟩,K,hg,(Array.getElem?_eq_some_iff.1 jh).1⟩
variable{row:Option Nat}
theorem Dr.keep (h:Dr J g N w)(hg:w.grownBy E row)(V:row≠some g)(L:∀k,row=some k->J.heap.size<=k):Dr J g N E:=by
 obtain⟨⟨g',nY,bs,p,hR,q6,jh,hr⟩,K,av,ao⟩:=h;obtain rfl:g=g':=by simpa using hR
 exact⟨⟨g,nY,bs,p,rfl,q6,(hg.block g ao (λe=>V e.symm)).trans jh,hr⟩,K.grown hg K.size L,av,yt ao hg.size⟩
theorem Dr.below (h:Dr J g N w)(K:Γ w w E):Dr J g N E:=h.keep (AX K none) χ (λk hk=>by cases hk)
theorem Dr.alloc (h:Dr J g N w)(o:Obj):Dr J g N (w.alloc o):=h.below (AG _ _)
theorem Dr.mono (h:Dr J g N w)(hm:N<=M):Dr J g M w:=⟨h.1.mono hm,h.2⟩
theorem Dr.set (h:Dr J g N w)(gT:b≠g)(K:J.heap.size<=b):Dr J g N (w.setCell (b,j) u):=
 h.keep (At w b j u) (by simpa using gT) (λk hk=>by cases hk;exact K)
theorem Dr.lt (h:Dr J g N w):g<w.heap.size:=h.2.2.2
theorem Dr.pick (n:Int)(h:Dr J g N w)(hN:N<=1000000:=by omega)(hn:n<=1000000:=by decide):
 Ξ prog 23 #[.pointer g,.int .i64 n] w λe E=>∃x:Int,e=.returned (.int .i64 x)/\0<=x/\(0<n->x<n)/\Dr J g (N+1) E/\w.grownBy E (some g):=
 (cW J _ N n w h.1 h.2.1 hN hn).mono λ_ _ hp=>by
  obtain⟨x,rfl,⟨hZ,jI,yp⟩,hr,ji,g1,jQ,bf⟩:=hp;obtain rfl:g=g1:=by simpa using jQ
  exact⟨x,rfl,hZ,jI,⟨hr,ji,h.2.2.1,yt h.2.2.2 bf.size⟩,bf⟩
theorem IV (h:J.grownBy w row)(o:Obj):J.grownBy (w.alloc o) row:=AO h (AX (AG _ _) row)
theorem Cw (h:J.grownBy w row)(K:J.heap.size<=b)(u:Φ):J.grownBy (w.setCell (b,j) u) row:=
 ⟨h.os,h.tape,h.output,by simpa using h.size,λk hk gT=>(tT w ⟨b,j,none⟩ k u (by intro e;simp at e;omega)).trans (h.block k hk gT)⟩
def Gj(J:Ω)(g N:Nat)(w:Ω)(P:Φ->Prop)(e:Ending)(E:Ω):Prop:=∃v,e=.returned v/\P v/\Dr J g N E/\w.grownBy E (some g)
theorem Pn (b n:Nat)(ss:List ByteArray)(h:Dr J g N w)(hN:N<=1000000)(hn:ss.length=n)(h0:0<n)(V:n<=1000)(gT:b≠g)(K:b<w.heap.size)(hc:∀k,k<n->w.cell? ⟨b,k,none⟩=some (.string (Cz ss k))):
 Ξ prog 59 #[.pointer g,.slice b n n] w (Gj J g (N+1) w λv=>∃s,s∈ss/\v=.string s):=by
 have Hc:=AA hc;clear hc;have Hn:=AA hn;clear hn;go_in;go_wp2_with fail;refine(h.pick _ hN ω).mono ?_;rintro e w1 ⟨x,rfl,j4,hZ,h',bf⟩;have hZ:=hZ ω;obtain⟨x,rfl⟩:=yg j4;have Hb:w1.cell? (b,x)=some (.string (Cz ss x)):=(vW (bf.block b K (by simpa using gT))).trans (Hc x ω);have jI:x<n:=ω;go_wp2;go_ret;exact⟨_,rfl,⟨Cz ss x,List.mem_of_getElem? (HY (by rw[Hn.u];exact jI)),rfl⟩,h',bf⟩
theorem Zm (f:Int)(b:Bool)(w:Ω)(h0:0<=f)(V:f<=1000):
 Ξ prog 91 #[.int .i64 f,.bool b] w λe E=>e=.returned (.int .i64 (if b then 4*f+3 else 4*f+1))/\w=E:=by
 cases b<;>(go_in;go_wp2;go_ret;exact⟨rfl,rfl⟩)
theorem Di{vs:Array Φ}{t:Nat}(bf:(w.alloc (.cells vs t)).grownBy w1 (some g))(ao:g<w.heap.size)(hj:vs[j]?=some u):w1.cell? (w,j)=some u:=by refine(vW (bf.block w.heap.size χ η)).trans ?_;rw[tq];exact hj
theorem SJ (h:Dr J g N w)(hN:N<=900000):
 Ξ prog 72 #[.pointer g] w (Gj J g (N+2) w λv=>∃x:Int,v=.int .i64 x):=by
 go_in;go_wp2_with fail;refine(h.pick _).mono ?_;rintro e w1 ⟨x,rfl,j4,hZ,V,g1⟩
 by_cases hx:x=0
 .subst hx
  go_wp2_with fail;refine((V.alloc _).pick _).mono ?_;rintro e w2 ⟨y,rfl,ir,ei,L,g2⟩;have ei:=ei ψ;have c0:=Di (j:=0) g2 V.lt rfl;have c1:=Di (j:=1) g2 V.lt rfl;have c2:=Di (j:=2) g2 V.lt rfl;have G:=AA (AO g1 (AO (AX (AG _ _) _) g2));clear g1 g2
  rcases(ω:y=0∨y=1∨y=2) with rfl|rfl|rfl
  all_goals
   go_wp2;go_ret;exact⟨_,rfl,⟨_,rfl⟩,L,G.u⟩
 have t0:(x==0)=false:=by simp[hx]
 clear hx;go_wp2_with (refine(V.pick _).mono ?_;rintro e w2 ⟨y,rfl,ir,ei,L,g2⟩;have G:=AA (AO g1 g2);clear g1 g2);go_ret;exact⟨_,rfl,⟨_,rfl⟩,L,G.u⟩
theorem Od (h:Dr J g N w)(hN:N<=900000):
 Ξ prog 115 #[.pointer g] w (Gj J g (N+3) w λv=>∃x:Int,v=.int .i64 x/\ -1<=x/\x<=9999):=by
 go_in;go_wp2_with fail;refine(h.pick _).mono ?_;rintro e w1 ⟨x,rfl,j4,hZ,V,g1⟩;have hZ:=hZ ψ;by_cases hx:x=0
 .subst hx
  go_wp2;go_ret;exact⟨_,rfl,⟨0,rfl,ψ,ψ⟩,V.mono ω,g1⟩
 by_cases lP:x=1
 .subst lP
  go_wp2;go_ret;exact⟨_,rfl,⟨0,rfl,ψ,ψ⟩,V.mono ω,g1⟩
 by_cases jI:x=2
 .subst jI
  clear hx lP;go_wp2_with fail;refine((V.alloc _).pick _).mono ?_;rintro e w2 ⟨y,rfl,ir,ei,L,g2⟩;have ei:=ei ψ;have c0:=Di (j:=0) g2 V.lt rfl;have c1:=Di (j:=1) g2 V.lt rfl;have c2:=Di (j:=2) g2 V.lt rfl;have c3:=Di (j:=3) g2 V.lt rfl;have c4:=Di (j:=4) g2 V.lt rfl;have c5:=Di (j:=5) g2 V.lt rfl;have c6:=Di (j:=6) g2 V.lt rfl;have G:=AA (AO g1 (AO (AX (AG _ _) _) g2));clear g1 g2
  rcases(ω:y=0∨y=1∨y=2∨y=3∨y=4∨y=5∨y=6) with rfl|rfl|rfl|rfl|rfl|rfl|rfl
  all_goals
   go_wp2;go_ret;exact⟨_,rfl,⟨_,rfl,ψ,ψ⟩,L.mono ω,G.u⟩
 have t0:(x==0)=false:=by simp[hx]
 have t1:(x==1)=false:=by simp[lP]
 have t2:(x==2)=false:=by simp[jI]
 clear hx lP jI;go_wp2_with fail;refine(V.pick _).mono ?_;rintro e w2 ⟨y,rfl,ir,ei,L,g2⟩;have ei:=ei ψ;go_wp2_with (refine(L.pick _).mono ?_;rintro e w3 ⟨hs,rfl,yf,f4,h3,g3⟩;have f4:=f4 ψ;have G:=AA (AO (AO g1 g2) g3);clear g1 g2 g3);go_ret;exact⟨_,rfl,⟨_,rfl,ω,ω⟩,h3.mono ω,G.u⟩
theorem K9 (w:Ω)(ss:List ByteArray)(t:TypeId){k:Nat}(hk:k<ss.length):(w.alloc (.cells (ss.map Value.string).toArray t)).cell? (w,k)=some (.string (Cz ss k)):=by rw[tq];simp only[List.getElem?_toArray,xq];rw[HY hk];rfl
theorem J1 (h:Dr J g N w)(hN:N<=900000):
 Ξ prog 120 #[.pointer g] w (Gj J g (N+2) w λv=>∃s,s.size<=8/\v=.string s):=by
 go_in;go_wp2_with fail;refine(h.pick _).mono ?_;rintro e w1 ⟨x,rfl,j4,hZ,V,g1⟩
 by_cases hx:x=0
 .subst hx
  go_wp2_with fail;refine(Pn w1.heap.size 4 [⟨#[100]⟩,⟨#[65]⟩,⟨#[97,98,99,97,98]⟩,⟨#[97,32,98]⟩] (V.alloc _) ω rfl ψ ψ (by have:=V.lt;omega) χ (λk hk=>K9 w1 [⟨#[100]⟩,⟨#[65]⟩,⟨#[97,98,99,97,98]⟩,⟨#[97,32,98]⟩] _ hk)).mono ?_;rintro e w2 ⟨v,rfl,⟨s,z,rfl⟩,L,g2⟩;have G:=AA (AO g1 (AO (AX (AG _ _) _) g2));have hl:s.size<=8:=by
   simp only[xH,wM,or_false] at z
   rcases z with rfl|rfl|rfl|rfl<;>decide
  clear g1 g2 z;go_wp2;go_ret;exact⟨_,rfl,⟨s,hl,rfl⟩,L,G.u⟩
 have t0:(x==0)=false:=by simp[hx]
 clear hx;go_wp2_with fail;refine(Pn w1.heap.size 12 [⟨#[]⟩,⟨#[97]⟩,⟨#[98]⟩,⟨#[99]⟩,⟨#[97,98]⟩,⟨#[97,97]⟩,⟨#[97,98,99]⟩,⟨#[98,97]⟩,⟨#[98]⟩,⟨#[97]⟩,⟨#[97,98,99,97]⟩,⟨#[97,99]⟩] (V.alloc _) ω rfl ψ ψ (by have:=V.lt;omega) χ (λk hk=>K9 w1 [⟨#[]⟩,⟨#[97]⟩,⟨#[98]⟩,⟨#[99]⟩,⟨#[97,98]⟩,⟨#[97,97]⟩,⟨#[97,98,99]⟩,⟨#[98,97]⟩,⟨#[98]⟩,⟨#[97]⟩,⟨#[97,98,99,97]⟩,⟨#[97,99]⟩] _ hk)).mono ?_;rintro e w2 ⟨v,rfl,⟨s,z,rfl⟩,L,g2⟩;have G:=AA (AO g1 (AO (AX (AG _ _) _) g2));have hl:s.size<=8:=by
  simp only[xH,wM,or_false] at z
  rcases z with rfl|rfl|rfl|rfl|rfl|rfl|rfl|rfl|rfl|rfl|rfl|rfl<;>decide
 clear g1 g2 z;go_wp2;go_ret;exact⟨_,rfl,⟨s,hl,rfl⟩,L,G.u⟩
theorem Uw.info{a:Option Addr}{xs:List AW}(h:Uw 3 Au w a xs){k:Nat}{x:AW}(hk:xs[k]?=some x):∃b g7,a=some ⟨b,g7,none⟩/\b<w.heap.size/\w.cell? ⟨b,g7+k*3,none⟩=some (.int .i64 x.k)/\w.cell? ⟨b,g7+k*3+1,none⟩=some (.string x.g)/\w.cell? ⟨b,g7+k*3+2,none⟩=some (.int .i64 x.r):=by obtain⟨b,g7,rfl,ao,hc⟩:=h k x hk;exact⟨b,g7,rfl,ao,hc 0 _ rfl,hc 1 _ rfl,hc 2 _ rfl⟩
def dW(xs:List Int):Prop:=∀x∈xs,0<=x/\x<12
theorem QJ (m i e c:Φ)(xs:List AW)(kind:Int)(h:Dr J g N w)(hN:N<=900000)(hi:Bh w i xs)(hl:xs.length<=12):
 Ξ prog 119 #[.pointer g,.agg #[m,i,e,c],.int .i64 kind] w (Gj J g (N+1) w λv=>∃x:Int,v=.int .i64 x/\0<=x/\x<12):=by
 obtain⟨a,ij,rfl,hc,nA,H0⟩:=BN.open Az ψ hi;unfold maxLen at nA;clear hi;go_in;go_wp2_with fail;have ji:=AG w (.cells #[m,.slice a xs.length ij,e,c] 28);have pd:(w.alloc (.cells #[m,.slice a xs.length ij,e,c] 28)).heap[w.heap.size]?=some (.cells #[m,.slice a xs.length ij,e,c] 28 (0,0)):=yy w _;have kG:w.heap.size+1=(w.alloc (.cells #[m,.slice a xs.length ij,e,c] 28)).heap.size:=χ;generalize w.alloc (.cells #[m,.slice a xs.length ij,e,c] 28)=W at ji pd kG;rw[kG];go_loopw [7,8] (λo i wr=>∃k:Nat,∃ys:List Int,k<=xs.length/\ys.length<=k/\dW ys/\i=.int .i64 k/\AE W wr o ys/\Γ W W wr) (λ_ i _=>xs.length - (intOf i).toNat)
 exact⟨0,[],yu _,yu _,λx hx=>(by cases hx),rfl,CU _ _ _,AG _ _⟩
 obtain⟨k,ys,hk,yo,oF,rfl,ib,gu⟩:=hrel;have n7:=AA oF;clear oF;obtain⟨c0,c1,c2,c3⟩:=AH ((gu.block _ ω).trans pd);clear c0 c2 c3
 by_cases ao:k<xs.length
 .obtain⟨x,hx⟩:∃x,xs[k]?=some x:=⟨_,yG ao⟩
  obtain⟨b,g7,rfl,bn,D0,_,_⟩:=H0.info hx;have Hb:wr.cell? (b,g7+k*3)=some (.int .i64 x.k):=((ji.trans (gu.mono ji.size)).cell (p:=⟨b,g7+k*3,none⟩) bn).trans D0;clear D0 hx
  by_cases hF:x.k=kind
  .have t0:(x.k==kind)=true:=by simp[hF]
   clear hF;have av:=gu.size;go_wp2_with (at_builtin;go_must (refine Bm (lo:=W.heap.size) (n:=ys.length) (xs:=ys.map (yl .i64)) (m:=1) (news:=[.int .i64 k]) rfl rfl 3 (.int .i64 0) 1 8 underlying29 Tryz.zS rfl ψ rfl (BC ib (AG _ _)) rfl (Rd.zM _ #[_] _ 1 1 _ χ rfl ζ) (by simp[xR]) μ ω η ?_;intro o' w4 g1 g2 g3 g4));go_roundw
   case rel=>exact⟨k+1,ys++[(k:Int)],ω,η,λy hy=>by
    rcases wI.1 hy with h'|h'
    .exact n7 y h'
    simp at h';subst h';omega,ξ,by simpa[AE] using g1,(gu.alloc gu.size _).trans g4⟩
   case measure=>simp[intOf];omega
  have t0:(x.k==kind)=false:=by simp[hF]
  clear hF;go_wp2;go_roundw;exact⟨k+1,ys,ω,ω,n7.u,ξ,ib,gu⟩;simp[intOf];omega
 have hD:Dr J g N wr:=(h.below ji).below gu
 have o8:w.grownBy wr (some g):=AX (ji.trans (gu.mono ji.size)) _;have BL:g<W.heap.size:=yt h.lt ji.size
 by_cases hz:ys.length=0
 .obtain⟨_,_,rfl,_,_⟩:=(AE.rd ib).open
  have t0:((ys.length:Int)==0)=true:=by simp[hz]
  clear hz;go_wp2_with (refine(hD.pick _).mono ?_;rintro e w2 ⟨y,rfl,ir,ei,L,g2⟩;have ei:=ei ψ);go_ret;exact⟨_,rfl,⟨_,rfl,ir,ei⟩,L,AO o8 g2⟩
 obtain⟨q,cq,rfl,hq,it⟩:=JG ib ω;have t0:((ys.length:Int)==0)=false:=by simp[hz]
 have qS:0<ys.length:=ω;have ri:ys.length<=cq/\cq<=maxLen:=by obtain⟨_,_,he,V,L,_⟩:=(AE.rd ib).open;simp at he;obtain⟨_,rfl⟩:=he;exact⟨V,L⟩
 obtain⟨lR,cP⟩:=ri;unfold maxLen at cP;clear hz;go_wp2_with (refine(hD.pick _ ω ω).mono ?_;rintro e w2 ⟨y,rfl,ir,ei,L,g2⟩;have ei:=ei ω;obtain⟨y,rfl⟩:=yg ir;have kI:=Av ib g2 (.inr (by simp[Value.ownBlock];omega));have C:=(kI.cellAt y ω).trans (GP (xs:=ys) ω);have hx:=n7 (nth ys y) (by rw[Nv ω];exact List.getElem_mem _));go_ret;exact⟨_,rfl,⟨_,rfl,hx.1,hx.2⟩,L,AO o8 g2⟩
def L6(x:AV):Prop:=x.nm.size<=8/\0<=x.e/\x.e<3/\x.c<=1000000
def BU(J:Ω)(g N:Nat)(w:Ω)(m i e c:Φ)(b:Nat)(wr:Ω):Prop:=
 ∃x:AV,L6 x/\Dr J g N wr/\w.grownBy wr (some g)/\w.heap.size+1<b/\g<w.heap.size/\J.heap.size<=w.heap.size/\wr.heap[b]?=some (.cells x.cs 34 (0,0))/\
  wr.heap[w.heap.size]?=some (.cells #[m,i,e,c] 28 (0,0))/\(∃y:AV,wr.heap[w.heap.size+1]?=some (.cells y.cs 34 (0,0)))
theorem II{x:AV}(h:w.heap[b]?=some (.cells x.cs 34 (0,0))):w.cell? b=some (.int .i64 x.k)/\w.cell? (b,1)=some (.int .i64 x.e)/\w.cell? (b,2)=some (.int .i64 x.a)/\w.cell? (b,3)=some (.int .i64 x.b)/\w.cell? (b,4)=some (.int .i64 x.c)/\w.cell? (b,5)=some (.string x.nm):=
 ⟨yx w b 0 _ _ _ h,yx w b 1 _ _ _ h,yx w b 2 _ _ _ h,yx w b 3 _ _ _ h,yx w b 4 _ _ _ h,yx w b 5 _ _ _ h⟩
section
variable {J w wr E:Ω} {g N M b:Nat} {m i e c:Φ}
theorem BU.kc(h:BU J g N w m i e c b wr):wr.cell? w=some m/\wr.cell? (w,1)=some i/\wr.cell? (w,2)=some e/\wr.cell? (w,3)=some c:=by obtain⟨x,_,_,_,_,_,_,_,V,_⟩:=h;exact AH V
theorem BU.cc(h:BU J g N w m i e c b wr):∃x:AV,wr.cell? b=some (.int .i64 x.k)/\wr.cell? (b,1)=some (.int .i64 x.e)/\wr.cell? (b,2)=some (.int .i64 x.a)/\wr.cell? (b,3)=some (.int .i64 x.b)/\wr.cell? (b,4)=some (.int .i64 x.c)/\wr.cell? (b,5)=some (.string x.nm)/\(∀j,wr.frozen? ⟨b,j,none⟩=false)/\dv (wr.heap[b]?=some (.cells x.cs 34 (0,0))):=by obtain⟨x,_,_,_,_,_,_,V,_⟩:=h;obtain⟨c0,c1,c2,c3,c4,c5⟩:=II V;exact⟨x,c0,c1,c2,c3,c4,c5,AK V,AA V⟩
theorem BU.dr(h:BU J g N w m i e c b wr):Dr J g N wr:=by obtain⟨x,_,V,_⟩:=h;exact V
theorem BU.draw(h:BU J g N w m i e c b wr)(hd:Dr J g M E)(hg:wr.grownBy E (some g)):BU J g M w m i e c b E:=by
 obtain⟨x,h0,V,L,h3,h4,h5,h6,h7,⟨y,h8⟩⟩:=h;have yV:∀{q:Nat} {o:Obj},w.heap.size<=q->wr.heap[q]?=some o->E.heap[q]?=some o:=λ{q o} hq K=>(hg.block q (AY K) η).trans K
 exact⟨x,h0,hd,AO L hg,h3,h4,h5,yV ω h6,yV (yF _) h7,⟨y,yV ω h8⟩⟩
theorem BU.put(h:BU J g N w m i e c b wr)(j:Nat){v:Φ}(St:∀x:AV,L6 x->∃y:AV,L6 y/\y.cs=x.cs.setIfInBounds j v):BU J g N w m i e c b (wr.setCell (b,j) v):=by
 obtain⟨x,h0,V,L,h3,h4,h5,h6,h7,⟨y,h8⟩⟩:=h;obtain⟨hs,z0,z1⟩:=St x h0;have K:=yA wr b j _ _ v h6;rw[<-z1] at K;have yV:∀{q:Nat} {o:Obj},q≠b->wr.heap[q]?=some o->(wr.setCell (b,j) v).heap[q]?=some o:=λ{q o} hq K=>(tT wr ⟨b,j,none⟩ q _ (λe=>hq (by simpa using e))).trans K
 exact⟨hs,z0,V.set ω ω,Cw L ω _,h3,h4,h5,K,yV ω h7,⟨y,yV ω h8⟩⟩
theorem BU.set0(h:BU J g N w m i e c b wr)(hs:Int):BU J g N w m i e c b (wr.setCell b (.int .i64 hs)):=h.put 0 λx h=>⟨⟨hs,x.e,x.a,x.b,x.c,x.nm⟩,h,rfl⟩
theorem BU.set1(h:BU J g N w m i e c b wr)(hs:Int)(hz:0<=hs)(qE:hs<3):BU J g N w m i e c b (wr.setCell (b,1) (.int .i64 hs)):=h.put 1 λx h=>⟨⟨x.k,hs,x.a,x.b,x.c,x.nm⟩,⟨h.1,hz,qE,h.2.2.2⟩,rfl⟩
theorem BU.set2(h:BU J g N w m i e c b wr)(hs:Int):BU J g N w m i e c b (wr.setCell (b,2) (.int .i64 hs)):=h.put 2 λx h=>⟨⟨x.k,x.e,hs,x.b,x.c,x.nm⟩,h,rfl⟩
theorem BU.set3(h:BU J g N w m i e c b wr)(hs:Int):BU J g N w m i e c b (wr.setCell (b,3) (.int .i64 hs)):=h.put 3 λx h=>⟨⟨x.k,x.e,x.a,hs,x.c,x.nm⟩,h,rfl⟩
theorem BU.set4(h:BU J g N w m i e c b wr)(hs:Int)(hz:hs<=1000000):BU J g N w m i e c b (wr.setCell (b,4) (.int .i64 hs)):=h.put 4 λx h=>⟨⟨x.k,x.e,x.a,x.b,hs,x.nm⟩,⟨h.1,h.2.1,h.2.2.1,hz⟩,rfl⟩
theorem BU.setS(h:BU J g N w m i e c b wr)(s:ByteArray)(z:s.size<=8):BU J g N w m i e c b (wr.setCell (b,5) (.string s)):=h.put 5 λx h=>⟨⟨x.k,x.e,x.a,x.b,x.c,s⟩,⟨z,h.2⟩,rfl⟩
theorem BU.gr(h:BU J g N w m i e c b wr):w.grownBy wr (some g):=by obtain⟨x,_,_,V,_⟩:=h;exact V
theorem BU.ne(h:BU J g N w m i e c b wr):w.heap.size≠b/\b≠w.heap.size/\w.heap.size+1≠b/\b≠w.heap.size+1:=by obtain⟨x,_,_,_,V,_⟩:=h;omega
theorem ff{w:Ω}{q:Nat}{x y:AV}(h:w.heap[q]?=some (.cells y.cs 34 (0,0))):
 ((((((w.setCell q (.int .i64 x.k)).setCell (q,1) (.int .i64 x.e)).setCell (q,2) (.int .i64 x.a)).setCell (q,3) (.int .i64 x.b)).setCell (q,4) (.int .i64 x.c)).setCell (q,5) (.string x.nm)).heap[q]?=some (.cells x.cs 34 (0,0)):=by
 have h0:=yA w q 0 _ _ (.int .i64 x.k) h;have V:=yA _ q 1 _ _ (.int .i64 x.e) h0;have L:=yA _ q 2 _ _ (.int .i64 x.a) V;have h3:=yA _ q 3 _ _ (.int .i64 x.b) L;have h4:=yA _ q 4 _ _ (.int .i64 x.c) h3;have h5:=yA _ q 5 _ _ (.string x.nm) h4;simpa[AV.cs] using h5
theorem BU.qc(h:BU J g N w m i e c b wr):∃y:AV,wr.cell? (w.heap.size+1,0)=some (.int .i64 y.k)/\wr.cell? (w.heap.size+1,1)=some (.int .i64 y.e)/\wr.cell? (w.heap.size+1,2)=some (.int .i64 y.a)/\wr.cell? (w.heap.size+1,3)=some (.int .i64 y.b)/\wr.cell? (w.heap.size+1,4)=some (.int .i64 y.c)/\wr.cell? (w.heap.size+1,5)=some (.string y.nm)/\∀j,wr.frozen? ⟨w.heap.size+1,j,none⟩=false:=by obtain⟨x,_,_,_,_,_,_,_,_,⟨y,V⟩⟩:=h;obtain⟨c0,c1,c2,c3,c4,c5⟩:=II V;exact⟨y,c0,c1,c2,c3,c4,c5,AK V⟩
def dT(J:Ω)(g N:Nat)(w:Ω)(x:AV)(W:Ω):Prop:=
 (W.cell? (w.heap.size+1,0)=some (.int .i64 x.k)/\W.cell? (w.heap.size+1,1)=some (.int .i64 x.e)/\W.cell? (w.heap.size+1,2)=some (.int .i64 x.a)/\W.cell? (w.heap.size+1,3)=some (.int .i64 x.b)/\W.cell? (w.heap.size+1,4)=some (.int .i64 x.c)/\W.cell? (w.heap.size+1,5)=some (.string x.nm))/\
 Gj J g N w (λv=>∃x:AV,v=.agg x.cs/\L6 x) (.returned (.agg x.cs)) W
theorem BU.fin(h:BU J g N w m i e c b wr)(x:AV)(K:wr.heap[b]?=some (.cells x.cs 34 (0,0)))(hM:N<=M):dT J g M w x ((((((wr.setCell (w.heap.size+1,0) (.int .i64 x.k)).setCell (w.heap.size+1,1) (.int .i64 x.e)).setCell (w.heap.size+1,2) (.int .i64 x.a)).setCell (w.heap.size+1,3) (.int .i64 x.b)).setCell (w.heap.size+1,4) (.int .i64 x.c)).setCell (w.heap.size+1,5) (.string x.nm)):=by
 obtain⟨x',h0,V,L,h3,h4,h5,h6,h7,⟨y,h8⟩⟩:=h;have hx:L6 x:=by rw[h6] at K;simp[AV.cs] at K;obtain⟨a0,a1,a2,a3,a4,a5⟩:=K;exact⟨a5▸h0.1,a1▸h0.2.1,a1▸h0.2.2.1,a4▸h0.2.2.2⟩
 have n1:w.heap.size+1≠g:=ω;have n2:J.heap.size<=w.heap.size+1:=ω;have n3:w.heap.size<=w.heap.size+1:=ω;exact⟨II (ff h8),_,rfl,⟨x,rfl,hx⟩,((((((V.set n1 n2).set n1 n2).set n1 n2).set n1 n2).set n1 n2).set n1 n2).mono hM,Cw (Cw (Cw (Cw (Cw (Cw L n3 _) n3 _) n3 _) n3 _) n3 _) n3 _⟩
theorem BU.pk(h:BU J g N w m i e c b wr)(n:Int)(hN:N<=900000:=by omega)(h0:0<n:=by decide)(hn:n<=1000000:=by decide):Ξ prog 23 #[.pointer g,.int .i64 n] wr λe' E=>∃x:Int,e'=.returned (.int .i64 x)/\0<=x/\x<n/\BU J g (N+1) w m i e c b E:=
 (h.dr.pick n ω hn).mono λ_ _ hp=>by obtain⟨x,rfl,V,L,h3,h4⟩:=hp;exact⟨x,rfl,V,L h0,h.draw h3 h4⟩
theorem BU.kd{xs:List AW}(h:BU J g N w m i e c b wr)(kind:Int)(hN:N<=900000)(hi:∀E,w.grownBy E (some g)->Bh E i xs)(hl:xs.length<=12):Ξ prog 119 #[.pointer g,.agg #[m,i,e,c],.int .i64 kind] wr λe' E=>∃x:Int,e'=.returned (.int .i64 x)/\0<=x/\x<12/\BU J g (N+1) w m i e c b E:=
 (QJ m i e c xs kind h.dr hN (hi _ h.gr) hl).mono λ_ _ hp=>by obtain⟨_,rfl,⟨x,rfl,V,L⟩,h3,h4⟩:=hp;exact⟨x,rfl,V,L,h.draw h3 h4⟩
theorem BU.mono(h:BU J g N w m i e c b wr)(hm:N<=M):BU J g M w m i e c b wr:=by obtain⟨x,h0,V,L⟩:=h;exact⟨x,h0,V.mono hm,L⟩
end
def fL(g b:Nat)(m i e c:Φ)(k:Nat)(v:Φ):Prop:=match k with
 |0|2=>v=.pointer g
 |1=>v=.agg #[m,i,e,c]
 |3=>∃hs:Int,v=.int .i64 hs/\0<=hs/\hs<2
 |4|5=>∃hs:Int,v=.int .i64 hs
 |6=>v=.pointer (some ⟨b,2,none⟩)
 |_=>True
theorem X4 (f:Int)(b:Bool)(w:Ω)(h0:0<=f)(V:f<=1000):
 Ξ prog 91 #[.int .i64 f,.bool b] w λe E=>∃d:Int,e=.returned (.int .i64 d)/\d<=1000000/\w=E:=(Zm f b w h0 V).mono λ_ _ h=>⟨_,h.1,by split<;>omega,h.2⟩
theorem QI (m i e c:Φ)(xs:List AW)(h:Dr J g N w)(hN:N<=800000)(hi:∀E,w.grownBy E (some g)->Bh E i xs)(hl:xs.length<=12):
 Ξ prog 58 #[.pointer g,.agg #[m,i,e,c]] w (Gj J g (N+20) w λv=>∃x:AV,v=.agg x.cs/\L6 x):=by
 have ao:=h.lt;have fl:J.heap.size<=w.heap.size:=h.2.1.size;have nu:=hi;have Hi:=AA hi;clear hi nu;go_in;go_wp2_with fail;refine(((h.alloc _).alloc _).pick _).mono ?_;rintro e' w1 ⟨x,rfl,j4,hZ,V,g1⟩;have hZ:=hZ ψ;go_wp2_with fail;refine(V.pick _).mono ?_;rintro e' w2 ⟨y,rfl,ir,ei,L,g2⟩;go_wp2_with fail;refine(Pn w2.heap.size 6 [⟨#[97]⟩,⟨#[98]⟩,⟨#[99]⟩,⟨#[97,98]⟩,⟨#[98,98]⟩,⟨#[97]⟩] (L.alloc _) ω rfl ψ ψ (by have:=L.lt;omega) χ (λk hk=>K9 w2 [⟨#[97]⟩,⟨#[98]⟩,⟨#[99]⟩,⟨#[97,98]⟩,⟨#[98,98]⟩,⟨#[97]⟩] _ hk)).mono ?_;rintro e' w3 ⟨v,rfl,⟨s,z,rfl⟩,h3,g3⟩;have kN:s.size<=8:=by
  simp only[xH,wM,or_false] at z
  rcases z with rfl|rfl|rfl|rfl|rfl|rfl<;>decide
 go_upto_block 0 with fail;have H:BU J g (N+3) w m i e c w3 (w3.alloc (.cells #[.int .i64 (1+x),y,θ,θ,θ,s] 34)):=by
  have G:=AO (AO g1 g2) (AO (AX (AG _ _) _) g3);have hz:=G.size;simp at hz;have B1:=yy (w.alloc (.cells #[m,i,e,c] 28)) (.cells #[θ,θ,θ,θ,θ,ϑ] 34);have B0:=AB (yy w (.cells #[m,i,e,c] 28)) (AG _ (.cells #[θ,θ,θ,θ,θ,ϑ] 34));simp only[xt] at B1;have yV:∀{q:Nat} {o:Obj},w.heap.size<=q->((w.alloc (.cells #[m,i,e,c] 28)).alloc (.cells #[θ,θ,θ,θ,θ,ϑ] 34)).heap[q]?=some o->(w3.alloc (.cells #[.int .i64 (1+x),y,θ,θ,θ,s] 34)).heap[q]?=some o:=λ{q o} hq K=>AB ((G.block q (AY K) η).trans K) (AG _ _)
  exact⟨⟨1+x,y,0,0,0,s⟩,⟨kN,ir,ei ψ,by simp only;omega⟩,h3.alloc _,IV (AO (AX (Hv _ _ _) _) G) _,ω,ao,fl,yy _ _,yV (yF _) B0,⟨⟨0,0,0,0,0,⟨#[]⟩⟩,yV ω B1⟩⟩
 clear V L h3 g1 g2 g3 h z ir ei;generalize w3.alloc (.cells #[.int .i64 (1+x),y,θ,θ,θ,s] 34)=wr at H;generalize w3.heap.size=b at H;obtain⟨kX,kW,kV,jR⟩:=H.ne;go_cut [] (λwx=>BU J g (N+12) w m i e c b wx)
 case first=>
  rcases(ω:x=0∨x=1∨x=2∨x=3∨x=4∨x=5∨x=6∨x=7∨x=8∨x=9∨x=10) with rfl|rfl|rfl|rfl|rfl|rfl|rfl|rfl|rfl|rfl|rfl
  .go_wp2_with fail
   go_meet;exact H.mono ω
  .obtain⟨k0,k1,k2,k3⟩:=H.kc
   go_wp2_with fail;refine(H.kd _ ω Hi hl).mono ?_;rintro e' w4 ⟨hs,rfl,z0,z1,S4⟩;replace H:=S4;clear S4 k0 k1 k2 k3;obtain⟨R,c0,c1,c2,c3,c4,c5,hf,ax⟩:=H.cc;go_wp2_with fail;go_meet;exact(H.set2 _).mono ω
  .obtain⟨k0,k1,k2,k3⟩:=H.kc
   go_wp2_with fail;refine(H.kd _ ω Hi hl).mono ?_;rintro e' w4 ⟨hs,rfl,z0,z1,S4⟩;replace H:=S4;clear S4 k0 k1 k2 k3;obtain⟨R,c0,c1,c2,c3,c4,c5,hf,ax⟩:=H.cc;go_wp2_with fail;refine((H.set2 _).pk _).mono ?_;rintro e' w4 ⟨hs,rfl,z0,z1,S4⟩;replace H:=S4;clear S4 c0 c1 c2 c3 c4 c5 hf ax;obtain⟨R,c0,c1,c2,c3,c4,c5,hf,ax⟩:=H.cc;go_wp2_with fail;refine((H.set3 _).pk _).mono ?_;rintro e' w4 ⟨p,rfl,p0,p1,S4⟩;replace H:=S4;clear S4 c0 c1 c2 c3 c4 c5 hf ax;go_wp2_with fail;refine(H.pk _).mono ?_;rintro e' w4 ⟨q,rfl,q0,q1,S4⟩;replace H:=S4;clear S4
   rcases(ω:p=0∨p=1) with rfl|rfl
   rotate_left
   rotate_left
   all_goals
    obtain⟨R,c0,c1,c2,c3,c4,c5,hf,ax⟩:=H.cc
    go_wp2_with fail;go_meet;exact(H.set4 _ ω).mono ω
  .obtain⟨k0,k1,k2,k3⟩:=H.kc
   go_wp2_with fail;refine(H.kd _ ω Hi hl).mono ?_;rintro e' w4 ⟨hs,rfl,z0,z1,S4⟩;replace H:=S4;clear S4 k0 k1 k2 k3;obtain⟨R,c0,c1,c2,c3,c4,c5,hf,ax⟩:=H.cc;go_wp2_with fail;refine((H.set2 _).pk _).mono ?_;rintro e' w4 ⟨hs,rfl,z0,z1,S4⟩;replace H:=S4;clear S4 c0 c1 c2 c3 c4 c5 hf ax;obtain⟨R,c0,c1,c2,c3,c4,c5,hf,ax⟩:=H.cc;go_wp2_with fail;go_meet;exact(H.set3 _).mono ω
  .go_wp2_with fail
   refine Fk 7 mixed φ 152 rfl φ (λk v _=>fL g b m i e c k v) (λh2 wr=>(h2 3=false->BU J g (N+3) w m i e c b wr)/\(h2 5=false->BU J g (N+4) w m i e c b wr)/\BU J g (N+5) w m i e c b wr) ?_ ?_ ?_
   .have Sd:=H.draw (H.dr.below (Ai (yN _ _) 1)) (AX (Ai (yN _ _) 1) _)
    exact⟨λ_=>Sd,λ_=>Sd.mono ω,Sd.mono ω⟩
   .intro k hk o X a w5 D A h2 Z Y hb O
    match k,hk with
    |0,_=>
     obtain rfl:=yP X;have e0:a.tmps[0]?.getD Θ=.pointer g:=by rw[OF D 0];rfl
     clear A D;refine yO ?_;go_simp;exact O _ _ rfl ⟨λh=>Y.1 (Do h),λh=>Y.2.1 (Do h),Y.2.2⟩ (λj u _ _ _ h=>h)
    |1,_=>
     obtain rfl:=yP X;have e3:a.tmps[3]?.getD Θ=.pointer w:=by rw[OF D 3];rfl
     clear A D;refine yO ?_;obtain⟨k0,k1,k2,k3⟩:=Y.2.2.kc;go_simp;exact O _ _ rfl ⟨λh=>Y.1 (Do h),λh=>Y.2.1 (Do h),Y.2.2⟩ (λj u _ _ _ h=>h)
    |2,_=>
     obtain rfl:=yP X;have e0:a.tmps[0]?.getD Θ=.pointer g:=by rw[OF D 0];rfl
     clear A D;refine yO ?_;go_simp;exact O _ _ rfl ⟨λh=>Y.1 (Do h),λh=>Y.2.1 (Do h),Y.2.2⟩ (λj u _ _ _ h=>h)
    |3,_=>
     obtain rfl:=yP X;have d2:=Bd A 2
     change a.tmps[53]?.getD Θ=.pointer g at d2
     clear A D;refine yO ?_;have S3:=Y.1 Z.1;go_simp;refine(S3.dr.pick _).mono ?_;rintro e' w6 ⟨hs,rfl,z0,z1,h6,g6⟩;have S4:=S3.draw h6 g6;exact O _ _ ⟨hs,rfl,z0,z1 ψ⟩ ⟨λh=>by simp[Hh] at h,λ_=>S4,S4.mono ω⟩ (λj u _ _ _ h=>h)
    |4,_=>
     obtain rfl:=yP X;have d3:=Bd A 3
     change ∃hs:Int,a.tmps[54]?.getD Θ=.int .i64 hs/\0<=hs/\hs<2 at d3
     clear A D;refine yO ?_;obtain⟨hs,d3,z0,z1⟩:=d3;go_simp;exact O _ _ ⟨_,rfl⟩ ⟨λh=>Y.1 (Do h),λh=>Y.2.1 (Do h),Y.2.2⟩ (λj u _ _ _ h=>h)
    |5,_=>
     obtain rfl:=yP X;have d0:=Bd A 0
     change a.tmps[51]?.getD Θ=.pointer g at d0
     have d1:=Bd A 1
     change a.tmps[52]?.getD Θ=.agg #[m,i,e,c] at d1
     have d4:=Bd A 4
     change ∃hs:Int,a.tmps[55]?.getD Θ=.int .i64 hs at d4
     clear A D;refine yO ?_;obtain⟨hs,d4⟩:=d4;have S4:=Y.2.1 Z.1;go_simp;refine(QJ m i e c xs _ S4.dr ω (Hi _ S4.gr) hl).mono ?_;rintro e' w6 ⟨v,rfl,⟨z',rfl,_,_⟩,h6,g6⟩;have S5:=S4.draw h6 g6;have l3:h2 3=true:=Z.2.2 4 3 (Z.2.1 4 φ) φ;exact O _ _ ⟨_,rfl⟩ ⟨(λh=>by rw[Do h] at l3;cases l3),λh=>by simp[Hh] at h,S5.mono ω⟩ (λj u _ _ _ h=>h)
    |6,_=>
     obtain rfl:=yP X;have e5:a.tmps[5]?.getD Θ=.pointer b:=by rw[OF D 5];rfl
     clear A D;refine yO ?_;go_simp;exact O _ _ rfl ⟨λh=>Y.1 (Do h),λh=>Y.2.1 (Do h),Y.2.2⟩ (λj u _ _ _ h=>h)
   intro ys w5 hR h2 hL Y
   obtain⟨hs,hz⟩:=Be hR 5;have h6:ys 6=.pointer (some ⟨b,2,none⟩):=Be hR 6;replace H:=Y.2.2;clear hR hL Y;simp only[Aj,Ae,yL,yI,yJ,yH,hz,h6];simp;generalize ys 0=z0;generalize ys 1=z1;generalize ys 2=z2;generalize ys 3=z3;generalize ys 4=z4;clear hz h6;obtain⟨R,c0,c1,c2,c3,c4,c5,hf,ax⟩:=H.cc;go_wp2_with fail;go_meet;exact(H.set2 _).mono ω
  .go_wp2_with fail
   refine(H.pk _).mono ?_;rintro e' w4 ⟨p,rfl,p0,p1,S4⟩;replace H:=S4;clear S4;obtain⟨k0,k1,k2,k3⟩:=H.kc;go_wp2_with fail;refine(H.kd _ ω Hi hl).mono ?_;rintro e' w4 ⟨hs,rfl,z0,z1,S4⟩;replace H:=S4;clear S4 k0 k1 k2 k3;obtain⟨R,c0,c1,c2,c3,c4,c5,hf,ax⟩:=H.cc;go_wp2_with fail;refine((H.set2 _).pk _).mono ?_;rintro e' w4 ⟨hs,rfl,z0,z1,S4⟩;replace H:=S4;clear S4 c0 c1 c2 c3 c4 c5 hf ax;obtain⟨k0,k1,k2,k3⟩:=H.kc;obtain⟨R,c0,c1,c2,c3,c4,c5,hf,ax⟩:=H.cc;go_wp2_with fail;refine((H.set3 _).kd _ ω Hi hl).mono ?_;rintro e' w4 ⟨f,rfl,f0,f1,S4⟩;replace H:=S4;clear S4 k0 k1 k2 k3 c0 c1 c2 c3 c4 c5 hf ax;go_wp2_with fail;refine(H.pk _).mono ?_;rintro e' w4 ⟨t,rfl,t0,t1,S4⟩;replace H:=S4;clear S4;go_wp2_with fail;refine(X4 f _ _ ω ω).mono ?_;rintro e' w4 ⟨d,rfl,hd,rfl⟩;obtain⟨R,c0,c1,c2,c3,c4,c5,hf,ax⟩:=H.cc;go_wp2_with fail;refine((H.set4 _ hd).pk _).mono ?_;rintro e' w4 ⟨u,rfl,u0,u1,S4⟩;replace H:=S4;clear S4 c0 c1 c2 c3 c4 c5 hf ax
   by_cases hu:u=0
   .subst hu
    go_wp2_with fail;refine(Od H.dr ω).mono ?_;rintro e' w4 ⟨v,rfl,⟨z',rfl,_,ye⟩,h4,g4⟩;replace H:=H.draw h4 g4;clear h4 g4;obtain⟨R,c0,c1,c2,c3,c4,c5,hf,ax⟩:=H.cc;go_wp2_with fail;go_meet;exact(H.set4 _ ω).mono ω
   have t0:(u==0)=false:=by simp[hu]
   clear hu;go_wp2_with fail;go_meet;exact H.mono ω
  .obtain⟨k0,k1,k2,k3⟩:=H.kc
   go_wp2_with fail;refine(H.kd _ ω Hi hl).mono ?_;rintro e' w4 ⟨hs,rfl,z0,z1,S4⟩;replace H:=S4;clear S4 k0 k1 k2 k3;obtain⟨R,c0,c1,c2,c3,c4,c5,hf,ax⟩:=H.cc;go_wp2_with fail;refine((H.set2 _).pk _).mono ?_;rintro e' w4 ⟨u,rfl,u0,u1,S4⟩;replace H:=S4;clear S4 c0 c1 c2 c3 c4 c5 hf ax
   by_cases hu:u=0
   .subst hu
    obtain⟨R,c0,c1,c2,c3,c4,c5,hf,ax⟩:=H.cc;go_wp2_with fail;go_meet;exact(H.set2 _).mono ω
   have t0:(u==0)=false:=by simp[hu]
   clear hu;go_wp2_with fail;go_meet;exact H.mono ω
  rotate_left
  rotate_left
  .go_wp2_with fail
   refine(H.pk _).mono ?_;rintro e' w4 ⟨p,rfl,p0,p1,S4⟩;replace H:=S4;clear S4;go_wp2_with fail;refine(H.pk _).mono ?_;rintro e' w4 ⟨q,rfl,q0,q1,S4⟩;replace H:=S4;clear S4;go_wp2_with fail;refine(H.pk _).mono ?_;rintro e' w4 ⟨r,rfl,r0,r1,S4⟩;replace H:=S4;clear S4
   rcases(ω:p=0∨p=1) with rfl|rfl
   .obtain⟨R,c0,c1,c2,c3,c4,c5,hf,ax⟩:=H.cc
    go_wp2_with fail;refine((H.set2 _).pk _).mono ?_;rintro e' w4 ⟨hs,rfl,z0,z1,S4⟩;replace H:=S4;clear S4 c0 c1 c2 c3 c4 c5 hf ax;obtain⟨R,c0,c1,c2,c3,c4,c5,hf,ax⟩:=H.cc;go_wp2_with fail;go_meet;exact(H.set3 _).mono ω
   obtain⟨R,c0,c1,c2,c3,c4,c5,hf,ax⟩:=H.cc
   go_wp2_with fail;refine((H.set2 _).pk _).mono ?_;rintro e' w4 ⟨hs,rfl,z0,z1,S4⟩;replace H:=S4;clear S4 c0 c1 c2 c3 c4 c5 hf ax;obtain⟨R,c0,c1,c2,c3,c4,c5,hf,ax⟩:=H.cc;go_wp2_with fail;go_meet;exact(H.set3 _).mono ω
  .go_wp2_with fail
   refine(H.pk _).mono ?_;rintro e' w4 ⟨p,rfl,p0,p1,S4⟩;replace H:=S4;clear S4;go_wp2_with fail;refine(H.pk _).mono ?_;rintro e' w4 ⟨q,rfl,q0,q1,S4⟩;replace H:=S4;clear S4;go_wp2_with fail;refine(H.pk _).mono ?_;rintro e' w4 ⟨r,rfl,r0,r1,S4⟩;replace H:=S4;clear S4
   rcases(ω:p=0∨p=1) with rfl|rfl
   rotate_left
   rotate_left
   all_goals
    obtain⟨R,c0,c1,c2,c3,c4,c5,hf,ax⟩:=H.cc
    go_wp2_with fail;refine((H.set2 _).pk _).mono ?_;rintro e' w4 ⟨hs,rfl,z0,z1,S4⟩;replace H:=S4;clear S4 c0 c1 c2 c3 c4 c5 hf ax;obtain⟨R,c0,c1,c2,c3,c4,c5,hf,ax⟩:=H.cc;go_wp2_with fail;go_meet;exact(H.set3 _).mono ω
  all_goals
   go_wp2_with fail
   refine(H.pk _).mono ?_;rintro e' w4 ⟨hs,rfl,z0,z1,S4⟩;replace H:=S4;clear S4;obtain⟨R,c0,c1,c2,c3,c4,c5,hf,ax⟩:=H.cc;go_wp2_with fail;go_meet;exact(H.set2 _).mono ω
 case rest=>
  clear H;have H:=hcut;go_wp2_with fail;refine(H.pk _).mono ?_;rintro e' w4 ⟨q,rfl,q0,q1,S4⟩;replace H:=S4;clear S4
  by_cases mz:q=0
  .subst mz
   go_wp2_with fail;refine(H.pk _).mono ?_;rintro e' w4 ⟨hs,rfl,z0,z1,S4⟩;replace H:=S4;clear S4;obtain⟨R,c0,c1,c2,c3,c4,c5,hf,ax⟩:=H.cc;obtain⟨y1,d0,d1,d2,d3,d4,d5,iu⟩:=H.qc;go_wp2_with fail;obtain⟨⟨E0,E1,E2,E3,E4,E5⟩,Fin⟩:=BU.fin (M:=N+20) (H.set0 (hs - 1)) ⟨hs - 1,R.e,R.a,R.b,R.c,R.nm⟩ (by have:=yA w4 b 0 _ _ (.int .i64 (hs - 1)) ax.u;simpa[AV.cs] using this) ω;exact yB (v:=.agg #[_,_,_,_,_,_]) (by simp[results,vJ,go_sem,E0,E1,E2,E3,E4,E5]) rfl Fin
  by_cases my:q=1
  .subst my
   go_wp2_with fail;refine(H.pk _).mono ?_;rintro e' w4 ⟨hs,rfl,z0,z1,S4⟩;replace H:=S4;clear S4;obtain⟨R,c0,c1,c2,c3,c4,c5,hf,ax⟩:=H.cc;obtain⟨y1,d0,d1,d2,d3,d4,d5,iu⟩:=H.qc;go_wp2_with fail;obtain⟨⟨E0,E1,E2,E3,E4,E5⟩,Fin⟩:=BU.fin (M:=N+20) (H.set2 (hs - 2)) ⟨R.k,R.e,hs - 2,R.b,R.c,R.nm⟩ (by have:=yA w4 b 2 _ _ (.int .i64 (hs - 2)) ax.u;simpa[AV.cs] using this) ω;exact yB (v:=.agg #[_,_,_,_,_,_]) (by simp[results,vJ,go_sem,E0,E1,E2,E3,E4,E5]) rfl Fin
  by_cases mx:q=2
  .subst mx
   go_wp2_with fail;refine(H.pk _).mono ?_;rintro e' w4 ⟨hs,rfl,z0,z1,S4⟩;replace H:=S4;clear S4;obtain⟨R,c0,c1,c2,c3,c4,c5,hf,ax⟩:=H.cc;obtain⟨y1,d0,d1,d2,d3,d4,d5,iu⟩:=H.qc;go_wp2_with fail;obtain⟨⟨E0,E1,E2,E3,E4,E5⟩,Fin⟩:=BU.fin (M:=N+20) (H.set3 (hs - 1)) ⟨R.k,R.e,R.a,hs - 1,R.c,R.nm⟩ (by have:=yA w4 b 3 _ _ (.int .i64 (hs - 1)) ax.u;simpa[AV.cs] using this) ω;exact yB (v:=.agg #[_,_,_,_,_,_]) (by simp[results,vJ,go_sem,E0,E1,E2,E3,E4,E5]) rfl Fin
  by_cases mw:q=3
  .subst mw
   go_wp2_with fail;refine(J1 H.dr ω).mono ?_;rintro e' w4 ⟨v,rfl,⟨s',z,rfl⟩,h4,g4⟩;replace H:=H.draw h4 g4;clear h4 g4;obtain⟨R,c0,c1,c2,c3,c4,c5,hf,ax⟩:=H.cc;obtain⟨y1,d0,d1,d2,d3,d4,d5,iu⟩:=H.qc;go_wp2_with fail;obtain⟨⟨E0,E1,E2,E3,E4,E5⟩,Fin⟩:=BU.fin (M:=N+20) (H.setS s' z) ⟨R.k,R.e,R.a,R.b,R.c,s'⟩ (by have:=yA w4 b 5 _ _ (.string s') ax.u;simpa[AV.cs] using this) ω;exact yB (v:=.agg #[_,_,_,_,_,_]) (by simp[results,vJ,go_sem,E0,E1,E2,E3,E4,E5]) rfl Fin
  by_cases mu:q=4
  .subst mu
   go_wp2_with fail;have jU:=H.draw (H.dr.alloc (.cells #[.int .i64 (-1),.int .i64 10000,.int .i64 2,.int .i64 49] 3)) (AX (AG _ _) _);have gp:=H.dr.lt;refine(jU.dr.pick _).mono ?_;rintro e' w5 ⟨hs,rfl,z0,z1,h5,g5⟩;replace z1:=z1 ψ;replace H:=jU.draw h5 g5;have l0:=Di (j:=0) g5 gp rfl;have l1:=Di (j:=1) g5 gp rfl;have l2:=Di (j:=2) g5 gp rfl;have l3:=Di (j:=3) g5 gp rfl;clear h5 g5 jU gp;obtain⟨R,c0,c1,c2,c3,c4,c5,hf,ax⟩:=H.cc
   rcases(ω:hs=0∨hs=1∨hs=2∨hs=3) with rfl|rfl|rfl|rfl
   focus
    obtain⟨y1,d0,d1,d2,d3,d4,d5,iu⟩:=H.qc
    go_wp2_with fail;obtain⟨⟨E0,E1,E2,E3,E4,E5⟩,Fin⟩:=BU.fin (M:=N+20) (H.set4 (-1) ψ) ⟨R.k,R.e,R.a,R.b,-1,R.nm⟩ (by have:=yA w5 b 4 _ _ (.int .i64 (-1)) ax.u;simpa[AV.cs] using this) ω
   rotate_left
   focus
    obtain⟨y1,d0,d1,d2,d3,d4,d5,iu⟩:=H.qc
    go_wp2_with fail;obtain⟨⟨E0,E1,E2,E3,E4,E5⟩,Fin⟩:=BU.fin (M:=N+20) (H.set4 (10000) ψ) ⟨R.k,R.e,R.a,R.b,10000,R.nm⟩ (by have:=yA w5 b 4 _ _ (.int .i64 (10000)) ax.u;simpa[AV.cs] using this) ω
   rotate_left
   focus
    obtain⟨y1,d0,d1,d2,d3,d4,d5,iu⟩:=H.qc
    go_wp2_with fail;obtain⟨⟨E0,E1,E2,E3,E4,E5⟩,Fin⟩:=BU.fin (M:=N+20) (H.set4 (2) ψ) ⟨R.k,R.e,R.a,R.b,2,R.nm⟩ (by have:=yA w5 b 4 _ _ (.int .i64 (2)) ax.u;simpa[AV.cs] using this) ω
   rotate_left
   focus
    obtain⟨y1,d0,d1,d2,d3,d4,d5,iu⟩:=H.qc
    go_wp2_with fail;obtain⟨⟨E0,E1,E2,E3,E4,E5⟩,Fin⟩:=BU.fin (M:=N+20) (H.set4 (49) ψ) ⟨R.k,R.e,R.a,R.b,49,R.nm⟩ (by have:=yA w5 b 4 _ _ (.int .i64 (49)) ax.u;simpa[AV.cs] using this) ω
   rotate_left
   all_goals
    exact yB (v:=.agg #[_,_,_,_,_,_]) (by simp[results,vJ,go_sem,E0,E1,E2,E3,E4,E5]) rfl Fin
  have t0:(q==0)=false:=by simp[mz]
  have t1:(q==1)=false:=by simp[my]
  have t2:(q==2)=false:=by simp[mx]
  have t3:(q==3)=false:=by simp[mw]
  have t4:(q==4)=false:=by simp[mu]
  clear mz my mx mw mu;obtain⟨R,c0,c1,c2,c3,c4,c5,hf,ax⟩:=H.cc;obtain⟨y1,d0,d1,d2,d3,d4,d5,iu⟩:=H.qc;go_wp2_with fail;obtain⟨⟨E0,E1,E2,E3,E4,E5⟩,Fin⟩:=BU.fin (M:=N+20) H R ax ω;exact yB (v:=.agg #[_,_,_,_,_,_]) (by simp[results,vJ,go_sem,E0,E1,E2,E3,E4,E5]) rfl Fin
def XV(x:AV):Prop:=L6 x/\(x.e=1∨x.e=2)
theorem Gj.e12{x:AV}(h:Gj J g N w (λv=>∃x:AV,v=.agg x.cs/\L6 x) (.returned (.agg x.cs)) W)(he:x.e=1∨x.e=2):Gj J g N w (λv=>∃x:AV,v=.agg x.cs/\XV x) (.returned (.agg x.cs)) W:=by obtain⟨v,e,⟨x',e2,hx⟩,V⟩:=h;cases e;refine⟨_,rfl,⟨x',e2,hx,?_⟩,V⟩;simp[AV.cs] at e2;rw[<-e2.2.1];exact he
theorem Oe (m i e c:Φ)(xs:List AW)(h:Dr J g N w)(hN:N<=700000)(hi:∀E,w.grownBy E (some g)->Bh E i xs)(hl:xs.length<=12):
 Ξ prog 22 #[.pointer g,.agg #[m,i,e,c]] w (Gj J g (N+30) w λv=>∃x:AV,v=.agg x.cs/\XV x):=by
 have ao:=h.lt;have fl:J.heap.size<=w.heap.size:=h.2.1.size;have Hi:=AA hi;clear hi;go_in;go_wp2_with fail;have gA:=AX (Hv w (.cells #[m,i,e,c] 28) (.cells #[θ,θ,θ,θ,θ,ϑ] 34)) (some g);refine(QI m i e c xs ((h.alloc _).alloc _) ω (λE hg=>Hi E (AO gA hg)) hl).mono ?_;rintro e' w1 ⟨v,rfl,⟨x,rfl,hx⟩,V,g1⟩;have H:BU J g (N+20) w m i e c w1 (w1.alloc (.cells x.cs 34)):=by
  have hz:=g1.size;simp at hz;have B1:=yy (w.alloc (.cells #[m,i,e,c] 28)) (.cells #[θ,θ,θ,θ,θ,ϑ] 34);have B0:=AB (yy w (.cells #[m,i,e,c] 28)) (AG _ (.cells #[θ,θ,θ,θ,θ,ϑ] 34));simp only[xt] at B1;have yV:∀{q:Nat} {o:Obj},w.heap.size<=q->((w.alloc (.cells #[m,i,e,c] 28)).alloc (.cells #[θ,θ,θ,θ,θ,ϑ] 34)).heap[q]?=some o->(w1.alloc (.cells x.cs 34)).heap[q]?=some o:=λ{q o} hq K=>AB ((g1.block q (AY K) η).trans K) (AG _ _)
  exact⟨x,hx,V.alloc _,IV (AO gA g1) _,ω,ao,fl,yy _ _,yV (yF _) B0,⟨⟨0,0,0,0,0,⟨#[]⟩⟩,yV ω B1⟩⟩
 clear V g1 h gA;simp only[AV.cs] at H ⊢;go_wp2_with fail;generalize w1.alloc (.cells #[x.k,x.e,x.a,x.b,x.c,x.nm] 34)=wr at H ⊢;generalize w1.heap.size=b at H ⊢;obtain⟨kX,kW,kV,jR⟩:=H.ne;refine(H.pk _).mono ?_;rintro e' w4 ⟨hs,rfl,z0,z1,S4⟩;replace H:=S4;clear S4;obtain⟨R,c0,c1,c2,c3,c4,c5,hf,ax⟩:=H.cc
 by_cases hk:R.k=1
 .have t0:(R.k==1)=true:=by simp[hk]
  clear hk;go_wp2_with fail;refine((H.set1 _ ω ω).dr.pick _).mono ?_;rintro e' w5 ⟨u,rfl,u0,u1,h5,g5⟩;replace u1:=u1 ψ;have pb:w5.heap[b]?=some (.cells (AV.cs ⟨R.k,1+hs,R.a,R.b,R.c,R.nm⟩) 34 (0,0)):=(g5.block b (by have:=AY ax.u;simpa using this) (by have:=H.gr.size;have:=kX;simp;obtain⟨_,_,_,_,h9,_⟩:=H;omega)).trans (by have:=yA w4 b 1 _ _ (.int .i64 (1+hs)) ax.u;simpa[AV.cs] using this);have fs:=AA pb;clear pb;replace H:=(H.set1 _ ω ω).draw h5 g5;clear h5 g5 c0 c1 c2 c3 c4 c5 hf ax t0
  by_cases hu:0<u
  .go_wp2_with fail
   have jU:=H.draw (H.dr.alloc (.cells #[.string ⟨#[98]⟩,.string ⟨#[99]⟩] 9)) (AX (AG _ _) _);refine(Pn w5.heap.size 2 [⟨#[98]⟩,⟨#[99]⟩] jU.dr ω rfl ψ ψ (by have:=H.dr.lt;omega) χ (λk hk=>K9 w5 [⟨#[98]⟩,⟨#[99]⟩] _ hk)).mono ?_;rintro e' w6 ⟨v,rfl,⟨s,z,rfl⟩,h6,g6⟩;replace H:=jU.draw h6 g6;clear h6 g6 jU;simp only[xH,wM,or_false] at z;obtain⟨R,c0,c1,c2,c3,c4,c5,hf,ax⟩:=H.cc
   rcases z with rfl|rfl
   .obtain⟨y1,d0,d1,d2,d3,d4,d5,iu⟩:=H.qc
    go_wp2_with fail;obtain⟨⟨E0,E1,E2,E3,E4,E5⟩,Fin⟩:=BU.fin (M:=N+30) ((H.setS ⟨#[98]⟩ ψ).set1 1 ψ ψ) ⟨R.k,1,R.a,R.b,R.c,⟨#[98]⟩⟩ (by have h0:=yA w6 b 5 _ _ (.string ⟨#[98]⟩) ax.u;have V:=yA _ b 1 _ _ (.int .i64 1) h0;simpa[AV.cs] using V) ω;exact yB (v:=.agg #[_,_,_,_,_,_]) (by simp[results,uD,go_sem,E0,E1,E2,E3,E4,E5]) rfl (Fin.e12 (.inl rfl))
   obtain⟨y1,d0,d1,d2,d3,d4,d5,iu⟩:=H.qc
   have kf:(((w6.setCell (b,5) (.string ⟨#[99]⟩)).setCell (b,1) (.int .i64 1)).setCell (b,1) (.int .i64 2)).heap[b]?=some (.cells (AV.cs ⟨R.k,2,R.a,R.b,R.c,⟨#[99]⟩⟩) 34 (0,0)):=by have h0:=yA w6 b 5 _ _ (.string ⟨#[99]⟩) ax.u;have V:=yA _ b 1 _ _ (.int .i64 1) h0;have L:=yA _ b 1 _ _ (.int .i64 2) V;simpa[AV.cs] using L
   have cd:=(II kf).2.1;have hJ:=AA kf;clear kf;go_wp2_with fail;obtain⟨⟨E0,E1,E2,E3,E4,E5⟩,Fin⟩:=BU.fin (M:=N+30) (((H.setS ⟨#[99]⟩ ψ).set1 1 ψ ψ).set1 2 ψ ψ) ⟨R.k,2,R.a,R.b,R.c,⟨#[99]⟩⟩ hJ ω;exact yB (v:=.agg #[_,_,_,_,_,_]) (by simp[results,uD,go_sem,E0,E1,E2,E3,E4,E5]) rfl (Fin.e12 (.inr rfl))
  have u2:u<=0:=ω;obtain⟨c0,c1,c2,c3,c4,c5⟩:=II fs.u;obtain⟨y1,d0,d1,d2,d3,d4,d5,iu⟩:=H.qc;go_wp2_with fail;obtain⟨⟨E0,E1,E2,E3,E4,E5⟩,Fin⟩:=BU.fin (M:=N+30) H _ fs ω;exact yB (v:=.agg #[_,_,_,_,_,_]) (by simp[results,uD,go_sem,E0,E1,E2,E3,E4,E5]) rfl (Fin.e12 (by simp only;omega))
 have t0:(R.k==1)=false:=by simp[hk]
 clear hk;obtain⟨y1,d0,d1,d2,d3,d4,d5,iu⟩:=H.qc;go_wp2_with fail;obtain⟨⟨E0,E1,E2,E3,E4,E5⟩,Fin⟩:=BU.fin (M:=N+30) (H.set1 (1+hs) ω ω) ⟨R.k,1+hs,R.a,R.b,R.c,R.nm⟩ (by have:=yA w4 b 1 _ _ (.int .i64 (1+hs)) ax.u;simpa[AV.cs] using this) ω;exact yB (v:=.agg #[_,_,_,_,_,_]) (by simp[results,uD,go_sem,E0,E1,E2,E3,E4,E5]) rfl (Fin.e12 (by simp only;omega))
def Ig(J:Ω)(g N:Nat)(w:Ω)(P:Φ->Ω->Prop)(e:Ending)(E:Ω):Prop:=∃v,e=.returned v/\P v E/\Dr J g N E/\w.grownBy E (some g)
def Pk(m:Int)(v:Φ):Prop:=∃x:Int,v=.int .i64 x/\0<=x/\x<m
theorem yY (cs:List Nat)(h2:Nat->Bool)(i:Nat):(cs.filter λj=>!Hh h2 i j).length<=(cs.filter λj=>!h2 j).length:=by
 induction cs with
 |nil=>exact yF _
 |cons c cs ih=>
  simp only[vP]
  by_cases h:c=i
  .subst h
   rw[show Hh h2 c c=true by simp[Hh]];cases h2 c<;>simp<;>omega
  rw[show Hh h2 i c=h2 c by simp[Hh,h]]
  cases h2 c<;>simp<;>omega
theorem Xj (cs:List Nat)(h2:Nat->Bool)(i:Nat)(hi:cs.contains i=true)(hL:h2 i=false):(cs.filter λj=>!Hh h2 i j).length+1<=(cs.filter λj=>!h2 j).length:=by
 induction cs with
 |nil=>cases hi
 |cons c cs ih=>
  simp only[vP]
  by_cases h:c=i
  .subst h
   rw[show Hh h2 c c=true by simp[Hh],hL];have:=yY cs h2 c;simp;omega
  rw[show Hh h2 i c=h2 c by simp[Hh,h]]
  have nu:cs.contains i=true:=by simpa[Ne.symm h] using hi
  have:=ih nu;cases h2 c<;>simp<;>omega
def ZG(J:Ω)(g:Nat)(W0:Ω)(N0 kk c:Nat)(cs:List Nat)(h2:Nat->Bool)(w:Ω):Prop:=∃M,M+kk*(cs.filter λj=>!h2 j).length<=N0+kk*c/\Dr J g M w/\W0.grownBy w (some g)
section
variable {P:Program} {l:List Oper} {n i:Nat} {o o':Oper} {a a0:Act} {w J W0:Ω} {hb:Act->Ω->Prop} {Q:Exit->Act->Ω->Prop} {h1:List Vx} {x1:Nat->Φ->Ω->Prop} {v:Φ} {g N0 kk c:Nat} {cs:List Nat} {h2:Nat->Bool}
abbrev fh(l:List Oper)(n:Nat)(a0 a:Act):Prop:=a.defers=a0.defers/\a.tmps.size=a0.tmps.size/\∀t,(∀i,i<n->Ae l i≠t)->a.tmps[t]?=a0.tmps[t]?
abbrev fi(l:List Oper)(i:Nat)(h1:List Vx)(x1:Nat->Φ->Ω->Prop)(a:Act)(w:Ω):Prop:=∀j,yk .any l.toArray i j=true->RV h1 x1 j (a.tmps[Ae l j]?.getD Θ) w
abbrev fS(h1:List Vx)(x1:Nat->Φ->Ω->Prop)(J:Ω)(g:Nat)(W0:Ω)(N0 kk c:Nat)(cs:List Nat)(h2:Nat->Bool)(i:Nat)(o:Oper)(a:Act)(w:Ω)(hb:Act->Ω->Prop):Prop:=∀v E,RV h1 x1 i v E->ZG J g W0 N0 kk c cs (Hh h2 i) E->w.grownBy E (some g)->hb (a.put o.dst v) E
theorem gc{b g7:Nat}(hW:W0.grownBy w (some g))(ao:b<W0.heap.size)(gT:b≠g)(h:W0.cell? (b,g7)=some v):w.cell? (b,g7)=some v:=(vW (hW.block b ao (by simpa using gT))).trans h
theorem dR{F:FuncId}{vs:Array Φ}{Pv:Φ->Ω->Prop}{k:Nat}(X:l[i]?=some o)(HQ:dv (fS h1 x1 J g W0 N0 kk c cs h2 i o a w hb))(D:dv (fh l n a0 a))(A:dv (fi l i h1 x1 a w))(Z:dv (h2 i=false))(Y:ZG J g W0 N0 kk c cs h2 w)
 (hc:∀M,M<=N0+kk*c->Dr J g M w->W0.grownBy w (some g)->Ξ P F vs w (Ig J g (M+k) w Pv))(hk:k<=kk:=by decide)(hR:∀v E,Pv v E->RV h1 x1 i v E:=by exact λ_ _ h=>h)(hi:cs.contains i=true:=by rfl)
 (e:l[i]?=some o':=by rfl)(hw:Lv l i h1 o'=some true:=by kernel_rfl)(hr:(execOp (cf l n i h1 a0 a) o').run P w=.ok (.enter F vs) w:=by kernel_rfl):AT P l o a w hb Q:=by
 obtain rfl:=yP (X.symm.trans e);refine⟨λ_=>?_,λh=>absurd ((LM A hw).symm.trans h) ψ⟩;unfold Oper.wp;rw[<-Sv D A,hr,Oper.upon_enter];obtain⟨M,hM,hD,hW⟩:=Y;refine(hc M ω hD hW).mono ?_;intro x E h;obtain⟨v,rfl,V,L,h3⟩:=h;have hl:=Xj cs h2 i hi Z.u;refine HQ v E (hR v E V) ⟨M+kk,?_,L.mono ω,AO hW h3⟩ h3;have:=wA kk hl;rw[Nat.mul_add,wX] at this;omega
theorem gE{F:FuncId}{vs:Array Φ}{Pv:Φ->Prop}{k:Nat}(X:l[i]?=some o)(HQ:dv (fS h1 x1 J g W0 N0 kk c cs h2 i o a w hb))(D:dv (fh l n a0 a))(A:dv (fi l i h1 x1 a w))(Z:dv (h2 i=false))(Y:ZG J g W0 N0 kk c cs h2 w)
 (hc:∀M,M<=N0+kk*c->Dr J g M w->W0.grownBy w (some g)->Ξ P F vs w (Gj J g (M+k) w Pv))(hk:k<=kk:=by decide)(hR:∀v E,Pv v->RV h1 x1 i v E:=by exact λ_ _ h=>h)(hi:cs.contains i=true:=by rfl)
 (e:l[i]?=some o':=by rfl)(hw:Lv l i h1 o'=some true:=by kernel_rfl)(hr:(execOp (cf l n i h1 a0 a) o').run P w=.ok (.enter F vs) w:=by kernel_rfl):AT P l o a w hb Q:=
 dR (Pv:=λv _=>Pv v) X HQ D A Z Y hc hk hR hi e hw hr
theorem Fs{id:Nat}(n N kk c:Nat)(cs:List Nat)(h1:List Vx)(x1:Nat->Φ->Ω->Prop)(nK:Dr J g N0 W0)
 (kD:∀i,i<n->∀o,l[i]?=some o->∀a w,dv (fh l n a0 a)->dv (fi l i h1 x1 a w)->∀h2:Nat->Bool,dv (h2 i=false)->ZG J g W0 N0 kk c cs h2 w->W0.grownBy w (some g)->
  ∀hb:Act->Ω->Prop,dv (fS h1 x1 J g W0 N0 kk c cs h2 i o a w hb)->dv (∀v E,RV h1 x1 i v E->Γ w w E->hb (a.put o.dst v) E)->AT P l o a w hb Q)
 (iD:∀(vs:Nat->Φ) w,(∀i,i<n->RV h1 x1 i (vs i) w)->Dr J g (N0+kk*c) w->W0.grownBy w (some g)->wpList P l.toArray Q (l.drop n) {a0 with tmps:=Aj l (yL n) vs a0.tmps} w)
 (hst:∀i,i<n->∀v w E,w.grownBy E (some g)->x1 i v w->x1 i v E:=by exact λ_ _ _ _ _ _ h=>h)(nz:cs.length=c:=by rfl)
 (hm:P.follows .mixedOrders=true:=by kernel_rfl)(hB:Ip l n=true:=by kernel_rfl)(hN:a0.tmps.size=N:=by rfl)(hD:WN l n N=true:=by kernel_rfl):(Code.region id l.toArray true).wp P Q a0 W0:=by
 subst nz;refine Fk n hm hB N hN hD (RV h1 x1) (λh2 w=>ZG J g W0 N0 kk cs.length cs h2 w) ?_ ?_ ?_
 .refine⟨N0,?_,nK.below (Ai (yN _ _) 1),AX (Ai (yN _ _) 1) _⟩
  have:=xG (λj=>!(λ_:Nat=>false) j) cs;exact sG (wA kk this) _
 .intro i hi o X a w D A h2 Z Y hb O
  have hq:fS h1 x1 J g W0 N0 kk cs.length cs h2 i o a w hb:=λv E V L h3=>O v E V L λj u _ hj _ h=>RV.mono (hst j hj u w E h3) h
  have hW:W0.grownBy w (some g):=by obtain⟨_,_,_,h⟩:=Y;exact h
  refine kD i hi o X a w D A h2 (AA Z.1) Y hW hb (AA hq) (AA λv E V K=>hq v E V ?_ (AX K _));obtain⟨M,L,h3,h4⟩:=Y;have:=wA kk (yY cs h2 i);exact⟨M,ω,h3.below K,AO h4 (AX K _)⟩
 intro vs w hR h2 hL Y
 obtain⟨M,L,h3,h4⟩:=Y;exact iD vs w hR (h3.mono ω) h4
def Sq(l:List Oper):Nat->Nat->Nat->Bool
 |0,_,_=>false
 |f+1,k,i=>yk .any l.toArray k i||(yL l.length).any λj=>yk .any l.toArray k j&&Sq l f j i
theorem XA{f k:Nat}(hc:∀j j',h2 j=true->yk .any l.toArray j j'=true->h2 j'=true)(hk:h2 k=true)(h:Sq l f k i=true):h2 i=true:=by
 induction f generalizing k with
 |zero=>cases h
 |succ f ih=>
  unfold Sq at h
  rcases Bool.or_eq_true_iff.1 h with h|h
  .exact hc k i hk h
  obtain⟨j,_,hj⟩:=List.any_eq_true.1 h
  obtain⟨V,L⟩:=um.1 hj;exact ih (hc k j hk V) L
def eJ(s:Nat)(U:Nat->Φ->Prop)(x1:Nat->Φ->Ω->Prop)(h2:Nat->Bool)(i:Nat)(v:Φ)(w:Ω):Prop:=U i v/\(h2 s=false->x1 i v w)
def gI(J:Ω)(g:Nat)(W0:Ω)(N0 kk c:Nat)(cs:List Nat)(s:Nat)(Af:Ω->Prop)(h2:Nat->Bool)(w:Ω):Prop:=(h2 s=true->Af w)/\(h2 s=false->ZG J g W0 N0 kk c cs h2 w)
theorem J4{id s:Nat}{U:Nat->Φ->Prop}(n N kk c:Nat)(cs:List Nat)(h1:List Vx)(x1:Nat->Φ->Ω->Prop)(Af:Ω->Prop)(nK:Dr J g N0 W0)
 (jL:∀i,i<n->(i==s||cs.contains i)=false->∀o,l[i]?=some o->∀a w,dv (aY l n a0 a)->∀h2:Nat->Bool,dv (ZI l n h1 (eJ s U x1) h2 a w)->dv (Ys l i h2)->(Sq l n s i=true->W0.grownBy w (some g))->
  ∀hb:Act->Ω->Prop,dv (eU h1 (eJ s U x1) h2 i o a w hb)->AT P l o a w hb Q)
 (cC:∀i,i<n->cs.contains i=true->∀o,l[i]?=some o->∀a w,dv (aY l n a0 a)->∀h2:Nat->Bool,dv (ZI l n h1 (eJ s U x1) h2 a w)->dv (Ys l i h2)->ZG J g W0 N0 kk c cs h2 w->
  ∀hb:Act->Ω->Prop,dv (∀v E,U i v->x1 i v E->El h1 i=none->ZG J g W0 N0 kk c cs (Hh h2 i) E->w.grownBy E (some g)->hb (a.put o.dst v) E)->AT P l o a w hb Q)
 (jK:∀o,l[s]?=some o->∀a w,dv (aY l n a0 a)->∀h2:Nat->Bool,dv (ZI l n h1 (eJ s U x1) h2 a w)->dv (Ys l s h2)->Dr J g (N0+kk*c) w->W0.grownBy w (some g)->
  ∀hb:Act->Ω->Prop,dv (∀v E,Af E->hb (a.put o.dst v) E)->AT P l o a w hb Q)
 (rt:∀w E,Γ w.heap.size w E->Af w->Af E)
 (iD:∀(vs:Nat->Φ) w,∀h2:Nat->Bool,(∀i,i<n->RF h1 (eJ s U x1) h2 i (vs i) w)->Af w->wpList P l.toArray Q [] {a0 with tmps:=DD l (yL n) vs a0.tmps} w)
 (hst:∀i,i<n->∀v w E,w.grownBy E (some g)->x1 i v w->x1 i v E:=by exact λ_ _ _ _ _ _ h=>h)(nz:cs.length=c:=by rfl)(qI:s<n:=by decide)(qJ:El h1 s=some Θ:=by rfl)(oL:(l[s]?).bind (·.dst)=none:=by rfl)
 (oM:cs.contains s=false:=by rfl)(qP:cs.all (λi=>decide (i<n)&&Sq l n s i&&((l[i]?).bind (·.dst)).isSome)=true:=by kernel_rfl)
 (hm:P.follows .mixedOrders=true:=by kernel_rfl)(hN:a0.tmps.size=N:=by rfl)(hB:Yv l N=true:=by kernel_rfl)(hn:l.length=n:=by rfl):(Code.region id l.toArray true).wp P Q a0 W0:=by
 subst nz;refine Cv n N (λi=>i==s||cs.contains i) h1 (eJ s U x1) (gI J g W0 N0 kk cs.length cs s Af) ?_ ?_ ?_ ?_ ?_ ?_ hm hN hB hn
 .refine⟨λh=>(by cases h),λ_=>⟨N0,?_,nK.below (Ai (yN _ _) 1),AX (Ai (yN _ _) 1) _⟩⟩
  have:=xG (λj=>!(λ_:Nat=>false) j) cs;exact sG (wA kk this) _
 .intro j hj h2 i v w E _ _ _ _ K h
  exact⟨h.1,λz=>hst j hj v w E (AX K _) (h.2 (Do z))⟩
 .intro h2 i w E _ hS _ K h
  have gT:s≠i:=by rintro rfl;simp at hS
  have e:Hh h2 i s=h2 s:=by simp[Hh,gT]
  refine⟨λz=>rt w E K (h.1 (e▸z)),λz=>?_⟩;obtain⟨M,L,h3,h4⟩:=h.2 (e▸z);have:=wA kk (yY cs h2 i);exact⟨M,ω,h3.below K,AO h4 (AX K _)⟩
 .intro i hi hS o X a w D h2 A Z Y hb O
  refine jL i hi hS o X a w D h2 A Z (λhr=>?_) hb O;have z:h2 s=false:=by
   cases hx:h2 s with
   |false=>rfl
   |true=>exact absurd (XA Z.2.2 hx hr) (by rw[Z.1];decide)
  obtain⟨_,_,_,h⟩:=Y.2 z;exact h
 .intro i hi hS o X a w D h2 A Z Y hb O
  by_cases nt:i=s
  .subst nt
   obtain⟨M,L,h3,h4⟩:=Y.2 Z.1;refine jK o X a w D h2 A Z (h3.mono ω) h4 hb (AA λv E hA=>O v E ?_ ⟨λ_=>hA,λh=>by simp[Hh] at h⟩ λj jx hj _ h=>?_)
   .have e:o.dst=none:=by rw[X] at oL;exact oL
    rw[e];exact RF.of qJ
   exact RF.mono (λh=>⟨h.1,λL=>by simp[Hh] at L⟩) h
  have hc:cs.contains i=true:=by simpa[nt] using hS
  have h3:=ym.1 qP i (by simpa using hc);simp only[yC,decide_eq_true_eq] at h3;obtain⟨⟨_,hr⟩,hd⟩:=h3;have z:h2 s=false:=by
   cases hx:h2 s with
   |false=>rfl
   |true=>exact absurd (XA Z.2.2 hx hr) (by rw[Z.1];decide)
  have e:Hh h2 i s=h2 s:=by simp[Hh,Ne.symm nt]
  refine cC i hi hc o X a w D h2 A Z (Y.2 z) hb (AA λv E V L hv hD hW=>O v E ?_ ⟨λh=>(by rw[e,z] at h;cases h),λ_=>hD⟩ λj jx hj _ h=>?_)
  .obtain⟨d,hd⟩:=Option.isSome_iff_exists.1 hd
   have e2:o.dst=some d:=by rw[X] at hd;exact hd
   rw[e2];unfold RF;rw[hv];exact⟨V,λ_=>L⟩
  exact RF.mono (λh=>⟨h.1,λL=>hst j hj _ _ _ hW (h.2 (Do L))⟩) h
 intro vs w h2 hL hR Y
 exact iD vs w h2 hR (Y.1 (hL s qI))
theorem fR{s:Nat}{U:Nat->Φ->Prop}{F:FuncId}{vs:Array Φ}{Pv:Φ->Ω->Prop}{k:Nat}(X:l[i]?=some o)(HQ:dv (∀v E,U i v->x1 i v E->El h1 i=none->ZG J g W0 N0 kk c cs (Hh h2 i) E->w.grownBy E (some g)->hb (a.put o.dst v) E))(D:dv (aY l n a0 a))(A:dv (ZI l n h1 (eJ s U x1) h2 a w))(Z:dv (Ys l i h2))(Y:ZG J g W0 N0 kk c cs h2 w)
 (hc:∀M,M<=N0+kk*c->Dr J g M w->W0.grownBy w (some g)->Ξ P F vs w (Ig J g (M+k) w Pv))(hk:k<=kk:=by decide)(hR:∀v E,Pv v E->U i v/\x1 i v E)(hv:El h1 i=none:=by rfl)(hi:cs.contains i=true:=by rfl)
 (e:l[i]?=some o':=by rfl)(hw:Qb l n i h1 o'=some true:=by kernel_rfl)(hr:(execOp (YV l n i h1 a0 a) o').run P w=.ok (.enter F vs) w:=by kernel_rfl):AT P l o a w hb Q:=by
 obtain rfl:=yP (X.symm.trans e);refine⟨λ_=>?_,λh=>absurd ((PC A Z hw).symm.trans h) ψ⟩;unfold Oper.wp;rw[<-Qu D A Z,hr,Oper.upon_enter];obtain⟨M,hM,hD,hW⟩:=Y;refine(hc M ω hD hW).mono ?_;intro x E h;obtain⟨v,rfl,V,L,h3⟩:=h;have hl:=Xj cs h2 i hi Z.1;obtain⟨r1,r2⟩:=hR v E V;refine HQ v E r1 r2 hv ⟨M+kk,?_,L.mono ω,AO hW h3⟩ h3;have:=wA kk hl;rw[Nat.mul_add,wX] at this;omega
theorem dK{m:Int}(X:l[i]?=some o)(HQ:dv (fS h1 x1 J g W0 N0 kk c cs h2 i o a w hb))(D:dv (fh l n a0 a))(A:dv (fi l i h1 x1 a w))(Z:dv (h2 i=false))(Y:ZG J g W0 N0 kk c cs h2 w)(hN:N0+kk*c<=1000000)(hm:0<m/\m<=1000000:=by decide)
 (e:l[i]?=some o':=by rfl)(hr:(execOp (cf l n i h1 a0 a) o').run prog w=.ok (.enter 23 #[.pointer g,.int .i64 m]) w:=by kernel_rfl)
 (hw:Lv l i h1 o'=some true:=by kernel_rfl)(hk:1<=kk:=by decide)(hR:∀v E,Pk m v->RV h1 x1 i v E:=by exact λ_ _ h=>h)(hi:cs.contains i=true:=by rfl):AT prog l o a w hb Q:=
 gE (Pv:=Pk m) (k:=1) X HQ D A Z Y (λM hM hD hW=>(hD.pick m ω hm.2).mono λ_ _ h=>by obtain⟨x,rfl,h0,V,L,h3⟩:=h;exact⟨_,rfl,⟨x,rfl,h0,V hm.1⟩,L,h3⟩) hk hR hi e hw hr
theorem fK{s:Nat}{U:Nat->Φ->Prop}{m:Int}(X:l[i]?=some o)(HQ:dv (∀v E,U i v->x1 i v E->El h1 i=none->ZG J g W0 N0 kk c cs (Hh h2 i) E->w.grownBy E (some g)->hb (a.put o.dst v) E))(D:dv (aY l n a0 a))(A:dv (ZI l n h1 (eJ s U x1) h2 a w))(Z:dv (Ys l i h2))(Y:ZG J g W0 N0 kk c cs h2 w)(hN:N0+kk*c<=1000000)(hm:0<m/\m<=1000000:=by decide)
 (e:l[i]?=some o':=by rfl)(hr:(execOp (YV l n i h1 a0 a) o').run prog w=.ok (.enter 23 #[.pointer g,.int .i64 m]) w:=by kernel_rfl)
 (hw:Qb l n i h1 o'=some true:=by kernel_rfl)(hk:1<=kk:=by decide)(hR:∀v E,Pk m v->U i v/\x1 i v E:=by exact λ_ _ h=>⟨h,trivial⟩)(hv:El h1 i=none:=by rfl)(hi:cs.contains i=true:=by rfl):AT prog l o a w hb Q:=
 fR (Pv:=λv _=>Pk m v) (k:=1) X HQ D A Z Y (λM hM hD hW=>(hD.pick m ω hm.2).mono λ_ _ h=>by obtain⟨x,rfl,h0,V,L,h3⟩:=h;exact⟨_,rfl,⟨x,rfl,h0,V hm.1⟩,L,h3⟩) hk hR hv hi e hw hr
end
structure V5(w0:Ω)(g N:Nat)(w:Ω)(T n b:Nat)(cs:Array Φ)(wr:Ω):Prop where
 dr:Dr w0 g N wr
 gr:w.grownBy wr (some g)
 lt:w.heap.size<b
 glt:g<w.heap.size
 lo:w0.heap.size<=w.heap.size
 yU:wr.heap[b]?=some (.cells cs T (0,0))
 res:∃rs:Array Φ,rs.size=n/\wr.heap[w.heap.size]?=some (.cells rs T (0,0))
section
variable {J w wr E:Ω} {g N M T n b:Nat} {cs:Array Φ}
theorem V5.draw(h:V5 J g N w T n b cs wr)(hd:Dr J g M E)(hg:wr.grownBy E (some g)):V5 J g M w T n b cs E:=by
 have yV:∀{q:Nat} {o:Obj},w.heap.size<=q->wr.heap[q]?=some o->E.heap[q]?=some o:=λ{q o} hq K=>(hg.block q (AY K) (by have:=h.glt;simp;omega)).trans K
 obtain⟨rs,V,L⟩:=h.res;exact⟨hd,AO h.gr hg,h.lt,h.glt,h.lo,yV (Nat.le_of_lt h.lt) h.yU,rs,V,yV (yF _) L⟩
theorem V5.pk(h:V5 J g N w T n b cs wr)(m:Int)(hN:N<=900000:=by omega)(h0:0<m:=by decide)(hm:m<=1000000:=by decide):Ξ prog 23 #[.pointer g,.int .i64 m] wr λe' E=>∃x:Int,e'=.returned (.int .i64 x)/\0<=x/\x<m/\V5 J g (N+1) w T n b cs E:=
 (h.dr.pick m ω hm).mono λ_ _ hp=>by obtain⟨x,rfl,V,L,h3,h4⟩:=hp;exact⟨x,rfl,V,L h0,h.draw h3 h4⟩
theorem V5.set(h:V5 J g N w T n b cs wr)(j:Nat)(u:Φ){cs':Array Φ}(e:cs.setIfInBounds j u=cs'):V5 J g N w T n b cs' (wr.setCell (b,j) u):=by
 have K:=yA wr b j _ _ u h.yU;obtain⟨rs,V,L⟩:=h.res;have:=h.lt;have:=h.lo;have:=h.glt;exact⟨h.dr.set ω ω,Cw h.gr ω _,h.lt,h.glt,h.lo,by rw[K,e],rs,V,(tT wr ⟨b,j,none⟩ _ _ (λe=>by simp at e;omega)).trans L⟩
theorem V5.start{T n:Nat}{cs hs:Array Φ}{w1:Ω}(V:Dr J g N w1)(g1:(w.alloc (.cells hs T)).grownBy w1 (some g))(hz:hs.size=n)(ej:g<w.heap.size)(av:J.heap.size<=w.heap.size):V5 J g N w T n w1 cs (w1.alloc (.cells cs T)):=by have z:=g1.size;simp at z;have B0:=yy w (.cells hs T);have B1:=(g1.block w.heap.size χ η).trans B0;exact⟨V.alloc _,IV (AO (AX (AG _ _) _) g1) _,ω,ej,av,yy _ _,hs,hz,AB B1 (AG _ _)⟩
end
theorem V5.mono{cs:Array Φ}(h:V5 J g N w T n b cs wr)(hm:N<=M):V5 J g M w T n b cs wr:=⟨h.dr.mono hm,h.gr,h.lt,h.glt,h.lo,h.yU,h.res⟩
theorem MH{a b:Φ}(h:w.heap[g]?=some (.cells #[a,b,c] T (0,0))):w.cell? g=some a/\w.cell? (g,1)=some b/\w.cell? (g,2)=some c:=⟨yx w g 0 _ _ _ h,yx w g 1 _ _ _ h,yx w g 2 _ _ _ h⟩
theorem Og (xs:List Int)(t:Nat)(bf:(w.alloc (.cells (xs.map (yl .i64)).toArray t)).grownBy w1 (some g))(ao:g<w.heap.size){y:Nat}(hy:y<xs.length):∃q:Int,w1.cell? (w,y)=some (.int .i64 q):=
 ⟨xs[y],Di bf ao (by simp[hy])⟩
variable{rs:Array Φ}
theorem fW{v3:Φ}(hd:Dr J g N wr)(hg:w.grownBy wr (some g))(ej:g<w.heap.size)(av:J.heap.size<=w.heap.size)(z:rs.size=4)(hB:wr.heap[w.heap.size]?=some (.cells rs T (0,0)))(hM:N<=M){P:Φ->Prop}(hP:P (.agg #[v0,v1,v2,v3])):
 ((((wr.setCell w v0).setCell (w,1) v1).setCell (w,2) v2).setCell (w,3) v3).heap[w.heap.size]?=some (.cells #[v0,v1,v2,v3] T (0,0))/\
 Gj J g M w P (.returned (.agg #[v0,v1,v2,v3])) ((((wr.setCell w v0).setCell (w,1) v1).setCell (w,2) v2).setCell (w,3) v3):=by
 obtain⟨a0,a1,a2,a3,rfl⟩:∃a0 a1 a2 a3,rs= #[a0,a1,a2,a3]:=by
  match rs,z with
  |⟨[a0,a1,a2,a3]⟩,_=>exact⟨a0,a1,a2,a3,rfl⟩
 have n1:w.heap.size≠g:=ω;have n3:w.heap.size<=w.heap.size:=yF _;exact⟨DP hB,_,rfl,hP,((((hd.set n1 av).set n1 av).set n1 av).set n1 av).mono hM,Cw (Cw (Cw (Cw hg n3 _) n3 _) n3 _) n3 _⟩
theorem eM (hd:Dr J g N wr)(hg:w.grownBy wr (some g))(ej:g<w.heap.size)(av:J.heap.size<=w.heap.size)(z:rs.size=3)(hB:wr.heap[w.heap.size]?=some (.cells rs T (0,0)))(hM:N<=M){P:Φ->Prop}(hP:P (.agg #[v0,v1,v2])):
 (((wr.setCell w v0).setCell (w,1) v1).setCell (w,2) v2).heap[w.heap.size]?=some (.cells #[v0,v1,v2] T (0,0))/\
 Gj J g M w P (.returned (.agg #[v0,v1,v2])) (((wr.setCell w v0).setCell (w,1) v1).setCell (w,2) v2):=by
 obtain⟨a0,a1,a2,rfl⟩:∃a0 a1 a2,rs= #[a0,a1,a2]:=by
  match rs,z with
  |⟨[a0,a1,a2]⟩,_=>exact⟨a0,a1,a2,rfl⟩
 have n1:w.heap.size≠g:=ω;have n3:w.heap.size<=w.heap.size:=yF _;have h0:=yA wr w.heap.size 0 _ _ v0 hB;have V:=yA _ w.heap.size 1 _ _ v1 h0;have L:=yA _ w.heap.size 2 _ _ v2 V;exact⟨by simpa using L,_,rfl,hP,(((hd.set n1 av).set n1 av).set n1 av).mono hM,Cw (Cw (Cw hg n3 _) n3 _) n3 _⟩
theorem VU (h:Dr J g N w)(hN:N<=900000):
 Ξ prog 219 #[.pointer g] w (Gj J g (N+2) w λv=>∃x:Int,v=.int .i64 x):=by
 go_in;go_wp2_with fail;refine(h.pick _).mono ?_;rintro e w1 ⟨x,rfl,j4,hZ,V,g1⟩
 by_cases hx:x=0
 .subst hx
  go_wp2_with fail;refine((V.alloc _).pick _).mono ?_;rintro e w2 ⟨y,rfl,ir,ei,L,g2⟩;have ei:=ei ψ;have c0:=Di (j:=0) g2 V.lt rfl;have c1:=Di (j:=1) g2 V.lt rfl;have c2:=Di (j:=2) g2 V.lt rfl;have G:=AA (AO g1 (AO (AX (AG _ _) _) g2));clear g1 g2
  rcases(ω:y=0∨y=1∨y=2) with rfl|rfl|rfl
  all_goals
   go_wp2;go_ret;exact⟨_,rfl,⟨_,rfl⟩,L,G.u⟩
 have t0:(x==0)=false:=by simp[hx]
 clear hx;go_wp2_with (refine(V.pick _).mono ?_;rintro e w2 ⟨y,rfl,ir,ei,L,g2⟩;have G:=AA (AO g1 g2);clear g1 g2);go_ret;exact⟨_,rfl,⟨_,rfl⟩,L,G.u⟩
theorem NW (h:Dr J g N w)(hN:N<=800000):
 Ξ prog 175 #[.pointer g] w (Gj J g (N+8) w λv=>∃x:Ag,v=.agg #[x.e,x.p,x.f,x.w]):=by
 have ao:=h.lt;have fl:J.heap.size<=w.heap.size:=h.2.1.size;go_in;go_wp2_with fail;refine((h.alloc _).pick _).mono ?_;rintro e w1 ⟨x,rfl,_,_,V,g1⟩;go_wp2_with fail;refine(V.pick _).mono ?_;rintro e w2 ⟨y,rfl,_,_,L,g2⟩;go_wp2_with fail;refine(L.pick _).mono ?_;rintro e w3 ⟨f,rfl,_,_,h3,g3⟩;have H:=V5.start (T:=125) (n:=4) (cs:= #[.int .i64 x,.int .i64 y,.int .i64 f,.bool false]) h3 (AO (AO g1 g2) g3) rfl ao fl;clear h V L h3 g1 g2 g3;go_wp2_with fail;generalize w3.alloc _=w4 at H ⊢;generalize w3.heap.size=b at H ⊢;refine(H.pk _).mono ?_;rintro e w5 ⟨hs,rfl,_,_,S5⟩;clear H;obtain⟨c0,c1,c2,c3⟩:=AH S5.yU;have fz:=AK S5.yU;go_wp2_with fail;have S6:=S5.set (cs':= #[.int .i64 x,.int .i64 y,.int .i64 f,.bool (hs==0)]) 3 (.bool (hs==0)) χ;refine(S6.pk _).mono ?_;rintro e w7 ⟨u,rfl,_,_,H⟩;clear S5 S6 c0 c1 c2 c3 fz;have rl:=H.lt;go_upto_block 0 with fail;go_cut [] (λwx=>∃x:Ag,V5 J g (N+8) w 125 4 b #[.int .i64 x.e,.int .i64 x.p,.int .i64 x.f,.bool x.w] wx)
 case first=>
  by_cases u0:u=0
  .subst u0
   go_wp2_with fail;have gp:=H.dr.lt;have SA:=H.draw (H.dr.alloc (.cells #[.int .i64 (-1),.int .i64 3] 3)) (AX (AG _ _) _);refine(SA.dr.pick _).mono ?_;rintro e w6 ⟨k9,rfl,k0,k1,h6,g6⟩;replace k1:=k1 ψ;obtain⟨k9,rfl⟩:=yg k0;obtain⟨q,hq⟩:=Og [-1,3] 3 g6 gp (y:=k9) η;have S6:=SA.draw h6 g6;clear H SA g6 h6 gp;obtain⟨c0,c1,c2,c3⟩:=AH S6.yU;have fz:=AK S6.yU;go_wp2_with fail;go_meet;exact⟨⟨q,y,f,hs==0⟩,(S6.set 0 _ χ).mono ω⟩
  have t0:(u==0)=false:=by simp[u0]
  by_cases u1:u=1
  .subst u1
   clear u0;go_wp2_with fail;have gp:=H.dr.lt;have SA:=H.draw (H.dr.alloc (.cells #[.int .i64 (-1),.int .i64 15,.int .i64 16] 3)) (AX (AG _ _) _);refine(SA.dr.pick _).mono ?_;rintro e w6 ⟨k9,rfl,k0,k1,h6,g6⟩;replace k1:=k1 ψ;obtain⟨k9,rfl⟩:=yg k0;obtain⟨q,hq⟩:=Og [-1,15,16] 3 g6 gp (y:=k9) η;have S6:=SA.draw h6 g6;clear H SA g6 h6 gp;obtain⟨c0,c1,c2,c3⟩:=AH S6.yU;have fz:=AK S6.yU;go_wp2_with fail;go_meet;exact⟨⟨x,q,f,hs==0⟩,(S6.set 1 _ χ).mono ω⟩
  have t1:(u==1)=false:=by simp[u1]
  by_cases u2:u=2
  .subst u2
   clear u0 u1;go_wp2_with fail;refine(VU H.dr ω).mono ?_;rintro e w8 ⟨_,rfl,⟨q,rfl⟩,h8,g8⟩;have S6:=H.draw h8 g8;clear H h8 g8;obtain⟨c0,c1,c2,c3⟩:=AH S6.yU;have fz:=AK S6.yU;go_wp2_with fail;go_meet;exact⟨⟨x,y,q,hs==0⟩,(S6.set 2 _ χ).mono ω⟩
  have t2:(u==2)=false:=by simp[u2]
  clear u0 u1 u2;go_wp2_with fail;go_meet;exact⟨⟨x,y,f,hs==0⟩,H.mono ω⟩
 case rest=>
  clear H;obtain⟨R,S6⟩:=hcut;obtain⟨c0,c1,c2,c3⟩:=AH S6.yU;have fz:=AK S6.yU;obtain⟨rs,kF,ig⟩:=S6.res;have lY:=AK ig;obtain⟨BX,FX⟩:=fW (v0:=.int .i64 R.e) (v1:=.int .i64 R.p) (v2:=.int .i64 R.f) (v3:=.bool R.w) S6.dr S6.gr S6.glt S6.lo kF ig (yF _) (P:=λv=>∃x:Ag,v=.agg #[x.e,x.p,x.f,x.w]) ⟨R,rfl⟩;obtain⟨r0,r1,r2,r3,rfl⟩:∃r0 r1 r2 r3,rs= #[r0,r1,r2,r3]:=by
   match rs,kF with
   |⟨[a0,a1,a2,a3]⟩,_=>exact⟨a0,a1,a2,a3,rfl⟩
  obtain⟨d0,d1,d2,d3⟩:=AH ig;have BH:=AA BX;have FH:=AA FX;clear BX FX ig S6;go_wp2_with fail;exact yB (v:=.agg #[_,_,_,_]) (by simp[results,Tryz.results175,go_sem,AH BH.u]) rfl FH.u
def OG(v:Φ):Prop:=∃x:AW,x.g.size<=8/\v=.agg #[x.k,x.g,x.r]
theorem Wm (h:Dr J g N w)(hN:N<=800000):
 Ξ prog 116 #[.pointer g] w (Gj J g (N+10) w OG):=by
 have ao:=h.lt;have fl:J.heap.size<=w.heap.size:=h.2.1.size;go_in;go_wp2_with fail;refine((h.alloc _).pick _).mono ?_;rintro e w1 ⟨x,rfl,_,_,V,g1⟩
 by_cases x0:x=0
 .subst x0
  have B0:=yy w (.cells #[θ,ϑ,θ] 115);have B1:=(g1.block w.heap.size χ η).trans B0;have lY:=AK B1;obtain⟨d0,d1,d2⟩:=MH B1;obtain⟨BX,FX⟩:=eM (v0:=.int .i64 0) (v1:=.string ⟨#[]⟩) (v2:=.int .i64 0) V (AO (AX (AG _ _) _) g1) ao fl rfl B1 (M:=N+10) ω (P:=OG) ⟨⟨0,⟨#[]⟩,0⟩,ψ,rfl⟩;have BH:=AA BX;have FH:=AA FX;clear BX FX B0 B1 V g1 h;go_wp2_with fail;exact yB (v:=.agg #[_,_,_]) (by simp[results,rS,go_sem,MH BH.u]) rfl FH.u
 have t9:(x==0)=false:=by simp[x0]
 clear x0;go_wp2_with fail;refine(V.pick _).mono ?_;rintro e w2 ⟨x,rfl,_,_,L,g2⟩;go_wp2_with fail;refine(Pn w2.heap.size 5 [⟨#[97]⟩,⟨#[97]⟩,⟨#[98]⟩,⟨#[97,98]⟩,⟨#[]⟩] (L.alloc _) ω rfl ψ ψ (by have:=L.lt;omega) χ (λk hk=>K9 w2 [⟨#[97]⟩,⟨#[97]⟩,⟨#[98]⟩,⟨#[97,98]⟩,⟨#[]⟩] _ hk)).mono ?_;rintro e w3 ⟨v,rfl,⟨s,z,rfl⟩,h3,g3⟩;have kN:s.size<=8:=by
  simp only[xH,wM,or_false] at z
  rcases z with rfl|rfl|rfl|rfl|rfl<;>decide
 clear z;go_wp2_with fail;refine(h3.pick _).mono ?_;rintro e w4 ⟨y,rfl,y0,y1,h4,g4⟩;replace y1:=y1 ψ;go_wp2_with fail;refine(h4.pick _).mono ?_;rintro e w5 ⟨f,rfl,f0,f1,h5,g5⟩;replace f1:=f1 ψ;have H:=V5.start (T:=115) (n:=3) (cs:= #[.int .i64 (1+x),.string s,.int .i64 (wrap64 (y*f))]) h5 (AO (AO (AO g1 g2) (AO (AX (AG _ _) _) g3)) (AO g4 g5)) rfl ao fl;clear h V L h3 h4 h5 g1 g2 g3 g4 g5;go_wp2_with fail;generalize w5.alloc _=w7 at H ⊢;generalize w5.heap.size=b at H ⊢;generalize wrap64 (y*f)=r at H ⊢;generalize 1+x=k at H ⊢;refine(H.pk _).mono ?_;rintro e w8 ⟨u,rfl,_,_,S8⟩;clear H;have H:=S8;clear S8;have rl:=H.lt;go_upto_block 0 with fail;go_cut [] (λwx=>∃x:AW,x.g.size<=8/\V5 J g (N+10) w 115 3 b #[.int .i64 x.k,.string x.g,.int .i64 x.r] wx)
 case first=>
  by_cases u0:u=0
  .subst u0
   go_wp2_with fail;have gp:=H.dr.lt;have SA:=H.draw (H.dr.alloc (.cells #[.int .i64 (-1),θ,.int .i64 4] 3)) (AX (AG _ _) _);refine(SA.dr.pick _).mono ?_;rintro e w6 ⟨k9,rfl,k0,k1,h6,g6⟩;replace k1:=k1 ψ;obtain⟨k9,rfl⟩:=yg k0;obtain⟨q,hq⟩:=Og [-1,0,4] 3 g6 gp (y:=k9) η;have S6:=SA.draw h6 g6;clear H SA g6 h6 gp;obtain⟨c0,c1,c2⟩:=MH S6.yU;have fz:=AK S6.yU;go_wp2_with fail;go_meet;exact⟨⟨q,s,r⟩,kN,(S6.set 0 _ χ).mono ω⟩
  have t0:(u==0)=false:=by simp[u0]
  by_cases u1:u=1
  .subst u1
   clear u0;go_wp2_with fail;refine(J1 H.dr ω).mono ?_;rintro e w9 ⟨_,rfl,⟨q,na,rfl⟩,h8,g8⟩;have S6:=H.draw h8 g8;clear H h8 g8;obtain⟨c0,c1,c2⟩:=MH S6.yU;have fz:=AK S6.yU;go_wp2_with fail;go_meet;exact⟨⟨k,q,r⟩,na,(S6.set 1 _ χ).mono ω⟩
  have t1:(u==1)=false:=by simp[u1]
  by_cases u2:u=2
  .subst u2
   clear u0 u1;go_wp2_with fail;have gp:=H.dr.lt;have SA:=H.draw (H.dr.alloc (.cells #[.int .i64 (-1),.int .i64 50,.int .i64 51] 3)) (AX (AG _ _) _);refine(SA.dr.pick _).mono ?_;rintro e w6 ⟨k9,rfl,k0,k1,h6,g6⟩;replace k1:=k1 ψ;obtain⟨k9,rfl⟩:=yg k0;obtain⟨q,hq⟩:=Og [-1,50,51] 3 g6 gp (y:=k9) η;have S6:=SA.draw h6 g6;clear H SA g6 h6 gp;obtain⟨c0,c1,c2⟩:=MH S6.yU;have fz:=AK S6.yU;go_wp2_with fail;go_meet;exact⟨⟨k,s,q⟩,kN,(S6.set 2 _ χ).mono ω⟩
  have t2:(u==2)=false:=by simp[u2]
  clear u0 u1 u2;go_wp2_with fail;go_meet;exact⟨⟨k,s,r⟩,kN,H.mono ω⟩
 case rest=>
  clear H;obtain⟨R,qF,S6⟩:=hcut;obtain⟨c0,c1,c2⟩:=MH S6.yU;have fz:=AK S6.yU;obtain⟨rs,kF,ig⟩:=S6.res;have lY:=AK ig;obtain⟨BX,FX⟩:=eM (v0:=.int .i64 R.k) (v1:=.string R.g) (v2:=.int .i64 R.r) S6.dr S6.gr S6.glt S6.lo kF ig (yF _) (P:=OG) ⟨R,qF,rfl⟩;obtain⟨r0,r1,r2,rfl⟩:∃r0 r1 r2,rs= #[r0,r1,r2]:=by
   match rs,kF with
   |⟨[a0,a1,a2]⟩,_=>exact⟨a0,a1,a2,rfl⟩
  obtain⟨d0,d1,d2⟩:=MH ig;have BH:=AA BX;have FH:=AA FX;clear BX FX ig S6;go_wp2_with fail;exact yB (v:=.agg #[_,_,_]) (by simp[results,rS,go_sem,MH BH.u]) rfl FH.u
theorem JE{q:Nat}(h:w.grownBy w1 (some g))(L:w1.grownBy w2 (some q))(hq:w.heap.size<=q):w.grownBy w2 (some g):=
 ⟨L.os.trans h.os,L.tape.trans h.tape,L.output.trans h.output,yM h.size L.size,λk hk gT=>(L.block k (yt hk h.size) (λe=>by cases e;omega)).trans (h.block k hk gT)⟩
structure Ni(ok:AQ->Prop)(w0:Ω)(g N:Nat)(w:Ω)(b:Nat)(m i e c:Φ)(k:AQ)(wr:Ω):Prop where
 dr:Dr w0 g N wr
 gr:w.grownBy wr (some g)
 yS:Iv (w.heap.size+1) wr b m i e c k
 good:ok k
 glt:g<w.heap.size
 lo:w0.heap.size<=w.heap.size
 lt:w.heap.size<b
 res:∃a0 a1 a2 a3,wr.heap[w.heap.size]?=some (.cells #[a0,a1,a2,a3] 28 (0,0))
section
variable {ok:AQ->Prop} {J w wr E:Ω} {g N M b:Nat} {m i e c m' i' e' c':Φ} {k k':AQ}
theorem Ni.draw(h:Ni ok J g N w b m i e c k wr)(hd:Dr J g M E)(hg:wr.grownBy E (some g)):Ni ok J g M w b m i e c k E:=by
 have ej:=h.glt;have hp:∀b',some g=some b'->b'<w.heap.size+1:=λb' e=>by cases e;omega
 have nb:∀b',some g=some b'->b'<w.heap.size:=λb' e=>by cases e;exact ej
 obtain⟨a0,a1,a2,a3,V⟩:=h.res;exact⟨hd,AO h.gr hg,⟨FL h.yS.1 h.yS.2.1 hg hp,h.yS.2.1,h.yS.2.2.past hg hp⟩,h.good,ej,h.lo,h.lt,a0,a1,a2,a3,FL V (yF _) hg nb⟩
theorem Ni.below(h:Ni ok J g N w b m i e c k wr)(K:Γ wr wr E):Ni ok J g N w b m i e c k E:=h.draw (h.dr.below K) (AX K _)
theorem Ni.pk(h:Ni ok J g N w b m i e c k wr)(n:Int)(hN:N<=900000:=by omega)(h0:0<n:=by decide)(hn:n<=1000000:=by decide):Ξ prog 23 #[.pointer g,.int .i64 n] wr λe' E=>∃x:Int,e'=.returned (.int .i64 x)/\0<=x/\x<n/\Ni ok J g (N+1) w b m i e c k E:=
 (h.dr.pick n ω hn).mono λ_ _ hp=>by obtain⟨x,rfl,V,L,h3,h4⟩:=hp;exact⟨x,rfl,V,L h0,h.draw h3 h4⟩
theorem fA{b0 b1 b2 b3:Φ}(hd:Dr J g N wr)(hg:w.grownBy wr (some g))(hB:wr.heap[b]?=some (.cells #[b0,b1,b2,b3] 28 (0,0)))(HK:Dy (w.heap.size+1) wr m' i' e' c' k')(hk:ok k')(h3:g<w.heap.size)(L:J.heap.size<=w.heap.size)(V:w.heap.size<b)(fm:∃a0 a1 a2 a3,wr.heap[w.heap.size]?=some (.cells #[a0,a1,a2,a3] 28 (0,0))):Ni ok J g N w b m' i' e' c' k' ((((wr.setCell b m').setCell (b,1) i').setCell (b,2) e').setCell (b,3) c'):=by
 have bf:=Aq wr b m' i' e' c';obtain⟨a0,a1,a2,a3,h4⟩:=fm;have n1:b≠g:=ω;have n2:J.heap.size<=b:=ω;have n3:w.heap.size<=b:=ω;exact⟨(((hd.set n1 n2).set n1 n2).set n1 n2).set n1 n2,Cw (Cw (Cw (Cw hg n3 _) n3 _) n3 _) n3 _,⟨DP hB,V,HK.yV bf hB⟩,hk,h3,L,V,a0,a1,a2,a3,(bf.block _ (AY h4) η).trans h4⟩
end
def fu(ok:AQ->Prop)(J:Ω)(g N:Nat)(w:Ω):Ending->Ω->Prop:=Ig J g N w λv E=>∃m i e c k,v=.agg #[m,i,e,c]/\Qg w E m i e c k/\ok k
def Jw(ok:AQ->Prop)(J:Ω)(g N:Nat)(w:Ω)(b:Nat)(wr:Ω):Prop:=∃m i e c k,Dr J g N wr/\w.grownBy wr (some g)/\wr.heap[b]?=some (.cells #[m,i,e,c] 28 (0,0))/\Qg w wr m i e c k/\ok k/\∃a0 a1 a2 a3,wr.heap[w.heap.size]?=some (.cells #[a0,a1,a2,a3] 28 (0,0))
theorem Ni.ke{ok ok':AQ->Prop}{q:Nat}(h:Ni ok J g N w b m i e c k wr)(bf:wr.grownBy w1 (some q))(hq:w.heap.size<q)(hB:w1.heap[b]?=some (.cells #[m',i',e',c'] 28 (0,0)))(HK:Qg (w.heap.size+1) w1 m' i' e' c' k')(hk:ok' k')(hM:N<=M):Jw ok' J g M w b w1:=by
 obtain⟨a0,a1,a2,a3,h4⟩:=h.res;have V:=h.glt;have L:=h.lo;exact⟨m',i',e',c',k',(h.dr.keep bf η (λk hk=>by cases hk;omega)).mono hM,JE h.gr bf ω,hB,HK.map (λ_ _ _ _ _ _ _ h=>BS h (we _)),hk,a0,a1,a2,a3,(bf.block _ (AY h4) η).trans h4⟩
def fx(ok:AQ->Prop)(J:Ω)(g N:Nat)(w:Ω)(m i e c:Φ)(W:Ω):Prop:=W.heap[w.heap.size]?=some (.cells #[m,i,e,c] 28 (0,0))/\fu ok J g N w (.returned (.agg #[m,i,e,c])) W
theorem fB{ok:AQ->Prop}(hd:Dr J g N wr)(hg:w.grownBy wr (some g))(S:Qg w wr m i e c k)(hk:ok k)(ej:g<w.heap.size)(av:J.heap.size<=w.heap.size)(hB:wr.heap[w.heap.size]?=some (.cells #[a0,a1,a2,a3] 28 (0,0)))(hM:N<=M):
 fx ok J g M w m i e c ((((wr.setCell w m).setCell (w,1) i).setCell (w,2) e).setCell (w,3) c):=by
 have bf:=Aq wr w m i e c;have n1:w.heap.size≠g:=ω;have n3:=yF w.heap.size;exact⟨DP hB,_,rfl,⟨_,_,_,_,k,rfl,S.map (Lo bf hB (.inl rfl) (yF _)),hk⟩,((((hd.set n1 av).set n1 av).set n1 av).set n1 av).mono hM,Cw (Cw (Cw (Cw hg n3 _) n3 _) n3 _) n3 _⟩
structure JA(ok:AR->Prop)(w0:Ω)(g N:Nat)(w:Ω)(b:Nat)(m i e c s l q:Φ)(P:AR)(wr:Ω):Prop where
 dr:Dr w0 g N wr
 gr:w.grownBy wr (some g)
 yQ:Hj (w.heap.size+1) b wr m i e c s l q P
 good:ok P
 glt:g<w.heap.size
 lo:w0.heap.size<=w.heap.size
 lt:w.heap.size<b
 res:∃a0 a1 a2 a3 a4 a5 a6 a7 a8,wr.heap[w.heap.size]?=some (.cells #[a0,a1,a2,a3,a4,a5,a6,a7,a8] 32 (0,0))
section
variable {ok:AR->Prop} {J w wr E:Ω} {g N M b:Nat} {m i e c s l q m' i' e' c' s' l' q':Φ} {P P':AR}
theorem EI.past'{lo:Nat}{row:Option Nat}(h:EI lo w m i e c s l q P)(hg:w.grownBy E row)(hr:∀b,row=some b->b<lo):EI lo E m i e c s l q P:=by
 obtain⟨V,⟨vs,L,h3,h4⟩,h5,h6,h7⟩:=h;exact⟨V.past hg hr,⟨vs,Bc L hg hr,h3.mono λ_ _ x=>Bc x hg hr,h4⟩,Bc h5 hg hr,Bc h6 hg hr,h7⟩
theorem JA.draw(h:JA ok J g N w b m i e c s l q P wr)(hd:Dr J g M E)(hg:wr.grownBy E (some g)):JA ok J g M w b m i e c s l q P E:=by
 have ej:=h.glt;have hp:∀b',some g=some b'->b'<w.heap.size+1:=λb' e=>by cases e;omega
 have nb:∀b',some g=some b'->b'<w.heap.size:=λb' e=>by cases e;exact ej
 obtain⟨a0,a1,a2,a3,a4,a5,a6,a7,a8,V⟩:=h.res;exact⟨hd,AO h.gr hg,⟨FL h.yQ.yU h.yQ.yT hg hp,h.yQ.yT,h.yQ.own.past' hg hp⟩,h.good,ej,h.lo,h.lt,a0,a1,a2,a3,a4,a5,a6,a7,a8,FL V (yF _) hg nb⟩
theorem JA.below(h:JA ok J g N w b m i e c s l q P wr)(K:Γ wr wr E):JA ok J g N w b m i e c s l q P E:=h.draw (h.dr.below K) (AX K _)
theorem JA.pk(h:JA ok J g N w b m i e c s l q P wr)(n:Int)(hN:N<=900000:=by omega)(h0:0<n:=by decide)(hn:n<=1000000:=by decide):Ξ prog 23 #[.pointer g,.int .i64 n] wr λe' E=>∃x:Int,e'=.returned (.int .i64 x)/\0<=x/\x<n/\JA ok J g (N+1) w b m i e c s l q P E:=
 (h.dr.pick n ω hn).mono λ_ _ hp=>by obtain⟨x,rfl,V,L,h3,h4⟩:=hp;exact⟨x,rfl,V,L h0,h.draw h3 h4⟩
theorem fF{b0 b1 b2 b3 b4 b5 b6 b7 b8:Φ}(hd:Dr J g N wr)(hg:w.grownBy wr (some g))(hB:wr.heap[b]?=some (.cells #[b0,b1,b2,b3,b4,b5,b6,b7,b8] 32 (0,0)))(HK:EI (w.heap.size+1) wr m' i' e' c' s' l' q' P')(hk:ok P')(h3:g<w.heap.size)(L:J.heap.size<=w.heap.size)(V:w.heap.size<b)(fm:∃a0 a1 a2 a3 a4 a5 a6 a7 a8,wr.heap[w.heap.size]?=some (.cells #[a0,a1,a2,a3,a4,a5,a6,a7,a8] 32 (0,0))):JA ok J g N w b m' i' e' c' s' l' q' P' (((De wr b m' i' e' c' s' l' q').setCell (b,7) (.int .i64 P'.FV)).setCell (b,8) (.int .i64 P'.U4)):=by
 obtain⟨n6,o6,cy⟩:=Bg hB HK;obtain⟨a0,a1,a2,a3,a4,a5,a6,a7,a8,h4⟩:=fm;exact⟨hd.keep cy η (λk hk=>by cases hk;omega),JE hg cy ω,⟨n6,V,o6⟩,hk,h3,L,V,a0,a1,a2,a3,a4,a5,a6,a7,a8,(cy.block _ (AY h4) η).trans h4⟩
end
def fw(ok:AR->Prop)(J:Ω)(g N:Nat)(w:Ω):Ending->Ω->Prop:=Ig J g N w λv E=>∃m i e c s l q P,v=AN m i e c s l q P.FV P.U4/\Qh w E m i e c s l q P/\ok P
def V7(ok:AR->Prop)(J:Ω)(g N:Nat)(w:Ω)(b:Nat)(wr:Ω):Prop:=∃m i e c s l q P,Dr J g N wr/\w.grownBy wr (some g)/\wr.heap[b]?=some (.cells #[m,i,e,c,s,l,q,.int .i64 P.FV,.int .i64 P.U4] 32 (0,0))/\Qh w wr m i e c s l q P/\ok P/\∃a0 a1 a2 a3 a4 a5 a6 a7 a8,wr.heap[w.heap.size]?=some (.cells #[a0,a1,a2,a3,a4,a5,a6,a7,a8] 32 (0,0))
theorem JA.pe{ok ok':AR->Prop}{q:Nat}{p p':Φ}{P':AR}(h:JA ok J g N w b m i e c s l p P wr)(bf:wr.grownBy w1 (some q))(hq:w.heap.size<q)(hB:w1.heap[b]?=some (.cells #[m',i',e',c',s',l',p',P'.FV,P'.U4] 32 (0,0)))(HK:Qh (w.heap.size+1) w1 m' i' e' c' s' l' p' P')(hk:ok' P')(hM:N<=M):V7 ok' J g M w b w1:=by
 obtain⟨a0,a1,a2,a3,a4,a5,a6,a7,a8,h4⟩:=h.res;have V:=h.glt;have L:=h.lo;exact⟨m',i',e',c',s',l',p',P',(h.dr.keep bf η (λk hk=>by cases hk;omega)).mono hM,JE h.gr bf ω,hB,HK.map (λ_ _ _ _ _ _ _ h=>BS h (we _)),hk,a0,a1,a2,a3,a4,a5,a6,a7,a8,(bf.block _ (AY h4) η).trans h4⟩
def f9(ok:AR->Prop)(J:Ω)(g N:Nat)(w:Ω)(m i e c s l q:Φ)(P:AR)(W:Ω):Prop:=W.heap[w.heap.size]?=some (.cells #[m,i,e,c,s,l,q,P.FV,P.U4] 32 (0,0))/\fw ok J g N w (.returned (AN m i e c s l q P.FV P.U4)) W
theorem fG{ok:AR->Prop}(hd:Dr J g N wr)(hg:w.grownBy wr (some g))(S:Qh w wr m i e c s l q P)(hk:ok P)(ej:g<w.heap.size)(av:J.heap.size<=w.heap.size)(hB:wr.heap[w.heap.size]?=some (.cells #[a0,a1,a2,a3,a4,a5,a6,a7,a8] 32 (0,0)))(hM:N<=M):
 f9 ok J g M w m i e c s l q P (((De wr w m i e c s l q).setCell (w,7) (.int .i64 P.FV)).setCell (w,8) (.int .i64 P.U4)):=by
 have bf:=Fz (w:=wr) (g:=w.heap.size) (b0:=m) (b1:=i) (b2:=e) (b3:=c) (b4:=s) (b5:=l) (b6:=q) (b7:=.int .i64 P.FV) (b8:=.int .i64 P.U4);exact⟨H6 hB,_,rfl,⟨_,_,_,_,_,_,_,P,rfl,S.map (Lo bf hB (.inr rfl) (yF _)),hk⟩,(hd.keep bf η (λk hk=>by cases hk;exact av)).mono hM,JE hg bf (yF _)⟩
structure L0(w0:Ω)(g N:Nat)(w W1:Ω)(b:Nat)(m i e c s l q:Φ)(P:AR)(wr:Ω):Prop where
 dr:Dr w0 g N wr
 gr:w.grownBy wr (some g)
 yU:wr.heap[b]?=some (.cells #[m,i,e,c,s,l,q,P.FV,P.U4] 32 (0,0))
 sf:Qh (w.heap.size+1) wr m i e c s l q P
 good:Dz P
 glt:g<w.heap.size
 lo:w0.heap.size<=w.heap.size
 lt:w.heap.size<b
 sz:W1.heap.size<=wr.heap.size
 kp:∀k,k<W1.heap.size->k≠g->k≠b->wr.heap[k]?=W1.heap[k]?
section
variable {J w W1 wr E:Ω} {g N M b:Nat} {m i e c s l q m' i' e' c' s' l' q':Φ} {P P':AR}
theorem L0.draw(h:L0 J g N w W1 b m i e c s l q P wr)(hd:Dr J g M E)(hg:wr.grownBy E (some g)):L0 J g M w W1 b m i e c s l q P E:=by
 have V:=h.glt;have L:=h.lt;have h3:=h.sz;exact⟨hd,AO h.gr hg,(hg.block b (AY h.yU) η).trans h.yU,h.sf.map (IF hg ω (yF _)),h.good,V,h.lo,L,yM h3 hg.size,λk hk nn np=>(hg.block k ω η).trans (h.kp k hk nn np)⟩
theorem L0.below(h:L0 J g N w W1 b m i e c s l q P wr)(K:Γ wr wr E):L0 J g N w W1 b m i e c s l q P E:=h.draw (h.dr.below K) (AX K _)
theorem L0.mono(h:L0 J g N w W1 b m i e c s l q P wr)(hm:N<=M):L0 J g M w W1 b m i e c s l q P wr:=⟨h.dr.mono hm,h.gr,h.yU,h.sf,h.good,h.glt,h.lo,h.lt,h.sz,h.kp⟩
theorem L0.pk(h:L0 J g N w W1 b m i e c s l q P wr)(n:Int)(hN:N<=900000:=by omega)(h0:0<n:=by decide)(hn:n<=1000000:=by decide):Ξ prog 23 #[.pointer g,.int .i64 n] wr λe' E=>∃x:Int,e'=.returned (.int .i64 x)/\0<=x/\x<n/\L0 J g (N+1) w W1 b m i e c s l q P E:=
 (h.dr.pick n ω hn).mono λ_ _ hp=>by obtain⟨x,rfl,V,L,h3,h4⟩:=hp;exact⟨x,rfl,V,L h0,h.draw h3 h4⟩
theorem L0.put(h:L0 J g N w W1 b m i e c s l q P wr)(HK:Qh (w.heap.size+1) wr m' i' e' c' s' l' q' P')(hk:Dz P'):
 L0 J g N w W1 b m' i' e' c' s' l' q' P' (((De wr b m' i' e' c' s' l' q').setCell (b,7) (.int .i64 P'.FV)).setCell (b,8) (.int .i64 P'.U4)):=by
 have V:=h.glt;have L:=h.lt;have h3:=h.sz;have h4:=h.lo;have cy:=Fz (w:=wr) (g:=b) (b0:=m') (b1:=i') (b2:=e') (b3:=c') (b4:=s') (b5:=l') (b6:=q') (b7:=.int .i64 P'.FV) (b8:=.int .i64 P'.U4);exact⟨h.dr.keep cy η (λk hk=>by cases hk;omega),JE h.gr cy ω,H6 h.yU,HK.map (Lo cy h.yU (.inr rfl) (yF _)),hk,V,h4,L,yM h3 cy.size,λk hk nn np=>(cy.block k ω η).trans (h.kp k hk nn np)⟩
end
def Pf(J:Ω)(g N:Nat)(w W1:Ω)(b:Nat)(wr:Ω):Prop:=∃m i e c s l q P,L0 J g N w W1 b m i e c s l q P wr
theorem Pf.below (h:Pf J g N w W1 b wr)(K:Γ wr wr E):Pf J g N w W1 b E:=by obtain⟨m,i,e,c,s,l,q,P,h⟩:=h;exact⟨m,i,e,c,s,l,q,P,h.below K⟩
def Pz(lo:Nat)(w:Ω)(v:Φ):Prop:=∃m i e c s l q P,v=AN m i e c s l q P.FV P.U4/\Qh lo w m i e c s l q P/\Dz P
theorem Pz.past (h:Pz lo w v)(hg:g<lo)(K:w.grownBy E (some g)):Pz lo E v:=by obtain⟨m,i,e,c,s,l,q,P,V,L,h3⟩:=h;exact⟨m,i,e,c,s,l,q,P,V,L.map (IF K hg (yF _)),h3⟩
theorem Qh.pgR{lo':Nat}(h:Qh lo w m i e c s l q P)(hk:Dz P)(hl:lo'<=lo):Pz lo' w (AN m i e c s l q P.FV P.U4):=⟨m,i,e,c,s,l,q,P,rfl,h.map (λ_ _ _ _ _ _ _ x=>BS x hl),hk⟩
theorem Jw.put{ok:AQ->Prop}{b0 b1 b2 b3:Φ}(hd:Dr J g N wr)(hg:w.grownBy wr (some g))(hB:wr.heap[b]?=some (.cells #[b0,b1,b2,b3] 28 (0,0)))(HK:Qg w wr m' i' e' c' k')(hk:ok k')(ao:g<w.heap.size)(av:J.heap.size<=w.heap.size)(K:w.heap.size<b)(fm:wr.heap[w.heap.size]?=some (.cells #[a0,a1,a2,a3] 28 (0,0))):
 Jw ok J g N w b ((((wr.setCell b m').setCell (b,1) i').setCell (b,2) e').setCell (b,3) c'):=by
 have bf:=Aq wr b m' i' e' c';exact⟨m',i',e',c',k',hd.keep bf η (λk hk=>by cases hk;omega),JE hg bf ω,DP hB,HK.map (Lo bf hB (.inl rfl) (yF _)),hk,a0,a1,a2,a3,(bf.block _ (AY fm) η).trans fm⟩
theorem Jw.draw{ok:AQ->Prop}(h:Jw ok J g N w b wr)(ao:g<w.heap.size)(K:w.heap.size<b)(hd:Dr J g M E)(hg:wr.grownBy E (some g)):Jw ok J g M w b E:=by
 obtain⟨m,i,e,c,k,V,L,h3,h4,h5,a0,a1,a2,a3,h6⟩:=h;exact⟨m,i,e,c,k,hd,AO L hg,(hg.block _ (AY h3) η).trans h3,h4.map (λ_ _ _ _ _ _ _ x=>Bc x hg (λb' e=>by cases e;exact ao)),h5,a0,a1,a2,a3,(hg.block _ (AY h6) η).trans h6⟩
theorem Jw.below{ok:AQ->Prop}(h:Jw ok J g N w b wr)(ao:g<w.heap.size)(K:w.heap.size<b)(oV:Γ wr wr E):Jw ok J g N w b E:=by obtain⟨m,i,e,c,k,V,L⟩:=h;exact Jw.draw ⟨m,i,e,c,k,V,L⟩ ao K (V.below oV) (AX oV _)
theorem Jw.mono{ok:AQ->Prop}(h:Jw ok J g N w b wr)(hm:N<=M):Jw ok J g M w b wr:=by obtain⟨m,i,e,c,k,V,L⟩:=h;exact⟨m,i,e,c,k,V.mono hm,L⟩
theorem Jw.pk{ok:AQ->Prop}(h:Jw ok J g N w b wr)(ao:g<w.heap.size)(K:w.heap.size<b)(n:Int)(hN:N<=900000:=by omega)(h0:0<n:=by decide)(hn:n<=1000000:=by decide):Ξ prog 23 #[.pointer g,.int .i64 n] wr λe' E=>∃x:Int,e'=.returned (.int .i64 x)/\0<=x/\x<n/\Jw ok J g (N+1) w b E:=by
 obtain⟨m,i,e,c,k,V,L⟩:=h;refine(V.pick n ω hn).mono λ_ _ hp=>?_
 obtain⟨x,rfl,h3,h4,h5,h6⟩:=hp;exact⟨x,rfl,h3,h4 h0,Jw.draw ⟨m,i,e,c,k,V,L⟩ ao K h5 h6⟩
def ag(lo:Nat)(w:Ω)(v:Φ):Prop:=∃m i e c k,v=.agg #[m,i,e,c]/\Qg lo w m i e c k/\Dg k
theorem ag.past (h:ag lo w v)(hg:g<lo)(K:w.grownBy E (some g)):ag lo E v:=by obtain⟨m,i,e,c,k,V,L,h3⟩:=h;exact⟨m,i,e,c,k,V,L.map (IF K hg (yF _)),h3⟩
theorem Pf.mono (h:Pf J g N w W1 b wr)(hm:N<=M):Pf J g M w W1 b wr:=by obtain⟨m,i,e,c,s,l,q,P,h⟩:=h;exact⟨m,i,e,c,s,l,q,P,h.mono hm⟩
theorem VV (h:Dr J g N w)(hN:N<=100000):
 Ξ prog 56 #[.pointer g] w (fw Dz J g (N+900) w):=by
 have ao:=h.lt;have fl:J.heap.size<=w.heap.size:=h.2.1.size;obtain⟨B0,bA⟩:=Ec w (.cells #[ι,ι,ι,ι,ι,ι,ι,θ,θ] 32);have gA:=AX bA (some g);have hA:=h.below bA;have mW:=AY B0;go_in;go_wp2_with fail;generalize w.alloc _=wa at*;refine(hA.pick _).mono ?_;rintro e w2 ⟨y,rfl,y0,y1,L,g2⟩;replace y1:=y1 ψ;have R2:=(g2.block w mW η).trans B0;have G2:=AO gA g2;have jt:w.heap.size+1<=w2.heap.size:=yM mW g2.size;clear hA gA B0 bA g2 h mW;go_wp2_with fail;refine(Ot (1+y) w2 ω ω).mono ?_;rintro e w6 ⟨m1,i1,e1,c1,s1,l1,q1,rfl,O6,b6⟩;obtain⟨⟨⟨ma,mn,mc,rfl⟩,⟨ia,iN,ic,rfl⟩,⟨ea,en,ec,rfl⟩,⟨ca,cn,cc,rfl⟩⟩,⟨sa,sn,sc,rfl⟩,⟨la,ln,lc,rfl⟩,⟨qa,qn,qc,rfl⟩⟩:=O6.Dq;have iM:Dz (Wu (1+y)):=Yz ω ω;clear y0 y1;generalize Wu (1+y)=P1 at*;unfold AN;have bB:=AG w6 (.cells #[.slice ma mn mc,.slice ia iN ic,.slice ea en ec,.slice ca cn cc,.slice sa sn sc,.slice la ln lc,.slice qa qn qc,P1.FV,P1.U4] 32);have jk:=b6.trans (bB.mono b6.size);have H:L0 J g (N+1) w (w6.alloc (.cells #[.slice ma mn mc,.slice ia iN ic,.slice ea en ec,.slice ca cn cc,.slice sa sn sc,.slice la ln lc,.slice qa qn qc,P1.FV,P1.U4] 32)) w6.heap.size _ _ _ _ _ _ _ P1 (w6.alloc (.cells #[.slice ma mn mc,.slice ia iN ic,.slice ea en ec,.slice ca cn cc,.slice sa sn sc,.slice la ln lc,.slice qa qn qc,P1.FV,P1.U4] 32)):=⟨L.below jk,AO G2 (AX jk _),yy _ _,O6.map (LG bB jt),iM,ao,fl,by have:=b6.size;omega,yF _,λ_ _ _ _=>rfl⟩;have R6:=AB R2 jk;clear O6 b6 bB jk L G2 R2 iM jt;go_wp2_with fail;generalize w6.alloc _=W1 at*;generalize w6.heap.size=b at*;refine(H.pk 24).mono ?_;rintro e w7 ⟨n,rfl,n0,n1,S7⟩;clear H;obtain⟨n,rfl⟩:=yg n0;have nh:n<24:=ω;clear n0 n1;go_wp2_with fail;refine(S7.pk 5).mono ?_;rintro e w8 ⟨hs,rfl,z0,z1,S8⟩;clear S7;go_wp2_with fail;generalize(hs==0)=gr;go_loopw [7] (λi wr=>∃j:Nat,j<=n/\i=.int .i64 j/\Pf J g (N+3+33*j) w W1 b wr) (λi _=>n - (intOf i).toNat)
 exact⟨0,yu _,rfl,_,_,_,_,_,_,_,P1,S8⟩
 clear S8 z0 z1;obtain⟨j,hj,rfl,m1,i1,e1,c1,s1,l1,q1,Q,H⟩:=hrel;obtain⟨⟨⟨ma,mn,mc,rfl⟩,⟨ia,iN,ic,rfl⟩,⟨ea,en,ec,rfl⟩,⟨ca,cn,cc,rfl⟩⟩,⟨sa,sn,sc,rfl⟩,⟨la,ln,lc,rfl⟩,⟨qa,qn,qc,rfl⟩⟩:=H.sf.Dq
 by_cases jw:j<n
 .go_wp2_with fail
  refine(H.pk 4).mono ?_;rintro e wr ⟨x,rfl,x0,R,S4⟩;clear H;obtain⟨N1,hN1⟩:∃M,M=N+3+33*j+1:=⟨_,rfl⟩
  rw[<-hN1] at S4;have ni:=S4.lt;obtain⟨c0,c1,c2,c3,c4,c5,c6,c7,c8⟩:=AC S4.yU;have bn:=AY S4.yU
  rcases(ω:(x=0∨x=1)∨x=2∨x=3) with hx|rfl|rfl
  .rcases hx with rfl|rfl<;>go_wp2_with fail
   all_goals
    refine J4 (s:=10) (U:=λix vv=>match ix with
     |2=>Pk 64 vv
     |4=>Pk 999 vv
     |5=>∃x:Int,vv=.int .i64 x/\1<=x/\x<=999
     |6|7=>∃v,∃x:Bool,vv=.tuple #[v,x]
     |_=>True) 11 66 1 2 [2,4] [.a #[.slice ma mn mc,.slice ia iN ic,.slice ea en ec,.slice ca cn cc,.slice sa sn sc,.slice la ln lc,.slice qa qn qc,.int .i64 Q.FV,.int .i64 Q.U4],.p g 0,.z,.p g 0,.z,.z,.z,.z,.z,.z,.u] (λix vv ww=>match ix with
     |6|7=>∃v,(∃x:Bool,vv=.tuple #[v,x])/\Pz (w.heap.size+1) ww v
     |8=>Pz (w.heap.size+1) ww vv
     |9=>True
     |_=>True) (λww=>Pf J g (N1+2) w W1 b ww) S4.dr ?_ ?_ ?_ ?_ ?_ (hst:=?_)
    .intro i hi hS o X a wx D ll A Z hr hb O
     match i,hi,hS with
     |0,_,_=>have hW:=hr φ;have cz:=gc hW bn ω c0;have bu:=gc hW bn ω c1;have cg:=gc hW bn ω c2;have cx:=gc hW bn ω c3;have ay:=gc hW bn ω c4;have ef:=gc hW bn ω c5;have jr:=gc hW bn ω c6;have j2:=gc hW bn ω c7;have kx:=gc hW bn ω c8;exact Kf X O D A Z (hl:=Pj ‹_› ‹_› ‹_› ‹_› ‹_› ‹_› ‹_› ‹_› ‹_›)
     |1,_,_|3,_,_=>exact Tj X O D A Z
     |2,_,z|4,_,z|10,_,z=>cases z
     |5,_,_=>obtain rfl:=yP X;have d4:(Pk 999 (a.tmps[36]?.getD Θ))/\(ll 10=false->True):=Cr A Z 4;obtain⟨⟨x4,d4,p2,p3⟩,_⟩:=d4;have jH:=A6 Z 10;clear A D;refine yO ?_;go_simp;exact O _ _ ⟨⟨_,by rw[xA _ ω],ω,ω⟩,λ_=>trivial⟩ (yN _ _)
     |6,_,_=>obtain rfl:=yP X;have d0:(a.tmps[32]?.getD Θ)=.agg #[.slice ma mn mc,.slice ia iN ic,.slice ea en ec,.slice ca cn cc,.slice sa sn sc,.slice la ln lc,.slice qa qn qc,Q.FV,Q.U4]:=Cr A Z 0;have d2:(Pk 64 (a.tmps[34]?.getD Θ))/\(ll 10=false->True):=Cr A Z 2;obtain⟨⟨x2,d2,p0,p1⟩,_⟩:=d2;have d5:(∃x:Int,(a.tmps[37]?.getD Θ)=.int .i64 x/\1<=x/\x<=999)/\(ll 10=false->True):=Cr A Z 5;obtain⟨⟨x5,d5,r0,r1⟩,_⟩:=d5;have jH:=A6 Z 10;clear A D;have hW:=hr φ;have jT:=S4.sf.map (IF hW ω (yF _));have mZ:=hW.size;obtain⟨a2,rfl⟩:=yg p0;refine yO ?_;go_simp;refine(Jq _ _ _ _ _ _ _ Q wx jT.rd S4.good (a:=a2) ω (x:=x5) (Aa.2 ω)).mono ?_;rintro e w_ ⟨m9,i9,e9,c9,s9,l9,q9,rfl,hO,fn⟩;exact O _ _ ⟨⟨_,_,rfl⟩,λ_=>⟨_,⟨_,rfl⟩,hO.sf.pgR (M9 S4.good ω (Aa.2 ω)) ω⟩⟩ fn
     |7,_,_=>obtain rfl:=yP X;have d6:(∃v,∃x:Bool,(a.tmps[38]?.getD Θ)=.tuple #[v,x])/\(ll 10=false->∃v,(∃x:Bool,(a.tmps[38]?.getD Θ)=.tuple #[v,x])/\Pz (w.heap.size+1) wx v):=Cr A Z 6;have jH:=A6 Z 10;clear A D;have q:=d6.2 (A6 Z 10);obtain⟨v9,⟨x9,e9⟩,q⟩:=q;refine yO ?_;go_simp;exact O _ _ ⟨⟨_,_,rfl⟩,λ_=>⟨_,⟨_,rfl⟩,q⟩⟩ (yN _ _)
     |8,_,_=>obtain rfl:=yP X;have d7:(∃v,∃x:Bool,(a.tmps[31]?.getD Θ)=.tuple #[v,x])/\(ll 10=false->∃v,(∃x:Bool,(a.tmps[31]?.getD Θ)=.tuple #[v,x])/\Pz (w.heap.size+1) wx v):=Cr A Z 7;have jH:=A6 Z 10;clear A D;have q:=d7.2 (A6 Z 10);obtain⟨v9,⟨x9,e9⟩,q⟩:=q;refine yO ?_;go_simp;exact O _ _ ⟨trivial,λ_=>q⟩ (yN _ _)
     |9,_,_=>obtain rfl:=yP X;have d7:(∃v,∃x:Bool,(a.tmps[31]?.getD Θ)=.tuple #[v,x])/\(ll 10=false->∃v,(∃x:Bool,(a.tmps[31]?.getD Θ)=.tuple #[v,x])/\Pz (w.heap.size+1) wx v):=Cr A Z 7;clear A D;obtain⟨v9,x9,e9⟩:=d7.1;refine yO ?_;go_simp;exact O _ _ ⟨trivial,λ_=>trivial⟩ (yN _ _)
    .intro i hi hS o X a wx D ll A Z Y hb O
     match i,hi,hS with
     |2,_,_=>exact fK (m:=64) X O D A Z Y ω
     |4,_,_=>exact fK (m:=999) X O D A Z Y ω
     |0,_,z|1,_,z|3,_,z|5,_,z|6,_,z|7,_,z|8,_,z|9,_,z|10,_,z=>cases z
    .intro o X a wx D ll A Z hD hW hb O
     obtain rfl:=yP X;have e3:a.tmps[3]?.getD Θ=.pointer b:=eg (OF D 3);have d8:(True)/\(ll 10=false->Pz (w.heap.size+1) wx (a.tmps[39]?.getD Θ)):=Cr A Z 8;clear A D;have q:=d8.2 Z.1;obtain⟨m9,i9,e9,c9,s9,l9,q9,P9,e0,iL,jP⟩:=q;unfold AN at e0;obtain⟨⟨⟨va,vn,vc,rfl⟩,⟨wa,wn,wc,rfl⟩,⟨xa,xn,xc,rfl⟩,⟨ya,yn,yc,rfl⟩⟩,⟨ta,tn,tc,rfl⟩,⟨ua,un,uc,rfl⟩,⟨za,zn,zc,rfl⟩⟩:=iL.Dq;have S9:=(S4.draw hD hW).put iL jP;have B9:=(S4.draw hD hW).yU;obtain⟨c0,c1,c2,c3,c4,c5,c6,c7,c8⟩:=AC B9;have fq:=AK B9;refine yO ?_;go_simp;exact O Θ _ ⟨_,_,_,_,_,_,_,P9,S9⟩
    .exact λ_ _ K h=>h.below K
    rotate_left
    .intro i hi v ww iU hg hz
     match i,hi with
     |6,_|7,_=>exact(by obtain⟨v9,V,L⟩:=hz;exact⟨v9,V,L.past ω hg⟩)
     |8,_=>exact(hz.past ω hg)
     |9,_|0,_|1,_|2,_|3,_|4,_|5,_|10,_=>exact hz
    intro vs wx ll hR hA
    clear hR;simp only[DD,Bj,yL,yI,yJ,yH];simp
    try generalize vs 0=z0
    try generalize vs 1=z1
    try generalize vs 2=z2
    try generalize vs 3=z3
    try generalize vs 4=z4
    try generalize vs 5=z5
    try generalize vs 6=z6
    try generalize vs 7=z7
    try generalize vs 8=z8
    try generalize vs 9=z9
    try generalize vs 10=z10
    go_wp2;go_roundw;exact⟨j+1,ω,ξ,hA.mono ω⟩;simp[intOf];omega
  .go_wp2_with fail
   refine J4 (s:=8) (U:=λix vv=>match ix with
    |2=>Pk 64 vv
    |3|4=>∃v x y,vv=.tuple #[v,.int .i64 x,.bool y]
    |_=>True) 9 66 1 1 [2] [.a #[.slice ma mn mc,.slice ia iN ic,.slice ea en ec,.slice ca cn cc,.slice sa sn sc,.slice la ln lc,.slice qa qn qc,.int .i64 Q.FV,.int .i64 Q.U4],.p g 0,.z,.z,.z,.z,.z,.z,.u] (λix vv ww=>match ix with
    |3|4=>∃v,(∃x y,vv=.tuple #[v,.int .i64 x,.bool y])/\Pz (w.heap.size+1) ww v
    |5=>Pz (w.heap.size+1) ww vv
    |6|7=>True
    |_=>True) (λww=>Pf J g (N1+1) w W1 b ww) S4.dr ?_ ?_ ?_ ?_ ?_ (hst:=?_)
   .intro i hi hS o X a wx D ll A Z hr hb O
    match i,hi,hS with
    |0,_,_=>have hW:=hr φ;have cz:=gc hW bn ω c0;have bu:=gc hW bn ω c1;have cg:=gc hW bn ω c2;have cx:=gc hW bn ω c3;have ay:=gc hW bn ω c4;have ef:=gc hW bn ω c5;have jr:=gc hW bn ω c6;have j2:=gc hW bn ω c7;have kx:=gc hW bn ω c8;exact Kf X O D A Z (hl:=Pj ‹_› ‹_› ‹_› ‹_› ‹_› ‹_› ‹_› ‹_› ‹_›)
    |1,_,_=>exact Tj X O D A Z
    |2,_,z|8,_,z=>cases z
    |3,_,_=>obtain rfl:=yP X;have d0:(a.tmps[44]?.getD Θ)=.agg #[.slice ma mn mc,.slice ia iN ic,.slice ea en ec,.slice ca cn cc,.slice sa sn sc,.slice la ln lc,.slice qa qn qc,Q.FV,Q.U4]:=Cr A Z 0;have d2:(Pk 64 (a.tmps[46]?.getD Θ))/\(ll 8=false->True):=Cr A Z 2;obtain⟨⟨x2,d2,p0,p1⟩,_⟩:=d2;have u8:=A6 Z 8;clear A D;have hW:=hr φ;have jT:=S4.sf.map (IF hW ω (yF _));have mZ:=hW.size;obtain⟨a2,rfl⟩:=yg p0;refine yO ?_;go_simp;refine(MX _ _ _ _ _ _ _ Q wx jT.rd S4.good (a:=a2) ω).mono ?_;rintro e w_ ⟨m9,i9,e9,c9,s9,l9,q9,rfl,hO,fn⟩;exact O _ _ ⟨⟨_,_,_,rfl⟩,λ_=>⟨_,⟨_,_,rfl⟩,hO.sf.pgR (SN S4.good ω) ω⟩⟩ fn
    |4,_,_=>obtain rfl:=yP X;have d3:(∃v x y,(a.tmps[47]?.getD Θ)=.tuple #[v,.int .i64 x,.bool y])/\(ll 8=false->∃v,(∃x y,(a.tmps[47]?.getD Θ)=.tuple #[v,.int .i64 x,.bool y])/\Pz (w.heap.size+1) wx v):=Cr A Z 3;have u8:=A6 Z 8;clear A D;have q:=d3.2 (A6 Z 8);obtain⟨v9,⟨x9,y9,e9⟩,q⟩:=q;refine yO ?_;go_simp;exact O _ _ ⟨⟨_,_,_,rfl⟩,λ_=>⟨_,⟨_,_,rfl⟩,q⟩⟩ (yN _ _)
    |5,_,_=>obtain rfl:=yP X;have d4:(∃v x y,(a.tmps[43]?.getD Θ)=.tuple #[v,.int .i64 x,.bool y])/\(ll 8=false->∃v,(∃x y,(a.tmps[43]?.getD Θ)=.tuple #[v,.int .i64 x,.bool y])/\Pz (w.heap.size+1) wx v):=Cr A Z 4;have u8:=A6 Z 8;clear A D;have q:=d4.2 (A6 Z 8);obtain⟨v9,⟨x9,y9,e9⟩,q⟩:=q;refine yO ?_;go_simp;exact O _ _ ⟨trivial,λ_=>q⟩ (yN _ _)
    |6,_,_=>obtain rfl:=yP X;have d4:(∃v x y,(a.tmps[43]?.getD Θ)=.tuple #[v,.int .i64 x,.bool y])/\(ll 8=false->∃v,(∃x y,(a.tmps[43]?.getD Θ)=.tuple #[v,.int .i64 x,.bool y])/\Pz (w.heap.size+1) wx v):=Cr A Z 4;clear A D;obtain⟨v9,x9,y9,e9⟩:=d4.1;refine yO ?_;go_simp;exact O _ _ ⟨trivial,λ_=>trivial⟩ (yN _ _)
    |7,_,_=>obtain rfl:=yP X;have d4:(∃v x y,(a.tmps[43]?.getD Θ)=.tuple #[v,.int .i64 x,.bool y])/\(ll 8=false->∃v,(∃x y,(a.tmps[43]?.getD Θ)=.tuple #[v,.int .i64 x,.bool y])/\Pz (w.heap.size+1) wx v):=Cr A Z 4;clear A D;obtain⟨v9,x9,y9,e9⟩:=d4.1;refine yO ?_;go_simp;exact O _ _ ⟨trivial,λ_=>trivial⟩ (yN _ _)
   .intro i hi hS o X a wx D ll A Z Y hb O
    match i,hi,hS with
    |2,_,_=>exact fK (m:=64) X O D A Z Y ω
    |0,_,z|1,_,z|3,_,z|4,_,z|5,_,z|6,_,z|7,_,z|8,_,z=>cases z
   .intro o X a wx D ll A Z hD hW hb O
    obtain rfl:=yP X;have e3:a.tmps[3]?.getD Θ=.pointer b:=eg (OF D 3);have d5:(True)/\(ll 8=false->Pz (w.heap.size+1) wx (a.tmps[48]?.getD Θ)):=Cr A Z 5;clear A D;have q:=d5.2 Z.1;obtain⟨m9,i9,e9,c9,s9,l9,q9,P9,e0,iL,jP⟩:=q;unfold AN at e0;obtain⟨⟨⟨va,vn,vc,rfl⟩,⟨wa,wn,wc,rfl⟩,⟨xa,xn,xc,rfl⟩,⟨ya,yn,yc,rfl⟩⟩,⟨ta,tn,tc,rfl⟩,⟨ua,un,uc,rfl⟩,⟨za,zn,zc,rfl⟩⟩:=iL.Dq;have S9:=(S4.draw hD hW).put iL jP;have B9:=(S4.draw hD hW).yU;obtain⟨c0,c1,c2,c3,c4,c5,c6,c7,c8⟩:=AC B9;have fq:=AK B9;refine yO ?_;go_simp;exact O Θ _ ⟨_,_,_,_,_,_,_,P9,S9⟩
   .exact λ_ _ K h=>h.below K
   rotate_left
   .intro i hi v ww iU hg hz
    match i,hi with
    |3,_|4,_=>exact(by obtain⟨v9,V,L⟩:=hz;exact⟨v9,V,L.past ω hg⟩)
    |5,_=>exact(hz.past ω hg)
    |6,_|7,_|0,_|1,_|2,_|8,_=>exact hz
   intro vs wx ll hR hA
   clear hR;simp only[DD,Bj,yL,yI,yJ,yH];simp
   try generalize vs 0=z0
   try generalize vs 1=z1
   try generalize vs 2=z2
   try generalize vs 3=z3
   try generalize vs 4=z4
   try generalize vs 5=z5
   try generalize vs 6=z6
   try generalize vs 7=z7
   try generalize vs 8=z8
   go_wp2;go_roundw;exact⟨j+1,ω,ξ,hA.mono ω⟩;simp[intOf];omega
  go_wp2_with fail
  refine(Oe _ _ _ _ Q.Ve.ZJ S4.dr ω (λE hg=>(S4.sf.map (IF hg ω (yF _))).rd.1.2.1) (ve S4.good.k.len)).mono ?_;rintro e w9 ⟨v,rfl,⟨x,rfl,hx⟩,h9,g9⟩;have S9:=S4.draw h9 g9;obtain⟨NC,bC⟩:=Ec w9 (.cells #[x.k,x.e,x.a,x.b,x.c,x.nm] 34);clear S4 h9 g9 c0 c1 c2 c3 c4 c5 c6 c7 c8 bn;simp only[AV.cs];go_upto_if 57 with fail;generalize w9.alloc _=wc at*;go_cut [] (λW=>∃y:AV,XV y/\W.heap[w9.heap.size]?=some (.cells y.cs 34 (0,0))/\Γ w9 w9 W)
  case first=>
   cases gr
   .go_wp2_with fail
    go_meet;exact⟨x,hx,NC,bC⟩
   have fc:=AK NC
   obtain⟨d0,d1,d2,d3,d4,d5⟩:=II NC;have N2:=ff (x:=⟨1,1,0,0,0,⟨#[98]⟩⟩) NC;go_wp2_with fail;go_meet;exact⟨⟨1,1,0,0,0,⟨#[98]⟩⟩,⟨⟨ψ,ψ,ψ,ψ⟩,.inl rfl⟩,N2,AM (AM (AM (AM (AM (AM bC (At _ _ 0 _) (yF _) bC.size) (At _ _ 1 _) (yF _) (by simpa using bC.size)) (At _ _ 2 _) (yF _) (by simpa using bC.size)) (At _ _ 3 _) (yF _) (by simpa using bC.size)) (At _ _ 4 _) (yF _) (by simpa using bC.size)) (At _ _ 5 _) (yF _) (by simpa using bC.size)⟩
  case rest=>
  clear NC bC hx;obtain⟨y,⟨hy,kB⟩,NY,bY⟩:=hcut;have iy:=S9.below bY;obtain⟨c0,c1,c2,c3,c4,c5,c6,c7,c8⟩:=AC iy.yU;obtain⟨d0,d1,d2,d3,d4,d5⟩:=II NY;have C:=Ob _ _ _ _ _ _ _ Q y _ iy.sf.rd iy.good ⟨hy.2.1,hy.2.2.1⟩ (by have:=hy.1;unfold maxLen;omega) (by have:=hy.2.2.2;omega);have hO:=(Sc iy.good kB).1;unfold AN at C;simp only[AV.cs] at C;go_wp2_with fail;refine C.mono ?_;rintro e xb ⟨m9,i9,e9,c9,s9,l9,q9,rfl,n4,pq⟩;obtain⟨⟨⟨va,vn,vc,rfl⟩,⟨wa,wn,wc,rfl⟩,⟨xa,xn,xc,rfl⟩,⟨ya,yn,yc,rfl⟩⟩,⟨ta,tn,tc,rfl⟩,⟨ua,un,uc,rfl⟩,⟨za,zn,zc,rfl⟩⟩:=n4.Dq;unfold AN;have me:=iy.below pq;have rH:=AA ((me.put (n4.sf.map (λ_ _ _ _ _ _ _ x=>BS x (by have:=iy.lt;have:=AY iy.yU;omega))) hO).mono (M:=N+3+33*(j+1)) ω);have fq:=AK me.yU;clear c0 c1 c2 c3 c4 c5 c6 c7 c8 d0 d1 d2 d3 d4 d5 C;obtain⟨c0,c1,c2,c3,c4,c5,c6,c7,c8⟩:=AC me.yU;clear me iy S9 n4 pq bY NY hO hy kB;go_wp2;go_roundw;exact⟨j+1,ω,ξ,_,_,_,_,_,_,_,_,rH.u⟩;simp[intOf];omega
 obtain⟨c0,c1,c2,c3,c4,c5,c6,c7,c8⟩:=AC H.yU
 have oI:=AY R6;have R9:=(H.kp w oI ω (by have:=H.lt;omega)).trans R6;obtain⟨d0,d1,d2,d3,d4,d5,d6,d7,d8⟩:=AC R9;have lY:=AK R9;obtain⟨BX,FX⟩:=fG (ok:=Dz) (M:=N+900) H.dr H.gr (H.sf.map (λ_ _ _ _ _ _ _ x=>BS x (we _))) H.good ao fl R9 ω;unfold De at BX FX;have BH:=AA BX;have FH:=AA FX;clear BX FX H R9 R6;go_wp2_with fail;exact yB (v:=.agg #[_,_,_,_,_,_,_,_,_]) (by simp[results,Tryz.results56,go_sem,AC BH.u]) rfl FH.u
variable{ss:List ByteArray}
theorem bD{s:ByteArray}:BY (IS ss s).1=true:=by
 unfold IS
 by_cases h:(BY ss&&BT s)=true
 .rw[if_pos h]
  obtain⟨V,L⟩:=um.1 h;exact bH V L
 rw[if_neg h]
 decide+kernel
def eV(w:Ω)(r:Ending)(E:Ω):Prop:=∃v' b,r=.returned (.tuple #[v',.bool b])/\(∃c',AP w.heap.size 125 4 AZ E v' c'/\c'.length<=4)/\Γ w w E
theorem Tt (v:Φ)(c:List Ag)(x:Ag)(w:Ω)(h:Ds w v c):
 Ξ prog 174 #[v,.agg #[x.e,x.p,x.f,x.w]] w (eV w):=by
 obtain⟨N0,b0⟩:=Ec w (.cells #[x.e,x.p,x.f,x.w] 125);have h0:=BN.below h b0;go_in;go_wp2_with fail;generalize w.alloc _=W0 at*;have ad:=AA b0;have HN:=AA N0;obtain⟨y0,y1,y2,y3⟩:=AH N0;clear N0 b0;refine(Jp v c W0 h0).mono ?_;rintro r w1 ⟨rfl,b1⟩;cases hc:Bl c
 .go_wp2
  go_ret2;exact⟨_,_,rfl,⟨[],AP.lower (Cn AZ _ _ _) (yM ad.size b1.size),yu _⟩,(ad.trans (b1.mono ad.size)).alloc (yM ad.size b1.size) _⟩
 have hl:=(FB.1 hc).2.2
 obtain⟨y0,y1,y2,y3⟩:=AH (AB HN b1);go_wp2_with fail;refine(Oc x _).mono ?_;rintro r w2 ⟨rfl,b2⟩;have ee:=b1.trans (b2.mono b1.size);cases hx:Cc x
 .go_wp2
  go_ret2;exact⟨_,_,rfl,⟨[],AP.lower (Cn AZ _ _ _) (yM ad.size ee.size),yu _⟩,(ad.trans (ee.mono ad.size)).alloc (yM ad.size ee.size) _⟩
 obtain⟨y0,y1,y2,y3⟩:=AH (AB HN ee)
 have hp:=(FB.1 (Y4 hc hx)).2.2;go_wp2_with fail;refine(UT v c x _ (BN.below h0 ee) hl).mono ?_;rintro r w3 ⟨v',rfl,O3,b3⟩;have HO:=AA (yj O3 hp);have HB:=AA ((ad.trans ((ee.trans (b3.mono ee.size)).mono ad.size)));have Z:=AA (yM ad.size ee.size);obtain⟨a9,c9,e9,_,_⟩:=O3.rd.shape;generalize List.length _=n9 at e9;subst e9;clear O3 hp b3 b1 b2 ee hl;go_wp2;go_ret2;exact⟨_,_,rfl,⟨_,HO.1.lower Z.u,HO.2⟩,HB.u⟩
theorem Pd (h:w.grownBy w1 (some g))(L:w1.grownBy w2 row)(hq:∀k,row=some k->w.heap.size<=k):w.grownBy w2 (some g):=
 ⟨L.os.trans h.os,L.tape.trans h.tape,L.output.trans h.output,yM h.size L.size,λk hk gT=>(L.block k (yt hk h.size) (λe=>by have:=hq k e.symm;omega)).trans (h.block k hk gT)⟩
theorem Wv (w:Ω)(e:TypeId)(sz n:Nat)(xs:List Φ)(hl:xs.length=n*sz)(hm:n<=maxLen):(w.alloc (.cells xs.toArray e)).ownsRow w.heap.size e sz (.slice w n n) n xs:=
 ⟨hl,.inr ⟨_,_,_,rfl,yF _,yy _ _,yF _,hm,by simpa using hl,by rw[<-hl];simp⟩⟩
theorem Yf{s:ByteArray}(h:Db ss)(z:s.size<=maxLen):Db (ss++[s]):=by
 intro x hx
 rcases wI.1 hx with V|V
 .exact h x V
 simp at V;subst V;exact z
theorem Tp (h:Dr J g N w)(hN:N<=700000):
 Ξ prog 117 #[.pointer g] w (Ig J g (N+60) w λv E=>∃ss,AP w.heap.size 9 1 A0 E v ss/\Db ss):=by
 have ao:=h.lt;have fl:J.heap.size<=w.heap.size:=h.2.1.size;go_in;go_wp2_with fail;have o1:=Cn A0 w 9 1;have V:=h.alloc (.cells #[] 9);have g1:w.grownBy (w.alloc (.cells #[] 9)) (some g):=AX (AG _ _) _;generalize w.alloc (.cells #[] 9)=wa at o1 V g1;generalize(xv (some ⟨w,0,none⟩) 0 0)=o at o1 ⊢;refine(V.pick _).mono ?_;rintro e w2 ⟨n,rfl,n0,n1,L,g2⟩;replace n1:=n1 ψ;obtain⟨n,rfl⟩:=yg n0;have hp:∀b',some g=some b'->b'<w.heap.size:=λb' e=>by cases e;exact ao
 have o2:AP w.heap.size 9 1 A0 w2 o []:=Bc o1 g2 hp;have g3:=AO g1 g2;clear o1 V g1 g2 h;have Hp:=AA hp;clear hp;go_wp2_with fail;go_loopw [3,5] (λo i wr=>∃k:Nat,∃ss,k<=n/\i=.int .i64 k/\BY ss=true/\AP w.heap.size 9 1 A0 wr o ss/\Dr J g (N+1+3*k) wr/\w.grownBy wr (some g)) (λ_ i _=>n - (intOf i).toNat)
 exact⟨0,[],yu _,rfl,by decide+kernel,o2,L,g3⟩
 clear o2 L g3;obtain⟨k,ss,hk,rfl,ez,hO,hD,Y⟩:=hrel;have jC:=AA ez;have HO:=AA hO;obtain⟨oa,oc,rfl,_,_⟩:=hO.rd.shape;have kO:=(Ew.1 jC.u).2.2;clear ez hO
 by_cases nj:k<n
 .go_wp2_with fail
  refine(J1 hD ω).mono ?_;rintro e w3 ⟨_,rfl,⟨s,qK,rfl⟩,h3,g3⟩;have O3:AP w.heap.size 9 1 A0 w3 _ ss:=Bc HO g3 Hp.u;have hz:w.heap.size<=w3.heap.size:=yM Y.size g3.size;go_wp2_with fail;refine(MY _ ss s w3 O3.rd (Ez jC.u) μ).mono ?_;rintro e w4 ⟨v4,rfl,O4,b4⟩;cases K:(IS ss s).2
  .have HR:=AA (yj (O3.below b4) (yj (h3.below b4) (AO (AO Y g3) (AX b4 _))))
   clear kO O3 O4 h3 g3 b4 hD Y;go_wp2;go_roundw;exact⟨k+1,ss,ω,ξ,jC.u,HR.1,HR.2.1.mono ω,HR.2.2⟩;simp[intOf];omega
  have HR:=AA (yj (O4.lower hz) (yj (h3.below b4) (AO (AO Y g3) (AX b4 _))))
  clear kO O3 O4 h3 g3 b4 hD Y;go_wp2;go_roundw;exact⟨k+1,(IS ss s).1,ω,ξ,bD,HR.1,HR.2.1.mono ω,HR.2.2⟩;simp[intOf];omega
 have qY:k<=7:=ω;go_wp2_with fail;refine(hD.pick _).mono ?_;rintro e w3 ⟨u,rfl,_,_,h3,g3⟩;have O3:AP w.heap.size 9 1 A0 w3 _ ss:=Bc HO g3 Hp.u;have G3:=AO Y g3;clear hD Y HO g3
 by_cases u0:u=0
 .subst u0
  go_wp2_with fail;refine(J1 h3 ω).mono ?_;rintro e w4 ⟨_,rfl,⟨s,qK,rfl⟩,h4,g4⟩;have O4:AP w.heap.size 9 1 A0 w4 _ ss:=Bc O3 g4 Hp.u;have G4:=AO G3 g4;have hz:w.heap.size<=w4.heap.size:=G4.size;have jE:=AA O4;have HH:=AA (yj h4 G4);clear O3 h3 G3 g4 O4 h4 G4;go_wp2_with (at_builtin;go_must (refine Bm (lo:=w.heap.size) (n:=ss.length) (xs:=Cb A0 ss) (m:=1) (news:=[.string s]) rfl rfl 9 (.string ⟨#[]⟩) 1 16 underlying79 Tryz.zT rfl ψ rfl (BC jE (AG _ _)) rfl (Rd.zM _ #[_] _ 1 1 _ χ rfl ζ) (by simp[xR]) μ ω η ?_;intro o' w9 k1 k2 k3 k4));have o9:AP w.heap.size 9 1 A0 w9 o' (ss++[s]):=by unfold AP;rw[Bq,Es,yz];exact k1
  have bE:∀k,(xv oa ss.length oc).ownBlock=some k->w.heap.size<=k:=λk e=>(yE jE k e).1
  have D9:=(HH.1.alloc (.cells #[s] 9)).keep k2 (λe=>by have:=bE g e;have:=Hp g rfl;omega) (λk e=>yM fl (bE k e));have G9:=Pd (IV HH.2 (.cells #[s] 9)) k2 bE;have HF:=AA (yj o9 (yj (D9.mono (M:=N+60) ω) G9));clear o9 D9 G9 k1 k2 k3 k4;go_wp2;go_ret;exact⟨_,rfl,⟨_,HF.1,Yf (Ez jC.u) μ⟩,HF.2.1,HF.2.2⟩
 have t0:(u==0)=false:=by simp[u0]
 clear u0;go_wp2_with fail;refine(h3.pick _).mono ?_;rintro e w4 ⟨u',rfl,_,_,h4,g4⟩;have O4:AP w.heap.size 9 1 A0 w4 _ ss:=Bc O3 g4 Hp.u;have HF:=AA (yj O4 (yj (h4.mono (M:=N+60) ω) (AO G3 g4)));clear O3 h3 G3 g4 O4 h4 t0
 by_cases u0:u'=0
 .subst u0
  go_wp2;go_ret;refine⟨_,rfl,⟨[⟨#[97]⟩,⟨#[97,97]⟩,⟨#[97,98]⟩,⟨#[98]⟩,⟨#[98,97]⟩,⟨#[99]⟩],AP.lower (Wv w4 9 1 6 (Cb A0 [⟨#[97]⟩,⟨#[97,97]⟩,⟨#[97,98]⟩,⟨#[98]⟩,⟨#[98,97]⟩,⟨#[99]⟩]) rfl ζ) HF.2.2.size,?_⟩,HF.2.1.alloc _,IV HF.2.2 _⟩;intro x hx;simp only[xH,wM,or_false] at hx
  rcases hx with rfl|rfl|rfl|rfl|rfl|rfl<;>decide
 have t0:(u'==0)=false:=by simp[u0]
 clear u0;go_wp2;go_ret;exact⟨_,rfl,⟨_,HF.1,Ez jC.u⟩,HF.2.1,HF.2.2⟩
theorem VT (h:Dr J g N w)(hN:N<=700000):
 Ξ prog 118 #[.pointer g] w (Ig J g (N+80) w λv E=>∃ss,AP w.heap.size 125 4 AZ E v ss):=by
 have ao:=h.lt;have fl:J.heap.size<=w.heap.size:=h.2.1.size;go_in;go_wp2_with fail;have o1:=Cn AZ w 125 4;have V:=h.alloc (.cells #[] 125);have g1:w.grownBy (w.alloc (.cells #[] 125)) (some g):=AX (AG _ _) _;generalize w.alloc (.cells #[] 125)=wa at o1 V g1;generalize(xv (some ⟨w,0,none⟩) 0 0)=o at o1 ⊢;refine(V.pick _).mono ?_;rintro e w2 ⟨n,rfl,n0,n1,L,g2⟩;replace n1:=n1 ψ;obtain⟨n,rfl⟩:=yg n0;have hp:∀b',some g=some b'->b'<w.heap.size:=λb' e=>by cases e;exact ao
 have o2:AP w.heap.size 125 4 AZ w2 o []:=Bc o1 g2 hp;have g3:=AO g1 g2;clear o1 V g1 g2 h;have Hp:=AA hp;clear hp;go_wp2_with fail;go_loopw [3,5] (λo i wr=>∃k:Nat,∃ss,k<=n/\i=.int .i64 k/\ss.length<=4/\AP w.heap.size 125 4 AZ wr o ss/\Dr J g (N+1+8*k) wr/\w.grownBy wr (some g)) (λ_ i _=>n - (intOf i).toNat)
 exact⟨0,[],yu _,rfl,yu _,o2,L,g3⟩
 clear o2 L g3;obtain⟨k,ss,hk,rfl,ez,hO,hD,Y⟩:=hrel;have jC:=AA ez;have HO:=AA hO;obtain⟨oa,oc,rfl,_,_⟩:=hO.rd.shape;have kO:ss.length<=6:=by have:=jC.u;omega
 clear ez hO
 by_cases nj:k<n
 .go_wp2_with fail
  refine(NW hD ω).mono ?_;rintro e w3 ⟨_,rfl,⟨s,rfl⟩,h3,g3⟩;have O3:AP w.heap.size 125 4 AZ w3 _ ss:=Bc HO g3 Hp.u;have hz:w.heap.size<=w3.heap.size:=yM Y.size g3.size;go_wp2_with fail;refine(Tt _ ss s w3 O3.rd).mono ?_;rintro e w4 ⟨v4,bb,rfl,⟨pY,O4,qX⟩,b4⟩;cases bb
  .have HR:=AA (yj (O3.below b4) (yj (h3.below b4) (AO (AO Y g3) (AX b4 _))))
   clear kO O3 O4 h3 g3 b4 hD Y;go_wp2;go_roundw;exact⟨k+1,ss,ω,ξ,jC.u,HR.1,HR.2.1.mono ω,HR.2.2⟩;simp[intOf];omega
  have HR:=AA (yj (O4.lower hz) (yj (h3.below b4) (AO (AO Y g3) (AX b4 _))))
  clear kO O3 O4 h3 g3 b4 hD Y;go_wp2;go_roundw;exact⟨k+1,pY,ω,ξ,qX,HR.1,HR.2.1.mono ω,HR.2.2⟩;simp[intOf];omega
 have qY:k<=7:=ω;go_wp2_with fail;refine(hD.pick _).mono ?_;rintro e w3 ⟨u,rfl,_,_,h3,g3⟩;have O3:AP w.heap.size 125 4 AZ w3 _ ss:=Bc HO g3 Hp.u;have G3:=AO Y g3;clear hD Y HO g3;have HF:=AA (yj O3 (yj (h3.mono (M:=N+80) ω) G3))
 by_cases u0:u=0
 .subst u0
  go_wp2_with fail;refine(NW h3 ω).mono ?_;rintro e w4 ⟨_,rfl,⟨s,rfl⟩,h4,g4⟩;have O4:AP w.heap.size 125 4 AZ w4 _ ss:=Bc O3 g4 Hp.u;have G4:=AO G3 g4;have hz:w.heap.size<=w4.heap.size:=G4.size;have jE:=AA O4;have HH:=AA (yj h4 G4);clear O3 h3 G3 g4 O4 h4 G4;go_wp2_with (at_builtin;go_must (refine Bm (lo:=w.heap.size) (n:=ss.length) (xs:=Cb AZ ss) (m:=1) (news:=[.int .i64 s.e,.int .i64 s.p,.int .i64 s.f,.bool s.w]) rfl rfl 125 (.agg #[θ,θ,θ,υ]) 4 32 underlying26 Tryz.zP rfl ψ rfl (BC jE (AG _ _)) rfl (Rd.zM _ #[.int .i64 s.e,.int .i64 s.p,.int .i64 s.f,.bool s.w] _ 4 1 _ χ rfl ζ) (by simp[xR]) μ ω η ?_;intro o' w9 k1 k2 k3 k4));have o9:AP w.heap.size 125 4 AZ w9 o' (ss++[s]):=by unfold AP;rw[Bq,Es,yz];exact k1
  have bE:∀k,(xv oa ss.length oc).ownBlock=some k->w.heap.size<=k:=λk e=>(yE jE k e).1
  have D9:=(HH.1.alloc (.cells #[s.e,s.p,s.f,s.w] 125)).keep k2 (λe=>by have:=bE g e;have:=Hp g rfl;omega) (λk e=>yM fl (bE k e));have G9:=Pd (IV HH.2 (.cells #[s.e,s.p,s.f,s.w] 125)) k2 bE;have HF:=AA (yj o9 (yj (D9.mono (M:=N+80) ω) G9));clear o9 D9 G9 k1 k2 k3 k4;go_wp2;go_ret;exact⟨_,rfl,⟨_,HF.1⟩,HF.2.1,HF.2.2⟩
 have t0:(u==0)=false:=by simp[u0]
 clear u0
 by_cases u0:u=1
 .subst u0
  clear O3 h3 G3;go_wp2_with (at_builtin;go_must (refine Bm (lo:=w.heap.size) (n:=ss.length) (xs:=Cb AZ ss) (m:=ss.length) (news:=Cb AZ ss) rfl rfl 125 (.agg #[θ,θ,θ,υ]) 4 32 underlying26 Tryz.zP rfl ψ rfl HF.1 rfl (HF.1.rd) (Ki ss) μ ω (HF.2.2.size) ?_;intro o' w9 k1 k2 k3 k4));have o9:AP w.heap.size 125 4 AZ w9 o' (ss++ss):=by unfold AP;rw[Bq,yz];exact k1
  have bE:∀k,(xv oa ss.length oc).ownBlock=some k->w.heap.size<=k:=λk e=>(yE HF.1 k e).1
  have D9:=HF.2.1.keep k2 (λe=>by have:=bE g e;have:=Hp g rfl;omega) (λk e=>yM fl (bE k e));have G9:=Pd HF.2.2 k2 bE;have HH:=AA (yj o9 (yj D9 G9));clear o9 D9 G9 k1 k2 k3 k4;go_wp2;go_ret;exact⟨_,rfl,⟨_,HH.1⟩,HH.2.1,HH.2.2⟩
 have t1:(u==1)=false:=by simp[u0]
 clear u0 O3 h3 G3;go_wp2;go_ret;exact⟨_,rfl,⟨_,HF.1⟩,HF.2.1,HF.2.2⟩
def Wr:List ByteArray:=[⟨#[98]⟩,⟨#[97]⟩,⟨#[97,98]⟩,⟨#[]⟩]
theorem fD{s:ByteArray}(z:s∈Wr):Dg (Oh [[gA],[s],[gC]]):=by
 simp only[Wr,xH,wM,or_false] at z
 rcases z with rfl|rfl|rfl|rfl<;>exact FN.1 φ
theorem YI{s:ByteArray}(z:s∈Wr):∀ts∈[[gA],[s],[gC]],BY ts=true:=by
 intro ts h;simp only[Wr,xH,wM,or_false] at z h
 rcases h with rfl|rfl|rfl
 .decide+kernel
 .rcases z with rfl|rfl|rfl|rfl<;>decide+kernel
 decide+kernel
theorem Zw{s:ByteArray}(z:s∈Wr):∀ts∈[[gA],[s],[gC]],Db ts:=by
 intro ts h;simp only[Wr,xH,wM,or_false] at z h
 rcases h with rfl|rfl|rfl<;>intro x hx<;>rw[List.mem_singleton] at hx<;>subst hx
 .decide
 .rcases z with rfl|rfl|rfl|rfl<;>decide
 decide
theorem aE{va vb vc:Φ}{a b c:List ByteArray}(u:TypeId)(ha:BZ w va a)(K:BZ w vb b)(hc:BZ w vc c)(sa:∃x n k,va=.slice x n k)(sb:∃x n k,vb=.slice x n k)(sc:∃x n k,vc=.slice x n k):
 Mm (w.alloc (.cells #[va,vb,vc] u)) (.slice w 3 3) [a,b,c]:=by
 obtain⟨_,_,_,rfl⟩:=sa;obtain⟨_,_,_,rfl⟩:=sb;obtain⟨_,_,_,rfl⟩:=sc;refine⟨[_,_,_],Rd.zM _ #[_,_,_] u 1 3 _ χ rfl ζ,rfl,?_⟩;intro i x y hx hy
 match i,hx,hy with
 |0,hx,hy=>simp at hx hy;subst hx hy;exact ha.below (AG _ _)
 |1,hx,hy=>simp at hx hy;subst hx hy;exact K.below (AG _ _)
 |2,hx,hy=>simp at hx hy;subst hx hy;exact hc.below (AG _ _)
theorem Tq (h:Dr J g N w)(hN:N<=400000):
 Ξ prog 114 #[.pointer g] w (fu Dg J g (N+3000) w):=by
 have ao:=h.lt;have fl:J.heap.size<=w.heap.size:=h.2.1.size;go_in;go_wp2_with fail;obtain⟨B0,BA,b0,az⟩:=LF w (.cells #[ι,ι,ι,ι] 28) (.cells #[.string ⟨#[97]⟩] 9);go_wp2_with fail;generalize(w.alloc _).alloc _=wa at*;rw[<-az];have h0:=h.below b0;refine(Pn wa.heap.size 4 Wr (h0.alloc _) ω rfl ψ ψ (by have:=h0.lt;omega) χ (λk hk=>K9 wa Wr _ hk)).mono ?_;rintro e w1 ⟨v,rfl,⟨s,z,rfl⟩,V,g1⟩;have g2:=AO (AX (AG wa (.cells #[.string ⟨#[98]⟩,.string ⟨#[97]⟩,.string ⟨#[97,98]⟩,ϑ] 9)) (some g)) g1;have pU:=(g2.block _ (AY BA) η).trans BA;have B1:=(g2.block _ (AY B0) η).trans B0;have G1:=AO (AX b0 (some g)) g2;clear h0 g1 g2 BA B0 b0 h;obtain⟨NS,NC,b1,kG⟩:=LF w1 (.cells #[s] 9) (.cells #[.string ⟨#[99]⟩] 9);have m8:=aE 79 (show BZ _ _ [⟨#[97]⟩] from Oo (AB pU b1)) (show BZ _ _ [s] from Oo NS) (show BZ _ _ [⟨#[99]⟩] from Oo NC) ⟨_,_,_,rfl⟩ ⟨_,_,_,rfl⟩ ⟨_,_,_,rfl⟩;rw[kG] at m8;go_wp2_with fail;refine(KE _ [[⟨#[97]⟩],[s],[⟨#[99]⟩]] _ m8 rfl (YI z) (Zw z)).mono ?_;rintro e w2 ⟨m,i,ev,c,rfl,O2,b2⟩;have iK:=b1.trans (((AG _ _).trans (b2.mono (AG _ _).size)).mono b1.size);obtain⟨⟨ma,mn,mc,rfl⟩,⟨ia,iN,ic,rfl⟩,⟨ea,en,ec,rfl⟩,⟨ca,cn,cc,rfl⟩⟩:=O2.Dq;have bK:=AG w2 (.cells #[.slice ma mn mc,.slice ia iN ic,.slice ea en ec,.slice ca cn cc] 28);have fk:w.heap.size<w2.heap.size:=by have:=AY B1;have:=iK.size;omega
 have H:Jw Dg J g (N+1) w w2 (w2.alloc (.cells #[.slice ma mn mc,.slice ia iN ic,.slice ea en ec,.slice ca cn cc] 28)):=⟨_,_,_,_,Oh [[⟨#[97]⟩],[s],[⟨#[99]⟩]],(V.below iK).below bK,AO (AO G1 (AX iK _)) (AX bK _),yy _ _,(O2.sf.map (LG bK (by have:=b1.size;have:=(AG ((w1.alloc (.cells #[s] 9)).alloc (.cells #[.string ⟨#[99]⟩] 9)) (.cells #[.slice (some ⟨w.heap.size+1,0,none⟩) 1 1,.slice w1 1 1,.slice (some ⟨w1.heap.size+1,0,none⟩) 1 1] 79)).size;have:=AY B1;omega))),fD z,_,_,_,_,AB (AB B1 iK) bK⟩;clear O2 b2 iK m8 NS NC b1 kG V G1 pU B1 bK az z;go_wp2_with fail;generalize w2.alloc _=w3 at*;generalize w2.heap.size=b at*;refine(H.pk ao fk 5 ω ψ ψ).mono ?_;rintro e w4 ⟨x,rfl,x0,R,S4⟩;clear H;go_upto_if 24 with fail;go_cut [] (λwx=>Jw Dg J g (N+20) w b wx)
 case first=>
  by_cases hx:0<x
  .go_wp2_with fail
   refine(S4.pk ao fk 3 ω ψ ψ).mono ?_;rintro e w5 ⟨y,rfl,y0,y1,S5⟩;clear S4;go_wp2_with fail;refine(Ot (1+y) w5 ω ω).mono ?_;rintro e w6 ⟨m1,i1,e1,c1,s1,l1,q1,rfl,O6,b6⟩;obtain⟨⟨⟨ma,mn,mc,rfl⟩,⟨ia,iN,ic,rfl⟩,⟨ea,en,ec,rfl⟩,⟨ca,cn,cc,rfl⟩⟩,⟨sa,sn,sc,rfl⟩,⟨la,ln,lc,rfl⟩,⟨qa,qn,qc,rfl⟩⟩:=O6.Dq;have iM:Dz (Wu (1+y)):=Yz ω ω;clear y0 y1;generalize Wu (1+y)=P1 at*;unfold AN;have bB:=AG w6 (.cells #[.slice ma mn mc,.slice ia iN ic,.slice ea en ec,.slice ca cn cc,.slice sa sn sc,.slice la ln lc,.slice qa qn qc,P1.FV,P1.U4] 32);have jk:=b6.trans (bB.mono b6.size);have SK:=S5.below ao fk jk;obtain⟨_,_,_,_,_,h5,g5,B5,_,_,_⟩:=S5;have iY:=AY B5;have H:L0 J g (N+3) w (w6.alloc (.cells #[.slice ma mn mc,.slice ia iN ic,.slice ea en ec,.slice ca cn cc,.slice sa sn sc,.slice la ln lc,.slice qa qn qc,P1.FV,P1.U4] 32)) w6.heap.size _ _ _ _ _ _ _ P1 (w6.alloc (.cells #[.slice ma mn mc,.slice ia iN ic,.slice ea en ec,.slice ca cn cc,.slice sa sn sc,.slice la ln lc,.slice qa qn qc,P1.FV,P1.U4] 32)):=
    ⟨(h5.below jk).mono ω,AO g5 (AX jk _),yy _ _,O6.map (LG bB ω),iM,ao,fl,by have:=b6.size;omega,yF _,λ_ _ _ _=>rfl⟩
   have CA:b<w6.heap.size:=by have:=b6.size;omega
   clear O6 b6 bB jk h5 g5 B5 iM iY;go_wp2_with fail;generalize w6.alloc _=W1 at*;generalize w6.heap.size=b5 at*;refine(H.pk 4).mono ?_;rintro e w7 ⟨n,rfl,n0,n1,S7⟩;clear H;obtain⟨n,rfl⟩:=yg n0;have A1:n<4:=ω;clear n0 n1;go_wp2_with fail;go_loopw [8] (λi wr=>∃j:Nat,j<=n/\i=.int .i64 j/\Pf J g (N+4+2*j) w W1 b5 wr) (λi _=>n - (intOf i).toNat)
   exact⟨0,yu _,rfl,_,_,_,_,_,_,_,P1,S7⟩
   clear S7;obtain⟨j,hj,rfl,m1,i1,e1,c1,s1,l1,q1,Q,H⟩:=hrel;have ni:=AY H.yU;obtain⟨⟨⟨ma,mn,mc,rfl⟩,⟨ia,iN,ic,rfl⟩,⟨ea,en,ec,rfl⟩,⟨ca,cn,cc,rfl⟩⟩,⟨sa,sn,sc,rfl⟩,⟨la,ln,lc,rfl⟩,⟨qa,qn,qc,rfl⟩⟩:=H.sf.Dq
   by_cases jw:j<n
   .go_wp2_with fail
    obtain⟨N1,hN1⟩:∃M,M=N+4+2*j:=⟨_,rfl⟩
    rw[<-hN1] at H;obtain⟨c0,c1,c2,c3,c4,c5,c6,c7,c8⟩:=AC H.yU;have bn:=AY H.yU;refine J4 (s:=10) (U:=λix vv=>match ix with
     |2=>Pk 64 vv
     |4=>Pk 99 vv
     |5=>∃x:Int,vv=.int .i64 x/\1<=x/\x<=99
     |6|7=>∃v,∃x:Bool,vv=.tuple #[v,x]
     |_=>True) 11 68 1 2 [2,4] [.a #[.slice ma mn mc,.slice ia iN ic,.slice ea en ec,.slice ca cn cc,.slice sa sn sc,.slice la ln lc,.slice qa qn qc,.int .i64 Q.FV,.int .i64 Q.U4],.p g 0,.z,.p g 0,.z,.z,.z,.z,.z,.z,.u] (λix vv ww=>match ix with
     |6|7=>∃v,(∃x:Bool,vv=.tuple #[v,x])/\Pz (w.heap.size+1) ww v
     |8=>Pz (w.heap.size+1) ww vv
     |9=>True
     |_=>True) (λww=>Pf J g (N1+2) w W1 b5 ww) H.dr ?_ ?_ ?_ ?_ ?_ (hst:=?_)
    .intro i hi hS o X a wx D ll A Z hr hb O
     match i,hi,hS with
     |0,_,_=>have hW:=hr φ;have cz:=gc hW bn ω c0;have bu:=gc hW bn ω c1;have cg:=gc hW bn ω c2;have cx:=gc hW bn ω c3;have ay:=gc hW bn ω c4;have ef:=gc hW bn ω c5;have jr:=gc hW bn ω c6;have j2:=gc hW bn ω c7;have kx:=gc hW bn ω c8;exact Kf X O D A Z (hl:=Pj ‹_› ‹_› ‹_› ‹_› ‹_› ‹_› ‹_› ‹_› ‹_›)
     |1,_,_|3,_,_=>exact Tj X O D A Z
     |2,_,z|4,_,z|10,_,z=>cases z
     |5,_,_=>obtain rfl:=yP X;have d4:(Pk 99 (a.tmps[44]?.getD Θ))/\(ll 10=false->True):=Cr A Z 4;obtain⟨⟨x4,d4,p2,p3⟩,_⟩:=d4;have jH:=A6 Z 10;clear A D;refine yO ?_;go_simp;exact O _ _ ⟨⟨_,by rw[xA _ ω],ω,ω⟩,λ_=>trivial⟩ (yN _ _)
     |6,_,_=>obtain rfl:=yP X;have d0:(a.tmps[40]?.getD Θ)=.agg #[.slice ma mn mc,.slice ia iN ic,.slice ea en ec,.slice ca cn cc,.slice sa sn sc,.slice la ln lc,.slice qa qn qc,Q.FV,Q.U4]:=Cr A Z 0;have d2:(Pk 64 (a.tmps[42]?.getD Θ))/\(ll 10=false->True):=Cr A Z 2;obtain⟨⟨x2,d2,p0,p1⟩,_⟩:=d2;have d5:(∃x:Int,(a.tmps[45]?.getD Θ)=.int .i64 x/\1<=x/\x<=99)/\(ll 10=false->True):=Cr A Z 5;obtain⟨⟨x5,d5,r0,r1⟩,_⟩:=d5;have jH:=A6 Z 10;clear A D;have hW:=hr φ;have jT:=H.sf.map (IF hW ω (yF _));have mZ:=hW.size;obtain⟨a2,rfl⟩:=yg p0;refine yO ?_;go_simp;refine(Jq _ _ _ _ _ _ _ Q wx jT.rd H.good (a:=a2) ω (x:=x5) (Aa.2 ω)).mono ?_;rintro e w_ ⟨m9,i9,e9,c9,s9,l9,q9,rfl,hO,fn⟩;exact O _ _ ⟨⟨_,_,rfl⟩,λ_=>⟨_,⟨_,rfl⟩,hO.sf.pgR (M9 H.good ω (Aa.2 ω)) ω⟩⟩ fn
     |7,_,_=>obtain rfl:=yP X;have d6:(∃v,∃x:Bool,(a.tmps[46]?.getD Θ)=.tuple #[v,x])/\(ll 10=false->∃v,(∃x:Bool,(a.tmps[46]?.getD Θ)=.tuple #[v,x])/\Pz (w.heap.size+1) wx v):=Cr A Z 6;have jH:=A6 Z 10;clear A D;have q:=d6.2 (A6 Z 10);obtain⟨v9,⟨x9,e9⟩,q⟩:=q;refine yO ?_;go_simp;exact O _ _ ⟨⟨_,_,rfl⟩,λ_=>⟨_,⟨_,rfl⟩,q⟩⟩ (yN _ _)
     |8,_,_=>obtain rfl:=yP X;have d7:(∃v,∃x:Bool,(a.tmps[39]?.getD Θ)=.tuple #[v,x])/\(ll 10=false->∃v,(∃x:Bool,(a.tmps[39]?.getD Θ)=.tuple #[v,x])/\Pz (w.heap.size+1) wx v):=Cr A Z 7;have jH:=A6 Z 10;clear A D;have q:=d7.2 (A6 Z 10);obtain⟨v9,⟨x9,e9⟩,q⟩:=q;refine yO ?_;go_simp;exact O _ _ ⟨trivial,λ_=>q⟩ (yN _ _)
     |9,_,_=>obtain rfl:=yP X;have d7:(∃v,∃x:Bool,(a.tmps[39]?.getD Θ)=.tuple #[v,x])/\(ll 10=false->∃v,(∃x:Bool,(a.tmps[39]?.getD Θ)=.tuple #[v,x])/\Pz (w.heap.size+1) wx v):=Cr A Z 7;clear A D;obtain⟨v9,x9,e9⟩:=d7.1;refine yO ?_;go_simp;exact O _ _ ⟨trivial,λ_=>trivial⟩ (yN _ _)
    .intro i hi hS o X a wx D ll A Z Y hb O
     match i,hi,hS with
     |2,_,_=>exact fK (m:=64) X O D A Z Y ω
     |4,_,_=>exact fK (m:=99) X O D A Z Y ω
     |0,_,z|1,_,z|3,_,z|5,_,z|6,_,z|7,_,z|8,_,z|9,_,z|10,_,z=>cases z
    .intro o X a wx D ll A Z hD hW hb O
     obtain rfl:=yP X;have e5:a.tmps[5]?.getD Θ=.pointer b5:=eg (OF D 5);have d8:(True)/\(ll 10=false->Pz (w.heap.size+1) wx (a.tmps[47]?.getD Θ)):=Cr A Z 8;clear A D;have q:=d8.2 Z.1;obtain⟨m9,i9,e9,c9,s9,l9,q9,P9,e0,iL,jP⟩:=q;unfold AN at e0;obtain⟨⟨⟨va,vn,vc,rfl⟩,⟨wa,wn,wc,rfl⟩,⟨xa,xn,xc,rfl⟩,⟨ya,yn,yc,rfl⟩⟩,⟨ta,tn,tc,rfl⟩,⟨ua,un,uc,rfl⟩,⟨za,zn,zc,rfl⟩⟩:=iL.Dq;have S9:=(H.draw hD hW).put iL jP;have B9:=(H.draw hD hW).yU;obtain⟨c0,c1,c2,c3,c4,c5,c6,c7,c8⟩:=AC B9;have fq:=AK B9;refine yO ?_;go_simp;exact O Θ _ ⟨_,_,_,_,_,_,_,P9,S9⟩
    .exact λ_ _ K h=>h.below K
    rotate_left
    .intro i hi v ww iU hg hz
     match i,hi with
     |6,_|7,_=>exact(by obtain⟨v9,V,L⟩:=hz;exact⟨v9,V,L.past ω hg⟩)
     |8,_=>exact(hz.past ω hg)
     |9,_|0,_|1,_|2,_|3,_|4,_|5,_|10,_=>exact hz
    intro vs wx ll hR hA
    clear hR;simp only[DD,Bj,yL,yI,yJ,yH];simp
    try generalize vs 0=z0
    try generalize vs 1=z1
    try generalize vs 2=z2
    try generalize vs 3=z3
    try generalize vs 4=z4
    try generalize vs 5=z5
    try generalize vs 6=z6
    try generalize vs 7=z7
    try generalize vs 8=z8
    try generalize vs 9=z9
    try generalize vs 10=z10
    go_wp2;go_roundw;exact⟨j+1,ω,ξ,by rw[show N+4+2*(j+1)=N1+2 from ω];exact hA⟩;simp[intOf];omega
   obtain⟨c0,c1,c2,c3,c4,c5,c6,c7,c8⟩:=AC H.yU
   obtain⟨_,_,_,_,_,_,_,B9,_,_,a0,a1,a2,a3,R9⟩:=SK;have q4:b≠g:=ω;have oI:=AY R9;have iT:=(H.kp b (AY B9) q4 ω).trans B9;have pz:=(H.kp w (AY R9) ω ω).trans R9;obtain⟨d0,d1,d2,d3⟩:=AH iT;have fd:=AK iT;have HR:=AA (Jw.put (H.dr.mono (M:=N+20) ω) H.gr iT (H.sf.1.map (λ_ _ _ _ _ _ _ x=>BS x (we _))) H.good.k ao fl fk pz);clear B9 R9 iT pz H;go_wp2_with fail;go_meet;exact HR.u
  go_wp2_with fail
  go_meet;exact S4.mono ω
 case rest=>
 clear S4 x0 R;go_wp2_with fail;refine(hcut.pk ao fk 24 ω ψ ψ).mono ?_;rintro e w5 ⟨n,rfl,n0,n1,S5⟩;clear hcut;obtain⟨n,rfl⟩:=yg n0;have nh:n<24:=ω;clear n0 n1;go_wp2_with fail;go_loopw [10] (λi wr=>∃j:Nat,j<=n/\i=.int .i64 j/\Jw Dg J g (N+21+20*j) w b wr) (λi _=>n - (intOf i).toNat)
 exact⟨0,yu _,rfl,S5⟩
 clear S5;obtain⟨j,hj,rfl,m1,i1,e1,c1,k,hd,nJ,hB,ld,hk,a0,a1,a2,a3,hR⟩:=hrel;obtain⟨⟨ma,mn,mc,rfl⟩,⟨ia,iN,ic,rfl⟩,⟨ea,en,ec,rfl⟩,⟨ca,cn,cc,rfl⟩⟩:=ld.Dq;obtain⟨c0,c1,c2,c3⟩:=AH hB;have bn:=AY hB;have oH:=fk
 by_cases jw:j<n
 .go_wp2_with fail
  obtain⟨N1,hN1⟩:∃M,M=N+21+20*j:=⟨_,rfl⟩
  rw[<-hN1] at hd;refine J4 (s:=9) (U:=λix vv=>match ix with
   |3=>∃x:AV,vv=.agg x.cs/\L6 x
   |4|5=>∃v,∃x y:Int,vv=.tuple #[v,x,y]
   |_=>True) 10 68 20 1 [3] [.a #[.slice ma mn mc,.slice ia iN ic,.slice ea en ec,.slice ca cn cc],.p g 0,.a #[.slice ma mn mc,.slice ia iN ic,.slice ea en ec,.slice ca cn cc],.z,.z,.z,.z,.z,.z,.u] (λix vv ww=>match ix with
   |4|5=>∃v,(∃x y:Int,vv=.tuple #[v,x,y])/\ag w ww v
   |6=>ag w ww vv
   |7|8=>True
   |_=>True) (λww=>Jw Dg J g (N1+20) w b ww) hd ?_ ?_ ?_ ?_ ?_ (hst:=?_)
  .intro i hi hS o X a wx D ll A Z hr hb O
   match i,hi,hS with
   |0,_,_|2,_,_=>have hW:=hr φ;have cz:=gc hW bn ω c0;have bu:=gc hW bn ω c1;have cg:=gc hW bn ω c2;have cx:=gc hW bn ω c3;exact Kf X O D A Z (hl:=Pi ‹_› ‹_› ‹_› ‹_›)
   |1,_,_=>exact Tj X O D A Z
   |3,_,z|9,_,z=>cases z
   |4,_,_=>obtain rfl:=yP X;have d0:(a.tmps[59]?.getD Θ)=.agg #[.slice ma mn mc,.slice ia iN ic,.slice ea en ec,.slice ca cn cc]:=Cr A Z 0;have d3:(∃x:AV,(a.tmps[62]?.getD Θ)=.agg x.cs/\L6 x)/\(ll 9=false->True):=Cr A Z 3;obtain⟨⟨cl,d3,je⟩,_⟩:=d3;have u9:=A6 Z 9;clear A D;have hW:=hr φ;have jT:=ld.map (IF hW ao (yF _));have mZ:=hW.size;refine yO ?_;go_simp;refine(MM jT.rd hk cl ⟨je.2.1,je.2.2.1⟩ (by have:=je.1;unfold maxLen;omega) (by have:=je.2.2.2;omega)).mono ?_;rintro e w_ ⟨m9,i9,e9,c9,rfl,hO,fn⟩;exact O _ _ ⟨⟨_,_,_,rfl⟩,λ_=>⟨_,⟨_,_,rfl⟩,m9,i9,e9,c9,_,rfl,hO.sf.map (λ_ _ _ _ _ _ _ x=>BS x ω),OR hk ⟨je.2.1,by have:=je.2.2.1;omega⟩⟩⟩ fn
   |5,_,_=>obtain rfl:=yP X;have d4:(∃v,∃x y:Int,(a.tmps[63]?.getD Θ)=.tuple #[v,x,y])/\(ll 9=false->∃v,(∃x y:Int,(a.tmps[63]?.getD Θ)=.tuple #[v,x,y])/\ag w wx v):=Cr A Z 4;have u9:=A6 Z 9;clear A D;have q:=d4.2 (A6 Z 9);obtain⟨v9,⟨x9,y9,e9⟩,q⟩:=q;refine yO ?_;go_simp;exact O _ _ ⟨⟨_,_,_,rfl⟩,λ_=>⟨_,⟨_,_,rfl⟩,q⟩⟩ (yN _ _)
   |6,_,_=>obtain rfl:=yP X;have d5:(∃v,∃x y:Int,(a.tmps[58]?.getD Θ)=.tuple #[v,x,y])/\(ll 9=false->∃v,(∃x y:Int,(a.tmps[58]?.getD Θ)=.tuple #[v,x,y])/\ag w wx v):=Cr A Z 5;have u9:=A6 Z 9;clear A D;have q:=d5.2 (A6 Z 9);obtain⟨v9,⟨x9,y9,e9⟩,q⟩:=q;refine yO ?_;go_simp;exact O _ _ ⟨trivial,λ_=>q⟩ (yN _ _)
   |7,_,_=>obtain rfl:=yP X;have d5:(∃v,∃x y:Int,(a.tmps[58]?.getD Θ)=.tuple #[v,x,y])/\(ll 9=false->∃v,(∃x y:Int,(a.tmps[58]?.getD Θ)=.tuple #[v,x,y])/\ag w wx v):=Cr A Z 5;clear A D;obtain⟨v9,x9,y9,e9⟩:=d5.1;refine yO ?_;go_simp;exact O _ _ ⟨trivial,λ_=>trivial⟩ (yN _ _)
   |8,_,_=>obtain rfl:=yP X;have d5:(∃v,∃x y:Int,(a.tmps[58]?.getD Θ)=.tuple #[v,x,y])/\(ll 9=false->∃v,(∃x y:Int,(a.tmps[58]?.getD Θ)=.tuple #[v,x,y])/\ag w wx v):=Cr A Z 5;clear A D;obtain⟨v9,x9,y9,e9⟩:=d5.1;refine yO ?_;go_simp;exact O _ _ ⟨trivial,λ_=>trivial⟩ (yN _ _)
  .intro i hi hS o X a wx D ll A Z Y hb O
   match i,hi,hS with
   |3,_,_=>exact fR (Pv:=λv _=>∃x:AV,v=.agg x.cs/\L6 x) X O D A Z Y (λM hM hD hW=>QI (.slice ma mn mc) (.slice ia iN ic) (.slice ea en ec) (.slice ca cn cc) k.ZJ hD ω (λE hg=>(ld.map (IF (AO hW hg) ao (yF _))).rd.2.1) (ve hk.len)) (hR:=λ_ _ h=>⟨h,trivial⟩)
   |0,_,z|1,_,z|2,_,z|4,_,z|5,_,z|6,_,z|7,_,z|8,_,z|9,_,z=>cases z
  .intro o X a wx D ll A Z hD hW hb O
   obtain rfl:=yP X;have e3:a.tmps[3]?.getD Θ=.pointer b:=eg (OF D 3);have d6:(True)/\(ll 9=false->ag w wx (a.tmps[64]?.getD Θ)):=Cr A Z 6;clear A D;have q:=d6.2 Z.1;obtain⟨m9,i9,e9,c9,k9,e0,iL,jP⟩:=q;obtain⟨⟨va,vn,vc,rfl⟩,⟨wa,wn,wc,rfl⟩,⟨xa,xn,xc,rfl⟩,⟨ya,yn,yc,rfl⟩⟩:=iL.Dq;have ig:=(hW.block b bn η).trans hB;have rq:=(hW.block _ (AY hR) η).trans hR;obtain⟨c0,c1,c2,c3⟩:=AH ig;have fq:=AK ig;refine yO ?_;go_simp;exact O Θ _ (Jw.put hD (AO nJ hW) ig iL jP ao fl oH rq)
  .exact λ_ _ K h=>h.below ao oH K
  rotate_left
  .intro i hi v ww iU hg hz
   match i,hi with
   |4,_|5,_=>exact(by obtain⟨v9,V,L⟩:=hz;exact⟨v9,V,L.past ao hg⟩)
   |6,_=>exact(hz.past ao hg)
   |7,_|8,_|0,_|1,_|2,_|3,_|9,_=>exact hz
  intro vs wx ll hR hA
  clear hR;simp only[DD,Bj,yL,yI,yJ,yH];simp
  try generalize vs 0=z0
  try generalize vs 1=z1
  try generalize vs 2=z2
  try generalize vs 3=z3
  try generalize vs 4=z4
  try generalize vs 5=z5
  try generalize vs 6=z6
  try generalize vs 7=z7
  try generalize vs 8=z8
  try generalize vs 9=z9
  go_wp2;go_roundw;exact⟨j+1,ω,ξ,by rw[show N+21+20*(j+1)=N1+20 from ω];exact hA⟩;simp[intOf];omega
 obtain⟨d0,d1,d2,d3⟩:=AH hR
 have lY:=AK hR;obtain⟨BX,FX⟩:=fB (ok:=Dg) (M:=N+3000) hd nJ ld hk ao fl hR ω;have BH:=AA BX;have FH:=AA FX;clear BX FX hB hd nJ ld hR hk;go_wp2_with fail;exact yB (v:=.agg #[_,_,_,_]) (by simp[results,Tryz.results114,go_sem,AH BH.u]) rfl FH.u
end Go.Proofs.YtlcnbkkcplllhaaGreatDoor
