/-
  Packed:10 texts.
-/
import Derived.Test.YtpdjjjdkhedibaaGreatDoorY1
import Derived.Test.YtpdjjjdkhedibaaGreatDoorY11
import Derived.Test.YtpdjjjdkhedibaaGreatDoorY9
import Derived.Test.YtpdjjjdkhedibaaGreatDoorY7
import Derived.Test.YtpdjjjdkhedibaaGreatDoorY2
import Derived.Test.YtpdjjjdkhedibaaGreatDoorY3
import Derived.Deep.DeepCutAuto
import Derived.Deep.CutBlock
set_option linter.unusedVariables false
set_option linter.unusedSimpArgs false
set_option maxHeartbeats 16000000
set_option maxRecDepth 100000
open Go Go.Proofs.YtpdjjjdkhedibaaGreatDoor
open Bool renaming and_eq_true_iff->vM,true_and->vT
open Decidable renaming em->wu
open Go.Lib renaming toList_data->xz
open Go.Proofs.Tryz renaming results139->vg,results17->sJ,results190->wt,results49->um
open Go.RowKit.Below renaming refl->yD
open Go.World renaming block_lt_of_cell?->yA,cell?_alloc_new->tS,cell?_of_block->vX,size_alloc->xv
open Go renaming bodyPost_ret->yk,cell_of_row->yi,heap_alloc_new->yv,heap_setCell_same->ym
open Int renaming eq_ofNat_of_zero_le->xW,toNat_natCast->yb
open List renaming all_eq_true->yd,foldl_cons->yy,foldl_nil->yw,mem_cons->xA,mem_range->xU,not_mem_nil->wR,range->yC
open List.range renaming loop->yz
open Nat renaming le_refl->yt,le_trans->yB,lt_of_lt_of_le->xX,not_lt_zero->xP,zero_le->yh
variable {P:AR}
namespace Go.Proofs.YtpdjjjdkhedibaaGreatDoor
open Go.Proofs.Tryz
open Go.RowKit
theorem Zo{p:AR}(h:ED p):Ib p=Ro p:=by
 have:=h.count;unfold Ib Ro
 by_cases hx:Am p.zV.zZ<0
 .simp[hx]
 .by_cases hy:(Ac p.zY 1:Int)=p.zU
  .simp[hx,hy]
  .have:¬p.zU<=(Ac p.zY 1:Int):=by omega
   simp[hx,hy,this]
theorem Yj{p:AR}{n:Nat}(h:ED p)(hf:0<=Am p.zV.zZ):(Oh p n).2=true:=by rw[Vn (Lz (k:=p.zV) h.may hf (a:=0) (b:=0) (c:=0))]
def MM(lo:Nat)(w:World)(m i e c s l q:Value)(P:AR)(t:AR×Bool)(r:Ending)(w':World):Prop:=
 (t.2=true->∃m i e c s l q,r=.returned (.tuple #[AO m i e c s l q t.1.zR t.1.zU,.bool true])/\FG lo w' m i e c s l q t.1)/\
 (t.2=false->r=.returned (.tuple #[AO m i e c s l q P.zR P.zU,.bool false]))/\Below lo w w'/\En w w'
theorem QT{lo:Nat}{w W:World}{m i e c s l q m' i' e' c' s' l' q':Value}{Q:AR}{t:AR×Bool}(ht:t=(Q,true))(O:FG lo W m' i' e' c' s' l' q' Q)(B:Below lo w W)(T:En w W):MM lo w m i e c s l q P t (.returned (.tuple #[AO m' i' e' c' s' l' q' Q.zR Q.zU,.bool true])) W:=
 ⟨λ_=>⟨m',i',e',c',s',l',q',by rw[ht],by rw[ht];exact O⟩,λh=>(by rw[ht] at h;cases h),B,T⟩
theorem X4{lo:Nat}{w W:World}{m i e c s l q:Value}{Q:AR}{t:AR×Bool}(ht:t=(Q,false))(B:Below lo w W)(T:En w W):MM lo w m i e c s l q P t (.returned (.tuple #[AO m i e c s l q P.zR P.zU,.bool false])) W:=
 ⟨λh=>(by rw[ht] at h;cases h),λ_=>rfl,B,T⟩
theorem TN{lo:Nat}{w:World}{mv iv ev cv sv lv qv:Value}(h:FG lo w mv iv ev cv sv lv qv P)(cz:lo<=w.heap.size)(hP:ED P){n:Nat}(hn:n<16):
 Calls prog 49 #[AO mv iv ev cv sv lv qv P.zR P.zU,.int .i64 n] w (MM lo w mv iv ev cv sv lv qv P (BV P n)):=by
 unfold AO MM AO;obtain⟨N0,N1,bx,bK⟩:=Jy w (.cells #[mv,iv,ev,cv,sv,lv,qv,.int .i64 P.zR,.int .i64 P.zU] 32) ((.cells #[.slice none 0 0,.slice none 0 0,.slice none 0 0,.slice none 0 0,.slice none 0 0,.slice none 0 0,.slice none 0 0,.int .i64 0,.int .i64 0] 32));have a9:=(⟨N0,cz,h.below bx⟩:Gm lo w.heap.size _ mv iv ev cv sv lv qv P);obtain⟨⟨⟨ma,mn,mc,rfl⟩,⟨ia,iN,ic,rfl⟩,⟨ea,en,ec,rfl⟩,⟨ka,kn,kc,rfl⟩⟩,⟨sa,sn,sc,rfl⟩,⟨la,ln,lc,rfl⟩,_⟩:=h.zQ;obtain⟨gq,qc,rfl,dW,f9,ij,g0,_⟩:=a9.page (n:=0) (by rw[hP.zO];omega);rw[hP.zO] at h a9 N0 N1 bx bK dW ⊢;have dE:(n:Int)<16:=by omega
 obtain⟨_,_,_,_,_,_,x6,_,_⟩:=a9.cells;obtain⟨eL,fq,p0,p1,p2⟩:=a9.pg (n:=n) (by rw[hP.zO];exact hn);have hx:P.zY[n]?=some (AB P.zY n):=by unfold AB;exact A1 (by rw[hP.zO];exact hn)
 have HP:=AA hP;have ct:=AA (bx.mono cz);have dy:=AA ((En.refl w).below bx);have iB:=AA cz;have cI:=AA (yB cz bx.size);have gR:=AA N1;have HI:=AA a9;have fc:=AA (λhw=>QX (n:=n) hP hw);have T1:=AA (QZ (p:=P) (n:=n));have T2:=AA (λhw=>QV (n:=n) hP hw);have T3:=AA (λhw=>QW hP hn hw);have eZ:=AA (λm pg hd (h:bI P n m pg hd)=>h.is);generalize BV P n=t at fc T1 T2 eZ ⊢
 by_cases hw:(AB P.zY n).w=1
 .have HT:=AA (fc.out hw)
  rw[hw] at p0;have cS:=a9.zo (n:=n) (x:=AB P.zY n) (y:= {AB P.zY n with u:=true}) (j:=2) (u:=.bool true) hP.zO.symm hx (by decide) rfl;have N2:=Ap N1 cS.2.1 (by obtain⟨cu,gk⟩:=A6 a9.own.pgs gq rfl;exact(Bp gk N1));obtain⟨iz,d6⟩:=A6 a9.own.pgs gq rfl;have T2:=dy.out.other cS.2.1 d6 (by decide);have B2:=AM ct.out cS.2.1 cS.2.2 cI.out;have l2:=yB cI.out cS.2.1.size;have I2:=cS.1;clear h hP cz hx hw a9 N0 N1 bx bK dW cS;go_in;go_upto_region 1 with fail;generalize(w.alloc _).alloc _=W0 at*;generalize hg:w.heap.size=g at*;have Hg:=AA hg;clear hg;generalize hW1:W0.setCell ⟨gq,n*3+2,none⟩ (.bool true)=W1 at I2 N2 T2 B2 l2;have S3:=AA (DF N2 I2.own);obtain⟨y0,y1,y2,y3,y4,y5,y6,y7,y8⟩:=I2.cells;obtain⟨z0,z1,z2,z3,z4,z5,z6,z7,z8⟩:=AD N2;have fz:=AK N2;have dM:=AA B2;have gO:=AA T2;have gM:=AA l2;have eo:=AA I2.yJ;clear I2 N2 B2 T2 l2 p1 eL;obtain⟨N4,O4,eV⟩:=S3.out;have B4:=AM dM.out eV (by have:=eo.out;omega) gM.out;have T4:=gO.out.fresh eV (by have:=Hg.out;omega);unfold Ew at N4 O4 B4 T4;have cw:=QT (m:=.slice ma mn mc) (i:=.slice ia iN ic) (e:=.slice ea en ec) (c:=.slice ka kn kc) (s:=.slice sa sn sc) (l:=.slice la ln lc) (q:=.slice (some ⟨gq,0,none⟩) 16 qc) (P:=P) (Q:= {P with zY:=FF P.zY n}) HT.out O4 B4 T4;unfold MM AO at cw
  try dsimp only at cw
  have HR:=AA cw;have HE:=AA (AD N4);clear cw;go_wp2_with ((try simp only[Exit.then]);with_reducible refine yk (v:=.tuple #[.agg #[.slice ma mn mc,.slice ia iN ic,.slice ea en ec,.slice ka kn kc,.slice sa sn sc,.slice la ln lc,.slice (some ⟨gq,0,none⟩) 16 qc,.int .i64 P.zR,.int .i64 P.zU],.bool true]) ?_ rfl HR.out);obtain⟨E0,E1,E2,E3,E4,E5,E6,E7,E8⟩:=HE.out;simp[results,um,go_sem,E0,E1,E2,E3,E4,E5,E6,E7,E8]
 .have t0:((AB P.zY n).w==1)=false:=by simp[hw]
  replace T1:=AA (T1.out hw);replace T2:=AA (T2.out hw);replace T3:=AA (T3.out hw);have TV:=AA (VA hP);have fX:=AA hw;have df:=AA hP.zU;have HF:=AA (Zo hP);have RI:=AA a9.own.ker.rd.2.1;have RQ:=AA (show BD 3 Cw _ _ P.zY from a9.own.pgs.rd);have gS:=AA (At hP.k).2.1;have gI:=AA hP.zO;generalize(AB P.zY n).w=pw at p0 t0;obtain⟨x0,x1,x2,x3,x4,x5,x6,x7,x8⟩:=a9.cells;clear h hP cz hx hw a9 N0 N1 bx dW p1 p2;go_in;go_upto_region 4 with fail;generalize(w.alloc _).alloc _=W0 at*;generalize hg:w.heap.size=g at*;have Hg:=AA hg;have az:=AW HI.out.yK;have fa:=AA bK;clear hg bK;obtain⟨Lk,hcnt⟩:∃c:Nat,c=Ac P.zY 1:=⟨_,rfl⟩
  have CC:=AA (λW (hW:Below W0.heap.size W0 W)=>by have:=Mq (.slice ma mn mc) (.slice ia iN ic) (.slice ea en ec) (.slice ka kn kc) (.slice sa sn sc) (.slice la ln lc) (.slice (some ⟨gq,0,none⟩) 16 qc) P 1 W (BD.below RQ.out hW) (by have:=gI.out;omega);unfold AO at this;rw[<-hcnt] at this;exact this);have CF:=AA (λW (hW:Below W0.heap.size W0 W)=>QI (.slice ia iN ic) P.zV.zZ W (BD.below RI.out hW) gS.out);have eP:Ro P=(decide (P.zU<=(Lk:Int))||decide (Am P.zV.zZ<0)):=by rw[hcnt];rfl
  have ep:=AA eP;have gN:=AA hcnt;clear eP hcnt RQ RI p0 t0 fq eL;go_cut [32] (λfw wx=>fw=.bool (Ro P)/\Below W0.heap.size W0 wx)
  case first=>
   refine AY 4 49 [.a #[.slice ma mn mc,.slice ia iN ic,.slice ea en ec,.slice ka kn kc,.slice sa sn sc,.slice la ln lc,(.slice (some ⟨gq,0,none⟩) 16 qc),.int .i64 (P.zR),.int .i64 (P.zU)],.i ((Lk:Int)),.p g 8,.i (P.zU)] (λ_ _ _=>True) ?_ ?_
   .intro i hi o ho a wx Hb Hd hG K HK
    have cj:=bc hG az x0;have bp:=bc hG az x1;have bC:=bc hG az x2;have bn:=bc hG az x3;have bA:=bc hG az x4;have cx:=bc hG az x5;have dA:=bc hG az x6;have eF:=bc hG az x7;have eE:=bc hG az x8
    match i,hi with
    |0,_=>exact sL ho HK Hb Hd (hl:=Qz ‹_› ‹_› ‹_› ‹_› ‹_› ‹_› ‹_› ‹_› ‹_›)
    |1,_=>exact sD ho HK Hb Hd (CC.out _ hG)
    |2,_=>exact sP ho HK Hb Hd
    |3,_=>exact sL ho HK Hb Hd (hl:=Fp ‹_›)
   .intro vs wx hR hG
    have q1:(vs 1)=.int .i64 Lk:=BW hR 1;have q3:(vs 3)=.int .i64 (P.zU):=BW hR 3;clear hR;simp only[Aj,Ae,yC,yz,yy,yw,q1,q3];simp;clear q1 q3;have HG:=AA hG;obtain⟨_,y1,_,_,_,_,_,_,y8⟩:=(HI.out.below hG).cells;clear hG x0 x1 x2 x3 x4 x5 x6 x7 x8
    by_cases hc:P.zU<=(Lk:Int)
    .have E:=AA (show Ro P=true by rw[ep.out];simp[hc])
     go_wp2_with fail;go_meet
     case rel=>exact⟨by rw[E.out],HG.out⟩
    .have E:=AA (show Ro P=(((P.zV.zZ.countP (λx=>decide (x.k=0)):Nat):Int)==0) by
      rw[ep.out];have:= @MO P.zV.zZ
      by_cases hz:P.zV.zZ.countP (λx=>decide (x.k=0))=0
      .simp[hc,hz,this.2 hz]
      .have h1:¬Am P.zV.zZ<0:=λh=>hz (this.1 h)
       simp[hc,hz,h1])
     go_wp2_with fail;refine(CF.out _ HG.out).mono ?_;rintro r w1 ⟨rfl,b1⟩;have gT:=AA (HG.out.trans (b1.mono HG.out.size));clear b1;generalize List.countP _ P.zV.zZ=nf at*;go_wp2_with fail;go_meet
     case rel=>exact⟨by rw[E.out],gT.out⟩
  case rest=>
  obtain⟨rfl,hG⟩:=hcut;clear CC CF ep x0 x1 x2 x3 x4 x5 x6 x7 x8
  rename_i W1
  have cf:=AA (HI.out.below hG);have cy:=AA (ct.out.trans (hG.mono cI.out));have HN:=AA (AC gR.out hG);have dJ:=AA (dy.out.below hG);have bY:=AA (yB cI.out hG.size);clear hG HI;rw[<-HF.out];obtain⟨y0,y1,y2,y3,y4,y5,y6,y7,y8⟩:=cf.out.cells;go_upto_if 32 with fail;go_cut [] (λwx=>∃P1 m i e c s,Gm lo g wx m i e c s (.slice la ln lc) (.slice (some ⟨gq,0,none⟩) 16 qc) P1/\wx.heap[g+1]?=some (.cells #[.slice none 0 0,.slice none 0 0,.slice none 0 0,.slice none 0 0,.slice none 0 0,.slice none 0 0,.slice none 0 0,.int .i64 0,.int .i64 0] 32 (0,0))/\Below lo w wx/\En w wx/\lo<=wx.heap.size/\ED P1/\0<=Am P1.zV.zZ/\(AB P1.zY n).w≠1/\t=Oh P1 n)
  case first=>
   cases hf:Ib P
   .have fi:=AA (T2.out hf)
    go_wp2_with fail;go_meet
    case rel=>exact⟨P,_,_,_,_,_,cf.out,HN.out,cy.out,dJ.out,bY.out,HP.out,fi.out.2,fX.out,fi.out.1⟩
   .have CV:=Qw cf.out.own bY.out HP.out
    unfold VO AO at CV
    by_cases hz:Ac P.zY 1=0
    .have eM:=T1.out ⟨by
      unfold Ib at hf;simp only[Bool.or_eq_true,decide_eq_true_eq] at hf;have:=df.out
      rcases hf with hf|hf
      .exact hf
      .omega,hz⟩
     have cM:=TV.out.2 hz;generalize CQ 32 P.zY P.zR=t at CV cM;obtain⟨pg,hd,o⟩:=t;cases cM;dsimp only[U9] at CV;have CV:=AA CV;have gJ:=AA eM;clear eM hf hz;go_wp2_with fail;refine CV.out.mono ?_;rintro r w2 ⟨rfl,O2,b2,s2⟩;have b3:=AE w2 (.cells #[.slice ma mn mc,.slice ia iN ic,.slice ea en ec,.slice ka kn kc,.slice sa sn sc,.slice la ln lc,.slice (some ⟨gq,0,none⟩) 16 qc,.int .i64 hd,.int .i64 P.zU] 32);have N3:=AC (s2 _ _ HN.out) b3;have I3:=AC (s2 _ _ cf.out.yK) b3;have B3:=cy.out.trans (b2.trans (b3.mono (yB bY.out b2.size)));have T3:=(dJ.out.trans s2).below b3;have l3:=yB (yB bY.out b2.size) b3.size;have N4:=GV (b0:=.slice ma mn mc) (b1:=.slice ia iN ic) (b2:=.slice ea en ec) (b3:=.slice ka kn kc) (b4:=.slice sa sn sc) (b5:=.slice la ln lc) (b6:=.slice (some ⟨gq,0,none⟩) 16 qc) (b7:=.int .i64 P.zR) (b8:=.int .i64 P.zU) N3;have G4:=FD (w:=w2.alloc (.cells #[.slice ma mn mc,.slice ia iN ic,.slice ea en ec,.slice ka kn kc,.slice sa sn sc,.slice la ln lc,.slice (some ⟨gq,0,none⟩) 16 qc,.int .i64 hd,.int .i64 P.zU] 32)) (g:=g+1) (b0:=.slice ma mn mc) (b1:=.slice ia iN ic) (b2:=.slice ea en ec) (b3:=.slice ka kn kc) (b4:=.slice sa sn sc) (b5:=.slice la ln lc) (b6:=.slice (some ⟨gq,0,none⟩) 16 qc) (b7:=.int .i64 P.zR) (b8:=.int .i64 P.zU);have B4:=AA (AM B3 G4 (by have:=cf.out.yJ;omega) l3);have T4:=AA (T3.fresh G4 (by have:=Hg.out;omega));have gP:=AA N4;obtain⟨c0,c1,c2,c3,c4,c5,c6,c7,c8⟩:=AD I3;obtain⟨z0,z1,z2,z3,z4,z5,z6,z7,z8⟩:=AD N3;have fz:=AK N3;clear O2 b2 s2 b3 N3 I3 B3 T3 l3 N4 G4 y0 y1 y2 y3 y4 y5 y6 y7 y8 CV;have N4:=gP.out;unfold Ew at N4 B4 T4;have cw:=X4 (m:=.slice ma mn mc) (i:=.slice ia iN ic) (e:=.slice ea en ec) (c:=.slice ka kn kc) (s:=.slice sa sn sc) (l:=.slice la ln lc) (q:=.slice (some ⟨gq,0,none⟩) 16 qc) (P:=P) (Q:=P) gJ.out B4.out T4.out;have HR:=AA cw;have HE:=AA (AD N4);clear cw;go_wp2_with fail;refine yk (v:=.tuple #[.agg #[.slice ma mn mc,.slice ia iN ic,.slice ea en ec,.slice ka kn kc,.slice sa sn sc,.slice la ln lc,.slice (some ⟨gq,0,none⟩) 16 qc,.int .i64 P.zR,.int .i64 P.zU],.bool false]) ?_ rfl HR.out;obtain⟨E0,E1,E2,E3,E4,E5,E6,E7,E8⟩:=HE.out;simp[results,um,go_sem,E0,E1,E2,E3,E4,E5,E6,E7,E8]
    .obtain⟨mm,pgs,hd,cp⟩:=T3.out hf (λx=>hz x.2)
     rw[cp.vic] at CV;dsimp only[U9] at CV;have ay:=AA cp;have CV:=AA CV;have ih:¬(mm:Int)<0:=by omega
     clear cp hf hz;go_wp2_with fail;refine CV.out.mono ?_;rintro r w2 ⟨rfl,O2,b2,s2⟩;have b3:=AE w2 (.cells #[.slice ma mn mc,.slice ia iN ic,.slice ea en ec,.slice ka kn kc,.slice sa sn sc,.slice la ln lc,.slice (some ⟨gq,0,none⟩) 16 qc,.int .i64 hd,.int .i64 P.zU] 32);have l3:=yB (yB bY.out b2.size) b3.size;have CO:=Vy (O2.below b3) l3 ay.out.ok1 ay.out.m16 ay.out.mw1;unfold VL AO at CO;dsimp only at CO;have CO:=AA CO;have N3:=AA (AC (s2 _ _ HN.out) b3);have I3:=AA (AC (s2 _ _ cf.out.yK) b3);have B3:=AA (cy.out.trans (b2.trans (b3.mono (yB bY.out b2.size))));have T3:=AA ((dJ.out.trans s2).below b3);have gL:=AA l3;clear O2 b2 s2 b3 l3 y0 y1 y2 y3 y4 y5 y6 y7 y8 CV;go_wp2_with fail;refine CO.out.mono ?_;rintro r w4 ⟨⟨m4,i4,e4,c4,s4,rfl,O4⟩,b4,t4⟩;obtain⟨⟨⟨g9,g7,bA,rfl⟩,⟨hO,hS,hI,rfl⟩,⟨it,io,iq,rfl⟩,⟨hF,hA,hC,rfl⟩⟩,⟨gX,gV,gW,rfl⟩,_⟩:=O4.zQ;have S5:=DF (t4 _ _ I3.out) O4;have N5:=AA (Ap (t4 _ _ N3.out) S5.2.2 (by omega));have T5:=AA ((T3.out.trans t4).fresh S5.2.2 (by have:=Hg.out;omega));have l4:=yB gL.out b4.size;have B5:=AA (AM (B3.out.trans b4) S5.2.2 cf.out.yJ l4);have l5:=AA (yB l4 S5.2.2.size);have I5:=AA (⟨S5.1,cf.out.yJ,S5.2.1⟩:Gm lo g _ _ _ _ _ _ _ _ _);obtain⟨z0,z1,z2,z3,z4,z5,z6,z7,z8⟩:=AD (t4 _ _ I3.out);have fz:=AK (t4 _ _ I3.out);clear S5 O4 b4 t4 l4 CO;unfold Ew at N5 T5 B5 l5 I5;go_wp2_with fail;go_meet
     case rel=>exact⟨_,_,_,_,_,_,I5.out,N5.out,B5.out,T5.out,l5.out,ay.out.ok2,ay.out.free,ay.out.nw,eZ.out _ _ _ ay.out⟩
  case rest=>obtain⟨P1,m1,i1,e1,c1,s1,I1,N1,B1,e7,l1,O1,f1,n1,t1⟩:=hcut;have CI:=Xa I1.own l1 O1 hn n1 f1;have eI:=Yj (n:=n) O1 f1;generalize Oh P1 n=ti at CI eI t1;obtain⟨Q,bb⟩:=ti;obtain rfl:bb=true:=eI;unfold Tz AO at CI;dsimp only at CI;have gG:=AA t1;obtain⟨⟨⟨hv,g8,bp,rfl⟩,⟨hQ,hT,hJ,rfl⟩,⟨iu,ip,ir,rfl⟩,⟨hH,hB,hE,rfl⟩⟩,⟨fu,fo,fs,rfl⟩,_⟩:=I1.own.zQ;obtain⟨x0,x1,x2,x3,x4,x5,x6,x7,x8⟩:=I1.cells;have ew:=AA N1;have ey:=AA B1;have eu:=AA e7;have el:=AA l1;have eo:=AA I1.yJ;have CI:=AA CI;clear I1 N1 B1 e7 l1 O1 f1 n1 t1 y0 y1 y2 y3 y4 y5 y6 y7 y8 cf HN cy dJ T1 T2 T3 TV df;go_wp2_with fail;refine CI.out.mono ?_;rintro r w6 ⟨⟨m6,i6,e6,c6,rfl,O6⟩,b6,s6⟩;obtain⟨⟨⟨fD,fB,dA,rfl⟩,⟨fS,fU,fP,rfl⟩,⟨gD,gw,gy,rfl⟩,⟨fN,fI,fL,rfl⟩⟩,_⟩:=O6.zQ;have N6:=s6 _ _ ew.out;have S7:=AA (DF N6 O6);have B6:=AA (ey.out.trans b6);have T6:=AA (eu.out.trans s6);have l6:=AA (yB el.out b6.size);obtain⟨z0,z1,z2,z3,z4,z5,z6,z7,z8⟩:=AD N6;have fz:=AK N6;clear O6 b6 s6 N6 CI x0 x1 x2 x3 x4 x5 x6 x7 x8;obtain⟨N8,O8,eU⟩:=S7.out;have B8:=AM B6.out eU (by have:=eo.out;omega) l6.out;have T8:=T6.out.fresh eU (by have:=Hg.out;omega);unfold Ew at N8 O8 B8 T8;have cw:=QT (m:=.slice ma mn mc) (i:=.slice ia iN ic) (e:=.slice ea en ec) (c:=.slice ka kn kc) (s:=.slice sa sn sc) (l:=.slice la ln lc) (q:=.slice (some ⟨gq,0,none⟩) 16 qc) (P:=P) gG.out O8 B8 T8;unfold MM AO at cw;have HR:=AA cw;have HE:=AA (AD N8);clear cw;go_wp2_with ((try simp only[Exit.then]);with_reducible refine yk (v:=.tuple #[.agg #[.slice fD fB dA,.slice fS fU fP,.slice gD gw gy,.slice fN fI fL,.slice fu fo fs,.slice la ln lc,.slice (some ⟨gq,0,none⟩) 16 qc,.int .i64 Q.zR,.int .i64 Q.zU],.bool true]) ?_ rfl HR.out);obtain⟨E0,E1,E2,E3,E4,E5,E6,E7,E8⟩:=HE.out;simp[results,um,go_sem,E0,E1,E2,E3,E4,E5,E6,E7,E8]
theorem Uj(mv iv ev cv sv lv qv:Value)(P:AR)(n:Nat)(w:World)(h:Kx w mv iv ev cv sv lv qv P)(hh:bM P)(hn:n<16):
 Calls prog 41 #[AO mv iv ev cv sv lv qv P.zR P.zU,.int .i64 n] w λr w'=>r=.returned (.bool (GL P n))/\Below w.heap.size w w':=by
 unfold AO;have N0:=yv w (.cells #[mv,iv,ev,cv,sv,lv,qv,.int .i64 P.zR,.int .i64 P.zU] 32);have b0:=AE w (.cells #[mv,iv,ev,cv,sv,lv,qv,.int .i64 P.zR,.int .i64 P.zU] 32);have h0:=h.below b0;have hK:DJ P.zV:=EZ.1 hh.k;obtain⟨j,hj⟩:∃j,j=n/4:=⟨_,rfl⟩
 obtain⟨t,ht⟩:∃t,t=n%4:=⟨_,rfl⟩
 have q1:(n:Int)/4=(j:Int):=by omega
 have q2:(n:Int)%4=(t:Int):=by omega
 have eO:j<4:=by omega
 have fZ:t<4:=by omega
 have f8:=hh.lr j eO;obtain⟨lf,hlf⟩:∃x:Nat,BJ P.low j=(x:Int):=⟨(BJ P.low j).toNat,by omega⟩
 have dg:lf<12:=by omega
 have eQ:Br P n=Ar P.zV.mem lf t:=by unfold Br;rw[<-hj,<-ht,hlf,yb]
 have dE:(n:Int)<16:=by omega
 have HS:=AA h0.2.1;have a9:=AA h0.1.2.1;obtain⟨aq,cq,rfl,_,_,HQ⟩:=BD.open DT (by decide) h0.2.2.2;obtain⟨bq,oq,rfl,gt,D0,D1,D2⟩:=HQ.zq (k:=n) (by rw[hh.pl];exact hn);have ig:(n:Int)<P.zY.length:=by rw[hh.pl];exact dE
 obtain⟨am,cm,rfl,_,_,HM⟩:=h0.1.1.open;obtain⟨al,cl,rfl,_,_,HL⟩:=h0.2.2.1.open;obtain⟨bl,ol,rfl,DL⟩:=HL.at (k:=j) (by rw[hh.ll];exact eO);rw[show nth P.low j=(lf:Int) from hlf] at DL;obtain⟨bm,om,br,cg,cr,rfl,cF,DM,cC,gl,cZ⟩:=HM.row4 (At hK).1 dg;have DW:=cZ t fZ;obtain⟨ai,ci,rfl,_,_,cf⟩:=BD.open Ay (by decide) a9.out;have HI:=AA cf;obtain⟨eY,eX,rfl,_,_,_⟩:=h0.2.1.open;obtain⟨x0,x1,x2,x3,x4,x5,x6,x7,x8⟩:=AD N0;obtain⟨po,hpo⟩:∃po,po=GL P n:=⟨_,rfl⟩
 rw[<-hpo];have PO:=hpo;unfold GL at PO;rw[eQ] at PO;generalize hpw:(AB P.zY n).w=pw at D0 PO;generalize hpa:(AB P.zY n).a=pa at D1 PO;generalize hpu:(AB P.zY n).u=pu at D2 PO;generalize htw:Ar P.zV.mem lf t=tw at DW PO;have ii:(j:Int)<P.low.length:=by rw[hh.ll];omega
 have dY:(lf:Int)<P.zV.mem.length:=by have:=(Ai.1 (At hK).1).1;omega
 have fY:(t:Int)<4:=by omega
 have cU:=AA (Az.1 (At hK).2.1).1;replace PO:=AA PO;clear hpo hpw hpa hpu htw eQ hlf f8 hj ht HQ HM HL cZ h h0;have bK:(w.alloc (.cells #[.slice (some ⟨bm,om,none⟩) P.zV.mem.length cm,.slice ai P.zV.zZ.length ci,ev,cv,.slice eY P.swap.length eX,.slice (some ⟨bl,ol,none⟩) P.low.length cl,.slice (some ⟨bq,oq,none⟩) P.zY.length cq,.int .i64 P.zR,.int .i64 P.zU] 32)).heap.size=w.heap.size+1:=by simp
 go_in;go_wp2_with fail;generalize w.alloc _=W0 at*;have b2:=AE W0 (.cells #[.int .i64 pw,.int .i64 pa,.bool pu] 43);have N2:=yv W0 (.cells #[.int .i64 pw,.int .i64 pa,.bool pu] 43);have ex:=AA (AC N0 b2);have dM:=AA (b0.trans (b2.mono b0.size));have dw:=AA b2;replace DL:=(b2.cell (yA _ _ DL)).trans DL;replace DM:=(b2.cell (yA _ _ DM)).trans DM;replace DW:=(b2.cell (yA _ _ DW)).trans DW;clear x0 x1 x2 x3 x4 x5 x6 x7 x8 D0 D1 D2 gt cF cC cf N0 b0 b2;obtain⟨qp,hqp⟩:∃q,q=w.heap.size+1:=⟨_,rfl⟩
 rw[bK] at N2;rw[<-hqp] at N2 ⊢;generalize W0.alloc _=W2 at*;clear hqp bK;obtain⟨x0,_,_,_,_,x5,_,_,_⟩:=AD ex.out;have az:=AW ex.out;have dm:=yA _ _ DL;have cF:=yA _ _ DM;have cC:=yA _ _ DW;have gQ:=AA N2;clear N2;go_wp2_with fail;refine AY 15 94 [.p w.heap.size 0,.p w.heap.size 0,.v (.slice (some ⟨bm,om,none⟩) P.zV.mem.length cm),.p w.heap.size 5,.v (.slice (some ⟨bl,ol,none⟩) P.low.length cl),.i ((n:Int)),.i ((j:Int)),.p bl (ol+j),.i ((lf:Int)),.p bm (om+lf),.v (.slice (some ⟨br,cg,none⟩) 4 cr),.i ((n:Int)),.i ((t:Int)),.p br (cg+t),.i tw] (λ_ _ _=>True) ?_ ?_
 .intro i hi o ho a wx Hb Hd hG K HK
  have bp:=bc hG az x5;have bC:=bc hG dm DL;have bn:=bc hG cF DM;have bA:=bc hG cC DW
  match i,hi with
  |0,_|1,_|3,_|5,_|11,_=>exact sP ho HK Hb Hd
  |2,_=>exact sL ho HK Hb Hd (hl:=GT (bc hG az x0))
  |4,_|10,_=>exact sL ho HK Hb Hd (hl:=J5 ‹_›)
  |7,_|9,_|13,_=>exact sI ho HK Hb Hd (hr:=by clear Hd Hb HK;go_simp)
  |8,_|14,_=>exact sL ho HK Hb Hd (hl:=Fp ‹_›)
  |6,_=>clear bp bC bn bA;obtain rfl:=yF ho;have d5:(a.tmps[19]?.getD undef)=.int .i64 n:=BM Hd 5;clear Hd Hb;refine yE ?_;go_simp;exact HK.out _ _ (by show Value.int .i64 (IntKind.i64.wrap (j:Int))=.int .i64 j;rw[IntWalk.i64_in _ (by omega)]) (yD _ _)
  |12,_=>clear bp bC bn bA;obtain rfl:=yF ho;have iw:(a.tmps[25]?.getD undef)=.int .i64 n:=BM Hd 11;clear Hd Hb;refine yE ?_;go_simp;exact HK.out _ _ (by show Value.int .i64 (Int.tmod (n:Int) 4)=.int .i64 t;rw[Int.tmod_eq_emod_of_nonneg (by omega)];exact congrArg _ q2) (yD _ _)
  |_+15,hq=>omega
 .intro vs wx hR hG
  have eC:(vs 14)=.int .i64 tw:=BW hR 14;clear hR;simp only[Aj,Ae,yC,yz,yy,yw,eC];simp;clear eC;have HB:=AA (dM.out.trans (hG.mono dM.out.size));have er:=AA (dw.out.trans (hG.mono dw.out.size));obtain⟨_,x1,_,_,x4,_,_,_,_⟩:=AD (AC ex.out hG);obtain⟨p0,p1,p2⟩:=Fx (AC gQ.out hG);clear x0 x5 DL DM DW hG dm cF cC
  by_cases e0:pw=0
  .subst e0
   rw[if_pos rfl] at PO
   by_cases ea:pa=0
   .subst ea
    cases pu
    .have S:=AA (show po=(tw==0) by rw[PO.out];simp;by_cases h3:tw=0<;>simp[h3])
     clear PO x1 x4;go_wp2_with fail;go_ret;exact⟨AI S.out.symm,HB.out⟩
    .have S:=AA (show po=false by rw[PO.out];simp)
     clear PO x1 x4;go_wp2_with fail;go_ret;exact⟨AI S.out.symm,HB.out⟩
   .have S:=AA (show po=false by rw[PO.out];simp[ea])
    clear PO x1 x4;go_wp2_with fail;go_ret;exact⟨AI S.out.symm,HB.out⟩
  rw[if_neg e0] at PO;have t0:(pw==0)=false:=by simp[e0]
  by_cases e1:pw=1
  .subst e1
   rw[if_pos rfl] at PO;clear t0 e0 x4;have CF:=AA (λW=>D6 pa W);go_wp2_with fail;refine(CF.out _).mono ?_;rintro r w3 ⟨rfl,rfl⟩;cases co:Be pa 0 11
   .have S:=AA (show po=false by rw[PO.out,co];rfl)
    clear PO co x1;go_wp2_with fail;go_ret;exact⟨AI S.out.symm,HB.out⟩
   have ab:=Ab.1 co;obtain⟨fr,rfl⟩:∃x:Nat,pa=(x:Int):=⟨pa.toNat,by omega⟩
   have gh:fr<12:=by omega
   rw[co,yb] at PO;clear co;go_wp2_with fail;refine(Lp (fr:Int) _ (by omega) (by omega)).mono ?_;rintro r w3 ⟨rfl,b3⟩;have cJ:=AA (HB.out.trans (b3.mono HB.out.size));have il:(fr:Int)<12:=by omega
   have gi:(fr:Int)<P.zV.zZ.length:=by have:=cU.out;omega
   obtain⟨bi,oi,rfl,cR,F0,F1,F2⟩:=(HI.out.below (er.out.trans (b3.mono er.out.size))).zP (k:=fr) (by have:=cU.out;omega);replace x1:=(b3.cell (yA _ _ x1)).trans x1;replace p1:=(b3.cell (yA _ _ p1)).trans p1;clear p0 p2 b3 F0 cR;generalize Hh (fr:Int)=en_ at PO ⊢
   by_cases et:tw=en_
   .subst et
    have bk:=AA (show po=(decide ((zS P.zV.zZ fr).g=gA)&&decide ((zS P.zV.zZ fr).r=1)) by rw[PO.out];simp[Fm]);clear PO;generalize zS P.zV.zZ fr=x at F1 F2 bk;obtain⟨xk,xg,xr⟩:=x;dsimp only at F1 F2 bk;have eg:xg=gA↔xg.toList=[97]:=⟨λh=>by subst h;rw[xz];rfl,λh=>by rw[xz] at h;cases xg with|mk d=>cases d with|mk l=>simp at h;subst h;rfl⟩
    by_cases hg:xg.toList=[97]
    .have t1:(xg.toList==[97])=true:=by simp[hg]
     have S:=AA (show po=(xr==1) by rw[bk.out,decide_eq_true (eg.2 hg),vT];by_cases h3:xr=1<;>simp[h3]);clear hg eg bk;go_wp2_with fail;go_ret;exact⟨AI S.out.symm,cJ.out⟩
    .have t1:(xg.toList==[97])=false:=by simp[hg]
     have S:=AA (show po=false by rw[bk.out,decide_eq_false (λh=>hg (eg.1 h)),Bool.false_and]);clear hg eg bk;go_wp2_with fail;go_ret;exact⟨AI S.out.symm,cJ.out⟩
   .have S:=AA (show po=false by rw[PO.out];simp[et])
    have t1:(tw==en_)=false:=by simp[et]
    clear PO et;go_wp2_with fail;go_ret;exact⟨AI S.out.symm,cJ.out⟩
  rw[if_neg e1] at PO;have t1:(pw==1)=false:=by simp[e1]
  by_cases e2:pw=2
  .subst e2
   rw[if_pos rfl] at PO;clear t0 t1 e0 e1 x1;have CG:=AA (Tj _ P.swap pa _ (HS.out.below er.out) hh.s);go_wp2_with fail;refine CG.out.mono ?_;rintro r w3 ⟨⟨v',rfl⟩,b3⟩;have cJ:=AA (HB.out.trans (b3.mono HB.out.size));have bk:=AA (show po=(Be pa 0 15&&!(AH P.swap pa.toNat).isEmpty&&!pu&&decide (tw=0)) from PO.out);generalize(Be pa 0 15&&!(AH P.swap pa.toNat).isEmpty)=bb at bk ⊢;replace p2:=(b3.cell (yA _ _ p2)).trans p2;clear PO CG b3 x4 p0 p1;cases bb
   .have S:=AA (show po=false by rw[bk.out];rfl)
    go_wp2_with fail;go_ret;exact⟨AI S.out.symm,cJ.out⟩
   .cases pu
    .have S:=AA (show po=(tw==0) by rw[bk.out];simp;by_cases h3:tw=0<;>simp[h3])
     go_wp2_with fail;go_ret;exact⟨AI S.out.symm,cJ.out⟩
    .have S:=AA (show po=false by rw[bk.out];rfl)
     go_wp2_with fail;go_ret;exact⟨AI S.out.symm,cJ.out⟩
  .have t2:(pw==2)=false:=by simp[e2]
   have S:=AA (show po=false by rw[PO.out,if_neg e2]);clear PO x1 x4 e0 e1 e2;go_wp2_with fail;go_ret;exact⟨AI S.out.symm,HB.out⟩
theorem Qv(mv iv ev cv sv lv qv:Value)(P:AR)(w:World)(h:Kx w mv iv ev cv sv lv qv P)(hk:Cl P.zV=true):
 Calls prog 39 #[AO mv iv ev cv sv lv qv P.zR P.zU] w λr w'=>r=.returned (.bool (Bt P))/\Below w.heap.size w w':=by
 unfold AO;have N0:=yv w (.cells #[mv,iv,ev,cv,sv,lv,qv,.int .i64 P.zR,.int .i64 P.zU] 32);have b0:=AE w (.cells #[mv,iv,ev,cv,sv,lv,qv,.int .i64 P.zR,.int .i64 P.zU] 32);have h0:=h.below b0;have hK:DJ P.zV:=EZ.1 hk;have f2:=zA hK (show 0<3 by omega);have dG:=(Az.1 (At hK).2.1).1;have dY:=(Ai.1 (At hK).1).1;have gj:=hK.zN;obtain⟨ae,ce,rfl,_,_,HE⟩:=h0.1.2.2.1.open;obtain⟨be,oe,ua,uc,rfl,_,_,D1,_⟩:=HE 0 (by omega);have e0:oe+0*2+1=oe+1:=by omega
 rw[e0] at D1;obtain⟨ai,ci,rfl,_,_,a9⟩:=BD.open Ay (by decide) h0.1.2.1;obtain⟨am,cm,rfl,_,_,fg⟩:=h0.1.1.open;obtain⟨al,cl,rfl,_,_,fh⟩:=h0.2.2.1.open;obtain⟨x0,x1,x2,x3,x4,x5,x6,x7,x8⟩:=AD N0;have im:(0:Int)<P.zV.zX.length:=by omega
 have TO:=AA (show Bt P=(decide (0<=AZ P.zV 0)&&decide (P.low.length=4)&&Fm P.zV.zZ (AZ P.zV 0).toNat&&(yC 4).all (Fa P)) from rfl);have eK:AZ P.zV 0=(AJ P.zV.zX 0).root:=rfl;rw[<-eK] at D1 f2;generalize hrr:AZ P.zV 0=root at*;have gH:=AA hrr;have HM:=AA fg;have HI:=AA a9;have HL:=AA fh;have HK:=AA hK;have cU:=AA dG;have gK:=AA dY;clear h h0 hk eK hrr fg a9 fh HE hK gj dG dY;have HN:=AA N0;have ad:=AA b0;clear N0 b0
 by_cases hr:root<0
 .have S:=AA (show Bt P=false by rw[TO.out,decide_eq_false (by omega)];rfl)
  clear TO;go_in;go_wp2_with fail;go_ret;exact⟨AI S.out.symm,ad.out⟩
 obtain⟨rn,rfl⟩:∃x:Nat,root=(x:Int):=⟨root.toNat,by omega⟩
 have f4:rn<12:=by omega
 have f3:(rn:Int)<12:=by omega
 have hZ:(rn:Int)<P.zV.mem.length:=by have:=gK.out;omega
 have ib:(rn:Int)<P.zV.zZ.length:=by have:=cU.out;omega
 rcases wu (P.low.length=4) with hll|hll
 rotate_left
 .have S:=AA (show Bt P=false by rw[TO.out,decide_eq_false hll];simp)
  have t1:((P.low.length:Int) !=4)=true:=by simp;omega
  clear TO hll;go_in;go_wp2_with fail;go_ret;exact⟨AI S.out.symm,ad.out⟩
 have t1:((P.low.length:Int) !=4)=false:=by simp;omega
 have fb:=AA hll;obtain⟨bi,oi,rfl,gu,_,F1,F2⟩:=HI.out.zP (k:=rn) (by have:=cU.out;omega);have cN:=AA (show Bt P=(decide ((zS P.zV.zZ rn).g=gA)&&decide ((zS P.zV.zZ rn).r=1)&&(yC 4).all (Fa P)) by rw[TO.out,decide_eq_true hll,decide_eq_true (by omega:(0:Int)<=(rn:Int)),yb];simp[Fm])
 clear TO hll;generalize zS P.zV.zZ rn=x at F1 F2 cN;obtain⟨xk,xg,xr⟩:=x;dsimp only at F1 F2 cN;have eg:xg=gA↔xg.toList=[97]:=⟨λh=>by subst h;rw[xz];rfl,λh=>by rw[xz] at h;cases xg with|mk d=>cases d with|mk l=>simp at h;subst h;rfl⟩
 rcases wu (xg.toList=[97]) with hg|hg
 rotate_left
 .have t2:(xg.toList==[97])=false:=by simp[hg]
  have S:=AA (show Bt P=false by rw[cN.out,decide_eq_false (λh=>hg (eg.1 h))];rfl);clear cN hg eg;go_in;go_wp2_with fail;go_ret;exact⟨AI S.out.symm,ad.out⟩
 have t2:(xg.toList==[97])=true:=by simp[hg]
 rcases wu (xr=1) with hr1|hr1
 rotate_left
 .have t3:(xr !=1)=true:=by simp[hr1]
  have S:=AA (show Bt P=false by rw[cN.out,decide_eq_false hr1];simp);clear cN hg eg hr1;go_in;go_wp2_with fail;go_ret;exact⟨AI S.out.symm,ad.out⟩
 have t3:(xr !=1)=false:=by simp[hr1]
 have dt:=AA (show Bt P=(yC 4).all (Fa P) by rw[cN.out,decide_eq_true (eg.2 hg),decide_eq_true hr1];rfl);clear cN hg eg hr1;go_in;go_wp2_with fail;generalize w.alloc _=W0 at*;clear x0 x1 x2 x3 x4 x5 x6 x7 x8 D1 F1 F2 t1 t2 t3;go_loopw [4,5] (λix _ wr=>∃k:Nat,k<=4/\ix=.int .i64 k/\(∀j,j<k->Fa P j=true)/\Below W0.heap.size W0 wr) (λix _ _=>4 - (intOf ix).toNat)
 case atStart=>exact⟨0,yh _,rfl,λj hj=>absurd hj (xP _),yD _ _⟩
 case round=>
  obtain⟨k,hk,rfl,ao,hb⟩:=hrel;have av:=AA ao;clear ao
  by_cases ax:k<4
  .have dh:(k:Int)<4:=by omega
   have dZ:(k:Int)<P.low.length:=by have:=fb.out;omega
   obtain⟨x0,x1,_,_,_,x5,_,_,_⟩:=AD (AC HN.out hb);have az:=AW (AC HN.out hb);obtain⟨bl,ol,rfl,DL⟩:=(HL.out.below hb).at (k:=k) (by have:=fb.out;omega);obtain⟨bm,om,br,cg,cr,rfl,d9,ez,d7,gl,cZ⟩:=HM.out.row4 (At HK.out).1 f4;have DM:=(hb.cell (yA _ _ ez)).trans ez;have DW:=(hb.cell (yA _ _ (cZ k ax))).trans (cZ k ax);have cF:=yA _ _ DM;have cC:=yA _ _ DW;have LO:=AA (show Fa P k=(Be (BJ P.low k) 0 11&&decide (Ar P.zV.mem (AZ P.zV 0).toNat k=Hh (BJ P.low k))&&Fm P.zV.zZ (BJ P.low k).toNat) from rfl);rw[gH.out,yb] at LO;rw[show nth P.low k=BJ P.low k from rfl] at DL;generalize BJ P.low k=fv at DL LO;generalize Ar P.zV.mem rn k=tw at DW LO;clear ez cZ d9 d7;have c9:=λW (hW:Below wr.heap.size wr W)=>BK (D6 fv W)
   cases co:Be fv 0 11
   .rw[co] at c9 LO
    have CF:=AA c9;have bu:Fa P k=false:=by rw[LO.out];rfl
    clear c9 LO co;have S:=AA (dt.out.trans (GJ ax bu));go_wp2_with fail;refine AY 36 86 [.i fv,.b false,.b true,.b true,.u,.u,.u,.u,.u,.u,.u,.u,.u,.u,.u,.u,.b true,.b true,.u,.u,.u,.u,.u,.u,.u,.u,.b true,.b true,.u,.u,.u,.u,.u,.u,.u,.u] (λ_ _ _=>True) ?_ ?_
    .intro i hi o ho a wx Hb Hd hG K HK
     match i,hi with
     |0,_|2,_|3,_|16,_|17,_|26,_|27,_=>exact sP ho HK Hb Hd
     |1,_=>exact sD ho HK Hb Hd (CF.out _ hG)
     |4,_|5,_|6,_|7,_|8,_|9,_|10,_|11,_|12,_|13,_|14,_|15,_|18,_|19,_|20,_|21,_|22,_|23,_|24,_|25,_|28,_|29,_|30,_|31,_|32,_|33,_|34,_|35,_=>exact sB ho HK Hd
     |_+36,hq=>omega
    .intro vs wx hR hG
     have bz:(vs 27)=.bool true:=BW hR 27;clear hR;simp only[Aj,Ae,yC,yz,yy,yw,bz];simp;clear bz;have bw:=hb.trans (hG.mono hb.size);clear hG x0 x1 DM DW;go_wp2_with fail;go_ret;exact⟨AI S.out.symm,ad.out.trans (bw.mono ad.out.size)⟩
   have ab:=Ab.1 co;obtain⟨fr,rfl⟩:∃x:Nat,fv=(x:Int):=⟨fv.toNat,by omega⟩
   have gh:fr<12:=by omega
   have gg:(fr:Int)<12:=by omega
   have gi:(fr:Int)<P.zV.zZ.length:=by have:=cU.out;omega
   rw[co] at c9 LO;have CF:=AA c9;have eB:=λW (hW:Below wr.heap.size wr W)=>Lp (fr:Int) W (by omega) (by omega)
   rw[yb,vT] at LO;generalize Hh (fr:Int)=en_ at LO eB;have CP:=AA eB;obtain⟨iA,gZ,e9,dn,_,F1,F2⟩:=(HI.out.below hb).zP (k:=fr) (by have:=cU.out;omega);cases e9;have cR:=yA _ _ F1;have cb:Fa P k=(decide (tw=en_)&&(decide ((zS P.zV.zZ fr).g=gA)&&decide ((zS P.zV.zZ fr).r=1))):=LO.out;clear c9 eB LO co ab dn;generalize zS P.zV.zZ fr=x at F1 F2 cb;obtain⟨gU,xg,xr⟩:=x;dsimp only at F1 F2 cb
   rcases wu (tw=en_) with et|et
   rotate_left
   .have t1:(tw !=en_)=true:=by simp[et]
    have bu:Fa P k=false:=by rw[cb,decide_eq_false et];rfl
    clear cb et;have S:=AA (dt.out.trans (GJ ax bu));go_wp2_with fail;refine AY 36 86 [.i ((fr:Int)),.b true,.b false,.b false,.p w.heap.size 0,.p w.heap.size 0,.v (.slice (some ⟨bm,om,none⟩) P.zV.mem.length cm),.i ((rn:Int)),.p bm (om+rn),.v (.slice (some ⟨br,cg,none⟩) 4 cr),.i ((k:Int)),.p br (cg+k),.i tw,.i ((fr:Int)),.i en_,.b true,.b true,.b true,.u,.u,.u,.u,.u,.u,.u,.u,.b true,.b true,.u,.u,.u,.u,.u,.u,.u,.u] (λ_ _ _=>True) ?_ ?_
    .intro i hi o ho a wx Hb Hd hG K HK
     match i,hi with
     |0,_|2,_|3,_|4,_|5,_|7,_|10,_|13,_|16,_|17,_|26,_|27,_=>exact sP ho HK Hb Hd
     |1,_=>exact sD ho HK Hb Hd (CF.out _ hG)
     |6,_=>exact sL ho HK Hb Hd (hl:=GT (bc hG az x0))
     |8,_|11,_=>exact sI ho HK Hb Hd (hr:=by clear Hd Hb HK;go_simp)
     |9,_=>exact sL ho HK Hb Hd (hl:=J5 (bc hG cF DM))
     |12,_=>exact sL ho HK Hb Hd (hl:=Fp (bc hG cC DW))
     |14,_=>exact sD ho HK Hb Hd (CP.out _ hG)
     |18,_|19,_|20,_|21,_|22,_|23,_|24,_|25,_|28,_|29,_|30,_|31,_|32,_|33,_|34,_|35,_=>exact sB ho HK Hd
     |15,_=>obtain rfl:=yF ho;have dH:(a.tmps[61]?.getD undef)=.int .i64 tw:=BM Hd 12;have ef:(a.tmps[63]?.getD undef)=.int .i64 en_:=BM Hd 14;have d3:(a.tmps[52]?.getD undef)=.bool false:=BM Hd 3;clear Hd Hb;refine AV.yes rfl rfl d3 ?_;go_simp;exact HK.out _ _ rfl (yD _ _)
     |_+36,hq=>omega
    .intro vs wx hR hG
     have bz:(vs 27)=.bool true:=BW hR 27;clear hR;simp only[Aj,Ae,yC,yz,yy,yw,bz];simp;clear bz;have bw:=hb.trans (hG.mono hb.size);clear hG x0 x1 DM DW;go_wp2_with fail;go_ret;exact⟨AI S.out.symm,ad.out.trans (bw.mono ad.out.size)⟩
   have t1:(tw !=en_)=false:=by simp[et]
   rw[decide_eq_true et,vT] at cb;have eg:xg=gA↔xg.toList=[97]:=⟨λh=>by subst h;rw[xz];rfl,λh=>by rw[xz] at h;cases xg with|mk d=>cases d with|mk l=>simp at h;subst h;rfl⟩;clear et
   rcases wu (xg.toList=[97]) with hg|hg
   rotate_left
   .have t2:(xg.toList==[97])=false:=by simp[hg]
    have bu:Fa P k=false:=by rw[cb,decide_eq_false (λh=>hg (eg.1 h))];rfl
    clear cb hg eg;have S:=AA (dt.out.trans (GJ ax bu));go_wp2_with fail;refine AY 36 86 [.i ((fr:Int)),.b true,.b false,.b false,.p w.heap.size 0,.p w.heap.size 0,.v (.slice (some ⟨bm,om,none⟩) P.zV.mem.length cm),.i ((rn:Int)),.p bm (om+rn),.v (.slice (some ⟨br,cg,none⟩) 4 cr),.i ((k:Int)),.p br (cg+k),.i tw,.i ((fr:Int)),.i en_,.b false,.b false,.b false,.p w.heap.size 0,.p w.heap.size 1,.v (.slice (some ⟨bi,oi,none⟩) P.zV.zZ.length ci),.i ((fr:Int)),.p bi (oi+fr*3),.p bi (oi+fr*3+1),.t xg,.b true,.b true,.b true,.u,.u,.u,.u,.u,.u,.u,.u] (λ_ _ _=>True) ?_ ?_
    .intro i hi o ho a wx Hb Hd hG K HK
     match i,hi with
     |0,_|2,_|3,_|4,_|5,_|7,_|10,_|13,_|16,_|17,_|18,_|19,_|21,_|23,_|26,_|27,_=>exact sP ho HK Hb Hd
     |1,_=>exact sD ho HK Hb Hd (CF.out _ hG)
     |6,_=>exact sL ho HK Hb Hd (hl:=GT (bc hG az x0))
     |8,_|11,_|22,_=>exact sI ho HK Hb Hd (hr:=by clear Hd Hb HK;go_simp)
     |9,_=>exact sL ho HK Hb Hd (hl:=J5 (bc hG cF DM))
     |12,_=>exact sL ho HK Hb Hd (hl:=Fp (bc hG cC DW))
     |14,_=>exact sD ho HK Hb Hd (CP.out _ hG)
     |20,_=>exact sL ho HK Hb Hd (hl:=F8 (bc hG az x1))
     |24,_=>exact sL ho HK Hb Hd (hl:=Yu (bc hG cR F1))
     |28,_|29,_|30,_|31,_|32,_|33,_|34,_|35,_=>exact sB ho HK Hd
     |15,_=>obtain rfl:=yF ho;have dH:(a.tmps[61]?.getD undef)=.int .i64 tw:=BM Hd 12;have ef:(a.tmps[63]?.getD undef)=.int .i64 en_:=BM Hd 14;have d3:(a.tmps[52]?.getD undef)=.bool false:=BM Hd 3;clear Hd Hb;refine AV.yes rfl rfl d3 ?_;go_simp;exact HK.out _ _ rfl (yD _ _)
     |25,_=>obtain rfl:=yF ho;have eW:(a.tmps[73]?.getD undef)=.string xg:=BM Hd 24;have dp:(a.tmps[66]?.getD undef)=.bool false:=BM Hd 17;clear Hd Hb;refine AV.yes rfl rfl dp ?_;go_simp;exact HK.out _ _ rfl (yD _ _)
     |_+36,hq=>omega
    .intro vs wx hR hG
     have bz:(vs 27)=.bool true:=BW hR 27;clear hR;simp only[Aj,Ae,yC,yz,yy,yw,bz];simp;clear bz;have bw:=hb.trans (hG.mono hb.size);clear hG x0 x1 DM DW;go_wp2_with fail;go_ret;exact⟨AI S.out.symm,ad.out.trans (bw.mono ad.out.size)⟩
   have t2:(xg.toList==[97])=true:=by simp[hg]
   rw[decide_eq_true (eg.2 hg),vT] at cb;clear hg eg
   rcases wu (xr=1) with hr1|hr1
   rotate_left
   .have t3:(xr !=1)=true:=by simp[hr1]
    have bu:Fa P k=false:=by rw[cb,decide_eq_false hr1]
    clear cb hr1;have S:=AA (dt.out.trans (GJ ax bu));go_wp2_with fail;refine AY 36 86 [.i ((fr:Int)),.b true,.b false,.b false,.p w.heap.size 0,.p w.heap.size 0,.v (.slice (some ⟨bm,om,none⟩) P.zV.mem.length cm),.i ((rn:Int)),.p bm (om+rn),.v (.slice (some ⟨br,cg,none⟩) 4 cr),.i ((k:Int)),.p br (cg+k),.i tw,.i ((fr:Int)),.i en_,.b false,.b false,.b false,.p w.heap.size 0,.p w.heap.size 1,.v (.slice (some ⟨bi,oi,none⟩) P.zV.zZ.length ci),.i ((fr:Int)),.p bi (oi+fr*3),.p bi (oi+fr*3+1),.t xg,.b false,.b false,.b false,.p w.heap.size 0,.p w.heap.size 1,.v (.slice (some ⟨bi,oi,none⟩) P.zV.zZ.length ci),.i ((fr:Int)),.p bi (oi+fr*3),.p bi (oi+fr*3+2),.i xr,.b true] (λ_ _ _=>True) ?_ ?_
    .intro i hi o ho a wx Hb Hd hG K HK
     have cj:=bc hG az x0;have bp:=bc hG cF DM;have bC:=bc hG cC DW;have bn:=bc hG az x1;have bA:=bc hG cR F1;have cx:=bc hG cR F2
     match i,hi with
     |0,_|2,_|3,_|4,_|5,_|7,_|10,_|13,_|16,_|17,_|18,_|19,_|21,_|23,_|26,_|27,_|28,_|29,_|31,_|33,_=>exact sP ho HK Hb Hd
     |1,_=>exact sD ho HK Hb Hd (CF.out _ hG)
     |6,_=>exact sL ho HK Hb Hd (hl:=GT ‹_›)
     |8,_|11,_|22,_|32,_=>exact sI ho HK Hb Hd (hr:=by clear Hd Hb HK;go_simp)
     |9,_=>exact sL ho HK Hb Hd (hl:=J5 ‹_›)
     |12,_|34,_=>exact sL ho HK Hb Hd (hl:=Fp ‹_›)
     |14,_=>exact sD ho HK Hb Hd (CP.out _ hG)
     |20,_|30,_=>exact sL ho HK Hb Hd (hl:=F8 ‹_›)
     |24,_=>exact sL ho HK Hb Hd (hl:=Yu ‹_›)
     |15,_=>clear cj bp bC bn bA cx;obtain rfl:=yF ho;have dH:(a.tmps[61]?.getD undef)=.int .i64 tw:=BM Hd 12;have ef:(a.tmps[63]?.getD undef)=.int .i64 en_:=BM Hd 14;have d3:(a.tmps[52]?.getD undef)=.bool false:=BM Hd 3;clear Hd Hb;refine AV.yes rfl rfl d3 ?_;go_simp;exact HK.out _ _ rfl (yD _ _)
     |25,_=>clear cj bp bC bn bA cx;obtain rfl:=yF ho;have eW:(a.tmps[73]?.getD undef)=.string xg:=BM Hd 24;have dp:(a.tmps[66]?.getD undef)=.bool false:=BM Hd 17;clear Hd Hb;refine AV.yes rfl rfl dp ?_;go_simp;exact HK.out _ _ rfl (yD _ _)
     |35,_=>clear cj bp bC bn bA cx;obtain rfl:=yF ho;have gF:(a.tmps[83]?.getD undef)=.int .i64 xr:=BM Hd 34;have ee:(a.tmps[76]?.getD undef)=.bool false:=BM Hd 27;clear Hd Hb;refine AV.yes rfl rfl ee ?_;go_simp;exact HK.out _ _ rfl (yD _ _)
     |_+36,hq=>omega
    .intro vs wx hR hG
     have bz:(vs 27)=.bool false:=BW hR 27;have da:(vs 35)=.bool true:=BW hR 35;clear hR;simp only[Aj,Ae,yC,yz,yy,yw,bz,da];simp;clear bz da;have bw:=hb.trans (hG.mono hb.size);clear hG x0 x1 DM DW;go_wp2_with fail;go_ret;exact⟨AI S.out.symm,ad.out.trans (bw.mono ad.out.size)⟩
   have t3:(xr !=1)=false:=by simp[hr1]
   have dD:Fa P k=true:=by rw[cb,decide_eq_true hr1]
   clear cb hr1;have S:=AA (dD);go_wp2_with fail;refine AY 36 86 [.i ((fr:Int)),.b true,.b false,.b false,.p w.heap.size 0,.p w.heap.size 0,.v (.slice (some ⟨bm,om,none⟩) P.zV.mem.length cm),.i ((rn:Int)),.p bm (om+rn),.v (.slice (some ⟨br,cg,none⟩) 4 cr),.i ((k:Int)),.p br (cg+k),.i tw,.i ((fr:Int)),.i en_,.b false,.b false,.b false,.p w.heap.size 0,.p w.heap.size 1,.v (.slice (some ⟨bi,oi,none⟩) P.zV.zZ.length ci),.i ((fr:Int)),.p bi (oi+fr*3),.p bi (oi+fr*3+1),.t xg,.b false,.b false,.b false,.p w.heap.size 0,.p w.heap.size 1,.v (.slice (some ⟨bi,oi,none⟩) P.zV.zZ.length ci),.i ((fr:Int)),.p bi (oi+fr*3),.p bi (oi+fr*3+2),.i xr,.b false] (λ_ _ _=>True) ?_ ?_
   .intro i hi o ho a wx Hb Hd hG K HK
    have cj:=bc hG az x0;have bp:=bc hG cF DM;have bC:=bc hG cC DW;have bn:=bc hG az x1;have bA:=bc hG cR F1;have cx:=bc hG cR F2
    match i,hi with
    |0,_|2,_|3,_|4,_|5,_|7,_|10,_|13,_|16,_|17,_|18,_|19,_|21,_|23,_|26,_|27,_|28,_|29,_|31,_|33,_=>exact sP ho HK Hb Hd
    |1,_=>exact sD ho HK Hb Hd (CF.out _ hG)
    |6,_=>exact sL ho HK Hb Hd (hl:=GT ‹_›)
    |8,_|11,_|22,_|32,_=>exact sI ho HK Hb Hd (hr:=by clear Hd Hb HK;go_simp)
    |9,_=>exact sL ho HK Hb Hd (hl:=J5 ‹_›)
    |12,_|34,_=>exact sL ho HK Hb Hd (hl:=Fp ‹_›)
    |14,_=>exact sD ho HK Hb Hd (CP.out _ hG)
    |20,_|30,_=>exact sL ho HK Hb Hd (hl:=F8 ‹_›)
    |24,_=>exact sL ho HK Hb Hd (hl:=Yu ‹_›)
    |15,_=>clear cj bp bC bn bA cx;obtain rfl:=yF ho;have dH:(a.tmps[61]?.getD undef)=.int .i64 tw:=BM Hd 12;have ef:(a.tmps[63]?.getD undef)=.int .i64 en_:=BM Hd 14;have d3:(a.tmps[52]?.getD undef)=.bool false:=BM Hd 3;clear Hd Hb;refine AV.yes rfl rfl d3 ?_;go_simp;exact HK.out _ _ rfl (yD _ _)
    |25,_=>clear cj bp bC bn bA cx;obtain rfl:=yF ho;have eW:(a.tmps[73]?.getD undef)=.string xg:=BM Hd 24;have dp:(a.tmps[66]?.getD undef)=.bool false:=BM Hd 17;clear Hd Hb;refine AV.yes rfl rfl dp ?_;go_simp;exact HK.out _ _ rfl (yD _ _)
    |35,_=>clear cj bp bC bn bA cx;obtain rfl:=yF ho;have gF:(a.tmps[83]?.getD undef)=.int .i64 xr:=BM Hd 34;have ee:(a.tmps[76]?.getD undef)=.bool false:=BM Hd 27;clear Hd Hb;refine AV.yes rfl rfl ee ?_;go_simp;exact HK.out _ _ rfl (yD _ _)
    |_+36,hq=>omega
   .intro vs wx hR hG
    have bz:(vs 27)=.bool false:=BW hR 27;have da:(vs 35)=.bool false:=BW hR 35;clear hR;simp only[Aj,Ae,yC,yz,yy,yw,bz,da];simp;clear bz da;have bw:=hb.trans (hG.mono hb.size);clear hG x0 x1 DM DW;go_wp2_with fail;go_roundw
    case rel=>exact⟨k+1,by omega,by go_num,Ak av.out S.out,bw⟩
    case measure=>simp[intOf];omega
  .have ek:k=4:=by omega
   have ao:=av.out;rw[ek] at ao;have S:=AA (dt.out.trans (yd.2 λj hj=>ao j (xU.1 hj)));have dh:¬(k:Int)<4:=by omega
   clear av ao;go_wp2_with fail;go_ret;exact⟨AI S.out.symm,ad.out.trans (hb.mono ad.out.size)⟩
theorem Tq{l:List Bk}{k s:Nat}(hk:k<l.length):Bz (l.take (k+1)) s=Bz (l.take k) s+(if(AB l k).w=2/\(AB l k).a=(s:Int) then 1 else 0):=by
 unfold Bz;rw[Cx (x:=AB l k) (A1 hk),List.countP_append]
 congr 1
 simp only[List.countP_cons,List.countP_nil,Cu,Bool.and_eq_true,decide_eq_true_eq,Nat.zero_add]
theorem WO{l:List Bk}{s:Nat}:Bz l s<=l.length:=by unfold Bz;exact List.countP_le_length
theorem TM(mv iv ev cv sv lv qv:Value)(P:AR)(w:World)(h:Kx w mv iv ev cv sv lv qv P)(db:P.swap.length=16)(cL:P.zY.length<=1048576):
 Calls prog 40 #[AO mv iv ev cv sv lv qv P.zR P.zU] w λr w'=>r=.returned (.bool ((yC 16).all (Do P)))/\Below w.heap.size w w':=by
 unfold AO;obtain⟨res,hres⟩:∃res,res=(yC 16).all (Do P):=⟨_,rfl⟩
 rw[<-hres];have du:=AA hres;clear hres;have N0:=yv w (.cells #[mv,iv,ev,cv,sv,lv,qv,.int .i64 P.zR,.int .i64 P.zU] 32);have b0:=AE w (.cells #[mv,iv,ev,cv,sv,lv,qv,.int .i64 P.zR,.int .i64 P.zU] 32);have h0:=h.below b0;obtain⟨aq,cq,rfl,_,_,fe⟩:=BD.open DT (by decide) h0.2.2.2;obtain⟨eY,eX,rfl,_,_,dy⟩:=h0.2.1.open;obtain⟨_,_,_,_,x4,_,x6,_,_⟩:=AD N0;have ej:=AA db;clear h db N0 h0;go_in;go_wp2_with fail;generalize w.alloc _=W0 at*;have HQ:=AA fe;have HS:=AA dy;have ad:=AA b0;clear fe dy b0;go_loopw [3,4,5] (λix _ _ wr=>∃i0:Nat,i0<=16/\ix=.int .i64 i0/\(∀j,j<i0->Do P j=true)/\W0=wr) (λix _ _ _=>16 - (intOf ix).toNat)
 case atStart=>exact⟨0,yh _,rfl,λj hj=>absurd hj (xP _),rfl⟩
 case round=>
  obtain⟨i0,hi,rfl,ao,rfl⟩:=hrel;have av:=AA ao;clear ao
  by_cases ax:i0<16
  .have dG:(i0:Int)<P.swap.length:=by have:=ej.out;omega
   go_wp2_with fail;go_loopw [4,5] (λs4 s5 wi=>∃k:Nat,k<=P.zY.length/\s5=.int .i64 k/\s4=.int .i64 (Bz (P.zY.take k) i0:Nat)/\W0=wi) (λ_ s5 _=>P.zY.length - (intOf s5).toNat)
   case atStart=>exact⟨0,yh _,rfl,rfl,rfl⟩
   case round=>
    obtain⟨k,hk,rfl,rfl,rfl⟩:=hrel
    by_cases dZ:k<P.zY.length
    .have dh:(k:Int)<P.zY.length:=by omega
     obtain⟨b,ch,rfl,_,D0,D1,_⟩:=HQ.out.zq dZ;have S:=Tq (s:=i0) dZ;have gs:=WO (l:=P.zY.take k) (s:=i0);rw[List.length_take] at gs
     by_cases hw:(AB P.zY k).w=2
     .have t0:((AB P.zY k).w==2)=true:=by simp[hw]
      by_cases ha:(AB P.zY k).a=(i0:Int)
      .have t1:((AB P.zY k).a==(i0:Int))=true:=by simp[ha]
       rw[if_pos ⟨hw,ha⟩] at S;have S:=AA S;generalize Bz (P.zY.take k) i0=n0 at*;clear hw ha;go_wp2_with fail;go_roundw
       case rel=>exact⟨k+1,by omega,by go_num,by rw[S.out];go_num,by first|rfl|trivial⟩
       case measure=>simp[intOf];omega
      .have t1:((AB P.zY k).a==(i0:Int))=false:=by simp[ha]
       rw[if_neg (λh=>ha h.2)] at S;have S:=AA S;clear hw ha;go_wp2_with fail;go_roundw
       case rel=>exact⟨k+1,by omega,by go_num,by rw[S.out,Nat.add_zero],by first|rfl|trivial⟩
       case measure=>simp[intOf];omega
     .have t0:((AB P.zY k).w==2)=false:=by simp[hw]
      rw[if_neg (λh=>hw h.1)] at S;have S:=AA S;clear hw;go_wp2_with fail;go_roundw
      case rel=>exact⟨k+1,by omega,by go_num,by rw[S.out,Nat.add_zero],by first|rfl|trivial⟩
      case measure=>simp[intOf];omega
    .obtain rfl:k=P.zY.length:=by omega
     have dh:¬(P.zY.length:Int)<P.zY.length:=by omega
     rw[List.take_length];obtain⟨b,ch,u,rfl,dm,D,hr⟩:=HS.out i0 (by have:=ej.out;omega);obtain⟨au,cu,rfl,_,_,_⟩:=hr.open;have SO:Do P i0=decide (Bz P.zY i0=if(AH P.swap i0).isEmpty then 0 else 1):=rfl;have EM:(AH P.swap i0).isEmpty=true↔(AH P.swap i0).length=0:=by cases AH P.swap i0<;>simp
     have cV:=AA (λ(hx:Do P i0=false)=>(du.out.trans (GJ ax hx):res=false));generalize Bz P.zY i0=n0 at SO ⊢;have ga:(0:Int)<=((AH P.swap i0).length:Int):=by omega
     by_cases h1:1<n0
     .have t1:(1:Int)<(n0:Int):=by omega
      have S:=AA (cV.out (by rw[SO];split<;>simp<;>omega));clear SO EM hr;go_wp2_with fail;go_ret;exact⟨AI S.out.symm,ad.out⟩
     .have t1:¬(1:Int)<(n0:Int):=by omega
      by_cases he:(AH P.swap i0).length=0
      .have t2:¬(0:Int)<((AH P.swap i0).length:Int):=by omega
       have fm:decide (0<(AH P.swap i0).length)=false:=decide_eq_false (by omega);rw[if_pos (EM.2 he)] at SO
       by_cases hn:n0=0
       .have t3:((n0:Int)==1)=false:=beq_eq_false_iff_ne.2 (by omega)
        have S:=AA (show Do P i0=true by rw[SO];simp[hn]);clear SO EM hr hn he;go_wp2_with fail;go_roundw
        case rel=>exact⟨i0+1,by omega,by go_num,Ak av.out S.out,by first|rfl|trivial⟩
        case measure=>simp[intOf];omega
       .have t3:((n0:Int)==1)=true:=beq_iff_eq.2 (by omega)
        have S:=AA (cV.out (by rw[SO];simp[hn]));clear SO EM hr hn he;go_wp2_with fail;go_ret;exact⟨AI S.out.symm,ad.out⟩
      .have t2:(0:Int)<((AH P.swap i0).length:Int):=by omega
       have fm:decide (0<(AH P.swap i0).length)=true:=decide_eq_true (by omega);rw[if_neg (λh=>he (EM.1 h))] at SO
       by_cases hn:n0=1
       .have t3:((n0:Int)==1)=true:=beq_iff_eq.2 (by omega)
        have S:=AA (show Do P i0=true by rw[SO];simp[hn]);clear SO EM hr hn he;go_wp2_with fail;go_roundw
        case rel=>exact⟨i0+1,by omega,by go_num,Ak av.out S.out,by first|rfl|trivial⟩
        case measure=>simp[intOf];omega
       .have t3:((n0:Int)==1)=false:=beq_eq_false_iff_ne.2 (by omega)
        have S:=AA (cV.out (by rw[SO];simp[hn]));clear SO EM hr hn he;go_wp2_with fail;go_ret;exact⟨AI S.out.symm,ad.out⟩
  .have ek:i0=16:=by omega
   have ao:=av.out;rw[ek] at ao;have S:=AA (show res=true from du.out.trans (yd.2 λj hj=>ao j (xU.1 hj)));have dG:¬(i0:Int)<P.swap.length:=by have:=ej.out;omega
   clear av ao;go_wp2_with fail;go_ret;exact⟨AI S.out.symm,ad.out⟩
theorem Fn(mv iv ev cv sv lv qv:Value)(P:AR)(w:World)(h:Kx w mv iv ev cv sv lv qv P)(hs:EW P.zV):
 Calls prog 14 #[AO mv iv ev cv sv lv qv P.zR P.zU] w λr w'=>r=.returned (.bool (Bg P))/\Below w.heap.size w w':=by
 obtain⟨po,hpo⟩:∃po,po=Bg P:=⟨_,rfl⟩
 rw[<-hpo];have PO:=AA (show po=(Cl P.zV&&FE P.swap&&Gb P.zV&&Bt P&&decide (P.zY.length=16)&&(yC 16).all (Do P)&&(yC 16).all (GL P)&&Be P.zR 0 15&&Be P.zU 1 6&&decide ((Ac P.zY 1:Int)<=P.zU)) from hpo);clear hpo;unfold AO;have N0:=yv w (.cells #[mv,iv,ev,cv,sv,lv,qv,.int .i64 P.zR,.int .i64 P.zU] 32);have b0:=AE w (.cells #[mv,iv,ev,cv,sv,lv,qv,.int .i64 P.zR,.int .i64 P.zU] 32);have HR:=AA (h.below b0);have Hs:=AA hs;obtain⟨aq,cq,rfl,_,_⟩:=h.2.2.2.shape;obtain⟨x0,x1,x2,x3,x4,x5,x6,x7,x8⟩:=AD N0;clear h hs;go_in;go_wp2_with fail;generalize w.alloc _=W0 at*;have HN:=AA N0;have ad:=AA b0;have hb:Below W0.heap.size W0 W0:=yD _ _;clear N0 b0;cases e1:Cl P.zV
 .have S:=AA (show po=false by rw[PO.out];simp[e1])
  have C:=KD mv iv ev cv P.zV _ (HR.out.1.below hb) Hs.out;rw[e1] at C;clear e1;go_wp2_with fail;refine C.mono ?_;rintro r w_ ⟨rfl,ar⟩;clear x0 x1 x2 x3 x4 x5 x6 x7 x8;go_wp2_with fail;go_ret;exact⟨AI S.out.symm,ad.out.trans ((hb.trans (ar.mono hb.size)).mono ad.out.size)⟩
 have C:=KD mv iv ev cv P.zV _ (HR.out.1.below hb) Hs.out;rw[e1] at C;have T1:=AA e1;rw[e1] at PO;clear e1;go_wp2_with fail;refine C.mono ?_;rintro r w_ ⟨rfl,ar⟩;replace hb:=hb.trans (ar.mono hb.size);clear ar C x0 x1 x2 x3 x4 x5 x6 x7 x8;obtain⟨x0,x1,x2,x3,x4,x5,x6,x7,x8⟩:=AD (AC HN.out hb);cases e2:FE P.swap
 .have S:=AA (show po=false by rw[PO.out];simp[e2])
  have C:=Hz sv P.swap _ (HR.out.2.1.below hb);rw[e2] at C;clear e2;go_wp2_with fail;refine C.mono ?_;rintro r w_ ⟨rfl,ar⟩;clear x0 x1 x2 x3 x4 x5 x6 x7 x8;go_wp2_with fail;go_ret;exact⟨AI S.out.symm,ad.out.trans ((hb.trans (ar.mono hb.size)).mono ad.out.size)⟩
 have C:=Hz sv P.swap _ (HR.out.2.1.below hb);rw[e2] at C;have T2:=AA e2;rw[e2] at PO;clear e2;go_wp2_with fail;refine C.mono ?_;rintro r w_ ⟨rfl,ar⟩;replace hb:=hb.trans (ar.mono hb.size);clear ar C x0 x1 x2 x3 x4 x5 x6 x7 x8;obtain⟨x0,x1,x2,x3,x4,x5,x6,x7,x8⟩:=AD (AC HN.out hb);cases e3:Gb P.zV
 .have S:=AA (show po=false by rw[PO.out];simp[e3])
  have C:=Mp mv iv ev cv P.zV _ (HR.out.1.2.2.1.below hb) (EZ.1 T1.out).zN Hs.out.2;rw[e3] at C;clear e3;go_wp2_with fail;refine C.mono ?_;rintro r w_ ⟨rfl,ar⟩;clear x0 x1 x2 x3 x4 x5 x6 x7 x8;go_wp2_with fail;go_ret;exact⟨AI S.out.symm,ad.out.trans ((hb.trans (ar.mono hb.size)).mono ad.out.size)⟩
 have C:=Mp mv iv ev cv P.zV _ (HR.out.1.2.2.1.below hb) (EZ.1 T1.out).zN Hs.out.2;rw[e3] at C;have T3:=AA e3;rw[e3] at PO;clear e3;go_wp2_with fail;refine C.mono ?_;rintro r w_ ⟨rfl,ar⟩;replace hb:=hb.trans (ar.mono hb.size);clear ar C x0 x1 x2 x3 x4 x5 x6 x7 x8;obtain⟨x0,x1,x2,x3,x4,x5,x6,x7,x8⟩:=AD (AC HN.out hb);have TX:=AA (λW (hW:Below W0.heap.size W0 W)=>Qv mv iv ev cv sv lv _ P W (HR.out.below hW) T1.out);unfold AO at TX;cases e4:Bt P
 .have S:=AA (show po=false by rw[PO.out];simp[e4])
  have C:=TX.out _ hb;rw[e4] at C;clear e4;go_wp2_with fail;refine C.mono ?_;rintro r w_ ⟨rfl,ar⟩;clear x0 x1 x2 x3 x4 x5 x6 x7 x8;go_wp2_with fail;go_ret;exact⟨AI S.out.symm,ad.out.trans ((hb.trans (ar.mono hb.size)).mono ad.out.size)⟩
 have C:=TX.out _ hb;rw[e4] at C;have T4:=AA e4;rw[e4] at PO;clear e4;go_wp2_with fail;refine C.mono ?_;rintro r w_ ⟨rfl,ar⟩;replace hb:=hb.trans (ar.mono hb.size);clear ar C x0 x1 x2 x3 x4 x5 x6 x7 x8;obtain⟨x0,x1,x2,x3,x4,x5,x6,x7,x8⟩:=AD (AC HN.out hb);clear TX
 rcases wu (P.zY.length=16) with cL|cL
 rotate_left
 .have S:=AA (show po=false by rw[PO.out];simp[cL])
  have t5:((P.zY.length:Int) !=16)=true:=bne_iff_ne.2 (by omega);clear cL;go_wp2_with fail;go_ret;exact⟨AI S.out.symm,ad.out.trans (hb.mono ad.out.size)⟩
 have t5:((P.zY.length:Int) !=16)=false:=by rw[cL];rfl
 have dv:=AA cL;rw[decide_eq_true cL] at PO;clear cL;have SX:=AA (λW (hW:Below W0.heap.size W0 W)=>TM mv iv ev cv sv lv _ P W (HR.out.below hW) (GF.1 T2.out).1 (by have:=dv.out;omega));unfold AO at SX;obtain⟨sl,db⟩:∃sl,sl=(yC 16).all (Do P):=⟨_,rfl⟩
 rw[<-db] at SX PO;clear db;cases e6:sl
 .have S:=AA (show po=false by rw[PO.out];simp[e6])
  have C:=SX.out _ hb;rw[e6] at C;clear e6;go_wp2_with fail;refine C.mono ?_;rintro r w_ ⟨rfl,ar⟩;clear x0 x1 x2 x3 x4 x5 x6 x7 x8;go_wp2_with fail;go_ret;exact⟨AI S.out.symm,ad.out.trans ((hb.trans (ar.mono hb.size)).mono ad.out.size)⟩
 have C:=SX.out _ hb;rw[e6] at C;have T6:=AA e6;rw[e6] at PO;clear e6;go_wp2_with fail;refine C.mono ?_;rintro r w_ ⟨rfl,ar⟩;replace hb:=hb.trans (ar.mono hb.size);clear ar C x0 x1 x2 x3 x4 x5 x6 x7 x8;obtain⟨x0,x1,x2,x3,x4,x5,x6,x7,x8⟩:=AD (AC HN.out hb);clear SX t5;have de:=AA (QR T4.out);have HF:Hid (bM P):=AA ⟨T1.out,T2.out,de.out.1,de.out.2,dv.out⟩;have eA:=AA (λW (hW:Below W0.heap.size W0 W) n (hn:n<16)=>Uj mv iv ev cv sv lv _ P n W (HR.out.below hW) HF.out hn);unfold AO at eA;have cy:=AA hb;clear hb x0 x1 x2 x3 x4 x5 x6 x7 x8;go_wp2_with fail;go_loopw [3] (λs3 wr=>∃k:Nat,k<=16/\s3=.int .i64 k/\(∀j,j<k->GL P j=true)/\Below W0.heap.size W0 wr) (λs3 _=>16 - (intOf s3).toNat)
 case atStart=>exact⟨0,yh _,rfl,λj hj=>absurd hj (xP _),cy.out⟩
 case round=>
  obtain⟨k,hk,rfl,ao,hb⟩:=hrel;have av:=AA ao;clear ao;obtain⟨x0,x1,x2,x3,x4,x5,x6,x7,x8⟩:=AD (AC HN.out hb)
  by_cases ax:k<16
  .have dh:(k:Int)<P.zY.length:=by have:=dv.out;omega
   have C:=eA.out wr hb k ax;cases e1:GL P k
   .rw[e1] at C
    have S:=AA (show po=false by rw[PO.out,GJ ax e1];simp);clear e1;go_wp2_with fail;refine C.mono ?_;rintro r w_ ⟨rfl,ar⟩;go_wp2_with fail;go_ret;exact⟨AI S.out.symm,ad.out.trans ((hb.trans (ar.mono hb.size)).mono ad.out.size)⟩
   .rw[e1] at C
    have S:=AA e1;clear e1;go_wp2_with fail;refine C.mono ?_;rintro r w_ ⟨rfl,ar⟩;go_wp2_with fail;go_roundw
    case rel=>exact⟨k+1,by omega,by go_num,Ak av.out S.out,hb.trans (ar.mono hb.size)⟩
    case measure=>simp[intOf];omega
  .have ek:k=16:=by omega
   have ao:=av.out;rw[ek] at ao;have bk:=AA (show po=(Be P.zR 0 15&&Be P.zU 1 6&&decide ((Ac P.zY 1:Int)<=P.zU)) by
    rw[PO.out,show(yC 16).all (GL P)=true from yd.2 λj hj=>ao j (xU.1 hj)];simp)
   have dh:¬(k:Int)<P.zY.length:=by have:=dv.out;omega
   have ca:=AW (AC HN.out hb);have cY:=λW (hW:Below wr.heap.size wr W)=>BK (Cv P.zR 0 15 W)
   have cX:=λW (hW:Below wr.heap.size wr W)=>BK (Cv P.zU 1 6 W)
   have dN:=λW (hW:Below wr.heap.size wr W)=>Mq mv iv ev cv sv lv _ P 1 W (BD.below (BD.below HR.out.2.2.2 hb) hW) (by have:=dv.out;omega)
   unfold AO at dN;generalize Ac P.zY 1=cn at dN bk;have CN:=AA dN;clear av ao dN PO eA;cases h1:Be P.zR 0 15
   .rw[h1] at cY
    have CH:=AA cY;have S:=AA (show po=false by rw[bk.out,h1];rfl);clear cY cX h1;go_wp2_with fail;refine AY 14 62 [.p w.heap.size 7,.i (P.zR),.b false,.b false,.u,.u,.u,.b false,.b false,.u,.u,.u,.u,.u] (λ_ _ _=>True) ?_ ?_
    .intro i hi o ho a wx Hb Hd hG K HK
     match i,hi with
     |0,_|3,_|7,_|8,_=>exact sP ho HK Hb Hd
     |1,_=>exact sL ho HK Hb Hd (hl:=Fp (bc hG ca x7))
     |2,_=>exact sD ho HK Hb Hd (CH.out _ hG)
     |4,_|5,_|6,_|9,_|10,_|11,_|12,_|13,_=>exact sB ho HK Hd
    .intro vs wx hR hG
     have q8:(vs 8)=.bool false:=BW hR 8;clear hR;simp only[Aj,Ae,yC,yz,yy,yw,q8];simp;clear q8;have bw:=hb.trans (hG.mono hb.size);clear x0 x1 x2 x3 x4 x5 x6 x7 x8 hG;go_wp2_with fail;go_ret;exact⟨AI S.out.symm,ad.out.trans (bw.mono ad.out.size)⟩
   .rw[h1] at cY
    have CH:=AA cY;cases h2:Be P.zU 1 6
    .rw[h2] at cX
     have CL:=AA cX;have S:=AA (show po=false by rw[bk.out,h1,h2];rfl);clear cY cX h1 h2;go_wp2_with fail;refine AY 14 62 [.p w.heap.size 7,.i (P.zR),.b true,.b true,.p w.heap.size 8,.i (P.zU),.b false,.b false,.b false,.u,.u,.u,.u,.u] (λ_ _ _=>True) ?_ ?_
     .intro i hi o ho a wx Hb Hd hG K HK
      have cj:=bc hG ca x7;have bp:=bc hG ca x8
      match i,hi with
      |0,_|3,_|4,_|7,_|8,_=>exact sP ho HK Hb Hd
      |1,_|5,_=>exact sL ho HK Hb Hd (hl:=Fp ‹_›)
      |2,_=>exact sD ho HK Hb Hd (CH.out _ hG)
      |6,_=>exact sD ho HK Hb Hd (CL.out _ hG)
      |9,_|10,_|11,_|12,_|13,_=>exact sB ho HK Hd
     .intro vs wx hR hG
      have q8:(vs 8)=.bool false:=BW hR 8;clear hR;simp only[Aj,Ae,yC,yz,yy,yw,q8];simp;clear q8;have bw:=hb.trans (hG.mono hb.size);clear x0 x1 x2 x3 x4 x5 x6 x7 x8 hG;go_wp2_with fail;go_ret;exact⟨AI S.out.symm,ad.out.trans (bw.mono ad.out.size)⟩
    .rw[h2] at cX
     have CL:=AA cX;have S:=AA (show po=decide ((cn:Int)<=P.zU) by rw[bk.out,h1,h2];rfl);clear cY cX h1 h2;go_wp2_with fail;refine AY 14 62 [.p w.heap.size 7,.i (P.zR),.b true,.b true,.p w.heap.size 8,.i (P.zU),.b true,.b true,.b true,.a #[mv,iv,ev,cv,sv,lv,.slice aq P.zY.length cq,.int .i64 (P.zR),.int .i64 (P.zU)],.i ((cn:Int)),.p w.heap.size 8,.i (P.zU),.b (decide ((cn:Int)<=P.zU))] (λ_ _ _=>True) ?_ ?_
     .intro i hi o ho a wx Hb Hd hG K HK
      have cj:=bc hG ca x7;have bp:=bc hG ca x8;have bC:=bc hG ca x0;have bn:=bc hG ca x1;have bA:=bc hG ca x2;have cx:=bc hG ca x3;have dA:=bc hG ca x4;have eF:=bc hG ca x5;have eE:=bc hG ca x6
      match i,hi with
      |0,_|3,_|4,_|7,_|8,_|11,_=>exact sP ho HK Hb Hd
      |1,_|5,_|12,_=>exact sL ho HK Hb Hd (hl:=Fp ‹_›)
      |2,_=>exact sD ho HK Hb Hd (CH.out _ hG)
      |6,_=>exact sD ho HK Hb Hd (CL.out _ hG)
      |9,_=>exact sL ho HK Hb Hd (hl:=Qz ‹_› ‹_› ‹_› ‹_› ‹_› ‹_› ‹_› ‹_› ‹_›)
      |10,_=>exact sD ho HK Hb Hd (CN.out _ hG)
      |13,_=>clear cj bp bC bn bA cx dA eF eE;obtain rfl:=yF ho;have iy:(a.tmps[57]?.getD undef)=.int .i64 cn:=BM Hd 10;have dH:(a.tmps[59]?.getD undef)=.int .i64 (P.zU):=BM Hd 12;have d8:(a.tmps[55]?.getD undef)=.bool true:=BM Hd 8;clear Hd Hb;refine AV.yes rfl rfl d8 ?_;go_simp;exact HK.out _ _ rfl (yD _ _)
     .intro vs wx hR hG
      have q8:(vs 8)=.bool true:=BW hR 8;have eD:(vs 13)=.bool (decide ((cn:Int)<=P.zU)):=BW hR 13;clear hR;simp only[Aj,Ae,yC,yz,yy,yw,q8,eD];simp;clear q8 eD;have bw:=hb.trans (hG.mono hb.size);clear x0 x1 x2 x3 x4 x5 x6 x7 x8 hG;go_wp2_with fail;go_ret;exact⟨AI S.out.symm,ad.out.trans (bw.mono ad.out.size)⟩
theorem QN(mv iv ev cv sv lv qv:Value)(P:AR)(n:Int)(w:World)(h:Kx w mv iv ev cv sv lv qv P)(hs:EW P.zV)(eN:(Bg P&&Be n 0 15)=false):
 Calls prog 17 #[AO mv iv ev cv sv lv qv P.zR P.zU,.int .i64 n] w λr w'=>VI r/\Below w.heap.size w w':=by
 unfold AO VI AO;obtain⟨N0,N1,bx,bK⟩:=Jy w (.cells #[mv,iv,ev,cv,sv,lv,qv,.int .i64 P.zR,.int .i64 P.zU] 32) ((.cells #[.slice none 0 0,.slice none 0 0,.slice none 0 0,.slice none 0 0,.slice none 0 0,.slice none 0 0,.slice none 0 0,.int .i64 0,.int .i64 0] 32));have h0:=h.below bx;obtain⟨x0,x1,x2,x3,x4,x5,x6,x7,x8⟩:=AD N0;have fa:=AA bK;clear bK;go_in;go_wp2_with fail;generalize(w.alloc _).alloc _=W0 at*;have CV:=Fn mv iv ev cv sv lv qv P W0 h0 hs;unfold AO at CV;have ct:=AA bx;have cy:=AA N1;generalize Bg P=ok at*;clear h h0 bx N0 N1 x0 x1 x2 x3 x4 x5 x6 x7 x8;refine CV.mono ?_;rintro r w1 ⟨rfl,b1⟩;have Bw:=AA (ct.out.trans (b1.mono ct.out.size));clear CV;cases ok
 focus
  skip
 rotate_left
 focus
  go_wp2_with fail
  refine(Cv _ _ _ _).mono ?_;rintro r w2 ⟨rfl,rfl⟩;rw[show Be n 0 15=false by simpa using eN];clear eN
 rotate_left
 all_goals
  have N1:=AC cy.out b1;have f1:=AK N1;obtain⟨a0,a1,a2,a3,a4,a5,a6,a7,a8⟩:=AD N1;have S2:=AA (Lg N1 (Bw.out) (by omega));clear N1;go_wp2_with fail;clear a0 a1 a2 a3 a4 a5 a6 a7 a8 f1;obtain⟨N2,B2⟩:=S2.out;unfold Ew at N2 B2;exact yk (v:=.tuple #[.agg #[_,_,_,_,_,_,_,_,_],_]) (by simp[results,sJ,go_sem,AD N2]) rfl ⟨rfl,B2⟩
theorem It(mv iv ev cv sv lv qv:Value)(P:AR)(w:World)(h:Kx w mv iv ev cv sv lv qv P)(hP:ED P){n:Nat}(hn:n<16):
 Calls prog 17 #[AO mv iv ev cv sv lv qv P.zR P.zU,.int .i64 n] w (IW w (BV P n)):=by
 have cW:=λlo W m i e c s l q (O:FG lo W m i e c s l q P) (hl:lo<=W.heap.size)=>TN O hl hP hn
 have HT:=λ(h:(BV P n).2=false)=>GG hP hn h
 generalize BV P n=t at cW HT ⊢;obtain⟨Q,bb⟩:=t;unfold MM AO at cW;dsimp only at cW HT ⊢;have cW:=AA cW;have HT:=AA HT;unfold AO IW AO;obtain⟨N0,N1,bx,bK⟩:=Jy w (.cells #[mv,iv,ev,cv,sv,lv,qv,.int .i64 P.zR,.int .i64 P.zU] 32) ((.cells #[.slice none 0 0,.slice none 0 0,.slice none 0 0,.slice none 0 0,.slice none 0 0,.slice none 0 0,.slice none 0 0,.int .i64 0,.int .i64 0] 32));have h0:=h.below bx;have dD:Bg P=true:=Dl.2 hP;obtain⟨x0,x1,x2,x3,x4,x5,x6,x7,x8⟩:=AD N0;have fa:=AA bK;clear bK;go_in;go_wp2_with fail;generalize(w.alloc _).alloc _=W0 at*;have CV:=Fn mv iv ev cv sv lv qv P W0 h0 (Ce hP.k);have CO:=AA (λW (hW:Below W0.heap.size W0 W)=>LL mv iv ev cv sv lv qv P W (h0.below hW) hP);rw[dD] at CV;unfold AO at CV CO;have ct:=AA bx;have ad:=AA N0;have cy:=AA N1;have iC:=AA hP;have dE:Be (n:Int) 0 15=true:=Ab.2 (by omega);clear h h0 bx N0 N1 hP dD x0 x1 x2 x3 x4 x5 x6 x7 x8;refine CV.mono ?_;rintro r w1 ⟨rfl,b1⟩;obtain⟨x0,x1,x2,x3,x4,x5,x6,x7,x8⟩:=AD (AC ad.out b1);have dx:=AA b1;clear b1 CV;go_wp2_with fail;refine(Cv _ _ _ _).mono ?_;rintro r w2 ⟨rfl,rfl⟩;rw[dE];go_wp2_with fail;refine(CO.out w1 dx.out).mono ?_;rintro r w2 ⟨m2,i2,e2,c2,s2,l2,q2,rfl,O2,b2⟩;unfold AO;obtain⟨⟨⟨ma,mn,mc,rfl⟩,⟨ia,iN,ic,rfl⟩,⟨ea,en,ec,rfl⟩,⟨ka,kn,kc,rfl⟩⟩,⟨sa,sn,sc,rfl⟩,⟨la,ln,lc,rfl⟩,⟨pa,pn,pc,rfl⟩⟩:=O2.zQ;have CT:=AA (cW.out _ _ _ _ _ _ _ _ _ O2 b2.size);clear cW;have dw:=AA b2;clear O2 b2 x0 x1 x2 x3 x4 x5 x6 x7 x8;go_wp2_with fail;refine CT.out.mono ?_;rintro r w3 ⟨hy,dX,b3,s3⟩;have ds:=dx.out.trans ((dw.out.trans b3).mono dx.out.size);have B2:=AC (AC cy.out dx.out) dw.out;have N3:=s3 _ _ B2;cases bb
 focus
  obtain rfl:=dX rfl
  obtain rfl:=HT.out rfl;have b4:=AE w3 (.cells #[.slice ma mn mc,.slice ia iN ic,.slice ea en ec,.slice ka kn kc,.slice sa sn sc,.slice la ln lc,.slice pa pn pc,.int .i64 Q.zR,.int .i64 Q.zU] 32);have B4:=AC N3 b4;have dI:=ds.trans (b4.mono ds.size);obtain⟨x0,x1,x2,x3,x4,x5,x6,x7,x8⟩:=AD (AC ad.out dI);have dz:=AA (ct.out.trans (dI.mono ct.out.size));have fl:=AA (CO.out _ dI);have fk:=AA B4;clear hy dX b3 s3 ds B2 N3 b4 dI CT B4;go_wp2_with fail;refine fl.out.mono ?_;rintro r w5 ⟨m5,i5,e5,c5,s5,l5,q5,rfl,O5,b5⟩;unfold AO;clear x0 x1 x2 x3 x4 x5 x6 x7 x8 fl;generalize w3.alloc _=W4 at*;obtain⟨⟨⟨_,_,_,rfl⟩,⟨_,_,_,rfl⟩,⟨_,_,_,rfl⟩,⟨_,_,_,rfl⟩⟩,⟨_,_,_,rfl⟩,⟨_,_,_,rfl⟩,⟨_,_,_,rfl⟩⟩:=O5.zQ;have N5:=AC fk.out b5;have S5:=DF N5 O5;obtain⟨a0,a1,a2,a3,a4,a5,a6,a7,a8⟩:=AD N5;have f5:=AK N5;have fd:=AA S5;have es:=AA b5;have e8:=AA (AW fk.out)
 rotate_left
 focus
  obtain⟨m3,i3,e3,c3,gY,l3,q3,rfl,O3⟩:=hy rfl
  obtain⟨⟨⟨fE,fC,bn,rfl⟩,⟨fT,fV,fQ,rfl⟩,⟨gE,gx,gz,rfl⟩,⟨fO,fJ,fM,rfl⟩⟩,⟨ft,fn,fp,rfl⟩,⟨fH,fF,fG,rfl⟩,⟨fA,fx,fy,rfl⟩⟩:=O3.zQ;have b5:=AE w3 (.cells #[.slice fE fC bn,.slice fT fV fQ,.slice gE gx gz,.slice fO fJ fM,.slice ft fn fp,.slice fH fF fG,.slice fA fx fy,.int .i64 Q.zR,.int .i64 Q.zU] 32);have O5:=(O3.below b5).lower (lo':=w.heap.size) (yB ct.out.size dx.out.size);have dz:=AA (ct.out.trans (ds.mono ct.out.size));have ff:=AA N3;clear hy dX b3 s3 ds B2 CT O3 N3;have N5:=AC ff.out b5;have S5:=DF N5 O5;obtain⟨a0,a1,a2,a3,a4,a5,a6,a7,a8⟩:=AD N5;have f5:=AK N5;have fd:=AA S5;have es:=AA b5;have e8:=AA (AW ff.out)
 rotate_left
 all_goals
  clear O5 S5 N5 b5;go_wp2_with fail;clear a0 a1 a2 a3 a4 a5 a6 a7 a8 f5;obtain⟨N6,O6,gv⟩:=fd.out;have B6:=AM (dz.out.trans (es.out.mono (by have:=dz.out.size;have:=e8.out;omega))) gv (by omega) (by have:=dz.out.size;have:=es.out.size;omega);have O7:=O6.lower (lo':=w.heap.size) (by have:=dz.out.size;omega);unfold Ew at N6 O7 B6;exact yk (v:=.tuple #[.agg #[_,_,_,_,_,_,_,_,_],_]) (by simp[results,sJ,go_sem,AD N6]) rfl ⟨_,_,_,_,_,_,_,rfl,O7,B6⟩
theorem Kx.shp{w:World}{m i e c s l q:Value}(h:Kx w m i e c s l q P):((∃a n q,m=.slice a n q)/\(∃a n q,i=.slice a n q)/\(∃a n q,e=.slice a n q)/\∃a n q,c=.slice a n q)/\(∃a n q,s=.slice a n q)/\(∃a n q,l=.slice a n q)/\∃a n r,q=.slice a n r:=by obtain⟨⟨h1,h2,h3,h4⟩,h5,h6,h7⟩:=h;obtain⟨_,_,rfl,_⟩:=h1.open;obtain⟨_,_,rfl,_⟩:=h2.shape;obtain⟨_,_,rfl,_⟩:=h3.open;obtain⟨_,_,rfl,_⟩:=h4.shape;obtain⟨_,_,rfl,_⟩:=h5.open;obtain⟨_,_,rfl,_⟩:=h6.open;obtain⟨_,_,rfl,_⟩:=h7.shape;exact⟨⟨⟨_,_,_,rfl⟩,⟨_,_,_,rfl⟩,⟨_,_,_,rfl⟩,⟨_,_,_,rfl⟩⟩,⟨_,_,_,rfl⟩,⟨_,_,_,rfl⟩,⟨_,_,_,rfl⟩⟩
def aL:AR:=⟨⟨[],[],[],[]⟩,[],[],[],0,0⟩
theorem VD(w:World):Kx w (.slice none 0 0) (.slice none 0 0) (.slice none 0 0) (.slice none 0 0) (.slice none 0 0) (.slice none 0 0) (.slice none 0 0) aL:=
 ⟨⟨⟨[],AQ.rd (Ls GC 0 29 1 w),Fh.nil⟩,AQ.rd (Ls A2 0 92 3 w),⟨[],AQ.rd (Ls Ec 0 74 2 w),Fh.nil⟩,AQ.rd (Ls Ag 0 112 4 w)⟩,⟨[],AQ.rd (Ls GC 0 29 1 w),Fh.nil⟩,AF.rd (lo:=0) (World.ownsRow_nil _ _ _ _),AQ.rd (Ls Cw 0 43 3 w)⟩
def Gj(P:AR)(n:Int):AR×Bool:=if(Bg P&&Be n 0 15)=true then BV P n.toNat else(aL,false)
def aE(w:World)(t:AR×Bool)(r:Ending)(w':World):Prop:=∃m i e c s l q,r=.returned (.tuple #[AO m i e c s l q t.1.zR t.1.zU,.bool t.2])/\Kx w' m i e c s l q t.1/\Below w.heap.size w w'
theorem WU(mv iv ev cv sv lv qv:Value)(P:AR)(n:Int)(w:World)(h:Kx w mv iv ev cv sv lv qv P)(hs:EW P.zV):
 Calls prog 15 #[AO mv iv ev cv sv lv qv P.zR P.zU,.int .i64 n] w (aE w (Gj P n)):=by
 unfold Gj;cases hb:(Bg P&&Be n 0 15)
 .exact(Qm _ _ _ _ _ _ _ P n w h hs hb).mono λ_ w' ⟨h1,h2⟩=>⟨_,_,_,_,_,_,_,h1,VD w',h2⟩
 .obtain⟨h1,h2⟩:=vM.1 hb
  obtain⟨h3,h4⟩:=Ab.1 h2;obtain⟨a,rfl⟩:=xW h3;exact(PI _ _ _ _ _ _ _ P w h (Dl.1 h1) (n:=a) (by omega)).mono λ_ _ ⟨m,i,e,c,s,l,q,h1,h2,h3⟩=>⟨m,i,e,c,s,l,q,h1,h2.rd,h3⟩
theorem WV(mv iv ev cv sv lv qv:Value)(P:AR)(n:Int)(w:World)(h:Kx w mv iv ev cv sv lv qv P)(hs:EW P.zV):
 Calls prog 17 #[AO mv iv ev cv sv lv qv P.zR P.zU,.int .i64 n] w (aE w (Gj P n)):=by
 unfold Gj;cases hb:(Bg P&&Be n 0 15)
 .exact(QN _ _ _ _ _ _ _ P n w h hs hb).mono λ_ w' ⟨h1,h2⟩=>⟨_,_,_,_,_,_,_,h1,VD w',h2⟩
 .obtain⟨h1,h2⟩:=vM.1 hb
  obtain⟨h3,h4⟩:=Ab.1 h2;obtain⟨a,rfl⟩:=xW h3;exact(It _ _ _ _ _ _ _ P w h (Dl.1 h1) (n:=a) (by omega)).mono λ_ _ ⟨m,i,e,c,s,l,q,h1,h2,h3⟩=>⟨m,i,e,c,s,l,q,h1,h2.rd,h3⟩
theorem QU{n:Int}(h:(Gj P n).2=true):ED P/\0<=n/\n<16/\Gj P n=BV P n.toNat:=by
 unfold Gj at h ⊢
 by_cases hb:(Bg P&&Be n 0 15)=true
 .rw[if_pos hb]
  obtain⟨h1,h2⟩:=vM.1 hb;obtain⟨h3,h4⟩:=Ab.1 h2;exact⟨Dl.1 h1,h3,by omega,rfl⟩
 .rw[if_neg hb] at h
  cases h
def Dr(w0:World)(g N:Nat)(w:World):Prop:=Ej w0 w (.pointer (some ⟨g,0,none⟩)) N/\Below w0.heap.size w0 w/\w0.heap.size<=g/\g<w.heap.size
theorem Dr.of{w0 w:World}{R:Value}{N:Nat}(h:Ej w0 w R N)(hb:Below w0.heap.size w0 w):∃g,R=.pointer (some ⟨g,0,none⟩)/\Dr w0 g N w:=by obtain⟨g,eh,bs,p,rfl,hg,cG,hr⟩:=h;exact⟨g,rfl,⟨g,eh,bs,p,rfl,hg,cG,hr⟩,hb,hg,(Array.getElem?_eq_some_iff.1 cG).1⟩
theorem Dr.keep{w0 w w':World}{g N:Nat}{row:Option Nat}(h:Dr w0 g N w)(hg:w.grownBy w' row)(h1:row≠some g)(h2:∀k,row=some k->w0.heap.size<=k):Dr w0 g N w':=by
 obtain⟨⟨g',eh,bs,p,hR,gf,cG,hr⟩,hb,cz,ax⟩:=h;obtain rfl:g=g':=by simpa using hR
 exact⟨⟨g,eh,bs,p,rfl,gf,(hg.block g ax (λe=>h1 e.symm)).trans cG,hr⟩,hb.grown hg hb.size h2,cz,xX ax hg.size⟩
theorem Dr.below{w0 w w':World}{g N:Nat}(h:Dr w0 g N w)(hb:Below w.heap.size w w'):Dr w0 g N w':=h.keep (AX hb none) (by simp) (λk hk=>by cases hk)
theorem Dr.alloc{w0 w:World}{g N:Nat}(h:Dr w0 g N w)(o:Obj):Dr w0 g N (w.alloc o):=h.below (AE _ _)
theorem Dr.mono{w0 w:World}{g N M:Nat}(h:Dr w0 g N w)(hm:N<=M):Dr w0 g M w:=⟨h.1.mono hm,h.2⟩
theorem Dr.set{w0 w:World}{g N b j:Nat}{u:Value}(h:Dr w0 g N w)(dd:b≠g)(hb:w0.heap.size<=b):Dr w0 g N (w.setCell ⟨b,j,none⟩ u):=
 h.keep (Aq w b j u) (by simpa using dd) (λk hk=>by cases hk;exact hb)
theorem Dr.lt{w0 w:World}{g N:Nat}(h:Dr w0 g N w):g<w.heap.size:=h.2.2.2
theorem Dr.pick{w0 w:World}{g N:Nat}(n:Int)(h:Dr w0 g N w)(hN:N<=1000000:=by omega)(hn:n<=1000000:=by decide):
 Calls prog 48 #[.pointer (some ⟨g,0,none⟩),.int .i64 n] w λe w'=>∃x:Int,e=.returned (.int .i64 x)/\0<=x/\(0<n->x<n)/\Dr w0 g (N+1) w'/\w.grownBy w' (some g):=
 (ZB w0 _ N n w h.1 h.2.1 hN hn).mono λ_ _ hp=>by
  obtain⟨x,rfl,⟨ck,cO,hY⟩,hr,cH,g1,ge,cP⟩:=hp;obtain rfl:g=g1:=by simpa using ge
  exact⟨x,rfl,ck,cO,⟨hr,cH,h.2.2.1,xX h.2.2.2 cP.size⟩,cP⟩
theorem Gq{w0 w:World}{row:Option Nat}(h:w0.grownBy w row)(o:Obj):w0.grownBy (w.alloc o) row:=AP h (AX (AE _ _) row)
theorem Cc{w0 w:World}{row:Option Nat}(h:w0.grownBy w row){b j:Nat}(hb:w0.heap.size<=b)(u:Value):w0.grownBy (w.setCell ⟨b,j,none⟩ u) row:=
 ⟨h.os,h.tape,h.output,by simpa using h.size,λk hk dd=>(heap_setCell_other w ⟨b,j,none⟩ k u (by intro e;simp at e;omega)).trans (h.block k hk dd)⟩
def GQ(w0:World)(g N:Nat)(w:World)(P:Value->Prop)(e:Ending)(w':World):Prop:=∃v,e=.returned v/\P v/\Dr w0 g N w'/\w.grownBy w' (some g)
theorem Nq{w0 w:World}{g N:Nat}(b n:Nat)(ss:List ByteArray)(h:Dr w0 g N w)(hN:N<=1000000)(hn:ss.length=n)(h0:0<n)(h1:n<=1000)(dd:b≠g)(hb:b<w.heap.size)(hc:∀k,k<n->w.cell? ⟨b,k,none⟩=some (.string (Db ss k))):
 Calls prog 191 #[.pointer (some ⟨g,0,none⟩),.slice (some ⟨b,0,none⟩) n n] w (GQ w0 g (N+1) w λv=>∃s,s∈ss/\v=.string s):=by
 have Hc:=AA hc;clear hc;have Hn:=AA hn;clear hn;go_in;go_wp2_with fail;refine(h.pick _ hN (by omega)).mono ?_;rintro e w1 ⟨x,rfl,dB,ck,h',cP⟩;have ck:=ck (by omega);obtain⟨x,rfl⟩:=xW dB;have D:w1.cell? ⟨b,x,none⟩=some (.string (Db ss x)):=(vX (cP.block b hb (by simpa using dd))).trans (Hc.out x (by omega));have cO:x<n:=by omega
 go_wp2_with fail;go_ret;exact⟨_,rfl,⟨Db ss x,List.mem_of_getElem? (IR (by rw[Hn.out];exact cO)),rfl⟩,h',cP⟩
theorem XX(f:Int)(b:Bool)(w:World)(h0:0<=f)(h1:f<=1000):
 Calls prog 81 #[.int .i64 f,.bool b] w λe w'=>e=.returned (.int .i64 (if b then 4*f+3 else 4*f+1))/\w=w':=by
 cases b<;>(go_in;go_wp2_with fail;go_ret;exact⟨rfl,rfl⟩)
theorem Ds{w w1:World}{g:Nat}{vs:Array Value}{t j:Nat}{u:Value}(cP:(w.alloc (.cells vs t)).grownBy w1 (some g))(ax:g<w.heap.size)(hj:vs[j]?=some u):w1.cell? ⟨w.heap.size,j,none⟩=some u:=by refine(vX (cP.block w.heap.size (by simp) (by simp;omega))).trans ?_;rw[tS];exact hj
theorem Ms{w0 w:World}{g N:Nat}(h:Dr w0 g N w)(hN:N<=900000):
 Calls prog 142 #[.pointer (some ⟨g,0,none⟩)] w (GQ w0 g (N+3) w λv=>∃x:Int,v=.int .i64 x/\ -1<=x/\x<=9999):=by
 go_in;go_wp2_with fail;refine(h.pick _).mono ?_;rintro e w1 ⟨x,rfl,dB,ck,h1,g1⟩;have ck:=ck (by decide)
 by_cases hx:x=0
 .subst hx
  go_wp2_with fail;go_ret;exact⟨_,rfl,⟨0,rfl,by decide,by decide⟩,h1.mono (by omega),g1⟩
 by_cases dC:x=1
 .subst dC
  go_wp2_with fail;go_ret;exact⟨_,rfl,⟨0,rfl,by decide,by decide⟩,h1.mono (by omega),g1⟩
 by_cases cO:x=2
 .subst cO
  clear hx dC;go_wp2_with fail;refine((h1.alloc _).pick _).mono ?_;rintro e w2 ⟨y,rfl,cK,bt,h2,g2⟩;have bt:=bt (by decide);have c0:=Ds (j:=0) g2 h1.lt rfl;have c1:=Ds (j:=1) g2 h1.lt rfl;have c2:=Ds (j:=2) g2 h1.lt rfl;have c3:=Ds (j:=3) g2 h1.lt rfl;have c4:=Ds (j:=4) g2 h1.lt rfl;have c5:=Ds (j:=5) g2 h1.lt rfl;have c6:=Ds (j:=6) g2 h1.lt rfl;have G:=AA (AP g1 (AP (AX (AE _ _) _) g2));clear g1 g2
  rcases(show y=0∨y=1∨y=2∨y=3∨y=4∨y=5∨y=6 by omega) with rfl|rfl|rfl|rfl|rfl|rfl|rfl
  all_goals
   go_wp2_with fail;go_ret;exact⟨_,rfl,⟨_,rfl,by decide,by decide⟩,h2.mono (by omega),G.out⟩
 .have t0:(x==0)=false:=by simp[hx]
  have t1:(x==1)=false:=by simp[dC]
  have t2:(x==2)=false:=by simp[cO]
  clear hx dC cO;go_wp2_with fail;refine(h1.pick _).mono ?_;rintro e w2 ⟨y,rfl,cK,bt,h2,g2⟩;have bt:=bt (by decide);go_wp2_with fail;refine(h2.pick _).mono ?_;rintro e w3 ⟨z,rfl,hV,eG,h3,g3⟩;have eG:=eG (by decide);have G:=AA (AP (AP g1 g2) g3);clear g1 g2 g3;go_wp2_with fail;go_ret;exact⟨_,rfl,⟨_,rfl,by omega,by omega⟩,h3.mono (by omega),G.out⟩
theorem J6(w:World)(ss:List ByteArray)(t:TypeId){k:Nat}(hk:k<ss.length):(w.alloc (.cells (ss.map Value.string).toArray t)).cell? ⟨w.heap.size,k,none⟩=some (.string (Db ss k)):=by rw[tS];simp only[List.getElem?_toArray,List.getElem?_map];rw[IR hk];rfl
theorem JD{w0 w:World}{g N:Nat}(h:Dr w0 g N w)(hN:N<=900000):
 Calls prog 192 #[.pointer (some ⟨g,0,none⟩)] w (GQ w0 g (N+2) w λv=>∃s,s.size<=8/\v=.string s):=by
 go_in;go_wp2_with fail;refine(h.pick _).mono ?_;rintro e w1 ⟨x,rfl,dB,ck,h1,g1⟩
 by_cases hx:x=0
 .subst hx
  go_wp2_with fail;refine(Nq w1.heap.size 4 [⟨#[100]⟩,⟨#[65]⟩,⟨#[97,98,99,97,98]⟩,⟨#[97,32,98]⟩] (h1.alloc _) (by omega) rfl (by decide) (by decide) (by have:=h1.lt;omega) (by simp) (λk hk=>J6 w1 [⟨#[100]⟩,⟨#[65]⟩,⟨#[97,98,99,97,98]⟩,⟨#[97,32,98]⟩] _ hk)).mono ?_;rintro e w2 ⟨v,rfl,⟨s,hs,rfl⟩,h2,g2⟩;have G:=AA (AP g1 (AP (AX (AE _ _) _) g2));have hl:s.size<=8:=by
   simp only[xA,wR,or_false] at hs
   rcases hs with rfl|rfl|rfl|rfl<;>decide
  clear g1 g2 hs;go_wp2_with fail;go_ret;exact⟨_,rfl,⟨s,hl,rfl⟩,h2,G.out⟩
 .have t0:(x==0)=false:=by simp[hx]
  clear hx;go_wp2_with fail;refine(Nq w1.heap.size 12 [⟨#[]⟩,⟨#[97]⟩,⟨#[98]⟩,⟨#[99]⟩,⟨#[97,98]⟩,⟨#[97,97]⟩,⟨#[97,98,99]⟩,⟨#[98,97]⟩,⟨#[98]⟩,⟨#[97]⟩,⟨#[97,98,99,97]⟩,⟨#[97,99]⟩] (h1.alloc _) (by omega) rfl (by decide) (by decide) (by have:=h1.lt;omega) (by simp) (λk hk=>J6 w1 [⟨#[]⟩,⟨#[97]⟩,⟨#[98]⟩,⟨#[99]⟩,⟨#[97,98]⟩,⟨#[97,97]⟩,⟨#[97,98,99]⟩,⟨#[98,97]⟩,⟨#[98]⟩,⟨#[97]⟩,⟨#[97,98,99,97]⟩,⟨#[97,99]⟩] _ hk)).mono ?_;rintro e w2 ⟨v,rfl,⟨s,hs,rfl⟩,h2,g2⟩;have G:=AA (AP g1 (AP (AX (AE _ _) _) g2));have hl:s.size<=8:=by
   simp only[xA,wR,or_false] at hs
   rcases hs with rfl|rfl|rfl|rfl|rfl|rfl|rfl|rfl|rfl|rfl|rfl|rfl<;>decide
  clear g1 g2 hs;go_wp2_with fail;go_ret;exact⟨_,rfl,⟨s,hl,rfl⟩,h2,G.out⟩
theorem Sk.info{w:World}{a:Option Addr}{xs:List AU}(h:Sk 3 A2 w a xs){k:Nat}{x:AU}(hk:xs[k]?=some x):∃b ch,a=some ⟨b,ch,none⟩/\b<w.heap.size/\w.cell? ⟨b,ch+k*3,none⟩=some (.int .i64 x.k)/\w.cell? ⟨b,ch+k*3+1,none⟩=some (.string x.g)/\w.cell? ⟨b,ch+k*3+2,none⟩=some (.int .i64 x.r):=by obtain⟨b,ch,rfl,ax,hc⟩:=h k x hk;exact⟨b,ch,rfl,ax,hc 0 _ rfl,hc 1 _ rfl,hc 2 _ rfl⟩
def Za(xs:List Int):Prop:=∀x∈xs,0<=x/\x<12
theorem OS{w0 w:World}{g N:Nat}(m i e c:Value)(xs:List AU)(kind:Int)(h:Dr w0 g N w)(hN:N<=900000)(hi:BS w i xs)(hl:xs.length<=12):
 Calls prog 230 #[.pointer (some ⟨g,0,none⟩),.agg #[m,i,e,c],.int .i64 kind] w (GQ w0 g (N+1) w λv=>∃x:Int,v=.int .i64 x/\0<=x/\x<12):=by
 obtain⟨a,dq,rfl,hc,gp,H0⟩:=BD.open Ay (by decide) hi;unfold maxLen at gp;clear hi;go_in;go_wp2_with fail;have cH:=AE w (.cells #[m,.slice a xs.length dq,e,c] 28);have eT:(w.alloc (.cells #[m,.slice a xs.length dq,e,c] 28)).heap[w.heap.size]?=some (.cells #[m,.slice a xs.length dq,e,c] 28 (0,0)):=yv w _;have eJ:w.heap.size+1=(w.alloc (.cells #[m,.slice a xs.length dq,e,c] 28)).heap.size:=by simp
 generalize w.alloc (.cells #[m,.slice a xs.length dq,e,c] 28)=W at cH eT eJ;rw[eJ];go_loopw [7,8] (λo i wr=>∃k:Nat,∃ys:List Int,k<=xs.length/\ys.length<=k/\Za ys/\i=.int .i64 k/\AF W.heap.size wr o ys/\Below W.heap.size W wr) (λ_ i _=>xs.length - (intOf i).toNat)
 case atStart=>exact⟨0,[],yh _,yh _,λx hx=>(by cases hx),rfl,Cp _ _ _,AE _ _⟩
 case round=>
  obtain⟨k,ys,hk,hX,eH,rfl,bN,bf⟩:=hrel;have ei:=AA eH;clear eH;obtain⟨c0,c1,c2,c3⟩:=AG ((bf.block _ (by omega)).trans eT);clear c0 c2 c3
  by_cases ax:k<xs.length
  .obtain⟨x,hx⟩:∃x,xs[k]?=some x:=⟨_,List.getElem?_eq_getElem ax⟩
   obtain⟨b,ch,rfl,dm,D0,_,_⟩:=H0.info hx;have D:wr.cell? ⟨b,ch+k*3,none⟩=some (.int .i64 x.k):=((cH.trans (bf.mono cH.size)).cell (p:=⟨b,ch+k*3,none⟩) dm).trans D0;clear D0 hx
   by_cases bB:x.k=kind
   .have t0:(x.k==kind)=true:=by simp[bB]
    clear bB;have cz:=bf.size;go_wp2_with (at_builtin;go_must (refine Bc (lo:=W.heap.size) (n:=ys.length) (xs:=ys.map (Value.int .i64)) (m:=1) (news:=[.int .i64 k]) rfl rfl 3 (.int .i64 0) 1 8 underlying29 Tryz.zI rfl (by decide) rfl (Co bN (AE _ _)) rfl (Rd.zC _ #[_] _ 1 1 _ (by simp) rfl (by simp[maxLen])) (by simp[Value.oneCell']) (by unfold maxLen;omega) (by omega) (by simp;omega) ?_;intro o' w4 g1 g2 g3 g4));go_roundw
    case rel=>exact⟨k+1,ys++[(k:Int)],by omega,by simp;omega,λy hy=>by
     rcases List.mem_append.1 hy with h'|h'
     .exact ei.out y h'
     .simp at h';subst h';omega,by go_num,by simpa[AF] using g1,(bf.alloc bf.size _).trans g4⟩
    case measure=>simp[intOf];omega
   .have t0:(x.k==kind)=false:=by simp[bB]
    clear bB;go_wp2_with fail;go_roundw
    case rel=>exact⟨k+1,ys,by omega,by omega,ei.out,by go_num,bN,bf⟩
    case measure=>simp[intOf];omega
  .have hD:Dr w0 g N wr:=(h.below cH).below bf
   have eR:w.grownBy wr (some g):=AX (cH.trans (bf.mono cH.size)) _;have ik:g<W.heap.size:=xX h.lt cH.size
   by_cases hz:ys.length=0
   .obtain⟨_,_,rfl,_,_⟩:=(AF.rd bN).open
    have t0:((ys.length:Int)==0)=true:=by simp[hz]
    clear hz;go_wp2_with fail;refine(hD.pick _).mono ?_;rintro e w2 ⟨y,rfl,cK,bt,h2,g2⟩;have bt:=bt (by decide);go_wp2_with fail;go_ret;exact⟨_,rfl,⟨_,rfl,cK,bt⟩,h2,AP eR g2⟩
   .obtain⟨q,cq,rfl,hq,id⟩:=JN bN (by omega)
    have t0:((ys.length:Int)==0)=false:=by simp[hz]
    have f7:0<ys.length:=by omega
    have gm:ys.length<=cq/\cq<=maxLen:=by obtain⟨_,_,he,h1,h2,_⟩:=(AF.rd bN).open;simp at he;obtain⟨_,rfl⟩:=he;exact⟨h1,h2⟩
    obtain⟨ie,f6⟩:=gm;unfold maxLen at f6;clear hz;go_wp2_with fail;refine(hD.pick _ (by omega) (by omega)).mono ?_;rintro e w2 ⟨y,rfl,cK,bt,h2,g2⟩;have bt:=bt (by omega);obtain⟨y,rfl⟩:=xW cK;have dc:=Av bN g2 (.inr (by simp[Value.ownBlock];omega));have C:=(dc.cellAt y (by omega)).trans (FV (xs:=ys) (by omega));have hx:=ei.out (nth ys y) (by rw[MU (by omega)];exact List.getElem_mem _);go_wp2_with fail;go_ret;exact⟨_,rfl,⟨_,rfl,hx.1,hx.2⟩,h2,AP eR g2⟩
def Kt(x:Aa):Prop:=x.nm.size<=8/\0<=x.e/\x.e<3/\x.c<=1000000
def BC(w0:World)(g N:Nat)(w:World)(m i e c:Value)(b:Nat)(wr:World):Prop:=
 ∃x:Aa,Kt x/\Dr w0 g N wr/\w.grownBy wr (some g)/\w.heap.size+1<b/\g<w.heap.size/\w0.heap.size<=w.heap.size/\wr.heap[b]?=some (.cells x.cs 55 (0,0))/\
  wr.heap[w.heap.size]?=some (.cells #[m,i,e,c] 28 (0,0))/\(∃y:Aa,wr.heap[w.heap.size+1]?=some (.cells y.cs 55 (0,0)))
theorem Gc{w:World}{b:Nat}{x:Aa}(h:w.heap[b]?=some (.cells x.cs 55 (0,0))):w.cell? ⟨b,0,none⟩=some (.int .i64 x.k)/\w.cell? ⟨b,1,none⟩=some (.int .i64 x.e)/\w.cell? ⟨b,2,none⟩=some (.int .i64 x.a)/\w.cell? ⟨b,3,none⟩=some (.int .i64 x.b)/\w.cell? ⟨b,4,none⟩=some (.int .i64 x.c)/\w.cell? ⟨b,5,none⟩=some (.string x.nm):=
 ⟨yi w b 0 _ _ _ h,yi w b 1 _ _ _ h,yi w b 2 _ _ _ h,yi w b 3 _ _ _ h,yi w b 4 _ _ _ h,yi w b 5 _ _ _ h⟩
section
variable {w0 w wr w':World} {g N M b:Nat} {m i e c:Value}
theorem BC.kc(h:BC w0 g N w m i e c b wr):wr.cell? ⟨w.heap.size,0,none⟩=some m/\wr.cell? ⟨w.heap.size,1,none⟩=some i/\wr.cell? ⟨w.heap.size,2,none⟩=some e/\wr.cell? ⟨w.heap.size,3,none⟩=some c:=by obtain⟨x,_,_,_,_,_,_,_,h1,_⟩:=h;exact AG h1
theorem BC.cc(h:BC w0 g N w m i e c b wr):∃x:Aa,wr.cell? ⟨b,0,none⟩=some (.int .i64 x.k)/\wr.cell? ⟨b,1,none⟩=some (.int .i64 x.e)/\wr.cell? ⟨b,2,none⟩=some (.int .i64 x.a)/\wr.cell? ⟨b,3,none⟩=some (.int .i64 x.b)/\wr.cell? ⟨b,4,none⟩=some (.int .i64 x.c)/\wr.cell? ⟨b,5,none⟩=some (.string x.nm)/\(∀j,wr.frozen? ⟨b,j,none⟩=false)/\Hid (wr.heap[b]?=some (.cells x.cs 55 (0,0))):=by obtain⟨x,_,_,_,_,_,_,h1,_⟩:=h;obtain⟨c0,c1,c2,c3,c4,c5⟩:=Gc h1;exact⟨x,c0,c1,c2,c3,c4,c5,AK h1,AA h1⟩
theorem BC.dr(h:BC w0 g N w m i e c b wr):Dr w0 g N wr:=by obtain⟨x,_,h1,_⟩:=h;exact h1
theorem BC.draw(h:BC w0 g N w m i e c b wr)(hd:Dr w0 g M w')(hg:wr.grownBy w' (some g)):BC w0 g M w m i e c b w':=by
 obtain⟨x,h0,h1,h2,h3,h4,h5,h6,h7,⟨y,h8⟩⟩:=h;have yL:∀{q:Nat} {o:Obj},w.heap.size<=q->wr.heap[q]?=some o->w'.heap[q]?=some o:=λ{q o} hq hb=>(hg.block q (AW hb) (by simp;omega)).trans hb
 exact⟨x,h0,hd,AP h2 hg,h3,h4,h5,yL (by omega) h6,yL (yt _) h7,⟨y,yL (by omega) h8⟩⟩
theorem BC.put(h:BC w0 g N w m i e c b wr)(j:Nat){v:Value}(H:∀x:Aa,Kt x->∃y:Aa,Kt y/\y.cs=x.cs.setIfInBounds j v):BC w0 g N w m i e c b (wr.setCell ⟨b,j,none⟩ v):=by
 obtain⟨x,h0,h1,h2,h3,h4,h5,h6,h7,⟨y,h8⟩⟩:=h;obtain⟨z,z0,z1⟩:=H x h0;have hb:=ym wr b j _ _ v h6;rw[<-z1] at hb;have yL:∀{q:Nat} {o:Obj},q≠b->wr.heap[q]?=some o->(wr.setCell ⟨b,j,none⟩ v).heap[q]?=some o:=λ{q o} hq hb=>(heap_setCell_other wr ⟨b,j,none⟩ q _ (λe=>hq (by simpa using e))).trans hb
 exact⟨z,z0,h1.set (by omega) (by omega),Cc h2 (by omega) _,h3,h4,h5,hb,yL (by omega) h7,⟨y,yL (by omega) h8⟩⟩
theorem BC.set0(h:BC w0 g N w m i e c b wr)(z:Int):BC w0 g N w m i e c b (wr.setCell ⟨b,0,none⟩ (.int .i64 z)):=h.put 0 λx h=>⟨⟨z,x.e,x.a,x.b,x.c,x.nm⟩,h,rfl⟩
theorem BC.set1(h:BC w0 g N w m i e c b wr)(z:Int)(hz:0<=z)(fW:z<3):BC w0 g N w m i e c b (wr.setCell ⟨b,1,none⟩ (.int .i64 z)):=h.put 1 λx h=>⟨⟨x.k,z,x.a,x.b,x.c,x.nm⟩,⟨h.1,hz,fW,h.2.2.2⟩,rfl⟩
theorem BC.set2(h:BC w0 g N w m i e c b wr)(z:Int):BC w0 g N w m i e c b (wr.setCell ⟨b,2,none⟩ (.int .i64 z)):=h.put 2 λx h=>⟨⟨x.k,x.e,z,x.b,x.c,x.nm⟩,h,rfl⟩
theorem BC.set3(h:BC w0 g N w m i e c b wr)(z:Int):BC w0 g N w m i e c b (wr.setCell ⟨b,3,none⟩ (.int .i64 z)):=h.put 3 λx h=>⟨⟨x.k,x.e,x.a,z,x.c,x.nm⟩,h,rfl⟩
theorem BC.set4(h:BC w0 g N w m i e c b wr)(z:Int)(hz:z<=1000000):BC w0 g N w m i e c b (wr.setCell ⟨b,4,none⟩ (.int .i64 z)):=h.put 4 λx h=>⟨⟨x.k,x.e,x.a,x.b,z,x.nm⟩,⟨h.1,h.2.1,h.2.2.1,hz⟩,rfl⟩
theorem BC.setS(h:BC w0 g N w m i e c b wr)(s:ByteArray)(hs:s.size<=8):BC w0 g N w m i e c b (wr.setCell ⟨b,5,none⟩ (.string s)):=h.put 5 λx h=>⟨⟨x.k,x.e,x.a,x.b,x.c,s⟩,⟨hs,h.2⟩,rfl⟩
theorem BC.gr(h:BC w0 g N w m i e c b wr):w.grownBy wr (some g):=by obtain⟨x,_,_,h1,_⟩:=h;exact h1
theorem BC.ne(h:BC w0 g N w m i e c b wr):w.heap.size≠b/\b≠w.heap.size/\w.heap.size+1≠b/\b≠w.heap.size+1:=by obtain⟨x,_,_,_,h1,_⟩:=h;omega
theorem bV{w:World}{q:Nat}{x y:Aa}(h:w.heap[q]?=some (.cells y.cs 55 (0,0))):
 ((((((w.setCell ⟨q,0,none⟩ (.int .i64 x.k)).setCell ⟨q,1,none⟩ (.int .i64 x.e)).setCell ⟨q,2,none⟩ (.int .i64 x.a)).setCell ⟨q,3,none⟩ (.int .i64 x.b)).setCell ⟨q,4,none⟩ (.int .i64 x.c)).setCell ⟨q,5,none⟩ (.string x.nm)).heap[q]?=some (.cells x.cs 55 (0,0)):=by
 have h0:=ym w q 0 _ _ (.int .i64 x.k) h;have h1:=ym _ q 1 _ _ (.int .i64 x.e) h0;have h2:=ym _ q 2 _ _ (.int .i64 x.a) h1;have h3:=ym _ q 3 _ _ (.int .i64 x.b) h2;have h4:=ym _ q 4 _ _ (.int .i64 x.c) h3;have h5:=ym _ q 5 _ _ (.string x.nm) h4;simpa[Aa.cs] using h5
theorem BC.qc(h:BC w0 g N w m i e c b wr):∃y:Aa,wr.cell? ⟨w.heap.size+1,0,none⟩=some (.int .i64 y.k)/\wr.cell? ⟨w.heap.size+1,1,none⟩=some (.int .i64 y.e)/\wr.cell? ⟨w.heap.size+1,2,none⟩=some (.int .i64 y.a)/\wr.cell? ⟨w.heap.size+1,3,none⟩=some (.int .i64 y.b)/\wr.cell? ⟨w.heap.size+1,4,none⟩=some (.int .i64 y.c)/\wr.cell? ⟨w.heap.size+1,5,none⟩=some (.string y.nm)/\∀j,wr.frozen? ⟨w.heap.size+1,j,none⟩=false:=by obtain⟨x,_,_,_,_,_,_,_,_,⟨y,h1⟩⟩:=h;obtain⟨c0,c1,c2,c3,c4,c5⟩:=Gc h1;exact⟨y,c0,c1,c2,c3,c4,c5,AK h1⟩
def ZX(w0:World)(g N:Nat)(w:World)(x:Aa)(W:World):Prop:=
 (W.cell? ⟨w.heap.size+1,0,none⟩=some (.int .i64 x.k)/\W.cell? ⟨w.heap.size+1,1,none⟩=some (.int .i64 x.e)/\W.cell? ⟨w.heap.size+1,2,none⟩=some (.int .i64 x.a)/\W.cell? ⟨w.heap.size+1,3,none⟩=some (.int .i64 x.b)/\W.cell? ⟨w.heap.size+1,4,none⟩=some (.int .i64 x.c)/\W.cell? ⟨w.heap.size+1,5,none⟩=some (.string x.nm))/\
 GQ w0 g N w (λv=>∃x:Aa,v=.agg x.cs/\Kt x) (.returned (.agg x.cs)) W
theorem BC.fin(h:BC w0 g N w m i e c b wr)(x:Aa)(hb:wr.heap[b]?=some (.cells x.cs 55 (0,0)))(hM:N<=M):ZX w0 g M w x ((((((wr.setCell ⟨w.heap.size+1,0,none⟩ (.int .i64 x.k)).setCell ⟨w.heap.size+1,1,none⟩ (.int .i64 x.e)).setCell ⟨w.heap.size+1,2,none⟩ (.int .i64 x.a)).setCell ⟨w.heap.size+1,3,none⟩ (.int .i64 x.b)).setCell ⟨w.heap.size+1,4,none⟩ (.int .i64 x.c)).setCell ⟨w.heap.size+1,5,none⟩ (.string x.nm)):=by
 obtain⟨x',h0,h1,h2,h3,h4,h5,h6,h7,⟨y,h8⟩⟩:=h;have hx:Kt x:=by rw[h6] at hb;simp[Aa.cs] at hb;obtain⟨a0,a1,a2,a3,a4,a5⟩:=hb;exact⟨a5▸h0.1,a1▸h0.2.1,a1▸h0.2.2.1,a4▸h0.2.2.2⟩
 have n1:w.heap.size+1≠g:=by omega
 have n2:w0.heap.size<=w.heap.size+1:=by omega
 have n3:w.heap.size<=w.heap.size+1:=by omega
 exact⟨Gc (bV h8),_,rfl,⟨x,rfl,hx⟩,((((((h1.set n1 n2).set n1 n2).set n1 n2).set n1 n2).set n1 n2).set n1 n2).mono hM,Cc (Cc (Cc (Cc (Cc (Cc h2 n3 _) n3 _) n3 _) n3 _) n3 _) n3 _⟩
theorem BC.pk(h:BC w0 g N w m i e c b wr)(n:Int)(hN:N<=900000:=by omega)(h0:0<n:=by decide)(hn:n<=1000000:=by decide):Calls prog 48 #[.pointer (some ⟨g,0,none⟩),.int .i64 n] wr λe' w'=>∃x:Int,e'=.returned (.int .i64 x)/\0<=x/\x<n/\BC w0 g (N+1) w m i e c b w':=
 (h.dr.pick n (by omega) hn).mono λ_ _ hp=>by obtain⟨x,rfl,h1,h2,h3,h4⟩:=hp;exact⟨x,rfl,h1,h2 h0,h.draw h3 h4⟩
theorem BC.kd{xs:List AU}(h:BC w0 g N w m i e c b wr)(kind:Int)(hN:N<=900000)(hi:∀w',w.grownBy w' (some g)->BS w' i xs)(hl:xs.length<=12):Calls prog 230 #[.pointer (some ⟨g,0,none⟩),.agg #[m,i,e,c],.int .i64 kind] wr λe' w'=>∃x:Int,e'=.returned (.int .i64 x)/\0<=x/\x<12/\BC w0 g (N+1) w m i e c b w':=
 (OS m i e c xs kind h.dr hN (hi _ h.gr) hl).mono λ_ _ hp=>by obtain⟨_,rfl,⟨x,rfl,h1,h2⟩,h3,h4⟩:=hp;exact⟨x,rfl,h1,h2,h.draw h3 h4⟩
theorem BC.mono(h:BC w0 g N w m i e c b wr)(hm:N<=M):BC w0 g M w m i e c b wr:=by obtain⟨x,h0,h1,h2⟩:=h;exact⟨x,h0,h1.mono hm,h2⟩
end
def bD(g b:Nat)(m i e c:Value)(k:Nat)(v:Value):Prop:=match k with
 |0|2=>v=.pointer (some ⟨g,0,none⟩)
 |1=>v=.agg #[m,i,e,c]
 |3=>∃z:Int,v=.int .i64 z/\0<=z/\z<2
 |4|5=>∃z:Int,v=.int .i64 z
 |6=>v=.pointer (some ⟨b,2,none⟩)
 |_=>True
theorem Vs(f:Int)(b:Bool)(w:World)(h0:0<=f)(h1:f<=1000):
 Calls prog 81 #[.int .i64 f,.bool b] w λe w'=>∃d:Int,e=.returned (.int .i64 d)/\d<=1000000/\w=w':=(XX f b w h0 h1).mono λ_ _ h=>⟨_,h.1,by split<;>omega,h.2⟩
theorem OR{w0 w:World}{g N:Nat}(m i e c:Value)(xs:List AU)(h:Dr w0 g N w)(hN:N<=800000)(hi:∀w',w.grownBy w' (some g)->BS w' i xs)(hl:xs.length<=12):
 Calls prog 190 #[.pointer (some ⟨g,0,none⟩),.agg #[m,i,e,c]] w (GQ w0 g (N+20) w λv=>∃x:Aa,v=.agg x.cs/\Kt x):=by
 have ax:=h.lt;have dU:w0.heap.size<=w.heap.size:=h.2.1.size;have gd:=hi;have Hi:=AA hi;clear hi gd;go_in;go_wp2_with fail;refine(((h.alloc _).alloc _).pick _).mono ?_;rintro e' w1 ⟨x,rfl,dB,ck,h1,g1⟩;have ck:=ck (by decide);go_wp2_with fail;refine(h1.pick _).mono ?_;rintro e' w2 ⟨y,rfl,cK,bt,h2,g2⟩;go_wp2_with fail;refine(Nq w2.heap.size 6 [⟨#[97]⟩,⟨#[98]⟩,⟨#[99]⟩,⟨#[97,98]⟩,⟨#[98,98]⟩,⟨#[97]⟩] (h2.alloc _) (by omega) rfl (by decide) (by decide) (by have:=h2.lt;omega) (by simp) (λk hk=>J6 w2 [⟨#[97]⟩,⟨#[98]⟩,⟨#[99]⟩,⟨#[97,98]⟩,⟨#[98,98]⟩,⟨#[97]⟩] _ hk)).mono ?_;rintro e' w3 ⟨v,rfl,⟨s,hs,rfl⟩,h3,g3⟩;have gb:s.size<=8:=by
  simp only[xA,wR,or_false] at hs
  rcases hs with rfl|rfl|rfl|rfl|rfl|rfl<;>decide
 go_upto_block 0 with fail;have St:BC w0 g (N+3) w m i e c w3.heap.size (w3.alloc (.cells #[.int .i64 (1+x),.int .i64 y,.int .i64 0,.int .i64 0,.int .i64 0,.string s] 55)):=by
  have G:=AP (AP g1 g2) (AP (AX (AE _ _) _) g3);have hz:=G.size;simp at hz;have B1:=yv (w.alloc (.cells #[m,i,e,c] 28)) (.cells #[.int .i64 0,.int .i64 0,.int .i64 0,.int .i64 0,.int .i64 0,.string ⟨#[]⟩] 55);have B0:=AC (yv w (.cells #[m,i,e,c] 28)) (AE _ (.cells #[.int .i64 0,.int .i64 0,.int .i64 0,.int .i64 0,.int .i64 0,.string ⟨#[]⟩] 55));simp only[xv] at B1;have yL:∀{q:Nat} {o:Obj},w.heap.size<=q->((w.alloc (.cells #[m,i,e,c] 28)).alloc (.cells #[.int .i64 0,.int .i64 0,.int .i64 0,.int .i64 0,.int .i64 0,.string ⟨#[]⟩] 55)).heap[q]?=some o->(w3.alloc (.cells #[.int .i64 (1+x),.int .i64 y,.int .i64 0,.int .i64 0,.int .i64 0,.string s] 55)).heap[q]?=some o:=λ{q o} hq hb=>AC ((G.block q (AW hb) (by simp;omega)).trans hb) (AE _ _)
  exact⟨⟨1+x,y,0,0,0,s⟩,⟨gb,cK,bt (by decide),by simp only;omega⟩,h3.alloc _,Gq (AP (AX (HJ _ _ _) _) G) _,by omega,ax,dU,yv _ _,yL (yt _) B0,⟨⟨0,0,0,0,0,⟨#[]⟩⟩,yL (by omega) B1⟩⟩
 clear h1 h2 h3 g1 g2 g3 h hs cK bt;generalize w3.alloc (.cells #[.int .i64 (1+x),.int .i64 y,.int .i64 0,.int .i64 0,.int .i64 0,.string s] 55)=wr at St;generalize w3.heap.size=b at St;obtain⟨dl,dk,dj,cQ⟩:=St.ne;go_cut [] (λwx=>BC w0 g (N+12) w m i e c b wx)
 case first=>
  rcases(show x=0∨x=1∨x=2∨x=3∨x=4∨x=5∨x=6∨x=7∨x=8∨x=9∨x=10 by omega) with rfl|rfl|rfl|rfl|rfl|rfl|rfl|rfl|rfl|rfl|rfl
  .go_wp2_with fail
   go_meet;exact St.mono (by omega)
  .obtain⟨k0,k1,k2,k3⟩:=St.kc
   go_wp2_with fail;refine(St.kd _ (by omega) Hi.out hl).mono ?_;rintro e' w4 ⟨z,rfl,z0,z1,S4⟩;replace St:=S4;clear S4 k0 k1 k2 k3;obtain⟨x1,c0,c1,c2,c3,c4,c5,hf,ac⟩:=St.cc;go_wp2_with fail;go_meet;exact(St.set2 _).mono (by omega)
  .obtain⟨k0,k1,k2,k3⟩:=St.kc
   go_wp2_with fail;refine(St.kd _ (by omega) Hi.out hl).mono ?_;rintro e' w4 ⟨z,rfl,z0,z1,S4⟩;replace St:=S4;clear S4 k0 k1 k2 k3;obtain⟨x1,c0,c1,c2,c3,c4,c5,hf,ac⟩:=St.cc;go_wp2_with fail;refine((St.set2 _).pk _).mono ?_;rintro e' w4 ⟨z,rfl,z0,z1,S4⟩;replace St:=S4;clear S4 c0 c1 c2 c3 c4 c5 hf ac;obtain⟨x1,c0,c1,c2,c3,c4,c5,hf,ac⟩:=St.cc;go_wp2_with fail;refine((St.set3 _).pk _).mono ?_;rintro e' w4 ⟨p,rfl,p0,p1,S4⟩;replace St:=S4;clear S4 c0 c1 c2 c3 c4 c5 hf ac;go_wp2_with fail;refine(St.pk _).mono ?_;rintro e' w4 ⟨q,rfl,q0,q1,S4⟩;replace St:=S4;clear S4
   rcases(show p=0∨p=1 by omega) with rfl|rfl
   rotate_left
   rotate_left
   all_goals
    obtain⟨x1,c0,c1,c2,c3,c4,c5,hf,ac⟩:=St.cc
    go_wp2_with fail;go_meet;exact(St.set4 _ (by omega)).mono (by omega)
  .obtain⟨k0,k1,k2,k3⟩:=St.kc
   go_wp2_with fail;refine(St.kd _ (by omega) Hi.out hl).mono ?_;rintro e' w4 ⟨z,rfl,z0,z1,S4⟩;replace St:=S4;clear S4 k0 k1 k2 k3;obtain⟨x1,c0,c1,c2,c3,c4,c5,hf,ac⟩:=St.cc;go_wp2_with fail;refine((St.set2 _).pk _).mono ?_;rintro e' w4 ⟨z,rfl,z0,z1,S4⟩;replace St:=S4;clear S4 c0 c1 c2 c3 c4 c5 hf ac;obtain⟨x1,c0,c1,c2,c3,c4,c5,hf,ac⟩:=St.cc;go_wp2_with fail;go_meet;exact(St.set3 _).mono (by omega)
  .go_wp2_with fail
   refine Fo 7 mixed (by kernel_rfl) 152 rfl (by kernel_rfl) (λk v _=>bD g b m i e c k v) (λL wr=>(L 3=false->BC w0 g (N+3) w m i e c b wr)/\(L 5=false->BC w0 g (N+4) w m i e c b wr)/\BC w0 g (N+5) w m i e c b wr) ?_ ?_ ?_
   .have Sd:=St.draw (St.dr.below (A8 (yD _ _) 1)) (AX (A8 (yD _ _) 1) _)
    exact⟨λ_=>Sd,λ_=>Sd.mono (by omega),Sd.mono (by omega)⟩
   .intro k hk o ho a w5 Hb Hd L HL hG K HK
    match k,hk with
    |0,_=>
     obtain rfl:=yF ho;have e0:a.tmps[0]?.getD undef=.pointer (some ⟨g,0,none⟩):=by rw[Oj Hb 0];rfl
     clear Hd Hb;refine yE ?_;go_simp;exact HK.out _ _ rfl ⟨λh=>hG.1 (DU h),λh=>hG.2.1 (DU h),hG.2.2⟩ (λj u _ _ _ h=>h)
    |1,_=>
     obtain rfl:=yF ho;have e3:a.tmps[3]?.getD undef=.pointer (some ⟨w.heap.size,0,none⟩):=by rw[Oj Hb 3];rfl
     clear Hd Hb;refine yE ?_;obtain⟨k0,k1,k2,k3⟩:=hG.2.2.kc;go_simp;exact HK.out _ _ rfl ⟨λh=>hG.1 (DU h),λh=>hG.2.1 (DU h),hG.2.2⟩ (λj u _ _ _ h=>h)
    |2,_=>
     obtain rfl:=yF ho;have e0:a.tmps[0]?.getD undef=.pointer (some ⟨g,0,none⟩):=by rw[Oj Hb 0];rfl
     clear Hd Hb;refine yE ?_;go_simp;exact HK.out _ _ rfl ⟨λh=>hG.1 (DU h),λh=>hG.2.1 (DU h),hG.2.2⟩ (λj u _ _ _ h=>h)
    |3,_=>
     obtain rfl:=yF ho;have d2:=BM Hd 2
     change a.tmps[53]?.getD undef=.pointer (some ⟨g,0,none⟩) at d2
     clear Hd Hb;refine yE ?_;have S3:=hG.1 HL.out.1;go_simp;refine(S3.dr.pick _).mono ?_;rintro e' w6 ⟨z,rfl,z0,z1,h6,g6⟩;have S4:=S3.draw h6 g6;exact HK.out _ _ ⟨z,rfl,z0,z1 (by decide)⟩ ⟨λh=>by simp[GP] at h,λ_=>S4,S4.mono (by omega)⟩ (λj u _ _ _ h=>h)
    |4,_=>
     obtain rfl:=yF ho;have d3:=BM Hd 3
     change ∃z:Int,a.tmps[54]?.getD undef=.int .i64 z/\0<=z/\z<2 at d3
     clear Hd Hb;refine yE ?_;obtain⟨z,d3,z0,z1⟩:=d3;go_simp;exact HK.out _ _ ⟨_,rfl⟩ ⟨λh=>hG.1 (DU h),λh=>hG.2.1 (DU h),hG.2.2⟩ (λj u _ _ _ h=>h)
    |5,_=>
     obtain rfl:=yF ho;have d0:=BM Hd 0
     change a.tmps[51]?.getD undef=.pointer (some ⟨g,0,none⟩) at d0
     have d1:=BM Hd 1
     change a.tmps[52]?.getD undef=.agg #[m,i,e,c] at d1
     have d4:=BM Hd 4
     change ∃z:Int,a.tmps[55]?.getD undef=.int .i64 z at d4
     clear Hd Hb;refine yE ?_;obtain⟨z,d4⟩:=d4;have S4:=hG.2.1 HL.out.1;go_simp;refine(OS m i e c xs _ S4.dr (by omega) (Hi.out _ S4.gr) hl).mono ?_;rintro e' w6 ⟨v,rfl,⟨z',rfl,_,_⟩,h6,g6⟩;have S5:=S4.draw h6 g6;have l3:L 3=true:=HL.out.2.2 4 3 (HL.out.2.1 4 (by kernel_rfl)) (by kernel_rfl);exact HK.out _ _ ⟨_,rfl⟩ ⟨(λh=>by rw[DU h] at l3;cases l3),λh=>by simp[GP] at h,S5.mono (by omega)⟩ (λj u _ _ _ h=>h)
    |6,_=>
     obtain rfl:=yF ho;have e5:a.tmps[5]?.getD undef=.pointer (some ⟨b,0,none⟩):=by rw[Oj Hb 5];rfl
     clear Hd Hb;refine yE ?_;go_simp;exact HK.out _ _ rfl ⟨λh=>hG.1 (DU h),λh=>hG.2.1 (DU h),hG.2.2⟩ (λj u _ _ _ h=>h)
   .intro ys w5 hR L hL hG
    obtain⟨z,hz⟩:=BW hR 5;have h6:ys 6=.pointer (some ⟨b,2,none⟩):=BW hR 6;replace St:=hG.2.2;clear hR hL hG;simp only[Aj,Ae,yC,yz,yy,yw,hz,h6];simp;generalize ys 0=z0;generalize ys 1=z1;generalize ys 2=z2;generalize ys 3=z3;generalize ys 4=z4;clear hz h6;obtain⟨x1,c0,c1,c2,c3,c4,c5,hf,ac⟩:=St.cc;go_wp2_with fail;go_meet;exact(St.set2 _).mono (by omega)
  .go_wp2_with fail
   refine(St.pk _).mono ?_;rintro e' w4 ⟨p,rfl,p0,p1,S4⟩;replace St:=S4;clear S4;obtain⟨k0,k1,k2,k3⟩:=St.kc;go_wp2_with fail;refine(St.kd _ (by omega) Hi.out hl).mono ?_;rintro e' w4 ⟨z,rfl,z0,z1,S4⟩;replace St:=S4;clear S4 k0 k1 k2 k3;obtain⟨x1,c0,c1,c2,c3,c4,c5,hf,ac⟩:=St.cc;go_wp2_with fail;refine((St.set2 _).pk _).mono ?_;rintro e' w4 ⟨z,rfl,z0,z1,S4⟩;replace St:=S4;clear S4 c0 c1 c2 c3 c4 c5 hf ac;obtain⟨k0,k1,k2,k3⟩:=St.kc;obtain⟨x1,c0,c1,c2,c3,c4,c5,hf,ac⟩:=St.cc;go_wp2_with fail;refine((St.set3 _).kd _ (by omega) Hi.out hl).mono ?_;rintro e' w4 ⟨f,rfl,f0,f1,S4⟩;replace St:=S4;clear S4 k0 k1 k2 k3 c0 c1 c2 c3 c4 c5 hf ac;go_wp2_with fail;refine(St.pk _).mono ?_;rintro e' w4 ⟨t,rfl,t0,t1,S4⟩;replace St:=S4;clear S4;go_wp2_with fail;refine(Vs f _ _ (by omega) (by omega)).mono ?_;rintro e' w4 ⟨d,rfl,hd,rfl⟩;obtain⟨x1,c0,c1,c2,c3,c4,c5,hf,ac⟩:=St.cc;go_wp2_with fail;refine((St.set4 _ hd).pk _).mono ?_;rintro e' w4 ⟨u,rfl,u0,u1,S4⟩;replace St:=S4;clear S4 c0 c1 c2 c3 c4 c5 hf ac
   by_cases hu:u=0
   .subst hu
    go_wp2_with fail;refine(Ms St.dr (by omega)).mono ?_;rintro e' w4 ⟨v,rfl,⟨z',rfl,_,hU⟩,h4,g4⟩;replace St:=St.draw h4 g4;clear h4 g4;obtain⟨x1,c0,c1,c2,c3,c4,c5,hf,ac⟩:=St.cc;go_wp2_with fail;go_meet;exact(St.set4 _ (by omega)).mono (by omega)
   .have t0:(u==0)=false:=by simp[hu]
    clear hu;go_wp2_with fail;go_meet;exact St.mono (by omega)
  .obtain⟨k0,k1,k2,k3⟩:=St.kc
   go_wp2_with fail;refine(St.kd _ (by omega) Hi.out hl).mono ?_;rintro e' w4 ⟨z,rfl,z0,z1,S4⟩;replace St:=S4;clear S4 k0 k1 k2 k3;obtain⟨x1,c0,c1,c2,c3,c4,c5,hf,ac⟩:=St.cc;go_wp2_with fail;refine((St.set2 _).pk _).mono ?_;rintro e' w4 ⟨u,rfl,u0,u1,S4⟩;replace St:=S4;clear S4 c0 c1 c2 c3 c4 c5 hf ac
   by_cases hu:u=0
   .subst hu
    obtain⟨x1,c0,c1,c2,c3,c4,c5,hf,ac⟩:=St.cc;go_wp2_with fail;go_meet;exact(St.set2 _).mono (by omega)
   .have t0:(u==0)=false:=by simp[hu]
    clear hu;go_wp2_with fail;go_meet;exact St.mono (by omega)
  rotate_left
  rotate_left
  .go_wp2_with fail
   refine(St.pk _).mono ?_;rintro e' w4 ⟨p,rfl,p0,p1,S4⟩;replace St:=S4;clear S4;go_wp2_with fail;refine(St.pk _).mono ?_;rintro e' w4 ⟨q,rfl,q0,q1,S4⟩;replace St:=S4;clear S4;go_wp2_with fail;refine(St.pk _).mono ?_;rintro e' w4 ⟨r,rfl,r0,r1,S4⟩;replace St:=S4;clear S4
   rcases(show p=0∨p=1 by omega) with rfl|rfl
   .obtain⟨x1,c0,c1,c2,c3,c4,c5,hf,ac⟩:=St.cc
    go_wp2_with fail;refine((St.set2 _).pk _).mono ?_;rintro e' w4 ⟨z,rfl,z0,z1,S4⟩;replace St:=S4;clear S4 c0 c1 c2 c3 c4 c5 hf ac;obtain⟨x1,c0,c1,c2,c3,c4,c5,hf,ac⟩:=St.cc;go_wp2_with fail;go_meet;exact(St.set3 _).mono (by omega)
   .obtain⟨x1,c0,c1,c2,c3,c4,c5,hf,ac⟩:=St.cc
    go_wp2_with fail;refine((St.set2 _).pk _).mono ?_;rintro e' w4 ⟨z,rfl,z0,z1,S4⟩;replace St:=S4;clear S4 c0 c1 c2 c3 c4 c5 hf ac;obtain⟨x1,c0,c1,c2,c3,c4,c5,hf,ac⟩:=St.cc;go_wp2_with fail;go_meet;exact(St.set3 _).mono (by omega)
  .go_wp2_with fail
   refine(St.pk _).mono ?_;rintro e' w4 ⟨p,rfl,p0,p1,S4⟩;replace St:=S4;clear S4;go_wp2_with fail;refine(St.pk _).mono ?_;rintro e' w4 ⟨q,rfl,q0,q1,S4⟩;replace St:=S4;clear S4;go_wp2_with fail;refine(St.pk _).mono ?_;rintro e' w4 ⟨r,rfl,r0,r1,S4⟩;replace St:=S4;clear S4
   rcases(show p=0∨p=1 by omega) with rfl|rfl
   rotate_left
   rotate_left
   all_goals
    obtain⟨x1,c0,c1,c2,c3,c4,c5,hf,ac⟩:=St.cc
    go_wp2_with fail;refine((St.set2 _).pk _).mono ?_;rintro e' w4 ⟨z,rfl,z0,z1,S4⟩;replace St:=S4;clear S4 c0 c1 c2 c3 c4 c5 hf ac;obtain⟨x1,c0,c1,c2,c3,c4,c5,hf,ac⟩:=St.cc;go_wp2_with fail;go_meet;exact(St.set3 _).mono (by omega)
  all_goals
   go_wp2_with fail
   refine(St.pk _).mono ?_;rintro e' w4 ⟨z,rfl,z0,z1,S4⟩;replace St:=S4;clear S4;obtain⟨x1,c0,c1,c2,c3,c4,c5,hf,ac⟩:=St.cc;go_wp2_with fail;go_meet;exact(St.set2 _).mono (by omega)
 case rest=>
  clear St;have St:=hcut;go_wp2_with fail;refine(St.pk _).mono ?_;rintro e' w4 ⟨q,rfl,q0,q1,S4⟩;replace St:=S4;clear S4
  by_cases dT:q=0
  .subst dT
   go_wp2_with fail;refine(St.pk _).mono ?_;rintro e' w4 ⟨z,rfl,z0,z1,S4⟩;replace St:=S4;clear S4;obtain⟨x1,c0,c1,c2,c3,c4,c5,hf,ac⟩:=St.cc;obtain⟨y1,d0,d1,d2,d3,d4,d5,b9⟩:=St.qc;go_wp2_with fail;obtain⟨⟨E0,E1,E2,E3,E4,E5⟩,Fin⟩:=BC.fin (M:=N+20) (St.set0 (z - 1)) ⟨z - 1,x1.e,x1.a,x1.b,x1.c,x1.nm⟩ (by have:=ym w4 b 0 _ _ (.int .i64 (z - 1)) ac.out;simpa[Aa.cs] using this) (by omega);exact yk (v:=.agg #[_,_,_,_,_,_]) (by simp[results,wt,go_sem,E0,E1,E2,E3,E4,E5]) rfl Fin
  by_cases dS:q=1
  .subst dS
   go_wp2_with fail;refine(St.pk _).mono ?_;rintro e' w4 ⟨z,rfl,z0,z1,S4⟩;replace St:=S4;clear S4;obtain⟨x1,c0,c1,c2,c3,c4,c5,hf,ac⟩:=St.cc;obtain⟨y1,d0,d1,d2,d3,d4,d5,b9⟩:=St.qc;go_wp2_with fail;obtain⟨⟨E0,E1,E2,E3,E4,E5⟩,Fin⟩:=BC.fin (M:=N+20) (St.set2 (z - 2)) ⟨x1.k,x1.e,z - 2,x1.b,x1.c,x1.nm⟩ (by have:=ym w4 b 2 _ _ (.int .i64 (z - 2)) ac.out;simpa[Aa.cs] using this) (by omega);exact yk (v:=.agg #[_,_,_,_,_,_]) (by simp[results,wt,go_sem,E0,E1,E2,E3,E4,E5]) rfl Fin
  by_cases dQ:q=2
  .subst dQ
   go_wp2_with fail;refine(St.pk _).mono ?_;rintro e' w4 ⟨z,rfl,z0,z1,S4⟩;replace St:=S4;clear S4;obtain⟨x1,c0,c1,c2,c3,c4,c5,hf,ac⟩:=St.cc;obtain⟨y1,d0,d1,d2,d3,d4,d5,b9⟩:=St.qc;go_wp2_with fail;obtain⟨⟨E0,E1,E2,E3,E4,E5⟩,Fin⟩:=BC.fin (M:=N+20) (St.set3 (z - 1)) ⟨x1.k,x1.e,x1.a,z - 1,x1.c,x1.nm⟩ (by have:=ym w4 b 3 _ _ (.int .i64 (z - 1)) ac.out;simpa[Aa.cs] using this) (by omega);exact yk (v:=.agg #[_,_,_,_,_,_]) (by simp[results,wt,go_sem,E0,E1,E2,E3,E4,E5]) rfl Fin
  by_cases dP:q=3
  .subst dP
   go_wp2_with fail;refine(JD St.dr (by omega)).mono ?_;rintro e' w4 ⟨v,rfl,⟨s',hs,rfl⟩,h4,g4⟩;replace St:=St.draw h4 g4;clear h4 g4;obtain⟨x1,c0,c1,c2,c3,c4,c5,hf,ac⟩:=St.cc;obtain⟨y1,d0,d1,d2,d3,d4,d5,b9⟩:=St.qc;go_wp2_with fail;obtain⟨⟨E0,E1,E2,E3,E4,E5⟩,Fin⟩:=BC.fin (M:=N+20) (St.setS s' hs) ⟨x1.k,x1.e,x1.a,x1.b,x1.c,s'⟩ (by have:=ym w4 b 5 _ _ (.string s') ac.out;simpa[Aa.cs] using this) (by omega);exact yk (v:=.agg #[_,_,_,_,_,_]) (by simp[results,wt,go_sem,E0,E1,E2,E3,E4,E5]) rfl Fin
  by_cases dO:q=4
  .subst dO
   go_wp2_with fail;have cT:=St.draw (St.dr.alloc (.cells #[.int .i64 (-1),.int .i64 10000,.int .i64 2,.int .i64 49] 3)) (AX (AE _ _) _);have di:=St.dr.lt;refine(cT.dr.pick _).mono ?_;rintro e' w5 ⟨z,rfl,z0,z1,h5,g5⟩;replace z1:=z1 (by decide);replace St:=cT.draw h5 g5;have l0:=Ds (j:=0) g5 di rfl;have l1:=Ds (j:=1) g5 di rfl;have l2:=Ds (j:=2) g5 di rfl;have l3:=Ds (j:=3) g5 di rfl;clear h5 g5 cT di;obtain⟨x1,c0,c1,c2,c3,c4,c5,hf,ac⟩:=St.cc
   rcases(show z=0∨z=1∨z=2∨z=3 by omega) with rfl|rfl|rfl|rfl
   focus
    obtain⟨y1,d0,d1,d2,d3,d4,d5,b9⟩:=St.qc
    go_wp2_with fail;obtain⟨⟨E0,E1,E2,E3,E4,E5⟩,Fin⟩:=BC.fin (M:=N+20) (St.set4 (-1) (by decide)) ⟨x1.k,x1.e,x1.a,x1.b,-1,x1.nm⟩ (by have:=ym w5 b 4 _ _ (.int .i64 (-1)) ac.out;simpa[Aa.cs] using this) (by omega)
   rotate_left
   focus
    obtain⟨y1,d0,d1,d2,d3,d4,d5,b9⟩:=St.qc
    go_wp2_with fail;obtain⟨⟨E0,E1,E2,E3,E4,E5⟩,Fin⟩:=BC.fin (M:=N+20) (St.set4 (10000) (by decide)) ⟨x1.k,x1.e,x1.a,x1.b,10000,x1.nm⟩ (by have:=ym w5 b 4 _ _ (.int .i64 (10000)) ac.out;simpa[Aa.cs] using this) (by omega)
   rotate_left
   focus
    obtain⟨y1,d0,d1,d2,d3,d4,d5,b9⟩:=St.qc
    go_wp2_with fail;obtain⟨⟨E0,E1,E2,E3,E4,E5⟩,Fin⟩:=BC.fin (M:=N+20) (St.set4 (2) (by decide)) ⟨x1.k,x1.e,x1.a,x1.b,2,x1.nm⟩ (by have:=ym w5 b 4 _ _ (.int .i64 (2)) ac.out;simpa[Aa.cs] using this) (by omega)
   rotate_left
   focus
    obtain⟨y1,d0,d1,d2,d3,d4,d5,b9⟩:=St.qc
    go_wp2_with fail;obtain⟨⟨E0,E1,E2,E3,E4,E5⟩,Fin⟩:=BC.fin (M:=N+20) (St.set4 (49) (by decide)) ⟨x1.k,x1.e,x1.a,x1.b,49,x1.nm⟩ (by have:=ym w5 b 4 _ _ (.int .i64 (49)) ac.out;simpa[Aa.cs] using this) (by omega)
   rotate_left
   all_goals
    exact yk (v:=.agg #[_,_,_,_,_,_]) (by simp[results,wt,go_sem,E0,E1,E2,E3,E4,E5]) rfl Fin
  have t0:(q==0)=false:=by simp[dT]
  have t1:(q==1)=false:=by simp[dS]
  have t2:(q==2)=false:=by simp[dQ]
  have t3:(q==3)=false:=by simp[dP]
  have t4:(q==4)=false:=by simp[dO]
  clear dT dS dQ dP dO;obtain⟨x1,c0,c1,c2,c3,c4,c5,hf,ac⟩:=St.cc;obtain⟨y1,d0,d1,d2,d3,d4,d5,b9⟩:=St.qc;go_wp2_with fail;obtain⟨⟨E0,E1,E2,E3,E4,E5⟩,Fin⟩:=BC.fin (M:=N+20) St x1 ac.out (by omega);exact yk (v:=.agg #[_,_,_,_,_,_]) (by simp[results,wt,go_sem,E0,E1,E2,E3,E4,E5]) rfl Fin
def VG(x:Aa):Prop:=Kt x/\(x.e=1∨x.e=2)
theorem GQ.e12{w0 w W:World}{g N:Nat}{x:Aa}(h:GQ w0 g N w (λv=>∃x:Aa,v=.agg x.cs/\Kt x) (.returned (.agg x.cs)) W)(he:x.e=1∨x.e=2):GQ w0 g N w (λv=>∃x:Aa,v=.agg x.cs/\VG x) (.returned (.agg x.cs)) W:=by obtain⟨v,e,⟨x',e2,hx⟩,h1⟩:=h;cases e;refine⟨_,rfl,⟨x',e2,hx,?_⟩,h1⟩;simp[Aa.cs] at e2;rw[<-e2.2.1];exact he
theorem TT{w0 w:World}{g N:Nat}(m i e c:Value)(xs:List AU)(h:Dr w0 g N w)(hN:N<=700000)(hi:∀w',w.grownBy w' (some g)->BS w' i xs)(hl:xs.length<=12):
 Calls prog 139 #[.pointer (some ⟨g,0,none⟩),.agg #[m,i,e,c]] w (GQ w0 g (N+30) w λv=>∃x:Aa,v=.agg x.cs/\VG x):=by
 have ax:=h.lt;have dU:w0.heap.size<=w.heap.size:=h.2.1.size;have Hi:=AA hi;clear hi;go_in;go_wp2_with fail;have gA:=AX (HJ w (.cells #[m,i,e,c] 28) (.cells #[.int .i64 0,.int .i64 0,.int .i64 0,.int .i64 0,.int .i64 0,.string ⟨#[]⟩] 55)) (some g);refine(OR m i e c xs ((h.alloc _).alloc _) (by omega) (λw' hg=>Hi.out w' (AP gA hg)) hl).mono ?_;rintro e' w1 ⟨v,rfl,⟨x,rfl,hx⟩,h1,g1⟩;have St:BC w0 g (N+20) w m i e c w1.heap.size (w1.alloc (.cells x.cs 55)):=by
  have hz:=g1.size;simp at hz;have B1:=yv (w.alloc (.cells #[m,i,e,c] 28)) (.cells #[.int .i64 0,.int .i64 0,.int .i64 0,.int .i64 0,.int .i64 0,.string ⟨#[]⟩] 55);have B0:=AC (yv w (.cells #[m,i,e,c] 28)) (AE _ (.cells #[.int .i64 0,.int .i64 0,.int .i64 0,.int .i64 0,.int .i64 0,.string ⟨#[]⟩] 55));simp only[xv] at B1;have yL:∀{q:Nat} {o:Obj},w.heap.size<=q->((w.alloc (.cells #[m,i,e,c] 28)).alloc (.cells #[.int .i64 0,.int .i64 0,.int .i64 0,.int .i64 0,.int .i64 0,.string ⟨#[]⟩] 55)).heap[q]?=some o->(w1.alloc (.cells x.cs 55)).heap[q]?=some o:=λ{q o} hq hb=>AC ((g1.block q (AW hb) (by simp;omega)).trans hb) (AE _ _)
  exact⟨x,hx,h1.alloc _,Gq (AP gA g1) _,by omega,ax,dU,yv _ _,yL (yt _) B0,⟨⟨0,0,0,0,0,⟨#[]⟩⟩,yL (by omega) B1⟩⟩
 clear h1 g1 h gA;simp only[Aa.cs] at St ⊢;go_wp2_with fail;generalize w1.alloc (.cells #[.int .i64 x.k,.int .i64 x.e,.int .i64 x.a,.int .i64 x.b,.int .i64 x.c,.string x.nm] 55)=wr at St ⊢;generalize w1.heap.size=b at St ⊢;obtain⟨dl,dk,dj,cQ⟩:=St.ne;refine(St.pk _).mono ?_;rintro e' w4 ⟨z,rfl,z0,z1,S4⟩;replace St:=S4;clear S4;obtain⟨x1,c0,c1,c2,c3,c4,c5,hf,ac⟩:=St.cc
 by_cases hk:x1.k=1
 .have t0:(x1.k==1)=true:=by simp[hk]
  clear hk;go_wp2_with fail;refine((St.set1 _ (by omega) (by omega)).dr.pick _).mono ?_;rintro e' w5 ⟨u,rfl,u0,u1,h5,g5⟩;replace u1:=u1 (by decide);have eS:w5.heap[b]?=some (.cells (Aa.cs ⟨x1.k,1+z,x1.a,x1.b,x1.c,x1.nm⟩) 55 (0,0)):=(g5.block b (by have:=AW ac.out;simpa using this) (by have:=St.gr.size;have:=dl;simp;obtain⟨_,_,_,_,h9,_⟩:=St;omega)).trans (by have:=ym w4 b 1 _ _ (.int .i64 (1+z)) ac.out;simpa[Aa.cs] using this);have fj:=AA eS;clear eS;replace St:=(St.set1 _ (by omega) (by omega)).draw h5 g5;clear h5 g5 c0 c1 c2 c3 c4 c5 hf ac t0
  by_cases hu:0<u
  .go_wp2_with fail
   have cT:=St.draw (St.dr.alloc (.cells #[.string ⟨#[98]⟩,.string ⟨#[99]⟩] 9)) (AX (AE _ _) _);refine(Nq w5.heap.size 2 [⟨#[98]⟩,⟨#[99]⟩] cT.dr (by omega) rfl (by decide) (by decide) (by have:=St.dr.lt;omega) (by simp) (λk hk=>J6 w5 [⟨#[98]⟩,⟨#[99]⟩] _ hk)).mono ?_;rintro e' w6 ⟨v,rfl,⟨s,hs,rfl⟩,h6,g6⟩;replace St:=cT.draw h6 g6;clear h6 g6 cT;simp only[xA,wR,or_false] at hs;obtain⟨x1,c0,c1,c2,c3,c4,c5,hf,ac⟩:=St.cc
   rcases hs with rfl|rfl
   .obtain⟨y1,d0,d1,d2,d3,d4,d5,b9⟩:=St.qc
    go_wp2_with fail;obtain⟨⟨E0,E1,E2,E3,E4,E5⟩,Fin⟩:=BC.fin (M:=N+30) ((St.setS ⟨#[98]⟩ (by decide)).set1 1 (by decide) (by decide)) ⟨x1.k,1,x1.a,x1.b,x1.c,⟨#[98]⟩⟩ (by have h0:=ym w6 b 5 _ _ (.string ⟨#[98]⟩) ac.out;have h1:=ym _ b 1 _ _ (.int .i64 1) h0;simpa[Aa.cs] using h1) (by omega);exact yk (v:=.agg #[_,_,_,_,_,_]) (by simp[results,vg,go_sem,E0,E1,E2,E3,E4,E5]) rfl (Fin.e12 (.inl rfl))
   .obtain⟨y1,d0,d1,d2,d3,d4,d5,b9⟩:=St.qc
    have ed:(((w6.setCell ⟨b,5,none⟩ (.string ⟨#[99]⟩)).setCell ⟨b,1,none⟩ (.int .i64 1)).setCell ⟨b,1,none⟩ (.int .i64 2)).heap[b]?=some (.cells (Aa.cs ⟨x1.k,2,x1.a,x1.b,x1.c,⟨#[99]⟩⟩) 55 (0,0)):=by have h0:=ym w6 b 5 _ _ (.string ⟨#[99]⟩) ac.out;have h1:=ym _ b 1 _ _ (.int .i64 1) h0;have h2:=ym _ b 1 _ _ (.int .i64 2) h1;simpa[Aa.cs] using h2
    have cd:=(Gc ed).2.1;have cJ:=AA ed;clear ed;go_wp2_with fail;obtain⟨⟨E0,E1,E2,E3,E4,E5⟩,Fin⟩:=BC.fin (M:=N+30) (((St.setS ⟨#[99]⟩ (by decide)).set1 1 (by decide) (by decide)).set1 2 (by decide) (by decide)) ⟨x1.k,2,x1.a,x1.b,x1.c,⟨#[99]⟩⟩ cJ.out (by omega);exact yk (v:=.agg #[_,_,_,_,_,_]) (by simp[results,vg,go_sem,E0,E1,E2,E3,E4,E5]) rfl (Fin.e12 (.inr rfl))
  .have u2:u<=0:=by omega
   obtain⟨c0,c1,c2,c3,c4,c5⟩:=Gc fj.out;obtain⟨y1,d0,d1,d2,d3,d4,d5,b9⟩:=St.qc;go_wp2_with fail;obtain⟨⟨E0,E1,E2,E3,E4,E5⟩,Fin⟩:=BC.fin (M:=N+30) St _ fj.out (by omega);exact yk (v:=.agg #[_,_,_,_,_,_]) (by simp[results,vg,go_sem,E0,E1,E2,E3,E4,E5]) rfl (Fin.e12 (by simp only;omega))
 .have t0:(x1.k==1)=false:=by simp[hk]
  clear hk;obtain⟨y1,d0,d1,d2,d3,d4,d5,b9⟩:=St.qc;go_wp2_with fail;obtain⟨⟨E0,E1,E2,E3,E4,E5⟩,Fin⟩:=BC.fin (M:=N+30) (St.set1 (1+z) (by omega) (by omega)) ⟨x1.k,1+z,x1.a,x1.b,x1.c,x1.nm⟩ (by have:=ym w4 b 1 _ _ (.int .i64 (1+z)) ac.out;simpa[Aa.cs] using this) (by omega);exact yk (v:=.agg #[_,_,_,_,_,_]) (by simp[results,vg,go_sem,E0,E1,E2,E3,E4,E5]) rfl (Fin.e12 (by simp only;omega))
end Go.Proofs.YtpdjjjdkhedibaaGreatDoor
