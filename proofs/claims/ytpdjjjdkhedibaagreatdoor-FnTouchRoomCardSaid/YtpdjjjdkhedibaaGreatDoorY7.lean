/-
  Packed:13 texts.
-/
import Derived.Test.YtpdjjjdkhedibaaGreatDoorY1
import Derived.Test.YtpdjjjdkhedibaaGreatDoorY6
import Derived.Test.YtpdjjjdkhedibaaGreatDoorY5
import Derived.Deep.DeepCutAuto
import Derived.Test.YtpdjjjdkhedibaaGreatDoorY2
import Derived.Test.YtpdjjjdkhedibaaGreatDoorY4
import Derived.Test.YtpdjjjdkhedibaaGreatDoorY3
set_option linter.unusedVariables false
set_option linter.unusedSimpArgs false
set_option maxHeartbeats 16000000
set_option maxRecDepth 100000
open Go Go.Proofs.YtpdjjjdkhedibaaGreatDoor
open And renaming intro->xZ
open Bool renaming and_eq_true->yp,eq_iff_iff->wA
open Go.RowKit.Below renaming refl->yD
open Go.Value renaming int->yf,oneCell'->xD,slice->xF
open Go.World renaming block_lt_of_cell?->yA,size_alloc->xv
open Go.World.ownsRow renaming cellAt->xB,lt->yq
open Go renaming bodyPost_ret->yk,heap_alloc_new->yv
open Int renaming toNat_natCast->yb
open List renaming all_eq_true->yd,countP_le_length->vO,filter_append->wE,filter_cons->vL,filter_nil->uV,findIdx_eq->sT,foldl_append->uz,foldl_cons->yy,foldl_nil->yw,getD_eq_getElem?_getD->xR,getElem?_eq_getElem->yu,getElem?_map->wK,getElem?_replicate->wm,getElem_of_mem->wP,isPrefixOf_iff_prefix->uq,length_append->yj,length_filter_le->wU,length_nil->wW,length_singleton->xM,length_take->xT,mem_flatMap->wV,mem_of_getElem?->ye,mem_range->xU,range->yC,range_succ->wZ,replicate->xV,take_length->xt,take_of_length_le->wD
open List.range renaming loop->yz
open Nat renaming add_zero->xL,eq_zero_or_pos->vQ,le_refl->yt,le_trans->yB,lt_succ_iff_lt_or_eq->xq,mul_one->wl,not_lt_zero->xP,zero_le->yh
variable {gq k n:Nat} {v:Value} {fs:List Nat}
namespace Go.Proofs.YtpdjjjdkhedibaaGreatDoor
open Go.Proofs.Tryz
open Go.RowKit
theorem UC{K:AN}(hk:k<3)(h:Bv (A5 K k) gA≠decide (k=0)):Gb K=false:=by
 unfold Gb
 match k,hk,h with
 |0,_,h=>simp at h;simp[h]
 |1,_,h=>simp at h;simp[h]
 |2,_,h=>simp at h;simp[h]
theorem XB{K:AN}(h:∀j,j<3->Bv (A5 K j) gA=decide (j=0)):Gb K=true:=by unfold Gb;rw[h 0 (by omega),h 1 (by omega),h 2 (by omega)];rfl
theorem Vk{P:AR}(hl:P.zY.length=16){k:Nat}(h:∀j,j<k->Eb P j=true):∀x∈P.zY.take k,x.w=2->0<=x.a/\x.a<=15:=by
 intro x hx hw;obtain⟨j,hj⟩:=List.getElem?_of_mem hx;have fl:j<k:=by have:=(List.getElem?_eq_some_iff.1 hj).1;rw[xT] at this;omega
 rw[List.getElem?_take,if_pos fl] at hj;have e:AB P.zY j=x:=by unfold AB;rw[xR,hj];rfl
 have:=h j fl;unfold Eb at this;rw[e,if_neg (by omega),if_neg (by omega),if_pos hw] at this;simp only[yp] at this;exact Ab.1 this.1.1
theorem QR{P:AR}(h:Bt P=true):P.low.length=4/\∀i,i<4->0<=BJ P.low i/\BJ P.low i<=11:=by
 unfold Bt at h;simp only[yp,decide_eq_true_eq,yd,xU] at h;refine⟨h.1.1.2,λi hi=>?_⟩;have:=h.2 i hi;unfold Fa at this;simp only[yp] at this;exact Ab.1 this.1.1
theorem G0(mv iv ev cv sv lv qv:Value)(P:AR)(w:World)(h:Kx w mv iv ev cv sv lv qv P)(hs:EW P.zV):
 Calls prog 18 #[AO mv iv ev cv sv lv qv P.zR P.zU] w (λr w'=>r=.returned (.bool (Bg P))/\Below w.heap.size w w'):=by
 have Pt:=Q9 P;unfold AO;have N0:=yv w (.cells #[mv,iv,ev,cv,sv,lv,qv,.int .i64 P.zR,.int .i64 P.zU] 32);have b0:=AE w (.cells #[mv,iv,ev,cv,sv,lv,qv,.int .i64 P.zR,.int .i64 P.zU] 32);have h0:=h.below b0;go_in;go_wp2_with fail;generalize w.alloc _=W0 at*;have C1:=AA (λW (hW:Below W0.heap.size W0 W)=>NZ mv iv ev cv P.zV W (h0.1.below hW) hs);have C2:=AA (λW (hW:Below W0.heap.size W0 W)=>PK sv P.swap W (h0.2.1.below hW));have bm:=AA b0;obtain⟨aq,qc,rfl,e9,dT⟩:=h0.2.2.2.shape;unfold maxLen at dT;have ai:w.heap.size<W0.heap.size:=AW N0;cases hk:Cl P.zV
 .have S:=AA (show Bg P=false by rw[Pt,hk];rfl)
  rw[hk] at C1;clear Pt;refine(C1.out W0 (yD _ _)).mono ?_;rintro r w1 ⟨rfl,b1⟩;have HB:=AA (bm.out.trans (b1.mono bm.out.size));clear N0 b0 h h0 b1;go_wp2_with fail;go_ret;exact⟨AI S.out.symm,HB.out⟩
 rw[hk] at C1;refine(C1.out W0 (yD _ _)).mono ?_;rintro r w1 ⟨rfl,b1⟩;have x4:=(AD (AC N0 b1)).2.2.2.2.1;have B1:=AA b1;cases bf:FE P.swap
 .have S:=AA (show Bg P=false by rw[Pt,hk,bf];rfl)
  have C:=C2.out w1 b1;rw[bf] at C;clear Pt N0 b0 h h0 b1;go_wp2_with fail;refine C.mono ?_;rintro r w2 ⟨rfl,b2⟩;have HB:=AA (bm.out.trans ((B1.out.trans (b2.mono B1.out.size)).mono bm.out.size));clear b2;go_wp2_with fail;go_ret;exact⟨AI S.out.symm,HB.out⟩
 have C:=C2.out w1 b1;rw[bf] at C;clear b1;go_wp2_with fail;refine C.mono ?_;rintro r w2 ⟨rfl,b2⟩;have B2:=AA (B1.out.trans (b2.mono B1.out.size));have x6:=(AD (AC N0 B2.out)).2.2.2.2.2.2.1;clear b2 C x4
 by_cases hl:P.zY.length=16
 .rw[hl] at x6
  cases ht:Bt P
  .have S:=AA (show Bg P=false by rw[Pt,hk,bf,ht];simp)
   have C:=NH (AC N0 B2.out) (h0.below B2.out) (EZ.1 hk);rw[ht] at C;clear Pt N0 b0 h h0;go_wp2_with fail;refine C.mono ?_;rintro r w3 ⟨rfl,b3⟩;have HB:=AA (bm.out.trans ((B2.out.trans (b3.mono B2.out.size)).mono bm.out.size));clear b3;go_wp2_with fail;go_ret;exact⟨AI S.out.symm,HB.out⟩
  .have C:=NH (AC N0 B2.out) (h0.below B2.out) (EZ.1 hk)
   rw[ht] at C;go_wp2_with fail;refine C.mono ?_;rintro r w3 ⟨rfl,b3⟩;have B3:=AA (B2.out.trans (b3.mono B2.out.size));have bp:=AA (bm.out.trans (B3.out.mono bm.out.size));have hK:=EZ.1 hk;have h3:=h0.below B3.out;have N3:=AC N0 B3.out;obtain⟨ps,fv,eF⟩:=h3.1.2.2.1;have cR:ps.length=3:=by rw[eF.1,hK.zN]
   obtain⟨ae,ce,rfl,f9,_,HE⟩:=BD.open Fc (by decide) fv;have x2:=(AD N3).2.2.1;rw[cR] at x2;have dY:=AA (show Bg P=(Gb P.zV&&(yC 16).all (Eb P)&&(yC 16).all (Do P)&&(Be P.zR 0 15&&Be P.zU 1 6&&decide ((Ac P.zY 1:Int)<=P.zU))) by rw[Pt,hk,bf,ht];simp[hl]);have HK:=AA hK;have HL:=AA (xZ hl (xZ bf ht));have H3:=AA (xZ N3 h3);have fH:=AA (xZ HE eF);have gN:=AA cR;clear Pt hk hK bf ht hl N0 b0 h h0 C1 C2 C b3 x6 HE fv eF cR hs N3 h3 B1 B2;go_wp2_with fail;clear x2;go_loopw [3,4,33] (λ_ _ ix wr=>∃k:Nat,k<=3/\ix=.int .i64 k/\(∀j,j<k->Bv (A5 P.zV j) gA=decide (j=0))/\Below w3.heap.size w3 wr) (λ_ _ ix _=>3 - (intOf ix).toNat)
   case atStart=>exact⟨0,by omega,rfl,λj hj=>by omega,yD _ _⟩
   case round=>
    obtain⟨k,fh,rfl,am,hb⟩:=hrel
    by_cases dy:k<3
    .have k3:(k:Int)<3:=by omega
     obtain⟨p,hp⟩:∃p,ps[k]?=some p:=⟨_,yu (by have:=gN.out;omega)⟩
     obtain⟨ge,hF,rfl,f3,df⟩:=fH.out.1 k p hp;have dS:=fH.out.2.2 k p (AJ P.zV.zX k) hp (by unfold AJ;exact A1 (by rw[HK.out.zN];omega));have D0:=(hb.cell (yA w3 _ (df 0 _ rfl))).trans (df 0 _ rfl);have D1:=(hb.cell (yA w3 _ (df 1 _ rfl))).trans (df 1 _ rfl);rw[xL] at D0;obtain⟨pv,pr⟩:=p;dsimp only at D0 D1 dS;obtain⟨pa,pn,rfl,_,_⟩:=BD.shape dS.1;have bn:=hb.trans ((AE wr (.cells #[.slice pa (AJ P.zV.zX k).zT.length pn,.int .i64 pr] 74)).mono hb.size);have CM:=Ot _ (AJ P.zV.zX k).zT gA _ (BD.below dS.1 bn);have bq:=AA am;have fE:=AA bn;have HM:=AA (show Bv (A5 P.zV k) gA=Bv (AJ P.zV.zX k).zT gA from rfl);generalize Bv (AJ P.zV.zX k).zT gA=b at CM HM;generalize(AJ P.zV.zX k).zT.length=rl at*;clear df dS am bn hp;go_wp2_with fail;refine CM.mono ?_;rintro r w5 ⟨rfl,b5⟩;have cH:=AA (fE.out.trans (b5.mono fE.out.size));clear b5 CM
     by_cases k0:k=0
     .have t0:((k:Int)==0)=true:=by simp[k0]
      cases b
      .have S:=AA (show Bg P=false by rw[dY.out,UC dy (by rw[HM.out];simp[k0])];rfl)
       clear k0;go_wp2_with fail;go_ret;exact⟨AI S.out.symm,bp.out.trans (cH.out.mono bp.out.size)⟩
      .have K0:=AA k0
       clear k0;go_wp2_with fail;go_roundw
       case rel=>exact⟨k+1,by omega,by go_num,λj hj=>by
        rcases xq.1 hj with x|x
        .exact bq.out j x
        .subst x;rw[HM.out];simp[K0.out],cH.out⟩
       case measure=>simp[intOf];omega
     .have t0:((k:Int)==0)=false:=by simp[k0]
      cases b
      .have K0:=AA k0
       clear k0;go_wp2_with fail;go_roundw
       case rel=>exact⟨k+1,by omega,by go_num,λj hj=>by
        rcases xq.1 hj with x|x
        .exact bq.out j x
        .subst x;rw[HM.out];simp[K0.out],cH.out⟩
       case measure=>simp[intOf];omega
      .have S:=AA (show Bg P=false by rw[dY.out,UC dy (by rw[HM.out];simp[k0])];rfl)
       clear k0;go_wp2_with fail;go_ret;exact⟨AI S.out.symm,bp.out.trans (cH.out.mono bp.out.size)⟩
    .obtain rfl:k=3:=by omega
     have fC:=AA (show Bg P=((yC 16).all (Eb P)&&(yC 16).all (Do P)&&(Be P.zR 0 15&&Be P.zU 1 6&&decide ((Ac P.zY 1:Int)<=P.zU))) by rw[dY.out,XB am];simp);have dk:=AA hb;have TL:=AA (QR HL.out.2.2);clear am dY;rw[show((3:Nat):Int)=3 from rfl];have x6:=(AD (AC H3.out.1 hb)).2.2.2.2.2.2.1;rw[HL.out.1] at x6;go_wp2_with (refine Ow (n:=16) rfl rfl 3 (.int .i64 0) 8 underlying29 Tryz.zI rfl rfl (by omega) (by unfold maxLen;omega) ?_;intro w6 ac dh em;replace x6:=(dh.cell (yA wr _ x6)).trans x6);have St:AF w3.heap.size w6 (.slice (some ⟨wr.heap.size,0,none⟩) 16 16) (xV 16 0):=BO (by simpa[AF] using ac) dk.out.size;have gy:=AA (dk.out.trans (dh.mono dk.out.size));generalize wr.heap.size=gk at*;clear ac dh em hb;go_wp2_with fail;clear x6;go_loopw [6,49] (λ_ ix wx=>∃k:Nat,k<=16/\ix=.int .i64 k/\(∀j,j<k->Eb P j=true)/\AF w3.heap.size wx (.slice (some ⟨gk,0,none⟩) 16 16) ((P.zY.take k).foldl F6 (xV 16 0))/\Below w3.heap.size w3 wx) (λ_ ix _=>16 - (intOf ix).toNat)
     case atStart=>exact⟨0,by omega,rfl,λj hj=>by omega,St,gy.out⟩
     case round=>
      clear St;obtain⟨k,fh,rfl,am,St,hb⟩:=hrel;have KA:=AA (λs=>Ym (l:=P.zY.take k) (Vk HL.out.1 am) (ks:=xV 16 0) (by simp) s)
      by_cases cS:k<16
      .have gV:(k:Int)<16:=by omega
       have C:=WC (AC H3.out.1 hb) (H3.out.2.below hb) HK.out TL.out.1 TL.out.2 HL.out.1 St (KA.out 0).1 (λj hj=>by
        rw[(KA.out j).2];have h0:nth (xV 16 (0:Int)) j=0:=by unfold nth;rw[xR,wm];split<;>rfl
        have h1:Bz (P.zY.take k) j<=(P.zY.take k).length:=by unfold Bz;exact vO
        have h2:(P.zY.take k).length<=16:=by rw[xT];omega
        omega) hb.size cS
       have Nx:=AA (show(P.zY.take (k+1)).foldl F6 (xV 16 0)=F6 ((P.zY.take k).foldl F6 (xV 16 0)) (AB P.zY k) by rw[Cx (show P.zY[k]?=some (AB P.zY k) from A1 (by have:=HL.out.1;omega)),uz];rfl)
       have bq:=AA am;have Hb:=AA hb;generalize(P.zY.take k).foldl F6 (xV 16 0)=ks at*;clear am hb St KA;go_wp2_with fail;refine C.mono ?_;rintro r w7 ⟨gT,⟨rfl,o7,g7,b7⟩,e7⟩;have fF:=AA (Hb.out.trans b7);have O7:=AA o7;cases eu:Eb P k
       .have S:=AA (show Bg P=false by rw[fC.out,Nf cS eu];rfl)
        clear o7 g7 b7 e7 C;go_wp2_with fail;go_ret;exact⟨AI S.out.symm,bp.out.trans (fF.out.mono bp.out.size)⟩
       .have E7:=AA (e7 eu)
        have PH:=AA eu;clear o7 g7 b7 e7 C;go_wp2_with fail;go_roundw
        case rel=>exact⟨k+1,by omega,by go_num,λj hj=>by
         rcases xq.1 hj with x|x
         .exact bq.out j x
         .subst x;exact PH.out,by rw[Nx.out,<-E7.out];exact O7.out,fF.out⟩
        case measure=>simp[intOf];omega
      .obtain rfl:k=16:=by omega
       have eN:=AA (show Bg P=((yC 16).all (Do P)&&(Be P.zR 0 15&&Be P.zU 1 6&&decide ((Ac P.zY 1:Int)<=P.zU))) by rw[fC.out,yd.2 (λj hj=>am j (xU.1 hj))];simp);rw[wD (by have:=HL.out.1;omega)] at St KA;generalize P.zY.foldl F6 (xV 16 0)=ks at St KA;have ff:=(KA.out 0).1;have ds:wr.ownsRow w3.heap.size 3 1 (.slice (some ⟨gk,0,none⟩) 16 16) 16 (ks.map (yf .i64)):=by have:=St;unfold AF at this;rwa [ff] at this
       have KC:=AA (λ(j:Nat)(hj:j<16)=>show wr.cell? ⟨gk,j,none⟩=some (.int .i64 (Bz P.zY j:Int)) from by
        rw[xB ds j (by omega),wK,yu (by omega)];have e:=(KA.out j).2;have h0:nth (xV 16 (0:Int)) j=0:=by unfold nth;rw[xR,wm];split<;>rfl
        rw[h0,Int.zero_add] at e;unfold nth at e;rw[xR,yu (by omega)] at e;simp at e;rw[<-e];rfl)
       obtain⟨vs,s1,s2⟩:=(H3.out.2.below hb).2.1;have bN:P.swap.length=16:=(GF.1 HL.out.2.1).1;have br:vs.length=16:=by rw[s2.1,bN]
       obtain⟨hM,hL,rfl,_,_,HS⟩:=BD.open EG (by decide) s1;have x4:=(AD (AC H3.out.1 hb)).2.2.2.2.1;rw[br] at x4;have gj:=AA x4;have Hb:=AA hb;have d4:=AA (xZ HS (xZ s2 (xZ bN br)));clear am hb St KA ds ff HS s1 s2 bN br x4;generalize hW4:wr=w4 at*;go_wp2_with fail;go_loopw [7,8,59] (λ_ _ ix wx=>∃k:Nat,k<=16/\ix=.int .i64 k/\(∀j,j<k->Do P j=true)/\w4=wx) (λ_ _ ix _=>16 - (intOf ix).toNat)
       case atStart=>exact⟨0,by omega,rfl,λj hj=>by omega,rfl⟩
       case round=>
        obtain⟨k,fh,rfl,am,rfl⟩:=hrel
        by_cases cj:k<16
        .have gU:(k:Int)<16:=by omega
         have gi:=KC.out k cj;obtain⟨u,hu⟩:∃u,vs[k]?=some u:=⟨_,yu (by have:=d4.out.2.2.2;omega)⟩
         obtain⟨sb,gS,rfl,gW,fw⟩:=d4.out.1 k u hu;have DS:=fw 0 _ rfl;have eo:=d4.out.2.1.2 k u (AH P.swap k) hu (by unfold AH;exact A1 (by have:=d4.out.2.2.1;omega));obtain⟨ua,uc,rfl,_,_,_⟩:=eo.open;rw[wl,xL] at DS;have x4:=gj.out;have bq:=AA am;have SO:Do P k=decide (Bz P.zY k=if(AH P.swap k).isEmpty then 0 else 1):=rfl;generalize Bz P.zY k=n at gi SO;generalize AH P.swap k=row at DS SO eo;clear fw am hu eo
         by_cases hr:row=[]
         .subst hr
          simp only[wW] at DS
          by_cases cK:n=0
          .have PS:=AA (show Do P k=true by rw[SO,cK];rfl)
           subst cK;clear SO;go_wp2_with fail;go_roundw
           case rel=>exact⟨k+1,by omega,by go_num,λj hj=>by
            rcases xq.1 hj with x|x
            .exact bq.out j x
            .subst x;exact PS.out,trivial⟩
           case measure=>simp[intOf];omega
          .have S:=AA (show Bg P=false by rw[eN.out,Nf cj (by rw[SO];simp[cK])];rfl)
           have t1:((n:Int) !=0)=true:=by simp;omega
           clear SO cK;go_wp2_with fail;go_ret;exact⟨AI S.out.symm,bp.out.trans (Hb.out.mono bp.out.size)⟩
         .have es:0<row.length:=List.length_pos_iff.2 hr
          have he:row.isEmpty=false:=by cases row with|nil=>exact absurd rfl hr|cons a l=>rfl
          generalize row.length=rl at DS es;have p1:(0:Int)<(rl:Int):=by omega
          have t2:((rl:Int)==0)=false:=by simp;omega
          rw[he] at SO;clear hr he
          by_cases dU:n=1
          .have PS:=AA (show Do P k=true by rw[SO,dU];rfl)
           subst dU;clear SO;go_wp2_with fail;go_roundw
           case rel=>exact⟨k+1,by omega,by go_num,λj hj=>by
            rcases xq.1 hj with x|x
            .exact bq.out j x
            .subst x;exact PS.out,trivial⟩
           case measure=>simp[intOf];omega
          .have S:=AA (show Bg P=false by rw[eN.out,Nf cj (by rw[SO];simp[dU])];rfl)
           have t1:((n:Int) !=1)=true:=by simp;omega
           clear SO dU;go_wp2_with fail;go_ret;exact⟨AI S.out.symm,bp.out.trans (Hb.out.mono bp.out.size)⟩
        .obtain rfl:k=16:=by omega
         have dG:=AA (show Bg P=(Be P.zR 0 15&&Be P.zU 1 6&&decide ((Ac P.zY 1:Int)<=P.zU)) by rw[eN.out,yd.2 (λj hj=>am j (xU.1 hj))];simp);have N4:=AC H3.out.1 Hb.out;have dw:=H3.out.2.below Hb.out;have x7:=(AD N4).2.2.2.2.2.2.2.1;have x8:=(AD N4).2.2.2.2.2.2.2.2;have dD:=AW N4;have CN:=AA (λW (hW:Below w4.heap.size w4 W)=>P6 (AD (AC N4 hW)).2.2.2.2.2.2.1 (BD.below dw.2.2.2 hW) HL.out.1 1);have CH:=AA (λW=>Dt P.zR 0 15 W);have CL:=AA (λW=>Dt P.zU 1 6 W);clear am N4 dw;cases eB:Be P.zR 0 15
         .have S:=AA (show Bg P=false by rw[dG.out,eB];rfl)
          rw[eB] at CH;go_wp2_with fail;refine AY 14 103 [.p w.heap.size 7,.i (P.zR),.b false,.b false,.u,.u,.u,.b false,.b false,.u,.u,.u,.u,.b false] (λ_ _ _=>True) ?_ ?_
          .intro i hi o ho a wx Hb Hd hG K HK
           match i,hi with
           |0,_|3,_|7,_|8,_|13,_=>exact sP ho HK Hb Hd
           |1,_=>exact sL ho HK Hb Hd (hl:=Fp (bc hG dD x7))
           |2,_=>exact sE ho HK Hb Hd (CH.out _)
           |4,_|5,_|6,_|9,_|10,_|11,_|12,_=>exact sB ho HK Hd
          .intro vs wx hR hG
           have cO:(vs 13)=.bool false:=BW hR 13;clear hR;simp only[Aj,Ae,yC,yz,yy,yw,cO];simp;clear cO;go_wp2_with fail;go_ret;exact⟨AI S.out.symm,bp.out.trans ((Hb.out.trans (hG.mono Hb.out.size)).mono bp.out.size)⟩
         .rw[eB] at CH dG
          cases eA:Be P.zU 1 6
          .have S:=AA (show Bg P=false by rw[dG.out,eA];rfl)
           rw[eA] at CL;go_wp2_with fail;refine AY 14 103 [.p w.heap.size 7,.i (P.zR),.b true,.b true,.p w.heap.size 8,.i (P.zU),.b false,.b false,.b false,.u,.u,.u,.u,.b false] (λ_ _ _=>True) ?_ ?_
           .intro i hi o ho a wx Hb Hd hG K HK
            have ej:=bc hG dD x7;have ei:=bc hG dD x8
            match i,hi with
            |0,_|3,_|4,_|7,_|8,_|13,_=>exact sP ho HK Hb Hd
            |1,_|5,_=>exact sL ho HK Hb Hd (hl:=Fp ‹_›)
            |2,_=>exact sE ho HK Hb Hd (CH.out _)
            |6,_=>exact sE ho HK Hb Hd (CL.out _)
            |9,_|10,_|11,_|12,_=>exact sB ho HK Hd
           .intro vs wx hR hG
            have cO:(vs 13)=.bool false:=BW hR 13;clear hR;simp only[Aj,Ae,yC,yz,yy,yw,cO];simp;clear cO;go_wp2_with fail;go_ret;exact⟨AI S.out.symm,bp.out.trans ((Hb.out.trans (hG.mono Hb.out.size)).mono bp.out.size)⟩
          .rw[eA] at CL dG
           have S:=AA (show Bg P=decide ((Ac P.zY 1:Int)<=P.zU) by rw[dG.out];simp);generalize Ac P.zY 1=cn at CN S;go_wp2_with fail;refine AY 14 103 [.p w.heap.size 7,.i (P.zR),.b true,.b true,.p w.heap.size 8,.i (P.zU),.b true,.b true,.b true,.i ((cn:Int)),.p w.heap.size 8,.i (P.zU),.b (decide ((cn:Int)<=P.zU)),.b (decide ((cn:Int)<=P.zU))] (λ_ _ _=>True) ?_ ?_
           .intro i hi o ho a wx Hb Hd hG K HK
            have ej:=bc hG dD x7;have ei:=bc hG dD x8
            match i,hi with
            |0,_|3,_|4,_|7,_|8,_|10,_|13,_=>exact sP ho HK Hb Hd
            |1,_|5,_|11,_=>exact sL ho HK Hb Hd (hl:=Fp ‹_›)
            |2,_=>exact sE ho HK Hb Hd (CH.out _)
            |6,_=>exact sE ho HK Hb Hd (CL.out _)
            |9,_=>exact sD ho HK Hb Hd (CN.out _ hG)
            |12,_=>clear ej ei;obtain rfl:=yF ho;have d9:(a.tmps[98]?.getD undef)=.int .i64 cn:=BM Hd 9;have hJ:(a.tmps[100]?.getD undef)=.int .i64 (P.zU):=BM Hd 11;have d8:(a.tmps[97]?.getD undef)=.bool true:=BM Hd 8;clear Hd Hb;refine AV.yes rfl rfl d8 ?_;go_simp;exact HK.out _ _ rfl (yD _ _)
           .intro vs wx hR hG
            have cO:(vs 13)=.bool (decide ((cn:Int)<=P.zU)):=BW hR 13;clear hR;simp only[Aj,Ae,yC,yz,yy,yw,cO];simp;clear cO;go_wp2_with fail;go_ret;exact⟨AI S.out.symm,bp.out.trans ((Hb.out.trans (hG.mono Hb.out.size)).mono bp.out.size)⟩
 .have S:=AA (show Bg P=false by rw[Pt];simp[hl])
  have t1:((P.zY.length:Int) !=16)=true:=by simp;omega
  have HB:=AA (bm.out.trans (B2.out.mono bm.out.size));clear Pt N0 b0 h h0 hl;go_wp2_with fail;go_ret;exact⟨AI S.out.symm,HB.out⟩
section
variable {lo g:Nat} {w w1:World} {m i e c s l q:Value} {P:AR}
theorem Gm.zg(h:Gm lo g w m i e c s l q P)(x:Int):Gm lo g (w.setCell ⟨g,7,none⟩ (.int .i64 x)) m i e c s l q {P with zR:=x}/\w.grownBy (w.setCell ⟨g,7,none⟩ (.int .i64 x)) (some g):=by have fm:=Aq w g 7 (.int .i64 x);have F:=h.own.yL fm h.yK;refine⟨⟨?_,h.yJ,⟨F.ker,F.swp,F.low,F.pgs,F.apart⟩⟩,fm⟩;have:=heap_setCell_same w g 7 _ 32 (.int .i64 x) h.yK;simpa using this
theorem Gm.zo{n0 bK j:Nat}{x y:Bk}{u:Value}(h:Gm lo g w m i e c s l (.slice (some ⟨gq,0,none⟩) n0 bK) P)(cK:n0=P.zY.length)(hk:P.zY[n]?=some x)(hj:j<3)(hy:Cw y=(Cw x).set j u):
 Gm lo g (w.setCell ⟨gq,n*3+j,none⟩ u) m i e c s l (.slice (some ⟨gq,0,none⟩) n0 bK) {P with zY:=P.zY.set n y}/\w.grownBy (w.setCell ⟨gq,n*3+j,none⟩ u) (some gq)/\lo<=gq:=by
 obtain⟨hB,cl,⟨k0,⟨vs,hs⟩,dc,hp,bC⟩⟩:=h;subst cK;have S:=AQ.zx DT hp hk hj hy;obtain⟨eM,hc⟩:=A6 hp gq rfl;exact⟨⟨Ap hB S.2 (Bp hc hB),cl,⟨k0.yL S.2 hc,⟨vs,hs.yL S.2 hc⟩,Eu dc S.2 hc,S.1,bC⟩⟩,S.2,(yq hp gq rfl).1⟩
theorem Gm.zp{n0 bK:Nat}(h:Gm lo g w m i e c s l (.slice (some ⟨gq,0,none⟩) n0 bK) P)(cK:n0=P.zY.length)(hn:n<P.zY.length)(y:Bk):
 Gm lo g (((w.setCell ⟨gq,n*3,none⟩ (.int .i64 y.w)).setCell ⟨gq,n*3+1,none⟩ (.int .i64 y.a)).setCell ⟨gq,n*3+2,none⟩ (.bool y.u)) m i e c s l (.slice (some ⟨gq,0,none⟩) n0 bK) {P with zY:=P.zY.set n y}/\w.grownBy (((w.setCell ⟨gq,n*3,none⟩ (.int .i64 y.w)).setCell ⟨gq,n*3+1,none⟩ (.int .i64 y.a)).setCell ⟨gq,n*3+2,none⟩ (.bool y.u)) (some gq)/\lo<=gq:=by
 obtain⟨hB,cl,⟨k0,⟨vs,hs⟩,dc,hp,bC⟩⟩:=h;subst cK;have S:=AQ.stored DT hp hn y;obtain⟨eM,hc⟩:=A6 hp gq rfl;exact⟨⟨Ap hB S.2 (Bp hc hB),cl,⟨k0.yL S.2 hc,⟨vs,hs.yL S.2 hc⟩,Eu dc S.2 hc,S.1,bC⟩⟩,S.2,(yq hp gq rfl).1⟩
theorem Gm.yY(h:Gm lo g w m i e c s l q P){vs:List Value}{S:List (List Int)}(hg:w.grownBy w1 s.ownBlock)(hO:Au lo w1 s vs S):Gm lo g w1 m i e c s l q {P with swap:=S}:=by
 obtain⟨hB,cl,⟨⟨⟨ms,k1,k2,k3⟩,k4,⟨ps,k5,k6,k7⟩,k8⟩,⟨us,hs⟩,dc,hp,bC⟩⟩:=h;have dx:=Dg hs.1 hB (by decide);refine⟨(hg.block g (AW hB) (λe=>dx e.symm)).trans hB,cl,⟨⟨⟨ms,Av k1 hg bC.ne,k2.mono λ_ _ x=>Av x hg (A7 x hs.1 (by decide)).ne,k3⟩,Av k4 hg (A7 k4 hs.1 (by decide)).ne,⟨ps,Av k5 hg (A7 k5 hs.1 (by decide)).ne,k6.mono λ_ _ x=>⟨Av x.1 hg (A7 x.1 hs.1 (by decide)).ne,x.2⟩,k7⟩,Av k8 hg (A7 k8 hs.1 (by decide)).ne⟩,⟨vs,hO⟩,Av dc hg (A7 dc hs.1 (by decide)).ne,Av hp hg (A7 hp hs.1 (by decide)).ne,bC⟩⟩
theorem Gm.page(h:Gm lo g w m i e c s l q P){n:Nat}(hn:n<P.zY.length):∃gq bK,q=.slice (some ⟨gq,0,none⟩) P.zY.length bK/\P.zY.length<=bK/\lo<=gq/\gq<w.heap.size/\gq≠g/\(∀j,w.frozen? ⟨gq,j,none⟩=false)/\w.cell? ⟨gq,n*3,none⟩=some (.int .i64 (AB P.zY n).w)/\w.cell? ⟨gq,n*3+1,none⟩=some (.int .i64 (AB P.zY n).a)/\w.cell? ⟨gq,n*3+2,none⟩=some (.bool (AB P.zY n).u):=by obtain⟨gq,bK,rfl,h1,_,h3,h4,h5⟩:=h.own.pgs.zM (by omega);have hc:=AQ.zz DT h.own.pgs (k:=n) (x:=AB P.zY n) (by unfold AB;exact A1 hn);obtain⟨eM,eG⟩:=A6 h.own.pgs gq rfl;exact⟨gq,bK,rfl,h1,h3,h4,Bp eG h.yK,h5,hc 0 _ rfl,hc 1 _ rfl,hc 2 _ rfl⟩
theorem Gm.pg{n0 bK:Nat}(h:Gm lo g w m i e c s l (.slice (some ⟨gq,0,none⟩) n0 bK) P){n:Nat}(hn:n<P.zY.length):gq<w.heap.size/\(∀j,w.frozen? ⟨gq,j,none⟩=false)/\w.cell? ⟨gq,n*3,none⟩=some (.int .i64 (AB P.zY n).w)/\w.cell? ⟨gq,n*3+1,none⟩=some (.int .i64 (AB P.zY n).a)/\w.cell? ⟨gq,n*3+2,none⟩=some (.bool (AB P.zY n).u):=by obtain⟨hD,gh,e,h1,h2,h3,h4,h5⟩:=h.page hn;simp only[Value.slice.injEq,Option.some.injEq,Addr.mk.injEq] at e;obtain⟨⟨rfl,_⟩,_,rfl⟩:=e;exact⟨h3,h5⟩
end
structure bI(p:AR)(n m:Nat)(zY:List Bk)(zR:Int):Prop where
 vic:CQ 32 p.zY p.zR=(zY,zR,some m)
 m16:m<16
 mw:(AB p.zY m).w=1
 ok1:ED {p with zY:=zY,zR:=zR}
 mw1:(AB zY m).w=1
 ok2:ED (EL {p with zY:=zY,zR:=zR} m)
 free:0<=Am (EL {p with zY:=zY,zR:=zR} m).zV.zZ
 nw:(AB (EL {p with zY:=zY,zR:=zR} m).zY n).w≠1
 pg:(AB (EL {p with zY:=zY,zR:=zR} m).zY n).w=(AB p.zY n).w/\(AB (EL {p with zY:=zY,zR:=zR} m).zY n).a=(AB p.zY n).a
 room:(Ac (EL {p with zY:=zY,zR:=zR} m).zY 1:Int)+1<=p.zU
 is:BV p n=Oh (EL {p with zY:=zY,zR:=zR} m) n
theorem QW{p:AR}(h:ED p){n:Nat}(hn:n<16)(hw:(AB p.zY n).w≠1)(hf:Ib p=true)(ch:¬(Am p.zV.zZ<0/\Ac p.zY 1=0)):∃m zY zR,bI p n m zY zR:=by
 have hc:0<Ac p.zY 1:=by
  rcases vQ (Ac p.zY 1) with h0|h0
  .exfalso
   unfold Ib at hf;simp only[Bool.or_eq_true,decide_eq_true_eq] at hf;have:=h.zU
   rcases hf with hf|hf
   .exact ch ⟨hf,h0⟩
   .omega
  .exact h0
 obtain⟨i,hi,ey⟩:=JJ.1 hc;rw[h.zO] at hi;obtain⟨m,hm⟩:=Ik 32 p.zY p.zR h.zR.1 h.zR.2 h.zO i hi ey (.inr (by have:=PX h.zR.1 h.zR.2 hi;omega));have hU:=IU 32 p.zY p.zR;have hH:=Js 32 p.zY p.zR h.zR.1 h.zR.2;have hI:=Gw 32 p.zY p.zR h.zR.1 h.zR.2 m hm;have hT:BV p n=match CQ 32 p.zY p.zR with
  |(zY,zR,some m)=>Oh (EL {p with zY:=zY,zR:=zR} m) n
  |(_,_,none)=>(p,false):=by
  unfold BV;rw[if_neg hw,if_neg ch,if_pos hf];rfl
 revert hU hH hI hm hT
 generalize hv:CQ 32 p.zY p.zR=r;obtain⟨pg,hd,o⟩:=r;intro hm hU hH hI hT;cases hm;have h':=hU.ok h hH.1 hH.2;have mw1:=(hU.w m).trans hI.2;have ho:=TY h' hI.1 mw1;have fY:n≠m:=λe=>hw (by rw[e];exact hI.2)
 have fa:AB (EL {p with zY:=pg,zR:=hd} m).zY n=AB pg n:=by
  show AB (pg.set m _) n=_
  rw[Dh,if_neg (λh=>fY h.1)]
 refine⟨m,pg,hd,hv,hI.1,hI.2,h',mw1,ho.1,ho.2.2.2,?_,?_,?_,hT⟩
 .rw[fa,hU.w];exact hw
 .rw[fa];exact⟨hU.w n,hU.at' n⟩
 .have h1:Ac (EL {p with zY:=pg,zR:=hd} m).zY 1+1=Ac pg 1:=ho.2.2.1
  have h2:Ac pg 1=Ac p.zY 1:=hU.count 1;have h3:=h.count;omega
theorem QV{p:AR}(h:ED p){n:Nat}(hw:(AB p.zY n).w≠1)(hf:Ib p=false):BV p n=Oh p n/\0<=Am p.zV.zZ:=by
 have h1:¬Am p.zV.zZ<0:=λe=>by unfold Ib at hf;simp[e] at hf
 refine⟨?_,by omega⟩;unfold BV;rw[if_neg hw,if_neg (λx=>h1 x.1),if_neg (by rw[hf];simp)]
theorem QZ{p:AR}(hw:(AB p.zY n).w≠1)(h:Am p.zV.zZ<0/\Ac p.zY 1=0):BV p n=(p,false):=by unfold BV;rw[if_neg hw,if_pos h]
theorem Od{zY:List Bk}{zR:Int}:CQ (k+1) zY zR=if(AB zY zR.toNat).w=1/\(AB zY zR.toNat).u=false then(zY,Ea zR,some zR.toNat) else CQ k (zY.set zR.toNat (NI (AB zY zR.toNat))) (Ea zR):=rfl
theorem VA{p:AR}(h:ED p):(CQ 32 p.zY p.zR).2.2=none↔Ac p.zY 1=0:=by
 constructor
 .intro hx
  rcases vQ (Ac p.zY 1) with h0|h0
  .exact h0
  .obtain⟨i,hi,ey⟩:=JJ.1 h0
   rw[h.zO] at hi;obtain⟨m,hm⟩:=Ik 32 p.zY p.zR h.zR.1 h.zR.2 h.zO i hi ey (.inr (by have:=PX h.zR.1 h.zR.2 hi;omega));rw[hx] at hm;cases hm
 .intro h0
  cases hx:(CQ 32 p.zY p.zR).2.2 with
  |none=>rfl
  |some m=>have hI:=Gw 32 p.zY p.zR h.zR.1 h.zR.2 m hx;have:=JJ.2 ⟨m,by rw[h.zO];exact hI.1,hI.2⟩;omega
def Yi(g:Nat)(w:World):Int:=match w.cell? ⟨g,7,none⟩ with
 |some (.int _ n)=>n
 |_=>0
def ZS(gq n:Nat)(w:World):Bool:=match w.cell? ⟨gq,n*3+2,none⟩ with
 |some (.bool b)=>b
 |_=>false
def Y8(g gq n:Nat)(w:World):Nat:=yL (Yi g w) n+if ZS gq n w then 16 else 0
theorem Wm{lo g qc:Nat}{w:World}{m i e c s l:Value}{P:AR}(h:Gm lo g w m i e c s l (.slice (some ⟨gq,0,none⟩) 16 qc) P)(hl:P.zY.length=16){n:Nat}(hn:n<16):Y8 g gq n w=yL P.zR n+if(AB P.zY n).u then 16 else 0:=by obtain⟨_,_,_,_,d2⟩:=h.pg (n:=n) (by omega);unfold Y8 Yi ZS;rw[h.cells.2.2.2.2.2.2.2.1,d2]
theorem bj.yG{lo g:Nat}{w w':World}{s l q:Value}{P:AR}{k:AN}(h:bj lo g w s l q P k w'):∃m i e c,Gm lo g w' m i e c s l q {P with zV:=k}:=by obtain⟨⟨m,i,e,c,h,_⟩,_⟩:=h;exact⟨m,i,e,c,h⟩
theorem C8.one(a:List Bk)(j:Nat):C8 a (a.set j (NI (AB a j))):=C8.step (C8.refl _)
theorem C8.trans{a b c:List Bk}(h:C8 a b)(h':C8 b c):C8 a c:=⟨h'.len.trans h.len,λi=>(h'.w i).trans (h.w i),λi=>(h'.at' i).trans (h.at' i),λi hu=>h.u i (h'.u i hu)⟩
theorem Up{lo g:Nat}{w:World}{mv iv ev cv sv lv qv:Value}{P:AR}(h:Gm lo g w mv iv ev cv sv lv qv P)(bB:lo<=w.heap.size)(hP:ED P){pg:List Bk}{hd:Int}{n:Nat}(hv:CQ 32 P.zY P.zR=(pg,hd,some n)):
 Calls prog 84 #[.pointer (some ⟨g,0,none⟩)] w (λr w'=>r=.returned (.tuple #[])/\(∃m i e c,Gm lo g w' m i e c sv lv qv (EL {P with zY:=pg,zR:=hd} n))/\Below lo w w'):=by
 obtain⟨gq,qc,rfl,er,ex,f2,eh,_⟩:=h.page (n:=0) (by rw[hP.zO];omega);rw[hP.zO] at h er ⊢;have hV:=AA hv;have ca:=AA hP;have c9:n<16:=by have:=(Gw 32 P.zY P.zR hP.zR.1 hP.zR.2 n (by rw[hv]));exact this.1
 have HI:=AA h;have dp:=AA bB;have hh:=hP.zR;have ef:=eh.symm;clear h hP hv bB;go_in;go_wp2_with fail;go_loopw [2,3] (λ_ _ wr=>∃k zY zR,Gm lo g wr mv iv ev cv sv lv (.slice (some ⟨gq,0,none⟩) 16 qc) {P with zY:=zY,zR:=zR}/\CQ k zY zR=(pg,hd,some n)/\C8 P.zY zY/\0<=zR/\zR<=15/\Below lo w wr) (λ_ _ wr=>Y8 g gq n wr)
 case atStart=>exact⟨32,P.zY,P.zR,HI.out,hV.out,C8.refl _,hh.1,hh.2,yD _ _⟩
 case round=>
  obtain⟨k,zY,zR,hI,cJ,hU,h0,dX,hb⟩:=hrel;obtain⟨k,rfl⟩:∃k',k=k'+1:=by
   cases k with
   |zero=>unfold CQ at cJ;cases cJ
   |succ k=>exact⟨k,rfl⟩
  rw[Od] at cJ;obtain⟨j,rfl⟩:∃j:Nat,zR=(j:Int):=⟨zR.toNat,by omega⟩
  rw[yb] at cJ;unfold Ea at cJ;have hj:j<16:=by omega
  have gZ:(j:Int)<16:=by omega
  have cR:zY.length=16:=by rw[hU.len];exact ca.out.zO
  have hA:=AA (hU.ok ca.out h0 dX);have M0:=AA (Wm hI cR c9);obtain⟨ep,fq,p0,p1,p2⟩:=hI.pg (n:=j) (by show j<zY.length;rw[cR];exact hj);obtain⟨_,_,_,_,_,_,x6,x7,_⟩:=hI.cells;have fg:=AK hI.yK;have I1:=(hI.zg (((j:Int)+1)%16)).1;have B1:=AM hb (hI.zg (((j:Int)+1)%16)).2 hI.yJ (yB dp.out hb.size);have hN:0<=((j:Int)+1)%16/\((j:Int)+1)%16<=15:=Lr (zR:=(j:Int)) h0 dX;have dj:=AA (λ(dx:j≠n)=>show yL (((j:Int)+1)%16) n+1=yL (j:Int) n from Ml (zR:=(j:Int)) h0 dX c9 dx);have cu:=AA (show yL (((j:Int)+1)%16) j=15 from PW (zR:=(j:Int)) h0 dX);have cr:=AA (show yL (j:Int) j=0 from UQ (zR:=(j:Int)) h0);have g0:=AW hI.yK;have hx:zY[j]?=some (AB zY j):=by unfold AB;exact A1 (by omega)
  generalize hpj:AB zY j=x at cJ p0 p1 p2 hx;obtain⟨xw,xa,xu⟩:=x;dsimp only at p0 p1 p2 cJ I1;have cI:=AA hpj;have HX:=AA hx;have cX:=AA cR;have cF:=AA I1;have cb:=AA B1;have HU:=AA hU;have HN:=AA hN;have HV:=AA cJ;clear hI hU hpj hx cJ cR hb I1 B1 hN ep
  by_cases hc:xw=1/\xu=false
  .obtain⟨rfl,rfl⟩:=hc
   have c6:=HV.out;rw[if_pos ⟨rfl,rfl⟩] at c6;simp only[Prod.mk.injEq,Option.some.injEq] at c6;obtain⟨rfl,rfl,rfl⟩:=c6;have be:=AA (HU.out.ok ca.out HN.out.1 HN.out.2);clear HV M0 dj cu cr hV;obtain⟨k0,_,_,_,k4,_⟩:=cF.out.cells;go_wp2_with fail;generalize wr.setCell _ _=W1 at*;clear x6 x7 p0 p1 p2 fg fq;have fo:=AW cF.out.yK;have bl:lo<=W1.heap.size:=yB dp.out cb.out.size;obtain⟨e9,fq,p0,p1,p2⟩:=cF.out.pg (n:=j) (by show j<zY.length;rw[cX.out];exact hj);replace p1:W1.cell? ⟨gq,j*3+1,none⟩=some (.int .i64 (AB zY j).a):=p1;rw[cI.out] at p1;have eD:=be.out.zH hj (by show(AB zY j).w=1;rw[cI.out]);have ft:=(be.out.zG hj (by show(AB zY j).w=1;rw[cI.out])).2.1;simp only[cI.out] at eD ft;obtain⟨f,rfl⟩:∃f:Nat,xa=(f:Int):=⟨xa.toNat,by omega⟩
   have eE:f<12:=by simpa using eD.1
   obtain⟨vs,o1⟩:=cF.out.own.ker.1;have da:P.zV.mem.length=12:=ca.out.meml;have br:vs.length=12:=by rw[o1.2.1.1];exact da
   obtain⟨gm,cm,e1,ao,_,_,dB,_⟩:=o1.1.zM (by omega);have cg:(AH P.zV.mem f).length=4:=ca.out.rowl eE;obtain⟨gw,cw,hu,cc,_,_⟩:=o1.row (f:=f) (by show f<P.zV.mem.length;omega) (by show 0<(AH P.zV.mem f).length;omega);subst e1;rw[br] at k0;replace hu:vs[f]?=some (.slice (some ⟨gw,0,none⟩) (AH P.zV.mem f).length cw):=hu;replace cc:AF lo W1 (.slice (some ⟨gw,0,none⟩) (AH P.zV.mem f).length cw) (AH P.zV.mem f):=cc;rw[cg] at hu cc;have DR:=AQ.zz EG o1.1 hu 0 _ rfl;rw[wl,xL] at DR;have cf:=be.out.slot hj (by show(AB zY j).w≠2;rw[cI.out];show(1:Int)≠2;decide);obtain⟨sl,bN⟩:∃sl:Nat,BY P.swap=(sl:Int):=⟨(BY P.swap).toNat,by have:=cf.1;simp only at this;omega⟩
   have cQ:sl<16:=by have:=cf.2.1;simp only[bN] at this;omega
   have dE:=AF.rd cc;obtain⟨cZ,bf⟩:=cF.out.own.swp;have CS:=AA (λW (hW:Below W1.heap.size W1 W)=>U4 (bf.below hW) ca.out.zD (yB bl hW.size) (dE.below hW) (by rw[cg];omega) bN cQ);have fu:(f:Int)<12:=by omega
   have gl:=AA bN;have dI:=AA bl;clear dE cc hu cg br da o1 ft cf bf bN p0 p2 bl eD;refine AY 15 68 [.p g 0,.p g 0,.p g 4,.v sv,.p g 0,.p g 0,.p g 0,.p g 0,.s gm 12 cm,.p gq (j*3),.p gq (j*3),.p gq (j*3+1),.i ((f:Int)),.p gm f,.s gw 4 cw] (λ_ _ _=>True) ?_ ?_
   .intro i hi o ho a wx Hb Hd hG K HK
    have ej:=bc hG fo k4;have ei:=bc hG fo k0
    match i,hi with
    |0,_|1,_|2,_|4,_|5,_|6,_|7,_|9,_|10,_|11,_=>exact sP ho HK Hb Hd
    |3,_|8,_=>exact sL ho HK Hb Hd (hl:=GT ‹_›)
    |12,_=>exact sL ho HK Hb Hd (hl:=Fp (bc hG e9 p1))
    |13,_=>exact sI ho HK Hb Hd (hr:=by clear Hd Hb HK;go_simp)
    |14,_=>exact sL ho HK Hb Hd (hl:=J5 (bc hG dB DR))
    |_+15,hq=>omega
   .intro vs wx hR hG
    have q3:(vs 3)=sv:=BW hR 3;have eY:(vs 14)=.slice (some ⟨gw,0,none⟩) 4 cw:=BW hR 14;clear hR;simp only[Aj,Ae,yC,yz,yy,yw,q3,eY];simp;clear q3 eY;replace hG:Below W1.heap.size W1 wx:=hG;go_wp2_with fail;refine(CS.out _ hG).mono ?_;rintro r w2 ⟨rfl,⟨gR,fz⟩,bk,dl⟩;have I2:=(cF.out.below hG).yY dl fz;have B2:=cb.out.trans ((hG.mono dI.out).trans (bk.mono (yt _)));have a9:lo<=w2.heap.size:=yB dI.out (yB hG.size dl.size);have C2:=AA (P8 I2 a9 ca.out.k ca.out.zt hj 0 (by decide));have dr:=AA B2;clear fz bk dl I2 B2 hG CS k0 k4 p1 DR ao dB;go_wp2_with fail;refine C2.out.mono ?_;rintro r w3 ⟨rfl,hT⟩;obtain⟨m3,i3,e3,c3,I3⟩:=hT.yG;have B3:=AA (dr.out.trans hT.2.1);have dz:lo<=w3.heap.size:=yB a9 hT.2.2.size;obtain⟨gY,hE,_,p1,_⟩:=I3.pg (n:=j) (by show j<zY.length;rw[cX.out];exact hj);replace p1:w3.cell? ⟨gq,j*3+1,none⟩=some (.int .i64 (AB zY j).a):=p1;rw[cI.out] at p1;have fj:DJ (Ad P.zV (IS {P with zY:=zY,zR:=(((j:Int)+1)%16),swap:=P.swap.set sl (AH P.zV.mem f)} j 0)).1:=Fy ca.out.k;have C3:=Lu I3 dz fj ⟨2,0,(f:Int),0,0,⟨#[]⟩⟩ (show(0:Int)<=0 by decide) (show(0:Int)<3 by decide) (yh _) (by unfold Jk;simp) (show(0:Int)<=9223372036854775807 by decide);have fI:=AA C3;clear hT I3 fj C3 C2;go_wp2_with fail;refine fI.out.mono ?_;rintro r w4 ⟨rfl,⟨m4,i4,e4,c4,I4,_⟩,dm,bY⟩;have B4:=B3.out.trans dm;have cL:lo<=w4.heap.size:=yB dz bY.size;have I5:=I4.zp (n:=j) cX.out.symm (by show j<zY.length;rw[cX.out];exact hj) ⟨2,(sl:Int),false⟩;obtain⟨dw,fA,p0,p1,p2⟩:=I4.pg (n:=j) (by show j<zY.length;rw[cX.out];exact hj);have B5:=AA (AM B4 I5.2.1 I5.2.2 cL);have eX:=AA I5.1;clear I4 I5 dm bY B4 fI;go_wp2_with fail;go_returns;refine⟨rfl,⟨m4,i4,e4,c4,?_⟩,B5.out⟩;have:=eX.out;rw[PP (t:=gA) ⟨by decide,by decide,by decide⟩] at this;unfold EL Ah;simp only[cI.out,yb,gl.out];exact this
  .have c6:=HV.out
   rw[if_neg hc] at c6;have gz:=AA c6;have cG:=cF.out.zo (n:=j) (x:=⟨xw,xa,xu⟩) (y:=⟨xw,xa,false⟩) (j:=2) (u:=.bool false) cX.out.symm HX.out (by decide) rfl;have B2:=AA (AM cb.out cG.2.1 cG.2.2 (yB dp.out cb.out.size));have fy:C8 P.zY (zY.set j (NI (AB zY j))):=C8.trans HU.out (C8.one zY j);have bu:=AA cG.1;have M2:=AA (Wm cG.1 (by show(zY.set j _).length=16;rw[List.length_set];exact cX.out) c9);have gD:=AA fy;have ai:Y8 g gq n ((wr.setCell ⟨g,7,none⟩ (.int .i64 ((((j:Int)+1)%16)))).setCell ⟨gq,j*3+2,none⟩ (.bool false))<Y8 g gq n wr:=by
    rw[M0.out,M2.out]
    show yL (((j:Int)+1)%16) n+_<yL (j:Int) n+_
    by_cases e:j=n
    .subst e
     have hu:xu=true:=by
      have dt:xw=1:=by have:=(Gw 32 P.zY P.zR ca.out.zR.1 ca.out.zR.2 j (by rw[hV.out])).2;rw[<-HU.out.w j,cI.out] at this;exact this
      cases xu
      .exact absurd ⟨dt,rfl⟩ hc
      .rfl
     have e1:(AB (zY.set j ⟨xw,xa,false⟩) j).u=false:=by rw[Dh,if_pos ⟨rfl,by rw[cX.out];exact hj⟩]
     have e2:(AB zY j).u=true:=by rw[cI.out];exact hu
     have h1:=cu.out;have h2:=cr.out
     show _+(if(AB (zY.set j ⟨xw,xa,false⟩) j).u=true then 16 else 0)<_+(if(AB zY j).u=true then 16 else 0)
     rw[e1,e2,h1,h2];decide
    .have e1:(AB (zY.set j ⟨xw,xa,false⟩) n)=AB zY n:=by rw[Dh,if_neg (λh=>e h.1.symm)]
     have:=dj.out e
     show _+(if(AB (zY.set j ⟨xw,xa,false⟩) n).u=true then 16 else 0)<_+(if(AB zY n).u=true then 16 else 0)
     rw[e1];omega
   have gu:=AA ai;clear cG fy c6 HV dj cu cr M0 M2 ai hV
   by_cases dt:xw=1
   focus
    subst dt
    obtain rfl:xu=true:=by
     cases xu
     .exact absurd ⟨rfl,rfl⟩ hc
     .rfl
    clear hc
   rotate_left
   focus
    have t1:(xw !=1)=true:=by simp[dt]
    clear hc dt
   rotate_left
   all_goals
    go_wp2_with fail;go_roundw
    case rel=>exact⟨k,_,_,bu.out,gz.out,by have:=gD.out;rw[cI.out] at this;exact this,HN.out.1,HN.out.2,B2.out⟩
    case measure=>exact gu.out
def GY(k:AN)(f:Int)(ws:List Int)(j:Nat):AN:=(yC j).foldl (λk i=>(Ad k (Ah 3 f (i:Nat) (ws.getD i 0))).1) k
theorem Kc{k:AN}{f:Int}{ws:List Int}{j:Nat}:GY k f ws (j+1)=(Ad (GY k f ws j) (Ah 3 f (j:Int) (ws.getD j 0))).1:=by unfold GY;rw[wZ,uz];rfl
theorem Kb{k:AN}(h:DJ k){f:Int}{ws:List Int}(j:Nat):DJ (GY k f ws j):=by
 induction j with
 |zero=>exact h
 |succ j ih=>rw[Kc];exact Fy ih
theorem Vn{p:AR}{k1:AN}{fr:Int}(h:Ad p.zV (Ah 1 0 0 0)=(k1,fr,0)):
 Oh p n=({p with zV:=(Ad (if(AB p.zY n).w=2 then Uv k1 fr (AH p.swap (AB p.zY n).a.toNat) else k1) (IS p n (Hh fr))).1,swap:=if(AB p.zY n).w=2 then p.swap.set (AB p.zY n).a.toNat [] else p.swap,zY:=p.zY.set n ⟨1,fr,true⟩},true):=by
 unfold Oh;rw[h];simp only;rw[if_neg (by simp)]
theorem Yh{w w':World}{g b o:Nat}(h:w.grownBy w' (some g))(dx:b≠g)(hc:w.cell? ⟨b,o,none⟩=some v):w'.cell? ⟨b,o,none⟩=some v:=
 (F5 h (yA w _ hc) (λe=>dx (yF e).symm)).trans hc
def Oy(lo g:Nat)(w:World)(sv lv qv:Value)(t:AR×Bool)(r:Ending)(w':World):Prop:=
 r=.returned (.bool t.2)/\(t.2=true->∃m i e c,Gm lo g w' m i e c sv lv qv t.1)/\Below lo w w'
theorem XC{lo g:Nat}{w:World}{mv iv ev cv sv lv qv:Value}{P:AR}(h:Gm lo g w mv iv ev cv sv lv qv P)(bB:lo<=w.heap.size)(hP:ED P){n:Nat}(hn:n<16):
 Calls prog 45 #[.pointer (some ⟨g,0,none⟩),.int .i64 n] w (Oy lo g w sv lv qv (BV P n)):=by
 obtain⟨gq,qc,rfl,er,ex,f2,eh,_⟩:=h.page (n:=0) (by rw[hP.zO];omega);rw[hP.zO] at h er ⊢;unfold Oy;have ca:=AA hP;have HI:=AA h;have dp:=AA bB;have fd:(n:Int)<16:=by omega
 have ef:=eh.symm;obtain⟨_,_,_,_,_,_,x6,_,_⟩:=h.cells;obtain⟨ep,fq,p0,p1,p2⟩:=h.pg (n:=n) (by rw[hP.zO];exact hn);have hx:P.zY[n]?=some (AB P.zY n):=by unfold AB;exact A1 (by rw[hP.zO];exact hn)
 by_cases hw:(AB P.zY n).w=1
 .have HT:=AA (QX hP hw)
  have cG:=h.zo (n:=n) (x:=AB P.zY n) (y:= {AB P.zY n with u:=true}) (j:=2) (u:=.bool true) hP.zO.symm hx (by decide) rfl;have B2:=AA (AM (yD _ _) cG.2.1 cG.2.2 bB);have bu:=AA cG.1;rw[hw] at p0;clear h hP bB hx cG hw;go_in;go_wp2_with fail;go_ret;refine⟨AI (by rw[HT.out]),λ_=>⟨mv,iv,ev,cv,?_⟩,B2.out⟩;rw[HT.out];exact bu.out
 .have t0:((AB P.zY n).w==1)=false:=by simp[hw]
  have fS:=AA hw;have CN:=AA (P6 (w:=w) x6 (by have:=h.own.pgs.rd;exact this) hP.zO 1);have g8:Ac P.zY 1<=16:=by unfold Ac;exact yB vO (Nat.le_of_eq hP.zO)
  have CF:=AA (λW (hW:Below w.heap.size w W)=>Jv iv P.zV.zZ W (BD.below h.own.ker.2.1.rd hW));have T1:=AA (QZ (p:=P) (n:=n) hw);have T2:=AA (QV hP hw);have T3:=AA (QW hP hn hw);have FP:Ib P=(decide (Am P.zV.zZ<0)||decide ((Ac P.zY 1:Int)=P.zU)):=rfl;have cN:=AA FP;have fZ:=hP.zU;have fG:=AA hP;generalize(AB P.zY n).w=pw at p0 t0;clear h hP bB hx hw FP p1 p2;go_in;go_wp2_with fail;refine CN.out.mono ?_;rintro r w1 ⟨rfl,b1⟩;have x1:=(HI.out.below b1).cells.2.1;have au:=AA b1;clear p0 fq ep CN x6 b1;go_wp2_with fail;refine(CF.out _ au.out).mono ?_;rintro r w2 ⟨rfl,b2⟩;have bu:=AA (HI.out.below (au.out.trans (b2.mono au.out.size)));have dr:=AA ((au.out.trans (b2.mono au.out.size)).mono dp.out);have a9:=AA (yB dp.out (yB au.out.size b2.size));have x8:=bu.out.cells.2.2.2.2.2.2.2.2;clear b2 x1 HI CF;have tc:(((Ac P.zY 1:Nat):Int)==0)=decide (Ac P.zY 1=0):=by by_cases e:Ac P.zY 1=0<;>simp[e]
  have tl:(((Ac P.zY 1:Nat):Int)==P.zU)=decide ((Ac P.zY 1:Int)=P.zU):=by by_cases e:(Ac P.zY 1:Int)=P.zU<;>simp[e]
  go_upto_region 7 with fail;have ed:=AA (show decide (Am P.zV.zZ<0)=true↔Am P.zV.zZ<0 by simp);rw[show(decide (Am P.zV.zZ<0))=decide (Am P.zV.zZ<0) from rfl] at cN;generalize decide (Am P.zV.zZ<0)=fb at ed cN ⊢;go_cut [40] (λfM wx=>fM=.bool (fb&&decide (Ac P.zY 1=0))/\w2=wx)
  case first=>
   cases fb
   .go_wp2_with fail
    go_meet
    case rel=>exact⟨rfl,rfl⟩
   .go_wp2_with fail
    go_meet
    case rel=>exact⟨by simp,rfl⟩
  case rest=>
   obtain⟨rfl,rfl⟩:=hcut;cases ch:(fb&&decide (Ac P.zY 1=0))
   .go_upto_region 9 with fail
    go_cut [49] (λfL wx=>fL=.bool (fb||decide ((Ac P.zY 1:Int)=P.zU))/\w2=wx)
    case first=>
     cases fb
     .go_wp2_with fail
      go_meet
      case rel=>exact⟨by simp,rfl⟩
     .go_wp2_with fail
      go_meet
      case rel=>exact⟨rfl,rfl⟩
    case rest=>
    obtain⟨rfl,rfl⟩:=hcut;rw[<-cN.out];go_upto_if 49 with fail;go_cut [] (λwx=>∃P1 m i e c,Gm lo g wx m i e c sv lv (.slice (some ⟨gq,0,none⟩) 16 qc) P1/\Below lo w wx/\lo<=wx.heap.size/\ED P1/\0<=Am P1.zV.zZ/\(AB P1.zY n).w≠1/\BV P n=Oh P1 n)
    case first=>
     have ew:¬(Am P.zV.zZ<0/\Ac P.zY 1=0):=λh=>by rw[ed.out.2 h.1,h.2] at ch;cases ch
     cases hf:Ib P
     .have HF:=T2.out hf
      go_wp2_with fail;go_meet
      case rel=>exact⟨P,_,_,_,_,bu.out,dr.out,a9.out,fG.out,HF.2,fS.out,HF.1⟩
     .obtain⟨mm,pgs,hd,ct⟩:=T3.out hf ew
      have CM:=AA (Up bu.out a9.out fG.out ct.vic);have bw:=AA ct;clear ct;go_wp2_with fail;refine CM.out.mono ?_;rintro r w3 ⟨rfl,⟨m1,i1,e1,c1,I1⟩,cV⟩;have cF:=AA I1;have cb:=AA (dr.out.trans cV);have bl:=AA (yB a9.out cV.size);clear I1 cV CM;go_wp2_with fail;go_meet
      case rel=>exact⟨_,_,_,_,_,cF.out,cb.out,bl.out,bw.out.ok2,bw.out.free,bw.out.nw,bw.out.is⟩
    case rest=>
    obtain⟨P1,m1,i1,e1,c1,I1,B1,l1,O1,f1,n1,t1⟩:=hcut;have cF:=AA I1;have cb:=AA B1;have bl:=AA l1;have be:=AA O1;have dP:=AA f1;have eV:=AA t1;clear I1 B1 l1 O1 f1 t1 x8 bu dr a9 ch tc tl ed T1 T2 T3 cN;have C1:=Lu cF.out bl.out be.out.k ⟨1,0,0,0,0,gA⟩ (show(0:Int)<=0 by decide) (show(0:Int)<3 by decide) (by decide) (by unfold Jk;simp) (show(0:Int)<=9223372036854775807 by decide);obtain⟨k1,fr,co,dC,cT,fk⟩:∃k1 fr,Ad P1.zV (Ah 1 0 0 0)=(k1,fr,0)/\0<=fr/\fr<=11/\DJ k1:=by obtain⟨g1,_,_⟩:=FU (zZ:=P1.zV.zZ) (by have:=dP.out;omega);rw[be.out.k.len] at g1;have hk:=Fy (kind:=1) (a:=0) (b:=0) (c:=0) be.out.k;have e:=Lz (k:=P1.zV) be.out.may dP.out (a:=0) (b:=0) (c:=0);rw[e] at hk;exact⟨_,_,e,dP.out,by have:=dP.out;omega,hk⟩
    have cW:=eV.out;rw[Vn co] at cW;unfold ZZ at C1;rw[show(⟨1,0,0,0,0,gA⟩:Aa)=Ah 1 0 0 0 from rfl,co] at C1;have dq:=AA (xZ dC cT);have d7:=AA fk;clear co dC cT fk dP;go_wp2_with fail;refine C1.mono ?_;rintro r w2 ⟨rfl,⟨m2,i2,e2,c2,I2,_⟩,bk,dl⟩;have B2:=AA (cb.out.trans bk);have a9:=AA (yB bl.out dl.size);obtain⟨dT,fB,p0,p1,p2⟩:=I2.pg (n:=n) (by show n<P1.zY.length;rw[be.out.zO];exact hn);have bu:=AA I2;simp only at p0 p1;clear C1 bk dl I2
    by_cases cP:(AB P1.zY n).w=2
    .rw[if_pos cP,if_pos cP] at cW
     have fX:(0<=(AB P1.zY n).a/\(AB P1.zY n).a<=15)/\Di (AH P1.swap (AB P1.zY n).a.toNat)=true:=by
      rcases be.out.zY n hn with⟨x,_⟩|⟨x,_⟩|⟨x1,x2,x3,x4,x5⟩
      .omega
      .omega
      .rcases be.out.zv (AB P1.zY n).a.toNat (by omega) with x|x
       .exact absurd x x3
       .exact⟨by omega,x⟩
     obtain⟨⟨gf,eJ⟩,bz⟩:=fX;obtain⟨sl,bN⟩:∃sl:Nat,(AB P1.zY n).a=(sl:Int):=⟨(AB P1.zY n).a.toNat,by omega⟩
     have cQ:sl<16:=by omega
     have fT:(sl:Int)<16:=by omega
     rw[bN,yb] at bz cW;rw[bN] at p1;rw[cP] at p0;have dM:=AA cW;obtain⟨cg,e6⟩:=A3.1 bz;obtain⟨cZ,bf⟩:=bu.out.own.swp;have cd:Au lo w2 sv cZ P1.swap:=bf;have du:P1.swap.length=16:=be.out.zD;have br:cZ.length=16:=by rw[cd.2.1.1,du]
     obtain⟨gs,sc,e1,fU,_,f0,g2,_⟩:=cd.1.zM (by omega);rw[br] at e1 fU;subst e1;obtain⟨gr,rc,hu,cc,_,_⟩:=cd.row (f:=sl) (by omega) (by omega);rw[cg] at hu cc;have DR:=AQ.zz EG (by rw[br];exact cd.1) hu 0 _ rfl;rw[wl,xL] at DR;have x4:=bu.out.cells.2.2.2.2.1;have eK:=AF.rd cc;have fP:gr≠g:=by obtain⟨eM,hc⟩:=A6 cc gr rfl;exact Bp hc bu.out.yK
     have DW:∀j,j<4->w2.cell? ⟨gr,j,none⟩=some (.int .i64 ((AH P1.swap sl).getD j 0)):=λj hj=>by have:=xB (show w2.ownsRow lo 3 1 (.slice (some ⟨gr,0,none⟩) 4 rc) 4 ((AH P1.swap sl).map (yf .i64)) by have:=cc;unfold AF at this;rwa [cg] at this) j hj;rw[this,wK,A1 (d:=0) (by omega)];rfl
     have Hr:=AA (xZ cg e6);have gO:=AA DW;clear cW bf cd hu cc eK bz cg e6 gf eJ br du DW cP;go_wp2_with fail;go_quiet (fail);generalize hwq:w2.drewN _=w3;have b3:Below w2.heap.size w2 w3:=by subst hwq;exact A8 (yD _ _) _
     have gI:=AA (bu.out.below b3);have g3:w2.grownBy w3 (some g):=AX b3 _;have gM:=AA g3;have B3:=AA (B2.out.trans (b3.mono a9.out));clear hwq b3 g3 x4 p0 p1 p2 fB dT DR;go_wp2_with fail;go_loopw [9,10,71] (λ_ _ ix wr=>∃k:Nat,k<=4/\ix=.int .i64 k/\(∃m i e c,Gm lo g wr m i e c (.slice (some ⟨gs,0,none⟩) 16 sc) lv (.slice (some ⟨gq,0,none⟩) 16 qc) {P1 with zV:=GY k1 fr (AH P1.swap sl) k})/\w2.grownBy wr (some g)/\Below lo w wr) (λ_ _ ix _=>4 - (intOf ix).toNat)
     case atStart=>exact⟨0,by omega,rfl,⟨_,_,_,_,gI.out⟩,gM.out,B3.out⟩
     case round=>
      obtain⟨k,hk,rfl,⟨m4,i4,e4,c4,I4⟩,bY,B4⟩:=hrel;have cL:lo<=wr.heap.size:=yB a9.out bY.size
      by_cases fi:k<4
      .have k4:(k:Int)<4:=by omega
       have DW:=Yh bY fP (gO.out k fi);have e0:(AH P1.swap sl).getD k 0<=9223372036854775807:=by have:=(Hr.out.2 _ (DH (d:=0) (show k<(AH P1.swap sl).length by rw[Hr.out.1];exact fi))).2;omega
       have C4:=AA (Lu I4 cL (Kb d7.out k) ⟨3,0,fr,(k:Int),(AH P1.swap sl).getD k 0,⟨#[]⟩⟩ (show(0:Int)<=0 by decide) (show(0:Int)<3 by decide) (yh _) (by unfold Jk;simp) e0);have gx:=AA bY;have ee:=AA B4;have gp:=AA (Kc (k:=k1) (f:=fr) (ws:=AH P1.swap sl) (j:=k));generalize(AH P1.swap sl).getD k 0=wd at*;clear I4 bY B4 e0;go_wp2_with fail;refine C4.out.mono ?_;rintro r w5 ⟨rfl,⟨m5,i5,e5,c5,I5,_⟩,fx,fn⟩;have fD:Gm lo g w5 m5 i5 e5 c5 (.slice (some ⟨gs,0,none⟩) 16 sc) lv (.slice (some ⟨gq,0,none⟩) 16 qc) {P1 with zV:=GY k1 fr (AH P1.swap sl) (k+1)}:=by rw[PP (t:=gA) ⟨by decide,by decide,by decide⟩] at I5;rw[gp.out];exact I5
       have eX:=AA fD;have G5:=AA (AP gx.out fn);have B5:=AA (ee.out.trans fx);clear I5 fD fx fn C4 DW;go_wp2_with fail;go_roundw
       case rel=>exact⟨k+1,by omega,by go_num,⟨_,_,_,_,eX.out⟩,G5.out,B5.out⟩
       case measure=>simp[intOf];omega
      .obtain rfl:k=4:=by omega
       rw[show((4:Nat):Int)=4 from rfl];have dO:=AA I4;have ee:=AA B4;have dH:=AA cL;generalize hW4:wr=W4 at*;clear I4 bY B4 hW4;have x4:=dO.out.cells.2.2.2.2.1;have bY:=AW dO.out.yK;obtain⟨dw,fA,_,p1,_⟩:=dO.out.pg (n:=n) (by show n<P1.zY.length;rw[be.out.zO];exact hn);replace p1:W4.cell? ⟨gq,n*3+1,none⟩=some (.int .i64 (AB P1.zY n).a):=p1;rw[bN] at p1;go_wp2_with fail;refine AY 9 105 [.p g 0,.p g 0,.p g 4,.s gs 16 sc,.p gq (n*3),.p gq (n*3),.p gq (n*3+1),.i ((sl:Int)),.p gs sl] (λ_ _ _=>True) ?_ ?_
       .intro i hi o ho a wx Hb Hd hG K HK
        match i,hi with
        |0,_|1,_|2,_|4,_|5,_|6,_=>exact sP ho HK Hb Hd
        |3,_=>exact sL ho HK Hb Hd (hl:=GT (bc hG bY x4))
        |7,_=>exact sL ho HK Hb Hd (hl:=Fp (bc hG dw p1))
        |8,_=>exact sI ho HK Hb Hd (hr:=by clear Hd Hb HK;go_simp)
       .intro vs wx hR hG
        have q8:(vs 8)=.pointer (some ⟨gs,sl,none⟩):=BW hR 8;clear hR;simp only[Aj,Ae,yC,yz,yy,yw,q8];simp;clear q8;replace hG:Below W4.heap.size W4 wx:=hG;have eO:=dO.out.below hG;obtain⟨cZ,bf⟩:=eO.own.swp;replace bf:Au lo wx (.slice (some ⟨gs,0,none⟩) 16 sc) cZ P1.swap:=bf;have br:cZ.length=16:=by rw[bf.2.1.1];exact be.out.zD
        have dd:=yB dH.out hG.size;have R:=bf.set (B:=wx.heap.size) (j:=sl) (r:=[]) (v':=.slice none 0 0) (yD _ _) (World.ownsRow_nil _ _ _ _) (yt _) dd br.symm (by omega);have I5:=AA (eO.yY R.2 R.1);have g1:wx.ownsRow lo 29 1 (.slice (some ⟨gs,0,none⟩) 16 sc) 16 cZ:=by have:=bf.1;unfold AQ at this;rwa [Gg,br] at this
        obtain⟨cv0,C1⟩:∃v,wx.cell? ⟨gs,sl,none⟩=some v:=by have C1:=xB g1 sl (by omega);rw[yu (by omega)] at C1;exact⟨_,C1⟩
        have F1:=World.ownsRow.frozenAt g1 sl;have B5:=AA (AM (ee.out.trans (hG.mono dH.out)) R.2 (yq bf.1 gs rfl).1 dd);have ck:=AA (yB dd R.2.size);have eU:=AA (Kb d7.out (f:=fr) (ws:=AH P1.swap sl) 4);have dN:=dM;clear dO ee eO R g1 bf x4 p1 fA dM br;go_wp2_with fail;clear C1 F1;generalize wx.setCell _ _=w5 at*;refine(Iy fr _ dq.out.1 dq.out.2).mono ?_;rintro r w6 ⟨rfl,rfl⟩;have C6:=AA (P8 (P:= {P1 with zV:=GY k1 fr (AH P1.swap sl) 4,swap:=P1.swap.set sl []}) I5.out ck.out eU.out be.out.zt hn (Hh fr) (by have:=dq.out.2;unfold Hh;omega));generalize hen:Hh fr=en at C6;have eR:=AA hen;clear hen;go_wp2_with fail;refine C6.out.mono ?_;rintro r w7 ⟨rfl,hT⟩;obtain⟨m7,i7,e7,c7,I7⟩:=hT.yG;have B7:=B5.out.trans hT.2.1;have de:lo<=w7.heap.size:=yB ck.out hT.2.2.size;obtain⟨fW,gg,p0,p1,p2⟩:=I7.pg (n:=n) (by show n<P1.zY.length;rw[be.out.zO];exact hn);have I8:=I7.zp (n:=n) be.out.zO.symm (by show n<P1.zY.length;rw[be.out.zO];exact hn) ⟨1,fr,true⟩;have B8:=AA (AM B7 I8.2.1 I8.2.2 de);have eW:=AA I8.1;clear hT I7 I8 B7 C6;go_wp2_with fail;go_ret;refine⟨AI (by rw[dN.out]),λ_=>⟨m7,i7,e7,c7,?_⟩,B8.out⟩;rw[dN.out];have e8:=eW.out;rw[<-eR.out] at e8;exact e8
    .rw[if_neg cP,if_neg cP] at cW
     have t2:((AB P1.zY n).w==2)=false:=by simp[cP]
     have dN:=AA cW;have I5:=bu;have B5:=B2;have ck:=a9;have eU:=d7;generalize(AB P1.zY n).w=pw at p0 t2;clear cW cP d7;go_wp2_with fail;clear p0 p1 p2 t2 fB dT;refine(Iy fr _ dq.out.1 dq.out.2).mono ?_;rintro r w6 ⟨rfl,rfl⟩;have C6:=AA (P8 (P:= {P1 with zV:=k1,swap:=P1.swap}) I5.out ck.out eU.out be.out.zt hn (Hh fr) (by have:=dq.out.2;unfold Hh;omega));generalize hen:Hh fr=en at C6;have eR:=AA hen;clear hen;go_wp2_with fail;refine C6.out.mono ?_;rintro r w7 ⟨rfl,hT⟩;obtain⟨m7,i7,e7,c7,I7⟩:=hT.yG;have B7:=B5.out.trans hT.2.1;have de:lo<=w7.heap.size:=yB ck.out hT.2.2.size;obtain⟨fW,gg,p0,p1,p2⟩:=I7.pg (n:=n) (by show n<P1.zY.length;rw[be.out.zO];exact hn);have I8:=I7.zp (n:=n) be.out.zO.symm (by show n<P1.zY.length;rw[be.out.zO];exact hn) ⟨1,fr,true⟩;have B8:=AA (AM B7 I8.2.1 I8.2.2 de);have eW:=AA I8.1;clear hT I7 I8 B7 C6;go_wp2_with fail;go_ret;refine⟨AI (by rw[dN.out]),λ_=>⟨m7,i7,e7,c7,?_⟩,B8.out⟩;rw[dN.out];have e8:=eW.out;rw[<-eR.out] at e8;exact e8
   .have HT:=AA (T1.out (by
     simp only[yp,decide_eq_true_eq] at ch;exact⟨ed.out.1 ch.1,ch.2⟩))
    go_wp2_with fail;go_ret;exact⟨AI (by rw[HT.out]),λh=>(by rw[HT.out] at h;cases h),dr.out⟩
theorem DF{lo g:Nat}{w:World}{a0 a1 a2 a3 a4 a5 a6 a7 a8 m i e c s l q:Value}{P:AR}(hB:w.heap[g]?=some (.cells #[a0,a1,a2,a3,a4,a5,a6,a7,a8] 32 (0,0)))(O:FG lo w m i e c s l q P):
 (((Ew w g m i e c s l q).setCell ⟨g,7,none⟩ (.int .i64 P.zR)).setCell ⟨g,8,none⟩ (.int .i64 P.zU)).heap[g]?=some (.cells #[m,i,e,c,s,l,q,.int .i64 P.zR,.int .i64 P.zU] 32 (0,0))/\
 FG lo (((Ew w g m i e c s l q).setCell ⟨g,7,none⟩ (.int .i64 P.zR)).setCell ⟨g,8,none⟩ (.int .i64 P.zU)) m i e c s l q P/\
 w.grownBy (((Ew w g m i e c s l q).setCell ⟨g,7,none⟩ (.int .i64 P.zR)).setCell ⟨g,8,none⟩ (.int .i64 P.zU)) (some g):=by
 have gr:=FD (w:=w) (g:=g) (b0:=m) (b1:=i) (b2:=e) (b3:=c) (b4:=s) (b5:=l) (b6:=q) (b7:=.int .i64 P.zR) (b8:=.int .i64 P.zU);exact⟨GV hB,O.yL gr hB,gr⟩
theorem Lg{B g:Nat}{w0 w:World}{a0 a1 a2 a3 a4 a5 a6 a7 a8:Value}(hB:w.heap[g]?=some (.cells #[a0,a1,a2,a3,a4,a5,a6,a7,a8] 32 (0,0)))(hb:Below B w0 w)(hg:B<=g):
 (((Ew w g (.slice none 0 0) (.slice none 0 0) (.slice none 0 0) (.slice none 0 0) (.slice none 0 0) (.slice none 0 0) (.slice none 0 0)).setCell ⟨g,7,none⟩ (.int .i64 0)).setCell ⟨g,8,none⟩ (.int .i64 0)).heap[g]?=some (.cells #[.slice none 0 0,.slice none 0 0,.slice none 0 0,.slice none 0 0,.slice none 0 0,.slice none 0 0,.slice none 0 0,.int .i64 0,.int .i64 0] 32 (0,0))/\
 Below B w0 (((Ew w g (.slice none 0 0) (.slice none 0 0) (.slice none 0 0) (.slice none 0 0) (.slice none 0 0) (.slice none 0 0) (.slice none 0 0)).setCell ⟨g,7,none⟩ (.int .i64 0)).setCell ⟨g,8,none⟩ (.int .i64 0)):=
 ⟨GV hB,AM hb FD hg (yB hg (Nat.le_of_lt (AW hB)))⟩
theorem Gm.start{lo:Nat}{w:World}{m i e c s l q:Value}{P:AR}(O:FG lo w m i e c s l q P)(bB:lo<=w.heap.size):Gm lo w.heap.size (w.alloc (.cells #[m,i,e,c,s,l,q,.int .i64 P.zR,.int .i64 P.zU] 32)) m i e c s l q P:=
 ⟨yv _ _,bB,O.below (AE _ _)⟩
def IW(w:World)(t:AR×Bool)(r:Ending)(w':World):Prop:=∃m i e c s l q,r=.returned (.tuple #[AO m i e c s l q t.1.zR t.1.zU,.bool t.2])/\FG w.heap.size w' m i e c s l q t.1/\Below w.heap.size w w'
theorem Qm(mv iv ev cv sv lv qv:Value)(P:AR)(n:Int)(w:World)(h:Kx w mv iv ev cv sv lv qv P)(hs:EW P.zV)(ch:(Bg P&&Be n 0 15)=false):
 Calls prog 15 #[AO mv iv ev cv sv lv qv P.zR P.zU,.int .i64 n] w λr w'=>VI r/\Below w.heap.size w w':=by
 unfold AO;obtain⟨B0,B1,b9,dQ⟩:=MZ w (.cells #[mv,iv,ev,cv,sv,lv,qv,.int .i64 P.zR,.int .i64 P.zU] 32) (.cells #[.slice none 0 0,.slice none 0 0,.slice none 0 0,.slice none 0 0,.slice none 0 0,.slice none 0 0,.slice none 0 0,.int .i64 0,.int .i64 0] 32);have h0:=h.below b9;go_in;go_wp2_with fail;generalize(w.alloc _).alloc _=W0 at*;have CV:=AA (λW (hW:Below W0.heap.size W0 W)=>G0 mv iv ev cv sv lv qv P W (h0.below hW) hs);have bm:=AA b9;have cb:=AA B1;generalize Bg P=ok at*;clear h h0 b9 B0 dQ;refine(CV.out W0 (yD _ _)).mono ?_;rintro r w1 ⟨rfl,b1⟩;have Bw:=AA (bm.out.trans (b1.mono bm.out.size));have N1:=AC cb.out b1;have f1:=AK N1;obtain⟨a0,a1,a2,a3,a4,a5,a6,a7,a8⟩:=AD N1;have S2:=AA (Lg N1 (Bw.out) (by omega));clear b1 B1 N1;cases ok
 rotate_left
 focus
  go_wp2_with fail
  refine(MR _ _).mono ?_;rintro r w2 ⟨rfl,rfl⟩;rw[show Be n 0 15=false by simpa using ch]
 rotate_left
 all_goals
  go_wp2_with fail
  clear a0 a1 a2 a3 a4 a5 a6 a7 a8 f1;obtain⟨N2,B2⟩:=S2.out;unfold Ew at N2 B2;exact yk (v:=.tuple #[.agg #[_,_,_,_,_,_,_,_,_],_]) (by simp[results,Tryz.results15,go_sem,AD N2]) rfl ⟨rfl,B2⟩
theorem PI(mv iv ev cv sv lv qv:Value)(P:AR)(w:World)(h:Kx w mv iv ev cv sv lv qv P)(hP:ED P){n:Nat}(hn:n<16):
 Calls prog 15 #[AO mv iv ev cv sv lv qv P.zR P.zU,.int .i64 n] w (IW w (BV P n)):=by
 unfold AO IW;obtain⟨B0,B1,b9,dQ⟩:=MZ w (.cells #[mv,iv,ev,cv,sv,lv,qv,.int .i64 P.zR,.int .i64 P.zU] 32) (.cells #[.slice none 0 0,.slice none 0 0,.slice none 0 0,.slice none 0 0,.slice none 0 0,.slice none 0 0,.slice none 0 0,.int .i64 0,.int .i64 0] 32);have h0:=h.below b9;have c8:Bg P=true:=Dl.2 hP;have HT:=λ(h:(BV P n).2=false)=>GG hP hn h
 have HO:=Nz hP hn;generalize hT:BV P n=t at HT HO ⊢;obtain⟨Q,bb⟩:=t;replace HT:=AA HT;replace HO:=AA HO;have gv:=AA hT;clear hT;dsimp only at HT HO ⊢;go_in;go_wp2_with fail;generalize(w.alloc _).alloc _=W0 at*;have CV:=AA (λW (hW:Below W0.heap.size W0 W)=>G0 mv iv ev cv sv lv qv P W (h0.below hW) (Ce hP.k));have CO:=AA (λW (hW:Below W0.heap.size W0 W)=>Uw mv iv ev cv sv lv qv P W (h0.below hW) hP);rw[c8] at CV;have bm:=AA b9;have fJ:=AA B0;have cb:=AA B1;have gF:=AA hP;have fd:Be (n:Int) 0 15=true:=Ab.2 (by omega);clear h h0 b9 B0 B1 hP c8;refine(CV.out W0 (yD _ _)).mono ?_;rintro r w1 ⟨rfl,b1⟩;obtain⟨x0,x1,x2,x3,x4,x5,x6,x7,x8⟩:=AD (AC fJ.out b1);have au:=AA b1;clear b1 CV;go_wp2_with fail;refine(MR _ _).mono ?_;rintro r w2 ⟨rfl,rfl⟩;rw[fd];go_wp2_with fail;refine(CO.out w1 au.out).mono ?_;rintro r w2 ⟨m2,i2,e2,c2,s2,l2,q2,rfl,O2,b2⟩;unfold AO;obtain⟨⟨⟨ma,mn,mc,rfl⟩,⟨ia,iN,ic,rfl⟩,⟨ea,en,ec,rfl⟩,⟨qa,qn,qc,rfl⟩⟩,⟨sa,sn,sc,rfl⟩,⟨la,ln,lc,rfl⟩,⟨pa,pn,pc,rfl⟩⟩:=O2.zQ;have fe:W0.heap.size<=w2.heap.size:=yB au.out.size b2.size;have I3:=Gm.start (O2.lower au.out.size) fe;have b3:Below W0.heap.size W0 (w2.alloc (.cells #[.slice ma mn mc,.slice ia iN ic,.slice ea en ec,.slice qa qn qc,.slice sa sn sc,.slice la ln lc,.slice pa pn pc,.int .i64 P.zR,.int .i64 P.zU] 32)):=au.out.trans ((b2.mono au.out.size).trans ((AE _ _).mono fe));clear O2 b2 x0 x1 x2 x3 x4 x5 x6 x7 x8;go_wp2_with fail;generalize w2.heap.size=g3 at*;generalize w2.alloc _=W3 at*;have CB:=XC I3 b3.size gF.out hn;have dk:=AA b3;clear I3 b3;rw[gv.out] at CB;unfold Oy at CB;refine CB.mono ?_;rintro r w4 ⟨rfl,hI,dm⟩;have d3:=AA (dk.out.trans dm);have B1:=AC cb.out d3.out;have cY:=AA (bm.out.trans (d3.out.mono bm.out.size));cases bb
 .have hs:=HT.out rfl
  obtain⟨x0,x1,x2,x3,x4,x5,x6,x7,x8⟩:=AD (AC fJ.out d3.out);clear hI dm CB;go_wp2_with fail;refine(CO.out w4 d3.out).mono ?_;rintro r w5 ⟨m5,i5,e5,c5,s5,l5,q5,rfl,O5,b5⟩;unfold AO;clear x0 x1 x2 x3 x4 x5 x6 x7 x8;subst hs;obtain⟨⟨⟨ma,mn,mc,rfl⟩,⟨ia,iN,ic,rfl⟩,⟨ea,en,ec,rfl⟩,⟨qa,qn,qc,rfl⟩⟩,⟨sa,sn,sc,rfl⟩,⟨la,ln,lc,rfl⟩,⟨pa,pn,pc,rfl⟩⟩:=O5.zQ;have N5:=AC B1 b5;have S5:=DF N5 O5;obtain⟨a0,a1,a2,a3,a4,a5,a6,a7,a8⟩:=AD N5;have f5:=AK N5;have eS:=AA S5;have cH:=AA b5;have eP:=AA (AW B1);clear O5 S5 N5 b5 B1;go_wp2_with fail;clear a0 a1 a2 a3 a4 a5 a6 a7 a8 f5;obtain⟨N6,O6,eL⟩:=eS.out;have B6:=AM (cY.out.trans (cH.out.mono (by have:=cY.out.size;have:=eP.out;omega))) eL (by omega) (by have:=cY.out.size;have:=cH.out.size;omega);have O7:=O6.lower (lo':=w.heap.size) (by have:=cY.out.size;omega);unfold Ew at N6 O7 B6;exact yk (v:=.tuple #[.agg #[_,_,_,_,_,_,_,_,_],.bool false]) (by simp[results,Tryz.results15,go_sem,AD N6]) rfl ⟨_,_,_,_,_,_,_,rfl,O7,B6⟩
 .obtain⟨m4,i4,e4,c4,I4⟩:=hI rfl
  have C5:=AA (Uw _ _ _ _ _ _ _ Q w4 I4.own.rd HO.out);obtain⟨x0,x1,x2,x3,x4,x5,x6,x7,x8⟩:=AD I4.yK;clear dm CB I4;go_wp2_with fail;refine C5.out.mono ?_;rintro r w5 ⟨m5,i5,e5,c5,s5,l5,q5,rfl,O5,b5⟩;unfold AO;clear x0 x1 x2 x3 x4 x5 x6 x7 x8 C5;obtain⟨⟨⟨ma,mn,mc,rfl⟩,⟨ia,iN,ic,rfl⟩,⟨ea,en,ec,rfl⟩,⟨qa,qn,qc,rfl⟩⟩,⟨sa,sn,sc,rfl⟩,⟨la,ln,lc,rfl⟩,⟨pa,pn,pc,rfl⟩⟩:=O5.zQ;have N5:=AC B1 b5;have S5:=DF N5 O5;obtain⟨a0,a1,a2,a3,a4,a5,a6,a7,a8⟩:=AD N5;have f5:=AK N5;have eS:=AA S5;have cH:=AA b5;have eP:=AA (AW B1);clear O5 S5 N5 b5 B1;go_wp2_with fail;clear a0 a1 a2 a3 a4 a5 a6 a7 a8 f5;obtain⟨N6,O6,eL⟩:=eS.out;have B6:=AM (cY.out.trans (cH.out.mono (by have:=cY.out.size;have:=eP.out;omega))) eL (by omega) (by have:=cY.out.size;have:=cH.out.size;omega);have O7:=O6.lower (lo':=w.heap.size) (by have:=cY.out.size;omega);unfold Ew at N6 O7 B6;exact yk (v:=.tuple #[.agg #[_,_,_,_,_,_,_,_,_],.bool true]) (by simp[results,Tryz.results15,go_sem,AD N6]) rfl ⟨_,_,_,_,_,_,_,rfl,O7,B6⟩
theorem D6(n:Int)(w:World):Calls prog 80 #[.int .i64 n] w λe w'=>e=.returned (.bool (Be n 0 11))/\w=w':=by go_in;go_wp2_with (go_at_call 42;refine(Cv _ _ _ _).mono ?_;rintro e w' ⟨rfl,rfl⟩);go_ret;exact⟨rfl,rfl⟩
theorem JL(n:Int)(w:World):Calls prog 180 #[.int .i64 n] w λe w'=>e=.returned (.bool (Be n 0 2))/\w=w':=by go_in;go_wp2_with (go_at_call 42;refine(Cv _ _ _ _).mono ?_;rintro e w' ⟨rfl,rfl⟩);go_ret;exact⟨rfl,rfl⟩
theorem FY(n:Int)(w:World):Calls prog 130 #[.int .i64 n] w λe w'=>e=.returned (.bool (Bd n))/\w=w':=by
 by_cases h2:n=2
 .subst h2
  go_in;go_wp2_with fail;go_ret;exact⟨rfl,rfl⟩
 .have t2:(n==2)=false:=by simp[h2]
  have E:=AA (show Bd n=(n==3) by by_cases h3:n=3<;>simp[Bd,h2,h3]);clear h2;go_in;go_wp2_with fail;go_ret;exact⟨AI E.out.symm,rfl⟩
def EF(x:Int):Int:=if x=0 then 0 else if Bh x then 1 else 2
theorem Ju(x:Int)(w:World):Calls prog 222 #[.int .i64 x] w λe w'=>e=.returned (.int .i64 (EF x))/\w=w':=by
 by_cases h0:x=0
 .subst h0
  go_in;go_wp2_with fail;go_ret;exact⟨rfl,rfl⟩
 .have t0:(x==0)=false:=by simp[h0]
  by_cases h1:0<x
  .by_cases h2:x%2=1
   .have t2:(x%2==1)=true:=by simp[h2]
    by_cases h3:x<48
    .have E:=AA (show EF x=1 by unfold EF;rw[if_neg h0,if_pos (by simp[Bh,h1,h2,h3])])
     clear h2 h0;go_in;go_wp2_with fail;go_ret;exact⟨Cb E.out.symm,rfl⟩
    .have E:=AA (show EF x=2 by unfold EF;rw[if_neg h0,if_neg (by simp[Bh,h1,h2,h3])])
     clear h2 h0;go_in;go_wp2_with fail;go_ret;exact⟨Cb E.out.symm,rfl⟩
   .have t2:(x%2==1)=false:=by simp[h2]
    have E:=AA (show EF x=2 by unfold EF;rw[if_neg h0,if_neg (by simp[Bh,h2])]);clear h2 h0;go_in;go_wp2_with fail;go_ret;exact⟨Cb E.out.symm,rfl⟩
  .have E:=AA (show EF x=2 by unfold EF;rw[if_neg h0,if_neg (by simp[Bh,h1])])
   clear h0;go_in;go_wp2_with fail;go_ret;exact⟨Cb E.out.symm,rfl⟩
theorem Cy(x:Int)(w:World)(hx:x<=9223372036854775807):Calls prog 186 #[.int .i64 x] w λe w'=>e=.returned (Sy x)/\w=w':=by
 cases hg:Bh x
 focus
  have E:=AA (Eg hg)
  have K:(EF x !=1)=true:=by unfold EF;split<;>simp[hg]
  generalize hk:EF x=k at K;have HK:=AA hk;clear hg hk
 rotate_left
 focus
  have hp:0<x/\x%2=1/\x<48:=by simpa[Bh,and_assoc] using hg
  have W:KQ x=(x%4==3):=by cases h:(x%4==3)<;>simp_all[KQ]
  have E:=AA (show Sy x=.tuple #[.int .i64 (x/4),.bool (x%4==3),.bool true] by rw[EX hg,UO hg,W]);have HK:=AA (show EF x=1 by unfold EF;rw[if_neg (by omega),hg];rfl);have h0:0<=x:=by omega
  clear hg W hp
 rotate_left
 all_goals
  go_in;go_wp2_with (go_at_call 222;refine(Ju _ _).mono ?_;rintro e w' ⟨rfl,rfl⟩;rw[HK.out]);go_ret3;exact⟨Nv E.out.symm,rfl⟩
theorem Zj(a b:ByteArray):((b.extract 0 a.size).toList==a.toList)=LC a b:=by rw[wA,beq_iff_eq,Lib.toList_data,Lib.toList_data];unfold LC;rw[uq,List.prefix_iff_eq_take];simp only[ByteArray.data_extract,Array.toList_extract,List.extract,Nat.sub_zero,List.drop_zero,Array.length_toList,ByteArray.size_data];exact eq_comm
theorem MB(a b:ByteArray)(w:World)(ha:a.size<=maxLen)(hb:b.size<=maxLen):Calls prog 134 #[.string a,.string b] w λe w'=>e=.returned (.bool (LC a b))/\w=w':=by
 unfold maxLen at ha hb
 by_cases h:a.size<=b.size
 .have h1:(a.size:Int)<=b.size:=by omega
  have E:=AA (Zj a b);go_in;go_wp2_with fail;go_ret;exact⟨AI E.out,rfl⟩
 .have h1:¬(a.size:Int)<=b.size:=by omega
  have E:=AA (show LC a b=false by
   cases hc:LC a b
   .rfl
   .have:=(uq.1 hc).length_le
    simp at this;omega)
  go_in;go_wp2_with fail;go_ret;exact⟨AI E.out.symm,rfl⟩
theorem Jl{α:Type}{p:α->Bool}{xs:List α}{f:Nat->α}(hf:∀k,k<xs.length->xs[k]?=some (f k))(h:∀j,j<xs.length->p (f j)=true):xs.all p=true:=by rw[yd];intro x hx;obtain⟨j,hj,rfl⟩:=wP hx;have:=h j hj;have e:=hf j hj;rw[yu hj] at e;rw[yF e];exact this
theorem Ip{α:Type}{p:α->Bool}{xs:List α}{x:α}(hx:xs[k]?=some x)(hp:p x=false):xs.all p=false:=by rw[List.all_eq_false];exact⟨x,ye hx,by simp[hp]⟩
theorem Ng{α:Type}{p:α->Bool}{xs:List α}{x:α}(hx:xs[k]?=some x)(hp:p x=true):xs.any p=true:=List.any_eq_true.2 ⟨x,ye hx,hp⟩
theorem LA{α:Type}{p:α->Bool}{xs:List α}{f:Nat->α}(hf:∀k,k<xs.length->xs[k]?=some (f k))(h:∀j,j<xs.length->p (f j)=false):xs.any p=false:=by rw[List.any_eq_false];intro x hx;obtain⟨j,hj,rfl⟩:=wP hx;have:=h j hj;have e:=hf j hj;rw[yu hj] at e;rw[yF e];simp[this]
theorem Ou{xs:List Int}(h:k<xs.length):xs[k]?=some (nth xs k):=Pu h
theorem LJ(v:Value)(r:List Int)(w:World)(h:Aw w v r):Calls prog 78 #[v] w λe w'=>e=.returned (.bool (Di r))/\Below w.heap.size w w':=by
 obtain⟨a,c,rfl,hc,ao,H⟩:=h.open;unfold maxLen at ao;have HH:=AA H;clear h H;go_in;go_wp2_with fail;go_loopw [3] (λix wr=>∃k:Nat,k<=r.length/\ix=.int .i64 k/\(∀j,j<k->EA (nth r j)=true)/\Below w.heap.size w wr) (λix _=>r.length - (intOf ix).toNat)
 case atStart=>exact⟨0,yh _,rfl,λj hj=>absurd hj (xP _),yD _ _⟩
 case round=>
  obtain⟨k,hk,rfl,ab,hb⟩:=hrel;have ad:=AA ab;clear ab
  by_cases ai:k<r.length
  .have ar:(k:Int)<(r.length:Int):=by omega
   obtain⟨b,bx,rfl,D⟩:=(HH.out.below hb).at ai;cases hp:EA (nth r k)
   .have S:=AA (show Di r=false by unfold Di;rw[Ip (Ou ai) hp];rfl)
    have Hp:=AA hp;clear hp;go_wp2_with fail;refine(Cv _ _ _ _).mono ?_;rintro e w' ⟨rfl,rfl⟩;rw[show Be _ 0 9999=false from Hp.out];go_wp2_with fail;go_ret;exact⟨AI S.out.symm,hb⟩
   .have Hp:=AA hp
    clear hp;go_wp2_with fail;refine(Cv _ _ _ _).mono ?_;rintro e w' ⟨rfl,rfl⟩;rw[show Be _ 0 9999=true from Hp.out];go_wp2_with fail;go_roundw
    case rel=>exact⟨k+1,by omega,by go_num,Ak ad.out Hp.out,hb⟩
    case measure=>simp[intOf];omega
  .have ek:k=r.length:=by omega
   have ab:=ad.out;rw[ek] at ab;have S:=AA (show Di r=((r.length:Int)==4) by unfold Di;rw[Jl (λk hk=>Ou hk) ab];by_cases h4:r.length=4<;>simp[h4]<;>omega);clear ad ab;go_wp2_with fail;go_ret;exact⟨AI S.out.symm,hb⟩
theorem Jq{m:List (List Int)}(h:k<m.length):m[k]?=some (AH m k):=by unfold AH;exact A1 h
theorem IK(v:Value)(m:List (List Int))(w:World)(h:Bf w v m):Calls prog 71 #[v] w λe w'=>e=.returned (.bool (Bs m))/\Below w.heap.size w w':=by
 obtain⟨a,c,rfl,hc,ao,H⟩:=h.open;unfold maxLen at ao;have HH:=AA H;clear h H;go_in;go_wp2_with fail;go_loopw [3] (λix wr=>∃k:Nat,k<=m.length/\ix=.int .i64 k/\(∀j,j<k->Di (AH m j)=true)/\Below w.heap.size w wr) (λix _=>m.length - (intOf ix).toNat)
 case atStart=>exact⟨0,yh _,rfl,λj hj=>absurd hj (xP _),yD _ _⟩
 case round=>
  obtain⟨k,hk,rfl,ab,hb⟩:=hrel;have ad:=AA ab;clear ab
  by_cases ai:k<m.length
  .have ar:(k:Int)<(m.length:Int):=by omega
   obtain⟨b,bx,u,rfl,cU,D,hr⟩:=(HH.out.below hb) k ai;have C:=AA (LJ u _ wr hr);clear hr;cases hp:Di (AH m k)
   .have S:=AA (show Bs m=false by unfold Bs;rw[Ip (Jq ai) hp];rfl)
    have Hp:=AA hp;clear hp;go_wp2_with fail;refine C.out.mono ?_;rintro e w2 ⟨rfl,b2⟩;rw[Hp.out];go_wp2_with fail;go_ret;exact⟨AI S.out.symm,hb.trans (b2.mono hb.size)⟩
   .have Hp:=AA hp
    clear hp;go_wp2_with fail;refine C.out.mono ?_;rintro e w2 ⟨rfl,b2⟩;rw[Hp.out];go_wp2_with fail;go_roundw
    case rel=>exact⟨k+1,by omega,by go_num,Ak ad.out Hp.out,hb.trans (b2.mono hb.size)⟩
    case measure=>simp[intOf];omega
  .have ek:k=m.length:=by omega
   have ab:=ad.out;rw[ek] at ab;have S:=AA (show Bs m=((m.length:Int)==12) by unfold Bs;rw[Jl (λk hk=>Jq hk) ab];by_cases h4:m.length=12<;>simp[h4]<;>omega);clear ad ab;go_wp2_with fail;go_ret;exact⟨AI S.out.symm,hb⟩
theorem WL{x:AU}(hk:x.k=0):DI x=decide (x=AU.zero):=by unfold DI;rw[show Be x.k 1 3=false from Vl.2 (by omega)];simp
theorem MX{x:AU}(hk:x.k≠0):DI x=(Be x.k 1 3&&BP x.g&&Be x.r 0 50):=by unfold DI;rw[show decide (x=AU.zero)=false by simp;intro e;rw[e] at hk;exact hk rfl];simp
theorem Ud(x:AU)(w:World)(hs:x.g.size<=maxLen):Calls prog 124 #[x.val] w λe w'=>e=.returned (.bool (DI x))/\Below w.heap.size w w':=by
 have E0:=WL (x:=x);have E1:=MX (x:=x);generalize DI x=res at E0 E1 ⊢;obtain⟨k,g,r⟩:=x;simp only[AU.val];dsimp only at E0 E1 hs;have C:=AA (λW=>EJ g W hs)
 by_cases hk:k=0
 .subst hk
  have R:=AA (show res=(decide (g=⟨#[]⟩)&&decide (r=0)) by rw[E0 rfl];simp[AU.zero]);clear E0 E1
  by_cases hg:g=⟨#[]⟩
  .subst hg
   by_cases hr:r=0
   .subst hr
    go_in;go_wp2_with fail;go_ret;exact⟨AI (by rw[R.out];rfl),AE _ _⟩
   .have R2:=AA (show res=false by rw[R.out];simp[hr])
    go_in;go_wp2_with fail;go_ret;exact⟨AI R2.out.symm,AE _ _⟩
  .have R2:=AA (show res=false by rw[R.out];simp[hg])
   have f3:¬g.toList=[]:=λe=>hg (by rw[Lib.toList_data] at e;obtain⟨⟨l⟩⟩:=g;simp at e;rw[e])
   go_in;go_wp2_with fail;go_ret;exact⟨AI R2.out.symm,AE _ _⟩
 .have t0:(k==0)=false:=by simp[hk]
  have R:=AA (E1 hk);clear E0 E1 hk;go_in;go_wp2_with fail;refine(Cv _ _ _ _).mono ?_;rintro e w2 ⟨rfl,rfl⟩;cases h1:Be k 1 3
  .have R2:=AA (show res=false by rw[R.out,h1];rfl)
   go_wp2_with fail;go_ret;exact⟨AI R2.out.symm,AE _ _⟩
  .go_wp2_with fail
   refine(C.out _).mono ?_;rintro e w2 ⟨rfl,rfl⟩;cases h2:BP g
   .have R2:=AA (show res=false by rw[R.out,h1,h2];rfl)
    go_wp2_with fail;go_ret;exact⟨AI R2.out.symm,AE _ _⟩
   .have R2:=AA (show res=Be r 0 50 by rw[R.out,h1,h2];rfl)
    go_wp2_with fail;refine(Cv _ _ _ _).mono ?_;rintro e w2 ⟨rfl,rfl⟩;go_wp2_with fail;go_ret;exact⟨AI R2.out.symm,AE _ _⟩
theorem DO(v:Value)(xs:List AU)(w:World)(h:BS w v xs)(hs:IF xs):Calls prog 72 #[v] w λe w'=>e=.returned (.bool (BI xs))/\Below w.heap.size w w':=by
 obtain⟨a,c,rfl,hc,ao,H⟩:=BD.open Ay (by decide) h;unfold maxLen at ao;have HH:=AA H;have HS:=AA hs;clear h H hs;go_in;go_wp2_with fail;go_loopw [3] (λix wr=>∃k:Nat,k<=xs.length/\ix=.int .i64 k/\(∀j,j<k->DI (zS xs j)=true)/\Below w.heap.size w wr) (λix _=>xs.length - (intOf ix).toNat)
 case atStart=>exact⟨0,yh _,rfl,λj hj=>absurd hj (xP _),yD _ _⟩
 case round=>
  obtain⟨k,hk,rfl,ab,hb⟩:=hrel;have ad:=AA ab;clear ab
  by_cases ai:k<xs.length
  .have ar:(k:Int)<(xs.length:Int):=by omega
   obtain⟨b,bx,rfl,cU,D0,D1,D2⟩:=(HH.out.below hb).zP ai;have C:=Ud (zS xs k) wr (HS.out _ (ye (Cj ai)));simp only[AU.val] at C;have HC:=AA C;clear C;cases hp:DI (zS xs k)
   .have S:=AA (show BI xs=false by unfold BI;rw[Ip (Cj ai) hp];rfl)
    have Hp:=AA hp;clear hp;go_wp2_with fail;refine HC.out.mono ?_;rintro e w2 ⟨rfl,b2⟩;rw[Hp.out];go_wp2_with fail;go_ret;exact⟨AI S.out.symm,hb.trans (b2.mono hb.size)⟩
   .have Hp:=AA hp
    clear hp;go_wp2_with fail;refine HC.out.mono ?_;rintro e w2 ⟨rfl,b2⟩;rw[Hp.out];go_wp2_with fail;go_roundw
    case rel=>exact⟨k+1,by omega,by go_num,Ak ad.out Hp.out,hb.trans (b2.mono hb.size)⟩
    case measure=>simp[intOf];omega
  .have ek:k=xs.length:=by omega
   have ab:=ad.out;rw[ek] at ab;have S:=AA (show BI xs=((xs.length:Int)==12) by unfold BI;rw[Jl (λk hk=>Cj hk) ab];by_cases h4:xs.length=12<;>simp[h4]<;>omega);clear ad ab;go_wp2_with fail;go_ret;exact⟨AI S.out.symm,hb⟩
theorem Ye{xs:List AU}(hk:k<xs.length)(h:∀j,j<k->decide ((zS xs j).k=0)=false)(hp:decide ((zS xs k).k=0)=true):Am xs=(k:Int):=by
 have g:∀j (hj:j<xs.length),xs[j]=zS xs j:=λj hj=>by have:=Cj hj;rw[yu hj] at this;exact yF this
 unfold Am;rw[if_pos (Ng (Cj hk) hp)];have:xs.findIdx (λx=>decide (x.k=0))=k:=by
  rw[sT hk];exact⟨by rw[g k hk];exact hp,λj hj=>by rw[g j (by omega)];exact h j hj⟩
 rw[this]
theorem XN{xs:List AU}(h:∀j,j<xs.length->decide ((zS xs j).k=0)=false):Am xs= -1:=by
 unfold Am;rw[if_neg];rw[LA (λk hk=>Cj hk) h];simp
theorem OM(v:Value)(xs:List AU)(w:World)(h:BS w v xs):Calls prog 217 #[v] w λe w'=>e=.returned (.int .i64 (Am xs))/\Below w.heap.size w w':=by
 obtain⟨a,c,rfl,hc,ao,H⟩:=BD.open Ay (by decide) h;unfold maxLen at ao;have HH:=AA H;clear h H;go_in;go_wp2_with fail;go_loopw [3] (λix wr=>∃k:Nat,k<=xs.length/\ix=.int .i64 k/\(∀j,j<k->decide ((zS xs j).k=0)=false)/\Below w.heap.size w wr) (λix _=>xs.length - (intOf ix).toNat)
 case atStart=>exact⟨0,yh _,rfl,λj hj=>absurd hj (xP _),yD _ _⟩
 case round=>
  obtain⟨k,hk,rfl,ab,hb⟩:=hrel;have ad:=AA ab;clear ab
  by_cases ai:k<xs.length
  .have ar:(k:Int)<(xs.length:Int):=by omega
   obtain⟨b,bx,rfl,cU,D0,D1,D2⟩:=(HH.out.below hb).zP ai;cases hp:decide ((zS xs k).k=0)
   .have t0:((zS xs k).k==0)=false:=by simpa using hp
    have Hp:=AA hp;clear hp;go_wp2_with fail;go_roundw
    case rel=>exact⟨k+1,by omega,by go_num,Ak ad.out Hp.out,hb⟩
    case measure=>simp[intOf];omega
   .have t0:((zS xs k).k==0)=true:=by simpa using hp
    have S:=AA (Ye ai ad.out hp);have Hp:=AA hp;clear hp;go_wp2_with fail;go_ret;exact⟨Cb S.out.symm,hb⟩
  .have ek:k=xs.length:=by omega
   have ab:=ad.out;rw[ek] at ab;have S:=AA (XN ab);clear ad ab;go_wp2_with fail;go_ret;exact⟨Cb S.out.symm,hb⟩
theorem Rr(v:Value)(xs:List Int)(n:Int)(w:World)(h:Aw w v xs):Calls prog 228 #[v,.int .i64 n] w λe w'=>e=.returned (.bool (xs.any λx=>decide (x=n)))/\Below w.heap.size w w':=by
 obtain⟨a,c,rfl,hc,ao,H⟩:=h.open;unfold maxLen at ao;have HH:=AA H;clear h H;go_in;go_wp2_with fail;go_loopw [5] (λix wr=>∃k:Nat,k<=xs.length/\ix=.int .i64 k/\(∀j,j<k->decide (nth xs j=n)=false)/\Below w.heap.size w wr) (λix _=>xs.length - (intOf ix).toNat)
 case atStart=>exact⟨0,yh _,rfl,λj hj=>absurd hj (xP _),yD _ _⟩
 case round=>
  obtain⟨k,hk,rfl,ab,hb⟩:=hrel;have ad:=AA ab;clear ab
  by_cases ai:k<xs.length
  .have ar:(k:Int)<(xs.length:Int):=by omega
   obtain⟨b,bx,rfl,D⟩:=(HH.out.below hb).at ai;cases hp:decide (nth xs k=n)
   .have t0:(nth xs k==n)=false:=by simpa using hp
    have Hp:=AA hp;clear hp;go_wp2_with fail;go_roundw
    case rel=>exact⟨k+1,by omega,by go_num,Ak ad.out Hp.out,hb⟩
    case measure=>simp[intOf];omega
   .have t0:(nth xs k==n)=true:=by simpa using hp
    have S:=AA (Ng (p:=λx=>decide (x=n)) (Ou ai) hp);have Hp:=AA hp;clear hp;go_wp2_with fail;go_ret;exact⟨AI S.out.symm,hb⟩
  .have ek:k=xs.length:=by omega
   have ab:=ad.out;rw[ek] at ab;have S:=AA (LA (p:=λx=>decide (x=n)) (λk hk=>Ou hk) ab);clear ad ab;go_wp2_with fail;go_ret;exact⟨AI S.out.symm,hb⟩
theorem KS(v:Value)(ss:List ByteArray)(g:ByteArray)(w:World)(h:BR w v ss)(hs:DQ ss)(hg:g.size<=maxLen):Calls prog 79 #[v,.string g] w λe w'=>e=.returned (.bool (Bv ss g))/\Below w.heap.size w w':=by
 obtain⟨a,c,rfl,hc,ao,H⟩:=BD.open Gv (by decide) h;unfold maxLen at ao;have HH:=AA H;have HS:=AA (xZ hs hg);clear h H hs hg;go_in;go_wp2_with fail;go_loopw [5] (λix wr=>∃k:Nat,k<=ss.length/\ix=.int .i64 k/\(∀j,j<k->LC (Db ss j) g=false)/\Below w.heap.size w wr) (λix _=>ss.length - (intOf ix).toNat)
 case atStart=>exact⟨0,yh _,rfl,λj hj=>absurd hj (xP _),yD _ _⟩
 case round=>
  obtain⟨k,hk,rfl,ab,hb⟩:=hrel;have ad:=AA ab;clear ab
  by_cases ai:k<ss.length
  .have ar:(k:Int)<(ss.length:Int):=by omega
   obtain⟨b,bx,rfl,D⟩:=(HH.out.below hb).str ai;have C:=AA (MB (Db ss k) g wr (HS.out.1 _ (ye (IR ai))) HS.out.2);cases hp:LC (Db ss k) g
   .have Hp:=AA hp
    clear hp;go_wp2_with fail;refine C.out.mono ?_;rintro e w2 ⟨rfl,rfl⟩;rw[Hp.out];go_wp2_with fail;go_roundw
    case rel=>exact⟨k+1,by omega,by go_num,Ak ad.out Hp.out,hb⟩
    case measure=>simp[intOf];omega
   .have S:=AA (show Bv ss g=true from Ng (p:=λs=>LC s g) (IR ai) hp)
    have Hp:=AA hp;clear hp;go_wp2_with fail;refine C.out.mono ?_;rintro e w2 ⟨rfl,rfl⟩;rw[Hp.out];go_wp2_with fail;go_ret;exact⟨AI S.out.symm,hb⟩
  .have ek:k=ss.length:=by omega
   have ab:=ad.out;rw[ek] at ab;have S:=AA (show Bv ss g=false from LA (p:=λs=>LC s g) (λk hk=>IR hk) ab);clear ad ab;go_wp2_with fail;go_ret;exact⟨AI S.out.symm,hb⟩
def IA(fs:List Nat)(k:Nat):Nat:=fs.getD k 0
theorem F3(h:k<fs.length):fs[k]?=some (IA fs k):=by unfold IA;exact A1 h
theorem Os:nth (A0 fs) k=(IA fs k:Int):=by unfold nth A0 IA;simp only[xR,wK];cases fs[k]? <;>rfl
theorem Ca:(A0 fs).length=fs.length:=by simp[A0]
theorem F7(v1 v2 v3:Value)(xs:List AU)(fs:List Nat)(ss:List ByteArray)(w:World)(h1:BS w v1 xs)(h2:Aw w v2 (A0 fs))(h3:BR w v3 ss)(hf:∀f∈fs,f<xs.length)(hI:IF xs)(hs:DQ ss):
 Calls prog 128 #[v1,v2,v3] w λe w'=>e=.returned (.bool (BG xs fs ss))/\Below w.heap.size w w':=by
 obtain⟨a1,c1,rfl,gb,eI,H1⟩:=BD.open Ay (by decide) h1;obtain⟨a2,c2,rfl,ga,eH,H2⟩:=h2.open;rw[Ca] at ga ⊢;unfold maxLen at eI eH;have CM:=AA (λW (hW:Below w.heap.size w W) (g:ByteArray) (hg:g.size<=maxLen)=>KS v3 ss g W (BD.below h3 hW) hs hg);have gL:=AA H1;have gK:=AA H2;have HF:=AA (xZ hf hI);obtain⟨a3,c3,rfl,g9,f8⟩:=h3.shape;clear h1 h2 h3 H1 H2 hf hI hs;go_in;go_wp2_with fail;go_loopw [7] (λix wr=>∃k:Nat,k<=fs.length/\ix=.int .i64 k/\(∀j,j<k->Bv ss (zS xs (IA fs j)).g=true)/\Below w.heap.size w wr) (λix _=>fs.length - (intOf ix).toNat)
 case atStart=>exact⟨0,yh _,rfl,λj hj=>absurd hj (xP _),yD _ _⟩
 case round=>
  obtain⟨k,hk,rfl,ab,hb⟩:=hrel;have ad:=AA ab;clear ab
  by_cases ai:k<fs.length
  .have ar:(k:Int)<(fs.length:Int):=by omega
   obtain⟨b2,fN,rfl,D⟩:=(gK.out.below hb).at (k:=k) (by rw[Ca];exact ai);rw[Os] at D;have eC:=HF.out.1 _ (ye (F3 ai));obtain⟨b,bx,rfl,cU,D0,D1,D2⟩:=(gL.out.below hb).zP eC;have fu:(IA fs k:Int)<xs.length:=by omega
   have C:=AA (CM.out wr hb (zS xs (IA fs k)).g (HF.out.2 _ (ye (Cj eC))));cases hp:Bv ss (zS xs (IA fs k)).g
   .have S:=AA (show BG xs fs ss=false from Ip (p:=λf=>Bv ss (zS xs f).g) (F3 ai) hp)
    have Hp:=AA hp;clear hp;go_wp2_with fail;refine C.out.mono ?_;rintro e w2 ⟨rfl,b2⟩;rw[Hp.out];go_wp2_with fail;go_ret;exact⟨AI S.out.symm,hb.trans (b2.mono hb.size)⟩
   .have Hp:=AA hp
    clear hp;go_wp2_with fail;refine C.out.mono ?_;rintro e w2 ⟨rfl,b2⟩;rw[Hp.out];go_wp2_with fail;go_roundw
    case rel=>exact⟨k+1,by omega,by go_num,Ak ad.out Hp.out,hb.trans (b2.mono hb.size)⟩
    case measure=>simp[intOf];omega
  .have ek:k=fs.length:=by omega
   have ab:=ad.out;rw[ek] at ab;have S:=AA (show BG xs fs ss=true from Jl (p:=λf=>Bv ss (zS xs f).g) (λk hk=>F3 hk) ab);clear ad ab;go_wp2_with fail;go_ret;exact⟨AI S.out.symm,hb⟩
theorem UZ{a b:List Nat}:A0 (a++b)=A0 a++A0 b:=by simp[A0]
theorem Ig{lo:Nat}{w:World}{ys zs:List Nat}(h:w.ownsRow lo 3 1 v (ys.length+zs.length) ((A0 ys).map (yf .i64)++(A0 zs).map (yf .i64))):AF lo w v (A0 (ys++zs)):=by unfold AF;rw[UZ,List.map_append,yj,Ca,Ca];exact h
theorem LQ(xs:List Int):∀u∈xs.map (yf .i64),u.oneCell'=true:=by intro u hu;obtain⟨x,_,rfl⟩:=List.mem_map.1 hu;rfl
theorem Ev(w:World):AF w.heap.size (w.alloc (.cells #[] 3)) (.slice (some ⟨w.heap.size,0,none⟩) 0 0) (A0 []):=Cp w 3 1
theorem Ie(v:Value)(r:List Int)(w:World)(h:Aw w v r)(hl:r.length<=100)(hx:∀k,k<r.length->nth r k<=9223372036854775807):Calls prog 185 #[v] w λe w'=>∃v',e=.returned v'/\AF w.heap.size w' v' (A0 (named r))/\Below w.heap.size w w':=by
 obtain⟨a,c,rfl,hc,ao,H⟩:=h.open;unfold maxLen at ao;have HH:=AA H;have HX:=AA hx;have bA:=AE w (.cells #[] 3);have o1:=Ev w;clear h H hx;go_in;go_wp2_with fail;generalize w.alloc (.cells #[] 3)=wa at o1 bA ⊢;generalize(xF (some ⟨w.heap.size,0,none⟩) 0 0)=o at o1 ⊢;go_loopw [3,4,5,6,7] (λo ix _ _ _ wr=>∃k:Nat,k<=r.length/\ix=.int .i64 k/\AF w.heap.size wr o (A0 (named (r.take k)))/\Below w.heap.size w wr) (λ_ ix _ _ _ _=>r.length - (intOf ix).toNat)
 case atStart=>exact⟨0,yh _,rfl,o1,bA⟩
 case round=>
  clear o1 bA;obtain⟨k,hk,rfl,ac,hb⟩:=hrel
  by_cases ai:k<r.length
  .have ar:(k:Int)<(r.length:Int):=by omega
   obtain⟨b,bx,rfl,D⟩:=(HH.out.below hb).at ai;have eZ:=HX.out k ai;have Nx:=AA (KZ ai);have ci:(named (r.take k)).length<=100:=by have:=FJ (r:=r.take k);rw[xT] at this;omega
   change (Hid (named (r.take (k+1))=named (r.take k)++(if Bh (nth r k) then[A9 (nth r k)] else[]))) at Nx
   generalize named (r.take k)=ys at ac Nx ci;generalize nth r k=x at D Nx eZ;have al:=AA ac;obtain⟨_,_,rfl,_⟩:=(AF.rd ac).open;clear ac;go_wp2_with fail;refine(Cy x _ eZ).mono ?_;rintro e w2 ⟨rfl,rfl⟩;cases hg:Bh x
   .rw[Eg hg]
    have av:=AA (show named (r.take (k+1))=ys by rw[Nx.out,hg];simp);clear hg Nx;go_wp2_with fail;go_roundw
    case rel=>exact⟨k+1,by omega,by go_num,by rw[av.out];exact al.out,hb⟩
    case measure=>simp[intOf];omega
   .rw[EX hg]
    have av:=AA (show named (r.take (k+1))=ys++[A9 x] by rw[Nx.out,hg];simp);generalize A9 x=f at av;clear hg Nx;rw[Ca];go_wp2_with (at_builtin;go_must (refine Bc (lo:=w.heap.size) (n:=ys.length) (xs:=(A0 ys).map (yf .i64)) (m:=1) (news:=[.int .i64 f]) rfl rfl 3 (.int .i64 0) 1 8 underlying29 Tryz.zI rfl (by decide) rfl (by have:=AF.below al.out (AE wr (.cells #[.int .i64 f] 3));unfold AF at this;rw[Ca] at this;exact this) rfl (Rd.zC _ #[_] _ 1 1 _ (by simp) rfl (by simp[maxLen])) (by simp[xD]) (by unfold maxLen;omega) (by omega) (by have:=hb.size;simp;omega) ?_;intro o' w9 k1 k2 k3 k4));go_roundw
    case rel=>exact⟨k+1,by omega,by go_num,by rw[av.out];exact Ig (zs:=[f]) k1,(hb.alloc hb.size _).trans k4⟩
    case measure=>simp[intOf];omega
  .obtain rfl:k=r.length:=by omega
   rw[xt] at ac;go_wp2_with fail;go_ret;exact⟨_,rfl,ac,hb⟩
theorem Ka{lo:Nat}{w w':World}{ys:List Nat}(h:AF lo w v (A0 ys))(hb:Below w.heap.size w w'):w'.ownsRow lo 3 1 v ys.length ((A0 ys).map (yf .i64)):=by
 have:=AF.below h hb;unfold AF at this
 rwa [Ca] at this
theorem EY{lo:Nat}{w:World}{ys:List Nat}(h:AF lo w v (A0 ys)):∃a c,v=.slice a ys.length c/\ys.length<=c:=by obtain⟨a,c,e,hc,_⟩:=(AF.rd h).open;rw[Ca] at e hc;exact⟨a,c,e,hc⟩
def H5(fs:List Nat)(k:Nat):List Nat:=(yC k).filter λf=>fs.contains f
theorem RY:H5 fs (k+1)=H5 fs k++(if fs.contains k then[k] else[]):=by
 unfold H5;rw[wZ,wE]
 congr 1
 simp only[vL,uV]
theorem Tr:(H5 fs k).length<=k:=by
 have:=wU (λf=>fs.contains f) (yC k);simpa[H5] using this
theorem UX:((A0 fs).any λx=>decide (x=(k:Int)))=fs.contains k:=by
 rw[wA,List.contains_iff_mem];simp[A0];constructor
 .rintro⟨x,hx,e⟩
  obtain rfl:x=k:=by omega
  exact hx
 .intro h
  exact⟨k,h,rfl⟩
theorem KV(v:Value)(fs:List Nat)(w:World)(h:Aw w v (A0 fs)):Calls prog 182 #[v] w λe w'=>∃v',e=.returned v'/\AF w.heap.size w' v' (A0 (IT fs))/\Below w.heap.size w w':=by
 have C:=AA (λ(k:Nat) W (hW:Below w.heap.size w W)=>Rr v (A0 fs) (k:Int) W (Aw.below h hW));have bA:=AE w (.cells #[] 3);have o1:=Ev w;clear h;go_in;go_wp2_with fail;generalize w.alloc (.cells #[] 3)=wa at o1 bA ⊢;generalize(xF (some ⟨w.heap.size,0,none⟩) 0 0)=o at o1 ⊢;go_loopw [3,4] (λo ix wr=>∃k:Nat,k<=12/\ix=.int .i64 k/\AF w.heap.size wr o (A0 (H5 fs k))/\Below w.heap.size w wr) (λ_ ix _=>12 - (intOf ix).toNat)
 case atStart=>exact⟨0,yh _,rfl,o1,bA⟩
 case round=>
  clear o1 bA;obtain⟨k,hk,rfl,ac,hb⟩:=hrel
  by_cases ai:k<12
  .have ar:(k:Int)<12:=by omega
   have Nx:=AA (RY (fs:=fs) (k:=k));have ci:=Tr (fs:=fs) (k:=k);generalize H5 fs k=ys at ac Nx ci;have Ck:=C.out k wr hb;rw[UX] at Ck;have HC:=AA Ck;have al:=AA ac;obtain⟨_,_,rfl,_⟩:=EY ac;clear ac Ck;go_wp2_with fail;refine HC.out.mono ?_;rintro e w2 ⟨rfl,b2⟩;have bk:=hb.trans (b2.mono hb.size);have bi:=AA (al.out.below b2);cases hg:fs.contains k
   .have av:=AA (show H5 fs (k+1)=ys by rw[Nx.out,hg];simp)
    clear hg Nx;go_wp2_with fail;go_roundw
    case rel=>exact⟨k+1,by omega,by go_num,by rw[av.out];exact bi.out,bk⟩
    case measure=>simp[intOf];omega
   .have av:=AA (show H5 fs (k+1)=ys++[k] by rw[Nx.out,hg];simp)
    clear hg Nx;go_wp2_with (at_builtin;go_must (refine Bc (lo:=w.heap.size) (n:=ys.length) (xs:=(A0 ys).map (yf .i64)) (m:=1) (news:=[.int .i64 k]) rfl rfl 3 (.int .i64 0) 1 8 underlying29 Tryz.zI rfl (by decide) rfl (Ka bi.out (AE _ (.cells #[.int .i64 k] 3))) rfl (Rd.zC _ #[_] _ 1 1 _ (by simp) rfl (by simp[maxLen])) (by simp[xD]) (by unfold maxLen;omega) (by omega) (by have:=bk.size;simp;omega) ?_;intro o' w9 k1 k2 k3 k4));go_roundw
    case rel=>exact⟨k+1,by omega,by go_num,by rw[av.out];exact Ig (zs:=[k]) k1,(bk.alloc bk.size _).trans k4⟩
    case measure=>simp[intOf];omega
  .obtain rfl:k=12:=by omega
   rw[show((12:Nat):Int)=12 from rfl];go_wp2_with fail;go_ret;exact⟨_,rfl,ac,hb⟩
theorem Lc{m:List (List Int)}(hm:Bs m=true){f:Nat}(hf:f<12):∀k,k<(AH m f).length->nth (AH m f) k<=9223372036854775807:=λk hk=>by obtain⟨h4,hw⟩:=A3.1 ((Ai.1 hm).2 f hf);have:=(hw _ (DH (d:=0) hk)).2;unfold nth;omega
theorem KW(v:Value)(m:List (List Int))(root:Nat)(w:World)(h:Bf w v m)(hm:Bs m=true)(hr:root<12):Calls prog 181 #[v,.int .i64 root] w λe w'=>∃v',e=.returned v'/\AF w.heap.size w' v' (A0 (Eh m root))/\Below w.heap.size w w':=by
 obtain⟨a,c,rfl,hc,ao,H⟩:=h.open;have da:=(Ai.1 hm).1;have fV:=(A3.1 ((Ai.1 hm).2 root hr)).1;obtain⟨b,bx,u,rfl,cU,D,hR⟩:=H root (by omega);have C:=AA (Ie u (AH m root) w hR (by omega) (Lc hm hr));have gX:(root:Int)<12:=by omega
 rw[da];obtain⟨_,_,rfl,_⟩:=hR.open;unfold Eh;clear h H hR hm da hc ao fV;go_in;go_wp2_with fail;refine C.out.mono ?_;rintro e w1 ⟨v1,rfl,o1,b1⟩;have C2:=AA (KV v1 _ w1 (AF.rd o1));have au:=AA b1;clear o1 b1 C;go_wp2_with fail;refine C2.out.mono ?_;rintro e w2 ⟨v2,rfl,o2,b2⟩;have eQ:=AA (MV o2 au.out.size);have cM:=AA (au.out.trans (b2.mono au.out.size));clear o2 b2 C2;go_wp2_with fail;go_ret;exact⟨_,rfl,eQ.out,cM.out⟩
def Fl(m:List (List Int))(ts:List Nat)(k:Nat):List Nat:=(ts.take k).flatMap λt=>named (AH m t)
theorem L8{m:List (List Int)}{ts:List Nat}(h:k<ts.length):Fl m ts (k+1)=Fl m ts k++named (AH m (IA ts k)):=by unfold Fl;rw[Cx (F3 h),List.flatMap_append];simp
theorem TC{m:List (List Int)}{ts:List Nat}(hl:∀t∈ts,(AH m t).length=4):(Fl m ts k).length<=4*k:=by
 induction k with
 |zero=>simp[Fl]
 |succ k ih=>
  by_cases h:k<ts.length
  .rw[L8 h,yj]
   have h1:=FJ (r:=AH m (IA ts k));have h2:=hl _ (ye (F3 h));omega
  .have:Fl m ts (k+1)=Fl m ts k:=by unfold Fl;rw[wD (by omega),wD (by omega)]
   rw[this];omega
theorem TP(v:Value)(m:List (List Int))(root:Nat)(w:World)(h:Bf w v m)(hm:Bs m=true)(hr:root<12):Calls prog 183 #[v,.int .i64 root] w λe w'=>∃v',e=.returned v'/\AF w.heap.size w' v' (A0 (JA m root))/\Below w.heap.size w w':=by
 have bA:=AE w (.cells #[] 3);have o1:=Ev w;have C:=AA (KW v m root _ (h.below bA) hm hr);obtain⟨a,c,rfl,hc,ao,H⟩:=h.open;have da:=(Ai.1 hm).1;have hT:∀t∈Eh m root,t<12:=λt ht=>FL (Ii.1 ht)
 have bz:∀t∈Eh m root,(AH m t).length=4:=λt ht=>(A3.1 ((Ai.1 hm).2 t (hT t ht))).1
 have dA:(Eh m root).length<=12:=LW;have FS:JA m root=IT (Fl m (Eh m root) (Eh m root).length):=by unfold JA Fl;rw[xt]
 rw[FS];have HH:=AA H;have HT:=AA (xZ hT bz);have Hm:=AA hm;rw[da] at C ⊢;generalize Eh m root=ts at*;clear h H hm hT bz FS hc ao;go_in;go_wp2_with fail;generalize w.alloc (.cells #[] 3)=wa at o1 bA C ⊢;refine C.out.mono ?_;rintro e w1 ⟨v1,rfl,t1,b1⟩;have cq:=bA.trans (b1.mono bA.size);have o2:=AF.below o1 b1;obtain⟨a1,c1,rfl,gb⟩:=EY t1;have gE:=AA t1;have au:=AA cq;have bC:Fg (.slice (some ⟨w.heap.size,0,none⟩) 0 0) (.slice a1 ts.length c1):=λb hb gd=>by have h1:=(yq t1 b gd).1;have h2:=(yq o1 b hb).2;omega
 clear C o1 bA t1 b1 cq;go_wp2_with fail;generalize(xF (some ⟨w.heap.size,0,none⟩) 0 0)=o at o2 bC ⊢;go_loopw [5,7] (λo ix wr=>∃k:Nat,k<=ts.length/\ix=.int .i64 k/\AF w.heap.size wr o (A0 (Fl m ts k))/\Below w.heap.size w wr/\AF wa.heap.size wr (.slice a1 ts.length c1) (A0 ts)/\Fg o (.slice a1 ts.length c1)) (λ_ ix _=>ts.length - (intOf ix).toNat)
 case atStart=>exact⟨0,yh _,rfl,o2,au.out,gE.out,bC⟩
 case round=>
  clear o2 bC;obtain⟨k,hk,rfl,ac,hb,el,bC⟩:=hrel
  by_cases ai:k<ts.length
  .have ar:(k:Int)<(ts.length:Int):=by omega
   obtain⟨_,_,e1,_,_,H1⟩:=(AF.rd el).open;simp only[Value.slice.injEq] at e1;obtain⟨rfl,e2,rfl⟩:=e1;clear e2;obtain⟨b1,fO,rfl,D1⟩:=H1.at (k:=k) (by rw[Ca];exact ai);rw[Os] at D1;clear H1;have db:=ye (F3 ai);have hf:=HT.out.1 _ db;have cg:=HT.out.2 _ db;obtain⟨b,bx,u,rfl,cU,D,hR⟩:=(HH.out.below hb) (IA ts k) (by omega);have CN:=AA (Ie u (AH m (IA ts k)) wr hR (by omega) (Lc Hm.out hf));have fu:(IA ts k:Int)<12:=by omega
   have Nx:=AA (L8 (m:=m) ai);have ci:=TC (k:=k) HT.out.2;have fc:=FJ (r:=AH m (IA ts k));rw[cg] at fc;obtain⟨_,_,rfl,_⟩:=hR.open;generalize Fl m ts k=ys at ac Nx ci;generalize named (AH m (IA ts k))=zs at CN Nx fc;generalize IA ts k=f at*;have al:=AA ac;obtain⟨_,_,rfl,_⟩:=EY ac;have Ht:=AA (xZ el bC);clear ac hR db cg el bC;go_wp2_with fail;refine CN.out.mono ?_;rintro e w2 ⟨v2,rfl,o2,b2⟩;have cM:=AA (hb.trans (b2.mono hb.size));have dZ:=AA (xZ (AF.below Ht.out.1 b2) Ht.out.2);have bi:=AA (al.out.below b2);have dE:=AF.rd o2;obtain⟨az,cz,rfl,f6⟩:=EY o2;have d5:=AA dE;clear o2 b2 dE D D1;go_wp2_with (at_builtin;go_must (refine Bc (lo:=w.heap.size) (n:=ys.length) (xs:=(A0 ys).map (yf .i64)) (m:=zs.length) (news:=(A0 zs).map (yf .i64)) rfl rfl 3 (.int .i64 0) 1 8 underlying29 Tryz.zI rfl (by decide) rfl (Ka bi.out (yD _ _)) rfl (by have:=d5.out;unfold Aw at this;rw[Ca] at this;exact this) (LQ _) (by unfold maxLen;omega) (by omega) (by have:=cM.out.size;omega) ?_;intro o' w9 k1 k2 k3 k4));go_roundw
   case rel=>exact⟨k+1,by omega,by go_num,by rw[Nx.out];exact Ig k1,cM.out.trans k4,Av dZ.out.1 k2 dZ.out.2.symm.ne,dZ.out.2.grown k3 (λb hb=>(yq dZ.out.1 b hb).2)⟩
   case measure=>simp[intOf];omega
  .obtain rfl:k=ts.length:=by omega
   have C2:=AA (KV _ _ wr (AF.rd ac));obtain⟨_,_,rfl,_⟩:=EY ac;have Hb:=AA hb;clear ac hb;go_wp2_with fail;refine C2.out.mono ?_;rintro e w2 ⟨v2,rfl,o2,b2⟩;have eQ:=AA (MV o2 Hb.out.size);have cM:=AA (Hb.out.trans (b2.mono Hb.out.size));clear o2 b2 C2;go_wp2_with fail;go_ret;exact⟨_,rfl,eQ.out,cM.out⟩
theorem Wn(w:World)(n:Nat):AF w.heap.size (w.alloc (.cells #[.int .i64 n] 3)) (.slice (some ⟨w.heap.size,0,none⟩) 1 1) (A0 [n]):=Zw (n:=1) (C:=1) rfl (yt _) (by decide) (yt _)
theorem JC(v:Value)(m:List (List Int))(root:Int)(w:World)(h:Bf w v m)(hm:Bs m=true)(hr:root<12):Calls prog 129 #[v,.int .i64 root] w λe w'=>∃v',e=.returned v'/\AF w.heap.size w' v' (A0 (Ed m root))/\Below w.heap.size w w':=by
 by_cases hn:root<0
 .have E:Ed m root=[]:=by unfold Ed;rw[if_pos hn]
  have o1:=Ev w;rw[E];go_in;go_wp2_with fail;go_ret;exact⟨_,rfl,o1,AE _ _⟩
 .obtain⟨r,rfl⟩:∃r:Nat,root=(r:Int):=⟨root.toNat,by omega⟩
  have E:Ed m (r:Int)=IT (([r]++Eh m r)++JA m r):=by unfold Ed;rw[if_neg hn,yb];rfl
  have dv:r<12:=by omega
  rw[E];have b0:=AE w (.cells #[.int .i64 r] 3);have o0:=Wn w r;have CT:=AA (λW (hW:Below w.heap.size w W)=>KW v m r W (h.below hW) hm dv);have CF:=AA (λW (hW:Below w.heap.size w W)=>TP v m r W (h.below hW) hm dv);have ht:(Eh m r).length<=12:=LW;have hf:(JA m r).length<=12:=LW;obtain⟨a,c,rfl,hc,ao,_⟩:=h.open;generalize Eh m r=ts at*;generalize JA m r=fs at*;clear h hm E hc ao;go_in;go_wp2_with fail;generalize w.alloc _=wa at o0 b0 ⊢;refine(CT.out wa b0).mono ?_;rintro e w1 ⟨v1,rfl,o1,b1⟩;have O0:=AF.below o0 b1;have cq:=b0.trans (b1.mono b0.size);have d5:=AA (AF.rd o1);have dc:w.heap.size<=w1.heap.size:=cq.size;have au:=AA cq;obtain⟨az,cz,rfl,f6⟩:=EY o1;clear o0 b0 o1 b1 cq;have gQ:A0 [r]=A0 ([r]:List Nat):=rfl;go_wp2_with (at_builtin;go_must (refine Bc (lo:=w.heap.size) (n:=1) (xs:=(A0 [r]).map (yf .i64)) (m:=ts.length) (news:=(A0 ts).map (yf .i64)) rfl rfl 3 (.int .i64 0) 1 8 underlying29 Tryz.zI rfl (by decide) rfl (Ka O0 (yD _ _)) rfl (by have:=d5.out;unfold Aw at this;rw[Ca] at this;exact this) (LQ _) (by unfold maxLen;omega) (by omega) (by omega) ?_;intro o' w9 k1 k2 k3 k4));have di:=au.out.trans k4;refine(CF.out w9 di).mono ?_;rintro e w2 ⟨v2,rfl,o2,b2⟩;have O9:=Ig (ys:=[r]) (zs:=ts) k1;have O2:=AF.below O9 b2;have cM:=AA (di.trans (b2.mono di.size));have eT:=AA (AF.rd o2);obtain⟨ay,cy,rfl,g5⟩:=EY o2;obtain⟨ax,cx,rfl,g6⟩:=EY O2;clear O0 d5 k1 k2 k3 k4 di O9 o2 b2;go_wp2_with (at_builtin;go_must (refine Bc (lo:=w.heap.size) (n:=([r]++ts).length) (xs:=(A0 ([r]++ts)).map (yf .i64)) (m:=fs.length) (news:=(A0 fs).map (yf .i64)) rfl rfl 3 (.int .i64 0) 1 8 underlying29 Tryz.zI rfl (by decide) rfl (Ka O2 (yD _ _)) rfl (by have:=eT.out;unfold Aw at this;rw[Ca] at this;exact this) (LQ _) (by simp only[yj,xM];unfold maxLen;omega) (by simp only[yj,xM];omega) (by have:=cM.out.size;omega) ?_;intro o8 w8 k1 k2 k3 k4));have dW:=cM.out.trans k4;have O8:=Ig k1;refine(KV o8 _ w8 (AF.rd O8)).mono ?_;rintro e w3 ⟨v3,rfl,o3,b3⟩;have gt:=AA (MV o3 dW.size);have dk:=AA (dW.trans (b3.mono dW.size));clear O8 dW k1 k2 k3 k4 o3 b3 O2;go_wp2_with fail;go_ret;exact⟨_,rfl,gt.out,dk.out⟩
theorem Jy(w:World)(a b:Obj):((w.alloc a).alloc b).heap[w.heap.size]?=some a/\((w.alloc a).alloc b).heap[w.heap.size+1]?=some b/\Below w.heap.size w ((w.alloc a).alloc b)/\((w.alloc a).alloc b).heap.size=w.heap.size+2:=by have h1:=yv w a;have h2:=yv (w.alloc a) b;have h4:=AC h1 (AE _ b);simp only[xv] at h2;exact⟨h4,h2,HJ w a b,by simp⟩
def GW(k:AN)(a n:Nat):List Nat:=(yC n).filter (Qb k a)
theorem Ra{k:AN}{a:Nat}:GW k a (n+1)=GW k a n++(if Qb k a n then[n] else[]):=by
 unfold GW;rw[wZ,wE]
 congr 1
 simp only[vL,uV]
theorem Tu{k:AN}{a:Nat}:(GW k a n).length<=n:=by have:=wU (Qb k a) (yC n);simpa[GW] using this
theorem TJ(mv iv ev cv:Value)(k:AN)(a:Nat)(w:World)(h:Ma w mv iv ev cv k)(hk:DJ k):Calls prog 224 #[.agg #[mv,iv,ev,cv],.int .i64 a] w λe w'=>∃v',e=.returned v'/\AF w.heap.size w' v' (A0 (Tt k a))/\Below w.heap.size w w':=by
 obtain⟨N0,N1,b9,dQ⟩:=Jy w (.cells #[mv,iv,ev,cv] 28) (.cells #[] 3);have o1:AF w.heap.size ((w.alloc (.cells #[mv,iv,ev,cv] 28)).alloc (.cells #[] 3)) (.slice (some ⟨w.heap.size+1,0,none⟩) 0 0) (A0 []):=by have:=Ev (w.alloc (.cells #[mv,iv,ev,cv] 28));simp only[xv] at this;exact MV this (Nat.le_succ _)
 have CT:=AA (λ(r:Nat)(hr:r<12) W (hW:Below w.heap.size w W)=>KW mv k.mem r W (h.1.below hW) hk.mem hr);obtain⟨ae,ce,rfl,df,f7,HE⟩:=h.2.2.1.open;rw[hk.zN] at df N0 o1 b9 ⊢;have HR:=AA hk.roots;have gJ:=AA HE;have dJ:=AA hk.zN;have US:Tt k a=GW k a 3:=rfl;rw[US];clear h hk HE US dQ N1;go_in;go_wp2_with fail;generalize(w.alloc _).alloc _=wa at o1 b9 N0 ⊢;have gH:=AA N0;clear N0;generalize(xF (some ⟨w.heap.size+1,0,none⟩) 0 0)=o at o1 ⊢;go_loopw [5,6,7] (λo ix _ wr=>∃n:Nat,n<=3/\ix=.int .i64 n/\AF w.heap.size wr o (A0 (GW k a n))/\Below w.heap.size w wr/\wr.heap[w.heap.size]?=some (.cells #[mv,iv,.slice ae 3 ce,cv] 28 (0,0))) (λ_ ix _ _=>3 - (intOf ix).toNat)
 case atStart=>exact⟨0,yh _,rfl,o1,b9,gH.out⟩
 case round=>
  clear o1 b9;obtain⟨n,hn,rfl,ac,hb,hN⟩:=hrel;obtain⟨x0,_,x2,_⟩:=AG hN
  by_cases ai:n<3
  .have ar:(n:Int)<3:=by omega
   obtain⟨b,bx,ua,uc,rfl,cU,D0,D1,_⟩:=(gJ.out.below hb) n (by rw[dJ.out];exact ai);have bs:=HR.out n ai;have Nx:=AA (Ra (k:=k) (a:=a) (n:=n));have ci:=Tu (k:=k) (a:=a) (n:=n);have UE:Qb k a n=(decide ((AJ k.zX n).root=(a:Int))||(decide (0<=(AJ k.zX n).root)&&(Eh k.mem (AJ k.zX n).root.toNat).contains a)):=rfl
   change (AJ k.zX n).root= -1∨(0<=(AJ k.zX n).root/\(AJ k.zX n).root<=11/\_) at bs
   generalize GW k a n=ys at ac Nx ci;generalize Qb k a n=ub at Nx UE;generalize(AJ k.zX n).root=rt at D1 bs UE;have al:=AA ac;have HN:=AA hN;obtain⟨_,_,rfl,_⟩:=EY ac;clear ac hN D0;have dn:Hid (ub=true->GW k a (n+1)=ys++[n]):=AA λe=>by rw[Nx.out,e];simp
   have NO:Hid (ub=false->GW k a (n+1)=ys):=AA λe=>by rw[Nx.out,e];simp
   clear Nx
   by_cases e1:rt=(a:Int)
   .have t1:(rt==(a:Int))=true:=by simp[e1]
    have av:=AA (dn.out (by rw[UE];simp[e1]));clear dn NO UE e1 bs;go_wp2_with (at_builtin;go_must (refine Bc (lo:=w.heap.size) (n:=ys.length) (xs:=(A0 ys).map (yf .i64)) (m:=1) (news:=[.int .i64 n]) rfl rfl 3 (.int .i64 0) 1 8 underlying29 Tryz.zI rfl (by decide) rfl (Ka al.out (AE _ (.cells #[.int .i64 n] 3))) rfl (Rd.zC _ #[_] _ 1 1 _ (by simp) rfl (by simp[maxLen])) (by simp[xD]) (by unfold maxLen;omega) (by omega) (by have:=hb.size;simp;omega) ?_;intro o' w9 k1 k2 k3 k4));go_roundw
    case rel=>exact⟨n+1,by omega,by go_num,by rw[av.out];exact Ig (zs:=[n]) k1,(hb.alloc hb.size _).trans k4,(k2.block w.heap.size (by have:=AW HN.out;simp;omega) (λe=>Dg al.out HN.out (by decide) e.symm)).trans (AC HN.out (AE _ _))⟩
    case measure=>simp[intOf];omega
   .have t1:(rt==(a:Int))=false:=by simp[e1]
    rcases bs with rfl|⟨h0,h11,_⟩
    .have av:=AA (NO.out (by rw[UE];simp[e1]))
     clear dn NO UE e1;go_wp2_with fail;go_roundw
     case rel=>exact⟨n+1,by omega,by go_num,by rw[av.out];exact al.out,hb,HN.out⟩
     case measure=>simp[intOf];omega
    .obtain⟨r,rfl⟩:∃r:Nat,rt=(r:Int):=⟨rt.toNat,by omega⟩
     have C:=AA (CT.out r (by omega) wr hb);rw[yb] at UE;go_wp2_with fail;refine C.out.mono ?_;rintro e w2 ⟨v2,rfl,o2,b2⟩;have CH:=Rr v2 _ (a:Int) w2 (AF.rd o2);rw[UX] at CH;generalize(Eh k.mem r).contains a=bt at UE CH;have gP:=AA CH;have bk:=hb.trans (b2.mono hb.size);have bi:=AA (al.out.below b2);have gG:=AA (AC HN.out b2);clear CH o2 b2 C x0 x2 D1;go_wp2_with fail;refine gP.out.mono ?_;rintro e w3 ⟨rfl,b3⟩;have cV:=bk.trans (b3.mono bk.size);have cC:=AA (bi.out.below b3);have d6:=AA (AC gG.out b3);clear b3 bk;cases bt
     .have av:=AA (NO.out (by rw[UE];simp[e1]))
      clear dn NO UE e1;go_wp2_with fail;go_roundw
      case rel=>exact⟨n+1,by omega,by go_num,by rw[av.out];exact cC.out,cV,d6.out⟩
      case measure=>simp[intOf];omega
     .have av:=AA (dn.out (by rw[UE];simp))
      clear dn NO UE e1;go_wp2_with (at_builtin;go_must (refine Bc (lo:=w.heap.size) (n:=ys.length) (xs:=(A0 ys).map (yf .i64)) (m:=1) (news:=[.int .i64 n]) rfl rfl 3 (.int .i64 0) 1 8 underlying29 Tryz.zI rfl (by decide) rfl (Ka cC.out (AE _ (.cells #[.int .i64 n] 3))) rfl (Rd.zC _ #[_] _ 1 1 _ (by simp) rfl (by simp[maxLen])) (by simp[xD]) (by unfold maxLen;omega) (by omega) (by have:=cV.size;simp;omega) ?_;intro o' w9 k1 k2 k3 k4));go_roundw
      case rel=>exact⟨n+1,by omega,by go_num,by rw[av.out];exact Ig (zs:=[n]) k1,(cV.alloc cV.size _).trans k4,(k2.block w.heap.size (by have:=AW d6.out;simp;omega) (λe=>Dg cC.out d6.out (by decide) e.symm)).trans (AC d6.out (AE _ _))⟩
      case measure=>simp[intOf];omega
  .obtain rfl:n=3:=by omega
   rw[show((3:Nat):Int)=3 from rfl];go_wp2_with fail;go_ret;exact⟨_,rfl,ac,hb⟩
theorem Eo{l:List Al}(h:k<l.length):l[k]?=some (AT l k):=by simp[AT,h]
theorem LE{α:Type}{p:α->Bool}{l:List α}{x:α}(h:l[k]?=some x):(l.take (k+1)).filter p=(l.take k).filter p++(if p x then[x] else[]):=by
 rw[Cx h,wE]
 congr 1
 simp only[vL,uV]
theorem Ir{α:Type}{p:α->Bool}{l:List α}:((l.take k).filter p).length<=l.length:=yB (wU _ _) (by rw[xT];omega)
theorem Pi(v:Value)(c:List Al)(e:Int)(w:World)(h:Dz w v c)(hl:c.length<=100):Calls prog 225 #[v,.int .i64 e] w λr w'=>∃v',r=.returned v'/\AQ w.heap.size 112 4 Ag w' v' (Fz c e)/\Below w.heap.size w w':=by
 obtain⟨a,cp,rfl,hc,ao,H⟩:=BD.open Ch (by decide) h;unfold maxLen at ao;have HH:=AA H;have bA:=AE w (.cells #[] 112);have o1:=By Ag w 112 4;clear h H;go_in;go_wp2_with fail;generalize w.alloc (.cells #[] 112)=wa at o1 bA ⊢;generalize(xF (some ⟨w.heap.size,0,none⟩) 0 0)=o at o1 ⊢;go_loopw [5,6] (λo ix wr=>∃k:Nat,k<=c.length/\ix=.int .i64 k/\AQ w.heap.size 112 4 Ag wr o ((c.take k).filter (λy=>decide (y.e≠e)))/\Below w.heap.size w wr) (λ_ ix _=>c.length - (intOf ix).toNat)
 case atStart=>exact⟨0,yh _,rfl,o1,bA⟩
 case round=>
  clear o1 bA;obtain⟨k,hk,rfl,ac,hb⟩:=hrel
  by_cases ai:k<c.length
  .have ar:(k:Int)<(c.length:Int):=by omega
   obtain⟨b,bx,rfl,cU,D0,D1,D2,D3⟩:=(HH.out.below hb).zL ai;have Nx:=AA (LE (p:=λy=>decide (y.e≠e)) (Eo ai));have ci:=Ir (p:=λy=>decide (y.e≠e)) (l:=c) (k:=k);generalize AT c k=x at D0 D1 D2 D3 Nx;generalize(c.take k).filter (λy=>decide (y.e≠e))=ys at ac Nx ci;have al:=AA ac;obtain⟨_,_,rfl,_⟩:=ac.rd.shape;clear ac;cases hp:decide (x.e≠e)
   .have t0:(x.e !=e)=false:=by simpa using hp
    have av:=AA (show(c.take (k+1)).filter (λy=>decide (y.e≠e))=ys by rw[Nx.out,hp];simp);have Hp:=AA hp;clear hp Nx;go_wp2_with fail;go_roundw
    case rel=>exact⟨k+1,by omega,by go_num,by rw[av.out];exact al.out,hb⟩
    case measure=>simp[intOf];omega
   .have t0:(x.e !=e)=true:=by simpa using hp
    have av:=AA (show(c.take (k+1)).filter (λy=>decide (y.e≠e))=ys++[x] by rw[Nx.out,hp];simp);have Hp:=AA hp;clear hp Nx;go_wp2_with (at_builtin;go_must (refine Bc (lo:=w.heap.size) (n:=ys.length) (xs:=Ci Ag ys) (m:=1) (news:=[.int .i64 x.e,.int .i64 x.p,.int .i64 x.f,.bool x.w]) rfl rfl 112 (.agg #[.int .i64 0,.int .i64 0,.int .i64 0,.bool false]) 4 32 underlying26 Tryz.zF rfl (by decide) rfl (Co (al.out) (AE _ _)) rfl (Rd.zC _ #[.int .i64 x.e,.int .i64 x.p,.int .i64 x.f,.bool x.w] _ 4 1 _ rfl (by simp) (by simp[maxLen])) (by simp[xD]) (by unfold maxLen;omega) (by omega) (by have:=(hb).size;simp;omega) ?_;intro o' w9 k1 k2 k3 k4));go_roundw
    case rel=>exact⟨k+1,by omega,by go_num,by rw[av.out];unfold AQ;rw[Bm,Er,yj];exact k1,((hb).alloc (hb).size _).trans k4⟩
    case measure=>simp[intOf];omega
  .obtain rfl:k=c.length:=by omega
   rw[xt] at ac;go_wp2_with fail;go_ret;exact⟨_,rfl,ac,hb⟩
theorem Yb{c:List Al}{e p:Int}(hk:k<c.length)(h:∀j,j<k->Bj e p (AT c j)=false)(hp:Bj e p (AT c k)=true):IB c e p=(k:Int):=by
 have g:∀j (hj:j<c.length),c[j]=AT c j:=λj hj=>by have:=Eo hj;rw[yu hj] at this;exact yF this
 unfold IB;rw[if_pos (Ng (Eo hk) hp)];have:c.findIdx (Bj e p)=k:=by
  rw[sT hk];exact⟨by rw[g k hk];exact hp,λj hj=>by rw[g j (by omega)];exact h j hj⟩
 rw[this]
theorem XJ{c:List Al}{e p:Int}(h:∀j,j<c.length->Bj e p (AT c j)=false):IB c e p= -1:=by
 unfold IB;rw[if_neg];rw[LA (λk hk=>Eo hk) h];simp
theorem Pj(v:Value)(c:List Al)(e p:Int)(w:World)(h:Dz w v c):Calls prog 126 #[v,.int .i64 e,.int .i64 p] w λr w'=>r=.returned (.int .i64 (IB c e p))/\Below w.heap.size w w':=by
 obtain⟨a,cp,rfl,hc,ao,H⟩:=BD.open Ch (by decide) h;unfold maxLen at ao;have HH:=AA H;clear h H;go_in;go_wp2_with fail;go_loopw [7] (λix wr=>∃k:Nat,k<=c.length/\ix=.int .i64 k/\(∀j,j<k->Bj e p (AT c j)=false)/\Below w.heap.size w wr) (λix _=>c.length - (intOf ix).toNat)
 case atStart=>exact⟨0,yh _,rfl,λj hj=>absurd hj (xP _),yD _ _⟩
 case round=>
  obtain⟨k,hk,rfl,ab,hb⟩:=hrel;have ad:=AA ab;clear ab
  by_cases ai:k<c.length
  .have ar:(k:Int)<(c.length:Int):=by omega
   obtain⟨b,bx,rfl,cU,D0,D1,D2,D3⟩:=(HH.out.below hb).zL ai;have SE:Bj e p (AT c k)=(decide ((AT c k).e=e)&&decide ((AT c k).p=p)):=rfl;have FA:=AA (λhp=>Yb (e:=e) (p:=p) ai ad.out hp);have NE:=AA (λhp=>Ak ad.out (show Bj e p (AT c k)=false from hp));rw[SE] at FA NE;clear SE;generalize AT c k=x at D0 D1 D2 D3 FA NE
   by_cases h1:x.e=e
   .have t1:(x.e==e)=true:=by simp[h1]
    by_cases h2:x.p=p
    .have t2:(x.p==p)=true:=by simp[h2]
     have S:=AA (FA.out (by simp[h1,h2]));clear FA NE h1 h2;go_wp2_with fail;go_ret;exact⟨Cb S.out.symm,hb⟩
    .have t2:(x.p==p)=false:=by simp[h2]
     have N:=AA (NE.out (by simp[h2]));clear FA NE h1 h2;go_wp2_with fail;go_roundw
     case rel=>exact⟨k+1,by omega,by go_num,N.out,hb⟩
     case measure=>simp[intOf];omega
   .have t1:(x.e==e)=false:=by simp[h1]
    have N:=AA (NE.out (by simp[h1]));clear FA NE h1;go_wp2_with fail;go_roundw
    case rel=>exact⟨k+1,by omega,by go_num,N.out,hb⟩
    case measure=>simp[intOf];omega
  .obtain rfl:k=c.length:=by omega
   have S:=AA (XJ ad.out);go_wp2_with fail;go_ret;exact⟨Cb S.out.symm,hb⟩
theorem Xk{ss:List ByteArray}(h:k<ss.length):ss[k]?=some (Db ss k):=IR h
theorem Uc(v:Value)(ss:List ByteArray)(s:ByteArray)(w:World)(h:BR w v ss)(hs:DQ ss)(hz:s.size<=maxLen)(hl:ss.length<=100):Calls prog 226 #[v,.string s] w λr w'=>∃v',r=.returned v'/\AQ w.heap.size 9 1 BB w' v' (DB ss s)/\Below w.heap.size w w':=by
 obtain⟨a,cp,rfl,hc,ao,H⟩:=BD.open Gv (by decide) h;unfold maxLen at ao;have HH:=AA H;have HS:=AA (xZ hs hz);have bA:=AE w (.cells #[] 9);have o1:=By BB w 9 1;clear h H hs hz;go_in;go_wp2_with fail;generalize w.alloc (.cells #[] 9)=wa at o1 bA ⊢;generalize(xF (some ⟨w.heap.size,0,none⟩) 0 0)=o at o1 ⊢;go_loopw [5,6] (λo ix wr=>∃k:Nat,k<=ss.length/\ix=.int .i64 k/\AQ w.heap.size 9 1 BB wr o ((ss.take k).filter (λr=>!LC s r))/\Below w.heap.size w wr) (λ_ ix _=>ss.length - (intOf ix).toNat)
 case atStart=>exact⟨0,yh _,rfl,o1,bA⟩
 case round=>
  clear o1 bA;obtain⟨k,hk,rfl,ac,hb⟩:=hrel
  by_cases ai:k<ss.length
  .have ar:(k:Int)<(ss.length:Int):=by omega
   obtain⟨b,bx,rfl,D⟩:=(HH.out.below hb).str ai;have C:=AA (MB s (Db ss k) wr HS.out.2 (HS.out.1 _ (ye (IR ai))));have Nx:=AA (LE (p:=λr=>!LC s r) (Xk ai));have ci:=Ir (p:=λr=>!LC s r) (l:=ss) (k:=k);generalize Db ss k=x at D Nx C;generalize(ss.take k).filter (λr=>!LC s r)=ys at ac Nx ci;have al:=AA ac;obtain⟨_,_,rfl,_⟩:=ac.rd.shape;clear ac;cases hp:!LC s x
   .have av:=AA (show(ss.take (k+1)).filter (λr=>!LC s r)=ys by rw[Nx.out,hp];simp)
    have Hp:=AA hp;clear hp Nx;go_wp2_with fail;refine C.out.mono ?_;rintro e w2 ⟨rfl,rfl⟩;rw[show LC s x=!false by rw[<-Hp.out];simp];go_wp2_with fail;go_roundw
    case rel=>exact⟨k+1,by omega,by go_num,by rw[av.out];exact al.out,hb⟩
    case measure=>simp[intOf];omega
   .have av:=AA (show(ss.take (k+1)).filter (λr=>!LC s r)=ys++[x] by rw[Nx.out,hp];simp)
    have Hp:=AA hp;clear hp Nx;go_wp2_with fail;refine C.out.mono ?_;rintro e w2 ⟨rfl,rfl⟩;rw[show LC s x=!true by rw[<-Hp.out];simp];go_wp2_with (at_builtin;go_must (refine Bc (lo:=w.heap.size) (n:=ys.length) (xs:=Ci BB ys) (m:=1) (news:=[.string x]) rfl rfl 9 (.string ⟨#[]⟩) 1 16 underlying72 Tryz.zJ rfl (by decide) rfl (Co (al.out) (AE _ _)) rfl (Rd.zC _ #[.string x] _ 1 1 _ rfl (by simp) (by simp[maxLen])) (by simp[xD]) (by unfold maxLen;omega) (by omega) (by have:=(hb).size;simp;omega) ?_;intro o' w9 k1 k2 k3 k4));go_roundw
    case rel=>exact⟨k+1,by omega,by go_num,by rw[av.out];unfold AQ;rw[Bm,Er,yj];exact k1,((hb).alloc (hb).size _).trans k4⟩
    case measure=>simp[intOf];omega
  .obtain rfl:k=ss.length:=by omega
   rw[xt] at ac;go_wp2_with fail;go_ret;exact⟨_,rfl,ac,hb⟩
theorem FO{α:Type}{cs:α->List Value}{lo:Nat}{w:World}{ops:Array Oper}{rest:List Oper}{o:Oper}{a:Act}{Q:Exit->Act->World->Prop}{s x:Operand}{t:TypeId}
 (f4:o.guard=none)(ho:o.op=.call {callee:=.builtin .append,args:= #[s,x],argTypes:= #[t,t]})
 (e:TypeId)(z:Value)(sz bytes:Nat)(ht:prog.underlying t=some (.slice e))(hi:(prog.info? e).map (λi=>(i.zero,i.size,i.bytes))=some (some z,sz,bytes))
 (fQ:z.cells.size=sz)(em:0<sz){v u:Value}{xs:List α}(hs:a.eval s=v)(ac:AQ lo e sz cs w v ([]:List α))
 (hx:a.eval x=u)(hr:BD sz cs w u xs)(h1:∀u∈Ci cs xs,u.oneCell'=true)(hC:xs.length<=1048576)(dg:bytes<=1048576)(bB:lo<=w.heap.size)
 (hK:∀v' w',AQ lo e sz cs w' v' xs->Below lo w w'->wpList prog ops Q rest (a.put o.dst v') w'):wpList prog ops Q (o::rest) a w:=by
 refine Bc f4 ho e z sz bytes ht hi fQ em hs ac hx hr h1 ?_ ?_ bB λv' w' k1 _ _ k4=>hK v' w' ?_ k4
 .unfold maxLen;simp only[wW];omega
 .simp only[wW]
  have h1:=Nat.mul_le_mul_right bytes (show 0+xs.length<=1048576 by omega);have h2:=Nat.mul_le_mul_left 1048576 dg;omega
 .unfold AQ
  have:([]:List α).length+xs.length=xs.length:=by simp
  rw[this] at k1;exact k1
theorem Ez(xs:List AU):∀u∈Ci A2 xs,u.oneCell'=true:=by
 intro u hu;obtain⟨s,_,hs⟩:=wV.1 hu;simp[A2] at hs
 rcases hs with rfl|rfl|rfl<;>rfl
theorem Jo(xs:List Al):∀u∈Ci Ag xs,u.oneCell'=true:=by
 intro u hu;obtain⟨s,_,hs⟩:=wV.1 hu;simp[Ag] at hs
 rcases hs with rfl|rfl|rfl|rfl<;>rfl
theorem Gr(xs:List ByteArray):∀u∈Ci BB xs,u.oneCell'=true:=by
 intro u hu;obtain⟨s,_,hs⟩:=wV.1 hu;simp[BB] at hs
 rcases hs with rfl<;>rfl
theorem Ys(v:Value)(m:List (List Int))(f:Nat)(w:World)(h:Bf w v m)(hm:Bs m=true)(hf:f<12):Calls prog 286 #[v,.int .i64 f] w λe w'=>e=.returned (.bool true)/\Below w.heap.size w w':=by have C:=IK v m w h;rw[hm] at C;have HC:=AA C;have E:Be (f:Int) 0 11=true:=Ab.2 (by omega);have HE:=AA E;clear C h hm E;go_in;go_wp2_with fail;refine HC.out.mono ?_;rintro e w1 ⟨rfl,b1⟩;go_wp2_with fail;refine(D6 _ _).mono ?_;rintro e w2 ⟨rfl,rfl⟩;rw[HE.out];go_wp2_with fail;go_ret;exact⟨rfl,b1⟩
theorem OO(v iv:Value)(m:List (List Int))(xs:List AU)(f:Nat)(w:World)(h:Bf w v m)(hm:Bs m=true)(hI:BS w iv xs)(ez:BI xs=true)(hf:f<12):Calls prog 278 #[v,iv,.int .i64 f] w λe w'=>e=.returned (.bool true)/\Below w.heap.size w w':=by
 have C1:=AA (Ys v m f w h hm hf);have C2:=AA (λW (hW:Below w.heap.size w W)=>by have:=DO iv xs W (BD.below hI hW) (CJ ez);rw[ez] at this;exact this);clear h hm hI ez;go_in;go_wp2_with fail;refine C1.out.mono ?_;rintro e w1 ⟨rfl,b1⟩;go_wp2_with fail;refine(C2.out _ b1).mono ?_;rintro e w2 ⟨rfl,b2⟩;go_wp2_with fail;go_ret;exact⟨rfl,b1.trans (b2.mono b1.size)⟩
theorem QL(v:Value)(xs:List AU)(g:ByteArray)(f:Nat)(w:World)(h:BS w v xs)(c8:BI xs=true)(hg:BP g=true)(fp:Am xs=(f:Int))(hf:f<12):
 Calls prog 218 #[v,.string g] w λe w'=>∃v',e=.returned (.tuple #[v',.int .i64 f,.bool true])/\AQ w.heap.size 92 3 A2 w' v' (xs.set f ⟨1,g,0⟩)/\Below w.heap.size w w':=by
 have hl:=(Az.1 c8).1;have c0:=OM v xs w h;rw[fp] at c0;have C0:=AA c0;have bY:=Jx hg;have dB:g.size<=maxLen:=by unfold maxLen;omega
 have C1:=AA (λW (hW:Below w.heap.size w W)=>by have:=DO v xs W (BD.below h hW) (CJ c8);rw[c8] at this;exact this);have C2:=AA (λW=>by have:=EJ g W dB;rw[hg] at this;exact this);have HR:=AA (λW (hW:Below w.heap.size w W)=>BD.below h hW);obtain⟨a,c,rfl,hc,ao⟩:=h.shape;have Hl:=AA hl;have dA:xs.length<=12:=by omega
 clear h c8 hg fp c0 dB bY hl;go_in;go_wp2_with fail;refine C0.out.mono ?_;rintro e w0 ⟨rfl,b0⟩;go_wp2_with fail;refine(C1.out _ b0).mono ?_;rintro e w1 ⟨rfl,b1⟩;have cq:=b0.trans (b1.mono b0.size);go_wp2_with fail;refine(C2.out _).mono ?_;rintro e w1 ⟨rfl,rfl⟩;have au:=AA cq;go_wp2_with (at_builtin;go_must (refine FO (cs:=A2) rfl rfl 92 (.agg #[.int .i64 0,.string ⟨#[]⟩,.int .i64 0]) 3 32 underlying24 Tryz.zE rfl (by decide) rfl (By A2 _ _ _) rfl (HR.out _ (cq.trans ((AE _ _).mono cq.size))) (Ez _) (by omega) (by decide) (by simp) ?_;intro v' w9 hO di));have bk:=(au.out.trans ((AE _ _).mono au.out.size)).trans (di.mono au.out.size);obtain⟨q,bK,rfl,c1,c2,q1,q2,g4⟩:=hO.zM (by have:=Hl.out;omega);have hS:=AA (AQ.stored Ay hO (show f<xs.length by have:=Hl.out;omega) ⟨1,g,0⟩);obtain⟨d0,d1,d2⟩:=AQ.zP hO (show f<xs.length by have:=Hl.out;omega);have hB:=AA (AM bk hS.out.2 (yB au.out.size q1) bk.size);have bB:=au.out.size;have eC:(f:Int)<xs.length:=by have:=Hl.out;omega
 unfold maxLen at c2;have cK:¬(f:Int)<0:=by omega
 clear hO di cq b0 b1 bk dA;go_wp2_with fail;go_ret3;exact⟨_,rfl,hS.out.1.lower bB,hB.out⟩
end Go.Proofs.YtpdjjjdkhedibaaGreatDoor
