/-
  Packed:12 texts.
-/
import Derived.Test.YtpdjjjdkhedibaaGreatDoorY1
import Derived.Test.YtpdjjjdkhedibaaGreatDoorY4
import Derived.Test.YtpdjjjdkhedibaaGreatDoorY5
set_option linter.unusedVariables false
set_option linter.unusedSimpArgs false
set_option maxHeartbeats 16000000
set_option maxRecDepth 100000
open Go Go.Proofs.YtpdjjjdkhedibaaGreatDoor
open And renaming intro->xZ
open Bool renaming and_eq_true->yp
open Go.Region renaming waitsFor->yg
open Go.RowKit.Below renaming refl->yD
open Go.World renaming block_lt_of_cell?->yA,size_alloc->xv
open Go.World.ownsRow renaming cellAt->xB,frozenAt->xN,lt->yq,stored->vP
open Go renaming cell_of_row->yi,heap_alloc_new->yv,heap_setCell_same->ym
open Int renaming toNat_natCast->yb
open List renaming all_eq_true->yd,countP_cons->xC,foldl_cons->yy,foldl_nil->yw,getD_eq_getElem?_getD->xR,getElem?_eq_getElem->yu,getElem?_eq_some_iff->yr,getElem?_of_mem->xj,getElem?_set->we,length_append->yj,length_set->xS,length_singleton->xM,mem_of_getElem?->ye,mem_range->xU,range->yC,replicate->xV
open List.range renaming loop->yz
open Nat renaming add_zero->xL,le_refl->yt,le_trans->yB,lt_of_lt_of_le->xX,mul_one->wl,not_lt_zero->xP,zero_le->yh
variable {k:AN} {cv ev iv lv mv qv sv v:Value}
namespace Go.Proofs.YtpdjjjdkhedibaaGreatDoor
open Go.Proofs.Tryz
open Go.RowKit
def EW(k:AN):Prop:=IF k.zZ/\∀j,j<k.zX.length->DQ (AJ k.zX j).zT
theorem NZ(m i e c:Value)(k:AN)(w:World)(h:Ma w m i e c k)(hs:EW k):
 Calls prog 51 #[.agg #[m,i,e,c]] w λe w'=>e=.returned (.bool (Cl k))/\Below w.heap.size w w':=by
 obtain⟨h1,h2,h3,h4⟩:=h;have N0:=yv w (.cells #[m,i,e,c] 28);have cp:=AE w (.cells #[m,i,e,c] 28);have da:=AW N0;replace h1:=h1.below cp;replace h2:=h2.below cp;replace h3:=h3.below cp;replace h4:=h4.below cp;have Hs:=AA hs;obtain⟨am,cm,rfl,_⟩:=h1.open;obtain⟨ai,ci,rfl,_,_⟩:=h2.shape;obtain⟨ae,ce,rfl,eK,fD,eW⟩:=h3.open;obtain⟨ac,cc,rfl,gl,fE⟩:=h4.shape;obtain⟨x0,x1,x2,x3⟩:=AG N0;go_in;go_wp2_with fail;generalize w.alloc _=W0 at*;have ao:=AA cp;have HN:=AA N0;have H1:=AA h1;have H2:=AA h2;have HE:=AA eW;have H4:=AA h4;have eR:=AA da;clear hs h3 eW h1 h2 h4 N0 cp;have C1:=AA (λW (hW:Below W0.heap.size W0 W)=>Nb _ k.mem W (H1.out.below hW));have C2:=AA (λW (hW:Below W0.heap.size W0 W)=>Ek _ k.zZ W (BD.below H2.out hW) Hs.out.1);have C3:=AA (λW (hW:Below W0.heap.size W0 W)=>Ki _ k.zW W (BD.below H4.out hW));have hb:=yD W0.heap.size W0;cases e1:Bs k.mem
 .have S:=AA (Yp e1)
  have T:=AA e1;clear e1 x1 x2 x3;refine(C1.out _ hb).mono ?_;rintro e w1 ⟨rfl,ax⟩;rw[T.out];go_wp2_with fail;go_ret;exact⟨AI S.out.symm,ao.out.trans (ax.mono ao.out.size)⟩
 .have T1:=AA e1
  clear e1 x0 x1 x2 x3 da;refine(C1.out _ hb).mono ?_;rintro e w1 ⟨rfl,ax⟩;rw[T1.out];replace hb:=ax;clear ax;have x1:=(AG (AC HN.out hb)).2.1;go_wp2_with fail;cases e2:BI k.zZ
  .have S:=AA (Vq e2)
   have T:=AA e2;clear e2;refine(C2.out _ hb).mono ?_;rintro e w1 ⟨rfl,ax⟩;rw[T.out];replace hb:=hb.trans (ax.mono hb.size);go_wp2_with fail;go_ret;exact⟨AI S.out.symm,ao.out.trans (hb.mono ao.out.size)⟩
  .have T2:=AA e2
   clear e2 x1;refine(C2.out _ hb).mono ?_;rintro e w1 ⟨rfl,ax⟩;rw[T2.out];replace hb:=hb.trans (ax.mono hb.size);clear ax;have x3:=(AG (AC HN.out hb)).2.2.2;go_wp2_with fail;cases e3:BT k.zW
   .have S:=AA (Vp e3)
    have T:=AA e3;clear e3;refine(C3.out _ hb).mono ?_;rintro e w1 ⟨rfl,ax⟩;rw[T.out];replace hb:=hb.trans (ax.mono hb.size);go_wp2_with fail;go_ret;exact⟨AI S.out.symm,ao.out.trans (hb.mono ao.out.size)⟩
   .have T3:=AA e3
    clear e3 x3;refine(C3.out _ hb).mono ?_;rintro e w1 ⟨rfl,ax⟩;rw[T3.out];replace hb:=hb.trans (ax.mono hb.size);clear ax;have x0:=(AG (AC HN.out hb)).1;have x1:=(AG (AC HN.out hb)).2.1;have x2:=(AG (AC HN.out hb)).2.2.1
    by_cases e4:k.zX.length=3
    .have T4:=AA e4
     have n4:((k.zX.length:Int) !=3)=false:=by simp;omega
     have bz:=AA (Az.1 T2.out).1;have C:=AA (λW (hW:Below W0.heap.size W0 W)=>UL _ _ k.mem k.zZ W (H1.out.below hW) T1.out (BD.below H2.out hW) bz.out);clear e4;go_wp2_with fail;refine(C.out _ hb).mono ?_;rintro e w1 ⟨v',rfl,hO,ax⟩;rw[<-SS] at hO;replace hO:=BO hO hb.size;replace hb:=hb.trans (ax.mono hb.size);clear ax x0 x1 x2;have x2:=(AG (AC HN.out hb)).2.2.1;obtain⟨gr,bu,rfl,dw,dv⟩:=JN hO (by rw[Dp];omega);have fJ:Hid (AF W0.heap.size w1 (.slice (some ⟨gr,0,none⟩) 12 bu) (Ee k 0)):=AA (by have:=hO;rw[Dp] at this;exact this);rw[Dp];clear hO dv;go_wp2_with fail;have ax:=AA hb;clear x2 hb n4;go_loopw [43] (λi wr=>∃j:Nat,j<=k.zX.length/\i=.int .i64 j/\(∀j',j'<j->Du k (AJ k.zX j')=true)/\AF W0.heap.size wr (.slice (some ⟨gr,0,none⟩) 12 bu) (Ee k j)/\Below W0.heap.size W0 wr) (λi _=>k.zX.length - (intOf i).toNat)
     case atStart=>exact⟨0,yh _,rfl,λj hj=>absurd hj (xP _),fJ.out,ax.out⟩
     case round=>
      obtain⟨j,hj,rfl,bs,hO,ab⟩:=hrel;have bk:=AA bs;clear bs
      by_cases ay:j<k.zX.length
      .obtain⟨b,cM,ua,uc,rfl,cQ,D0,D1,RR⟩:=HE.out j ay
       replace D0:=(ab.cell (p:=⟨b,cM+j*2,none⟩) cQ).trans D0;replace D1:=(ab.cell (p:=⟨b,cM+j*2+1,none⟩) cQ).trans D1;have N:=yv wr (.cells #[.slice ua (AJ k.zX j).zT.length uc,.int .i64 (AJ k.zX j).root] 74);have co:=AE wr (.cells #[.slice ua (AJ k.zX j).zT.length uc,.int .i64 (AJ k.zX j).root] 74);have HO:=AA (AF.below hO co);have eD:(j:Int)<k.zX.length:=by omega
       have j3:j<3:=by have:=T4.out;omega
       have gh:=AA hj;clear hO hj;go_wp2_with fail;generalize wr.alloc _=wa at*;have bt:=ab.trans (co.mono ab.size);have y0:wa.cell? ⟨wr.heap.size,0,none⟩=some (.slice ua (AJ k.zX j).zT.length uc):=yi _ _ 0 _ _ _ N;have y1:wa.cell? ⟨wr.heap.size,1,none⟩=some (.int .i64 (AJ k.zX j).root):=yi _ _ 1 _ _ _ N;have ch:=AW N;have cj:=xX eR.out bt.size;have x0:=(AG (AC HN.out bt)).1;have x1:=(AG (AC HN.out bt)).2.1;have au:=AA bt;have HR:=AA RR;clear D0 D1 N co ab bt RR;have cS:=λW (hW:Below wa.heap.size wa W)=>Nc _ (AJ k.zX j).zT W (BD.below (BD.below HR.out au.out) hW) (Hs.out.2 j ay)
       cases e5:BQ (AJ k.zX j).zT
       .rw[e5] at cS
        have CR:=AA cS;have CF:=AA True.intro;have S:=AA (Mo ay (show Du k (AJ k.zX j)=false by simp[Du,e5]));clear cS e5;refine AY 35 170 [.p wr.heap.size 0,.v (.slice ua (AJ k.zX j).zT.length uc),.b false,.b true,.b true,.u,.u,.u,.u,.u,.u,.u,.u,.u,.u,.u,.u,.u,.u,.u,.u,.u,.u,.u,.b true,.b true,.u,.u,.u,.u,.u,.u,.u,.u,.u] (λ_ _ _=>True) ?_ ?_
        .intro i hi o ho a wx Hb Hd hG K HK
         match i,hi with
         |0,_|3,_|4,_|24,_|25,_=>exact sP ho HK Hb Hd
         |1,_=>exact sL ho HK Hb Hd (hl:=LM (bc hG ch y0))
         |2,_=>exact sD ho HK Hb Hd (CR.out _ hG)
         |5,_|6,_|7,_|8,_|9,_|10,_|12,_|13,_|14,_|15,_|16,_|17,_|18,_|19,_|20,_|21,_|22,_|23,_|26,_|27,_|28,_|29,_|30,_|31,_|32,_|33,_|34,_=>exact sB ho HK Hd
         |11,_=>obtain rfl:=yF ho;have d8:(a.tmps[55]?.getD undef)=undef:=BM Hd 8;clear Hd Hb;exact AV.un rfl rfl d8 (HK.out _ _ rfl (yD _ _))
         |_+35,hq=>omega
        .intro vs wx hR hG
         have bC:(vs 25)=.bool true:=BW hR 25;have bB:(vs 34)=undef:=BW hR 34;clear hR;simp only[Aj,Ae,yC,yz,yy,yw,bC,bB];simp;clear bC bB;have az:=au.out.trans (hG.mono au.out.size);clear hG;go_wp2_with fail;go_ret;exact⟨AI S.out.symm,ao.out.trans (az.mono ao.out.size)⟩
       .rw[e5] at cS
        have CR:=AA cS;have E5:=AA e5;clear cS e5
        by_cases e6:(AJ k.zX j).root= -1
        .have E6:=AA e6
         have t6:((AJ k.zX j).root != -1)=false:=by simp[e6]
         rw[e6] at y1;have f3:((-1:Int) != -1)=false:=rfl;have CF:=AA True.intro;have CX:=AA (λW (hW:Below wa.heap.size wa W)=>OZ _ k.mem (-1) W ((H1.out.below au.out).below hW) (by omega));have cF:=x1;have CA:=AA (λW (hW:Below wa.heap.size wa W) v2 ts (h2:Aw W v2 (A0 ts)) (hm:∀g,g∈ts↔g∈BZ k.mem (-1))=>K9 w.heap.size _ v2 _ (AJ k.zX j).zT ts k.zZ W ((hW.cell (p:=⟨w.heap.size,1,none⟩) cj).trans cF) (BD.below (BD.below HR.out au.out) hW) (BD.below (BD.below H2.out au.out) hW) h2 (λf hf=>by have:=(DY.1 ((hm f).1 hf)).1;omega));clear cF e6;replace CA:=AA (λW (hW:Below wa.heap.size wa W) v2 ts (h2:Aw W v2 (A0 ts)) (hm:∀g,g∈ts↔g∈BZ k.mem (-1))=>by have:=CA.out W hW v2 ts h2 hm;rw[Fv hm] at this;exact this);have cR:Hid (BG k.zZ (BZ k.mem (-1)) (AJ k.zX j).zT=true):=AA (by simp[BG,BZ]);rw[cR.out] at CA;have S:=AA (show Du k (AJ k.zX j)=true by simp only[Du,E5.out,E6.out,cR.out];rfl);have L:=AA (Wr ay (show(AJ k.zX j).root<0 by rw[E6.out];omega));clear cR;refine BN 35 170 [.p wr.heap.size 0,.v (.slice ua (AJ k.zX j).zT.length uc),.b true,.b false,.b false,.p wr.heap.size 1,.i (-1),.b false,.b false,.u,.u,.u,.u,.u,.u,.u,.u,.u,.u,.u,.u,.u,.u,.b false,.b false,.b false,.p wr.heap.size 0,.v (.slice ua (AJ k.zX j).zT.length uc),.p w.heap.size 0,.v (.slice am k.mem.length cm),.p wr.heap.size 1,.i (-1),.z,.b true,.b false] (λix vv ww=>match ix with
          |32=>GX wa.heap.size k.mem (-1) ww vv
          |_=>True) ?_ ?_ ?_
         .intro i hi o ho a wx Hb Hd hG K HK
          have bn:=bc hG ch y0;have bl:=bc hG ch y1;have bm:=bc hG cj x0
          match i,hi with
          |0,_|3,_|4,_|5,_|8,_|23,_|24,_|25,_|26,_|28,_|30,_|34,_=>exact sP ho HK Hb Hd
          |1,_|27,_=>exact sL ho HK Hb Hd (hl:=LM ‹_›)
          |2,_=>exact sD ho HK Hb Hd (CR.out _ hG)
          |6,_|31,_=>exact sL ho HK Hb Hd (hl:=Fp ‹_›)
          |9,_|10,_|12,_|13,_|14,_|15,_|16,_|17,_|18,_|19,_|20,_|21,_|22,_=>exact sB ho HK Hd
          |29,_=>exact sL ho HK Hb Hd (hl:=GT ‹_›)
          |32,_=>exact sC ho HK Hb Hd (CX.out _ hG) (by rintro e w_ ⟨v',ts,rfl,hO,bx,_,ad⟩;exact⟨_,rfl,⟨ts,BO hO hG.size,bx⟩,ad⟩)
          |7,_=>clear bn bl bm;obtain rfl:=yF ho;have d6:(a.tmps[53]?.getD undef)=.int .i64 (-1):=BM Hd 6;have d4:(a.tmps[51]?.getD undef)=.bool false:=BM Hd 4;clear Hd Hb;refine AV.yes rfl rfl d4 ?_;go_simp;exact HK.out _ _ rfl (yD _ _)
          |11,_=>clear bn bl bm;obtain rfl:=yF ho;have d8:(a.tmps[55]?.getD undef)=.bool false:=BM Hd 8;clear Hd Hb;exact AV.no rfl rfl d8 (HK.out _ _ rfl (yD _ _))
          |33,_=>clear bn bl bm;obtain rfl:=yF ho;have e1:a.tmps[1]?.getD undef=.pointer (some ⟨w.heap.size,0,none⟩):=eg (Oj Hb 1);have fM:(a.tmps[74]?.getD undef)=.slice ua (AJ k.zX j).zT.length uc:=BM Hd 27;have dk:GX wa.heap.size k.mem (-1) wx (a.tmps[79]?.getD undef):=BM Hd 32;have ej:(a.tmps[72]?.getD undef)=.bool false:=BM Hd 25;clear Hd Hb;generalize e79:a.tmps[79]?.getD undef=v2 at dk;obtain⟨ts,hO,bx⟩:=dk;have er:=CA.out wx hG v2 ts (AF.rd hO) bx;refine AV.yes rfl rfl ej ?_;go_simp;refine er.mono ?_;rintro e w_ ⟨rfl,ad⟩;exact HK.out _ _ rfl ad
          |_+35,hq=>omega
         .intro i hi vv wz cU bN hz
          match i,hi with
          |32,_=>exact(GX.below hz bN)
          |0,_|1,_|2,_|3,_|4,_|5,_|6,_|7,_|8,_|9,_|10,_|11,_|12,_|13,_|14,_|15,_|16,_|17,_|18,_|19,_|20,_|21,_|22,_|23,_|24,_|25,_|26,_|27,_|28,_|29,_|30,_|31,_|33,_|34,_=>exact hz
          |_+35,hq=>omega
         .intro vs wx hR hG
          have bC:(vs 25)=.bool false:=BW hR 25;have bB:(vs 34)=.bool false:=BW hR 34;clear hR;simp only[Aj,Ae,yC,yz,yy,yw,bC,bB];simp;clear bC bB;have az:=au.out.trans (hG.mono au.out.size);replace y1:=(hG.cell (p:=⟨wr.heap.size,1,none⟩) ch).trans y1;have ck:=AA (AF.below HO.out hG);clear hG x0 x1 y0;go_wp2_with fail;go_roundw
          case rel=>exact⟨j+1,by omega,by go_num,Ak bk.out S.out,by rw[L.out];exact ck.out,az⟩
          case measure=>simp[intOf];omega
        .have t6:((AJ k.zX j).root != -1)=true:=by simp[e6]
         have cL:=λW (_:Below wa.heap.size wa W)=>BK (Es (AJ k.zX j).root W)
         cases e7:Be (AJ k.zX j).root 0 11
         .rw[e7] at cL
          have CF:=AA cL;have S:=AA (Mo ay (show Du k (AJ k.zX j)=false by simp[Du,e6,e7]));clear cL e6 e7;refine AY 35 170 [.p wr.heap.size 0,.v (.slice ua (AJ k.zX j).zT.length uc),.b true,.b false,.b false,.p wr.heap.size 1,.i ((AJ k.zX j).root),.b true,.b true,.p wr.heap.size 1,.i ((AJ k.zX j).root),.b false,.b true,.b true,.u,.u,.u,.u,.u,.u,.u,.u,.b true,.b true,.b true,.b true,.u,.u,.u,.u,.u,.u,.u,.u,.u] (λ_ _ _=>True) ?_ ?_
          .intro i hi o ho a wx Hb Hd hG K HK
           have bn:=bc hG ch y0;have bl:=bc hG ch y1
           match i,hi with
           |0,_|3,_|4,_|5,_|8,_|9,_|12,_|13,_|22,_|23,_|24,_|25,_=>exact sP ho HK Hb Hd
           |1,_=>exact sL ho HK Hb Hd (hl:=LM ‹_›)
           |2,_=>exact sD ho HK Hb Hd (CR.out _ hG)
           |6,_|10,_=>exact sL ho HK Hb Hd (hl:=Fp ‹_›)
           |11,_=>exact sD ho HK Hb Hd (CF.out _ hG)
           |14,_|15,_|16,_|17,_|18,_|19,_|20,_|21,_|26,_|27,_|28,_|29,_|30,_|31,_|32,_|33,_|34,_=>exact sB ho HK Hd
           |7,_=>clear bn bl;obtain rfl:=yF ho;have d6:(a.tmps[53]?.getD undef)=.int .i64 ((AJ k.zX j).root):=BM Hd 6;have d4:(a.tmps[51]?.getD undef)=.bool false:=BM Hd 4;clear Hd Hb;refine AV.yes rfl rfl d4 ?_;go_simp;exact HK.out _ _ rfl (yD _ _)
           |_+35,hq=>omega
          .intro vs wx hR hG
           have bC:(vs 25)=.bool true:=BW hR 25;have bB:(vs 34)=undef:=BW hR 34;clear hR;simp only[Aj,Ae,yC,yz,yy,yw,bC,bB];simp;clear bC bB;have az:=au.out.trans (hG.mono au.out.size);clear hG;go_wp2_with fail;go_ret;exact⟨AI S.out.symm,ao.out.trans (az.mono ao.out.size)⟩
         .rw[e7] at cL
          obtain⟨r,hr⟩:∃r:Nat,(AJ k.zX j).root=(r:Int):=⟨(AJ k.zX j).root.toNat,by have:=(Ab.1 e7).1;omega⟩
          have cr:r<12:=by have:=(Ab.1 e7).2;omega
          have E7:=AA (xZ e6 e7);rw[hr] at cL t6 y1;have CF:=AA cL;have Hr:=AA hr;clear cL e6 e7 hr;have f9:(r:Int)<k.zZ.length:=by have:=bz.out;omega
          obtain⟨a9,c9,ev,_,_,dr⟩:=BD.open Ay (by decide) (BD.below H2.out au.out);cases ev;obtain⟨bi,be,rfl,dg,ei,_,_⟩:=dr.zP (show r<k.zZ.length by have:=bz.out;omega);clear dr
          by_cases e8:(zS k.zZ r).k=3
          .have t8:((zS k.zZ r).k !=3)=false:=by simp[e8]
           have CX:=AA (λW (hW:Below wa.heap.size wa W)=>OY _ k.mem r W ((H1.out.below au.out).below hW) T1.out cr);have cF:=x1;have CA:=AA (λW (hW:Below wa.heap.size wa W) v2 ts (h2:Aw W v2 (A0 ts)) (hm:∀g,g∈ts↔g∈BZ k.mem (r:Int))=>by have:=K9 w.heap.size _ v2 _ (AJ k.zX j).zT ts k.zZ W ((hW.cell (p:=⟨w.heap.size,1,none⟩) cj).trans cF) (BD.below (BD.below HR.out au.out) hW) (BD.below (BD.below H2.out au.out) hW) h2 (λf hf=>by have:=zw (root:=(r:Int)) (by omega) f ((hm f).1 hf);have:=bz.out;omega);rw[Fv hm] at this;exact this);clear cF;have E8:=AA e8;clear e8;generalize cR:BG k.zZ (BZ k.mem (r:Int)) (AJ k.zX j).zT=bb at CA;have eX:=AA cR;clear cR;refine BN 35 170 [.p wr.heap.size 0,.v (.slice ua (AJ k.zX j).zT.length uc),.b true,.b false,.b false,.p wr.heap.size 1,.i ((r:Int)),.b true,.b true,.p wr.heap.size 1,.i ((r:Int)),.b true,.b false,.b false,.p w.heap.size 1,.v (.slice (some ⟨bi,be,none⟩) k.zZ.length ci),.p wr.heap.size 1,.i ((r:Int)),.p bi (be+r*3),.p bi (be+r*3),.i ((zS k.zZ r).k),.b false,.b false,.b false,.b false,.b false,.p wr.heap.size 0,.v (.slice ua (AJ k.zX j).zT.length uc),.p w.heap.size 0,.v (.slice am k.mem.length cm),.p wr.heap.size 1,.i ((r:Int)),.z,.b bb,.b (!bb)] (λix vv ww=>match ix with
            |32=>GX wa.heap.size k.mem ((r:Int)) ww vv
            |_=>True) ?_ ?_ ?_
           .intro i hi o ho a wx Hb Hd hG K HK
            have bn:=bc hG ch y0;have bl:=bc hG ch y1;have bm:=bc hG cj x1;have b9:=bc hG dg ei;have cl:=bc hG cj x0
            match i,hi with
            |0,_|3,_|4,_|5,_|8,_|9,_|12,_|13,_|14,_|16,_|19,_|22,_|23,_|24,_|25,_|26,_|28,_|30,_|34,_=>exact sP ho HK Hb Hd
            |1,_|27,_=>exact sL ho HK Hb Hd (hl:=LM ‹_›)
            |2,_=>exact sD ho HK Hb Hd (CR.out _ hG)
            |6,_|10,_|17,_|20,_|31,_=>exact sL ho HK Hb Hd (hl:=Fp ‹_›)
            |11,_=>exact sD ho HK Hb Hd (CF.out _ hG)
            |15,_=>exact sL ho HK Hb Hd (hl:=F8 ‹_›)
            |18,_=>exact sI ho HK Hb Hd (hr:=by clear Hd Hb HK;go_simp)
            |29,_=>exact sL ho HK Hb Hd (hl:=GT ‹_›)
            |32,_=>exact sC ho HK Hb Hd (CX.out _ hG) (by rintro e w_ ⟨v',ts,rfl,hO,bx,_,ad⟩;exact⟨_,rfl,⟨ts,BO hO hG.size,bx⟩,ad⟩)
            |7,_=>clear bn bl bm b9 cl;obtain rfl:=yF ho;have d6:(a.tmps[53]?.getD undef)=.int .i64 r:=BM Hd 6;have d4:(a.tmps[51]?.getD undef)=.bool false:=BM Hd 4;clear Hd Hb;refine AV.yes rfl rfl d4 ?_;go_simp;exact HK.out _ _ rfl (yD _ _)
            |21,_=>clear bn bl bm b9 cl;obtain rfl:=yF ho;have fO:(a.tmps[67]?.getD undef)=.int .i64 ((zS k.zZ r).k):=BM Hd 20;have el:(a.tmps[60]?.getD undef)=.bool false:=BM Hd 13;clear Hd Hb;refine AV.yes rfl rfl el ?_;go_simp;exact HK.out _ _ rfl (yD _ _)
            |33,_=>clear bn bl bm b9 cl;obtain rfl:=yF ho;have e1:a.tmps[1]?.getD undef=.pointer (some ⟨w.heap.size,0,none⟩):=eg (Oj Hb 1);have fM:(a.tmps[74]?.getD undef)=.slice ua (AJ k.zX j).zT.length uc:=BM Hd 27;have dk:GX wa.heap.size k.mem ((r:Int)) wx (a.tmps[79]?.getD undef):=BM Hd 32;have ej:(a.tmps[72]?.getD undef)=.bool false:=BM Hd 25;clear Hd Hb;generalize e79:a.tmps[79]?.getD undef=v2 at dk;obtain⟨ts,hO,bx⟩:=dk;have er:=CA.out wx hG v2 ts (AF.rd hO) bx;refine AV.yes rfl rfl ej ?_;go_simp;refine er.mono ?_;rintro e w_ ⟨rfl,ad⟩;exact HK.out _ _ rfl ad
            |_+35,hq=>omega
           .intro i hi vv wz cU bN hz
            match i,hi with
            |32,_=>exact(GX.below hz bN)
            |0,_|1,_|2,_|3,_|4,_|5,_|6,_|7,_|8,_|9,_|10,_|11,_|12,_|13,_|14,_|15,_|16,_|17,_|18,_|19,_|20,_|21,_|22,_|23,_|24,_|25,_|26,_|27,_|28,_|29,_|30,_|31,_|33,_|34,_=>exact hz
            |_+35,hq=>omega
           .intro vs wx hR hG
            have bC:(vs 25)=.bool false:=BW hR 25;have bB:(vs 34)=.bool (!bb):=BW hR 34;clear hR;simp only[Aj,Ae,yC,yz,yy,yw,bC,bB];simp;clear bC bB;have az:=au.out.trans (hG.mono au.out.size);replace y1:=(hG.cell (p:=⟨wr.heap.size,1,none⟩) ch).trans y1;have ck:=AF.below HO.out hG;clear hG x0 x1 y0 ei;cases bb
            .have S:=AA (Mo ay (show Du k (AJ k.zX j)=false by simp only[Du,Hr.out,eX.out,Bool.and_false]))
             clear ck;go_wp2_with fail;go_ret;exact⟨AI S.out.symm,ao.out.trans (az.mono ao.out.size)⟩
            .have S:=AA (show Du k (AJ k.zX j)=true by
              have e7:=E7.out.2;rw[Hr.out] at e7;simp only[Du,E5.out,Hr.out,eX.out,e7,yb,E8.out];simp)
             have L:=AA (Uz ay Hr.out cr);obtain⟨s1,s2⟩:=QD (k:=k) (j:=j) T1.out T4.out cr;have av:wx.ownsRow W0.heap.size 3 1 (.slice (some ⟨gr,0,none⟩) 12 bu) 12 ((Ee k j).map (Value.int .i64)):=by have:=ck;unfold AF at this;rwa [Dp] at this
             have C:=(av.cellAt r (by omega)).trans (FV (xs:=Ee k j) (by rw[Dp];exact cr));have Fr:=av.frozenAt r;have S2:=AA (av.stored r (.int .i64 (nth (Ee k j) r+1)));have r0:(0:Int)<=r:=by omega
             have f5:(r:Int)<12:=by omega
             have fy:=dw;have eS:Hid (W0.heap.size<=gr):=AA (av.lt gr rfl).1;clear ck av;generalize nth (Ee k j) r=nn at*;go_wp2_with fail;go_roundw
             case rel=>refine⟨j+1,by omega,by go_num,Ak bk.out S.out,?_,AM az S2.out.2 eS.out az.size⟩;rw[L.out];unfold AF;rw[xS,Dp,List.map_set];exact S2.out.1
             case measure=>simp[intOf];omega
          .have t8:((zS k.zZ r).k !=3)=true:=by simp[e8]
           have S:=AA (Mo ay (show Du k (AJ k.zX j)=false by simp[Du,Hr.out,e8]));clear e8;refine AY 35 170 [.p wr.heap.size 0,.v (.slice ua (AJ k.zX j).zT.length uc),.b true,.b false,.b false,.p wr.heap.size 1,.i ((r:Int)),.b true,.b true,.p wr.heap.size 1,.i ((r:Int)),.b true,.b false,.b false,.p w.heap.size 1,.v (.slice (some ⟨bi,be,none⟩) k.zZ.length ci),.p wr.heap.size 1,.i ((r:Int)),.p bi (be+r*3),.p bi (be+r*3),.i ((zS k.zZ r).k),.b true,.b true,.b true,.b true,.b true,.u,.u,.u,.u,.u,.u,.u,.u,.u] (λ_ _ _=>True) ?_ ?_
           .intro i hi o ho a wx Hb Hd hG K HK
            have bn:=bc hG ch y0;have bl:=bc hG ch y1;have bm:=bc hG cj x1;have b9:=bc hG dg ei
            match i,hi with
            |0,_|3,_|4,_|5,_|8,_|9,_|12,_|13,_|14,_|16,_|19,_|22,_|23,_|24,_|25,_=>exact sP ho HK Hb Hd
            |1,_=>exact sL ho HK Hb Hd (hl:=LM ‹_›)
            |2,_=>exact sD ho HK Hb Hd (CR.out _ hG)
            |6,_|10,_|17,_|20,_=>exact sL ho HK Hb Hd (hl:=Fp ‹_›)
            |11,_=>exact sD ho HK Hb Hd (CF.out _ hG)
            |15,_=>exact sL ho HK Hb Hd (hl:=F8 ‹_›)
            |18,_=>exact sI ho HK Hb Hd (hr:=by clear Hd Hb HK;go_simp)
            |26,_|27,_|28,_|29,_|30,_|31,_|32,_|33,_|34,_=>exact sB ho HK Hd
            |7,_=>clear bn bl bm b9;obtain rfl:=yF ho;have d6:(a.tmps[53]?.getD undef)=.int .i64 r:=BM Hd 6;have d4:(a.tmps[51]?.getD undef)=.bool false:=BM Hd 4;clear Hd Hb;refine AV.yes rfl rfl d4 ?_;go_simp;exact HK.out _ _ rfl (yD _ _)
            |21,_=>clear bn bl bm b9;obtain rfl:=yF ho;have fO:(a.tmps[67]?.getD undef)=.int .i64 ((zS k.zZ r).k):=BM Hd 20;have el:(a.tmps[60]?.getD undef)=.bool false:=BM Hd 13;clear Hd Hb;refine AV.yes rfl rfl el ?_;go_simp;exact HK.out _ _ rfl (yD _ _)
            |_+35,hq=>omega
           .intro vs wx hR hG
            have bC:(vs 25)=.bool true:=BW hR 25;have bB:(vs 34)=undef:=BW hR 34;clear hR;simp only[Aj,Ae,yC,yz,yy,yw,bC,bB];simp;clear bC bB;have az:=au.out.trans (hG.mono au.out.size);clear hG;go_wp2_with fail;go_ret;exact⟨AI S.out.symm,ao.out.trans (az.mono ao.out.size)⟩
      .obtain rfl:j=k.zX.length:=by omega
       have eV:=AA (λj (hj:j<3)=>bk.out j (by have:=T4.out;omega));have fI:Hid (AF W0.heap.size wr (.slice (some ⟨gr,0,none⟩) 12 bu) (Ee k 3)):=AA (by have:=hO;rwa [T4.out] at this);have x1:=(AG (AC HN.out ab)).2.1;have eS:Hid (gr<wr.heap.size):=AA (yq hO gr rfl).2;have ad:=AA ab;clear hO ab bk;go_wp2_with fail;clear x1;obtain⟨wq,rfl⟩:∃wq:World,wq=wr:=⟨_,rfl⟩
       go_loopw [97] (λi wr=>∃f:Nat,f<=k.zZ.length/\i=.int .i64 f/\(∀f',f'<f->Da k f'=true/\Gs k f'=true)/\AF W0.heap.size wr (.slice (some ⟨gr,0,none⟩) 12 bu) (Ee k 3)/\Below W0.heap.size W0 wr) (λi _=>k.zZ.length - (intOf i).toNat)
       case atStart=>exact⟨0,yh _,rfl,λj hj=>absurd hj (xP _),fI.out,ad.out⟩
       case round=>
        obtain⟨f,hf,rfl,bs,hO,ab⟩:=hrel;have bk:=AA bs;clear bs
        by_cases ay:f<k.zZ.length
        .obtain⟨a9,c9,ev,_,_,dr⟩:=BD.open Ay (by decide) (BD.below H2.out ab)
         cases ev;obtain⟨bi,be,rfl,dg,D0,D1,D2⟩:=dr.zP ay;have N:=yv wr (.cells #[.int .i64 (zS k.zZ f).k,.string (zS k.zZ f).g,.int .i64 (zS k.zZ f).r] 92);have co:=AE wr (.cells #[.int .i64 (zS k.zZ f).k,.string (zS k.zZ f).g,.int .i64 (zS k.zZ f).r] 92);have HO:=AA (AF.below hO co);have eD:(f:Int)<k.zZ.length:=by omega
         have bp:f<12:=by have:=bz.out;omega
         have cH:(f:Int)<12:=by omega
         clear hO dr;go_wp2_with fail;generalize wr.alloc _=wa at*;have bt:=ab.trans (co.mono ab.size);have y0:wa.cell? ⟨wr.heap.size,0,none⟩=some (.int .i64 (zS k.zZ f).k):=yi _ _ 0 _ _ _ N;have y2:wa.cell? ⟨wr.heap.size,2,none⟩=some (.int .i64 (zS k.zZ f).r):=yi _ _ 2 _ _ _ N;have dc:=AW N;have cj:=xX eR.out bt.size;have x0:=(AG (AC HN.out bt)).1;have x1:=(AG (AC HN.out bt)).2.1;have av:wa.ownsRow W0.heap.size 3 1 (.slice (some ⟨gr,0,none⟩) 12 bu) 12 ((Ee k 3).map (Value.int .i64)):=by have:=HO.out;unfold AF at this;rwa [Dp] at this
         have dj:=(av.cellAt f (by omega)).trans (FV (xs:=Ee k 3) (by rw[Dp];exact bp));have cn:=(av.lt gr rfl).2;have au:=AA bt;have cK:=λW (_:Below wa.heap.size wa W)=>BK (Ic (zS k.zZ f).k W)
         clear D0 D1 D2 N co ab bt av;cases e5:Bd (zS k.zZ f).k
         .rw[e5] at cK
          have CT:=AA cK;have TB:=AA (show Da k f=true by simp[Da,e5]);clear cK e5;refine AY 23 170 [.p wr.heap.size 0,.i ((zS k.zZ f).k),.b false,.b false,.u,.u,.u,.u,.u,.u,.u,.u,.u,.u,.b false,.b false,.p wr.heap.size 2,.i ((zS k.zZ f).r),.s gr 12 bu,.i ((f:Int)),.p gr f,.i (nth (Ee k 3) f),.b ((zS k.zZ f).r !=nth (Ee k 3) f)] (λ_ _ _=>True) ?_ ?_
          .intro i hi o ho a wx Hb Hd hG K HK
           have bn:=bc hG dc y0;have bl:=bc hG dc y2;have bm:=bc hG cn dj
           match i,hi with
           |0,_|3,_|14,_|15,_|16,_|18,_|19,_=>exact sP ho HK Hb Hd
           |1,_|17,_|21,_=>exact sL ho HK Hb Hd (hl:=Fp ‹_›)
           |2,_=>exact sD ho HK Hb Hd (CT.out _ hG)
           |4,_|5,_|6,_|7,_|8,_|9,_|10,_|11,_|12,_|13,_=>exact sB ho HK Hd
           |20,_=>exact sI ho HK Hb Hd (hr:=by clear Hd Hb HK;go_simp)
           |22,_=>clear bn bl bm;obtain rfl:=yF ho;have fP:(a.tmps[119]?.getD undef)=.int .i64 ((zS k.zZ f).r):=BM Hd 17;have fN:(a.tmps[123]?.getD undef)=.int .i64 (nth (Ee k 3) f):=BM Hd 21;have dE:(a.tmps[117]?.getD undef)=.bool false:=BM Hd 15;clear Hd Hb;refine AV.yes rfl rfl dE ?_;go_simp;exact HK.out _ _ rfl (yD _ _)
           |_+23,hq=>omega
          .intro vs wx hR hG
           have cx:(vs 15)=.bool false:=BW hR 15;have cu:(vs 22)=.bool ((zS k.zZ f).r !=nth (Ee k 3) f):=BW hR 22;clear hR;simp only[Aj,Ae,yC,yz,yy,yw,cx,cu];simp;clear cx cu;have az:=au.out.trans (hG.mono au.out.size);have ck:=AA (AF.below HO.out hG);clear hG x0 x1 y0 y2 dj;have RL:=QC (k:=k) T4.out bp;cases cs:((zS k.zZ f).r !=nth (Ee k 3) f)
           .have S1:=AA (show Gs k f=true by rw[RL];simpa using cs)
            clear RL;go_wp2_with fail;go_roundw
            case rel=>exact⟨f+1,by omega,by go_num,Ak bk.out ⟨TB.out,S1.out⟩,ck.out,az⟩
            case measure=>simp[intOf];omega
           .have S:=AA (Ub bp (show Gs k f=false by rw[RL];simpa using cs))
            clear RL;go_wp2_with fail;go_ret;exact⟨AI S.out.symm,ao.out.trans (az.mono ao.out.size)⟩
         .rw[e5] at cK
          have CT:=AA cK;have cT:=λW (hW:Below wa.heap.size wa W) v2 (h2:BR W v2 [⟨#[]⟩])=>Yg _ _ v2 k.mem k.zZ f (zS k.zZ f).k [⟨#[]⟩] W ((H1.out.below au.out).below hW) T1.out (BD.below (BD.below H2.out au.out) hW) bz.out bp e5 h2
          cases e6:Iw k.mem k.zZ f (zS k.zZ f).k [⟨#[]⟩]
          .rw[e6] at cT
           have CG:=AA cT;have S:=AA (Yq bp (show Da k f=false by simp[Da,e5,e6]));clear cK e5 cT e6;refine BN 23 170 [.p wr.heap.size 0,.i ((zS k.zZ f).k),.b true,.b true,.p w.heap.size 0,.v (.slice am k.mem.length cm),.p w.heap.size 1,.v (.slice (some ⟨bi,be,none⟩) k.zZ.length ci),.i ((f:Int)),.p wr.heap.size 0,.i ((zS k.zZ f).k),.z,.b false,.b true,.b true,.b true,.u,.u,.u,.u,.u,.u,.u] (λix vv ww=>match ix with
            |11=>BR ww vv [⟨#[]⟩]
            |_=>True) ?_ ?_ ?_
           .intro i hi o ho a wx Hb Hd hG K HK
            have bn:=bc hG dc y0;have bl:=bc hG cj x0;have bm:=bc hG cj x1
            match i,hi with
            |0,_|3,_|4,_|6,_|8,_|9,_|13,_|14,_|15,_=>exact sP ho HK Hb Hd
            |1,_|10,_=>exact sL ho HK Hb Hd (hl:=Fp ‹_›)
            |2,_=>exact sD ho HK Hb Hd (CT.out _ hG)
            |5,_=>exact sL ho HK Hb Hd (hl:=GT ‹_›)
            |7,_=>exact sL ho HK Hb Hd (hl:=F8 ‹_›)
            |16,_|17,_|18,_|19,_|20,_|21,_|22,_=>exact sB ho HK Hd
            |11,_=>clear bn bl bm;obtain rfl:=yF ho;have d3:(a.tmps[105]?.getD undef)=.bool true:=BM Hd 3;clear Hd Hb;refine AV.yes rfl rfl d3 ?_;go_simp;exact HK.out _ _ (Rd.news _ #[.string ⟨#[]⟩] _ 1 1 rfl (by simp[maxLen])) (AE _ _)
            |12,_=>clear bn bl bm;obtain rfl:=yF ho;have d5:(a.tmps[107]?.getD undef)=.slice am k.mem.length cm:=BM Hd 5;have d7:(a.tmps[109]?.getD undef)=.slice (some ⟨bi,be,none⟩) k.zZ.length ci:=BM Hd 7;have d8:(a.tmps[110]?.getD undef)=.int .i64 f:=BM Hd 8;have eM:(a.tmps[112]?.getD undef)=.int .i64 ((zS k.zZ f).k):=BM Hd 10;have dl:BR wx (a.tmps[113]?.getD undef) [⟨#[]⟩]:=BM Hd 11;have d3:(a.tmps[105]?.getD undef)=.bool true:=BM Hd 3;clear Hd Hb;generalize e113:a.tmps[113]?.getD undef=v2 at dl;have ep:=CG.out wx hG v2 dl;refine AV.yes rfl rfl d3 ?_;go_simp;refine ep.mono ?_;rintro e w_ ⟨rfl,ad⟩;exact HK.out _ _ rfl ad
            |_+23,hq=>omega
           .intro i hi vv wz cU bN hz
            match i,hi with
            |11,_=>exact(BD.below hz bN)
            |0,_|1,_|2,_|3,_|4,_|5,_|6,_|7,_|8,_|9,_|10,_|12,_|13,_|14,_|15,_|16,_|17,_|18,_|19,_|20,_|21,_|22,_=>exact hz
            |_+23,hq=>omega
           .intro vs wx hR hG
            have cx:(vs 15)=.bool true:=BW hR 15;have cu:(vs 22)=undef:=BW hR 22;clear hR;simp only[Aj,Ae,yC,yz,yy,yw,cx,cu];simp;clear cx cu;have az:=au.out.trans (hG.mono au.out.size);clear hG x0 x1 y0 y2 dj;go_wp2_with fail;go_ret;exact⟨AI S.out.symm,ao.out.trans (az.mono ao.out.size)⟩
          .rw[e6] at cT
           have CG:=AA cT;have TB:=AA (show Da k f=true by simp[Da,e6]);clear cK e5 cT e6;refine BN 23 170 [.p wr.heap.size 0,.i ((zS k.zZ f).k),.b true,.b true,.p w.heap.size 0,.v (.slice am k.mem.length cm),.p w.heap.size 1,.v (.slice (some ⟨bi,be,none⟩) k.zZ.length ci),.i ((f:Int)),.p wr.heap.size 0,.i ((zS k.zZ f).k),.z,.b true,.b false,.b false,.b false,.p wr.heap.size 2,.i ((zS k.zZ f).r),.s gr 12 bu,.i ((f:Int)),.p gr f,.i (nth (Ee k 3) f),.b ((zS k.zZ f).r !=nth (Ee k 3) f)] (λix vv ww=>match ix with
            |11=>BR ww vv [⟨#[]⟩]
            |_=>True) ?_ ?_ ?_
           .intro i hi o ho a wx Hb Hd hG K HK
            have bn:=bc hG dc y0;have bl:=bc hG cj x0;have bm:=bc hG cj x1;have b9:=bc hG dc y2;have cl:=bc hG cn dj
            match i,hi with
            |0,_|3,_|4,_|6,_|8,_|9,_|13,_|14,_|15,_|16,_|18,_|19,_=>exact sP ho HK Hb Hd
            |1,_|10,_|17,_|21,_=>exact sL ho HK Hb Hd (hl:=Fp ‹_›)
            |2,_=>exact sD ho HK Hb Hd (CT.out _ hG)
            |5,_=>exact sL ho HK Hb Hd (hl:=GT ‹_›)
            |7,_=>exact sL ho HK Hb Hd (hl:=F8 ‹_›)
            |20,_=>exact sI ho HK Hb Hd (hr:=by clear Hd Hb HK;go_simp)
            |11,_=>clear bn bl bm b9 cl;obtain rfl:=yF ho;have d3:(a.tmps[105]?.getD undef)=.bool true:=BM Hd 3;clear Hd Hb;refine AV.yes rfl rfl d3 ?_;go_simp;exact HK.out _ _ (Rd.news _ #[.string ⟨#[]⟩] _ 1 1 rfl (by simp[maxLen])) (AE _ _)
            |12,_=>clear bn bl bm b9 cl;obtain rfl:=yF ho;have d5:(a.tmps[107]?.getD undef)=.slice am k.mem.length cm:=BM Hd 5;have d7:(a.tmps[109]?.getD undef)=.slice (some ⟨bi,be,none⟩) k.zZ.length ci:=BM Hd 7;have d8:(a.tmps[110]?.getD undef)=.int .i64 f:=BM Hd 8;have eM:(a.tmps[112]?.getD undef)=.int .i64 ((zS k.zZ f).k):=BM Hd 10;have dl:BR wx (a.tmps[113]?.getD undef) [⟨#[]⟩]:=BM Hd 11;have d3:(a.tmps[105]?.getD undef)=.bool true:=BM Hd 3;clear Hd Hb;generalize e113:a.tmps[113]?.getD undef=v2 at dl;have ep:=CG.out wx hG v2 dl;refine AV.yes rfl rfl d3 ?_;go_simp;refine ep.mono ?_;rintro e w_ ⟨rfl,ad⟩;exact HK.out _ _ rfl ad
            |22,_=>clear bn bl bm b9 cl;obtain rfl:=yF ho;have fP:(a.tmps[119]?.getD undef)=.int .i64 ((zS k.zZ f).r):=BM Hd 17;have fN:(a.tmps[123]?.getD undef)=.int .i64 (nth (Ee k 3) f):=BM Hd 21;have dE:(a.tmps[117]?.getD undef)=.bool false:=BM Hd 15;clear Hd Hb;refine AV.yes rfl rfl dE ?_;go_simp;exact HK.out _ _ rfl (yD _ _)
            |_+23,hq=>omega
           .intro i hi vv wz cU bN hz
            match i,hi with
            |11,_=>exact(BD.below hz bN)
            |0,_|1,_|2,_|3,_|4,_|5,_|6,_|7,_|8,_|9,_|10,_|12,_|13,_|14,_|15,_|16,_|17,_|18,_|19,_|20,_|21,_|22,_=>exact hz
            |_+23,hq=>omega
           .intro vs wx hR hG
            have cx:(vs 15)=.bool false:=BW hR 15;have cu:(vs 22)=.bool ((zS k.zZ f).r !=nth (Ee k 3) f):=BW hR 22;clear hR;simp only[Aj,Ae,yC,yz,yy,yw,cx,cu];simp;clear cx cu;have az:=au.out.trans (hG.mono au.out.size);have ck:=AA (AF.below HO.out hG);clear hG x0 x1 y0 y2 dj;have RL:=QC (k:=k) T4.out bp;cases cs:((zS k.zZ f).r !=nth (Ee k 3) f)
            .have S1:=AA (show Gs k f=true by rw[RL];simpa using cs)
             clear RL;go_wp2_with fail;go_roundw
             case rel=>exact⟨f+1,by omega,by go_num,Ak bk.out ⟨TB.out,S1.out⟩,ck.out,az⟩
             case measure=>simp[intOf];omega
            .have S:=AA (Ub bp (show Gs k f=false by rw[RL];simpa using cs))
             clear RL;go_wp2_with fail;go_ret;exact⟨AI S.out.symm,ao.out.trans (az.mono ao.out.size)⟩
        .obtain rfl:f=k.zZ.length:=by omega
         have fU:=AA (λf (hf:f<12)=>bk.out f (by have:=bz.out;omega));have x3:=(AG (AC HN.out ab)).2.2.2;have fG:=AA ab;clear hO ab bk;go_wp2_with fail;clear x3;obtain⟨wq2,rfl⟩:∃wq:World,wq=wr:=⟨_,rfl⟩
         go_loopw [130] (λi wr=>∃j:Nat,j<=k.zW.length/\i=.int .i64 j/\(∀j',j'<j->Cn k (AT k.zW j')=true)/\Below W0.heap.size W0 wr) (λi _=>k.zW.length - (intOf i).toNat)
         case atStart=>exact⟨0,yh _,rfl,λj hj=>absurd hj (xP _),fG.out⟩
         case round=>
          obtain⟨j,hj,rfl,bs,ab⟩:=hrel;have bk:=AA bs;clear bs
          by_cases ay:j<k.zW.length
          .obtain⟨a9,c9,ev,_,_,eY⟩:=BD.open Ch (by decide) (BD.below H4.out ab)
           cases ev;obtain⟨bi,be,rfl,dg,D0,D1,D2,D3⟩:=eY.zL ay;have dZ:CU (AT k.zW j)=true:=by have h1:=T3.out;unfold BT at h1;simp only[yp,yd] at h1;have h2:=h1.1 j (xU.2 ay);unfold Ct at h2;simp only[yp] at h2;exact h2.1
           have eJ:k.zW.length<=4:=by have h1:=T3.out;unfold BT at h1;simp only[yp,decide_eq_true_eq] at h1;exact h1.2
           unfold CU at dZ;simp only[yp,Ab] at dZ;obtain⟨⟨⟨e0,e2⟩,p0,p2⟩,f0,f2⟩:=dZ;obtain⟨en,hen⟩:∃n:Nat,(AT k.zW j).e=(n:Int):=⟨(AT k.zW j).e.toNat,by omega⟩
           obtain⟨pn,hpn⟩:∃n:Nat,(AT k.zW j).p=(n:Int):=⟨(AT k.zW j).p.toNat,by omega⟩
           obtain⟨fn,hfn⟩:∃n:Nat,(AT k.zW j).f=(n:Int):=⟨(AT k.zW j).f.toNat,by omega⟩
           have TO:=AA (show Cn k (AT k.zW j)=(decide (0<=(AJ k.zX en).root)&&decide (Bu k.mem (AJ k.zX en).root.toNat (4*pn)=(0,fn,(AT k.zW j).w))) by unfold Cn;rw[hen,hpn,hfn];rfl);have dY:en<3:=by omega
           have eA:pn<16:=by omega
           have KT:=AA (Vr (k:=k) ay);rw[hen] at D0;rw[hpn] at D1;rw[hfn] at D2;generalize hcw:(AT k.zW j).w=cw at*;have N:=yv wr (.cells #[.int .i64 en,.int .i64 pn,.int .i64 fn,.bool cw] 112);have co:=AE wr (.cells #[.int .i64 en,.int .i64 pn,.int .i64 fn,.bool cw] 112);have eD:(j:Int)<k.zW.length:=by omega
           have gg:(j:Int)<4:=by omega
           have bt:=ab.trans (co.mono ab.size);obtain⟨b,cM,ua,uc,rfl,cQ,E0,E1,RR⟩:=HE.out en (by have:=T4.out;omega);replace E1:=(bt.cell (p:=⟨b,cM+en*2+1,none⟩) cQ).trans E1;have x0:=(AG (AC HN.out bt)).1;have x2:=(AG (AC HN.out bt)).2.2.1;obtain⟨y0,y1,y2,y3⟩:=AG N;have fL:(en:Int)<k.zX.length:=by have:=T4.out;omega
           have au:=AA bt;have fW:=AA (eV.out en dY);have gu:=AA (xZ hen (xZ hpn hfn));clear eY E0 RR co ab bt N e0 e2 p0 p2 f0 f2 hen hpn hfn eJ
           by_cases cf:(AJ k.zX en).root<0
           .have S:=AA (KT.out (by rw[TO.out];simp;omega))
            have az:=au.out;clear x0 y1 y2 y3;go_wp2_with fail;go_ret;exact⟨AI S.out.symm,ao.out.trans (az.mono ao.out.size)⟩
           .obtain⟨rn,hrn⟩:∃n:Nat,(AJ k.zX en).root=(n:Int):=⟨(AJ k.zX en).root.toNat,by omega⟩
            have c3:rn<12:=by
             have h1:=fW.out;unfold Du at h1;simp only[yp,Bool.or_eq_true,decide_eq_true_eq,Ab] at h1
             rcases h1.1.2 with h|h<;>omega
            have cb:=λW (hW:Below W0.heap.size W0 W)=>ZT _ k.mem rn (4*pn) W (H1.out.below hW) T1.out c3 (by omega)
            have eG:wr.heap.size<(wr.alloc (.cells #[.int .i64 en,.int .i64 pn,.int .i64 fn,.bool cw] 112)).heap.size:=by simp
            rw[hrn] at E1 TO cf;unfold Il at cb;rw[show((4*pn:Nat):Int)=(pn:Int)*4 by omega] at cb;simp only[yb] at TO;obtain⟨code,fr,wb,hwp⟩:∃code fr wb,Bu k.mem rn (4*pn)=(code,fr,wb):=⟨_,_,_,rfl⟩
            simp only[hwp] at cb TO;clear hwp;have dG:=AA (show Cn k (AT k.zW j)=(decide (code=0)&&(decide (fr=fn)&&decide (wb=cw))) by
             rw[TO.out];have:(0:Int)<=(rn:Int):=by omega
             simp[this])
            by_cases de:code=0
            .subst de
             rw[if_pos rfl] at cb;unfold MW at cb;rw[show((4*pn%4:Nat):Int)=0 by omega] at cb;have CW:=AA cb;clear cb;go_wp2_with fail;refine(CW.out _ au.out).mono ?_;rintro e w2 ⟨rfl,ad⟩;have bA:=au.out.trans (ad.mono au.out.size);replace y2:=(ad.cell (p:=⟨wr.heap.size,2,none⟩) eG).trans y2;replace y3:=(ad.cell (p:=⟨wr.heap.size,3,none⟩) eG).trans y3;clear x0 x2 E1 y0 y1 ad;have az:=bA.trans ((AE w2 (.cells #[.int .i64 fr,.int .i64 0,.bool wb] 114)).mono bA.size);replace y2:=((AE w2 (.cells #[.int .i64 fr,.int .i64 0,.bool wb] 114)).cell (yA w2 _ y2)).trans y2;replace y3:=((AE w2 (.cells #[.int .i64 fr,.int .i64 0,.bool wb] 114)).cell (yA w2 _ y3)).trans y3;have HG:=AA az;clear bA az cf
             by_cases cP:fr=fn
             .have t1:((fr:Int) !=(fn:Int))=false:=by simp[cP]
              by_cases cX:wb=cw
              .have S:=AA (show Cn k (AT k.zW j)=true by rw[dG.out];simp[cP,cX])
               subst cX;clear cP;cases wb
               all_goals
                go_wp2_with fail;go_roundw
                case rel=>exact⟨j+1,by omega,by go_num,Ak bk.out S.out,HG.out⟩
                case measure=>simp[intOf];omega
              .have S:=AA (KT.out (by rw[dG.out];simp[cX]))
               have hq:=AA cX;clear cP cX;cases wb<;>cases cw
               .exact absurd rfl hq.out
               .go_wp2_with fail
                go_ret;exact⟨AI S.out.symm,ao.out.trans (HG.out.mono ao.out.size)⟩
               .go_wp2_with fail
                go_ret;exact⟨AI S.out.symm,ao.out.trans (HG.out.mono ao.out.size)⟩
               .exact absurd rfl hq.out
             .have t1:((fr:Int) !=(fn:Int))=true:=by simp;omega
              have S:=AA (KT.out (by rw[dG.out];simp[cP]));clear cP y3;go_wp2_with fail;go_ret;exact⟨AI S.out.symm,ao.out.trans (HG.out.mono ao.out.size)⟩
            .rw[if_neg de] at cb
             unfold Et at cb;have CW:=AA cb;have t1:(code !=0)=true:=by simp[de]
             have S:=AA (KT.out (by rw[dG.out];simp[de]));clear cb de;go_wp2_with fail;refine(CW.out _ au.out).mono ?_;rintro e w2 ⟨rfl,ad⟩;have bA:=au.out.trans (ad.mono au.out.size);have HG:=AA (bA.trans ((AE w2 (.cells #[.int .i64 0,.int .i64 0,.bool false] 114)).mono bA.size));clear x0 x2 E1 y0 y1 y2 y3 ad bA cf;go_wp2_with fail;go_ret;exact⟨AI S.out.symm,ao.out.trans (HG.out.mono ao.out.size)⟩
          .have S:=AA (Yr T1.out T2.out T3.out T4.out eV.out fU.out (λj' gk=>bk.out j' (by omega)))
           have az:=ab;go_wp2_with fail;go_ret;exact⟨AI S.out.symm,ao.out.trans (az.mono ao.out.size)⟩
    .have S:=AA (XW e4)
     have n4:((k.zX.length:Int) !=3)=true:=by simp;omega
     clear e4;go_wp2_with fail;go_ret;exact⟨AI S.out.symm,ao.out.trans (hb.mono ao.out.size)⟩
theorem Ce(h:DJ k):EW k:=by
 refine⟨λx hx=>?_,λj hj=>GO (h.zT j (by rw[h.zN] at hj;exact hj))⟩;obtain⟨f,hf⟩:=xj hx;have hl:=(yr.1 hf).1;rw[h.len] at hl;have hi:=h.inf f hl;have e:zS k.zZ f=x:=by unfold zS;rw[xR,hf];rfl
 rw[e] at hi
 rcases hi with⟨_,g⟩|⟨_,_,g⟩
 .rw[g];exact yh _
 .unfold BP at g
  rw[yp,decide_eq_true_eq] at g;have:=g.2;unfold maxLen;omega
structure Wx(lo g:Nat)(o:Value)(st:AN×List Int)(w wr:World)(m i e c:Value):Prop where
 yK:wr.heap[g]?=some (.cells #[m,i,e,c] 28 (0,0))
 yJ:lo<=g
 ker:∃vs,Au lo wr m vs st.1.mem/\∀v∈vs,Fg o v
 inf:AQ lo 92 3 A2 wr i st.1.zZ
 env:∃ps,DA lo wr e ps st.1.zX
 cac:AQ lo 112 4 Ag wr c st.1.zW
 out:AF lo wr o st.2
 bel:Below lo w wr
 lo:lo<=wr.heap.size
section
variable {lo g:Nat} {o m i e c:Value} {st:AN×List Int} {w wr w':World}
theorem Wx.below(h:Wx lo g o st w wr m i e c)(hb:Below wr.heap.size wr w'):Wx lo g o st w w' m i e c:=by obtain⟨vs,h1,h2⟩:=h.ker;obtain⟨ps,h3⟩:=h.env;exact⟨AC h.yK hb,h.yJ,⟨vs,h1.below hb,h2⟩,h.inf.below hb,⟨ps,h3.below hb⟩,h.cac.below hb,h.out.below hb,h.bel.trans (hb.mono h.lo),yB h.lo hb.size⟩
theorem Wx.own(h:Wx lo g o st w wr m i e c):DP lo wr m i e c st.1:=by obtain⟨vs,h1,_⟩:=h.ker;exact⟨⟨vs,h1⟩,h.inf,h.env,h.cac⟩
theorem Wx.start{w2:World}(O:DP lo w2 m i e c k)(hb:Below lo w w2)(hl:lo<=w2.heap.size):Wx lo w2.heap.size (.slice none 0 0) (k,[]) w (w2.alloc (.cells #[m,i,e,c] 28)) m i e c:=by
 have b3:=AE w2 (.cells #[m,i,e,c] 28);obtain⟨⟨vs,h1⟩,h2,⟨ps,h3⟩,h4⟩:=O.below b3;exact⟨yv _ _,hl,⟨vs,h1,λv hv b cI=>by simp[Value.ownBlock] at cI⟩,h2,⟨ps,h3⟩,h4,World.ownsRow_nil _ _ _ _,hb.trans (b3.mono hl),yB hl b3.size⟩
theorem Wx.put{m' i' e' c':Value}{k':AN}(h:Wx lo g o st w wr m i e c){w1:World}(hb:Below wr.heap.size wr w1)(O:DP wr.heap.size w1 m' i' e' c' k'):
 Wx lo g o (k',st.2) w ((((w1.setCell ⟨g,0,none⟩ m').setCell ⟨g,1,none⟩ i').setCell ⟨g,2,none⟩ e').setCell ⟨g,3,none⟩ c') m' i' e' c':=by
 have h':=h.below hb;have cn:=Ao w1 g m' i' e' c';obtain⟨⟨vs,h1⟩,h2,⟨ps,h3⟩,h4⟩:=O;refine⟨Cs h'.yK,h.yJ,⟨vs,(h1.yL cn h'.yK).lower h.lo,λv hv b ax ad=>?_⟩,(h2.yL cn h'.yK).lower h.lo,⟨ps,(h3.yL cn h'.yK).lower h.lo⟩,(h4.yL cn h'.yK).lower h.lo,Eu h'.out cn h'.yK,AM h'.bel cn h.yJ h'.lo,yB h'.lo cn.size⟩;obtain⟨j,hj⟩:=xj hv;have cg:=h1.2.1.1;obtain⟨x,hx⟩:∃x,k'.mem[j]?=some x:=⟨_,yu (by rw[<-cg];exact(yr.1 hj).1)⟩
 have:=(yq (h1.2.1.2 j v x hj hx) b ad).1;have:=(yq h.out b ax).2;omega
theorem Wx.push{o':Value}{x:Int}(h:Wx lo g o st w wr m i e c)(h1:w'.ownsRow lo 3 1 o' (st.2.length+1) (st.2.map (Value.int .i64)++[.int .i64 x]))(h2:wr.grownBy w' o.ownBlock)(h3:o'.ownBlock=o.ownBlock∨o'.ownBlock=some wr.heap.size)(h4:Below lo wr w'):
 Wx lo g o' (st.1,st.2++[x]) w w' m i e c:=by
 obtain⟨vs,r1,r2⟩:=h.ker;obtain⟨ps,r3⟩:=h.env;have cs:=Dg h.out h.yK (by decide);refine⟨(h2.block g (AW h.yK) (λe=>cs e.symm)).trans h.yK,h.yJ,⟨vs,⟨Av r1.1 h2 (A7 r1.1 h.out (by decide)).ne,?_,r1.2.2⟩,?_⟩,Av h.inf h2 (A7 h.inf h.out (by decide)).ne,⟨ps,Av r3.1 h2 (A7 r3.1 h.out (by decide)).ne,r3.2.1.mono λ_ _ x=>⟨Av x.1 h2 (A7 x.1 h.out (by decide)).ne,x.2⟩,r3.2.2⟩,Av h.cac h2 (A7 h.cac h.out (by decide)).ne,by simpa[AF] using h1,h.bel.trans h4,yB h.lo h4.size⟩
 .refine⟨r1.2.1.1,λj u y hu hy=>Av (r1.2.1.2 j u y hu hy) h2 ?_⟩
  exact(r2 u (ye hu)).symm.ne
 .intro v hv
  obtain⟨j,hj⟩:=xj hv;obtain⟨y,hy⟩:∃y,st.1.mem[j]?=some y:=⟨_,yu (by rw[<-r1.2.1.1];exact(yr.1 hj).1)⟩
  exact(r2 v hv).grown h3 (λb hb=>(yq (r1.2.1.2 j v y hj hy) b hb).2)
end
theorem MZ(w:World)(a b:Obj):((w.alloc a).alloc b).heap[w.heap.size]?=some a/\((w.alloc a).alloc b).heap[w.heap.size+1]?=some b/\Below w.heap.size w ((w.alloc a).alloc b)/\((w.alloc a).alloc b).heap.size=w.heap.size+2:=by have h1:=yv w a;have h2:=yv (w.alloc a) b;have h4:=AC h1 (AE _ b);simp only[xv] at h2;exact⟨h4,h2,HJ w a b,by simp⟩
section
variable {P:Program}
theorem Qg{id:Nat}{Q:Exit->Act->World->Prop}{a0:Act}{w0:World}{l:List Oper}(n:Nat)(hm:P.follows .mixedOrders=true)(hB:IJ l n=true)
 (N:Nat)(hN:a0.tmps.size=N)(hD:Va l n N=true)(i1 i2:Nat)(hw:yg .any l.toArray i2 i1=true)(dB:i1<n)(ee:i2<n)(cJ:Value->Value->Prop)(R:Nat->Value->World->Prop)(c8:∀i,i<n->∀v w w',Below w.heap.size w w'->R i v w->R i v w')
 (cZ:∀i,i<n->i≠i2->∀o,l[i]?=some o->∀a w,Hid (a.defers=a0.defers/\a.tmps.size=a0.tmps.size/\∀t,(∀i,i<n->Ae l i≠t)->a.tmps[t]?=a0.tmps[t]?)->
  Hid (∀j,yg .any l.toArray i j=true->R j (a.tmps[Ae l j]?.getD undef) w)->Below w0.heap.size w0 w->
  ∀K:Act->World->Prop,Hid (∀v w',R i v w'->Below w.heap.size w w'->K (a.put o.dst v) w')->AV P l o a w K Q)
 (c7:∀o,l[i2]?=some o->∀a w,Hid (a.defers=a0.defers/\a.tmps.size=a0.tmps.size/\∀t,(∀i,i<n->Ae l i≠t)->a.tmps[t]?=a0.tmps[t]?)->
  Hid (∀j,yg .any l.toArray i2 j=true->R j (a.tmps[Ae l j]?.getD undef) w)->Below w0.heap.size w0 w->
  ∀K:Act->World->Prop,Hid (∀v w',R i2 v w'->cJ (a.tmps[Ae l i1]?.getD undef) v->Below w.heap.size w w'->K (a.put o.dst v) w')->AV P l o a w K Q)
 (cY:∀(vs:Nat->Value) w,(∀i,i<n->R i (vs i) w)->cJ (vs i1) (vs i2)->Below w0.heap.size w0 w->wpList P l.toArray Q (l.drop n) {a0 with tmps:=Aj l (yC n) vs a0.tmps} w):
 (Code.region id l.toArray true).wp P Q a0 w0:=by
 subst hN;refine Le hm (I:=λL vs w=>(∀i,i<n->L i=true->R i (vs i) w)/\Below w0.heap.size w0 w/\(L i2=true->cJ (vs i1) (vs i2))) (SQ hB hD) (λvs=>⟨λi _ h=>(by cases h),⟨rfl,rfl,rfl,yt _,λ_ _=>rfl⟩,λh=>by cases h⟩) (λi hi o ho a w h1 h2 h3 L h6 h7 h8 hI K hK=>?_) (λa w h1 h2 h3 L hL hI=>?_)
 .have up:∀{w':World},Below w.heap.size w w'->Below w0.heap.size w0 w':=λh2=>hI.2.1.trans ⟨h2.os,h2.tape,h2.output,h2.size,λk hk=>h2.block k (xX hk hI.2.1.size)⟩
  have hd:=AA λj (hj:yg .any l.toArray i j=true)=>by have:=hI.1 j (h7 j hj).2 (h7 j hj).1;rwa [KH hB (h7 j hj).2] at this
  have cV:∀{v w'},R i v w'->Below w.heap.size w w'->∀bq:Nat->Value,bq i=(match o.dst with|some _=>v|none=>undef)->(∀j,j<n->j≠i->bq j=D8 l a.tmps j)->∀j,j<n->GP L i j=true->R j (bq j) w':=by
   intro v w' hR hb bq hv cy j hj hl
   by_cases e:j=i
   .subst e
    rw[hv];simp only[Vb hB hi ho];exact hR
   .have fu:L j=true:=by unfold GP at hl;rwa [if_neg e] at hl
    rw[cy j hj e];exact c8 j hj _ w w' hb (hI.1 j hj fu)
  by_cases e2:i=i2
  .subst e2
   have cs:i1≠i:=λe=>by have:=(h7 i1 hw).1;rw[e,h6] at this;cases this
   refine c7 o ho a w (AA ⟨h1,h2,Jb hB h3⟩) hd hI.2.1 K (AA λv w' hR hp hb=>hK v w' λbq hv cy=>⟨cV hR hb bq hv cy,up hb,λ_=>?_⟩);rw[hv,cy i1 dB cs,KH hB dB];simp only[Vb hB hi ho];exact hp
  .refine cZ i hi e2 o ho a w (AA ⟨h1,h2,Jb hB h3⟩) hd hI.2.1 K (AA λv w' hR hb=>hK v w' λbq hv cy=>⟨cV hR hb bq hv cy,up hb,λhl=>?_⟩)
   have dy:L i2=true:=by unfold GP at hl;rwa [if_neg (Ne.symm e2)] at hl
   have e1:i1≠i:=λe=>by have:=h8 i2 i1 dy hw;rw[e,h6] at this;cases this
   rw[cy i1 dB e1,cy i2 ee (Ne.symm e2)];exact hI.2.2 dy
 .have e:=Rk l (yC n) a0.tmps a.tmps h2 (λt ht=>Jb hB h3 t λi hi=>ht i (xU.2 hi))
  have hv:∀i,i<n->a.tmps.getD (Ae l i) undef=D8 l a.tmps i:=λi hi=>by rw[Array.getD_eq_getD_getElem?,<-KH hB hi]
  have:=cY (λi=>a.tmps.getD (Ae l i) undef) w (λi hi=>by rw[hv i hi];exact hI.1 i hi (hL i hi)) (by rw[hv i1 dB,hv i2 ee];exact hI.2.2 (hL i2 ee)) hI.2.1;rw[<-e] at this;obtain⟨tm,df⟩:=a;dsimp only at h1 this;subst h1;exact this
end
theorem Py(v:Value)(m:List (List Int))(w:World)(h:Bf w v m)(dW:m.length=16)(eB:∀k,k<16->(AH m k).length<=4):
 Calls prog 64 #[v] w λe w'=>∃v' vs,e=.returned v'/\Au w.heap.size w' v' vs m/\Below w.heap.size w w':=by
 obtain⟨vs,h1,h2⟩:=h;have ca:vs.length=16:=by rw[h2.1,dW]
 have CC:=AA (L6 v vs w h1 (by omega) (SL h2));have CI:=AA (λk (hk:k<16) W (hW:Below w.heap.size w W)=>IM (vs.getD k (.bool false)) (AH m k) W (Aw.below (h2.2 k _ _ (A1 (by omega)) (by unfold AH;exact A1 (by omega))) hW) (by have:=eB k hk;omega));have SH:=AA (λk (hk:k<16)=>(by obtain⟨a,c,e,_⟩:=(h2.2 k _ _ (A1 (d:=Value.bool false) (by omega)) (A1 (d:=[]) (by omega))).open;exact⟨a,_,c,e⟩:∃a n c,vs.getD k (.bool false)=.slice a n c));have dm:=AA ca;have eQ:=AA dW;obtain⟨ai,ci,rfl,_,_⟩:=h1.shape;clear h1 h2 eB dW;rw[ca] at CC ⊢;clear ca;go_in;go_wp2_with fail;refine(CC.out).mono ?_;rintro e w1 ⟨v',rfl,hO,ax⟩;obtain⟨g,bY,rfl,c1,c2,q1,q2,cH⟩:=hO.zM (by have:=dm.out;omega);unfold maxLen at c2;rw[dm.out] at hO c1 ⊢;have HO:=AA hO;have HB:=AA ax;clear hO ax cH;go_wp2_with fail;go_loopw [10] (λi wr=>∃us:List Value,us.length<=16/\i=.int .i64 us.length/\Fi w.heap.size wr (.slice (some ⟨g,0,none⟩) 16 bY) us (vs.drop us.length) m/\Below w.heap.size w wr) (λi _=>16 - (intOf i).toNat)
 case atStart=>exact⟨[],by simp,rfl,⟨HO.out,Fh.nil,DG.nil⟩,HB.out⟩
 case round=>
  obtain⟨us,hk,rfl,hH,ab⟩:=hrel
  by_cases ay:us.length<16
  .have eE:us.length<vs.length:=by rw[dm.out];exact ay
   have ed:vs.drop us.length=vs.getD us.length (.bool false)::vs.drop (us.length+1):=by
    rw[List.drop_eq_getElem_cons eE]
    congr 1
    simp[eE]
   rw[ed] at hH;have cg:(us++vs.getD us.length (.bool false)::vs.drop (us.length+1)).length=16:=by have:=dm.out;simp only[yj,List.length_cons,List.length_drop];omega
   have dA:=hH.1;rw[<-cg] at dA;have D:=AQ.zz EG dA (k:=us.length) (x:=vs.getD us.length (.bool false)) (by simp) 0 _ rfl;rw[wl,xL] at D;have C:=CI.out _ ay wr ab;have hr:m[us.length]?=some (AH m us.length):=by unfold AH;exact A1 (by rw[eQ.out];exact ay)
   have HH:=AA hH;have HR:=AA hr;have CH:=AA C;have em:=AA cg;have cH:=xN dA us.length;have gx:(16:Int)<=bY:=by omega
   clear hH dA hr C ed cg;generalize hu0:vs.getD us.length (.bool false)=u0 at*;obtain⟨a0,n0,c0,rfl⟩:∃a n c,u0=.slice a n c:=by have:=SH.out _ ay;rwa [hu0] at this
   go_wp2_with fail;refine(CH.out).mono ?_;rintro e w2 ⟨u,rfl,hu,ad⟩;have D2:=(ad.cell (p:=⟨g,us.length,none⟩) (yA wr _ D)).trans D;have fA:=(ad.frozen (p:=⟨g,us.length,none⟩) (yA wr _ D)).trans cH;have ST:=AA (Fi.step HH.out em.out.symm ad ab.size hu HR.out);have fY:=AA (AM (ab.trans (ad.mono ab.size)) ST.out.2 q1 (yB ab.size ad.size));obtain⟨a9,c9,rfl,_⟩:=hu.rd.open;clear D cH hu ad ab;go_wp2_with fail;go_roundw
   case rel=>refine⟨us++[.slice a9 (AH m us.length).length c9],by rw[yj,xM];omega,by rw[yj,xM];go_num,?_,fY.out⟩;rw[yj,xM];exact ST.out.1
   case measure=>simp[intOf];omega
  .have e12:us.length=16:=by omega
   rw[List.drop_eq_nil_of_le (by rw[e12,dm.out];exact yt _)] at hH;have R:=AA (hH.whole (by rw[e12,eQ.out]));clear hH;go_wp2_with fail;go_ret;exact⟨_,us,rfl,R.out,ab⟩
theorem FG.zQ{lo:Nat}{w:World}{m i e c s l q:Value}{P:AR}(h:FG lo w m i e c s l q P):((∃a n q,m=.slice a n q)/\(∃a n q,i=.slice a n q)/\(∃a n q,e=.slice a n q)/\∃a n q,c=.slice a n q)/\(∃a n q,s=.slice a n q)/\(∃a n q,l=.slice a n q)/\∃a n r,q=.slice a n r:=by obtain⟨h1,⟨_,h2⟩,h3,h4,_⟩:=h;obtain⟨_,_,rfl,_,_⟩:=h2.1.rd.shape;obtain⟨_,_,rfl,_,_⟩:=h3.rd.open;obtain⟨_,_,rfl,_,_⟩:=h4.rd.shape;exact⟨h1.zQ,⟨_,_,_,rfl⟩,⟨_,_,_,rfl⟩,⟨_,_,_,rfl⟩⟩
theorem Uu{P:AR}(h:ED P):P.swap.length=16/\∀k,k<16->(AH P.swap k).length<=4:=by
 refine⟨h.zD,λk hk=>?_⟩
 rcases h.zv k hk with e|e
 .rw[e];exact yh _
 .have:=(A3.1 e).1;omega
section
variable {w:World} {g t:Nat} {a0 a1 a2 a3 a4 a5 a6 a7 a8 b0 b1 b2 b3 b4 b5 b6 b7 b8:Value}
def Ew(w:World)(g:Nat)(b0 b1 b2 b3 b4 b5 b6:Value):World:=((((((w.setCell ⟨g,0,none⟩ b0).setCell ⟨g,1,none⟩ b1).setCell ⟨g,2,none⟩ b2).setCell ⟨g,3,none⟩ b3).setCell ⟨g,4,none⟩ b4).setCell ⟨g,5,none⟩ b5).setCell ⟨g,6,none⟩ b6
theorem ZI(h:w.heap[g]?=some (.cells #[a0,a1,a2,a3,a4,a5,a6,a7,a8] t (0,0))):(((w.setCell ⟨g,4,none⟩ b4).setCell ⟨g,5,none⟩ b5).setCell ⟨g,6,none⟩ b6).heap[g]?=some (.cells #[a0,a1,a2,a3,b4,b5,b6,a7,a8] t (0,0)):=by have h4:=ym _ g 4 _ t b4 h;have h5:=ym _ g 5 _ t b5 h4;have h6:=ym _ g 6 _ t b6 h5;simpa using h6
theorem WM:w.grownBy (((w.setCell ⟨g,4,none⟩ b4).setCell ⟨g,5,none⟩ b5).setCell ⟨g,6,none⟩ b6) (some g):=An (An (Aq _ _ _ _) _ _) _ _
theorem ZJ(h:w.heap[g]?=some (.cells #[a0,a1,a2,a3,a4,a5,a6,a7,a8] t (0,0))):(Ew w g b0 b1 b2 b3 b4 b5 b6).heap[g]?=some (.cells #[b0,b1,b2,b3,b4,b5,b6,a7,a8] t (0,0)):=by have h0:=ym w g 0 _ t b0 h;have h1:=ym _ g 1 _ t b1 h0;have h2:=ym _ g 2 _ t b2 h1;have h3:=ym _ g 3 _ t b3 h2;have h4:=ym _ g 4 _ t b4 h3;have h5:=ym _ g 5 _ t b5 h4;have h6:=ym _ g 6 _ t b6 h5;unfold Ew;simpa using h6
theorem WN:w.grownBy (Ew w g b0 b1 b2 b3 b4 b5 b6) (some g):=by unfold Ew;exact An (An (An (An (An (An (Aq _ _ _ _) _ _) _ _) _ _) _ _) _ _) _ _
theorem GV(h:w.heap[g]?=some (.cells #[a0,a1,a2,a3,a4,a5,a6,a7,a8] t (0,0))):(((Ew w g b0 b1 b2 b3 b4 b5 b6).setCell ⟨g,7,none⟩ b7).setCell ⟨g,8,none⟩ b8).heap[g]?=some (.cells #[b0,b1,b2,b3,b4,b5,b6,b7,b8] t (0,0)):=by have h7:=ym _ g 7 _ t b7 (ZJ (b0:=b0) (b1:=b1) (b2:=b2) (b3:=b3) (b4:=b4) (b5:=b5) (b6:=b6) h);have h8:=ym _ g 8 _ t b8 h7;simpa using h8
theorem FD:w.grownBy (((Ew w g b0 b1 b2 b3 b4 b5 b6).setCell ⟨g,7,none⟩ b7).setCell ⟨g,8,none⟩ b8) (some g):=An (An WN _ _) _ _
end
def AO(m i e c s l q:Value)(h n:Int):Value:=.agg #[m,i,e,c,s,l,q,.int .i64 h,.int .i64 n]
def Om(w:World)(P:AR)(r:Ending)(w':World):Prop:=∃m i e c s l q,r=.returned (AO m i e c s l q P.zR P.zU)/\FG w.heap.size w' m i e c s l q P/\Below w.heap.size w w'
theorem XA{lo:Nat}{m i e c s:Value}{w w':World}{vs:List Value}{eZ:List (List Int)}(h:Ga lo v w k)(E:v=.agg #[m,i,e,c])(o:Au w.heap.size w' s vs eZ):Fg m s:=by obtain⟨m1,i1,e1,c1,rfl,⟨us,h1⟩,_⟩:=h;simp only[Value.agg.injEq,Array.mk.injEq,List.cons.injEq,and_true] at E;obtain⟨rfl,_⟩:=E;intro b hb cI;have:=(yq h1.1 b hb).2;have:=(yq o.1 b cI).1;omega
theorem Uw(mv iv ev cv sv lv qv:Value)(P:AR)(w:World)(h:Kx w mv iv ev cv sv lv qv P)(hP:ED P):
 Calls prog 30 #[AO mv iv ev cv sv lv qv P.zR P.zU] w (Om w P):=by
 unfold AO;obtain⟨B0,B1,cp,f8⟩:=MZ w (.cells #[mv,iv,ev,cv,sv,lv,qv,.int .i64 P.zR,.int .i64 P.zU] 32) (.cells #[.slice none 0 0,.slice none 0 0,.slice none 0 0,.slice none 0 0,.slice none 0 0,.slice none 0 0,.slice none 0 0,.int .i64 0,.int .i64 0] 32);have h':=h.below cp;have dQ:=Uu hP;go_in;go_wp2_with fail;generalize(w.alloc _).alloc _=W0 at*;have C1:=AA (λW (hW:Below W0.heap.size W0 W)=>Ta mv iv ev cv P.zV W (h'.1.below hW) hP.k);have C2:=AA (λW (hW:Below W0.heap.size W0 W)=>Py sv P.swap W (h'.2.1.below hW) dQ.1 dQ.2);have C3:=AA (λW (hW:Below W0.heap.size W0 W)=>IM lv P.low W (h'.2.2.1.below hW) (by rw[hP.zt];omega));have C4:=AA (λW (hW:Below W0.heap.size W0 W)=>Qi qv P.zY W (BD.below h'.2.2.2 hW) (by rw[hP.zO];omega));have ao:=AA B0;have fZ:=AA B1;have dI:=AA cp;obtain⟨x0,x1,x2,x3,x4,x5,x6,x7,x8⟩:=AD B0;have cC:w.heap.size<W0.heap.size:=by omega
 clear h h' dQ B0 B1 cp x7 x8 hP;refine Qg 13 mixed (by kernel_rfl) 20 rfl (by kernel_rfl) 2 5 (by kernel_rfl) (by decide) (by decide) (λV1 V2=>∀m i e c,V1=.agg #[m,i,e,c]->Fg m V2) (λix vv ww=>match ix with
  |0|12=>vv=.pointer (some ⟨w.heap.size,0,none⟩)
  |1=>vv=.agg #[mv,iv,ev,cv]
  |2=>Ga W0.heap.size vv ww P.zV
  |3=>vv=.pointer (some ⟨w.heap.size,4,none⟩)
  |4=>vv=sv
  |5=>∃bq,Au W0.heap.size ww vv bq P.swap
  |6=>vv=.pointer (some ⟨w.heap.size,5,none⟩)
  |7=>vv=lv
  |8=>AF W0.heap.size ww vv P.low
  |9=>vv=.pointer (some ⟨w.heap.size,6,none⟩)
  |10=>vv=qv
  |11=>AQ W0.heap.size 43 3 Cw ww vv P.zY
  |_=>True) ?_ ?_ ?_ ?_
 .intro i hi vv wz cU bN hz
  match i,hi with
  |0,_|1,_|3,_|4,_|6,_|7,_|9,_|10,_=>exact hz
  |2,_=>exact(Ga.below hz bN)
  |5,_=>exact(by obtain⟨bq,h'⟩:=hz;exact⟨bq,h'.below bN⟩)
  |8,_=>exact(AF.below hz bN)
  |11,_=>exact(AQ.below hz bN)
  |12,_=>exact hz
 .intro i hi fx o ho a wx Hb Hd hG K HK
  match i,hi,fx with
  |0,_,_=>exact dF ho rfl (gn rfl) HK rfl Ya (eb (Oj Hb 1)) rfl
  |1,_,_=>exact dL ho rfl (gn rfl) HK rfl (et (BM Hd 0)) (Np (bc hG cC x0) (bc hG cC x1) (bc hG cC x2) (bc hG cC x3)) rfl
  |2,_,_=>obtain rfl:=yF ho;have d1:(a.tmps[4]?.getD undef)=.agg #[mv,iv,ev,cv]:=BM Hd 1;clear Hd Hb;refine yE ?_;go_simp;refine(C1.out _ hG).mono ?_;rintro r w_ ⟨m',i',e',c',rfl,hO,ad⟩;exact HK.out _ _ ⟨m',i',e',c',rfl,hO.lower hG.size⟩ ad
  |3,_,_=>exact dF ho rfl (gn rfl) HK rfl aU (eb (Oj Hb 1)) rfl
  |4,_,_=>exact dL ho rfl (gn rfl) HK rfl (et (BM Hd 3)) (GT (bc hG cC x4)) rfl
  |5,_,hs=>exact absurd rfl hs
  |6,_,_=>exact dF ho rfl (gn rfl) HK rfl aV (eb (Oj Hb 1)) rfl
  |7,_,_=>exact dL ho rfl (gn rfl) HK rfl (et (BM Hd 6)) (J5 (bc hG cC x5)) rfl
  |8,_,_=>obtain rfl:=yF ho;have d7:(a.tmps[10]?.getD undef)=lv:=BM Hd 7;clear Hd Hb;refine yE ?_;go_simp;refine(C3.out _ hG).mono ?_;rintro e w_ ⟨v',rfl,hO,ad⟩;exact HK.out _ _ (BO hO hG.size) ad
  |9,_,_=>exact dF ho rfl (gn rfl) HK rfl aW (eb (Oj Hb 1)) rfl
  |10,_,_=>exact dL ho rfl (gn rfl) HK rfl (et (BM Hd 9)) (Yt (bc hG cC x6)) rfl
  |11,_,_=>obtain rfl:=yF ho;have eM:(a.tmps[13]?.getD undef)=qv:=BM Hd 10;clear Hd Hb;refine yE ?_;go_simp;refine(C4.out _ hG).mono ?_;rintro e w_ ⟨v',rfl,hO,ad⟩;exact HK.out _ _ (hO.lower hG.size) ad
  |12,_,_=>exact dF ho rfl (gn rfl) HK rfl Ya (eb (Oj Hb 1)) rfl
 .intro o ho a wx Hb Hd hG K HK
  obtain rfl:=yF ho;have d4:(a.tmps[7]?.getD undef)=sv:=BM Hd 4;have d2:Ga W0.heap.size (a.tmps[5]?.getD undef) wx P.zV:=BM Hd 2;clear Hd Hb;refine yE ?_;go_simp;refine(C2.out _ hG).mono ?_;rintro e w_ ⟨v',bq,rfl,hO,ad⟩;exact HK.out _ _ ⟨bq,hO.lower hG.size⟩ (λm i e c E=>XA d2 E hO) ad
 .intro vs wx hR hP hG
  have q2:Ga W0.heap.size (vs 2) wx P.zV:=BW hR 2;have q5:∃bq,Au W0.heap.size wx (vs 5) bq P.swap:=BW hR 5
  have q8:AF W0.heap.size wx (vs 8) P.low:=BW hR 8;have dO:AQ W0.heap.size 43 3 Cw wx (vs 11) P.zY:=BW hR 11;have ex:(vs 12)=.pointer (some ⟨w.heap.size,0,none⟩):=BW hR 12;clear hR;simp only[Aj,Ae,yC,yz,yy,yw,ex];simp;generalize vs 2=z2 at q2 hP ⊢;generalize vs 5=z5 at q5 hP ⊢;generalize vs 8=z8 at q8 ⊢;generalize vs 11=z11 at dO ⊢;clear ex;obtain⟨m',i',e',c',rfl,k1⟩:=q2;obtain⟨bq,k2⟩:=q5;have eL:Fg m' z5:=hP _ _ _ _ rfl;have O:=(⟨k1,⟨bq,k2⟩,q8,dO,eL⟩:FG W0.heap.size wx m' i' e' c' z5 z8 z11 P);obtain⟨⟨⟨ma,mn,mc,rfl⟩,⟨ia,iN,ic,rfl⟩,⟨ea,en,ec,rfl⟩,⟨qa,qn,qc,rfl⟩⟩,⟨sa,sn,sc,rfl⟩,⟨la,ln,lc,rfl⟩,⟨pa,pn,pc,rfl⟩⟩:=O.zQ;have B0:=(hG.block _ cC).trans ao.out;have B1:=(hG.block (w.heap.size+1) (by omega)).trans fZ.out;obtain⟨fg,cF,ff,fe,fd,fc,fb,fa,e9⟩:=AD B0;have f0:=AK B0;go_step;go_simp;have dD:=Ao wx w.heap.size (.slice ma mn mc) (.slice ia iN ic) (.slice ea en ec) (.slice qa qn qc);have dt:=JU (m':=.slice ma mn mc) (i':=.slice ia iN ic) (e':=.slice ea en ec) (c':=.slice qa qn qc) B0;have O1:=O.yL dD B0;have es:=(dD.block (w.heap.size+1) (by have:=hG.size;omega) (by intro e;have:=yF e;omega)).trans B1;have bw:=AM (dI.out.trans (hG.mono dI.out.size)) dD (yt _) (yB dI.out.size hG.size);clear O dD B0 B1 hG f0 fg cF ff fe fd fc fb fa e9 k1 k2 q8 dO hP eL x0 x1 x2 x3 x4 x5 x6;generalize(((wx.setCell _ _).setCell _ _).setCell _ _).setCell _ _=W1 at*;obtain⟨_,_,_,_,c4,c5,c6,_⟩:=AD dt;have f4:=AK dt;have S2:=ZI (b4:=.slice sa sn sc) (b5:=.slice la ln lc) (b6:=.slice pa pn pc) dt;have dC:=WM (w:=W1) (g:=w.heap.size) (b4:=.slice sa sn sc) (b5:=.slice la ln lc) (b6:=.slice pa pn pc);have O2:=O1.yL dC dt;have dN:=(dC.block (w.heap.size+1) (AW es) (by intro e;have:=yF e;omega)).trans es;have eO:=AM bw dC (yt _) bw.size;obtain⟨y0,y1,y2,y3,y4,y5,y6,y7,y8⟩:=AD S2;obtain⟨u0,u1,u2,u3,u4,u5,u6,u7,u8⟩:=AD dN;have f1:=AK dN;have ck:=AA O2;have dq:=AA dN;have dn:=AA eO;clear O1 dt es bw dC S2 O2 dN eO;go_wp2_with fail;clear y0 y1 y2 y3 y4 y5 y6 y7 y8 u0 u1 u2 u3 u4 u5 u6 u7 u8 f1 c4 c5 c6 f4;generalize((W1.setCell _ _).setCell _ _).setCell _ _=W2 at*;have eh:=FD (w:=W2) (g:=w.heap.size+1) (b0:=.slice ma mn mc) (b1:=.slice ia iN ic) (b2:=.slice ea en ec) (b3:=.slice qa qn qc) (b4:=.slice sa sn sc) (b5:=.slice la ln lc) (b6:=.slice pa pn pc) (b7:=.int .i64 P.zR) (b8:=.int .i64 P.zU);have N3:=GV (b0:=.slice ma mn mc) (b1:=.slice ia iN ic) (b2:=.slice ea en ec) (b3:=.slice qa qn qc) (b4:=.slice sa sn sc) (b5:=.slice la ln lc) (b6:=.slice pa pn pc) (b7:=.int .i64 P.zR) (b8:=.int .i64 P.zU) dq.out
  have O3:=(ck.out.yL eh dq.out).lower dI.out.size;have B3:=AM dn.out eh (by omega) dn.out.size;unfold Ew at eh N3 O3 B3;exact bodyPost_ret (v:=.agg #[_,_,_,_,_,_,_,_,_]) (by simp[results,Tryz.results30,go_sem,AD N3]) rfl ⟨_,_,_,_,_,_,_,rfl,O3,B3⟩
theorem DP.past{lo:Nat}{w w':World}{m i e c:Value}{row:Option Nat}(h:DP lo w m i e c k)(hg:w.grownBy w' row)(hr:∀b,row=some b->b<lo):DP lo w' m i e c k:=by
 obtain⟨⟨vs,h1,h2,h3⟩,h4,⟨ps,h5,h6,h7⟩,h8⟩:=h;exact⟨⟨vs,Bq h1 hg hr,h2.mono λ_ _ x=>Bq x hg hr,h3⟩,Bq h4 hg hr,⟨ps,Bq h5 hg hr,h6.mono λ_ _ x=>⟨Bq x.1 hg hr,x.2⟩,h7⟩,Bq h8 hg hr⟩
theorem Te(w:World)(s:ByteArray)(t:TypeId):BR (w.alloc (.cells #[.string s] t)) (.slice (some ⟨w.heap.size,0,none⟩) 1 1) [s]:=
 Rd.zC w #[.string s] t 1 1 _ rfl rfl (by simp[maxLen])
theorem Z0(w:World)(a b c:ByteArray)(t u:TypeId):
 Li ((((w.alloc (.cells #[.string a] t)).alloc (.cells #[.string b] t)).alloc (.cells #[.string c] t)).alloc (.cells #[.slice (some ⟨w.heap.size,0,none⟩) 1 1,.slice (some ⟨w.heap.size+1,0,none⟩) 1 1,.slice (some ⟨w.heap.size+1+1,0,none⟩) 1 1] u))
  (.slice (some ⟨w.heap.size+1+1+1,0,none⟩) 3 3) [[a],[b],[c]]:=by
 have h1:=Te w a t;have h2:=Te (w.alloc (.cells #[.string a] t)) b t;have h3:=Te ((w.alloc (.cells #[.string a] t)).alloc (.cells #[.string b] t)) c t;simp only[xv] at h2 h3;refine⟨[.slice (some ⟨w.heap.size,0,none⟩) 1 1,.slice (some ⟨w.heap.size+1,0,none⟩) 1 1,.slice (some ⟨w.heap.size+1+1,0,none⟩) 1 1],?_,rfl,?_⟩
 .exact Rd.zC _ #[_,_,_] u 1 3 _ (by simp) rfl (by simp[maxLen])
 .intro i x y hx hy
  match i,hx,hy with
  |0,hx,hy=>simp at hx hy;subst hx hy;exact((BD.below h1 (AE _ _)).below (AE _ _)).below (AE _ _)
  |1,hx,hy=>simp at hx hy;subst hx hy;exact(BD.below h2 (AE _ _)).below (AE _ _)
  |2,hx,hy=>simp at hx hy;subst hx hy;exact BD.below h3 (AE _ _)
def Mv:List (List ByteArray):=[[gA],[gB],[gC]]
theorem Pr:∀ts∈Mv,BQ ts=true:=by
 intro ts h;simp only[Mv,List.mem_cons,List.not_mem_nil,or_false] at h
 rcases h with rfl|rfl|rfl<;>decide+kernel
theorem Q8:∀ts∈Mv,DQ ts:=λts h=>GO (Pr ts h)
theorem Ur:Mu Mv=Dx 0:=by kernel_rfl
def VI(r:Ending):Prop:=r=.returned (.tuple #[AO (.slice none 0 0) (.slice none 0 0) (.slice none 0 0) (.slice none 0 0) (.slice none 0 0) (.slice none 0 0) (.slice none 0 0) 0 0,.bool false])
theorem Xd:(madeCells (Value.agg #[.int .i64 0,.int .i64 0,.bool false]).cells (16*3)).toList=Ci Cw (xV 16 ⟨0,0,false⟩):=by kernel_rfl
def VF(lo:Nat)(v:Value)(w:World)(m i e c:Value)(l:Int):Prop:=∃s q,v=.agg #[m,i,e,c,s,.slice none 0 0,q,.int .i64 0,.int .i64 l]/\Au lo w s (xV 16 (.slice none 0 0)) (xV 16 [])/\AQ lo 43 3 Cw w q (xV 16 ⟨0,0,false⟩)
theorem VF.below{lo:Nat}{w w':World}{m i e c:Value}{l:Int}(h:VF lo v w m i e c l)(hb:Below w.heap.size w w'):VF lo v w' m i e c l:=by obtain⟨s,q,h1,h2,h3⟩:=h;exact⟨s,q,h1,h2.below hb,h3.below hb⟩
def Lh(lo:Nat)(v:Value)(w:World):Prop:=∃g,v=.pointer (some ⟨g,0,none⟩)/\lo<=g/\w.heap[g]?=some (.cells #[.slice none 0 0,.slice none 0 0,.slice none 0 0,.slice none 0 0,.slice none 0 0,.slice none 0 0,.slice none 0 0,.int .i64 0,.int .i64 0] 32 (0,0))
theorem Lh.below{lo:Nat}{w w':World}(h:Lh lo v w)(hb:Below w.heap.size w w'):Lh lo v w':=by obtain⟨g,h1,h2,h3⟩:=h;exact⟨g,h1,h2,AC h3 hb⟩
theorem Lt{w:World}{lo e sz n:Nat}{xs:List Value}(h:w.ownsRow lo e sz v n xs):∃a n c,v=.slice a n c:=by
 rcases h.2 with⟨rfl,_⟩|⟨g',bY,eN,rfl,_⟩
 .exact⟨_,_,_,rfl⟩
 .exact⟨_,_,_,rfl⟩
def LN(k:Nat):List Int:=(yC k).map λj=>((j+1:Nat):Int)
theorem V4(k:Nat):LN (k+1)=LN k++[((k+1:Nat):Int)]:=by simp[LN,List.range_succ]
theorem Rt(k:Nat):(LN k).length=k:=by simp[LN]
def bj(lo g:Nat)(w:World)(s l q:Value)(P:AR)(k':AN)(w':World):Prop:=
 (∃m i e c,Gm lo g w' m i e c s l q {P with zV:=k'}/\DP w.heap.size w' m i e c k')/\Below lo w w'/\w.grownBy w' (some g)
theorem JZ{lo:Nat}{w:World}{xs:List Int}(h:AF lo w v xs){j:Nat}(hj:j<xs.length):∃b bY,v=.slice (some ⟨b,0,none⟩) xs.length bY/\b<w.heap.size/\w.cell? ⟨b,j,none⟩=some (.int .i64 (xs.getD j 0)):=by
 have h0:=h;unfold AF at h0
 rcases h0.2 with⟨rfl,e⟩|⟨b,bY,eN,rfl,_,_,_⟩
 .omega
 .refine⟨b,bY,rfl,(yq h0 b rfl).2,?_⟩
  have:=xB h0 j (by omega);rw[this];simp[xR,hj]
theorem P8{lo g:Nat}{w:World}{P:AR}(h:Gm lo g w mv iv ev cv sv lv qv P)(bK:lo<=w.heap.size)(hK:DJ P.zV)(cz:P.low.length=4){n:Nat}(hn:n<16)(wd:Int)(hw:wd<=9223372036854775807):
 Calls prog 86 #[.pointer (some ⟨g,0,none⟩),.int .i64 n,.int .i64 wd] w (λr w'=>r=.returned (.tuple #[])/\bj lo g w sv lv qv P (Ad P.zV (IS P n wd)).1 w'):=by
 obtain⟨a,ha⟩:∃a,a=n/4:=⟨_,rfl⟩
 obtain⟨b,hb⟩:∃b,b=n%4:=⟨_,rfl⟩
 have e:Ad P.zV (IS P n wd)=Ad P.zV ⟨6,0,BJ P.low a,(b:Int),wd,⟨#[]⟩⟩:=by subst ha hb;exact(PP ⟨by decide,by decide,by decide⟩)
 rw[e];have q1:(n:Int)/4=(a:Int):=by omega
 have q2:(n:Int)%4=(b:Int):=by omega
 have C:=Lu h bK hK ⟨6,0,BJ P.low a,(b:Int),wd,⟨#[]⟩⟩ (show(0:Int)<=0 by decide) (show(0:Int)<3 by decide) (yh _) (by unfold Jk;simp) hw;obtain⟨_,_,_,_,_,c5,_⟩:=h.cells;obtain⟨lb,lc,rfl,eF,D⟩:=JZ h.own.low (j:=a) (by omega);rw[cz] at C c5;replace D:w.cell? ⟨lb,a,none⟩=some (.int .i64 (BJ P.low a)):=D;have fH:(a:Int)<4:=by omega
 have Hn:=AA hn;generalize BJ P.low a=la at*;dsimp only at C;unfold ZZ at C;clear h ha hb e hn;go_in;go_wp2_with fail;refine C.mono ?_;rintro r w1 ⟨rfl,h2⟩;have H2:=AA h2;clear h2 C D c5;go_wp2_with fail;go_returns;exact⟨rfl,by rw[cz];exact H2.out⟩
theorem VZ{l:List Bk}{k:Nat}{x:Bk}(h:l[k]?=some x)(wh:Int):Ac (l.take (k+1)) wh=Ac (l.take k) wh+EC (Nn wh x):=by rw[Cx h];unfold Ac;rw[List.countP_append];simp[xC,EC]
theorem P6{g:Nat}{w:World}{ps:List Bk}(hq:w.cell? ⟨g,6,none⟩=some qv)(hR:BD 3 Cw w qv ps)(hl:ps.length=16)(wh:Int):
 Calls prog 57 #[.pointer (some ⟨g,0,none⟩),.int .i64 wh] w (λr w'=>r=.returned (.int .i64 (Ac ps wh:Int))/\Below w.heap.size w w'):=by
 obtain⟨a,c,rfl,_⟩:=hR.shape;have H0:=Sk.of DT (by decide) hR;rw[hl] at hq;go_in;go_wp2_with fail;go_loopw [5,7,13] (λn _ ix wr=>∃k:Nat,k<=16/\ix=.int .i64 k/\n=.int .i64 (Ac (ps.take k) wh:Int)/\Below w.heap.size w wr) (λ_ _ ix _=>16 - (intOf ix).toNat)
 case atStart=>exact⟨0,by omega,rfl,rfl,yD _ _⟩
 case round=>
  obtain⟨k,hk,rfl,rfl,hb⟩:=hrel
  by_cases ay:k<16
  .obtain⟨x,hx⟩:∃x,ps[k]?=some x:=⟨_,yu (by omega)⟩
   obtain⟨b,cM,rfl,cQ,hc⟩:=(H0.below hb) k x hx;have D0:=hc 0 _ rfl;have D1:=hc 1 _ rfl;have D2:=hc 2 _ rfl;rw[xL] at D0;have Nx:=AA (VZ hx wh);have eJ:Ac (ps.take k) wh<=16:=by unfold Ac;exact yB List.countP_le_length (by rw[List.length_take];omega)
   generalize Ac (ps.take k) wh=n at*;have f7:(k:Int)<16:=by omega
   obtain⟨xw,xa,xu⟩:=x;have bw:=AA (hb.trans ((AE wr (.cells #[.int .i64 xw,.int .i64 xa,.bool xu] 43)).mono hb.size));clear hc hx H0 hR
   by_cases hw:xw=wh
   focus
    subst hw
    have t1:EC (Nn xw ⟨xw,xa,xu⟩)=1:=by simp[Nn,EC]
   rotate_left
   focus
    have t1:EC (Nn wh ⟨xw,xa,xu⟩)=0:=by simp[Nn,EC,hw]
    have t2:(xw==wh)=false:=by simp[hw]
    clear hw
   rotate_left
   all_goals
    go_wp2_with fail;go_roundw
    case rel=>exact⟨k+1,by omega,by go_num,by rw[Nx.out,t1];go_num,bw.out⟩
    case measure=>simp[intOf];omega
  .obtain rfl:k=16:=by omega
   rw[List.take_of_length_le (by omega)];go_wp2_with fail;go_ret;exact⟨rfl,hb⟩
theorem Gg(vs:List Value):Ci GC vs=vs:=by
 induction vs with
 |nil=>rfl
 |cons v vs ih=>rw[IG,ih];rfl
theorem Au.set{lo B:Nat}{w0 w:World}{gs n bY j:Nat}{vs:List Value}{S:List (List Int)}{v':Value}{r:List Int}(h:Au lo w0 (.slice (some ⟨gs,0,none⟩) n bY) vs S)(hb:Below w0.heap.size w0 w)(hO:AF B w v' r)(hB:w0.heap.size<=B)(bK:lo<=w0.heap.size)(hn:n=vs.length)(hj:j<vs.length):
 Au lo (w.setCell ⟨gs,j,none⟩ v') (.slice (some ⟨gs,0,none⟩) n bY) (vs.set j v') (S.set j r)/\w.grownBy (w.setCell ⟨gs,j,none⟩ v') (some gs):=by
 have h':=h.below hb;obtain⟨h1,⟨ef,h2⟩,h3⟩:=h';have g1:w.ownsRow lo 29 1 (.slice (some ⟨gs,0,none⟩) n bY) n vs:=by have:=h1;unfold AQ at this;rw[Gg,<-hn] at this;exact this
 obtain⟨s1,s2⟩:=vP g1 j v';obtain⟨eN,dd⟩:=A6 g1 gs rfl;have old:∀(i:Nat) u,vs[i]?=some u->∀b,u.ownBlock=some b->b<w0.heap.size:=λi u hu b cI=>by
  obtain⟨x,hx⟩:∃x,S[i]?=some x:=⟨_,yu (by rw[<-ef];exact(yr.1 hu).1)⟩
  exact(yq (h.2.1.2 i u x hu hx) b cI).2
 refine⟨⟨?_,⟨by rw[xS,xS];exact ef,λi u x hu hx=>?_⟩,λi k u u' eH hu cG=>?_⟩,s2⟩
 .unfold AQ
  rw[Gg,xS,<-hn];exact s1
 .rw[we] at hu hx
  by_cases e:j=i
  .subst e
   rw[if_pos rfl,if_pos hj] at hu;rw[if_pos rfl,if_pos (by rw[<-ef];exact hj)] at hx;cases hu;cases hx;exact Eu (BO hO (yB bK hB)) s2 dd
  .rw[if_neg e] at hu hx
   exact Eu (h2 i u x hu hx) s2 dd
 .have fresh:∀b,v'.ownBlock=some b->w0.heap.size<=b:=λb cI=>yB hB (yq hO b cI).1
  rw[we] at hu cG
  by_cases e:j=i
  .subst e
   rw[if_pos rfl,if_pos hj] at hu;rw[if_neg eH] at cG;cases hu;intro b ax ad;have:=fresh b ax;have:=old k u' cG b ad;omega
  .rw[if_neg e] at hu
   by_cases e':j=k
   .subst e'
    rw[if_pos rfl,if_pos hj] at cG;cases cG;intro b ax ad;have:=fresh b ad;have:=old i u hu b ax;omega
   .rw[if_neg e'] at cG
    exact h3 i k u u' eH hu cG
theorem Ts(v:Value)(r:List Int)(w:World)(h:Aw w v r):Calls prog 187 #[v] w λe w'=>e=.returned (.bool r.isEmpty)/\Below w.heap.size w w':=by obtain⟨a,c,rfl,_,_,_⟩:=h.open;have S:=AA (show((r.length:Int)==0)=r.isEmpty by cases r<;>simp<;>omega);go_in;go_wp2_with fail;go_ret;exact⟨AI S.out,yD _ _⟩
theorem U4{lo:Nat}{w:World}{vs:List Value}{S:List (List Int)}{r:List Int}(hs:Au lo w sv vs S)(hl:S.length=16)(bK:lo<=w.heap.size)(hr:Aw w v r)(h4:r.length<=4){j:Nat}(hj:BY S=(j:Int))(fw:j<16):
 Calls prog 137 #[sv,v] w (λe w'=>e=.returned (.int .i64 j)/\(∃bq,Au lo w' sv bq (S.set j r))/\Below lo w w'/\w.grownBy w' sv.ownBlock):=by
 have ca:vs.length=16:=by rw[hs.2.1.1,hl]
 have C:=Jj 187 #[] List.isEmpty sv S w hs.rd (λ_ _=>by kernel_rfl) (λu r _ W _ hr=>Ts u r W hr);rw[show Fs List.isEmpty S=(j:Int) from hj] at C;obtain⟨gs,bY,rfl,c1,c2,q1,q2,cH⟩:=hs.1.zM (by omega);rw[ca] at hs C ⊢;have gj:¬(j:Int)<0:=by omega
 have gi:(j:Int)<16:=by omega
 go_in;go_wp2_with fail;refine C.mono ?_;rintro e w1 ⟨rfl,b1⟩;go_wp2_with fail;refine(IM v r w1 (hr.below b1) (by omega)).mono ?_;rintro e w2 ⟨v',rfl,hO,b2⟩;have bb:=b1.trans (b2.mono b1.size);have R:=hs.set (B:=w1.heap.size) (j:=j) bb hO b1.size bK ca.symm (by omega);have g1:w2.ownsRow lo 29 1 (.slice (some ⟨gs,0,none⟩) 16 bY) 16 vs:=by have:=(hs.below bb).1;unfold AQ at this;rwa [Gg,ca] at this
 have C1:=xB g1 j (by omega);rw[yu (by omega)] at C1;have F1:=xN g1 j;have B1:=AA (AM (bb.mono bK) R.2 (yq hs.1 gs rfl).1 (yB bK bb.size));have G1:=AA (AP (⟨bb.os,bb.tape,bb.output,bb.size,λk hk _=>bb.block k hk⟩:w.grownBy w2 (some gs)) R.2);have R1:=AA R.1;have gw:(16:Int)<=bY:=by omega
 obtain⟨ra,rn,rc,rfl⟩:=Lt hO;clear C hO R g1 b1 b2 bb cH;go_wp2_with fail;go_ret;exact⟨rfl,⟨_,R1.out⟩,B1.out,G1.out⟩
theorem V7{zZ:List AU}{f:Nat}(hk:Sn (zS zZ f)):Fm zZ f=(decide ((zS zZ f).g=gA)&&decide ((zS zZ f).r=1)&&decide ((zS zZ f).k≠0)):=by
 unfold Fm
 by_cases h:(zS zZ f).g=gA
 .have:(zS zZ f).k≠0:=λe=>by
   rcases hk with⟨_,g⟩|⟨a,_⟩
   .rw[h] at g;cases g
   .omega
  simp[this]
 .simp[h]
theorem MQ{g:Nat}{w:World}{zZ:List AU}(hi:w.cell? ⟨g,1,none⟩=some iv)(hR:BD 3 A2 w iv zZ)(hl:zZ.length=12){f:Nat}(hf:f<12)(hk:Sn (zS zZ f)):
 Calls prog 108 #[.pointer (some ⟨g,0,none⟩),.int .i64 f] w (λr w'=>r=.returned (.bool (Fm zZ f))/\Below w.heap.size w w'):=by
 have E:=AA (V7 hk);obtain⟨a,c,rfl,gq,gp⟩:=hR.shape;have H0:=Sk.of Ay (by decide) hR;have hx:zZ[f]?=some (zS zZ f):=Cj (by omega);obtain⟨b,cM,rfl,cQ,hc⟩:=H0 f _ hx;have D0:=hc 0 _ rfl;have D1:=hc 1 _ rfl;have D2:=hc 2 _ rfl;rw[xL] at D0;rw[hl] at hi;have fB:(f:Int)<12:=by omega
 generalize zS zZ f=x at*;obtain⟨k,gd,r⟩:=x;dsimp only at D0 D1 D2 E;clear hc H0 hR hx hk hl;have eg:gd=gA↔gd.toList=[97]:=⟨λh=>by subst h;rw[Lib.toList_data];rfl,λh=>by rw[Lib.toList_data] at h;cases gd with|mk d=>cases d with|mk l=>simp at h;subst h;rfl⟩
 by_cases hg:gd.toList=[97]
 .have t1:(gd.toList==[97])=true:=by simp[hg]
  by_cases hr:r=1
  .subst hr
   have t3:(k !=0)=decide (k≠0):=by by_cases h:k=0<;>simp[h]
   have E2:=AA (show Fm zZ f=(k !=0) by rw[E.out,t3];simp[eg.2 hg]);clear hg eg E t3;go_in;go_wp2_with fail;go_ret;exact⟨AI E2.out.symm,AE _ _⟩
  .have t2:(r==1)=false:=by simp[hr]
   have E2:=AA (show Fm zZ f=false by rw[E.out];simp[hr]);clear hg eg E hr;go_in;go_wp2_with fail;go_ret;exact⟨AI E2.out.symm,AE _ _⟩
 .have t1:(gd.toList==[97])=false:=by simp[hg]
  have E2:=AA (show Fm zZ f=false by rw[E.out];simp[eg,hg]);clear hg eg E;go_in;go_wp2_with fail;go_ret;exact⟨AI E2.out.symm,AE _ _⟩
theorem Xq{g:Nat}{w:World}{P:AR}(hB:w.heap[g]?=some (.cells #[mv,iv,ev,cv,sv,lv,qv,.int .i64 P.zR,.int .i64 P.zU] 32 (0,0)))(h:Kx w mv iv ev cv sv lv qv P)(hm:P.zV.mem.length=12)(hr:∀f,f<12->(AH P.zV.mem f).length=4)(cz:P.low.length=4){n:Nat}(hn:n<16)(bK:0<=BJ P.low (n/4)/\BJ P.low (n/4)<=11):
 Calls prog 112 #[.pointer (some ⟨g,0,none⟩),.int .i64 n] w (λr w'=>r=.returned (.int .i64 (Br P n))/\Below w.heap.size w w'):=by
 unfold Br Ar;obtain⟨ja,ha⟩:∃ja,ja=n/4:=⟨_,rfl⟩
 obtain⟨jb,hb⟩:∃jb,jb=n%4:=⟨_,rfl⟩
 rw[<-ha] at bK ⊢;rw[<-hb];have q1:(n:Int)/4=(ja:Int):=by omega
 have q2:(n:Int)%4=(jb:Int):=by omega
 have f6:(n:Int).tmod 4=(jb:Int):=by rw[Int.tmod_eq_emod_of_nonneg (by omega)];exact q2
 have fF:jb<4:=by omega
 have fH:ja<4:=by omega
 obtain⟨x0,_,_,_,_,x5,_⟩:=AD hB;have hg:=AW hB;obtain⟨al,lc,rfl,_,_,HL⟩:=h.2.2.1.open;obtain⟨lb,cW,rfl,DL⟩:=HL.at (k:=ja) (by omega);have eF:=yA w _ DL;replace DL:w.cell? ⟨lb,cW+ja,none⟩=some (.int .i64 (BJ P.low ja)):=DL;obtain⟨f,hf⟩:∃f:Nat,BJ P.low ja=(f:Int):=⟨(BJ P.low ja).toNat,by omega⟩
 rw[hf] at DL bK ⊢;have bp:f<12:=by omega
 obtain⟨vs,o1,o2⟩:=h.1.1;have ca:vs.length=12:=by rw[o2.1,hm]
 obtain⟨am,cm,rfl,d0,_,HM⟩:=BD.open EG (by decide) o1;obtain⟨u,hu⟩:∃u,vs[f]?=some u:=⟨_,yu (by omega)⟩
 have cd:=o2.2 f u (AH P.zV.mem f) hu (by unfold AH;exact A1 (by omega));obtain⟨gm,dP,rfl,fz,ds⟩:=HM f u hu;have DR:=ds 0 _ rfl;obtain⟨ar,rc,rfl,_,_,dp⟩:=cd.open;obtain⟨rb,du,rfl,DW⟩:=dp.at (k:=jb) (by rw[hr f bp];exact fF);have fl:=yA w _ DW;rw[wl,xL,hr f bp] at DR;rw[ca] at x0;rw[cz] at x5;rw[show((f:Int)).toNat=f from rfl];have fB:(f:Int)<12:=by omega
 have gt:(ja:Int)<4:=by omega
 have dg:(jb:Int)<4:=by omega
 unfold nth at DW;generalize(AH P.zV.mem f).getD jb 0=wd at DW ⊢;clear h hm hr cz bK hf o1 o2 cd hu ca d0 ha hb HL HM dp ds hB;go_in;go_wp2_with fail;refine AY 19 24 [.p g 0,.p g 0,.p g 0,.p g 0,.v (.slice (some ⟨gm,dP,none⟩) 12 cm),.p g 0,.p g 0,.p g 5,.v (.slice (some ⟨lb,cW,none⟩) 4 lc),.i ((n:Int)),.i ((ja:Int)),.p lb (cW+ja),.i ((f:Int)),.p gm (dP+f),.v (.slice (some ⟨rb,du,none⟩) 4 rc),.i ((n:Int)),.i ((jb:Int)),.p rb (du+jb),.i wd] (λ_ _ _=>True) ?_ ?_
 .intro i hi o ho a wx Hb Hd hG K HK
  have bl:=bc hG hg x5;have bm:=bc hG eF DL;have b9:=bc hG fz DR;have cl:=bc hG fl DW
  match i,hi with
  |0,_|1,_|2,_|3,_|5,_|6,_|7,_|9,_|15,_=>exact sP ho HK Hb Hd
  |4,_=>exact sL ho HK Hb Hd (hl:=GT (bc hG hg x0))
  |8,_|14,_=>exact sL ho HK Hb Hd (hl:=J5 ‹_›)
  |11,_|13,_|17,_=>exact sI ho HK Hb Hd (hr:=by clear Hd Hb HK;go_simp)
  |12,_|18,_=>exact sL ho HK Hb Hd (hl:=Fp ‹_›)
  |10,_=>clear bl bm b9 cl;obtain rfl:=yF ho;have d9:(a.tmps[14]?.getD undef)=.int .i64 n:=BM Hd 9;clear Hd Hb;refine yE ?_;go_simp;exact HK.out _ _ (by show Value.int .i64 (IntKind.i64.wrap _)=_;rw[IntWalk.i64_in _ (by omega)]) (yD _ _)
  |16,_=>clear bl bm b9 cl;obtain rfl:=yF ho;have dE:(a.tmps[20]?.getD undef)=.int .i64 n:=BM Hd 15;clear Hd Hb;refine yE ?_;go_simp;exact HK.out _ _ rfl (yD _ _)
  |_+19,hq=>omega
 .intro vs wx hR hG
  have ew:(vs 18)=.int .i64 wd:=BW hR 18;clear hR;simp only[Aj,Ae,yC,yz,yy,yw,ew];simp;clear ew;go_wp2_with fail;go_ret;exact⟨rfl,hG⟩
theorem Nf{p:Nat->Bool}{n k:Nat}(hk:k<n)(h:p k=false):(yC n).all p=false:=List.all_eq_false.2 ⟨k,xU.2 hk,by simp[h]⟩
theorem NH{g:Nat}{w:World}{P:AR}(hB:w.heap[g]?=some (.cells #[mv,iv,ev,cv,sv,lv,qv,.int .i64 P.zR,.int .i64 P.zU] 32 (0,0)))(h:Kx w mv iv ev cv sv lv qv P)(hK:DJ P.zV):
 Calls prog 53 #[.pointer (some ⟨g,0,none⟩)] w (λr w'=>r=.returned (.bool (Bt P))/\Below w.heap.size w w'):=by
 have T:Bt P=(decide (0<=AZ P.zV 0)&&decide (P.low.length=4)&&Fm P.zV.zZ (AZ P.zV 0).toNat&&(yC 4).all (Fa P)):=rfl;have L:∀i,Fa P i=(Be (BJ P.low i) 0 11&&decide (Ar P.zV.mem (AZ P.zV 0).toNat i=Hh (BJ P.low i))&&Fm P.zV.zZ (BJ P.low i).toNat):=λi=>rfl
 obtain⟨x0,x1,x2,_,_,x5,_⟩:=AD hB;obtain⟨ps,fC,eI⟩:=h.1.2.2.1;have dx:ps.length=3:=by rw[eI.1,hK.zN]
 obtain⟨ae,ce,rfl,_,_,HE⟩:=BD.open Fc (by decide) fC;obtain⟨p0,hp0⟩:∃p,ps[0]?=some p:=⟨_,yu (by omega)⟩
 obtain⟨ge,gv,rfl,_,eK⟩:=HE 0 p0 hp0;have DE:=eK 1 _ rfl;rw[show p0.2=AZ P.zV 0 from(eI.2 0 p0 (AJ P.zV.zX 0) hp0 (by unfold AJ;exact A1 (by rw[hK.zN];omega))).2,Nat.zero_mul,xL] at DE;rw[dx] at x2;obtain⟨al,lc,rfl,ft,dy,HL⟩:=h.2.2.1.open;unfold maxLen at dy;have di:=h.1.2.1;have db:=hK.len;have dh:=AA hK.inf
 rcases hK.roots 0 (by omega) with hr|⟨hr0,dw,dv⟩
 .have S:=AA (show Bt P=false by rw[T,hr];rfl)
  rw[hr] at DE;clear T L hr di dh db HL h hB hK;go_in;go_wp2_with fail;go_ret;exact⟨AI S.out.symm,yD _ _⟩
 .obtain⟨rn,hrn⟩:∃n:Nat,AZ P.zV 0=(n:Int):=⟨(AZ P.zV 0).toNat,by omega⟩
  have dS:rn<12:=by omega
  simp only[hrn,yb] at T L;rw[hrn] at DE;have nr:¬(rn:Int)<0:=by omega
  by_cases cO:P.low.length=4
  .have CR:=AA (λW (hW:Below w.heap.size w W)=>MQ (w:=W) (f:=rn) ((hW.cell (yA w _ x1)).trans x1) (BD.below di hW) db dS (dh.out rn dS))
   obtain⟨vs,o1,o2⟩:=h.1.1;have ca:vs.length=12:=by rw[o2.1];exact(Ai.1 hK.mem).1
   obtain⟨am,cm,rfl,_,_,HM⟩:=BD.open EG (by decide) o1;obtain⟨u,hu⟩:∃u,vs[rn]?=some u:=⟨_,yu (by omega)⟩
   have cd:=o2.2 rn u (AH P.zV.mem rn) hu (by unfold AH;exact A1 (by rw[<-o2.1];omega));have dT:(AH P.zV.mem rn).length=4:=(A3.1 ((Ai.1 hK.mem).2 rn dS)).1;obtain⟨gm,dP,rfl,_,ds⟩:=HM rn u hu;have DR:=ds 0 _ rfl;obtain⟨ar,rc,rfl,_,_,dp⟩:=cd.open;rw[wl,xL,dT] at DR;rw[ca] at x0;rw[cO] at x5;have HF:=AA (xZ x0 (xZ x1 (xZ x5 DR)));have dJ:=AA (xZ dp (xZ dT (xZ HL cO)));have ga:(0:Int)<=(rn:Int):=by omega
   have T2:=AA (show Bt P=(Fm P.zV.zZ rn&&(yC 4).all (Fa P)) by rw[T];simp[cO]);have fV:=AA L;have CI:=AA (λ(f:Nat)(hf:f<12) W (hW:Below w.heap.size w W)=>MQ (w:=W) (f:=f) ((hW.cell (yA w _ HF.out.2.1)).trans HF.out.2.1) (BD.below di hW) db hf (dh.out f hf));clear T L hr0 dw dv hrn di dh db HL h hB hK o1 o2 cd hu ca HM ds dp dT ft DR cO x1;cases hm:Fm P.zV.zZ rn
   .rw[hm] at CR T2
    go_in;go_wp2_with fail;refine(CR.out _ (yD _ _)).mono ?_;rintro r w1 ⟨rfl,b1⟩;go_wp2_with fail;go_ret;exact⟨AI T2.out.symm,b1⟩
   .rw[hm] at CR T2
    go_in;go_wp2_with fail;refine(CR.out _ (yD _ _)).mono ?_;rintro r w1 ⟨rfl,b1⟩;replace x5:=(b1.cell (yA w _ x5)).trans x5;have fT:=AA b1;clear x0 x2 DE b1;go_wp2_with fail;clear x5;go_loopw [4,5,6,7,37] (λ_ _ _ _ ix wr=>∃k:Nat,k<=4/\ix=.int .i64 k/\(∀j,j<k->Fa P j=true)/\Below w.heap.size w wr) (λ_ _ _ _ ix _=>4 - (intOf ix).toNat)
    case atStart=>exact⟨0,by omega,rfl,λj hj=>by omega,fT.out⟩
    case round=>
     obtain⟨k,hk,rfl,ct,hb⟩:=hrel
     by_cases ay:k<4
     .have k4:(k:Int)<4:=by omega
      obtain⟨lb,cW,rfl,DL⟩:=dJ.out.2.2.1.at (k:=k) (by rw[dJ.out.2.2.2];exact ay);obtain⟨rb,du,rfl,DW⟩:=dJ.out.1.at (k:=k) (by rw[dJ.out.2.1];exact ay);replace DL:=(hb.cell (yA w _ DL)).trans DL;replace DW:=(hb.cell (yA w _ DW)).trans DW;have x0:=(hb.cell (yA w _ HF.out.1)).trans HF.out.1;have DR:=(hb.cell (yA w _ HF.out.2.2.2)).trans HF.out.2.2.2;have eo:=AA ct;have Hb:=AA hb;have LK:=fV.out k;replace DL:wr.cell? ⟨lb,cW+k,none⟩=some (.int .i64 (BJ P.low k)):=DL;replace DW:wr.cell? ⟨rb,du+k,none⟩=some (.int .i64 (Ar P.zV.mem rn k)):=DW;generalize BJ P.low k=v at DL LK;generalize Ar P.zV.mem rn k=wd at DW LK;clear ct hb;cases bf:Be v 0 11
      .have S:=AA (show Bt P=false by rw[T2.out,Nf ay (by rw[LK,bf];rfl)];rfl)
       clear LK;go_wp2_with fail;refine(OC v true _ bf).mono ?_;rintro r w3 ⟨rfl,rfl⟩;go_wp2_with fail;go_ret;exact⟨AI S.out.symm,Hb.out⟩
      .have hv:=Ab.1 bf
       obtain⟨f,rfl⟩:∃f:Nat,v=(f:Int):=⟨v.toNat,by omega⟩
       have hf:f<12:=by omega
       have CF:=AA (CI.out f hf wr Hb.out);rw[bf,yb] at LK;go_wp2_with fail;refine(Iy (f:Int) _ hv.1 hv.2).mono ?_;rintro r w3 ⟨rfl,rfl⟩
       by_cases he:wd=Hh (f:Int)
       .have t1:(wd !=Hh (f:Int))=false:=by simp[he]
        have dH:Fa P k=Fm P.zV.zZ f:=by rw[LK];simp[he]
        generalize Hh (f:Int)=en at t1;clear LK he bf;go_wp2_with fail;refine CF.out.mono ?_;rintro r w4 ⟨rfl,b4⟩;have eT:=AA (Hb.out.trans (b4.mono Hb.out.size));cases eC:Fm P.zV.zZ f
        .have S:=AA (show Bt P=false by rw[T2.out,Nf ay (by rw[dH,eC])];rfl)
         clear dH b4;go_wp2_with fail;go_ret;exact⟨AI S.out.symm,eT.out⟩
        .have fS:=AA (dH.trans eC)
         clear dH b4;go_wp2_with fail;go_roundw
         case rel=>exact⟨k+1,by omega,by go_num,λj hj=>by
          rcases Nat.lt_succ_iff_lt_or_eq.1 hj with x|x
          .exact eo.out j x
          .subst x;exact fS.out,eT.out⟩
         case measure=>simp[intOf];omega
       .have t1:(wd !=Hh (f:Int))=true:=by simp[he]
        have S:=AA (show Bt P=false by rw[T2.out,Nf ay (by rw[LK];simp[he])];rfl);generalize Hh (f:Int)=en at t1;clear LK he bf;go_wp2_with fail;go_ret;exact⟨AI S.out.symm,Hb.out⟩
     .obtain rfl:k=4:=by omega
      have S:=AA (show Bt P=true by rw[T2.out,Bool.true_and];exact yd.2 λj hj=>ct j (xU.1 hj));clear ct;rw[show((4:Nat):Int)=4 from rfl];go_wp2_with fail;go_ret;exact⟨AI S.out.symm,hb⟩
  .have S:=AA (show Bt P=false by rw[T];simp[cO])
   have t4:((P.low.length:Int) !=4)=true:=by simp;omega
   clear T L hr0 dw dv hrn di dh db HL h hB hK cO;go_in;go_wp2_with fail;go_ret;exact⟨AI S.out.symm,yD _ _⟩
def Eb(P:AR)(n:Nat):Bool:=
 if(AB P.zY n).w=0 then decide ((AB P.zY n).a=0)&&!(AB P.zY n).u&&decide (Br P n=0)
 else if(AB P.zY n).w=1 then Be (AB P.zY n).a 0 11&&decide (Br P n=Hh (AB P.zY n).a)&&Fm P.zV.zZ (AB P.zY n).a.toNat
 else if(AB P.zY n).w=2 then Be (AB P.zY n).a 0 15&&!(AB P.zY n).u&&decide (Br P n=0)
 else false
def F6(ks:List Int)(x:Bk):List Int:=if x.w=2 then ks.set x.a.toNat (nth ks x.a.toNat+1) else ks
def JI(lo:Nat)(v:Value)(w:World):Prop:=∃q,v=.pointer (some ⟨q,0,none⟩)/\lo<=q/\w.heap[q]?=some (.cells #[.int .i64 0,.int .i64 0,.bool false] 43 (0,0))
theorem JI.below{lo:Nat}{w w':World}(h:JI lo v w)(hb:Below w.heap.size w w'):JI lo v w':=by obtain⟨q,h1,h2,h3⟩:=h;exact⟨q,h1,h2,AC h3 hb⟩
def So(lo:Nat)(w:World)(kv:Value)(ks:List Int)(b:Bool)(r:Ending)(w':World):Prop:=r=.returned (.bool b)/\AF lo w' kv ks/\w.grownBy w' kv.ownBlock/\Below lo w w'
theorem WC{lo g:Nat}{w:World}{kv:Value}{P:AR}{ks:List Int}(hB:w.heap[g]?=some (.cells #[mv,iv,ev,cv,sv,lv,qv,.int .i64 P.zR,.int .i64 P.zU] 32 (0,0)))(h:Kx w mv iv ev cv sv lv qv P)(hK:DJ P.zV)(cz:P.low.length=4)(bK:∀i,i<4->0<=BJ P.low i/\BJ P.low i<=11)(dx:P.zY.length=16)
 (hk:AF lo w kv ks)(dz:ks.length=16)(fv:∀j,j<16->0<=nth ks j/\nth ks j<=1000)(dX:lo<=w.heap.size){n:Nat}(hn:n<16):
 Calls prog 55 #[.pointer (some ⟨g,0,none⟩),.int .i64 n,kv] w (λr w'=>∃ks',So lo w kv ks' (Eb P n) r w'/\(Eb P n=true->ks'=F6 ks (AB P.zY n))):=by
 have CW:=AA (λW (hW:Below w.heap.size w W)=>Xq (w:=W) (AC hB hW) (h.below hW) (Ai.1 hK.mem).1 (λf hf=>(A3.1 ((Ai.1 hK.mem).2 f hf)).1) cz hn (bK (n/4) (by omega)));have x6:=(AD hB).2.2.2.2.2.2.1;have x1:=(AD hB).2.1;have CM:=AA (λ(f:Nat)(hf:f<12) W (hW:Below w.heap.size w W)=>MQ (w:=W) (f:=f) ((hW.cell (yA w _ x1)).trans x1) (BD.below h.1.2.1 hW) hK.len hf (hK.inf f hf));obtain⟨aq,qc,rfl,ez,fo,HQ⟩:=BD.open DT (by decide) h.2.2.2;rw[dx] at x6 ez;obtain⟨qb,eu,rfl,dU,hc⟩:=HQ n _ (show P.zY[n]?=some (AB P.zY n) from A1 (by omega));have D0:=hc 0 _ rfl;have D1:=hc 1 _ rfl;have D2:=hc 2 _ rfl;rw[xL] at D0;have hg:=AW hB;have PH:Eb P n=(if(AB P.zY n).w=0 then decide ((AB P.zY n).a=0)&&!(AB P.zY n).u&&decide (Br P n=0) else if(AB P.zY n).w=1 then Be (AB P.zY n).a 0 11&&decide (Br P n=Hh (AB P.zY n).a)&&Fm P.zV.zZ (AB P.zY n).a.toNat else if(AB P.zY n).w=2 then Be (AB P.zY n).a 0 15&&!(AB P.zY n).u&&decide (Br P n=0) else false):=rfl;generalize Eb P n=res at PH ⊢;generalize Br P n=tw at PH CW;generalize AB P.zY n=x at PH D0 D1 D2 ⊢;obtain⟨xw,xa,xu⟩:=x;dsimp only at PH D0 D1 D2;have gb:(n:Int)<16:=by omega
 have cq:=AA PH;have eU:=AA hk;clear PH hc HQ h hB hK cz bK dx x1 ez fo hk;obtain⟨ka,kn,kc,rfl⟩:=Lt eU.out;go_in;go_wp2_with fail;refine BN 11 78 [.p g 0,.p g 0,.p g 6,.v (.slice (some ⟨qb,eu,none⟩) 16 qc),.i ((n:Int)),.p qb (eu+n*3),.a #[.int .i64 xw,.int .i64 xa,.bool xu],.p g 0,.i ((n:Int)),.i tw,.z] (λix vv ww=>match ix with
  |10=>JI w.heap.size vv ww
  |_=>True) ?_ ?_ ?_
 .intro i hi o ho a wx Hb Hd hG K HK
  match i,hi with
  |0,_|1,_|2,_|4,_|7,_|8,_=>exact sP ho HK Hb Hd
  |3,_=>exact sL ho HK Hb Hd (hl:=Yt (bc hG hg x6))
  |5,_=>exact sI ho HK Hb Hd (hr:=by clear Hd Hb HK;go_simp)
  |6,_=>exact sL ho HK Hb Hd (hl:=cA (bc hG dU D0) (bc hG dU D1) (bc hG dU D2))
  |9,_=>exact sD ho HK Hb Hd (CW.out _ hG)
  |10,_=>obtain rfl:=yF ho;clear Hd Hb;refine yE ?_;go_simp;exact HK.out _ _ ⟨_,rfl,hG.size,yv _ _⟩ (AE _ _)
 .intro i hi vv wz cU bN hz
  match i,hi with
  |10,_=>exact(JI.below hz bN)
  |0,_|1,_|2,_|3,_|4,_|5,_|6,_|7,_|8,_|9,_=>exact hz
 .intro vs wx hR hG
  have q6:(vs 6)=.agg #[.int .i64 xw,.int .i64 xa,.bool xu]:=BW hR 6;have q9:(vs 9)=.int .i64 tw:=BW hR 9;have ey:JI w.heap.size (vs 10) wx:=BW hR 10;clear hR;simp only[Aj,Ae,yC,yz,yy,yw,q6,q9];simp;generalize vs 10=z10 at ey ⊢;clear q6 q9;obtain⟨q,rfl,fm,cN⟩:=ey;have c0:=yi _ _ 0 _ _ _ cN;have fQ:=yi _ _ 1 _ _ _ cN;have c2:=yi _ _ 2 _ _ _ cN;have fq:=AK cN;have Pl:=Xo (W:=w) (a:=.int .i64 xw) (b:=.int .i64 xa) (c:=.bool xu) cN hG fm;go_step;go_simp;clear c0 fQ c2 fq cN hG D0 D1 D2 x6;generalize((wx.setCell _ _).setCell _ _).setCell _ _=W1 at*;have y0:=yi _ _ 0 _ _ _ Pl.1;have y1:=yi _ _ 1 _ _ _ Pl.1;have y2:=yi _ _ 2 _ _ _ Pl.1;have br:=AA Pl.2;have dM:=AA (show AF lo W1 (.slice ka kn kc) ks from eU.out.below Pl.2);have NO:=AA (λ(W:World)(hW:Below W1.heap.size W1 W)(b:Bool)(hb:res=b)(fi:xw≠2∨b=false)=>(⟨ks,⟨by rw[hb],dM.out.below hW,⟨(br.out.trans (hW.mono br.out.size)).os,(br.out.trans (hW.mono br.out.size)).tape,(br.out.trans (hW.mono br.out.size)).output,(br.out.trans (hW.mono br.out.size)).size,λk hk _=>(br.out.trans (hW.mono br.out.size)).block k hk⟩,(br.out.trans (hW.mono br.out.size)).mono dX⟩,λht=>by
   rcases fi with x|x
   .unfold F6;rw[if_neg x]
   .rw[hb,x] at ht;cases ht⟩:∃ks',So lo w (.slice ka kn kc) ks' res (.returned (.bool b)) W/\(res=true->ks'=F6 ks ⟨xw,xa,xu⟩)))
  clear Pl
  by_cases h0:xw=0
  .subst h0
   by_cases ha:xa=0
   .have t1:(xa==0)=true:=by simp[ha]
    cases xu
    .have R:=AA (show res=(tw==0) by rw[cq.out];simp[ha];by_cases h:tw=0<;>simp[h])
     clear ha;go_wp2_with fail;go_ret;exact NO.out _ (yD _ _) _ R.out (.inl (by decide))
    .have R:=AA (show res=false by rw[cq.out];simp)
     clear ha;go_wp2_with fail;go_ret;exact NO.out _ (yD _ _) _ R.out (.inl (by decide))
   .have t1:(xa==0)=false:=by simp[ha]
    have R:=AA (show res=false by rw[cq.out];simp[ha]);clear ha;go_wp2_with fail;go_ret;exact NO.out _ (yD _ _) _ R.out (.inl (by decide))
  .have n0:(xw==0)=false:=by simp[h0]
   by_cases h1:xw=1
   .subst h1
    cases bf:Be xa 0 11
    .have R:=AA (show res=false by rw[cq.out,bf];rfl)
     go_wp2_with fail;refine(OC xa true _ bf).mono ?_;rintro r w3 ⟨rfl,rfl⟩;go_wp2_with fail;go_ret;exact NO.out _ (yD _ _) _ R.out (.inl (by decide))
    .have hv:=Ab.1 bf
     obtain⟨f,rfl⟩:∃f:Nat,xa=(f:Int):=⟨xa.toNat,by omega⟩
     have hf:f<12:=by omega
     have CF:=AA (CM.out f hf W1 br.out);have R0:res=(decide (tw=Hh (f:Int))&&Fm P.zV.zZ f):=by rw[cq.out,bf];simp
     go_wp2_with fail;refine(Iy (f:Int) _ hv.1 hv.2).mono ?_;rintro r w3 ⟨rfl,rfl⟩
     by_cases he:tw=Hh (f:Int)
     .have R:=AA (show res=Fm P.zV.zZ f by rw[R0];simp[he])
      have t1:(tw==Hh (f:Int))=true:=by simp[he]
      generalize Hh (f:Int)=en at t1;clear R0 he bf;go_wp2_with fail;refine CF.out.mono ?_;rintro r w4 ⟨rfl,b4⟩;have fX:=AA b4;clear b4;go_wp2_with fail;go_ret;exact NO.out _ fX.out _ R.out (.inl (by decide))
     .have R:=AA (show res=false by rw[R0];simp[he])
      have t1:(tw==Hh (f:Int))=false:=by simp[he]
      generalize Hh (f:Int)=en at t1;clear R0 he bf;go_wp2_with fail;go_ret;exact NO.out _ (yD _ _) _ R.out (.inl (by decide))
   .have n1:(xw==1)=false:=by simp[h1]
    by_cases h2:xw=2
    .subst h2
     cases bf:Be xa 0 15
     .have R:=AA (show res=false by rw[cq.out,bf];rfl)
      go_wp2_with fail;refine(Dt _ _ _ _).mono ?_;rintro r w3 ⟨rfl,rfl⟩;rw[bf];go_wp2_with fail;go_ret;exact NO.out _ (yD _ _) _ R.out (.inr rfl)
     .have hv:=Ab.1 bf
      obtain⟨sl,rfl⟩:∃sl:Nat,xa=(sl:Int):=⟨xa.toNat,by omega⟩
      have fk:sl<16:=by omega
      have fj:(sl:Int)<16:=by omega
      cases xu
      .by_cases ht:tw=0
       .have t1:(tw !=0)=false:=by simp[ht]
        have R:=AA (show res=true by rw[cq.out,bf];simp[ht]);have hb:=fv sl fk;obtain⟨kb,fh,ek,gf,KC⟩:=JZ dM.out (j:=sl) (by omega);cases ek;rw[dz] at dM ⊢;replace KC:W1.cell? ⟨kb,sl,none⟩=some (.int .i64 (nth ks sl)):=KC;have av:W1.ownsRow lo 3 1 (.slice (some ⟨kb,0,none⟩) 16 kc) 16 (ks.map (Value.int .i64)):=by have:=dM.out;unfold AF at this;rwa [dz] at this
        have FK:=xN av sl;obtain⟨s1,s2⟩:=vP av sl (.int .i64 (nth ks sl+1));have fs:=(yq av kb rfl).1;have eP:=AA (show So lo w (.slice (some ⟨kb,0,none⟩) 16 kc) (F6 ks ⟨2,(sl:Int),false⟩) true (.returned (.bool true)) (W1.setCell ⟨kb,sl,none⟩ (.int .i64 (nth ks sl+1))) from
         ⟨rfl,by
          show AF _ _ _ (ks.set sl (nth ks sl+1))
          unfold AF;rw[xS,List.map_set,dz];exact s1,AP ⟨br.out.os,br.out.tape,br.out.output,br.out.size,λk hk _=>br.out.block k hk⟩ s2,AM (br.out.mono dX) s2 fs (yB dX br.out.size)⟩)
        generalize nth ks sl=old at KC hb eP;clear ht bf s1 s2 av;go_wp2_with fail;refine(Dt _ _ _ _).mono ?_;rintro r w3 ⟨rfl,rfl⟩;rw[show Be (sl:Int) 0 15=true from Ab.2 hv];go_wp2_with fail;go_ret;exact⟨_,by rw[R.out,dz];exact eP.out,λ_=>rfl⟩
       .have t1:(tw !=0)=true:=by simp[ht]
        have R:=AA (show res=false by rw[cq.out,bf];simp[ht]);clear ht;go_wp2_with fail;refine(Dt _ _ _ _).mono ?_;rintro r w3 ⟨rfl,rfl⟩;rw[bf];go_wp2_with fail;go_ret;exact NO.out _ (yD _ _) _ R.out (.inr rfl)
      .have R:=AA (show res=false by rw[cq.out,bf];simp)
       go_wp2_with fail;refine(Dt _ _ _ _).mono ?_;rintro r w3 ⟨rfl,rfl⟩;rw[bf];go_wp2_with fail;go_ret;exact NO.out _ (yD _ _) _ R.out (.inr rfl)
    .have n2:(xw==2)=false:=by simp[h2]
     have R:=AA (show res=false by rw[cq.out];simp[h0,h1,h2]);clear h0 h1 h2;go_wp2_with fail;go_ret;exact NO.out _ (yD _ _) _ R.out (.inr rfl)
theorem Yn(ks:List Int)(x:Bk):(F6 ks x).length=ks.length:=by
 unfold F6
 split
 .simp
 .rfl
theorem Yo{ks:List Int}{x:Bk}(hl:ks.length=16)(hx:x.w=2->0<=x.a/\x.a<=15)(s:Nat):nth (F6 ks x) s=nth ks s+(EC (Cu s x):Int):=by
 unfold F6 Cu
 by_cases h:x.w=2
 .rw[if_pos h]
  have:=hx h;unfold nth;rw[xR,we]
  by_cases e:x.a.toNat=s
  .subst e
   have e2:x.a=((x.a.toNat:Nat):Int):=by omega
   have hb:EC (decide (x.w=2)&&decide (x.a=((x.a.toNat:Nat):Int)))=1:=by rw[<-e2];simp[h,EC]
   rw[if_pos rfl,if_pos (by omega),hb];simp
  .have hb:EC (decide (x.w=2)&&decide (x.a=(s:Int)))=0:=by
    have:x.a≠(s:Int):=by omega
    simp[this,EC]
   rw[if_neg e,hb];simp[xR]
 .rw[if_neg h]
  have hb:EC (decide (x.w=2)&&decide (x.a=(s:Int)))=0:=by simp[h,EC]
  rw[hb];simp
theorem Ym{l:List Bk}(hx:∀x∈l,x.w=2->0<=x.a/\x.a<=15){ks:List Int}(hl:ks.length=16)(s:Nat):(l.foldl F6 ks).length=16/\nth (l.foldl F6 ks) s=nth ks s+(Bz l s:Int):=by
 induction l generalizing ks with
 |nil=>exact⟨hl,by simp[Bz]⟩
 |cons x l ih=>
  have I:=ih (λy hy=>hx y (List.mem_cons_of_mem _ hy)) (ks:=F6 ks x) (by rw[Yn,hl]);refine⟨I.1,?_⟩;rw[yy,I.2,Yo hl (hx x (List.mem_cons_self ..))];unfold Bz;rw[xC];unfold EC
  split<;>simp_all<;>omega
theorem Wh{P:AR}(hl:P.zY.length=16)(hs:(yC 16).all (Do P)=true){n:Nat}(hn:n<16):GL P n=Eb P n:=by
 unfold GL Eb
 by_cases h0:(AB P.zY n).w=0
 .rw[if_pos h0,if_pos h0]
 rw[if_neg h0,if_neg h0]
 by_cases h1:(AB P.zY n).w=1
 .rw[if_pos h1,if_pos h1]
 rw[if_neg h1,if_neg h1]
 by_cases h2:(AB P.zY n).w=2
 .rw[if_pos h2,if_pos h2]
  cases bf:Be (AB P.zY n).a 0 15
  .simp
  .have hv:=Ab.1 bf
   have ho:=yd.1 hs (AB P.zY n).a.toNat (xU.2 (by omega));unfold Do at ho;rw[decide_eq_true_eq] at ho;have hm:AB P.zY n∈P.zY:=by have:P.zY[n]?=some (AB P.zY n):=A1 (by omega);exact ye this
   have fp:0<Bz P.zY (AB P.zY n).a.toNat:=by
    unfold Bz;rw[List.countP_pos_iff];refine⟨_,hm,?_⟩;unfold Cu;have:(AB P.zY n).a=(((AB P.zY n).a.toNat:Nat):Int):=by omega
    rw[<-this];simp[h2]
   cases he:(AH P.swap (AB P.zY n).a.toNat).isEmpty
   .simp
   .rw[he,if_pos rfl] at ho;omega
 .rw[if_neg h2,if_neg h2]
theorem Q9(P:AR):Bg P=(Cl P.zV&&FE P.swap&&decide (P.zY.length=16)&&Bt P&&Gb P.zV&&(yC 16).all (Eb P)&&(yC 16).all (Do P)&&(Be P.zR 0 15&&Be P.zU 1 6&&decide ((Ac P.zY 1:Int)<=P.zU))):=by
 unfold Bg
 by_cases hl:P.zY.length=16
 .cases hs:(yC 16).all (Do P)
  .simp
  .have:(yC 16).all (GL P)=(yC 16).all (Eb P):=by
    rw[Bool.eq_iff_iff,yd,yd];exact⟨λh n hn=>by rw[<-Wh hl hs (xU.1 hn)];exact h n hn,λh n hn=>by rw[Wh hl hs (xU.1 hn)];exact h n hn⟩
   rw[this];cases Cl P.zV<;>cases FE P.swap<;>cases Gb P.zV<;>cases Bt P<;>cases(yC 16).all (Eb P)<;>simp[hl,Bool.and_assoc]
 .simp[hl]
end Go.Proofs.YtpdjjjdkhedibaaGreatDoor
