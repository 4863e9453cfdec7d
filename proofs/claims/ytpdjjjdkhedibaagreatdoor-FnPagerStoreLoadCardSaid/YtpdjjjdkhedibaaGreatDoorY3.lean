/-
  Packed:36 texts.
-/
import Derived.Test.YtpdjjjdkhedibaaGreatDoorY1
import Derived.Test.YtpdjjjdkhedibaaGreatDoorY2
import Derived.Deep.DeepCutAuto
set_option linter.unusedVariables false
set_option linter.unusedSimpArgs false
set_option maxHeartbeats 16000000
set_option maxRecDepth 100000
open Go Go.Proofs.YtpdjjjdkhedibaaGreatDoor
open And renaming intro->xU
open Bool renaming and_eq_true->yu,eq_iff_iff->wF,or_eq_true->xE
open Go.Lib renaming toList_data->xj
open Go.Region renaming waitsFor->xV
open Go.RowKit.Below renaming refl->yD
open Go.Value renaming int->xY,oneCell'->xG,slice->xi
open Go.Value.slice renaming injEq->xH
open Go.World renaming block_lt_of_cell?->yA,ownsRow_nil->xh,size_alloc->xx
open Go.World.ownsRow renaming cellAt->xB,frozenAt->xJ,lt->yk,stored->wJ
open Go renaming bodyPost_ret->yr,cell_of_row->ym,heap_alloc_new->yi,heap_setCell_same->yq
open Int renaming toNat_natCast->yd
open List renaming all_eq_false->wP,all_eq_true->xZ,any_eq_true->vP,countP_cons->wZ,countP_le_length->vW,count_le_length->vw,filter_append->wm,filter_cons->vN,filter_nil->uD,findIdx_eq->tH,foldl_append->uZ,foldl_cons->yz,foldl_nil->yx,getD_eq_getElem?_getD->xO,getElem?_eq_getElem->yw,getElem?_eq_some_iff->yt,getElem?_map->xm,getElem?_of_mem->xq,getElem?_replicate->vL,getElem?_set->vV,getElem?_take->ve,getElem_of_mem->wS,isPrefixOf_iff_prefix->tL,length_append->yj,length_drop->wT,length_filter_le->xy,length_nil->wU,length_set->xP,length_singleton->xI,length_take->xT,map_append->xC,map_set->vm,mem_flatMap->wK,mem_of_getElem?->yh,mem_range->xS,range->yC,range_succ->xt,replicate->xR,take_length->xo,take_of_length_le->wH
open List.range renaming loop->yy
open Nat renaming add_zero->xK,eq_zero_or_pos->wj,le_refl->yv,le_succ->wu,le_trans->yB,lt_of_lt_of_le->xW,lt_succ_iff_lt_or_eq->xl,mul_one->wB,not_lt_zero->xN,zero_add->vt,zero_le->yg
variable {T cg gq j k n:Nat} {w0 w2:World} {cv ev iv lv mv qv sv v:Value} {L:List Value} {fs:List Nat}
namespace Go.Proofs.YtpdjjjdkhedibaaGreatDoor
open Go.Proofs.Tryz
open Go.RowKit
def Dn(k:AO):Prop:=IS k.zZ/\∀j,j<k.zX.length->Db (AJ k.zX j).zT
theorem Ny(m i e c:Value)(k:AO)(w:World)(h:Mu w m i e c k)(hs:Dn k):
 Calls prog 51 #[.agg #[m,i,e,c]] w λe w'=>e=.returned (.bool (Cr k))/\Below w.heap.size w w':=by
 obtain⟨D,N,h3,h4⟩:=h;obtain⟨N0,bq⟩:=Dd w (.cells #[m,i,e,c] 28);have du:=AW N0;replace D:=D.below bq;replace N:=N.below bq;replace h3:=h3.below bq;replace h4:=h4.below bq;have Hs:=AA hs;obtain⟨am,cm,rfl,_⟩:=D.open;obtain⟨ai,ci,rfl,_,_⟩:=N.shape;obtain⟨ae,ce,rfl,fj,kI,ji⟩:=h3.open;obtain⟨ac,cc,rfl,pL,nO⟩:=h4.shape;obtain⟨x0,x1,x2,x3⟩:=AE N0;go_in;go_wp2_with fail;generalize w.alloc _=W0 at*;have ca:=AA bq;have HN:=AA N0;have H1:=AA D;have H2:=AA N;have HE:=AA ji;have H4:=AA h4;have mB:=AA du;clear hs h3 ji D N h4 N0 bq;have C1:=AA (λW (K:Below W0.heap.size W0 W)=>OA _ k.mem W (H1.out.below K));have C2:=AA (λW (K:Below W0.heap.size W0 W)=>Fu _ k.zZ W (BK.below H2.out K) Hs.out.1);have C3:=AA (λW (K:Below W0.heap.size W0 W)=>JE _ k.zW W (BK.below H4.out K));have J:=yD W0.heap.size W0;cases e1:Bu k.mem
 .have S:=AA (ZL e1)
  have T:=AA e1;clear e1 x1 x2 x3;refine(C1.out _ J).mono ?_;rintro e w1 ⟨rfl,bx⟩;rw[T.out];go_wp2_with fail;go_ret;exact⟨AH S.out.symm,ca.out.trans (bx.mono ca.out.size)⟩
 .have T1:=AA e1
  clear e1 x0 x1 x2 x3 du;refine(C1.out _ J).mono ?_;rintro e w1 ⟨rfl,bx⟩;rw[T1.out];replace J:=bx;clear bx;have x1:=(AE (AB HN.out J)).2.1;go_wp2_with fail;cases e2:BP k.zZ
  .have S:=AA (WP e2)
   have T:=AA e2;clear e2;refine(C2.out _ J).mono ?_;rintro e w1 ⟨rfl,bx⟩;rw[T.out];replace J:=J.trans (bx.mono J.size);go_wp2_with fail;go_ret;exact⟨AH S.out.symm,ca.out.trans (J.mono ca.out.size)⟩
  .have T2:=AA e2
   clear e2 x1;refine(C2.out _ J).mono ?_;rintro e w1 ⟨rfl,bx⟩;rw[T2.out];replace J:=J.trans (bx.mono J.size);clear bx;have x3:=(AE (AB HN.out J)).2.2.2;go_wp2_with fail;cases e3:BT k.zW
   .have S:=AA (WO e3)
    have T:=AA e3;clear e3;refine(C3.out _ J).mono ?_;rintro e w1 ⟨rfl,bx⟩;rw[T.out];replace J:=J.trans (bx.mono J.size);go_wp2_with fail;go_ret;exact⟨AH S.out.symm,ca.out.trans (J.mono ca.out.size)⟩
   .have T3:=AA e3
    clear e3 x3;refine(C3.out _ J).mono ?_;rintro e w1 ⟨rfl,bx⟩;rw[T3.out];replace J:=J.trans (bx.mono J.size);clear bx;have x0:=(AE (AB HN.out J)).1;have x1:=(AE (AB HN.out J)).2.1;have x2:=(AE (AB HN.out J)).2.2.1
    by_cases e4:k.zX.length=3
    .have T4:=AA e4
     have n4:((k.zX.length:Int) !=3)=false:=by simp;omega
     have dp:=AA (A1.1 T2.out).1;have C:=AA (λW (K:Below W0.heap.size W0 W)=>Ur _ _ k.mem k.zZ W (H1.out.below K) T1.out (BK.below H2.out K) dp.out);clear e4;go_wp2_with fail;refine(C.out _ J).mono ?_;rintro e w1 ⟨v',rfl,hO,bx⟩;rw[<-Sw] at hO;replace hO:=BU hO J.size;replace J:=J.trans (bx.mono J.size);clear bx x0 x1 x2;have x2:=(AE (AB HN.out J)).2.2.1;obtain⟨gr,dP,rfl,jt,js⟩:=Jd hO (by rw[EA];omega);have jD:Hid (AF W0.heap.size w1 (.slice (some ⟨gr,0,none⟩) 12 dP) (Es k 0)):=AA (by have:=hO;rw[EA] at this;exact this);rw[EA];clear hO js;go_wp2_with fail;have bx:=AA J;clear x2 J n4;go_loopw [43] (λi wr=>∃j:Nat,j<=k.zX.length/\i=.int .i64 j/\(∀j',j'<j->ED k (AJ k.zX j')=true)/\AF W0.heap.size wr (.slice (some ⟨gr,0,none⟩) 12 dP) (Es k j)/\Below W0.heap.size W0 wr) (λi _=>k.zX.length - (intOf i).toNat)
     exact⟨0,yg _,rfl,λj E=>absurd E (xN _),jD.out,bx.out⟩
     obtain⟨j,E,rfl,ab,hO,bf⟩:=hrel;have au:=AA ab;clear ab
     by_cases bk:j<k.zX.length
     .obtain⟨b,bp,ua,uc,rfl,bu,D0,D1,RR⟩:=HE.out j bk
      replace D0:=(bf.cell (p:=⟨b,bp+j*2,none⟩) bu).trans D0;replace D1:=(bf.cell (p:=⟨b,bp+j*2+1,none⟩) bu).trans D1;obtain⟨h2,eO⟩:=Dd wr (.cells #[.slice ua (AJ k.zX j).zT.length uc,.int .i64 (AJ k.zX j).root] 74);have HO:=AA (AF.below hO eO);have lU:(j:Int)<k.zX.length:=by omega
      have j3:j<3:=by have:=T4.out;omega
      have pB:=AA E;clear hO E;go_wp2_with fail;generalize wr.alloc _=wa at*;have dO:=bf.trans (eO.mono bf.size);have y0:wa.cell? ⟨wr.heap.size,0,none⟩=some (.slice ua (AJ k.zX j).zT.length uc):=ym _ _ 0 _ _ _ h2;have y1:wa.cell? ⟨wr.heap.size,1,none⟩=some (.int .i64 (AJ k.zX j).root):=ym _ _ 1 _ _ _ h2;have fh:=AW h2;have dN:=xW mB.out dO.size;have x0:=(AE (AB HN.out dO)).1;have x1:=(AE (AB HN.out dO)).2.1;have cl:=AA dO;have HR:=AA RR;clear D0 D1 h2 eO bf dO RR;have hY:=λW (K:Below wa.heap.size wa W)=>OC _ (AJ k.zX j).zT W (BK.below (BK.below HR.out cl.out) K) (Hs.out.2 j bk)
      cases e5:BW (AJ k.zX j).zT
      .rw[e5] at hY
       have CR:=AA hY;have CF:=AA True.intro;have S:=AA (NG bk (show ED k (AJ k.zX j)=false by simp[ED,e5]));clear hY e5;refine Aa 35 170 [.p wr.heap.size 0,.v (.slice ua (AJ k.zX j).zT.length uc),.b false,.b true,.b true,.u,.u,.u,.u,.u,.u,.u,.u,.u,.u,.u,.u,.u,.u,.u,.u,.u,.u,.u,.b true,.b true,.u,.u,.u,.u,.u,.u,.u,.u,.u] (λ_ _ _=>True) ?_ ?_
       .intro i hi o O a H Z A Y hW z
        match i,hi with
        |0,_|3,_|4,_|24,_|25,_=>exact sP O z Z A
        |1,_=>exact sL O z Z A (hl:=Li (bc Y fh y0))
        |2,_=>exact sD O z Z A (CR.out _ Y)
        |5,_|6,_|7,_|8,_|9,_|10,_|12,_|13,_|14,_|15,_|16,_|17,_|18,_|19,_|20,_|21,_|22,_|23,_|26,_|27,_|28,_|29,_|30,_|31,_|32,_|33,_|34,_=>exact sB O z A
        |11,_=>obtain rfl:=yF O;have d8:(a.tmps[55]?.getD undef)=undef:=Ba A 8;clear A Z;exact AX.un rfl rfl d8 (z.out _ _ rfl (yD _ _))
        |_+35,hq=>omega
       .intro L H hR Y
        have er:(L 25)=.bool true:=BS hR 25;have ep:(L 34)=undef:=BS hR 34;clear hR;simp only[Ak,Ah,yC,yy,yz,yx,er,ep];simp;clear er ep;have cd:=cl.out.trans (Y.mono cl.out.size);clear Y;go_wp2_with fail;go_ret;exact⟨AH S.out.symm,ca.out.trans (cd.mono ca.out.size)⟩
      .rw[e5] at hY
       have CR:=AA hY;have E5:=AA e5;clear hY e5
       by_cases e6:(AJ k.zX j).root= -1
       .have E6:=AA e6
        have t6:((AJ k.zX j).root != -1)=false:=by simp[e6]
        rw[e6] at y1;have pe:((-1:Int) != -1)=false:=rfl;have CF:=AA True.intro;have CX:=AA (λW (K:Below wa.heap.size wa W)=>Oy _ k.mem (-1) W ((H1.out.below cl.out).below K) (by omega));have ga:=x1;have CA:=AA (λW (K:Below wa.heap.size wa W) v2 ts (N:Ax W v2 (Az ts)) (hm:∀g,g∈ts↔g∈Be k.mem (-1))=>LV w.heap.size _ v2 _ (AJ k.zX j).zT ts k.zZ W ((K.cell (p:=⟨w.heap.size,1,none⟩) dN).trans ga) (BK.below (BK.below HR.out cl.out) K) (BK.below (BK.below H2.out cl.out) K) N (λf hf=>by have:=(De.1 ((hm f).1 hf)).1;omega));clear ga e6;replace CA:=AA (λW (K:Below wa.heap.size wa W) v2 ts (N:Ax W v2 (Az ts)) (hm:∀g,g∈ts↔g∈Be k.mem (-1))=>by have:=CA.out W K v2 ts N hm;rw[GH hm] at this;exact this);have g9:Hid (BM k.zZ (Be k.mem (-1)) (AJ k.zX j).zT=true):=AA (by simp[BM,Be]);rw[g9.out] at CA;have S:=AA (show ED k (AJ k.zX j)=true by simp only[ED,E5.out,E6.out,g9.out];rfl);have vs:=AA (XW bk (show(AJ k.zX j).root<0 by rw[E6.out];omega));clear g9;refine BR 35 170 [.p wr.heap.size 0,.v (.slice ua (AJ k.zX j).zT.length uc),.b true,.b false,.b false,.p wr.heap.size 1,.i (-1),.b false,.b false,.u,.u,.u,.u,.u,.u,.u,.u,.u,.u,.u,.u,.u,.u,.b false,.b false,.b false,.p wr.heap.size 0,.v (.slice ua (AJ k.zX j).zT.length uc),.p w.heap.size 0,.v (.slice am k.mem.length cm),.p wr.heap.size 1,.i (-1),.z,.b true,.b false] (λR vv ww=>match R with
         |32=>Gj wa.heap.size k.mem (-1) ww vv
         |_=>True) ?_ ?_ ?_
        .intro i hi o O a H Z A Y hW z
         have bs:=bc Y fh y0;have br:=bc Y fh y1;have bB:=bc Y dN x0
         match i,hi with
         |0,_|3,_|4,_|5,_|8,_|23,_|24,_|25,_|26,_|28,_|30,_|34,_=>exact sP O z Z A
         |1,_|27,_=>exact sL O z Z A (hl:=Li ‹_›)
         |2,_=>exact sD O z Z A (CR.out _ Y)
         |6,_|31,_=>exact sL O z Z A (hl:=FT ‹_›)
         |9,_|10,_|12,_|13,_|14,_|15,_|16,_|17,_|18,_|19,_|20,_|21,_|22,_=>exact sB O z A
         |29,_=>exact sL O z Z A (hl:=F9 ‹_›)
         |32,_=>exact sC O z Z A (CX.out _ Y) (by rintro e w_ ⟨v',ts,rfl,hO,dj,_,bl⟩;exact⟨_,rfl,⟨ts,BU hO Y.size,dj⟩,bl⟩)
         |7,_=>clear bs br bB;obtain rfl:=yF O;have d6:(a.tmps[53]?.getD undef)=.int .i64 (-1):=Ba A 6;have d4:(a.tmps[51]?.getD undef)=.bool false:=Ba A 4;clear A Z;refine AX.yes rfl rfl d4 ?_;go_simp;exact z.out _ _ rfl (yD _ _)
         |11,_=>clear bs br bB;obtain rfl:=yF O;have d8:(a.tmps[55]?.getD undef)=.bool false:=Ba A 8;clear A Z;exact AX.no rfl rfl d8 (z.out _ _ rfl (yD _ _))
         |33,_=>clear bs br bB;obtain rfl:=yF O;have e1:a.tmps[1]?.getD undef=.pointer (some ⟨w.heap.size,0,none⟩):=eg (PI Z 1);have n6:(a.tmps[74]?.getD undef)=.slice ua (AJ k.zX j).zT.length uc:=Ba A 27;have iS:Gj wa.heap.size k.mem (-1) H (a.tmps[79]?.getD undef):=Ba A 32;have k9:(a.tmps[72]?.getD undef)=.bool false:=Ba A 25;clear A Z;generalize e79:a.tmps[79]?.getD undef=v2 at iS;obtain⟨ts,hO,dj⟩:=iS;have lD:=CA.out H Y v2 ts (AF.rd hO) dj;refine AX.yes rfl rfl k9 ?_;go_simp;refine lD.mono ?_;rintro e w_ ⟨rfl,bl⟩;exact z.out _ _ rfl bl
         |_+35,hq=>omega
        .intro i hi vv wz fx cr hz
         match i,hi with
         |32,_=>exact(Gj.below hz cr)
         |0,_|1,_|2,_|3,_|4,_|5,_|6,_|7,_|8,_|9,_|10,_|11,_|12,_|13,_|14,_|15,_|16,_|17,_|18,_|19,_|20,_|21,_|22,_|23,_|24,_|25,_|26,_|27,_|28,_|29,_|30,_|31,_|33,_|34,_=>exact hz
         |_+35,hq=>omega
        .intro L H hR Y
         have er:(L 25)=.bool false:=BS hR 25;have ep:(L 34)=.bool false:=BS hR 34;clear hR;simp only[Ak,Ah,yC,yy,yz,yx,er,ep];simp;clear er ep;have cd:=cl.out.trans (Y.mono cl.out.size);replace y1:=(Y.cell (p:=⟨wr.heap.size,1,none⟩) fh).trans y1;have em:=AA (AF.below HO.out Y);clear Y x0 x1 y0;go_wp2_with fail;go_roundw;exact⟨j+1,by omega,by go_num,Al au.out S.out,by rw[vs.out];exact em.out,cd⟩;simp[intOf];omega
       .have t6:((AJ k.zX j).root != -1)=true:=by simp[e6]
        have gS:=λW (_:Below wa.heap.size wa W)=>BJ (FD (AJ k.zX j).root W)
        cases e7:BZ (AJ k.zX j).root 0 11
        .rw[e7] at gS
         have CF:=AA gS;have S:=AA (NG bk (show ED k (AJ k.zX j)=false by simp[ED,e6,e7]));clear gS e6 e7;refine Aa 35 170 [.p wr.heap.size 0,.v (.slice ua (AJ k.zX j).zT.length uc),.b true,.b false,.b false,.p wr.heap.size 1,.i ((AJ k.zX j).root),.b true,.b true,.p wr.heap.size 1,.i ((AJ k.zX j).root),.b false,.b true,.b true,.u,.u,.u,.u,.u,.u,.u,.u,.b true,.b true,.b true,.b true,.u,.u,.u,.u,.u,.u,.u,.u,.u] (λ_ _ _=>True) ?_ ?_
         .intro i hi o O a H Z A Y hW z
          have bs:=bc Y fh y0;have br:=bc Y fh y1
          match i,hi with
          |0,_|3,_|4,_|5,_|8,_|9,_|12,_|13,_|22,_|23,_|24,_|25,_=>exact sP O z Z A
          |1,_=>exact sL O z Z A (hl:=Li ‹_›)
          |2,_=>exact sD O z Z A (CR.out _ Y)
          |6,_|10,_=>exact sL O z Z A (hl:=FT ‹_›)
          |11,_=>exact sD O z Z A (CF.out _ Y)
          |14,_|15,_|16,_|17,_|18,_|19,_|20,_|21,_|26,_|27,_|28,_|29,_|30,_|31,_|32,_|33,_|34,_=>exact sB O z A
          |7,_=>clear bs br;obtain rfl:=yF O;have d6:(a.tmps[53]?.getD undef)=.int .i64 ((AJ k.zX j).root):=Ba A 6;have d4:(a.tmps[51]?.getD undef)=.bool false:=Ba A 4;clear A Z;refine AX.yes rfl rfl d4 ?_;go_simp;exact z.out _ _ rfl (yD _ _)
          |_+35,hq=>omega
         .intro L H hR Y
          have er:(L 25)=.bool true:=BS hR 25;have ep:(L 34)=undef:=BS hR 34;clear hR;simp only[Ak,Ah,yC,yy,yz,yx,er,ep];simp;clear er ep;have cd:=cl.out.trans (Y.mono cl.out.size);clear Y;go_wp2_with fail;go_ret;exact⟨AH S.out.symm,ca.out.trans (cd.mono ca.out.size)⟩
        .rw[e7] at gS
         obtain⟨r,hr⟩:∃r:Nat,(AJ k.zX j).root=(r:Int):=⟨(AJ k.zX j).root.toNat,by have:=(AZ.1 e7).1;omega⟩
         have dY:r<12:=by have:=(AZ.1 e7).2;omega
         have E7:=AA (xU e6 e7);rw[hr] at gS t6 y1;have CF:=AA gS;have Hr:=AA hr;clear gS e6 e7 hr;have ng:(r:Int)<k.zZ.length:=by have:=dp.out;omega
         obtain⟨a9,c9,ev,_,_,jk⟩:=BK.open A0 (by decide) (BK.below H2.out cl.out);cases ev;obtain⟨bi,av,rfl,ck,kZ,_,_⟩:=jk.zP (show r<k.zZ.length by have:=dp.out;omega);clear jk
         by_cases e8:(zS k.zZ r).k=3
         .have t8:((zS k.zZ r).k !=3)=false:=by simp[e8]
          have CX:=AA (λW (K:Below wa.heap.size wa W)=>Ox _ k.mem r W ((H1.out.below cl.out).below K) T1.out dY);have ga:=x1;have CA:=AA (λW (K:Below wa.heap.size wa W) v2 ts (N:Ax W v2 (Az ts)) (hm:∀g,g∈ts↔g∈Be k.mem (r:Int))=>by have:=LV w.heap.size _ v2 _ (AJ k.zX j).zT ts k.zZ W ((K.cell (p:=⟨w.heap.size,1,none⟩) dN).trans ga) (BK.below (BK.below HR.out cl.out) K) (BK.below (BK.below H2.out cl.out) K) N (λf hf=>by have:=zw (root:=(r:Int)) (by omega) f ((hm f).1 hf);have:=dp.out;omega);rw[GH hm] at this;exact this);clear ga;have E8:=AA e8;clear e8;generalize g9:BM k.zZ (Be k.mem (r:Int)) (AJ k.zX j).zT=bb at CA;have mN:=AA g9;clear g9;refine BR 35 170 [.p wr.heap.size 0,.v (.slice ua (AJ k.zX j).zT.length uc),.b true,.b false,.b false,.p wr.heap.size 1,.i ((r:Int)),.b true,.b true,.p wr.heap.size 1,.i ((r:Int)),.b true,.b false,.b false,.p w.heap.size 1,.v (.slice (some ⟨bi,av,none⟩) k.zZ.length ci),.p wr.heap.size 1,.i ((r:Int)),.p bi (av+r*3),.p bi (av+r*3),.i ((zS k.zZ r).k),.b false,.b false,.b false,.b false,.b false,.p wr.heap.size 0,.v (.slice ua (AJ k.zX j).zT.length uc),.p w.heap.size 0,.v (.slice am k.mem.length cm),.p wr.heap.size 1,.i ((r:Int)),.z,.b bb,.b (!bb)] (λR vv ww=>match R with
           |32=>Gj wa.heap.size k.mem ((r:Int)) ww vv
           |_=>True) ?_ ?_ ?_
          .intro i hi o O a H Z A Y hW z
           have bs:=bc Y fh y0;have br:=bc Y fh y1;have bB:=bc Y dN x1;have cN:=bc Y ck kZ;have eU:=bc Y dN x0
           match i,hi with
           |0,_|3,_|4,_|5,_|8,_|9,_|12,_|13,_|14,_|16,_|19,_|22,_|23,_|24,_|25,_|26,_|28,_|30,_|34,_=>exact sP O z Z A
           |1,_|27,_=>exact sL O z Z A (hl:=Li ‹_›)
           |2,_=>exact sD O z Z A (CR.out _ Y)
           |6,_|10,_|17,_|20,_|31,_=>exact sL O z Z A (hl:=FT ‹_›)
           |11,_=>exact sD O z Z A (CF.out _ Y)
           |15,_=>exact sL O z Z A (hl:=GY ‹_›)
           |18,_=>exact sI O z Z A (hr:=by clear A Z z;go_simp)
           |29,_=>exact sL O z Z A (hl:=F9 ‹_›)
           |32,_=>exact sC O z Z A (CX.out _ Y) (by rintro e w_ ⟨v',ts,rfl,hO,dj,_,bl⟩;exact⟨_,rfl,⟨ts,BU hO Y.size,dj⟩,bl⟩)
           |7,_=>clear bs br bB cN eU;obtain rfl:=yF O;have d6:(a.tmps[53]?.getD undef)=.int .i64 r:=Ba A 6;have d4:(a.tmps[51]?.getD undef)=.bool false:=Ba A 4;clear A Z;refine AX.yes rfl rfl d4 ?_;go_simp;exact z.out _ _ rfl (yD _ _)
           |21,_=>clear bs br bB cN eU;obtain rfl:=yF O;have n8:(a.tmps[67]?.getD undef)=.int .i64 ((zS k.zZ r).k):=Ba A 20;have hA:(a.tmps[60]?.getD undef)=.bool false:=Ba A 13;clear A Z;refine AX.yes rfl rfl hA ?_;go_simp;exact z.out _ _ rfl (yD _ _)
           |33,_=>clear bs br bB cN eU;obtain rfl:=yF O;have e1:a.tmps[1]?.getD undef=.pointer (some ⟨w.heap.size,0,none⟩):=eg (PI Z 1);have n6:(a.tmps[74]?.getD undef)=.slice ua (AJ k.zX j).zT.length uc:=Ba A 27;have iS:Gj wa.heap.size k.mem ((r:Int)) H (a.tmps[79]?.getD undef):=Ba A 32;have k9:(a.tmps[72]?.getD undef)=.bool false:=Ba A 25;clear A Z;generalize e79:a.tmps[79]?.getD undef=v2 at iS;obtain⟨ts,hO,dj⟩:=iS;have lD:=CA.out H Y v2 ts (AF.rd hO) dj;refine AX.yes rfl rfl k9 ?_;go_simp;refine lD.mono ?_;rintro e w_ ⟨rfl,bl⟩;exact z.out _ _ rfl bl
           |_+35,hq=>omega
          .intro i hi vv wz fx cr hz
           match i,hi with
           |32,_=>exact(Gj.below hz cr)
           |0,_|1,_|2,_|3,_|4,_|5,_|6,_|7,_|8,_|9,_|10,_|11,_|12,_|13,_|14,_|15,_|16,_|17,_|18,_|19,_|20,_|21,_|22,_|23,_|24,_|25,_|26,_|27,_|28,_|29,_|30,_|31,_|33,_|34,_=>exact hz
           |_+35,hq=>omega
          .intro L H hR Y
           have er:(L 25)=.bool false:=BS hR 25;have ep:(L 34)=.bool (!bb):=BS hR 34;clear hR;simp only[Ak,Ah,yC,yy,yz,yx,er,ep];simp;clear er ep;have cd:=cl.out.trans (Y.mono cl.out.size);replace y1:=(Y.cell (p:=⟨wr.heap.size,1,none⟩) fh).trans y1;have em:=AF.below HO.out Y;clear Y x0 x1 y0 kZ;cases bb
           .have S:=AA (NG bk (show ED k (AJ k.zX j)=false by simp only[ED,Hr.out,mN.out,Bool.and_false]))
            clear em;go_wp2_with fail;go_ret;exact⟨AH S.out.symm,ca.out.trans (cd.mono ca.out.size)⟩
           .have S:=AA (show ED k (AJ k.zX j)=true by
             have e7:=E7.out.2;rw[Hr.out] at e7;simp only[ED,E5.out,Hr.out,mN.out,e7,yd,E8.out];simp)
            have vs:=AA (VV bk Hr.out dY);obtain⟨s1,s2⟩:=Qe (k:=k) (j:=j) T1.out T4.out dY;have bC:H.ownsRow W0.heap.size 3 1 (.slice (some ⟨gr,0,none⟩) 12 dP) 12 ((Es k j).map (xY .i64)):=by have:=em;unfold AF at this;rwa [EA] at this
            have C:=(bC.cellAt r (by omega)).trans (Fh (xs:=Es k j) (by rw[EA];exact dY));have Fr:=bC.frozenAt r;have S2:=AA (bC.stored r (.int .i64 (nth (Es k j) r+1)));have r0:(0:Int)<=r:=by omega
            have ph:(r:Int)<12:=by omega
            have nF:=jt;have mC:Hid (W0.heap.size<=gr):=AA (bC.lt gr rfl).1;clear em bC;generalize nth (Es k j) r=nn at*;go_wp2_with fail;go_roundw
            case rel=>refine⟨j+1,by omega,by go_num,Al au.out S.out,?_,AM cd S2.out.2 mC.out cd.size⟩;rw[vs.out];unfold AF;rw[xP,EA,vm];exact S2.out.1
            case measure=>simp[intOf];omega
         .have t8:((zS k.zZ r).k !=3)=true:=by simp[e8]
          have S:=AA (NG bk (show ED k (AJ k.zX j)=false by simp[ED,Hr.out,e8]));clear e8;refine Aa 35 170 [.p wr.heap.size 0,.v (.slice ua (AJ k.zX j).zT.length uc),.b true,.b false,.b false,.p wr.heap.size 1,.i ((r:Int)),.b true,.b true,.p wr.heap.size 1,.i ((r:Int)),.b true,.b false,.b false,.p w.heap.size 1,.v (.slice (some ⟨bi,av,none⟩) k.zZ.length ci),.p wr.heap.size 1,.i ((r:Int)),.p bi (av+r*3),.p bi (av+r*3),.i ((zS k.zZ r).k),.b true,.b true,.b true,.b true,.b true,.u,.u,.u,.u,.u,.u,.u,.u,.u] (λ_ _ _=>True) ?_ ?_
          .intro i hi o O a H Z A Y hW z
           have bs:=bc Y fh y0;have br:=bc Y fh y1;have bB:=bc Y dN x1;have cN:=bc Y ck kZ
           match i,hi with
           |0,_|3,_|4,_|5,_|8,_|9,_|12,_|13,_|14,_|16,_|19,_|22,_|23,_|24,_|25,_=>exact sP O z Z A
           |1,_=>exact sL O z Z A (hl:=Li ‹_›)
           |2,_=>exact sD O z Z A (CR.out _ Y)
           |6,_|10,_|17,_|20,_=>exact sL O z Z A (hl:=FT ‹_›)
           |11,_=>exact sD O z Z A (CF.out _ Y)
           |15,_=>exact sL O z Z A (hl:=GY ‹_›)
           |18,_=>exact sI O z Z A (hr:=by clear A Z z;go_simp)
           |26,_|27,_|28,_|29,_|30,_|31,_|32,_|33,_|34,_=>exact sB O z A
           |7,_=>clear bs br bB cN;obtain rfl:=yF O;have d6:(a.tmps[53]?.getD undef)=.int .i64 r:=Ba A 6;have d4:(a.tmps[51]?.getD undef)=.bool false:=Ba A 4;clear A Z;refine AX.yes rfl rfl d4 ?_;go_simp;exact z.out _ _ rfl (yD _ _)
           |21,_=>clear bs br bB cN;obtain rfl:=yF O;have n8:(a.tmps[67]?.getD undef)=.int .i64 ((zS k.zZ r).k):=Ba A 20;have hA:(a.tmps[60]?.getD undef)=.bool false:=Ba A 13;clear A Z;refine AX.yes rfl rfl hA ?_;go_simp;exact z.out _ _ rfl (yD _ _)
           |_+35,hq=>omega
          .intro L H hR Y
           have er:(L 25)=.bool true:=BS hR 25;have ep:(L 34)=undef:=BS hR 34;clear hR;simp only[Ak,Ah,yC,yy,yz,yx,er,ep];simp;clear er ep;have cd:=cl.out.trans (Y.mono cl.out.size);clear Y;go_wp2_with fail;go_ret;exact⟨AH S.out.symm,ca.out.trans (cd.mono ca.out.size)⟩
     .obtain rfl:j=k.zX.length:=by omega
      have mK:=AA (λj (E:j<3)=>au.out j (by have:=T4.out;omega));have nV:Hid (AF W0.heap.size wr (.slice (some ⟨gr,0,none⟩) 12 dP) (Es k 3)):=AA (by have:=hO;rwa [T4.out] at this);have x1:=(AE (AB HN.out bf)).2.1;have mC:Hid (gr<wr.heap.size):=AA (yk hO gr rfl).2;have bl:=AA bf;clear hO bf au;go_wp2_with fail;clear x1;obtain⟨wq,rfl⟩:∃wq:World,wq=wr:=⟨_,rfl⟩
      go_loopw [97] (λi wr=>∃f:Nat,f<=k.zZ.length/\i=.int .i64 f/\(∀f',f'<f->Dh k f'=true/\HZ k f'=true)/\AF W0.heap.size wr (.slice (some ⟨gr,0,none⟩) 12 dP) (Es k 3)/\Below W0.heap.size W0 wr) (λi _=>k.zZ.length - (intOf i).toNat)
      exact⟨0,yg _,rfl,λj E=>absurd E (xN _),nV.out,bl.out⟩
      obtain⟨f,hf,rfl,ab,hO,bf⟩:=hrel;have au:=AA ab;clear ab
      by_cases bk:f<k.zZ.length
      .obtain⟨a9,c9,ev,_,_,jk⟩:=BK.open A0 (by decide) (BK.below H2.out bf)
       cases ev;obtain⟨bi,av,rfl,ck,D0,D1,D2⟩:=jk.zP bk;obtain⟨h2,eO⟩:=Dd wr (.cells #[.int .i64 (zS k.zZ f).k,.string (zS k.zZ f).g,.int .i64 (zS k.zZ f).r] 92);have HO:=AA (AF.below hO eO);have lU:(f:Int)<k.zZ.length:=by omega
       have di:f<12:=by have:=dp.out;omega
       have dq:(f:Int)<12:=by omega
       clear hO jk;go_wp2_with fail;generalize wr.alloc _=wa at*;have dO:=bf.trans (eO.mono bf.size);have y0:wa.cell? ⟨wr.heap.size,0,none⟩=some (.int .i64 (zS k.zZ f).k):=ym _ _ 0 _ _ _ h2;have y2:wa.cell? ⟨wr.heap.size,2,none⟩=some (.int .i64 (zS k.zZ f).r):=ym _ _ 2 _ _ _ h2;have iE:=AW h2;have dN:=xW mB.out dO.size;have x0:=(AE (AB HN.out dO)).1;have x1:=(AE (AB HN.out dO)).2.1;have bC:wa.ownsRow W0.heap.size 3 1 (.slice (some ⟨gr,0,none⟩) 12 dP) 12 ((Es k 3).map (xY .i64)):=by have:=HO.out;unfold AF at this;rwa [EA] at this
       have iR:=(bC.cellAt f (by omega)).trans (Fh (xs:=Es k 3) (by rw[EA];exact di));have dd:=(bC.lt gr rfl).2;have cl:=AA dO;have eo:=λW (_:Below wa.heap.size wa W)=>BJ (Is (zS k.zZ f).k W)
       clear D0 D1 D2 h2 eO bf dO bC;cases e5:Bh (zS k.zZ f).k
       .rw[e5] at eo
        have CT:=AA eo;have TB:=AA (show Dh k f=true by simp[Dh,e5]);clear eo e5;refine Aa 23 170 [.p wr.heap.size 0,.i ((zS k.zZ f).k),.b false,.b false,.u,.u,.u,.u,.u,.u,.u,.u,.u,.u,.b false,.b false,.p wr.heap.size 2,.i ((zS k.zZ f).r),.s gr 12 dP,.i ((f:Int)),.p gr f,.i (nth (Es k 3) f),.b ((zS k.zZ f).r !=nth (Es k 3) f)] (λ_ _ _=>True) ?_ ?_
        .intro i hi o O a H Z A Y hW z
         have bs:=bc Y iE y0;have br:=bc Y iE y2;have bB:=bc Y dd iR
         match i,hi with
         |0,_|3,_|14,_|15,_|16,_|18,_|19,_=>exact sP O z Z A
         |1,_|17,_|21,_=>exact sL O z Z A (hl:=FT ‹_›)
         |2,_=>exact sD O z Z A (CT.out _ Y)
         |4,_|5,_|6,_|7,_|8,_|9,_|10,_|11,_|12,_|13,_=>exact sB O z A
         |20,_=>exact sI O z Z A (hr:=by clear A Z z;go_simp)
         |22,_=>clear bs br bB;obtain rfl:=yF O;have n9:(a.tmps[119]?.getD undef)=.int .i64 ((zS k.zZ f).r):=Ba A 17;have n7:(a.tmps[123]?.getD undef)=.int .i64 (nth (Es k 3) f):=Ba A 21;have gI:(a.tmps[117]?.getD undef)=.bool false:=Ba A 15;clear A Z;refine AX.yes rfl rfl gI ?_;go_simp;exact z.out _ _ rfl (yD _ _)
         |_+23,hq=>omega
        .intro L H hR Y
         have fQ:(L 15)=.bool false:=BS hR 15;have fP:(L 22)=.bool ((zS k.zZ f).r !=nth (Es k 3) f):=BS hR 22;clear hR;simp only[Ak,Ah,yC,yy,yz,yx,fQ,fP];simp;clear fQ fP;have cd:=cl.out.trans (Y.mono cl.out.size);have em:=AA (AF.below HO.out Y);clear Y x0 x1 y0 y2 iR;have RL:=Qd (k:=k) T4.out di;cases ee:((zS k.zZ f).r !=nth (Es k 3) f)
         .have S1:=AA (show HZ k f=true by rw[RL];simpa using ee)
          clear RL;go_wp2_with fail;go_roundw;exact⟨f+1,by omega,by go_num,Al au.out ⟨TB.out,S1.out⟩,em.out,cd⟩;simp[intOf];omega
         .have S:=AA (U6 di (show HZ k f=false by rw[RL];simpa using ee))
          clear RL;go_wp2_with fail;go_ret;exact⟨AH S.out.symm,ca.out.trans (cd.mono ca.out.size)⟩
       .rw[e5] at eo
        have CT:=AA eo;have eL:=λW (K:Below wa.heap.size wa W) v2 (N:BY W v2 [⟨#[]⟩])=>ZC _ _ v2 k.mem k.zZ f (zS k.zZ f).k [⟨#[]⟩] W ((H1.out.below cl.out).below K) T1.out (BK.below (BK.below H2.out cl.out) K) dp.out di e5 N
        cases e6:JN k.mem k.zZ f (zS k.zZ f).k [⟨#[]⟩]
        .rw[e6] at eL
         have CG:=AA eL;have S:=AA (ZM di (show Dh k f=false by simp[Dh,e5,e6]));clear eo e5 eL e6;refine BR 23 170 [.p wr.heap.size 0,.i ((zS k.zZ f).k),.b true,.b true,.p w.heap.size 0,.v (.slice am k.mem.length cm),.p w.heap.size 1,.v (.slice (some ⟨bi,av,none⟩) k.zZ.length ci),.i ((f:Int)),.p wr.heap.size 0,.i ((zS k.zZ f).k),.z,.b false,.b true,.b true,.b true,.u,.u,.u,.u,.u,.u,.u] (λR vv ww=>match R with
          |11=>BY ww vv [⟨#[]⟩]
          |_=>True) ?_ ?_ ?_
         .intro i hi o O a H Z A Y hW z
          have bs:=bc Y iE y0;have br:=bc Y dN x0;have bB:=bc Y dN x1
          match i,hi with
          |0,_|3,_|4,_|6,_|8,_|9,_|13,_|14,_|15,_=>exact sP O z Z A
          |1,_|10,_=>exact sL O z Z A (hl:=FT ‹_›)
          |2,_=>exact sD O z Z A (CT.out _ Y)
          |5,_=>exact sL O z Z A (hl:=F9 ‹_›)
          |7,_=>exact sL O z Z A (hl:=GY ‹_›)
          |16,_|17,_|18,_|19,_|20,_|21,_|22,_=>exact sB O z A
          |11,_=>clear bs br bB;obtain rfl:=yF O;have d3:(a.tmps[105]?.getD undef)=.bool true:=Ba A 3;clear A Z;refine AX.yes rfl rfl d3 ?_;go_simp;exact z.out _ _ (Rd.news _ #[.string ⟨#[]⟩] _ 1 1 rfl (by simp[maxLen])) (AI _ _)
          |12,_=>clear bs br bB;obtain rfl:=yF O;have d5:(a.tmps[107]?.getD undef)=.slice am k.mem.length cm:=Ba A 5;have d7:(a.tmps[109]?.getD undef)=.slice (some ⟨bi,av,none⟩) k.zZ.length ci:=Ba A 7;have d8:(a.tmps[110]?.getD undef)=.int .i64 f:=Ba A 8;have jL:(a.tmps[112]?.getD undef)=.int .i64 ((zS k.zZ f).k):=Ba A 10;have ew:BY H (a.tmps[113]?.getD undef) [⟨#[]⟩]:=Ba A 11;have d3:(a.tmps[105]?.getD undef)=.bool true:=Ba A 3;clear A Z;generalize e113:a.tmps[113]?.getD undef=v2 at ew;have gR:=CG.out H Y v2 ew;refine AX.yes rfl rfl d3 ?_;go_simp;refine gR.mono ?_;rintro e w_ ⟨rfl,bl⟩;exact z.out _ _ rfl bl
          |_+23,hq=>omega
         .intro i hi vv wz fx cr hz
          match i,hi with
          |11,_=>exact(BK.below hz cr)
          |0,_|1,_|2,_|3,_|4,_|5,_|6,_|7,_|8,_|9,_|10,_|12,_|13,_|14,_|15,_|16,_|17,_|18,_|19,_|20,_|21,_|22,_=>exact hz
          |_+23,hq=>omega
         .intro L H hR Y
          have fQ:(L 15)=.bool true:=BS hR 15;have fP:(L 22)=undef:=BS hR 22;clear hR;simp only[Ak,Ah,yC,yy,yz,yx,fQ,fP];simp;clear fQ fP;have cd:=cl.out.trans (Y.mono cl.out.size);clear Y x0 x1 y0 y2 iR;go_wp2_with fail;go_ret;exact⟨AH S.out.symm,ca.out.trans (cd.mono ca.out.size)⟩
        .rw[e6] at eL
         have CG:=AA eL;have TB:=AA (show Dh k f=true by simp[Dh,e6]);clear eo e5 eL e6;refine BR 23 170 [.p wr.heap.size 0,.i ((zS k.zZ f).k),.b true,.b true,.p w.heap.size 0,.v (.slice am k.mem.length cm),.p w.heap.size 1,.v (.slice (some ⟨bi,av,none⟩) k.zZ.length ci),.i ((f:Int)),.p wr.heap.size 0,.i ((zS k.zZ f).k),.z,.b true,.b false,.b false,.b false,.p wr.heap.size 2,.i ((zS k.zZ f).r),.s gr 12 dP,.i ((f:Int)),.p gr f,.i (nth (Es k 3) f),.b ((zS k.zZ f).r !=nth (Es k 3) f)] (λR vv ww=>match R with
          |11=>BY ww vv [⟨#[]⟩]
          |_=>True) ?_ ?_ ?_
         .intro i hi o O a H Z A Y hW z
          have bs:=bc Y iE y0;have br:=bc Y dN x0;have bB:=bc Y dN x1;have cN:=bc Y iE y2;have eU:=bc Y dd iR
          match i,hi with
          |0,_|3,_|4,_|6,_|8,_|9,_|13,_|14,_|15,_|16,_|18,_|19,_=>exact sP O z Z A
          |1,_|10,_|17,_|21,_=>exact sL O z Z A (hl:=FT ‹_›)
          |2,_=>exact sD O z Z A (CT.out _ Y)
          |5,_=>exact sL O z Z A (hl:=F9 ‹_›)
          |7,_=>exact sL O z Z A (hl:=GY ‹_›)
          |20,_=>exact sI O z Z A (hr:=by clear A Z z;go_simp)
          |11,_=>clear bs br bB cN eU;obtain rfl:=yF O;have d3:(a.tmps[105]?.getD undef)=.bool true:=Ba A 3;clear A Z;refine AX.yes rfl rfl d3 ?_;go_simp;exact z.out _ _ (Rd.news _ #[.string ⟨#[]⟩] _ 1 1 rfl (by simp[maxLen])) (AI _ _)
          |12,_=>clear bs br bB cN eU;obtain rfl:=yF O;have d5:(a.tmps[107]?.getD undef)=.slice am k.mem.length cm:=Ba A 5;have d7:(a.tmps[109]?.getD undef)=.slice (some ⟨bi,av,none⟩) k.zZ.length ci:=Ba A 7;have d8:(a.tmps[110]?.getD undef)=.int .i64 f:=Ba A 8;have jL:(a.tmps[112]?.getD undef)=.int .i64 ((zS k.zZ f).k):=Ba A 10;have ew:BY H (a.tmps[113]?.getD undef) [⟨#[]⟩]:=Ba A 11;have d3:(a.tmps[105]?.getD undef)=.bool true:=Ba A 3;clear A Z;generalize e113:a.tmps[113]?.getD undef=v2 at ew;have gR:=CG.out H Y v2 ew;refine AX.yes rfl rfl d3 ?_;go_simp;refine gR.mono ?_;rintro e w_ ⟨rfl,bl⟩;exact z.out _ _ rfl bl
          |22,_=>clear bs br bB cN eU;obtain rfl:=yF O;have n9:(a.tmps[119]?.getD undef)=.int .i64 ((zS k.zZ f).r):=Ba A 17;have n7:(a.tmps[123]?.getD undef)=.int .i64 (nth (Es k 3) f):=Ba A 21;have gI:(a.tmps[117]?.getD undef)=.bool false:=Ba A 15;clear A Z;refine AX.yes rfl rfl gI ?_;go_simp;exact z.out _ _ rfl (yD _ _)
          |_+23,hq=>omega
         .intro i hi vv wz fx cr hz
          match i,hi with
          |11,_=>exact(BK.below hz cr)
          |0,_|1,_|2,_|3,_|4,_|5,_|6,_|7,_|8,_|9,_|10,_|12,_|13,_|14,_|15,_|16,_|17,_|18,_|19,_|20,_|21,_|22,_=>exact hz
          |_+23,hq=>omega
         .intro L H hR Y
          have fQ:(L 15)=.bool false:=BS hR 15;have fP:(L 22)=.bool ((zS k.zZ f).r !=nth (Es k 3) f):=BS hR 22;clear hR;simp only[Ak,Ah,yC,yy,yz,yx,fQ,fP];simp;clear fQ fP;have cd:=cl.out.trans (Y.mono cl.out.size);have em:=AA (AF.below HO.out Y);clear Y x0 x1 y0 y2 iR;have RL:=Qd (k:=k) T4.out di;cases ee:((zS k.zZ f).r !=nth (Es k 3) f)
          .have S1:=AA (show HZ k f=true by rw[RL];simpa using ee)
           clear RL;go_wp2_with fail;go_roundw;exact⟨f+1,by omega,by go_num,Al au.out ⟨TB.out,S1.out⟩,em.out,cd⟩;simp[intOf];omega
          .have S:=AA (U6 di (show HZ k f=false by rw[RL];simpa using ee))
           clear RL;go_wp2_with fail;go_ret;exact⟨AH S.out.symm,ca.out.trans (cd.mono ca.out.size)⟩
      .obtain rfl:f=k.zZ.length:=by omega
       have oG:=AA (λf (hf:f<12)=>au.out f (by have:=dp.out;omega));have x3:=(AE (AB HN.out bf)).2.2.2;have eI:=AA bf;clear hO bf au;go_wp2_with fail;clear x3;obtain⟨wq2,rfl⟩:∃wq:World,wq=wr:=⟨_,rfl⟩
       go_loopw [130] (λi wr=>∃j:Nat,j<=k.zW.length/\i=.int .i64 j/\(∀j',j'<j->Ct k (AT k.zW j')=true)/\Below W0.heap.size W0 wr) (λi _=>k.zW.length - (intOf i).toNat)
       exact⟨0,yg _,rfl,λj E=>absurd E (xN _),eI.out⟩
       obtain⟨j,E,rfl,ab,bf⟩:=hrel;have au:=AA ab;clear ab
       by_cases bk:j<k.zW.length
       .obtain⟨a9,c9,ev,_,_,mP⟩:=BK.open CZ (by decide) (BK.below H4.out bf)
        cases ev;obtain⟨bi,av,rfl,ck,D0,D1,D2,D3⟩:=mP.zL bk;have kE:Bl (AT k.zW j)=true:=by have D:=T3.out;unfold BT at D;simp only[yu,xZ] at D;have N:=D.1 j (xS.2 bk);unfold Cy at N;simp only[yu] at N;exact N.1
        have iI:k.zW.length<=4:=by have D:=T3.out;unfold BT at D;simp only[yu,decide_eq_true_eq] at D;exact D.2
        unfold Bl at kE;simp only[yu,AZ] at kE;obtain⟨⟨⟨e0,e2⟩,p0,p2⟩,f0,f2⟩:=kE;obtain⟨en,eh⟩:∃n:Nat,(AT k.zW j).e=(n:Int):=⟨(AT k.zW j).e.toNat,by omega⟩
        obtain⟨pn,hpn⟩:∃n:Nat,(AT k.zW j).p=(n:Int):=⟨(AT k.zW j).p.toNat,by omega⟩
        obtain⟨fn,gy⟩:∃n:Nat,(AT k.zW j).f=(n:Int):=⟨(AT k.zW j).f.toNat,by omega⟩
        have TO:=AA (show Ct k (AT k.zW j)=(decide (0<=(AJ k.zX en).root)&&decide (Bq k.mem (AJ k.zX en).root.toNat (4*pn)=(0,fn,(AT k.zW j).w))) by unfold Ct;rw[eh,hpn,gy];rfl);have kD:en<3:=by omega
        have lR:pn<16:=by omega
        have KT:=AA (WQ (k:=k) bk);rw[eh] at D0;rw[hpn] at D1;rw[gy] at D2;generalize hcw:(AT k.zW j).w=cw at*;obtain⟨h2,eO⟩:=Dd wr (.cells #[.int .i64 en,.int .i64 pn,.int .i64 fn,.bool cw] 112);have lU:(j:Int)<k.zW.length:=by omega
        have pz:(j:Int)<4:=by omega
        have dO:=bf.trans (eO.mono bf.size);obtain⟨b,bp,ua,uc,rfl,bu,E0,E1,RR⟩:=HE.out en (by have:=T4.out;omega);replace E1:=(dO.cell (p:=⟨b,bp+en*2+1,none⟩) bu).trans E1;have x0:=(AE (AB HN.out dO)).1;have x2:=(AE (AB HN.out dO)).2.2.1;obtain⟨y0,y1,y2,y3⟩:=AE h2;have n5:(en:Int)<k.zX.length:=by have:=T4.out;omega
        have cl:=AA dO;have oU:=AA (mK.out en kD);have pS:=AA (xU eh (xU hpn gy));clear mP E0 RR eO bf dO h2 e0 e2 p0 p2 f0 f2 eh hpn gy iI
        by_cases db:(AJ k.zX en).root<0
        .have S:=AA (KT.out (by rw[TO.out];simp;omega))
         have cd:=cl.out;clear x0 y1 y2 y3;go_wp2_with fail;go_ret;exact⟨AH S.out.symm,ca.out.trans (cd.mono ca.out.size)⟩
        .obtain⟨rn,hrn⟩:∃n:Nat,(AJ k.zX en).root=(n:Int):=⟨(AJ k.zX en).root.toNat,by omega⟩
         have iq:rn<12:=by
          have D:=oU.out;unfold ED at D;simp only[yu,xE,decide_eq_true_eq,AZ] at D
          rcases D.1.2 with h|h<;>omega
         have eQ:=λW (K:Below W0.heap.size W0 W)=>Qz _ k.mem rn (4*pn) W (H1.out.below K) T1.out iq (by omega)
         have ku:wr.heap.size<(wr.alloc (.cells #[.int .i64 en,.int .i64 pn,.int .i64 fn,.bool cw] 112)).heap.size:=by simp
         rw[hrn] at E1 TO db;unfold IK at eQ;rw[show((4*pn:Nat):Int)=(pn:Int)*4 by omega] at eQ;simp only[yd] at TO;obtain⟨code,fr,wb,hwp⟩:∃code fr wb,Bq k.mem rn (4*pn)=(code,fr,wb):=⟨_,_,_,rfl⟩
         simp only[hwp] at eQ TO;clear hwp;have jM:=AA (show Ct k (AT k.zW j)=(decide (code=0)&&(decide (fr=fn)&&decide (wb=cw))) by
          rw[TO.out];have:(0:Int)<=(rn:Int):=by omega
          simp[this])
         by_cases iK:code=0
         .subst iK
          rw[if_pos rfl] at eQ;unfold Kz at eQ;rw[show((4*pn%4:Nat):Int)=0 by omega] at eQ;have CW:=AA eQ;clear eQ;go_wp2_with fail;refine(CW.out _ cl.out).mono ?_;rintro e w2 ⟨rfl,bl⟩;have el:=cl.out.trans (bl.mono cl.out.size);replace y2:=(bl.cell (p:=⟨wr.heap.size,2,none⟩) ku).trans y2;replace y3:=(bl.cell (p:=⟨wr.heap.size,3,none⟩) ku).trans y3;clear x0 x2 E1 y0 y1 bl;have cd:=el.trans ((AI w2 (.cells #[.int .i64 fr,.int .i64 0,.bool wb] 114)).mono el.size);replace y2:=((AI w2 (.cells #[.int .i64 fr,.int .i64 0,.bool wb] 114)).cell (yA w2 _ y2)).trans y2;replace y3:=((AI w2 (.cells #[.int .i64 fr,.int .i64 0,.bool wb] 114)).cell (yA w2 _ y3)).trans y3;have HG:=AA cd;clear el cd db
          by_cases fJ:fr=fn
          .have t1:((fr:Int) !=(fn:Int))=false:=by simp[fJ]
           by_cases ij:wb=cw
           .have S:=AA (show Ct k (AT k.zW j)=true by rw[jM.out];simp[fJ,ij])
            subst ij;clear fJ;cases wb
            all_goals
             go_wp2_with fail;go_roundw;exact⟨j+1,by omega,by go_num,Al au.out S.out,HG.out⟩;simp[intOf];omega
           .have S:=AA (KT.out (by rw[jM.out];simp[ij]))
            have hq:=AA ij;clear fJ ij;cases wb<;>cases cw
            .exact absurd rfl hq.out
            .go_wp2_with fail
             go_ret;exact⟨AH S.out.symm,ca.out.trans (HG.out.mono ca.out.size)⟩
            .go_wp2_with fail
             go_ret;exact⟨AH S.out.symm,ca.out.trans (HG.out.mono ca.out.size)⟩
            .exact absurd rfl hq.out
          .have t1:((fr:Int) !=(fn:Int))=true:=by simp;omega
           have S:=AA (KT.out (by rw[jM.out];simp[fJ]));clear fJ y3;go_wp2_with fail;go_ret;exact⟨AH S.out.symm,ca.out.trans (HG.out.mono ca.out.size)⟩
         .rw[if_neg iK] at eQ
          unfold Ed at eQ;have CW:=AA eQ;have t1:(code !=0)=true:=by simp[iK]
          have S:=AA (KT.out (by rw[jM.out];simp[iK]));clear eQ iK;go_wp2_with (refine(CW.out _ cl.out).mono ?_;rintro e w2 ⟨rfl,bl⟩;have el:=cl.out.trans (bl.mono cl.out.size);have HG:=AA (el.trans ((AI w2 (.cells #[.int .i64 0,.int .i64 0,.bool false] 114)).mono el.size));clear x0 x2 E1 y0 y1 y2 y3 bl el db);go_ret;exact⟨AH S.out.symm,ca.out.trans (HG.out.mono ca.out.size)⟩
       .have S:=AA (ZN T1.out T2.out T3.out T4.out mK.out oG.out (λj' pE=>au.out j' (by omega)))
        have cd:=bf;go_wp2_with fail;go_ret;exact⟨AH S.out.symm,ca.out.trans (cd.mono ca.out.size)⟩
    .have S:=AA (X5 e4)
     have n4:((k.zX.length:Int) !=3)=true:=by simp;omega
     clear e4;go_wp2_with fail;go_ret;exact⟨AH S.out.symm,ca.out.trans (J.mono ca.out.size)⟩
theorem CQ{k:AO}(h:DQ k):Dn k:=by
 refine⟨λx hx=>?_,λj E=>Gc (h.zT j (by rw[h.zN] at E;exact E))⟩;obtain⟨f,hf⟩:=xq hx;have hl:=(yt.1 hf).1;rw[h.len] at hl;have hi:=h.inf f hl;have e:zS k.zZ f=x:=by unfold zS;rw[xO,hf];rfl
 rw[e] at hi
 rcases hi with⟨_,g⟩|⟨_,_,g⟩
 .rw[g];exact yg _
 .unfold BV at g
  rw[yu,decide_eq_true_eq] at g;have:=g.2;unfold maxLen;omega
structure Xe(lo g:Nat)(o:Value)(st:AO×List Int)(w wr:World)(m i e c:Value):Prop where
 yK:wr.heap[g]?=some (.cells #[m,i,e,c] 28 (0,0))
 yJ:lo<=g
 ker:∃vs,Au lo wr m vs st.1.mem/\∀v∈vs,Fp o v
 inf:AQ lo 92 3 A3 wr i st.1.zZ
 env:∃ps,DI lo wr e ps st.1.zX
 cac:AQ lo 112 4 AU wr c st.1.zW
 out:AF lo wr o st.2
 bel:Below lo w wr
 lo:lo<=wr.heap.size
section
variable {lo g:Nat} {o m i e c:Value} {st:AO×List Int} {w wr w':World}
theorem Xe.below(h:Xe lo g o st w wr m i e c)(J:Below wr.heap.size wr w'):Xe lo g o st w w' m i e c:=by obtain⟨L,D,N⟩:=h.ker;obtain⟨ps,h3⟩:=h.env;exact⟨AB h.yK J,h.yJ,⟨L,D.below J,N⟩,h.inf.below J,⟨ps,h3.below J⟩,h.cac.below J,h.out.below J,h.bel.trans (J.mono h.lo),yB h.lo J.size⟩
theorem Xe.own(h:Xe lo g o st w wr m i e c):Da lo wr m i e c st.1:=by obtain⟨L,D,_⟩:=h.ker;exact⟨⟨L,D⟩,h.inf,h.env,h.cac⟩
theorem Xe.start{k:AO}(ho:Da lo w2 m i e c k)(J:Below lo w w2)(hl:lo<=w2.heap.size):Xe lo w2.heap.size (.slice none 0 0) (k,[]) w (w2.alloc (.cells #[m,i,e,c] 28)) m i e c:=by
 have b3:=AI w2 (.cells #[m,i,e,c] 28);obtain⟨⟨L,D⟩,N,⟨ps,h3⟩,h4⟩:=ho.below b3;exact⟨yi _ _,hl,⟨L,D,λv hv b fL=>by simp[Value.ownBlock] at fL⟩,N,⟨ps,h3⟩,h4,xh _ _ _ _,J.trans (b3.mono hl),yB hl b3.size⟩
theorem Xe.put{m' i' e' c':Value}{k':AO}(h:Xe lo g o st w wr m i e c){w1:World}(J:Below wr.heap.size wr w1)(ho:Da wr.heap.size w1 m' i' e' c' k'):
 Xe lo g o (k',st.2) w ((((w1.setCell ⟨g,0,none⟩ m').setCell ⟨g,1,none⟩ i').setCell ⟨g,2,none⟩ e').setCell ⟨g,3,none⟩ c') m' i' e' c':=by
 have h':=h.below J;have dd:=Ao w1 g m' i' e' c';obtain⟨⟨L,D⟩,N,⟨ps,h3⟩,h4⟩:=ho;refine⟨Cx h'.yK,h.yJ,⟨L,(D.yL dd h'.yK).lower h.lo,λv hv b bx bl=>?_⟩,(N.yL dd h'.yK).lower h.lo,⟨ps,(h3.yL dd h'.yK).lower h.lo⟩,(h4.yL dd h'.yK).lower h.lo,FE h'.out dd h'.yK,AM h'.bel dd h.yJ h'.lo,yB h'.lo dd.size⟩;obtain⟨j,E⟩:=xq hv;have ff:=D.2.1.1;obtain⟨x,hx⟩:∃x,k'.mem[j]?=some x:=⟨_,yw (by rw[<-ff];exact(yt.1 E).1)⟩
 have:=(yk (D.2.1.2 j v x E hx) b bl).1;have:=(yk h.out b bx).2;omega
theorem Xe.push{o':Value}{x:Int}(h:Xe lo g o st w wr m i e c)(D:w'.ownsRow lo 3 1 o' (st.2.length+1) (st.2.map (xY .i64)++[.int .i64 x]))(N:wr.grownBy w' o.ownBlock)(h3:o'.ownBlock=o.ownBlock∨o'.ownBlock=some wr.heap.size)(h4:Below lo wr w'):
 Xe lo g o' (st.1,st.2++[x]) w w' m i e c:=by
 obtain⟨L,r1,r2⟩:=h.ker;obtain⟨ps,r3⟩:=h.env;have ee:=Do h.out h.yK (by decide);refine⟨(N.block g (AW h.yK) (λe=>ee e.symm)).trans h.yK,h.yJ,⟨L,⟨Aw r1.1 N (A8 r1.1 h.out (by decide)).ne,?_,r1.2.2⟩,?_⟩,Aw h.inf N (A8 h.inf h.out (by decide)).ne,⟨ps,Aw r3.1 N (A8 r3.1 h.out (by decide)).ne,r3.2.1.mono λ_ _ x=>⟨Aw x.1 N (A8 x.1 h.out (by decide)).ne,x.2⟩,r3.2.2⟩,Aw h.cac N (A8 h.cac h.out (by decide)).ne,by simpa[AF] using D,h.bel.trans h4,yB h.lo h4.size⟩
 .refine⟨r1.2.1.1,λj u y hu hy=>Aw (r1.2.1.2 j u y hu hy) N ?_⟩
  exact(r2 u (yh hu)).symm.ne
 .intro v hv
  obtain⟨j,E⟩:=xq hv;obtain⟨y,hy⟩:∃y,st.1.mem[j]?=some y:=⟨_,yw (by rw[<-r1.2.1.1];exact(yt.1 E).1)⟩
  exact(r2 v hv).grown h3 (λb J=>(yk (r1.2.1.2 j v y E hy) b J).2)
end
theorem Gw(w:World)(a b:Obj):((w.alloc a).alloc b).heap[w.heap.size]?=some a/\((w.alloc a).alloc b).heap[w.heap.size+1]?=some b/\Below w.heap.size w ((w.alloc a).alloc b)/\((w.alloc a).alloc b).heap.size=w.heap.size+2:=by have D:=yi w a;have N:=yi (w.alloc a) b;have h4:=AB D (AI _ b);simp only[xx] at N;exact⟨h4,N,IA w a b,by simp⟩
section
variable {P:Program}
theorem Q8{id:Nat}{Q:Exit->Act->World->Prop}{a0:Act}{l:List Oper}(n:Nat)(hm:P.follows .mixedOrders=true)(hB:IW l n=true)
 (h2:Nat)(hN:a0.tmps.size=h2)(hD:V7 l n h2=true)(i1 i2:Nat)(hw:xV .any l.toArray i2 i1=true)(jH:i1<n)(kV:i2<n)(gM:Value->Value->Prop)(ix:Nat->Value->World->Prop)(iz:∀i,i<n->∀v w w',Below w.heap.size w w'->ix i v w->ix i v w')
 (im:∀i,i<n->i≠i2->∀o,l[i]?=some o->∀a w,Hid (a.defers=a0.defers/\a.tmps.size=a0.tmps.size/\∀t,(∀i,i<n->Ah l i≠t)->a.tmps[t]?=a0.tmps[t]?)->
  Hid (∀j,xV .any l.toArray i j=true->ix j (a.tmps[Ah l j]?.getD undef) w)->Below w0.heap.size w0 w->
  ∀hW:Act->World->Prop,Hid (∀v w',ix i v w'->Below w.heap.size w w'->hW (a.put o.dst v) w')->AX P l o a w hW Q)
 (iw:∀o,l[i2]?=some o->∀a w,Hid (a.defers=a0.defers/\a.tmps.size=a0.tmps.size/\∀t,(∀i,i<n->Ah l i≠t)->a.tmps[t]?=a0.tmps[t]?)->
  Hid (∀j,xV .any l.toArray i2 j=true->ix j (a.tmps[Ah l j]?.getD undef) w)->Below w0.heap.size w0 w->
  ∀hW:Act->World->Prop,Hid (∀v w',ix i2 v w'->gM (a.tmps[Ah l i1]?.getD undef) v->Below w.heap.size w w'->hW (a.put o.dst v) w')->AX P l o a w hW Q)
 (il:∀(L:Nat->Value) w,(∀i,i<n->ix i (L i) w)->gM (L i1) (L i2)->Below w0.heap.size w0 w->wpList P l.toArray Q (l.drop n) {a0 with tmps:=Ak l (yC n) L a0.tmps} w):
 (Code.region id l.toArray true).wp P Q a0 w0:=by
 subst hN;refine Lz hm (I:=λvs L w=>(∀i,i<n->vs i=true->ix i (L i) w)/\Below w0.heap.size w0 w/\(vs i2=true->gM (L i1) (L i2))) (Su hB hD) (λL=>⟨λi _ h=>(by cases h),⟨rfl,rfl,rfl,yv _,λ_ _=>rfl⟩,λh=>by cases h⟩) (λi hi o O a w D N h3 vs h6 h7 h8 hI hW hK=>?_) (λa w D N h3 vs hL hI=>?_)
 .have up:∀{w':World},Below w.heap.size w w'->Below w0.heap.size w0 w':=λN=>hI.2.1.trans ⟨N.os,N.tape,N.output,N.size,λk V=>N.block k (xW V hI.2.1.size)⟩
  have hd:=AA λj (E:xV .any l.toArray i j=true)=>by have:=hI.1 j (h7 j E).2 (h7 j E).1;rwa [Kg hB (h7 j E).2] at this
  have ie:∀{v w'},ix i v w'->Below w.heap.size w w'->∀cq:Nat->Value,cq i=(match o.dst with|some _=>v|none=>undef)->(∀j,j<n->j≠i->cq j=EJ l a.tmps j)->∀j,j<n->GU vs i j=true->ix j (cq j) w':=by
   intro v w' hR J cq hv fT j E hl
   by_cases e:j=i
   .subst e
    rw[hv];simp only[V8 hB hi O];exact hR
   .have nA:vs j=true:=by unfold GU at hl;rwa [if_neg e] at hl
    rw[fT j E e];exact iz j E _ w w' J (hI.1 j E nA)
  by_cases e2:i=i2
  .subst e2
   have ee:i1≠i:=λe=>by have:=(h7 i1 hw).1;rw[e,h6] at this;cases this
   refine iw o O a w (AA ⟨D,N,Jt hB h3⟩) hd hI.2.1 hW (AA λv w' hR hp J=>hK v w' λcq hv fT=>⟨ie hR J cq hv fT,up J,λ_=>?_⟩);rw[hv,fT i1 jH ee,Kg hB jH];simp only[V8 hB hi O];exact hp
  .refine im i hi e2 o O a w (AA ⟨D,N,Jt hB h3⟩) hd hI.2.1 hW (AA λv w' hR J=>hK v w' λcq hv fT=>⟨ie hR J cq hv fT,up J,λhl=>?_⟩)
   have eF:vs i2=true:=by unfold GU at hl;rwa [if_neg (Ne.symm e2)] at hl
   have e1:i1≠i:=λe=>by have:=h8 i2 i1 eF hw;rw[e,h6] at this;cases this
   rw[fT i1 jH e1,fT i2 kV (Ne.symm e2)];exact hI.2.2 eF
 .have e:=SY l (yC n) a0.tmps a.tmps N (λt ht=>Jt hB h3 t λi hi=>ht i (xS.2 hi))
  have hv:∀i,i<n->a.tmps.getD (Ah l i) undef=EJ l a.tmps i:=λi hi=>by rw[Array.getD_eq_getD_getElem?,<-Kg hB hi]
  have:=il (λi=>a.tmps.getD (Ah l i) undef) w (λi hi=>by rw[hv i hi];exact hI.1 i hi (hL i hi)) (by rw[hv i1 jH,hv i2 kV];exact hI.2.2 (hL i2 kV)) hI.2.1;rw[<-e] at this;obtain⟨tm,df⟩:=a;dsimp only at D this;subst D;exact this
end
theorem QU(v:Value)(m:List (List Int))(w:World)(h:Bk w v m)(dm:m.length=16)(bN:∀k,k<16->(AG m k).length<=4):
 Calls prog 64 #[v] w λe w'=>∃v' L,e=.returned v'/\Au w.heap.size w' v' L m/\Below w.heap.size w w':=by
 obtain⟨L,D,N⟩:=h;have cT:L.length=16:=by rw[N.1,dm]
 have CC:=AA (MR v L w D (by omega) (Sq N));have CI:=AA (λk (V:k<16) W (K:Below w.heap.size w W)=>IZ (L.getD k (.bool false)) (AG m k) W (Ax.below (N.2 k _ _ (A2 (by omega)) (by unfold AG;exact A2 (by omega))) K) (by have:=bN k V;omega));have SH:=AA (λk (V:k<16)=>(by obtain⟨a,c,e,_⟩:=(N.2 k _ _ (A2 (d:=Value.bool false) (by omega)) (A2 (d:=[]) (by omega))).open;exact⟨a,_,c,e⟩:∃a n c,L.getD k (.bool false)=.slice a n c));have iW:=AA cT;have mA:=AA dm;obtain⟨ai,ci,rfl,_,_⟩:=D.shape;clear D N bN dm;rw[cT] at CC ⊢;clear cT;go_in;go_wp2_with fail;refine(CC.out).mono ?_;rintro e w1 ⟨v',rfl,hO,bx⟩;obtain⟨g,cg,rfl,c1,c2,q1,q2,dq⟩:=hO.zM (by have:=iW.out;omega);unfold maxLen at c2;rw[iW.out] at hO c1 ⊢;have HO:=AA hO;have HB:=AA bx;clear hO bx dq;go_wp2_with fail;go_loopw [10] (λi wr=>∃us:List Value,us.length<=16/\i=.int .i64 us.length/\Ft w.heap.size wr (.slice (some ⟨g,0,none⟩) 16 cg) us (L.drop us.length) m/\Below w.heap.size w wr) (λi _=>16 - (intOf i).toNat)
 exact⟨[],by simp,rfl,⟨HO.out,Fq.nil,DP.nil⟩,HB.out⟩
 obtain⟨us,V,rfl,hH,bf⟩:=hrel
 by_cases bk:us.length<16
 .have lV:us.length<L.length:=by rw[iW.out];exact bk
  have ed:L.drop us.length=L.getD us.length (.bool false)::L.drop (us.length+1):=by
   rw[List.drop_eq_getElem_cons lV]
   congr 1
   simp[lV]
  rw[ed] at hH;have ff:(us++L.getD us.length (.bool false)::L.drop (us.length+1)).length=16:=by have:=iW.out;simp only[yj,List.length_cons,wT];omega
  have jF:=hH.1;rw[<-ff] at jF;have h1:=AQ.zz ER jF (k:=us.length) (x:=L.getD us.length (.bool false)) (by simp) 0 _ rfl;rw[wB,xK] at h1;have C:=CI.out _ bk wr bf;have hr:m[us.length]?=some (AG m us.length):=by unfold AG;exact A2 (by rw[mA.out];exact bk)
  have HH:=AA hH;have HR:=AA hr;have CH:=AA C;have lr:=AA ff;have dq:=xJ jF us.length;have p4:(16:Int)<=cg:=by omega
  clear hH jF hr C ed ff;generalize hu0:L.getD us.length (.bool false)=u0 at*;obtain⟨a0,n0,c0,rfl⟩:∃a n c,u0=.slice a n c:=by have:=SH.out _ bk;rwa [hu0] at this
  go_wp2_with fail;refine(CH.out).mono ?_;rintro e w2 ⟨u,rfl,hu,bl⟩;have D2:=(bl.cell (p:=⟨g,us.length,none⟩) (yA wr _ h1)).trans h1;have nH:=(bl.frozen (p:=⟨g,us.length,none⟩) (yA wr _ h1)).trans dq;have ST:=AA (Ft.step HH.out lr.out.symm bl bf.size hu HR.out);have fF:=AA (AM (bf.trans (bl.mono bf.size)) ST.out.2 q1 (yB bf.size bl.size));obtain⟨a9,c9,rfl,_⟩:=hu.rd.open;clear h1 dq hu bl bf;go_wp2_with fail;go_roundw
  case rel=>refine⟨us++[.slice a9 (AG m us.length).length c9],by rw[yj,xI];omega,by rw[yj,xI];go_num,?_,fF.out⟩;rw[yj,xI];exact ST.out.1
  case measure=>simp[intOf];omega
 .have e12:us.length=16:=by omega
  rw[List.drop_eq_nil_of_le (by rw[e12,iW.out];exact yv _)] at hH;have ix:=AA (hH.whole (by rw[e12,mA.out]));clear hH;go_wp2_with fail;go_ret;exact⟨_,us,rfl,ix.out,bf⟩
theorem FQ.zQ{lo:Nat}{w:World}{m i e c s l q:Value}{P:AR}(h:FQ lo w m i e c s l q P):((∃a n q,m=.slice a n q)/\(∃a n q,i=.slice a n q)/\(∃a n q,e=.slice a n q)/\∃a n q,c=.slice a n q)/\(∃a n q,s=.slice a n q)/\(∃a n q,l=.slice a n q)/\∃a n r,q=.slice a n r:=by obtain⟨D,⟨_,N⟩,h3,h4,_⟩:=h;obtain⟨_,_,rfl,_,_⟩:=N.1.rd.shape;obtain⟨_,_,rfl,_,_⟩:=h3.rd.open;obtain⟨_,_,rfl,_,_⟩:=h4.rd.shape;exact⟨D.zQ,⟨_,_,_,rfl⟩,⟨_,_,_,rfl⟩,⟨_,_,_,rfl⟩⟩
theorem VR{P:AR}(h:Du P):P.swap.length=16/\∀k,k<16->(AG P.swap k).length<=4:=by
 refine⟨h.zD,λk V=>?_⟩
 rcases h.zv k V with e|e
 .rw[e];exact yg _
 .have:=(A4.1 e).1;omega
section
variable {w:World} {g t:Nat} {a0 a1 a2 a3 a4 a5 a6 a7 a8 b0 b1 b2 b3 b4 b5 b6 b7 b8:Value}
def Dy(w:World)(g:Nat)(b0 b1 b2 b3 b4 b5 b6:Value):World:=((((((w.setCell ⟨g,0,none⟩ b0).setCell ⟨g,1,none⟩ b1).setCell ⟨g,2,none⟩ b2).setCell ⟨g,3,none⟩ b3).setCell ⟨g,4,none⟩ b4).setCell ⟨g,5,none⟩ b5).setCell ⟨g,6,none⟩ b6
theorem Zm(h:w.heap[g]?=some (.cells #[a0,a1,a2,a3,a4,a5,a6,a7,a8] t (0,0))):(((w.setCell ⟨g,4,none⟩ b4).setCell ⟨g,5,none⟩ b5).setCell ⟨g,6,none⟩ b6).heap[g]?=some (.cells #[a0,a1,a2,a3,b4,b5,b6,a7,a8] t (0,0)):=by have h4:=yq _ g 4 _ t b4 h;have h5:=yq _ g 5 _ t b5 h4;have h6:=yq _ g 6 _ t b6 h5;simpa using h6
theorem Wt:w.grownBy (((w.setCell ⟨g,4,none⟩ b4).setCell ⟨g,5,none⟩ b5).setCell ⟨g,6,none⟩ b6) (some g):=An (An (Aq _ _ _ _) _ _) _ _
theorem Zn(h:w.heap[g]?=some (.cells #[a0,a1,a2,a3,a4,a5,a6,a7,a8] t (0,0))):(Dy w g b0 b1 b2 b3 b4 b5 b6).heap[g]?=some (.cells #[b0,b1,b2,b3,b4,b5,b6,a7,a8] t (0,0)):=by have h0:=yq w g 0 _ t b0 h;have D:=yq _ g 1 _ t b1 h0;have N:=yq _ g 2 _ t b2 D;have h3:=yq _ g 3 _ t b3 N;have h4:=yq _ g 4 _ t b4 h3;have h5:=yq _ g 5 _ t b5 h4;have h6:=yq _ g 6 _ t b6 h5;unfold Dy;simpa using h6
theorem Wu:w.grownBy (Dy w g b0 b1 b2 b3 b4 b5 b6) (some g):=by unfold Dy;exact An (An (An (An (An (An (Aq _ _ _ _) _ _) _ _) _ _) _ _) _ _) _ _
theorem F5(h:w.heap[g]?=some (.cells #[a0,a1,a2,a3,a4,a5,a6,a7,a8] t (0,0))):(((Dy w g b0 b1 b2 b3 b4 b5 b6).setCell ⟨g,7,none⟩ b7).setCell ⟨g,8,none⟩ b8).heap[g]?=some (.cells #[b0,b1,b2,b3,b4,b5,b6,b7,b8] t (0,0)):=by have h7:=yq _ g 7 _ t b7 (Zn (b0:=b0) (b1:=b1) (b2:=b2) (b3:=b3) (b4:=b4) (b5:=b5) (b6:=b6) h);have h8:=yq _ g 8 _ t b8 h7;simpa using h8
theorem EY:w.grownBy (((Dy w g b0 b1 b2 b3 b4 b5 b6).setCell ⟨g,7,none⟩ b7).setCell ⟨g,8,none⟩ b8) (some g):=An (An Wu _ _) _ _
end
def AN(m i e c s l q:Value)(h n:Int):Value:=.agg #[m,i,e,c,s,l,q,.int .i64 h,.int .i64 n]
def PR(w:World)(P:AR)(r:Ending)(w':World):Prop:=∃m i e c s l q,r=.returned (AN m i e c s l q P.zR P.zU)/\FQ w.heap.size w' m i e c s l q P/\Below w.heap.size w w'
theorem Xi{lo:Nat}{m i e c s:Value}{w w':World}{k:AO}{jn:List (List Int)}(h:Gl lo v w k)(hj:v=.agg #[m,i,e,c])(o:Au w.heap.size w' s L jn):Fp m s:=by obtain⟨m1,i1,e1,c1,rfl,⟨us,D⟩,_⟩:=h;simp only[Value.agg.injEq,Array.mk.injEq,List.cons.injEq,and_true] at hj;obtain⟨rfl,_⟩:=hj;intro b J fL;have:=(yk D.1 b J).2;have:=(yk o.1 b fL).1;omega
theorem NW(mv iv ev cv sv lv qv:Value)(P:AR)(w:World)(h:Jy w mv iv ev cv sv lv qv P)(hP:Du P):
 Calls prog 30 #[AN mv iv ev cv sv lv qv P.zR P.zU] w (PR w P):=by
 unfold AN;obtain⟨B0,B1,bq,eY⟩:=Gw w (.cells #[mv,iv,ev,cv,sv,lv,qv,.int .i64 P.zR,.int .i64 P.zU] 32) (.cells #[.slice none 0 0,.slice none 0 0,.slice none 0 0,.slice none 0 0,.slice none 0 0,.slice none 0 0,.slice none 0 0,.int .i64 0,.int .i64 0] 32);have h':=h.below bq;have de:=VR hP;go_in;go_wp2_with fail;generalize(w.alloc _).alloc _=W0 at*;have C1:=AA (λW (K:Below W0.heap.size W0 W)=>UC mv iv ev cv P.zV W (h'.1.below K) hP.k);have C2:=AA (λW (K:Below W0.heap.size W0 W)=>QU sv P.swap W (h'.2.1.below K) de.1 de.2);have C3:=AA (λW (K:Below W0.heap.size W0 W)=>IZ lv P.low W (h'.2.2.1.below K) (by rw[hP.zt];omega));have C4:=AA (λW (K:Below W0.heap.size W0 W)=>RD qv P.zY W (BK.below h'.2.2.2 K) (by rw[hP.zO];omega));have ca:=AA B0;have dT:=AA B1;have dr:=AA bq;obtain⟨x0,x1,x2,x3,x4,x5,x6,x7,x8⟩:=AD B0;have fA:w.heap.size<W0.heap.size:=by omega
 clear h h' de B0 B1 bq x7 x8 hP;refine Q8 13 mixed (by kernel_rfl) 20 rfl (by kernel_rfl) 2 5 (by kernel_rfl) (by decide) (by decide) (λV1 V2=>∀m i e c,V1=.agg #[m,i,e,c]->Fp m V2) (λR vv ww=>match R with
  |0|12=>vv=.pointer (some ⟨w.heap.size,0,none⟩)
  |1=>vv=.agg #[mv,iv,ev,cv]
  |2=>Gl W0.heap.size vv ww P.zV
  |3=>vv=.pointer (some ⟨w.heap.size,4,none⟩)
  |4=>vv=sv
  |5=>∃cq,Au W0.heap.size ww vv cq P.swap
  |6=>vv=.pointer (some ⟨w.heap.size,5,none⟩)
  |7=>vv=lv
  |8=>AF W0.heap.size ww vv P.low
  |9=>vv=.pointer (some ⟨w.heap.size,6,none⟩)
  |10=>vv=qv
  |11=>AQ W0.heap.size 43 3 DG ww vv P.zY
  |_=>True) ?_ ?_ ?_ ?_
 .intro i hi vv wz fx cr hz
  match i,hi with
  |0,_|1,_|3,_|4,_|6,_|7,_|9,_|10,_=>exact hz
  |2,_=>exact(Gl.below hz cr)
  |5,_=>exact(by obtain⟨cq,h'⟩:=hz;exact⟨cq,h'.below cr⟩)
  |8,_=>exact(AF.below hz cr)
  |11,_=>exact(AQ.below hz cr)
  |12,_=>exact hz
 .intro i hi nD o O a H Z A Y hW z
  match i,hi,nD with
  |0,_,_=>exact dF O rfl (gn rfl) z rfl Y6 (eb (PI Z 1)) rfl
  |1,_,_=>exact dL O rfl (gn rfl) z rfl (et (Ba A 0)) (OM (bc Y fA x0) (bc Y fA x1) (bc Y fA x2) (bc Y fA x3)) rfl
  |2,_,_=>obtain rfl:=yF O;have d1:(a.tmps[4]?.getD undef)=.agg #[mv,iv,ev,cv]:=Ba A 1;clear A Z;refine yE ?_;go_simp;refine(C1.out _ Y).mono ?_;rintro r w_ ⟨m',i',e',c',rfl,hO,bl⟩;exact z.out _ _ ⟨m',i',e',c',rfl,hO.lower Y.size⟩ bl
  |3,_,_=>exact dF O rfl (gn rfl) z rfl bX (eb (PI Z 1)) rfl
  |4,_,_=>exact dL O rfl (gn rfl) z rfl (et (Ba A 3)) (F9 (bc Y fA x4)) rfl
  |5,_,hs=>exact absurd rfl hs
  |6,_,_=>exact dF O rfl (gn rfl) z rfl bZ (eb (PI Z 1)) rfl
  |7,_,_=>exact dL O rfl (gn rfl) z rfl (et (Ba A 6)) (KU (bc Y fA x5)) rfl
  |8,_,_=>obtain rfl:=yF O;have d7:(a.tmps[10]?.getD undef)=lv:=Ba A 7;clear A Z;refine yE ?_;go_simp;refine(C3.out _ Y).mono ?_;rintro e w_ ⟨v',rfl,hO,bl⟩;exact z.out _ _ (BU hO Y.size) bl
  |9,_,_=>exact dF O rfl (gn rfl) z rfl ba (eb (PI Z 1)) rfl
  |10,_,_=>exact dL O rfl (gn rfl) z rfl (et (Ba A 9)) (aO (bc Y fA x6)) rfl
  |11,_,_=>obtain rfl:=yF O;have jL:(a.tmps[13]?.getD undef)=qv:=Ba A 10;clear A Z;refine yE ?_;go_simp;refine(C4.out _ Y).mono ?_;rintro e w_ ⟨v',rfl,hO,bl⟩;exact z.out _ _ (hO.lower Y.size) bl
  |12,_,_=>exact dF O rfl (gn rfl) z rfl Y6 (eb (PI Z 1)) rfl
 .intro o O a H Z A Y hW z
  obtain rfl:=yF O;have d4:(a.tmps[7]?.getD undef)=sv:=Ba A 4;have d2:Gl W0.heap.size (a.tmps[5]?.getD undef) H P.zV:=Ba A 2;clear A Z;refine yE ?_;go_simp;refine(C2.out _ Y).mono ?_;rintro e w_ ⟨v',cq,rfl,hO,bl⟩;exact z.out _ _ ⟨cq,hO.lower Y.size⟩ (λm i e c hj=>Xi d2 hj hO) bl
 .intro L H hR hP Y
  have q2:Gl W0.heap.size (L 2) H P.zV:=BS hR 2;have q5:∃cq,Au W0.heap.size H (L 5) cq P.swap:=BS hR 5
  have q8:AF W0.heap.size H (L 8) P.low:=BS hR 8;have j4:AQ W0.heap.size 43 3 DG H (L 11) P.zY:=BS hR 11;have fS:(L 12)=.pointer (some ⟨w.heap.size,0,none⟩):=BS hR 12;clear hR;simp only[Ak,Ah,yC,yy,yz,yx,fS];simp;generalize L 2=z2 at q2 hP ⊢;generalize L 5=z5 at q5 hP ⊢;generalize L 8=z8 at q8 ⊢;generalize L 11=z11 at j4 ⊢;clear fS;obtain⟨m',i',e',c',rfl,k1⟩:=q2;obtain⟨cq,k2⟩:=q5;have dQ:Fp m' z5:=hP _ _ _ _ rfl;have ho:=(⟨k1,⟨cq,k2⟩,q8,j4,dQ⟩:FQ W0.heap.size H m' i' e' c' z5 z8 z11 P);obtain⟨⟨⟨ma,mn,mc,rfl⟩,⟨ia,iN,ic,rfl⟩,⟨ea,en,ec,rfl⟩,⟨qa,qn,qc,rfl⟩⟩,⟨sa,sn,sc,rfl⟩,⟨la,ln,lc,rfl⟩,⟨pa,pn,pc,rfl⟩⟩:=ho.zQ;have B0:=(Y.block _ fA).trans ca.out;have B1:=(Y.block (w.heap.size+1) (by omega)).trans dT.out;obtain⟨mY,ga,mX,mW,mV,mU,mT,mS,mR⟩:=AD B0;have f0:=AK B0;go_step;go_simp;have jK:=Ao H w.heap.size (.slice ma mn mc) (.slice ia iN ic) (.slice ea en ec) (.slice qa qn qc);have jm:=Jm (m':=.slice ma mn mc) (i':=.slice ia iN ic) (e':=.slice ea en ec) (c':=.slice qa qn qc) B0;have O1:=ho.yL jK B0;have lE:=(jK.block (w.heap.size+1) (by have:=Y.size;omega) (by intro e;have:=yF e;omega)).trans B1;have bw:=AM (dr.out.trans (Y.mono dr.out.size)) jK (yv _) (yB dr.out.size Y.size);clear ho jK B0 B1 Y f0 mY ga mX mW mV mU mT mS mR k1 k2 q8 j4 hP dQ x0 x1 x2 x3 x4 x5 x6;generalize(((H.setCell _ _).setCell _ _).setCell _ _).setCell _ _=W1 at*;obtain⟨_,_,_,_,c4,c5,c6,_⟩:=AD jm;have f4:=AK jm;have S2:=Zm (b4:=.slice sa sn sc) (b5:=.slice la ln lc) (b6:=.slice pa pn pc) jm;have jJ:=Wt (w:=W1) (g:=w.heap.size) (b4:=.slice sa sn sc) (b5:=.slice la ln lc) (b6:=.slice pa pn pc);have O2:=O1.yL jJ jm;have jZ:=(jJ.block (w.heap.size+1) (AW lE) (by intro e;have:=yF e;omega)).trans lE;have mr:=AM bw jJ (yv _) bw.size;obtain⟨y0,y1,y2,y3,y4,y5,y6,y7,y8⟩:=AD S2;obtain⟨u0,u1,u2,u3,u4,u5,u6,u7,u8⟩:=AD jZ;have f1:=AK jZ;have em:=AA O2;have jj:=AA jZ;have i8:=AA mr;clear O1 jm lE bw jJ S2 O2 jZ mr;go_wp2_with fail;clear y0 y1 y2 y3 y4 y5 y6 y7 y8 u0 u1 u2 u3 u4 u5 u6 u7 u8 f1 c4 c5 c6 f4;generalize((W1.setCell _ _).setCell _ _).setCell _ _=W2 at*;have kY:=EY (w:=W2) (g:=w.heap.size+1) (b0:=.slice ma mn mc) (b1:=.slice ia iN ic) (b2:=.slice ea en ec) (b3:=.slice qa qn qc) (b4:=.slice sa sn sc) (b5:=.slice la ln lc) (b6:=.slice pa pn pc) (b7:=.int .i64 P.zR) (b8:=.int .i64 P.zU);have N3:=F5 (b0:=.slice ma mn mc) (b1:=.slice ia iN ic) (b2:=.slice ea en ec) (b3:=.slice qa qn qc) (b4:=.slice sa sn sc) (b5:=.slice la ln lc) (b6:=.slice pa pn pc) (b7:=.int .i64 P.zR) (b8:=.int .i64 P.zU) jj.out
  have O3:=(em.out.yL kY jj.out).lower dr.out.size;have B3:=AM i8.out kY (by omega) i8.out.size;unfold Dy at kY N3 O3 B3;exact yr (v:=.agg #[_,_,_,_,_,_,_,_,_]) (by simp[results,Tryz.results30,go_sem,AD N3]) rfl ⟨_,_,_,_,_,_,_,rfl,O3,B3⟩
theorem Da.past{lo:Nat}{w w':World}{m i e c:Value}{k:AO}{row:Option Nat}(h:Da lo w m i e c k)(hg:w.grownBy w' row)(hr:∀b,row=some b->b<lo):Da lo w' m i e c k:=by
 obtain⟨⟨L,D,N,h3⟩,h4,⟨ps,h5,h6,h7⟩,h8⟩:=h;exact⟨⟨L,Bs D hg hr,N.mono λ_ _ x=>Bs x hg hr,h3⟩,Bs h4 hg hr,⟨ps,Bs h5 hg hr,h6.mono λ_ _ x=>⟨Bs x.1 hg hr,x.2⟩,h7⟩,Bs h8 hg hr⟩
theorem UH(w:World)(s:ByteArray)(t:TypeId):BY (w.alloc (.cells #[.string s] t)) (.slice (some ⟨w.heap.size,0,none⟩) 1 1) [s]:=
 Rd.zC w #[.string s] t 1 1 _ rfl rfl (by simp[maxLen])
theorem aY(w:World)(a b c:ByteArray)(t u:TypeId):
 L6 ((((w.alloc (.cells #[.string a] t)).alloc (.cells #[.string b] t)).alloc (.cells #[.string c] t)).alloc (.cells #[.slice (some ⟨w.heap.size,0,none⟩) 1 1,.slice (some ⟨w.heap.size+1,0,none⟩) 1 1,.slice (some ⟨w.heap.size+1+1,0,none⟩) 1 1] u))
  (.slice (some ⟨w.heap.size+1+1+1,0,none⟩) 3 3) [[a],[b],[c]]:=by
 have D:=UH w a t;have N:=UH (w.alloc (.cells #[.string a] t)) b t;have h3:=UH ((w.alloc (.cells #[.string a] t)).alloc (.cells #[.string b] t)) c t;simp only[xx] at N h3;refine⟨[.slice (some ⟨w.heap.size,0,none⟩) 1 1,.slice (some ⟨w.heap.size+1,0,none⟩) 1 1,.slice (some ⟨w.heap.size+1+1,0,none⟩) 1 1],?_,rfl,?_⟩
 .exact Rd.zC _ #[_,_,_] u 1 3 _ (by simp) rfl (by simp[maxLen])
 .intro i x y hx hy
  match i,hx,hy with
  |0,hx,hy=>simp at hx hy;subst hx hy;exact((BK.below D (AI _ _)).below (AI _ _)).below (AI _ _)
  |1,hx,hy=>simp at hx hy;subst hx hy;exact(BK.below N (AI _ _)).below (AI _ _)
  |2,hx,hy=>simp at hx hy;subst hx hy;exact BK.below h3 (AI _ _)
def NR:List (List ByteArray):=[[gA],[gB],[gC]]
theorem QP:∀ts∈NR,BW ts=true:=by
 intro ts h;simp only[NR,List.mem_cons,List.not_mem_nil,or_false] at h
 rcases h with rfl|rfl|rfl<;>decide+kernel
theorem Rm:∀ts∈NR,Db ts:=λts h=>Gc (QP ts h)
theorem VP:NQ NR=EF 0:=by kernel_rfl
def TS(r:Ending):Prop:=r=.returned (.tuple #[AN (.slice none 0 0) (.slice none 0 0) (.slice none 0 0) (.slice none 0 0) (.slice none 0 0) (.slice none 0 0) (.slice none 0 0) 0 0,.bool false])
theorem YF:(madeCells (Value.agg #[.int .i64 0,.int .i64 0,.bool false]).cells (16*3)).toList=Cc DG (xR 16 ⟨0,0,false⟩):=by kernel_rfl
def Vk(lo:Nat)(v:Value)(w:World)(m i e c:Value)(l:Int):Prop:=∃s q,v=.agg #[m,i,e,c,s,.slice none 0 0,q,.int .i64 0,.int .i64 l]/\Au lo w s (xR 16 (.slice none 0 0)) (xR 16 [])/\AQ lo 43 3 DG w q (xR 16 ⟨0,0,false⟩)
theorem Vk.below{lo:Nat}{w w':World}{m i e c:Value}{l:Int}(h:Vk lo v w m i e c l)(J:Below w.heap.size w w'):Vk lo v w' m i e c l:=by obtain⟨s,q,D,N,h3⟩:=h;exact⟨s,q,D,N.below J,h3.below J⟩
def L5(lo:Nat)(v:Value)(w:World):Prop:=∃g,v=.pointer (some ⟨g,0,none⟩)/\lo<=g/\w.heap[g]?=some (.cells #[.slice none 0 0,.slice none 0 0,.slice none 0 0,.slice none 0 0,.slice none 0 0,.slice none 0 0,.slice none 0 0,.int .i64 0,.int .i64 0] 32 (0,0))
theorem L5.below{lo:Nat}{w w':World}(h:L5 lo v w)(J:Below w.heap.size w w'):L5 lo v w':=by obtain⟨g,D,N,h3⟩:=h;exact⟨g,D,N,AB h3 J⟩
theorem MH{w:World}{lo e sz n:Nat}{xs:List Value}(h:w.ownsRow lo e sz v n xs):∃a n c,v=.slice a n c:=by
 rcases h.2 with⟨rfl,_⟩|⟨g',cg,fu,rfl,_⟩
 .exact⟨_,_,_,rfl⟩
 .exact⟨_,_,_,rfl⟩
def Lj(k:Nat):List Int:=(yC k).map λj=>((j+1:Nat):Int)
theorem WZ(k:Nat):Lj (k+1)=Lj k++[((k+1:Nat):Int)]:=by simp[Lj,xt]
theorem Si(k:Nat):(Lj k).length=k:=by simp[Lj]
def dE(lo g:Nat)(w:World)(s l q:Value)(P:AR)(k':AO)(w':World):Prop:=
 (∃m i e c,Gi lo g w' m i e c s l q {P with zV:=k'}/\Da w.heap.size w' m i e c k')/\Below lo w w'/\w.grownBy w' (some g)
theorem Iu{lo:Nat}{w:World}{xs:List Int}(h:AF lo w v xs){j:Nat}(E:j<xs.length):∃b cg,v=.slice (some ⟨b,0,none⟩) xs.length cg/\b<w.heap.size/\w.cell? ⟨b,j,none⟩=some (.int .i64 (xs.getD j 0)):=by
 have h0:=h;unfold AF at h0
 rcases h0.2 with⟨rfl,e⟩|⟨b,cg,fu,rfl,_,_,_⟩
 .omega
 .refine⟨b,cg,rfl,(yk h0 b rfl).2,?_⟩
  have:=xB h0 j (by omega);rw[this];simp[xO,E]
theorem QY{lo g:Nat}{w:World}{P:AR}(h:Gi lo g w mv iv ev cv sv lv qv P)(cu:lo<=w.heap.size)(hK:DQ P.zV)(fX:P.low.length=4){n:Nat}(hn:n<16)(wd:Int)(hw:wd<=9223372036854775807):
 Calls prog 86 #[.pointer (some ⟨g,0,none⟩),.int .i64 n,.int .i64 wd] w (λr w'=>r=.returned (.tuple #[])/\dE lo g w sv lv qv P (Ae P.zV (Ig P n wd)).1 w'):=by
 obtain⟨a,ha⟩:∃a,a=n/4:=⟨_,rfl⟩
 obtain⟨b,J⟩:∃b,b=n%4:=⟨_,rfl⟩
 have e:Ae P.zV (Ig P n wd)=Ae P.zV ⟨6,0,BO P.low a,(b:Int),wd,⟨#[]⟩⟩:=by subst ha J;exact(LY ⟨by decide,by decide,by decide⟩)
 rw[e];have q1:(n:Int)/4=(a:Int):=by omega
 have q2:(n:Int)%4=(b:Int):=by omega
 have C:=Je h cu hK ⟨6,0,BO P.low a,(b:Int),wd,⟨#[]⟩⟩ (show(0:Int)<=0 by decide) (show(0:Int)<3 by decide) (yg _) (by unfold Ia;simp) hw;obtain⟨_,_,_,_,_,c5,_⟩:=h.cells;obtain⟨lb,lc,rfl,gu,h1⟩:=Iu h.own.low (j:=a) (by omega);rw[fX] at C c5;replace h1:w.cell? ⟨lb,a,none⟩=some (.int .i64 (BO P.low a)):=h1;have nS:(a:Int)<4:=by omega
 have Hn:=AA hn;generalize BO P.low a=la at*;dsimp only at C;unfold Xf at C;clear h ha J e hn;go_in;go_wp2_with (refine C.mono ?_;rintro r w1 ⟨rfl,N⟩;have H2:=AA N;clear N C h1 c5);go_returns;exact⟨rfl,by rw[fX];exact H2.out⟩
theorem V6{l:List Bo}{x:Bo}(h:l[k]?=some x)(wh:Int):Aj (l.take (k+1)) wh=Aj (l.take k) wh+EN (OK wh x):=by rw[DA h];unfold Aj;rw[List.countP_append];simp[wZ,EN]
theorem QW{g:Nat}{w:World}{ps:List Bo}(hq:w.cell? ⟨g,6,none⟩=some qv)(hR:BK 3 DG w qv ps)(hl:ps.length=16)(wh:Int):
 Calls prog 57 #[.pointer (some ⟨g,0,none⟩),.int .i64 wh] w (λr w'=>r=.returned (.int .i64 (Aj ps wh:Int))/\Below w.heap.size w w'):=by
 obtain⟨a,c,rfl,_⟩:=hR.shape;have H0:=TM.of En (by decide) hR;rw[hl] at hq;go_in;go_wp2_with fail;go_loopw [5,7,13] (λn _ R wr=>∃k:Nat,k<=16/\R=.int .i64 k/\n=.int .i64 (Aj (ps.take k) wh:Int)/\Below w.heap.size w wr) (λ_ _ R _=>16 - (intOf R).toNat)
 exact⟨0,by omega,rfl,rfl,yD _ _⟩
 obtain⟨k,V,rfl,rfl,J⟩:=hrel
 by_cases bk:k<16
 .obtain⟨x,hx⟩:∃x,ps[k]?=some x:=⟨_,yw (by omega)⟩
  obtain⟨b,bp,rfl,bu,hc⟩:=(H0.below J) k x hx;have D0:=hc 0 _ rfl;have D1:=hc 1 _ rfl;have D2:=hc 2 _ rfl;rw[xK] at D0;have Nx:=AA (V6 hx wh);have iI:Aj (ps.take k) wh<=16:=by unfold Aj;exact yB vW (by rw[xT];omega)
  generalize Aj (ps.take k) wh=n at*;have m9:(k:Int)<16:=by omega
  obtain⟨xw,xa,xu⟩:=x;have bw:=AA (J.trans ((AI wr (.cells #[.int .i64 xw,.int .i64 xa,.bool xu] 43)).mono J.size));clear hc hx H0 hR
  by_cases hw:xw=wh
  focus
   subst hw
   have t1:EN (OK xw ⟨xw,xa,xu⟩)=1:=by simp[OK,EN]
  rotate_left
  focus
   have t1:EN (OK wh ⟨xw,xa,xu⟩)=0:=by simp[OK,EN,hw]
   have t2:(xw==wh)=false:=by simp[hw]
   clear hw
  rotate_left
  all_goals
   go_wp2_with fail;go_roundw;exact⟨k+1,by omega,by go_num,by rw[Nx.out,t1];go_num,bw.out⟩;simp[intOf];omega
 .obtain rfl:k=16:=by omega
  rw[wH (by omega)];go_wp2_with fail;go_ret;exact⟨rfl,J⟩
theorem Gs(L:List Value):Cc GO L=L:=by
 induction L with
 |nil=>rfl
 |cons v L ih=>rw[G0,ih];rfl
theorem Au.set{lo B:Nat}{w:World}{gs:Nat}{S:List (List Int)}{v':Value}{r:List Int}(h:Au lo w0 (.slice (some ⟨gs,0,none⟩) n cg) L S)(J:Below w0.heap.size w0 w)(hO:AF B w v' r)(hB:w0.heap.size<=B)(cu:lo<=w0.heap.size)(hn:n=L.length)(E:j<L.length):
 Au lo (w.setCell ⟨gs,j,none⟩ v') (.slice (some ⟨gs,0,none⟩) n cg) (L.set j v') (S.set j r)/\w.grownBy (w.setCell ⟨gs,j,none⟩ v') (some gs):=by
 have h':=h.below J;obtain⟨D,⟨kW,N⟩,h3⟩:=h';have g1:w.ownsRow lo 29 1 (.slice (some ⟨gs,0,none⟩) n cg) n L:=by have:=D;unfold AQ at this;rw[Gs,<-hn] at this;exact this
 obtain⟨s1,s2⟩:=wJ g1 j v';obtain⟨fu,ei⟩:=A6 g1 gs rfl;have old:∀(i:Nat) u,L[i]?=some u->∀b,u.ownBlock=some b->b<w0.heap.size:=λi u hu b fL=>by
  obtain⟨x,hx⟩:∃x,S[i]?=some x:=⟨_,yw (by rw[<-kW];exact(yt.1 hu).1)⟩
  exact(yk (h.2.1.2 i u x hu hx) b fL).2
 refine⟨⟨?_,⟨by rw[xP,xP];exact kW,λi u x hu hx=>?_⟩,λi k u u' l3 hu gh=>?_⟩,s2⟩
 .unfold AQ
  rw[Gs,xP,<-hn];exact s1
 .rw[vV] at hu hx
  by_cases e:j=i
  .subst e
   rw[if_pos rfl,if_pos E] at hu;rw[if_pos rfl,if_pos (by rw[<-kW];exact E)] at hx;cases hu;cases hx;exact FE (BU hO (yB cu hB)) s2 ei
  .rw[if_neg e] at hu hx
   exact FE (N i u x hu hx) s2 ei
 .have fresh:∀b,v'.ownBlock=some b->w0.heap.size<=b:=λb fL=>yB hB (yk hO b fL).1
  rw[vV] at hu gh
  by_cases e:j=i
  .subst e
   rw[if_pos rfl,if_pos E] at hu;rw[if_neg l3] at gh;cases hu;intro b bx bl;have:=fresh b bx;have:=old k u' gh b bl;omega
  .rw[if_neg e] at hu
   by_cases e':j=k
   .subst e'
    rw[if_pos rfl,if_pos E] at gh;cases gh;intro b bx bl;have:=fresh b bl;have:=old i u hu b bx;omega
   .rw[if_neg e'] at gh
    exact h3 i k u u' l3 hu gh
theorem UX(v:Value)(r:List Int)(w:World)(h:Ax w v r):Calls prog 187 #[v] w λe w'=>e=.returned (.bool r.isEmpty)/\Below w.heap.size w w':=by obtain⟨a,c,rfl,_,_,_⟩:=h.open;have S:=AA (show((r.length:Int)==0)=r.isEmpty by cases r<;>simp<;>omega);go_in;go_wp2_with fail;go_ret;exact⟨AH S.out,yD _ _⟩
theorem Va{lo:Nat}{w:World}{S:List (List Int)}{r:List Int}(hs:Au lo w sv L S)(hl:S.length=16)(cu:lo<=w.heap.size)(hr:Ax w v r)(h4:r.length<=4){j:Nat}(E:Bd S=(j:Int))(nC:j<16):
 Calls prog 137 #[sv,v] w (λe w'=>e=.returned (.int .i64 j)/\(∃cq,Au lo w' sv cq (S.set j r))/\Below lo w w'/\w.grownBy w' sv.ownBlock):=by
 have cT:L.length=16:=by rw[hs.2.1.1,hl]
 have C:=J5 187 #[] List.isEmpty sv S w hs.rd (λ_ _=>by kernel_rfl) (λu r _ W _ hr=>UX u r W hr);rw[show F8 List.isEmpty S=(j:Int) from E] at C;obtain⟨gs,cg,rfl,c1,c2,q1,q2,dq⟩:=hs.1.zM (by omega);rw[cT] at hs C ⊢;have pD:¬(j:Int)<0:=by omega
 have pC:(j:Int)<16:=by omega
 go_in;go_wp2_with fail;refine C.mono ?_;rintro e w1 ⟨rfl,b1⟩;go_wp2_with fail;refine(IZ v r w1 (hr.below b1) (by omega)).mono ?_;rintro e w2 ⟨v',rfl,hO,b2⟩;have bb:=b1.trans (b2.mono b1.size);have ix:=hs.set (B:=w1.heap.size) (j:=j) bb hO b1.size cu cT.symm (by omega);have g1:w2.ownsRow lo 29 1 (.slice (some ⟨gs,0,none⟩) 16 cg) 16 L:=by have:=(hs.below bb).1;unfold AQ at this;rwa [Gs,cT] at this
 have C1:=xB g1 j (by omega);rw[yw (by omega)] at C1;have F1:=xJ g1 j;have B1:=AA (AM (bb.mono cu) ix.2 (yk hs.1 gs rfl).1 (yB cu bb.size));have G1:=AA (AP (⟨bb.os,bb.tape,bb.output,bb.size,λk V _=>bb.block k V⟩:w.grownBy w2 (some gs)) ix.2);have R1:=AA ix.1;have p3:(16:Int)<=cg:=by omega
 obtain⟨ra,rn,rc,rfl⟩:=MH hO;clear C hO ix g1 b1 b2 bb dq;go_wp2_with fail;go_ret;exact⟨rfl,⟨_,R1.out⟩,B1.out,G1.out⟩
theorem Wc{zZ:List AV}{f:Nat}(V:TR (zS zZ f)):F3 zZ f=(decide ((zS zZ f).g=gA)&&decide ((zS zZ f).r=1)&&decide ((zS zZ f).k≠0)):=by
 unfold F3
 by_cases h:(zS zZ f).g=gA
 .have:(zS zZ f).k≠0:=λe=>by
   rcases V with⟨_,g⟩|⟨a,_⟩
   .rw[h] at g;cases g
   .omega
  simp[this]
 .simp[h]
theorem Mm{g:Nat}{w:World}{zZ:List AV}(hi:w.cell? ⟨g,1,none⟩=some iv)(hR:BK 3 A3 w iv zZ)(hl:zZ.length=12){f:Nat}(hf:f<12)(V:TR (zS zZ f)):
 Calls prog 108 #[.pointer (some ⟨g,0,none⟩),.int .i64 f] w (λr w'=>r=.returned (.bool (F3 zZ f))/\Below w.heap.size w w'):=by
 have hj:=AA (Wc V);obtain⟨a,c,rfl,kK,jA⟩:=hR.shape;have H0:=TM.of A0 (by decide) hR;have hx:zZ[f]?=some (zS zZ f):=Cq (by omega);obtain⟨b,bp,rfl,bu,hc⟩:=H0 f _ hx;have D0:=hc 0 _ rfl;have D1:=hc 1 _ rfl;have D2:=hc 2 _ rfl;rw[xK] at D0;rw[hl] at hi;have jy:(f:Int)<12:=by omega
 generalize zS zZ f=x at*;obtain⟨k,gd,r⟩:=x;dsimp only at D0 D1 D2 hj;clear hc H0 hR hx V hl;have eg:gd=gA↔gd.toList=[97]:=⟨λh=>by subst h;rw[xj];rfl,λh=>by rw[xj] at h;cases gd with|mk d=>cases d with|mk l=>simp at h;subst h;rfl⟩
 by_cases hg:gd.toList=[97]
 .have t1:(gd.toList==[97])=true:=by simp[hg]
  by_cases hr:r=1
  .subst hr
   have t3:(k !=0)=decide (k≠0):=by by_cases h:k=0<;>simp[h]
   have E2:=AA (show F3 zZ f=(k !=0) by rw[hj.out,t3];simp[eg.2 hg]);clear hg eg hj t3;go_in;go_wp2_with fail;go_ret;exact⟨AH E2.out.symm,AI _ _⟩
  .have t2:(r==1)=false:=by simp[hr]
   have E2:=AA (show F3 zZ f=false by rw[hj.out];simp[hr]);clear hg eg hj hr;go_in;go_wp2_with fail;go_ret;exact⟨AH E2.out.symm,AI _ _⟩
 .have t1:(gd.toList==[97])=false:=by simp[hg]
  have E2:=AA (show F3 zZ f=false by rw[hj.out];simp[eg,hg]);clear hg eg hj;go_in;go_wp2_with fail;go_ret;exact⟨AH E2.out.symm,AI _ _⟩
theorem YR{g:Nat}{w:World}{P:AR}(hB:w.heap[g]?=some (.cells #[mv,iv,ev,cv,sv,lv,qv,.int .i64 P.zR,.int .i64 P.zU] 32 (0,0)))(h:Jy w mv iv ev cv sv lv qv P)(hm:P.zV.mem.length=12)(hr:∀f,f<12->(AG P.zV.mem f).length=4)(fX:P.low.length=4){n:Nat}(hn:n<16)(cu:0<=BO P.low (n/4)/\BO P.low (n/4)<=11):
 Calls prog 112 #[.pointer (some ⟨g,0,none⟩),.int .i64 n] w (λr w'=>r=.returned (.int .i64 (Bt P n))/\Below w.heap.size w w'):=by
 unfold Bt As;obtain⟨ja,ha⟩:∃ja,ja=n/4:=⟨_,rfl⟩
 obtain⟨jb,J⟩:∃jb,jb=n%4:=⟨_,rfl⟩
 rw[<-ha] at cu ⊢;rw[<-J];have q1:(n:Int)/4=(ja:Int):=by omega
 have q2:(n:Int)%4=(jb:Int):=by omega
 have pi:(n:Int).tmod 4=(jb:Int):=by rw[Int.tmod_eq_emod_of_nonneg (by omega)];exact q2
 have f3:jb<4:=by omega
 have nS:ja<4:=by omega
 obtain⟨x0,_,_,_,_,x5,_⟩:=AD hB;have hg:=AW hB;obtain⟨al,lc,rfl,_,_,HL⟩:=h.2.2.1.open;obtain⟨lb,ii,rfl,DL⟩:=HL.at (k:=ja) (by omega);have gu:=yA w _ DL;replace DL:w.cell? ⟨lb,ii+ja,none⟩=some (.int .i64 (BO P.low ja)):=DL;obtain⟨f,hf⟩:∃f:Nat,BO P.low ja=(f:Int):=⟨(BO P.low ja).toNat,by omega⟩
 rw[hf] at DL cu ⊢;have di:f<12:=by omega
 obtain⟨L,o1,o2⟩:=h.1.1;have cT:L.length=12:=by rw[o2.1,hm]
 obtain⟨am,cm,rfl,kJ,_,HM⟩:=BK.open ER (by decide) o1;obtain⟨u,hu⟩:∃u,L[f]?=some u:=⟨_,yw (by omega)⟩
 have dg:=o2.2 f u (AG P.zV.mem f) hu (by unfold AG;exact A2 (by omega));obtain⟨gm,j9,rfl,gx,jl⟩:=HM f u hu;have DR:=jl 0 _ rfl;obtain⟨ar,rc,rfl,_,_,i9⟩:=dg.open;obtain⟨rb,jo,rfl,DW⟩:=i9.at (k:=jb) (by rw[hr f di];exact f3);have nh:=yA w _ DW;rw[wB,xK,hr f di] at DR;rw[cT] at x0;rw[fX] at x5;rw[show((f:Int)).toNat=f from rfl];have jy:(f:Int)<12:=by omega
 have pP:(ja:Int)<4:=by omega
 have ck:(jb:Int)<4:=by omega
 unfold nth at DW;generalize(AG P.zV.mem f).getD jb 0=wd at DW ⊢;clear h hm hr fX cu hf o1 o2 dg hu cT kJ ha J HL HM i9 jl hB;go_in;go_wp2_with fail;refine Aa 19 24 [.p g 0,.p g 0,.p g 0,.p g 0,.v (.slice (some ⟨gm,j9,none⟩) 12 cm),.p g 0,.p g 0,.p g 5,.v (.slice (some ⟨lb,ii,none⟩) 4 lc),.i ((n:Int)),.i ((ja:Int)),.p lb (ii+ja),.i ((f:Int)),.p gm (j9+f),.v (.slice (some ⟨rb,jo,none⟩) 4 rc),.i ((n:Int)),.i ((jb:Int)),.p rb (jo+jb),.i wd] (λ_ _ _=>True) ?_ ?_
 .intro i hi o O a H Z A Y hW z
  have br:=bc Y hg x5;have bB:=bc Y gu DL;have cN:=bc Y gx DR;have eU:=bc Y nh DW
  match i,hi with
  |0,_|1,_|2,_|3,_|5,_|6,_|7,_|9,_|15,_=>exact sP O z Z A
  |4,_=>exact sL O z Z A (hl:=F9 (bc Y hg x0))
  |8,_|14,_=>exact sL O z Z A (hl:=KU ‹_›)
  |11,_|13,_|17,_=>exact sI O z Z A (hr:=by clear A Z z;go_simp)
  |12,_|18,_=>exact sL O z Z A (hl:=FT ‹_›)
  |10,_=>clear br bB cN eU;obtain rfl:=yF O;have d9:(a.tmps[14]?.getD undef)=.int .i64 n:=Ba A 9;clear A Z;refine yE ?_;go_simp;exact z.out _ _ (by show xY .i64 (IntKind.i64.wrap _)=_;rw[IntWalk.i64_in _ (by omega)]) (yD _ _)
  |16,_=>clear br bB cN eU;obtain rfl:=yF O;have gI:(a.tmps[20]?.getD undef)=.int .i64 n:=Ba A 15;clear A Z;refine yE ?_;go_simp;exact z.out _ _ rfl (yD _ _)
  |_+19,hq=>omega
 .intro L H hR Y
  have lJ:(L 18)=.int .i64 wd:=BS hR 18;clear hR;simp only[Ak,Ah,yC,yy,yz,yx,lJ];simp;clear lJ;go_wp2_with fail;go_ret;exact⟨rfl,Y⟩
theorem OE{p:Nat->Bool}(V:k<n)(h:p k=false):(yC n).all p=false:=wP.2 ⟨k,xS.2 V,by simp[h]⟩
theorem Ni{g:Nat}{w:World}{P:AR}(hB:w.heap[g]?=some (.cells #[mv,iv,ev,cv,sv,lv,qv,.int .i64 P.zR,.int .i64 P.zU] 32 (0,0)))(h:Jy w mv iv ev cv sv lv qv P)(hK:DQ P.zV):
 Calls prog 53 #[.pointer (some ⟨g,0,none⟩)] w (λr w'=>r=.returned (.bool (Bv P))/\Below w.heap.size w w'):=by
 have T:Bv P=(decide (0<=Ab P.zV 0)&&decide (P.low.length=4)&&F3 P.zV.zZ (Ab P.zV 0).toNat&&(yC 4).all (Fk P)):=rfl;have vs:∀i,Fk P i=(BZ (BO P.low i) 0 11&&decide (As P.zV.mem (Ab P.zV 0).toNat i=IB (BO P.low i))&&F3 P.zV.zZ (BO P.low i).toNat):=λi=>rfl
 obtain⟨x0,x1,x2,_,_,x5,_⟩:=AD hB;obtain⟨ps,jz,g8⟩:=h.1.2.2.1;have eE:ps.length=3:=by rw[g8.1,hK.zN]
 obtain⟨ae,ce,rfl,_,_,HE⟩:=BK.open Fm (by decide) jz;obtain⟨p0,hp0⟩:∃p,ps[0]?=some p:=⟨_,yw (by omega)⟩
 obtain⟨ge,n3,rfl,_,fj⟩:=HE 0 p0 hp0;have DE:=fj 1 _ rfl;rw[show p0.2=Ab P.zV 0 from(g8.2 0 p0 (AJ P.zV.zX 0) hp0 (by unfold AJ;exact A2 (by rw[hK.zN];omega))).2,Nat.zero_mul,xK] at DE;rw[eE] at x2;obtain⟨al,lc,rfl,nz,eF,HL⟩:=h.2.2.1.open;unfold maxLen at eF;have iP:=h.1.2.1;have iD:=hK.len;have iO:=AA hK.inf
 rcases hK.roots 0 (by omega) with hr|⟨eM,jt,js⟩
 .have S:=AA (show Bv P=false by rw[T,hr];rfl)
  rw[hr] at DE;clear T vs hr iP iO iD HL h hB hK;go_in;go_wp2_with fail;go_ret;exact⟨AH S.out.symm,yD _ _⟩
 .obtain⟨rn,hrn⟩:∃n:Nat,Ab P.zV 0=(n:Int):=⟨(Ab P.zV 0).toNat,by omega⟩
  have es:rn<12:=by omega
  simp only[hrn,yd] at T vs;rw[hrn] at DE;have nr:¬(rn:Int)<0:=by omega
  by_cases g0:P.low.length=4
  .have CR:=AA (λW (K:Below w.heap.size w W)=>Mm (w:=W) (f:=rn) ((K.cell (yA w _ x1)).trans x1) (BK.below iP K) iD es (iO.out rn es))
   obtain⟨L,o1,o2⟩:=h.1.1;have cT:L.length=12:=by rw[o2.1];exact(Ai.1 hK.mem).1
   obtain⟨am,cm,rfl,_,_,HM⟩:=BK.open ER (by decide) o1;obtain⟨u,hu⟩:∃u,L[rn]?=some u:=⟨_,yw (by omega)⟩
   have dg:=o2.2 rn u (AG P.zV.mem rn) hu (by unfold AG;exact A2 (by rw[<-o2.1];omega));have dX:(AG P.zV.mem rn).length=4:=(A4.1 ((Ai.1 hK.mem).2 rn es)).1;obtain⟨gm,j9,rfl,_,jl⟩:=HM rn u hu;have DR:=jl 0 _ rfl;obtain⟨ar,rc,rfl,_,_,i9⟩:=dg.open;rw[wB,xK,dX] at DR;rw[cT] at x0;rw[g0] at x5;have HF:=AA (xU x0 (xU x1 (xU x5 DR)));have jT:=AA (xU i9 (xU dX (xU HL g0)));have pt:(0:Int)<=(rn:Int):=by omega
   have T2:=AA (show Bv P=(F3 P.zV.zZ rn&&(yC 4).all (Fk P)) by rw[T];simp[g0]);have oO:=AA vs;have CI:=AA (λ(f:Nat)(hf:f<12) W (K:Below w.heap.size w W)=>Mm (w:=W) (f:=f) ((K.cell (yA w _ HF.out.2.1)).trans HF.out.2.1) (BK.below iP K) iD hf (iO.out f hf));clear T vs eM jt js hrn iP iO iD HL h hB hK o1 o2 dg hu cT HM jl i9 dX nz DR g0 x1;cases hm:F3 P.zV.zZ rn
   .rw[hm] at CR T2
    go_in;go_wp2_with (refine(CR.out _ (yD _ _)).mono ?_;rintro r w1 ⟨rfl,b1⟩);go_ret;exact⟨AH T2.out.symm,b1⟩
   .rw[hm] at CR T2
    go_in;go_wp2_with fail;refine(CR.out _ (yD _ _)).mono ?_;rintro r w1 ⟨rfl,b1⟩;replace x5:=(b1.cell (yA w _ x5)).trans x5;have b9:=AA b1;clear x0 x2 DE b1;go_wp2_with fail;clear x5;go_loopw [4,5,6,7,37] (λ_ _ _ _ R wr=>∃k:Nat,k<=4/\R=.int .i64 k/\(∀j,j<k->Fk P j=true)/\Below w.heap.size w wr) (λ_ _ _ _ R _=>4 - (intOf R).toNat)
    exact⟨0,by omega,rfl,λj E=>by omega,b9.out⟩
    obtain⟨k,V,rfl,bY,J⟩:=hrel
    by_cases bk:k<4
    .have k4:(k:Int)<4:=by omega
     obtain⟨lb,ii,rfl,DL⟩:=jT.out.2.2.1.at (k:=k) (by rw[jT.out.2.2.2];exact bk);obtain⟨rb,jo,rfl,DW⟩:=jT.out.1.at (k:=k) (by rw[jT.out.2.1];exact bk);replace DL:=(J.cell (yA w _ DL)).trans DL;replace DW:=(J.cell (yA w _ DW)).trans DW;have x0:=(J.cell (yA w _ HF.out.1)).trans HF.out.1;have DR:=(J.cell (yA w _ HF.out.2.2.2)).trans HF.out.2.2.2;have dy:=AA bY;have Z:=AA J;have LK:=oO.out k;replace DL:wr.cell? ⟨lb,ii+k,none⟩=some (.int .i64 (BO P.low k)):=DL;replace DW:wr.cell? ⟨rb,jo+k,none⟩=some (.int .i64 (As P.zV.mem rn k)):=DW;generalize BO P.low k=v at DL LK;generalize As P.zV.mem rn k=wd at DW LK;clear bY J;cases dh:BZ v 0 11
     .have S:=AA (show Bv P=false by rw[T2.out,OE bk (by rw[LK,dh];rfl)];rfl)
      clear LK;go_wp2_with (refine(Oa v true _ dh).mono ?_;rintro r w3 ⟨rfl,rfl⟩);go_ret;exact⟨AH S.out.symm,Z.out⟩
     .have hv:=AZ.1 dh
      obtain⟨f,rfl⟩:∃f:Nat,v=(f:Int):=⟨v.toNat,by omega⟩
      have hf:f<12:=by omega
      have CF:=AA (CI.out f hf wr Z.out);rw[dh,yd] at LK;go_wp2_with fail;refine(JP (f:Int) _ hv.1 hv.2).mono ?_;rintro r w3 ⟨rfl,rfl⟩
      by_cases he:wd=IB (f:Int)
      .have t1:(wd !=IB (f:Int))=false:=by simp[he]
       have jP:Fk P k=F3 P.zV.zZ f:=by rw[LK];simp[he]
       generalize IB (f:Int)=en at t1;clear LK he dh;go_wp2_with fail;refine CF.out.mono ?_;rintro r w4 ⟨rfl,b4⟩;have gO:=AA (Z.out.trans (b4.mono Z.out.size));cases lT:F3 P.zV.zZ f
       .have S:=AA (show Bv P=false by rw[T2.out,OE bk (by rw[jP,lT])];rfl)
        clear jP b4;go_wp2_with fail;go_ret;exact⟨AH S.out.symm,gO.out⟩
       .have oe:=AA (jP.trans lT)
        clear jP b4;go_wp2_with fail;go_roundw
        case rel=>exact⟨k+1,by omega,by go_num,λj E=>by
         rcases xl.1 E with x|x
         .exact dy.out j x
         .subst x;exact oe.out,gO.out⟩
        case measure=>simp[intOf];omega
      .have t1:(wd !=IB (f:Int))=true:=by simp[he]
       have S:=AA (show Bv P=false by rw[T2.out,OE bk (by rw[LK];simp[he])];rfl);generalize IB (f:Int)=en at t1;clear LK he dh;go_wp2_with fail;go_ret;exact⟨AH S.out.symm,Z.out⟩
    .obtain rfl:k=4:=by omega
     have S:=AA (show Bv P=true by rw[T2.out,Bool.true_and];exact xZ.2 λj E=>bY j (xS.1 E));clear bY;rw[show((4:Nat):Int)=4 from rfl];go_wp2_with fail;go_ret;exact⟨AH S.out.symm,J⟩
  .have S:=AA (show Bv P=false by rw[T];simp[g0])
   have t4:((P.low.length:Int) !=4)=true:=by simp;omega
   clear T vs eM jt js hrn iP iO iD HL h hB hK g0;go_in;go_wp2_with fail;go_ret;exact⟨AH S.out.symm,yD _ _⟩
def Eo(P:AR)(n:Nat):Bool:=
 if(AC P.zY n).w=0 then decide ((AC P.zY n).a=0)&&!(AC P.zY n).u&&decide (Bt P n=0)
 else if(AC P.zY n).w=1 then BZ (AC P.zY n).a 0 11&&decide (Bt P n=IB (AC P.zY n).a)&&F3 P.zV.zZ (AC P.zY n).a.toNat
 else if(AC P.zY n).w=2 then BZ (AC P.zY n).a 0 15&&!(AC P.zY n).u&&decide (Bt P n=0)
 else false
def GM(ks:List Int)(x:Bo):List Int:=if x.w=2 then ks.set x.a.toNat (nth ks x.a.toNat+1) else ks
def JY(lo:Nat)(v:Value)(w:World):Prop:=∃q,v=.pointer (some ⟨q,0,none⟩)/\lo<=q/\w.heap[q]?=some (.cells #[.int .i64 0,.int .i64 0,.bool false] 43 (0,0))
theorem JY.below{lo:Nat}{w w':World}(h:JY lo v w)(J:Below w.heap.size w w'):JY lo v w':=by obtain⟨q,D,N,h3⟩:=h;exact⟨q,D,N,AB h3 J⟩
def TT(lo:Nat)(w:World)(kv:Value)(ks:List Int)(b:Bool)(r:Ending)(w':World):Prop:=r=.returned (.bool b)/\AF lo w' kv ks/\w.grownBy w' kv.ownBlock/\Below lo w w'
theorem Wi{lo g:Nat}{w:World}{kv:Value}{P:AR}{ks:List Int}(hB:w.heap[g]?=some (.cells #[mv,iv,ev,cv,sv,lv,qv,.int .i64 P.zR,.int .i64 P.zU] 32 (0,0)))(h:Jy w mv iv ev cv sv lv qv P)(hK:DQ P.zV)(fX:P.low.length=4)(cu:∀i,i<4->0<=BO P.low i/\BO P.low i<=11)(eE:P.zY.length=16)
 (V:AF lo w kv ks)(gv:ks.length=16)(lW:∀j,j<16->0<=nth ks j/\nth ks j<=1000)(fa:lo<=w.heap.size){n:Nat}(hn:n<16):
 Calls prog 55 #[.pointer (some ⟨g,0,none⟩),.int .i64 n,kv] w (λr w'=>∃gV,TT lo w kv gV (Eo P n) r w'/\(Eo P n=true->gV=GM ks (AC P.zY n))):=by
 have CW:=AA (λW (K:Below w.heap.size w W)=>YR (w:=W) (AB hB K) (h.below K) (Ai.1 hK.mem).1 (λf hf=>(A4.1 ((Ai.1 hK.mem).2 f hf)).1) fX hn (cu (n/4) (by omega)));have x6:=(AD hB).2.2.2.2.2.2.1;have x1:=(AD hB).2.1;have CM:=AA (λ(f:Nat)(hf:f<12) W (K:Below w.heap.size w W)=>Mm (w:=W) (f:=f) ((K.cell (yA w _ x1)).trans x1) (BK.below h.1.2.1 K) hK.len hf (hK.inf f hf));obtain⟨aq,qc,rfl,it,gY,HQ⟩:=BK.open En (by decide) h.2.2.2;rw[eE] at x6 it;obtain⟨qb,lI,rfl,kl,hc⟩:=HQ n _ (show P.zY[n]?=some (AC P.zY n) from A2 (by omega));have D0:=hc 0 _ rfl;have D1:=hc 1 _ rfl;have D2:=hc 2 _ rfl;rw[xK] at D0;have hg:=AW hB;have PH:Eo P n=(if(AC P.zY n).w=0 then decide ((AC P.zY n).a=0)&&!(AC P.zY n).u&&decide (Bt P n=0) else if(AC P.zY n).w=1 then BZ (AC P.zY n).a 0 11&&decide (Bt P n=IB (AC P.zY n).a)&&F3 P.zV.zZ (AC P.zY n).a.toNat else if(AC P.zY n).w=2 then BZ (AC P.zY n).a 0 15&&!(AC P.zY n).u&&decide (Bt P n=0) else false):=rfl;generalize Eo P n=res at PH ⊢;generalize Bt P n=tw at PH CW;generalize AC P.zY n=x at PH D0 D1 D2 ⊢;obtain⟨xw,xa,xu⟩:=x;dsimp only at PH D0 D1 D2;have kq:(n:Int)<16:=by omega
 have fE:=AA PH;have mI:=AA V;clear PH hc HQ h hB hK fX cu eE x1 it gY V;obtain⟨ka,kn,kc,rfl⟩:=MH mI.out;go_in;go_wp2_with fail;refine BR 11 78 [.p g 0,.p g 0,.p g 6,.v (.slice (some ⟨qb,lI,none⟩) 16 qc),.i ((n:Int)),.p qb (lI+n*3),.a #[.int .i64 xw,.int .i64 xa,.bool xu],.p g 0,.i ((n:Int)),.i tw,.z] (λR vv ww=>match R with
  |10=>JY w.heap.size vv ww
  |_=>True) ?_ ?_ ?_
 .intro i hi o O a H Z A Y hW z
  match i,hi with
  |0,_|1,_|2,_|4,_|7,_|8,_=>exact sP O z Z A
  |3,_=>exact sL O z Z A (hl:=aO (bc Y hg x6))
  |5,_=>exact sI O z Z A (hr:=by clear A Z z;go_simp)
  |6,_=>exact sL O z Z A (hl:=dG (bc Y kl D0) (bc Y kl D1) (bc Y kl D2))
  |9,_=>exact sD O z Z A (CW.out _ Y)
  |10,_=>obtain rfl:=yF O;clear A Z;refine yE ?_;go_simp;exact z.out _ _ ⟨_,rfl,Y.size,yi _ _⟩ (AI _ _)
 .intro i hi vv wz fx cr hz
  match i,hi with
  |10,_=>exact(JY.below hz cr)
  |0,_|1,_|2,_|3,_|4,_|5,_|6,_|7,_|8,_|9,_=>exact hz
 .intro L H hR Y
  have q6:(L 6)=.agg #[.int .i64 xw,.int .i64 xa,.bool xu]:=BS hR 6;have q9:(L 9)=.int .i64 tw:=BS hR 9;have ib:JY w.heap.size (L 10) H:=BS hR 10;clear hR;simp only[Ak,Ah,yC,yy,yz,yx,q6,q9];simp;generalize L 10=z10 at ib ⊢;clear q6 q9;obtain⟨q,rfl,gW,gX⟩:=ib;have c0:=ym _ _ 0 _ _ _ gX;have ob:=ym _ _ 1 _ _ _ gX;have c2:=ym _ _ 2 _ _ _ gX;have fq:=AK gX;have Pl:=Ka (W:=w) (a:=.int .i64 xw) (b:=.int .i64 xa) (c:=.bool xu) gX Y gW;go_step;go_simp;clear c0 ob c2 fq gX Y D0 D1 D2 x6;generalize((H.setCell _ _).setCell _ _).setCell _ _=W1 at*;have y0:=ym _ _ 0 _ _ _ Pl.1;have y1:=ym _ _ 1 _ _ _ Pl.1;have y2:=ym _ _ 2 _ _ _ Pl.1;have dt:=AA Pl.2;have fN:=AA (show AF lo W1 (.slice ka kn kc) ks from mI.out.below Pl.2);have NO:=AA (λ(W:World)(K:Below W1.heap.size W1 W)(b:Bool)(J:res=b)(fy:xw≠2∨b=false)=>(⟨ks,⟨by rw[J],fN.out.below K,⟨(dt.out.trans (K.mono dt.out.size)).os,(dt.out.trans (K.mono dt.out.size)).tape,(dt.out.trans (K.mono dt.out.size)).output,(dt.out.trans (K.mono dt.out.size)).size,λk V _=>(dt.out.trans (K.mono dt.out.size)).block k V⟩,(dt.out.trans (K.mono dt.out.size)).mono fa⟩,λht=>by
   rcases fy with x|x
   .unfold GM;rw[if_neg x]
   .rw[J,x] at ht;cases ht⟩:∃gV,TT lo w (.slice ka kn kc) gV res (.returned (.bool b)) W/\(res=true->gV=GM ks ⟨xw,xa,xu⟩)))
  clear Pl
  by_cases h0:xw=0
  .subst h0
   by_cases ha:xa=0
   .have t1:(xa==0)=true:=by simp[ha]
    cases xu
    .have ix:=AA (show res=(tw==0) by rw[fE.out];simp[ha];by_cases h:tw=0<;>simp[h])
     clear ha;go_wp2_with fail;go_ret;exact NO.out _ (yD _ _) _ ix.out (.inl (by decide))
    .have ix:=AA (show res=false by rw[fE.out];simp)
     clear ha;go_wp2_with fail;go_ret;exact NO.out _ (yD _ _) _ ix.out (.inl (by decide))
   .have t1:(xa==0)=false:=by simp[ha]
    have ix:=AA (show res=false by rw[fE.out];simp[ha]);clear ha;go_wp2_with fail;go_ret;exact NO.out _ (yD _ _) _ ix.out (.inl (by decide))
  .have n0:(xw==0)=false:=by simp[h0]
   by_cases D:xw=1
   .subst D
    cases dh:BZ xa 0 11
    .have ix:=AA (show res=false by rw[fE.out,dh];rfl)
     go_wp2_with (refine(Oa xa true _ dh).mono ?_;rintro r w3 ⟨rfl,rfl⟩);go_ret;exact NO.out _ (yD _ _) _ ix.out (.inl (by decide))
    .have hv:=AZ.1 dh
     obtain⟨f,rfl⟩:∃f:Nat,xa=(f:Int):=⟨xa.toNat,by omega⟩
     have hf:f<12:=by omega
     have CF:=AA (CM.out f hf W1 dt.out);have R0:res=(decide (tw=IB (f:Int))&&F3 P.zV.zZ f):=by rw[fE.out,dh];simp
     go_wp2_with fail;refine(JP (f:Int) _ hv.1 hv.2).mono ?_;rintro r w3 ⟨rfl,rfl⟩
     by_cases he:tw=IB (f:Int)
     .have ix:=AA (show res=F3 P.zV.zZ f by rw[R0];simp[he])
      have t1:(tw==IB (f:Int))=true:=by simp[he]
      generalize IB (f:Int)=en at t1;clear R0 he dh;go_wp2_with (refine CF.out.mono ?_;rintro r w4 ⟨rfl,b4⟩;have hX:=AA b4;clear b4);go_ret;exact NO.out _ hX.out _ ix.out (.inl (by decide))
     .have ix:=AA (show res=false by rw[R0];simp[he])
      have t1:(tw==IB (f:Int))=false:=by simp[he]
      generalize IB (f:Int)=en at t1;clear R0 he dh;go_wp2_with fail;go_ret;exact NO.out _ (yD _ _) _ ix.out (.inl (by decide))
   .have n1:(xw==1)=false:=by simp[D]
    by_cases N:xw=2
    .subst N
     cases dh:BZ xa 0 15
     .have ix:=AA (show res=false by rw[fE.out,dh];rfl)
      go_wp2_with (refine(EC _ _ _ _).mono ?_;rintro r w3 ⟨rfl,rfl⟩;rw[dh]);go_ret;exact NO.out _ (yD _ _) _ ix.out (.inr rfl)
     .have hv:=AZ.1 dh
      obtain⟨sl,rfl⟩:∃sl:Nat,xa=(sl:Int):=⟨xa.toNat,by omega⟩
      have dU:sl<16:=by omega
      have kh:(sl:Int)<16:=by omega
      cases xu
      .by_cases ht:tw=0
       .have t1:(tw !=0)=false:=by simp[ht]
        have ix:=AA (show res=true by rw[fE.out,dh];simp[ht]);have J:=lW sl dU;obtain⟨kb,m8,ek,py,KC⟩:=Iu fN.out (j:=sl) (by omega);cases ek;rw[gv] at fN ⊢;replace KC:W1.cell? ⟨kb,sl,none⟩=some (.int .i64 (nth ks sl)):=KC;have bC:W1.ownsRow lo 3 1 (.slice (some ⟨kb,0,none⟩) 16 kc) 16 (ks.map (xY .i64)):=by have:=fN.out;unfold AF at this;rwa [gv] at this
        have FK:=xJ bC sl;obtain⟨s1,s2⟩:=wJ bC sl (.int .i64 (nth ks sl+1));have nu:=(yk bC kb rfl).1;have mu:=AA (show TT lo w (.slice (some ⟨kb,0,none⟩) 16 kc) (GM ks ⟨2,(sl:Int),false⟩) true (.returned (.bool true)) (W1.setCell ⟨kb,sl,none⟩ (.int .i64 (nth ks sl+1))) from
         ⟨rfl,by
          show AF _ _ _ (ks.set sl (nth ks sl+1))
          unfold AF;rw[xP,vm,gv];exact s1,AP ⟨dt.out.os,dt.out.tape,dt.out.output,dt.out.size,λk V _=>dt.out.block k V⟩ s2,AM (dt.out.mono fa) s2 nu (yB fa dt.out.size)⟩)
        generalize nth ks sl=old at KC J mu;clear ht dh s1 s2 bC;go_wp2_with (refine(EC _ _ _ _).mono ?_;rintro r w3 ⟨rfl,rfl⟩;rw[show BZ (sl:Int) 0 15=true from AZ.2 hv]);go_ret;exact⟨_,by rw[ix.out,gv];exact mu.out,λ_=>rfl⟩
       .have t1:(tw !=0)=true:=by simp[ht]
        have ix:=AA (show res=false by rw[fE.out,dh];simp[ht]);clear ht;go_wp2_with (refine(EC _ _ _ _).mono ?_;rintro r w3 ⟨rfl,rfl⟩;rw[dh]);go_ret;exact NO.out _ (yD _ _) _ ix.out (.inr rfl)
      .have ix:=AA (show res=false by rw[fE.out,dh];simp)
       go_wp2_with (refine(EC _ _ _ _).mono ?_;rintro r w3 ⟨rfl,rfl⟩;rw[dh]);go_ret;exact NO.out _ (yD _ _) _ ix.out (.inr rfl)
    .have n2:(xw==2)=false:=by simp[N]
     have ix:=AA (show res=false by rw[fE.out];simp[h0,D,N]);clear h0 D N;go_wp2_with fail;go_ret;exact NO.out _ (yD _ _) _ ix.out (.inr rfl)
theorem ZJ(ks:List Int)(x:Bo):(GM ks x).length=ks.length:=by
 unfold GM
 split
 .simp
 .rfl
theorem ZK{ks:List Int}{x:Bo}(hl:ks.length=16)(hx:x.w=2->0<=x.a/\x.a<=15)(s:Nat):nth (GM ks x) s=nth ks s+(EN (Cz s x):Int):=by
 unfold GM Cz
 by_cases h:x.w=2
 .rw[if_pos h]
  have:=hx h;unfold nth;rw[xO,vV]
  by_cases e:x.a.toNat=s
  .subst e
   have e2:x.a=((x.a.toNat:Nat):Int):=by omega
   have J:EN (decide (x.w=2)&&decide (x.a=((x.a.toNat:Nat):Int)))=1:=by rw[<-e2];simp[h,EN]
   rw[if_pos rfl,if_pos (by omega),J];simp
  .have J:EN (decide (x.w=2)&&decide (x.a=(s:Int)))=0:=by
    have:x.a≠(s:Int):=by omega
    simp[this,EN]
   rw[if_neg e,J];simp[xO]
 .rw[if_neg h]
  have J:EN (decide (x.w=2)&&decide (x.a=(s:Int)))=0:=by simp[h,EN]
  rw[J];simp
theorem ZI{l:List Bo}(hx:∀x∈l,x.w=2->0<=x.a/\x.a<=15){ks:List Int}(hl:ks.length=16)(s:Nat):(l.foldl GM ks).length=16/\nth (l.foldl GM ks) s=nth ks s+(Cb l s:Int):=by
 induction l generalizing ks with
 |nil=>exact⟨hl,by simp[Cb]⟩
 |cons x l ih=>
  have I:=ih (λy hy=>hx y (List.mem_cons_of_mem _ hy)) (ks:=GM ks x) (by rw[ZJ,hl]);refine⟨I.1,?_⟩;rw[yz,I.2,ZK hl (hx x (List.mem_cons_self ..))];unfold Cb;rw[wZ];unfold EN
  split<;>simp_all<;>omega
theorem XM{P:AR}(hl:P.zY.length=16)(hs:(yC 16).all (D6 P)=true){n:Nat}(hn:n<16):GZ P n=Eo P n:=by
 unfold GZ Eo
 by_cases h0:(AC P.zY n).w=0
 .rw[if_pos h0,if_pos h0]
 rw[if_neg h0,if_neg h0]
 by_cases D:(AC P.zY n).w=1
 .rw[if_pos D,if_pos D]
 rw[if_neg D,if_neg D]
 by_cases N:(AC P.zY n).w=2
 .rw[if_pos N,if_pos N]
  cases dh:BZ (AC P.zY n).a 0 15
  .simp
  .have hv:=AZ.1 dh
   have O:=xZ.1 hs (AC P.zY n).a.toNat (xS.2 (by omega));unfold D6 at O;rw[decide_eq_true_eq] at O;have hm:AC P.zY n∈P.zY:=by have:P.zY[n]?=some (AC P.zY n):=A2 (by omega);exact yh this
   have iu:0<Cb P.zY (AC P.zY n).a.toNat:=by
    unfold Cb;rw[List.countP_pos_iff];refine⟨_,hm,?_⟩;unfold Cz;have:(AC P.zY n).a=(((AC P.zY n).a.toNat:Nat):Int):=by omega
    rw[<-this];simp[N]
   cases he:(AG P.swap (AC P.zY n).a.toNat).isEmpty
   .simp
   .rw[he,if_pos rfl] at O;omega
 .rw[if_neg N,if_neg N]
theorem Rn(P:AR):BI P=(Cr P.zV&&FM P.swap&&decide (P.zY.length=16)&&Bv P&&Gm P.zV&&(yC 16).all (Eo P)&&(yC 16).all (D6 P)&&(BZ P.zR 0 15&&BZ P.zU 1 6&&decide ((Aj P.zY 1:Int)<=P.zU))):=by
 unfold BI
 by_cases hl:P.zY.length=16
 .cases hs:(yC 16).all (D6 P)
  .simp
  .have:(yC 16).all (GZ P)=(yC 16).all (Eo P):=by
    rw[wF,xZ,xZ];exact⟨λh n hn=>by rw[<-XM hl hs (xS.1 hn)];exact h n hn,λh n hn=>by rw[XM hl hs (xS.1 hn)];exact h n hn⟩
   rw[this];cases Cr P.zV<;>cases FM P.swap<;>cases Gm P.zV<;>cases Bv P<;>cases(yC 16).all (Eo P)<;>simp[hl,Bool.and_assoc]
 .simp[hl]
theorem Ui{hW:AO}(V:k<3)(h:By (A7 hW k) gA≠decide (k=0)):Gm hW=false:=by
 unfold Gm
 match k,V,h with
 |0,_,h=>simp at h;simp[h]
 |1,_,h=>simp at h;simp[h]
 |2,_,h=>simp at h;simp[h]
theorem Xj{hW:AO}(h:∀j,j<3->By (A7 hW j) gA=decide (j=0)):Gm hW=true:=by unfold Gm;rw[h 0 (by omega),h 1 (by omega),h 2 (by omega)];rfl
theorem WJ{P:AR}(hl:P.zY.length=16){k:Nat}(h:∀j,j<k->Eo P j=true):∀x∈P.zY.take k,x.w=2->0<=x.a/\x.a<=15:=by
 intro x hx hw;obtain⟨j,E⟩:=xq hx;have jw:j<k:=by have:=(yt.1 E).1;rw[xT] at this;omega
 rw[ve,if_pos jw] at E;have e:AC P.zY j=x:=by unfold AC;rw[xO,E];rfl
 have:=h j jw;unfold Eo at this;rw[e,if_neg (by omega),if_neg (by omega),if_pos hw] at this;simp only[yu] at this;exact AZ.1 this.1.1
theorem Qr{P:AR}(h:Bv P=true):P.low.length=4/\∀i,i<4->0<=BO P.low i/\BO P.low i<=11:=by
 unfold Bv at h;simp only[yu,decide_eq_true_eq,xZ,xS] at h;refine⟨h.1.1.2,λi hi=>?_⟩;have:=h.2 i hi;unfold Fk at this;simp only[yu] at this;exact AZ.1 this.1.1
theorem GF(mv iv ev cv sv lv qv:Value)(P:AR)(w:World)(h:Jy w mv iv ev cv sv lv qv P)(hs:Dn P.zV):
 Calls prog 18 #[AN mv iv ev cv sv lv qv P.zR P.zU] w (λr w'=>r=.returned (.bool (BI P))/\Below w.heap.size w w'):=by
 have Pt:=Rn P;unfold AN;obtain⟨N0,b0⟩:=Dd w (.cells #[mv,iv,ev,cv,sv,lv,qv,.int .i64 P.zR,.int .i64 P.zU] 32);have h0:=h.below b0;go_in;go_wp2_with fail;generalize w.alloc _=W0 at*;have C1:=AA (λW (K:Below W0.heap.size W0 W)=>Ny mv iv ev cv P.zV W (h0.1.below K) hs);have C2:=AA (λW (K:Below W0.heap.size W0 W)=>Pq sv P.swap W (h0.2.1.below K));have dr:=AA b0;obtain⟨aq,qc,rfl,it,gY⟩:=h0.2.2.2.shape;unfold maxLen at gY;have bk:w.heap.size<W0.heap.size:=AW N0;cases V:Cr P.zV
 .have S:=AA (show BI P=false by rw[Pt,V];rfl)
  rw[V] at C1;clear Pt;refine(C1.out W0 (yD _ _)).mono ?_;rintro r w1 ⟨rfl,b1⟩;have HB:=AA (dr.out.trans (b1.mono dr.out.size));clear N0 b0 h h0 b1;go_wp2_with fail;go_ret;exact⟨AH S.out.symm,HB.out⟩
 rw[V] at C1;refine(C1.out W0 (yD _ _)).mono ?_;rintro r w1 ⟨rfl,b1⟩;have x4:=(AD (AB N0 b1)).2.2.2.2.1;have B1:=AA b1;cases de:FM P.swap
 .have S:=AA (show BI P=false by rw[Pt,V,de];rfl)
  have C:=C2.out w1 b1;rw[de] at C;clear Pt N0 b0 h h0 b1;go_wp2_with (refine C.mono ?_;rintro r w2 ⟨rfl,b2⟩;have HB:=AA (dr.out.trans ((B1.out.trans (b2.mono B1.out.size)).mono dr.out.size));clear b2);go_ret;exact⟨AH S.out.symm,HB.out⟩
 have C:=C2.out w1 b1;rw[de] at C;clear b1;go_wp2_with fail;refine C.mono ?_;rintro r w2 ⟨rfl,b2⟩;have B2:=AA (B1.out.trans (b2.mono B1.out.size));have x6:=(AD (AB N0 B2.out)).2.2.2.2.2.2.1;clear b2 C x4
 by_cases hl:P.zY.length=16
 .rw[hl] at x6
  cases ht:Bv P
  .have S:=AA (show BI P=false by rw[Pt,V,de,ht];simp)
   have C:=Ni (AB N0 B2.out) (h0.below B2.out) (El.1 V);rw[ht] at C;clear Pt N0 b0 h h0;go_wp2_with (refine C.mono ?_;rintro r w3 ⟨rfl,b3⟩;have HB:=AA (dr.out.trans ((B2.out.trans (b3.mono B2.out.size)).mono dr.out.size));clear b3);go_ret;exact⟨AH S.out.symm,HB.out⟩
  .have C:=Ni (AB N0 B2.out) (h0.below B2.out) (El.1 V)
   rw[ht] at C;go_wp2_with fail;refine C.mono ?_;rintro r w3 ⟨rfl,b3⟩;have B3:=AA (B2.out.trans (b3.mono B2.out.size));have dS:=AA (dr.out.trans (B3.out.mono dr.out.size));have hK:=El.1 V;have h3:=h0.below B3.out;have N3:=AB N0 B3.out;obtain⟨ps,jz,g8⟩:=h3.1.2.2.1;have eE:ps.length=3:=by rw[g8.1,hK.zN]
   obtain⟨ae,ce,rfl,nN,_,HE⟩:=BK.open Fm (by decide) jz;have x2:=(AD N3).2.2.1;rw[eE] at x2;have jO:=AA (show BI P=(Gm P.zV&&(yC 16).all (Eo P)&&(yC 16).all (D6 P)&&(BZ P.zR 0 15&&BZ P.zU 1 6&&decide ((Aj P.zY 1:Int)<=P.zU))) by rw[Pt,V,de,ht];simp[hl]);have z:=AA hK;have HL:=AA (xU hl (xU de ht));have H3:=AA (xU N3 h3);have mL:=AA (xU HE g8);have oV:=AA eE;clear Pt V hK de ht hl N0 b0 h h0 C1 C2 C b3 x6 HE jz g8 eE hs N3 h3 B1 B2;go_wp2_with fail;clear x2;go_loopw [3,4,33] (λ_ _ R wr=>∃k:Nat,k<=3/\R=.int .i64 k/\(∀j,j<k->By (A7 P.zV j) gA=decide (j=0))/\Below w3.heap.size w3 wr) (λ_ _ R _=>3 - (intOf R).toNat)
   exact⟨0,by omega,rfl,λj E=>by omega,yD _ _⟩
   obtain⟨k,lX,rfl,bY,J⟩:=hrel
   by_cases gj:k<3
   .have k3:(k:Int)<3:=by omega
    obtain⟨p,hp⟩:∃p,ps[k]?=some p:=⟨_,yw (by have:=oV.out;omega)⟩
    obtain⟨ge,n3,rfl,l6,fj⟩:=mL.out.1 k p hp;have jr:=mL.out.2.2 k p (AJ P.zV.zX k) hp (by unfold AJ;exact A2 (by rw[z.out.zN];omega));have D0:=(J.cell (yA w3 _ (fj 0 _ rfl))).trans (fj 0 _ rfl);have D1:=(J.cell (yA w3 _ (fj 1 _ rfl))).trans (fj 1 _ rfl);rw[xK] at D0;obtain⟨pv,pr⟩:=p;dsimp only at D0 D1 jr;obtain⟨pa,pn,rfl,_,_⟩:=BK.shape jr.1;have bn:=J.trans ((AI wr (.cells #[.slice pa (AJ P.zV.zX k).zT.length pn,.int .i64 pr] 74)).mono J.size);have CM:=PY _ (AJ P.zV.zX k).zT gA _ (BK.below jr.1 bn);have dy:=AA bY;have mD:=AA bn;have HM:=AA (show By (A7 P.zV k) gA=By (AJ P.zV.zX k).zT gA from rfl);generalize By (AJ P.zV.zX k).zT gA=b at CM HM;generalize(AJ P.zV.zX k).zT.length=rl at*;clear fj jr bY bn hp;go_wp2_with fail;refine CM.mono ?_;rintro r w5 ⟨rfl,b5⟩;have fC:=AA (mD.out.trans (b5.mono mD.out.size));clear b5 CM
    by_cases k0:k=0
    .have t0:((k:Int)==0)=true:=by simp[k0]
     cases b
     .have S:=AA (show BI P=false by rw[jO.out,Ui gj (by rw[HM.out];simp[k0])];rfl)
      clear k0;go_wp2_with fail;go_ret;exact⟨AH S.out.symm,dS.out.trans (fC.out.mono dS.out.size)⟩
     .have K0:=AA k0
      clear k0;go_wp2_with fail;go_roundw
      case rel=>exact⟨k+1,by omega,by go_num,λj E=>by
       rcases xl.1 E with x|x
       .exact dy.out j x
       .subst x;rw[HM.out];simp[K0.out],fC.out⟩
      case measure=>simp[intOf];omega
    .have t0:((k:Int)==0)=false:=by simp[k0]
     cases b
     .have K0:=AA k0
      clear k0;go_wp2_with fail;go_roundw
      case rel=>exact⟨k+1,by omega,by go_num,λj E=>by
       rcases xl.1 E with x|x
       .exact dy.out j x
       .subst x;rw[HM.out];simp[K0.out],fC.out⟩
      case measure=>simp[intOf];omega
     .have S:=AA (show BI P=false by rw[jO.out,Ui gj (by rw[HM.out];simp[k0])];rfl)
      clear k0;go_wp2_with fail;go_ret;exact⟨AH S.out.symm,dS.out.trans (fC.out.mono dS.out.size)⟩
   .obtain rfl:k=3:=by omega
    have mt:=AA (show BI P=((yC 16).all (Eo P)&&(yC 16).all (D6 P)&&(BZ P.zR 0 15&&BZ P.zU 1 6&&decide ((Aj P.zY 1:Int)<=P.zU))) by rw[jO.out,Xj bY];simp);have gP:=AA J;have TL:=AA (Qr HL.out.2.2);clear bY jO;rw[show((3:Nat):Int)=3 from rfl];have x6:=(AD (AB H3.out.1 J)).2.2.2.2.2.2.1;rw[HL.out.1] at x6;go_wp2_with (refine Pb (n:=16) rfl rfl 3 (.int .i64 0) 8 underlying29 Tryz.zI rfl rfl (by omega) (by unfold maxLen;omega) ?_;intro w6 ad bf jq;replace x6:=(bf.cell (yA wr _ x6)).trans x6);have St:AF w3.heap.size w6 (.slice (some ⟨wr.heap.size,0,none⟩) 16 16) (xR 16 0):=BU (by simpa[AF] using ad) gP.out.size;have oC:=AA (gP.out.trans (bf.mono gP.out.size));generalize wr.heap.size=gk at*;clear ad bf jq J;go_wp2_with fail;clear x6;go_loopw [6,49] (λ_ R H=>∃k:Nat,k<=16/\R=.int .i64 k/\(∀j,j<k->Eo P j=true)/\AF w3.heap.size H (.slice (some ⟨gk,0,none⟩) 16 16) ((P.zY.take k).foldl GM (xR 16 0))/\Below w3.heap.size w3 H) (λ_ R _=>16 - (intOf R).toNat)
    exact⟨0,by omega,rfl,λj E=>by omega,St,oC.out⟩
    clear St;obtain⟨k,lX,rfl,bY,St,J⟩:=hrel;have KA:=AA (λs=>ZI (l:=P.zY.take k) (WJ HL.out.1 bY) (ks:=xR 16 0) (by simp) s)
    by_cases fW:k<16
    .have m9:(k:Int)<16:=by omega
     have C:=Wi (AB H3.out.1 J) (H3.out.2.below J) z.out TL.out.1 TL.out.2 HL.out.1 St (KA.out 0).1 (λj E=>by
      rw[(KA.out j).2];have h0:nth (xR 16 (0:Int)) j=0:=by unfold nth;rw[xO,vL];split<;>rfl
      have D:Cb (P.zY.take k) j<=(P.zY.take k).length:=by unfold Cb;exact vW
      have N:(P.zY.take k).length<=16:=by rw[xT];omega
      omega) J.size fW
     have Nx:=AA (show(P.zY.take (k+1)).foldl GM (xR 16 0)=GM ((P.zY.take k).foldl GM (xR 16 0)) (AC P.zY k) by rw[DA (show P.zY[k]?=some (AC P.zY k) from A2 (by have:=HL.out.1;omega)),uZ];rfl)
     have dy:=AA bY;have Z:=AA J;generalize(P.zY.take k).foldl GM (xR 16 0)=ks at*;clear bY J St KA;go_wp2_with fail;refine C.mono ?_;rintro r w7 ⟨gV,⟨rfl,o7,g7,b7⟩,e7⟩;have mF:=AA (Z.out.trans b7);have O7:=AA o7;cases km:Eo P k
     .have S:=AA (show BI P=false by rw[mt.out,OE fW km];rfl)
      clear o7 g7 b7 e7 C;go_wp2_with fail;go_ret;exact⟨AH S.out.symm,dS.out.trans (mF.out.mono dS.out.size)⟩
     .have E7:=AA (e7 km)
      have PH:=AA km;clear o7 g7 b7 e7 C;go_wp2_with fail;go_roundw
      case rel=>exact⟨k+1,by omega,by go_num,λj E=>by
       rcases xl.1 E with x|x
       .exact dy.out j x
       .subst x;exact PH.out,by rw[Nx.out,<-E7.out];exact O7.out,mF.out⟩
      case measure=>simp[intOf];omega
    .obtain rfl:k=16:=by omega
     have lh:=AA (show BI P=((yC 16).all (D6 P)&&(BZ P.zR 0 15&&BZ P.zU 1 6&&decide ((Aj P.zY 1:Int)<=P.zU))) by rw[mt.out,xZ.2 (λj E=>bY j (xS.1 E))];simp);rw[wH (by have:=HL.out.1;omega)] at St KA;generalize P.zY.foldl GM (xR 16 0)=ks at St KA;have gv:=(KA.out 0).1;have bC:wr.ownsRow w3.heap.size 3 1 (.slice (some ⟨gk,0,none⟩) 16 16) 16 (ks.map (xY .i64)):=by have:=St;unfold AF at this;rwa [gv] at this
     have KC:=AA (λ(j:Nat)(E:j<16)=>show wr.cell? ⟨gk,j,none⟩=some (.int .i64 (Cb P.zY j:Int)) from by
      rw[xB bC j (by omega),xm,yw (by omega)];have e:=(KA.out j).2;have h0:nth (xR 16 (0:Int)) j=0:=by unfold nth;rw[xO,vL];split<;>rfl
      rw[h0,Int.zero_add] at e;unfold nth at e;rw[xO,yw (by omega)] at e;simp at e;rw[<-e];rfl)
     obtain⟨L,s1,s2⟩:=(H3.out.2.below J).2.1;have dU:P.swap.length=16:=(GT.1 HL.out.2.1).1;have cT:L.length=16:=by rw[s2.1,dU]
     obtain⟨p5,pY,rfl,_,_,HS⟩:=BK.open ER (by decide) s1;have x4:=(AD (AB H3.out.1 J)).2.2.2.2.1;rw[cT] at x4;have oh:=AA x4;have Z:=AA J;have jS:=AA (xU HS (xU s2 (xU dU cT)));clear bY J St KA bC gv HS s1 s2 dU cT x4;generalize hW4:wr=w4 at*;go_wp2_with fail;go_loopw [7,8,59] (λ_ _ R H=>∃k:Nat,k<=16/\R=.int .i64 k/\(∀j,j<k->D6 P j=true)/\w4=H) (λ_ _ R _=>16 - (intOf R).toNat)
     exact⟨0,by omega,rfl,λj E=>by omega,rfl⟩
     obtain⟨k,lX,rfl,bY,rfl⟩:=hrel
     by_cases fc:k<16
     .have pl:(k:Int)<16:=by omega
      have og:=KC.out k fc;obtain⟨u,hu⟩:∃u,L[k]?=some u:=⟨_,yw (by have:=jS.out.2.2.2;omega)⟩
      obtain⟨sb,pf,rfl,po,me⟩:=jS.out.1 k u hu;have DS:=me 0 _ rfl;have ki:=jS.out.2.1.2 k u (AG P.swap k) hu (by unfold AG;exact A2 (by have:=jS.out.2.2.1;omega));obtain⟨ua,uc,rfl,_,_,_⟩:=ki.open;rw[wB,xK] at DS;have x4:=oh.out;have dy:=AA bY;have SO:D6 P k=decide (Cb P.zY k=if(AG P.swap k).isEmpty then 0 else 1):=rfl;generalize Cb P.zY k=n at og SO;generalize AG P.swap k=row at DS SO ki;clear me bY hu ki
      by_cases hr:row=[]
      .subst hr
       simp only[wU] at DS
       by_cases ef:n=0
       .have PS:=AA (show D6 P k=true by rw[SO,ef];rfl)
        subst ef;clear SO;go_wp2_with fail;go_roundw
        case rel=>exact⟨k+1,by omega,by go_num,λj E=>by
         rcases xl.1 E with x|x
         .exact dy.out j x
         .subst x;exact PS.out,trivial⟩
        case measure=>simp[intOf];omega
       .have S:=AA (show BI P=false by rw[lh.out,OE fc (by rw[SO];simp[ef])];rfl)
        have t1:((n:Int) !=0)=true:=by simp;omega
        clear SO ef;go_wp2_with fail;go_ret;exact⟨AH S.out.symm,dS.out.trans (Z.out.mono dS.out.size)⟩
      .have iu:0<row.length:=List.length_pos_iff.2 hr
       have he:row.isEmpty=false:=by cases row with|nil=>exact absurd rfl hr|cons a l=>rfl
       generalize row.length=rl at DS iu;have p1:(0:Int)<(rl:Int):=by omega
       have t2:((rl:Int)==0)=false:=by simp;omega
       rw[he] at SO;clear hr he
       by_cases ju:n=1
       .have PS:=AA (show D6 P k=true by rw[SO,ju];rfl)
        subst ju;clear SO;go_wp2_with fail;go_roundw
        case rel=>exact⟨k+1,by omega,by go_num,λj E=>by
         rcases xl.1 E with x|x
         .exact dy.out j x
         .subst x;exact PS.out,trivial⟩
        case measure=>simp[intOf];omega
       .have S:=AA (show BI P=false by rw[lh.out,OE fc (by rw[SO];simp[ju])];rfl)
        have t1:((n:Int) !=1)=true:=by simp;omega
        clear SO ju;go_wp2_with fail;go_ret;exact⟨AH S.out.symm,dS.out.trans (Z.out.mono dS.out.size)⟩
     .obtain rfl:k=16:=by omega
      have iV:=AA (show BI P=(BZ P.zR 0 15&&BZ P.zU 1 6&&decide ((Aj P.zY 1:Int)<=P.zU)) by rw[lh.out,xZ.2 (λj E=>bY j (xS.1 E))];simp);have N4:=AB H3.out.1 Z.out;have ir:=H3.out.2.below Z.out;have x7:=(AD N4).2.2.2.2.2.2.2.1;have x8:=(AD N4).2.2.2.2.2.2.2.2;have iL:=AW N4;have CN:=AA (λW (K:Below w4.heap.size w4 W)=>QW (AD (AB N4 K)).2.2.2.2.2.2.1 (BK.below ir.2.2.2 K) HL.out.1 1);have CH:=AA (λW=>EC P.zR 0 15 W);have CL:=AA (λW=>EC P.zU 1 6 W);clear bY N4 ir;cases kz:BZ P.zR 0 15
      .have S:=AA (show BI P=false by rw[iV.out,kz];rfl)
       rw[kz] at CH;go_wp2_with fail;refine Aa 14 103 [.p w.heap.size 7,.i (P.zR),.b false,.b false,.u,.u,.u,.b false,.b false,.u,.u,.u,.u,.b false] (λ_ _ _=>True) ?_ ?_
       .intro i hi o O a H Z A Y hW z
        match i,hi with
        |0,_|3,_|7,_|8,_|13,_=>exact sP O z Z A
        |1,_=>exact sL O z Z A (hl:=FT (bc Y iL x7))
        |2,_=>exact sE O z Z A (CH.out _)
        |4,_|5,_|6,_|9,_|10,_|11,_|12,_=>exact sB O z A
       .intro L H hR Y
        have eB:(L 13)=.bool false:=BS hR 13;clear hR;simp only[Ak,Ah,yC,yy,yz,yx,eB];simp;clear eB;go_wp2_with fail;go_ret;exact⟨AH S.out.symm,dS.out.trans ((Z.out.trans (Y.mono Z.out.size)).mono dS.out.size)⟩
      .rw[kz] at CH iV
       cases fY:BZ P.zU 1 6
       .have S:=AA (show BI P=false by rw[iV.out,fY];rfl)
        rw[fY] at CL;go_wp2_with fail;refine Aa 14 103 [.p w.heap.size 7,.i (P.zR),.b true,.b true,.p w.heap.size 8,.i (P.zU),.b false,.b false,.b false,.u,.u,.u,.u,.b false] (λ_ _ _=>True) ?_ ?_
        .intro i hi o O a H Z A Y hW z
         have bs:=bc Y iL x7;have br:=bc Y iL x8
         match i,hi with
         |0,_|3,_|4,_|7,_|8,_|13,_=>exact sP O z Z A
         |1,_|5,_=>exact sL O z Z A (hl:=FT ‹_›)
         |2,_=>exact sE O z Z A (CH.out _)
         |6,_=>exact sE O z Z A (CL.out _)
         |9,_|10,_|11,_|12,_=>exact sB O z A
        .intro L H hR Y
         have eB:(L 13)=.bool false:=BS hR 13;clear hR;simp only[Ak,Ah,yC,yy,yz,yx,eB];simp;clear eB;go_wp2_with fail;go_ret;exact⟨AH S.out.symm,dS.out.trans ((Z.out.trans (Y.mono Z.out.size)).mono dS.out.size)⟩
       .rw[fY] at CL iV
        have S:=AA (show BI P=decide ((Aj P.zY 1:Int)<=P.zU) by rw[iV.out];simp);generalize Aj P.zY 1=cn at CN S;go_wp2_with fail;refine Aa 14 103 [.p w.heap.size 7,.i (P.zR),.b true,.b true,.p w.heap.size 8,.i (P.zU),.b true,.b true,.b true,.i ((cn:Int)),.p w.heap.size 8,.i (P.zU),.b (decide ((cn:Int)<=P.zU)),.b (decide ((cn:Int)<=P.zU))] (λ_ _ _=>True) ?_ ?_
        .intro i hi o O a H Z A Y hW z
         have bs:=bc Y iL x7;have br:=bc Y iL x8
         match i,hi with
         |0,_|3,_|4,_|7,_|8,_|10,_|13,_=>exact sP O z Z A
         |1,_|5,_|11,_=>exact sL O z Z A (hl:=FT ‹_›)
         |2,_=>exact sE O z Z A (CH.out _)
         |6,_=>exact sE O z Z A (CL.out _)
         |9,_=>exact sD O z Z A (CN.out _ Y)
         |12,_=>clear bs br;obtain rfl:=yF O;have d9:(a.tmps[98]?.getD undef)=.int .i64 cn:=Ba A 9;have ew:(a.tmps[100]?.getD undef)=.int .i64 (P.zU):=Ba A 11;have d8:(a.tmps[97]?.getD undef)=.bool true:=Ba A 8;clear A Z;refine AX.yes rfl rfl d8 ?_;go_simp;exact z.out _ _ rfl (yD _ _)
        .intro L H hR Y
         have eB:(L 13)=.bool (decide ((cn:Int)<=P.zU)):=BS hR 13;clear hR;simp only[Ak,Ah,yC,yy,yz,yx,eB];simp;clear eB;go_wp2_with fail;go_ret;exact⟨AH S.out.symm,dS.out.trans ((Z.out.trans (Y.mono Z.out.size)).mono dS.out.size)⟩
 .have S:=AA (show BI P=false by rw[Pt];simp[hl])
  have t1:((P.zY.length:Int) !=16)=true:=by simp;omega
  have HB:=AA (dr.out.trans (B2.out.mono dr.out.size));clear Pt N0 b0 h h0 hl;go_wp2_with fail;go_ret;exact⟨AH S.out.symm,HB.out⟩
section
variable {lo g:Nat} {w w1:World} {m i e c s l q:Value} {P:AR}
theorem Gi.zg(h:Gi lo g w m i e c s l q P)(x:Int):Gi lo g (w.setCell ⟨g,7,none⟩ (.int .i64 x)) m i e c s l q {P with zR:=x}/\w.grownBy (w.setCell ⟨g,7,none⟩ (.int .i64 x)) (some g):=by have dd:=Aq w g 7 (.int .i64 x);have F:=h.own.yL dd h.yK;refine⟨⟨?_,h.yJ,⟨F.ker,F.swp,F.low,F.pgs,F.apart⟩⟩,dd⟩;have:=yq w g 7 _ 32 (.int .i64 x) h.yK;simpa using this
theorem Gi.zo{n0:Nat}{x y:Bo}{u:Value}(h:Gi lo g w m i e c s l (.slice (some ⟨gq,0,none⟩) n0 cg) P)(ef:n0=P.zY.length)(V:P.zY[n]?=some x)(E:j<3)(hy:DG y=(DG x).set j u):
 Gi lo g (w.setCell ⟨gq,n*3+j,none⟩ u) m i e c s l (.slice (some ⟨gq,0,none⟩) n0 cg) {P with zY:=P.zY.set n y}/\w.grownBy (w.setCell ⟨gq,n*3+j,none⟩ u) (some gq)/\lo<=gq:=by
 obtain⟨hB,fi,⟨k0,⟨L,hs⟩,fa,hp,dQ⟩⟩:=h;subst ef;have S:=AQ.zx En hp V E hy;obtain⟨fu,hc⟩:=A6 hp gq rfl;exact⟨⟨Ap hB S.2 (Br hc hB),fi,⟨k0.yL S.2 hc,⟨L,hs.yL S.2 hc⟩,FE fa S.2 hc,S.1,dQ⟩⟩,S.2,(yk hp gq rfl).1⟩
theorem Gi.zp{n0:Nat}(h:Gi lo g w m i e c s l (.slice (some ⟨gq,0,none⟩) n0 cg) P)(ef:n0=P.zY.length)(hn:n<P.zY.length)(y:Bo):
 Gi lo g (((w.setCell ⟨gq,n*3,none⟩ (.int .i64 y.w)).setCell ⟨gq,n*3+1,none⟩ (.int .i64 y.a)).setCell ⟨gq,n*3+2,none⟩ (.bool y.u)) m i e c s l (.slice (some ⟨gq,0,none⟩) n0 cg) {P with zY:=P.zY.set n y}/\w.grownBy (((w.setCell ⟨gq,n*3,none⟩ (.int .i64 y.w)).setCell ⟨gq,n*3+1,none⟩ (.int .i64 y.a)).setCell ⟨gq,n*3+2,none⟩ (.bool y.u)) (some gq)/\lo<=gq:=by
 obtain⟨hB,fi,⟨k0,⟨L,hs⟩,fa,hp,dQ⟩⟩:=h;subst ef;have S:=AQ.stored En hp hn y;obtain⟨fu,hc⟩:=A6 hp gq rfl;exact⟨⟨Ap hB S.2 (Br hc hB),fi,⟨k0.yL S.2 hc,⟨L,hs.yL S.2 hc⟩,FE fa S.2 hc,S.1,dQ⟩⟩,S.2,(yk hp gq rfl).1⟩
theorem Gi.yY(h:Gi lo g w m i e c s l q P){L:List Value}{S:List (List Int)}(hg:w.grownBy w1 s.ownBlock)(hO:Au lo w1 s L S):Gi lo g w1 m i e c s l q {P with swap:=S}:=by
 obtain⟨hB,fi,⟨⟨⟨ms,k1,k2,k3⟩,k4,⟨ps,k5,k6,k7⟩,k8⟩,⟨us,hs⟩,fa,hp,dQ⟩⟩:=h;have ee:=Do hs.1 hB (by decide);refine⟨(hg.block g (AW hB) (λe=>ee e.symm)).trans hB,fi,⟨⟨⟨ms,Aw k1 hg dQ.ne,k2.mono λ_ _ x=>Aw x hg (A8 x hs.1 (by decide)).ne,k3⟩,Aw k4 hg (A8 k4 hs.1 (by decide)).ne,⟨ps,Aw k5 hg (A8 k5 hs.1 (by decide)).ne,k6.mono λ_ _ x=>⟨Aw x.1 hg (A8 x.1 hs.1 (by decide)).ne,x.2⟩,k7⟩,Aw k8 hg (A8 k8 hs.1 (by decide)).ne⟩,⟨L,hO⟩,Aw fa hg (A8 fa hs.1 (by decide)).ne,Aw hp hg (A8 hp hs.1 (by decide)).ne,dQ⟩⟩
theorem Gi.page(h:Gi lo g w m i e c s l q P){n:Nat}(hn:n<P.zY.length):∃gq cg,q=.slice (some ⟨gq,0,none⟩) P.zY.length cg/\P.zY.length<=cg/\lo<=gq/\gq<w.heap.size/\gq≠g/\(∀j,w.frozen? ⟨gq,j,none⟩=false)/\w.cell? ⟨gq,n*3,none⟩=some (.int .i64 (AC P.zY n).w)/\w.cell? ⟨gq,n*3+1,none⟩=some (.int .i64 (AC P.zY n).a)/\w.cell? ⟨gq,n*3+2,none⟩=some (.bool (AC P.zY n).u):=by obtain⟨gq,cg,rfl,D,_,h3,h4,h5⟩:=h.own.pgs.zM (by omega);have hc:=AQ.zz En h.own.pgs (k:=n) (x:=AC P.zY n) (by unfold AC;exact A2 hn);obtain⟨fu,ei⟩:=A6 h.own.pgs gq rfl;exact⟨gq,cg,rfl,D,h3,h4,Br ei h.yK,h5,hc 0 _ rfl,hc 1 _ rfl,hc 2 _ rfl⟩
theorem Gi.pg{n0:Nat}(h:Gi lo g w m i e c s l (.slice (some ⟨gq,0,none⟩) n0 cg) P){n:Nat}(hn:n<P.zY.length):gq<w.heap.size/\(∀j,w.frozen? ⟨gq,j,none⟩=false)/\w.cell? ⟨gq,n*3,none⟩=some (.int .i64 (AC P.zY n).w)/\w.cell? ⟨gq,n*3+1,none⟩=some (.int .i64 (AC P.zY n).a)/\w.cell? ⟨gq,n*3+2,none⟩=some (.bool (AC P.zY n).u):=by obtain⟨pU,oa,e,D,N,h3,h4,h5⟩:=h.page hn;simp only[xH,Option.some.injEq,Addr.mk.injEq] at e;obtain⟨⟨rfl,_⟩,_,rfl⟩:=e;exact⟨h3,h5⟩
end
structure cL(p:AR)(n m:Nat)(zY:List Bo)(zR:Int):Prop where
 vic:Cd 32 p.zY p.zR=(zY,zR,some m)
 m16:m<16
 mw:(AC p.zY m).w=1
 ok1:Du {p with zY:=zY,zR:=zR}
 mw1:(AC zY m).w=1
 ok2:Du (Ea {p with zY:=zY,zR:=zR} m)
 free:0<=Am (Ea {p with zY:=zY,zR:=zR} m).zV.zZ
 nw:(AC (Ea {p with zY:=zY,zR:=zR} m).zY n).w≠1
 pg:(AC (Ea {p with zY:=zY,zR:=zR} m).zY n).w=(AC p.zY n).w/\(AC (Ea {p with zY:=zY,zR:=zR} m).zY n).a=(AC p.zY n).a
 room:(Aj (Ea {p with zY:=zY,zR:=zR} m).zY 1:Int)+1<=p.zU
 is:BN p n=PL (Ea {p with zY:=zY,zR:=zR} m) n
theorem Qv{p:AR}(h:Du p){n:Nat}(hn:n<16)(hw:(AC p.zY n).w≠1)(hf:Ir p=true)(eZ:¬(Am p.zV.zZ<0/\Aj p.zY 1=0)):∃m zY zR,cL p n m zY zR:=by
 have hc:0<Aj p.zY 1:=by
  rcases wj (Aj p.zY 1) with h0|h0
  .exfalso
   unfold Ir at hf;simp only[xE,decide_eq_true_eq] at hf;have:=h.zU
   rcases hf with hf|hf
   .exact eZ ⟨hf,h0⟩
   .omega
  .exact h0
 obtain⟨i,hi,ky⟩:=JZ.1 hc;rw[h.zO] at hi;obtain⟨m,hm⟩:=JB 32 p.zY p.zR h.zR.1 h.zR.2 h.zO i hi ky (.inr (by have:=P6 h.zR.1 h.zR.2 hi;omega));have hU:=Ii 32 p.zY p.zR;have hH:=KF 32 p.zY p.zR h.zR.1 h.zR.2;have hI:=Hy 32 p.zY p.zR h.zR.1 h.zR.2 m hm;have hT:BN p n=match Cd 32 p.zY p.zR with
  |(zY,zR,some m)=>PL (Ea {p with zY:=zY,zR:=zR} m) n
  |(_,_,none)=>(p,false):=by
  unfold BN;rw[if_neg hw,if_neg eZ,if_pos hf];rfl
 revert hU hH hI hm hT
 generalize hv:Cd 32 p.zY p.zR=r;obtain⟨pg,hd,o⟩:=r;intro hm hU hH hI hT;cases hm;have h':=hU.ok h hH.1 hH.2;have mw1:=(hU.w m).trans hI.2;have O:=UA h' hI.1 mw1;have nq:n≠m:=λe=>hw (by rw[e];exact hI.2)
 have lQ:AC (Ea {p with zY:=pg,zR:=hd} m).zY n=AC pg n:=by
  show AC (pg.set m _) n=_
  rw[Dp,if_neg (λh=>nq h.1)]
 refine⟨m,pg,hd,hv,hI.1,hI.2,h',mw1,O.1,O.2.2.2,?_,?_,?_,hT⟩
 .rw[lQ,hU.w];exact hw
 .rw[lQ];exact⟨hU.w n,hU.at' n⟩
 .have D:Aj (Ea {p with zY:=pg,zR:=hd} m).zY 1+1=Aj pg 1:=O.2.2.1
  have N:Aj pg 1=Aj p.zY 1:=hU.count 1;have h3:=h.count;omega
theorem Qu{p:AR}(h:Du p){n:Nat}(hw:(AC p.zY n).w≠1)(hf:Ir p=false):BN p n=PL p n/\0<=Am p.zV.zZ:=by
 have D:¬Am p.zV.zZ<0:=λe=>by unfold Ir at hf;simp[e] at hf
 refine⟨?_,by omega⟩;unfold BN;rw[if_neg hw,if_neg (λx=>D x.1),if_neg (by rw[hf];simp)]
theorem Qw{p:AR}(hw:(AC p.zY n).w≠1)(h:Am p.zV.zZ<0/\Aj p.zY 1=0):BN p n=(p,false):=by unfold BN;rw[if_neg hw,if_pos h]
theorem PC{zY:List Bo}{zR:Int}:Cd (k+1) zY zR=if(AC zY zR.toNat).w=1/\(AC zY zR.toNat).u=false then(zY,Em zR,some zR.toNat) else Cd k (zY.set zR.toNat (Nk (AC zY zR.toNat))) (Em zR):=rfl
theorem Vh{p:AR}(h:Du p):(Cd 32 p.zY p.zR).2.2=none↔Aj p.zY 1=0:=by
 constructor
 .intro hx
  rcases wj (Aj p.zY 1) with h0|h0
  .exact h0
  .obtain⟨i,hi,ky⟩:=JZ.1 h0
   rw[h.zO] at hi;obtain⟨m,hm⟩:=JB 32 p.zY p.zR h.zR.1 h.zR.2 h.zO i hi ky (.inr (by have:=P6 h.zR.1 h.zR.2 hi;omega));rw[hx] at hm;cases hm
 .intro h0
  cases hx:(Cd 32 p.zY p.zR).2.2 with
  |none=>rfl
  |some m=>have hI:=Hy 32 p.zY p.zR h.zR.1 h.zR.2 m hx;have:=JZ.2 ⟨m,by rw[h.zO];exact hI.1,hI.2⟩;omega
def ZE(g:Nat)(w:World):Int:=match w.cell? ⟨g,7,none⟩ with
 |some (.int _ n)=>n
 |_=>0
def Zy(gq n:Nat)(w:World):Bool:=match w.cell? ⟨gq,n*3+2,none⟩ with
 |some (.bool b)=>b
 |_=>false
def Zc(g gq n:Nat)(w:World):Nat:=yL (ZE g w) n+if Zy gq n w then 16 else 0
theorem XQ{lo g qc:Nat}{w:World}{m i e c s l:Value}{P:AR}(h:Gi lo g w m i e c s l (.slice (some ⟨gq,0,none⟩) 16 qc) P)(hl:P.zY.length=16){n:Nat}(hn:n<16):Zc g gq n w=yL P.zR n+if(AC P.zY n).u then 16 else 0:=by obtain⟨_,_,_,_,d2⟩:=h.pg (n:=n) (by omega);unfold Zc ZE Zy;rw[h.cells.2.2.2.2.2.2.2.1,d2]
theorem dE.yG{lo g:Nat}{w w':World}{s l q:Value}{P:AR}{k:AO}(h:dE lo g w s l q P k w'):∃m i e c,Gi lo g w' m i e c s l q {P with zV:=k}:=by obtain⟨⟨m,i,e,c,h,_⟩,_⟩:=h;exact⟨m,i,e,c,h⟩
theorem DH.one(a:List Bo)(j:Nat):DH a (a.set j (Nk (AC a j))):=DH.step (DH.refl _)
theorem DH.trans{a b c:List Bo}(h:DH a b)(h':DH b c):DH a c:=⟨h'.len.trans h.len,λi=>(h'.w i).trans (h.w i),λi=>(h'.at' i).trans (h.at' i),λi hu=>h.u i (h'.u i hu)⟩
theorem VN{lo g:Nat}{w:World}{P:AR}(h:Gi lo g w mv iv ev cv sv lv qv P)(cu:lo<=w.heap.size)(hP:Du P){pg:List Bo}{hd:Int}{n:Nat}(hv:Cd 32 P.zY P.zR=(pg,hd,some n)):
 Calls prog 84 #[.pointer (some ⟨g,0,none⟩)] w (λr w'=>r=.returned (.tuple #[])/\(∃m i e c,Gi lo g w' m i e c sv lv qv (Ea {P with zY:=pg,zR:=hd} n))/\Below lo w w'):=by
 obtain⟨gq,qc,rfl,kj,kr,nG,j8,_⟩:=h.page (n:=0) (by rw[hP.zO];omega);rw[hP.zO] at h kj ⊢;have hV:=AA hv;have eP:=AA hP;have gi:n<16:=by have:=(Hy 32 P.zY P.zR hP.zR.1 hP.zR.2 n (by rw[hv]));exact this.1
 have HI:=AA h;have hE:=AA cu;have hh:=hP.zR;have j7:=j8.symm;clear h hP hv cu;go_in;go_wp2_with fail;go_loopw [2,3] (λ_ _ wr=>∃k zY zR,Gi lo g wr mv iv ev cv sv lv (.slice (some ⟨gq,0,none⟩) 16 qc) {P with zY:=zY,zR:=zR}/\Cd k zY zR=(pg,hd,some n)/\DH P.zY zY/\0<=zR/\zR<=15/\Below lo w wr) (λ_ _ wr=>Zc g gq n wr)
 exact⟨32,P.zY,P.zR,HI.out,hV.out,DH.refl _,hh.1,hh.2,yD _ _⟩
 obtain⟨k,zY,zR,hI,fH,hU,h0,jI,J⟩:=hrel;obtain⟨k,rfl⟩:∃k',k=k'+1:=by
  cases k with
  |zero=>unfold Cd at fH;cases fH
  |succ k=>exact⟨k,rfl⟩
 rw[PC] at fH;obtain⟨j,rfl⟩:∃j:Nat,zR=(j:Int):=⟨zR.toNat,by omega⟩
 rw[yd] at fH;unfold Em at fH;have E:j<16:=by omega
 have pA:(j:Int)<16:=by omega
 have eE:zY.length=16:=by rw[hU.len];exact eP.out.zO
 have pQ:=AA (hU.ok eP.out h0 jI);have M0:=AA (XQ hI eE gi);obtain⟨gW,fq,p0,p1,p2⟩:=hI.pg (n:=j) (by show j<zY.length;rw[eE];exact E);obtain⟨_,_,_,_,_,_,x6,x7,_⟩:=hI.cells;have fg:=AK hI.yK;have I1:=(hI.zg (((j:Int)+1)%16)).1;have B1:=AM J (hI.zg (((j:Int)+1)%16)).2 hI.yJ (yB hE.out J.size);have hN:0<=((j:Int)+1)%16/\((j:Int)+1)%16<=15:=MF (zR:=(j:Int)) h0 jI;have gG:=AA (λ(ee:j≠n)=>show yL (((j:Int)+1)%16) n+1=yL (j:Int) n from NF (zR:=(j:Int)) h0 jI gi ee);have ft:=AA (show yL (((j:Int)+1)%16) j=15 from Pz (zR:=(j:Int)) h0 jI);have fo:=AA (show yL (j:Int) j=0 from Uw (zR:=(j:Int)) h0);have pF:=AW hI.yK;have hx:zY[j]?=some (AC zY j):=by unfold AC;exact A2 (by omega)
 generalize hpj:AC zY j=x at fH p0 p1 p2 hx;obtain⟨xw,xa,xu⟩:=x;dsimp only at p0 p1 p2 fH I1;have fD:=AA hpj;have HX:=AA hx;have f8:=AA eE;have fw:=AA I1;have dT:=AA B1;have HU:=AA hU;have HN:=AA hN;have HV:=AA fH;clear hI hU hpj hx fH eE J I1 B1 hN gW
 by_cases hc:xw=1/\xu=false
 .obtain⟨rfl,rfl⟩:=hc
  have gg:=HV.out;rw[if_pos ⟨rfl,rfl⟩] at gg;simp only[Prod.mk.injEq,Option.some.injEq] at gg;obtain⟨rfl,rfl,rfl⟩:=gg;have dn:=AA (HU.out.ok eP.out HN.out.1 HN.out.2);clear HV M0 gG ft fo hV;obtain⟨k0,_,_,_,k4,_⟩:=fw.out.cells;go_wp2_with fail;generalize wr.setCell _ _=W1 at*;clear x6 x7 p0 p1 p2 fg fq;have jx:=AW fw.out.yK;have dM:lo<=W1.heap.size:=yB hE.out dT.out.size;obtain⟨it,fq,p0,p1,p2⟩:=fw.out.pg (n:=j) (by show j<zY.length;rw[f8.out];exact E);replace p1:W1.cell? ⟨gq,j*3+1,none⟩=some (.int .i64 (AC zY j).a):=p1;rw[fD.out] at p1;have kC:=dn.out.zH E (by show(AC zY j).w=1;rw[fD.out]);have gy:=(dn.out.zG E (by show(AC zY j).w=1;rw[fD.out])).2.1;simp only[fD.out] at kC gy;obtain⟨f,rfl⟩:∃f:Nat,xa=(f:Int):=⟨xa.toNat,by omega⟩
  have di:f<12:=by simpa using kC.1
  obtain⟨L,o1⟩:=fw.out.own.ker.1;have dm:P.zV.mem.length=12:=eP.out.meml;have cT:L.length=12:=by rw[o1.2.1.1];exact dm
  obtain⟨gm,cm,e1,cb,_,_,gx,_⟩:=o1.1.zM (by omega);have dX:(AG P.zV.mem f).length=4:=eP.out.rowl di;obtain⟨gw,cw,hu,eV,_,_⟩:=o1.row (f:=f) (by show f<P.zV.mem.length;omega) (by show 0<(AG P.zV.mem f).length;omega);subst e1;rw[cT] at k0;replace hu:L[f]?=some (.slice (some ⟨gw,0,none⟩) (AG P.zV.mem f).length cw):=hu;replace eV:AF lo W1 (.slice (some ⟨gw,0,none⟩) (AG P.zV.mem f).length cw) (AG P.zV.mem f):=eV;rw[dX] at hu eV;have DR:=AQ.zz ER o1.1 hu 0 _ rfl;rw[wB,xK] at DR;have eX:=dn.out.slot E (by show(AC zY j).w≠2;rw[fD.out];show(1:Int)≠2;decide);obtain⟨sl,dU⟩:∃sl:Nat,Bd P.swap=(sl:Int):=⟨(Bd P.swap).toNat,by have:=eX.1;simp only at this;omega⟩
  have fU:sl<16:=by have:=eX.2.1;simp only[dU] at this;omega
  have iM:=AF.rd eV;obtain⟨gf,de⟩:=fw.out.own.swp;have CS:=AA (λW (K:Below W1.heap.size W1 W)=>Va (de.below K) eP.out.zD (yB dM K.size) (iM.below K) (by rw[dX];omega) dU fU);have jy:(f:Int)<12:=by omega
  have oj:=AA dU;have i0:=AA dM;clear iM eV hu dX cT dm o1 gy eX de dU p0 p2 dM kC;refine Aa 15 68 [.p g 0,.p g 0,.p g 4,.v sv,.p g 0,.p g 0,.p g 0,.p g 0,.s gm 12 cm,.p gq (j*3),.p gq (j*3),.p gq (j*3+1),.i ((f:Int)),.p gm f,.s gw 4 cw] (λ_ _ _=>True) ?_ ?_
  .intro i hi o O a H Z A Y hW z
   have bs:=bc Y jx k4;have br:=bc Y jx k0
   match i,hi with
   |0,_|1,_|2,_|4,_|5,_|6,_|7,_|9,_|10,_|11,_=>exact sP O z Z A
   |3,_|8,_=>exact sL O z Z A (hl:=F9 ‹_›)
   |12,_=>exact sL O z Z A (hl:=FT (bc Y it p1))
   |13,_=>exact sI O z Z A (hr:=by clear A Z z;go_simp)
   |14,_=>exact sL O z Z A (hl:=KU (bc Y gx DR))
   |_+15,hq=>omega
  .intro L H hR Y
   have q3:(L 3)=sv:=BS hR 3;have h9:(L 14)=.slice (some ⟨gw,0,none⟩) 4 cw:=BS hR 14;clear hR;simp only[Ak,Ah,yC,yy,yz,yx,q3,h9];simp;clear q3 h9;replace Y:Below W1.heap.size W1 H:=Y;go_wp2_with fail;refine(CS.out _ Y).mono ?_;rintro r w2 ⟨rfl,⟨lH,mi⟩,bl,g6⟩;have I2:=(fw.out.below Y).yY g6 mi;have B2:=dT.out.trans ((Y.mono i0.out).trans (bl.mono (yv _)));have dk:lo<=w2.heap.size:=yB i0.out (yB Y.size g6.size);have C2:=AA (QY I2 dk eP.out.k eP.out.zt E 0 (by decide));have fF:=AA B2;clear mi bl g6 I2 B2 Y CS k0 k4 p1 DR cb gx;go_wp2_with fail;refine C2.out.mono ?_;rintro r w3 ⟨rfl,hT⟩;obtain⟨m3,i3,e3,c3,I3⟩:=hT.yG;have B3:=AA (fF.out.trans hT.2.1);have iB:lo<=w3.heap.size:=yB dk hT.2.2.size;obtain⟨pp,pW,_,p1,_⟩:=I3.pg (n:=j) (by show j<zY.length;rw[f8.out];exact E);replace p1:w3.cell? ⟨gq,j*3+1,none⟩=some (.int .i64 (AC zY j).a):=p1;rw[fD.out] at p1;have lZ:DQ (Ae P.zV (Ig {P with zY:=zY,zR:=(((j:Int)+1)%16),swap:=P.swap.set sl (AG P.zV.mem f)} j 0)).1:=FR eP.out.k;have C3:=Je I3 iB lZ ⟨2,0,(f:Int),0,0,⟨#[]⟩⟩ (show(0:Int)<=0 by decide) (show(0:Int)<3 by decide) (yg _) (by unfold Ia;simp) (show(0:Int)<=9223372036854775807 by decide);have mM:=AA C3;clear hT I3 lZ C3 C2;go_wp2_with (refine mM.out.mono ?_;rintro r w4 ⟨rfl,⟨m4,i4,e4,c4,I4,_⟩,f3,eN⟩;have B4:=B3.out.trans f3;have fI:lo<=w4.heap.size:=yB iB eN.size;have I5:=I4.zp (n:=j) f8.out.symm (by show j<zY.length;rw[f8.out];exact E) ⟨2,(sl:Int),false⟩;obtain⟨ir,mj,p0,p1,p2⟩:=I4.pg (n:=j) (by show j<zY.length;rw[f8.out];exact E);have B5:=AA (AM B4 I5.2.1 I5.2.2 fI);have lC:=AA I5.1;clear I4 I5 f3 eN B4 mM);go_returns;refine⟨rfl,⟨m4,i4,e4,c4,?_⟩,B5.out⟩;have:=lC.out;rw[LY (t:=gA) ⟨by decide,by decide,by decide⟩] at this;unfold Ea Ag;simp only[fD.out,yd,oj.out];exact this
 .have gg:=HV.out
  rw[if_neg hc] at gg;have oD:=AA gg;have fB:=fw.out.zo (n:=j) (x:=⟨xw,xa,xu⟩) (y:=⟨xw,xa,false⟩) (j:=2) (u:=.bool false) f8.out.symm HX.out (by decide) rfl;have B2:=AA (AM dT.out fB.2.1 fB.2.2 (yB hE.out dT.out.size));have mg:DH P.zY (zY.set j (Nk (AC zY j))):=DH.trans HU.out (DH.one zY j);have ez:=AA fB.1;have M2:=AA (XQ fB.1 (by show(zY.set j _).length=16;rw[xP];exact f8.out) gi);have oF:=AA mg;have bk:Zc g gq n ((wr.setCell ⟨g,7,none⟩ (.int .i64 ((((j:Int)+1)%16)))).setCell ⟨gq,j*3+2,none⟩ (.bool false))<Zc g gq n wr:=by
   rw[M0.out,M2.out]
   show yL (((j:Int)+1)%16) n+_<yL (j:Int) n+_
   by_cases e:j=n
   .subst e
    have hu:xu=true:=by
     have ik:xw=1:=by have:=(Hy 32 P.zY P.zR eP.out.zR.1 eP.out.zR.2 j (by rw[hV.out])).2;rw[<-HU.out.w j,fD.out] at this;exact this
     cases xu
     .exact absurd ⟨ik,rfl⟩ hc
     .rfl
    have e1:(AC (zY.set j ⟨xw,xa,false⟩) j).u=false:=by rw[Dp,if_pos ⟨rfl,by rw[f8.out];exact E⟩]
    have e2:(AC zY j).u=true:=by rw[fD.out];exact hu
    have D:=ft.out;have N:=fo.out
    show _+(if(AC (zY.set j ⟨xw,xa,false⟩) j).u=true then 16 else 0)<_+(if(AC zY j).u=true then 16 else 0)
    rw[e1,e2,D,N];decide
   .have e1:(AC (zY.set j ⟨xw,xa,false⟩) n)=AC zY n:=by rw[Dp,if_neg (λh=>e h.1.symm)]
    have:=gG.out e
    show _+(if(AC (zY.set j ⟨xw,xa,false⟩) n).u=true then 16 else 0)<_+(if(AC zY n).u=true then 16 else 0)
    rw[e1];omega
  have ou:=AA bk;clear fB mg gg HV gG ft fo M0 M2 bk hV
  by_cases ik:xw=1
  focus
   subst ik
   obtain rfl:xu=true:=by
    cases xu
    .exact absurd ⟨rfl,rfl⟩ hc
    .rfl
   clear hc
  rotate_left
  focus
   have t1:(xw !=1)=true:=by simp[ik]
   clear hc ik
  rotate_left
  all_goals
   go_wp2_with fail;go_roundw
   case rel=>exact⟨k,_,_,ez.out,oD.out,by have:=oF.out;rw[fD.out] at this;exact this,HN.out.1,HN.out.2,B2.out⟩
   case measure=>exact ou.out
def Gk(k:AO)(f:Int)(ws:List Int)(j:Nat):AO:=(yC j).foldl (λk i=>(Ae k (Ag 3 f (i:Nat) (ws.getD i 0))).1) k
theorem K5{k:AO}{f:Int}{ws:List Int}:Gk k f ws (j+1)=(Ae (Gk k f ws j) (Ag 3 f (j:Int) (ws.getD j 0))).1:=by unfold Gk;rw[xt,uZ];rfl
theorem K4{k:AO}(h:DQ k){f:Int}{ws:List Int}(j:Nat):DQ (Gk k f ws j):=by
 induction j with
 |zero=>exact h
 |succ j ih=>rw[K5];exact FR ih
theorem WM{p:AR}{k1:AO}{fr:Int}(h:Ae p.zV (Ag 1 0 0 0)=(k1,fr,0)):
 PL p n=({p with zV:=(Ae (if(AC p.zY n).w=2 then VS k1 fr (AG p.swap (AC p.zY n).a.toNat) else k1) (Ig p n (IB fr))).1,swap:=if(AC p.zY n).w=2 then p.swap.set (AC p.zY n).a.toNat [] else p.swap,zY:=p.zY.set n ⟨1,fr,true⟩},true):=by
 unfold PL;rw[h];simp only;rw[if_neg (by simp)]
theorem ZD{w w':World}{g b o:Nat}(h:w.grownBy w' (some g))(ee:b≠g)(hc:w.cell? ⟨b,o,none⟩=some v):w'.cell? ⟨b,o,none⟩=some v:=
 (GL h (yA w _ hc) (λe=>ee (yF e).symm)).trans hc
def Pd(lo g:Nat)(w:World)(sv lv qv:Value)(t:AR×Bool)(r:Ending)(w':World):Prop:=
 r=.returned (.bool t.2)/\(t.2=true->∃m i e c,Gi lo g w' m i e c sv lv qv t.1)/\Below lo w w'
theorem Xk{lo g:Nat}{w:World}{P:AR}(h:Gi lo g w mv iv ev cv sv lv qv P)(cu:lo<=w.heap.size)(hP:Du P){n:Nat}(hn:n<16):
 Calls prog 45 #[.pointer (some ⟨g,0,none⟩),.int .i64 n] w (Pd lo g w sv lv qv (BN P n)):=by
 obtain⟨gq,qc,rfl,kj,kr,nG,j8,_⟩:=h.page (n:=0) (by rw[hP.zO];omega);rw[hP.zO] at h kj ⊢;unfold Pd;have eP:=AA hP;have HI:=AA h;have hE:=AA cu;have kq:(n:Int)<16:=by omega
 have j7:=j8.symm;obtain⟨_,_,_,_,_,_,x6,_,_⟩:=h.cells;obtain⟨gW,fq,p0,p1,p2⟩:=h.pg (n:=n) (by rw[hP.zO];exact hn);have hx:P.zY[n]?=some (AC P.zY n):=by unfold AC;exact A2 (by rw[hP.zO];exact hn)
 by_cases hw:(AC P.zY n).w=1
 .have HT:=AA (Nj hP hw)
  have fB:=h.zo (n:=n) (x:=AC P.zY n) (y:= {AC P.zY n with u:=true}) (j:=2) (u:=.bool true) hP.zO.symm hx (by decide) rfl;have B2:=AA (AM (yD _ _) fB.2.1 fB.2.2 cu);have ez:=AA fB.1;rw[hw] at p0;clear h hP cu hx fB hw;go_in;go_wp2_with fail;go_ret;refine⟨AH (by rw[HT.out]),λ_=>⟨mv,iv,ev,cv,?_⟩,B2.out⟩;rw[HT.out];exact ez.out
 .have t0:((AC P.zY n).w==1)=false:=by simp[hw]
  have nb:=AA hw;have CN:=AA (QW (w:=w) x6 (by have:=h.own.pgs.rd;exact this) hP.zO 1);have iI:Aj P.zY 1<=16:=by unfold Aj;exact yB vW (Nat.le_of_eq hP.zO)
  have CF:=AA (λW (K:Below w.heap.size w W)=>KJ iv P.zV.zZ W (BK.below h.own.ker.2.1.rd K));have T1:=AA (Qw (p:=P) (n:=n) hw);have T2:=AA (Qu hP hw);have T3:=AA (Qv hP hn hw);have FP:Ir P=(decide (Am P.zV.zZ<0)||decide ((Aj P.zY 1:Int)=P.zU)):=rfl;have fO:=AA FP;have nv:=hP.zU;have mG:=AA hP;generalize(AC P.zY n).w=pw at p0 t0;clear h hP cu hx hw FP p1 p2;go_in;go_wp2_with fail;refine CN.out.mono ?_;rintro r w1 ⟨rfl,b1⟩;have x1:=(HI.out.below b1).cells.2.1;have b9:=AA b1;clear p0 fq gW CN x6 b1;go_wp2_with fail;refine(CF.out _ b9.out).mono ?_;rintro r w2 ⟨rfl,b2⟩;have ez:=AA (HI.out.below (b9.out.trans (b2.mono b9.out.size)));have fF:=AA ((b9.out.trans (b2.mono b9.out.size)).mono hE.out);have dk:=AA (yB hE.out (yB b9.out.size b2.size));have x8:=ez.out.cells.2.2.2.2.2.2.2.2;clear b2 x1 HI CF;have tc:(((Aj P.zY 1:Nat):Int)==0)=decide (Aj P.zY 1=0):=by by_cases e:Aj P.zY 1=0<;>simp[e]
  have tl:(((Aj P.zY 1:Nat):Int)==P.zU)=decide ((Aj P.zY 1:Int)=P.zU):=by by_cases e:(Aj P.zY 1:Int)=P.zU<;>simp[e]
  go_upto_region 7 with fail;have jX:=AA (show decide (Am P.zV.zZ<0)=true↔Am P.zV.zZ<0 by simp);rw[show(decide (Am P.zV.zZ<0))=decide (Am P.zV.zZ<0) from rfl] at fO;generalize decide (Am P.zV.zZ<0)=fb at jX fO ⊢;go_cut [40] (λm0 H=>m0=.bool (fb&&decide (Aj P.zY 1=0))/\w2=H)
  case first=>
   cases fb
   .go_wp2_with fail
    go_meet
    case rel=>exact⟨rfl,rfl⟩
   .go_wp2_with fail
    go_meet
    case rel=>exact⟨by simp,rfl⟩
  case rest=>
   obtain⟨rfl,rfl⟩:=hcut;cases eZ:(fb&&decide (Aj P.zY 1=0))
   .go_upto_region 9 with fail
    go_cut [49] (λmZ H=>mZ=.bool (fb||decide ((Aj P.zY 1:Int)=P.zU))/\w2=H)
    case first=>
     cases fb
     .go_wp2_with fail
      go_meet
      case rel=>exact⟨by simp,rfl⟩
     .go_wp2_with fail
      go_meet
      case rel=>exact⟨rfl,rfl⟩
    case rest=>
    obtain⟨rfl,rfl⟩:=hcut;rw[<-fO.out];go_upto_if 49 with fail;go_cut [] (λH=>∃P1 m i e c,Gi lo g H m i e c sv lv (.slice (some ⟨gq,0,none⟩) 16 qc) P1/\Below lo w H/\lo<=H.heap.size/\Du P1/\0<=Am P1.zV.zZ/\(AC P1.zY n).w≠1/\BN P n=PL P1 n)
    case first=>
     have kp:¬(Am P.zV.zZ<0/\Aj P.zY 1=0):=λh=>by rw[jX.out.2 h.1,h.2] at eZ;cases eZ
     cases hf:Ir P
     .have HF:=T2.out hf
      go_wp2_with fail;go_meet
      case rel=>exact⟨P,_,_,_,_,ez.out,fF.out,dk.out,mG.out,HF.2,nb.out,HF.1⟩
     .obtain⟨mm,pgs,hd,fp⟩:=T3.out hf kp
      have CM:=AA (VN ez.out dk.out mG.out fp.vic);have eA:=AA fp;clear fp;go_wp2_with fail;refine CM.out.mono ?_;rintro r w3 ⟨rfl,⟨m1,i1,e1,c1,I1⟩,eI⟩;have fw:=AA I1;have dT:=AA (fF.out.trans eI);have dM:=AA (yB dk.out eI.size);clear I1 eI CM;go_wp2_with fail;go_meet
      case rel=>exact⟨_,_,_,_,_,fw.out,dT.out,dM.out,eA.out.ok2,eA.out.free,eA.out.nw,eA.out.is⟩
    case rest=>
    obtain⟨P1,m1,i1,e1,c1,I1,B1,l1,O1,f1,n1,t1⟩:=hcut;have fw:=AA I1;have dT:=AA B1;have dM:=AA l1;have dn:=AA O1;have jh:=AA f1;have lA:=AA t1;clear I1 B1 l1 O1 f1 t1 x8 ez fF dk eZ tc tl jX T1 T2 T3 fO;have C1:=Je fw.out dM.out dn.out.k ⟨1,0,0,0,0,gA⟩ (show(0:Int)<=0 by decide) (show(0:Int)<3 by decide) (by decide) (by unfold Ia;simp) (show(0:Int)<=9223372036854775807 by decide);obtain⟨k1,fr,fk,iH,fZ,g5⟩:∃k1 fr,Ae P1.zV (Ag 1 0 0 0)=(k1,fr,0)/\0<=fr/\fr<=11/\DQ k1:=by obtain⟨g1,_,_⟩:=Fg (zZ:=P1.zV.zZ) (by have:=jh.out;omega);rw[dn.out.k.len] at g1;have V:=FR (kind:=1) (a:=0) (b:=0) (c:=0) dn.out.k;have e:=MM (k:=P1.zV) dn.out.may jh.out (a:=0) (b:=0) (c:=0);rw[e] at V;exact⟨_,_,e,jh.out,by have:=jh.out;omega,V⟩
    have f6:=lA.out;rw[WM fk] at f6;unfold Xf at C1;rw[show(⟨1,0,0,0,0,gA⟩:Ac)=Ag 1 0 0 0 from rfl,fk] at C1;have hJ:=AA (xU iH fZ);have fN:=AA g5;clear fk iH fZ g5 jh;go_wp2_with fail;refine C1.mono ?_;rintro r w2 ⟨rfl,⟨m2,i2,e2,c2,I2,_⟩,bl,g6⟩;have B2:=AA (dT.out.trans bl);have dk:=AA (yB dM.out g6.size);obtain⟨gY,ml,p0,p1,p2⟩:=I2.pg (n:=n) (by show n<P1.zY.length;rw[dn.out.zO];exact hn);have ez:=AA I2;simp only at p0 p1;clear C1 bl g6 I2
    by_cases fy:(AC P1.zY n).w=2
    .rw[if_pos fy,if_pos fy] at f6
     have nj:(0<=(AC P1.zY n).a/\(AC P1.zY n).a<=15)/\Ds (AG P1.swap (AC P1.zY n).a.toNat)=true:=by
      rcases dn.out.zY n hn with⟨x,_⟩|⟨x,_⟩|⟨x1,x2,x3,x4,x5⟩
      .omega
      .omega
      .rcases dn.out.zv (AC P1.zY n).a.toNat (by omega) with x|x
       .exact absurd x x3
       .exact⟨by omega,x⟩
     obtain⟨⟨nT,kP⟩,dg⟩:=nj;obtain⟨sl,dU⟩:∃sl:Nat,(AC P1.zY n).a=(sl:Int):=⟨(AC P1.zY n).a.toNat,by omega⟩
     have fU:sl<16:=by omega
     have kh:(sl:Int)<16:=by omega
     rw[dU,yd] at dg f6;rw[dU] at p1;rw[fy] at p0;have je:=AA f6;obtain⟨dX,lN⟩:=A4.1 dg;obtain⟨gf,de⟩:=ez.out.own.swp;have eW:Au lo w2 sv gf P1.swap:=de;have io:P1.swap.length=16:=dn.out.zD;have cT:gf.length=16:=by rw[eW.2.1.1,io]
     obtain⟨gs,sc,e1,nf,_,ny,l4,_⟩:=eW.1.zM (by omega);rw[cT] at e1 nf;subst e1;obtain⟨gr,rc,hu,eV,_,_⟩:=eW.row (f:=sl) (by omega) (by omega);rw[dX] at hu eV;have DR:=AQ.zz ER (by rw[cT];exact eW.1) hu 0 _ rfl;rw[wB,xK] at DR;have x4:=ez.out.cells.2.2.2.2.1;have kS:=AF.rd eV;have m6:gr≠g:=by obtain⟨fu,hc⟩:=A6 eV gr rfl;exact Br hc ez.out.yK
     have DW:∀j,j<4->w2.cell? ⟨gr,j,none⟩=some (.int .i64 ((AG P1.swap sl).getD j 0)):=λj E=>by have:=xB (show w2.ownsRow lo 3 1 (.slice (some ⟨gr,0,none⟩) 4 rc) 4 ((AG P1.swap sl).map (xY .i64)) by have:=eV;unfold AF at this;rwa [dX] at this) j E;rw[this,xm,A2 (d:=0) (by omega)];rfl
     have Hr:=AA (xU dX lN);have oW:=AA DW;clear f6 de eW hu eV kS dg dX lN nT kP cT io DW fy;go_wp2_with fail;go_quiet (fail);generalize hwq:w2.drewN _=w3;have b3:Below w2.heap.size w2 w3:=by subst hwq;exact Av (yD _ _) _
     have oP:=AA (ez.out.below b3);have g3:w2.grownBy w3 (some g):=AY b3 _;have oT:=AA g3;have B3:=AA (B2.out.trans (b3.mono dk.out));clear hwq b3 g3 x4 p0 p1 p2 ml gY DR;go_wp2_with fail;go_loopw [9,10,71] (λ_ _ R wr=>∃k:Nat,k<=4/\R=.int .i64 k/\(∃m i e c,Gi lo g wr m i e c (.slice (some ⟨gs,0,none⟩) 16 sc) lv (.slice (some ⟨gq,0,none⟩) 16 qc) {P1 with zV:=Gk k1 fr (AG P1.swap sl) k})/\w2.grownBy wr (some g)/\Below lo w wr) (λ_ _ R _=>4 - (intOf R).toNat)
     exact⟨0,by omega,rfl,⟨_,_,_,_,oP.out⟩,oT.out,B3.out⟩
     obtain⟨k,V,rfl,⟨m4,i4,e4,c4,I4⟩,eN,B4⟩:=hrel;have fI:lo<=wr.heap.size:=yB dk.out eN.size
     by_cases lY:k<4
     .have k4:(k:Int)<4:=by omega
      have DW:=ZD eN m6 (oW.out k lY);have lM:(AG P1.swap sl).getD k 0<=9223372036854775807:=by have:=(Hr.out.2 _ (DT (d:=0) (show k<(AG P1.swap sl).length by rw[Hr.out.1];exact lY))).2;omega
      have C4:=AA (Je I4 fI (K4 fN.out k) ⟨3,0,fr,(k:Int),(AG P1.swap sl).getD k 0,⟨#[]⟩⟩ (show(0:Int)<=0 by decide) (show(0:Int)<3 by decide) (yg _) (by unfold Ia;simp) lM);have oz:=AA eN;have hX:=AA B4;have om:=AA (K5 (k:=k1) (f:=fr) (ws:=AG P1.swap sl) (j:=k));generalize(AG P1.swap sl).getD k 0=wd at*;clear I4 eN B4 lM;go_wp2_with fail;refine C4.out.mono ?_;rintro r w5 ⟨rfl,⟨m5,i5,e5,c5,I5,_⟩,mf,l9⟩;have mx:Gi lo g w5 m5 i5 e5 c5 (.slice (some ⟨gs,0,none⟩) 16 sc) lv (.slice (some ⟨gq,0,none⟩) 16 qc) {P1 with zV:=Gk k1 fr (AG P1.swap sl) (k+1)}:=by rw[LY (t:=gA) ⟨by decide,by decide,by decide⟩] at I5;rw[om.out];exact I5
      have lC:=AA mx;have G5:=AA (AP oz.out l9);have B5:=AA (hX.out.trans mf);clear I5 mx mf l9 C4 DW;go_wp2_with fail;go_roundw;exact⟨k+1,by omega,by go_num,⟨_,_,_,_,lC.out⟩,G5.out,B5.out⟩;simp[intOf];omega
     .obtain rfl:k=4:=by omega
      rw[show((4:Nat):Int)=4 from rfl];have jg:=AA I4;have hX:=AA B4;have iZ:=AA fI;generalize hW4:wr=W4 at*;clear I4 eN B4 hW4;have x4:=jg.out.cells.2.2.2.2.1;have eN:=AW jg.out.yK;obtain⟨ir,mj,_,p1,_⟩:=jg.out.pg (n:=n) (by show n<P1.zY.length;rw[dn.out.zO];exact hn);replace p1:W4.cell? ⟨gq,n*3+1,none⟩=some (.int .i64 (AC P1.zY n).a):=p1;rw[dU] at p1;go_wp2_with fail;refine Aa 9 105 [.p g 0,.p g 0,.p g 4,.s gs 16 sc,.p gq (n*3),.p gq (n*3),.p gq (n*3+1),.i ((sl:Int)),.p gs sl] (λ_ _ _=>True) ?_ ?_
      .intro i hi o O a H Z A Y hW z
       match i,hi with
       |0,_|1,_|2,_|4,_|5,_|6,_=>exact sP O z Z A
       |3,_=>exact sL O z Z A (hl:=F9 (bc Y eN x4))
       |7,_=>exact sL O z Z A (hl:=FT (bc Y ir p1))
       |8,_=>exact sI O z Z A (hr:=by clear A Z z;go_simp)
      .intro L H hR Y
       have q8:(L 8)=.pointer (some ⟨gs,sl,none⟩):=BS hR 8;clear hR;simp only[Ak,Ah,yC,yy,yz,yx,q8];simp;clear q8;replace Y:Below W4.heap.size W4 H:=Y;have lk:=jg.out.below Y;obtain⟨gf,de⟩:=lk.own.swp;replace de:Au lo H (.slice (some ⟨gs,0,none⟩) 16 sc) gf P1.swap:=de;have cT:gf.length=16:=by rw[de.2.1.1];exact dn.out.zD
       have gl:=yB iZ.out Y.size;have ix:=de.set (B:=H.heap.size) (j:=sl) (r:=[]) (v':=.slice none 0 0) (yD _ _) (xh _ _ _ _) (yv _) gl cT.symm (by omega);have I5:=AA (lk.yY ix.2 ix.1);have g1:H.ownsRow lo 29 1 (.slice (some ⟨gs,0,none⟩) 16 sc) 16 gf:=by have:=de.1;unfold AQ at this;rwa [Gs,cT] at this
       obtain⟨cv0,C1⟩:∃v,H.cell? ⟨gs,sl,none⟩=some v:=by have C1:=xB g1 sl (by omega);rw[yw (by omega)] at C1;exact⟨_,C1⟩
       have F1:=xJ g1 sl;have B5:=AA (AM (hX.out.trans (Y.mono iZ.out)) ix.2 (yk de.1 gs rfl).1 gl);have fe:=AA (yB gl ix.2.size);have lz:=AA (K4 fN.out (f:=fr) (ws:=AG P1.swap sl) 4);have jf:=je;clear jg hX lk ix g1 de x4 p1 mj je cT;go_wp2_with fail;clear C1 F1;generalize H.setCell _ _=w5 at*;refine(JP fr _ hJ.out.1 hJ.out.2).mono ?_;rintro r w6 ⟨rfl,rfl⟩;have C6:=AA (QY (P:= {P1 with zV:=Gk k1 fr (AG P1.swap sl) 4,swap:=P1.swap.set sl []}) I5.out fe.out lz.out dn.out.zt hn (IB fr) (by have:=hJ.out.2;unfold IB;omega));generalize eh:IB fr=en at C6;have ls:=AA eh;clear eh;go_wp2_with (refine C6.out.mono ?_;rintro r w7 ⟨rfl,hT⟩;obtain⟨m7,i7,e7,c7,I7⟩:=hT.yG;have B7:=B5.out.trans hT.2.1;have gp:lo<=w7.heap.size:=yB fe.out hT.2.2.size;obtain⟨ni,nZ,p0,p1,p2⟩:=I7.pg (n:=n) (by show n<P1.zY.length;rw[dn.out.zO];exact hn);have I8:=I7.zp (n:=n) dn.out.zO.symm (by show n<P1.zY.length;rw[dn.out.zO];exact hn) ⟨1,fr,true⟩;have B8:=AA (AM B7 I8.2.1 I8.2.2 gp);have lB:=AA I8.1;clear hT I7 I8 B7 C6);go_ret;refine⟨AH (by rw[jf.out]),λ_=>⟨m7,i7,e7,c7,?_⟩,B8.out⟩;rw[jf.out];have e8:=lB.out;rw[<-ls.out] at e8;exact e8
    .rw[if_neg fy,if_neg fy] at f6
     have t2:((AC P1.zY n).w==2)=false:=by simp[fy]
     have jf:=AA f6;have I5:=ez;have B5:=B2;have fe:=dk;have lz:=fN;generalize(AC P1.zY n).w=pw at p0 t2;clear f6 fy fN;go_wp2_with fail;clear p0 p1 p2 t2 ml gY;refine(JP fr _ hJ.out.1 hJ.out.2).mono ?_;rintro r w6 ⟨rfl,rfl⟩;have C6:=AA (QY (P:= {P1 with zV:=k1,swap:=P1.swap}) I5.out fe.out lz.out dn.out.zt hn (IB fr) (by have:=hJ.out.2;unfold IB;omega));generalize eh:IB fr=en at C6;have ls:=AA eh;clear eh;go_wp2_with (refine C6.out.mono ?_;rintro r w7 ⟨rfl,hT⟩;obtain⟨m7,i7,e7,c7,I7⟩:=hT.yG;have B7:=B5.out.trans hT.2.1;have gp:lo<=w7.heap.size:=yB fe.out hT.2.2.size;obtain⟨ni,nZ,p0,p1,p2⟩:=I7.pg (n:=n) (by show n<P1.zY.length;rw[dn.out.zO];exact hn);have I8:=I7.zp (n:=n) dn.out.zO.symm (by show n<P1.zY.length;rw[dn.out.zO];exact hn) ⟨1,fr,true⟩;have B8:=AA (AM B7 I8.2.1 I8.2.2 gp);have lB:=AA I8.1;clear hT I7 I8 B7 C6);go_ret;refine⟨AH (by rw[jf.out]),λ_=>⟨m7,i7,e7,c7,?_⟩,B8.out⟩;rw[jf.out];have e8:=lB.out;rw[<-ls.out] at e8;exact e8
   .have HT:=AA (T1.out (by
     simp only[yu,decide_eq_true_eq] at eZ;exact⟨jX.out.1 eZ.1,eZ.2⟩))
    go_wp2_with fail;go_ret;exact⟨AH (by rw[HT.out]),λh=>(by rw[HT.out] at h;cases h),fF.out⟩
theorem Cp{lo g:Nat}{w:World}{a0 a1 a2 a3 a4 a5 a6 a7 a8 m i e c s l q:Value}{P:AR}(hB:w.heap[g]?=some (.cells #[a0,a1,a2,a3,a4,a5,a6,a7,a8] 32 (0,0)))(ho:FQ lo w m i e c s l q P):
 (((Dy w g m i e c s l q).setCell ⟨g,7,none⟩ (.int .i64 P.zR)).setCell ⟨g,8,none⟩ (.int .i64 P.zU)).heap[g]?=some (.cells #[m,i,e,c,s,l,q,.int .i64 P.zR,.int .i64 P.zU] 32 (0,0))/\
 FQ lo (((Dy w g m i e c s l q).setCell ⟨g,7,none⟩ (.int .i64 P.zR)).setCell ⟨g,8,none⟩ (.int .i64 P.zU)) m i e c s l q P/\
 w.grownBy (((Dy w g m i e c s l q).setCell ⟨g,7,none⟩ (.int .i64 P.zR)).setCell ⟨g,8,none⟩ (.int .i64 P.zU)) (some g):=by
 have gr:=EY (w:=w) (g:=g) (b0:=m) (b1:=i) (b2:=e) (b3:=c) (b4:=s) (b5:=l) (b6:=q) (b7:=.int .i64 P.zR) (b8:=.int .i64 P.zU);exact⟨F5 hB,ho.yL gr hB,gr⟩
theorem EL{B g:Nat}{w:World}{a0 a1 a2 a3 a4 a5 a6 a7 a8:Value}(hB:w.heap[g]?=some (.cells #[a0,a1,a2,a3,a4,a5,a6,a7,a8] 32 (0,0)))(J:Below B w0 w)(hg:B<=g):
 (((Dy w g (.slice none 0 0) (.slice none 0 0) (.slice none 0 0) (.slice none 0 0) (.slice none 0 0) (.slice none 0 0) (.slice none 0 0)).setCell ⟨g,7,none⟩ (.int .i64 0)).setCell ⟨g,8,none⟩ (.int .i64 0)).heap[g]?=some (.cells #[.slice none 0 0,.slice none 0 0,.slice none 0 0,.slice none 0 0,.slice none 0 0,.slice none 0 0,.slice none 0 0,.int .i64 0,.int .i64 0] 32 (0,0))/\
 Below B w0 (((Dy w g (.slice none 0 0) (.slice none 0 0) (.slice none 0 0) (.slice none 0 0) (.slice none 0 0) (.slice none 0 0) (.slice none 0 0)).setCell ⟨g,7,none⟩ (.int .i64 0)).setCell ⟨g,8,none⟩ (.int .i64 0)):=
 ⟨F5 hB,AM J EY hg (yB hg (Nat.le_of_lt (AW hB)))⟩
theorem Gi.start{lo:Nat}{w:World}{m i e c s l q:Value}{P:AR}(ho:FQ lo w m i e c s l q P)(cu:lo<=w.heap.size):Gi lo w.heap.size (w.alloc (.cells #[m,i,e,c,s,l,q,.int .i64 P.zR,.int .i64 P.zU] 32)) m i e c s l q P:=
 ⟨yi _ _,cu,ho.below (AI _ _)⟩
def Fx(w:World)(t:AR×Bool)(r:Ending)(w':World):Prop:=∃m i e c s l q,r=.returned (.tuple #[AN m i e c s l q t.1.zR t.1.zU,.bool t.2])/\FQ w.heap.size w' m i e c s l q t.1/\Below w.heap.size w w'
theorem KI(mv iv ev cv sv lv qv:Value)(P:AR)(n:Int)(w:World)(h:Jy w mv iv ev cv sv lv qv P)(hs:Dn P.zV)(eZ:(BI P&&BZ n 0 15)=false):
 Calls prog 15 #[AN mv iv ev cv sv lv qv P.zR P.zU,.int .i64 n] w λr w'=>TS r/\Below w.heap.size w w':=by
 unfold AN;obtain⟨B0,B1,bq,eY⟩:=Gw w (.cells #[mv,iv,ev,cv,sv,lv,qv,.int .i64 P.zR,.int .i64 P.zU] 32) (.cells #[.slice none 0 0,.slice none 0 0,.slice none 0 0,.slice none 0 0,.slice none 0 0,.slice none 0 0,.slice none 0 0,.int .i64 0,.int .i64 0] 32);have h0:=h.below bq;go_in;go_wp2_with fail;generalize(w.alloc _).alloc _=W0 at*;have CV:=AA (λW (K:Below W0.heap.size W0 W)=>GF mv iv ev cv sv lv qv P W (h0.below K) hs);have dr:=AA bq;have dT:=AA B1;generalize BI P=ok at*;clear h h0 bq B0 eY;refine(CV.out W0 (yD _ _)).mono ?_;rintro r w1 ⟨rfl,b1⟩;have Bw:=AA (dr.out.trans (b1.mono dr.out.size));have N1:=AB dT.out b1;have f1:=AK N1;obtain⟨a0,a1,a2,a3,a4,a5,a6,a7,a8⟩:=AD N1;have S2:=AA (EL N1 (Bw.out) (by omega));clear b1 B1 N1;cases ok
 rotate_left
 focus
  go_wp2_with fail
  refine(Mn _ _).mono ?_;rintro r w2 ⟨rfl,rfl⟩;rw[show BZ n 0 15=false by simpa using eZ]
 rotate_left
 all_goals
  go_wp2_with fail
  clear a0 a1 a2 a3 a4 a5 a6 a7 a8 f1;obtain⟨N2,B2⟩:=S2.out;unfold Dy at N2 B2;exact yr (v:=.tuple #[.agg #[_,_,_,_,_,_,_,_,_],_]) (by simp[results,Tryz.results15,go_sem,AD N2]) rfl ⟨rfl,B2⟩
theorem Ji(mv iv ev cv sv lv qv:Value)(P:AR)(w:World)(h:Jy w mv iv ev cv sv lv qv P)(hP:Du P){n:Nat}(hn:n<16):
 Calls prog 15 #[AN mv iv ev cv sv lv qv P.zR P.zU,.int .i64 n] w (Fx w (BN P n)):=by
 unfold AN Fx;obtain⟨B0,B1,bq,eY⟩:=Gw w (.cells #[mv,iv,ev,cv,sv,lv,qv,.int .i64 P.zR,.int .i64 P.zU] 32) (.cells #[.slice none 0 0,.slice none 0 0,.slice none 0 0,.slice none 0 0,.slice none 0 0,.slice none 0 0,.slice none 0 0,.int .i64 0,.int .i64 0] 32);have h0:=h.below bq;have bN:BI P=true:=Ca.2 hP;have HT:=λ(h:(BN P n).2=false)=>Fn hP hn h
 have HO:=Kf hP hn;generalize hT:BN P n=t at HT HO ⊢;obtain⟨Q,bb⟩:=t;replace HT:=AA HT;replace HO:=AA HO;have oy:=AA hT;clear hT;dsimp only at HT HO ⊢;go_in;go_wp2_with fail;generalize(w.alloc _).alloc _=W0 at*;have CV:=AA (λW (K:Below W0.heap.size W0 W)=>GF mv iv ev cv sv lv qv P W (h0.below K) (CQ hP.k));have CO:=AA (λW (K:Below W0.heap.size W0 W)=>NW mv iv ev cv sv lv qv P W (h0.below K) hP);rw[bN] at CV;have dr:=AA bq;have ca:=AA B0;have dT:=AA B1;have oI:=AA hP;have kq:BZ (n:Int) 0 15=true:=AZ.2 (by omega);clear h h0 bq B0 B1 hP bN;refine(CV.out W0 (yD _ _)).mono ?_;rintro r w1 ⟨rfl,b1⟩;obtain⟨x0,x1,x2,x3,x4,x5,x6,x7,x8⟩:=AD (AB ca.out b1);have b9:=AA b1;clear b1 CV;go_wp2_with fail;refine(Mn _ _).mono ?_;rintro r w2 ⟨rfl,rfl⟩;rw[kq];go_wp2_with fail;refine(CO.out w1 b9.out).mono ?_;rintro r w2 ⟨m2,i2,e2,c2,s2,l2,q2,rfl,O2,b2⟩;unfold AN;obtain⟨⟨⟨ma,mn,mc,rfl⟩,⟨ia,iN,ic,rfl⟩,⟨ea,en,ec,rfl⟩,⟨qa,qn,qc,rfl⟩⟩,⟨sa,sn,sc,rfl⟩,⟨la,ln,lc,rfl⟩,⟨pa,pn,pc,rfl⟩⟩:=O2.zQ;have eF:W0.heap.size<=w2.heap.size:=yB b9.out.size b2.size;have I3:=Gi.start (O2.lower b9.out.size) eF;have b3:Below W0.heap.size W0 (w2.alloc (.cells #[.slice ma mn mc,.slice ia iN ic,.slice ea en ec,.slice qa qn qc,.slice sa sn sc,.slice la ln lc,.slice pa pn pc,.int .i64 P.zR,.int .i64 P.zU] 32)):=b9.out.trans ((b2.mono b9.out.size).trans ((AI _ _).mono eF));clear O2 b2 x0 x1 x2 x3 x4 x5 x6 x7 x8;go_wp2_with fail;generalize w2.heap.size=g3 at*;generalize w2.alloc _=W3 at*;have CB:=Xk I3 b3.size oI.out hn;have gP:=AA b3;clear I3 b3;rw[oy.out] at CB;unfold Pd at CB;refine CB.mono ?_;rintro r w4 ⟨rfl,hI,f3⟩;have gO:=AA (gP.out.trans f3);have B1:=AB dT.out gO.out;have f9:=AA (dr.out.trans (gO.out.mono dr.out.size));cases bb
 .have hs:=HT.out rfl
  obtain⟨x0,x1,x2,x3,x4,x5,x6,x7,x8⟩:=AD (AB ca.out gO.out);clear hI f3 CB;go_wp2_with fail;refine(CO.out w4 gO.out).mono ?_;rintro r w5 ⟨m5,i5,e5,c5,s5,l5,q5,rfl,O5,b5⟩;unfold AN;clear x0 x1 x2 x3 x4 x5 x6 x7 x8;subst hs;obtain⟨⟨⟨ma,mn,mc,rfl⟩,⟨ia,iN,ic,rfl⟩,⟨ea,en,ec,rfl⟩,⟨qa,qn,qc,rfl⟩⟩,⟨sa,sn,sc,rfl⟩,⟨la,ln,lc,rfl⟩,⟨pa,pn,pc,rfl⟩⟩:=O5.zQ;have N5:=AB B1 b5;have S5:=Cp N5 O5;obtain⟨a0,a1,a2,a3,a4,a5,a6,a7,a8⟩:=AD N5;have f5:=AK N5;have lu:=AA S5;have fC:=AA b5;have ll:=AA (AW B1);clear O5 S5 N5 b5 B1;go_wp2_with fail;clear a0 a1 a2 a3 a4 a5 a6 a7 a8 f5;obtain⟨N6,O6,kX⟩:=lu.out;have B6:=AM (f9.out.trans (fC.out.mono (by have:=f9.out.size;have:=ll.out;omega))) kX (by omega) (by have:=f9.out.size;have:=fC.out.size;omega);have O7:=O6.lower (lo':=w.heap.size) (by have:=f9.out.size;omega);unfold Dy at N6 O7 B6;exact yr (v:=.tuple #[.agg #[_,_,_,_,_,_,_,_,_],.bool false]) (by simp[results,Tryz.results15,go_sem,AD N6]) rfl ⟨_,_,_,_,_,_,_,rfl,O7,B6⟩
 .obtain⟨m4,i4,e4,c4,I4⟩:=hI rfl
  have C5:=AA (NW _ _ _ _ _ _ _ Q w4 I4.own.rd HO.out);obtain⟨x0,x1,x2,x3,x4,x5,x6,x7,x8⟩:=AD I4.yK;clear f3 CB I4;go_wp2_with fail;refine C5.out.mono ?_;rintro r w5 ⟨m5,i5,e5,c5,s5,l5,q5,rfl,O5,b5⟩;unfold AN;clear x0 x1 x2 x3 x4 x5 x6 x7 x8 C5;obtain⟨⟨⟨ma,mn,mc,rfl⟩,⟨ia,iN,ic,rfl⟩,⟨ea,en,ec,rfl⟩,⟨qa,qn,qc,rfl⟩⟩,⟨sa,sn,sc,rfl⟩,⟨la,ln,lc,rfl⟩,⟨pa,pn,pc,rfl⟩⟩:=O5.zQ;have N5:=AB B1 b5;have S5:=Cp N5 O5;obtain⟨a0,a1,a2,a3,a4,a5,a6,a7,a8⟩:=AD N5;have f5:=AK N5;have lu:=AA S5;have fC:=AA b5;have ll:=AA (AW B1);clear O5 S5 N5 b5 B1;go_wp2_with fail;clear a0 a1 a2 a3 a4 a5 a6 a7 a8 f5;obtain⟨N6,O6,kX⟩:=lu.out;have B6:=AM (f9.out.trans (fC.out.mono (by have:=f9.out.size;have:=ll.out;omega))) kX (by omega) (by have:=f9.out.size;have:=fC.out.size;omega);have O7:=O6.lower (lo':=w.heap.size) (by have:=f9.out.size;omega);unfold Dy at N6 O7 B6;exact yr (v:=.tuple #[.agg #[_,_,_,_,_,_,_,_,_],.bool true]) (by simp[results,Tryz.results15,go_sem,AD N6]) rfl ⟨_,_,_,_,_,_,_,rfl,O7,B6⟩
theorem EI(n:Int)(w:World):Calls prog 80 #[.int .i64 n] w λe w'=>e=.returned (.bool (BZ n 0 11))/\w=w':=by go_in;go_wp2_with (go_at_call 42;refine(C8 _ _ _ _).mono ?_;rintro e w' ⟨rfl,rfl⟩);go_ret;exact⟨rfl,rfl⟩
theorem Jb(n:Int)(w:World):Calls prog 180 #[.int .i64 n] w λe w'=>e=.returned (.bool (BZ n 0 2))/\w=w':=by go_in;go_wp2_with (go_at_call 42;refine(C8 _ _ _ _).mono ?_;rintro e w' ⟨rfl,rfl⟩);go_ret;exact⟨rfl,rfl⟩
theorem Fj(n:Int)(w:World):Calls prog 130 #[.int .i64 n] w λe w'=>e=.returned (.bool (Bh n))/\w=w':=by
 by_cases N:n=2
 .subst N
  go_in;go_wp2_with fail;go_ret;exact⟨rfl,rfl⟩
 .have t2:(n==2)=false:=by simp[N]
  have hj:=AA (show Bh n=(n==3) by by_cases h3:n=3<;>simp[Bh,N,h3]);clear N;go_in;go_wp2_with fail;go_ret;exact⟨AH hj.out.symm,rfl⟩
def EQ(x:Int):Int:=if x=0 then 0 else if Bm x then 1 else 2
theorem KH(x:Int)(w:World):Calls prog 222 #[.int .i64 x] w λe w'=>e=.returned (.int .i64 (EQ x))/\w=w':=by
 by_cases h0:x=0
 .subst h0
  go_in;go_wp2_with fail;go_ret;exact⟨rfl,rfl⟩
 .have t0:(x==0)=false:=by simp[h0]
  by_cases D:0<x
  .by_cases N:x%2=1
   .have t2:(x%2==1)=true:=by simp[N]
    by_cases h3:x<48
    .have hj:=AA (show EQ x=1 by unfold EQ;rw[if_neg h0,if_pos (by simp[Bm,D,N,h3])])
     clear N h0;go_in;go_wp2_with fail;go_ret;exact⟨Ch hj.out.symm,rfl⟩
    .have hj:=AA (show EQ x=2 by unfold EQ;rw[if_neg h0,if_neg (by simp[Bm,D,N,h3])])
     clear N h0;go_in;go_wp2_with fail;go_ret;exact⟨Ch hj.out.symm,rfl⟩
   .have t2:(x%2==1)=false:=by simp[N]
    have hj:=AA (show EQ x=2 by unfold EQ;rw[if_neg h0,if_neg (by simp[Bm,N])]);clear N h0;go_in;go_wp2_with fail;go_ret;exact⟨Ch hj.out.symm,rfl⟩
  .have hj:=AA (show EQ x=2 by unfold EQ;rw[if_neg h0,if_neg (by simp[Bm,D])])
   clear h0;go_in;go_wp2_with fail;go_ret;exact⟨Ch hj.out.symm,rfl⟩
theorem DB(x:Int)(w:World)(hx:x<=9223372036854775807):Calls prog 186 #[.int .i64 x] w λe w'=>e=.returned (Tg x)/\w=w':=by
 cases hg:Bm x
 focus
  have hj:=AA (Eu hg)
  have hW:(EQ x !=1)=true:=by unfold EQ;split<;>simp[hg]
  generalize V:EQ x=k at hW;have z:=AA V;clear hg V
 rotate_left
 focus
  have hp:0<x/\x%2=1/\x<48:=by simpa[Bm,and_assoc] using hg
  have W:Ko x=(x%4==3):=by cases h:(x%4==3)<;>simp_all[Ko]
  have hj:=AA (show Tg x=.tuple #[.int .i64 (x/4),.bool (x%4==3),.bool true] by rw[Ej hg,Uu hg,W]);have z:=AA (show EQ x=1 by unfold EQ;rw[if_neg (by omega),hg];rfl);have h0:0<=x:=by omega
  clear hg W hp
 rotate_left
 all_goals
  go_in;go_wp2_with (go_at_call 222;refine(KH _ _).mono ?_;rintro e w' ⟨rfl,rfl⟩;rw[z.out]);go_ret3;exact⟨OT hj.out.symm,rfl⟩
theorem aJ(a b:ByteArray):((b.extract 0 a.size).toList==a.toList)=LZ a b:=by rw[wF,beq_iff_eq,xj,xj];unfold LZ;rw[tL,List.prefix_iff_eq_take];simp only[ByteArray.data_extract,Array.toList_extract,List.extract,Nat.sub_zero,List.drop_zero,Array.length_toList,ByteArray.size_data];exact eq_comm
theorem MW(a b:ByteArray)(w:World)(ha:a.size<=maxLen)(J:b.size<=maxLen):Calls prog 134 #[.string a,.string b] w λe w'=>e=.returned (.bool (LZ a b))/\w=w':=by
 unfold maxLen at ha J
 by_cases h:a.size<=b.size
 .have D:(a.size:Int)<=b.size:=by omega
  have hj:=AA (aJ a b);go_in;go_wp2_with fail;go_ret;exact⟨AH hj.out,rfl⟩
 .have D:¬(a.size:Int)<=b.size:=by omega
  have hj:=AA (show LZ a b=false by
   cases hc:LZ a b
   .rfl
   .have:=(tL.1 hc).length_le
    simp at this;omega)
  go_in;go_wp2_with fail;go_ret;exact⟨AH hj.out.symm,rfl⟩
theorem J6{α:Type}{p:α->Bool}{xs:List α}{f:Nat->α}(hf:∀k,k<xs.length->xs[k]?=some (f k))(h:∀j,j<xs.length->p (f j)=true):xs.all p=true:=by rw[xZ];intro x hx;obtain⟨j,E,rfl⟩:=wS hx;have:=h j E;have e:=hf j E;rw[yw E] at e;rw[yF e];exact this
theorem JG{α:Type}{p:α->Bool}{xs:List α}{x:α}(hx:xs[k]?=some x)(hp:p x=false):xs.all p=false:=by rw[wP];exact⟨x,yh hx,by simp[hp]⟩
theorem OF{α:Type}{p:α->Bool}{xs:List α}{x:α}(hx:xs[k]?=some x)(hp:p x=true):xs.any p=true:=vP.2 ⟨x,yh hx,hp⟩
theorem LW{α:Type}{p:α->Bool}{xs:List α}{f:Nat->α}(hf:∀k,k<xs.length->xs[k]?=some (f k))(h:∀j,j<xs.length->p (f j)=false):xs.any p=false:=by rw[List.any_eq_false];intro x hx;obtain⟨j,E,rfl⟩:=wS hx;have:=h j E;have e:=hf j E;rw[yw E] at e;rw[yF e];simp[this]
theorem PZ{xs:List Int}(h:k<xs.length):xs[k]?=some (nth xs k):=QR h
theorem Lf(v:Value)(r:List Int)(w:World)(h:Ax w v r):Calls prog 78 #[v] w λe w'=>e=.returned (.bool (Ds r))/\Below w.heap.size w w':=by
 obtain⟨a,c,rfl,hc,cb,wx⟩:=h.open;unfold maxLen at cb;have HH:=AA wx;clear h wx;go_in;go_wp2_with fail;go_loopw [3] (λR wr=>∃k:Nat,k<=r.length/\R=.int .i64 k/\(∀j,j<k->Dk (nth r j)=true)/\Below w.heap.size w wr) (λR _=>r.length - (intOf R).toNat)
 exact⟨0,yg _,rfl,λj E=>absurd E (xN _),yD _ _⟩
 obtain⟨k,V,rfl,ab,J⟩:=hrel;have au:=AA ab;clear ab
 by_cases bk:k<r.length
 .have bD:(k:Int)<(r.length:Int):=by omega
  obtain⟨b,bp,rfl,h1⟩:=(HH.out.below J).at bk;cases hp:Dk (nth r k)
  .have S:=AA (show Ds r=false by unfold Ds;rw[JG (PZ bk) hp];rfl)
   have Hp:=AA hp;clear hp;go_wp2_with (refine(C8 _ _ _ _).mono ?_;rintro e w' ⟨rfl,rfl⟩;rw[show BZ _ 0 9999=false from Hp.out]);go_ret;exact⟨AH S.out.symm,J⟩
  .have Hp:=AA hp
   clear hp;go_wp2_with fail;refine(C8 _ _ _ _).mono ?_;rintro e w' ⟨rfl,rfl⟩;rw[show BZ _ 0 9999=true from Hp.out];go_wp2_with fail;go_roundw;exact⟨k+1,by omega,by go_num,Al au.out Hp.out,J⟩;simp[intOf];omega
 .have ek:k=r.length:=by omega
  have ab:=au.out;rw[ek] at ab;have S:=AA (show Ds r=((r.length:Int)==4) by unfold Ds;rw[J6 (λk V=>PZ V) ab];by_cases h4:r.length=4<;>simp[h4]<;>omega);clear au ab;go_wp2_with fail;go_ret;exact⟨AH S.out.symm,J⟩
theorem KD{m:List (List Int)}(h:k<m.length):m[k]?=some (AG m k):=by unfold AG;exact A2 h
theorem IX(v:Value)(m:List (List Int))(w:World)(h:Bk w v m):Calls prog 71 #[v] w λe w'=>e=.returned (.bool (Bu m))/\Below w.heap.size w w':=by
 obtain⟨a,c,rfl,hc,cb,wx⟩:=h.open;unfold maxLen at cb;have HH:=AA wx;clear h wx;go_in;go_wp2_with fail;go_loopw [3] (λR wr=>∃k:Nat,k<=m.length/\R=.int .i64 k/\(∀j,j<k->Ds (AG m j)=true)/\Below w.heap.size w wr) (λR _=>m.length - (intOf R).toNat)
 exact⟨0,yg _,rfl,λj E=>absurd E (xN _),yD _ _⟩
 obtain⟨k,V,rfl,ab,J⟩:=hrel;have au:=AA ab;clear ab
 by_cases bk:k<m.length
 .have bD:(k:Int)<(m.length:Int):=by omega
  obtain⟨b,bp,u,rfl,bu,h1,hr⟩:=(HH.out.below J) k bk;have C:=AA (Lf u _ wr hr);clear hr;cases hp:Ds (AG m k)
  .have S:=AA (show Bu m=false by unfold Bu;rw[JG (KD bk) hp];rfl)
   have Hp:=AA hp;clear hp;go_wp2_with (refine C.out.mono ?_;rintro e w2 ⟨rfl,b2⟩;rw[Hp.out]);go_ret;exact⟨AH S.out.symm,J.trans (b2.mono J.size)⟩
  .have Hp:=AA hp
   clear hp;go_wp2_with fail;refine C.out.mono ?_;rintro e w2 ⟨rfl,b2⟩;rw[Hp.out];go_wp2_with fail;go_roundw;exact⟨k+1,by omega,by go_num,Al au.out Hp.out,J.trans (b2.mono J.size)⟩;simp[intOf];omega
 .have ek:k=m.length:=by omega
  have ab:=au.out;rw[ek] at ab;have S:=AA (show Bu m=((m.length:Int)==12) by unfold Bu;rw[J6 (λk V=>KD V) ab];by_cases h4:m.length=12<;>simp[h4]<;>omega);clear au ab;go_wp2_with fail;go_ret;exact⟨AH S.out.symm,J⟩
theorem Ws{x:AV}(V:x.k=0):DU x=decide (x=AV.zero):=by unfold DU;rw[show BZ x.k 1 3=false from WK.2 (by omega)];simp
theorem Ms{x:AV}(V:x.k≠0):DU x=(BZ x.k 1 3&&BV x.g&&BZ x.r 0 50):=by unfold DU;rw[show decide (x=AV.zero)=false by simp;intro e;rw[e] at V;exact V rfl];simp
theorem U8(x:AV)(w:World)(hs:x.g.size<=maxLen):Calls prog 124 #[x.val] w λe w'=>e=.returned (.bool (DU x))/\Below w.heap.size w w':=by
 have E0:=Ws (x:=x);have E1:=Ms (x:=x);generalize DU x=res at E0 E1 ⊢;obtain⟨k,g,r⟩:=x;simp only[AV.val];dsimp only at E0 E1 hs;have C:=AA (λW=>EX g W hs)
 by_cases V:k=0
 .subst V
  have ix:=AA (show res=(decide (g=⟨#[]⟩)&&decide (r=0)) by rw[E0 rfl];simp[AV.zero]);clear E0 E1
  by_cases hg:g=⟨#[]⟩
  .subst hg
   by_cases hr:r=0
   .subst hr
    go_in;go_wp2_with fail;go_ret;exact⟨AH (by rw[ix.out];rfl),AI _ _⟩
   .have R2:=AA (show res=false by rw[ix.out];simp[hr])
    go_in;go_wp2_with fail;go_ret;exact⟨AH R2.out.symm,AI _ _⟩
  .have R2:=AA (show res=false by rw[ix.out];simp[hg])
   have l6:¬g.toList=[]:=λe=>hg (by rw[xj] at e;obtain⟨⟨l⟩⟩:=g;simp at e;rw[e])
   go_in;go_wp2_with fail;go_ret;exact⟨AH R2.out.symm,AI _ _⟩
 .have t0:(k==0)=false:=by simp[V]
  have ix:=AA (E1 V);clear E0 E1 V;go_in;go_wp2_with fail;refine(C8 _ _ _ _).mono ?_;rintro e w2 ⟨rfl,rfl⟩;cases D:BZ k 1 3
  .have R2:=AA (show res=false by rw[ix.out,D];rfl)
   go_wp2_with fail;go_ret;exact⟨AH R2.out.symm,AI _ _⟩
  .go_wp2_with fail
   refine(C.out _).mono ?_;rintro e w2 ⟨rfl,rfl⟩;cases N:BV g
   .have R2:=AA (show res=false by rw[ix.out,D,N];rfl)
    go_wp2_with fail;go_ret;exact⟨AH R2.out.symm,AI _ _⟩
   .have R2:=AA (show res=BZ r 0 50 by rw[ix.out,D,N];rfl)
    go_wp2_with (refine(C8 _ _ _ _).mono ?_;rintro e w2 ⟨rfl,rfl⟩);go_ret;exact⟨AH R2.out.symm,AI _ _⟩
theorem DZ(v:Value)(xs:List AV)(w:World)(h:Bb w v xs)(hs:IS xs):Calls prog 72 #[v] w λe w'=>e=.returned (.bool (BP xs))/\Below w.heap.size w w':=by
 obtain⟨a,c,rfl,hc,cb,wx⟩:=BK.open A0 (by decide) h;unfold maxLen at cb;have HH:=AA wx;have HS:=AA hs;clear h wx hs;go_in;go_wp2_with fail;go_loopw [3] (λR wr=>∃k:Nat,k<=xs.length/\R=.int .i64 k/\(∀j,j<k->DU (zS xs j)=true)/\Below w.heap.size w wr) (λR _=>xs.length - (intOf R).toNat)
 exact⟨0,yg _,rfl,λj E=>absurd E (xN _),yD _ _⟩
 obtain⟨k,V,rfl,ab,J⟩:=hrel;have au:=AA ab;clear ab
 by_cases bk:k<xs.length
 .have bD:(k:Int)<(xs.length:Int):=by omega
  obtain⟨b,bp,rfl,bu,D0,D1,D2⟩:=(HH.out.below J).zP bk;have C:=U8 (zS xs k) wr (HS.out _ (yh (Cq bk)));simp only[AV.val] at C;have HC:=AA C;clear C;cases hp:DU (zS xs k)
  .have S:=AA (show BP xs=false by unfold BP;rw[JG (Cq bk) hp];rfl)
   have Hp:=AA hp;clear hp;go_wp2_with (refine HC.out.mono ?_;rintro e w2 ⟨rfl,b2⟩;rw[Hp.out]);go_ret;exact⟨AH S.out.symm,J.trans (b2.mono J.size)⟩
  .have Hp:=AA hp
   clear hp;go_wp2_with fail;refine HC.out.mono ?_;rintro e w2 ⟨rfl,b2⟩;rw[Hp.out];go_wp2_with fail;go_roundw;exact⟨k+1,by omega,by go_num,Al au.out Hp.out,J.trans (b2.mono J.size)⟩;simp[intOf];omega
 .have ek:k=xs.length:=by omega
  have ab:=au.out;rw[ek] at ab;have S:=AA (show BP xs=((xs.length:Int)==12) by unfold BP;rw[J6 (λk V=>Cq V) ab];by_cases h4:xs.length=12<;>simp[h4]<;>omega);clear au ab;go_wp2_with fail;go_ret;exact⟨AH S.out.symm,J⟩
theorem ZA{xs:List AV}(V:k<xs.length)(h:∀j,j<k->decide ((zS xs j).k=0)=false)(hp:decide ((zS xs k).k=0)=true):Am xs=(k:Int):=by
 have g:∀j (E:j<xs.length),xs[j]=zS xs j:=λj E=>by have:=Cq E;rw[yw E] at this;exact yF this
 unfold Am;rw[if_pos (OF (Cq V) hp)];have:xs.findIdx (λx=>decide (x.k=0))=k:=by
  rw[tH V];exact⟨by rw[g k V];exact hp,λj E=>by rw[g j (by omega)];exact h j E⟩
 rw[this]
theorem Xw{xs:List AV}(h:∀j,j<xs.length->decide ((zS xs j).k=0)=false):Am xs= -1:=by
 unfold Am;rw[if_neg];rw[LW (λk V=>Cq V) h];simp
theorem Oj(v:Value)(xs:List AV)(w:World)(h:Bb w v xs):Calls prog 217 #[v] w λe w'=>e=.returned (.int .i64 (Am xs))/\Below w.heap.size w w':=by
 obtain⟨a,c,rfl,hc,cb,wx⟩:=BK.open A0 (by decide) h;unfold maxLen at cb;have HH:=AA wx;clear h wx;go_in;go_wp2_with fail;go_loopw [3] (λR wr=>∃k:Nat,k<=xs.length/\R=.int .i64 k/\(∀j,j<k->decide ((zS xs j).k=0)=false)/\Below w.heap.size w wr) (λR _=>xs.length - (intOf R).toNat)
 exact⟨0,yg _,rfl,λj E=>absurd E (xN _),yD _ _⟩
 obtain⟨k,V,rfl,ab,J⟩:=hrel;have au:=AA ab;clear ab
 by_cases bk:k<xs.length
 .have bD:(k:Int)<(xs.length:Int):=by omega
  obtain⟨b,bp,rfl,bu,D0,D1,D2⟩:=(HH.out.below J).zP bk;cases hp:decide ((zS xs k).k=0)
  .have t0:((zS xs k).k==0)=false:=by simpa using hp
   have Hp:=AA hp;clear hp;go_wp2_with fail;go_roundw;exact⟨k+1,by omega,by go_num,Al au.out Hp.out,J⟩;simp[intOf];omega
  .have t0:((zS xs k).k==0)=true:=by simpa using hp
   have S:=AA (ZA bk au.out hp);have Hp:=AA hp;clear hp;go_wp2_with fail;go_ret;exact⟨Ch S.out.symm,J⟩
 .have ek:k=xs.length:=by omega
  have ab:=au.out;rw[ek] at ab;have S:=AA (Xw ab);clear au ab;go_wp2_with fail;go_ret;exact⟨Ch S.out.symm,J⟩
theorem Sg(v:Value)(xs:List Int)(n:Int)(w:World)(h:Ax w v xs):Calls prog 228 #[v,.int .i64 n] w λe w'=>e=.returned (.bool (xs.any λx=>decide (x=n)))/\Below w.heap.size w w':=by
 obtain⟨a,c,rfl,hc,cb,wx⟩:=h.open;unfold maxLen at cb;have HH:=AA wx;clear h wx;go_in;go_wp2_with fail;go_loopw [5] (λR wr=>∃k:Nat,k<=xs.length/\R=.int .i64 k/\(∀j,j<k->decide (nth xs j=n)=false)/\Below w.heap.size w wr) (λR _=>xs.length - (intOf R).toNat)
 exact⟨0,yg _,rfl,λj E=>absurd E (xN _),yD _ _⟩
 obtain⟨k,V,rfl,ab,J⟩:=hrel;have au:=AA ab;clear ab
 by_cases bk:k<xs.length
 .have bD:(k:Int)<(xs.length:Int):=by omega
  obtain⟨b,bp,rfl,h1⟩:=(HH.out.below J).at bk;cases hp:decide (nth xs k=n)
  .have t0:(nth xs k==n)=false:=by simpa using hp
   have Hp:=AA hp;clear hp;go_wp2_with fail;go_roundw;exact⟨k+1,by omega,by go_num,Al au.out Hp.out,J⟩;simp[intOf];omega
  .have t0:(nth xs k==n)=true:=by simpa using hp
   have S:=AA (OF (p:=λx=>decide (x=n)) (PZ bk) hp);have Hp:=AA hp;clear hp;go_wp2_with fail;go_ret;exact⟨AH S.out.symm,J⟩
 .have ek:k=xs.length:=by omega
  have ab:=au.out;rw[ek] at ab;have S:=AA (LW (p:=λx=>decide (x=n)) (λk V=>PZ V) ab);clear au ab;go_wp2_with fail;go_ret;exact⟨AH S.out.symm,J⟩
theorem Kr(v:Value)(ss:List ByteArray)(g:ByteArray)(w:World)(h:BY w v ss)(hs:Db ss)(hg:g.size<=maxLen):Calls prog 79 #[v,.string g] w λe w'=>e=.returned (.bool (By ss g))/\Below w.heap.size w w':=by
 obtain⟨a,c,rfl,hc,cb,wx⟩:=BK.open Ho (by decide) h;unfold maxLen at cb;have HH:=AA wx;have HS:=AA (xU hs hg);clear h wx hs hg;go_in;go_wp2_with fail;go_loopw [5] (λR wr=>∃k:Nat,k<=ss.length/\R=.int .i64 k/\(∀j,j<k->LZ (Di ss j) g=false)/\Below w.heap.size w wr) (λR _=>ss.length - (intOf R).toNat)
 exact⟨0,yg _,rfl,λj E=>absurd E (xN _),yD _ _⟩
 obtain⟨k,V,rfl,ab,J⟩:=hrel;have au:=AA ab;clear ab
 by_cases bk:k<ss.length
 .have bD:(k:Int)<(ss.length:Int):=by omega
  obtain⟨b,bp,rfl,h1⟩:=(HH.out.below J).str bk;have C:=AA (MW (Di ss k) g wr (HS.out.1 _ (yh (If bk))) HS.out.2);cases hp:LZ (Di ss k) g
  .have Hp:=AA hp
   clear hp;go_wp2_with fail;refine C.out.mono ?_;rintro e w2 ⟨rfl,rfl⟩;rw[Hp.out];go_wp2_with fail;go_roundw;exact⟨k+1,by omega,by go_num,Al au.out Hp.out,J⟩;simp[intOf];omega
  .have S:=AA (show By ss g=true from OF (p:=λs=>LZ s g) (If bk) hp)
   have Hp:=AA hp;clear hp;go_wp2_with (refine C.out.mono ?_;rintro e w2 ⟨rfl,rfl⟩;rw[Hp.out]);go_ret;exact⟨AH S.out.symm,J⟩
 .have ek:k=ss.length:=by omega
  have ab:=au.out;rw[ek] at ab;have S:=AA (show By ss g=false from LW (p:=λs=>LZ s g) (λk V=>If V) ab);clear au ab;go_wp2_with fail;go_ret;exact⟨AH S.out.symm,J⟩
def IM(fs:List Nat)(k:Nat):Nat:=fs.getD k 0
theorem GK(h:k<fs.length):fs[k]?=some (IM fs k):=by unfold IM;exact A2 h
theorem PW:nth (Az fs) k=(IM fs k:Int):=by unfold nth Az IM;simp only[xO,xm];cases fs[k]? <;>rfl
theorem Ce:(Az fs).length=fs.length:=by simp[Az]
theorem GN(v1 v2 v3:Value)(xs:List AV)(fs:List Nat)(ss:List ByteArray)(w:World)(D:Bb w v1 xs)(N:Ax w v2 (Az fs))(h3:BY w v3 ss)(hf:∀f∈fs,f<xs.length)(hI:IS xs)(hs:Db ss):
 Calls prog 128 #[v1,v2,v3] w λe w'=>e=.returned (.bool (BM xs fs ss))/\Below w.heap.size w w':=by
 obtain⟨a1,c1,rfl,kK,kG,H1⟩:=BK.open A0 (by decide) D;obtain⟨a2,c2,rfl,jA,gz,H2⟩:=N.open;rw[Ce] at jA ⊢;unfold maxLen at kG gz;have CM:=AA (λW (K:Below w.heap.size w W) (g:ByteArray) (hg:g.size<=maxLen)=>Kr v3 ss g W (BK.below h3 K) hs hg);have oS:=AA H1;have oR:=AA H2;have HF:=AA (xU hf hI);obtain⟨a3,c3,rfl,pM,nL⟩:=h3.shape;clear D N h3 H1 H2 hf hI hs;go_in;go_wp2_with fail;go_loopw [7] (λR wr=>∃k:Nat,k<=fs.length/\R=.int .i64 k/\(∀j,j<k->By ss (zS xs (IM fs j)).g=true)/\Below w.heap.size w wr) (λR _=>fs.length - (intOf R).toNat)
 exact⟨0,yg _,rfl,λj E=>absurd E (xN _),yD _ _⟩
 obtain⟨k,V,rfl,ab,J⟩:=hrel;have au:=AA ab;clear ab
 by_cases bk:k<fs.length
 .have bD:(k:Int)<(fs.length:Int):=by omega
  obtain⟨b2,j5,rfl,h1⟩:=(oR.out.below J).at (k:=k) (by rw[Ce];exact bk);rw[PW] at h1;have eG:=HF.out.1 _ (yh (GK bk));obtain⟨b,bp,rfl,bu,D0,D1,D2⟩:=(oS.out.below J).zP eG;have jy:(IM fs k:Int)<xs.length:=by omega
  have C:=AA (CM.out wr J (zS xs (IM fs k)).g (HF.out.2 _ (yh (Cq eG))));cases hp:By ss (zS xs (IM fs k)).g
  .have S:=AA (show BM xs fs ss=false from JG (p:=λf=>By ss (zS xs f).g) (GK bk) hp)
   have Hp:=AA hp;clear hp;go_wp2_with (refine C.out.mono ?_;rintro e w2 ⟨rfl,b2⟩;rw[Hp.out]);go_ret;exact⟨AH S.out.symm,J.trans (b2.mono J.size)⟩
  .have Hp:=AA hp
   clear hp;go_wp2_with fail;refine C.out.mono ?_;rintro e w2 ⟨rfl,b2⟩;rw[Hp.out];go_wp2_with fail;go_roundw;exact⟨k+1,by omega,by go_num,Al au.out Hp.out,J.trans (b2.mono J.size)⟩;simp[intOf];omega
 .have ek:k=fs.length:=by omega
  have ab:=au.out;rw[ek] at ab;have S:=AA (show BM xs fs ss=true from J6 (p:=λf=>By ss (zS xs f).g) (λk V=>GK V) ab);clear au ab;go_wp2_with fail;go_ret;exact⟨AH S.out.symm,J⟩
theorem U4{a b:List Nat}:Az (a++b)=Az a++Az b:=by simp[Az]
theorem Iw{lo:Nat}{w:World}{ys zs:List Nat}(h:w.ownsRow lo 3 1 v (ys.length+zs.length) ((Az ys).map (xY .i64)++(Az zs).map (xY .i64))):AF lo w v (Az (ys++zs)):=by unfold AF;rw[U4,xC,yj,Ce,Ce];exact h
theorem Ll(xs:List Int):∀u∈xs.map (xY .i64),u.oneCell'=true:=by intro u hu;obtain⟨x,_,rfl⟩:=List.mem_map.1 hu;rfl
theorem FF(w:World):AF w.heap.size (w.alloc (.cells #[] 3)) (.slice (some ⟨w.heap.size,0,none⟩) 0 0) (Az []):=Cu w 3 1
theorem It(v:Value)(r:List Int)(w:World)(h:Ax w v r)(hl:r.length<=100)(hx:∀k,k<r.length->nth r k<=9223372036854775807):Calls prog 185 #[v] w λe w'=>∃v',e=.returned v'/\AF w.heap.size w' v' (Az (named r))/\Below w.heap.size w w':=by
 obtain⟨a,c,rfl,hc,cb,wx⟩:=h.open;unfold maxLen at cb;have HH:=AA wx;have HX:=AA hx;have bA:=AI w (.cells #[] 3);have o1:=FF w;clear h wx hx;go_in;go_wp2_with fail;generalize w.alloc (.cells #[] 3)=wa at o1 bA ⊢;generalize(xi (some ⟨w.heap.size,0,none⟩) 0 0)=o at o1 ⊢;go_loopw [3,4,5,6,7] (λo R _ _ _ wr=>∃k:Nat,k<=r.length/\R=.int .i64 k/\AF w.heap.size wr o (Az (named (r.take k)))/\Below w.heap.size w wr) (λ_ R _ _ _ _=>r.length - (intOf R).toNat)
 exact⟨0,yg _,rfl,o1,bA⟩
 clear o1 bA;obtain⟨k,V,rfl,ad,J⟩:=hrel
 by_cases bk:k<r.length
 .have bD:(k:Int)<(r.length:Int):=by omega
  obtain⟨b,bp,rfl,h1⟩:=(HH.out.below J).at bk;have lL:=HX.out k bk;have Nx:=AA (Kx bk);have dZ:(named (r.take k)).length<=100:=by have:=FV (r:=r.take k);rw[xT] at this;omega
  change (Hid (named (r.take (k+1))=named (r.take k)++(if Bm (nth r k) then[BC (nth r k)] else[]))) at Nx
  generalize named (r.take k)=ys at ad Nx dZ;generalize nth r k=x at h1 Nx lL;have bK:=AA ad;obtain⟨_,_,rfl,_⟩:=(AF.rd ad).open;clear ad;go_wp2_with fail;refine(DB x _ lL).mono ?_;rintro e w2 ⟨rfl,rfl⟩;cases hg:Bm x
  .rw[Eu hg]
   have cF:=AA (show named (r.take (k+1))=ys by rw[Nx.out,hg];simp);clear hg Nx;go_wp2_with fail;go_roundw;exact⟨k+1,by omega,by go_num,by rw[cF.out];exact bK.out,J⟩;simp[intOf];omega
  .rw[Ej hg]
   have cF:=AA (show named (r.take (k+1))=ys++[BC x] by rw[Nx.out,hg];simp);generalize BC x=f at cF;clear hg Nx;rw[Ce];go_wp2_with (at_builtin;go_must (refine Bg (lo:=w.heap.size) (n:=ys.length) (xs:=(Az ys).map (xY .i64)) (m:=1) (news:=[.int .i64 f]) rfl rfl 3 (.int .i64 0) 1 8 underlying29 Tryz.zI rfl (by decide) rfl (by have:=AF.below bK.out (AI wr (.cells #[.int .i64 f] 3));unfold AF at this;rw[Ce] at this;exact this) rfl (Rd.zC _ #[_] _ 1 1 _ (by simp) rfl (by simp[maxLen])) (by simp[xG]) (by unfold maxLen;omega) (by omega) (by have:=J.size;simp;omega) ?_;intro o' w9 k1 k2 k3 k4));go_roundw;exact⟨k+1,by omega,by go_num,by rw[cF.out];exact Iw (zs:=[f]) k1,(J.alloc J.size _).trans k4⟩;simp[intOf];omega
 .obtain rfl:k=r.length:=by omega
  rw[xo] at ad;go_wp2_with fail;go_ret;exact⟨_,rfl,ad,J⟩
theorem Ky{lo:Nat}{w w':World}{ys:List Nat}(h:AF lo w v (Az ys))(J:Below w.heap.size w w'):w'.ownsRow lo 3 1 v ys.length ((Az ys).map (xY .i64)):=by
 have:=AF.below h J;unfold AF at this
 rwa [Ce] at this
theorem Ek{lo:Nat}{w:World}{ys:List Nat}(h:AF lo w v (Az ys)):∃a c,v=.slice a ys.length c/\ys.length<=c:=by obtain⟨a,c,e,hc,_⟩:=(AF.rd h).open;rw[Ce] at e hc;exact⟨a,c,e,hc⟩
def IH(fs:List Nat)(k:Nat):List Nat:=(yC k).filter λf=>fs.contains f
theorem Ry:IH fs (k+1)=IH fs k++(if fs.contains k then[k] else[]):=by
 unfold IH;rw[xt,wm]
 congr 1
 simp only[vN,uD]
theorem UV:(IH fs k).length<=k:=by
 have:=xy (λf=>fs.contains f) (yC k);simpa[IH] using this
theorem U2:((Az fs).any λx=>decide (x=(k:Int)))=fs.contains k:=by
 rw[wF,List.contains_iff_mem];simp[Az];constructor
 .rintro⟨x,hx,e⟩
  obtain rfl:x=k:=by omega
  exact hx
 .intro h
  exact⟨k,h,rfl⟩
theorem Kt(v:Value)(fs:List Nat)(w:World)(h:Ax w v (Az fs)):Calls prog 182 #[v] w λe w'=>∃v',e=.returned v'/\AF w.heap.size w' v' (Az (Ih fs))/\Below w.heap.size w w':=by
 have C:=AA (λ(k:Nat) W (K:Below w.heap.size w W)=>Sg v (Az fs) (k:Int) W (Ax.below h K));have bA:=AI w (.cells #[] 3);have o1:=FF w;clear h;go_in;go_wp2_with fail;generalize w.alloc (.cells #[] 3)=wa at o1 bA ⊢;generalize(xi (some ⟨w.heap.size,0,none⟩) 0 0)=o at o1 ⊢;go_loopw [3,4] (λo R wr=>∃k:Nat,k<=12/\R=.int .i64 k/\AF w.heap.size wr o (Az (IH fs k))/\Below w.heap.size w wr) (λ_ R _=>12 - (intOf R).toNat)
 exact⟨0,yg _,rfl,o1,bA⟩
 clear o1 bA;obtain⟨k,V,rfl,ad,J⟩:=hrel
 by_cases bk:k<12
 .have bD:(k:Int)<12:=by omega
  have Nx:=AA (Ry (fs:=fs) (k:=k));have dZ:=UV (fs:=fs) (k:=k);generalize IH fs k=ys at ad Nx dZ;have Ck:=C.out k wr J;rw[U2] at Ck;have HC:=AA Ck;have bK:=AA ad;obtain⟨_,_,rfl,_⟩:=Ek ad;clear ad Ck;go_wp2_with fail;refine HC.out.mono ?_;rintro e w2 ⟨rfl,b2⟩;have bl:=J.trans (b2.mono J.size);have ds:=AA (bK.out.below b2);cases hg:fs.contains k
  .have cF:=AA (show IH fs (k+1)=ys by rw[Nx.out,hg];simp)
   clear hg Nx;go_wp2_with fail;go_roundw;exact⟨k+1,by omega,by go_num,by rw[cF.out];exact ds.out,bl⟩;simp[intOf];omega
  .have cF:=AA (show IH fs (k+1)=ys++[k] by rw[Nx.out,hg];simp)
   clear hg Nx;go_wp2_with (at_builtin;go_must (refine Bg (lo:=w.heap.size) (n:=ys.length) (xs:=(Az ys).map (xY .i64)) (m:=1) (news:=[.int .i64 k]) rfl rfl 3 (.int .i64 0) 1 8 underlying29 Tryz.zI rfl (by decide) rfl (Ky ds.out (AI _ (.cells #[.int .i64 k] 3))) rfl (Rd.zC _ #[_] _ 1 1 _ (by simp) rfl (by simp[maxLen])) (by simp[xG]) (by unfold maxLen;omega) (by omega) (by have:=bl.size;simp;omega) ?_;intro o' w9 k1 k2 k3 k4));go_roundw;exact⟨k+1,by omega,by go_num,by rw[cF.out];exact Iw (zs:=[k]) k1,(bl.alloc bl.size _).trans k4⟩;simp[intOf];omega
 .obtain rfl:k=12:=by omega
  rw[show((12:Nat):Int)=12 from rfl];go_wp2_with fail;go_ret;exact⟨_,rfl,ad,J⟩
theorem Ly{m:List (List Int)}(hm:Bu m=true){f:Nat}(hf:f<12):∀k,k<(AG m f).length->nth (AG m f) k<=9223372036854775807:=λk V=>by obtain⟨h4,hw⟩:=A4.1 ((Ai.1 hm).2 f hf);have:=(hw _ (DT (d:=0) V)).2;unfold nth;omega
theorem Ku(v:Value)(m:List (List Int))(root:Nat)(w:World)(h:Bk w v m)(hm:Bu m=true)(hr:root<12):Calls prog 181 #[v,.int .i64 root] w λe w'=>∃v',e=.returned v'/\AF w.heap.size w' v' (Az (Ev m root))/\Below w.heap.size w w':=by
 obtain⟨a,c,rfl,hc,cb,wx⟩:=h.open;have dm:=(Ai.1 hm).1;have es:=(A4.1 ((Ai.1 hm).2 root hr)).1;obtain⟨b,bp,u,rfl,bu,h1,hR⟩:=wx root (by omega);have C:=AA (It u (AG m root) w hR (by omega) (Ly hm hr));have ng:(root:Int)<12:=by omega
 rw[dm];obtain⟨_,_,rfl,_⟩:=hR.open;unfold Ev;clear h wx hR hm dm hc cb es;go_in;go_wp2_with fail;refine C.out.mono ?_;rintro e w1 ⟨v1,rfl,o1,b1⟩;have C2:=AA (Kt v1 _ w1 (AF.rd o1));have b9:=AA b1;clear o1 b1 C;go_wp2_with (refine C2.out.mono ?_;rintro e w2 ⟨v2,rfl,o2,b2⟩;have lp:=AA (Mr o2 b9.out.size);have ey:=AA (b9.out.trans (b2.mono b9.out.size));clear o2 b2 C2);go_ret;exact⟨_,rfl,lp.out,ey.out⟩
def Fz(m:List (List Int))(ts:List Nat)(k:Nat):List Nat:=(ts.take k).flatMap λt=>named (AG m t)
theorem MU{m:List (List Int)}{ts:List Nat}(h:k<ts.length):Fz m ts (k+1)=Fz m ts k++named (AG m (IM ts k)):=by unfold Fz;rw[DA (GK h),List.flatMap_append];simp
theorem Tj{m:List (List Int)}{ts:List Nat}(hl:∀t∈ts,(AG m t).length=4):(Fz m ts k).length<=4*k:=by
 induction k with
 |zero=>simp[Fz]
 |succ k ih=>
  by_cases h:k<ts.length
  .rw[MU h,yj]
   have D:=FV (r:=AG m (IM ts k));have N:=hl _ (yh (GK h));omega
  .have:Fz m ts (k+1)=Fz m ts k:=by unfold Fz;rw[wH (by omega),wH (by omega)]
   rw[this];omega
theorem Tt(v:Value)(m:List (List Int))(root:Nat)(w:World)(h:Bk w v m)(hm:Bu m=true)(hr:root<12):Calls prog 183 #[v,.int .i64 root] w λe w'=>∃v',e=.returned v'/\AF w.heap.size w' v' (Az (JR m root))/\Below w.heap.size w w':=by
 have bA:=AI w (.cells #[] 3);have o1:=FF w;have C:=AA (Ku v m root _ (h.below bA) hm hr);obtain⟨a,c,rfl,hc,cb,wx⟩:=h.open;have dm:=(Ai.1 hm).1;have hT:∀t∈Ev m root,t<12:=λt ht=>FW (Iy.1 ht)
 have dg:∀t∈Ev m root,(AG m t).length=4:=λt ht=>(A4.1 ((Ai.1 hm).2 t (hT t ht))).1
 have dp:(Ev m root).length<=12:=Ls;have FS:JR m root=Ih (Fz m (Ev m root) (Ev m root).length):=by unfold JR Fz;rw[xo]
 rw[FS];have HH:=AA wx;have HT:=AA (xU hT dg);have Hm:=AA hm;rw[dm] at C ⊢;generalize Ev m root=ts at*;clear h wx hm hT dg FS hc cb;go_in;go_wp2_with fail;generalize w.alloc (.cells #[] 3)=wa at o1 bA C ⊢;refine C.out.mono ?_;rintro e w1 ⟨v1,rfl,t1,b1⟩;have bx:=bA.trans (b1.mono bA.size);have o2:=AF.below o1 b1;obtain⟨a1,c1,rfl,kK⟩:=Ek t1;have oH:=AA t1;have b9:=AA bx;have dQ:Fp (.slice (some ⟨w.heap.size,0,none⟩) 0 0) (.slice a1 ts.length c1):=λb J fL=>by have D:=(yk t1 b fL).1;have N:=(yk o1 b J).2;omega
 clear C o1 bA t1 b1 bx;go_wp2_with fail;generalize(xi (some ⟨w.heap.size,0,none⟩) 0 0)=o at o2 dQ ⊢;go_loopw [5,7] (λo R wr=>∃k:Nat,k<=ts.length/\R=.int .i64 k/\AF w.heap.size wr o (Az (Fz m ts k))/\Below w.heap.size w wr/\AF wa.heap.size wr (.slice a1 ts.length c1) (Az ts)/\Fp o (.slice a1 ts.length c1)) (λ_ R _=>ts.length - (intOf R).toNat)
 exact⟨0,yg _,rfl,o2,b9.out,oH.out,dQ⟩
 clear o2 dQ;obtain⟨k,V,rfl,ad,J,kf,dQ⟩:=hrel
 by_cases bk:k<ts.length
 .have bD:(k:Int)<(ts.length:Int):=by omega
  obtain⟨_,_,e1,_,_,H1⟩:=(AF.rd kf).open;simp only[xH] at e1;obtain⟨rfl,e2,rfl⟩:=e1;clear e2;obtain⟨b1,eT,rfl,D1⟩:=H1.at (k:=k) (by rw[Ce];exact bk);rw[PW] at D1;clear H1;have dj:=yh (GK bk);have hf:=HT.out.1 _ dj;have dX:=HT.out.2 _ dj;obtain⟨b,bp,u,rfl,bu,h1,hR⟩:=(HH.out.below J) (IM ts k) (by omega);have CN:=AA (It u (AG m (IM ts k)) wr hR (by omega) (Ly Hm.out hf));have jy:(IM ts k:Int)<12:=by omega
  have Nx:=AA (MU (m:=m) bk);have dZ:=Tj (k:=k) HT.out.2;have iy:=FV (r:=AG m (IM ts k));rw[dX] at iy;obtain⟨_,_,rfl,_⟩:=hR.open;generalize Fz m ts k=ys at ad Nx dZ;generalize named (AG m (IM ts k))=zs at CN Nx iy;generalize IM ts k=f at*;have bK:=AA ad;obtain⟨_,_,rfl,_⟩:=Ek ad;have Ht:=AA (xU kf dQ);clear ad hR dj dX kf dQ;go_wp2_with fail;refine CN.out.mono ?_;rintro e w2 ⟨v2,rfl,o2,b2⟩;have ey:=AA (J.trans (b2.mono J.size));have jQ:=AA (xU (AF.below Ht.out.1 b2) Ht.out.2);have ds:=AA (bK.out.below b2);have iM:=AF.rd o2;obtain⟨az,cz,rfl,md⟩:=Ek o2;have hQ:=AA iM;clear o2 b2 iM h1 D1;go_wp2_with (at_builtin;go_must (refine Bg (lo:=w.heap.size) (n:=ys.length) (xs:=(Az ys).map (xY .i64)) (m:=zs.length) (news:=(Az zs).map (xY .i64)) rfl rfl 3 (.int .i64 0) 1 8 underlying29 Tryz.zI rfl (by decide) rfl (Ky ds.out (yD _ _)) rfl (by have:=hQ.out;unfold Ax at this;rw[Ce] at this;exact this) (Ll _) (by unfold maxLen;omega) (by omega) (by have:=ey.out.size;omega) ?_;intro o' w9 k1 k2 k3 k4));go_roundw;exact⟨k+1,by omega,by go_num,by rw[Nx.out];exact Iw k1,ey.out.trans k4,Aw jQ.out.1 k2 jQ.out.2.symm.ne,jQ.out.2.grown k3 (λb J=>(yk jQ.out.1 b J).2)⟩;simp[intOf];omega
 .obtain rfl:k=ts.length:=by omega
  have C2:=AA (Kt _ _ wr (AF.rd ad));obtain⟨_,_,rfl,_⟩:=Ek ad;have Z:=AA J;clear ad J;go_wp2_with (refine C2.out.mono ?_;rintro e w2 ⟨v2,rfl,o2,b2⟩;have lp:=AA (Mr o2 Z.out.size);have ey:=AA (Z.out.trans (b2.mono Z.out.size));clear o2 b2 C2);go_ret;exact⟨_,rfl,lp.out,ey.out⟩
theorem XR(w:World)(n:Nat):AF w.heap.size (w.alloc (.cells #[.int .i64 n] 3)) (.slice (some ⟨w.heap.size,0,none⟩) 1 1) (Az [n]):=aU (n:=1) (C:=1) rfl (yv _) (by decide) (yv _)
theorem JT(v:Value)(m:List (List Int))(root:Int)(w:World)(h:Bk w v m)(hm:Bu m=true)(hr:root<12):Calls prog 129 #[v,.int .i64 root] w λe w'=>∃v',e=.returned v'/\AF w.heap.size w' v' (Az (Er m root))/\Below w.heap.size w w':=by
 by_cases hn:root<0
 .have hj:Er m root=[]:=by unfold Er;rw[if_pos hn]
  have o1:=FF w;rw[hj];go_in;go_wp2_with fail;go_ret;exact⟨_,rfl,o1,AI _ _⟩
 .obtain⟨r,rfl⟩:∃r:Nat,root=(r:Int):=⟨root.toNat,by omega⟩
  have hj:Er m (r:Int)=Ih (([r]++Ev m r)++JR m r):=by unfold Er;rw[if_neg hn,yd];rfl
  have dY:r<12:=by omega
  rw[hj];have b0:=AI w (.cells #[.int .i64 r] 3);have o0:=XR w r;have CT:=AA (λW (K:Below w.heap.size w W)=>Ku v m r W (h.below K) hm dY);have CF:=AA (λW (K:Below w.heap.size w W)=>Tt v m r W (h.below K) hm dY);have ht:(Ev m r).length<=12:=Ls;have hf:(JR m r).length<=12:=Ls;obtain⟨a,c,rfl,hc,cb,_⟩:=h.open;generalize Ev m r=ts at*;generalize JR m r=fs at*;clear h hm hj hc cb;go_in;go_wp2_with fail;generalize w.alloc _=wa at o0 b0 ⊢;refine(CT.out wa b0).mono ?_;rintro e w1 ⟨v1,rfl,o1,b1⟩;have O0:=AF.below o0 b1;have bx:=b0.trans (b1.mono b0.size);have hQ:=AA (AF.rd o1);have fa:w.heap.size<=w1.heap.size:=bx.size;have b9:=AA bx;obtain⟨az,cz,rfl,md⟩:=Ek o1;clear o0 b0 o1 b1 bx;have pb:Az [r]=Az ([r]:List Nat):=rfl;go_wp2_with (at_builtin;go_must (refine Bg (lo:=w.heap.size) (n:=1) (xs:=(Az [r]).map (xY .i64)) (m:=ts.length) (news:=(Az ts).map (xY .i64)) rfl rfl 3 (.int .i64 0) 1 8 underlying29 Tryz.zI rfl (by decide) rfl (Ky O0 (yD _ _)) rfl (by have:=hQ.out;unfold Ax at this;rw[Ce] at this;exact this) (Ll _) (by unfold maxLen;omega) (by omega) (by omega) ?_;intro o' w9 k1 k2 k3 k4));have cC:=b9.out.trans k4;refine(CF.out w9 cC).mono ?_;rintro e w2 ⟨v2,rfl,o2,b2⟩;have O9:=Iw (ys:=[r]) (zs:=ts) k1;have O2:=AF.below O9 b2;have ey:=AA (cC.trans (b2.mono cC.size));have lw:=AA (AF.rd o2);obtain⟨ay,cy,rfl,pJ⟩:=Ek o2;obtain⟨ax,cx,rfl,pK⟩:=Ek O2;clear O0 hQ k1 k2 k3 k4 cC O9 o2 b2;go_wp2_with (at_builtin;go_must (refine Bg (lo:=w.heap.size) (n:=([r]++ts).length) (xs:=(Az ([r]++ts)).map (xY .i64)) (m:=fs.length) (news:=(Az fs).map (xY .i64)) rfl rfl 3 (.int .i64 0) 1 8 underlying29 Tryz.zI rfl (by decide) rfl (Ky O2 (yD _ _)) rfl (by have:=lw.out;unfold Ax at this;rw[Ce] at this;exact this) (Ll _) (by simp only[yj,xI];unfold maxLen;omega) (by simp only[yj,xI];omega) (by have:=ey.out.size;omega) ?_;intro o8 w8 k1 k2 k3 k4));have jC:=ey.out.trans k4;have O8:=Iw k1;refine(Kt o8 _ w8 (AF.rd O8)).mono ?_;rintro e w3 ⟨v3,rfl,o3,b3⟩;have oq:=AA (Mr o3 jC.size);have gP:=AA (jC.trans (b3.mono jC.size));clear O8 jC k1 k2 k3 k4 o3 b3 O2;go_wp2_with fail;go_ret;exact⟨_,rfl,oq.out,gP.out⟩
theorem Jz(w:World)(a b:Obj):((w.alloc a).alloc b).heap[w.heap.size]?=some a/\((w.alloc a).alloc b).heap[w.heap.size+1]?=some b/\Below w.heap.size w ((w.alloc a).alloc b)/\((w.alloc a).alloc b).heap.size=w.heap.size+2:=by have D:=yi w a;have N:=yi (w.alloc a) b;have h4:=AB D (AI _ b);simp only[xx] at N;exact⟨h4,N,IA w a b,by simp⟩
def Gh(k:AO)(a n:Nat):List Nat:=(yC n).filter (Qy k a)
theorem SG{k:AO}{a:Nat}:Gh k a (n+1)=Gh k a n++(if Qy k a n then[n] else[]):=by
 unfold Gh;rw[xt,wm]
 congr 1
 simp only[vN,uD]
theorem UZ{k:AO}{a:Nat}:(Gh k a n).length<=n:=by have:=xy (Qy k a) (yC n);simpa[Gh] using this
theorem Tq(mv iv ev cv:Value)(k:AO)(a:Nat)(w:World)(h:Mu w mv iv ev cv k)(V:DQ k):Calls prog 224 #[.agg #[mv,iv,ev,cv],.int .i64 a] w λe w'=>∃v',e=.returned v'/\AF w.heap.size w' v' (Az (UY k a))/\Below w.heap.size w w':=by
 obtain⟨N0,N1,bq,eY⟩:=Jz w (.cells #[mv,iv,ev,cv] 28) (.cells #[] 3);have o1:AF w.heap.size ((w.alloc (.cells #[mv,iv,ev,cv] 28)).alloc (.cells #[] 3)) (.slice (some ⟨w.heap.size+1,0,none⟩) 0 0) (Az []):=by have:=FF (w.alloc (.cells #[mv,iv,ev,cv] 28));simp only[xx] at this;exact Mr this (wu _)
 have CT:=AA (λ(r:Nat)(hr:r<12) W (K:Below w.heap.size w W)=>Ku mv k.mem r W (h.1.below K) V.mem hr);obtain⟨ae,ce,rfl,fj,nK,HE⟩:=h.2.2.1.open;rw[V.zN] at fj N0 o1 bq ⊢;have HR:=AA V.roots;have oQ:=AA HE;have i6:=AA V.zN;have US:UY k a=Gh k a 3:=rfl;rw[US];clear h V HE US eY N1;go_in;go_wp2_with fail;generalize(w.alloc _).alloc _=wa at o1 bq N0 ⊢;have ly:=AA N0;clear N0;generalize(xi (some ⟨w.heap.size+1,0,none⟩) 0 0)=o at o1 ⊢;go_loopw [5,6,7] (λo R _ wr=>∃n:Nat,n<=3/\R=.int .i64 n/\AF w.heap.size wr o (Az (Gh k a n))/\Below w.heap.size w wr/\wr.heap[w.heap.size]?=some (.cells #[mv,iv,.slice ae 3 ce,cv] 28 (0,0))) (λ_ R _ _=>3 - (intOf R).toNat)
 exact⟨0,yg _,rfl,o1,bq,ly.out⟩
 clear o1 bq;obtain⟨n,hn,rfl,ad,J,hN⟩:=hrel;obtain⟨x0,_,x2,_⟩:=AE hN
 by_cases bk:n<3
 .have bD:(n:Int)<3:=by omega
  obtain⟨b,bp,ua,uc,rfl,bu,D0,D1,_⟩:=(oQ.out.below J) n (by rw[i6.out];exact bk);have db:=HR.out n bk;have Nx:=AA (SG (k:=k) (a:=a) (n:=n));have dZ:=UZ (k:=k) (a:=a) (n:=n);have UE:Qy k a n=(decide ((AJ k.zX n).root=(a:Int))||(decide (0<=(AJ k.zX n).root)&&(Ev k.mem (AJ k.zX n).root.toNat).contains a)):=rfl
  change (AJ k.zX n).root= -1∨(0<=(AJ k.zX n).root/\(AJ k.zX n).root<=11/\_) at db
  generalize Gh k a n=ys at ad Nx dZ;generalize Qy k a n=ub at Nx UE;generalize(AJ k.zX n).root=rt at D1 db UE;have bK:=AA ad;have HN:=AA hN;obtain⟨_,_,rfl,_⟩:=Ek ad;clear ad hN D0;have hC:Hid (ub=true->Gh k a (n+1)=ys++[n]):=AA λe=>by rw[Nx.out,e];simp
  have NO:Hid (ub=false->Gh k a (n+1)=ys):=AA λe=>by rw[Nx.out,e];simp
  clear Nx
  by_cases e1:rt=(a:Int)
  .have t1:(rt==(a:Int))=true:=by simp[e1]
   have cF:=AA (hC.out (by rw[UE];simp[e1]));clear hC NO UE e1 db;go_wp2_with (at_builtin;go_must (refine Bg (lo:=w.heap.size) (n:=ys.length) (xs:=(Az ys).map (xY .i64)) (m:=1) (news:=[.int .i64 n]) rfl rfl 3 (.int .i64 0) 1 8 underlying29 Tryz.zI rfl (by decide) rfl (Ky bK.out (AI _ (.cells #[.int .i64 n] 3))) rfl (Rd.zC _ #[_] _ 1 1 _ (by simp) rfl (by simp[maxLen])) (by simp[xG]) (by unfold maxLen;omega) (by omega) (by have:=J.size;simp;omega) ?_;intro o' w9 k1 k2 k3 k4));go_roundw;exact⟨n+1,by omega,by go_num,by rw[cF.out];exact Iw (zs:=[n]) k1,(J.alloc J.size _).trans k4,(k2.block w.heap.size (by have:=AW HN.out;simp;omega) (λe=>Do bK.out HN.out (by decide) e.symm)).trans (AB HN.out (AI _ _))⟩;simp[intOf];omega
  .have t1:(rt==(a:Int))=false:=by simp[e1]
   rcases db with rfl|⟨h0,h11,_⟩
   .have cF:=AA (NO.out (by rw[UE];simp[e1]))
    clear hC NO UE e1;go_wp2_with fail;go_roundw;exact⟨n+1,by omega,by go_num,by rw[cF.out];exact bK.out,J,HN.out⟩;simp[intOf];omega
   .obtain⟨r,rfl⟩:∃r:Nat,rt=(r:Int):=⟨rt.toNat,by omega⟩
    have C:=AA (CT.out r (by omega) wr J);rw[yd] at UE;go_wp2_with fail;refine C.out.mono ?_;rintro e w2 ⟨v2,rfl,o2,b2⟩;have CH:=Sg v2 _ (a:Int) w2 (AF.rd o2);rw[U2] at CH;generalize(Ev k.mem r).contains a=bt at UE CH;have oX:=AA CH;have bl:=J.trans (b2.mono J.size);have ds:=AA (bK.out.below b2);have lx:=AA (AB HN.out b2);clear CH o2 b2 C x0 x2 D1;go_wp2_with fail;refine oX.out.mono ?_;rintro e w3 ⟨rfl,b3⟩;have eI:=bl.trans (b3.mono bl.size);have fv:=AA (ds.out.below b3);have jW:=AA (AB lx.out b3);clear b3 bl;cases bt
    .have cF:=AA (NO.out (by rw[UE];simp[e1]))
     clear hC NO UE e1;go_wp2_with fail;go_roundw;exact⟨n+1,by omega,by go_num,by rw[cF.out];exact fv.out,eI,jW.out⟩;simp[intOf];omega
    .have cF:=AA (hC.out (by rw[UE];simp))
     clear hC NO UE e1;go_wp2_with (at_builtin;go_must (refine Bg (lo:=w.heap.size) (n:=ys.length) (xs:=(Az ys).map (xY .i64)) (m:=1) (news:=[.int .i64 n]) rfl rfl 3 (.int .i64 0) 1 8 underlying29 Tryz.zI rfl (by decide) rfl (Ky fv.out (AI _ (.cells #[.int .i64 n] 3))) rfl (Rd.zC _ #[_] _ 1 1 _ (by simp) rfl (by simp[maxLen])) (by simp[xG]) (by unfold maxLen;omega) (by omega) (by have:=eI.size;simp;omega) ?_;intro o' w9 k1 k2 k3 k4));go_roundw;exact⟨n+1,by omega,by go_num,by rw[cF.out];exact Iw (zs:=[n]) k1,(eI.alloc eI.size _).trans k4,(k2.block w.heap.size (by have:=AW jW.out;simp;omega) (λe=>Do fv.out jW.out (by decide) e.symm)).trans (AB jW.out (AI _ _))⟩;simp[intOf];omega
 .obtain rfl:n=3:=by omega
  rw[show((3:Nat):Int)=3 from rfl];go_wp2_with fail;go_ret;exact⟨_,rfl,ad,J⟩
theorem FB{l:List Ad}(h:k<l.length):l[k]?=some (AT l k):=by simp[AT,h]
theorem Lb{α:Type}{p:α->Bool}{l:List α}{x:α}(h:l[k]?=some x):(l.take (k+1)).filter p=(l.take k).filter p++(if p x then[x] else[]):=by
 rw[DA h,wm]
 congr 1
 simp only[vN,uD]
theorem JI{α:Type}{p:α->Bool}{l:List α}:((l.take k).filter p).length<=l.length:=yB (xy _ _) (by rw[xT];omega)
theorem QF(v:Value)(c:List Ad)(e:Int)(w:World)(h:DJ w v c)(hl:c.length<=100):Calls prog 225 #[v,.int .i64 e] w λr w'=>∃v',r=.returned v'/\AQ w.heap.size 112 4 AU w' v' (GJ c e)/\Below w.heap.size w w':=by
 obtain⟨a,cp,rfl,hc,cb,wx⟩:=BK.open CZ (by decide) h;unfold maxLen at cb;have HH:=AA wx;have bA:=AI w (.cells #[] 112);have o1:=CU AU w 112 4;clear h wx;go_in;go_wp2_with fail;generalize w.alloc (.cells #[] 112)=wa at o1 bA ⊢;generalize(xi (some ⟨w.heap.size,0,none⟩) 0 0)=o at o1 ⊢;go_loopw [5,6] (λo R wr=>∃k:Nat,k<=c.length/\R=.int .i64 k/\AQ w.heap.size 112 4 AU wr o ((c.take k).filter (λy=>decide (y.e≠e)))/\Below w.heap.size w wr) (λ_ R _=>c.length - (intOf R).toNat)
 exact⟨0,yg _,rfl,o1,bA⟩
 clear o1 bA;obtain⟨k,V,rfl,ad,J⟩:=hrel
 by_cases bk:k<c.length
 .have bD:(k:Int)<(c.length:Int):=by omega
  obtain⟨b,bp,rfl,bu,D0,D1,D2,D3⟩:=(HH.out.below J).zL bk;have Nx:=AA (Lb (p:=λy=>decide (y.e≠e)) (FB bk));have dZ:=JI (p:=λy=>decide (y.e≠e)) (l:=c) (k:=k);generalize AT c k=x at D0 D1 D2 D3 Nx;generalize(c.take k).filter (λy=>decide (y.e≠e))=ys at ad Nx dZ;have bK:=AA ad;obtain⟨_,_,rfl,_⟩:=ad.rd.shape;clear ad;cases hp:decide (x.e≠e)
  .have t0:(x.e !=e)=false:=by simpa using hp
   have cF:=AA (show(c.take (k+1)).filter (λy=>decide (y.e≠e))=ys by rw[Nx.out,hp];simp);have Hp:=AA hp;clear hp Nx;go_wp2_with fail;go_roundw;exact⟨k+1,by omega,by go_num,by rw[cF.out];exact bK.out,J⟩;simp[intOf];omega
  .have t0:(x.e !=e)=true:=by simpa using hp
   have cF:=AA (show(c.take (k+1)).filter (λy=>decide (y.e≠e))=ys++[x] by rw[Nx.out,hp];simp);have Hp:=AA hp;clear hp Nx;go_wp2_with (at_builtin;go_must (refine Bg (lo:=w.heap.size) (n:=ys.length) (xs:=Cc AU ys) (m:=1) (news:=[.int .i64 x.e,.int .i64 x.p,.int .i64 x.f,.bool x.w]) rfl rfl 112 (.agg #[.int .i64 0,.int .i64 0,.int .i64 0,.bool false]) 4 32 underlying26 Tryz.zF rfl (by decide) rfl (Bx (bK.out) (AI _ _)) rfl (Rd.zC _ #[.int .i64 x.e,.int .i64 x.p,.int .i64 x.f,.bool x.w] _ 4 1 _ rfl (by simp) (by simp[maxLen])) (by simp[xG]) (by unfold maxLen;omega) (by omega) (by have:=(J).size;simp;omega) ?_;intro o' w9 k1 k2 k3 k4));go_roundw;exact⟨k+1,by omega,by go_num,by rw[cF.out];unfold AQ;rw[Bf,EZ,yj];exact k1,((J).alloc (J).size _).trans k4⟩;simp[intOf];omega
 .obtain rfl:k=c.length:=by omega
  rw[xo] at ad;go_wp2_with fail;go_ret;exact⟨_,rfl,ad,J⟩
theorem Y7{c:List Ad}{e p:Int}(V:k<c.length)(h:∀j,j<k->BB e p (AT c j)=false)(hp:BB e p (AT c k)=true):GC c e p=(k:Int):=by
 have g:∀j (E:j<c.length),c[j]=AT c j:=λj E=>by have:=FB E;rw[yw E] at this;exact yF this
 unfold GC;rw[if_pos (OF (FB V) hp)];have:c.findIdx (BB e p)=k:=by
  rw[tH V];exact⟨by rw[g k V];exact hp,λj E=>by rw[g j (by omega)];exact h j E⟩
 rw[this]
theorem Xs{c:List Ad}{e p:Int}(h:∀j,j<c.length->BB e p (AT c j)=false):GC c e p= -1:=by
 unfold GC;rw[if_neg];rw[LW (λk V=>FB V) h];simp
theorem QG(v:Value)(c:List Ad)(e p:Int)(w:World)(h:DJ w v c):Calls prog 126 #[v,.int .i64 e,.int .i64 p] w λr w'=>r=.returned (.int .i64 (GC c e p))/\Below w.heap.size w w':=by
 obtain⟨a,cp,rfl,hc,cb,wx⟩:=BK.open CZ (by decide) h;unfold maxLen at cb;have HH:=AA wx;clear h wx;go_in;go_wp2_with fail;go_loopw [7] (λR wr=>∃k:Nat,k<=c.length/\R=.int .i64 k/\(∀j,j<k->BB e p (AT c j)=false)/\Below w.heap.size w wr) (λR _=>c.length - (intOf R).toNat)
 exact⟨0,yg _,rfl,λj E=>absurd E (xN _),yD _ _⟩
 obtain⟨k,V,rfl,ab,J⟩:=hrel;have au:=AA ab;clear ab
 by_cases bk:k<c.length
 .have bD:(k:Int)<(c.length:Int):=by omega
  obtain⟨b,bp,rfl,bu,D0,D1,D2,D3⟩:=(HH.out.below J).zL bk;have SE:BB e p (AT c k)=(decide ((AT c k).e=e)&&decide ((AT c k).p=p)):=rfl;have FA:=AA (λhp=>Y7 (e:=e) (p:=p) bk au.out hp);have NE:=AA (λhp=>Al au.out (show BB e p (AT c k)=false from hp));rw[SE] at FA NE;clear SE;generalize AT c k=x at D0 D1 D2 D3 FA NE
  by_cases D:x.e=e
  .have t1:(x.e==e)=true:=by simp[D]
   by_cases N:x.p=p
   .have t2:(x.p==p)=true:=by simp[N]
    have S:=AA (FA.out (by simp[D,N]));clear FA NE D N;go_wp2_with fail;go_ret;exact⟨Ch S.out.symm,J⟩
   .have t2:(x.p==p)=false:=by simp[N]
    have h2:=AA (NE.out (by simp[N]));clear FA NE D N;go_wp2_with fail;go_roundw;exact⟨k+1,by omega,by go_num,h2.out,J⟩;simp[intOf];omega
  .have t1:(x.e==e)=false:=by simp[D]
   have h2:=AA (NE.out (by simp[D]));clear FA NE D;go_wp2_with fail;go_roundw;exact⟨k+1,by omega,by go_num,h2.out,J⟩;simp[intOf];omega
 .obtain rfl:k=c.length:=by omega
  have S:=AA (Xs au.out);go_wp2_with fail;go_ret;exact⟨Ch S.out.symm,J⟩
theorem YM{ss:List ByteArray}(h:k<ss.length):ss[k]?=some (Di ss k):=If h
theorem U7(v:Value)(ss:List ByteArray)(s:ByteArray)(w:World)(h:BY w v ss)(hs:Db ss)(hz:s.size<=maxLen)(hl:ss.length<=100):Calls prog 226 #[v,.string s] w λr w'=>∃v',r=.returned v'/\AQ w.heap.size 9 1 BD w' v' (DK ss s)/\Below w.heap.size w w':=by
 obtain⟨a,cp,rfl,hc,cb,wx⟩:=BK.open Ho (by decide) h;unfold maxLen at cb;have HH:=AA wx;have HS:=AA (xU hs hz);have bA:=AI w (.cells #[] 9);have o1:=CU BD w 9 1;clear h wx hs hz;go_in;go_wp2_with fail;generalize w.alloc (.cells #[] 9)=wa at o1 bA ⊢;generalize(xi (some ⟨w.heap.size,0,none⟩) 0 0)=o at o1 ⊢;go_loopw [5,6] (λo R wr=>∃k:Nat,k<=ss.length/\R=.int .i64 k/\AQ w.heap.size 9 1 BD wr o ((ss.take k).filter (λr=>!LZ s r))/\Below w.heap.size w wr) (λ_ R _=>ss.length - (intOf R).toNat)
 exact⟨0,yg _,rfl,o1,bA⟩
 clear o1 bA;obtain⟨k,V,rfl,ad,J⟩:=hrel
 by_cases bk:k<ss.length
 .have bD:(k:Int)<(ss.length:Int):=by omega
  obtain⟨b,bp,rfl,h1⟩:=(HH.out.below J).str bk;have C:=AA (MW s (Di ss k) wr HS.out.2 (HS.out.1 _ (yh (If bk))));have Nx:=AA (Lb (p:=λr=>!LZ s r) (YM bk));have dZ:=JI (p:=λr=>!LZ s r) (l:=ss) (k:=k);generalize Di ss k=x at h1 Nx C;generalize(ss.take k).filter (λr=>!LZ s r)=ys at ad Nx dZ;have bK:=AA ad;obtain⟨_,_,rfl,_⟩:=ad.rd.shape;clear ad;cases hp:!LZ s x
  .have cF:=AA (show(ss.take (k+1)).filter (λr=>!LZ s r)=ys by rw[Nx.out,hp];simp)
   have Hp:=AA hp;clear hp Nx;go_wp2_with fail;refine C.out.mono ?_;rintro e w2 ⟨rfl,rfl⟩;rw[show LZ s x=!false by rw[<-Hp.out];simp];go_wp2_with fail;go_roundw;exact⟨k+1,by omega,by go_num,by rw[cF.out];exact bK.out,J⟩;simp[intOf];omega
  .have cF:=AA (show(ss.take (k+1)).filter (λr=>!LZ s r)=ys++[x] by rw[Nx.out,hp];simp)
   have Hp:=AA hp;clear hp Nx;go_wp2_with fail;refine C.out.mono ?_;rintro e w2 ⟨rfl,rfl⟩;rw[show LZ s x=!true by rw[<-Hp.out];simp];go_wp2_with (at_builtin;go_must (refine Bg (lo:=w.heap.size) (n:=ys.length) (xs:=Cc BD ys) (m:=1) (news:=[.string x]) rfl rfl 9 (.string ⟨#[]⟩) 1 16 underlying72 Tryz.zJ rfl (by decide) rfl (Bx (bK.out) (AI _ _)) rfl (Rd.zC _ #[.string x] _ 1 1 _ rfl (by simp) (by simp[maxLen])) (by simp[xG]) (by unfold maxLen;omega) (by omega) (by have:=(J).size;simp;omega) ?_;intro o' w9 k1 k2 k3 k4));go_roundw;exact⟨k+1,by omega,by go_num,by rw[cF.out];unfold AQ;rw[Bf,EZ,yj];exact k1,((J).alloc (J).size _).trans k4⟩;simp[intOf];omega
 .obtain rfl:k=ss.length:=by omega
  rw[xo] at ad;go_wp2_with fail;go_ret;exact⟨_,rfl,ad,J⟩
theorem Fb{α:Type}{cs:α->List Value}{lo:Nat}{w:World}{ops:Array Oper}{rest:List Oper}{o:Oper}{a:Act}{Q:Exit->Act->World->Prop}{s x:Operand}{t:TypeId}
 (kB:o.guard=none)(O:o.op=.call {callee:=.builtin .append,args:= #[s,x],argTypes:= #[t,t]})
 (e:TypeId)(HK:Value)(sz bytes:Nat)(ht:prog.underlying t=some (.slice e))(hi:(prog.info? e).map (λi=>(i.zero,i.size,i.bytes))=some (some HK,sz,bytes))
 (na:HK.cells.size=sz)(jq:0<sz){v u:Value}{xs:List α}(hs:a.eval s=v)(ad:AQ lo e sz cs w v ([]:List α))
 (hx:a.eval x=u)(hr:BK sz cs w u xs)(D:∀u∈Cc cs xs,u.oneCell'=true)(nX:xs.length<=1048576)(gE:bytes<=1048576)(cu:lo<=w.heap.size)
 (hK:∀v' w',AQ lo e sz cs w' v' xs->Below lo w w'->wpList prog ops Q rest (a.put o.dst v') w'):wpList prog ops Q (o::rest) a w:=by
 refine Bg kB O e HK sz bytes ht hi na jq hs ad hx hr D ?_ ?_ cu λv' w' k1 _ _ k4=>hK v' w' ?_ k4
 .unfold maxLen;simp only[wU];omega
 .simp only[wU]
  have D:=Nat.mul_le_mul_right bytes (show 0+xs.length<=1048576 by omega);have N:=Nat.mul_le_mul_left 1048576 gE;omega
 .unfold AQ
  have:([]:List α).length+xs.length=xs.length:=by simp
  rw[this] at k1;exact k1
theorem FL(xs:List AV):∀u∈Cc A3 xs,u.oneCell'=true:=by
 intro u hu;obtain⟨s,_,hs⟩:=wK.1 hu;simp[A3] at hs
 rcases hs with rfl|rfl|rfl<;>rfl
theorem J9(xs:List Ad):∀u∈Cc AU xs,u.oneCell'=true:=by
 intro u hu;obtain⟨s,_,hs⟩:=wK.1 hu;simp[AU] at hs
 rcases hs with rfl|rfl|rfl|rfl<;>rfl
theorem HY(xs:List ByteArray):∀u∈Cc BD xs,u.oneCell'=true:=by
 intro u hu;obtain⟨s,_,hs⟩:=wK.1 hu;simp[BD] at hs
 rcases hs with rfl<;>rfl
theorem ZO(v:Value)(m:List (List Int))(f:Nat)(w:World)(h:Bk w v m)(hm:Bu m=true)(hf:f<12):Calls prog 286 #[v,.int .i64 f] w λe w'=>e=.returned (.bool true)/\Below w.heap.size w w':=by have C:=IX v m w h;rw[hm] at C;have HC:=AA C;have hj:BZ (f:Int) 0 11=true:=AZ.2 (by omega);have HE:=AA hj;clear C h hm hj;go_in;go_wp2_with fail;refine HC.out.mono ?_;rintro e w1 ⟨rfl,b1⟩;go_wp2_with fail;refine(EI _ _).mono ?_;rintro e w2 ⟨rfl,rfl⟩;rw[HE.out];go_wp2_with fail;go_ret;exact⟨rfl,b1⟩
theorem Ol(v iv:Value)(m:List (List Int))(xs:List AV)(f:Nat)(w:World)(h:Bk w v m)(hm:Bu m=true)(hI:Bb w iv xs)(dc:BP xs=true)(hf:f<12):Calls prog 278 #[v,iv,.int .i64 f] w λe w'=>e=.returned (.bool true)/\Below w.heap.size w w':=by
 have C1:=AA (ZO v m f w h hm hf);have C2:=AA (λW (K:Below w.heap.size w W)=>by have:=DZ iv xs W (BK.below hI K) (Cg dc);rw[dc] at this;exact this);clear h hm hI dc;go_in;go_wp2_with fail;refine C1.out.mono ?_;rintro e w1 ⟨rfl,b1⟩;go_wp2_with (refine(C2.out _ b1).mono ?_;rintro e w2 ⟨rfl,b2⟩);go_ret;exact⟨rfl,b1.trans (b2.mono b1.size)⟩
theorem Ql(v:Value)(xs:List AV)(g:ByteArray)(f:Nat)(w:World)(h:Bb w v xs)(bN:BP xs=true)(hg:BV g=true)(fJ:Am xs=(f:Int))(hf:f<12):
 Calls prog 218 #[v,.string g] w λe w'=>∃v',e=.returned (.tuple #[v',.int .i64 f,.bool true])/\AQ w.heap.size 92 3 A3 w' v' (xs.set f ⟨1,g,0⟩)/\Below w.heap.size w w':=by
 have hl:=(A1.1 bN).1;have c0:=Oj v xs w h;rw[fJ] at c0;have C0:=AA c0;have eN:=KK hg;have gx:g.size<=maxLen:=by unfold maxLen;omega
 have C1:=AA (λW (K:Below w.heap.size w W)=>by have:=DZ v xs W (BK.below h K) (Cg bN);rw[bN] at this;exact this);have C2:=AA (λW=>by have:=EX g W gx;rw[hg] at this;exact this);have HR:=AA (λW (K:Below w.heap.size w W)=>BK.below h K);obtain⟨a,c,rfl,hc,cb⟩:=h.shape;have Hl:=AA hl;have dp:xs.length<=12:=by omega
 clear h bN hg fJ c0 gx eN hl;go_in;go_wp2_with fail;refine C0.out.mono ?_;rintro e w0 ⟨rfl,b0⟩;go_wp2_with fail;refine(C1.out _ b0).mono ?_;rintro e w1 ⟨rfl,b1⟩;have bx:=b0.trans (b1.mono b0.size);go_wp2_with fail;refine(C2.out _).mono ?_;rintro e w1 ⟨rfl,rfl⟩;have b9:=AA bx;go_wp2_with (at_builtin;go_must (refine Fb (cs:=A3) rfl rfl 92 (.agg #[.int .i64 0,.string ⟨#[]⟩,.int .i64 0]) 3 32 underlying24 Tryz.zE rfl (by decide) rfl (CU A3 _ _ _) rfl (HR.out _ (bx.trans ((AI _ _).mono bx.size))) (FL _) (by omega) (by decide) (by simp) ?_;intro v' w9 hO cC));have bl:=(b9.out.trans ((AI _ _).mono b9.out.size)).trans (cC.mono b9.out.size);obtain⟨q,cg,rfl,c1,c2,q1,q2,dq⟩:=hO.zM (by have:=Hl.out;omega);have hS:=AA (AQ.stored A0 hO (show f<xs.length by have:=Hl.out;omega) ⟨1,g,0⟩);obtain⟨d0,d1,d2⟩:=AQ.zP hO (show f<xs.length by have:=Hl.out;omega);have hB:=AA (AM bl hS.out.2 (yB b9.out.size q1) bl.size);have cu:=b9.out.size;have eG:(f:Int)<xs.length:=by have:=Hl.out;omega
 unfold maxLen at c2;have ef:¬(f:Int)<0:=by omega
 clear hO cC bx b0 b1 bl dp;go_wp2_with fail;go_ret3;exact⟨_,rfl,hS.out.1.lower cu,hB.out⟩
theorem Qk(v:Value)(xs:List AV)(f:Nat)(w:World)(h:Bb w v xs)(bN:BP xs=true)(hf:f<12)(V:(zS xs f).k=1)(hr:(zS xs f).r=0):
 Calls prog 220 #[v,.int .i64 f] w λe w'=>∃v',e=.returned (.tuple #[v',.bool true])/\AQ w.heap.size 92 3 A3 w' v' (xs.set f AV.zero)/\Below w.heap.size w w':=by
 have hl:=(A1.1 bN).1;have C1:=AA (λW (K:Below w.heap.size w W)=>by have:=DZ v xs W (BK.below h K) (Cg bN);rw[bN] at this;exact this);have HE:=AA (show BZ (f:Int) 0 11=true from AZ.2 (by omega));have HR:=AA (λW (K:Below w.heap.size w W)=>BK.below h K);obtain⟨ai,ci,rfl,kH,gD,H2⟩:=BK.open A0 (by decide) h;obtain⟨bi,av,rfl,ck,D0,_,D2⟩:=H2.zP (show f<xs.length by omega);have eG:(f:Int)<xs.length:=by omega
 have t1:((zS xs f).k !=1)=false:=by simp[V]
 have t2:¬0<(zS xs f).r:=by omega
 have Hl:=AA hl;have J:=yD w.heap.size w;clear h bN V hr H2 hl;go_in;go_wp2_with fail;refine(C1.out _ J).mono ?_;rintro e w_ ⟨rfl,eu⟩;replace J:=J.trans (eu.mono J.size);clear eu;go_wp2_with fail;refine(EI _ _).mono ?_;rintro e w2 ⟨rfl,rfl⟩;rw[HE.out];replace D0:=(J.cell (p:=⟨bi,av+f*3,none⟩) ck).trans D0;replace D2:=(J.cell (p:=⟨bi,av+f*3+2,none⟩) ck).trans D2;have b9:=AA J;go_wp2_with (at_builtin;go_must (refine Fb (cs:=A3) rfl rfl 92 (.agg #[.int .i64 0,.string ⟨#[]⟩,.int .i64 0]) 3 32 underlying24 Tryz.zE rfl (by decide) rfl (CU A3 _ _ _) rfl (HR.out _ (b9.out.trans ((AI _ _).mono b9.out.size))) (FL _) (by have:=Hl.out;omega) (by decide) (by simp) ?_;intro v' w9 hO cC));have bl:=(b9.out.trans ((AI _ _).mono b9.out.size)).trans (cC.mono b9.out.size);obtain⟨q,cg,rfl,c1,c2,q1,q2,dq⟩:=hO.zM (by have:=Hl.out;omega);have hS:=AA (AQ.stored A0 hO (show f<xs.length by have:=Hl.out;omega) AV.zero);obtain⟨d0,d1,d2⟩:=AQ.zP hO (show f<xs.length by have:=Hl.out;omega);have hB:=AA (AM bl hS.out.2 (yB b9.out.size q1) bl.size);have cu:=b9.out.size;unfold maxLen at c2;have ef:¬(f:Int)<0:=by omega
 clear hO cC bl J D0 D2;go_wp2_with fail;go_ret2;exact⟨_,rfl,hS.out.1.lower cu,hB.out⟩
theorem Rp(v:Value)(xs:List AV)(f:Nat)(w:World)(h:Bb w v xs)(bN:BP xs=true)(hf:f<12)(V:(zS xs f).k=1)(hr:(zS xs f).r≠0):
 Calls prog 220 #[v,.int .i64 f] w λe w'=>∃v',e=.returned (.tuple #[v',.bool false])/\Below w.heap.size w w':=by
 have hl:=(A1.1 bN).1;have eM:=(IC ((A1.1 bN).2 f hf)).2.1;have C1:=AA (λW (K:Below w.heap.size w W)=>by have:=DZ v xs W (BK.below h K) (Cg bN);rw[bN] at this;exact this);have HE:=AA (show BZ (f:Int) 0 11=true from AZ.2 (by omega));obtain⟨ai,ci,rfl,kH,gD,H2⟩:=BK.open A0 (by decide) h;obtain⟨bi,av,rfl,ck,D0,_,D2⟩:=H2.zP (show f<xs.length by omega);have eG:(f:Int)<xs.length:=by omega
 have t1:((zS xs f).k !=1)=false:=by simp[V]
 have t2:0<(zS xs f).r:=by omega
 have J:=yD w.heap.size w;clear h bN V hr H2 hl eM;go_in;go_wp2_with fail;refine(C1.out _ J).mono ?_;rintro e w_ ⟨rfl,eu⟩;replace J:=J.trans (eu.mono J.size);clear eu;go_wp2_with (refine(EI _ _).mono ?_;rintro e w2 ⟨rfl,rfl⟩;rw[HE.out];replace D0:=(J.cell (p:=⟨bi,av+f*3,none⟩) ck).trans D0;replace D2:=(J.cell (p:=⟨bi,av+f*3+2,none⟩) ck).trans D2);go_ret2;exact⟨_,rfl,J.alloc J.size _⟩
theorem To(v rv:Value)(xs:List AV)(f:Nat)(x kind:Int)(ss:List ByteArray)(w:World)(h:Bb w v xs)(hl:xs.length=12)(hI:IS xs)(hv:BY w rv ss)(hs:Db ss)(hx:x<=9223372036854775807)(V:2<=kind/\kind<=3):
 Calls prog 184 #[v,.int .i64 f,.int .i64 x,.int .i64 kind,rv] w λe w'=>e=.returned (.bool (Fc xs f kind ss x))/\Below w.heap.size w w':=by
 cases hg:Bm x
 .have hk:=AA (Eu hg)
  have G:=AA (show Fc xs f kind ss x=(x==0) by simp only[Fc,hg];rw[wF];simp);obtain⟨_,_,rfl,_⟩:=h.shape;obtain⟨_,_,rfl,_⟩:=hv.shape;clear hg h hl hI hv hs;go_in;go_wp2_with (go_at_call 186;refine(DB _ _ hx).mono ?_;rintro e w' ⟨rfl,rfl⟩;rw[hk.out]);go_ret;exact⟨AH G.out.symm,yD _ _⟩
 .have hk:=AA (Ej hg)
  have hF:=Ec hg;have G:=Se (zZ:=xs) (f:=f) (kind:=kind) (ss:=ss) hg;have ke:BC x<xs.length:=by omega
  have HC:=AA (Kr rv ss (zS xs (BC x)).g w hv hs (hI _ (yh (Cq ke))));obtain⟨a,c,rfl,_,_,wx⟩:=BK.open A0 (by decide) h;obtain⟨b,bp,rfl,bu,D0,D1,_⟩:=wx.zP ke;obtain⟨_,_,rfl,_⟩:=hv.shape;generalize BC x=o at*;generalize By ss (zS xs o).g=mb at HC G;have lS:(o:Int)<xs.length:=by omega
  clear hg h hl hI hv hs wx ke hF
  by_cases e1:o=f
  .have t1:((o:Int) !=(f:Int))=false:=by simp[e1]
   have ix:=AA (show Fc xs f kind ss x=false by rw[G];simp[e1]);clear G e1;go_in;go_wp2_with (go_at_call 186;refine(DB _ _ hx).mono ?_;rintro e w' ⟨rfl,rfl⟩;rw[hk.out]);go_ret;exact⟨AH ix.out.symm,yD _ _⟩
  .have t1:((o:Int) !=(f:Int))=true:=by simp;omega
   by_cases e2:(zS xs o).k=kind - 1
   .have t2:((zS xs o).k==kind - 1)=true:=by simp[e2]
    have ix:=AA (show Fc xs f kind ss x=mb by rw[G];simp[e1,e2]);clear G e1 e2;go_in;go_wp2_with (go_at_call 186;refine(DB _ _ hx).mono ?_;rintro e w' ⟨rfl,rfl⟩;rw[hk.out]);refine HC.out.mono ?_;rintro e w2 ⟨rfl,b2⟩;go_wp2_with fail;go_ret;exact⟨AH ix.out.symm,b2⟩
   .have t2:((zS xs o).k==kind - 1)=false:=by simp[e2]
    have ix:=AA (show Fc xs f kind ss x=false by rw[G];simp[e2]);clear G e1 e2;go_in;go_wp2_with (go_at_call 186;refine(DB _ _ hx).mono ?_;rintro e w' ⟨rfl,rfl⟩;rw[hk.out]);go_ret;exact⟨AH ix.out.symm,yD _ _⟩
theorem XH{m:List (List Int)}(hm:Bu m=true){f:Nat}(hf:f<12){k:Nat}(V:k<4):(AG m f)[k]?=some (As m f k):=by have:=(A4.1 ((Ai.1 hm).2 f hf)).1;unfold As;exact A2 (by omega)
theorem cJ{m:List (List Int)}(hm:Bu m=true){f:Nat}(hf:f<12){k:Nat}(V:k<4):As m f k<=9223372036854775807:=by obtain⟨h4,hw⟩:=A4.1 ((Ai.1 hm).2 f hf);have:=(hw _ (yh (XH hm hf V))).2;omega
theorem Sf(v iv rv:Value)(m:List (List Int))(xs:List AV)(f:Nat)(kind:Int)(ss:List ByteArray)(w:World)(h:Bk w v m)(hm:Bu m=true)(hI:Bb w iv xs)(hl:xs.length=12)(ip:IS xs)(hf:f<12)(V:Bh kind=true)(hv:BY w rv ss)(hs:Db ss):
 Calls prog 131 #[v,iv,.int .i64 f,.int .i64 kind,rv] w λe w'=>e=.returned (.bool (JN m xs f kind ss))/\Below w.heap.size w w':=by
 have kw:2<=kind/\kind<=3:=by simp only[Bh,xE,decide_eq_true_eq] at V;omega
 have CE:=AA (λ(x:Int)(hx:x<=9223372036854775807) W (K:Below w.heap.size w W)=>To iv rv xs f x kind ss W (BK.below hI K) hl ip (BK.below hv K) hs hx kw);have Hm:=AA hm;have my:=AA (A4.1 ((Ai.1 hm).2 f hf)).1;have dm:=(Ai.1 hm).1;obtain⟨a,c,rfl,_,_,wx⟩:=h.open;obtain⟨_,_,rfl,_⟩:=hI.shape;obtain⟨_,_,rfl,_⟩:=hv.shape;have HH:=AA wx;have eG:(f:Int)<m.length:=by omega
 clear h hm hI hl ip V hv hs kw dm wx;go_in;go_wp2_with fail;go_loopw [11] (λR wr=>∃k:Nat,k<=4/\R=.int .i64 k/\(∀j,j<k->Fc xs f kind ss (As m f j)=true)/\Below w.heap.size w wr) (λR _=>4 - (intOf R).toNat)
 exact⟨0,yg _,rfl,λj E=>absurd E (xN _),yD _ _⟩
 obtain⟨k,V,rfl,ab,J⟩:=hrel;have au:=AA ab;clear ab
 by_cases bk:k<4
 .have bD:(k:Int)<(4:Int):=by omega
  obtain⟨b,bp,b2,j5,c2,rfl,bu,h1,nQ,nP,W0⟩:=(HH.out.below J).row4 Hm.out hf;have D2:=W0 k bk;have C:=AA (CE.out (As m f k) (cJ Hm.out hf bk) wr J);clear W0;cases hp:Fc xs f kind ss (As m f k)
  .have S:=AA (show JN m xs f kind ss=false from JG (XH Hm.out hf bk) hp)
   have Hp:=AA hp;clear hp;go_wp2_with (refine C.out.mono ?_;rintro e w2 ⟨rfl,b2⟩;rw[Hp.out]);go_ret;exact⟨AH S.out.symm,J.trans (b2.mono J.size)⟩
  .have Hp:=AA hp
   clear hp;go_wp2_with fail;refine C.out.mono ?_;rintro e w2 ⟨rfl,b2⟩;rw[Hp.out];go_wp2_with fail;go_roundw;exact⟨k+1,by omega,by go_num,Al au.out Hp.out,J.trans (b2.mono J.size)⟩;simp[intOf];omega
 .have ek:k=4:=by omega
  have ab:=au.out;rw[ek] at ab;have S:=AA (show JN m xs f kind ss=true from J6 (f:=As m f) (λk V=>XH Hm.out hf (by have:=my.out;omega)) (λj E=>ab j (by have:=my.out;omega)));clear au ab;go_wp2_with fail;go_ret;exact⟨AH S.out.symm,J⟩
theorem Wl{zZ:List AV}{n:Int}(E:j<fs.length):Bn zZ (fs.take (j+1)) n=(Bn zZ (fs.take j) n).set (IM fs j) (Jk n (zS (Bn zZ (fs.take j) n) (IM fs j))):=by unfold Bn;rw[DA (GK E),uZ];exact Kw
theorem GW{p:Nat->Bool}(V:k<n)(h:p k=false):(yC n).all p=false:=by rw[wP];exact⟨k,xS.2 V,by rw[h];decide⟩
theorem NJ(x:Ad)(w:World):Calls prog 125 #[.agg #[.int .i64 x.e,.int .i64 x.p,.int .i64 x.f,.bool x.w]] w λe w'=>e=.returned (.bool (Bl x))/\Below w.heap.size w w':=by
 obtain⟨N0,bq⟩:=Dd w (.cells #[.int .i64 x.e,.int .i64 x.p,.int .i64 x.f,.bool x.w] 112);obtain⟨x0,x1,x2,_⟩:=AE N0;have hj:Bl x=(BZ x.e 0 2&&BZ x.p 0 15&&BZ x.f 0 11):=rfl;have HE:=AA hj;clear hj N0;go_in;go_wp2_with fail;generalize w.alloc _=W0 at*;refine(Jb _ _).mono ?_;rintro r w1 ⟨rfl,rfl⟩;cases D:BZ x.e 0 2
 .have S:=AA (show Bl x=false by rw[HE.out,D];rfl)
  clear D;go_wp2_with fail;go_ret;exact⟨AH S.out.symm,bq⟩
 .rw[D] at HE
  clear D;go_wp2_with fail;refine(C8 _ _ _ _).mono ?_;rintro r w1 ⟨rfl,rfl⟩;cases N:BZ x.p 0 15
  .have S:=AA (show Bl x=false by rw[HE.out,N];rfl)
   clear N;go_wp2_with fail;go_ret;exact⟨AH S.out.symm,bq⟩
  .rw[N] at HE
   have S:=AA (show Bl x=BZ x.f 0 11 by rw[HE.out];simp);clear N;go_wp2_with (refine(EI _ _).mono ?_;rintro r w1 ⟨rfl,rfl⟩);go_ret;exact⟨AH S.out.symm,bq⟩
theorem Ya{c:List Ad}(V:k<c.length):Cy c k=(Bl (AT c k)&&!decide (GC c (AT c k).e (AT c k).p<(k:Int))):=by
 unfold Cy
 congr 1
 congr 1
 have fV:BB (AT c k).e (AT c k).p (AT c k)=true:=by simp[BB]
 rw[wF,decide_eq_true_eq,vP];unfold GC;rw[if_pos (OF (FB V) fV)];have eG:c.findIdx (BB (AT c k).e (AT c k).p)<c.length:=List.findIdx_lt_length.2 ⟨_,yh (FB V),fV⟩;constructor
 .rintro⟨x,hx,hp⟩
  obtain⟨j,E⟩:=xq hx;have jw:j<k:=by have:=(yt.1 E).1;rw[xT] at this;omega
  rw[ve,if_pos jw] at E;have:c.findIdx (BB (AT c k).e (AT c k).p)<=j:=by
   rcases Nat.lt_or_ge j (c.findIdx (BB (AT c k).e (AT c k).p)) with h|h
   .have hn:=List.not_of_lt_findIdx h
    have e:c[j]'(by omega)=x:=by have N:=yw (l:=c) (i:=j) (by omega);rw[N] at E;exact yF E
    rw[e] at hn;rw[hp] at hn;cases hn
   .exact h
  omega
 .intro h
  refine⟨c[c.findIdx (BB (AT c k).e (AT c k).p)],?_,List.findIdx_getElem⟩;rw[List.mem_take_iff_getElem];exact⟨_,by omega,rfl⟩
theorem JJ(v:Value)(c:List Ad)(w:World)(h:DJ w v c):Calls prog 73 #[v] w λe w'=>e=.returned (.bool (BT c))/\Below w.heap.size w w':=by
 have HV:=AA h;obtain⟨a,cp,rfl,hc,cb,wx⟩:=BK.open CZ (by decide) h;unfold maxLen at cb;have HH:=AA wx;clear h wx;go_in;go_wp2_with fail;go_loopw [3] (λR wr=>∃k:Nat,k<=c.length/\R=.int .i64 k/\(∀j,j<k->Cy c j=true)/\Below w.heap.size w wr) (λR _=>c.length - (intOf R).toNat)
 exact⟨0,yg _,rfl,λj E=>absurd E (xN _),yD _ _⟩
 obtain⟨k,V,rfl,ab,J⟩:=hrel;have au:=AA ab;clear ab
 by_cases bk:k<c.length
 .have bD:(k:Int)<(c.length:Int):=by omega
  have oE:=AA (BK.below HV.out J);obtain⟨b,bp,rfl,kN,D0,D1,D2,D3⟩:=(HH.out.below J).zL bk;have bu:=yA _ _ D0;have SF:=Ya bk;have hZ:=λW (K:Below wr.heap.size wr W)=>NJ (AT c k) W
  have CF:=AA (λW (K:Below wr.heap.size wr W)=>QG _ c (AT c k).e (AT c k).p W (BK.below oE.out K));generalize GC c (AT c k).e (AT c k).p=fd at SF CF;clear kN;cases D:Bl (AT c k)
  .rw[D] at hZ
   have CA:=AA hZ;rw[D] at SF;clear hZ D;have fl:Cy c k=false:=by rw[SF];rfl
   clear SF;have S:=AA (show BT c=false by unfold BT;rw[GW bk fl];rfl);go_wp2_with fail;refine Aa 21 35 [.v (.slice (some ⟨b,bp,none⟩) c.length cp),.i ((k:Int)),.p b (bp+k*4),.a #[.int .i64 ((AT c k).e),.int .i64 ((AT c k).p),.int .i64 ((AT c k).f),.bool (AT c k).w],.b false,.b true,.b true,.u,.u,.u,.u,.u,.u,.u,.u,.u,.u,.u,.u,.u,.u] (λ_ _ _=>True) ?_ ?_
   .intro i hi o O a H Z A Y hW z
    match i,hi with
    |0,_|1,_|5,_|6,_=>exact sP O z Z A
    |2,_=>exact sI O z Z A (hr:=by clear A Z z;go_simp)
    |3,_=>exact sL O z Z A (hl:=VG (bc Y bu D0) (bc Y bu D1) (bc Y bu D2) (bc Y bu D3))
    |4,_=>exact sD O z Z A (CA.out _ Y)
    |7,_|8,_|9,_|10,_|11,_|12,_|13,_|14,_|15,_|16,_|17,_|18,_|19,_|20,_=>exact sB O z A
    |_+21,hq=>omega
   .intro L H hR Y
    have q6:(L 6)=.bool true:=BS hR 6;clear hR;simp only[Ak,Ah,yC,yy,yz,yx,q6];simp;clear q6;have cd:=J.trans (Y.mono J.size);clear Y D0 D1 D2 D3;go_wp2_with fail;go_ret;exact⟨AH S.out.symm,cd⟩
  .rw[D] at hZ
   have CA:=AA hZ;rw[D] at SF;clear hZ D
   by_cases N:fd<(k:Int)
   .have fl:Cy c k=false:=by rw[SF];simp[N]
    clear SF;have S:=AA (show BT c=false by unfold BT;rw[GW bk fl];rfl);go_wp2_with fail;refine Aa 21 35 [.v (.slice (some ⟨b,bp,none⟩) c.length cp),.i ((k:Int)),.p b (bp+k*4),.a #[.int .i64 ((AT c k).e),.int .i64 ((AT c k).p),.int .i64 ((AT c k).f),.bool (AT c k).w],.b true,.b false,.b false,.v (.slice (some ⟨b,bp,none⟩) c.length cp),.v (.slice (some ⟨b,bp,none⟩) c.length cp),.i ((k:Int)),.p b (bp+k*4),.p b (bp+k*4),.i ((AT c k).e),.v (.slice (some ⟨b,bp,none⟩) c.length cp),.i ((k:Int)),.p b (bp+k*4),.p b (bp+k*4+1),.i ((AT c k).p),.i fd,.i ((k:Int)),.b true] (λ_ _ _=>True) ?_ ?_
    .intro i hi o O a H Z A Y hW z
     have bs:=bc Y bu D0;have br:=bc Y bu D1;have bB:=bc Y bu D2;have cN:=bc Y bu D3
     match i,hi with
     |0,_|1,_|5,_|6,_|7,_|8,_|9,_|11,_|13,_|14,_|16,_|19,_=>exact sP O z Z A
     |2,_|10,_|15,_=>exact sI O z Z A (hr:=by clear A Z z;go_simp)
     |3,_=>exact sL O z Z A (hl:=VG ‹_› ‹_› ‹_› ‹_›)
     |4,_=>exact sD O z Z A (CA.out _ Y)
     |12,_|17,_=>exact sL O z Z A (hl:=FT ‹_›)
     |18,_=>exact sD O z Z A (CF.out _ Y)
     |20,_=>clear bs br bB cN;obtain rfl:=yF O;have ld:(a.tmps[28]?.getD undef)=.int .i64 fd:=Ba A 18;have gH:(a.tmps[29]?.getD undef)=.int .i64 k:=Ba A 19;have d6:(a.tmps[16]?.getD undef)=.bool false:=Ba A 6;clear A Z;refine AX.yes rfl rfl d6 ?_;go_simp;exact z.out _ _ rfl (yD _ _)
     |_+21,hq=>omega
    .intro L H hR Y
     have q6:(L 6)=.bool false:=BS hR 6;have eR:(L 20)=.bool true:=BS hR 20;clear hR;simp only[Ak,Ah,yC,yy,yz,yx,q6,eR];simp;clear q6 eR;have cd:=J.trans (Y.mono J.size);clear Y D0 D1 D2 D3;go_wp2_with fail;go_ret;exact⟨AH S.out.symm,cd⟩
   .have bN:Cy c k=true:=by rw[SF];simp[N]
    clear SF;have S:=AA (bN);go_wp2_with fail;refine Aa 21 35 [.v (.slice (some ⟨b,bp,none⟩) c.length cp),.i ((k:Int)),.p b (bp+k*4),.a #[.int .i64 ((AT c k).e),.int .i64 ((AT c k).p),.int .i64 ((AT c k).f),.bool (AT c k).w],.b true,.b false,.b false,.v (.slice (some ⟨b,bp,none⟩) c.length cp),.v (.slice (some ⟨b,bp,none⟩) c.length cp),.i ((k:Int)),.p b (bp+k*4),.p b (bp+k*4),.i ((AT c k).e),.v (.slice (some ⟨b,bp,none⟩) c.length cp),.i ((k:Int)),.p b (bp+k*4),.p b (bp+k*4+1),.i ((AT c k).p),.i fd,.i ((k:Int)),.b false] (λ_ _ _=>True) ?_ ?_
    .intro i hi o O a H Z A Y hW z
     have bs:=bc Y bu D0;have br:=bc Y bu D1;have bB:=bc Y bu D2;have cN:=bc Y bu D3
     match i,hi with
     |0,_|1,_|5,_|6,_|7,_|8,_|9,_|11,_|13,_|14,_|16,_|19,_=>exact sP O z Z A
     |2,_|10,_|15,_=>exact sI O z Z A (hr:=by clear A Z z;go_simp)
     |3,_=>exact sL O z Z A (hl:=VG ‹_› ‹_› ‹_› ‹_›)
     |4,_=>exact sD O z Z A (CA.out _ Y)
     |12,_|17,_=>exact sL O z Z A (hl:=FT ‹_›)
     |18,_=>exact sD O z Z A (CF.out _ Y)
     |20,_=>clear bs br bB cN;obtain rfl:=yF O;have ld:(a.tmps[28]?.getD undef)=.int .i64 fd:=Ba A 18;have gH:(a.tmps[29]?.getD undef)=.int .i64 k:=Ba A 19;have d6:(a.tmps[16]?.getD undef)=.bool false:=Ba A 6;clear A Z;refine AX.yes rfl rfl d6 ?_;go_simp;exact z.out _ _ (congrArg Value.bool (decide_eq_false (by omega))) (yD _ _)
     |_+21,hq=>omega
    .intro L H hR Y
     have q6:(L 6)=.bool false:=BS hR 6;have eR:(L 20)=.bool false:=BS hR 20;clear hR;simp only[Ak,Ah,yC,yy,yz,yx,q6,eR];simp;clear q6 eR;have cd:=J.trans (Y.mono J.size);clear Y D0 D1 D2 D3;go_wp2_with fail;go_roundw;exact⟨k+1,by omega,by go_num,Al au.out S.out,cd⟩;simp[intOf];omega
 .have ek:k=c.length:=by omega
  have ab:=au.out;rw[ek] at ab;have S:=AA (show BT c=decide ((c.length:Int)<=4) by
   unfold BT;have:(yC c.length).all (Cy c)=true:=xZ.2 λj E=>ab j (xS.1 E)
   rw[this,Bool.true_and]
   by_cases h:c.length<=4
   .rw[decide_eq_true h,decide_eq_true (by omega:(c.length:Int)<=4)]
   .rw[decide_eq_false h,decide_eq_false (by omega:¬(c.length:Int)<=4)])
  clear au ab;go_wp2_with fail;go_ret;exact⟨AH S.out.symm,J⟩
theorem MX(m i e c:Value)(k:AO)(w:World)(h:Bk w m k.mem)(hm:Bu k.mem=true)(hI:Bb w i k.zZ)(dc:BP k.zZ=true):
 Calls prog 75 #[.agg #[m,i,e,c]] w λr w'=>r=.returned (.bool ((yC 12).all (Dh k)))/\Below w.heap.size w w':=by
 obtain⟨N0,bq⟩:=Dd w (.cells #[m,i,e,c] 28);replace h:=h.below bq;replace hI:=BK.below hI bq;obtain⟨am,cm,rfl,_⟩:=h.open;obtain⟨ai,ci,rfl,_,_,mJ⟩:=BK.open A0 (by decide) hI;have fY:=(A1.1 dc).1;have ip:=Cg dc;generalize iy:k.mem.length=nm at*;have Hl:=AA fY;have p6:=AA iy;clear fY iy;go_in;go_wp2_with fail;generalize w.alloc _=W0 at*;have HN:=AA N0;have HH:=AA mJ;have HR:=AA h;have HI:=AA hI;have Hm:=AA hm;have Hs:=AA ip;have fA:=AW N0;clear h hI hm dc ip N0 mJ;go_loopw [3] (λR wr=>∃f:Nat,f<=12/\R=.int .i64 f/\(∀j,j<f->Dh k j=true)/\Below W0.heap.size W0 wr) (λR _=>12 - (intOf R).toNat)
 exact⟨0,yg _,rfl,λj E=>absurd E (xN _),yD _ _⟩
 obtain⟨f,hf,rfl,ab,J⟩:=hrel;have au:=AA ab;clear ab
 by_cases bk:f<12
 .have bD:(f:Int)<12:=by omega
  have eG:(f:Int)<k.zZ.length:=by have:=Hl.out;omega
  obtain⟨x0,x1,_,_⟩:=AE (AB HN.out J);have dN:w.heap.size<wr.heap.size:=xW fA J.size;obtain⟨bi,av,rfl,kO,D0,_,_⟩:=(HH.out.below J).zP (show f<k.zZ.length by have:=Hl.out;omega);have ck:=yA _ _ D0;have eo:=λW (K:Below wr.heap.size wr W)=>BJ (Fj (zS k.zZ f).k W)
  have TO:Dh k f=(!Bh (zS k.zZ f).k||JN k.mem k.zZ f (zS k.zZ f).k [⟨#[]⟩]):=rfl;clear kO;cases D:Bh (zS k.zZ f).k
  .rw[D] at eo TO
   have CT:=AA eo;have bN:Dh k f=true:=by rw[TO];rfl
   clear eo TO D;have S:=AA (bN);go_wp2_with fail;refine Aa 21 31 [.p w.heap.size 1,.v (.slice (some ⟨bi,av,none⟩) k.zZ.length ci),.i ((f:Int)),.p bi (av+f*3),.p bi (av+f*3),.i ((zS k.zZ f).k),.b false,.b false,.u,.u,.u,.u,.u,.u,.u,.u,.u,.u,.u,.u,.u] (λ_ _ _=>True) ?_ ?_
   .intro i hi o O a H Z A Y hW z
    match i,hi with
    |0,_|2,_|4,_|7,_=>exact sP O z Z A
    |1,_=>exact sL O z Z A (hl:=GY (bc Y dN x1))
    |3,_=>exact sI O z Z A (hr:=by clear A Z z;go_simp)
    |5,_=>exact sL O z Z A (hl:=FT (bc Y ck D0))
    |6,_=>exact sD O z Z A (CT.out _ Y)
    |8,_|9,_|10,_|11,_|12,_|13,_|14,_|15,_|16,_|17,_|18,_|19,_|20,_=>exact sB O z A
    |_+21,hq=>omega
   .intro L H hR Y
    have q7:(L 7)=.bool false:=BS hR 7;clear hR;simp only[Ak,Ah,yC,yy,yz,yx,q7];simp;clear q7;have cd:=J.trans (Y.mono J.size);clear Y D0 x0 x1;go_wp2_with fail;go_roundw;exact⟨f+1,by omega,by go_num,Al au.out S.out,cd⟩;simp[intOf];omega
  .have eL:=λW (K:Below wr.heap.size wr W) v2 (N:BY W v2 [⟨#[]⟩])=>Sf _ _ v2 k.mem k.zZ f (zS k.zZ f).k [⟨#[]⟩] W ((HR.out.below J).below K) Hm.out (BK.below (BK.below HI.out J) K) Hl.out Hs.out bk D N (λs hs=>by rw[List.mem_singleton] at hs;subst hs;exact yg _)
   rw[D] at eo TO;have CT:=AA eo;cases N:JN k.mem k.zZ f (zS k.zZ f).k [⟨#[]⟩]
   .rw[N] at eL TO
    have CG:=AA eL;have fl:Dh k f=false:=by rw[TO];rfl
    clear eo TO D N eL;have S:=AA (show(yC 12).all (Dh k)=false from GW bk fl);go_wp2_with fail;refine BR 21 31 [.p w.heap.size 1,.v (.slice (some ⟨bi,av,none⟩) k.zZ.length ci),.i ((f:Int)),.p bi (av+f*3),.p bi (av+f*3),.i ((zS k.zZ f).k),.b true,.b true,.p w.heap.size 0,.v (.slice am nm cm),.p w.heap.size 1,.v (.slice (some ⟨bi,av,none⟩) k.zZ.length ci),.i ((f:Int)),.p w.heap.size 1,.v (.slice (some ⟨bi,av,none⟩) k.zZ.length ci),.i ((f:Int)),.p bi (av+f*3),.p bi (av+f*3),.i ((zS k.zZ f).k),.z,.b false] (λR vv ww=>match R with
     |19=>BY ww vv [⟨#[]⟩]
     |_=>True) ?_ ?_ ?_
    .intro i hi o O a H Z A Y hW z
     have bs:=bc Y dN x1;have br:=bc Y ck D0;have bB:=bc Y dN x0
     match i,hi with
     |0,_|2,_|4,_|7,_|8,_|10,_|12,_|13,_|15,_|17,_=>exact sP O z Z A
     |1,_|11,_|14,_=>exact sL O z Z A (hl:=GY ‹_›)
     |3,_|16,_=>exact sI O z Z A (hr:=by clear A Z z;go_simp)
     |5,_|18,_=>exact sL O z Z A (hl:=FT ‹_›)
     |6,_=>exact sD O z Z A (CT.out _ Y)
     |9,_=>exact sL O z Z A (hl:=F9 ‹_›)
     |19,_=>clear bs br bB;obtain rfl:=yF O;have d7:(a.tmps[15]?.getD undef)=.bool true:=Ba A 7;clear A Z;refine AX.yes rfl rfl d7 ?_;go_simp;exact z.out _ _ (Rd.news _ #[.string ⟨#[]⟩] _ 1 1 rfl (by simp[maxLen])) (AI _ _)
     |20,_=>clear bs br bB;obtain rfl:=yF O;have d9:(a.tmps[17]?.getD undef)=.slice am nm cm:=Ba A 9;have ew:(a.tmps[19]?.getD undef)=.slice (some ⟨bi,av,none⟩) k.zZ.length ci:=Ba A 11;have mq:(a.tmps[20]?.getD undef)=.int .i64 f:=Ba A 12;have ld:(a.tmps[26]?.getD undef)=.int .i64 ((zS k.zZ f).k):=Ba A 18;have gH:BY H (a.tmps[27]?.getD undef) [⟨#[]⟩]:=Ba A 19;have d7:(a.tmps[15]?.getD undef)=.bool true:=Ba A 7;clear A Z;generalize e27:a.tmps[27]?.getD undef=v2 at gH;have gR:=CG.out H Y v2 gH;refine AX.yes rfl rfl d7 ?_;go_simp;refine gR.mono ?_;rintro e w_ ⟨rfl,bl⟩;exact z.out _ _ rfl bl
     |_+21,hq=>omega
    .intro i hi vv wz fx cr hz
     match i,hi with
     |19,_=>exact(BK.below hz cr)
     |0,_|1,_|2,_|3,_|4,_|5,_|6,_|7,_|8,_|9,_|10,_|11,_|12,_|13,_|14,_|15,_|16,_|17,_|18,_|20,_=>exact hz
     |_+21,hq=>omega
    .intro L H hR Y
     have q7:(L 7)=.bool true:=BS hR 7;have eR:(L 20)=.bool false:=BS hR 20;clear hR;simp only[Ak,Ah,yC,yy,yz,yx,q7,eR];simp;clear q7 eR;have cd:=J.trans (Y.mono J.size);clear Y D0 x0 x1;go_wp2_with fail;go_ret;exact⟨AH S.out.symm,bq.trans (cd.mono bq.size)⟩
   .rw[N] at eL TO
    have CG:=AA eL;have bN:Dh k f=true:=by rw[TO];rfl
    clear eo TO D N eL;have S:=AA (bN);go_wp2_with fail;refine BR 21 31 [.p w.heap.size 1,.v (.slice (some ⟨bi,av,none⟩) k.zZ.length ci),.i ((f:Int)),.p bi (av+f*3),.p bi (av+f*3),.i ((zS k.zZ f).k),.b true,.b true,.p w.heap.size 0,.v (.slice am nm cm),.p w.heap.size 1,.v (.slice (some ⟨bi,av,none⟩) k.zZ.length ci),.i ((f:Int)),.p w.heap.size 1,.v (.slice (some ⟨bi,av,none⟩) k.zZ.length ci),.i ((f:Int)),.p bi (av+f*3),.p bi (av+f*3),.i ((zS k.zZ f).k),.z,.b true] (λR vv ww=>match R with
     |19=>BY ww vv [⟨#[]⟩]
     |_=>True) ?_ ?_ ?_
    .intro i hi o O a H Z A Y hW z
     have bs:=bc Y dN x1;have br:=bc Y ck D0;have bB:=bc Y dN x0
     match i,hi with
     |0,_|2,_|4,_|7,_|8,_|10,_|12,_|13,_|15,_|17,_=>exact sP O z Z A
     |1,_|11,_|14,_=>exact sL O z Z A (hl:=GY ‹_›)
     |3,_|16,_=>exact sI O z Z A (hr:=by clear A Z z;go_simp)
     |5,_|18,_=>exact sL O z Z A (hl:=FT ‹_›)
     |6,_=>exact sD O z Z A (CT.out _ Y)
     |9,_=>exact sL O z Z A (hl:=F9 ‹_›)
     |19,_=>clear bs br bB;obtain rfl:=yF O;have d7:(a.tmps[15]?.getD undef)=.bool true:=Ba A 7;clear A Z;refine AX.yes rfl rfl d7 ?_;go_simp;exact z.out _ _ (Rd.news _ #[.string ⟨#[]⟩] _ 1 1 rfl (by simp[maxLen])) (AI _ _)
     |20,_=>clear bs br bB;obtain rfl:=yF O;have d9:(a.tmps[17]?.getD undef)=.slice am nm cm:=Ba A 9;have ew:(a.tmps[19]?.getD undef)=.slice (some ⟨bi,av,none⟩) k.zZ.length ci:=Ba A 11;have mq:(a.tmps[20]?.getD undef)=.int .i64 f:=Ba A 12;have ld:(a.tmps[26]?.getD undef)=.int .i64 ((zS k.zZ f).k):=Ba A 18;have gH:BY H (a.tmps[27]?.getD undef) [⟨#[]⟩]:=Ba A 19;have d7:(a.tmps[15]?.getD undef)=.bool true:=Ba A 7;clear A Z;generalize e27:a.tmps[27]?.getD undef=v2 at gH;have gR:=CG.out H Y v2 gH;refine AX.yes rfl rfl d7 ?_;go_simp;refine gR.mono ?_;rintro e w_ ⟨rfl,bl⟩;exact z.out _ _ rfl bl
     |_+21,hq=>omega
    .intro i hi vv wz fx cr hz
     match i,hi with
     |19,_=>exact(BK.below hz cr)
     |0,_|1,_|2,_|3,_|4,_|5,_|6,_|7,_|8,_|9,_|10,_|11,_|12,_|13,_|14,_|15,_|16,_|17,_|18,_|20,_=>exact hz
     |_+21,hq=>omega
    .intro L H hR Y
     have q7:(L 7)=.bool true:=BS hR 7;have eR:(L 20)=.bool true:=BS hR 20;clear hR;simp only[Ak,Ah,yC,yy,yz,yx,q7,eR];simp;clear q7 eR;have cd:=J.trans (Y.mono J.size);clear Y D0 x0 x1;go_wp2_with fail;go_roundw;exact⟨f+1,by omega,by go_num,Al au.out S.out,cd⟩;simp[intOf];omega
 .have ek:f=12:=by omega
  have ab:=au.out;rw[ek] at ab;have S:=AA (show(yC 12).all (Dh k)=true from xZ.2 λj E=>ab j (xS.1 E));clear au ab;go_wp2_with fail;go_ret;exact⟨AH S.out.symm,bq.trans (J.mono bq.size)⟩
def aH(m:List (List Int))(zZ:List AV)(t i g:Nat):Nat:=
 ((yC t).map λu=>if Bh (zS zZ u).k then(named (AG m u)).count g else 0).sum+((named (AG m t)).take i).count g
def V4(m:List (List Int))(zZ:List AV)(t i:Nat):List Int:=(yC 12).map λg=>(aH m zZ t i g:Int)
section
variable {m:List (List Int)} {zZ:List AV} {t i g:Nat}
theorem M9:(V4 m zZ t i).length=12:=by simp[V4]
theorem Td(h:g<12):nth (V4 m zZ t i) g=aH m zZ t i g:=by unfold V4 nth;rw[xO,xm,List.getElem?_range h];rfl
theorem Yz:V4 m zZ t 0=Gp m zZ t 0:=by simp[V4,aH,Gp,Io,named]
theorem Yy(hi:i<(named (AG m t)).length):V4 m zZ t (i+1)=(V4 m zZ t i).set (IM (named (AG m t)) i) (aH m zZ t i (IM (named (AG m t)) i)+1):=by
 have hf:IM (named (AG m t)) i<12:=FW (yh (GK hi));refine MA (by simp[V4]) λg hg=>?_
 rw[M9] at hg;rw[T0 (by rw[M9];exact hf),Td hg,Td hg];unfold aH;rw[DA (GK hi),List.count_append]
 by_cases e:g=IM (named (AG m t)) i
 .subst e;simp;omega
 .rw[if_neg e,List.count_singleton]
  have:(IM (named (AG m t)) i==g)=false:=by simp;exact λh=>e h.symm
  rw[this];simp
theorem aG(V:Bh (zS zZ t).k=true):V4 m zZ t (named (AG m t)).length=Gp m zZ (t+1) 0:=by unfold V4 aH Gp Io;rw[xt (n:=t),xo];simp[V,named]
theorem bW(hm:Bu m=true)(ht:t<=12):aH m zZ t i g<=100:=by
 have D:=Px (zZ:=zZ) (g:=g) (j:=0) hm ht (by omega);have N:((named (AG m t)).take i).count g<=4:=by
  have h3:=vw (a:=g) (l:=(named (AG m t)).take i);have h4:=FV (r:=AG m t);rw[xT] at h3;have h5:(AG m t).length<=4:=by
   rcases Nat.lt_or_ge t 12 with h|h
   .exact Nat.le_of_eq (A4.1 ((Ai.1 hm).2 t h)).1
   .have:AG m t=[]:=by unfold AG;rw[xO,List.getElem?_eq_none (by have:=(Ai.1 hm).1;omega)];rfl
    rw[this];simp
  omega
 unfold Io at D;unfold aH;simp[named] at D;have:((yC t).map λu=>if Bh (zS zZ u).k then(named (AG m u)).count g else 0).sum<=4*t:=by
  clear D N
  induction t with
  |zero=>simp
  |succ t ih=>
   have:=ih (by omega);rw[xt,xC,List.sum_append];have N:(if Bh (zS zZ t).k then(named (AG m t)).count g else 0)<=4:=by
    split
    .have h3:=vw (a:=g) (l:=named (AG m t))
     have h4:=FV (r:=AG m t);have h5:=(A4.1 ((Ai.1 hm).2 t (by omega))).1;omega
    .omega
   simp only[List.map_cons,List.map_nil,List.sum_cons,List.sum_nil];omega
 omega
end
theorem Tn(v iv:Value)(m:List (List Int))(zZ:List AV)(w:World)(h:Bk w v m)(bN:Bu m=true)(hI:Bb w iv zZ)(hl:zZ.length=12):
 Calls prog 132 #[v,iv] w λe w'=>∃v',e=.returned v'/\AF w.heap.size w' v' ((yC 12).map λg=>(countP m zZ g:Int))/\Below w.heap.size w w':=by
 obtain⟨q,c,rfl,hc,cb,H0⟩:=h.open;obtain⟨a2,c2,rfl,jA,gz,H2⟩:=BK.open A0 (by decide) hI;have dm:=(Ai.1 bN).1;unfold maxLen at cb gz;rw[dm] at hc ⊢;rw[hl] at jA ⊢;have iX:=AA bN;have HR:=AA H0;have HI:=AA H2;have Hl:=AA hl;clear h bN H0 H2 dm hI hl;go_in;go_wp2_with (at_make;go_must (refine Pb (n:=12) rfl rfl 3 (.int .i64 0) 8 underlying29 Tryz.zI rfl rfl (by omega) (by unfold maxLen;omega) ?_;intro w1 ad bf jq));have jD:AF w.heap.size w1 (.slice (some ⟨w.heap.size,0,none⟩) 12 12) (Gp m zZ 0 0):=by unfold AF;rw[Jn,SP];exact ad
 have jx:w.heap.size<=w.heap.size:=yv _;have dT:=AA bf;clear ad bf;go_loopw [6,7,8] (λi s7 s8 wr=>∃t:Nat,t<=12/\i=.int .i64 t/\AF w.heap.size wr (.slice (some ⟨w.heap.size,0,none⟩) 12 12) (Gp m zZ t 0)/\Below w.heap.size w wr) (λi _ _ _=>12 - (intOf i).toNat)
 exact⟨0,yg _,rfl,jD,dT.out⟩
 obtain⟨t,ht,rfl,hO,bf⟩:=hrel;clear jD
 by_cases bk:t<12
 .have bD:(t:Int)<12:=by omega
  obtain⟨bm,ig,u,rfl,kM,M0,hr⟩:=HR.out t (by rw[(Ai.1 iX.out).1];exact bk);have M:=(bf.cell (p:=⟨bm,ig+t,none⟩) kM).trans M0;have es:=(A4.1 ((Ai.1 iX.out).2 _ bk)).1;have CN:=It _ (AG m t) wr (Ax.below hr bf) (by omega) (Ly iX.out bk);have HO:=AA hO;have Z:=AA bf;have l6:=(yk HO.out w.heap.size rfl).2;obtain⟨wo,rfl⟩:∃wo:World,wo=wr:=⟨_,rfl⟩
  clear M0 hr hO;go_wp2_with fail;refine CN.mono ?_;rintro e w2 ⟨v2,rfl,O2,b2⟩;have bl:=Z.out.trans (b2.mono Z.out.size);have dZ:=QN iX.out bk;obtain⟨an,iT,rfl,kF,nM,HN⟩:=O2.rd.open;rw[Ce] at kF ⊢;have em:=AA (AF.below HO.out b2);have ON:=AA O2;clear CN O2 bf M;cases V:Bh (zS zZ t).k
  .have S:=AA (SN (m:=m) V)
   have z:=AA V;obtain⟨bi,av,rfl,ck,D0,_,_⟩:=(HI.out.below bl).zP (show t<zZ.length by rw[Hl.out];exact bk);clear V;go_wp2_with fail;go_loopw [8] (λs8 wi=>s8=.int .i64 0/\w2=wi) (λ_ _=>0)
   exact⟨rfl,rfl⟩
   obtain⟨rfl,rfl⟩:=hrel
   by_cases h0:0<(named (AG m t)).length
   focus
    have nY:(0:Int)<(named (AG m t)).length:=by omega
    go_wp2_with (go_at_call 130;refine(Fj _ _).mono ?_;rintro e w' ⟨rfl,rfl⟩;rw[z.out])
   rotate_left
   focus
    have nY:¬(0:Int)<(named (AG m t)).length:=by omega
    go_wp2_with fail
   rotate_left
   all_goals
    go_roundw;exact⟨t+1,by omega,by go_num,by rw[<-S.out];exact em.out,bl⟩;simp[intOf];omega
  .have S:=AA (aG (m:=m) V)
   have z:=AA V;have p7:=AA HN;have oJ:Hid (AF w.heap.size w2 (.slice (some ⟨w.heap.size,0,none⟩) 12 12) (V4 m zZ t 0)):=AA (by rw[Yz];exact em.out);have fF:=AA bl;generalize hns:(named (AG m t)).length=nl at*;have iY:=AA hns;clear V bl em HO HN hns;go_wp2_with fail;go_loopw [8] (λs8 wi=>∃j:Nat,j<=nl/\s8=.int .i64 j/\AF w.heap.size wi (.slice (some ⟨w.heap.size,0,none⟩) 12 12) (V4 m zZ t j)/\AF wo.heap.size wi (.slice an nl iT) (Az (named (AG m t)))/\Below w.heap.size w wi) (λs8 _=>nl - (intOf s8).toNat)
   exact⟨0,yg _,rfl,oJ.out,by have:=ON.out;rwa [Ce,iY.out] at this,fF.out⟩
   obtain⟨j,E,rfl,kT,jE,ck⟩:=hrel;obtain⟨bi,av,rfl,nR,D0,_,_⟩:=(HI.out.below ck).zP (show t<zZ.length by rw[Hl.out];exact bk)
   by_cases kx:j<nl
   .have nB:(j:Int)<(nl:Int):=by omega
    obtain⟨bn,eC,e1,DN⟩:=(show JD wr an (Az (named (AG m t))) from by obtain⟨x1,x2,ex,_,_,hx⟩:=jE.rd.open;rw[Ce,iY.out] at ex;simp only[xH] at ex;obtain⟨rfl,_,rfl⟩:=ex;exact hx).at (k:=j) (by rw[Ce,iY.out];exact kx)
    subst e1;rw[PW] at DN;have hj:=AA (Yy (zZ:=zZ) (show j<(named (AG m t)).length by rw[iY.out];exact kx));have hF:IM (named (AG m t)) j<12:=FW (yh (GK (by rw[iY.out];exact kx)));have iI:=bW (zZ:=zZ) (i:=j) (g:=IM (named (AG m t)) j) iX.out (Nat.le_of_lt bk);have bC:wr.ownsRow w.heap.size 3 1 (.slice (some ⟨w.heap.size,0,none⟩) 12 12) 12 ((V4 m zZ t j).map (xY .i64)):=by have:=kT;unfold AF at this;rwa [M9] at this
    have DC:=(bC.cellAt (IM (named (AG m t)) j) (by omega)).trans (Fh (xs:=V4 m zZ t j) (by rw[M9];exact hF));rw[Td hF] at DC;have kA:∀b,(xi (some ⟨bn,eC,none⟩) nl iT).ownBlock=some b->b≠w.heap.size:=λb J=>by have:=(yk jE b J).1;omega
    have jd:=AA bC;have oL:=AA jE;generalize IM (named (AG m t)) j=fr at*;generalize aH m zZ t j fr=cn at*;have nI:(fr:Int)<12:=by omega
    have eO:=yA _ _ DN;have l7:=yA _ _ DC;obtain⟨nc,hnc⟩:∃nc:Int,(cn:Int)+1=nc:=⟨_,rfl⟩
    have mz:=AA hnc;have mE:=AA ck;clear bC kT jE hnc ck;go_wp2_with (go_at_call 130;refine(Fj _ _).mono ?_;rintro e w' ⟨rfl,rfl⟩;rw[z.out]);refine Aa 13 48 [.s w.heap.size 12 12,.v (.slice (some ⟨bn,eC,none⟩) nl iT),.i ((j:Int)),.p bn (eC+j),.i ((fr:Int)),.s w.heap.size 12 12,.v (.slice (some ⟨bn,eC,none⟩) nl iT),.i ((j:Int)),.p bn (eC+j),.i ((fr:Int)),.p w.heap.size fr,.i ((cn:Int)),.i nc] (λ_ _ _=>True) ?_ ?_
    .intro i hi o O a H Z A Y hW z
     have bs:=bc Y eO DN;have br:=bc Y l7 DC
     match i,hi with
     |0,_|1,_|2,_|5,_|6,_|7,_=>exact sP O z Z A
     |3,_|8,_|10,_=>exact sI O z Z A (hr:=by clear A Z z;go_simp)
     |4,_|9,_|11,_=>exact sL O z Z A (hl:=FT ‹_›)
     |12,_=>clear bs br;obtain rfl:=yF O;have ew:(a.tmps[44]?.getD undef)=.int .i64 cn:=Ba A 11;clear A Z;refine yE ?_;go_simp;exact z.out _ _ (by show xY .i64 (IntKind.i64.wrap ((cn:Int)+1))=.int .i64 nc;rw[IntWalk.i64_in _ (by omega),mz.out]) (yD _ _)
    .intro L H hR Y
     have q0:(L 0)=.slice (some ⟨w.heap.size,0,none⟩) 12 12:=BS hR 0;have q4:(L 4)=.int .i64 fr:=BS hR 4;have fS:(L 12)=.int .i64 nc:=BS hR 12;clear hR;simp only[Ak,Ah,yC,yy,yz,yx,q0,q4,fS];simp;clear q0 q4 fS;have O3:=Bx jd.out Y;have Fr:=O3.frozenAt fr;have C2:=(Y.cell (p:=⟨w.heap.size,fr,none⟩) l7).trans DC;have S2:=AA (O3.stored fr (.int .i64 nc));have mH:=AF.below oL.out Y;have lx:=AA (Aw mH (Aq H w.heap.size fr (.int .i64 nc)) (by
      rcases hv:(xi (some ⟨bn,eC,none⟩) nl iT).ownBlock with _|b
      .exact .inl rfl
      .exact .inr λe=>kA b hv (yF e)))
     have mO:=AA (mE.out.trans (Y.mono mE.out.size));clear D0 DN DC Y O3 mH;go_wp2_with fail;go_roundw
     case rel=>refine⟨j+1,by omega,by go_num,?_,lx.out,AM mO.out S2.out.2 jx mO.out.size⟩;rw[hj.out,mz.out];unfold AF;rw[xP,M9,vm];exact S2.out.1
     case measure=>simp[intOf];omega
   .obtain rfl:j=nl:=by omega
    go_wp2_with fail;go_roundw;exact⟨t+1,by omega,by go_num,by rw[<-S.out];exact kT,ck⟩;simp[intOf];omega
 .obtain rfl:t=12:=by omega
  rw[Un] at hO;go_wp2_with fail;go_ret;exact⟨_,rfl,hO,bf⟩
theorem QD(v iv:Value)(m:List (List Int))(xs:List AV)(f:Nat)(n:Int)(w:World)(h:Bk w v m)(hm:Bu m=true)(hI:Bb w iv xs)(dc:BP xs=true)(hf:f<12)(hn:n=1∨n= -1):
 Calls prog 279 #[v,iv,.int .i64 f,.int .i64 n] w λe w'=>∃v',e=.returned v'/\AQ w.heap.size 92 3 A3 w' v' (Bn xs (named (AG m f)) n)/\Below w.heap.size w w':=by
 have Hl:=AA (A1.1 dc).1;have dm:=(Ai.1 hm).1;have HR:=AA (λW (K:Below w.heap.size w W)=>BK.below hI K);have lm:=AA (λW (K:Below w.heap.size w W)=>h.below K);have es:=(A4.1 ((Ai.1 hm).2 f hf)).1;have CN:=AA (λu W hu=>It u (AG m f) W hu (by omega) (Ly hm hf));have h4:=QN hm hf;have oY:=AA (λg (hg:g∈named (AG m f))=>FW hg);have ow:=AA dc;have Hn:=AA hn;have pu: -1<=n/\n<=1:=by omega
 obtain⟨am,cm,rfl,_,_,_⟩:=h.open;obtain⟨ai,ci,rfl,_,_⟩:=hI.shape;have pG:(f:Int)<m.length:=by omega
 have eG:f<m.length:=by omega
 generalize named (AG m f)=fs at*;clear h hm hI dc hn es dm;go_in;go_wp2_with (at_builtin;go_must (refine Fb (cs:=A3) rfl rfl 92 (.agg #[.int .i64 0,.string ⟨#[]⟩,.int .i64 0]) 3 32 underlying24 Tryz.zE rfl (by decide) rfl (CU A3 _ _ _) rfl (HR.out _ (AI _ _)) (FL _) (by have:=Hl.out;omega) (by decide) (by simp) ?_;intro v' w9 hO cC));have bx:=(AI w _).trans cC;obtain⟨q,cg,rfl,c1,c2,q1,q2,dq⟩:=hO.zM (by have:=Hl.out;omega);unfold maxLen at c2;have HO:=AA hO;have b9:=AA bx;obtain⟨a9,c9,e9,_,_,H9⟩:=(lm.out _ bx).open;simp only[xH] at e9;obtain⟨rfl,_,rfl⟩:=e9;obtain⟨b,bp,u,rfl,bu,h1,hR⟩:=H9 f eG;have C:=AA (CN.out u w9 hR);obtain⟨_,_,rfl,_⟩:=hR.open;have ef:¬(f:Int)<0:=by omega
 clear hO cC bx H9 hR CN dq;go_wp2_with fail;refine C.out.mono ?_;rintro e w1 ⟨v1,rfl,o1,b1⟩;obtain⟨a1,lf,rfl,kK⟩:=Ek o1;have oK:=AA (HO.out.below b1);have ot:=AA o1;have oi:=AA (b9.out.trans (b1.mono b9.out.size));clear o1 b1 C h1;go_wp2_with fail;go_loopw [11] (λR wr=>∃k:Nat,k<=fs.length/\R=.int .i64 k/\AQ w.heap.size 92 3 A3 wr (.slice (some ⟨q,0,none⟩) xs.length cg) (Bn xs (fs.take k) n)/\AF w9.heap.size wr (.slice a1 fs.length lf) (Az fs)/\Below w.heap.size w wr) (λR _=>fs.length - (intOf R).toNat)
 exact⟨0,yg _,rfl,by simpa[Bn] using oK.out,ot.out,oi.out⟩
 obtain⟨k,V,rfl,hO,o1,J⟩:=hrel
 by_cases bk:k<fs.length
 .have bD:(k:Int)<(fs.length:Int):=by omega
  obtain⟨a2,pZ,e2,_,_,H1⟩:=(AF.rd o1).open;simp only[xH] at e2;obtain⟨rfl,e2,rfl⟩:=e2;clear e2;obtain⟨b1,eT,rfl,h1⟩:=H1.at (k:=k) (by rw[Ce];exact bk);rw[PW] at h1;have kt:=(yk o1 b1 rfl).2;have O:=oY.out _ (yh (GK bk));have RN:=Wl (zZ:=xs) (n:=n) bk;obtain⟨r1,r2,_⟩:=Lo ow.out (fs:=fs.take k) (by rw[xT];omega) Hn.out O;have jv:(Bn xs (fs.take k) n).length=xs.length:=OS;rw[<-jv] at hO;generalize Bn xs (fs.take k) n=X at*;generalize IM fs k=o at*;have ko:o<X.length:=by rw[jv,Hl.out];exact O
  have lS:(o:Int)<xs.length:=by rw[Hl.out];omega
  have nk:¬(o:Int)<0:=by omega
  obtain⟨_,_,d2⟩:=AQ.zP hO ko;have hq:=(yk hO q rfl).2;have jV:=AA hO;have oo:=AA (Cq ko);have ov:=AA jv;have lq:=AA o1;have hj:=AA RN;have Z:=AA J;clear RN hO o1 J H1 jv ko;go_wp2_with fail;refine Aa 17 44 [.s q xs.length cg,.v (.slice (some ⟨b1,eT,none⟩) fs.length lf),.i ((k:Int)),.p b1 (eT+k),.i ((o:Int)),.s q xs.length cg,.v (.slice (some ⟨b1,eT,none⟩) fs.length lf),.i ((k:Int)),.p b1 (eT+k),.i ((o:Int)),.p q (o*3),.p q (o*3+2),.i ((zS X o).r),.i n,.i ((zS X o).r+n),.p q (o*3),.p q (o*3+2)] (λ_ _ _=>True) ?_ ?_
  .intro i hi o O a H Z A Y hW z
   have bs:=bc Y kt h1;have br:=bc Y hq d2
   match i,hi with
   |0,_|1,_|2,_|5,_|6,_|7,_|11,_|13,_|16,_=>exact sP O z Z A
   |3,_|8,_|10,_|15,_=>exact sI O z Z A (hr:=by clear A Z z;go_simp)
   |4,_|9,_|12,_=>exact sL O z Z A (hl:=FT ‹_›)
   |14,_=>clear bs br;obtain rfl:=yF O;have mq:(a.tmps[38]?.getD undef)=.int .i64 ((zS X o).r):=Ba A 12;have hA:(a.tmps[39]?.getD undef)=.int .i64 n:=Ba A 13;clear A Z;refine yE ?_;go_simp;exact z.out _ _ (by show xY .i64 (IntKind.i64.wrap _)=_;rw[IntWalk.i64_in _ (by omega)]) (yD _ _)
   |_+17,hq=>omega
  .intro L H hR Y
   have h9:(L 14)=.int .i64 ((zS X o).r+n):=BS hR 14;have eS:(L 16)=.pointer (some ⟨q,o*3+2,none⟩):=BS hR 16;clear hR;simp only[Ak,Ah,yC,yy,yz,yx,h9,eS];simp;clear h9 eS;have jN:=AA (AQ.zx A0 (jV.out.below Y) oo.out (j:=2) (by decide) (y:=Jk n (zS X o)) (u:=.int .i64 ((zS X o).r+n)) rfl);have jB:=AA (Z.out.trans (Y.mono Z.out.size));have Fw:H.frozen? ⟨q,o*3+2,none⟩=false:=xJ (jV.out.below Y) (o*3+2);obtain⟨fu,ei⟩:=A6 (jV.out.below Y) q rfl;have N2:=AA (FE (lq.out.below Y) jN.out.2 ei);have gW:q<H.heap.size:=(yk (jV.out.below Y) q rfl).2;rw[ov.out] at jN;have pX:=(Y.cell (p:=⟨q,o*3+2,none⟩) hq).trans d2;clear Y ei d2 h1;go_wp2_with fail;go_roundw;exact⟨k+1,by omega,by go_num,by rw[hj.out];exact jN.out.1,N2.out,AM jB.out jN.out.2 q1 jB.out.size⟩;simp[intOf];omega
 .obtain rfl:k=fs.length:=by omega
  rw[xo] at hO;go_wp2_with fail;go_ret;exact⟨_,rfl,hO,J⟩
theorem QA{xs:List AV}{f:Nat}{kind:Int}(h:BP xs=true)(hf:f<12)(l0:(zS xs f).k≠0)(V:1<=kind/\kind<=3):BP (At xs f (Ef kind))=true:=by
 obtain⟨hl,N⟩:=A1.1 h;refine A1.2 ⟨by rw[DF];exact hl,λg hg=>?_⟩;rw[Fi]
 split
 .have:=N f hf
  rw[Ms l0] at this;rw[Ms (x:=Ef kind _) (by show kind≠0;omega)]
  show(BZ kind 1 3&&BV (zS xs f).g&&BZ (zS xs f).r 0 50)=true
  simp only[yu] at this ⊢;exact⟨⟨AZ.2 V,this.1.2⟩,this.2⟩
 .exact N g hg
theorem Rr(v iv rv:Value)(m:List (List Int))(xs:List AV)(f:Nat)(kind:Int)(ss:List ByteArray)(w:World)(h:Bk w v m)(bN:Bu m=true)(hI:Bb w iv xs)(dc:BP xs=true)(hf:f<12)(V:Bh kind=true)(hv:BY w rv ss)(kg:Db ss)(hr:BW ss=true):
 Calls prog 261 #[v,iv,.int .i64 f,.int .i64 kind,rv] w (Vs (IF m xs f kind ss) w):=by
 have hl:=(A1.1 dc).1;have kw:2<=kind/\kind<=3:=by simp only[Bh,xE,decide_eq_true_eq] at V;omega
 have eM:=(IC ((A1.1 dc).2 f hf)).2.1;have C1:=AA (λW (K:Below w.heap.size w W)=>Ol v iv m xs f W (h.below K) bN (BK.below hI K) dc hf);have C3:=AA (λW (_:Below w.heap.size w W)=>BJ (by have:=Fj kind W;rw[V] at this;exact this));have C4:=AA (λW (K:Below w.heap.size w W)=>by have:=GV rv ss W (BK.below hv K) kg;rw[hr] at this;exact this);have C7:=AA (λW (K:Below w.heap.size w W)=>Sf v iv rv m xs f kind ss W (h.below K) bN (BK.below hI K) hl (Cg dc) hf V (BK.below hv K) kg);have HR:=AA (λW (K:Below w.heap.size w W)=>BK.below hI K);have SM:=AA (TD (kind:=kind) bN dc hf (.inl (rfl:(1:Int)=1)));have PN:=AA (bv (m:=m) (zZ:=xs) (f:=f) (kind:=kind) (ss:=ss));have cP:=AA (λ(g5:(zS xs f).k=1) W (K:Below w.heap.size w W) u (hu:Bb W u (At xs f (Ef kind)))=>QD v u m (At xs f (Ef kind)) f 1 W (h.below K) bN hu (QA dc hf (by omega) (by omega)) hf (.inl rfl));obtain⟨ai,ci,rfl,kH,gD,H2⟩:=BK.open A0 (by decide) hI;obtain⟨bi,av,rfl,ck,D0,_,D2⟩:=H2.zP (show f<xs.length by omega);obtain⟨_,_,rfl,_⟩:=h.open;obtain⟨_,_,rfl,_⟩:=hv.shape;have eG:(f:Int)<xs.length:=by omega
 have Hl:=AA hl;have J:=yD w.heap.size w;clear h bN hI dc V hv kg hr hl H2;go_in;go_wp2_with fail;refine(C1.out _ J).mono ?_;rintro e w_ ⟨rfl,eu⟩;replace J:=J.trans (eu.mono J.size);clear eu;go_wp2_with fail;refine(C3.out _ J).mono ?_;rintro e w_ ⟨rfl,eu⟩;replace J:=J.trans (eu.mono J.size);clear eu;go_wp2_with fail;refine(C4.out _ J).mono ?_;rintro e w4 ⟨rfl,n4,rfl⟩;replace J:=J.trans (Av (yD _ _) n4|>.mono J.size);have Z:=AA J
 by_cases e1:(zS xs f).k=1
 .by_cases e2:(zS xs f).r=0
  .have t1:((zS xs f).k !=1)=false:=by simp[e1]
   have t2:¬0<(zS xs f).r:=by omega
   have P:=AA (show IF m xs f kind ss=if JN m xs f kind ss=false then(xs,2)
    else if BP (At (Bn xs (named (AG m f)) 1) f (Ef kind)) then(At (Bn xs (named (AG m f)) 1) f (Ef kind),0) else(xs,1) by rw[PN.out,if_neg (by simp[e1,e2])])
   have gT:=AA (cP.out e1);clear e1 e2 cP PN eM;go_wp2_with (at_builtin;go_must (refine Fb (cs:=A3) rfl rfl 92 (.agg #[.int .i64 0,.string ⟨#[]⟩,.int .i64 0]) 3 32 underlying24 Tryz.zE rfl (by decide) rfl (CU A3 _ _ _) rfl (HR.out _ (Z.out.trans ((AI _ _).mono Z.out.size))) (FL _) (by have:=Hl.out;omega) (by decide) (by simp) ?_;intro v' w9 hO cC;have dz:=AA ((Z.out.trans ((AI _ _).mono Z.out.size)).trans (cC.mono Z.out.size));replace D0:=(dz.out.cell (p:=⟨bi,av+f*3,none⟩) ck).trans D0;replace D2:=(dz.out.cell (p:=⟨bi,av+f*3+2,none⟩) ck).trans D2;clear cC));refine(C7.out _ dz.out).mono ?_;rintro e gU ⟨rfl,lg⟩;replace hO:=AQ.below hO lg;have eK:=AA (dz.out.trans (lg.mono dz.out.size));clear lg D0 D2;cases hg:JN m xs f kind ss
   .have P2:=AA (show IF m xs f kind ss=(xs,2) by rw[P.out,hg];rfl)
    clear hg;have HO:=AA hO;clear hO;go_wp2_with fail;go_ret2;exact⟨_,by rw[P2.out];rfl,by rw[P2.out];exact HO.out.lower Z.out.size,eK.out⟩
   .have P2:=AA (show IF m xs f kind ss=if BP (At (Bn xs (named (AG m f)) 1) f (Ef kind)) then(At (Bn xs (named (AG m f)) 1) f (Ef kind),0) else(xs,1) by rw[P.out,hg];rfl)
    clear hg;obtain⟨q,cg,rfl,c1,c2,q1,q2,dq⟩:=hO.zM (by have:=Hl.out;omega);unfold maxLen at c2;obtain⟨d0,_,_⟩:=AQ.zP hO (show f<xs.length by have:=Hl.out;omega);have Fr:=dq (f*3);have S0:=AQ.zx A0 hO (Cq (show f<xs.length by have:=Hl.out;omega)) (j:=0) (by decide) (y:=Ef kind (zS xs f)) (u:=.int .i64 kind) rfl;rw[xK] at S0;have c8:=AM eK.out S0.2 (yB Z.out.size q1) eK.out.size;rw[<-Kw (f:=Ef kind)] at S0;have S:=AA (AQ.lower S0.1 Z.out.size);have ef:¬(f:Int)<0:=by omega
    clear S0 hO dq;go_wp2_with fail;generalize hwN:gU.setCell _ _=wN at*;clear d0 Fr hwN q2;have kR:(At xs f (Ef kind)).length=xs.length:=DF;have CA:=gT.out wN c8 (.slice (some ⟨q,0,none⟩) xs.length cg) (AQ.rd S.out);clear kR;refine CA.mono ?_;rintro e j1 ⟨j2,rfl,fG,iU⟩;rw[<-Os] at fG;have dw:=c8.trans (iU.mono c8.size);have lj:=AA (AQ.lower fG c8.size);have fM:=AQ.rd fG;clear fG iU S;generalize hM:At (Bn xs (named (AG m f)) 1) f (Ef kind)=M at*;have C9:=DZ j2 M j1 fM SM.out;obtain⟨od,oc,rfl,_,_⟩:=fM.shape;cases hq:BP M
    .have P3:=AA (show IF m xs f kind ss=(xs,1) by rw[P2.out,hq];rfl)
     rw[hq] at C9;have C:=AA C9;have dl:=AA dw;clear C9 hq fM dw c8;go_wp2_with fail;refine(C.out).mono ?_;rintro e j0 ⟨rfl,eJ⟩;have dv:=dl.out.trans (eJ.mono dl.out.size);have da:=AA dv;clear eJ dv c1 c2;go_wp2_with (at_builtin;go_must (refine Fb (cs:=A3) rfl rfl 92 (.agg #[.int .i64 0,.string ⟨#[]⟩,.int .i64 0]) 3 32 underlying24 Tryz.zE rfl (by decide) rfl (CU A3 _ _ _) rfl (HR.out _ (da.out.trans ((AI _ _).mono da.out.size))) (FL _) (by have:=Hl.out;omega) (by decide) (by simp) ?_;intro v' w9 hO cC));have fm:=(da.out.trans ((AI _ _).mono da.out.size)).trans (cC.mono da.out.size);have HO:=AA (hO.lower da.out.size);have gQ:=AA fm;clear hO cC fm;go_wp2_with fail;go_ret2;exact⟨_,by rw[P3.out];rfl,by rw[P3.out];exact HO.out,gQ.out⟩
    .have P3:=AA (show IF m xs f kind ss=(M,0) by rw[P2.out,hq];rfl)
     rw[hq] at C9;have C:=AA C9;have dl:=AA dw;clear C9 hq fM dw c8;go_wp2_with (refine(C.out).mono ?_;rintro e j0 ⟨rfl,eJ⟩;have dv:=dl.out.trans (eJ.mono dl.out.size);have li:=AA (lj.out.below eJ);clear eJ c1 c2);go_ret2;exact⟨_,by rw[P3.out];rfl,by rw[P3.out];exact li.out,dv⟩
  .have t1:((zS xs f).k !=1)=false:=by simp[e1]
   have t2:0<(zS xs f).r:=by omega
   have P2:=AA (show IF m xs f kind ss=(xs,1) by rw[PN.out,if_pos (.inr e2)]);clear e1 e2 cP PN eM;go_wp2_with (at_builtin;go_must (refine Fb (cs:=A3) rfl rfl 92 (.agg #[.int .i64 0,.string ⟨#[]⟩,.int .i64 0]) 3 32 underlying24 Tryz.zE rfl (by decide) rfl (CU A3 _ _ _) rfl (HR.out _ (Z.out.trans ((AI _ _).mono Z.out.size))) (FL _) (by have:=Hl.out;omega) (by decide) (by simp) ?_;intro v' w9 hO cC;have dz:=AA ((Z.out.trans ((AI _ _).mono Z.out.size)).trans (cC.mono Z.out.size));replace D0:=(dz.out.cell (p:=⟨bi,av+f*3,none⟩) ck).trans D0;replace D2:=(dz.out.cell (p:=⟨bi,av+f*3+2,none⟩) ck).trans D2;clear cC));go_ret2;exact⟨_,by rw[P2.out];rfl,by rw[P2.out];exact hO.lower Z.out.size,dz.out⟩
 .have t1:((zS xs f).k !=1)=true:=by simp[e1]
  have P2:=AA (show IF m xs f kind ss=(xs,1) by rw[PN.out,if_pos (.inl e1)]);clear e1 cP PN eM;go_wp2_with (at_builtin;go_must (refine Fb (cs:=A3) rfl rfl 92 (.agg #[.int .i64 0,.string ⟨#[]⟩,.int .i64 0]) 3 32 underlying24 Tryz.zE rfl (by decide) rfl (CU A3 _ _ _) rfl (HR.out _ (Z.out.trans ((AI _ _).mono Z.out.size))) (FL _) (by have:=Hl.out;omega) (by decide) (by simp) ?_;intro v' w9 hO cC;have dz:=AA ((Z.out.trans ((AI _ _).mono Z.out.size)).trans (cC.mono Z.out.size));replace D0:=(dz.out.cell (p:=⟨bi,av+f*3,none⟩) ck).trans D0;clear cC));go_ret2;exact⟨_,by rw[P2.out];rfl,by rw[P2.out];exact hO.lower Z.out.size,dz.out⟩
theorem PM(v iv:Value)(m:List (List Int))(xs:List AV)(f:Nat)(w:World)(h:Bk w v m)(bN:Bu m=true)(hI:Bb w iv xs)(dc:BP xs=true)(hf:f<12):
 Calls prog 262 #[v,iv,.int .i64 f] w (Vs (Dz m xs f) w):=by
 have hl:=(A1.1 dc).1;have eM:=(IC ((A1.1 dc).2 f hf)).2.1;have C1:=AA (λW (K:Below w.heap.size w W)=>Ol v iv m xs f W (h.below K) bN (BK.below hI K) dc hf);have HR:=AA (λW (K:Below w.heap.size w W)=>BK.below hI K);have SM:=AA (TD (kind:=1) bN dc hf (.inr (rfl:(-1:Int)= -1)));have PN:=AA (Zv (m:=m) (zZ:=xs) (f:=f));have cP:=AA (λ(g5:Bh (zS xs f).k=true) W (K:Below w.heap.size w W) u (hu:Bb W u (At xs f (Ef 1)))=>QD v u m (At xs f (Ef 1)) f (-1) W (h.below K) bN hu (QA dc hf (by intro e;rw[e] at g5;cases g5) (by omega)) hf (.inr rfl));obtain⟨ai,ci,rfl,kH,gD,H2⟩:=BK.open A0 (by decide) hI;obtain⟨bi,av,rfl,ck,D0,_,D2⟩:=H2.zP (show f<xs.length by omega);obtain⟨_,_,rfl,_⟩:=h.open;have eG:(f:Int)<xs.length:=by omega
 have Hl:=AA hl;have J:=yD w.heap.size w;have CK:=AA (λW=>Fj (zS xs f).k W);clear h bN hI dc hl H2;go_in;go_wp2_with fail;refine(C1.out _ J).mono ?_;rintro e w_ ⟨rfl,eu⟩;replace J:=J.trans (eu.mono J.size);clear eu;have Z:=AA J;clear J;go_wp2_with (at_builtin;go_must (refine Fb (cs:=A3) rfl rfl 92 (.agg #[.int .i64 0,.string ⟨#[]⟩,.int .i64 0]) 3 32 underlying24 Tryz.zE rfl (by decide) rfl (CU A3 _ _ _) rfl (HR.out _ (Z.out.trans ((AI _ _).mono Z.out.size))) (FL _) (by have:=Hl.out;omega) (by decide) (by simp) ?_;intro v' w9 hO cC;have dz:=AA ((Z.out.trans ((AI _ _).mono Z.out.size)).trans (cC.mono Z.out.size));replace D0:=(dz.out.cell (p:=⟨bi,av+f*3,none⟩) ck).trans D0;replace D2:=(dz.out.cell (p:=⟨bi,av+f*3+2,none⟩) ck).trans D2;clear cC));have eK:=dz;refine(CK.out _).mono ?_;rintro e gU ⟨rfl,rfl⟩;cases e1:Bh (zS xs f).k
 .have P2:=AA (show Dz m xs f=(xs,1) by rw[PN.out,if_pos (.inl e1)])
  clear e1 cP PN eM;have HO:=AA hO;clear hO;go_wp2_with fail;go_ret2;exact⟨_,by rw[P2.out];rfl,by rw[P2.out];exact HO.out.lower Z.out.size,dz.out⟩
 .by_cases e2:(zS xs f).r=0
  .have t2:¬0<(zS xs f).r:=by omega
   have P2:=AA (show Dz m xs f=if BP (At (Bn xs (named (AG m f)) (-1)) f (Ef 1)) then(At (Bn xs (named (AG m f)) (-1)) f (Ef 1),0) else(xs,2) by rw[PN.out,if_neg (by simp[e1,e2])]);have gT:=AA (cP.out e1);clear e1 e2 cP PN eM;obtain⟨gU,rfl⟩:∃gU:World,gU=w9:=⟨_,rfl⟩
   obtain⟨q,cg,rfl,c1,c2,q1,q2,dq⟩:=hO.zM (by have:=Hl.out;omega);unfold maxLen at c2;obtain⟨d0,_,_⟩:=AQ.zP hO (show f<xs.length by have:=Hl.out;omega);have Fr:=dq (f*3);have S0:=AQ.zx A0 hO (Cq (show f<xs.length by have:=Hl.out;omega)) (j:=0) (by decide) (y:=Ef 1 (zS xs f)) (u:=.int .i64 1) rfl;rw[xK] at S0;have c8:=AM eK.out S0.2 (yB Z.out.size q1) eK.out.size;rw[<-Kw (f:=Ef 1)] at S0;have S:=AA (AQ.lower S0.1 Z.out.size);have ef:¬(f:Int)<0:=by omega
   clear S0 hO dq;go_wp2_with fail;generalize hwN:gU.setCell _ _=wN at*;clear d0 Fr hwN q2;have kR:(At xs f (Ef 1)).length=xs.length:=DF;have CA:=gT.out wN c8 (.slice (some ⟨q,0,none⟩) xs.length cg) (AQ.rd S.out);clear kR;refine CA.mono ?_;rintro e j1 ⟨j2,rfl,fG,iU⟩;rw[<-Os] at fG;have dw:=c8.trans (iU.mono c8.size);have lj:=AA (AQ.lower fG c8.size);have fM:=AQ.rd fG;clear fG iU S;generalize hM:At (Bn xs (named (AG m f)) (-1)) f (Ef 1)=M at*;have C9:=DZ j2 M j1 fM SM.out;obtain⟨od,oc,rfl,_,_⟩:=fM.shape;cases hq:BP M
   .have P3:=AA (show Dz m xs f=(xs,2) by rw[P2.out,hq];rfl)
    rw[hq] at C9;have C:=AA C9;have dl:=AA dw;clear C9 hq fM dw c8;go_wp2_with fail;refine(C.out).mono ?_;rintro e j0 ⟨rfl,eJ⟩;have dv:=dl.out.trans (eJ.mono dl.out.size);have da:=AA dv;clear eJ dv c1 c2;go_wp2_with (at_builtin;go_must (refine Fb (cs:=A3) rfl rfl 92 (.agg #[.int .i64 0,.string ⟨#[]⟩,.int .i64 0]) 3 32 underlying24 Tryz.zE rfl (by decide) rfl (CU A3 _ _ _) rfl (HR.out _ (da.out.trans ((AI _ _).mono da.out.size))) (FL _) (by have:=Hl.out;omega) (by decide) (by simp) ?_;intro v' w9 hO cC));have fm:=(da.out.trans ((AI _ _).mono da.out.size)).trans (cC.mono da.out.size);have HO:=AA (hO.lower da.out.size);have gQ:=AA fm;clear hO cC fm;go_wp2_with fail;go_ret2;exact⟨_,by rw[P3.out];rfl,by rw[P3.out];exact HO.out,gQ.out⟩
   .have P3:=AA (show Dz m xs f=(M,0) by rw[P2.out,hq];rfl)
    rw[hq] at C9;have C:=AA C9;have dl:=AA dw;clear C9 hq fM dw c8;go_wp2_with (refine(C.out).mono ?_;rintro e j0 ⟨rfl,eJ⟩;have dv:=dl.out.trans (eJ.mono dl.out.size);have li:=AA (lj.out.below eJ);clear eJ c1 c2);go_ret2;exact⟨_,by rw[P3.out];rfl,by rw[P3.out];exact li.out,dv⟩
  .have t2:0<(zS xs f).r:=by omega
   have P2:=AA (show Dz m xs f=(xs,1) by rw[PN.out,if_pos (.inr e2)]);clear e1 e2 cP PN eM;have HO:=AA hO;clear hO;go_wp2_with fail;go_ret2;exact⟨_,by rw[P2.out];rfl,by rw[P2.out];exact HO.out.lower Z.out.size,dz.out⟩
theorem IV{k:AO}(h:DQ k){j:Nat}(E:j<3):Db (AJ k.zX j).zT:=Gc (h.zT j E)
theorem Jr(m i e c:Value)(k:AO)(en:Nat)(g:ByteArray)(w:World)(h:F7 w e k.zX)(V:DQ k)(eh:en<3)(hg:g.size<=maxLen):
 Calls prog 216 #[.agg #[m,i,e,c],.int .i64 en,.string g] w λr w'=>r=.returned (.bool (By (AJ k.zX en).zT g))/\Below w.heap.size w w':=by
 obtain⟨N0,bq⟩:=Dd w (.cells #[m,i,e,c] 28);obtain⟨a,cp,rfl,hc,cb,wx⟩:=(h.below bq).open;obtain⟨b,bp,ua,uc,rfl,bu,D0,_,hR⟩:=wx en (by rw[V.zN];exact eh);have C:=AA (Kr _ _ g _ hR (IV V eh) hg);have pH:(en:Int)<k.zX.length:=by rw[V.zN];omega
 obtain⟨_,_,x2,_⟩:=AE N0;have ef:¬(en:Int)<0:=by omega
 clear h V wx hR N0;go_in;go_wp2_with fail;generalize w.alloc _=W0 at*;refine C.out.mono ?_;rintro e w1 ⟨rfl,b1⟩;go_wp2_with fail;go_ret;exact⟨rfl,bq.trans (b1.mono bq.size)⟩
theorem Rc(m i e c:Value)(k:AO)(x:Int)(w:World)(h:Bk w m k.mem)(hi:Bb w i k.zZ)(hm:Bu k.mem=true)(hl:k.zZ.length=12)(hx:x<=9223372036854775807):
 Calls prog 223 #[.agg #[m,i,e,c],.int .i64 x] w λr w'=>∃v',r=.returned v'/\AF w.heap.size w' v' (Az (Km k x))/\Below w.heap.size w w':=by
 obtain⟨N0,bq⟩:=Dd w (.cells #[m,i,e,c] 28);obtain⟨x0,x1,_,_⟩:=AE N0;have du:=AW N0;cases hg:Bm x
 .have hk:=AA (Eu hg)
  have hj:Km k x=[]:=by unfold Km;rw[hg];rfl
  rw[hj];have o1:=FF (w.alloc (.cells #[m,i,e,c] 28));simp only[xx] at o1;clear hg hj;go_in;go_wp2_with (go_at_call 186;refine(DB _ _ hx).mono ?_;rintro e w' ⟨rfl,rfl⟩;rw[hk.out]);go_ret;exact⟨_,rfl,Mr o1 (wu _),bq.alloc bq.size _⟩
 .have hk:=AA (Ej hg)
  have hF:=Ec hg;have BE:Km k x=BC x::(if(zS k.zZ (BC x)).k=2 then named (AG k.mem (BC x)) else[]):=by unfold Km;rw[hg,if_pos rfl]
  rw[BE];generalize BC x=o at*;obtain⟨ai,ci,rfl,_,_,HI⟩:=BK.open A0 (by decide) (BK.below hi bq);obtain⟨bi,av,rfl,ck,D0,_,_⟩:=HI.zP (show o<k.zZ.length by omega);have lS:(o:Int)<k.zZ.length:=by omega
  have nk:¬(o:Int)<0:=by omega
  have o1:=XR (w.alloc (.cells #[m,.slice (some ⟨bi,av,none⟩) k.zZ.length ci,e,c] 28)) o;clear hg BE HI hi
  by_cases N:(zS k.zZ o).k=2
  .have t2:((zS k.zZ o).k !=2)=false:=by simp[N]
   rw[if_pos N];have dm:=(Ai.1 hm).1;obtain⟨am,cm,rfl,_,_,HM⟩:=(h.below bq).open;obtain⟨bm,ig,u,rfl,kM,DM,hR⟩:=HM o (by omega);have pq:(o:Int)<k.mem.length:=by omega
   have es:=(A4.1 ((Ai.1 hm).2 o hF)).1;have CN:=AA (λW (K:Below _ _ W)=>It u (AG k.mem o) W (Ax.below hR K) (by omega) (Ly hm hF));have dZ:=QN hm hF;obtain⟨_,_,rfl,_⟩:=hR.open;generalize named (AG k.mem o)=ns at*;simp only[xx] at o1;have kL:=kM;simp only[xx] at kL;clear N h hm hl HM hR dm es N0;go_in;go_wp2_with (go_at_call 186;refine(DB _ _ hx).mono ?_;rintro e w' ⟨rfl,rfl⟩;rw[hk.out]);generalize w.alloc _=W0 at*;have C:=AA (CN.out _ (AI W0 (.cells #[.int .i64 o] 3)));refine C.out.mono ?_;rintro r w1 ⟨v1,rfl,n1,b1⟩;have O1:=AA (AF.below o1 b1);have eH:=(AI W0 (.cells #[.int .i64 o] 3)).trans (b1.mono (AI W0 (.cells #[.int .i64 o] 3)).size);have pm:=eH.size;have bx:=bq.trans (eH.mono bq.size);have hQ:=AA (AF.rd n1);have b9:=AA bx;obtain⟨az,cz,rfl,md⟩:=Ek n1;clear o1 n1 b1 bx eH CN C x0 x1 D0 DM;go_wp2_with (at_builtin;go_must (refine Bg (lo:=w.heap.size+1) (n:=1) (xs:=(Az [o]).map (xY .i64)) (m:=ns.length) (news:=(Az ns).map (xY .i64)) rfl rfl 3 (.int .i64 0) 1 8 underlying29 Tryz.zI rfl (by decide) rfl (Ky O1.out (yD _ _)) rfl (by have:=hQ.out;unfold Ax at this;rw[Ce] at this;exact this) (Ll _) (by unfold maxLen;omega) (by omega) (by omega) ?_;intro o' w9 k1 k2 k3 k4));go_ret;exact⟨_,rfl,Mr (Iw (ys:=[o]) (zs:=ns) k1) (wu _),b9.out.trans (k4.mono (wu _))⟩
  .have t2:((zS k.zZ o).k !=2)=true:=by simp[N]
   rw[if_neg N];simp only[xx] at o1;obtain⟨_,_,rfl,_⟩:=h.open;clear N h hm hl N0;go_in;go_wp2_with (go_at_call 186;refine(DB _ _ hx).mono ?_;rintro e w' ⟨rfl,rfl⟩;rw[hk.out]);go_ret;exact⟨_,rfl,Mr o1 (wu _),bq.alloc bq.size _⟩
theorem No{lo:Nat}{w:World}{ops:Array Oper}{rest:List Oper}{o:Oper}{a:Act}{Q:Exit->Act->World->Prop}{s x:Operand}{t:TypeId}
 (kB:o.guard=none)(O:o.op=.call {callee:=.builtin .append,args:= #[s,x],argTypes:= #[t,t]})
 (ht:prog.underlying t=some (.slice 3)){v u:Value}{xs:List Int}(hs:a.eval s=v)(ad:AF lo w v [])
 (hx:a.eval x=u)(hr:Ax w u xs)(nX:xs.length<=1048576)(cu:lo<=w.heap.size)
 (hK:∀v' w',AF lo w' v' xs->Below lo w w'->wpList prog ops Q rest (a.put o.dst v') w'):wpList prog ops Q (o::rest) a w:=by
 refine Bg (n:=0) (xs:=[]) (m:=xs.length) (news:=xs.map (xY .i64)) kB O 3 (.int .i64 0) 1 8 ht Tryz.zI rfl (by decide) hs ad hx hr (Ll _) ?_ ?_ cu λv' w' k1 _ _ k4=>hK v' w' ?_ k4
 .unfold maxLen;omega
 .omega
 .unfold AF
  rw[vt] at k1;exact k1
theorem Mo(v:Value)(m:List (List Int))(w:World)(h:Bk w v m)(hl:m.length<=100)(hr:∀f,f<m.length->(AG m f).length<=100):
 Calls prog 94 #[v] w λe w'=>∃v' L,e=.returned v'/\Au w.heap.size w' v' L m/\Below w.heap.size w w':=by
 obtain⟨a,c,rfl,hc,cb,wx⟩:=h.open;unfold maxLen at cb;have HH:=AA wx;have HR:=AA hr;clear h wx hr;go_in;go_wp2_with fail;go_loopw [3,4] (λo i wr=>∃k:Nat,∃L:List Value,k<=m.length/\L.length=k/\i=.int .i64 k/\Au w.heap.size wr o L (m.take k)/\Below w.heap.size w wr) (λ_ i _=>m.length - (intOf i).toNat)
 exact⟨0,[],by omega,rfl,rfl,⟨Cu _ _ _,Fq.nil,DP.nil⟩,AI _ _⟩
 obtain⟨k,L,V,eF,rfl,hO,bf⟩:=hrel;have Hl:=AA eF;clear eF
 by_cases bk:k<m.length
 .have bD:(k:Int)<(m.length:Int):=by omega
  have nd:L.length<=100:=by rw[Hl.out];omega
  have es:=HR.out k bk;have TK:=AA (DA (KD bk));obtain⟨b,bp,u,rfl,bu,h1,hR⟩:=(HH.out.below bf) k bk;generalize AG m k=r at*;have nU:=AA (Ax.below hR (AI wr (.cells #[] 3)));obtain⟨_,_,rfl,_⟩:=hR.open;have HO:=AA hO;have dx:=AA bf;obtain⟨_,_,rfl,_⟩:=hO.1.rd.shape;clear hR hO bf;go_wp2_with (first|(at_builtin;refine No rfl rfl underlying29 rfl (FF wr) rfl nU.out (by omega) (AI wr (.cells #[] 3)).size ?_;intro u' w2 hu bl;have ey:=AA ((AI wr (.cells #[] 3)).trans bl);have Hu:=AA hu;obtain⟨ua,uc,rfl,_⟩:=(AF.rd hu).open;clear hu bl)|(at_builtin;go_must (refine Bg (lo:=w.heap.size) (n:=L.length) (xs:=Cc GO L) (m:=1) rfl rfl 29 (.slice none 0 0) 1 24 underlying23 Tryz.yX rfl (by decide) rfl ((HO.out.below ey.out).below (AI _ _)).1 rfl (Rd.zC _ #[_] _ 1 1 _ (by simp) rfl (by simp[maxLen])) (by simp[xG]) (by unfold maxLen;omega) (by omega) (by have D:=dx.out.size;have N:=ey.out.size;simp;omega) ?_;intro o' w3 g1 g2 g3 g4)));go_roundw
  case rel=>have bl:=ey.out.trans ((AI w2 (.cells #[.slice ua r.length uc] 29)).mono ey.out.size);have hP:=HO.out.push bl dx.out.size (Hu.out.below (AI _ _)) g1 g2;exact⟨k+1,L++[.slice ua r.length uc],by omega,by rw[yj,Hl.out];rfl,by go_num,by rw[TK.out];exact hP,(dx.out.trans (bl.mono dx.out.size)).trans g4⟩
  case measure=>simp[intOf];omega
 .obtain rfl:k=m.length:=by omega
  rw[xo] at hO;go_wp2_with fail;go_ret;exact⟨_,L,rfl,hO,bf⟩
theorem WV(w:World):Calls prog 189 #[] w λe w'=>∃v L,e=.returned v/\Au w.heap.size w' v L (xR 16 [])/\Below w.heap.size w w':=by
 go_in;go_wp2_with fail;go_loopw [1,2] (λo i wr=>∃k:Nat,∃L:List Value,k<=16/\L.length=k/\i=.int .i64 k/\Au w.heap.size wr o L (xR k [])/\Below w.heap.size w wr) (λ_ i _=>16 - (intOf i).toNat)
 exact⟨0,[],by omega,rfl,rfl,⟨Cu _ _ _,Fq.nil,DP.nil⟩,AI _ _⟩
 obtain⟨k,L,V,eF,rfl,hO,bf⟩:=hrel;have Hl:=AA eF;clear eF
 by_cases bk:k<16
 .have nd:L.length<=16:=by rw[Hl.out];omega
  have bl:=(AI wr (.cells #[] 3));have HO:=AA hO;have dx:=AA bf;obtain⟨_,_,rfl,_⟩:=hO.1.rd.shape;clear hO bf;go_wp2_with (at_builtin;go_must (refine Bg (lo:=w.heap.size) (n:=L.length) (xs:=Cc GO L) (m:=1) (news:=[.slice (some ⟨wr.heap.size,0,none⟩) 0 0]) rfl rfl 29 (.slice none 0 0) 1 24 underlying23 Tryz.yX rfl (by decide) rfl ((HO.out.below bl).below (AI _ _)).1 rfl (Rd.zC _ #[_] _ 1 1 _ (by simp) rfl (by simp[maxLen])) (by simp[xG]) (by unfold maxLen;omega) (by omega) (by have D:=dx.out.size;have N:=bl.size;simp;omega) ?_;intro o' w3 g1 g2 g3 g4));go_roundw
  case rel=>have eI:=bl.trans ((AI (wr.alloc (.cells #[] 3)) (.cells #[.slice (some ⟨wr.heap.size,0,none⟩) 0 0] 29)).mono bl.size);have hu:AF wr.heap.size (wr.alloc (.cells #[] 3)) (.slice (some ⟨wr.heap.size,0,none⟩) 0 0) []:=FF wr;have hP:=HO.out.push eI dx.out.size (hu.below (AI _ _)) g1 g2;exact⟨k+1,L++[.slice (some ⟨wr.heap.size,0,none⟩) 0 0],by omega,by rw[yj,Hl.out];rfl,by go_num,by rw[List.replicate_succ'];exact hP,(dx.out.trans (eI.mono dx.out.size)).trans g4⟩
  case measure=>simp[intOf];omega
 .obtain rfl:k=16:=by omega
  go_wp2_with fail;go_ret;exact⟨_,L,rfl,hO,bf⟩
theorem XV{w:World}{g:Nat}{a b c d:Value}(h:w.heap[g]?=some (.cells #[a,b,c,d] T (0,0))):Rd w (.slice (some ⟨g,0,none⟩) 1 1) 4 1 [a,b,c,d]:=by
 obtain⟨h0,D,N,h3⟩:=AE h;refine⟨_,_,rfl,yv _,by simp[maxLen],rfl,nofun,λ_=>⟨g,0,rfl,λj E=>?_⟩⟩;rw[vt]
 match j,E with
 |0,_=>exact h0
 |1,_=>exact D
 |2,_=>exact N
 |3,_=>exact h3
 |_+4,E=>exact absurd E (by omega)
theorem cB{w:World}{b bp c sz:Nat}{xs:List Value}(h:Rd w (.slice (some ⟨b,bp,none⟩) n c) sz n xs)(V:k<=n):Rd w (.slice (some ⟨b,bp+k*sz,none⟩) (n - k) (c - k)) sz (n - k) (xs.drop (k*sz)):=by
 obtain⟨ao,c',hv,px,cb,hl,np,hc⟩:=h;simp only[xH,true_and] at hv;obtain⟨rfl,rfl⟩:=hv;have lW:k*sz+(n - k)*sz=n*sz:=by rw[<-Nat.add_mul];congr 1;omega
 refine⟨_,_,rfl,by omega,by omega,by rw[wT];omega,(by intro e;cases e),λl0=>?_⟩;obtain⟨b',j6,e,iJ⟩:=hc (by omega);obtain⟨rfl,rfl⟩:b=b'/\bp=j6:=by simpa using e
 refine⟨_,_,rfl,λj E=>?_⟩;rw[Nat.add_assoc,iJ (k*sz+j) (by omega),List.getElem?_drop]
theorem Zi{w:World}{q:Nat}{F:List Ad}(h:BK 4 AU w (.slice (some ⟨q,0,none⟩) F.length cg) F)(D:1<=F.length):BK 4 AU w (.slice (some ⟨q,4,none⟩) (F.length - 1) (cg - 1)) (F.drop 1):=by
 have r:=cB h (k:=1) D;cases F with
 |nil=>simp at D
 |cons y F=>exact r
theorem Sh(v:Value)(c:List Ad)(x:Ad)(w:World)(h:DJ w v c)(hl:c.length<=4):
 Calls prog 227 #[v,.agg #[.int .i64 x.e,.int .i64 x.p,.int .i64 x.f,.bool x.w]] w λr w'=>∃v',r=.returned v'/\AQ w.heap.size 112 4 AU w' v' (Ga c x)/\Below w.heap.size w w':=by
 obtain⟨a,cp,rfl,hc,cb,wx⟩:=BK.open CZ (by decide) h;have nP:c.length<=1000:=by omega
 unfold maxLen at cb;have HH:=AA wx;obtain⟨N0,N1,bq,eY⟩:=Jz w (.cells #[.int .i64 x.e,.int .i64 x.p,.int .i64 x.f,.bool x.w] 112) (.cells #[] 112);have o1:AQ (w.heap.size+1) 112 4 AU ((w.alloc (.cells #[.int .i64 x.e,.int .i64 x.p,.int .i64 x.f,.bool x.w] 112)).alloc (.cells #[] 112)) (.slice (some ⟨w.heap.size+1,0,none⟩) 0 0) []:=by have:=CU AU (w.alloc (.cells #[.int .i64 x.e,.int .i64 x.p,.int .i64 x.f,.bool x.w] 112)) 112 4;simp only[xx] at this;exact this
 have oN:=AA hl;have PE:Ga c x=(if(c.filter λy=>!BB x.e x.p y).length=4 then(c.filter λy=>!BB x.e x.p y).drop 1 else c.filter λy=>!BB x.e x.p y)++[x]:=rfl;have jU:=AA PE;clear h wx hl PE eY N1;go_in;go_wp2_with fail;generalize(w.alloc _).alloc _=wa at o1 bq N0 ⊢;generalize(xi (some ⟨w.heap.size+1,0,none⟩) 0 0)=o at o1 ⊢;go_loopw [5,6] (λo R wr=>∃k:Nat,k<=c.length/\R=.int .i64 k/\AQ (w.heap.size+1) 112 4 AU wr o ((c.take k).filter λy=>!BB x.e x.p y)/\Below w.heap.size w wr/\wr.heap[w.heap.size]?=some (.cells #[.int .i64 x.e,.int .i64 x.p,.int .i64 x.f,.bool x.w] 112 (0,0))) (λ_ R _=>c.length - (intOf R).toNat)
 exact⟨0,yg _,rfl,o1,bq,N0⟩
 clear o1 bq N0;obtain⟨k,V,rfl,ad,J,hN⟩:=hrel
 by_cases bk:k<c.length
 .have bD:(k:Int)<(c.length:Int):=by omega
  obtain⟨b,bp,rfl,bu,D0,D1,D2,D3⟩:=(HH.out.below J).zL bk;have Nx:=AA (Lb (p:=λy=>!BB x.e x.p y) (FB bk));have dZ:=JI (p:=λy=>!BB x.e x.p y) (l:=c) (k:=k);generalize AT c k=y at D0 D1 D2 D3 Nx;generalize(c.take k).filter (λy=>!BB x.e x.p y)=ys at ad Nx dZ;obtain⟨x0,x1,x2,x3⟩:=AE hN;have fz:=AW hN;have bK:=AA ad;have Z:=AA J;have HN:=AA hN;obtain⟨_,_,rfl,_⟩:=ad.rd.shape;clear ad J hN
  by_cases e1:y.e=x.e
  .by_cases e2:y.p=x.p
   .skip
    have t1:(y.e !=x.e)=false:=by simp[e1]
    have t2:(y.p !=x.p)=false:=by simp[e2]
    have cF:=AA (show(c.take (k+1)).filter (λy=>!BB x.e x.p y)=ys by rw[Nx.out];simp[BB,e1,e2]);clear Nx e1 e2;go_wp2_with fail;refine Aa 17 50 [.v (.slice (some ⟨b,bp,none⟩) c.length cp),.i ((k:Int)),.p b (bp+k*4),.p b (bp+k*4),.i (y.e),.p w.heap.size 0,.i (x.e),.b false,.b false,.v (.slice (some ⟨b,bp,none⟩) c.length cp),.i ((k:Int)),.p b (bp+k*4),.p b (bp+k*4+1),.i (y.p),.p w.heap.size 1,.i (x.p),.b false] (λ_ _ _=>True) ?_ ?_
    .intro i hi o O a H Z A Y hW z
     have bs:=bc Y bu D0;have br:=bc Y fz x0;have bB:=bc Y bu D1;have cN:=bc Y fz x1
     match i,hi with
     |0,_|1,_|3,_|5,_|8,_|9,_|10,_|12,_|14,_=>exact sP O z Z A
     |2,_|11,_=>exact sI O z Z A (hr:=by clear A Z z;go_simp)
     |4,_|6,_|13,_|15,_=>exact sL O z Z A (hl:=FT ‹_›)
     |7,_=>clear bs br bB cN;obtain rfl:=yF O;have d4:(a.tmps[18]?.getD undef)=.int .i64 (y.e):=Ba A 4;have d6:(a.tmps[20]?.getD undef)=.int .i64 (x.e):=Ba A 6;clear A Z;refine yE ?_;go_simp;exact z.out _ _ rfl (yD _ _)
     |16,_=>clear bs br bB cN;obtain rfl:=yF O;have hA:(a.tmps[27]?.getD undef)=.int .i64 (y.p):=Ba A 13;have gI:(a.tmps[29]?.getD undef)=.int .i64 (x.p):=Ba A 15;have d8:(a.tmps[22]?.getD undef)=.bool false:=Ba A 8;clear A Z;refine AX.yes rfl rfl d8 ?_;go_simp;exact z.out _ _ rfl (yD _ _)
     |_+17,hq=>omega
    .intro L H hR Y
     have q8:(L 8)=.bool false:=BS hR 8;have eS:(L 16)=.bool false:=BS hR 16;clear hR;simp only[Ak,Ah,yC,yy,yz,yx,q8,eS];simp;clear q8 eS;go_wp2_with fail;go_roundw;exact⟨k+1,by omega,by go_num,by rw[cF.out];exact AQ.below bK.out Y,Z.out.trans (Y.mono Z.out.size),AB HN.out Y⟩;simp[intOf];omega
   .skip
    have t1:(y.e !=x.e)=false:=by simp[e1]
    have t2:(y.p !=x.p)=true:=by simp[e2]
    have cF:=AA (show(c.take (k+1)).filter (λy=>!BB x.e x.p y)=ys++[y] by rw[Nx.out];simp[BB,e1,e2]);clear Nx e1 e2;go_wp2_with fail;refine Aa 17 50 [.v (.slice (some ⟨b,bp,none⟩) c.length cp),.i ((k:Int)),.p b (bp+k*4),.p b (bp+k*4),.i (y.e),.p w.heap.size 0,.i (x.e),.b false,.b false,.v (.slice (some ⟨b,bp,none⟩) c.length cp),.i ((k:Int)),.p b (bp+k*4),.p b (bp+k*4+1),.i (y.p),.p w.heap.size 1,.i (x.p),.b true] (λ_ _ _=>True) ?_ ?_
    .intro i hi o O a H Z A Y hW z
     have bs:=bc Y bu D0;have br:=bc Y fz x0;have bB:=bc Y bu D1;have cN:=bc Y fz x1
     match i,hi with
     |0,_|1,_|3,_|5,_|8,_|9,_|10,_|12,_|14,_=>exact sP O z Z A
     |2,_|11,_=>exact sI O z Z A (hr:=by clear A Z z;go_simp)
     |4,_|6,_|13,_|15,_=>exact sL O z Z A (hl:=FT ‹_›)
     |7,_=>clear bs br bB cN;obtain rfl:=yF O;have d4:(a.tmps[18]?.getD undef)=.int .i64 (y.e):=Ba A 4;have d6:(a.tmps[20]?.getD undef)=.int .i64 (x.e):=Ba A 6;clear A Z;refine yE ?_;go_simp;exact z.out _ _ rfl (yD _ _)
     |16,_=>clear bs br bB cN;obtain rfl:=yF O;have hA:(a.tmps[27]?.getD undef)=.int .i64 (y.p):=Ba A 13;have gI:(a.tmps[29]?.getD undef)=.int .i64 (x.p):=Ba A 15;have d8:(a.tmps[22]?.getD undef)=.bool false:=Ba A 8;clear A Z;refine AX.yes rfl rfl d8 ?_;go_simp;exact z.out _ _ rfl (yD _ _)
     |_+17,hq=>omega
    .intro L H hR Y
     have q8:(L 8)=.bool false:=BS hR 8;have eS:(L 16)=.bool true:=BS hR 16;clear hR;simp only[Ak,Ah,yC,yy,yz,yx,q8,eS];simp;clear q8 eS;have mQ:=(Y.cell (p:=⟨b,bp+k*4,none⟩) bu).trans D0;have o9:=(Y.cell (p:=⟨b,bp+k*4+1,none⟩) bu).trans D1;have o6:=(Y.cell (p:=⟨b,bp+k*4+2,none⟩) bu).trans D2;have oZ:=(Y.cell (p:=⟨b,bp+k*4+3,none⟩) bu).trans D3;have ej:=Z.out.trans (Y.mono Z.out.size);have jc:=AA (AQ.below bK.out Y);have gF:=AB HN.out Y;clear D0 D1 D2 D3;go_wp2_with (at_builtin;go_must (refine Bg (lo:=w.heap.size+1) (n:=ys.length) (xs:=Cc AU ys) (m:=1) (news:=[.int .i64 y.e,.int .i64 y.p,.int .i64 y.f,.bool y.w]) rfl rfl 112 (.agg #[.int .i64 0,.int .i64 0,.int .i64 0,.bool false]) 4 32 underlying26 Tryz.zF rfl (by decide) rfl (Bx jc.out (AI _ _)) rfl (Rd.zC _ #[.int .i64 y.e,.int .i64 y.p,.int .i64 y.f,.bool y.w] _ 4 1 _ rfl (by simp) (by simp[maxLen])) (by simp[xG]) (by unfold maxLen;omega) (by omega) (by have:=ej.size;have:=AW gF;simp;omega) ?_;intro o' w9 k1 k2 k3 k4));go_roundw;exact⟨k+1,by omega,by go_num,by rw[cF.out];unfold AQ;rw[Bf,EZ,yj];exact k1,(ej.alloc ej.size _).trans (k4.mono (wu _)),(k2.block w.heap.size (by have:=AW gF;simp;omega) (λe=>by have:=(jc.out.lt _ e.symm).1;omega)).trans (AB gF (AI _ _))⟩;simp[intOf];omega
  .skip
   have t1:(y.e !=x.e)=true:=by simp[e1]
   have cF:=AA (show(c.take (k+1)).filter (λy=>!BB x.e x.p y)=ys++[y] by rw[Nx.out];simp[BB,e1]);clear Nx e1;go_wp2_with fail;refine Aa 17 50 [.v (.slice (some ⟨b,bp,none⟩) c.length cp),.i ((k:Int)),.p b (bp+k*4),.p b (bp+k*4),.i (y.e),.p w.heap.size 0,.i (x.e),.b true,.b true,.u,.u,.u,.u,.u,.u,.u,.u] (λ_ _ _=>True) ?_ ?_
   .intro i hi o O a H Z A Y hW z
    have bs:=bc Y bu D0;have br:=bc Y fz x0
    match i,hi with
    |0,_|1,_|3,_|5,_|8,_=>exact sP O z Z A
    |2,_=>exact sI O z Z A (hr:=by clear A Z z;go_simp)
    |4,_|6,_=>exact sL O z Z A (hl:=FT ‹_›)
    |9,_|10,_|11,_|12,_|13,_|14,_|15,_|16,_=>exact sB O z A
    |7,_=>clear bs br;obtain rfl:=yF O;have d4:(a.tmps[18]?.getD undef)=.int .i64 (y.e):=Ba A 4;have d6:(a.tmps[20]?.getD undef)=.int .i64 (x.e):=Ba A 6;clear A Z;refine yE ?_;go_simp;exact z.out _ _ rfl (yD _ _)
    |_+17,hq=>omega
   .intro L H hR Y
    have q8:(L 8)=.bool true:=BS hR 8;have eS:(L 16)=undef:=BS hR 16;clear hR;simp only[Ak,Ah,yC,yy,yz,yx,q8,eS];simp;clear q8 eS;have mQ:=(Y.cell (p:=⟨b,bp+k*4,none⟩) bu).trans D0;have o9:=(Y.cell (p:=⟨b,bp+k*4+1,none⟩) bu).trans D1;have o6:=(Y.cell (p:=⟨b,bp+k*4+2,none⟩) bu).trans D2;have oZ:=(Y.cell (p:=⟨b,bp+k*4+3,none⟩) bu).trans D3;have ej:=Z.out.trans (Y.mono Z.out.size);have jc:=AA (AQ.below bK.out Y);have gF:=AB HN.out Y;clear D0 D1 D2 D3;go_wp2_with (at_builtin;go_must (refine Bg (lo:=w.heap.size+1) (n:=ys.length) (xs:=Cc AU ys) (m:=1) (news:=[.int .i64 y.e,.int .i64 y.p,.int .i64 y.f,.bool y.w]) rfl rfl 112 (.agg #[.int .i64 0,.int .i64 0,.int .i64 0,.bool false]) 4 32 underlying26 Tryz.zF rfl (by decide) rfl (Bx jc.out (AI _ _)) rfl (Rd.zC _ #[.int .i64 y.e,.int .i64 y.p,.int .i64 y.f,.bool y.w] _ 4 1 _ rfl (by simp) (by simp[maxLen])) (by simp[xG]) (by unfold maxLen;omega) (by omega) (by have:=ej.size;have:=AW gF;simp;omega) ?_;intro o' w9 k1 k2 k3 k4));go_roundw;exact⟨k+1,by omega,by go_num,by rw[cF.out];unfold AQ;rw[Bf,EZ,yj];exact k1,(ej.alloc ej.size _).trans (k4.mono (wu _)),(k2.block w.heap.size (by have:=AW gF;simp;omega) (λe=>by have:=(jc.out.lt _ e.symm).1;omega)).trans (AB gF (AI _ _))⟩;simp[intOf];omega
 .obtain rfl:k=c.length:=by omega
  rw[xo] at ad;have eG:(c.filter λy=>!BB x.e x.p y).length<=c.length:=xy ..;have mh:=jU.out;generalize(c.filter λy=>!BB x.e x.p y)=F at*;have jU:=AA mh;clear mh;have pR:F.length<=4:=by have:=oN.out;omega
  obtain⟨x0,x1,x2,x3⟩:=AE hN;have fz:=AW hN;have HO:=AA ad
  by_cases h4:F.length=4
  focus
   have P:=AA (show Ga c x=F.drop 1++[x] by rw[jU.out,if_pos h4])
   obtain⟨q,cg,rfl,c1,c2,q1,q2,dq⟩:=ad.zM (by omega);unfold maxLen at c2;have pT:(4:Int)<=F.length:=by omega
   have H4:=AA h4;clear h4 ad;go_wp2_with fail;have RG:=AA (Zi (AQ.rd HO.out) (by have:=H4.out;omega));have nW:(F.drop 1).length<=3:=by rw[wT];have:=H4.out;omega
   generalize F.drop 1=G at*;generalize(xi (some ⟨q,4,none⟩) (F.length - 1) (cg - 1))=u5 at RG ⊢;clear HO
  rotate_left
  focus
   have P:=AA (show Ga c x=F++[x] by rw[jU.out,if_neg h4])
   obtain⟨_,_,e5,_,_⟩:=ad.rd.shape;have nt:¬(4:Int)<=F.length:=by omega
   have RG:=AA ad.rd;have nW:F.length<=3:=by omega
   clear h4 HO;cases e5;clear ad;go_wp2_with fail;generalize F=G at*;generalize(xi _ G.length _)=u5 at RG ⊢
  rotate_left
  all_goals
   refine BR 5 50 [.z,.v u5,.z,.a #[.int .i64 (x.e),.int .i64 (x.p),.int .i64 (x.f),.bool (x.w)],.z] (λR vv ww=>match R with
    |0=>∃g,vv=.slice (some ⟨g,0,none⟩) 0 0/\wr.heap.size<=g/\ww.heap[g]?=some (.cells #[] 112 (0,0))
    |2=>AQ wr.heap.size 112 4 AU ww vv G
    |4=>∃g,vv=.slice (some ⟨g,0,none⟩) 1 1/\wr.heap.size<=g/\ww.heap[g]?=some (.cells #[.int .i64 x.e,.int .i64 x.p,.int .i64 x.f,.bool x.w] 112 (0,0))
    |_=>True) ?_ ?_ ?_
   .intro i hi o O a H Z A Y hW z
    match i,hi with
    |1,_=>exact sP O z Z A
    |3,_=>exact sL O z Z A (hl:=VG (bc Y fz x0) (bc Y fz x1) (bc Y fz x2) (bc Y fz x3))
    |0,_=>obtain rfl:=yF O;clear A Z;refine yE ?_;go_simp;exact z.out _ _ ⟨_,rfl,Y.size,yi _ _⟩ (AI _ _)
    |2,_=>
     obtain rfl:=yF O;have d0:∃g,(a.tmps[44]?.getD undef)=.slice (some ⟨g,0,none⟩) 0 0/\wr.heap.size<=g/\H.heap[g]?=some (.cells #[] 112 (0,0)):=Ba A 0
     have d1:(a.tmps[45]?.getD undef)=u5:=Ba A 1;clear A Z;refine yE ?_;obtain⟨g,gL,gK,gJ⟩:=d0;obtain⟨v7,w4,dW,r1,r2,_⟩:=Dg (lo:=wr.heap.size) (w:=H) (t:=26) (ty:=26) 112 _ 4 32 underlying26 Tryz.zF rfl (by decide) gJ gK (BK.below RG.out Y) (J9 _) (by omega);refine Cm rfl (Bp gL) (Bp d1) dW ?_;exact z.out _ _ r1 r2
    |4,_=>obtain rfl:=yF O;have d3:(a.tmps[47]?.getD undef)=.agg #[.int .i64 (x.e),.int .i64 (x.p),.int .i64 (x.f),.bool (x.w)]:=Ba A 3;clear A Z;refine yE ?_;go_simp;exact z.out _ _ ⟨_,rfl,Y.size,yi _ _⟩ (AI _ _)
   .intro i hi vv wz fx cr hz
    match i,hi with
    |0,_|4,_=>exact(by obtain⟨g,h0,D,N⟩:=hz;exact⟨g,h0,D,AB N cr⟩)
    |2,_=>exact(AQ.below hz cr)
    |1,_|3,_=>exact hz
   .intro L H hR Y
    have q2:AQ wr.heap.size 112 4 AU H (L 2) G:=BS hR 2;have q4:∃g,(L 4)=.slice (some ⟨g,0,none⟩) 1 1/\wr.heap.size<=g/\H.heap[g]?=some (.cells #[.int .i64 x.e,.int .i64 x.p,.int .i64 x.f,.bool x.w] 112 (0,0)):=BS hR 4
    clear hR;simp only[Ak,Ah,yC,yy,yz,yx];simp;generalize L 2=z2 at q2 ⊢;generalize L 4=z4 at q4 ⊢;obtain⟨g4,rfl,_,q4⟩:=q4;have Q2:=AA q2;have Q4:=AA (XV q4);have ej:=J.trans (Y.mono J.size);have l4:=Y.size;obtain⟨_,_,rfl,_⟩:=q2.rd.shape;clear q2 q4 x0 x1 x2 x3;go_wp2_with (at_builtin;go_must (refine Bg (lo:=wr.heap.size) (n:=G.length) (xs:=Cc AU G) (m:=1) (news:=[.int .i64 x.e,.int .i64 x.p,.int .i64 x.f,.bool x.w]) rfl rfl 112 (.agg #[.int .i64 0,.int .i64 0,.int .i64 0,.bool false]) 4 32 underlying26 Tryz.zF rfl (by decide) rfl Q2.out rfl Q4.out (by simp[xG]) (by unfold maxLen;omega) (by omega) l4 ?_;intro o' w9 k1 k2 k3 k4));go_ret;exact⟨_,rfl,by rw[P.out];unfold AQ;rw[Bf,EZ,yj];exact BU k1 J.size,ej.trans (k4.mono J.size)⟩
theorem Jl{w:World}{g:Nat}{a b c d e f:Value}(h:w.heap[g]?=some (.cells #[a,b,c,d,e,f] T (0,0))):w.cell? ⟨g,0,none⟩=some a/\w.cell? ⟨g,1,none⟩=some b/\w.cell? ⟨g,2,none⟩=some c/\w.cell? ⟨g,3,none⟩=some d/\w.cell? ⟨g,4,none⟩=some e/\w.cell? ⟨g,5,none⟩=some f:=
 ⟨ym _ _ 0 _ _ _ h,ym _ _ 1 _ _ _ h,ym _ _ 2 _ _ _ h,ym _ _ 3 _ _ _ h,ym _ _ 4 _ _ _ h,ym _ _ 5 _ _ _ h⟩
theorem Ks(m iv ev cv:Value)(k:AO)(kk e a b c:Int)(nm:ByteArray)(kind:Int)(w:World)(h:Mu w m iv ev cv k)(V:DQ k)(he:0<=e/\e<3)(iF:kind=0∨kind=1):
 Calls prog 219 #[.agg #[m,iv,ev,cv],.agg #[.int .i64 kk,.int .i64 e,.int .i64 a,.int .i64 b,.int .i64 c,.string nm],.int .i64 kind] w λr w'=>r=.returned (.int .i64 (CJ k ⟨kk,e,a,b,c,nm⟩ kind))/\Below w.heap.size w w':=by
 obtain⟨N0,N1,bq,eY⟩:=Jz w (.cells #[m,iv,ev,cv] 28) (.cells #[.int .i64 kk,.int .i64 e,.int .i64 a,.int .i64 b,.int .i64 c,.string nm] 55);obtain⟨x0,x1,x2,x3⟩:=AE N0;obtain⟨y0,y1,y2,y3,y4,y5⟩:=Jl N1;have gZ:=AW N0;have gu:=AW N1
 by_cases ha:BZ a 0 11=true
 .obtain⟨an,rfl⟩:∃an:Nat,a=(an:Int):=⟨a.toNat,by have:=(AZ.1 ha).1;omega⟩
  obtain⟨en,rfl⟩:∃en:Nat,e=(en:Int):=⟨e.toNat,by omega⟩
  have pN:an<12:=by have:=(AZ.1 ha).2;omega
  have eh:en<3:=by omega
  have hl:=(A1.1 (Ar V).2.1).1;have FC:=AA (show CJ k ⟨kk,(en:Int),(an:Int),b,c,nm⟩ kind=if(zS k.zZ an).k=0 then 3 else if By (AJ k.zX en).zT (zS k.zZ an).g=false then 1
   else if(0<kind/\(zS k.zZ an).k≠kind)∨(kind=0/\Bh (zS k.zZ an).k=false) then 3 else 0 by unfold CJ;simp[ha])
  have lO:=Cg (Ar V).2.1 _ (yh (Cq (show an<k.zZ.length by omega)));have CM:=AA (λW (K:Below _ _ W)=>Jr m iv ev cv k en (zS k.zZ an).g W ((h.2.2.1.below bq).below K) V eh lO);obtain⟨ai,ci,rfl,_,_,HI⟩:=BK.open A0 (by decide) (BK.below h.2.1 bq);obtain⟨bi,av,rfl,ck,D0,D1,_⟩:=HI.zP (show an<k.zZ.length by omega);have pO:(an:Int)<k.zZ.length:=by omega
  have HA:=AA ha;have ef:¬(an:Int)<0:=by omega
  clear h V N0 N1 HI ha hl lO he;generalize hW0:(w.alloc _).alloc _=W0 at x0 x1 x2 x3 y0 y1 y2 y3 y4 y5 D0 D1 gZ gu ck CM bq;generalize(zS k.zZ an).g=gd at D1 CM FC;generalize(zS k.zZ an).k=kd at D0 FC;generalize By (AJ k.zX en).zT gd=mb at CM FC
  by_cases e0:kd=0
  .have t0:(kd==0)=true:=by simp[e0]
   have ix:=AA (show CJ k ⟨kk,(en:Int),(an:Int),b,c,nm⟩ kind=3 by rw[FC.out,if_pos e0]);clear e0;go_in;go_wp2_with (refine(EI _ _).mono ?_;rintro r w2 ⟨rfl,rfl⟩;rw[HA.out]);go_ret;exact⟨Ch ix.out.symm,bq⟩
  .have t0:(kd==0)=false:=by simp[e0]
   have jY:=AA (show CJ k ⟨kk,(en:Int),(an:Int),b,c,nm⟩ kind=if mb=false then 1
    else if(0<kind/\kd≠kind)∨(kind=0/\Bh kd=false) then 3 else 0 by rw[FC.out,if_neg e0])
   clear e0 FC;go_in;go_wp2_with fail;refine(EI _ _).mono ?_;rintro r w2 ⟨rfl,rfl⟩;rw[HA.out];go_wp2_with fail;refine Aa 11 64 [.a #[m,.slice (some ⟨bi,av,none⟩) k.zZ.length ci,ev,cv],.p (w.heap.size+1) 1,.i ((en:Int)),.p w.heap.size 1,.v (.slice (some ⟨bi,av,none⟩) k.zZ.length ci),.p (w.heap.size+1) 2,.i ((an:Int)),.p bi (av+an*3),.p bi (av+an*3+1),.t gd,.b mb] (λ_ _ _=>True) ?_ ?_
   .intro i hi o O a H Z A Y hW z
    have bs:=bc Y gZ x0;have br:=bc Y gZ x1;have bB:=bc Y gZ x2;have cN:=bc Y gZ x3;have eU:=bc Y gu y1;have pk:=bc Y gu y2;have pj:=bc Y ck D1
    match i,hi with
    |0,_=>exact sL O z Z A (hl:=OM ‹_› ‹_› ‹_› ‹_›)
    |1,_|3,_|5,_|8,_=>exact sP O z Z A
    |2,_|6,_=>exact sL O z Z A (hl:=FT ‹_›)
    |4,_=>exact sL O z Z A (hl:=GY ‹_›)
    |7,_=>exact sI O z Z A (hr:=by clear A Z z;go_simp)
    |9,_=>exact sL O z Z A (hl:=ZP ‹_›)
    |10,_=>exact sD O z Z A (CM.out _ Y)
   .intro L H hR Y
    have ib:(L 10)=.bool mb:=BS hR 10;clear hR;simp only[Ak,Ah,yC,yy,yz,yx,ib];simp;clear ib;have mQ:=(Y.cell (p:=⟨bi,av+an*3,none⟩) ck).trans D0;have pd:=(Y.cell (p:=⟨w.heap.size,1,none⟩) gZ).trans x1;have lF:=(Y.cell (p:=⟨w.heap.size+1,2,none⟩) gu).trans y2;have ej:=bq.trans (Y.mono bq.size);clear D0 D1 x0 x1 x2 x3 y0 y1 y2 y3 y4 y5 Y CM;cases mb
    .have ix:=AA (show CJ k ⟨kk,(en:Int),(an:Int),b,c,nm⟩ kind=1 by rw[jY.out];rfl)
     go_wp2_with fail;go_ret;exact⟨Ch ix.out.symm,ej⟩
    .rcases iF with rfl|rfl
     .have ix:=AA (show CJ k ⟨kk,(en:Int),(an:Int),b,c,nm⟩ 0=if Bh kd=false then 3 else 0 by rw[jY.out];simp)
      go_wp2_with fail;refine(Fj _ _).mono ?_;rintro r w2 ⟨rfl,rfl⟩;generalize Bh kd=tb at ix;cases tb
      .go_wp2_with fail
       go_ret;exact⟨Ch ix.out.symm,ej⟩
      .go_wp2_with fail
       go_ret;exact⟨Ch ix.out.symm,ej⟩
     .by_cases e1:kd=1
      .have t1:(kd !=1)=false:=by simp[e1]
       have ix:=AA (show CJ k ⟨kk,(en:Int),(an:Int),b,c,nm⟩ 1=0 by rw[jY.out];simp[e1]);clear e1;go_wp2_with fail;go_ret;exact⟨Ch ix.out.symm,ej⟩
      .have t1:(kd !=1)=true:=by simp[e1]
       have ix:=AA (show CJ k ⟨kk,(en:Int),(an:Int),b,c,nm⟩ 1=3 by rw[jY.out];simp[e1]);clear e1;go_wp2_with fail;go_ret;exact⟨Ch ix.out.symm,ej⟩
 .have kQ:BZ a 0 11=false:=by simpa using ha
  have ix:=AA (show CJ k ⟨kk,e,a,b,c,nm⟩ kind=3 by unfold CJ;simp[kQ]);have HA:=AA kQ;clear ha kQ h V;go_in;go_wp2_with (refine(EI _ _).mono ?_;rintro r w2 ⟨rfl,rfl⟩;rw[HA.out]);go_ret;exact⟨Ch ix.out.symm,bq⟩
def Me(w0:World)(g:Nat)(m i e c:Value)(k:AO)(qs:List (Value×Int))(wr:World):Prop:=
 wr.heap[g]?=some (.cells #[m,i,e,c] 28 (0,0))/\(∃L,Au w0.heap.size wr m L k.mem)/\AQ w0.heap.size 92 3 A3 wr i k.zZ/\DI w0.heap.size wr e qs (k.zX.take qs.length)/\AQ w0.heap.size 112 4 AU wr c k.zW/\Below w0.heap.size w0 wr/\w0.heap.size<=g
def LH(lo:Nat)(T:Nat)(W:World)(hk:Value):Prop:=∃g,hk=.slice (some ⟨g,0,none⟩) 0 0/\lo<=g/\W.heap[g]?=some (.cells #[] T (0,0))
theorem LH.below{lo:Nat}{W W':World}{hk:Value}(h:LH lo T W hk)(J:Below W.heap.size W W'):LH lo T W' hk:=by obtain⟨g,h0,D,N⟩:=h;exact⟨g,h0,D,AB N J⟩
def Vm(lo:Nat)(r:Int)(ts:List ByteArray)(W:World)(hk:Value):Prop:=∃u,hk=.agg #[u,.int .i64 r]/\AQ lo 9 1 BD W u ts
theorem Vm.below{lo:Nat}{r:Int}{ts:List ByteArray}{W W':World}{hk:Value}(h:Vm lo r ts W hk)(J:Below W.heap.size W W'):Vm lo r ts W' hk:=by obtain⟨u,h0,D⟩:=h;exact⟨u,h0,D.below J⟩
def Xc(lo:Nat)(r:Int)(ts:List ByteArray)(W:World)(hk:Value):Prop:=∃g u,hk=.slice (some ⟨g,0,none⟩) 1 1/\lo<=g/\W.heap[g]?=some (.cells #[u,.int .i64 r] 74 (0,0))/\AQ lo 9 1 BD W u ts
theorem Xc.below{lo:Nat}{r:Int}{ts:List ByteArray}{W W':World}{hk:Value}(h:Xc lo r ts W hk)(J:Below W.heap.size W W'):Xc lo r ts W' hk:=by obtain⟨g,u,h0,D,N,h3⟩:=h;exact⟨g,u,h0,D,AB N J,h3.below J⟩
theorem aZ{w:World}{g:Nat}{a b:Value}(h:w.heap[g]?=some (.cells #[a,b] T (0,0))):Rd w (.slice (some ⟨g,0,none⟩) 1 1) 2 1 [a,b]:=by
 have h0:=ym _ _ 0 _ _ _ h;have D:=ym _ _ 1 _ _ _ h;refine⟨_,_,rfl,yv _,by simp[maxLen],rfl,nofun,λ_=>⟨g,0,rfl,λj E=>?_⟩⟩;rw[vt]
 match j,E with
 |0,_=>exact h0
 |1,_=>exact D
 |_+2,E=>exact absurd E (by omega)
def IP(lo:Nat)(w:World)(v:Value)(k:AO):Prop:=∃m i e c,v=.agg #[m,i,e,c]/\(∃L,Au lo w m L k.mem)/\AQ lo 92 3 A3 w i k.zZ/\DI lo w e [] []/\AQ lo 112 4 AU w c k.zW
theorem IP.below{lo:Nat}{w w':World}{k:AO}(h:IP lo w v k)(J:Below w.heap.size w w'):IP lo w' v k:=by obtain⟨m,i,e,c,h0,⟨L,D⟩,N,h3,h4⟩:=h;exact⟨m,i,e,c,h0,⟨L,D.below J⟩,N.below J,h3.below J,h4.below J⟩
def bT(w:World)(row:Option Nat):Prop:=∀q,row=some q->∃fu,w.heap[q]?=some (.cells fu 74 (0,0))
theorem cD{lo:Nat}{w1:World}{row:Option Nat}{jn:List (List Int)}(o:Au lo w1 v L jn)(N:w1.grownBy w2 row)(hr:bT w1 row):Au lo w2 v L jn:=by
 cases row with
 |none=>exact o.below (Below.zu N)
 |some q=>obtain⟨fu,hc⟩:=hr q rfl;exact o.yL N hc
theorem bL{α:Type}{lo e sz:Nat}{cs:α->List Value}{w1:World}{row:Option Nat}{xs:List α}(o:AQ lo e sz cs w1 v xs)(N:w1.grownBy w2 row)(hr:bT w1 row)(he:e≠74):AQ lo e sz cs w2 v xs:=by
 cases row with
 |none=>exact o.below (Below.zu N)
 |some q=>obtain⟨fu,hc⟩:=hr q rfl;exact o.yL N hc he
theorem Me.yK{g:Nat}{m i e c:Value}{k:AO}{qs:List (Value×Int)}{wr w1:World}(h:Me w0 g m i e c k qs wr)(J:Below wr.heap.size wr w1)(N:w1.grownBy w2 e.ownBlock):w2.heap[g]?=some (.cells #[m,i,e,c] 28 (0,0)):=by
 have kU:=AB h.1 J;exact(N.block g (AW kU) λe'=>Do (h.2.2.2.1.1.below J) kU (by decide) e'.symm).trans kU
theorem Me.step{g:Nat}{m i c u v':Value}{k:AO}{qs:List (Value×Int)}{wr w1:World}{e:Eh}(h:Me w0 g m i ev c k qs wr)(J:Below wr.heap.size wr w1)(hu:AQ wr.heap.size 9 1 BD w1 u e.zT)(he:k.zX[qs.length]?=some e)
 (D:w2.ownsRow w0.heap.size 74 2 v' (qs.length+1) (Cc Ep qs++[u,.int .i64 e.root]))(N:w1.grownBy w2 ev.ownBlock):Me w0 g m i v' c k (qs++[(u,e.root)]) (w2.setCell ⟨g,2,none⟩ v'):=by
 have iQ:=h.yK J N;obtain⟨hB,⟨L,o1⟩,o2,o3,o4,eH,hg⟩:=h;have P:=DI.push o3 J eH.size (yv _) hu D N;have hr:bT w1 ev.ownBlock:=λq hq=>A6 (o3.1.below J) q hq
 have dd:=Aq w2 g 2 v';have ht:k.zX.take (qs++[(u,e.root)]).length=k.zX.take qs.length++[⟨e.zT,e.root⟩]:=by rw[yj,xI,DA he]
 refine⟨?_,⟨L,(cD (o1.below J) N hr).yL dd iQ⟩,(bL (o2.below J) N hr (by decide)).yL dd iQ,?_,(bL (o4.below J) N hr (by decide)).yL dd iQ,?_,hg⟩
 .have:=yq w2 g 2 _ 28 v' iQ
  simpa using this
 .rw[ht]
  exact P.yL dd iQ
 .exact((eH.trans (J.mono eH.size)).grown N (eH.trans (J.mono eH.size)).size (λq hq=>((o3.1.below J).lt q hq).1)).setCell hg _
theorem Ld(m i e c:Value)(k:AO)(w:World)(h:Mu w m i e c k)(V:DQ k):Calls prog 93 #[.agg #[m,i,e,c]] w (PQ w k):=by
 obtain⟨D,N,h3,h4⟩:=h;have dm:=(Ai.1 (Ar V).1).1;have fY:=(A1.1 (Ar V).2.1).1;have iI:k.zW.length<=4:=by have:=V.zW;simp only[BT,yu,decide_eq_true_eq] at this;exact this.2
 have es:∀f,f<k.mem.length->(AG k.mem f).length<=100:=λf hf=>by have:=(A4.1 ((Ai.1 (Ar V).1).2 f (by omega))).1;omega
 obtain⟨N0,N1,bq,eY⟩:=Jz w (.cells #[m,i,e,c] 28) (.cells #[.slice none 0 0,.slice none 0 0,.slice none 0 0,.slice none 0 0] 28);obtain⟨x0,x1,x2,x3⟩:=AE N0;have du:=AW N0;have C1:=AA (λW (K:Below _ _ W)=>Mo m k.mem W ((D.below bq).below K) (by omega) es);have RI:=AA (BK.below N bq);have RC:=AA (BK.below h4 bq);obtain⟨am,cm,rfl,_⟩:=D.open;obtain⟨ai,ci,rfl,_,_⟩:=N.shape;obtain⟨ae,ce,rfl,fj,kI,ji⟩:=(h3.below bq).open;obtain⟨ac,cc,rfl,_,_⟩:=h4.shape;have HE:=AA ji;have Hk:=AA V;have oB:=AA V.zN;have nE:k.zZ.length<=100:=by omega
 generalize hW0:(w.alloc _).alloc _=W0 at*;clear D N h3 h4 V dm fY es ji;go_in;go_wp2_with fail;refine BR 14 46 [.p w.heap.size 0,.v (.slice am k.mem.length cm),.z,.z,.p w.heap.size 1,.v (.slice ai k.zZ.length ci),.z,.z,.z,.p w.heap.size 3,.v (.slice ac k.zW.length cc),.z,.z,.z] (λR vv ww=>match R with
  |2=>∃cq,Au W0.heap.size ww vv cq k.mem
  |3=>LH W0.heap.size 92 ww vv
  |6=>AQ W0.heap.size 92 3 A3 ww vv k.zZ
  |7=>DI W0.heap.size ww vv [] []
  |8=>LH W0.heap.size 112 ww vv
  |11=>AQ W0.heap.size 112 4 AU ww vv k.zW
  |12=>IP W0.heap.size ww vv k
  |13=>Kj W0.heap.size ww vv
  |_=>True) ?_ ?_ ?_
 .intro i hi o O a H Z A Y hW z
  match i,hi with
  |0,_|4,_|9,_=>exact sP O z Z A
  |1,_=>exact sL O z Z A (hl:=F9 (bc Y du x0))
  |2,_=>exact sC O z Z A (C1.out _ Y) (by rintro e w_ ⟨v',cq,rfl,hO,bl⟩;exact⟨_,rfl,⟨cq,hO.lower Y.size⟩,bl⟩)
  |5,_=>exact sL O z Z A (hl:=GY (bc Y du x1))
  |10,_=>exact sL O z Z A (hl:=VH (bc Y du x3))
  |3,_|8,_=>obtain rfl:=yF O;clear A Z;refine yE ?_;go_simp;exact z.out _ _ ⟨_,rfl,Y.size,yi _ _⟩ (AI _ _)
  |6,_=>obtain rfl:=yF O;have d3:LH W0.heap.size 92 H (a.tmps[8]?.getD undef):=Ba A 3;have d5:(a.tmps[10]?.getD undef)=.slice ai k.zZ.length ci:=Ba A 5;clear A Z;refine yE ?_;obtain⟨g_,gL,gK,gJ⟩:=d3;obtain⟨v7,w4,dW,r1,r2,_⟩:=Dg (lo:=W0.heap.size) (w:=H) (t:=24) (ty:=24) 92 _ 3 32 underlying24 Tryz.zE rfl (by decide) gJ gK (BK.below RI.out Y) (FL _) (by omega);refine Cm rfl (Bp gL) (Bp d5) dW ?_;exact z.out _ _ r1 r2
  |7,_=>obtain rfl:=yF O;clear A Z;refine yE ?_;go_simp;exact z.out _ _ ⟨AQ.lower (CU Ep _ _ _) Y.size,Fq.nil,DP.nil⟩ (AI _ _)
  |11,_=>obtain rfl:=yF O;have d8:LH W0.heap.size 112 H (a.tmps[13]?.getD undef):=Ba A 8;have jL:(a.tmps[15]?.getD undef)=.slice ac k.zW.length cc:=Ba A 10;clear A Z;refine yE ?_;obtain⟨g_,gL,gK,gJ⟩:=d8;obtain⟨v7,w4,dW,r1,r2,_⟩:=Dg (lo:=W0.heap.size) (w:=H) (t:=26) (ty:=26) 112 _ 4 32 underlying26 Tryz.zF rfl (by decide) gJ gK (BK.below RC.out Y) (J9 _) (by omega);refine Cm rfl (Bp gL) (Bp jL) dW ?_;exact z.out _ _ r1 r2
  |12,_=>
   obtain rfl:=yF O;have d2:∃cq,Au W0.heap.size H (a.tmps[7]?.getD undef) cq k.mem:=Ba A 2
   have d6:AQ W0.heap.size 92 3 A3 H (a.tmps[11]?.getD undef) k.zZ:=Ba A 6;have d7:DI W0.heap.size H (a.tmps[12]?.getD undef) [] []:=Ba A 7;have ew:AQ W0.heap.size 112 4 AU H (a.tmps[16]?.getD undef) k.zW:=Ba A 11;clear A Z;generalize e7:a.tmps[7]?.getD undef=m' at d2;generalize e11:a.tmps[11]?.getD undef=i' at d6;generalize e12:a.tmps[12]?.getD undef=e' at d7;generalize e16:a.tmps[16]?.getD undef=c' at ew;have W:Hid (IP W0.heap.size H (.agg #[m',i',e',c']) k):=AA ⟨m',i',e',c',rfl,d2,d6,d7,ew⟩;obtain⟨_,d2⟩:=d2;obtain⟨_,_,rfl,_,_⟩:=d2.1.rd.shape;obtain⟨_,_,rfl,_,_⟩:=d6.rd.shape;obtain⟨_,_,rfl,_,_⟩:=d7.1.rd.shape;obtain⟨_,_,rfl,_,_⟩:=ew.rd.shape;clear d2 d6 d7 ew;refine yE ?_;go_simp;exact z.out _ _ W.out (yD _ _)
  |13,_=>obtain rfl:=yF O;clear A Z;refine yE ?_;go_simp;exact z.out _ _ ⟨_,rfl,Y.size,yi _ _⟩ (AI _ _)
 .intro i hi vv wz fx cr hz
  match i,hi with
  |2,_=>exact(by obtain⟨cq,h'⟩:=hz;exact⟨cq,h'.below cr⟩)
  |3,_|8,_=>exact(LH.below hz cr)
  |6,_|11,_=>exact(AQ.below hz cr)
  |7,_=>exact(DI.below hz cr)
  |12,_=>exact(IP.below hz cr)
  |13,_=>exact(Kj.below hz cr)
  |0,_|1,_|4,_|5,_|9,_|10,_=>exact hz
 .intro L H hR Y
  have fS:IP W0.heap.size H (L 12) k:=BS hR 12;have eB:Kj W0.heap.size H (L 13):=BS hR 13;obtain⟨g,eB,hg,hB⟩:=eB;clear hR;simp only[Ak,Ah,yC,yy,yz,yx,eB];simp;generalize L 12=z12 at fS ⊢;clear eB;obtain⟨m',i',e',c',rfl,⟨cq,o1⟩,o2,o3,o4⟩:=fS;have dd:=An (An (An (Aq H g 0 m') 1 i') 2 e') 3 c';have St:Me W0 g m' i' e' c' k [] ((((H.setCell ⟨g,0,none⟩ m').setCell ⟨g,1,none⟩ i').setCell ⟨g,2,none⟩ e').setCell ⟨g,3,none⟩ c'):=
   ⟨Cx hB,⟨cq,o1.yL dd hB⟩,o2.yL dd hB,o3.yL dd hB,o4.yL dd hB,(((Y.setCell hg _).setCell hg _).setCell hg _).setCell hg _,hg⟩
  obtain⟨pa,pc,rfl,_,_⟩:=o1.1.rd.shape;obtain⟨qa,qc,rfl,_,_⟩:=o2.rd.shape;obtain⟨ea,ec,mo,_,_⟩:=o3.1.rd.shape;rw[wU] at mo;subst mo;obtain⟨ra,rc,rfl,_,_⟩:=o4.rd.shape;obtain⟨b0,b1,b2,b3⟩:=AE hB;have dq:=AK hB;have ly:=AA N0;have oM:=AA N1;have ox:=AA hW0;have ol:=AA eY;clear o1 o2 o3 o4 Y hB dd x0 x1 x2 x3 N0 N1 hW0 eY RI RC C1;go_wp2_with fail;clear b0 b1 b2 b3 dq;go_loopw [4] (λR wr=>∃(qs:List (Value×Int)) (ev:Value),qs.length<=3/\R=.int .i64 qs.length/\Me W0 g (.slice pa cq.length pc) (.slice qa k.zZ.length qc) ev (.slice ra k.zW.length rc) k qs wr) (λR _=>3 - (intOf R).toNat)
  exact⟨[],_,by simp,rfl,St⟩
  clear St;obtain⟨qs,ev,hq,rfl,St⟩:=hrel;have gN:=oB.out;have jp:=(AE ((St.2.2.2.2.2.1.block _ du).trans ly.out)).2.2.1;have iA:=xW du St.2.2.2.2.2.1.size;have y2:=(AE St.1).2.2.1;have gt:=AW St.1;obtain⟨ea,ec,rfl,pI,nJ⟩:=St.2.2.2.1.1.rd.shape
  by_cases bk:qs.length<3
  .have lP:qs.length<k.zX.length:=by omega
   obtain⟨be,eD,ua,uc,rfl,iC,D0,D1,hR⟩:=(HE.out.below (St.2.2.2.2.2.1)) qs.length lP;have bD:(qs.length:Int)<k.zX.length:=by omega
   have RS:=AA hR;have dU:=QC Hk.out bk;have jR:=AA St;have oA:=AA gN;have lG:=jp;clear St hR gN jp;go_wp2_with fail;refine BR 18 46 [.p g 2,.v (.slice ea qs.length ec),.z,.p w.heap.size 2,.v (.slice (some ⟨be,eD,none⟩) k.zX.length ce),.i ((qs.length:Int)),.p be (eD+qs.length*2),.p be (eD+qs.length*2),.v (.slice ua (AJ k.zX qs.length).zT.length uc),.z,.p w.heap.size 2,.v (.slice (some ⟨be,eD,none⟩) k.zX.length ce),.i ((qs.length:Int)),.p be (eD+qs.length*2),.p be (eD+qs.length*2+1),.i ((AJ k.zX qs.length).root),.z,.z] (λR vv ww=>match R with
    |2=>LH wr.heap.size 9 ww vv
    |9=>AQ wr.heap.size 9 1 BD ww vv (AJ k.zX qs.length).zT
    |16=>Vm wr.heap.size (AJ k.zX qs.length).root (AJ k.zX qs.length).zT ww vv
    |17=>Xc wr.heap.size (AJ k.zX qs.length).root (AJ k.zX qs.length).zT ww vv
    |_=>True) ?_ ?_ ?_
   .intro i hi o O a H Z A Y hW z
    have bs:=bc Y gt y2;have br:=bc Y iA lG;have bB:=bc Y iC D0;have cN:=bc Y iC D1
    match i,hi with
    |0,_|3,_|5,_|7,_|10,_|12,_|14,_=>exact sP O z Z A
    |1,_|4,_|11,_=>exact sL O z Z A (hl:=OL ‹_›)
    |6,_|13,_=>exact sI O z Z A (hr:=by clear A Z z;go_simp)
    |8,_=>exact sL O z Z A (hl:=Li ‹_›)
    |15,_=>exact sL O z Z A (hl:=FT ‹_›)
    |2,_=>clear bs br bB cN;obtain rfl:=yF O;clear A Z;refine yE ?_;go_simp;exact z.out _ _ ⟨_,rfl,Y.size,yi _ _⟩ (AI _ _)
    |9,_=>clear bs br bB cN;obtain rfl:=yF O;have d2:LH wr.heap.size 9 H (a.tmps[27]?.getD undef):=Ba A 2;have d8:(a.tmps[33]?.getD undef)=.slice ua (AJ k.zX qs.length).zT.length uc:=Ba A 8;clear A Z;refine yE ?_;obtain⟨g_,gL,gK,gJ⟩:=d2;obtain⟨v7,w4,dW,r1,r2,_⟩:=Dg (lo:=wr.heap.size) (w:=H) (t:=72) (ty:=72) 9 _ 1 16 underlying72 Tryz.zJ rfl (by decide) gJ gK (BK.below RS.out Y) (HY _) (by omega);refine Cm rfl (Bp gL) (Bp d8) dW ?_;exact z.out _ _ r1 r2
    |16,_=>clear bs br bB cN;obtain rfl:=yF O;have d9:AQ wr.heap.size 9 1 BD H (a.tmps[34]?.getD undef) (AJ k.zX qs.length).zT:=Ba A 9;have gI:(a.tmps[40]?.getD undef)=.int .i64 ((AJ k.zX qs.length).root):=Ba A 15;clear A Z;generalize e34:a.tmps[34]?.getD undef=u at d9;have W:Hid (Vm wr.heap.size (AJ k.zX qs.length).root (AJ k.zX qs.length).zT H (.agg #[u,.int .i64 (AJ k.zX qs.length).root])):=AA ⟨u,rfl,d9⟩;obtain⟨_,_,rfl,_,_⟩:=d9.rd.shape;clear d9;refine yE ?_;go_simp;exact z.out _ _ W.out (yD _ _)
    |17,_=>clear bs br bB cN;obtain rfl:=yF O;have mp:Vm wr.heap.size (AJ k.zX qs.length).root (AJ k.zX qs.length).zT H (a.tmps[41]?.getD undef):=Ba A 16;clear A Z;obtain⟨u,mp,d9⟩:=mp;have HD:=AA d9;obtain⟨_,_,rfl,_,_⟩:=d9.rd.shape;clear d9;refine yE ?_;go_simp;exact z.out _ _ ⟨_,_,rfl,Y.size,yi _ _,HD.out.below (AI _ _)⟩ (AI _ _)
    |_+18,hq=>omega
   .intro i hi vv wz fx cr hz
    match i,hi with
    |2,_=>exact(LH.below hz cr)
    |9,_=>exact(AQ.below hz cr)
    |16,_=>exact(Vm.below hz cr)
    |17,_=>exact(Xc.below hz cr)
    |0,_|1,_|3,_|4,_|5,_|6,_|7,_|8,_|10,_|11,_|12,_|13,_|14,_|15,_=>exact hz
    |_+18,hq=>omega
   .intro L H hR Y
    have q1:(L 1)=.slice ea qs.length ec:=BS hR 1;have lK:Xc wr.heap.size (AJ k.zX qs.length).root (AJ k.zX qs.length).zT H (L 17):=BS hR 17;clear hR;simp only[Ak,Ah,yC,yy,yz,yx,q1];simp;generalize L 17=z17 at lK ⊢;clear q1;obtain⟨gb,u,rfl,_,l8,hu⟩:=lK;have eH:=jR.out.2.2.2.2.2.1;have lF:=(Y.cell (p:=⟨g,2,none⟩) gt).trans y2;have nx:=xW gt Y.size;have Q:=AA (aZ l8);have HU:=AA hu;have ho:=AA (jR.out.2.2.2.1.1.below Y);have HG:=AA Y;have jB:=(eH.trans (Y.mono eH.size)).size;obtain⟨_,_,rfl,_,_⟩:=hu.rd.shape;clear l8 hu Y D0 D1 y2 eH;go_wp2_with (at_builtin;go_must (refine Bg (lo:=W0.heap.size) (n:=qs.length) (xs:=Cc Ep qs) (m:=1) rfl rfl 74 (.agg #[.slice none 0 0,.int .i64 0]) 2 32 underlying25 Tryz.yR rfl (by decide) rfl ho.out rfl Q.out (by simp[xG]) (by unfold maxLen;omega) (by omega) jB ?_;intro o' w9 k1 k2 k3 k4;have S:=AA (jR.out.step HG.out HU.out (show k.zX[qs.length]?=some (AJ k.zX qs.length) by unfold AJ;exact A2 lP) k1 k2);have jG:=jR.out.yK HG.out k2;have z2:=(AE jG).2.2.1;have pV:=AK jG;have ku:=AW jG;obtain⟨_,_,rfl,_,_⟩:=(Rd.of_owns k1).shape;clear k1 k2 k3 k4 jG lF));go_roundw;exact⟨_,_,by rw[yj,xI];omega,by rw[yj,xI];go_num,S.out⟩;simp[intOf];omega
  .have e3:qs.length=3:=by omega
   obtain⟨hB,⟨lH,o1⟩,o2,o3,o4,bf,_⟩:=St;have o5:DI W0.heap.size wr (.slice ea qs.length ec) qs k.zX:=by have:=o3;rwa [wH (by omega)] at this
   have f7:=(bf.block _ (by have:=ol.out;omega)).trans oM.out;have S:=AA (show ∀w',wr.grownBy w' (some (w.heap.size+1))->PQ w k (.returned (.agg #[_,_,(.slice ea qs.length ec),_])) w' from λw' iG=>⟨_,_,_,_,rfl,⟨⟨lH,(o1.yL iG f7).lower bq.size⟩,(o2.yL iG f7).lower bq.size,⟨qs,(o5.yL iG f7).lower bq.size⟩,(o4.yL iG f7).lower bq.size⟩,(bq.trans (bf.mono bq.size)).grown iG (bq.trans (bf.mono bq.size)).size (λk V=>by cases V;omega)⟩)
   obtain⟨E0,E1,E2,E3⟩:=AE (Cx (m':=.slice pa cq.length pc) (i':=.slice qa k.zZ.length qc) (e':=.slice ea qs.length ec) (c':=.slice ra k.zW.length rc) f7);have HE:=AA (xU E0 (xU E1 (xU E2 E3)));have dd:wr.grownBy ((((wr.setCell ⟨w.heap.size+1,0,none⟩ (.slice pa cq.length pc)).setCell ⟨w.heap.size+1,1,none⟩ (.slice qa k.zZ.length qc)).setCell ⟨w.heap.size+1,2,none⟩ (.slice ea qs.length ec)).setCell ⟨w.heap.size+1,3,none⟩ (.slice ra k.zW.length rc)) (some (w.heap.size+1)):=An (An (An (Aq wr (w.heap.size+1) 0 _) 1 _) 2 _) 3 _;obtain⟨b0,b1,b2,b3⟩:=AE hB;obtain⟨c0,c1,c2,c3⟩:=AE f7;have dq:=AK f7;have gj:¬(qs.length:Int)<k.zX.length:=by omega
   have lG:=jp;clear hB f7 o1 o2 o3 o4 o5 E0 E1 E2 E3 e3 jp gN;go_wp2_with fail;exact yr (v:=.agg #[_,_,_,_]) (by simp[results,Tryz.results93,go_sem,HE.out]) rfl (S.out _ dd)
end Go.Proofs.YtpdjjjdkhedibaaGreatDoor
