/-
  Packed:13 texts.
-/
import Derived.Test.YtinbcpipjfljeaaGreatDoorY6
import Derived.Test.YtinbcpipjfljeaaGreatDoorY1
import Derived.Test.YtinbcpipjfljeaaGreatDoorY5
import Derived.Deep.DeepCutAuto
import Derived.Test.YtinbcpipjfljeaaGreatDoorY2
import Derived.Test.YtinbcpipjfljeaaGreatDoorY4
import Derived.Test.YtinbcpipjfljeaaGreatDoorY3
set_option linter.unusedVariables false
set_option linter.unusedSimpArgs false
set_option maxHeartbeats 16000000
set_option maxRecDepth 100000
open Go Go.Proofs.YtinbcpipjfljeaaGreatDoor
open And renaming intro->ye
open Bool renaming and_eq_true->yt,eq_iff_iff->wF
open Go.Lib renaming toList_data->xz
open Go.Proofs.Tryz renaming results9->uf
open Go.RowKit.Below renaming refl->yF
open Go.Value renaming int->yf,oneCell'->xE,slice->xB
open Go.Value.slice renaming injEq->xD
open Go.World renaming block_lt_of_cell?->yC
open Go.World.ownsRow renaming cellAt->xC,frozenAt->xP,lt->yr
open Go renaming bodyPost_ret->yp,cell_of_row->yi,heap_alloc_new->yw
open Int renaming toNat_natCast->xY
open List renaming all_eq_false->wk,all_eq_true->yk,countP_le_length->vO,foldl_append->uB,foldl_cons->yA,foldl_nil->yy,getD_eq_getElem?_getD->xU,getElem?_eq_getElem->yx,getElem?_map->wQ,getElem?_replicate->vW,getElem_of_mem->wO,isPrefixOf_iff_prefix->uv,length_append->yl,length_set->xV,length_take->xW,mem_of_getElem?->yg,mem_range->yj,range->yE,range_succ->xx,replicate->xX,take_length->xt,take_of_length_le->wv
open List.range renaming loop->yB
open Nat renaming add_zero->xQ,eq_zero_or_pos->vP,le_trans->yD,lt_succ_iff_lt_or_eq->xq,mul_one->vV,not_lt_zero->xR,zero_le->yh
open Option.some renaming injEq->vq
variable {p:AR} {gq k n:Nat} {cv ev iv lv mv qv sv v:Value} {w':World} {fs:List Nat}
namespace Go.Proofs.YtinbcpipjfljeaaGreatDoor
open Go.Proofs.Tryz
open Go.RowKit
theorem NL {p:Nat->Bool} (hk:k<n) (h:p k=false):(yE n).all p=false:=wk.2 ⟨k,yj.2 hk,by simp[h]⟩
theorem Ms {g:Nat} {w:World} {P:AR} (hB:w.heap[g]? =some (.cells #[mv,iv,ev,cv,sv,lv,qv, .int .i64 P.zT, .int .i64 P.zW] 32 (0,0))) (h:Lr w mv iv ev cv sv lv qv P) (hK:DI P.zX):
 Calls prog 32 #[.pointer (some ⟨g,0,none⟩)] w (fun r w'=>r= .returned (.bool (Bt P))/\Below w.heap.size w w'):=by
 have T:Bt P=(decide (0<=AZ P.zX 0)&&decide (P.low.length=4)&&Fi P.zX.Os (AZ P.zX 0).toNat&&(yE 4).all (FU P)):=rfl;have L:∀i,FU P i=(Bd (BG P.low i) 0 11&&decide (As P.zX.mem (AZ P.zX 0).toNat i=Gv (BG P.low i))&&Fi P.zX.Os (BG P.low i).toNat):=fun i=>rfl
 obtain⟨x0,x1,x2,_,_,x5,_⟩:=AE hB;obtain⟨ps,dG,cX⟩:=h.1.2.2.1;have br:ps.length=3:=by rw[cX.1,hK.zP]
 obtain⟨ae,ce,rfl,_,_,HE⟩:=BJ.open FW (by decide) dG;obtain⟨p0,hp0⟩:∃p,ps[0]? =some p:=⟨_,yx (by omega)⟩
 obtain⟨ge,f3,rfl,_,cM⟩:=HE 0 p0 hp0;have DE:=cM 1 _ rfl;rw[show p0.2=AZ P.zX 0 from(cX.2 0 p0 (AJ P.zX.zZ 0) hp0 (by unfold AJ;exact A1 (by rw[hK.zP];omega))).2,Nat.zero_mul,xQ] at DE;rw[br] at x2;obtain⟨al,lc,rfl,fP,dE,HL⟩:=h.2.2.1.open;unfold maxLen at dE;have dt:=h.1.2.1;have dm:=hK.len;have ds:=AA hK.inf
 rcases hK.roots 0 (by omega) with hr|⟨hr0,hr1,hr2⟩
 .have S:=AA (show Bt P=false by rw[T,hr];rfl)
  rw[hr] at DE;clear T L hr dt ds dm HL h hB hK;go_in;go_wp2_with fail;go_ret;exact⟨AI S.out.symm,yF _ _⟩
 .obtain⟨rn,hrn⟩:∃n:Nat,AZ P.zX 0=(n:Int):=⟨(AZ P.zX 0).toNat,by omega⟩
  have dd:rn<12:=by omega
  simp only[hrn,xY] at T L;rw[hrn] at DE;have nr:¬(rn:Int)<0:=by omega
  by_cases cV:P.low.length=4
  .have CR:=AA (fun W (hW:Below w.heap.size w W)=>MC (w:=W) (f:=rn) ((hW.cell (yC w _ x1)).trans x1) (BJ.below dt hW) dm dd (ds.out rn dd))
   obtain⟨vs,o1,o2⟩:=h.1.1;have bg:vs.length=12:=by rw[o2.1];exact(Ah.1 hK.mem).1
   obtain⟨am,cm,rfl,_,_,HM⟩:=BJ.open D8 (by decide) o1;obtain⟨u,hu⟩:∃u,vs[rn]? =some u:=⟨_,yx (by omega)⟩
   have ba:=o2.2 rn u (AH P.zX.mem rn) hu (by unfold AH;exact A1 (by rw[<-o2.1];omega));have bl:(AH P.zX.mem rn).length=4:=(A5.1 ((Ah.1 hK.mem).2 rn dd)).1;obtain⟨gm,gH,rfl,_,fv⟩:=HM rn u hu;have DR:=fv 0 _ rfl;obtain⟨ar,rc,rfl,_,_,fm⟩:=ba.open;rw[vV,xQ,bl] at DR;rw[bg] at x0;rw[cV] at x5;have HF:=AA (ye x0 (ye x1 (ye x5 DR)));have dO:=AA (ye fm (ye bl (ye HL cV)));have gN:(0:Int)<=(rn:Int):=by omega
   have T2:=AA (show Bt P=(Fi P.zX.Os rn&&(yE 4).all (FU P)) by rw[T];simp[cV]);have gt:=AA L;have CI:=AA (fun(f:Nat) (hf:f<12) W (hW:Below w.heap.size w W)=>MC (w:=W) (f:=f) ((hW.cell (yC w _ HF.out.2.1)).trans HF.out.2.1) (BJ.below dt hW) dm hf (ds.out f hf));clear T L hr0 hr1 hr2 hrn dt ds dm HL h hB hK o1 o2 ba hu bg HM fv fm bl fP DR cV x1;cases hm:Fi P.zX.Os rn
   .rw[hm] at CR T2
    go_in;go_wp2_with fail;refine(CR.out _ (yF _ _)).mono ?_;rintro r w1 ⟨rfl,b1⟩;go_wp2_with fail;go_ret;exact⟨AI T2.out.symm,b1⟩
   .rw[hm] at CR T2
    go_in;go_wp2_with fail;refine(CR.out _ (yF _ _)).mono ?_;rintro r w1 ⟨rfl,b1⟩;replace x5:=(b1.cell (yC w _ x5)).trans x5;have ay:=AA b1;clear x0 x2 DE b1;go_wp2_with fail;clear x5;go_loopw [4,5,6,7,37] (fun _ _ _ _ ix wr=>∃k:Nat,k<=4/\ix= .int .i64 k/\(∀j,j<k->FU P j=true)/\Below w.heap.size w wr) (fun _ _ _ _ ix _=>4 - (intOf ix).toNat)
    case atStart=>exact⟨0,by omega,rfl,fun j hj=>by omega,ay.out⟩
    case round=>
     obtain⟨k,hk,rfl,an,hb⟩:=hrel
     by_cases ai:k<4
     .have k4:(k:Int)<4:=by omega
      obtain⟨lb,fC,rfl,DL⟩:=dO.out.2.2.1.at (k:=k) (by rw[dO.out.2.2.2];exact ai);obtain⟨rb,fy,rfl,DW⟩:=dO.out.1.at (k:=k) (by rw[dO.out.2.1];exact ai);replace DL:=(hb.cell (yC w _ DL)).trans DL;replace DW:=(hb.cell (yC w _ DW)).trans DW;have x0:=(hb.cell (yC w _ HF.out.1)).trans HF.out.1;have DR:=(hb.cell (yC w _ HF.out.2.2.2)).trans HF.out.2.2.2;have bf:=AA an;have Hb:=AA hb;have LK:=gt.out k;replace DL:wr.cell? ⟨lb,fC+k,none⟩=some (.int .i64 (BG P.low k)):=DL;replace DW:wr.cell? ⟨rb,fy+k,none⟩=some (.int .i64 (As P.zX.mem rn k)):=DW;generalize BG P.low k=v at DL LK;generalize As P.zX.mem rn k=wd at DW LK;clear an hb;cases ao:Bd v 0 11
      .have S:=AA (show Bt P=false by rw[T2.out,NL ai (by rw[LK,ao];rfl)];rfl)
       clear LK;go_wp2_with fail;refine(Nl v true _ ao).mono ?_;rintro r w3 ⟨rfl,rfl⟩;go_wp2_with fail;go_ret;exact⟨AI S.out.symm,Hb.out⟩
      .have hv:=Ac.1 ao
       obtain⟨f,rfl⟩:∃f:Nat,v=(f:Int):=⟨v.toNat,by omega⟩
       have hf:f<12:=by omega
       have CF:=AA (CI.out f hf wr Hb.out);rw[ao,xY] at LK;go_wp2_with fail;refine(Ip (f:Int) _ hv.1 hv.2).mono ?_;rintro r w3 ⟨rfl,rfl⟩
       by_cases he:wd=Gv (f:Int)
       .have t1:(wd !=Gv (f:Int))=false:=by simp[he]
        have dJ:FU P k=Fi P.zX.Os f:=by rw[LK];simp[he]
        generalize Gv (f:Int)=en at t1;clear LK he ao;go_wp2_with fail;refine CF.out.mono ?_;rintro r w4 ⟨rfl,b4⟩;have cQ:=AA (Hb.out.trans (b4.mono Hb.out.size));cases eN:Fi P.zX.Os f
        .have S:=AA (show Bt P=false by rw[T2.out,NL ai (by rw[dJ,eN])];rfl)
         clear dJ b4;go_wp2_with fail;go_ret;exact⟨AI S.out.symm,cQ.out⟩
        .have f7:=AA (dJ.trans eN)
         clear dJ b4;go_wp2_with fail;go_roundw
         case rel=>exact⟨k+1,by omega,by go_num,fun j hj=>by
          rcases xq.1 hj with x|x
          .exact bf.out j x
          .subst x;exact f7.out,cQ.out⟩
         case measure=>simp[intOf];omega
       .have t1:(wd !=Gv (f:Int))=true:=by simp[he]
        have S:=AA (show Bt P=false by rw[T2.out,NL ai (by rw[LK];simp[he])];rfl);generalize Gv (f:Int)=en at t1;clear LK he ao;go_wp2_with fail;go_ret;exact⟨AI S.out.symm,Hb.out⟩
     .obtain rfl:k=4:=by omega
      have S:=AA (show Bt P=true by rw[T2.out,Bool.true_and];exact yk.2 fun j hj=>an j (yj.1 hj));clear an;rw[show((4:Nat):Int)=4 from rfl];go_wp2_with fail;go_ret;exact⟨AI S.out.symm,hb⟩
  .have S:=AA (show Bt P=false by rw[T];simp[cV])
   have t4:((P.low.length:Int) !=4)=true:=by simp;omega
   clear T L hr0 hr1 hr2 hrn dt ds dm HL h hB hK cV;go_in;go_wp2_with fail;go_ret;exact⟨AI S.out.symm,yF _ _⟩
def EW (P:AR) (n:Nat):Bool:=
 if(AB P.No n).w=0 then decide ((AB P.No n).a=0)&&!(AB P.No n).u&&decide (Br P n=0)
 else if(AB P.No n).w=1 then Bd (AB P.No n).a 0 11&&decide (Br P n=Gv (AB P.No n).a)&&Fi P.zX.Os (AB P.No n).a.toNat
 else if(AB P.No n).w=2 then Bd (AB P.No n).a 0 15&&!(AB P.No n).u&&decide (Br P n=0)
 else false
def Fy (ks:List Int) (x:Bi):List Int:=if x.w=2 then ks.set x.a.toNat (nth ks x.a.toNat+1) else ks
def Iz (lo:Nat) (v:Value) (w:World):Prop:=∃q,v= .pointer (some ⟨q,0,none⟩)/\lo<=q/\w.heap[q]? =some (.cells #[.int .i64 0, .int .i64 0, .bool false] 40 (0,0))
theorem Iz.below {lo:Nat} {w:World} (h:Iz lo v w) (hb:Below w.heap.size w w'):Iz lo v w':=by obtain⟨q,h1,h2,h3⟩:=h;exact⟨q,h1,h2,AC h3 hb⟩
def SQ (lo:Nat) (w:World) (kv:Value) (ks:List Int) (b:Bool) (r:Ending) (w':World):Prop:=r= .returned (.bool b)/\AG lo w' kv ks/\w.grownBy w' kv.ownBlock/\Below lo w w'
theorem Vw {lo g:Nat} {w:World} {kv:Value} {P:AR} {ks:List Int} (hB:w.heap[g]? =some (.cells #[mv,iv,ev,cv,sv,lv,qv, .int .i64 P.zT, .int .i64 P.zW] 32 (0,0))) (h:Lr w mv iv ev cv sv lv qv P) (hK:DI P.zX) (eO:P.low.length=4) (bu:∀i,i<4->0<=BG P.low i/\BG P.low i<=11) (br:P.No.length=16)
 (hk:AG lo w kv ks) (cL:ks.length=16) (fQ:∀j,j<16->0<=nth ks j/\nth ks j<=1000) (cc:lo<=w.heap.size) {n:Nat} (hn:n<16):
 Calls prog 34 #[.pointer (some ⟨g,0,none⟩), .int .i64 n,kv] w (fun r w'=>∃cS,SQ lo w kv cS (EW P n) r w'/\(EW P n=true->cS=Fy ks (AB P.No n))):=by
 have CW:=AA (fun W (hW:Below w.heap.size w W)=>Xc (w:=W) (AC hB hW) (h.below hW) (Ah.1 hK.mem).1 (fun f hf=>(A5.1 ((Ah.1 hK.mem).2 f hf)).1) eO hn (bu (n/4) (by omega)));have x6:=(AE hB).2.2.2.2.2.2.1;have x1:=(AE hB).2.1;have CM:=AA (fun(f:Nat) (hf:f<12) W (hW:Below w.heap.size w W)=>MC (w:=W) (f:=f) ((hW.cell (yC w _ x1)).trans x1) (BJ.below h.1.2.1 hW) hK.len hf (hK.inf f hf));obtain⟨aq,qc,rfl,dg,cU,HQ⟩:=BJ.open Ew (by decide) h.2.2.2;rw[br] at x6 dg;obtain⟨qb,eB,rfl,dY,hc⟩:=HQ n _ (show P.No[n]? =some (AB P.No n) from A1 (by omega));have D0:=hc 0 _ rfl;have D1:=hc 1 _ rfl;have D2:=hc 2 _ rfl;rw[xQ] at D0;have hg:=AY hB;have PH:EW P n=(if(AB P.No n).w=0 then decide ((AB P.No n).a=0)&&!(AB P.No n).u&&decide (Br P n=0) else if(AB P.No n).w=1 then Bd (AB P.No n).a 0 11&&decide (Br P n=Gv (AB P.No n).a)&&Fi P.zX.Os (AB P.No n).a.toNat else if(AB P.No n).w=2 then Bd (AB P.No n).a 0 15&&!(AB P.No n).u&&decide (Br P n=0) else false):=rfl;generalize EW P n=res at PH ⊢;generalize Br P n=tw at PH CW;generalize AB P.No n=x at PH D0 D1 D2 ⊢;obtain⟨xw,xa,xu⟩:=x;dsimp only at PH D0 D1 D2;have d1:(n:Int)<16:=by omega
 have cj:=AA PH;have fo:=AA hk;clear PH hc HQ h hB hK eO bu br x1 dg cU hk;obtain⟨ka,kn,kc,rfl⟩:=Lg fo.out;go_in;go_wp2_with fail;refine BS 11 78 [.p g 0, .p g 0, .p g 6, .v (.slice (some ⟨qb,eB,none⟩) 16 qc), .i ((n:Int)), .p qb (eB+n*3), .a #[.int .i64 xw, .int .i64 xa, .bool xu], .p g 0, .i ((n:Int)), .i tw, .z] (fun ix vv ww=>match ix with
  |10=>Iz w.heap.size vv ww
  |_=>True) ?_ ?_ ?_
 .intro i hi o ho a wx Hb Hd hG K HK
  have cE:=bc hG hg x6;have cR:=bc hG dY D0;have eF:=bc hG dY D1;have eE:=bc hG dY D2
  match i,hi with
  |0,_|1,_|2,_|4,_|7,_|8,_=>exact sP ho HK Hb Hd
  |3,_=>exact sL ho HK Hb Hd (hl:=Zd ‹_›)
  |5,_=>exact sI ho HK Hb Hd (hr:=by clear Hd Hb HK;go_simp)
  |6,_=>exact sL ho HK Hb Hd (hl:=bS ‹_› ‹_› ‹_›)
  |9,_=>exact sD ho HK Hb Hd (CW.out _ hG)
  |10,_=>clear cE cR eF eE;obtain rfl:=yH ho;clear Hd Hb;refine yG ?_;go_simp;exact HK.out _ _ ⟨_,rfl,hG.size,yw _ _⟩ (AD _ _)
 .intro i hi vv wz gE fY hz
  match i,hi with
  |10,_=>exact(Iz.below hz fY)
  |0,_|1,_|2,_|3,_|4,_|5,_|6,_|7,_|8,_|9,_=>exact hz
 .intro vs wx hR hG
  have q6:(vs 6)= .agg #[.int .i64 xw, .int .i64 xa, .bool xu]:=BZ hR 6;have q9:(vs 9)= .int .i64 tw:=BZ hR 9;have eD:Iz w.heap.size (vs 10) wx:=BZ hR 10;clear hR;simp only[Al,AV,yE,yB,yA,yy,q6,q9];simp;generalize vs 10=z10 at eD ⊢;clear q6 q9;obtain⟨q,rfl,de,cT⟩:=eD;have c0:=yi _ _ 0 _ _ _ cT;have f6:=yi _ _ 1 _ _ _ cT;have c2:=yi _ _ 2 _ _ _ cT;have fq:=AK cT;have Pl:=Xa (W:=w) (a:= .int .i64 xw) (b:= .int .i64 xa) (c:= .bool xu) cT hG de;go_step;go_simp;clear c0 f6 c2 fq cT hG D0 D1 D2 x6;generalize((wx.setCell _ _).setCell _ _).setCell _ _=W1 at*;have y0:=yi _ _ 0 _ _ _ Pl.1;have y1:=yi _ _ 1 _ _ _ Pl.1;have y2:=yi _ _ 2 _ _ _ Pl.1;have a9:=AA Pl.2;have cp:=AA (show AG lo W1 (.slice ka kn kc) ks from fo.out.below Pl.2);have NO:=AA (fun(W:World) (hW:Below W1.heap.size W1 W) (b:Bool) (hb:res=b) (cb:xw≠2∨b=false)=>(⟨ks,⟨by rw[hb],cp.out.below hW,⟨(a9.out.trans (hW.mono a9.out.size)).os,(a9.out.trans (hW.mono a9.out.size)).tape,(a9.out.trans (hW.mono a9.out.size)).output,(a9.out.trans (hW.mono a9.out.size)).size,fun k hk _=>(a9.out.trans (hW.mono a9.out.size)).block k hk⟩,(a9.out.trans (hW.mono a9.out.size)).mono cc⟩,fun ht=>by
   rcases cb with x|x
   .unfold Fy;rw[if_neg x]
   .rw[hb,x] at ht;cases ht⟩:∃cS,SQ lo w (.slice ka kn kc) cS res (.returned (.bool b)) W/\(res=true->cS=Fy ks ⟨xw,xa,xu⟩)))
  clear Pl
  by_cases h0:xw=0
  .subst h0
   by_cases ha:xa=0
   .have t1:(xa==0)=true:=by simp[ha]
    cases xu
    .have R:=AA (show res=(tw==0) by rw[cj.out];simp[ha];by_cases h:tw=0<;>simp[h])
     clear ha;go_wp2_with fail;go_ret;exact NO.out _ (yF _ _) _ R.out (.inl (by decide))
    .have R:=AA (show res=false by rw[cj.out];simp)
     clear ha;go_wp2_with fail;go_ret;exact NO.out _ (yF _ _) _ R.out (.inl (by decide))
   .have t1:(xa==0)=false:=by simp[ha]
    have R:=AA (show res=false by rw[cj.out];simp[ha]);clear ha;go_wp2_with fail;go_ret;exact NO.out _ (yF _ _) _ R.out (.inl (by decide))
  .have n0:(xw==0)=false:=by simp[h0]
   by_cases h1:xw=1
   .subst h1
    cases ao:Bd xa 0 11
    .have R:=AA (show res=false by rw[cj.out,ao];rfl)
     go_wp2_with fail;refine(Nl xa true _ ao).mono ?_;rintro r w3 ⟨rfl,rfl⟩;go_wp2_with fail;go_ret;exact NO.out _ (yF _ _) _ R.out (.inl (by decide))
    .have hv:=Ac.1 ao
     obtain⟨f,rfl⟩:∃f:Nat,xa=(f:Int):=⟨xa.toNat,by omega⟩
     have hf:f<12:=by omega
     have CF:=AA (CM.out f hf W1 a9.out);have R0:res=(decide (tw=Gv (f:Int))&&Fi P.zX.Os f):=by rw[cj.out,ao];simp
     go_wp2_with fail;refine(Ip (f:Int) _ hv.1 hv.2).mono ?_;rintro r w3 ⟨rfl,rfl⟩
     by_cases he:tw=Gv (f:Int)
     .have R:=AA (show res=Fi P.zX.Os f by rw[R0];simp[he])
      have t1:(tw==Gv (f:Int))=true:=by simp[he]
      generalize Gv (f:Int)=en at t1;clear R0 he ao;go_wp2_with fail;refine CF.out.mono ?_;rintro r w4 ⟨rfl,b4⟩;have c9:=AA b4;clear b4;go_wp2_with fail;go_ret;exact NO.out _ c9.out _ R.out (.inl (by decide))
     .have R:=AA (show res=false by rw[R0];simp[he])
      have t1:(tw==Gv (f:Int))=false:=by simp[he]
      generalize Gv (f:Int)=en at t1;clear R0 he ao;go_wp2_with fail;go_ret;exact NO.out _ (yF _ _) _ R.out (.inl (by decide))
   .have n1:(xw==1)=false:=by simp[h1]
    by_cases h2:xw=2
    .subst h2
     cases ao:Bd xa 0 15
     .have R:=AA (show res=false by rw[cj.out,ao];rfl)
      go_wp2_with fail;refine(Do _ _ _ _).mono ?_;rintro r w3 ⟨rfl,rfl⟩;rw[ao];go_wp2_with fail;go_ret;exact NO.out _ (yF _ _) _ R.out (.inr rfl)
     .have hv:=Ac.1 ao
      obtain⟨sl,rfl⟩:∃sl:Nat,xa=(sl:Int):=⟨xa.toNat,by omega⟩
      have bm:sl<16:=by omega
      have dU:(sl:Int)<16:=by omega
      cases xu
      .by_cases ht:tw=0
       .have t1:(tw !=0)=false:=by simp[ht]
        have R:=AA (show res=true by rw[cj.out,ao];simp[ht]);have hb:=fQ sl bm;obtain⟨kb,fD,ek,gO,KC⟩:=JQ cp.out (j:=sl) (by omega);cases ek;rw[cL] at cp ⊢;replace KC:W1.cell? ⟨kb,sl,none⟩=some (.int .i64 (nth ks sl)):=KC;have bk:W1.ownsRow lo 3 1 (.slice (some ⟨kb,0,none⟩) 16 kc) 16 (ks.map (yf .i64)):=by have:=cp.out;unfold AG at this;rwa [cL] at this
        have FK:=xP bk sl;obtain⟨s1,s2⟩:=World.ownsRow.stored bk sl (.int .i64 (nth ks sl+1));have fL:=(yr bk kb rfl).1;have fi:=AA (show SQ lo w (.slice (some ⟨kb,0,none⟩) 16 kc) (Fy ks ⟨2,(sl:Int),false⟩) true (.returned (.bool true)) (W1.setCell ⟨kb,sl,none⟩ (.int .i64 (nth ks sl+1))) from
         ⟨rfl,by
          show AG _ _ _ (ks.set sl (nth ks sl+1))
          unfold AG;rw[xV,List.map_set,cL];exact s1,AO ⟨a9.out.os,a9.out.tape,a9.out.output,a9.out.size,fun k hk _=>a9.out.block k hk⟩ s2,AM (a9.out.mono cc) s2 fL (yD cc a9.out.size)⟩)
        generalize nth ks sl=old at KC hb fi;clear ht ao s1 s2 bk;go_wp2_with fail;refine(Do _ _ _ _).mono ?_;rintro r w3 ⟨rfl,rfl⟩;rw[show Bd (sl:Int) 0 15=true from Ac.2 hv];go_wp2_with fail;go_ret;exact⟨_,by rw[R.out,cL];exact fi.out,fun _=>rfl⟩
       .have t1:(tw !=0)=true:=by simp[ht]
        have R:=AA (show res=false by rw[cj.out,ao];simp[ht]);clear ht;go_wp2_with fail;refine(Do _ _ _ _).mono ?_;rintro r w3 ⟨rfl,rfl⟩;rw[ao];go_wp2_with fail;go_ret;exact NO.out _ (yF _ _) _ R.out (.inr rfl)
      .have R:=AA (show res=false by rw[cj.out,ao];simp)
       go_wp2_with fail;refine(Do _ _ _ _).mono ?_;rintro r w3 ⟨rfl,rfl⟩;rw[ao];go_wp2_with fail;go_ret;exact NO.out _ (yF _ _) _ R.out (.inr rfl)
    .have n2:(xw==2)=false:=by simp[h2]
     have R:=AA (show res=false by rw[cj.out];simp[h0,h1,h2]);clear h0 h1 h2;go_wp2_with fail;go_ret;exact NO.out _ (yF _ _) _ R.out (.inr rfl)
theorem YZ (ks:List Int) (x:Bi):(Fy ks x).length=ks.length:=by
 unfold Fy
 split
 .simp
 .rfl
theorem Ya {ks:List Int} {x:Bi} (hl:ks.length=16) (hx:x.w=2->0<=x.a/\x.a<=15) (s:Nat):nth (Fy ks x) s=nth ks s+(D5 (Cu s x):Int):=by
 unfold Fy Cu
 by_cases h:x.w=2
 .rw[if_pos h]
  have:=hx h;unfold nth;rw[xU,List.getElem?_set]
  by_cases e:x.a.toNat=s
  .subst e
   have e2:x.a=((x.a.toNat:Nat):Int):=by omega
   have hb:D5 (decide (x.w=2)&&decide (x.a=((x.a.toNat:Nat):Int)))=1:=by rw[<-e2];simp[h,D5]
   rw[if_pos rfl,if_pos (by omega),hb];simp
  .have hb:D5 (decide (x.w=2)&&decide (x.a=(s:Int)))=0:=by
    have:x.a≠(s:Int):=by omega
    simp[this,D5]
   rw[if_neg e,hb];simp[xU]
 .rw[if_neg h]
  have hb:D5 (decide (x.w=2)&&decide (x.a=(s:Int)))=0:=by simp[h,D5]
  rw[hb];simp
theorem YY {l:List Bi} (hx:∀x∈l,x.w=2->0<=x.a/\x.a<=15) {ks:List Int} (hl:ks.length=16) (s:Nat):(l.foldl Fy ks).length=16/\nth (l.foldl Fy ks) s=nth ks s+(CJ l s:Int):=by
 induction l generalizing ks with
 |nil=>exact⟨hl,by simp[CJ]⟩
 |cons x l ih=>
  have I:=ih (fun y hy=>hx y (List.mem_cons_of_mem _ hy)) (ks:=Fy ks x) (by rw[YZ,hl]);refine⟨I.1,?_⟩;rw[yA,I.2,Ya hl (hx x (List.mem_cons_self ..))];unfold CJ;rw[List.countP_cons];unfold D5
  split<;>simp_all<;>omega
theorem WS {P:AR} (hl:P.No.length=16) (hs:(yE 16).all (Dl P)=true) {n:Nat} (hn:n<16):GG P n=EW P n:=by
 unfold GG EW
 by_cases h0:(AB P.No n).w=0
 .rw[if_pos h0,if_pos h0]
 rw[if_neg h0,if_neg h0]
 by_cases h1:(AB P.No n).w=1
 .rw[if_pos h1,if_pos h1]
 rw[if_neg h1,if_neg h1]
 by_cases h2:(AB P.No n).w=2
 .rw[if_pos h2,if_pos h2]
  cases ao:Bd (AB P.No n).a 0 15
  .simp
  .have hv:=Ac.1 ao
   have ho:=yk.1 hs (AB P.No n).a.toNat (yj.2 (by omega));unfold Dl at ho;rw[decide_eq_true_eq] at ho;have hm:AB P.No n∈P.No:=by have:P.No[n]? =some (AB P.No n):=A1 (by omega);exact yg this
   have dh:0<CJ P.No (AB P.No n).a.toNat:=by
    unfold CJ;rw[List.countP_pos_iff];refine⟨_,hm,?_⟩;unfold Cu;have:(AB P.No n).a=(((AB P.No n).a.toNat:Nat):Int):=by omega
    rw[<-this];simp[h2]
   cases he:(AH P.swap (AB P.No n).a.toNat).isEmpty
   .simp
   .rw[he,if_pos rfl] at ho;omega
 .rw[if_neg h2,if_neg h2]
theorem Qk (P:AR):Bz P=(Cj P.zX&&Ey P.swap&&decide (P.No.length=16)&&Bt P&&GV P.zX&&(yE 16).all (EW P)&&(yE 16).all (Dl P)&&(Bd P.zT 0 15&&Bd P.zW 1 6&&decide ((Ai P.No 1:Int)<=P.zW))):=by
 unfold Bz
 by_cases hl:P.No.length=16
 .cases hs:(yE 16).all (Dl P)
  .simp
  .have:(yE 16).all (GG P)=(yE 16).all (EW P):=by
    rw[wF,yk,yk];exact⟨fun h n hn=>by rw[<-WS hl hs (yj.1 hn)];exact h n hn,fun h n hn=>by rw[WS hl hs (yj.1 hn)];exact h n hn⟩
   rw[this];cases Cj P.zX<;>cases Ey P.swap<;>cases GV P.zX<;>cases Bt P<;>cases(yE 16).all (EW P)<;>simp[hl,Bool.and_assoc]
 .simp[hl]
theorem Tm {K:AN} (hk:k<3) (h:Bv (A4 K k) gA≠decide (k=0)):GV K=false:=by
 unfold GV
 match k,hk,h with
 |0,_,h=>simp at h;simp[h]
 |1,_,h=>simp at h;simp[h]
 |2,_,h=>simp at h;simp[h]
theorem Wm {K:AN} (h:∀j,j<3->Bv (A4 K j) gA=decide (j=0)):GV K=true:=by unfold GV;rw[h 0 (by omega),h 1 (by omega),h 2 (by omega)];rfl
theorem VW {P:AR} (hl:P.No.length=16) {k:Nat} (h:∀j,j<k->EW P j=true):∀x∈P.No.take k,x.w=2->0<=x.a/\x.a<=15:=by
 intro x hx hw;obtain⟨j,hj⟩:=List.getElem?_of_mem hx;have eT:j<k:=by have:=(List.getElem?_eq_some_iff.1 hj).1;rw[xW] at this;omega
 rw[List.getElem?_take,if_pos eT] at hj;have e:AB P.No j=x:=by unfold AB;rw[xU,hj];rfl
 have:=h j eT;unfold EW at this;rw[e,if_neg (by omega),if_neg (by omega),if_pos hw] at this;simp only[yt] at this;exact Ac.1 this.1.1
theorem QC {P:AR} (h:Bt P=true):P.low.length=4/\∀i,i<4->0<=BG P.low i/\BG P.low i<=11:=by
 unfold Bt at h;simp only[yt,decide_eq_true_eq,yk,yj] at h;refine⟨h.1.1.2,fun i hi=>?_⟩;have:=h.2 i hi;unfold FU at this;simp only[yt] at this;exact Ac.1 this.1.1
theorem Km (mv iv ev cv sv lv qv:Value) (P:AR) (w:World) (h:Lr w mv iv ev cv sv lv qv P) (hs:EQ P.zX):
 Calls prog 12 #[AQ mv iv ev cv sv lv qv P.zT P.zW] w (fun r w'=>r= .returned (.bool (Bz P))/\Below w.heap.size w w'):=by
 have Pt:=Qk P;unfold AQ;have N0:=yw w (.cells #[mv,iv,ev,cv,sv,lv,qv, .int .i64 P.zT, .int .i64 P.zW] 32);have b0:=AD w (.cells #[mv,iv,ev,cv,sv,lv,qv, .int .i64 P.zT, .int .i64 P.zW] 32);have h0:=h.below b0;go_in;go_wp2_with fail;generalize w.alloc _=W0 at*;have C1:=AA (fun W (hW:Below W0.heap.size W0 W)=>NF mv iv ev cv P.zX W (h0.1.below hW) hs);have C2:=AA (fun W (hW:Below W0.heap.size W0 W)=>Ow sv P.swap W (h0.2.1.below hW));have bi:=AA b0;obtain⟨aq,qc,rfl,dg,cU⟩:=h0.2.2.2.shape;unfold maxLen at cU;have ai:w.heap.size<W0.heap.size:=AY N0;cases hk:Cj P.zX
 .have S:=AA (show Bz P=false by rw[Pt,hk];rfl)
  rw[hk] at C1;clear Pt;refine(C1.out W0 (yF _ _)).mono ?_;rintro r w1 ⟨rfl,b1⟩;have HB:=AA (bi.out.trans (b1.mono bi.out.size));clear N0 b0 h h0 b1;go_wp2_with fail;go_ret;exact⟨AI S.out.symm,HB.out⟩
 rw[hk] at C1;refine(C1.out W0 (yF _ _)).mono ?_;rintro r w1 ⟨rfl,b1⟩;have x4:=(AE (AC N0 b1)).2.2.2.2.1;have B1:=AA b1;cases ax:Ey P.swap
 .have S:=AA (show Bz P=false by rw[Pt,hk,ax];rfl)
  have C:=C2.out w1 b1;rw[ax] at C;clear Pt N0 b0 h h0 b1;go_wp2_with fail;refine C.mono ?_;rintro r w2 ⟨rfl,b2⟩;have HB:=AA (bi.out.trans ((B1.out.trans (b2.mono B1.out.size)).mono bi.out.size));clear b2;go_wp2_with fail;go_ret;exact⟨AI S.out.symm,HB.out⟩
 have C:=C2.out w1 b1;rw[ax] at C;clear b1;go_wp2_with fail;refine C.mono ?_;rintro r w2 ⟨rfl,b2⟩;have B2:=AA (B1.out.trans (b2.mono B1.out.size));have x6:=(AE (AC N0 B2.out)).2.2.2.2.2.2.1;clear b2 C x4
 by_cases hl:P.No.length=16
 .rw[hl] at x6
  cases ht:Bt P
  .have S:=AA (show Bz P=false by rw[Pt,hk,ax,ht];simp)
   have C:=Ms (AC N0 B2.out) (h0.below B2.out) (EU.1 hk);rw[ht] at C;clear Pt N0 b0 h h0;go_wp2_with fail;refine C.mono ?_;rintro r w3 ⟨rfl,b3⟩;have HB:=AA (bi.out.trans ((B2.out.trans (b3.mono B2.out.size)).mono bi.out.size));clear b3;go_wp2_with fail;go_ret;exact⟨AI S.out.symm,HB.out⟩
  .have C:=Ms (AC N0 B2.out) (h0.below B2.out) (EU.1 hk)
   rw[ht] at C;go_wp2_with fail;refine C.mono ?_;rintro r w3 ⟨rfl,b3⟩;have B3:=AA (B2.out.trans (b3.mono B2.out.size));have bj:=AA (bi.out.trans (B3.out.mono bi.out.size));have hK:=EU.1 hk;have h3:=h0.below B3.out;have N3:=AC N0 B3.out;obtain⟨ps,dG,cX⟩:=h3.1.2.2.1;have br:ps.length=3:=by rw[cX.1,hK.zP]
   obtain⟨ae,ce,rfl,fV,_,HE⟩:=BJ.open FW (by decide) dG;have x2:=(AE N3).2.2.1;rw[br] at x2;have dI:=AA (show Bz P=(GV P.zX&&(yE 16).all (EW P)&&(yE 16).all (Dl P)&&(Bd P.zT 0 15&&Bd P.zW 1 6&&decide ((Ai P.No 1:Int)<=P.zW))) by rw[Pt,hk,ax,ht];simp[hl]);have HK:=AA hK;have HL:=AA (ye hl (ye ax ht));have H3:=AA (ye N3 h3);have fp:=AA (ye HE cX);have gz:=AA br;clear Pt hk hK ax ht hl N0 b0 h h0 C1 C2 C b3 x6 HE dG cX br hs N3 h3 B1 B2;go_wp2_with fail;clear x2;go_loopw [3,4,33] (fun _ _ ix wr=>∃k:Nat,k<=3/\ix= .int .i64 k/\(∀j,j<k->Bv (A4 P.zX j) gA=decide (j=0))/\Below w3.heap.size w3 wr) (fun _ _ ix _=>3 - (intOf ix).toNat)
   case atStart=>exact⟨0,by omega,rfl,fun j hj=>by omega,yF _ _⟩
   case round=>
    obtain⟨k,eP,rfl,an,hb⟩:=hrel
    by_cases dk:k<3
    .have k3:(k:Int)<3:=by omega
     obtain⟨p,hp⟩:∃p,ps[k]? =some p:=⟨_,yx (by have:=gz.out;omega)⟩
     obtain⟨ge,f3,rfl,fT,cM⟩:=fp.out.1 k p hp;have dC:=fp.out.2.2 k p (AJ P.zX.zZ k) hp (by unfold AJ;exact A1 (by rw[HK.out.zP];omega));have D0:=(hb.cell (yC w3 _ (cM 0 _ rfl))).trans (cM 0 _ rfl);have D1:=(hb.cell (yC w3 _ (cM 1 _ rfl))).trans (cM 1 _ rfl);rw[xQ] at D0;obtain⟨pv,pr⟩:=p;dsimp only at D0 D1 dC;obtain⟨pa,pn,rfl,_,_⟩:=BJ.shape dC.1;have bn:=hb.trans ((AD wr (.cells #[.slice pa (AJ P.zX.zZ k).zV.length pn, .int .i64 pr] 62)).mono hb.size);have CM:=Oc _ (AJ P.zX.zZ k).zV gA _ (BJ.below dC.1 bn);have bf:=AA an;have fk:=AA bn;have HM:=AA (show Bv (A4 P.zX k) gA=Bv (AJ P.zX.zZ k).zV gA from rfl);generalize Bv (AJ P.zX.zZ k).zV gA=b at CM HM;generalize(AJ P.zX.zZ k).zV.length=rl at*;clear cM dC an bn hp;go_wp2_with fail;refine CM.mono ?_;rintro r w5 ⟨rfl,b5⟩;have ch:=AA (fk.out.trans (b5.mono fk.out.size));clear b5 CM
     by_cases k0:k=0
     .have t0:((k:Int)==0)=true:=by simp[k0]
      cases b
      .have S:=AA (show Bz P=false by rw[dI.out,Tm dk (by rw[HM.out];simp[k0])];rfl)
       clear k0;go_wp2_with fail;go_ret;exact⟨AI S.out.symm,bj.out.trans (ch.out.mono bj.out.size)⟩
      .have K0:=AA k0
       clear k0;go_wp2_with fail;go_roundw
       case rel=>exact⟨k+1,by omega,by go_num,fun j hj=>by
        rcases xq.1 hj with x|x
        .exact bf.out j x
        .subst x;rw[HM.out];simp[K0.out],ch.out⟩
       case measure=>simp[intOf];omega
     .have t0:((k:Int)==0)=false:=by simp[k0]
      cases b
      .have K0:=AA k0
       clear k0;go_wp2_with fail;go_roundw
       case rel=>exact⟨k+1,by omega,by go_num,fun j hj=>by
        rcases xq.1 hj with x|x
        .exact bf.out j x
        .subst x;rw[HM.out];simp[K0.out],ch.out⟩
       case measure=>simp[intOf];omega
      .have S:=AA (show Bz P=false by rw[dI.out,Tm dk (by rw[HM.out];simp[k0])];rfl)
       clear k0;go_wp2_with fail;go_ret;exact⟨AI S.out.symm,bj.out.trans (ch.out.mono bj.out.size)⟩
    .obtain rfl:k=3:=by omega
     have fh:=AA (show Bz P=((yE 16).all (EW P)&&(yE 16).all (Dl P)&&(Bd P.zT 0 15&&Bd P.zW 1 6&&decide ((Ai P.No 1:Int)<=P.zW))) by rw[dI.out,Wm an];simp);have dx:=AA hb;have TL:=AA (QC HL.out.2.2);clear an dI;rw[show((3:Nat):Int)=3 from rfl];have x6:=(AE (AC H3.out.1 hb)).2.2.2.2.2.2.1;rw[HL.out.1] at x6;go_wp2_with (refine Of (n:=16) rfl rfl 3 (.int .i64 0) 8 underlying29 Tryz.zK rfl rfl (by omega) (by unfold maxLen;omega) ?_;intro w6 ad cN fF;replace x6:=(cN.cell (yC wr _ x6)).trans x6);have St:AG w3.heap.size w6 (.slice (some ⟨wr.heap.size,0,none⟩) 16 16) (xX 16 0):=BR (by simpa[AG] using ad) dx.out.size;have gh:=AA (dx.out.trans (cN.mono dx.out.size));generalize wr.heap.size=gk at*;clear ad cN fF hb;go_wp2_with fail;clear x6;go_loopw [6,49] (fun _ ix wx=>∃k:Nat,k<=16/\ix= .int .i64 k/\(∀j,j<k->EW P j=true)/\AG w3.heap.size wx (.slice (some ⟨gk,0,none⟩) 16 16) ((P.No.take k).foldl Fy (xX 16 0))/\Below w3.heap.size w3 wx) (fun _ ix _=>16 - (intOf ix).toNat)
     case atStart=>exact⟨0,by omega,rfl,fun j hj=>by omega,St,gh.out⟩
     case round=>
      clear St;obtain⟨k,eP,rfl,an,St,hb⟩:=hrel;have KA:=AA (fun s=>YY (l:=P.No.take k) (VW HL.out.1 an) (ks:=xX 16 0) (by simp) s)
      by_cases cu:k<16
      .have gJ:(k:Int)<16:=by omega
       have C:=Vw (AC H3.out.1 hb) (H3.out.2.below hb) HK.out TL.out.1 TL.out.2 HL.out.1 St (KA.out 0).1 (fun j hj=>by
        rw[(KA.out j).2];have h0:nth (xX 16 (0:Int)) j=0:=by unfold nth;rw[xU,vW];split<;>rfl
        have h1:CJ (P.No.take k) j<=(P.No.take k).length:=by unfold CJ;exact vO
        have h2:(P.No.take k).length<=16:=by rw[xW];omega
        omega) hb.size cu
       have Nx:=AA (show(P.No.take (k+1)).foldl Fy (xX 16 0)=Fy ((P.No.take k).foldl Fy (xX 16 0)) (AB P.No k) by rw[Cw (show P.No[k]? =some (AB P.No k) from A1 (by have:=HL.out.1;omega)),uB];rfl)
       have bf:=AA an;have Hb:=AA hb;generalize(P.No.take k).foldl Fy (xX 16 0)=ks at*;clear an hb St KA;go_wp2_with fail;refine C.mono ?_;rintro r w7 ⟨cS,⟨rfl,o7,g7,b7⟩,e7⟩;have fl:=AA (Hb.out.trans b7);have O7:=AA o7;cases dZ:EW P k
       .have S:=AA (show Bz P=false by rw[fh.out,NL cu dZ];rfl)
        clear o7 g7 b7 e7 C;go_wp2_with fail;go_ret;exact⟨AI S.out.symm,bj.out.trans (fl.out.mono bj.out.size)⟩
       .have E7:=AA (e7 dZ)
        have PH:=AA dZ;clear o7 g7 b7 e7 C;go_wp2_with fail;go_roundw
        case rel=>exact⟨k+1,by omega,by go_num,fun j hj=>by
         rcases xq.1 hj with x|x
         .exact bf.out j x
         .subst x;exact PH.out,by rw[Nx.out,<-E7.out];exact O7.out,fl.out⟩
        case measure=>simp[intOf];omega
      .obtain rfl:k=16:=by omega
       have ep:=AA (show Bz P=((yE 16).all (Dl P)&&(Bd P.zT 0 15&&Bd P.zW 1 6&&decide ((Ai P.No 1:Int)<=P.zW))) by rw[fh.out,yk.2 (fun j hj=>an j (yj.1 hj))];simp);rw[wv (by have:=HL.out.1;omega)] at St KA;generalize P.No.foldl Fy (xX 16 0)=ks at St KA;have cL:=(KA.out 0).1;have bk:wr.ownsRow w3.heap.size 3 1 (.slice (some ⟨gk,0,none⟩) 16 16) 16 (ks.map (yf .i64)):=by have:=St;unfold AG at this;rwa [cL] at this
       have KC:=AA (fun(j:Nat) (hj:j<16)=>show wr.cell? ⟨gk,j,none⟩=some (.int .i64 (CJ P.No j:Int)) from by
        rw[xC bk j (by omega),wQ,yx (by omega)];have e:=(KA.out j).2;have h0:nth (xX 16 (0:Int)) j=0:=by unfold nth;rw[xU,vW];split<;>rfl
        rw[h0,Int.zero_add] at e;unfold nth at e;rw[xU,yx (by omega)] at e;simp at e;rw[<-e];rfl)
       obtain⟨vs,s1,s2⟩:=(H3.out.2.below hb).2.1;have bm:P.swap.length=16:=(F7.1 HL.out.2.1).1;have bg:vs.length=16:=by rw[s2.1,bm]
       obtain⟨g0,gZ,rfl,_,_,HS⟩:=BJ.open D8 (by decide) s1;have x4:=(AE (AC H3.out.1 hb)).2.2.2.2.1;rw[bg] at x4;have f9:=AA x4;have Hb:=AA hb;have dN:=AA (ye HS (ye s2 (ye bm bg)));clear an hb St KA bk cL HS s1 s2 bm bg x4;generalize hW4:wr=w4 at*;go_wp2_with fail;go_loopw [7,8,59] (fun _ _ ix wx=>∃k:Nat,k<=16/\ix= .int .i64 k/\(∀j,j<k->Dl P j=true)/\w4=wx) (fun _ _ ix _=>16 - (intOf ix).toNat)
       case atStart=>exact⟨0,by omega,rfl,fun j hj=>by omega,rfl⟩
       case round=>
        obtain⟨k,eP,rfl,an,rfl⟩:=hrel
        by_cases bK:k<16
        .have gI:(k:Int)<16:=by omega
         have f8:=KC.out k bK;obtain⟨u,hu⟩:∃u,vs[k]? =some u:=⟨_,yx (by have:=dN.out.2.2.2;omega)⟩
         obtain⟨sb,gG,rfl,gK,e6⟩:=dN.out.1 k u hu;have DS:=e6 0 _ rfl;have dW:=dN.out.2.1.2 k u (AH P.swap k) hu (by unfold AH;exact A1 (by have:=dN.out.2.2.1;omega));obtain⟨ua,uc,rfl,_,_,_⟩:=dW.open;rw[vV,xQ] at DS;have x4:=f9.out;have bf:=AA an;have SO:Dl P k=decide (CJ P.No k=if(AH P.swap k).isEmpty then 0 else 1):=rfl;generalize CJ P.No k=n at f8 SO;generalize AH P.swap k=row at DS SO dW;clear e6 an hu dW
         by_cases hr:row=[]
         .subst hr
          simp only[List.length_nil] at DS
          by_cases ct:n=0
          .have PS:=AA (show Dl P k=true by rw[SO,ct];rfl)
           subst ct;clear SO;go_wp2_with fail;go_roundw
           case rel=>exact⟨k+1,by omega,by go_num,fun j hj=>by
            rcases xq.1 hj with x|x
            .exact bf.out j x
            .subst x;exact PS.out,trivial⟩
           case measure=>simp[intOf];omega
          .have S:=AA (show Bz P=false by rw[ep.out,NL bK (by rw[SO];simp[ct])];rfl)
           have t1:((n:Int) !=0)=true:=by simp;omega
           clear SO ct;go_wp2_with fail;go_ret;exact⟨AI S.out.symm,bj.out.trans (Hb.out.mono bj.out.size)⟩
         .have dh:0<row.length:=List.length_pos_iff.2 hr
          have he:row.isEmpty=false:=by cases row with|nil=>exact absurd rfl hr|cons a l=>rfl
          generalize row.length=rl at DS dh;have p1:(0:Int)<(rl:Int):=by omega
          have t2:((rl:Int)==0)=false:=by simp;omega
          rw[he] at SO;clear hr he
          by_cases dD:n=1
          .have PS:=AA (show Dl P k=true by rw[SO,dD];rfl)
           subst dD;clear SO;go_wp2_with fail;go_roundw
           case rel=>exact⟨k+1,by omega,by go_num,fun j hj=>by
            rcases xq.1 hj with x|x
            .exact bf.out j x
            .subst x;exact PS.out,trivial⟩
           case measure=>simp[intOf];omega
          .have S:=AA (show Bz P=false by rw[ep.out,NL bK (by rw[SO];simp[dD])];rfl)
           have t1:((n:Int) !=1)=true:=by simp;omega
           clear SO dD;go_wp2_with fail;go_ret;exact⟨AI S.out.symm,bj.out.trans (Hb.out.mono bj.out.size)⟩
        .obtain rfl:k=16:=by omega
         have du:=AA (show Bz P=(Bd P.zT 0 15&&Bd P.zW 1 6&&decide ((Ai P.No 1:Int)<=P.zW)) by rw[ep.out,yk.2 (fun j hj=>an j (yj.1 hj))];simp);have N4:=AC H3.out.1 Hb.out;have df:=H3.out.2.below Hb.out;have x7:=(AE N4).2.2.2.2.2.2.2.1;have x8:=(AE N4).2.2.2.2.2.2.2.2;have dq:=AY N4;have CN:=AA (fun W (hW:Below w4.heap.size w4 W)=>Pi (AE (AC N4 hW)).2.2.2.2.2.2.1 (BJ.below df.2.2.2 hW) HL.out.1 1);have CH:=AA (fun W=>Do P.zT 0 15 W);have CL:=AA (fun W=>Do P.zW 1 6 W);clear an N4 df;cases d6:Bd P.zT 0 15
         .have S:=AA (show Bz P=false by rw[du.out,d6];rfl)
          rw[d6] at CH;go_wp2_with fail;refine Aa 14 103 [.p w.heap.size 7, .i (P.zT), .b false, .b false, .u, .u, .u, .b false, .b false, .u, .u, .u, .u, .b false] (fun _ _ _=>True) ?_ ?_
          .intro i hi o ho a wx Hb Hd hG K HK
           have cE:=bc hG dq x7
           match i,hi with
           |0,_|3,_|7,_|8,_|13,_=>exact sP ho HK Hb Hd
           |1,_=>exact sL ho HK Hb Hd (hl:=Fo ‹_›)
           |2,_=>exact sE ho HK Hb Hd (CH.out _)
           |4,_|5,_|6,_|9,_|10,_|11,_|12,_=>exact sB ho HK Hd
          .intro vs wx hR hG
           have cr:(vs 13)= .bool false:=BZ hR 13;clear hR;simp only[Al,AV,yE,yB,yA,yy,cr];simp;clear cr;go_wp2_with fail;go_ret;exact⟨AI S.out.symm,bj.out.trans ((Hb.out.trans (hG.mono Hb.out.size)).mono bj.out.size)⟩
         .rw[d6] at CH du
          cases d5:Bd P.zW 1 6
          .have S:=AA (show Bz P=false by rw[du.out,d5];rfl)
           rw[d5] at CL;go_wp2_with fail;refine Aa 14 103 [.p w.heap.size 7, .i (P.zT), .b true, .b true, .p w.heap.size 8, .i (P.zW), .b false, .b false, .b false, .u, .u, .u, .u, .b false] (fun _ _ _=>True) ?_ ?_
           .intro i hi o ho a wx Hb Hd hG K HK
            have cE:=bc hG dq x7;have cR:=bc hG dq x8
            match i,hi with
            |0,_|3,_|4,_|7,_|8,_|13,_=>exact sP ho HK Hb Hd
            |1,_|5,_=>exact sL ho HK Hb Hd (hl:=Fo ‹_›)
            |2,_=>exact sE ho HK Hb Hd (CH.out _)
            |6,_=>exact sE ho HK Hb Hd (CL.out _)
            |9,_|10,_|11,_|12,_=>exact sB ho HK Hd
           .intro vs wx hR hG
            have cr:(vs 13)= .bool false:=BZ hR 13;clear hR;simp only[Al,AV,yE,yB,yA,yy,cr];simp;clear cr;go_wp2_with fail;go_ret;exact⟨AI S.out.symm,bj.out.trans ((Hb.out.trans (hG.mono Hb.out.size)).mono bj.out.size)⟩
          .rw[d5] at CL du
           have S:=AA (show Bz P=decide ((Ai P.No 1:Int)<=P.zW) by rw[du.out];simp);generalize Ai P.No 1=cn at CN S;go_wp2_with fail;refine Aa 14 103 [.p w.heap.size 7, .i (P.zT), .b true, .b true, .p w.heap.size 8, .i (P.zW), .b true, .b true, .b true, .i ((cn:Int)), .p w.heap.size 8, .i (P.zW), .b (decide ((cn:Int)<=P.zW)), .b (decide ((cn:Int)<=P.zW))] (fun _ _ _=>True) ?_ ?_
           .intro i hi o ho a wx Hb Hd hG K HK
            have cE:=bc hG dq x7;have cR:=bc hG dq x8
            match i,hi with
            |0,_|3,_|4,_|7,_|8,_|10,_|13,_=>exact sP ho HK Hb Hd
            |1,_|5,_|11,_=>exact sL ho HK Hb Hd (hl:=Fo ‹_›)
            |2,_=>exact sE ho HK Hb Hd (CH.out _)
            |6,_=>exact sE ho HK Hb Hd (CL.out _)
            |9,_=>exact sD ho HK Hb Hd (CN.out _ hG)
            |12,_=>clear cE cR;obtain rfl:=yH ho;have d9:(a.tmps[98]?.getD undef)= .int .i64 cn:=BT Hd 9;have gY:(a.tmps[100]?.getD undef)= .int .i64 (P.zW):=BT Hd 11;have d8:(a.tmps[97]?.getD undef)= .bool true:=BT Hd 8;clear Hd Hb;refine AX.yes rfl rfl d8 ?_;go_simp;exact HK.out _ _ rfl (yF _ _)
           .intro vs wx hR hG
            have cr:(vs 13)= .bool (decide ((cn:Int)<=P.zW)):=BZ hR 13;clear hR;simp only[Al,AV,yE,yB,yA,yy,cr];simp;clear cr;go_wp2_with fail;go_ret;exact⟨AI S.out.symm,bj.out.trans ((Hb.out.trans (hG.mono Hb.out.size)).mono bj.out.size)⟩
 .have S:=AA (show Bz P=false by rw[Pt];simp[hl])
  have t1:((P.No.length:Int) !=16)=true:=by simp;omega
  have HB:=AA (bi.out.trans (B2.out.mono bi.out.size));clear Pt N0 b0 h h0 hl;go_wp2_with fail;go_ret;exact⟨AI S.out.symm,HB.out⟩
section
variable {lo g:Nat} {w w1:World} {m i e c s l q:Value} {P:AR}
theorem Gg.zi (h:Gg lo g w m i e c s l q P) (x:Int):Gg lo g (w.setCell ⟨g,7,none⟩ (.int .i64 x)) m i e c s l q {P with zT:=x}/\w.grownBy (w.setCell ⟨g,7,none⟩ (.int .i64 x)) (some g):=by have eU:=Aq w g 7 (.int .i64 x);have F:=h.own.yN eU h.yM;refine⟨⟨?_,h.yL,⟨F.ker,F.swp,F.low,F.pgs,F.apart⟩⟩,eU⟩;have:=heap_setCell_same w g 7 _ 32 (.int .i64 x) h.yM;simpa using this
theorem Gg.zq {n0 bw j:Nat} {x y:Bi} {u:Value} (h:Gg lo g w m i e c s l (.slice (some ⟨gq,0,none⟩) n0 bw) P) (ct:n0=P.No.length) (hk:P.No[n]? =some x) (hj:j<3) (hy:Cz y=(Cz x).set j u):
 Gg lo g (w.setCell ⟨gq,n*3+j,none⟩ u) m i e c s l (.slice (some ⟨gq,0,none⟩) n0 bw) {P with No:=P.No.set n y}/\w.grownBy (w.setCell ⟨gq,n*3+j,none⟩ u) (some gq)/\lo<=gq:=by
 obtain⟨hB,bW,⟨k0,⟨vs,hs⟩,cc,hp,bs⟩⟩:=h;subst ct;have S:=AP.zz Ew hp hk hj hy;obtain⟨eo,hc⟩:=A6 hp gq rfl;exact⟨⟨Ap hB S.2 (Bo hc hB),bW,⟨k0.yN S.2 hc,⟨vs,hs.yN S.2 hc⟩,Eo cc S.2 hc,S.1,bs⟩⟩,S.2,(yr hp gq rfl).1⟩
theorem Gg.zr {n0 bw:Nat} (h:Gg lo g w m i e c s l (.slice (some ⟨gq,0,none⟩) n0 bw) P) (ct:n0=P.No.length) (hn:n<P.No.length) (y:Bi):
 Gg lo g (((w.setCell ⟨gq,n*3,none⟩ (.int .i64 y.w)).setCell ⟨gq,n*3+1,none⟩ (.int .i64 y.a)).setCell ⟨gq,n*3+2,none⟩ (.bool y.u)) m i e c s l (.slice (some ⟨gq,0,none⟩) n0 bw) {P with No:=P.No.set n y}/\w.grownBy (((w.setCell ⟨gq,n*3,none⟩ (.int .i64 y.w)).setCell ⟨gq,n*3+1,none⟩ (.int .i64 y.a)).setCell ⟨gq,n*3+2,none⟩ (.bool y.u)) (some gq)/\lo<=gq:=by
 obtain⟨hB,bW,⟨k0,⟨vs,hs⟩,cc,hp,bs⟩⟩:=h;subst ct;have S:=AP.stored Ew hp hn y;obtain⟨eo,hc⟩:=A6 hp gq rfl;exact⟨⟨Ap hB S.2 (Bo hc hB),bW,⟨k0.yN S.2 hc,⟨vs,hs.yN S.2 hc⟩,Eo cc S.2 hc,S.1,bs⟩⟩,S.2,(yr hp gq rfl).1⟩
theorem Gg.zb (h:Gg lo g w m i e c s l q P) {vs:List Value} {S:List (List Int)} (hg:w.grownBy w1 s.ownBlock) (hO:At lo w1 s vs S):Gg lo g w1 m i e c s l q {P with swap:=S}:=by
 obtain⟨hB,bW,⟨⟨⟨ms,k1,k2,k3⟩,k4,⟨ps,k5,k6,k7⟩,k8⟩,⟨us,hs⟩,cc,hp,bs⟩⟩:=h;have dj:=Dd hs.1 hB (by decide);refine⟨(hg.block g (AY hB) (fun e=>dj e.symm)).trans hB,bW,⟨⟨⟨ms,Au k1 hg bs.ne,k2.mono fun _ _ x=>Au x hg (A7 x hs.1 (by decide)).ne,k3⟩,Au k4 hg (A7 k4 hs.1 (by decide)).ne,⟨ps,Au k5 hg (A7 k5 hs.1 (by decide)).ne,k6.mono fun _ _ x=>⟨Au x.1 hg (A7 x.1 hs.1 (by decide)).ne,x.2⟩,k7⟩,Au k8 hg (A7 k8 hs.1 (by decide)).ne⟩,⟨vs,hO⟩,Au cc hg (A7 cc hs.1 (by decide)).ne,Au hp hg (A7 hp hs.1 (by decide)).ne,bs⟩⟩
theorem Gg.page (h:Gg lo g w m i e c s l q P) {n:Nat} (hn:n<P.No.length):∃gq bw,q= .slice (some ⟨gq,0,none⟩) P.No.length bw/\P.No.length<=bw/\lo<=gq/\gq<w.heap.size/\gq≠g/\(∀j,w.frozen? ⟨gq,j,none⟩=false)/\w.cell? ⟨gq,n*3,none⟩=some (.int .i64 (AB P.No n).w)/\w.cell? ⟨gq,n*3+1,none⟩=some (.int .i64 (AB P.No n).a)/\w.cell? ⟨gq,n*3+2,none⟩=some (.bool (AB P.No n).u):=by obtain⟨gq,bw,rfl,h1,_,h3,h4,h5⟩:=h.own.pgs.zO (by omega);have hc:=AP.zB Ew h.own.pgs (k:=n) (x:=AB P.No n) (by unfold AB;exact A1 hn);obtain⟨eo,ee⟩:=A6 h.own.pgs gq rfl;exact⟨gq,bw,rfl,h1,h3,h4,Bo ee h.yM,h5,hc 0 _ rfl,hc 1 _ rfl,hc 2 _ rfl⟩
theorem Gg.pg {n0 bw:Nat} (h:Gg lo g w m i e c s l (.slice (some ⟨gq,0,none⟩) n0 bw) P) {n:Nat} (hn:n<P.No.length):gq<w.heap.size/\(∀j,w.frozen? ⟨gq,j,none⟩=false)/\w.cell? ⟨gq,n*3,none⟩=some (.int .i64 (AB P.No n).w)/\w.cell? ⟨gq,n*3+1,none⟩=some (.int .i64 (AB P.No n).a)/\w.cell? ⟨gq,n*3+2,none⟩=some (.bool (AB P.No n).u):=by obtain⟨gW,f4,e,h1,h2,h3,h4,h5⟩:=h.page hn;simp only[xD,vq,Addr.mk.injEq] at e;obtain⟨⟨rfl,_⟩,_,rfl⟩:=e;exact⟨h3,h5⟩
end
structure aY (p:AR) (n m:Nat) (No:List Bi) (zT:Int):Prop where
 vic:CQ 32 p.No p.zT=(No,zT,some m)
 m16:m<16
 mw:(AB p.No m).w=1
 ok1:EC {p with No:=No,zT:=zT}
 mw1:(AB No m).w=1
 ok2:EC (EF {p with No:=No,zT:=zT} m)
 free:0<=Am (EF {p with No:=No,zT:=zT} m).zX.Os
 nw:(AB (EF {p with No:=No,zT:=zT} m).No n).w≠1
 pg:(AB (EF {p with No:=No,zT:=zT} m).No n).w=(AB p.No n).w/\(AB (EF {p with No:=No,zT:=zT} m).No n).a=(AB p.No n).a
 room:(Ai (EF {p with No:=No,zT:=zT} m).No 1:Int)+1<=p.zW
 is:BI p n=OR (EF {p with No:=No,zT:=zT} m) n
theorem QG (h:EC p) {n:Nat} (hn:n<16) (hw:(AB p.No n).w≠1) (hf:IS p=true) (bD:¬(Am p.zX.Os<0/\Ai p.No 1=0)):∃m No zT,aY p n m No zT:=by
 have hc:0<Ai p.No 1:=by
  rcases vP (Ai p.No 1) with h0|h0
  .exfalso
   unfold IS at hf;simp only[Bool.or_eq_true,decide_eq_true_eq] at hf;have:=h.zW
   rcases hf with hf|hf
   .exact bD ⟨hf,h0⟩
   .omega
  .exact h0
 obtain⟨i,hi,d4⟩:=JA.1 hc;rw[h.zQ] at hi;obtain⟨m,hm⟩:=Ia 32 p.No p.zT h.zT.1 h.zT.2 h.zQ i hi d4 (.inr (by have:=PG h.zT.1 h.zT.2 hi;omega));have hU:=IK 32 p.No p.zT;have hH:=Jj 32 p.No p.zT h.zT.1 h.zT.2;have hI:=Gq 32 p.No p.zT h.zT.1 h.zT.2 m hm;have hT:BI p n=match CQ 32 p.No p.zT with
  |(No,zT,some m)=>OR (EF {p with No:=No,zT:=zT} m) n
  |(_,_,none)=>(p,false):=by
  unfold BI;rw[if_neg hw,if_neg bD,if_pos hf];rfl
 revert hU hH hI hm hT
 generalize hv:CQ 32 p.No p.zT=r;obtain⟨pg,hd,o⟩:=r;intro hm hU hH hI hT;cases hm;have h':=hU.ok h hH.1 hH.2;have mw1:=(hU.w m).trans hI.2;have ho:=TA h' hI.1 mw1;have fJ:n≠m:=fun e=>hw (by rw[e];exact hI.2)
 have eK:AB (EF {p with No:=pg,zT:=hd} m).No n=AB pg n:=by
  show AB (pg.set m _) n=_
  rw[De,if_neg (fun h=>fJ h.1)]
 refine⟨m,pg,hd,hv,hI.1,hI.2,h',mw1,ho.1,ho.2.2.2,?_,?_,?_,hT⟩
 .rw[eK,hU.w];exact hw
 .rw[eK];exact⟨hU.w n,hU.at' n⟩
 .have h1:Ai (EF {p with No:=pg,zT:=hd} m).No 1+1=Ai pg 1:=ho.2.2.1
  have h2:Ai pg 1=Ai p.No 1:=hU.count 1;have h3:=h.count;omega
theorem QF (h:EC p) {n:Nat} (hw:(AB p.No n).w≠1) (hf:IS p=false):BI p n=OR p n/\0<=Am p.zX.Os:=by
 have h1:¬Am p.zX.Os<0:=fun e=>by unfold IS at hf;simp[e] at hf
 refine⟨?_,by omega⟩;unfold BI;rw[if_neg hw,if_neg (fun x=>h1 x.1),if_neg (by rw[hf];simp)]
theorem QH (hw:(AB p.No n).w≠1) (h:Am p.zX.Os<0/\Ai p.No 1=0):BI p n=(p,false):=by unfold BI;rw[if_neg hw,if_pos h]
theorem OM {No:List Bi} {zT:Int}:CQ (k+1) No zT=if(AB No zT.toNat).w=1/\(AB No zT.toNat).u=false then(No,EV zT,some zT.toNat) else CQ k (No.set zT.toNat (Mv (AB No zT.toNat))) (EV zT):=rfl
theorem Uv (h:EC p):(CQ 32 p.No p.zT).2.2=none↔Ai p.No 1=0:=by
 constructor
 .intro hx
  rcases vP (Ai p.No 1) with h0|h0
  .exact h0
  .obtain⟨i,hi,d4⟩:=JA.1 h0
   rw[h.zQ] at hi;obtain⟨m,hm⟩:=Ia 32 p.No p.zT h.zT.1 h.zT.2 h.zQ i hi d4 (.inr (by have:=PG h.zT.1 h.zT.2 hi;omega));rw[hx] at hm;cases hm
 .intro h0
  cases hx:(CQ 32 p.No p.zT).2.2 with
  |none=>rfl
  |some m=>have hI:=Gq 32 p.No p.zT h.zT.1 h.zT.2 m hx;have:=JA.2 ⟨m,by rw[h.zQ];exact hI.1,hI.2⟩;omega
def YU (g:Nat) (w:World):Int:=match w.cell? ⟨g,7,none⟩ with
 |some (.int _ n)=>n
 |_=>0
def ZF (gq n:Nat) (w:World):Bool:=match w.cell? ⟨gq,n*3+2,none⟩ with
 |some (.bool b)=>b
 |_=>false
def Yu (g gq n:Nat) (w:World):Nat:=yN (YU g w) n+if ZF gq n w then 16 else 0
theorem WX {lo g qc:Nat} {w:World} {m i e c s l:Value} {P:AR} (h:Gg lo g w m i e c s l (.slice (some ⟨gq,0,none⟩) 16 qc) P) (hl:P.No.length=16) {n:Nat} (hn:n<16):Yu g gq n w=yN P.zT n+if(AB P.No n).u then 16 else 0:=by obtain⟨_,_,_,_,d2⟩:=h.pg (n:=n) (by omega);unfold Yu YU ZF;rw[h.cells.2.2.2.2.2.2.2.1,d2]
theorem bP.yI {lo g:Nat} {w:World} {s l q:Value} {P:AR} {k:AN} (h:bP lo g w s l q P k w'):∃m i e c,Gg lo g w' m i e c s l q {P with zX:=k}:=by obtain⟨⟨m,i,e,c,h,_⟩,_⟩:=h;exact⟨m,i,e,c,h⟩
theorem C8.one (a:List Bi) (j:Nat):C8 a (a.set j (Mv (AB a j))):=C8.step (C8.refl _)
theorem C8.trans {a b c:List Bi} (h:C8 a b) (h':C8 b c):C8 a c:=⟨h'.len.trans h.len,fun i=>(h'.w i).trans (h.w i),fun i=>(h'.at' i).trans (h.at' i),fun i hu=>h.u i (h'.u i hu)⟩
theorem UZ {lo g:Nat} {w:World} {P:AR} (h:Gg lo g w mv iv ev cv sv lv qv P) (bu:lo<=w.heap.size) (hP:EC P) {pg:List Bi} {hd:Int} {n:Nat} (hv:CQ 32 P.No P.zT=(pg,hd,some n)):
 Calls prog 54 #[.pointer (some ⟨g,0,none⟩)] w (fun r w'=>r= .returned (.tuple #[])/\(∃m i e c,Gg lo g w' m i e c sv lv qv (EF {P with No:=pg,zT:=hd} n))/\Below lo w w'):=by
 obtain⟨gq,qc,rfl,dX,d3,fS,dS,_⟩:=h.page (n:=0) (by rw[hP.zQ];omega);rw[hP.zQ] at h dX ⊢;have hV:=AA hv;have bv:=AA hP;have cG:n<16:=by have:=(Gq 32 P.No P.zT hP.zT.1 hP.zT.2 n (by rw[hv]));exact this.1
 have HI:=AA h;have cZ:=AA bu;have hh:=hP.zT;have dQ:=dS.symm;clear h hP hv bu;go_in;go_wp2_with fail;go_loopw [2,3] (fun _ _ wr=>∃k No zT,Gg lo g wr mv iv ev cv sv lv (.slice (some ⟨gq,0,none⟩) 16 qc) {P with No:=No,zT:=zT}/\CQ k No zT=(pg,hd,some n)/\C8 P.No No/\0<=zT/\zT<=15/\Below lo w wr) (fun _ _ wr=>Yu g gq n wr)
 case atStart=>exact⟨32,P.No,P.zT,HI.out,hV.out,C8.refl _,hh.1,hh.2,yF _ _⟩
 case round=>
  obtain⟨k,No,zT,hI,cl,hU,h0,dH,hb⟩:=hrel;obtain⟨k,rfl⟩:∃k',k=k'+1:=by
   cases k with
   |zero=>unfold CQ at cl;cases cl
   |succ k=>exact⟨k,rfl⟩
  rw[OM] at cl;obtain⟨j,rfl⟩:∃j:Nat,zT=(j:Int):=⟨zT.toNat,by omega⟩
  rw[xY] at cl;unfold EV at cl;have hj:j<16:=by omega
  have gP:(j:Int)<16:=by omega
  have br:No.length=16:=by rw[hU.len];exact bv.out.zQ
  have gV:=AA (hU.ok bv.out h0 dH);have M0:=AA (WX hI br cG);obtain⟨de,fq,p0,p1,p2⟩:=hI.pg (n:=j) (by show j<No.length;rw[br];exact hj);obtain⟨_,_,_,_,_,_,x6,x7,_⟩:=hI.cells;have fg:=AK hI.yM;have I1:=(hI.zi (((j:Int)+1)%16)).1;have B1:=AM hb (hI.zi (((j:Int)+1)%16)).2 hI.yL (yD cZ.out hb.size);have hN:0<=((j:Int)+1)%16/\((j:Int)+1)%16<=15:=Le (zT:=(j:Int)) h0 dH;have cP:=AA (fun(dj:j≠n)=>show yN (((j:Int)+1)%16) n+1=yN (j:Int) n from MY (zT:=(j:Int)) h0 dH cG dj);have b9:=AA (show yN (((j:Int)+1)%16) j=15 from PF (zT:=(j:Int)) h0 dH);have bY:=AA (show yN (j:Int) j=0 from T0 (zT:=(j:Int)) h0);have gQ:=AY hI.yM;have hx:No[j]? =some (AB No j):=by unfold AB;exact A1 (by omega)
  generalize hpj:AB No j=x at cl p0 p1 p2 hx;obtain⟨xw,xa,xu⟩:=x;dsimp only at p0 p1 p2 cl I1;have ci:=AA hpj;have HX:=AA hx;have cB:=AA br;have ca:=AA I1;have bx:=AA B1;have HU:=AA hU;have HN:=AA hN;have HV:=AA cl;clear hI hU hpj hx cl br hb I1 B1 hN de
  by_cases hc:xw=1/\xu=false
  .obtain⟨rfl,rfl⟩:=hc
   have cF:=HV.out;rw[if_pos ⟨rfl,rfl⟩] at cF;simp only[Prod.mk.injEq,vq] at cF;obtain⟨rfl,rfl,rfl⟩:=cF;have av:=AA (HU.out.ok bv.out HN.out.1 HN.out.2);clear HV M0 cP b9 bY hV;obtain⟨k0,_,_,_,k4,_⟩:=ca.out.cells;go_wp2_with fail;generalize wr.setCell _ _=W1 at*;clear x6 x7 p0 p1 p2 fg fq;have eX:=AY ca.out.yM;have bh:lo<=W1.heap.size:=yD cZ.out bx.out.size;obtain⟨dg,fq,p0,p1,p2⟩:=ca.out.pg (n:=j) (by show j<No.length;rw[cB.out];exact hj);replace p1:W1.cell? ⟨gq,j*3+1,none⟩=some (.int .i64 (AB No j).a):=p1;rw[ci.out] at p1;have d7:=av.out.zJ hj (by show(AB No j).w=1;rw[ci.out]);have eY:=(av.out.zI hj (by show(AB No j).w=1;rw[ci.out])).2.1;simp only[ci.out] at d7 eY;obtain⟨f,rfl⟩:∃f:Nat,xa=(f:Int):=⟨xa.toNat,by omega⟩
   have ed:f<12:=by simpa using d7.1
   obtain⟨vs,o1⟩:=ca.out.own.ker.1;have cH:P.zX.mem.length=12:=bv.out.meml;have bg:vs.length=12:=by rw[o1.2.1.1];exact cH
   obtain⟨gm,cm,e1,be,_,_,eV,_⟩:=o1.1.zO (by omega);have bl:(AH P.zX.mem f).length=4:=bv.out.rowl ed;obtain⟨gw,cw,hu,bz,_,_⟩:=o1.row (f:=f) (by show f<P.zX.mem.length;omega) (by show 0<(AH P.zX.mem f).length;omega);subst e1;rw[bg] at k0;replace hu:vs[f]? =some (.slice (some ⟨gw,0,none⟩) (AH P.zX.mem f).length cw):=hu;replace bz:AG lo W1 (.slice (some ⟨gw,0,none⟩) (AH P.zX.mem f).length cw) (AH P.zX.mem f):=bz;rw[bl] at hu bz;have DR:=AP.zB D8 o1.1 hu 0 _ rfl;rw[vV,xQ] at DR;have bC:=av.out.slot hj (by show(AB No j).w≠2;rw[ci.out];show(1:Int)≠2;decide);obtain⟨sl,bm⟩:∃sl:Nat,BW P.swap=(sl:Int):=⟨(BW P.swap).toNat,by have:=bC.1;simp only at this;omega⟩
   have cs:sl<16:=by have:=bC.2.1;simp only[bm] at this;omega
   have dr:=AG.rd bz;obtain⟨cD,ax⟩:=ca.out.own.swp;have CS:=AA (fun W (hW:Below W1.heap.size W1 W)=>Uo (ax.below hW) bv.out.zF (yD bh hW.size) (dr.below hW) (by rw[bl];omega) bm cs);have e0:(f:Int)<12:=by omega
   have ga:=AA bm;have dw:=AA bh;clear dr bz hu bl bg cH o1 eY bC ax bm p0 p2 bh d7;refine Aa 15 68 [.p g 0, .p g 0, .p g 4, .v sv, .p g 0, .p g 0, .p g 0, .p g 0, .s gm 12 cm, .p gq (j*3), .p gq (j*3), .p gq (j*3+1), .i ((f:Int)), .p gm f, .s gw 4 cw] (fun _ _ _=>True) ?_ ?_
   .intro i hi o ho a wx Hb Hd hG K HK
    have cE:=bc hG eX k4;have cR:=bc hG eX k0;have eF:=bc hG dg p1;have eE:=bc hG eV DR
    match i,hi with
    |0,_|1,_|2,_|4,_|5,_|6,_|7,_|9,_|10,_|11,_=>exact sP ho HK Hb Hd
    |3,_|8,_=>exact sL ho HK Hb Hd (hl:=GM ‹_›)
    |12,_=>exact sL ho HK Hb Hd (hl:=Fo ‹_›)
    |13,_=>exact sI ho HK Hb Hd (hr:=by clear Hd Hb HK;go_simp)
    |14,_=>exact sL ho HK Hb Hd (hl:=Jx ‹_›)
    |_+15,hq=>omega
   .intro vs wx hR hG
    have q3:(vs 3)=sv:=BZ hR 3;have eC:(vs 14)= .slice (some ⟨gw,0,none⟩) 4 cw:=BZ hR 14;clear hR;simp only[Al,AV,yE,yB,yA,yy,q3,eC];simp;clear q3 eC;replace hG:Below W1.heap.size W1 wx:=hG;go_wp2_with fail;refine(CS.out _ hG).mono ?_;rintro r w2 ⟨rfl,⟨gF,fd⟩,cf,cW⟩;have I2:=(ca.out.below hG).zb cW fd;have B2:=bx.out.trans ((hG.mono dw.out).trans (cf.mono (Nat.le_refl _)));have au:lo<=w2.heap.size:=yD dw.out (yD hG.size cW.size);have C2:=AA (Pm I2 au bv.out.k bv.out.zv hj 0 (by decide));have da:=AA B2;clear fd cf cW I2 B2 hG CS k0 k4 p1 DR be eV;go_wp2_with fail;refine C2.out.mono ?_;rintro r w3 ⟨rfl,hT⟩;obtain⟨m3,i3,e3,c3,I3⟩:=hT.yI;have B3:=AA (da.out.trans hT.2.1);have dl:lo<=w3.heap.size:=yD au hT.2.2.size;obtain⟨gM,gX,_,p1,_⟩:=I3.pg (n:=j) (by show j<No.length;rw[cB.out];exact hj);replace p1:w3.cell? ⟨gq,j*3+1,none⟩=some (.int .i64 (AB No j).a):=p1;rw[ci.out] at p1;have eR:DI (Ad P.zX (II {P with No:=No,zT:=(((j:Int)+1)%16),swap:=P.swap.set sl (AH P.zX.mem f)} j 0)).1:=Ft bv.out.k;have C3:=Lh I3 dl eR ⟨2,0,(f:Int),0,0,⟨#[]⟩⟩ (show(0:Int)<=0 by decide) (show(0:Int)<3 by decide) (yh _) (by unfold Jb;simp) (show(0:Int)<=9223372036854775807 by decide);have ft:=AA C3;clear hT I3 eR C3 C2;go_wp2_with fail;refine ft.out.mono ?_;rintro r w4 ⟨rfl,⟨m4,i4,e4,c4,I4,_⟩,cY,cd⟩;have B4:=B3.out.trans cY;have co:lo<=w4.heap.size:=yD dl cd.size;have I5:=I4.zr (n:=j) cB.out.symm (by show j<No.length;rw[cB.out];exact hj) ⟨2,(sl:Int),false⟩;obtain⟨df,fe,p0,p1,p2⟩:=I4.pg (n:=j) (by show j<No.length;rw[cB.out];exact hj);have B5:=AA (AM B4 I5.2.1 I5.2.2 co);have eA:=AA I5.1;clear I4 I5 cY cd B4 ft;go_wp2_with fail;go_returns;refine⟨rfl,⟨m4,i4,e4,c4,?_⟩,B5.out⟩;have:=eA.out;rw[Oz (t:=gA) ⟨by decide,by decide,by decide⟩] at this;unfold EF Ag;simp only[ci.out,xY,ga.out];exact this
  .have cF:=HV.out
   rw[if_neg hc] at cF;have gi:=AA cF;have cg:=ca.out.zq (n:=j) (x:=⟨xw,xa,xu⟩) (y:=⟨xw,xa,false⟩) (j:=2) (u:= .bool false) cB.out.symm HX.out (by decide) rfl;have B2:=AA (AM bx.out cg.2.1 cg.2.2 (yD cZ.out bx.out.size));have fc:C8 P.No (No.set j (Mv (AB No j))):=C8.trans HU.out (C8.one No j);have bp:=AA cg.1;have M2:=AA (WX cg.1 (by show(No.set j _).length=16;rw[xV];exact cB.out) cG);have gj:=AA fc;have ai:Yu g gq n ((wr.setCell ⟨g,7,none⟩ (.int .i64 ((((j:Int)+1)%16)))).setCell ⟨gq,j*3+2,none⟩ (.bool false))<Yu g gq n wr:=by
    rw[M0.out,M2.out]
    show yN (((j:Int)+1)%16) n+_<yN (j:Int) n+_
    by_cases e:j=n
    .subst e
     have hu:xu=true:=by
      have db:xw=1:=by have:=(Gq 32 P.No P.zT bv.out.zT.1 bv.out.zT.2 j (by rw[hV.out])).2;rw[<-HU.out.w j,ci.out] at this;exact this
      cases xu
      .exact absurd ⟨db,rfl⟩ hc
      .rfl
     have e1:(AB (No.set j ⟨xw,xa,false⟩) j).u=false:=by rw[De,if_pos ⟨rfl,by rw[cB.out];exact hj⟩]
     have e2:(AB No j).u=true:=by rw[ci.out];exact hu
     have h1:=b9.out;have h2:=bY.out
     show _+(if(AB (No.set j ⟨xw,xa,false⟩) j).u=true then 16 else 0)<_+(if(AB No j).u=true then 16 else 0)
     rw[e1,e2,h1,h2];decide
    .have e1:(AB (No.set j ⟨xw,xa,false⟩) n)=AB No n:=by rw[De,if_neg (fun h=>e h.1.symm)]
     have:=cP.out e
     show _+(if(AB (No.set j ⟨xw,xa,false⟩) n).u=true then 16 else 0)<_+(if(AB No n).u=true then 16 else 0)
     rw[e1];omega
   have gd:=AA ai;clear cg fc cF HV cP b9 bY M0 M2 ai hV
   by_cases db:xw=1
   focus
    subst db
    obtain rfl:xu=true:=by
     cases xu
     .exact absurd ⟨rfl,rfl⟩ hc
     .rfl
    clear hc
   rotate_left
   focus
    have t1:(xw !=1)=true:=by simp[db]
    clear hc db
   rotate_left
   all_goals
    go_wp2_with fail;go_roundw
    case rel=>exact⟨k,_,_,bp.out,gi.out,by have:=gj.out;rw[ci.out] at this;exact this,HN.out.1,HN.out.2,B2.out⟩
    case measure=>exact gd.out
def GR (k:AN) (f:Int) (ws:List Int) (j:Nat):AN:=(yE j).foldl (fun k i=>(Ad k (Ag 3 f (i:Nat) (ws.getD i 0))).1) k
theorem KR {k:AN} {f:Int} {ws:List Int} {j:Nat}:GR k f ws (j+1)=(Ad (GR k f ws j) (Ag 3 f (j:Int) (ws.getD j 0))).1:=by unfold GR;rw[xx,uB];rfl
theorem KQ {k:AN} (h:DI k) {f:Int} {ws:List Int} (j:Nat):DI (GR k f ws j):=by
 induction j with
 |zero=>exact h
 |succ j ih=>rw[KR];exact Ft ih
theorem VZ {k1:AN} {fr:Int} (h:Ad p.zX (Ag 1 0 0 0)=(k1,fr,0)):
 OR p n=({p with zX:=(Ad (if(AB p.No n).w=2 then Uf k1 fr (AH p.swap (AB p.No n).a.toNat) else k1) (II p n (Gv fr))).1,swap:=if(AB p.No n).w=2 then p.swap.set (AB p.No n).a.toNat [] else p.swap,No:=p.No.set n ⟨1,fr,true⟩},true):=by
 unfold OR;rw[h];simp only;rw[if_neg (by simp)]
theorem YT {w:World} {g b o:Nat} (h:w.grownBy w' (some g)) (dj:b≠g) (hc:w.cell? ⟨b,o,none⟩=some v):w'.cell? ⟨b,o,none⟩=some v:=
 (Fx h (yC w _ hc) (fun e=>dj (yH e).symm)).trans hc
def Oh (lo g:Nat) (w:World) (sv lv qv:Value) (t:AR×Bool) (r:Ending) (w':World):Prop:=
 r= .returned (.bool t.2)/\(t.2=true->∃m i e c,Gg lo g w' m i e c sv lv qv t.1)/\Below lo w w'
theorem Wn {lo g:Nat} {w:World} {P:AR} (h:Gg lo g w mv iv ev cv sv lv qv P) (bu:lo<=w.heap.size) (hP:EC P) {n:Nat} (hn:n<16):
 Calls prog 23 #[.pointer (some ⟨g,0,none⟩), .int .i64 n] w (Oh lo g w sv lv qv (BI P n)):=by
 obtain⟨gq,qc,rfl,dX,d3,fS,dS,_⟩:=h.page (n:=0) (by rw[hP.zQ];omega);rw[hP.zQ] at h dX ⊢;unfold Oh;have bv:=AA hP;have HI:=AA h;have cZ:=AA bu;have d1:(n:Int)<16:=by omega
 have dQ:=dS.symm;obtain⟨_,_,_,_,_,_,x6,_,_⟩:=h.cells;obtain⟨de,fq,p0,p1,p2⟩:=h.pg (n:=n) (by rw[hP.zQ];exact hn);have hx:P.No[n]? =some (AB P.No n):=by unfold AB;exact A1 (by rw[hP.zQ];exact hn)
 by_cases hw:(AB P.No n).w=1
 .have HT:=AA (Mt hP hw)
  have cg:=h.zq (n:=n) (x:=AB P.No n) (y:= {AB P.No n with u:=true}) (j:=2) (u:= .bool true) hP.zQ.symm hx (by decide) rfl;have B2:=AA (AM (yF _ _) cg.2.1 cg.2.2 bu);have bp:=AA cg.1;rw[hw] at p0;clear h hP bu hx cg hw;go_in;go_wp2_with fail;go_ret;refine⟨AI (by rw[HT.out]),fun _=>⟨mv,iv,ev,cv,?_⟩,B2.out⟩;rw[HT.out];exact bp.out
 .have t0:((AB P.No n).w==1)=false:=by simp[hw]
  have fE:=AA hw;have CN:=AA (Pi (w:=w) x6 (by have:=h.own.pgs.rd;exact this) hP.zQ 1);have gT:Ai P.No 1<=16:=by unfold Ai;exact yD vO (Nat.le_of_eq hP.zQ)
  have CF:=AA (fun W (hW:Below w.heap.size w W)=>Jm iv P.zX.Os W (BJ.below h.own.ker.2.1.rd hW));have T1:=AA (QH (p:=P) (n:=n) hw);have T2:=AA (QF hP hw);have T3:=AA (QG hP hn hw);have FP:IS P=(decide (Am P.zX.Os<0)||decide ((Ai P.No 1:Int)=P.zW)):=rfl;have cq:=AA FP;have fM:=hP.zW;have fn:=AA hP;generalize(AB P.No n).w=pw at p0 t0;clear h hP bu hx hw FP p1 p2;go_in;go_wp2_with fail;refine CN.out.mono ?_;rintro r w1 ⟨rfl,b1⟩;have x1:=(HI.out.below b1).cells.2.1;have ay:=AA b1;clear p0 fq de CN x6 b1;go_wp2_with fail;refine(CF.out _ ay.out).mono ?_;rintro r w2 ⟨rfl,b2⟩;have bp:=AA (HI.out.below (ay.out.trans (b2.mono ay.out.size)));have da:=AA ((ay.out.trans (b2.mono ay.out.size)).mono cZ.out);have au:=AA (yD cZ.out (yD ay.out.size b2.size));have x8:=bp.out.cells.2.2.2.2.2.2.2.2;clear b2 x1 HI CF;have tc:(((Ai P.No 1:Nat):Int)==0)=decide (Ai P.No 1=0):=by by_cases e:Ai P.No 1=0<;>simp[e]
  have tl:(((Ai P.No 1:Nat):Int)==P.zW)=decide ((Ai P.No 1:Int)=P.zW):=by by_cases e:(Ai P.No 1:Int)=P.zW<;>simp[e]
  go_upto_region 7 with fail;have dP:=AA (show decide (Am P.zX.Os<0)=true↔Am P.zX.Os<0 by simp);rw[show(decide (Am P.zX.Os<0))=decide (Am P.zX.Os<0) from rfl] at cq;generalize decide (Am P.zX.Os<0)=fb at dP cq ⊢;go_cut [40] (fun fx wx=>fx= .bool (fb&&decide (Ai P.No 1=0))/\w2=wx)
  case first=>
   cases fb
   .go_wp2_with fail
    go_meet
    case rel=>exact⟨rfl,rfl⟩
   .go_wp2_with fail
    go_meet
    case rel=>exact⟨by simp,rfl⟩
  case rest=>
   obtain⟨rfl,rfl⟩:=hcut;cases bD:(fb&&decide (Ai P.No 1=0))
   .go_upto_region 9 with fail
    go_cut [49] (fun fw wx=>fw= .bool (fb||decide ((Ai P.No 1:Int)=P.zW))/\w2=wx)
    case first=>
     cases fb
     .go_wp2_with fail
      go_meet
      case rel=>exact⟨by simp,rfl⟩
     .go_wp2_with fail
      go_meet
      case rel=>exact⟨rfl,rfl⟩
    case rest=>
    obtain⟨rfl,rfl⟩:=hcut;rw[<-cq.out];go_upto_if 49 with fail;go_cut [] (fun wx=>∃P1 m i e c,Gg lo g wx m i e c sv lv (.slice (some ⟨gq,0,none⟩) 16 qc) P1/\Below lo w wx/\lo<=wx.heap.size/\EC P1/\0<=Am P1.zX.Os/\(AB P1.No n).w≠1/\BI P n=OR P1 n)
    case first=>
     have d0:¬(Am P.zX.Os<0/\Ai P.No 1=0):=fun h=>by rw[dP.out.2 h.1,h.2] at bD;cases bD
     cases hf:IS P
     .have HF:=T2.out hf
      go_wp2_with fail;go_meet
      case rel=>exact⟨P,_,_,_,_,bp.out,da.out,au.out,fn.out,HF.2,fE.out,HF.1⟩
     .obtain⟨mm,pgs,hd,bZ⟩:=T3.out hf d0
      have CM:=AA (UZ bp.out au.out fn.out bZ.vic);have bq:=AA bZ;clear bZ;go_wp2_with fail;refine CM.out.mono ?_;rintro r w3 ⟨rfl,⟨m1,i1,e1,c1,I1⟩,ei⟩;have ca:=AA I1;have bx:=AA (da.out.trans ei);have bh:=AA (yD au.out ei.size);clear I1 ei CM;go_wp2_with fail;go_meet
      case rel=>exact⟨_,_,_,_,_,ca.out,bx.out,bh.out,bq.out.ok2,bq.out.free,bq.out.nw,bq.out.is⟩
    case rest=>
    obtain⟨P1,m1,i1,e1,c1,I1,B1,l1,O1,f1,n1,t1⟩:=hcut;have ca:=AA I1;have bx:=AA B1;have bh:=AA l1;have av:=AA O1;have dB:=AA f1;have ey:=AA t1;clear I1 B1 l1 O1 f1 t1 x8 bp da au bD tc tl dP T1 T2 T3 cq;have C1:=Lh ca.out bh.out av.out.k ⟨1,0,0,0,0,gA⟩ (show(0:Int)<=0 by decide) (show(0:Int)<3 by decide) (by decide) (by unfold Jb;simp) (show(0:Int)<=9223372036854775807 by decide);obtain⟨k1,fr,bX,dn,cx,eS⟩:∃k1 fr,Ad P1.zX (Ag 1 0 0 0)=(k1,fr,0)/\0<=fr/\fr<=11/\DI k1:=by obtain⟨g1,_,_⟩:=FO (Os:=P1.zX.Os) (by have:=dB.out;omega);rw[av.out.k.len] at g1;have hk:=Ft (kind:=1) (a:=0) (b:=0) (c:=0) av.out.k;have e:=Lm (k:=P1.zX) av.out.may dB.out (a:=0) (b:=0) (c:=0);rw[e] at hk;exact⟨_,_,e,dB.out,by have:=dB.out;omega,hk⟩
    have cy:=ey.out;rw[VZ bX] at cy;unfold ZM at C1;rw[show(⟨1,0,0,0,0,gA⟩:Ab)=Ag 1 0 0 0 from rfl,bX] at C1;have c6:=AA (ye dn cx);have cp:=AA eS;clear bX dn cx eS dB;go_wp2_with fail;refine C1.mono ?_;rintro r w2 ⟨rfl,⟨m2,i2,e2,c2,I2,_⟩,cf,cW⟩;have B2:=AA (bx.out.trans cf);have au:=AA (yD bh.out cW.size);obtain⟨cU,ff,p0,p1,p2⟩:=I2.pg (n:=n) (by show n<P1.No.length;rw[av.out.zQ];exact hn);have bp:=AA I2;simp only at p0 p1;clear C1 cf cW I2
    by_cases cb:(AB P1.No n).w=2
    .rw[if_pos cb,if_pos cb] at cy
     have fI:(0<=(AB P1.No n).a/\(AB P1.No n).a<=15)/\Dh (AH P1.swap (AB P1.No n).a.toNat)=true:=by
      rcases av.out.No n hn with⟨x,_⟩|⟨x,_⟩|⟨x1,x2,x3,x4,x5⟩
      .omega
      .omega
      .rcases av.out.zx (AB P1.No n).a.toNat (by omega) with x|x
       .exact absurd x x3
       .exact⟨by omega,x⟩
     obtain⟨⟨f0,ej⟩,ba⟩:=fI;obtain⟨sl,bm⟩:∃sl:Nat,(AB P1.No n).a=(sl:Int):=⟨(AB P1.No n).a.toNat,by omega⟩
     have cs:sl<16:=by omega
     have dU:(sl:Int)<16:=by omega
     rw[bm,xY] at ba cy;rw[bm] at p1;rw[cb] at p0;have dy:=AA cy;obtain⟨bl,eI⟩:=A5.1 ba;obtain⟨cD,ax⟩:=bp.out.own.swp;have bB:At lo w2 sv cD P1.swap:=ax;have dc:P1.swap.length=16:=av.out.zF;have bg:cD.length=16:=by rw[bB.2.1.1,dc]
     obtain⟨gs,sc,e1,fG,_,fN,gR,_⟩:=bB.1.zO (by omega);rw[bg] at e1 fG;subst e1;obtain⟨gr,rc,hu,bz,_,_⟩:=bB.row (f:=sl) (by omega) (by omega);rw[bl] at hu bz;have DR:=AP.zB D8 (by rw[bg];exact bB.1) hu 0 _ rfl;rw[vV,xQ] at DR;have x4:=bp.out.cells.2.2.2.2.1;have el:=AG.rd bz;have fB:gr≠g:=by obtain⟨eo,hc⟩:=A6 bz gr rfl;exact Bo hc bp.out.yM
     have DW:∀j,j<4->w2.cell? ⟨gr,j,none⟩=some (.int .i64 ((AH P1.swap sl).getD j 0)):=fun j hj=>by have:=xC (show w2.ownsRow lo 3 1 (.slice (some ⟨gr,0,none⟩) 4 rc) 4 ((AH P1.swap sl).map (yf .i64)) by have:=bz;unfold AG at this;rwa [bl] at this) j hj;rw[this,wQ,A1 (d:=0) (by omega)];rfl
     have Hr:=AA (ye bl eI);have gD:=AA DW;clear cy ax bB hu bz el ba bl eI f0 ej bg dc DW cb;go_wp2_with fail;go_quiet (fail);generalize hwq:w2.drewN _=w3;have b3:Below w2.heap.size w2 w3:=by subst hwq;exact A9 (yF _ _) _
     have gu:=AA (bp.out.below b3);have g3:w2.grownBy w3 (some g):=AW b3 _;have gy:=AA g3;have B3:=AA (B2.out.trans (b3.mono au.out));clear hwq b3 g3 x4 p0 p1 p2 ff cU DR;go_wp2_with fail;go_loopw [9,10,71] (fun _ _ ix wr=>∃k:Nat,k<=4/\ix= .int .i64 k/\(∃m i e c,Gg lo g wr m i e c (.slice (some ⟨gs,0,none⟩) 16 sc) lv (.slice (some ⟨gq,0,none⟩) 16 qc) {P1 with zX:=GR k1 fr (AH P1.swap sl) k})/\w2.grownBy wr (some g)/\Below lo w wr) (fun _ _ ix _=>4 - (intOf ix).toNat)
     case atStart=>exact⟨0,by omega,rfl,⟨_,_,_,_,gu.out⟩,gy.out,B3.out⟩
     case round=>
      obtain⟨k,hk,rfl,⟨m4,i4,e4,c4,I4⟩,cd,B4⟩:=hrel;have co:lo<=wr.heap.size:=yD au.out cd.size
      by_cases eQ:k<4
      .have k4:(k:Int)<4:=by omega
       have DW:=YT cd fB (gD.out k eQ);have eH:(AH P1.swap sl).getD k 0<=9223372036854775807:=by have:=(Hr.out.2 _ (DG (d:=0) (show k<(AH P1.swap sl).length by rw[Hr.out.1];exact eQ))).2;omega
       have C4:=AA (Lh I4 co (KQ cp.out k) ⟨3,0,fr,(k:Int),(AH P1.swap sl).getD k 0,⟨#[]⟩⟩ (show(0:Int)<=0 by decide) (show(0:Int)<3 by decide) (yh _) (by unfold Jb;simp) eH);have gg:=AA cd;have c9:=AA B4;have gb:=AA (KR (k:=k1) (f:=fr) (ws:=AH P1.swap sl) (j:=k));generalize(AH P1.swap sl).getD k 0=wd at*;clear I4 cd B4 eH;go_wp2_with fail;refine C4.out.mono ?_;rintro r w5 ⟨rfl,⟨m5,i5,e5,c5,I5,_⟩,e9,eW⟩;have fj:Gg lo g w5 m5 i5 e5 c5 (.slice (some ⟨gs,0,none⟩) 16 sc) lv (.slice (some ⟨gq,0,none⟩) 16 qc) {P1 with zX:=GR k1 fr (AH P1.swap sl) (k+1)}:=by rw[Oz (t:=gA) ⟨by decide,by decide,by decide⟩] at I5;rw[gb.out];exact I5
       have eA:=AA fj;have G5:=AA (AO gg.out eW);have B5:=AA (c9.out.trans e9);clear I5 fj e9 eW C4 DW;go_wp2_with fail;go_roundw
       case rel=>exact⟨k+1,by omega,by go_num,⟨_,_,_,_,eA.out⟩,G5.out,B5.out⟩
       case measure=>simp[intOf];omega
      .obtain rfl:k=4:=by omega
       rw[show((4:Nat):Int)=4 from rfl];have dA:=AA I4;have c9:=AA B4;have dv:=AA co;generalize hW4:wr=W4 at*;clear I4 cd B4 hW4;have x4:=dA.out.cells.2.2.2.2.1;have cd:=AY dA.out.yM;obtain⟨df,fe,_,p1,_⟩:=dA.out.pg (n:=n) (by show n<P1.No.length;rw[av.out.zQ];exact hn);replace p1:W4.cell? ⟨gq,n*3+1,none⟩=some (.int .i64 (AB P1.No n).a):=p1;rw[bm] at p1;go_wp2_with fail;refine Aa 9 105 [.p g 0, .p g 0, .p g 4, .s gs 16 sc, .p gq (n*3), .p gq (n*3), .p gq (n*3+1), .i ((sl:Int)), .p gs sl] (fun _ _ _=>True) ?_ ?_
       .intro i hi o ho a wx Hb Hd hG K HK
        have cE:=bc hG cd x4;have cR:=bc hG df p1
        match i,hi with
        |0,_|1,_|2,_|4,_|5,_|6,_=>exact sP ho HK Hb Hd
        |3,_=>exact sL ho HK Hb Hd (hl:=GM ‹_›)
        |7,_=>exact sL ho HK Hb Hd (hl:=Fo ‹_›)
        |8,_=>exact sI ho HK Hb Hd (hr:=by clear Hd Hb HK;go_simp)
       .intro vs wx hR hG
        have q8:(vs 8)= .pointer (some ⟨gs,sl,none⟩):=BZ hR 8;clear hR;simp only[Al,AV,yE,yB,yA,yy,q8];simp;clear q8;replace hG:Below W4.heap.size W4 wx:=hG;have eq:=dA.out.below hG;obtain⟨cD,ax⟩:=eq.own.swp;replace ax:At lo wx (.slice (some ⟨gs,0,none⟩) 16 sc) cD P1.swap:=ax;have bg:cD.length=16:=by rw[ax.2.1.1];exact av.out.zF
        have cJ:=yD dv.out hG.size;have R:=ax.set (B:=wx.heap.size) (j:=sl) (r:=[]) (v':= .slice none 0 0) (yF _ _) (World.ownsRow_nil _ _ _ _) (Nat.le_refl _) cJ bg.symm (by omega);have I5:=AA (eq.zb R.2 R.1);have g1:wx.ownsRow lo 29 1 (.slice (some ⟨gs,0,none⟩) 16 sc) 16 cD:=by have:=ax.1;unfold AP at this;rwa [Ga,bg] at this
        obtain⟨cv0,C1⟩:∃v,wx.cell? ⟨gs,sl,none⟩=some v:=by have C1:=xC g1 sl (by omega);rw[yx (by omega)] at C1;exact⟨_,C1⟩
        have F1:=xP g1 sl;have B5:=AA (AM (c9.out.trans (hG.mono dv.out)) R.2 (yr ax.1 gs rfl).1 cJ);have bV:=AA (yD cJ R.2.size);have ex:=AA (KQ cp.out (f:=fr) (ws:=AH P1.swap sl) 4);have dz:=dy;clear dA c9 eq R g1 ax x4 p1 fe dy bg;go_wp2_with fail;clear C1 F1;generalize wx.setCell _ _=w5 at*;refine(Ip fr _ c6.out.1 c6.out.2).mono ?_;rintro r w6 ⟨rfl,rfl⟩;have C6:=AA (Pm (P:= {P1 with zX:=GR k1 fr (AH P1.swap sl) 4,swap:=P1.swap.set sl []}) I5.out bV.out ex.out av.out.zv hn (Gv fr) (by have:=c6.out.2;unfold Gv;omega));generalize hen:Gv fr=en at C6;have eu:=AA hen;clear hen;go_wp2_with fail;refine C6.out.mono ?_;rintro r w7 ⟨rfl,hT⟩;obtain⟨m7,i7,e7,c7,I7⟩:=hT.yI;have B7:=B5.out.trans hT.2.1;have cK:lo<=w7.heap.size:=yD bV.out hT.2.2.size;obtain⟨fH,f2,p0,p1,p2⟩:=I7.pg (n:=n) (by show n<P1.No.length;rw[av.out.zQ];exact hn);have I8:=I7.zr (n:=n) av.out.zQ.symm (by show n<P1.No.length;rw[av.out.zQ];exact hn) ⟨1,fr,true⟩;have B8:=AA (AM B7 I8.2.1 I8.2.2 cK);have ez:=AA I8.1;clear hT I7 I8 B7 C6;go_wp2_with fail;go_ret;refine⟨AI (by rw[dz.out]),fun _=>⟨m7,i7,e7,c7,?_⟩,B8.out⟩;rw[dz.out];have e8:=ez.out;rw[<-eu.out] at e8;exact e8
    .rw[if_neg cb,if_neg cb] at cy
     have t2:((AB P1.No n).w==2)=false:=by simp[cb]
     have dz:=AA cy;have I5:=bp;have B5:=B2;have bV:=au;have ex:=cp;generalize(AB P1.No n).w=pw at p0 t2;clear cy cb cp;go_wp2_with fail;clear p0 p1 p2 t2 ff cU;refine(Ip fr _ c6.out.1 c6.out.2).mono ?_;rintro r w6 ⟨rfl,rfl⟩;have C6:=AA (Pm (P:= {P1 with zX:=k1,swap:=P1.swap}) I5.out bV.out ex.out av.out.zv hn (Gv fr) (by have:=c6.out.2;unfold Gv;omega));generalize hen:Gv fr=en at C6;have eu:=AA hen;clear hen;go_wp2_with fail;refine C6.out.mono ?_;rintro r w7 ⟨rfl,hT⟩;obtain⟨m7,i7,e7,c7,I7⟩:=hT.yI;have B7:=B5.out.trans hT.2.1;have cK:lo<=w7.heap.size:=yD bV.out hT.2.2.size;obtain⟨fH,f2,p0,p1,p2⟩:=I7.pg (n:=n) (by show n<P1.No.length;rw[av.out.zQ];exact hn);have I8:=I7.zr (n:=n) av.out.zQ.symm (by show n<P1.No.length;rw[av.out.zQ];exact hn) ⟨1,fr,true⟩;have B8:=AA (AM B7 I8.2.1 I8.2.2 cK);have ez:=AA I8.1;clear hT I7 I8 B7 C6;go_wp2_with fail;go_ret;refine⟨AI (by rw[dz.out]),fun _=>⟨m7,i7,e7,c7,?_⟩,B8.out⟩;rw[dz.out];have e8:=ez.out;rw[<-eu.out] at e8;exact e8
   .have HT:=AA (T1.out (by
     simp only[yt,decide_eq_true_eq] at bD;exact⟨dP.out.1 bD.1,bD.2⟩))
    go_wp2_with fail;go_ret;exact⟨AI (by rw[HT.out]),fun h=>(by rw[HT.out] at h;cases h),da.out⟩
theorem DD {lo g:Nat} {w:World} {a0 a1 a2 a3 a4 a5 a6 a7 a8 m i e c s l q:Value} {P:AR} (hB:w.heap[g]? =some (.cells #[a0,a1,a2,a3,a4,a5,a6,a7,a8] 32 (0,0))) (O:Ez lo w m i e c s l q P):
 (((Er w g m i e c s l q).setCell ⟨g,7,none⟩ (.int .i64 P.zT)).setCell ⟨g,8,none⟩ (.int .i64 P.zW)).heap[g]? =some (.cells #[m,i,e,c,s,l,q, .int .i64 P.zT, .int .i64 P.zW] 32 (0,0))/\
 Ez lo (((Er w g m i e c s l q).setCell ⟨g,7,none⟩ (.int .i64 P.zT)).setCell ⟨g,8,none⟩ (.int .i64 P.zW)) m i e c s l q P/\
 w.grownBy (((Er w g m i e c s l q).setCell ⟨g,7,none⟩ (.int .i64 P.zT)).setCell ⟨g,8,none⟩ (.int .i64 P.zW)) (some g):=by
 have gr:=Ex (w:=w) (g:=g) (b0:=m) (b1:=i) (b2:=e) (b3:=c) (b4:=s) (b5:=l) (b6:=q) (b7:= .int .i64 P.zT) (b8:= .int .i64 P.zW);exact⟨GO hB,O.yN gr hB,gr⟩
theorem LT {B g:Nat} {w0 w:World} {a0 a1 a2 a3 a4 a5 a6 a7 a8:Value} (hB:w.heap[g]? =some (.cells #[a0,a1,a2,a3,a4,a5,a6,a7,a8] 32 (0,0))) (hb:Below B w0 w) (hg:B<=g):
 (((Er w g (.slice none 0 0) (.slice none 0 0) (.slice none 0 0) (.slice none 0 0) (.slice none 0 0) (.slice none 0 0) (.slice none 0 0)).setCell ⟨g,7,none⟩ (.int .i64 0)).setCell ⟨g,8,none⟩ (.int .i64 0)).heap[g]? =some (.cells #[.slice none 0 0, .slice none 0 0, .slice none 0 0, .slice none 0 0, .slice none 0 0, .slice none 0 0, .slice none 0 0, .int .i64 0, .int .i64 0] 32 (0,0))/\
 Below B w0 (((Er w g (.slice none 0 0) (.slice none 0 0) (.slice none 0 0) (.slice none 0 0) (.slice none 0 0) (.slice none 0 0) (.slice none 0 0)).setCell ⟨g,7,none⟩ (.int .i64 0)).setCell ⟨g,8,none⟩ (.int .i64 0)):=
 ⟨GO hB,AM hb Ex hg (yD hg (Nat.le_of_lt (AY hB)))⟩
theorem Gg.start {lo:Nat} {w:World} {m i e c s l q:Value} {P:AR} (O:Ez lo w m i e c s l q P) (bu:lo<=w.heap.size):Gg lo w.heap.size (w.alloc (.cells #[m,i,e,c,s,l,q, .int .i64 P.zT, .int .i64 P.zW] 32)) m i e c s l q P:=
 ⟨yw _ _,bu,O.below (AD _ _)⟩
def IM (w:World) (t:AR×Bool) (r:Ending) (w':World):Prop:=∃m i e c s l q,r= .returned (.tuple #[AQ m i e c s l q t.1.zT t.1.zW, .bool t.2])/\Ez w.heap.size w' m i e c s l q t.1/\Below w.heap.size w w'
theorem QU (mv iv ev cv sv lv qv:Value) (P:AR) (n:Int) (w:World) (h:Lr w mv iv ev cv sv lv qv P) (hs:EQ P.zX) (bD:(Bz P&&Bd n 0 15)=false):
 Calls prog 9 #[AQ mv iv ev cv sv lv qv P.zT P.zW, .int .i64 n] w fun r w'=>U3 r/\Below w.heap.size w w':=by
 unfold AQ;obtain⟨B0,B1,cO,eJ⟩:=ML w (.cells #[mv,iv,ev,cv,sv,lv,qv, .int .i64 P.zT, .int .i64 P.zW] 32) (.cells #[.slice none 0 0, .slice none 0 0, .slice none 0 0, .slice none 0 0, .slice none 0 0, .slice none 0 0, .slice none 0 0, .int .i64 0, .int .i64 0] 32);have h0:=h.below cO;go_in;go_wp2_with fail;generalize(w.alloc _).alloc _=W0 at*;have CV:=AA (fun W (hW:Below W0.heap.size W0 W)=>Km mv iv ev cv sv lv qv P W (h0.below hW) hs);have bi:=AA cO;have bx:=AA B1;generalize Bz P=ok at*;clear h h0 cO B0 eJ;refine(CV.out W0 (yF _ _)).mono ?_;rintro r w1 ⟨rfl,b1⟩;have Bw:=AA (bi.out.trans (b1.mono bi.out.size));have N1:=AC bx.out b1;have f1:=AK N1;obtain⟨a0,a1,a2,a3,a4,a5,a6,a7,a8⟩:=AE N1;have S2:=AA (LT N1 (Bw.out) (by omega));clear b1 B1 N1;cases ok
 rotate_left
 focus
  go_wp2_with fail
  refine(MD _ _).mono ?_;rintro r w2 ⟨rfl,rfl⟩;rw[show Bd n 0 15=false by simpa using bD]
 rotate_left
 all_goals
  go_wp2_with fail
  clear a0 a1 a2 a3 a4 a5 a6 a7 a8 f1;obtain⟨N2,B2⟩:=S2.out;unfold Er at N2 B2;exact yp (v:= .tuple #[.agg #[_,_,_,_,_,_,_,_,_],_]) (by simp[results,uf,go_sem,AE N2]) rfl ⟨rfl,B2⟩
theorem Ot (mv iv ev cv sv lv qv:Value) (P:AR) (w:World) (h:Lr w mv iv ev cv sv lv qv P) (hP:EC P) {n:Nat} (hn:n<16):
 Calls prog 9 #[AQ mv iv ev cv sv lv qv P.zT P.zW, .int .i64 n] w (IM w (BI P n)):=by
 unfold AQ IM;obtain⟨B0,B1,cO,eJ⟩:=ML w (.cells #[mv,iv,ev,cv,sv,lv,qv, .int .i64 P.zT, .int .i64 P.zW] 32) (.cells #[.slice none 0 0, .slice none 0 0, .slice none 0 0, .slice none 0 0, .slice none 0 0, .slice none 0 0, .slice none 0 0, .int .i64 0, .int .i64 0] 32);have h0:=h.below cO;have eL:Bz P=true:=Ep.2 hP;have HT:=fun(h:(BI P n).2=false)=>Gd hP hn h
 have HO:=Ln hP hn;generalize hT:BI P n=t at HT HO ⊢;obtain⟨Q,bb⟩:=t;replace HT:=AA HT;replace HO:=AA HO;have gf:=AA hT;clear hT;dsimp only at HT HO ⊢;go_in;go_wp2_with fail;generalize(w.alloc _).alloc _=W0 at*;have CV:=AA (fun W (hW:Below W0.heap.size W0 W)=>Km mv iv ev cv sv lv qv P W (h0.below hW) (Ce hP.k));have CO:=AA (fun W (hW:Below W0.heap.size W0 W)=>Ug mv iv ev cv sv lv qv P W (h0.below hW) hP);rw[eL] at CV;have bi:=AA cO;have fu:=AA B0;have bx:=AA B1;have gp:=AA hP;have d1:Bd (n:Int) 0 15=true:=Ac.2 (by omega);clear h h0 cO B0 B1 hP eL;refine(CV.out W0 (yF _ _)).mono ?_;rintro r w1 ⟨rfl,b1⟩;obtain⟨x0,x1,x2,x3,x4,x5,x6,x7,x8⟩:=AE (AC fu.out b1);have ay:=AA b1;clear b1 CV;go_wp2_with fail;refine(MD _ _).mono ?_;rintro r w2 ⟨rfl,rfl⟩;rw[d1];go_wp2_with fail;refine(CO.out w1 ay.out).mono ?_;rintro r w2 ⟨m2,i2,e2,c2,s2,l2,q2,rfl,O2,b2⟩;unfold AQ;obtain⟨⟨⟨ma,mn,mc,rfl⟩,⟨ia,iN,ic,rfl⟩,⟨ea,en,ec,rfl⟩,⟨qa,qn,qc,rfl⟩⟩,⟨sa,sn,sc,rfl⟩,⟨la,ln,lc,rfl⟩,⟨pa,pn,pc,rfl⟩⟩:=O2.zS;have dE:W0.heap.size<=w2.heap.size:=yD ay.out.size b2.size;have I3:=Gg.start (O2.lower ay.out.size) dE;have b3:Below W0.heap.size W0 (w2.alloc (.cells #[.slice ma mn mc, .slice ia iN ic, .slice ea en ec, .slice qa qn qc, .slice sa sn sc, .slice la ln lc, .slice pa pn pc, .int .i64 P.zT, .int .i64 P.zW] 32)):=ay.out.trans ((b2.mono ay.out.size).trans ((AD _ _).mono dE));clear O2 b2 x0 x1 x2 x3 x4 x5 x6 x7 x8;go_wp2_with fail;generalize w2.heap.size=g3 at*;generalize w2.alloc _=W3 at*;have CB:=Wn I3 b3.size gp.out hn;have dx:=AA b3;clear I3 b3;rw[gf.out] at CB;unfold Oh at CB;refine CB.mono ?_;rintro r w4 ⟨rfl,hI,cY⟩;have cQ:=AA (dx.out.trans cY);have B1:=AC bx.out cQ.out;have cC:=AA (bi.out.trans (cQ.out.mono bi.out.size));cases bb
 .have hs:=HT.out rfl
  obtain⟨x0,x1,x2,x3,x4,x5,x6,x7,x8⟩:=AE (AC fu.out cQ.out);clear hI cY CB;go_wp2_with fail;refine(CO.out w4 cQ.out).mono ?_;rintro r w5 ⟨m5,i5,e5,c5,s5,l5,q5,rfl,O5,b5⟩;unfold AQ;clear x0 x1 x2 x3 x4 x5 x6 x7 x8;subst hs;obtain⟨⟨⟨ma,mn,mc,rfl⟩,⟨ia,iN,ic,rfl⟩,⟨ea,en,ec,rfl⟩,⟨qa,qn,qc,rfl⟩⟩,⟨sa,sn,sc,rfl⟩,⟨la,ln,lc,rfl⟩,⟨pa,pn,pc,rfl⟩⟩:=O5.zS;have N5:=AC B1 b5;have S5:=DD N5 O5;obtain⟨a0,a1,a2,a3,a4,a5,a6,a7,a8⟩:=AE N5;have f5:=AK N5;have ew:=AA S5;have ch:=AA b5;have er:=AA (AY B1);clear O5 S5 N5 b5 B1;go_wp2_with fail;clear a0 a1 a2 a3 a4 a5 a6 a7 a8 f5;obtain⟨N6,O6,em⟩:=ew.out;have B6:=AM (cC.out.trans (ch.out.mono (by have:=cC.out.size;have:=er.out;omega))) em (by omega) (by have:=cC.out.size;have:=ch.out.size;omega);have O7:=O6.lower (lo':=w.heap.size) (by have:=cC.out.size;omega);unfold Er at N6 O7 B6;exact yp (v:= .tuple #[.agg #[_,_,_,_,_,_,_,_,_], .bool false]) (by simp[results,uf,go_sem,AE N6]) rfl ⟨_,_,_,_,_,_,_,rfl,O7,B6⟩
 .obtain⟨m4,i4,e4,c4,I4⟩:=hI rfl
  have C5:=AA (Ug _ _ _ _ _ _ _ Q w4 I4.own.rd HO.out);obtain⟨x0,x1,x2,x3,x4,x5,x6,x7,x8⟩:=AE I4.yM;clear cY CB I4;go_wp2_with fail;refine C5.out.mono ?_;rintro r w5 ⟨m5,i5,e5,c5,s5,l5,q5,rfl,O5,b5⟩;unfold AQ;clear x0 x1 x2 x3 x4 x5 x6 x7 x8 C5;obtain⟨⟨⟨ma,mn,mc,rfl⟩,⟨ia,iN,ic,rfl⟩,⟨ea,en,ec,rfl⟩,⟨qa,qn,qc,rfl⟩⟩,⟨sa,sn,sc,rfl⟩,⟨la,ln,lc,rfl⟩,⟨pa,pn,pc,rfl⟩⟩:=O5.zS;have N5:=AC B1 b5;have S5:=DD N5 O5;obtain⟨a0,a1,a2,a3,a4,a5,a6,a7,a8⟩:=AE N5;have f5:=AK N5;have ew:=AA S5;have ch:=AA b5;have er:=AA (AY B1);clear O5 S5 N5 b5 B1;go_wp2_with fail;clear a0 a1 a2 a3 a4 a5 a6 a7 a8 f5;obtain⟨N6,O6,em⟩:=ew.out;have B6:=AM (cC.out.trans (ch.out.mono (by have:=cC.out.size;have:=er.out;omega))) em (by omega) (by have:=cC.out.size;have:=ch.out.size;omega);have O7:=O6.lower (lo':=w.heap.size) (by have:=cC.out.size;omega);unfold Er at N6 O7 B6;exact yp (v:= .tuple #[.agg #[_,_,_,_,_,_,_,_,_], .bool true]) (by simp[results,uf,go_sem,AE N6]) rfl ⟨_,_,_,_,_,_,_,rfl,O7,B6⟩
theorem Dx (n:Int) (w:World):Calls prog 98 #[.int .i64 n] w fun e w'=>e= .returned (.bool (Bd n 0 11))/\w=w':=by go_in;go_wp2_with (go_at_call 24;refine(Cv _ _ _ _).mono ?_;rintro e w' ⟨rfl,rfl⟩);go_ret;exact⟨rfl,rfl⟩
theorem JC (n:Int) (w:World):Calls prog 173 #[.int .i64 n] w fun e w'=>e= .returned (.bool (Bd n 0 2))/\w=w':=by go_in;go_wp2_with (go_at_call 24;refine(Cv _ _ _ _).mono ?_;rintro e w' ⟨rfl,rfl⟩);go_ret;exact⟨rfl,rfl⟩
theorem FT (n:Int) (w:World):Calls prog 147 #[.int .i64 n] w fun e w'=>e= .returned (.bool (Bb n))/\w=w':=by
 by_cases h2:n=2
 .subst h2
  go_in;go_wp2_with fail;go_ret;exact⟨rfl,rfl⟩
 .have t2:(n==2)=false:=by simp[h2]
  have E:=AA (show Bb n=(n==3) by by_cases h3:n=3<;>simp[Bb,h2,h3]);clear h2;go_in;go_wp2_with fail;go_ret;exact⟨AI E.out.symm,rfl⟩
def D6 (x:Int):Int:=if x=0 then 0 else if Bf x then 1 else 2
theorem Jl (x:Int) (w:World):Calls prog 211 #[.int .i64 x] w fun e w'=>e= .returned (.int .i64 (D6 x))/\w=w':=by
 by_cases h0:x=0
 .subst h0
  go_in;go_wp2_with fail;go_ret;exact⟨rfl,rfl⟩
 .have t0:(x==0)=false:=by simp[h0]
  by_cases h1:0<x
  .by_cases h2:x%2=1
   .have t2:(x%2==1)=true:=by simp[h2]
    by_cases h3:x<48
    .have E:=AA (show D6 x=1 by unfold D6;rw[if_neg h0,if_pos (by simp[Bf,h1,h2,h3])])
     clear h2 h0;go_in;go_wp2_with fail;go_ret;exact⟨Cn E.out.symm,rfl⟩
    .have E:=AA (show D6 x=2 by unfold D6;rw[if_neg h0,if_neg (by simp[Bf,h1,h2,h3])])
     clear h2 h0;go_in;go_wp2_with fail;go_ret;exact⟨Cn E.out.symm,rfl⟩
   .have t2:(x%2==1)=false:=by simp[h2]
    have E:=AA (show D6 x=2 by unfold D6;rw[if_neg h0,if_neg (by simp[Bf,h2])]);clear h2 h0;go_in;go_wp2_with fail;go_ret;exact⟨Cn E.out.symm,rfl⟩
  .have E:=AA (show D6 x=2 by unfold D6;rw[if_neg h0,if_neg (by simp[Bf,h1])])
   clear h0;go_in;go_wp2_with fail;go_ret;exact⟨Cn E.out.symm,rfl⟩
theorem Cx (x:Int) (w:World) (hx:x<=9223372036854775807):Calls prog 179 #[.int .i64 x] w fun e w'=>e= .returned (Sf x)/\w=w':=by
 cases hg:Bf x
 focus
  have E:=AA (Eb hg)
  have K:(D6 x !=1)=true:=by unfold D6;split<;>simp[hg]
  generalize hk:D6 x=k at K;have HK:=AA hk;clear hg hk
 rotate_left
 focus
  have hp:0<x/\x%2=1/\x<48:=by simpa[Bf,and_assoc] using hg
  have W:KF x=(x%4==3):=by cases h:(x%4==3)<;>simp_all[KF]
  have E:=AA (show Sf x= .tuple #[.int .i64 (x/4), .bool (x%4==3), .bool true] by rw[ER hg,Ty hg,W]);have HK:=AA (show D6 x=1 by unfold D6;rw[if_neg (by omega),hg];rfl);have h0:0<=x:=by omega
  clear hg W hp
 rotate_left
 all_goals
  go_in;go_wp2_with (go_at_call 211;refine(Jl _ _).mono ?_;rintro e w' ⟨rfl,rfl⟩;rw[HK.out]);go_ret3;exact⟨Ng E.out.symm,rfl⟩
theorem ZW (a b:ByteArray):((b.extract 0 a.size).toList==a.toList)=Ku a b:=by rw[wF,beq_iff_eq,xz,xz];unfold Ku;rw[uv,List.prefix_iff_eq_take];simp only[ByteArray.data_extract,Array.toList_extract,List.extract,Nat.sub_zero,List.drop_zero,Array.length_toList,ByteArray.size_data];exact eq_comm
theorem Lv (a b:ByteArray) (w:World) (ha:a.size<=maxLen) (hb:b.size<=maxLen):Calls prog 151 #[.string a, .string b] w fun e w'=>e= .returned (.bool (Ku a b))/\w=w':=by
 unfold maxLen at ha hb
 by_cases h:a.size<=b.size
 .have h1:(a.size:Int)<=b.size:=by omega
  have E:=AA (ZW a b);go_in;go_wp2_with fail;go_ret;exact⟨AI E.out,rfl⟩
 .have h1:¬(a.size:Int)<=b.size:=by omega
  have E:=AA (show Ku a b=false by
   cases hc:Ku a b
   .rfl
   .have:=(uv.1 hc).length_le
    simp at this;omega)
  go_in;go_wp2_with fail;go_ret;exact⟨AI E.out.symm,rfl⟩
theorem Jc {α:Type} {p:α->Bool} {xs:List α} {f:Nat->α} (hf:∀k,k<xs.length->xs[k]? =some (f k)) (h:∀j,j<xs.length->p (f j)=true):xs.all p=true:=by rw[yk];intro x hx;obtain⟨j,hj,rfl⟩:=wO hx;have:=h j hj;have e:=hf j hj;rw[yx hj] at e;rw[yH e];exact this
theorem If {α:Type} {p:α->Bool} {xs:List α} {x:α} (hx:xs[k]? =some x) (hp:p x=false):xs.all p=false:=by rw[wk];exact⟨x,yg hx,by simp[hp]⟩
theorem NM {α:Type} {p:α->Bool} {xs:List α} {x:α} (hx:xs[k]? =some x) (hp:p x=true):xs.any p=true:=List.any_eq_true.2 ⟨x,yg hx,hp⟩
theorem Ks {α:Type} {p:α->Bool} {xs:List α} {f:Nat->α} (hf:∀k,k<xs.length->xs[k]? =some (f k)) (h:∀j,j<xs.length->p (f j)=false):xs.any p=false:=by rw[List.any_eq_false];intro x hx;obtain⟨j,hj,rfl⟩:=wO hx;have:=h j hj;have e:=hf j hj;rw[yx hj] at e;rw[yH e];simp[this]
theorem Od {xs:List Int} (h:k<xs.length):xs[k]? =some (nth xs k):=Pc h
theorem K4 (v:Value) (r:List Int) (w:World) (h:Ax w v r):Calls prog 96 #[v] w fun e w'=>e= .returned (.bool (Dh r))/\Below w.heap.size w w':=by
 obtain⟨a,c,rfl,hc,be,H⟩:=h.open;unfold maxLen at be;have HH:=AA H;clear h H;go_in;go_wp2_with fail;go_loopw [3] (fun ix wr=>∃k:Nat,k<=r.length/\ix= .int .i64 k/\(∀j,j<k->Dy (nth r j)=true)/\Below w.heap.size w wr) (fun ix _=>r.length - (intOf ix).toNat)
 case atStart=>exact⟨0,yh _,rfl,fun j hj=>absurd hj (xR _),yF _ _⟩
 case round=>
  obtain⟨k,hk,rfl,ab,hb⟩:=hrel;have ac:=AA ab;clear ab
  by_cases ai:k<r.length
  .have bd:(k:Int)<(r.length:Int):=by omega
   obtain⟨b,ck,rfl,D⟩:=(HH.out.below hb).at ai;cases hp:Dy (nth r k)
   .have S:=AA (show Dh r=false by unfold Dh;rw[If (Od ai) hp];rfl)
    have Hp:=AA hp;clear hp;go_wp2_with fail;refine(Cv _ _ _ _).mono ?_;rintro e w' ⟨rfl,rfl⟩;rw[show Bd _ 0 9999=false from Hp.out];go_wp2_with fail;go_ret;exact⟨AI S.out.symm,hb⟩
   .have Hp:=AA hp
    clear hp;go_wp2_with fail;refine(Cv _ _ _ _).mono ?_;rintro e w' ⟨rfl,rfl⟩;rw[show Bd _ 0 9999=true from Hp.out];go_wp2_with fail;go_roundw
    case rel=>exact⟨k+1,by omega,by go_num,Aj ac.out Hp.out,hb⟩
    case measure=>simp[intOf];omega
  .have ek:k=r.length:=by omega
   have ab:=ac.out;rw[ek] at ab;have S:=AA (show Dh r=((r.length:Int)==4) by unfold Dh;rw[Jc (fun k hk=>Od hk) ab];by_cases h4:r.length=4<;>simp[h4]<;>omega);clear ac ab;go_wp2_with fail;go_ret;exact⟨AI S.out.symm,hb⟩
theorem Jh {m:List (List Int)} (h:k<m.length):m[k]? =some (AH m k):=by unfold AH;exact A1 h
theorem IB (v:Value) (m:List (List Int)) (w:World) (h:Bc w v m):Calls prog 89 #[v] w fun e w'=>e= .returned (.bool (Bs m))/\Below w.heap.size w w':=by
 obtain⟨a,c,rfl,hc,be,H⟩:=h.open;unfold maxLen at be;have HH:=AA H;clear h H;go_in;go_wp2_with fail;go_loopw [3] (fun ix wr=>∃k:Nat,k<=m.length/\ix= .int .i64 k/\(∀j,j<k->Dh (AH m j)=true)/\Below w.heap.size w wr) (fun ix _=>m.length - (intOf ix).toNat)
 case atStart=>exact⟨0,yh _,rfl,fun j hj=>absurd hj (xR _),yF _ _⟩
 case round=>
  obtain⟨k,hk,rfl,ab,hb⟩:=hrel;have ac:=AA ab;clear ab
  by_cases ai:k<m.length
  .have bd:(k:Int)<(m.length:Int):=by omega
   obtain⟨b,ck,u,rfl,dp,D,hr⟩:=(HH.out.below hb) k ai;have C:=AA (K4 u _ wr hr);clear hr;cases hp:Dh (AH m k)
   .have S:=AA (show Bs m=false by unfold Bs;rw[If (Jh ai) hp];rfl)
    have Hp:=AA hp;clear hp;go_wp2_with fail;refine C.out.mono ?_;rintro e w2 ⟨rfl,b2⟩;rw[Hp.out];go_wp2_with fail;go_ret;exact⟨AI S.out.symm,hb.trans (b2.mono hb.size)⟩
   .have Hp:=AA hp
    clear hp;go_wp2_with fail;refine C.out.mono ?_;rintro e w2 ⟨rfl,b2⟩;rw[Hp.out];go_wp2_with fail;go_roundw
    case rel=>exact⟨k+1,by omega,by go_num,Aj ac.out Hp.out,hb.trans (b2.mono hb.size)⟩
    case measure=>simp[intOf];omega
  .have ek:k=m.length:=by omega
   have ab:=ac.out;rw[ek] at ab;have S:=AA (show Bs m=((m.length:Int)==12) by unfold Bs;rw[Jc (fun k hk=>Jh hk) ab];by_cases h4:m.length=12<;>simp[h4]<;>omega);clear ac ab;go_wp2_with fail;go_ret;exact⟨AI S.out.symm,hb⟩
theorem V8 {x:AU} (hk:x.k=0):DH x=decide (x=AU.zero):=by unfold DH;rw[show Bd x.k 1 3=false from VX.2 (by omega)];simp
theorem MJ {x:AU} (hk:x.k≠0):DH x=(Bd x.k 1 3&&BN x.g&&Bd x.r 0 50):=by unfold DH;rw[show decide (x=AU.zero)=false by simp;intro e;rw[e] at hk;exact hk rfl];simp
theorem UN (x:AU) (w:World) (hs:x.g.size<=maxLen):Calls prog 141 #[x.val] w fun e w'=>e= .returned (.bool (DH x))/\Below w.heap.size w w':=by
 have E0:=V8 (x:=x);have E1:=MJ (x:=x);generalize DH x=res at E0 E1 ⊢;obtain⟨k,g,r⟩:=x;simp only[AU.val];dsimp only at E0 E1 hs;have C:=AA (fun W=>ED g W hs)
 by_cases hk:k=0
 .subst hk
  have R:=AA (show res=(decide (g=⟨#[]⟩)&&decide (r=0)) by rw[E0 rfl];simp[AU.zero]);clear E0 E1
  by_cases hg:g=⟨#[]⟩
  .subst hg
   by_cases hr:r=0
   .subst hr
    go_in;go_wp2_with fail;go_ret;exact⟨AI (by rw[R.out];rfl),AD _ _⟩
   .have R2:=AA (show res=false by rw[R.out];simp[hr])
    go_in;go_wp2_with fail;go_ret;exact⟨AI R2.out.symm,AD _ _⟩
  .have R2:=AA (show res=false by rw[R.out];simp[hg])
   have fT:¬g.toList=[]:=fun e=>hg (by rw[xz] at e;obtain⟨⟨l⟩⟩:=g;simp at e;rw[e])
   go_in;go_wp2_with fail;go_ret;exact⟨AI R2.out.symm,AD _ _⟩
 .have t0:(k==0)=false:=by simp[hk]
  have R:=AA (E1 hk);clear E0 E1 hk;go_in;go_wp2_with fail;refine(Cv _ _ _ _).mono ?_;rintro e w2 ⟨rfl,rfl⟩;cases h1:Bd k 1 3
  .have R2:=AA (show res=false by rw[R.out,h1];rfl)
   go_wp2_with fail;go_ret;exact⟨AI R2.out.symm,AD _ _⟩
  .go_wp2_with fail
   refine(C.out _).mono ?_;rintro e w2 ⟨rfl,rfl⟩;cases h2:BN g
   .have R2:=AA (show res=false by rw[R.out,h1,h2];rfl)
    go_wp2_with fail;go_ret;exact⟨AI R2.out.symm,AD _ _⟩
   .have R2:=AA (show res=Bd r 0 50 by rw[R.out,h1,h2];rfl)
    go_wp2_with fail;refine(Cv _ _ _ _).mono ?_;rintro e w2 ⟨rfl,rfl⟩;go_wp2_with fail;go_ret;exact⟨AI R2.out.symm,AD _ _⟩
theorem DK (v:Value) (xs:List AU) (w:World) (h:BU w v xs) (hs:Hz xs):Calls prog 90 #[v] w fun e w'=>e= .returned (.bool (BK xs))/\Below w.heap.size w w':=by
 obtain⟨a,c,rfl,hc,be,H⟩:=BJ.open Az (by decide) h;unfold maxLen at be;have HH:=AA H;have HS:=AA hs;clear h H hs;go_in;go_wp2_with fail;go_loopw [3] (fun ix wr=>∃k:Nat,k<=xs.length/\ix= .int .i64 k/\(∀j,j<k->DH (zU xs j)=true)/\Below w.heap.size w wr) (fun ix _=>xs.length - (intOf ix).toNat)
 case atStart=>exact⟨0,yh _,rfl,fun j hj=>absurd hj (xR _),yF _ _⟩
 case round=>
  obtain⟨k,hk,rfl,ab,hb⟩:=hrel;have ac:=AA ab;clear ab
  by_cases ai:k<xs.length
  .have bd:(k:Int)<(xs.length:Int):=by omega
   obtain⟨b,ck,rfl,dp,D0,D1,D2⟩:=(HH.out.below hb).zR ai;have C:=UN (zU xs k) wr (HS.out _ (yg (Ci ai)));simp only[AU.val] at C;have HC:=AA C;clear C;cases hp:DH (zU xs k)
   .have S:=AA (show BK xs=false by unfold BK;rw[If (Ci ai) hp];rfl)
    have Hp:=AA hp;clear hp;go_wp2_with fail;refine HC.out.mono ?_;rintro e w2 ⟨rfl,b2⟩;rw[Hp.out];go_wp2_with fail;go_ret;exact⟨AI S.out.symm,hb.trans (b2.mono hb.size)⟩
   .have Hp:=AA hp
    clear hp;go_wp2_with fail;refine HC.out.mono ?_;rintro e w2 ⟨rfl,b2⟩;rw[Hp.out];go_wp2_with fail;go_roundw
    case rel=>exact⟨k+1,by omega,by go_num,Aj ac.out Hp.out,hb.trans (b2.mono hb.size)⟩
    case measure=>simp[intOf];omega
  .have ek:k=xs.length:=by omega
   have ab:=ac.out;rw[ek] at ab;have S:=AA (show BK xs=((xs.length:Int)==12) by unfold BK;rw[Jc (fun k hk=>Ci hk) ab];by_cases h4:xs.length=12<;>simp[h4]<;>omega);clear ac ab;go_wp2_with fail;go_ret;exact⟨AI S.out.symm,hb⟩
theorem YQ {xs:List AU} (hk:k<xs.length) (h:∀j,j<k->decide ((zU xs j).k=0)=false) (hp:decide ((zU xs k).k=0)=true):Am xs=(k:Int):=by
 have g:∀j (hj:j<xs.length),xs[j]=zU xs j:=fun j hj=>by have:=Ci hj;rw[yx hj] at this;exact yH this
 unfold Am;rw[if_pos (NM (Ci hk) hp)];have:xs.findIdx (fun x=>decide (x.k=0))=k:=by
  rw[List.findIdx_eq hk];exact⟨by rw[g k hk];exact hp,fun j hj=>by rw[g j (by omega)];exact h j hj⟩
 rw[this]
theorem Wz {xs:List AU} (h:∀j,j<xs.length->decide ((zU xs j).k=0)=false):Am xs= -1:=by
 unfold Am;rw[if_neg];rw[Ks (fun k hk=>Ci hk) h];simp
theorem Nv (v:Value) (xs:List AU) (w:World) (h:BU w v xs):Calls prog 243 #[v] w fun e w'=>e= .returned (.int .i64 (Am xs))/\Below w.heap.size w w':=by
 obtain⟨a,c,rfl,hc,be,H⟩:=BJ.open Az (by decide) h;unfold maxLen at be;have HH:=AA H;clear h H;go_in;go_wp2_with fail;go_loopw [3] (fun ix wr=>∃k:Nat,k<=xs.length/\ix= .int .i64 k/\(∀j,j<k->decide ((zU xs j).k=0)=false)/\Below w.heap.size w wr) (fun ix _=>xs.length - (intOf ix).toNat)
 case atStart=>exact⟨0,yh _,rfl,fun j hj=>absurd hj (xR _),yF _ _⟩
 case round=>
  obtain⟨k,hk,rfl,ab,hb⟩:=hrel;have ac:=AA ab;clear ab
  by_cases ai:k<xs.length
  .have bd:(k:Int)<(xs.length:Int):=by omega
   obtain⟨b,ck,rfl,dp,D0,D1,D2⟩:=(HH.out.below hb).zR ai;cases hp:decide ((zU xs k).k=0)
   .have t0:((zU xs k).k==0)=false:=by simpa using hp
    have Hp:=AA hp;clear hp;go_wp2_with fail;go_roundw
    case rel=>exact⟨k+1,by omega,by go_num,Aj ac.out Hp.out,hb⟩
    case measure=>simp[intOf];omega
   .have t0:((zU xs k).k==0)=true:=by simpa using hp
    have S:=AA (YQ ai ac.out hp);have Hp:=AA hp;clear hp;go_wp2_with fail;go_ret;exact⟨Cn S.out.symm,hb⟩
  .have ek:k=xs.length:=by omega
   have ab:=ac.out;rw[ek] at ab;have S:=AA (Wz ab);clear ac ab;go_wp2_with fail;go_ret;exact⟨Cn S.out.symm,hb⟩
theorem RY (v:Value) (xs:List Int) (n:Int) (w:World) (h:Ax w v xs):Calls prog 210 #[v, .int .i64 n] w fun e w'=>e= .returned (.bool (xs.any fun x=>decide (x=n)))/\Below w.heap.size w w':=by
 obtain⟨a,c,rfl,hc,be,H⟩:=h.open;unfold maxLen at be;have HH:=AA H;clear h H;go_in;go_wp2_with fail;go_loopw [5] (fun ix wr=>∃k:Nat,k<=xs.length/\ix= .int .i64 k/\(∀j,j<k->decide (nth xs j=n)=false)/\Below w.heap.size w wr) (fun ix _=>xs.length - (intOf ix).toNat)
 case atStart=>exact⟨0,yh _,rfl,fun j hj=>absurd hj (xR _),yF _ _⟩
 case round=>
  obtain⟨k,hk,rfl,ab,hb⟩:=hrel;have ac:=AA ab;clear ab
  by_cases ai:k<xs.length
  .have bd:(k:Int)<(xs.length:Int):=by omega
   obtain⟨b,ck,rfl,D⟩:=(HH.out.below hb).at ai;cases hp:decide (nth xs k=n)
   .have t0:(nth xs k==n)=false:=by simpa using hp
    have Hp:=AA hp;clear hp;go_wp2_with fail;go_roundw
    case rel=>exact⟨k+1,by omega,by go_num,Aj ac.out Hp.out,hb⟩
    case measure=>simp[intOf];omega
   .have t0:(nth xs k==n)=true:=by simpa using hp
    have S:=AA (NM (p:=fun x=>decide (x=n)) (Od ai) hp);have Hp:=AA hp;clear hp;go_wp2_with fail;go_ret;exact⟨AI S.out.symm,hb⟩
  .have ek:k=xs.length:=by omega
   have ab:=ac.out;rw[ek] at ab;have S:=AA (Ks (p:=fun x=>decide (x=n)) (fun k hk=>Od hk) ab);clear ac ab;go_wp2_with fail;go_ret;exact⟨AI S.out.symm,hb⟩
theorem KH (v:Value) (ss:List ByteArray) (g:ByteArray) (w:World) (h:BP w v ss) (hs:DP ss) (hg:g.size<=maxLen):Calls prog 97 #[v, .string g] w fun e w'=>e= .returned (.bool (Bv ss g))/\Below w.heap.size w w':=by
 obtain⟨a,c,rfl,hc,be,H⟩:=BJ.open Gp (by decide) h;unfold maxLen at be;have HH:=AA H;have HS:=AA (ye hs hg);clear h H hs hg;go_in;go_wp2_with fail;go_loopw [5] (fun ix wr=>∃k:Nat,k<=ss.length/\ix= .int .i64 k/\(∀j,j<k->Ku (DZ ss j) g=false)/\Below w.heap.size w wr) (fun ix _=>ss.length - (intOf ix).toNat)
 case atStart=>exact⟨0,yh _,rfl,fun j hj=>absurd hj (xR _),yF _ _⟩
 case round=>
  obtain⟨k,hk,rfl,ab,hb⟩:=hrel;have ac:=AA ab;clear ab
  by_cases ai:k<ss.length
  .have bd:(k:Int)<(ss.length:Int):=by omega
   obtain⟨b,ck,rfl,D⟩:=(HH.out.below hb).str ai;have C:=AA (Lv (DZ ss k) g wr (HS.out.1 _ (yg (IH ai))) HS.out.2);cases hp:Ku (DZ ss k) g
   .have Hp:=AA hp
    clear hp;go_wp2_with fail;refine C.out.mono ?_;rintro e w2 ⟨rfl,rfl⟩;rw[Hp.out];go_wp2_with fail;go_roundw
    case rel=>exact⟨k+1,by omega,by go_num,Aj ac.out Hp.out,hb⟩
    case measure=>simp[intOf];omega
   .have S:=AA (show Bv ss g=true from NM (p:=fun s=>Ku s g) (IH ai) hp)
    have Hp:=AA hp;clear hp;go_wp2_with fail;refine C.out.mono ?_;rintro e w2 ⟨rfl,rfl⟩;rw[Hp.out];go_wp2_with fail;go_ret;exact⟨AI S.out.symm,hb⟩
  .have ek:k=ss.length:=by omega
   have ab:=ac.out;rw[ek] at ab;have S:=AA (show Bv ss g=false from Ks (p:=fun s=>Ku s g) (fun k hk=>IH hk) ab);clear ac ab;go_wp2_with fail;go_ret;exact⟨AI S.out.symm,hb⟩
def Hh (fs:List Nat) (k:Nat):Nat:=fs.getD k 0
theorem Fv (h:k<fs.length):fs[k]? =some (Hh fs k):=by unfold Hh;exact A1 h
theorem Ob:nth (Ay fs) k=(Hh fs k:Int):=by unfold nth Ay Hh;simp only[xU,wQ];cases fs[k]? <;>rfl
theorem Ca:(Ay fs).length=fs.length:=by simp[Ay]
theorem Fz (v1 v2 v3:Value) (xs:List AU) (fs:List Nat) (ss:List ByteArray) (w:World) (h1:BU w v1 xs) (h2:Ax w v2 (Ay fs)) (h3:BP w v3 ss) (hf:∀f∈fs,f<xs.length) (hI:Hz xs) (hs:DP ss):
 Calls prog 145 #[v1,v2,v3] w fun e w'=>e= .returned (.bool (BC xs fs ss))/\Below w.heap.size w w':=by
 obtain⟨a1,c1,rfl,fX,eh,H1⟩:=BJ.open Az (by decide) h1;obtain⟨a2,c2,rfl,fW,ef,H2⟩:=h2.open;rw[Ca] at fW ⊢;unfold maxLen at eh ef;have CM:=AA (fun W (hW:Below w.heap.size w W) (g:ByteArray) (hg:g.size<=maxLen)=>KH v3 ss g W (BJ.below h3 hW) hs hg);have gx:=AA H1;have gv:=AA H2;have HF:=AA (ye hf hI);obtain⟨a3,c3,rfl,gU,fU⟩:=h3.shape;clear h1 h2 h3 H1 H2 hf hI hs;go_in;go_wp2_with fail;go_loopw [7] (fun ix wr=>∃k:Nat,k<=fs.length/\ix= .int .i64 k/\(∀j,j<k->Bv ss (zU xs (Hh fs j)).g=true)/\Below w.heap.size w wr) (fun ix _=>fs.length - (intOf ix).toNat)
 case atStart=>exact⟨0,yh _,rfl,fun j hj=>absurd hj (xR _),yF _ _⟩
 case round=>
  obtain⟨k,hk,rfl,ab,hb⟩:=hrel;have ac:=AA ab;clear ab
  by_cases ai:k<fs.length
  .have bd:(k:Int)<(fs.length:Int):=by omega
   obtain⟨b2,fz,rfl,D⟩:=(gv.out.below hb).at (k:=k) (by rw[Ca];exact ai);rw[Ob] at D;have eZ:=HF.out.1 _ (yg (Fv ai));obtain⟨b,ck,rfl,dp,D0,D1,D2⟩:=(gx.out.below hb).zR eZ;have e0:(Hh fs k:Int)<xs.length:=by omega
   have C:=AA (CM.out wr hb (zU xs (Hh fs k)).g (HF.out.2 _ (yg (Ci eZ))));cases hp:Bv ss (zU xs (Hh fs k)).g
   .have S:=AA (show BC xs fs ss=false from If (p:=fun f=>Bv ss (zU xs f).g) (Fv ai) hp)
    have Hp:=AA hp;clear hp;go_wp2_with fail;refine C.out.mono ?_;rintro e w2 ⟨rfl,b2⟩;rw[Hp.out];go_wp2_with fail;go_ret;exact⟨AI S.out.symm,hb.trans (b2.mono hb.size)⟩
   .have Hp:=AA hp
    clear hp;go_wp2_with fail;refine C.out.mono ?_;rintro e w2 ⟨rfl,b2⟩;rw[Hp.out];go_wp2_with fail;go_roundw
    case rel=>exact⟨k+1,by omega,by go_num,Aj ac.out Hp.out,hb.trans (b2.mono hb.size)⟩
    case measure=>simp[intOf];omega
  .have ek:k=fs.length:=by omega
   have ab:=ac.out;rw[ek] at ab;have S:=AA (show BC xs fs ss=true from Jc (p:=fun f=>Bv ss (zU xs f).g) (fun k hk=>Fv hk) ab);clear ac ab;go_wp2_with fail;go_ret;exact⟨AI S.out.symm,hb⟩
theorem UJ {a b:List Nat}:Ay (a++b)=Ay a++Ay b:=by simp[Ay]
theorem IW {lo:Nat} {w:World} {ys zs:List Nat} (h:w.ownsRow lo 3 1 v (ys.length+zs.length) ((Ay ys).map (yf .i64)++(Ay zs).map (yf .i64))):AG lo w v (Ay (ys++zs)):=by unfold AG;rw[UJ,List.map_append,yl,Ca,Ca];exact h
theorem LC (xs:List Int):∀u∈xs.map (yf .i64),u.oneCell'=true:=by intro u hu;obtain⟨x,_,rfl⟩:=List.mem_map.1 hu;rfl
theorem FF (w:World):AG w.heap.size (w.alloc (.cells #[] 3)) (.slice (some ⟨w.heap.size,0,none⟩) 0 0) (Ay []):=Cp w 3 1
theorem IU (v:Value) (r:List Int) (w:World) (h:Ax w v r) (hl:r.length<=100) (hx:∀k,k<r.length->nth r k<=9223372036854775807):Calls prog 178 #[v] w fun e w'=>∃v',e= .returned v'/\AG w.heap.size w' v' (Ay (named r))/\Below w.heap.size w w':=by
 obtain⟨a,c,rfl,hc,be,H⟩:=h.open;unfold maxLen at be;have HH:=AA H;have HX:=AA hx;have bA:=AD w (.cells #[] 3);have o1:=FF w;clear h H hx;go_in;go_wp2_with fail;generalize w.alloc (.cells #[] 3)=wa at o1 bA ⊢;generalize(xB (some ⟨w.heap.size,0,none⟩) 0 0)=o at o1 ⊢;go_loopw [3,4,5,6,7] (fun o ix _ _ _ wr=>∃k:Nat,k<=r.length/\ix= .int .i64 k/\AG w.heap.size wr o (Ay (named (r.take k)))/\Below w.heap.size w wr) (fun _ ix _ _ _ _=>r.length - (intOf ix).toNat)
 case atStart=>exact⟨0,yh _,rfl,o1,bA⟩
 case round=>
  clear o1 bA;obtain⟨k,hk,rfl,ad,hb⟩:=hrel
  by_cases ai:k<r.length
  .have bd:(k:Int)<(r.length:Int):=by omega
   obtain⟨b,ck,rfl,D⟩:=(HH.out.below hb).at ai;have eG:=HX.out k ai;have Nx:=AA (KN ai);have di:(named (r.take k)).length<=100:=by have:=FB (r:=r.take k);rw[xW] at this;omega
   change (Hid (named (r.take (k+1))=named (r.take k)++(if Bf (nth r k) then[A8 (nth r k)] else[]))) at Nx
   generalize named (r.take k)=ys at ad Nx di;generalize nth r k=x at D Nx eG;have bt:=AA ad;obtain⟨_,_,rfl,_⟩:=(AG.rd ad).open;clear ad;go_wp2_with fail;refine(Cx x _ eG).mono ?_;rintro e w2 ⟨rfl,rfl⟩;cases hg:Bf x
   .rw[Eb hg]
    have cA:=AA (show named (r.take (k+1))=ys by rw[Nx.out,hg];simp);clear hg Nx;go_wp2_with fail;go_roundw
    case rel=>exact⟨k+1,by omega,by go_num,by rw[cA.out];exact bt.out,hb⟩
    case measure=>simp[intOf];omega
   .rw[ER hg]
    have cA:=AA (show named (r.take (k+1))=ys++[A8 x] by rw[Nx.out,hg];simp);generalize A8 x=f at cA;clear hg Nx;rw[Ca];go_wp2_with (at_builtin;go_must (refine Be (lo:=w.heap.size) (n:=ys.length) (xs:=(Ay ys).map (yf .i64)) (m:=1) (news:=[.int .i64 f]) rfl rfl 3 (.int .i64 0) 1 8 underlying29 Tryz.zK rfl (by decide) rfl (by have:=AG.below bt.out (AD wr (.cells #[.int .i64 f] 3));unfold AG at this;rw[Ca] at this;exact this) rfl (Rd.zE _ #[_] _ 1 1 _ (by simp) rfl (by simp[maxLen])) (by simp[xE]) (by unfold maxLen;omega) (by omega) (by have:=hb.size;simp;omega) ?_;intro o' w9 k1 k2 k3 k4));go_roundw
    case rel=>exact⟨k+1,by omega,by go_num,by rw[cA.out];exact IW (zs:=[f]) k1,(hb.alloc hb.size _).trans k4⟩
    case measure=>simp[intOf];omega
  .obtain rfl:k=r.length:=by omega
   rw[xt] at ad;go_wp2_with fail;go_ret;exact⟨_,rfl,ad,hb⟩
theorem KP {lo:Nat} {w:World} {ys:List Nat} (h:AG lo w v (Ay ys)) (hb:Below w.heap.size w w'):w'.ownsRow lo 3 1 v ys.length ((Ay ys).map (yf .i64)):=by
 have:=AG.below h hb;unfold AG at this
 rwa [Ca] at this
theorem ET {lo:Nat} {w:World} {ys:List Nat} (h:AG lo w v (Ay ys)):∃a c,v= .slice a ys.length c/\ys.length<=c:=by obtain⟨a,c,e,hc,_⟩:=(AG.rd h).open;rw[Ca] at e hc;exact⟨a,c,e,hc⟩
def HJ (fs:List Nat) (k:Nat):List Nat:=(yE k).filter fun f=>fs.contains f
theorem Qt:HJ fs (k+1)=HJ fs k++(if fs.contains k then[k] else[]):=by
 unfold HJ;rw[xx,List.filter_append]
 congr 1
 simp only[List.filter_cons,List.filter_nil]
theorem Ta:(HJ fs k).length<=k:=by
 have:=List.length_filter_le (fun f=>fs.contains f) (yE k);simpa[HJ] using this
theorem UH:((Ay fs).any fun x=>decide (x=(k:Int)))=fs.contains k:=by
 rw[wF,List.contains_iff_mem];simp[Ay];constructor
 .rintro⟨x,hx,e⟩
  obtain rfl:x=k:=by omega
  exact hx
 .intro h
  exact⟨k,h,rfl⟩
theorem KJ (v:Value) (fs:List Nat) (w:World) (h:Ax w v (Ay fs)):Calls prog 175 #[v] w fun e w'=>∃v',e= .returned v'/\AG w.heap.size w' v' (Ay (IJ fs))/\Below w.heap.size w w':=by
 have C:=AA (fun(k:Nat) W (hW:Below w.heap.size w W)=>RY v (Ay fs) (k:Int) W (Ax.below h hW));have bA:=AD w (.cells #[] 3);have o1:=FF w;clear h;go_in;go_wp2_with fail;generalize w.alloc (.cells #[] 3)=wa at o1 bA ⊢;generalize(xB (some ⟨w.heap.size,0,none⟩) 0 0)=o at o1 ⊢;go_loopw [3,4] (fun o ix wr=>∃k:Nat,k<=12/\ix= .int .i64 k/\AG w.heap.size wr o (Ay (HJ fs k))/\Below w.heap.size w wr) (fun _ ix _=>12 - (intOf ix).toNat)
 case atStart=>exact⟨0,yh _,rfl,o1,bA⟩
 case round=>
  clear o1 bA;obtain⟨k,hk,rfl,ad,hb⟩:=hrel
  by_cases ai:k<12
  .have bd:(k:Int)<12:=by omega
   have Nx:=AA (Qt (fs:=fs) (k:=k));have di:=Ta (fs:=fs) (k:=k);generalize HJ fs k=ys at ad Nx di;have Ck:=C.out k wr hb;rw[UH] at Ck;have HC:=AA Ck;have bt:=AA ad;obtain⟨_,_,rfl,_⟩:=ET ad;clear ad Ck;go_wp2_with fail;refine HC.out.mono ?_;rintro e w2 ⟨rfl,b2⟩;have cf:=hb.trans (b2.mono hb.size);have bo:=AA (bt.out.below b2);cases hg:fs.contains k
   .have cA:=AA (show HJ fs (k+1)=ys by rw[Nx.out,hg];simp)
    clear hg Nx;go_wp2_with fail;go_roundw
    case rel=>exact⟨k+1,by omega,by go_num,by rw[cA.out];exact bo.out,cf⟩
    case measure=>simp[intOf];omega
   .have cA:=AA (show HJ fs (k+1)=ys++[k] by rw[Nx.out,hg];simp)
    clear hg Nx;go_wp2_with (at_builtin;go_must (refine Be (lo:=w.heap.size) (n:=ys.length) (xs:=(Ay ys).map (yf .i64)) (m:=1) (news:=[.int .i64 k]) rfl rfl 3 (.int .i64 0) 1 8 underlying29 Tryz.zK rfl (by decide) rfl (KP bo.out (AD _ (.cells #[.int .i64 k] 3))) rfl (Rd.zE _ #[_] _ 1 1 _ (by simp) rfl (by simp[maxLen])) (by simp[xE]) (by unfold maxLen;omega) (by omega) (by have:=cf.size;simp;omega) ?_;intro o' w9 k1 k2 k3 k4));go_roundw
    case rel=>exact⟨k+1,by omega,by go_num,by rw[cA.out];exact IW (zs:=[k]) k1,(cf.alloc cf.size _).trans k4⟩
    case measure=>simp[intOf];omega
  .obtain rfl:k=12:=by omega
   rw[show((12:Nat):Int)=12 from rfl];go_wp2_with fail;go_ret;exact⟨_,rfl,ad,hb⟩
theorem LR {m:List (List Int)} (hm:Bs m=true) {f:Nat} (hf:f<12):∀k,k<(AH m f).length->nth (AH m f) k<=9223372036854775807:=fun k hk=>by obtain⟨h4,hw⟩:=A5.1 ((Ah.1 hm).2 f hf);have:=(hw _ (DG (d:=0) hk)).2;unfold nth;omega
theorem KK (v:Value) (m:List (List Int)) (root:Nat) (w:World) (h:Bc w v m) (hm:Bs m=true) (hr:root<12):Calls prog 174 #[v, .int .i64 root] w fun e w'=>∃v',e= .returned v'/\AG w.heap.size w' v' (Ay (Ec m root))/\Below w.heap.size w w':=by
 obtain⟨a,c,rfl,hc,be,H⟩:=h.open;have cH:=(Ah.1 hm).1;have dd:=(A5.1 ((Ah.1 hm).2 root hr)).1;obtain⟨b,ck,u,rfl,dp,D,hR⟩:=H root (by omega);have C:=AA (IU u (AH m root) w hR (by omega) (LR hm hr));have gL:(root:Int)<12:=by omega
 rw[cH];obtain⟨_,_,rfl,_⟩:=hR.open;unfold Ec;clear h H hR hm cH hc be dd;go_in;go_wp2_with fail;refine C.out.mono ?_;rintro e w1 ⟨v1,rfl,o1,b1⟩;have C2:=AA (KJ v1 _ w1 (AG.rd o1));have ay:=AA b1;clear o1 b1 C;go_wp2_with fail;refine C2.out.mono ?_;rintro e w2 ⟨v2,rfl,o2,b2⟩;have es:=AA (MH o2 ay.out.size);have c8:=AA (ay.out.trans (b2.mono ay.out.size));clear o2 b2 C2;go_wp2_with fail;go_ret;exact⟨_,rfl,es.out,c8.out⟩
def Fh (m:List (List Int)) (ts:List Nat) (k:Nat):List Nat:=(ts.take k).flatMap fun t=>named (AH m t)
theorem Lu {m:List (List Int)} {ts:List Nat} (h:k<ts.length):Fh m ts (k+1)=Fh m ts k++named (AH m (Hh ts k)):=by unfold Fh;rw[Cw (Fv h),List.flatMap_append];simp
theorem Si {m:List (List Int)} {ts:List Nat} (hl:∀t∈ts,(AH m t).length=4):(Fh m ts k).length<=4*k:=by
 induction k with
 |zero=>simp[Fh]
 |succ k ih=>
  by_cases h:k<ts.length
  .rw[Lu h,yl]
   have h1:=FB (r:=AH m (Hh ts k));have h2:=hl _ (yg (Fv h));omega
  .have:Fh m ts (k+1)=Fh m ts k:=by unfold Fh;rw[wv (by omega),wv (by omega)]
   rw[this];omega
theorem Ss (v:Value) (m:List (List Int)) (root:Nat) (w:World) (h:Bc w v m) (hm:Bs m=true) (hr:root<12):Calls prog 176 #[v, .int .i64 root] w fun e w'=>∃v',e= .returned v'/\AG w.heap.size w' v' (Ay (Ir m root))/\Below w.heap.size w w':=by
 have bA:=AD w (.cells #[] 3);have o1:=FF w;have C:=AA (KK v m root _ (h.below bA) hm hr);obtain⟨a,c,rfl,hc,be,H⟩:=h.open;have cH:=(Ah.1 hm).1;have hT:∀t∈Ec m root,t<12:=fun t ht=>FD (IY.1 ht)
 have ba:∀t∈Ec m root,(AH m t).length=4:=fun t ht=>(A5.1 ((Ah.1 hm).2 t (hT t ht))).1
 have fO:(Ec m root).length<=12:=LL;have FS:Ir m root=IJ (Fh m (Ec m root) (Ec m root).length):=by unfold Ir Fh;rw[xt]
 rw[FS];have HH:=AA H;have HT:=AA (ye hT ba);have Hm:=AA hm;rw[cH] at C ⊢;generalize Ec m root=ts at*;clear h H hm hT ba FS hc be;go_in;go_wp2_with fail;generalize w.alloc (.cells #[] 3)=wa at o1 bA C ⊢;refine C.out.mono ?_;rintro e w1 ⟨v1,rfl,t1,b1⟩;have fa:=bA.trans (b1.mono bA.size);have o2:=AG.below o1 b1;obtain⟨a1,c1,rfl,fX⟩:=ET t1;have gl:=AA t1;have ay:=AA fa;have bs:Fa (.slice (some ⟨w.heap.size,0,none⟩) 0 0) (.slice a1 ts.length c1):=fun b hb fZ=>by have h1:=(yr t1 b fZ).1;have h2:=(yr o1 b hb).2;omega
 clear C o1 bA t1 b1 fa;go_wp2_with fail;generalize(xB (some ⟨w.heap.size,0,none⟩) 0 0)=o at o2 bs ⊢;go_loopw [5,7] (fun o ix wr=>∃k:Nat,k<=ts.length/\ix= .int .i64 k/\AG w.heap.size wr o (Ay (Fh m ts k))/\Below w.heap.size w wr/\AG wa.heap.size wr (.slice a1 ts.length c1) (Ay ts)/\Fa o (.slice a1 ts.length c1)) (fun _ ix _=>ts.length - (intOf ix).toNat)
 case atStart=>exact⟨0,yh _,rfl,o2,ay.out,gl.out,bs⟩
 case round=>
  clear o2 bs;obtain⟨k,hk,rfl,ad,hb,dT,bs⟩:=hrel
  by_cases ai:k<ts.length
  .have bd:(k:Int)<(ts.length:Int):=by omega
   obtain⟨_,_,e1,_,_,H1⟩:=(AG.rd dT).open;simp only[xD] at e1;obtain⟨rfl,e2,rfl⟩:=e1;clear e2;obtain⟨b1,fA,rfl,D1⟩:=H1.at (k:=k) (by rw[Ca];exact ai);rw[Ob] at D1;clear H1;have cI:=yg (Fv ai);have hf:=HT.out.1 _ cI;have bl:=HT.out.2 _ cI;obtain⟨b,ck,u,rfl,dp,D,hR⟩:=(HH.out.below hb) (Hh ts k) (by omega);have CN:=AA (IU u (AH m (Hh ts k)) wr hR (by omega) (LR Hm.out hf));have e0:(Hh ts k:Int)<12:=by omega
   have Nx:=AA (Lu (m:=m) ai);have di:=Si (k:=k) HT.out.2;have eM:=FB (r:=AH m (Hh ts k));rw[bl] at eM;obtain⟨_,_,rfl,_⟩:=hR.open;generalize Fh m ts k=ys at ad Nx di;generalize named (AH m (Hh ts k))=zs at CN Nx eM;generalize Hh ts k=f at*;have bt:=AA ad;obtain⟨_,_,rfl,_⟩:=ET ad;have Ht:=AA (ye dT bs);clear ad hR cI bl dT bs;go_wp2_with fail;refine CN.out.mono ?_;rintro e w2 ⟨v2,rfl,o2,b2⟩;have c8:=AA (hb.trans (b2.mono hb.size));have dM:=AA (ye (AG.below Ht.out.1 b2) Ht.out.2);have bo:=AA (bt.out.below b2);have dr:=AG.rd o2;obtain⟨az,cz,rfl,gS⟩:=ET o2;have go:=AA dr;clear o2 b2 dr D D1;go_wp2_with (at_builtin;go_must (refine Be (lo:=w.heap.size) (n:=ys.length) (xs:=(Ay ys).map (yf .i64)) (m:=zs.length) (news:=(Ay zs).map (yf .i64)) rfl rfl 3 (.int .i64 0) 1 8 underlying29 Tryz.zK rfl (by decide) rfl (KP bo.out (yF _ _)) rfl (by have:=go.out;unfold Ax at this;rw[Ca] at this;exact this) (LC _) (by unfold maxLen;omega) (by omega) (by have:=c8.out.size;omega) ?_;intro o' w9 k1 k2 k3 k4));go_roundw
   case rel=>exact⟨k+1,by omega,by go_num,by rw[Nx.out];exact IW k1,c8.out.trans k4,Au dM.out.1 k2 dM.out.2.symm.ne,dM.out.2.grown k3 (fun b hb=>(yr dM.out.1 b hb).2)⟩
   case measure=>simp[intOf];omega
  .obtain rfl:k=ts.length:=by omega
   have C2:=AA (KJ _ _ wr (AG.rd ad));obtain⟨_,_,rfl,_⟩:=ET ad;have Hb:=AA hb;clear ad hb;go_wp2_with fail;refine C2.out.mono ?_;rintro e w2 ⟨v2,rfl,o2,b2⟩;have es:=AA (MH o2 Hb.out.size);have c8:=AA (Hb.out.trans (b2.mono Hb.out.size));clear o2 b2 C2;go_wp2_with fail;go_ret;exact⟨_,rfl,es.out,c8.out⟩
end Go.Proofs.YtinbcpipjfljeaaGreatDoor
