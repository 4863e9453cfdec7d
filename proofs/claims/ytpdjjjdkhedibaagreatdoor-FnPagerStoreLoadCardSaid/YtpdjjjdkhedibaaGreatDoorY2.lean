/-
  Packed:32 texts.
-/
import Derived.Test.YtpdjjjdkhedibaaGreatDoorY1
import Derived.Deep.DeepCutAuto
import Derived.Lib.Strings
import Derived.WalkKit
set_option linter.unusedVariables false
set_option linter.unusedSimpArgs false
set_option maxHeartbeats 16000000
set_option maxRecDepth 100000
open Go Go.Proofs.YtpdjjjdkhedibaaGreatDoor
open And renaming intro->xU
open Bool renaming and_eq_true->yu,eq_iff_iff->wF,or_eq_true->xE
open Go.Builtin renaming clear_->tX,zeroCells->xF
open Go.RowKit.Below renaming refl->yD
open Go.Value renaming int->xY,oneCell'->xG,slice->xi
open Go.Value.slice renaming injEq->xH
open Go.World renaming block_lt_of_cell?->yA,ownsRow_nil->xh,size_alloc->xx
open Go.World.ownsRow renaming cellAt->xB,frozenAt->xJ,lt->yk,stored->wJ
open Go renaming bodyPost_ret->yr,cell_of_row->ym,cell_regrown->xX,heap_alloc_new->yi,heap_setCell_same->yq
open Int renaming toNat_natCast->yd
open List renaming all_eq_false->wP,all_eq_true->xZ,append_nil->rV,contains_iff_mem->vG,countP_cons->wZ,count_le_length->vw,drop_eq_getElem_cons->tE,drop_eq_nil_of_le->tq,filter_append->wm,filter_cons->vN,filter_nil->uD,foldl_append->uZ,foldl_cons->yz,foldl_nil->yx,getD_eq_getElem?_getD->xO,getElem?_eq_getElem->yw,getElem?_eq_none->sZ,getElem?_eq_some_iff->yt,getElem?_map->xm,getElem?_of_mem->xq,getElem?_range->sN,getElem?_set->vV,getElem?_set_ne->wl,getElem?_set_self->xv,getElem_of_mem->wS,length_append->yj,length_cons->vT,length_drop->wT,length_filter_le->xy,length_nil->wU,length_replicate->vB,length_set->xP,length_singleton->xI,length_take->xT,map_append->xC,map_set->vm,mem_append->wC,mem_cons->xD,mem_filter->wQ,mem_flatMap->wK,mem_map->vH,mem_of_getElem?->yh,mem_range->xS,mem_singleton->wX,range->yC,range_succ->xt,replicate->xR,set_eq_of_length_le->tB,set_set->ug,takeWhile_cons->sM,take_length->xo,take_of_length_le->wH
open List.range renaming loop->yy
open Nat renaming add_zero->xK,eq_zero_or_pos->wj,le_of_lt->uA,le_refl->yv,le_trans->yB,lt_of_lt_of_le->xW,mul_comm->td,mul_one->wB,zero_add->vt,zero_le->yg
variable {a b f ge gi lo' n:Nat} {kind x:Int} {ss ts:List ByteArray} {u v:Value} {D:List Value} {r:List Int} {es:List Eh} {res:Mh} {N:Ac} {fs:List Nat} {p:AR}
namespace Go.Proofs.YtpdjjjdkhedibaaGreatDoor
open Go.Proofs.Tryz
open Go.RowKit
theorem Sp{k:Int}(h:Bh k=true):VO k=k - 1:=by unfold VO;rw[if_pos h]
theorem WI{zZ:List AV}:Fc zZ f kind ss 0=true:=MC.2 (.inr ⟨rfl,rfl⟩)
theorem X0{zZ:List AV}(h0:x≠0)(h:Bm x=false):Fc zZ f kind ss x=false:=by simp[Fc,h,h0]
theorem Se{zZ:List AV}(h:Bm x=true):Fc zZ f kind ss x=(decide (BC x≠f)&&decide ((zS zZ (BC x)).k=kind - 1)&&By ss (zS zZ (BC x)).g):=by simp[Fc,h]
theorem Xz(x:Int)(f:Nat)(kind:Int)(v iv:Value)(ss:List ByteArray)(zZ:List AV)(bf bi bk br:Nat)(w:World)(hx:x<=9223372036854775807)(J:w.cell? ⟨bf,0,none⟩=some (.int .i64 f))(Y:w.cell? ⟨bi,0,none⟩=some iv)(h3:w.cell? ⟨bk,0,none⟩=some (.int .i64 kind))(h4:w.cell? ⟨br,0,none⟩=some v)
 (hv:BY w v ss)(hI:Bb w iv zZ)(hl:zZ.length=12)(hk:Bh kind=true):
 Calls prog 157 #[.int .i64 x,.pointer (some ⟨bf,0,none⟩),.pointer (some ⟨bi,0,none⟩),.pointer (some ⟨bk,0,none⟩),.pointer (some ⟨br,0,none⟩)] w λe w'=>e=.returned (.bool (!Fc zZ f kind ss x))/\Below w.heap.size w w':=by
 obtain⟨a,c,rfl,hc,eL,H0⟩:=BK.open A0 (by decide) hI;have CE:=AA (λW=>Ff x W hx);have k1:=xX J;have k2:=xX Y;have k3:=xX h3;have k4:=xX h4;have cT:=Xg (w1:=w) (λW=>LS kind W);rw[Sp hk] at cT
 by_cases gS:x=0
 .subst gS
  have hs:=AA (Eu (x:=0) rfl);have S:=AA (show(!Fc zZ f kind ss 0)=false by rw[WI];rfl);clear H0 hI hv J Y h3 h4 hk hc eL;go_in;go_wp2_with (go_at_call 150;refine(CE.out _).mono ?_;rintro e w' ⟨rfl,rfl⟩;rw[hs.out]);refine Bj ?_
  repeat(go_big_quiet_step (exact cT _ _))
  refine Bi λwq bq=>?_
  go_wp2_with fail;go_ret;exact⟨AH S.out.symm,bq⟩
 .have t0:(x !=0)=true:=by simp[gS]
  cases O:Bm x
  .have hs:=AA (Eu O)
   have S:=AA (show(!Fc zZ f kind ss x)=true by rw[X0 gS O];rfl);clear H0 hI hv J Y h3 h4 hk hc eL O gS;go_in;go_wp2_with (go_at_call 150;refine(CE.out _).mono ?_;rintro e w' ⟨rfl,rfl⟩;rw[hs.out]);refine Bj ?_
   repeat(go_big_quiet_step (exact cT _ _))
   refine Bi λwq bq=>?_
   go_wp2_with fail;go_ret;exact⟨AH S.out.symm,bq⟩
  .have hF:=Ec O
   have hs:=AA (Ej O);have G:=AA (Se (zZ:=zZ) (f:=f) (kind:=kind) (ss:=ss) O);obtain⟨b,b5,rfl,X,D0,D1,D2⟩:=H0.zP (show BC x<zZ.length by omega);have d0:=xX D0;have d1:=xX D1;have M:=Uh (w1:=w) (λW hW=>PY v ss (zS zZ (BC x)).g W (BK.below hv hW));obtain⟨av,cv,rfl,_,_⟩:=hv.shape;have i1:((BC x:Nat):Int)<zZ.length:=by omega
   clear H0 hI hv J Y h3 h4 hk hc eL D0 D1 D2 gS O;generalize BC x=o at*
   by_cases e1:o=f
   .have t1:((o:Int)==(f:Int))=true:=by simp[e1]
    have S:=AA (show(!Fc zZ f kind ss x)=true by rw[G.out];simp[e1]);clear e1;go_in;go_wp2_with (go_at_call 150;refine(CE.out _).mono ?_;rintro e w' ⟨rfl,rfl⟩;rw[hs.out]);refine Bj ?_
    repeat(go_big_quiet_step (first|exact cT _ _|exact M _ _))
    refine Bi λwq bq=>?_
    go_wp2_with fail;go_ret;exact⟨AH S.out.symm,bq⟩
   .have t1:((o:Int)==(f:Int))=false:=by simp;omega
    by_cases e2:(zS zZ o).k=kind - 1
    focus
     have t2:((zS zZ o).k !=kind - 1)=false:=by simp[e2]
     have S:=AA (show(!Fc zZ f kind ss x)=!By ss (zS zZ o).g by rw[G.out];simp[e1,e2])
    rotate_left
    focus
     have t2:((zS zZ o).k !=kind - 1)=true:=by simp[e2]
     have S:=AA (show(!Fc zZ f kind ss x)=true by rw[G.out];simp[e2])
    rotate_left
    all_goals
     clear e1 e2;go_in;go_wp2_with (go_at_call 150;refine(CE.out _).mono ?_;rintro e w' ⟨rfl,rfl⟩;rw[hs.out]);refine Bj ?_
     repeat(go_big_quiet_step (first|exact cT _ _|exact M _ _))
     refine Bi λwq bq=>?_
     go_wp2_with fail;go_ret;exact⟨AH S.out.symm,bq⟩
theorem ZC(v iv rv:Value)(m:List (List Int))(zZ:List AV)(f:Nat)(kind:Int)(ss:List ByteArray)(w:World)(h:Bk w v m)(bw:Bu m=true)(hI:Bb w iv zZ)(hl:zZ.length=12)(hf:f<12)(hk:Bh kind=true)(hv:BY w rv ss):
 Calls prog 103 #[v,iv,.int .i64 f,.int .i64 kind,rv] w λe w'=>e=.returned (.bool (JN m zZ f kind ss))/\Below w.heap.size w w':=by
 obtain⟨ai,ci,rfl,_,_⟩:=hI.shape;obtain⟨av,cv,rfl,_,_⟩:=hv.shape;have b4:=bV w (.cells #[.slice ai zZ.length ci] 24) (.cells #[.int .i64 f] 3) (.cells #[.int .i64 kind] 3) (.cells #[.slice av ss.length cv] 72);have N0:=yi w (.cells #[.slice ai zZ.length ci] 24);have N1:=yi (w.alloc (.cells #[.slice ai zZ.length ci] 24)) (.cells #[.int .i64 f] 3);have N2:=yi ((w.alloc (.cells #[.slice ai zZ.length ci] 24)).alloc (.cells #[.int .i64 f] 3)) (.cells #[.int .i64 kind] 3);have N3:=yi (((w.alloc (.cells #[.slice ai zZ.length ci] 24)).alloc (.cells #[.int .i64 f] 3)).alloc (.cells #[.int .i64 kind] 3)) (.cells #[.slice av ss.length cv] 72);simp only[xx] at N1 N2 N3;have M2:=AB N2 (AI _ (.cells #[.slice av ss.length cv] 72));have M1:=AB N1 (IA _ (.cells #[.int .i64 kind] 3) (.cells #[.slice av ss.length cv] 72));have M0:=AB N0 (Yw _ (.cells #[.int .i64 f] 3) (.cells #[.int .i64 kind] 3) (.cells #[.slice av ss.length cv] 72));obtain⟨q,c,rfl,hc,eL,H0⟩:=h.open;have db:=(Ai.1 bw).1;obtain⟨bm,fx,br,fw,cr,rfl,jM,vs,kH,lQ,W0⟩:=H0.row4 bw hf;have D':=(b4.cell (p:=⟨bm,fx+f,none⟩) jM).trans vs;have rd:=(Bk.open (Bk.below h b4));have dm:Ax ((((w.alloc (.cells #[.slice ai zZ.length ci] 24)).alloc (.cells #[.int .i64 f] 3)).alloc (.cells #[.int .i64 kind] 3)).alloc (.cells #[.slice av ss.length cv] 72)) (.slice (some ⟨br,fw,none⟩) 4 cr) (AG m f):=by obtain⟨b',lh,u,e,_,kG,hr⟩:=H0 f (by omega);cases e;rw[vs] at kG;cases kG;exact Ax.below hr b4
 have S:=AA (show(!(AG m f).any λx=>!Fc zZ f kind ss x)=JN m zZ f kind ss by rw[M6];rfl);have hw:∀x,x∈AG m f->x<=9999:=λx hx=>((A4.1 ((Ai.1 bw).2 f hf)).2 x hx).2
 have C:=AA (J0 157 #[.pointer (some ⟨w.heap.size+1,0,none⟩),.pointer (some ⟨w.heap.size,0,none⟩),.pointer (some ⟨w.heap.size+1+1,0,none⟩),.pointer (some ⟨w.heap.size+1+1+1,0,none⟩)] (λx=>!Fc zZ f kind ss x) _ (AG m f) _ dm (λ_ _=>by kernel_rfl) (by intro x hx W hW;have X:=b4.trans (hW.mono b4.size);exact Xz x f kind _ _ ss zZ _ _ _ _ W (by have:=hw x hx;omega) (ym _ _ 0 _ _ _ (AB M1 hW)) (ym _ _ 0 _ _ _ (AB M0 hW)) (ym _ _ 0 _ _ _ (AB M2 hW)) (ym _ _ 0 _ _ _ (AB N3 hW)) (BK.below hv X) (BK.below hI X) hl hk))
 have fm:(f:Int)<m.length:=by omega
 clear hv hI h dm hw N0 N1 N2 N3 M0 M1 M2 W0 rd H0 vs hl db bw;go_in;go_wp2_with (refine(C.out).mono ?_;rintro e w' ⟨rfl,ao⟩);go_ret;exact⟨AH S.out,b4.trans (ao.mono b4.size)⟩
def Io(m:List (List Int))(zZ:List AV)(t j g:Nat):Nat:=
 ((yC t).map λu=>if Bh (zS zZ u).k then(named (AG m u)).count g else 0).sum+(named ((AG m t).take j)).count g
def Gp(m:List (List Int))(zZ:List AV)(t j:Nat):List Int:=(yC 12).map λg=>(Io m zZ t j g:Int)
section
variable {m:List (List Int)} {zZ:List AV} {t j g:Nat}
theorem Jn:(Gp m zZ t j).length=12:=by simp[Gp]
theorem Pw(h:g<12):nth (Gp m zZ t j) g=Io m zZ t j g:=by unfold Gp nth;rw[xO,xm,sN h];rfl
theorem SP:Gp m zZ 0 0=xR 12 0:=by simp[Gp,Io,named,yC,yy,xR]
theorem aI(hj:j<(AG m t).length)(h:Bm ((AG m t).getD j 0)=false):Gp m zZ t (j+1)=Gp m zZ t j:=by unfold Gp Io;rw[Kx hj,h];simp
theorem Y1(hj:j<(AG m t).length)(h:Bm ((AG m t).getD j 0)=true):
 Gp m zZ t (j+1)=(Gp m zZ t j).set (BC ((AG m t).getD j 0)) (Io m zZ t j (BC ((AG m t).getD j 0))+1):=by
 refine MA (by simp[Gp]) λg O=>?_
 rw[Jn] at O;have hf:=Ec h;rw[T0 (by rw[Jn];exact hf),Pw O,Pw O];unfold Io;rw[Kx hj,h,if_pos rfl,List.count_append]
 by_cases e:g=BC ((AG m t).getD j 0)
 .subst e;simp;omega
 .rw[if_neg e,List.count_singleton]
  have:(BC ((AG m t).getD j 0)==g)=false:=by simp;exact λh=>e h.symm
  rw[this];simp
theorem Y0(hk:Bh (zS zZ t).k=true)(hl:(AG m t).length=4):Gp m zZ t 4=Gp m zZ (t+1) 0:=by unfold Gp Io;rw[xt (n:=t),wH (Nat.le_of_eq hl)];simp[hk,named]
theorem SN(hk:Bh (zS zZ t).k=false):Gp m zZ t 0=Gp m zZ (t+1) 0:=by unfold Gp Io;rw[xt (n:=t)];simp[hk,named]
theorem Un:Gp m zZ 12 0=(yC 12).map λg=>(countP m zZ g:Int):=by unfold Gp Io countP;simp[named]
theorem Px(hm:Bu m=true)(ht:t<=12)(hj:j<=4):Io m zZ t j g<=100:=by
 have J:((yC t).map λu=>if Bh (zS zZ u).k then(named (AG m u)).count g else 0).sum<=4*t:=by
  clear hj
  induction t with
  |zero=>simp
  |succ t ih=>
   have:=ih (by omega);rw[xt,xC,List.sum_append];have Y:(if Bh (zS zZ t).k then(named (AG m t)).count g else 0)<=4:=by
    split
    .have h3:=vw (a:=g) (l:=named (AG m t))
     have h4:=FV (r:=AG m t);have h5:=(A4.1 ((Ai.1 hm).2 t (by omega))).1;omega
    .omega
   simp only[List.map_cons,List.map_nil,List.sum_cons,List.sum_nil];omega
 have h3:=vw (a:=g) (l:=named ((AG m t).take j));have h4:=FV (r:=(AG m t).take j);rw[xT] at h4;unfold Io;omega
end
theorem Ur(v iv:Value)(m:List (List Int))(zZ:List AV)(w:World)(h:Bk w v m)(bw:Bu m=true)(hI:Bb w iv zZ)(hl:zZ.length=12):
 Calls prog 97 #[v,iv] w λe w'=>∃v',e=.returned v'/\AF w.heap.size w' v' ((yC 12).map λg=>(countP m zZ g:Int))/\Below w.heap.size w w':=by
 obtain⟨q,c,rfl,hc,eL,H0⟩:=h.open;obtain⟨a2,c2,rfl,lT,jK,H2⟩:=BK.open A0 (by decide) hI;have db:=(Ai.1 bw).1;unfold maxLen at eL jK;rw[db] at hc ⊢;rw[hl] at lT ⊢;have gh:=AA bw;have HR:=AA H0;have HI:=AA H2;have Hl:=AA hl;clear h bw H0 H2 db hI hl;go_in;go_wp2_with (at_make;go_must (refine Pb (n:=12) rfl rfl 3 (.int .i64 0) 8 underlying29 Tryz.zI rfl rfl (by omega) (by unfold maxLen;omega) ?_;intro w1 eS al eH));have kL:AF w.heap.size w1 (.slice (some ⟨w.heap.size,0,none⟩) 12 12) (Gp m zZ 0 0):=by unfold AF;rw[Jn,SP];exact eS
 have lK:w.heap.size<=w.heap.size:=yv _;have my:=AA al;clear eS al;go_loopw [16] (λi wr=>∃t:Nat,t<=12/\i=.int .i64 t/\AF w.heap.size wr (.slice (some ⟨w.heap.size,0,none⟩) 12 12) (Gp m zZ t 0)/\Below w.heap.size w wr) (λi _=>12 - (intOf i).toNat)
 exact⟨0,yg _,rfl,kL,my.out⟩
 obtain⟨t,ht,rfl,hO,al⟩:=hrel;clear kL
 by_cases az:t<12
 .obtain⟨b,b5,rfl,eN,D0,D1,D2⟩:=HI.out.zP (show t<zZ.length by rw[Hl.out];exact az)
  replace D0:=(al.cell (p:=⟨b,b5+t*3,none⟩) eN).trans D0;replace D1:=(al.cell (p:=⟨b,b5+t*3+1,none⟩) eN).trans D1;replace D2:=(al.cell (p:=⟨b,b5+t*3+2,none⟩) eN).trans D2;have call:=yi wr (.cells #[.int .i64 (zS zZ t).k,.string (zS zZ t).g,.int .i64 (zS zZ t).r] 92);have iM:=al.trans ((AI wr (.cells #[.int .i64 (zS zZ t).k,.string (zS zZ t).g,.int .i64 (zS zZ t).r] 92)).mono al.size);have HO:=AA (AF.below hO (AI wr (.cells #[.int .i64 (zS zZ t).k,.string (zS zZ t).g,.int .i64 (zS zZ t).r] 92)));have CT:=AA (λW=>Is (zS zZ t).k W);clear hO;obtain⟨bm,fx,br,fw,cr,rfl,jM,M0,kH,lQ,W0⟩:=HR.out.row4 gh.out az;have HW:=AA W0;have M:=(iM.cell (p:=⟨bm,fx+t,none⟩) jM).trans M0;have jp:=AA (A4.1 ((Ai.1 gh.out).2 _ az)).1;clear W0 M0;cases hk:Bh (zS zZ t).k
  .have S:=AA (SN (m:=m) hk)
   have Z:=AA hk;clear hk;go_wp2_with (go_at_call 102;refine(CT.out _).mono ?_;rintro e w' ⟨rfl,rfl⟩;rw[Z.out]);go_roundw;exact⟨t+1,by omega,by go_num,by rw[<-S.out];exact HO.out,iM⟩;simp[intOf];omega
  .have S:=AA (Y0 (m:=m) hk jp.out)
   have Z:=AA hk;clear hk;go_wp2_with (go_at_call 102;refine(CT.out _).mono ?_;rintro e w' ⟨rfl,rfl⟩;rw[Z.out]);generalize wr.alloc _=wa at*;clear D0 D1 D2 M call al;have HB:=AA iM;clear iM;go_loopw [30] (λi wi=>∃j:Nat,j<=4/\i=.int .i64 j/\AF w.heap.size wi (.slice (some ⟨w.heap.size,0,none⟩) 12 12) (Gp m zZ t j)/\Below w.heap.size w wi) (λi _=>4 - (intOf i).toNat)
   exact⟨0,by omega,rfl,HO.out,HB.out⟩
   obtain⟨j,hj,rfl,iP,ey⟩:=hrel
   by_cases dT:j<4
   .have W:=(ey.cell (p:=⟨br,fw+j,none⟩) kH).trans (HW.out j dT)
    have wb:=Hz gh.out az dT;have CE:=AA (λW=>Ff (As m t j) W (by omega));cases O:Bm (As m t j)
    .have hs:=AA (Eu O)
     have Hb:=AA (aI (zZ:=zZ) (show j<(AG m t).length by rw[jp.out];exact dT) O);clear O;go_wp2_with (go_at_call 150;refine(CE.out _).mono ?_;rintro e w' ⟨rfl,rfl⟩;rw[hs.out]);go_roundw;exact⟨j+1,by omega,by go_num,by rw[Hb.out];exact iP,ey⟩;simp[intOf];omega
    .have hs:=AA (Ej O)
     have hF:=Ec O;have Hb:=AA (Y1 (zZ:=zZ) (show j<(AG m t).length by rw[jp.out];exact dT) O);have f6:=Px (zZ:=zZ) (g:=BC (As m t j)) gh.out (uA az) hj;have eR:wr.ownsRow w.heap.size 3 1 (.slice (some ⟨w.heap.size,0,none⟩) 12 12) 12 ((Gp m zZ t j).map (xY .i64)):=by have:=iP;unfold AF at this;rwa [Jn] at this
     have C:=(eR.cellAt (BC (As m t j)) (by omega)).trans (Fh (xs:=Gp m zZ t j) (by rw[Jn];exact hF));rw[Pw hF] at C;have Fr:=eR.frozenAt (BC (As m t j));have S2:=AA (eR.stored (BC (As m t j)) (.int .i64 ((Io m zZ t j (BC (As m t j)):Int)+1)));have e0:(AG m t).getD j 0=As m t j:=rfl;rw[e0] at Hb;clear O e0 eR iP;generalize BC (As m t j)=f at*;generalize Io m zZ t j f=n at*;go_wp2_with (go_at_call 150;refine(CE.out _).mono ?_;rintro e w' ⟨rfl,rfl⟩;rw[hs.out]);go_roundw
     case rel=>refine⟨j+1,by omega,by go_num,?_,AM ey S2.out.2 lK ey.size⟩;rw[Hb.out];unfold AF;rw[xP,Jn,vm];exact S2.out.1
     case measure=>simp[intOf];omega
   .obtain rfl:j=4:=by omega
    go_wp2_with fail;go_roundw;exact⟨t+1,by omega,by go_num,by rw[<-S.out];exact iP,ey⟩;simp[intOf];omega
 .obtain rfl:t=12:=by omega
  rw[Un] at hO;go_wp2_with fail;go_ret;exact⟨_,rfl,hO,al⟩
theorem Xu{α:Type}{cs:α->List Value}{sz:Nat}(V:∀x,(cs x).length=sz){xs:List α}{k j:Nat}{x y:α}{u:Value}(hk:xs[k]?=some x)(hj:j<sz)(hy:cs y=(cs x).set j u):
 (Cc cs xs).set (k*sz+j) u=Cc cs (xs.set k y):=by
 have J:=Uy V (yt.1 hk).1 y;rw[<-J];refine List.ext_getElem? λi=>?_
 obtain⟨az,hx⟩:=yt.1 hk;have X:k*sz+sz<=xs.length*sz:=by rw[<-Nat.succ_mul];exact Nat.mul_le_mul_right _ az
 rw[J,vV,Jo V]
 by_cases R:i<xs.length*sz
 .have hz:0<sz:=by omega
  have jx:i/sz<xs.length:=Nat.div_lt_of_lt_mul (by rw[td];exact R);have fV:=Nat.mod_lt i hz;have jG:i/sz*sz+i%sz=i:=by rw[td];exact Nat.div_add_mod i sz
  have ha:(Cc cs xs)[i]?=(cs xs[i/sz])[i%sz]? :=by have:=PU V (yw jx) fV;rw[jG] at this;exact this
  have eW:(Cc cs (xs.set k y))[i]?=(cs ((xs.set k y)[i/sz]'(by rw[xP];exact jx)))[i%sz]? :=by have:=PU V (yw (l:=xs.set k y) (i:=i/sz) (by rw[xP];exact jx)) fV;rw[jG] at this;exact this
  rw[ha,eW,List.getElem_set]
  by_cases e:k=i/sz
  .subst e
   rw[if_pos rfl,hy,vV,hx,V]
   by_cases e2:j=i%sz
   .subst e2;rw[if_pos jG,if_pos (by omega),if_pos rfl,if_pos fV]
   .rw[if_neg (by omega),if_neg e2]
  .rw[if_neg e]
   have:¬k*sz+j=i:=by intro h;apply e;rw[<-h,td,Nat.mul_add_div hz,Nat.div_eq_of_lt hj,xK]
   rw[if_neg this]
 .rw[sZ (by rw[Jo V];omega),sZ (by rw[Jo V,xP];omega),if_neg (by omega)]
section
variable {α:Type} {lo e sz:Nat} {cs:α->List Value} {w:World} {g ad k j:Nat} {xs:List α}
theorem AQ.zx(V:∀x,(cs x).length=sz)(h:AQ lo e sz cs w (.slice (some ⟨g,0,none⟩) xs.length ad) xs){x y:α}{u:Value}(hk:xs[k]?=some x)(hj:j<sz)(hy:cs y=(cs x).set j u):
 AQ lo e sz cs (w.setCell ⟨g,k*sz+j,none⟩ u) (.slice (some ⟨g,0,none⟩) xs.length ad) (xs.set k y)/\w.grownBy (w.setCell ⟨g,k*sz+j,none⟩ u) (some g):=by
 obtain⟨J,Y⟩:=wJ h (k*sz+j) u;rw[Xu V hk hj hy] at J;refine⟨?_,Y⟩;unfold AQ;rw[xP];exact J
end
theorem Cq{l:List AV}{k:Nat}(h:k<l.length):l[k]?=some (zS l k):=by simp[zS,h]
theorem Kw{l:List AV}{k:Nat}{f:AV->AV}:At l k f=l.set k (f (zS l k)):=Jc
theorem KK{s:ByteArray}(h:BV s=true):s.size<=4:=by unfold BV at h;simp only[yu,decide_eq_true_eq] at h;exact h.2
theorem IC{x:AV}(h:DU x=true):x.g.size<=maxLen/\0<=x.r/\x.r<=50:=by
 unfold DU at h;simp only[xE,decide_eq_true_eq,yu,AZ] at h
 rcases h with rfl|⟨⟨_,J⟩,Y⟩
 .exact⟨by simp[AV.zero,ByteArray.size],by simp[AV.zero],by simp[AV.zero]⟩
 .exact⟨yB (KK J) (by decide),Y.1,Y.2⟩
theorem TC{l:List AV}(h:∀f,f<l.length->(zS l f).g.size<=maxLen):IS l:=by intro x hx;obtain⟨i,R,rfl⟩:=wS hx;have:=h i R;simpa[zS,R] using this
theorem Cg{l:List AV}(h:BP l=true):IS l:=TC λf hf=>(IC ((A1.1 h).2 f (by have:=(A1.1 h).1;omega))).1
theorem Lo{zZ:List AV}(h:BP zZ=true){fs:List Nat}(kC:fs.length<=4){n:Int}(K:n=1∨n= -1){g:Nat}(O:g<12):
 -4<=(zS (Bn zZ fs n) g).r/\(zS (Bn zZ fs n) g).r<=54/\(zS (Bn zZ fs n) g).g.size<=maxLen:=by
 obtain⟨hl,Y⟩:=A1.1 h;obtain⟨a,b,c⟩:=IC (Y g O);rw[NZ (by omega)];have:=vw (a:=g) (l:=fs);refine⟨?_,?_,a⟩
 .show -4<=_+n*_
  rcases K with rfl|rfl<;>omega
 .show _+n*_<=54
  rcases K with rfl|rfl<;>omega
theorem bv{m:List (List Int)}{zZ:List AV}:IF m zZ f kind ss=
 if(zS zZ f).k≠1∨(zS zZ f).r≠0 then(zZ,1)
 else if JN m zZ f kind ss=false then(zZ,2)
 else if BP (At (Bn zZ (named (AG m f)) 1) f (Ef kind)) then(At (Bn zZ (named (AG m f)) 1) f (Ef kind),0) else(zZ,1):=rfl
theorem Zv{m:List (List Int)}{zZ:List AV}:Dz m zZ f=
 if Bh (zS zZ f).k=false∨(zS zZ f).r≠0 then(zZ,1)
 else if BP (At (Bn zZ (named (AG m f)) (-1)) f (Ef 1)) then(At (Bn zZ (named (AG m f)) (-1)) f (Ef 1),0) else(zZ,2):=rfl
theorem QN{m:List (List Int)}(h:Bu m=true){f:Nat}(hf:f<12):(named (AG m f)).length<=4:=by have J:=FV (r:=AG m f);have Y:=(A4.1 ((Ai.1 h).2 f hf)).1;omega
theorem TD{m:List (List Int)}{zZ:List AV}{n:Int}(hm:Bu m=true)(h:BP zZ=true)(hf:f<12)(K:n=1∨n= -1):IS (At (Bn zZ (named (AG m f)) n) f (Ef kind)):=by
 refine TC λg O=>?_
 rw[DF,OS,(A1.1 h).1] at O;have J:=(Lo h (QN hm hf) K O).2.2;rw[Fi]
 split
 .exact(Lo h (QN hm hf) K hf).2.2
 .exact J
def Vs(r:List AV×Int)(w:World)(e:Ending)(w':World):Prop:=∃v',e=.returned (.tuple #[v',.int .i64 r.2])/\AQ w.heap.size 92 3 A3 w' v' r.1/\Below w.heap.size w w'
theorem Tryz.yX:(prog.info? 29).map (λi=>(i.zero,i.size,i.bytes))=some (some (.slice none 0 0),1,24):=by kernel_rfl
theorem Lw:29≠3:=by decide
theorem KY{lo e sz B:Nat}{w:World}{xs:List Value}(h:w.ownsRow lo e sz v n xs)(hu:∀k,u.ownBlock=some k->w.heap.size<=k):Fp v u:=by intro k hk ls;have J:=(h.lt k hk).2;have Y:=hu k ls;omega
theorem Au.push{lo:Nat}{w w1 w2:World}{v':Value}{iZ:List (List Int)}{x:List Int}
 (h:Au lo w v D iZ)(X:Below w.heap.size w w1)(au:lo<=w.heap.size)(hu:AF w.heap.size w1 u x)
 (J:w2.ownsRow lo 29 1 v' (D.length+1) (Cc GO D++[u]))(Y:w1.grownBy w2 v.ownBlock):Au lo w2 v' (D++[u]) (iZ++[x]):=by
 obtain⟨a1,a2,a3⟩:=h;have b7:=a1.below X;refine⟨?_,Fq.snoc (a2.mono λy ys hy=>?_) ?_,DP.snoc a3 λy hy=>?_⟩
 .unfold AQ
  rw[Bf,EZ,yj];exact J
 .have ek:=hy.below X
  exact Aw ek Y (A8 ek b7 (Ne.symm Lw)).ne
 .exact Aw (BU hu au) Y (A8 hu b7 (Ne.symm Lw)).ne
 .obtain⟨i,R⟩:=xq hy
  obtain⟨ys,fe⟩:∃ys,iZ[i]?=some ys:=⟨_,yw (by rw[<-a2.1];exact(yt.1 R).1)⟩
  exact KY (B:=0) (a2.2 i y ys R fe) (λk hk=>(hu.lt k hk).1)
def Nq(n:Nat):List (List Int):=xR n [0,0,0,0]
theorem YA(w:World):
 Calls prog 229 #[] w λe w'=>∃v D,e=.returned v/\Au w.heap.size w' v D (Nq 12)/\Below w.heap.size w w':=by
 go_in;go_wp2_with fail;go_loopw [1,2] (λo i wr=>∃k:Nat,∃D:List Value,k<=12/\D.length=k/\i=.int .i64 k/\Au w.heap.size wr o D (Nq k)/\Below w.heap.size w wr) (λ_ i _=>12 - (intOf i).toNat)
 exact⟨0,[],by omega,rfl,rfl,⟨Cu _ _ _,Fq.nil,DP.nil⟩,AI _ _⟩
 obtain⟨k,D,hk,hl,rfl,hO,al⟩:=hrel;have Hl:=AA hl;clear hl
 by_cases az:k<12
 .have mF:D.length<=12:=by rw[Hl.out];omega
  go_wp2_with (first|(at_make;go_must (refine Pb (n:=4) rfl rfl 3 (.int .i64 0) 8 underlying29 Tryz.zI rfl rfl (by omega) (by unfold maxLen;omega) ?_;intro w2 eS bp eH))|(at_builtin;go_must (refine Bg (lo:=w.heap.size) (n:=D.length) (xs:=Cc GO D) (m:=1) (news:=[.slice (some ⟨wr.heap.size,0,none⟩) 4 4]) rfl rfl 29 (.slice none 0 0) 1 24 underlying23 Tryz.yX rfl (by decide) rfl ((hO.below bp).below (AI _ _)).1 rfl (Rd.zC _ #[_] _ 1 1 _ (by simp) rfl (by simp[maxLen])) (by simp[xG]) (by unfold maxLen;omega) (by omega) (by have:=al.size;simp;omega) ?_;intro o' w3 g1 g2 g3 g4)));go_roundw
  case rel=>have hu:AF wr.heap.size w2 (.slice (some ⟨wr.heap.size,0,none⟩) 4 4) [0,0,0,0]:=eS;have ao:=bp.trans ((AI w2 (.cells #[.slice (some ⟨wr.heap.size,0,none⟩) 4 4] 29)).mono bp.size);have hP:=hO.push ao al.size (hu.below (AI _ _)) g1 g2;refine⟨k+1,D++[.slice (some ⟨wr.heap.size,0,none⟩) 4 4],by omega,by rw[yj,Hl.out];rfl,by go_num,?_,(al.trans (ao.mono al.size)).trans g4⟩;rw[show Nq (k+1)=Nq k++[[0,0,0,0]] by simp[Nq,List.replicate_succ']];exact hP
  case measure=>simp[intOf];omega
 .obtain rfl:k=12:=by omega
  go_wp2_with fail;go_ret;exact⟨_,D,rfl,hO,al⟩
theorem Tryz.yW:(prog.info? 9).map (λi=>(i.zero,i.size,i.bytes))=some (some (.string ⟨#[]⟩),1,16):=by kernel_rfl
theorem Tryz.yR:(prog.info? 74).map (λi=>(i.zero,i.size,i.bytes))=some (some (.agg #[.slice none 0 0,.int .i64 0]),2,32):=by kernel_rfl
theorem ZW{ts:List ByteArray}:∀u∈Cc BD ts,u.oneCell'=true:=by intro u hu;obtain⟨s,_,V⟩:=wK.1 hu;simp[BD] at V;subst V;rfl
theorem BK.keep{α:Type}{sz:Nat}{cs:α->List Value}{w w':World}{xs:List α}(h:BK sz cs w v xs)(hk:∀k,k<w.heap.size->w'.heap[k]?=w.heap[k]?):BK sz cs w' v xs:=Rd.keep h hk
theorem DI.push{lo:Nat}{w w1 w2:World}{v' r:Value}{ps:List (Value×Int)}{n:Int}
 (h:DI lo w v ps es)(X:Below w.heap.size w w1)(au:lo<=lo')(jw:w.heap.size<=lo')(hr:AQ lo' 9 1 BD w1 r ts)
 (J:w2.ownsRow lo 74 2 v' (ps.length+1) (Cc Ep ps++[r,.int .i64 n]))(Y:w1.grownBy w2 v.ownBlock):DI lo w2 v' (ps++[(r,n)]) (es++[⟨ts,n⟩]):=by
 obtain⟨a1,a2,a3⟩:=h;have b7:=a1.below X;have bA:9≠74:=by decide
 refine⟨?_,Fq.snoc (a2.mono λy ys hy=>⟨?_,hy.2⟩) ⟨?_,rfl⟩,?_⟩
 .unfold AQ
  rw[Bf,EZ,yj];exact J
 .have ek:=hy.1.below X
  exact Aw ek Y (A8 ek b7 bA).ne
 .exact Aw (BU hr au) Y (A8 hr b7 bA).ne
 .rw[xC]
  refine DP.snoc a3 λy hy=>?_
  obtain⟨p,hp,rfl⟩:=vH.1 hy;obtain⟨i,R⟩:=xq hp;obtain⟨e,he⟩:∃e,es[i]?=some e:=⟨_,yw (by rw[<-a2.1];exact(yt.1 R).1)⟩
  exact KY (B:=0) (a2.2 i p e R he).1 (λk hk=>yB jw (hr.lt k hk).1)
def aL(lo lo' g:Nat)(iT u ev:Value)(b at_:Nat)(k:Int)(ts:List ByteArray)(ps:List (Value×Int))(es:List Eh)(i:Nat)(v:Value)(w:World):Prop:=match i with
 |0|11=>v=.pointer (some ⟨g,2,none⟩)
 |1=>v=ev
 |2=>∃g2,v=.slice (some ⟨g2,0,none⟩) 0 0/\lo'<=g2/\w.heap[g2]?=some (.cells #[] 9 (0,0))
 |3=>v=iT
 |4=>v=.int .i64 k
 |5=>v=.pointer (some ⟨b,at_,none⟩)
 |6=>v=u
 |7=>AQ lo' 9 1 BD w v ts
 |8=>∃r,v=.agg #[r,.int .i64 (-1)]/\AQ lo' 9 1 BD w r ts
 |9=>∃r g9,v=.slice (some ⟨g9,0,none⟩) 1 1/\lo'<=g9/\w.heap[g9]?=some (.cells #[r,.int .i64 (-1)] 74 (0,0))/\AQ lo' 9 1 BD w r ts
 |10=>∃r,DI lo w v (ps++[(r,-1)]) (es++[⟨ts,-1⟩])
 |_=>True
theorem Bs{lo e sz:Nat}{w w':World}{xs:List Value}{row:Option Nat}(h:w.ownsRow lo e sz v n xs)(O:w.grownBy w' row)(hr:∀k,row=some k->k<lo):w'.ownsRow lo e sz v n xs:=by
 refine Aw h O ?_;cases hv:v.ownBlock with
 |none=>exact .inl rfl
 |some k=>
  refine .inr λhe=>?_
  have J:=hr k he.symm;have Y:=(h.lt k hv).1;omega
theorem Fy{w w':World}{lo g:Nat}{o:Obj}{row:Option Nat}(h:w.heap[g]?=some o)(hl:lo<=g)(O:w.grownBy w' row)(hr:∀k,row=some k->k<lo):w'.heap[g]?=some o:=
 (O.block g (Array.getElem?_eq_some_iff.1 h).1 (λe=>by have:=hr g e.symm;omega)).trans h
theorem L9{lo g:Nat}{iT ev:Value}{at_:Nat}{k:Int}{ps:List (Value×Int)}{i:Nat}{w w':World}{row:Option Nat}
 (h:aL lo lo' g iT u ev b at_ k ts ps es i v w)(O:w.grownBy w' row)(hr:∀k,row=some k->k<lo')(R:i≠10∨row=none):aL lo lo' g iT u ev b at_ k ts ps es i v w':=by
 match i with
 |0|1|3|4|5|6=>exact h
 |2=>obtain⟨g2,h0,J,Y⟩:=h;exact⟨g2,h0,J,Fy Y J O hr⟩
 |7=>exact Bs h O hr
 |8=>obtain⟨r,h0,J⟩:=h;exact⟨r,h0,Bs J O hr⟩
 |9=>obtain⟨r,g9,h0,J,Y,h3⟩:=h;exact⟨r,g9,h0,J,Fy Y J O hr,Bs h3 O hr⟩
 |10=>
  obtain⟨r,h0⟩:=h
  rcases R with R|R
  .exact absurd rfl R
  .subst R;exact⟨r,h0.below ⟨O.os,O.tape,O.output,O.size,λk hk=>O.block k hk (by simp)⟩⟩
 |11=>exact h
 |_+12=>trivial
theorem XX{α:Type}(us D:List α)(u0 u:α):(us++u0::D).set us.length u=(us++[u])++D:=by simp
def Ft(lo:Nat)(w:World)(v:Value)(us D:List Value)(m:List (List Int)):Prop:=AQ lo 29 1 GO w v (us++D)/\Fq (AF lo w) us (m.take us.length)/\DP us
theorem Ft.step{lo g ad:Nat}{w w1:World}{us:List Value}{u0:Value}{m:List (List Int)}(h:Ft lo w (.slice (some ⟨g,0,none⟩) n ad) us (u0::D) m)(K:n=(us++u0::D).length)
 (X:Below w.heap.size w w1)(au:lo<=w.heap.size)(hu:AF w.heap.size w1 u r)(hr:m[us.length]?=some r):
 Ft lo (w1.setCell ⟨g,us.length,none⟩ u) (.slice (some ⟨g,0,none⟩) n ad) (us++[u]) D m/\w1.grownBy (w1.setCell ⟨g,us.length,none⟩ u) (some g):=by
 obtain⟨a1,a2,a3⟩:=h;have b7:=a1.below X;subst K;have S:=AQ.zx ER b7 (k:=us.length) (x:=u0) (by simp) (j:=0) (by decide) (y:=u) (u:=u) rfl;rw[wB,xK,XX] at S;have bA:3≠29:=Ne.symm Lw;refine⟨⟨?_,?_,DP.snoc a3 λy hy=>?_⟩,S.2⟩
 .have:=S.1
  rwa [show(us++u0::D).length=((us++[u])++D).length by simp] at this ⊢
 .rw[yj,xI,DA hr]
  refine Fq.snoc (a2.mono λy ys hy=>?_) ?_
  .have ek:=hy.below X
   exact Aw ek S.2 (A8 ek b7 bA).ne
  .exact Aw (BU hu au) S.2 (A8 hu b7 bA).ne
 .obtain⟨i,R⟩:=xq hy
  obtain⟨ys,fe⟩:∃ys,(m.take us.length)[i]?=some ys:=⟨_,yw (by rw[<-a2.1];exact(yt.1 R).1)⟩
  exact KY (B:=0) (a2.2 i y ys R fe) (λk hk=>(hu.lt k hk).1)
theorem Ft.whole{lo:Nat}{w:World}{us:List Value}{m:List (List Int)}(h:Ft lo w v us [] m)(hl:us.length=m.length):Au lo w v us m:=by obtain⟨a1,a2,a3⟩:=h;rw[rV] at a1;rw[hl,xo] at a2;exact⟨a1,a2,a3⟩
theorem Ft.below{lo:Nat}{w w1:World}{us:List Value}{m:List (List Int)}(h:Ft lo w v us D m)(X:Below w.heap.size w w1):Ft lo w1 v us D m:=⟨h.1.below X,h.2.1.mono λ_ _ h=>AF.below h X,h.2.2⟩
def Ge(lo:Nat)(w:World)(v:Value)(qs ps:List (Value×Int))(es:List Eh):Prop:=AQ lo 74 2 Ep w v (qs++ps)/\Fq (λp e=>AQ lo 9 1 BD w p.1 e.zT/\p.2=e.root) qs (es.take qs.length)/\DP (qs.map (·.1))
theorem Ge.step{lo g ad:Nat}{w w1:World}{qs ps:List (Value×Int)}{p0:Value×Int}{e:Eh}(h:Ge lo w (.slice (some ⟨g,0,none⟩) n ad) qs (p0::ps) es)(K:n=(qs++p0::ps).length)
 (X:Below w.heap.size w w1)(au:lo<=w.heap.size)(hu:AQ w.heap.size 9 1 BD w1 u e.zT)(he:es[qs.length]?=some e)(hp:p0.2=e.root):
 Ge lo (w1.setCell ⟨g,qs.length*2,none⟩ u) (.slice (some ⟨g,0,none⟩) n ad) (qs++[(u,p0.2)]) ps es/\w1.grownBy (w1.setCell ⟨g,qs.length*2,none⟩ u) (some g):=by
 obtain⟨a1,a2,a3⟩:=h;have b7:=a1.below X;subst K;have S:=AQ.zx Fm b7 (k:=qs.length) (x:=p0) (by simp) (j:=0) (by decide) (y:=(u,p0.2)) (u:=u) rfl;rw[xK,XX] at S;have bA:9≠74:=by decide
 refine⟨⟨?_,?_,?_⟩,S.2⟩
 .have:=S.1
  rwa [show(qs++p0::ps).length=((qs++[(u,p0.2)])++ps).length by simp] at this ⊢
 .rw[yj,xI,DA he]
  refine Fq.snoc (a2.mono λy ys hy=>⟨?_,hy.2⟩) ⟨?_,hp⟩
  .have ek:=hy.1.below X
   exact Aw ek S.2 (A8 ek b7 bA).ne
  .exact Aw (BU hu au) S.2 (A8 hu b7 bA).ne
 .rw[xC]
  refine DP.snoc a3 λy hy=>?_
  obtain⟨p,hp,rfl⟩:=vH.1 hy;obtain⟨i,R⟩:=xq hp;obtain⟨e',he'⟩:∃e',(es.take qs.length)[i]?=some e':=⟨_,yw (by rw[<-a2.1];exact(yt.1 R).1)⟩
  exact KY (B:=0) (a2.2 i p e' R he').1 (λk hk=>(hu.lt k hk).1)
theorem Ge.whole{lo:Nat}{w:World}{qs:List (Value×Int)}(h:Ge lo w v qs [] es)(hl:qs.length=es.length):DI lo w v qs es:=by obtain⟨a1,a2,a3⟩:=h;rw[rV] at a1;rw[hl,xo] at a2;exact⟨a1,a2,a3⟩
theorem UB(v:Value)(m:List (List Int))(w:World)(h:Bk w v m)(bw:Bu m=true):
 Calls prog 64 #[v] w λe w'=>∃v' D,e=.returned v'/\Au w.heap.size w' v' D m/\Below w.heap.size w w':=by
 obtain⟨D,J,Y⟩:=h;have db:=(Ai.1 bw).1;have gT:D.length=12:=by rw[Y.1,db]
 have CC:=AA (MR v D w J (by omega) (Sq Y));have CI:=AA (λk (hk:k<12) W (hW:Below w.heap.size w W)=>IZ (D.getD k (.bool false)) (AG m k) W (Ax.below (Y.2 k _ _ (A2 (by omega)) (by unfold AG;exact A2 (by omega))) hW) (by have:=(A4.1 ((Ai.1 bw).2 k hk)).1;omega));have SH:=AA (λk (hk:k<12)=>(by obtain⟨a,c,e,_⟩:=(Y.2 k _ _ (A2 (d:=Value.bool false) (by omega)) (A2 (d:=[]) (by omega))).open;exact⟨a,_,c,e⟩:∃a n c,D.getD k (.bool false)=.slice a n c));have im:=AA gT;have kV:=AA db;obtain⟨ai,ci,rfl,_,_⟩:=J.shape;clear J Y bw db;rw[gT] at CC ⊢;clear gT;go_in;go_wp2_with fail;refine(CC.out).mono ?_;rintro e w1 ⟨v',rfl,hO,dj⟩;obtain⟨g,ad,rfl,c1,c2,q1,q2,df⟩:=hO.zM (by have:=im.out;omega);unfold maxLen at c2;rw[im.out] at hO c1 ⊢;have HO:=AA hO;have HB:=AA dj;clear hO dj df;go_wp2_with fail;go_loopw [10] (λi wr=>∃us:List Value,us.length<=12/\i=.int .i64 us.length/\Ft w.heap.size wr (.slice (some ⟨g,0,none⟩) 12 ad) us (D.drop us.length) m/\Below w.heap.size w wr) (λi _=>12 - (intOf i).toNat)
 exact⟨[],by simp,rfl,⟨HO.out,Fq.nil,DP.nil⟩,HB.out⟩
 obtain⟨us,hk,rfl,hH,al⟩:=hrel
 by_cases az:us.length<12
 .have fi:us.length<D.length:=by rw[im.out];exact az
  have ed:D.drop us.length=D.getD us.length (.bool false)::D.drop (us.length+1):=by
   rw[tE fi]
   congr 1
   simp[fi]
  rw[ed] at hH;have be:(us++D.getD us.length (.bool false)::D.drop (us.length+1)).length=12:=by have:=im.out;simp only[yj,vT,wT];omega
  have eY:=hH.1;rw[<-be] at eY;have vs:=AQ.zz ER eY (k:=us.length) (x:=D.getD us.length (.bool false)) (by simp) 0 _ rfl;rw[wB,xK] at vs;have C:=CI.out _ az wr al;have hr:m[us.length]?=some (AG m us.length):=by unfold AG;exact A2 (by rw[kV.out];exact az)
  have HH:=AA hH;have HR:=AA hr;have CH:=AA C;have gj:=AA be;have df:=xJ eY us.length;have mU:(12:Int)<=ad:=by omega
  clear hH eY hr C ed be;generalize hu0:D.getD us.length (.bool false)=u0 at*;obtain⟨a0,n0,c0,rfl⟩:∃a n c,u0=.slice a n c:=by have:=SH.out _ az;rwa [hu0] at this
  go_wp2_with fail;refine(CH.out).mono ?_;rintro e w2 ⟨u,rfl,hu,ao⟩;have D2:=(ao.cell (p:=⟨g,us.length,none⟩) (yA wr _ vs)).trans vs;have lM:=(ao.frozen (p:=⟨g,us.length,none⟩) (yA wr _ vs)).trans df;have ST:=AA (Ft.step HH.out gj.out.symm ao al.size hu HR.out);have mx:=AA (AM (al.trans (ao.mono al.size)) ST.out.2 q1 (yB al.size ao.size));obtain⟨a9,c9,rfl,_⟩:=hu.rd.open;clear vs df hu ao al;go_wp2_with fail;go_roundw
  case rel=>refine⟨us++[.slice a9 (AG m us.length).length c9],by rw[yj,xI];omega,by rw[yj,xI];go_num,?_,mx.out⟩;rw[yj,xI];exact ST.out.1
  case measure=>simp[intOf];omega
 .have e12:us.length=12:=by omega
  rw[tq (by rw[e12,im.out];exact yv _)] at hH;have hi:=AA (hH.whole (by rw[e12,kV.out]));clear hH;go_wp2_with fail;go_ret;exact⟨_,us,rfl,hi.out,al⟩
def Jh(lo:Nat)(w:World)(v:Value)(k:AO)(ps:List (Value×Int)):Prop:=∃m i e c,v=.agg #[m,i,e,c]/\(∃D,Au lo w m D k.mem)/\AQ lo 92 3 A3 w i k.zZ/\AQ lo 74 2 Ep w e ps/\AQ lo 112 4 AU w c k.zW
theorem Jh.below{lo:Nat}{w w':World}{k:AO}{ps:List (Value×Int)}(h:Jh lo w v k ps)(X:Below w.heap.size w w'):Jh lo w' v k ps:=by obtain⟨m,i,e,c,h0,⟨D,J⟩,Y,h3,h4⟩:=h;exact⟨m,i,e,c,h0,⟨D,J.below X⟩,Y.below X,h3.below X,h4.below X⟩
def Kj(lo:Nat)(w:World)(v:Value):Prop:=∃g,v=.pointer (some ⟨g,0,none⟩)/\lo<=g/\w.heap[g]?=some (.cells #[.slice none 0 0,.slice none 0 0,.slice none 0 0,.slice none 0 0] 28 (0,0))
theorem Kj.below{lo:Nat}{w w':World}(h:Kj lo w v)(X:Below w.heap.size w w'):Kj lo w' v:=by obtain⟨g,h0,J,Y⟩:=h;exact⟨g,h0,J,AB Y X⟩
def My(w0:World)(g:Nat)(m i e c:Value)(k:AO)(qs ps:List (Value×Int))(wr:World):Prop:=
 wr.heap[g]?=some (.cells #[m,i,e,c] 28 (0,0))/\(∃D,Au w0.heap.size wr m D k.mem)/\AQ w0.heap.size 92 3 A3 wr i k.zZ/\Ge w0.heap.size wr e qs ps k.zX/\AQ w0.heap.size 112 4 AU wr c k.zW/\Below w0.heap.size w0 wr
theorem Ge.below{lo:Nat}{w w1:World}{qs ps:List (Value×Int)}(h:Ge lo w v qs ps es)(X:Below w.heap.size w w1):Ge lo w1 v qs ps es:=⟨h.1.below X,h.2.1.mono λ_ _ h=>⟨h.1.below X,h.2⟩,h.2.2⟩
theorem My.below{w0:World}{g:Nat}{m i e c:Value}{k:AO}{qs ps:List (Value×Int)}{wr w':World}(h:My w0 g m i e c k qs ps wr)(X:Below wr.heap.size wr w'):My w0 g m i e c k qs ps w':=by obtain⟨h0,⟨D,J⟩,Y,h3,h4,h5⟩:=h;exact⟨AB h0 X,⟨D,J.below X⟩,Y.below X,h3.below X,h4.below X,h5.trans (X.mono h5.size)⟩
theorem My.step{w0:World}{g ad:Nat}{m i c:Value}{k:AO}{qs ps:List (Value×Int)}{p0:Value×Int}{w w1:World}{e:Eh}(h:My w0 g m i (.slice (some ⟨ge,0,none⟩) n ad) c k qs (p0::ps) w)(K:n=(qs++p0::ps).length)
 (X:Below w.heap.size w w1)(hu:AQ w.heap.size 9 1 BD w1 u e.zT)(he:k.zX[qs.length]?=some e)(hp:p0.2=e.root):
 My w0 g m i (.slice (some ⟨ge,0,none⟩) n ad) c k (qs++[(u,p0.2)]) ps (w1.setCell ⟨ge,qs.length*2,none⟩ u):=by
 obtain⟨hB,⟨D,J⟩,Y,h3,h4,h5⟩:=h;have S:=Ge.step h3 K X h5.size hu he hp;have jU:=AB hB X;have eZ:=h3.1.below X;obtain⟨du,b6⟩:=A6 eZ ge rfl;have au:=(yk eZ ge rfl).1;refine⟨(S.2.block g (AW jU) λe=>?_).trans jU,⟨D,(J.below X).yL S.2 b6⟩,(Y.below X).yL S.2 b6,S.1,(h4.below X).yL S.2 b6,(h5.trans (X.mono h5.size)).setCell au _⟩;cases e;rw[jU] at b6;simp at b6
def PQ(w:World)(k:AO)(e:Ending)(w':World):Prop:=∃m i ev c,e=.returned (.agg #[m,i,ev,c])/\Da w.heap.size w' m i ev c k/\Below w.heap.size w w'
theorem QC{k:AO}(hk:DQ k){j:Nat}(hj:j<3):(AJ k.zX j).zT.length<=6:=by have h5:=hk.zT j hj;unfold BW at h5;simp only[yu,decide_eq_true_eq] at h5;exact h5.2
theorem UC(m i e c:Value)(k:AO)(w:World)(h:Mu w m i e c k)(hk:DQ k):
 Calls prog 63 #[.agg #[m,i,e,c]] w (PQ w k):=by
 obtain⟨J,Y,⟨ps,h3,eZ⟩,h4⟩:=h;have dt:ps.length=3:=by rw[eZ.1,hk.zN]
 have f6:k.zW.length<=4:=by have:=hk.zW;simp only[BT,yu,decide_eq_true_eq] at this;exact this.2
 have iL:=hk.zN;have N0:=yi w (.cells #[m,i,e,c] 28);have N1:=yi (w.alloc (.cells #[m,i,e,c] 28)) (.cells #[.slice none 0 0,.slice none 0 0,.slice none 0 0,.slice none 0 0] 28);replace N0:=AB N0 (AI _ (.cells #[.slice none 0 0,.slice none 0 0,.slice none 0 0,.slice none 0 0] 28));have bs:=IA w (.cells #[m,i,e,c] 28) (.cells #[.slice none 0 0,.slice none 0 0,.slice none 0 0,.slice none 0 0] 28);have gV:w.heap.size+2=((w.alloc (.cells #[m,i,e,c] 28)).alloc (.cells #[.slice none 0 0,.slice none 0 0,.slice none 0 0,.slice none 0 0] 28)).heap.size:=by simp
 simp only[xx] at N1;obtain⟨am,cm,rfl,_⟩:=J.open;obtain⟨ai,ci,rfl,_⟩:=Y.shape;obtain⟨ae,ce,rfl,_⟩:=h3.shape;obtain⟨ac,cc,rfl,_⟩:=h4.shape;have gI:=AA dt;have mj:=AA f6;have j6:=AA iL;clear dt f6 iL;go_in;go_wp2_with fail;have dt:=gI.out;have f6:=mj.out;have iL:=j6.out;generalize hW0:(w.alloc _).alloc _=W0 at*;have C1:=AA (λW (hW:Below W0.heap.size W0 W)=>UB _ k.mem W ((J.below bs).below hW) hk.mem);have C2:=AA (λW (hW:Below W0.heap.size W0 W)=>KG _ k.zZ W ((Y.below bs).below hW) (by rw[hk.len];omega));have C3:=AA (λW (hW:Below W0.heap.size W0 W)=>TP _ ps W ((h3.below bs).below hW) (by omega) (YN eZ));have C4:=AA (λW (hW:Below W0.heap.size W0 W)=>JF _ k.zW W ((h4.below bs).below hW) (by omega));have C5:=AA (λj (hj:j<3) W (hW:Below w.heap.size w W)=>PG (ps.getD j (.bool false,0)).1 (AJ k.zX j).zT W (BK.below (eZ.2 j _ _ (A2 (by omega)) (by unfold AJ;exact A2 (by omega))).1 hW) (by have h6:=QC hk hj;omega));have C6:=AA (λj (hj:j<3)=>(eZ.2 j (ps.getD j (.bool false,0)) (AJ k.zX j) (A2 (by omega)) (by unfold AJ;exact A2 (by omega))).2);have C7:=AA (λj (hj:j<3)=>(by obtain⟨a,n,e,_⟩:=(eZ.2 j (ps.getD j (.bool false,0)) (AJ k.zX j) (A2 (by omega)) (by unfold AJ;exact A2 (by omega))).1.shape;exact⟨a,_,n,e⟩:∃a n c,(ps.getD j (.bool false,0)).1=.slice a n c));have Hk:=AA hk;have eT:w.heap.size<W0.heap.size:=by omega
 obtain⟨x0,x1,x2,x3⟩:=AE N0;clear J Y h3 eZ h4 hk hW0 dt f6 iL;refine BR 14 37 [.p w.heap.size 0,.v (.slice am k.mem.length cm),.z,.p w.heap.size 1,.v (.slice ai k.zZ.length ci),.z,.p w.heap.size 2,.v (.slice ae ps.length ce),.z,.p w.heap.size 3,.v (.slice ac k.zW.length cc),.z,.z,.z] (λix vv ww=>match ix with
  |2=>∃dZ,Au W0.heap.size ww vv dZ k.mem
  |5=>AQ W0.heap.size 92 3 A3 ww vv k.zZ
  |8=>AQ W0.heap.size 74 2 Ep ww vv ps
  |11=>AQ W0.heap.size 112 4 AU ww vv k.zW
  |12=>Jh W0.heap.size ww vv k ps
  |13=>Kj W0.heap.size ww vv
  |_=>True) ?_ ?_ ?_
 .intro i R o L a wx E z A hn Z
  match i,R with
  |0,_|3,_|6,_|9,_=>exact sP L Z E z
  |1,_=>exact sL L Z E z (hl:=F9 (bc A eT x0))
  |2,_=>exact sC L Z E z (C1.out _ A) (by rintro e w_ ⟨v',dZ,rfl,hO,ao⟩;exact⟨_,rfl,⟨dZ,hO.lower A.size⟩,ao⟩)
  |4,_=>exact sL L Z E z (hl:=GY (bc A eT x1))
  |5,_=>exact sC L Z E z (C2.out _ A) (by rintro e w_ ⟨v',rfl,hO,ao⟩;exact⟨_,rfl,(hO.lower A.size),ao⟩)
  |7,_=>exact sL L Z E z (hl:=OL (bc A eT x2))
  |8,_=>exact sC L Z E z (C3.out _ A) (by rintro e w_ ⟨v',rfl,hO,ao⟩;exact⟨_,rfl,(hO.lower A.size),ao⟩)
  |10,_=>exact sL L Z E z (hl:=VH (bc A eT x3))
  |11,_=>exact sC L Z E z (C4.out _ A) (by rintro e w_ ⟨v',rfl,hO,ao⟩;exact⟨_,rfl,(hO.lower A.size),ao⟩)
  |12,_=>
   obtain rfl:=yF L;have d2:∃dZ,Au W0.heap.size wx (a.tmps[8]?.getD undef) dZ k.mem:=Ba z 2
   have d5:AQ W0.heap.size 92 3 A3 wx (a.tmps[11]?.getD undef) k.zZ:=Ba z 5;have d8:AQ W0.heap.size 74 2 Ep wx (a.tmps[14]?.getD undef) ps:=Ba z 8;have fl:AQ W0.heap.size 112 4 AU wx (a.tmps[17]?.getD undef) k.zW:=Ba z 11;clear z E;generalize e8:a.tmps[8]?.getD undef=m' at d2;generalize e11:a.tmps[11]?.getD undef=i' at d5;generalize e14:a.tmps[14]?.getD undef=e' at d8;generalize e17:a.tmps[17]?.getD undef=c' at fl;have W:Hid (Jh W0.heap.size wx (.agg #[m',i',e',c']) k ps):=AA ⟨m',i',e',c',rfl,d2,d5,d8,fl⟩;obtain⟨_,d2⟩:=d2;obtain⟨_,_,rfl,_,_⟩:=d2.1.rd.shape;obtain⟨_,_,rfl,_,_⟩:=d5.rd.shape;obtain⟨_,_,rfl,_,_⟩:=d8.rd.shape;obtain⟨_,_,rfl,_,_⟩:=fl.rd.shape;clear d2 d5 d8 fl;refine yE ?_;go_simp;exact Z.out _ _ W.out (yD _ _)
  |13,_=>obtain rfl:=yF L;clear z E;refine yE ?_;go_simp;exact Z.out _ _ ⟨_,rfl,A.size,yi _ _⟩ (AI _ _)
 .intro i R vv wz cq bb hz
  match i,R with
  |2,_=>exact(by obtain⟨dZ,h'⟩:=hz;exact⟨dZ,h'.below bb⟩)
  |5,_|8,_|11,_=>exact(AQ.below hz bb)
  |12,_=>exact(Jh.below hz bb)
  |13,_=>exact(Kj.below hz bb)
  |0,_|1,_|3,_|4,_|6,_|7,_|9,_|10,_=>exact hz
 .intro D wx hR A
  have b8:Jh W0.heap.size wx (D 12) k ps:=BS hR 12;have bY:Kj W0.heap.size wx (D 13):=BS hR 13;obtain⟨g,bY,O,hB⟩:=bY;clear hR;simp only[Ak,Ah,yC,yy,yz,yx,bY];simp;generalize D 12=z12 at b8 ⊢;clear bY;obtain⟨m',i',e0,c',rfl,⟨dZ,o1⟩,o2,o3,o4⟩:=b8;obtain⟨ge,c5,rfl,d1,d2,mR,mQ,jF⟩:=o3.zM (by rw[gI.out];omega);rw[gI.out] at o3 d1 ⊢;unfold maxLen at d2;have bA:g≠w.heap.size+1:=by omega
  have ay:=An (An (An (Aq wx g 0 m') 1 i') 2 (.slice (some ⟨ge,0,none⟩) 3 c5)) 3 c';have St:My W0 g m' i' (.slice (some ⟨ge,0,none⟩) 3 c5) c' k [] ps ((((wx.setCell ⟨g,0,none⟩ m').setCell ⟨g,1,none⟩ i').setCell ⟨g,2,none⟩ (.slice (some ⟨ge,0,none⟩) 3 c5)).setCell ⟨g,3,none⟩ c'):=
   ⟨Cx hB,⟨dZ,o1.yL ay hB⟩,o2.yL ay hB,⟨o3.yL ay hB,Fq.nil,DP.nil⟩,o4.yL ay hB,(((A.setCell O _).setCell O _).setCell O _).setCell O _⟩
  obtain⟨pa,pc,rfl,_,_⟩:=o1.1.rd.shape;obtain⟨qa,qc,rfl,_,_⟩:=o2.rd.shape;obtain⟨ra,rc,rfl,_,_⟩:=o4.rd.shape;obtain⟨b0,b1,b2,b3⟩:=AE hB;have df:=AK hB;have mW:=AA N0;have ms:=AA N1;clear o1 o2 o3 o4 A hB ay x0 x1 x2 x3 jF N0 N1;go_wp2_with fail;clear b0 b1 b2 b3 df;go_loopw [22] (λi wr=>∃qs:List (Value×Int),qs.length<=3/\i=.int .i64 qs.length/\My W0 g _ _ (.slice (some ⟨ge,0,none⟩) 3 c5) _ k qs (ps.drop qs.length) wr) (λi _=>3 - (intOf i).toNat)
  exact⟨[],by simp,rfl,St⟩
  clear St;obtain⟨qs,hq,rfl,St⟩:=hrel
  by_cases az:qs.length<3
  .have fi:qs.length<ps.length:=by rw[gI.out];exact az
   have ed:ps.drop qs.length=ps.getD qs.length (.bool false,0)::ps.drop (qs.length+1):=by
    rw[tE fi]
    congr 1
    simp[fi]
   rw[ed] at St;have be:(qs++ps.getD qs.length (.bool false,0)::ps.drop (qs.length+1)).length=3:=by have:=gI.out;simp only[yj,vT,wT];omega
   have eY:=St.2.2.2.1.1;rw[<-be] at eY;have vs:=AQ.zz Fm eY (k:=qs.length) (x:=ps.getD qs.length (.bool false,0)) (by simp);have D0:=vs 0 _ rfl;have D1:=vs 1 _ rfl;rw[xK] at D0;have fz:=xJ eY;have bD:=bs.trans (St.2.2.2.2.2.mono bs.size);have C:=C5.out _ az;have hp:=C6.out _ az;obtain⟨a0,n0,c0,gV⟩:=C7.out _ az;have he:k.zX[qs.length]?=some (AJ k.zX qs.length):=by unfold AJ;exact A2 (by rw[j6.out];exact az)
   have y2:=(AE St.1).2.2.1;have eU:=AW St.1;have dM:=yA wr _ D0;have mp:=AA St;have gj:=AA be;have He:=AA he;have Hp:=AA hp;clear St be he hp eY vs ed;generalize ps.getD qs.length (.bool false,0)=p0 at*;obtain⟨u0,r0⟩:=p0;cases gV
   change wr.cell? _=some (xi a0 n0 c0) at D0
   change wr.cell? _=some (xY .i64 r0) at D1
   obtain⟨call,eM⟩:=Dd wr (.cells #[.slice a0 n0 c0,.int .i64 r0] 74);have c3:(3:Int)<=c5:=by omega
   go_wp2_with fail;generalize wr.alloc _=wa at*;have y5:=ym _ _ 0 _ _ _ call;have ep:=AW call;have HC:=AA (λW (hW:Below wa.heap.size wa W)=>C W ((bD.trans (eM.mono bD.size)).trans (hW.mono (bD.trans (eM.mono bD.size)).size)));replace y2:=(eM.cell (p:=⟨g,2,none⟩) eU).trans y2;replace D0:=(eM.cell (p:=⟨ge,qs.length*2,none⟩) dM).trans D0;have kN:=(eM.frozen (p:=⟨ge,qs.length*2,none⟩) dM).trans (fz _);replace eU:=xW eU eM.size;replace dM:=xW dM eM.size;clear C call D1 fz;refine BR 8 37 [.p g 2,.v (.slice (some ⟨ge,0,none⟩) 3 c5),.i ((qs.length:Int)),.p wr.heap.size 0,.v (.slice a0 n0 c0),.z,.p ge (qs.length*2),.p ge (qs.length*2)] (λix vv ww=>match ix with
    |5=>AQ wa.heap.size 9 1 BD ww vv (AJ k.zX qs.length).zT
    |_=>True) ?_ ?_ ?_
   .intro i R o L a wx E z A hn Z
    match i,R with
    |0,_|2,_|3,_|7,_=>exact sP L Z E z
    |1,_=>exact sL L Z E z (hl:=OL (bc A eU y2))
    |4,_=>exact sL L Z E z (hl:=Li (bc A ep y5))
    |5,_=>exact sC L Z E z (HC.out _ A) (by rintro e w_ ⟨v',rfl,hO,ao⟩;exact⟨_,rfl,(hO.lower A.size),ao⟩)
    |6,_=>exact sI L Z E z (hr:=by clear z E Z;go_simp)
   .intro i R vv wz cq bb hz
    match i,R with
    |5,_=>exact(AQ.below hz bb)
    |0,_|1,_|2,_|3,_|4,_|6,_|7,_=>exact hz
   .intro D wx hR A
    have q5:AQ wa.heap.size 9 1 BD wx (D 5) (AJ k.zX qs.length).zT:=BS hR 5;have q7:(D 7)=.pointer (some ⟨ge,qs.length*2,none⟩):=BS hR 7;clear hR;simp only[Ak,Ah,yC,yy,yz,yx,q7];simp;generalize D 5=z5 at q5 ⊢;clear q7;have ST:=AA (My.step (p0:=(_,r0)) mp.out gj.out.symm (eM.trans (A.mono eM.size)) (q5.lower eM.size) He.out Hp.out);replace D0:=(A.cell (p:=⟨ge,qs.length*2,none⟩) dM).trans D0;replace kN:=(A.frozen (p:=⟨ge,qs.length*2,none⟩) dM).trans kN;obtain⟨_,_,rfl,_,_⟩:=q5.rd.shape;clear q5 A y2 y5;go_wp2_with fail;go_roundw;exact⟨qs++[(_,r0)],by rw[yj,xI];omega,by rw[yj,xI];go_num,by rw[yj,xI];exact ST.out⟩;simp[intOf];omega
  .have e3:qs.length=3:=by omega
   rw[tq (by rw[e3,gI.out];exact yv _)] at St;obtain⟨hB,⟨lb,o1⟩,o2,o3,o4,al⟩:=St;have o5:=o3.whole (by rw[e3,j6.out]);have dd:=(al.block _ (by omega)).trans ms.out;have S:=AA (show ∀w',wr.grownBy w' (some (w.heap.size+1))->PQ w k (.returned (.agg #[_,_,(.slice (some ⟨ge,0,none⟩) 3 c5),_])) w' from λw' ew=>⟨_,_,_,_,rfl,⟨⟨lb,(o1.yL ew dd).lower bs.size⟩,(o2.yL ew dd).lower bs.size,⟨qs,(o5.yL ew dd).lower bs.size⟩,(o4.yL ew dd).lower bs.size⟩,(bs.trans (al.mono bs.size)).grown ew (bs.trans (al.mono bs.size)).size (λk hk=>by cases hk;omega)⟩)
   obtain⟨E0,E1,E2,E3⟩:=AE (Cx (m':=.slice pa dZ.length pc) (i':=.slice qa k.zZ.length qc) (e':=.slice (some ⟨ge,0,none⟩) 3 c5) (c':=.slice ra k.zW.length rc) dd);have HE:=AA (xU E0 (xU E1 (xU E2 E3)));have ay:wr.grownBy ((((wr.setCell ⟨w.heap.size+1,0,none⟩ (.slice pa dZ.length pc)).setCell ⟨w.heap.size+1,1,none⟩ (.slice qa k.zZ.length qc)).setCell ⟨w.heap.size+1,2,none⟩ (.slice (some ⟨ge,0,none⟩) 3 c5)).setCell ⟨w.heap.size+1,3,none⟩ (.slice ra k.zW.length rc)) (some (w.heap.size+1)):=An (An (An (Aq wr (w.heap.size+1) 0 _) 1 _) 2 _) 3 _;obtain⟨b0,b1,b2,b3⟩:=AE hB;obtain⟨c0,c1,c2,c3⟩:=AE dd;have df:=AK dd;have js:¬(qs.length:Int)<3:=by omega
   clear hB dd o1 o2 o3 o4 o5 E0 E1 E2 E3 e3;go_wp2_with fail;exact yr (v:=.agg #[_,_,_,_]) (by simp[results,Tryz.results63,go_sem,HE.out]) rfl (S.out _ ay)
theorem Tryz.infoInfo:(prog.info? 92).map (λi=>(i.zero,i.size,i.bytes))=some (some (.agg #[.int .i64 0,.string ⟨#[]⟩,.int .i64 0]),3,32):=by kernel_rfl
theorem YE:(madeCells (Value.agg #[.int .i64 0,.string ⟨#[]⟩,.int .i64 0]).cells (12*3)).toList=Cc A3 (xR 12 AV.zero):=by kernel_rfl
def aP(lo:Nat)(i:Nat)(v:Value)(w:World):Prop:=match i with
 |0=>∃D,Au lo w v D (Nq 12)
 |1=>AQ lo 92 3 A3 w v (xR 12 AV.zero)
 |2=>AQ lo 74 2 Ep w v []
 |3=>AQ lo 112 4 AU w v []
 |4=>∃m i e c,v=.agg #[m,i,e,c]/\(∃D,Au lo w m D (Nq 12))/\AQ lo 92 3 A3 w i (xR 12 AV.zero)/\AQ lo 74 2 Ep w e []/\AQ lo 112 4 AU w c []
 |5=>∃g,v=.pointer (some ⟨g,0,none⟩)/\lo<=g/\w.heap[g]?=some (.cells #[.slice none 0 0,.slice none 0 0,.slice none 0 0,.slice none 0 0] 28 (0,0))
 |_=>True
theorem Js{lo i:Nat}{w w':World}(h:aP lo i v w)(X:Below w.heap.size w w'):aP lo i v w':=by
 match i with
 |0=>obtain⟨D,h⟩:=h;exact⟨D,h.below X⟩
 |1|2|3=>exact AQ.below h X
 |4=>obtain⟨m,i,e,c,h0,⟨D,J⟩,Y,h3,h4⟩:=h;exact⟨m,i,e,c,h0,⟨D,J.below X⟩,Y.below X,h3.below X,h4.below X⟩
 |5=>
  obtain⟨g,h0,J,Y⟩:=h;have:g<w.heap.size:=by
   rcases Nat.lt_or_ge g w.heap.size with h|h
   .exact h
   .rw[Array.getElem?_eq_none h] at Y;cases Y
  exact⟨g,h0,J,(X.block g this).trans Y⟩
 |_+6=>trivial
def Ie(cy:List (List ByteArray)):List Eh:=cy.map λts=>⟨ts,-1⟩
def NQ(cy:List (List ByteArray)):AO:=⟨Nq 12,xR 12 AV.zero,Ie cy,[]⟩
def cR(w:World)(b:Bool)(k:AO)(e:Ending)(w':World):Prop:=∃m i ev c,e=.returned (.tuple #[.agg #[m,i,ev,c],.bool b])/\Da w.heap.size w' m i ev c k/\Below w.heap.size w w'
def Yp(w0:World)(lo g:Nat)(es:List Eh)(wr:World):Prop:=
 ∃m i ev c D ps,wr.heap[g]?=some (.cells #[m,i,ev,c] 28 (0,0))/\lo<=g/\Au lo wr m D (Nq 12)/\AQ lo 92 3 A3 wr i (xR 12 AV.zero)/\DI lo wr ev ps es/\AQ lo 112 4 AU wr c []/\Below lo w0 wr
theorem LQ(v:Value)(cy:List (List ByteArray))(w:World)(h:L6 w v cy)(h3:cy.length=3)(bw:∀ts∈cy,BW ts=true)(iD:∀ts∈cy,Db ts):
 Calls prog 188 #[v] w (cR w true (NQ cy)):=by
 obtain⟨D,J,Y⟩:=h;obtain⟨a,cv,rfl,hc,eL,H0⟩:=BK.open ER (by decide) J;unfold maxLen at eL;have mE:D.length<=3:=by rw[Y.1,h3];omega
 have lp:3<=D.length:=by rw[Y.1,h3];omega
 have HB:=AA Y;have H3:=AA h3;have gh:=AA bw;have mh:=AA iD;clear Y h3 bw iD;go_in;go_wp2_with fail;have bs:=AI w (.cells #[.slice none 0 0,.slice none 0 0,.slice none 0 0,.slice none 0 0] 28);have jV:(w.alloc (.cells #[.slice none 0 0,.slice none 0 0,.slice none 0 0,.slice none 0 0] 28)).heap[w.heap.size]?=some (.cells #[.slice none 0 0,.slice none 0 0,.slice none 0 0,.slice none 0 0] 28 (0,0)):=yi w _;have gV:w.heap.size+1=(w.alloc (.cells #[.slice none 0 0,.slice none 0 0,.slice none 0 0,.slice none 0 0] 28)).heap.size:=by simp
 generalize w.alloc (.cells #[.slice none 0 0,.slice none 0 0,.slice none 0 0,.slice none 0 0] 28)=W0 at bs jV gV;refine F6 6 mixed (by kernel_rfl) 41 rfl (by kernel_rfl) (aP W0.heap.size) (λ_ w'=>Below W0.heap.size W0 w') ?_ ?_ ?_
 .exact Av (yD _ _) 1
 .intro i R o L a w1 E z ho HL A hn Z
  have eH:=A.size;clear E HL
  match i,R with
  |0,_=>obtain rfl:=yF L;clear z;refine yE ?_;go_simp;refine(YA _).mono ?_;rintro e w2 ⟨v,D,rfl,h3,h4⟩;exact Z.out _ _ ⟨D,h3.lower eH⟩ (A.trans (h4.mono eH)) (λj u _ _ _ h=>Js h h4)
  |1,_=>obtain rfl:=yF L;clear z;refine yE ?_;obtain⟨i0,g8,gQ,gP,gO⟩:=info_parts Tryz.infoInfo;obtain⟨w2,dx,h3,h4⟩:=run_make_full (P:=prog) w1 w1.heap.size 24 92 i0 _ 3 underlying24 g8 gQ gP .i64 .i64 12 (by rw[gO];decide) (by decide) (yv _);have h5:=Below.zu h4;rw[YE] at h3;have kp:(Instr.makeSlice 24 (.int .i64 12) (.int .i64 12)).run prog w1=.ok (.slice (some ⟨w1.heap.size,0,none⟩) 12 12) w2:=dx;clear g8 gQ gP gO dx;go_simp;exact Z.out _ _ (BU h3 eH) (A.trans (h5.mono eH)) (λj u _ _ _ h=>Js h h5)
  |2,_|3,_=>obtain rfl:=yF L;clear z;refine yE ?_;go_simp;exact Z.out _ _ ((CU _ _ _ _).lower eH) (A.alloc eH _) (λj u _ _ _ h=>Js h (AI _ _))
  |4,_=>
   obtain rfl:=yF L;have d0:=Ba z 0;have d1:=Ba z 1;have d2:=Ba z 2;have d3:=Ba z 3;clear z
   change ∃D,Au _ _ (a.tmps[6]?.getD undef) _ _ at d0
   change AQ _ _ _ _ _ (a.tmps[7]?.getD undef) _ at d1
   change AQ _ _ _ _ _ (a.tmps[8]?.getD undef) _ at d2
   change AQ _ _ _ _ _ (a.tmps[9]?.getD undef) _ at d3
   refine yE ?_;generalize e6:a.tmps[6]?.getD undef=m at d0;generalize e7:a.tmps[7]?.getD undef=i at d1;generalize e8:a.tmps[8]?.getD undef=e at d2;generalize e9:a.tmps[9]?.getD undef=c at d3;obtain⟨lc,d0⟩:=d0;have W:=AA (show aP W0.heap.size 4 (.agg #[m,i,e,c]) w1 from⟨m,i,e,c,rfl,⟨lc,d0⟩,d1,d2,d3⟩);obtain⟨_,_,rfl,_,_⟩:=d0.1.rd.shape;obtain⟨_,_,rfl,_,_⟩:=d1.rd.shape;obtain⟨_,_,rfl,_,_⟩:=d2.rd.shape;obtain⟨_,_,rfl,_,_⟩:=d3.rd.shape;clear d0 d1 d2 d3;go_simp;exact Z.out _ _ W.out A (λj u _ _ _ h=>h)
  |5,_=>obtain rfl:=yF L;clear z;refine yE ?_;go_simp;exact Z.out _ _ ⟨_,rfl,eH,yi _ _⟩ (A.alloc eH _) (λj u _ _ _ h=>Js h (AI _ _))
 .intro xs w1 hR ho hL A
  obtain⟨m,i,e,c,h0,⟨rs,J⟩,Y,h3,h4⟩:=BS hR 4;obtain⟨g,h5,h6,h7⟩:=BS hR 5;clear hR hL;simp only[Ak,Ah,yC,yy,yz,yx,h0,h5];simp;generalize xs 0=y0;generalize xs 1=y1;generalize xs 2=y2;generalize xs 3=y3;have St:Yp W0 W0.heap.size g (Ie (cy.take 0)) ((((w1.setCell ⟨g,0,none⟩ m).setCell ⟨g,1,none⟩ i).setCell ⟨g,2,none⟩ e).setCell ⟨g,3,none⟩ c):=by have ay:=An (An (An (Aq w1 g 0 m) 1 i) 2 e) 3 c;exact⟨m,i,e,c,rs,[],Cx h7,h6,J.yL ay h7,Y.yL ay h7,⟨h3.yL ay h7,Fq.nil,DP.nil⟩,h4.yL ay h7,(((A.setCell h6 _).setCell h6 _).setCell h6 _).setCell h6 _⟩
  obtain⟨_,_,rfl,_,_⟩:=J.1.rd.shape;obtain⟨_,_,rfl,_,_⟩:=Y.rd.shape;obtain⟨_,_,rfl,_,_⟩:=h3.rd.shape;obtain⟨_,_,rfl,_,_⟩:=h4.rd.shape;obtain⟨c0,c1,c2,c3⟩:=AE h7;have df:=AK h7;clear h0 J Y h3 h4 h5 A h6 h7;go_wp2_with fail;clear c0 c1 c2 c3 df;simp only[vB,wU];go_loopw [5] (λi wr=>∃k:Nat,k<=3/\i=.int .i64 k/\Yp W0 W0.heap.size g (Ie (cy.take k)) wr) (λi _=>3 - (intOf i).toNat)
  exact⟨0,by omega,rfl,St⟩
  clear St;obtain⟨k,hk,rfl,m,iv,ev,c,rs,ps,hB,O,o1,o2,o3,o4,al⟩:=hrel
  by_cases az:k<3
  .have fi:k<D.length:=by omega
   obtain⟨u,hu⟩:∃u,D[k]?=some u:=⟨_,yw fi⟩
   obtain⟨ts,hts⟩:∃ts,cy[k]?=some ts:=⟨_,yw (by rw[H3.out];exact az)⟩
   have Ru:=HB.out.2 k u ts hu hts;have bw:=gh.out ts (yh hts);have iD:=mh.out ts (yh hts);obtain⟨b,b5,rfl,jN,dc⟩:=H0 k u hu;have Dw:w.cell? ⟨b,b5+k,none⟩=some u:=by simpa using dc 0 u rfl
   have bD:=bs.trans (al.mono bs.size);have vs:wr.cell? ⟨b,b5+k,none⟩=some u:=(bD.cell (yA w _ Dw)).trans Dw;have kU:=AA hts;have Hu:=AA hu;clear hu hts Dw dc;go_wp2_with fail;refine(GV u ts _ (BK.below Ru bD) iD).mono ?_;rintro e w2 ⟨rfl,kl⟩;rw[bw];have bp:Below wr.heap.size wr w2:=by obtain⟨n,rfl⟩:=kl;exact Av (yD _ _) n
   clear kl bw;have bD:=bD.trans (bp.mono bD.size);have vs:w2.cell? ⟨b,b5+k,none⟩=some u:=(bp.cell (yA wr _ vs)).trans vs;have eN:=yA w2 _ vs;have jT:=AB hB bp;have dw:=o3.below bp;have o1:=o1.below bp;have o2:=o2.below bp;have o4:=o4.below bp;have al:=al.trans (bp.mono al.size);clear bp o3 hB;have mG:ts.length<=6:=by have:=gh.out ts (yh kU.out);simp only[BW,yu,decide_eq_true_eq] at this;exact this.2
   have mK:(k:Int)<D.length:=by omega
   go_wp2_with fail;have hQ:ev.ownBlock≠some g:=λhe=>by obtain⟨du,hc⟩:=A6 dw.1 g he;rw[jT] at hc;simp at hc
   have fj:=λk hk=>(dw.1.lt k hk).2
   have ex:=λk hk=>(dw.1.lt k hk).1
   have gb:∀w3,w2.grownBy w3 ev.ownBlock->w3.heap[g]?=some (.cells #[m,iv,ev,c] 28 (0,0)):=λw3 h=>(h.block g (AW jT) (λe=>hQ e.symm)).trans jT
   have ga:∀w3,w2.grownBy w3 ev.ownBlock->∀k,k<w.heap.size->w3.heap[k]?=w2.heap[k]? :=λw3 h k hk=>h.block k (xW hk bD.size) (λe=>by have:=ex k e.symm;omega)
   have GS:=AA (λ(ho:Nat->Bool)(w3:World)(i:Nat)(h:w2.grownBy w3 ev.ownBlock/\(ho 10=false->Below w2.heap.size w2 w3))=>(⟨h.1,λjY=>h.2 (Dc jY)⟩:w2.grownBy w3 ev.ownBlock/\(GU ho i 10=false->Below w2.heap.size w2 w3)));have GB:=AA (λ(ho:Nat->Bool)(w3 w4:World)(i:Nat)(h:w2.grownBy w3 ev.ownBlock/\(ho 10=false->Below w2.heap.size w2 w3))(X:Below w3.heap.size w3 w4)=>(⟨AP h.1 (AY X _),λjY=>(h.2 (Dc jY)).trans (X.mono h.1.size)⟩:w2.grownBy w4 ev.ownBlock/\(GU ho i 10=false->Below w2.heap.size w2 w4)));refine F6 12 mixed (by kernel_rfl) 41 rfl (by kernel_rfl) (aL W0.heap.size w2.heap.size g (.slice (some ⟨b,b5,none⟩) D.length cv) u ev b (b5+k) k ts ps (Ie (cy.take k))) (λho w3=>w2.grownBy w3 ev.ownBlock/\(ho 10=false->Below w2.heap.size w2 w3)) ?_ ?_ ?_
   .exact⟨AY (Av (yD _ _) 1) _,λ_=>Av (yD _ _) 1⟩
   .intro i R o L a w3 E z ho HL A hn Z
    match i,R with
    |0,_=>
     obtain rfl:=yF L;have e4:a.tmps[4]?.getD undef=.pointer (some ⟨g,0,none⟩):=by rw[PI E 4];rfl
     clear z E;refine yE ?_;go_simp;exact Z.out _ _ rfl (GS.out _ _ _ A) (λj u _ _ _ h=>h)
    |1,_=>
     obtain rfl:=yF L;have d0:=Ba z 0
     change a.tmps[24]?.getD undef=.pointer (some ⟨g,2,none⟩) at d0
     clear z E;refine yE ?_;have cg:w3.cell? ⟨g,2,none⟩=some ev:=ym w3 g 2 _ _ _ (gb w3 A.1);go_simp;exact Z.out _ _ rfl (GS.out _ _ _ A) (λj u _ _ _ h=>h)
    |2,_=>obtain rfl:=yF L;clear z E;refine yE ?_;go_simp;exact Z.out _ _ ⟨_,rfl,A.1.size,yi _ _⟩ (GB.out _ _ _ _ A (AI _ _)) (λj u _ _ _ h=>L9 h (AY (AI _ _) none) (λk hk=>by cases hk) (.inr rfl))
    |3,_=>
     obtain rfl:=yF L;have e0:a.tmps[0]?.getD undef=.slice (some ⟨b,b5,none⟩) D.length cv:=by rw[PI E 0];rfl
     clear z E;refine yE ?_;go_simp;exact Z.out _ _ rfl (GS.out _ _ _ A) (λj u _ _ _ h=>h)
    |4,_=>
     obtain rfl:=yF L;have e5:a.tmps[5]?.getD undef=.int .i64 k:=by rw[PI E 5];rfl
     clear z E;refine yE ?_;go_simp;exact Z.out _ _ rfl (GS.out _ _ _ A) (λj u _ _ _ h=>h)
    |5,_=>
     obtain rfl:=yF L;have d3:=Ba z 3
     change a.tmps[27]?.getD undef=.slice (some ⟨b,b5,none⟩) D.length cv at d3
     have d4:=Ba z 4
     change a.tmps[28]?.getD undef=.int .i64 k at d4
     clear z E;refine yE ?_;go_simp;exact Z.out _ _ rfl (GS.out _ _ _ A) (λj u _ _ _ h=>h)
    |6,_=>
     obtain rfl:=yF L;have d5:=Ba z 5
     change a.tmps[29]?.getD undef=.pointer (some ⟨b,b5+k,none⟩) at d5
     clear z E;refine yE ?_;have cu:w3.cell? ⟨b,b5+k,none⟩=some u:=(World.cell?_of_block (ga w3 A.1 b jN)).trans vs;go_simp;exact Z.out _ _ rfl (GS.out _ _ _ A) (λj u _ _ _ h=>h)
    |7,_=>
     obtain rfl:=yF L;have d2:=Ba z 2
     change ∃g2,a.tmps[26]?.getD undef=.slice (some ⟨g2,0,none⟩) 0 0/\_<=g2/\_ at d2
     have d6:=Ba z 6
     change a.tmps[30]?.getD undef=u at d6
     clear z E;refine yE ?_;obtain⟨g2,d2,md,mb⟩:=d2;obtain⟨v7,w4,dx,r1,r2,r3⟩:=Dg (lo:=w2.heap.size) (w:=w3) (t:=72) (ty:=72) 9 _ 1 16 underlying72 Tryz.yW rfl (by decide) mb md (BK.keep Ru (λk hk=>(ga w3 A.1 k hk).trans (bD.block k hk))) ZW (by omega);refine Cm rfl (Bp d2) (Bp d6) dx ?_;exact Z.out _ _ r1 (GB.out _ _ _ _ A r2) (λj u _ _ _ h=>L9 h (AY r2 none) (λk hk=>by cases hk) (.inr rfl))
    |8,_=>
     obtain rfl:=yF L;have d7:=Ba z 7
     change AQ _ _ _ _ _ (a.tmps[31]?.getD undef) _ at d7
     clear z E;refine yE ?_;generalize e31:a.tmps[31]?.getD undef=r at d7;have W:=AA (show aL W0.heap.size w2.heap.size g (.slice (some ⟨b,b5,none⟩) D.length cv) u ev b (b5+k) k ts ps (Ie (List.take k cy)) 8 (.agg #[r,.int .i64 (-1)]) w3 from⟨r,rfl,d7⟩);obtain⟨_,_,rfl,_,_⟩:=d7.rd.shape;clear d7;go_simp;exact Z.out _ _ W.out (GS.out _ _ _ A) (λj u _ _ _ h=>h)
    |9,_=>
     obtain rfl:=yF L;have d8:=Ba z 8
     change ∃r,a.tmps[32]?.getD undef=.agg #[r,.int .i64 (-1)]/\_ at d8
     clear z E;refine yE ?_;obtain⟨r,d8,l9⟩:=d8;go_simp;exact Z.out _ _ ⟨r,_,rfl,A.1.size,yi _ _,AQ.below l9 (AI _ _)⟩ (GB.out _ _ _ _ A (AI _ _)) (λj u _ _ _ h=>L9 h (AY (AI _ _) none) (λk hk=>by cases hk) (.inr rfl))
    |10,_=>
     obtain rfl:=yF L;have d1:=Ba z 1
     change a.tmps[25]?.getD undef=ev at d1
     have d9:=Ba z 9
     change ∃r g9,a.tmps[33]?.getD undef=.slice (some ⟨g9,0,none⟩) 1 1/\_<=g9/\_/\_ at d9
     clear z E;refine yE ?_;obtain⟨r,g9,d9,mT,kP,kO⟩:=d9;have dY:=A.2 HL.out.1;have li:=dw;have dw:=dw.below dY;obtain⟨i0,g8,gQ,gP,gO⟩:=info_parts Tryz.yR;have dt:ps.length<=3:=by rw[dw.2.1.1];simp[Ie];omega
     obtain⟨mB,w4,dx,r1,r2,_,r4⟩:=run_append_own_at (P:=prog) w3 W0.heap.size 25 25 74 i0 _ 2 32 underlying25 g8 gQ gP gO rfl (by decide) ev ps.length (Cc Ep ps) dw.1 ⟨g9,0,none⟩ 1 1 [r,.int .i64 (-1)] rfl (by
      intro j x hx
      match j,hx with
      |0,hx=>simp at hx;subst hx;exact ym w3 g9 0 _ _ _ kP
      |1,hx=>simp at hx;subst hx;exact ym w3 g9 1 _ _ _ kP) (by
      obtain⟨_,_,rfl,_,_⟩:=kO.rd.shape;simp[xG]) (by simp only[maxLen];omega) (by omega) (yB al.size dY.size)
     clear g8 gQ gP gO;refine Cm rfl (Bp d1) (Bp d9) dx ?_;exact Z.out _ _ ⟨r,li.push dY al.size (yv _) kO r1 r2⟩ ⟨AP A.1 r2,λh=>by simp[GU] at h⟩ (λj x hj _ _ h=>L9 h r2 fj (.inl hj))
    |11,_=>
     obtain rfl:=yF L;have e4:a.tmps[4]?.getD undef=.pointer (some ⟨g,0,none⟩):=by rw[PI E 4];rfl
     clear z E;refine yE ?_;go_simp;exact Z.out _ _ rfl (GS.out _ _ _ A) (λj u _ _ _ h=>h)
   .intro xs w3 hR ho hL A
    obtain⟨r,o5⟩:=BS hR 10;have jX:xs 11=.pointer (some ⟨g,2,none⟩):=BS hR 11;have A:=A.1;clear hR hL;simp only[Ak,Ah,yC,yy,yz,yx,jX];simp;generalize xs 0=z0;generalize xs 1=z1;generalize xs 2=z2;generalize xs 3=z3;generalize xs 4=z4;generalize xs 5=z5;generalize xs 6=z6;generalize xs 7=z7;generalize xs 8=z8;generalize xs 9=z9;generalize xs 10=ev' at o5;clear jX;have dY:=gb w3 A;have ay:=Aq w3 g 2 ev';have St:Yp W0 W0.heap.size g (Ie (cy.take (k+1))) (w3.setCell ⟨g,2,none⟩ ev'):=by
     have e1:Ie (cy.take (k+1))=Ie (cy.take k)++[⟨ts,-1⟩]:=by rw[DA kU.out];simp[Ie]
     rw[e1];refine⟨m,iv,ev',c,rs,_,?_,O,?_,?_,o5.yL ay dY,?_,?_⟩
     .have:=yq w3 g 2 _ 28 ev' dY
      simpa using this
     .exact Au.yL (o1.kept A dw.1 (by decide) (by decide)) ay dY
     .exact AQ.yL (Aw o2 A (A8 o2 dw.1 (by decide)).ne) ay dY
     .exact AQ.yL (Aw o4 A (A8 o4 dw.1 (by decide)).ne) ay dY
     .exact(al.grown A al.size (λk hk=>ex k hk)).setCell O _
    obtain⟨_,_,rfl,_,_⟩:=o5.1.rd.shape;obtain⟨_,_,rfl,_,_⟩:=dw.1.rd.shape;obtain⟨c0,c1,c2,c3⟩:=AE dY;have df:=AK dY;simp only[yj,vT,wU,vt] at St;clear dY ay o5 o1 o2 dw o4 gb ga GS GB hQ fj ex;go_wp2_with fail;go_roundw;exact⟨k+1,by omega,by go_num,St⟩;simp[intOf];omega
  .obtain rfl:k=3:=by omega
   have e3:cy.take 3=cy:=wH (by rw[H3.out];omega);rw[e3] at o3;have fi:¬(3:Int)<D.length:=by omega
   have mJ:((D.length:Int) !=3)=false:=by simp;omega
   have bA:g≠w.heap.size:=by omega
   have dd:wr.heap[w.heap.size]?=some (.cells #[.slice none 0 0,.slice none 0 0,.slice none 0 0,.slice none 0 0] 28 (0,0)):=(al.block _ (by omega)).trans jV;have S:=AA (show ∀w',wr.grownBy w' (some w.heap.size)->cR w true (NQ cy) (.returned (.tuple #[.agg #[m,iv,ev,c],.bool true])) w' from λw' ew=>⟨m,iv,ev,c,rfl,⟨⟨rs,(o1.yL ew dd).lower bs.size⟩,(o2.yL ew dd).lower bs.size,⟨ps,(o3.yL ew dd).lower bs.size⟩,(o4.yL ew dd).lower bs.size⟩,(bs.trans (al.mono bs.size)).grown ew (bs.trans (al.mono bs.size)).size (λk hk=>by cases hk;exact yv _)⟩)
   have ay:wr.grownBy ((((wr.setCell ⟨w.heap.size,0,none⟩ m).setCell ⟨w.heap.size,1,none⟩ iv).setCell ⟨w.heap.size,2,none⟩ ev).setCell ⟨w.heap.size,3,none⟩ c) (some w.heap.size):=An (An (An (Aq wr w.heap.size 0 m) 1 iv) 2 ev) 3 c;obtain⟨E0,E1,E2,E3⟩:=AE (Cx (m':=m) (i':=iv) (e':=ev) (c':=c) dd);have HE:=AA (xU E0 (xU E1 (xU E2 E3)));clear E0 E1 E2 E3;obtain⟨_,_,rfl,_,_⟩:=o1.1.rd.shape;obtain⟨_,_,rfl,_,_⟩:=o2.rd.shape;obtain⟨_,_,rfl,_,_⟩:=o3.1.rd.shape;obtain⟨_,_,rfl,_,_⟩:=o4.rd.shape;obtain⟨c0,c1,c2,c3⟩:=AE hB;obtain⟨d0,d1,d2,d3⟩:=AE dd;have df:=AK dd;clear hB dd o1 o2 o3 o4;simp only[vB,wU] at HE S ay ⊢;go_wp2_with fail;exact yr (v:=.tuple #[.agg #[_,_,_,_],.bool true]) (by simp[results,Tryz.results188,go_sem,HE.out]) rfl (S.out _ ay)
def Vp(lo:Nat)(w:World)(v:Value)(r:List Int):Prop:=∃u g,v=.slice (some ⟨g,0,none⟩) 1 1/\lo<=g/\w.heap[g]?=some (.cells #[u] 29 (0,0))/\AF lo w u r
def Vo(lo:Nat)(w:World)(v:Value)(ts:List ByteArray):Prop:=∃u g,v=.slice (some ⟨g,0,none⟩) 1 1/\lo<=g/\w.heap[g]?=some (.cells #[u,.int .i64 (-1)] 74 (0,0))/\AQ lo 9 1 BD w u ts
theorem Vp.past{lo:Nat}{w w':World}{row:Option Nat}(h:Vp lo w v r)(O:w.grownBy w' row)(hr:∀k,row=some k->k<lo):Vp lo w' v r:=by obtain⟨u,g,h0,J,Y,h3⟩:=h;exact⟨u,g,h0,J,Fy Y J O hr,Bs h3 O hr⟩
theorem Vo.past{lo:Nat}{w w':World}{row:Option Nat}(h:Vo lo w v ts)(O:w.grownBy w' row)(hr:∀k,row=some k->k<lo):Vo lo w' v ts:=by obtain⟨u,g,h0,J,Y,h3⟩:=h;exact⟨u,g,h0,J,Fy Y J O hr,Bs h3 O hr⟩
theorem MG{α:Type}(cs:α->List Value)(lo e sz:Nat)(w:World):AQ lo e sz cs w (.slice none 0 0) []:=xh _ _ _ _
theorem Do{lo e sz g T:Nat}{w:World}{xs:List Value}{du:Array Value}(h:w.ownsRow lo e sz v n xs)(hB:w.heap[g]?=some (.cells du T (0,0)))(bA:e≠T):v.ownBlock≠some g:=λhe=>by obtain⟨c,hc⟩:=A6 h g he;rw[hB] at hc;simp at hc;exact bA hc.2.symm
def Il(lo:Nat)(w:World)(g:Nat)(m i e c:Value)(k:AO):Prop:=w.heap[g]?=some (.cells #[m,i,e,c] 28 (0,0))/\lo<=g/\Da lo w m i e c k
theorem Il.below{lo g:Nat}{w w':World}{m i e c:Value}{k:AO}(h:Il lo w g m i e c k)(X:Below w.heap.size w w'):Il lo w' g m i e c k:=⟨AB h.1 X,h.2.1,h.2.2.below X⟩
theorem Il.cells{lo g:Nat}{w:World}{m i e c:Value}{k:AO}(h:Il lo w g m i e c k):w.cell? ⟨g,0,none⟩=some m/\w.cell? ⟨g,1,none⟩=some i/\w.cell? ⟨g,2,none⟩=some e/\w.cell? ⟨g,3,none⟩=some c:=AE h.1
section
variable {lo g:Nat} {w w1:World} {m i e c:Value} {k:AO}
theorem Kn{T:Nat}{du:Array Value}(hB:w.heap[g]?=some (.cells #[m,i,e,c] 28 (0,0)))(O:w.grownBy w1 (some b))(X:w.heap[b]?=some (.cells du T (0,0)))(hT:28≠T):w1.heap[g]?=some (.cells #[m,i,e,c] 28 (0,0)):=by
 refine(O.block g (AW hB) λhe=>?_).trans hB;cases he;rw[hB] at X;simp at X;exact hT X.2
theorem Il.zZ(h:Il lo w g m i e c k)(au:lo<=w.heap.size)(X:Below w.heap.size w w1){i':Value}{xs:List AV}(Y:AQ w.heap.size 92 3 A3 w1 i' xs):Il lo (w1.setCell ⟨g,1,none⟩ i') g m i' e c {k with zZ:=xs}:=by obtain⟨hB,O,⟨D,o1⟩,o2,⟨ps,o3⟩,o4⟩:=h.below X;have ay:=Aq w1 g 1 i';refine⟨?_,O,⟨D,o1.yL ay hB⟩,(Y.lower au).yL ay hB,⟨ps,o3.yL ay hB⟩,o4.yL ay hB⟩;have:=yq w1 g 1 _ 28 i' hB;simpa using this
theorem Il.zW(h:Il lo w g m i e c k)(au:lo<=w.heap.size)(X:Below w.heap.size w w1){c':Value}{xs:List Ad}(Y:AQ w.heap.size 112 4 AU w1 c' xs):Il lo (w1.setCell ⟨g,3,none⟩ c') g m i e c' {k with zW:=xs}:=by obtain⟨hB,O,⟨D,o1⟩,o2,⟨ps,o3⟩,o4⟩:=h.below X;have ay:=Aq w1 g 3 c';refine⟨?_,O,⟨D,o1.yL ay hB⟩,o2.yL ay hB,⟨ps,o3.yL ay hB⟩,(Y.lower au).yL ay hB⟩;have:=yq w1 g 3 _ 28 c' hB;simpa using this
theorem Il.info{ad:Nat}(h:Il lo w g m (.slice (some ⟨gi,0,none⟩) n ad) e c k)(K:n=k.zZ.length){f j:Nat}{x y:AV}{u:Value}(hk:k.zZ[f]?=some x)(hj:j<3)(hy:A3 y=(A3 x).set j u):
 Il lo (w.setCell ⟨gi,f*3+j,none⟩ u) g m (.slice (some ⟨gi,0,none⟩) n ad) e c {k with zZ:=k.zZ.set f y}/\w.grownBy (w.setCell ⟨gi,f*3+j,none⟩ u) (some gi)/\lo<=gi:=by
 obtain⟨hB,O,⟨D,o1⟩,o2,⟨ps,o3⟩,o4⟩:=h;subst K;have S:=AQ.zx A0 o2 hk hj hy;obtain⟨du,hc⟩:=A6 o2 gi rfl;exact⟨⟨Kn hB S.2 hc (by decide),O,⟨D,o1.yL S.2 hc⟩,S.1,⟨ps,o3.yL S.2 hc⟩,o4.yL S.2 hc⟩,S.2,(yk o2 gi rfl).1⟩
end
theorem Au.turn{lo:Nat}{w w':World}{m:List (List Int)}(h:Au lo w v D m)(hf:f<m.length)(hu:D[f]?=some u)(hr:AF lo w' u r)(O:w.grownBy w' u.ownBlock):Au lo w' v D (m.set f r):=by
 obtain⟨a1,a2,a3⟩:=h;have hx:=a2.2 f u _ hu (yw hf);refine⟨Aw a1 O (A8 a1 hx Lw).ne,⟨by rw[xP];exact a2.1,λj y ys hy fe=>?_⟩,a3⟩
 by_cases e:f=j
 .subst e
  rw[hu] at hy;cases hy;rw[xv hf] at fe;cases fe;exact hr
 .rw[wl e] at fe
  exact Aw (a2.2 j y ys hy fe) O (a3 j f y u (λh=>e h.symm) hy hu).ne
theorem Au.row{lo:Nat}{w:World}{m:List (List Int)}(h:Au lo w v D m){f:Nat}(hf:f<m.length)(h0:0<(AG m f).length):
 ∃gw ad,D[f]?=some (.slice (some ⟨gw,0,none⟩) (AG m f).length ad)/\AF lo w (.slice (some ⟨gw,0,none⟩) (AG m f).length ad) (AG m f)/\lo<=gw/\gw<w.heap.size:=by
 obtain⟨a1,a2,a3⟩:=h;obtain⟨u,hu⟩:∃u,D[f]?=some u:=⟨_,yw (by rw[a2.1];exact hf)⟩
 have hx:=a2.2 f u (AG m f) hu (by unfold AG;exact A2 hf);obtain⟨gw,ad,rfl,J,Y⟩:=Jd hx h0;exact⟨gw,ad,hu,hx,J,Y⟩
section
variable {lo g:Nat} {w w1:World} {m i e c:Value} {k:AO}
theorem Il.row(h:Il lo w g m i e c k){D:List Value}(hv:Au lo w m D k.mem){f gw n ad:Nat}{r:List Int}(hf:f<k.mem.length)(hu:D[f]?=some (.slice (some ⟨gw,0,none⟩) n ad))(hr:AF lo w1 (.slice (some ⟨gw,0,none⟩) n ad) r)(O:w.grownBy w1 (some gw)):
 Il lo w1 g m i e c {k with mem:=k.mem.set f r}:=by
 obtain⟨hB,kB,_,o2,⟨ps,o3⟩,o4⟩:=h;have hx:=hv.2.1.2 f _ _ hu (yw hf);obtain⟨du,hc⟩:=A6 hx gw rfl;exact⟨Kn hB O hc (by decide),kB,⟨D,hv.turn hf hu hr O⟩,o2.yL O hc,⟨ps,o3.yL O hc⟩,o4.yL O hc⟩
theorem Il.root{ad:Nat}(h:Il lo w g m i (.slice (some ⟨ge,0,none⟩) n ad) c k)(K:n=k.zX.length){j:Nat}(hj:j<k.zX.length)(r:Int):
 Il lo (w.setCell ⟨ge,j*2+1,none⟩ (.int .i64 r)) g m i (.slice (some ⟨ge,0,none⟩) n ad) c {k with zX:=At k.zX j (D5 r)}/\w.grownBy (w.setCell ⟨ge,j*2+1,none⟩ (.int .i64 r)) (some ge)/\lo<=ge:=by
 obtain⟨hB,O,⟨D,o1⟩,o2,⟨ps,a1,a2,a3⟩,o4⟩:=h;have dt:ps.length=k.zX.length:=a2.1;rw[<-dt] at K;subst K;have eK:j<ps.length:=by omega
 have S:=AQ.zx Fm a1 (k:=j) (x:=ps[j]) (yw eK) (j:=1) (by decide) (y:=(ps[j].1,r)) (u:=.int .i64 r) rfl;obtain⟨du,hc⟩:=A6 a1 ge rfl;refine⟨⟨Kn hB S.2 hc (by decide),O,⟨D,o1.yL S.2 hc⟩,o2.yL S.2 hc,⟨ps.set j (ps[j].1,r),?_,⟨?_,?_⟩,?_⟩,o4.yL S.2 hc⟩,S.2,(yk a1 ge rfl).1⟩
 .exact S.1
 .rw[xP,DF];exact dt
 .intro q p ev hp dO
  rw[Jc (d:=⟨[],0⟩)] at dO
  by_cases e:j=q
  .subst e
   rw[xv eK] at hp;rw[xv hj] at dO;cases hp;cases dO;have hx:=a2.2 j ps[j] (k.zX.getD j ⟨[],0⟩) (yw eK) (A2 hj);exact⟨hx.1.yL S.2 hc,rfl⟩
  .rw[wl e] at hp dO
   have hx:=a2.2 q p ev hp dO;exact⟨hx.1.yL S.2 hc,hx.2⟩
 .rw[vm,show ps[j].1=(ps.map (·.1))[j]'(by simpa using eK) by simp,List.set_getElem_self]
  exact a3
theorem Il.zT{ad:Nat}(h:Il lo w g m i (.slice (some ⟨ge,0,none⟩) n ad) c k)(K:n=k.zX.length)(au:lo<=w.heap.size)(X:Below w.heap.size w w1){j:Nat}(hj:j<k.zX.length){u:Value}{ss:List ByteArray}(hu:AQ w.heap.size 9 1 BD w1 u ss):
 Il lo (w1.setCell ⟨ge,j*2,none⟩ u) g m i (.slice (some ⟨ge,0,none⟩) n ad) c {k with zX:=At k.zX j (Bc ss)}/\w1.grownBy (w1.setCell ⟨ge,j*2,none⟩ u) (some ge)/\lo<=ge:=by
 have h':=h.below X;obtain⟨jV,kB,_,_,⟨fd,b1,b2,b3⟩,_⟩:=h;obtain⟨hB,O,⟨D,o1⟩,o2,_,o4⟩:=h';have a1:=AQ.below b1 X;have dt:fd.length=k.zX.length:=b2.1;rw[<-dt] at K;subst K;have eK:j<fd.length:=by omega
 have S:=AQ.zx Fm a1 (k:=j) (x:=fd[j]) (yw eK) (j:=0) (by decide) (y:=(u,fd[j].2)) (u:=u) rfl;rw[xK] at S;obtain⟨du,hc⟩:=A6 a1 ge rfl;have bA:9≠74:=by decide
 refine⟨⟨Kn hB S.2 hc (by decide),O,⟨D,o1.yL S.2 hc⟩,o2.yL S.2 hc,⟨fd.set j (u,fd[j].2),?_,⟨?_,?_⟩,?_⟩,o4.yL S.2 hc⟩,S.2,(yk a1 ge rfl).1⟩
 .exact S.1
 .rw[xP,DF];exact dt
 .intro q p ev hp dO
  rw[Jc (d:=⟨[],0⟩)] at dO
  by_cases e:j=q
  .subst e
   rw[xv eK] at hp;rw[xv hj] at dO;cases hp;cases dO;have hx:=b2.2 j fd[j] (k.zX.getD j ⟨[],0⟩) (yw eK) (A2 hj);exact⟨(hu.lower au).yL S.2 hc bA,hx.2⟩
  .rw[wl e] at hp dO
   have hx:=b2.2 q p ev hp dO;exact⟨(hx.1.below X).yL S.2 hc bA,hx.2⟩
 .rw[vm]
  intro x y a b kk ha eW;have yL:∀(q:Nat)(p:Value×Int),fd[q]?=some p->Fp p.1 u:=λq p hq=>by
   obtain⟨ev,dO⟩:∃ev,k.zX[q]?=some ev:=⟨_,yw (by rw[<-dt];exact(yt.1 hq).1)⟩
   exact KY (B:=0) (b2.2 q p ev hq dO).1 (λk hk=>(hu.lt k hk).1)
  by_cases e1:j=x
  .subst e1
   rw[xv (by simpa using eK)] at ha;cases ha;rw[wl kk] at eW;rw[xm] at eW;obtain⟨p,hp,rfl⟩:=Option.map_eq_some_iff.1 eW;exact(yL y p hp).symm
  .rw[wl e1] at ha
   by_cases e2:j=y
   .subst e2
    rw[xv (by simpa using eK)] at eW;cases eW;rw[xm] at ha;obtain⟨p,hp,rfl⟩:=Option.map_eq_some_iff.1 ha;exact yL x p hp
   .rw[wl e2] at eW
    exact b3 x y a b kk ha eW
end
def TJ(w:World)(a:Option Addr)(es:List Eh):Prop:=∀j,j<es.length->∃b b5 ua uc,a=some ⟨b,b5,none⟩/\b<w.heap.size/\w.cell? ⟨b,b5+j*2,none⟩=some (.slice ua (AJ es j).zT.length uc)/\w.cell? ⟨b,b5+j*2+1,none⟩=some (.int .i64 (AJ es j).root)/\BY w (.slice ua (AJ es j).zT.length uc) (AJ es j).zT
theorem F7.open{w:World}(h:F7 w v es):∃a ad,v=.slice a es.length ad/\es.length<=ad/\ad<=maxLen/\TJ w a es:=by
 obtain⟨ps,J,Y⟩:=h;obtain⟨a,ad,rfl,hc,eL,an⟩:=BK.open Fm (by decide) J;refine⟨a,ad,by rw[Y.1],by rw[<-Y.1];exact hc,eL,λj hj=>?_⟩;have hp:j<ps.length:=by rw[Y.1];exact hj
 obtain⟨b,b5,rfl,az,dc⟩:=an j _ (yw hp);have hr:=Y.2 j _ (AJ es j) (yw hp) (by unfold AJ;exact A2 hj);obtain⟨ua,uc,e,_,_⟩:=hr.1.shape;refine⟨b,b5,ua,uc,rfl,az,?_,?_,?_⟩
 .have:=dc 0 _ rfl
  rw[e] at this;exact this
 .have:=dc 1 _ rfl
  rw[hr.2] at this;exact this
 .rw[<-e];exact hr.1
theorem TJ.below{w w':World}{a:Option Addr}(h:TJ w a es)(X:Below w.heap.size w w'):TJ w' a es:=by intro j hj;obtain⟨b,b5,ua,uc,rfl,az,h0,J,Y⟩:=h j hj;exact⟨b,b5,ua,uc,rfl,xW az X.size,(X.cell (p:=⟨b,b5+j*2,none⟩) az).trans h0,(X.cell (p:=⟨b,b5+j*2+1,none⟩) az).trans J,BK.below Y X⟩
theorem GH{zZ:List AV}{a b:List Nat}(h:∀g,g∈a↔g∈b):BM zZ a ss=BM zZ b ss:=by
 unfold BM;rw[wF];simp only[xZ];exact⟨λan g O=>an g ((h g).2 O),λan g O=>an g ((h g).1 O)⟩
section
variable {k:AO}
theorem ZL(h:Bu k.mem=false):Cr k=false:=by simp[Cr,h]
theorem WP(h:BP k.zZ=false):Cr k=false:=by simp[Cr,h]
theorem WO(h:BT k.zW=false):Cr k=false:=by simp[Cr,h]
theorem X5(h:k.zX.length≠3):Cr k=false:=by simp[Cr,JH,h]
theorem NG{j:Nat}(hj:j<k.zX.length)(h:ED k (AJ k.zX j)=false):Cr k=false:=by have:k.zX.all (ED k)=false:=wP.2 ⟨AJ k.zX j,by unfold AJ;exact yh (A2 hj),by simp[h]⟩;simp[Cr,JH,this]
theorem ZM(hf:f<12)(h:Dh k f=false):Cr k=false:=by have:(yC 12).all (Dh k)=false:=wP.2 ⟨f,xS.2 hf,by simp[h]⟩;simp[Cr,this]
theorem U6(hf:f<12)(h:HZ k f=false):Cr k=false:=by have:(yC 12).all (HZ k)=false:=wP.2 ⟨f,xS.2 hf,by simp[h]⟩;simp[Cr,this]
theorem WQ{j:Nat}(hj:j<k.zW.length)(h:Ct k (AT k.zW j)=false):Cr k=false:=by have:k.zW.all (Ct k)=false:=wP.2 ⟨AT k.zW j,by unfold AT;exact yh (A2 hj),by simp[h]⟩;simp[Cr,this]
theorem ZN(J:Bu k.mem=true)(Y:BP k.zZ=true)(h3:BT k.zW=true)(h4:k.zX.length=3)(h5:∀j,j<3->ED k (AJ k.zX j)=true)
 (h6:∀f,f<12->Dh k f=true/\HZ k f=true)(h7:∀j,j<k.zW.length->Ct k (AT k.zW j)=true):Cr k=true:=by
 have a1:k.zX.all (ED k)=true:=xZ.2 λx hx=>by
  obtain⟨j,hj,rfl⟩:=wS hx;have:=h5 j (by omega);unfold AJ at this
  rwa [xO,yw hj] at this
 have a2:(yC 12).all (Dh k)=true:=xZ.2 λf hf=>(h6 f (xS.1 hf)).1
 have a3:(yC 12).all (HZ k)=true:=xZ.2 λf hf=>(h6 f (xS.1 hf)).2
 have a4:k.zW.all (Ct k)=true:=xZ.2 λx hx=>by
  obtain⟨j,hj,rfl⟩:=wS hx;have:=h7 j hj;unfold AT at this
  rwa [xO,yw hj] at this
 simp[Cr,JH,J,Y,h3,h4,a1,a2,a3,a4]
def Es(k:AO)(j:Nat):List Int:=(yC 12).map λg=>(countP k.mem k.zZ g:Int)+(Ee (k.zX.take j) g:Int)
theorem EA{j:Nat}:(Es k j).length=12:=by simp[Es]
theorem Ln{j g:Nat}(h:g<12):nth (Es k j) g=(countP k.mem k.zZ g:Int)+(Ee (k.zX.take j) g:Int):=by unfold Es nth;rw[xO,xm,sN h];rfl
theorem Sw:Es k 0=(yC 12).map λg=>(countP k.mem k.zZ g:Int):=by unfold Es;rw[List.take_zero];simp[Ee]
theorem Qi{j g:Nat}(hj:j<k.zX.length):Ee (k.zX.take (j+1)) g=Ee (k.zX.take j) g+(if(AJ k.zX j).root=(g:Int) then 1 else 0):=by
 have h:k.zX[j]?=some (AJ k.zX j):=by unfold AJ;exact A2 hj
 rw[DA h];unfold Ee;rw[List.countP_append,List.countP_singleton];simp
theorem XW{j:Nat}(hj:j<k.zX.length)(h:(AJ k.zX j).root<0):Es k (j+1)=Es k j:=by
 unfold Es;refine List.map_congr_left λg _=>?_
 rw[Qi hj,if_neg (by omega),xK]
theorem VV{j r:Nat}(hj:j<k.zX.length)(h:(AJ k.zX j).root=(r:Int))(hr:r<12):Es k (j+1)=(Es k j).set r (nth (Es k j) r+1):=by
 refine MA (by simp[Es]) λg O=>?_
 rw[EA] at O;rw[T0 (by rw[EA];exact hr),Ln O,Ln hr,Qi hj,h]
 by_cases e:g=r
 .subst e;simp;omega
 .rw[if_neg e,Ln O,if_neg (by intro h;apply e;omega)];simp
theorem Qe(hm:Bu k.mem=true){j g:Nat}(he:k.zX.length=3)(O:g<12):0<=nth (Es k j) g/\nth (Es k j) g<=103:=by
 rw[Ln O];have J:countP k.mem k.zZ g<=100:=by have:=Px (zZ:=k.zZ) (g:=g) hm (yv 12) (yg 4);unfold Io at this;unfold countP;omega
 have Y:Ee (k.zX.take j) g<=3:=by
  have:=List.countP_le_length (p:=λe:Eh=>decide (e.root=(g:Int))) (l:=k.zX.take j);rw[xT] at this;unfold Ee;omega
 omega
theorem Qd(he:k.zX.length=3){f:Nat}(hf:f<12):HZ k f=decide ((zS k.zZ f).r=nth (Es k 3) f):=by rw[Ln hf,wH (by omega)];rfl
end
def Gj(lo:Nat)(m:List (List Int))(root:Int)(w:World)(v:Value):Prop:=∃ts,AF lo w v (Az ts)/\∀g,g∈ts↔g∈Be m root
theorem Gj.below{lo:Nat}{m:List (List Int)}{root:Int}{w w':World}(h:Gj lo m root w v)(X:Below w.heap.size w w'):Gj lo m root w' v:=by obtain⟨ts,J,Y⟩:=h;exact⟨ts,AF.below J X,Y⟩
theorem zw{m:List (List Int)}{root:Int}(hr:root<12):∀g∈Be m root,g<12:=by
 intro g O;obtain⟨h0,h⟩:=De.1 O;have K:∀t:Nat,∀x∈named (AG m t),x<12:=λt x hx=>by unfold named at hx;obtain⟨y,hy,rfl⟩:=vH.1 hx;exact Ec (wQ.1 hy).2
 rcases h with rfl|h|⟨t,_,h⟩
 .omega
 .exact K _ _ h
 .exact K _ _ h
def Ac.onCells(g:Nat)(c:Ac):Array Value:= #[.pointer (some ⟨g,0,none⟩),.int .i64 c.k,.int .i64 c.e,.int .i64 c.a,.int .i64 c.b,.int .i64 c.c,.string c.nm]
def Ac.on(g:Nat)(c:Ac):Value:=.agg (c.onCells g)
theorem KX{w:World}{g:Nat}{c:Ac}{T:Nat}(h:w.heap[b]?=some (.cells (c.onCells g) T (0,0))):w.cell? ⟨b,0,none⟩=some (.pointer (some ⟨g,0,none⟩))/\w.cell? ⟨b,1,none⟩=some (.int .i64 c.k)/\w.cell? ⟨b,2,none⟩=some (.int .i64 c.e)/\w.cell? ⟨b,3,none⟩=some (.int .i64 c.a)/\w.cell? ⟨b,4,none⟩=some (.int .i64 c.b)/\w.cell? ⟨b,5,none⟩=some (.int .i64 c.c)/\w.cell? ⟨b,6,none⟩=some (.string c.nm):=
 ⟨ym _ _ 0 _ _ _ h,ym _ _ 1 _ _ _ h,ym _ _ 2 _ _ _ h,ym _ _ 3 _ _ _ h,ym _ _ 4 _ _ _ h,ym _ _ 5 _ _ _ h,ym _ _ 6 _ _ _ h⟩
theorem Il.env{lo g:Nat}{w:World}{m i e c:Value}{k:AO}(h:Il lo w g m i e c k){j:Nat}(hj:j<k.zX.length):
 ∃ge ad ua uc,e=.slice (some ⟨ge,0,none⟩) k.zX.length ad/\ge<w.heap.size/\w.cell? ⟨ge,j*2,none⟩=some (.slice ua (AJ k.zX j).zT.length uc)/\w.cell? ⟨ge,j*2+1,none⟩=some (.int .i64 (AJ k.zX j).root)/\BY w (.slice ua (AJ k.zX j).zT.length uc) (AJ k.zX j).zT/\∀q,w.frozen? ⟨ge,q,none⟩=false:=by
 have hr:=h.2.2.rd.2.2.1;obtain⟨ps,o⟩:=h.2.2.2.2.1;have dt:ps.length=k.zX.length:=o.2.1.1;obtain⟨ge,ad,rfl,_,az⟩:=Jd o.1 (by omega);obtain⟨a,cp,hv,_,_,an⟩:=F7.open hr;simp only[xH] at hv;obtain⟨rfl,_,rfl⟩:=hv;obtain⟨b,b5,ua,uc,lY,_,h0,J,Y⟩:=an j hj;cases lY;rw[vt] at h0 J;exact⟨ge,ad,ua,uc,by rw[dt],az,h0,J,Y,λq=>xJ o.1 q⟩
theorem XK(g ge n ad en:Nat)(c:Ac)(w:World)(Y:w.cell? ⟨g,2,none⟩=some (.slice (some ⟨ge,0,none⟩) n ad))(he:c.e=(en:Int))(K:en<n):
 Calls prog 205 #[c.on g] w λe w'=>e=.returned (.pointer (some ⟨ge,en*2,none⟩))/\Below w.heap.size w w':=by
 obtain⟨k,e,a,b,cc,nm⟩:=c;simp only at he;subst he;simp only[Ac.on,Ac.onCells];obtain⟨call,X⟩:=Dd w (.cells #[.pointer (some ⟨g,0,none⟩),.int .i64 k,.int .i64 en,.int .i64 a,.int .i64 b,.int .i64 cc,.string nm] 126);have x2:=(X.cell (p:=⟨g,2,none⟩) (yA w _ Y)).trans Y;have mI:(en:Int)<n:=by omega
 go_in;go_wp2_with fail;generalize w.alloc _=W0 at*;have y0:=xX (ym _ _ 0 _ _ _ call);have y2:=xX (ym _ _ 2 _ _ _ call);have k2:=xX x2;clear call x2 Y;refine Bj ?_
 repeat(go_big_quiet_step (fail))
 refine Bi λwq bq=>?_
 go_wp2_with fail;go_ret;exact⟨rfl,X.trans (bq.mono X.size)⟩
theorem ZV{lo g:Nat}{w:World}{m i e c:Value}{k:AO}(h:Il lo w g m i e c k)(N:Ac)(nm:ByteArray)(he:0<=N.e)(K:N.e<k.zX.length):
 Calls prog 165 #[N.on g,.string nm] w λr w'=>r=.returned (.bool (Fl k N.e nm))/\Below w.heap.size w w':=by
 obtain⟨en,dh⟩:∃n:Nat,N.e=(n:Int):=⟨N.e.toNat,by omega⟩
 obtain⟨ge,ad,ua,uc,rfl,lH,D0,_,hi,_⟩:=h.env (j:=en) (by omega);obtain⟨call,X⟩:=Dd w (.cells (N.onCells g) 126);have CE:=AA (λW (hW:Below w.heap.size w W)=>XK g ge k.zX.length ad en N W ((hW.cell (p:=⟨g,2,none⟩) (AW h.1)).trans h.cells.2.2.1) dh (by omega));have CM:=AA (λW (hW:Below w.heap.size w W)=>PY _ (AJ k.zX en).zT nm W (BK.below hi hW));have S:=AA (show By (AJ k.zX en).zT nm=Fl k N.e nm by unfold Fl;rw[dh];rfl);have HD:=AA D0;clear h hi D0 dh he K;obtain⟨k1,e1,a1,b1,c1,jd⟩:=N;simp only[Ac.on,Ac.onCells] at call X CE ⊢;obtain⟨y0,y1,y2,y3,y4,y5,y6⟩:=KX (c:=⟨k1,e1,a1,b1,c1,jd⟩) call;go_in;go_wp2_with fail;refine(CE.out _ X).mono ?_;rintro e w2 ⟨rfl,ao⟩;replace ao:=X.trans (ao.mono X.size);have vs:=(ao.cell (p:=⟨ge,en*2,none⟩) lH).trans HD.out;clear y0 y1 y2 y3 y4 y5 y6 call X;go_wp2_with (refine(CM.out _ ao).mono ?_;rintro e w3 ⟨rfl,gE⟩);go_ret;exact⟨AH S.out,ao.trans (gE.mono ao.size)⟩
def Jj(xs:List AV)(b:Int):Prop:=∀f,f<xs.length-> -b<=(zS xs f).r/\(zS xs f).r<=b
theorem Il.zS'{lo g:Nat}{w:World}{m i e c:Value}{k:AO}(h:Il lo w g m i e c k){f:Nat}(hf:f<k.zZ.length):
 ∃gi ad,i=.slice (some ⟨gi,0,none⟩) k.zZ.length ad/\gi<w.heap.size/\lo<=gi/\w.cell? ⟨gi,f*3,none⟩=some (.int .i64 (zS k.zZ f).k)/\w.cell? ⟨gi,f*3+1,none⟩=some (.string (zS k.zZ f).g)/\w.cell? ⟨gi,f*3+2,none⟩=some (.int .i64 (zS k.zZ f).r)/\∀q,w.frozen? ⟨gi,q,none⟩=false:=by
 have o:=h.2.2.2.1;obtain⟨gi,ad,rfl,_,_,au,az,df⟩:=o.zM (by omega);obtain⟨d0,d1,d2⟩:=AQ.zP o hf;exact⟨gi,ad,rfl,az,au,d0,d1,d2,df⟩
theorem RO(v:Value)(xs:List AV)(f:Nat)(w:World)(h:Bb w v xs)(bw:BP xs=true)(hf:f<12)(hk:(zS xs f).k=1)(hr:(zS xs f).r=0):
 Calls prog 206 #[v,.int .i64 f] w λe w'=>∃v',e=.returned (.tuple #[v',.bool true])/\AQ w.heap.size 92 3 A3 w' v' (xs.set f AV.zero)/\Below w.heap.size w w':=by
 have hl:=(A1.1 bw).1;have C1:=AA (λW (hW:Below w.heap.size w W)=>by have:=Fu v xs W (BK.below h hW) (Cg bw);rw[bw] at this;exact this);have C2:=AA (λW (_:Below w.heap.size w W)=>BJ (by have:=FD (f:Int) W;rw[show BZ (f:Int) 0 11=true from AZ.2 (by omega)] at this;exact this));have C3:=AA (λW (hW:Below w.heap.size w W)=>KG v xs W (BK.below h hW) (by omega));obtain⟨ai,ci,rfl,lR,jL,H2⟩:=BK.open A0 (by decide) h;obtain⟨bi,ej,rfl,ey,D0,_,D2⟩:=H2.zP (show f<xs.length by omega);have gz:(f:Int)<xs.length:=by omega
 have t1:((zS xs f).k !=1)=false:=by simp[hk]
 have t2:((zS xs f).r !=0)=false:=by simp[hr]
 have Hl:=AA hl;have X:=yD w.heap.size w;clear h bw hk hr H2 hl;go_in;go_wp2_with fail;refine(C1.out _ X).mono ?_;rintro e w_ ⟨rfl,eA⟩;replace X:=X.trans (eA.mono X.size);clear eA;go_wp2_with fail;refine(C2.out _ X).mono ?_;rintro e w_ ⟨rfl,eA⟩;replace X:=X.trans (eA.mono X.size);clear eA;replace D0:=(X.cell (p:=⟨bi,ej+f*3,none⟩) ey).trans D0;replace D2:=(X.cell (p:=⟨bi,ej+f*3+2,none⟩) ey).trans D2;go_wp2_with fail;clear D0 D2;refine(C3.out _ X).mono ?_;rintro e w4 ⟨v',rfl,hO,dX⟩;obtain⟨q,ad,rfl,c1,c2,q1,q2,df⟩:=hO.zM (by have:=Hl.out;omega);unfold maxLen at c2;have hS:=AA (AQ.stored A0 hO (show f<xs.length by have:=Hl.out;omega) AV.zero);obtain⟨d0,d1,d2⟩:=AQ.zP hO (show f<xs.length by have:=Hl.out;omega);have hB:=AA (AM (X.trans (dX.mono X.size)) hS.out.2 (yB X.size q1) (X.trans (dX.mono X.size)).size);have au:=X.size;clear hO dX X t1 t2;go_wp2_with fail;go_ret2;exact⟨_,rfl,hS.out.1.lower au,hB.out⟩
theorem TQ(v:Value)(xs:List AV)(f:Nat)(w:World)(h:Bb w v xs)(bw:BP xs=true)(hf:f<12)(hk:(zS xs f).k=1)(hr:(zS xs f).r≠0):
 Calls prog 206 #[v,.int .i64 f] w λe w'=>e=.returned (.tuple #[.slice none 0 0,.bool false])/\Below w.heap.size w w':=by
 have hl:=(A1.1 bw).1;have C1:=AA (λW (hW:Below w.heap.size w W)=>by have:=Fu v xs W (BK.below h hW) (Cg bw);rw[bw] at this;exact this);have C2:=AA (λW (_:Below w.heap.size w W)=>BJ (by have:=FD (f:Int) W;rw[show BZ (f:Int) 0 11=true from AZ.2 (by omega)] at this;exact this));obtain⟨ai,ci,rfl,lR,jL,H2⟩:=BK.open A0 (by decide) h;obtain⟨bi,ej,rfl,ey,D0,_,D2⟩:=H2.zP (show f<xs.length by omega);have gz:(f:Int)<xs.length:=by omega
 have t1:((zS xs f).k !=1)=false:=by simp[hk]
 have t2:((zS xs f).r !=0)=true:=by simp[hr]
 have X:=yD w.heap.size w;clear h bw hk hr H2 hl;go_in;go_wp2_with fail;refine(C1.out _ X).mono ?_;rintro e w_ ⟨rfl,eA⟩;replace X:=X.trans (eA.mono X.size);clear eA;go_wp2_with (refine(C2.out _ X).mono ?_;rintro e w_ ⟨rfl,eA⟩;replace X:=X.trans (eA.mono X.size);clear eA;replace D0:=(X.cell (p:=⟨bi,ej+f*3,none⟩) ey).trans D0;replace D2:=(X.cell (p:=⟨bi,ej+f*3+2,none⟩) ey).trans D2);go_ret2;exact⟨rfl,X⟩
def Fs(lo g:Nat)(w:World)(res:Mh)(r:Ending)(w':World):Prop:=r=.returned (.tuple #[.int .i64 res.2.1,.int .i64 res.2.2])/\(res.2.2=0->∃m i e c,Il lo w' g m i e c res.1)/\Below lo w w'
def Gx(lo g:Nat)(w:World)(res:Mh)(r:Ending)(w':World):Prop:=r=.returned (.int .i64 res.2.2)/\(res.2.2=0->∃m i e c,Il lo w' g m i e c res.1)/\Below lo w w'
theorem Fs.bad{lo g:Nat}{w w':World}{k:AO}{n:Int}(h:res=(k,0,n))(K:n≠0)(X:Below lo w w'):Fs lo g w res (.returned (.tuple #[.int .i64 0,.int .i64 n])) w':=by subst h;exact⟨rfl,λh=>absurd h K,X⟩
theorem Gx.bad{lo g:Nat}{w w':World}{k:AO}{n:Int}(h:res=(k,0,n))(K:n≠0)(X:Below lo w w'):Gx lo g w res (.returned (.int .i64 n)) w':=by subst h;exact⟨rfl,λh=>absurd h K,X⟩
theorem Ar{k:AO}(h:DQ k):Bu k.mem=true/\BP k.zZ=true/\BT k.zW=true:=by have:=El.2 h;unfold Cr at this;simp only[yu] at this;exact⟨this.1.1.1.1.1.1,this.1.1.1.1.1.2,this.1.1.1.1.2⟩
theorem Wr{lo g ad:Nat}{w:World}(h:AF lo w (.slice (some ⟨g,0,none⟩) 4 ad) r)(hl:r.length=4):
 ∃w',(∀ty,(tX #[29] ty #[.slice (some ⟨g,0,none⟩) 4 ad]).run prog w=.ok (.tuple #[]) w')/\AF lo w' (.slice (some ⟨g,0,none⟩) 4 ad) [0,0,0,0]/\w.grownBy w' (some g):=by
 have h4:w.ownsRow lo 3 1 (.slice (some ⟨g,0,none⟩) 4 ad) 4 (r.map (xY .i64)):=by have:=h;unfold AF at this;rwa [hl] at this
 have ez:(xF (xY .i64 0).cells 4).toList=[.int .i64 0,.int .i64 0,.int .i64 0,.int .i64 0]:=by kernel_rfl
 have hst:=run_storeCells_cells (P:=prog) g 0 (xF (xY .i64 0).cells 4).toList 0 w (by
  intro j hj;have mL:j<4:=by rw[ez] at hj;exact hj
  have:=xB h4 j (by omega);simp only[vt] at this ⊢;rw[this];simp;omega) (by intro j _;exact xJ h4 _) (by
  intro u hu;rw[ez] at hu;have:u=.int .i64 0:=by simpa using hu
  subst this;rfl)
 simp only[xK] at hst;have e0:=KL g 0 (xF (xY .i64 0).cells 4).toList 0 w;rw[xK] at e0;refine⟨w.setCells g 0 (xF (xY .i64 0).cells 4).toList,λty=>?_,?_,?_⟩
 .simp[tX,run_underlying underlying29,hst]
 .rw[e0]
  obtain⟨a1,_⟩:=Ix h4 0 0 (xF (xY .i64 0).cells 4).toList;have e:JW (r.map (xY .i64)) 0 0 (xF (xY .i64 0).cells 4).toList=[0,0,0,0].map (xY .i64):=by
   rw[ez]
   match r,hl with
   | [a,b,c,d],_=>rfl
  rw[e] at a1;exact a1
 .rw[e0]
  exact(Ix h4 0 0 (xF (xY .i64 0).cells 4).toList).2
theorem Il.zd{lo g:Nat}{w:World}{m i e c:Value}{k:AO}(h:Il lo w g m i e c k)(bw:Bu k.mem=true){f:Nat}(hf:f<12):
 ∃gm bB gw bt D,m=.slice (some ⟨gm,0,none⟩) 12 bB/\gm<w.heap.size/\gm≠g/\w.cell? ⟨gm,f,none⟩=some (.slice (some ⟨gw,0,none⟩) 4 bt)/\gw<w.heap.size/\lo<=gw/\gw≠g/\gw≠gm/\Au lo w m D k.mem/\D[f]?=some (.slice (some ⟨gw,0,none⟩) 4 bt)/\AF lo w (.slice (some ⟨gw,0,none⟩) 4 bt) (AG k.mem f):=by
 obtain⟨D,o⟩:=h.2.2.1;obtain⟨db,hr⟩:=Ai.1 bw;have h4:=(A4.1 (hr f hf)).1;have gT:D.length=12:=by rw[o.2.1.1,db]
 obtain⟨gm,bB,rfl,_,_,_,iJ,_⟩:=o.1.zM (by omega);obtain⟨gw,bt,hu,hx,au,az⟩:=o.row (f:=f) (by omega) (by omega);rw[h4] at hu hx;have vs:=AQ.zz ER o.1 hu 0 _ rfl;rw[wB,xK] at vs;have n1:gm≠g:=λe=>Do o.1 h.1 (by decide) (by rw[e];rfl)
 have n2:gw≠g:=λe=>Do hx h.1 (by decide) (by rw[e];rfl)
 have n3:gw≠gm:=λe=>by have:=A8 hx o.1 (Ne.symm Lw) gw rfl;apply this;rw[e];rfl
 rw[gT] at*;exact⟨gm,bB,gw,bt,D,rfl,iJ,n1,vs,az,au,n2,n3,o,hu,hx⟩
theorem Yc{lo g:Nat}{w:World}{m i e c:Value}{k:AO}(h:Il lo w g m i e c k)(au:lo<=w.heap.size)(hK:DQ k)(N:Ac)(he:0<=N.e)(K:N.e<3)(dS:N.nm.size<=maxLen):
 Calls prog 164 #[N.on g] w (Fs lo g w (JO k N)):=by
 obtain⟨call,bs⟩:=Dd w (.cells (N.onCells g) 126);obtain⟨hm,R,hc⟩:=Ar hK;have C1:=AA (λW (_:Below w.heap.size w W)=>Fv N.nm W dS);have C2:=AA (λW (hW:Below w.heap.size w W)=>ZV (h.below hW) N N.nm he (by rw[hK.zN];exact K));have P:JO k N=if BV N.nm=false then(k,0,3) else if Fl k N.e N.nm=false then(k,0,1) else if Am k.zZ<0 then(k,0,4) else({k with zZ:=k.zZ.set (Am k.zZ).toNat ⟨1,N.nm,0⟩,mem:=k.mem.set (Am k.zZ).toNat [0,0,0,0]},Am k.zZ,0):=rfl
 obtain⟨k1,e1,a1,b1,c1,nm⟩:=N;simp only[Ac.on,Ac.onCells] at call bs C1 C2 P dS ⊢;obtain⟨y0,y1,y2,y3,y4,y5,y6⟩:=KX (c:=⟨k1,e1,a1,b1,c1,nm⟩) call;have hl:=AW call;have HN:=AA call;have HP:=AA P;have Hm:=AA hm;have Hi:=AA R;have Z:=AA hK;have HI:=AA h;clear P hm R hc hK h call y0 y1 y2 y3 y4 y5;go_in;go_wp2_with fail;generalize hW0:w.alloc _=W0 at*;clear hW0;cases e5:BV nm
 .have T:=AA e5
  have Hb:=AA (show JO k ⟨k1,e1,a1,b1,c1,nm⟩=(k,0,3) by rw[HP.out,e5];rfl);clear e5 y6;refine(C1.out _ bs).mono ?_;rintro r w1 ⟨rfl,dj⟩;rw[T.out];have bD:=bs.trans (dj.mono bs.size);go_wp2_with fail;go_ret2;exact Fs.bad Hb.out (by decide) (bD.mono au)
 .have T:=AA e5
  have cn:=AA (show JO k ⟨k1,e1,a1,b1,c1,nm⟩=_ by rw[HP.out,e5,if_neg (by decide)]);clear e5 y6;refine(C1.out _ bs).mono ?_;rintro r w1 ⟨rfl,f8⟩;rw[T.out];have bD:=bs.trans (f8.mono bs.size);obtain⟨y0,y1,y2,y3,y4,y5,y6⟩:=KX (c:=⟨k1,e1,a1,b1,c1,nm⟩) (AB HN.out f8);go_wp2_with fail;clear y0 y1 y2 y3 y4 y5 y6;cases e6:Fl k e1 nm
  .have T6:=AA e6
   have Hb:=AA (show JO k ⟨k1,e1,a1,b1,c1,nm⟩=(k,0,1) by rw[cn.out,e6];rfl);clear e6;refine(C2.out _ bD).mono ?_;rintro r w2 ⟨rfl,ao⟩;rw[T6.out];replace bD:=bD.trans (ao.mono bD.size);go_wp2_with fail;go_ret2;exact Fs.bad Hb.out (by decide) (bD.mono au)
  .have T6:=AA e6
   have fb:=AA (show JO k ⟨k1,e1,a1,b1,c1,nm⟩=_ by rw[cn.out,e6,if_neg (by decide)]);clear e6;refine(C2.out _ bD).mono ?_;rintro r W2 ⟨rfl,ao⟩;rw[T6.out];replace f8:=f8.trans (ao.mono f8.size);replace bD:=bD.trans (ao.mono bD.size);have Y:=HI.out.below bD;have jQ:=AA Y;have jv:=yB au bD.size;obtain⟨y0,y1,y2,y3,y4,y5,y6⟩:=KX (c:=⟨k1,e1,a1,b1,c1,nm⟩) (AB HN.out f8);have eJ:=xW hl f8.size;have dz:=AW Y.1;have jC:g≠w.heap.size:=Nat.ne_of_lt (AW HI.out.1);obtain⟨gi,cl,rfl,_,_,_,_,_,jE⟩:=Y.zS' (f:=0) (by have:=(A1.1 Hi.out).1;omega);have x1:=Y.cells.2.1;have RI:Bb W2 (.slice (some ⟨gi,0,none⟩) k.zZ.length cl) k.zZ:=Y.2.2.2.1.rd;clear Y ao y1 y2 y3 y4 y5 jE;go_wp2_with fail
   by_cases e7:Am k.zZ<0
   .have Hb:=AA (show JO k ⟨k1,e1,a1,b1,c1,nm⟩=(k,0,4) by rw[fb.out,if_pos e7])
    have C3:=AA (λW (hW:Below W2.heap.size W2 W)=>Ph _ k.zZ nm W (BK.below RI hW) (Cg Hi.out) dS Hi.out T.out e7);clear e7 RI;refine Aa 15 49 [.p w.heap.size 0,.p g 0,.p g 0,.p g 1,.s gi k.zZ.length cl,.p w.heap.size 1,.p w.heap.size 6,.t nm,.v (.tuple #[.slice none 0 0,.int .i64 0,.bool false]),.v (.tuple #[.slice none 0 0,.int .i64 0,.bool false]),.v (.slice none 0 0),.i 0,.b false,.v (.slice none 0 0),.i 0] (λ_ _ _=>True) ?_ ?_
    .intro i R o L a wx E z A hn Z
     match i,R with
     |0,_|2,_|3,_|5,_|6,_|9,_|10,_|11,_|12,_|13,_|14,_=>exact sP L Z E z
     |1,_=>exact sL L Z E z (hl:=KS (bc A eJ y0))
     |4,_=>exact sL L Z E z (hl:=GY (bc A dz x1))
     |7,_=>exact sL L Z E z (hl:=ZP (bc A eJ y6))
     |8,_=>exact sD L Z E z (C3.out _ A)
     |_+15,hq=>omega
    .intro D wx hR A
     have b8:(D 12)=.bool false:=BS hR 12;have bY:(D 13)=.slice none 0 0:=BS hR 13;have fc:(D 14)=.int .i64 0:=BS hR 14;clear hR;simp only[Ak,Ah,yC,yy,yz,yx,b8,bY,fc];simp;clear b8 bY fc;replace bD:=bD.trans (A.mono bD.size);clear A y0 y6 x1;go_wp2_with fail;go_ret2;exact Fs.bad Hb.out (by decide) (bD.mono au)
   .obtain⟨f1,f2,f3⟩:=Fg e7
    obtain⟨f,hf⟩:∃f:Nat,Am k.zZ=(f:Int):=⟨(Am k.zZ).toNat,by omega⟩
    have Hb:=AA (show JO k ⟨k1,e1,a1,b1,c1,nm⟩=({k with zZ:=k.zZ.set f ⟨1,nm,0⟩,mem:=k.mem.set f [0,0,0,0]},(f:Int),0) by rw[fb.out,if_neg e7,hf];rfl);have it:=λW (hW:Below W2.heap.size W2 W)=>Pi _ k.zZ nm W (BK.below RI hW) (Cg Hi.out) dS Hi.out T.out f3
    unfold Qs at it;rw[hf] at it f1;simp only[yd] at it f1;have C3:=AA it;have cd:f<12:=by have:=(A1.1 Hi.out).1;omega
    clear e7 RI it f2 f3 hf f1;refine BR 15 49 [.p w.heap.size 0,.p g 0,.p g 0,.p g 1,.s gi k.zZ.length cl,.p w.heap.size 1,.p w.heap.size 6,.t nm,.z,.z,.z,.i ((f:Int)),.b true,.z,.i ((f:Int))] (λix vv ww=>match ix with
     |8|9=>∃v',vv=.tuple #[v',.int .i64 f,.bool true]/\AQ W2.heap.size 92 3 A3 ww v' (k.zZ.set f ⟨1,nm,0⟩)
     |10|13=>AQ W2.heap.size 92 3 A3 ww vv (k.zZ.set f ⟨1,nm,0⟩)
     |_=>True) ?_ ?_ ?_
    .intro i R o L a wx E z A hn Z
     match i,R with
     |0,_|2,_|3,_|5,_|6,_|14,_=>exact sP L Z E z
     |1,_=>exact sL L Z E z (hl:=KS (bc A eJ y0))
     |4,_=>exact sL L Z E z (hl:=GY (bc A dz x1))
     |7,_=>exact sL L Z E z (hl:=ZP (bc A eJ y6))
     |8,_=>exact sC L Z E z (C3.out _ A) (by rintro e w_ ⟨v',rfl,hO,ao⟩;exact⟨_,rfl,⟨_,rfl,hO.lower A.size⟩,ao⟩)
     |9,_=>
      obtain rfl:=yF L;have d8:∃v',(a.tmps[29]?.getD undef)=.tuple #[v',.int .i64 f,.bool true]/\AQ W2.heap.size 92 3 A3 wx v' (k.zZ.set f ⟨1,nm,0⟩):=Ba z 8
      clear z E;obtain⟨v',d8,hO⟩:=d8;refine yE ?_;go_simp;exact Z.out _ _ ⟨_,rfl,hO⟩ (yD _ _)
     |10,_=>
      obtain rfl:=yF L;have d9:∃v',(a.tmps[20]?.getD undef)=.tuple #[v',.int .i64 f,.bool true]/\AQ W2.heap.size 92 3 A3 wx v' (k.zZ.set f ⟨1,nm,0⟩):=Ba z 9
      clear z E;obtain⟨v',d9,hO⟩:=d9;refine yE ?_;go_simp;exact Z.out _ _ hO (yD _ _)
     |11,_=>
      obtain rfl:=yF L;have d9:∃v',(a.tmps[20]?.getD undef)=.tuple #[v',.int .i64 f,.bool true]/\AQ W2.heap.size 92 3 A3 wx v' (k.zZ.set f ⟨1,nm,0⟩):=Ba z 9
      clear z E;obtain⟨v',d9,hO⟩:=d9;refine yE ?_;go_simp;exact Z.out _ _ rfl (yD _ _)
     |12,_=>
      obtain rfl:=yF L;have d9:∃v',(a.tmps[20]?.getD undef)=.tuple #[v',.int .i64 f,.bool true]/\AQ W2.heap.size 92 3 A3 wx v' (k.zZ.set f ⟨1,nm,0⟩):=Ba z 9
      clear z E;obtain⟨v',d9,hO⟩:=d9;refine yE ?_;go_simp;exact Z.out _ _ rfl (yD _ _)
     |13,_=>obtain rfl:=yF L;have j2:AQ W2.heap.size 92 3 A3 wx (a.tmps[30]?.getD undef) (k.zZ.set f ⟨1,nm,0⟩):=Ba z 10;clear z E;refine yE ?_;go_simp;exact Z.out _ _ j2 (yD _ _)
     |_+15,hq=>omega
    .intro i R vv wz cq bb hz
     match i,R with
     |8,_|9,_=>exact(by obtain⟨v',h0,J⟩:=hz;exact⟨v',h0,AQ.below J bb⟩)
     |10,_|13,_=>exact(AQ.below hz bb)
     |0,_|1,_|2,_|3,_|4,_|5,_|6,_|7,_|11,_|12,_|14,_=>exact hz
     |_+15,hq=>omega
    .intro D wx hR A
     have b8:(D 12)=.bool true:=BS hR 12;have bY:AQ W2.heap.size 92 3 A3 wx (D 13) (k.zZ.set f ⟨1,nm,0⟩):=BS hR 13;have fc:(D 14)=.int .i64 f:=BS hR 14;clear hR;simp only[Ak,Ah,yC,yy,yz,yx,b8,fc];simp;generalize D 13=z13 at bY ⊢;clear b8 fc;have h5:=jQ.out.zZ jv A bY;have f7:=((bD.trans (A.mono bD.size)).mono au).setCell (p:=⟨g,1,none⟩) jQ.out.2.1 z13;replace y0:=(A.cell (p:=⟨w.heap.size,0,none⟩) eJ).trans y0;replace x1:=(A.cell (p:=⟨g,1,none⟩) dz).trans x1;have jW:=jQ.out.below A;have x0:=jW.cells.1;have lL:=AK jW.1;obtain⟨gm,bB,gw,bt,D,rfl,iJ,n1,vs,f0,kx,n2,n3,o1,hu,hx⟩:=h5.zd (f:=f) Hm.out cd;have db:=(Ai.1 Hm.out).1;have h4:=(A4.1 ((Ai.1 Hm.out).2 f cd)).1;have D2:=(GL (o:=f) (Aq wx g 1 z13) (by simpa using iJ) (λe=>n1 (yF e).symm)).symm.trans vs;obtain⟨w6,f6,kK,jD⟩:=Wr hx h4;have h6:=AA (h5.row o1 (by rw[db];exact cd) hu kK jD);have lV:=AA (AM f7 jD kx (yB au f7.size));have kE:(f:Int)<12:=by omega
     obtain⟨q1,q2,rfl,_,_⟩:=bY.rd.shape;simp only[xP] at f6;have lI:w.heap.size≠g:=λe=>jC e.symm
     clear h5 f7 jW vs hx o1 hu kK jD h4 db iJ f0 kx n2 n3 bY A;go_wp2_with fail;go_ret2;exact⟨by rw[Hb.out];rfl,λ_=>⟨_,_,_,_,by rw[Hb.out];exact h6.out⟩,lV.out⟩
theorem Gc(h:BW ss=true):Db ss:=by
 intro s V;obtain⟨j,hj,rfl⟩:=wS V;unfold BW at h;simp only[yu,xZ] at h;have J:=h.1 j (xS.2 hj);unfold Cv at J;simp only[yu] at J;have Y:=KK J.1;have e:Di ss j=ss[j]:=by simp[Di,hj]
 rw[e] at Y;exact yB Y (by decide)
theorem UI(v:Value)(m:List (List Int))(r:Int)(w:World)(h:Bk w v m)(bw:Bu m=true)(hr:r<12):Calls prog 101 #[v,.int .i64 r] w (Mg m r w):=by
 by_cases h0:r<0
 .exact Oy v m r w h h0
 .obtain⟨n,rfl⟩:∃n:Nat,r=(n:Int):=⟨r.toNat,by omega⟩
  exact Ox v m n w h bw (by omega)
theorem zA{k:AO}(h:DQ k){j:Nat}(hj:j<3):(AJ k.zX j).root<12:=by have:=h.roots j hj;unfold Ab at this;omega
theorem Ap{w w1:World}{g:Nat}{o:Obj}(h:w.heap[b]?=some o)(O:w.grownBy w1 (some g))(bA:g≠b):w1.heap[b]?=some o:=
 (O.block b (AW h) (λe=>bA (yF e).symm)).trans h
theorem Br{w:World}{g T T':Nat}{c c':Array Value}(h:w.heap[b]?=some (.cells c T (0,0)))(h':w.heap[g]?=some (.cells c' T' (0,0)))(hT:T≠T':=by decide):b≠g:=λe=>by subst e;rw[h] at h';simp at h';exact hT h'.2
def Yl(g:Nat)(w W:World):Prop:=∀b cu,b≠g->w.heap[b]?=some (.cells cu 28 (0,0))->W.heap[b]?=w.heap[b]?
theorem Yl.below{g:Nat}{w W W':World}(h:Yl g w W)(X:Below W.heap.size W W'):Yl g w W':=λb cu O hB=>(X.block b (AW ((h b cu O hB).trans hB))).trans (h b cu O hB)
theorem Yl.row{g q T:Nat}{w W W':World}{cu:Array Value}(h:Yl g w W)(O:W.grownBy W' (some q))(hq:W.heap[q]?=some (.cells cu T (0,0)))(hT:T≠28):Yl g w W':=λb j3 hY hB=>
 have e:=(h b j3 hY hB).trans hB
 (Ap e O (Br hq e hT)).trans hB.symm
theorem Yl.own{g:Nat}{w W W':World}(h:Yl g w W)(O:W.grownBy W' (some g)):Yl g w W':=λb j3 hY hB=>
 have e:=(h b j3 hY hB).trans hB
 (Ap e O (λh=>hY h.symm)).trans hB.symm
structure Eb(T:Nat)(cs:Array Value)(R:List Nat)(lo g b0:Nat)(w W:World)(m i e c:Value)(k:AO):Prop where
 yI:Il lo W g m i e c k
 yK:W.heap[b0]?=some (.cells cs T (0,0))
 bel:Below lo w W
 lo:lo<=W.heap.size
 ty:28≠T/\92≠T/\74≠T/\3≠T/\29≠T
 kf:Yl g w W
 rs:∀b∈R,g≠b/\W.heap[b]?=some (.cells #[.slice none 0 0,.slice none 0 0,.slice none 0 0,.slice none 0 0] 28 (0,0))
abbrev CS(lo g b0:Nat)(N:Ac)(w W:World)(m i e c:Value)(k:AO):Prop:=Eb 126 (N.onCells g) [] lo g b0 w W m i e c k
theorem Eb.start{lo g:Nat}{w:World}{m i e c:Value}{k:AO}(h:Il lo w g m i e c k)(au:lo<=w.heap.size)(N:Ac):CS lo g w.heap.size N w (w.alloc (.cells (N.onCells g) 126)) m i e c k:=
 ⟨h.below (AI _ _),yi _ _,(AI _ _).mono au,yB au (AI _ _).size,by decide,Yl.below (λ_ _ _ _=>rfl) (AI _ _),nofun⟩
theorem Eb.ys{lo g b0:Nat}{w W:World}{m i e c:Value}{k:AO}(h:CS lo g b0 N w W m i e c k):W.cell? ⟨b0,0,none⟩=some (.pointer (some ⟨g,0,none⟩))/\W.cell? ⟨b0,1,none⟩=some (.int .i64 N.k)/\W.cell? ⟨b0,2,none⟩=some (.int .i64 N.e)/\W.cell? ⟨b0,3,none⟩=some (.int .i64 N.a)/\W.cell? ⟨b0,4,none⟩=some (.int .i64 N.b)/\W.cell? ⟨b0,5,none⟩=some (.int .i64 N.c)/\W.cell? ⟨b0,6,none⟩=some (.string N.nm):=KX h.yK
section
variable {T:Nat} {cs:Array Value} {hi:List Nat} {lo g b0:Nat} {w W W':World} {m i e c:Value} {k:AO}
theorem Eb.below(h:Eb T cs hi lo g b0 w W m i e c k)(X:Below W.heap.size W W'):Eb T cs hi lo g b0 w W' m i e c k:=
 ⟨h.yI.below X,AB h.yK X,h.bel.trans (X.mono h.lo),yB h.lo X.size,h.ty,h.kf.below X,λb hr=>⟨(h.rs b hr).1,AB (h.rs b hr).2 X⟩⟩
theorem Eb.xs(h:Eb T cs hi lo g b0 w W m i e c k):W.cell? ⟨g,0,none⟩=some m/\W.cell? ⟨g,1,none⟩=some i/\W.cell? ⟨g,2,none⟩=some e/\W.cell? ⟨g,3,none⟩=some c:=h.yI.cells
theorem Eb.lts(h:Eb T cs hi lo g b0 w W m i e c k):b0<W.heap.size/\g<W.heap.size/\g≠b0/\b0≠g:=⟨AW h.yK,AW h.yI.1,Br h.yI.1 h.yK h.ty.1,(Br h.yI.1 h.yK h.ty.1).symm⟩
theorem Eb.ze(h:Eb T cs hi lo g b0 w W m i e c k){lo' T' sz n:Nat}{v:Value}{xs:List Value}(o:W.ownsRow lo' T' sz v n xs){b:Nat}(X:v.ownBlock=some b)(J:T'≠28)(Y:T'≠T):(b≠g/\g≠b)/\b≠b0/\b0≠b:=by obtain⟨du,hc⟩:=A6 o b X;have a1:=Br hc h.yI.1 J;have a2:=Br hc h.yK Y;exact⟨⟨a1,a1.symm⟩,a2,a2.symm⟩
theorem Eb.zZ(h:Eb T cs hi lo g b0 w W m i e c k)(hl:0<k.zZ.length):∃gi ad,i=.slice (some ⟨gi,0,none⟩) k.zZ.length ad/\gi<W.heap.size/\lo<=gi/\((gi≠g/\g≠gi)/\gi≠b0/\b0≠gi)/\∀q,W.frozen? ⟨gi,q,none⟩=false:=by obtain⟨gi,ad,e1,J,Y,_,_,_,hz⟩:=h.yI.zS' hl;refine⟨gi,ad,e1,J,Y,h.ze h.yI.2.2.2.1 (by rw[e1];rfl) (by decide) h.ty.2.1,hz⟩
theorem Eb.zX(h:Eb T cs hi lo g b0 w W m i e c k)(hl:0<k.zX.length):∃ge ad,e=.slice (some ⟨ge,0,none⟩) k.zX.length ad/\ge<W.heap.size/\((ge≠g/\g≠ge)/\ge≠b0/\b0≠ge)/\∀q,W.frozen? ⟨ge,q,none⟩=false:=by obtain⟨ge,ad,_,_,e1,J,_,_,_,hz⟩:=h.yI.env hl;obtain⟨ps,o⟩:=h.yI.2.2.2.2.1;exact⟨ge,ad,e1,J,h.ze o.1 (by rw[e1];rfl) (by decide) h.ty.2.2.1,hz⟩
theorem Eb.info{ad:Nat}(h:Eb T cs hi lo g b0 w W m (.slice (some ⟨gi,0,none⟩) n ad) e c k)(K:n=k.zZ.length){f:Nat}(hf:f<k.zZ.length)(r:Int):
 Eb T cs hi lo g b0 w (W.setCell ⟨gi,f*3+2,none⟩ (.int .i64 ((zS k.zZ f).r+r))) m (.slice (some ⟨gi,0,none⟩) n ad) e c {k with zZ:=At k.zZ f (Jk r)}:=by
 have T:=h.yI.info K (Cq hf) (j:=2) (by decide) (y:=Jk r (zS k.zZ f)) (u:=.int .i64 ((zS k.zZ f).r+r)) rfl;rw[<-Kw] at T;obtain⟨c2,Y⟩:=A6 h.yI.2.2.2.1 gi rfl;exact⟨T.1,Ap h.yK T.2.1 (Br Y h.yK h.ty.2.1),AM h.bel T.2.1 T.2.2 h.lo,yB h.lo T.2.1.size,h.ty,h.kf.row T.2.1 Y (by decide),λb hr=>⟨(h.rs b hr).1,Ap (h.rs b hr).2 T.2.1 (Br Y (h.rs b hr).2 (by decide))⟩⟩
theorem Eb.root{ad:Nat}(h:Eb T cs hi lo g b0 w W m i (.slice (some ⟨ge,0,none⟩) n ad) c k)(K:n=k.zX.length){j:Nat}(hj:j<k.zX.length)(r:Int):
 Eb T cs hi lo g b0 w (W.setCell ⟨ge,j*2+1,none⟩ (.int .i64 r)) m i (.slice (some ⟨ge,0,none⟩) n ad) c {k with zX:=At k.zX j (D5 r)}:=by
 have T:=h.yI.root K hj r;obtain⟨ps,o⟩:=h.yI.2.2.2.2.1;obtain⟨c2,Y⟩:=A6 o.1 ge rfl;exact⟨T.1,Ap h.yK T.2.1 (Br Y h.yK h.ty.2.2.1),AM h.bel T.2.1 T.2.2 h.lo,yB h.lo T.2.1.size,h.ty,h.kf.row T.2.1 Y (by decide),λb hr=>⟨(h.rs b hr).1,Ap (h.rs b hr).2 T.2.1 (Br Y (h.rs b hr).2 (by decide))⟩⟩
theorem Eb.zW(h:Eb T cs hi lo g b0 w W m i e c k)(X:Below W.heap.size W W'){c':Value}{xs:List Ad}(Y:AQ W.heap.size 112 4 AU W' c' xs):Eb T cs hi lo g b0 w (W'.setCell ⟨g,3,none⟩ c') m i e c' {k with zW:=xs}:=by
 have h':=h.below X;exact⟨h.yI.zW h.lo X Y,Ap h'.yK (Aq W' g 3 c') h.lts.2.2.1,h'.bel.setCell h.yI.2.1 _,by simpa using h'.lo,h.ty,h'.kf.own (Aq W' g 3 c'),λb hr=>⟨(h.rs b hr).1,Ap (h'.rs b hr).2 (Aq W' g 3 _) (h.rs b hr).1⟩⟩
theorem Eb.zm(h:Eb T cs hi lo g b0 w W m i e c k)(X:Below W.heap.size W W'){i':Value}{xs:List AV}(Y:AQ W.heap.size 92 3 A3 W' i' xs):Eb T cs hi lo g b0 w (W'.setCell ⟨g,1,none⟩ i') m i' e c {k with zZ:=xs}:=by
 have h':=h.below X;exact⟨h.yI.zZ h.lo X Y,Ap h'.yK (Aq W' g 1 i') h.lts.2.2.1,h'.bel.setCell h.yI.2.1 _,by simpa using h'.lo,h.ty,h'.kf.own (Aq W' g 1 i'),λb hr=>⟨(h.rs b hr).1,Ap (h'.rs b hr).2 (Aq W' g 1 _) (h.rs b hr).1⟩⟩
theorem Eb.fzi{ad:Nat}(h:Eb T cs hi lo g b0 w W m (.slice (some ⟨gi,0,none⟩) n ad) e c k)(q:Nat):W.frozen? ⟨gi,q,none⟩=false:=by obtain⟨du,hc⟩:=A6 h.yI.2.2.2.1 gi rfl;exact AK hc q
theorem Eb.fze{ad:Nat}(h:Eb T cs hi lo g b0 w W m i (.slice (some ⟨ge,0,none⟩) n ad) c k)(q:Nat):W.frozen? ⟨ge,q,none⟩=false:=by obtain⟨ps,o⟩:=h.yI.2.2.2.2.1;obtain⟨du,hc⟩:=A6 o.1 ge rfl;exact AK hc q
theorem Eb.yU{ad:Nat}(h:Eb T cs hi lo g b0 w W m i (.slice (some ⟨ge,0,none⟩) n ad) c k):ge<W.heap.size:=by obtain⟨ps,o⟩:=h.yI.2.2.2.2.1;exact(yk o.1 ge rfl).2
theorem Eb.zl{ad:Nat}(h:Eb T cs hi lo g b0 w W m (.slice (some ⟨gi,0,none⟩) n ad) e c k):gi<W.heap.size:=(yk h.yI.2.2.2.1 gi rfl).2
theorem Eb.env{ad:Nat}(h:Eb T cs hi lo g b0 w W m i (.slice (some ⟨ge,0,none⟩) n ad) c k){j:Nat}(hj:j<k.zX.length):
 ∃ua uc,W.cell? ⟨ge,j*2,none⟩=some (.slice ua (AJ k.zX j).zT.length uc)/\W.cell? ⟨ge,j*2+1,none⟩=some (.int .i64 (AJ k.zX j).root)/\BY W (.slice ua (AJ k.zX j).zT.length uc) (AJ k.zX j).zT:=by
 obtain⟨mS,ij,ua,uc,e1,_,d0,d1,hi,_⟩:=h.yI.env hj;cases e1;exact⟨ua,uc,d0,d1,hi⟩
theorem Eb.zS{ad:Nat}(h:Eb T cs hi lo g b0 w W m (.slice (some ⟨gi,0,none⟩) n ad) e c k){f:Nat}(hf:f<k.zZ.length):
 W.cell? ⟨gi,f*3,none⟩=some (.int .i64 (zS k.zZ f).k)/\W.cell? ⟨gi,f*3+1,none⟩=some (.string (zS k.zZ f).g)/\W.cell? ⟨gi,f*3+2,none⟩=some (.int .i64 (zS k.zZ f).r):=by
 obtain⟨mP,ij,e1,_,_,d0,d1,d2,_⟩:=h.yI.zS' hf;cases e1;exact⟨d0,d1,d2⟩
theorem Eb.mems(h:Eb T cs hi lo g b0 w W m i e c k)(bw:Bu k.mem=true):∃gm ad,m=.slice (some ⟨gm,0,none⟩) 12 ad/\gm<W.heap.size/\(gm≠g/\g≠gm)/\gm≠b0/\b0≠gm:=by obtain⟨gm,ad,_,_,_,e1,J,Y,_⟩:=h.yI.zd bw (f:=0) (by omega);obtain⟨D,o⟩:=h.yI.2.2.1;exact⟨gm,ad,e1,J,h.ze o.1 (by rw[e1];rfl) (by decide) h.ty.2.2.2.2⟩
theorem Eb.mrow{gm ad:Nat}(h:Eb T cs hi lo g b0 w W (.slice (some ⟨gm,0,none⟩) n ad) i e c k)(bw:Bu k.mem=true){f:Nat}(hf:f<12):
 ∃gw bt,W.cell? ⟨gm,f,none⟩=some (.slice (some ⟨gw,0,none⟩) 4 bt)/\gw<W.heap.size/\4<=bt/\(∀j,j<4->W.cell? ⟨gw,j,none⟩=some (.int .i64 (As k.mem f j)))/\(∀q,W.frozen? ⟨gw,q,none⟩=false)/\((gw≠g/\g≠gw)/\gw≠b0/\b0≠gw)/\(gw≠gm/\gm≠gw)/\(∀b cu T,W.heap[b]?=some (.cells cu T (0,0))->T≠3->gw≠b)/\
  ∀j v,j<4->Eb T cs hi lo g b0 w (W.setCell ⟨gw,j,none⟩ (.int .i64 v)) (.slice (some ⟨gm,0,none⟩) n ad) i e c {k with mem:=Bz k.mem f j v}:=by
 obtain⟨mO,ij,gw,bt,D,e1,_,_,hc,hl,au,J,Y,o,hu,hx⟩:=h.yI.zd bw hf;cases e1;have h4:=(A4.1 ((Ai.1 bw).2 f hf)).1;have gR:W.ownsRow lo 3 1 (.slice (some ⟨gw,0,none⟩) 4 bt) 4 ((AG k.mem f).map (xY .i64)):=by have:=hx;unfold AF at this;rwa [h4] at this
 have lS:4<=bt:=by obtain⟨_,_,hv,di,_⟩:=Ax.open (AF.rd hx);simp only[xH] at hv;obtain⟨_,_,rfl⟩:=hv;omega
 obtain⟨du,b6⟩:=A6 gR gw rfl;refine⟨gw,bt,hc,hl,lS,λj hj=>?_,λq=>xJ gR q,h.ze gR rfl (by decide) h.ty.2.2.2.1,⟨Y,Y.symm⟩,λb cu T X hT=>Br b6 X (Ne.symm hT),λj v hj=>?_⟩
 .have:=xB gR j hj
  rw[this,xm];unfold As;rw[A2 (d:=0) (by omega)];rfl
 .have S:=wJ gR j (.int .i64 v)
  have hO:AF lo (W.setCell ⟨gw,j,none⟩ (.int .i64 v)) (.slice (some ⟨gw,0,none⟩) 4 bt) ((AG k.mem f).set j v):=by unfold AF;rw[xP,h4,vm];exact S.1
  have T:=h.yI.row o (by rw[(Ai.1 bw).1];exact hf) hu hO S.2;rw[<-Nd] at T;exact⟨T,Ap h.yK S.2 (Br b6 h.yK h.ty.2.2.2.1),AM h.bel S.2 au h.lo,yB h.lo S.2.size,h.ty,h.kf.row S.2 b6 (by decide),λb hr=>⟨(h.rs b hr).1,Ap (h.rs b hr).2 S.2 (Br b6 (h.rs b hr).2 (by decide))⟩⟩
end
def TN(W:World)(lo g b0:Nat)(N:Ac)(w:World)(m i e:Value)(k:AO)(b:Bool)(ww:World):Prop:=match b with
 |false=>Below W.heap.size W ww
 |true=>∃c',CS lo g b0 N w ww m i e c' k
theorem TN.grow{W:World}{lo g b0:Nat}{w:World}{m i e:Value}{k:AO}{b:Bool}{ww cq:World}(h:TN W lo g b0 N w m i e k b ww)(X:Below ww.heap.size ww cq):TN W lo g b0 N w m i e k b cq:=by
 cases b
 .exact Below.trans h (X.mono h.size)
 .obtain⟨c',h⟩:=h
  exact⟨c',h.below X⟩
theorem KZ{α:Type}{lo e sz:Nat}{cs:α->List Value}{w:World}{xs:List α}{g j:Nat}(h:AQ lo e sz cs w v xs)(O:g<lo):AQ lo e sz cs (w.setCell ⟨g,j,none⟩ u) v xs:=
 AQ.grown h (Aq w g j u) (by
  rcases hv:v.ownBlock with _|b
  .exact .inl rfl
  .refine .inr λe=>?_
   cases e;have:=(yk h g hv).1;omega)
theorem EB{ho:Nat->Bool}{i j:Nat}(h:i≠j):GU ho i j=ho j:=if_neg (λe=>h e.symm)
theorem FN{ho:Nat->Bool}{i:Nat}:GU ho i i=true:=if_pos rfl
theorem Eb.callEnv{lo g b0:Nat}{w W:World}{m i c:Value}{k:AO}{ad en:Nat}(h:CS lo g b0 N w W m i (.slice (some ⟨ge,0,none⟩) n ad) c k)(he:N.e=(en:Int))(K:en<n)(W':World)(X:Below W.heap.size W W'):
 Calls prog 205 #[N.on g] W' λe w'=>e=.returned (.pointer (some ⟨ge,en*2,none⟩))/\Below W'.heap.size W' w':=XK g ge n ad en N W' (h.below X).xs.2.2.1 he K
def Ih(fs:List Nat):List Nat:=(yC 12).filter λf=>fs.contains f
theorem Lt:f∈Ih fs↔f<12/\f∈fs:=by simp[Ih]
theorem Ls:(Ih fs).length<=12:=by
 have:=xy (λf=>fs.contains f) (yC 12);simpa[Ih] using this
def Ev(m:List (List Int))(root:Nat):List Nat:=Ih (named (AG m root))
def JR(m:List (List Int))(root:Nat):List Nat:=Ih ((Ev m root).flatMap λt=>named (AG m t))
def Er(m:List (List Int))(root:Int):List Nat:=if root<0 then[] else Ih (root.toNat::Ev m root.toNat++JR m root.toNat)
theorem Iy{m:List (List Int)}{root:Nat}:f∈Ev m root↔f∈named (AG m root):=by
 unfold Ev;rw[Lt];exact⟨λh=>h.2,λh=>⟨FW h,h⟩⟩
theorem Uz{m:List (List Int)}{root:Nat}:f∈JR m root↔∃t,t∈named (AG m root)/\f∈named (AG m t):=by
 unfold JR;rw[Lt,wK];constructor
 .rintro⟨_,t,ht,hf⟩
  exact⟨t,Iy.1 ht,hf⟩
 .rintro⟨t,ht,hf⟩
  exact⟨FW hf,t,Iy.2 ht,hf⟩
theorem GP{m:List (List Int)}{root:Int}(h:root<12)(f:Nat):f∈Er m root↔f∈Be m root:=by
 rw[De];unfold Er
 by_cases h0:root<0
 .rw[if_pos h0]
  simp;omega
 .rw[if_neg h0,Lt,List.cons_append,xD,wC,Iy,Uz]
  constructor
  .rintro⟨_,h⟩
   exact⟨by omega,h⟩
  .rintro⟨_,h⟩
   refine⟨?_,h⟩
   rcases h with rfl|h|⟨t,_,h⟩
   .omega
   .exact FW h
   .exact FW h
def Qy(k:AO)(a e:Nat):Bool:=decide (Ab k e=(a:Int))||(decide (0<=Ab k e)&&(Ev k.mem (Ab k e).toNat).contains a)
def UY(k:AO)(a:Nat):List Nat:=(yC 3).filter (Qy k a)
theorem Yg{k:AO}(h:DQ k){a:Nat}(ha:Bh (Ay k a)=true):UY k a=Fo k a:=by
 unfold UY Fo;refine List.filter_congr λe he=>?_
 have lO:=xS.1 he;rw[wF,vG]
 show _↔a∈Be k.mem (Ab k e)
 rw[De];unfold Qy;simp only[xE,yu,decide_eq_true_eq,vG,Iy];constructor
 .rintro(J|⟨h0,J⟩)
  .exact⟨by omega,.inl (by omega)⟩
  .exact⟨h0,.inr (.inl J)⟩
 .rintro⟨h0,J|J|⟨t,ht,J⟩⟩
  .exact .inl (by omega)
  .exact .inr ⟨h0,J⟩
  .have:=(h.zi lO h0 ht J).2
   rw[this] at ha;cases ha
def Km(k:AO)(w:Int):List Nat:=if Bm w then BC w::(if(zS k.zZ (BC w)).k=2 then named (AG k.mem (BC w)) else[]) else[]
theorem Vv{k:AO}{w:Int}(h:Bm w=true->(zS k.zZ (BC w)).k≠3):Km k w=DY k w:=by
 unfold Km DY;cases O:Bm w
 .rfl
 .have:=h O
  simp only[if_true]
  congr 1
  by_cases Y:(zS k.zZ (BC w)).k=2
  .rw[if_pos Y,if_pos (by simp[Bh,Y])]
  .rw[if_neg Y,if_neg (by simp[Bh,Y,this])]
theorem Os{zZ:List AV}{n:Int}:At (Bn zZ fs n) f (Ef kind)=Bn (At zZ f (Ef kind)) fs n:=by
 induction fs generalizing zZ with
 |nil=>rfl
 |cons g fs ih=>
  show At (Bn (At zZ g (Jk n)) fs n) f (Ef kind)=Bn (At (At zZ f (Ef kind)) g (Jk n)) fs n
  rw[ih]
  congr 1
  simp only[Jc (d:=AV.zero),Jq]
  by_cases e:f=g
  .subst e
   rw[ug,ug]
   by_cases hl:f<zZ.length
   .rw[if_pos ⟨rfl,hl⟩,if_pos ⟨rfl,hl⟩]
    rfl
   .rw[tB (by omega),tB (by omega)]
  .rw[if_neg (λh=>e h.1),if_neg (λh=>e h.1.symm),List.set_comm _ _ (λh=>e h.symm)]
def OI(ss:List ByteArray)(s:ByteArray):Nat:=(ss.takeWhile λx=>!Ud x s).length
theorem Md{α:Type}(p:α->Bool)(l:List α):l.take (l.takeWhile p).length=l.takeWhile p/\l.drop (l.takeWhile p).length=l.dropWhile p:=by
 induction l with
 |nil=>simp
 |cons x l ih=>
  by_cases h:p x=true
  .simp[h,ih.1,ih.2]
  .simp[h]
theorem Yt{s:ByteArray}:TY ss s=ss.take (OI ss s)++s::ss.drop (OI ss s):=by unfold TY OI;rw[(Md _ _).1,(Md _ _).2]
theorem Tf{s:ByteArray}{k:Nat}(hk:k<=ss.length)(J:∀j,j<k->Rk (Di ss j) s=true)(Y:k<ss.length->Rk (Di ss k) s=false):OI ss s=k:=by
 unfold OI
 induction ss generalizing k with
 |nil=>simp at hk;subst hk;rfl
 |cons x ss ih=>
  cases k with
  |zero=>have:=Y (by simp);have e:Rk x s=false:=this;rw[sM,if_neg (by simp[P8,e])];rfl
  |succ k=>
   have e:Rk x s=true:=J 0 (by omega);rw[sM,if_pos (by simp[P8,e]),vT]
   congr 1
   refine ih (by simpa using hk) (λj hj=>?_) (λlC=>?_)
   .exact J (j+1) (by omega)
   .exact Y (by simpa using lC)
theorem ZR{a:ByteArray}:Rk a a=false:=by
 cases h:Rk a a
 .rfl
 .exact absurd (ME.1 h) (List.lt_irrefl _)
theorem aF{s:ByteArray}(h:BW ss=true):ss.any (λx=>decide (x=s))=(decide (OI ss s<ss.length)&&decide (Di ss (OI ss s)=s)):=by
 obtain⟨_,hp,_⟩:=Gb.1 h;have hd:=List.takeWhile_append_dropWhile (p:=λx=>!Ud x s) (l:=ss);rw[wF];simp only[yu,decide_eq_true_eq,List.any_eq_true];constructor
 .rintro⟨x,hx,rfl⟩
  obtain⟨j,hj,jy⟩:=wS hx;have hc:OI ss x=j:=by
   refine Tf (uA hj) (λi R=>?_) (λ_=>?_)
   .have:=List.pairwise_iff_getElem.1 hp i j (by omega) hj R
    unfold Di;rw[xO,yw (by omega)];simpa[jy] using this
   .unfold Di
    rw[xO,yw hj];simpa[jy] using ZR
  rw[hc];refine⟨hj,?_⟩;unfold Di;rw[xO,yw hj];simpa using jy
 .rintro⟨hl,hx⟩
  exact⟨_,yh (If hl),hx⟩
theorem QO{g:Nat}:Dm g 0=false:=by simp[Dm,Bm]
theorem So{f:Int}(h0:0<=f)(J:f<=11)(g:Nat):Dm g (IB f)=decide (g=f.toNat):=by
 obtain⟨x,y,_⟩:=Gz h0 J;unfold Dm;rw[x,y,Bool.true_and]
 by_cases e:f.toNat=g
 .simp[e]
 .have:¬g=f.toNat:=λh=>e h.symm
  simp[e,this]
theorem Du.zf(h:Du p){n i:Nat}(K:n<16)(hw:(AC p.zY n).w=1)(R:i<4):(BO p.low i).toNat≠(AC p.zY n).a.toNat:=λe=>by have J:=h.zK R;have Y:=h.zH K hw;rw[e] at J;omega
theorem Du.yT(h:Du p){n:Nat}(K:n<16)(hw:(AC p.zY n).w=1):(Ab p.zV 0).toNat≠(AC p.zY n).a.toNat:=λe=>by have J:=h.zA;have Y:=h.zH K hw;rw[e] at J;omega
theorem Du.yV(h:Du p){i:Nat}(R:i<4):(Ab p.zV 0).toNat≠(BO p.low i).toNat:=λe=>by have J:=h.zA;have Y:=h.zK R;rw[e] at J;omega
theorem aW{m:Nat}(J:n/4=m/4)(Y:n%4=m%4):n=m:=by omega
theorem Du.tab_ne(h:Du p){n m:Nat}(K:n<16)(hm:m<16)(bA:m≠n):¬((BO p.low (m/4)).toNat=(BO p.low (n/4)).toNat/\m%4=n%4):=λ⟨e1,e2⟩=>bA (aW (h.yS (by omega) (by omega) e1) e2)
theorem Du.rowl(h:Du p){f:Nat}(hf:f<12):(AG p.zV.mem f).length=4:=h.k.row hf
theorem Du.meml(h:Du p):p.zV.mem.length=12:=(Ai.1 h.k.mem).1
theorem FR{k:AO}(h:DQ k){kind a b c:Int}:DQ (Ae k (Ag kind a b c)).1:=M8 h ⟨Int.le_refl 0,show(0:Int)<=2 by decide⟩
theorem Zd(h:Du p){n:Nat}(K:n<16)(hw:(AC p.zY n).w=1){g:Nat}:zS (Ea p n).zV.zZ g=if g=(AC p.zY n).a.toNat then AV.zero else zS p.zV.zZ g:=by
 rw[OQ h K hw];have fk:=h.zH K hw;obtain⟨f1,f2,f3⟩:=h.zG K hw
 show zS ((A5 (A5 p.zV.zZ (As p.zV.mem (BO p.low (n/4)).toNat (n%4)) (-1)) 0 1).set _ AV.zero) g=_
 rw[Gu,Cl,Cl]
 by_cases e:g=(AC p.zY n).a.toNat
 .rw[if_pos ⟨e,by rw[h.k.len];exact fk.1⟩,if_pos e]
 .rw[if_neg (λh=>e h.1),if_neg e,Fa (by rw[Cl];exact h.k.len),Fa h.k.len]
  have e1:Dm g (As p.zV.mem (BO p.low (n/4)).toNat (n%4))=false:=by
   rcases h.zY n K with⟨a,_⟩|⟨_,b,c,_⟩|⟨a,_⟩
   .omega
   .have c':As p.zV.mem (BO p.low (n/4)).toNat (n%4)=IB (AC p.zY n).a:=c
    rw[c',So b.1 b.2];exact decide_eq_false e
   .omega
  rw[e1,QO];simp[EN]
theorem bo(h:Du p){n:Nat}(K:n<16)(hw:(AC p.zY n).w=1){f i:Nat}:As (Ea p n).zV.mem f i=if f=(BO p.low (n/4)).toNat/\i=n%4 then 0 else As p.zV.mem f i:=by rw[OQ h K hw];have hl:=h.zK (i:=n/4) (by omega);exact Qo (by rw[h.meml];exact hl.1) (by rw[h.rowl hl.1];omega)
theorem QT(h:Du p){n:Nat}(K:n<16)(hw:(AC p.zY n).w=1)(e:Nat):Ab (Ea p n).zV e=Ab p.zV e/\A7 (Ea p n).zV e=A7 p.zV e:=by rw[OQ h K hw];exact⟨rfl,rfl⟩
theorem LB{s:List (List Int)}{k j:Nat}(hk:k<s.length):AG (s.set k r) j=if j=k then r else AG s j:=by
 rw[OV]
 by_cases e:j=k
 .rw[if_pos ⟨e,hk⟩,if_pos e]
 .rw[if_neg (λh=>e h.1),if_neg e]
theorem aM{zZ:List AV}(hf:f<zZ.length)(h:(zS zZ f).k=0):0<=Am zZ:=by unfold Am;rw[if_pos (L7.2 ⟨_,DT (d:=AV.zero) hf,by unfold zS at h;simpa using h⟩)];omega
theorem UA(h:Du p){n:Nat}(K:n<16)(hw:(AC p.zY n).w=1):
 Du (Ea p n)/\(∀a,a<64->Dx (Ea p n) a=Dx p a)/\Aj (Ea p n).zY 1+1=Aj p.zY 1/\0<=Am (Ea p n).zV.zZ:=by
 have cC:=h.slot K (by omega);obtain⟨f1,f2,f3⟩:=h.zG K hw;have fk:=h.zH K hw;have er:=λg=>Zd h K hw (g:=g)
 have de:=λf i=>bo h K hw (f:=f) (i:=i)
 have iH:(Ea p n).zY=p.zY.set n ⟨2,Bd p.swap,false⟩:=rfl;have kn:(Ea p n).swap=p.swap.set (Bd p.swap).toNat (AG p.zV.mem (AC p.zY n).a.toNat):=rfl;have ju:(Ea p n).low=p.low:=rfl;have gY:∀m,AC (Ea p n).zY m=if m=n then⟨2,Bd p.swap,false⟩ else AC p.zY m:=λm=>by
  rw[iH,Dp]
  by_cases e:m=n
  .rw[if_pos ⟨e,by rw[h.zO];exact K⟩,if_pos e]
  .rw[if_neg (λh=>e h.1),if_neg e]
 have el:∀s,AG (Ea p n).swap s=if s=(Bd p.swap).toNat then AG p.zV.mem (AC p.zY n).a.toNat else AG p.swap s:=λs=>by rw[kn,LB (by rw[h.zD];exact cC.2.1)]
 have ds:Ds (AG p.zV.mem (AC p.zY n).a.toNat)=true:=(Ai.1 h.k.mem).2 _ fk.1;have fh:AG p.zV.mem (AC p.zY n).a.toNat≠[]:=λe=>by have:=(A4.1 ds).1;rw[e] at this;simp at this
 have f5:Aj (Ea p n).zY 1+1=Aj p.zY 1:=by
  have:=OH (l:=p.zY) (n:=n) (y:=⟨2,Bd p.swap,false⟩) (w:=1) (by rw[h.zO];exact K);rw[iH];have e1:EN (OK 1 (AC p.zY n))=1:=by simp[OK,hw,EN]
  have e2:EN (OK 1 ⟨2,Bd p.swap,false⟩)=0:=by simp[OK,EN]
  omega
 have b9:∀g,g≠(AC p.zY n).a.toNat->LI p.zV.zZ g->LI (Ea p n).zV.zZ g:=λg O hm=>by unfold LI;rw[er g,if_neg O];exact hm
 have jq:=(QT h K hw 0).1;have fZ:DQ (Ea p n).zV:=FR (FR h.k);refine⟨⟨fZ,?_,?_,?_,?_,?_,?_,?_,?_,?_,?_,?_,h.zR,h.zU,?_⟩,?_,f5,?_⟩
 .rw[kn,xP];exact h.zD
 .intro s V
  rw[el s]
  by_cases e:s=(Bd p.swap).toNat
  .rw[if_pos e];exact .inr ds
  .rw[if_neg e];exact h.zv s V
 .rw[(QT h K hw 0).2];exact h.may
 .intro e J Y
  rw[(QT h K hw e).2];exact h.alone e J Y
 .rw[jq];exact h.root
 .exact h.zt
 .rw[jq];exact b9 _ (h.yT K hw) h.yM
 .intro i R
  obtain⟨a,b,c,d⟩:=h.lows i R;refine⟨a,b,?_,b9 _ (h.zf K hw R) d⟩;rw[jq,de,if_neg (λe=>h.yV (i:=n/4) (by omega) e.1)];exact c
 .rw[iH,xP];exact h.zO
 .intro s V
  have J:=Ng (l:=p.zY) (n:=n) (s:=s) (y:=⟨2,Bd p.swap,false⟩) (by rw[h.zO];exact K);have e1:EN (Cz s (AC p.zY n))=0:=by simp[Cz,hw,EN]
  have Y:=h.slots s V;rw[el s,iH]
  by_cases e:s=(Bd p.swap).toNat
  .rw[if_pos e]
   have e2:EN (Cz s ⟨2,Bd p.swap,false⟩)=1:=by
    have:Bd p.swap=(s:Int):=by omega
    simp[Cz,this,EN]
   rw[if_neg (by rw[JS];exact fh)];rw[e,cC.2.2] at Y;rw[<-e] at Y;simp at Y;omega
  .rw[if_neg e]
   have e2:EN (Cz s ⟨2,Bd p.swap,false⟩)=0:=by
    have:¬Bd p.swap=(s:Int):=by omega
    simp[Cz,this,EN]
   omega
 .intro m hm
  have gU:Bt (Ea p n) m=if m=n then 0 else Bt p m:=by
   unfold Bt;rw[ju,de]
   by_cases e:m=n
   .subst e;rw[if_pos ⟨rfl,rfl⟩,if_pos rfl]
   .rw[if_neg (h.tab_ne K hm e),if_neg e]
  unfold Kl;rw[gY m,gU]
  by_cases e:m=n
  .simp only[if_pos e]
   refine .inr (.inr ⟨by simp,⟨cC.1,by have:=cC.2.1;show Bd p.swap<=15;omega⟩,?_,by simp,by simp⟩);rw[el,if_pos rfl];exact fh
  .simp only[if_neg e]
   rcases h.zY m hm with x|⟨x1,x2,x3,x4⟩|⟨x1,x2,x3,x4,x5⟩
   .exact .inl x
   .refine .inr (.inl ⟨x1,x2,x3,b9 _ (λe'=>e (h.yZ hm K x1 hw e')) x4⟩)
   .refine .inr (.inr ⟨x1,x2,?_,x4,x5⟩)
    rw[el,if_neg]
    .exact x3
    .intro e'
     rw[e'] at x3;exact x3 cC.2.2
 .have:=h.count
  show(Aj (Ea p n).zY 1:Int)<=p.zU
  omega
 .intro a ha
  unfold Dx;rw[gY (a/4)]
  by_cases e:a/4=n
  .subst e
   rw[if_pos rfl,if_neg (show ¬(2:Int)=1 by decide),if_pos (show(2:Int)=2 from rfl),if_pos hw];unfold As;rw[el,if_pos rfl]
  .rw[if_neg e]
   by_cases w1:(AC p.zY (a/4)).w=1
   .rw[if_pos w1,if_pos w1,de,if_neg (λe'=>h.zf (i:=n/4) (n:=a/4) (by omega) w1 (by omega) e'.1.symm)]
   .rw[if_neg w1,if_neg w1]
    by_cases w2:(AC p.zY (a/4)).w=2
    .rw[if_pos w2,if_pos w2]
     unfold As;rw[el,if_neg]
     rcases h.zY (a/4) (by omega) with⟨x,_⟩|⟨x,_⟩|⟨x1,x2,x3,x4,x5⟩
     .omega
     .omega
     .intro e'
      rw[e'] at x3;exact x3 cC.2.2
    .rw[if_neg w2,if_neg w2]
 .have be:(Ea p n).zV.zZ.length=12:=fZ.len
  exact aM (f:=(AC p.zY n).a.toNat) (by rw[be];exact fk.1) (by rw[er,if_pos rfl];rfl)
theorem row4(h:r.length=4):(((r.set 0 (r.getD 0 0)).set 1 (r.getD 1 0)).set 2 (r.getD 2 0)).set 3 (r.getD 3 0)=r:=by
 match r,h with
 | [a,b,c,d],_=>rfl
theorem set4{x:List Int}(hx:x.length=4)(h:r.length=4):(((x.set 0 (r.getD 0 0)).set 1 (r.getD 1 0)).set 2 (r.getD 2 0)).set 3 (r.getD 3 0)=r:=by
 match x,hx,r,h with
 | [_,_,_,_],_,[a,b,c,d],_=>rfl
theorem TA{m:List (List Int)}{i:Nat}{w:Int}:Bz m f i w=m.set f ((AG m f).set i w):=Nd
theorem OW{m:List (List Int)}{i:Nat}{w:Int}(hf:f<m.length):Bz (m.set f r) f i w=m.set f (r.set i w):=by rw[TA,LB hf,if_pos rfl,ug]
theorem Zh{k:AO}(hm:By (A7 k 0) gA=true){f:Int}(h0:0<=f)(J:f<=11)(hl:k.mem.length=12)(hk:Ay k f.toNat=1)(O:(zS k.zZ f.toNat).g=gA)(kq:(AG k.mem f.toNat).length=4){ws:List Int}(hw:Ds ws=true):
 VS k f ws= {k with mem:=k.mem.set f.toNat ws}:=by
 obtain⟨ln,lm⟩:=A4.1 hw;have ok:∀i,i<4->Dk (ws.getD i 0)=true:=λi R=>AZ.2 (lm _ (DT (by omega)))
 have hf:f.toNat<k.mem.length:=by rw[hl];omega
 have st:∀(k':AO)(i:Nat),k'.zZ=k.zZ->k'.zX=k.zX->i<4->(Ae k' (Ag 3 f (i:Nat) (ws.getD i 0))).1= {k' with mem:=Bz k'.mem f.toNat i (ws.getD i 0)}:=λk' i e1 e2 R=>by
  have fX:By (A7 k' 0) gA=true:=by unfold A7;rw[e2];exact hm
  rw[YQ fX h0 J (by unfold Ay;rw[e1];exact hk) (by rw[e1];exact O) R (ok i R)]
 have e:(yC 4)=[0,1,2,3]:=rfl;unfold VS;rw[e];simp only[yz,yx];rw[st k 0 rfl rfl (by omega)];rw[st {k with mem:=Bz k.mem f.toNat 0 (ws.getD 0 0)} 1 rfl rfl (by omega)];rw[st {k with mem:=Bz (Bz k.mem f.toNat 0 (ws.getD 0 0)) f.toNat 1 (ws.getD 1 0)} 2 rfl rfl (by omega)];rw[st {k with mem:=Bz (Bz (Bz k.mem f.toNat 0 (ws.getD 0 0)) f.toNat 1 (ws.getD 1 0)) f.toNat 2 (ws.getD 2 0)} 3 rfl rfl (by omega)]
 congr 1
 show Bz (Bz (Bz (Bz k.mem f.toNat 0 _) f.toNat 1 _) f.toNat 2 _) f.toNat 3 _=_
 rw[TA (m:=k.mem),OW hf,OW hf,OW hf,set4 kq ln]
def ID(k:AO)(f t b:Nat)(row:List Int):AO:=Ic {k with zZ:=k.zZ.set f ⟨1,gA,0⟩,mem:=k.mem.set f row} t b (IB f)
theorem WL(h:Du p){n:Nat}(K:n<16)(hw:(AC p.zY n).w≠1)(hf:0<=Am p.zV.zZ):
 PL p n=({p with zV:=ID p.zV (Am p.zV.zZ).toNat (BO p.low (n/4)).toNat (n%4) (if(AC p.zY n).w=2 then AG p.swap (AC p.zY n).a.toNat else[0,0,0,0]),swap:=if(AC p.zY n).w=2 then p.swap.set (AC p.zY n).a.toNat [] else p.swap,zY:=p.zY.set n ⟨1,Am p.zV.zZ,true⟩},true)/\
 DQ (ID p.zV (Am p.zV.zZ).toNat (BO p.low (n/4)).toNat (n%4) (if(AC p.zY n).w=2 then AG p.swap (AC p.zY n).a.toNat else[0,0,0,0])):=by
 obtain⟨g1,g2,g3⟩:=Fg (zZ:=p.zV.zZ) (by omega);have be:=h.k.len;rw[be] at g1;have hl:=h.lows (n/4) (by omega);have g0:=h.zK (i:=n/4) (by omega);have db:=h.meml;have bA:(BO p.low (n/4)).toNat≠(Am p.zV.zZ).toNat:=λe=>by have:=g0.2;unfold Ay at this;rw[e,g2] at this;omega
 have e1:=MM (k:=p.zV) h.may hf (a:=0) (b:=0) (c:=0);have lB:DQ (Ae p.zV (Ag 1 0 0 0)).1:=FR h.k;rw[e1] at lB;have dW:∀g,zS (p.zV.zZ.set (Am p.zV.zZ).toNat ⟨1,gA,0⟩) g=if g=(Am p.zV.zZ).toNat then⟨1,gA,0⟩ else zS p.zV.zZ g:=λg=>by
  rw[Gu,be]
  by_cases e:g=(Am p.zV.zZ).toNat
  .rw[if_pos ⟨e,g1⟩,if_pos e]
  .rw[if_neg (λh=>e h.1),if_neg e]
 have e2:(if(AC p.zY n).w=2 then VS {p.zV with zZ:=p.zV.zZ.set (Am p.zV.zZ).toNat ⟨1,gA,0⟩,mem:=p.zV.mem.set (Am p.zV.zZ).toNat [0,0,0,0]} (Am p.zV.zZ) (AG p.swap (AC p.zY n).a.toNat) else {p.zV with zZ:=p.zV.zZ.set (Am p.zV.zZ).toNat ⟨1,gA,0⟩,mem:=p.zV.mem.set (Am p.zV.zZ).toNat [0,0,0,0]})=
  {p.zV with zZ:=p.zV.zZ.set (Am p.zV.zZ).toNat ⟨1,gA,0⟩,mem:=p.zV.mem.set (Am p.zV.zZ).toNat (if(AC p.zY n).w=2 then AG p.swap (AC p.zY n).a.toNat else[0,0,0,0])}:=by
  by_cases w2:(AC p.zY n).w=2
  .rw[if_pos w2,if_pos w2]
   have dm:Ds (AG p.swap (AC p.zY n).a.toNat)=true:=by
    rcases h.zY n K with⟨x,_⟩|⟨x,_⟩|⟨x1,x2,x3,x4,x5⟩
    .omega
    .omega
    .rcases h.zv (AC p.zY n).a.toNat (by omega) with x|x
     .exact absurd x x3
     .exact x
   rw[Zh (k:= {p.zV with zZ:=p.zV.zZ.set (Am p.zV.zZ).toNat ⟨1,gA,0⟩,mem:=p.zV.mem.set (Am p.zV.zZ).toNat [0,0,0,0]}) h.may hf (by omega) (by show(p.zV.mem.set _ _).length=12;rw[xP];exact db) (by unfold Ay;rw[dW,if_pos rfl]) (by rw[dW,if_pos rfl]) (by show(AG (p.zV.mem.set _ _) _).length=4;rw[LB (by omega),if_pos rfl];rfl) dm]
   show AO.mk _ _ _ _=AO.mk _ _ _ _
   rw[ug]
  .rw[if_neg w2,if_neg w2]
 have dm:Ds (if(AC p.zY n).w=2 then AG p.swap (AC p.zY n).a.toNat else[0,0,0,0])=true:=by
  by_cases w2:(AC p.zY n).w=2
  .rw[if_pos w2]
   rcases h.zY n K with⟨x,_⟩|⟨x,_⟩|⟨x1,x2,x3,x4,x5⟩
   .omega
   .omega
   .rcases h.zv (AC p.zY n).a.toNat (by omega) with x|x
    .exact absurd x x3
    .exact x
  .rw[if_neg w2];rfl
 generalize hR:(if(AC p.zY n).w=2 then AG p.swap (AC p.zY n).a.toNat else[0,0,0,0])=row at e2 dm ⊢;have ky:DQ {p.zV with zZ:=p.zV.zZ.set (Am p.zV.zZ).toNat ⟨1,gA,0⟩,mem:=p.zV.mem.set (Am p.zV.zZ).toNat row}:=by have:=DQ.data h.k g1 (.inl g2) dm (x:=⟨1,gA,0⟩) (.inr ⟨by decide,by decide,by decide⟩) (.inr rfl) (by rw[DQ.zr h.k g1 g2]) (.inr (DQ.zr h.k g1 g2)) h.k.zW h.k.trans;exact this
 have e3:=VX ky h.may h.alone hl.1 hl.2.1 (by unfold Ay;rw[dW,if_neg bA];exact g0.2) (by rw[dW,if_neg bA];exact hl.2.2.2.1) (b:=n%4) (by omega) (w:=IB (Am p.zV.zZ)) (.inr ⟨_,hf,by omega,rfl,by unfold Ay;rw[dW,if_pos rfl],by rw[dW,if_pos rfl]⟩);have e4:((Am p.zV.zZ).toNat:Int)=Am p.zV.zZ:=by omega
 have gx:=FR ky (kind:=6) (a:=BO p.low (n/4)) (b:=((n%4:Nat):Int)) (c:=IB (Am p.zV.zZ));rw[e3] at gx;refine⟨?_,by unfold ID;rw[e4];exact gx⟩;unfold PL;rw[e1];simp only;rw[if_neg (by simp),e2];unfold Ig;rw[e3];unfold ID;rw[e4]
theorem Du.tab_zero(h:Du p){n:Nat}(K:n<16)(hw:(AC p.zY n).w≠1):Bt p n=0:=by
 rcases h.zY n K with⟨_,_,_,x⟩|⟨x,_⟩|⟨_,_,_,_,x⟩
 .exact x
 .exact absurd x hw
 .exact x
theorem Tl(h:Du p){n:Nat}(K:n<16)(hw:(AC p.zY n).w≠1)(hf:0<=Am p.zV.zZ)(hc:(Aj p.zY 1:Int)+1<=p.zU):
 Du (PL p n).1/\(PL p n).2=true/\(∀a,a<64->Dx (PL p n).1 a=Dx p a)/\Aj (PL p n).1.zY 1=Aj p.zY 1+1/\(PL p n).1.zY=p.zY.set n ⟨1,Am p.zV.zZ,true⟩:=by
 obtain⟨dW,fZ⟩:=WL h K hw hf;obtain⟨g1,g2,g3⟩:=Fg (zZ:=p.zV.zZ) (by omega);have be:=h.k.len;rw[be] at g1;generalize hR:(if(AC p.zY n).w=2 then AG p.swap (AC p.zY n).a.toNat else[0,0,0,0])=row at dW fZ;generalize hS:(if(AC p.zY n).w=2 then p.swap.set (AC p.zY n).a.toNat [] else p.swap)=sw at dW;have db:=h.meml;have hl:=h.lows (n/4) (by omega);have g0:=h.zK (i:=n/4) (by omega);have jh:∀g,Ay p.zV g≠0->g≠(Am p.zV.zZ).toNat:=λg O e=>by unfold Ay at O;rw[e] at O;exact O g2
 have gW:(Ab p.zV 0).toNat≠(Am p.zV.zZ).toNat:=jh _ (by rw[h.zA.2];decide);have eo:∀i,i<4->(BO p.low i).toNat≠(Am p.zV.zZ).toNat:=λi R=>jh _ (by rw[(h.zK R).2];decide)
 have hJ:∀m,m<16->(AC p.zY m).w=1->(AC p.zY m).a.toNat≠(Am p.zV.zZ).toNat:=λm hm lx=>jh _ (by rw[(h.zH hm lx).2];decide)
 have ds:Ds row=true:=by
  rw[<-hR]
  by_cases w2:(AC p.zY n).w=2
  .rw[if_pos w2]
   rcases h.zY n K with⟨x,_⟩|⟨x,_⟩|⟨x1,x2,x3,x4,x5⟩
   .omega
   .omega
   .rcases h.zv (AC p.zY n).a.toNat (by omega) with x|x
    .exact absurd x x3
    .exact x
  .rw[if_neg w2];rfl
 have kq:=(A4.1 ds).1;have e0:As (p.zV.mem.set (Am p.zV.zZ).toNat row) (BO p.low (n/4)).toNat (n%4)=0:=by unfold As;rw[LB (by omega),if_neg (eo _ (by omega))];exact h.tab_zero K hw
 have e4:((Am p.zV.zZ).toNat:Int)=Am p.zV.zZ:=by omega
 have de:∀f i,As (ID p.zV (Am p.zV.zZ).toNat (BO p.low (n/4)).toNat (n%4) row).mem f i=if f=(BO p.low (n/4)).toNat/\i=n%4 then IB (Am p.zV.zZ) else if f=(Am p.zV.zZ).toNat then row.getD i 0 else As p.zV.mem f i:=λf i=>by
  unfold ID Ic
  show As (Bz (p.zV.mem.set (Am p.zV.zZ).toNat row) _ _ _) f i=_
  rw[Qo (by rw[xP,db];exact g0.1) (by rw[LB (by omega),if_neg (eo _ (by omega)),h.rowl g0.1];omega),e4]
  congr 1
  unfold As;rw[LB (by omega)]
  by_cases e:f=(Am p.zV.zZ).toNat
  .rw[if_pos e,if_pos e]
  .rw[if_neg e,if_neg e]
 have er:∀g,zS (ID p.zV (Am p.zV.zZ).toNat (BO p.low (n/4)).toNat (n%4) row).zZ g=if g=(Am p.zV.zZ).toNat then⟨1,gA,1⟩ else zS p.zV.zZ g:=λg=>by
  unfold ID Ic
  show zS (A5 (A5 (p.zV.zZ.set (Am p.zV.zZ).toNat ⟨1,gA,0⟩) (As (p.zV.mem.set (Am p.zV.zZ).toNat row) _ _) (-1)) (IB _) 1) g=_
  rw[Fa (by rw[Cl,xP];exact be),Fa (by rw[xP];exact be),e0,QO,e4,So hf (by omega),Gu,be]
  by_cases e:g=(Am p.zV.zZ).toNat
  .rw[if_pos ⟨e,g1⟩,if_pos e]
   simp[EN,e]
  .rw[if_neg (λh=>e h.1),if_neg e]
   simp[EN,e]
 have gY:∀m,AC (p.zY.set n ⟨1,Am p.zV.zZ,true⟩) m=if m=n then⟨1,Am p.zV.zZ,true⟩ else AC p.zY m:=λm=>by
  rw[Dp]
  by_cases e:m=n
  .rw[if_pos ⟨e,by rw[h.zO];exact K⟩,if_pos e]
  .rw[if_neg (λh=>e h.1),if_neg e]
 have f5:Aj (p.zY.set n ⟨1,Am p.zV.zZ,true⟩) 1=Aj p.zY 1+1:=by
  have:=OH (l:=p.zY) (n:=n) (y:=⟨1,Am p.zV.zZ,true⟩) (w:=1) (by rw[h.zO];exact K);have e1:EN (OK 1 (AC p.zY n))=0:=by simp[OK,hw,EN]
  have e2:EN (OK 1 ⟨1,Am p.zV.zZ,true⟩)=1:=by simp[OK,EN]
  omega
 have b9:∀g,g≠(Am p.zV.zZ).toNat->LI p.zV.zZ g->LI (ID p.zV (Am p.zV.zZ).toNat (BO p.low (n/4)).toNat (n%4) row).zZ g:=λg O hm=>by unfold LI;rw[er g,if_neg O];exact hm
 have ly:LI (ID p.zV (Am p.zV.zZ).toNat (BO p.low (n/4)).toNat (n%4) row).zZ (Am p.zV.zZ).toNat:=by unfold LI;rw[er,if_pos rfl];exact⟨rfl,rfl⟩
 have el:∀s,AG sw s=if(AC p.zY n).w=2/\s=(AC p.zY n).a.toNat then[] else AG p.swap s:=λs=>by
  rw[<-hS]
  by_cases w2:(AC p.zY n).w=2
  .rcases h.zY n K with⟨x,_⟩|⟨x,_⟩|⟨x1,x2,x3,x4,x5⟩
   .omega
   .omega
   .rw[if_pos w2,LB (by rw[h.zD];omega)]
    by_cases e:s=(AC p.zY n).a.toNat
    .rw[if_pos e,if_pos ⟨w2,e⟩]
    .rw[if_neg e,if_neg (λh=>e h.2)]
  .rw[if_neg w2,if_neg (λh=>w2 h.1)]
 have jo:sw.length=16:=by
  rw[<-hS]
  split
  .rw[xP];exact h.zD
  .exact h.zD
 rw[dW];have dq:∀m,m<16->m≠n->(AC p.zY m).w=2->¬((AC p.zY n).w=2/\(AC p.zY m).a.toNat=(AC p.zY n).a.toNat):=by
  rintro m hm bA m2 ⟨n2,e⟩;have r1:0<=(AC p.zY m).a/\(AC p.zY m).a<=15:=by
   rcases h.zY m hm with⟨x,_⟩|⟨x,_⟩|⟨x1,x2,x3,x4,x5⟩
   .omega
   .omega
   .exact x2
  have r2:0<=(AC p.zY n).a/\(AC p.zY n).a<=15:=by
   rcases h.zY n K with⟨x,_⟩|⟨x,_⟩|⟨x1,x2,x3,x4,x5⟩
   .omega
   .omega
   .exact x2
  have V:=h.slots (AC p.zY n).a.toNat (by omega);have J:=Ng (l:=p.zY) (n:=n) (s:=(AC p.zY n).a.toNat) (y:=⟨0,0,false⟩) (by rw[h.zO];exact K);have Y:=Ng (l:=p.zY.set n ⟨0,0,false⟩) (n:=m) (s:=(AC p.zY n).a.toNat) (y:=⟨0,0,false⟩) (by rw[xP,h.zO];exact hm);rw[Dp,if_neg (λh=>bA h.1)] at Y;have b1:EN (Cz (AC p.zY n).a.toNat (AC p.zY n))=1:=by
   have:(AC p.zY n).a=(((AC p.zY n).a.toNat:Nat):Int):=by omega
   unfold Cz;rw[decide_eq_true n2,decide_eq_true this];rfl
  have b2:EN (Cz (AC p.zY n).a.toNat (AC p.zY m))=1:=by
   have:(AC p.zY m).a=(((AC p.zY n).a.toNat:Nat):Int):=by omega
   unfold Cz;rw[decide_eq_true m2,decide_eq_true this];rfl
  have b3:EN (Cz (AC p.zY n).a.toNat ⟨0,0,false⟩)=0:=by simp[Cz,EN]
  split at V<;>omega
 refine⟨⟨fZ,jo,?_,h.may,h.alone,h.root,h.zt,b9 _ gW h.yM,?_,?_,?_,?_,h.zR,h.zU,?_⟩,rfl,?_,f5,rfl⟩
 .intro s V
  rw[el s]
  split
  .exact .inl rfl
  .exact h.zv s V
 .intro i R
  obtain⟨a,b,c,d⟩:=h.lows i R;refine⟨a,b,?_,b9 _ (eo i R) d⟩
  show As (ID p.zV _ _ _ row).mem (Ab p.zV 0).toNat i=_
  rw[de,if_neg (λe=>h.yV (i:=n/4) (by omega) e.1),if_neg gW];exact c
 .show(p.zY.set n _).length=16
  rw[xP];exact h.zO
 .intro s V
  have J:=Ng (l:=p.zY) (n:=n) (s:=s) (y:=⟨1,Am p.zV.zZ,true⟩) (by rw[h.zO];exact K);have e2:EN (Cz s ⟨1,Am p.zV.zZ,true⟩)=0:=by simp[Cz,EN]
  have Y:=h.slots s V
  show Cb (p.zY.set n _) s=if(AG sw s).isEmpty then 0 else 1
  rw[el s]
  by_cases e:(AC p.zY n).w=2/\s=(AC p.zY n).a.toNat
  .rw[if_pos e]
   have a0:0<=(AC p.zY n).a/\AG p.swap (AC p.zY n).a.toNat≠[]:=by
    rcases h.zY n K with⟨x,_⟩|⟨x,_⟩|⟨x1,x2,x3,x4,x5⟩
    .omega
    .omega
    .exact⟨x2.1,x3⟩
   have e1:EN (Cz s (AC p.zY n))=1:=by
    have:(AC p.zY n).a=(s:Int):=by omega
    unfold Cz;rw[decide_eq_true e.1,decide_eq_true this];rfl
   rw[if_neg (by rw[JS,e.2];exact a0.2)] at Y;simp;omega
  .rw[if_neg e]
   have e1:EN (Cz s (AC p.zY n))=0:=by
    unfold Cz
    by_cases w2:(AC p.zY n).w=2
    .have:¬(AC p.zY n).a=(s:Int):=λh=>e ⟨w2,by omega⟩
     rw[decide_eq_false this];simp[EN]
    .rw[decide_eq_false w2];simp[EN]
   omega
 .intro m hm
  have gU:Bt {p with zV:=ID p.zV (Am p.zV.zZ).toNat (BO p.low (n/4)).toNat (n%4) row,swap:=sw,zY:=p.zY.set n ⟨1,Am p.zV.zZ,true⟩} m=if m=n then IB (Am p.zV.zZ) else Bt p m:=by
   unfold Bt
   show As (ID p.zV _ _ _ row).mem (BO p.low (m/4)).toNat (m%4)=_
   rw[de]
   by_cases e:m=n
   .subst e;rw[if_pos ⟨rfl,rfl⟩,if_pos rfl]
   .rw[if_neg (h.tab_ne K hm e),if_neg (eo _ (by omega)),if_neg e]
  unfold Kl;rw[gU]
  show(AC (p.zY.set n _) m).w=0/\(AC (p.zY.set n _) m).a=0/\(AC (p.zY.set n _) m).u=false/\_∨(AC (p.zY.set n _) m).w=1/\_/\_=IB (AC (p.zY.set n _) m).a/\LI _ (AC (p.zY.set n _) m).a.toNat∨(AC (p.zY.set n _) m).w=2/\_/\AG sw (AC (p.zY.set n _) m).a.toNat≠[]/\(AC (p.zY.set n _) m).u=false/\_
  rw[gY m]
  by_cases e:m=n
  .simp only[if_pos e]
   exact .inr (.inl ⟨by simp,⟨hf,by show Am p.zV.zZ<=11;omega⟩,by simp,ly⟩)
  .simp only[if_neg e]
   rcases h.zY m hm with x|⟨x1,x2,x3,x4⟩|⟨x1,x2,x3,x4,x5⟩
   .exact .inl x
   .exact .inr (.inl ⟨x1,x2,x3,b9 _ (hJ m hm x1) x4⟩)
   .refine .inr (.inr ⟨x1,x2,?_,x4,x5⟩)
    rw[el,if_neg (dq m hm e x1)];exact x3
 .show(Aj (p.zY.set n _) 1:Int)<=p.zU
  omega
 .intro a ha
  unfold Dx
  show(if(AC (p.zY.set n _) (a/4)).w=1 then As (ID p.zV _ _ _ row).mem (AC (p.zY.set n _) (a/4)).a.toNat (a%4) else if(AC (p.zY.set n _) (a/4)).w=2 then As sw (AC (p.zY.set n _) (a/4)).a.toNat (a%4) else 0)=_
  rw[gY (a/4)]
  by_cases e:a/4=n
  .subst e
   rw[if_pos rfl,if_pos (show(1:Int)=1 from rfl),de,if_neg (λe'=>eo (a/4/4) (by omega) e'.1.symm),if_pos rfl,if_neg hw,<-hR]
   by_cases w2:(AC p.zY (a/4)).w=2
   .rw[if_pos w2,if_pos w2];rfl
   .rw[if_neg w2,if_neg w2]
    have:a%4=0∨a%4=1∨a%4=2∨a%4=3:=by omega
    rcases this with h|h|h|h<;>rw[h]<;>rfl
  .rw[if_neg e]
   by_cases w1:(AC p.zY (a/4)).w=1
   .rw[if_pos w1,if_pos w1,de,if_neg (λe'=>h.zf (i:=n/4) (n:=a/4) (by omega) w1 (by omega) e'.1.symm),if_neg (hJ _ (by omega) w1)]
   .rw[if_neg w1,if_neg w1]
    by_cases w2:(AC p.zY (a/4)).w=2
    .rw[if_pos w2,if_pos w2]
     unfold As;rw[el,if_neg (dq _ (by omega) e w2)]
    .rw[if_neg w2,if_neg w2]
def yL(zR:Int)(i:Nat):Nat:=((i:Int) - zR).toNat+(if(i:Int)<zR then((i:Int)+16 - zR).toNat else 0)
theorem Uw{zR:Int}(h0:0<=zR):yL zR zR.toNat=0:=by
 unfold yL
 split<;>omega
theorem P6{zR:Int}(h0:0<=zR)(J:zR<=15){i:Nat}(R:i<16):yL zR i<16:=by
 unfold yL
 split<;>omega
theorem NF{zR:Int}(h0:0<=zR)(J:zR<=15){i:Nat}(R:i<16)(bA:zR.toNat≠i):yL (Em zR) i+1=yL zR i:=by
 have e:Em zR=if zR=15 then 0 else zR+1:=by
  unfold Em
  split<;>omega
 rw[e];unfold yL
 split
 .subst_vars
  split<;>split<;>omega
 .split<;>split<;>omega
theorem Pz{zR:Int}(h0:0<=zR)(J:zR<=15):yL (Em zR) zR.toNat=15:=by
 have e:Em zR=if zR=15 then 0 else zR+1:=by
  unfold Em
  split<;>omega
 rw[e];unfold yL
 split
 .subst_vars
  split<;>omega
 .split<;>omega
theorem MF{zR:Int}(h0:0<=zR)(J:zR<=15):0<=Em zR/\Em zR<=15:=by unfold Em;omega
theorem Jw{zY:List Bo}{j i:Nat}:(AC (zY.set j (Nk (AC zY j))) i).w=(AC zY i).w/\(AC (zY.set j (Nk (AC zY j))) i).a=(AC zY i).a/\
 ((AC (zY.set j (Nk (AC zY j))) i).u=true->(AC zY i).u=true)/\(i≠j->AC (zY.set j (Nk (AC zY j))) i=AC zY i):=by
 rw[Dp]
 by_cases e:i=j/\j<zY.length
 .rw[if_pos e]
  obtain⟨rfl,_⟩:=e;exact⟨rfl,rfl,(λh=>by cases h),λh=>absurd rfl h⟩
 .rw[if_neg e]
  exact⟨rfl,rfl,λh=>h,λ_=>rfl⟩
structure DH(a b:List Bo):Prop where
 len:b.length=a.length
 w:∀i,(AC b i).w=(AC a i).w
 at':∀i,(AC b i).a=(AC a i).a
 u:∀i,(AC b i).u=true->(AC a i).u=true
theorem DH.refl(a:List Bo):DH a a:=⟨rfl,λ_=>rfl,λ_=>rfl,λ_ h=>h⟩
theorem DH.step{a b:List Bo}{j:Nat}(h:DH (a.set j (Nk (AC a j))) b):DH a b:=
 ⟨by rw[h.len,xP],λi=>(h.w i).trans Jw.1,λi=>(h.at' i).trans Jw.2.1,λi R=>Jw.2.2.1 (h.u i R)⟩
theorem Ii:∀(n:Nat)(zY:List Bo)(zR:Int),DH zY (Cd n zY zR).1
 |0,zY,zR=>DH.refl _
 |n+1,zY,zR=>by
  unfold Cd
  split
  .exact DH.refl _
  .exact(Ii n _ _).step
theorem KF:∀(n:Nat)(zY:List Bo)(zR:Int),0<=zR->zR<=15->0<=(Cd n zY zR).2.1/\(Cd n zY zR).2.1<=15
 |0,zY,zR,h0,J=>⟨h0,J⟩
 |n+1,zY,zR,h0,J=>by
  have:=MF h0 J;unfold Cd
  split
  .exact this
  .exact KF n _ _ this.1 this.2
theorem JB:∀(n:Nat)(zY:List Bo)(zR:Int),0<=zR->zR<=15->zY.length=16->∀i,i<16->(AC zY i).w=1->
 ((AC zY i).u=false/\yL zR i+1<=n)∨yL zR i+17<=n->∃m,(Cd n zY zR).2.2=some m
 |0,zY,zR,h0,J,hl,i,R,hw,h=>by omega
 |n+1,zY,zR,h0,J,hl,i,R,hw,h=>by
  unfold Cd
  split
  .exact⟨_,rfl⟩
  .next bC=>
   have K:=MF h0 J;have hu:=Jw (zY:=zY) (j:=zR.toNat) (i:=i);refine JB n _ _ K.1 K.2 (by rw[xP];exact hl) i R (hu.1.trans hw) ?_
   by_cases e:zR.toNat=i
   .subst e
    rw[Pz h0 J];left
    rcases h with⟨h,_⟩|h
    .exact absurd ⟨hw,h⟩ bC
    .refine⟨?_,by omega⟩
     rw[Dp,if_pos ⟨rfl,by omega⟩];rfl
   .have hf:=NF h0 J R e
    rw[hu.2.2.2 (λh=>e h.symm)]
    rcases h with⟨h,h'⟩|h
    .exact .inl ⟨h,by omega⟩
    .exact .inr (by omega)
theorem Hy:∀(n:Nat)(zY:List Bo)(zR:Int),0<=zR->zR<=15->∀m,(Cd n zY zR).2.2=some m->m<16/\(AC zY m).w=1
 |0,zY,zR,h0,J,m,h=>by cases h
 |n+1,zY,zR,h0,J,m,h=>by
  unfold Cd at h
  split at h
  .next hy=>
   cases h;exact⟨by omega,hy.1⟩
  .have K:=MF h0 J
   have:=Hy n _ _ K.1 K.2 m h;exact⟨this.1,Jw.1.symm.trans this.2⟩
theorem Nl:∀(n:Nat)(zY:List Bo)(zR:Int),0<=zR->zR<=15->∀i,i<16->(AC zY i).w=1->(AC zY i).u=false->∀m,(Cd n zY zR).2.2=some m->
 yL zR m<=yL zR i/\(AC zY m).u=false
 |0,zY,zR,h0,J,i,R,hw,hu,m,h=>by cases h
 |n+1,zY,zR,h0,J,i,R,hw,hu,m,h=>by
  unfold Cd at h
  split at h
  .next hy=>
   cases h;rw[Uw h0];exact⟨yg _,hy.2⟩
  .next bC=>
   have K:=MF h0 J;have e:zR.toNat≠i:=λe=>bC (by rw[e];exact⟨hw,hu⟩)
   have lr:=Jw (zY:=zY) (j:=zR.toNat) (i:=i);have kz:=lr.2.2.2 (λh=>e h.symm);have:=Nl n _ _ K.1 K.2 i R (by rw[kz];exact hw) (by rw[kz];exact hu) m h;have hm:=Hy n _ _ K.1 K.2 m h;have hf:=NF h0 J R e;have gz:=P6 h0 J R;have em:zR.toNat≠m:=λe'=>by subst e';rw[Pz h0 J] at this;omega
   have mM:=NF h0 J hm.1 em;refine⟨by omega,?_⟩;rw[<-Jw.2.2.2 (λh=>em h.symm)];exact this.2
theorem JZ{zY:List Bo}{w:Int}:0<Aj zY w↔∃i,i<zY.length/\(AC zY i).w=w:=by
 unfold Aj;rw[List.countP_pos_iff];constructor
 .rintro⟨x,hx,h⟩
  obtain⟨i,R,rfl⟩:=Iv (d:=⟨0,0,false⟩) hx;exact⟨i,R,of_decide_eq_true (p:=(AC zY i).w=w) h⟩
 .rintro⟨i,R,h⟩
  refine⟨zY.getD i ⟨0,0,false⟩,DT R,?_⟩;exact decide_eq_true (p:=(AC zY i).w=w) h
theorem Ip{q:Bo->Bool}:∀{a b:List Bo},b.length=a.length->(∀i,q (AC b i)=q (AC a i))->b.countP q=a.countP q
 | [],[],_,_=>rfl
 |x::a,y::b,hl,h=>by
  rw[wZ,wZ,Ip (by simpa using hl) (λi=>by simpa[AC] using h (i+1))];have:=h 0;simp only[AC,List.getD_cons_zero] at this;rw[this]
theorem DH.count{a b:List Bo}(h:DH a b)(w:Int):Aj b w=Aj a w:=Ip h.len λi=>by unfold OK;rw[h.w i]
theorem DH.slots{a b:List Bo}(h:DH a b)(s:Nat):Cb b s=Cb a s:=Ip h.len λi=>by unfold Cz;rw[h.w i,h.at' i]
theorem DH.word{b:List Bo}(h:DH p.zY b)(zR:Int)(a:Nat):Dx {p with zY:=b,zR:=zR} a=Dx p a:=by
 unfold Dx
 show(if(AC b (a/4)).w=1 then _ else if(AC b (a/4)).w=2 then _ else _)=_
 rw[h.w,h.at']
theorem DH.ok{b:List Bo}(h:DH p.zY b)(hp:Du p){zR:Int}(h0:0<=zR)(J:zR<=15):Du {p with zY:=b,zR:=zR}:=by
 refine⟨hp.k,hp.zD,hp.zv,hp.may,hp.alone,hp.root,hp.zt,hp.yM,hp.lows,h.len.trans hp.zO,λs V=>(h.slots s).trans (hp.slots s V),λn K=>?_,⟨h0,J⟩,hp.zU,?_⟩
 .have e:Bt {p with zY:=b,zR:=zR} n=Bt p n:=rfl
  unfold Kl;rw[e]
  show((AC b n).w=0/\(AC b n).a=0/\(AC b n).u=false/\_)∨((AC b n).w=1/\_/\_=IB (AC b n).a/\LI _ (AC b n).a.toNat)∨((AC b n).w=2/\_/\AG p.swap (AC b n).a.toNat≠[]/\(AC b n).u=false/\_)
  rw[h.w,h.at'];have hu:=h.u n;have un:(AC p.zY n).u=false->(AC b n).u=false:=λx=>by
   cases X:(AC b n).u
   .rfl
   .rw[hu X] at x;cases x
  rcases hp.zY n K with⟨x1,x2,x3,x4⟩|x|⟨x1,x2,x3,x4,x5⟩
  .exact .inl ⟨x1,x2,un x3,x4⟩
  .exact .inr (.inl x)
  .exact .inr (.inr ⟨x1,x2,x3,un x4,x5⟩)
 .show(Aj b 1:Int)<=p.zU
  rw[h.count];exact hp.count
theorem IY{zY:List Bo}{m:Nat}:(AC (FO zY n) m).w=(AC zY m).w/\(AC (FO zY n) m).a=(AC zY m).a/\(m≠n->(AC (FO zY n) m)=AC zY m):=by
 unfold FO;rw[Dp]
 by_cases e:m=n/\n<zY.length
 .rw[if_pos e]
  obtain⟨rfl,_⟩:=e;exact⟨rfl,rfl,λh=>absurd rfl h⟩
 .rw[if_neg e]
  exact⟨rfl,rfl,λ_=>rfl⟩
theorem cI(h:Du p){n:Nat}(K:n<16)(hw:(AC p.zY n).w=1):Du {p with zY:=FO p.zY n}:=by
 have be:(FO p.zY n).length=p.zY.length:=by unfold FO;rw[xP]
 refine⟨h.k,h.zD,h.zv,h.may,h.alone,h.root,h.zt,h.yM,h.lows,be.trans h.zO,λs V=>?_,λm hm=>?_,h.zR,h.zU,?_⟩
 .have:Cb (FO p.zY n) s=Cb p.zY s:=Ip be λi=>by unfold Cz;rw[IY.1,IY.2.1]
  rw[this];exact h.slots s V
 .have e:Bt {p with zY:=FO p.zY n} m=Bt p m:=rfl
  unfold Kl;rw[e]
  show((AC (FO p.zY n) m).w=0/\(AC (FO p.zY n) m).a=0/\(AC (FO p.zY n) m).u=false/\_)∨((AC (FO p.zY n) m).w=1/\_/\_=IB (AC (FO p.zY n) m).a/\LI _ (AC (FO p.zY n) m).a.toNat)∨((AC (FO p.zY n) m).w=2/\_/\AG p.swap (AC (FO p.zY n) m).a.toNat≠[]/\(AC (FO p.zY n) m).u=false/\_)
  rw[IY.1,IY.2.1]
  rcases h.zY m hm with⟨x1,x2,x3,x4⟩|x|⟨x1,x2,x3,x4,x5⟩
  .rw[IY.2.2 (λe=>by subst e;omega)]
   exact .inl ⟨x1,x2,x3,x4⟩
  .exact .inr (.inl x)
  .rw[IY.2.2 (λe=>by subst e;omega)]
   exact .inr (.inr ⟨x1,x2,x3,x4,x5⟩)
 .have:Aj (FO p.zY n) 1=Aj p.zY 1:=Ip be λi=>by unfold OK;rw[IY.1]
  show(Aj (FO p.zY n) 1:Int)<=p.zU
  rw[this];exact h.count
structure aB(p q:AR)(n:Nat):Prop where
 ok:Du q
 w:(AC q.zY n).w=1
 u:(AC q.zY n).u=true
 words:∀a,a<64->Dx q a=Dx p a
 zU:q.zU=p.zU
 one:∃m,(m=n∨((AC p.zY m).w=1/\(AC q.zY m).w=2/\(Am p.zV.zZ<0∨(Aj p.zY 1:Int)=p.zU)))/\∀i,i<16->i≠n->i≠m->(AC q.zY i).w=(AC p.zY i).w/\(AC q.zY i).a=(AC p.zY i).a
 used:∀i,i<16->(AC p.zY i).w=1->(AC p.zY i).u=true->(AC q.zY i).w=2->∀j,j<16->(AC p.zY j).w=1->(AC p.zY j).u=true
theorem Vb(h:Du p){n:Nat}(K:n<16):(BN p n).2=false↔(Am p.zV.zZ<0/\Aj p.zY 1=0):=by
 by_cases hw:(AC p.zY n).w=1
 .unfold BN
  rw[if_pos hw];have:=JZ.2 ⟨n,by rw[h.zO];exact K,hw⟩;constructor
  .intro x;cases x
  .intro x;omega
 .by_cases bC:Am p.zV.zZ<0/\Aj p.zY 1=0
  .unfold BN
   rw[if_neg hw,if_pos bC];exact⟨λ_=>bC,λ_=>rfl⟩
  .refine⟨λx=>?_,λx=>absurd x bC⟩
   exfalso;unfold BN at x;rw[if_neg hw,if_neg bC] at x
   by_cases hf:Ir p=true
   .rw[if_pos hf] at x
    have hc:0<Aj p.zY 1:=by
     rcases wj (Aj p.zY 1) with h0|h0
     .exfalso
      unfold Ir at hf;simp only[xE,decide_eq_true_eq] at hf;have:=h.zU
      rcases hf with hf|hf
      .exact bC ⟨hf,h0⟩
      .omega
     .exact h0
    obtain⟨i,R,jA⟩:=JZ.1 hc;rw[h.zO] at R;obtain⟨m,hm⟩:=JB 32 p.zY p.zR h.zR.1 h.zR.2 h.zO i R jA (.inr (by have:=P6 h.zR.1 h.zR.2 R;omega));have hU:=Ii 32 p.zY p.zR;have hH:=KF 32 p.zY p.zR h.zR.1 h.zR.2;have hI:=Hy 32 p.zY p.zR h.zR.1 h.zR.2 m hm
    revert x hU hH hI hm
    generalize Cd 32 p.zY p.zR=r;obtain⟨pg,hd,o⟩:=r;intro x hm hU hH hI;cases hm;have h':=hU.ok h hH.1 hH.2;have L:=UA h' hI.1 ((hU.w m).trans hI.2);have iI:n≠m:=λe=>hw (by rw[e];exact hI.2)
    have iG:(AC (Ea {p with zY:=pg,zR:=hd} m).zY n).w≠1:=by
     show(AC (pg.set m _) n).w≠1
     rw[Dp,if_neg (λh=>iI h.1),hU.w];exact hw
    have jJ:(Aj (Ea {p with zY:=pg,zR:=hd} m).zY 1:Int)+1<=(Ea {p with zY:=pg,zR:=hd} m).zU:=by
     have J:Aj (Ea {p with zY:=pg,zR:=hd} m).zY 1+1=Aj pg 1:=L.2.2.1;have Y:Aj pg 1=Aj p.zY 1:=hU.count 1;have h3:=h.count
     show _<=p.zU
     omega
    have:=(Tl L.1 K iG L.2.2.2 jJ).2.1;have x':(PL (Ea {p with zY:=pg,zR:=hd} m) n).2=false:=x;rw[this] at x';cases x'
   .rw[if_neg hf] at x
    unfold Ir at hf;simp only[xE,decide_eq_true_eq,not_or] at hf;have:=h.count;have:=(Tl h K hw (by omega) (by omega)).2.1;rw[this] at x;cases x
theorem Fn(h:Du p){n:Nat}(K:n<16)(bC:(BN p n).2=false):(BN p n).1=p:=by
 have J:=(Vb h K).1 bC
 by_cases hw:(AC p.zY n).w=1
 .unfold BN at bC
  rw[if_pos hw] at bC;cases bC
 .unfold BN
  rw[if_neg hw,if_pos J]
theorem Nj(h:Du p){n:Nat}(hw:(AC p.zY n).w=1):BN p n=({p with zY:=FO p.zY n},true):=by unfold BN;rw[if_pos hw]
theorem Qx(h:Du p){n:Nat}(K:n<16)(hy:(BN p n).2=true):aB p (BN p n).1 n:=by
 by_cases hw:(AC p.zY n).w=1
 .rw[Nj h hw]
  refine⟨cI h K hw,IY.1.trans hw,?_,λa _=>?_,rfl,⟨n,.inl rfl,λi _ _ _=>⟨IY.1,IY.2.1⟩⟩,λi _ R _ lD=>?_⟩
  .show(AC (FO p.zY n) n).u=true
   unfold FO;rw[Dp,if_pos ⟨rfl,by rw[h.zO];exact K⟩]
  .unfold Dx
   show(if(AC (FO p.zY n) (a/4)).w=1 then _ else if(AC (FO p.zY n) (a/4)).w=2 then _ else _)=_
   rw[IY.1,IY.2.1]
  .have:(AC (FO p.zY n) i).w=2:=lD
   rw[IY.1,R] at this;cases this
 .have bC:¬(Am p.zV.zZ<0/\Aj p.zY 1=0):=λe=>by
   rw[(Vb h K).2 e] at hy;cases hy
  by_cases hf:Ir p=true
  .have kF:Am p.zV.zZ<0∨(Aj p.zY 1:Int)=p.zU:=by
    unfold Ir at hf;simpa using hf
   have hc:0<Aj p.zY 1:=by
    rcases wj (Aj p.zY 1) with h0|h0
    .exfalso
     have:=h.zU
     rcases kF with hf|hf
     .exact bC ⟨hf,h0⟩
     .omega
    .exact h0
   obtain⟨i,R,jA⟩:=JZ.1 hc;rw[h.zO] at R;obtain⟨m,hm⟩:=JB 32 p.zY p.zR h.zR.1 h.zR.2 h.zO i R jA (.inr (by have:=P6 h.zR.1 h.zR.2 R;omega));have hU:=Ii 32 p.zY p.zR;have hH:=KF 32 p.zY p.zR h.zR.1 h.zR.2;have hI:=Hy 32 p.zY p.zR h.zR.1 h.zR.2 m hm;have jS:=λi J Y h3=>Nl 32 p.zY p.zR h.zR.1 h.zR.2 i J Y h3 m hm
   have e:BN p n=PL (Ea {p with zY:=(Cd 32 p.zY p.zR).1,zR:=(Cd 32 p.zY p.zR).2.1} m) n:=by
    unfold BN;rw[if_neg hw,if_neg bC,if_pos hf]
    revert hm
    generalize Cd 32 p.zY p.zR=r;obtain⟨pg,hd,o⟩:=r;intro hm;cases hm;rfl
   rw[e];clear e hy
   revert hU hH
   generalize(Cd 32 p.zY p.zR).1=pg;generalize(Cd 32 p.zY p.zR).2.1=hd;intro hU hH;have h':=hU.ok h hH.1 hH.2;have L:=UA h' hI.1 ((hU.w m).trans hI.2);have iI:n≠m:=λe=>hw (by rw[e];exact hI.2)
   have ku:∀j,AC (Ea {p with zY:=pg,zR:=hd} m).zY j=if j=m then⟨2,Bd p.swap,false⟩ else AC pg j:=λj=>by
    show AC (pg.set m _) j=_
    rw[Dp]
    by_cases e:j=m
    .rw[if_pos ⟨e,by rw[hU.len,h.zO];exact hI.1⟩,if_pos e]
    .rw[if_neg (λh=>e h.1),if_neg e]
   have iG:(AC (Ea {p with zY:=pg,zR:=hd} m).zY n).w≠1:=by rw[ku,if_neg iI,hU.w];exact hw
   have jJ:(Aj (Ea {p with zY:=pg,zR:=hd} m).zY 1:Int)+1<=(Ea {p with zY:=pg,zR:=hd} m).zU:=by
    have J:Aj (Ea {p with zY:=pg,zR:=hd} m).zY 1+1=Aj pg 1:=L.2.2.1;have Y:=hU.count 1;have h3:=h.count
    show _<=p.zU
    omega
   obtain⟨i1,i2,i3,i4,i5⟩:=Tl L.1 K iG L.2.2.2 jJ;have eI:∀j,AC (PL (Ea {p with zY:=pg,zR:=hd} m) n).1.zY j=if j=n then⟨1,Am (Ea {p with zY:=pg,zR:=hd} m).zV.zZ,true⟩ else if j=m then⟨2,Bd p.swap,false⟩ else AC pg j:=λj=>by
    rw[i5,Dp]
    by_cases e:j=n
    .rw[if_pos ⟨e,by rw[L.1.zO];exact K⟩,if_pos e]
    .rw[if_neg (λh=>e h.1),if_neg e,ku]
   refine⟨i1,?_,?_,λa ha=>?_,?_,⟨m,.inr ⟨hI.2,?_,kF⟩,λj hj J Y=>?_⟩,λj hj jz g7 dU=>?_⟩
   .rw[eI,if_pos rfl]
   .rw[eI,if_pos rfl]
   .rw[i3 a ha,L.2.1 a ha,hU.word]
   .rw[(WL L.1 K iG L.2.2.2).1];rfl
   .rw[eI,if_neg (λe=>iI e.symm),if_pos rfl]
   .rw[eI,if_neg J,if_neg Y]
    exact⟨hU.w j,hU.at' j⟩
   .rw[eI] at dU
    by_cases e1:j=n
    .rw[if_pos e1] at dU;cases dU
    .rw[if_neg e1] at dU
     by_cases e2:j=m
     .subst e2
      intro x hx lj;cases lk:(AC p.zY x).u
      .rw[(jS x hx lj lk).2] at g7
       cases g7
      .rfl
     .rw[if_neg e2,hU.w,jz] at dU
      cases dU
  .have e:BN p n=PL p n:=by
    unfold BN;rw[if_neg hw,if_neg bC,if_neg hf]
   rw[e];unfold Ir at hf;simp only[xE,decide_eq_true_eq,not_or] at hf;have:=h.count;have di:(Aj p.zY 1:Int)+1<=p.zU:=by omega
   have kD:0<=Am p.zV.zZ:=by omega
   obtain⟨i1,i2,i3,i4,i5⟩:=Tl h K hw kD di;have eI:∀j,AC (PL p n).1.zY j=if j=n then⟨1,Am p.zV.zZ,true⟩ else AC p.zY j:=λj=>by
    rw[i5,Dp]
    by_cases e:j=n
    .rw[if_pos ⟨e,by rw[h.zO];exact K⟩,if_pos e]
    .rw[if_neg (λh=>e h.1),if_neg e]
   refine⟨i1,?_,?_,i3,?_,⟨n,.inl rfl,λj hj J _=>?_⟩,λj hj jz g7 dU=>?_⟩
   .rw[eI,if_pos rfl]
   .rw[eI,if_pos rfl]
   .rw[(WL h K hw kD).1]
   .rw[eI,if_neg J];exact⟨rfl,rfl⟩
   .rw[eI] at dU
    by_cases e1:j=n
    .rw[if_pos e1] at dU;cases dU
    .rw[if_neg e1,jz] at dU
     cases dU
theorem Du.walk(h:Du p){a:Nat}(ha:a<64)(hw:(AC p.zY (a/4)).w=1):Bq p.zV.mem (Ab p.zV 0).toNat a=(0,(AC p.zY (a/4)).a.toNat,true):=by
 obtain⟨l0,l1,l2,_⟩:=h.lows (a/16) (by omega);obtain⟨x1,x2,x3⟩:=Gz l0 l1
 rcases h.zY (a/4) (by omega) with⟨y,_⟩|⟨_,b,c,_⟩|⟨y,_⟩
 .omega
 .obtain⟨y1,y2,y3⟩:=Gz b.1 b.2
  have e1:a/4/4=a/16:=by omega
  have c':As p.zV.mem (BO p.low (a/16)).toNat (a/4%4)=IB (AC p.zY (a/4)).a:=by rw[<-e1];exact c
  unfold Bq;rw[l2,if_pos x1,x2,c',if_pos y1,y2,x3,y3];rfl
 .omega
theorem Zx{k:AO}(hk:kind=10∨kind=11){a b:Int}:Ae k (Ag kind a b 0)=Iz k (Ag kind a b 0):=by
 unfold Ae;rw[if_neg (show ¬(Ag kind a b 0).k=1 by show ¬kind=1;omega),if_neg (by rw[show BZ (Ag kind a b 0).k 2 6=false from WK.2 (by show kind<2∨6<kind;omega)];simp),if_neg (show ¬(Ag kind a b 0).k=7 by show ¬kind=7;omega),
  if_neg (show ¬(Ag kind a b 0).k=8 by show ¬kind=8;omega),if_neg (show ¬(Ag kind a b 0).k=9 by show ¬kind=9;omega),if_pos (show(Ag kind a b 0).k=10∨(Ag kind a b 0).k=11 from hk)]
def Hv(c:List Ad)(e p:Int)(f:Nat)(w:Bool):List Ad:=if GC c e p<0 then Ga c ⟨e,p,f,w⟩ else c
theorem XZ{k:AO}{c:Ac}:Iz k c=
 if BZ c.a 0 63=false∨(AJ k.zX c.e.toNat).root<0∨(c.k=11/\Dk c.b=false) then(k,0,3)
 else if(Bq k.mem (AJ k.zX c.e.toNat).root.toNat c.a.toNat).1≠0 then(k,0,3)
 else if c.k=11/\(Bq k.mem (AJ k.zX c.e.toNat).root.toNat c.a.toNat).2.2=false then(k,0,1)
 else if c.k=11 then({k with mem:=Bz k.mem (Bq k.mem (AJ k.zX c.e.toNat).root.toNat c.a.toNat).2.1 (c.a%4).toNat c.b,zW:=Hv k.zW c.e (c.a/4) (Bq k.mem (AJ k.zX c.e.toNat).root.toNat c.a.toNat).2.1 (Bq k.mem (AJ k.zX c.e.toNat).root.toNat c.a.toNat).2.2},0,0)
 else({k with zW:=Hv k.zW c.e (c.a/4) (Bq k.mem (AJ k.zX c.e.toNat).root.toNat c.a.toNat).2.1 (Bq k.mem (AJ k.zX c.e.toNat).root.toNat c.a.toNat).2.2},As k.mem (Bq k.mem (AJ k.zX c.e.toNat).root.toNat c.a.toNat).2.1 (c.a%4).toNat,0):=rfl
theorem YD(h:Du p){a:Nat}(ha:a<64)(hw:(AC p.zY (a/4)).w=1):
 Ae p.zV (Ag 10 (a:Int) 0 0)=({p.zV with zW:=Hv p.zV.zW 0 ((a/4:Nat):Int) (AC p.zY (a/4)).a.toNat true},As p.zV.mem (AC p.zY (a/4)).a.toNat (a%4),0):=by
 rw[Zx (.inl rfl)];have jl:=h.walk ha hw;have hr:=h.root;unfold Iz;have e0:(AJ p.zV.zX (Ag 10 (a:Int) 0 0).e.toNat).root=Ab p.zV 0:=rfl;have e1:(Ag 10 (a:Int) 0 0).a.toNat=a:=rfl;have e2:(Ag 10 (a:Int) 0 0).a/4=((a/4:Nat):Int):=by show(a:Int)/4=_;omega
 have e3:((Ag 10 (a:Int) 0 0).a%4).toNat=a%4:=by show((a:Int)%4).toNat=_;omega
 simp only[e0,e1,e2,e3,jl];rw[if_neg,if_neg (by decide),if_neg,if_neg]
 .rfl
 .show ¬(10:Int)=11;decide
 .rintro⟨_,x⟩;cases x
 .rintro(x|x|⟨x,_⟩)
  .rw[show BZ (Ag 10 (a:Int) 0 0).a 0 63=true from AZ.2 ⟨by show(0:Int)<=(a:Int);omega,by show(a:Int)<=63;omega⟩] at x;cases x
  .omega
  .exact absurd (show(10:Int)=11 from x) (by decide)
theorem Wy(h:Du p){a:Nat}(ha:a<64)(hw:(AC p.zY (a/4)).w=1){w:Int}(de:Dk w=true):
 Ae p.zV (Ag 11 (a:Int) w 0)=({p.zV with mem:=Bz p.zV.mem (AC p.zY (a/4)).a.toNat (a%4) w,zW:=Hv p.zV.zW 0 ((a/4:Nat):Int) (AC p.zY (a/4)).a.toNat true},0,0):=by
 rw[Zx (.inr rfl)];have jl:=h.walk ha hw;have hr:=h.root;unfold Iz;have e0:(AJ p.zV.zX (Ag 11 (a:Int) w 0).e.toNat).root=Ab p.zV 0:=rfl;have e1:(Ag 11 (a:Int) w 0).a.toNat=a:=rfl;have e2:(Ag 11 (a:Int) w 0).a/4=((a/4:Nat):Int):=by show(a:Int)/4=_;omega
 have e3:((Ag 11 (a:Int) w 0).a%4).toNat=a%4:=by show((a:Int)%4).toNat=_;omega
 simp only[e0,e1,e2,e3,jl];rw[if_neg,if_neg (by decide),if_neg,if_pos]
 .rfl
 .rfl
 .rintro⟨_,x⟩;cases x
 .rintro(x|x|⟨_,x⟩)
  .rw[show BZ (Ag 11 (a:Int) w 0).a 0 63=true from AZ.2 ⟨by show(0:Int)<=(a:Int);omega,by show(a:Int)<=63;omega⟩] at x;cases x
  .omega
  .rw[show Dk (Ag 11 (a:Int) w 0).b=true from de] at x;cases x
theorem Du.zW(h:Du p){c:List Ad}(hk:DQ {p.zV with zW:=c}):Du {p with zV:= {p.zV with zW:=c}}:=
 ⟨hk,h.zD,h.zv,h.may,h.alone,h.root,h.zt,h.yM,h.lows,h.zO,h.slots,λn K=>h.zY n K,h.zR,h.zU,h.count⟩
theorem PX(h:Du p){a:Nat}(ha:a<64)(hy:(BN p (a/4)).2=true):
 (IN p a).2.2=true/\(IN p a).2.1=Dx p a/\Du (IN p a).1/\∀b,b<64->Dx (IN p a).1 b=Dx p b:=by
 have T:=Qx h (n:=a/4) (by omega) hy;have hd:=YD T.ok ha T.w;have hk:=FR (k:=(BN p (a/4)).1.zV) T.ok.k (kind:=10) (a:=(a:Int)) (b:=0) (c:=0);rw[hd] at hk;unfold IN;simp only[hy,if_true,hd];refine⟨trivial,?_,T.ok.zW hk,λb X=>?_⟩
 .rw[<-T.words a ha]
  unfold Dx;rw[if_pos T.w]
 .rw[<-T.words b X];rfl
theorem NP(h:Du p){a:Nat}(ha:a<64)(hy:(BN p (a/4)).2=false):IN p a=(p,0,false):=by have:=Fn h (n:=a/4) (by omega) hy;unfold IN;simp[hy,this]
theorem Lu(h:Du p){a:Nat}(ha:a<64){w:Int}(hy:(BN p (a/4)).2=false):GR p a w=(p,false):=by have:=Fn h (n:=a/4) (by omega) hy;unfold GR;simp[hy,this]
theorem aE(J:a/4=b/4)(Y:a%4=b%4):a=b:=by omega
theorem Du.put(h:Du p){a:Nat}(ha:a<64)(hw:(AC p.zY (a/4)).w=1){w:Int}{c:List Ad}(hk:DQ {p.zV with mem:=Bz p.zV.mem (AC p.zY (a/4)).a.toNat (a%4) w,zW:=c}):
 Du {p with zV:= {p.zV with mem:=Bz p.zV.mem (AC p.zY (a/4)).a.toNat (a%4) w,zW:=c}}/\
 ∀b,b<64->Dx {p with zV:= {p.zV with mem:=Bz p.zV.mem (AC p.zY (a/4)).a.toNat (a%4) w,zW:=c}} b=if b=a then w else Dx p b:=by
 have fk:=h.zH (n:=a/4) (by omega) hw;have iO:∀f i,As (Bz p.zV.mem (AC p.zY (a/4)).a.toNat (a%4) w) f i=if f=(AC p.zY (a/4)).a.toNat/\i=a%4 then w else As p.zV.mem f i:=λf i=>Qo (by rw[h.meml];exact fk.1) (by rw[h.rowl fk.1];omega)
 refine⟨⟨hk,h.zD,h.zv,h.may,h.alone,h.root,h.zt,h.yM,λi R=>?_,h.zO,h.slots,λn K=>?_,h.zR,h.zU,h.count⟩,λb X=>?_⟩
 .obtain⟨x1,x2,x3,x4⟩:=h.lows i R
  refine⟨x1,x2,?_,x4⟩
  show As (Bz p.zV.mem _ _ w) (Ab p.zV 0).toNat i=_
  rw[iO,if_neg (λe=>h.yT (n:=a/4) (by omega) hw e.1)];exact x3
 .have e:Bt {p with zV:= {p.zV with mem:=Bz p.zV.mem (AC p.zY (a/4)).a.toNat (a%4) w,zW:=c}} n=Bt p n:=by
   unfold Bt
   show As (Bz p.zV.mem _ _ w) (BO p.low (n/4)).toNat (n%4)=_
   rw[iO,if_neg (λe=>h.zf (n:=a/4) (i:=n/4) (by omega) hw (by omega) e.1)]
  have:=h.zY n K;unfold Kl at this ⊢;rw[e];exact this
 .unfold Dx
  show(if(AC p.zY (b/4)).w=1 then As (Bz p.zV.mem _ _ w) (AC p.zY (b/4)).a.toNat (b%4) else if(AC p.zY (b/4)).w=2 then _ else _)=_
  by_cases e:b=a
  .subst e
   rw[if_pos hw,if_pos rfl,iO,if_pos ⟨rfl,rfl⟩]
  .rw[if_neg e]
   by_cases w1:(AC p.zY (b/4)).w=1
   .rw[if_pos w1,if_pos w1,iO,if_neg]
    rintro⟨x,y⟩;exact e (aE (h.yZ (by omega) (by omega) w1 hw x) y)
   .rw[if_neg w1,if_neg w1]
theorem Nh(h:Du p){a:Nat}(ha:a<64){w:Int}(de:Dk w=true)(hy:(BN p (a/4)).2=true):
 (GR p a w).2=true/\Du (GR p a w).1/\(∀b,b<64->Dx (GR p a w).1 b=if b=a then w else Dx p b)/\(AC (GR p a w).1.zY (a/4)).w=1:=by
 have T:=Qx h (n:=a/4) (by omega) hy;have hd:=Wy T.ok ha T.w de;have hk:=FR (k:=(BN p (a/4)).1.zV) T.ok.k (kind:=11) (a:=(a:Int)) (b:=w) (c:=0);rw[hd] at hk;have P:=T.ok.put ha T.w (w:=w) hk;unfold GR;simp only[hy,if_true,hd];refine⟨trivial,P.1,λb X=>?_,T.w⟩;rw[<-T.words b X];exact P.2 b X
theorem VK(h:Du p){a:Nat}(ha:a<64):Du (IN p a).1:=by
 cases hy:(BN p (a/4)).2
 .rw[NP h ha hy];exact h
 .exact(PX h ha hy).2.2.1
theorem OX(h:Du p){a:Nat}(ha:a<64){w:Int}(de:Dk w=true):Du (GR p a w).1:=by
 cases hy:(BN p (a/4)).2
 .rw[Lu h ha hy];exact h
 .exact(Nh h ha de hy).2.1
theorem Kf(h:Du p){n:Nat}(K:n<16):Du (BN p n).1:=by
 cases hy:(BN p n).2
 .rw[Fn h K hy];exact h
 .exact(Qx h K hy).ok
theorem Vc(h:Du p){n:Nat}(hw:(AC p.zY n).w=1):(BN p n).2=true:=by rw[Nj h hw]
theorem Wz(h:Du p){a:Nat}(ha:a<64){w:Int}(de:Dk w=true)(hy:(BN p (a/4)).2=true):(IN (GR p a w).1 a).2.2=true/\(IN (GR p a w).1 a).2.1=w:=by obtain⟨_,s2,s3,s4⟩:=Nh h ha de hy;obtain⟨l1,l2,_⟩:=PX s2 ha (Vc s2 s4);refine⟨l1,?_⟩;rw[l2,s3 a ha,if_pos rfl]
def CJ(k:AO)(c:Ac)(kind:Int):Int:=
 if BZ c.a 0 11=false∨(zS k.zZ c.a.toNat).k=0 then 3
 else if By (AJ k.zX c.e.toNat).zT (zS k.zZ c.a.toNat).g=false then 1
 else if(0<kind/\(zS k.zZ c.a.toNat).k≠kind)∨(kind=0/\Bh (zS k.zZ c.a.toNat).k=false) then 3
 else 0
theorem J7{k:AO}{c:Ac}(J:2<=c.k)(Y:c.k<=6):Ae k c=Gt k c:=by unfold Ae;rw[if_neg (by omega),if_pos (AZ.2 ⟨J,Y⟩)]
theorem Vw{k:AO}{c:Ac}(h:c.k=2):Ae k c=if CJ k c 1=0 then(if(zS k.zZ c.a.toNat).r≠0 then(k,0,2) else({k with zZ:=k.zZ.set c.a.toNat AV.zero},0,0)) else(k,0,CJ k c 1):=by
 rw[J7 (by omega) (by omega)];unfold Gt CJ KR Fl;rw[h]
 by_cases a1:BZ c.a 0 11=false∨(zS k.zZ c.a.toNat).k=0
 .rw[if_pos a1,if_pos (by rcases a1 with a1|a1<;>simp[a1])];rfl
 .have b7:=not_or.1 a1
  rw[if_neg a1,if_neg (by simp[b7.1,b7.2])];cases By (AJ k.zX c.e.toNat).zT (zS k.zZ c.a.toNat).g
  .rfl
  .by_cases a2:(zS k.zZ c.a.toNat).k=1
   .simp[a2]
   .simp[a2]
theorem Vy{k:AO}{c:Ac}(h:c.k=3):Ae k c=if CJ k c 1=0 then(if BZ c.b 0 3=false∨Dk c.c=false then(k,0,3) else({k with mem:=Bz k.mem c.a.toNat c.b.toNat c.c},0,0)) else(k,0,CJ k c 1):=by
 rw[J7 (by omega) (by omega)];unfold Gt CJ Kb Fl;rw[h]
 by_cases a1:BZ c.a 0 11=false∨(zS k.zZ c.a.toNat).k=0
 .rw[if_pos a1,if_pos (by rcases a1 with a1|a1<;>simp[a1])];rfl
 .have b7:=not_or.1 a1
  rw[if_neg a1,if_neg (by simp[b7.1,b7.2])];cases By (AJ k.zX c.e.toNat).zT (zS k.zZ c.a.toNat).g
  .rfl
  .by_cases a2:(zS k.zZ c.a.toNat).k=1
   .simp[a2]
   .simp[a2]
theorem Xl{k:AO}{c:Ac}(h:c.k=4∨c.k=5):Ae k c=if BZ c.a 0 11=false∨(zS k.zZ c.a.toNat).k=0∨(c.k=4/\Bh c.b=false) then(k,0,3)
 else if Fl k c.e (zS k.zZ c.a.toNat).g=false then(k,0,1)
 else ET k (if c.k=4 then IF k.mem k.zZ c.a.toNat c.b (AJ k.zX c.e.toNat).zT else Dz k.mem k.zZ c.a.toNat):=by
 rw[J7 (by omega) (by omega)];unfold Gt
 rcases h with h|h<;>simp[h]
def Zq(k:AO)(c:Ac):Mh:=
 if BZ c.b 0 3=false∨Dt k c=false then(k,0,3)
 else if(Fo k c.a.toNat).all (λe=>BM k.zZ (DY k c.c) (AJ k.zX e).zT)=false then(k,0,1)
 else if Bm c.c=true/\Fl k c.e (zS k.zZ (BC c.c)).g=false then(k,0,1)
 else({k with mem:=Bz k.mem c.a.toNat c.b.toNat c.c,zZ:=A5 (A5 k.zZ (As k.mem c.a.toNat c.b.toNat) (-1)) c.c 1,zW:=(Fo k c.a.toNat).foldl (λc e=>GJ c (e:Nat)) k.zW},0,0)
theorem Xm{k:AO}{c:Ac}(h:c.k=6):Ae k c=if CJ k c 0=0 then Zq k c else(k,0,CJ k c 0):=by
 rw[J7 (by omega) (by omega)];unfold Gt CJ H7 Zq Fl;rw[h]
 by_cases a1:BZ c.a 0 11=false∨(zS k.zZ c.a.toNat).k=0
 .rw[if_pos a1,if_pos (by rcases a1 with a1|a1<;>simp[a1])];rfl
 .have b7:=not_or.1 a1
  rw[if_neg a1,if_neg (by simp[b7.1,b7.2])];cases By (AJ k.zX c.e.toNat).zT (zS k.zZ c.a.toNat).g
  .rfl
  .cases a2:Bh (zS k.zZ c.a.toNat).k<;>simp
theorem Jp{k:AO}{c:Ac}(h:CJ k c kind=0):BZ c.a 0 11=true/\(zS k.zZ c.a.toNat).k≠0/\By (AJ k.zX c.e.toNat).zT (zS k.zZ c.a.toNat).g=true/\(0<kind->(zS k.zZ c.a.toNat).k=kind)/\(kind=0->Bh (zS k.zZ c.a.toNat).k=true):=by
 unfold CJ at h
 by_cases a1:BZ c.a 0 11=false∨(zS k.zZ c.a.toNat).k=0
 .rw[if_pos a1] at h;cases h
 .rw[if_neg a1] at h
  have b7:=not_or.1 a1;cases hm:By (AJ k.zX c.e.toNat).zT (zS k.zZ c.a.toNat).g
  .rw[hm] at h;cases h
  .rw[hm,if_neg (by simp)] at h
   by_cases a2:(0<kind/\(zS k.zZ c.a.toNat).k≠kind)∨(kind=0/\Bh (zS k.zZ c.a.toNat).k=false)
   .rw[if_pos a2] at h;cases h
   .have kQ:=not_or.1 a2
    refine⟨by simpa using b7.1,b7.2,rfl,λh0=>?_,λh0=>?_⟩
    .exact Classical.byContradiction λhx=>kQ.1 ⟨h0,hx⟩
    .cases ht:Bh (zS k.zZ c.a.toNat).k
     .exact absurd ⟨h0,ht⟩ kQ.2
     .rfl
def IJ(zZ:List AV)(old:Int):List AV:=if 0<=old then At zZ old.toNat (Jk (-1)) else zZ
def Na(zZ:List AV)(new:Int):List AV:=if 0<=new then At zZ new.toNat (Jk 1) else zZ
theorem Zk{k:AO}{c:Ac}:PA k c=
 if c.a≠ -1/\(BZ c.a 0 11=false∨(zS k.zZ c.a.toNat).k≠3) then(k,0,3)
 else if BM k.zZ (Be k.mem c.a) (AJ k.zX c.e.toNat).zT=false then(k,0,1)
 else({k with zZ:=Na (IJ k.zZ (AJ k.zX c.e.toNat).root) c.a,zX:=At k.zX c.e.toNat (D5 c.a),zW:=GJ k.zW c.e},0,0):=rfl
theorem Vz{k:AO}{c:Ac}(h:c.k=7):Ae k c=PA k c:=by unfold Ae;rw[if_neg (by omega),if_neg (by rw[h];decide),if_pos h]
theorem Ul{k:AO}{c:Ac}(h:c.k=8):Ae k c=Lc k c:=by unfold Ae;rw[if_neg (by omega),if_neg (by rw[h];decide),if_neg (by omega),if_pos h]
theorem Tc{k:AO}{c:Ac}(h:c.k=9):Ae k c=KB k c:=by unfold Ae;rw[if_neg (by omega),if_neg (by rw[h];decide),if_neg (by omega),if_neg (by omega),if_pos h]
theorem Xn{k:AO}{c:Ac}(h:c.k=10∨c.k=11):Ae k c=Iz k c:=by unfold Ae;rw[if_neg (by omega),if_neg (by rcases h with h|h<;>rw[h]<;>decide),if_neg (by omega),if_neg (by omega),if_neg (by omega),if_pos h]
theorem Uk{k:AO}(h:DQ k){e p:Nat}{j:Nat}(hj:j<k.zW.length)(V:BB (e:Int) (p:Int) (AT k.zW j)=true){a:Nat}(ha:a/4=p):
 ∃fr:Nat,fr<12/\AT k.zW j=⟨(e:Int),(p:Int),(fr:Int),(AT k.zW j).w⟩/\Bq k.mem (AJ k.zX e).root.toNat a=(0,fr,(AT k.zW j).w):=by
 have hx:AT k.zW j∈k.zW:=yh (A2 hj);have ht:=h.trans _ hx;have hc:=(Eg.1 h.zW).1 _ hx;generalize AT k.zW j=x at*;obtain⟨xe,xp,xf,xw⟩:=x;simp only[BB,yu,decide_eq_true_eq] at V;obtain⟨rfl,rfl⟩:=V;simp only[Bl,yu,AZ] at hc;obtain⟨_,h0,jX⟩:=hc;obtain⟨fr,rfl⟩:∃fr:Nat,xf=(fr:Int):=⟨xf.toNat,by omega⟩
 refine⟨fr,by omega,rfl,?_⟩;simp only[Ct,yu,decide_eq_true_eq,yd] at ht;have e1:Bq k.mem (AJ k.zX e).root.toNat a=Bq k.mem (AJ k.zX e).root.toNat (4*p):=by unfold Bq;rw[show 4*p/16=a/16 by omega,show 4*p/4%4=a/4%4 by omega]
 rw[e1];exact ht.2
def TW(lo:Nat)(w:World)(v:Value)(f a:Nat)(b:Bool):Prop:=∃q,v=.pointer (some ⟨q,0,none⟩)/\lo<=q/\w.heap[q]?=some (.cells #[.int .i64 f,.int .i64 a,.bool b] 114 (0,0))
theorem TW.below{lo:Nat}{w w':World}{b:Bool}(h:TW lo w v f a b)(X:Below w.heap.size w w'):TW lo w' v f a b:=by obtain⟨q,h0,J,Y⟩:=h;exact⟨q,h0,J,AB Y X⟩
theorem Ka{W w':World}{q T:Nat}{x y Hd a b c:Value}(h:w'.heap[q]?=some (.cells #[x,y,Hd] T (0,0)))(X:Below W.heap.size W w')(hq:W.heap.size<=q):
 (((w'.setCell ⟨q,0,none⟩ a).setCell ⟨q,1,none⟩ b).setCell ⟨q,2,none⟩ c).heap[q]?=some (.cells #[a,b,c] T (0,0))/\Below W.heap.size W (((w'.setCell ⟨q,0,none⟩ a).setCell ⟨q,1,none⟩ b).setCell ⟨q,2,none⟩ c):=by
 refine⟨?_,((X.setCell hq _).setCell hq _).setCell hq _⟩;have J:=yq w' q 0 _ T a h;have Y:=yq _ q 1 _ T b J;have h3:=yq _ q 2 _ T c Y;simpa using h3
def DV(lo:Nat)(b:Bool)(v:Value)(w:World)(f a:Int)(t:Bool):Prop:=∃q,v=.pointer (some ⟨q,0,none⟩)/\lo<=q/\w.heap[q]?=some (.cells (if b then #[.int .i64 f,.int .i64 a,.bool t] else #[.int .i64 0,.int .i64 0,.bool false]) 114 (0,0))
theorem DV.below{lo:Nat}{b:Bool}{w w':World}{f a:Int}{t:Bool}(h:DV lo b v w f a t)(X:Below w.heap.size w w'):DV lo b v w' f a t:=by obtain⟨q,h0,J,Y⟩:=h;exact⟨q,h0,J,AB Y X⟩
theorem DV.zero{lo q:Nat}{b:Bool}{w:World}{f a:Int}{t:Bool}(X:b=false)(hq:lo<=q)(hh:w.heap[q]?=some (.cells #[.int .i64 0,.int .i64 0,.bool false] 114 (0,0))):DV lo b (.pointer (some ⟨q,0,none⟩)) w f a t:=⟨q,rfl,hq,by rw[X];exact hh⟩
theorem Zw{lo g:Nat}{w:World}{m i e c:Value}{k:AO}(h:Il lo w g m i e c k)(au:lo<=w.heap.size)(hK:DQ k)(N:Ac)(he:0<=N.e)(K:N.e<3)(hk:N.k=10∨N.k=11):
 Calls prog 170 #[N.on g] w (Fs lo g w (Iz k N)):=by
 have S0:=Eb.start h au N;have C0:=AA (λW=>BJ (FJ N.a W));have C1:=AA (λW=>BJ (IU N.b W));have P:=XZ (k:=k) (c:=N);obtain⟨k1,e1,a1,b1,c1,nm⟩:=N;obtain⟨en,rfl⟩:∃n:Nat,e1=(n:Int):=⟨e1.toNat,by simp only at he;omega⟩
 have dh:en<3:=by simp only at K;omega
 simp only[Ac.on,Ac.onCells] at C0 C1 S0 P hk ⊢;simp only[yd] at P;obtain⟨ge,ad,e9,_,⟨⟨fP,fO⟩,fN,fM⟩,_⟩:=S0.zX (by rw[hK.zN];omega);rw[hK.zN] at e9;obtain⟨gi,cl,e8,_,_,⟨⟨fL,fJ⟩,fI,fH⟩,_⟩:=S0.zZ (by rw[hK.len];omega);rw[hK.len] at e8;obtain⟨gm,bB,e7,_,⟨fG,fF⟩,fE,fD⟩:=S0.mems (Ar hK).1;subst e7 e8 e9;obtain⟨y0,y1,y2,y3,y4,y5,y6⟩:=S0.ys;have Z:=AA hK;have HS:=AA S0;have CE:=AA (λW (hW:Below (w.alloc (.cells #[.pointer (some ⟨g,0,none⟩),.int .i64 k1,.int .i64 en,.int .i64 a1,.int .i64 b1,.int .i64 c1,.string nm] 126)).heap.size _ W)=>HS.out.callEnv (en:=en) rfl dh W hW);simp only[Ac.on,Ac.onCells] at CE;clear hK h S0 au he K
 rcases hk with rfl|rfl
 .have HP:=AA P
  clear P;go_in;go_wp2_with fail;generalize hW0:w.alloc _=W0 at*;clear hW0;refine(CE.out _ (yD _ _)).mono ?_;rintro r W1 ⟨rfl,dj⟩;have S1:=AA (HS.out.below dj);clear y0 y1 y2 y3 y4 y5 y6;obtain⟨y0,y1,y2,y3,y4,y5,y6⟩:=S1.out.ys;obtain⟨_,_,_,D1,_⟩:=S1.out.env (j:=en) (by rw[Z.out.zN];exact dh);clear dj;cases e4:BZ a1 0 63
  .have T:=AA e4
   have Hb:=AA (show Iz k ⟨10,(en:Int),a1,b1,c1,nm⟩=(k,0,3) by rw[HP.out,if_pos (.inl e4)]);clear e4;go_wp2_with (refine(C0.out W1).mono ?_;rintro r w1 ⟨rfl,ao⟩;rw[T.out];have S2:=AA (S1.out.below ao));go_ret2;exact Fs.bad Hb.out (by decide) S2.out.bel
  .have T:=AA e4
   have ab:=AZ.1 e4;obtain⟨H,rfl⟩:∃n:Nat,a1=(n:Int):=⟨a1.toNat,by omega⟩
   have c7:H<64:=by omega
   clear e4;go_wp2_with fail;refine(C0.out W1).mono ?_;rintro r W2 ⟨rfl,ao⟩;rw[T.out];have S2:=AA (S1.out.below ao);clear y0 y1 y2 y3 y4 y5 y6 D1;obtain⟨y0,y1,y2,y3,y4,y5,y6⟩:=S2.out.ys;clear ao
   by_cases e5:(AJ k.zX en).root<0
   .have Hb:=AA (show Iz k ⟨10,(en:Int),(H:Int),b1,c1,nm⟩=(k,0,3) by rw[HP.out,if_pos (.inr (.inl e5))])
    go_wp2_with fail;go_ret2;exact Fs.bad Hb.out (by decide) S2.out.bel
   .obtain⟨rn,hrn⟩:∃n:Nat,(AJ k.zX en).root=(n:Int):=⟨(AJ k.zX en).root.toNat,by omega⟩
    have fT:rn<12:=by have:=zA Z.out dh;omega
    have HR:=AA hrn;have l7:¬(rn:Int)<0:=by omega
    clear e5;rw[hrn];clear hrn;obtain⟨W5,rfl⟩:∃W5:World,W5=W2:=⟨_,rfl⟩
    have S5:=S2;clear S2;go_wp2_with fail;clear y0 y1 y2 y3 y4 y5 y6;have cn:=AA (show Iz k ⟨10,(en:Int),(H:Int),b1,c1,nm⟩=_ by rw[HP.out,if_neg (by rintro(x|x|⟨x,_⟩);(· rw[T.out] at x;cases x);(· rw[show(AJ k.zX en).root=(rn:Int) from HR.out] at x;omega);(· exact absurd x (by decide)))]);have c6:=λW (hW:Below W5.heap.size W5 W)=>Qz _ k.mem rn H W (S5.out.yI.2.2.rd.1.below hW) (Ar Z.out).1 fT c7
    have gq:=AA (Z.out.yQ (e:=en) (a:=H) dh (by show(0:Int)<=(AJ k.zX en).root;rw[HR.out];omega));unfold IK Kz Ed at c6;rw[HR.out] at cn;simp only[yd] at cn;have bN:=gq.out;unfold Ab at bN;rw[HR.out] at bN;simp only[yd] at bN;obtain⟨a4,ha4e⟩:∃n,n=H%4:=⟨_,rfl⟩
    simp only[<-ha4e] at c6;have kb:=AA ha4e;have iU:a4<4:=by omega
    clear ha4e;generalize hwp:Bq k.mem rn H=x at*;obtain⟨cp,fp,wp⟩:=x;simp only at c6 cn bN;obtain⟨y0,y1,y2,y3,y4,y5,y6⟩:=S5.out.ys;obtain⟨x0,_,_,_⟩:=S5.out.xs;obtain⟨ep,eu,gM,gN⟩:=S5.out.lts
    by_cases e7:cp=0
    .subst e7
     simp only[if_true] at c6;have CW:=AA c6;have fo:=AA (bN rfl).1;clear c6 bN gq hwp;refine Co 16 121 (λix=>ix==14) [.p w.heap.size 0,.p g 0,.p g 0,.p g 0,.s gm 12 bB,.i ((rn:Int)),.p w.heap.size 1,.p w.heap.size 3,.i ((H:Int)),.v (.tuple #[.agg #[.int .i64 fp,.int .i64 a4,.bool wp],.int .i64 0]),.v (.tuple #[.agg #[.int .i64 fp,.int .i64 a4,.bool wp],.int .i64 0]),.a #[.int .i64 fp,.int .i64 a4,.bool wp],.i 0,.z,.z,.i 0] (λll ix vv ww=>match ix with
      |13=>DV W5.heap.size (ll 14) vv ww ((fp:Int)) ((a4:Int)) wp
      |_=>True) (λll ww=>Below W5.heap.size W5 ww) ?_ ?_ ?_ ?_ ?_ ?_
     .exact Av (yD _ _) 1
     .intro j hj ll i vv wz cq R hS dP gF bb hz
      match j,hj with
      |13,_=>exact(DV.below (by rw[EB (by rintro rfl;cases hS)];exact hz) bb)
      |0,_|1,_|2,_|3,_|4,_|5,_|6,_|7,_|8,_|9,_|10,_|11,_|12,_|14,_|15,_=>exact hz
      |_+16,hq=>omega
     .intro ll i wz cq R hS dP bb O
      exact O.trans (bb.mono O.size)
     .intro i R hS o L a wx E ll z HL A hn Z
      have dl:=bc A ep y0;have dk:=bc A eu x0;have dr:=bc A ep y3
      match i,R,hS with
      |0,_,_|2,_,_|3,_,_|5,_,_|6,_,_|7,_,_|10,_,_|11,_,_|12,_,_|15,_,_=>exact Rb L Z E z HL
      |1,_,_=>exact JM L Z E z HL (hl:=KS ‹_›)
      |4,_,_=>exact JM L Z E z HL (hl:=F9 ‹_›)
      |8,_,_=>exact JM L Z E z HL (hl:=FT ‹_›)
      |9,_,_=>exact ct L Z E z HL (CW.out _ A)
      |14,_,V=>cases V
      |13,_,_=>clear dl dk dr;obtain rfl:=yF L;have ft:=A9 HL 14;clear z E;refine yE ?_;go_simp;exact Z.out _ _ (DV.zero (by rw[EB (by decide)];exact ft) A.size (yi _ _)) (AI _ _)
      |_+16,hq,_=>omega
     .intro i R hS o L a wx E ll z HL A hn Z
      match i,R,hS with
      |0,_,V|1,_,V|2,_,V|3,_,V|4,_,V|5,_,V|6,_,V|7,_,V|8,_,V|9,_,V|10,_,V|11,_,V|12,_,V|13,_,V|15,_,V=>cases V
      |14,_,_=>
       obtain rfl:=yF L;have gf:DV W5.heap.size (ll 14) (a.tmps[6]?.getD undef) wx ((fp:Int)) ((a4:Int)) wp:=Cw z HL 13;have fl:(a.tmps[50]?.getD undef)=.agg #[.int .i64 fp,.int .i64 a4,.bool wp]:=Cw z HL 11;clear z E;obtain⟨q,gd,da,aq⟩:=gf;rw[HL.out.1] at aq;replace aq:wx.heap[q]?=some (.cells #[.int .i64 0,.int .i64 0,.bool false] 114 (0,0)):=aq;have c0:=ym _ _ 0 _ _ _ aq;have ik:=ym _ _ 1 _ _ _ aq;have c2:=ym _ _ 2 _ _ _ aq;have fq:=AK aq;have Pl:=AA (Ka (W:=W5) (a:=.int .i64 fp) (b:=.int .i64 a4) (c:=.bool wp) aq A da);have gr:=AA gd;clear aq;refine yE ?_;go_simp;exact Z.out undef _ trivial Pl.out.2 (λj gy dy dT hu=>match j,dy with
        |0,_|1,_|2,_|3,_|4,_|5,_|6,_|7,_|8,_|9,_|10,_|11,_|12,_|14,_|15,_=>hu
        |13,_=>⟨q,gr.out,da,by rw[FN];exact Pl.out.1⟩
        |_+16,hq=>absurd hq (by omega))
      |_+16,hq,_=>omega
     .intro D wx ll bl hR A
      have eh:(D 11)=.agg #[.int .i64 fp,.int .i64 a4,.bool wp]:=BS hR 11;have b8:(D 12)=.int .i64 0:=BS hR 12;have bY:DV W5.heap.size (ll 14) (D 13) wx ((fp:Int)) ((a4:Int)) wp:=BS hR 13;have ef:(D 15)=.int .i64 0:=BS hR 15;clear hR;simp only[Cn,BQ,yC,yy,yz,yx,eh,b8,ef];simp;generalize D 13=z13 at bY ⊢;clear eh b8 ef;obtain⟨q,rfl,da,aq⟩:=bY;rw[bl 14 (by decide)] at aq;replace aq:wx.heap[q]?=some (.cells #[.int .i64 fp,.int .i64 a4,.bool wp] 114 (0,0)):=aq;have S6:=AA (S5.out.below A);have eC:=aq;clear aq x0 y0 y1 y2 y3 y4 y5 y6 A bl;obtain⟨W6,rfl⟩:∃W6:World,W6=wx:=⟨_,rfl⟩
      have fv:=ym _ _ 2 _ _ _ eC;go_wp2_with fail;clear fv;have dQ:=AA (show Iz k ⟨10,(en:Int),(H:Int),b1,c1,nm⟩=({k with zW:=Hv k.zW (en:Int) ((H:Int)/4) fp wp},As k.mem fp a4,0) by rw[cn.out,if_neg (by simp),if_neg (by rintro⟨x,_⟩;exact absurd x (by decide)),if_neg (by decide),show((H:Int)%4).toNat=a4 by have:=kb.out;omega])
      obtain⟨y0,_,_,y3,y4,_,_⟩:=S6.out.ys;obtain⟨x0,_,_,_⟩:=S6.out.xs;obtain⟨gw,bt,Dw,f0,jH,Dj,eD,⟨⟨fC,fB⟩,fA,fy⟩,_,_,SW⟩:=S6.out.mrow (Ar Z.out).1 (f:=fp) fo.out;have z0:=xX (ym _ _ 0 _ _ _ eC);have z1:=xX (ym _ _ 1 _ _ _ eC);replace y0:=xX y0;replace x0:=xX x0;replace Dw:=xX Dw;have cd:(fp:Int)<12:=by have:=fo.out;omega
      have lZ:(a4:Int)<4:=by omega
      have eN:=S6.out.lts.1;have HD:=AA Dj;clear Dj SW;refine Bj ?_
      repeat(go_big_quiet_step (fail))
      refine Bi λwq bq=>?_
      clear z0 z1 y0 x0 Dw;have S7:=AA (S6.out.below bq);have f9:=AA (AB eC bq);have Dv:=(bq.cell (p:=⟨gw,a4,none⟩) f0).trans (HD.out a4 iU);replace y3:=(bq.cell (p:=⟨w.heap.size,3,none⟩) eN).trans y3;replace y4:=(bq.cell (p:=⟨w.heap.size,4,none⟩) eN).trans y4;have lP:(0:Int)<=(H:Int):=by omega
      obtain⟨W7,rfl⟩:∃W7:World,W7=wq:=⟨_,rfl⟩
      clear y4 eD HD bq eC;go_wp2_with fail;clear y3 Dv;obtain⟨y0,_,y2,y3,_,_,_⟩:=S7.out.ys;obtain⟨_,_,_,x3⟩:=S7.out.xs;obtain⟨g6,f4,_,_⟩:=S7.out.lts;have RC:DJ W7 c k.zW:=S7.out.yI.2.2.2.2.2.rd;have CF:=AA (λW (hW:Below W7.heap.size W7 W)=>Mj c k.zW (en:Int) ((H:Int)/4) W (BK.below RC hW));clear RC;refine Aa 10 121 [.p w.heap.size 0,.p g 0,.p g 0,.p g 3,.v c,.p w.heap.size 1,.p w.heap.size 2,.i ((en:Int)),.i (((H:Int)/4)),.i (GC k.zW (en:Int) ((H:Int)/4))] (λ_ _ _=>True) ?_ ?_
      .intro i R o L a wx E z A hn Z
       match i,R with
       |0,_|2,_|3,_|5,_|6,_|8,_=>exact sP L Z E z
       |1,_=>exact sL L Z E z (hl:=KS (bc A g6 y0))
       |4,_=>exact sL L Z E z (hl:=VH (bc A f4 x3))
       |7,_=>exact sL L Z E z (hl:=FT (bc A g6 y2))
       |9,_=>exact sD L Z E z (CF.out _ A)
      .intro D wx hR A
       have q9:(D 9)=.int .i64 (GC k.zW (en:Int) ((H:Int)/4)):=BS hR 9;clear hR;simp only[Ak,Ah,yC,yy,yz,yx,q9];simp;clear q9;have S8:=AA (S7.out.below A);have j9:=AA (A);clear y0 y2 y3 x3 A
       by_cases hM:GC k.zW (en:Int) ((H:Int)/4)<0
       rotate_left
       .have HU:=AA (show Hv k.zW (en:Int) ((H:Int)/4) fp wp=k.zW by unfold Hv;rw[if_neg hM])
        go_wp2_with fail;go_ret2;exact⟨by rw[dQ.out]<;>rfl,λ_=>⟨_,_,_,_,by rw[dQ.out,HU.out];exact S8.out.yI⟩,S8.out.bel⟩
       .have HU:=AA (show Hv k.zW (en:Int) ((H:Int)/4) fp wp=Ga k.zW ⟨(en:Int),((H:Int)/4),(fp:Int),wp⟩ by unfold Hv;rw[if_pos hM])
        obtain⟨W8,rfl⟩:∃W8:World,W8=wx:=⟨_,rfl⟩
        have eX:=AB f9.out j9.out;obtain⟨y0,_,y2,y3,_,_,_⟩:=S8.out.ys;obtain⟨_,_,_,x3⟩:=S8.out.xs;obtain⟨g5,dn,gM,gN⟩:=S8.out.lts;have gX:=AW eX;have gL:=ym _ _ 0 _ _ _ eX;have fv:=ym _ _ 2 _ _ _ eX;have RC:DJ W8 c k.zW:=S8.out.yI.2.2.2.2.2.rd;have hX:Bl ⟨(en:Int),((H:Int)/4),(fp:Int),wp⟩=true:=by have:=fo.out;simp only[Bl,yu,AZ];omega
        have CP:=AA (λW (hW:Below W8.heap.size W8 W)=>Mv c k.zW ⟨(en:Int),((H:Int)/4),(fp:Int),wp⟩ W (BK.below RC hW) (Ar Z.out).2.2 hX);simp only[Ad.val] at CP;clear RC hX eX;go_wp2_with fail;refine Co 23 121 (λix=>ix==22) [.p w.heap.size 0,.p g 0,.p w.heap.size 0,.p g 0,.p g 0,.p g 3,.v c,.p w.heap.size 1,.p w.heap.size 2,.i ((en:Int)),.i (((H:Int)/4)),.p q 0,.i ((fp:Int)),.p q 2,.b wp,.a #[.int .i64 en,.int .i64 (((H:Int)/4)),.int .i64 fp,.bool wp],.z,.z,.z,.b true,.p g 0,.p g 3,.z] (λll ix vv ww=>match ix with
         |16|17=>∃v',vv=.tuple #[v',.bool true]/\AQ W8.heap.size 112 4 AU ww v' (Ga k.zW ⟨(en:Int),((H:Int)/4),(fp:Int),wp⟩)
         |18=>AQ W8.heap.size 112 4 AU ww vv (Ga k.zW ⟨(en:Int),((H:Int)/4),(fp:Int),wp⟩)
         |_=>True) (λll ww=>TN W8 lo g w.heap.size ⟨10,(en:Int),(H:Int),b1,c1,nm⟩ w (.slice (some ⟨gm,0,none⟩) 12 bB) (.slice (some ⟨gi,0,none⟩) 12 cl) (.slice (some ⟨ge,0,none⟩) 3 ad) {k with zW:=(Ga k.zW ⟨(en:Int),((H:Int)/4),(fp:Int),wp⟩)} (ll 22) ww) ?_ ?_ ?_ ?_ ?_ ?_
        .exact Av (yD _ _) 1
        .intro j hj ll i vv wz cq R hS dP gF bb hz
         match j,hj with
         |16,_|17,_=>exact(by obtain⟨v',h0,J⟩:=hz;exact⟨v',h0,AQ.below J bb⟩)
         |18,_=>exact(AQ.below hz bb)
         |0,_|1,_|2,_|3,_|4,_|5,_|6,_|7,_|8,_|9,_|10,_|11,_|12,_|13,_|14,_|15,_|19,_|20,_|21,_|22,_=>exact hz
         |_+23,hq=>omega
        .intro ll i wz cq R hS dP bb O
         show TN _ _ _ _ _ _ _ _ _ _ (GU ll i 22) _
         rw[EB (by rintro rfl;cases hS)];exact TN.grow O bb
        .intro i R hS o L a wx E ll z HL A hn Z
         match i,R,hS with
         |0,_,_|2,_,_|4,_,_|5,_,_|7,_,_|8,_,_|10,_,_|11,_,_|13,_,_|15,_,_|20,_,_|21,_,_=>exact Rb L Z E z HL
         |1,_,_|3,_,_=>have bK:=A9 HL 22;rw[bK] at A;replace A:Below W8.heap.size W8 wx:=A;have dl:=bc A g5 y0;exact JM L Z E z HL (hl:=KS ‹_›)
         |6,_,_=>have bK:=A9 HL 22;rw[bK] at A;replace A:Below W8.heap.size W8 wx:=A;have dk:=bc A dn x3;exact JM L Z E z HL (hl:=VH ‹_›)
         |9,_,_=>have bK:=A9 HL 22;rw[bK] at A;replace A:Below W8.heap.size W8 wx:=A;have dr:=bc A g5 y2;exact JM L Z E z HL (hl:=FT ‹_›)
         |12,_,_=>have bK:=A9 HL 22;rw[bK] at A;replace A:Below W8.heap.size W8 wx:=A;have fS:=bc A gX gL;exact JM L Z E z HL (hl:=FT ‹_›)
         |14,_,_=>have bK:=A9 HL 22;rw[bK] at A;replace A:Below W8.heap.size W8 wx:=A;have fQ:=bc A gX fv;exact JM L Z E z HL (hl:=dI ‹_›)
         |22,_,V=>cases V
         |16,_,_=>obtain rfl:=yF L;have d6:(a.tmps[105]?.getD undef)=c:=Cw z HL 6;have mf:(a.tmps[114]?.getD undef)=.agg #[.int .i64 en,.int .i64 (((H:Int)/4)),.int .i64 fp,.bool wp]:=Cw z HL 15;have bK:=A9 HL 22;rw[bK] at A;replace A:Below W8.heap.size W8 wx:=A;clear z E;refine yE ?_;go_simp;refine(CP.out _ A).mono ?_;rintro e w_ ⟨v',rfl,hO,ao⟩;exact Z.out _ _ ⟨_,rfl,hO.lower A.size⟩ ao
         |17,_,_=>
          obtain rfl:=yF L;have ig:∃v',(a.tmps[115]?.getD undef)=.tuple #[v',.bool true]/\AQ W8.heap.size 112 4 AU wx v' (Ga k.zW ⟨(en:Int),((H:Int)/4),(fp:Int),wp⟩):=Cw z HL 16
          have bK:=A9 HL 22;rw[bK] at A;replace A:Below W8.heap.size W8 wx:=A;clear z E;obtain⟨v',ig,hO⟩:=ig;refine yE ?_;go_simp;exact Z.out _ _ ⟨_,rfl,hO⟩ (yD _ _)
         |18,_,_=>
          obtain rfl:=yF L;have eE:∃v',(a.tmps[98]?.getD undef)=.tuple #[v',.bool true]/\AQ W8.heap.size 112 4 AU wx v' (Ga k.zW ⟨(en:Int),((H:Int)/4),(fp:Int),wp⟩):=Cw z HL 17
          have bK:=A9 HL 22;rw[bK] at A;replace A:Below W8.heap.size W8 wx:=A;clear z E;obtain⟨v',eE,hO⟩:=eE;refine yE ?_;go_simp;exact Z.out _ _ hO (yD _ _)
         |19,_,_=>
          obtain rfl:=yF L;have eE:∃v',(a.tmps[98]?.getD undef)=.tuple #[v',.bool true]/\AQ W8.heap.size 112 4 AU wx v' (Ga k.zW ⟨(en:Int),((H:Int)/4),(fp:Int),wp⟩):=Cw z HL 17
          clear z E;obtain⟨v',eE,hO⟩:=eE;refine yE ?_;go_simp;exact Z.out _ _ rfl (yD _ _)
         |_+23,hq,_=>omega
        .intro i R hS o L a wx E ll z HL A hn Z
         match i,R,hS with
         |0,_,V|1,_,V|2,_,V|3,_,V|4,_,V|5,_,V|6,_,V|7,_,V|8,_,V|9,_,V|10,_,V|11,_,V|12,_,V|13,_,V|14,_,V|15,_,V|16,_,V|17,_,V|18,_,V|19,_,V|20,_,V|21,_,V=>cases V
         |22,_,_=>
          obtain rfl:=yF L;have me:(a.tmps[119]?.getD undef)=.pointer (some ⟨g,3,none⟩):=Cw z HL 21;have fa:AQ W8.heap.size 112 4 AU wx (a.tmps[116]?.getD undef) (Ga k.zW ⟨(en:Int),((H:Int)/4),(fp:Int),wp⟩):=Cw z HL 18;clear z E;rw[HL.out.1] at A;replace A:Below W8.heap.size W8 wx:=A;have kg:=(S8.out.below A).xs.2.2.2;have kM:=AK (S8.out.below A).yI.1;generalize e116:a.tmps[116]?.getD undef=v16 at fa;have S9:=AA (S8.out.zW A fa);obtain⟨_,_,rfl,_,_⟩:=fa.rd.shape;clear fa;refine yE ?_;go_simp;exact Z.out undef _ trivial (by rw[FN];exact⟨_,S9.out⟩) (λj gy dy dT hu=>match j,dy with
           |0,_|1,_|2,_|3,_|4,_|5,_|6,_|7,_|8,_|9,_|10,_|11,_|12,_|13,_|14,_|15,_|19,_|20,_|21,_|22,_=>hu
           |16,_|17,_=>(by obtain⟨v',h0,J⟩:=hu;exact⟨v',h0,KZ J dn⟩)
           |18,_=>KZ hu dn
           |_+23,hq=>absurd hq (by omega))
         |_+23,hq,_=>omega
        .intro D wx ll bl hR A
         clear hR;simp only[Cn,BQ,yC,yy,yz,yx];simp;rw[bl 22 (by decide)] at A;obtain⟨c',S9⟩:=A;have S9:=AA S9;clear bl y0 y2 y3 x3 gL fv;go_wp2_with fail;go_ret2;exact⟨by rw[dQ.out]<;>rfl,λ_=>⟨_,_,_,_,by rw[dQ.out,HU.out];exact S9.out.yI⟩,S9.out.bel⟩
    .have Hb:=AA (show Iz k ⟨10,(en:Int),(H:Int),b1,c1,nm⟩=(k,0,3) by rw[cn.out,if_pos e7])
     rw[if_neg e7] at c6;have CW:=AA c6;have l6:(cp !=0)=true:=by simp[e7]
     clear c6 bN gq hwp e7;refine Co 16 121 (λix=>ix==14) [.p w.heap.size 0,.p g 0,.p g 0,.p g 0,.s gm 12 bB,.i ((rn:Int)),.p w.heap.size 1,.p w.heap.size 3,.i ((H:Int)),.v (.tuple #[.agg #[.int .i64 0,.int .i64 0,.bool false],.int .i64 cp]),.v (.tuple #[.agg #[.int .i64 0,.int .i64 0,.bool false],.int .i64 cp]),.a #[.int .i64 0,.int .i64 0,.bool false],.i cp,.z,.z,.i cp] (λll ix vv ww=>match ix with
      |13=>DV W5.heap.size (ll 14) vv ww (0) (0) false
      |_=>True) (λll ww=>Below W5.heap.size W5 ww) ?_ ?_ ?_ ?_ ?_ ?_
     .exact Av (yD _ _) 1
     .intro j hj ll i vv wz cq R hS dP gF bb hz
      match j,hj with
      |13,_=>exact(DV.below (by rw[EB (by rintro rfl;cases hS)];exact hz) bb)
      |0,_|1,_|2,_|3,_|4,_|5,_|6,_|7,_|8,_|9,_|10,_|11,_|12,_|14,_|15,_=>exact hz
      |_+16,hq=>omega
     .intro ll i wz cq R hS dP bb O
      exact O.trans (bb.mono O.size)
     .intro i R hS o L a wx E ll z HL A hn Z
      have dl:=bc A ep y0;have dk:=bc A eu x0;have dr:=bc A ep y3
      match i,R,hS with
      |0,_,_|2,_,_|3,_,_|5,_,_|6,_,_|7,_,_|10,_,_|11,_,_|12,_,_|15,_,_=>exact Rb L Z E z HL
      |1,_,_=>exact JM L Z E z HL (hl:=KS ‹_›)
      |4,_,_=>exact JM L Z E z HL (hl:=F9 ‹_›)
      |8,_,_=>exact JM L Z E z HL (hl:=FT ‹_›)
      |9,_,_=>exact ct L Z E z HL (CW.out _ A)
      |14,_,V=>cases V
      |13,_,_=>clear dl dk dr;obtain rfl:=yF L;have ft:=A9 HL 14;clear z E;refine yE ?_;go_simp;exact Z.out _ _ (DV.zero (by rw[EB (by decide)];exact ft) A.size (yi _ _)) (AI _ _)
      |_+16,hq,_=>omega
     .intro i R hS o L a wx E ll z HL A hn Z
      match i,R,hS with
      |0,_,V|1,_,V|2,_,V|3,_,V|4,_,V|5,_,V|6,_,V|7,_,V|8,_,V|9,_,V|10,_,V|11,_,V|12,_,V|13,_,V|15,_,V=>cases V
      |14,_,_=>
       obtain rfl:=yF L;have gf:DV W5.heap.size (ll 14) (a.tmps[6]?.getD undef) wx (0) (0) false:=Cw z HL 13;have fl:(a.tmps[50]?.getD undef)=.agg #[.int .i64 0,.int .i64 0,.bool false]:=Cw z HL 11;clear z E;obtain⟨q,gd,da,aq⟩:=gf;rw[HL.out.1] at aq;replace aq:wx.heap[q]?=some (.cells #[.int .i64 0,.int .i64 0,.bool false] 114 (0,0)):=aq;have c0:=ym _ _ 0 _ _ _ aq;have ik:=ym _ _ 1 _ _ _ aq;have c2:=ym _ _ 2 _ _ _ aq;have fq:=AK aq;have Pl:=AA (Ka (W:=W5) (a:=.int .i64 0) (b:=.int .i64 0) (c:=.bool false) aq A da);have gr:=AA gd;clear aq;refine yE ?_;go_simp;exact Z.out undef _ trivial Pl.out.2 (λj gy dy dT hu=>match j,dy with
        |0,_|1,_|2,_|3,_|4,_|5,_|6,_|7,_|8,_|9,_|10,_|11,_|12,_|14,_|15,_=>hu
        |13,_=>⟨q,gr.out,da,by rw[FN];exact Pl.out.1⟩
        |_+16,hq=>absurd hq (by omega))
      |_+16,hq,_=>omega
     .intro D wx ll bl hR A
      have eh:(D 11)=.agg #[.int .i64 0,.int .i64 0,.bool false]:=BS hR 11;have b8:(D 12)=.int .i64 cp:=BS hR 12;have bY:DV W5.heap.size (ll 14) (D 13) wx (0) (0) false:=BS hR 13;have ef:(D 15)=.int .i64 cp:=BS hR 15;clear hR;simp only[Cn,BQ,yC,yy,yz,yx,eh,b8,ef];simp;generalize D 13=z13 at bY ⊢;clear eh b8 ef;have jR:=AA A;clear x0 y0 y1 y2 y3 y4 y5 y6 A bl bY;go_wp2_with fail;go_ret2;exact Fs.bad Hb.out (by decide) (S5.out.below jR.out).bel
 .have HP:=AA P
  clear P;go_in;go_wp2_with fail;generalize hW0:w.alloc _=W0 at*;clear hW0;refine(CE.out _ (yD _ _)).mono ?_;rintro r W1 ⟨rfl,dj⟩;have S1:=AA (HS.out.below dj);clear y0 y1 y2 y3 y4 y5 y6;obtain⟨y0,y1,y2,y3,y4,y5,y6⟩:=S1.out.ys;obtain⟨_,_,_,D1,_⟩:=S1.out.env (j:=en) (by rw[Z.out.zN];exact dh);clear dj;cases e4:BZ a1 0 63
  .have T:=AA e4
   have Hb:=AA (show Iz k ⟨11,(en:Int),a1,b1,c1,nm⟩=(k,0,3) by rw[HP.out,if_pos (.inl e4)]);clear e4;go_wp2_with (refine(C0.out W1).mono ?_;rintro r w1 ⟨rfl,ao⟩;rw[T.out];have S2:=AA (S1.out.below ao));go_ret2;exact Fs.bad Hb.out (by decide) S2.out.bel
  .have T:=AA e4
   have ab:=AZ.1 e4;obtain⟨H,rfl⟩:∃n:Nat,a1=(n:Int):=⟨a1.toNat,by omega⟩
   have c7:H<64:=by omega
   clear e4;go_wp2_with fail;refine(C0.out W1).mono ?_;rintro r W2 ⟨rfl,ao⟩;rw[T.out];have S2:=AA (S1.out.below ao);clear y0 y1 y2 y3 y4 y5 y6 D1;obtain⟨y0,y1,y2,y3,y4,y5,y6⟩:=S2.out.ys;clear ao
   by_cases e5:(AJ k.zX en).root<0
   .have Hb:=AA (show Iz k ⟨11,(en:Int),(H:Int),b1,c1,nm⟩=(k,0,3) by rw[HP.out,if_pos (.inr (.inl e5))])
    go_wp2_with fail;go_ret2;exact Fs.bad Hb.out (by decide) S2.out.bel
   .obtain⟨rn,hrn⟩:∃n:Nat,(AJ k.zX en).root=(n:Int):=⟨(AJ k.zX en).root.toNat,by omega⟩
    have fT:rn<12:=by have:=zA Z.out dh;omega
    have HR:=AA hrn;have l7:¬(rn:Int)<0:=by omega
    clear e5;rw[hrn];clear hrn;cases e6:BZ b1 0 9999
    .have T6:=AA e6
     have Hb:=AA (show Iz k ⟨11,(en:Int),(H:Int),b1,c1,nm⟩=(k,0,3) by rw[HP.out,if_pos (.inr (.inr ⟨by first|rfl|trivial,e6⟩))]);clear e6;go_wp2_with (refine(C1.out W2).mono ?_;rintro r w1 ⟨rfl,ao⟩;rw[T6.out];have S3:=AA (S2.out.below ao));go_ret2;exact Fs.bad Hb.out (by decide) S3.out.bel
    .have T6:=AA e6
     clear e6;go_wp2_with fail;refine(C1.out W2).mono ?_;rintro r W5 ⟨rfl,ao⟩;rw[T6.out];have S5:=AA (S2.out.below ao);clear S2 y0 y1 y2 y3 y4 y5 y6 ao;go_wp2_with fail;have cn:=AA (show Iz k ⟨11,(en:Int),(H:Int),b1,c1,nm⟩=_ by rw[HP.out,if_neg (by rintro(x|x|⟨_,x⟩);(· rw[T.out] at x;cases x);(· rw[show(AJ k.zX en).root=(rn:Int) from HR.out] at x;omega);(· rw[show Dk b1=true from T6.out] at x;cases x))]);have c6:=λW (hW:Below W5.heap.size W5 W)=>Qz _ k.mem rn H W (S5.out.yI.2.2.rd.1.below hW) (Ar Z.out).1 fT c7
     have gq:=AA (Z.out.yQ (e:=en) (a:=H) dh (by show(0:Int)<=(AJ k.zX en).root;rw[HR.out];omega));unfold IK Kz Ed at c6;rw[HR.out] at cn;simp only[yd] at cn;have bN:=gq.out;unfold Ab at bN;rw[HR.out] at bN;simp only[yd] at bN;obtain⟨a4,ha4e⟩:∃n,n=H%4:=⟨_,rfl⟩
     simp only[<-ha4e] at c6;have kb:=AA ha4e;have iU:a4<4:=by omega
     clear ha4e;generalize hwp:Bq k.mem rn H=x at*;obtain⟨cp,fp,wp⟩:=x;simp only at c6 cn bN;obtain⟨y0,y1,y2,y3,y4,y5,y6⟩:=S5.out.ys;obtain⟨x0,_,_,_⟩:=S5.out.xs;obtain⟨ep,eu,gM,gN⟩:=S5.out.lts
     by_cases e7:cp=0
     .subst e7
      simp only[if_true] at c6;have CW:=AA c6;have fo:=AA (bN rfl).1;clear c6 bN gq hwp;refine Co 16 121 (λix=>ix==14) [.p w.heap.size 0,.p g 0,.p g 0,.p g 0,.s gm 12 bB,.i ((rn:Int)),.p w.heap.size 1,.p w.heap.size 3,.i ((H:Int)),.v (.tuple #[.agg #[.int .i64 fp,.int .i64 a4,.bool wp],.int .i64 0]),.v (.tuple #[.agg #[.int .i64 fp,.int .i64 a4,.bool wp],.int .i64 0]),.a #[.int .i64 fp,.int .i64 a4,.bool wp],.i 0,.z,.z,.i 0] (λll ix vv ww=>match ix with
       |13=>DV W5.heap.size (ll 14) vv ww ((fp:Int)) ((a4:Int)) wp
       |_=>True) (λll ww=>Below W5.heap.size W5 ww) ?_ ?_ ?_ ?_ ?_ ?_
      .exact Av (yD _ _) 1
      .intro j hj ll i vv wz cq R hS dP gF bb hz
       match j,hj with
       |13,_=>exact(DV.below (by rw[EB (by rintro rfl;cases hS)];exact hz) bb)
       |0,_|1,_|2,_|3,_|4,_|5,_|6,_|7,_|8,_|9,_|10,_|11,_|12,_|14,_|15,_=>exact hz
       |_+16,hq=>omega
      .intro ll i wz cq R hS dP bb O
       exact O.trans (bb.mono O.size)
      .intro i R hS o L a wx E ll z HL A hn Z
       have dl:=bc A ep y0;have dk:=bc A eu x0;have dr:=bc A ep y3
       match i,R,hS with
       |0,_,_|2,_,_|3,_,_|5,_,_|6,_,_|7,_,_|10,_,_|11,_,_|12,_,_|15,_,_=>exact Rb L Z E z HL
       |1,_,_=>exact JM L Z E z HL (hl:=KS ‹_›)
       |4,_,_=>exact JM L Z E z HL (hl:=F9 ‹_›)
       |8,_,_=>exact JM L Z E z HL (hl:=FT ‹_›)
       |9,_,_=>exact ct L Z E z HL (CW.out _ A)
       |14,_,V=>cases V
       |13,_,_=>clear dl dk dr;obtain rfl:=yF L;have ft:=A9 HL 14;clear z E;refine yE ?_;go_simp;exact Z.out _ _ (DV.zero (by rw[EB (by decide)];exact ft) A.size (yi _ _)) (AI _ _)
       |_+16,hq,_=>omega
      .intro i R hS o L a wx E ll z HL A hn Z
       match i,R,hS with
       |0,_,V|1,_,V|2,_,V|3,_,V|4,_,V|5,_,V|6,_,V|7,_,V|8,_,V|9,_,V|10,_,V|11,_,V|12,_,V|13,_,V|15,_,V=>cases V
       |14,_,_=>
        obtain rfl:=yF L;have gf:DV W5.heap.size (ll 14) (a.tmps[6]?.getD undef) wx ((fp:Int)) ((a4:Int)) wp:=Cw z HL 13;have fl:(a.tmps[50]?.getD undef)=.agg #[.int .i64 fp,.int .i64 a4,.bool wp]:=Cw z HL 11;clear z E;obtain⟨q,gd,da,aq⟩:=gf;rw[HL.out.1] at aq;replace aq:wx.heap[q]?=some (.cells #[.int .i64 0,.int .i64 0,.bool false] 114 (0,0)):=aq;have c0:=ym _ _ 0 _ _ _ aq;have ik:=ym _ _ 1 _ _ _ aq;have c2:=ym _ _ 2 _ _ _ aq;have fq:=AK aq;have Pl:=AA (Ka (W:=W5) (a:=.int .i64 fp) (b:=.int .i64 a4) (c:=.bool wp) aq A da);have gr:=AA gd;clear aq;refine yE ?_;go_simp;exact Z.out undef _ trivial Pl.out.2 (λj gy dy dT hu=>match j,dy with
         |0,_|1,_|2,_|3,_|4,_|5,_|6,_|7,_|8,_|9,_|10,_|11,_|12,_|14,_|15,_=>hu
         |13,_=>⟨q,gr.out,da,by rw[FN];exact Pl.out.1⟩
         |_+16,hq=>absurd hq (by omega))
       |_+16,hq,_=>omega
      .intro D wx ll bl hR A
       have eh:(D 11)=.agg #[.int .i64 fp,.int .i64 a4,.bool wp]:=BS hR 11;have b8:(D 12)=.int .i64 0:=BS hR 12;have bY:DV W5.heap.size (ll 14) (D 13) wx ((fp:Int)) ((a4:Int)) wp:=BS hR 13;have ef:(D 15)=.int .i64 0:=BS hR 15;clear hR;simp only[Cn,BQ,yC,yy,yz,yx,eh,b8,ef];simp;generalize D 13=z13 at bY ⊢;clear eh b8 ef;obtain⟨q,rfl,da,aq⟩:=bY;rw[bl 14 (by decide)] at aq;replace aq:wx.heap[q]?=some (.cells #[.int .i64 fp,.int .i64 a4,.bool wp] 114 (0,0)):=aq;have S6:=AA (S5.out.below A);have eC:=aq;clear aq x0 y0 y1 y2 y3 y4 y5 y6 A bl;obtain⟨W6,rfl⟩:∃W6:World,W6=wx:=⟨_,rfl⟩
       have dQ:=AA (show Iz k ⟨11,(en:Int),(H:Int),b1,c1,nm⟩=if wp=false then(k,0,1) else({k with mem:=Bz k.mem fp a4 b1,zW:=Hv k.zW (en:Int) ((H:Int)/4) fp wp},0,0) by rw[cn.out,if_neg (by simp)];simp only[true_and,if_true,show((H:Int)%4).toNat=a4 by have:=kb.out;omega])
       have la:=ym _ _ 2 _ _ _ eC;cases wp
       .have Hb:=AA (show Iz k ⟨11,(en:Int),(H:Int),b1,c1,nm⟩=(k,0,1) by rw[dQ.out,if_pos rfl])
        go_wp2_with fail;go_ret2;exact Fs.bad Hb.out (by decide) S6.out.bel
       have j8:=AA (show Iz k ⟨11,(en:Int),(H:Int),b1,c1,nm⟩=({k with mem:=Bz k.mem fp a4 b1,zW:=Hv k.zW (en:Int) ((H:Int)/4) fp true},0,0) by rw[dQ.out,if_neg (by decide)]);go_wp2_with fail;clear la dQ;have dQ:=j8;obtain⟨y0,_,_,y3,y4,_,_⟩:=S6.out.ys;obtain⟨x0,_,_,_⟩:=S6.out.xs;obtain⟨gw,bt,iY,f0,jH,Dj,eD,⟨⟨fC,fB⟩,fA,fy⟩,_,_,SW⟩:=S6.out.mrow (Ar Z.out).1 (f:=fp) fo.out;have z0:=xX (ym _ _ 0 _ _ _ eC);have z1:=xX (ym _ _ 1 _ _ _ eC);replace y0:=xX y0;replace x0:=xX x0;have Dw:=xX iY;have cd:(fp:Int)<12:=by have:=fo.out;omega
       have lZ:(a4:Int)<4:=by omega
       have eN:=S6.out.lts.1;have HD:=AA Dj;clear Dj SW;refine Bj ?_
       repeat(go_big_quiet_step (fail))
       refine Bi λwq bq=>?_
       clear z0 z1 y0 x0 Dw;have S7:=AA (S6.out.below bq);have f9:=AA (AB eC bq);have Dv:=(bq.cell (p:=⟨gw,a4,none⟩) f0).trans (HD.out a4 iU);replace y3:=(bq.cell (p:=⟨w.heap.size,3,none⟩) eN).trans y3;replace y4:=(bq.cell (p:=⟨w.heap.size,4,none⟩) eN).trans y4;have lP:(0:Int)<=(H:Int):=by omega
       obtain⟨iS,fn,iX,lE,_,_,ie,_,_,kI,kR⟩:=S7.out.mrow (Ar Z.out).1 (f:=fp) fo.out;have c8:=(bq.cell (p:=⟨gm,fp,none⟩) (yA _ _ iY)).trans iY;rw[c8] at iX;have iK:gw=iS:=by simp at iX;exact iX.1
       subst iK;have kS:=AA (kR a4 b1 iU);have kJ:=AA (Ap f9.out (Aq wq gw a4 (.int .i64 b1)) (kI q _ _ f9.out (by decide)));have l4:=ie a4;clear eC kR kI ie c8 iX iY HD eD bq S7 f9 S6;go_wp2_with fail;clear y3 y4 Dv l4;generalize wq.setCell _ _=W7 at*;have S7:=kS;have f9:=kJ;clear kS kJ;obtain⟨y0,_,y2,y3,_,_,_⟩:=S7.out.ys;obtain⟨_,_,_,x3⟩:=S7.out.xs;obtain⟨g6,f4,_,_⟩:=S7.out.lts;have RC:DJ W7 c k.zW:=S7.out.yI.2.2.2.2.2.rd;have CF:=AA (λW (hW:Below W7.heap.size W7 W)=>Mj c k.zW (en:Int) ((H:Int)/4) W (BK.below RC hW));clear RC;refine Aa 10 121 [.p w.heap.size 0,.p g 0,.p g 0,.p g 3,.v c,.p w.heap.size 1,.p w.heap.size 2,.i ((en:Int)),.i (((H:Int)/4)),.i (GC k.zW (en:Int) ((H:Int)/4))] (λ_ _ _=>True) ?_ ?_
       .intro i R o L a wx E z A hn Z
        match i,R with
        |0,_|2,_|3,_|5,_|6,_|8,_=>exact sP L Z E z
        |1,_=>exact sL L Z E z (hl:=KS (bc A g6 y0))
        |4,_=>exact sL L Z E z (hl:=VH (bc A f4 x3))
        |7,_=>exact sL L Z E z (hl:=FT (bc A g6 y2))
        |9,_=>exact sD L Z E z (CF.out _ A)
       .intro D wx hR A
        have q9:(D 9)=.int .i64 (GC k.zW (en:Int) ((H:Int)/4)):=BS hR 9;clear hR;simp only[Ak,Ah,yC,yy,yz,yx,q9];simp;clear q9;have S8:=AA (S7.out.below A);have j9:=AA (A);clear y0 y2 y3 x3 A
        by_cases hM:GC k.zW (en:Int) ((H:Int)/4)<0
        rotate_left
        .have HU:=AA (show Hv k.zW (en:Int) ((H:Int)/4) fp true=k.zW by unfold Hv;rw[if_neg hM])
         go_wp2_with fail;go_ret2;exact⟨by rw[dQ.out]<;>rfl,λ_=>⟨_,_,_,_,by rw[dQ.out,HU.out];exact S8.out.yI⟩,S8.out.bel⟩
        .have HU:=AA (show Hv k.zW (en:Int) ((H:Int)/4) fp true=Ga k.zW ⟨(en:Int),((H:Int)/4),(fp:Int),true⟩ by unfold Hv;rw[if_pos hM])
         obtain⟨W8,rfl⟩:∃W8:World,W8=wx:=⟨_,rfl⟩
         have eX:=AB f9.out j9.out;obtain⟨y0,_,y2,y3,_,_,_⟩:=S8.out.ys;obtain⟨_,_,_,x3⟩:=S8.out.xs;obtain⟨g5,dn,gM,gN⟩:=S8.out.lts;have gX:=AW eX;have gL:=ym _ _ 0 _ _ _ eX;have fv:=ym _ _ 2 _ _ _ eX;have RC:DJ W8 c k.zW:=S8.out.yI.2.2.2.2.2.rd;have hX:Bl ⟨(en:Int),((H:Int)/4),(fp:Int),true⟩=true:=by have:=fo.out;simp only[Bl,yu,AZ];omega
         have CP:=AA (λW (hW:Below W8.heap.size W8 W)=>Mv c k.zW ⟨(en:Int),((H:Int)/4),(fp:Int),true⟩ W (BK.below RC hW) (Ar Z.out).2.2 hX);simp only[Ad.val] at CP;clear RC hX eX;go_wp2_with fail;refine Co 23 121 (λix=>ix==22) [.p w.heap.size 0,.p g 0,.p w.heap.size 0,.p g 0,.p g 0,.p g 3,.v c,.p w.heap.size 1,.p w.heap.size 2,.i ((en:Int)),.i (((H:Int)/4)),.p q 0,.i ((fp:Int)),.p q 2,.b true,.a #[.int .i64 en,.int .i64 (((H:Int)/4)),.int .i64 fp,.bool true],.z,.z,.z,.b true,.p g 0,.p g 3,.z] (λll ix vv ww=>match ix with
          |16|17=>∃v',vv=.tuple #[v',.bool true]/\AQ W8.heap.size 112 4 AU ww v' (Ga k.zW ⟨(en:Int),((H:Int)/4),(fp:Int),true⟩)
          |18=>AQ W8.heap.size 112 4 AU ww vv (Ga k.zW ⟨(en:Int),((H:Int)/4),(fp:Int),true⟩)
          |_=>True) (λll ww=>TN W8 lo g w.heap.size ⟨11,(en:Int),(H:Int),b1,c1,nm⟩ w (.slice (some ⟨gm,0,none⟩) 12 bB) (.slice (some ⟨gi,0,none⟩) 12 cl) (.slice (some ⟨ge,0,none⟩) 3 ad) {k with mem:=Bz k.mem fp a4 b1,zW:=(Ga k.zW ⟨(en:Int),((H:Int)/4),(fp:Int),true⟩)} (ll 22) ww) ?_ ?_ ?_ ?_ ?_ ?_
         .exact Av (yD _ _) 1
         .intro j hj ll i vv wz cq R hS dP gF bb hz
          match j,hj with
          |16,_|17,_=>exact(by obtain⟨v',h0,J⟩:=hz;exact⟨v',h0,AQ.below J bb⟩)
          |18,_=>exact(AQ.below hz bb)
          |0,_|1,_|2,_|3,_|4,_|5,_|6,_|7,_|8,_|9,_|10,_|11,_|12,_|13,_|14,_|15,_|19,_|20,_|21,_|22,_=>exact hz
          |_+23,hq=>omega
         .intro ll i wz cq R hS dP bb O
          show TN _ _ _ _ _ _ _ _ _ _ (GU ll i 22) _
          rw[EB (by rintro rfl;cases hS)];exact TN.grow O bb
         .intro i R hS o L a wx E ll z HL A hn Z
          match i,R,hS with
          |0,_,_|2,_,_|4,_,_|5,_,_|7,_,_|8,_,_|10,_,_|11,_,_|13,_,_|15,_,_|20,_,_|21,_,_=>exact Rb L Z E z HL
          |1,_,_|3,_,_=>have bK:=A9 HL 22;rw[bK] at A;replace A:Below W8.heap.size W8 wx:=A;have dl:=bc A g5 y0;exact JM L Z E z HL (hl:=KS ‹_›)
          |6,_,_=>have bK:=A9 HL 22;rw[bK] at A;replace A:Below W8.heap.size W8 wx:=A;have dk:=bc A dn x3;exact JM L Z E z HL (hl:=VH ‹_›)
          |9,_,_=>have bK:=A9 HL 22;rw[bK] at A;replace A:Below W8.heap.size W8 wx:=A;have dr:=bc A g5 y2;exact JM L Z E z HL (hl:=FT ‹_›)
          |12,_,_=>have bK:=A9 HL 22;rw[bK] at A;replace A:Below W8.heap.size W8 wx:=A;have fS:=bc A gX gL;exact JM L Z E z HL (hl:=FT ‹_›)
          |14,_,_=>have bK:=A9 HL 22;rw[bK] at A;replace A:Below W8.heap.size W8 wx:=A;have fQ:=bc A gX fv;exact JM L Z E z HL (hl:=dI ‹_›)
          |22,_,V=>cases V
          |16,_,_=>obtain rfl:=yF L;have d6:(a.tmps[105]?.getD undef)=c:=Cw z HL 6;have mf:(a.tmps[114]?.getD undef)=.agg #[.int .i64 en,.int .i64 (((H:Int)/4)),.int .i64 fp,.bool true]:=Cw z HL 15;have bK:=A9 HL 22;rw[bK] at A;replace A:Below W8.heap.size W8 wx:=A;clear z E;refine yE ?_;go_simp;refine(CP.out _ A).mono ?_;rintro e w_ ⟨v',rfl,hO,ao⟩;exact Z.out _ _ ⟨_,rfl,hO.lower A.size⟩ ao
          |17,_,_=>
           obtain rfl:=yF L;have ig:∃v',(a.tmps[115]?.getD undef)=.tuple #[v',.bool true]/\AQ W8.heap.size 112 4 AU wx v' (Ga k.zW ⟨(en:Int),((H:Int)/4),(fp:Int),true⟩):=Cw z HL 16
           have bK:=A9 HL 22;rw[bK] at A;replace A:Below W8.heap.size W8 wx:=A;clear z E;obtain⟨v',ig,hO⟩:=ig;refine yE ?_;go_simp;exact Z.out _ _ ⟨_,rfl,hO⟩ (yD _ _)
          |18,_,_=>
           obtain rfl:=yF L;have eE:∃v',(a.tmps[98]?.getD undef)=.tuple #[v',.bool true]/\AQ W8.heap.size 112 4 AU wx v' (Ga k.zW ⟨(en:Int),((H:Int)/4),(fp:Int),true⟩):=Cw z HL 17
           have bK:=A9 HL 22;rw[bK] at A;replace A:Below W8.heap.size W8 wx:=A;clear z E;obtain⟨v',eE,hO⟩:=eE;refine yE ?_;go_simp;exact Z.out _ _ hO (yD _ _)
          |19,_,_=>
           obtain rfl:=yF L;have eE:∃v',(a.tmps[98]?.getD undef)=.tuple #[v',.bool true]/\AQ W8.heap.size 112 4 AU wx v' (Ga k.zW ⟨(en:Int),((H:Int)/4),(fp:Int),true⟩):=Cw z HL 17
           clear z E;obtain⟨v',eE,hO⟩:=eE;refine yE ?_;go_simp;exact Z.out _ _ rfl (yD _ _)
          |_+23,hq,_=>omega
         .intro i R hS o L a wx E ll z HL A hn Z
          match i,R,hS with
          |0,_,V|1,_,V|2,_,V|3,_,V|4,_,V|5,_,V|6,_,V|7,_,V|8,_,V|9,_,V|10,_,V|11,_,V|12,_,V|13,_,V|14,_,V|15,_,V|16,_,V|17,_,V|18,_,V|19,_,V|20,_,V|21,_,V=>cases V
          |22,_,_=>
           obtain rfl:=yF L;have me:(a.tmps[119]?.getD undef)=.pointer (some ⟨g,3,none⟩):=Cw z HL 21;have fa:AQ W8.heap.size 112 4 AU wx (a.tmps[116]?.getD undef) (Ga k.zW ⟨(en:Int),((H:Int)/4),(fp:Int),true⟩):=Cw z HL 18;clear z E;rw[HL.out.1] at A;replace A:Below W8.heap.size W8 wx:=A;have kg:=(S8.out.below A).xs.2.2.2;have kM:=AK (S8.out.below A).yI.1;generalize e116:a.tmps[116]?.getD undef=v16 at fa;have S9:=AA (S8.out.zW A fa);obtain⟨_,_,rfl,_,_⟩:=fa.rd.shape;clear fa;refine yE ?_;go_simp;exact Z.out undef _ trivial (by rw[FN];exact⟨_,S9.out⟩) (λj gy dy dT hu=>match j,dy with
            |0,_|1,_|2,_|3,_|4,_|5,_|6,_|7,_|8,_|9,_|10,_|11,_|12,_|13,_|14,_|15,_|19,_|20,_|21,_|22,_=>hu
            |16,_|17,_=>(by obtain⟨v',h0,J⟩:=hu;exact⟨v',h0,KZ J dn⟩)
            |18,_=>KZ hu dn
            |_+23,hq=>absurd hq (by omega))
          |_+23,hq,_=>omega
         .intro D wx ll bl hR A
          clear hR;simp only[Cn,BQ,yC,yy,yz,yx];simp;rw[bl 22 (by decide)] at A;obtain⟨c',S9⟩:=A;have S9:=AA S9;clear bl y0 y2 y3 x3 gL fv;go_wp2_with fail;go_ret2;exact⟨by rw[dQ.out]<;>rfl,λ_=>⟨_,_,_,_,by rw[dQ.out,HU.out];exact S9.out.yI⟩,S9.out.bel⟩
     .have Hb:=AA (show Iz k ⟨11,(en:Int),(H:Int),b1,c1,nm⟩=(k,0,3) by rw[cn.out,if_pos e7])
      rw[if_neg e7] at c6;have CW:=AA c6;have l6:(cp !=0)=true:=by simp[e7]
      clear c6 bN gq hwp e7;refine Co 16 121 (λix=>ix==14) [.p w.heap.size 0,.p g 0,.p g 0,.p g 0,.s gm 12 bB,.i ((rn:Int)),.p w.heap.size 1,.p w.heap.size 3,.i ((H:Int)),.v (.tuple #[.agg #[.int .i64 0,.int .i64 0,.bool false],.int .i64 cp]),.v (.tuple #[.agg #[.int .i64 0,.int .i64 0,.bool false],.int .i64 cp]),.a #[.int .i64 0,.int .i64 0,.bool false],.i cp,.z,.z,.i cp] (λll ix vv ww=>match ix with
       |13=>DV W5.heap.size (ll 14) vv ww (0) (0) false
       |_=>True) (λll ww=>Below W5.heap.size W5 ww) ?_ ?_ ?_ ?_ ?_ ?_
      .exact Av (yD _ _) 1
      .intro j hj ll i vv wz cq R hS dP gF bb hz
       match j,hj with
       |13,_=>exact(DV.below (by rw[EB (by rintro rfl;cases hS)];exact hz) bb)
       |0,_|1,_|2,_|3,_|4,_|5,_|6,_|7,_|8,_|9,_|10,_|11,_|12,_|14,_|15,_=>exact hz
       |_+16,hq=>omega
      .intro ll i wz cq R hS dP bb O
       exact O.trans (bb.mono O.size)
      .intro i R hS o L a wx E ll z HL A hn Z
       have dl:=bc A ep y0;have dk:=bc A eu x0;have dr:=bc A ep y3
       match i,R,hS with
       |0,_,_|2,_,_|3,_,_|5,_,_|6,_,_|7,_,_|10,_,_|11,_,_|12,_,_|15,_,_=>exact Rb L Z E z HL
       |1,_,_=>exact JM L Z E z HL (hl:=KS ‹_›)
       |4,_,_=>exact JM L Z E z HL (hl:=F9 ‹_›)
       |8,_,_=>exact JM L Z E z HL (hl:=FT ‹_›)
       |9,_,_=>exact ct L Z E z HL (CW.out _ A)
       |14,_,V=>cases V
       |13,_,_=>clear dl dk dr;obtain rfl:=yF L;have ft:=A9 HL 14;clear z E;refine yE ?_;go_simp;exact Z.out _ _ (DV.zero (by rw[EB (by decide)];exact ft) A.size (yi _ _)) (AI _ _)
       |_+16,hq,_=>omega
      .intro i R hS o L a wx E ll z HL A hn Z
       match i,R,hS with
       |0,_,V|1,_,V|2,_,V|3,_,V|4,_,V|5,_,V|6,_,V|7,_,V|8,_,V|9,_,V|10,_,V|11,_,V|12,_,V|13,_,V|15,_,V=>cases V
       |14,_,_=>
        obtain rfl:=yF L;have gf:DV W5.heap.size (ll 14) (a.tmps[6]?.getD undef) wx (0) (0) false:=Cw z HL 13;have fl:(a.tmps[50]?.getD undef)=.agg #[.int .i64 0,.int .i64 0,.bool false]:=Cw z HL 11;clear z E;obtain⟨q,gd,da,aq⟩:=gf;rw[HL.out.1] at aq;replace aq:wx.heap[q]?=some (.cells #[.int .i64 0,.int .i64 0,.bool false] 114 (0,0)):=aq;have c0:=ym _ _ 0 _ _ _ aq;have ik:=ym _ _ 1 _ _ _ aq;have c2:=ym _ _ 2 _ _ _ aq;have fq:=AK aq;have Pl:=AA (Ka (W:=W5) (a:=.int .i64 0) (b:=.int .i64 0) (c:=.bool false) aq A da);have gr:=AA gd;clear aq;refine yE ?_;go_simp;exact Z.out undef _ trivial Pl.out.2 (λj gy dy dT hu=>match j,dy with
         |0,_|1,_|2,_|3,_|4,_|5,_|6,_|7,_|8,_|9,_|10,_|11,_|12,_|14,_|15,_=>hu
         |13,_=>⟨q,gr.out,da,by rw[FN];exact Pl.out.1⟩
         |_+16,hq=>absurd hq (by omega))
       |_+16,hq,_=>omega
      .intro D wx ll bl hR A
       have eh:(D 11)=.agg #[.int .i64 0,.int .i64 0,.bool false]:=BS hR 11;have b8:(D 12)=.int .i64 cp:=BS hR 12;have bY:DV W5.heap.size (ll 14) (D 13) wx (0) (0) false:=BS hR 13;have ef:(D 15)=.int .i64 cp:=BS hR 15;clear hR;simp only[Cn,BQ,yC,yy,yz,yx,eh,b8,ef];simp;generalize D 13=z13 at bY ⊢;clear eh b8 ef;have jR:=AA A;clear x0 y0 y1 y2 y3 y4 y5 y6 A bl bY;go_wp2_with fail;go_ret2;exact Fs.bad Hb.out (by decide) (S5.out.below jR.out).bel
def EU(k:AO)(a j:Nat):List Nat:=(yC j).filter λe=>(Be k.mem (AJ k.zX e).root).contains a
theorem XE{k:AO}{j:Nat}(h:(Be k.mem (AJ k.zX j).root).contains a=false):EU k a (j+1)=EU k a j:=by unfold EU;rw[xt,wm];simp only[vN,h,uD];simp
theorem Vf{k:AO}{j:Nat}(h:(Be k.mem (AJ k.zX j).root).contains a=true):EU k a (j+1)=EU k a j++[j]:=by unfold EU;rw[xt,wm];simp only[vN,h,uD];simp
theorem Lx{k:AO}{j:Nat}:(EU k a j).length<=j:=by unfold EU;exact yB (xy _ _) (by simp)
theorem XD{k:AO}{j e:Nat}(h:e∈EU k a j):e<j:=xS.1 (wQ.1 h).1
theorem JA{k:AO}:EU k a 3=Fo k a:=rfl
theorem RZ{ts l:List Nat}(h:∀g,g∈ts↔g∈l):(Az ts).contains (a:Int)=l.contains a:=by rw[wF,vG,vG,Kv,h]
def Gr(es:List Nat)(c:List Ad):List Ad:=es.foldl (λc e=>GJ c (e:Nat)) c
theorem SU{c:List Ad}(es:List Nat)(h:BT c=true):BT (Gr es c)=true:=Ut h
theorem Of{es:List Nat}{c:List Ad}{j:Nat}(h:j<es.length):Gr (es.take (j+1)) c=GJ (Gr (es.take j) c) ((es.getD j 0:Nat):Int):=by unfold Gr;rw[DA (A2 (d:=0) h),uZ];rfl
theorem aa{k:AO}{c:Ac}:H7 k c=
 if Bh (zS k.zZ c.a.toNat).k=false∨BZ c.b 0 3=false∨Dt k c=false then(k,0,3)
 else if(Fo k c.a.toNat).all (λe=>BM k.zZ (DY k c.c) (AJ k.zX e).zT)=false then(k,0,1)
 else if Bm c.c=true/\Fl k c.e (zS k.zZ (BC c.c)).g=false then(k,0,1)
 else({k with mem:=Bz k.mem c.a.toNat c.b.toNat c.c,zZ:=A5 (A5 k.zZ (As k.mem c.a.toNat c.b.toNat) (-1)) c.c 1,zW:=Gr (Fo k c.a.toNat) k.zW},0,0):=rfl
theorem Mt{zZ:List AV}(h:BP zZ=true):Jj zZ 50:=by
 intro f hf;have:=(A1.1 h).2 f (by rw[<-(A1.1 h).1];exact hf);unfold DU at this;simp only[xE,yu,decide_eq_true_eq,AZ] at this
 rcases this with h|h
 .rw[h];decide
 .omega
theorem Jj.refer{zZ:List AV}{b n:Int}(h:Jj zZ b)(hl:zZ.length=12)(K:n=1∨n= -1):Jj (A5 zZ x n) (b+1):=by
 intro f hf;rw[Cl] at hf;have:=h f hf;rw[Fa hl]
 show -(b+1)<=(zS zZ f).r+n*((EN (Dm f x):Nat):Int)/\(zS zZ f).r+n*((EN (Dm f x):Nat):Int)<=b+1
 unfold EN
 split<;>rcases K with rfl|rfl<;>omega
theorem Jj.mono{zZ:List AV}{b b':Int}(h:Jj zZ b)(X:b<=b'):Jj zZ b':=λf hf=>by have:=h f hf;omega
theorem OR{lo:Nat}{w:World}{xs:List Int}{g j:Nat}(h:AF lo w v xs)(O:g<lo):AF lo (w.setCell ⟨g,j,none⟩ u) v xs:=
 Aw h (Aq w g j u) (by
  rcases hv:v.ownBlock with _|b
  .exact .inl rfl
  .refine .inr λe=>?_
   cases e;have:=(yk h g hv).1;omega)
theorem Eb.refer{lo g b0:Nat}{w W:World}{m e c:Value}{k:AO}{ad:Nat}(h:CS lo g b0 N w W m (.slice (some ⟨gi,0,none⟩) 12 ad) e c k)(x n:Int)(hx:x<=9223372036854775807)(hl:k.zZ.length=12)(K:n=1∨n= -1)(V:Jj k.zZ 1000):
 Calls prog 252 #[N.on g,.int .i64 x,.int .i64 n] W λr w'=>r=.returned (.tuple #[])/\CS lo g b0 N w w' m (.slice (some ⟨gi,0,none⟩) 12 ad) e c {k with zZ:=A5 k.zZ x n}/\W.grownBy w' (some gi):=by
 have j7:=AA (AI W (.cells (N.onCells g) 126));obtain⟨call,X⟩:=Dd W (.cells (N.onCells g) 126);have J:=h.below X;have lw: -1<=n/\n<=1:=by omega
 have CE:=AA (λW=>Ff x W hx);have ki:=J.ze J.yI.2.2.2.1 rfl (by decide) (by decide);obtain⟨du,b6⟩:=A6 J.yI.2.2.2.1 gi rfl;have jC:gi≠W.heap.size:=by have:=h.zl;omega
 have hY:W.heap.size≠gi:=jC.symm;have iK:g≠W.heap.size:=by have:=h.lts.2.1;omega
 obtain⟨k1,e1,a1,b1,c1,jd⟩:=N;simp only[Ac.on,Ac.onCells] at call X J j7 ⊢;obtain⟨y0,y1,y2,y3,y4,y5,y6⟩:=KX (c:=⟨k1,e1,a1,b1,c1,jd⟩) call;cases O:Bm x
 .have hs:=AA (Eu O)
  have S:=AA (show A5 k.zZ x n=k.zZ by simp[A5,O]);have H1:=AA J;clear O h J V K y0 y1 y2 y3 y4 y5 y6 call hl ki b6;go_in;go_wp2_with (go_at_call 150;refine(CE.out _).mono ?_;rintro e w' ⟨rfl,rfl⟩;rw[hs.out]);go_returns;exact⟨rfl,by rw[S.out];exact H1.out,AY j7.out _⟩
 .have hF:=Ec O
  have hs:=AA (Ej O);have S:=AA (show A5 k.zZ x n=At k.zZ (BC x) (Jk n) by unfold A5;rw[O,if_pos rfl]);generalize BC x=f at*;have gz:f<k.zZ.length:=by omega
  obtain⟨s1,s2⟩:=V f gz;obtain⟨_,_,d2⟩:=J.zS gz;have T:=AA (J.info hl.symm gz n);have x1:=J.xs.2.1;have Fr:=J.fzi (f*3+2);have lN:(f:Int)<12:=by omega
  clear O h J V K call y1 y2 y3 y4 y5 y6 hl ki b6;go_in;go_wp2_with (go_at_call 150;refine(CE.out _).mono ?_;rintro e w' ⟨rfl,rfl⟩;rw[hs.out]);go_returns;exact⟨rfl,by rw[S.out];exact T.out,AP (AY j7.out _) (Aq _ _ _ _)⟩
theorem Zo{lo g:Nat}{w:World}{m i e c:Value}{k:AO}(h:Il lo w g m i e c k)(au:lo<=w.heap.size)(hK:DQ k)(N:Ac)(he:0<=N.e)(K:N.e<3)(ha:0<=N.a/\N.a<12)(di:N.c<=9223372036854775807):
 Calls prog 211 #[N.on g] w (Gx lo g w (H7 k N)):=by
 have S0:=Eb.start h au N;have P:=aa (k:=k) (c:=N);obtain⟨k1,e1,a1,b1,c1,nm⟩:=N;obtain⟨en,rfl⟩:∃n:Nat,e1=(n:Int):=⟨e1.toNat,by simp only at he;omega⟩
 obtain⟨H,rfl⟩:∃n:Nat,a1=(n:Int):=⟨a1.toNat,by simp only at ha;omega⟩
 have dh:en<3:=by simp only at K;omega
 have c7:H<12:=by simp only at ha;omega
 simp only[Ac.on,Ac.onCells] at S0 P di ⊢;simp only[yd] at P;obtain⟨ge,ad,e9,_,⟨⟨fP,fO⟩,fN,fM⟩,_⟩:=S0.zX (by rw[hK.zN];omega);rw[hK.zN] at e9;obtain⟨gi,cl,e8,_,_,⟨⟨fL,fJ⟩,fI,fH⟩,_⟩:=S0.zZ (by rw[hK.len];omega);rw[hK.len] at e8;obtain⟨gm,bB,e7,_,⟨fG,fF⟩,fE,fD⟩:=S0.mems (Ar hK).1;subst e7 e8 e9;obtain⟨y0,y1,y2,y3,y4,y5,y6⟩:=S0.ys;have Z:=AA hK;have HS:=AA S0;have HP:=AA P;have lX:(H:Int)<12:=by omega
 have k9:=AA (λW=>Ff c1 W di);replace y3:=xX y3;replace y4:=xX y4;replace y5:=xX y5;clear hK h S0 au he K P y0 y1 y2 y6 ha;go_in;go_wp2_with fail;generalize w.alloc _=W0 at*;refine Bj ?_
 repeat(go_big_quiet_step (fail))
 refine Bi λwq bq=>?_
 clear y3 y4 y5;have S2:=AA (HS.out.below bq);obtain⟨W2,rfl⟩:∃W2:World,W2=wq:=⟨_,rfl⟩
 clear bq;obtain⟨y0,_,_,_,_,_,_⟩:=S2.out.ys;obtain⟨x0,x1,_,_⟩:=S2.out.xs;obtain⟨d0,_,_⟩:=S2.out.zS (f:=H) (by rw[Z.out.len];exact c7);have cT:=Xg (w1:=W2) (λW=>Is (zS k.zZ H).k W);have cP:=Xg (w1:=W2) (λW=>Oh b1 W);have cN:=Xg (w1:=W2) (λW=>LS (zS k.zZ H).k W);cases O:Bm c1
 focus
  have hs:=AA (Eu O);have gk:=AA O;have kv:DY k c1=[]:=by unfold DY;rw[O];rfl
  have mi:=AA kv;have ff:Dt k ⟨k1,(en:Int),(H:Int),b1,c1,nm⟩=decide (c1=0):=by unfold Dt;rw[O];rfl
  clear O kv;go_wp2_with (go_at_call 150;refine(k9.out _).mono ?_;rintro e w' ⟨rfl,rfl⟩;rw[hs.out]);clear x1 d0 y0 x0;cases ht:Bh (zS k.zZ H).k
  .rw[ht] at cT
   have Hb:=AA (show H7 k ⟨k1,(en:Int),(H:Int),b1,c1,nm⟩=(k,0,3) by rw[HP.out,if_pos (.inl ht)]);refine Bj ?_
   repeat(go_big_quiet_step (first|exact cT _ _|exact cP _ _|exact cN _ _))
   refine Bi λwq bq=>?_
   go_wp2_with fail;go_ret;exact Gx.bad Hb.out (by decide) (S2.out.below bq).bel
  rw[ht] at cT;cases X:BZ b1 0 3
  .rw[X] at cP
   have Hb:=AA (show H7 k ⟨k1,(en:Int),(H:Int),b1,c1,nm⟩=(k,0,3) by rw[HP.out,if_pos (.inr (.inl X))]);refine Bj ?_
   repeat(go_big_quiet_step (first|exact cT _ _|exact cP _ _|exact cN _ _))
   refine Bi λwq bq=>?_
   go_wp2_with fail;go_ret;exact Gx.bad Hb.out (by decide) (S2.out.below bq).bel
  rw[X] at cP
  by_cases h0:c1=0
  rotate_left
  .have t0:(c1 !=0)=true:=by simp[h0]
   have Hb:=AA (show H7 k ⟨k1,(en:Int),(H:Int),b1,c1,nm⟩=(k,0,3) by rw[HP.out,if_pos (.inr (.inr (by rw[ff];simp[h0])))]);refine Bj ?_
   repeat(go_big_quiet_step (first|exact cT _ _|exact cP _ _|exact cN _ _))
   refine Bi λwq bq=>?_
   go_wp2_with fail;go_ret;exact Gx.bad Hb.out (by decide) (S2.out.below bq).bel
  have t0:(c1 !=0)=false:=by simp[h0]
  have cn:=AA (show H7 k ⟨k1,(en:Int),(H:Int),b1,c1,nm⟩=_ by rw[HP.out,if_neg (by rintro(x|x|x);(· rw[ht] at x;cases x);(· rw[X] at x;cases x);(· rw[ff,h0] at x;cases x))]);obtain⟨bn,rfl⟩:∃n:Nat,b1=(n:Int):=⟨b1.toNat,by have:=(AZ.1 X).1;omega⟩
  have dX:bn<4:=by have:=(AZ.1 X).2;omega
  simp only[yd] at cn;have mV:=AA h0;clear ff ht X h0;refine Bj ?_
  repeat(go_big_quiet_step (first|exact cT _ _|exact cP _ _|exact cN _ _))
  refine Bi λwq bq=>?_
  clear cT cP cN t0;have S5:=AA (S2.out.below bq);obtain⟨W5,rfl⟩:∃W5:World,W5=wq:=⟨_,rfl⟩
  clear bq S2;have il:=AA (xh W5 W5.heap.size 3 1);have il:Hid (AF W5.heap.size W5 (.slice none 0 0) (Az [])):=AA il.out;obtain⟨ts,hts⟩:∃ts:List Nat,ts=[]:=⟨_,rfl⟩
  have Hm:=AA (show ∀g,g∈ts↔g∈DY k c1 by rw[hts,mi.out];exact λ_=>Iff.rfl);have Ht:=AA (show ∀g,g∈ts->g<12 by rw[hts];intro g O;cases O);rw[<-hts] at il;clear hts
 rotate_left
 focus
  have hF:=Ec O;have hs:=AA (Ej O);have gk:=AA O;have ff:Dt k ⟨k1,(en:Int),(H:Int),b1,c1,nm⟩=decide ((zS k.zZ (BC c1)).k=(zS k.zZ H).k - 1):=by unfold Dt;rw[O];rfl
  have h0:c1≠0:=by rintro rfl;cases O
  have t0:(c1 !=0)=true:=by simp[h0]
  have HN:=AA (show DY k c1=BC c1::(if Bh (zS k.zZ (BC c1)).k then named (AG k.mem (BC c1)) else[]) by unfold DY;rw[O];rfl);clear O;obtain⟨f,hfe⟩:∃f,f=BC c1:=⟨_,rfl⟩
  have HF:=AA hfe.symm;rw[<-hfe] at hs HN ff hF;clear hfe;obtain⟨gG,_,_⟩:=S2.out.zS (f:=f) (by rw[Z.out.len];exact hF);have lN:(f:Int)<12:=by omega
  go_wp2_with (go_at_call 150;refine(k9.out _).mono ?_;rintro e w' ⟨rfl,rfl⟩;rw[hs.out]);replace y0:=xX y0;replace x1:=xX x1;replace gG:=xX gG;clear d0 x0;cases ht:Bh (zS k.zZ H).k
  .rw[ht] at cT
   have Hb:=AA (show H7 k ⟨k1,(en:Int),(H:Int),b1,c1,nm⟩=(k,0,3) by rw[HP.out,if_pos (.inl ht)]);refine Bj ?_
   repeat(go_big_quiet_step (first|exact cT _ _|exact cP _ _|exact cN _ _))
   refine Bi λwq bq=>?_
   go_wp2_with fail;go_ret;exact Gx.bad Hb.out (by decide) (S2.out.below bq).bel
  rw[ht] at cT;rw[Sp ht] at cN;cases X:BZ b1 0 3
  .rw[X] at cP
   have Hb:=AA (show H7 k ⟨k1,(en:Int),(H:Int),b1,c1,nm⟩=(k,0,3) by rw[HP.out,if_pos (.inr (.inl X))]);refine Bj ?_
   repeat(go_big_quiet_step (first|exact cT _ _|exact cP _ _|exact cN _ _))
   refine Bi λwq bq=>?_
   go_wp2_with fail;go_ret;exact Gx.bad Hb.out (by decide) (S2.out.below bq).bel
  rw[X] at cP
  by_cases h0:(zS k.zZ f).k=(zS k.zZ H).k - 1
  rotate_left
  .have t2:((zS k.zZ f).k !=(zS k.zZ H).k - 1)=true:=by simp[h0]
   have Hb:=AA (show H7 k ⟨k1,(en:Int),(H:Int),b1,c1,nm⟩=(k,0,3) by rw[HP.out,if_pos (.inr (.inr (by rw[ff];exact decide_eq_false h0)))]);refine Bj ?_
   repeat(go_big_quiet_step (first|exact cT _ _|exact cP _ _|exact cN _ _))
   refine Bi λwq bq=>?_
   go_wp2_with fail;go_ret;exact Gx.bad Hb.out (by decide) (S2.out.below bq).bel
  have t2:((zS k.zZ f).k !=(zS k.zZ H).k - 1)=false:=by simp[h0]
  have cn:=AA (show H7 k ⟨k1,(en:Int),(H:Int),b1,c1,nm⟩=_ by rw[HP.out,if_neg (by rintro(x|x|x);(· rw[ht] at x;cases x);(· rw[X] at x;cases x);(· rw[ff,decide_eq_true h0] at x;cases x))]);obtain⟨bn,rfl⟩:∃n:Nat,b1=(n:Int):=⟨b1.toNat,by have:=(AZ.1 X).1;omega⟩
  have dX:bn<4:=by have:=(AZ.1 X).2;omega
  simp only[yd] at cn;have cd:=hF;clear ff ht X h0 hF;refine Bj ?_
  repeat(go_big_quiet_step (first|exact cT _ _|exact cP _ _|exact cN _ _))
  refine Bi λwq bq=>?_
  clear cT cP cN t0 t2 y0 x1 gG;have S3:=AA (S2.out.below bq);obtain⟨W3,rfl⟩:∃W3:World,W3=wq:=⟨_,rfl⟩
  clear bq S2;have j4:=AI W3 (.cells #[.int .i64 f] 3);have O4:=AA (Lm W3 (f:Int));have S4:=AA (S3.out.below j4);have ip:=AA j4;clear j4;obtain⟨y0,_,_,_,_,_,_⟩:=S4.out.ys;obtain⟨x0,x1,_,_⟩:=S4.out.xs;obtain⟨gG,_,_⟩:=S4.out.zS (f:=f) (by rw[Z.out.len];exact cd);have CT:=AA (λW=>Is (zS k.zZ f).k W);go_wp2_with fail;refine(CT.out _).mono ?_;rintro r w9 ⟨rfl,rfl⟩;generalize W3.alloc _=W4 at*;go_upto_if 83 with fail;go_cut [10] (λlf wx=>∃ts b3,AF b3 wx lf (Az ts)/\(∀g,g∈ts↔g∈DY k c1)/\(∀g,g∈ts->g<12)/\CS lo g w.heap.size ⟨k1,(en:Int),(H:Int),(bn:Int),c1,nm⟩ w wx (.slice (some ⟨gm,0,none⟩) 12 bB) (.slice (some ⟨gi,0,none⟩) 12 cl) (.slice (some ⟨ge,0,none⟩) 3 ad) c k)
  case first=>
   cases jn:Bh (zS k.zZ f).k
   .go_wp2_with fail
    go_meet
    case rel=>exact⟨[f],_,O4.out,by rw[HN.out,jn];exact λ_=>Iff.rfl,by intro g O;rw[wX] at O;omega,S4.out⟩
   .have RM:=S4.out.yI.2.2.rd.1
    have CN:=Sn _ (.slice (some ⟨W3.heap.size,0,none⟩) 1 1) k.mem [f] W4 RM (Ar Z.out).1 (AF.rd O4.out) (by simpa using cd) (by simp);have ib:=LT (Ar Z.out).1 (ns:=[f]) (by simpa using cd);go_wp2_with fail;refine CN.mono ?_;rintro r w5 ⟨v5,t5,rfl,P5,m5,l5,h8⟩;have O5:=AA (show w5.ownsRow W3.heap.size 3 1 (.slice (some ⟨W3.heap.size,0,none⟩) 1 1) 1 ((Az [f]).map (xY .i64)) from O4.out.below h8);have R5:=AA (show Rd w5 v5 1 t5.length ((Az t5).map (xY .i64)) by have:=AF.rd P5;unfold Ax at this;rwa [Cj] at this);have lz:W3.heap.size<=w5.heap.size:=yB (by have:=(yk O4.out _ rfl);omega) h8.size;have gH:=AA (S4.out.below h8);have mw:=AA (ip.out.trans (h8.mono ip.out.size));have h5:t5.length<=4:=by simp at ib;omega
    have Hm:=AA (show ∀g,g∈[f]++t5↔g∈DY k c1 by intro g;rw[HN.out,jn,if_pos rfl,wC,wX,xD,m5];simp[H6])
    have Ht:=AA (show ∀g,g∈[f]++t5->g<12 by
     intro g O;rw[wC,wX] at O
     rcases O with rfl|O
     .exact cd
     .obtain⟨_,_,O⟩:=LU.1 ((m5 g).1 O)
      exact FW O)
    clear jn O4 S4 x0 x1 y0 gG CT RM P5 m5 l5 h8 ib CN;go_wp2_with (at_builtin;go_must (refine EW (lo:=W3.heap.size) (v:=.slice (some ⟨W3.heap.size,0,none⟩) 1 1) (n:=1) (xs:=(Az [f]).map (xY .i64)) (m:=t5.length) (news:=(Az t5).map (xY .i64)) rfl rfl 3 (.int .i64 0) 1 8 underlying29 Tryz.zI rfl (by decide) rfl O5.out rfl R5.out Lk (by unfold maxLen;omega) (by omega) (by omega) ?_;intro mD W5 iC gu iB;have y0:=(GL (o:=0) gu gH.out.lts.1 (Do O5.out gH.out.yK (by decide))).trans gH.out.ys.1;have x2:=(GL (o:=2) gu gH.out.lts.2.1 (Do O5.out gH.out.yI.1 (by decide))).trans gH.out.xs.2.2.1));go_meet
    case rel=>exact⟨[f]++t5,_,M7 (a:=[f]) (b:=t5) iC,Hm.out,Ht.out,S3.out.below (mw.out.trans iB)⟩
  case' rest=>
  obtain⟨ts,b3,kj,kw,km,kh⟩:=hcut;have il:=AA kj;have Hm:=AA kw;have Ht:=AA km;have S5:=AA kh;obtain⟨W5,rfl⟩:∃W5:World,W5=wc:=⟨_,rfl⟩
  clear kj kw km kh O4 S4 x0 x1 y0 gG CT
 all_goals
  obtain⟨y0,_,_,_,_,_,_⟩:=S5.out.ys;obtain⟨_,_,x2,_⟩:=S5.out.xs;go_wp2_with fail;clear y0 x2;go_loopw [11,99] (λld i9 wr=>∃j:Nat,j<=3/\i9=.int .i64 j/\AF W5.heap.size wr ld (Az (EU k H j))/\Below W5.heap.size W5 wr/\∀e,e∈EU k H j->BM k.zZ (DY k c1) (AJ k.zX e).zT=true) (λ_ i9 _=>3 - (intOf i9).toNat)
  exact⟨0,yg _,rfl,xh _ _ _ _,yD _ _,λe he=>by cases he⟩
  obtain⟨j,hj,rfl,hO,al,bl⟩:=hrel;have eG:=AA bl;clear bl;have lA:=Lx (k:=k) (a:=H) (j:=j);have S6:=AA (S5.out.below al);have HO:=AA hO;have cw:=AA al;obtain⟨eP,eO,rfl,_,_,_⟩:=hO.rd.open;rw[Cj] at HO ⊢;clear hO al
  by_cases az:j<3
  .obtain⟨ua,uc,kd,kc,R5⟩:=S5.out.env (j:=j) (by rw[Z.out.zN];exact az)
   have D0:=(cw.out.cell (yA _ _ kd)).trans kd;have D1:=(cw.out.cell (yA _ _ kc)).trans kc;have hi:=BK.below R5 cw.out;have mq:=AA R5;clear kd kc R5;obtain⟨NE,hZ⟩:=Dd wr (.cells #[.slice ua (AJ k.zX j).zT.length uc,.int .i64 (AJ k.zX j).root] 74);have S7:=AA (S6.out.below hZ);have js:(j:Int)<3:=by omega
   obtain⟨y0,_,_,_,_,_,_⟩:=S7.out.ys;obtain⟨x0,x1,_,_⟩:=S7.out.xs;obtain⟨jt,ay,_,_⟩:=S7.out.lts;have jr:=zA Z.out az;have RM:=Bk.below S6.out.yI.2.2.rd.1 hZ;have kT:Bb _ _ k.zZ:=S7.out.yI.2.2.2.1.rd;have R7:=BK.below hi hZ;have k6:=AA NE;have ks:=AW NE;have n0:=ym _ _ 0 _ _ _ NE;have n1:=ym _ _ 1 _ _ _ NE;have ml:=AA hZ;clear hZ NE hi;go_wp2_with fail;clear D0 D1;generalize wr.alloc _=W7 at*;obtain⟨qe,hqe⟩:∃q,q=wr.heap.size:=⟨_,rfl⟩
   rw[<-hqe] at k6 ks n0 n1 ⊢;have CX:=AA (λW (hW:Below W7.heap.size W7 W)=>UI _ k.mem (AJ k.zX j).root W (RM.below hW) (Ar Z.out).1 jr);have id:=ml.out;obtain⟨bu,hbu⟩:∃b,(Be k.mem (AJ k.zX j).root).contains H=b:=⟨_,rfl⟩
   have iW:=AA hbu;clear hbu hqe;refine BR 10 188 [.p w.heap.size 0,.p g 0,.p g 0,.p g 0,.s gm 12 bB,.p qe 1,.i ((AJ k.zX j).root),.z,.i ((H:Int)),.b bu] (λix vv ww=>match ix with
    |7=>Gj wr.heap.size k.mem (AJ k.zX j).root ww vv
    |_=>True) ?_ ?_ ?_
   .intro i R o L a wx E z A hn Z
    match i,R with
    |0,_|2,_|3,_|5,_|8,_=>exact sP L Z E z
    |1,_=>exact sL L Z E z (hl:=KS (bc A jt y0))
    |4,_=>exact sL L Z E z (hl:=F9 (bc A ay x0))
    |6,_=>exact sL L Z E z (hl:=FT (bc A ks n1))
    |7,_=>exact sC L Z E z (CX.out _ A) (by rintro e w_ ⟨v',i8,rfl,hO,fW,_,ao⟩;exact⟨_,rfl,⟨i8,BU hO (yB id.size A.size),fW⟩,ao⟩)
    |9,_=>obtain rfl:=yF L;have d7:Gj wr.heap.size k.mem (AJ k.zX j).root wx (a.tmps[111]?.getD undef):=Ba z 7;have d8:(a.tmps[112]?.getD undef)=.int .i64 H:=Ba z 8;clear z E;generalize e111:a.tmps[111]?.getD undef=v2 at d7;obtain⟨i8,hO,fW⟩:=d7;have CC:=BJ (Nv v2 i8 (H:Int) wx (AF.rd hO));rw[RZ fW,iW.out] at CC;refine yE ?_;go_simp;refine CC.mono ?_;rintro e w_ ⟨rfl,ao⟩;exact Z.out _ _ rfl ao
   .intro i R vv wz cq bb hz
    match i,R with
    |7,_=>exact(Gj.below hz bb)
    |0,_|1,_|2,_|3,_|4,_|5,_|6,_|8,_|9,_=>exact hz
   .intro D wx hR A
    have q9:(D 9)=.bool bu:=BS hR 9;clear hR;simp only[Ak,Ah,yC,yy,yz,yx,q9];simp;clear q9;have gD:=id.trans (A.mono id.size);cases bu
    .have HU:=AA (XE iW.out)
     have io:=AA (HO.out.below gD);have iV:=AA (cw.out.trans (gD.mono cw.out.size));clear A gD y0 x0 x1 n0 n1 id RM kT R7;go_wp2_with fail;go_roundw;exact⟨j+1,by omega,by go_num,by rw[HU.out];exact io.out,iV.out,by rw[HU.out];exact eG.out⟩;simp[intOf];omega
    .have HU:=AA (Vf iW.out)
     have g7:j∈Fo k H:=by rw[<-JA];exact wQ.2 ⟨xS.2 az,iW.out⟩
     have io:=HO.out.below gD;have iV:=AA (cw.out.trans (gD.mono cw.out.size));have b1:=AI wx (.cells #[.int .i64 j] 3);have O1:=AA (show(wx.alloc (.cells #[.int .i64 j] 3)).ownsRow W5.heap.size 3 1 (.slice eP (EU k H j).length eO) (EU k H j).length ((Az (EU k H j)).map (xY .i64)) by have:=io.below b1;unfold AF at this;rwa [Cj] at this);have L1:=AA (show Rd (wx.alloc (.cells #[.int .i64 j] 3)) (.slice (some ⟨wx.heap.size,0,none⟩) 1 1) 1 1 ((Az [j]).map (xY .i64)) from AF.rd (Lm wx (j:Int)));have s5:=iV.out.size;have lw:=AA (show ∀b,(xi eP (EU k H j).length eO).ownBlock=some b->W5.heap.size<=b from λb X=>(yk HO.out b X).1);have S8:=AA ((S7.out.below A).below b1);have gp:=AA (AB (AB k6.out A) b1);have Rx:=AA (BK.below (BK.below R7 A) b1);have mN:=AA io;have mu:=AA (iV.out.trans (b1.mono s5));clear A gD y0 x0 x1 n0 n1 id RM kT R7 io b1;go_wp2_with (at_builtin;go_must (refine EW (lo:=W5.heap.size) (v:=.slice eP (EU k H j).length eO) (n:=(EU k H j).length) (xs:=(Az (EU k H j)).map (xY .i64)) (m:=1) (news:=(Az [j]).map (xY .i64)) rfl rfl 3 (.int .i64 0) 1 8 underlying29 Tryz.zI rfl (by decide) rfl O1.out rfl L1.out Lk (by unfold maxLen;omega) (by omega) (by simp;omega) ?_;intro mC W9 iC gu iB;have y0:=(GL (o:=0) gu S8.out.lts.1 (Do O1.out S8.out.yK (by decide))).trans S8.out.ys.1;have n0:=(GL (o:=0) gu (AW gp.out) (Do O1.out gp.out (by decide))).trans (ym _ _ 0 _ _ _ gp.out)));have gJ:=AA (mu.out.trans iB);have S9:=AA (S5.out.below gJ.out);have O9:=AA (M7 (a:=EU k H j) (b:=[j]) iC);have ir:=LV g _ _ _ (AJ k.zX j).zT ts k.zZ W9 S9.out.xs.2.1 (BK.below mq.out gJ.out) (BK.below S5.out.yI.2.2.2.1.rd gJ.out) (Ax.below (AF.rd il.out) gJ.out) (λg O=>by rw[Z.out.len];exact Ht.out g O);rw[GH Hm.out] at ir;clear y0 n0 iC gu iB O1 L1;cases ar:BM k.zZ (DY k c1) (AJ k.zX j).zT
     .have kW:=AA ar
      have Hb:=AA (show H7 k ⟨k1,(en:Int),(H:Int),(bn:Int),c1,nm⟩=(k,0,1) by rw[cn.out,if_pos (wP.2 ⟨j,g7,by rw[ar];decide⟩)]);rw[ar] at ir;clear ar;refine ir.mono ?_;rintro r i6 ⟨rfl,eB⟩;go_wp2_with fail;go_ret;exact Gx.bad Hb.out (by decide) (S9.out.below eB).bel
     .have kW:=AA ar
      rw[ar] at ir;clear ar;refine ir.mono ?_;rintro r i6 ⟨rfl,eB⟩;have mg:=AA (O9.out.below eB);have mz:=AA (gJ.out.trans (eB.mono gJ.out.size));clear eB;go_wp2_with fail;go_roundw
      case rel=>exact⟨j+1,by omega,by go_num,by rw[HU.out];exact mg.out,mz.out,λe he=>by
       rw[HU.out,wC,wX] at he
       rcases he with he|rfl
       .exact eG.out e he
       .exact kW.out⟩
      case measure=>simp[intOf];omega
  .obtain rfl:j=3:=by omega
   rw[JA] at HO eG ⊢;obtain⟨us,hus⟩:∃us,us=Fo k H:=⟨_,rfl⟩
   have lq:us.length<=3:=by rw[hus,<-JA];exact Lx
   rw[<-hus] at HO eG ⊢;have fb:=AA (show H7 k ⟨k1,(en:Int),(H:Int),(bn:Int),c1,nm⟩=_ by rw[cn.out,if_neg (by rw[Bool.not_eq_false,xZ,<-hus];exact eG.out)]);rw[<-hus] at fb;clear hus lA;obtain⟨W6,rfl⟩:∃W6:World,W6=wr:=⟨_,rfl⟩
   go_wp2_with fail
   first
   |have CM:=Uh (w1:=W6) (λW hW=>ZV (S6.out.below hW).yI ⟨k1,(en:Int),(H:Int),(bn:Int),c1,nm⟩ (zS k.zZ f).g (by simp) (by rw[Z.out.zN];simp only;omega))
    simp only[Ac.on,Ac.onCells] at CM;obtain⟨y0,y1,y2,y3,y4,y5,y6⟩:=S6.out.ys;replace y0:=xX y0;replace y1:=xX y1;replace y2:=xX y2;replace y3:=xX y3;replace y4:=xX y4;replace y5:=xX y5;replace y6:=xX y6;have x1:=xX S6.out.xs.2.1;have dg:=xX (S6.out.zS (f:=f) (by rw[Z.out.len];exact cd)).2.1;cases fU:Fl k (en:Int) (zS k.zZ f).g
    .have k7:=AA fU
     have Hb:=AA (show H7 k ⟨k1,(en:Int),(H:Int),(bn:Int),c1,nm⟩=(k,0,1) by rw[fb.out,if_pos ⟨gk.out,by rw[HF.out];exact fU⟩]);rw[fU] at CM;clear fU;refine Bj ?_
     repeat(go_big_quiet_step (exact CM _ _))
     refine Bi λwq bq=>?_
     clear y0 y1 y2 y3 y4 y5 y6 x1 dg;go_wp2_with fail;go_ret;exact Gx.bad Hb.out (by decide) (S6.out.below bq).bel
    have k7:=AA fU;rw[fU] at CM;clear fU;have kY:=AA (show H7 k ⟨k1,(en:Int),(H:Int),(bn:Int),c1,nm⟩=_ by rw[fb.out,if_neg (by rintro⟨_,x⟩;rw[HF.out,k7.out] at x;cases x)]);refine Bj ?_
    repeat(go_big_quiet_step (exact CM _ _))
    refine Bi λwq bq=>?_
    clear y0 y1 y2 y3 y4 y5 y6 x1 dg CM
   |have kY:=AA (show H7 k ⟨k1,(en:Int),(H:Int),(bn:Int),c1,nm⟩=_ by rw[fb.out,if_neg (by rintro⟨x,_⟩;rw[gk.out] at x;cases x)])
    refine Bj ?_
    repeat(go_big_quiet_step (fail))
    refine Bi λwq bq=>?_
   have S7:=AA (S6.out.below bq);obtain⟨W7,rfl⟩:∃W7:World,W7=wq:=⟨_,rfl⟩
   have k5:=AA (HO.out.below bq);have mH:=yB cw.out.size bq.size;obtain⟨y0,y1,y2,y3,y4,y5,y6⟩:=S7.out.ys;obtain⟨x0,_,_,_⟩:=S7.out.xs;obtain⟨gw,bt,Dw,f0,jH,Dj,eD,⟨⟨fC,fB⟩,fA,fy⟩,_,hT,SW⟩:=S7.out.mrow (Ar Z.out).1 (f:=H) c7;have Dv:=Dj bn dX;have fz:=eD bn;have S8:=AA (SW bn c1 dX);have jO:(bn:Int)<4:=by omega
   have lu:=AA (Z.out.word (f:=H) (i:=bn) c7 dX);have lF:gw<W5.heap.size:=by obtain⟨iS,fn,gs,jB,_⟩:=S5.out.mrow (Ar Z.out).1 (f:=H) c7;have:=((cw.out.trans (bq.mono cw.out.size)).cell (yA _ _ gs)).trans gs;rw[Dw] at this;simp at this;rw[this.1];exact jB
   have k0:=AA (show AF W5.heap.size (W7.setCell ⟨gw,bn,none⟩ (.int .i64 c1)) (.slice eP us.length eO) (Az us) from Aw k5.out (Aq _ _ _ _) (by
    rcases hv:(xi eP us.length eO).ownBlock with _|b
    .exact .inl rfl
    .refine .inr λe=>?_
     cases e;have:=(yk k5.out gw hv).1;omega))
   clear bq Dj eD SW hT;go_wp2_with fail;clear y0 y1 y2 y3 y4 y5 y6 x0 Dw Dv fz;generalize W7.setCell _ _=W8 at*;have CR:=S8.out.refer (As k.mem H bn) (-1) (by have:=lu.out.2;omega) Z.out.len (.inr rfl) ((Mt (Ar Z.out).2.1).mono (by decide));simp only[Ac.on,Ac.onCells] at CR;refine CR.mono ?_;rintro r w9 ⟨rfl,S9,kA⟩;have S9:=AA S9;have lG:=S5.out.zl;have kZ:=AA (show AF W5.heap.size w9 (.slice eP us.length eO) (Az us) from Aw k0.out kA (by
    rcases hv:(xi eP us.length eO).ownBlock with _|b
    .exact .inl rfl
    .refine .inr λe=>?_
     cases e;have:=(yk k0.out gi hv).1;omega))
   clear kA CR;obtain⟨y0,y1,y2,y3,y4,y5,y6⟩:=S9.out.ys;go_wp2_with fail;clear y0 y1 y2 y3 y4 y5 y6;have CR:=S9.out.refer c1 1 di (by simp only[Cl];exact Z.out.len) (.inl rfl) (Jj.mono (Jj.refer (Mt (Ar Z.out).2.1) Z.out.len (.inr rfl)) (by decide));simp only[Ac.on,Ac.onCells] at CR;refine CR.mono ?_;rintro r i6 ⟨rfl,j5,hD⟩;have j5:=AA j5;have ka:=AA (show AF W5.heap.size i6 (.slice eP us.length eO) (Az us) from Aw kZ.out hD (by
    rcases hv:(xi eP us.length eO).ownBlock with _|b
    .exact .inl rfl
    .refine .inr λe=>?_
     cases e;have:=(yk kZ.out gi hv).1;omega))
   have lJ:=S5.out.lts.2.1;clear hD CR;go_wp2_with fail;go_loopw [172] (λfu wr=>∃j:Nat,j<=us.length/\fu=.int .i64 j/\AF W5.heap.size wr (.slice eP us.length eO) (Az us)/\∃c',CS lo g w.heap.size ⟨k1,(en:Int),(H:Int),(bn:Int),c1,nm⟩ w wr (.slice (some ⟨gm,0,none⟩) 12 bB) (.slice (some ⟨gi,0,none⟩) 12 cl) (.slice (some ⟨ge,0,none⟩) 3 ad) c' {k with mem:=Bz k.mem H bn c1,zZ:=A5 (A5 k.zZ (As k.mem H bn) (-1)) c1 1,zW:=Gr (us.take j) k.zW}) (λfu _=>us.length - (intOf fu).toNat)
   exact⟨0,yg _,rfl,ka.out,c,j5.out⟩
   obtain⟨j,hj,rfl,hO,c',hS⟩:=hrel;have HOr:=AA hO;have S:=AA hS;clear hS
   by_cases az:j<us.length
   .obtain⟨ax,cx,jm,_,_,H0⟩:=hO.rd.open
    rw[Cj] at jm;simp only[xH] at jm;obtain⟨rfl,_,rfl⟩:=jm;obtain⟨bx,lg,rfl,DX⟩:=H0.at (k:=j) (by rw[Cj];exact az);rw[QQ az] at DX;obtain⟨un,hun⟩:∃u,u=us.getD j 0:=⟨_,rfl⟩
    rw[<-hun] at DX;have mo:=AA hun;obtain⟨cc,hcc'⟩:∃cc,cc=Gr (us.take j) k.zW:=⟨_,rfl⟩
    have k8:=AA hcc';clear hun;have dT:(j:Int)<us.length:=by omega
    obtain⟨y0,_,_,_,_,_,_⟩:=S.out.ys;obtain⟨_,_,_,x3⟩:=S.out.xs;obtain⟨jt,ay,gM,gN⟩:=S.out.lts;have RC:DJ wr c' cc:=by rw[hcc'];exact S.out.yI.2.2.2.2.2.rd
    clear hcc';have CD:=AA (λW (hW:Below wr.heap.size wr W)=>Q9 c' cc (un:Int) W (BK.below RC hW) (by rw[k8.out];exact SU _ (Ar Z.out).2.2));clear RC H0 hO;go_wp2_with fail;clear DX;refine BR 11 188 [.p w.heap.size 0,.p g 0,.p w.heap.size 0,.p g 0,.p g 0,.p g 3,.v c',.i ((un:Int)),.z,.p g 0,.p g 3] (λix vv ww=>match ix with
     |8=>AQ wr.heap.size 112 4 AU ww vv (GJ cc (un:Int))
     |_=>True) ?_ ?_ ?_
    .intro i R o L a wx E z A hn Z
     have dl:=bc A jt y0;have dk:=bc A ay x3
     match i,R with
     |0,_|2,_|4,_|5,_|7,_|9,_|10,_=>exact sP L Z E z
     |1,_|3,_=>exact sL L Z E z (hl:=KS ‹_›)
     |6,_=>exact sL L Z E z (hl:=VH ‹_›)
     |8,_=>exact sC L Z E z (CD.out _ A) (by rintro e w_ ⟨v',rfl,hO,ao⟩;exact⟨_,rfl,(hO.lower A.size),ao⟩)
    .intro i R vv wz cq bb hz
     match i,R with
     |8,_=>exact(AQ.below hz bb)
     |0,_|1,_|2,_|3,_|4,_|5,_|6,_|7,_|9,_|10,_=>exact hz
    .intro D wx hR A
     have q1:(D 1)=.pointer (some ⟨g,0,none⟩):=BS hR 1;have q8:AQ wr.heap.size 112 4 AU wx (D 8) (GJ cc (un:Int)):=BS hR 8;have q9:(D 9)=.pointer (some ⟨g,0,none⟩):=BS hR 9;have gK:(D 10)=.pointer (some ⟨g,3,none⟩):=BS hR 10;clear hR;simp only[Ak,Ah,yC,yy,yz,yx,q1,q9,gK];simp;generalize D 8=z8 at q8 ⊢;clear q1 q9 gK;rw[k8.out,mo.out,<-Of az] at q8;have S8:=AA (S.out.zW A q8);have mr:=AA (OR (j:=3) (u:=z8) (AF.below HOr.out A) lJ);have kM:=AK (S.out.below A).yI.1;have kg:=(S.out.below A).xs.2.2.2;obtain⟨_,_,rfl,_,_⟩:=q8.rd.shape;clear q8 A y0 x3;go_wp2_with fail;go_roundw;exact⟨j+1,by omega,by go_num,mr.out,_,S8.out⟩;simp[intOf];omega
   .obtain rfl:j=us.length:=by omega
    rw[xo] at S;have HE:=AA (show H7 k ⟨k1,(en:Int),(H:Int),(bn:Int),c1,nm⟩=({k with mem:=Bz k.mem H bn c1,zZ:=A5 (A5 k.zZ (As k.mem H bn) (-1)) c1 1,zW:=Gr us k.zW},0,0) from kY.out);go_wp2_with fail;go_ret;exact⟨by rw[HE.out]<;>rfl,λ_=>⟨_,_,_,_,by rw[HE.out];exact S.out.yI⟩,S.out.bel⟩
def Gd(k:AO)(c:Ac):Mh:=
 if c.k=2 then KR k c
 else if c.k=3 then Kb k c
 else if c.k=4 then ET k (IF k.mem k.zZ c.a.toNat c.b (AJ k.zX c.e.toNat).zT)
 else if c.k=5 then ET k (Dz k.mem k.zZ c.a.toNat)
 else H7 k c
theorem WD{lo g:Nat}{w:World}{m i e c:Value}{k:AO}(h:Il lo w g m i e c k)(au:lo<=w.heap.size)(hK:DQ k)(N:Ac)(he:0<=N.e)(K:N.e<3)(hk:N.k=2∨N.k=3∨N.k=6)(ha:0<=N.a/\N.a<12)(di:N.c<=9223372036854775807):
 Calls prog 166 #[N.on g] w (Gx lo g w (Gd k N)):=by
 have S0:=Eb.start h au N;have P:Gd k N=if N.k=2 then KR k N else if N.k=3 then Kb k N else if N.k=4 then ET k (IF k.mem k.zZ N.a.toNat N.b (AJ k.zX N.e.toNat).zT) else if N.k=5 then ET k (Dz k.mem k.zZ N.a.toNat) else H7 k N:=rfl
 have iq:=λ(W:World) (hW:Below (w.alloc (.cells (N.onCells g) 126)).heap.size (w.alloc (.cells (N.onCells g) 126)) W)=>Zo (S0.below hW).yI (S0.below hW).lo hK N he K ha di
 obtain⟨k1,e1,a1,b1,c1,nm⟩:=N;obtain⟨en,rfl⟩:∃n:Nat,e1=(n:Int):=⟨e1.toNat,by simp only at he;omega⟩
 obtain⟨H,rfl⟩:∃n:Nat,a1=(n:Int):=⟨a1.toNat,by simp only at ha;omega⟩
 have dh:en<3:=by simp only at K;omega
 have c7:H<12:=by simp only at ha;omega
 simp only[Ac.on,Ac.onCells] at S0 P hk iq ⊢;simp only[yd] at P;obtain⟨ge,ad,e9,_,⟨⟨fP,fO⟩,fN,fM⟩,_⟩:=S0.zX (by rw[hK.zN];omega);rw[hK.zN] at e9;obtain⟨gi,cl,e8,_,_,⟨⟨fL,fJ⟩,fI,fH⟩,_⟩:=S0.zZ (by rw[hK.len];omega);rw[hK.len] at e8;obtain⟨gm,bB,e7,_,⟨fG,fF⟩,fE,fD⟩:=S0.mems (Ar hK).1;subst e7 e8 e9;obtain⟨y0,y1,y2,y3,y4,y5,y6⟩:=S0.ys;obtain⟨x0,x1,x2,x3⟩:=S0.xs;obtain⟨d0,d1,d2⟩:=S0.zS (f:=H) (by rw[hK.len];exact c7);have lW:(H:Int)<12:=by omega
 obtain⟨eJ,dz,gM,gN⟩:=S0.lts;have Z:=AA hK;have HS:=AA S0;clear hK h S0 au he K
 rcases hk with rfl|rfl|rfl
 .have HP:=AA (show Gd k ⟨2,(en:Int),(H:Int),b1,c1,nm⟩=KR k ⟨2,(en:Int),(H:Int),b1,c1,nm⟩ from P)
  have HG:=AA (show KR k ⟨2,(en:Int),(H:Int),b1,c1,nm⟩=if(zS k.zZ H).k≠1 then(k,0,3) else if(zS k.zZ H).r≠0 then(k,0,2) else({k with zZ:=k.zZ.set H AV.zero},0,0) from rfl);clear P iq
  by_cases J:(zS k.zZ H).k=1
  .have t1:((zS k.zZ H).k==1)=true:=by simp[J]
   by_cases Y:(zS k.zZ H).r=0
   .have Hb:=AA (show Gd k ⟨2,(en:Int),(H:Int),b1,c1,nm⟩=({k with zZ:=k.zZ.set H AV.zero},0,0) by rw[HP.out,HG.out,if_neg (by simp[J]),if_neg (by simp[Y])])
    have H1:=AA J;have H2:=AA Y;clear J Y;go_in;go_wp2_with fail;generalize w.alloc _=W0 at*;have CG:=AA (RO _ k.zZ H W0 HS.out.yI.2.2.2.1.rd (Ar Z.out).2.1 c7 H1.out H2.out);refine CG.out.mono ?_;rintro r w1 ⟨v',rfl,hO,X⟩;have S2:=AA (HS.out.zm X hO);have fz:=AK (HS.out.below X).yI.1;have x1:=(HS.out.below X).xs.2.1;have y0:=(HS.out.below X).ys.1;obtain⟨_,_,rfl,_,_⟩:=hO.rd.shape;rw[xP] at S2;clear hO X;go_wp2_with fail;go_ret;exact⟨by rw[Hb.out]<;>rfl,λ_=>⟨_,_,_,_,by rw[Hb.out];exact S2.out.yI⟩,S2.out.bel⟩
   .have Hb:=AA (show Gd k ⟨2,(en:Int),(H:Int),b1,c1,nm⟩=(k,0,2) by rw[HP.out,HG.out,if_neg (by simp[J]),if_pos Y])
    have H1:=AA J;have H2:=AA Y;clear J Y;go_in;go_wp2_with fail;generalize w.alloc _=W0 at*;have CG:=AA (TQ _ k.zZ H W0 HS.out.yI.2.2.2.1.rd (Ar Z.out).2.1 c7 H1.out H2.out);refine CG.out.mono ?_;rintro r w1 ⟨rfl,X⟩;have S2:=AA (HS.out.below X);go_wp2_with fail;go_ret;exact Gx.bad Hb.out (by decide) S2.out.bel
  .have t1:((zS k.zZ H).k==1)=false:=by simp[J]
   have Hb:=AA (show Gd k ⟨2,(en:Int),(H:Int),b1,c1,nm⟩=(k,0,3) by rw[HP.out,HG.out,if_pos J]);clear J;go_in;go_wp2_with fail;go_ret;exact Gx.bad Hb.out (by decide) HS.out.bel
 .have HP:=AA (show Gd k ⟨3,(en:Int),(H:Int),b1,c1,nm⟩=Kb k ⟨3,(en:Int),(H:Int),b1,c1,nm⟩ from P)
  have HG:=AA (show Kb k ⟨3,(en:Int),(H:Int),b1,c1,nm⟩=if(zS k.zZ H).k≠1∨BZ b1 0 3=false∨Dk c1=false then(k,0,3) else({k with mem:=Bz k.mem H b1.toNat c1},0,0) from rfl);clear P iq;have C0:=AA (λW=>BJ (Oh b1 W));have C1:=AA (λW=>BJ (IU c1 W))
  by_cases J:(zS k.zZ H).k=1
  .have t1:((zS k.zZ H).k==1)=true:=by simp[J]
   have H1:=AA J;clear J;go_in;go_wp2_with fail;generalize w.alloc _=W0 at*;cases Y:BZ b1 0 3
   .have Hb:=AA (show Gd k ⟨3,(en:Int),(H:Int),b1,c1,nm⟩=(k,0,3) by rw[HP.out,HG.out,if_pos (.inr (.inl Y))])
    have T:=AA Y;clear Y;refine(C0.out _).mono ?_;rintro r w1 ⟨rfl,X⟩;rw[T.out];have S2:=AA (HS.out.below X);clear y0 y1 y2 y3 y4 y5 y6 x0 x1 x2 x3 d0 d1 d2;go_wp2_with fail;go_ret;exact Gx.bad Hb.out (by decide) S2.out.bel
   .have T:=AA Y
    have lU:=AZ.1 Y;obtain⟨bn,rfl⟩:∃n:Nat,b1=(n:Int):=⟨b1.toNat,by omega⟩
    have dX:bn<4:=by omega
    clear Y lU;refine(C0.out _).mono ?_;rintro r W1 ⟨rfl,X⟩;rw[T.out];have S1:=AA (HS.out.below X);clear y0 y1 y2 y3 y4 y5 y6 x0 x1 x2 x3 d0 d1 d2 X;obtain⟨y0,y1,y2,y3,y4,y5,y6⟩:=S1.out.ys;go_wp2_with fail;cases h3:BZ c1 0 9999
    .have Hb:=AA (show Gd k ⟨3,(en:Int),(H:Int),(bn:Int),c1,nm⟩=(k,0,3) by rw[HP.out,HG.out,if_pos (.inr (.inr h3))])
     have T3:=AA h3;clear h3;refine(C1.out _).mono ?_;rintro r w1 ⟨rfl,X⟩;rw[T3.out];have S2:=AA (S1.out.below X);clear y0 y1 y2 y3 y4 y5 y6;go_wp2_with fail;go_ret;exact Gx.bad Hb.out (by decide) S2.out.bel
    .have T3:=AA h3
     have Hb:=AA (show Gd k ⟨3,(en:Int),(H:Int),(bn:Int),c1,nm⟩=({k with mem:=Bz k.mem H bn c1},0,0) by rw[HP.out,HG.out,if_neg (by rintro(x|x|x);(· exact x H1.out);(· rw[T.out] at x;cases x);(· rw[show Dk c1=true from h3] at x;cases x)),yd]);clear h3;refine(C1.out _).mono ?_;rintro r W2 ⟨rfl,X⟩;rw[T3.out];have S2:=AA (S1.out.below X);clear y0 y1 y2 y3 y4 y5 y6 X;obtain⟨y0,_,_,_,y4,y5,_⟩:=S2.out.ys;obtain⟨x0,_,_,_⟩:=S2.out.xs;obtain⟨eJ,dz,_,_⟩:=S2.out.lts;obtain⟨gw,bt,Dw,f0,jH,Dj,eD,⟨⟨fC,fB⟩,fA,fy⟩,_,_,_⟩:=S2.out.mrow (Ar Z.out).1 (f:=H) c7;have hC:=yA _ _ Dw;have jO:(bn:Int)<4:=by omega
     clear Dj eD;go_wp2_with fail;refine Aa 15 139 [.p w.heap.size 0,.p g 0,.p g 0,.p g 0,.s gm 12 bB,.i ((H:Int)),.p gm H,.s gw 4 bt,.p w.heap.size 1,.p w.heap.size 4,.i ((bn:Int)),.p w.heap.size 1,.p w.heap.size 5,.i c1,.p gw bn] (λ_ _ _=>True) ?_ ?_
     .intro i R o L a wx E z A hn Z
      have fS:=bc A eJ y4;have fQ:=bc A eJ y5
      match i,R with
      |0,_|2,_|3,_|5,_|8,_|9,_|11,_|12,_=>exact sP L Z E z
      |1,_=>exact sL L Z E z (hl:=KS (bc A eJ y0))
      |4,_=>exact sL L Z E z (hl:=F9 (bc A dz x0))
      |6,_|14,_=>exact sI L Z E z (hr:=by clear z E Z;go_simp)
      |7,_=>exact sL L Z E z (hl:=KU (bc A hC Dw))
      |10,_|13,_=>exact sL L Z E z (hl:=FT ‹_›)
      |_+15,hq=>omega
     .intro D wx hR A
      have bY:(D 13)=.int .i64 c1:=BS hR 13;have fc:(D 14)=.pointer (some ⟨gw,bn,none⟩):=BS hR 14;clear hR;simp only[Ak,Ah,yC,yy,yz,yx,bY,fc];simp;clear bY fc;have S3:=AA (S2.out.below A);obtain⟨iS,fn,gs,_,_,Dj,eD,_,_,_,SW⟩:=S3.out.mrow (Ar Z.out).1 (f:=H) c7;have c8:=(A.cell (p:=⟨gm,H,none⟩) hC).trans Dw;rw[c8] at gs;have iK:gw=iS:=by simp at gs;exact gs.1
      subst iK;have Dv:=Dj bn dX;have fz:=eD bn;have S4:=AA (SW bn c1 dX);clear A y0 y4 y5 x0 Dw gs c8 Dj eD SW;go_wp2_with fail;go_ret;exact⟨by rw[Hb.out]<;>rfl,λ_=>⟨_,_,_,_,by rw[Hb.out];exact S4.out.yI⟩,S4.out.bel⟩
  .have t1:((zS k.zZ H).k==1)=false:=by simp[J]
   have Hb:=AA (show Gd k ⟨3,(en:Int),(H:Int),b1,c1,nm⟩=(k,0,3) by rw[HP.out,HG.out,if_pos (.inl J)]);clear J;go_in;go_wp2_with fail;go_ret;exact Gx.bad Hb.out (by decide) HS.out.bel
 .have HP:=AA (show Gd k ⟨6,(en:Int),(H:Int),b1,c1,nm⟩=H7 k ⟨6,(en:Int),(H:Int),b1,c1,nm⟩ from P)
  have mt:=AA iq;clear P iq d1 d2
  by_cases J:(zS k.zZ H).k=1
  all_goals
   first
   |have t1:((zS k.zZ H).k==1)=true:=by simp[J]
   |have t1:((zS k.zZ H).k==1)=false:=by simp[J]
   clear J;go_in;go_wp2_with fail;generalize w.alloc _=W0 at*;refine(mt.out W0 (yD _ _)).mono ?_;rintro r w1 ⟨rfl,l3,X⟩;go_wp2_with fail;go_ret;exact⟨by rw[HP.out]<;>rfl,λh=>by rw[HP.out] at h ⊢;exact l3 h,(HS.out.bel).trans X⟩
theorem Zp{k:AO}{c:Ac}:(H7 k c).2.1=0:=by
 unfold H7
 split
 .rfl
 .split
  .rfl
  .split<;>rfl
theorem Ov{k:AO}{r:List AV×Int}:(ET k r).2.1=0:=by
 unfold ET
 split<;>rfl
theorem WE{k:AO}{c:Ac}:(Gd k c).2.1=0:=by
 unfold Gd
 split
 .unfold KR
  split
  .rfl
  .split<;>rfl
 .split
  .unfold Kb
   split<;>rfl
  .split
   .exact Ov
   .split
    .exact Ov
    .exact Zp
theorem Gx.two{lo g:Nat}{w W:World}{r:Ending}{w':World}(h:Gx lo g W res r w')(hv:res.2.1=0)(X:Below lo w W):∃n,r=.returned (.int .i64 n)/\Fs lo g w res (.returned (.tuple #[.int .i64 0,.int .i64 n])) w':=by obtain⟨J,Y,h3⟩:=h;exact⟨_,J,by rw[hv],Y,X.trans h3⟩
theorem Fs.of{lo g:Nat}{w W:World}{r:Ending}{w':World}(h:Fs lo g W res r w')(X:Below lo w W):∃v n,r=.returned (.tuple #[.int .i64 v,.int .i64 n])/\Fs lo g w res (.returned (.tuple #[.int .i64 v,.int .i64 n])) w':=by obtain⟨J,Y,h3⟩:=h;exact⟨_,_,J,rfl,Y,X.trans h3⟩
theorem Sa{k:AO}{c:Ac}:Gt k c=if BZ c.a 0 11=false∨(zS k.zZ c.a.toNat).k=0∨(c.k=4/\Bh c.b=false) then(k,0,3) else if Fl k c.e (zS k.zZ c.a.toNat).g=false then(k,0,1) else Gd k c:=rfl
theorem Sb{k:AO}{c:Ac}(h:BZ c.a 0 11=false∨(zS k.zZ c.a.toNat).k=0∨(c.k=4/\Bh c.b=false)):Gt k c=(k,0,3):=Sa.trans (if_pos h)
theorem Y9{k:AO}{c:Ac}(J:BZ c.a 0 11=true)(Y:(zS k.zZ c.a.toNat).k≠0)(h3:c.k=4->Bh c.b=true):Gt k c=if Fl k c.e (zS k.zZ c.a.toNat).g=false then(k,0,1) else Gd k c:=
 Sa.trans (if_neg (by rintro(x|x|⟨x,y⟩);(· rw[J] at x;cases x);(· exact Y x);(· rw[h3 x] at y;cases y)))
def Ia(c:Ac):Prop:=(c.k=2∨c.k=3∨c.k=6)∨c.k=1∨c.k=10∨c.k=11
theorem aK{lo g:Nat}{w:World}{m i e c:Value}{k:AO}(h:Il lo w g m i e c k)(au:lo<=w.heap.size)(hK:DQ k)(N:Ac)(he:0<=N.e)(K:N.e<3)(dS:N.nm.size<=maxLen)(cz:Ia N)(di:N.c<=9223372036854775807):
 Calls prog 116 #[N.on g] w (Fs lo g w (Ae k N)):=by
 have S0:=Eb.start h au N;obtain⟨k1,e1,a1,b1,c1,nm⟩:=N;obtain⟨en,rfl⟩:∃n:Nat,e1=(n:Int):=⟨e1.toNat,by simp only at he;omega⟩
 have dh:en<3:=by simp only at K;omega
 simp only[Ac.on,Ac.onCells] at S0 dS di ⊢;obtain⟨ge,ad,e9,_,⟨⟨fP,fO⟩,fN,fM⟩,_⟩:=S0.zX (by rw[hK.zN];omega);rw[hK.zN] at e9;obtain⟨gi,cl,e8,_,_,⟨⟨fL,fJ⟩,fI,fH⟩,_⟩:=S0.zZ (by rw[hK.len];omega);rw[hK.len] at e8;obtain⟨gm,bB,e7,_,⟨fG,fF⟩,fE,fD⟩:=S0.mems (Ar hK).1;subst e7 e8 e9;obtain⟨y0,y1,y2,y3,y4,y5,y6⟩:=S0.ys;obtain⟨x0,x1,x2,x3⟩:=S0.xs;have Z:=AA hK;have HS:=AA S0;clear hK h S0 au he K;have CY:=λ(W:World)(mm ii ee cc:Value)(h:Il lo W g mm ii ee cc k)(H:Nat)=>ZV h ⟨k1,(en:Int),(H:Int),b1,c1,nm⟩ (zS k.zZ H).g (by simp) (by rw[Z.out.zN];simp only;omega)
 simp only[Ac.on,Ac.onCells] at CY;replace CY:=AA CY;unfold Ia at cz;simp only at cz
 rcases cz with cz|cz
 .have HP:=AA (show Ae k ⟨k1,(en:Int),a1,b1,c1,nm⟩=Gt k ⟨k1,(en:Int),a1,b1,c1,nm⟩ by rcases cz with rfl|rfl|rfl<;>rfl)
  have CF:=λ(W:World)(mm ii ee cc:Value)(h:Il lo W g mm ii ee cc k)(hl:lo<=W.heap.size)(H:Nat)(ha:H<12)(_:True)=>WD h hl Z.out ⟨k1,(en:Int),(H:Int),b1,c1,nm⟩ (by simp) (by simp only;omega) cz (by simp only;omega) di
  simp only[Ac.on,Ac.onCells] at CF;replace CF:=AA CF;have HF:=True.intro
  rcases cz with rfl|rfl|rfl
  all_goals
   go_in;go_wp2_with fail;generalize w.alloc _=W0 at*;have cF:=Xg (w1:=W0) (λW=>FD a1 W);have cT:=Xg (w1:=W0) (λW=>Is b1 W);replace y0:=xX y0;replace y1:=xX y1;replace y2:=xX y2;replace y3:=xX y3;replace y4:=xX y4;replace y5:=xX y5;replace y6:=xX y6;replace x1:=xX x1;clear x0 x2 x3;cases eV:BZ a1 0 11
   .have Hb:=AA (HP.out.trans (Sb (.inl eV)))
    rw[eV] at cF;have d0:=y0;have d1:=y0;refine Bj ?_
    repeat(go_big_quiet_step (first|exact cF _ _|exact cT _ _))
    refine Bi λwq bq=>?_
    clear y0 y1 y2 y3 y4 y5 y6 x1 d0 d1;go_wp2_with fail;go_ret2;exact Fs.bad Hb.out (by decide) (HS.out.below bq).bel
   have T:=AA eV;rw[eV] at cF;obtain⟨H,rfl⟩:∃n:Nat,a1=(n:Int):=⟨a1.toNat,by have:=(AZ.1 eV).1;omega⟩
   have c7:H<12:=by have:=(AZ.1 eV).2;omega
   have lX:(H:Int)<12:=by omega
   clear eV;obtain⟨d0,d1,_⟩:=HS.out.zS (f:=H) (by rw[Z.out.len];exact c7);replace d0:=xX d0;replace d1:=xX d1
   by_cases h0:(zS k.zZ H).k=0
   .have Hb:=AA (HP.out.trans (Sb (.inr (.inl h0))))
    have t0:((zS k.zZ H).k==0)=true:=by simp[h0]
    clear h0;refine Bj ?_
    repeat(go_big_quiet_step (first|exact cF _ _|exact cT _ _))
    refine Bi λwq bq=>?_
    clear y0 y1 y2 y3 y4 y5 y6 x1 d0 d1;go_wp2_with fail;go_ret2;exact Fs.bad Hb.out (by decide) (HS.out.below bq).bel
   have t0:((zS k.zZ H).k==0)=false:=by simp[h0]
   have cn:=AA (HP.out.trans (Y9 T.out h0 (by simp)));clear h0;refine Bj ?_
   repeat(go_big_quiet_step (first|exact cF _ _|exact cT _ _))
   refine Bi λwq bq=>?_
   have S1:=AA (HS.out.below bq);obtain⟨W1,rfl⟩:∃W1:World,W1=wq:=⟨_,rfl⟩
   clear y0 y1 y2 y3 y4 y5 y6 x1 d0 d1 t0 cF cT bq;obtain⟨y0,y1,y2,y3,y4,y5,y6⟩:=S1.out.ys;have x1:=S1.out.xs.2.1;obtain⟨d0,d1,_⟩:=S1.out.zS (f:=H) (by rw[Z.out.len];exact c7);have CM:=Uh (w1:=W1) (λW hW=>CY.out W _ _ _ _ (S1.out.below hW).yI H);replace y0:=xX y0;replace y1:=xX y1;replace y2:=xX y2;replace y3:=xX y3;replace y4:=xX y4;replace y5:=xX y5;replace y6:=xX y6;replace x1:=xX x1;replace d1:=xX d1;cases hm:Fl k (en:Int) (zS k.zZ H).g
   .have Hb:=AA (cn.out.trans (if_pos hm))
    rw[hm] at CM;clear hm;go_wp2_with fail;refine Bj ?_
    repeat(go_big_quiet_step (exact CM _ _))
    refine Bi λwq bq=>?_
    clear y0 y1 y2 y3 y4 y5 y6 x1 d0 d1;go_wp2_with fail;go_ret2;exact Fs.bad Hb.out (by decide) (S1.out.below bq).bel
   have fb:=AA (cn.out.trans (if_neg (by show ¬Fl k (en:Int) (zS k.zZ H).g=false;rw[hm];decide)));rw[hm] at CM;clear hm;go_wp2_with fail;refine Bj ?_
   repeat(go_big_quiet_step (exact CM _ _))
   refine Bi λwq bq=>?_
   have S2:=AA (S1.out.below bq);obtain⟨W2,rfl⟩:∃W2:World,W2=wq:=⟨_,rfl⟩
   clear y0 y1 y2 y3 y4 y5 y6 x1 d0 d1 bq CM;obtain⟨y0,y1,y2,y3,y4,y5,y6⟩:=S2.out.ys;go_wp2_with (refine(CF.out W2 _ _ _ _ S2.out.yI S2.out.lo H c7 HF).mono ?_;rintro r w1 hr;obtain⟨n,rfl,hE⟩:=Gx.two hr WE S2.out.bel;have HE:=AA hE;clear hr hE y0 y1 y2 y3 y4 y5 y6);go_ret2;rw[fb.out];exact HE.out
 rcases cz with cz|cz
 .skip
  have HP:=AA (show Ae k ⟨k1,(en:Int),a1,b1,c1,nm⟩=JO k ⟨k1,(en:Int),a1,b1,c1,nm⟩ by subst cz;rfl);have C:=Yc HS.out.yI HS.out.lo Z.out ⟨k1,(en:Int),a1,b1,c1,nm⟩ (by simp) (by simp only;omega) dS;simp only[Ac.on,Ac.onCells] at C;subst cz;go_in;go_wp2_with fail;generalize w.alloc _=W0 at*;refine C.mono ?_;rintro r w1 hr;obtain⟨v,n,rfl,hE⟩:=Fs.of hr HS.out.bel;have HE:=AA hE;clear C;clear hr hE y0 y1 y2 y3 y4 y5 y6 x0 x1 x2 x3;go_wp2_with fail;go_ret2;rw[HP.out];exact HE.out
 .skip
  have HP:=AA (show Ae k ⟨k1,(en:Int),a1,b1,c1,nm⟩=Iz k ⟨k1,(en:Int),a1,b1,c1,nm⟩ by rcases cz with rfl|rfl<;>rfl);have C:=Zw HS.out.yI HS.out.lo Z.out ⟨k1,(en:Int),a1,b1,c1,nm⟩ (by simp) (by simp only;omega) cz;simp only[Ac.on,Ac.onCells] at C
  rcases cz with rfl|rfl
  all_goals
   go_in;go_wp2_with fail;generalize w.alloc _=W0 at*;refine C.mono ?_;rintro r w1 hr;obtain⟨v,n,rfl,hE⟩:=Fs.of hr HS.out.bel;have HE:=AA hE;clear C;clear hr hE y0 y1 y2 y3 y4 y5 y6 x0 x1 x2 x3;go_wp2_with fail;go_ret2;rw[HP.out];exact HE.out
theorem Te{a b:ByteArray}:LZ a b=true↔a.data.toList<+:b.data.toList:=by unfold LZ;exact List.isPrefixOf_iff_prefix
theorem SQ{a b c:ByteArray}(J:LZ a b=true)(Y:LZ b c=true):LZ a c=true:=Te.2 ((Te.1 J).trans (Te.1 Y))
def Pn(k:AO)(f:Nat):Prop:=(zS k.zZ f).r=1/\((∃t i,t<12/\Bh (Ay k t)=true/\i<4/\Dm f (As k.mem t i)=true/\(zS k.zZ t).g=gA)∨Ab k 0=(f:Int))
def Dl(k k':AO):Prop:=(∀e,e<3->By (A7 k' e) gA=By (A7 k e) gA)/\Ab k' 0=Ab k 0/\
 ∀f,f<12->(zS k.zZ f).g=gA->Ay k f≠0->AG k'.mem f=AG k.mem f/\(zS k'.zZ f).g=gA/\(Pn k f->(zS k'.zZ f).r=(zS k.zZ f).r)
theorem Dl.refl(k:AO):Dl k k:=⟨λ_ _=>rfl,rfl,λ_ _ h _=>⟨rfl,h,λ_=>rfl⟩⟩
section
variable {k:AO} (h:DQ k)
include h
theorem Ou{t:Nat}(hf:f<12)(L:Pn k f)(ht:t<12)(gv:Bh (Ay k t)=true)(O:(zS k.zZ t).g≠gA):f∉named (AG k.mem t):=λhm=>by
 obtain⟨i,R,K⟩:=h.named_at ht hm;obtain⟨J,Y⟩:=L
 rcases Y with⟨t',i',a,b,c,d,e⟩|Y
 .have:=(h.once hf J ht gv R K a b c d).1
  subst this;exact O e
 .exact h.zb hf J ht gv R K (e:=0) (by omega) Y
theorem Wh{e:Nat}(hf:f<12)(L:Pn k f)(he:e<3)(h0:e≠0):Ab k e≠(f:Int):=λhr=>by
 obtain⟨J,Y⟩:=L
 rcases Y with⟨t',i',a,b,c,d,_⟩|Y
 .exact h.zb hf J a b c d he hr
 .have iF:=h.refs f hf
  rw[Hh h.zN] at iF;unfold Ab at hr Y;have:e=1∨e=2:=by omega
  unfold EN at iF
  rcases this with rfl|rfl<;>simp[hr,Y] at iF<;>split at iF<;>omega
end
theorem Nb{k:AO}{e:Nat}{m:List (List Int)}{i:List AV}{c:List Ad}(hl:k.zX.length=3)(ha:a<3):A7 ⟨m,i,At k.zX a (Bc ss),c⟩ e=if e=a then ss else A7 k e:=by
 unfold A7
 show(AJ (At k.zX a (Bc ss)) e).zT=_
 rw[GX]
 by_cases h:e=a
 .rw[if_pos ⟨h,by rw[hl];exact ha⟩,if_pos h];rfl
 .rw[if_neg (λx=>h x.1),if_neg h]
theorem Qh{k:AO}{e:Nat}{m:List (List Int)}{i:List AV}{c:List Ad}:Ab ⟨m,i,At k.zX a (Bc ss),c⟩ e=Ab k e:=by
 unfold Ab
 show(AJ (At k.zX a (Bc ss)) e).root=_
 rw[GX]
 split
 .next h=>rw[h.1];rfl
 .rfl
section
variable {k:AO} (h:DQ k) {c:Ac} (he:c.e=1∨c.e=2) (ar:∀e,1<=e->e<3->By (A7 k e) gA=false)
include h he ar
theorem QL{g:ByteArray}(hm:Fl k c.e g=true):g≠gA:=λe=>by have _:=h;have _:=he;have _:=ar;subst e;have:=ar c.e.toNat (by omega) (by omega);unfold Fl at hm;unfold A7 at this;rw[hm] at this;cases this
theorem Za{g:ByteArray}(hm:Fl k c.e g=true):LZ g gA=false:=by
 have _:=h;have _:=he;have _:=ar;cases hc:LZ g gA
 .rfl
 .exfalso
  obtain⟨s,V,J⟩:=IE.1 hm;have:=ar c.e.toNat (by omega) (by omega);have Y:By (A7 k c.e.toNat) gA=true:=IE.2 ⟨s,V,SQ J hc⟩;rw[Y] at this;cases this
theorem XB:Dl k (JO k c).1:=by
 have _:=h;have _:=he;have _:=ar;unfold JO
 split
 .exact Dl.refl k
 .split
  .exact Dl.refl k
  .split
   .exact Dl.refl k
   .next eV=>
    obtain⟨g1,g2,g3⟩:=Fg eV;refine⟨λ_ _=>rfl,rfl,λf hf O hk=>?_⟩;have bA:f≠(Am k.zZ).toNat:=λe=>by unfold Ay at hk;rw[e] at hk;exact hk g2
    show AG (k.mem.set _ _) f=_/\(zS (k.zZ.set _ _) f).g=gA/\(_->(zS (k.zZ.set _ _) f).r=_)
    rw[OV,if_neg (λx=>bA x.1),Gu,if_neg (λx=>bA x.1)];exact⟨rfl,O,λ_=>rfl⟩
theorem WH(hA:c.a.toNat<12)(hm:Fl k c.e (zS k.zZ c.a.toNat).g=true):Dl k (KR k c).1:=by
 have _:=h;have _:=he;have _:=ar;have dN:=QL h he ar hm;unfold KR
 split
 .exact Dl.refl k
 .split
  .exact Dl.refl k
  .refine⟨λ_ _=>rfl,rfl,λf hf O hk=>?_⟩
   have bA:f≠c.a.toNat:=λe=>dN (by rw[<-e];exact O)
   show _/\(zS (k.zZ.set _ _) f).g=gA/\(_->(zS (k.zZ.set _ _) f).r=_)
   rw[Gu,if_neg (λx=>bA x.1)];exact⟨rfl,O,λ_=>rfl⟩
theorem Wk(hm:Fl k c.e (zS k.zZ c.a.toNat).g=true):Dl k (Kb k c).1:=by
 have _:=h;have _:=he;have _:=ar;have dN:=QL h he ar hm;unfold Kb
 split
 .exact Dl.refl k
 .refine⟨λ_ _=>rfl,rfl,λf hf O hk=>?_⟩
  have bA:f≠c.a.toNat:=λe=>dN (by rw[<-e];exact O)
  show AG (Bz _ _ _ _) f=_/\_/\_
  rw[Hj,if_neg (λx=>bA x.1)];exact⟨rfl,O,λ_=>rfl⟩
theorem MZ{n:Int}(dN:(zS k.zZ a).g≠gA)(kC:∀f,f<12->(zS k.zZ f).g=gA->Pn k f->f∉fs):Dl k {k with zZ:=At (Bn k.zZ fs n) a (Ef kind)}:=by
 have _:=h;have _:=he;have _:=ar;refine⟨λ_ _=>rfl,rfl,λf hf O hk=>?_⟩;have bA:f≠a:=λe=>dN (by rw[<-e];exact O)
 show AG k.mem f=AG k.mem f/\(zS (At (Bn k.zZ fs n) a (Ef kind)) f).g=gA/\(_->(zS (At (Bn k.zZ fs n) a (Ef kind)) f).r=_)
 rw[Fi,if_neg (λx=>bA x.1),NZ (by rw[h.len];exact hf)];refine⟨rfl,O,λL=>?_⟩;have:=List.count_eq_zero_of_not_mem (kC f hf O L)
 show(zS k.zZ f).r+n*((fs.count f:Nat):Int)=_
 rw[this];simp
theorem NV{r:List AV×Int}(hr:r.2=0->Dl k {k with zZ:=r.1}):Dl k (ET k r).1:=by
 have _:=h;have _:=he;have _:=ar;unfold ET
 split
 .next h0=>exact hr h0
 .exact Dl.refl k
theorem YP(hm:Fl k c.e (zS k.zZ c.a.toNat).g=true):Dl k (ET k (IF k.mem k.zZ c.a.toNat c.b (AJ k.zX c.e.toNat).zT)).1:=by
 have _:=h;have _:=he;have _:=ar;have dN:=QL h he ar hm;refine NV h he ar λh0=>?_
 revert h0
 unfold IF
 split
 .intro x;cases x
 .split
  .intro x;cases x
  .next hgood=>
   split
   .intro _
    refine MZ h he ar dN λf hf O _ dW=>?_
    obtain⟨w,hw,J,Y⟩:=FY.1 dW;have:=MB.1 (by simpa using hgood) w hw;unfold Fc at this;rw[if_pos J,Y] at this;simp only[yu] at this;have:=this.2;rw[O] at this;have ha:=ar c.e.toNat (by omega) (by omega);unfold A7 at ha;rw[this] at ha;cases ha
   .intro x;cases x
theorem Ve(hA:c.a.toNat<12)(hm:Fl k c.e (zS k.zZ c.a.toNat).g=true):Dl k (ET k (Dz k.mem k.zZ c.a.toNat)).1:=by
 have _:=h;have _:=he;have _:=ar;have dN:=QL h he ar hm;refine NV h he ar λh0=>?_
 revert h0
 unfold Dz
 split
 .intro x;cases x
 .next bC=>
  split
  .intro _
   have gv:Bh (Ay k c.a.toNat)=true:=by
    cases X:Bh (Ay k c.a.toNat)
    .exact absurd (.inl X) bC
    .rfl
   exact MZ h he ar dN λf hf O L=>Ou h hf L hA gv dN
  .intro x;cases x
theorem YX(hA:c.a.toNat<12)(hm:Fl k c.e (zS k.zZ c.a.toNat).g=true):Dl k (H7 k c).1:=by
 have _:=h;have _:=he;have _:=ar;have dN:=QL h he ar hm;unfold H7
 split
 .exact Dl.refl k
 .next bC=>
  split
  .exact Dl.refl k
  .split
   .exact Dl.refl k
   .next hno2=>
    have gv:Bh (Ay k c.a.toNat)=true:=by
     cases X:Bh (Ay k c.a.toNat)
     .exact absurd (.inl X) bC
     .rfl
    have dX:c.b.toNat<4:=by
     cases X:BZ c.b 0 3
     .exact absurd (.inr (.inl X)) bC
     .have:=AZ.1 X;omega
    refine⟨λ_ _=>rfl,rfl,λf hf O hk=>?_⟩;have bA:f≠c.a.toNat:=λe=>dN (by rw[<-e];exact O)
    show AG (Bz _ _ _ _) f=_/\(zS (A5 (A5 k.zZ _ _) c.c 1) f).g=gA/\(_->(zS (A5 (A5 k.zZ _ _) c.c 1) f).r=_)
    rw[Hj,if_neg (λx=>bA x.1),Fa (by rw[Cl];exact h.len),Fa h.len];refine⟨rfl,O,λL=>?_⟩;have e1:Dm f (As k.mem c.a.toNat c.b.toNat)=false:=by
     cases K:Dm f (As k.mem c.a.toNat c.b.toNat)
     .rfl
     .exfalso
      have gZ:Bm (As k.mem c.a.toNat c.b.toNat)=true/\BC (As k.mem c.a.toNat c.b.toNat)=f:=by simpa[Dm] using K
      have:=Jx gZ.1;rw[gZ.2] at this;exact Ou h hf L hA gv dN this
    have e2:Dm f c.c=false:=by
     cases K:Dm f c.c
     .rfl
     .exfalso
      have gZ:Bm c.c=true/\BC c.c=f:=by simpa[Dm] using K
      refine hno2 ⟨gZ.1,?_⟩;rw[gZ.2,O];have:=ar c.e.toNat (by omega) (by omega);exact this
    rw[e1,e2];simp[EN]
theorem Wo:Dl k (PA k c).1:=by
 have _:=h;have _:=he;have _:=ar;unfold PA
 split
 .exact Dl.refl k
 .next bC=>
  split
  .exact Dl.refl k
  .next hno2=>
   have dh:c.e.toNat<3:=by omega
   have hV:c.e.toNat≠0:=by omega
   refine⟨λe _=>?_,?_,λf hf O hk=>⟨rfl,?_⟩⟩
   .have:A7 ⟨k.mem,k.zZ,At k.zX c.e.toNat (D5 c.a),GJ k.zW c.e⟩ e=A7 k e:=by
     unfold A7
     show(AJ (At k.zX c.e.toNat (D5 c.a)) e).zT=_
     rw[GX]
     split
     .next h=>rw[h.1];rfl
     .rfl
    show By (A7 ⟨k.mem,k.zZ,At k.zX c.e.toNat (D5 c.a),GJ k.zW c.e⟩ e) gA=_
    rw[this]
   .show(AJ (At k.zX c.e.toNat (D5 c.a)) 0).root=_
    rw[GX,if_neg (λx=>hV x.1.symm)];rfl
   .have hl:=h.len
    show(zS (GQ k.zZ (AJ k.zX c.e.toNat).root c.a) f).g=gA/\(_->(zS (GQ k.zZ (AJ k.zX c.e.toNat).root c.a) f).r=_)
    rw[Sy hl hf];refine⟨O,λL=>?_⟩;have e1:decide ((AJ k.zX c.e.toNat).root=(f:Int))=false:=decide_eq_false (Wh h hf L dh hV);have e2:decide (c.a=(f:Int))=false:=decide_eq_false λhx=>by
     have:BM k.zZ (Be k.mem c.a) (AJ k.zX c.e.toNat).zT=true:=by simpa using hno2
     have:=GG.1 this f (De.2 ⟨by omega,.inl (by omega)⟩);rw[O] at this;have ha:=ar c.e.toNat (by omega) (by omega);unfold A7 at ha;rw[this] at ha;cases ha
    rw[e1,e2];simp[EN]
theorem ZT{s g:ByteArray}(hc:LZ s g=false):By (Cs ss s).1 g=By ss g:=by
 have _:=h;have _:=he;have _:=ar;unfold Cs
 split
 .rfl
 .split
  .rfl
  .rw[wF,IE,IE]
   constructor
   .rintro⟨x,hx,hxc⟩
    rcases M5.1 hx with rfl|hx
    .rw[hc] at hxc;cases hxc
    .exact⟨x,hx,hxc⟩
   .rintro⟨x,hx,hxc⟩
    exact⟨x,M5.2 (.inr hx),hxc⟩
theorem YG{s g:ByteArray}(hc:LZ s g=false):By (DK ss s) g=By ss g:=by
 have _:=h;have _:=he;have _:=ar;unfold DK;rw[wF,IE,IE];constructor
 .rintro⟨x,hx,hxc⟩
  exact⟨x,(wQ.1 hx).1,hxc⟩
 .rintro⟨x,hx,hxc⟩
  refine⟨x,wQ.2 ⟨hx,?_⟩,hxc⟩;cases V:LZ s x
  .rfl
  .rw[SQ V hxc] at hc;cases hc
theorem U1:Dl k (Lc k c).1:=by
 have _:=h;have _:=he;have _:=ar;unfold Lc
 split
 .exact Dl.refl k
 .next bC=>
  split
  .exact Dl.refl k
  .next hm=>
   split
   .exact Dl.refl k
   .have jP:c.a.toNat<3:=by
     cases X:BZ c.a 0 2
     .exact absurd (.inl X) bC
     .have:=AZ.1 X;omega
    have jI:=Za h he ar (g:=c.nm) (by simpa using hm);refine⟨λe _=>?_,Qh,λf hf O hk=>⟨rfl,O,λ_=>rfl⟩⟩;rw[Nb h.zN jP]
    split
    .next hea=>rw[hea];exact ZT h he ar jI
    .rfl
theorem UJ:Dl k (KB k c).1:=by
 have _:=h;have _:=he;have _:=ar;unfold KB
 split
 .exact Dl.refl k
 .next bC=>
  split
  .exact Dl.refl k
  .next hm=>
   split
   .exact Dl.refl k
   .have jP:c.a.toNat<3:=by
     cases X:BZ c.a 0 2
     .exact absurd (.inl X) bC
     .have:=AZ.1 X;omega
    have jI:=Za h he ar (g:=c.nm) (by simpa using hm);refine⟨λe _=>?_,Qh,λf hf O hk=>⟨rfl,O,λ_=>rfl⟩⟩;rw[Nb h.zN jP]
    split
    .next hea=>rw[hea];exact YG h he ar jI
    .rfl
theorem XG{m:List (List Int)}{root:Int}(h0:0<=root)(hw:(Bq m root.toNat a).1=0):(Bq m root.toNat a).2.1∈Be m root:=by
 have _:=h;have _:=he;have _:=ar
 revert hw
 unfold Bq
 split
 .next J=>
  split
  .next Y=>
   intro _;exact De.2 ⟨h0,.inr (.inr ⟨_,Jx J,Jx Y⟩)⟩
  .intro x;cases x
 .intro x;cases x
theorem Yf:Dl k (Iz k c).1:=by
 have _:=h;have _:=he;have _:=ar;unfold Iz;dsimp only
 split
 .exact Dl.refl k
 .next bC=>
  split
  .exact Dl.refl k
  .next hw=>
   split
   .exact Dl.refl k
   .split
    .have h0:0<=(AJ k.zX c.e.toNat).root:=by
      rcases Int.lt_or_le (AJ k.zX c.e.toNat).root 0 with hh|hh
      .exact absurd (.inr (.inl hh)) bC
      .exact hh
     have hr:=XG h he ar (a:=c.a.toNat) h0 (by simpa using hw);have h9:=h.allow c.e.toNat (by omega) _ hr;refine⟨λ_ _=>rfl,rfl,λf hf O hk=>?_⟩;have bA:f≠(Bq k.mem (AJ k.zX c.e.toNat).root.toNat c.a.toNat).2.1:=λe=>by rw[<-e,O,ar c.e.toNat (by omega) (by omega)] at h9;cases h9
     show AG (Bz _ _ _ _) f=_/\_/\_
     rw[Hj,if_neg (λx=>bA x.1)];exact⟨rfl,O,λ_=>rfl⟩
    .exact⟨λ_ _=>rfl,rfl,λf hf O hk=>⟨rfl,O,λ_=>rfl⟩⟩
theorem Um:Dl k (Ae k c).1:=by
 have _:=h;have _:=he;have _:=ar;unfold Ae
 split
 .exact XB h he ar
 .split
  .unfold Gt
   split
   .exact Dl.refl k
   .next bC=>
    split
    .exact Dl.refl k
    .next hm=>
     have fX:Fl k c.e (zS k.zZ c.a.toNat).g=true:=by simpa using hm
     have hA:c.a.toNat<12:=by
      cases X:BZ c.a 0 11
      .exact absurd (.inl X) bC
      .have:=AZ.1 X;omega
     split
     .exact WH h he ar hA fX
     .split
      .exact Wk h he ar fX
      .split
       .exact YP h he ar fX
       .split
        .exact Ve h he ar hA fX
        .exact YX h he ar hA fX
  .split
   .exact Wo h he ar
   .split
    .exact U1 h he ar
    .split
     .exact UJ h he ar
     .split
      .exact Yf h he ar
      .exact Dl.refl k
end
theorem Zb(h:Du p){c:Ac}(he:c.e=1∨c.e=2):Du (OP p c).1/\∀a,a<64->Dx (OP p c).1 a=Dx p a:=by
 have hn:=Um h.k he h.alone;have fZ:DQ (Ae p.zV c).1:=M8 h.k (by omega);obtain⟨k1,k2,k3⟩:=hn;have iE:=h.zA;have ei:Pn p.zV (Ab p.zV 0).toNat:=⟨h.yM.2,.inr (by have:=h.root;omega)⟩;have eQ:∀i,i<4->Pn p.zV (BO p.low i).toNat:=λi R=>⟨(h.lows i R).2.2.2.2,.inl ⟨_,i,iE.1,by rw[iE.2];rfl,R,h.zk R,h.yM.1⟩⟩
 have dv:∀n,n<16->(AC p.zY n).w=1->Pn p.zV (AC p.zY n).a.toNat:=λn K hw=>by obtain⟨f1,f2,f3⟩:=h.zG K hw;have hl:=h.zK (i:=n/4) (by omega);exact⟨f3.2,.inl ⟨_,n%4,hl.1,by rw[hl.2];rfl,by omega,f1,(h.lows (n/4) (by omega)).2.2.2.1⟩⟩
 have eF:=k3 _ iE.1 h.yM.1 (by rw[iE.2];decide);have gg:=λi (R:i<4)=>k3 _ (h.zK R).1 (h.lows i R).2.2.2.1 (by rw[(h.zK R).2];decide)
 have dp:=λn (K:n<16) (hw:(AC p.zY n).w=1)=>k3 _ (h.zH K hw).1 (h.zG K hw).2.2.1 (by rw[(h.zH K hw).2];decide)
 have gU:∀n,n<16->Bt (OP p c).1 n=Bt p n:=λn K=>by
  unfold Bt OP As
  show(AG (Ae p.zV c).1.mem (BO p.low (n/4)).toNat).getD (n%4) 0=_
  rw[(gg (n/4) (by omega)).1]
 refine⟨⟨fZ,h.zD,h.zv,?_,λe J Y=>?_,?_,h.zt,?_,λi R=>?_,h.zO,h.slots,λn K=>?_,h.zR,h.zU,h.count⟩,λa ha=>?_⟩
 .exact(k1 0 (by omega)).trans h.may
 .exact(k1 e Y).trans (h.alone e J Y)
 .show 0<=Ab (Ae p.zV c).1 0
  rw[k2];exact h.root
 .show LI (Ae p.zV c).1.zZ (Ab (Ae p.zV c).1 0).toNat
  rw[k2];exact⟨eF.2.1,(eF.2.2 ei).trans h.yM.2⟩
 .obtain⟨x1,x2,x3,x4⟩:=h.lows i R
  refine⟨x1,x2,?_,(gg i R).2.1,((gg i R).2.2 (eQ i R)).trans x4.2⟩
  show As (Ae p.zV c).1.mem (Ab (Ae p.zV c).1 0).toNat i=_
  rw[k2];unfold As;rw[eF.1];exact x3
 .have:=h.zY n K
  unfold Kl at this ⊢;rw[gU n K]
  rcases this with x|⟨x1,x2,x3,x4⟩|x
  .exact .inl x
  .exact .inr (.inl ⟨x1,x2,x3,(dp n K x1).2.1,((dp n K x1).2.2 (dv n K x1)).trans x4.2⟩)
  .exact .inr (.inr x)
 .unfold Dx
  show(if(AC p.zY (a/4)).w=1 then As (Ae p.zV c).1.mem (AC p.zY (a/4)).a.toNat (a%4) else _)=_
  by_cases w1:(AC p.zY (a/4)).w=1
  .rw[if_pos w1,if_pos w1]
   unfold As;rw[(dp _ (by omega) w1).1]
  .rw[if_neg w1,if_neg w1];rfl
def gB:ByteArray:=⟨#[98]⟩
def gC:ByteArray:=⟨#[99]⟩
def cW:AO:=⟨xR 12 [0,0,0,0],xR 12 ⟨0,⟨#[]⟩,0⟩,[⟨[gA],-1⟩,⟨[gB],-1⟩,⟨[gC],-1⟩],[]⟩
def KW:List Ac:=[Ag 1 0 0 0,Ag 4 0 3 0,Ag 7 0 0 0,
 Ag 1 0 0 0,Ag 4 1 2 0,Ag 6 0 0 7,Ag 1 0 0 0,Ag 4 2 2 0,Ag 6 0 1 11,Ag 1 0 0 0,Ag 4 3 2 0,Ag 6 0 2 15,Ag 1 0 0 0,Ag 4 4 2 0,Ag 6 0 3 19]
def EF(n:Nat):AO:=(KW.take n).foldl (λk c=>(Ae k c).1) cW
def bJ:AO:=⟨[7,11,15,19]::xR 11 [0,0,0,0],⟨3,gA,1⟩::(xR 4 ⟨2,gA,1⟩++xR 7 ⟨0,⟨#[]⟩,0⟩),[⟨[gA],0⟩,⟨[gB],-1⟩,⟨[gC],-1⟩],[]⟩
theorem Wd:EF 15=bJ:=by kernel_rfl
theorem aT:Ae (EF 0) (Ag 1 0 0 0)=(EF 1,0,0):=by kernel_rfl
theorem aR:Ae (EF 1) (Ag 4 0 3 0)=(EF 2,0,0):=by kernel_rfl
theorem ZY:Ae (EF 2) (Ag 7 0 0 0)=(EF 3,0,0):=by kernel_rfl
theorem ZZ:∀i,i<4->Ae (EF (3*i+3)) (Ag 1 0 0 0)=(EF (3*i+4),((i+1:Nat):Int),0)
 |0,_|1,_|2,_|3,_=>by kernel_rfl
 |_+4,h=>by omega
theorem aQ:∀i,i<4->Ae (EF (3*i+4)) (Ag 4 ((i+1:Nat):Int) 2 0)=(EF (3*i+5),0,0)
 |0,_|1,_|2,_|3,_=>by kernel_rfl
 |_+4,h=>by omega
theorem aS:∀i,i<4->Ae (EF (3*i+5)) (Ag 6 0 (i:Int) (IB ((i+1:Nat):Int)))=(EF (3*i+6),0,0)
 |0,_|1,_|2,_|3,_=>by kernel_rfl
 |_+4,h=>by omega
theorem ZX:∀n,n<=15->DQ (EF n):=by
 have h0:DQ (EF 0):=El.1 (by kernel_rfl);intro n
 induction n with
 |zero=>exact λ_=>h0
 |succ n ih=>
  intro K;have az:n<KW.length:=by show n<15;omega
  have e:EF (n+1)=(Ae (EF n) KW[n]).1:=by unfold EF;rw[List.take_succ_eq_append_getElem az,uZ];rfl
  rw[e];have he:(KW[n]).e=0:=by
   have:∀c∈KW,c.e=0:=by
    intro c hc;simp only[KW,xD,List.not_mem_nil,or_false] at hc
    rcases hc with h|h|h|h|h|h|h|h|h|h|h|h|h|h|h<;>(subst h;rfl)
   exact this _ (List.getElem_mem az)
  exact M8 (ih (by omega)) (by rw[he];omega)
def VQ(zU:Int):AR:=⟨bJ,xR 16 [],[1,2,3,4],xR 16 ⟨0,0,false⟩,0,zU⟩
theorem XP{l:Int}(J:1<=l)(h6:l<=6):Du (VQ l):=by
 have h:Du (VQ 1):=Ca.1 (by kernel_rfl);exact⟨h.k,h.zD,h.zv,h.may,h.alone,h.root,h.zt,h.yM,h.lows,h.zO,h.slots,λn K=>h.zY n K,h.zR,⟨J,h6⟩,by
  show((Aj (xR 16 ⟨0,0,false⟩) 1:Nat):Int)<=l
  have:Aj (xR 16 ⟨0,0,false⟩) 1=0:=by kernel_rfl
  omega⟩
def Ez(k:AO)(r:Mh):Prop:=(r.2.2≠0->r=(k,0,r.2.2))/\0<=r.2.2/\r.2.2<=4
theorem Ez.code{k:AO}{n:Int}(h0:0<=n)(h4:n<=4):Ez k (k,0,n):=⟨λ_=>rfl,h0,h4⟩
theorem Ez.done{k k':AO}{v:Int}:Ez k (k',v,0):=⟨λh=>absurd rfl h,by show(0:Int)<=0;omega,by show(0:Int)<=4;omega⟩
theorem Ez.zB{k:AO}{p:Prop} [Decidable p] {a b:Mh}(ha:Ez k a)(X:Ez k b):Ez k (if p then a else b):=by split<;>assumption
theorem QX{k:AO}{r:List AV×Int}:Ez k (ET k r):=by
 unfold ET NU
 split
 .exact .done
 .split
  .exact .code (by omega) (by omega)
  .exact .code (by omega) (by omega)
theorem Yx{k:AO}{c:Ac}:Ez k (Ae k c):=by
 have c1:Ez k (k,0,1):=.code (by omega) (by omega);have c2:Ez k (k,0,2):=.code (by omega) (by omega);have c3:Ez k (k,0,3):=.code (by omega) (by omega);have c4:Ez k (k,0,4):=.code (by omega) (by omega);unfold Ae;refine .zB (.zB c3 (.zB c1 (.zB c4 .done))) (.zB ?_ (.zB ?_ (.zB ?_ (.zB ?_ (.zB ?_ c3)))))
 .unfold Gt
  refine .zB c3 (.zB c1 (.zB (.zB c3 (.zB c2 .done)) (.zB (.zB c3 .done) (.zB QX (.zB QX ?_)))));unfold H7;exact .zB c3 (.zB c1 (.zB c1 .done))
 .unfold PA
  exact .zB c3 (.zB c1 .done)
 .unfold Lc
  exact .zB c3 (.zB c1 (.zB c4 .done))
 .unfold KB
  exact .zB c3 (.zB c1 (.zB c2 .done))
 .unfold Iz
  exact .zB c3 (.zB c3 (.zB c1 (.zB .done .done)))
theorem Pu{k:AO}{c:Ac}(h:(Ae k c).2.2≠0):Ae k c=(k,0,(Ae k c).2.2):=Yx.1 h
theorem LY{k:AO}{e a b c:Int}{s t:ByteArray}(h:kind≠1/\kind≠8/\kind≠9):Ae k ⟨kind,e,a,b,c,s⟩=Ae k ⟨kind,e,a,b,c,t⟩:=by unfold Ae;simp only[h.1,h.2.1,h.2.2,if_false];rfl
def Nt(w:World)(res:Mh)(e:Ending)(w':World):Prop:=∃m i ev c,e=.returned (.tuple #[.agg #[m,i,ev,c],.int .i64 res.2.1,.int .i64 res.2.2])/\Da w.heap.size w' m i ev c res.1/\Below w.heap.size w w'
theorem Da.lower{lo:Nat}{w:World}{m i e c:Value}{k:AO}(h:Da lo w m i e c k)(hl:lo'<=lo):Da lo' w m i e c k:=
 ⟨⟨_,h.1.choose_spec.lower hl⟩,h.2.1.lower hl,⟨_,h.2.2.1.choose_spec.lower hl⟩,h.2.2.2.lower hl⟩
theorem Da.yL{lo g:Nat}{w w':World}{m i e c:Value}{k:AO}{cs:Array Value}{T:Nat}{fr:Nat×Nat}(h:Da lo w m i e c k)(O:w.grownBy w' (some g))(hB:w.heap[g]?=some (.cells cs T fr))
 (J:29≠T:=by decide)(Y:3≠T:=by decide)(h3:92≠T:=by decide)(h4:74≠T:=by decide)(h5:9≠T:=by decide)(h6:112≠T:=by decide):Da lo w' m i e c k:=
 ⟨⟨_,h.1.choose_spec.yL O hB J Y⟩,h.2.1.yL O hB h3,⟨_,h.2.2.1.choose_spec.yL O hB h4 h5⟩,h.2.2.2.yL O hB h6⟩
theorem Ps{w:World}{g t:Nat}{a b c d e f:Value}(h:w.heap[g]?=some (.cells #[a,b,c,d,e,f] t (0,0))):w.cell? ⟨g,0,none⟩=some a/\w.cell? ⟨g,1,none⟩=some b/\w.cell? ⟨g,2,none⟩=some c/\w.cell? ⟨g,3,none⟩=some d/\w.cell? ⟨g,4,none⟩=some e/\w.cell? ⟨g,5,none⟩=some f:=
 ⟨ym w g 0 _ _ _ h,ym w g 1 _ _ _ h,ym w g 2 _ _ _ h,ym w g 3 _ _ _ h,ym w g 4 _ _ _ h,ym w g 5 _ _ _ h⟩
theorem Ao(w:World)(g:Nat)(a b c d:Value):w.grownBy ((((w.setCell ⟨g,0,none⟩ a).setCell ⟨g,1,none⟩ b).setCell ⟨g,2,none⟩ c).setCell ⟨g,3,none⟩ d) (some g):=
 An (An (An (Aq w g 0 a) 1 b) 2 c) 3 d
theorem Da.zQ{lo:Nat}{w:World}{m i e c:Value}{k:AO}(h:Da lo w m i e c k):(∃a n q,m=.slice a n q)/\(∃a n q,i=.slice a n q)/\(∃a n q,e=.slice a n q)/\∃a n q,c=.slice a n q:=by obtain⟨⟨_,J⟩,Y,⟨_,h3⟩,h4⟩:=h;obtain⟨_,_,rfl,_,_⟩:=J.1.rd.shape;obtain⟨_,_,rfl,_,_⟩:=Y.rd.shape;obtain⟨_,_,rfl,_,_⟩:=h3.1.rd.shape;obtain⟨_,_,rfl,_,_⟩:=h4.rd.shape;exact⟨⟨_,_,_,rfl⟩,⟨_,_,_,rfl⟩,⟨_,_,_,rfl⟩,⟨_,_,_,rfl⟩⟩
theorem LC(w:World)(a b c:Obj):(((w.alloc a).alloc b).alloc c).heap[w.heap.size]?=some a/\(((w.alloc a).alloc b).alloc c).heap[w.heap.size+1]?=some b/\(((w.alloc a).alloc b).alloc c).heap[w.heap.size+1+1]?=some c/\Below w.heap.size w (((w.alloc a).alloc b).alloc c)/\(((w.alloc a).alloc b).alloc c).heap.size=w.heap.size+3:=by have J:=yi w a;have Y:=yi (w.alloc a) b;have h3:=yi ((w.alloc a).alloc b) c;have h4:=AB (AB J (AI _ b)) (AI _ c);have h5:=AB Y (AI _ c);simp only[xx] at Y h3 h5;refine⟨h4,h5,h3,(IA w a b).trans ((AI _ c).mono (IA w a b).size),by simp⟩
theorem Ju{w:World}{g t:Nat}{m i e c m' i' e' c':Value}(h:w.heap[g]?=some (.cells #[m,i,e,c] t (0,0))):((((w.setCell ⟨g,0,none⟩ m').setCell ⟨g,1,none⟩ i').setCell ⟨g,2,none⟩ e').setCell ⟨g,3,none⟩ c').cell? ⟨g,0,none⟩=some m'/\((((w.setCell ⟨g,0,none⟩ m').setCell ⟨g,1,none⟩ i').setCell ⟨g,2,none⟩ e').setCell ⟨g,3,none⟩ c').cell? ⟨g,1,none⟩=some i'/\((((w.setCell ⟨g,0,none⟩ m').setCell ⟨g,1,none⟩ i').setCell ⟨g,2,none⟩ e').setCell ⟨g,3,none⟩ c').cell? ⟨g,2,none⟩=some e'/\((((w.setCell ⟨g,0,none⟩ m').setCell ⟨g,1,none⟩ i').setCell ⟨g,2,none⟩ e').setCell ⟨g,3,none⟩ c').cell? ⟨g,3,none⟩=some c':=AE (Cx h)
theorem V3(m i e c:Value)(k:AO)(N:Ac)(w:World)(h:Mu w m i e c k)(hk:DQ k)(he:0<=N.e)(K:N.e<3)(dS:N.nm.size<=maxLen)(cz:Ia N)(di:N.c<=9223372036854775807):
 Calls prog 62 #[.agg #[m,i,e,c],.agg #[.int .i64 N.k,.int .i64 N.e,.int .i64 N.a,.int .i64 N.b,.int .i64 N.c,.string N.nm]] w (Nt w (Ae k N)):=by
 have C:=AA (λ(lo g:Nat)(w:World)(m i e c:Value)(h:Il lo w g m i e c k)(au:lo<=w.heap.size)=>aK h au hk N he K dS cz di);have HR:=AA h;have Z:=AA hk;have HN:=AA (@Pu k N);generalize Ae k N=res at C HN ⊢;obtain⟨kr,vr,nr⟩:=res;obtain⟨ck,ce,ca,cb,cc,nm⟩:=N;simp only[Ac.on,Ac.onCells] at C;clear he K dS di h hk;go_in;go_wp2_with fail;obtain⟨B0,B1,B2,bs,gV⟩:=LC w (.cells #[m,i,e,c] 28) (.cells #[.int .i64 ck,.int .i64 ce,.int .i64 ca,.int .i64 cb,.int .i64 cc,.string nm] 55) (.cells #[.slice none 0 0,.slice none 0 0,.slice none 0 0,.slice none 0 0] 28);generalize((w.alloc _).alloc _).alloc _=W0 at*;refine(UC m i e c k W0 (HR.out.below bs) Z.out).mono ?_;rintro r w1 ⟨m1,i1,e1,c1,rfl,O1,b1⟩;have ko:=b1.size;obtain⟨⟨ma,mn,mc,rfl⟩,⟨ia,iN,ic,rfl⟩,⟨ea,en,ec,rfl⟩,⟨qa,qn,qc,rfl⟩⟩:=O1.zQ;obtain⟨N3,b2⟩:=Dd w1 (.cells #[.slice ma mn mc,.slice ia iN ic,.slice ea en ec,.slice qa qn qc] 28);obtain⟨y0,y1,y2,y3,y4,y5⟩:=Ps (AB (AB B1 b1) b2);have hI:=AA (show Il W0.heap.size _ w1.heap.size _ _ _ _ k from⟨N3,ko,O1.below b2⟩);have dj:=AA (b1.trans (b2.mono ko));clear N3 O1 b1 b2 B1;go_wp2_with fail;refine(C.out _ _ _ _ _ _ _ hI.out (by have:=dj.out.size;omega)).mono ?_;rintro r w3 ⟨rfl,gx,b3⟩;have gE:=dj.out.trans b3;have az:w.heap.size+1+1<W0.heap.size:=by omega
 have ke:=(gE.block _ (by omega)).trans B0;have gt:=(gE.block _ (by omega)).trans B2;have gl:=AA (bs.trans (gE.mono bs.size));clear y0 y1 y2 y3 y4 y5 hI dj b3 B0 B2 C
 by_cases h0:nr=0
 focus
  subst h0
  have t0:((0:Int)==0)=true:=rfl;obtain⟨m',i',e',c',iR⟩:=gx rfl;obtain⟨⟨jg,je,jf,rfl⟩,⟨jj,jk,ji,rfl⟩,⟨j1,jZ,j0,rfl⟩,⟨jc,ja,jb,rfl⟩⟩:=iR.2.2.zQ;obtain⟨x0,x1,x2,x3⟩:=iR.cells;have df:=AK gt;obtain⟨z0,z1,z2,z3⟩:=AE gt;obtain⟨E0,E1,E2,E3⟩:=Ju (m':=.slice jg je jf) (i':=.slice jj jk ji) (e':=.slice j1 jZ j0) (c':=.slice jc ja jb) gt;have HE:=AA (xU E0 (xU E1 (xU E2 E3)));have ay:=Ao w3 (w.heap.size+1+1) (.slice jg je jf) (.slice jj jk ji) (.slice j1 jZ j0) (.slice jc ja jb);have kX:=AA (show Da w.heap.size _ (.slice jg je jf) (.slice jj jk ji) (.slice j1 jZ j0) (.slice jc ja jb) kr from(iR.2.2.yL ay gt).lower bs.size);have ip:=AA (AM gl.out ay (by omega) gl.out.size);clear E0 E1 E2 E3 iR gx ay ke gt HN gE
 rotate_left
 focus
  have t0:(nr==0)=false:=by simp[h0]
  have hN:=HN.out h0;simp only[Prod.mk.injEq,and_true] at hN;obtain⟨rfl,rfl⟩:=hN;obtain⟨x0,x1,x2,x3⟩:=AE ke;clear gx;go_wp2_with fail;refine(UC m i e c kr w3 (HR.out.below gl.out) Z.out).mono ?_;rintro r w4 ⟨m4,i4,e4,c4,rfl,O4,b4⟩;have B4:=AB gt b4;have df:=AK B4;obtain⟨z0,z1,z2,z3⟩:=AE B4;obtain⟨E0,E1,E2,E3⟩:=Ju (m':=m4) (i':=i4) (e':=e4) (c':=c4) B4;have HE:=AA (xU E0 (xU E1 (xU E2 E3)));have ay:=Ao w4 (w.heap.size+1+1) m4 i4 e4 c4;have kX:=AA (show Da w.heap.size _ m4 i4 e4 c4 kr from(O4.yL ay B4).lower gl.out.size);have ip:=AA (AM (gl.out.trans (b4.mono gl.out.size)) ay (by omega) (by have:=gl.out.size;have:=b4.size;omega));obtain⟨⟨_,_,_,rfl⟩,⟨_,_,_,rfl⟩,⟨_,_,_,rfl⟩,⟨_,_,_,rfl⟩⟩:=O4.zQ;clear E0 E1 E2 E3 O4 b4 B4 ay ke gt x0 x1 x2 x3
 rotate_left
 all_goals
  go_wp2_with fail;exact yr (v:=.tuple #[.agg #[_,_,_,_],_,_]) (by simp[results,Tryz.results62,go_sem,HE.out]) rfl ⟨_,_,_,_,rfl,kX.out,ip.out⟩
def Jy(w:World)(m i e c s l q:Value)(P:AR):Prop:=Mu w m i e c P.zV/\Bk w s P.swap/\Ax w l P.low/\BK 3 DG w q P.zY
structure FQ(lo:Nat)(w:World)(m i e c s l q:Value)(P:AR):Prop where
 ker:Da lo w m i e c P.zV
 swp:∃vs,Au lo w s vs P.swap
 low:AF lo w l P.low
 pgs:AQ lo 43 3 DG w q P.zY
 apart:Fp m s
structure Gi(lo g:Nat)(w:World)(m i e c s l q:Value)(P:AR):Prop where
 yK:w.heap[g]?=some (.cells #[m,i,e,c,s,l,q,.int .i64 P.zR,.int .i64 P.zU] 32 (0,0))
 yJ:lo<=g
 own:FQ lo w m i e c s l q P
section
variable {lo g:Nat} {w w':World} {m i e c s l q:Value} {P:AR}
theorem Jy.below(h:Jy w m i e c s l q P)(X:Below w.heap.size w w'):Jy w' m i e c s l q P:=⟨h.1.below X,h.2.1.below X,h.2.2.1.below X,BK.below h.2.2.2 X⟩
theorem FQ.rd(h:FQ lo w m i e c s l q P):Jy w m i e c s l q P:=⟨h.ker.rd,h.swp.choose_spec.rd,h.low.rd,h.pgs.rd⟩
theorem FQ.below(h:FQ lo w m i e c s l q P)(X:Below w.heap.size w w'):FQ lo w' m i e c s l q P:=⟨h.ker.below X,⟨_,h.swp.choose_spec.below X⟩,h.low.below X,h.pgs.below X,h.apart⟩
theorem FQ.lower(h:FQ lo w m i e c s l q P)(hl:lo'<=lo):FQ lo' w m i e c s l q P:=⟨h.ker.lower hl,⟨_,h.swp.choose_spec.lower hl⟩,BU h.low hl,BU h.pgs hl,h.apart⟩
theorem FQ.yL{g T:Nat}{cs:Array Value}{fr:Nat×Nat}(h:FQ lo w m i e c s l q P)(O:w.grownBy w' (some g))(hB:w.heap[g]?=some (.cells cs T fr))
 (J:29≠T:=by decide)(Y:3≠T:=by decide)(h3:92≠T:=by decide)(h4:74≠T:=by decide)(h5:9≠T:=by decide)(h6:112≠T:=by decide)(h7:43≠T:=by decide):FQ lo w' m i e c s l q P:=
 ⟨h.ker.yL O hB J Y h3 h4 h5 h6,⟨_,h.swp.choose_spec.yL O hB J Y⟩,FE h.low O hB Y,h.pgs.yL O hB h7,h.apart⟩
theorem Gi.below(h:Gi lo g w m i e c s l q P)(X:Below w.heap.size w w'):Gi lo g w' m i e c s l q P:=⟨AB h.yK X,h.yJ,h.own.below X⟩
theorem AD{t:Nat}{a0 a1 a2 a3 a4 a5 a6 a7 a8:Value}(h:w.heap[g]?=some (.cells #[a0,a1,a2,a3,a4,a5,a6,a7,a8] t (0,0))):
 w.cell? ⟨g,0,none⟩=some a0/\w.cell? ⟨g,1,none⟩=some a1/\w.cell? ⟨g,2,none⟩=some a2/\w.cell? ⟨g,3,none⟩=some a3/\w.cell? ⟨g,4,none⟩=some a4/\w.cell? ⟨g,5,none⟩=some a5/\w.cell? ⟨g,6,none⟩=some a6/\w.cell? ⟨g,7,none⟩=some a7/\w.cell? ⟨g,8,none⟩=some a8:=
 ⟨ym w g 0 _ _ _ h,ym w g 1 _ _ _ h,ym w g 2 _ _ _ h,ym w g 3 _ _ _ h,ym w g 4 _ _ _ h,ym w g 5 _ _ _ h,ym w g 6 _ _ _ h,ym w g 7 _ _ _ h,ym w g 8 _ _ _ h⟩
theorem Gi.cells(h:Gi lo g w m i e c s l q P):w.cell? ⟨g,0,none⟩=some m/\w.cell? ⟨g,1,none⟩=some i/\w.cell? ⟨g,2,none⟩=some e/\w.cell? ⟨g,3,none⟩=some c/\w.cell? ⟨g,4,none⟩=some s/\w.cell? ⟨g,5,none⟩=some l/\w.cell? ⟨g,6,none⟩=some q/\w.cell? ⟨g,7,none⟩=some (.int .i64 P.zR)/\w.cell? ⟨g,8,none⟩=some (.int .i64 P.zU):=AD h.yK
theorem Jm{t:Nat}{a0 a1 a2 a3 a4 a5 a6 a7 a8 m' i' e' c':Value}(h:w.heap[g]?=some (.cells #[a0,a1,a2,a3,a4,a5,a6,a7,a8] t (0,0))):
 ((((w.setCell ⟨g,0,none⟩ m').setCell ⟨g,1,none⟩ i').setCell ⟨g,2,none⟩ e').setCell ⟨g,3,none⟩ c').heap[g]?=some (.cells #[m',i',e',c',a4,a5,a6,a7,a8] t (0,0)):=by
 have h0:=yq w g 0 _ t m' h;have J:=yq _ g 1 _ t i' h0;have Y:=yq _ g 2 _ t e' J;have h3:=yq _ g 3 _ t c' Y;simpa using h3
theorem Gi.put{m' i' e' c':Value}{k':AO}{B:Nat}{w1:World}(h:Gi lo g w m i e c s l q P)(X:Below w.heap.size w w1)(hB:w.heap.size<=B)(au:lo<=w.heap.size)(hg:Da B w1 m' i' e' c' k'):
 Gi lo g ((((w1.setCell ⟨g,0,none⟩ m').setCell ⟨g,1,none⟩ i').setCell ⟨g,2,none⟩ e').setCell ⟨g,3,none⟩ c') m' i' e' c' s l q {P with zV:=k'}:=by
 have h':=h.below X;have ay:=Ao w1 g m' i' e' c';have O':=hg.yL ay h'.yK;have F:=h'.own.yL ay h'.yK;refine⟨Jm h'.yK,h.yJ,⟨O'.lower (yB au hB),F.swp,F.low,F.pgs,λb dj ao=>?_⟩⟩;obtain⟨D,r1⟩:=hg.1;obtain⟨us,r2⟩:=h.own.swp;have:=(yk r1.1 b dj).1;have:=(yk r2.1 b ao).2;omega
end
def Jg(lo:Nat)(b:Bool)(v:Value)(w:World)(k:AO):Prop:=∃q,v=.pointer (some ⟨q,0,none⟩)/\lo<=q/\if b=true then ∃m i e c,w.heap[q]?=some (.cells #[m,i,e,c] 28 (0,0))/\Da lo w m i e c k else w.heap[q]?=some (.cells #[.slice none 0 0,.slice none 0 0,.slice none 0 0,.slice none 0 0] 28 (0,0))
theorem Jg.below{lo:Nat}{b:Bool}{w w':World}{k:AO}(h:Jg lo b v w k)(X:Below w.heap.size w w'):Jg lo b v w' k:=by
 obtain⟨q,h0,J,Y⟩:=h;refine⟨q,h0,J,?_⟩;cases b
 .exact AB Y X
 .obtain⟨m,i,e,c,h3,h4⟩:=Y
  exact⟨m,i,e,c,AB h3 X,h4.below X⟩
def MP(lo:Nat)(v:Value)(w:World)(k:AO)(x y:Int):Prop:=∃m i e c,v=.tuple #[.agg #[m,i,e,c],.int .i64 x,.int .i64 y]/\Da lo w m i e c k
def Gl(lo:Nat)(v:Value)(w:World)(k:AO):Prop:=∃m i e c,v=.agg #[m,i,e,c]/\Da lo w m i e c k
theorem MP.below{lo:Nat}{w w':World}{k:AO}{y:Int}(h:MP lo v w k x y)(X:Below w.heap.size w w'):MP lo v w' k x y:=by obtain⟨m,i,e,c,J,Y⟩:=h;exact⟨m,i,e,c,J,Y.below X⟩
theorem Gl.below{lo:Nat}{w w':World}{k:AO}(h:Gl lo v w k)(X:Below w.heap.size w w'):Gl lo v w' k:=by obtain⟨m,i,e,c,J,Y⟩:=h;exact⟨m,i,e,c,J,Y.below X⟩
theorem MP.yL{lo g:Nat}{w w':World}{k:AO}{y:Int}{cs:Array Value}{fr:Nat×Nat}(h:MP lo v w k x y)(O:w.grownBy w' (some g))(hB:w.heap[g]?=some (.cells cs 28 fr)):MP lo v w' k x y:=by obtain⟨m,i,e,c,J,Y⟩:=h;exact⟨m,i,e,c,J,Y.yL O hB⟩
theorem Gl.yL{lo g:Nat}{w w':World}{k:AO}{cs:Array Value}{fr:Nat×Nat}(h:Gl lo v w k)(O:w.grownBy w' (some g))(hB:w.heap[g]?=some (.cells cs 28 fr)):Gl lo v w' k:=by obtain⟨m,i,e,c,J,Y⟩:=h;exact⟨m,i,e,c,J,Y.yL O hB⟩
def Xf(lo g:Nat)(w:World)(s l q:Value)(P:AR)(N:Ac)(r:Ending)(w':World):Prop:=
 r=.returned (.int .i64 (Ae P.zV N).2.1)/\(∃m i e c,Gi lo g w' m i e c s l q {P with zV:=(Ae P.zV N).1}/\Da w.heap.size w' m i e c (Ae P.zV N).1)/\Below lo w w'/\w.grownBy w' (some g)
theorem Je{lo g:Nat}{w:World}{mv iv ev cv sv lv qv:Value}{P:AR}(h:Gi lo g w mv iv ev cv sv lv qv P)(au:lo<=w.heap.size)(hK:DQ P.zV)(N:Ac)(he:0<=N.e)(K:N.e<3)(dS:N.nm.size<=maxLen)(cz:Ia N)(di:N.c<=9223372036854775807):
 Calls prog 29 #[.pointer (some ⟨g,0,none⟩),.agg #[.int .i64 N.k,.int .i64 N.e,.int .i64 N.a,.int .i64 N.b,.int .i64 N.c,.string N.nm]] w (Xf lo g w sv lv qv P N):=by
 obtain⟨N0,b0⟩:=Dd w (.cells #[.int .i64 N.k,.int .i64 N.e,.int .i64 N.a,.int .i64 N.b,.int .i64 N.c,.string N.nm] 55);have CC:=λW (hW:Below (w.alloc (.cells #[.int .i64 N.k,.int .i64 N.e,.int .i64 N.a,.int .i64 N.b,.int .i64 N.c,.string N.nm] 55)).heap.size (w.alloc (.cells #[.int .i64 N.k,.int .i64 N.e,.int .i64 N.a,.int .i64 N.b,.int .i64 N.c,.string N.nm] 55)) W)=>V3 mv iv ev cv P.zV N W ((h.own.ker.rd.below b0).below hW) hK he K dS cz di
 unfold Xf;have HI:=AA (h.below b0);have E:=AA (b0.mono au);have fY:w.heap.size<(w.alloc (.cells #[.int .i64 N.k,.int .i64 N.e,.int .i64 N.a,.int .i64 N.b,.int .i64 N.c,.string N.nm] 55)).heap.size:=by simp
 generalize Ae P.zV N=res at CC ⊢;obtain⟨kr,vr,nr⟩:=res;obtain⟨ck,ce,ca,cb,cc,nm⟩:=N;dsimp only at*;go_in;go_wp2_with fail;generalize w.alloc _=W0 at*;obtain⟨x0,x1,x2,x3,_⟩:=HI.out.cells;obtain⟨y0,y1,y2,y3,y4,y5⟩:=Ps N0;have eU:=AW HI.out.yK;have CC:=AA CC;clear N0;refine Co 14 23 (λix=>ix==11) [.p g 0,.p g 0,.p g 0,.a #[mv,iv,ev,cv],.a #[.int .i64 ck,.int .i64 ce,.int .i64 ca,.int .i64 cb,.int .i64 cc,.string nm],.z,.z,.z,.i vr,.i nr,.z,.z,.i vr,.i nr] (λll ix vv ww=>match ix with
  |5|6=>MP W0.heap.size vv ww kr vr nr
  |7=>Gl W0.heap.size vv ww kr
  |10=>Jg W0.heap.size (ll 11) vv ww kr
  |_=>True) (λll ww=>Below W0.heap.size W0 ww) ?_ ?_ ?_ ?_ ?_ ?_
 .exact Av (yD _ _) 1
 .intro j hj ll i vv wz cq R hS dP gF bb hz
  match j,hj with
  |5,_|6,_=>exact(MP.below hz bb)
  |7,_=>exact(Gl.below hz bb)
  |10,_=>exact(Jg.below (by rw[EB (by rintro rfl;cases hS)];exact hz) bb)
  |0,_|1,_|2,_|3,_|4,_|8,_|9,_|11,_|12,_|13,_=>exact hz
 .intro ll i wz cq R hS dP bb O
  exact O.trans (bb.mono O.size)
 .intro i R hS o L a wx E ll z HL A hn Z
  have dl:=bc A eU x0;have dk:=bc A eU x1;have dr:=bc A eU x2;have fS:=bc A eU x3;have fQ:=bc A fY y0;have iA:=bc A fY y1;have iz:=bc A fY y2;have iy:=bc A fY y3;have iw:=bc A fY y4;have iu:=bc A fY y5
  match i,R,hS with
  |0,_,_|1,_,_|2,_,_|12,_,_|13,_,_=>exact Rb L Z E z HL
  |3,_,_=>exact JM L Z E z HL (hl:=OM ‹_› ‹_› ‹_› ‹_›)
  |4,_,_=>exact JM L Z E z HL (hl:=cV ‹_› ‹_› ‹_› ‹_› ‹_› ‹_›)
  |5,_,_=>exact co L Z E z HL (CC.out _ A) (by rintro r w_ ⟨m',i',e',c',rfl,hO,ao⟩;exact⟨_,rfl,⟨m',i',e',c',rfl,hO.lower A.size⟩,ao⟩)
  |11,_,V=>cases V
  |6,_,_=>clear dl dk dr fS fQ iA iz iy iw iu;obtain rfl:=yF L;have d5:MP W0.heap.size (a.tmps[14]?.getD undef) wx kr vr nr:=Cw z HL 5;have i7:=A9 HL 11;clear z E;refine yE ?_;go_simp;exact Z.out _ _ d5 (yD _ _)
  |7,_,_=>clear dl dk dr fS fQ iA iz iy iw iu;obtain rfl:=yF L;have d6:MP W0.heap.size (a.tmps[8]?.getD undef) wx kr vr nr:=Cw z HL 6;have i7:=A9 HL 11;clear z E;obtain⟨m',i',e',c',d6,hO⟩:=d6;refine yE ?_;go_simp;exact Z.out _ _ ⟨_,_,_,_,rfl,hO⟩ (yD _ _)
  |8,_,_|9,_,_=>clear dl dk dr fS fQ iA iz iy iw iu;obtain rfl:=yF L;have d6:MP W0.heap.size (a.tmps[8]?.getD undef) wx kr vr nr:=Cw z HL 6;clear z E;obtain⟨m',i',e',c',d6,hO⟩:=d6;refine yE ?_;go_simp;exact Z.out _ _ rfl (yD _ _)
  |10,_,_=>clear dl dk dr fS fQ iA iz iy iw iu;obtain rfl:=yF L;have i7:=A9 HL 11;clear z E;refine yE ?_;go_simp;exact Z.out _ _ ⟨_,rfl,A.size,by rw[EB (by decide),i7];exact yi _ _⟩ (AI _ _)
 .intro i R hS o L a wx E ll z HL A hn Z
  match i,R,hS with
  |0,_,V|1,_,V|2,_,V|3,_,V|4,_,V|5,_,V|6,_,V|7,_,V|8,_,V|9,_,V|10,_,V|12,_,V|13,_,V=>cases V
  |11,_,_=>
   obtain rfl:=yF L;have j2:Jg W0.heap.size (ll 11) (a.tmps[5]?.getD undef) wx kr:=Cw z HL 10;have d7:Gl W0.heap.size (a.tmps[15]?.getD undef) wx kr:=Cw z HL 7;clear z E;obtain⟨qb,l8,da,aq⟩:=j2;rw[HL.out.1] at aq;replace aq:wx.heap[qb]?=some (.cells #[.slice none 0 0,.slice none 0 0,.slice none 0 0,.slice none 0 0] 28 (0,0)):=aq;obtain⟨m',i',e',c',d7,hO⟩:=d7;obtain⟨⟨va,vn,vc,rfl⟩,⟨wa,wn,wc,rfl⟩,⟨xa,xn,xc,rfl⟩,⟨ya,yn,yc,rfl⟩⟩:=hO.zQ;obtain⟨c0,ik,c2,c3⟩:=AE aq;have fq:=AK aq;have ay:=AA (Ao wx qb (.slice va vn vc) (.slice wa wn wc) (.slice xa xn xc) (.slice ya yn yc));have mA:=AA l8;have Hq:=AA aq;have HO:=AA hO;clear aq hO;refine yE ?_;go_simp;exact Z.out undef _ trivial (AM A ay.out da A.size) (λj gy dy dT hu=>match j,dy with
    |0,_|1,_|2,_|3,_|4,_|8,_|9,_|11,_|12,_|13,_=>hu
    |5,_|6,_=>MP.yL hu ay.out Hq.out
    |7,_=>Gl.yL hu ay.out Hq.out
    |10,_=>⟨qb,mA.out,da,by rw[FN];exact⟨_,_,_,_,Cx Hq.out,HO.out.yL ay.out Hq.out⟩⟩)
 .intro D wx ll bl hR A
  have gK:Jg W0.heap.size (ll 11) (D 10) wx kr:=BS hR 10;have b8:(D 12)=.int .i64 vr:=BS hR 12;clear hR;simp only[Cn,BQ,yC,yy,yz,yx,b8];simp;generalize D 10=z10 at gK ⊢;clear b8;obtain⟨qb,rfl,da,aq⟩:=gK;rw[bl 11 (by decide),if_pos rfl] at aq;obtain⟨m',i',e',c',kt,hO⟩:=aq;clear bl;obtain⟨⟨ma,mn,mc,rfl⟩,⟨ia,iN,ic,rfl⟩,⟨ea,en,ec,rfl⟩,⟨qa,qn,qc,rfl⟩⟩:=hO.zQ;obtain⟨c0,ik,c2,c3⟩:=AE kt;have iQ:=HI.out.below A;have fg:=AK iQ.yK;obtain⟨z0,z1,z2,z3,_⟩:=iQ.cells;have hi:=AA (HI.out.put A (yv _) (yB au (by omega)) hO);have R2:=AA ((hO.yL (Ao wx g (.slice ma mn mc) (.slice ia iN ic) (.slice ea en ec) (.slice qa qn qc)) iQ.yK).lower (uA fY));have B:=AA (AM (E.out.trans (A.mono (yB au (by omega)))) (Ao wx g (.slice ma mn mc) (.slice ia iN ic) (.slice ea en ec) (.slice qa qn qc)) HI.out.yJ (yB au (yB (by omega) A.size)));have R3:=AA (AP ⟨b0.os,b0.tape,b0.output,b0.size,λk hk _=>b0.block k hk⟩ (AP ⟨A.os,A.tape,A.output,A.size,λk hk _=>A.block k hk⟩ (Ao wx g (.slice ma mn mc) (.slice ia iN ic) (.slice ea en ec) (.slice qa qn qc))));clear iQ hO kt x0 x1 x2 x3 y0 y1 y2 y3 y4 y5;go_wp2_with fail;go_ret;exact⟨rfl,⟨_,_,_,_,hi.out,R2.out⟩,B.out,R3.out⟩
end Go.Proofs.YtpdjjjdkhedibaaGreatDoor
