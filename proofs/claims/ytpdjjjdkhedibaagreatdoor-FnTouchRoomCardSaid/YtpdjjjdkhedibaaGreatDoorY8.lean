/-
  Packed:13 texts.
-/
import Derived.Test.YtpdjjjdkhedibaaGreatDoorY1
import Derived.Test.YtpdjjjdkhedibaaGreatDoorY7
import Derived.Test.YtpdjjjdkhedibaaGreatDoorY4
import Derived.Test.YtpdjjjdkhedibaaGreatDoorY3
import Derived.Test.YtpdjjjdkhedibaaGreatDoorY5
set_option linter.unusedVariables false
set_option linter.unusedSimpArgs false
set_option maxHeartbeats 16000000
set_option maxRecDepth 100000
open Go Go.Proofs.YtpdjjjdkhedibaaGreatDoor
open Bool renaming and_eq_true->yp,eq_iff_iff->wA,or_eq_true->xl
open Go.RowKit.Below renaming refl->yD
open Go.Value renaming int->yf,oneCell'->xD,slice->xF
open Go.Value.slice renaming injEq->xH
open Go.World renaming block_lt_of_cell?->yA,size_alloc->xv
open Go.World.ownsRow renaming lt->yq
open Go renaming cell_of_row->yi,heap_alloc_new->yv
open List renaming all_eq_true->yd,count_le_length->vN,foldl_cons->yy,foldl_nil->yw,getD_eq_getElem?_getD->xR,getElem?_drop->tz,getElem?_eq_some_iff->yr,getElem?_take->uD,length_append->yj,length_drop->wH,length_map->ui,length_singleton->xM,length_take->xT,mem_of_getElem?->ye,mem_range->xU,range->yC,range_succ->wZ,replicate->xV,take_length->xt
open List.range renaming loop->yz
open Nat renaming le_refl->yt,le_succ->wv,le_trans->yB,lt_of_lt_of_le->xX,not_lt_zero->xP,zero_add->uT,zero_le->yh
variable {T k lo n:Nat} {c:Value} {w w1 w2:World}
namespace Go.Proofs.YtpdjjjdkhedibaaGreatDoor
open Go.Proofs.Tryz
open Go.RowKit
theorem QJ(v:Value)(xs:List AU)(f:Nat)(w:World)(h:BS w v xs)(ax:BI xs=true)(hf:f<12)(hk:(zS xs f).k=1)(hr:(zS xs f).r=0):
 Calls prog 220 #[v,.int .i64 f] w λe w'=>∃v',e=.returned (.tuple #[v',.bool true])/\AQ w.heap.size 92 3 A2 w' v' (xs.set f AU.zero)/\Below w.heap.size w w':=by
 have hl:=(Az.1 ax).1;have C1:=AA (λW (hW:Below w.heap.size w W)=>by have:=DO v xs W (BD.below h hW) (CJ ax);rw[ax] at this;exact this);have HE:=AA (show Be (f:Int) 0 11=true from Ab.2 (by omega));have HR:=AA (λW (hW:Below w.heap.size w W)=>BD.below h hW);obtain⟨ai,ci,rfl,es,cR,H2⟩:=BD.open Ay (by decide) h;obtain⟨bi,ab,rfl,a3,D0,_,D2⟩:=H2.zP (show f<xs.length by omega);have cG:(f:Int)<xs.length:=by omega
 have t1:((zS xs f).k !=1)=false:=by simp[hk]
 have t2:¬0<(zS xs f).r:=by omega
 have Hl:=AA hl;have hb:=yD w.heap.size w;clear h ax hk hr H2 hl;go_in;go_wp2_with fail;refine(C1.out _ hb).mono ?_;rintro e w_ ⟨rfl,bY⟩;replace hb:=hb.trans (bY.mono hb.size);clear bY;go_wp2_with fail;refine(D6 _ _).mono ?_;rintro e w2 ⟨rfl,rfl⟩;rw[HE.out];replace D0:=(hb.cell (p:=⟨bi,ab+f*3,none⟩) a3).trans D0;replace D2:=(hb.cell (p:=⟨bi,ab+f*3+2,none⟩) a3).trans D2;have ch:=AA hb;go_wp2_with (at_builtin;go_must (refine FO (cs:=A2) rfl rfl 92 (.agg #[.int .i64 0,.string ⟨#[]⟩,.int .i64 0]) 3 32 underlying24 Tryz.zE rfl (by decide) rfl (By A2 _ _ _) rfl (HR.out _ (ch.out.trans ((AE _ _).mono ch.out.size))) (Ez _) (by have:=Hl.out;omega) (by decide) (by simp) ?_;intro v' w9 hO bq));have a8:=(ch.out.trans ((AE _ _).mono ch.out.size)).trans (bq.mono ch.out.size);obtain⟨q,b9,rfl,c1,c2,q1,q2,cg⟩:=hO.zM (by have:=Hl.out;omega);have hS:=AA (AQ.stored Ay hO (show f<xs.length by have:=Hl.out;omega) AU.zero);obtain⟨d0,d1,d2⟩:=AQ.zP hO (show f<xs.length by have:=Hl.out;omega);have hB:=AA (AM a8 hS.out.2 (yB ch.out.size q1) a8.size);have db:=ch.out.size;unfold maxLen at c2;have da:¬(f:Int)<0:=by omega
 clear hO bq a8 hb D0 D2;go_wp2_with fail;go_ret2;exact⟨_,rfl,hS.out.1.lower db,hB.out⟩
theorem RH(v:Value)(xs:List AU)(f:Nat)(w:World)(h:BS w v xs)(ax:BI xs=true)(hf:f<12)(hk:(zS xs f).k=1)(hr:(zS xs f).r≠0):
 Calls prog 220 #[v,.int .i64 f] w λe w'=>∃v',e=.returned (.tuple #[v',.bool false])/\Below w.heap.size w w':=by
 have hl:=(Az.1 ax).1;have cC:=(Hj ((Az.1 ax).2 f hf)).2.1;have C1:=AA (λW (hW:Below w.heap.size w W)=>by have:=DO v xs W (BD.below h hW) (CJ ax);rw[ax] at this;exact this);have HE:=AA (show Be (f:Int) 0 11=true from Ab.2 (by omega));obtain⟨ai,ci,rfl,es,cR,H2⟩:=BD.open Ay (by decide) h;obtain⟨bi,ab,rfl,a3,D0,_,D2⟩:=H2.zP (show f<xs.length by omega);have cG:(f:Int)<xs.length:=by omega
 have t1:((zS xs f).k !=1)=false:=by simp[hk]
 have t2:0<(zS xs f).r:=by omega
 have hb:=yD w.heap.size w;clear h ax hk hr H2 hl cC;go_in;go_wp2_with fail;refine(C1.out _ hb).mono ?_;rintro e w_ ⟨rfl,bY⟩;replace hb:=hb.trans (bY.mono hb.size);clear bY;go_wp2_with fail;refine(D6 _ _).mono ?_;rintro e w2 ⟨rfl,rfl⟩;rw[HE.out];replace D0:=(hb.cell (p:=⟨bi,ab+f*3,none⟩) a3).trans D0;replace D2:=(hb.cell (p:=⟨bi,ab+f*3+2,none⟩) a3).trans D2;go_wp2_with fail;go_ret2;exact⟨_,rfl,hb.alloc hb.size _⟩
theorem TH(v rv:Value)(xs:List AU)(f:Nat)(x kind:Int)(ss:List ByteArray)(w:World)(h:BS w v xs)(hl:xs.length=12)(hI:IF xs)(hv:BR w rv ss)(hs:DQ ss)(hx:x<=9223372036854775807)(hk:2<=kind/\kind<=3):
 Calls prog 184 #[v,.int .i64 f,.int .i64 x,.int .i64 kind,rv] w λe w'=>e=.returned (.bool (FQ xs f kind ss x))/\Below w.heap.size w w':=by
 cases hg:Bh x
 .have V:=AA (Eg hg)
  have G:=AA (show FQ xs f kind ss x=(x==0) by simp only[FQ,hg];rw[wA];simp);obtain⟨_,_,rfl,_⟩:=h.shape;obtain⟨_,_,rfl,_⟩:=hv.shape;clear hg h hl hI hv hs;go_in;go_wp2_with (go_at_call 186;refine(Cy _ _ hx).mono ?_;rintro e w' ⟨rfl,rfl⟩;rw[V.out]);go_ret;exact⟨AI G.out.symm,yD _ _⟩
 .have V:=AA (EX hg)
  have hF:=EP hg;have G:=Rp (zZ:=xs) (f:=f) (kind:=kind) (ss:=ss) hg;have dY:A9 x<xs.length:=by omega
  have HC:=AA (KS rv ss (zS xs (A9 x)).g w hv hs (hI _ (ye (Cj dY))));obtain⟨a,c,rfl,_,_,H⟩:=BD.open Ay (by decide) h;obtain⟨b,al,rfl,a0,D0,D1,_⟩:=H.zP dY;obtain⟨_,_,rfl,_⟩:=hv.shape;generalize A9 x=o at*;generalize Bv ss (zS xs o).g=mb at HC G;have eX:(o:Int)<xs.length:=by omega
  clear hg h hl hI hv hs H dY hF
  by_cases e1:o=f
  .have t1:((o:Int) !=(f:Int))=false:=by simp[e1]
   have R:=AA (show FQ xs f kind ss x=false by rw[G];simp[e1]);clear G e1;go_in;go_wp2_with (go_at_call 186;refine(Cy _ _ hx).mono ?_;rintro e w' ⟨rfl,rfl⟩;rw[V.out]);go_ret;exact⟨AI R.out.symm,yD _ _⟩
  .have t1:((o:Int) !=(f:Int))=true:=by simp;omega
   by_cases e2:(zS xs o).k=kind - 1
   .have t2:((zS xs o).k==kind - 1)=true:=by simp[e2]
    have R:=AA (show FQ xs f kind ss x=mb by rw[G];simp[e1,e2]);clear G e1 e2;go_in;go_wp2_with (go_at_call 186;refine(Cy _ _ hx).mono ?_;rintro e w' ⟨rfl,rfl⟩;rw[V.out]);refine HC.out.mono ?_;rintro e w2 ⟨rfl,b2⟩;go_wp2_with fail;go_ret;exact⟨AI R.out.symm,b2⟩
   .have t2:((zS xs o).k==kind - 1)=false:=by simp[e2]
    have R:=AA (show FQ xs f kind ss x=false by rw[G];simp[e2]);clear G e1 e2;go_in;go_wp2_with (go_at_call 186;refine(Cy _ _ hx).mono ?_;rintro e w' ⟨rfl,rfl⟩;rw[V.out]);go_ret;exact⟨AI R.out.symm,yD _ _⟩
theorem Wb{m:List (List Int)}(hm:Bs m=true){f:Nat}(hf:f<12){k:Nat}(hk:k<4):(AH m f)[k]?=some (Ar m f k):=by have:=(A3.1 ((Ai.1 hm).2 f hf)).1;unfold Ar;exact A1 (by omega)
theorem bF{m:List (List Int)}(hm:Bs m=true){f:Nat}(hf:f<12){k:Nat}(hk:k<4):Ar m f k<=9223372036854775807:=by obtain⟨h4,hw⟩:=A3.1 ((Ai.1 hm).2 f hf);have:=(hw _ (ye (Wb hm hf hk))).2;omega
theorem Rq(v iv rv:Value)(m:List (List Int))(xs:List AU)(f:Nat)(kind:Int)(ss:List ByteArray)(w:World)(h:Bf w v m)(hm:Bs m=true)(hI:BS w iv xs)(hl:xs.length=12)(dj:IF xs)(hf:f<12)(hk:Bd kind=true)(hv:BR w rv ss)(hs:DQ ss):
 Calls prog 131 #[v,iv,.int .i64 f,.int .i64 kind,rv] w λe w'=>e=.returned (.bool (Iw m xs f kind ss))/\Below w.heap.size w w':=by
 have ej:2<=kind/\kind<=3:=by simp only[Bd,xl,decide_eq_true_eq] at hk;omega
 have CE:=AA (λ(x:Int)(hx:x<=9223372036854775807) W (hW:Below w.heap.size w W)=>TH iv rv xs f x kind ss W (BD.below hI hW) hl dj (BD.below hv hW) hs hx ej);have Hm:=AA hm;have fi:=AA (A3.1 ((Ai.1 hm).2 f hf)).1;have ct:=(Ai.1 hm).1;obtain⟨a,c,rfl,_,_,H⟩:=h.open;obtain⟨_,_,rfl,_⟩:=hI.shape;obtain⟨_,_,rfl,_⟩:=hv.shape;have HH:=AA H;have cG:(f:Int)<m.length:=by omega
 clear h hm hI hl dj hk hv hs ej ct H;go_in;go_wp2_with fail;go_loopw [11] (λix wr=>∃k:Nat,k<=4/\ix=.int .i64 k/\(∀j,j<k->FQ xs f kind ss (Ar m f j)=true)/\Below w.heap.size w wr) (λix _=>4 - (intOf ix).toNat)
 case atStart=>exact⟨0,yh _,rfl,λj hj=>absurd hj (xP _),yD _ _⟩
 case round=>
  obtain⟨k,hk,rfl,av,hb⟩:=hrel;have bk:=AA av;clear av
  by_cases ay:k<4
  .have bN:(k:Int)<(4:Int):=by omega
   obtain⟨b,al,b2,ft,c2,rfl,a0,D,fX,fT,W0⟩:=(HH.out.below hb).row4 Hm.out hf;have D2:=W0 k ay;have C:=AA (CE.out (Ar m f k) (bF Hm.out hf ay) wr hb);clear W0;cases hp:FQ xs f kind ss (Ar m f k)
   .have S:=AA (show Iw m xs f kind ss=false from Ip (Wb Hm.out hf ay) hp)
    have Hp:=AA hp;clear hp;go_wp2_with fail;refine C.out.mono ?_;rintro e w2 ⟨rfl,b2⟩;rw[Hp.out];go_wp2_with fail;go_ret;exact⟨AI S.out.symm,hb.trans (b2.mono hb.size)⟩
   .have Hp:=AA hp
    clear hp;go_wp2_with fail;refine C.out.mono ?_;rintro e w2 ⟨rfl,b2⟩;rw[Hp.out];go_wp2_with fail;go_roundw
    case rel=>exact⟨k+1,by omega,by go_num,Ak bk.out Hp.out,hb.trans (b2.mono hb.size)⟩
    case measure=>simp[intOf];omega
  .have ek:k=4:=by omega
   have av:=bk.out;rw[ek] at av;have S:=AA (show Iw m xs f kind ss=true from Jl (f:=Ar m f) (λk hk=>Wb Hm.out hf (by have:=fi.out;omega)) (λj hj=>av j (by have:=fi.out;omega)));clear bk av;go_wp2_with fail;go_ret;exact⟨AI S.out.symm,hb⟩
theorem WF{zZ:List AU}{fs:List Nat}{n:Int}{j:Nat}(hj:j<fs.length):Bi zZ (fs.take (j+1)) n=(Bi zZ (fs.take j) n).set (IA fs j) (JS n (zS (Bi zZ (fs.take j) n) (IA fs j))):=by unfold Bi;rw[Cx (F3 hj),List.foldl_append];exact KY
theorem GJ{p:Nat->Bool}(hk:k<n)(h:p k=false):(yC n).all p=false:=by rw[List.all_eq_false];exact⟨k,xU.2 hk,by rw[h];decide⟩
theorem Mr(x:Al)(w:World):Calls prog 125 #[.agg #[.int .i64 x.e,.int .i64 x.p,.int .i64 x.f,.bool x.w]] w λe w'=>e=.returned (.bool (CU x))/\Below w.heap.size w w':=by
 have N0:=yv w (.cells #[.int .i64 x.e,.int .i64 x.p,.int .i64 x.f,.bool x.w] 112);have aq:=AE w (.cells #[.int .i64 x.e,.int .i64 x.p,.int .i64 x.f,.bool x.w] 112);obtain⟨x0,x1,x2,_⟩:=AG N0;have E:CU x=(Be x.e 0 2&&Be x.p 0 15&&Be x.f 0 11):=rfl;have HE:=AA E;clear E N0;go_in;go_wp2_with fail;generalize w.alloc _=W0 at*;refine(JL _ _).mono ?_;rintro r w1 ⟨rfl,rfl⟩;cases h1:Be x.e 0 2
 .have S:=AA (show CU x=false by rw[HE.out,h1];rfl)
  clear h1;go_wp2_with fail;go_ret;exact⟨AI S.out.symm,aq⟩
 .rw[h1] at HE
  clear h1;go_wp2_with fail;refine(Cv _ _ _ _).mono ?_;rintro r w1 ⟨rfl,rfl⟩;cases h2:Be x.p 0 15
  .have S:=AA (show CU x=false by rw[HE.out,h2];rfl)
   clear h2;go_wp2_with fail;go_ret;exact⟨AI S.out.symm,aq⟩
  .rw[h2] at HE
   have S:=AA (show CU x=Be x.f 0 11 by rw[HE.out];simp);clear h2;go_wp2_with fail;refine(D6 _ _).mono ?_;rintro r w1 ⟨rfl,rfl⟩;go_wp2_with fail;go_ret;exact⟨AI S.out.symm,aq⟩
theorem X0{c:List Al}(hk:k<c.length):Ct c k=(CU (AT c k)&&!decide (IB c (AT c k).e (AT c k).p<(k:Int))):=by
 unfold Ct
 congr 1
 congr 1
 have cI:Bj (AT c k).e (AT c k).p (AT c k)=true:=by simp[Bj]
 rw[wA,decide_eq_true_eq,List.any_eq_true];unfold IB;rw[if_pos (Ng (Eo hk) cI)];have cG:c.findIdx (Bj (AT c k).e (AT c k).p)<c.length:=List.findIdx_lt_length.2 ⟨_,ye (Eo hk),cI⟩;constructor
 .rintro⟨x,hx,hp⟩
  obtain⟨j,hj⟩:=List.getElem?_of_mem hx;have fF:j<k:=by have:=(yr.1 hj).1;rw[xT] at this;omega
  rw[uD,if_pos fF] at hj;have:c.findIdx (Bj (AT c k).e (AT c k).p)<=j:=by
   rcases Nat.lt_or_ge j (c.findIdx (Bj (AT c k).e (AT c k).p)) with h|h
   .have hn:=List.not_of_lt_findIdx h
    have e:c[j]'(by omega)=x:=by have h2:=List.getElem?_eq_getElem (l:=c) (i:=j) (by omega);rw[h2] at hj;exact yF hj
    rw[e] at hn;rw[hp] at hn;cases hn
   .exact h
  omega
 .intro h
  refine⟨c[c.findIdx (Bj (AT c k).e (AT c k).p)],?_,List.findIdx_getElem⟩;rw[List.mem_take_iff_getElem];exact⟨_,by omega,rfl⟩
theorem Is(v:Value)(c:List Al)(w:World)(h:Dz w v c):Calls prog 73 #[v] w λe w'=>e=.returned (.bool (BT c))/\Below w.heap.size w w':=by
 have HV:=AA h;obtain⟨a,cp,rfl,hc,b7,H⟩:=BD.open Ch (by decide) h;unfold maxLen at b7;have HH:=AA H;clear h H;go_in;go_wp2_with fail;go_loopw [3] (λix wr=>∃k:Nat,k<=c.length/\ix=.int .i64 k/\(∀j,j<k->Ct c j=true)/\Below w.heap.size w wr) (λix _=>c.length - (intOf ix).toNat)
 case atStart=>exact⟨0,yh _,rfl,λj hj=>absurd hj (xP _),yD _ _⟩
 case round=>
  obtain⟨k,hk,rfl,av,hb⟩:=hrel;have bk:=AA av;clear av
  by_cases ay:k<c.length
  .have bN:(k:Int)<(c.length:Int):=by omega
   have gi:=AA (BD.below HV.out hb);obtain⟨b,al,rfl,ey,D0,D1,D2,D3⟩:=(HH.out.below hb).zL ay;have a0:=yA _ _ D0;have SF:=X0 ay;have de:=λW (hW:Below wr.heap.size wr W)=>Mr (AT c k) W
   have CF:=AA (λW (hW:Below wr.heap.size wr W)=>Pj _ c (AT c k).e (AT c k).p W (BD.below gi.out hW));generalize IB c (AT c k).e (AT c k).p=fd at SF CF;clear ey;cases h1:CU (AT c k)
   .rw[h1] at de
    have CA:=AA de;rw[h1] at SF;clear de h1;have co:Ct c k=false:=by rw[SF];rfl
    clear SF;have S:=AA (show BT c=false by unfold BT;rw[GJ ay co];rfl);go_wp2_with fail;refine AY 21 35 [.v (.slice (some ⟨b,al,none⟩) c.length cp),.i ((k:Int)),.p b (al+k*4),.a #[.int .i64 ((AT c k).e),.int .i64 ((AT c k).p),.int .i64 ((AT c k).f),.bool (AT c k).w],.b false,.b true,.b true,.u,.u,.u,.u,.u,.u,.u,.u,.u,.u,.u,.u,.u,.u] (λ_ _ _=>True) ?_ ?_
    .intro i hi o ho a wx Hb Hd hG K HK
     match i,hi with
     |0,_|1,_|5,_|6,_=>exact sP ho HK Hb Hd
     |2,_=>exact sI ho HK Hb Hd (hr:=by clear Hd Hb HK;go_simp)
     |3,_=>exact sL ho HK Hb Hd (hl:=Ul (bc hG a0 D0) (bc hG a0 D1) (bc hG a0 D2) (bc hG a0 D3))
     |4,_=>exact sD ho HK Hb Hd (CA.out _ hG)
     |7,_|8,_|9,_|10,_|11,_|12,_|13,_|14,_|15,_|16,_|17,_|18,_|19,_|20,_=>exact sB ho HK Hd
     |_+21,hq=>omega
    .intro vs wx hR hG
     have q6:(vs 6)=.bool true:=BW hR 6;clear hR;simp only[Aj,Ae,yC,yz,yy,yw,q6];simp;clear q6;have cq:=hb.trans (hG.mono hb.size);clear hG D0 D1 D2 D3;go_wp2_with fail;go_ret;exact⟨AI S.out.symm,cq⟩
   .rw[h1] at de
    have CA:=AA de;rw[h1] at SF;clear de h1
    by_cases h2:fd<(k:Int)
    .have co:Ct c k=false:=by rw[SF];simp[h2]
     clear SF;have S:=AA (show BT c=false by unfold BT;rw[GJ ay co];rfl);go_wp2_with fail;refine AY 21 35 [.v (.slice (some ⟨b,al,none⟩) c.length cp),.i ((k:Int)),.p b (al+k*4),.a #[.int .i64 ((AT c k).e),.int .i64 ((AT c k).p),.int .i64 ((AT c k).f),.bool (AT c k).w],.b true,.b false,.b false,.v (.slice (some ⟨b,al,none⟩) c.length cp),.v (.slice (some ⟨b,al,none⟩) c.length cp),.i ((k:Int)),.p b (al+k*4),.p b (al+k*4),.i ((AT c k).e),.v (.slice (some ⟨b,al,none⟩) c.length cp),.i ((k:Int)),.p b (al+k*4),.p b (al+k*4+1),.i ((AT c k).p),.i fd,.i ((k:Int)),.b true] (λ_ _ _=>True) ?_ ?_
     .intro i hi o ho a wx Hb Hd hG K HK
      have a6:=bc hG a0 D0;have a5:=bc hG a0 D1;have bl:=bc hG a0 D2;have bA:=bc hG a0 D3
      match i,hi with
      |0,_|1,_|5,_|6,_|7,_|8,_|9,_|11,_|13,_|14,_|16,_|19,_=>exact sP ho HK Hb Hd
      |2,_|10,_|15,_=>exact sI ho HK Hb Hd (hr:=by clear Hd Hb HK;go_simp)
      |3,_=>exact sL ho HK Hb Hd (hl:=Ul ‹_› ‹_› ‹_› ‹_›)
      |4,_=>exact sD ho HK Hb Hd (CA.out _ hG)
      |12,_|17,_=>exact sL ho HK Hb Hd (hl:=Fp ‹_›)
      |18,_=>exact sD ho HK Hb Hd (CF.out _ hG)
      |20,_=>clear a6 a5 bl bA;obtain rfl:=yF ho;have eG:(a.tmps[28]?.getD undef)=.int .i64 fd:=BM Hd 18;have cU:(a.tmps[29]?.getD undef)=.int .i64 k:=BM Hd 19;have d6:(a.tmps[16]?.getD undef)=.bool false:=BM Hd 6;clear Hd Hb;refine AV.yes rfl rfl d6 ?_;go_simp;exact HK.out _ _ rfl (yD _ _)
      |_+21,hq=>omega
     .intro vs wx hR hG
      have q6:(vs 6)=.bool false:=BW hR 6;have cj:(vs 20)=.bool true:=BW hR 20;clear hR;simp only[Aj,Ae,yC,yz,yy,yw,q6,cj];simp;clear q6 cj;have cq:=hb.trans (hG.mono hb.size);clear hG D0 D1 D2 D3;go_wp2_with fail;go_ret;exact⟨AI S.out.symm,cq⟩
    .have ax:Ct c k=true:=by rw[SF];simp[h2]
     clear SF;have S:=AA (ax);go_wp2_with fail;refine AY 21 35 [.v (.slice (some ⟨b,al,none⟩) c.length cp),.i ((k:Int)),.p b (al+k*4),.a #[.int .i64 ((AT c k).e),.int .i64 ((AT c k).p),.int .i64 ((AT c k).f),.bool (AT c k).w],.b true,.b false,.b false,.v (.slice (some ⟨b,al,none⟩) c.length cp),.v (.slice (some ⟨b,al,none⟩) c.length cp),.i ((k:Int)),.p b (al+k*4),.p b (al+k*4),.i ((AT c k).e),.v (.slice (some ⟨b,al,none⟩) c.length cp),.i ((k:Int)),.p b (al+k*4),.p b (al+k*4+1),.i ((AT c k).p),.i fd,.i ((k:Int)),.b false] (λ_ _ _=>True) ?_ ?_
     .intro i hi o ho a wx Hb Hd hG K HK
      have a6:=bc hG a0 D0;have a5:=bc hG a0 D1;have bl:=bc hG a0 D2;have bA:=bc hG a0 D3
      match i,hi with
      |0,_|1,_|5,_|6,_|7,_|8,_|9,_|11,_|13,_|14,_|16,_|19,_=>exact sP ho HK Hb Hd
      |2,_|10,_|15,_=>exact sI ho HK Hb Hd (hr:=by clear Hd Hb HK;go_simp)
      |3,_=>exact sL ho HK Hb Hd (hl:=Ul ‹_› ‹_› ‹_› ‹_›)
      |4,_=>exact sD ho HK Hb Hd (CA.out _ hG)
      |12,_|17,_=>exact sL ho HK Hb Hd (hl:=Fp ‹_›)
      |18,_=>exact sD ho HK Hb Hd (CF.out _ hG)
      |20,_=>clear a6 a5 bl bA;obtain rfl:=yF ho;have eG:(a.tmps[28]?.getD undef)=.int .i64 fd:=BM Hd 18;have cU:(a.tmps[29]?.getD undef)=.int .i64 k:=BM Hd 19;have d6:(a.tmps[16]?.getD undef)=.bool false:=BM Hd 6;clear Hd Hb;refine AV.yes rfl rfl d6 ?_;go_simp;exact HK.out _ _ (congrArg Value.bool (decide_eq_false (by omega))) (yD _ _)
      |_+21,hq=>omega
     .intro vs wx hR hG
      have q6:(vs 6)=.bool false:=BW hR 6;have cj:(vs 20)=.bool false:=BW hR 20;clear hR;simp only[Aj,Ae,yC,yz,yy,yw,q6,cj];simp;clear q6 cj;have cq:=hb.trans (hG.mono hb.size);clear hG D0 D1 D2 D3;go_wp2_with fail;go_roundw
      case rel=>exact⟨k+1,by omega,by go_num,Ak bk.out S.out,cq⟩
      case measure=>simp[intOf];omega
  .have ek:k=c.length:=by omega
   have av:=bk.out;rw[ek] at av;have S:=AA (show BT c=decide ((c.length:Int)<=4) by
    unfold BT;have:(yC c.length).all (Ct c)=true:=yd.2 λj hj=>av j (xU.1 hj)
    rw[this,Bool.true_and]
    by_cases h:c.length<=4
    .rw[decide_eq_true h,decide_eq_true (by omega:(c.length:Int)<=4)]
    .rw[decide_eq_false h,decide_eq_false (by omega:¬(c.length:Int)<=4)])
   clear bk av;go_wp2_with fail;go_ret;exact⟨AI S.out.symm,hb⟩
theorem MC(m i e c:Value)(k:AN)(w:World)(h:Bf w m k.mem)(hm:Bs k.mem=true)(hI:BS w i k.zZ)(a7:BI k.zZ=true):
 Calls prog 75 #[.agg #[m,i,e,c]] w λr w'=>r=.returned (.bool ((yC 12).all (Da k)))/\Below w.heap.size w w':=by
 have N0:=yv w (.cells #[m,i,e,c] 28);have aq:=AE w (.cells #[m,i,e,c] 28);replace h:=h.below aq;replace hI:=BD.below hI aq;obtain⟨am,cm,rfl,_⟩:=h.open;obtain⟨ai,ci,rfl,_,_,fm⟩:=BD.open Ay (by decide) hI;have dE:=(Az.1 a7).1;have dj:=CJ a7;generalize hnm:k.mem.length=nm at*;have Hl:=AA dE;have gY:=AA hnm;clear dE hnm;go_in;go_wp2_with fail;generalize w.alloc _=W0 at*;have HN:=AA N0;have HH:=AA fm;have HR:=AA h;have HI:=AA hI;have Hm:=AA hm;have Hs:=AA dj;have fD:=AW N0;clear h hI hm a7 dj N0 fm;go_loopw [3] (λix wr=>∃f:Nat,f<=12/\ix=.int .i64 f/\(∀j,j<f->Da k j=true)/\Below W0.heap.size W0 wr) (λix _=>12 - (intOf ix).toNat)
 case atStart=>exact⟨0,yh _,rfl,λj hj=>absurd hj (xP _),yD _ _⟩
 case round=>
  obtain⟨f,hf,rfl,av,hb⟩:=hrel;have bk:=AA av;clear av
  by_cases ay:f<12
  .have bN:(f:Int)<12:=by omega
   have cG:(f:Int)<k.zZ.length:=by have:=Hl.out;omega
   obtain⟨x0,x1,_,_⟩:=AG (AC HN.out hb);have dp:w.heap.size<wr.heap.size:=xX fD hb.size;obtain⟨bi,ab,rfl,ez,D0,_,_⟩:=(HH.out.below hb).zP (show f<k.zZ.length by have:=Hl.out;omega);have a3:=yA _ _ D0;have c6:=λW (hW:Below wr.heap.size wr W)=>BK (FY (zS k.zZ f).k W)
   have TO:Da k f=(!Bd (zS k.zZ f).k||Iw k.mem k.zZ f (zS k.zZ f).k [⟨#[]⟩]):=rfl;clear ez;cases h1:Bd (zS k.zZ f).k
   .rw[h1] at c6 TO
    have CT:=AA c6;have ax:Da k f=true:=by rw[TO];rfl
    clear c6 TO h1;have S:=AA (ax);go_wp2_with fail;refine AY 21 31 [.p w.heap.size 1,.v (.slice (some ⟨bi,ab,none⟩) k.zZ.length ci),.i ((f:Int)),.p bi (ab+f*3),.p bi (ab+f*3),.i ((zS k.zZ f).k),.b false,.b false,.u,.u,.u,.u,.u,.u,.u,.u,.u,.u,.u,.u,.u] (λ_ _ _=>True) ?_ ?_
    .intro i hi o ho a wx Hb Hd hG K HK
     match i,hi with
     |0,_|2,_|4,_|7,_=>exact sP ho HK Hb Hd
     |1,_=>exact sL ho HK Hb Hd (hl:=F8 (bc hG dp x1))
     |3,_=>exact sI ho HK Hb Hd (hr:=by clear Hd Hb HK;go_simp)
     |5,_=>exact sL ho HK Hb Hd (hl:=Fp (bc hG a3 D0))
     |6,_=>exact sD ho HK Hb Hd (CT.out _ hG)
     |8,_|9,_|10,_|11,_|12,_|13,_|14,_|15,_|16,_|17,_|18,_|19,_|20,_=>exact sB ho HK Hd
     |_+21,hq=>omega
    .intro vs wx hR hG
     have q7:(vs 7)=.bool false:=BW hR 7;clear hR;simp only[Aj,Ae,yC,yz,yy,yw,q7];simp;clear q7;have cq:=hb.trans (hG.mono hb.size);clear hG D0 x0 x1;go_wp2_with fail;go_roundw
     case rel=>exact⟨f+1,by omega,by go_num,Ak bk.out S.out,cq⟩
     case measure=>simp[intOf];omega
   .have dd:=λW (hW:Below wr.heap.size wr W) v2 (h2:BR W v2 [⟨#[]⟩])=>Rq _ _ v2 k.mem k.zZ f (zS k.zZ f).k [⟨#[]⟩] W ((HR.out.below hb).below hW) Hm.out (BD.below (BD.below HI.out hb) hW) Hl.out Hs.out ay h1 h2 (λs hs=>by rw[List.mem_singleton] at hs;subst hs;exact yh _)
    rw[h1] at c6 TO;have CT:=AA c6;cases h2:Iw k.mem k.zZ f (zS k.zZ f).k [⟨#[]⟩]
    .rw[h2] at dd TO
     have CG:=AA dd;have co:Da k f=false:=by rw[TO];rfl
     clear c6 TO h1 h2 dd;have S:=AA (show(yC 12).all (Da k)=false from GJ ay co);go_wp2_with fail;refine BN 21 31 [.p w.heap.size 1,.v (.slice (some ⟨bi,ab,none⟩) k.zZ.length ci),.i ((f:Int)),.p bi (ab+f*3),.p bi (ab+f*3),.i ((zS k.zZ f).k),.b true,.b true,.p w.heap.size 0,.v (.slice am nm cm),.p w.heap.size 1,.v (.slice (some ⟨bi,ab,none⟩) k.zZ.length ci),.i ((f:Int)),.p w.heap.size 1,.v (.slice (some ⟨bi,ab,none⟩) k.zZ.length ci),.i ((f:Int)),.p bi (ab+f*3),.p bi (ab+f*3),.i ((zS k.zZ f).k),.z,.b false] (λix vv ww=>match ix with
      |19=>BR ww vv [⟨#[]⟩]
      |_=>True) ?_ ?_ ?_
     .intro i hi o ho a wx Hb Hd hG K HK
      have a6:=bc hG dp x1;have a5:=bc hG a3 D0;have bl:=bc hG dp x0
      match i,hi with
      |0,_|2,_|4,_|7,_|8,_|10,_|12,_|13,_|15,_|17,_=>exact sP ho HK Hb Hd
      |1,_|11,_|14,_=>exact sL ho HK Hb Hd (hl:=F8 ‹_›)
      |3,_|16,_=>exact sI ho HK Hb Hd (hr:=by clear Hd Hb HK;go_simp)
      |5,_|18,_=>exact sL ho HK Hb Hd (hl:=Fp ‹_›)
      |6,_=>exact sD ho HK Hb Hd (CT.out _ hG)
      |9,_=>exact sL ho HK Hb Hd (hl:=GT ‹_›)
      |19,_=>clear a6 a5 bl;obtain rfl:=yF ho;have d7:(a.tmps[15]?.getD undef)=.bool true:=BM Hd 7;clear Hd Hb;refine AV.yes rfl rfl d7 ?_;go_simp;exact HK.out _ _ (Rd.news _ #[.string ⟨#[]⟩] _ 1 1 rfl (by simp[maxLen])) (AE _ _)
      |20,_=>clear a6 a5 bl;obtain rfl:=yF ho;have d9:(a.tmps[17]?.getD undef)=.slice am nm cm:=BM Hd 9;have cV:(a.tmps[19]?.getD undef)=.slice (some ⟨bi,ab,none⟩) k.zZ.length ci:=BM Hd 11;have fh:(a.tmps[20]?.getD undef)=.int .i64 f:=BM Hd 12;have eG:(a.tmps[26]?.getD undef)=.int .i64 ((zS k.zZ f).k):=BM Hd 18;have cU:BR wx (a.tmps[27]?.getD undef) [⟨#[]⟩]:=BM Hd 19;have d7:(a.tmps[15]?.getD undef)=.bool true:=BM Hd 7;clear Hd Hb;generalize e27:a.tmps[27]?.getD undef=v2 at cU;have eO:=CG.out wx hG v2 cU;refine AV.yes rfl rfl d7 ?_;go_simp;refine eO.mono ?_;rintro e w_ ⟨rfl,a8⟩;exact HK.out _ _ rfl a8
      |_+21,hq=>omega
     .intro i hi vv wz df bt hz
      match i,hi with
      |19,_=>exact(BD.below hz bt)
      |0,_|1,_|2,_|3,_|4,_|5,_|6,_|7,_|8,_|9,_|10,_|11,_|12,_|13,_|14,_|15,_|16,_|17,_|18,_|20,_=>exact hz
      |_+21,hq=>omega
     .intro vs wx hR hG
      have q7:(vs 7)=.bool true:=BW hR 7;have cj:(vs 20)=.bool false:=BW hR 20;clear hR;simp only[Aj,Ae,yC,yz,yy,yw,q7,cj];simp;clear q7 cj;have cq:=hb.trans (hG.mono hb.size);clear hG D0 x0 x1;go_wp2_with fail;go_ret;exact⟨AI S.out.symm,aq.trans (cq.mono aq.size)⟩
    .rw[h2] at dd TO
     have CG:=AA dd;have ax:Da k f=true:=by rw[TO];rfl
     clear c6 TO h1 h2 dd;have S:=AA (ax);go_wp2_with fail;refine BN 21 31 [.p w.heap.size 1,.v (.slice (some ⟨bi,ab,none⟩) k.zZ.length ci),.i ((f:Int)),.p bi (ab+f*3),.p bi (ab+f*3),.i ((zS k.zZ f).k),.b true,.b true,.p w.heap.size 0,.v (.slice am nm cm),.p w.heap.size 1,.v (.slice (some ⟨bi,ab,none⟩) k.zZ.length ci),.i ((f:Int)),.p w.heap.size 1,.v (.slice (some ⟨bi,ab,none⟩) k.zZ.length ci),.i ((f:Int)),.p bi (ab+f*3),.p bi (ab+f*3),.i ((zS k.zZ f).k),.z,.b true] (λix vv ww=>match ix with
      |19=>BR ww vv [⟨#[]⟩]
      |_=>True) ?_ ?_ ?_
     .intro i hi o ho a wx Hb Hd hG K HK
      have a6:=bc hG dp x1;have a5:=bc hG a3 D0;have bl:=bc hG dp x0
      match i,hi with
      |0,_|2,_|4,_|7,_|8,_|10,_|12,_|13,_|15,_|17,_=>exact sP ho HK Hb Hd
      |1,_|11,_|14,_=>exact sL ho HK Hb Hd (hl:=F8 ‹_›)
      |3,_|16,_=>exact sI ho HK Hb Hd (hr:=by clear Hd Hb HK;go_simp)
      |5,_|18,_=>exact sL ho HK Hb Hd (hl:=Fp ‹_›)
      |6,_=>exact sD ho HK Hb Hd (CT.out _ hG)
      |9,_=>exact sL ho HK Hb Hd (hl:=GT ‹_›)
      |19,_=>clear a6 a5 bl;obtain rfl:=yF ho;have d7:(a.tmps[15]?.getD undef)=.bool true:=BM Hd 7;clear Hd Hb;refine AV.yes rfl rfl d7 ?_;go_simp;exact HK.out _ _ (Rd.news _ #[.string ⟨#[]⟩] _ 1 1 rfl (by simp[maxLen])) (AE _ _)
      |20,_=>clear a6 a5 bl;obtain rfl:=yF ho;have d9:(a.tmps[17]?.getD undef)=.slice am nm cm:=BM Hd 9;have cV:(a.tmps[19]?.getD undef)=.slice (some ⟨bi,ab,none⟩) k.zZ.length ci:=BM Hd 11;have fh:(a.tmps[20]?.getD undef)=.int .i64 f:=BM Hd 12;have eG:(a.tmps[26]?.getD undef)=.int .i64 ((zS k.zZ f).k):=BM Hd 18;have cU:BR wx (a.tmps[27]?.getD undef) [⟨#[]⟩]:=BM Hd 19;have d7:(a.tmps[15]?.getD undef)=.bool true:=BM Hd 7;clear Hd Hb;generalize e27:a.tmps[27]?.getD undef=v2 at cU;have eO:=CG.out wx hG v2 cU;refine AV.yes rfl rfl d7 ?_;go_simp;refine eO.mono ?_;rintro e w_ ⟨rfl,a8⟩;exact HK.out _ _ rfl a8
      |_+21,hq=>omega
     .intro i hi vv wz df bt hz
      match i,hi with
      |19,_=>exact(BD.below hz bt)
      |0,_|1,_|2,_|3,_|4,_|5,_|6,_|7,_|8,_|9,_|10,_|11,_|12,_|13,_|14,_|15,_|16,_|17,_|18,_|20,_=>exact hz
      |_+21,hq=>omega
     .intro vs wx hR hG
      have q7:(vs 7)=.bool true:=BW hR 7;have cj:(vs 20)=.bool true:=BW hR 20;clear hR;simp only[Aj,Ae,yC,yz,yy,yw,q7,cj];simp;clear q7 cj;have cq:=hb.trans (hG.mono hb.size);clear hG D0 x0 x1;go_wp2_with fail;go_roundw
      case rel=>exact⟨f+1,by omega,by go_num,Ak bk.out S.out,cq⟩
      case measure=>simp[intOf];omega
  .have ek:f=12:=by omega
   have av:=bk.out;rw[ek] at av;have S:=AA (show(yC 12).all (Da k)=true from yd.2 λj hj=>av j (xU.1 hj));clear bk av;go_wp2_with fail;go_ret;exact⟨AI S.out.symm,aq.trans (hb.mono aq.size)⟩
def Zh(m:List (List Int))(zZ:List AU)(t i g:Nat):Nat:=
 ((yC t).map λu=>if Bd (zS zZ u).k then(named (AH m u)).count g else 0).sum+((named (AH m t)).take i).count g
def VX(m:List (List Int))(zZ:List AU)(t i:Nat):List Int:=(yC 12).map λg=>(Zh m zZ t i g:Int)
section
variable {m:List (List Int)} {zZ:List AU} {t i g:Nat}
theorem Mj:(VX m zZ t i).length=12:=by simp[VX]
theorem Sv(h:g<12):nth (VX m zZ t i) g=Zh m zZ t i g:=by unfold VX nth;rw[xR,List.getElem?_map,List.getElem?_range h];rfl
theorem YT:VX m zZ t 0=Gd m zZ t 0:=by simp[VX,Zh,Gd,IY,named]
theorem YS(hi:i<(named (AH m t)).length):VX m zZ t (i+1)=(VX m zZ t i).set (IA (named (AH m t)) i) (Zh m zZ t i (IA (named (AH m t)) i)+1):=by
 have hf:IA (named (AH m t)) i<12:=FL (ye (F3 hi));refine Lm (by simp[VX]) λg hg=>?_
 rw[Mj] at hg;rw[TW (by rw[Mj];exact hf),Sv hg,Sv hg];unfold Zh;rw[Cx (F3 hi),List.count_append]
 by_cases e:g=IA (named (AH m t)) i
 .subst e;simp;omega
 .rw[if_neg e,List.count_singleton]
  have:(IA (named (AH m t)) i==g)=false:=by simp;exact λh=>e h.symm
  rw[this];simp
theorem Zg(hk:Bd (zS zZ t).k=true):VX m zZ t (named (AH m t)).length=Gd m zZ (t+1) 0:=by unfold VX Zh Gd IY;rw[wZ (n:=t),xt];simp[hk,named]
theorem aT(hm:Bs m=true)(ht:t<=12):Zh m zZ t i g<=100:=by
 have h1:=PT (zZ:=zZ) (g:=g) (j:=0) hm ht (by omega);have h2:((named (AH m t)).take i).count g<=4:=by
  have h3:=vN (a:=g) (l:=(named (AH m t)).take i);have h4:=FJ (r:=AH m t);rw[xT] at h3;have h5:(AH m t).length<=4:=by
   rcases Nat.lt_or_ge t 12 with h|h
   .exact Nat.le_of_eq (A3.1 ((Ai.1 hm).2 t h)).1
   .have:AH m t=[]:=by unfold AH;rw[xR,List.getElem?_eq_none (by have:=(Ai.1 hm).1;omega)];rfl
    rw[this];simp
  omega
 unfold IY at h1;unfold Zh;simp[named] at h1;have:((yC t).map λu=>if Bd (zS zZ u).k then(named (AH m u)).count g else 0).sum<=4*t:=by
  clear h1 h2
  induction t with
  |zero=>simp
  |succ t ih=>
   have:=ih (by omega);rw[wZ,List.map_append,List.sum_append];have h2:(if Bd (zS zZ t).k then(named (AH m t)).count g else 0)<=4:=by
    split
    .have h3:=vN (a:=g) (l:=named (AH m t))
     have h4:=FJ (r:=AH m t);have h5:=(A3.1 ((Ai.1 hm).2 t (by omega))).1;omega
    .omega
   simp only[List.map_cons,List.map_nil,List.sum_cons,List.sum_nil];omega
 omega
end
theorem TG(v iv:Value)(m:List (List Int))(zZ:List AU)(w:World)(h:Bf w v m)(ax:Bs m=true)(hI:BS w iv zZ)(hl:zZ.length=12):
 Calls prog 132 #[v,iv] w λe w'=>∃v',e=.returned v'/\AF w.heap.size w' v' ((yC 12).map λg=>(countP m zZ g:Int))/\Below w.heap.size w w':=by
 obtain⟨q,c,rfl,hc,b7,H0⟩:=h.open;obtain⟨a2,c2,rfl,fU,er,H2⟩:=BD.open Ay (by decide) hI;have ct:=(Ai.1 ax).1;unfold maxLen at b7 er;rw[ct] at hc ⊢;rw[hl] at fU ⊢;have dw:=AA ax;have HR:=AA H0;have HI:=AA H2;have Hl:=AA hl;clear h ax H0 H2 ct hI hl;go_in;go_wp2_with (at_make;go_must (refine Ow (n:=12) rfl rfl 3 (.int .i64 0) 8 underlying29 Tryz.zI rfl rfl (by omega) (by unfold maxLen;omega) ?_;intro w1 au ar eU));have fb:AF w.heap.size w1 (.slice (some ⟨w.heap.size,0,none⟩) 12 12) (Gd m zZ 0 0):=by unfold AF;rw[JV,Rf];exact au
 have fL:w.heap.size<=w.heap.size:=yt _;have gu:=AA ar;clear au ar;go_loopw [6,7,8] (λi s7 s8 wr=>∃t:Nat,t<=12/\i=.int .i64 t/\AF w.heap.size wr (.slice (some ⟨w.heap.size,0,none⟩) 12 12) (Gd m zZ t 0)/\Below w.heap.size w wr) (λi _ _ _=>12 - (intOf i).toNat)
 case atStart=>exact⟨0,yh _,rfl,fb,gu.out⟩
 case round=>
  obtain⟨t,ht,rfl,hO,ar⟩:=hrel;clear fb
  by_cases ay:t<12
  .have bN:(t:Int)<12:=by omega
   obtain⟨bm,di,u,rfl,ew,M0,hr⟩:=HR.out t (by rw[(Ai.1 dw.out).1];exact ay);have M:=(ar.cell (p:=⟨bm,di+t,none⟩) ew).trans M0;have cK:=(A3.1 ((Ai.1 dw.out).2 _ ay)).1;have CN:=Ie _ (AH m t) wr (Aw.below hr ar) (by omega) (Lc dw.out ay);have HO:=AA hO;have Hb:=AA ar;have gM:=(yq HO.out w.heap.size rfl).2;obtain⟨wo,rfl⟩:∃wo:World,wo=wr:=⟨_,rfl⟩
   clear M0 hr hO;go_wp2_with fail;refine CN.mono ?_;rintro e w2 ⟨v2,rfl,O2,b2⟩;have a8:=Hb.out.trans (b2.mono Hb.out.size);have ee:=Pp dw.out ay;obtain⟨an,dt,rfl,ep,fP,HN⟩:=O2.rd.open;rw[Ca] at ep ⊢;have eN:=AA (AF.below HO.out b2);have ON:=AA O2;clear CN O2 ar M;cases hk:Bd (zS zZ t).k
   .have S:=AA (Re (m:=m) hk)
    have HK:=AA hk;obtain⟨bi,ab,rfl,a3,D0,_,_⟩:=(HI.out.below a8).zP (show t<zZ.length by rw[Hl.out];exact ay);clear hk;go_wp2_with fail;go_loopw [8] (λs8 wi=>s8=.int .i64 0/\w2=wi) (λ_ _=>0)
    case atStart=>exact⟨rfl,rfl⟩
    case round=>
     obtain⟨rfl,rfl⟩:=hrel
     by_cases h0:0<(named (AH m t)).length
     focus
      have f2:(0:Int)<(named (AH m t)).length:=by omega
      go_wp2_with (go_at_call 130;refine(FY _ _).mono ?_;rintro e w' ⟨rfl,rfl⟩;rw[HK.out])
     rotate_left
     focus
      have f2:¬(0:Int)<(named (AH m t)).length:=by omega
      go_wp2_with fail
     rotate_left
     all_goals
      go_roundw
      case rel=>exact⟨t+1,by omega,by go_num,by rw[<-S.out];exact eN.out,a8⟩
      case measure=>simp[intOf];omega
   .have S:=AA (Zg (m:=m) hk)
    have HK:=AA hk;have gZ:=AA HN;have gk:Hid (AF w.heap.size w2 (.slice (some ⟨w.heap.size,0,none⟩) 12 12) (VX m zZ t 0)):=AA (by rw[YT];exact eN.out);have gt:=AA a8;generalize hns:(named (AH m t)).length=nl at*;have dx:=AA hns;clear hk a8 eN HO HN hns;go_wp2_with fail;go_loopw [8] (λs8 wi=>∃j:Nat,j<=nl/\s8=.int .i64 j/\AF w.heap.size wi (.slice (some ⟨w.heap.size,0,none⟩) 12 12) (VX m zZ t j)/\AF wo.heap.size wi (.slice an nl dt) (A0 (named (AH m t)))/\Below w.heap.size w wi) (λs8 _=>nl - (intOf s8).toNat)
    case atStart=>exact⟨0,yh _,rfl,gk.out,by have:=ON.out;rwa [Ca,dx.out] at this,gt.out⟩
    case round=>
     obtain⟨j,hj,rfl,eE,dH,a3⟩:=hrel;obtain⟨bi,ab,rfl,fY,D0,_,_⟩:=(HI.out.below a3).zP (show t<zZ.length by rw[Hl.out];exact ay)
     by_cases em:j<nl
     .have fE:(j:Int)<(nl:Int):=by omega
      obtain⟨bn,b4,e1,DN⟩:=(show Io wr an (A0 (named (AH m t))) from by obtain⟨x1,x2,ex,_,_,hx⟩:=dH.rd.open;rw[Ca,dx.out] at ex;simp only[xH] at ex;obtain⟨rfl,_,rfl⟩:=ex;exact hx).at (k:=j) (by rw[Ca,dx.out];exact em)
      subst e1;rw[Os] at DN;have E:=AA (YS (zZ:=zZ) (show j<(named (AH m t)).length by rw[dx.out];exact em));have hF:IA (named (AH m t)) j<12:=FL (ye (F3 (by rw[dx.out];exact em)));have fQ:=aT (zZ:=zZ) (i:=j) (g:=IA (named (AH m t)) j) dw.out (Nat.le_of_lt ay);have cP:wr.ownsRow w.heap.size 3 1 (.slice (some ⟨w.heap.size,0,none⟩) 12 12) 12 ((VX m zZ t j).map (yf .i64)):=by have:=eE;unfold AF at this;rwa [Mj] at this
      have DC:=(cP.cellAt (IA (named (AH m t)) j) (by omega)).trans (FV (xs:=VX m zZ t j) (by rw[Mj];exact hF));rw[Sv hF] at DC;have eo:∀b,(xF (some ⟨bn,b4,none⟩) nl dt).ownBlock=some b->b≠w.heap.size:=λb hb=>by have:=(yq dH b hb).1;omega
      have dz:=AA cP;have gm:=AA dH;generalize IA (named (AH m t)) j=fr at*;generalize Zh m zZ t j fr=cn at*;have fM:(fr:Int)<12:=by omega
      have fW:=yA _ _ DN;have eZ:=yA _ _ DC;obtain⟨nc,hnc⟩:∃nc:Int,(cn:Int)+1=nc:=⟨_,rfl⟩
      have fj:=AA hnc;have fk:=AA a3;clear cP eE dH hnc a3;go_wp2_with (go_at_call 130;refine(FY _ _).mono ?_;rintro e w' ⟨rfl,rfl⟩;rw[HK.out]);refine AY 13 48 [.s w.heap.size 12 12,.v (.slice (some ⟨bn,b4,none⟩) nl dt),.i ((j:Int)),.p bn (b4+j),.i ((fr:Int)),.s w.heap.size 12 12,.v (.slice (some ⟨bn,b4,none⟩) nl dt),.i ((j:Int)),.p bn (b4+j),.i ((fr:Int)),.p w.heap.size fr,.i ((cn:Int)),.i nc] (λ_ _ _=>True) ?_ ?_
      .intro i hi o ho a wx Hb Hd hG K HK
       have a6:=bc hG fW DN;have a5:=bc hG eZ DC
       match i,hi with
       |0,_|1,_|2,_|5,_|6,_|7,_=>exact sP ho HK Hb Hd
       |3,_|8,_|10,_=>exact sI ho HK Hb Hd (hr:=by clear Hd Hb HK;go_simp)
       |4,_|9,_|11,_=>exact sL ho HK Hb Hd (hl:=Fp ‹_›)
       |12,_=>clear a6 a5;obtain rfl:=yF ho;have cV:(a.tmps[44]?.getD undef)=.int .i64 cn:=BM Hd 11;clear Hd Hb;refine yE ?_;go_simp;exact HK.out _ _ (by show yf .i64 (IntKind.i64.wrap ((cn:Int)+1))=.int .i64 nc;rw[IntWalk.i64_in _ (by omega),fj.out]) (yD _ _)
      .intro vs wx hR hG
       have q0:(vs 0)=.slice (some ⟨w.heap.size,0,none⟩) 12 12:=BW hR 0;have q4:(vs 4)=.int .i64 fr:=BW hR 4;have dh:(vs 12)=.int .i64 nc:=BW hR 12;clear hR;simp only[Aj,Ae,yC,yz,yy,yw,q0,q4,dh];simp;clear q0 q4 dh;have O3:=Co dz.out hG;have Fr:=O3.frozenAt fr;have C2:=(hG.cell (p:=⟨w.heap.size,fr,none⟩) eZ).trans DC;have S2:=AA (O3.stored fr (.int .i64 nc));have fl:=AF.below gm.out hG;have gp:=AA (Av fl (Aq wx w.heap.size fr (.int .i64 nc)) (by
        rcases hv:(xF (some ⟨bn,b4,none⟩) nl dt).ownBlock with _|b
        .exact .inl rfl
        .exact .inr λe=>eo b hv (yF e)))
       have fo:=AA (fk.out.trans (hG.mono fk.out.size));clear D0 DN DC hG O3 fl;go_wp2_with fail;go_roundw
       case rel=>refine⟨j+1,by omega,by go_num,?_,gp.out,AM fo.out S2.out.2 fL fo.out.size⟩;rw[E.out,fj.out];unfold AF;rw[List.length_set,Mj,List.map_set];exact S2.out.1
       case measure=>simp[intOf];omega
     .obtain rfl:j=nl:=by omega
      go_wp2_with fail;go_roundw
      case rel=>exact⟨t+1,by omega,by go_num,by rw[<-S.out];exact eE,a3⟩
      case measure=>simp[intOf];omega
  .obtain rfl:t=12:=by omega
   rw[UI] at hO;go_wp2_with fail;go_ret;exact⟨_,rfl,hO,ar⟩
theorem Pg(v iv:Value)(m:List (List Int))(xs:List AU)(f:Nat)(n:Int)(w:World)(h:Bf w v m)(hm:Bs m=true)(hI:BS w iv xs)(a7:BI xs=true)(hf:f<12)(hn:n=1∨n= -1):
 Calls prog 279 #[v,iv,.int .i64 f,.int .i64 n] w λe w'=>∃v',e=.returned v'/\AQ w.heap.size 92 3 A2 w' v' (Bi xs (named (AH m f)) n)/\Below w.heap.size w w':=by
 have Hl:=AA (Az.1 a7).1;have ct:=(Ai.1 hm).1;have HR:=AA (λW (hW:Below w.heap.size w W)=>BD.below hI hW);have eL:=AA (λW (hW:Below w.heap.size w W)=>h.below hW);have cK:=(A3.1 ((Ai.1 hm).2 f hf)).1;have CN:=AA (λu W hu=>Ie u (AH m f) W hu (by omega) (Lc hm hf));have h4:=Pp hm hf;have gv:=AA (λg (hg:g∈named (AH m f))=>FL hg);have ge:=AA a7;have Hn:=AA hn;have gJ: -1<=n/\n<=1:=by omega
 obtain⟨am,cm,rfl,_,_,_⟩:=h.open;obtain⟨ai,ci,rfl,_,_⟩:=hI.shape;have gN:(f:Int)<m.length:=by omega
 have cG:f<m.length:=by omega
 generalize named (AH m f)=fs at*;clear h hm hI a7 hn cK ct;go_in;go_wp2_with (at_builtin;go_must (refine FO (cs:=A2) rfl rfl 92 (.agg #[.int .i64 0,.string ⟨#[]⟩,.int .i64 0]) 3 32 underlying24 Tryz.zE rfl (by decide) rfl (By A2 _ _ _) rfl (HR.out _ (AE _ _)) (Ez _) (by have:=Hl.out;omega) (by decide) (by simp) ?_;intro v' w9 hO bq));have dc:=(AE w _).trans bq;obtain⟨q,b9,rfl,c1,c2,q1,q2,cg⟩:=hO.zM (by have:=Hl.out;omega);unfold maxLen at c2;have HO:=AA hO;have ch:=AA dc;obtain⟨a9,c9,e9,_,_,H9⟩:=(eL.out _ dc).open;simp only[xH] at e9;obtain⟨rfl,_,rfl⟩:=e9;obtain⟨b,al,u,rfl,a0,D,hR⟩:=H9 f cG;have C:=AA (CN.out u w9 hR);obtain⟨_,_,rfl,_⟩:=hR.open;have da:¬(f:Int)<0:=by omega
 clear hO bq dc H9 hR CN cg;go_wp2_with fail;refine C.out.mono ?_;rintro e w1 ⟨v1,rfl,o1,b1⟩;obtain⟨a1,eH,rfl,gR⟩:=EY o1;have gl:=AA (HO.out.below b1);have f9:=AA o1;have f6:=AA (ch.out.trans (b1.mono ch.out.size));clear o1 b1 C D;go_wp2_with fail;go_loopw [11] (λix wr=>∃k:Nat,k<=fs.length/\ix=.int .i64 k/\AQ w.heap.size 92 3 A2 wr (.slice (some ⟨q,0,none⟩) xs.length b9) (Bi xs (fs.take k) n)/\AF w9.heap.size wr (.slice a1 fs.length eH) (A0 fs)/\Below w.heap.size w wr) (λix _=>fs.length - (intOf ix).toNat)
 case atStart=>exact⟨0,yh _,rfl,by simpa[Bi] using gl.out,f9.out,f6.out⟩
 case round=>
  obtain⟨k,hk,rfl,hO,o1,hb⟩:=hrel
  by_cases ay:k<fs.length
  .have bN:(k:Int)<(fs.length:Int):=by omega
   obtain⟨a2,gX,e2,_,_,H1⟩:=(AF.rd o1).open;simp only[xH] at e2;obtain⟨rfl,e2,rfl⟩:=e2;clear e2;obtain⟨b1,b5,rfl,D⟩:=H1.at (k:=k) (by rw[Ca];exact ay);rw[Os] at D;have eh:=(yq o1 b1 rfl).2;have ho:=gv.out _ (ye (F3 ay));have RN:=WF (zZ:=xs) (n:=n) ay;obtain⟨r1,r2,_⟩:=LT ge.out (fs:=fs.take k) (by rw[xT];omega) Hn.out ho;have dC:(Bi xs (fs.take k) n).length=xs.length:=Nu;rw[<-dC] at hO;generalize Bi xs (fs.take k) n=X at*;generalize IA fs k=o at*;have ed:o<X.length:=by rw[dC,Hl.out];exact ho
   have eX:(o:Int)<xs.length:=by rw[Hl.out];omega
   have fz:¬(o:Int)<0:=by omega
   obtain⟨_,_,d2⟩:=AQ.zP hO ed;have hq:=(yq hO q rfl).2;have dQ:=AA hO;have f8:=AA (Cj ed);have ga:=AA dC;have eM:=AA o1;have E:=AA RN;have Hb:=AA hb;clear RN hO o1 hb H1 dC ed;go_wp2_with fail;refine AY 17 44 [.s q xs.length b9,.v (.slice (some ⟨b1,b5,none⟩) fs.length eH),.i ((k:Int)),.p b1 (b5+k),.i ((o:Int)),.s q xs.length b9,.v (.slice (some ⟨b1,b5,none⟩) fs.length eH),.i ((k:Int)),.p b1 (b5+k),.i ((o:Int)),.p q (o*3),.p q (o*3+2),.i ((zS X o).r),.i n,.i ((zS X o).r+n),.p q (o*3),.p q (o*3+2)] (λ_ _ _=>True) ?_ ?_
   .intro i hi o ho a wx Hb Hd hG K HK
    have a6:=bc hG eh D;have a5:=bc hG hq d2
    match i,hi with
    |0,_|1,_|2,_|5,_|6,_|7,_|11,_|13,_|16,_=>exact sP ho HK Hb Hd
    |3,_|8,_|10,_|15,_=>exact sI ho HK Hb Hd (hr:=by clear Hd Hb HK;go_simp)
    |4,_|9,_|12,_=>exact sL ho HK Hb Hd (hl:=Fp ‹_›)
    |14,_=>clear a6 a5;obtain rfl:=yF ho;have fh:(a.tmps[38]?.getD undef)=.int .i64 ((zS X o).r):=BM Hd 12;have fg:(a.tmps[39]?.getD undef)=.int .i64 n:=BM Hd 13;clear Hd Hb;refine yE ?_;go_simp;exact HK.out _ _ (by show yf .i64 (IntKind.i64.wrap _)=_;rw[IntWalk.i64_in _ (by omega)]) (yD _ _)
    |_+17,hq=>omega
   .intro vs wx hR hG
    have eS:(vs 14)=.int .i64 ((zS X o).r+n):=BW hR 14;have bC:(vs 16)=.pointer (some ⟨q,o*3+2,none⟩):=BW hR 16;clear hR;simp only[Aj,Ae,yC,yz,yy,yw,eS,bC];simp;clear eS bC;have dM:=AA (AQ.zx Ay (dQ.out.below hG) f8.out (j:=2) (by decide) (y:=JS n (zS X o)) (u:=.int .i64 ((zS X o).r+n)) rfl);have dG:=AA (Hb.out.trans (hG.mono Hb.out.size));have Fw:wx.frozen? ⟨q,o*3+2,none⟩=false:=World.ownsRow.frozenAt (dQ.out.below hG) (o*3+2);obtain⟨dJ,dr⟩:=A6 (dQ.out.below hG) q rfl;have N2:=AA (Eu (eM.out.below hG) dM.out.2 dr);have gH:q<wx.heap.size:=(yq (dQ.out.below hG) q rfl).2;rw[ga.out] at dM;have gW:=(hG.cell (p:=⟨q,o*3+2,none⟩) hq).trans d2;clear hG dr d2 D;go_wp2_with fail;go_roundw
    case rel=>exact⟨k+1,by omega,by go_num,by rw[E.out];exact dM.out.1,N2.out,AM dG.out dM.out.2 q1 dG.out.size⟩
    case measure=>simp[intOf];omega
  .obtain rfl:k=fs.length:=by omega
   rw[xt] at hO;go_wp2_with fail;go_ret;exact⟨_,rfl,hO,hb⟩
theorem Pb{xs:List AU}{f:Nat}{kind:Int}(h:BI xs=true)(hf:f<12)(dD:(zS xs f).k≠0)(hk:1<=kind/\kind<=3):BI (As xs f (ER kind))=true:=by
 obtain⟨hl,h2⟩:=Az.1 h;refine Az.2 ⟨by rw[Cz];exact hl,λg hg=>?_⟩;rw[FW]
 split
 .have:=h2 f hf
  rw[MX dD] at this;rw[MX (x:=ER kind _) (by show kind≠0;omega)]
  show(Be kind 1 3&&BP (zS xs f).g&&Be (zS xs f).r 0 50)=true
  simp only[yp] at this ⊢;exact⟨⟨Ab.2 hk,this.1.2⟩,this.2⟩
 .exact h2 g hg
theorem RJ(v iv rv:Value)(m:List (List Int))(xs:List AU)(f:Nat)(kind:Int)(ss:List ByteArray)(w:World)(h:Bf w v m)(ax:Bs m=true)(hI:BS w iv xs)(a7:BI xs=true)(hf:f<12)(hk:Bd kind=true)(hv:BR w rv ss)(dZ:DQ ss)(hr:BQ ss=true):
 Calls prog 261 #[v,iv,.int .i64 f,.int .i64 kind,rv] w (VN (Hy m xs f kind ss) w):=by
 have hl:=(Az.1 a7).1;have ej:2<=kind/\kind<=3:=by simp only[Bd,xl,decide_eq_true_eq] at hk;omega
 have cC:=(Hj ((Az.1 a7).2 f hf)).2.1;have C1:=AA (λW (hW:Below w.heap.size w W)=>OO v iv m xs f W (h.below hW) ax (BD.below hI hW) a7 hf);have C3:=AA (λW (_:Below w.heap.size w W)=>BK (by have:=FY kind W;rw[hk] at this;exact this));have C4:=AA (λW (hW:Below w.heap.size w W)=>by have:=GI rv ss W (BD.below hv hW) dZ;rw[hr] at this;exact this);have C7:=AA (λW (hW:Below w.heap.size w W)=>Rq v iv rv m xs f kind ss W (h.below hW) ax (BD.below hI hW) hl (CJ a7) hf hk (BD.below hv hW) dZ);have HR:=AA (λW (hW:Below w.heap.size w W)=>BD.below hI hW);have SM:=AA (Sb (kind:=kind) ax a7 hf (.inl (rfl:(1:Int)=1)));have PN:=AA (ag (m:=m) (zZ:=xs) (f:=f) (kind:=kind) (ss:=ss));have a4:=AA (λ(el:(zS xs f).k=1) W (hW:Below w.heap.size w W) u (hu:BS W u (As xs f (ER kind)))=>Pg v u m (As xs f (ER kind)) f 1 W (h.below hW) ax hu (Pb a7 hf (by omega) (by omega)) hf (.inl rfl));obtain⟨ai,ci,rfl,es,cR,H2⟩:=BD.open Ay (by decide) hI;obtain⟨bi,ab,rfl,a3,D0,_,D2⟩:=H2.zP (show f<xs.length by omega);obtain⟨_,_,rfl,_⟩:=h.open;obtain⟨_,_,rfl,_⟩:=hv.shape;have cG:(f:Int)<xs.length:=by omega
 have Hl:=AA hl;have hb:=yD w.heap.size w;clear h ax hI a7 hk hv dZ hr hl H2;go_in;go_wp2_with fail;refine(C1.out _ hb).mono ?_;rintro e w_ ⟨rfl,bY⟩;replace hb:=hb.trans (bY.mono hb.size);clear bY;go_wp2_with fail;refine(C3.out _ hb).mono ?_;rintro e w_ ⟨rfl,bY⟩;replace hb:=hb.trans (bY.mono hb.size);clear bY;go_wp2_with fail;refine(C4.out _ hb).mono ?_;rintro e w4 ⟨rfl,n4,rfl⟩;replace hb:=hb.trans (A8 (yD _ _) n4|>.mono hb.size);have Hb:=AA hb
 by_cases e1:(zS xs f).k=1
 .by_cases e2:(zS xs f).r=0
  .have t1:((zS xs f).k !=1)=false:=by simp[e1]
   have t2:¬0<(zS xs f).r:=by omega
   have P:=AA (show Hy m xs f kind ss=if Iw m xs f kind ss=false then(xs,2)
    else if BI (As (Bi xs (named (AH m f)) 1) f (ER kind)) then(As (Bi xs (named (AH m f)) 1) f (ER kind),0) else(xs,1) by rw[PN.out,if_neg (by simp[e1,e2])])
   have c7:=AA (a4.out e1);clear e1 e2 a4 PN cC;go_wp2_with (at_builtin;go_must (refine FO (cs:=A2) rfl rfl 92 (.agg #[.int .i64 0,.string ⟨#[]⟩,.int .i64 0]) 3 32 underlying24 Tryz.zE rfl (by decide) rfl (By A2 _ _ _) rfl (HR.out _ (Hb.out.trans ((AE _ _).mono Hb.out.size))) (Ez _) (by have:=Hl.out;omega) (by decide) (by simp) ?_;intro v' w9 hO bq;have bB:=AA ((Hb.out.trans ((AE _ _).mono Hb.out.size)).trans (bq.mono Hb.out.size));replace D0:=(bB.out.cell (p:=⟨bi,ab+f*3,none⟩) a3).trans D0;replace D2:=(bB.out.cell (p:=⟨bi,ab+f*3+2,none⟩) a3).trans D2;clear bq));refine(C7.out _ bB.out).mono ?_;rintro e c8 ⟨rfl,eI⟩;replace hO:=AQ.below hO eI;have cb:=AA (bB.out.trans (eI.mono bB.out.size));clear eI D0 D2;cases hg:Iw m xs f kind ss
   .have P2:=AA (show Hy m xs f kind ss=(xs,2) by rw[P.out,hg];rfl)
    clear hg;have HO:=AA hO;clear hO;go_wp2_with fail;go_ret2;exact⟨_,by rw[P2.out];rfl,by rw[P2.out];exact HO.out.lower Hb.out.size,cb.out⟩
   .have P2:=AA (show Hy m xs f kind ss=if BI (As (Bi xs (named (AH m f)) 1) f (ER kind)) then(As (Bi xs (named (AH m f)) 1) f (ER kind),0) else(xs,1) by rw[P.out,hg];rfl)
    clear hg;obtain⟨q,b9,rfl,c1,c2,q1,q2,cg⟩:=hO.zM (by have:=Hl.out;omega);unfold maxLen at c2;obtain⟨d0,_,_⟩:=AQ.zP hO (show f<xs.length by have:=Hl.out;omega);have Fr:=cg (f*3);have S0:=AQ.zx Ay hO (Cj (show f<xs.length by have:=Hl.out;omega)) (j:=0) (by decide) (y:=ER kind (zS xs f)) (u:=.int .i64 kind) rfl;rw[Nat.add_zero] at S0;have bb:=AM cb.out S0.2 (yB Hb.out.size q1) cb.out.size;rw[<-KY (f:=ER kind)] at S0;have S:=AA (AQ.lower S0.1 Hb.out.size);have da:¬(f:Int)<0:=by omega
    clear S0 hO cg;go_wp2_with fail;generalize hwN:c8.setCell _ _=wN at*;clear d0 Fr hwN q2;have eD:(As xs f (ER kind)).length=xs.length:=Cz;have CA:=c7.out wN bb (.slice (some ⟨q,0,none⟩) xs.length b9) (AQ.rd S.out);clear eD;refine CA.mono ?_;rintro e dU ⟨dW,rfl,cy,du⟩;rw[<-OT] at cy;have bx:=bb.trans (du.mono bb.size);have eK:=AA (AQ.lower cy bb.size);have cH:=AQ.rd cy;clear cy du S;generalize hM:As (Bi xs (named (AH m f)) 1) f (ER kind)=M at*;have C9:=DO dW M dU cH SM.out;obtain⟨f5,f4,rfl,_,_⟩:=cH.shape;cases hq:BI M
    .have P3:=AA (show Hy m xs f kind ss=(xs,1) by rw[P2.out,hq];rfl)
     rw[hq] at C9;have C:=AA C9;have br:=AA bx;clear C9 hq cH bx bb;go_wp2_with fail;refine(C.out).mono ?_;rintro e dT ⟨rfl,ca⟩;have bw:=br.out.trans (ca.mono br.out.size);have bf:=AA bw;clear ca bw c1 c2;go_wp2_with (at_builtin;go_must (refine FO (cs:=A2) rfl rfl 92 (.agg #[.int .i64 0,.string ⟨#[]⟩,.int .i64 0]) 3 32 underlying24 Tryz.zE rfl (by decide) rfl (By A2 _ _ _) rfl (HR.out _ (bf.out.trans ((AE _ _).mono bf.out.size))) (Ez _) (by have:=Hl.out;omega) (by decide) (by simp) ?_;intro v' w9 hO bq));have cr:=(bf.out.trans ((AE _ _).mono bf.out.size)).trans (bq.mono bf.out.size);have HO:=AA (hO.lower bf.out.size);have c5:=AA cr;clear hO bq cr;go_wp2_with fail;go_ret2;exact⟨_,by rw[P3.out];rfl,by rw[P3.out];exact HO.out,c5.out⟩
    .have P3:=AA (show Hy m xs f kind ss=(M,0) by rw[P2.out,hq];rfl)
     rw[hq] at C9;have C:=AA C9;have br:=AA bx;clear C9 hq cH bx bb;go_wp2_with fail;refine(C.out).mono ?_;rintro e dT ⟨rfl,ca⟩;have bw:=br.out.trans (ca.mono br.out.size);have eJ:=AA (eK.out.below ca);clear ca c1 c2;go_wp2_with fail;go_ret2;exact⟨_,by rw[P3.out];rfl,by rw[P3.out];exact eJ.out,bw⟩
  .have t1:((zS xs f).k !=1)=false:=by simp[e1]
   have t2:0<(zS xs f).r:=by omega
   have P2:=AA (show Hy m xs f kind ss=(xs,1) by rw[PN.out,if_pos (.inr e2)]);clear e1 e2 a4 PN cC;go_wp2_with (at_builtin;go_must (refine FO (cs:=A2) rfl rfl 92 (.agg #[.int .i64 0,.string ⟨#[]⟩,.int .i64 0]) 3 32 underlying24 Tryz.zE rfl (by decide) rfl (By A2 _ _ _) rfl (HR.out _ (Hb.out.trans ((AE _ _).mono Hb.out.size))) (Ez _) (by have:=Hl.out;omega) (by decide) (by simp) ?_;intro v' w9 hO bq;have bB:=AA ((Hb.out.trans ((AE _ _).mono Hb.out.size)).trans (bq.mono Hb.out.size));replace D0:=(bB.out.cell (p:=⟨bi,ab+f*3,none⟩) a3).trans D0;replace D2:=(bB.out.cell (p:=⟨bi,ab+f*3+2,none⟩) a3).trans D2;clear bq));go_ret2;exact⟨_,by rw[P2.out];rfl,by rw[P2.out];exact hO.lower Hb.out.size,bB.out⟩
 .have t1:((zS xs f).k !=1)=true:=by simp[e1]
  have P2:=AA (show Hy m xs f kind ss=(xs,1) by rw[PN.out,if_pos (.inl e1)]);clear e1 a4 PN cC;go_wp2_with (at_builtin;go_must (refine FO (cs:=A2) rfl rfl 92 (.agg #[.int .i64 0,.string ⟨#[]⟩,.int .i64 0]) 3 32 underlying24 Tryz.zE rfl (by decide) rfl (By A2 _ _ _) rfl (HR.out _ (Hb.out.trans ((AE _ _).mono Hb.out.size))) (Ez _) (by have:=Hl.out;omega) (by decide) (by simp) ?_;intro v' w9 hO bq;have bB:=AA ((Hb.out.trans ((AE _ _).mono Hb.out.size)).trans (bq.mono Hb.out.size));replace D0:=(bB.out.cell (p:=⟨bi,ab+f*3,none⟩) a3).trans D0;clear bq));go_ret2;exact⟨_,by rw[P2.out];rfl,by rw[P2.out];exact hO.lower Hb.out.size,bB.out⟩
theorem Oi(v iv:Value)(m:List (List Int))(xs:List AU)(f:Nat)(w:World)(h:Bf w v m)(ax:Bs m=true)(hI:BS w iv xs)(a7:BI xs=true)(hf:f<12):
 Calls prog 262 #[v,iv,.int .i64 f] w (VN (Dm m xs f) w):=by
 have hl:=(Az.1 a7).1;have cC:=(Hj ((Az.1 a7).2 f hf)).2.1;have C1:=AA (λW (hW:Below w.heap.size w W)=>OO v iv m xs f W (h.below hW) ax (BD.below hI hW) a7 hf);have HR:=AA (λW (hW:Below w.heap.size w W)=>BD.below hI hW);have SM:=AA (Sb (kind:=1) ax a7 hf (.inr (rfl:(-1:Int)= -1)));have PN:=AA (ZQ (m:=m) (zZ:=xs) (f:=f));have a4:=AA (λ(el:Bd (zS xs f).k=true) W (hW:Below w.heap.size w W) u (hu:BS W u (As xs f (ER 1)))=>Pg v u m (As xs f (ER 1)) f (-1) W (h.below hW) ax hu (Pb a7 hf (by intro e;rw[e] at el;cases el) (by omega)) hf (.inr rfl));obtain⟨ai,ci,rfl,es,cR,H2⟩:=BD.open Ay (by decide) hI;obtain⟨bi,ab,rfl,a3,D0,_,D2⟩:=H2.zP (show f<xs.length by omega);obtain⟨_,_,rfl,_⟩:=h.open;have cG:(f:Int)<xs.length:=by omega
 have Hl:=AA hl;have hb:=yD w.heap.size w;have CK:=AA (λW=>FY (zS xs f).k W);clear h ax hI a7 hl H2;go_in;go_wp2_with fail;refine(C1.out _ hb).mono ?_;rintro e w_ ⟨rfl,bY⟩;replace hb:=hb.trans (bY.mono hb.size);clear bY;have Hb:=AA hb;clear hb;go_wp2_with (at_builtin;go_must (refine FO (cs:=A2) rfl rfl 92 (.agg #[.int .i64 0,.string ⟨#[]⟩,.int .i64 0]) 3 32 underlying24 Tryz.zE rfl (by decide) rfl (By A2 _ _ _) rfl (HR.out _ (Hb.out.trans ((AE _ _).mono Hb.out.size))) (Ez _) (by have:=Hl.out;omega) (by decide) (by simp) ?_;intro v' w9 hO bq;have bB:=AA ((Hb.out.trans ((AE _ _).mono Hb.out.size)).trans (bq.mono Hb.out.size));replace D0:=(bB.out.cell (p:=⟨bi,ab+f*3,none⟩) a3).trans D0;replace D2:=(bB.out.cell (p:=⟨bi,ab+f*3+2,none⟩) a3).trans D2;clear bq));have cb:=bB;refine(CK.out _).mono ?_;rintro e c8 ⟨rfl,rfl⟩;cases e1:Bd (zS xs f).k
 .have P2:=AA (show Dm m xs f=(xs,1) by rw[PN.out,if_pos (.inl e1)])
  clear e1 a4 PN cC;have HO:=AA hO;clear hO;go_wp2_with fail;go_ret2;exact⟨_,by rw[P2.out];rfl,by rw[P2.out];exact HO.out.lower Hb.out.size,bB.out⟩
 .by_cases e2:(zS xs f).r=0
  .have t2:¬0<(zS xs f).r:=by omega
   have P2:=AA (show Dm m xs f=if BI (As (Bi xs (named (AH m f)) (-1)) f (ER 1)) then(As (Bi xs (named (AH m f)) (-1)) f (ER 1),0) else(xs,2) by rw[PN.out,if_neg (by simp[e1,e2])]);have c7:=AA (a4.out e1);clear e1 e2 a4 PN cC;obtain⟨c8,rfl⟩:∃c8:World,c8=w9:=⟨_,rfl⟩
   obtain⟨q,b9,rfl,c1,c2,q1,q2,cg⟩:=hO.zM (by have:=Hl.out;omega);unfold maxLen at c2;obtain⟨d0,_,_⟩:=AQ.zP hO (show f<xs.length by have:=Hl.out;omega);have Fr:=cg (f*3);have S0:=AQ.zx Ay hO (Cj (show f<xs.length by have:=Hl.out;omega)) (j:=0) (by decide) (y:=ER 1 (zS xs f)) (u:=.int .i64 1) rfl;rw[Nat.add_zero] at S0;have bb:=AM cb.out S0.2 (yB Hb.out.size q1) cb.out.size;rw[<-KY (f:=ER 1)] at S0;have S:=AA (AQ.lower S0.1 Hb.out.size);have da:¬(f:Int)<0:=by omega
   clear S0 hO cg;go_wp2_with fail;generalize hwN:c8.setCell _ _=wN at*;clear d0 Fr hwN q2;have eD:(As xs f (ER 1)).length=xs.length:=Cz;have CA:=c7.out wN bb (.slice (some ⟨q,0,none⟩) xs.length b9) (AQ.rd S.out);clear eD;refine CA.mono ?_;rintro e dU ⟨dW,rfl,cy,du⟩;rw[<-OT] at cy;have bx:=bb.trans (du.mono bb.size);have eK:=AA (AQ.lower cy bb.size);have cH:=AQ.rd cy;clear cy du S;generalize hM:As (Bi xs (named (AH m f)) (-1)) f (ER 1)=M at*;have C9:=DO dW M dU cH SM.out;obtain⟨f5,f4,rfl,_,_⟩:=cH.shape;cases hq:BI M
   .have P3:=AA (show Dm m xs f=(xs,2) by rw[P2.out,hq];rfl)
    rw[hq] at C9;have C:=AA C9;have br:=AA bx;clear C9 hq cH bx bb;go_wp2_with fail;refine(C.out).mono ?_;rintro e dT ⟨rfl,ca⟩;have bw:=br.out.trans (ca.mono br.out.size);have bf:=AA bw;clear ca bw c1 c2;go_wp2_with (at_builtin;go_must (refine FO (cs:=A2) rfl rfl 92 (.agg #[.int .i64 0,.string ⟨#[]⟩,.int .i64 0]) 3 32 underlying24 Tryz.zE rfl (by decide) rfl (By A2 _ _ _) rfl (HR.out _ (bf.out.trans ((AE _ _).mono bf.out.size))) (Ez _) (by have:=Hl.out;omega) (by decide) (by simp) ?_;intro v' w9 hO bq));have cr:=(bf.out.trans ((AE _ _).mono bf.out.size)).trans (bq.mono bf.out.size);have HO:=AA (hO.lower bf.out.size);have c5:=AA cr;clear hO bq cr;go_wp2_with fail;go_ret2;exact⟨_,by rw[P3.out];rfl,by rw[P3.out];exact HO.out,c5.out⟩
   .have P3:=AA (show Dm m xs f=(M,0) by rw[P2.out,hq];rfl)
    rw[hq] at C9;have C:=AA C9;have br:=AA bx;clear C9 hq cH bx bb;go_wp2_with fail;refine(C.out).mono ?_;rintro e dT ⟨rfl,ca⟩;have bw:=br.out.trans (ca.mono br.out.size);have eJ:=AA (eK.out.below ca);clear ca c1 c2;go_wp2_with fail;go_ret2;exact⟨_,by rw[P3.out];rfl,by rw[P3.out];exact eJ.out,bw⟩
  .have t2:0<(zS xs f).r:=by omega
   have P2:=AA (show Dm m xs f=(xs,1) by rw[PN.out,if_pos (.inr e2)]);clear e1 e2 a4 PN cC;have HO:=AA hO;clear hO;go_wp2_with fail;go_ret2;exact⟨_,by rw[P2.out];rfl,by rw[P2.out];exact HO.out.lower Hb.out.size,bB.out⟩
theorem II{k:AN}(h:DJ k){j:Nat}(hj:j<3):DQ (AJ k.zX j).zT:=GO (h.zT j hj)
theorem JY(m i e c:Value)(k:AN)(en:Nat)(g:ByteArray)(w:World)(h:Fq w e k.zX)(hk:DJ k)(cM:en<3)(hg:g.size<=maxLen):
 Calls prog 216 #[.agg #[m,i,e,c],.int .i64 en,.string g] w λr w'=>r=.returned (.bool (Bv (AJ k.zX en).zT g))/\Below w.heap.size w w':=by
 have N0:=yv w (.cells #[m,i,e,c] 28);have aq:=AE w (.cells #[m,i,e,c] 28);obtain⟨a,cp,rfl,hc,b7,H⟩:=(h.below aq).open;obtain⟨b,al,ua,uc,rfl,a0,D0,_,hR⟩:=H en (by rw[hk.zN];exact cM);have C:=AA (KS _ _ g _ hR (II hk cM) hg);have e6:(en:Int)<k.zX.length:=by rw[hk.zN];omega
 obtain⟨_,_,x2,_⟩:=AG N0;have da:¬(en:Int)<0:=by omega
 clear h hk H hR N0;go_in;go_wp2_with fail;generalize w.alloc _=W0 at*;refine C.out.mono ?_;rintro e w1 ⟨rfl,b1⟩;go_wp2_with fail;go_ret;exact⟨rfl,aq.trans (b1.mono aq.size)⟩
theorem Qs(m i e c:Value)(k:AN)(x:Int)(w:World)(h:Bf w m k.mem)(hi:BS w i k.zZ)(hm:Bs k.mem=true)(hl:k.zZ.length=12)(hx:x<=9223372036854775807):
 Calls prog 223 #[.agg #[m,i,e,c],.int .i64 x] w λr w'=>∃v',r=.returned v'/\AF w.heap.size w' v' (A0 (KN k x))/\Below w.heap.size w w':=by
 have N0:=yv w (.cells #[m,i,e,c] 28);have aq:=AE w (.cells #[m,i,e,c] 28);obtain⟨x0,x1,_,_⟩:=AG N0;have b6:=AW N0;cases hg:Bh x
 .have V:=AA (Eg hg)
  have E:KN k x=[]:=by unfold KN;rw[hg];rfl
  rw[E];have o1:=Ev (w.alloc (.cells #[m,i,e,c] 28));simp only[xv] at o1;clear hg E;go_in;go_wp2_with (go_at_call 186;refine(Cy _ _ hx).mono ?_;rintro e w' ⟨rfl,rfl⟩;rw[V.out]);go_ret;exact⟨_,rfl,MV o1 (wv _),aq.alloc aq.size _⟩
 .have V:=AA (EX hg)
  have hF:=EP hg;have BE:KN k x=A9 x::(if(zS k.zZ (A9 x)).k=2 then named (AH k.mem (A9 x)) else[]):=by unfold KN;rw[hg,if_pos rfl]
  rw[BE];generalize A9 x=o at*;obtain⟨ai,ci,rfl,_,_,HI⟩:=BD.open Ay (by decide) (BD.below hi aq);obtain⟨bi,ab,rfl,a3,D0,_,_⟩:=HI.zP (show o<k.zZ.length by omega);have eX:(o:Int)<k.zZ.length:=by omega
  have fz:¬(o:Int)<0:=by omega
  have o1:=Wn (w.alloc (.cells #[m,.slice (some ⟨bi,ab,none⟩) k.zZ.length ci,e,c] 28)) o;clear hg BE HI hi
  by_cases h2:(zS k.zZ o).k=2
  .have t2:((zS k.zZ o).k !=2)=false:=by simp[h2]
   rw[if_pos h2];have ct:=(Ai.1 hm).1;obtain⟨am,cm,rfl,_,_,HM⟩:=(h.below aq).open;obtain⟨bm,di,u,rfl,ew,DM,hR⟩:=HM o (by omega);have gI:(o:Int)<k.mem.length:=by omega
   have cK:=(A3.1 ((Ai.1 hm).2 o hF)).1;have CN:=AA (λW (hW:Below _ _ W)=>Ie u (AH k.mem o) W (Aw.below hR hW) (by omega) (Lc hm hF));have ee:=Pp hm hF;obtain⟨_,_,rfl,_⟩:=hR.open;generalize named (AH k.mem o)=ns at*;simp only[xv] at o1;have eu:=ew;simp only[xv] at eu;clear h2 h hm hl HM hR ct cK N0;go_in;go_wp2_with (go_at_call 186;refine(Cy _ _ hx).mono ?_;rintro e w' ⟨rfl,rfl⟩;rw[V.out]);generalize w.alloc _=W0 at*;have C:=AA (CN.out _ (AE W0 (.cells #[.int .i64 o] 3)));refine C.out.mono ?_;rintro r w1 ⟨v1,rfl,n1,b1⟩;have O1:=AA (AF.below o1 b1);have b8:=(AE W0 (.cells #[.int .i64 o] 3)).trans (b1.mono (AE W0 (.cells #[.int .i64 o] 3)).size);have gF:=b8.size;have dc:=aq.trans (b8.mono aq.size);have gj:=AA (AF.rd n1);have ch:=AA dc;obtain⟨az,cz,rfl,gP⟩:=EY n1;clear o1 n1 b1 dc b8 CN C x0 x1 D0 DM;go_wp2_with (at_builtin;go_must (refine Bc (lo:=w.heap.size+1) (n:=1) (xs:=(A0 [o]).map (yf .i64)) (m:=ns.length) (news:=(A0 ns).map (yf .i64)) rfl rfl 3 (.int .i64 0) 1 8 underlying29 Tryz.zI rfl (by decide) rfl (Ka O1.out (yD _ _)) rfl (by have:=gj.out;unfold Aw at this;rw[Ca] at this;exact this) (LQ _) (by unfold maxLen;omega) (by omega) (by omega) ?_;intro o' w9 k1 k2 k3 k4));go_ret;exact⟨_,rfl,MV (Ig (ys:=[o]) (zs:=ns) k1) (wv _),ch.out.trans (k4.mono (wv _))⟩
  .have t2:((zS k.zZ o).k !=2)=true:=by simp[h2]
   rw[if_neg h2];simp only[xv] at o1;obtain⟨_,_,rfl,_⟩:=h.open;clear h2 h hm hl N0;go_in;go_wp2_with (go_at_call 186;refine(Cy _ _ hx).mono ?_;rintro e w' ⟨rfl,rfl⟩;rw[V.out]);go_ret;exact⟨_,rfl,MV o1 (wv _),aq.alloc aq.size _⟩
theorem NP{ops:Array Oper}{rest:List Oper}{o:Oper}{a:Act}{Q:Exit->Act->World->Prop}{s x:Operand}{t:TypeId}
 (fJ:o.guard=none)(ho:o.op=.call {callee:=.builtin .append,args:= #[s,x],argTypes:= #[t,t]})
 (ht:prog.underlying t=some (.slice 3)){v u:Value}{xs:List Int}(hs:a.eval s=v)(au:AF lo w v [])
 (hx:a.eval x=u)(hr:Aw w u xs)(fc:xs.length<=1048576)(db:lo<=w.heap.size)
 (hK:∀v' w',AF lo w' v' xs->Below lo w w'->wpList prog ops Q rest (a.put o.dst v') w'):wpList prog ops Q (o::rest) a w:=by
 refine Bc (n:=0) (xs:=[]) (m:=xs.length) (news:=xs.map (yf .i64)) fJ ho 3 (.int .i64 0) 1 8 ht Tryz.zI rfl (by decide) hs au hx hr (LQ _) ?_ ?_ db λv' w' k1 _ _ k4=>hK v' w' ?_ k4
 .unfold maxLen;omega
 .omega
 .unfold AF
  rw[uT] at k1;exact k1
theorem MS(v:Value)(m:List (List Int))(w:World)(h:Bf w v m)(hl:m.length<=100)(hr:∀f,f<m.length->(AH m f).length<=100):
 Calls prog 94 #[v] w λe w'=>∃v' vs,e=.returned v'/\Au w.heap.size w' v' vs m/\Below w.heap.size w w':=by
 obtain⟨a,c,rfl,hc,b7,H⟩:=h.open;unfold maxLen at b7;have HH:=AA H;have HR:=AA hr;clear h H hr;go_in;go_wp2_with fail;go_loopw [3,4] (λo i wr=>∃k:Nat,∃vs:List Value,k<=m.length/\vs.length=k/\i=.int .i64 k/\Au w.heap.size wr o vs (m.take k)/\Below w.heap.size w wr) (λ_ i _=>m.length - (intOf i).toNat)
 case atStart=>exact⟨0,[],by omega,rfl,rfl,⟨Cp _ _ _,Fh.nil,DG.nil⟩,AE _ _⟩
 case round=>
  obtain⟨k,vs,hk,dm,rfl,hO,ar⟩:=hrel;have Hl:=AA dm;clear dm
  by_cases ay:k<m.length
  .have bN:(k:Int)<(m.length:Int):=by omega
   have fy:vs.length<=100:=by rw[Hl.out];omega
   have cK:=HR.out k ay;have TK:=AA (Cx (Jq ay));obtain⟨b,al,u,rfl,a0,D,hR⟩:=(HH.out.below ar) k ay;generalize AH m k=r at*;have f0:=AA (Aw.below hR (AE wr (.cells #[] 3)));obtain⟨_,_,rfl,_⟩:=hR.open;have HO:=AA hO;have bz:=AA ar;obtain⟨_,_,rfl,_⟩:=hO.1.rd.shape;clear hR hO ar;go_wp2_with (first|(at_builtin;refine NP rfl rfl underlying29 rfl (Ev wr) rfl f0.out (by omega) (AE wr (.cells #[] 3)).size ?_;intro u' w2 hu a8;have dN:=AA ((AE wr (.cells #[] 3)).trans a8);have Hu:=AA hu;obtain⟨ua,uc,rfl,_⟩:=(AF.rd hu).open;clear hu a8)|(at_builtin;go_must (refine Bc (lo:=w.heap.size) (n:=vs.length) (xs:=Ci GC vs) (m:=1) rfl rfl 29 (.slice none 0 0) 1 24 underlying23 Tryz.yX rfl (by decide) rfl ((HO.out.below dN.out).below (AE _ _)).1 rfl (Rd.zC _ #[_] _ 1 1 _ (by simp) rfl (by simp[maxLen])) (by simp[xD]) (by unfold maxLen;omega) (by omega) (by have h1:=bz.out.size;have h2:=dN.out.size;simp;omega) ?_;intro o' w3 g1 g2 g3 g4)));go_roundw
   case rel=>have a8:=dN.out.trans ((AE w2 (.cells #[.slice ua r.length uc] 29)).mono dN.out.size);have hP:=HO.out.push a8 bz.out.size (Hu.out.below (AE _ _)) g1 g2;exact⟨k+1,vs++[.slice ua r.length uc],by omega,by rw[yj,Hl.out];rfl,by go_num,by rw[TK.out];exact hP,(bz.out.trans (a8.mono bz.out.size)).trans g4⟩
   case measure=>simp[intOf];omega
  .obtain rfl:k=m.length:=by omega
   rw[xt] at hO;go_wp2_with fail;go_ret;exact⟨_,vs,rfl,hO,ar⟩
theorem Vw(w:World):Calls prog 189 #[] w λe w'=>∃v vs,e=.returned v/\Au w.heap.size w' v vs (xV 16 [])/\Below w.heap.size w w':=by
 go_in;go_wp2_with fail;go_loopw [1,2] (λo i wr=>∃k:Nat,∃vs:List Value,k<=16/\vs.length=k/\i=.int .i64 k/\Au w.heap.size wr o vs (xV k [])/\Below w.heap.size w wr) (λ_ i _=>16 - (intOf i).toNat)
 case atStart=>exact⟨0,[],by omega,rfl,rfl,⟨Cp _ _ _,Fh.nil,DG.nil⟩,AE _ _⟩
 case round=>
  obtain⟨k,vs,hk,dm,rfl,hO,ar⟩:=hrel;have Hl:=AA dm;clear dm
  by_cases ay:k<16
  .have fy:vs.length<=16:=by rw[Hl.out];omega
   have a8:=(AE wr (.cells #[] 3));have HO:=AA hO;have bz:=AA ar;obtain⟨_,_,rfl,_⟩:=hO.1.rd.shape;clear hO ar;go_wp2_with (at_builtin;go_must (refine Bc (lo:=w.heap.size) (n:=vs.length) (xs:=Ci GC vs) (m:=1) (news:=[.slice (some ⟨wr.heap.size,0,none⟩) 0 0]) rfl rfl 29 (.slice none 0 0) 1 24 underlying23 Tryz.yX rfl (by decide) rfl ((HO.out.below a8).below (AE _ _)).1 rfl (Rd.zC _ #[_] _ 1 1 _ (by simp) rfl (by simp[maxLen])) (by simp[xD]) (by unfold maxLen;omega) (by omega) (by have h1:=bz.out.size;have h2:=a8.size;simp;omega) ?_;intro o' w3 g1 g2 g3 g4));go_roundw
   case rel=>have e8:=a8.trans ((AE (wr.alloc (.cells #[] 3)) (.cells #[.slice (some ⟨wr.heap.size,0,none⟩) 0 0] 29)).mono a8.size);have hu:AF wr.heap.size (wr.alloc (.cells #[] 3)) (.slice (some ⟨wr.heap.size,0,none⟩) 0 0) []:=Ev wr;have hP:=HO.out.push e8 bz.out.size (hu.below (AE _ _)) g1 g2;exact⟨k+1,vs++[.slice (some ⟨wr.heap.size,0,none⟩) 0 0],by omega,by rw[yj,Hl.out];rfl,by go_num,by rw[List.replicate_succ'];exact hP,(bz.out.trans (e8.mono bz.out.size)).trans g4⟩
   case measure=>simp[intOf];omega
  .obtain rfl:k=16:=by omega
   go_wp2_with fail;go_ret;exact⟨_,vs,rfl,hO,ar⟩
theorem Wq{g:Nat}{a b d:Value}(h:w.heap[g]?=some (.cells #[a,b,c,d] T (0,0))):Rd w (.slice (some ⟨g,0,none⟩) 1 1) 4 1 [a,b,c,d]:=by
 obtain⟨h0,h1,h2,h3⟩:=AG h;refine⟨_,_,rfl,yt _,by simp[maxLen],rfl,nofun,λ_=>⟨g,0,rfl,λj hj=>?_⟩⟩;rw[uT]
 match j,hj with
 |0,_=>exact h0
 |1,_=>exact h1
 |2,_=>exact h2
 |3,_=>exact h3
 |_+4,hj=>exact absurd hj (by omega)
theorem ak{b al c sz:Nat}{xs:List Value}(h:Rd w (.slice (some ⟨b,al,none⟩) n c) sz n xs)(hk:k<=n):Rd w (.slice (some ⟨b,al+k*sz,none⟩) (n - k) (c - k)) sz (n - k) (xs.drop (k*sz)):=by
 obtain⟨ao,c',hv,ef,b7,hl,ck,hc⟩:=h;simp only[xH,true_and] at hv;obtain⟨rfl,rfl⟩:=hv;have gL:k*sz+(n - k)*sz=n*sz:=by rw[<-Nat.add_mul];congr 1;omega
 refine⟨_,_,rfl,by omega,by omega,by rw[wH];omega,(by intro e;cases e),λdD=>?_⟩;obtain⟨b',cx,e,bp⟩:=hc (by omega);obtain⟨rfl,rfl⟩:b=b'/\al=cx:=by simpa using e
 refine⟨_,_,rfl,λj hj=>?_⟩;rw[Nat.add_assoc,bp (k*sz+j) (by omega),tz]
theorem ZE{q b9:Nat}{F:List Al}(h:BD 4 Ag w (.slice (some ⟨q,0,none⟩) F.length b9) F)(h1:1<=F.length):BD 4 Ag w (.slice (some ⟨q,4,none⟩) (F.length - 1) (b9 - 1)) (F.drop 1):=by
 have r:=ak h (k:=1) h1;cases F with
 |nil=>simp at h1
 |cons y F=>exact r
theorem Rs(v:Value)(c:List Al)(x:Al)(w:World)(h:Dz w v c)(hl:c.length<=4):
 Calls prog 227 #[v,.agg #[.int .i64 x.e,.int .i64 x.p,.int .i64 x.f,.bool x.w]] w λr w'=>∃v',r=.returned v'/\AQ w.heap.size 112 4 Ag w' v' (My c x)/\Below w.heap.size w w':=by
 obtain⟨a,cp,rfl,hc,b7,H⟩:=BD.open Ch (by decide) h;have fT:c.length<=1000:=by omega
 unfold maxLen at b7;have HH:=AA H;obtain⟨N0,N1,aq,cJ⟩:=Jy w (.cells #[.int .i64 x.e,.int .i64 x.p,.int .i64 x.f,.bool x.w] 112) (.cells #[] 112);have o1:AQ (w.heap.size+1) 112 4 Ag ((w.alloc (.cells #[.int .i64 x.e,.int .i64 x.p,.int .i64 x.f,.bool x.w] 112)).alloc (.cells #[] 112)) (.slice (some ⟨w.heap.size+1,0,none⟩) 0 0) []:=by have:=By Ag (w.alloc (.cells #[.int .i64 x.e,.int .i64 x.p,.int .i64 x.f,.bool x.w] 112)) 112 4;simp only[xv] at this;exact this
 have gs:=AA hl;have PE:My c x=(if(c.filter λy=>!Bj x.e x.p y).length=4 then(c.filter λy=>!Bj x.e x.p y).drop 1 else c.filter λy=>!Bj x.e x.p y)++[x]:=rfl;have dP:=AA PE;clear h H hl PE cJ N1;go_in;go_wp2_with fail;generalize(w.alloc _).alloc _=wa at o1 aq N0 ⊢;generalize(xF (some ⟨w.heap.size+1,0,none⟩) 0 0)=o at o1 ⊢;go_loopw [5,6] (λo ix wr=>∃k:Nat,k<=c.length/\ix=.int .i64 k/\AQ (w.heap.size+1) 112 4 Ag wr o ((c.take k).filter λy=>!Bj x.e x.p y)/\Below w.heap.size w wr/\wr.heap[w.heap.size]?=some (.cells #[.int .i64 x.e,.int .i64 x.p,.int .i64 x.f,.bool x.w] 112 (0,0))) (λ_ ix _=>c.length - (intOf ix).toNat)
 case atStart=>exact⟨0,yh _,rfl,o1,aq,N0⟩
 case round=>
  clear o1 aq N0;obtain⟨k,hk,rfl,au,hb,hN⟩:=hrel
  by_cases ay:k<c.length
  .have bN:(k:Int)<(c.length:Int):=by omega
   obtain⟨b,al,rfl,a0,D0,D1,D2,D3⟩:=(HH.out.below hb).zL ay;have Nx:=AA (LE (p:=λy=>!Bj x.e x.p y) (Eo ay));have ee:=Ir (p:=λy=>!Bj x.e x.p y) (l:=c) (k:=k);generalize AT c k=y at D0 D1 D2 D3 Nx;generalize(c.take k).filter (λy=>!Bj x.e x.p y)=ys at au Nx ee;obtain⟨x0,x1,x2,x3⟩:=AG hN;have cu:=AW hN;have cZ:=AA au;have Hb:=AA hb;have HN:=AA hN;obtain⟨_,_,rfl,_⟩:=au.rd.shape;clear au hb hN
   by_cases e1:y.e=x.e
   .by_cases e2:y.p=x.p
    .skip
     have t1:(y.e !=x.e)=false:=by simp[e1]
     have t2:(y.p !=x.p)=false:=by simp[e2]
     have dv:=AA (show(c.take (k+1)).filter (λy=>!Bj x.e x.p y)=ys by rw[Nx.out];simp[Bj,e1,e2]);clear Nx e1 e2;go_wp2_with fail;refine AY 17 50 [.v (.slice (some ⟨b,al,none⟩) c.length cp),.i ((k:Int)),.p b (al+k*4),.p b (al+k*4),.i (y.e),.p w.heap.size 0,.i (x.e),.b false,.b false,.v (.slice (some ⟨b,al,none⟩) c.length cp),.i ((k:Int)),.p b (al+k*4),.p b (al+k*4+1),.i (y.p),.p w.heap.size 1,.i (x.p),.b false] (λ_ _ _=>True) ?_ ?_
     .intro i hi o ho a wx Hb Hd hG K HK
      have a6:=bc hG a0 D0;have a5:=bc hG cu x0;have bl:=bc hG a0 D1;have bA:=bc hG cu x1
      match i,hi with
      |0,_|1,_|3,_|5,_|8,_|9,_|10,_|12,_|14,_=>exact sP ho HK Hb Hd
      |2,_|11,_=>exact sI ho HK Hb Hd (hr:=by clear Hd Hb HK;go_simp)
      |4,_|6,_|13,_|15,_=>exact sL ho HK Hb Hd (hl:=Fp ‹_›)
      |7,_=>clear a6 a5 bl bA;obtain rfl:=yF ho;have d4:(a.tmps[18]?.getD undef)=.int .i64 (y.e):=BM Hd 4;have d6:(a.tmps[20]?.getD undef)=.int .i64 (x.e):=BM Hd 6;clear Hd Hb;refine yE ?_;go_simp;exact HK.out _ _ rfl (yD _ _)
      |16,_=>clear a6 a5 bl bA;obtain rfl:=yF ho;have fg:(a.tmps[27]?.getD undef)=.int .i64 (y.p):=BM Hd 13;have cO:(a.tmps[29]?.getD undef)=.int .i64 (x.p):=BM Hd 15;have d8:(a.tmps[22]?.getD undef)=.bool false:=BM Hd 8;clear Hd Hb;refine AV.yes rfl rfl d8 ?_;go_simp;exact HK.out _ _ rfl (yD _ _)
      |_+17,hq=>omega
     .intro vs wx hR hG
      have q8:(vs 8)=.bool false:=BW hR 8;have bC:(vs 16)=.bool false:=BW hR 16;clear hR;simp only[Aj,Ae,yC,yz,yy,yw,q8,bC];simp;clear q8 bC;go_wp2_with fail;go_roundw
      case rel=>exact⟨k+1,by omega,by go_num,by rw[dv.out];exact AQ.below cZ.out hG,Hb.out.trans (hG.mono Hb.out.size),AC HN.out hG⟩
      case measure=>simp[intOf];omega
    .skip
     have t1:(y.e !=x.e)=false:=by simp[e1]
     have t2:(y.p !=x.p)=true:=by simp[e2]
     have dv:=AA (show(c.take (k+1)).filter (λy=>!Bj x.e x.p y)=ys++[y] by rw[Nx.out];simp[Bj,e1,e2]);clear Nx e1 e2;go_wp2_with fail;refine AY 17 50 [.v (.slice (some ⟨b,al,none⟩) c.length cp),.i ((k:Int)),.p b (al+k*4),.p b (al+k*4),.i (y.e),.p w.heap.size 0,.i (x.e),.b false,.b false,.v (.slice (some ⟨b,al,none⟩) c.length cp),.i ((k:Int)),.p b (al+k*4),.p b (al+k*4+1),.i (y.p),.p w.heap.size 1,.i (x.p),.b true] (λ_ _ _=>True) ?_ ?_
     .intro i hi o ho a wx Hb Hd hG K HK
      have a6:=bc hG a0 D0;have a5:=bc hG cu x0;have bl:=bc hG a0 D1;have bA:=bc hG cu x1
      match i,hi with
      |0,_|1,_|3,_|5,_|8,_|9,_|10,_|12,_|14,_=>exact sP ho HK Hb Hd
      |2,_|11,_=>exact sI ho HK Hb Hd (hr:=by clear Hd Hb HK;go_simp)
      |4,_|6,_|13,_|15,_=>exact sL ho HK Hb Hd (hl:=Fp ‹_›)
      |7,_=>clear a6 a5 bl bA;obtain rfl:=yF ho;have d4:(a.tmps[18]?.getD undef)=.int .i64 (y.e):=BM Hd 4;have d6:(a.tmps[20]?.getD undef)=.int .i64 (x.e):=BM Hd 6;clear Hd Hb;refine yE ?_;go_simp;exact HK.out _ _ rfl (yD _ _)
      |16,_=>clear a6 a5 bl bA;obtain rfl:=yF ho;have fg:(a.tmps[27]?.getD undef)=.int .i64 (y.p):=BM Hd 13;have cO:(a.tmps[29]?.getD undef)=.int .i64 (x.p):=BM Hd 15;have d8:(a.tmps[22]?.getD undef)=.bool false:=BM Hd 8;clear Hd Hb;refine AV.yes rfl rfl d8 ?_;go_simp;exact HK.out _ _ rfl (yD _ _)
      |_+17,hq=>omega
     .intro vs wx hR hG
      have q8:(vs 8)=.bool false:=BW hR 8;have bC:(vs 16)=.bool true:=BW hR 16;clear hR;simp only[Aj,Ae,yC,yz,yy,yw,q8,bC];simp;clear q8 bC;have fp:=(hG.cell (p:=⟨b,al+k*4,none⟩) a0).trans D0;have gy:=(hG.cell (p:=⟨b,al+k*4+1,none⟩) a0).trans D1;have gx:=(hG.cell (p:=⟨b,al+k*4+2,none⟩) a0).trans D2;have gw:=(hG.cell (p:=⟨b,al+k*4+3,none⟩) a0).trans D3;have bu:=Hb.out.trans (hG.mono Hb.out.size);have dy:=AA (AQ.below cZ.out hG);have cT:=AC HN.out hG;clear D0 D1 D2 D3;go_wp2_with (at_builtin;go_must (refine Bc (lo:=w.heap.size+1) (n:=ys.length) (xs:=Ci Ag ys) (m:=1) (news:=[.int .i64 y.e,.int .i64 y.p,.int .i64 y.f,.bool y.w]) rfl rfl 112 (.agg #[.int .i64 0,.int .i64 0,.int .i64 0,.bool false]) 4 32 underlying26 Tryz.zF rfl (by decide) rfl (Co dy.out (AE _ _)) rfl (Rd.zC _ #[.int .i64 y.e,.int .i64 y.p,.int .i64 y.f,.bool y.w] _ 4 1 _ rfl (by simp) (by simp[maxLen])) (by simp[xD]) (by unfold maxLen;omega) (by omega) (by have:=bu.size;have:=AW cT;simp;omega) ?_;intro o' w9 k1 k2 k3 k4));go_roundw
      case rel=>exact⟨k+1,by omega,by go_num,by rw[dv.out];unfold AQ;rw[Bm,Er,yj];exact k1,(bu.alloc bu.size _).trans (k4.mono (wv _)),(k2.block w.heap.size (by have:=AW cT;simp;omega) (λe=>by have:=(dy.out.lt _ e.symm).1;omega)).trans (AC cT (AE _ _))⟩
      case measure=>simp[intOf];omega
   .skip
    have t1:(y.e !=x.e)=true:=by simp[e1]
    have dv:=AA (show(c.take (k+1)).filter (λy=>!Bj x.e x.p y)=ys++[y] by rw[Nx.out];simp[Bj,e1]);clear Nx e1;go_wp2_with fail;refine AY 17 50 [.v (.slice (some ⟨b,al,none⟩) c.length cp),.i ((k:Int)),.p b (al+k*4),.p b (al+k*4),.i (y.e),.p w.heap.size 0,.i (x.e),.b true,.b true,.u,.u,.u,.u,.u,.u,.u,.u] (λ_ _ _=>True) ?_ ?_
    .intro i hi o ho a wx Hb Hd hG K HK
     have a6:=bc hG a0 D0;have a5:=bc hG cu x0
     match i,hi with
     |0,_|1,_|3,_|5,_|8,_=>exact sP ho HK Hb Hd
     |2,_=>exact sI ho HK Hb Hd (hr:=by clear Hd Hb HK;go_simp)
     |4,_|6,_=>exact sL ho HK Hb Hd (hl:=Fp ‹_›)
     |9,_|10,_|11,_|12,_|13,_|14,_|15,_|16,_=>exact sB ho HK Hd
     |7,_=>clear a6 a5;obtain rfl:=yF ho;have d4:(a.tmps[18]?.getD undef)=.int .i64 (y.e):=BM Hd 4;have d6:(a.tmps[20]?.getD undef)=.int .i64 (x.e):=BM Hd 6;clear Hd Hb;refine yE ?_;go_simp;exact HK.out _ _ rfl (yD _ _)
     |_+17,hq=>omega
    .intro vs wx hR hG
     have q8:(vs 8)=.bool true:=BW hR 8;have bC:(vs 16)=undef:=BW hR 16;clear hR;simp only[Aj,Ae,yC,yz,yy,yw,q8,bC];simp;clear q8 bC;have fp:=(hG.cell (p:=⟨b,al+k*4,none⟩) a0).trans D0;have gy:=(hG.cell (p:=⟨b,al+k*4+1,none⟩) a0).trans D1;have gx:=(hG.cell (p:=⟨b,al+k*4+2,none⟩) a0).trans D2;have gw:=(hG.cell (p:=⟨b,al+k*4+3,none⟩) a0).trans D3;have bu:=Hb.out.trans (hG.mono Hb.out.size);have dy:=AA (AQ.below cZ.out hG);have cT:=AC HN.out hG;clear D0 D1 D2 D3;go_wp2_with (at_builtin;go_must (refine Bc (lo:=w.heap.size+1) (n:=ys.length) (xs:=Ci Ag ys) (m:=1) (news:=[.int .i64 y.e,.int .i64 y.p,.int .i64 y.f,.bool y.w]) rfl rfl 112 (.agg #[.int .i64 0,.int .i64 0,.int .i64 0,.bool false]) 4 32 underlying26 Tryz.zF rfl (by decide) rfl (Co dy.out (AE _ _)) rfl (Rd.zC _ #[.int .i64 y.e,.int .i64 y.p,.int .i64 y.f,.bool y.w] _ 4 1 _ rfl (by simp) (by simp[maxLen])) (by simp[xD]) (by unfold maxLen;omega) (by omega) (by have:=bu.size;have:=AW cT;simp;omega) ?_;intro o' w9 k1 k2 k3 k4));go_roundw
     case rel=>exact⟨k+1,by omega,by go_num,by rw[dv.out];unfold AQ;rw[Bm,Er,yj];exact k1,(bu.alloc bu.size _).trans (k4.mono (wv _)),(k2.block w.heap.size (by have:=AW cT;simp;omega) (λe=>by have:=(dy.out.lt _ e.symm).1;omega)).trans (AC cT (AE _ _))⟩
     case measure=>simp[intOf];omega
  .obtain rfl:k=c.length:=by omega
   rw[xt] at au;have cG:(c.filter λy=>!Bj x.e x.p y).length<=c.length:=List.length_filter_le ..;have fa:=dP.out;generalize(c.filter λy=>!Bj x.e x.p y)=F at*;have dP:=AA fa;clear fa;have gT:F.length<=4:=by have:=gs.out;omega
   obtain⟨x0,x1,x2,x3⟩:=AG hN;have cu:=AW hN;have HO:=AA au
   by_cases h4:F.length=4
   focus
    have P:=AA (show My c x=F.drop 1++[x] by rw[dP.out,if_pos h4])
    obtain⟨q,b9,rfl,c1,c2,q1,q2,cg⟩:=au.zM (by omega);unfold maxLen at c2;have gU:(4:Int)<=F.length:=by omega
    have H4:=AA h4;clear h4 au;go_wp2_with fail;have RG:=AA (ZE (AQ.rd HO.out) (by have:=H4.out;omega));have f1:(F.drop 1).length<=3:=by rw[wH];have:=H4.out;omega
    generalize F.drop 1=G at*;generalize(xF (some ⟨q,4,none⟩) (F.length - 1) (b9 - 1))=u5 at RG ⊢;clear HO
   rotate_left
   focus
    have P:=AA (show My c x=F++[x] by rw[dP.out,if_neg h4])
    obtain⟨_,_,e5,_,_⟩:=au.rd.shape;have fA:¬(4:Int)<=F.length:=by omega
    have RG:=AA au.rd;have f1:F.length<=3:=by omega
    clear h4 HO;cases e5;clear au;go_wp2_with fail;generalize F=G at*;generalize(xF _ G.length _)=u5 at RG ⊢
   rotate_left
   all_goals
    refine BN 5 50 [.z,.v u5,.z,.a #[.int .i64 (x.e),.int .i64 (x.p),.int .i64 (x.f),.bool (x.w)],.z] (λix vv ww=>match ix with
     |0=>∃g,vv=.slice (some ⟨g,0,none⟩) 0 0/\wr.heap.size<=g/\ww.heap[g]?=some (.cells #[] 112 (0,0))
     |2=>AQ wr.heap.size 112 4 Ag ww vv G
     |4=>∃g,vv=.slice (some ⟨g,0,none⟩) 1 1/\wr.heap.size<=g/\ww.heap[g]?=some (.cells #[.int .i64 x.e,.int .i64 x.p,.int .i64 x.f,.bool x.w] 112 (0,0))
     |_=>True) ?_ ?_ ?_
    .intro i hi o ho a wx Hb Hd hG K HK
     match i,hi with
     |1,_=>exact sP ho HK Hb Hd
     |3,_=>exact sL ho HK Hb Hd (hl:=Ul (bc hG cu x0) (bc hG cu x1) (bc hG cu x2) (bc hG cu x3))
     |0,_=>obtain rfl:=yF ho;clear Hd Hb;refine yE ?_;go_simp;exact HK.out _ _ ⟨_,rfl,hG.size,yv _ _⟩ (AE _ _)
     |2,_=>
      obtain rfl:=yF ho;have d0:∃g,(a.tmps[44]?.getD undef)=.slice (some ⟨g,0,none⟩) 0 0/\wr.heap.size<=g/\wx.heap[g]?=some (.cells #[] 112 (0,0)):=BM Hd 0
      have d1:(a.tmps[45]?.getD undef)=u5:=BM Hd 1;clear Hd Hb;refine yE ?_;obtain⟨g,cY,cX,cW⟩:=d0;obtain⟨v7,w4,bK,r1,r2,_⟩:=DZ (lo:=wr.heap.size) (w:=wx) (t:=26) (ty:=26) 112 _ 4 32 underlying26 Tryz.zF rfl (by decide) cW cX (BD.below RG.out hG) (Jo _) (by omega);refine Cr rfl (Bl cY) (Bl d1) bK ?_;exact HK.out _ _ r1 r2
     |4,_=>obtain rfl:=yF ho;have d3:(a.tmps[47]?.getD undef)=.agg #[.int .i64 (x.e),.int .i64 (x.p),.int .i64 (x.f),.bool (x.w)]:=BM Hd 3;clear Hd Hb;refine yE ?_;go_simp;exact HK.out _ _ ⟨_,rfl,hG.size,yv _ _⟩ (AE _ _)
    .intro i hi vv wz df bt hz
     match i,hi with
     |0,_|4,_=>exact(by obtain⟨g,h0,h1,h2⟩:=hz;exact⟨g,h0,h1,AC h2 bt⟩)
     |2,_=>exact(AQ.below hz bt)
     |1,_|3,_=>exact hz
    .intro vs wx hR hG
     have q2:AQ wr.heap.size 112 4 Ag wx (vs 2) G:=BW hR 2;have q4:∃g,(vs 4)=.slice (some ⟨g,0,none⟩) 1 1/\wr.heap.size<=g/\wx.heap[g]?=some (.cells #[.int .i64 x.e,.int .i64 x.p,.int .i64 x.f,.bool x.w] 112 (0,0)):=BW hR 4
     clear hR;simp only[Aj,Ae,yC,yz,yy,yw];simp;generalize vs 2=z2 at q2 ⊢;generalize vs 4=z4 at q4 ⊢;obtain⟨g4,rfl,_,q4⟩:=q4;have Q2:=AA q2;have Q4:=AA (Wq q4);have bu:=hb.trans (hG.mono hb.size);have fI:=hG.size;obtain⟨_,_,rfl,_⟩:=q2.rd.shape;clear q2 q4 x0 x1 x2 x3;go_wp2_with (at_builtin;go_must (refine Bc (lo:=wr.heap.size) (n:=G.length) (xs:=Ci Ag G) (m:=1) (news:=[.int .i64 x.e,.int .i64 x.p,.int .i64 x.f,.bool x.w]) rfl rfl 112 (.agg #[.int .i64 0,.int .i64 0,.int .i64 0,.bool false]) 4 32 underlying26 Tryz.zF rfl (by decide) rfl Q2.out rfl Q4.out (by simp[xD]) (by unfold maxLen;omega) (by omega) fI ?_;intro o' w9 k1 k2 k3 k4));go_ret;exact⟨_,rfl,by rw[P.out];unfold AQ;rw[Bm,Er,yj];exact BO k1 hb.size,bu.trans (k4.mono hb.size)⟩
theorem JT{g:Nat}{a b d e f:Value}(h:w.heap[g]?=some (.cells #[a,b,c,d,e,f] T (0,0))):w.cell? ⟨g,0,none⟩=some a/\w.cell? ⟨g,1,none⟩=some b/\w.cell? ⟨g,2,none⟩=some c/\w.cell? ⟨g,3,none⟩=some d/\w.cell? ⟨g,4,none⟩=some e/\w.cell? ⟨g,5,none⟩=some f:=
 ⟨yi _ _ 0 _ _ _ h,yi _ _ 1 _ _ _ h,yi _ _ 2 _ _ _ h,yi _ _ 3 _ _ _ h,yi _ _ 4 _ _ _ h,yi _ _ 5 _ _ _ h⟩
theorem KU(m iv ev cv:Value)(k:AN)(kk e a b c:Int)(nm:ByteArray)(kind:Int)(w:World)(h:Ma w m iv ev cv k)(hk:DJ k)(he:0<=e/\e<3)(dn:kind=0∨kind=1):
 Calls prog 219 #[.agg #[m,iv,ev,cv],.agg #[.int .i64 kk,.int .i64 e,.int .i64 a,.int .i64 b,.int .i64 c,.string nm],.int .i64 kind] w λr w'=>r=.returned (.int .i64 (Bx k ⟨kk,e,a,b,c,nm⟩ kind))/\Below w.heap.size w w':=by
 obtain⟨N0,N1,aq,cJ⟩:=Jy w (.cells #[m,iv,ev,cv] 28) (.cells #[.int .i64 kk,.int .i64 e,.int .i64 a,.int .i64 b,.int .i64 c,.string nm] 55);obtain⟨x0,x1,x2,x3⟩:=AG N0;obtain⟨y0,y1,y2,y3,y4,y5⟩:=JT N1;have cw:=AW N0;have cL:=AW N1
 by_cases ha:Be a 0 11=true
 .obtain⟨an,rfl⟩:∃an:Nat,a=(an:Int):=⟨a.toNat,by have:=(Ab.1 ha).1;omega⟩
  obtain⟨en,rfl⟩:∃en:Nat,e=(en:Int):=⟨e.toNat,by omega⟩
  have eA:an<12:=by have:=(Ab.1 ha).2;omega
  have cM:en<3:=by omega
  have hl:=(Az.1 (At hk).2.1).1;have FC:=AA (show Bx k ⟨kk,(en:Int),(an:Int),b,c,nm⟩ kind=if(zS k.zZ an).k=0 then 3 else if Bv (AJ k.zX en).zT (zS k.zZ an).g=false then 1
   else if(0<kind/\(zS k.zZ an).k≠kind)∨(kind=0/\Bd (zS k.zZ an).k=false) then 3 else 0 by unfold Bx;simp[ha])
  have eV:=CJ (At hk).2.1 _ (ye (Cj (show an<k.zZ.length by omega)));have CM:=AA (λW (hW:Below _ _ W)=>JY m iv ev cv k en (zS k.zZ an).g W ((h.2.2.1.below aq).below hW) hk cM eV);obtain⟨ai,ci,rfl,_,_,HI⟩:=BD.open Ay (by decide) (BD.below h.2.1 aq);obtain⟨bi,ab,rfl,a3,D0,D1,_⟩:=HI.zP (show an<k.zZ.length by omega);have gS:(an:Int)<k.zZ.length:=by omega
  have HA:=AA ha;have da:¬(an:Int)<0:=by omega
  clear h hk N0 N1 HI ha hl eV he;generalize hW0:(w.alloc _).alloc _=W0 at x0 x1 x2 x3 y0 y1 y2 y3 y4 y5 D0 D1 cw cL a3 CM aq;generalize(zS k.zZ an).g=gd at D1 CM FC;generalize(zS k.zZ an).k=kd at D0 FC;generalize Bv (AJ k.zX en).zT gd=mb at CM FC
  by_cases e0:kd=0
  .have t0:(kd==0)=true:=by simp[e0]
   have R:=AA (show Bx k ⟨kk,(en:Int),(an:Int),b,c,nm⟩ kind=3 by rw[FC.out,if_pos e0]);clear e0;go_in;go_wp2_with fail;refine(D6 _ _).mono ?_;rintro r w2 ⟨rfl,rfl⟩;rw[HA.out];go_wp2_with fail;go_ret;exact⟨Cb R.out.symm,aq⟩
  .have t0:(kd==0)=false:=by simp[e0]
   have dS:=AA (show Bx k ⟨kk,(en:Int),(an:Int),b,c,nm⟩ kind=if mb=false then 1
    else if(0<kind/\kd≠kind)∨(kind=0/\Bd kd=false) then 3 else 0 by rw[FC.out,if_neg e0])
   clear e0 FC;go_in;go_wp2_with fail;refine(D6 _ _).mono ?_;rintro r w2 ⟨rfl,rfl⟩;rw[HA.out];go_wp2_with fail;refine AY 11 64 [.a #[m,.slice (some ⟨bi,ab,none⟩) k.zZ.length ci,ev,cv],.p (w.heap.size+1) 1,.i ((en:Int)),.p w.heap.size 1,.v (.slice (some ⟨bi,ab,none⟩) k.zZ.length ci),.p (w.heap.size+1) 2,.i ((an:Int)),.p bi (ab+an*3),.p bi (ab+an*3+1),.t gd,.b mb] (λ_ _ _=>True) ?_ ?_
   .intro i hi o ho a wx Hb Hd hG K HK
    have a6:=bc hG cw x0;have a5:=bc hG cw x1;have bl:=bc hG cw x2;have bA:=bc hG cw x3;have gE:=bc hG cL y1;have dX:=bc hG cL y2;have gD:=bc hG a3 D1
    match i,hi with
    |0,_=>exact sL ho HK Hb Hd (hl:=Np ‹_› ‹_› ‹_› ‹_›)
    |1,_|3,_|5,_|8,_=>exact sP ho HK Hb Hd
    |2,_|6,_=>exact sL ho HK Hb Hd (hl:=Fp ‹_›)
    |4,_=>exact sL ho HK Hb Hd (hl:=F8 ‹_›)
    |7,_=>exact sI ho HK Hb Hd (hr:=by clear Hd Hb HK;go_simp)
    |9,_=>exact sL ho HK Hb Hd (hl:=Yu ‹_›)
    |10,_=>exact sD ho HK Hb Hd (CM.out _ hG)
   .intro vs wx hR hG
    have eT:(vs 10)=.bool mb:=BW hR 10;clear hR;simp only[Aj,Ae,yC,yz,yy,yw,eT];simp;clear eT;have fp:=(hG.cell (p:=⟨bi,ab+an*3,none⟩) a3).trans D0;have gz:=(hG.cell (p:=⟨w.heap.size,1,none⟩) cw).trans x1;have eP:=(hG.cell (p:=⟨w.heap.size+1,2,none⟩) cL).trans y2;have bu:=aq.trans (hG.mono aq.size);clear D0 D1 x0 x1 x2 x3 y0 y1 y2 y3 y4 y5 hG CM;cases mb
    .have R:=AA (show Bx k ⟨kk,(en:Int),(an:Int),b,c,nm⟩ kind=1 by rw[dS.out];rfl)
     go_wp2_with fail;go_ret;exact⟨Cb R.out.symm,bu⟩
    .rcases dn with rfl|rfl
     .have R:=AA (show Bx k ⟨kk,(en:Int),(an:Int),b,c,nm⟩ 0=if Bd kd=false then 3 else 0 by rw[dS.out];simp)
      go_wp2_with fail;refine(FY _ _).mono ?_;rintro r w2 ⟨rfl,rfl⟩;generalize Bd kd=tb at R;cases tb
      .go_wp2_with fail
       go_ret;exact⟨Cb R.out.symm,bu⟩
      .go_wp2_with fail
       go_ret;exact⟨Cb R.out.symm,bu⟩
     .by_cases e1:kd=1
      .have t1:(kd !=1)=false:=by simp[e1]
       have R:=AA (show Bx k ⟨kk,(en:Int),(an:Int),b,c,nm⟩ 1=0 by rw[dS.out];simp[e1]);clear e1;go_wp2_with fail;go_ret;exact⟨Cb R.out.symm,bu⟩
      .have t1:(kd !=1)=true:=by simp[e1]
       have R:=AA (show Bx k ⟨kk,(en:Int),(an:Int),b,c,nm⟩ 1=3 by rw[dS.out];simp[e1]);clear e1;go_wp2_with fail;go_ret;exact⟨Cb R.out.symm,bu⟩
 .have eC:Be a 0 11=false:=by simpa using ha
  have R:=AA (show Bx k ⟨kk,e,a,b,c,nm⟩ kind=3 by unfold Bx;simp[eC]);have HA:=AA eC;clear ha eC h hk;go_in;go_wp2_with fail;refine(D6 _ _).mono ?_;rintro r w2 ⟨rfl,rfl⟩;rw[HA.out];go_wp2_with fail;go_ret;exact⟨Cb R.out.symm,aq⟩
def MI(w0:World)(g:Nat)(m i e c:Value)(k:AN)(qs:List (Value×Int))(wr:World):Prop:=
 wr.heap[g]?=some (.cells #[m,i,e,c] 28 (0,0))/\(∃vs,Au w0.heap.size wr m vs k.mem)/\AQ w0.heap.size 92 3 A2 wr i k.zZ/\DA w0.heap.size wr e qs (k.zX.take qs.length)/\AQ w0.heap.size 112 4 Ag wr c k.zW/\Below w0.heap.size w0 wr/\w0.heap.size<=g
def Ko(lo:Nat)(T:Nat)(W:World)(V:Value):Prop:=∃g,V=.slice (some ⟨g,0,none⟩) 0 0/\lo<=g/\W.heap[g]?=some (.cells #[] T (0,0))
theorem Ko.below{W W':World}{V:Value}(h:Ko lo T W V)(hb:Below W.heap.size W W'):Ko lo T W' V:=by obtain⟨g,h0,h1,h2⟩:=h;exact⟨g,h0,h1,AC h2 hb⟩
def VH(lo:Nat)(r:Int)(ts:List ByteArray)(W:World)(V:Value):Prop:=∃u,V=.agg #[u,.int .i64 r]/\AQ lo 9 1 BB W u ts
theorem VH.below{r:Int}{ts:List ByteArray}{W W':World}{V:Value}(h:VH lo r ts W V)(hb:Below W.heap.size W W'):VH lo r ts W' V:=by obtain⟨u,h0,h1⟩:=h;exact⟨u,h0,h1.below hb⟩
def Wv(lo:Nat)(r:Int)(ts:List ByteArray)(W:World)(V:Value):Prop:=∃g u,V=.slice (some ⟨g,0,none⟩) 1 1/\lo<=g/\W.heap[g]?=some (.cells #[u,.int .i64 r] 74 (0,0))/\AQ lo 9 1 BB W u ts
theorem Wv.below{r:Int}{ts:List ByteArray}{W W':World}{V:Value}(h:Wv lo r ts W V)(hb:Below W.heap.size W W'):Wv lo r ts W' V:=by obtain⟨g,u,h0,h1,h2,h3⟩:=h;exact⟨g,u,h0,h1,AC h2 hb,h3.below hb⟩
theorem Z1{g:Nat}{a b:Value}(h:w.heap[g]?=some (.cells #[a,b] T (0,0))):Rd w (.slice (some ⟨g,0,none⟩) 1 1) 2 1 [a,b]:=by
 have h0:=yi _ _ 0 _ _ _ h;have h1:=yi _ _ 1 _ _ _ h;refine⟨_,_,rfl,yt _,by simp[maxLen],rfl,nofun,λ_=>⟨g,0,rfl,λj hj=>?_⟩⟩;rw[uT]
 match j,hj with
 |0,_=>exact h0
 |1,_=>exact h1
 |_+2,hj=>exact absurd hj (by omega)
def IC(lo:Nat)(w:World)(v:Value)(k:AN):Prop:=∃m i e c,v=.agg #[m,i,e,c]/\(∃vs,Au lo w m vs k.mem)/\AQ lo 92 3 A2 w i k.zZ/\DA lo w e [] []/\AQ lo 112 4 Ag w c k.zW
theorem IC.below{w':World}{v:Value}{k:AN}(h:IC lo w v k)(hb:Below w.heap.size w w'):IC lo w' v k:=by obtain⟨m,i,e,c,h0,⟨vs,h1⟩,h2,h3,h4⟩:=h;exact⟨m,i,e,c,h0,⟨vs,h1.below hb⟩,h2.below hb,h3.below hb,h4.below hb⟩
def aQ(w:World)(row:Option Nat):Prop:=∀q,row=some q->∃dJ,w.heap[q]?=some (.cells dJ 74 (0,0))
theorem ap{row:Option Nat}{v:Value}{vs:List Value}{eQ:List (List Int)}(o:Au lo w1 v vs eQ)(h2:w1.grownBy w2 row)(hr:aQ w1 row):Au lo w2 v vs eQ:=by
 cases row with
 |none=>exact o.below (Below.zu h2)
 |some q=>obtain⟨dJ,hc⟩:=hr q rfl;exact o.yL h2 hc
theorem aK{α:Type}{e sz:Nat}{cs:α->List Value}{row:Option Nat}{v:Value}{xs:List α}(o:AQ lo e sz cs w1 v xs)(h2:w1.grownBy w2 row)(hr:aQ w1 row)(he:e≠74):AQ lo e sz cs w2 v xs:=by
 cases row with
 |none=>exact o.below (Below.zu h2)
 |some q=>obtain⟨dJ,hc⟩:=hr q rfl;exact o.yL h2 hc he
theorem MI.yK{w0:World}{g:Nat}{m i e:Value}{k:AN}{qs:List (Value×Int)}{wr:World}(h:MI w0 g m i e c k qs wr)(hb:Below wr.heap.size wr w1)(h2:w1.grownBy w2 e.ownBlock):w2.heap[g]?=some (.cells #[m,i,e,c] 28 (0,0)):=by
 have eF:=AC h.1 hb;exact(h2.block g (AW eF) λe'=>Dg (h.2.2.2.1.1.below hb) eF (by decide) e'.symm).trans eF
theorem MI.step{w0:World}{g:Nat}{m i ev u v':Value}{k:AN}{qs:List (Value×Int)}{wr:World}{e:EU}(h:MI w0 g m i ev c k qs wr)(hb:Below wr.heap.size wr w1)(hu:AQ wr.heap.size 9 1 BB w1 u e.zT)(he:k.zX[qs.length]?=some e)
 (h1:w2.ownsRow w0.heap.size 74 2 v' (qs.length+1) (Ci Ec qs++[u,.int .i64 e.root]))(h2:w1.grownBy w2 ev.ownBlock):MI w0 g m i v' c k (qs++[(u,e.root)]) (w2.setCell ⟨g,2,none⟩ v'):=by
 have ds:=h.yK hb h2;obtain⟨hB,⟨vs,o1⟩,o2,o3,o4,b8,hg⟩:=h;have P:=DA.push o3 hb b8.size (yt _) hu h1 h2;have hr:aQ w1 ev.ownBlock:=λq hq=>A6 (o3.1.below hb) q hq
 have cf:=Aq w2 g 2 v';have ht:k.zX.take (qs++[(u,e.root)]).length=k.zX.take qs.length++[⟨e.zT,e.root⟩]:=by rw[yj,xM,Cx he]
 refine⟨?_,⟨vs,(ap (o1.below hb) h2 hr).yL cf ds⟩,(aK (o2.below hb) h2 hr (by decide)).yL cf ds,?_,(aK (o4.below hb) h2 hr (by decide)).yL cf ds,?_,hg⟩
 .have:=heap_setCell_same w2 g 2 _ 28 v' ds
  simpa using this
 .rw[ht]
  exact P.yL cf ds
 .exact((b8.trans (hb.mono b8.size)).grown h2 (b8.trans (hb.mono b8.size)).size (λq hq=>((o3.1.below hb).lt q hq).1)).setCell hg _
theorem LH(m i e c:Value)(k:AN)(w:World)(h:Ma w m i e c k)(hk:DJ k):Calls prog 93 #[.agg #[m,i,e,c]] w (Ol w k):=by
 obtain⟨h1,h2,h3,h4⟩:=h;have ct:=(Ai.1 (At hk).1).1;have dE:=(Az.1 (At hk).2.1).1;have fQ:k.zW.length<=4:=by have:=hk.zW;simp only[BT,yp,decide_eq_true_eq] at this;exact this.2
 have cK:∀f,f<k.mem.length->(AH k.mem f).length<=100:=λf hf=>by have:=(A3.1 ((Ai.1 (At hk).1).2 f (by omega))).1;omega
 obtain⟨N0,N1,aq,cJ⟩:=Jy w (.cells #[m,i,e,c] 28) (.cells #[.slice none 0 0,.slice none 0 0,.slice none 0 0,.slice none 0 0] 28);obtain⟨x0,x1,x2,x3⟩:=AG N0;have b6:=AW N0;have C1:=AA (λW (hW:Below _ _ W)=>MS m k.mem W ((h1.below aq).below hW) (by omega) cK);have RI:=AA (BD.below h2 aq);have RC:=AA (BD.below h4 aq);obtain⟨am,cm,rfl,_⟩:=h1.open;obtain⟨ai,ci,rfl,_,_⟩:=h2.shape;obtain⟨ae,ce,rfl,gQ,fS,fn⟩:=(h3.below aq).open;obtain⟨ac,cc,rfl,_,_⟩:=h4.shape;have HE:=AA fn;have Hk:=AA hk;have gh:=AA hk.zN;have fH:k.zZ.length<=100:=by omega
 generalize hW0:(w.alloc _).alloc _=W0 at*;clear h1 h2 h3 h4 hk ct dE cK fn;go_in;go_wp2_with fail;refine BN 14 46 [.p w.heap.size 0,.v (.slice am k.mem.length cm),.z,.z,.p w.heap.size 1,.v (.slice ai k.zZ.length ci),.z,.z,.z,.p w.heap.size 3,.v (.slice ac k.zW.length cc),.z,.z,.z] (λix vv ww=>match ix with
  |2=>∃cd,Au W0.heap.size ww vv cd k.mem
  |3=>Ko W0.heap.size 92 ww vv
  |6=>AQ W0.heap.size 92 3 A2 ww vv k.zZ
  |7=>DA W0.heap.size ww vv [] []
  |8=>Ko W0.heap.size 112 ww vv
  |11=>AQ W0.heap.size 112 4 Ag ww vv k.zW
  |12=>IC W0.heap.size ww vv k
  |13=>KK W0.heap.size ww vv
  |_=>True) ?_ ?_ ?_
 .intro i hi o ho a wx Hb Hd hG K HK
  match i,hi with
  |0,_|4,_|9,_=>exact sP ho HK Hb Hd
  |1,_=>exact sL ho HK Hb Hd (hl:=GT (bc hG b6 x0))
  |2,_=>exact sC ho HK Hb Hd (C1.out _ hG) (by rintro e w_ ⟨v',cd,rfl,hO,a8⟩;exact⟨_,rfl,⟨cd,hO.lower hG.size⟩,a8⟩)
  |5,_=>exact sL ho HK Hb Hd (hl:=F8 (bc hG b6 x1))
  |10,_=>exact sL ho HK Hb Hd (hl:=Zp (bc hG b6 x3))
  |3,_|8,_=>obtain rfl:=yF ho;clear Hd Hb;refine yE ?_;go_simp;exact HK.out _ _ ⟨_,rfl,hG.size,yv _ _⟩ (AE _ _)
  |6,_=>obtain rfl:=yF ho;have d3:Ko W0.heap.size 92 wx (a.tmps[8]?.getD undef):=BM Hd 3;have d5:(a.tmps[10]?.getD undef)=.slice ai k.zZ.length ci:=BM Hd 5;clear Hd Hb;refine yE ?_;obtain⟨g_,cY,cX,cW⟩:=d3;obtain⟨v7,w4,bK,r1,r2,_⟩:=DZ (lo:=W0.heap.size) (w:=wx) (t:=24) (ty:=24) 92 _ 3 32 underlying24 Tryz.zE rfl (by decide) cW cX (BD.below RI.out hG) (Ez _) (by omega);refine Cr rfl (Bl cY) (Bl d5) bK ?_;exact HK.out _ _ r1 r2
  |7,_=>obtain rfl:=yF ho;clear Hd Hb;refine yE ?_;go_simp;exact HK.out _ _ ⟨AQ.lower (By Ec _ _ _) hG.size,Fh.nil,DG.nil⟩ (AE _ _)
  |11,_=>obtain rfl:=yF ho;have d8:Ko W0.heap.size 112 wx (a.tmps[13]?.getD undef):=BM Hd 8;have f3:(a.tmps[15]?.getD undef)=.slice ac k.zW.length cc:=BM Hd 10;clear Hd Hb;refine yE ?_;obtain⟨g_,cY,cX,cW⟩:=d8;obtain⟨v7,w4,bK,r1,r2,_⟩:=DZ (lo:=W0.heap.size) (w:=wx) (t:=26) (ty:=26) 112 _ 4 32 underlying26 Tryz.zF rfl (by decide) cW cX (BD.below RC.out hG) (Jo _) (by omega);refine Cr rfl (Bl cY) (Bl f3) bK ?_;exact HK.out _ _ r1 r2
  |12,_=>
   obtain rfl:=yF ho;have d2:∃cd,Au W0.heap.size wx (a.tmps[7]?.getD undef) cd k.mem:=BM Hd 2
   have d6:AQ W0.heap.size 92 3 A2 wx (a.tmps[11]?.getD undef) k.zZ:=BM Hd 6;have d7:DA W0.heap.size wx (a.tmps[12]?.getD undef) [] []:=BM Hd 7;have cV:AQ W0.heap.size 112 4 Ag wx (a.tmps[16]?.getD undef) k.zW:=BM Hd 11;clear Hd Hb;generalize e7:a.tmps[7]?.getD undef=m' at d2;generalize e11:a.tmps[11]?.getD undef=i' at d6;generalize e12:a.tmps[12]?.getD undef=e' at d7;generalize e16:a.tmps[16]?.getD undef=c' at cV;have W:Hid (IC W0.heap.size wx (.agg #[m',i',e',c']) k):=AA ⟨m',i',e',c',rfl,d2,d6,d7,cV⟩;obtain⟨_,d2⟩:=d2;obtain⟨_,_,rfl,_,_⟩:=d2.1.rd.shape;obtain⟨_,_,rfl,_,_⟩:=d6.rd.shape;obtain⟨_,_,rfl,_,_⟩:=d7.1.rd.shape;obtain⟨_,_,rfl,_,_⟩:=cV.rd.shape;clear d2 d6 d7 cV;refine yE ?_;go_simp;exact HK.out _ _ W.out (yD _ _)
  |13,_=>obtain rfl:=yF ho;clear Hd Hb;refine yE ?_;go_simp;exact HK.out _ _ ⟨_,rfl,hG.size,yv _ _⟩ (AE _ _)
 .intro i hi vv wz df bt hz
  match i,hi with
  |2,_=>exact(by obtain⟨cd,h'⟩:=hz;exact⟨cd,h'.below bt⟩)
  |3,_|8,_=>exact(Ko.below hz bt)
  |6,_|11,_=>exact(AQ.below hz bt)
  |7,_=>exact(DA.below hz bt)
  |12,_=>exact(IC.below hz bt)
  |13,_=>exact(KK.below hz bt)
  |0,_|1,_|4,_|5,_|9,_|10,_=>exact hz
 .intro vs wx hR hG
  have dh:IC W0.heap.size wx (vs 12) k:=BW hR 12;have dA:KK W0.heap.size wx (vs 13):=BW hR 13;obtain⟨g,dA,hg,hB⟩:=dA;clear hR;simp only[Aj,Ae,yC,yz,yy,yw,dA];simp;generalize vs 12=z12 at dh ⊢;clear dA;obtain⟨m',i',e',c',rfl,⟨cd,o1⟩,o2,o3,o4⟩:=dh;have cf:=An (An (An (Aq wx g 0 m') 1 i') 2 e') 3 c';have St:MI W0 g m' i' e' c' k [] ((((wx.setCell ⟨g,0,none⟩ m').setCell ⟨g,1,none⟩ i').setCell ⟨g,2,none⟩ e').setCell ⟨g,3,none⟩ c'):=
   ⟨Cs hB,⟨cd,o1.yL cf hB⟩,o2.yL cf hB,o3.yL cf hB,o4.yL cf hB,(((hG.setCell hg _).setCell hg _).setCell hg _).setCell hg _,hg⟩
  obtain⟨pa,pc,rfl,_,_⟩:=o1.1.rd.shape;obtain⟨qa,qc,rfl,_,_⟩:=o2.rd.shape;obtain⟨ea,ec,fe,_,_⟩:=o3.1.rd.shape;rw[List.length_nil] at fe;subst fe;obtain⟨ra,rc,rfl,_,_⟩:=o4.rd.shape;obtain⟨b0,b1,b2,b3⟩:=AG hB;have cg:=AK hB;have gr:=AA N0;have gq:=AA N1;have gf:=AA hW0;have f7:=AA cJ;clear o1 o2 o3 o4 hG hB cf x0 x1 x2 x3 N0 N1 hW0 cJ RI RC C1;go_wp2_with fail;clear b0 b1 b2 b3 cg;go_loopw [4] (λix wr=>∃(qs:List (Value×Int)) (ev:Value),qs.length<=3/\ix=.int .i64 qs.length/\MI W0 g (.slice pa cd.length pc) (.slice qa k.zZ.length qc) ev (.slice ra k.zW.length rc) k qs wr) (λix _=>3 - (intOf ix).toNat)
  case atStart=>exact⟨[],_,by simp,rfl,St⟩
  case round=>
   clear St;obtain⟨qs,ev,hq,rfl,St⟩:=hrel;have c4:=gh.out;have dB:=(AG ((St.2.2.2.2.2.1.block _ b6).trans gr.out)).2.2.1;have dl:=xX b6 St.2.2.2.2.2.1.size;have y2:=(AG St.1).2.2.1;have cQ:=AW St.1;obtain⟨ea,ec,rfl,gO,fO⟩:=St.2.2.2.1.1.rd.shape
   by_cases ay:qs.length<3
   .have eW:qs.length<k.zX.length:=by omega
    obtain⟨be,bs,ua,uc,rfl,cF,D0,D1,hR⟩:=(HE.out.below (St.2.2.2.2.2.1)) qs.length eW;have bN:(qs.length:Int)<k.zX.length:=by omega
    have RS:=AA hR;have gG:=Pe Hk.out ay;have dO:=AA St;have gg:=AA c4;have eR:=dB;clear St hR c4 dB;go_wp2_with fail;refine BN 18 46 [.p g 2,.v (.slice ea qs.length ec),.z,.p w.heap.size 2,.v (.slice (some ⟨be,bs,none⟩) k.zX.length ce),.i ((qs.length:Int)),.p be (bs+qs.length*2),.p be (bs+qs.length*2),.v (.slice ua (AJ k.zX qs.length).zT.length uc),.z,.p w.heap.size 2,.v (.slice (some ⟨be,bs,none⟩) k.zX.length ce),.i ((qs.length:Int)),.p be (bs+qs.length*2),.p be (bs+qs.length*2+1),.i ((AJ k.zX qs.length).root),.z,.z] (λix vv ww=>match ix with
     |2=>Ko wr.heap.size 9 ww vv
     |9=>AQ wr.heap.size 9 1 BB ww vv (AJ k.zX qs.length).zT
     |16=>VH wr.heap.size (AJ k.zX qs.length).root (AJ k.zX qs.length).zT ww vv
     |17=>Wv wr.heap.size (AJ k.zX qs.length).root (AJ k.zX qs.length).zT ww vv
     |_=>True) ?_ ?_ ?_
    .intro i hi o ho a wx Hb Hd hG K HK
     have a6:=bc hG cQ y2;have a5:=bc hG dl eR;have bl:=bc hG cF D0;have bA:=bc hG cF D1
     match i,hi with
     |0,_|3,_|5,_|7,_|10,_|12,_|14,_=>exact sP ho HK Hb Hd
     |1,_|4,_|11,_=>exact sL ho HK Hb Hd (hl:=No ‹_›)
     |6,_|13,_=>exact sI ho HK Hb Hd (hr:=by clear Hd Hb HK;go_simp)
     |8,_=>exact sL ho HK Hb Hd (hl:=LM ‹_›)
     |15,_=>exact sL ho HK Hb Hd (hl:=Fp ‹_›)
     |2,_=>clear a6 a5 bl bA;obtain rfl:=yF ho;clear Hd Hb;refine yE ?_;go_simp;exact HK.out _ _ ⟨_,rfl,hG.size,yv _ _⟩ (AE _ _)
     |9,_=>clear a6 a5 bl bA;obtain rfl:=yF ho;have d2:Ko wr.heap.size 9 wx (a.tmps[27]?.getD undef):=BM Hd 2;have d8:(a.tmps[33]?.getD undef)=.slice ua (AJ k.zX qs.length).zT.length uc:=BM Hd 8;clear Hd Hb;refine yE ?_;obtain⟨g_,cY,cX,cW⟩:=d2;obtain⟨v7,w4,bK,r1,r2,_⟩:=DZ (lo:=wr.heap.size) (w:=wx) (t:=72) (ty:=72) 9 _ 1 16 underlying72 Tryz.zJ rfl (by decide) cW cX (BD.below RS.out hG) (Gr _) (by omega);refine Cr rfl (Bl cY) (Bl d8) bK ?_;exact HK.out _ _ r1 r2
     |16,_=>clear a6 a5 bl bA;obtain rfl:=yF ho;have d9:AQ wr.heap.size 9 1 BB wx (a.tmps[34]?.getD undef) (AJ k.zX qs.length).zT:=BM Hd 9;have cO:(a.tmps[40]?.getD undef)=.int .i64 ((AJ k.zX qs.length).root):=BM Hd 15;clear Hd Hb;generalize e34:a.tmps[34]?.getD undef=u at d9;have W:Hid (VH wr.heap.size (AJ k.zX qs.length).root (AJ k.zX qs.length).zT wx (.agg #[u,.int .i64 (AJ k.zX qs.length).root])):=AA ⟨u,rfl,d9⟩;obtain⟨_,_,rfl,_,_⟩:=d9.rd.shape;clear d9;refine yE ?_;go_simp;exact HK.out _ _ W.out (yD _ _)
     |17,_=>clear a6 a5 bl bA;obtain rfl:=yF ho;have ff:VH wr.heap.size (AJ k.zX qs.length).root (AJ k.zX qs.length).zT wx (a.tmps[41]?.getD undef):=BM Hd 16;clear Hd Hb;obtain⟨u,ff,d9⟩:=ff;have HD:=AA d9;obtain⟨_,_,rfl,_,_⟩:=d9.rd.shape;clear d9;refine yE ?_;go_simp;exact HK.out _ _ ⟨_,_,rfl,hG.size,yv _ _,HD.out.below (AE _ _)⟩ (AE _ _)
     |_+18,hq=>omega
    .intro i hi vv wz df bt hz
     match i,hi with
     |2,_=>exact(Ko.below hz bt)
     |9,_=>exact(AQ.below hz bt)
     |16,_=>exact(VH.below hz bt)
     |17,_=>exact(Wv.below hz bt)
     |0,_|1,_|3,_|4,_|5,_|6,_|7,_|8,_|10,_|11,_|12,_|13,_|14,_|15,_=>exact hz
     |_+18,hq=>omega
    .intro vs wx hR hG
     have q1:(vs 1)=.slice ea qs.length ec:=BW hR 1;have dg:Wv wr.heap.size (AJ k.zX qs.length).root (AJ k.zX qs.length).zT wx (vs 17):=BW hR 17;clear hR;simp only[Aj,Ae,yC,yz,yy,yw,q1];simp;generalize vs 17=z17 at dg ⊢;clear q1;obtain⟨gb,u,rfl,_,e4,hu⟩:=dg;have b8:=dO.out.2.2.2.2.2.1;have eP:=(hG.cell (p:=⟨g,2,none⟩) cQ).trans y2;have fC:=xX cQ hG.size;have Q:=AA (Z1 e4);have HU:=AA hu;have O:=AA (dO.out.2.2.2.1.1.below hG);have HG:=AA hG;have dG:=(b8.trans (hG.mono b8.size)).size;obtain⟨_,_,rfl,_,_⟩:=hu.rd.shape;clear e4 hu hG D0 D1 y2 b8;go_wp2_with (at_builtin;go_must (refine Bc (lo:=W0.heap.size) (n:=qs.length) (xs:=Ci Ec qs) (m:=1) rfl rfl 74 (.agg #[.slice none 0 0,.int .i64 0]) 2 32 underlying25 Tryz.yR rfl (by decide) rfl O.out rfl Q.out (by simp[xD]) (by unfold maxLen;omega) (by omega) dG ?_;intro o' w9 k1 k2 k3 k4;have S:=AA (dO.out.step HG.out HU.out (show k.zX[qs.length]?=some (AJ k.zX qs.length) by unfold AJ;exact A1 eW) k1 k2);have dI:=dO.out.yK HG.out k2;have z2:=(AG dI).2.2.1;have gV:=AK dI;have gK:=AW dI;obtain⟨_,_,rfl,_,_⟩:=(Rd.of_owns k1).shape;clear k1 k2 k3 k4 dI eP));go_roundw
     case rel=>exact⟨_,_,by rw[yj,xM];omega,by rw[yj,xM];go_num,S.out⟩
     case measure=>simp[intOf];omega
   .have e3:qs.length=3:=by omega
    obtain⟨hB,⟨fq,o1⟩,o2,o3,o4,ar,_⟩:=St;have o5:DA W0.heap.size wr (.slice ea qs.length ec) qs k.zX:=by have:=o3;rwa [List.take_of_length_le (by omega)] at this
    have cN:=(ar.block _ (by have:=f7.out;omega)).trans gq.out;have S:=AA (show ∀w',wr.grownBy w' (some (w.heap.size+1))->Ol w k (.returned (.agg #[_,_,(.slice ea qs.length ec),_])) w' from λw' dq=>⟨_,_,_,_,rfl,⟨⟨fq,(o1.yL dq cN).lower aq.size⟩,(o2.yL dq cN).lower aq.size,⟨qs,(o5.yL dq cN).lower aq.size⟩,(o4.yL dq cN).lower aq.size⟩,(aq.trans (ar.mono aq.size)).grown dq (aq.trans (ar.mono aq.size)).size (λk hk=>by cases hk;omega)⟩)
    obtain⟨E0,E1,E2,E3⟩:=AG (Cs (m':=.slice pa cd.length pc) (i':=.slice qa k.zZ.length qc) (e':=.slice ea qs.length ec) (c':=.slice ra k.zW.length rc) cN);have HE:=AA (And.intro E0 (And.intro E1 (And.intro E2 E3)));have cf:wr.grownBy ((((wr.setCell ⟨w.heap.size+1,0,none⟩ (.slice pa cd.length pc)).setCell ⟨w.heap.size+1,1,none⟩ (.slice qa k.zZ.length qc)).setCell ⟨w.heap.size+1,2,none⟩ (.slice ea qs.length ec)).setCell ⟨w.heap.size+1,3,none⟩ (.slice ra k.zW.length rc)) (some (w.heap.size+1)):=An (An (An (Aq wr (w.heap.size+1) 0 _) 1 _) 2 _) 3 _;obtain⟨b0,b1,b2,b3⟩:=AG hB;obtain⟨c0,c1,c2,c3⟩:=AG cN;have cg:=AK cN;have fB:¬(qs.length:Int)<k.zX.length:=by omega
    have eR:=dB;clear hB cN o1 o2 o3 o4 o5 E0 E1 E2 E3 e3 dB c4;go_wp2_with fail;exact bodyPost_ret (v:=.agg #[_,_,_,_]) (by simp[results,Tryz.results93,go_sem,HE.out]) rfl (S.out _ cf)
theorem Qt(m iv ev cv:Value)(k:AN)(kk b c:Int)(en an:Nat)(nm:ByteArray)(w:World)(h:Ma w m iv ev cv k)(hk:DJ k)(cM:en<3)(eA:an<12)(ei:kk=4->Bd b=true):
 Calls prog 221 #[.agg #[m,iv,ev,cv],.agg #[.int .i64 kk,.int .i64 en,.int .i64 an,.int .i64 b,.int .i64 c,.string nm]] w (VN (if kk=4 then Hy k.mem k.zZ an b (AJ k.zX en).zT else Dm k.mem k.zZ an) w):=by
 obtain⟨N0,N1,aq,cJ⟩:=Jy w (.cells #[m,iv,ev,cv] 28) (.cells #[.int .i64 kk,.int .i64 en,.int .i64 an,.int .i64 b,.int .i64 c,.string nm] 55);obtain⟨x0,x1,x2,x3⟩:=AG N0;obtain⟨y0,y1,y2,y3,y4,y5⟩:=JT N1;have cw:=AW N0;have cL:=AW N1;have ax:=(At hk).1;have a7:=(At hk).2.1;have hm:=h.1.below aq;have hi:=BD.below h.2.1 aq;obtain⟨ae,ce,rfl,_,_,HE⟩:=(h.2.2.1.below aq).open;have e6:en<k.zX.length:=by rw[hk.zN];exact cM
 obtain⟨be,bs,ua,uc,rfl,cF,D0,_,hR⟩:=HE en e6;have fN:(en:Int)<k.zX.length:=by omega
 have da:¬(en:Int)<0:=by omega
 have C1:=λ(h4:kk=4)=>λW (hW:Below _ _ W)=>RJ m iv _ k.mem k.zZ an b (AJ k.zX en).zT W (hm.below hW) ax (BD.below hi hW) a7 eA (ei h4) (BD.below hR hW) (II hk cM) (hk.zT en cM)
 have C2:=AA (λW (hW:Below _ _ W)=>Oi m iv k.mem k.zZ an W (hm.below hW) ax (BD.below hi hW) a7 eA);obtain⟨am,cm,rfl,_⟩:=hm.open;obtain⟨ai,ci,rfl,_,_⟩:=hi.shape;generalize hW0:(w.alloc _).alloc _=W0 at*
 by_cases h4:kk=4
 .rw[if_pos h4]
  have CP:=AA (C1 h4);subst h4;generalize Hy k.mem k.zZ an b (AJ k.zX en).zT=res at*;clear h hk N0 N1 HE hm hi hR C1 C2 ax a7 ei cJ;go_in;go_wp2_with fail;refine BN 18 36 [.p w.heap.size 0,.v (.slice am k.mem.length cm),.p w.heap.size 1,.v (.slice ai k.zZ.length ci),.p (w.heap.size+1) 2,.i ((an:Int)),.p (w.heap.size+1) 3,.i b,.p w.heap.size 2,.v (.slice (some ⟨be,bs,none⟩) k.zX.length ce),.p (w.heap.size+1) 1,.i ((en:Int)),.p be (bs+en*2),.p be (bs+en*2),.v (.slice ua (AJ k.zX en).zT.length uc),.z,.z,.i (res.2)] (λix vv ww=>match ix with
   |15=>∃v',vv=.tuple #[v',.int .i64 res.2]/\AQ W0.heap.size 92 3 A2 ww v' res.1
   |16=>AQ W0.heap.size 92 3 A2 ww vv res.1
   |_=>True) ?_ ?_ ?_
  .intro i hi o ho a wx Hb Hd hG K HK
   have bl:=bc hG cL y2;have bA:=bc hG cL y3;have dX:=bc hG cL y1
   match i,hi with
   |0,_|2,_|4,_|6,_|8,_|10,_|13,_=>exact sP ho HK Hb Hd
   |1,_=>exact sL ho HK Hb Hd (hl:=GT (bc hG cw x0))
   |3,_=>exact sL ho HK Hb Hd (hl:=F8 (bc hG cw x1))
   |5,_|7,_|11,_=>exact sL ho HK Hb Hd (hl:=Fp ‹_›)
   |9,_=>exact sL ho HK Hb Hd (hl:=No (bc hG cw x2))
   |12,_=>exact sI ho HK Hb Hd (hr:=by clear Hd Hb HK;go_simp)
   |14,_=>exact sL ho HK Hb Hd (hl:=LM (bc hG cF D0))
   |15,_=>exact sC ho HK Hb Hd (CP.out _ hG) (by rintro e w_ ⟨v',rfl,hO,a8⟩;exact⟨_,rfl,⟨_,rfl,hO.lower hG.size⟩,a8⟩)
   |16,_=>
    clear bl bA dX;obtain rfl:=yF ho;have cO:∃v',(a.tmps[24]?.getD undef)=.tuple #[v',.int .i64 res.2]/\AQ W0.heap.size 92 3 A2 wx v' res.1:=BM Hd 15
    clear Hd Hb;obtain⟨v',cO,hO⟩:=cO;refine yE ?_;go_simp;exact HK.out _ _ hO (yD _ _)
   |17,_=>
    clear bl bA dX;obtain rfl:=yF ho;have cO:∃v',(a.tmps[24]?.getD undef)=.tuple #[v',.int .i64 res.2]/\AQ W0.heap.size 92 3 A2 wx v' res.1:=BM Hd 15
    clear Hd Hb;obtain⟨v',cO,hO⟩:=cO;refine yE ?_;go_simp;exact HK.out _ _ rfl (yD _ _)
   |_+18,hq=>omega
  .intro i hi vv wz df bt hz
   match i,hi with
   |15,_=>exact(by obtain⟨v',h0,h1⟩:=hz;exact⟨v',h0,AQ.below h1 bt⟩)
   |16,_=>exact(AQ.below hz bt)
   |0,_|1,_|2,_|3,_|4,_|5,_|6,_|7,_|8,_|9,_|10,_|11,_|12,_|13,_|14,_|17,_=>exact hz
   |_+18,hq=>omega
  .intro vs wx hR hG
   have bC:AQ W0.heap.size 92 3 A2 wx (vs 16) res.1:=BW hR 16;have dg:(vs 17)=.int .i64 (res.2):=BW hR 17;clear hR;simp only[Aj,Ae,yC,yz,yy,yw,dg];simp;generalize vs 16=z16 at bC ⊢;clear dg;have Q:=AA bC;have bu:=aq.trans (hG.mono aq.size);obtain⟨_,_,rfl,_,_⟩:=bC.rd.shape;clear bC hG;go_wp2_with fail;go_ret2;exact⟨_,rfl,Q.out.lower aq.size,bu⟩
 .rw[if_neg h4]
  have t4:(kk==4)=false:=by simp[h4]
  generalize Dm k.mem k.zZ an=res at*;clear h hk N0 N1 HE hm hi hR C1 ax a7 ei cJ h4;go_in;go_wp2_with fail;refine(C2.out _ (yD _ _)).mono ?_;rintro r w2 ⟨v',rfl,hO,b2⟩;have HO:=AA hO;have bu:=aq.trans (b2.mono aq.size);obtain⟨_,_,rfl,_,_⟩:=hO.rd.shape;clear hO b2;go_wp2_with fail;go_ret2;exact⟨_,rfl,HO.out.lower aq.size,bu⟩
theorem Jr{t:TypeId}(ty:TypeId)(e:TypeId)(z:Value)(sz bytes:Nat)(ht:prog.underlying t=some (.slice e))(hi:(prog.info? e).map (λi=>(i.zero,i.size,i.bytes))=some (some z,sz,bytes))
 (fu:z.cells.size=sz)(eU:0<sz){v u:Value}{n m:Nat}{xs news:List Value}(au:w.ownsRow lo e sz v n xs)(hr:Rd w u sz m news)(h1:∀u∈news,u.oneCell'=true)(fc:n+m<=maxLen)(cS:(n+m)*bytes<=140737488355328)(db:lo<=w.heap.size):
 ∃v' w',(Builtin.append_ #[t,t] ty #[v,u]).run prog w=.ok v' w'/\w'.ownsRow lo e sz v' (n+m) (xs++news)/\w.grownBy w' v.ownBlock/\Below lo w w':=by
 obtain⟨i0,eY,fx,fw,fv⟩:=info_parts hi;obtain⟨ao,c,rfl,ef,b7,hl,ck,hc⟩:=hr;have ar:∀w',w.grownBy w' v.ownBlock->Below lo w w':=λw' hg=>(yD lo w).grown hg db (λk hk=>(au.lt k hk).1)
 cases ao with
 |none=>
  have fV:=ck rfl;subst fV;obtain rfl:m=0:=by omega
  have dk:news=[]:=List.eq_nil_of_length_eq_zero (by simpa using hl);subst dk;exact⟨v,w,run_append_owned_none (P:=prog) (w:=w) lo t ty e i0 sz ht eY v n xs au,by simpa using au,⟨rfl,rfl,rfl,yt _,λ_ _ _=>rfl⟩,yD _ _⟩
 |some ad=>
  obtain⟨v',w',h2,h3,h4,_⟩:=run_append_own_at (P:=prog) w lo t ty e i0 z sz bytes ht eY fx fw fv fu eU v n xs au ad m c news hl (by
   intro j u hu
   rcases Nat.eq_zero_or_pos m with rfl|hm
   .simp at hl
    simp[hl] at hu
   .obtain⟨b,al,fZ,bp⟩:=hc hm
    obtain rfl:ad=⟨b,al,none⟩:=by simpa using fZ
    have hj:j<news.length:=(yr.1 hu).1;have eB:(⟨b,al,none⟩:Addr).add j=⟨b,al+j,none⟩:=by unfold Addr.add;split<;>simp_all
    rw[eB,bp j (by omega),hu]) h1 fc cS db
  exact⟨v',w',h2,h3,h4,ar w' h4⟩
def Gn(ss:List ByteArray)(s:ByteArray):List ByteArray×Bool:=if BQ ss&&BP s then Cm ss s else([],false)
def ZW(w:World)(r:List ByteArray×Bool)(e:Ending)(w':World):Prop:=∃v',e=.returned (.tuple #[v',.bool r.2])/\AQ w.heap.size 9 1 BB w' v' r.1/\Below w.heap.size w w'
theorem Sf{a:Option Addr}{c:Nat}{ss:List ByteArray}(h:BR w (.slice a n c) ss)(hn:n=ss.length)(hk:k<=n):BR w (.slice a k c) (ss.take k):=by
 obtain⟨ao,c',hv,ef,b7,hl,ck,hc⟩:=h;simp only[xH] at hv;obtain⟨rfl,_,rfl⟩:=hv;have cl:(ss.take k).length=k:=by rw[xT];omega
 unfold BR BD;rw[cl];refine⟨_,_,rfl,by omega,b7,by rw[JK,ui,cl,Nat.mul_one],ck,λdD=>?_⟩;obtain⟨b,al,e,bp⟩:=hc (by omega);refine⟨b,al,e,λj hj=>?_⟩;have fG:j<k:=by omega
 rw[bp j (by omega),JK,JK,List.map_take,uD,if_pos fG]
theorem X2{b al c:Nat}{ss:List ByteArray}(h:BR w (.slice (some ⟨b,al,none⟩) n c) ss)(hn:n=ss.length)(hk:k<=n)(b' cx:Nat)(he:k<n->b'=b/\cx=al+k):BR w (.slice (some ⟨b',cx,none⟩) (n - k) (c - k)) (ss.drop k):=by
 obtain⟨ao,c',hv,ef,b7,hl,ck,hc⟩:=h;simp only[xH] at hv;obtain⟨rfl,_,rfl⟩:=hv;have cl:(ss.drop k).length=n - k:=by rw[wH];omega
 unfold BR BD;rw[cl];refine⟨_,_,rfl,by omega,by omega,by rw[JK,ui,cl,Nat.mul_one],(by intro e;cases e),λdD=>?_⟩;obtain⟨b1,b5,e,bp⟩:=hc (by omega);obtain⟨rfl,rfl⟩:b=b1/\al=b5:=by simpa using e
 obtain⟨rfl,rfl⟩:=he (by omega);refine⟨_,_,rfl,λj hj=>?_⟩;rw[Nat.add_assoc,bp (k+j) (by omega),JK,JK,List.map_drop,tz]
end Go.Proofs.YtpdjjjdkhedibaaGreatDoor
