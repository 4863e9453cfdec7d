/-
  Packed:19 texts.
-/
import Derived.Test.YtlcnbkkcplllhaaGreatDoorY5
import Derived.Test.YtlcnbkkcplllhaaGreatDoorY1
import Derived.Test.YtlcnbkkcplllhaaGreatDoorY4
import Derived.Test.YtlcnbkkcplllhaaGreatDoorY3
import Derived.Test.YtlcnbkkcplllhaaGreatDoorY2
set_option linter.unusedVariables false
set_option linter.unusedSimpArgs false
set_option maxHeartbeats 16000000
set_option maxRecDepth 100000
open Go Go.Proofs.YtlcnbkkcplllhaaGreatDoor
open Bool renaming and_eq_true->yC,and_eq_true_iff->um
open Go.Proofs.Tryz renaming results13->rK,results14->rJ,results18->rL,results21->rM,results57->rN
open Go.RowKit.Below renaming refl->yN
open Go.Value renaming int->yl,oneCell'->xR,ownBlock->vI
open Go.Value.slice renaming injEq->xQ
open Go.World.ownsRow renaming cellAt->xN,frozenAt->xV,lt->yE,stored->vw
open Go renaming bodyPost_ret->yB,heap_alloc_new->yy,heap_setCell_same->yA
open Int renaming eq_ofNat_of_zero_le->yg,toNat_natCast->yq
open List renaming all_eq_false->wZ,all_eq_true->ym,flatMap_cons->sp,foldl_cons->yJ,foldl_nil->yH,getD_eq_getElem?_getD->yd,getElem?_eq_getElem->yG,getElem?_eq_some_iff->yD,getElem?_of_mem->xO,getElem?_set_self->xF,getElem?_take->ud,length_append->yz,length_nil->xi,length_set->yi,length_take->yr,mem_of_getElem?->yw,mem_of_mem_take->vm,mem_or_eq_of_mem_set->vU,range->yL,take_of_length_le->xz
open List.range renaming loop->yI
open Nat renaming le_refl->yF,le_trans->yM,lt_of_lt_of_le->yt,min_eq_left->uY,mul_le_mul_right->wT,not_lt_zero->xU,zero_le->yu
open Go renaming World->Ω,Value->Φ,Calls->Ξ
open Go.RowKit renaming Below->Γ
variable {ar n:Nat}
namespace Go.Proofs.YtlcnbkkcplllhaaGreatDoor
open Go.Proofs.Tryz
open Go.RowKit
theorem Up{xs:List AW}{f:Nat}{y:AW}(h:JC xs)(hy:y.g.size<=maxLen):JC (xs.set f y):=by
 intro x hx
 rcases vU hx with X|X
 .exact h x X
 subst X;exact hy
variable{es:List FF}
variable{N g j k lo:Nat}
theorem TF{f:FF->FF}(h:∀i,i<es.length->Db (AI es i).PQ)(hf:∀e,Db e.PQ->Db (f e).PQ):∀i,i<(An es j f).length->Db (AI (An es j f) i).PQ:=by
 intro i hi;rw[DU] at hi;rw[HJ]
 split
 .rename_i e
  exact hf _ (h j e.2)
 exact h i hi
theorem Yg (h:∀i,i<es.length->Db (AI es i).PQ):∀i,i<(es.take n).length->Db (AI (es.take n) i).PQ:=by
 intro i hi;rw[yr] at hi;have e:AI (es.take n) i=AI es i:=by unfold AI;rw[yd,yd,ud,if_pos ω]
 rw[e];exact h i ω
section
variable {lo g:Nat} {w L:Ω} {m i e c:Φ} {k:AQ}
theorem Iv.putWord(h:Iv lo w g m i e c k)(ai:CJ k.mem=true){f:Nat}(hf:f<12):
 ∃gm gu gw bf,m=.slice (some ⟨gm,0,none⟩) 12 gu/\gm<w.heap.size/\lo<=gm/\w.cell? ⟨gm,f,none⟩=some (.slice (some ⟨gw,0,none⟩) 4 bf)/\lo<=gw/\
  ∀W q,w.grownBy W (some q)->q<lo->Iv lo W g m i e c k->(∀j,W.frozen? ⟨gw,j,none⟩=false)/\gw<W.heap.size/\(∀j,j<4->∃u,W.cell? ⟨gw,j,none⟩=some u)/\∀j v,Iv lo (W.setCell ⟨gw,j,none⟩ (.int .i64 v)) g m i e c {k with mem:=k.mem.set f ((AJ k.mem f).set j v)}/\W.grownBy (W.setCell ⟨gw,j,none⟩ (.int .i64 v)) (some gw):=by
 obtain⟨gm,ar,gw,bf,vs,rfl,ju,_,hc,hl,d9,X,V,o,hu,hx⟩:=h.zo ai hf;have h4:=(BG.1 ((Ak.1 ai).2 f hf)).1;refine⟨gm,ar,gw,bf,rfl,ju,(yE o.1 gm rfl).1,hc,d9,λW q K hq hI=>?_⟩;have hp:∀b',some q=some b'->b'<lo:=λb' e=>by cases e;exact hq
 have jl:w.ownsRow lo 3 1 (.slice gw 4 bf) 4 ((AJ k.mem f).map (yl .i64)):=by have:=hx;unfold AE at this;rwa [h4] at this
 have gP:=Bc jl K hp;refine⟨λq=>xV gP q,(yE gP gw rfl).2,λj hj=>?_,λj v=>?_⟩
 .rw[xN gP j hj,List.getElem?_map,yG ω]
  exact⟨_,rfl⟩
 have S:=vw gP j (.int .i64 v);have hO:AE lo (W.setCell (gw,j) (.int .i64 v)) (.slice gw 4 bf) ((AJ k.mem f).set j v):=by unfold AE;rw[yi,h4,List.map_set];exact S.1
 exact⟨hI.row ⟨Bc o.1 K hp,o.2.1.mono λ_ _ x=>Bc x K hp,o.2.2⟩ (by rw[(Ak.1 ai).1];exact hf) hu hO S.2,S.2⟩
theorem Iv.infoPut{gi:Nat}(h:Iv lo w g m (.slice gi n ar) e c k)(hn:n=k.ZJ.length){f:Nat}(hf:f<k.ZJ.length)(y:AW):
 Iv lo (((w.setCell (gi,f*3) (.int .i64 y.k)).setCell (gi,f*3+1) (.string y.g)).setCell (gi,f*3+2) (.int .i64 y.r)) g m (.slice gi n ar) e c {k with ZJ:=k.ZJ.set f y}/\w.grownBy (((w.setCell (gi,f*3) (.int .i64 y.k)).setCell (gi,f*3+1) (.string y.g)).setCell (gi,f*3+2) (.int .i64 y.r)) (some gi)/\lo<=gi:=by
 have hx:k.ZJ[f]?=some k.ZJ[f]:=yG hf;obtain⟨a1,a2,a3⟩:=h.info hn hx (j:=0) ψ (y:= {k.ZJ[f] with k:=y.k}) (u:=.int .i64 y.k) rfl;have jm:({k with ZJ:=k.ZJ.set f {k.ZJ[f] with k:=y.k}}:AQ).ZJ[f]?=some {k.ZJ[f] with k:=y.k}:=xF hf;obtain⟨b1,b2,_⟩:=a1.info (by simpa using hn) jm (j:=1) ψ (y:= {k.ZJ[f] with k:=y.k,g:=y.g}) (u:=.string y.g) rfl;have f6:({k with ZJ:=(k.ZJ.set f {k.ZJ[f] with k:=y.k}).set f {k.ZJ[f] with k:=y.k,g:=y.g}}:AQ).ZJ[f]?=some {k.ZJ[f] with k:=y.k,g:=y.g}:=xF (by simpa using hf);obtain⟨c1,c2,_⟩:=b1.info (by simpa using hn) f6 (j:=2) ψ (y:=y) (u:=.int .i64 y.r) rfl;refine⟨?_,AO (AO a2 b2) c2,a3⟩;have e:((k.ZJ.set f {k.ZJ[f] with k:=y.k}).set f {k.ZJ[f] with k:=y.k,g:=y.g}).set f y=k.ZJ.set f y:=χ;rw[<-e];exact c1
theorem Iv.rightsSf{ge:Nat}(h:Iv lo w g m i (.slice ge n ar) c k)(hn:n=k.XX.length){j:Nat}(hj:j<k.XX.length){u:Φ}{ss:List ByteArray}(hu:AP lo 9 1 A0 w u ss):
 (w.setCell (ge,j*2) u).heap[g]?=some (.cells #[m,i,.slice ge n ar,c] 28 (0,0))/\Qg lo (w.setCell (ge,j*2) u) m i (.slice ge n ar) c {k with XX:=An k.XX j (BV ss)}/\w.grownBy (w.setCell (ge,j*2) u) (some ge)/\lo<=ge:=by
 obtain⟨hB,K,⟨vs,o1⟩,o2,⟨el,a1,b2,b3⟩,o4⟩:=h;have iC:el.length=k.XX.length:=b2.1;rw[<-iC] at hn;subst hn;have hh:j<el.length:=ω;have S:=AP.zH GU a1 (k:=j) (x:=el[j]) (yG hh) (j:=0) ψ (y:=(u,el[j].2)) (u:=u) rfl;rw[Nat.add_zero] at S;obtain⟨ee,hc⟩:=BB a1 ge rfl;have bY:9≠81:=ψ;have fo:=o1.yV S.2 hc;refine⟨LX hB S.2 hc ψ,⟨⟨vs,fo.1,fo.2.1⟩,o2.yV S.2 hc,⟨el.set j (u,el[j].2),?_,⟨?_,?_⟩⟩,o4.yV S.2 hc⟩,S.2,(yE a1 ge rfl).1⟩
 .have:=S.1
  unfold AP;rw[yi];have h5:=this;unfold AP at h5;rw[yi] at h5;exact h5
 .rw[yi,DU];exact iC
 intro q p ev hp cC
 rw[J8 (d:=⟨[],0⟩)] at cC
 by_cases e:j=q
 .subst e
  rw[xF hh] at hp;rw[xF hj] at cC;cases hp;cases cC;have hx:=b2.2 j el[j] (k.XX.getD j ⟨[],0⟩) (yG hh) (A9 hj);exact⟨hu.yV S.2 hc bY,hx.2⟩
 rw[List.getElem?_set_ne e] at hp cC
 have hx:=b2.2 q p ev hp cC;exact⟨hx.1.yV S.2 hc bY,hx.2⟩
theorem Pc{α:Type}{cs:α->List Φ}{sz:Nat}(J:∀x,(cs x).length=sz)(xs:List α)(n:Nat):Cb cs (xs.take n)=(Cb cs xs).take (n*sz):=by
 induction xs generalizing n with
 |nil=>simp[Cb]
 |cons x xs ih=>
  cases n with
  |zero=>simp[Cb]
  |succ n=>rw[List.take_succ_cons,IU,IU,ih,show(n+1)*sz=(cs x).length+n*sz by rw[J,Nat.succ_mul,Nat.add_comm],List.take_length_add_append]
theorem cV{α:Type}{cs:α->List Φ}{sz e g x:Nat}{xs:List α}(J:∀x,(cs x).length=sz)(h:AP lo e sz cs w (.slice g n ar) xs)(hn:n=xs.length)(hx:x<=n):AP lo e sz cs w (.slice g x ar) (xs.take x):=by
 subst hn;have hl:(xs.take x).length=x:=by rw[yr];omega
 obtain⟨X,V⟩:=h;unfold AP;rw[hl]
 rcases V with⟨h3,_⟩|⟨g',cap',ee,h3,h4,h5,h6,h7,h8,h9⟩
 .cases h3
 simp only[xQ,Option.some.injEq,Addr.mk.injEq,true_and,and_true] at h3
 obtain⟨rfl,rfl⟩:=h3;refine⟨?_,.inr ⟨g,ar,ee,rfl,h4,h5,ω,h7,h8,?_⟩⟩
 .rw[Pc J,yr,X]
  exact uY (wT sz hx)
 rw[Pc J,<-h9,List.take_take,uY (wT sz hx)]
theorem Qg.cutEnvs{ge x:Nat}(h:Qg lo w m i (.slice ge n ar) c k)(hn:n=k.XX.length)(hx:x<=n):Qg lo w m i (.slice ge x ar) c {k with XX:=k.XX.take x}:=by
 obtain⟨X,V,⟨ps,h3,h4⟩,h5⟩:=h;refine⟨X,V,⟨ps.take x,cV GU h3 (hn.trans h4.1.symm) hx,?_,λj p ev hp cC=>?_⟩,h5⟩
 .rw[yr,yr,h4.1]
 rw[ud] at hp cC
 split at hp
 .rename_i hj
  rw[if_pos hj] at cC;exact h4.2 j p ev hp cC
 cases hp
end
def Q9(lo:Nat)(w:Ω)(v:Φ):Prop:=∃ss,AP lo 9 1 A0 w v ss/\Db ss
variable{v:Φ}
variable{L W W' w w0 w1:Ω}
theorem Q9.past (h:Q9 lo w v)(K:g<lo)(E:w.grownBy L (some g)):Q9 lo L v:=by
 obtain⟨ss,X,V⟩:=h;exact⟨ss,Bc X E (λb' e=>by cases e;exact K),V⟩
variable{vs:Array Φ}
variable{f:FuncId}
theorem aH{P:Program}(h:Ξ P f vs w (Ig w0 g N w λv L=>∃ss,AP w.heap.size 9 1 A0 L v ss/\Db ss))(hl:lo<=w.heap.size):Ξ P f vs w (Ig w0 g N w λv L=>Q9 lo L v):=
 h.mono λ_ _ h=>by obtain⟨v,rfl,⟨ss,X,V⟩,h3⟩:=h;exact⟨v,rfl,⟨ss,X.lower hl,V⟩,h3⟩
theorem YD (h:Dr w0 g N w)(hN:N<=300000):
 Ξ prog 57 #[.pointer g] w (fu Yt w0 g (N+3200) w):=by
 have av:=h.lt;have cz:w0.heap.size<=w.heap.size:=h.2.1.size;have B0:=yy w (.cells #[ι,ι,ι,ι] 28);have gA:=AX (AG w (.cells #[ι,ι,ι,ι] 28)) (some g);have bm:w.heap.size+1=(w.alloc (.cells #[ι,ι,ι,ι] 28)).heap.size:=χ;go_in;go_wp2_with fail;have hA:=h.alloc (.cells #[ι,ι,ι,ι] 28);generalize w.alloc _=wa at*;refine(Tq hA ω).mono ?_;rintro e w1 ⟨v,rfl,⟨m,i,ev,c,k,rfl,S1,H⟩,X,g1⟩;obtain⟨⟨ma,mn,mc,rfl⟩,⟨ia,iN,ic,rfl⟩,⟨ea,en,ec,rfl⟩,⟨ca,cn,cc,rfl⟩⟩:=S1.Dq;rw[<-bm] at S1;have iD:g<wa.heap.size:=ω;have B1:=(g1.block w.heap.size ω η).trans B0;obtain⟨NK,bK⟩:=Ec w1 (.cells #[.slice ma mn mc,.slice ia iN ic,.slice ea en ec,.slice ca cn cc] 28);have V:=X.below bK;have G2:=AO (AO gA g1) (AX bK (some g));have B2:=AB B1 bK;have S2:Qg (w.heap.size+1) _ _ _ _ _ k:=S1.map (LG bK (yF _));have ed:w.heap.size<w1.heap.size:=by have:=g1.size;omega
 clear S1 B1 X g1 hA B0 bK gA h;go_wp2_with fail;obtain⟨b,E⟩:∃b,b=w1.heap.size:=⟨_,rfl⟩
 rw[<-E] at NK ed ⊢;clear E;generalize w1.alloc _=w2 at*;refine(V.pick _).mono ?_;rintro e w3 ⟨x,rfl,x0,x1,h3,g3⟩;have hp:∀b',some g=some b'->b'<w.heap.size+1:=λb' e=>by cases e;omega
 have S3:Qg (w.heap.size+1) w3 _ _ _ _ k:=S2.map (IF g3 ω (yF _));have B3:=FL B2 (yF _) g3 (λb' e=>by cases e;exact av);have bB:=FL NK (Nat.le_of_lt ed) g3 (λb' e=>by cases e;exact av);have G3:=AO G2 g3;obtain⟨c0,c1,c2,c3⟩:=AH bB;clear S2 B2 NK V G2 g3
 by_cases hx:0<x
 .obtain⟨d0,d1,d2,d3⟩:=AH B3
  have hH:=AK B3;obtain⟨BX,FX⟩:=fB (ok:=Yt) (M:=N+3200) h3 G3 (S3.map (λ_ _ _ _ _ _ _ h=>BS h (Nat.le_succ _))) ⟨Cm H,Nat.le_of_eq H.len⟩ av cz B3 ω;have BH:=AA BX;have FH:=AA FX;clear BX FX B3 h3 G3 S3 bB H;go_wp2_with fail;exact yB (v:=.agg #[_,_,_,_]) (by simp[results,rN,go_sem,AH BH.u]) rfl FH.u
 have hS:=S3.rd
 go_wp2_with fail;refine(ML _ _ _ _ k w3 hS H).mono ?_;rintro e w4 ⟨m',i',e',c',rfl,O4,b4⟩;obtain⟨⟨iu,ik,gX,rfl⟩,⟨iy,iz,em,rfl⟩,⟨iL,iK,cm,rfl⟩,⟨jL,jH,jI,rfl⟩⟩:=O4.Dq;have h4:=h3.below b4;have hz:w.heap.size+1<=w3.heap.size:=by have:=AY B3;omega
 have gS:=AB bB b4;have fz:=AK gS;have D:=fA (ok:=Dg) h4 (AO G3 (AX b4 _)) gS (O4.lower hz) H av cz ed ⟨_,_,_,_,AB B3 b4⟩;obtain⟨c0,c1,c2,c3⟩:=AH gS;clear h3 h4 G3 S3 hS bB gS B3 O4 b4 hz;go_wp2_with fail;generalize(((w4.setCell _ _).setCell _ _).setCell _ _).setCell _ _=w5 at D ⊢;refine(D.pk _).mono ?_;rintro e w6 ⟨f,rfl,f0,f1,S6⟩;clear D c0 c1 c2 c3 fz;go_wp2_with fail;refine(S6.pk _).mono ?_;rintro e w7 ⟨u,rfl,u0,u1,D⟩;clear S6;obtain⟨f,rfl⟩:=yg f0;go_upto_block 0 with fail;go_cut [] (λwx=>Jw Yt w0 g (N+3200) w b wx)
 case rest=>clear D;obtain⟨m9,i9,e9,c9,k9,h9,G9,N9,A,he,a0,a1,a2,a3,B9⟩:=hcut;obtain⟨⟨iu,ik,gX,rfl⟩,⟨iy,iz,em,rfl⟩,⟨iL,iK,cm,rfl⟩,⟨jL,jH,jI,rfl⟩⟩:=A.Dq;obtain⟨c0,c1,c2,c3⟩:=AH N9;obtain⟨d0,d1,d2,d3⟩:=AH B9;have hH:=AK B9;obtain⟨BX,FX⟩:=fB (ok:=Yt) h9 G9 A he av cz B9 (yF _);have BH:=AA BX;have FH:=AA FX;clear BX FX B9 N9 h9 G9 A H;go_wp2_with fail;exact yB (v:=.agg #[_,_,_,_]) (by simp[results,rN,go_sem,AH BH.u]) rfl FH.u
 case first=>
  have hf:f<12:=ω;have jy:(f:Int)<12:=ω
  rcases(ω:u=0∨u=1∨u=2∨u=3∨u=4∨u=5∨u=6) with rfl|rfl|rfl|rfl|rfl|rfl|rfl
  .obtain⟨gm,gu,gw,bf,e1,ji,jg,Df,jf,SW⟩:=D.yS.putWord (Ap H).1 hf
   cases e1;have SW:=AA SW;obtain⟨c0,c1,c2,c3⟩:=AH D.yS.1;have ae:=AY D.yS.1;have cd:=D.lt;have cu:w.heap.size+1<=w7.heap.size:=ω
   go_wp2_with fail;refine Fs 10 87 3 2 [6,8] [.p b 0,.s gm 12 gX,.i ((f:Int)),.p gm f,.s gw 4 bf,.p g 0,.z,.p g 0,.z,.z] (λix vv ww=>match ix with
    |6=>Pk 4 vv
    |8=>∃x:Int,vv=.int .i64 x/\ -1<=x/\x<=9999
    |9=>∃x:Int,vv=.int .i64 x
    |_=>True) D.dr ?_ ?_
   .intro i hi o Z a wx z Y ll HL O R hg HQ HK
    match i,hi with
    |0,_|2,_|5,_|7,_=>exact sP Z HK z Y
    |1,_=>exact sL Z HK z Y (hl:=GR (gc R ae ω c0))
    |3,_=>exact sI Z HK z Y (hr:=by clear Y z HK;go_simp)
    |4,_=>exact sL Z HK z Y (hl:=K5 (gc R ji ω Df))
    |6,_=>exact dK (m:=4) Z HQ z Y HL O ω
    |8,_=>exact gE Z HQ z Y HL O (λM hM hD R=>Od hD ω)
    |9,_=>
     obtain rfl:=yP Z;have d8:∃x:Int,(a.tmps[27]?.getD undef)=.int .i64 x/\ -1<=x/\x<=9999:=Bd Y 8
     obtain⟨x8,d8,y0,y1⟩:=d8;clear Y z;refine yO ?_;go_simp;exact HK _ _ ⟨_,rfl⟩ (yN _ _)
   intro vs wx hR hD R
   have q4:(vs 4)=.slice gw 4 bf:=Be hR 4;have q6:Pk 4 (vs 6):=Be hR 6;obtain⟨x6,q6,p0,p1⟩:=q6;have q9:∃x:Int,(vs 9)=.int .i64 x:=Be hR 9
   obtain⟨x9,q9⟩:=q9;clear hR;simp only[Aj,Ae,yL,yI,yJ,yH,q4,q6,q9];simp;clear q4 q6 q9;have A:=D.draw hD R;obtain⟨x6,rfl⟩:=yg p0;obtain⟨fz,ko,hw,iO⟩:=SW wx g R ω A.yS;obtain⟨_,hw⟩:=hw x6 ω;obtain⟨I9,g9⟩:=iO x6 x9;have HR:=AA (A.ke (ok':=Yt) g9 ω I9.1 I9.2.2.sf ⟨⟨(Cm H).1,(Cm H).2⟩,by simp[H.len]⟩ (M:=N+3200) ω);clear A I9 g9 iO hD R D;go_wp2_with fail;go_meet;exact HR.u
  .skip
   obtain⟨gi,hL,e1,ii,gU,_,_,D2,_⟩:=D.yS.JK' (f:=f) (by rw[H.len];exact hf);rw[H.len] at e1;cases e1;obtain⟨c0,c1,c2,c3⟩:=AH D.yS.1;have ae:=AY D.yS.1;have cd:=D.lt;have cu:w.heap.size+1<=w7.heap.size:=ω;go_wp2_with fail;refine Fs 5 87 10 1 [4] [.p b 1,.s gi 12 em,.i ((f:Int)),.p g 0,.z] (λix vv ww=>match ix with
    |4=>OG vv
    |_=>True) D.dr ?_ ?_
   .intro i hi o Z a wx z Y ll HL O R hg HQ HK
    match i,hi with
    |0,_|2,_|3,_=>exact sP Z HK z Y
    |1,_=>exact sL Z HK z Y (hl:=Gi (gc R ae ω c1))
    |4,_=>exact gE Z HQ z Y HL O (λM hM hD R=>Wm hD ω)
   intro vs wx hR hD R
   have q1:(vs 1)=.slice gi 12 em:=Be hR 1;have q2:(vs 2)=.int .i64 f:=Be hR 2;have q4:OG (vs 4):=Be hR 4;obtain⟨y4,kl,q4⟩:=q4;clear hR;simp only[Aj,Ae,yL,yI,yJ,yH,q1,q2,q4];simp;clear q1 q2 q4;have A:=D.draw hD R;obtain⟨jE,gv,e1,gV,_,_,_,_,fz⟩:=A.yS.JK' (f:=f) (by rw[H.len];exact hf);rw[H.len] at e1;cases e1;obtain⟨I9,g9,_⟩:=A.yS.infoPut H.len.symm (f:=f) (by rw[H.len];exact hf) y4;have HR:=AA (A.ke (ok':=Yt) g9 ω I9.1 I9.2.2.sf ⟨⟨Up (Cm H).1 μ,(Cm H).2⟩,by simp[H.len]⟩ (M:=N+3200) ω);clear A I9 g9 hD R D;go_wp2_with fail;go_meet;exact HR.u
  .skip
   obtain⟨gi,hL,e1,ii,gU,_,_,D2,_⟩:=D.yS.JK' (f:=f) (by rw[H.len];exact hf);rw[H.len] at e1;cases e1;obtain⟨c0,c1,c2,c3⟩:=AH D.yS.1;have ae:=AY D.yS.1;have cd:=D.lt;have cu:w.heap.size+1<=w7.heap.size:=ω;go_wp2_with fail;refine Ac 10 87 [.p b 1,.s gi 12 em,.i ((f:Int)),.p b 1,.s gi 12 em,.i ((f:Int)),.p gi (f*3),.p gi (f*3+2),.i ((JK k.ZJ f).r),.z] (λix vv ww=>match ix with
    |9=>∃x:Int,vv=.int .i64 x
    |_=>True) ?_ ?_
   .intro i hi o Z a wx z Y O hg HK
    have gO:=bc O ae c1;have gN:=bc O ii D2
    match i,hi with
    |0,_|2,_|3,_|5,_|7,_=>exact sP Z HK z Y
    |1,_|4,_=>exact sL Z HK z Y (hl:=Gi ‹_›)
    |6,_=>exact sI Z HK z Y (hr:=by clear Y z HK;go_simp)
    |8,_=>exact sL Z HK z Y (hl:=F7 ‹_›)
    |9,_=>clear gO gN;obtain rfl:=yP Z;have d8:(a.tmps[48]?.getD undef)=.int .i64 ((JK k.ZJ f).r):=Bd Y 8;clear Y z;refine yO ?_;go_simp;exact HK _ _ ⟨_,rfl⟩ (yN _ _)
   intro vs wx hR O
   have q1:(vs 1)=.slice gi 12 em:=Be hR 1;have q2:(vs 2)=.int .i64 f:=Be hR 2;have q9:∃x:Int,(vs 9)=.int .i64 x:=Be hR 9
   obtain⟨x9,q9⟩:=q9;clear hR;simp only[Aj,Ae,yL,yI,yJ,yH,q1,q2,q9];simp;clear q1 q2 q9;have A:=D.below O;obtain⟨jE,gv,e1,gV,_,d0,d1,d2,fz⟩:=A.yS.JK' (f:=f) (by rw[H.len];exact hf);rw[H.len] at e1;cases e1;obtain⟨I9,g9,_⟩:=A.yS.info H.len.symm (f:=f) (x:=JK k.ZJ f) (Cj (by rw[H.len];exact hf)) (j:=2) ψ (y:= {JK k.ZJ f with r:=x9}) (u:=.int .i64 x9) rfl;have HR:=AA (A.ke (ok':=Yt) g9 ω I9.1 I9.2.2.sf ⟨⟨Up (Cm H).1 (show(JK k.ZJ f).g.size<=maxLen from(Cm H).1 _ (yw (Cj (show f<k.ZJ.length by rw[H.len];exact hf)))),(Cm H).2⟩,by simp[H.len]⟩ (M:=N+3200) ω);clear A I9 g9 O D;go_wp2_with fail;go_meet;exact HR.u
  .skip
   obtain⟨ge,gy,_,_,e1,ij,_⟩:=D.yS.env (j:=0) (by rw[H.zX];decide);rw[H.zX] at e1;cases e1;obtain⟨c0,c1,c2,c3⟩:=AH D.yS.1;have ae:=AY D.yS.1;have cd:=D.lt;have cu:w.heap.size+1<=w7.heap.size:=ω;go_wp2_with fail;refine Fs 7 87 1 2 [3,5] [.p b 2,.s ge 3 cm,.p g 0,.z,.p g 0,.z,.z] (λix vv ww=>match ix with
    |3=>Pk 3 vv
    |5=>Pk 13 vv
    |6=>∃x:Int,vv=.int .i64 x
    |_=>True) D.dr ?_ ?_
   .intro i hi o Z a wx z Y ll HL O R hg HQ HK
    match i,hi with
    |0,_|2,_|4,_=>exact sP Z HK z Y
    |1,_=>exact sL Z HK z Y (hl:=Ph (gc R ae ω c2))
    |3,_=>exact dK (m:=3) Z HQ z Y HL O ω
    |5,_=>exact dK (m:=13) Z HQ z Y HL O ω
    |6,_=>obtain rfl:=yP Z;have d5:Pk 13 (a.tmps[59]?.getD undef):=Bd Y 5;obtain⟨x5,d5,q0,q1⟩:=d5;clear Y z;refine yO ?_;go_simp;exact HK _ _ ⟨_,rfl⟩ (yN _ _)
   intro vs wx hR hD R
   have q1:(vs 1)=.slice ge 3 cm:=Be hR 1;have q3:Pk 3 (vs 3):=Be hR 3;obtain⟨x3,q3,p0,p1⟩:=q3;have q6:∃x:Int,(vs 6)=.int .i64 x:=Be hR 6
   obtain⟨x9,q6⟩:=q6;clear hR;simp only[Aj,Ae,yL,yI,yJ,yH,q1,q3,q6];simp;clear q1 q3 q6;have A:=D.draw hD R;obtain⟨x3,rfl⟩:=yg p0;have fp:x3<3:=ω;obtain⟨jF,gx,_,_,e1,gW,_,_,_,fz⟩:=A.yS.env (j:=x3) (by rw[H.zX];exact fp);rw[H.zX] at e1;cases e1;obtain⟨I9,g9,_⟩:=A.yS.root H.zX.symm (j:=x3) (by rw[H.zX];exact fp) x9;have HR:=AA (A.ke (ok':=Yt) g9 ω I9.1 I9.2.2.sf ⟨⟨(Cm H).1,TF (Cm H).2 (λ_ h=>h)⟩,by simp[H.len]⟩ (M:=N+3200) ω);clear A I9 g9 hD R D;go_wp2_with fail;go_meet;exact HR.u
  .skip
   obtain⟨ge,gy,_,_,e1,ij,_⟩:=D.yS.env (j:=0) (by rw[H.zX];decide);rw[H.zX] at e1;cases e1;obtain⟨c0,c1,c2,c3⟩:=AH D.yS.1;have ae:=AY D.yS.1;have cd:=D.lt;have cu:w.heap.size+1<=w7.heap.size:=ω;go_wp2_with fail;refine Fs 6 87 60 2 [3,5] [.p b 2,.s ge 3 cm,.p g 0,.z,.p g 0,.z] (λix vv ww=>match ix with
    |3=>Pk 3 vv
    |5=>Q9 (w.heap.size+1) ww vv
    |_=>True) D.dr ?_ ?_ (hst:=?_)
   .intro i hi o Z a wx z Y ll HL O R hg HQ HK
    match i,hi with
    |0,_|2,_|4,_=>exact sP Z HK z Y
    |1,_=>exact sL Z HK z Y (hl:=Ph (gc R ae ω c2))
    |3,_=>exact dK (m:=3) Z HQ z Y HL O ω
    |5,_=>exact dR Z HQ z Y HL O (λM hM hD R=>aH (Tp hD ω) (yM cu R.size))
   rotate_left
   .intro i hi vv wz fy b9 hz
    match i,hi with
    |3,_=>exact hz
    |5,_=>exact Q9.past hz ω b9
    |0,_|1,_|2,_|4,_=>exact hz
   intro vs wx hR hD R
   have q1:(vs 1)=.slice ge 3 cm:=Be hR 1;have q3:Pk 3 (vs 3):=Be hR 3;obtain⟨x3,q3,p0,p1⟩:=q3;have q5:Q9 (w.heap.size+1) wx (vs 5):=Be hR 5;clear hR;simp only[Aj,Ae,yL,yI,yJ,yH,q1,q3];simp;generalize vs 5=z5 at q5 ⊢;clear q1 q3;have A:=D.draw hD R;obtain⟨x3,rfl⟩:=yg p0;have fp:x3<3:=ω;obtain⟨jF,gx,_,_,e1,gW,_,_,_,fz⟩:=A.yS.env (j:=x3) (by rw[H.zX];exact fp);rw[H.zX] at e1;cases e1;obtain⟨ss,hO,ay⟩:=q5;obtain⟨N9,ei,g9,_⟩:=A.yS.rightsSf H.zX.symm (j:=x3) (by rw[H.zX];exact fp) hO;have HR:=AA (A.ke (ok':=Yt) g9 ω N9 ei ⟨⟨(Cm H).1,TF (Cm H).2 (λ_ _=>ay)⟩,by simp[H.len]⟩ (M:=N+3200) ω);obtain⟨_,_,rfl,_,_⟩:=hO.rd.shape;clear A N9 ei g9 hD R D hO;go_wp2_with fail;go_meet;exact HR.u
  .skip
   obtain⟨c0,c1,c2,c3⟩:=AH D.yS.1;have ae:=AY D.yS.1;have cd:=D.lt;have cu:w.heap.size+1<=w7.heap.size:=ω;go_wp2_with fail;refine(VT D.dr ω).mono ?_;rintro e w8 ⟨v,rfl,⟨ss,hO⟩,h8,g8⟩;have A:=D.draw h8 g8;have hO:=hO.lower cu;have g9:=At w8 b 3 v;have N9:=yA w8 b 3 _ _ v A.yS.1;have O9:=A.yS.2.2.sf;have ei:Qg (w.heap.size+1) (w8.setCell (b,3) v) _ _ _ v {k with XU:=ss}:=Qg.map (⟨O9.1,O9.2.1,O9.2.2.1,hO⟩:Qg (w.heap.size+1) w8 _ _ _ v {k with XU:=ss}) (Lo g9 A.yS.1 (.inl rfl) (yF _));have HR:=AA (A.ke (ok':=Yt) g9 cd (by simpa using N9) ei ⟨⟨(Cm H).1,(Cm H).2⟩,by simp[H.len]⟩ (M:=N+3200) ω);have fz:=AK A.yS.1;obtain⟨c0,c1,c2,c3⟩:=AH A.yS.1;obtain⟨_,_,rfl,_,_⟩:=hO.rd.shape;clear A N9 ei O9 g9 h8 g8 D hO;go_wp2_with fail;go_meet;exact HR.u
  skip
  obtain⟨ge,gy,_,_,e1,ij,_⟩:=D.yS.env (j:=0) (by rw[H.zX];decide);rw[H.zX] at e1;cases e1;obtain⟨c0,c1,c2,c3⟩:=AH D.yS.1;have ae:=AY D.yS.1;have cd:=D.lt;have cu:w.heap.size+1<=w7.heap.size:=ω;go_wp2_with fail;refine Fs 4 87 1 1 [3] [.p b 2,.s ge 3 cm,.p g 0,.z] (λix vv ww=>match ix with
   |3=>Pk 3 vv
   |_=>True) D.dr ?_ ?_
  .intro i hi o Z a wx z Y ll HL O R hg HQ HK
   match i,hi with
   |0,_|2,_=>exact sP Z HK z Y
   |1,_=>exact sL Z HK z Y (hl:=Ph (gc R ae ω c2))
   |3,_=>exact dK (m:=3) Z HQ z Y HL O ω
  intro vs wx hR hD R
  have q1:(vs 1)=.slice ge 3 cm:=Be hR 1;have q3:Pk 3 (vs 3):=Be hR 3;obtain⟨x3,q3,p0,p1⟩:=q3;clear hR;simp only[Aj,Ae,yL,yI,yJ,yH,q1,q3];simp;clear q1 q3;have A:=D.draw hD R;obtain⟨x3,rfl⟩:=yg p0;have fp:x3<3:=ω;have jB:3<=cm:=by obtain⟨_,_,e9,hw,_⟩:=A.yS.2.2.2.2.1.choose_spec.1.rd.shape;simp only[xQ] at e9;obtain⟨_,e8,rfl⟩:=e9;omega
  have g9:=At wx b 2 (.slice ge x3 cm);have N9:=yA wx b 2 _ _ (.slice ge x3 cm) A.yS.1;have ei:=(A.yS.2.2.sf.cutEnvs H.zX.symm (x:=x3) ω).map (Lo g9 A.yS.1 (.inl rfl) (yF _));have HR:=AA (A.ke (ok':=Yt) g9 cd (by simpa using N9) ei ⟨⟨(Cm H).1,Yg (Cm H).2⟩,by simp[H.len]⟩ (M:=N+3200) ω);have fz:=AK A.yS.1;obtain⟨c0,c1,c2,c3⟩:=AH A.yS.1;clear A N9 ei g9 hD R D;go_wp2_with fail;go_meet;exact HR.u
def Ql(P:AR):Prop:=Yt P.Ve
theorem UF{α β γ:Type}{hW:α->β->Prop}{S:α->γ->Prop}{xs:List α}{ys:List β}(h:GY hW xs ys)(f:∀x y,hW x y->∃Hb,S x Hb):∃zs,GY S xs zs:=by
 induction xs generalizing ys with
 |nil=>exact⟨[],rfl,λi x y h=>by simp at h⟩
 |cons a xs ih=>
  cases ys with
  |nil=>exact absurd h.1 χ
  |cons b ys=>
   obtain⟨Hb,hz⟩:=f a b (h.2 0 a b rfl rfl);obtain⟨zs,X,V⟩:=ih (ys:=ys) ⟨by simpa using h.1,λi x y hx hy=>h.2 (i+1) x y (by simpa using hx) (by simpa using hy)⟩;refine⟨Hb::zs,by simp[X],λi x y hx hy=>?_⟩;cases i with
   |zero=>simp at hx hy;subst hx hy;exact hz
   |succ i=>exact V i x y (by simpa using hx) (by simpa using hy)
theorem Vd{u:Φ}{r:List Int}(gl j:Nat)(x:Int)(h:AE lo w u r):∃r',AE lo (w.setCell (gl,j) (.int .i64 x)) u r':=by
 have K:=At w gl j (.int .i64 x)
 by_cases hu:u.ownBlock=some gl
 .have h0:=h
  obtain⟨X,V⟩:=h0
  rcases V with⟨e,e2⟩|⟨g',cap',ee,e,h3⟩
  .subst e
   simp[vI] at hu
  subst e
  simp[vI] at hu;subst hu;refine⟨r.set j x,?_⟩;have S:=(vw h j (.int .i64 x)).1;unfold AE;rw[yi,List.map_set];exact S
 exact⟨r,Av h K (.inr hu)⟩
section
variable {ok:AR->Prop} {w0 w wr:Ω} {g N M b:Nat} {m i e c s l q:Φ} {P:AR}
theorem Qh.lowPut{lo gl:Nat}(h:Qh lo w m i e c s (.slice gl n ar) q P)(j:Nat)(x:Int):
 ∃P',Qh lo (w.setCell (gl,j) (.int .i64 x)) m i e c s (.slice gl n ar) q P'/\P'.FV=P.FV/\P'.U4=P.U4/\P'.Ve.ZJ=P.Ve.ZJ/\P'.Ve.XX=P.Ve.XX:=by
 obtain⟨⟨⟨vs,X,V⟩,h3,⟨ps,h4,h5⟩,h6⟩,⟨us,h7,h8⟩,h9,jD⟩:=h;have K:=At w gl j (.int .i64 x);obtain⟨ee,hc⟩:=BB h9 gl rfl;obtain⟨m',hm⟩:=UF V λu r h=>Vd gl j x h
 obtain⟨s',J⟩:=UF h8 (S:=aw lo (w.setCell (gl,j) (.int .i64 x))) λu r h=>by
  rcases h with h|h
  .obtain⟨r',h'⟩:=Vd gl j x h
   exact⟨r',.inl h'⟩
  exact⟨r,.inr h⟩
 obtain⟨l',hl⟩:=Vd gl j x h9;exact⟨⟨⟨m',P.Ve.ZJ,P.Ve.XX,P.Ve.XU⟩,s',l',P.XY,P.FV,P.U4⟩,⟨⟨⟨vs,X.yV K hc,hm⟩,h3.yV K hc,⟨ps,h4.yV K hc,h5.mono λ_ _ h=>⟨h.1.yV K hc,h.2⟩⟩,h6.yV K hc⟩,⟨us,h7.yV K hc,J⟩,hl,jD.yV K hc⟩,rfl,rfl,rfl,rfl⟩
theorem JA.page{gq n0 j:Nat}{x y:Bz}{u:Φ}(D:JA ok w0 g N w b m i e c s l (.slice gq n0 ar) P wr)(gZ:n0=P.XY.length)(H:P.XY[n]?=some x)(hj:j<3)(hy:Dc y=(Dc x).set j u)(J:Ql P)(hM:N<=M):V7 Ql w0 g M w b (wr.setCell (gq,n*3+j) u):=by obtain⟨I,g9,h9⟩:=D.yQ.zz gZ H hj hy;exact D.pe (ok':=Ql) g9 ω I.yU I.own.sf J hM
theorem JA.FV(D:JA ok w0 g N w b m i e c s l q P wr)(x:Int)(J:Ql P)(hM:N<=M):V7 Ql w0 g M w b (wr.setCell (b,7) (.int .i64 x)):=by obtain⟨I,g9⟩:=D.yQ.zr x;exact D.pe (ok':=Ql) g9 D.lt I.yU I.own.sf J hM
theorem JA.lim(D:JA ok w0 g N w b m i e c s l q P wr)(x:Int)(J:Ql P)(hM:N<=M):V7 Ql w0 g M w b (wr.setCell (b,8) (.int .i64 x)):=by have g9:=At wr b 8 (.int .i64 x);have h8:=yA wr b 8 _ _ (.int .i64 x) D.yQ.yU;exact D.pe (ok':=Ql) (P':= {P with U4:=x}) g9 D.lt (by simpa using h8) (D.yQ.own.sf.map (Lo g9 D.yQ.yU (.inr rfl) (yF _))) J hM
theorem JA.Ve{m' i' e' c':Φ}{k':AQ}(D:JA ok w0 g N w b m i e c s l q P wr)(S:Qg (w.heap.size+1) wr m' i' e' c' k')(J:Yt k')(hM:N<=M):V7 Ql w0 g M w b ((((wr.setCell b m').setCell (b,1) i').setCell (b,2) e').setCell (b,3) c'):=by have g9:=Aq wr b m' i' e' c';have hG:=D.yQ.own.sf;exact D.pe (ok':=Ql) (P':= {P with Ve:=k'}) g9 D.lt (KL D.yQ.yU) (Qh.map (⟨S,hG.2⟩:Qh (w.heap.size+1) wr m' i' e' c' s l q {P with Ve:=k'}) (Lo g9 D.yQ.yU (.inr rfl) (yF _))) J hM
theorem JA.row{gs n0:Nat}{v':Φ}{r:List Int}{w1:Ω}(D:JA ok w0 g N w b m i e c (.slice gs n0 ar) l q P wr)(E:Γ wr wr w1)(hO:AE wr w1 v' r)(gZ:n0=P.swap.length)(hn:n<P.swap.length)(J:Ql P)(hM:N<=M):V7 Ql w0 g M w b (w1.setCell (gs,n) v'):=by
 obtain⟨vs,hr⟩:=D.yQ.own.swp;have d9:w.heap.size+1<=wr.heap.size:=by have:=AY D.yQ.yU;have:=D.lt;omega
 have hW:=hr.set (B:=wr.heap.size) (j:=n) E hO (yF _) d9 (gZ.trans hr.2.1.1.symm) (by rw[hr.2.1.1];exact hn);have I:=(D.yQ.below E).zk hW.2 hW.1;have X:=(yE hr.1 gs rfl).1;exact(D.below E).pe (ok':=Ql) hW.2 ω I.yU I.own.sf J hM
theorem JA.lowx{gl n0:Nat}(D:JA ok w0 g N w b m i e c s (.slice gl n0 ar) q P wr)(j:Nat)(x:Int)(J:Ql P)(hM:N<=M):V7 Ql w0 g M w b (wr.setCell (gl,j) (.int .i64 x)):=by have hG:=D.yQ.own;obtain⟨P',S',e1,e2,e3,e4⟩:=hG.sf.lowPut j x;obtain⟨ee,hc⟩:=BB hG.low gl rfl;have X:=(yE hG.low gl rfl).1;have g9:=At wr gl j (.int .i64 x);have hB:=As D.yQ.yU g9 (Ca hc D.yQ.yU);rw[<-e1,<-e2] at hB;refine D.pe (ok':=Ql) g9 ω hB S' ?_ hM;unfold Ql Yt KH at J ⊢;rw[e3,e4];exact J
end
theorem YE (h:Dr w0 g N w)(hN:N<=50000):
 Ξ prog 21 #[.pointer g] w (fw Ql w0 g (N+4300) w):=by
 have av:=h.lt;have cz:w0.heap.size<=w.heap.size:=h.2.1.size;obtain⟨B0,bA⟩:=Ec w (.cells #[ι,ι,ι,ι,ι,ι,ι,θ,θ] 32);have gA:=AX bA (some g);have hA:=h.below bA;have fr:=AY B0;go_in;go_wp2_with fail;generalize w.alloc _=wa at*;refine(VV hA ω).mono ?_;rintro e w1 ⟨v,rfl,⟨m,i,ev,c,s,l,q,P,rfl,S1,hP⟩,X,g1⟩;obtain⟨⟨⟨ma,mn,mc,rfl⟩,⟨ia,iN,ic,rfl⟩,⟨ea,en,ec,rfl⟩,⟨va,vn,vc,rfl⟩⟩,⟨sa,sn,sc,rfl⟩,⟨la,ln,lc,rfl⟩,⟨qa,qn,qc,rfl⟩⟩:=S1.Dq;unfold AN;have B1:=(g1.block w fr η).trans B0;obtain⟨NK,bK⟩:=Ec w1 (.cells #[.slice ma mn mc,.slice ia iN ic,.slice ea en ec,.slice va vn vc,.slice sa sn sc,.slice la ln lc,.slice qa qn qc,P.FV,P.U4] 32);have V:=X.below bK;have G2:=AO (AO gA g1) (AX bK (some g));have B2:=AB B1 bK;have S2:=S1.map (LG bK fr);have ed:w.heap.size<w1.heap.size:=yt fr g1.size;clear S1 B1 X g1 hA B0 bK gA h bA fr;go_wp2_with fail;generalize w1.alloc _=w2 at*;generalize w1.heap.size=b at*;refine(V.pick _).mono ?_;rintro e w3 ⟨x,rfl,x0,x1,h3,g3⟩;have hp:∀b',some g=some b'->b'<w.heap.size+1:=λb' e=>by cases e;omega
 have S3:=S2.map (IF g3 (ω:g<w.heap.size+1) (yF _));have B3:=FL B2 (yF _) g3 (λb' e=>by cases e;exact av);have bB:=FL NK (Nat.le_of_lt ed) g3 (λb' e=>by cases e;exact av);have G3:=AO G2 g3;obtain⟨c0,c1,c2,c3,c4,c5,c6,c7,c8⟩:=AC bB;have J:Ql P:=⟨Cm hP.k,Nat.le_of_eq hP.k.len⟩;clear S2 B2 NK V G2 g3
 by_cases hx:0<x
 .obtain⟨d0,d1,d2,d3,d4,d5,d6,d7,d8⟩:=AC B3
  have hH:=AK B3;obtain⟨BX,FX⟩:=fG (ok:=Ql) (M:=N+4300) h3 G3 (S3.map (λ_ _ _ _ _ _ _ h=>BS h (Nat.le_succ _))) J av cz B3 ω;unfold De at BX FX;have BH:=AA BX;have FH:=AA FX;clear BX FX B3 h3 G3 S3 bB hP J;go_wp2_with fail;exact yB (v:=.agg #[_,_,_,_,_,_,_,_,_]) (by simp[results,rM,go_sem,AC BH.u]) rfl FH.u
 have CC:=Kg _ _ _ _ _ _ _ P w3 S3.rd hP
 unfold AN at CC;go_wp2_with fail;refine CC.mono ?_;rintro e w4 ⟨m4,i4,e4,ku,s4,l4,q4,rfl,O4,b4⟩;obtain⟨⟨⟨iu,ik,gX,rfl⟩,⟨iy,iz,em,rfl⟩,⟨iL,iK,cm,rfl⟩,⟨jV,jR,jT,rfl⟩⟩,⟨j0,jX,jb,rfl⟩,⟨kh,kd,iw,rfl⟩,⟨j5,j2,ig,rfl⟩⟩:=O4.Dq;unfold AN;have h4:=h3.below b4;have jk:w.heap.size+1<=w3.heap.size:=by have:=AY bB;omega
 have D:=fF (b:=b) h4 (AO G3 (AX b4 _)) (AB bB b4) (O4.lower jk) hP av cz ed ⟨_,_,_,_,_,_,_,_,_,AB B3 b4⟩;have fz:=AK (AB bB b4);clear c0 c1 c2 c3 c4 c5 c6 c7 c8;obtain⟨c0,c1,c2,c3,c4,c5,c6,c7,c8⟩:=AC (AB bB b4);have D:=AA D;clear S3 B3 bB h3 G3 O4 b4 h4 CC;go_wp2_with fail;replace D:=D.u;unfold De at D;generalize((((((((w4.setCell _ _).setCell _ _).setCell _ _).setCell _ _).setCell _ _).setCell _ _).setCell _ _).setCell _ _).setCell _ _=w5 at D ⊢;refine(D.pk 16).mono ?_;rintro e w6 ⟨f,rfl,f0,f1,S6⟩;clear D c0 c1 c2 c3 c4 c5 c6 c7 c8 fz;go_wp2_with fail;refine(S6.pk 7).mono ?_;rintro e w7 ⟨u,rfl,u0,u1,D⟩;clear S6;obtain⟨f,rfl⟩:=yg f0;go_upto_block 0 with fail;go_cut [] (λwx=>V7 Ql w0 g (N+4200) w b wx)
 case rest=>clear D;obtain⟨m9,i9,e9,c9,s9,l9,q9,P9,h9,G9,N9,A,he,a0,a1,a2,a3,a4,a5,a6,a7,a8,B9⟩:=hcut;obtain⟨⟨⟨j9,j7,j8,rfl⟩,⟨kj,kk,ki,rfl⟩,⟨ks,kq,kr,rfl⟩,⟨jU,jQ,jS,rfl⟩⟩,⟨jZ,jW,jY,rfl⟩,⟨kg,kb,kf,rfl⟩,⟨j4,j1,j3,rfl⟩⟩:=A.Dq;obtain⟨c0,c1,c2,c3,c4,c5,c6,c7,c8⟩:=AC N9;obtain⟨d0,d1,d2,d3,d4,d5,d6,d7,d8⟩:=AC B9;have hH:=AK B9;obtain⟨BX,FX⟩:=fG (ok:=Ql) (M:=N+4300) h9 G9 A he av cz B9 ω;unfold De at BX FX;have BH:=AA BX;have FH:=AA FX;clear BX FX B9 N9 h9 G9 A;go_wp2_with fail;exact yB (v:=.agg #[_,_,_,_,_,_,_,_,_]) (by simp[results,rM,go_sem,AC BH.u]) rfl FH.u
 case first=>
  have hf:f<16:=ω;have jy:(f:Int)<16:=ω
  rcases(ω:u=0∨u=1∨u=2∨u=3∨u=4∨u=5∨u=6) with rfl|rfl|rfl|rfl|rfl|rfl|rfl
  .skip
   obtain⟨gq,hK,e1,_,_,jh,_⟩:=D.yQ.page (n:=f) (by rw[hP.zY];exact hf);rw[hP.zY] at e1;cases e1;obtain⟨c0,c1,c2,c3,c4,c5,c6,c7,c8⟩:=AC D.yQ.yU;have ae:=AY D.yQ.yU;have cd:=D.lt;go_wp2_with fail;refine Fs 7 69 1 1 [4] [.p b 6,.s gq 16 ig,.i ((f:Int)),.p g 0,.z,.p gq (f*3),.p gq (f*3)] (λix vv ww=>match ix with
    |4=>Pk 4 vv
    |_=>True) D.dr ?_ ?_
   .intro i hi o Z a wx z Y ll HL O R hg HQ HK
    match i,hi with
    |0,_|2,_|3,_|6,_=>exact sP Z HK z Y
    |1,_=>exact sL Z HK z Y (hl:=dm (gc R ae ω c6))
    |4,_=>exact dK (m:=4) Z HQ z Y HL O ω
    |5,_=>exact sI Z HK z Y (hr:=by clear Y z HK;go_simp)
   intro vs wx hR hD R
   have q4:Pk 4 (vs 4):=Be hR 4;obtain⟨x4,q4,p0,p1⟩:=q4;have q6:(vs 6)=.pointer (some ⟨gq,f*3,none⟩):=Be hR 6;clear hR;simp only[Aj,Ae,yL,yI,yJ,yH,q4,q6];simp;clear q4 q6;have A:=D.draw hD R;obtain⟨jt,fq,d0,d1,d2⟩:=A.yQ.pg (n:=f) (by rw[hP.zY];exact hf);have HR:=AA (A.page (x:=AD P.XY f) (y:= {AD P.XY f with w:=x4}) (n:=f) (j:=0) hP.zY.symm (by unfold AD;exact A9 (by rw[hP.zY];exact hf)) ψ rfl J (M:=N+4200) ω);clear A hD R D;go_wp2_with fail;go_meet;exact HR.u
  .skip
   obtain⟨gq,hK,e1,_,_,jh,_⟩:=D.yQ.page (n:=f) (by rw[hP.zY];exact hf);rw[hP.zY] at e1;cases e1;obtain⟨c0,c1,c2,c3,c4,c5,c6,c7,c8⟩:=AC D.yQ.yU;have ae:=AY D.yQ.yU;have cd:=D.lt;go_wp2_with fail;refine Fs 7 69 1 1 [4] [.p b 6,.s gq 16 ig,.i ((f:Int)),.p g 0,.z,.p gq (f*3),.p gq (f*3+1)] (λix vv ww=>match ix with
    |4=>Pk 16 vv
    |_=>True) D.dr ?_ ?_
   .intro i hi o Z a wx z Y ll HL O R hg HQ HK
    match i,hi with
    |0,_|2,_|3,_|6,_=>exact sP Z HK z Y
    |1,_=>exact sL Z HK z Y (hl:=dm (gc R ae ω c6))
    |4,_=>exact dK (m:=16) Z HQ z Y HL O ω
    |5,_=>exact sI Z HK z Y (hr:=by clear Y z HK;go_simp)
   intro vs wx hR hD R
   have q4:Pk 16 (vs 4):=Be hR 4;obtain⟨x4,q4,p0,p1⟩:=q4;have q6:(vs 6)=.pointer (some ⟨gq,f*3+1,none⟩):=Be hR 6;clear hR;simp only[Aj,Ae,yL,yI,yJ,yH,q4,q6];simp;clear q4 q6;have A:=D.draw hD R;obtain⟨jt,fq,d0,d1,d2⟩:=A.yQ.pg (n:=f) (by rw[hP.zY];exact hf);have HR:=AA (A.page (x:=AD P.XY f) (y:= {AD P.XY f with a:=x4}) (n:=f) (j:=1) hP.zY.symm (by unfold AD;exact A9 (by rw[hP.zY];exact hf)) ψ rfl J (M:=N+4200) ω);clear A hD R D;go_wp2_with fail;go_meet;exact HR.u
  .obtain⟨vs,hr⟩:=D.yQ.own.swp
   have iA:vs.length=16:=by rw[hr.2.1.1,hP.zN]
   obtain⟨gs,jK,e1,kw,kv,je,jd,jx⟩:=hr.1.zW ω;rw[iA] at e1;cases e1;have b4:=AG w7 (.cells #[ϕ,.int .i64 2,.int .i64 3,.int .i64 4] 3);have hO:AE w7 (w7.alloc (.cells #[ϕ,.int .i64 2,.int .i64 3,.int .i64 4] 3)) (.slice w7 4 4) [1,2,3,4]:=Wv w7 3 1 4 [.int .i64 1,.int .i64 2,.int .i64 3,.int .i64 4] rfl ψ;have HR:=AA (D.row (n:=f) b4 hO hP.zN.symm (by rw[hP.zN];exact hf) J (M:=N+4200) ω);have g1:(w7.alloc (.cells #[ϕ,.int .i64 2,.int .i64 3,.int .i64 4] 3)).ownsRow (w.heap.size+1) 29 1 (.slice gs 16 jb) 16 vs:=by have:=(hr.below b4).1;unfold AP at this;rwa [IM,iA] at this
   have C1:=xN g1 f ω;rw[yG ω] at C1;have F1:=xV g1 f;obtain⟨c0,c1,c2,c3,c4,c5,c6,c7,c8⟩:=AC D.yQ.yU;have js:gs<w7.heap.size:=jd;clear g1 hO b4 hr jx D;go_wp2_with fail;go_meet;rw[<-World.setCell_alloc_past _ gs f _ js];exact HR.u
  .skip
   go_wp2_with fail;refine(D.pk 20).mono ?_;rintro e w8 ⟨Hb,rfl,z0,z1,S8⟩;obtain⟨c0,c1,c2,c3,c4,c5,c6,c7,c8⟩:=AC S8.yQ.yU;have fq:=AK S8.yQ.yU;have HR:=AA (λx=>S8.FV x J (M:=N+4200) ω);clear S8 D;go_wp2_with fail;go_meet;exact HR _
  .skip
   go_wp2_with fail;refine(D.pk 9).mono ?_;rintro e w8 ⟨Hb,rfl,z0,z1,S8⟩;obtain⟨c0,c1,c2,c3,c4,c5,c6,c7,c8⟩:=AC S8.yQ.yU;have fq:=AK S8.yQ.yU;have HR:=AA (λx=>S8.lim x J (M:=N+4200) ω);clear S8 D;go_wp2_with fail;go_meet;exact HR _
  .obtain⟨gl,jJ,e1,j6,_⟩:=LA D.yQ.own.low (j:=0) (by rw[hP.zD];decide)
   rw[hP.zD] at e1;cases e1;obtain⟨c0,c1,c2,c3,c4,c5,c6,c7,c8⟩:=AC D.yQ.yU;have ae:=AY D.yQ.yU;have cd:=D.lt;go_wp2_with fail;refine Fs 6 69 1 2 [3,5] [.p b 5,.s gl 4 iw,.p g 0,.z,.p g 0,.z] (λix vv ww=>match ix with
    |3=>Pk 4 vv
    |5=>Pk 12 vv
    |_=>True) D.dr ?_ ?_
   .intro i hi o Z a wx z Y ll HL O R hg HQ HK
    match i,hi with
    |0,_|2,_|4,_=>exact sP Z HK z Y
    |1,_=>exact sL Z HK z Y (hl:=K5 (gc R ae ω c5))
    |3,_=>exact dK (m:=4) Z HQ z Y HL O ω
    |5,_=>exact dK (m:=12) Z HQ z Y HL O ω
   intro vs wx hR hD R
   have q1:(vs 1)=.slice gl 4 iw:=Be hR 1;have q3:Pk 4 (vs 3):=Be hR 3;obtain⟨x3,q3,p0,p1⟩:=q3;have q5:Pk 12 (vs 5):=Be hR 5;obtain⟨x5,q5,q0,q1⟩:=q5;clear hR;simp only[Aj,Ae,yL,yI,yJ,yH,q1,q3,q5];simp;clear q1 q3 q5;have A:=D.draw hD R;obtain⟨x3,rfl⟩:=yg p0;obtain⟨kp,iM,e1,jj,D9⟩:=LA A.yQ.own.low (j:=x3) (by rw[hP.zD];omega);rw[hP.zD] at e1;cases e1;have ow:=A.yQ.own.low;unfold AE at ow;rw[hP.zD] at ow;have fl:=xV ow x3;clear ow;have HR:=AA (A.lowx x3 x5 J (M:=N+4200) ω);clear A hD R D;go_wp2_with fail;go_meet;exact HR.u
  go_wp2_with fail
  refine(YD D.dr ω).mono ?_;rintro e w8 ⟨v,rfl,⟨m8,i8,e8,kt,k',rfl,S8,jr⟩,h8,g8⟩;obtain⟨⟨ka,kn,kc,rfl⟩,⟨ja,jn,jc,rfl⟩,⟨fa,fn,fc,rfl⟩,⟨ra,rn,rc,rfl⟩⟩:=S8.Dq;have A:=D.draw h8 g8;have fz:=AK A.yQ.yU;obtain⟨c0,c1,c2,c3,c4,c5,c6,c7,c8⟩:=AC A.yQ.yU;have cu:w.heap.size+1<=w7.heap.size:=by have:=AY D.yQ.yU;have:=D.lt;omega
  have HR:=AA (A.Ve (S8.map (λ_ _ _ _ _ _ _ x=>BS x cu)) jr (M:=N+4200) ω);clear A S8 h8 g8 D;go_wp2_with fail;go_meet;exact HR.u
section
variable {w wa W0 ww L:Ω} {g N rb:Nat} {o0 o1:Obj} {p s:Bool}
end
def R4(lo:Nat)(v:Φ)(w:Ω):Prop:=∃q o,∃x:Int,v=.pointer (some ⟨q,o,none⟩)/\lo<=q/\w.cell? ⟨q,o,none⟩=some (.int .i64 x)
def R1(k lo:Nat)(v:Φ)(w:Ω):Prop:=∃xs:List Int,xs.length=k/\AE lo w v xs
variable{x:Int}
theorem MA (mv iv ev cv sv lv qv:Φ)(P:AR)(w:Ω)(h:Kr w mv iv ev cv sv lv qv P)(hP:Dz P){a:Nat}(ha:a<64)(hx:EJ x=true):
 Ξ prog 18 #[AN mv iv ev cv sv lv qv P.FV P.U4,.int .i64 a,.int .i64 x] w (FJ w (Gg P a x)):=by
 unfold AN FJ;obtain⟨B0,B1,be,bm⟩:=IR w (.cells #[mv,iv,ev,cv,sv,lv,qv,P.FV,P.U4] 32) (.cells #[ι,ι,ι,ι,ι,ι,ι,θ,θ] 32);have h0:=h.below be;obtain⟨j,hj⟩:∃j,j=a/4:=⟨_,rfl⟩
 have q1:(a:Int)/4=(j:Int):=ω;have hA:Bo (a:Int) 0 63=true:=Aa.2 ω;have gp:=LJ (p:=P) (n:=a/4) hP ω;have gk:=λ(h:(Br P (a/4)).2=false)=>GW hP ω h
 have iI:=M9 hP ha hx;have gt:=TH (w:=x) hP ha;have cl:=λQ=>Ur (p:=P) (a:=a) (x:=x) (Q:=Q)
 have CT:=λW (R:Γ ((w.alloc (.cells #[mv,iv,ev,cv,sv,lv,qv,P.FV,P.U4] 32)).alloc (.cells #[ι,ι,ι,ι,ι,ι,ι,θ,θ] 32)).heap.size ((w.alloc (.cells #[mv,iv,ev,cv,sv,lv,qv,P.FV,P.U4] 32)).alloc (.cells #[ι,ι,ι,ι,ι,ι,ι,θ,θ] 32)) W)=>MB mv iv ev cv sv lv qv P W (h0.below R) hP (n:=a/4) ω
 rw[<-hj] at gp gt cl CT gk;generalize Br P j=t at gp gt cl CT gk;obtain⟨Q,bb⟩:=t;dsimp only at gp gt cl CT gk;go_in;go_wp2_with fail;generalize(w.alloc _).alloc _=W0 at*;have gT:=AA (CT W0 (yN _ _));have iU:=AA gp;have hV:=AA gt;have hT:=AA gk;have iT:=AA iI;have fd:=AA cl;unfold FJ at gT;simp only[AN] at gT;have au:=AA be;have cy:=AA B1;have e0:=AA bm;have HP:=AA hP;obtain⟨x0,x1,x2,x3,x4,x5,x6,x7,x8⟩:=AC B0;have hX:Bo x 0 9999=true:=hx;clear h h0 be B0 B1 hP gp gt cl gk iI CT hj bm;refine(FD _ _).mono ?_;rintro r w1 ⟨rfl,rfl⟩;rw[hA];go_wp2_with fail;refine(Gp _ _).mono ?_;rintro r w2 ⟨rfl,rfl⟩;rw[hX];go_wp2_with fail;refine gT.mono ?_;rintro r w1 ⟨m1,i1,e1,c1,s1,l1,je,rfl,O1,b1⟩;obtain⟨⟨⟨ma,mn,mc,rfl⟩,⟨ia,iN,ic,rfl⟩,⟨ea,en,ec,rfl⟩,⟨qa,qn,qc,rfl⟩⟩,⟨sa,sn,sc,rfl⟩,⟨la,ln,lc,rfl⟩,⟨pa,pn,pc,rfl⟩⟩:=O1.Dq;have I2:=Hj.start O1 b1.size;have b2:=b1.trans ((AG w1 (.cells #[.slice ma mn mc,.slice ia iN ic,.slice ea en ec,.slice qa qn qc,.slice sa sn sc,.slice la ln lc,.slice pa pn pc,Q.FV,Q.U4] 32)).mono b1.size);have iV:=AA I2;have bi:=AA b2;have B1:=AB cy b2;have hY:=AA (au.trans (b2.mono au.size));clear O1 b1 x0 x1 x2 x3 x4 x5 x6 x7 x8 gT I2 b2;cases bb
 .have e:=hV rfl
  have J:=hT rfl;have He:=AA e;clear e hV fd hT;subst J;have O5:=iV.own;have b5:=(λW:Ω=>yN W W) (w1.alloc (.cells #[.slice ma mn mc,.slice ia iN ic,.slice ea en ec,.slice qa qn qc,.slice sa sn sc,.slice la ln lc,.slice pa pn pc,Q.FV,Q.U4] 32));have N5:=AB B1 b5;have S5:=Bg N5 O5;obtain⟨a0,a1,a2,a3,a4,a5,a6,a7,a8⟩:=AC N5;have f5:=AK N5;have fg:=AA S5;have cT:=AA b5;have gz:=AA (AY B1);clear O5 S5 N5 b5 B1;go_wp2_with fail;clear a0 a1 a2 a3 a4 a5 a6 a7 a8 f5;obtain⟨N6,O6,cF⟩:=fg.u;have B6:=AM (hY.trans (cT.mono (by have:=hY.size;have:=gz.u;omega))) cF ω (by have:=hY.size;have:=cT.size;omega);have O7:=O6.lower (lo':=w.heap.size) (by have:=e0.u;omega);unfold De at N6 O7 B6;exact yB (v:=.tuple #[.agg #[.slice ma mn mc,.slice ia iN ic,.slice ea en ec,.slice qa qn qc,.slice sa sn sc,.slice la ln lc,.slice pa pn pc,Q.FV,Q.U4],υ]) (by simp[results,rL,go_sem,AC N6]) rfl (by rw[He.u];exact⟨_,_,_,_,_,_,_,rfl,O7,B6⟩)
 have e:=fd Q rfl
 have C3:=J9 iV bi.size iU.k ⟨11,0,(a:Int),x,0,⟨#[]⟩⟩ (ψ:(0:Int)<=0) (ψ:(0:Int)<3) (yu _) (ψ:(0:Int)<=9223372036854775807);unfold ZK at C3;rw[MI (t:=gA) ⟨ψ,ψ,ψ⟩,show(⟨11,0,(a:Int),x,0,gA⟩:AV)=Ah 11 (a:Int) x 0 from rfl] at C3;have ky:=AA (F6 (kind:=11) (a:=(a:Int)) (b:=x) (c:=0) iU.k);have ft:=iT.u;rw[e] at ft;have He:=AA e;have jO:=AA ft;have iW:=AA C3;clear C3 e fd hV iT ft hT;generalize Ad Q.Ve (Ah 11 (a:Int) x 0)=res at*;go_wp2_with fail;generalize w1.heap.size=g2 at*;generalize w1.alloc _=W2 at*;refine iW.mono ?_;rintro r w3 ⟨rfl,⟨m3,i3,e3,c3,I3,_⟩,iF,jw⟩;have iJ:=AA (bi.trans iF);obtain⟨x0,x1,x2,x3,x4,x5,x6,x7,x8⟩:=AC I3.yU;have ft:Dz {Q with Ve:=res.1}:=jO.u;have C5:=AA (Jd _ _ _ _ _ _ _ {Q with Ve:=res.1} w3 I3.own.rd ft);have B3:=AB cy iJ.u;have dg:=AA (au.trans (iJ.mono au.size));clear iF jw iW I3 B1 ft;go_wp2_with fail;refine C5.mono ?_;rintro r w5 ⟨m5,i5,e5,c5,s5,l5,q5,rfl,O5,b5⟩;unfold AN;clear x0 x1 x2 x3 x4 x5 x6 x7 x8 C5;obtain⟨⟨⟨ma,mn,mc,rfl⟩,⟨ia,iN,ic,rfl⟩,⟨ea,en,ec,rfl⟩,⟨qa,qn,qc,rfl⟩⟩,⟨sa,sn,sc,rfl⟩,⟨la,ln,lc,rfl⟩,⟨pa,pn,pc,rfl⟩⟩:=O5.Dq;have N5:=AB B3 b5;have S5:=Bg N5 O5;obtain⟨a0,a1,a2,a3,a4,a5,a6,a7,a8⟩:=AC N5;have f5:=AK N5;have fg:=AA S5;have cT:=AA b5;have gz:=AA (AY B3);clear O5 S5 N5 b5 B3;go_wp2_with fail;clear a0 a1 a2 a3 a4 a5 a6 a7 a8 f5;obtain⟨N6,O6,cF⟩:=fg.u;have B6:=AM (dg.trans (cT.mono (by have:=dg.size;have:=gz.u;omega))) cF ω (by have:=dg.size;have:=cT.size;omega);have O7:=O6.lower (lo':=w.heap.size) (by have:=dg.size;omega);unfold De at N6 O7 B6;exact yB (v:=.tuple #[.agg #[.slice ma mn mc,.slice ia iN ic,.slice ea en ec,.slice qa qn qc,.slice sa sn sc,.slice la ln lc,.slice pa pn pc,Q.FV,Q.U4],τ]) (by simp[results,rL,go_sem,AC N6]) rfl (by rw[He.u];exact⟨_,_,_,_,_,_,_,rfl,O7,B6⟩)
def EF(ss:List Ax):List Φ:=ss.flatMap λs=>s.cells.toList
variable{s:Ax}
variable{ss:List Ax}
theorem Vv (h:ss[k]?=some s)(hj:j<9):(EF ss)[k*9+j]?=s.cells[j]? :=by
 induction ss generalizing k with
 |nil=>simp at h
 |cons s' ss ih=>
  have hl:s'.cells.toList.length=9:=rfl;cases k with
  |zero=>simp only[List.getElem?_cons_zero,Option.some.injEq] at h;subst h;rw[EF,sp,List.getElem?_append_left ω];simp
  |succ k=>
   rw[List.getElem?_cons_succ] at h;have:=ih h;rw[EF,sp,List.getElem?_append_right ω,hl,<-this]
   congr 1
   omega
def DA(w:Ω)(v:Φ)(ss:List Ax):Prop:=Rd w v 9 ss.length (EF ss)
def Mj(w:Ω)(a:Option Addr)(ss:List Ax):Prop:=
 ∀k s,ss[k]?=some s->∃b ao,a=some ⟨b,ao,none⟩/\∀j,j<9->w.cell? ⟨b,ao+k*9+j,none⟩=s.cells[j]?
theorem DA.open (h:DA w v ss):
 ∃a ar,v=.slice a ss.length ar/\ss.length<=ar/\ar<=maxLen/\Mj w a ss:=by
 obtain⟨a,ar,rfl,jq,bx,hl,_,hc⟩:=h;refine⟨a,ar,rfl,jq,bx,λk s H=>?_⟩;have av:=(yD.1 H).1;obtain⟨b,ao,rfl,gh⟩:=hc ω;refine⟨b,ao,rfl,λj hj=>?_⟩;rw[Nat.add_assoc,gh (k*9+j) ω,Vv H hj]
def DB(ss:List Ax):Bool:=decide (ss.length<=80)&&ss.all Ax.ok
variable{a:Option Addr}
theorem Mj.cells (h:Mj w a ss)(E:Γ w w L)(H:ss[k]?=some s):
 ∃b ao,a=some ⟨b,ao,none⟩/\∀j u,s.cells[j]?=some u->L.cell? ⟨b,ao+k*9+j,none⟩=some u:=by
 obtain⟨b,ao,rfl,hc⟩:=h k s H;refine⟨b,ao,rfl,λj u hu=>?_⟩;have hj:j<9:=(Array.getElem?_eq_some_iff.1 hu).1;have:=(hc j hj).trans hu;exact(E.cell (World.block_lt_of_cell? w _ this)).trans this
theorem Mj.nine (h:Mj w a ss)(E:Γ w w L)(H:ss[k]?=some s):
 ∃b ao,a=some ⟨b,ao,none⟩/\L.cell? ⟨b,ao+k*9,none⟩=some (.int .i64 s.k)/\L.cell? ⟨b,ao+k*9+1,none⟩=some (.int .i64 s.a)/\L.cell? ⟨b,ao+k*9+2,none⟩=some (.int .i64 s.x)/\
  L.cell? (b,ao+k*9+3)=some (.int .i64 s.ck)/\L.cell? (b,ao+k*9+4)=some (.int .i64 s.ce)/\L.cell? (b,ao+k*9+5)=some (.int .i64 s.ca)/\
  L.cell? (b,ao+k*9+6)=some (.int .i64 s.cb)/\L.cell? (b,ao+k*9+7)=some (.int .i64 s.cc)/\L.cell? (b,ao+k*9+8)=some (.string s.nm):=by
 obtain⟨b,ao,rfl,hc⟩:=h.cells E H;exact⟨b,ao,rfl,hc 0 _ rfl,hc 1 _ rfl,hc 2 _ rfl,hc 3 _ rfl,hc 4 _ rfl,hc 5 _ rfl,hc 6 _ rfl,hc 7 _ rfl,hc 8 _ rfl⟩
theorem XG (J:ss[k]?=some s)(h:s.ok=false):DB ss=false:=by simp only[DB,Bool.and_eq_false_iff];exact .inr (wZ.2 ⟨s,yw J,by simp[h]⟩)
theorem Vy (h:∀(j:Nat) s,ss[j]?=some s->s.ok=true):DB ss=decide ((ss.length:Int)<=80):=by
 have:ss.all Ax.ok=true:=ym.2 λs J=>by obtain⟨j,hj⟩:=xO J;exact h j s hj
 rw[DB,this,Bool.and_true]
 by_cases h8:ss.length<=80
 .have:(ss.length:Int)<=80:=ω
  simp[h8,this]
 have:¬(ss.length:Int)<=80:=ω;simp[h8,this]
theorem TG (h:∀(j:Nat) s,j<k->ss[j]?=some s->s.ok=true)(J:ss[k]?=some s)(ai:s.ok=true):∀(j:Nat) s,j<k+1->ss[j]?=some s->s.ok=true:=by
 intro j s' hj gY
 rcases Nat.lt_succ_iff_lt_or_eq.1 hj with h'|h'
 .exact h j s' h' gY
 subst h'
 rw[J] at gY;cases gY;exact ai
theorem IB (v:Φ)(ss:List Ax)(w:Ω)(h:DA w v ss):
 Ξ prog 17 #[v] w λe L=>e=.returned (.bool (DB ss))/\Γ w w L:=by
 obtain⟨a,c,hv,hc,bx,H0⟩:=h.open;subst hv;unfold maxLen at bx;go_in;go_wp2_with fail;go_loopw [3] (λi wr=>∃k:Nat,k<=ss.length/\i=.int .i64 k/\(∀j s,j<k->ss[j]?=some s->s.ok=true)/\Γ w w wr) (λi _=>ss.length - (intOf i).toNat)
 exact⟨0,yu _,rfl,λj s hj=>absurd hj (xU _),yN _ _⟩
 obtain⟨k,H,rfl,bC,ad⟩:=hrel;have cp:=AA bC;clear bC
 by_cases av:k<ss.length
 .obtain⟨s,J⟩:∃s,ss[k]?=some s:=⟨_,yG av⟩
  obtain⟨b,ao,rfl,D0,D1,D2,D3,D4,D5,D6,D7,D8⟩:=H0.nine ad J;have Hs:=AA J;clear J;cases ai:s.ok
  .have S:=AA (XG Hs ai)
   have cP:=AA ai;clear ai;go_wp2_with (go_at_call 47;refine(QH s _).mono ?_;rintro e w1 ⟨rfl,ax⟩;rw[cP.u]);go_ret;exact⟨AF S.symm,ad.trans (ax.mono ad.size)⟩
  have cP:=AA ai;clear ai
  go_wp2_with (go_at_call 47;refine(QH s _).mono ?_;rintro e w1 ⟨rfl,ax⟩;rw[cP.u]);go_roundw;exact⟨k+1,ω,ξ,TG cp Hs cP.u,ad.trans (ax.mono ad.size)⟩;simp[intOf];omega
 have S:=AA (Vy (ss:=ss) (λj s J=>cp j s (by have:=(yD.1 J).1;omega) J))
 go_wp2;go_ret;exact⟨AF S.symm,ad⟩
theorem Lr (s:Ax)(w:Ω):
 Ξ prog 74 #[s.val] w λe L=>e=.returned (.bool (!s.ok))/\Γ w w L:=by
 have Hs:=AA (λw=>Yh s w);obtain⟨k,a,x,ck,ce,ca,cb,cc,nm⟩:=s;simp only[Ax.val,Ax.cells] at Hs ⊢;go_in;go_wp2_with (go_at_call 75;refine(Hs _).mono ?_;rintro e w1 ⟨rfl,ad⟩);go_ret;exact⟨rfl,((yN _ _).alloc (yF _) _).trans (ad.mono χ)⟩
def eC(ss:List Ax)(n:Int):Prop:=(n= -1/\ss.all Ax.ok=true)∨(0<=n/\ss.all Ax.ok=false)
theorem Nh (v:Φ)(ss:List Ax)(w:Ω)(h:DA w v ss):
 Ξ prog 140 #[v,.func (.func 74) #[] #[]] w λe L=>∃n,e=.returned (.int .i64 n)/\eC ss n/\Γ w w L:=by
 obtain⟨a,c,hv,hc,bx,H0⟩:=h.open;subst hv;unfold maxLen at bx;have hF:∀args w,(callFunc 74 args).run prog w=.ok (.enter 74 args) w:=λ_ _=>φ
 go_in;go_wp2_with fail;go_loopw [8] (λi wr=>∃k:Nat,k<=ss.length/\i=.int .i64 k/\(∀j s,j<k->ss[j]?=some s->s.ok=true)/\Γ w w wr) (λi _=>ss.length - (intOf i).toNat)
 exact⟨0,yu _,rfl,λj s hj=>absurd hj (xU _),yN _ _⟩
 obtain⟨k,H,rfl,bC,ad⟩:=hrel;have cp:=AA bC;clear bC
 by_cases av:k<ss.length
 .obtain⟨s,J⟩:∃s,ss[k]?=some s:=⟨_,yG av⟩
  obtain⟨b,ao,rfl,D0,D1,D2,D3,D4,D5,D6,D7,D8⟩:=H0.nine ad J;have Hs:=AA J;clear J;cases ai:s.ok
  .have S:=AA (wZ.2 ⟨s,yw Hs.u,by simp[ai]⟩:ss.all Ax.ok=false)
   have cP:=AA ai;clear ai;go_wp2_with (refine(Lr s _).mono ?_;rintro e w1 ⟨rfl,ax⟩;rw[cP.u]);go_ret;exact⟨k,rfl,.inr ⟨ω,S.u⟩,ad.trans (ax.mono ad.size)⟩
  have cP:=AA ai;clear ai
  go_wp2_with (refine(Lr s _).mono ?_;rintro e w1 ⟨rfl,ax⟩;rw[cP.u]);go_roundw;exact⟨k+1,ω,ξ,TG cp Hs cP.u,ad.trans (ax.mono ad.size)⟩;simp[intOf];omega
 have S:=AA (ym.2 λs J=>by
  obtain⟨j,hj⟩:=xO J;exact cp j s (by have:=(yD.1 hj).1;omega) hj:ss.all Ax.ok=true)
 go_wp2;go_ret;exact⟨-1,rfl,.inl ⟨rfl,S.u⟩,ad⟩
theorem Lx (v:Φ)(ss:List Ax)(w:Ω)(h:DA w v ss):
 Ξ prog 73 #[v,.func (.func 74) #[] #[]] w λe L=>e=.returned (.bool (!ss.all Ax.ok))/\Γ w w L:=by
 go_in;go_wp2_with (go_at_call 140;refine(Nh _ ss _ h).mono ?_;rintro e w1 ⟨n,rfl,hn,ad⟩);go_ret;refine⟨AF ?_,ad⟩
 rcases hn with⟨rfl,h⟩|⟨h0,h⟩
 .simp[h]
 simp[h,h0]
theorem Ls (v:Φ)(ss:List Ax)(w:Ω)(h:DA w v ss):
 Ξ prog 36 #[v] w λe L=>e=.returned (.bool (DB ss))/\Γ w w L:=by
 obtain⟨a,c,hv,hc,bx,_⟩:=h.open;subst hv;unfold maxLen at bx
 by_cases h8:ss.length<=80
 .have S:=AA (show DB ss=ss.all Ax.ok by simp[DB,h8])
  go_in;go_wp2_with (go_at_call 73;refine(Lx _ ss _ h).mono ?_;rintro e w1 ⟨rfl,ad⟩);go_ret;exact⟨AF S.symm,ad⟩
 have S:=AA (show DB ss=false by simp[DB,h8])
 go_in;go_wp2;go_ret;exact⟨AF S.symm,yN _ _⟩
theorem Gv (h:DB ss=true)(J:ss[k]?=some s):s.ok=true:=by simp only[DB,yC] at h;exact ym.1 h.2 s (yw J)
theorem QZ (h:DB ss=true):ss.length<=80:=by simp only[DB,yC,decide_eq_true_eq] at h;exact h.1
theorem Qr (h:s.ok=true)(H:s.k=1):0<=s.a/\s.a<=63:=by rw[Ax.ok,if_pos H] at h;exact Aa.1 h
theorem Oi (h:s.ok=true)(H:s.k=2):0<=s.a/\s.a<=63:=by rw[Ax.ok,if_neg ω,if_pos H,yC] at h;exact Aa.1 h.1
def Ax.kall(s:Ax):AV:=⟨s.ck,s.ce,s.ca,s.cb,s.cc,s.nm⟩
def QL(r:AR×Int×Bool):Int:=if r.2.2=true then r.2.1 else -1
def CZ(st:AR×List Int)(s:Ax):AR×List Int:=
 if s.k=1 then((IW st.1 s.a.toNat).1,st.2++[QL (IW st.1 s.a.toNat)])
 else if s.k=2 then((Gg st.1 s.a.toNat s.x).1,st.2)
 else((Io st.1 s.kall).1,st.2)
def DK(p:AR)(ss:List Ax):AR×List Int:=ss.foldl CZ (p,[])
theorem aB (p:AR)(ss:List Ax)(s:Ax):DK p (ss++[s])=CZ (DK p ss) s:=by simp[DK]
variable{P p:AR}
theorem Pr (h:ss[k]?=some s):DK p (ss.take (k+1))=CZ (DK p (ss.take k)) s:=by rw[DQ h,aB]
theorem My{st:AR×List Int}(h:s.k=1):CZ st s=((IW st.1 s.a.toNat).1,st.2++[QL (IW st.1 s.a.toNat)]):=by simp[CZ,h]
theorem Mz{st:AR×List Int}(h:s.k=2):CZ st s=((Gg st.1 s.a.toNat s.x).1,st.2):=by simp[CZ,h]
theorem M5{st:AR×List Int}(X:s.k≠1)(V:s.k≠2):CZ st s=((Io st.1 s.kall).1,st.2):=by simp[CZ,X,V]
theorem Vg (p:AR)(o o':List Int)(s:Ax):CZ (p,o++o') s=((CZ (p,o') s).1,o++(CZ (p,o') s).2):=by
 unfold CZ
 split
 .simp
 split<;>rfl
theorem aA (ss:List Ax)(p:AR)(o o':List Int):ss.foldl CZ (p,o++o')=((ss.foldl CZ (p,o')).1,o++(ss.foldl CZ (p,o')).2):=by
 induction ss generalizing p o' with
 |nil=>rfl
 |cons s ss ih=>simp only[yJ];rw[Vg];have:=ih (CZ (p,o') s).1 (CZ (p,o') s).2;rw[this]
theorem YQ (p:AR)(ss tt:List Ax):DK p (ss++tt)=((DK (DK p ss).1 tt).1,(DK p ss).2++(DK (DK p ss).1 tt).2):=by unfold DK;rw[List.foldl_append];have:=aA tt (ss.foldl CZ (p,[])).1 (ss.foldl CZ (p,[])).2 [];rw[List.append_nil] at this;rw[<-this]
theorem Qs (h:s.ok=true)(H:s.k=2):EJ s.x=true:=by rw[Ax.ok,if_neg ω,if_pos H,yC] at h;exact h.2
theorem Sa (h:s.ok=true)(X:s.k≠1)(V:s.k≠2):s.k=3/\(s.kall.e=1∨s.kall.e=2):=by
 rw[Ax.ok,if_neg X,if_neg V] at h
 by_cases h3:s.k=3
 .rw[if_pos h3] at h
  have:=Aa.1 h;refine⟨h3,?_⟩
  show s.ce=1∨s.ce=2
  omega
 rw[if_neg h3] at h;cases h
theorem Ww (h:Dz p)(J:s.ok=true)(o:List Int):Dz (CZ (p,o) s).1:=by
 by_cases X:s.k=1
 .rw[My X]
  have:=Qr J X;exact SN h ω
 by_cases V:s.k=2
 .rw[Mz V]
  have:=Oi J V;exact M9 h ω (Qs J V)
 rw[M5 X V]
 exact(Sc h (Sa J X V).2).1
theorem Qt (h:Dz p)(J:∀s∈ss,s.ok=true)(o:List Int):Dz (ss.foldl CZ (p,o)).1:=by
 induction ss generalizing p o with
 |nil=>exact h
 |cons s ss ih=>simp only[yJ];exact ih (Ww h (J s (List.mem_cons_self ..)) o) (λt ht=>J t (List.mem_cons_of_mem _ ht)) _
theorem MV (ss:List Ax)(p:AR)(o:List Int):(ss.foldl CZ (p,o)).2.length<=o.length+ss.length:=by
 induction ss generalizing p o with
 |nil=>simp
 |cons s ss ih=>
  simp only[yJ,List.length_cons];have X:=ih (CZ (p,o) s).1 (CZ (p,o) s).2;have V:(CZ (p,o) s).2.length<=o.length+1:=by
   unfold CZ
   split
   .simp
   split<;>simp
  have e:((CZ (p,o) s).1,(CZ (p,o) s).2)=CZ (p,o) s:=rfl;rw[e] at X;omega
def LS(lo:Nat)(v:Φ)(w:Ω)(x:Int):Prop:=∃g,v=.slice (some ⟨g,0,none⟩) 1 1/\lo<=g/\w.heap[g]?=some (.cells #[x] 3 (0,0))
theorem LS.past{row:Option Nat}(h:LS lo v w x)(K:w.grownBy L row)(hr:∀k,row=some k->k<lo):LS lo v L x:=by obtain⟨g,X,V,h3⟩:=h;exact⟨g,X,V,FL h3 V K hr⟩
theorem EI.past{m i e c s l q:Φ}{row:Option Nat}(h:EI lo w m i e c s l q P)(K:w.grownBy L row)(hr:∀b,row=some b->b<lo):EI lo L m i e c s l q P:=by
 obtain⟨X,⟨vs,V,h3,h4⟩,h5,h6,h7⟩:=h;exact⟨X.past K hr,⟨vs,Bc V K hr,h3.mono λ_ _ x=>Bc x K hr,h4⟩,Bc h5 K hr,Bc h6 K hr,h7⟩
structure XT(lo g:Nat)(o:Φ)(st:AR×List Int)(w wr:Ω)(m i e c s l q:Φ):Prop where
 yQ:Hj lo g wr m i e c s l q st.1
 wds:AE lo wr o st.2
 bel:Γ lo w wr
 lo:lo<=wr.heap.size
section
variable {lo g:Nat} {o m i e c s l q m' i' e' c' s' l' q':Φ} {st:AR×List Int} {w wr w1:Ω} {Q:AR}
theorem XT.below(h:XT lo g o st w wr m i e c s l q)(E:Γ wr wr w1):XT lo g o st w w1 m i e c s l q:=
 ⟨h.yQ.below E,h.wds.below E,h.bel.trans (E.mono h.lo),yM h.lo E.size⟩
theorem XT.put(h:XT lo g o st w wr m i e c s l q)(E:Γ wr wr w1)(hG:EI wr w1 m' i' e' c' s' l' q' Q):
 XT lo g o (Q,st.2) w (((De w1 g m' i' e' c' s' l' q').setCell (g,7) (.int .i64 Q.FV)).setCell (g,8) (.int .i64 Q.U4)) m' i' e' c' s' l' q':=by
 have h':=h.below E;have S:=Bg h'.yQ.yU hG;exact⟨⟨S.1,h.yQ.yT,S.2.1.lower h.lo⟩,DY h'.wds S.2.2 h'.yQ.yU,AM h'.bel S.2.2 h.yQ.yT h'.lo,yM h'.lo S.2.2.size⟩
theorem XT.push{w2:Ω}{o':Φ}{x:Int}(h:XT lo g o st w wr m i e c s l q)(E:Γ wr wr w1)(hG:EI wr w1 m' i' e' c' s' l' q' Q)(K:w1.grownBy w2 o.ownBlock)(Z:AE lo w2 o' (st.2++[x])):
 w2.heap[g]?=some (.cells #[m,i,e,c,s,l,q,st.1.FV,st.1.U4] 32 (0,0))/\
 XT lo g o' (Q,st.2++[x]) w (((De w2 g m' i' e' c' s' l' q').setCell (g,7) (.int .i64 Q.FV)).setCell (g,8) (.int .i64 Q.U4)) m' i' e' c' s' l' q':=by
 have h':=h.below E;have bp:∀b,o.ownBlock=some b->b<wr.heap.size:=λb E=>(yE h.wds b E).2
 have bY:=DH h'.wds h'.yQ.yU ψ;have hB:=(K.block g (AY h'.yQ.yU) (λe=>bY e.symm)).trans h'.yQ.yU;have S:=Bg hB (hG.past K bp);have b2:=h'.bel.grown K h'.lo (λk H=>(yE h'.wds k H).1);exact⟨hB,⟨S.1,h.yQ.yT,S.2.1.lower h.lo⟩,DY Z S.2.2 hB,AM b2 S.2.2 h.yQ.yT (yM h'.lo K.size),yM (yM h'.lo K.size) S.2.2.size⟩
end
def KG(w:Ω)(t:AR×List Int)(r:Ending)(L:Ω):Prop:=∃m i e c s l q o,r=.returned (.tuple #[AN m i e c s l q t.1.FV t.1.U4,o])/\EI w L m i e c s l q t.1/\AE w L o t.2/\Γ w w L
def dU(r:Ending):Prop:=r=.returned (.tuple #[AN (.slice none 0 0) (.slice none 0 0) (.slice none 0 0) (.slice none 0 0) (.slice none 0 0) (.slice none 0 0) (.slice none 0 0) 0 0,ι])
theorem U3 (mv iv ev cv sv lv qv v:Φ)(P:AR)(ss:List Ax)(w:Ω)(h:Kr w mv iv ev cv sv lv qv P)(J:KH P.Ve)(ay:DA w v ss)(gb:(By P&&DB ss)=false):
 Ξ prog 13 #[AN mv iv ev cv sv lv qv P.FV P.U4,v] w λr L=>dU r/\Γ w w L:=by
 unfold AN;obtain⟨B0,B1,be,bm⟩:=IR w (.cells #[mv,iv,ev,cv,sv,lv,qv,P.FV,P.U4] 32) (.cells #[ι,ι,ι,ι,ι,ι,ι,θ,θ] 32);have h0:=h.below be;have bw:=AA (λW (R:Γ w w W)=>Ls v ss W (Rd.below ay R));go_in;go_wp2_with fail;generalize(w.alloc _).alloc _=W0 at*;have CV:=AA (λW (R:Γ W0 W0 W)=>Gk mv iv ev cv sv lv qv P W (h0.below R) J);have au:=AA be;have cy:=AA B1;generalize By P=ok at*;clear h h0 be B0 bm ay;refine(CV W0 (yN _ _)).mono ?_;rintro r w1 ⟨rfl,b1⟩;have Bw:=AA (au.trans (b1.mono au.size));have N1:=AB cy b1;clear b1 B1 CV;cases ok
 focus
  clear bw
 rotate_left
 focus
  go_wp2_with fail
  refine(bw _ Bw.u).mono ?_;rintro r w2 ⟨rfl,b2⟩;rw[show DB ss=false by simpa using gb];replace N1:=AB N1 b2;replace Bw:=AA (Bw.trans (b2.mono Bw.size));clear b2 bw
 rotate_left
 all_goals
  have f1:=AK N1;obtain⟨a0,a1,a2,a3,a4,a5,a6,a7,a8⟩:=AC N1;have S2:=AA (Ko N1 (Bw.u) ω);clear N1;go_wp2_with fail;clear a0 a1 a2 a3 a4 a5 a6 a7 a8 f1;obtain⟨N2,B2⟩:=S2.u;unfold De at N2 B2;exact yB (v:=.tuple #[.agg #[_,_,_,_,_,_,_,_,_],_]) (by simp[results,rK,go_sem,AC N2]) rfl ⟨rfl,B2⟩
theorem U2 (mv iv ev cv sv lv qv v:Φ)(P:AR)(ss:List Ax)(w:Ω)(h:Kr w mv iv ev cv sv lv qv P)(hP:Dz P)(ay:DA w v ss)(ai:DB ss=true)(gj:∀k,Dz (DK P (ss.take k)).1)
 (bl:∀s∈ss,s.k=3->∀(mv iv ev cv sv lv qv:Φ)(Q:AR)(W:Ω),Kr W mv iv ev cv sv lv qv Q->Dz Q->Ξ prog 8 #[AN mv iv ev cv sv lv qv Q.FV Q.U4,.agg #[s.ck,s.ce,s.ca,s.cb,s.cc,s.nm]] W (JS W (Io Q s.kall))):
 Ξ prog 13 #[AN mv iv ev cv sv lv qv P.FV P.U4,v] w (KG w (DK P ss)):=by
 unfold AN KG;obtain⟨B0,B1,be,bm⟩:=IR w (.cells #[mv,iv,ev,cv,sv,lv,qv,P.FV,P.U4] 32) (.cells #[ι,ι,ι,ι,ι,ι,ι,θ,θ] 32);have h0:=h.below be;have ga:By P=true:=EB.2 hP;have bw:=AA (λW (R:Γ w w W)=>Ls v ss W (Rd.below ay R));rw[ai] at bw;have jC:=QZ ai;have e7:=AA ai;have cN:=AA bl;have df:=AA gj;obtain⟨a,ar,rfl,jz,bx,H0⟩:=ay.open;unfold maxLen at bx;have HA:=AA H0;generalize hPL:DK P ss=t;obtain⟨Q,so⟩:=t;dsimp only;have fv:=AA hPL;clear hPL;go_in;go_wp2_with fail;generalize(w.alloc _).alloc _=W0 at*;have CV:=AA (λW (R:Γ W0 W0 W)=>Gk mv iv ev cv sv lv qv P W (h0.below R) (Cm hP.k));have CO:=AA (λW (R:Γ W0 W0 W)=>Jd mv iv ev cv sv lv qv P W (h0.below R) hP);rw[ga] at CV;have au:=AA be;have gM:=AA B0;have cy:=AA B1;have kx:=AA hP;have e0:=AA bm;clear h h0 be B0 B1 hP ga bm H0 ay ai bl gj;refine(CV W0 (yN _ _)).mono ?_;rintro r w1 ⟨rfl,b1⟩;obtain⟨x0,x1,x2,x3,x4,x5,x6,x7,x8⟩:=AC (AB gM b1);have ek:=AA b1;clear b1 CV;go_wp2_with fail;refine(bw _ (au.trans (ek.mono au.size))).mono ?_;rintro r w2 ⟨rfl,b2⟩;have bi:=AA (ek.trans (b2.mono ek.size));clear b2 x0 x1 x2 x3 x4 x5 x6 x7 x8;obtain⟨x0,x1,x2,x3,x4,x5,x6,x7,x8⟩:=AC (AB gM bi.u);go_wp2_with fail;refine(CO w2 bi.u).mono ?_;rintro r w3 ⟨m3,i3,e3,c3,s3,l3,q3,rfl,O3,b3⟩;unfold AN;obtain⟨⟨⟨ma,mn,mc,rfl⟩,⟨ia,iN,ic,rfl⟩,⟨ea,en,ec,rfl⟩,⟨qa,qn,qc,rfl⟩⟩,⟨sa,sn,sc,rfl⟩,⟨la,ln,lc,rfl⟩,⟨pa,pn,pc,rfl⟩⟩:=O3.Dq;have gd:W0.heap.size<=w3.heap.size:=yM bi.size b3.size;have I4:=Hj.start (O3.lower bi.size) gd;have b4:Γ W0 W0 (w3.alloc (.cells #[.slice ma mn mc,.slice ia iN ic,.slice ea en ec,.slice qa qn qc,.slice sa sn sc,.slice la ln lc,.slice pa pn pc,P.FV,P.U4] 32)):=bi.trans ((b3.mono bi.size).trans ((AG _ _).mono gd));have D:XT W0 w3.heap.size (.slice none 0 0) (P,[]) W0 (w3.alloc (.cells #[.slice ma mn mc,.slice ia iN ic,.slice ea en ec,.slice qa qn qc,.slice sa sn sc,.slice la ln lc,.slice pa pn pc,P.FV,P.U4] 32)) _ _ _ _ _ _ _:=⟨I4,World.ownsRow_nil _ _ _ _,b4,b4.size⟩;clear O3 b3 x0 x1 x2 x3 x4 x5 x6 x7 x8 I4 b4 CO bw;go_wp2_with fail;generalize w3.heap.size=g at*;generalize w3.alloc _=W3 at*;have am:=AA D;clear D;go_loopw [7,9,10,11,12,26] (λo _ _ _ _ ix wr=>∃k:Nat,k<=ss.length/\ix=.int .i64 k/\∃ov,ov=o/\∃m i e c s l q,XT W0 g ov (DK P (ss.take k)) W0 wr m i e c s l q) (λ_ _ _ _ _ ix _=>ss.length - (intOf ix).toNat)
 exact⟨0,yu _,rfl,_,rfl,_,_,_,_,_,_,_,am.u⟩
 clear am;obtain⟨k,H,rfl,ov,rfl,m5,i5,e5,c5,s5,l5,q5,D⟩:=hrel;have eD:=au.trans (D.bel.mono au.size)
 by_cases av:k<ss.length
 .obtain⟨x,hx⟩:∃x,ss[k]?=some x:=⟨_,yG av⟩
  obtain⟨b,ao,rfl,D0,D1,D2,D3,D4,D5,D6,D7,D8⟩:=HA.nine eD hx;have g0:(k:Int)<(ss.length:Int):=ω;have Nx:=AA (Pr (p:=P) hx);have Sm:=cN x (yw hx);have al:=Gv e7 hx;have aq:Dz (DK P (ss.take k)).1:=df k;have az:(DK P (ss.take k)).2.length<=80:=by have:=MV (ss.take k) P [];unfold DK;simp only[xi,yr] at this;omega
  generalize DK P (ss.take k)=st at D Nx aq az;clear fv;obtain⟨Pk,so⟩:=st;obtain⟨xk,xa,xx,ck,ce,ca,cb,cc,nm⟩:=x;dsimp only at D0 D1 D2 D3 D4 D5 D6 D7 D8 Sm aq az;have gR:=D.below (AG wr (.cells #[xk,xa,xx,ck,ce,ca,cb,cc,nm] 52));obtain⟨z0,z1,z2,z3,z4,z5,z6,z7,z8⟩:=AC gR.yQ.yU;have eL:=AA az;have fk:=AA aq;have jo:=gR.yQ.own.Dq;have f6:=hx;clear D hx aq az eD jo;have bq:=AA gR;clear gR
  by_cases X:xk=1
  .subst X
   obtain⟨ci,cg⟩:=Qr al rfl;obtain⟨an,rfl⟩:∃an:Nat,xa=(an:Int):=⟨xa.toNat,by simp only at ci;omega⟩
   have hE:an<64:=by simp only at cg;omega
   have hb:=My (st:=(Pk,so)) (s:=⟨1,(an:Int),xx,ck,ce,ca,cb,cc,nm⟩) rfl;rw[show(⟨1,(an:Int),xx,ck,ce,ca,cb,cc,nm⟩:Ax).a.toNat=an from rfl] at hb;have CL:=NM _ _ _ _ _ _ _ Pk _ bq.yQ.own.rd fk hE;unfold LQ at CL;simp only[AN] at CL;dsimp only at hb;generalize IW Pk an=res at hb CL;obtain⟨Q,vr,ok⟩:=res;have ej:=Nx.trans hb;have bt:=AA CL;have br:=AA ej;clear hb CL Nx ej al ci cg f6 Sm;go_wp2_with fail;clear D0 D1 D2 D3 D4 D5 D6 D7 D8 z0 z1 z2 z3 z4 z5 z6 z7 z8;generalize wr.heap.size=gs at*;generalize wr.alloc _=W5 at*;have am:=bq;refine bt.mono ?_;rintro r w1 ⟨m6,i6,e6,c6,s6,l6,q6,rfl,O1,b1⟩;obtain⟨⟨⟨ma,mn,mc,rfl⟩,⟨ia,iN,ic,rfl⟩,⟨ea,en,ec,rfl⟩,⟨qa,qn,qc,rfl⟩⟩,⟨sa,sn,sc,rfl⟩,⟨la,ln,lc,rfl⟩,⟨pa,pn,pc,rfl⟩⟩:=O1.Dq;have cx:=AA (yy w1 (.cells #[.slice ma mn mc,.slice ia iN ic,.slice ea en ec,.slice qa qn qc,.slice sa sn sc,.slice la ln lc,.slice pa pn pc,Q.FV,Q.U4] 32));have gK:=AA (O1.below (AG w1 (.cells #[.slice ma mn mc,.slice ia iN ic,.slice ea en ec,.slice qa qn qc,.slice sa sn sc,.slice la ln lc,.slice pa pn pc,Q.FV,Q.U4] 32)));have cr:=AA (b1.trans ((AG w1 (.cells #[.slice ma mn mc,.slice ia iN ic,.slice ea en ec,.slice qa qn qc,.slice sa sn sc,.slice la ln lc,.slice pa pn pc,Q.FV,Q.U4] 32)).mono b1.size));clear O1 b1 bt;cases ok
   .have Nx:=AA (show DK P (ss.take (k+1))=(Q,so++[-1]) from br.u)
    clear br;go_wp2_with fail;generalize w1.heap.size=g10 at*;generalize w1.alloc _=W8 at*;obtain⟨k0,k1,k2,k3,k4,k5,k6,k7,k8⟩:=AC cx.u;have ac:=AY cx.u;have cw:=AA (am.below cr.u).wds;have fb:=AA (yM am.lo cr.size);have ab:=DH cw cx ψ;have bp:∀k,ov.ownBlock=some k->k<W8.heap.size:=λk H=>(yE cw k H).2
    refine Nf 5 mixed φ 71 rfl φ 4 (ov.ownBlock) (λix vv ww=>match ix with
     |0=>vv=.agg #[.slice ma mn mc,.slice ia iN ic,.slice ea en ec,.slice qa qn qc,.slice sa sn sc,.slice la ln lc,.slice pa pn pc,Q.FV,Q.U4]
     |1=>vv=ov
     |2=>vv=.int .i64 ((-1))
     |3=>LS W8 vv ww (-1)
     |4=>AE W0 ww vv (so++[(-1)])
     |_=>True) ?_ ?_ ?_ ?_ ?_
    .intro i hi ez vv wz fy er b9 hz
     match i,hi,ez with
     |0,_,J|1,_,J|2,_,J=>exact hz
     |3,_,J=>exact(LS.past hz b9 bp)
     |4,_,J=>exact absurd rfl J
    .intro vv wz fy b9 hz
     exact(AE.below hz b9)
    .intro i hi ez o Z a wx z Y O hg HK
     match i,hi,ez with
     |0,_,_=>exact dL Z rfl (gn rfl) HK rfl (eb (OF z 10)) (Pj ((Bu O ac ab).trans k0) ((Bu O ac ab).trans k1) ((Bu O ac ab).trans k2) ((Bu O ac ab).trans k3) ((Bu O ac ab).trans k4) ((Bu O ac ab).trans k5) ((Bu O ac ab).trans k6) ((Bu O ac ab).trans k7) ((Bu O ac ab).trans k8)) rfl
     |1,_,_=>exact dM Z rfl (gn rfl) HK rfl (eb (OF z 7)) rfl
     |2,_,_=>exact dM Z rfl (gn rfl) HK rfl (eb (OF z 11)) rfl
     |3,_,_=>obtain rfl:=yP Z;have d2:(a.tmps[53]?.getD undef)=.int .i64 ((-1)):=Bd Y 2;clear Y z;refine yO ?_;go_simp;exact HK _ _ ⟨_,rfl,O.size,yy _ _⟩ (AG _ _)
     |4,_,J=>exact absurd rfl J
    .intro o Z a wx z Y O hg HK
     obtain rfl:=yP Z;have d1:(a.tmps[52]?.getD undef)=ov:=Bd Y 1;have d3:LS W8 (a.tmps[54]?.getD undef) wx (-1):=Bd Y 3;clear Y z;obtain⟨g9,d3,jG,hJ⟩:=d3;have fo:=AE.below cw O;obtain⟨i0,gg,er,f3,f2⟩:=info_parts Tryz.zS;obtain⟨i7,w4,ex,r1,r2,_,r4⟩:=run_append_own_at (P:=prog) wx W0.heap.size 29 29 3 i0 _ 1 8 underlying29 gg er f3 f2 rfl ψ ov so.length (so.map (yl .i64)) fo ⟨g9,0,none⟩ 1 1 [.int .i64 ((-1))] rfl (by
      intro j x hx
      match j,hx with
      |0,hx=>simp at hx;subst hx;exact cell_of_row wx g9 0 _ _ _ hJ) (by simp[xR]) (by have:=eL.u;simp only[maxLen];omega) (by have:=eL.u;omega) (yM fb O.size)
     clear gg er f3 f2;refine yO ?_;refine Bv rfl (Bs d1) (Bs d3) ex ?_;exact HK _ _ (by simpa[AE] using r1) r2
    intro vs wx hR O
    have q0:(vs 0)=.agg #[.slice ma mn mc,.slice ia iN ic,.slice ea en ec,.slice qa qn qc,.slice sa sn sc,.slice la ln lc,.slice pa pn pc,Q.FV,Q.U4]:=Be hR 0;have q4:AE W0 wx (vs 4) (so++[(-1)]):=Be hR 4;clear hR;simp only[Aj,Ae,yL,yI,yJ,yH,q0];simp;generalize vs 4=z4 at q4 ⊢;clear q0;have PU:=am.push cr gK O q4;obtain⟨_,_,rfl,_⟩:=(AE.rd q4).open;obtain⟨c0,c1,c2,c3,c4,c5,c6,c7,c8⟩:=AC PU.1;have fz:=AK PU.1;have bu:=AA PU.2;clear PU q4 O k0 k1 k2 k3 k4 k5 k6 k7 k8 ac ab bp cx;simp only[De] at bu;go_wp2;go_roundw;exact⟨k+1,ω,ξ,_,rfl,_,_,_,_,_,_,_,by rw[Nx.u];exact bu.u⟩;simp[intOf];omega
   have Nx:=AA (show DK P (ss.take (k+1))=(Q,so++[vr]) from br.u)
   clear br;go_wp2_with fail;generalize w1.heap.size=g10 at*;generalize w1.alloc _=W8 at*;obtain⟨k0,k1,k2,k3,k4,k5,k6,k7,k8⟩:=AC cx.u;have ac:=AY cx.u;have cw:=AA (am.below cr.u).wds;have fb:=AA (yM am.lo cr.size);have ab:=DH cw cx ψ;have bp:∀k,ov.ownBlock=some k->k<W8.heap.size:=λk H=>(yE cw k H).2
   refine Nf 5 mixed φ 71 rfl φ 4 (ov.ownBlock) (λix vv ww=>match ix with
    |0=>vv=.agg #[.slice ma mn mc,.slice ia iN ic,.slice ea en ec,.slice qa qn qc,.slice sa sn sc,.slice la ln lc,.slice pa pn pc,Q.FV,Q.U4]
    |1=>vv=ov
    |2=>vv=.int .i64 vr
    |3=>LS W8 vv ww vr
    |4=>AE W0 ww vv (so++[vr])
    |_=>True) ?_ ?_ ?_ ?_ ?_
   .intro i hi ez vv wz fy er b9 hz
    match i,hi,ez with
    |0,_,J|1,_,J|2,_,J=>exact hz
    |3,_,J=>exact(LS.past hz b9 bp)
    |4,_,J=>exact absurd rfl J
   .intro vv wz fy b9 hz
    exact(AE.below hz b9)
   .intro i hi ez o Z a wx z Y O hg HK
    match i,hi,ez with
    |0,_,_=>exact dL Z rfl (gn rfl) HK rfl (eb (OF z 10)) (Pj ((Bu O ac ab).trans k0) ((Bu O ac ab).trans k1) ((Bu O ac ab).trans k2) ((Bu O ac ab).trans k3) ((Bu O ac ab).trans k4) ((Bu O ac ab).trans k5) ((Bu O ac ab).trans k6) ((Bu O ac ab).trans k7) ((Bu O ac ab).trans k8)) rfl
    |1,_,_=>exact dM Z rfl (gn rfl) HK rfl (eb (OF z 7)) rfl
    |2,_,_=>exact dM Z rfl (gn rfl) HK rfl (eb (OF z 11)) rfl
    |3,_,_=>obtain rfl:=yP Z;have d2:(a.tmps[53]?.getD undef)=.int .i64 vr:=Bd Y 2;clear Y z;refine yO ?_;go_simp;exact HK _ _ ⟨_,rfl,O.size,yy _ _⟩ (AG _ _)
    |4,_,J=>exact absurd rfl J
   .intro o Z a wx z Y O hg HK
    obtain rfl:=yP Z;have d1:(a.tmps[52]?.getD undef)=ov:=Bd Y 1;have d3:LS W8 (a.tmps[54]?.getD undef) wx vr:=Bd Y 3;clear Y z;obtain⟨g9,d3,jG,hJ⟩:=d3;have fo:=AE.below cw O;obtain⟨i0,gg,er,f3,f2⟩:=info_parts Tryz.zS;obtain⟨i7,w4,ex,r1,r2,_,r4⟩:=run_append_own_at (P:=prog) wx W0.heap.size 29 29 3 i0 _ 1 8 underlying29 gg er f3 f2 rfl ψ ov so.length (so.map (yl .i64)) fo ⟨g9,0,none⟩ 1 1 [.int .i64 (vr)] rfl (by
     intro j x hx
     match j,hx with
     |0,hx=>simp at hx;subst hx;exact cell_of_row wx g9 0 _ _ _ hJ) (by simp[xR]) (by have:=eL.u;simp only[maxLen];omega) (by have:=eL.u;omega) (yM fb O.size)
    clear gg er f3 f2;refine yO ?_;refine Bv rfl (Bs d1) (Bs d3) ex ?_;exact HK _ _ (by simpa[AE] using r1) r2
   intro vs wx hR O
   have q0:(vs 0)=.agg #[.slice ma mn mc,.slice ia iN ic,.slice ea en ec,.slice qa qn qc,.slice sa sn sc,.slice la ln lc,.slice pa pn pc,Q.FV,Q.U4]:=Be hR 0;have q4:AE W0 wx (vs 4) (so++[vr]):=Be hR 4;clear hR;simp only[Aj,Ae,yL,yI,yJ,yH,q0];simp;generalize vs 4=z4 at q4 ⊢;clear q0;have PU:=am.push cr gK O q4;obtain⟨_,_,rfl,_⟩:=(AE.rd q4).open;obtain⟨c0,c1,c2,c3,c4,c5,c6,c7,c8⟩:=AC PU.1;have fz:=AK PU.1;have bu:=AA PU.2;clear PU q4 O k0 k1 k2 k3 k4 k5 k6 k7 k8 ac ab bp cx;simp only[De] at bu;go_wp2;go_roundw;exact⟨k+1,ω,ξ,_,rfl,_,_,_,_,_,_,_,by rw[Nx.u];exact bu.u⟩;simp[intOf];omega
  have t1:(xk==1)=false:=by simp[X]
  by_cases V:xk=2
  focus
   subst V
   obtain⟨ci,cg⟩:=Oi al rfl;have f4:=Qs al rfl;obtain⟨an,rfl⟩:∃an:Nat,xa=(an:Int):=⟨xa.toNat,by simp only at ci;omega⟩
   have hE:an<64:=by simp only at cg;omega
   have hb:=Mz (st:=(Pk,so)) (s:=⟨2,(an:Int),xx,ck,ce,ca,cb,cc,nm⟩) rfl;rw[show(⟨2,(an:Int),xx,ck,ce,ca,cb,cc,nm⟩:Ax).a.toNat=an from rfl] at hb;have CL:=MA _ _ _ _ _ _ _ Pk _ bq.yQ.own.rd fk hE (x:=xx) f4;unfold FJ at CL;simp only[AN] at CL;dsimp only at hb;generalize Gg Pk an xx=res at hb CL;obtain⟨Q,ok⟩:=res;have ej:=Nx.trans hb;have bt:=AA CL;have br:=AA (show DK P (ss.take (k+1))=(Q,so) from ej);clear hb CL Nx ej al ci cg f6 Sm f4 X
  rotate_left
  focus
   have t2:(xk==2)=false:=by simp[V]
   obtain⟨h3,gQ⟩:=Sa al X V;have hb:=M5 (st:=(Pk,so)) (s:=⟨xk,xa,xx,ck,ce,ca,cb,cc,nm⟩) X V;have CL:=Sm h3 _ _ _ _ _ _ _ Pk _ bq.yQ.own.rd fk.u;unfold JS at CL;simp only[AN] at CL;dsimp only at hb;generalize Io Pk (Ax.kall ⟨xk,xa,xx,ck,ce,ca,cb,cc,nm⟩)=res at hb CL;obtain⟨Q,code⟩:=res;have ej:=Nx.trans hb;have bt:=AA CL;have br:=AA (show DK P (ss.take (k+1))=(Q,so) from ej);clear hb CL Nx ej al f6 Sm X V h3 gQ
  rotate_left
  all_goals
   go_wp2_with fail;clear D0 D1 D2 D3 D4 D5 D6 D7 D8 z0 z1 z2 z3 z4 z5 z6 z7 z8;generalize wr.heap.size=gs at*;generalize wr.alloc _=W5 at*;refine bt.mono ?_;rintro r w1 ⟨m6,i6,e6,c6,s6,l6,q6,rfl,O1,b1⟩;have PU:=bq.put b1 O1;obtain⟨⟨⟨ma,mn,mc,rfl⟩,⟨ia,iN,ic,rfl⟩,⟨ea,en,ec,rfl⟩,⟨qa,qn,qc,rfl⟩⟩,⟨sa,sn,sc,rfl⟩,⟨la,ln,lc,rfl⟩,⟨pa,pn,pc,rfl⟩⟩:=O1.Dq;have hB:=(bq.below b1).yQ.yU;obtain⟨c0,c1,c2,c3,c4,c5,c6,c7,c8⟩:=AC hB;have fz:=AK hB;obtain⟨_,_,rfl,_⟩:=(AE.rd bq.wds).open;have bu:=AA PU;clear PU O1 b1 bt hB;simp only[De] at bu;go_wp2;go_roundw;exact⟨k+1,ω,ξ,_,rfl,_,_,_,_,_,_,_,by rw[br.u];exact bu.u⟩;simp[intOf];omega
 obtain rfl:k=ss.length:=ω;have e1:ss.take ss.length=ss:=xz (yF _);rw[e1,fv.u] at D;have aq:Dz Q:=by
  rw[show Q=(DK P ss).1 by rw[fv.u]];have:=df ss.length
  rwa [e1] at this
 obtain⟨x0,x1,x2,x3,x4,x5,x6,x7,x8⟩:=AC D.yQ.yU;have C6:=AA (Jd _ _ _ _ _ _ _ Q wr D.yQ.own.rd aq);have B3:=AB cy D.bel;have dg:=AA (au.trans (D.bel.mono au.size));have hU:=AA D.wds;obtain⟨oa,oc,rfl,_⟩:=(AE.rd D.wds).open;clear D e1 aq eD;go_wp2_with fail;refine C6.mono ?_;rintro r w5 ⟨m5,i5,e5,c5,s5,l5,q5,rfl,O5,b5⟩;unfold AN;clear C6 x0 x1 x2 x3 x4 x5 x6 x7 x8;obtain⟨⟨⟨ma,mn,mc,rfl⟩,⟨ia,iN,ic,rfl⟩,⟨ea,en,ec,rfl⟩,⟨qa,qn,qc,rfl⟩⟩,⟨sa,sn,sc,rfl⟩,⟨la,ln,lc,rfl⟩,⟨pa,pn,pc,rfl⟩⟩:=O5.Dq;have N5:=AB B3 b5;have S5:=Bg N5 O5;obtain⟨a0,a1,a2,a3,a4,a5,a6,a7,a8⟩:=AC N5;have f5:=AK N5;have fg:=AA S5;have cT:=AA b5;have gz:=AA (AY B3);clear O5 S5 N5 b5 B3;go_wp2_with fail;clear a0 a1 a2 a3 a4 a5 a6 a7 a8 f5;obtain⟨N6,O6,cF⟩:=fg.u;have B6:=AM (dg.trans (cT.mono (by have:=dg.size;have:=gz.u;omega))) cF ω (by have:=dg.size;have:=cT.size;omega);have O7:=O6.lower (lo':=w.heap.size) (by have:=dg.size;omega);unfold De at N6 O7 B6;exact yB (v:=.tuple #[.agg #[.slice ma mn mc,.slice ia iN ic,.slice ea en ec,.slice qa qn qc,.slice sa sn sc,.slice la ln lc,.slice pa pn pc,Q.FV,Q.U4],.slice oa so.length oc]) (by simp[results,rK,go_sem,AC N6]) rfl ⟨_,_,_,_,_,_,_,_,rfl,O7,BS (Bc (lo:=W0.heap.size) (AE.below hU cT.u) cF (λk H=>by cases H;have:=e0.u;omega)) (by have:=e0.u;omega),B6⟩
section
variable {lo g:Nat} {o m i e c s l q m' i' e' c' s' l' q':Φ} {st:AR×List Int} {w wr w1:Ω} {Q:AR}
theorem XT.putPush(h:XT lo g o st w wr m i e c s l q)(E:Γ wr wr w1)(hG:EI wr w1 m' i' e' c' s' l' q' Q){w2:Ω}{o':Φ}{x:Int}
 (K:World.grownBy (((De w1 g m' i' e' c' s' l' q').setCell (g,7) (.int .i64 Q.FV)).setCell (g,8) (.int .i64 Q.U4)) w2 o.ownBlock)(Z:AE lo w2 o' (st.2++[x])):
 XT lo g o' (Q,st.2++[x]) w w2 m' i' e' c' s' l' q':=by
 have S:=Bg (h.below E).yQ.yU hG;have hP:=h.put E hG;have bY:=DH hP.wds hP.yQ.yU ψ;exact⟨⟨(K.block g (AY hP.yQ.yU) (λe=>bY e.symm)).trans hP.yQ.yU,h.yQ.yT,(S.2.1.past K (λb E=>(yE h.wds b E).2)).lower h.lo⟩,Z,hP.bel.grown K hP.lo (λk H=>(yE hP.wds k H).1),yM hP.lo K.size⟩
end
def QS(P:AR)(ss:List Ax):AR×List Int:=if(By P&&DB ss)=true then DK P ss else(dO,[])
def fV(w:Ω)(t:AR×List Int)(r:Ending)(L:Ω):Prop:=∃m i e c s l q o,r=.returned (.tuple #[AN m i e c s l q t.1.FV t.1.U4,o])/\Kr L m i e c s l q t.1/\A3 L o t.2/\Γ w w L
theorem QT (w:Ω)(a:Option Addr):A3 w (.slice a 0 0) []:=⟨_,_,rfl,yF _,ζ,rfl,λ_=>rfl,λh=>absurd h (Nat.lt_irrefl _)⟩
theorem Tv (mv iv ev cv sv lv qv v:Φ)(P:AR)(ss:List Ax)(w:Ω)(h:Kr w mv iv ev cv sv lv qv P)(J:KH P.Ve)(ay:DA w v ss)(gb:(By P&&DB ss)=false):
 Ξ prog 14 #[AN mv iv ev cv sv lv qv P.FV P.U4,v] w (fV w (dO,[])):=by
 unfold AN fV AN;obtain⟨N0,N1,NE,be,bm⟩:=It w (.cells #[mv,iv,ev,cv,sv,lv,qv,P.FV,P.U4] 32) (.cells #[ι,ι,ι,ι,ι,ι,ι,θ,θ] 32) (.cells #[] 3);have h0:=h.below be;have bw:=AA (λW (R:Γ w w W)=>IB v ss W (Rd.below ay R));obtain⟨x0,x1,x2,x3,x4,x5,x6,x7,x8⟩:=AC N0;clear bm;go_in;go_wp2_with fail;generalize((w.alloc _).alloc _).alloc _=W0 at*;have CV:=Eo mv iv ev cv sv lv qv P W0 h0 J;unfold AN at CV;have au:=AA be;have cy:=AA N1;generalize By P=ok at*;clear h h0 be N0 N1 NE x0 x1 x2 x3 x4 x5 x6 x7 x8 ay;refine CV.mono ?_;rintro r w1 ⟨rfl,b1⟩;have Bw:=AA (au.trans (b1.mono au.size));clear CV;cases ok
 focus
  clear gb
 rotate_left
 focus
  go_wp2_with fail
  refine(bw _ Bw.u).mono ?_;rintro r w2 ⟨rfl,b2⟩;rw[show DB ss=false by simpa using gb];replace b1:=b1.trans (b2.mono b1.size);replace Bw:=AA (Bw.trans (b2.mono Bw.size));clear gb b2 bw
 rotate_left
 all_goals
  have N1:=AB cy b1;have f1:=AK N1;obtain⟨a0,a1,a2,a3,a4,a5,a6,a7,a8⟩:=AC N1;have S2:=AA (Ko N1 (Bw.u) ω);clear N1;go_wp2_with fail;clear a0 a1 a2 a3 a4 a5 a6 a7 a8 f1;obtain⟨N2,B2⟩:=S2.u;unfold De at N2 B2;exact yB (v:=.tuple #[.agg #[ι,ι,ι,ι,ι,ι,ι,θ,θ],.slice (some ⟨w.heap.size+1+1,0,none⟩) 0 0]) (by simp[results,rJ,go_sem,AC N2]) rfl ⟨_,_,_,_,_,_,_,_,rfl,TZ _,QT _ _,B2⟩
theorem TC (mv iv ev cv sv lv qv v:Φ)(P:AR)(ss:List Ax)(w:Ω)(h:Kr w mv iv ev cv sv lv qv P)(hP:Dz P)(ay:DA w v ss)(ai:DB ss=true)(bl:∀s∈ss,s.nm.size<=maxLen/\s.cc<=9223372036854775807):
 Ξ prog 14 #[AN mv iv ev cv sv lv qv P.FV P.U4,v] w (KG w (DK P ss)):=by
 unfold AN KG;obtain⟨B0,B1,be,bm⟩:=IR w (.cells #[mv,iv,ev,cv,sv,lv,qv,P.FV,P.U4] 32) (.cells #[ι,ι,ι,ι,ι,ι,ι,θ,θ] 32);have o0:=CU ((w.alloc (.cells #[mv,iv,ev,cv,sv,lv,qv,P.FV,P.U4] 32)).alloc (.cells #[ι,ι,ι,ι,ι,ι,ι,θ,θ] 32)) 3 1;have bE:=AG ((w.alloc (.cells #[mv,iv,ev,cv,sv,lv,qv,P.FV,P.U4] 32)).alloc (.cells #[ι,ι,ι,ι,ι,ι,ι,θ,θ] 32)) (.cells #[] 3);have h0:=h.below be;have ga:By P=true:=EB.2 hP;have bw:=AA (λW (R:Γ w w W)=>IB v ss W (Rd.below ay R));rw[ai] at bw;have jC:=QZ ai;have e7:=AA ai;have cN:=AA bl;have df:=AA (λk=>Qt hP (λs J=>by obtain⟨j,hj⟩:=xO (vm J);exact Gv ai hj) []:∀k,Dz (DK P (ss.take k)).1);obtain⟨a,ar,rfl,jz,bx,H0⟩:=ay.open;unfold maxLen at bx;have HA:=AA H0;generalize hPL:DK P ss=t;obtain⟨Q,so⟩:=t;dsimp only;have fv:=AA hPL;clear hPL;obtain⟨x0,x1,x2,x3,x4,x5,x6,x7,x8⟩:=AC (AB B0 bE);go_in;go_wp2_with fail;generalize hWA:(w.alloc _).alloc _=WA at*;have CV:=Eo mv iv ev cv sv lv qv P _ (h0.below bE) (Cm hP.k);have CO:=AA (λW (R:Γ WA WA W)=>Kg mv iv ev cv sv lv qv P W (h0.below R) hP);rw[ga] at CV;unfold OH AN at CO;unfold AN at CV;have au:=AA be;have gM:=AA B0;have cy:=AA B1;have e0:=AA bm;have iS:=AA o0;have jN:=AA bE;have jM:=AA (show WA.heap.size<=(WA.alloc (.cells #[] 3)).heap.size from bE.size);clear h h0 be B0 B1 hP ga bm H0 ay ai bl hWA x0 x1 x2 x3 x4 x5 x6 x7 x8 o0 bE;generalize WA.alloc (.cells #[] 3)=WE at*;refine CV.mono ?_;rintro r w1 ⟨rfl,b1⟩;have ek:=AA (jN.trans (b1.mono jM.u));have iR:=AA (BC iS b1);obtain⟨x0,x1,x2,x3,x4,x5,x6,x7,x8⟩:=AC (AB gM ek.u);clear b1 CV;go_wp2_with fail;refine(bw _ (au.trans (ek.mono au.size))).mono ?_;rintro r w2 ⟨rfl,b2⟩;have bi:=AA (ek.trans (b2.mono ek.size));have iQ:=AA (BC iR b2);clear b2 x0 x1 x2 x3 x4 x5 x6 x7 x8;obtain⟨x0,x1,x2,x3,x4,x5,x6,x7,x8⟩:=AC (AB gM bi.u);go_wp2_with fail;refine(CO w2 bi.u).mono ?_;rintro r w3 ⟨m3,i3,e3,c3,s3,l3,q3,rfl,O3,b3⟩;obtain⟨⟨⟨ma,mn,mc,rfl⟩,⟨ia,iN,ic,rfl⟩,⟨ea,en,ec,rfl⟩,⟨qa,qn,qc,rfl⟩⟩,⟨sa,sn,sc,rfl⟩,⟨la,ln,lc,rfl⟩,⟨pa,pn,pc,rfl⟩⟩:=O3.Dq;have gd:WA.heap.size<=w3.heap.size:=yM bi.size b3.size;have I4:=Hj.start (O3.lower bi.size) gd;have bP:=AG w3 (.cells #[.slice ma mn mc,.slice ia iN ic,.slice ea en ec,.slice qa qn qc,.slice sa sn sc,.slice la ln lc,.slice pa pn pc,P.FV,P.U4] 32)
 have D:XT WA w3.heap.size (.slice (some ⟨w.heap.size+1+1,0,none⟩) 0 0) (P,[]) WA (w3.alloc (.cells #[.slice ma mn mc,.slice ia iN ic,.slice ea en ec,.slice qa qn qc,.slice sa sn sc,.slice la ln lc,.slice pa pn pc,P.FV,P.U4] 32)) _ _ _ _ _ _ _:=⟨I4,by have:=BC (BC iQ b3) bP;rw[e0.u] at this ⊢;exact this,bi.trans ((b3.trans (bP.mono b3.size)).mono bi.size),yM gd bP.size⟩;clear O3 b3 x0 x1 x2 x3 x4 x5 x6 x7 x8 I4 CO bw bP iS iR iQ;go_wp2_with fail;generalize w3.heap.size=g at*;generalize w3.alloc _=W3 at*;generalize(Value.slice (some ⟨w.heap.size+1+1,0,none⟩) 0 0)=oz at*;have am:=AA D;clear D;go_loopw [6,8] (λo ix wr=>∃k:Nat,k<=ss.length/\ix=.int .i64 k/\∃ov,ov=o/\∃m i e c s l q,XT WA g ov (DK P (ss.take k)) WA wr m i e c s l q) (λ_ ix _=>ss.length - (intOf ix).toNat)
 exact⟨0,yu _,rfl,_,rfl,_,_,_,_,_,_,_,am.u⟩
 clear am;obtain⟨k,H,rfl,ov,rfl,m5,i5,e5,c5,s5,l5,q5,D⟩:=hrel;have eD:=au.trans (D.bel.mono au.size)
 by_cases av:k<ss.length
 .obtain⟨x,hx⟩:∃x,ss[k]?=some x:=⟨_,yG av⟩
  obtain⟨b,ao,rfl,D0,D1,D2,D3,D4,D5,D6,D7,D8⟩:=HA.nine eD hx;have g0:(k:Int)<(ss.length:Int):=ω;have Nx:=AA (Pr (p:=P) hx);have Sm:=cN x (yw hx);have al:=Gv e7 hx;have aq:Dz (DK P (ss.take k)).1:=df k;have az:(DK P (ss.take k)).2.length<=80:=by have:=MV (ss.take k) P [];unfold DK;simp only[xi,yr] at this;omega
  generalize DK P (ss.take k)=st at D Nx aq az;clear fv hx eD;obtain⟨Pk,so⟩:=st;obtain⟨xk,xa,xx,ck,ce,ca,cb,cc,nm⟩:=x;dsimp only at D0 D1 D2 D3 D4 D5 D6 D7 D8 Sm aq az;replace D:=D.below (AG wr (.cells #[xk,xa,xx,ck,ce,ca,cb,cc,nm] 52));obtain⟨z0,z1,z2,z3,z4,z5,z6,z7,z8⟩:=AC D.yQ.yU;have eL:=AA az;have fk:=AA aq;have am:=AA D;clear D aq az
  by_cases X:xk=1
  .subst X
   obtain⟨ci,cg⟩:=Qr al rfl;obtain⟨an,rfl⟩:∃an:Nat,xa=(an:Int):=⟨xa.toNat,by simp only at ci;omega⟩
   have hb:=My (st:=(Pk,so)) (s:=⟨1,(an:Int),xx,ck,ce,ca,cb,cc,nm⟩) rfl;have CL:=MX _ _ _ _ _ _ _ Pk _ am.yQ.own.rd fk (show an<64 by simp only at cg;omega);unfold LQ at CL;simp only[AN] at CL;dsimp only[yq] at hb;generalize IW Pk an=res at hb CL;obtain⟨Q,vr,ok⟩:=res;have gL:=AA (Nx.trans hb);have bt:=AA CL;clear hb CL Nx al ci cg Sm;go_wp2_with fail;clear D0 D1 D2 D3 D4 D5 D6 D7 D8 z0 z1 z2 z3 z4 z5 z6 z7 z8;generalize wr.alloc _=W5 at*;refine bt.mono ?_;rintro r w1 ⟨m6,i6,e6,c6,s6,l6,q6,rfl,O1,b1⟩;obtain⟨⟨⟨ma,mn,mc,rfl⟩,⟨ia,iN,ic,rfl⟩,⟨ea,en,ec,rfl⟩,⟨qa,qn,qc,rfl⟩⟩,⟨sa,sn,sc,rfl⟩,⟨la,ln,lc,rfl⟩,⟨pa,pn,pc,rfl⟩⟩:=O1.Dq;have bX:=AG w1 (.cells #[.slice ma mn mc,.slice ia iN ic,.slice ea en ec,.slice qa qn qc,.slice sa sn sc,.slice la ln lc,.slice pa pn pc,Q.FV,Q.U4] 32);have cx:=AA (yy w1 (.cells #[.slice ma mn mc,.slice ia iN ic,.slice ea en ec,.slice qa qn qc,.slice sa sn sc,.slice la ln lc,.slice pa pn pc,Q.FV,Q.U4] 32));have cw:=AA (O1.below bX);have cr:=AA (b1.trans (bX.mono b1.size));clear O1 b1 bt bX;go_upto_if 53 with fail;generalize w1.heap.size=g10 at*;generalize w1.alloc _=W8 at*;go_cut [11] (λsw W=>sw=.int .i64 (QL (Q,vr,ok))/\W=W8)
   case first=>
    cases ok
    .go_wp2_with fail
     go_meet;exact⟨rfl,rfl⟩
    go_wp2_with fail
    go_meet;exact⟨rfl,rfl⟩
   case rest=>
    obtain⟨rfl,rfl⟩:=hcut;have PU:=am.put cr cw.u;obtain⟨k0,k1,k2,k3,k4,k5,k6,k7,k8⟩:=AC cx.u;obtain⟨c0,c1,c2,c3,c4,c5,c6,c7,c8⟩:=AC (am.below cr.u).yQ.yU;have fz:=AK (am.below cr.u).yQ.yU;have HG:=AA (λw2 o' x K Z=>am.putPush cr cw (w2:=w2) (o':=o') (x:=x) K Z);have jP:=AA (show DK P (ss.take (k+1))=(Q,so++[QL (Q,vr,ok)]) from gL.u);simp only[De] at PU HG;generalize QL (Q,vr,ok)=wd at*;go_wp2_with (at_builtin;go_must (refine Bm (lo:=WA.heap.size) (n:=so.length) (xs:=so.map (yl .i64)) (m:=1) (news:=[.int .i64 wd]) rfl rfl 3 (.int .i64 0) 1 8 underlying29 Tryz.zS rfl ψ rfl (PU.below (AG _ _)).wds rfl (Rd.zM _ #[_] _ 1 1 _ χ rfl ζ) (by simp[xR]) (by have:=eL.u;unfold maxLen;omega) (by have:=eL.u;omega) (PU.below (AG _ _)).lo ?_;intro o' w9 n1 n2 n3 n4));go_roundw;exact⟨k+1,ω,ξ,_,rfl,_,_,_,_,_,_,_,by rw[jP.u];exact HG _ _ _ (AO (AX (AG _ _) _) n2) (by unfold AE;rw[yz,List.map_append];exact n1)⟩;simp[intOf];omega
  have t1:(xk==1)=false:=by simp[X]
  by_cases V:xk=2
  .subst V
   obtain⟨ci,cg⟩:=Oi al rfl;have f4:=Qs al rfl;obtain⟨an,rfl⟩:∃an:Nat,xa=(an:Int):=⟨xa.toNat,by simp only at ci;omega⟩
   have hb:=Mz (st:=(Pk,so)) (s:=⟨2,(an:Int),xx,ck,ce,ca,cb,cc,nm⟩) rfl;have CL:=Jq _ _ _ _ _ _ _ Pk _ am.yQ.own.rd fk (show an<64 by simp only at cg;omega) (x:=xx) f4;unfold FJ at CL;simp only[AN] at CL;dsimp only[yq] at hb;generalize Gg Pk an xx=res at hb CL;obtain⟨Q,ok⟩:=res;have gL:=AA (show DK P (ss.take (k+1))=(Q,so) from Nx.trans hb);have bt:=AA CL;clear hb CL Nx al ci cg Sm f4 X;go_wp2_with fail;clear D0 D1 D2 D3 D4 D5 D6 D7 D8 z0 z1 z2 z3 z4 z5 z6 z7 z8;generalize wr.alloc _=W5 at*;refine bt.mono ?_;rintro r w1 ⟨m6,i6,e6,c6,s6,l6,q6,rfl,O1,b1⟩;obtain⟨⟨⟨ma,mn,mc,rfl⟩,⟨ia,iN,ic,rfl⟩,⟨ea,en,ec,rfl⟩,⟨qa,qn,qc,rfl⟩⟩,⟨sa,sn,sc,rfl⟩,⟨la,ln,lc,rfl⟩,⟨pa,pn,pc,rfl⟩⟩:=O1.Dq;have bX:=AG w1 (.cells #[.slice ma mn mc,.slice ia iN ic,.slice ea en ec,.slice qa qn qc,.slice sa sn sc,.slice la ln lc,.slice pa pn pc,Q.FV,Q.U4] 32);have PU:=am.put (b1.trans (bX.mono b1.size)) (O1.below bX);obtain⟨k0,k1,k2,k3,k4,k5,k6,k7,k8⟩:=AC (yy w1 (.cells #[.slice ma mn mc,.slice ia iN ic,.slice ea en ec,.slice qa qn qc,.slice sa sn sc,.slice la ln lc,.slice pa pn pc,Q.FV,Q.U4] 32));obtain⟨c0,c1,c2,c3,c4,c5,c6,c7,c8⟩:=AC (AB (am.below b1).yQ.yU bX);have fz:=AK (AB (am.below b1).yQ.yU bX);have bu:=AA PU;clear PU O1 b1 bt bX;simp only[De] at bu;go_wp2;go_roundw;exact⟨k+1,ω,ξ,_,rfl,_,_,_,_,_,_,_,by rw[gL.u];exact bu.u⟩;simp[intOf];omega
  have t2:(xk==2)=false:=by simp[V]
  obtain⟨h3,gQ⟩:=Sa al X V;have hb:=M5 (st:=(Pk,so)) (s:=⟨xk,xa,xx,ck,ce,ca,cb,cc,nm⟩) X V;have CL:=Ob _ _ _ _ _ _ _ Pk ⟨ck,ce,ca,cb,cc,nm⟩ _ am.yQ.own.rd fk (by rcases gQ with e|e<;>(simp only[Ax.kall] at e;simp only;omega)) Sm.1 Sm.2;unfold JS at CL;simp only[AN,AV.cs] at CL;dsimp only[Ax.kall] at hb;generalize Io Pk ⟨ck,ce,ca,cb,cc,nm⟩=res at hb CL;obtain⟨Q,code⟩:=res;have gL:=AA (show DK P (ss.take (k+1))=(Q,so) from Nx.trans hb);have bt:=AA CL;simp only at h3;subst h3;clear hb CL Nx al Sm X V gQ;go_wp2_with fail;clear D0 D1 D2 D3 D4 D5 D6 D7 D8 z0 z1 z2 z3 z4 z5 z6 z7 z8;generalize wr.alloc _=W5 at*;refine bt.mono ?_;rintro r w1 ⟨m6,i6,e6,c6,s6,l6,q6,rfl,O1,b1⟩;obtain⟨⟨⟨ma,mn,mc,rfl⟩,⟨ia,iN,ic,rfl⟩,⟨ea,en,ec,rfl⟩,⟨qa,qn,qc,rfl⟩⟩,⟨sa,sn,sc,rfl⟩,⟨la,ln,lc,rfl⟩,⟨pa,pn,pc,rfl⟩⟩:=O1.Dq;have bX:=AG w1 (.cells #[.slice ma mn mc,.slice ia iN ic,.slice ea en ec,.slice qa qn qc,.slice sa sn sc,.slice la ln lc,.slice pa pn pc,Q.FV,Q.U4] 32);have PU:=am.put (b1.trans (bX.mono b1.size)) (O1.below bX);obtain⟨k0,k1,k2,k3,k4,k5,k6,k7,k8⟩:=AC (yy w1 (.cells #[.slice ma mn mc,.slice ia iN ic,.slice ea en ec,.slice qa qn qc,.slice sa sn sc,.slice la ln lc,.slice pa pn pc,Q.FV,Q.U4] 32));obtain⟨c0,c1,c2,c3,c4,c5,c6,c7,c8⟩:=AC (AB (am.below b1).yQ.yU bX);have fz:=AK (AB (am.below b1).yQ.yU bX);have bu:=AA PU;clear PU O1 b1 bt bX;simp only[De] at bu;go_wp2;go_roundw;exact⟨k+1,ω,ξ,_,rfl,_,_,_,_,_,_,_,by rw[gL.u];exact bu.u⟩;simp[intOf];omega
 obtain rfl:k=ss.length:=ω;rw[xz (yF _),fv.u] at D;obtain⟨x0,x1,x2,x3,x4,x5,x6,x7,x8⟩:=AC D.yQ.yU;have N5:=AB cy D.bel;have S5:=Bg N5 D.yQ.own;obtain⟨⟨⟨ma,mn,mc,rfl⟩,⟨ia,iN,ic,rfl⟩,⟨ea,en,ec,rfl⟩,⟨qa,qn,qc,rfl⟩⟩,⟨sa,sn,sc,rfl⟩,⟨la,ln,lc,rfl⟩,⟨pa,pn,pc,rfl⟩⟩:=D.yQ.own.Dq;obtain⟨a0,a1,a2,a3,a4,a5,a6,a7,a8⟩:=AC N5;have f5:=AK N5;have fg:=AA S5;have am:=AA D;obtain⟨oa,oc,rfl,_⟩:=(AE.rd D.wds).open;clear D eD S5 N5;go_wp2_with fail;clear a0 a1 a2 a3 a4 a5 a6 a7 a8 f5 x0 x1 x2 x3 x4 x5 x6 x7 x8;obtain⟨N6,O6,cF⟩:=fg.u;have bm:=e0.u;have B6:=AM (au.trans (am.bel.mono au.size)) cF ω (yM au.size am.lo);have O7:=O6.lower (lo':=w.heap.size) ω;have OO:=BS (Bc (lo:=WA.heap.size) am.wds cF (λk H=>by cases H;omega)) (ω:w.heap.size<=WA.heap.size);unfold De at N6 O7 B6 OO;exact yB (v:=.tuple #[.agg #[_,_,_,_,_,_,_,_,_],.slice oa so.length oc]) (by simp[results,rJ,go_sem,AC N6]) rfl ⟨_,_,_,_,_,_,_,_,rfl,O7,OO,B6⟩
theorem Kq (mv iv ev cv sv lv qv v:Φ)(P:AR)(ss:List Ax)(w:Ω)(h:Kr w mv iv ev cv sv lv qv P)(hP:Dz P)(ay:DA w v ss)(ai:DB ss=true)(bl:∀s∈ss,s.k=3->s.nm.size<=maxLen/\s.cc<=9223372036854775807):
 Ξ prog 13 #[AN mv iv ev cv sv lv qv P.FV P.U4,v] w (KG w (DK P ss)):=
 U2 mv iv ev cv sv lv qv v P ss w h hP ay ai (λk=>Qt hP (λs J=>by obtain⟨j,hj⟩:=xO (vm J);exact Gv ai hj) [])
  (λs J h3 mv iv ev cv sv lv qv Q W hR hQ=>L9 mv iv ev cv sv lv qv Q s.kall W hR hQ (by obtain⟨j,hj⟩:=xO J;have:=(Sa (Gv ai hj) ω ω).2;omega) (bl s J h3).1 (bl s J h3).2)
theorem Tryz.infoStep:(prog.info? 52).map (λi=>(i.zero,i.size,i.bytes))=some (some (.agg #[θ,θ,θ,θ,θ,θ,θ,θ,ϑ]),9,80):=φ
def Vw(s:Ax):List Φ:=s.cells.toList
def Ih(lo:Nat)(w:Ω)(v:Φ)(ss:List Ax):Prop:=w.ownsRow lo 52 9 v ss.length (EF ss)
theorem Ih.rd (h:Ih lo w v ss):DA w v ss:=Rd.of_owns h
def KJ(s:Ax):Prop:=s.nm.size<=8/\s.cc<=1000000
structure Te(w0:Ω)(g N:Nat)(w:Ω)(bk:Nat)(o:Φ)(ss:List Ax)(wr:Ω):Prop where
 dr:Dr w0 g N wr
 gr:w.grownBy wr (some g)
 glt:g<w.heap.size
 lo:w0.heap.size<=w.heap.size
 own:Ih w wr o ss
 bkl:w.heap.size<=bk
 ker:∃m i e c xs,wr.heap[bk]?=some (.cells #[m,i,e,c] 28 (0,0))/\AP w.heap.size 115 3 Au wr i xs/\xs.length<=12
 sm:∀s∈ss,KJ s
section
variable {w0 w wr L:Ω} {g N M bk b:Nat} {o o':Φ} {ss:List Ax} {s:Ax}
theorem Te.mono(h:Te w0 g N w bk o ss wr)(hm:N<=M):Te w0 g M w bk o ss wr:= {h with dr:=h.dr.mono hm}
theorem Te.draw(h:Te w0 g N w bk o ss wr)(hd:Dr w0 g M L)(K:wr.grownBy L (some g)):Te w0 g M w bk o ss L:=by
 have hr:∀k,some g=some k->k<w.heap.size:=λk H=>by cases H;exact h.glt
 obtain⟨m,i,e,c,xs,h7,h8,h9⟩:=h.ker;exact⟨hd,AO h.gr K,h.glt,h.lo,Bc h.own K hr,h.bkl,⟨m,i,e,c,xs,FL h7 h.bkl K hr,Bc h8 K hr,h9⟩,h.sm⟩
theorem Te.below(h:Te w0 g N w bk o ss wr)(E:Γ wr wr L):Te w0 g N w bk o ss L:=h.draw (h.dr.below E) (AX E _)
theorem Te.pk(h:Te w0 g N w bk o ss wr)(m:Int)(hN:N<=900000:=by omega)(h0:0<m:=by decide)(hm:m<=1000000:=by decide):Ξ prog 23 #[.pointer g,.int .i64 m] wr λe' L=>∃x:Int,e'=.returned (.int .i64 x)/\0<=x/\x<m/\Te w0 g (N+1) w bk o ss L/\wr.grownBy L (some g):=
 (h.dr.pick m ω hm).mono λ_ _ hp=>by obtain⟨x,rfl,X,V,h3,h4⟩:=hp;exact⟨x,rfl,X,V h0,h.draw h3 h4,h4⟩
theorem Te.put(h:Te w0 g N w bk o ss wr){ee:Array Φ}(E:wr.heap[b]?=some (.cells ee 52 (0,0)))(d9:w.heap.size<=b)(h3:o.ownBlock≠some b)(K:wr.grownBy L (some b)):Te w0 g N w bk o ss L:=by
 obtain⟨m,i,e,c,xs,a7,a8,a9⟩:=h.ker;have bY:bk≠b:=by rintro rfl;rw[E] at a7;simp at a7
 have jv:=h.glt;exact⟨h.dr.keep K η (λk H=>by cases H;have:=h.lo;omega),⟨K.os.trans h.gr.os,K.tape.trans h.gr.tape,K.output.trans h.gr.output,yM h.gr.size K.size,λk H hn=>(K.block k (yt H h.gr.size) η).trans (h.gr.block k H hn)⟩,h.glt,h.lo,Av h.own K (.inr h3),h.bkl,
  ⟨m,i,e,c,xs,(K.block bk (AY a7) η).trans a7,a8.yV K E,a9⟩,h.sm⟩
theorem Te.push(h:Te w0 g N w bk o ss wr)(X:L.ownsRow w.heap.size 52 9 o' (ss.length+1) (EF ss++s.cells.toList))(V:wr.grownBy L o.ownBlock)(J:KJ s):Te w0 g N w bk o' (ss++[s]) L:=by
 obtain⟨m,i,e,c,xs,a7,a8,a9⟩:=h.ker;have a1:=h.dr;have a2:=h.gr;have a3:=h.glt;have a4:=h.lo;have a5:=h.own;have d9:=λk H=>(yE a5 k H).1
 refine⟨a1.keep V (λe=>by have:=d9 g e;omega) (λk H=>by have:=d9 k H;omega),?_,a3,a4,?_,h.bkl,⟨m,i,e,c,xs,?_,Av a8 V (BK a8 a5 ψ).ne,a9⟩,?_⟩
 .exact⟨V.os.trans a2.os,V.tape.trans a2.tape,V.output.trans a2.output,yM a2.size V.size,λk H bY=>(V.block k (yt H a2.size) (λe=>by have:=d9 k e.symm;omega)).trans (a2.block k H bY)⟩
 .unfold Ih
  rw[yz,show EF (ss++[s])=EF ss++s.cells.toList by simp[EF]];exact X
 .refine(V.block bk (AY a7) (λe=>?_)).trans a7
  obtain⟨ee,hc⟩:=BB a5 bk e.symm;rw[a7] at hc;simp at hc
 intro x hx
 rcases List.mem_append.1 hx with hx|hx
 .exact h.sm x hx
 rw[List.mem_singleton.1 hx];exact J
def RJ(lo b:Nat)(o:Φ)(s:Ax)(wr:Ω):Prop:=wr.heap[b]?=some (.cells s.cells 52 (0,0))/\lo<=b/\o.ownBlock≠some b
theorem RJ.draw{w1 w2:Ω}(h:RJ w b o s w1)(K:w1.grownBy w2 (some g))(hl:g<w.heap.size):RJ w b o s w2:=
 ⟨FL h.1 h.2.1 K (λk H=>by cases H;exact hl),h.2⟩
end
theorem VI{w2:Ω}{q:Nat}(h:w.grownBy w1 (some g))(V:w1.grownBy w2 (some q))(hq:w.heap.size<=q):w.grownBy w2 (some g):=
 ⟨V.os.trans h.os,V.tape.trans h.tape,V.output.trans h.output,yM h.size V.size,λk H bY=>(V.block k (yt H h.size) (λe=>by cases e;omega)).trans (h.block k H bY)⟩
def OJ(lo:Nat)(w:Ω)(v:Φ):Prop:=∃ss,Ih lo w v ss/\ss.length<=82/\∀s∈ss,KJ s
theorem OJ.past (h:OJ lo w v)(K:g<lo)(E:w.grownBy L (some g)):OJ lo L v:=by
 obtain⟨ss,X,V⟩:=h;exact⟨ss,Bc X E (λb' e=>by cases e;exact K),V⟩
theorem dC{P:Program}(h:Ξ P f vs w (Ig w0 g N w λv L=>OJ w L v))(hl:lo<=w.heap.size):Ξ P f vs w (Ig w0 g N w λv L=>OJ lo L v):=
 h.mono λ_ _ h=>by obtain⟨v,rfl,⟨ss,X,V⟩,h3⟩:=h;exact⟨v,rfl,⟨ss,BS X hl,V⟩,h3⟩
theorem OC{b:Nat}(h:w.heap[b]?=some (.cells s.cells 52 (0,0))):w.cell? b=some (.int .i64 s.k)/\w.cell? (b,1)=some (.int .i64 s.a)/\w.cell? (b,2)=some (.int .i64 s.x)/\w.cell? (b,3)=some (.int .i64 s.ck)/\w.cell? (b,4)=some (.int .i64 s.ce)/\w.cell? (b,5)=some (.int .i64 s.ca)/\w.cell? (b,6)=some (.int .i64 s.cb)/\w.cell? (b,7)=some (.int .i64 s.cc)/\w.cell? (b,8)=some (.string s.nm):=AC h
theorem VW (ef:Bool)(h:Dr w0 g N w)(hN:N<=100000):
 Ξ prog 35 #[.pointer g,.bool ef] w (Ig w0 g (N+10000) w λv L=>OJ w L v):=by
 have av:=h.lt;have cz:w0.heap.size<=w.heap.size:=h.2.1.size;go_in;go_wp2_with fail;have o1:=CU w 52 9;have X:=h.alloc (.cells #[] 52);have g1:w.grownBy (w.alloc (.cells #[] 52)) (some g):=AX (AG _ _) _;generalize w.alloc (.cells #[] 52)=wa at o1 X g1;refine(X.pick _).mono ?_;rintro e w2 ⟨n,rfl,n0,n1,V,g2⟩;replace n1:=n1 ψ;obtain⟨n,rfl⟩:=yg n0;go_upto_if 17 with fail;refine(V.pick _).mono ?_;rintro e w3 ⟨x,rfl,x0,x1,h3,g3⟩;go_upto_if 17 with fail;go_cut [6] (λs6 wx=>∃n:Nat,s6=.int .i64 n/\n<=82/\Dr w0 g (N+3) wx/\wa.grownBy wx (some g))
 case first=>
  by_cases hx:x=0
  .subst hx
   go_wp2_with fail;refine(h3.pick _).mono ?_;rintro e w4 ⟨y,rfl,y0,y1,h4,g4⟩;replace y1:=y1 ψ;obtain⟨y,rfl⟩:=yg y0;go_wp2_with fail;go_meet;exact⟨79+y,ξ,ω,h4,AO (AO g2 g3) g4⟩
  have t0:(x==0)=false:=by simp[hx]
  clear hx;go_wp2_with fail;go_meet;exact⟨n,rfl,ω,h3.mono ω,AO g2 g3⟩
 case rest=>
 obtain⟨n,rfl,hn,h4,g4⟩:=hcut;clear V h3 g2 g3;go_wp2_with fail;refine(h4.pick _).mono ?_;rintro e w5 ⟨Hb,rfl,z0,z1,h5,g5⟩;replace z1:=z1 ψ;have g6:=AO g4 g5;clear h4 g4 g5;go_wp2_with fail;have iB:=Y5 w5 ⟨#[97]⟩ ⟨#[98]⟩ ⟨#[99]⟩ 9 79;have bn:=((Hv w5 (.cells #[.string ⟨#[97]⟩] 9) (.cells #[.string ⟨#[98]⟩] 9)).trans ((AG _ (.cells #[.string ⟨#[99]⟩] 9)).mono (Hv w5 _ _).size));replace bn:=bn.trans ((AG _ (.cells #[.slice w5 1 1,.slice (some ⟨w5.heap.size+1,0,none⟩) 1 1,.slice (some ⟨w5.heap.size+1+1,0,none⟩) 1 1] 79)).mono bn.size);refine(KE _ Mt _ iB rfl Nu NZ).mono ?_;rintro e w6 ⟨_,_,_,_,rfl,O6,b6⟩;rw[QN] at O6;obtain⟨⟨ma,mn,mc,rfl⟩,⟨ia,iN,ic,rfl⟩,⟨ea,en,ec,rfl⟩,⟨ca,cn,cc,rfl⟩⟩:=O6.Dq;have O:=AO g1 (AO g6 (AX (bn.trans (b6.mono bn.size)) (some g)));have bK:=AG w6 (.cells #[.slice ma mn mc,.slice ia iN ic,.slice ea en ec,.slice ca cn cc] 28);have hC:=bn.trans ((b6.trans (bK.mono b6.size)).mono bn.size);have D:Te w0 g (N+4) w w6 (.slice w 0 0) [] (w6.alloc (.cells #[.slice ma mn mc,.slice ia iN ic,.slice ea en ec,.slice ca cn cc] 28)):=⟨h5.below hC,AO O (AX bK _),av,cz,BC (Av o1 g6 (.inr (by simp[vI];omega))) hC,O.size,⟨_,_,_,_,_,yy _ _,((O6.2.1.lower (yM (yM g1.size g6.size) bn.size)).below bK),Nat.le_of_ble_eq_true φ⟩,λs J=>by cases J⟩;clear iB bn O6 b6 hC bK g6 h5 o1 g1 X O;go_wp2_with fail;generalize w6.alloc _=wb at D;generalize w6.heap.size=bk at D;generalize(Value.slice w 0 0)=o at D;go_loopw [5,10] (λo i wr=>∃k:Nat,∃ss:List Ax,k<=n/\ss.length=k/\i=.int .i64 k/\Te w0 g (N+4+50*k) w bk o ss wr) (λ_ i _=>n - (intOf i).toNat)
 exact⟨0,[],yu _,rfl,rfl,D⟩
 clear D;obtain⟨k,ss,H,f7,rfl,D⟩:=hrel
 by_cases av:k<n
 .go_wp2_with fail
  refine(D.pk 2).mono ?_;rintro e w7 ⟨a,rfl,a0,a1,S,g7⟩;replace D:=S;clear S g7;go_wp2_with fail;refine(D.pk 4).mono ?_;rintro e w8 ⟨p,rfl,p0,p1,S,g7⟩;replace D:=S;clear S g7;go_wp2_with fail;refine(D.pk 16).mono ?_;rintro e w9 ⟨q,rfl,q0,q1,S,g7⟩;replace D:=S;clear S g7;go_wp2_with fail;refine(D.pk 100).mono ?_;rintro e fm ⟨x,rfl,x0,x1,S,g7⟩;replace D:=S;clear S g7;go_upto_region 11 with fail;generalize wrap64 (wrap64 (16*Hb*p)+q)=S9;have SA:RJ w fm.heap.size u5 ⟨1+a,S9,x,0,0,0,0,0,⟨#[]⟩⟩ (fm.alloc (.cells (Ax.cells ⟨1+a,S9,x,0,0,0,0,0,⟨#[]⟩⟩) 52)):=⟨yy _ _,D.gr.size,λe=>by have:=yE D.own _ e;omega⟩;replace D:=D.below (AG fm (.cells (Ax.cells ⟨1+a,S9,x,0,0,0,0,0,⟨#[]⟩⟩) 52));have cN:=AA (show KJ ⟨1+a,S9,x,0,0,0,0,0,⟨#[]⟩⟩ from⟨by show(0:Nat)<=8;decide,by show(0:Int)<=1000000;decide⟩);simp only[Ax.cells] at SA D;generalize fm.alloc _=i2 at*;generalize fm.heap.size=b at*;generalize(Ax.mk (1+a) S9 x 0 0 0 0 0 ⟨#[]⟩)=s at*;replace SA:=AA SA;have f8:ss.length<=81:=ω;have iP:=AA f7;clear f7;cases ef
  .go_upto_region 13 with fail
   obtain⟨d0,d1,d2,d3,d4,d5,d6,d7,d8⟩:=OC SA.1;go_wp2_with (at_builtin;go_must (refine Bm (lo:=w.heap.size) (n:=ss.length) (xs:=EF ss) (m:=1) (news:=s.cells.toList) rfl rfl 52 _ 9 _ underlying43 Tryz.infoStep rfl ψ rfl (BC D.own (AG _ _)) rfl (Rd.zM _ s.cells _ 9 1 _ χ rfl ζ) (by simp[Ax.cells,xR]) μ ω (by have:=D.gr.size;simp;omega) ?_;intro o' w9 k1 k2 k3 k4));go_roundw;exact⟨k+1,ss++[s],ω,by simp[iP.u],ξ,((D.below (AG _ _)).push k1 k2 cN.u).mono ω⟩;simp[intOf];omega
  go_wp2_with fail
  have Sg:=AA D.glt;refine(D.pk 4).mono ?_;rintro e ie ⟨y,rfl,y0,y1,S,g7⟩;replace D:=S;replace SA:=AA (SA.draw g7 Sg.u);clear S g7;go_upto_if 55 with fail;go_cut [] (λW=>∃s,KJ s/\RJ w b u5 s W/\Te w0 g (N+4+50*k+40) w bk u5 ss W)
  case first=>
   by_cases hy:y=0
   .subst hy
    obtain⟨qm,q2,qe,qc,xs,hg,OI,hl⟩:=D.ker;obtain⟨c0,c1,c2,c3⟩:=AH hg;have Hi:=AA (λL (K:ie.grownBy L (some g))=>AP.rd (Bc OI K (λk H=>by cases H;exact D.glt)));clear hg OI;go_wp2_with fail;refine(Oe qm q2 qe qc xs D.dr ω (Hi.u) hl).mono ?_;rintro e iZ ⟨v,rfl,⟨y,rfl,hy⟩,h7,g7⟩;replace D:=D.draw h7 g7;replace SA:=AA (SA.draw g7 Sg.u);clear h7 g7 c0 c1 c2 c3 Hi hl;obtain⟨y0,y1,y2,y3,y4,y5⟩:=y;dsimp only[AV.cs];obtain⟨d0,d1,d2,d3,d4,d5,d6,d7,d8⟩:=OC SA.1;have hf:=AK SA.1;have G9:=Fz (w:=iZ) (g:=b) (b0:=.int .i64 3) (b1:=.int .i64 0) (b2:=.int .i64 0) (b3:=.int .i64 y0) (b4:=.int .i64 y1) (b5:=.int .i64 y2) (b6:=.int .i64 y3) (b7:=.int .i64 y4) (b8:=.string y5);have HR:=AA (show KJ ⟨3,0,0,y0,y1,y2,y3,y4,y5⟩ from⟨hy.1.1,hy.1.2.2.2⟩);have A:=AA (D.put SA.1 SA.2.1 SA.2.2 G9);have B9:=AA (H6 (b0:=.int .i64 3) (b1:=.int .i64 0) (b2:=.int .i64 0) (b3:=.int .i64 y0) (b4:=.int .i64 y1) (b5:=.int .i64 y2) (b6:=.int .i64 y3) (b7:=.int .i64 y4) (b8:=.string y5) SA.1);unfold De at A B9;clear D G9 hy;go_wp2_with fail;go_meet;exact⟨⟨3,0,0,y0,y1,y2,y3,y4,y5⟩,HR.u,⟨B9.u,SA.2⟩,A.mono ω⟩
   have t0:(y==0)=false:=by simp[hy]
   clear hy;go_wp2_with fail;go_meet;exact⟨s,cN.u,SA.u,D.mono ω⟩
  case rest=>
   clear SA D cN;obtain⟨s,bl,SA,D⟩:=hcut;replace SA:=AA SA;have cN:=AA bl;clear bl;obtain⟨d0,d1,d2,d3,d4,d5,d6,d7,d8⟩:=OC SA.1;go_wp2_with (at_builtin;go_must (refine Bm (lo:=w.heap.size) (n:=ss.length) (xs:=EF ss) (m:=1) (news:=s.cells.toList) rfl rfl 52 _ 9 _ underlying43 Tryz.infoStep rfl ψ rfl (BC D.own (AG _ _)) rfl (Rd.zM _ s.cells _ 9 1 _ χ rfl ζ) (by simp[Ax.cells,xR]) μ ω (by have:=D.gr.size;simp;omega) ?_;intro o' w9 k1 k2 k3 k4));go_roundw;exact⟨k+1,ss++[s],ω,by simp[iP.u],ξ,((D.below (AG _ _)).push k1 k2 cN.u).mono ω⟩;simp[intOf];omega
 by_cases hz:0<n
 .go_wp2_with fail
  refine(D.pk 20).mono ?_;rintro e w7 ⟨a,rfl,a0,a1,S,g7⟩;replace D:=S;clear S g7
  by_cases ha:a=0
  .subst ha
   go_wp2_with fail;refine(D.pk _ ω ω ω).mono ?_;rintro e w8 ⟨p,rfl,p0,p1,S,g7⟩;replace D:=S;clear S g7;go_wp2_with fail;refine(D.pk 5).mono ?_;rintro e fm ⟨q,rfl,q0,q1,S,g7⟩;replace D:=S;clear S g7;go_wp2_with fail;refine(SJ D.dr ω).mono ?_;rintro e i2 ⟨v,rfl,⟨S9,rfl⟩,h7,g7⟩;replace D:=D.draw h7 g7;clear h7 g7;go_wp2_with fail;refine(D.pk 2).mono ?_;rintro e ie ⟨x,rfl,x0,x1,S,g7⟩;replace D:=S;clear S g7;obtain⟨qb,cq,rfl,hq,km⟩:=JG D.own ω;obtain⟨p,rfl⟩:=yg p0;have hp:p<ss.length:=ω;have f8:ss.length<=82:=ω;clear f7;have ow:=D.own;obtain⟨a',c',hv,jA,bx,H0⟩:=DA.open (Ih.rd ow);simp only[xQ,true_and] at hv;obtain⟨rfl,rfl⟩:=hv;obtain⟨sx,J⟩:∃x,ss[p]?=some x:=⟨_,yG hp⟩
   obtain⟨b,ao,iG,D0,D1,D2,D3,D4,D5,D6,D7,D8⟩:=H0.nine (yN _ _) J;obtain⟨rfl,rfl⟩:qb=b/\0=ao:=by simpa using iG
   simp only[Nat.zero_add] at D0 D1 D2 D3 D4 D5 D6 D7 D8;have F:=xV ow;have S:=AA (Ee ow (p*9) 0 (Vw ⟨q,S9,10000*x,0,0,0,0,0,⟨#[]⟩⟩));have Hm:=AA D.sm;clear J iG ow H0 jA;unfold maxLen at bx;go_wp2;go_ret;refine⟨_,rfl,⟨ss.set p ⟨q,S9,10000*x,0,0,0,0,0,⟨#[]⟩⟩,?_,by simpa using f8,λs J=>?_⟩,(D.dr.keep S.2 η (λk H=>by cases H;have:=D.lo;omega)).mono ω,VI D.gr S.2 hq⟩
   .have S1:=S.1
    have e1:=Ro (cs:=Vw) (sz:=9) (λ_=>rfl) hp ⟨q,S9,10000*x,0,0,0,0,0,⟨#[]⟩⟩;unfold Ih;rw[yi];exact(show Fa (EF ss) (p*9) 0 _=EF (ss.set p _) from e1)▸S1
   rcases vU J with J|rfl
   .exact Hm s J
   exact⟨by show(0:Nat)<=8;decide,by show(0:Int)<=1000000;decide⟩
  have t0:(a==0)=false:=by simp[ha]
  clear ha;go_wp2;go_ret;exact⟨_,rfl,⟨ss,D.own,ω,D.sm⟩,D.dr.mono ω,D.gr⟩
 go_wp2
 go_ret;exact⟨_,rfl,⟨ss,D.own,ω,D.sm⟩,D.dr.mono ω,D.gr⟩
theorem KJ.le (h:KJ s):s.nm.size<=maxLen/\s.cc<=9223372036854775807:=⟨by have:=h.1;unfold maxLen;omega,by have:=h.2;omega⟩
def eX(w:Ω)(t:AR×List Int)(r:Ending)(L:Ω):Prop:=∃m i e c s l q o,r=.returned (.tuple #[AN m i e c s l q t.1.FV t.1.U4,o])/\Kr L m i e c s l q t.1/\AE w L o t.2/\Γ w w L
theorem eP (mv iv ev cv sv lv qv v:Φ)(P:AR)(ss:List Ax)(w:Ω)(h:Kr w mv iv ev cv sv lv qv P)(J:KH P.Ve)(hv:DA w v ss)(bl:∀s∈ss,KJ s):
 Ξ prog 13 #[AN mv iv ev cv sv lv qv P.FV P.U4,v] w (eX w (QS P ss)):=by
 unfold QS;cases E:(By P&&DB ss)
 .exact(U3 _ _ _ _ _ _ _ v P ss w h J hv E).mono λ_ L ⟨X,V⟩=>⟨_,_,_,_,_,_,_,_,X,TZ L,World.ownsRow_nil _ _ _ _,V⟩
 obtain⟨X,V⟩:=um.1 E
 exact(Kq _ _ _ _ _ _ _ v P ss w h (EB.1 X) hv V (λs J _=>(bl s J).le)).mono λ_ _ ⟨m,i,e,c,s,l,q,o,X,V,h3,h4⟩=>⟨m,i,e,c,s,l,q,o,X,V.rd,h3,h4⟩
theorem eQ (mv iv ev cv sv lv qv v:Φ)(P:AR)(ss:List Ax)(w:Ω)(h:Kr w mv iv ev cv sv lv qv P)(J:KH P.Ve)(hv:DA w v ss)(bl:∀s∈ss,KJ s):
 Ξ prog 14 #[AN mv iv ev cv sv lv qv P.FV P.U4,v] w (fV w (QS P ss)):=by
 unfold QS;cases E:(By P&&DB ss)
 .exact Tv _ _ _ _ _ _ _ v P ss w h J hv E
 obtain⟨X,V⟩:=um.1 E
 exact(TC _ _ _ _ _ _ _ v P ss w h (EB.1 X) hv V (λs J=>(bl s J).le)).mono λ_ _ ⟨m,i,e,c,s,l,q,o,X,V,h3,h4⟩=>⟨m,i,e,c,s,l,q,o,X,V.rd,AE.rd h3,h4⟩
theorem Uf (X:By P=true)(V:DB ss=true):QS P ss=DK P ss:=by simp[QS,X,V]
def eW(W:Ω)(g:Nat)(P:AR):Prop:=∃m i e c s l q,W.heap[g]?=some (.cells #[m,i,e,c,s,l,q,P.FV,P.U4] 32 (0,0))/\Kr W m i e c s l q P
theorem eW.below (h:eW W g P)(E:Γ W W W'):eW W' g P:=by obtain⟨m,i,e,c,s,l,q,X,V⟩:=h;exact⟨m,i,e,c,s,l,q,AB X E,V.below E⟩
structure Lw(w w1:Ω)(gq gw:Nat)(cs:Array Φ)(T:AR×List Int)(o o':Φ)(W:Ω):Prop where
 p:W.heap[w1.heap.size]?=some (.cells cs 32 (0,0))
 q:eW W gq T.1
 r:eW W gw T.1
 o:AE (w1.heap.size+1) W o T.2
 o':A3 W o' T.2
 b:Γ w w W
 k:Γ w1 w1 W
theorem Lw.below{gq gw:Nat}{cs:Array Φ}{T:AR×List Int}{o o':Φ}(h:Lw w w1 gq gw cs T o o' W)(E:Γ W W W'):Lw w w1 gq gw cs T o o' W':=
 ⟨AB h.p E,h.q.below E,h.r.below E,h.o.below E,h.o'.below E,h.b.trans (E.mono h.b.size),h.k.trans (E.mono h.k.size)⟩
def RG(lo:Nat)(Q:AR)(v:Φ)(w:Ω):Prop:=∃m i e c s l q,v=AN m i e c s l q Q.FV Q.U4/\EI lo w m i e c s l q Q
def RA(lo:Nat)(Q:AR)(b:Bool)(v:Φ)(w:Ω):Prop:=∃g,v=.pointer (some ⟨g,0,none⟩)/\lo<=g/\(b=false->w.heap[g]?=some (.cells #[ι,ι,ι,ι,ι,ι,ι,θ,θ] 32 (0,0)))/\
 (b=true->∃m i e c s l q,w.heap[g]?=some (.cells #[m,i,e,c,s,l,q,Q.FV,Q.U4] 32 (0,0))/\EI lo w m i e c s l q Q)
def RU(lo:Nat)(Q:AR)(f:Φ->Φ)(v:Φ)(w:Ω):Prop:=∃m i e c s l q,v=f (AN m i e c s l q Q.FV Q.U4)/\EI lo w m i e c s l q Q
section
variable {lo g:Nat} {Q:AR} {v:Φ} {w L:Ω} {b:Bool} {cs:Array Φ}
theorem RG.map(h:RG lo Q v w)(X:∀m i e c s l q,EI lo w m i e c s l q Q->EI lo L m i e c s l q Q):RG lo Q v L:=by obtain⟨m,i,e,c,s,l,q,a,b⟩:=h;exact⟨_,_,_,_,_,_,_,a,X _ _ _ _ _ _ _ b⟩
theorem RA.below(h:RA lo Q b v w)(E:Γ w w L):RA lo Q b v L:=by
 obtain⟨g,a,h0,X,V⟩:=h;refine⟨g,a,h0,λe=>AB (X e) E,λe=>?_⟩;obtain⟨m,i,e,c,s,l,q,a,b⟩:=V e;exact⟨_,_,_,_,_,_,_,AB a E,b.below E⟩
theorem MT(K:w.grownBy L (some g))(hB:w.heap[g]?=some (.cells cs 32 (0,0))):∀m i e c s l q,EI lo w m i e c s l q Q->EI lo L m i e c s l q Q:=
 λ_ _ _ _ _ _ _ hG=>hG.yV K hB
theorem RU.below{f:Φ->Φ}(h:RU lo Q f v w)(E:Γ w w L):RU lo Q f v L:=by obtain⟨m,i,e,c,s,l,q,a,b⟩:=h;exact⟨_,_,_,_,_,_,_,a,b.below E⟩
theorem RU.yV{f:Φ->Φ}(h:RU lo Q f v w)(K:w.grownBy L (some g))(hB:w.heap[g]?=some (.cells cs 32 (0,0))):RU lo Q f v L:=by obtain⟨m,i,e,c,s,l,q,a,b⟩:=h;exact⟨_,_,_,_,_,_,_,a,MT K hB _ _ _ _ _ _ _ b⟩
theorem RG.below(h:RG lo Q v w)(E:Γ w w L):RG lo Q v L:=h.map λ_ _ _ _ _ _ _ h=>h.below E
theorem RG.yV(h:RG lo Q v w)(K:w.grownBy L (some g))(hB:w.heap[g]?=some (.cells cs 32 (0,0))):RG lo Q v L:=h.map (MT K hB)
theorem RA.step{ll:Nat->Bool}{i j:Nat}(h:RA lo Q (ll j) v w)(E:Γ w w L)(e:i≠j):RA lo Q (Hh ll i j) v L:=by rw[E9 e];exact h.below E
end
def eR(w:Ω)(r:Ending)(L:Ω):Prop:=∃m i e c s l q P v ss,r=.returned (.tuple #[AN m i e c s l q P.FV P.U4,v])/\Kr L m i e c s l q P/\Ql P/\DA L v ss/\ss.length<=82/\(∀s∈ss,KJ s)/\Γ w w L
theorem Ka (v:Φ)(bs:List Int)(w:Ω)(h:GM w v bs):
 Ξ prog 12 #[v] w (eR w):=by
 obtain⟨B0,bA⟩:=Ec w (.cells #[ι,ι,ι,ι,ι,ι,ι,θ,θ] 32);have hA:GM (w.alloc _) v bs:=⟨h.1.below bA,h.2⟩;have fr:=AY B0;go_in;go_wp2_with fail;generalize w.alloc _=wa at*;refine(YC _ bs _ hA).mono ?_;rintro e w1 ⟨hW,rfl,hR,fs⟩;obtain⟨g,rfl,hD⟩:=Dr.of hR fs;have iD:wa.heap.size<=g:=hD.2.2.1;have iE:=hD.lt;go_wp2_with fail;refine(YE hD ψ).mono ?_;rintro e w2 ⟨v2,rfl,⟨m,i,e2,v,s,l,q,P,rfl,S2,hP⟩,V,g2⟩;obtain⟨⟨⟨ma,mn,mc,rfl⟩,⟨ia,iN,ic,rfl⟩,⟨ea,en,ec,rfl⟩,⟨va,vn,vc,rfl⟩⟩,⟨sa,sn,sc,rfl⟩,⟨la,ln,lc,rfl⟩,⟨qa,qn,qc,rfl⟩⟩:=S2.Dq;unfold AN;have Z2:=(g2.block w (yt fr fs.size) η).trans (AB B0 fs);have id:=AM (bA.trans (fs.mono bA.size)) g2 (yM bA.size iD) (yM bA.size fs.size);obtain⟨NK,bK⟩:=Ec w2 (.cells #[.slice ma mn mc,.slice ia iN ic,.slice ea en ec,.slice va vn vc,.slice sa sn sc,.slice la ln lc,.slice qa qn qc,P.FV,P.U4] 32);have h3:=V.below bK;have S3:=S2.map (LG bK (yF _));have Z3:=AB Z2 bK;have iY:=id.trans (bK.mono id.size);have jv:g<w2.heap.size:=yt iE g2.size;clear S2 V Z2 id bK hR hD hA B0 h bA g2 fs;go_wp2_with fail;generalize w2.alloc _=w3 at*;generalize w2.heap.size=b at*;have h4:=h3;have S4:=S3;have Z4:=Z3;have ib:=iY;have N4:=NK;generalize w3=w4 at*;clear h3 S3 Z3 iY NK;have jp:=AY Z4;obtain⟨c0,c1,c2,c3,c4,c5,c6,c7,c8⟩:=AC N4;have ed:=AY N4;go_wp2_with fail;refine Fs 6 16 10000 2 [3,5] [.a #[.slice ma mn mc,.slice ia iN ic,.slice ea en ec,.slice va vn vc,.slice sa sn sc,.slice la ln lc,.slice qa qn qc,.int .i64 P.FV,.int .i64 P.U4],.p g 0,.p g 0,.z,.z,.z] (λix vv ww=>match ix with
  |3=>Pk 2 vv
  |4=>∃x:Bool,vv=.bool x
  |5=>OJ w4 ww vv
  |_=>True) h4 ?_ ?_ (hst:=?_)
 .intro i hi o Z a wx z Y ll HL O R hg HQ HK
  obtain⟨gO,gN,it,ir,iq,ip,io,im,il⟩:=AC ((R.block b ed η).trans N4)
  match i,hi with
  |0,_=>exact sL Z HK z Y (hl:=Pj ‹_› ‹_› ‹_› ‹_› ‹_› ‹_› ‹_› ‹_› ‹_›)
  |1,_|2,_=>exact sP Z HK z Y
  |3,_=>exact dK (m:=2) Z HQ z Y HL O ω
  |4,_=>clear gO gN it ir iq ip io im il;obtain rfl:=yP Z;have d3:Pk 2 (a.tmps[13]?.getD undef):=Bd Y 3;obtain⟨x3,d3,p0,p1⟩:=d3;clear Y z;refine yO ?_;go_simp;exact HK _ _ ⟨_,rfl⟩ (yN _ _)
  |5,_=>
   clear gO gN it ir iq ip io im il;obtain rfl:=yP Z;have d1:(a.tmps[11]?.getD undef)=.pointer g:=Bd Y 1;have d4:∃x:Bool,(a.tmps[14]?.getD undef)=.bool x:=Bd Y 4
   obtain⟨x4,d4⟩:=d4;clear Y z;refine yO ?_;go_simp;obtain⟨M,hM,hD,iH⟩:=O;have hl:=Xj [3,5] ll 5 (by rfl) HL.u;have:=Nat.mul_le_mul_left 10000 hl;rw[Nat.mul_add,Nat.mul_one] at this;refine(dC (VW x4 hD ω) iH.size).mono ?_;rintro e w_ ⟨v',rfl,X,V,h3⟩;exact HQ _ _ X ⟨M+10000,ω,V.mono ω,AO iH h3⟩ h3
 rotate_left
 .intro i hi vv wz fy b9 hz
  match i,hi with
  |3,_|4,_=>exact hz
  |5,_=>exact OJ.past hz ω b9
  |0,_|1,_|2,_=>exact hz
 intro vs wx hR hD R
 have q0:(vs 0)=.agg #[.slice ma mn mc,.slice ia iN ic,.slice ea en ec,.slice va vn vc,.slice sa sn sc,.slice la ln lc,.slice qa qn qc,P.FV,P.U4]:=Be hR 0;have q5:OJ w4 wx (vs 5):=Be hR 5;clear hR;simp only[Aj,Ae,yL,yI,yJ,yH,q0];simp;generalize vs 5=z5 at q5 ⊢;clear q0;have Z5:=(R.block _ jp η).trans Z4;have S5:=S4.map (IF R iE (yF _));have g9:=Fz (w:=wx) (g:=w.heap.size) (b0:=.slice ma mn mc) (b1:=.slice ia iN ic) (b2:=.slice ea en ec) (b3:=.slice va vn vc) (b4:=.slice sa sn sc) (b5:=.slice la ln lc) (b6:=.slice qa qn qc) (b7:=.int .i64 P.FV) (b8:=.int .i64 P.U4);have S6:=AA (S5.map (Lo g9 Z5 (.inr rfl) (yF _)));have hZ:=AM ib R ω ib.size;have iX:=AA (AM hZ g9 ω hZ.size);have Z6:=AA (H6 (b0:=.slice ma mn mc) (b1:=.slice ia iN ic) (b2:=.slice ea en ec) (b3:=.slice va vn vc) (b4:=.slice sa sn sc) (b5:=.slice la ln lc) (b6:=.slice qa qn qc) (b7:=.int .i64 P.FV) (b8:=.int .i64 P.U4) Z5);unfold De at S6 iX Z6 g9;obtain⟨d0,d1,d2,d3,d4,d5,d6,d7,d8⟩:=AC Z5;have fz:=AK Z5;obtain⟨ss,hO,f7,ay⟩:=q5;have RO:=AA (Ih.rd (Bc hO g9 (λb e=>by cases e;omega)));obtain⟨oa,oc,rfl,_⟩:=(Ih.rd hO).open;clear S4 S5 ib hZ Z4 Z5 g9 hD R N4 c0 c1 c2 c3 c4 c5 c6 c7 c8;go_wp2_with fail;exact yB (v:=.tuple #[.agg #[_,_,_,_,_,_,_,_,_],.slice oa ss.length oc]) (by simp[results,Tryz.results12,go_sem,AC Z6.u]) rfl ⟨_,_,_,_,_,_,_,P,_,ss,rfl,S6.rd,hP,RO.u,f7,ay,iX.u⟩
end Go.Proofs.YtlcnbkkcplllhaaGreatDoor
