/-
  Packed:7 texts.
-/
import Derived.Test.YtlcnbkkcplllhaaGreatDoorY5
import Derived.Test.YtlcnbkkcplllhaaGreatDoorY1
import Derived.Test.YtlcnbkkcplllhaaGreatDoorY3
set_option linter.unusedVariables false
set_option linter.unusedSimpArgs false
set_option maxHeartbeats 16000000
set_option maxRecDepth 100000
open Go Go.Proofs.YtlcnbkkcplllhaaGreatDoor
open Go.Proofs.Tryz renaming results11->tJ,results21->rM,results57->rN
open Go.World.ownsRow renaming cellAt->xO,frozenAt->xU,lt->yC,stored->wj
open Go renaming bodyPost_ret->yB,heap_setCell_same->yE
open Int renaming eq_ofNat_of_zero_le->yd
open List renaming foldl_cons->yJ,foldl_nil->yH,getD_eq_getElem?_getD->yg,getElem?_eq_getElem->yG,getElem?_set_self->xI,getElem?_take->uV,length_set->yh,length_take->ym,range->yL
open List.range renaming loop->yI
open Nat renaming le_refl->yF,min_eq_left->vL,mul_le_mul_right->wI
open Go renaming World->Ω,Value->Φ
variable {ad n:Nat}
namespace Go.Proofs.YtlcnbkkcplllhaaGreatDoor
open Go.Proofs.Tryz
open Go.RowKit
theorem U8{xs:List AX}{f:Nat}{y:AX}(h:JH xs)(hy:y.g.size<=maxLen):JH (xs.set f y):=by
 intro x hx
 rcases List.mem_or_eq_of_mem_set hx with K|K
 .exact h x K
 subst K;exact hy
variable{es:List Ez}
theorem TZ{j:Nat}{f:Ez->Ez}(h:∀i,i<es.length->DQ (AH es i).Pj)(hf:∀e,DQ e.Pj->DQ (f e).Pj):∀i,i<(Ao es j f).length->DQ (AH (Ao es j f) i).Pj:=by
 intro i hi;rw[DI] at hi;rw[IA]
 split
 .rename_i e
  exact hf _ (h j e.2)
 exact h i hi
theorem Y4 (h:∀i,i<es.length->DQ (AH es i).Pj):∀i,i<(es.take n).length->DQ (AH (es.take n) i).Pj:=by
 intro i hi;rw[ym] at hi;have e:AH (es.take n) i=AH es i:=by unfold AH;rw[yg,yg,uV,if_pos ω]
 rw[e];exact h i ω
section
variable {lo g:Nat} {w w':Ω} {m i e c:Φ} {k:AR}
theorem Iz.putWord(h:Iz lo w g m i e c k)(b6:By k.mem=true){f:Nat}(hf:f<12):
 ∃gm br gw ac,m=.slice (some ⟨gm,0,none⟩) 12 br/\gm<w.heap.size/\lo<=gm/\w.cell? ⟨gm,f,none⟩=some (.slice (some ⟨gw,0,none⟩) 4 ac)/\lo<=gw/\
  ∀W q,w.grownBy W (some q)->q<lo->Iz lo W g m i e c k->(∀j,W.frozen? ⟨gw,j,none⟩=false)/\gw<W.heap.size/\(∀j,j<4->∃u,W.cell? ⟨gw,j,none⟩=some u)/\∀j v,Iz lo (W.setCell ⟨gw,j,none⟩ (.int .i64 v)) g m i e c {k with mem:=k.mem.set f ((AK k.mem f).set j v)}/\W.grownBy (W.setCell ⟨gw,j,none⟩ (.int .i64 v)) (some gw):=by
 obtain⟨gm,ad,gw,ac,Y,rfl,f4,_,hc,hl,b8,K,h2,o,hu,hx⟩:=h.zo b6 hf;have h4:=(BB.1 ((Aj.1 b6).2 f hf)).1;refine⟨gm,ad,gw,ac,rfl,f4,(yC o.1 gm rfl).1,hc,b8,λW q hg hq hI=>?_⟩;have hp:∀b',some q=some b'->b'<lo:=λb' e=>by cases e;exact hq
 have fr:w.ownsRow lo 3 1 (.slice gw 4 ac) 4 ((AK k.mem f).map (Value.int .i64)):=by have:=hx;unfold AE at this;rwa [h4] at this
 have bB:=BU fr hg hp;refine⟨λq=>xU bB q,(yC bB gw rfl).2,λj hj=>?_,λj v=>?_⟩
 .rw[xO bB j hj,List.getElem?_map,yG ω]
  exact⟨_,rfl⟩
 have S:=wj bB j (.int .i64 v);have hO:AE lo (W.setCell (gw,j) (.int .i64 v)) (.slice gw 4 ac) ((AK k.mem f).set j v):=by unfold AE;rw[yh,h4,List.map_set];exact S.1
 exact⟨hI.row ⟨BU o.1 hg hp,o.2.1.mono λ_ _ x=>BU x hg hp,o.2.2⟩ (by rw[(Aj.1 b6).1];exact hf) hu hO S.2,S.2⟩
theorem Iz.infoPut{gi:Nat}(h:Iz lo w g m (.slice gi n ad) e c k)(hn:n=k.Zh.length){f:Nat}(hf:f<k.Zh.length)(y:AX):
 Iz lo (((w.setCell (gi,f*3) (.int .i64 y.k)).setCell (gi,f*3+1) (.string y.g)).setCell (gi,f*3+2) (.int .i64 y.r)) g m (.slice gi n ad) e c {k with Zh:=k.Zh.set f y}/\w.grownBy (((w.setCell (gi,f*3) (.int .i64 y.k)).setCell (gi,f*3+1) (.string y.g)).setCell (gi,f*3+2) (.int .i64 y.r)) (some gi)/\lo<=gi:=by
 have hx:k.Zh[f]?=some k.Zh[f]:=yG hf;obtain⟨a1,a2,a3⟩:=h.info hn hx (j:=0) ψ (y:= {k.Zh[f] with k:=y.k}) (u:=.int .i64 y.k) rfl;have ft:({k with Zh:=k.Zh.set f {k.Zh[f] with k:=y.k}}:AR).Zh[f]?=some {k.Zh[f] with k:=y.k}:=xI hf;obtain⟨b1,b2,_⟩:=a1.info (by simpa using hn) ft (j:=1) ψ (y:= {k.Zh[f] with k:=y.k,g:=y.g}) (u:=.string y.g) rfl;have fs:({k with Zh:=(k.Zh.set f {k.Zh[f] with k:=y.k}).set f {k.Zh[f] with k:=y.k,g:=y.g}}:AR).Zh[f]?=some {k.Zh[f] with k:=y.k,g:=y.g}:=xI (by simpa using hf);obtain⟨c1,c2,_⟩:=b1.info (by simpa using hn) fs (j:=2) ψ (y:=y) (u:=.int .i64 y.r) rfl;refine⟨?_,AO (AO a2 b2) c2,a3⟩;have e:((k.Zh.set f {k.Zh[f] with k:=y.k}).set f {k.Zh[f] with k:=y.k,g:=y.g}).set f y=k.Zh.set f y:=χ;rw[<-e];exact c1
theorem Iz.rightsSf{ge:Nat}(h:Iz lo w g m i (.slice ge n ad) c k)(hn:n=k.Xr.length){j:Nat}(hj:j<k.Xr.length){u:Φ}{ss:List ByteArray}(hu:AQ lo 9 1 A0 w u ss):
 (w.setCell (ge,j*2) u).heap[g]?=some (.cells #[m,i,.slice ge n ad,c] 28 (0,0))/\Qt lo (w.setCell (ge,j*2) u) m i (.slice ge n ad) c {k with Xr:=Ao k.Xr j (BT ss)}/\w.grownBy (w.setCell (ge,j*2) u) (some ge)/\lo<=ge:=by
 obtain⟨hB,hg,⟨Y,o1⟩,o2,⟨az,a1,b2,b3⟩,o4⟩:=h;have df:az.length=k.Xr.length:=b2.1;rw[<-df] at hn;subst hn;have cb:j<az.length:=ω;have S:=AQ.zH Gb a1 (k:=j) (x:=az[j]) (yG cb) (j:=0) ψ (y:=(u,az[j].2)) (u:=u) rfl;rw[Nat.add_zero] at S;obtain⟨bq,hc⟩:=A7 a1 ge rfl;have dg:9≠81:=ψ;have cw:=o1.yV S.2 hc;refine⟨LY hB S.2 hc ψ,⟨⟨Y,cw.1,cw.2.1⟩,o2.yV S.2 hc,⟨az.set j (u,az[j].2),?_,⟨?_,?_⟩⟩,o4.yV S.2 hc⟩,S.2,(yC a1 ge rfl).1⟩
 .have:=S.1
  unfold AQ;rw[yh];have h5:=this;unfold AQ at h5;rw[yh] at h5;exact h5
 .rw[yh,DI];exact df
 intro q p ev hp ar
 rw[KF (d:=⟨[],0⟩)] at ar
 by_cases e:j=q
 .subst e
  rw[xI cb] at hp;rw[xI hj] at ar;cases hp;cases ar;have hx:=b2.2 j az[j] (k.Xr.getD j ⟨[],0⟩) (yG cb) (A6 hj);exact⟨hu.yV S.2 hc dg,hx.2⟩
 rw[List.getElem?_set_ne e] at hp ar
 have hx:=b2.2 q p ev hp ar;exact⟨hx.1.yV S.2 hc dg,hx.2⟩
theorem Ue{α:Type}{cs:α->List Φ}{sz:Nat}(R:∀x,(cs x).length=sz)(xs:List α)(n:Nat):Ce cs (xs.take n)=(Ce cs xs).take (n*sz):=by
 induction xs generalizing n with
 |nil=>simp[Ce]
 |cons x xs ih=>
  cases n with
  |zero=>simp[Ce]
  |succ n=>rw[List.take_succ_cons,Ia,Ia,ih,show(n+1)*sz=(cs x).length+n*sz by rw[R,Nat.succ_mul,Nat.add_comm],List.take_length_add_append]
theorem dY{α:Type}{cs:α->List Φ}{sz e g x:Nat}{xs:List α}(R:∀x,(cs x).length=sz)(h:AQ lo e sz cs w (.slice g n ad) xs)(hn:n=xs.length)(hx:x<=n):AQ lo e sz cs w (.slice g x ad) (xs.take x):=by
 subst hn;have hl:(xs.take x).length=x:=by rw[ym];omega
 obtain⟨K,h2⟩:=h;unfold AQ;rw[hl]
 rcases h2 with⟨h3,_⟩|⟨g',cap',bq,h3,h4,h5,h6,h7,h8,h9⟩
 .cases h3
 simp only[Value.slice.injEq,Option.some.injEq,Addr.mk.injEq,true_and,and_true] at h3
 obtain⟨rfl,rfl⟩:=h3;refine⟨?_,.inr ⟨g,ad,bq,rfl,h4,h5,ω,h7,h8,?_⟩⟩
 .rw[Ue R,ym,K]
  exact vL (wI sz hx)
 rw[Ue R,<-h9,List.take_take,vL (wI sz hx)]
theorem Qt.cutEnvs{ge x:Nat}(h:Qt lo w m i (.slice ge n ad) c k)(hn:n=k.Xr.length)(hx:x<=n):Qt lo w m i (.slice ge x ad) c {k with Xr:=k.Xr.take x}:=by
 obtain⟨K,h2,⟨ps,h3,h4⟩,h5⟩:=h;refine⟨K,h2,⟨ps.take x,dY Gb h3 (hn.trans h4.1.symm) hx,?_,λj p ev hp ar=>?_⟩,h5⟩
 .rw[ym,ym,h4.1]
 rw[uV] at hp ar
 split at hp
 .rename_i hj
  rw[if_pos hj] at ar;exact h4.2 j p ev hp ar
 cases hp
end
def Rf(lo:Nat)(w:Ω)(v:Φ):Prop:=∃ss,AQ lo 9 1 A0 w v ss/\DQ ss
variable{N g lo:Nat}
variable{w w0:Ω}
theorem Rf.past{w':Ω}{v:Φ}(h:Rf lo w v)(hg:g<lo)(hb:w.grownBy w' (some g)):Rf lo w' v:=by
 obtain⟨ss,K,h2⟩:=h;exact⟨ss,BU K hb (λb' e=>by cases e;exact hg),h2⟩
theorem bF{P:Program}{f:FuncId}{Y:Array Φ}(h:Calls P f Y w (Il w0 g N w λv w'=>∃ss,AQ w.heap.size 9 1 A0 w' v ss/\DQ ss))(hl:lo<=w.heap.size):Calls P f Y w (Il w0 g N w λv w'=>Rf lo w' v):=
 h.mono λ_ _ h=>by obtain⟨v,rfl,⟨ss,K,h2⟩,h3⟩:=h;exact⟨v,rfl,⟨ss,K.lower hl,h2⟩,h3⟩
theorem Ya (h:Dr w0 g N w)(hN:N<=300000):
 Calls prog 57 #[.pointer g] w (gz Xv w0 g (N+3200) w):=by
 have ai:=h.lt;have be:w0.heap.size<=w.heap.size:=h.2.1.size;have B0:=heap_alloc_new w (.cells #[ι,ι,ι,ι] 28);have gA:=AW (AJ w (.cells #[ι,ι,ι,ι] 28)) (some g);have av:w.heap.size+1=(w.alloc (.cells #[ι,ι,ι,ι] 28)).heap.size:=χ;go_in;go_wp2_with fail;have hA:=h.alloc (.cells #[ι,ι,ι,ι] 28);generalize w.alloc _=wa at*;refine(UG hA ω).mono ?_;rintro e w1 ⟨v,rfl,⟨m,i,ev,c,k,rfl,S1,E⟩,K,g1⟩;obtain⟨⟨ma,mn,mc,rfl⟩,⟨ia,iN,ic,rfl⟩,⟨ea,en,ec,rfl⟩,⟨ca,cn,cc,rfl⟩⟩:=S1.Dq;rw[<-av] at S1;have iy:g<wa.heap.size:=ω;have B1:=(g1.block w.heap.size ω η).trans B0;obtain⟨NK,bK⟩:=EU w1 (.cells #[.slice ma mn mc,.slice ia iN ic,.slice ea en ec,.slice ca cn cc] 28);have h2:=K.below bK;have G2:=AO (AO gA g1) (AW bK (some g));have B2:=AB B1 bK;have S2:Qt (w.heap.size+1) _ _ _ _ _ k:=S1.map (Ka bK (yF _));have bk:w.heap.size<w1.heap.size:=by have:=g1.size;omega
 clear S1 B1 K g1 hA B0 bK gA h;go_wp2_with fail;obtain⟨b,hb⟩:∃b,b=w1.heap.size:=⟨_,rfl⟩
 rw[<-hb] at NK bk ⊢;clear hb;generalize w1.alloc _=w2 at*;refine(h2.pick _).mono ?_;rintro e w3 ⟨x,rfl,x0,x1,h3,g3⟩;have hp:∀b',some g=some b'->b'<w.heap.size+1:=λb' e=>by cases e;omega
 have S3:Qt (w.heap.size+1) w3 _ _ _ _ k:=S2.map (Ge g3 ω (yF _));have B3:=FF B2 (yF _) g3 (λb' e=>by cases e;exact ai);have ae:=FF NK (Nat.le_of_lt bk) g3 (λb' e=>by cases e;exact ai);have G3:=AO G2 g3;obtain⟨c0,c1,c2,c3⟩:=AG ae;clear S2 B2 NK h2 G2 g3
 by_cases hx:0<x
 .obtain⟨d0,d1,d2,d3⟩:=AG B3
  have cg:=AI B3;obtain⟨BX,FX⟩:=fw (ok:=Xv) (M:=N+3200) h3 G3 (S3.map (λ_ _ _ _ _ _ _ h=>Bb h (Nat.le_succ _))) ⟨CJ E,Nat.le_of_eq E.len⟩ ai be B3 ω;have BH:=AA BX;have FH:=AA FX;clear BX FX B3 h3 G3 S3 ae E;go_wp2_with fail;exact yB (v:=.agg #[_,_,_,_]) (by simp[results,rN,go_sem,AG BH.u]) rfl FH.u
 have hS:=S3.rd
 go_wp2_with fail;refine(MR _ _ _ _ k w3 hS E).mono ?_;rintro e w4 ⟨m',i',e',c',rfl,O4,b4⟩;obtain⟨⟨cC,cz,b0,rfl⟩,⟨cN,cP,a9,rfl⟩,⟨ei,ef,ao,rfl⟩,⟨hd,g4,g5,rfl⟩⟩:=O4.Dq;have h4:=h3.below b4;have hz:w.heap.size+1<=w3.heap.size:=by have:=AU B3;omega
 have bD:=AB ae b4;have fz:=AI bD;have A:=fu (ok:=DZ) h4 (AO G3 (AW b4 _)) bD (O4.lower hz) E ai be bk ⟨_,_,_,_,AB B3 b4⟩;obtain⟨c0,c1,c2,c3⟩:=AG bD;clear h3 h4 G3 S3 hS ae bD B3 O4 b4 hz;go_wp2_with fail;generalize(((w4.setCell _ _).setCell _ _).setCell _ _).setCell _ _=w5 at A ⊢;refine(A.pk _).mono ?_;rintro e w6 ⟨f,rfl,f0,f1,S6⟩;clear A c0 c1 c2 c3 fz;go_wp2_with fail;refine(S6.pk _).mono ?_;rintro e w7 ⟨u,rfl,u0,u1,A⟩;clear S6;obtain⟨f,rfl⟩:=yd f0;go_upto_block 0 with fail;go_cut [] (λwx=>J2 Xv w0 g (N+3200) w b wx)
 case rest=>clear A;obtain⟨m9,i9,e9,c9,k9,h9,G9,N9,D,b9,a0,a1,a2,a3,B9⟩:=hcut;obtain⟨⟨cC,cz,b0,rfl⟩,⟨cN,cP,a9,rfl⟩,⟨ei,ef,ao,rfl⟩,⟨hd,g4,g5,rfl⟩⟩:=D.Dq;obtain⟨c0,c1,c2,c3⟩:=AG N9;obtain⟨d0,d1,d2,d3⟩:=AG B9;have cg:=AI B9;obtain⟨BX,FX⟩:=fw (ok:=Xv) h9 G9 D b9 ai be B9 (yF _);have BH:=AA BX;have FH:=AA FX;clear BX FX B9 N9 h9 G9 D E;go_wp2_with fail;exact yB (v:=.agg #[_,_,_,_]) (by simp[results,rN,go_sem,AG BH.u]) rfl FH.u
 case first=>
  have hf:f<12:=ω;have f8:(f:Int)<12:=ω
  rcases(ω:u=0∨u=1∨u=2∨u=3∨u=4∨u=5∨u=6) with rfl|rfl|rfl|rfl|rfl|rfl|rfl
  .obtain⟨gm,br,gw,ac,X,fg,fb,Df,e7,SW⟩:=A.yS.putWord (Aq E).1 hf
   cases X;have SW:=AA SW;obtain⟨c0,c1,c2,c3⟩:=AG A.yS.1;have ab:=AU A.yS.1;have al:=A.lt;have aq:w.heap.size+1<=w7.heap.size:=ω
   go_wp2_with fail;refine Fv 10 87 3 2 [6,8] [.p b 0,.s gm 12 b0,.i ((f:Int)),.p gm f,.s gw 4 ac,.p g 0,.z,.p g 0,.z,.z] (λix vv ww=>match ix with
    |6=>Pk 4 vv
    |8=>∃x:Int,vv=.int .i64 x/\ -1<=x/\x<=9999
    |9=>∃x:Int,vv=.int .i64 x
    |_=>True) A.dr ?_ ?_
   .intro i hi o V a wx J H ll HL hG L h1 HQ Z
    match i,hi with
    |0,_|2,_|5,_|7,_=>exact sP V Z J H
    |1,_=>exact sL V Z J H (hl:=GZ (gc L ab ω c0))
    |3,_=>exact sI V Z J H (hr:=by clear H J Z;go_simp)
    |4,_=>exact sL V Z J H (hl:=K5 (gc L fg ω Df))
    |6,_=>exact dK (m:=4) V HQ J H HL hG ω
    |8,_=>exact iC V HQ J H HL hG (λM hM hD L=>On hD ω)
    |9,_=>
     obtain rfl:=yP V;have d8:∃x:Int,(a.tmps[27]?.getD undef)=.int .i64 x/\ -1<=x/\x<=9999:=Bc H 8
     obtain⟨x8,d8,y0,y1⟩:=d8;clear H J;refine yO ?_;go_simp;exact Z _ _ ⟨_,rfl⟩ (Below.refl _ _)
   intro Y wx hR hD L
   have q4:(Y 4)=.slice gw 4 ac:=Bh hR 4;have q6:Pk 4 (Y 6):=Bh hR 6;obtain⟨x6,q6,p0,p1⟩:=q6;have q9:∃x:Int,(Y 9)=.int .i64 x:=Bh hR 9
   obtain⟨x9,q9⟩:=q9;clear hR;simp only[Ai,Ae,yL,yI,yJ,yH,q4,q6,q9];simp;clear q4 q6 q9;have D:=A.draw hD L;obtain⟨x6,rfl⟩:=yd p0;obtain⟨fz,iw,cd,ek⟩:=SW wx g L ω D.yS;obtain⟨_,cd⟩:=cd x6 ω;obtain⟨I9,z⟩:=ek x6 x9;have HR:=AA (D.ke (ok':=Xv) z ω I9.1 I9.2.2.sf ⟨⟨(CJ E).1,(CJ E).2⟩,by simp[E.len]⟩ (M:=N+3200) ω);clear D I9 z ek hD L A;go_wp2_with fail;go_meet;exact HR.u
  .skip
   obtain⟨gi,ck,X,cx,bP,_,_,D2,_⟩:=A.yS.JR' (f:=f) (by rw[E.len];exact hf);rw[E.len] at X;cases X;obtain⟨c0,c1,c2,c3⟩:=AG A.yS.1;have ab:=AU A.yS.1;have al:=A.lt;have aq:w.heap.size+1<=w7.heap.size:=ω;go_wp2_with fail;refine Fv 5 87 10 1 [4] [.p b 1,.s gi 12 a9,.i ((f:Int)),.p g 0,.z] (λix vv ww=>match ix with
    |4=>OR vv
    |_=>True) A.dr ?_ ?_
   .intro i hi o V a wx J H ll HL hG L h1 HQ Z
    match i,hi with
    |0,_|2,_|3,_=>exact sP V Z J H
    |1,_=>exact sL V Z J H (hl:=Gt (gc L ab ω c1))
    |4,_=>exact iC V HQ J H HL hG (λM hM hD L=>XF hD ω)
   intro Y wx hR hD L
   have q1:(Y 1)=.slice gi 12 a9:=Bh hR 1;have q2:(Y 2)=.int .i64 f:=Bh hR 2;have q4:OR (Y 4):=Bh hR 4;obtain⟨y4,iu,q4⟩:=q4;clear hR;simp only[Ai,Ae,yL,yI,yJ,yH,q1,q2,q4];simp;clear q1 q2 q4;have D:=A.draw hD L;obtain⟨gp,bs,X,bX,_,_,_,_,fz⟩:=D.yS.JR' (f:=f) (by rw[E.len];exact hf);rw[E.len] at X;cases X;obtain⟨I9,z,_⟩:=D.yS.infoPut E.len.symm (f:=f) (by rw[E.len];exact hf) y4;have HR:=AA (D.ke (ok':=Xv) z ω I9.1 I9.2.2.sf ⟨⟨U8 (CJ E).1 μ,(CJ E).2⟩,by simp[E.len]⟩ (M:=N+3200) ω);clear D I9 z hD L A;go_wp2_with fail;go_meet;exact HR.u
  .skip
   obtain⟨gi,ck,X,cx,bP,_,_,D2,_⟩:=A.yS.JR' (f:=f) (by rw[E.len];exact hf);rw[E.len] at X;cases X;obtain⟨c0,c1,c2,c3⟩:=AG A.yS.1;have ab:=AU A.yS.1;have al:=A.lt;have aq:w.heap.size+1<=w7.heap.size:=ω;go_wp2_with fail;refine Ac 10 87 [.p b 1,.s gi 12 a9,.i ((f:Int)),.p b 1,.s gi 12 a9,.i ((f:Int)),.p gi (f*3),.p gi (f*3+2),.i ((JR k.Zh f).r),.z] (λix vv ww=>match ix with
    |9=>∃x:Int,vv=.int .i64 x
    |_=>True) ?_ ?_
   .intro i hi o V a wx J H hG h1 Z
    have fo:=bc hG ab c1;have fm:=bc hG cx D2
    match i,hi with
    |0,_|2,_|3,_|5,_|7,_=>exact sP V Z J H
    |1,_|4,_=>exact sL V Z J H (hl:=Gt ‹_›)
    |6,_=>exact sI V Z J H (hr:=by clear H J Z;go_simp)
    |8,_=>exact sL V Z J H (hl:=GO ‹_›)
    |9,_=>clear fo fm;obtain rfl:=yP V;have d8:(a.tmps[48]?.getD undef)=.int .i64 ((JR k.Zh f).r):=Bc H 8;clear H J;refine yO ?_;go_simp;exact Z _ _ ⟨_,rfl⟩ (Below.refl _ _)
   intro Y wx hR hG
   have q1:(Y 1)=.slice gi 12 a9:=Bh hR 1;have q2:(Y 2)=.int .i64 f:=Bh hR 2;have q9:∃x:Int,(Y 9)=.int .i64 x:=Bh hR 9
   obtain⟨x9,q9⟩:=q9;clear hR;simp only[Ai,Ae,yL,yI,yJ,yH,q1,q2,q9];simp;clear q1 q2 q9;have D:=A.below hG;obtain⟨gp,bs,X,bX,_,d0,d1,d2,fz⟩:=D.yS.JR' (f:=f) (by rw[E.len];exact hf);rw[E.len] at X;cases X;obtain⟨I9,z,_⟩:=D.yS.info E.len.symm (f:=f) (x:=JR k.Zh f) (Cg (by rw[E.len];exact hf)) (j:=2) ψ (y:= {JR k.Zh f with r:=x9}) (u:=.int .i64 x9) rfl;have HR:=AA (D.ke (ok':=Xv) z ω I9.1 I9.2.2.sf ⟨⟨U8 (CJ E).1 (show(JR k.Zh f).g.size<=maxLen from(CJ E).1 _ (List.mem_of_getElem? (Cg (show f<k.Zh.length by rw[E.len];exact hf)))),(CJ E).2⟩,by simp[E.len]⟩ (M:=N+3200) ω);clear D I9 z hG A;go_wp2_with fail;go_meet;exact HR.u
  .skip
   obtain⟨ge,bu,_,_,X,cy,_⟩:=A.yS.env (j:=0) (by rw[E.zX];decide);rw[E.zX] at X;cases X;obtain⟨c0,c1,c2,c3⟩:=AG A.yS.1;have ab:=AU A.yS.1;have al:=A.lt;have aq:w.heap.size+1<=w7.heap.size:=ω;go_wp2_with fail;refine Fv 7 87 1 2 [3,5] [.p b 2,.s ge 3 ao,.p g 0,.z,.p g 0,.z,.z] (λix vv ww=>match ix with
    |3=>Pk 3 vv
    |5=>Pk 13 vv
    |6=>∃x:Int,vv=.int .i64 x
    |_=>True) A.dr ?_ ?_
   .intro i hi o V a wx J H ll HL hG L h1 HQ Z
    match i,hi with
    |0,_|2,_|4,_=>exact sP V Z J H
    |1,_=>exact sL V Z J H (hl:=P6 (gc L ab ω c2))
    |3,_=>exact dK (m:=3) V HQ J H HL hG ω
    |5,_=>exact dK (m:=13) V HQ J H HL hG ω
    |6,_=>obtain rfl:=yP V;have d5:Pk 13 (a.tmps[59]?.getD undef):=Bc H 5;obtain⟨x5,d5,q0,q1⟩:=d5;clear H J;refine yO ?_;go_simp;exact Z _ _ ⟨_,rfl⟩ (Below.refl _ _)
   intro Y wx hR hD L
   have q1:(Y 1)=.slice ge 3 ao:=Bh hR 1;have q3:Pk 3 (Y 3):=Bh hR 3;obtain⟨x3,q3,p0,p1⟩:=q3;have q6:∃x:Int,(Y 6)=.int .i64 x:=Bh hR 6
   obtain⟨x9,q6⟩:=q6;clear hR;simp only[Ai,Ae,yL,yI,yJ,yH,q1,q3,q6];simp;clear q1 q3 q6;have D:=A.draw hD L;obtain⟨x3,rfl⟩:=yd p0;have bi:x3<3:=ω;obtain⟨gr,bt,_,_,X,bY,_,_,_,fz⟩:=D.yS.env (j:=x3) (by rw[E.zX];exact bi);rw[E.zX] at X;cases X;obtain⟨I9,z,_⟩:=D.yS.root E.zX.symm (j:=x3) (by rw[E.zX];exact bi) x9;have HR:=AA (D.ke (ok':=Xv) z ω I9.1 I9.2.2.sf ⟨⟨(CJ E).1,TZ (CJ E).2 (λ_ h=>h)⟩,by simp[E.len]⟩ (M:=N+3200) ω);clear D I9 z hD L A;go_wp2_with fail;go_meet;exact HR.u
  .skip
   obtain⟨ge,bu,_,_,X,cy,_⟩:=A.yS.env (j:=0) (by rw[E.zX];decide);rw[E.zX] at X;cases X;obtain⟨c0,c1,c2,c3⟩:=AG A.yS.1;have ab:=AU A.yS.1;have al:=A.lt;have aq:w.heap.size+1<=w7.heap.size:=ω;go_wp2_with fail;refine Fv 6 87 60 2 [3,5] [.p b 2,.s ge 3 ao,.p g 0,.z,.p g 0,.z] (λix vv ww=>match ix with
    |3=>Pk 3 vv
    |5=>Rf (w.heap.size+1) ww vv
    |_=>True) A.dr ?_ ?_ (hst:=?_)
   .intro i hi o V a wx J H ll HL hG L h1 HQ Z
    match i,hi with
    |0,_|2,_|4,_=>exact sP V Z J H
    |1,_=>exact sL V Z J H (hl:=P6 (gc L ab ω c2))
    |3,_=>exact dK (m:=3) V HQ J H HL hG ω
    |5,_=>exact dR V HQ J H HL hG (λM hM hD L=>bF (UF hD ω) (Nat.le_trans aq L.size))
   rotate_left
   .intro i hi vv wz hh gd hz
    match i,hi with
    |3,_=>exact hz
    |5,_=>exact Rf.past hz ω gd
    |0,_|1,_|2,_|4,_=>exact hz
   intro Y wx hR hD L
   have q1:(Y 1)=.slice ge 3 ao:=Bh hR 1;have q3:Pk 3 (Y 3):=Bh hR 3;obtain⟨x3,q3,p0,p1⟩:=q3;have q5:Rf (w.heap.size+1) wx (Y 5):=Bh hR 5;clear hR;simp only[Ai,Ae,yL,yI,yJ,yH,q1,q3];simp;generalize Y 5=z5 at q5 ⊢;clear q1 q3;have D:=A.draw hD L;obtain⟨x3,rfl⟩:=yd p0;have bi:x3<3:=ω;obtain⟨gr,bt,_,_,X,bY,_,_,_,fz⟩:=D.yS.env (j:=x3) (by rw[E.zX];exact bi);rw[E.zX] at X;cases X;obtain⟨ss,hO,fv⟩:=q5;obtain⟨N9,ay,z,_⟩:=D.yS.rightsSf E.zX.symm (j:=x3) (by rw[E.zX];exact bi) hO;have HR:=AA (D.ke (ok':=Xv) z ω N9 ay ⟨⟨(CJ E).1,TZ (CJ E).2 (λ_ _=>fv)⟩,by simp[E.len]⟩ (M:=N+3200) ω);obtain⟨_,_,rfl,_,_⟩:=hO.rd.shape;clear D N9 ay z hD L A hO;go_wp2_with fail;go_meet;exact HR.u
  .skip
   obtain⟨c0,c1,c2,c3⟩:=AG A.yS.1;have ab:=AU A.yS.1;have al:=A.lt;have aq:w.heap.size+1<=w7.heap.size:=ω;go_wp2_with fail;refine(Vn A.dr ω).mono ?_;rintro e w8 ⟨v,rfl,⟨ss,hO⟩,h8,g8⟩;have D:=A.draw h8 g8;have hO:=hO.lower aq;have z:=Ak w8 b 3 v;have N9:=yE w8 b 3 _ _ v D.yS.1;have O9:=D.yS.2.2.sf;have ay:Qt (w.heap.size+1) (w8.setCell (b,3) v) _ _ _ v {k with Xo:=ss}:=Qt.map (⟨O9.1,O9.2.1,O9.2.2.1,hO⟩:Qt (w.heap.size+1) w8 _ _ _ v {k with Xo:=ss}) (Ls z D.yS.1 (.inl rfl) (yF _));have HR:=AA (D.ke (ok':=Xv) z al (by simpa using N9) ay ⟨⟨(CJ E).1,(CJ E).2⟩,by simp[E.len]⟩ (M:=N+3200) ω);have fz:=AI D.yS.1;obtain⟨c0,c1,c2,c3⟩:=AG D.yS.1;obtain⟨_,_,rfl,_,_⟩:=hO.rd.shape;clear D N9 ay O9 z h8 g8 A hO;go_wp2_with fail;go_meet;exact HR.u
  skip
  obtain⟨ge,bu,_,_,X,cy,_⟩:=A.yS.env (j:=0) (by rw[E.zX];decide);rw[E.zX] at X;cases X;obtain⟨c0,c1,c2,c3⟩:=AG A.yS.1;have ab:=AU A.yS.1;have al:=A.lt;have aq:w.heap.size+1<=w7.heap.size:=ω;go_wp2_with fail;refine Fv 4 87 1 1 [3] [.p b 2,.s ge 3 ao,.p g 0,.z] (λix vv ww=>match ix with
   |3=>Pk 3 vv
   |_=>True) A.dr ?_ ?_
  .intro i hi o V a wx J H ll HL hG L h1 HQ Z
   match i,hi with
   |0,_|2,_=>exact sP V Z J H
   |1,_=>exact sL V Z J H (hl:=P6 (gc L ab ω c2))
   |3,_=>exact dK (m:=3) V HQ J H HL hG ω
  intro Y wx hR hD L
  have q1:(Y 1)=.slice ge 3 ao:=Bh hR 1;have q3:Pk 3 (Y 3):=Bh hR 3;obtain⟨x3,q3,p0,p1⟩:=q3;clear hR;simp only[Ai,Ae,yL,yI,yJ,yH,q1,q3];simp;clear q1 q3;have D:=A.draw hD L;obtain⟨x3,rfl⟩:=yd p0;have bi:x3<3:=ω;have gb:3<=ao:=by obtain⟨_,_,e9,cd,_⟩:=D.yS.2.2.2.2.1.choose_spec.1.rd.shape;simp only[Value.slice.injEq] at e9;obtain⟨_,e8,rfl⟩:=e9;omega
  have z:=Ak wx b 2 (.slice ge x3 ao);have N9:=yE wx b 2 _ _ (.slice ge x3 ao) D.yS.1;have ay:=(D.yS.2.2.sf.cutEnvs E.zX.symm (x:=x3) ω).map (Ls z D.yS.1 (.inl rfl) (yF _));have HR:=AA (D.ke (ok':=Xv) z al (by simpa using N9) ay ⟨⟨(CJ E).1,Y4 (CJ E).2⟩,by simp[E.len]⟩ (M:=N+3200) ω);have fz:=AI D.yS.1;obtain⟨c0,c1,c2,c3⟩:=AG D.yS.1;clear D N9 ay z hD L A;go_wp2_with fail;go_meet;exact HR.u
def Qu(P:AP):Prop:=Xv P.V0
theorem UW{α β γ:Type}{hs:α->β->Prop}{S:α->γ->Prop}{xs:List α}{ys:List β}(h:Gj hs xs ys)(f:∀x y,hs x y->∃g9,S x g9):∃zs,Gj S xs zs:=by
 induction xs generalizing ys with
 |nil=>exact⟨[],rfl,λi x y h=>by simp at h⟩
 |cons a xs ih=>
  cases ys with
  |nil=>exact absurd h.1 χ
  |cons b ys=>
   obtain⟨g9,hz⟩:=f a b (h.2 0 a b rfl rfl);obtain⟨zs,K,h2⟩:=ih (ys:=ys) ⟨by simpa using h.1,λi x y hx hy=>h.2 (i+1) x y (by simpa using hx) (by simpa using hy)⟩;refine⟨g9::zs,by simp[K],λi x y hx hy=>?_⟩;cases i with
   |zero=>simp at hx hy;subst hx hy;exact hz
   |succ i=>exact h2 i x y (by simpa using hx) (by simpa using hy)
theorem Vz{u:Φ}{r:List Int}(gl j:Nat)(x:Int)(h:AE lo w u r):∃r',AE lo (w.setCell (gl,j) (.int .i64 x)) u r':=by
 have hg:=Ak w gl j (.int .i64 x)
 by_cases hu:u.ownBlock=some gl
 .have h0:=h
  obtain⟨K,h2⟩:=h0
  rcases h2 with⟨e,e2⟩|⟨g',cap',bq,e,h3⟩
  .subst e
   simp[Value.ownBlock] at hu
  subst e
  simp[Value.ownBlock] at hu;subst hu;refine⟨r.set j x,?_⟩;have S:=(wj h j (.int .i64 x)).1;unfold AE;rw[yh,List.map_set];exact S
 exact⟨r,Au h hg (.inr hu)⟩
section
variable {ok:AP->Prop} {w0 w wr:Ω} {g N M b:Nat} {m i e c s l q:Φ} {P:AP}
theorem Pc.lowPut{lo gl:Nat}(h:Pc lo w m i e c s (.slice gl n ad) q P)(j:Nat)(x:Int):
 ∃P',Pc lo (w.setCell (gl,j) (.int .i64 x)) m i e c s (.slice gl n ad) q P'/\P'.FU=P.FU/\P'.VO=P.VO/\P'.V0.Zh=P.V0.Zh/\P'.V0.Xr=P.V0.Xr:=by
 obtain⟨⟨⟨Y,K,h2⟩,h3,⟨ps,h4,h5⟩,h6⟩,⟨us,h7,h8⟩,h9,gk⟩:=h;have hg:=Ak w gl j (.int .i64 x);obtain⟨bq,hc⟩:=A7 h9 gl rfl;obtain⟨m',hm⟩:=UW h2 λu r h=>Vz gl j x h
 obtain⟨s',R⟩:=UW h8 (S:=cB lo (w.setCell (gl,j) (.int .i64 x))) λu r h=>by
  rcases h with h|h
  .obtain⟨r',h'⟩:=Vz gl j x h
   exact⟨r',.inl h'⟩
  exact⟨r,.inr h⟩
 obtain⟨l',hl⟩:=Vz gl j x h9;exact⟨⟨⟨m',P.V0.Zh,P.V0.Xr,P.V0.Xo⟩,s',l',P.Xs,P.FU,P.VO⟩,⟨⟨⟨Y,K.yV hg hc,hm⟩,h3.yV hg hc,⟨ps,h4.yV hg hc,h5.mono λ_ _ h=>⟨h.1.yV hg hc,h.2⟩⟩,h6.yV hg hc⟩,⟨us,h7.yV hg hc,R⟩,hl,gk.yV hg hc⟩,rfl,rfl,rfl,rfl⟩
theorem JF.page{gq n0 j:Nat}{x y:Bx}{u:Φ}(A:JF ok w0 g N w b m i e c s l (.slice gq n0 ad) P wr)(b7:n0=P.Xs.length)(E:P.Xs[n]?=some x)(hj:j<3)(hy:DT y=(DT x).set j u)(R:Qu P)(hM:N<=M):WS Qu w0 g M w b (wr.setCell (gq,n*3+j) u):=by obtain⟨I,z,h9⟩:=A.yQ.zz b7 E hj hy;exact A.pe (ok':=Qu) z ω I.yU I.own.sf R hM
theorem JF.FU(A:JF ok w0 g N w b m i e c s l q P wr)(x:Int)(R:Qu P)(hM:N<=M):WS Qu w0 g M w b (wr.setCell (b,7) (.int .i64 x)):=by obtain⟨I,z⟩:=A.yQ.zr x;exact A.pe (ok':=Qu) z A.lt I.yU I.own.sf R hM
theorem JF.lim(A:JF ok w0 g N w b m i e c s l q P wr)(x:Int)(R:Qu P)(hM:N<=M):WS Qu w0 g M w b (wr.setCell (b,8) (.int .i64 x)):=by have z:=Ak wr b 8 (.int .i64 x);have h8:=yE wr b 8 _ _ (.int .i64 x) A.yQ.yU;exact A.pe (ok':=Qu) (P':= {P with VO:=x}) z A.lt (by simpa using h8) (A.yQ.own.sf.map (Ls z A.yQ.yU (.inr rfl) (yF _))) R hM
theorem JF.V0{m' i' e' c':Φ}{k':AR}(A:JF ok w0 g N w b m i e c s l q P wr)(S:Qt (w.heap.size+1) wr m' i' e' c' k')(R:Xv k')(hM:N<=M):WS Qu w0 g M w b ((((wr.setCell b m').setCell (b,1) i').setCell (b,2) e').setCell (b,3) c'):=by have z:=Ar wr b m' i' e' c';have hP:=A.yQ.own.sf;exact A.pe (ok':=Qu) (P':= {P with V0:=k'}) z A.lt (KN A.yQ.yU) (Pc.map (⟨S,hP.2⟩:Pc (w.heap.size+1) wr m' i' e' c' s l q {P with V0:=k'}) (Ls z A.yQ.yU (.inr rfl) (yF _))) R hM
theorem JF.row{gs n0:Nat}{v':Φ}{r:List Int}{w1:Ω}(A:JF ok w0 g N w b m i e c (.slice gs n0 ad) l q P wr)(hb:Below wr wr w1)(hO:AE wr w1 v' r)(b7:n0=P.swap.length)(hn:n<P.swap.length)(R:Qu P)(hM:N<=M):WS Qu w0 g M w b (w1.setCell (gs,n) v'):=by
 obtain⟨Y,hr⟩:=A.yQ.own.swp;have b8:w.heap.size+1<=wr.heap.size:=by have:=AU A.yQ.yU;have:=A.lt;omega
 have hs:=hr.set (B:=wr.heap.size) (j:=n) hb hO (yF _) b8 (b7.trans hr.2.1.1.symm) (by rw[hr.2.1.1];exact hn);have I:=(A.yQ.below hb).zk hs.2 hs.1;have K:=(yC hr.1 gs rfl).1;exact(A.below hb).pe (ok':=Qu) hs.2 ω I.yU I.own.sf R hM
theorem JF.lowx{gl n0:Nat}(A:JF ok w0 g N w b m i e c s (.slice gl n0 ad) q P wr)(j:Nat)(x:Int)(R:Qu P)(hM:N<=M):WS Qu w0 g M w b (wr.setCell (gl,j) (.int .i64 x)):=by have hP:=A.yQ.own;obtain⟨P',S',X,e2,e3,e4⟩:=hP.sf.lowPut j x;obtain⟨bq,hc⟩:=A7 hP.low gl rfl;have K:=(yC hP.low gl rfl).1;have z:=Ak wr gl j (.int .i64 x);have hB:=At A.yQ.yU z (Bz hc A.yQ.yU);rw[<-X,<-e2] at hB;refine A.pe (ok':=Qu) z ω hB S' ?_ hM;unfold Qu Xv Gs at R ⊢;rw[e3,e4];exact R
end
theorem Se (h:Dr w0 g N w)(hN:N<=50000):
 Calls prog 21 #[.pointer g] w (g0 Qu w0 g (N+4300) w):=by
 have ai:=h.lt;have be:w0.heap.size<=w.heap.size:=h.2.1.size;obtain⟨B0,bA⟩:=EU w (.cells #[ι,ι,ι,ι,ι,ι,ι,θ,θ] 32);have gA:=AW bA (some g);have hA:=h.below bA;have bC:=AU B0;go_in;go_wp2_with fail;generalize w.alloc _=wa at*;refine(Vp hA ω).mono ?_;rintro e w1 ⟨v,rfl,⟨m,i,ev,c,s,l,q,P,rfl,S1,O⟩,K,g1⟩;obtain⟨⟨⟨ma,mn,mc,rfl⟩,⟨ia,iN,ic,rfl⟩,⟨ea,en,ec,rfl⟩,⟨va,vn,vc,rfl⟩⟩,⟨sa,sn,sc,rfl⟩,⟨la,ln,lc,rfl⟩,⟨qa,qn,qc,rfl⟩⟩:=S1.Dq;unfold AN;have B1:=(g1.block w bC η).trans B0;obtain⟨NK,bK⟩:=EU w1 (.cells #[.slice ma mn mc,.slice ia iN ic,.slice ea en ec,.slice va vn vc,.slice sa sn sc,.slice la ln lc,.slice qa qn qc,P.FU,P.VO] 32);have h2:=K.below bK;have G2:=AO (AO gA g1) (AW bK (some g));have B2:=AB B1 bK;have S2:=S1.map (Ka bK bC);have bk:w.heap.size<w1.heap.size:=Nat.lt_of_lt_of_le bC g1.size;clear S1 B1 K g1 hA B0 bK gA h bA bC;go_wp2_with fail;generalize w1.alloc _=w2 at*;generalize w1.heap.size=b at*;refine(h2.pick _).mono ?_;rintro e w3 ⟨x,rfl,x0,x1,h3,g3⟩;have hp:∀b',some g=some b'->b'<w.heap.size+1:=λb' e=>by cases e;omega
 have S3:=S2.map (Ge g3 (ω:g<w.heap.size+1) (yF _));have B3:=FF B2 (yF _) g3 (λb' e=>by cases e;exact ai);have ae:=FF NK (Nat.le_of_lt bk) g3 (λb' e=>by cases e;exact ai);have G3:=AO G2 g3;obtain⟨c0,c1,c2,c3,c4,c5,c6,c7,c8⟩:=AC ae;have R:Qu P:=⟨CJ O.k,Nat.le_of_eq O.k.len⟩;clear S2 B2 NK h2 G2 g3
 by_cases hx:0<x
 .obtain⟨d0,d1,d2,d3,d4,d5,d6,d7,d8⟩:=AC B3
  have cg:=AI B3;obtain⟨BX,FX⟩:=gJ (ok:=Qu) (M:=N+4300) h3 G3 (S3.map (λ_ _ _ _ _ _ _ h=>Bb h (Nat.le_succ _))) R ai be B3 ω;unfold DO at BX FX;have BH:=AA BX;have FH:=AA FX;clear BX FX B3 h3 G3 S3 ae O R;go_wp2_with fail;exact yB (v:=.agg #[_,_,_,_,_,_,_,_,_]) (by simp[results,rM,go_sem,AC BH.u]) rfl FH.u
 have CC:=Ki _ _ _ _ _ _ _ P w3 S3.rd O
 unfold AN at CC;go_wp2_with fail;refine CC.mono ?_;rintro e w4 ⟨m4,i4,e4,iP,s4,l4,q4,rfl,O4,b4⟩;obtain⟨⟨⟨cC,cz,b0,rfl⟩,⟨cN,cP,a9,rfl⟩,⟨ei,ef,ao,rfl⟩,⟨hF,hv,hC,rfl⟩⟩,⟨hT,hK,eL,rfl⟩,⟨ip,il,cF,rfl⟩,⟨id,hV,cu,rfl⟩⟩:=O4.Dq;unfold AN;have h4:=h3.below b4;have fp:w.heap.size+1<=w3.heap.size:=by have:=AU ae;omega
 have A:=gI (b:=b) h4 (AO G3 (AW b4 _)) (AB ae b4) (O4.lower fp) O ai be bk ⟨_,_,_,_,_,_,_,_,_,AB B3 b4⟩;have fz:=AI (AB ae b4);clear c0 c1 c2 c3 c4 c5 c6 c7 c8;obtain⟨c0,c1,c2,c3,c4,c5,c6,c7,c8⟩:=AC (AB ae b4);have A:=AA A;clear S3 B3 ae h3 G3 O4 b4 h4 CC;go_wp2_with fail;replace A:=A.u;unfold DO at A;generalize((((((((w4.setCell _ _).setCell _ _).setCell _ _).setCell _ _).setCell _ _).setCell _ _).setCell _ _).setCell _ _).setCell _ _=w5 at A ⊢;refine(A.pk 16).mono ?_;rintro e w6 ⟨f,rfl,f0,f1,S6⟩;clear A c0 c1 c2 c3 c4 c5 c6 c7 c8 fz;go_wp2_with fail;refine(S6.pk 7).mono ?_;rintro e w7 ⟨u,rfl,u0,u1,A⟩;clear S6;obtain⟨f,rfl⟩:=yd f0;go_upto_block 0 with fail;go_cut [] (λwx=>WS Qu w0 g (N+4200) w b wx)
 case rest=>clear A;obtain⟨m9,i9,e9,c9,s9,l9,q9,P9,h9,G9,N9,D,b9,a0,a1,a2,a3,a4,a5,a6,a7,a8,B9⟩:=hcut;obtain⟨⟨⟨ij,ig,ii,rfl⟩,⟨ir,it,iq,rfl⟩,⟨iM,iK,iL,rfl⟩,⟨hE,ht,hw,rfl⟩⟩,⟨hQ,hH,hL,rfl⟩,⟨io,ik,im,rfl⟩,⟨hY,hU,hX,rfl⟩⟩:=D.Dq;obtain⟨c0,c1,c2,c3,c4,c5,c6,c7,c8⟩:=AC N9;obtain⟨d0,d1,d2,d3,d4,d5,d6,d7,d8⟩:=AC B9;have cg:=AI B9;obtain⟨BX,FX⟩:=gJ (ok:=Qu) (M:=N+4300) h9 G9 D b9 ai be B9 ω;unfold DO at BX FX;have BH:=AA BX;have FH:=AA FX;clear BX FX B9 N9 h9 G9 D;go_wp2_with fail;exact yB (v:=.agg #[_,_,_,_,_,_,_,_,_]) (by simp[results,rM,go_sem,AC BH.u]) rfl FH.u
 case first=>
  have hf:f<16:=ω;have f8:(f:Int)<16:=ω
  rcases(ω:u=0∨u=1∨u=2∨u=3∨u=4∨u=5∨u=6) with rfl|rfl|rfl|rfl|rfl|rfl|rfl
  .skip
   obtain⟨gq,ci,X,_,_,fd,_⟩:=A.yQ.page (n:=f) (by rw[O.zY];exact hf);rw[O.zY] at X;cases X;obtain⟨c0,c1,c2,c3,c4,c5,c6,c7,c8⟩:=AC A.yQ.yU;have ab:=AU A.yQ.yU;have al:=A.lt;go_wp2_with fail;refine Fv 7 69 1 1 [4] [.p b 6,.s gq 16 cu,.i ((f:Int)),.p g 0,.z,.p gq (f*3),.p gq (f*3)] (λix vv ww=>match ix with
    |4=>Pk 4 vv
    |_=>True) A.dr ?_ ?_
   .intro i hi o V a wx J H ll HL hG L h1 HQ Z
    match i,hi with
    |0,_|2,_|3,_|6,_=>exact sP V Z J H
    |1,_=>exact sL V Z J H (hl:=eU (gc L ab ω c6))
    |4,_=>exact dK (m:=4) V HQ J H HL hG ω
    |5,_=>exact sI V Z J H (hr:=by clear H J Z;go_simp)
   intro Y wx hR hD L
   have q4:Pk 4 (Y 4):=Bh hR 4;obtain⟨x4,q4,p0,p1⟩:=q4;have q6:(Y 6)=.pointer (some ⟨gq,f*3,none⟩):=Bh hR 6;clear hR;simp only[Ai,Ae,yL,yI,yJ,yH,q4,q6];simp;clear q4 q6;have D:=A.draw hD L;obtain⟨f3,fq,d0,d1,d2⟩:=D.yQ.pg (n:=f) (by rw[O.zY];exact hf);have HR:=AA (D.page (x:=AD P.Xs f) (y:= {AD P.Xs f with w:=x4}) (n:=f) (j:=0) O.zY.symm (by unfold AD;exact A6 (by rw[O.zY];exact hf)) ψ rfl R (M:=N+4200) ω);clear D hD L A;go_wp2_with fail;go_meet;exact HR.u
  .skip
   obtain⟨gq,ci,X,_,_,fd,_⟩:=A.yQ.page (n:=f) (by rw[O.zY];exact hf);rw[O.zY] at X;cases X;obtain⟨c0,c1,c2,c3,c4,c5,c6,c7,c8⟩:=AC A.yQ.yU;have ab:=AU A.yQ.yU;have al:=A.lt;go_wp2_with fail;refine Fv 7 69 1 1 [4] [.p b 6,.s gq 16 cu,.i ((f:Int)),.p g 0,.z,.p gq (f*3),.p gq (f*3+1)] (λix vv ww=>match ix with
    |4=>Pk 16 vv
    |_=>True) A.dr ?_ ?_
   .intro i hi o V a wx J H ll HL hG L h1 HQ Z
    match i,hi with
    |0,_|2,_|3,_|6,_=>exact sP V Z J H
    |1,_=>exact sL V Z J H (hl:=eU (gc L ab ω c6))
    |4,_=>exact dK (m:=16) V HQ J H HL hG ω
    |5,_=>exact sI V Z J H (hr:=by clear H J Z;go_simp)
   intro Y wx hR hD L
   have q4:Pk 16 (Y 4):=Bh hR 4;obtain⟨x4,q4,p0,p1⟩:=q4;have q6:(Y 6)=.pointer (some ⟨gq,f*3+1,none⟩):=Bh hR 6;clear hR;simp only[Ai,Ae,yL,yI,yJ,yH,q4,q6];simp;clear q4 q6;have D:=A.draw hD L;obtain⟨f3,fq,d0,d1,d2⟩:=D.yQ.pg (n:=f) (by rw[O.zY];exact hf);have HR:=AA (D.page (x:=AD P.Xs f) (y:= {AD P.Xs f with a:=x4}) (n:=f) (j:=1) O.zY.symm (by unfold AD;exact A6 (by rw[O.zY];exact hf)) ψ rfl R (M:=N+4200) ω);clear D hD L A;go_wp2_with fail;go_meet;exact HR.u
  .obtain⟨Y,hr⟩:=A.yQ.own.swp
   have cT:Y.length=16:=by rw[hr.2.1.1,O.zN]
   obtain⟨gs,g7,X,iR,iQ,e6,e0,f7⟩:=hr.1.zW ω;rw[cT] at X;cases X;have b4:=AJ w7 (.cells #[ϕ,.int .i64 2,.int .i64 3,.int .i64 4] 3);have hO:AE w7 (w7.alloc (.cells #[ϕ,.int .i64 2,.int .i64 3,.int .i64 4] 3)) (.slice w7 4 4) [1,2,3,4]:=Sx w7 3 1 4 [.int .i64 1,.int .i64 2,.int .i64 3,.int .i64 4] rfl ψ;have HR:=AA (A.row (n:=f) b4 hO O.zN.symm (by rw[O.zN];exact hf) R (M:=N+4200) ω);have g1:(w7.alloc (.cells #[ϕ,.int .i64 2,.int .i64 3,.int .i64 4] 3)).ownsRow (w.heap.size+1) 29 1 (.slice gs 16 eL) 16 Y:=by have:=(hr.below b4).1;unfold AQ at this;rwa [IU,cT] at this
   have C1:=xO g1 f ω;rw[yG ω] at C1;have F1:=xU g1 f;obtain⟨c0,c1,c2,c3,c4,c5,c6,c7,c8⟩:=AC A.yQ.yU;have f2:gs<w7.heap.size:=e0;clear g1 hO b4 hr f7 A;go_wp2_with fail;go_meet;rw[<-World.setCell_alloc_past _ gs f _ f2];exact HR.u
  .skip
   go_wp2_with fail;refine(A.pk 20).mono ?_;rintro e w8 ⟨g9,rfl,z0,z1,S8⟩;obtain⟨c0,c1,c2,c3,c4,c5,c6,c7,c8⟩:=AC S8.yQ.yU;have fq:=AI S8.yQ.yU;have HR:=AA (λx=>S8.FU x R (M:=N+4200) ω);clear S8 A;go_wp2_with fail;go_meet;exact HR _
  .skip
   go_wp2_with fail;refine(A.pk 9).mono ?_;rintro e w8 ⟨g9,rfl,z0,z1,S8⟩;obtain⟨c0,c1,c2,c3,c4,c5,c6,c7,c8⟩:=AC S8.yQ.yU;have fq:=AI S8.yQ.yU;have HR:=AA (λx=>S8.lim x R (M:=N+4200) ω);clear S8 A;go_wp2_with fail;go_meet;exact HR _
  .obtain⟨gl,g6,X,ie,_⟩:=KU A.yQ.own.low (j:=0) (by rw[O.zD];decide)
   rw[O.zD] at X;cases X;obtain⟨c0,c1,c2,c3,c4,c5,c6,c7,c8⟩:=AC A.yQ.yU;have ab:=AU A.yQ.yU;have al:=A.lt;go_wp2_with fail;refine Fv 6 69 1 2 [3,5] [.p b 5,.s gl 4 cF,.p g 0,.z,.p g 0,.z] (λix vv ww=>match ix with
    |3=>Pk 4 vv
    |5=>Pk 12 vv
    |_=>True) A.dr ?_ ?_
   .intro i hi o V a wx J H ll HL hG L h1 HQ Z
    match i,hi with
    |0,_|2,_|4,_=>exact sP V Z J H
    |1,_=>exact sL V Z J H (hl:=K5 (gc L ab ω c5))
    |3,_=>exact dK (m:=4) V HQ J H HL hG ω
    |5,_=>exact dK (m:=12) V HQ J H HL hG ω
   intro Y wx hR hD L
   have q1:(Y 1)=.slice gl 4 cF:=Bh hR 1;have q3:Pk 4 (Y 3):=Bh hR 3;obtain⟨x3,q3,p0,p1⟩:=q3;have q5:Pk 12 (Y 5):=Bh hR 5;obtain⟨x5,q5,q0,q1⟩:=q5;clear hR;simp only[Ai,Ae,yL,yI,yJ,yH,q1,q3,q5];simp;clear q1 q3 q5;have D:=A.draw hD L;obtain⟨x3,rfl⟩:=yd p0;obtain⟨iJ,ej,X,fk,D9⟩:=KU D.yQ.own.low (j:=x3) (by rw[O.zD];omega);rw[O.zD] at X;cases X;have ow:=D.yQ.own.low;unfold AE at ow;rw[O.zD] at ow;have fl:=xU ow x3;clear ow;have HR:=AA (D.lowx x3 x5 R (M:=N+4200) ω);clear D hD L A;go_wp2_with fail;go_meet;exact HR.u
  go_wp2_with fail
  refine(Ya A.dr ω).mono ?_;rintro e w8 ⟨v,rfl,⟨m8,i8,e8,iO,k',rfl,S8,fy⟩,h8,g8⟩;obtain⟨⟨ka,kn,kc,rfl⟩,⟨ja,jn,jc,rfl⟩,⟨fa,fn,fc,rfl⟩,⟨ra,rn,rc,rfl⟩⟩:=S8.Dq;have D:=A.draw h8 g8;have fz:=AI D.yQ.yU;obtain⟨c0,c1,c2,c3,c4,c5,c6,c7,c8⟩:=AC D.yQ.yU;have aq:w.heap.size+1<=w7.heap.size:=by have:=AU A.yQ.yU;have:=A.lt;omega
  have HR:=AA (D.V0 (S8.map (λ_ _ _ _ _ _ _ x=>Bb x aq)) fy (M:=N+4200) ω);clear D S8 h8 g8 A;go_wp2_with fail;go_meet;exact HR.u
section
variable {w wa W0 ww w':Ω} {g N rb:Nat} {o0 o1:Obj} {p s:Bool}
end
def R4(lo:Nat)(v:Φ)(w:Ω):Prop:=∃q o,∃x:Int,v=.pointer (some ⟨q,o,none⟩)/\lo<=q/\w.cell? ⟨q,o,none⟩=some (.int .i64 x)
def R1(k lo:Nat)(v:Φ)(w:Ω):Prop:=∃xs:List Int,xs.length=k/\AE lo w v xs
theorem VL (mv iv ev cv sv lv qv:Φ)(P:AP)(a:Int)(w:Ω)(h:JA w mv iv ev cv sv lv qv P)(R:Gs P.V0)(fx:(Bj a 0 63&&BN P)=false):
 Calls prog 11 #[AN mv iv ev cv sv lv qv P.FU P.VO,.int .i64 a] w λr w'=>fU r/\Below w w w':=by
 unfold AN;obtain⟨B0,B1,ax,av⟩:=FR w (.cells #[mv,iv,ev,cv,sv,lv,qv,P.FU,P.VO] 32) (.cells #[ι,ι,ι,ι,ι,ι,ι,θ,θ] 32);have h0:=h.below ax;go_in;go_wp2_with fail;generalize(w.alloc _).alloc _=W0 at*;have au:=AA ax;have bx:=AA B1;refine(EY _ _).mono ?_;rintro r w1 ⟨rfl,rfl⟩;cases hA:Bj a 0 63
 focus
  clear h h0 ax B0 av hA
  have N1:=bx.u;have Bw:=au;clear B1 au
 rotate_left
 focus
  have O:BN P=false:=by simpa[hA] using fx
  have iz:=Aa.1 hA;obtain⟨an,rfl⟩:∃an:Nat,a=(an:Int):=⟨a.toNat,ω⟩
  obtain⟨j,hj⟩:∃j,j=an/4:=⟨_,rfl⟩
  have q1:(an:Int)/4=(j:Int):=ω;have CT:=AA (Tu mv iv ev cv sv lv qv P (j:Int) W0 h0 R (by rw[O];rfl));unfold AN at CT;obtain⟨x0,x1,x2,x3,x4,x5,x6,x7,x8⟩:=AC B0;have el:=AA av;clear h h0 ax B0 B1 O hj hA av;go_wp2_with fail;refine CT.mono ?_;rintro r w1 ⟨rfl,b1⟩;unfold AN;have N0:=heap_alloc_new w1 (.cells #[ι,ι,ι,ι,ι,ι,ι,θ,θ] 32);have b2:=b1.trans ((AJ w1 (.cells #[ι,ι,ι,ι,ι,ι,ι,θ,θ] 32)).mono b1.size);have N1:=AB bx b2;have Bw:=AA (au.trans (b2.mono au.size));clear b1 b2 x0 x1 x2 x3 x4 x5 x6 x7 x8 CT N0
 rotate_left
 all_goals
  have f1:=AI N1;obtain⟨a0,a1,a2,a3,a4,a5,a6,a7,a8⟩:=AC N1;have S2:=AA (Ed N1 (Bw.u) ω);clear N1;go_wp2_with fail;clear a0 a1 a2 a3 a4 a5 a6 a7 a8 f1;obtain⟨N2,B2⟩:=S2.u;unfold DO at N2 B2;exact yB (v:=.tuple #[.agg #[_,_,_,_,_,_,_,_,_],θ,υ]) (by simp[results,tJ,go_sem,AC N2]) rfl ⟨rfl,B2⟩
theorem NW (mv iv ev cv sv lv qv:Φ)(P:AP)(w:Ω)(h:JA w mv iv ev cv sv lv qv P)(O:Dd P){a:Nat}(ha:a<64):
 Calls prog 11 #[AN mv iv ev cv sv lv qv P.FU P.VO,.int .i64 a] w (Mt w (GC P a)):=by
 unfold AN Mt;obtain⟨B0,B1,ax,av⟩:=FR w (.cells #[mv,iv,ev,cv,sv,lv,qv,P.FU,P.VO] 32) (.cells #[ι,ι,ι,ι,ι,ι,ι,θ,θ] 32);have h0:=h.below ax;obtain⟨j,hj⟩:∃j,j=a/4:=⟨_,rfl⟩
 have q1:(a:Int)/4=(j:Int):=ω;have hA:Bj (a:Int) 0 63=true:=Aa.2 ω;have bn:=LJ (p:=P) (n:=a/4) O ω;have bm:=λ(h:(Bm P (a/4)).2=false)=>Gg O ω h
 have ed:=Si O ha;have bp:=Ot O ha;have am:=λQ=>XH (p:=P) (a:=a) (Q:=Q)
 have CT:=λW (L:Below ((w.alloc (.cells #[mv,iv,ev,cv,sv,lv,qv,P.FU,P.VO] 32)).alloc (.cells #[ι,ι,ι,ι,ι,ι,ι,θ,θ] 32)).heap.size ((w.alloc (.cells #[mv,iv,ev,cv,sv,lv,qv,P.FU,P.VO] 32)).alloc (.cells #[ι,ι,ι,ι,ι,ι,ι,θ,θ] 32)) W)=>MG mv iv ev cv sv lv qv P W (h0.below L) O (n:=a/4) ω
 rw[<-hj] at bn bp am CT bm;generalize Bm P j=t at bn bp am CT bm;obtain⟨Q,bb⟩:=t;dsimp only at bn bp am CT bm;go_in;go_wp2_with fail;generalize(w.alloc _).alloc _=W0 at*;have bE:=AA (CT W0 (Below.refl _ _));have ex:=AA bn;have cq:=AA bp;have cm:=AA bm;have er:=AA ed;have bf:=AA am;unfold Fo at bE;simp only[AN] at bE;have au:=AA ax;have bx:=AA B1;have el:=AA av;have HP:=AA O;obtain⟨x0,x1,x2,x3,x4,x5,x6,x7,x8⟩:=AC B0;clear h h0 ax B0 B1 O bn bp am bm ed CT hj av;refine(EY _ _).mono ?_;rintro r w1 ⟨rfl,rfl⟩;rw[hA];go_wp2_with fail;refine bE.mono ?_;rintro r w1 ⟨m1,i1,X,c1,s1,l1,e6,rfl,O1,b1⟩;obtain⟨⟨⟨ma,mn,mc,rfl⟩,⟨ia,iN,ic,rfl⟩,⟨ea,en,ec,rfl⟩,⟨qa,qn,qc,rfl⟩⟩,⟨sa,sn,sc,rfl⟩,⟨la,ln,lc,rfl⟩,⟨pa,pn,pc,rfl⟩⟩:=O1.Dq;have I2:=ID.start O1 b1.size;have b2:=b1.trans ((AJ w1 (.cells #[.slice ma mn mc,.slice ia iN ic,.slice ea en ec,.slice qa qn qc,.slice sa sn sc,.slice la ln lc,.slice pa pn pc,Q.FU,Q.VO] 32)).mono b1.size);have ez:=AA I2;have em:=AA b2;have B1:=AB bx b2;have cr:=AA (au.trans (b2.mono au.size));clear O1 b1 x0 x1 x2 x3 x4 x5 x6 x7 x8 bE I2 b2;cases bb
 .have e:=cq rfl
  have R:=cm rfl;have He:=AA e;clear e cq bf cm;subst R;have O5:=ez.own;have b5:=(λW:Ω=>Below.refl W W) (w1.alloc (.cells #[.slice ma mn mc,.slice ia iN ic,.slice ea en ec,.slice qa qn qc,.slice sa sn sc,.slice la ln lc,.slice pa pn pc,Q.FU,Q.VO] 32));have N5:=AB B1 b5;have S5:=Bu N5 O5;obtain⟨a0,a1,a2,a3,a4,a5,a6,a7,a8⟩:=AC N5;have f5:=AI N5;have cp:=AA S5;have bw:=AA b5;have cl:=AA (AU B1);clear O5 S5 N5 b5 B1;go_wp2_with fail;clear a0 a1 a2 a3 a4 a5 a6 a7 a8 f5;obtain⟨N6,O6,ce⟩:=cp.u;have B6:=AM (cr.trans (bw.mono (by have:=cr.size;have:=cl.u;omega))) ce ω (by have:=cr.size;have:=bw.size;omega);have O7:=O6.lower (lo':=w.heap.size) (by have:=el.u;omega);unfold DO at N6 O7 B6;exact yB (v:=.tuple #[.agg #[.slice ma mn mc,.slice ia iN ic,.slice ea en ec,.slice qa qn qc,.slice sa sn sc,.slice la ln lc,.slice pa pn pc,Q.FU,Q.VO],θ,υ]) (by simp[results,tJ,go_sem,AC N6]) rfl (by rw[He.u];exact⟨_,_,_,_,_,_,_,rfl,O7,B6⟩)
 have e:=bf Q rfl
 have C3:=KG ez em.size ex.k ⟨10,0,(a:Int),0,0,⟨#[]⟩⟩ (ψ:(0:Int)<=0) (ψ:(0:Int)<3) (Nat.zero_le _) (ψ:(0:Int)<=9223372036854775807);unfold Zi at C3;rw[MN (t:=gA) ⟨ψ,ψ,ψ⟩,show(⟨10,0,(a:Int),0,0,gA⟩:AT)=Ah 10 (a:Int) 0 0 from rfl] at C3;have iS:=AA (GG (kind:=10) (a:=(a:Int)) (b:=0) (c:=0) ex.k);have bl:=er.u;rw[e] at bl;have He:=AA e;have he:=AA bl;have eD:=AA C3;clear C3 e bf cq er bl cm;generalize Ad Q.V0 (Ah 10 (a:Int) 0 0)=res at*;go_wp2_with fail;generalize w1.heap.size=g2 at*;generalize w1.alloc _=W2 at*;refine eD.mono ?_;rintro r w3 ⟨rfl,⟨m3,i3,e3,c3,I3,_⟩,d9,f6⟩;have ee:=AA (em.trans d9);obtain⟨x0,x1,x2,x3,x4,x5,x6,x7,x8⟩:=AC I3.yU;have bl:Dd {Q with V0:=res.1}:=he.u;have C5:=AA (Ji _ _ _ _ _ _ _ {Q with V0:=res.1} w3 I3.own.rd bl);have B3:=AB bx ee.u;have bL:=AA (au.trans (ee.mono au.size));clear d9 f6 eD I3 B1 bl;go_wp2_with fail;refine C5.mono ?_;rintro r w5 ⟨m5,i5,e5,c5,s5,l5,q5,rfl,O5,b5⟩;unfold AN;clear x0 x1 x2 x3 x4 x5 x6 x7 x8 C5;obtain⟨⟨⟨ma,mn,mc,rfl⟩,⟨ia,iN,ic,rfl⟩,⟨ea,en,ec,rfl⟩,⟨qa,qn,qc,rfl⟩⟩,⟨sa,sn,sc,rfl⟩,⟨la,ln,lc,rfl⟩,⟨pa,pn,pc,rfl⟩⟩:=O5.Dq;have N5:=AB B3 b5;have S5:=Bu N5 O5;obtain⟨a0,a1,a2,a3,a4,a5,a6,a7,a8⟩:=AC N5;have f5:=AI N5;have cp:=AA S5;have bw:=AA b5;have cl:=AA (AU B3);clear O5 S5 N5 b5 B3;go_wp2_with fail;clear a0 a1 a2 a3 a4 a5 a6 a7 a8 f5;obtain⟨N6,O6,ce⟩:=cp.u;have B6:=AM (bL.trans (bw.mono (by have:=bL.size;have:=cl.u;omega))) ce ω (by have:=bL.size;have:=bw.size;omega);have O7:=O6.lower (lo':=w.heap.size) (by have:=bL.size;omega);unfold DO at N6 O7 B6;exact yB (v:=.tuple #[.agg #[.slice ma mn mc,.slice ia iN ic,.slice ea en ec,.slice qa qn qc,.slice sa sn sc,.slice la ln lc,.slice pa pn pc,Q.FU,Q.VO],res.2.1,τ]) (by simp[results,tJ,go_sem,AC N6]) rfl (by rw[He.u];exact⟨_,_,_,_,_,_,_,rfl,O7,B6⟩)
def Os(P:AP)(a:Int):AP×Int×Bool:=if(Bj a 0 63&&BN P)=true then GC P a.toNat else(Xj,0,false)
def iE(w:Ω)(t:AP×Int×Bool)(r:Ending)(w':Ω):Prop:=∃m i e c s l q,r=.returned (.tuple #[AN m i e c s l q t.1.FU t.1.VO,t.2.1,t.2.2])/\JA w' m i e c s l q t.1/\Below w w w'
theorem fL (mv iv ev cv sv lv qv:Φ)(P:AP)(n:Int)(w:Ω)(h:JA w mv iv ev cv sv lv qv P)(R:Gs P.V0):
 Calls prog 11 #[AN mv iv ev cv sv lv qv P.FU P.VO,.int .i64 n] w (iE w (Os P n)):=by
 unfold Os;cases hb:(Bj n 0 63&&BN P)
 .exact(VL _ _ _ _ _ _ _ P n w h R hb).mono λ_ w' ⟨K,h2⟩=>⟨_,_,_,_,_,_,_,K,LN w',h2⟩
 obtain⟨h2,K⟩:=Bool.and_eq_true_iff.1 hb
 obtain⟨h3,h4⟩:=Aa.1 h2;obtain⟨a,rfl⟩:=yd h3;exact(NW _ _ _ _ _ _ _ P w h (Ct.1 K) (a:=a) ω).mono λ_ _ ⟨m,i,e,c,s,l,q,K,h2,h3⟩=>⟨m,i,e,c,s,l,q,K,h2.rd,h3⟩
theorem aN{P:AP}{n:Int}(h:(Os P n).2.2=true):Dd P/\0<=n/\n<64/\Os P n=GC P n.toNat:=by
 unfold Os at h ⊢
 by_cases hb:(Bj n 0 63&&BN P)=true
 .rw[if_pos hb]
  obtain⟨h2,K⟩:=Bool.and_eq_true_iff.1 hb;obtain⟨h3,h4⟩:=Aa.1 h2;exact⟨Ct.1 K,h3,ω,rfl⟩
 rw[if_neg hb] at h
 cases h
end Go.Proofs.YtlcnbkkcplllhaaGreatDoor
