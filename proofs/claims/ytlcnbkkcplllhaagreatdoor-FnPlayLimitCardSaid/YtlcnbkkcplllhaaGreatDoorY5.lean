/-
  Packed:25 texts.
-/
import Derived.Test.YtlcnbkkcplllhaaGreatDoorY1
import Derived.Test.YtlcnbkkcplllhaaGreatDoorY4
import Derived.Test.YtlcnbkkcplllhaaGreatDoorY3
import Derived.Test.YtlcnbkkcplllhaaGreatDoorY2
import Derived.Deep.DeepCutAuto
import Derived.Deep.CutBlock
set_option linter.unusedVariables false
set_option linter.unusedSimpArgs false
set_option maxHeartbeats 16000000
set_option maxRecDepth 100000
open Go Go.Proofs.YtlcnbkkcplllhaaGreatDoor
open And renaming intro->yj
open Bool renaming and_eq_true->yD,and_eq_true_iff->wu,true_and->wg
open Decidable renaming em->vQ
open Go.IntWalk renaming i64_in->xJ
open Go.Lib renaming toList_data->xA
open Go.Proofs.Tryz renaming results116->rR,results141->tQ,results202->rS,results22->uz,results58->vI,results92->tK
open Go.Region renaming waitsFor->yk
open Go.RowKit.Below renaming cell->sN,refl->yN
open Go.Value renaming int->yl,oneCell'->xR,slice->xG
open Go.World renaming block_lt_of_cell?->yK,cell?_alloc_new->tq,cell?_of_block->vY,size_alloc->xz
open Go.World.ownsRow renaming cellAt->xO,frozenAt->xU,lt->yC
open Go renaming bodyPost_ret->yB,cell_of_row->yy,heap_alloc_new->yx,heap_setCell_other->tT,heap_setCell_same->yE
open Int renaming eq_ofNat_of_zero_le->yd,tmod_eq_emod_of_nonneg->wE,toNat_natCast->yq
open List renaming all_eq_true->yr,filter_cons->vN,foldl_cons->yJ,foldl_nil->yH,getElem?_eq_getElem->yG,getElem?_map->xq,getElem?_replicate->uN,length_append->yz,length_filter_le->xv,length_replicate->uv,mem_append->wJ,mem_cons->xF,mem_of_getElem?->yv,mem_range->yi,not_mem_nil->wU,range->yL,replicate->xW
open List.range renaming loop->yI
open Nat renaming add_le_add_left->sA,add_zero->xT,le_of_eq->uw,le_refl->yF,le_succ->vS,le_trans->yM,lt_of_lt_of_le->yu,mul_le_mul_left->wv,mul_one->wZ,not_lt_zero->xV,zero_le->yt
open Go renaming World->Ω,Value->Φ,Calls->Ξ,undef->Θ
open Go.RowKit renaming Below->Γ
variable {W:Ω} {cv ev iv mv:Φ}
namespace Go.Proofs.YtlcnbkkcplllhaaGreatDoor
open Go.Proofs.Tryz
open Go.RowKit
theorem M5 (f:Int)(w:Ω)(h0:0<=f)(O:f<=11):Ξ prog 91 #[.int .i64 f,.bool true] w λe w'=>e=.returned (.int .i64 (Ip f))/\Γ w w w':=by unfold Ip;go_in;go_wp2;go_ret;exact⟨rfl,yN _ _⟩
def GB(W:Ω)(q:Nat)(k:AR)(t:Bool)(ww:Ω):Prop:=match t with
 |false=>Γ W W ww
 |true=>∃wz m i e c,Γ W W wz/\Du W wz m i e c k/\Γ wz.heap.size (Fs wz q m i e c) ww
variable{k k':AR}
variable{t:Bool}
variable{M N T a b g j lo lo' n o q:Nat}
variable{J W1 w w' w1 w2 wr ww:Ω}
theorem GB.grow{hF:Ω}(h:GB W q k t ww)(V:Γ ww ww hF):GB W q k t hF:=by
 cases t
 .exact Below.trans h (V.mono (Below.size h))
 obtain⟨wz,m,i,e,c,O,h3,z⟩:=h
 exact⟨wz,m,i,e,c,O,h3,z.trans (V.mono (by have:=z.size;simpa[Fs] using this))⟩
variable{a0 a1 a2 a3 c c' e e' i i' l l' lv m m' qv s s' sv u v v0 v1 v2:Φ}
theorem GB.cell (h:GB W q k t ww)(ht:t=false)(L:g<W.heap.size)(hc:W.cell? (g,o)=some v):ww.cell? (g,o)=some v:=by subst ht;exact(sN (p:=⟨g,o,none⟩) h L).trans hc
theorem GB.other (h:GB W q k t ww)(L:g<W.heap.size)(gl:g≠q)(hc:W.cell? (g,o)=some v):ww.cell? (g,o)=some v:=by
 cases t
 .exact(sN (p:=⟨g,o,none⟩) h L).trans hc
 obtain⟨wz,m,i,e,c,O,_,z⟩:=h
 have hz:g<wz.heap.size:=yu L O.size;exact(sN (p:=⟨g,o,none⟩) z (by simpa[Fs] using hz)).trans ((Bt (o:=o) (Ar wz q m i e c) hz (λe=>gl (yP e).symm)).trans ((O.cell (p:=⟨g,o,none⟩) L).trans hc))
def Fb(lo:Nat)(v:Φ)(w:Ω)(k:AR)(x:Int)(b:Bool):Prop:=∃m i e c,v=.tuple #[.agg #[m,i,e,c],x,b]/\Du lo w m i e c k
variable{x:Int}
theorem Fb.below{b:Bool}(h:Fb lo v w k x b)(V:Γ w w w'):Fb lo v w' k x b:=by obtain⟨m,i,e,c,O,z⟩:=h;exact⟨m,i,e,c,O,z.below V⟩
variable{cu rs:Array Φ}
theorem Fb.yV{b:Bool}(h:Fb lo v w k x b)(L:w.grownBy w' (some g))(hB:w.heap[g]?=some (.cells cu 28 (0,0))):Fb lo v w' k x b:=by obtain⟨m,i,e,c,O,z⟩:=h;exact⟨m,i,e,c,O,z.yV L hB⟩
def Pp(lo:Nat)(w:Ω)(v:Φ):Prop:=∃vs,AQ lo 29 1 HJ w v vs/\vs.length=16/\∀u∈vs,∃a f4,u=.slice a 0 f4/\f4<=maxLen/\(a=none->f4=0)
theorem Pp.of{vs:List Φ}(h:Ay lo w v vs (xW 16 [])):Pp lo w v:=by
 have hl:vs.length=16:=h.2.1.1.trans (uv ..);refine⟨vs,h.1,hl,λu hu=>?_⟩;obtain⟨j,hj⟩:=List.getElem?_of_mem hu;have lL:=(List.getElem?_eq_some_iff.1 hj).1;have hr:=h.2.1.2 j u [] hj (by rw[uN,if_pos ω]);obtain⟨a,f4,rfl,_,hc,_,hn,_⟩:=hr.rd;exact⟨a,f4,rfl,hc,hn⟩
theorem Pp.below (h:Pp lo w v)(V:Γ w w w'):Pp lo w' v:=by obtain⟨vs,O,z⟩:=h;exact⟨vs,AQ.below O V,z⟩
theorem Pp.lower (h:Pp lo w v)(hl:lo'<=lo):Pp lo' w v:=by obtain⟨vs,O,z⟩:=h;exact⟨vs,Bb O hl,z⟩
theorem Pp.yV{fr:Nat×Nat}(h:Pp lo w v)(L:w.grownBy w' (some g))(hB:w.heap[g]?=some (.cells cu T fr))(hT:29≠T:=by decide):Pp lo w' v:=by obtain⟨vs,O,z⟩:=h;exact⟨vs,AQ.yV O L hB hT,z⟩
theorem Pp.grown{o:Option Nat}(h:Pp lo w v)(L:w.grownBy w' o)(hT:∀b,v.ownBlock=some b->o≠some b):Pp lo w' v:=by
 obtain⟨vs,O,z⟩:=h;refine⟨vs,Au O L ?_,z⟩
 rcases hv:v.ownBlock with _|b
 .exact .inl rfl
 exact .inr (hT b hv).symm
theorem Pp.sf (h:Pp lo w v):∃vs,AQ lo 29 1 HJ w v vs/\Gj (cB lo w) vs (xW 16 []):=by
 obtain⟨vs,O,z,h3⟩:=h;refine⟨vs,O,⟨by rw[z,uv],λi x y hx hy=>?_⟩⟩;rw[uN] at hy
 split at hy
 .cases hy
  exact .inr ⟨rfl,h3 x (yv hx)⟩
 cases hy
theorem Pp.slice (h:Pp lo w v):∃a n c,v=.slice a n c:=by obtain⟨vs,O,_⟩:=h;obtain⟨_,_,rfl,_,_⟩:=O.rd.shape;exact⟨_,_,_,rfl⟩
structure Kw(lo g gk q:Nat)(w:Ω)(l:Int)(n j:Nat)(m i e c sv lv qv:Φ):Prop where
 pb:w.heap[g]?=some (.cells #[ι,ι,ι,ι,sv,lv,qv,θ,l] 32 (0,0))
 kb:w.heap[q]?=some (.cells #[m,i,e,c] 28 (0,0))
 gb:∃a b c d,w.heap[gk]?=some (.cells #[a,b,c,d] 28 (0,0))
 yT:lo<=g/\lo<=gk/\lo<=q/\lo<=w.heap.size
 ker:Du lo w m i e c (EX n)
 swp:Pp lo w sv
 low:AE lo w lv (MU j)
 pgs:AQ lo 87 3 DT w qv (xW 16 ⟨0,0,false⟩)
section
variable {lo g gk q:Nat} {w w1:Ω} {l:Int} {n j:Nat} {m i e c sv lv qv:Φ}
theorem Kw.below(h:Kw lo g gk q w l n j m i e c sv lv qv)(V:Γ w w w1):Kw lo g gk q w1 l n j m i e c sv lv qv:=by obtain⟨a,b,c',d,L⟩:=h.gb;exact⟨AB h.pb V,AB h.kb V,⟨a,b,c',d,AB L V⟩,⟨h.yT.1,h.yT.2.1,h.yT.2.2.1,yM h.yT.2.2.2 V.size⟩,h.ker.below V,h.swp.below V,h.low.below V,h.pgs.below V⟩
theorem Kw.keep(h:Kw lo g gk q w l n j m i e c sv lv qv){p:Nat}{cu:Array Φ}(hp:w.heap[p]?=some (.cells cu 28 (0,0)))(L:w.grownBy w1 (some p)):
 w1.heap[g]?=some (.cells #[ι,ι,ι,ι,sv,lv,qv,θ,l] 32 (0,0))/\Pp lo w1 sv/\AE lo w1 lv (MU j)/\AQ lo 87 3 DT w1 qv (xW 16 ⟨0,0,false⟩):=
 ⟨At h.pb L (Bz hp h.pb),h.swp.yV L hp,Eu h.low L hp,h.pgs.yV L hp⟩
theorem Kw.put{n':Nat}{m' i' e' c':Φ}(h:Kw lo g gk q w l n j m i e c sv lv qv)(V:Γ w w w1)(h1:Du w w1 m' i' e' c' (EX n')):Kw lo g gk q (Fs w1 q m' i' e' c') l n' j m' i' e' c' sv lv qv:=by
 have h':=h.below V;have ac:=Ar w1 q m' i' e' c';obtain⟨k1,k2,k3,k4⟩:=h'.keep h'.kb ac;obtain⟨a,b,c2,d,L⟩:=h'.gb;refine⟨k1,DF h'.kb,?_,⟨h.yT.1,h.yT.2.1,h.yT.2.2.1,yM h'.yT.2.2.2 ac.size⟩,(h1.yV ac h'.kb).lower h.yT.2.2.2,k2,k3,k4⟩
 by_cases e:q=gk
 .subst e
  exact⟨_,_,_,_,DF h'.kb⟩
 exact⟨a,b,c2,d,At L ac e⟩
theorem Kw.new{n':Nat}{m' i' e' c':Φ}(h:Kw lo g gk q w l n j m i e c sv lv qv)(V:Γ w w w1)(h1:Du w w1 m' i' e' c' (EX n')):Kw lo g gk w1 (w1.alloc (.cells #[m',i',e',c'] 28)) l n' j m' i' e' c' sv lv qv:=by have h':=(h.below V).below (AJ w1 (.cells #[m',i',e',c'] 28));exact⟨h'.pb,yx _ _,h'.gb,⟨h.yT.1,h.yT.2.1,yM h.yT.2.2.2 V.size,h'.yT.2.2.2⟩,(h1.below (AJ _ _)).lower h.yT.2.2.2,h'.swp,h'.low,h'.pgs⟩
theorem Kw.back(h:Kw lo g gk q w l n j m i e c sv lv qv):Kw lo g gk gk (Fs w gk m i e c) l n j m i e c sv lv qv:=by obtain⟨a,b,c2,d,L⟩:=h.gb;have ac:=Ar w gk m i e c;obtain⟨k1,k2,k3,k4⟩:=h.keep L ac;exact⟨k1,DF L,⟨_,_,_,_,DF L⟩,⟨h.yT.1,h.yT.2.1,h.yT.2.1,yM h.yT.2.2.2 ac.size⟩,h.ker.yV ac L,k2,k3,k4⟩
theorem Kw.push{B:Nat}{w4 w5:Ω}{o':Φ}{fr:Int}(h:Kw lo g gk q w l n j m i e c sv lv qv)(x1:Du B w m i e c (EX n))(hB:lo<=B)(hr:∀b,lv.ownBlock=some b->b<B)(b4:Γ w w w4)(q1:w5.ownsRow lo 3 1 o' (j+1) ((MU j).map (yl .i64)++[.int .i64 fr]))(q2:w4.grownBy w5 lv.ownBlock)(jG:fr=((j+1:Nat):Int)):
 w5.heap[g]?=some (.cells #[ι,ι,ι,ι,sv,lv,qv,θ,l] 32 (0,0))/\Kw lo g gk q (w5.setCell (g,5) o') l n (j+1) m i e c sv o' qv:=by
 have h4:=h.below b4;have gl:=DD h4.low h4.pb ψ;have rI:=DD h4.low h4.kb ψ;obtain⟨a,b,c2,d,L⟩:=h4.gb;have so:=DD h4.low L ψ;have jx:=(q2.block g (AU h4.pb) (λe=>gl e.symm)).trans h4.pb;have pY:=(q2.block q (AU h4.kb) (λe=>rI e.symm)).trans h4.kb;have p4:=(q2.block gk (AU L) (λe=>so e.symm)).trans L;have gr:=Ak w5 g 5 o';have S6:=(h4.swp.grown q2 (λb V he=>by obtain⟨vs,o1,_⟩:=h4.swp;obtain⟨Ha,ub⟩:=A7 o1 b V;obtain⟨GS,pQ⟩:=A7 h4.low b he;rw[ub] at pQ;simp at pQ)).yV gr jx
 have jL:AE lo w5 o' (MU (j+1)):=by rw[Yc,<-jG];simpa[AE,Ul] using q1
 refine⟨jx,⟨?_,At pY gr (Bz jx pY),⟨a,b,c2,d,At p4 gr (Bz jx p4)⟩,⟨h.yT.1,h.yT.2.1,h.yT.2.2.1,yM h4.yT.2.2.2 (yM q2.size gr.size)⟩,(((x1.below b4).past q2 hr).lower hB).yV gr jx,S6,Eu jL gr jx,Eu (Au h4.pgs q2 (BI h4.pgs h4.low ψ).ne) gr jx⟩⟩
 .have:=yE w5 g 5 _ _ o' jx
  simpa using this
end
theorem Um (h:Ns w m i e c (EX n))(hn:n<=15)(kind a b x:Int)(hx:x<=9223372036854775807){v:Int}(hc:Ad (EX n) (Ah kind a b x)=(EX (n+1),v,0)):
 Ξ prog 80 #[.agg #[m,i,e,c],.int .i64 kind,.int .i64 a,.int .i64 b,.int .i64 x] w
  (λr w'=>∃m i e c,r=.returned (.tuple #[.agg #[m,i,e,c],v,τ])/\Du w w' m i e c (EX (n+1))/\Γ w w w'):=by
 have:=GT h (dQ n hn) kind a b x hx;rw[hc] at this;exact this
def fZ(w:Ω)(P:AP)(b:Bool)(r:Ending)(w':Ω):Prop:=∃m i e c s lo q,r=.returned (.tuple #[AN m i e c s lo q P.FU P.VO,b])/\Pc w w' m i e c s lo q P/\Γ w w w'
def Pe(lo:Nat)(v:Φ)(w:Ω)(l:Int):Prop:=∃s lv q,v=.agg #[ι,ι,ι,ι,s,lv,q,θ,l]/\Pp lo w s/\AE lo w lv []/\AQ lo 87 3 DT w q (xW 16 ⟨0,0,false⟩)
theorem Pe.below{l:Int}(h:Pe lo v w l)(V:Γ w w w'):Pe lo v w' l:=by obtain⟨s,lv,q,O,z,h3,h4⟩:=h;exact⟨s,lv,q,O,z.below V,h3.below V,h4.below V⟩
theorem PI (l:Int)(w:Ω)(O:1<=l)(h6:l<=6):Ξ prog 113 #[.int .i64 l] w (fZ w (XN l) true):=by
 obtain⟨N0,b0⟩:=EU w (.cells #[ι,ι,ι,ι,ι,ι,ι,θ,θ] 32);go_in;go_wp2_with fail;refine(Cr _ _ _ _).mono ?_;rintro e w' ⟨rfl,rfl⟩;rw[show Bj l 1 6=true from Aa.2 ⟨O,h6⟩];have pM:=AU N0;generalize w.alloc _=W0 at*;go_wp2_with fail;have kT:=ZT W0 ⟨#[97]⟩ ⟨#[98]⟩ ⟨#[99]⟩ 9 79;have bn:=((IE W0 (.cells #[.string ⟨#[97]⟩] 9) (.cells #[.string ⟨#[98]⟩] 9)).trans ((AJ _ (.cells #[.string ⟨#[99]⟩] 9)).mono (IE W0 _ _).size));replace bn:=bn.trans ((AJ _ (.cells #[.slice W0 1 1,.slice (some ⟨W0.heap.size+1,0,none⟩) 1 1,.slice (some ⟨W0.heap.size+1+1,0,none⟩) 1 1] 79)).mono bn.size);generalize(((W0.alloc _).alloc _).alloc _).alloc _=w5 at*;refine(KJ _ M6 w5 kT rfl OF Ng).mono ?_;rintro e w6 ⟨mk,ik,ek,ck,rfl,O6,b6⟩;rw[Qa] at O6;obtain⟨⟨ma,mn,mc,rfl⟩,⟨ia,iN,ic,rfl⟩,⟨ea,en,ec,rfl⟩,⟨qa,qn,qc,rfl⟩⟩:=O6.Dq;obtain⟨N7,b7⟩:=EU w6 (.cells #[.slice ma mn mc,.slice ia iN ic,.slice ea en ec,.slice qa qn qc] 28);have O7:=(O6.below b7).lower bn.size;have B7:=bn.trans ((b6.trans (b7.mono b6.size)).mono bn.size);have ku:W0.heap.size<=w6.heap.size:=yM bn.size b6.size;go_wp2_with fail;generalize w6.heap.size=gk at N7 ku ⊢;generalize w6.alloc _=W7 at*;have HO:=AA O7;have HB:=AA B7;have HN:=AA N0;have o0:=AA N7;have E:=AA b0;clear kT bn O6 b6 b7 N7 O7 B7 N0 b0;refine A9 6 87 [.z,.z,.z,.i l,.z,.z] (λix vv ww=>match ix with
  |0=>Pp W7 ww vv
  |1=>AE W7 ww vv []
  |2=>AQ W7.heap.size 87 3 DT ww vv (xW 16 ⟨0,0,false⟩)
  |4=>Pe W7 vv ww l
  |5=>Ms W7 vv ww
  |_=>True) ?_ ?_ ?_
 .intro i hi o D a wx E A Z x1 X
  match i,hi with
  |0,_=>exact sC D X E A (YY _) (by rintro r w_ ⟨v',vs,rfl,hO,ei⟩;exact⟨_,rfl,((Pp.of hO).lower Z.size),ei⟩)
  |3,_=>exact sP D X E A
  |1,_=>obtain rfl:=yP D;clear A E;refine yO ?_;go_simp;exact X _ _ (Bb (GK wx) Z.size) (AJ _ _)
  |2,_=>obtain rfl:=yP D;clear A E;obtain⟨i0,pL,nI,cp,ir⟩:=info_parts Tryz.zv;obtain⟨w9,lB,h3,h4⟩:=run_make_full (P:=prog) wx wx.heap.size 30 87 i0 _ 3 underlying30 pL nI cp .i64 .i64 16 (by rw[ir];decide) ψ (yF _);have h5:=Below.zE h4;rw[aQ] at h3;have pH:(Instr.makeSlice 30 (.int .i64 16) (.int .i64 16)).run prog wx=.ok (.slice wx 16 16) w9:=lB;clear pL nI cp ir lB;refine yO ?_;go_simp;exact X _ _ (Bb h3 Z.size) h5
  |4,_=>obtain rfl:=yP D;have d0:Pp W7 wx (a.tmps[25]?.getD Θ):=Bc A 0;have d1:AE W7 wx (a.tmps[26]?.getD Θ) []:=Bc A 1;have d2:AQ W7.heap.size 87 3 DT wx (a.tmps[27]?.getD Θ) (xW 16 ⟨0,0,false⟩):=Bc A 2;have d3:(a.tmps[28]?.getD Θ)=.int .i64 l:=Bc A 3;clear A E;generalize e25:a.tmps[25]?.getD Θ=s' at d0;generalize e26:a.tmps[26]?.getD Θ=l' at d1;generalize e27:a.tmps[27]?.getD Θ=q' at d2;have D0:=AA d0;have D1:=AA d1;have D2:=AA d2;obtain⟨_,_,_,rfl⟩:=d0.slice;obtain⟨_,_,rfl,_,_,_⟩:=d1.rd.open;obtain⟨_,_,rfl,_,_⟩:=d2.rd.shape;clear d0 d1 d2;refine yO ?_;go_simp;exact X _ _ ⟨_,_,_,rfl,D0.u,D1.u,D2.u⟩ (yN _ _)
  |5,_=>obtain rfl:=yP D;clear A E;refine yO ?_;go_simp;exact X _ _ ⟨_,rfl,Z.size,yx _ _⟩ (AJ _ _)
 .intro i hi vv wz hF cC hz
  match i,hi with
  |0,_=>exact(Pp.below hz cC)
  |1,_=>exact(AE.below hz cC)
  |2,_=>exact(AQ.below hz cC)
  |4,_=>exact(Pe.below hz cC)
  |5,_=>exact(Ms.below hz cC)
  |3,_=>exact hz
 intro vs wx hR Z
 have q4:Pe W7 (vs 4) wx l:=Bh hR 4;have q5:Ms W7 (vs 5) wx:=Bh hR 5;clear hR;simp only[Ai,Ae,yL,yI,yJ,yH];simp;generalize vs 4=z4 at q4 ⊢;generalize vs 5=z5 at q5 ⊢;obtain⟨s',l',q',rfl,r1,r0,r2⟩:=q4;obtain⟨g,rfl,n7,jM⟩:=q5;obtain⟨sa,sn,sc,rfl⟩:=r1.slice;obtain⟨la,ln,lc,rfl⟩:∃a n c,l'=.slice a n c:=by obtain⟨_,_,rfl,_,_,_⟩:=r0.rd.open;exact⟨_,_,_,rfl⟩
 obtain⟨pa,pn,pc,rfl⟩:∃a n c,q'=.slice a n c:=by obtain⟨_,_,rfl,_,_⟩:=r2.rd.shape;exact⟨_,_,_,rfl⟩
 obtain⟨x0,K,x2,x3,x4,x5,x6,x7,x8⟩:=AC jM;have fz:=AI jM;go_step;go_simp;have ac:=FQ (w:=wx) (g:=g) (b0:=.slice none 0 0) (b1:=.slice none 0 0) (b2:=.slice none 0 0) (b3:=.slice none 0 0) (b4:=.slice sa sn sc) (b5:=.slice la ln lc) (b6:=.slice pa pn pc) (b7:=.int .i64 0) (b8:=.int .i64 l);have N8:=Hj (b0:=.slice none 0 0) (b1:=.slice none 0 0) (b2:=.slice none 0 0) (b3:=.slice none 0 0) (b4:=.slice sa sn sc) (b5:=.slice la ln lc) (b6:=.slice pa pn pc) (b7:=.int .i64 0) (b8:=.int .i64 l) jM;have K8:=At (AB o0 Z) ac (Bz jM (AB o0 Z));have I8:Kw W0 g gk gk _ l 0 0 _ _ _ _ _ _ _:=⟨N8,K8,⟨_,_,_,_,K8⟩,⟨yM HB.size n7,ku,ku,yM HB.size (yM Z.size ac.size)⟩,(HO.below Z).yV ac jM,(r1.lower HB.size).yV ac jM,Eu (Bb r0 HB.size) ac jM,AQ.yV (Bb r2 HB.size) ac jM⟩;have B8:=AM (HB.trans (Z.mono HB.size)) ac (yM HB.size n7) (yM HB.size Z.size);clear r0 r1 r2 N8 K8 ac x0 K x2 x3 x4 x5 x6 x7 x8 fz jM n7 Z HO HB o0;unfold DO at I8 B8;generalize((((((((wx.setCell _ _).setCell _ _).setCell _ _).setCell _ _).setCell _ _).setCell _ _).setCell _ _).setCell _ _).setCell _ _=W8 at*;replace I8:=AA I8;replace B8:=AA B8;obtain⟨k0,k1,k2,k3⟩:=AG I8.kb;have C:=Um (n:=0) I8.ker.rd ω 1 0 0 0 ψ eZ;go_wp2_with fail;refine C.mono ?_;rintro r w9 ⟨m9,i9,e9,c9,rfl,O9,b9⟩;have I9:=AA (I8.put b9 O9);have B9:=AA (AM (B8.trans (b9.mono I8.yT.2.2.2)) (Ar w9 gk m9 i9 e9 c9) I8.yT.2.1 (yM I8.yT.2.2.2 b9.size));have kf:=AI (I8.below b9).kb;obtain⟨k0,k1,k2,k3⟩:=AG (I8.below b9).kb;obtain⟨⟨ua,un,uc,rfl⟩,⟨va,vn,vc,rfl⟩,⟨ya,yn,yc,rfl⟩,⟨za,zn,zc,rfl⟩⟩:=O9.Dq;unfold Fs at I9;generalize hW9:(((w9.setCell _ _).setCell _ _).setCell _ _).setCell _ _=W9 at I9 B9;obtain⟨n0,n1,n2,n3⟩:=AG I9.kb;clear O9 b9 I8 B8 C;go_wp2_with fail;clear k0 k1 k2 k3 kf;have C:=Um (n:=1) I9.ker.rd ω 4 0 3 0 ψ eX;refine C.mono ?_;rintro r pj ⟨q7,rq,mH,yf,rfl,jH,kX⟩;have jy:=AA (I9.put kX jH);have ip:=AA (AM (B9.trans (kX.mono I9.yT.2.2.2)) (Ar pj gk q7 rq mH yf) I9.yT.2.1 (yM I9.yT.2.2.2 kX.size));have kf:=AI (I9.below kX).kb;obtain⟨k0,k1,k2,k3⟩:=AG (I9.below kX).kb;obtain⟨⟨ua,un,uc,rfl⟩,⟨va,vn,vc,rfl⟩,⟨ya,yn,yc,rfl⟩,⟨za,zn,zc,rfl⟩⟩:=jH.Dq;unfold Fs at jy;generalize hW10:(((pj.setCell _ _).setCell _ _).setCell _ _).setCell _ _=W10 at jy ip;obtain⟨n0,n1,n2,n3⟩:=AG jy.kb;clear jH kX I9 B9 C;go_wp2_with fail;clear k0 k1 k2 k3 kf;clear n0 n1 n2 n3;have C:=Um (n:=2) jy.ker.rd ω 7 0 0 0 ψ dS
 refine C.mono ?_;rintro r mS ⟨q6,rp,xe,ye,rfl,kC,jU⟩;have mg:=AA (jy.put jU kC);have pi:=AA (AM (ip.trans (jU.mono jy.yT.2.2.2)) (Ar mS gk q6 rp xe ye) jy.yT.2.1 (yM jy.yT.2.2.2 jU.size));have kf:=AI (jy.below jU).kb;obtain⟨k0,k1,k2,k3⟩:=AG (jy.below jU).kb;obtain⟨⟨ua,un,uc,rfl⟩,⟨va,vn,vc,rfl⟩,⟨ya,yn,yc,rfl⟩,⟨za,zn,zc,rfl⟩⟩:=kC.Dq;unfold Fs at mg;generalize hW11:(((mS.setCell _ _).setCell _ _).setCell _ _).setCell _ _=W11 at mg pi;obtain⟨n0,n1,n2,n3⟩:=AG mg.kb;clear kC jU jy ip C;go_wp2_with fail;clear k0 k1 k2 k3 kf;go_wp2_with fail;go_loopw [9,10,11,12] (λix _ _ _ wr=>∃k:Nat,k<=4/\ix=.int .i64 k/\∃m i e c la ln lc,Kw W0 g gk gk wr l (3*k+3) k m i e c (.slice sa sn sc) (.slice la ln lc) (.slice pa pn pc)/\Γ W0 W0 wr) (λix _ _ _ _=>4 - (intOf ix).toNat)
 exact⟨0,ω,rfl,_,_,_,_,_,_,_,mg.u,pi.u⟩
 clear mg pi;obtain⟨k,hk,rfl,mv,iv,ev,cv,la,ln,lc,I0,B0⟩:=hrel;replace I0:=AA I0;replace B0:=AA B0
 by_cases ad:k<4
 .obtain⟨fr,jG⟩:∃fr:Int,fr=((k+1:Nat):Int):=⟨_,rfl⟩
  have T1:=dT k ad;have T2:=eW k ad;have T3:=eY k ad;rw[<-jG] at T1 T2 T3;have pP:0<=fr/\fr<=11:=ω;have mq:=AA jG;clear jG;have k4:(k:Int)<4:=ω;obtain⟨⟨ka,kn,kc,oM⟩,⟨ja,jn,jc,oL⟩,⟨fa,fn,fc,oK⟩,⟨ra,rn,rc,oJ⟩⟩:=I0.ker.Dq;subst oM oL oK oJ;obtain⟨k0,k1,k2,k3⟩:=AG I0.kb;have C:=Um (n:=3*k+3) I0.ker.rd ω 1 0 0 0 ψ T1;go_wp2_with fail;refine C.mono ?_;rintro r w1 ⟨m1,i1,e1,c1,rfl,O1,b1⟩;have I1:=AA (I0.new b1 O1);have B1:=AA (B0.trans ((b1.trans ((AJ w1 (.cells #[m1,i1,e1,c1] 28)).mono b1.size)).mono I0.yT.2.2.2));obtain⟨⟨ua,un,uc,rfl⟩,⟨va,vn,vc,rfl⟩,⟨ya,yn,yc,rfl⟩,⟨za,zn,zc,rfl⟩⟩:=O1.Dq;clear O1 b1 C k0 k1 k2 k3 I0 B0;obtain⟨k0,k1,k2,k3⟩:=AG I1.kb;go_wp2_with fail;clear k0 k1 k2 k3;obtain⟨q1,ko⟩:∃q1,q1=w1.heap.size:=⟨_,rfl⟩
  rw[<-ko] at I1 ⊢;clear ko;generalize w1.alloc _=W1 at*;have C:=Um (n:=3*k+4) I1.ker.rd ω 4 fr 2 0 ψ T2;refine C.mono ?_;rintro r w2 ⟨m2,i2,e2,c2,rfl,O2,b2⟩;have I2:=AA (I1.put b2 O2);have B2:=AA (AM (B1.trans (b2.mono I1.yT.2.2.2)) (Ar w2 q1 m2 i2 e2 c2) I1.yT.2.2.1 (yM I1.yT.2.2.2 b2.size));have kf:=AI (I1.below b2).kb;obtain⟨k0,k1,k2,k3⟩:=AG (I1.below b2).kb;obtain⟨⟨ua,un,uc,rfl⟩,⟨va,vn,vc,rfl⟩,⟨ya,yn,yc,rfl⟩,⟨za,zn,zc,rfl⟩⟩:=O2.Dq;unfold Fs at I2;generalize hW2:(((w2.setCell _ _).setCell _ _).setCell _ _).setCell _ _=W2 at I2 B2;obtain⟨n0,n1,n2,n3⟩:=AG I2.kb;clear O2 b2 I1 B1 C;go_wp2_with fail;clear k0 k1 k2 k3 kf;have fo:=I2.kb;have gd:=AU fo;have he:Ip fr<=9223372036854775807:=by unfold Ip;omega
  have CP:=AA (λW=>M5 fr W pP.1 pP.2);generalize Ip fr=en_ at T3 he CP;have RK:=I2.ker.rd;have CM:=AA (λW (hW:Γ W2 W2 W)=>Um (n:=3*k+5) (RK.below hW) ω 6 0 (k:Int) en_ he T3);clear T1 T2 T3 RK;refine Db 11 87 (λix=>ix==10) [.a #[.slice ua un uc,.slice va vn vc,.slice ya yn yc,.slice za zn zc],.i 0,.i ((k:Int)),.i fr,.i en_,.z,.z,.z,.i 0,.b true,.z] (λll ix vv ww=>match ix with
   |5|6=>Fb W2 vv ww (EX (3*k+6)) 0 true
   |7=>IM W2 vv ww (EX (3*k+6))
   |_=>True) (λll ww=>GB W2 (q1) (EX (3*k+6)) (ll 10) ww) ?_ ?_ ?_ ?_ ?_ ?_
  .exact Ap (yN _ _) 1
  .intro j hj ll i vv wz hF hi hS kA op cC hz
   match j,hj with
   |5,_|6,_=>exact(Fb.below hz cC)
   |7,_=>exact(IM.below hz cC)
   |0,_|1,_|2,_|3,_|4,_|8,_|9,_|10,_=>exact hz
  .intro ll i wz hF hi hS kA cC L
   show GB _ _ _ (Hz ll i 10) _
   rw[Fg (by rintro rfl;cases hS)];exact GB.grow L cC
  .intro i hi hS o D a wx E ll A Y Z x1 X
   match i,hi,hS with
   |0,_,_=>have iU:=Be Y 10;have bP:=(show wx.cell? q1=some (.slice ua un uc) from GB.cell Z (by cases hx:ll 10 with|false=>rfl|true=>exact absurd (Y.2.2 5 0 (Y.2.2 6 5 (Y.2.2 7 6 (Y.2.2 10 7 (hx) φ) φ) φ) φ) (by rw[Y.1];decide)) gd n0);have bu:=(show wx.cell? (q1,1)=some (.slice va vn vc) from GB.cell Z (by cases hx:ll 10 with|false=>rfl|true=>exact absurd (Y.2.2 5 0 (Y.2.2 6 5 (Y.2.2 7 6 (Y.2.2 10 7 (hx) φ) φ) φ) φ) (by rw[Y.1];decide)) gd n1);have bx:=(show wx.cell? (q1,2)=some (.slice ya yn yc) from GB.cell Z (by cases hx:ll 10 with|false=>rfl|true=>exact absurd (Y.2.2 5 0 (Y.2.2 6 5 (Y.2.2 7 6 (Y.2.2 10 7 (hx) φ) φ) φ) φ) (by rw[Y.1];decide)) gd n2);have bE:=(show wx.cell? (q1,3)=some (.slice za zn zc) from GB.cell Z (by cases hx:ll 10 with|false=>rfl|true=>exact absurd (Y.2.2 5 0 (Y.2.2 6 5 (Y.2.2 7 6 (Y.2.2 10 7 (hx) φ) φ) φ) φ) (by rw[Y.1];decide)) gd n3);exact Lb D X E A Y (hl:=P7 ‹_› ‹_› ‹_› ‹_›)
   |1,_,_|2,_,_|3,_,_=>exact Xn D X E A Y
   |10,_,R=>cases R
   |4,_,_=>obtain rfl:=yP D;have d3:(a.tmps[71]?.getD Θ)=.int .i64 fr:=Dc A Y 3;have iU:=Be Y 10;clear A E;refine yO ?_;go_simp;refine(CP _).mono ?_;rintro r w_ ⟨rfl,ei⟩;exact X _ _ rfl ei
   |5,_,_=>
    obtain rfl:=yP D;have d0:(a.tmps[68]?.getD Θ)=.agg #[.slice ua un uc,.slice va vn vc,.slice ya yn yc,.slice za zn zc]:=Dc A Y 0;have d1:(a.tmps[69]?.getD Θ)=.int .i64 0:=Dc A Y 1;have d2:(a.tmps[70]?.getD Θ)=.int .i64 k:=Dc A Y 2;have d4:(a.tmps[72]?.getD Θ)=.int .i64 en_:=Dc A Y 4;have iU:=Be Y 10;clear A E;refine yO ?_;go_simp;have j7:Γ W2 W2 wx:=by
     rw[show ll 10=false from(by cases hx:ll 10 with|false=>rfl|true=>exact absurd (Y.2.2 6 5 (Y.2.2 7 6 (Y.2.2 10 7 (hx) φ) φ) φ) (by rw[Y.1];decide))] at Z;exact Z
    refine(CM _ j7).mono ?_;rintro r w_ ⟨m',i',e',c',rfl,hO,ei⟩;exact X _ _ ⟨m',i',e',c',rfl,hO.lower j7.size⟩ ei
   |6,_,_=>obtain rfl:=yP D;have d5:Fb W2 (a.tmps[73]?.getD Θ) wx (EX (3*k+6)) 0 true:=Dc A Y 5;have iU:=Be Y 10;clear A E;refine yO ?_;go_simp;exact X _ _ d5 (yN _ _)
   |7,_,_=>obtain rfl:=yP D;have d6:Fb W2 (a.tmps[67]?.getD Θ) wx (EX (3*k+6)) 0 true:=Dc A Y 6;have iU:=Be Y 10;clear A E;obtain⟨m',i',e',c',d6,hO⟩:=d6;refine yO ?_;go_simp;exact X _ _ ⟨_,_,_,_,rfl,hO⟩ (yN _ _)
   |8,_,_=>obtain rfl:=yP D;have d6:Fb W2 (a.tmps[67]?.getD Θ) wx (EX (3*k+6)) 0 true:=Dc A Y 6;clear A E;obtain⟨m',i',e',c',d6,hO⟩:=d6;refine yO ?_;go_simp;exact X _ _ rfl (yN _ _)
   |9,_,_=>obtain rfl:=yP D;have d6:Fb W2 (a.tmps[67]?.getD Θ) wx (EX (3*k+6)) 0 true:=Dc A Y 6;clear A E;obtain⟨m',i',e',c',d6,hO⟩:=d6;refine yO ?_;go_simp;exact X _ _ rfl (yN _ _)
  .intro i hi hS o D a wx E ll A Y Z x1 X
   match i,hi,hS with
   |0,_,R|1,_,R|2,_,R|3,_,R|4,_,R|5,_,R|6,_,R|7,_,R|8,_,R|9,_,R=>cases R
   |10,_,_=>
    obtain rfl:=yP D;have mH:a.tmps[10]?.getD Θ=.pointer q1:=eg (No E 10);have d7:IM W2 (a.tmps[74]?.getD Θ) wx (EX (3*k+6)):=Dc A Y 7;clear A E;rw[Y.1] at Z;replace Z:Γ W2 W2 wx:=Z;obtain⟨m',i',e',c',d7,hO⟩:=d7;obtain⟨⟨va,vn,vc,rfl⟩,⟨wa,wn,wc,rfl⟩,⟨xa,xn,xc,rfl⟩,⟨ya,yn,yc,rfl⟩⟩:=hO.Dq;have cz:=AB fo Z;obtain⟨c0,md,c2,c3⟩:=AG cz;have fq:=AI cz;have ac:=AA (Ar wx (q1) (.slice va vn vc) (.slice wa wn wc) (.slice xa xn xc) (.slice ya yn yc));have Hq:=AA cz;have HO:=AA hO;clear cz hO;refine yO ?_;go_simp;exact X Θ _ trivial (by show GB _ _ _ (Hz ll 10 10) _;rw[Gh];exact⟨wx,_,_,_,_,Z,HO.u,yN _ _⟩) (λj jF jE lL hu=>match j,jE with
     |0,_|1,_|2,_|3,_|4,_|8,_|9,_=>hu
     |5,_|6,_=>Fb.yV hu ac Hq.u
     |7,_=>IM.yV hu ac Hq.u
     |10,_=>absurd rfl jF)
  intro vs wx ll ej hR Z
  have q8:(vs 8)=.int .i64 0:=Bh hR 8;clear hR;simp only[DV,Bo,yL,yI,yJ,yH,q8];simp;clear q8;rw[ej 10 ψ] at Z;obtain⟨wz,m3,i3,e3,c3,cp,hO,ir⟩:=Z;have bX:Γ (Fs wz q1 m3 i3 e3 c3).heap.size (Fs wz q1 m3 i3 e3 c3) wx:=by simpa[Fs] using ir
  have I3:=(I2.put cp hO).below bX;have K3:=(hO.yV (Ar wz q1 m3 i3 e3 c3) (AB fo cp)).below bX;have B3:=B2.trans ((AM (cp.mono I2.yT.2.2.2) (Ar wz q1 m3 i3 e3 c3) I2.yT.2.2.1 (yM I2.yT.2.2.2 cp.size):Γ W0 W2 _).trans (bX.mono (yM I2.yT.2.2.2 (yM cp.size (Ar wz q1 m3 i3 e3 c3).size))));have jK:∀b,(xG la ln lc).ownBlock=some b->b<W2.heap.size:=λb V=>(yC I2.low b V).2
  have wb:=I2.yT.2.2.2;clear ej cp ir bX hO fo gd n0 n1 n2 n3 CM CP;have pz:=Ul k;have HP:=AA (λw4 w5 o' (b4:Γ wx wx w4) q1 (q2:w4.grownBy w5 (xG la ln lc).ownBlock)=>Kw.push (o':=o') (w5:=w5) I3 K3 wb jK b4 q1 q2 mq.u);obtain⟨_,_,_,_,_,c5,_⟩:=AC I3.pb;have f5:=AI I3.pb;have b4:=AJ wx (.cells #[fr] 3);have j4:(wx.alloc (.cells #[fr] 3)).ownsRow W0.heap.size 3 1 (.slice la ln lc) k ((MU k).map (yl .i64)):=by have:=AE.below I3.low b4;unfold AE at this;rwa [pz] at this
  have sw:ln=k:=by obtain⟨_,_,hv,_⟩:=I3.low.rd.open;simp only[Value.slice.injEq] at hv;rw[pz] at hv;exact hv.2.1
  subst sw;have L4:=yM I3.yT.2.2.2 b4.size;have HI:=AA (yj B3 (yj b4 L4));have fs:=AA I3.yT.1;have v8:=I3.yT.2.2.2;clear I3 I2 K3 B3 B2 jK;go_wp2_with (at_builtin;go_must (refine Bn (lo:=W0.heap.size) (n:=ln) (xs:=(MU ln).map (yl .i64)) (m:=1) (news:=[.int .i64 fr]) rfl rfl 3 (.int .i64 0) 1 8 underlying29 Tryz.zS rfl ψ rfl j4 rfl (Rd.zM _ #[_] _ 1 1 _ χ rfl ζ) (by simp[xR]) μ ω L4 ?_;intro o' w5 m8 pt qR pr;obtain⟨oa,on,oc,rfl⟩:=ND m8;have HK:=HP _ _ _ HI.2.1 m8 pt;have f6:=AI HK.1;have c6:=yy _ _ 5 _ _ _ HK.1;have HX:=AA HK.2;have HQ:=AA pr;obtain⟨k0,k1,k2,k3⟩:=AG HX.kb;obtain⟨xa,xb,xc,xd,lN⟩:=HX.gb;obtain⟨v0,v1,v2,v3⟩:=AG lN;have F5:=AI lN;obtain⟨⟨mY,mU,mW,rfl⟩,⟨qP,qN,qO,rfl⟩,⟨mX,mT,mV,rfl⟩,⟨pq,pm,pp,rfl⟩⟩:=HX.ker.Dq;clear HK m8 pt qR pr j4 lN));have B5:=AA (AM (HI.1.trans ((HI.2.1.mono v8).trans HQ.u)) (Ak w5 g 5 (.slice oa on oc)) fs (yM HI.2.2 HQ.size));have I6:=HX.back;have B6:=AM B5 (Ar _ gk (.slice mY mU mW) (.slice qP qN qO) (.slice mX mT mV) (.slice pq pm pp)) HX.yT.2.1 HX.yT.2.2.2;go_roundw;exact⟨ln+1,ω,ξ,_,_,_,_,_,_,_,I6,B6⟩;simp[intOf];omega
 obtain rfl:k=4:=ω;obtain⟨⟨ka,kn,kc,oM⟩,⟨ja,jn,jc,oL⟩,⟨fa,fn,fc,oK⟩,⟨ra,rn,rc,oJ⟩⟩:=I0.ker.Dq;subst oM oL oK oJ;obtain⟨k0,k1,k2,k3⟩:=AG I0.kb;have j2:=I0.pb;have ac:=Ar wr g (.slice ka kn kc) (.slice ja jn jc) (.slice fa fn fc) (.slice ra rn rc);have N1:=KN (m':=.slice ka kn kc) (i':=.slice ja jn jc) (e':=.slice fa fn fc) (c':=.slice ra rn rc) j2;have jW:=(B0.block w pM).trans HN.u;have es:=At jW ac (by have:=I0.yT.1;omega);obtain⟨x0,K,x2,x3,x4,x5,x6,x7,x8⟩:=AC j2;have fz:=AI j2;obtain⟨z0,z1,z2,z3,z4,z5,z6,z7,z8⟩:=AC N1;obtain⟨y0,y1,y2,y3,y4,y5,y6,y7,y8⟩:=AC es;have fy:=AI es;have ji:=FQ (w:=((((wr.setCell g (.slice ka kn kc)).setCell (g,1) (.slice ja jn jc)).setCell (g,2) (.slice fa fn fc)).setCell (g,3) (.slice ra rn rc))) (g:=w.heap.size) (b0:=.slice ka kn kc) (b1:=.slice ja jn jc) (b2:=.slice fa fn fc) (b3:=.slice ra rn rc) (b4:=.slice sa sn sc) (b5:=.slice la ln lc) (b6:=.slice pa pn pc) (b7:=.int .i64 0) (b8:=.int .i64 l);have NN:=Hj (b0:=.slice ka kn kc) (b1:=.slice ja jn jc) (b2:=.slice fa fn fc) (b3:=.slice ra rn rc) (b4:=.slice sa sn sc) (b5:=.slice la ln lc) (b6:=.slice pa pn pc) (b7:=.int .i64 0) (b8:=.int .i64 l) es;have RK:=(((I0.ker.yV ac j2).yV ji es).sf);have RS:=((I0.swp.yV ac j2).yV ji es).sf;have RL:AE _ _ _ _:=Eu (Eu I0.low ac j2 ψ) ji es;have RQ:=AQ.yV (AQ.yV I0.pgs ac j2 ψ) ji es;have RP:=AA (show Pc w _ (.slice ka kn kc) (.slice ja jn jc) (.slice fa fn fc) (.slice ra rn rc) (.slice sa sn sc) (.slice la ln lc) (.slice pa pn pc) (XN l) from Pc.map (lo:=W0.heap.size) ⟨by have:=RK;rw[show 3*4+3=15 from rfl,Yg] at this;exact this,RS,RL,RQ⟩ (λ_ _ _ _ _ _ _ h=>Bb h (Nat.le_of_lt pM)));have BF:=AA (AM (AM (E.trans (B0.mono E.size)) ac (by have:=I0.yT.1;omega) (yM (yM E.size (yF _)) I0.yT.2.2.2)) ji (yF _) (yM (yM E.size I0.yT.2.2.2) ac.size));have HE:=AA (AC NN);clear RK RS RL RQ ji NN ac N1 jW es j2 I0 B0;rw[show((4:Nat):Int)=4 from rfl];go_wp2_with fail;obtain⟨E0,E1,E2,E3,E4,E5,E6,E7,E8⟩:=HE.u;unfold DO at E0 E1 E2 E3 E4 E5 E6 E7 E8;exact yB (v:=.tuple #[.agg #[_,_,_,_,_,_,_,_,_],_]) (by simp[results,Tryz.results113,go_sem,E0,E1,E2,E3,E4,E5,E6,E7,E8];exact⟨rfl,rfl⟩) rfl ⟨_,_,_,_,_,_,_,rfl,RP.u,BF.u⟩
theorem V8 (v:Φ)(s:List (List Int))(sl:Int)(w:Ω)(h:Bl w v s)(R:F9 s=true):Ξ prog 92 #[v,.int .i64 sl] w λe w'=>(∃v',e=.returned (.tuple #[v',.bool (Bj sl 0 15&&!(AK s sl.toNat).isEmpty)]))/\Γ w w w':=by
 have CV:=Iv v s w h;rw[R] at CV;have Hl:=AA (Hv.1 R).1;have AL:=AA (Hv.1 R).2;obtain⟨ao,c,rfl,hc,_,St⟩:=h.open;have CV:=AA CV;have HH:=AA St;generalize hbb:(Bj sl 0 15&&!(AK s sl.toNat).isEmpty)=bb;have kF:=AA hbb;clear h St R hbb;go_in;go_wp2_with fail;refine CV.mono ?_;rintro r w1 ⟨rfl,b1⟩;go_wp2_with fail;refine(Cr _ _ _ _).mono ?_;rintro r w2 ⟨rfl,rfl⟩;cases ge:Bj sl 0 15
 .obtain rfl:bb=false:=by rw[<-kF.u,ge];rfl
  clear ge kF;go_wp2_with fail;exact yB (v:=.tuple #[.slice w1 0 0,υ]) (by simp[results,tK,go_sem]) rfl ⟨⟨_,rfl⟩,b1.trans ((AJ _ _).mono b1.size)⟩
 have ab:=Aa.1 ge
 obtain⟨n,rfl⟩:∃n:Nat,sl=(n:Int):=⟨sl.toNat,ω⟩
 have nS:n<16:=ω;have sm:(n:Int)<s.length:=by have:=Hl.u;omega
 obtain⟨b,ie,u,rfl,bf,ho,hr⟩:=(HH.below b1) n (by have:=Hl.u;omega);obtain⟨au,cu,rfl,_,_,_⟩:=hr.open;rw[yq,ge,wg] at kF
 by_cases he:(AK s n).length=0
 .have t0:(((AK s n).length:Int)==0)=true:=by simp[he]
  obtain rfl:bb=false:=by rw[<-kF.u,List.isEmpty_iff.2 (List.eq_nil_of_length_eq_zero he)];rfl
  clear hr he ge kF ab;go_wp2_with fail;exact yB (v:=.tuple #[.slice w1 0 0,υ]) (by simp[results,tK,go_sem]) rfl ⟨⟨_,rfl⟩,b1.trans ((AJ _ _).mono b1.size)⟩
 have t0:(((AK s n).length:Int)==0)=false:=beq_eq_false_iff_ne.2 ω;obtain rfl:bb=true:=by rw[<-kF.u];cases hx:AK s n;rw[hx] at he;exact absurd rfl he;rfl
 have lC:(AK s n).length<=4:=by
  rcases AL n nS with h0|h0
  .rw[h0];simp
  exact uw (BB.1 h0).1
 have HR:=AA (A1.below hr (AJ w1 (.cells #[] 3)));have D':=((AJ w1 (.cells #[] 3)).cell (yK _ _ ho)).trans ho;have lX:=AA b1;clear he ge hr kF ab;go_wp2_with (at_builtin;refine PZ rfl rfl underlying29 rfl (GK w1) rfl HR ω (AJ w1 (.cells #[] 3)).size ?_;intro u' w9 hu pS;have CE:=AA pS;clear hu pS);exact yB (v:=.tuple #[_,τ]) (by simp[results,tK,go_sem];rfl) rfl ⟨⟨_,rfl⟩,lX.trans (((AJ w1 (.cells #[] 3)).trans CE.u).mono lX.size)⟩
structure gV(P:AP):Prop where
 k:Cx P.V0=true
 s:F9 P.swap=true
 ll:P.low.length=4
 lr:∀i,i<4->0<=Bd P.low i/\Bd P.low i<=11
 pl:P.Xs.length=16
theorem Yh (xs:List Bx):∀u∈Ce DT xs,u.oneCell'=true:=by
 intro u hu;obtain⟨s,_,R⟩:=List.mem_flatMap.1 hu;simp[DT] at R
 rcases R with rfl|rfl|rfl<;>rfl
theorem Ki (mv iv ev cv sv lv qv:Φ)(P:AP)(w:Ω)(h:JA w mv iv ev cv sv lv qv P)(hP:Dd P):
 Ξ prog 37 #[AN mv iv ev cv sv lv qv P.FU P.VO] w (OS w P):=by
 unfold AN OS;obtain⟨N0,N1,ar,bk⟩:=LG w (.cells #[mv,iv,ev,cv,sv,lv,qv,P.FU,P.VO] 32) (.cells #[ι,ι,ι,ι,ι,ι,ι,θ,θ] 32);have HR:=AA h;have cx:=AA (XQ hP);have j5:=AA hP.zD;have iw:=AA hP.zY;have CK:=AA (MR mv iv ev cv P.V0 _ (h.1.below ar) hP.k);obtain⟨x0,K,x2,x3,_⟩:=AC N0;have jI:=AA bk;clear h hP bk;go_in;go_wp2_with fail;generalize(w.alloc _).alloc _=W0 at*;refine CK.mono ?_;rintro r w1 ⟨m1,i1,e1,c1,rfl,O1,b1⟩;obtain⟨⟨ma,mn,mc,rfl⟩,⟨ia,iN,ic,rfl⟩,⟨ea,en,ec,rfl⟩,⟨ka,kn,kc,rfl⟩⟩:=O1.Dq;have B1:=AB N0 b1;have R1:=AB N1 b1;have f1:=AI B1;obtain⟨y0,y1,y2,y3,_⟩:=AC B1;have B2:=KN (m':=.slice ma mn mc) (i':=.slice ia iN ic) (e':=.slice ea en ec) (c':=.slice ka kn kc) B1;have G2:=Ar w1 w (.slice ma mn mc) (.slice ia iN ic) (.slice ea en ec) (.slice ka kn kc);have b2:=AM (ar.trans (b1.mono ar.size)) G2 (yF _) (yM ar.size b1.size);have px:=yM ar.size (yF W0.heap.size);generalize hW2:(((w1.setCell _ _).setCell _ _).setCell _ _).setCell _ _=W2 at B2 G2 b2;obtain⟨_,_,_,_,c4,_⟩:=AC B2;have cg:=AA (yj B1 R1);have jW:=AA B2;have qC:=AA G2;have jA:=AA b2;have qw:=AA (O1.lower ar.size);have il:=AA px;clear x0 K x2 x3 N0 N1 b1 O1 B1 R1 B2 G2 b2 ar CK px;go_wp2_with fail;clear y0 y1 y2 y3 f1 c4;refine(OD sv P.swap W2 (HR.2.1.below jA.u) (by have:=cx.1;omega) (λf hf=>by have O:=cx.1;have:=cx.2 f ω;omega)).mono ?_;rintro r w3 ⟨v3,vs,rfl,O3,b3⟩;obtain⟨sa,sn,sc,rfl⟩:∃a n c,v3=.slice a n c:=by obtain⟨_,_,rfl,_,_⟩:=O3.1.rd.shape;exact⟨_,_,_,rfl⟩
 have B3:=AB jW b3;have f3:=AI B3;obtain⟨_,_,_,_,y4,_⟩:=AC B3;have G4:=Ak w3 w.heap.size 4 (.slice sa sn sc);have B4:=yE w3 w.heap.size 4 _ 32 (.slice sa sn sc) B3;have b4:=AM (jA.trans (b3.mono jA.size)) G4 (yF _) (yM jA.size b3.size);generalize hW4:w3.setCell _ _=W4 at B4 G4 b4;replace B4:W4.heap[w.heap.size]?=some (.cells #[.slice ma mn mc,.slice ia iN ic,.slice ea en ec,.slice ka kn kc,.slice sa sn sc,lv,qv,P.FU,P.VO] 32 (0,0)):=by simpa using B4
 obtain⟨_,_,_,_,_,c5,_⟩:=AC B4;have es:=AA B3;have iT:=AA B4;have Dw:=AA G4;have mN:=AA b4;have qu:=AA O3;have CR:=AA b3;have RL:=AA (A1.below HR.2.2.1 (b4.trans ((AJ W4 (.cells #[] 3)).mono b4.size)));have yb:=((AJ W4 (.cells #[] 3)).cell (yK _ _ c5)).trans c5;clear B3 B4 G4 b4 O3 b3;go_wp2_with (first|(at_builtin;refine PZ rfl rfl underlying29 rfl (GK W4) rfl RL (by have:=j5.u;omega) (AJ W4 (.cells #[] 3)).size ?_;intro u5 w5 hu ky;obtain⟨la,lu,rfl,_⟩:=(AE.rd hu).open;have b5:=(AJ W4 (.cells #[] 3)).trans ky;have B5:=AB iT b5;have f5:=AI B5;obtain⟨_,_,_,_,_,y5,_⟩:=AC B5;have G6:=Ak w5 w.heap.size 5 (.slice la P.low.length lu);have B6:=yE w5 w.heap.size 5 _ 32 (.slice la P.low.length lu) B5;have b6:=AM (mN.trans (b5.mono mN.size)) G6 (yF _) (yM mN.size b5.size);generalize hW6:w5.setCell _ _=W6 at B6 G6 b6;replace B6:W6.heap[w.heap.size]?=some (.cells #[.slice ma mn mc,.slice ia iN ic,.slice ea en ec,.slice ka kn kc,.slice sa sn sc,.slice la P.low.length lu,qv,P.FU,P.VO] 32 (0,0)):=(by simpa using B6);obtain⟨_,_,_,_,_,_,c6,_⟩:=AC B6;have xx:=((AJ W6 (.cells #[] 87)).cell (yK _ _ c6)).trans c6;have HU:=AA hu;have fl:=AA B5;have DN:=AA B6;have Dv:=AA G6;have mr:=AA b5;have lg:=AA b6;have RQ:=AA (BK.below HR.2.2.2 (lg.trans ((AJ W6 (.cells #[] 87)).mono lg.size)));clear hu ky b5 B5 G6 B6 b6 c5 yb y4 f3)|(at_builtin;go_must (refine GN (cs:=DT) rfl rfl 87 (.agg #[θ,θ,υ]) 3 24 underlying30 Tryz.zv rfl ψ rfl (Ci DT W6 _ _) rfl RQ (Yh _) (by have:=iw.u;omega) ψ (AJ W6 (.cells #[] 87)).size ?_;intro u7 w7 hq pT;obtain⟨pa,mx,rfl,_⟩:=hq.rd.shape;have b7:=(AJ W6 (.cells #[] 87)).trans pT;have B7:=AB DN b7;have f7:=AI B7;obtain⟨_,_,_,_,_,_,y6,_⟩:=AC B7;have G8:=Ak w7 w.heap.size 6 (.slice pa P.Xs.length mx);have B8:=yE w7 w.heap.size 6 _ 32 (.slice pa P.Xs.length mx) B7;have b8:=AM (lg.trans (b7.mono lg.size)) G8 (yF _) (yM lg.size b7.size);generalize hW8:w7.setCell _ _=W8 at B8 G8 b8;replace B8:W8.heap[w.heap.size]?=some (.cells #[.slice ma mn mc,.slice ia iN ic,.slice ea en ec,.slice ka kn kc,.slice sa sn sc,.slice la P.low.length lu,.slice pa P.Xs.length mx,P.FU,P.VO] 32 (0,0)):=(by simpa using B8);have ox:=AO Dv (AO (AW b7 _) G8);have oy:=AO Dw (AO (AW mr _) ox);have oz:=AO qC (AO (AW CR _) oy);have R8:=At cg.2 oz ω;have O8:Es w W8 (.slice ma mn mc) (.slice ia iN ic) (.slice ea en ec) (.slice ka kn kc) (.slice sa sn sc) (.slice la P.low.length lu) (.slice pa P.Xs.length mx) P:=⟨qw.yV oz cg.1,⟨vs,(qu.yV oy es).lower jA.size⟩,Bb (Eu HU ox fl) mN.size,Bb (AQ.yV hq G8 B7) lg.size,λb V u6=>(by obtain⟨us,r1⟩:=qw.1;have q1:=(yC r1.1 b V).2;have q2:=(yC qu.1 b u6).1;have q3:=qC.size;omega)⟩;have S9:=Bu R8 O8;obtain⟨d0,d1,d2,d3,d4,d5,d6,d7,d8⟩:=AC B8;obtain⟨z0,z1,z2,z3,z4,z5,z6,z7,z8⟩:=AC R8;have f8:=AI R8;have CY:=AA S9;have qm:=AA b8;clear hq pT b7 B7 G8 B8 b8 ox oy oz R8 O8 S9 c6 xx y5 f5)))
 obtain⟨N9,O9,wo⟩:=CY.u;have B9:=AM qm wo ω qm.size;unfold DO at N9 O9 B9;exact yB (v:=.agg #[_,_,_,_,_,_,_,_,_]) (by simp[results,Tryz.results37,go_sem,AC N9]) rfl ⟨_,_,_,_,_,_,_,rfl,O9,B9⟩
theorem V9 (v u:Φ)(S:List (List Int))(r:List Int)(w:Ω)(h:Bl w v S)(R:F9 S=true)(hr:A1 w u r)(kS:EP r=true)(hj:Bs S=(j:Int))(iM:j<16):
 Ξ prog 243 #[v,u] w λe w'=>(∃v' vs,e=.returned (.tuple #[v',j,τ])/\Ay w w' v' vs (S.set j r))/\Γ w w w':=by
 have C1:=XD v S w h;rw[hj] at C1;have C1:=AA C1;have C2:=AA (λW (hW:Γ w w W)=>by have:=Iv v S W (h.below hW);rw[R] at this;exact this);have C3:=AA (λW (hW:Γ w w W)=>by have:=MT u r W (A1.below hr hW);rw[kS] at this;exact this);have iu:=(Hv.1 R).1;have pE:=(Hv.1 R).2;have rF:∀f,f<S.length->(AK S f).length<=100:=λf hf=>by
  rcases pE f ω with h0|h0
  .rw[h0];simp
  have:=(BB.1 h0).1;omega
 have C4:=AA (λW (hW:Γ w w W)=>OD v S W (h.below hW) ω rF);have HR:=AA (λW (hW:Γ w w W)=>A1.below hr hW);have lC:r.length<=1048576:=by have:=(BB.1 kS).1;omega
 have mh:=AA iu;have Fr:¬(j:Int)<0:=ω;have FA:(j:Int)<16:=ω;clear h R hr kS iu pE hj;go_in;go_wp2_with fail;refine C1.mono ?_;rintro e w1 ⟨rfl,b1⟩;go_wp2_with fail;refine(C2 _ b1).mono ?_;rintro e w2 ⟨rfl,b2⟩;have B2:=b1.trans (b2.mono b1.size);go_wp2_with fail;refine(C3 _ B2).mono ?_;rintro e w3 ⟨rfl,b3⟩;have B3:=B2.trans (b3.mono B2.size);clear b1 b2 b3 B2;go_wp2_with fail;refine(C4 _ B3).mono ?_;rintro e w4 ⟨v',vs,rfl,O4,b4⟩;have hX:vs.length=16:=by rw[O4.2.1.1];exact mh.u
 obtain⟨gs,f4,rfl,c1,c2,q1,q2,tk⟩:=O4.1.zW ω;rw[hX] at O4 c1 ⊢;have B4:=B3.trans (b4.mono B3.size);have iT:=AA B4;have es:=AA B3;have kh:=AA O4;have mL:=AA hX;have C0:=AA (HR _ (B4.trans ((AJ w4 (.cells #[] 3)).mono B4.size)));clear O4 b4 B3 B4 tk hX;go_wp2_with (at_builtin;refine PZ rfl rfl underlying29 rfl (GK w4) rfl C0 lC (AJ w4 (.cells #[] 3)).size ?_;intro u5 w5 hu ky;have b5:=(AJ w4 (.cells #[] 3)).trans ky;have hs:=kh.set (B:=w4.heap.size) (j:=j) b5 hu (yF _) ω mL.symm (by have:=mL.u;omega);have g1:w5.ownsRow w3.heap.size 29 1 (.slice gs 16 f4) 16 vs:=(by have:=(kh.below b5).1;unfold AQ at this;rwa [IU,mL.u] at this);have K1:=xO g1 j ω;rw[yG (by have:=mL.u;omega)] at K1;have F1:=xU g1 j;have C5:=AA (hs.1.lower es.size);have B6:=AA (AM (iT.trans (b5.mono iT.size)) hs.2 (by have:=es.size;omega) (yM iT.size b5.size));obtain⟨ra,rn,rc,rfl⟩:=ND hu;have Hf:(16:Int)<=f4:=ω;clear hs g1 hu ky b5);exact yB (v:=.tuple #[_,_,τ]) (by simp[results,Tryz.results243,go_sem]) rfl ⟨⟨_,_,rfl,C5.u⟩,B6.u⟩
def Fm(w w':Ω):Prop:=∀(b:Nat)(cu:Array Φ),w.heap[b]?=some (.cells cu 32 (0,0))->w'.heap[b]?=some (.cells cu 32 (0,0))
section
variable {w w1 w2:Ω} {p T:Nat} {cu:Array Φ}
theorem Fm.refl(w:Ω):Fm w w:=λ_ _ h=>h
theorem Fm.trans(h:Fm w w1)(h':Fm w1 w2):Fm w w2:=λb cu V=>h' b cu (h b cu V)
theorem Fm.below(h:Fm w w1)(V:Γ w1 w1 w2):Fm w w2:=λb cu hB=>AB (h b cu hB) V
theorem Fm.fresh(h:Fm w w1)(L:w1.grownBy w2 (some p))(hp:w.heap.size<=p):Fm w w2:=λb cu hB=>At (h b cu hB) L (by have:=AU hB;omega)
theorem Fm.other(h:Fm w w1)(L:w1.grownBy w2 (some p))(hB:w1.heap[p]?=some (.cells cu T (0,0)))(hT:T≠32):Fm w w2:=λb c V=>At (h b c V) L (Bz hB (h b c V) hT)
end
def Xf:Option Nat->Int
 |some n=>(n:Int)
 |none=> -1
def Xw(lo:Nat)(w:Ω)(m i e c s l q:Φ)(P:AP)(t:List Bx×Int×Option Nat)(r:Ending)(w':Ω):Prop:=
 r=.returned (.tuple #[AN m i e c s l q t.2.1 P.VO,.int .i64 (Xf t.2.2)])/\Es lo w' m i e c s l q {P with Xs:=t.1,FU:=t.2.1}/\Γ lo w w'/\Fm w w'
variable{P Q p:AP}
theorem UD (h:Es lo w mv iv ev cv sv lv qv P)(ay:lo<=w.heap.size)(hP:Dd P):
 Ξ prog 202 #[AN mv iv ev cv sv lv qv P.FU P.VO] w (Xw lo w mv iv ev cv sv lv qv P (Cq 32 P.Xs P.FU)):=by
 unfold AN Xw AN;obtain⟨N0,N1,ar,bk⟩:=LG w (.cells #[mv,iv,ev,cv,sv,lv,qv,P.FU,P.VO] 32) (.cells #[ι,ι,ι,ι,ι,ι,ι,θ,θ] 32);have HI:=AA (⟨N0,ay,h.below ar⟩:ID lo w.heap.size _ mv iv ev cv sv lv qv P);obtain⟨⟨⟨ma,mn,mc,rfl⟩,⟨ia,iN,ic,rfl⟩,⟨ea,en,ec,rfl⟩,⟨ka,kn,kc,rfl⟩⟩,⟨sa,sn,sc,rfl⟩,⟨la,ln,lc,rfl⟩,⟨pa,pn,pc,e7⟩⟩:=h.Dq;obtain⟨gq,qc,e8,j1,ks,n5,nd,_⟩:=HI.page (n:=0) (by rw[hP.zY];omega);rw[hP.zY] at e8 j1;subst e8;clear e7;have jI:=AA bk;have bw:=AA (yM ay ar.size);have bD:=AA (ar.mono ay);have jB:=AA ((Fm.refl w).below ar);have kK:=AA N1;have jV:=AA ay;have v6:=AA hP;have hh:=hP.FU;have qV:=nd.symm;generalize hv:Cq 32 P.Xs P.FU=t;obtain⟨pg,hd,o⟩:=t;have hV:=AA hv;clear h hP ay N0 N1 ar bk hv;go_in;go_wp2_with fail;generalize(w.alloc _).alloc _=W0 at*;generalize L:w.heap.size=g at*;have Hg:=AA L;clear L;go_loopw [4,5] (λix _ wr=>∃k Xs FU,k<=32/\ix=.int .i64 ((32 - k:Nat):Int)/\ID lo g wr (.slice ma mn mc) (.slice ia iN ic) (.slice ea en ec) (.slice ka kn kc) (.slice sa sn sc) (.slice la ln lc) (.slice gq 16 qc) {P with Xs:=Xs,FU:=FU}/\wr.heap[g+1]?=some (.cells #[ι,ι,ι,ι,ι,ι,ι,θ,θ] 32 (0,0))/\Cq k Xs FU=(pg,hd,o)/\DY P.Xs Xs/\0<=FU/\FU<=15/\Γ lo w wr/\Fm w wr) (λix _ _=>32 - (intOf ix).toNat)
 exact⟨32,P.Xs,P.FU,yF _,rfl,HI.u,kK.u,hV.u,DY.refl _,hh.1,hh.2,bD.u,jB.u⟩
 obtain⟨k,Xs,FU,hk,rfl,hI,hN,jC,hU,h0,wh,V,hst⟩:=hrel;cases k with
 |zero=>
  obtain⟨rfl,rfl,rfl⟩:Xs=pg/\FU=hd/\none=o:=by unfold Cq at jC;simpa using jC
  have HS:=AA (Bu hN hI.own);obtain⟨x0,K,x2,x3,x4,x5,x6,x7,x8⟩:=hI.cells;obtain⟨z0,z1,z2,z3,z4,z5,z6,z7,z8⟩:=AC hN;have fz:=AI hN;have E:=AA V;have zs:=AA hst;clear hI hN V hst hU jC hk;rw[show((32 - 0:Nat):Int)=32 from rfl];go_wp2_with fail;obtain⟨N2,O2,ji⟩:=HS.u;have B2:=AM E ji (by have:=Hg.u;have:=jV.u;omega) (by have:=E.size;have:=Hg.u;have:=jV.u;omega);have T2:=zs.fresh ji (by have:=Hg.u;omega);unfold DO at N2 O2 B2 T2;exact yB (v:=.tuple #[.agg #[_,_,_,_,_,_,_,_,_],_]) (by simp[results,rS,go_sem,Xf,AC N2]) rfl ⟨rfl,O2,B2,T2⟩
 |succ k=>
  rw[Qo] at jC;obtain⟨j,rfl⟩:∃j:Nat,FU=(j:Int):=⟨FU.toNat,ω⟩
  rw[yq] at jC;unfold FJ at jC;have hj:j<16:=ω;have jF:(j:Int)<16:=ω;obtain⟨ix,hix⟩:∃ix:Nat,ix=32 - (k+1):=⟨_,rfl⟩
  have s8:(ix:Int)<32:=ω;have CB:=AA (ω:32 - k=ix+1);rw[<-hix];clear hix;have iw:Xs.length=16:=by rw[hU.len];exact v6.zY
  obtain⟨_,_,_,_,_,_,_,x7,_⟩:=hI.cells;have fg:=AI hI.yU;have P1:=hI.zr (((j:Int)+1)%16);have B1:=AM V P1.2 hI.yT (by have:=V.size;have:=Hg.u;have:=jV.u;omega);have N1:=At hN P1.2 ω;have I1:=P1.1;have T1:=hst.fresh P1.2 (by have:=Hg.u;omega);clear P1 hst;generalize hW1:wr.setCell _ _=W1 at I1 B1 N1 T1;have kG:=AA T1;clear T1;obtain⟨nM,fq,p0,p1,p2⟩:=I1.pg (n:=j) (by show j<Xs.length;rw[iw];exact hj);obtain⟨c0,c1,c2,c3,c4,c5,c6,c7,c8⟩:=I1.cells;have lW:0<=((j:Int)+1)%16/\((j:Int)+1)%16<=15:=M7 (FU:=(j:Int)) h0 wh;have hx:Xs[j]?=some (AD Xs j):=by unfold AD;exact A6 ω
  replace p0:W1.cell? (gq,j*3)=some (.int .i64 (AD Xs j).w):=p0;replace p1:W1.cell? (gq,j*3+1)=some (.int .i64 (AD Xs j).a):=p1;replace p2:W1.cell? (gq,j*3+2)=some (.bool (AD Xs j).u):=p2;have qo:=AA (DY.trans hU (DY.one Xs j));have FT:=AA hU;generalize hpj:AD Xs j=x at jC p0 p1 p2 hx qo;obtain⟨xw,xa,xu⟩:=x;dsimp only at p0 p1 p2 jC;have HX:=AA hx;have C6:=AA iw;have fb:=AA I1;have cg:=AA B1;have HN:=AA N1;have mt:=AA lW;have HV:=AA jC;have Hk:=AA hk;clear hI hU hx jC iw V I1 B1 N1 lW hN hpj hk
  by_cases hc:xw=1/\xu=false
  .obtain⟨rfl,rfl⟩:=hc
   have kl:=HV.u;rw[if_pos ⟨rfl,rfl⟩] at kl;simp only[Prod.mk.injEq] at kl;obtain⟨rfl,rfl,rfl⟩:=kl;clear HV hV;have HS:=AA (Bu HN fb.own);obtain⟨z0,z1,z2,z3,z4,z5,z6,z7,z8⟩:=AC HN.u;have fz:=AI HN.u;go_wp2_with fail;obtain⟨N2,O2,ji⟩:=HS.u;have B2:=AM cg ji (by have:=Hg.u;have:=jV.u;omega) (by have:=cg.size;have:=Hg.u;have:=jV.u;omega);have T2:=kG.fresh ji (by have:=Hg.u;omega);unfold DO at N2 O2 B2 T2;exact yB (v:=.tuple #[.agg #[_,_,_,_,_,_,_,_,_],_]) (by simp[results,rS,go_sem,Xf,AC N2]) rfl ⟨rfl,O2,B2,T2⟩
  have kl:=HV.u
  rw[if_neg hc] at kl;have CW:=AA kl;have iz:=fb.zz (n:=j) (x:=⟨xw,xa,xu⟩) (y:=⟨xw,xa,false⟩) (j:=2) (u:=.bool false) C6.symm HX ψ rfl;have B2:=AA (AM cg iz.2.1 iz.2.2 (by have:=cg.size;have:=Hg.u;have:=jV.u;omega));have v7:=AA (At HN iz.2.1 (by obtain⟨cu,gp⟩:=A7 fb.own.pgs gq rfl;exact(Bz gp HN)));have Dj:=AA iz.1;obtain⟨mI,fx⟩:=A7 fb.own.pgs gq rfl;have T2:=AA (kG.other iz.2.1 fx ψ);clear iz kl HV hV
  by_cases nK:xw=1
  focus
   subst nK
   obtain rfl:xu=true:=by
    cases xu
    .exact absurd ⟨rfl,rfl⟩ hc
    rfl
   clear hc
  rotate_left
  focus
   have t1:(xw==1)=false:=by simp[nK]
   clear hc nK
  rotate_left
  all_goals
   go_wp2;go_roundw;exact⟨k,_,_,by have:=Hk.u;omega,by rw[CB.u];go_num,Dj.u,v7.u,CW.u,qo.u,mt.1,mt.2,B2.u,T2.u⟩;simp[intOf];omega
section
variable {lo g:Nat} {w w':Ω} {m i e c s l q:Φ} {P:AP}
theorem ID.kfar{p:Nat}{cu:Array Φ}(h:ID lo g w m i e c s l q P)(hp:w.heap[p]?=some (.cells cu 28 (0,0)))(L:w.grownBy w' (some p)):ID lo g w' m i e c s l q P:=
 ⟨At h.yU L (Bz hp h.yU),h.yT,h.own.yV L hp⟩
theorem ID.putSw{s':Φ}{vs:List Φ}{S:List (List Int)}(h:ID lo g w m i e c s l q P)(h1:Ay lo w s' vs S)(ha:GP m s'):ID lo g (w.setCell (g,4) s') m i e c s' l q {P with swap:=S}:=by have gr:=Ak w g 4 s';have F:=h.own.yV gr h.yU;have B:=yE w g 4 _ 32 s' h.yU;exact⟨by simpa using B,h.yT,⟨F.ker,⟨vs,h1.yV gr h.yU⟩,F.low,F.pgs,ha⟩⟩
theorem ID.putK{m' i' e' c':Φ}{k:AR}(h:ID lo g w m i e c s l q P)(h1:Du lo w m' i' e' c' k)(ha:GP m' s):ID lo g ((((w.setCell g m').setCell (g,1) i').setCell (g,2) e').setCell (g,3) c') m' i' e' c' s l q {P with V0:=k}:=by have gr:=Ar w g m' i' e' c';have F:=h.own.yV gr h.yU;exact⟨KN h.yU,h.yT,⟨h1.yV gr h.yU,F.swp,F.low,F.pgs,ha⟩⟩
end
def dx(lo:Nat)(v:Φ)(w:Ω)(S:List (List Int)):Prop:=∃vs,Ay lo w v vs S
def MH(lo:Nat)(v:Φ)(w:Ω)(S:List (List Int))(x:Int):Prop:=∃u,v=.tuple #[u,x,τ]/\dx lo u w S
variable{S:List (List Int)}
theorem dx.below (h:dx lo v w S)(V:Γ w w w'):dx lo v w' S:=by obtain⟨vs,h⟩:=h;exact⟨vs,h.below V⟩
theorem MH.below (h:MH lo v w S x)(V:Γ w w w'):MH lo v w' S x:=by obtain⟨u,O,z⟩:=h;exact⟨u,O,z.below V⟩
def Xt(lo:Nat)(w:Ω)(l q:Φ)(Q:AP)(r:Ending)(w':Ω):Prop:=(∃m i e c s,r=.returned (AN m i e c s l q Q.FU Q.VO)/\Es lo w' m i e c s l q Q)/\Γ lo w w'/\Fm w w'
theorem YZ (h:Es lo w mv iv ev cv sv lv qv P)(ay:lo<=w.heap.size)(hP:Dd P)(hn:n<16)(hw:(AD P.Xs n).w=1):
 Ξ prog 203 #[AN mv iv ev cv sv lv qv P.FU P.VO,.int .i64 n] w (Xt lo w lv qv (Er P n)):=by
 have pO:=hP.zR hn hw;have tm:=(hP.zQ hn hw).2.1;have jr:=hP.slot hn (by rw[hw];decide);obtain⟨f,hf⟩:∃f:Nat,(AD P.Xs n).a=(f:Int):=⟨(AD P.Xs n).a.toNat,ω⟩
 obtain⟨sl,iu⟩:∃sl:Nat,Bs P.swap=(sl:Int):=⟨(Bs P.swap).toNat,by have:=jr.1;omega⟩
 have it:sl<16:=by have:=jr.2.1;omega
 have lO:f<12:=by have:=pO.1;omega
 obtain⟨ta,ha⟩:∃a,a=n/4:=⟨_,rfl⟩
 obtain⟨tb,V⟩:∃b,b=n%4:=⟨_,rfl⟩
 have q1:(n:Int)/4=(ta:Int):=ω;have q2:(n:Int)%4=(tb:Int):=ω;have oj:ta<4:=ω;have ot:DZ (Ad P.V0 (Ah 6 (Bd P.low ta) (tb:Int) 0)).1:=GG hP.k;have hQ:Er P n= {P with V0:=(Ad (Ad P.V0 (Ah 6 (Bd P.low ta) (tb:Int) 0)).1 (Ah 2 (f:Int) 0 0)).1,swap:=P.swap.set sl (AK P.V0.mem f),Xs:=P.Xs.set n ⟨2,(sl:Int),false⟩}:=by unfold Er JU;rw[hf,iu,<-ha,<-V,yq,yq]
 rw[hQ];have CM:=λm i e c W (hR:Ns W m i e c P.V0)=>GT hR hP.k 6 (Bd P.low ta) (tb:Int) 0 ψ
 generalize Ad P.V0 (Ah 6 (Bd P.low ta) (tb:Int) 0)=res1 at CM ot ⊢;obtain⟨fm,iJ,n1⟩:=res1;dsimp only at CM ot ⊢;have C4:=λm i e c W (hR:Ns W m i e c fm)=>GT hR ot 2 (f:Int) 0 0 ψ
 generalize Ad fm (Ah 2 (f:Int) 0 0)=res2 at C4 ⊢;obtain⟨j0,ki,n2⟩:=res2;unfold LT at CM C4;dsimp only at CM C4 ⊢;generalize(n1==0)=br1 at CM;replace CM:=AA CM;replace C4:=AA C4;unfold AN Xt AN;obtain⟨⟨_,⟨ia,iN,ic,rfl⟩,⟨ea,en,ec,rfl⟩,⟨ka,kn,kc,rfl⟩⟩,⟨sa,sn,sc,rfl⟩,_⟩:=h.Dq;obtain⟨gq,qc,e3,_,_,ks,n5,_⟩:=h.pgs.zW (by rw[hP.zY];omega);rw[hP.zY] at e3;obtain⟨lb,lc,e2,jD,DL⟩:=KU h.low (j:=ta) (by rw[hP.zD];exact oj);rw[hP.zD] at e2;obtain⟨vs,o1⟩:=h.ker.1;have kV:P.V0.mem.length=12:=hP.meml;have hX:vs.length=12:=by rw[o1.2.1.1];exact kV
 obtain⟨gm,cm,e1,od,_,_,lM,_⟩:=o1.1.zW ω;have lC:(AK P.V0.mem f).length=4:=hP.rowl lO;obtain⟨gw,cw,hu,je,_,_⟩:=o1.row (f:=f) ω ω;have DR:=AQ.zJ Eh (e1▸o1.1) hu 0 _ rfl;rw[hX] at e1;rw[lC] at hu je DR;rw[wZ,xT] at DR;subst e1 e2 e3;obtain⟨N0,N1,ar,bk⟩:=LG w (.cells #[.slice gm 12 cm,.slice ia iN ic,.slice ea en ec,.slice ka kn kc,.slice sa sn sc,.slice lb 4 lc,.slice gq 16 qc,P.FU,P.VO] 32) (.cells #[ι,ι,ι,ι,ι,ι,ι,θ,θ] 32);have bL:=(⟨N0,ay,h.below ar⟩:ID lo w.heap.size _ _ _ _ _ _ _ _ P);replace DR:=(ar.cell (p:=⟨gm,f,none⟩) lM).trans DR;replace DL:=(ar.cell (p:=⟨lb,ta,none⟩) jD).trans DL;replace jD:=yu jD ar.size;replace lM:=yu lM ar.size;replace je:=AE.below je ar;have pV:=AE.rd je;have pW:=bL.own.swp.choose_spec.rd;have pX:=bL.own.ker.rd;have cx:F9 P.swap=true:=Hv.2 ⟨hP.zN,hP.zF⟩;have pG:EP (AK P.V0.mem f)=true:=(Aj.1 hP.k.mem).2 f lO;obtain⟨_,_,p1,_⟩:True/\True/\_/\True:=⟨trivial,trivial,(bL.pg (n:=n) (by rw[hP.zY];exact hn)).2.2.2.1,trivial⟩;rw[hf] at p1;obtain⟨k0,k1,k2,k3,k4,k5,k6,_,_⟩:=bL.cells;have jI:=AA bk;have kK:=AA N1;have HI:=AA bL;have jV:=AA ay;have bD:=AA (ar.mono ay);have jB:=AA ((Fm.refl w).below ar);have HP:=AA hP;have X:=AA hP.k;have oZ:=AA pX;replace DL:_=some (yl .i64 (Bd P.low ta)):=DL;generalize Bd P.low ta=la at*;have CS:=AA (λW (hW:Γ _ _ W)=>V9 (.slice sa sn sc) (.slice gw 4 cw) P.swap (AK P.V0.mem f) W (pW.below hW) cx (pV.below hW) pG iu it);have kU:(n:Int)<16:=ω;have FK:(f:Int)<12:=ω;have vu:(ta:Int)<4:=ω;have bw:=AA (yM ay ar.size);have kD:=AA (show n<P.Xs.length by rw[hP.zY];exact hn);have ld:=AA hP.zY;clear h ay hP hw pO tm jr hf iu hQ bL N0 N1 ar bk o1 hu je lC kV hX pV pW pX cx pG od ha V;go_in;go_wp2_with fail;generalize(w.alloc _).alloc _=W0 at*;generalize L:w.heap.size=g at*;have Hg:=AA L;have ef:=AU HI.yU;clear L;refine A9 15 64 [.p g 4,.v (.slice sa sn sc),.p g 0,.p g 0,.s gm 12 cm,.i ((f:Int)),.p gm f,.s gw 4 cw,.z,.z,.z,.i ((sl:Int)),.b true,.z,.i ((sl:Int))] (λix vv ww=>match ix with
  |8|9=>MH W0 vv ww (P.swap.set sl (AK P.V0.mem f)) (sl:Int)
  |10|13=>dx W0 vv ww (P.swap.set sl (AK P.V0.mem f))
  |_=>True) ?_ ?_ ?_
 .intro i hi o D a wx E A Z x1 X
  have bP:=bc Z ef k4;have bu:=bc Z ef k0
  match i,hi with
  |0,_|2,_|3,_|5,_|14,_=>exact sP D X E A
  |1,_|4,_=>exact sL D X E A (hl:=GZ ‹_›)
  |6,_=>exact sI D X E A (hr:=by clear A E X;go_simp)
  |7,_=>exact sL D X E A (hl:=K5 (bc Z lM DR))
  |8,_=>exact sC D X E A (CS _ Z) (by rintro r w_ ⟨⟨v',qK,rfl,hO⟩,ei⟩;exact⟨_,rfl,⟨v',rfl,qK,hO.lower Z.size⟩,ei⟩)
  |9,_=>clear bP bu;obtain rfl:=yP D;have d8:MH W0 (a.tmps[27]?.getD Θ) wx (P.swap.set sl (AK P.V0.mem f)) (sl:Int):=Bc A 8;clear A E;refine yO ?_;go_simp;exact X _ _ d8 (yN _ _)
  |10,_=>clear bP bu;obtain rfl:=yP D;have d9:MH W0 (a.tmps[18]?.getD Θ) wx (P.swap.set sl (AK P.V0.mem f)) (sl:Int):=Bc A 9;clear A E;obtain⟨v',d9,hO⟩:=d9;refine yO ?_;go_simp;exact X _ _ hO (yN _ _)
  |11,_|12,_=>clear bP bu;obtain rfl:=yP D;have d9:MH W0 (a.tmps[18]?.getD Θ) wx (P.swap.set sl (AK P.V0.mem f)) (sl:Int):=Bc A 9;clear A E;obtain⟨v',d9,hO⟩:=d9;refine yO ?_;go_simp;exact X _ _ rfl (yN _ _)
  |13,_=>clear bP bu;obtain rfl:=yP D;have mb:dx W0 (a.tmps[28]?.getD Θ) wx (P.swap.set sl (AK P.V0.mem f)):=Bc A 10;clear A E;refine yO ?_;go_simp;exact X _ _ mb (yN _ _)
  |_+15,hq=>omega
 .intro i hi vv wz hF cC hz
  match i,hi with
  |8,_|9,_=>exact(MH.below hz cC)
  |10,_|13,_=>exact(dx.below hz cC)
  |0,_|1,_|2,_|3,_|4,_|5,_|6,_|7,_|11,_|12,_|14,_=>exact hz
  |_+15,hq=>omega
 intro vs wx hR Z
 have pv:(vs 12)=.bool true:=Bh hR 12;have lp:dx W0 (vs 13) wx (P.swap.set sl (AK P.V0.mem f)):=Bh hR 13;have jY:(vs 14)=.int .i64 sl:=Bh hR 14;clear hR;simp only[Ai,Ae,yL,yI,yJ,yH,pv,jY];simp;generalize vs 13=qJ at lp ⊢;clear pv jY;obtain⟨kO,hO⟩:=lp;obtain⟨ua,un,uc,rfl⟩:∃a n c,qJ=.slice a n c:=by obtain⟨_,_,rfl,_,_⟩:=hO.1.rd.shape;exact⟨_,_,_,rfl⟩
 obtain⟨W1,rfl⟩:∃W1,W1=wx:=⟨_,rfl⟩
 have HO:=AA hO;have fb:=AA (HI.below Z);have cg:=AA (bD.trans (Z.mono bw.u));have HN:=AA (AB kK Z);have HT:=AA (jB.below Z);have lH:=yu jD Z.size;replace DL:=(Z.cell (p:=⟨lb,ta,none⟩) jD).trans DL;have qF:=CM.u;clear CM;have CM:=AA (λW (hW:Γ W1 W1 W)=>qF _ _ _ _ W ((oZ.below Z).below hW));clear qF;have jD:=lH;have mi:=AA Z.size;clear hO Z k0 k1 k2 k3 k4 k5 k6 p1 DR lM lH CS;obtain⟨k0,k1,k2,k3,k4,k5,k6,_,_⟩:=fb.cells;have kv:=AU fb.yU;go_wp2_with fail;refine Db 19 64 (λix=>ix==16) [.p g 0,.a #[.slice gm 12 cm,.slice ia iN ic,.slice ea en ec,.slice ka kn kc],.p g 5,.s lb 4 lc,.i ((n:Int)),.i ((ta:Int)),.p lb ta,.i la,.i ((n:Int)),.i ((tb:Int)),.z,.z,.z,.i iJ,.b br1,.z,.z,.i iJ,.b br1] (λll ix vv ww=>match ix with
  |10|11=>Fb W1 vv ww fm iJ br1
  |12=>IM W1 vv ww fm
  |15=>KI W1 (ll 16) vv ww fm
  |_=>True) (λll ww=>Γ W1 W1 ww) ?_ ?_ ?_ ?_ ?_ ?_
 .exact Ap (yN _ _) 1
 .intro j hj ll i vv wz hF hi hS kA op cC hz
  match j,hj with
  |10,_|11,_=>exact(Fb.below hz cC)
  |12,_=>exact(IM.below hz cC)
  |15,_=>exact(KI.below (by rw[Fg (by rintro rfl;cases hS)];exact hz) cC)
  |0,_|1,_|2,_|3,_|4,_|5,_|6,_|7,_|8,_|9,_|13,_|14,_|16,_|17,_|18,_=>exact hz
  |_+19,hq=>omega
 .intro ll i wz hF hi hS kA cC L
  exact L.trans (cC.mono L.size)
 .intro i hi hS o D a wx E ll A Y Z x1 X
  have bP:=bc Z kv k0;have bu:=bc Z kv k1;have bx:=bc Z kv k2;have bE:=bc Z kv k3;have bt:=bc Z kv k5;have dg:=bc Z jD DL
  match i,hi,hS with
  |0,_,_|2,_,_|4,_,_|8,_,_|17,_,_|18,_,_=>exact Xn D X E A Y
  |1,_,_=>exact Lb D X E A Y (hl:=P7 ‹_› ‹_› ‹_› ‹_›)
  |3,_,_=>exact Lb D X E A Y (hl:=K5 ‹_›)
  |7,_,_=>exact Lb D X E A Y (hl:=GO ‹_›)
  |10,_,_=>exact gy D X E A Y (CM _ Z) (by rintro r w_ ⟨m',i',e',c',rfl,hO,ei⟩;exact⟨_,rfl,⟨m',i',e',c',rfl,hO.lower Z.size⟩,ei⟩)
  |16,_,R=>cases R
  |5,_,_=>clear bP bu bx bE bt dg;obtain rfl:=yP D;have d4:(a.tmps[36]?.getD Θ)=.int .i64 n:=Dc A Y 4;have hH:=Be Y 16;clear A E;refine yO ?_;go_simp;exact X _ _ (by show yl .i64 (IntKind.i64.wrap (ta:Int))=.int .i64 ta;rw[xJ _ ω]) (yN _ _)
  |6,_,_=>clear bP bu bx bE bt dg;obtain rfl:=yP D;have d3:(a.tmps[35]?.getD Θ)=.slice lb 4 lc:=Dc A Y 3;have d5:(a.tmps[37]?.getD Θ)=.int .i64 ta:=Dc A Y 5;have hH:=Be Y 16;clear A E;refine yO ?_;go_simp;exact X _ _ rfl (yN _ _)
  |9,_,_=>clear bP bu bx bE bt dg;obtain rfl:=yP D;have d8:(a.tmps[40]?.getD Θ)=.int .i64 n:=Dc A Y 8;have hH:=Be Y 16;clear A E;refine yO ?_;go_simp;exact X _ _ (by show yl .i64 (Int.tmod (n:Int) 4)=.int .i64 tb;rw[wE ω];exact congrArg _ q2) (yN _ _)
  |11,_,_=>clear bP bu bx bE bt dg;obtain rfl:=yP D;have mb:Fb W1 (a.tmps[42]?.getD Θ) wx fm iJ br1:=Dc A Y 10;have hH:=Be Y 16;clear A E;refine yO ?_;go_simp;exact X _ _ mb (yN _ _)
  |12,_,_=>clear bP bu bx bE bt dg;obtain rfl:=yP D;have jS:Fb W1 (a.tmps[31]?.getD Θ) wx fm iJ br1:=Dc A Y 11;have hH:=Be Y 16;clear A E;obtain⟨m',i',e',c',jS,hO⟩:=jS;refine yO ?_;go_simp;exact X _ _ ⟨_,_,_,_,rfl,hO⟩ (yN _ _)
  |13,_,_|14,_,_=>clear bP bu bx bE bt dg;obtain rfl:=yP D;have jS:Fb W1 (a.tmps[31]?.getD Θ) wx fm iJ br1:=Dc A Y 11;clear A E;obtain⟨m',i',e',c',jS,hO⟩:=jS;refine yO ?_;go_simp;exact X _ _ rfl (yN _ _)
  |15,_,_=>clear bP bu bx bE bt dg;obtain rfl:=yP D;have hH:=Be Y 16;clear A E;refine yO ?_;go_simp;exact X _ _ ⟨_,rfl,Z.size,by rw[Fg ψ,hH];exact yx _ _⟩ (AJ _ _)
  |_+19,hq,_=>omega
 .intro i hi hS o D a wx E ll A Y Z x1 X
  match i,hi,hS with
  |0,_,R|1,_,R|2,_,R|3,_,R|4,_,R|5,_,R|6,_,R|7,_,R|8,_,R|9,_,R|10,_,R|11,_,R|12,_,R|13,_,R|14,_,R|15,_,R|17,_,R|18,_,R=>cases R
  |16,_,_=>
   obtain rfl:=yP D;have xp:KI W1 (ll 16) (a.tmps[9]?.getD Θ) wx fm:=Dc A Y 15;have ij:IM W1 (a.tmps[43]?.getD Θ) wx fm:=Dc A Y 12;clear A E;obtain⟨qb,mH,ko,cz⟩:=xp;rw[Y.1] at cz;replace cz:wx.heap[qb]?=some (.cells #[ι,ι,ι,ι] 28 (0,0)):=cz;obtain⟨m',i',e',c',ij,hO⟩:=ij;obtain⟨⟨va,vn,vc,rfl⟩,⟨wa,wn,wc,rfl⟩,⟨xa,xn,xc,rfl⟩,⟨ya,yn,yc,rfl⟩⟩:=hO.Dq;obtain⟨c0,md,c2,c3⟩:=AG cz;have fq:=AI cz;have ac:=AA (Ar wx qb (.slice va vn vc) (.slice wa wn wc) (.slice xa xn xc) (.slice ya yn yc));have DX:=AA mH;have Hq:=AA cz;have HO:=AA hO;clear cz hO;refine yO ?_;go_simp;exact X Θ _ trivial (AM Z ac ko Z.size) (λj jF jE lL hu=>match j,jE with
    |0,_|1,_|2,_|3,_|4,_|5,_|6,_|7,_|8,_|9,_|13,_|14,_|16,_|17,_|18,_=>hu
    |10,_|11,_=>Fb.yV hu ac Hq.u
    |12,_=>IM.yV hu ac Hq.u
    |15,_=>⟨qb,DX.u,ko,by rw[Gh];exact⟨_,_,_,_,DF Hq.u,HO.yV ac Hq⟩⟩
    |_+19,hq=>absurd hq ω)
  |_+19,hq,_=>omega
 intro vs wx ll ej hR Z
 have lm:KI W1 (ll 16) (vs 15) wx fm:=Bh hR 15;clear hR;simp only[DV,Bo,yL,yI,yJ,yH];simp;generalize vs 15=z15 at lm ⊢;obtain⟨qb,rfl,ko,cz⟩:=lm;rw[ej 16 ψ,if_pos rfl] at cz;obtain⟨m',i',e',c',fo,oo⟩:=cz;clear ej k0 k1 k2 k3 k4 k5 k6 DL;obtain⟨⟨va,vn,vc,rfl⟩,⟨wa,wn,wc,rfl⟩,⟨xa,xn,xc,rfl⟩,⟨ya,yn,yc,rfl⟩⟩:=oo.Dq;obtain⟨c0,md,c2,c3⟩:=AG fo;have C4:=AA (C4 _ _ _ _ _ oo.rd);have HG:=AA Z;have BC:=AA fo;clear Z fo oo;go_wp2_with fail;refine C4.mono ?_;rintro r w5 ⟨m2,i2,e2,He,rfl,O2,b5⟩;obtain⟨⟨mB,mz,bx,rfl⟩,⟨nD,nG,nA,rfl⟩,⟨oH,oB,oE,rfl⟩,⟨nv,nk,nq,rfl⟩⟩:=O2.Dq;clear C4 c0 md c2 c3;have Q5:=AB BC b5;have fq:=AI Q5;obtain⟨z0,z1,z2,z3⟩:=AG Q5;have G6:=Ar w5 qb (.slice mB mz bx) (.slice nD nG nA) (.slice oH oB oE) (.slice nv nk nq);have I6:=((fb.below HG.u).below b5).kfar Q5 G6;have N5:=AB (AB HN HG.u) b5;have N6:=At N5 G6 (Bz Q5 N5);have K6:=O2.yV G6 Q5;have S6:=((HO.below HG.u).below b5).yV G6 Q5;have l5:lo<=w5.heap.size:=yM bw (yM mi (yM HG.size b5.size));have B6:=AM ((cg.trans (HG.mono (yM bw mi.u))).trans (b5.mono (yM bw (yM mi HG.size)))) G6 (by have:=bw.u;have:=mi.u;omega) l5;have Q6:=DF (m':=.slice mB mz bx) (i':=.slice nD nG nA) (e':=.slice oH oB oE) (c':=.slice nv nk nq) Q5;have l6:=yM l5 G6.size;have T6:=((HT.below HG.u).below b5).other G6 Q5 ψ;have qg:GP (.slice mB mz bx) (.slice ua un uc):=λj O z=>by obtain⟨us,r1⟩:=O2.1;have e1:=(yC r1.1 j O).1;have e2:=(yC HO.1 j z).2;have e3:=HG.size;omega
 have qf:GP (.slice gm 12 cm) (.slice ua un uc):=λj O z=>by obtain⟨us,r1⟩:=HI.own.ker.1;have e1:=(yC r1.1 j O).2;have e2:=(yC HO.1 j z).1;omega
 generalize hW6:(((w5.setCell _ _).setCell _ _).setCell _ _).setCell _ _=W6 at G6 I6 N6 K6 S6 B6 Q6 l6 T6;have I7:=I6.putSw (S6.lower bw.u) qf;have G7:=Ak W6 g 4 (.slice ua un uc);have K7:=K6.yV G7 I6.yU;have N7:=At N6 G7 ω;have Q7:=At Q6 G7 (Bz I6.yU Q6);have B7:=AM B6 G7 I6.yT l6;have l7:=yM l6 G7.size;have T7:=T6.fresh G7 (by have:=Hg.u;omega);obtain⟨_,_,_,_,a4,_⟩:=I6.cells;have fa:=AI I6.yU;generalize hW7:W6.setCell _ _=W7 at G7 I7 K7 N7 Q7 B7 l7 T7;have I8:=I7.putK (K7.lower (yM bw (yM mi HG.size))) qg;have G8:=Ar W7 g (.slice mB mz bx) (.slice nD nG nA) (.slice oH oB oE) (.slice nv nk nq);have N8:=At N7 G8 ω;have B8:=AM B7 G8 I7.yT l7;have l8:=yM l7 G8.size;have T8:=T7.fresh G8 (by have:=Hg.u;omega);obtain⟨d0,d1,d2,d3⟩:=AG Q7;obtain⟨t0,t1,t2,t3,_⟩:=I7.cells;have ft:=AI I7.yU;generalize hW8:(((W7.setCell _ _).setCell _ _).setCell _ _).setCell _ _=W8 at I8 G8 N8 B8 l8 T8;obtain⟨_,_,_,_,_,_,s6,_,_⟩:=I8.cells;obtain⟨nN,f8,p0,p1,p2⟩:=I8.pg (n:=n) kD.u;have I9:=I8.zA (n:=n) ld.symm kD ⟨2,(sl:Int),false⟩;have N9:=At N8 I9.2.1 (by obtain⟨cu,gp⟩:=A7 I8.own.pgs gq rfl;exact(Bz gp N8));have B9:=AM B8 I9.2.1 I9.2.2 l8;have l9:=yM l8 I9.2.1.size;obtain⟨mI,fx⟩:=A7 I8.own.pgs gq rfl;have T9:=T8.other I9.2.1 fx ψ;have I9:=I9.1;generalize hW9:((W8.setCell _ _).setCell _ _).setCell _ _=W9 at I9 N9 B9 l9 T9;have oX:=AA T9;have jm:=AA (Bu N9 I9.own);obtain⟨x0,K,x2,x3,x4,x5,x6,x7,x8⟩:=I9.cells;obtain⟨r0,r1,r2,r3,r4,r5,r6,r7,r8⟩:=AC N9;have fr:=AI N9;have o7:=AA B9;have oT:=AA l9;clear T6 T7 T8 T9 I6 N5 N6 K6 S6 B6 Q6 l6 I7 K7 N7 Q7 B7 l7 I8 N8 B8 l8 I9 N9 B9 l9 qg qf O2 b5 Q5 G6 G7 G8 l5;go_wp2_with fail;obtain⟨kZ,jH,iR⟩:=jm.u;have ip:=AM o7 iR (by have:=HI.yT;omega) oT.u;have kY:=oX.fresh iR (by have:=Hg.u;omega);unfold DO at kZ jH ip kY;exact yB (v:=.agg #[_,_,_,_,_,_,_,_,_]) (by simp[results,Tryz.results203,go_sem,AC kZ]) rfl ⟨⟨_,_,_,_,_,rfl,jH⟩,ip,kY⟩
structure Xl(lo g qk:Nat)(w:Ω)(m i e c s l q:Φ)(P:AP)(mk ik ek ck:Φ)(kc:AR):Prop where
 box:w.heap[g]?=some (.cells #[m,i,e,c,s,l,q,P.FU,P.VO] 32 (0,0))
 res:w.heap[g+1]?=some (.cells #[ι,ι,ι,ι,ι,ι,ι,θ,θ] 32 (0,0))
 kb:w.heap[qk]?=some (.cells #[mk,ik,ek,ck] 28 (0,0))
 own:Es lo w mk ik ek ck s l q {P with V0:=kc}
 yT:lo<=g/\lo<=qk/\lo<=w.heap.size
section
variable {lo g qk:Nat} {w w1:Ω} {m i e c s l q mk ik ek ck:Φ} {P:AP} {kc:AR}
theorem Xl.below(h:Xl lo g qk w m i e c s l q P mk ik ek ck kc)(V:Γ w w w1):Xl lo g qk w1 m i e c s l q P mk ik ek ck kc:=
 ⟨AB h.box V,AB h.res V,AB h.kb V,h.own.below V,h.yT.1,h.yT.2.1,yM h.yT.2.2 V.size⟩
theorem Xl.put{m' i' e' c':Φ}{k':AR}(h:Xl lo g qk w m i e c s l q P mk ik ek ck kc)(V:Γ w w w1)(h1:Du w w1 m' i' e' c' k'):Xl lo g qk (Fs w1 qk m' i' e' c') m i e c s l q P m' i' e' c' k':=by
 have h':=h.below V;have gr:=Ar w1 qk m' i' e' c';have F:=h'.own.yV gr h'.kb;refine⟨At h'.box gr (Bz h'.kb h'.box),At h'.res gr (Bz h'.kb h'.res),DF h'.kb,⟨(h1.yV gr h'.kb).lower h.yT.2.2,F.swp,F.low,F.pgs,λj O z=>?_⟩,h.yT.1,h.yT.2.1,yM h'.yT.2.2 gr.size⟩;obtain⟨us,r1⟩:=h1.1;obtain⟨vs,r2⟩:=h.own.swp;have e1:=(yC r1.1 j O).1;have e2:=(yC r2.1 j z).2;omega
theorem Xl.swap{gs f4 sl:Nat}{v':Φ}{r:List Int}(h:Xl lo g qk w m i e c (.slice gs 16 f4) l q P mk ik ek ck kc)(hl:P.swap.length=16)(V:Γ w w w1)(hO:AE w w1 v' r)(R:sl<16):
 Xl lo g qk (w1.setCell (gs,sl) v') m i e c (.slice gs 16 f4) l q {P with swap:=P.swap.set sl r} mk ik ek ck kc/\w1.grownBy (w1.setCell (gs,sl) v') (some gs)/\lo<=gs:=by
 obtain⟨vs,cx⟩:=h.own.swp;replace cx:Ay lo w (.slice gs 16 f4) vs P.swap:=cx;have hX:vs.length=16:=by rw[cx.2.1.1];exact hl
 have hs:=cx.set (B:=w.heap.size) (j:=sl) (r:=r) (v':=v') V hO (yF _) h.yT.2.2 hX.symm ω;have h':=h.below V;obtain⟨cu,gp⟩:=A7 (cx.below V).1 gs rfl;obtain⟨B,hglo,⟨⟨⟨ms,k1,k2,k3⟩,k4,⟨ps,k5,k6,k7⟩,k8⟩,⟨us,hs'⟩,hlw,hp,lU⟩⟩:True/\lo<=g/\Es lo w1 mk ik ek ck (.slice gs 16 f4) l q {P with V0:=kc}:=⟨trivial,h'.yT.1,h'.own⟩;have L:=hs.2;refine⟨⟨At h'.box L (Bz gp h'.box),At h'.res L (Bz gp h'.res),At h'.kb L (Bz gp h'.kb),⟨⟨⟨ms,Au k1 L lU.ne,k2.mono λ_ _ x=>Au x L (BI x hs'.1 ψ).ne,k3⟩,Au k4 L (BI k4 hs'.1 ψ).ne,⟨ps,Au k5 L (BI k5 hs'.1 ψ).ne,k6.mono λ_ _ x=>⟨Au x.1 L (BI x.1 hs'.1 ψ).ne,x.2⟩,k7⟩,Au k8 L (BI k8 hs'.1 ψ).ne⟩,⟨_,hs.1⟩,Au hlw L (BI hlw hs'.1 ψ).ne,Au hp L (BI hp hs'.1 ψ).ne,lU⟩,h.yT.1,h.yT.2.1,yM h'.yT.2.2 L.size⟩,L,(yC cx.1 gs rfl).1⟩
theorem Xl.back(h:Xl lo g qk w m i e c s l q P mk ik ek ck kc):ID lo g (Fs w g mk ik ek ck) mk ik ek ck s l q {P with V0:=kc}/\(Fs w g mk ik ek ck).heap[g+1]?=some (.cells #[ι,ι,ι,ι,ι,ι,ι,θ,θ] 32 (0,0))/\w.grownBy (Fs w g mk ik ek ck) (some g):=by have gr:=Ar w g mk ik ek ck;exact⟨⟨KN h.box,h.yT.1,h.own.yV gr h.box⟩,At h.res gr ω,gr⟩
end
def WR(lo:Nat)(w:Ω)(s l q:Φ)(Q:AP)(r:Ending)(w':Ω):Prop:=(∃m i e c,r=.returned (.tuple #[AN m i e c s l q Q.FU Q.VO,τ])/\Es lo w' m i e c s l q Q)/\Γ lo w w'/\Fm w w'
theorem co{q:Φ}{Q':AP}(h:Q=Q')(h1:Es lo W m i e c s l q Q')(B:Γ lo w W)(T:Fm w W):WR lo w s l q Q (.returned (.tuple #[AN m i e c s l q Q'.FU Q'.VO,τ])) W:=by subst h;exact⟨⟨_,_,_,_,rfl,h1⟩,B,T⟩
theorem aL (h:Es lo w mv iv ev cv sv lv qv P)(ay:lo<=w.heap.size)(hP:Dd P)(hn:n<16)(hw:(AD P.Xs n).w≠1)(js:0<=An P.V0.Zh):
 Ξ prog 204 #[AN mv iv ev cv sv lv qv P.FU P.VO,.int .i64 n] w (WR lo w sv lv qv (Qv P n).1):=by
 obtain⟨k1,fr,g7,jG,pJ⟩:∃k1 fr,Ad P.V0 (Ah 1 0 0 0)=(k1,fr,0)/\(0<=fr/\fr<=11)/\DZ k1:=by obtain⟨g1,_,_⟩:=GW (Zh:=P.V0.Zh) ω;rw[hP.k.len] at g1;have hk:=GG (kind:=1) (a:=0) (b:=0) (c:=0) hP.k;have e:=NL (k:=P.V0) hP.may js (a:=0) (b:=0) (c:=0);rw[e] at hk;exact⟨_,_,e,⟨js,ω⟩,hk⟩
 have pZ:=YP (n:=n) g7;generalize gi:(Qv P n).1=QQ_;obtain⟨ta,ha⟩:∃a,a=n/4:=⟨_,rfl⟩
 obtain⟨tb,V⟩:∃b,b=n%4:=⟨_,rfl⟩
 obtain⟨la,hla⟩:∃la,la=Bd P.low ta:=⟨_,rfl⟩
 have q1:(n:Int)/4=(ta:Int):=ω;have q2:(n:Int)%4=(tb:Int):=ω;have oj:ta<4:=ω;have vu:(ta:Int)<4:=ω;have kU:(n:Int)<16:=ω;rw[pZ] at gi;unfold JU at gi;rw[<-ha,<-V,<-hla] at gi;replace gi:=gi.symm;generalize hpx:AD P.Xs n=x at gi hw;obtain⟨pw,pa,pu⟩:=x;dsimp only at gi hw;unfold WR AN;obtain⟨N0,N1,ar,bk⟩:=LG w (.cells #[mv,iv,ev,cv,sv,lv,qv,P.FU,P.VO] 32) (.cells #[ι,ι,ι,ι,ι,ι,ι,θ,θ] 32);have bL:=(⟨N0,ay,h.below ar⟩:ID lo w.heap.size _ mv iv ev cv sv lv qv P);obtain⟨⟨⟨ma,mn,mc,rfl⟩,⟨ia,iN,ic,rfl⟩,⟨ea,en,ec,rfl⟩,⟨ka,kn,kc,rfl⟩⟩,_,⟨lw,ls,lc,rfl⟩,_⟩:=h.Dq;obtain⟨kO,cx⟩:=h.swp;have hX:kO.length=16:=by rw[cx.2.1.1];exact hP.zN
 obtain⟨gs,sc,e1,_,_,_,_,_⟩:=cx.1.zW ω;rw[hX] at e1;subst e1;obtain⟨gq,qc,rfl,j1,ks,n5,nd,_⟩:=bL.page (n:=0) (by rw[hP.zY];omega);rw[hP.zY] at h bL N0 N1 ar bk j1 ⊢;have C1:=GT bL.own.ker.rd hP.k 1 0 0 0 ψ;unfold LT at C1;rw[g7] at C1;dsimp only at C1;rw[show((0:Int)==0)=true from rfl] at C1;obtain⟨k0,rk,k2,k3,_⟩:=bL.cells;have jI:=AA bk;have kK:=AA N1;have HI:=AA bL;have jV:=AA ay;have bw:=AA (yM ay ar.size);have bD:=AA (ar.mono ay);have jB:=AA ((Fm.refl w).below ar);have HP:=AA hP;have mq:=AA jG;have o5:=AA pJ;have kD:=AA (show n<P.Xs.length by rw[hP.zY];exact hn);have ld:=AA hP.zY;have mo:=AA hP.zD;have Cf:=AA hla.symm;have mM:=AA hpx;have mP:=AA gi;have DE:=AA C1;clear h ay hP jG pJ hla hpx gi bL N0 N1 ar bk cx hX C1 g7 pZ j1 ha V js;go_in;go_wp2_with fail;generalize(w.alloc _).alloc _=W0 at*;generalize L:w.heap.size=g at*;have Hg:=AA L;clear L;refine DE.mono ?_;rintro r w1 ⟨m1,i1,e1,c1,rfl,O1,b1⟩;obtain⟨⟨mC,mA,bu,rfl⟩,⟨nE,nH,nB,rfl⟩,⟨oI,oC,oF,rfl⟩,⟨ny,nn,nt,rfl⟩⟩:=O1.Dq;have I1:=HI.below b1;have bA:=AJ w1 (.cells #[.slice mC mA bu,.slice nE nH nB,.slice oI oC oF,.slice ny nn nt] 28);have I2:=I1.below bA;obtain⟨_,_,_,_,_,_,x6,_,_⟩:=I2.cells;obtain⟨cz,f2,p0,p1,p2⟩:=I2.pg (n:=n) kD.u;rw[mM.u] at p0 p1 p2;dsimp only at p0 p1 p2;obtain⟨NA,NB,oP,_⟩:=LG w1 (.cells #[.slice mC mA bu,.slice nE nH nB,.slice oI oC oF,.slice ny nn nt] 28) (.cells #[pw,pa,pu] 87);have jX:=b1.trans (oP.mono b1.size);have lU:GP (.slice mC mA bu) (.slice gs 16 sc):=λj O z=>by obtain⟨us,r1⟩:=O1.1;obtain⟨vs,r2⟩:=HI.own.swp;have e1:=(yC r1.1 j O).1;have e2:=(yC r2.1 j z).2;omega
 have I4:=AA (⟨AB HI.yU jX,AB kK jX,NA,⟨(O1.below oP).lower bw.u,⟨_,HI.own.swp.choose_spec.below jX⟩,AE.below HI.own.low jX,AQ.below HI.own.pgs jX,lU⟩,HI.yT,yM bw b1.size,yM bw jX.size⟩:Xl lo g w1 _ _ _ _ _ _ _ _ P _ _ _ _ k1);have iT:=AA (bD.trans (jX.mono bw.u));have mO:=AA (jB.below jX);have mQ:=AA NB;clear I1 bA I2 NA NB oP jX lU O1 b1 k0 rk k2 k3;go_wp2_with fail;generalize(w1.alloc _).alloc _=W3 at*;generalize w1.heap.size=qk at*;obtain⟨qx,mE⟩:∃qx,qx=qk+1:=⟨_,rfl⟩
 rw[<-mE] at mQ ⊢;clear mE x6 p0 p1 p2 f2 cz;obtain⟨mk,ik,ek,ck,I4⟩:∃mk ik ek ck,eh (Xl lo g qk W3 (.slice ma mn mc) (.slice ia iN ic) (.slice ea en ec) (.slice ka kn kc) (.slice gs 16 sc) (.slice lw ls lc) (.slice gq 16 qc) P mk ik ek ck k1):=⟨_,_,_,_,I4⟩
 by_cases jf:pw=2
 focus
  subst jf;have gi:=mP.u;rw[if_pos rfl,if_pos rfl] at gi;obtain⟨sl,iu,it,cy⟩:∃sl:Nat,pa=(sl:Int)/\sl<16/\EP (AK P.swap sl)=true:=by
   rcases HP.Xs n (by have:=kD.u;have:=ld.u;omega) with⟨x,_⟩|⟨x,_⟩|⟨K,x2,x3,x4,x5⟩
   .rw[mM.u] at x;exact absurd x (ψ:¬(2:Int)=0)
   .rw[mM.u] at x;exact absurd x (ψ:¬(2:Int)=1)
   rw[mM.u] at x2 x3
   refine⟨pa.toNat,by have:=x2.1;simp only at this;omega,by have:=x2.2;simp only at this;omega,?_⟩
   rcases HP.zF pa.toNat (by have:=x2.2;simp only at this;omega) with x|x
   .exact absurd x x3
   exact x
  subst iu;rw[yq] at gi;have HQ:=AA gi;have iS:=AA (BB.1 cy);have rz:(sl:Int)<16:=ω;clear gi mP cy;go_loopw [10] (λix wr=>∃j:Nat,j<=4/\ix=.int .i64 j/\(∃mk ik ek ck,Xl lo g qk wr (.slice ma mn mc) (.slice ia iN ic) (.slice ea en ec) (.slice ka kn kc) (.slice gs 16 sc) (.slice lw ls lc) (.slice gq 16 qc) P mk ik ek ck (IK k1 fr (AK P.swap sl) j))/\wr.heap[qx]?=some (.cells #[.int .i64 2,sl,pu] 87 (0,0))/\Γ lo w wr/\Fm w wr) (λix _=>4 - (intOf ix).toNat)
  case atStart=>exact⟨0,ω,rfl,⟨_,_,_,_,I4.u⟩,mQ.u,iT.u,mO.u⟩
  case' round=>
   clear I4 mQ iT mO;obtain⟨j,hj,rfl,⟨mk,ik,ek,ck,I5⟩,kQ,B5,T5⟩:=hrel;obtain⟨⟨⟨ua,un,uc,rfl⟩,⟨va,vn,vc,rfl⟩,⟨ya,yn,yc,rfl⟩,⟨za,zn,zc,rfl⟩⟩,_,_⟩:=I5.own.Dq;obtain⟨kO,cx⟩:=I5.own.swp;replace cx:Ay lo wr (.slice gs 16 sc) kO P.swap:=cx;have hX:kO.length=16:=by rw[cx.2.1.1];exact HP.zN
   obtain⟨gr,rc,hu,je,_,_⟩:=cx.row (f:=sl) (by rw[HP.zN];exact it) (by rw[iS.1];decide);rw[iS.1] at hu je;have DS:=AQ.zJ Eh (by rw[hX];exact cx.1) hu 0 _ rfl;rw[wZ,xT] at DS;obtain⟨_,_,_,_,x4,_⟩:=AC I5.box;obtain⟨my,nc,_⟩:=Gw kQ;have mu:=AA I5;have oR:=AA kQ;have fl:=AA B5;have qs:=AA T5;clear T5
   by_cases ad:j<4
   .have jF:(j:Int)<4:=ω
    have DW:wr.cell? (gr,j)=some (.int .i64 ((AK P.swap sl).getD j 0)):=by have:=xO (show wr.ownsRow lo 3 1 (.slice gr 4 rc) 4 ((AK P.swap sl).map (yl .i64)) by have:=je;unfold AE at this;rwa [iS.1] at this) j ad;rw[this,xq,A6 (d:=0) (by rw[iS.1];exact ad)];rfl
    have pA:(AK P.swap sl).getD j 0<=9223372036854775807:=by have:=(iS.2 _ (Di (d:=0) (show j<(AK P.swap sl).length by rw[iS.1];exact ad))).2;omega
    have oS:=AA (Lo (k:=k1) (f:=fr) (ws:=AK P.swap sl) (j:=j));have RK:=I5.own.ker.rd;have CM:=λW (hW:Γ wr wr W)=>GT (RK.below hW) (Ln o5 (f:=fr) (ws:=AK P.swap sl) j) 3 fr (j:Int) ((AK P.swap sl).getD j 0) pA
    have ng:g≠qk:=Bz I5.box I5.kb;have nx:qx≠qk:=Bz kQ I5.kb;have ns:gs≠qk:=by obtain⟨cu,gp⟩:=A7 cx.1 gs rfl;exact Bz gp I5.kb
    have nr:gr≠qk:=by obtain⟨cu,gp⟩:=A7 je gr rfl;exact Bz gp I5.kb
    have n8:=AU I5.box;have mE:=AU kQ;have nZ:=(yC cx.1 gs rfl).2;have n4:=(yC je gr rfl).2;have fo:=I5.kb;have gd:=AU fo;obtain⟨n0,n1,n2,n3⟩:=AG fo;generalize(AK P.swap sl).getD j 0=wd at*;generalize Ad (IK k1 fr (AK P.swap sl) j) (Ah 3 fr (j:Int) wd)=res1 at CM oS;obtain⟨fm,iJ,qX⟩:=res1;unfold LT at CM;dsimp only at CM oS;generalize(qX==0)=br1 at CM;replace CM:=AA CM;clear RK pA cx hu je hX I5 kQ B5 hj;go_wp2_with fail;refine Db 18 86 (λix=>ix==17) [.a #[.slice ua un uc,.slice va vn vc,.slice ya yn yc,.slice za zn zc],.i fr,.i ((j:Int)),.p g 4,.s gs 16 sc,.p qx 1,.i ((sl:Int)),.p gs sl,.s gr 4 rc,.i ((j:Int)),.p gr j,.i wd,.z,.z,.z,.i iJ,.b br1,.z] (λll ix vv ww=>match ix with
     |12|13=>Fb wr vv ww fm iJ br1
     |14=>IM wr vv ww fm
     |_=>True) (λll ww=>GB wr (qk) fm (ll 17) ww) ?_ ?_ ?_ ?_ ?_ ?_
    .exact Ap (yN _ _) 1
    .intro j hj ll i vv wz hF hi hS kA op cC hz
     match j,hj with
     |12,_|13,_=>exact(Fb.below hz cC)
     |14,_=>exact(IM.below hz cC)
     |0,_|1,_|2,_|3,_|4,_|5,_|6,_|7,_|8,_|9,_|10,_|11,_|15,_|16,_|17,_=>exact hz
     |_+18,hq=>omega
    .intro ll i wz hF hi hS kA cC L
     show GB _ _ _ (Hz ll i 17) _
     rw[Fg (by rintro rfl;cases hS)];exact GB.grow L cC
    .intro i hi hS o D a wx E ll A Y Z x1 X
     match i,hi,hS with
     |0,_,_=>have jJ:=Be Y 17;have bP:=(show wx.cell? qk=some (.slice ua un uc) from GB.cell Z (by cases hx:ll 17 with|false=>rfl|true=>exact absurd (Y.2.2 12 0 (Y.2.2 13 12 (Y.2.2 14 13 (Y.2.2 17 14 (hx) φ) φ) φ) φ) (by rw[Y.1];decide)) gd n0);have bu:=(show wx.cell? (qk,1)=some (.slice va vn vc) from GB.cell Z (by cases hx:ll 17 with|false=>rfl|true=>exact absurd (Y.2.2 12 0 (Y.2.2 13 12 (Y.2.2 14 13 (Y.2.2 17 14 (hx) φ) φ) φ) φ) (by rw[Y.1];decide)) gd n1);have bx:=(show wx.cell? (qk,2)=some (.slice ya yn yc) from GB.cell Z (by cases hx:ll 17 with|false=>rfl|true=>exact absurd (Y.2.2 12 0 (Y.2.2 13 12 (Y.2.2 14 13 (Y.2.2 17 14 (hx) φ) φ) φ) φ) (by rw[Y.1];decide)) gd n2);have bE:=(show wx.cell? (qk,3)=some (.slice za zn zc) from GB.cell Z (by cases hx:ll 17 with|false=>rfl|true=>exact absurd (Y.2.2 12 0 (Y.2.2 13 12 (Y.2.2 14 13 (Y.2.2 17 14 (hx) φ) φ) φ) φ) (by rw[Y.1];decide)) gd n3);exact Lb D X E A Y (hl:=P7 ‹_› ‹_› ‹_› ‹_›)
     |1,_,_|2,_,_|3,_,_|5,_,_|9,_,_=>exact Xn D X E A Y
     |4,_,_=>have jJ:=Be Y 17;have bt:=(show wx.cell? (g,4)=some (.slice gs 16 sc) from GB.other Z n8 ng x4);exact Lb D X E A Y (hl:=GZ ‹_›)
     |6,_,_=>have jJ:=Be Y 17;have dg:=(show wx.cell? (qx,1)=some (.int .i64 sl) from GB.other Z mE nx nc);exact Lb D X E A Y (hl:=GO ‹_›)
     |8,_,_=>have jJ:=Be Y 17;have jZ:=(show wx.cell? (gs,sl)=some (.slice gr 4 rc) from GB.other Z nZ ns DS);exact Lb D X E A Y (hl:=K5 ‹_›)
     |11,_,_=>have jJ:=Be Y 17;have kP:=(show wx.cell? (gr,j)=some (.int .i64 wd) from GB.other Z n4 nr DW);exact Lb D X E A Y (hl:=GO ‹_›)
     |17,_,R=>cases R
     |7,_,_=>obtain rfl:=yP D;have d4:(a.tmps[40]?.getD Θ)=.slice gs 16 sc:=Dc A Y 4;have d6:(a.tmps[42]?.getD Θ)=.int .i64 sl:=Dc A Y 6;have jJ:=Be Y 17;clear A E;refine yO ?_;go_simp;exact X _ _ rfl (yN _ _)
     |10,_,_=>obtain rfl:=yP D;have d8:(a.tmps[44]?.getD Θ)=.slice gr 4 rc:=Dc A Y 8;have d9:(a.tmps[45]?.getD Θ)=.int .i64 j:=Dc A Y 9;have jJ:=Be Y 17;clear A E;refine yO ?_;go_simp;exact X _ _ rfl (yN _ _)
     |12,_,_=>
      obtain rfl:=yP D;have d0:(a.tmps[36]?.getD Θ)=.agg #[.slice ua un uc,.slice va vn vc,.slice ya yn yc,.slice za zn zc]:=Dc A Y 0;have d1:(a.tmps[37]?.getD Θ)=.int .i64 fr:=Dc A Y 1;have d2:(a.tmps[38]?.getD Θ)=.int .i64 j:=Dc A Y 2;have jS:(a.tmps[47]?.getD Θ)=.int .i64 wd:=Dc A Y 11;have jJ:=Be Y 17;clear A E;refine yO ?_;go_simp;have j7:Γ wr wr wx:=by
       rw[show ll 17=false from(by cases hx:ll 17 with|false=>rfl|true=>exact absurd (Y.2.2 13 12 (Y.2.2 14 13 (Y.2.2 17 14 (hx) φ) φ) φ) (by rw[Y.1];decide))] at Z;exact Z
      refine(CM _ j7).mono ?_;rintro r w_ ⟨m',i',e',c',rfl,hO,ei⟩;exact X _ _ ⟨m',i',e',c',rfl,hO.lower j7.size⟩ ei
     |13,_,_=>obtain rfl:=yP D;have ij:Fb wr (a.tmps[48]?.getD Θ) wx fm iJ br1:=Dc A Y 12;have jJ:=Be Y 17;clear A E;refine yO ?_;go_simp;exact X _ _ ij (yN _ _)
     |14,_,_=>obtain rfl:=yP D;have j8:Fb wr (a.tmps[35]?.getD Θ) wx fm iJ br1:=Dc A Y 13;have jJ:=Be Y 17;clear A E;obtain⟨m',i',e',c',j8,hO⟩:=j8;refine yO ?_;go_simp;exact X _ _ ⟨_,_,_,_,rfl,hO⟩ (yN _ _)
     |15,_,_|16,_,_=>obtain rfl:=yP D;have j8:Fb wr (a.tmps[35]?.getD Θ) wx fm iJ br1:=Dc A Y 13;clear A E;obtain⟨m',i',e',c',j8,hO⟩:=j8;refine yO ?_;go_simp;exact X _ _ rfl (yN _ _)
     |_+18,hq,_=>omega
    .intro i hi hS o D a wx E ll A Y Z x1 X
     match i,hi,hS with
     |0,_,R|1,_,R|2,_,R|3,_,R|4,_,R|5,_,R|6,_,R|7,_,R|8,_,R|9,_,R|10,_,R|11,_,R|12,_,R|13,_,R|14,_,R|15,_,R|16,_,R=>cases R
     |17,_,_=>
      obtain rfl:=yP D;have e6:a.tmps[6]?.getD Θ=.pointer qk:=eg (No E 6);have kW:IM wr (a.tmps[49]?.getD Θ) wx fm:=Dc A Y 14;clear A E;rw[Y.1] at Z;replace Z:Γ wr wr wx:=Z;obtain⟨m',i',e',c',kW,hO⟩:=kW;obtain⟨⟨va,vn,vc,rfl⟩,⟨wa,wn,wc,rfl⟩,⟨xa,xn,xc,rfl⟩,⟨ya,yn,yc,rfl⟩⟩:=hO.Dq;have cz:=AB fo Z;obtain⟨c0,md,c2,c3⟩:=AG cz;have fq:=AI cz;have ac:=AA (Ar wx (qk) (.slice va vn vc) (.slice wa wn wc) (.slice xa xn xc) (.slice ya yn yc));have Hq:=AA cz;have HO:=AA hO;clear cz hO;refine yO ?_;go_simp;exact X Θ _ trivial (by show GB _ _ _ (Hz ll 17 17) _;rw[Gh];exact⟨wx,_,_,_,_,Z,HO.u,yN _ _⟩) (λj jF jE lL hu=>match j,jE with
       |0,_|1,_|2,_|3,_|4,_|5,_|6,_|7,_|8,_|9,_|10,_|11,_|15,_|16,_=>hu
       |12,_|13,_=>Fb.yV hu ac Hq.u
       |14,_=>IM.yV hu ac Hq.u
       |17,_=>absurd rfl jF
       |_+18,hq=>absurd hq ω)
     |_+18,hq,_=>omega
    intro vs wx ll ej hR Z
    have lm:(vs 15)=.int .i64 iJ:=Bh hR 15;clear hR;simp only[DV,Bo,yL,yI,yJ,yH,lm];simp;clear lm;rw[ej 17 ψ] at Z;obtain⟨wz,m3,i3,e3,c3,cp,hO,ir⟩:=Z;have bX:Γ (Fs wz qk m3 i3 e3 c3).heap.size (Fs wz qk m3 i3 e3 c3) wx:=by simpa[Fs] using ir
    have I7:=AA ((mu.put cp hO).below bX);have l6:=mu.yT.2.2;have B7:=AA (fl.trans ((AM (cp.mono l6) (Ar wz qk m3 i3 e3 c3) mu.yT.2.1 (yM l6 cp.size):Γ lo wr _).trans (bX.mono (yM l6 (yM cp.size (Ar wz qk m3 i3 e3 c3).size)))));have X7:=AA (AB (At (AB oR cp) (Ar wz qk m3 i3 e3 c3) nx.symm) bX);have T7:=AA (((qs.below cp).other (Ar wz qk m3 i3 e3 c3) (AB fo cp) ψ).below bX);clear ej cp ir bX hO fo gd n0 n1 n2 n3 CM mu oR fl x4 my nc DS DW;go_wp2;go_roundw;exact⟨j+1,ω,ξ,⟨_,_,_,_,by rw[oS.u];exact I7.u⟩,X7.u,B7.u,T7.u⟩;simp[intOf];omega
   obtain rfl:j=4:=ω;rw[show((4:Nat):Int)=4 from rfl];have HK:=I5.swap (r:=[]) HP.zN (AJ wr (.cells #[] 3)) (GK wr) it;have I6:=AA HK.1;have B6:=AA (AM (B5.trans ((AJ wr (.cells #[] 3)).mono I5.yT.2.2)) HK.2.1 HK.2.2 (yM I5.yT.2.2 (AJ wr (.cells #[] 3)).size));have qB:=AA (Ln o5 (f:=fr) (ws:=AK P.swap sl) 4);have D4:=((AJ wr (.cells #[] 3)).cell (yK _ _ DS)).trans DS;have F4:=xU (show(wr.alloc (.cells #[] 3)).ownsRow lo 29 1 (.slice gs 16 sc) 16 kO by have:=(cx.below (AJ wr (.cells #[] 3))).1;unfold AQ at this;rwa [IU,hX] at this) sl;obtain⟨mI,fx⟩:=A7 (cx.below (AJ wr (.cells #[] 3))).1 gs rfl;have T6:=AA ((qs.below (AJ wr (.cells #[] 3))).other HK.2.1 fx ψ);generalize hW6:World.setCell _ _ _=W6 at I6 B6 T6;clear HK cx hu je hX I5 kQ B5 hj mu oR fl;go_wp2_with fail;clear D4 F4 DS x4 my nc hW6;have hQ:QQ_= {P with V0:=(Ad (IK k1 fr (AK P.swap sl) 4) (Ah 6 la (tb:Int) (Ip fr))).1,swap:=P.swap.set sl [],Xs:=P.Xs.set n ⟨1,fr,true⟩}:=HQ.u;clear HQ;obtain⟨mk,ik,ek,ck,I6⟩:∃mk ik ek ck,eh (Xl lo g qk W6 (.slice ma mn mc) (.slice ia iN ic) (.slice ea en ec) (.slice ka kn kc) (.slice gs 16 sc) (.slice lw ls lc) (.slice gq 16 qc) ⟨P.V0,P.swap.set sl [],P.low,P.Xs,P.FU,P.VO⟩ mk ik ek ck (IK k1 fr (AK P.swap sl) 4)):=⟨_,_,_,_,I6⟩
   generalize IK k1 fr (AK P.swap sl) 4=K2 at*;generalize P.swap.set sl []=S2 at*
 rotate_left
 focus
  have gi:=mP.u;rw[if_neg jf,if_neg jf] at gi;have t2:(pw==2)=false:=by simp[jf]
  have HQ:=AA gi;have qB:=o5;have I6:=I4;have B6:=iT;have T6:=mO;obtain⟨my,_,_⟩:=Gw mQ.u;clear gi mP jf I4 iT mO;refine wp_loop_rounds 1 ?_;rw[rounds_succ];go_wp2_with fail;obtain⟨W6,rfl⟩:∃W6,W6=W3:=⟨_,rfl⟩
  clear my;have hQ:QQ_= {P with V0:=(Ad (k1) (Ah 6 la (tb:Int) (Ip fr))).1,swap:=P.swap,Xs:=P.Xs.set n ⟨1,fr,true⟩}:=HQ.u;clear HQ;obtain⟨mk,ik,ek,ck,I6⟩:∃mk ik ek ck,eh (Xl lo g qk W6 (.slice ma mn mc) (.slice ia iN ic) (.slice ea en ec) (.slice ka kn kc) (.slice gs 16 sc) (.slice lw ls lc) (.slice gq 16 qc) ⟨P.V0,P.swap,P.low,P.Xs,P.FU,P.VO⟩ mk ik ek ck (k1)):=⟨_,_,_,_,I6⟩
  obtain⟨K2,rfl⟩:∃K2,K2=k1:=⟨_,rfl⟩
  generalize P.swap=S2 at hQ I6
 all_goals
  obtain⟨⟨⟨ua,un,uc,rfl⟩,⟨va,vn,vc,rfl⟩,⟨ya,yn,yc,rfl⟩,⟨za,zn,zc,rfl⟩⟩,_,_⟩:=I6.own.Dq;obtain⟨lb,rf,lY,jD,DL⟩:=KU I6.own.low (j:=ta) (by show ta<P.low.length;rw[mo.u];exact oj);replace lY:xG lw ls lc=.slice lb P.low.length rf:=lY;rw[mo.u] at lY;simp only[Value.slice.injEq] at lY;obtain⟨rfl,rfl,rfl⟩:=lY;replace DL:W6.cell? (lb,ta)=some (.int .i64 (Bd P.low ta)):=DL;rw[Cf.u] at DL;have nl:lb≠qk:=by obtain⟨cu,gp⟩:=A7 I6.own.low lb rfl;exact Bz gp I6.kb
  have ng:g≠qk:=Bz I6.box I6.kb;have n8:=AU I6.box;have fo:=I6.kb;have gd:=AU fo;obtain⟨n0,n1,n2,n3⟩:=AG fo;obtain⟨_,_,_,_,_,x5,_,_,_⟩:=AC I6.box;have he:Ip fr<=9223372036854775807:=by have:=mq.u;unfold Ip;omega
  have CP:=AA (λW=>M5 fr W mq.1 mq.2);have RK:Ns W6 _ _ _ _ (K2):=I6.own.ker.rd;have CM:=λW (hW:Γ W6 W6 W)=>GT (RK.below hW) qB 6 la (tb:Int) (Ip fr) he
  generalize Ip fr=en_ at he CP CM hQ;generalize Ad (K2) (Ah 6 la (tb:Int) en_)=res2 at CM hQ;obtain⟨j0,ki,qW⟩:=res2;unfold LT at CM;dsimp only at CM hQ;have HQ:=AA hQ;clear hQ;generalize(qW==0)=br2 at CM;replace CM:=AA CM;clear RK he;go_wp2_with fail;refine Db 17 86 (λix=>ix==16) [.a #[.slice ua un uc,.slice va vn vc,.slice ya yn yc,.slice za zn zc],.p g 5,.s lb 4 lc,.i ((n:Int)),.i ((ta:Int)),.p lb ta,.i la,.i ((n:Int)),.i ((tb:Int)),.i fr,.i en_,.z,.z,.z,.i ki,.b br2,.z] (λll ix vv ww=>match ix with
   |11|12=>Fb W6 vv ww j0 ki br2
   |13=>IM W6 vv ww j0
   |_=>True) (λll ww=>GB W6 (qk) j0 (ll 16) ww) ?_ ?_ ?_ ?_ ?_ ?_
  .exact Ap (yN _ _) 1
  .intro j hj ll i vv wz hF hi hS kA op cC hz
   match j,hj with
   |11,_|12,_=>exact(Fb.below hz cC)
   |13,_=>exact(IM.below hz cC)
   |0,_|1,_|2,_|3,_|4,_|5,_|6,_|7,_|8,_|9,_|10,_|14,_|15,_|16,_=>exact hz
   |_+17,hq=>omega
  .intro ll i wz hF hi hS kA cC L
   show GB _ _ _ (Hz ll i 16) _
   rw[Fg (by rintro rfl;cases hS)];exact GB.grow L cC
  .intro i hi hS o D a wx E ll A Y Z x1 X
   match i,hi,hS with
   |0,_,_=>have hH:=Be Y 16;have bP:=(show wx.cell? qk=some (.slice ua un uc) from GB.cell Z (by cases hx:ll 16 with|false=>rfl|true=>exact absurd (Y.2.2 11 0 (Y.2.2 12 11 (Y.2.2 13 12 (Y.2.2 16 13 (hx) φ) φ) φ) φ) (by rw[Y.1];decide)) gd n0);have bu:=(show wx.cell? (qk,1)=some (.slice va vn vc) from GB.cell Z (by cases hx:ll 16 with|false=>rfl|true=>exact absurd (Y.2.2 11 0 (Y.2.2 12 11 (Y.2.2 13 12 (Y.2.2 16 13 (hx) φ) φ) φ) φ) (by rw[Y.1];decide)) gd n1);have bx:=(show wx.cell? (qk,2)=some (.slice ya yn yc) from GB.cell Z (by cases hx:ll 16 with|false=>rfl|true=>exact absurd (Y.2.2 11 0 (Y.2.2 12 11 (Y.2.2 13 12 (Y.2.2 16 13 (hx) φ) φ) φ) φ) (by rw[Y.1];decide)) gd n2);have bE:=(show wx.cell? (qk,3)=some (.slice za zn zc) from GB.cell Z (by cases hx:ll 16 with|false=>rfl|true=>exact absurd (Y.2.2 11 0 (Y.2.2 12 11 (Y.2.2 13 12 (Y.2.2 16 13 (hx) φ) φ) φ) φ) (by rw[Y.1];decide)) gd n3);exact Lb D X E A Y (hl:=P7 ‹_› ‹_› ‹_› ‹_›)
   |1,_,_|3,_,_|7,_,_|9,_,_=>exact Xn D X E A Y
   |2,_,_=>have hH:=Be Y 16;have bt:=(show wx.cell? (g,5)=some (.slice lb 4 lc) from GB.other Z n8 ng x5);exact Lb D X E A Y (hl:=K5 ‹_›)
   |6,_,_=>have hH:=Be Y 16;have dg:=(show wx.cell? (lb,ta)=some (.int .i64 la) from GB.other Z jD nl DL);exact Lb D X E A Y (hl:=GO ‹_›)
   |16,_,R=>cases R
   |4,_,_=>obtain rfl:=yP D;have d3:(a.tmps[65]?.getD Θ)=.int .i64 n:=Dc A Y 3;have hH:=Be Y 16;clear A E;refine yO ?_;go_simp;exact X _ _ (by show yl .i64 (IntKind.i64.wrap (ta:Int))=.int .i64 ta;rw[xJ _ ω]) (yN _ _)
   |5,_,_=>obtain rfl:=yP D;have d2:(a.tmps[64]?.getD Θ)=.slice lb 4 lc:=Dc A Y 2;have d4:(a.tmps[66]?.getD Θ)=.int .i64 ta:=Dc A Y 4;have hH:=Be Y 16;clear A E;refine yO ?_;go_simp;exact X _ _ rfl (yN _ _)
   |8,_,_=>obtain rfl:=yP D;have d7:(a.tmps[69]?.getD Θ)=.int .i64 n:=Dc A Y 7;have hH:=Be Y 16;clear A E;refine yO ?_;go_simp;exact X _ _ (by show yl .i64 (Int.tmod (n:Int) 4)=.int .i64 tb;rw[wE ω];exact congrArg _ q2) (yN _ _)
   |10,_,_=>obtain rfl:=yP D;have d9:(a.tmps[71]?.getD Θ)=.int .i64 fr:=Dc A Y 9;have hH:=Be Y 16;clear A E;refine yO ?_;go_simp;refine(CP _).mono ?_;rintro r w_ ⟨rfl,ei⟩;exact X _ _ rfl ei
   |11,_,_=>
    obtain rfl:=yP D;have d0:(a.tmps[62]?.getD Θ)=.agg #[.slice ua un uc,.slice va vn vc,.slice ya yn yc,.slice za zn zc]:=Dc A Y 0;have d6:(a.tmps[68]?.getD Θ)=.int .i64 la:=Dc A Y 6;have d8:(a.tmps[70]?.getD Θ)=.int .i64 tb:=Dc A Y 8;have mb:(a.tmps[72]?.getD Θ)=.int .i64 en_:=Dc A Y 10;have hH:=Be Y 16;clear A E;refine yO ?_;go_simp;have j7:Γ W6 W6 wx:=by
     rw[show ll 16=false from(by cases hx:ll 16 with|false=>rfl|true=>exact absurd (Y.2.2 12 11 (Y.2.2 13 12 (Y.2.2 16 13 (hx) φ) φ) φ) (by rw[Y.1];decide))] at Z;exact Z
    refine(CM _ j7).mono ?_;rintro r w_ ⟨m',i',e',c',rfl,hO,ei⟩;exact X _ _ ⟨m',i',e',c',rfl,hO.lower j7.size⟩ ei
   |12,_,_=>obtain rfl:=yP D;have jS:Fb W6 (a.tmps[73]?.getD Θ) wx j0 ki br2:=Dc A Y 11;have hH:=Be Y 16;clear A E;refine yO ?_;go_simp;exact X _ _ jS (yN _ _)
   |13,_,_=>obtain rfl:=yP D;have ij:Fb W6 (a.tmps[61]?.getD Θ) wx j0 ki br2:=Dc A Y 12;have hH:=Be Y 16;clear A E;obtain⟨m',i',e',c',ij,hO⟩:=ij;refine yO ?_;go_simp;exact X _ _ ⟨_,_,_,_,rfl,hO⟩ (yN _ _)
   |14,_,_|15,_,_=>obtain rfl:=yP D;have ij:Fb W6 (a.tmps[61]?.getD Θ) wx j0 ki br2:=Dc A Y 12;clear A E;obtain⟨m',i',e',c',ij,hO⟩:=ij;refine yO ?_;go_simp;exact X _ _ rfl (yN _ _)
   |_+17,hq,_=>omega
  .intro i hi hS o D a wx E ll A Y Z x1 X
   match i,hi,hS with
   |0,_,R|1,_,R|2,_,R|3,_,R|4,_,R|5,_,R|6,_,R|7,_,R|8,_,R|9,_,R|10,_,R|11,_,R|12,_,R|13,_,R|14,_,R|15,_,R=>cases R
   |16,_,_=>
    obtain rfl:=yP D;have e6:a.tmps[6]?.getD Θ=.pointer qk:=eg (No E 6);have j8:IM W6 (a.tmps[74]?.getD Θ) wx j0:=Dc A Y 13;clear A E;rw[Y.1] at Z;replace Z:Γ W6 W6 wx:=Z;obtain⟨m',i',e',c',j8,hO⟩:=j8;obtain⟨⟨va,vn,vc,rfl⟩,⟨wa,wn,wc,rfl⟩,⟨xa,xn,xc,rfl⟩,⟨ya,yn,yc,rfl⟩⟩:=hO.Dq;have cz:=AB fo Z;obtain⟨c0,md,c2,c3⟩:=AG cz;have fq:=AI cz;have ac:=AA (Ar wx (qk) (.slice va vn vc) (.slice wa wn wc) (.slice xa xn xc) (.slice ya yn yc));have Hq:=AA cz;have HO:=AA hO;clear cz hO;refine yO ?_;go_simp;exact X Θ _ trivial (by show GB _ _ _ (Hz ll 16 16) _;rw[Gh];exact⟨wx,_,_,_,_,Z,HO.u,yN _ _⟩) (λj jF jE lL hu=>match j,jE with
     |0,_|1,_|2,_|3,_|4,_|5,_|6,_|7,_|8,_|9,_|10,_|14,_|15,_=>hu
     |11,_|12,_=>Fb.yV hu ac Hq.u
     |13,_=>IM.yV hu ac Hq.u
     |16,_=>absurd rfl jF
     |_+17,hq=>absurd hq ω)
   |_+17,hq,_=>omega
  intro vs wx ll ej hR Z
  have jY:(vs 14)=.int .i64 ki:=Bh hR 14;clear hR;simp only[DV,Bo,yL,yI,yJ,yH,jY];simp;clear jY;rw[ej 16 ψ] at Z;obtain⟨wz,m3,i3,e3,c3,cp,hO,ir⟩:=Z;have bX:Γ (Fs wz qk m3 i3 e3 c3).heap.size (Fs wz qk m3 i3 e3 c3) wx:=by simpa[Fs] using ir
  have I7:=(I6.put cp hO).below bX;have l6:=I6.yT.2.2;have B7:=B6.trans ((AM (cp.mono l6) (Ar wz qk m3 i3 e3 c3) I6.yT.2.1 (yM l6 cp.size):Γ lo W6 _).trans (bX.mono (yM l6 (yM cp.size (Ar wz qk m3 i3 e3 c3).size))));have T7:=((T6.below cp).other (Ar wz qk m3 i3 e3 c3) (AB I6.kb cp) ψ).below bX;obtain⟨⟨⟨ni,nh,bE,rfl⟩,⟨nC,nF,nz,rfl⟩,⟨oG,oA,oD,rfl⟩,⟨nu,nj,np,rfl⟩⟩,_,_⟩:=I7.own.Dq;clear ej cp ir bX hO fo gd n0 n1 n2 n3 CM CP x5 DL nl ng jD I6 B6;have X8:=I7.back;have B8:=AM B7 X8.2.2 I7.yT.1 I7.yT.2.2;have l8:=yM I7.yT.2.2 X8.2.2.size;have N8:=X8.2.1;have T8:=T7.fresh X8.2.2 (by have:=Hg.u;omega);have I8:=X8.1;obtain⟨d0,d1,d2,d3⟩:=AG I7.kb;obtain⟨t0,t1,t2,t3,_⟩:=AC I7.box;have ft:=AI I7.box;clear X8;unfold Fs at I8 B8 N8 l8 T8;generalize hW8:(((wx.setCell _ _).setCell _ _).setCell _ _).setCell _ _=W8 at I8 N8 B8 l8 T8;obtain⟨_,_,_,_,_,_,s6,_,_⟩:=I8.cells;obtain⟨nN,f8,p0,p1,p2⟩:=I8.pg (n:=n) kD.u;have I9:=I8.zA (n:=n) ld.symm kD ⟨1,fr,true⟩;have N9:=At N8 I9.2.1 (by obtain⟨cu,gp⟩:=A7 I8.own.pgs gq rfl;exact(Bz gp N8));have B9:=AM B8 I9.2.1 I9.2.2 l8;have l9:=yM l8 I9.2.1.size;obtain⟨mI,fx⟩:=A7 I8.own.pgs gq rfl;have T9:=T8.other I9.2.1 fx ψ;have I9:=I9.1;generalize hW9:((W8.setCell _ _).setCell _ _).setCell _ _=W9 at I9 N9 B9 l9 T9;have oX:=AA T9;have jm:=AA (Bu N9 I9.own);obtain⟨x0,K,x2,x3,x4,x5,x6,x7,x8⟩:=I9.cells;obtain⟨r0,r1,r2,r3,r4,r5,r6,r7,r8⟩:=AC N9;have F3:=AI N9;have o7:=AA B9;have oT:=AA l9;have mp:=AA I9.yT;clear I7 I8 N8 B8 l8 I9 N9 B9 l9 B7 l6 T7 T8 T9 T6;obtain⟨kZ,jH,iR⟩:=jm.u;have ip:=AM o7 iR (by have:=mp.u;omega) oT.u;have kY:=oX.fresh iR (by have:=Hg.u;omega);unfold DO at kZ jH ip kY;have df:=co HQ jH ip kY;unfold WR AN at df;dsimp only at df;have HR:=AA df;have HE:=AA (AC kZ);clear kZ jH iR ip kY df;go_wp2_with ((try simp only[Exit.inBlock,Exit.then]);with_reducible refine yB (v:=.tuple #[.agg #[.slice ni nh bE,.slice nC nF nz,.slice oG oA oD,.slice nu nj np,.slice gs 16 sc,.slice lb 4 lc,.slice gq 16 qc,P.FU,P.VO],τ]) ?_ rfl HR.u);obtain⟨E0,E1,E2,E3,E4,E5,E6,E7,E8⟩:=HE.u;simp[results,Tryz.results204,go_sem,E0,E1,E2,E3,E4,E5,E6,E7,E8]
theorem eT (h:Dd p):Jf p=Ug p:=by
 have:=h.count;unfold Jf Ug
 by_cases hx:An p.V0.Zh<0
 .simp[hx]
 by_cases hy:(Al p.Xs 1:Int)=p.VO
 .simp[hx,hy]
 have:¬p.VO<=(Al p.Xs 1:Int):=ω;simp[hx,hy,this]
theorem cj (h:Dd p)(hf:0<=An p.V0.Zh):(Qv p n).2=true:=by rw[YP (NL (k:=p.V0) h.may hf (a:=0) (b:=0) (c:=0))]
def Nv(lo:Nat)(w:Ω)(m i e c s l q:Φ)(P:AP)(t:AP×Bool)(r:Ending)(w':Ω):Prop:=
 (t.2=true->∃m i e c s l q,r=.returned (.tuple #[AN m i e c s l q t.1.FU t.1.VO,τ])/\Es lo w' m i e c s l q t.1)/\
 (t.2=false->r=.returned (.tuple #[AN m i e c s l q P.FU P.VO,υ]))/\Γ lo w w'/\Fm w w'
theorem Te{q q':Φ}{t:AP×Bool}(ht:t=(Q,true))(h1:Es lo W m' i' e' c' s' l' q' Q)(B:Γ lo w W)(T:Fm w W):Nv lo w m i e c s l q P t (.returned (.tuple #[AN m' i' e' c' s' l' q' Q.FU Q.VO,τ])) W:=
 ⟨λ_=>⟨m',i',e',c',s',l',q',by rw[ht],by rw[ht];exact h1⟩,λh=>(by rw[ht] at h;cases h),B,T⟩
theorem bS{q:Φ}{t:AP×Bool}(ht:t=(Q,false))(B:Γ lo w W)(T:Fm w W):Nv lo w m i e c s l q P t (.returned (.tuple #[AN m i e c s l q P.FU P.VO,υ])) W:=
 ⟨λh=>(by rw[ht] at h;cases h),λ_=>rfl,B,T⟩
theorem Vl (h:Es lo w mv iv ev cv sv lv qv P)(ay:lo<=w.heap.size)(hP:Dd P)(hn:n<16):
 Ξ prog 141 #[AN mv iv ev cv sv lv qv P.FU P.VO,.int .i64 n] w (Nv lo w mv iv ev cv sv lv qv P (Bm P n)):=by
 unfold AN Nv AN;obtain⟨N0,N1,ar,bk⟩:=LG w (.cells #[mv,iv,ev,cv,sv,lv,qv,P.FU,P.VO] 32) (.cells #[ι,ι,ι,ι,ι,ι,ι,θ,θ] 32);have bL:=(⟨N0,ay,h.below ar⟩:ID lo w.heap.size _ mv iv ev cv sv lv qv P);obtain⟨⟨⟨ma,mn,mc,rfl⟩,⟨ia,iN,ic,rfl⟩,⟨ea,en,ec,rfl⟩,⟨ka,kn,kc,rfl⟩⟩,⟨sa,sn,sc,rfl⟩,⟨la,ln,lc,rfl⟩,_⟩:=h.Dq;obtain⟨gq,qc,rfl,j1,ks,n5,nd,_⟩:=bL.page (n:=0) (by rw[hP.zY];omega);rw[hP.zY] at h bL N0 N1 ar bk j1 ⊢;have kU:(n:Int)<16:=ω;obtain⟨_,_,_,_,_,_,x6,_,_⟩:=bL.cells;obtain⟨nM,fq,p0,p1,p2⟩:=bL.pg (n:=n) (by rw[hP.zY];exact hn);have hx:P.Xs[n]?=some (AD P.Xs n):=by unfold AD;exact A6 (by rw[hP.zY];exact hn)
 have HP:=AA hP;have bD:=AA (ar.mono ay);have jB:=AA ((Fm.refl w).below ar);have jV:=AA ay;have bw:=AA (yM ay ar.size);have kK:=AA N1;have HI:=AA bL;have qr:=AA (λhw=>Th (n:=n) hP hw);have T1:=AA (Ti (p:=P) (n:=n));have T2:=AA (λhw=>Tf (n:=n) hP hw);have T3:=AA (λhw=>Tg hP hn hw);have qh:=AA (λm pg hd (h:gT P n m pg hd)=>h.is);generalize Bm P n=t at qr T1 T2 qh ⊢
 by_cases hw:(AD P.Xs n).w=1
 .have HT:=AA (qr hw)
  rw[hw] at p0;have iz:=bL.zz (n:=n) (x:=AD P.Xs n) (y:= {AD P.Xs n with u:=true}) (j:=2) (u:=.bool true) hP.zY.symm hx ψ rfl;have N2:=At N1 iz.2.1 (by obtain⟨cu,gp⟩:=A7 bL.own.pgs gq rfl;exact(Bz gp N1));obtain⟨mI,fx⟩:=A7 bL.own.pgs gq rfl;have T2:=jB.other iz.2.1 fx ψ;have B2:=AM bD iz.2.1 iz.2.2 bw.u;have l2:=yM bw iz.2.1.size;have I2:=iz.1;clear h hP ay hx hw bL N0 N1 ar bk j1 iz;go_in;go_upto_region 1 with fail;generalize(w.alloc _).alloc _=W0 at*;generalize L:w.heap.size=g at*;have Hg:=AA L;clear L;generalize hW1:W0.setCell (gq,n*3+2) (.bool true)=W1 at I2 N2 T2 B2 l2;have S3:=AA (Bu N2 I2.own);obtain⟨y0,y1,y2,y3,y4,y5,y6,y7,y8⟩:=I2.cells;obtain⟨z0,z1,z2,z3,z4,z5,z6,z7,z8⟩:=AC N2;have fz:=AI N2;have jW:=AA B2;have CX:=AA T2;have CA:=AA l2;have mp:=AA I2.yT;clear I2 N2 B2 T2 l2 p1 nM;obtain⟨N4,O4,p7⟩:=S3.u;have B4:=AM jW p7 (by have:=mp.u;omega) CA.u;have T4:=CX.fresh p7 (by have:=Hg.u;omega);unfold DO at N4 O4 B4 T4;have df:=Te (m:=.slice ma mn mc) (i:=.slice ia iN ic) (e:=.slice ea en ec) (c:=.slice ka kn kc) (s:=.slice sa sn sc) (l:=.slice la ln lc) (q:=.slice gq 16 qc) (P:=P) (Q:= {P with Xs:=GD P.Xs n}) HT O4 B4 T4;unfold Nv AN at df
  try dsimp only at df
  have HR:=AA df;have HE:=AA (AC N4);clear df;go_wp2_with ((try simp only[Exit.then]);with_reducible refine yB (v:=.tuple #[.agg #[.slice ma mn mc,.slice ia iN ic,.slice ea en ec,.slice ka kn kc,.slice sa sn sc,.slice la ln lc,.slice gq 16 qc,P.FU,P.VO],τ]) ?_ rfl HR.u);obtain⟨E0,E1,E2,E3,E4,E5,E6,E7,E8⟩:=HE.u;simp[results,tQ,go_sem,E0,E1,E2,E3,E4,E5,E6,E7,E8]
 have t0:((AD P.Xs n).w==1)=false:=by simp[hw]
 replace T1:=AA (T1 hw);replace T2:=AA (T2 hw);replace T3:=AA (T3 hw);have TV:=AA (Xg hP);have ru:=AA hw;have lF:=AA hP.VO;have HF:=AA (eT hP);have RI:=AA bL.own.ker.rd.2.1;have RQ:=AA (show BK 3 DT _ _ P.Xs from bL.own.pgs.rd);have Df:=AA (Aq hP.k).2.1;have ld:=AA hP.zY;generalize(AD P.Xs n).w=pw at p0 t0;obtain⟨x0,K,x2,x3,x4,x5,x6,x7,x8⟩:=bL.cells;clear h hP ay hx hw bL N0 N1 ar j1 p1 p2;go_in;go_upto_region 4 with fail;generalize(w.alloc _).alloc _=W0 at*;generalize L:w.heap.size=g at*;have Hg:=AA L;have ef:=AU HI.yU;have jI:=AA bk;clear L bk;obtain⟨Mv,hcnt⟩:∃c:Nat,c=Al P.Xs 1:=⟨_,rfl⟩
 have CC:=AA (λW (hW:Γ W0 W0 W)=>by have:=Ol (.slice ma mn mc) (.slice ia iN ic) (.slice ea en ec) (.slice ka kn kc) (.slice sa sn sc) (.slice la ln lc) (.slice gq 16 qc) P 1 W (BK.below RQ hW) (by have:=ld.u;omega);unfold AN at this;rw[<-hcnt] at this;exact this);have CF:=AA (λW (hW:Γ W0 W0 W)=>TQ (.slice ia iN ic) P.V0.Zh W (BK.below RI hW) Df.u);have pN:Ug P=(decide (P.VO<=(Mv:Int))||decide (An P.V0.Zh<0)):=by rw[hcnt];rfl
 have oV:=AA pN;have CD:=AA hcnt;clear pN hcnt RQ RI p0 t0 fq nM;go_cut [32] (λqQ wx=>qQ=.bool (Ug P)/\Γ W0 W0 wx)
 case first=>
  refine Ac 4 49 [.a #[.slice ma mn mc,.slice ia iN ic,.slice ea en ec,.slice ka kn kc,.slice sa sn sc,.slice la ln lc,(.slice gq 16 qc),.int .i64 (P.FU),.int .i64 (P.VO)],.i ((Mv:Int)),.p g 8,.i (P.VO)] (λ_ _ _=>True) ?_ ?_
  .intro i hi o D a wx E A Z x1 X
   have bP:=bc Z ef x0;have bu:=bc Z ef K;have bx:=bc Z ef x2;have bE:=bc Z ef x3;have bt:=bc Z ef x4;have dg:=bc Z ef x5;have jZ:=bc Z ef x6;have kP:=bc Z ef x7;have lq:=bc Z ef x8
   match i,hi with
   |0,_=>exact sL D X E A (hl:=Vr ‹_› ‹_› ‹_› ‹_› ‹_› ‹_› ‹_› ‹_› ‹_›)
   |1,_=>exact sD D X E A (CC _ Z)
   |2,_=>exact sP D X E A
   |3,_=>exact sL D X E A (hl:=GO ‹_›)
  intro vs wx hR Z
  have q1:(vs 1)=.int .i64 Mv:=Bh hR 1;have q3:(vs 3)=.int .i64 (P.VO):=Bh hR 3;clear hR;simp only[Ai,Ae,yL,yI,yJ,yH,q1,q3];simp;clear q1 q3;have HG:=AA Z;obtain⟨_,y1,_,_,_,_,_,_,y8⟩:=(HI.below Z).cells;clear Z x0 K x2 x3 x4 x5 x6 x7 x8
  by_cases hc:P.VO<=(Mv:Int)
  .have Hb:=AA (show Ug P=true by rw[oV.u];simp[hc])
   go_wp2_with fail;go_meet
   case rel=>exact⟨by rw[Hb.u],HG.u⟩
  have Hb:=AA (show Ug P=(((P.V0.Zh.countP (λx=>decide (x.k=0)):Nat):Int)==0) by
   rw[oV.u];have:= @YI P.V0.Zh
   by_cases hz:P.V0.Zh.countP (λx=>decide (x.k=0))=0
   .simp[hc,hz,this.2 hz]
   have O:¬An P.V0.Zh<0:=λh=>hz (this.1 h)
   simp[hc,hz,O])
  go_wp2_with fail;refine(CF _ HG.u).mono ?_;rintro r w1 ⟨rfl,b1⟩;have DC:=AA (HG.trans (b1.mono HG.size));clear b1;generalize List.countP _ P.V0.Zh=nf at*;go_wp2_with fail;go_meet
  case rel=>exact⟨by rw[Hb.u],DC.u⟩
 case rest=>
 obtain⟨rfl,Z⟩:=hcut;clear CC CF oV x0 K x2 x3 x4 x5 x6 x7 x8
 rename_i W1
 have fb:=AA (HI.below Z);have cg:=AA (bD.trans (Z.mono bw.u));have HN:=AA (AB kK Z);have kG:=AA (jB.below Z);have il:=AA (yM bw Z.size);clear Z HI;rw[<-HF.u];obtain⟨y0,y1,y2,y3,y4,y5,y6,y7,y8⟩:=fb.cells;go_upto_if 32 with fail;go_cut [] (λwx=>∃P1 m i e c s,ID lo g wx m i e c s (.slice la ln lc) (.slice gq 16 qc) P1/\wx.heap[g+1]?=some (.cells #[ι,ι,ι,ι,ι,ι,ι,θ,θ] 32 (0,0))/\Γ lo w wx/\Fm w wx/\lo<=wx.heap.size/\Dd P1/\0<=An P1.V0.Zh/\(AD P1.Xs n).w≠1/\t=Qv P1 n)
 case first=>
  cases hf:Jf P
  .have qD:=AA (T2 hf)
   go_wp2_with fail;go_meet
   case rel=>exact⟨P,_,_,_,_,_,fb.u,HN.u,cg.u,kG.u,il.u,HP.u,qD.2,ru.u,qD.1⟩
  have CV:=UD fb.own il HP.u
  unfold Xw AN at CV
  by_cases hz:Al P.Xs 1=0
  .have pI:=T1 ⟨by
    unfold Jf at hf;simp only[Bool.or_eq_true,decide_eq_true_eq] at hf;have:=lF.u
    rcases hf with hf|hf
    .exact hf
    omega,hz⟩
   have j3:=TV.2 hz;generalize Cq 32 P.Xs P.FU=t at CV j3;obtain⟨pg,hd,o⟩:=t;cases j3;dsimp only[Xf] at CV;have CV:=AA CV;have BE:=AA pI;clear pI hf hz;go_wp2_with fail;refine CV.mono ?_;rintro r w2 ⟨rfl,O2,b2,s2⟩;have b3:=AJ w2 (.cells #[.slice ma mn mc,.slice ia iN ic,.slice ea en ec,.slice ka kn kc,.slice sa sn sc,.slice la ln lc,.slice gq 16 qc,hd,P.VO] 32);have N3:=AB (s2 _ _ HN.u) b3;have I3:=AB (s2 _ _ fb.yU) b3;have B3:=cg.trans (b2.trans (b3.mono (yM il b2.size)));have T3:=(kG.trans s2).below b3;have l3:=yM (yM il b2.size) b3.size;have N4:=Hj (b0:=.slice ma mn mc) (b1:=.slice ia iN ic) (b2:=.slice ea en ec) (b3:=.slice ka kn kc) (b4:=.slice sa sn sc) (b5:=.slice la ln lc) (b6:=.slice gq 16 qc) (b7:=.int .i64 P.FU) (b8:=.int .i64 P.VO) N3;have G4:=FQ (w:=w2.alloc (.cells #[.slice ma mn mc,.slice ia iN ic,.slice ea en ec,.slice ka kn kc,.slice sa sn sc,.slice la ln lc,.slice gq 16 qc,hd,P.VO] 32)) (g:=g+1) (b0:=.slice ma mn mc) (b1:=.slice ia iN ic) (b2:=.slice ea en ec) (b3:=.slice ka kn kc) (b4:=.slice sa sn sc) (b5:=.slice la ln lc) (b6:=.slice gq 16 qc) (b7:=.int .i64 P.FU) (b8:=.int .i64 P.VO);have B4:=AA (AM B3 G4 (by have:=fb.yT;omega) l3);have T4:=AA (T3.fresh G4 (by have:=Hg.u;omega));have C8:=AA N4;obtain⟨c0,c1,c2,c3,c4,c5,c6,c7,c8⟩:=AC I3;obtain⟨z0,z1,z2,z3,z4,z5,z6,z7,z8⟩:=AC N3;have fz:=AI N3;clear O2 b2 s2 b3 N3 I3 B3 T3 l3 N4 G4 y0 y1 y2 y3 y4 y5 y6 y7 y8 CV;have N4:=C8.u;unfold DO at N4 B4 T4;have df:=bS (m:=.slice ma mn mc) (i:=.slice ia iN ic) (e:=.slice ea en ec) (c:=.slice ka kn kc) (s:=.slice sa sn sc) (l:=.slice la ln lc) (q:=.slice gq 16 qc) (P:=P) (Q:=P) BE B4 T4.u;have HR:=AA df;have HE:=AA (AC N4);clear df;go_wp2_with fail;refine yB (v:=.tuple #[.agg #[.slice ma mn mc,.slice ia iN ic,.slice ea en ec,.slice ka kn kc,.slice sa sn sc,.slice la ln lc,.slice gq 16 qc,P.FU,P.VO],υ]) ?_ rfl HR.u;obtain⟨E0,E1,E2,E3,E4,E5,E6,E7,E8⟩:=HE.u;simp[results,tQ,go_sem,E0,E1,E2,E3,E4,E5,E6,E7,E8]
  obtain⟨mm,pgs,hd,jw⟩:=T3 hf (λx=>hz x.2)
  rw[jw.vic] at CV;dsimp only[Xf] at CV;have er:=AA jw;have CV:=AA CV;have Fw:¬(mm:Int)<0:=ω;clear jw hf hz;go_wp2_with fail;refine CV.mono ?_;rintro r w2 ⟨rfl,O2,b2,s2⟩;have b3:=AJ w2 (.cells #[.slice ma mn mc,.slice ia iN ic,.slice ea en ec,.slice ka kn kc,.slice sa sn sc,.slice la ln lc,.slice gq 16 qc,hd,P.VO] 32);have l3:=yM (yM il b2.size) b3.size;have CO:=YZ (O2.below b3) l3 er.ok1 er.m16 er.mw1;unfold Xt AN at CO;dsimp only at CO;have CO:=AA CO;have N3:=AA (AB (s2 _ _ HN.u) b3);have I3:=AA (AB (s2 _ _ fb.yU) b3);have B3:=AA (cg.trans (b2.trans (b3.mono (yM il b2.size))));have T3:=AA ((kG.trans s2).below b3);have Ck:=AA l3;clear O2 b2 s2 b3 l3 y0 y1 y2 y3 y4 y5 y6 y7 y8 CV;go_wp2_with fail;refine CO.mono ?_;rintro r w4 ⟨⟨m4,i4,e4,c4,s4,rfl,O4⟩,b4,t4⟩;obtain⟨⟨⟨iW,iV,bt,rfl⟩,⟨i8,jb,i7,rfl⟩,⟨jl,jj,jk,rfl⟩,⟨iZ,iX,iY,rfl⟩⟩,⟨pq,pm,pp,rfl⟩,_⟩:=O4.Dq;have S5:=Bu (t4 _ _ I3.u) O4;have N5:=AA (At (t4 _ _ N3.u) S5.2.2 ω);have T5:=AA ((T3.trans t4).fresh S5.2.2 (by have:=Hg.u;omega));have l4:=yM Ck b4.size;have B5:=AA (AM (B3.trans b4) S5.2.2 fb.yT l4);have l5:=AA (yM l4 S5.2.2.size);have I5:=AA (⟨S5.1,fb.yT,S5.2.1⟩:ID lo g _ _ _ _ _ _ _ _ _);obtain⟨z0,z1,z2,z3,z4,z5,z6,z7,z8⟩:=AC (t4 _ _ I3.u);have fz:=AI (t4 _ _ I3.u);clear S5 O4 b4 t4 l4 CO;unfold DO at N5 T5 B5 l5 I5;go_wp2_with fail;go_meet
  case rel=>exact⟨_,_,_,_,_,_,I5.u,N5.u,B5.u,T5.u,l5.u,er.ok2,er.free,er.nw,qh _ _ _ er.u⟩
 case rest=>obtain⟨P1,m1,i1,e1,c1,s1,I1,N1,B1,qi,l1,O1,f1,n1,t1⟩:=hcut;have CI:=aL I1.own l1 O1 hn n1 f1;have pD:=cj (n:=n) O1 f1;generalize Qv P1 n=ti at CI pD t1;obtain⟨Q,bb⟩:=ti;obtain rfl:bb=true:=pD;unfold WR AN at CI;dsimp only at CI;have yp:=AA t1;obtain⟨⟨⟨mC,mA,bu,rfl⟩,⟨nE,nH,nB,rfl⟩,⟨oI,oC,oF,rfl⟩,⟨ny,nn,nt,rfl⟩⟩,⟨mY,mU,mW,rfl⟩,_⟩:=I1.own.Dq;obtain⟨x0,K,x2,x3,x4,x5,x6,x7,x8⟩:=I1.cells;have o3:=AA N1;have o8:=AA B1;have oY:=AA qi;have oU:=AA l1;have mp:=AA I1.yT;have CI:=AA CI;clear I1 N1 B1 qi l1 O1 f1 n1 t1 y0 y1 y2 y3 y4 y5 y6 y7 y8 fb HN cg kG T1 T2 T3 TV lF;go_wp2_with fail;refine CI.mono ?_;rintro r w6 ⟨⟨m6,i6,e6,c6,rfl,O6⟩,b6,s6⟩;obtain⟨⟨⟨qZ,qY,jZ,rfl⟩,⟨rm,ro,rl,rfl⟩,⟨wN,wq,wy,rfl⟩,⟨rj,rh,ri,rfl⟩⟩,_⟩:=O6.Dq;have N6:=s6 _ _ o3.u;have S7:=AA (Bu N6 O6);have B6:=AA (o8.trans b6);have T6:=AA (oY.trans s6);have l6:=AA (yM oU b6.size);obtain⟨z0,z1,z2,z3,z4,z5,z6,z7,z8⟩:=AC N6;have fz:=AI N6;clear O6 b6 s6 N6 CI x0 K x2 x3 x4 x5 x6 x7 x8;obtain⟨N8,O8,p6⟩:=S7.u;have B8:=AM B6 p6 (by have:=mp.u;omega) l6.u;have T8:=T6.fresh p6 (by have:=Hg.u;omega);unfold DO at N8 O8 B8 T8;have df:=Te (m:=.slice ma mn mc) (i:=.slice ia iN ic) (e:=.slice ea en ec) (c:=.slice ka kn kc) (s:=.slice sa sn sc) (l:=.slice la ln lc) (q:=.slice gq 16 qc) (P:=P) yp O8 B8 T8;unfold Nv AN at df;have HR:=AA df;have HE:=AA (AC N8);clear df;go_wp2_with ((try simp only[Exit.then]);with_reducible refine yB (v:=.tuple #[.agg #[.slice qZ qY jZ,.slice rm ro rl,.slice wN wq wy,.slice rj rh ri,.slice mY mU mW,.slice la ln lc,.slice gq 16 qc,Q.FU,Q.VO],τ]) ?_ rfl HR.u);obtain⟨E0,E1,E2,E3,E4,E5,E6,E7,E8⟩:=HE.u;simp[results,tQ,go_sem,E0,E1,E2,E3,E4,E5,E6,E7,E8]
theorem XE (mv iv ev cv sv lv qv:Φ)(P:AP)(n:Nat)(w:Ω)(h:JA w mv iv ev cv sv lv qv P)(hh:gV P)(hn:n<16):
 Ξ prog 45 #[AN mv iv ev cv sv lv qv P.FU P.VO,.int .i64 n] w λr w'=>r=.returned (.bool (IC P n))/\Γ w w w':=by
 unfold AN;obtain⟨N0,b0⟩:=EU w (.cells #[mv,iv,ev,cv,sv,lv,qv,P.FU,P.VO] 32);have h0:=h.below b0;have hK:DZ P.V0:=FI.1 hh.k;obtain⟨j,hj⟩:∃j,j=n/4:=⟨_,rfl⟩
 obtain⟨t,ht⟩:∃t,t=n%4:=⟨_,rfl⟩
 have q1:(n:Int)/4=(j:Int):=ω;have q2:(n:Int)%4=(t:Int):=ω;have pK:j<4:=ω;have rx:t<4:=ω;have st:=hh.lr j pK;obtain⟨lf,hlf⟩:∃x:Nat,Bd P.low j=(x:Int):=⟨(Bd P.low j).toNat,ω⟩
 have lG:lf<12:=ω;have pU:CZ P n=Aw P.V0.mem lf t:=by unfold CZ;rw[<-hj,<-ht,hlf,yq]
 have kU:(n:Int)<16:=ω;have HS:=AA h0.2.1;have bL:=AA h0.1.2.1;obtain⟨aq,cq,rfl,_,_,HQ⟩:=BK.open F7 ψ h0.2.2.2;obtain⟨bq,oq,rfl,up,D0,D1,D2⟩:=HQ.zB (k:=n) (by rw[hh.pl];exact hn);have sm:(n:Int)<P.Xs.length:=by rw[hh.pl];exact kU
 obtain⟨am,cm,rfl,_,_,HM⟩:=h0.1.1.open;obtain⟨al,cl,rfl,_,_,Y⟩:=h0.2.2.1.open;obtain⟨bl,ol,rfl,DL⟩:=Y.at (k:=j) (by rw[hh.ll];exact pK);rw[show nth P.low j=(lf:Int) from hlf] at DL;obtain⟨bm,om,br,jp,cr,rfl,jO,DM,jN,t7,li⟩:=HM.row4 (Aq hK).1 lG;have DW:=li t rx;obtain⟨ai,ci,rfl,_,_,fb⟩:=BK.open Az ψ bL.u;have HI:=AA fb;obtain⟨qe,p9,rfl,_,_,_⟩:=h0.2.1.open;obtain⟨x0,K,x2,x3,x4,x5,x6,x7,x8⟩:=AC N0;obtain⟨po,hpo⟩:∃po,po=IC P n:=⟨_,rfl⟩
 rw[<-hpo];have PO:=hpo;unfold IC at PO;rw[pU] at PO;generalize hpw:(AD P.Xs n).w=pw at D0 PO;generalize hpa:(AD P.Xs n).a=pa at D1 PO;generalize hpu:(AD P.Xs n).u=pu at D2 PO;generalize htw:Aw P.V0.mem lf t=tw at DW PO;have lL:(j:Int)<P.low.length:=by rw[hh.ll];omega
 have kV:(lf:Int)<P.V0.mem.length:=by have:=(Aj.1 (Aq hK).1).1;omega
 have rv:(t:Int)<4:=ω;have kE:=AA (A2.1 (Aq hK).2.1).1;replace PO:=AA PO;clear hpo hpw hpa hpu htw pU hlf st hj ht HQ HM Y li h h0;have bk:(w.alloc (.cells #[.slice (some ⟨bm,om,none⟩) P.V0.mem.length cm,.slice ai P.V0.Zh.length ci,ev,cv,.slice qe P.swap.length p9,.slice (some ⟨bl,ol,none⟩) P.low.length cl,.slice (some ⟨bq,oq,none⟩) P.Xs.length cq,P.FU,P.VO] 32)).heap.size=w.heap.size+1:=χ;go_in;go_wp2_with fail;generalize w.alloc _=W0 at*;obtain⟨N2,b2⟩:=EU W0 (.cells #[pw,pa,pu] 87);have o4:=AA (AB N0 b2);have jW:=AA (b0.trans (b2.mono b0.size));have jA:=AA b2;replace DL:=(b2.cell (yK _ _ DL)).trans DL;replace DM:=(b2.cell (yK _ _ DM)).trans DM;replace DW:=(b2.cell (yK _ _ DW)).trans DW;clear x0 K x2 x3 x4 x5 x6 x7 x8 D0 D1 D2 up jO jN fb N0 b0 b2;obtain⟨qp,hqp⟩:∃q,q=w.heap.size+1:=⟨_,rfl⟩
 rw[bk] at N2;rw[<-hqp] at N2 ⊢;generalize W0.alloc _=W2 at*;clear hqp bk;obtain⟨x0,_,_,_,_,x5,_,_,_⟩:=AC o4.u;have ef:=AU o4.u;have bf:=yK _ _ DL;have jO:=yK _ _ DM;have jN:=yK _ _ DW;have C9:=AA N2;clear N2;go_wp2_with fail;refine Ac 15 94 [.p w.heap.size 0,.p w.heap.size 0,.v (.slice (some ⟨bm,om,none⟩) P.V0.mem.length cm),.p w.heap.size 5,.v (.slice (some ⟨bl,ol,none⟩) P.low.length cl),.i ((n:Int)),.i ((j:Int)),.p bl (ol+j),.i ((lf:Int)),.p bm (om+lf),.v (.slice (some ⟨br,jp,none⟩) 4 cr),.i ((n:Int)),.i ((t:Int)),.p br (jp+t),.i tw] (λ_ _ _=>True) ?_ ?_
 .intro i hi o D a wx E A Z x1 X
  have bu:=bc Z ef x5;have bx:=bc Z bf DL;have bE:=bc Z jO DM;have bt:=bc Z jN DW
  match i,hi with
  |0,_|1,_|3,_|5,_|11,_=>exact sP D X E A
  |2,_=>exact sL D X E A (hl:=GZ (bc Z ef x0))
  |4,_|10,_=>exact sL D X E A (hl:=K5 ‹_›)
  |7,_|9,_|13,_=>exact sI D X E A (hr:=by clear A E X;go_simp)
  |8,_|14,_=>exact sL D X E A (hl:=GO ‹_›)
  |6,_=>clear bu bx bE bt;obtain rfl:=yP D;have d5:(a.tmps[19]?.getD Θ)=.int .i64 n:=Bc A 5;clear A E;refine yO ?_;go_simp;exact X _ _ (by show yl .i64 (IntKind.i64.wrap (j:Int))=.int .i64 j;rw[xJ _ ω]) (yN _ _)
  |12,_=>clear bu bx bE bt;obtain rfl:=yP D;have jS:(a.tmps[25]?.getD Θ)=.int .i64 n:=Bc A 11;clear A E;refine yO ?_;go_simp;exact X _ _ (by show yl .i64 (Int.tmod (n:Int) 4)=.int .i64 t;rw[wE ω];exact congrArg _ q2) (yN _ _)
  |_+15,hq=>omega
 intro vs wx hR Z
 have jY:(vs 14)=.int .i64 tw:=Bh hR 14;clear hR;simp only[Ai,Ae,yL,yI,yJ,yH,jY];simp;clear jY;have HB:=AA (jW.trans (Z.mono jW.size));have oW:=AA (jA.trans (Z.mono jA.size));obtain⟨_,K,_,_,x4,_,_,_,_⟩:=AC (AB o4 Z);obtain⟨p0,p1,p2⟩:=Gw (AB C9 Z);clear x0 x5 DL DM DW Z bf jO jN
 by_cases e0:pw=0
 .subst e0
  rw[if_pos rfl] at PO
  by_cases ea:pa=0
  .subst ea
   cases pu
   .have S:=AA (show po=(tw==0) by rw[PO.u];simp;by_cases h3:tw=0<;>simp[h3])
    clear PO K x4;go_wp2;go_ret;exact⟨AF S.symm,HB.u⟩
   have S:=AA (show po=false by rw[PO.u];simp)
   clear PO K x4;go_wp2;go_ret;exact⟨AF S.symm,HB.u⟩
  have S:=AA (show po=false by rw[PO.u];simp[ea])
  clear PO K x4;go_wp2;go_ret;exact⟨AF S.symm,HB.u⟩
 rw[if_neg e0] at PO;have t0:(pw==0)=false:=by simp[e0]
 by_cases e1:pw=1
 .subst e1
  rw[if_pos rfl] at PO;clear t0 e0 x4;have CF:=AA (λW=>EZ pa W);go_wp2_with fail;refine(CF _).mono ?_;rintro r w3 ⟨rfl,rfl⟩;cases ge:Bj pa 0 11
  .have S:=AA (show po=false by rw[PO.u,ge];rfl)
   clear PO ge K;go_wp2;go_ret;exact⟨AF S.symm,HB.u⟩
  have ab:=Aa.1 ge;obtain⟨fr,rfl⟩:∃x:Nat,pa=(x:Int):=⟨pa.toNat,ω⟩
  have jG:fr<12:=ω;rw[ge,yq] at PO;clear ge;go_wp2_with fail;refine(M5 (fr:Int) _ ω ω).mono ?_;rintro r w3 ⟨rfl,b3⟩;have es:=AA (HB.trans (b3.mono HB.size));have FP:(fr:Int)<12:=ω;have ty:(fr:Int)<P.V0.Zh.length:=by have:=kE.u;omega
  obtain⟨bi,oi,rfl,kx,F0,F1,F2⟩:=(HI.below (oW.trans (b3.mono oW.size))).zZ (k:=fr) (by have:=kE.u;omega);replace K:=(b3.cell (yK _ _ K)).trans K;replace p1:=(b3.cell (yK _ _ p1)).trans p1;clear p0 p2 b3 F0 kx;generalize Ip (fr:Int)=en_ at PO ⊢
  by_cases et:tw=en_
  .subst et
   have hY:=AA (show po=(decide ((JR P.V0.Zh fr).g=gA)&&decide ((JR P.V0.Zh fr).r=1)) by rw[PO.u];simp[Gp]);clear PO;generalize JR P.V0.Zh fr=x at F1 F2 hY;obtain⟨xk,xg,xr⟩:=x;dsimp only at F1 F2 hY;have eg:xg=gA↔xg.toList=[97]:=⟨λh=>by subst h;rw[xA];rfl,λh=>by rw[xA] at h;cases xg with|mk d=>cases d with|mk l=>simp at h;subst h;rfl⟩
   by_cases L:xg.toList=[97]
   .have t1:(xg.toList==[97])=true:=by simp[L]
    have S:=AA (show po=(xr==1) by rw[hY.u,decide_eq_true (eg.2 L),wg];by_cases h3:xr=1<;>simp[h3]);clear L eg hY;go_wp2;go_ret;exact⟨AF S.symm,es.u⟩
   have t1:(xg.toList==[97])=false:=by simp[L]
   have S:=AA (show po=false by rw[hY.u,decide_eq_false (λh=>L (eg.1 h)),Bool.false_and]);clear L eg hY;go_wp2;go_ret;exact⟨AF S.symm,es.u⟩
  have S:=AA (show po=false by rw[PO.u];simp[et])
  have t1:(tw==en_)=false:=by simp[et]
  clear PO et;go_wp2;go_ret;exact⟨AF S.symm,es.u⟩
 rw[if_neg e1] at PO;have t1:(pw==1)=false:=by simp[e1]
 by_cases e2:pw=2
 .subst e2
  rw[if_pos rfl] at PO;clear t0 t1 e0 e1 K;have CG:=AA (V8 _ P.swap pa _ (HS.below oW.u) hh.s);go_wp2_with fail;refine CG.mono ?_;rintro r w3 ⟨⟨v',rfl⟩,b3⟩;have es:=AA (HB.trans (b3.mono HB.size));have hY:=AA (show po=(Bj pa 0 15&&!(AK P.swap pa.toNat).isEmpty&&!pu&&decide (tw=0)) from PO.u);generalize(Bj pa 0 15&&!(AK P.swap pa.toNat).isEmpty)=bb at hY ⊢;replace p2:=(b3.cell (yK _ _ p2)).trans p2;clear PO CG b3 x4 p0 p1;cases bb
  .have S:=AA (show po=false by rw[hY.u];rfl)
   go_wp2;go_ret;exact⟨AF S.symm,es.u⟩
  cases pu
  .have S:=AA (show po=(tw==0) by rw[hY.u];simp;by_cases h3:tw=0<;>simp[h3])
   go_wp2;go_ret;exact⟨AF S.symm,es.u⟩
  have S:=AA (show po=false by rw[hY.u];rfl)
  go_wp2;go_ret;exact⟨AF S.symm,es.u⟩
 have t2:(pw==2)=false:=by simp[e2]
 have S:=AA (show po=false by rw[PO.u,if_neg e2]);clear PO K x4 e0 e1 e2;go_wp2;go_ret;exact⟨AF S.symm,HB.u⟩
theorem UC (mv iv ev cv sv lv qv:Φ)(P:AP)(w:Ω)(h:JA w mv iv ev cv sv lv qv P)(hk:Cx P.V0=true):
 Ξ prog 43 #[AN mv iv ev cv sv lv qv P.FU P.VO] w λr w'=>r=.returned (.bool (Cb P))/\Γ w w w':=by
 unfold AN;obtain⟨N0,b0⟩:=EU w (.cells #[mv,iv,ev,cv,sv,lv,qv,P.FU,P.VO] 32);have h0:=h.below b0;have hK:DZ P.V0:=FI.1 hk;have rC:=zK hK (ω:0<3);have mF:=(A2.1 (Aq hK).2.1).1;have kV:=(Aj.1 (Aq hK).1).1;have t6:=hK.zX;obtain⟨ae,ce,rfl,_,_,HE⟩:=h0.1.2.2.1.open;obtain⟨be,oe,ua,uc,rfl,_,_,D1,_⟩:=HE 0 ω;have e0:oe+0*2+1=oe+1:=ω;rw[e0] at D1;obtain⟨ai,ci,rfl,_,_,bL⟩:=BK.open Az ψ h0.1.2.1;obtain⟨am,cm,rfl,_,_,qz⟩:=h0.1.1.open;obtain⟨al,cl,rfl,_,_,qA⟩:=h0.2.2.1.open;obtain⟨x0,K,x2,x3,x4,x5,x6,x7,x8⟩:=AC N0;have FZ:(0:Int)<P.V0.Xr.length:=ω;have TO:=AA (show Cb P=(decide (0<=Ab P.V0 0)&&decide (P.low.length=4)&&Gp P.V0.Zh (Ab P.V0 0).toNat&&(yL 4).all (Ga P)) from rfl);have kS:Ab P.V0 0=(AH P.V0.Xr 0).root:=rfl;rw[<-kS] at D1 rC;generalize hrr:Ab P.V0 0=root at*;have AS:=AA hrr;have HM:=AA qz;have HI:=AA bL;have Y:=AA qA;have X:=AA hK;have kE:=AA mF;have BL:=AA kV;clear h h0 hk kS hrr qz bL qA HE hK t6 mF kV;have HN:=AA N0;have av:=AA b0;clear N0 b0
 by_cases hr:root<0
 .have S:=AA (show Cb P=false by rw[TO.u,decide_eq_false ω];rfl)
  clear TO;go_in;go_wp2;go_ret;exact⟨AF S.symm,av.u⟩
 obtain⟨rn,rfl⟩:∃x:Nat,root=(x:Int):=⟨root.toNat,ω⟩
 have rE:rn<12:=ω;have rD:(rn:Int)<12:=ω;have EO:(rn:Int)<P.V0.mem.length:=by have:=BL.u;omega
 have ES:(rn:Int)<P.V0.Zh.length:=by have:=kE.u;omega
 rcases vQ (P.low.length=4) with j5|j5
 rotate_left
 .have S:=AA (show Cb P=false by rw[TO.u,decide_eq_false j5];simp)
  have t1:((P.low.length:Int) !=4)=true:=η;clear TO j5;go_in;go_wp2;go_ret;exact⟨AF S.symm,av.u⟩
 have t1:((P.low.length:Int) !=4)=false:=η;have mo:=AA j5;obtain⟨bi,oi,rfl,u3,_,F1,F2⟩:=HI.zZ (k:=rn) (by have:=kE.u;omega);have j9:=AA (show Cb P=(decide ((JR P.V0.Zh rn).g=gA)&&decide ((JR P.V0.Zh rn).r=1)&&(yL 4).all (Ga P)) by rw[TO.u,decide_eq_true j5,decide_eq_true (ω:(0:Int)<=(rn:Int)),yq];simp[Gp])
 clear TO j5;generalize JR P.V0.Zh rn=x at F1 F2 j9;obtain⟨xk,xg,xr⟩:=x;dsimp only at F1 F2 j9;have eg:xg=gA↔xg.toList=[97]:=⟨λh=>by subst h;rw[xA];rfl,λh=>by rw[xA] at h;cases xg with|mk d=>cases d with|mk l=>simp at h;subst h;rfl⟩
 rcases vQ (xg.toList=[97]) with L|L
 rotate_left
 .have t2:(xg.toList==[97])=false:=by simp[L]
  have S:=AA (show Cb P=false by rw[j9.u,decide_eq_false (λh=>L (eg.1 h))];rfl);clear j9 L eg;go_in;go_wp2;go_ret;exact⟨AF S.symm,av.u⟩
 have t2:(xg.toList==[97])=true:=by simp[L]
 rcases vQ (xr=1) with hr1|hr1
 rotate_left
 .have t3:(xr !=1)=true:=by simp[hr1]
  have S:=AA (show Cb P=false by rw[j9.u,decide_eq_false hr1];simp);clear j9 L eg hr1;go_in;go_wp2;go_ret;exact⟨AF S.symm,av.u⟩
 have t3:(xr !=1)=false:=by simp[hr1]
 have mf:=AA (show Cb P=(yL 4).all (Ga P) by rw[j9.u,decide_eq_true (eg.2 L),decide_eq_true hr1];rfl);clear j9 L eg hr1;go_in;go_wp2_with fail;generalize w.alloc _=W0 at*;clear x0 K x2 x3 x4 x5 x6 x7 x8 D1 F1 F2 t1 t2 t3;go_loopw [4,5] (λix _ wr=>∃k:Nat,k<=4/\ix=.int .i64 k/\(∀j,j<k->Ga P j=true)/\Γ W0 W0 wr) (λix _ _=>4 - (intOf ix).toNat)
 exact⟨0,yt _,rfl,λj hj=>absurd hj (xV _),yN _ _⟩
 obtain⟨k,hk,rfl,bp,V⟩:=hrel;have cN:=AA bp;clear bp
 by_cases ad:k<4
 .have lK:(k:Int)<4:=ω
  have nU:(k:Int)<P.low.length:=by have:=mo.u;omega
  obtain⟨x0,K,_,_,_,x5,_,_,_⟩:=AC (AB HN V);have ef:=AU (AB HN V);obtain⟨bl,ol,rfl,DL⟩:=(Y.below V).at (k:=k) (by have:=mo.u;omega);obtain⟨bm,om,br,jp,cr,rfl,oh,pd,og,t7,li⟩:=HM.row4 (Aq X.u).1 rE;have DM:=(V.cell (yK _ _ pd)).trans pd;have DW:=(V.cell (yK _ _ (li k ad))).trans (li k ad);have jO:=yK _ _ DM;have jN:=yK _ _ DW;have LO:=AA (show Ga P k=(Bj (Bd P.low k) 0 11&&decide (Aw P.V0.mem (Ab P.V0 0).toNat k=Ip (Bd P.low k))&&Gp P.V0.Zh (Bd P.low k).toNat) from rfl);rw[AS.u,yq] at LO;rw[show nth P.low k=Bd P.low k from rfl] at DL;generalize Bd P.low k=fv at DL LO;generalize Aw P.V0.mem rn k=tw at DW LO;clear pd li oh og;have lj:=λW (hW:Γ wr wr W)=>A4 (EZ fv W)
  cases ge:Bj fv 0 11
  .rw[ge] at lj LO
   have CF:=AA lj;have ig:Ga P k=false:=by rw[LO.u];rfl
   clear lj LO ge;have S:=AA (mf.trans (H7 ad ig));go_wp2_with fail;refine Ac 36 86 [.i fv,.b false,.b true,.b true,.u,.u,.u,.u,.u,.u,.u,.u,.u,.u,.u,.u,.b true,.b true,.u,.u,.u,.u,.u,.u,.u,.u,.b true,.b true,.u,.u,.u,.u,.u,.u,.u,.u] (λ_ _ _=>True) ?_ ?_
   .intro i hi o D a wx E A Z x1 X
    match i,hi with
    |0,_|2,_|3,_|16,_|17,_|26,_|27,_=>exact sP D X E A
    |1,_=>exact sD D X E A (CF _ Z)
    |4,_|5,_|6,_|7,_|8,_|9,_|10,_|11,_|12,_|13,_|14,_|15,_|18,_|19,_|20,_|21,_|22,_|23,_|24,_|25,_|28,_|29,_|30,_|31,_|32,_|33,_|34,_|35,_=>exact sB D X A
    |_+36,hq=>omega
   intro vs wx hR Z
   have iq:(vs 27)=.bool true:=Bh hR 27;clear hR;simp only[Ai,Ae,yL,yI,yJ,yH,iq];simp;clear iq;have ii:=V.trans (Z.mono V.size);clear Z x0 K DM DW;go_wp2;go_ret;exact⟨AF S.symm,av.trans (ii.mono av.size)⟩
  have ab:=Aa.1 ge;obtain⟨fr,rfl⟩:∃x:Nat,fv=(x:Int):=⟨fv.toNat,ω⟩
  have jG:fr<12:=ω;have tl:(fr:Int)<12:=ω;have ty:(fr:Int)<P.V0.Zh.length:=by have:=kE.u;omega
  rw[ge] at lj LO;have CF:=AA lj;have ph:=λW (hW:Γ wr wr W)=>M5 (fr:Int) W ω ω
  rw[yq,wg] at LO;generalize Ip (fr:Int)=en_ at LO ph;have CP:=AA ph;obtain⟨Hm,D6,e9,lT,_,F1,F2⟩:=(HI.below V).zZ (k:=fr) (by have:=kE.u;omega);cases e9;have kx:=yK _ _ F1;have jo:Ga P k=(decide (tw=en_)&&(decide ((JR P.V0.Zh fr).g=gA)&&decide ((JR P.V0.Zh fr).r=1))):=LO.u;clear lj ph LO ge ab lT;generalize JR P.V0.Zh fr=x at F1 F2 jo;obtain⟨D3,xg,xr⟩:=x;dsimp only at F1 F2 jo
  rcases vQ (tw=en_) with et|et
  rotate_left
  .have t1:(tw !=en_)=true:=by simp[et]
   have ig:Ga P k=false:=by rw[jo,decide_eq_false et];rfl
   clear jo et;have S:=AA (mf.trans (H7 ad ig));go_wp2_with fail;refine Ac 36 86 [.i ((fr:Int)),.b true,.b false,.b false,.p w.heap.size 0,.p w.heap.size 0,.v (.slice (some ⟨bm,om,none⟩) P.V0.mem.length cm),.i ((rn:Int)),.p bm (om+rn),.v (.slice (some ⟨br,jp,none⟩) 4 cr),.i ((k:Int)),.p br (jp+k),.i tw,.i ((fr:Int)),.i en_,.b true,.b true,.b true,.u,.u,.u,.u,.u,.u,.u,.u,.b true,.b true,.u,.u,.u,.u,.u,.u,.u,.u] (λ_ _ _=>True) ?_ ?_
   .intro i hi o D a wx E A Z x1 X
    match i,hi with
    |0,_|2,_|3,_|4,_|5,_|7,_|10,_|13,_|16,_|17,_|26,_|27,_=>exact sP D X E A
    |1,_=>exact sD D X E A (CF _ Z)
    |6,_=>exact sL D X E A (hl:=GZ (bc Z ef x0))
    |8,_|11,_=>exact sI D X E A (hr:=by clear A E X;go_simp)
    |9,_=>exact sL D X E A (hl:=K5 (bc Z jO DM))
    |12,_=>exact sL D X E A (hl:=GO (bc Z jN DW))
    |14,_=>exact sD D X E A (CP _ Z)
    |18,_|19,_|20,_|21,_|22,_|23,_|24,_|25,_|28,_|29,_|30,_|31,_|32,_|33,_|34,_|35,_=>exact sB D X A
    |15,_=>obtain rfl:=yP D;have ij:(a.tmps[61]?.getD Θ)=.int .i64 tw:=Bc A 12;have kW:(a.tmps[63]?.getD Θ)=.int .i64 en_:=Bc A 14;have d3:(a.tmps[52]?.getD Θ)=.bool false:=Bc A 3;clear A E;refine AZ.yes rfl rfl d3 ?_;go_simp;exact X _ _ rfl (yN _ _)
    |_+36,hq=>omega
   intro vs wx hR Z
   have iq:(vs 27)=.bool true:=Bh hR 27;clear hR;simp only[Ai,Ae,yL,yI,yJ,yH,iq];simp;clear iq;have ii:=V.trans (Z.mono V.size);clear Z x0 K DM DW;go_wp2;go_ret;exact⟨AF S.symm,av.trans (ii.mono av.size)⟩
  have t1:(tw !=en_)=false:=by simp[et]
  rw[decide_eq_true et,wg] at jo;have eg:xg=gA↔xg.toList=[97]:=⟨λh=>by subst h;rw[xA];rfl,λh=>by rw[xA] at h;cases xg with|mk d=>cases d with|mk l=>simp at h;subst h;rfl⟩;clear et
  rcases vQ (xg.toList=[97]) with L|L
  rotate_left
  .have t2:(xg.toList==[97])=false:=by simp[L]
   have ig:Ga P k=false:=by rw[jo,decide_eq_false (λh=>L (eg.1 h))];rfl
   clear jo L eg;have S:=AA (mf.trans (H7 ad ig));go_wp2_with fail;refine Ac 36 86 [.i ((fr:Int)),.b true,.b false,.b false,.p w.heap.size 0,.p w.heap.size 0,.v (.slice (some ⟨bm,om,none⟩) P.V0.mem.length cm),.i ((rn:Int)),.p bm (om+rn),.v (.slice (some ⟨br,jp,none⟩) 4 cr),.i ((k:Int)),.p br (jp+k),.i tw,.i ((fr:Int)),.i en_,.b false,.b false,.b false,.p w.heap.size 0,.p w.heap.size 1,.v (.slice (some ⟨bi,oi,none⟩) P.V0.Zh.length ci),.i ((fr:Int)),.p bi (oi+fr*3),.p bi (oi+fr*3+1),.t xg,.b true,.b true,.b true,.u,.u,.u,.u,.u,.u,.u,.u] (λ_ _ _=>True) ?_ ?_
   .intro i hi o D a wx E A Z x1 X
    match i,hi with
    |0,_|2,_|3,_|4,_|5,_|7,_|10,_|13,_|16,_|17,_|18,_|19,_|21,_|23,_|26,_|27,_=>exact sP D X E A
    |1,_=>exact sD D X E A (CF _ Z)
    |6,_=>exact sL D X E A (hl:=GZ (bc Z ef x0))
    |8,_|11,_|22,_=>exact sI D X E A (hr:=by clear A E X;go_simp)
    |9,_=>exact sL D X E A (hl:=K5 (bc Z jO DM))
    |12,_=>exact sL D X E A (hl:=GO (bc Z jN DW))
    |14,_=>exact sD D X E A (CP _ Z)
    |20,_=>exact sL D X E A (hl:=Gt (bc Z ef K))
    |24,_=>exact sL D X E A (hl:=aM (bc Z kx F1))
    |28,_|29,_|30,_|31,_|32,_|33,_|34,_|35,_=>exact sB D X A
    |15,_=>obtain rfl:=yP D;have ij:(a.tmps[61]?.getD Θ)=.int .i64 tw:=Bc A 12;have kW:(a.tmps[63]?.getD Θ)=.int .i64 en_:=Bc A 14;have d3:(a.tmps[52]?.getD Θ)=.bool false:=Bc A 3;clear A E;refine AZ.yes rfl rfl d3 ?_;go_simp;exact X _ _ rfl (yN _ _)
    |25,_=>obtain rfl:=yP D;have p8:(a.tmps[73]?.getD Θ)=.string xg:=Bc A 24;have lZ:(a.tmps[66]?.getD Θ)=.bool false:=Bc A 17;clear A E;refine AZ.yes rfl rfl lZ ?_;go_simp;exact X _ _ rfl (yN _ _)
    |_+36,hq=>omega
   intro vs wx hR Z
   have iq:(vs 27)=.bool true:=Bh hR 27;clear hR;simp only[Ai,Ae,yL,yI,yJ,yH,iq];simp;clear iq;have ii:=V.trans (Z.mono V.size);clear Z x0 K DM DW;go_wp2;go_ret;exact⟨AF S.symm,av.trans (ii.mono av.size)⟩
  have t2:(xg.toList==[97])=true:=by simp[L]
  rw[decide_eq_true (eg.2 L),wg] at jo;clear L eg
  rcases vQ (xr=1) with hr1|hr1
  rotate_left
  .have t3:(xr !=1)=true:=by simp[hr1]
   have ig:Ga P k=false:=by rw[jo,decide_eq_false hr1]
   clear jo hr1;have S:=AA (mf.trans (H7 ad ig));go_wp2_with fail;refine Ac 36 86 [.i ((fr:Int)),.b true,.b false,.b false,.p w.heap.size 0,.p w.heap.size 0,.v (.slice (some ⟨bm,om,none⟩) P.V0.mem.length cm),.i ((rn:Int)),.p bm (om+rn),.v (.slice (some ⟨br,jp,none⟩) 4 cr),.i ((k:Int)),.p br (jp+k),.i tw,.i ((fr:Int)),.i en_,.b false,.b false,.b false,.p w.heap.size 0,.p w.heap.size 1,.v (.slice (some ⟨bi,oi,none⟩) P.V0.Zh.length ci),.i ((fr:Int)),.p bi (oi+fr*3),.p bi (oi+fr*3+1),.t xg,.b false,.b false,.b false,.p w.heap.size 0,.p w.heap.size 1,.v (.slice (some ⟨bi,oi,none⟩) P.V0.Zh.length ci),.i ((fr:Int)),.p bi (oi+fr*3),.p bi (oi+fr*3+2),.i xr,.b true] (λ_ _ _=>True) ?_ ?_
   .intro i hi o D a wx E A Z x1 X
    have bP:=bc Z ef x0;have bu:=bc Z jO DM;have bx:=bc Z jN DW;have bE:=bc Z ef K;have bt:=bc Z kx F1;have dg:=bc Z kx F2
    match i,hi with
    |0,_|2,_|3,_|4,_|5,_|7,_|10,_|13,_|16,_|17,_|18,_|19,_|21,_|23,_|26,_|27,_|28,_|29,_|31,_|33,_=>exact sP D X E A
    |1,_=>exact sD D X E A (CF _ Z)
    |6,_=>exact sL D X E A (hl:=GZ ‹_›)
    |8,_|11,_|22,_|32,_=>exact sI D X E A (hr:=by clear A E X;go_simp)
    |9,_=>exact sL D X E A (hl:=K5 ‹_›)
    |12,_|34,_=>exact sL D X E A (hl:=GO ‹_›)
    |14,_=>exact sD D X E A (CP _ Z)
    |20,_|30,_=>exact sL D X E A (hl:=Gt ‹_›)
    |24,_=>exact sL D X E A (hl:=aM ‹_›)
    |15,_=>clear bP bu bx bE bt dg;obtain rfl:=yP D;have ij:(a.tmps[61]?.getD Θ)=.int .i64 tw:=Bc A 12;have kW:(a.tmps[63]?.getD Θ)=.int .i64 en_:=Bc A 14;have d3:(a.tmps[52]?.getD Θ)=.bool false:=Bc A 3;clear A E;refine AZ.yes rfl rfl d3 ?_;go_simp;exact X _ _ rfl (yN _ _)
    |25,_=>clear bP bu bx bE bt dg;obtain rfl:=yP D;have p8:(a.tmps[73]?.getD Θ)=.string xg:=Bc A 24;have lZ:(a.tmps[66]?.getD Θ)=.bool false:=Bc A 17;clear A E;refine AZ.yes rfl rfl lZ ?_;go_simp;exact X _ _ rfl (yN _ _)
    |35,_=>clear bP bu bx bE bt dg;obtain rfl:=yP D;have xf:(a.tmps[83]?.getD Θ)=.int .i64 xr:=Bc A 34;have oN:(a.tmps[76]?.getD Θ)=.bool false:=Bc A 27;clear A E;refine AZ.yes rfl rfl oN ?_;go_simp;exact X _ _ rfl (yN _ _)
    |_+36,hq=>omega
   intro vs wx hR Z
   have iq:(vs 27)=.bool false:=Bh hR 27;have lk:(vs 35)=.bool true:=Bh hR 35;clear hR;simp only[Ai,Ae,yL,yI,yJ,yH,iq,lk];simp;clear iq lk;have ii:=V.trans (Z.mono V.size);clear Z x0 K DM DW;go_wp2;go_ret;exact⟨AF S.symm,av.trans (ii.mono av.size)⟩
  have t3:(xr !=1)=false:=by simp[hr1]
  have fp:Ga P k=true:=by rw[jo,decide_eq_true hr1]
  clear jo hr1;have S:=AA (fp);go_wp2_with fail;refine Ac 36 86 [.i ((fr:Int)),.b true,.b false,.b false,.p w.heap.size 0,.p w.heap.size 0,.v (.slice (some ⟨bm,om,none⟩) P.V0.mem.length cm),.i ((rn:Int)),.p bm (om+rn),.v (.slice (some ⟨br,jp,none⟩) 4 cr),.i ((k:Int)),.p br (jp+k),.i tw,.i ((fr:Int)),.i en_,.b false,.b false,.b false,.p w.heap.size 0,.p w.heap.size 1,.v (.slice (some ⟨bi,oi,none⟩) P.V0.Zh.length ci),.i ((fr:Int)),.p bi (oi+fr*3),.p bi (oi+fr*3+1),.t xg,.b false,.b false,.b false,.p w.heap.size 0,.p w.heap.size 1,.v (.slice (some ⟨bi,oi,none⟩) P.V0.Zh.length ci),.i ((fr:Int)),.p bi (oi+fr*3),.p bi (oi+fr*3+2),.i xr,.b false] (λ_ _ _=>True) ?_ ?_
  .intro i hi o D a wx E A Z x1 X
   have bP:=bc Z ef x0;have bu:=bc Z jO DM;have bx:=bc Z jN DW;have bE:=bc Z ef K;have bt:=bc Z kx F1;have dg:=bc Z kx F2
   match i,hi with
   |0,_|2,_|3,_|4,_|5,_|7,_|10,_|13,_|16,_|17,_|18,_|19,_|21,_|23,_|26,_|27,_|28,_|29,_|31,_|33,_=>exact sP D X E A
   |1,_=>exact sD D X E A (CF _ Z)
   |6,_=>exact sL D X E A (hl:=GZ ‹_›)
   |8,_|11,_|22,_|32,_=>exact sI D X E A (hr:=by clear A E X;go_simp)
   |9,_=>exact sL D X E A (hl:=K5 ‹_›)
   |12,_|34,_=>exact sL D X E A (hl:=GO ‹_›)
   |14,_=>exact sD D X E A (CP _ Z)
   |20,_|30,_=>exact sL D X E A (hl:=Gt ‹_›)
   |24,_=>exact sL D X E A (hl:=aM ‹_›)
   |15,_=>clear bP bu bx bE bt dg;obtain rfl:=yP D;have ij:(a.tmps[61]?.getD Θ)=.int .i64 tw:=Bc A 12;have kW:(a.tmps[63]?.getD Θ)=.int .i64 en_:=Bc A 14;have d3:(a.tmps[52]?.getD Θ)=.bool false:=Bc A 3;clear A E;refine AZ.yes rfl rfl d3 ?_;go_simp;exact X _ _ rfl (yN _ _)
   |25,_=>clear bP bu bx bE bt dg;obtain rfl:=yP D;have p8:(a.tmps[73]?.getD Θ)=.string xg:=Bc A 24;have lZ:(a.tmps[66]?.getD Θ)=.bool false:=Bc A 17;clear A E;refine AZ.yes rfl rfl lZ ?_;go_simp;exact X _ _ rfl (yN _ _)
   |35,_=>clear bP bu bx bE bt dg;obtain rfl:=yP D;have xf:(a.tmps[83]?.getD Θ)=.int .i64 xr:=Bc A 34;have oN:(a.tmps[76]?.getD Θ)=.bool false:=Bc A 27;clear A E;refine AZ.yes rfl rfl oN ?_;go_simp;exact X _ _ rfl (yN _ _)
   |_+36,hq=>omega
  intro vs wx hR Z
  have iq:(vs 27)=.bool false:=Bh hR 27;have lk:(vs 35)=.bool false:=Bh hR 35;clear hR;simp only[Ai,Ae,yL,yI,yJ,yH,iq,lk];simp;clear iq lk;have ii:=V.trans (Z.mono V.size);clear Z x0 K DM DW;go_wp2;go_roundw;exact⟨k+1,ω,ξ,Am cN S.u,ii⟩;simp[intOf];omega
 have ek:k=4:=ω;have bp:=cN.u;rw[ek] at bp;have S:=AA (mf.trans (yr.2 λj hj=>bp j (yi.1 hj)));have lK:¬(k:Int)<4:=ω;clear cN bp;go_wp2;go_ret;exact⟨AF S.symm,av.trans (V.mono av.size)⟩
theorem WI{l:List Bx}{k s:Nat}(hk:k<l.length):Cm (l.take (k+1)) s=Cm (l.take k) s+(if(AD l k).w=2/\(AD l k).a=(s:Int) then 1 else 0):=by
 unfold Cm;rw[DA (x:=AD l k) (A6 hk),List.countP_append]
 congr 1
 simp only[List.countP_cons,List.countP_nil,DK,yD,decide_eq_true_eq,Nat.zero_add]
theorem Y2{l:List Bx}{s:Nat}:Cm l s<=l.length:=by unfold Cm;exact List.countP_le_length
theorem Vk (mv iv ev cv sv lv qv:Φ)(P:AP)(w:Ω)(h:JA w mv iv ev cv sv lv qv P)(iu:P.swap.length=16)(iw:P.Xs.length<=1048576):
 Ξ prog 44 #[AN mv iv ev cv sv lv qv P.FU P.VO] w λr w'=>r=.returned (.bool ((yL 16).all (ET P)))/\Γ w w w':=by
 unfold AN;obtain⟨res,eL⟩:∃res,res=(yL 16).all (ET P):=⟨_,rfl⟩
 rw[<-eL];have mj:=AA eL;clear eL;obtain⟨N0,b0⟩:=EU w (.cells #[mv,iv,ev,cv,sv,lv,qv,P.FU,P.VO] 32);have h0:=h.below b0;obtain⟨aq,cq,rfl,_,_,qt⟩:=BK.open F7 ψ h0.2.2.2;obtain⟨qe,p9,rfl,_,_,jB⟩:=h0.2.1.open;obtain⟨_,_,_,_,x4,_,x6,_,_⟩:=AC N0;have mh:=AA iu;clear h iu N0 h0;go_in;go_wp2_with fail;generalize w.alloc _=W0 at*;have HQ:=AA qt;have HS:=AA jB;have av:=AA b0;clear qt jB b0;go_loopw [3,4,5] (λix _ _ wr=>∃i0:Nat,i0<=16/\ix=.int .i64 i0/\(∀j,j<i0->ET P j=true)/\W0=wr) (λix _ _ _=>16 - (intOf ix).toNat)
 exact⟨0,yt _,rfl,λj hj=>absurd hj (xV _),rfl⟩
 obtain⟨i0,hi,rfl,bp,rfl⟩:=hrel;have cN:=AA bp;clear bp
 by_cases ad:i0<16
 .have mF:(i0:Int)<P.swap.length:=by have:=mh.u;omega
  go_wp2_with fail;go_loopw [4,5] (λs4 s5 wi=>∃k:Nat,k<=P.Xs.length/\s5=.int .i64 k/\s4=.int .i64 (Cm (P.Xs.take k) i0:Nat)/\W0=wi) (λ_ s5 _=>P.Xs.length - (intOf s5).toNat)
  exact⟨0,yt _,rfl,rfl,rfl⟩
  obtain⟨k,hk,rfl,rfl,rfl⟩:=hrel
  by_cases nU:k<P.Xs.length
  .have lK:(k:Int)<P.Xs.length:=ω
   obtain⟨b,ie,rfl,_,D0,D1,_⟩:=HQ.zB nU;have S:=WI (s:=i0) nU;have j6:=Y2 (l:=P.Xs.take k) (s:=i0);rw[List.length_take] at j6
   by_cases hw:(AD P.Xs k).w=2
   .have t0:((AD P.Xs k).w==2)=true:=by simp[hw]
    by_cases ha:(AD P.Xs k).a=(i0:Int)
    .have t1:((AD P.Xs k).a==(i0:Int))=true:=by simp[ha]
     rw[if_pos ⟨hw,ha⟩] at S;have S:=AA S;generalize Cm (P.Xs.take k) i0=n0 at*;clear hw ha;go_wp2;go_roundw;exact⟨k+1,ω,ξ,by rw[S.u];go_num,by first|rfl|trivial⟩;simp[intOf];omega
    have t1:((AD P.Xs k).a==(i0:Int))=false:=by simp[ha]
    rw[if_neg (λh=>ha h.2)] at S;have S:=AA S;clear hw ha;go_wp2;go_roundw;exact⟨k+1,ω,ξ,by rw[S.u,xT],by first|rfl|trivial⟩;simp[intOf];omega
   have t0:((AD P.Xs k).w==2)=false:=by simp[hw]
   rw[if_neg (λh=>hw h.1)] at S;have S:=AA S;clear hw;go_wp2;go_roundw;exact⟨k+1,ω,ξ,by rw[S.u,xT],by first|rfl|trivial⟩;simp[intOf];omega
  obtain rfl:k=P.Xs.length:=ω;have lK:¬(P.Xs.length:Int)<P.Xs.length:=ω;rw[List.take_length];obtain⟨b,ie,u,rfl,bf,ho,hr⟩:=HS i0 (by have:=mh.u;omega);obtain⟨au,cu,rfl,_,_,_⟩:=hr.open;have SO:ET P i0=decide (Cm P.Xs i0=if(AK P.swap i0).isEmpty then 0 else 1):=rfl;have EM:(AK P.swap i0).isEmpty=true↔(AK P.swap i0).length=0:=by cases AK P.swap i0<;>simp
  have kL:=AA (λ(hx:ET P i0=false)=>(mj.trans (H7 ad hx):res=false));generalize Cm P.Xs i0=n0 at SO ⊢;have sx:(0:Int)<=((AK P.swap i0).length:Int):=ω;by_cases O:1<n0
  .have t1:(1:Int)<(n0:Int):=ω
   have S:=AA (kL (by rw[SO];split<;>simp<;>omega));clear SO EM hr;go_wp2;go_ret;exact⟨AF S.symm,av.u⟩
  have t1:¬(1:Int)<(n0:Int):=ω;by_cases he:(AK P.swap i0).length=0
  .have t2:¬(0:Int)<((AK P.swap i0).length:Int):=ω
   have qL:decide (0<(AK P.swap i0).length)=false:=decide_eq_false ω;rw[if_pos (EM.2 he)] at SO
   by_cases hn:n0=0
   .have t3:((n0:Int)==1)=false:=beq_eq_false_iff_ne.2 ω
    have S:=AA (show ET P i0=true by rw[SO];simp[hn]);clear SO EM hr hn he;go_wp2;go_roundw;exact⟨i0+1,ω,ξ,Am cN S.u,by first|rfl|trivial⟩;simp[intOf];omega
   have t3:((n0:Int)==1)=true:=beq_iff_eq.2 ω;have S:=AA (kL (by rw[SO];simp[hn]));clear SO EM hr hn he;go_wp2;go_ret;exact⟨AF S.symm,av.u⟩
  have t2:(0:Int)<((AK P.swap i0).length:Int):=ω;have qL:decide (0<(AK P.swap i0).length)=true:=decide_eq_true ω;rw[if_neg (λh=>he (EM.1 h))] at SO
  by_cases hn:n0=1
  .have t3:((n0:Int)==1)=true:=beq_iff_eq.2 ω
   have S:=AA (show ET P i0=true by rw[SO];simp[hn]);clear SO EM hr hn he;go_wp2;go_roundw;exact⟨i0+1,ω,ξ,Am cN S.u,by first|rfl|trivial⟩;simp[intOf];omega
  have t3:((n0:Int)==1)=false:=beq_eq_false_iff_ne.2 ω;have S:=AA (kL (by rw[SO];simp[hn]));clear SO EM hr hn he;go_wp2;go_ret;exact⟨AF S.symm,av.u⟩
 have ek:i0=16:=ω;have bp:=cN.u;rw[ek] at bp;have S:=AA (show res=true from mj.trans (yr.2 λj hj=>bp j (yi.1 hj)));have mF:¬(i0:Int)<P.swap.length:=by have:=mh.u;omega
 clear cN bp;go_wp2;go_ret;exact⟨AF S.symm,av.u⟩
theorem EQ (mv iv ev cv sv lv qv:Φ)(P:AP)(w:Ω)(h:JA w mv iv ev cv sv lv qv P)(R:Gs P.V0):
 Ξ prog 16 #[AN mv iv ev cv sv lv qv P.FU P.VO] w λr w'=>r=.returned (.bool (BN P))/\Γ w w w':=by
 obtain⟨po,hpo⟩:∃po,po=BN P:=⟨_,rfl⟩
 rw[<-hpo];have PO:=AA (show po=(Cx P.V0&&F9 P.swap&&IN P.V0&&Cb P&&decide (P.Xs.length=16)&&(yL 16).all (ET P)&&(yL 16).all (IC P)&&Bj P.FU 0 15&&Bj P.VO 1 6&&decide ((Al P.Xs 1:Int)<=P.VO)) from hpo);clear hpo;unfold AN;obtain⟨N0,b0⟩:=EU w (.cells #[mv,iv,ev,cv,sv,lv,qv,P.FU,P.VO] 32);have HR:=AA (h.below b0);have Hs:=AA R;obtain⟨aq,cq,rfl,_,_⟩:=h.2.2.2.shape;obtain⟨x0,K,x2,x3,x4,x5,x6,x7,x8⟩:=AC N0;clear h R;go_in;go_wp2_with fail;generalize w.alloc _=W0 at*;have HN:=AA N0;have av:=AA b0;have V:Γ W0 W0 W0:=yN _ _;clear N0 b0;cases e1:Cx P.V0
 .have S:=AA (show po=false by rw[PO.u];simp[e1])
  have C:=LF mv iv ev cv P.V0 _ (HR.1.below V) Hs.u;rw[e1] at C;clear e1;go_wp2_with (refine C.mono ?_;rintro r w_ ⟨rfl,cF⟩;clear x0 K x2 x3 x4 x5 x6 x7 x8);go_ret;exact⟨AF S.symm,av.trans ((V.trans (cF.mono V.size)).mono av.size)⟩
 have C:=LF mv iv ev cv P.V0 _ (HR.1.below V) Hs.u;rw[e1] at C;have T1:=AA e1;rw[e1] at PO;clear e1;go_wp2_with fail;refine C.mono ?_;rintro r w_ ⟨rfl,cF⟩;replace V:=V.trans (cF.mono V.size);clear cF C x0 K x2 x3 x4 x5 x6 x7 x8;obtain⟨x0,K,x2,x3,x4,x5,x6,x7,x8⟩:=AC (AB HN V);cases e2:F9 P.swap
 .have S:=AA (show po=false by rw[PO.u];simp[e2])
  have C:=Iv sv P.swap _ (HR.2.1.below V);rw[e2] at C;clear e2;go_wp2_with (refine C.mono ?_;rintro r w_ ⟨rfl,cF⟩;clear x0 K x2 x3 x4 x5 x6 x7 x8);go_ret;exact⟨AF S.symm,av.trans ((V.trans (cF.mono V.size)).mono av.size)⟩
 have C:=Iv sv P.swap _ (HR.2.1.below V);rw[e2] at C;have T2:=AA e2;rw[e2] at PO;clear e2;go_wp2_with fail;refine C.mono ?_;rintro r w_ ⟨rfl,cF⟩;replace V:=V.trans (cF.mono V.size);clear cF C x0 K x2 x3 x4 x5 x6 x7 x8;obtain⟨x0,K,x2,x3,x4,x5,x6,x7,x8⟩:=AC (AB HN V);cases e3:IN P.V0
 .have S:=AA (show po=false by rw[PO.u];simp[e3])
  have C:=Oj mv iv ev cv P.V0 _ (HR.1.2.2.1.below V) (FI.1 T1.u).zX Hs.2;rw[e3] at C;clear e3;go_wp2_with (refine C.mono ?_;rintro r w_ ⟨rfl,cF⟩;clear x0 K x2 x3 x4 x5 x6 x7 x8);go_ret;exact⟨AF S.symm,av.trans ((V.trans (cF.mono V.size)).mono av.size)⟩
 have C:=Oj mv iv ev cv P.V0 _ (HR.1.2.2.1.below V) (FI.1 T1.u).zX Hs.2;rw[e3] at C;have T3:=AA e3;rw[e3] at PO;clear e3;go_wp2_with fail;refine C.mono ?_;rintro r w_ ⟨rfl,cF⟩;replace V:=V.trans (cF.mono V.size);clear cF C x0 K x2 x3 x4 x5 x6 x7 x8;obtain⟨x0,K,x2,x3,x4,x5,x6,x7,x8⟩:=AC (AB HN V);have TX:=AA (λW (hW:Γ W0 W0 W)=>UC mv iv ev cv sv lv _ P W (HR.below hW) T1.u);unfold AN at TX;cases e4:Cb P
 .have S:=AA (show po=false by rw[PO.u];simp[e4])
  have C:=TX _ V;rw[e4] at C;clear e4;go_wp2_with (refine C.mono ?_;rintro r w_ ⟨rfl,cF⟩;clear x0 K x2 x3 x4 x5 x6 x7 x8);go_ret;exact⟨AF S.symm,av.trans ((V.trans (cF.mono V.size)).mono av.size)⟩
 have C:=TX _ V;rw[e4] at C;have T4:=AA e4;rw[e4] at PO;clear e4;go_wp2_with fail;refine C.mono ?_;rintro r w_ ⟨rfl,cF⟩;replace V:=V.trans (cF.mono V.size);clear cF C x0 K x2 x3 x4 x5 x6 x7 x8;obtain⟨x0,K,x2,x3,x4,x5,x6,x7,x8⟩:=AC (AB HN V);clear TX
 rcases vQ (P.Xs.length=16) with iw|iw
 rotate_left
 .have S:=AA (show po=false by rw[PO.u];simp[iw])
  have t5:((P.Xs.length:Int) !=16)=true:=bne_iff_ne.2 ω;clear iw;go_wp2;go_ret;exact⟨AF S.symm,av.trans (V.mono av.size)⟩
 have t5:((P.Xs.length:Int) !=16)=false:=by rw[iw];rfl
 have ml:=AA iw;rw[decide_eq_true iw] at PO;clear iw;have SX:=AA (λW (hW:Γ W0 W0 W)=>Vk mv iv ev cv sv lv _ P W (HR.below hW) (Hv.1 T2.u).1 (by have:=ml.u;omega));unfold AN at SX;obtain⟨sl,iu⟩:∃sl,sl=(yL 16).all (ET P):=⟨_,rfl⟩
 rw[<-iu] at SX PO;clear iu;cases e6:sl
 .have S:=AA (show po=false by rw[PO.u];simp[e6])
  have C:=SX _ V;rw[e6] at C;clear e6;go_wp2_with (refine C.mono ?_;rintro r w_ ⟨rfl,cF⟩;clear x0 K x2 x3 x4 x5 x6 x7 x8);go_ret;exact⟨AF S.symm,av.trans ((V.trans (cF.mono V.size)).mono av.size)⟩
 have C:=SX _ V;rw[e6] at C;have T6:=AA e6;rw[e6] at PO;clear e6;go_wp2_with fail;refine C.mono ?_;rintro r w_ ⟨rfl,cF⟩;replace V:=V.trans (cF.mono V.size);clear cF C x0 K x2 x3 x4 x5 x6 x7 x8;obtain⟨x0,K,x2,x3,x4,x5,x6,x7,x8⟩:=AC (AB HN V);clear SX t5;have jL:=AA (Tc T4.u);have HF:eh (gV P):=AA ⟨T1.u,T2.u,jL.1,jL.2,ml.u⟩;have pf:=AA (λW (hW:Γ W0 W0 W) n (hn:n<16)=>XE mv iv ev cv sv lv _ P n W (HR.below hW) HF hn);unfold AN at pf;have cg:=AA V;clear V x0 K x2 x3 x4 x5 x6 x7 x8;go_wp2_with fail;go_loopw [3] (λs3 wr=>∃k:Nat,k<=16/\s3=.int .i64 k/\(∀j,j<k->IC P j=true)/\Γ W0 W0 wr) (λs3 _=>16 - (intOf s3).toNat)
 exact⟨0,yt _,rfl,λj hj=>absurd hj (xV _),cg.u⟩
 obtain⟨k,hk,rfl,bp,V⟩:=hrel;have cN:=AA bp;clear bp;obtain⟨x0,K,x2,x3,x4,x5,x6,x7,x8⟩:=AC (AB HN V)
 by_cases ad:k<16
 .have lK:(k:Int)<P.Xs.length:=by have:=ml.u;omega
  have C:=pf wr V k ad;cases e1:IC P k
  .rw[e1] at C
   have S:=AA (show po=false by rw[PO.u,H7 ad e1];simp);clear e1;go_wp2_with (refine C.mono ?_;rintro r w_ ⟨rfl,cF⟩);go_ret;exact⟨AF S.symm,av.trans ((V.trans (cF.mono V.size)).mono av.size)⟩
  rw[e1] at C
  have S:=AA e1;clear e1;go_wp2_with fail;refine C.mono ?_;rintro r w_ ⟨rfl,cF⟩;go_wp2;go_roundw;exact⟨k+1,ω,ξ,Am cN S.u,V.trans (cF.mono V.size)⟩;simp[intOf];omega
 have ek:k=16:=ω;have bp:=cN.u;rw[ek] at bp;have hY:=AA (show po=(Bj P.FU 0 15&&Bj P.VO 1 6&&decide ((Al P.Xs 1:Int)<=P.VO)) by
  rw[PO.u,show(yL 16).all (IC P)=true from yr.2 λj hj=>bp j (yi.1 hj)];simp)
 have lK:¬(k:Int)<P.Xs.length:=by have:=ml.u;omega
 have jh:=AU (AB HN V);have kN:=λW (hW:Γ wr wr W)=>A4 (Cr P.FU 0 15 W)
 have kM:=λW (hW:Γ wr wr W)=>A4 (Cr P.VO 1 6 W)
 have mR:=λW (hW:Γ wr wr W)=>Ol mv iv ev cv sv lv _ P 1 W (BK.below (BK.below HR.2.2.2 V) hW) (by have:=ml.u;omega)
 unfold AN at mR;generalize Al P.Xs 1=cn at mR hY;have CN:=AA mR;clear cN bp mR PO pf;cases O:Bj P.FU 0 15
 .rw[O] at kN
  have CH:=AA kN;have S:=AA (show po=false by rw[hY.u,O];rfl);clear kN kM O;go_wp2_with fail;refine Ac 14 62 [.p w.heap.size 7,.i (P.FU),.b false,.b false,.u,.u,.u,.b false,.b false,.u,.u,.u,.u,.u] (λ_ _ _=>True) ?_ ?_
  .intro i hi o D a wx E A Z x1 X
   match i,hi with
   |0,_|3,_|7,_|8,_=>exact sP D X E A
   |1,_=>exact sL D X E A (hl:=GO (bc Z jh x7))
   |2,_=>exact sD D X E A (CH _ Z)
   |4,_|5,_|6,_|9,_|10,_|11,_|12,_|13,_=>exact sB D X A
  intro vs wx hR Z
  have q8:(vs 8)=.bool false:=Bh hR 8;clear hR;simp only[Ai,Ae,yL,yI,yJ,yH,q8];simp;clear q8;have ii:=V.trans (Z.mono V.size);clear x0 K x2 x3 x4 x5 x6 x7 x8 Z;go_wp2;go_ret;exact⟨AF S.symm,av.trans (ii.mono av.size)⟩
 rw[O] at kN
 have CH:=AA kN;cases z:Bj P.VO 1 6
 .rw[z] at kM
  have CL:=AA kM;have S:=AA (show po=false by rw[hY.u,O,z];rfl);clear kN kM O z;go_wp2_with fail;refine Ac 14 62 [.p w.heap.size 7,.i (P.FU),.b true,.b true,.p w.heap.size 8,.i (P.VO),.b false,.b false,.b false,.u,.u,.u,.u,.u] (λ_ _ _=>True) ?_ ?_
  .intro i hi o D a wx E A Z x1 X
   have bP:=bc Z jh x7;have bu:=bc Z jh x8
   match i,hi with
   |0,_|3,_|4,_|7,_|8,_=>exact sP D X E A
   |1,_|5,_=>exact sL D X E A (hl:=GO ‹_›)
   |2,_=>exact sD D X E A (CH _ Z)
   |6,_=>exact sD D X E A (CL _ Z)
   |9,_|10,_|11,_|12,_|13,_=>exact sB D X A
  intro vs wx hR Z
  have q8:(vs 8)=.bool false:=Bh hR 8;clear hR;simp only[Ai,Ae,yL,yI,yJ,yH,q8];simp;clear q8;have ii:=V.trans (Z.mono V.size);clear x0 K x2 x3 x4 x5 x6 x7 x8 Z;go_wp2;go_ret;exact⟨AF S.symm,av.trans (ii.mono av.size)⟩
 rw[z] at kM
 have CL:=AA kM;have S:=AA (show po=decide ((cn:Int)<=P.VO) by rw[hY.u,O,z];rfl);clear kN kM O z;go_wp2_with fail;refine Ac 14 62 [.p w.heap.size 7,.i (P.FU),.b true,.b true,.p w.heap.size 8,.i (P.VO),.b true,.b true,.b true,.a #[mv,iv,ev,cv,sv,lv,.slice aq P.Xs.length cq,.int .i64 (P.FU),.int .i64 (P.VO)],.i ((cn:Int)),.p w.heap.size 8,.i (P.VO),.b (decide ((cn:Int)<=P.VO))] (λ_ _ _=>True) ?_ ?_
 .intro i hi o D a wx E A Z x1 X
  have bP:=bc Z jh x7;have bu:=bc Z jh x8;have bx:=bc Z jh x0;have bE:=bc Z jh K;have bt:=bc Z jh x2;have dg:=bc Z jh x3;have jZ:=bc Z jh x4;have kP:=bc Z jh x5;have lq:=bc Z jh x6
  match i,hi with
  |0,_|3,_|4,_|7,_|8,_|11,_=>exact sP D X E A
  |1,_|5,_|12,_=>exact sL D X E A (hl:=GO ‹_›)
  |2,_=>exact sD D X E A (CH _ Z)
  |6,_=>exact sD D X E A (CL _ Z)
  |9,_=>exact sL D X E A (hl:=Vr ‹_› ‹_› ‹_› ‹_› ‹_› ‹_› ‹_› ‹_› ‹_›)
  |10,_=>exact sD D X E A (CN _ Z)
  |13,_=>clear bP bu bx bE bt dg jZ kP lq;obtain rfl:=yP D;have mb:(a.tmps[57]?.getD Θ)=.int .i64 cn:=Bc A 10;have ij:(a.tmps[59]?.getD Θ)=.int .i64 (P.VO):=Bc A 12;have d8:(a.tmps[55]?.getD Θ)=.bool true:=Bc A 8;clear A E;refine AZ.yes rfl rfl d8 ?_;go_simp;exact X _ _ rfl (yN _ _)
 intro vs wx hR Z
 have q8:(vs 8)=.bool true:=Bh hR 8;have lp:(vs 13)=.bool (decide ((cn:Int)<=P.VO)):=Bh hR 13;clear hR;simp only[Ai,Ae,yL,yI,yJ,yH,q8,lp];simp;clear q8 lp;have ii:=V.trans (Z.mono V.size);clear x0 K x2 x3 x4 x5 x6 x7 x8 Z;go_wp2;go_ret;exact⟨AF S.symm,av.trans (ii.mono av.size)⟩
theorem Lz (mv iv ev cv sv lv qv:Φ)(P:AP)(w:Ω)(h:JA w mv iv ev cv sv lv qv P)(hP:Dd P)(hn:n<16):
 Ξ prog 79 #[AN mv iv ev cv sv lv qv P.FU P.VO,.int .i64 n] w (Fo w (Bm P n)):=by
 have ex:=λlo W m i e c s l q (h1:Es lo W m i e c s l q P) (hl:lo<=W.heap.size)=>Vl h1 hl hP hn
 have HT:=λ(h:(Bm P n).2=false)=>Gg hP hn h
 generalize Bm P n=t at ex HT ⊢;obtain⟨Q,bb⟩:=t;unfold Nv AN at ex;dsimp only at ex HT ⊢;have ex:=AA ex;have HT:=AA HT;unfold AN Fo AN;obtain⟨N0,N1,ar,bk⟩:=LG w (.cells #[mv,iv,ev,cv,sv,lv,qv,P.FU,P.VO] 32) (.cells #[ι,ι,ι,ι,ι,ι,ι,θ,θ] 32);have h0:=h.below ar;have fp:BN P=true:=Ct.2 hP;obtain⟨x0,K,x2,x3,x4,x5,x6,x7,x8⟩:=AC N0;have jI:=AA bk;clear bk;go_in;go_wp2_with fail;generalize(w.alloc _).alloc _=W0 at*;have CV:=EQ mv iv ev cv sv lv qv P W0 h0 (CJ hP.k);have CO:=AA (λW (hW:Γ W0 W0 W)=>Ki mv iv ev cv sv lv qv P W (h0.below hW) hP);rw[fp] at CV;unfold AN at CV CO;have bD:=AA ar;have av:=AA N0;have cg:=AA N1;have Ho:=AA hP;have kU:Bj (n:Int) 0 15=true:=Aa.2 ω;clear h h0 ar N0 N1 hP fp x0 K x2 x3 x4 x5 x6 x7 x8;refine CV.mono ?_;rintro r w1 ⟨rfl,b1⟩;obtain⟨x0,K,x2,x3,x4,x5,x6,x7,x8⟩:=AC (AB av b1);have hE:=AA b1;clear b1 CV;go_wp2_with fail;refine(Cr _ _ _ _).mono ?_;rintro r w2 ⟨rfl,rfl⟩;rw[kU];go_wp2_with fail;refine(CO w1 hE.u).mono ?_;rintro r w2 ⟨m2,i2,e2,c2,s2,l2,q2,rfl,O2,b2⟩;unfold AN;obtain⟨⟨⟨ma,mn,mc,rfl⟩,⟨ia,iN,ic,rfl⟩,⟨ea,en,ec,rfl⟩,⟨ka,kn,kc,rfl⟩⟩,⟨sa,sn,sc,rfl⟩,⟨la,ln,lc,rfl⟩,⟨pa,pn,pc,rfl⟩⟩:=O2.Dq;have CT:=AA (ex _ _ _ _ _ _ _ _ _ O2 b2.size);clear ex;have jA:=AA b2;clear O2 b2 x0 K x2 x3 x4 x5 x6 x7 x8;go_wp2_with fail;refine CT.mono ?_;rintro r w3 ⟨hy,nQ,b3,s3⟩;have me:=hE.trans ((jA.trans b3).mono hE.size);have B2:=AB (AB cg hE.u) jA.u;have N3:=s3 _ _ B2;cases bb
 focus
  obtain rfl:=nQ rfl
  obtain rfl:=HT rfl;have b4:=AJ w3 (.cells #[.slice ma mn mc,.slice ia iN ic,.slice ea en ec,.slice ka kn kc,.slice sa sn sc,.slice la ln lc,.slice pa pn pc,Q.FU,Q.VO] 32);have B4:=AB N3 b4;have mJ:=me.trans (b4.mono me.size);obtain⟨x0,K,x2,x3,x4,x5,x6,x7,x8⟩:=AC (AB av mJ);have cP:=AA (bD.trans (mJ.mono bD.size));have qE:=AA (CO _ mJ);have iT:=AA B4;clear hy nQ b3 s3 me B2 N3 b4 mJ CT B4;go_wp2_with fail;refine qE.mono ?_;rintro r w5 ⟨m5,i5,e5,c5,s5,l5,q5,rfl,O5,b5⟩;unfold AN;clear x0 K x2 x3 x4 x5 x6 x7 x8 qE;generalize w3.alloc _=W4 at*;obtain⟨⟨⟨_,_,_,rfl⟩,⟨_,_,_,rfl⟩,⟨_,_,_,rfl⟩,⟨_,_,_,rfl⟩⟩,⟨_,_,_,rfl⟩,⟨_,_,_,rfl⟩,⟨_,_,_,rfl⟩⟩:=O5.Dq;have N5:=AB iT b5;have S5:=Bu N5 O5;obtain⟨a0,a1,a2,a3,a4,a5,a6,a7,a8⟩:=AC N5;have f5:=AI N5;have lh:=AA S5;have mr:=AA b5;have ql:=AA (AU iT.u)
 rotate_left
 focus
  obtain⟨m3,i3,e3,c3,D5,l3,q3,rfl,O3⟩:=hy rfl
  obtain⟨⟨⟨ni,nh,bE,rfl⟩,⟨nC,nF,nz,rfl⟩,⟨oG,oA,oD,rfl⟩,⟨nu,nj,np,rfl⟩⟩,⟨mX,mT,mV,rfl⟩,⟨rg,rb,re,rfl⟩,⟨qU,qS,qT,rfl⟩⟩:=O3.Dq;have b5:=AJ w3 (.cells #[.slice ni nh bE,.slice nC nF nz,.slice oG oA oD,.slice nu nj np,.slice mX mT mV,.slice rg rb re,.slice qU qS qT,Q.FU,Q.VO] 32);have O5:=(O3.below b5).lower (lo':=w.heap.size) (yM bD.size hE.size);have cP:=AA (bD.trans (me.mono bD.size));have qy:=AA N3;clear hy nQ b3 s3 me B2 CT O3 N3;have N5:=AB qy b5;have S5:=Bu N5 O5;obtain⟨a0,a1,a2,a3,a4,a5,a6,a7,a8⟩:=AC N5;have f5:=AI N5;have lh:=AA S5;have mr:=AA b5;have ql:=AA (AU qy.u)
 rotate_left
 all_goals
  clear O5 S5 N5 b5;go_wp2_with fail;clear a0 a1 a2 a3 a4 a5 a6 a7 a8 f5;obtain⟨N6,O6,el⟩:=lh.u;have B6:=AM (cP.trans (mr.mono (by have:=cP.size;have:=ql.u;omega))) el ω (by have:=cP.size;have:=mr.size;omega);have O7:=O6.lower (lo':=w.heap.size) (by have:=cP.size;omega);unfold DO at N6 O7 B6;exact yB (v:=.tuple #[.agg #[_,_,_,_,_,_,_,_,_],_]) (by simp[results,Tryz.results79,go_sem,AC N6]) rfl ⟨_,_,_,_,_,_,_,rfl,O7,B6⟩
theorem Md (mv iv ev cv sv lv qv:Φ)(P:AP)(w:Ω)(h:JA w mv iv ev cv sv lv qv P)(hP:Dd P)(ha:a<64):
 Ξ prog 38 #[AN mv iv ev cv sv lv qv P.FU P.VO,.int .i64 a] w (Mt w (GC P a)):=by
 obtain⟨j,hj⟩:∃j,j=a/4:=⟨_,rfl⟩
 have q1:(a:Int)/4=(j:Int):=ω;have hA:Bj (a:Int) 0 63=true:=Aa.2 ω;have iO:=LJ (p:=P) (n:=a/4) hP ω;have iP:=Ot hP ha;have az:=λQ=>XH (p:=P) (a:=a) (Q:=Q)
 have iM:j<16:=ω;have jR:=λ(h:(Bm P j).2=false)=>Gg hP iM h
 have ex:=λW (hR:JA W mv iv ev cv sv lv qv P)=>Lz mv iv ev cv sv lv qv P W hR hP iM
 rw[<-hj] at iO iP az;generalize Bm P j=t at iO iP az ex jR;generalize GC P a=tt at iP az ⊢;obtain⟨Q,bb⟩:=t;dsimp only at iO iP az ex jR;have HC:=λm i e c W (hR:Ns W m i e c Q.V0)=>GT hR iO.k 10 (a:Int) 0 0 ψ
 have az:=az Q;generalize Ad Q.V0 (Ah 10 (a:Int) 0 0)=res at HC az;obtain⟨kr,vr,nr⟩:=res;unfold LT at HC;dsimp only at HC az;have HC:=AA HC;unfold Fo AN at ex;have ex:=AA ex;unfold AN Mt AN;obtain⟨N0,N1,ar,bk⟩:=LG w (.cells #[mv,iv,ev,cv,sv,lv,qv,P.FU,P.VO] 32) (.cells #[ι,ι,ι,ι,ι,ι,ι,θ,θ] 32);have h0:=h.below ar;have fp:BN P=true:=Ct.2 hP;obtain⟨x0,K,x2,x3,x4,x5,x6,x7,x8⟩:=AC N0;have jI:=AA bk;clear bk;go_in;go_wp2_with fail;generalize(w.alloc _).alloc _=W0 at*;have CV:=EQ mv iv ev cv sv lv qv P W0 h0 (CJ hP.k);rw[fp] at CV;have df:=AA h0;have kH:=AA jR;unfold AN at CV;have C7:=AA iO;have kJ:=AA iP;have io:=AA az;have bD:=AA ar;have av:=AA N0;have cg:=AA N1;clear h h0 ar N0 N1 hP fp x0 K x2 x3 x4 x5 x6 x7 x8 iO iP az hj jR;refine CV.mono ?_;rintro r w1 ⟨rfl,b1⟩;obtain⟨x0,K,x2,x3,x4,x5,x6,x7,x8⟩:=AC (AB av b1);have hE:=AA b1;clear b1 CV;go_wp2_with fail;refine(Fz _ _).mono ?_;rintro r w2 ⟨rfl,rfl⟩;rw[hA];go_wp2_with fail;refine(ex w1 (df.below hE.u)).mono ?_;rintro r w2 ⟨m2,i2,e2,c2,s2,l2,q2,rfl,O2,b2⟩;obtain⟨⟨⟨ma,mn,mc,rfl⟩,⟨ia,iN,ic,rfl⟩,⟨ea,en,ec,rfl⟩,⟨qa,qn,qc,rfl⟩⟩,⟨sa,sn,sc,rfl⟩,⟨la,ln,lc,rfl⟩,⟨pa,pn,pc,rfl⟩⟩:=O2.Dq;have bA:=AJ w2 (.cells #[.slice ma mn mc,.slice ia iN ic,.slice ea en ec,.slice qa qn qc,.slice sa sn sc,.slice la ln lc,.slice pa pn pc,Q.FU,Q.VO] 32);have I3:=ID.start O2 b2.size;have cT:=hE.trans ((b2.trans (bA.mono b2.size)).mono hE.size);have ez:=AA I3;have N3:=AA (AB cg cT);have cP:=AA (bD.trans (cT.mono bD.size));have im:=AA (yM bD.size hE.size);have jz:=AA (yM b2.size bA.size);clear O2 bA I3 cT b2 x0 K x2 x3 x4 x5 x6 x7 x8 ex df;cases bb
 focus
  have e:=kJ rfl
  obtain rfl:=kH rfl;subst e;clear kJ io kH HC;have S5:=Bu N3 (ez.own.lower im.u);obtain⟨c0,c1,c2,c3,c4,c5,c6,c7,c8⟩:=ez.cells;obtain⟨a0,a1,a2,a3,a4,a5,a6,a7,a8⟩:=AC N3.u;have f5:=AI N3.u;have lh:=AA S5;clear S5;go_wp2_with fail;obtain⟨N6,O6,el⟩:=lh.u;have B6:=AM cP el ω cP.size
 rotate_left
 focus
  have e:=io rfl
  subst e;have C3:=AA (HC _ _ _ _ _ ez.own.ker.rd);obtain⟨c0,c1,c2,c3,c4,c5,c6,c7,c8⟩:=ez.cells;clear io kJ kH HC;go_wp2_with fail;generalize hg3:w2.heap.size=g3 at*;generalize w2.alloc _=W3 at*;refine C3.mono ?_;rintro r w4 ⟨m4,i4,e4,qd,rfl,O4,b4⟩;obtain⟨⟨iW,iV,bt,rfl⟩,⟨i8,jb,i7,rfl⟩,⟨jl,jj,jk,rfl⟩,⟨iZ,iX,iY,rfl⟩⟩:=O4.Dq;have bA:=AJ w4 (.cells #[.slice iW iV bt,.slice i8 jb i7,.slice jl jj jk,.slice iZ iX iY] 28);have fk:=b4.trans (bA.mono b4.size);have I4:=ez.below fk;have I5:=ez.put fk (yF _) jz (O4.below bA);have G5:=Ar (w4.alloc (.cells #[.slice iW iV bt,.slice i8 jb i7,.slice jl jj jk,.slice iZ iX iY] 28)) g3 (.slice iW iV bt) (.slice i8 jb i7) (.slice jl jj jk) (.slice iZ iX iY);have N4:=AB N3 fk;have ng:g3≠w.heap.size+1:=λe=>by have O:=ez.yT;have z:=AU cg.u;have h3:=hE.size;omega
  have N5:=At N4 G5 ng;have B5:=AM (cP.trans (fk.mono cP.size)) G5 (yM im ez.yT) (yM cP.size fk.size);obtain⟨d0,d1,d2,d3,_⟩:=I4.cells;have fd:=AI I4.yU;generalize hW5:((((w4.alloc _).setCell _ _).setCell _ _).setCell _ _).setCell _ _=W5 at I5 G5 N5 B5;have S6:=Bu N5 (I5.own.lower im.u);obtain⟨y0,y1,y2,y3,y4,y5,y6,y7,y8⟩:=I5.cells;obtain⟨a0,a1,a2,a3,a4,a5,a6,a7,a8⟩:=AC N5;have f5:=AI N5;have kI:=AA S6;have fl:=AA B5;clear S6 b4 bA fk O4 I4 I5 G5 N4 N5 B5 C3 c0 c1 c2 c3 c4 c5 c6 c7 c8;go_wp2_with fail;obtain⟨N6,O6,el⟩:=kI.u;have B6:=AM fl el ω fl.size
 rotate_left
 all_goals
  unfold DO at N6 O6 B6;exact yB (v:=.tuple #[.agg #[_,_,_,_,_,_,_,_,_],_,_]) (by simp[results,Tryz.results38,go_sem,AC N6]) rfl ⟨_,_,_,_,_,_,_,rfl,O6,B6⟩
theorem Jw (mv iv ev cv sv lv qv:Φ)(P:AP)(w:Ω)(h:JA w mv iv ev cv sv lv qv P)(hP:Dd P)(ha:a<64)(hx:Dx x=true):
 Ξ prog 39 #[AN mv iv ev cv sv lv qv P.FU P.VO,.int .i64 a,.int .i64 x] w (Fo w (Gf P a x)):=by
 obtain⟨j,hj⟩:∃j,j=a/4:=⟨_,rfl⟩
 have q1:(a:Int)/4=(j:Int):=ω;have hA:Bj (a:Int) 0 63=true:=Aa.2 ω;have iO:=LJ (p:=P) (n:=a/4) hP ω;have iP:=PM (w:=x) hP ha;have az:=λQ=>U9 (p:=P) (a:=a) (x:=x) (Q:=Q)
 have iM:j<16:=ω;have jR:=λ(h:(Bm P j).2=false)=>Gg hP iM h
 have ex:=λW (hR:JA W mv iv ev cv sv lv qv P)=>Lz mv iv ev cv sv lv qv P W hR hP iM
 rw[<-hj] at iO iP az;generalize Bm P j=t at iO iP az ex jR;generalize Gf P a x=tt at iP az ⊢;obtain⟨Q,bb⟩:=t;dsimp only at iO iP az ex jR;have HC:=λm i e c W (hR:Ns W m i e c Q.V0)=>GT hR iO.k 11 (a:Int) x 0 ψ
 have az:=az Q;generalize Ad Q.V0 (Ah 11 (a:Int) x 0)=res at HC az;obtain⟨kr,vr,nr⟩:=res;unfold LT at HC;dsimp only at HC az;have HC:=AA HC;unfold Fo AN at ex;have ex:=AA ex;unfold AN Fo AN;obtain⟨N0,N1,ar,bk⟩:=LG w (.cells #[mv,iv,ev,cv,sv,lv,qv,P.FU,P.VO] 32) (.cells #[ι,ι,ι,ι,ι,ι,ι,θ,θ] 32);have h0:=h.below ar;have fp:BN P=true:=Ct.2 hP;obtain⟨x0,K,x2,x3,x4,x5,x6,x7,x8⟩:=AC N0;have jI:=AA bk;clear bk;go_in;go_wp2_with fail;generalize(w.alloc _).alloc _=W0 at*;have CV:=EQ mv iv ev cv sv lv qv P W0 h0 (CJ hP.k);rw[fp] at CV;have df:=AA h0;have kH:=AA jR;unfold AN at CV;have C7:=AA iO;have kJ:=AA iP;have io:=AA az;have bD:=AA ar;have av:=AA N0;have cg:=AA N1;clear h h0 ar N0 N1 hP fp x0 K x2 x3 x4 x5 x6 x7 x8 iO iP az hj jR;refine CV.mono ?_;rintro r w1 ⟨rfl,b1⟩;obtain⟨x0,K,x2,x3,x4,x5,x6,x7,x8⟩:=AC (AB av b1);have hE:=AA b1;clear b1 CV;go_wp2_with fail;refine(Fz _ _).mono ?_;rintro r w2 ⟨rfl,rfl⟩;rw[hA];go_wp2_with fail;refine(Cr _ _ _ _).mono ?_;rintro r w2 ⟨rfl,rfl⟩;rw[show Bj x 0 9999=true from hx];go_wp2_with fail;refine(ex w1 (df.below hE.u)).mono ?_;rintro r w2 ⟨m2,i2,e2,c2,s2,l2,q2,rfl,O2,b2⟩;obtain⟨⟨⟨ma,mn,mc,rfl⟩,⟨ia,iN,ic,rfl⟩,⟨ea,en,ec,rfl⟩,⟨qa,qn,qc,rfl⟩⟩,⟨sa,sn,sc,rfl⟩,⟨la,ln,lc,rfl⟩,⟨pa,pn,pc,rfl⟩⟩:=O2.Dq;have bA:=AJ w2 (.cells #[.slice ma mn mc,.slice ia iN ic,.slice ea en ec,.slice qa qn qc,.slice sa sn sc,.slice la ln lc,.slice pa pn pc,Q.FU,Q.VO] 32);have I3:=ID.start O2 b2.size;have cT:=hE.trans ((b2.trans (bA.mono b2.size)).mono hE.size);have ez:=AA I3;have N3:=AA (AB cg cT);have cP:=AA (bD.trans (cT.mono bD.size));have im:=AA (yM bD.size hE.size);have jz:=AA (yM b2.size bA.size);clear O2 bA I3 cT b2 x0 K x2 x3 x4 x5 x6 x7 x8 ex df;cases bb
 focus
  have e:=kJ rfl
  obtain rfl:=kH rfl;subst e;clear kJ io kH HC;have S5:=Bu N3 (ez.own.lower im.u);obtain⟨c0,c1,c2,c3,c4,c5,c6,c7,c8⟩:=ez.cells;obtain⟨a0,a1,a2,a3,a4,a5,a6,a7,a8⟩:=AC N3.u;have f5:=AI N3.u;have lh:=AA S5;clear S5;go_wp2_with fail;obtain⟨N6,O6,el⟩:=lh.u;have B6:=AM cP el ω cP.size
 rotate_left
 focus
  have e:=io rfl
  subst e;have C3:=AA (HC _ _ _ _ _ ez.own.ker.rd);obtain⟨c0,c1,c2,c3,c4,c5,c6,c7,c8⟩:=ez.cells;clear io kJ kH HC;go_wp2_with fail;generalize hg3:w2.heap.size=g3 at*;generalize w2.alloc _=W3 at*;refine C3.mono ?_;rintro r w4 ⟨m4,i4,e4,qd,rfl,O4,b4⟩;obtain⟨⟨iW,iV,bt,rfl⟩,⟨i8,jb,i7,rfl⟩,⟨jl,jj,jk,rfl⟩,⟨iZ,iX,iY,rfl⟩⟩:=O4.Dq;have bA:=AJ w4 (.cells #[.slice iW iV bt,.slice i8 jb i7,.slice jl jj jk,.slice iZ iX iY] 28);have fk:=b4.trans (bA.mono b4.size);have I4:=ez.below fk;have I5:=ez.put fk (yF _) jz (O4.below bA);have G5:=Ar (w4.alloc (.cells #[.slice iW iV bt,.slice i8 jb i7,.slice jl jj jk,.slice iZ iX iY] 28)) g3 (.slice iW iV bt) (.slice i8 jb i7) (.slice jl jj jk) (.slice iZ iX iY);have N4:=AB N3 fk;have ng:g3≠w.heap.size+1:=λe=>by have O:=ez.yT;have z:=AU cg.u;have h3:=hE.size;omega
  have N5:=At N4 G5 ng;have B5:=AM (cP.trans (fk.mono cP.size)) G5 (yM im ez.yT) (yM cP.size fk.size);obtain⟨d0,d1,d2,d3,_⟩:=I4.cells;have fd:=AI I4.yU;generalize hW5:((((w4.alloc _).setCell _ _).setCell _ _).setCell _ _).setCell _ _=W5 at I5 G5 N5 B5;have S6:=Bu N5 (I5.own.lower im.u);obtain⟨y0,y1,y2,y3,y4,y5,y6,y7,y8⟩:=I5.cells;obtain⟨a0,a1,a2,a3,a4,a5,a6,a7,a8⟩:=AC N5;have f5:=AI N5;have kI:=AA S6;have fl:=AA B5;clear S6 b4 bA fk O4 I4 I5 G5 N4 N5 B5 C3 c0 c1 c2 c3 c4 c5 c6 c7 c8;go_wp2_with fail;obtain⟨N6,O6,el⟩:=kI.u;have B6:=AM fl el ω fl.size
 rotate_left
 all_goals
  unfold DO at N6 O6 B6;exact yB (v:=.tuple #[.agg #[_,_,_,_,_,_,_,_,_],_]) (by simp[results,Tryz.results39,go_sem,AC N6]) rfl ⟨_,_,_,_,_,_,_,rfl,O6,B6⟩
theorem Lh (mv iv ev cv sv lv qv:Φ)(P:AP)(call:AT)(w:Ω)(h:JA w mv iv ev cv sv lv qv P)(hP:Dd P)(he:0<=call.e/\call.e<3)(lE:call.nm.size<=maxLen)(lP:call.c<=9223372036854775807):
 Ξ prog 28 #[AN mv iv ev cv sv lv qv P.FU P.VO,.agg call.cs] w (Im w (HY P call)):=by
 unfold AN Im HY AN;have CC:=AA (λW (hR:Ns W mv iv ev cv P.V0)=>MS hR hP.k call he lE lP);unfold Mr at CC;generalize Ad P.V0 call=res at CC ⊢;obtain⟨kr,vr,nr⟩:=res;obtain⟨ck,ce,ca,cb,cc,nm⟩:=call;simp only[AT.cs] at CC ⊢
 try dsimp only at CC ⊢
 obtain⟨N0,NC,N1,ar,bk⟩:=Ft w (.cells #[mv,iv,ev,cv,sv,lv,qv,P.FU,P.VO] 32) (.cells #[ck,ce,ca,cb,cc,nm] 34) (.cells #[ι,ι,ι,ι,ι,ι,ι,θ,θ] 32);have h0:=h.below ar;have CO:=AA (Ki mv iv ev cv sv lv qv P _ h0 hP);unfold OS AN at CO;have oZ:=AA h0.1;obtain⟨x0,K,x2,x3,x4,x5,x6,x7,x8⟩:=AC N0;have jI:=AA bk;clear bk h h0 he lE lP hP;go_in;go_wp2_with fail;generalize((w.alloc _).alloc _).alloc _=W0 at*;have bD:=AA ar;have av:=AA N0;have mw:=AA NC;have cg:=AA N1;clear ar N0 NC N1 x0 K x2 x3 x4 x5 x6 x7 x8;refine CO.mono ?_;rintro r w2 ⟨m2,i2,e2,c2,s2,l2,q2,rfl,O2,b2⟩;obtain⟨⟨⟨ma,mn,mc,rfl⟩,⟨ia,iN,ic,rfl⟩,⟨ea,en,ec,rfl⟩,⟨qa,qn,qc,rfl⟩⟩,⟨sa,sn,sc,rfl⟩,⟨la,ln,lc,rfl⟩,⟨pa,pn,pc,rfl⟩⟩:=O2.Dq;have bA:=AJ w2 (.cells #[.slice ma mn mc,.slice ia iN ic,.slice ea en ec,.slice qa qn qc,.slice sa sn sc,.slice la ln lc,.slice pa pn pc,P.FU,P.VO] 32);have I3:=ID.start O2 b2.size;have cT:=b2.trans (bA.mono b2.size);obtain⟨x0,K,x2,x3,_⟩:=AC (AB av cT);obtain⟨k0,k1,k2,k3,k4,k5⟩:=IP (AB mw cT);have ez:=AA I3;have N3:=AA (AB cg cT);have cP:=AA (bD.trans (cT.mono bD.size));have jz:=AA (yM b2.size bA.size);have qG:=AA (CC _ (oZ.below cT));clear O2 bA I3 cT b2 CO CC;go_wp2_with fail;generalize hg3:w2.heap.size=g3 at*;generalize w2.alloc _=W3 at*;refine qG.mono ?_;rintro r w4 ⟨m4,i4,e4,qd,rfl,O4,b4⟩;obtain⟨⟨iW,iV,bt,rfl⟩,⟨i8,jb,i7,rfl⟩,⟨jl,jj,jk,rfl⟩,⟨iZ,iX,iY,rfl⟩⟩:=O4.Dq;have bA:=AJ w4 (.cells #[.slice iW iV bt,.slice i8 jb i7,.slice jl jj jk,.slice iZ iX iY] 28);have fk:=b4.trans (bA.mono b4.size);have I4:=ez.below fk;have I5:=ez.put fk (yF _) jz (O4.below bA);have G5:=Ar (w4.alloc (.cells #[.slice iW iV bt,.slice i8 jb i7,.slice jl jj jk,.slice iZ iX iY] 28)) g3 (.slice iW iV bt) (.slice i8 jb i7) (.slice jl jj jk) (.slice iZ iX iY);have N4:=AB N3 fk;have ng:g3≠w.heap.size+1+1:=λe=>by have O:=ez.yT;have z:=AU cg.u;omega
 have N5:=At N4 G5 ng;have B5:=AM (cP.trans (fk.mono cP.size)) G5 (yM bD.size ez.yT) (yM cP.size fk.size);obtain⟨d0,d1,d2,d3,_⟩:=I4.cells;have fd:=AI I4.yU;generalize hW5:((((w4.alloc _).setCell _ _).setCell _ _).setCell _ _).setCell _ _=W5 at I5 G5 N5 B5;have S6:=Bu N5 (I5.own.lower bD.size);obtain⟨y0,y1,y2,y3,y4,y5,y6,y7,y8⟩:=I5.cells;obtain⟨a0,a1,a2,a3,a4,a5,a6,a7,a8⟩:=AC N5;have f5:=AI N5;have kI:=AA S6;have fl:=AA B5;clear S6 b4 bA fk O4 I4 I5 G5 N4 N5 B5 qG x0 K x2 x3 k0 k1 k2 k3 k4 k5;go_wp2_with fail;obtain⟨N6,O6,el⟩:=kI.u;have B6:=AM fl el ω fl.size;unfold DO at N6 O6 B6;exact yB (v:=.tuple #[.agg #[_,_,_,_,_,_,_,_,_],_]) (by simp[results,Tryz.results28,go_sem,AC N6]) rfl ⟨_,_,_,_,_,_,_,rfl,O6,B6⟩
theorem TT (mv iv ev cv sv lv qv:Φ)(P:AP)(call:AT)(w:Ω)(h:JA w mv iv ev cv sv lv qv P)(R:Gs P.V0)(nP:(BN P&&Bj call.e 1 2)=false):
 Ξ prog 9 #[AN mv iv ev cv sv lv qv P.FU P.VO,.agg call.cs] w λr w'=>VJ r/\Γ w w w':=by
 obtain⟨ck,ce,ca,cb,cc,nm⟩:=call;simp only[AT.cs]
 try dsimp only at nP
 unfold AN VJ AN;obtain⟨N0,NC,N1,ar,bk⟩:=Ft w (.cells #[mv,iv,ev,cv,sv,lv,qv,P.FU,P.VO] 32) (.cells #[ck,ce,ca,cb,cc,nm] 34) (.cells #[ι,ι,ι,ι,ι,ι,ι,θ,θ] 32);have h0:=h.below ar;obtain⟨x0,K,x2,x3,x4,x5,x6,x7,x8⟩:=AC N0;have jI:=AA bk;clear bk;go_in;go_wp2_with fail;generalize((w.alloc _).alloc _).alloc _=W0 at*;have CV:=EQ mv iv ev cv sv lv qv P W0 h0 R;unfold AN at CV;have bD:=AA ar;have cg:=AA N1;have mw:=AA NC;generalize BN P=ok at*;clear h h0 ar N0 N1 NC x0 K x2 x3 x4 x5 x6 x7 x8;refine CV.mono ?_;rintro r w1 ⟨rfl,b1⟩;have Bw:=AA (bD.trans (b1.mono bD.size));obtain⟨_,k1,_⟩:=IP (AB mw b1);clear CV;cases ok
 rotate_left
 focus
  go_wp2_with fail
  refine(Cr _ _ _ _).mono ?_;rintro r w2 ⟨rfl,rfl⟩;rw[show Bj ce 1 2=false by simpa using nP]
 rotate_left
 all_goals
  clear nP
  have N1:=AB cg b1;have f1:=AI N1;obtain⟨a0,a1,a2,a3,a4,a5,a6,a7,a8⟩:=AC N1;have S2:=AA (Ed N1 (Bw.u) ω);clear N1;go_wp2_with fail;clear a0 a1 a2 a3 a4 a5 a6 a7 a8 f1;obtain⟨N2,B2⟩:=S2.u;unfold DO at N2 B2;exact yB (v:=.tuple #[.agg #[_,_,_,_,_,_,_,_,_],_]) (by simp[results,Tryz.results9,go_sem,AC N2]) rfl ⟨rfl,B2⟩
theorem Qw (mv iv ev cv sv lv qv:Φ)(P:AP)(call:AT)(w:Ω)(h:JA w mv iv ev cv sv lv qv P)(hP:Dd P)(he:1<=call.e/\call.e<=2)(lE:call.nm.size<=maxLen)(lP:call.c<=9223372036854775807):
 Ξ prog 9 #[AN mv iv ev cv sv lv qv P.FU P.VO,.agg call.cs] w (Im w (HY P call)):=by
 have CC:=AA (λW (hR:JA W mv iv ev cv sv lv qv P)=>Lh mv iv ev cv sv lv qv P call W hR hP ω lE lP);have HE:=AA (show Bj call.e 1 2=true from Aa.2 he);unfold Im at CC ⊢;generalize HY P call=t at CC ⊢;obtain⟨Q,nr⟩:=t;obtain⟨ck,ce,ca,cb,cc,nm⟩:=call;simp only[AT.cs] at CC ⊢;unfold AN at CC ⊢
 try dsimp only at CC HE ⊢
 obtain⟨N0,NC,N1,ar,bk⟩:=Ft w (.cells #[mv,iv,ev,cv,sv,lv,qv,P.FU,P.VO] 32) (.cells #[ck,ce,ca,cb,cc,nm] 34) (.cells #[ι,ι,ι,ι,ι,ι,ι,θ,θ] 32);have h0:=h.below ar;have fp:BN P=true:=Ct.2 hP;obtain⟨x0,K,x2,x3,x4,x5,x6,x7,x8⟩:=AC N0;have jI:=AA bk;clear bk;go_in;go_wp2_with fail;generalize((w.alloc _).alloc _).alloc _=W0 at*;have CV:=EQ mv iv ev cv sv lv qv P W0 h0 (CJ hP.k);rw[fp] at CV;unfold AN at CV;have bD:=AA ar;have av:=AA N0;have cg:=AA N1;have mw:=AA NC;have df:=AA h0;clear h h0 ar N0 N1 NC hP fp he lE lP x0 K x2 x3 x4 x5 x6 x7 x8;refine CV.mono ?_;rintro r w1 ⟨rfl,b1⟩;obtain⟨x0,K,x2,x3,x4,x5,x6,x7,x8⟩:=AC (AB av b1);obtain⟨k0,k1,k2,k3,k4,k5⟩:=IP (AB mw b1);have qH:=AA (CC w1 (df.below b1));have cP:=AA (bD.trans (b1.mono bD.size));have N1:=AA (AB cg b1);clear CV CC b1;go_wp2_with fail;refine(Cr _ _ _ _).mono ?_;rintro r w2 ⟨rfl,rfl⟩;rw[HE.u];go_wp2_with fail;refine qH.mono ?_;rintro r w5 ⟨m5,i5,e5,c5,s5,l5,q5,rfl,O5,b5⟩;obtain⟨⟨⟨ma,mn,mc,rfl⟩,⟨ia,iN,ic,rfl⟩,⟨ea,en,ec,rfl⟩,⟨qa,qn,qc,rfl⟩⟩,⟨sa,sn,sc,rfl⟩,⟨la,ln,lc,rfl⟩,⟨pa,pn,pc,rfl⟩⟩:=O5.Dq;have N5:=AB N1 b5;have S6:=Bu N5 (O5.lower cP.size);obtain⟨a0,a1,a2,a3,a4,a5,a6,a7,a8⟩:=AC N5;have f5:=AI N5;have kI:=AA S6;have fl:=AA (cP.trans (b5.mono cP.size));clear S6 O5 b5 N5 qH x0 K x2 x3 x4 x5 x6 x7 x8 k0 k1 k2 k3 k4 k5;go_wp2_with fail;obtain⟨N6,O6,el⟩:=kI.u;have B6:=AM fl el ω fl.size;unfold DO at N6 O6 B6;exact yB (v:=.tuple #[.agg #[_,_,_,_,_,_,_,_,_],_]) (by simp[results,Tryz.results9,go_sem,AC N6]) rfl ⟨_,_,_,_,_,_,_,rfl,O6,B6⟩
theorem JA.shp{q:Φ}(h:JA w m i e c s l q P):((∃a n q,m=.slice a n q)/\(∃a n q,i=.slice a n q)/\(∃a n q,e=.slice a n q)/\∃a n q,c=.slice a n q)/\(∃a n q,s=.slice a n q)/\(∃a n q,l=.slice a n q)/\∃a n r,q=.slice a n r:=by obtain⟨⟨O,z,h3,h4⟩,h5,h6,h7⟩:=h;obtain⟨_,_,rfl,_⟩:=O.open;obtain⟨_,_,rfl,_⟩:=z.shape;obtain⟨_,_,rfl,_⟩:=h3.open;obtain⟨_,_,rfl,_⟩:=h4.shape;obtain⟨_,_,rfl,_⟩:=h5.open;obtain⟨_,_,rfl,_⟩:=h6.open;obtain⟨_,_,rfl,_⟩:=h7.shape;exact⟨⟨⟨_,_,_,rfl⟩,⟨_,_,_,rfl⟩,⟨_,_,_,rfl⟩,⟨_,_,_,rfl⟩⟩,⟨_,_,_,rfl⟩,⟨_,_,_,rfl⟩,⟨_,_,_,rfl⟩⟩
def Xj:AP:=⟨⟨[],[],[],[]⟩,[],[],[],0,0⟩
theorem LN (w:Ω):JA w (.slice none 0 0) (.slice none 0 0) (.slice none 0 0) (.slice none 0 0) (.slice none 0 0) (.slice none 0 0) (.slice none 0 0) Xj:=
 ⟨⟨⟨[],AQ.rd (M9 HJ 0 29 1 w),Gj.nil⟩,AQ.rd (M9 Av 0 115 3 w),⟨[],AQ.rd (M9 FM 0 81 2 w),Gj.nil⟩,AQ.rd (M9 AY 0 125 4 w)⟩,⟨[],AQ.rd (M9 HJ 0 29 1 w),Gj.nil⟩,AE.rd (lo:=0) (World.ownsRow_nil _ _ _ _),AQ.rd (M9 DT 0 87 3 w)⟩
def Dr(J:Ω)(g N:Nat)(w:Ω):Prop:=Fc J w (.pointer g) N/\Γ J J w/\J.heap.size<=g/\g<w.heap.size
theorem Dr.of{hs:Φ}(h:Fc J w hs N)(V:Γ J J w):∃g,hs=.pointer (some ⟨g,0,none⟩)/\Dr J g N w:=by obtain⟨g,oO,bs,p,rfl,L,jP,hr⟩:=h;exact⟨g,rfl,⟨g,oO,bs,p,rfl,L,jP,hr⟩,V,L,(Array.getElem?_eq_some_iff.1 jP).1⟩
variable{row:Option Nat}
theorem Dr.keep (h:Dr J g N w)(L:w.grownBy w' row)(O:row≠some g)(z:∀k,row=some k->J.heap.size<=k):Dr J g N w':=by
 obtain⟨⟨g',oO,bs,p,hR,te,jP,hr⟩,V,ay,ad⟩:=h;obtain rfl:g=g':=by simpa using hR
 exact⟨⟨g,oO,bs,p,rfl,te,(L.block g ad (λe=>O e.symm)).trans jP,hr⟩,V.grown L V.size z,ay,yu ad L.size⟩
theorem Dr.below (h:Dr J g N w)(V:Γ w w w'):Dr J g N w':=h.keep (AW V none) χ (λk hk=>by cases hk)
theorem Dr.alloc (h:Dr J g N w)(o:Obj):Dr J g N (w.alloc o):=h.below (AJ _ _)
theorem Dr.mono (h:Dr J g N w)(hm:N<=M):Dr J g M w:=⟨h.1.mono hm,h.2⟩
theorem Dr.set (h:Dr J g N w)(gl:b≠g)(V:J.heap.size<=b):Dr J g N (w.setCell (b,j) u):=
 h.keep (Ak w b j u) (by simpa using gl) (λk hk=>by cases hk;exact V)
theorem Dr.lt (h:Dr J g N w):g<w.heap.size:=h.2.2.2
theorem Dr.pick (n:Int)(h:Dr J g N w)(hN:N<=1000000:=by omega)(hn:n<=1000000:=by decide):
 Ξ prog 23 #[.pointer g,.int .i64 n] w λe w'=>∃x:Int,e=.returned (.int .i64 x)/\0<=x/\(0<n->x<n)/\Dr J g (N+1) w'/\w.grownBy w' (some g):=
 (dZ J _ N n w h.1 h.2.1 hN hn).mono λ_ _ hp=>by
  obtain⟨x,rfl,⟨iK,kj,EE⟩,hr,jQ,g1,kv,ac⟩:=hp;obtain rfl:g=g1:=by simpa using kv
  exact⟨x,rfl,iK,kj,⟨hr,jQ,h.2.2.1,yu h.2.2.2 ac.size⟩,ac⟩
theorem Ib (h:J.grownBy w row)(o:Obj):J.grownBy (w.alloc o) row:=AO h (AW (AJ _ _) row)
theorem Cp (h:J.grownBy w row)(V:J.heap.size<=b)(u:Φ):J.grownBy (w.setCell (b,j) u) row:=
 ⟨h.os,h.tape,h.output,by simpa using h.size,λk hk gl=>(tT w ⟨b,j,none⟩ k u (by intro e;simp at e;omega)).trans (h.block k hk gl)⟩
def Gu(J:Ω)(g N:Nat)(w:Ω)(P:Φ->Prop)(e:Ending)(w':Ω):Prop:=∃v,e=.returned v/\P v/\Dr J g N w'/\w.grownBy w' (some g)
theorem QA (b n:Nat)(ss:List ByteArray)(h:Dr J g N w)(hN:N<=1000000)(hn:ss.length=n)(h0:0<n)(O:n<=1000)(gl:b≠g)(V:b<w.heap.size)(hc:∀k,k<n->w.cell? ⟨b,k,none⟩=some (.string (Cw ss k))):
 Ξ prog 59 #[.pointer g,.slice b n n] w (Gu J g (N+1) w λv=>∃s,s∈ss/\v=.string s):=by
 have Hc:=AA hc;clear hc;have Hn:=AA hn;clear hn;go_in;go_wp2_with fail;refine(h.pick _ hN ω).mono ?_;rintro e w1 ⟨x,rfl,kR,iK,h',ac⟩;have iK:=iK ω;obtain⟨x,rfl⟩:=yd kR;have ho:w1.cell? (b,x)=some (.string (Cw ss x)):=(vY (ac.block b V (by simpa using gl))).trans (Hc x ω);have kj:x<n:=ω;go_wp2;go_ret;exact⟨_,rfl,⟨Cw ss x,yv (IB (by rw[Hn.u];exact kj)),rfl⟩,h',ac⟩
theorem aI (f:Int)(b:Bool)(w:Ω)(h0:0<=f)(O:f<=1000):
 Ξ prog 91 #[.int .i64 f,.bool b] w λe w'=>e=.returned (.int .i64 (if b then 4*f+3 else 4*f+1))/\w=w':=by
 cases b<;>(go_in;go_wp2;go_ret;exact⟨rfl,rfl⟩)
theorem Dg{vs:Array Φ}{t:Nat}(ac:(w.alloc (.cells vs t)).grownBy w1 (some g))(ad:g<w.heap.size)(hj:vs[j]?=some u):w1.cell? (w,j)=some u:=by refine(vY (ac.block w.heap.size χ η)).trans ?_;rw[tq];exact hj
theorem Sc (h:Dr J g N w)(hN:N<=900000):
 Ξ prog 72 #[.pointer g] w (Gu J g (N+2) w λv=>∃x:Int,v=.int .i64 x):=by
 go_in;go_wp2_with fail;refine(h.pick _).mono ?_;rintro e w1 ⟨x,rfl,kR,iK,O,g1⟩
 by_cases hx:x=0
 .subst hx
  go_wp2_with fail;refine((O.alloc _).pick _).mono ?_;rintro e w2 ⟨y,rfl,jd,ed,z,g2⟩;have ed:=ed ψ;have c0:=Dg (j:=0) g2 O.lt rfl;have c1:=Dg (j:=1) g2 O.lt rfl;have c2:=Dg (j:=2) g2 O.lt rfl;have G:=AA (AO g1 (AO (AW (AJ _ _) _) g2));clear g1 g2
  rcases(ω:y=0∨y=1∨y=2) with rfl|rfl|rfl
  all_goals
   go_wp2;go_ret;exact⟨_,rfl,⟨_,rfl⟩,z,G.u⟩
 have t0:(x==0)=false:=by simp[hx]
 clear hx;go_wp2_with (refine(O.pick _).mono ?_;rintro e w2 ⟨y,rfl,jd,ed,z,g2⟩;have G:=AA (AO g1 g2);clear g1 g2);go_ret;exact⟨_,rfl,⟨_,rfl⟩,z,G.u⟩
theorem On (h:Dr J g N w)(hN:N<=900000):
 Ξ prog 115 #[.pointer g] w (Gu J g (N+3) w λv=>∃x:Int,v=.int .i64 x/\ -1<=x/\x<=9999):=by
 go_in;go_wp2_with fail;refine(h.pick _).mono ?_;rintro e w1 ⟨x,rfl,kR,iK,O,g1⟩;have iK:=iK ψ;by_cases hx:x=0
 .subst hx
  go_wp2;go_ret;exact⟨_,rfl,⟨0,rfl,ψ,ψ⟩,O.mono ω,g1⟩
 by_cases mD:x=1
 .subst mD
  go_wp2;go_ret;exact⟨_,rfl,⟨0,rfl,ψ,ψ⟩,O.mono ω,g1⟩
 by_cases kj:x=2
 .subst kj
  clear hx mD;go_wp2_with fail;refine((O.alloc _).pick _).mono ?_;rintro e w2 ⟨y,rfl,jd,ed,z,g2⟩;have ed:=ed ψ;have c0:=Dg (j:=0) g2 O.lt rfl;have c1:=Dg (j:=1) g2 O.lt rfl;have c2:=Dg (j:=2) g2 O.lt rfl;have c3:=Dg (j:=3) g2 O.lt rfl;have c4:=Dg (j:=4) g2 O.lt rfl;have c5:=Dg (j:=5) g2 O.lt rfl;have c6:=Dg (j:=6) g2 O.lt rfl;have G:=AA (AO g1 (AO (AW (AJ _ _) _) g2));clear g1 g2
  rcases(ω:y=0∨y=1∨y=2∨y=3∨y=4∨y=5∨y=6) with rfl|rfl|rfl|rfl|rfl|rfl|rfl
  all_goals
   go_wp2;go_ret;exact⟨_,rfl,⟨_,rfl,ψ,ψ⟩,z.mono ω,G.u⟩
 have t0:(x==0)=false:=by simp[hx]
 have t1:(x==1)=false:=by simp[mD]
 have t2:(x==2)=false:=by simp[kj]
 clear hx mD kj;go_wp2_with fail;refine(O.pick _).mono ?_;rintro e w2 ⟨y,rfl,jd,ed,z,g2⟩;have ed:=ed ψ;go_wp2_with (refine(z.pick _).mono ?_;rintro e w3 ⟨h2,rfl,nI,cp,h3,g3⟩;have cp:=cp ψ;have G:=AA (AO (AO g1 g2) g3);clear g1 g2 g3);go_ret;exact⟨_,rfl,⟨_,rfl,ω,ω⟩,h3.mono ω,G.u⟩
theorem K9 (w:Ω)(ss:List ByteArray)(t:TypeId){k:Nat}(hk:k<ss.length):(w.alloc (.cells (ss.map Value.string).toArray t)).cell? (w,k)=some (.string (Cw ss k)):=by rw[tq];simp only[List.getElem?_toArray,xq];rw[IB hk];rfl
theorem J7 (h:Dr J g N w)(hN:N<=900000):
 Ξ prog 120 #[.pointer g] w (Gu J g (N+2) w λv=>∃s,s.size<=8/\v=.string s):=by
 go_in;go_wp2_with fail;refine(h.pick _).mono ?_;rintro e w1 ⟨x,rfl,kR,iK,O,g1⟩
 by_cases hx:x=0
 .subst hx
  go_wp2_with fail;refine(QA w1.heap.size 4 [⟨#[100]⟩,⟨#[65]⟩,⟨#[97,98,99,97,98]⟩,⟨#[97,32,98]⟩] (O.alloc _) ω rfl ψ ψ (by have:=O.lt;omega) χ (λk hk=>K9 w1 [⟨#[100]⟩,⟨#[65]⟩,⟨#[97,98,99,97,98]⟩,⟨#[97,32,98]⟩] _ hk)).mono ?_;rintro e w2 ⟨v,rfl,⟨s,R,rfl⟩,z,g2⟩;have G:=AA (AO g1 (AO (AW (AJ _ _) _) g2));have hl:s.size<=8:=by
   simp only[xF,wU,or_false] at R
   rcases R with rfl|rfl|rfl|rfl<;>decide
  clear g1 g2 R;go_wp2;go_ret;exact⟨_,rfl,⟨s,hl,rfl⟩,z,G.u⟩
 have t0:(x==0)=false:=by simp[hx]
 clear hx;go_wp2_with fail;refine(QA w1.heap.size 12 [⟨#[]⟩,⟨#[97]⟩,⟨#[98]⟩,⟨#[99]⟩,⟨#[97,98]⟩,⟨#[97,97]⟩,⟨#[97,98,99]⟩,⟨#[98,97]⟩,⟨#[98]⟩,⟨#[97]⟩,⟨#[97,98,99,97]⟩,⟨#[97,99]⟩] (O.alloc _) ω rfl ψ ψ (by have:=O.lt;omega) χ (λk hk=>K9 w1 [⟨#[]⟩,⟨#[97]⟩,⟨#[98]⟩,⟨#[99]⟩,⟨#[97,98]⟩,⟨#[97,97]⟩,⟨#[97,98,99]⟩,⟨#[98,97]⟩,⟨#[98]⟩,⟨#[97]⟩,⟨#[97,98,99,97]⟩,⟨#[97,99]⟩] _ hk)).mono ?_;rintro e w2 ⟨v,rfl,⟨s,R,rfl⟩,z,g2⟩;have G:=AA (AO g1 (AO (AW (AJ _ _) _) g2));have hl:s.size<=8:=by
  simp only[xF,wU,or_false] at R
  rcases R with rfl|rfl|rfl|rfl|rfl|rfl|rfl|rfl|rfl|rfl|rfl|rfl<;>decide
 clear g1 g2 R;go_wp2;go_ret;exact⟨_,rfl,⟨s,hl,rfl⟩,z,G.u⟩
theorem VE.info{a:Option Addr}{xs:List AX}(h:VE 3 Av w a xs){k:Nat}{x:AX}(hk:xs[k]?=some x):∃b ie,a=some ⟨b,ie,none⟩/\b<w.heap.size/\w.cell? ⟨b,ie+k*3,none⟩=some (.int .i64 x.k)/\w.cell? ⟨b,ie+k*3+1,none⟩=some (.string x.g)/\w.cell? ⟨b,ie+k*3+2,none⟩=some (.int .i64 x.r):=by obtain⟨b,ie,rfl,ad,hc⟩:=h k x hk;exact⟨b,ie,rfl,ad,hc 0 _ rfl,hc 1 _ rfl,hc 2 _ rfl⟩
def eE(xs:List Int):Prop:=∀x∈xs,0<=x/\x<12
theorem QY (m i e c:Φ)(xs:List AX)(kind:Int)(h:Dr J g N w)(hN:N<=900000)(hi:Bf w i xs)(hl:xs.length<=12):
 Ξ prog 119 #[.pointer g,.agg #[m,i,e,c],.int .i64 kind] w (Gu J g (N+1) w λv=>∃x:Int,v=.int .i64 x/\0<=x/\x<12):=by
 obtain⟨a,f4,rfl,hc,od,H0⟩:=BK.open Az ψ hi;unfold maxLen at od;clear hi;go_in;go_wp2_with fail;have jQ:=AJ w (.cells #[m,.slice a xs.length f4,e,c] 28);have lX:(w.alloc (.cells #[m,.slice a xs.length f4,e,c] 28)).heap[w.heap.size]?=some (.cells #[m,.slice a xs.length f4,e,c] 28 (0,0)):=yx w _;have lA:w.heap.size+1=(w.alloc (.cells #[m,.slice a xs.length f4,e,c] 28)).heap.size:=χ;generalize w.alloc (.cells #[m,.slice a xs.length f4,e,c] 28)=W at jQ lX lA;rw[lA];go_loopw [7,8] (λo i wr=>∃k:Nat,∃ys:List Int,k<=xs.length/\ys.length<=k/\eE ys/\i=.int .i64 k/\AE W wr o ys/\Γ W W wr) (λ_ i _=>xs.length - (intOf i).toNat)
 exact⟨0,[],yt _,yt _,λx hx=>(by cases hx),rfl,Co _ _ _,AJ _ _⟩
 obtain⟨k,ys,hk,D8,py,rfl,iL,hC⟩:=hrel;have oQ:=AA py;clear py;obtain⟨c0,c1,c2,c3⟩:=AG ((hC.block _ ω).trans lX);clear c0 c2 c3
 by_cases ad:k<xs.length
 .obtain⟨x,hx⟩:∃x,xs[k]?=some x:=⟨_,yG ad⟩
  obtain⟨b,ie,rfl,bf,D0,_,_⟩:=H0.info hx;have ho:wr.cell? (b,ie+k*3)=some (.int .i64 x.k):=((jQ.trans (hC.mono jQ.size)).cell (p:=⟨b,ie+k*3,none⟩) bf).trans D0;clear D0 hx
  by_cases iy:x.k=kind
  .have t0:(x.k==kind)=true:=by simp[iy]
   clear iy;have ay:=hC.size;go_wp2_with (at_builtin;go_must (refine Bn (lo:=W.heap.size) (n:=ys.length) (xs:=ys.map (yl .i64)) (m:=1) (news:=[.int .i64 k]) rfl rfl 3 (.int .i64 0) 1 8 underlying29 Tryz.zS rfl ψ rfl (A8 iL (AJ _ _)) rfl (Rd.zM _ #[_] _ 1 1 _ χ rfl ζ) (by simp[xR]) μ ω η ?_;intro o' w4 g1 g2 g3 g4));go_roundw
   case rel=>exact⟨k+1,ys++[(k:Int)],ω,η,λy hy=>by
    rcases wJ.1 hy with h'|h'
    .exact oQ y h'
    simp at h';subst h';omega,ξ,by simpa[AE] using g1,(hC.alloc hC.size _).trans g4⟩
   case measure=>simp[intOf];omega
  have t0:(x.k==kind)=false:=by simp[iy]
  clear iy;go_wp2;go_roundw;exact⟨k+1,ys,ω,ω,oQ.u,ξ,iL,hC⟩;simp[intOf];omega
 have hD:Dr J g N wr:=(h.below jQ).below hC
 have p5:w.grownBy wr (some g):=AW (jQ.trans (hC.mono jQ.size)) _;have FC:g<W.heap.size:=yu h.lt jQ.size
 by_cases hz:ys.length=0
 .obtain⟨_,_,rfl,_,_⟩:=(AE.rd iL).open
  have t0:((ys.length:Int)==0)=true:=by simp[hz]
  clear hz;go_wp2_with (refine(hD.pick _).mono ?_;rintro e w2 ⟨y,rfl,jd,ed,z,g2⟩;have ed:=ed ψ);go_ret;exact⟨_,rfl,⟨_,rfl,jd,ed⟩,z,AO p5 g2⟩
 obtain⟨q,cq,rfl,hq,gd⟩:=JM iL ω;have t0:((ys.length:Int)==0)=false:=by simp[hz]
 have rH:0<ys.length:=ω;have t8:ys.length<=cq/\cq<=maxLen:=by obtain⟨_,_,he,O,z,_⟩:=(AE.rd iL).open;simp at he;obtain⟨_,rfl⟩:=he;exact⟨O,z⟩
 obtain⟨ko,cz⟩:=t8;unfold maxLen at cz;clear hz;go_wp2_with (refine(hD.pick _ ω ω).mono ?_;rintro e w2 ⟨y,rfl,jd,ed,z,g2⟩;have ed:=ed ω;obtain⟨y,rfl⟩:=yd jd;have lD:=Au iL g2 (.inr (by simp[Value.ownBlock];omega));have C:=(lD.cellAt y ω).trans (GX (xs:=ys) ω);have hx:=oQ (nth ys y) (by rw[OG ω];exact List.getElem_mem _));go_ret;exact⟨_,rfl,⟨_,rfl,hx.1,hx.2⟩,z,AO p5 g2⟩
def MA(x:AT):Prop:=x.nm.size<=8/\0<=x.e/\x.e<3/\x.c<=1000000
def BS(J:Ω)(g N:Nat)(w:Ω)(m i e c:Φ)(b:Nat)(wr:Ω):Prop:=
 ∃x:AT,MA x/\Dr J g N wr/\w.grownBy wr (some g)/\w.heap.size+1<b/\g<w.heap.size/\J.heap.size<=w.heap.size/\wr.heap[b]?=some (.cells x.cs 34 (0,0))/\
  wr.heap[w.heap.size]?=some (.cells #[m,i,e,c] 28 (0,0))/\(∃y:AT,wr.heap[w.heap.size+1]?=some (.cells y.cs 34 (0,0)))
theorem IQ{x:AT}(h:w.heap[b]?=some (.cells x.cs 34 (0,0))):w.cell? b=some (.int .i64 x.k)/\w.cell? (b,1)=some (.int .i64 x.e)/\w.cell? (b,2)=some (.int .i64 x.a)/\w.cell? (b,3)=some (.int .i64 x.b)/\w.cell? (b,4)=some (.int .i64 x.c)/\w.cell? (b,5)=some (.string x.nm):=
 ⟨yy w b 0 _ _ _ h,yy w b 1 _ _ _ h,yy w b 2 _ _ _ h,yy w b 3 _ _ _ h,yy w b 4 _ _ _ h,yy w b 5 _ _ _ h⟩
section
variable {J w wr w':Ω} {g N M b:Nat} {m i e c:Φ}
theorem BS.kc(h:BS J g N w m i e c b wr):wr.cell? w=some m/\wr.cell? (w,1)=some i/\wr.cell? (w,2)=some e/\wr.cell? (w,3)=some c:=by obtain⟨x,_,_,_,_,_,_,_,O,_⟩:=h;exact AG O
theorem BS.cc(h:BS J g N w m i e c b wr):∃x:AT,wr.cell? b=some (.int .i64 x.k)/\wr.cell? (b,1)=some (.int .i64 x.e)/\wr.cell? (b,2)=some (.int .i64 x.a)/\wr.cell? (b,3)=some (.int .i64 x.b)/\wr.cell? (b,4)=some (.int .i64 x.c)/\wr.cell? (b,5)=some (.string x.nm)/\(∀j,wr.frozen? ⟨b,j,none⟩=false)/\eh (wr.heap[b]?=some (.cells x.cs 34 (0,0))):=by obtain⟨x,_,_,_,_,_,_,O,_⟩:=h;obtain⟨c0,c1,c2,c3,c4,c5⟩:=IQ O;exact⟨x,c0,c1,c2,c3,c4,c5,AI O,AA O⟩
theorem BS.dr(h:BS J g N w m i e c b wr):Dr J g N wr:=by obtain⟨x,_,O,_⟩:=h;exact O
theorem BS.draw(h:BS J g N w m i e c b wr)(hd:Dr J g M w')(L:wr.grownBy w' (some g)):BS J g M w m i e c b w':=by
 obtain⟨x,h0,O,z,h3,h4,h5,h6,h7,⟨y,h8⟩⟩:=h;have yV:∀{q:Nat} {o:Obj},w.heap.size<=q->wr.heap[q]?=some o->w'.heap[q]?=some o:=λ{q o} hq V=>(L.block q (AU V) η).trans V
 exact⟨x,h0,hd,AO z L,h3,h4,h5,yV ω h6,yV (yF _) h7,⟨y,yV ω h8⟩⟩
theorem BS.put(h:BS J g N w m i e c b wr)(j:Nat){v:Φ}(St:∀x:AT,MA x->∃y:AT,MA y/\y.cs=x.cs.setIfInBounds j v):BS J g N w m i e c b (wr.setCell (b,j) v):=by
 obtain⟨x,h0,O,z,h3,h4,h5,h6,h7,⟨y,h8⟩⟩:=h;obtain⟨h2,z0,z1⟩:=St x h0;have V:=yE wr b j _ _ v h6;rw[<-z1] at V;have yV:∀{q:Nat} {o:Obj},q≠b->wr.heap[q]?=some o->(wr.setCell (b,j) v).heap[q]?=some o:=λ{q o} hq V=>(tT wr ⟨b,j,none⟩ q _ (λe=>hq (by simpa using e))).trans V
 exact⟨h2,z0,O.set ω ω,Cp z ω _,h3,h4,h5,V,yV ω h7,⟨y,yV ω h8⟩⟩
theorem BS.set0(h:BS J g N w m i e c b wr)(h2:Int):BS J g N w m i e c b (wr.setCell b (.int .i64 h2)):=h.put 0 λx h=>⟨⟨h2,x.e,x.a,x.b,x.c,x.nm⟩,h,rfl⟩
theorem BS.set1(h:BS J g N w m i e c b wr)(h2:Int)(hz:0<=h2)(rr:h2<3):BS J g N w m i e c b (wr.setCell (b,1) (.int .i64 h2)):=h.put 1 λx h=>⟨⟨x.k,h2,x.a,x.b,x.c,x.nm⟩,⟨h.1,hz,rr,h.2.2.2⟩,rfl⟩
theorem BS.set2(h:BS J g N w m i e c b wr)(h2:Int):BS J g N w m i e c b (wr.setCell (b,2) (.int .i64 h2)):=h.put 2 λx h=>⟨⟨x.k,x.e,h2,x.b,x.c,x.nm⟩,h,rfl⟩
theorem BS.set3(h:BS J g N w m i e c b wr)(h2:Int):BS J g N w m i e c b (wr.setCell (b,3) (.int .i64 h2)):=h.put 3 λx h=>⟨⟨x.k,x.e,x.a,h2,x.c,x.nm⟩,h,rfl⟩
theorem BS.set4(h:BS J g N w m i e c b wr)(h2:Int)(hz:h2<=1000000):BS J g N w m i e c b (wr.setCell (b,4) (.int .i64 h2)):=h.put 4 λx h=>⟨⟨x.k,x.e,x.a,x.b,h2,x.nm⟩,⟨h.1,h.2.1,h.2.2.1,hz⟩,rfl⟩
theorem BS.setS(h:BS J g N w m i e c b wr)(s:ByteArray)(R:s.size<=8):BS J g N w m i e c b (wr.setCell (b,5) (.string s)):=h.put 5 λx h=>⟨⟨x.k,x.e,x.a,x.b,x.c,s⟩,⟨R,h.2⟩,rfl⟩
theorem BS.gr(h:BS J g N w m i e c b wr):w.grownBy wr (some g):=by obtain⟨x,_,_,O,_⟩:=h;exact O
theorem BS.ne(h:BS J g N w m i e c b wr):w.heap.size≠b/\b≠w.heap.size/\w.heap.size+1≠b/\b≠w.heap.size+1:=by obtain⟨x,_,_,_,O,_⟩:=h;omega
theorem gh{w:Ω}{q:Nat}{x y:AT}(h:w.heap[q]?=some (.cells y.cs 34 (0,0))):
 ((((((w.setCell q (.int .i64 x.k)).setCell (q,1) (.int .i64 x.e)).setCell (q,2) (.int .i64 x.a)).setCell (q,3) (.int .i64 x.b)).setCell (q,4) (.int .i64 x.c)).setCell (q,5) (.string x.nm)).heap[q]?=some (.cells x.cs 34 (0,0)):=by
 have h0:=yE w q 0 _ _ (.int .i64 x.k) h;have O:=yE _ q 1 _ _ (.int .i64 x.e) h0;have z:=yE _ q 2 _ _ (.int .i64 x.a) O;have h3:=yE _ q 3 _ _ (.int .i64 x.b) z;have h4:=yE _ q 4 _ _ (.int .i64 x.c) h3;have h5:=yE _ q 5 _ _ (.string x.nm) h4;simpa[AT.cs] using h5
theorem BS.qc(h:BS J g N w m i e c b wr):∃y:AT,wr.cell? (w.heap.size+1,0)=some (.int .i64 y.k)/\wr.cell? (w.heap.size+1,1)=some (.int .i64 y.e)/\wr.cell? (w.heap.size+1,2)=some (.int .i64 y.a)/\wr.cell? (w.heap.size+1,3)=some (.int .i64 y.b)/\wr.cell? (w.heap.size+1,4)=some (.int .i64 y.c)/\wr.cell? (w.heap.size+1,5)=some (.string y.nm)/\∀j,wr.frozen? ⟨w.heap.size+1,j,none⟩=false:=by obtain⟨x,_,_,_,_,_,_,_,_,⟨y,O⟩⟩:=h;obtain⟨c0,c1,c2,c3,c4,c5⟩:=IQ O;exact⟨y,c0,c1,c2,c3,c4,c5,AI O⟩
def eA(J:Ω)(g N:Nat)(w:Ω)(x:AT)(W:Ω):Prop:=
 (W.cell? (w.heap.size+1,0)=some (.int .i64 x.k)/\W.cell? (w.heap.size+1,1)=some (.int .i64 x.e)/\W.cell? (w.heap.size+1,2)=some (.int .i64 x.a)/\W.cell? (w.heap.size+1,3)=some (.int .i64 x.b)/\W.cell? (w.heap.size+1,4)=some (.int .i64 x.c)/\W.cell? (w.heap.size+1,5)=some (.string x.nm))/\
 Gu J g N w (λv=>∃x:AT,v=.agg x.cs/\MA x) (.returned (.agg x.cs)) W
theorem BS.fin(h:BS J g N w m i e c b wr)(x:AT)(V:wr.heap[b]?=some (.cells x.cs 34 (0,0)))(hM:N<=M):eA J g M w x ((((((wr.setCell (w.heap.size+1,0) (.int .i64 x.k)).setCell (w.heap.size+1,1) (.int .i64 x.e)).setCell (w.heap.size+1,2) (.int .i64 x.a)).setCell (w.heap.size+1,3) (.int .i64 x.b)).setCell (w.heap.size+1,4) (.int .i64 x.c)).setCell (w.heap.size+1,5) (.string x.nm)):=by
 obtain⟨x',h0,O,z,h3,h4,h5,h6,h7,⟨y,h8⟩⟩:=h;have hx:MA x:=by rw[h6] at V;simp[AT.cs] at V;obtain⟨a0,a1,a2,a3,a4,a5⟩:=V;exact⟨a5▸h0.1,a1▸h0.2.1,a1▸h0.2.2.1,a4▸h0.2.2.2⟩
 have n1:w.heap.size+1≠g:=ω;have n2:J.heap.size<=w.heap.size+1:=ω;have n3:w.heap.size<=w.heap.size+1:=ω;exact⟨IQ (gh h8),_,rfl,⟨x,rfl,hx⟩,((((((O.set n1 n2).set n1 n2).set n1 n2).set n1 n2).set n1 n2).set n1 n2).mono hM,Cp (Cp (Cp (Cp (Cp (Cp z n3 _) n3 _) n3 _) n3 _) n3 _) n3 _⟩
theorem BS.pk(h:BS J g N w m i e c b wr)(n:Int)(hN:N<=900000:=by omega)(h0:0<n:=by decide)(hn:n<=1000000:=by decide):Ξ prog 23 #[.pointer g,.int .i64 n] wr λe' w'=>∃x:Int,e'=.returned (.int .i64 x)/\0<=x/\x<n/\BS J g (N+1) w m i e c b w':=
 (h.dr.pick n ω hn).mono λ_ _ hp=>by obtain⟨x,rfl,O,z,h3,h4⟩:=hp;exact⟨x,rfl,O,z h0,h.draw h3 h4⟩
theorem BS.kd{xs:List AX}(h:BS J g N w m i e c b wr)(kind:Int)(hN:N<=900000)(hi:∀w',w.grownBy w' (some g)->Bf w' i xs)(hl:xs.length<=12):Ξ prog 119 #[.pointer g,.agg #[m,i,e,c],.int .i64 kind] wr λe' w'=>∃x:Int,e'=.returned (.int .i64 x)/\0<=x/\x<12/\BS J g (N+1) w m i e c b w':=
 (QY m i e c xs kind h.dr hN (hi _ h.gr) hl).mono λ_ _ hp=>by obtain⟨_,rfl,⟨x,rfl,O,z⟩,h3,h4⟩:=hp;exact⟨x,rfl,O,z,h.draw h3 h4⟩
theorem BS.mono(h:BS J g N w m i e c b wr)(hm:N<=M):BS J g M w m i e c b wr:=by obtain⟨x,h0,O,z⟩:=h;exact⟨x,h0,O.mono hm,z⟩
end
def gN(g b:Nat)(m i e c:Φ)(k:Nat)(v:Φ):Prop:=match k with
 |0|2=>v=.pointer g
 |1=>v=.agg #[m,i,e,c]
 |3=>∃h2:Int,v=.int .i64 h2/\0<=h2/\h2<2
 |4|5=>∃h2:Int,v=.int .i64 h2
 |6=>v=.pointer (some ⟨b,2,none⟩)
 |_=>True
theorem YU (f:Int)(b:Bool)(w:Ω)(h0:0<=f)(O:f<=1000):
 Ξ prog 91 #[.int .i64 f,.bool b] w λe w'=>∃d:Int,e=.returned (.int .i64 d)/\d<=1000000/\w=w':=(aI f b w h0 O).mono λ_ _ h=>⟨_,h.1,by split<;>omega,h.2⟩
theorem QX (m i e c:Φ)(xs:List AX)(h:Dr J g N w)(hN:N<=800000)(hi:∀w',w.grownBy w' (some g)->Bf w' i xs)(hl:xs.length<=12):
 Ξ prog 58 #[.pointer g,.agg #[m,i,e,c]] w (Gu J g (N+20) w λv=>∃x:AT,v=.agg x.cs/\MA x):=by
 have ad:=h.lt;have eD:J.heap.size<=w.heap.size:=h.2.1.size;have nY:=hi;have Hi:=AA hi;clear hi nY;go_in;go_wp2_with fail;refine(((h.alloc _).alloc _).pick _).mono ?_;rintro e' w1 ⟨x,rfl,kR,iK,O,g1⟩;have iK:=iK ψ;go_wp2_with fail;refine(O.pick _).mono ?_;rintro e' w2 ⟨y,rfl,jd,ed,z,g2⟩;go_wp2_with fail;refine(QA w2.heap.size 6 [⟨#[97]⟩,⟨#[98]⟩,⟨#[99]⟩,⟨#[97,98]⟩,⟨#[98,98]⟩,⟨#[97]⟩] (z.alloc _) ω rfl ψ ψ (by have:=z.lt;omega) χ (λk hk=>K9 w2 [⟨#[97]⟩,⟨#[98]⟩,⟨#[99]⟩,⟨#[97,98]⟩,⟨#[98,98]⟩,⟨#[97]⟩] _ hk)).mono ?_;rintro e' w3 ⟨v,rfl,⟨s,R,rfl⟩,h3,g3⟩;have lI:s.size<=8:=by
  simp only[xF,wU,or_false] at R
  rcases R with rfl|rfl|rfl|rfl|rfl|rfl<;>decide
 go_upto_block 0 with fail;have H:BS J g (N+3) w m i e c w3 (w3.alloc (.cells #[.int .i64 (1+x),y,θ,θ,θ,s] 34)):=by
  have G:=AO (AO g1 g2) (AO (AW (AJ _ _) _) g3);have hz:=G.size;simp at hz;have B1:=yx (w.alloc (.cells #[m,i,e,c] 28)) (.cells #[θ,θ,θ,θ,θ,ϑ] 34);have B0:=AB (yx w (.cells #[m,i,e,c] 28)) (AJ _ (.cells #[θ,θ,θ,θ,θ,ϑ] 34));simp only[xz] at B1;have yV:∀{q:Nat} {o:Obj},w.heap.size<=q->((w.alloc (.cells #[m,i,e,c] 28)).alloc (.cells #[θ,θ,θ,θ,θ,ϑ] 34)).heap[q]?=some o->(w3.alloc (.cells #[.int .i64 (1+x),y,θ,θ,θ,s] 34)).heap[q]?=some o:=λ{q o} hq V=>AB ((G.block q (AU V) η).trans V) (AJ _ _)
  exact⟨⟨1+x,y,0,0,0,s⟩,⟨lI,jd,ed ψ,by simp only;omega⟩,h3.alloc _,Ib (AO (AW (IE _ _ _) _) G) _,ω,ad,eD,yx _ _,yV (yF _) B0,⟨⟨0,0,0,0,0,⟨#[]⟩⟩,yV ω B1⟩⟩
 clear O z h3 g1 g2 g3 h R jd ed;generalize w3.alloc (.cells #[.int .i64 (1+x),y,θ,θ,θ,s] 34)=wr at H;generalize w3.heap.size=b at H;obtain⟨lS,lR,lQ,kw⟩:=H.ne;go_cut [] (λwx=>BS J g (N+12) w m i e c b wx)
 case first=>
  rcases(ω:x=0∨x=1∨x=2∨x=3∨x=4∨x=5∨x=6∨x=7∨x=8∨x=9∨x=10) with rfl|rfl|rfl|rfl|rfl|rfl|rfl|rfl|rfl|rfl|rfl
  .go_wp2_with fail
   go_meet;exact H.mono ω
  .obtain⟨k0,k1,k2,k3⟩:=H.kc
   go_wp2_with fail;refine(H.kd _ ω Hi hl).mono ?_;rintro e' w4 ⟨h2,rfl,z0,z1,S4⟩;replace H:=S4;clear S4 k0 k1 k2 k3;obtain⟨K,c0,c1,c2,c3,c4,c5,hf,ax⟩:=H.cc;go_wp2_with fail;go_meet;exact(H.set2 _).mono ω
  .obtain⟨k0,k1,k2,k3⟩:=H.kc
   go_wp2_with fail;refine(H.kd _ ω Hi hl).mono ?_;rintro e' w4 ⟨h2,rfl,z0,z1,S4⟩;replace H:=S4;clear S4 k0 k1 k2 k3;obtain⟨K,c0,c1,c2,c3,c4,c5,hf,ax⟩:=H.cc;go_wp2_with fail;refine((H.set2 _).pk _).mono ?_;rintro e' w4 ⟨h2,rfl,z0,z1,S4⟩;replace H:=S4;clear S4 c0 c1 c2 c3 c4 c5 hf ax;obtain⟨K,c0,c1,c2,c3,c4,c5,hf,ax⟩:=H.cc;go_wp2_with fail;refine((H.set3 _).pk _).mono ?_;rintro e' w4 ⟨p,rfl,p0,p1,S4⟩;replace H:=S4;clear S4 c0 c1 c2 c3 c4 c5 hf ax;go_wp2_with fail;refine(H.pk _).mono ?_;rintro e' w4 ⟨q,rfl,q0,q1,S4⟩;replace H:=S4;clear S4
   rcases(ω:p=0∨p=1) with rfl|rfl
   rotate_left
   rotate_left
   all_goals
    obtain⟨K,c0,c1,c2,c3,c4,c5,hf,ax⟩:=H.cc
    go_wp2_with fail;go_meet;exact(H.set4 _ ω).mono ω
  .obtain⟨k0,k1,k2,k3⟩:=H.kc
   go_wp2_with fail;refine(H.kd _ ω Hi hl).mono ?_;rintro e' w4 ⟨h2,rfl,z0,z1,S4⟩;replace H:=S4;clear S4 k0 k1 k2 k3;obtain⟨K,c0,c1,c2,c3,c4,c5,hf,ax⟩:=H.cc;go_wp2_with fail;refine((H.set2 _).pk _).mono ?_;rintro e' w4 ⟨h2,rfl,z0,z1,S4⟩;replace H:=S4;clear S4 c0 c1 c2 c3 c4 c5 hf ax;obtain⟨K,c0,c1,c2,c3,c4,c5,hf,ax⟩:=H.cc;go_wp2_with fail;go_meet;exact(H.set3 _).mono ω
  .go_wp2_with fail
   refine Fj 7 mixed φ 152 rfl φ (λk v _=>gN g b m i e c k v) (λhg wr=>(hg 3=false->BS J g (N+3) w m i e c b wr)/\(hg 5=false->BS J g (N+4) w m i e c b wr)/\BS J g (N+5) w m i e c b wr) ?_ ?_ ?_
   .have Sd:=H.draw (H.dr.below (Ap (yN _ _) 1)) (AW (Ap (yN _ _) 1) _)
    exact⟨λ_=>Sd,λ_=>Sd.mono ω,Sd.mono ω⟩
   .intro k hk o D a w5 E A hg Y Z x1 X
    match k,hk with
    |0,_=>
     obtain rfl:=yP D;have e0:a.tmps[0]?.getD Θ=.pointer g:=by rw[No E 0];rfl
     clear A E;refine yO ?_;go_simp;exact X _ _ rfl ⟨λh=>Z.1 (Dm h),λh=>Z.2.1 (Dm h),Z.2.2⟩ (λj u _ _ _ h=>h)
    |1,_=>
     obtain rfl:=yP D;have e3:a.tmps[3]?.getD Θ=.pointer w:=by rw[No E 3];rfl
     clear A E;refine yO ?_;obtain⟨k0,k1,k2,k3⟩:=Z.2.2.kc;go_simp;exact X _ _ rfl ⟨λh=>Z.1 (Dm h),λh=>Z.2.1 (Dm h),Z.2.2⟩ (λj u _ _ _ h=>h)
    |2,_=>
     obtain rfl:=yP D;have e0:a.tmps[0]?.getD Θ=.pointer g:=by rw[No E 0];rfl
     clear A E;refine yO ?_;go_simp;exact X _ _ rfl ⟨λh=>Z.1 (Dm h),λh=>Z.2.1 (Dm h),Z.2.2⟩ (λj u _ _ _ h=>h)
    |3,_=>
     obtain rfl:=yP D;have d2:=Bc A 2
     change a.tmps[53]?.getD Θ=.pointer g at d2
     clear A E;refine yO ?_;have S3:=Z.1 Y.1;go_simp;refine(S3.dr.pick _).mono ?_;rintro e' w6 ⟨h2,rfl,z0,z1,h6,g6⟩;have S4:=S3.draw h6 g6;exact X _ _ ⟨h2,rfl,z0,z1 ψ⟩ ⟨λh=>by simp[Hz] at h,λ_=>S4,S4.mono ω⟩ (λj u _ _ _ h=>h)
    |4,_=>
     obtain rfl:=yP D;have d3:=Bc A 3
     change ∃h2:Int,a.tmps[54]?.getD Θ=.int .i64 h2/\0<=h2/\h2<2 at d3
     clear A E;refine yO ?_;obtain⟨h2,d3,z0,z1⟩:=d3;go_simp;exact X _ _ ⟨_,rfl⟩ ⟨λh=>Z.1 (Dm h),λh=>Z.2.1 (Dm h),Z.2.2⟩ (λj u _ _ _ h=>h)
    |5,_=>
     obtain rfl:=yP D;have d0:=Bc A 0
     change a.tmps[51]?.getD Θ=.pointer g at d0
     have d1:=Bc A 1
     change a.tmps[52]?.getD Θ=.agg #[m,i,e,c] at d1
     have d4:=Bc A 4
     change ∃h2:Int,a.tmps[55]?.getD Θ=.int .i64 h2 at d4
     clear A E;refine yO ?_;obtain⟨h2,d4⟩:=d4;have S4:=Z.2.1 Y.1;go_simp;refine(QY m i e c xs _ S4.dr ω (Hi _ S4.gr) hl).mono ?_;rintro e' w6 ⟨v,rfl,⟨z',rfl,_,_⟩,h6,g6⟩;have S5:=S4.draw h6 g6;have l3:hg 3=true:=Y.2.2 4 3 (Y.2.1 4 φ) φ;exact X _ _ ⟨_,rfl⟩ ⟨(λh=>by rw[Dm h] at l3;cases l3),λh=>by simp[Hz] at h,S5.mono ω⟩ (λj u _ _ _ h=>h)
    |6,_=>
     obtain rfl:=yP D;have e5:a.tmps[5]?.getD Θ=.pointer b:=by rw[No E 5];rfl
     clear A E;refine yO ?_;go_simp;exact X _ _ rfl ⟨λh=>Z.1 (Dm h),λh=>Z.2.1 (Dm h),Z.2.2⟩ (λj u _ _ _ h=>h)
   intro ys w5 hR hg hL Z
   obtain⟨h2,hz⟩:=Bh hR 5;have h6:ys 6=.pointer (some ⟨b,2,none⟩):=Bh hR 6;replace H:=Z.2.2;clear hR hL Z;simp only[Ai,Ae,yL,yI,yJ,yH,hz,h6];simp;generalize ys 0=z0;generalize ys 1=z1;generalize ys 2=z2;generalize ys 3=z3;generalize ys 4=z4;clear hz h6;obtain⟨K,c0,c1,c2,c3,c4,c5,hf,ax⟩:=H.cc;go_wp2_with fail;go_meet;exact(H.set2 _).mono ω
  .go_wp2_with fail
   refine(H.pk _).mono ?_;rintro e' w4 ⟨p,rfl,p0,p1,S4⟩;replace H:=S4;clear S4;obtain⟨k0,k1,k2,k3⟩:=H.kc;go_wp2_with fail;refine(H.kd _ ω Hi hl).mono ?_;rintro e' w4 ⟨h2,rfl,z0,z1,S4⟩;replace H:=S4;clear S4 k0 k1 k2 k3;obtain⟨K,c0,c1,c2,c3,c4,c5,hf,ax⟩:=H.cc;go_wp2_with fail;refine((H.set2 _).pk _).mono ?_;rintro e' w4 ⟨h2,rfl,z0,z1,S4⟩;replace H:=S4;clear S4 c0 c1 c2 c3 c4 c5 hf ax;obtain⟨k0,k1,k2,k3⟩:=H.kc;obtain⟨K,c0,c1,c2,c3,c4,c5,hf,ax⟩:=H.cc;go_wp2_with fail;refine((H.set3 _).kd _ ω Hi hl).mono ?_;rintro e' w4 ⟨f,rfl,f0,f1,S4⟩;replace H:=S4;clear S4 k0 k1 k2 k3 c0 c1 c2 c3 c4 c5 hf ax;go_wp2_with fail;refine(H.pk _).mono ?_;rintro e' w4 ⟨t,rfl,t0,t1,S4⟩;replace H:=S4;clear S4;go_wp2_with fail;refine(YU f _ _ ω ω).mono ?_;rintro e' w4 ⟨d,rfl,hd,rfl⟩;obtain⟨K,c0,c1,c2,c3,c4,c5,hf,ax⟩:=H.cc;go_wp2_with fail;refine((H.set4 _ hd).pk _).mono ?_;rintro e' w4 ⟨u,rfl,u0,u1,S4⟩;replace H:=S4;clear S4 c0 c1 c2 c3 c4 c5 hf ax
   by_cases hu:u=0
   .subst hu
    go_wp2_with fail;refine(On H.dr ω).mono ?_;rintro e' w4 ⟨v,rfl,⟨z',rfl,_,D7⟩,h4,g4⟩;replace H:=H.draw h4 g4;clear h4 g4;obtain⟨K,c0,c1,c2,c3,c4,c5,hf,ax⟩:=H.cc;go_wp2_with fail;go_meet;exact(H.set4 _ ω).mono ω
   have t0:(u==0)=false:=by simp[hu]
   clear hu;go_wp2_with fail;go_meet;exact H.mono ω
  .obtain⟨k0,k1,k2,k3⟩:=H.kc
   go_wp2_with fail;refine(H.kd _ ω Hi hl).mono ?_;rintro e' w4 ⟨h2,rfl,z0,z1,S4⟩;replace H:=S4;clear S4 k0 k1 k2 k3;obtain⟨K,c0,c1,c2,c3,c4,c5,hf,ax⟩:=H.cc;go_wp2_with fail;refine((H.set2 _).pk _).mono ?_;rintro e' w4 ⟨u,rfl,u0,u1,S4⟩;replace H:=S4;clear S4 c0 c1 c2 c3 c4 c5 hf ax
   by_cases hu:u=0
   .subst hu
    obtain⟨K,c0,c1,c2,c3,c4,c5,hf,ax⟩:=H.cc;go_wp2_with fail;go_meet;exact(H.set2 _).mono ω
   have t0:(u==0)=false:=by simp[hu]
   clear hu;go_wp2_with fail;go_meet;exact H.mono ω
  rotate_left
  rotate_left
  .go_wp2_with fail
   refine(H.pk _).mono ?_;rintro e' w4 ⟨p,rfl,p0,p1,S4⟩;replace H:=S4;clear S4;go_wp2_with fail;refine(H.pk _).mono ?_;rintro e' w4 ⟨q,rfl,q0,q1,S4⟩;replace H:=S4;clear S4;go_wp2_with fail;refine(H.pk _).mono ?_;rintro e' w4 ⟨r,rfl,r0,r1,S4⟩;replace H:=S4;clear S4
   rcases(ω:p=0∨p=1) with rfl|rfl
   .obtain⟨K,c0,c1,c2,c3,c4,c5,hf,ax⟩:=H.cc
    go_wp2_with fail;refine((H.set2 _).pk _).mono ?_;rintro e' w4 ⟨h2,rfl,z0,z1,S4⟩;replace H:=S4;clear S4 c0 c1 c2 c3 c4 c5 hf ax;obtain⟨K,c0,c1,c2,c3,c4,c5,hf,ax⟩:=H.cc;go_wp2_with fail;go_meet;exact(H.set3 _).mono ω
   obtain⟨K,c0,c1,c2,c3,c4,c5,hf,ax⟩:=H.cc
   go_wp2_with fail;refine((H.set2 _).pk _).mono ?_;rintro e' w4 ⟨h2,rfl,z0,z1,S4⟩;replace H:=S4;clear S4 c0 c1 c2 c3 c4 c5 hf ax;obtain⟨K,c0,c1,c2,c3,c4,c5,hf,ax⟩:=H.cc;go_wp2_with fail;go_meet;exact(H.set3 _).mono ω
  .go_wp2_with fail
   refine(H.pk _).mono ?_;rintro e' w4 ⟨p,rfl,p0,p1,S4⟩;replace H:=S4;clear S4;go_wp2_with fail;refine(H.pk _).mono ?_;rintro e' w4 ⟨q,rfl,q0,q1,S4⟩;replace H:=S4;clear S4;go_wp2_with fail;refine(H.pk _).mono ?_;rintro e' w4 ⟨r,rfl,r0,r1,S4⟩;replace H:=S4;clear S4
   rcases(ω:p=0∨p=1) with rfl|rfl
   rotate_left
   rotate_left
   all_goals
    obtain⟨K,c0,c1,c2,c3,c4,c5,hf,ax⟩:=H.cc
    go_wp2_with fail;refine((H.set2 _).pk _).mono ?_;rintro e' w4 ⟨h2,rfl,z0,z1,S4⟩;replace H:=S4;clear S4 c0 c1 c2 c3 c4 c5 hf ax;obtain⟨K,c0,c1,c2,c3,c4,c5,hf,ax⟩:=H.cc;go_wp2_with fail;go_meet;exact(H.set3 _).mono ω
  all_goals
   go_wp2_with fail
   refine(H.pk _).mono ?_;rintro e' w4 ⟨h2,rfl,z0,z1,S4⟩;replace H:=S4;clear S4;obtain⟨K,c0,c1,c2,c3,c4,c5,hf,ax⟩:=H.cc;go_wp2_with fail;go_meet;exact(H.set2 _).mono ω
 case rest=>
  clear H;have H:=hcut;go_wp2_with fail;refine(H.pk _).mono ?_;rintro e' w4 ⟨q,rfl,q0,q1,S4⟩;replace H:=S4;clear S4
  by_cases nb:q=0
  .subst nb
   go_wp2_with fail;refine(H.pk _).mono ?_;rintro e' w4 ⟨h2,rfl,z0,z1,S4⟩;replace H:=S4;clear S4;obtain⟨K,c0,c1,c2,c3,c4,c5,hf,ax⟩:=H.cc;obtain⟨y1,d0,d1,d2,d3,d4,d5,jg⟩:=H.qc;go_wp2_with fail;obtain⟨⟨E0,E1,E2,E3,E4,E5⟩,Fin⟩:=BS.fin (M:=N+20) (H.set0 (h2 - 1)) ⟨h2 - 1,K.e,K.a,K.b,K.c,K.nm⟩ (by have:=yE w4 b 0 _ _ (.int .i64 (h2 - 1)) ax.u;simpa[AT.cs] using this) ω;exact yB (v:=.agg #[_,_,_,_,_,_]) (by simp[results,vI,go_sem,E0,E1,E2,E3,E4,E5]) rfl Fin
  by_cases na:q=1
  .subst na
   go_wp2_with fail;refine(H.pk _).mono ?_;rintro e' w4 ⟨h2,rfl,z0,z1,S4⟩;replace H:=S4;clear S4;obtain⟨K,c0,c1,c2,c3,c4,c5,hf,ax⟩:=H.cc;obtain⟨y1,d0,d1,d2,d3,d4,d5,jg⟩:=H.qc;go_wp2_with fail;obtain⟨⟨E0,E1,E2,E3,E4,E5⟩,Fin⟩:=BS.fin (M:=N+20) (H.set2 (h2 - 2)) ⟨K.k,K.e,h2 - 2,K.b,K.c,K.nm⟩ (by have:=yE w4 b 2 _ _ (.int .i64 (h2 - 2)) ax.u;simpa[AT.cs] using this) ω;exact yB (v:=.agg #[_,_,_,_,_,_]) (by simp[results,vI,go_sem,E0,E1,E2,E3,E4,E5]) rfl Fin
  by_cases m7:q=2
  .subst m7
   go_wp2_with fail;refine(H.pk _).mono ?_;rintro e' w4 ⟨h2,rfl,z0,z1,S4⟩;replace H:=S4;clear S4;obtain⟨K,c0,c1,c2,c3,c4,c5,hf,ax⟩:=H.cc;obtain⟨y1,d0,d1,d2,d3,d4,d5,jg⟩:=H.qc;go_wp2_with fail;obtain⟨⟨E0,E1,E2,E3,E4,E5⟩,Fin⟩:=BS.fin (M:=N+20) (H.set3 (h2 - 1)) ⟨K.k,K.e,K.a,h2 - 1,K.c,K.nm⟩ (by have:=yE w4 b 3 _ _ (.int .i64 (h2 - 1)) ax.u;simpa[AT.cs] using this) ω;exact yB (v:=.agg #[_,_,_,_,_,_]) (by simp[results,vI,go_sem,E0,E1,E2,E3,E4,E5]) rfl Fin
  by_cases m0:q=3
  .subst m0
   go_wp2_with fail;refine(J7 H.dr ω).mono ?_;rintro e' w4 ⟨v,rfl,⟨s',R,rfl⟩,h4,g4⟩;replace H:=H.draw h4 g4;clear h4 g4;obtain⟨K,c0,c1,c2,c3,c4,c5,hf,ax⟩:=H.cc;obtain⟨y1,d0,d1,d2,d3,d4,d5,jg⟩:=H.qc;go_wp2_with fail;obtain⟨⟨E0,E1,E2,E3,E4,E5⟩,Fin⟩:=BS.fin (M:=N+20) (H.setS s' R) ⟨K.k,K.e,K.a,K.b,K.c,s'⟩ (by have:=yE w4 b 5 _ _ (.string s') ax.u;simpa[AT.cs] using this) ω;exact yB (v:=.agg #[_,_,_,_,_,_]) (by simp[results,vI,go_sem,E0,E1,E2,E3,E4,E5]) rfl Fin
  by_cases mZ:q=4
  .subst mZ
   go_wp2_with fail;have kB:=H.draw (H.dr.alloc (.cells #[.int .i64 (-1),.int .i64 10000,.int .i64 2,.int .i64 49] 3)) (AW (AJ _ _) _);have fs:=H.dr.lt;refine(kB.dr.pick _).mono ?_;rintro e' w5 ⟨h2,rfl,z0,z1,h5,g5⟩;replace z1:=z1 ψ;replace H:=kB.draw h5 g5;have l0:=Dg (j:=0) g5 fs rfl;have l1:=Dg (j:=1) g5 fs rfl;have l2:=Dg (j:=2) g5 fs rfl;have l3:=Dg (j:=3) g5 fs rfl;clear h5 g5 kB fs;obtain⟨K,c0,c1,c2,c3,c4,c5,hf,ax⟩:=H.cc
   rcases(ω:h2=0∨h2=1∨h2=2∨h2=3) with rfl|rfl|rfl|rfl
   focus
    obtain⟨y1,d0,d1,d2,d3,d4,d5,jg⟩:=H.qc
    go_wp2_with fail;obtain⟨⟨E0,E1,E2,E3,E4,E5⟩,Fin⟩:=BS.fin (M:=N+20) (H.set4 (-1) ψ) ⟨K.k,K.e,K.a,K.b,-1,K.nm⟩ (by have:=yE w5 b 4 _ _ (.int .i64 (-1)) ax.u;simpa[AT.cs] using this) ω
   rotate_left
   focus
    obtain⟨y1,d0,d1,d2,d3,d4,d5,jg⟩:=H.qc
    go_wp2_with fail;obtain⟨⟨E0,E1,E2,E3,E4,E5⟩,Fin⟩:=BS.fin (M:=N+20) (H.set4 (10000) ψ) ⟨K.k,K.e,K.a,K.b,10000,K.nm⟩ (by have:=yE w5 b 4 _ _ (.int .i64 (10000)) ax.u;simpa[AT.cs] using this) ω
   rotate_left
   focus
    obtain⟨y1,d0,d1,d2,d3,d4,d5,jg⟩:=H.qc
    go_wp2_with fail;obtain⟨⟨E0,E1,E2,E3,E4,E5⟩,Fin⟩:=BS.fin (M:=N+20) (H.set4 (2) ψ) ⟨K.k,K.e,K.a,K.b,2,K.nm⟩ (by have:=yE w5 b 4 _ _ (.int .i64 (2)) ax.u;simpa[AT.cs] using this) ω
   rotate_left
   focus
    obtain⟨y1,d0,d1,d2,d3,d4,d5,jg⟩:=H.qc
    go_wp2_with fail;obtain⟨⟨E0,E1,E2,E3,E4,E5⟩,Fin⟩:=BS.fin (M:=N+20) (H.set4 (49) ψ) ⟨K.k,K.e,K.a,K.b,49,K.nm⟩ (by have:=yE w5 b 4 _ _ (.int .i64 (49)) ax.u;simpa[AT.cs] using this) ω
   rotate_left
   all_goals
    exact yB (v:=.agg #[_,_,_,_,_,_]) (by simp[results,vI,go_sem,E0,E1,E2,E3,E4,E5]) rfl Fin
  have t0:(q==0)=false:=by simp[nb]
  have t1:(q==1)=false:=by simp[na]
  have t2:(q==2)=false:=by simp[m7]
  have t3:(q==3)=false:=by simp[m0]
  have t4:(q==4)=false:=by simp[mZ]
  clear nb na m7 m0 mZ;obtain⟨K,c0,c1,c2,c3,c4,c5,hf,ax⟩:=H.cc;obtain⟨y1,d0,d1,d2,d3,d4,d5,jg⟩:=H.qc;go_wp2_with fail;obtain⟨⟨E0,E1,E2,E3,E4,E5⟩,Fin⟩:=BS.fin (M:=N+20) H K ax ω;exact yB (v:=.agg #[_,_,_,_,_,_]) (by simp[results,vI,go_sem,E0,E1,E2,E3,E4,E5]) rfl Fin
def Xp(x:AT):Prop:=MA x/\(x.e=1∨x.e=2)
theorem Gu.e12{x:AT}(h:Gu J g N w (λv=>∃x:AT,v=.agg x.cs/\MA x) (.returned (.agg x.cs)) W)(he:x.e=1∨x.e=2):Gu J g N w (λv=>∃x:AT,v=.agg x.cs/\Xp x) (.returned (.agg x.cs)) W:=by obtain⟨v,e,⟨x',e2,hx⟩,O⟩:=h;cases e;refine⟨_,rfl,⟨x',e2,hx,?_⟩,O⟩;simp[AT.cs] at e2;rw[<-e2.2.1];exact he
theorem Li (m i e c:Φ)(xs:List AX)(h:Dr J g N w)(hN:N<=700000)(hi:∀w',w.grownBy w' (some g)->Bf w' i xs)(hl:xs.length<=12):
 Ξ prog 22 #[.pointer g,.agg #[m,i,e,c]] w (Gu J g (N+30) w λv=>∃x:AT,v=.agg x.cs/\Xp x):=by
 have ad:=h.lt;have eD:J.heap.size<=w.heap.size:=h.2.1.size;have Hi:=AA hi;clear hi;go_in;go_wp2_with fail;have gA:=AW (IE w (.cells #[m,i,e,c] 28) (.cells #[θ,θ,θ,θ,θ,ϑ] 34)) (some g);refine(QX m i e c xs ((h.alloc _).alloc _) ω (λw' L=>Hi w' (AO gA L)) hl).mono ?_;rintro e' w1 ⟨v,rfl,⟨x,rfl,hx⟩,O,g1⟩;have H:BS J g (N+20) w m i e c w1 (w1.alloc (.cells x.cs 34)):=by
  have hz:=g1.size;simp at hz;have B1:=yx (w.alloc (.cells #[m,i,e,c] 28)) (.cells #[θ,θ,θ,θ,θ,ϑ] 34);have B0:=AB (yx w (.cells #[m,i,e,c] 28)) (AJ _ (.cells #[θ,θ,θ,θ,θ,ϑ] 34));simp only[xz] at B1;have yV:∀{q:Nat} {o:Obj},w.heap.size<=q->((w.alloc (.cells #[m,i,e,c] 28)).alloc (.cells #[θ,θ,θ,θ,θ,ϑ] 34)).heap[q]?=some o->(w1.alloc (.cells x.cs 34)).heap[q]?=some o:=λ{q o} hq V=>AB ((g1.block q (AU V) η).trans V) (AJ _ _)
  exact⟨x,hx,O.alloc _,Ib (AO gA g1) _,ω,ad,eD,yx _ _,yV (yF _) B0,⟨⟨0,0,0,0,0,⟨#[]⟩⟩,yV ω B1⟩⟩
 clear O g1 h gA;simp only[AT.cs] at H ⊢;go_wp2_with fail;generalize w1.alloc (.cells #[x.k,x.e,x.a,x.b,x.c,x.nm] 34)=wr at H ⊢;generalize w1.heap.size=b at H ⊢;obtain⟨lS,lR,lQ,kw⟩:=H.ne;refine(H.pk _).mono ?_;rintro e' w4 ⟨h2,rfl,z0,z1,S4⟩;replace H:=S4;clear S4;obtain⟨K,c0,c1,c2,c3,c4,c5,hf,ax⟩:=H.cc
 by_cases hk:K.k=1
 .have t0:(K.k==1)=true:=by simp[hk]
  clear hk;go_wp2_with fail;refine((H.set1 _ ω ω).dr.pick _).mono ?_;rintro e' w5 ⟨u,rfl,u0,u1,h5,g5⟩;replace u1:=u1 ψ;have jx:w5.heap[b]?=some (.cells (AT.cs ⟨K.k,1+h2,K.a,K.b,K.c,K.nm⟩) 34 (0,0)):=(g5.block b (by have:=AU ax.u;simpa using this) (by have:=H.gr.size;have:=lS;simp;obtain⟨_,_,_,_,h9,_⟩:=H;omega)).trans (by have:=yE w4 b 1 _ _ (.int .i64 (1+h2)) ax.u;simpa[AT.cs] using this);have fl:=AA jx;clear jx;replace H:=(H.set1 _ ω ω).draw h5 g5;clear h5 g5 c0 c1 c2 c3 c4 c5 hf ax t0
  by_cases hu:0<u
  .go_wp2_with fail
   have kB:=H.draw (H.dr.alloc (.cells #[.string ⟨#[98]⟩,.string ⟨#[99]⟩] 9)) (AW (AJ _ _) _);refine(QA w5.heap.size 2 [⟨#[98]⟩,⟨#[99]⟩] kB.dr ω rfl ψ ψ (by have:=H.dr.lt;omega) χ (λk hk=>K9 w5 [⟨#[98]⟩,⟨#[99]⟩] _ hk)).mono ?_;rintro e' w6 ⟨v,rfl,⟨s,R,rfl⟩,h6,g6⟩;replace H:=kB.draw h6 g6;clear h6 g6 kB;simp only[xF,wU,or_false] at R;obtain⟨K,c0,c1,c2,c3,c4,c5,hf,ax⟩:=H.cc
   rcases R with rfl|rfl
   .obtain⟨y1,d0,d1,d2,d3,d4,d5,jg⟩:=H.qc
    go_wp2_with fail;obtain⟨⟨E0,E1,E2,E3,E4,E5⟩,Fin⟩:=BS.fin (M:=N+30) ((H.setS ⟨#[98]⟩ ψ).set1 1 ψ ψ) ⟨K.k,1,K.a,K.b,K.c,⟨#[98]⟩⟩ (by have h0:=yE w6 b 5 _ _ (.string ⟨#[98]⟩) ax.u;have O:=yE _ b 1 _ _ (.int .i64 1) h0;simpa[AT.cs] using O) ω;exact yB (v:=.agg #[_,_,_,_,_,_]) (by simp[results,uz,go_sem,E0,E1,E2,E3,E4,E5]) rfl (Fin.e12 (.inl rfl))
   obtain⟨y1,d0,d1,d2,d3,d4,d5,jg⟩:=H.qc
   have ow:(((w6.setCell (b,5) (.string ⟨#[99]⟩)).setCell (b,1) (.int .i64 1)).setCell (b,1) (.int .i64 2)).heap[b]?=some (.cells (AT.cs ⟨K.k,2,K.a,K.b,K.c,⟨#[99]⟩⟩) 34 (0,0)):=by have h0:=yE w6 b 5 _ _ (.string ⟨#[99]⟩) ax.u;have O:=yE _ b 1 _ _ (.int .i64 1) h0;have z:=yE _ b 1 _ _ (.int .i64 2) O;simpa[AT.cs] using z
   have cd:=(IQ ow).2.1;have es:=AA ow;clear ow;go_wp2_with fail;obtain⟨⟨E0,E1,E2,E3,E4,E5⟩,Fin⟩:=BS.fin (M:=N+30) (((H.setS ⟨#[99]⟩ ψ).set1 1 ψ ψ).set1 2 ψ ψ) ⟨K.k,2,K.a,K.b,K.c,⟨#[99]⟩⟩ es ω;exact yB (v:=.agg #[_,_,_,_,_,_]) (by simp[results,uz,go_sem,E0,E1,E2,E3,E4,E5]) rfl (Fin.e12 (.inr rfl))
  have u2:u<=0:=ω;obtain⟨c0,c1,c2,c3,c4,c5⟩:=IQ fl.u;obtain⟨y1,d0,d1,d2,d3,d4,d5,jg⟩:=H.qc;go_wp2_with fail;obtain⟨⟨E0,E1,E2,E3,E4,E5⟩,Fin⟩:=BS.fin (M:=N+30) H _ fl ω;exact yB (v:=.agg #[_,_,_,_,_,_]) (by simp[results,uz,go_sem,E0,E1,E2,E3,E4,E5]) rfl (Fin.e12 (by simp only;omega))
 have t0:(K.k==1)=false:=by simp[hk]
 clear hk;obtain⟨y1,d0,d1,d2,d3,d4,d5,jg⟩:=H.qc;go_wp2_with fail;obtain⟨⟨E0,E1,E2,E3,E4,E5⟩,Fin⟩:=BS.fin (M:=N+30) (H.set1 (1+h2) ω ω) ⟨K.k,1+h2,K.a,K.b,K.c,K.nm⟩ (by have:=yE w4 b 1 _ _ (.int .i64 (1+h2)) ax.u;simpa[AT.cs] using this) ω;exact yB (v:=.agg #[_,_,_,_,_,_]) (by simp[results,uz,go_sem,E0,E1,E2,E3,E4,E5]) rfl (Fin.e12 (by simp only;omega))
def Il(J:Ω)(g N:Nat)(w:Ω)(P:Φ->Ω->Prop)(e:Ending)(w':Ω):Prop:=∃v,e=.returned v/\P v w'/\Dr J g N w'/\w.grownBy w' (some g)
def Pk(m:Int)(v:Φ):Prop:=∃x:Int,v=.int .i64 x/\0<=x/\x<m
theorem yY (cs:List Nat)(hg:Nat->Bool)(i:Nat):(cs.filter λj=>!Hz hg i j).length<=(cs.filter λj=>!hg j).length:=by
 induction cs with
 |nil=>exact yF _
 |cons c cs ih=>
  simp only[vN]
  by_cases h:c=i
  .subst h
   rw[show Hz hg c c=true by simp[Hz]];cases hg c<;>simp<;>omega
  rw[show Hz hg i c=hg c by simp[Hz,h]]
  cases hg c<;>simp<;>omega
theorem X9 (cs:List Nat)(hg:Nat->Bool)(i:Nat)(hi:cs.contains i=true)(hL:hg i=false):(cs.filter λj=>!Hz hg i j).length+1<=(cs.filter λj=>!hg j).length:=by
 induction cs with
 |nil=>cases hi
 |cons c cs ih=>
  simp only[vN]
  by_cases h:c=i
  .subst h
   rw[show Hz hg c c=true by simp[Hz],hL];have:=yY cs hg c;simp;omega
  rw[show Hz hg i c=hg c by simp[Hz,h]]
  have nY:cs.contains i=true:=by simpa[Ne.symm h] using hi
  have:=ih nY;cases hg c<;>simp<;>omega
def Ze(J:Ω)(g:Nat)(W0:Ω)(N0 kk c:Nat)(cs:List Nat)(hg:Nat->Bool)(w:Ω):Prop:=∃M,M+kk*(cs.filter λj=>!hg j).length<=N0+kk*c/\Dr J g M w/\W0.grownBy w (some g)
section
variable {P:Program} {l:List Oper} {n i:Nat} {o o':Oper} {a a0:Act} {w J W0:Ω} {x1:Act->Ω->Prop} {Q:Exit->Act->Ω->Prop} {hb:List Vx} {hs:Nat->Φ->Ω->Prop} {v:Φ} {g N0 kk c:Nat} {cs:List Nat} {hg:Nat->Bool}
abbrev gj(l:List Oper)(n:Nat)(a0 a:Act):Prop:=a.defers=a0.defers/\a.tmps.size=a0.tmps.size/\∀t,(∀i,i<n->Ae l i≠t)->a.tmps[t]?=a0.tmps[t]?
abbrev gt(l:List Oper)(i:Nat)(hb:List Vx)(hs:Nat->Φ->Ω->Prop)(a:Act)(w:Ω):Prop:=∀j,yk .any l.toArray i j=true->RV hb hs j (a.tmps[Ae l j]?.getD Θ) w
abbrev gU(hb:List Vx)(hs:Nat->Φ->Ω->Prop)(J:Ω)(g:Nat)(W0:Ω)(N0 kk c:Nat)(cs:List Nat)(hg:Nat->Bool)(i:Nat)(o:Oper)(a:Act)(w:Ω)(x1:Act->Ω->Prop):Prop:=∀v w',RV hb hs i v w'->Ze J g W0 N0 kk c cs (Hz hg i) w'->w.grownBy w' (some g)->x1 (a.put o.dst v) w'
theorem gc{b ie:Nat}(hW:W0.grownBy w (some g))(ad:b<W0.heap.size)(gl:b≠g)(h:W0.cell? (b,ie)=some v):w.cell? (b,ie)=some v:=(vY (hW.block b ad (by simpa using gl))).trans h
theorem dR{F:FuncId}{vs:Array Φ}{Pv:Φ->Ω->Prop}{k:Nat}(D:l[i]?=some o)(HQ:eh (gU hb hs J g W0 N0 kk c cs hg i o a w x1))(E:eh (gj l n a0 a))(A:eh (gt l i hb hs a w))(Y:eh (hg i=false))(Z:Ze J g W0 N0 kk c cs hg w)
 (hc:∀M,M<=N0+kk*c->Dr J g M w->W0.grownBy w (some g)->Ξ P F vs w (Il J g (M+k) w Pv))(hk:k<=kk:=by decide)(hR:∀v w',Pv v w'->RV hb hs i v w':=by exact λ_ _ h=>h)(hi:cs.contains i=true:=by rfl)
 (e:l[i]?=some o':=by rfl)(hw:L0 l i hb o'=some true:=by kernel_rfl)(hr:(execOp (dd l n i hb a0 a) o').run P w=.ok (.enter F vs) w:=by kernel_rfl):AZ P l o a w x1 Q:=by
 obtain rfl:=yP (D.symm.trans e);refine⟨λ_=>?_,λh=>absurd ((LM A hw).symm.trans h) ψ⟩;unfold Oper.wp;rw[<-TM E A,hr,Oper.upon_enter];obtain⟨M,hM,hD,hW⟩:=Z;refine(hc M ω hD hW).mono ?_;intro x w' h;obtain⟨v,rfl,O,z,h3⟩:=h;have hl:=X9 cs hg i hi Y.u;refine HQ v w' (hR v w' O) ⟨M+kk,?_,z.mono ω,AO hW h3⟩ h3;have:=wv kk hl;rw[Nat.mul_add,wZ] at this;omega
theorem iC{F:FuncId}{vs:Array Φ}{Pv:Φ->Prop}{k:Nat}(D:l[i]?=some o)(HQ:eh (gU hb hs J g W0 N0 kk c cs hg i o a w x1))(E:eh (gj l n a0 a))(A:eh (gt l i hb hs a w))(Y:eh (hg i=false))(Z:Ze J g W0 N0 kk c cs hg w)
 (hc:∀M,M<=N0+kk*c->Dr J g M w->W0.grownBy w (some g)->Ξ P F vs w (Gu J g (M+k) w Pv))(hk:k<=kk:=by decide)(hR:∀v w',Pv v->RV hb hs i v w':=by exact λ_ _ h=>h)(hi:cs.contains i=true:=by rfl)
 (e:l[i]?=some o':=by rfl)(hw:L0 l i hb o'=some true:=by kernel_rfl)(hr:(execOp (dd l n i hb a0 a) o').run P w=.ok (.enter F vs) w:=by kernel_rfl):AZ P l o a w x1 Q:=
 dR (Pv:=λv _=>Pv v) D HQ E A Y Z hc hk hR hi e hw hr
theorem Fv{id:Nat}(n N kk c:Nat)(cs:List Nat)(hb:List Vx)(hs:Nat->Φ->Ω->Prop)(ov:Dr J g N0 W0)
 (ly:∀i,i<n->∀o,l[i]?=some o->∀a w,eh (gj l n a0 a)->eh (gt l i hb hs a w)->∀hg:Nat->Bool,eh (hg i=false)->Ze J g W0 N0 kk c cs hg w->W0.grownBy w (some g)->
  ∀x1:Act->Ω->Prop,eh (gU hb hs J g W0 N0 kk c cs hg i o a w x1)->eh (∀v w',RV hb hs i v w'->Γ w w w'->x1 (a.put o.dst v) w')->AZ P l o a w x1 Q)
 (jq:∀(vs:Nat->Φ) w,(∀i,i<n->RV hb hs i (vs i) w)->Dr J g (N0+kk*c) w->W0.grownBy w (some g)->wpList P l.toArray Q (l.drop n) {a0 with tmps:=Ai l (yL n) vs a0.tmps} w)
 (hst:∀i,i<n->∀v w w',w.grownBy w' (some g)->hs i v w->hs i v w':=by exact λ_ _ _ _ _ _ h=>h)(ob:cs.length=c:=by rfl)
 (hm:P.follows .mixedOrders=true:=by kernel_rfl)(hB:Iu l n=true:=by kernel_rfl)(hN:a0.tmps.size=N:=by rfl)(hD:Wg l n N=true:=by kernel_rfl):(Code.region id l.toArray true).wp P Q a0 W0:=by
 subst ob;refine Fj n hm hB N hN hD (RV hb hs) (λhg w=>Ze J g W0 N0 kk cs.length cs hg w) ?_ ?_ ?_
 .refine⟨N0,?_,ov.below (Ap (yN _ _) 1),AW (Ap (yN _ _) 1) _⟩
  have:=xv (λj=>!(λ_:Nat=>false) j) cs;exact sA (wv kk this) _
 .intro i hi o D a w E A hg Y Z x1 X
  have hq:gU hb hs J g W0 N0 kk cs.length cs hg i o a w x1:=λv w' O z h3=>X v w' O z λj u _ hj _ h=>RV.mono (hst j hj u w w' h3) h
  have hW:W0.grownBy w (some g):=by obtain⟨_,_,_,h⟩:=Z;exact h
  refine ly i hi o D a w E A hg (AA Y.1) Z hW x1 (AA hq) (AA λv w' O V=>hq v w' O ?_ (AW V _));obtain⟨M,z,h3,h4⟩:=Z;have:=wv kk (yY cs hg i);exact⟨M,ω,h3.below V,AO h4 (AW V _)⟩
 intro vs w hR hg hL Z
 obtain⟨M,z,h3,h4⟩:=Z;exact jq vs w hR (h3.mono ω) h4
def TG(l:List Oper):Nat->Nat->Nat->Bool
 |0,_,_=>false
 |f+1,k,i=>yk .any l.toArray k i||(yL l.length).any λj=>yk .any l.toArray k j&&TG l f j i
theorem XT{f k:Nat}(hc:∀j j',hg j=true->yk .any l.toArray j j'=true->hg j'=true)(hk:hg k=true)(h:TG l f k i=true):hg i=true:=by
 induction f generalizing k with
 |zero=>cases h
 |succ f ih=>
  unfold TG at h
  rcases Bool.or_eq_true_iff.1 h with h|h
  .exact hc k i hk h
  obtain⟨j,_,hj⟩:=List.any_eq_true.1 h
  obtain⟨O,z⟩:=wu.1 hj;exact ih (hc k j hk O) z
def fH(s:Nat)(U:Nat->Φ->Prop)(hs:Nat->Φ->Ω->Prop)(hg:Nat->Bool)(i:Nat)(v:Φ)(w:Ω):Prop:=U i v/\(hg s=false->hs i v w)
def iH(J:Ω)(g:Nat)(W0:Ω)(N0 kk c:Nat)(cs:List Nat)(s:Nat)(Af:Ω->Prop)(hg:Nat->Bool)(w:Ω):Prop:=(hg s=true->Af w)/\(hg s=false->Ze J g W0 N0 kk c cs hg w)
theorem KB{id s:Nat}{U:Nat->Φ->Prop}(n N kk c:Nat)(cs:List Nat)(hb:List Vx)(hs:Nat->Φ->Ω->Prop)(Af:Ω->Prop)(ov:Dr J g N0 W0)
 (kq:∀i,i<n->(i==s||cs.contains i)=false->∀o,l[i]?=some o->∀a w,eh (bd l n a0 a)->∀hg:Nat->Bool,eh (Zg l n hb (fH s U hs) hg a w)->eh (ZG l i hg)->(TG l n s i=true->W0.grownBy w (some g))->
  ∀x1:Act->Ω->Prop,eh (fT hb (fH s U hs) hg i o a w x1)->AZ P l o a w x1 Q)
 (g7:∀i,i<n->cs.contains i=true->∀o,l[i]?=some o->∀a w,eh (bd l n a0 a)->∀hg:Nat->Bool,eh (Zg l n hb (fH s U hs) hg a w)->eh (ZG l i hg)->Ze J g W0 N0 kk c cs hg w->
  ∀x1:Act->Ω->Prop,eh (∀v w',U i v->hs i v w'->Ej hb i=none->Ze J g W0 N0 kk c cs (Hz hg i) w'->w.grownBy w' (some g)->x1 (a.put o.dst v) w')->AZ P l o a w x1 Q)
 (km:∀o,l[s]?=some o->∀a w,eh (bd l n a0 a)->∀hg:Nat->Bool,eh (Zg l n hb (fH s U hs) hg a w)->eh (ZG l s hg)->Dr J g (N0+kk*c) w->W0.grownBy w (some g)->
  ∀x1:Act->Ω->Prop,eh (∀v w',Af w'->x1 (a.put o.dst v) w')->AZ P l o a w x1 Q)
 (wf:∀w w',Γ w.heap.size w w'->Af w->Af w')
 (jq:∀(vs:Nat->Φ) w,∀hg:Nat->Bool,(∀i,i<n->RF hb (fH s U hs) hg i (vs i) w)->Af w->wpList P l.toArray Q [] {a0 with tmps:=DV l (yL n) vs a0.tmps} w)
 (hst:∀i,i<n->∀v w w',w.grownBy w' (some g)->hs i v w->hs i v w':=by exact λ_ _ _ _ _ _ h=>h)(ob:cs.length=c:=by rfl)(ry:s<n:=by decide)(rA:Ej hb s=some Θ:=by rfl)(pF:(l[s]?).bind (·.dst)=none:=by rfl)
 (EK:cs.contains s=false:=by rfl)(rG:cs.all (λi=>decide (i<n)&&TG l n s i&&((l[i]?).bind (·.dst)).isSome)=true:=by kernel_rfl)
 (hm:P.follows .mixedOrders=true:=by kernel_rfl)(hN:a0.tmps.size=N:=by rfl)(hB:ZI l N=true:=by kernel_rfl)(hn:l.length=n:=by rfl):(Code.region id l.toArray true).wp P Q a0 W0:=by
 subst ob;refine Db n N (λi=>i==s||cs.contains i) hb (fH s U hs) (iH J g W0 N0 kk cs.length cs s Af) ?_ ?_ ?_ ?_ ?_ ?_ hm hN hB hn
 .refine⟨λh=>(by cases h),λ_=>⟨N0,?_,ov.below (Ap (yN _ _) 1),AW (Ap (yN _ _) 1) _⟩⟩
  have:=xv (λj=>!(λ_:Nat=>false) j) cs;exact sA (wv kk this) _
 .intro j hj hg i v w w' _ _ _ _ V h
  exact⟨h.1,λR=>hst j hj v w w' (AW V _) (h.2 (Dm R))⟩
 .intro hg i w w' _ hS _ V h
  have gl:s≠i:=by rintro rfl;simp at hS
  have e:Hz hg i s=hg s:=by simp[Hz,gl]
  refine⟨λR=>wf w w' V (h.1 (e▸R)),λR=>?_⟩;obtain⟨M,z,h3,h4⟩:=h.2 (e▸R);have:=wv kk (yY cs hg i);exact⟨M,ω,h3.below V,AO h4 (AW V _)⟩
 .intro i hi hS o D a w E hg A Y Z x1 X
  refine kq i hi hS o D a w E hg A Y (λhr=>?_) x1 X;have R:hg s=false:=by
   cases hx:hg s with
   |false=>rfl
   |true=>exact absurd (XT Y.2.2 hx hr) (by rw[Y.1];decide)
  obtain⟨_,_,_,h⟩:=Z.2 R;exact h
 .intro i hi hS o D a w E hg A Y Z x1 X
  by_cases nX:i=s
  .subst nX
   obtain⟨M,z,h3,h4⟩:=Z.2 Y.1;refine km o D a w E hg A Y (h3.mono ω) h4 x1 (AA λv w' hA=>X v w' ?_ ⟨λ_=>hA,λh=>by simp[Hz] at h⟩ λj jF hj _ h=>?_)
   .have e:o.dst=none:=by rw[D] at pF;exact pF
    rw[e];exact RF.of rA
   exact RF.mono (λh=>⟨h.1,λz=>by simp[Hz] at z⟩) h
  have hc:cs.contains i=true:=by simpa[nX] using hS
  have h3:=yr.1 rG i (by simpa using hc);simp only[yD,decide_eq_true_eq] at h3;obtain⟨⟨_,hr⟩,hd⟩:=h3;have R:hg s=false:=by
   cases hx:hg s with
   |false=>rfl
   |true=>exact absurd (XT Y.2.2 hx hr) (by rw[Y.1];decide)
  have e:Hz hg i s=hg s:=by simp[Hz,Ne.symm nX]
  refine g7 i hi hc o D a w E hg A Y (Z.2 R) x1 (AA λv w' O z hv hD hW=>X v w' ?_ ⟨λh=>(by rw[e,R] at h;cases h),λ_=>hD⟩ λj jF hj _ h=>?_)
  .obtain⟨d,hd⟩:=Option.isSome_iff_exists.1 hd
   have e2:o.dst=some d:=by rw[D] at hd;exact hd
   rw[e2];unfold RF;rw[hv];exact⟨O,λ_=>z⟩
  exact RF.mono (λh=>⟨h.1,λz=>hst j hj _ _ _ hW (h.2 (Dm z))⟩) h
 intro vs w hg hL hR Z
 exact jq vs w hg hR (Z.1 (hL s ry))
theorem fR{s:Nat}{U:Nat->Φ->Prop}{F:FuncId}{vs:Array Φ}{Pv:Φ->Ω->Prop}{k:Nat}(D:l[i]?=some o)(HQ:eh (∀v w',U i v->hs i v w'->Ej hb i=none->Ze J g W0 N0 kk c cs (Hz hg i) w'->w.grownBy w' (some g)->x1 (a.put o.dst v) w'))(E:eh (bd l n a0 a))(A:eh (Zg l n hb (fH s U hs) hg a w))(Y:eh (ZG l i hg))(Z:Ze J g W0 N0 kk c cs hg w)
 (hc:∀M,M<=N0+kk*c->Dr J g M w->W0.grownBy w (some g)->Ξ P F vs w (Il J g (M+k) w Pv))(hk:k<=kk:=by decide)(hR:∀v w',Pv v w'->U i v/\hs i v w')(hv:Ej hb i=none:=by rfl)(hi:cs.contains i=true:=by rfl)
 (e:l[i]?=some o':=by rfl)(hw:Qp l n i hb o'=some true:=by kernel_rfl)(hr:(execOp (Ys l n i hb a0 a) o').run P w=.ok (.enter F vs) w:=by kernel_rfl):AZ P l o a w x1 Q:=by
 obtain rfl:=yP (D.symm.trans e);refine⟨λ_=>?_,λh=>absurd ((PX A Y hw).symm.trans h) ψ⟩;unfold Oper.wp;rw[<-RD E A Y,hr,Oper.upon_enter];obtain⟨M,hM,hD,hW⟩:=Z;refine(hc M ω hD hW).mono ?_;intro x w' h;obtain⟨v,rfl,O,z,h3⟩:=h;have hl:=X9 cs hg i hi Y.1;obtain⟨r1,r2⟩:=hR v w' O;refine HQ v w' r1 r2 hv ⟨M+kk,?_,z.mono ω,AO hW h3⟩ h3;have:=wv kk hl;rw[Nat.mul_add,wZ] at this;omega
theorem dK{m:Int}(D:l[i]?=some o)(HQ:eh (gU hb hs J g W0 N0 kk c cs hg i o a w x1))(E:eh (gj l n a0 a))(A:eh (gt l i hb hs a w))(Y:eh (hg i=false))(Z:Ze J g W0 N0 kk c cs hg w)(hN:N0+kk*c<=1000000)(hm:0<m/\m<=1000000:=by decide)
 (e:l[i]?=some o':=by rfl)(hr:(execOp (dd l n i hb a0 a) o').run prog w=.ok (.enter 23 #[.pointer g,.int .i64 m]) w:=by kernel_rfl)
 (hw:L0 l i hb o'=some true:=by kernel_rfl)(hk:1<=kk:=by decide)(hR:∀v w',Pk m v->RV hb hs i v w':=by exact λ_ _ h=>h)(hi:cs.contains i=true:=by rfl):AZ prog l o a w x1 Q:=
 iC (Pv:=Pk m) (k:=1) D HQ E A Y Z (λM hM hD hW=>(hD.pick m ω hm.2).mono λ_ _ h=>by obtain⟨x,rfl,h0,O,z,h3⟩:=h;exact⟨_,rfl,⟨x,rfl,h0,O hm.1⟩,z,h3⟩) hk hR hi e hw hr
theorem fK{s:Nat}{U:Nat->Φ->Prop}{m:Int}(D:l[i]?=some o)(HQ:eh (∀v w',U i v->hs i v w'->Ej hb i=none->Ze J g W0 N0 kk c cs (Hz hg i) w'->w.grownBy w' (some g)->x1 (a.put o.dst v) w'))(E:eh (bd l n a0 a))(A:eh (Zg l n hb (fH s U hs) hg a w))(Y:eh (ZG l i hg))(Z:Ze J g W0 N0 kk c cs hg w)(hN:N0+kk*c<=1000000)(hm:0<m/\m<=1000000:=by decide)
 (e:l[i]?=some o':=by rfl)(hr:(execOp (Ys l n i hb a0 a) o').run prog w=.ok (.enter 23 #[.pointer g,.int .i64 m]) w:=by kernel_rfl)
 (hw:Qp l n i hb o'=some true:=by kernel_rfl)(hk:1<=kk:=by decide)(hR:∀v w',Pk m v->U i v/\hs i v w':=by exact λ_ _ h=>⟨h,trivial⟩)(hv:Ej hb i=none:=by rfl)(hi:cs.contains i=true:=by rfl):AZ prog l o a w x1 Q:=
 fR (Pv:=λv _=>Pk m v) (k:=1) D HQ E A Y Z (λM hM hD hW=>(hD.pick m ω hm.2).mono λ_ _ h=>by obtain⟨x,rfl,h0,O,z,h3⟩:=h;exact⟨_,rfl,⟨x,rfl,h0,O hm.1⟩,z,h3⟩) hk hR hv hi e hw hr
end
structure WQ(w0:Ω)(g N:Nat)(w:Ω)(T n b:Nat)(cs:Array Φ)(wr:Ω):Prop where
 dr:Dr w0 g N wr
 gr:w.grownBy wr (some g)
 lt:w.heap.size<b
 glt:g<w.heap.size
 lo:w0.heap.size<=w.heap.size
 yU:wr.heap[b]?=some (.cells cs T (0,0))
 res:∃rs:Array Φ,rs.size=n/\wr.heap[w.heap.size]?=some (.cells rs T (0,0))
section
variable {J w wr w':Ω} {g N M T n b:Nat} {cs:Array Φ}
theorem WQ.draw(h:WQ J g N w T n b cs wr)(hd:Dr J g M w')(L:wr.grownBy w' (some g)):WQ J g M w T n b cs w':=by
 have yV:∀{q:Nat} {o:Obj},w.heap.size<=q->wr.heap[q]?=some o->w'.heap[q]?=some o:=λ{q o} hq V=>(L.block q (AU V) (by have:=h.glt;simp;omega)).trans V
 obtain⟨rs,O,z⟩:=h.res;exact⟨hd,AO h.gr L,h.lt,h.glt,h.lo,yV (Nat.le_of_lt h.lt) h.yU,rs,O,yV (yF _) z⟩
theorem WQ.pk(h:WQ J g N w T n b cs wr)(m:Int)(hN:N<=900000:=by omega)(h0:0<m:=by decide)(hm:m<=1000000:=by decide):Ξ prog 23 #[.pointer g,.int .i64 m] wr λe' w'=>∃x:Int,e'=.returned (.int .i64 x)/\0<=x/\x<m/\WQ J g (N+1) w T n b cs w':=
 (h.dr.pick m ω hm).mono λ_ _ hp=>by obtain⟨x,rfl,O,z,h3,h4⟩:=hp;exact⟨x,rfl,O,z h0,h.draw h3 h4⟩
theorem WQ.set(h:WQ J g N w T n b cs wr)(j:Nat)(u:Φ){cs':Array Φ}(e:cs.setIfInBounds j u=cs'):WQ J g N w T n b cs' (wr.setCell (b,j) u):=by
 have V:=yE wr b j _ _ u h.yU;obtain⟨rs,O,z⟩:=h.res;have:=h.lt;have:=h.lo;have:=h.glt;exact⟨h.dr.set ω ω,Cp h.gr ω _,h.lt,h.glt,h.lo,by rw[V,e],rs,O,(tT wr ⟨b,j,none⟩ _ _ (λe=>by simp at e;omega)).trans z⟩
theorem WQ.start{T n:Nat}{cs h2:Array Φ}{w1:Ω}(O:Dr J g N w1)(g1:(w.alloc (.cells h2 T)).grownBy w1 (some g))(hz:h2.size=n)(ee:g<w.heap.size)(ay:J.heap.size<=w.heap.size):WQ J g N w T n w1 cs (w1.alloc (.cells cs T)):=by have R:=g1.size;simp at R;have B0:=yx w (.cells h2 T);have B1:=(g1.block w.heap.size χ η).trans B0;exact⟨O.alloc _,Ib (AO (AW (AJ _ _) _) g1) _,ω,ee,ay,yx _ _,h2,hz,AB B1 (AJ _ _)⟩
end
theorem WQ.mono{cs:Array Φ}(h:WQ J g N w T n b cs wr)(hm:N<=M):WQ J g M w T n b cs wr:=⟨h.dr.mono hm,h.gr,h.lt,h.glt,h.lo,h.yU,h.res⟩
theorem MM{a b:Φ}(h:w.heap[g]?=some (.cells #[a,b,c] T (0,0))):w.cell? g=some a/\w.cell? (g,1)=some b/\w.cell? (g,2)=some c:=⟨yy w g 0 _ _ _ h,yy w g 1 _ _ _ h,yy w g 2 _ _ _ h⟩
theorem Oq (xs:List Int)(t:Nat)(ac:(w.alloc (.cells (xs.map (yl .i64)).toArray t)).grownBy w1 (some g))(ad:g<w.heap.size){y:Nat}(hy:y<xs.length):∃q:Int,w1.cell? (w,y)=some (.int .i64 q):=
 ⟨xs[y],Dg ac ad (by simp[hy])⟩
theorem gX{v3:Φ}(hd:Dr J g N wr)(L:w.grownBy wr (some g))(ee:g<w.heap.size)(ay:J.heap.size<=w.heap.size)(R:rs.size=4)(hB:wr.heap[w.heap.size]?=some (.cells rs T (0,0)))(hM:N<=M){P:Φ->Prop}(hP:P (.agg #[v0,v1,v2,v3])):
 ((((wr.setCell w v0).setCell (w,1) v1).setCell (w,2) v2).setCell (w,3) v3).heap[w.heap.size]?=some (.cells #[v0,v1,v2,v3] T (0,0))/\
 Gu J g M w P (.returned (.agg #[v0,v1,v2,v3])) ((((wr.setCell w v0).setCell (w,1) v1).setCell (w,2) v2).setCell (w,3) v3):=by
 obtain⟨a0,a1,a2,a3,rfl⟩:∃a0 a1 a2 a3,rs= #[a0,a1,a2,a3]:=by
  match rs,R with
  |⟨[a0,a1,a2,a3]⟩,_=>exact⟨a0,a1,a2,a3,rfl⟩
 have n1:w.heap.size≠g:=ω;have n3:w.heap.size<=w.heap.size:=yF _;exact⟨DF hB,_,rfl,hP,((((hd.set n1 ay).set n1 ay).set n1 ay).set n1 ay).mono hM,Cp (Cp (Cp (Cp L n3 _) n3 _) n3 _) n3 _⟩
theorem fJ (hd:Dr J g N wr)(L:w.grownBy wr (some g))(ee:g<w.heap.size)(ay:J.heap.size<=w.heap.size)(R:rs.size=3)(hB:wr.heap[w.heap.size]?=some (.cells rs T (0,0)))(hM:N<=M){P:Φ->Prop}(hP:P (.agg #[v0,v1,v2])):
 (((wr.setCell w v0).setCell (w,1) v1).setCell (w,2) v2).heap[w.heap.size]?=some (.cells #[v0,v1,v2] T (0,0))/\
 Gu J g M w P (.returned (.agg #[v0,v1,v2])) (((wr.setCell w v0).setCell (w,1) v1).setCell (w,2) v2):=by
 obtain⟨a0,a1,a2,rfl⟩:∃a0 a1 a2,rs= #[a0,a1,a2]:=by
  match rs,R with
  |⟨[a0,a1,a2]⟩,_=>exact⟨a0,a1,a2,rfl⟩
 have n1:w.heap.size≠g:=ω;have n3:w.heap.size<=w.heap.size:=yF _;have h0:=yE wr w.heap.size 0 _ _ v0 hB;have O:=yE _ w.heap.size 1 _ _ v1 h0;have z:=yE _ w.heap.size 2 _ _ v2 O;exact⟨by simpa using z,_,rfl,hP,(((hd.set n1 ay).set n1 ay).set n1 ay).mono hM,Cp (Cp (Cp L n3 _) n3 _) n3 _⟩
theorem Vo (h:Dr J g N w)(hN:N<=900000):
 Ξ prog 219 #[.pointer g] w (Gu J g (N+2) w λv=>∃x:Int,v=.int .i64 x):=by
 go_in;go_wp2_with fail;refine(h.pick _).mono ?_;rintro e w1 ⟨x,rfl,kR,iK,O,g1⟩
 by_cases hx:x=0
 .subst hx
  go_wp2_with fail;refine((O.alloc _).pick _).mono ?_;rintro e w2 ⟨y,rfl,jd,ed,z,g2⟩;have ed:=ed ψ;have c0:=Dg (j:=0) g2 O.lt rfl;have c1:=Dg (j:=1) g2 O.lt rfl;have c2:=Dg (j:=2) g2 O.lt rfl;have G:=AA (AO g1 (AO (AW (AJ _ _) _) g2));clear g1 g2
  rcases(ω:y=0∨y=1∨y=2) with rfl|rfl|rfl
  all_goals
   go_wp2;go_ret;exact⟨_,rfl,⟨_,rfl⟩,z,G.u⟩
 have t0:(x==0)=false:=by simp[hx]
 clear hx;go_wp2_with (refine(O.pick _).mono ?_;rintro e w2 ⟨y,rfl,jd,ed,z,g2⟩;have G:=AA (AO g1 g2);clear g1 g2);go_ret;exact⟨_,rfl,⟨_,rfl⟩,z,G.u⟩
theorem Nd (h:Dr J g N w)(hN:N<=800000):
 Ξ prog 175 #[.pointer g] w (Gu J g (N+8) w λv=>∃x:Ag,v=.agg #[x.e,x.p,x.f,x.w]):=by
 have ad:=h.lt;have eD:J.heap.size<=w.heap.size:=h.2.1.size;go_in;go_wp2_with fail;refine((h.alloc _).pick _).mono ?_;rintro e w1 ⟨x,rfl,_,_,O,g1⟩;go_wp2_with fail;refine(O.pick _).mono ?_;rintro e w2 ⟨y,rfl,_,_,z,g2⟩;go_wp2_with fail;refine(z.pick _).mono ?_;rintro e w3 ⟨f,rfl,_,_,h3,g3⟩;have H:=WQ.start (T:=125) (n:=4) (cs:= #[.int .i64 x,.int .i64 y,.int .i64 f,.bool false]) h3 (AO (AO g1 g2) g3) rfl ad eD;clear h O z h3 g1 g2 g3;go_wp2_with fail;generalize w3.alloc _=w4 at H ⊢;generalize w3.heap.size=b at H ⊢;refine(H.pk _).mono ?_;rintro e w5 ⟨h2,rfl,_,_,S5⟩;clear H;obtain⟨c0,c1,c2,c3⟩:=AG S5.yU;have fz:=AI S5.yU;go_wp2_with fail;have S6:=S5.set (cs':= #[.int .i64 x,.int .i64 y,.int .i64 f,.bool (h2==0)]) 3 (.bool (h2==0)) χ;refine(S6.pk _).mono ?_;rintro e w7 ⟨u,rfl,_,_,H⟩;clear S5 S6 c0 c1 c2 c3 fz;have u4:=H.lt;go_upto_block 0 with fail;go_cut [] (λwx=>∃x:Ag,WQ J g (N+8) w 125 4 b #[.int .i64 x.e,.int .i64 x.p,.int .i64 x.f,.bool x.w] wx)
 case first=>
  by_cases u0:u=0
  .subst u0
   go_wp2_with fail;have fs:=H.dr.lt;have SA:=H.draw (H.dr.alloc (.cells #[.int .i64 (-1),.int .i64 3] 3)) (AW (AJ _ _) _);refine(SA.dr.pick _).mono ?_;rintro e w6 ⟨k9,rfl,k0,k1,h6,g6⟩;replace k1:=k1 ψ;obtain⟨k9,rfl⟩:=yd k0;obtain⟨q,hq⟩:=Oq [-1,3] 3 g6 fs (y:=k9) η;have S6:=SA.draw h6 g6;clear H SA g6 h6 fs;obtain⟨c0,c1,c2,c3⟩:=AG S6.yU;have fz:=AI S6.yU;go_wp2_with fail;go_meet;exact⟨⟨q,y,f,h2==0⟩,(S6.set 0 _ χ).mono ω⟩
  have t0:(u==0)=false:=by simp[u0]
  by_cases u1:u=1
  .subst u1
   clear u0;go_wp2_with fail;have fs:=H.dr.lt;have SA:=H.draw (H.dr.alloc (.cells #[.int .i64 (-1),.int .i64 15,.int .i64 16] 3)) (AW (AJ _ _) _);refine(SA.dr.pick _).mono ?_;rintro e w6 ⟨k9,rfl,k0,k1,h6,g6⟩;replace k1:=k1 ψ;obtain⟨k9,rfl⟩:=yd k0;obtain⟨q,hq⟩:=Oq [-1,15,16] 3 g6 fs (y:=k9) η;have S6:=SA.draw h6 g6;clear H SA g6 h6 fs;obtain⟨c0,c1,c2,c3⟩:=AG S6.yU;have fz:=AI S6.yU;go_wp2_with fail;go_meet;exact⟨⟨x,q,f,h2==0⟩,(S6.set 1 _ χ).mono ω⟩
  have t1:(u==1)=false:=by simp[u1]
  by_cases u2:u=2
  .subst u2
   clear u0 u1;go_wp2_with fail;refine(Vo H.dr ω).mono ?_;rintro e w8 ⟨_,rfl,⟨q,rfl⟩,h8,g8⟩;have S6:=H.draw h8 g8;clear H h8 g8;obtain⟨c0,c1,c2,c3⟩:=AG S6.yU;have fz:=AI S6.yU;go_wp2_with fail;go_meet;exact⟨⟨x,y,q,h2==0⟩,(S6.set 2 _ χ).mono ω⟩
  have t2:(u==2)=false:=by simp[u2]
  clear u0 u1 u2;go_wp2_with fail;go_meet;exact⟨⟨x,y,f,h2==0⟩,H.mono ω⟩
 case rest=>
  clear H;obtain⟨K,S6⟩:=hcut;obtain⟨c0,c1,c2,c3⟩:=AG S6.yU;have fz:=AI S6.yU;obtain⟨rs,lz,iQ⟩:=S6.res;have mG:=AI iQ;obtain⟨BX,FX⟩:=gX (v0:=.int .i64 K.e) (v1:=.int .i64 K.p) (v2:=.int .i64 K.f) (v3:=.bool K.w) S6.dr S6.gr S6.glt S6.lo lz iQ (yF _) (P:=λv=>∃x:Ag,v=.agg #[x.e,x.p,x.f,x.w]) ⟨K,rfl⟩;obtain⟨r0,r1,r2,r3,rfl⟩:∃r0 r1 r2 r3,rs= #[r0,r1,r2,r3]:=by
   match rs,lz with
   |⟨[a0,a1,a2,a3]⟩,_=>exact⟨a0,a1,a2,a3,rfl⟩
  obtain⟨d0,d1,d2,d3⟩:=AG iQ;have BH:=AA BX;have FH:=AA FX;clear BX FX iQ S6;go_wp2_with fail;exact yB (v:=.agg #[_,_,_,_]) (by simp[results,Tryz.results175,go_sem,AG BH.u]) rfl FH.u
def OR(v:Φ):Prop:=∃x:AX,x.g.size<=8/\v=.agg #[x.k,x.g,x.r]
theorem XF (h:Dr J g N w)(hN:N<=800000):
 Ξ prog 116 #[.pointer g] w (Gu J g (N+10) w OR):=by
 have ad:=h.lt;have eD:J.heap.size<=w.heap.size:=h.2.1.size;go_in;go_wp2_with fail;refine((h.alloc _).pick _).mono ?_;rintro e w1 ⟨x,rfl,_,_,O,g1⟩
 by_cases x0:x=0
 .subst x0
  have B0:=yx w (.cells #[θ,ϑ,θ] 115);have B1:=(g1.block w.heap.size χ η).trans B0;have mG:=AI B1;obtain⟨d0,d1,d2⟩:=MM B1;obtain⟨BX,FX⟩:=fJ (v0:=.int .i64 0) (v1:=.string ⟨#[]⟩) (v2:=.int .i64 0) O (AO (AW (AJ _ _) _) g1) ad eD rfl B1 (M:=N+10) ω (P:=OR) ⟨⟨0,⟨#[]⟩,0⟩,ψ,rfl⟩;have BH:=AA BX;have FH:=AA FX;clear BX FX B0 B1 O g1 h;go_wp2_with fail;exact yB (v:=.agg #[_,_,_]) (by simp[results,rR,go_sem,MM BH.u]) rfl FH.u
 have t9:(x==0)=false:=by simp[x0]
 clear x0;go_wp2_with fail;refine(O.pick _).mono ?_;rintro e w2 ⟨x,rfl,_,_,z,g2⟩;go_wp2_with fail;refine(QA w2.heap.size 5 [⟨#[97]⟩,⟨#[97]⟩,⟨#[98]⟩,⟨#[97,98]⟩,⟨#[]⟩] (z.alloc _) ω rfl ψ ψ (by have:=z.lt;omega) χ (λk hk=>K9 w2 [⟨#[97]⟩,⟨#[97]⟩,⟨#[98]⟩,⟨#[97,98]⟩,⟨#[]⟩] _ hk)).mono ?_;rintro e w3 ⟨v,rfl,⟨s,R,rfl⟩,h3,g3⟩;have lI:s.size<=8:=by
  simp only[xF,wU,or_false] at R
  rcases R with rfl|rfl|rfl|rfl|rfl<;>decide
 clear R;go_wp2_with fail;refine(h3.pick _).mono ?_;rintro e w4 ⟨y,rfl,y0,y1,h4,g4⟩;replace y1:=y1 ψ;go_wp2_with fail;refine(h4.pick _).mono ?_;rintro e w5 ⟨f,rfl,f0,f1,h5,g5⟩;replace f1:=f1 ψ;have H:=WQ.start (T:=115) (n:=3) (cs:= #[.int .i64 (1+x),.string s,.int .i64 (wrap64 (y*f))]) h5 (AO (AO (AO g1 g2) (AO (AW (AJ _ _) _) g3)) (AO g4 g5)) rfl ad eD;clear h O z h3 h4 h5 g1 g2 g3 g4 g5;go_wp2_with fail;generalize w5.alloc _=w7 at H ⊢;generalize w5.heap.size=b at H ⊢;generalize wrap64 (y*f)=r at H ⊢;generalize 1+x=k at H ⊢;refine(H.pk _).mono ?_;rintro e w8 ⟨u,rfl,_,_,S8⟩;clear H;have H:=S8;clear S8;have u4:=H.lt;go_upto_block 0 with fail;go_cut [] (λwx=>∃x:AX,x.g.size<=8/\WQ J g (N+10) w 115 3 b #[.int .i64 x.k,.string x.g,.int .i64 x.r] wx)
 case first=>
  by_cases u0:u=0
  .subst u0
   go_wp2_with fail;have fs:=H.dr.lt;have SA:=H.draw (H.dr.alloc (.cells #[.int .i64 (-1),θ,.int .i64 4] 3)) (AW (AJ _ _) _);refine(SA.dr.pick _).mono ?_;rintro e w6 ⟨k9,rfl,k0,k1,h6,g6⟩;replace k1:=k1 ψ;obtain⟨k9,rfl⟩:=yd k0;obtain⟨q,hq⟩:=Oq [-1,0,4] 3 g6 fs (y:=k9) η;have S6:=SA.draw h6 g6;clear H SA g6 h6 fs;obtain⟨c0,c1,c2⟩:=MM S6.yU;have fz:=AI S6.yU;go_wp2_with fail;go_meet;exact⟨⟨q,s,r⟩,lI,(S6.set 0 _ χ).mono ω⟩
  have t0:(u==0)=false:=by simp[u0]
  by_cases u1:u=1
  .subst u1
   clear u0;go_wp2_with fail;refine(J7 H.dr ω).mono ?_;rintro e w9 ⟨_,rfl,⟨q,nN,rfl⟩,h8,g8⟩;have S6:=H.draw h8 g8;clear H h8 g8;obtain⟨c0,c1,c2⟩:=MM S6.yU;have fz:=AI S6.yU;go_wp2_with fail;go_meet;exact⟨⟨k,q,r⟩,nN,(S6.set 1 _ χ).mono ω⟩
  have t1:(u==1)=false:=by simp[u1]
  by_cases u2:u=2
  .subst u2
   clear u0 u1;go_wp2_with fail;have fs:=H.dr.lt;have SA:=H.draw (H.dr.alloc (.cells #[.int .i64 (-1),.int .i64 50,.int .i64 51] 3)) (AW (AJ _ _) _);refine(SA.dr.pick _).mono ?_;rintro e w6 ⟨k9,rfl,k0,k1,h6,g6⟩;replace k1:=k1 ψ;obtain⟨k9,rfl⟩:=yd k0;obtain⟨q,hq⟩:=Oq [-1,50,51] 3 g6 fs (y:=k9) η;have S6:=SA.draw h6 g6;clear H SA g6 h6 fs;obtain⟨c0,c1,c2⟩:=MM S6.yU;have fz:=AI S6.yU;go_wp2_with fail;go_meet;exact⟨⟨k,s,q⟩,lI,(S6.set 2 _ χ).mono ω⟩
  have t2:(u==2)=false:=by simp[u2]
  clear u0 u1 u2;go_wp2_with fail;go_meet;exact⟨⟨k,s,r⟩,lI,H.mono ω⟩
 case rest=>
  clear H;obtain⟨K,rt,S6⟩:=hcut;obtain⟨c0,c1,c2⟩:=MM S6.yU;have fz:=AI S6.yU;obtain⟨rs,lz,iQ⟩:=S6.res;have mG:=AI iQ;obtain⟨BX,FX⟩:=fJ (v0:=.int .i64 K.k) (v1:=.string K.g) (v2:=.int .i64 K.r) S6.dr S6.gr S6.glt S6.lo lz iQ (yF _) (P:=OR) ⟨K,rt,rfl⟩;obtain⟨r0,r1,r2,rfl⟩:∃r0 r1 r2,rs= #[r0,r1,r2]:=by
   match rs,lz with
   |⟨[a0,a1,a2]⟩,_=>exact⟨a0,a1,a2,rfl⟩
  obtain⟨d0,d1,d2⟩:=MM iQ;have BH:=AA BX;have FH:=AA FX;clear BX FX iQ S6;go_wp2_with fail;exact yB (v:=.agg #[_,_,_]) (by simp[results,rR,go_sem,MM BH.u]) rfl FH.u
theorem JK (h:w.grownBy w1 (some g))(z:w1.grownBy w2 (some q))(hq:w.heap.size<=q):w.grownBy w2 (some g):=
 ⟨z.os.trans h.os,z.tape.trans h.tape,z.output.trans h.output,yM h.size z.size,λk hk gl=>(z.block k (yu hk h.size) (λe=>by cases e;omega)).trans (h.block k hk gl)⟩
structure Nq(ok:AR->Prop)(w0:Ω)(g N:Nat)(w:Ω)(b:Nat)(m i e c:Φ)(k:AR)(wr:Ω):Prop where
 dr:Dr w0 g N wr
 gr:w.grownBy wr (some g)
 yS:Iz (w.heap.size+1) wr b m i e c k
 good:ok k
 glt:g<w.heap.size
 lo:w0.heap.size<=w.heap.size
 lt:w.heap.size<b
 res:∃a0 a1 a2 a3,wr.heap[w.heap.size]?=some (.cells #[a0,a1,a2,a3] 28 (0,0))
section
variable {ok:AR->Prop} {J w wr w':Ω} {g N M b:Nat} {m i e c m' i' e' c':Φ} {k k':AR}
theorem Nq.draw(h:Nq ok J g N w b m i e c k wr)(hd:Dr J g M w')(L:wr.grownBy w' (some g)):Nq ok J g M w b m i e c k w':=by
 have ee:=h.glt;have hp:∀b',some g=some b'->b'<w.heap.size+1:=λb' e=>by cases e;omega
 have nO:∀b',some g=some b'->b'<w.heap.size:=λb' e=>by cases e;exact ee
 obtain⟨a0,a1,a2,a3,O⟩:=h.res;exact⟨hd,AO h.gr L,⟨FF h.yS.1 h.yS.2.1 L hp,h.yS.2.1,h.yS.2.2.past L hp⟩,h.good,ee,h.lo,h.lt,a0,a1,a2,a3,FF O (yF _) L nO⟩
theorem Nq.below(h:Nq ok J g N w b m i e c k wr)(V:Γ wr wr w'):Nq ok J g N w b m i e c k w':=h.draw (h.dr.below V) (AW V _)
theorem Nq.pk(h:Nq ok J g N w b m i e c k wr)(n:Int)(hN:N<=900000:=by omega)(h0:0<n:=by decide)(hn:n<=1000000:=by decide):Ξ prog 23 #[.pointer g,.int .i64 n] wr λe' w'=>∃x:Int,e'=.returned (.int .i64 x)/\0<=x/\x<n/\Nq ok J g (N+1) w b m i e c k w':=
 (h.dr.pick n ω hn).mono λ_ _ hp=>by obtain⟨x,rfl,O,z,h3,h4⟩:=hp;exact⟨x,rfl,O,z h0,h.draw h3 h4⟩
theorem fu{b0 b1 b2 b3:Φ}(hd:Dr J g N wr)(L:w.grownBy wr (some g))(hB:wr.heap[b]?=some (.cells #[b0,b1,b2,b3] 28 (0,0)))(h1:Du (w.heap.size+1) wr m' i' e' c' k')(hk:ok k')(h3:g<w.heap.size)(z:J.heap.size<=w.heap.size)(O:w.heap.size<b)(eL:∃a0 a1 a2 a3,wr.heap[w.heap.size]?=some (.cells #[a0,a1,a2,a3] 28 (0,0))):Nq ok J g N w b m' i' e' c' k' ((((wr.setCell b m').setCell (b,1) i').setCell (b,2) e').setCell (b,3) c'):=by
 have ac:=Ar wr b m' i' e' c';obtain⟨a0,a1,a2,a3,h4⟩:=eL;have n1:b≠g:=ω;have n2:J.heap.size<=b:=ω;have n3:w.heap.size<=b:=ω;exact⟨(((hd.set n1 n2).set n1 n2).set n1 n2).set n1 n2,Cp (Cp (Cp (Cp L n3 _) n3 _) n3 _) n3 _,⟨DF hB,O,h1.yV ac hB⟩,hk,h3,z,O,a0,a1,a2,a3,(ac.block _ (AU h4) η).trans h4⟩
end
def gz(ok:AR->Prop)(J:Ω)(g N:Nat)(w:Ω):Ending->Ω->Prop:=Il J g N w λv w'=>∃m i e c k,v=.agg #[m,i,e,c]/\Qt w w' m i e c k/\ok k
def J2(ok:AR->Prop)(J:Ω)(g N:Nat)(w:Ω)(b:Nat)(wr:Ω):Prop:=∃m i e c k,Dr J g N wr/\w.grownBy wr (some g)/\wr.heap[b]?=some (.cells #[m,i,e,c] 28 (0,0))/\Qt w wr m i e c k/\ok k/\∃a0 a1 a2 a3,wr.heap[w.heap.size]?=some (.cells #[a0,a1,a2,a3] 28 (0,0))
theorem Nq.ke{ok ok':AR->Prop}(h:Nq ok J g N w b m i e c k wr)(ac:wr.grownBy w1 (some q))(hq:w.heap.size<q)(hB:w1.heap[b]?=some (.cells #[m',i',e',c'] 28 (0,0)))(h1:Qt (w.heap.size+1) w1 m' i' e' c' k')(hk:ok' k')(hM:N<=M):J2 ok' J g M w b w1:=by
 obtain⟨a0,a1,a2,a3,h4⟩:=h.res;have O:=h.glt;have z:=h.lo;exact⟨m',i',e',c',k',(h.dr.keep ac η (λk hk=>by cases hk;omega)).mono hM,JK h.gr ac ω,hB,h1.map (λ_ _ _ _ _ _ _ h=>Bb h (vS _)),hk,a0,a1,a2,a3,(ac.block _ (AU h4) η).trans h4⟩
def hJ(ok:AR->Prop)(J:Ω)(g N:Nat)(w:Ω)(m i e c:Φ)(W:Ω):Prop:=W.heap[w.heap.size]?=some (.cells #[m,i,e,c] 28 (0,0))/\gz ok J g N w (.returned (.agg #[m,i,e,c])) W
theorem fw{ok:AR->Prop}(hd:Dr J g N wr)(L:w.grownBy wr (some g))(S:Qt w wr m i e c k)(hk:ok k)(ee:g<w.heap.size)(ay:J.heap.size<=w.heap.size)(hB:wr.heap[w.heap.size]?=some (.cells #[a0,a1,a2,a3] 28 (0,0)))(hM:N<=M):
 hJ ok J g M w m i e c ((((wr.setCell w m).setCell (w,1) i).setCell (w,2) e).setCell (w,3) c):=by
 have ac:=Ar wr w m i e c;have n1:w.heap.size≠g:=ω;have n3:=yF w.heap.size;exact⟨DF hB,_,rfl,⟨_,_,_,_,k,rfl,S.map (Ls ac hB (.inl rfl) (yF _)),hk⟩,((((hd.set n1 ay).set n1 ay).set n1 ay).set n1 ay).mono hM,Cp (Cp (Cp (Cp L n3 _) n3 _) n3 _) n3 _⟩
structure JF(ok:AP->Prop)(w0:Ω)(g N:Nat)(w:Ω)(b:Nat)(m i e c s l q:Φ)(P:AP)(wr:Ω):Prop where
 dr:Dr w0 g N wr
 gr:w.grownBy wr (some g)
 yQ:ID (w.heap.size+1) b wr m i e c s l q P
 good:ok P
 glt:g<w.heap.size
 lo:w0.heap.size<=w.heap.size
 lt:w.heap.size<b
 res:∃a0 a1 a2 a3 a4 a5 a6 a7 a8,wr.heap[w.heap.size]?=some (.cells #[a0,a1,a2,a3,a4,a5,a6,a7,a8] 32 (0,0))
section
variable {ok:AP->Prop} {J w wr w':Ω} {g N M b:Nat} {m i e c s l q m' i' e' c' s' l' q':Φ} {P P':AP}
theorem Es.past'{lo:Nat}{row:Option Nat}(h:Es lo w m i e c s l q P)(L:w.grownBy w' row)(hr:∀b,row=some b->b<lo):Es lo w' m i e c s l q P:=by
 obtain⟨O,⟨vs,z,h3,h4⟩,h5,h6,h7⟩:=h;exact⟨O.past L hr,⟨vs,BU z L hr,h3.mono λ_ _ x=>BU x L hr,h4⟩,BU h5 L hr,BU h6 L hr,h7⟩
theorem JF.draw(h:JF ok J g N w b m i e c s l q P wr)(hd:Dr J g M w')(L:wr.grownBy w' (some g)):JF ok J g M w b m i e c s l q P w':=by
 have ee:=h.glt;have hp:∀b',some g=some b'->b'<w.heap.size+1:=λb' e=>by cases e;omega
 have nO:∀b',some g=some b'->b'<w.heap.size:=λb' e=>by cases e;exact ee
 obtain⟨a0,a1,a2,a3,a4,a5,a6,a7,a8,O⟩:=h.res;exact⟨hd,AO h.gr L,⟨FF h.yQ.yU h.yQ.yT L hp,h.yQ.yT,h.yQ.own.past' L hp⟩,h.good,ee,h.lo,h.lt,a0,a1,a2,a3,a4,a5,a6,a7,a8,FF O (yF _) L nO⟩
theorem JF.below(h:JF ok J g N w b m i e c s l q P wr)(V:Γ wr wr w'):JF ok J g N w b m i e c s l q P w':=h.draw (h.dr.below V) (AW V _)
theorem JF.pk(h:JF ok J g N w b m i e c s l q P wr)(n:Int)(hN:N<=900000:=by omega)(h0:0<n:=by decide)(hn:n<=1000000:=by decide):Ξ prog 23 #[.pointer g,.int .i64 n] wr λe' w'=>∃x:Int,e'=.returned (.int .i64 x)/\0<=x/\x<n/\JF ok J g (N+1) w b m i e c s l q P w':=
 (h.dr.pick n ω hn).mono λ_ _ hp=>by obtain⟨x,rfl,O,z,h3,h4⟩:=hp;exact⟨x,rfl,O,z h0,h.draw h3 h4⟩
theorem gI{b0 b1 b2 b3 b4 b5 b6 b7 b8:Φ}(hd:Dr J g N wr)(L:w.grownBy wr (some g))(hB:wr.heap[b]?=some (.cells #[b0,b1,b2,b3,b4,b5,b6,b7,b8] 32 (0,0)))(h1:Es (w.heap.size+1) wr m' i' e' c' s' l' q' P')(hk:ok P')(h3:g<w.heap.size)(z:J.heap.size<=w.heap.size)(O:w.heap.size<b)(eL:∃a0 a1 a2 a3 a4 a5 a6 a7 a8,wr.heap[w.heap.size]?=some (.cells #[a0,a1,a2,a3,a4,a5,a6,a7,a8] 32 (0,0))):JF ok J g N w b m' i' e' c' s' l' q' P' (((DO wr b m' i' e' c' s' l' q').setCell (b,7) (.int .i64 P'.FU)).setCell (b,8) (.int .i64 P'.VO)):=by
 obtain⟨n6,o6,el⟩:=Bu hB h1;obtain⟨a0,a1,a2,a3,a4,a5,a6,a7,a8,h4⟩:=eL;exact⟨hd.keep el η (λk hk=>by cases hk;omega),JK L el ω,⟨n6,O,o6⟩,hk,h3,z,O,a0,a1,a2,a3,a4,a5,a6,a7,a8,(el.block _ (AU h4) η).trans h4⟩
end
def g0(ok:AP->Prop)(J:Ω)(g N:Nat)(w:Ω):Ending->Ω->Prop:=Il J g N w λv w'=>∃m i e c s l q P,v=AN m i e c s l q P.FU P.VO/\Pc w w' m i e c s l q P/\ok P
def WS(ok:AP->Prop)(J:Ω)(g N:Nat)(w:Ω)(b:Nat)(wr:Ω):Prop:=∃m i e c s l q P,Dr J g N wr/\w.grownBy wr (some g)/\wr.heap[b]?=some (.cells #[m,i,e,c,s,l,q,.int .i64 P.FU,.int .i64 P.VO] 32 (0,0))/\Pc w wr m i e c s l q P/\ok P/\∃a0 a1 a2 a3 a4 a5 a6 a7 a8,wr.heap[w.heap.size]?=some (.cells #[a0,a1,a2,a3,a4,a5,a6,a7,a8] 32 (0,0))
theorem JF.pe{ok ok':AP->Prop}{p p':Φ}{P':AP}(h:JF ok J g N w b m i e c s l p P wr)(ac:wr.grownBy w1 (some q))(hq:w.heap.size<q)(hB:w1.heap[b]?=some (.cells #[m',i',e',c',s',l',p',P'.FU,P'.VO] 32 (0,0)))(h1:Pc (w.heap.size+1) w1 m' i' e' c' s' l' p' P')(hk:ok' P')(hM:N<=M):WS ok' J g M w b w1:=by
 obtain⟨a0,a1,a2,a3,a4,a5,a6,a7,a8,h4⟩:=h.res;have O:=h.glt;have z:=h.lo;exact⟨m',i',e',c',s',l',p',P',(h.dr.keep ac η (λk hk=>by cases hk;omega)).mono hM,JK h.gr ac ω,hB,h1.map (λ_ _ _ _ _ _ _ h=>Bb h (vS _)),hk,a0,a1,a2,a3,a4,a5,a6,a7,a8,(ac.block _ (AU h4) η).trans h4⟩
def hZ(ok:AP->Prop)(J:Ω)(g N:Nat)(w:Ω)(m i e c s l q:Φ)(P:AP)(W:Ω):Prop:=W.heap[w.heap.size]?=some (.cells #[m,i,e,c,s,l,q,P.FU,P.VO] 32 (0,0))/\g0 ok J g N w (.returned (AN m i e c s l q P.FU P.VO)) W
theorem gJ{ok:AP->Prop}{q a4 a5 a6 a7 a8:Φ}(hd:Dr J g N wr)(L:w.grownBy wr (some g))(S:Pc w wr m i e c s l q P)(hk:ok P)(ee:g<w.heap.size)(ay:J.heap.size<=w.heap.size)(hB:wr.heap[w.heap.size]?=some (.cells #[a0,a1,a2,a3,a4,a5,a6,a7,a8] 32 (0,0)))(hM:N<=M):
 hZ ok J g M w m i e c s l q P (((DO wr w m i e c s l q).setCell (w,7) (.int .i64 P.FU)).setCell (w,8) (.int .i64 P.VO)):=by
 have ac:=FQ (w:=wr) (g:=w.heap.size) (b0:=m) (b1:=i) (b2:=e) (b3:=c) (b4:=s) (b5:=l) (b6:=q) (b7:=.int .i64 P.FU) (b8:=.int .i64 P.VO);exact⟨Hj hB,_,rfl,⟨_,_,_,_,_,_,_,P,rfl,S.map (Ls ac hB (.inr rfl) (yF _)),hk⟩,(hd.keep ac η (λk hk=>by cases hk;exact ay)).mono hM,JK L ac (yF _)⟩
structure L6(w0:Ω)(g N:Nat)(w W1:Ω)(b:Nat)(m i e c s l q:Φ)(P:AP)(wr:Ω):Prop where
 dr:Dr w0 g N wr
 gr:w.grownBy wr (some g)
 yU:wr.heap[b]?=some (.cells #[m,i,e,c,s,l,q,P.FU,P.VO] 32 (0,0))
 sf:Pc (w.heap.size+1) wr m i e c s l q P
 good:Dd P
 glt:g<w.heap.size
 lo:w0.heap.size<=w.heap.size
 lt:w.heap.size<b
 sz:W1.heap.size<=wr.heap.size
 kp:∀k,k<W1.heap.size->k≠g->k≠b->wr.heap[k]?=W1.heap[k]?
section
variable {J w W1 wr w':Ω} {g N M b:Nat} {m i e c s l q m' i' e' c' s' l' q':Φ} {P P':AP}
theorem L6.draw(h:L6 J g N w W1 b m i e c s l q P wr)(hd:Dr J g M w')(L:wr.grownBy w' (some g)):L6 J g M w W1 b m i e c s l q P w':=by
 have O:=h.glt;have z:=h.lt;have h3:=h.sz;exact⟨hd,AO h.gr L,(L.block b (AU h.yU) η).trans h.yU,h.sf.map (Ge L ω (yF _)),h.good,O,h.lo,z,yM h3 L.size,λk hk nV nW=>(L.block k ω η).trans (h.kp k hk nV nW)⟩
theorem L6.below(h:L6 J g N w W1 b m i e c s l q P wr)(V:Γ wr wr w'):L6 J g N w W1 b m i e c s l q P w':=h.draw (h.dr.below V) (AW V _)
theorem L6.mono(h:L6 J g N w W1 b m i e c s l q P wr)(hm:N<=M):L6 J g M w W1 b m i e c s l q P wr:=⟨h.dr.mono hm,h.gr,h.yU,h.sf,h.good,h.glt,h.lo,h.lt,h.sz,h.kp⟩
theorem L6.pk(h:L6 J g N w W1 b m i e c s l q P wr)(n:Int)(hN:N<=900000:=by omega)(h0:0<n:=by decide)(hn:n<=1000000:=by decide):Ξ prog 23 #[.pointer g,.int .i64 n] wr λe' w'=>∃x:Int,e'=.returned (.int .i64 x)/\0<=x/\x<n/\L6 J g (N+1) w W1 b m i e c s l q P w':=
 (h.dr.pick n ω hn).mono λ_ _ hp=>by obtain⟨x,rfl,O,z,h3,h4⟩:=hp;exact⟨x,rfl,O,z h0,h.draw h3 h4⟩
theorem L6.put(h:L6 J g N w W1 b m i e c s l q P wr)(h1:Pc (w.heap.size+1) wr m' i' e' c' s' l' q' P')(hk:Dd P'):
 L6 J g N w W1 b m' i' e' c' s' l' q' P' (((DO wr b m' i' e' c' s' l' q').setCell (b,7) (.int .i64 P'.FU)).setCell (b,8) (.int .i64 P'.VO)):=by
 have O:=h.glt;have z:=h.lt;have h3:=h.sz;have h4:=h.lo;have el:=FQ (w:=wr) (g:=b) (b0:=m') (b1:=i') (b2:=e') (b3:=c') (b4:=s') (b5:=l') (b6:=q') (b7:=.int .i64 P'.FU) (b8:=.int .i64 P'.VO);exact⟨h.dr.keep el η (λk hk=>by cases hk;omega),JK h.gr el ω,Hj h.yU,h1.map (Ls el h.yU (.inr rfl) (yF _)),hk,O,h4,z,yM h3 el.size,λk hk nV nW=>(el.block k ω η).trans (h.kp k hk nV nW)⟩
end
def Pf(J:Ω)(g N:Nat)(w W1:Ω)(b:Nat)(wr:Ω):Prop:=∃m i e c s l q P,L6 J g N w W1 b m i e c s l q P wr
theorem Pf.below (h:Pf J g N w W1 b wr)(V:Γ wr wr w'):Pf J g N w W1 b w':=by obtain⟨m,i,e,c,s,l,q,P,h⟩:=h;exact⟨m,i,e,c,s,l,q,P,h.below V⟩
def QL(lo:Nat)(w:Ω)(v:Φ):Prop:=∃m i e c s l q P,v=AN m i e c s l q P.FU P.VO/\Pc lo w m i e c s l q P/\Dd P
theorem QL.past (h:QL lo w v)(L:g<lo)(V:w.grownBy w' (some g)):QL lo w' v:=by obtain⟨m,i,e,c,s,l,q,P,O,z,h3⟩:=h;exact⟨m,i,e,c,s,l,q,P,O,z.map (Ge V L (yF _)),h3⟩
theorem Pc.pgR{q:Φ}(h:Pc lo w m i e c s l q P)(hk:Dd P)(hl:lo'<=lo):QL lo' w (AN m i e c s l q P.FU P.VO):=⟨m,i,e,c,s,l,q,P,rfl,h.map (λ_ _ _ _ _ _ _ x=>Bb x hl),hk⟩
theorem J2.put{ok:AR->Prop}{b0 b1 b2 b3:Φ}(hd:Dr J g N wr)(L:w.grownBy wr (some g))(hB:wr.heap[b]?=some (.cells #[b0,b1,b2,b3] 28 (0,0)))(h1:Qt w wr m' i' e' c' k')(hk:ok k')(ad:g<w.heap.size)(ay:J.heap.size<=w.heap.size)(V:w.heap.size<b)(eL:wr.heap[w.heap.size]?=some (.cells #[a0,a1,a2,a3] 28 (0,0))):
 J2 ok J g N w b ((((wr.setCell b m').setCell (b,1) i').setCell (b,2) e').setCell (b,3) c'):=by
 have ac:=Ar wr b m' i' e' c';exact⟨m',i',e',c',k',hd.keep ac η (λk hk=>by cases hk;omega),JK L ac ω,DF hB,h1.map (Ls ac hB (.inl rfl) (yF _)),hk,a0,a1,a2,a3,(ac.block _ (AU eL) η).trans eL⟩
theorem J2.draw{ok:AR->Prop}(h:J2 ok J g N w b wr)(ad:g<w.heap.size)(V:w.heap.size<b)(hd:Dr J g M w')(L:wr.grownBy w' (some g)):J2 ok J g M w b w':=by
 obtain⟨m,i,e,c,k,O,z,h3,h4,h5,a0,a1,a2,a3,h6⟩:=h;exact⟨m,i,e,c,k,hd,AO z L,(L.block _ (AU h3) η).trans h3,h4.map (λ_ _ _ _ _ _ _ x=>BU x L (λb' e=>by cases e;exact ad)),h5,a0,a1,a2,a3,(L.block _ (AU h6) η).trans h6⟩
theorem J2.below{ok:AR->Prop}(h:J2 ok J g N w b wr)(ad:g<w.heap.size)(V:w.heap.size<b)(pR:Γ wr wr w'):J2 ok J g N w b w':=by obtain⟨m,i,e,c,k,O,z⟩:=h;exact J2.draw ⟨m,i,e,c,k,O,z⟩ ad V (O.below pR) (AW pR _)
theorem J2.mono{ok:AR->Prop}(h:J2 ok J g N w b wr)(hm:N<=M):J2 ok J g M w b wr:=by obtain⟨m,i,e,c,k,O,z⟩:=h;exact⟨m,i,e,c,k,O.mono hm,z⟩
theorem J2.pk{ok:AR->Prop}(h:J2 ok J g N w b wr)(ad:g<w.heap.size)(V:w.heap.size<b)(n:Int)(hN:N<=900000:=by omega)(h0:0<n:=by decide)(hn:n<=1000000:=by decide):Ξ prog 23 #[.pointer g,.int .i64 n] wr λe' w'=>∃x:Int,e'=.returned (.int .i64 x)/\0<=x/\x<n/\J2 ok J g (N+1) w b w':=by
 obtain⟨m,i,e,c,k,O,z⟩:=h;refine(O.pick n ω hn).mono λ_ _ hp=>?_
 obtain⟨x,rfl,h3,h4,h5,h6⟩:=hp;exact⟨x,rfl,h3,h4 h0,J2.draw ⟨m,i,e,c,k,O,z⟩ ad V h5 h6⟩
def bo(lo:Nat)(w:Ω)(v:Φ):Prop:=∃m i e c k,v=.agg #[m,i,e,c]/\Qt lo w m i e c k/\DZ k
theorem bo.past (h:bo lo w v)(L:g<lo)(V:w.grownBy w' (some g)):bo lo w' v:=by obtain⟨m,i,e,c,k,O,z,h3⟩:=h;exact⟨m,i,e,c,k,O,z.map (Ge V L (yF _)),h3⟩
theorem Pf.mono (h:Pf J g N w W1 b wr)(hm:N<=M):Pf J g M w W1 b wr:=by obtain⟨m,i,e,c,s,l,q,P,h⟩:=h;exact⟨m,i,e,c,s,l,q,P,h.mono hm⟩
theorem Vp (h:Dr J g N w)(hN:N<=100000):
 Ξ prog 56 #[.pointer g] w (g0 Dd J g (N+900) w):=by
 have ad:=h.lt;have eD:J.heap.size<=w.heap.size:=h.2.1.size;obtain⟨B0,bA⟩:=EU w (.cells #[ι,ι,ι,ι,ι,ι,ι,θ,θ] 32);have gA:=AW bA (some g);have hA:=h.below bA;have nJ:=AU B0;go_in;go_wp2_with fail;generalize w.alloc _=wa at*;refine(hA.pick _).mono ?_;rintro e w2 ⟨y,rfl,y0,y1,z,g2⟩;replace y1:=y1 ψ;have R2:=(g2.block w nJ η).trans B0;have G2:=AO gA g2;have ir:w.heap.size+1<=w2.heap.size:=yM nJ g2.size;clear hA gA B0 bA g2 h nJ;go_wp2_with fail;refine(PI (1+y) w2 ω ω).mono ?_;rintro e w6 ⟨m1,i1,e1,c1,s1,l1,q1,rfl,O6,b6⟩;obtain⟨⟨⟨ma,mn,mc,rfl⟩,⟨ia,iN,ic,rfl⟩,⟨ea,en,ec,rfl⟩,⟨ca,cn,cc,rfl⟩⟩,⟨sa,sn,sc,rfl⟩,⟨la,ln,lc,rfl⟩,⟨qa,qn,qc,rfl⟩⟩:=O6.Dq;have jv:Dd (XN (1+y)):=ZM ω ω;clear y0 y1;generalize XN (1+y)=P1 at*;unfold AN;have bB:=AJ w6 (.cells #[.slice ma mn mc,.slice ia iN ic,.slice ea en ec,.slice ca cn cc,.slice sa sn sc,.slice la ln lc,.slice qa qn qc,P1.FU,P1.VO] 32);have jT:=b6.trans (bB.mono b6.size);have H:L6 J g (N+1) w (w6.alloc (.cells #[.slice ma mn mc,.slice ia iN ic,.slice ea en ec,.slice ca cn cc,.slice sa sn sc,.slice la ln lc,.slice qa qn qc,P1.FU,P1.VO] 32)) w6.heap.size _ _ _ _ _ _ _ P1 (w6.alloc (.cells #[.slice ma mn mc,.slice ia iN ic,.slice ea en ec,.slice ca cn cc,.slice sa sn sc,.slice la ln lc,.slice qa qn qc,P1.FU,P1.VO] 32)):=⟨z.below jT,AO G2 (AW jT _),yx _ _,O6.map (Ka bB ir),jv,ad,eD,by have:=b6.size;omega,yF _,λ_ _ _ _=>rfl⟩;have R6:=AB R2 jT;clear O6 b6 bB jT z G2 R2 jv ir;go_wp2_with fail;generalize w6.alloc _=W1 at*;generalize w6.heap.size=b at*;refine(H.pk 24).mono ?_;rintro e w7 ⟨n,rfl,n0,n1,S7⟩;clear H;obtain⟨n,rfl⟩:=yd n0;have nR:n<24:=ω;clear n0 n1;go_wp2_with fail;refine(S7.pk 5).mono ?_;rintro e w8 ⟨h2,rfl,z0,z1,S8⟩;clear S7;go_wp2_with fail;generalize(h2==0)=gr;go_loopw [7] (λi wr=>∃j:Nat,j<=n/\i=.int .i64 j/\Pf J g (N+3+33*j) w W1 b wr) (λi _=>n - (intOf i).toNat)
 exact⟨0,yt _,rfl,_,_,_,_,_,_,_,P1,S8⟩
 clear S8 z0 z1;obtain⟨j,hj,rfl,m1,i1,e1,c1,s1,l1,q1,Q,H⟩:=hrel;obtain⟨⟨⟨ma,mn,mc,rfl⟩,⟨ia,iN,ic,rfl⟩,⟨ea,en,ec,rfl⟩,⟨ca,cn,cc,rfl⟩⟩,⟨sa,sn,sc,rfl⟩,⟨la,ln,lc,rfl⟩,⟨qa,qn,qc,rfl⟩⟩:=H.sf.Dq
 by_cases jE:j<n
 .go_wp2_with fail
  refine(H.pk 4).mono ?_;rintro e wr ⟨x,rfl,x0,K,S4⟩;clear H;obtain⟨N1,hN1⟩:∃M,M=N+3+33*j+1:=⟨_,rfl⟩
  rw[<-hN1] at S4;have nT:=S4.lt;obtain⟨c0,c1,c2,c3,c4,c5,c6,c7,c8⟩:=AC S4.yU;have bf:=AU S4.yU
  rcases(ω:(x=0∨x=1)∨x=2∨x=3) with hx|rfl|rfl
  .rcases hx with rfl|rfl<;>go_wp2_with fail
   all_goals
    refine KB (s:=10) (U:=λix vv=>match ix with
     |2=>Pk 64 vv
     |4=>Pk 999 vv
     |5=>∃x:Int,vv=.int .i64 x/\1<=x/\x<=999
     |6|7=>∃v,∃x:Bool,vv=.tuple #[v,x]
     |_=>True) 11 66 1 2 [2,4] [.a #[.slice ma mn mc,.slice ia iN ic,.slice ea en ec,.slice ca cn cc,.slice sa sn sc,.slice la ln lc,.slice qa qn qc,.int .i64 Q.FU,.int .i64 Q.VO],.p g 0,.z,.p g 0,.z,.z,.z,.z,.z,.z,.u] (λix vv ww=>match ix with
     |6|7=>∃v,(∃x:Bool,vv=.tuple #[v,x])/\QL (w.heap.size+1) ww v
     |8=>QL (w.heap.size+1) ww vv
     |9=>True
     |_=>True) (λww=>Pf J g (N1+2) w W1 b ww) S4.dr ?_ ?_ ?_ ?_ ?_ (hst:=?_)
    .intro i hi hS o D a wx E ll A Y hr x1 X
     match i,hi,hS with
     |0,_,_=>have hW:=hr φ;have bP:=gc hW bf ω c0;have bu:=gc hW bf ω c1;have bx:=gc hW bf ω c2;have bE:=gc hW bf ω c3;have bt:=gc hW bf ω c4;have dg:=gc hW bf ω c5;have jZ:=gc hW bf ω c6;have kP:=gc hW bf ω c7;have lq:=gc hW bf ω c8;exact Lb D X E A Y (hl:=Vr ‹_› ‹_› ‹_› ‹_› ‹_› ‹_› ‹_› ‹_› ‹_›)
     |1,_,_|3,_,_=>exact Xn D X E A Y
     |2,_,R|4,_,R|10,_,R=>cases R
     |5,_,_=>obtain rfl:=yP D;have d4:(Pk 999 (a.tmps[36]?.getD Θ))/\(ll 10=false->True):=Dc A Y 4;obtain⟨⟨x4,d4,p2,p3⟩,_⟩:=d4;have iU:=Be Y 10;clear A E;refine yO ?_;go_simp;exact X _ _ ⟨⟨_,by rw[xJ _ ω],ω,ω⟩,λ_=>trivial⟩ (yN _ _)
     |6,_,_=>obtain rfl:=yP D;have d0:(a.tmps[32]?.getD Θ)=.agg #[.slice ma mn mc,.slice ia iN ic,.slice ea en ec,.slice ca cn cc,.slice sa sn sc,.slice la ln lc,.slice qa qn qc,Q.FU,Q.VO]:=Dc A Y 0;have d2:(Pk 64 (a.tmps[34]?.getD Θ))/\(ll 10=false->True):=Dc A Y 2;obtain⟨⟨x2,d2,p0,p1⟩,_⟩:=d2;have d5:(∃x:Int,(a.tmps[37]?.getD Θ)=.int .i64 x/\1<=x/\x<=999)/\(ll 10=false->True):=Dc A Y 5;obtain⟨⟨x5,d5,r0,r1⟩,_⟩:=d5;have iU:=Be Y 10;clear A E;have hW:=hr φ;have kz:=S4.sf.map (Ge hW ω (yF _));have nL:=hW.size;obtain⟨a2,rfl⟩:=yd p0;refine yO ?_;go_simp;refine(Jw _ _ _ _ _ _ _ Q wx kz.rd S4.good (a:=a2) ω (x:=x5) (Aa.2 ω)).mono ?_;rintro e w_ ⟨m9,i9,e9,c9,s9,l9,q9,rfl,hO,ei⟩;exact X _ _ ⟨⟨_,_,rfl⟩,λ_=>⟨_,⟨_,rfl⟩,hO.sf.pgR (NI S4.good ω (Aa.2 ω)) ω⟩⟩ ei
     |7,_,_=>obtain rfl:=yP D;have d6:(∃v,∃x:Bool,(a.tmps[38]?.getD Θ)=.tuple #[v,x])/\(ll 10=false->∃v,(∃x:Bool,(a.tmps[38]?.getD Θ)=.tuple #[v,x])/\QL (w.heap.size+1) wx v):=Dc A Y 6;have iU:=Be Y 10;clear A E;have q:=d6.2 (Be Y 10);obtain⟨v9,⟨x9,e9⟩,q⟩:=q;refine yO ?_;go_simp;exact X _ _ ⟨⟨_,_,rfl⟩,λ_=>⟨_,⟨_,rfl⟩,q⟩⟩ (yN _ _)
     |8,_,_=>obtain rfl:=yP D;have d7:(∃v,∃x:Bool,(a.tmps[31]?.getD Θ)=.tuple #[v,x])/\(ll 10=false->∃v,(∃x:Bool,(a.tmps[31]?.getD Θ)=.tuple #[v,x])/\QL (w.heap.size+1) wx v):=Dc A Y 7;have iU:=Be Y 10;clear A E;have q:=d7.2 (Be Y 10);obtain⟨v9,⟨x9,e9⟩,q⟩:=q;refine yO ?_;go_simp;exact X _ _ ⟨trivial,λ_=>q⟩ (yN _ _)
     |9,_,_=>obtain rfl:=yP D;have d7:(∃v,∃x:Bool,(a.tmps[31]?.getD Θ)=.tuple #[v,x])/\(ll 10=false->∃v,(∃x:Bool,(a.tmps[31]?.getD Θ)=.tuple #[v,x])/\QL (w.heap.size+1) wx v):=Dc A Y 7;clear A E;obtain⟨v9,x9,e9⟩:=d7.1;refine yO ?_;go_simp;exact X _ _ ⟨trivial,λ_=>trivial⟩ (yN _ _)
    .intro i hi hS o D a wx E ll A Y Z x1 X
     match i,hi,hS with
     |2,_,_=>exact fK (m:=64) D X E A Y Z ω
     |4,_,_=>exact fK (m:=999) D X E A Y Z ω
     |0,_,R|1,_,R|3,_,R|5,_,R|6,_,R|7,_,R|8,_,R|9,_,R|10,_,R=>cases R
    .intro o D a wx E ll A Y hD hW x1 X
     obtain rfl:=yP D;have e3:a.tmps[3]?.getD Θ=.pointer b:=eg (No E 3);have d8:(True)/\(ll 10=false->QL (w.heap.size+1) wx (a.tmps[39]?.getD Θ)):=Dc A Y 8;clear A E;have q:=d8.2 Y.1;obtain⟨m9,i9,e9,c9,s9,l9,q9,P9,e0,ju,kt⟩:=q;unfold AN at e0;obtain⟨⟨⟨va,vn,vc,rfl⟩,⟨wa,wn,wc,rfl⟩,⟨xa,xn,xc,rfl⟩,⟨ya,yn,yc,rfl⟩⟩,⟨ta,tn,tc,rfl⟩,⟨ua,un,uc,rfl⟩,⟨za,zn,zc,rfl⟩⟩:=ju.Dq;have S9:=(S4.draw hD hW).put ju kt;have B9:=(S4.draw hD hW).yU;obtain⟨c0,c1,c2,c3,c4,c5,c6,c7,c8⟩:=AC B9;have fq:=AI B9;refine yO ?_;go_simp;exact X Θ _ ⟨_,_,_,_,_,_,_,P9,S9⟩
    .exact λ_ _ V h=>h.below V
    rotate_left
    .intro i hi v ww hF L hz
     match i,hi with
     |6,_|7,_=>exact(by obtain⟨v9,O,z⟩:=hz;exact⟨v9,O,z.past ω L⟩)
     |8,_=>exact(hz.past ω L)
     |9,_|0,_|1,_|2,_|3,_|4,_|5,_|10,_=>exact hz
    intro vs wx ll hR hA
    clear hR;simp only[DV,Bo,yL,yI,yJ,yH];simp
    try generalize vs 0=z0
    try generalize vs 1=z1
    try generalize vs 2=z2
    try generalize vs 3=z3
    try generalize vs 4=z4
    try generalize vs 5=z5
    try generalize vs 6=z6
    try generalize vs 7=z7
    try generalize vs 8=z8
    try generalize vs 9=z9
    try generalize vs 10=z10
    go_wp2;go_roundw;exact⟨j+1,ω,ξ,hA.mono ω⟩;simp[intOf];omega
  .go_wp2_with fail
   refine KB (s:=8) (U:=λix vv=>match ix with
    |2=>Pk 64 vv
    |3|4=>∃v x y,vv=.tuple #[v,.int .i64 x,.bool y]
    |_=>True) 9 66 1 1 [2] [.a #[.slice ma mn mc,.slice ia iN ic,.slice ea en ec,.slice ca cn cc,.slice sa sn sc,.slice la ln lc,.slice qa qn qc,.int .i64 Q.FU,.int .i64 Q.VO],.p g 0,.z,.z,.z,.z,.z,.z,.u] (λix vv ww=>match ix with
    |3|4=>∃v,(∃x y,vv=.tuple #[v,.int .i64 x,.bool y])/\QL (w.heap.size+1) ww v
    |5=>QL (w.heap.size+1) ww vv
    |6|7=>True
    |_=>True) (λww=>Pf J g (N1+1) w W1 b ww) S4.dr ?_ ?_ ?_ ?_ ?_ (hst:=?_)
   .intro i hi hS o D a wx E ll A Y hr x1 X
    match i,hi,hS with
    |0,_,_=>have hW:=hr φ;have bP:=gc hW bf ω c0;have bu:=gc hW bf ω c1;have bx:=gc hW bf ω c2;have bE:=gc hW bf ω c3;have bt:=gc hW bf ω c4;have dg:=gc hW bf ω c5;have jZ:=gc hW bf ω c6;have kP:=gc hW bf ω c7;have lq:=gc hW bf ω c8;exact Lb D X E A Y (hl:=Vr ‹_› ‹_› ‹_› ‹_› ‹_› ‹_› ‹_› ‹_› ‹_›)
    |1,_,_=>exact Xn D X E A Y
    |2,_,R|8,_,R=>cases R
    |3,_,_=>obtain rfl:=yP D;have d0:(a.tmps[44]?.getD Θ)=.agg #[.slice ma mn mc,.slice ia iN ic,.slice ea en ec,.slice ca cn cc,.slice sa sn sc,.slice la ln lc,.slice qa qn qc,Q.FU,Q.VO]:=Dc A Y 0;have d2:(Pk 64 (a.tmps[46]?.getD Θ))/\(ll 8=false->True):=Dc A Y 2;obtain⟨⟨x2,d2,p0,p1⟩,_⟩:=d2;have u8:=Be Y 8;clear A E;have hW:=hr φ;have kz:=S4.sf.map (Ge hW ω (yF _));have nL:=hW.size;obtain⟨a2,rfl⟩:=yd p0;refine yO ?_;go_simp;refine(Md _ _ _ _ _ _ _ Q wx kz.rd S4.good (a:=a2) ω).mono ?_;rintro e w_ ⟨m9,i9,e9,c9,s9,l9,q9,rfl,hO,ei⟩;exact X _ _ ⟨⟨_,_,_,rfl⟩,λ_=>⟨_,⟨_,_,rfl⟩,hO.sf.pgR (Si S4.good ω) ω⟩⟩ ei
    |4,_,_=>obtain rfl:=yP D;have d3:(∃v x y,(a.tmps[47]?.getD Θ)=.tuple #[v,.int .i64 x,.bool y])/\(ll 8=false->∃v,(∃x y,(a.tmps[47]?.getD Θ)=.tuple #[v,.int .i64 x,.bool y])/\QL (w.heap.size+1) wx v):=Dc A Y 3;have u8:=Be Y 8;clear A E;have q:=d3.2 (Be Y 8);obtain⟨v9,⟨x9,y9,e9⟩,q⟩:=q;refine yO ?_;go_simp;exact X _ _ ⟨⟨_,_,_,rfl⟩,λ_=>⟨_,⟨_,_,rfl⟩,q⟩⟩ (yN _ _)
    |5,_,_=>obtain rfl:=yP D;have d4:(∃v x y,(a.tmps[43]?.getD Θ)=.tuple #[v,.int .i64 x,.bool y])/\(ll 8=false->∃v,(∃x y,(a.tmps[43]?.getD Θ)=.tuple #[v,.int .i64 x,.bool y])/\QL (w.heap.size+1) wx v):=Dc A Y 4;have u8:=Be Y 8;clear A E;have q:=d4.2 (Be Y 8);obtain⟨v9,⟨x9,y9,e9⟩,q⟩:=q;refine yO ?_;go_simp;exact X _ _ ⟨trivial,λ_=>q⟩ (yN _ _)
    |6,_,_=>obtain rfl:=yP D;have d4:(∃v x y,(a.tmps[43]?.getD Θ)=.tuple #[v,.int .i64 x,.bool y])/\(ll 8=false->∃v,(∃x y,(a.tmps[43]?.getD Θ)=.tuple #[v,.int .i64 x,.bool y])/\QL (w.heap.size+1) wx v):=Dc A Y 4;clear A E;obtain⟨v9,x9,y9,e9⟩:=d4.1;refine yO ?_;go_simp;exact X _ _ ⟨trivial,λ_=>trivial⟩ (yN _ _)
    |7,_,_=>obtain rfl:=yP D;have d4:(∃v x y,(a.tmps[43]?.getD Θ)=.tuple #[v,.int .i64 x,.bool y])/\(ll 8=false->∃v,(∃x y,(a.tmps[43]?.getD Θ)=.tuple #[v,.int .i64 x,.bool y])/\QL (w.heap.size+1) wx v):=Dc A Y 4;clear A E;obtain⟨v9,x9,y9,e9⟩:=d4.1;refine yO ?_;go_simp;exact X _ _ ⟨trivial,λ_=>trivial⟩ (yN _ _)
   .intro i hi hS o D a wx E ll A Y Z x1 X
    match i,hi,hS with
    |2,_,_=>exact fK (m:=64) D X E A Y Z ω
    |0,_,R|1,_,R|3,_,R|4,_,R|5,_,R|6,_,R|7,_,R|8,_,R=>cases R
   .intro o D a wx E ll A Y hD hW x1 X
    obtain rfl:=yP D;have e3:a.tmps[3]?.getD Θ=.pointer b:=eg (No E 3);have d5:(True)/\(ll 8=false->QL (w.heap.size+1) wx (a.tmps[48]?.getD Θ)):=Dc A Y 5;clear A E;have q:=d5.2 Y.1;obtain⟨m9,i9,e9,c9,s9,l9,q9,P9,e0,ju,kt⟩:=q;unfold AN at e0;obtain⟨⟨⟨va,vn,vc,rfl⟩,⟨wa,wn,wc,rfl⟩,⟨xa,xn,xc,rfl⟩,⟨ya,yn,yc,rfl⟩⟩,⟨ta,tn,tc,rfl⟩,⟨ua,un,uc,rfl⟩,⟨za,zn,zc,rfl⟩⟩:=ju.Dq;have S9:=(S4.draw hD hW).put ju kt;have B9:=(S4.draw hD hW).yU;obtain⟨c0,c1,c2,c3,c4,c5,c6,c7,c8⟩:=AC B9;have fq:=AI B9;refine yO ?_;go_simp;exact X Θ _ ⟨_,_,_,_,_,_,_,P9,S9⟩
   .exact λ_ _ V h=>h.below V
   rotate_left
   .intro i hi v ww hF L hz
    match i,hi with
    |3,_|4,_=>exact(by obtain⟨v9,O,z⟩:=hz;exact⟨v9,O,z.past ω L⟩)
    |5,_=>exact(hz.past ω L)
    |6,_|7,_|0,_|1,_|2,_|8,_=>exact hz
   intro vs wx ll hR hA
   clear hR;simp only[DV,Bo,yL,yI,yJ,yH];simp
   try generalize vs 0=z0
   try generalize vs 1=z1
   try generalize vs 2=z2
   try generalize vs 3=z3
   try generalize vs 4=z4
   try generalize vs 5=z5
   try generalize vs 6=z6
   try generalize vs 7=z7
   try generalize vs 8=z8
   go_wp2;go_roundw;exact⟨j+1,ω,ξ,hA.mono ω⟩;simp[intOf];omega
  go_wp2_with fail
  refine(Li _ _ _ _ Q.V0.Zh S4.dr ω (λw' L=>(S4.sf.map (Ge L ω (yF _))).rd.1.2.1) (uw S4.good.k.len)).mono ?_;rintro e w9 ⟨v,rfl,⟨x,rfl,hx⟩,h9,g9⟩;have S9:=S4.draw h9 g9;obtain⟨NC,bC⟩:=EU w9 (.cells #[x.k,x.e,x.a,x.b,x.c,x.nm] 34);clear S4 h9 g9 c0 c1 c2 c3 c4 c5 c6 c7 c8 bf;simp only[AT.cs];go_upto_if 57 with fail;generalize w9.alloc _=wc at*;go_cut [] (λW=>∃y:AT,Xp y/\W.heap[w9.heap.size]?=some (.cells y.cs 34 (0,0))/\Γ w9 w9 W)
  case first=>
   cases gr
   .go_wp2_with fail
    go_meet;exact⟨x,hx,NC,bC⟩
   have fc:=AI NC
   obtain⟨d0,d1,d2,d3,d4,d5⟩:=IQ NC;have N2:=gh (x:=⟨1,1,0,0,0,⟨#[98]⟩⟩) NC;go_wp2_with fail;go_meet;exact⟨⟨1,1,0,0,0,⟨#[98]⟩⟩,⟨⟨ψ,ψ,ψ,ψ⟩,.inl rfl⟩,N2,AM (AM (AM (AM (AM (AM bC (Ak _ _ 0 _) (yF _) bC.size) (Ak _ _ 1 _) (yF _) (by simpa using bC.size)) (Ak _ _ 2 _) (yF _) (by simpa using bC.size)) (Ak _ _ 3 _) (yF _) (by simpa using bC.size)) (Ak _ _ 4 _) (yF _) (by simpa using bC.size)) (Ak _ _ 5 _) (yF _) (by simpa using bC.size)⟩
  case rest=>
  clear NC bC hx;obtain⟨y,⟨hy,lx⟩,NY,bY⟩:=hcut;have jm:=S9.below bY;obtain⟨c0,c1,c2,c3,c4,c5,c6,c7,c8⟩:=AC jm.yU;obtain⟨d0,d1,d2,d3,d4,d5⟩:=IQ NY;have C:=Lh _ _ _ _ _ _ _ Q y _ jm.sf.rd jm.good ⟨hy.2.1,hy.2.2.1⟩ (by have:=hy.1;unfold maxLen;omega) (by have:=hy.2.2.2;omega);have hO:=(Ox jm.good lx).1;unfold AN at C;simp only[AT.cs] at C;go_wp2_with fail;refine C.mono ?_;rintro e mS ⟨m9,i9,e9,c9,s9,l9,q9,rfl,kC,jU⟩;obtain⟨⟨⟨va,vn,vc,rfl⟩,⟨wa,wn,wc,rfl⟩,⟨xa,xn,xc,rfl⟩,⟨ya,yn,yc,rfl⟩⟩,⟨ta,tn,tc,rfl⟩,⟨ua,un,uc,rfl⟩,⟨za,zn,zc,rfl⟩⟩:=kC.Dq;unfold AN;have mK:=jm.below jU;have yo:=AA ((mK.put (kC.sf.map (λ_ _ _ _ _ _ _ x=>Bb x (by have:=jm.lt;have:=AU jm.yU;omega))) hO).mono (M:=N+3+33*(j+1)) ω);have fq:=AI mK.yU;clear c0 c1 c2 c3 c4 c5 c6 c7 c8 d0 d1 d2 d3 d4 d5 C;obtain⟨c0,c1,c2,c3,c4,c5,c6,c7,c8⟩:=AC mK.yU;clear mK jm S9 kC jU bY NY hO hy lx;go_wp2;go_roundw;exact⟨j+1,ω,ξ,_,_,_,_,_,_,_,_,yo.u⟩;simp[intOf];omega
 obtain⟨c0,c1,c2,c3,c4,c5,c6,c7,c8⟩:=AC H.yU
 have pC:=AU R6;have R9:=(H.kp w pC ω (by have:=H.lt;omega)).trans R6;obtain⟨d0,d1,d2,d3,d4,d5,d6,d7,d8⟩:=AC R9;have mG:=AI R9;obtain⟨BX,FX⟩:=gJ (ok:=Dd) (M:=N+900) H.dr H.gr (H.sf.map (λ_ _ _ _ _ _ _ x=>Bb x (vS _))) H.good ad eD R9 ω;unfold DO at BX FX;have BH:=AA BX;have FH:=AA FX;clear BX FX H R9 R6;go_wp2_with fail;exact yB (v:=.agg #[_,_,_,_,_,_,_,_,_]) (by simp[results,Tryz.results56,go_sem,AC BH.u]) rfl FH.u
variable{ss:List ByteArray}
theorem cD{s:ByteArray}:BW (IY ss s).1=true:=by
 unfold IY
 by_cases h:(BW ss&&BR s)=true
 .rw[if_pos h]
  obtain⟨O,z⟩:=wu.1 h;exact cH O z
 rw[if_neg h]
 decide+kernel
def fW(w:Ω)(r:Ending)(w':Ω):Prop:=∃v' b,r=.returned (.tuple #[v',.bool b])/\(∃c',AQ w.heap.size 125 4 AY w' v' c'/\c'.length<=4)/\Γ w w w'
theorem UJ (v:Φ)(c:List Ag)(x:Ag)(w:Ω)(h:Do w v c):
 Ξ prog 174 #[v,.agg #[x.e,x.p,x.f,x.w]] w (fW w):=by
 obtain⟨N0,b0⟩:=EU w (.cells #[x.e,x.p,x.f,x.w] 125);have h0:=BK.below h b0;go_in;go_wp2_with fail;generalize w.alloc _=W0 at*;have av:=AA b0;have HN:=AA N0;obtain⟨y0,y1,y2,y3⟩:=AG N0;clear N0 b0;refine(Jv v c W0 h0).mono ?_;rintro r w1 ⟨rfl,b1⟩;cases hc:Bk c
 .go_wp2
  go_ret2;exact⟨_,_,rfl,⟨[],AQ.lower (Ci AY _ _ _) (yM av.size b1.size),yt _⟩,(av.trans (b1.mono av.size)).alloc (yM av.size b1.size) _⟩
 have hl:=(Ey.1 hc).2.2
 obtain⟨y0,y1,y2,y3⟩:=AG (AB HN b1);go_wp2_with fail;refine(Om x _).mono ?_;rintro r w2 ⟨rfl,b2⟩;have cT:=b1.trans (b2.mono b1.size);cases hx:CQ x
 .go_wp2
  go_ret2;exact⟨_,_,rfl,⟨[],AQ.lower (Ci AY _ _ _) (yM av.size cT.size),yt _⟩,(av.trans (cT.mono av.size)).alloc (yM av.size cT.size) _⟩
 obtain⟨y0,y1,y2,y3⟩:=AG (AB HN cT)
 have hp:=(Ey.1 (ZS hc hx)).2.2;go_wp2_with fail;refine(Uk v c x _ (BK.below h0 cT) hl).mono ?_;rintro r w3 ⟨v',rfl,O3,b3⟩;have HO:=AA (yj O3 hp);have HB:=AA ((av.trans ((cT.trans (b3.mono cT.size)).mono av.size)));have Y:=AA (yM av.size cT.size);obtain⟨a9,c9,e9,_,_⟩:=O3.rd.shape;generalize List.length _=n9 at e9;subst e9;clear O3 hp b3 b1 b2 cT hl;go_wp2;go_ret2;exact⟨_,_,rfl,⟨_,HO.1.lower Y.u,HO.2⟩,HB.u⟩
theorem Px (h:w.grownBy w1 (some g))(z:w1.grownBy w2 row)(hq:∀k,row=some k->w.heap.size<=k):w.grownBy w2 (some g):=
 ⟨z.os.trans h.os,z.tape.trans h.tape,z.output.trans h.output,yM h.size z.size,λk hk gl=>(z.block k (yu hk h.size) (λe=>by have:=hq k e.symm;omega)).trans (h.block k hk gl)⟩
theorem Sx (w:Ω)(e:TypeId)(sz n:Nat)(xs:List Φ)(hl:xs.length=n*sz)(hm:n<=maxLen):(w.alloc (.cells xs.toArray e)).ownsRow w.heap.size e sz (.slice w n n) n xs:=
 ⟨hl,.inr ⟨_,_,_,rfl,yF _,yx _ _,yF _,hm,by simpa using hl,by rw[<-hl];simp⟩⟩
theorem Y3{s:ByteArray}(h:DQ ss)(R:s.size<=maxLen):DQ (ss++[s]):=by
 intro x hx
 rcases wJ.1 hx with O|O
 .exact h x O
 simp at O;subst O;exact R
theorem UF (h:Dr J g N w)(hN:N<=700000):
 Ξ prog 117 #[.pointer g] w (Il J g (N+60) w λv w'=>∃ss,AQ w.heap.size 9 1 A0 w' v ss/\DQ ss):=by
 have ad:=h.lt;have eD:J.heap.size<=w.heap.size:=h.2.1.size;go_in;go_wp2_with fail;have o1:=Ci A0 w 9 1;have O:=h.alloc (.cells #[] 9);have g1:w.grownBy (w.alloc (.cells #[] 9)) (some g):=AW (AJ _ _) _;generalize w.alloc (.cells #[] 9)=wa at o1 O g1;generalize(xG (some ⟨w,0,none⟩) 0 0)=o at o1 ⊢;refine(O.pick _).mono ?_;rintro e w2 ⟨n,rfl,n0,n1,z,g2⟩;replace n1:=n1 ψ;obtain⟨n,rfl⟩:=yd n0;have hp:∀b',some g=some b'->b'<w.heap.size:=λb' e=>by cases e;exact ad
 have o2:AQ w.heap.size 9 1 A0 w2 o []:=BU o1 g2 hp;have g3:=AO g1 g2;clear o1 O g1 g2 h;have Hp:=AA hp;clear hp;go_wp2_with fail;go_loopw [3,5] (λo i wr=>∃k:Nat,∃ss,k<=n/\i=.int .i64 k/\BW ss=true/\AQ w.heap.size 9 1 A0 wr o ss/\Dr J g (N+1+3*k) wr/\w.grownBy wr (some g)) (λ_ i _=>n - (intOf i).toNat)
 exact⟨0,[],yt _,rfl,by decide+kernel,o2,z,g3⟩
 clear o2 z g3;obtain⟨k,ss,hk,rfl,fp,hO,hD,Z⟩:=hrel;have kg:=AA fp;have HO:=AA hO;obtain⟨oa,oc,rfl,_,_⟩:=hO.rd.shape;have lJ:=(Ev.1 kg.u).2.2;clear fp hO
 by_cases jK:k<n
 .go_wp2_with fail
  refine(J7 hD ω).mono ?_;rintro e w3 ⟨_,rfl,⟨s,rB,rfl⟩,h3,g3⟩;have O3:AQ w.heap.size 9 1 A0 w3 _ ss:=BU HO g3 Hp.u;have hz:w.heap.size<=w3.heap.size:=yM Z.size g3.size;go_wp2_with fail;refine(Me _ ss s w3 O3.rd (Ex kg.u) μ).mono ?_;rintro e w4 ⟨v4,rfl,O4,b4⟩;cases V:(IY ss s).2
  .have HR:=AA (yj (O3.below b4) (yj (h3.below b4) (AO (AO Z g3) (AW b4 _))))
   clear lJ O3 O4 h3 g3 b4 hD Z;go_wp2;go_roundw;exact⟨k+1,ss,ω,ξ,kg.u,HR.1,HR.2.1.mono ω,HR.2.2⟩;simp[intOf];omega
  have HR:=AA (yj (O4.lower hz) (yj (h3.below b4) (AO (AO Z g3) (AW b4 _))))
  clear lJ O3 O4 h3 g3 b4 hD Z;go_wp2;go_roundw;exact⟨k+1,(IY ss s).1,ω,ξ,cD,HR.1,HR.2.1.mono ω,HR.2.2⟩;simp[intOf];omega
 have s7:k<=7:=ω;go_wp2_with fail;refine(hD.pick _).mono ?_;rintro e w3 ⟨u,rfl,_,_,h3,g3⟩;have O3:AQ w.heap.size 9 1 A0 w3 _ ss:=BU HO g3 Hp.u;have G3:=AO Z g3;clear hD Z HO g3
 by_cases u0:u=0
 .subst u0
  go_wp2_with fail;refine(J7 h3 ω).mono ?_;rintro e w4 ⟨_,rfl,⟨s,rB,rfl⟩,h4,g4⟩;have O4:AQ w.heap.size 9 1 A0 w4 _ ss:=BU O3 g4 Hp.u;have G4:=AO G3 g4;have hz:w.heap.size<=w4.heap.size:=G4.size;have kh:=AA O4;have HH:=AA (yj h4 G4);clear O3 h3 G3 g4 O4 h4 G4;go_wp2_with (at_builtin;go_must (refine Bn (lo:=w.heap.size) (n:=ss.length) (xs:=Ce A0 ss) (m:=1) (news:=[.string s]) rfl rfl 9 (.string ⟨#[]⟩) 1 16 underlying79 Tryz.zT rfl ψ rfl (A8 kh (AJ _ _)) rfl (Rd.zM _ #[_] _ 1 1 _ χ rfl ζ) (by simp[xR]) μ ω η ?_;intro o' w9 k1 k2 k3 k4));have o9:AQ w.heap.size 9 1 A0 w9 o' (ss++[s]):=by unfold AQ;rw[Bq,Eo,yz];exact k1
  have cy:∀k,(xG oa ss.length oc).ownBlock=some k->w.heap.size<=k:=λk e=>(yC kh k e).1
  have D9:=(HH.1.alloc (.cells #[s] 9)).keep k2 (λe=>by have:=cy g e;have:=Hp g rfl;omega) (λk e=>yM eD (cy k e));have G9:=Px (Ib HH.2 (.cells #[s] 9)) k2 cy;have HF:=AA (yj o9 (yj (D9.mono (M:=N+60) ω) G9));clear o9 D9 G9 k1 k2 k3 k4;go_wp2;go_ret;exact⟨_,rfl,⟨_,HF.1,Y3 (Ex kg.u) μ⟩,HF.2.1,HF.2.2⟩
 have t0:(u==0)=false:=by simp[u0]
 clear u0;go_wp2_with fail;refine(h3.pick _).mono ?_;rintro e w4 ⟨u',rfl,_,_,h4,g4⟩;have O4:AQ w.heap.size 9 1 A0 w4 _ ss:=BU O3 g4 Hp.u;have HF:=AA (yj O4 (yj (h4.mono (M:=N+60) ω) (AO G3 g4)));clear O3 h3 G3 g4 O4 h4 t0
 by_cases u0:u'=0
 .subst u0
  go_wp2;go_ret;refine⟨_,rfl,⟨[⟨#[97]⟩,⟨#[97,97]⟩,⟨#[97,98]⟩,⟨#[98]⟩,⟨#[98,97]⟩,⟨#[99]⟩],AQ.lower (Sx w4 9 1 6 (Ce A0 [⟨#[97]⟩,⟨#[97,97]⟩,⟨#[97,98]⟩,⟨#[98]⟩,⟨#[98,97]⟩,⟨#[99]⟩]) rfl ζ) HF.2.2.size,?_⟩,HF.2.1.alloc _,Ib HF.2.2 _⟩;intro x hx;simp only[xF,wU,or_false] at hx
  rcases hx with rfl|rfl|rfl|rfl|rfl|rfl<;>decide
 have t0:(u'==0)=false:=by simp[u0]
 clear u0;go_wp2;go_ret;exact⟨_,rfl,⟨_,HF.1,Ex kg.u⟩,HF.2.1,HF.2.2⟩
theorem Vn (h:Dr J g N w)(hN:N<=700000):
 Ξ prog 118 #[.pointer g] w (Il J g (N+80) w λv w'=>∃ss,AQ w.heap.size 125 4 AY w' v ss):=by
 have ad:=h.lt;have eD:J.heap.size<=w.heap.size:=h.2.1.size;go_in;go_wp2_with fail;have o1:=Ci AY w 125 4;have O:=h.alloc (.cells #[] 125);have g1:w.grownBy (w.alloc (.cells #[] 125)) (some g):=AW (AJ _ _) _;generalize w.alloc (.cells #[] 125)=wa at o1 O g1;generalize(xG (some ⟨w,0,none⟩) 0 0)=o at o1 ⊢;refine(O.pick _).mono ?_;rintro e w2 ⟨n,rfl,n0,n1,z,g2⟩;replace n1:=n1 ψ;obtain⟨n,rfl⟩:=yd n0;have hp:∀b',some g=some b'->b'<w.heap.size:=λb' e=>by cases e;exact ad
 have o2:AQ w.heap.size 125 4 AY w2 o []:=BU o1 g2 hp;have g3:=AO g1 g2;clear o1 O g1 g2 h;have Hp:=AA hp;clear hp;go_wp2_with fail;go_loopw [3,5] (λo i wr=>∃k:Nat,∃ss,k<=n/\i=.int .i64 k/\ss.length<=4/\AQ w.heap.size 125 4 AY wr o ss/\Dr J g (N+1+8*k) wr/\w.grownBy wr (some g)) (λ_ i _=>n - (intOf i).toNat)
 exact⟨0,[],yt _,rfl,yt _,o2,z,g3⟩
 clear o2 z g3;obtain⟨k,ss,hk,rfl,fp,hO,hD,Z⟩:=hrel;have kg:=AA fp;have HO:=AA hO;obtain⟨oa,oc,rfl,_,_⟩:=hO.rd.shape;have lJ:ss.length<=6:=by have:=kg.u;omega
 clear fp hO
 by_cases jK:k<n
 .go_wp2_with fail
  refine(Nd hD ω).mono ?_;rintro e w3 ⟨_,rfl,⟨s,rfl⟩,h3,g3⟩;have O3:AQ w.heap.size 125 4 AY w3 _ ss:=BU HO g3 Hp.u;have hz:w.heap.size<=w3.heap.size:=yM Z.size g3.size;go_wp2_with fail;refine(UJ _ ss s w3 O3.rd).mono ?_;rintro e w4 ⟨v4,bb,rfl,⟨qM,O4,s0⟩,b4⟩;cases bb
  .have HR:=AA (yj (O3.below b4) (yj (h3.below b4) (AO (AO Z g3) (AW b4 _))))
   clear lJ O3 O4 h3 g3 b4 hD Z;go_wp2;go_roundw;exact⟨k+1,ss,ω,ξ,kg.u,HR.1,HR.2.1.mono ω,HR.2.2⟩;simp[intOf];omega
  have HR:=AA (yj (O4.lower hz) (yj (h3.below b4) (AO (AO Z g3) (AW b4 _))))
  clear lJ O3 O4 h3 g3 b4 hD Z;go_wp2;go_roundw;exact⟨k+1,qM,ω,ξ,s0,HR.1,HR.2.1.mono ω,HR.2.2⟩;simp[intOf];omega
 have s7:k<=7:=ω;go_wp2_with fail;refine(hD.pick _).mono ?_;rintro e w3 ⟨u,rfl,_,_,h3,g3⟩;have O3:AQ w.heap.size 125 4 AY w3 _ ss:=BU HO g3 Hp.u;have G3:=AO Z g3;clear hD Z HO g3;have HF:=AA (yj O3 (yj (h3.mono (M:=N+80) ω) G3))
 by_cases u0:u=0
 .subst u0
  go_wp2_with fail;refine(Nd h3 ω).mono ?_;rintro e w4 ⟨_,rfl,⟨s,rfl⟩,h4,g4⟩;have O4:AQ w.heap.size 125 4 AY w4 _ ss:=BU O3 g4 Hp.u;have G4:=AO G3 g4;have hz:w.heap.size<=w4.heap.size:=G4.size;have kh:=AA O4;have HH:=AA (yj h4 G4);clear O3 h3 G3 g4 O4 h4 G4;go_wp2_with (at_builtin;go_must (refine Bn (lo:=w.heap.size) (n:=ss.length) (xs:=Ce AY ss) (m:=1) (news:=[.int .i64 s.e,.int .i64 s.p,.int .i64 s.f,.bool s.w]) rfl rfl 125 (.agg #[θ,θ,θ,υ]) 4 32 underlying26 Tryz.zP rfl ψ rfl (A8 kh (AJ _ _)) rfl (Rd.zM _ #[.int .i64 s.e,.int .i64 s.p,.int .i64 s.f,.bool s.w] _ 4 1 _ χ rfl ζ) (by simp[xR]) μ ω η ?_;intro o' w9 k1 k2 k3 k4));have o9:AQ w.heap.size 125 4 AY w9 o' (ss++[s]):=by unfold AQ;rw[Bq,Eo,yz];exact k1
  have cy:∀k,(xG oa ss.length oc).ownBlock=some k->w.heap.size<=k:=λk e=>(yC kh k e).1
  have D9:=(HH.1.alloc (.cells #[s.e,s.p,s.f,s.w] 125)).keep k2 (λe=>by have:=cy g e;have:=Hp g rfl;omega) (λk e=>yM eD (cy k e));have G9:=Px (Ib HH.2 (.cells #[s.e,s.p,s.f,s.w] 125)) k2 cy;have HF:=AA (yj o9 (yj (D9.mono (M:=N+80) ω) G9));clear o9 D9 G9 k1 k2 k3 k4;go_wp2;go_ret;exact⟨_,rfl,⟨_,HF.1⟩,HF.2.1,HF.2.2⟩
 have t0:(u==0)=false:=by simp[u0]
 clear u0
 by_cases u0:u=1
 .subst u0
  clear O3 h3 G3;go_wp2_with (at_builtin;go_must (refine Bn (lo:=w.heap.size) (n:=ss.length) (xs:=Ce AY ss) (m:=ss.length) (news:=Ce AY ss) rfl rfl 125 (.agg #[θ,θ,θ,υ]) 4 32 underlying26 Tryz.zP rfl ψ rfl HF.1 rfl (HF.1.rd) (Kk ss) μ ω (HF.2.2.size) ?_;intro o' w9 k1 k2 k3 k4));have o9:AQ w.heap.size 125 4 AY w9 o' (ss++ss):=by unfold AQ;rw[Bq,yz];exact k1
  have cy:∀k,(xG oa ss.length oc).ownBlock=some k->w.heap.size<=k:=λk e=>(yC HF.1 k e).1
  have D9:=HF.2.1.keep k2 (λe=>by have:=cy g e;have:=Hp g rfl;omega) (λk e=>yM eD (cy k e));have G9:=Px HF.2.2 k2 cy;have HH:=AA (yj o9 (yj D9 G9));clear o9 D9 G9 k1 k2 k3 k4;go_wp2;go_ret;exact⟨_,rfl,⟨_,HH.1⟩,HH.2.1,HH.2.2⟩
 have t1:(u==1)=false:=by simp[u0]
 clear u0 O3 h3 G3;go_wp2;go_ret;exact⟨_,rfl,⟨_,HF.1⟩,HF.2.1,HF.2.2⟩
def XK:List ByteArray:=[⟨#[98]⟩,⟨#[97]⟩,⟨#[97,98]⟩,⟨#[]⟩]
theorem gE{s:ByteArray}(R:s∈XK):DZ (Ou [[gA],[s],[gC]]):=by
 simp only[XK,xF,wU,or_false] at R
 rcases R with rfl|rfl|rfl|rfl<;>exact FI.1 φ
theorem Ye{s:ByteArray}(R:s∈XK):∀ts∈[[gA],[s],[gC]],BW ts=true:=by
 intro ts h;simp only[XK,xF,wU,or_false] at R h
 rcases h with rfl|rfl|rfl
 .decide+kernel
 .rcases R with rfl|rfl|rfl|rfl<;>decide+kernel
 decide+kernel
theorem aT{s:ByteArray}(R:s∈XK):∀ts∈[[gA],[s],[gC]],DQ ts:=by
 intro ts h;simp only[XK,xF,wU,or_false] at R h
 rcases h with rfl|rfl|rfl<;>intro x hx<;>rw[List.mem_singleton] at hx<;>subst hx
 .decide
 .rcases R with rfl|rfl|rfl|rfl<;>decide
 decide
theorem ak{va vb vc:Φ}{a b c:List ByteArray}(u:TypeId)(ha:BY w va a)(V:BY w vb b)(hc:BY w vc c)(sa:∃x n k,va=.slice x n k)(sb:∃x n k,vb=.slice x n k)(sc:∃x n k,vc=.slice x n k):
 Mu (w.alloc (.cells #[va,vb,vc] u)) (.slice w 3 3) [a,b,c]:=by
 obtain⟨_,_,_,rfl⟩:=sa;obtain⟨_,_,_,rfl⟩:=sb;obtain⟨_,_,_,rfl⟩:=sc;refine⟨[_,_,_],Rd.zM _ #[_,_,_] u 1 3 _ χ rfl ζ,rfl,?_⟩;intro i x y hx hy
 match i,hx,hy with
 |0,hx,hy=>simp at hx hy;subst hx hy;exact ha.below (AJ _ _)
 |1,hx,hy=>simp at hx hy;subst hx hy;exact V.below (AJ _ _)
 |2,hx,hy=>simp at hx hy;subst hx hy;exact hc.below (AJ _ _)
theorem UG (h:Dr J g N w)(hN:N<=400000):
 Ξ prog 114 #[.pointer g] w (gz DZ J g (N+3000) w):=by
 have ad:=h.lt;have eD:J.heap.size<=w.heap.size:=h.2.1.size;go_in;go_wp2_with fail;obtain⟨B0,BA,b0,bk⟩:=LG w (.cells #[ι,ι,ι,ι] 28) (.cells #[.string ⟨#[97]⟩] 9);go_wp2_with fail;generalize(w.alloc _).alloc _=wa at*;rw[<-bk];have h0:=h.below b0;refine(QA wa.heap.size 4 XK (h0.alloc _) ω rfl ψ ψ (by have:=h0.lt;omega) χ (λk hk=>K9 wa XK _ hk)).mono ?_;rintro e w1 ⟨v,rfl,⟨s,R,rfl⟩,O,g1⟩;have g2:=AO (AW (AJ wa (.cells #[.string ⟨#[98]⟩,.string ⟨#[97]⟩,.string ⟨#[97,98]⟩,ϑ] 9)) (some g)) g1;have qI:=(g2.block _ (AU BA) η).trans BA;have B1:=(g2.block _ (AU B0) η).trans B0;have G1:=AO (AW b0 (some g)) g2;clear h0 g1 g2 BA B0 b0 h;obtain⟨NS,NC,b1,lA⟩:=LG w1 (.cells #[s] 9) (.cells #[.string ⟨#[99]⟩] 9);have kT:=ak 79 (show BY _ _ [⟨#[97]⟩] from PD (AB qI b1)) (show BY _ _ [s] from PD NS) (show BY _ _ [⟨#[99]⟩] from PD NC) ⟨_,_,_,rfl⟩ ⟨_,_,_,rfl⟩ ⟨_,_,_,rfl⟩;rw[lA] at kT;go_wp2_with fail;refine(KJ _ [[⟨#[97]⟩],[s],[⟨#[99]⟩]] _ kT rfl (Ye R) (aT R)).mono ?_;rintro e w2 ⟨m,i,ev,c,rfl,O2,b2⟩;have jt:=b1.trans (((AJ _ _).trans (b2.mono (AJ _ _).size)).mono b1.size);obtain⟨⟨ma,mn,mc,rfl⟩,⟨ia,iN,ic,rfl⟩,⟨ea,en,ec,rfl⟩,⟨ca,cn,cc,rfl⟩⟩:=O2.Dq;have bK:=AJ w2 (.cells #[.slice ma mn mc,.slice ia iN ic,.slice ea en ec,.slice ca cn cc] 28);have jf:w.heap.size<w2.heap.size:=by have:=AU B1;have:=jt.size;omega
 have H:J2 DZ J g (N+1) w w2 (w2.alloc (.cells #[.slice ma mn mc,.slice ia iN ic,.slice ea en ec,.slice ca cn cc] 28)):=⟨_,_,_,_,Ou [[⟨#[97]⟩],[s],[⟨#[99]⟩]],(O.below jt).below bK,AO (AO G1 (AW jt _)) (AW bK _),yx _ _,(O2.sf.map (Ka bK (by have:=b1.size;have:=(AJ ((w1.alloc (.cells #[s] 9)).alloc (.cells #[.string ⟨#[99]⟩] 9)) (.cells #[.slice (some ⟨w.heap.size+1,0,none⟩) 1 1,.slice w1 1 1,.slice (some ⟨w1.heap.size+1,0,none⟩) 1 1] 79)).size;have:=AU B1;omega))),gE R,_,_,_,_,AB (AB B1 jt) bK⟩;clear O2 b2 jt kT NS NC b1 lA O G1 qI B1 bK bk R;go_wp2_with fail;generalize w2.alloc _=w3 at*;generalize w2.heap.size=b at*;refine(H.pk ad jf 5 ω ψ ψ).mono ?_;rintro e w4 ⟨x,rfl,x0,K,S4⟩;clear H;go_upto_if 24 with fail;go_cut [] (λwx=>J2 DZ J g (N+20) w b wx)
 case first=>
  by_cases hx:0<x
  .go_wp2_with fail
   refine(S4.pk ad jf 3 ω ψ ψ).mono ?_;rintro e w5 ⟨y,rfl,y0,y1,S5⟩;clear S4;go_wp2_with fail;refine(PI (1+y) w5 ω ω).mono ?_;rintro e w6 ⟨m1,i1,e1,c1,s1,l1,q1,rfl,O6,b6⟩;obtain⟨⟨⟨ma,mn,mc,rfl⟩,⟨ia,iN,ic,rfl⟩,⟨ea,en,ec,rfl⟩,⟨ca,cn,cc,rfl⟩⟩,⟨sa,sn,sc,rfl⟩,⟨la,ln,lc,rfl⟩,⟨qa,qn,qc,rfl⟩⟩:=O6.Dq;have jv:Dd (XN (1+y)):=ZM ω ω;clear y0 y1;generalize XN (1+y)=P1 at*;unfold AN;have bB:=AJ w6 (.cells #[.slice ma mn mc,.slice ia iN ic,.slice ea en ec,.slice ca cn cc,.slice sa sn sc,.slice la ln lc,.slice qa qn qc,P1.FU,P1.VO] 32);have jT:=b6.trans (bB.mono b6.size);have SK:=S5.below ad jf jT;obtain⟨_,_,_,_,_,h5,g5,B5,_,_,_⟩:=S5;have ky:=AU B5;have H:L6 J g (N+3) w (w6.alloc (.cells #[.slice ma mn mc,.slice ia iN ic,.slice ea en ec,.slice ca cn cc,.slice sa sn sc,.slice la ln lc,.slice qa qn qc,P1.FU,P1.VO] 32)) w6.heap.size _ _ _ _ _ _ _ P1 (w6.alloc (.cells #[.slice ma mn mc,.slice ia iN ic,.slice ea en ec,.slice ca cn cc,.slice sa sn sc,.slice la ln lc,.slice qa qn qc,P1.FU,P1.VO] 32)):=
    ⟨(h5.below jT).mono ω,AO g5 (AW jT _),yx _ _,O6.map (Ka bB ω),jv,ad,eD,by have:=b6.size;omega,yF _,λ_ _ _ _=>rfl⟩
   have FS:b<w6.heap.size:=by have:=b6.size;omega
   clear O6 b6 bB jT h5 g5 B5 jv ky;go_wp2_with fail;generalize w6.alloc _=W1 at*;generalize w6.heap.size=b5 at*;refine(H.pk 4).mono ?_;rintro e w7 ⟨n,rfl,n0,n1,S7⟩;clear H;obtain⟨n,rfl⟩:=yd n0;have Fe:n<4:=ω;clear n0 n1;go_wp2_with fail;go_loopw [8] (λi wr=>∃j:Nat,j<=n/\i=.int .i64 j/\Pf J g (N+4+2*j) w W1 b5 wr) (λi _=>n - (intOf i).toNat)
   exact⟨0,yt _,rfl,_,_,_,_,_,_,_,P1,S7⟩
   clear S7;obtain⟨j,hj,rfl,m1,i1,e1,c1,s1,l1,q1,Q,H⟩:=hrel;have nT:=AU H.yU;obtain⟨⟨⟨ma,mn,mc,rfl⟩,⟨ia,iN,ic,rfl⟩,⟨ea,en,ec,rfl⟩,⟨ca,cn,cc,rfl⟩⟩,⟨sa,sn,sc,rfl⟩,⟨la,ln,lc,rfl⟩,⟨qa,qn,qc,rfl⟩⟩:=H.sf.Dq
   by_cases jE:j<n
   .go_wp2_with fail
    obtain⟨N1,hN1⟩:∃M,M=N+4+2*j:=⟨_,rfl⟩
    rw[<-hN1] at H;obtain⟨c0,c1,c2,c3,c4,c5,c6,c7,c8⟩:=AC H.yU;have bf:=AU H.yU;refine KB (s:=10) (U:=λix vv=>match ix with
     |2=>Pk 64 vv
     |4=>Pk 99 vv
     |5=>∃x:Int,vv=.int .i64 x/\1<=x/\x<=99
     |6|7=>∃v,∃x:Bool,vv=.tuple #[v,x]
     |_=>True) 11 68 1 2 [2,4] [.a #[.slice ma mn mc,.slice ia iN ic,.slice ea en ec,.slice ca cn cc,.slice sa sn sc,.slice la ln lc,.slice qa qn qc,.int .i64 Q.FU,.int .i64 Q.VO],.p g 0,.z,.p g 0,.z,.z,.z,.z,.z,.z,.u] (λix vv ww=>match ix with
     |6|7=>∃v,(∃x:Bool,vv=.tuple #[v,x])/\QL (w.heap.size+1) ww v
     |8=>QL (w.heap.size+1) ww vv
     |9=>True
     |_=>True) (λww=>Pf J g (N1+2) w W1 b5 ww) H.dr ?_ ?_ ?_ ?_ ?_ (hst:=?_)
    .intro i hi hS o D a wx E ll A Y hr x1 X
     match i,hi,hS with
     |0,_,_=>have hW:=hr φ;have bP:=gc hW bf ω c0;have bu:=gc hW bf ω c1;have bx:=gc hW bf ω c2;have bE:=gc hW bf ω c3;have bt:=gc hW bf ω c4;have dg:=gc hW bf ω c5;have jZ:=gc hW bf ω c6;have kP:=gc hW bf ω c7;have lq:=gc hW bf ω c8;exact Lb D X E A Y (hl:=Vr ‹_› ‹_› ‹_› ‹_› ‹_› ‹_› ‹_› ‹_› ‹_›)
     |1,_,_|3,_,_=>exact Xn D X E A Y
     |2,_,R|4,_,R|10,_,R=>cases R
     |5,_,_=>obtain rfl:=yP D;have d4:(Pk 99 (a.tmps[44]?.getD Θ))/\(ll 10=false->True):=Dc A Y 4;obtain⟨⟨x4,d4,p2,p3⟩,_⟩:=d4;have iU:=Be Y 10;clear A E;refine yO ?_;go_simp;exact X _ _ ⟨⟨_,by rw[xJ _ ω],ω,ω⟩,λ_=>trivial⟩ (yN _ _)
     |6,_,_=>obtain rfl:=yP D;have d0:(a.tmps[40]?.getD Θ)=.agg #[.slice ma mn mc,.slice ia iN ic,.slice ea en ec,.slice ca cn cc,.slice sa sn sc,.slice la ln lc,.slice qa qn qc,Q.FU,Q.VO]:=Dc A Y 0;have d2:(Pk 64 (a.tmps[42]?.getD Θ))/\(ll 10=false->True):=Dc A Y 2;obtain⟨⟨x2,d2,p0,p1⟩,_⟩:=d2;have d5:(∃x:Int,(a.tmps[45]?.getD Θ)=.int .i64 x/\1<=x/\x<=99)/\(ll 10=false->True):=Dc A Y 5;obtain⟨⟨x5,d5,r0,r1⟩,_⟩:=d5;have iU:=Be Y 10;clear A E;have hW:=hr φ;have kz:=H.sf.map (Ge hW ω (yF _));have nL:=hW.size;obtain⟨a2,rfl⟩:=yd p0;refine yO ?_;go_simp;refine(Jw _ _ _ _ _ _ _ Q wx kz.rd H.good (a:=a2) ω (x:=x5) (Aa.2 ω)).mono ?_;rintro e w_ ⟨m9,i9,e9,c9,s9,l9,q9,rfl,hO,ei⟩;exact X _ _ ⟨⟨_,_,rfl⟩,λ_=>⟨_,⟨_,rfl⟩,hO.sf.pgR (NI H.good ω (Aa.2 ω)) ω⟩⟩ ei
     |7,_,_=>obtain rfl:=yP D;have d6:(∃v,∃x:Bool,(a.tmps[46]?.getD Θ)=.tuple #[v,x])/\(ll 10=false->∃v,(∃x:Bool,(a.tmps[46]?.getD Θ)=.tuple #[v,x])/\QL (w.heap.size+1) wx v):=Dc A Y 6;have iU:=Be Y 10;clear A E;have q:=d6.2 (Be Y 10);obtain⟨v9,⟨x9,e9⟩,q⟩:=q;refine yO ?_;go_simp;exact X _ _ ⟨⟨_,_,rfl⟩,λ_=>⟨_,⟨_,rfl⟩,q⟩⟩ (yN _ _)
     |8,_,_=>obtain rfl:=yP D;have d7:(∃v,∃x:Bool,(a.tmps[39]?.getD Θ)=.tuple #[v,x])/\(ll 10=false->∃v,(∃x:Bool,(a.tmps[39]?.getD Θ)=.tuple #[v,x])/\QL (w.heap.size+1) wx v):=Dc A Y 7;have iU:=Be Y 10;clear A E;have q:=d7.2 (Be Y 10);obtain⟨v9,⟨x9,e9⟩,q⟩:=q;refine yO ?_;go_simp;exact X _ _ ⟨trivial,λ_=>q⟩ (yN _ _)
     |9,_,_=>obtain rfl:=yP D;have d7:(∃v,∃x:Bool,(a.tmps[39]?.getD Θ)=.tuple #[v,x])/\(ll 10=false->∃v,(∃x:Bool,(a.tmps[39]?.getD Θ)=.tuple #[v,x])/\QL (w.heap.size+1) wx v):=Dc A Y 7;clear A E;obtain⟨v9,x9,e9⟩:=d7.1;refine yO ?_;go_simp;exact X _ _ ⟨trivial,λ_=>trivial⟩ (yN _ _)
    .intro i hi hS o D a wx E ll A Y Z x1 X
     match i,hi,hS with
     |2,_,_=>exact fK (m:=64) D X E A Y Z ω
     |4,_,_=>exact fK (m:=99) D X E A Y Z ω
     |0,_,R|1,_,R|3,_,R|5,_,R|6,_,R|7,_,R|8,_,R|9,_,R|10,_,R=>cases R
    .intro o D a wx E ll A Y hD hW x1 X
     obtain rfl:=yP D;have e5:a.tmps[5]?.getD Θ=.pointer b5:=eg (No E 5);have d8:(True)/\(ll 10=false->QL (w.heap.size+1) wx (a.tmps[47]?.getD Θ)):=Dc A Y 8;clear A E;have q:=d8.2 Y.1;obtain⟨m9,i9,e9,c9,s9,l9,q9,P9,e0,ju,kt⟩:=q;unfold AN at e0;obtain⟨⟨⟨va,vn,vc,rfl⟩,⟨wa,wn,wc,rfl⟩,⟨xa,xn,xc,rfl⟩,⟨ya,yn,yc,rfl⟩⟩,⟨ta,tn,tc,rfl⟩,⟨ua,un,uc,rfl⟩,⟨za,zn,zc,rfl⟩⟩:=ju.Dq;have S9:=(H.draw hD hW).put ju kt;have B9:=(H.draw hD hW).yU;obtain⟨c0,c1,c2,c3,c4,c5,c6,c7,c8⟩:=AC B9;have fq:=AI B9;refine yO ?_;go_simp;exact X Θ _ ⟨_,_,_,_,_,_,_,P9,S9⟩
    .exact λ_ _ V h=>h.below V
    rotate_left
    .intro i hi v ww hF L hz
     match i,hi with
     |6,_|7,_=>exact(by obtain⟨v9,O,z⟩:=hz;exact⟨v9,O,z.past ω L⟩)
     |8,_=>exact(hz.past ω L)
     |9,_|0,_|1,_|2,_|3,_|4,_|5,_|10,_=>exact hz
    intro vs wx ll hR hA
    clear hR;simp only[DV,Bo,yL,yI,yJ,yH];simp
    try generalize vs 0=z0
    try generalize vs 1=z1
    try generalize vs 2=z2
    try generalize vs 3=z3
    try generalize vs 4=z4
    try generalize vs 5=z5
    try generalize vs 6=z6
    try generalize vs 7=z7
    try generalize vs 8=z8
    try generalize vs 9=z9
    try generalize vs 10=z10
    go_wp2;go_roundw;exact⟨j+1,ω,ξ,by rw[show N+4+2*(j+1)=N1+2 from ω];exact hA⟩;simp[intOf];omega
   obtain⟨c0,c1,c2,c3,c4,c5,c6,c7,c8⟩:=AC H.yU
   obtain⟨_,_,_,_,_,_,_,B9,_,_,a0,a1,a2,a3,R9⟩:=SK;have lN:b≠g:=ω;have pC:=AU R9;have ip:=(H.kp b (AU B9) lN ω).trans B9;have qj:=(H.kp w (AU R9) ω ω).trans R9;obtain⟨d0,d1,d2,d3⟩:=AG ip;have fd:=AI ip;have HR:=AA (J2.put (H.dr.mono (M:=N+20) ω) H.gr ip (H.sf.1.map (λ_ _ _ _ _ _ _ x=>Bb x (vS _))) H.good.k ad eD jf qj);clear B9 R9 ip qj H;go_wp2_with fail;go_meet;exact HR.u
  go_wp2_with fail
  go_meet;exact S4.mono ω
 case rest=>
 clear S4 x0 K;go_wp2_with fail;refine(hcut.pk ad jf 24 ω ψ ψ).mono ?_;rintro e w5 ⟨n,rfl,n0,n1,S5⟩;clear hcut;obtain⟨n,rfl⟩:=yd n0;have nR:n<24:=ω;clear n0 n1;go_wp2_with fail;go_loopw [10] (λi wr=>∃j:Nat,j<=n/\i=.int .i64 j/\J2 DZ J g (N+21+20*j) w b wr) (λi _=>n - (intOf i).toNat)
 exact⟨0,yt _,rfl,S5⟩
 clear S5;obtain⟨j,hj,rfl,m1,i1,e1,c1,k,hd,ou,hB,lV,hk,a0,a1,a2,a3,hR⟩:=hrel;obtain⟨⟨ma,mn,mc,rfl⟩,⟨ia,iN,ic,rfl⟩,⟨ea,en,ec,rfl⟩,⟨ca,cn,cc,rfl⟩⟩:=lV.Dq;obtain⟨c0,c1,c2,c3⟩:=AG hB;have bf:=AU hB;have pB:=jf
 by_cases jE:j<n
 .go_wp2_with fail
  obtain⟨N1,hN1⟩:∃M,M=N+21+20*j:=⟨_,rfl⟩
  rw[<-hN1] at hd;refine KB (s:=9) (U:=λix vv=>match ix with
   |3=>∃x:AT,vv=.agg x.cs/\MA x
   |4|5=>∃v,∃x y:Int,vv=.tuple #[v,x,y]
   |_=>True) 10 68 20 1 [3] [.a #[.slice ma mn mc,.slice ia iN ic,.slice ea en ec,.slice ca cn cc],.p g 0,.a #[.slice ma mn mc,.slice ia iN ic,.slice ea en ec,.slice ca cn cc],.z,.z,.z,.z,.z,.z,.u] (λix vv ww=>match ix with
   |4|5=>∃v,(∃x y:Int,vv=.tuple #[v,x,y])/\bo w ww v
   |6=>bo w ww vv
   |7|8=>True
   |_=>True) (λww=>J2 DZ J g (N1+20) w b ww) hd ?_ ?_ ?_ ?_ ?_ (hst:=?_)
  .intro i hi hS o D a wx E ll A Y hr x1 X
   match i,hi,hS with
   |0,_,_|2,_,_=>have hW:=hr φ;have bP:=gc hW bf ω c0;have bu:=gc hW bf ω c1;have bx:=gc hW bf ω c2;have bE:=gc hW bf ω c3;exact Lb D X E A Y (hl:=P7 ‹_› ‹_› ‹_› ‹_›)
   |1,_,_=>exact Xn D X E A Y
   |3,_,R|9,_,R=>cases R
   |4,_,_=>obtain rfl:=yP D;have d0:(a.tmps[59]?.getD Θ)=.agg #[.slice ma mn mc,.slice ia iN ic,.slice ea en ec,.slice ca cn cc]:=Dc A Y 0;have d3:(∃x:AT,(a.tmps[62]?.getD Θ)=.agg x.cs/\MA x)/\(ll 9=false->True):=Dc A Y 3;obtain⟨⟨cl,d3,j6⟩,_⟩:=d3;have u9:=Be Y 9;clear A E;have hW:=hr φ;have kz:=lV.map (Ge hW ad (yF _));have nL:=hW.size;refine yO ?_;go_simp;refine(MS kz.rd hk cl ⟨j6.2.1,j6.2.2.1⟩ (by have:=j6.1;unfold maxLen;omega) (by have:=j6.2.2.2;omega)).mono ?_;rintro e w_ ⟨m9,i9,e9,c9,rfl,hO,ei⟩;exact X _ _ ⟨⟨_,_,_,rfl⟩,λ_=>⟨_,⟨_,_,rfl⟩,m9,i9,e9,c9,_,rfl,hO.sf.map (λ_ _ _ _ _ _ _ x=>Bb x ω),Od hk ⟨j6.2.1,by have:=j6.2.2.1;omega⟩⟩⟩ ei
   |5,_,_=>obtain rfl:=yP D;have d4:(∃v,∃x y:Int,(a.tmps[63]?.getD Θ)=.tuple #[v,x,y])/\(ll 9=false->∃v,(∃x y:Int,(a.tmps[63]?.getD Θ)=.tuple #[v,x,y])/\bo w wx v):=Dc A Y 4;have u9:=Be Y 9;clear A E;have q:=d4.2 (Be Y 9);obtain⟨v9,⟨x9,y9,e9⟩,q⟩:=q;refine yO ?_;go_simp;exact X _ _ ⟨⟨_,_,_,rfl⟩,λ_=>⟨_,⟨_,_,rfl⟩,q⟩⟩ (yN _ _)
   |6,_,_=>obtain rfl:=yP D;have d5:(∃v,∃x y:Int,(a.tmps[58]?.getD Θ)=.tuple #[v,x,y])/\(ll 9=false->∃v,(∃x y:Int,(a.tmps[58]?.getD Θ)=.tuple #[v,x,y])/\bo w wx v):=Dc A Y 5;have u9:=Be Y 9;clear A E;have q:=d5.2 (Be Y 9);obtain⟨v9,⟨x9,y9,e9⟩,q⟩:=q;refine yO ?_;go_simp;exact X _ _ ⟨trivial,λ_=>q⟩ (yN _ _)
   |7,_,_=>obtain rfl:=yP D;have d5:(∃v,∃x y:Int,(a.tmps[58]?.getD Θ)=.tuple #[v,x,y])/\(ll 9=false->∃v,(∃x y:Int,(a.tmps[58]?.getD Θ)=.tuple #[v,x,y])/\bo w wx v):=Dc A Y 5;clear A E;obtain⟨v9,x9,y9,e9⟩:=d5.1;refine yO ?_;go_simp;exact X _ _ ⟨trivial,λ_=>trivial⟩ (yN _ _)
   |8,_,_=>obtain rfl:=yP D;have d5:(∃v,∃x y:Int,(a.tmps[58]?.getD Θ)=.tuple #[v,x,y])/\(ll 9=false->∃v,(∃x y:Int,(a.tmps[58]?.getD Θ)=.tuple #[v,x,y])/\bo w wx v):=Dc A Y 5;clear A E;obtain⟨v9,x9,y9,e9⟩:=d5.1;refine yO ?_;go_simp;exact X _ _ ⟨trivial,λ_=>trivial⟩ (yN _ _)
  .intro i hi hS o D a wx E ll A Y Z x1 X
   match i,hi,hS with
   |3,_,_=>exact fR (Pv:=λv _=>∃x:AT,v=.agg x.cs/\MA x) D X E A Y Z (λM hM hD hW=>QX (.slice ma mn mc) (.slice ia iN ic) (.slice ea en ec) (.slice ca cn cc) k.Zh hD ω (λw' L=>(lV.map (Ge (AO hW L) ad (yF _))).rd.2.1) (uw hk.len)) (hR:=λ_ _ h=>⟨h,trivial⟩)
   |0,_,R|1,_,R|2,_,R|4,_,R|5,_,R|6,_,R|7,_,R|8,_,R|9,_,R=>cases R
  .intro o D a wx E ll A Y hD hW x1 X
   obtain rfl:=yP D;have e3:a.tmps[3]?.getD Θ=.pointer b:=eg (No E 3);have d6:(True)/\(ll 9=false->bo w wx (a.tmps[64]?.getD Θ)):=Dc A Y 6;clear A E;have q:=d6.2 Y.1;obtain⟨m9,i9,e9,c9,k9,e0,ju,kt⟩:=q;obtain⟨⟨va,vn,vc,rfl⟩,⟨wa,wn,wc,rfl⟩,⟨xa,xn,xc,rfl⟩,⟨ya,yn,yc,rfl⟩⟩:=ju.Dq;have iQ:=(hW.block b bf η).trans hB;have v5:=(hW.block _ (AU hR) η).trans hR;obtain⟨c0,c1,c2,c3⟩:=AG iQ;have fq:=AI iQ;refine yO ?_;go_simp;exact X Θ _ (J2.put hD (AO ou hW) iQ ju kt ad eD pB v5)
  .exact λ_ _ V h=>h.below ad pB V
  rotate_left
  .intro i hi v ww hF L hz
   match i,hi with
   |4,_|5,_=>exact(by obtain⟨v9,O,z⟩:=hz;exact⟨v9,O,z.past ad L⟩)
   |6,_=>exact(hz.past ad L)
   |7,_|8,_|0,_|1,_|2,_|3,_|9,_=>exact hz
  intro vs wx ll hR hA
  clear hR;simp only[DV,Bo,yL,yI,yJ,yH];simp
  try generalize vs 0=z0
  try generalize vs 1=z1
  try generalize vs 2=z2
  try generalize vs 3=z3
  try generalize vs 4=z4
  try generalize vs 5=z5
  try generalize vs 6=z6
  try generalize vs 7=z7
  try generalize vs 8=z8
  try generalize vs 9=z9
  go_wp2;go_roundw;exact⟨j+1,ω,ξ,by rw[show N+21+20*(j+1)=N1+20 from ω];exact hA⟩;simp[intOf];omega
 obtain⟨d0,d1,d2,d3⟩:=AG hR
 have mG:=AI hR;obtain⟨BX,FX⟩:=fw (ok:=DZ) (M:=N+3000) hd ou lV hk ad eD hR ω;have BH:=AA BX;have FH:=AA FX;clear BX FX hB hd ou lV hR hk;go_wp2_with fail;exact yB (v:=.agg #[_,_,_,_]) (by simp[results,Tryz.results114,go_sem,AG BH.u]) rfl FH.u
end Go.Proofs.YtlcnbkkcplllhaaGreatDoor
