/-
  Packed:27 texts.
-/
import Derived.Test.YtaopbdankjkfpaaGreatDoorY1
import Derived.Test.YtaopbdankjkfpaaGreatDoorY4
import Derived.Test.YtaopbdankjkfpaaGreatDoorY3
import Derived.Test.YtaopbdankjkfpaaGreatDoorY2
import Derived.Deep.DeepCutAuto
import Derived.Deep.CutBlock
set_option linter.unusedVariables false
set_option linter.unusedSimpArgs false
set_option maxHeartbeats 16000000
set_option maxRecDepth 100000
open Go Go.Proofs.YtaopbdankjkfpaaGreatDoor
open And renaming intro->yk
open Bool renaming and_eq_true->yD,and_eq_true_iff->wj,true_and->wl
open Decidable renaming em->vW
open Go.IntWalk renaming i64_in->xM
open Go.Lib renaming toList_data->xC
open Go.Proofs.Tryz renaming results15->rS,results16->uC,results184->tT,results41->rT,results42->vM,results89->rU
open Go.Region renaming waitsFor->yl
open Go.RowKit.Below renaming refl->yO
open Go.Value renaming int->ym,oneCell'->xR,ownBlock->vL,slice->xB
open Go.Value.slice renaming injEq->xS
open Go.World renaming block_lt_of_cell?->yM,cell?_alloc_new->tx,cell?_of_block->wg,size_alloc->xK
open Go.World.ownsRow renaming cellAt->xx,frozenAt->xT,lt->yB,stored->wm
open Go renaming bodyPost_ret->yC,cell_of_row->yz,heap_alloc_new->yw,heap_setCell_other->tX,heap_setCell_same->yF
open Int renaming eq_ofNat_of_zero_le->xX,tmod_eq_emod_of_nonneg->wG,toNat_natCast->yq
open List renaming all_eq_true->yr,filter_cons->vS,foldl_cons->yK,foldl_nil->yI,getD_eq_getElem?_getD->yg,getElem?_eq_getElem->yH,getElem?_map->xz,getElem?_set_self->xJ,getElem?_take->uX,length_append->yA,length_filter_le->xL,length_set->yi,length_take->yt,mem_append->wM,mem_cons->xH,mem_of_getElem?->yx,mem_range->yj,not_mem_nil->wX,range->yN
open List.range renaming loop->yJ
open Nat renaming add_le_add_left->sJ,add_zero->xU,le_of_eq->vd,le_of_lt->tl,le_refl->yG,le_succ->wH,le_trans->yL,lt_of_lt_of_le->yv,min_eq_left->vP,mul_le_mul_left->wB,mul_le_mul_right->wL,mul_one->wR,not_lt_zero->xW,zero_le->yu
variable {cp j:Nat} {W:World} {u:Value}
namespace Go.Proofs.YtaopbdankjkfpaaGreatDoor
open Go.Proofs.Tryz
open Go.RowKit
section
variable {lo g:Nat} {w w':World} {m i e c s l q:Value} {P:AR}
theorem JR.kfar{p:Nat}{cu:Array Value}(h:JR lo g w m i e c s l q P)(hp:w.heap[p]?=some (.cells cu 28 (0,0)))(hg:w.grownBy w' (some p)):JR lo g w' m i e c s l q P:=
 ⟨Ap h.yV hg (Bt hp h.yV),h.yU,h.own.yW hg hp⟩
theorem JR.putSw{s':Value}{L:List Value}{S:List (List Int)}(h:JR lo g w m i e c s l q P)(h1:Az lo w s' L S)(ha:GD m s'):JR lo g (w.setCell ⟨g,4,none⟩ s') m i e c s' l q {P with swap:=S}:=by have gr:=Ak w g 4 s';have F:=h.own.yW gr h.yV;have B:=yF w g 4 _ 32 s' h.yV;exact⟨by simpa using B,h.yU,⟨F.ker,⟨L,h1.yW gr h.yV⟩,F.low,F.pgs,ha⟩⟩
theorem JR.putK{m' i' e' c':Value}{k:AN}(h:JR lo g w m i e c s l q P)(h1:Dh lo w m' i' e' c' k)(ha:GD m' s):JR lo g ((((w.setCell ⟨g,0,none⟩ m').setCell ⟨g,1,none⟩ i').setCell ⟨g,2,none⟩ e').setCell ⟨g,3,none⟩ c') m' i' e' c' s l q {P with Vw:=k}:=by have gr:=Aq w g m' i' e' c';have F:=h.own.yW gr h.yV;exact⟨Iv h.yV,h.yU,⟨h1.yW gr h.yV,F.swp,F.low,F.pgs,ha⟩⟩
end
def aQ(lo:Nat)(v:Value)(w:World)(S:List (List Int)):Prop:=∃L,Az lo w v L S
def Lf(lo:Nat)(v:Value)(w:World)(S:List (List Int))(x:Int):Prop:=∃u,v=.tuple #[u,.int .i64 x,.bool true]/\aQ lo u w S
theorem aQ.below{lo:Nat}{v:Value}{w w':World}{S:List (List Int)}(h:aQ lo v w S)(K:Below w.heap.size w w'):aQ lo v w' S:=by obtain⟨L,h⟩:=h;exact⟨L,h.below K⟩
theorem Lf.below{lo:Nat}{v:Value}{w w':World}{S:List (List Int)}{x:Int}(h:Lf lo v w S x)(K:Below w.heap.size w w'):Lf lo v w' S x:=by obtain⟨u,O,R⟩:=h;exact⟨u,O,R.below K⟩
def V4(lo:Nat)(w:World)(l q:Value)(Q:AR)(r:Ending)(w':World):Prop:=(∃m i e c s,r=.returned (AQ m i e c s l q Q.Il Q.UQ)/\Fh lo w' m i e c s l q Q)/\Below lo w w'/\FN w w'
theorem Wg{lo:Nat}{w:World}{mv iv ev cv sv lv qv:Value}{P:AR}(h:Fh lo w mv iv ev cv sv lv qv P)(ax:lo<=w.heap.size)(hP:Ec P){n:Nat}(hn:n<16)(hw:(AC P.Xx n).w=1):
 Calls prog 238 #[AQ mv iv ev cv sv lv qv P.Il P.UQ,.int .i64 n] w (V4 lo w lv qv (Ep P n)):=by
 have mq:=hP.zS hn hw;have oI:=(hP.zR hn hw).2.1;have fw:=hP.slot hn (by rw[hw];decide);obtain⟨f,hf⟩:∃f:Nat,(AC P.Xx n).a=(f:Int):=⟨(AC P.Xx n).a.toNat,by omega⟩
 obtain⟨sl,fx⟩:∃sl:Nat,Bo P.swap=(sl:Int):=⟨(Bo P.swap).toNat,by have:=fw.1;omega⟩
 have eH:sl<16:=by have:=fw.2.1;omega
 have iE:f<12:=by have:=mq.1;omega
 obtain⟨ta,ha⟩:∃a,a=n/4:=⟨_,rfl⟩
 obtain⟨tb,K⟩:∃b,b=n%4:=⟨_,rfl⟩
 have q1:(n:Int)/4=(ta:Int):=by omega
 have q2:(n:Int)%4=(tb:Int):=by omega
 have kL:ta<4:=by omega
 have kN:DP (Ae P.Vw (Ai 6 (Be P.low ta) (tb:Int) 0)).1:=II hP.k;have hQ:Ep P n= {P with Vw:=(Ae (Ae P.Vw (Ai 6 (Be P.low ta) (tb:Int) 0)).1 (Ai 2 (f:Int) 0 0)).1,swap:=P.swap.set sl (AH P.Vw.mem f),Xx:=P.Xx.set n ⟨2,(sl:Int),false⟩}:=by unfold Ep LH;rw[hf,fx,<-ha,<-K,yq,yq]
 rw[hQ];have CM:=λm i e c W (hR:Le W m i e c P.Vw)=>Fs hR hP.k 6 (Be P.low ta) (tb:Int) 0 (by decide)
 generalize Ae P.Vw (Ai 6 (Be P.low ta) (tb:Int) 0)=res1 at CM kN ⊢;obtain⟨dv,eK,n1⟩:=res1;dsimp only at CM kN ⊢;have C4:=λm i e c W (hR:Le W m i e c dv)=>Fs hR kN 2 (f:Int) 0 0 (by decide)
 generalize Ae dv (Ai 2 (f:Int) 0 0)=res2 at C4 ⊢;obtain⟨gd,gy,n2⟩:=res2;unfold Kq at CM C4;dsimp only at CM C4 ⊢;generalize(n1==0)=br1 at CM;replace CM:=AA CM;replace C4:=AA C4;unfold AQ V4 AQ;obtain⟨⟨_,⟨ia,iN,ic,rfl⟩,⟨ea,en,ec,rfl⟩,⟨ka,kn,kc,rfl⟩⟩,⟨sa,sn,sc,rfl⟩,_⟩:=h.Ex;obtain⟨gq,qc,e3,_,_,iw,jw,_⟩:=h.pgs.zX (by rw[hP.zZ];omega);rw[hP.zZ] at e3;obtain⟨lb,lc,e2,fO,DL⟩:=Kd h.low (j:=ta) (by rw[hP.zE];exact kL);rw[hP.zE] at e2;obtain⟨L,o1⟩:=h.ker.1;have hF:P.Vw.mem.length=12:=hP.meml;have ew:L.length=12:=by rw[o1.2.1.1];exact hF
 obtain⟨gm,cm,e1,kH,_,_,gJ,_⟩:=o1.1.zX (by omega);have mh:(AH P.Vw.mem f).length=4:=hP.rowl iE;obtain⟨gw,cw,hu,fb,_,_⟩:=o1.row (f:=f) (by omega) (by omega);have DR:=AO.zK FI (e1▸o1.1) hu 0 _ rfl;rw[ew] at e1;rw[mh] at hu fb DR;rw[wR,xU] at DR;subst e1 e2 e3;obtain⟨N0,N1,ar,bp⟩:=Ki w (.cells #[.slice (some ⟨gm,0,none⟩) 12 cm,.slice ia iN ic,.slice ea en ec,.slice ka kn kc,.slice sa sn sc,.slice (some ⟨lb,0,none⟩) 4 lc,.slice (some ⟨gq,0,none⟩) 16 qc,.int .i64 P.Il,.int .i64 P.UQ] 32) (.cells #[.slice none 0 0,.slice none 0 0,.slice none 0 0,.slice none 0 0,.slice none 0 0,.slice none 0 0,.slice none 0 0,.int .i64 0,.int .i64 0] 32);have bL:=(⟨N0,ax,h.below ar⟩:JR lo w.heap.size _ _ _ _ _ _ _ _ P);replace DR:=(ar.cell (p:=⟨gm,f,none⟩) gJ).trans DR;replace DL:=(ar.cell (p:=⟨lb,ta,none⟩) fO).trans DL;replace fO:=yv fO ar.size;replace gJ:=yv gJ ar.size;replace fb:=AG.below fb ar;have mw:=AG.rd fb;have mx:=bL.own.swp.choose_spec.rd;have my:=bL.own.ker.rd;have cx:Ff P.swap=true:=Gf.2 ⟨hP.zO,hP.zG⟩;have mf:D8 (AH P.Vw.mem f)=true:=(Ah.1 hP.k.mem).2 f iE;obtain⟨_,_,p1,_⟩:True/\True/\_/\True:=⟨trivial,trivial,(bL.pg (n:=n) (by rw[hP.zZ];exact hn)).2.2.2.1,trivial⟩;rw[hf] at p1;obtain⟨k0,k1,k2,k3,k4,k5,k6,_,_⟩:=bL.cells;have gv:=AA bp;have jh:=AA N1;have HI:=AA bL;have mU:=AA ax;have bO:=AA (ar.mono ax);have f6:=AA ((FN.refl w).below ar);have HP:=AA hP;have X:=AA hP.k;have lF:=AA my;replace DL:_=some (ym .i64 (Be P.low ta)):=DL;generalize Be P.low ta=la at*;have CS:=AA (λW (hW:Below _ _ W)=>UY (.slice sa sn sc) (.slice (some ⟨gw,0,none⟩) 4 cw) P.swap (AH P.Vw.mem f) W (mx.below hW) cx (mw.below hW) mf fx eH);have hE:(n:Int)<16:=by omega
 have mr:(f:Int)<12:=by omega
 have oR:(ta:Int)<4:=by omega
 have bu:=AA (yL ax ar.size);have gQ:=AA (show n<P.Xx.length by rw[hP.zZ];exact hn);have hV:=AA hP.zZ;clear h ax hP hw mq oI fw hf fx hQ bL N0 N1 ar bp o1 hu fb mh hF ew mw mx my cx mf kH ha K;go_in;go_wp2_with fail;generalize(w.alloc _).alloc _=W0 at*;generalize hg:w.heap.size=g at*;have Hg:=AA hg;have df:=AW HI.out.yV;clear hg;refine A5 15 64 [.p g 4,.v (.slice sa sn sc),.p g 0,.p g 0,.s gm 12 cm,.i ((f:Int)),.p gm f,.s gw 4 cw,.z,.z,.z,.i ((sl:Int)),.b true,.z,.i ((sl:Int))] (λix vv ww=>match ix with
  |8|9=>Lf W0.heap.size vv ww (P.swap.set sl (AH P.Vw.mem f)) (sl:Int)
  |10|13=>aQ W0.heap.size vv ww (P.swap.set sl (AH P.Vw.mem f))
  |_=>True) ?_ ?_ ?_
 .intro i hi o E a wx H A Z hb X
  have bx:=bc Z df k4;have bk:=bc Z df k0
  match i,hi with
  |0,_|2,_|3,_|5,_|14,_=>exact sP E X H A
  |1,_|4,_=>exact sL E X H A (hl:=GQ ‹_›)
  |6,_=>exact sI E X H A (hr:=by clear A H X;go_simp)
  |7,_=>exact sL E X H A (hl:=K9 (bc Z gJ DR))
  |8,_=>exact sC E X H A (CS.out _ Z) (by rintro r w_ ⟨⟨v',nk,rfl,hO⟩,eh⟩;exact⟨_,rfl,⟨v',rfl,nk,hO.lower Z.size⟩,eh⟩)
  |9,_=>clear bx bk;obtain rfl:=yQ E;have d8:Lf W0.heap.size (a.tmps[27]?.getD undef) wx (P.swap.set sl (AH P.Vw.mem f)) (sl:Int):=BY A 8;clear A H;refine yP ?_;go_simp;exact X.out _ _ d8 (yO _ _)
  |10,_=>clear bx bk;obtain rfl:=yQ E;have d9:Lf W0.heap.size (a.tmps[18]?.getD undef) wx (P.swap.set sl (AH P.Vw.mem f)) (sl:Int):=BY A 9;clear A H;obtain⟨v',d9,hO⟩:=d9;refine yP ?_;go_simp;exact X.out _ _ hO (yO _ _)
  |11,_|12,_=>clear bx bk;obtain rfl:=yQ E;have d9:Lf W0.heap.size (a.tmps[18]?.getD undef) wx (P.swap.set sl (AH P.Vw.mem f)) (sl:Int):=BY A 9;clear A H;obtain⟨v',d9,hO⟩:=d9;refine yP ?_;go_simp;exact X.out _ _ rfl (yO _ _)
  |13,_=>clear bx bk;obtain rfl:=yQ E;have iQ:aQ W0.heap.size (a.tmps[28]?.getD undef) wx (P.swap.set sl (AH P.Vw.mem f)):=BY A 10;clear A H;refine yP ?_;go_simp;exact X.out _ _ iQ (yO _ _)
  |_+15,hq=>omega
 .intro i hi vv wz fp dt hz
  match i,hi with
  |8,_|9,_=>exact(Lf.below hz dt)
  |10,_|13,_=>exact(aQ.below hz dt)
  |0,_|1,_|2,_|3,_|4,_|5,_|6,_|7,_|11,_|12,_|14,_=>exact hz
  |_+15,hq=>omega
 .intro L wx hR Z
  have lP:(L 12)=.bool true:=Bg hR 12;have ig:aQ W0.heap.size (L 13) wx (P.swap.set sl (AH P.Vw.mem f)):=Bg hR 13;have ga:(L 14)=.int .i64 sl:=Bg hR 14;clear hR;simp only[Aj,Ag,yN,yJ,yK,yI,lP,ga];simp;generalize L 13=nj at ig ⊢;clear lP ga;obtain⟨gZ,hO⟩:=ig;obtain⟨ua,un,uc,rfl⟩:∃a n c,nj=.slice a n c:=by obtain⟨_,_,rfl,_,_⟩:=hO.1.rd.shape;exact⟨_,_,_,rfl⟩
  obtain⟨W1,rfl⟩:∃W1,W1=wx:=⟨_,rfl⟩
  have HO:=AA hO;have eu:=AA (HI.out.below Z);have dl:=AA (bO.out.trans (Z.mono bu.out));have HN:=AA (AB jh.out Z);have HT:=AA (f6.out.below Z);have iA:=yv fO Z.size;replace DL:=(Z.cell (p:=⟨lb,ta,none⟩) fO).trans DL;have nc:=CM.out;clear CM;have CM:=AA (λW (hW:Below W1.heap.size W1 W)=>nc _ _ _ _ W ((lF.out.below Z).below hW));clear nc;have fO:=iA;have iZ:=AA Z.size;clear hO Z k0 k1 k2 k3 k4 k5 k6 p1 DR gJ iA CS;obtain⟨k0,k1,k2,k3,k4,k5,k6,_,_⟩:=eu.out.cells;have gK:=AW eu.out.yV;go_wp2_with fail;refine Dn 19 64 (λix=>ix==16) [.p g 0,.a #[.slice (some ⟨gm,0,none⟩) 12 cm,.slice ia iN ic,.slice ea en ec,.slice ka kn kc],.p g 5,.s lb 4 lc,.i ((n:Int)),.i ((ta:Int)),.p lb ta,.i la,.i ((n:Int)),.i ((tb:Int)),.z,.z,.z,.i eK,.b br1,.z,.z,.i eK,.b br1] (λll ix vv ww=>match ix with
   |10|11=>FB W1.heap.size vv ww dv eK br1
   |12=>IW W1.heap.size vv ww dv
   |15=>Mm W1.heap.size (ll 16) vv ww dv
   |_=>True) (λll ww=>Below W1.heap.size W1 ww) ?_ ?_ ?_ ?_ ?_ ?_
  .exact A0 (yO _ _) 1
  .intro j hj ll i vv wz fp hi hS iL mz dt hz
   match j,hj with
   |10,_|11,_=>exact(FB.below hz dt)
   |12,_=>exact(IW.below hz dt)
   |15,_=>exact(Mm.below (by rw[Fn (by rintro rfl;cases hS)];exact hz) dt)
   |0,_|1,_|2,_|3,_|4,_|5,_|6,_|7,_|8,_|9,_|13,_|14,_|16,_|17,_|18,_=>exact hz
   |_+19,hq=>omega
  .intro ll i wz fp hi hS iL dt hg
   exact hg.trans (dt.mono hg.size)
  .intro i hi hS o E a wx H ll A D Z hb X
   have bx:=bc Z gK k0;have bk:=bc Z gK k1;have bw:=bc Z gK k2;have bN:=bc Z gK k3;have bn:=bc Z gK k5;have cP:=bc Z fO DL
   match i,hi,hS with
   |0,_,_|2,_,_|4,_,_|8,_,_|17,_,_|18,_,_=>exact WP E X H A D
   |1,_,_=>exact LY E X H A D (hl:=PZ ‹_› ‹_› ‹_› ‹_›)
   |3,_,_=>exact LY E X H A D (hl:=K9 ‹_›)
   |7,_,_=>exact LY E X H A D (hl:=Fy ‹_›)
   |10,_,_=>exact db E X H A D (CM.out _ Z) (by rintro r w_ ⟨m',i',e',c',rfl,hO,eh⟩;exact⟨_,rfl,⟨m',i',e',c',rfl,hO.lower Z.size⟩,eh⟩)
   |16,_,V=>cases V
   |5,_,_=>clear bx bk bw bN bn cP;obtain rfl:=yQ E;have d4:(a.tmps[36]?.getD undef)=.int .i64 n:=Dc A D 4;have eo:=Bb D 16;clear A H;refine yP ?_;go_simp;exact X.out _ _ (by show ym .i64 (IntKind.i64.wrap (ta:Int))=.int .i64 ta;rw[xM _ (by omega)]) (yO _ _)
   |6,_,_=>clear bx bk bw bN bn cP;obtain rfl:=yQ E;have d3:(a.tmps[35]?.getD undef)=.slice (some ⟨lb,0,none⟩) 4 lc:=Dc A D 3;have d5:(a.tmps[37]?.getD undef)=.int .i64 ta:=Dc A D 5;have eo:=Bb D 16;clear A H;refine yP ?_;go_simp;exact X.out _ _ rfl (yO _ _)
   |9,_,_=>clear bx bk bw bN bn cP;obtain rfl:=yQ E;have d8:(a.tmps[40]?.getD undef)=.int .i64 n:=Dc A D 8;have eo:=Bb D 16;clear A H;refine yP ?_;go_simp;exact X.out _ _ (by show ym .i64 (Int.tmod (n:Int) 4)=.int .i64 tb;rw[wG (by omega)];exact congrArg _ q2) (yO _ _)
   |11,_,_=>clear bx bk bw bN bn cP;obtain rfl:=yQ E;have iQ:FB W1.heap.size (a.tmps[42]?.getD undef) wx dv eK br1:=Dc A D 10;have eo:=Bb D 16;clear A H;refine yP ?_;go_simp;exact X.out _ _ iQ (yO _ _)
   |12,_,_=>clear bx bk bw bN bn cP;obtain rfl:=yQ E;have f3:FB W1.heap.size (a.tmps[31]?.getD undef) wx dv eK br1:=Dc A D 11;have eo:=Bb D 16;clear A H;obtain⟨m',i',e',c',f3,hO⟩:=f3;refine yP ?_;go_simp;exact X.out _ _ ⟨_,_,_,_,rfl,hO⟩ (yO _ _)
   |13,_,_|14,_,_=>clear bx bk bw bN bn cP;obtain rfl:=yQ E;have f3:FB W1.heap.size (a.tmps[31]?.getD undef) wx dv eK br1:=Dc A D 11;clear A H;obtain⟨m',i',e',c',f3,hO⟩:=f3;refine yP ?_;go_simp;exact X.out _ _ rfl (yO _ _)
   |15,_,_=>clear bx bk bw bN bn cP;obtain rfl:=yQ E;have eo:=Bb D 16;clear A H;refine yP ?_;go_simp;exact X.out _ _ ⟨_,rfl,Z.size,by rw[Fn (by decide),eo];exact yw _ _⟩ (AJ _ _)
   |_+19,hq,_=>omega
  .intro i hi hS o E a wx H ll A D Z hb X
   match i,hi,hS with
   |0,_,V|1,_,V|2,_,V|3,_,V|4,_,V|5,_,V|6,_,V|7,_,V|8,_,V|9,_,V|10,_,V|11,_,V|12,_,V|13,_,V|14,_,V|15,_,V|17,_,V|18,_,V=>cases V
   |16,_,_=>
    obtain rfl:=yQ E;have o7:Mm W1.heap.size (ll 16) (a.tmps[9]?.getD undef) wx dv:=Dc A D 15;have eB:IW W1.heap.size (a.tmps[43]?.getD undef) wx dv:=Dc A D 12;clear A H;obtain⟨qb,o3,ju,cC⟩:=o7;rw[D.out.1] at cC;replace cC:wx.heap[qb]?=some (.cells #[.slice none 0 0,.slice none 0 0,.slice none 0 0,.slice none 0 0] 28 (0,0)):=cC;obtain⟨m',i',e',c',eB,hO⟩:=eB;obtain⟨⟨va,vn,vc,rfl⟩,⟨wa,wn,wc,rfl⟩,⟨xa,xn,xc,rfl⟩,⟨ya,yn,yc,rfl⟩⟩:=hO.Ex;obtain⟨c0,iW,c2,c3⟩:=AE cC;have fq:=AK cC;have az:=AA (Aq wx qb (.slice va vn vc) (.slice wa wn wc) (.slice xa xn xc) (.slice ya yn yc));have pG:=AA o3;have Hq:=AA cC;have HO:=AA hO;clear cC hO;refine yP ?_;go_simp;exact X.out undef _ trivial (AM Z az.out ju Z.size) (λj gI gj kA hu=>match j,gj with
     |0,_|1,_|2,_|3,_|4,_|5,_|6,_|7,_|8,_|9,_|13,_|14,_|16,_|17,_|18,_=>hu
     |10,_|11,_=>FB.yW hu az.out Hq.out
     |12,_=>IW.yW hu az.out Hq.out
     |15,_=>⟨qb,pG.out,ju,by rw[GR];exact⟨_,_,_,_,Cw Hq.out,HO.out.yW az.out Hq.out⟩⟩
     |_+19,hq=>absurd hq (by omega))
   |_+19,hq,_=>omega
  .intro L wx ll ei hR Z
   have ie:Mm W1.heap.size (ll 16) (L 15) wx dv:=Bg hR 15;clear hR;simp only[DQ,Bk,yN,yJ,yK,yI];simp;generalize L 15=z15 at ie ⊢;obtain⟨qb,rfl,ju,cC⟩:=ie;rw[ei 16 (by decide),if_pos rfl] at cC;obtain⟨m',i',e',c',eI,kM⟩:=cC;clear ei k0 k1 k2 k3 k4 k5 k6 DL;obtain⟨⟨va,vn,vc,rfl⟩,⟨wa,wn,wc,rfl⟩,⟨xa,xn,xc,rfl⟩,⟨ya,yn,yc,rfl⟩⟩:=kM.Ex;obtain⟨c0,iW,c2,c3⟩:=AE eI;have C4:=AA (C4.out _ _ _ _ _ kM.rd);have HG:=AA Z;have pp:=AA eI;clear Z eI kM;go_wp2_with fail;refine C4.out.mono ?_;rintro r w5 ⟨m2,i2,e2,qR,rfl,O2,b5⟩;obtain⟨⟨jo,jl,bw,rfl⟩,⟨j8,kg,j5,rfl⟩,⟨kY,kS,kV,rfl⟩,⟨j2,jW,jZ,rfl⟩⟩:=O2.Ex;clear C4 c0 iW c2 c3;have Q5:=AB pp.out b5;have fq:=AK Q5;obtain⟨z0,z1,z2,z3⟩:=AE Q5;have G6:=Aq w5 qb (.slice jo jl bw) (.slice j8 kg j5) (.slice kY kS kV) (.slice j2 jW jZ);have I6:=((eu.out.below HG.out).below b5).kfar Q5 G6;have N5:=AB (AB HN.out HG.out) b5;have N6:=Ap N5 G6 (Bt Q5 N5);have K6:=O2.yW G6 Q5;have S6:=((HO.out.below HG.out).below b5).yW G6 Q5;have l5:lo<=w5.heap.size:=yL bu.out (yL iZ.out (yL HG.out.size b5.size));have B6:=AM ((dl.out.trans (HG.out.mono (yL bu.out iZ.out))).trans (b5.mono (yL bu.out (yL iZ.out HG.out.size)))) G6 (by have:=bu.out;have:=iZ.out;omega) l5;have Q6:=Cw (m':=.slice jo jl bw) (i':=.slice j8 kg j5) (e':=.slice kY kS kV) (c':=.slice j2 jW jZ) Q5;have l6:=yL l5 G6.size;have T6:=((HT.out.below HG.out).below b5).other G6 Q5 (by decide);have mO:GD (.slice jo jl bw) (.slice ua un uc):=λj O R=>by obtain⟨us,r1⟩:=O2.1;have e1:=(yB r1.1 j O).1;have e2:=(yB HO.out.1 j R).2;have e3:=HG.out.size;omega
   have mN:GD (.slice (some ⟨gm,0,none⟩) 12 cm) (.slice ua un uc):=λj O R=>by obtain⟨us,r1⟩:=HI.out.own.ker.1;have e1:=(yB r1.1 j O).2;have e2:=(yB HO.out.1 j R).1;omega
   generalize hW6:(((w5.setCell _ _).setCell _ _).setCell _ _).setCell _ _=W6 at G6 I6 N6 K6 S6 B6 Q6 l6 T6;have I7:=I6.putSw (S6.lower bu.out) mN;have G7:=Ak W6 g 4 (.slice ua un uc);have K7:=K6.yW G7 I6.yV;have N7:=Ap N6 G7 (by omega);have Q7:=Ap Q6 G7 (Bt I6.yV Q6);have B7:=AM B6 G7 I6.yU l6;have l7:=yL l6 G7.size;have T7:=T6.fresh G7 (by have:=Hg.out;omega);obtain⟨_,_,_,_,a4,_⟩:=I6.cells;have fa:=AK I6.yV;generalize hW7:W6.setCell _ _=W7 at G7 I7 K7 N7 Q7 B7 l7 T7;have I8:=I7.putK (K7.lower (yL bu.out (yL iZ.out HG.out.size))) mO;have G8:=Aq W7 g (.slice jo jl bw) (.slice j8 kg j5) (.slice kY kS kV) (.slice j2 jW jZ);have N8:=Ap N7 G8 (by omega);have B8:=AM B7 G8 I7.yU l7;have l8:=yL l7 G8.size;have T8:=T7.fresh G8 (by have:=Hg.out;omega);obtain⟨d0,d1,d2,d3⟩:=AE Q7;obtain⟨t0,t1,t2,t3,_⟩:=I7.cells;have ft:=AK I7.yV;generalize hW8:(((W7.setCell _ _).setCell _ _).setCell _ _).setCell _ _=W8 at I8 G8 N8 B8 l8 T8;obtain⟨_,_,_,_,_,_,s6,_,_⟩:=I8.cells;obtain⟨kl,f8,p0,p1,p2⟩:=I8.pg (n:=n) gQ.out;have I9:=I8.zB (n:=n) hV.out.symm gQ.out ⟨2,(sl:Int),false⟩;have N9:=Ap N8 I9.2.1 (by obtain⟨cu,ey⟩:=A9 I8.own.pgs gq rfl;exact(Bt ey N8));have B9:=AM B8 I9.2.1 I9.2.2 l8;have l9:=yL l8 I9.2.1.size;obtain⟨lg,ex⟩:=A9 I8.own.pgs gq rfl;have T9:=T8.other I9.2.1 ex (by decide);have I9:=I9.1;generalize hW9:((W8.setCell _ _).setCell _ _).setCell _ _=W9 at I9 N9 B9 l9 T9;have lD:=AA T9;have ds:=AA (DK N9 I9.own);obtain⟨x0,z,x2,x3,x4,x5,x6,x7,x8⟩:=I9.cells;obtain⟨r0,r1,r2,r3,r4,r5,r6,r7,r8⟩:=AD N9;have fr:=AK N9;have lJ:=AA B9;have lx:=AA l9;clear T6 T7 T8 T9 I6 N5 N6 K6 S6 B6 Q6 l6 I7 K7 N7 Q7 B7 l7 I8 N8 B8 l8 I9 N9 B9 l9 mO mN O2 b5 Q5 G6 G7 G8 l5;go_wp2_with fail;obtain⟨hU,hT,eQ⟩:=ds.out;have fL:=AM lJ.out eQ (by have:=HI.out.yU;omega) lx.out;have hJ:=lD.out.fresh eQ (by have:=Hg.out;omega);unfold Fd at hU hT fL hJ;exact yC (v:=.agg #[_,_,_,_,_,_,_,_,_]) (by simp[results,Tryz.results238,go_sem,AD hU]) rfl ⟨⟨_,_,_,_,_,rfl,hT⟩,fL,hJ⟩
structure Vv(lo g qk:Nat)(w:World)(m i e c s l q:Value)(P:AR)(mk ik ek ck:Value)(kc:AN):Prop where
 box:w.heap[g]?=some (.cells #[m,i,e,c,s,l,q,.int .i64 P.Il,.int .i64 P.UQ] 32 (0,0))
 res:w.heap[g+1]?=some (.cells #[.slice none 0 0,.slice none 0 0,.slice none 0 0,.slice none 0 0,.slice none 0 0,.slice none 0 0,.slice none 0 0,.int .i64 0,.int .i64 0] 32 (0,0))
 kb:w.heap[qk]?=some (.cells #[mk,ik,ek,ck] 28 (0,0))
 own:Fh lo w mk ik ek ck s l q {P with Vw:=kc}
 yU:lo<=g/\lo<=qk/\lo<=w.heap.size
section
variable {lo g qk:Nat} {w w1:World} {m i e c s l q mk ik ek ck:Value} {P:AR} {kc:AN}
theorem Vv.below(h:Vv lo g qk w m i e c s l q P mk ik ek ck kc)(K:Below w.heap.size w w1):Vv lo g qk w1 m i e c s l q P mk ik ek ck kc:=
 ⟨AB h.box K,AB h.res K,AB h.kb K,h.own.below K,h.yU.1,h.yU.2.1,yL h.yU.2.2 K.size⟩
theorem Vv.put{m' i' e' c':Value}{k':AN}(h:Vv lo g qk w m i e c s l q P mk ik ek ck kc)(K:Below w.heap.size w w1)(h1:Dh w.heap.size w1 m' i' e' c' k'):Vv lo g qk (FV w1 qk m' i' e' c') m i e c s l q P m' i' e' c' k':=by
 have h':=h.below K;have gr:=Aq w1 qk m' i' e' c';have F:=h'.own.yW gr h'.kb;refine⟨Ap h'.box gr (Bt h'.kb h'.box),Ap h'.res gr (Bt h'.kb h'.res),Cw h'.kb,⟨(h1.yW gr h'.kb).lower h.yU.2.2,F.swp,F.low,F.pgs,λj O R=>?_⟩,h.yU.1,h.yU.2.1,yL h'.yU.2.2 gr.size⟩;obtain⟨us,r1⟩:=h1.1;obtain⟨L,r2⟩:=h.own.swp;have e1:=(yB r1.1 j O).1;have e2:=(yB r2.1 j R).2;omega
theorem Vv.swap{gs sl:Nat}{v':Value}{r:List Int}(h:Vv lo g qk w m i e c (.slice (some ⟨gs,0,none⟩) 16 cp) l q P mk ik ek ck kc)(hl:P.swap.length=16)(K:Below w.heap.size w w1)(hO:AG w.heap.size w1 v' r)(V:sl<16):
 Vv lo g qk (w1.setCell ⟨gs,sl,none⟩ v') m i e c (.slice (some ⟨gs,0,none⟩) 16 cp) l q {P with swap:=P.swap.set sl r} mk ik ek ck kc/\w1.grownBy (w1.setCell ⟨gs,sl,none⟩ v') (some gs)/\lo<=gs:=by
 obtain⟨L,cx⟩:=h.own.swp;replace cx:Az lo w (.slice (some ⟨gs,0,none⟩) 16 cp) L P.swap:=cx;have ew:L.length=16:=by rw[cx.2.1.1];exact hl
 have h2:=cx.set (B:=w.heap.size) (j:=sl) (r:=r) (v':=v') K hO (yG _) h.yU.2.2 ew.symm (by omega);have h':=h.below K;obtain⟨cu,ey⟩:=A9 (cx.below K).1 gs rfl;obtain⟨B,hglo,⟨⟨⟨ms,k1,k2,k3⟩,k4,⟨ps,k5,k6,k7⟩,k8⟩,⟨us,hs'⟩,hlw,hp,iJ⟩⟩:True/\lo<=g/\Fh lo w1 mk ik ek ck (.slice (some ⟨gs,0,none⟩) 16 cp) l q {P with Vw:=kc}:=⟨trivial,h'.yU.1,h'.own⟩;have hg:=h2.2;refine⟨⟨Ap h'.box hg (Bt ey h'.box),Ap h'.res hg (Bt ey h'.res),Ap h'.kb hg (Bt ey h'.kb),⟨⟨⟨ms,Aw k1 hg iJ.ne,k2.mono λ_ _ x=>Aw x hg (BJ x hs'.1 (by decide)).ne,k3⟩,Aw k4 hg (BJ k4 hs'.1 (by decide)).ne,⟨ps,Aw k5 hg (BJ k5 hs'.1 (by decide)).ne,k6.mono λ_ _ x=>⟨Aw x.1 hg (BJ x.1 hs'.1 (by decide)).ne,x.2⟩,k7⟩,Aw k8 hg (BJ k8 hs'.1 (by decide)).ne⟩,⟨_,h2.1⟩,Aw hlw hg (BJ hlw hs'.1 (by decide)).ne,Aw hp hg (BJ hp hs'.1 (by decide)).ne,iJ⟩,h.yU.1,h.yU.2.1,yL h'.yU.2.2 hg.size⟩,hg,(yB cx.1 gs rfl).1⟩
theorem Vv.back(h:Vv lo g qk w m i e c s l q P mk ik ek ck kc):JR lo g (FV w g mk ik ek ck) mk ik ek ck s l q {P with Vw:=kc}/\(FV w g mk ik ek ck).heap[g+1]?=some (.cells #[.slice none 0 0,.slice none 0 0,.slice none 0 0,.slice none 0 0,.slice none 0 0,.slice none 0 0,.slice none 0 0,.int .i64 0,.int .i64 0] 32 (0,0))/\w.grownBy (FV w g mk ik ek ck) (some g):=by have gr:=Aq w g mk ik ek ck;exact⟨⟨Iv h.box,h.yU.1,h.own.yW gr h.box⟩,Ap h.res gr (by omega),gr⟩
end
def Um(lo:Nat)(w:World)(s l q:Value)(Q:AR)(r:Ending)(w':World):Prop:=(∃m i e c,r=.returned (.tuple #[AQ m i e c s l q Q.Il Q.UQ,.bool true])/\Fh lo w' m i e c s l q Q)/\Below lo w w'/\FN w w'
theorem Ze{lo:Nat}{w:World}{m i e c s l q:Value}{Q Q':AR}(h:Q=Q')(h1:Fh lo W m i e c s l q Q')(B:Below lo w W)(T:FN w W):Um lo w s l q Q (.returned (.tuple #[AQ m i e c s l q Q'.Il Q'.UQ,.bool true])) W:=by subst h;exact⟨⟨_,_,_,_,rfl,h1⟩,B,T⟩
theorem YV{lo:Nat}{w:World}{mv iv ev cv sv lv qv:Value}{P:AR}(h:Fh lo w mv iv ev cv sv lv qv P)(ax:lo<=w.heap.size)(hP:Ec P){n:Nat}(hn:n<16)(hw:(AC P.Xx n).w≠1)(fD:0<=Ar P.Vw.Xy):
 Calls prog 239 #[AQ mv iv ev cv sv lv qv P.Il P.UQ,.int .i64 n] w (Um lo w sv lv qv (Pi P n).1):=by
 obtain⟨k1,fr,ee,jx,ml⟩:∃k1 fr,Ae P.Vw (Ai 1 0 0 0)=(k1,fr,0)/\(0<=fr/\fr<=11)/\DP k1:=by obtain⟨g1,_,_⟩:=GZ (Xy:=P.Vw.Xy) (by omega);rw[hP.k.len] at g1;have hk:=II (kind:=1) (a:=0) (b:=0) (c:=0) hP.k;have e:=Oj (k:=P.Vw) hP.may fD (a:=0) (b:=0) (c:=0);rw[e] at hk;exact⟨_,_,e,⟨fD,by omega⟩,hk⟩
 have mA:=Zc (n:=n) ee;generalize dy:(Pi P n).1=QQ_;obtain⟨ta,ha⟩:∃a,a=n/4:=⟨_,rfl⟩
 obtain⟨tb,K⟩:∃b,b=n%4:=⟨_,rfl⟩
 obtain⟨la,hla⟩:∃la,la=Be P.low ta:=⟨_,rfl⟩
 have q1:(n:Int)/4=(ta:Int):=by omega
 have q2:(n:Int)%4=(tb:Int):=by omega
 have kL:ta<4:=by omega
 have oR:(ta:Int)<4:=by omega
 have hE:(n:Int)<16:=by omega
 rw[mA] at dy;unfold LH at dy;rw[<-ha,<-K,<-hla] at dy;replace dy:=dy.symm;generalize hpx:AC P.Xx n=x at dy hw;obtain⟨pw,pa,pu⟩:=x;dsimp only at dy hw;unfold Um AQ;obtain⟨N0,N1,ar,bp⟩:=Ki w (.cells #[mv,iv,ev,cv,sv,lv,qv,.int .i64 P.Il,.int .i64 P.UQ] 32) (.cells #[.slice none 0 0,.slice none 0 0,.slice none 0 0,.slice none 0 0,.slice none 0 0,.slice none 0 0,.slice none 0 0,.int .i64 0,.int .i64 0] 32);have bL:=(⟨N0,ax,h.below ar⟩:JR lo w.heap.size _ mv iv ev cv sv lv qv P);obtain⟨⟨⟨ma,mn,mc,rfl⟩,⟨ia,iN,ic,rfl⟩,⟨ea,en,ec,rfl⟩,⟨ka,kn,kc,rfl⟩⟩,_,⟨il,ij,lc,rfl⟩,_⟩:=h.Ex;obtain⟨gZ,cx⟩:=h.swp;have ew:gZ.length=16:=by rw[cx.2.1.1];exact hP.zO
 obtain⟨gs,sc,e1,_,_,_,_,_⟩:=cx.1.zX (by omega);rw[ew] at e1;subst e1;obtain⟨gq,qc,rfl,hC,iw,jw,jP,_⟩:=bL.page (n:=0) (by rw[hP.zZ];omega);rw[hP.zZ] at h bL N0 N1 ar bp hC ⊢;have C1:=Fs bL.own.ker.rd hP.k 1 0 0 0 (by decide);unfold Kq at C1;rw[ee] at C1;dsimp only at C1;rw[show((0:Int)==0)=true from rfl] at C1;obtain⟨k0,nU,k2,k3,_⟩:=bL.cells;have gv:=AA bp;have jh:=AA N1;have HI:=AA bL;have mU:=AA ax;have bu:=AA (yL ax ar.size);have bO:=AA (ar.mono ax);have f6:=AA ((FN.refl w).below ar);have HP:=AA hP;have lz:=AA jx;have lI:=AA ml;have gQ:=AA (show n<P.Xx.length by rw[hP.zZ];exact hn);have hV:=AA hP.zZ;have jd:=AA hP.zE;have pt:=AA hla.symm;have jB:=AA hpx;have jE:=AA dy;have pF:=AA C1;clear h ax hP jx ml hla hpx dy bL N0 N1 ar bp cx ew C1 ee mA hC ha K fD;go_in;go_wp2_with fail;generalize(w.alloc _).alloc _=W0 at*;generalize hg:w.heap.size=g at*;have Hg:=AA hg;clear hg;refine pF.out.mono ?_;rintro r w1 ⟨m1,i1,e1,c1,rfl,O1,b1⟩;obtain⟨⟨jp,jm,bk,rfl⟩,⟨j9,kh,j6,rfl⟩,⟨kZ,kT,kW,rfl⟩,⟨j3,jX,j0,rfl⟩⟩:=O1.Ex;have I1:=HI.out.below b1;have bA:=AJ w1 (.cells #[.slice jp jm bk,.slice j9 kh j6,.slice kZ kT kW,.slice j3 jX j0] 28);have I2:=I1.below bA;obtain⟨_,_,_,_,_,_,x6,_,_⟩:=I2.cells;obtain⟨cC,f2,p0,p1,p2⟩:=I2.pg (n:=n) gQ.out;rw[jB.out] at p0 p1 p2;dsimp only at p0 p1 p2;obtain⟨NA,NB,lm,_⟩:=Ki w1 (.cells #[.slice jp jm bk,.slice j9 kh j6,.slice kZ kT kW,.slice j3 jX j0] 28) (.cells #[.int .i64 pw,.int .i64 pa,.bool pu] 74);have f9:=b1.trans (lm.mono b1.size);have iJ:GD (.slice jp jm bk) (.slice (some ⟨gs,0,none⟩) 16 sc):=λj O R=>by obtain⟨us,r1⟩:=O1.1;obtain⟨L,r2⟩:=HI.out.own.swp;have e1:=(yB r1.1 j O).1;have e2:=(yB r2.1 j R).2;omega
 have I4:=AA (⟨AB HI.out.yV f9,AB jh.out f9,NA,⟨(O1.below lm).lower bu.out,⟨_,HI.out.own.swp.choose_spec.below f9⟩,AG.below HI.out.own.low f9,AO.below HI.out.own.pgs f9,iJ⟩,HI.out.yU,yL bu.out b1.size,yL bu.out f9.size⟩:Vv lo g w1.heap.size _ _ _ _ _ _ _ _ P _ _ _ _ k1);have gW:=AA (bO.out.trans (f9.mono bu.out));have jC:=AA (f6.out.below f9);have jF:=AA NB;clear I1 bA I2 NA NB lm f9 iJ O1 b1 k0 nU k2 k3;go_wp2_with fail;generalize(w1.alloc _).alloc _=W3 at*;generalize w1.heap.size=qk at*;obtain⟨qx,jt⟩:∃qx,qx=qk+1:=⟨_,rfl⟩
 rw[<-jt] at jF ⊢;clear jt x6 p0 p1 p2 f2 cC;obtain⟨mk,ik,ek,ck,I4⟩:∃mk ik ek ck,Hid (Vv lo g qk W3 (.slice ma mn mc) (.slice ia iN ic) (.slice ea en ec) (.slice ka kn kc) (.slice (some ⟨gs,0,none⟩) 16 sc) (.slice il ij lc) (.slice (some ⟨gq,0,none⟩) 16 qc) P mk ik ek ck k1):=⟨_,_,_,_,I4⟩
 by_cases fe:pw=2
 focus
  subst fe;have dy:=jE.out;rw[if_pos rfl,if_pos rfl] at dy;obtain⟨sl,fx,eH,b9⟩:∃sl:Nat,pa=(sl:Int)/\sl<16/\D8 (AH P.swap sl)=true:=by
   rcases HP.out.Xx n (by have:=gQ.out;have:=hV.out;omega) with⟨x,_⟩|⟨x,_⟩|⟨z,x2,x3,x4,x5⟩
   .rw[jB.out] at x;exact absurd x (show ¬(2:Int)=0 by decide)
   .rw[jB.out] at x;exact absurd x (show ¬(2:Int)=1 by decide)
   .rw[jB.out] at x2 x3
    refine⟨pa.toNat,by have:=x2.1;simp only at this;omega,by have:=x2.2;simp only at this;omega,?_⟩
    rcases HP.out.zG pa.toNat (by have:=x2.2;simp only at this;omega) with x|x
    .exact absurd x x3
    .exact x
  subst fx;rw[yq] at dy;have HQ:=AA dy;have eR:=AA (A6.1 b9);have oh:(sl:Int)<16:=by omega
  clear dy jE b9;go_loopw [10] (λix wr=>∃j:Nat,j<=4/\ix=.int .i64 j/\(∃mk ik ek ck,Vv lo g qk wr (.slice ma mn mc) (.slice ia iN ic) (.slice ea en ec) (.slice ka kn kc) (.slice (some ⟨gs,0,none⟩) 16 sc) (.slice il ij lc) (.slice (some ⟨gq,0,none⟩) 16 qc) P mk ik ek ck (Jb k1 fr (AH P.swap sl) j))/\wr.heap[qx]?=some (.cells #[.int .i64 2,.int .i64 sl,.bool pu] 74 (0,0))/\Below lo w wr/\FN w wr) (λix _=>4 - (intOf ix).toNat)
  case atStart=>exact⟨0,by omega,rfl,⟨_,_,_,_,I4.out⟩,jF.out,gW.out,jC.out⟩
  case' round=>
   clear I4 jF gW jC;obtain⟨j,hj,rfl,⟨mk,ik,ek,ck,I5⟩,g7,B5,T5⟩:=hrel;obtain⟨⟨⟨ua,un,uc,rfl⟩,⟨va,vn,vc,rfl⟩,⟨ya,yn,yc,rfl⟩,⟨za,zn,zc,rfl⟩⟩,_,_⟩:=I5.own.Ex;obtain⟨gZ,cx⟩:=I5.own.swp;replace cx:Az lo wr (.slice (some ⟨gs,0,none⟩) 16 sc) gZ P.swap:=cx;have ew:gZ.length=16:=by rw[cx.2.1.1];exact HP.out.zO
   obtain⟨gr,rc,hu,fb,_,_⟩:=cx.row (f:=sl) (by rw[HP.out.zO];exact eH) (by rw[eR.out.1];decide);rw[eR.out.1] at hu fb;have DS:=AO.zK FI (by rw[ew];exact cx.1) hu 0 _ rfl;rw[wR,xU] at DS;obtain⟨_,_,_,_,x4,_⟩:=AD I5.box;obtain⟨jk,jN,_⟩:=GX g7;have ji:=AA I5;have ls:=AA g7;have dz:=AA B5;have mW:=AA T5;clear T5
   by_cases ac:j<4
   .have gI:(j:Int)<4:=by omega
    have DW:wr.cell? ⟨gr,j,none⟩=some (.int .i64 ((AH P.swap sl).getD j 0)):=by have:=xx (show wr.ownsRow lo 3 1 (.slice (some ⟨gr,0,none⟩) 4 rc) 4 ((AH P.swap sl).map (ym .i64)) by have:=fb;unfold AG at this;rwa [eR.out.1] at this) j ac;rw[this,xz,BD (d:=0) (by rw[eR.out.1];exact ac)];rfl
    have lY:(AH P.swap sl).getD j 0<=9223372036854775807:=by have:=(eR.out.2 _ (Di (d:=0) (show j<(AH P.swap sl).length by rw[eR.out.1];exact ac))).2;omega
    have lw:=AA (Nm (k:=k1) (f:=fr) (ws:=AH P.swap sl) (j:=j));have RK:=I5.own.ker.rd;have CM:=λW (hW:Below wr.heap.size wr W)=>Fs (RK.below hW) (Qs lI.out (f:=fr) (ws:=AH P.swap sl) j) 3 fr (j:Int) ((AH P.swap sl).getD j 0) lY
    have ng:g≠qk:=Bt I5.box I5.kb;have nx:qx≠qk:=Bt g7 I5.kb;have ns:gs≠qk:=by obtain⟨cu,ey⟩:=A9 cx.1 gs rfl;exact Bt ey I5.kb
    have nr:gr≠qk:=by obtain⟨cu,ey⟩:=A9 fb gr rfl;exact Bt ey I5.kb
    have kF:=AW I5.box;have jt:=AW g7;have kD:=(yB cx.1 gs rfl).2;have kE:=(yB fb gr rfl).2;have eI:=I5.kb;have ff:=AW eI;obtain⟨n0,n1,n2,n3⟩:=AE eI;generalize(AH P.swap sl).getD j 0=wd at*;generalize Ae (Jb k1 fr (AH P.swap sl) j) (Ai 3 fr (j:Int) wd)=res1 at CM lw;obtain⟨dv,eK,nL⟩:=res1;unfold Kq at CM;dsimp only at CM lw;generalize(nL==0)=br1 at CM;replace CM:=AA CM;clear RK lY cx hu fb ew I5 g7 B5 hj;go_wp2_with fail;refine Dn 18 86 (λix=>ix==17) [.a #[.slice ua un uc,.slice va vn vc,.slice ya yn yc,.slice za zn zc],.i fr,.i ((j:Int)),.p g 4,.s gs 16 sc,.p qx 1,.i ((sl:Int)),.p gs sl,.s gr 4 rc,.i ((j:Int)),.p gr j,.i wd,.z,.z,.z,.i eK,.b br1,.z] (λll ix vv ww=>match ix with
     |12|13=>FB wr.heap.size vv ww dv eK br1
     |14=>IW wr.heap.size vv ww dv
     |_=>True) (λll ww=>GB wr (qk) dv (ll 17) ww) ?_ ?_ ?_ ?_ ?_ ?_
    .exact A0 (yO _ _) 1
    .intro j hj ll i vv wz fp hi hS iL mz dt hz
     match j,hj with
     |12,_|13,_=>exact(FB.below hz dt)
     |14,_=>exact(IW.below hz dt)
     |0,_|1,_|2,_|3,_|4,_|5,_|6,_|7,_|8,_|9,_|10,_|11,_|15,_|16,_|17,_=>exact hz
     |_+18,hq=>omega
    .intro ll i wz fp hi hS iL dt hg
     show GB _ _ _ (Gn ll i 17) _
     rw[Fn (by rintro rfl;cases hS)];exact GB.grow hg dt
    .intro i hi hS o E a wx H ll A D Z hb X
     match i,hi,hS with
     |0,_,_=>have fP:=Bb D 17;have bx:=(show wx.cell? ⟨qk,0,none⟩=some (.slice ua un uc) from GB.cell Z (by cases hx:ll 17 with|false=>rfl|true=>exact absurd (D.out.2.2 12 0 (D.out.2.2 13 12 (D.out.2.2 14 13 (D.out.2.2 17 14 (hx) (by kernel_rfl)) (by kernel_rfl)) (by kernel_rfl)) (by kernel_rfl)) (by rw[D.out.1];decide)) ff n0);have bk:=(show wx.cell? ⟨qk,1,none⟩=some (.slice va vn vc) from GB.cell Z (by cases hx:ll 17 with|false=>rfl|true=>exact absurd (D.out.2.2 12 0 (D.out.2.2 13 12 (D.out.2.2 14 13 (D.out.2.2 17 14 (hx) (by kernel_rfl)) (by kernel_rfl)) (by kernel_rfl)) (by kernel_rfl)) (by rw[D.out.1];decide)) ff n1);have bw:=(show wx.cell? ⟨qk,2,none⟩=some (.slice ya yn yc) from GB.cell Z (by cases hx:ll 17 with|false=>rfl|true=>exact absurd (D.out.2.2 12 0 (D.out.2.2 13 12 (D.out.2.2 14 13 (D.out.2.2 17 14 (hx) (by kernel_rfl)) (by kernel_rfl)) (by kernel_rfl)) (by kernel_rfl)) (by rw[D.out.1];decide)) ff n2);have bN:=(show wx.cell? ⟨qk,3,none⟩=some (.slice za zn zc) from GB.cell Z (by cases hx:ll 17 with|false=>rfl|true=>exact absurd (D.out.2.2 12 0 (D.out.2.2 13 12 (D.out.2.2 14 13 (D.out.2.2 17 14 (hx) (by kernel_rfl)) (by kernel_rfl)) (by kernel_rfl)) (by kernel_rfl)) (by rw[D.out.1];decide)) ff n3);exact LY E X H A D (hl:=PZ ‹_› ‹_› ‹_› ‹_›)
     |1,_,_|2,_,_|3,_,_|5,_,_|9,_,_=>exact WP E X H A D
     |4,_,_=>have fP:=Bb D 17;have bn:=(show wx.cell? ⟨g,4,none⟩=some (.slice (some ⟨gs,0,none⟩) 16 sc) from GB.other Z kF ng x4);exact LY E X H A D (hl:=GQ ‹_›)
     |6,_,_=>have fP:=Bb D 17;have cP:=(show wx.cell? ⟨qx,1,none⟩=some (.int .i64 sl) from GB.other Z jt nx jN);exact LY E X H A D (hl:=Fy ‹_›)
     |8,_,_=>have fP:=Bb D 17;have gb:=(show wx.cell? ⟨gs,sl,none⟩=some (.slice (some ⟨gr,0,none⟩) 4 rc) from GB.other Z kD ns DS);exact LY E X H A D (hl:=K9 ‹_›)
     |11,_,_=>have fP:=Bb D 17;have g0:=(show wx.cell? ⟨gr,j,none⟩=some (.int .i64 wd) from GB.other Z kE nr DW);exact LY E X H A D (hl:=Fy ‹_›)
     |17,_,V=>cases V
     |7,_,_=>obtain rfl:=yQ E;have d4:(a.tmps[40]?.getD undef)=.slice (some ⟨gs,0,none⟩) 16 sc:=Dc A D 4;have d6:(a.tmps[42]?.getD undef)=.int .i64 sl:=Dc A D 6;have fP:=Bb D 17;clear A H;refine yP ?_;go_simp;exact X.out _ _ rfl (yO _ _)
     |10,_,_=>obtain rfl:=yQ E;have d8:(a.tmps[44]?.getD undef)=.slice (some ⟨gr,0,none⟩) 4 rc:=Dc A D 8;have d9:(a.tmps[45]?.getD undef)=.int .i64 j:=Dc A D 9;have fP:=Bb D 17;clear A H;refine yP ?_;go_simp;exact X.out _ _ rfl (yO _ _)
     |12,_,_=>
      obtain rfl:=yQ E;have d0:(a.tmps[36]?.getD undef)=.agg #[.slice ua un uc,.slice va vn vc,.slice ya yn yc,.slice za zn zc]:=Dc A D 0;have d1:(a.tmps[37]?.getD undef)=.int .i64 fr:=Dc A D 1;have d2:(a.tmps[38]?.getD undef)=.int .i64 j:=Dc A D 2;have f3:(a.tmps[47]?.getD undef)=.int .i64 wd:=Dc A D 11;have fP:=Bb D 17;clear A H;refine yP ?_;go_simp;have iM:Below wr.heap.size wr wx:=by
       rw[show ll 17=false from(by cases hx:ll 17 with|false=>rfl|true=>exact absurd (D.out.2.2 13 12 (D.out.2.2 14 13 (D.out.2.2 17 14 (hx) (by kernel_rfl)) (by kernel_rfl)) (by kernel_rfl)) (by rw[D.out.1];decide))] at Z;exact Z
      refine(CM.out _ iM).mono ?_;rintro r w_ ⟨m',i',e',c',rfl,hO,eh⟩;exact X.out _ _ ⟨m',i',e',c',rfl,hO.lower iM.size⟩ eh
     |13,_,_=>obtain rfl:=yQ E;have eB:FB wr.heap.size (a.tmps[48]?.getD undef) wx dv eK br1:=Dc A D 12;have fP:=Bb D 17;clear A H;refine yP ?_;go_simp;exact X.out _ _ eB (yO _ _)
     |14,_,_=>obtain rfl:=yQ E;have gt:FB wr.heap.size (a.tmps[35]?.getD undef) wx dv eK br1:=Dc A D 13;have fP:=Bb D 17;clear A H;obtain⟨m',i',e',c',gt,hO⟩:=gt;refine yP ?_;go_simp;exact X.out _ _ ⟨_,_,_,_,rfl,hO⟩ (yO _ _)
     |15,_,_|16,_,_=>obtain rfl:=yQ E;have gt:FB wr.heap.size (a.tmps[35]?.getD undef) wx dv eK br1:=Dc A D 13;clear A H;obtain⟨m',i',e',c',gt,hO⟩:=gt;refine yP ?_;go_simp;exact X.out _ _ rfl (yO _ _)
     |_+18,hq,_=>omega
    .intro i hi hS o E a wx H ll A D Z hb X
     match i,hi,hS with
     |0,_,V|1,_,V|2,_,V|3,_,V|4,_,V|5,_,V|6,_,V|7,_,V|8,_,V|9,_,V|10,_,V|11,_,V|12,_,V|13,_,V|14,_,V|15,_,V|16,_,V=>cases V
     |17,_,_=>
      obtain rfl:=yQ E;have e6:a.tmps[6]?.getD undef=.pointer (some ⟨qk,0,none⟩):=eg (PV H 6);have hH:IW wr.heap.size (a.tmps[49]?.getD undef) wx dv:=Dc A D 14;clear A H;rw[D.out.1] at Z;replace Z:Below wr.heap.size wr wx:=Z;obtain⟨m',i',e',c',hH,hO⟩:=hH;obtain⟨⟨va,vn,vc,rfl⟩,⟨wa,wn,wc,rfl⟩,⟨xa,xn,xc,rfl⟩,⟨ya,yn,yc,rfl⟩⟩:=hO.Ex;have cC:=AB eI Z;obtain⟨c0,iW,c2,c3⟩:=AE cC;have fq:=AK cC;have az:=AA (Aq wx (qk) (.slice va vn vc) (.slice wa wn wc) (.slice xa xn xc) (.slice ya yn yc));have Hq:=AA cC;have HO:=AA hO;clear cC hO;refine yP ?_;go_simp;exact X.out undef _ trivial (by show GB _ _ _ (Gn ll 17 17) _;rw[GR];exact⟨wx,_,_,_,_,Z,HO.out,yO _ _⟩) (λj gI gj kA hu=>match j,gj with
       |0,_|1,_|2,_|3,_|4,_|5,_|6,_|7,_|8,_|9,_|10,_|11,_|15,_|16,_=>hu
       |12,_|13,_=>FB.yW hu az.out Hq.out
       |14,_=>IW.yW hu az.out Hq.out
       |17,_=>absurd rfl gI
       |_+18,hq=>absurd hq (by omega))
     |_+18,hq,_=>omega
    .intro L wx ll ei hR Z
     have ie:(L 15)=.int .i64 eK:=Bg hR 15;clear hR;simp only[DQ,Bk,yN,yJ,yK,yI,ie];simp;clear ie;rw[ei 17 (by decide)] at Z;obtain⟨wz,m3,i3,e3,c3,dw,hO,gf⟩:=Z;have dp:Below (FV wz qk m3 i3 e3 c3).heap.size (FV wz qk m3 i3 e3 c3) wx:=by simpa[FV] using gf
     have I7:=AA ((ji.out.put dw hO).below dp);have l6:=ji.out.yU.2.2;have B7:=AA (dz.out.trans ((AM (dw.mono l6) (Aq wz qk m3 i3 e3 c3) ji.out.yU.2.1 (yL l6 dw.size):Below lo wr _).trans (dp.mono (yL l6 (yL dw.size (Aq wz qk m3 i3 e3 c3).size)))));have X7:=AA (AB (Ap (AB ls.out dw) (Aq wz qk m3 i3 e3 c3) nx.symm) dp);have T7:=AA (((mW.out.below dw).other (Aq wz qk m3 i3 e3 c3) (AB eI dw) (by decide)).below dp);clear ei dw gf dp hO eI ff n0 n1 n2 n3 CM ji ls dz x4 jk jN DS DW;go_wp2_with fail;go_roundw;exact⟨j+1,by omega,by go_num,⟨_,_,_,_,by rw[lw.out];exact I7.out⟩,X7.out,B7.out,T7.out⟩;simp[intOf];omega
   obtain rfl:j=4:=by omega
   rw[show((4:Nat):Int)=4 from rfl];have HK:=I5.swap (r:=[]) HP.out.zO (AJ wr (.cells #[] 3)) (FU wr) eH;have I6:=AA HK.1;have B6:=AA (AM (B5.trans ((AJ wr (.cells #[] 3)).mono I5.yU.2.2)) HK.2.1 HK.2.2 (yL I5.yU.2.2 (AJ wr (.cells #[] 3)).size));have m7:=AA (Qs lI.out (f:=fr) (ws:=AH P.swap sl) 4);have D4:=((AJ wr (.cells #[] 3)).cell (yM _ _ DS)).trans DS;have F4:=xT (show(wr.alloc (.cells #[] 3)).ownsRow lo 29 1 (.slice (some ⟨gs,0,none⟩) 16 sc) 16 gZ by have:=(cx.below (AJ wr (.cells #[] 3))).1;unfold AO at this;rwa [Jr,ew] at this) sl;obtain⟨lg,ex⟩:=A9 (cx.below (AJ wr (.cells #[] 3))).1 gs rfl;have T6:=AA ((mW.out.below (AJ wr (.cells #[] 3))).other HK.2.1 ex (by decide));generalize hW6:World.setCell _ _ _=W6 at I6 B6 T6;clear HK cx hu fb ew I5 g7 B5 hj ji ls dz;go_wp2_with fail;clear D4 F4 DS x4 jk jN hW6;have hQ:QQ_= {P with Vw:=(Ae (Jb k1 fr (AH P.swap sl) 4) (Ai 6 la (tb:Int) (Iy fr))).1,swap:=P.swap.set sl [],Xx:=P.Xx.set n ⟨1,fr,true⟩}:=HQ.out;clear HQ;obtain⟨mk,ik,ek,ck,I6⟩:∃mk ik ek ck,Hid (Vv lo g qk W6 (.slice ma mn mc) (.slice ia iN ic) (.slice ea en ec) (.slice ka kn kc) (.slice (some ⟨gs,0,none⟩) 16 sc) (.slice il ij lc) (.slice (some ⟨gq,0,none⟩) 16 qc) ⟨P.Vw,P.swap.set sl [],P.low,P.Xx,P.Il,P.UQ⟩ mk ik ek ck (Jb k1 fr (AH P.swap sl) 4)):=⟨_,_,_,_,I6⟩
   generalize Jb k1 fr (AH P.swap sl) 4=K2 at*;generalize P.swap.set sl []=S2 at*
 rotate_left
 focus
  have dy:=jE.out;rw[if_neg fe,if_neg fe] at dy;have t2:(pw==2)=false:=by simp[fe]
  have HQ:=AA dy;have m7:=lI;have I6:=I4;have B6:=gW;have T6:=jC;obtain⟨jk,_,_⟩:=GX jF.out;clear dy jE fe I4 gW jC;refine wp_loop_rounds 1 ?_;rw[rounds_succ];go_wp2_with fail;obtain⟨W6,rfl⟩:∃W6,W6=W3:=⟨_,rfl⟩
  clear jk;have hQ:QQ_= {P with Vw:=(Ae (k1) (Ai 6 la (tb:Int) (Iy fr))).1,swap:=P.swap,Xx:=P.Xx.set n ⟨1,fr,true⟩}:=HQ.out;clear HQ;obtain⟨mk,ik,ek,ck,I6⟩:∃mk ik ek ck,Hid (Vv lo g qk W6 (.slice ma mn mc) (.slice ia iN ic) (.slice ea en ec) (.slice ka kn kc) (.slice (some ⟨gs,0,none⟩) 16 sc) (.slice il ij lc) (.slice (some ⟨gq,0,none⟩) 16 qc) ⟨P.Vw,P.swap,P.low,P.Xx,P.Il,P.UQ⟩ mk ik ek ck (k1)):=⟨_,_,_,_,I6⟩
  obtain⟨K2,rfl⟩:∃K2,K2=k1:=⟨_,rfl⟩
  generalize P.swap=S2 at hQ I6
 all_goals
  obtain⟨⟨⟨ua,un,uc,rfl⟩,⟨va,vn,vc,rfl⟩,⟨ya,yn,yc,rfl⟩,⟨za,zn,zc,rfl⟩⟩,_,_⟩:=I6.out.own.Ex;obtain⟨lb,jq,iO,fO,DL⟩:=Kd I6.out.own.low (j:=ta) (by show ta<P.low.length;rw[jd.out];exact kL);replace iO:xB il ij lc=.slice (some ⟨lb,0,none⟩) P.low.length jq:=iO;rw[jd.out] at iO;simp only[xS] at iO;obtain⟨rfl,rfl,rfl⟩:=iO;replace DL:W6.cell? ⟨lb,ta,none⟩=some (.int .i64 (Be P.low ta)):=DL;rw[pt.out] at DL;have nl:lb≠qk:=by obtain⟨cu,ey⟩:=A9 I6.out.own.low lb rfl;exact Bt ey I6.out.kb
  have ng:g≠qk:=Bt I6.out.box I6.out.kb;have kF:=AW I6.out.box;have eI:=I6.out.kb;have ff:=AW eI;obtain⟨n0,n1,n2,n3⟩:=AE eI;obtain⟨_,_,_,_,_,x5,_,_,_⟩:=AD I6.out.box;have he:Iy fr<=9223372036854775807:=by have:=lz.out;unfold Iy;omega
  have CP:=AA (λW=>MP fr W lz.out.1 lz.out.2);have RK:Le W6 _ _ _ _ (K2):=I6.out.own.ker.rd;have CM:=λW (hW:Below W6.heap.size W6 W)=>Fs (RK.below hW) m7.out 6 la (tb:Int) (Iy fr) he
  generalize Iy fr=en_ at he CP CM hQ;generalize Ae (K2) (Ai 6 la (tb:Int) en_)=res2 at CM hQ;obtain⟨gd,gy,nK⟩:=res2;unfold Kq at CM;dsimp only at CM hQ;have HQ:=AA hQ;clear hQ;generalize(nK==0)=br2 at CM;replace CM:=AA CM;clear RK he;go_wp2_with fail;refine Dn 17 86 (λix=>ix==16) [.a #[.slice ua un uc,.slice va vn vc,.slice ya yn yc,.slice za zn zc],.p g 5,.s lb 4 lc,.i ((n:Int)),.i ((ta:Int)),.p lb ta,.i la,.i ((n:Int)),.i ((tb:Int)),.i fr,.i en_,.z,.z,.z,.i gy,.b br2,.z] (λll ix vv ww=>match ix with
   |11|12=>FB W6.heap.size vv ww gd gy br2
   |13=>IW W6.heap.size vv ww gd
   |_=>True) (λll ww=>GB W6 (qk) gd (ll 16) ww) ?_ ?_ ?_ ?_ ?_ ?_
  .exact A0 (yO _ _) 1
  .intro j hj ll i vv wz fp hi hS iL mz dt hz
   match j,hj with
   |11,_|12,_=>exact(FB.below hz dt)
   |13,_=>exact(IW.below hz dt)
   |0,_|1,_|2,_|3,_|4,_|5,_|6,_|7,_|8,_|9,_|10,_|14,_|15,_|16,_=>exact hz
   |_+17,hq=>omega
  .intro ll i wz fp hi hS iL dt hg
   show GB _ _ _ (Gn ll i 16) _
   rw[Fn (by rintro rfl;cases hS)];exact GB.grow hg dt
  .intro i hi hS o E a wx H ll A D Z hb X
   match i,hi,hS with
   |0,_,_=>have eo:=Bb D 16;have bx:=(show wx.cell? ⟨qk,0,none⟩=some (.slice ua un uc) from GB.cell Z (by cases hx:ll 16 with|false=>rfl|true=>exact absurd (D.out.2.2 11 0 (D.out.2.2 12 11 (D.out.2.2 13 12 (D.out.2.2 16 13 (hx) (by kernel_rfl)) (by kernel_rfl)) (by kernel_rfl)) (by kernel_rfl)) (by rw[D.out.1];decide)) ff n0);have bk:=(show wx.cell? ⟨qk,1,none⟩=some (.slice va vn vc) from GB.cell Z (by cases hx:ll 16 with|false=>rfl|true=>exact absurd (D.out.2.2 11 0 (D.out.2.2 12 11 (D.out.2.2 13 12 (D.out.2.2 16 13 (hx) (by kernel_rfl)) (by kernel_rfl)) (by kernel_rfl)) (by kernel_rfl)) (by rw[D.out.1];decide)) ff n1);have bw:=(show wx.cell? ⟨qk,2,none⟩=some (.slice ya yn yc) from GB.cell Z (by cases hx:ll 16 with|false=>rfl|true=>exact absurd (D.out.2.2 11 0 (D.out.2.2 12 11 (D.out.2.2 13 12 (D.out.2.2 16 13 (hx) (by kernel_rfl)) (by kernel_rfl)) (by kernel_rfl)) (by kernel_rfl)) (by rw[D.out.1];decide)) ff n2);have bN:=(show wx.cell? ⟨qk,3,none⟩=some (.slice za zn zc) from GB.cell Z (by cases hx:ll 16 with|false=>rfl|true=>exact absurd (D.out.2.2 11 0 (D.out.2.2 12 11 (D.out.2.2 13 12 (D.out.2.2 16 13 (hx) (by kernel_rfl)) (by kernel_rfl)) (by kernel_rfl)) (by kernel_rfl)) (by rw[D.out.1];decide)) ff n3);exact LY E X H A D (hl:=PZ ‹_› ‹_› ‹_› ‹_›)
   |1,_,_|3,_,_|7,_,_|9,_,_=>exact WP E X H A D
   |2,_,_=>have eo:=Bb D 16;have bn:=(show wx.cell? ⟨g,5,none⟩=some (.slice (some ⟨lb,0,none⟩) 4 lc) from GB.other Z kF ng x5);exact LY E X H A D (hl:=K9 ‹_›)
   |6,_,_=>have eo:=Bb D 16;have cP:=(show wx.cell? ⟨lb,ta,none⟩=some (.int .i64 la) from GB.other Z fO nl DL);exact LY E X H A D (hl:=Fy ‹_›)
   |16,_,V=>cases V
   |4,_,_=>obtain rfl:=yQ E;have d3:(a.tmps[65]?.getD undef)=.int .i64 n:=Dc A D 3;have eo:=Bb D 16;clear A H;refine yP ?_;go_simp;exact X.out _ _ (by show ym .i64 (IntKind.i64.wrap (ta:Int))=.int .i64 ta;rw[xM _ (by omega)]) (yO _ _)
   |5,_,_=>obtain rfl:=yQ E;have d2:(a.tmps[64]?.getD undef)=.slice (some ⟨lb,0,none⟩) 4 lc:=Dc A D 2;have d4:(a.tmps[66]?.getD undef)=.int .i64 ta:=Dc A D 4;have eo:=Bb D 16;clear A H;refine yP ?_;go_simp;exact X.out _ _ rfl (yO _ _)
   |8,_,_=>obtain rfl:=yQ E;have d7:(a.tmps[69]?.getD undef)=.int .i64 n:=Dc A D 7;have eo:=Bb D 16;clear A H;refine yP ?_;go_simp;exact X.out _ _ (by show ym .i64 (Int.tmod (n:Int) 4)=.int .i64 tb;rw[wG (by omega)];exact congrArg _ q2) (yO _ _)
   |10,_,_=>obtain rfl:=yQ E;have d9:(a.tmps[71]?.getD undef)=.int .i64 fr:=Dc A D 9;have eo:=Bb D 16;clear A H;refine yP ?_;go_simp;refine(CP.out _).mono ?_;rintro r w_ ⟨rfl,eh⟩;exact X.out _ _ rfl eh
   |11,_,_=>
    obtain rfl:=yQ E;have d0:(a.tmps[62]?.getD undef)=.agg #[.slice ua un uc,.slice va vn vc,.slice ya yn yc,.slice za zn zc]:=Dc A D 0;have d6:(a.tmps[68]?.getD undef)=.int .i64 la:=Dc A D 6;have d8:(a.tmps[70]?.getD undef)=.int .i64 tb:=Dc A D 8;have iQ:(a.tmps[72]?.getD undef)=.int .i64 en_:=Dc A D 10;have eo:=Bb D 16;clear A H;refine yP ?_;go_simp;have iM:Below W6.heap.size W6 wx:=by
     rw[show ll 16=false from(by cases hx:ll 16 with|false=>rfl|true=>exact absurd (D.out.2.2 12 11 (D.out.2.2 13 12 (D.out.2.2 16 13 (hx) (by kernel_rfl)) (by kernel_rfl)) (by kernel_rfl)) (by rw[D.out.1];decide))] at Z;exact Z
    refine(CM.out _ iM).mono ?_;rintro r w_ ⟨m',i',e',c',rfl,hO,eh⟩;exact X.out _ _ ⟨m',i',e',c',rfl,hO.lower iM.size⟩ eh
   |12,_,_=>obtain rfl:=yQ E;have f3:FB W6.heap.size (a.tmps[73]?.getD undef) wx gd gy br2:=Dc A D 11;have eo:=Bb D 16;clear A H;refine yP ?_;go_simp;exact X.out _ _ f3 (yO _ _)
   |13,_,_=>obtain rfl:=yQ E;have eB:FB W6.heap.size (a.tmps[61]?.getD undef) wx gd gy br2:=Dc A D 12;have eo:=Bb D 16;clear A H;obtain⟨m',i',e',c',eB,hO⟩:=eB;refine yP ?_;go_simp;exact X.out _ _ ⟨_,_,_,_,rfl,hO⟩ (yO _ _)
   |14,_,_|15,_,_=>obtain rfl:=yQ E;have eB:FB W6.heap.size (a.tmps[61]?.getD undef) wx gd gy br2:=Dc A D 12;clear A H;obtain⟨m',i',e',c',eB,hO⟩:=eB;refine yP ?_;go_simp;exact X.out _ _ rfl (yO _ _)
   |_+17,hq,_=>omega
  .intro i hi hS o E a wx H ll A D Z hb X
   match i,hi,hS with
   |0,_,V|1,_,V|2,_,V|3,_,V|4,_,V|5,_,V|6,_,V|7,_,V|8,_,V|9,_,V|10,_,V|11,_,V|12,_,V|13,_,V|14,_,V|15,_,V=>cases V
   |16,_,_=>
    obtain rfl:=yQ E;have e6:a.tmps[6]?.getD undef=.pointer (some ⟨qk,0,none⟩):=eg (PV H 6);have gt:IW W6.heap.size (a.tmps[74]?.getD undef) wx gd:=Dc A D 13;clear A H;rw[D.out.1] at Z;replace Z:Below W6.heap.size W6 wx:=Z;obtain⟨m',i',e',c',gt,hO⟩:=gt;obtain⟨⟨va,vn,vc,rfl⟩,⟨wa,wn,wc,rfl⟩,⟨xa,xn,xc,rfl⟩,⟨ya,yn,yc,rfl⟩⟩:=hO.Ex;have cC:=AB eI Z;obtain⟨c0,iW,c2,c3⟩:=AE cC;have fq:=AK cC;have az:=AA (Aq wx (qk) (.slice va vn vc) (.slice wa wn wc) (.slice xa xn xc) (.slice ya yn yc));have Hq:=AA cC;have HO:=AA hO;clear cC hO;refine yP ?_;go_simp;exact X.out undef _ trivial (by show GB _ _ _ (Gn ll 16 16) _;rw[GR];exact⟨wx,_,_,_,_,Z,HO.out,yO _ _⟩) (λj gI gj kA hu=>match j,gj with
     |0,_|1,_|2,_|3,_|4,_|5,_|6,_|7,_|8,_|9,_|10,_|14,_|15,_=>hu
     |11,_|12,_=>FB.yW hu az.out Hq.out
     |13,_=>IW.yW hu az.out Hq.out
     |16,_=>absurd rfl gI
     |_+17,hq=>absurd hq (by omega))
   |_+17,hq,_=>omega
  .intro L wx ll ei hR Z
   have ga:(L 14)=.int .i64 gy:=Bg hR 14;clear hR;simp only[DQ,Bk,yN,yJ,yK,yI,ga];simp;clear ga;rw[ei 16 (by decide)] at Z;obtain⟨wz,m3,i3,e3,c3,dw,hO,gf⟩:=Z;have dp:Below (FV wz qk m3 i3 e3 c3).heap.size (FV wz qk m3 i3 e3 c3) wx:=by simpa[FV] using gf
   have I7:=(I6.out.put dw hO).below dp;have l6:=I6.out.yU.2.2;have B7:=B6.out.trans ((AM (dw.mono l6) (Aq wz qk m3 i3 e3 c3) I6.out.yU.2.1 (yL l6 dw.size):Below lo W6 _).trans (dp.mono (yL l6 (yL dw.size (Aq wz qk m3 i3 e3 c3).size))));have T7:=((T6.out.below dw).other (Aq wz qk m3 i3 e3 c3) (AB I6.out.kb dw) (by decide)).below dp;obtain⟨⟨⟨jU,jS,bN,rfl⟩,⟨j7,kf,j4,rfl⟩,⟨kX,kR,kU,rfl⟩,⟨j1,jV,jY,rfl⟩⟩,_,_⟩:=I7.own.Ex;clear ei dw gf dp hO eI ff n0 n1 n2 n3 CM CP x5 DL nl ng fO I6 B6;have X8:=I7.back;have B8:=AM B7 X8.2.2 I7.yU.1 I7.yU.2.2;have l8:=yL I7.yU.2.2 X8.2.2.size;have N8:=X8.2.1;have T8:=T7.fresh X8.2.2 (by have:=Hg.out;omega);have I8:=X8.1;obtain⟨d0,d1,d2,d3⟩:=AE I7.kb;obtain⟨t0,t1,t2,t3,_⟩:=AD I7.box;have ft:=AK I7.box;clear X8;unfold FV at I8 B8 N8 l8 T8;generalize hW8:(((wx.setCell _ _).setCell _ _).setCell _ _).setCell _ _=W8 at I8 N8 B8 l8 T8;obtain⟨_,_,_,_,_,_,s6,_,_⟩:=I8.cells;obtain⟨kl,f8,p0,p1,p2⟩:=I8.pg (n:=n) gQ.out;have I9:=I8.zB (n:=n) hV.out.symm gQ.out ⟨1,fr,true⟩;have N9:=Ap N8 I9.2.1 (by obtain⟨cu,ey⟩:=A9 I8.own.pgs gq rfl;exact(Bt ey N8));have B9:=AM B8 I9.2.1 I9.2.2 l8;have l9:=yL l8 I9.2.1.size;obtain⟨lg,ex⟩:=A9 I8.own.pgs gq rfl;have T9:=T8.other I9.2.1 ex (by decide);have I9:=I9.1;generalize hW9:((W8.setCell _ _).setCell _ _).setCell _ _=W9 at I9 N9 B9 l9 T9;have lD:=AA T9;have ds:=AA (DK N9 I9.own);obtain⟨x0,z,x2,x3,x4,x5,x6,x7,x8⟩:=I9.cells;obtain⟨r0,r1,r2,r3,r4,r5,r6,r7,r8⟩:=AD N9;have qL:=AK N9;have lJ:=AA B9;have lx:=AA l9;have je:=AA I9.yU;clear I7 I8 N8 B8 l8 I9 N9 B9 l9 B7 l6 T7 T8 T9 T6;obtain⟨hU,hT,eQ⟩:=ds.out;have fL:=AM lJ.out eQ (by have:=je.out;omega) lx.out;have hJ:=lD.out.fresh eQ (by have:=Hg.out;omega);unfold Fd at hU hT fL hJ;have cN:=Ze HQ.out hT fL hJ;unfold Um AQ at cN;dsimp only at cN;have HR:=AA cN;have HE:=AA (AD hU);clear hU hT eQ fL hJ cN;go_wp2_with ((try simp only[Exit.inBlock,Exit.then]);with_reducible refine yC (v:=.tuple #[.agg #[.slice jU jS bN,.slice j7 kf j4,.slice kX kR kU,.slice j1 jV jY,.slice (some ⟨gs,0,none⟩) 16 sc,.slice (some ⟨lb,0,none⟩) 4 lc,.slice (some ⟨gq,0,none⟩) 16 qc,.int .i64 P.Il,.int .i64 P.UQ],.bool true]) ?_ rfl HR.out);obtain⟨E0,E1,E2,E3,E4,E5,E6,E7,E8⟩:=HE.out;simp[results,Tryz.results239,go_sem,E0,E1,E2,E3,E4,E5,E6,E7,E8]
theorem bD{p:AR}(h:Ec p):Jt p=So p:=by
 have:=h.count;unfold Jt So
 by_cases hx:Ar p.Vw.Xy<0
 .simp[hx]
 .by_cases hy:(As p.Xx 1:Int)=p.UQ
  .simp[hx,hy]
  .have:¬p.UQ<=(As p.Xx 1:Int):=by omega
   simp[hx,hy,this]
theorem Zd{p:AR}{n:Nat}(h:Ec p)(hf:0<=Ar p.Vw.Xy):(Pi p n).2=true:=by rw[Zc (Oj (k:=p.Vw) h.may hf (a:=0) (b:=0) (c:=0))]
def Mr(lo:Nat)(w:World)(m i e c s l q:Value)(P:AR)(t:AR×Bool)(r:Ending)(w':World):Prop:=
 (t.2=true->∃m i e c s l q,r=.returned (.tuple #[AQ m i e c s l q t.1.Il t.1.UQ,.bool true])/\Fh lo w' m i e c s l q t.1)/\
 (t.2=false->r=.returned (.tuple #[AQ m i e c s l q P.Il P.UQ,.bool false]))/\Below lo w w'/\FN w w'
theorem RZ{lo:Nat}{w:World}{m i e c s l q m' i' e' c' s' l' q':Value}{P Q:AR}{t:AR×Bool}(ht:t=(Q,true))(h1:Fh lo W m' i' e' c' s' l' q' Q)(B:Below lo w W)(T:FN w W):Mr lo w m i e c s l q P t (.returned (.tuple #[AQ m' i' e' c' s' l' q' Q.Il Q.UQ,.bool true])) W:=
 ⟨λ_=>⟨m',i',e',c',s',l',q',by rw[ht],by rw[ht];exact h1⟩,λh=>(by rw[ht] at h;cases h),B,T⟩
theorem Y1{lo:Nat}{w:World}{m i e c s l q:Value}{P Q:AR}{t:AR×Bool}(ht:t=(Q,false))(B:Below lo w W)(T:FN w W):Mr lo w m i e c s l q P t (.returned (.tuple #[AQ m i e c s l q P.Il P.UQ,.bool false])) W:=
 ⟨λh=>(by rw[ht] at h;cases h),λ_=>rfl,B,T⟩
theorem UG{lo:Nat}{w:World}{mv iv ev cv sv lv qv:Value}{P:AR}(h:Fh lo w mv iv ev cv sv lv qv P)(ax:lo<=w.heap.size)(hP:Ec P){n:Nat}(hn:n<16):
 Calls prog 184 #[AQ mv iv ev cv sv lv qv P.Il P.UQ,.int .i64 n] w (Mr lo w mv iv ev cv sv lv qv P (CJ P n)):=by
 unfold AQ Mr AQ;obtain⟨N0,N1,ar,bp⟩:=Ki w (.cells #[mv,iv,ev,cv,sv,lv,qv,.int .i64 P.Il,.int .i64 P.UQ] 32) (.cells #[.slice none 0 0,.slice none 0 0,.slice none 0 0,.slice none 0 0,.slice none 0 0,.slice none 0 0,.slice none 0 0,.int .i64 0,.int .i64 0] 32);have bL:=(⟨N0,ax,h.below ar⟩:JR lo w.heap.size _ mv iv ev cv sv lv qv P);obtain⟨⟨⟨ma,mn,mc,rfl⟩,⟨ia,iN,ic,rfl⟩,⟨ea,en,ec,rfl⟩,⟨ka,kn,kc,rfl⟩⟩,⟨sa,sn,sc,rfl⟩,⟨la,ln,lc,rfl⟩,_⟩:=h.Ex;obtain⟨gq,qc,rfl,hC,iw,jw,jP,_⟩:=bL.page (n:=0) (by rw[hP.zZ];omega);rw[hP.zZ] at h bL N0 N1 ar bp hC ⊢;have hE:(n:Int)<16:=by omega
 obtain⟨_,_,_,_,_,_,x6,_,_⟩:=bL.cells;obtain⟨mi,fq,p0,p1,p2⟩:=bL.pg (n:=n) (by rw[hP.zZ];exact hn);have hx:P.Xx[n]?=some (AC P.Xx n):=by unfold AC;exact BD (by rw[hP.zZ];exact hn)
 have HP:=AA hP;have bO:=AA (ar.mono ax);have f6:=AA ((FN.refl w).below ar);have mU:=AA ax;have bu:=AA (yL ax ar.size);have jh:=AA N1;have HI:=AA bL;have mV:=AA (λhw=>Vj (n:=n) hP hw);have T1:=AA (XT (p:=P) (n:=n));have T2:=AA (λhw=>XR (n:=n) hP hw);have T3:=AA (λhw=>XS hP hn hw);have mP:=AA (λm pg hd (h:dA P n m pg hd)=>h.is);generalize CJ P n=t at mV T1 T2 mP ⊢
 by_cases hw:(AC P.Xx n).w=1
 .have HT:=AA (mV.out hw)
  rw[hw] at p0;have gO:=bL.zA (n:=n) (x:=AC P.Xx n) (y:= {AC P.Xx n with u:=true}) (j:=2) (u:=.bool true) hP.zZ.symm hx (by decide) rfl;have N2:=Ap N1 gO.2.1 (by obtain⟨cu,ey⟩:=A9 bL.own.pgs gq rfl;exact(Bt ey N1));obtain⟨lg,ex⟩:=A9 bL.own.pgs gq rfl;have T2:=f6.out.other gO.2.1 ex (by decide);have B2:=AM bO.out gO.2.1 gO.2.2 bu.out;have l2:=yL bu.out gO.2.1.size;have I2:=gO.1;clear h hP ax hx hw bL N0 N1 ar bp hC gO;go_in;go_upto_region 1 with fail;generalize(w.alloc _).alloc _=W0 at*;generalize hg:w.heap.size=g at*;have Hg:=AA hg;clear hg;generalize hW1:W0.setCell ⟨gq,n*3+2,none⟩ (.bool true)=W1 at I2 N2 T2 B2 l2;have S3:=AA (DK N2 I2.own);obtain⟨y0,y1,y2,y3,y4,y5,y6,y7,y8⟩:=I2.cells;obtain⟨z0,z1,z2,z3,z4,z5,z6,z7,z8⟩:=AD N2;have fz:=AK N2;have jG:=AA B2;have pz:=AA T2;have px:=AA l2;have je:=AA I2.yU;clear I2 N2 B2 T2 l2 p1 mi;obtain⟨N4,O4,mF⟩:=S3.out;have B4:=AM jG.out mF (by have:=je.out;omega) px.out;have T4:=pz.out.fresh mF (by have:=Hg.out;omega);unfold Fd at N4 O4 B4 T4;have cN:=RZ (m:=.slice ma mn mc) (i:=.slice ia iN ic) (e:=.slice ea en ec) (c:=.slice ka kn kc) (s:=.slice sa sn sc) (l:=.slice la ln lc) (q:=.slice (some ⟨gq,0,none⟩) 16 qc) (P:=P) (Q:= {P with Xx:=Fg P.Xx n}) HT.out O4 B4 T4;unfold Mr AQ at cN
  try dsimp only at cN
  have HR:=AA cN;have HE:=AA (AD N4);clear cN;go_wp2_with ((try simp only[Exit.then]);with_reducible refine yC (v:=.tuple #[.agg #[.slice ma mn mc,.slice ia iN ic,.slice ea en ec,.slice ka kn kc,.slice sa sn sc,.slice la ln lc,.slice (some ⟨gq,0,none⟩) 16 qc,.int .i64 P.Il,.int .i64 P.UQ],.bool true]) ?_ rfl HR.out);obtain⟨E0,E1,E2,E3,E4,E5,E6,E7,E8⟩:=HE.out;simp[results,tT,go_sem,E0,E1,E2,E3,E4,E5,E6,E7,E8]
 .have t0:((AC P.Xx n).w==1)=false:=by simp[hw]
  replace T1:=AA (T1.out hw);replace T2:=AA (T2.out hw);replace T3:=AA (T3.out hw);have TV:=AA (Vp hP);have n7:=AA hw;have iy:=AA hP.UQ;have HF:=AA (bD hP);have RI:=AA bL.own.ker.rd.2.1;have RQ:=AA (show BG 3 DI _ _ P.Xx from bL.own.pgs.rd);have pD:=AA (Am hP.k).2.1;have hV:=AA hP.zZ;generalize(AC P.Xx n).w=pw at p0 t0;obtain⟨x0,z,x2,x3,x4,x5,x6,x7,x8⟩:=bL.cells;clear h hP ax hx hw bL N0 N1 ar hC p1 p2;go_in;go_upto_region 4 with fail;generalize(w.alloc _).alloc _=W0 at*;generalize hg:w.heap.size=g at*;have Hg:=AA hg;have df:=AW HI.out.yV;have gv:=AA bp;clear hg bp;obtain⟨MJ,hcnt⟩:∃c:Nat,c=As P.Xx 1:=⟨_,rfl⟩
  have CC:=AA (λW (hW:Below W0.heap.size W0 W)=>by have:=NW (.slice ma mn mc) (.slice ia iN ic) (.slice ea en ec) (.slice ka kn kc) (.slice sa sn sc) (.slice la ln lc) (.slice (some ⟨gq,0,none⟩) 16 qc) P 1 W (BG.below RQ.out hW) (by have:=hV.out;omega);unfold AQ at this;rw[<-hcnt] at this;exact this);have CF:=AA (λW (hW:Below W0.heap.size W0 W)=>Q8 (.slice ia iN ic) P.Vw.Xy W (BG.below RI.out hW) pD.out);have mp:So P=(decide (P.UQ<=(MJ:Int))||decide (Ar P.Vw.Xy<0)):=by rw[hcnt];rfl
  have lA:=AA mp;have py:=AA hcnt;clear mp hcnt RQ RI p0 t0 fq mi;go_cut [32] (λnB wx=>nB=.bool (So P)/\Below W0.heap.size W0 wx)
  case first=>
   refine Ac 4 49 [.a #[.slice ma mn mc,.slice ia iN ic,.slice ea en ec,.slice ka kn kc,.slice sa sn sc,.slice la ln lc,(.slice (some ⟨gq,0,none⟩) 16 qc),.int .i64 (P.Il),.int .i64 (P.UQ)],.i ((MJ:Int)),.p g 8,.i (P.UQ)] (λ_ _ _=>True) ?_ ?_
   .intro i hi o E a wx H A Z hb X
    have bx:=bc Z df x0;have bk:=bc Z df z;have bw:=bc Z df x2;have bN:=bc Z df x3;have bn:=bc Z df x4;have cP:=bc Z df x5;have gb:=bc Z df x6;have g0:=bc Z df x7;have ii:=bc Z df x8
    match i,hi with
    |0,_=>exact sL E X H A (hl:=Wl ‹_› ‹_› ‹_› ‹_› ‹_› ‹_› ‹_› ‹_› ‹_›)
    |1,_=>exact sD E X H A (CC.out _ Z)
    |2,_=>exact sP E X H A
    |3,_=>exact sL E X H A (hl:=Fy ‹_›)
   .intro L wx hR Z
    have q1:(L 1)=.int .i64 MJ:=Bg hR 1;have q3:(L 3)=.int .i64 (P.UQ):=Bg hR 3;clear hR;simp only[Aj,Ag,yN,yJ,yK,yI,q1,q3];simp;clear q1 q3;have HG:=AA Z;obtain⟨_,y1,_,_,_,_,_,_,y8⟩:=(HI.out.below Z).cells;clear Z x0 z x2 x3 x4 x5 x6 x7 x8
    by_cases hc:P.UQ<=(MJ:Int)
    .have ho:=AA (show So P=true by rw[lA.out];simp[hc])
     go_wp2_with fail;go_meet
     case rel=>exact⟨by rw[ho.out],HG.out⟩
    .have ho:=AA (show So P=(((P.Vw.Xy.countP (λx=>decide (x.k=0)):Nat):Int)==0) by
      rw[lA.out];have:= @WO P.Vw.Xy
      by_cases hz:P.Vw.Xy.countP (λx=>decide (x.k=0))=0
      .simp[hc,hz,this.2 hz]
      .have O:¬Ar P.Vw.Xy<0:=λh=>hz (this.1 h)
       simp[hc,hz,O])
     go_wp2_with fail;refine(CF.out _ HG.out).mono ?_;rintro r w1 ⟨rfl,b1⟩;have pE:=AA (HG.out.trans (b1.mono HG.out.size));clear b1;generalize List.countP _ P.Vw.Xy=nf at*;go_wp2_with fail;go_meet
     case rel=>exact⟨by rw[ho.out],pE.out⟩
  case rest=>
  obtain⟨rfl,Z⟩:=hcut;clear CC CF lA x0 z x2 x3 x4 x5 x6 x7 x8
  rename_i W1
  have eu:=AA (HI.out.below Z);have dl:=AA (bO.out.trans (Z.mono bu.out));have HN:=AA (AB jh.out Z);have jD:=AA (f6.out.below Z);have eS:=AA (yL bu.out Z.size);clear Z HI;rw[<-HF.out];obtain⟨y0,y1,y2,y3,y4,y5,y6,y7,y8⟩:=eu.out.cells;go_upto_if 32 with fail;go_cut [] (λwx=>∃P1 m i e c s,JR lo g wx m i e c s (.slice la ln lc) (.slice (some ⟨gq,0,none⟩) 16 qc) P1/\wx.heap[g+1]?=some (.cells #[.slice none 0 0,.slice none 0 0,.slice none 0 0,.slice none 0 0,.slice none 0 0,.slice none 0 0,.slice none 0 0,.int .i64 0,.int .i64 0] 32 (0,0))/\Below lo w wx/\FN w wx/\lo<=wx.heap.size/\Ec P1/\0<=Ar P1.Vw.Xy/\(AC P1.Xx n).w≠1/\t=Pi P1 n)
  case first=>
   cases hf:Jt P
   .have na:=AA (T2.out hf)
    go_wp2_with fail;go_meet
    case rel=>exact⟨P,_,_,_,_,_,eu.out,HN.out,dl.out,jD.out,eS.out,HP.out,na.out.2,n7.out,na.out.1⟩
   .have CV:=Rw eu.out.own eS.out HP.out
    unfold V7 AQ at CV
    by_cases hz:As P.Xx 1=0
    .have mj:=T1.out ⟨by
      unfold Jt at hf;simp only[Bool.or_eq_true,decide_eq_true_eq] at hf;have:=iy.out
      rcases hf with hf|hf
      .exact hf
      .omega,hz⟩
     have gh:=TV.out.2 hz;generalize Ct 32 P.Xx P.Il=t at CV gh;obtain⟨pg,hd,o⟩:=t;cases gh;dsimp only[Vo] at CV;have CV:=AA CV;have pq:=AA mj;clear mj hf hz;go_wp2_with fail;refine CV.out.mono ?_;rintro r w2 ⟨rfl,O2,b2,s2⟩;have b3:=AJ w2 (.cells #[.slice ma mn mc,.slice ia iN ic,.slice ea en ec,.slice ka kn kc,.slice sa sn sc,.slice la ln lc,.slice (some ⟨gq,0,none⟩) 16 qc,.int .i64 hd,.int .i64 P.UQ] 32);have N3:=AB (s2 _ _ HN.out) b3;have I3:=AB (s2 _ _ eu.out.yV) b3;have B3:=dl.out.trans (b2.trans (b3.mono (yL eS.out b2.size)));have T3:=(jD.out.trans s2).below b3;have l3:=yL (yL eS.out b2.size) b3.size;have N4:=IP (b0:=.slice ma mn mc) (b1:=.slice ia iN ic) (b2:=.slice ea en ec) (b3:=.slice ka kn kc) (b4:=.slice sa sn sc) (b5:=.slice la ln lc) (b6:=.slice (some ⟨gq,0,none⟩) 16 qc) (b7:=.int .i64 P.Il) (b8:=.int .i64 P.UQ) N3;have G4:=F8 (w:=w2.alloc (.cells #[.slice ma mn mc,.slice ia iN ic,.slice ea en ec,.slice ka kn kc,.slice sa sn sc,.slice la ln lc,.slice (some ⟨gq,0,none⟩) 16 qc,.int .i64 hd,.int .i64 P.UQ] 32)) (g:=g+1) (b0:=.slice ma mn mc) (b1:=.slice ia iN ic) (b2:=.slice ea en ec) (b3:=.slice ka kn kc) (b4:=.slice sa sn sc) (b5:=.slice la ln lc) (b6:=.slice (some ⟨gq,0,none⟩) 16 qc) (b7:=.int .i64 P.Il) (b8:=.int .i64 P.UQ);have B4:=AA (AM B3 G4 (by have:=eu.out.yU;omega) l3);have T4:=AA (T3.fresh G4 (by have:=Hg.out;omega));have pB:=AA N4;obtain⟨c0,c1,c2,c3,c4,c5,c6,c7,c8⟩:=AD I3;obtain⟨z0,z1,z2,z3,z4,z5,z6,z7,z8⟩:=AD N3;have fz:=AK N3;clear O2 b2 s2 b3 N3 I3 B3 T3 l3 N4 G4 y0 y1 y2 y3 y4 y5 y6 y7 y8 CV;have N4:=pB.out;unfold Fd at N4 B4 T4;have cN:=Y1 (m:=.slice ma mn mc) (i:=.slice ia iN ic) (e:=.slice ea en ec) (c:=.slice ka kn kc) (s:=.slice sa sn sc) (l:=.slice la ln lc) (q:=.slice (some ⟨gq,0,none⟩) 16 qc) (P:=P) (Q:=P) pq.out B4.out T4.out;have HR:=AA cN;have HE:=AA (AD N4);clear cN;go_wp2_with fail;refine yC (v:=.tuple #[.agg #[.slice ma mn mc,.slice ia iN ic,.slice ea en ec,.slice ka kn kc,.slice sa sn sc,.slice la ln lc,.slice (some ⟨gq,0,none⟩) 16 qc,.int .i64 P.Il,.int .i64 P.UQ],.bool false]) ?_ rfl HR.out;obtain⟨E0,E1,E2,E3,E4,E5,E6,E7,E8⟩:=HE.out;simp[results,tT,go_sem,E0,E1,E2,E3,E4,E5,E6,E7,E8]
    .obtain⟨mm,pgs,hd,fH⟩:=T3.out hf (λx=>hz x.2)
     rw[fH.vic] at CV;dsimp only[Vo] at CV;have dk:=AA fH;have CV:=AA CV;have qD:¬(mm:Int)<0:=by omega
     clear fH hf hz;go_wp2_with fail;refine CV.out.mono ?_;rintro r w2 ⟨rfl,O2,b2,s2⟩;have b3:=AJ w2 (.cells #[.slice ma mn mc,.slice ia iN ic,.slice ea en ec,.slice ka kn kc,.slice sa sn sc,.slice la ln lc,.slice (some ⟨gq,0,none⟩) 16 qc,.int .i64 hd,.int .i64 P.UQ] 32);have l3:=yL (yL eS.out b2.size) b3.size;have CO:=Wg (O2.below b3) l3 dk.out.ok1 dk.out.m16 dk.out.mw1;unfold V4 AQ at CO;dsimp only at CO;have CO:=AA CO;have N3:=AA (AB (s2 _ _ HN.out) b3);have I3:=AA (AB (s2 _ _ eu.out.yV) b3);have B3:=AA (dl.out.trans (b2.trans (b3.mono (yL eS.out b2.size))));have T3:=AA ((jD.out.trans s2).below b3);have pv:=AA l3;clear O2 b2 s2 b3 l3 y0 y1 y2 y3 y4 y5 y6 y7 y8 CV;go_wp2_with fail;refine CO.out.mono ?_;rintro r w4 ⟨⟨m4,i4,e4,c4,s4,rfl,O4⟩,b4,t4⟩;obtain⟨⟨⟨eU,eT,bn,rfl⟩,⟨eZ,e7,eY,rfl⟩,⟨fk,fi,fj,rfl⟩,⟨eX,eV,eW,rfl⟩⟩,⟨pV,pQ,pT,rfl⟩,_⟩:=O4.Ex;have S5:=DK (t4 _ _ I3.out) O4;have N5:=AA (Ap (t4 _ _ N3.out) S5.2.2 (by omega));have T5:=AA ((T3.out.trans t4).fresh S5.2.2 (by have:=Hg.out;omega));have l4:=yL pv.out b4.size;have B5:=AA (AM (B3.out.trans b4) S5.2.2 eu.out.yU l4);have l5:=AA (yL l4 S5.2.2.size);have I5:=AA (⟨S5.1,eu.out.yU,S5.2.1⟩:JR lo g _ _ _ _ _ _ _ _ _);obtain⟨z0,z1,z2,z3,z4,z5,z6,z7,z8⟩:=AD (t4 _ _ I3.out);have fz:=AK (t4 _ _ I3.out);clear S5 O4 b4 t4 l4 CO;unfold Fd at N5 T5 B5 l5 I5;go_wp2_with fail;go_meet
     case rel=>exact⟨_,_,_,_,_,_,I5.out,N5.out,B5.out,T5.out,l5.out,dk.out.ok2,dk.out.free,dk.out.nw,mP.out _ _ _ dk.out⟩
  case rest=>obtain⟨P1,m1,i1,e1,c1,s1,I1,N1,B1,mQ,l1,O1,f1,n1,t1⟩:=hcut;have CI:=YV I1.own l1 O1 hn n1 f1;have md:=Zd (n:=n) O1 f1;generalize Pi P1 n=ti at CI md t1;obtain⟨Q,bb⟩:=ti;obtain rfl:bb=true:=md;unfold Um AQ at CI;dsimp only at CI;have pj:=AA t1;obtain⟨⟨⟨jp,jm,bk,rfl⟩,⟨j9,kh,j6,rfl⟩,⟨kZ,kT,kW,rfl⟩,⟨j3,jX,j0,rfl⟩⟩,⟨nA,nt,nv,rfl⟩,_⟩:=I1.own.Ex;obtain⟨x0,z,x2,x3,x4,x5,x6,x7,x8⟩:=I1.cells;have lG:=AA N1;have lK:=AA B1;have lE:=AA mQ;have ly:=AA l1;have je:=AA I1.yU;have CI:=AA CI;clear I1 N1 B1 mQ l1 O1 f1 n1 t1 y0 y1 y2 y3 y4 y5 y6 y7 y8 eu HN dl jD T1 T2 T3 TV iy;go_wp2_with fail;refine CI.out.mono ?_;rintro r w6 ⟨⟨m6,i6,e6,c6,rfl,O6⟩,b6,s6⟩;obtain⟨⟨⟨nN,nM,gb,rfl⟩,⟨nW,nX,nV,rfl⟩,⟨oZ,oX,oY,rfl⟩,⟨nT,nR,nS,rfl⟩⟩,_⟩:=O6.Ex;have N6:=s6 _ _ lG.out;have S7:=AA (DK N6 O6);have B6:=AA (lK.out.trans b6);have T6:=AA (lE.out.trans s6);have l6:=AA (yL ly.out b6.size);obtain⟨z0,z1,z2,z3,z4,z5,z6,z7,z8⟩:=AD N6;have fz:=AK N6;clear O6 b6 s6 N6 CI x0 z x2 x3 x4 x5 x6 x7 x8;obtain⟨N8,O8,mE⟩:=S7.out;have B8:=AM B6.out mE (by have:=je.out;omega) l6.out;have T8:=T6.out.fresh mE (by have:=Hg.out;omega);unfold Fd at N8 O8 B8 T8;have cN:=RZ (m:=.slice ma mn mc) (i:=.slice ia iN ic) (e:=.slice ea en ec) (c:=.slice ka kn kc) (s:=.slice sa sn sc) (l:=.slice la ln lc) (q:=.slice (some ⟨gq,0,none⟩) 16 qc) (P:=P) pj.out O8 B8 T8;unfold Mr AQ at cN;have HR:=AA cN;have HE:=AA (AD N8);clear cN;go_wp2_with ((try simp only[Exit.then]);with_reducible refine yC (v:=.tuple #[.agg #[.slice nN nM gb,.slice nW nX nV,.slice oZ oX oY,.slice nT nR nS,.slice nA nt nv,.slice la ln lc,.slice (some ⟨gq,0,none⟩) 16 qc,.int .i64 Q.Il,.int .i64 Q.UQ],.bool true]) ?_ rfl HR.out);obtain⟨E0,E1,E2,E3,E4,E5,E6,E7,E8⟩:=HE.out;simp[results,tT,go_sem,E0,E1,E2,E3,E4,E5,E6,E7,E8]
theorem VP(mv iv ev cv sv lv qv:Value)(P:AR)(n:Nat)(w:World)(h:KR w mv iv ev cv sv lv qv P)(hh:dC P)(hn:n<16):
 Calls prog 53 #[AQ mv iv ev cv sv lv qv P.Il P.UQ,.int .i64 n] w λr w'=>r=.returned (.bool (Gm P n))/\Below w.heap.size w w':=by
 unfold AQ;obtain⟨N0,b0⟩:=EH w (.cells #[mv,iv,ev,cv,sv,lv,qv,.int .i64 P.Il,.int .i64 P.UQ] 32);have h0:=h.below b0;have hK:DP P.Vw:=EZ.1 hh.k;obtain⟨j,hj⟩:∃j,j=n/4:=⟨_,rfl⟩
 obtain⟨t,ht⟩:∃t,t=n%4:=⟨_,rfl⟩
 have q1:(n:Int)/4=(j:Int):=by omega
 have q2:(n:Int)%4=(t:Int):=by omega
 have mo:j<4:=by omega
 have ob:t<4:=by omega
 have oy:=hh.lr j mo;obtain⟨lf,hlf⟩:∃x:Nat,Be P.low j=(x:Int):=⟨(Be P.low j).toNat,by omega⟩
 have iz:lf<12:=by omega
 have mu:Bx P n=Au P.Vw.mem lf t:=by unfold Bx;rw[<-hj,<-ht,hlf,yq]
 have hE:(n:Int)<16:=by omega
 have HS:=AA h0.2.1;have bL:=AA h0.1.2.1;obtain⟨aq,cq,rfl,_,_,HQ⟩:=BG.open Es (by decide) h0.2.2.2;obtain⟨bq,oq,rfl,oO,D0,D1,D2⟩:=HQ.zC (k:=n) (by rw[hh.pl];exact hn);have qB:(n:Int)<P.Xx.length:=by rw[hh.pl];exact hE
 obtain⟨am,cm,rfl,_,_,HM⟩:=h0.1.1.open;obtain⟨al,cl,rfl,_,_,D⟩:=h0.2.2.1.open;obtain⟨bl,ol,rfl,DL⟩:=D.at (k:=j) (by rw[hh.ll];exact mo);rw[show nth P.low j=(lf:Int) from hlf] at DL;obtain⟨bm,om,br,fs,cr,rfl,fW,DM,fV,oL,hY⟩:=HM.row4 (Am hK).1 iz;have DW:=hY t ob;obtain⟨ai,ci,rfl,_,_,eu⟩:=BG.open Av (by decide) bL.out;have HI:=AA eu;obtain⟨mM,mJ,rfl,_,_,_⟩:=h0.2.1.open;obtain⟨x0,z,x2,x3,x4,x5,x6,x7,x8⟩:=AD N0;obtain⟨po,hpo⟩:∃po,po=Gm P n:=⟨_,rfl⟩
 rw[<-hpo];have PO:=hpo;unfold Gm at PO;rw[mu] at PO;generalize hpw:(AC P.Xx n).w=pw at D0 PO;generalize hpa:(AC P.Xx n).a=pa at D1 PO;generalize hpu:(AC P.Xx n).u=pu at D2 PO;generalize htw:Au P.Vw.mem lf t=tw at DW PO;have kA:(j:Int)<P.low.length:=by rw[hh.ll];omega
 have hF:(lf:Int)<P.Vw.mem.length:=by have:=(Ah.1 (Am hK).1).1;omega
 have n8:(t:Int)<4:=by omega
 have gR:=AA (A1.1 (Am hK).2.1).1;replace PO:=AA PO;clear hpo hpw hpa hpu htw mu hlf oy hj ht HQ HM D hY h h0;have bp:(w.alloc (.cells #[.slice (some ⟨bm,om,none⟩) P.Vw.mem.length cm,.slice ai P.Vw.Xy.length ci,ev,cv,.slice mM P.swap.length mJ,.slice (some ⟨bl,ol,none⟩) P.low.length cl,.slice (some ⟨bq,oq,none⟩) P.Xx.length cq,.int .i64 P.Il,.int .i64 P.UQ] 32)).heap.size=w.heap.size+1:=by simp
 go_in;go_wp2_with fail;generalize w.alloc _=W0 at*;obtain⟨N2,b2⟩:=EH W0 (.cells #[.int .i64 pw,.int .i64 pa,.bool pu] 74);have lH:=AA (AB N0 b2);have jG:=AA (b0.trans (b2.mono b0.size));have jf:=AA b2;replace DL:=(b2.cell (yM _ _ DL)).trans DL;replace DM:=(b2.cell (yM _ _ DM)).trans DM;replace DW:=(b2.cell (yM _ _ DW)).trans DW;clear x0 z x2 x3 x4 x5 x6 x7 x8 D0 D1 D2 oO fW fV eu N0 b0 b2;obtain⟨qp,hqp⟩:∃q,q=w.heap.size+1:=⟨_,rfl⟩
 rw[bp] at N2;rw[<-hqp] at N2 ⊢;generalize W0.alloc _=W2 at*;clear hqp bp;obtain⟨x0,_,_,_,_,x5,_,_,_⟩:=AD lH.out;have df:=AW lH.out;have av:=yM _ _ DL;have fW:=yM _ _ DM;have fV:=yM _ _ DW;have pC:=AA N2;clear N2;go_wp2_with fail;refine Ac 15 94 [.p w.heap.size 0,.p w.heap.size 0,.v (.slice (some ⟨bm,om,none⟩) P.Vw.mem.length cm),.p w.heap.size 5,.v (.slice (some ⟨bl,ol,none⟩) P.low.length cl),.i ((n:Int)),.i ((j:Int)),.p bl (ol+j),.i ((lf:Int)),.p bm (om+lf),.v (.slice (some ⟨br,fs,none⟩) 4 cr),.i ((n:Int)),.i ((t:Int)),.p br (fs+t),.i tw] (λ_ _ _=>True) ?_ ?_
 .intro i hi o E a wx H A Z hb X
  have bk:=bc Z df x5;have bw:=bc Z av DL;have bN:=bc Z fW DM;have bn:=bc Z fV DW
  match i,hi with
  |0,_|1,_|3,_|5,_|11,_=>exact sP E X H A
  |2,_=>exact sL E X H A (hl:=GQ (bc Z df x0))
  |4,_|10,_=>exact sL E X H A (hl:=K9 ‹_›)
  |7,_|9,_|13,_=>exact sI E X H A (hr:=by clear A H X;go_simp)
  |8,_|14,_=>exact sL E X H A (hl:=Fy ‹_›)
  |6,_=>clear bk bw bN bn;obtain rfl:=yQ E;have d5:(a.tmps[19]?.getD undef)=.int .i64 n:=BY A 5;clear A H;refine yP ?_;go_simp;exact X.out _ _ (by show ym .i64 (IntKind.i64.wrap (j:Int))=.int .i64 j;rw[xM _ (by omega)]) (yO _ _)
  |12,_=>clear bk bw bN bn;obtain rfl:=yQ E;have f3:(a.tmps[25]?.getD undef)=.int .i64 n:=BY A 11;clear A H;refine yP ?_;go_simp;exact X.out _ _ (by show ym .i64 (Int.tmod (n:Int) 4)=.int .i64 t;rw[wG (by omega)];exact congrArg _ q2) (yO _ _)
  |_+15,hq=>omega
 .intro L wx hR Z
  have ga:(L 14)=.int .i64 tw:=Bg hR 14;clear hR;simp only[Aj,Ag,yN,yJ,yK,yI,ga];simp;clear ga;have HB:=AA (jG.out.trans (Z.mono jG.out.size));have lB:=AA (jf.out.trans (Z.mono jf.out.size));obtain⟨_,z,_,_,x4,_,_,_,_⟩:=AD (AB lH.out Z);obtain⟨p0,p1,p2⟩:=GX (AB pC.out Z);clear x0 x5 DL DM DW Z av fW fV
  by_cases e0:pw=0
  .subst e0
   rw[if_pos rfl] at PO
   by_cases ea:pa=0
   .subst ea
    cases pu
    .have S:=AA (show po=(tw==0) by rw[PO.out];simp;by_cases h3:tw=0<;>simp[h3])
     clear PO z x4;go_wp2_with fail;go_ret;exact⟨AI S.out.symm,HB.out⟩
    .have S:=AA (show po=false by rw[PO.out];simp)
     clear PO z x4;go_wp2_with fail;go_ret;exact⟨AI S.out.symm,HB.out⟩
   .have S:=AA (show po=false by rw[PO.out];simp[ea])
    clear PO z x4;go_wp2_with fail;go_ret;exact⟨AI S.out.symm,HB.out⟩
  rw[if_neg e0] at PO;have t0:(pw==0)=false:=by simp[e0]
  by_cases e1:pw=1
  .subst e1
   rw[if_pos rfl] at PO;clear t0 e0 x4;have CF:=AA (λW=>EN pa W);go_wp2_with fail;refine(CF.out _).mono ?_;rintro r w3 ⟨rfl,rfl⟩;cases fC:Bh pa 0 11
   .have S:=AA (show po=false by rw[PO.out,fC];rfl)
    clear PO fC z;go_wp2_with fail;go_ret;exact⟨AI S.out.symm,HB.out⟩
   have ab:=AZ.1 fC;obtain⟨fr,rfl⟩:∃x:Nat,pa=(x:Int):=⟨pa.toNat,by omega⟩
   have jx:fr<12:=by omega
   rw[fC,yq] at PO;clear fC;go_wp2_with fail;refine(MP (fr:Int) _ (by omega) (by omega)).mono ?_;rintro r w3 ⟨rfl,b3⟩;have f7:=AA (HB.out.trans (b3.mono HB.out.size));have qH:(fr:Int)<12:=by omega
   have oJ:(fr:Int)<P.Vw.Xy.length:=by have:=gR.out;omega
   obtain⟨bi,oi,rfl,gM,F0,F1,F2⟩:=(HI.out.below (lB.out.trans (b3.mono lB.out.size))).Dq (k:=fr) (by have:=gR.out;omega);replace z:=(b3.cell (yM _ _ z)).trans z;replace p1:=(b3.cell (yM _ _ p1)).trans p1;clear p0 p2 b3 F0 gM;generalize Iy (fr:Int)=en_ at PO ⊢
   by_cases et:tw=en_
   .subst et
    have er:=AA (show po=(decide ((Sc P.Vw.Xy fr).g=gA)&&decide ((Sc P.Vw.Xy fr).r=1)) by rw[PO.out];simp[GK]);clear PO;generalize Sc P.Vw.Xy fr=x at F1 F2 er;obtain⟨xk,xg,xr⟩:=x;dsimp only at F1 F2 er;have eg:xg=gA↔xg.toList=[97]:=⟨λh=>by subst h;rw[xC];rfl,λh=>by rw[xC] at h;cases xg with|mk d=>cases d with|mk l=>simp at h;subst h;rfl⟩
    by_cases hg:xg.toList=[97]
    .have t1:(xg.toList==[97])=true:=by simp[hg]
     have S:=AA (show po=(xr==1) by rw[er.out,decide_eq_true (eg.2 hg),wl];by_cases h3:xr=1<;>simp[h3]);clear hg eg er;go_wp2_with fail;go_ret;exact⟨AI S.out.symm,f7.out⟩
    .have t1:(xg.toList==[97])=false:=by simp[hg]
     have S:=AA (show po=false by rw[er.out,decide_eq_false (λh=>hg (eg.1 h)),Bool.false_and]);clear hg eg er;go_wp2_with fail;go_ret;exact⟨AI S.out.symm,f7.out⟩
   .have S:=AA (show po=false by rw[PO.out];simp[et])
    have t1:(tw==en_)=false:=by simp[et]
    clear PO et;go_wp2_with fail;go_ret;exact⟨AI S.out.symm,f7.out⟩
  rw[if_neg e1] at PO;have t1:(pw==1)=false:=by simp[e1]
  by_cases e2:pw=2
  .subst e2
   rw[if_pos rfl] at PO;clear t0 t1 e0 e1 z;have CG:=AA (UX _ P.swap pa _ (HS.out.below lB.out) hh.s);go_wp2_with fail;refine CG.out.mono ?_;rintro r w3 ⟨⟨v',rfl⟩,b3⟩;have f7:=AA (HB.out.trans (b3.mono HB.out.size));have er:=AA (show po=(Bh pa 0 15&&!(AH P.swap pa.toNat).isEmpty&&!pu&&decide (tw=0)) from PO.out);generalize(Bh pa 0 15&&!(AH P.swap pa.toNat).isEmpty)=bb at er ⊢;replace p2:=(b3.cell (yM _ _ p2)).trans p2;clear PO CG b3 x4 p0 p1;cases bb
   .have S:=AA (show po=false by rw[er.out];rfl)
    go_wp2_with fail;go_ret;exact⟨AI S.out.symm,f7.out⟩
   .cases pu
    .have S:=AA (show po=(tw==0) by rw[er.out];simp;by_cases h3:tw=0<;>simp[h3])
     go_wp2_with fail;go_ret;exact⟨AI S.out.symm,f7.out⟩
    .have S:=AA (show po=false by rw[er.out];rfl)
     go_wp2_with fail;go_ret;exact⟨AI S.out.symm,f7.out⟩
  .have t2:(pw==2)=false:=by simp[e2]
   have S:=AA (show po=false by rw[PO.out,if_neg e2]);clear PO z x4 e0 e1 e2;go_wp2_with fail;go_ret;exact⟨AI S.out.symm,HB.out⟩
theorem Rv(mv iv ev cv sv lv qv:Value)(P:AR)(w:World)(h:KR w mv iv ev cv sv lv qv P)(hk:Cr P.Vw=true):
 Calls prog 51 #[AQ mv iv ev cv sv lv qv P.Il P.UQ] w λr w'=>r=.returned (.bool (Bz P))/\Below w.heap.size w w':=by
 unfold AQ;obtain⟨N0,b0⟩:=EH w (.cells #[mv,iv,ev,cv,sv,lv,qv,.int .i64 P.Il,.int .i64 P.UQ] 32);have h0:=h.below b0;have hK:DP P.Vw:=EZ.1 hk;have op:=zL hK (show 0<3 by omega);have jv:=(A1.1 (Am hK).2.1).1;have hF:=(Ah.1 (Am hK).1).1;have oK:=hK.zY;obtain⟨ae,ce,rfl,_,_,HE⟩:=h0.1.2.2.1.open;obtain⟨be,oe,ua,uc,rfl,_,_,D1,_⟩:=HE 0 (by omega);have e0:oe+0*2+1=oe+1:=by omega
 rw[e0] at D1;obtain⟨ai,ci,rfl,_,_,bL⟩:=BG.open Av (by decide) h0.1.2.1;obtain⟨am,cm,rfl,_,_,mZ⟩:=h0.1.1.open;obtain⟨al,cl,rfl,_,_,m0⟩:=h0.2.2.1.open;obtain⟨x0,z,x2,x3,x4,x5,x6,x7,x8⟩:=AD N0;have qJ:(0:Int)<P.Vw.V3.length:=by omega
 have TO:=AA (show Bz P=(decide (0<=Ab P.Vw 0)&&decide (P.low.length=4)&&GK P.Vw.Xy (Ab P.Vw 0).toNat&&(yN 4).all (Fz P)) from rfl);have mg:Ab P.Vw 0=(AF P.Vw.V3 0).root:=rfl;rw[<-mg] at D1 op;generalize hrr:Ab P.Vw 0=root at*;have pm:=AA hrr;have HM:=AA mZ;have HI:=AA bL;have D:=AA m0;have X:=AA hK;have gR:=AA jv;have pr:=AA hF;clear h h0 hk mg hrr mZ bL m0 HE hK oK jv hF;have HN:=AA N0;have ad:=AA b0;clear N0 b0
 by_cases hr:root<0
 .have S:=AA (show Bz P=false by rw[TO.out,decide_eq_false (by omega)];rfl)
  clear TO;go_in;go_wp2_with fail;go_ret;exact⟨AI S.out.symm,ad.out⟩
 obtain⟨rn,rfl⟩:∃x:Nat,root=(x:Int):=⟨root.toNat,by omega⟩
 have ou:rn<12:=by omega
 have ot:(rn:Int)<12:=by omega
 have qz:(rn:Int)<P.Vw.mem.length:=by have:=pr.out;omega
 have qA:(rn:Int)<P.Vw.Xy.length:=by have:=gR.out;omega
 rcases vW (P.low.length=4) with hll|hll
 rotate_left
 .have S:=AA (show Bz P=false by rw[TO.out,decide_eq_false hll];simp)
  have t1:((P.low.length:Int) !=4)=true:=by simp;omega
  clear TO hll;go_in;go_wp2_with fail;go_ret;exact⟨AI S.out.symm,ad.out⟩
 have t1:((P.low.length:Int) !=4)=false:=by simp;omega
 have jd:=AA hll;obtain⟨bi,oi,rfl,oP,_,F1,F2⟩:=HI.out.Dq (k:=rn) (by have:=gR.out;omega);have gu:=AA (show Bz P=(decide ((Sc P.Vw.Xy rn).g=gA)&&decide ((Sc P.Vw.Xy rn).r=1)&&(yN 4).all (Fz P)) by rw[TO.out,decide_eq_true hll,decide_eq_true (by omega:(0:Int)<=(rn:Int)),yq];simp[GK])
 clear TO hll;generalize Sc P.Vw.Xy rn=x at F1 F2 gu;obtain⟨xk,xg,xr⟩:=x;dsimp only at F1 F2 gu;have eg:xg=gA↔xg.toList=[97]:=⟨λh=>by subst h;rw[xC];rfl,λh=>by rw[xC] at h;cases xg with|mk d=>cases d with|mk l=>simp at h;subst h;rfl⟩
 rcases vW (xg.toList=[97]) with hg|hg
 rotate_left
 .have t2:(xg.toList==[97])=false:=by simp[hg]
  have S:=AA (show Bz P=false by rw[gu.out,decide_eq_false (λh=>hg (eg.1 h))];rfl);clear gu hg eg;go_in;go_wp2_with fail;go_ret;exact⟨AI S.out.symm,ad.out⟩
 have t2:(xg.toList==[97])=true:=by simp[hg]
 rcases vW (xr=1) with hr1|hr1
 rotate_left
 .have t3:(xr !=1)=true:=by simp[hr1]
  have S:=AA (show Bz P=false by rw[gu.out,decide_eq_false hr1];simp);clear gu hg eg hr1;go_in;go_wp2_with fail;go_ret;exact⟨AI S.out.symm,ad.out⟩
 have t3:(xr !=1)=false:=by simp[hr1]
 have iY:=AA (show Bz P=(yN 4).all (Fz P) by rw[gu.out,decide_eq_true (eg.2 hg),decide_eq_true hr1];rfl);clear gu hg eg hr1;go_in;go_wp2_with fail;generalize w.alloc _=W0 at*;clear x0 z x2 x3 x4 x5 x6 x7 x8 D1 F1 F2 t1 t2 t3;go_loopw [4,5] (λix _ wr=>∃k:Nat,k<=4/\ix=.int .i64 k/\(∀j,j<k->Fz P j=true)/\Below W0.heap.size W0 wr) (λix _ _=>4 - (intOf ix).toNat)
 exact⟨0,yu _,rfl,λj hj=>absurd hj (xW _),yO _ _⟩
 obtain⟨k,hk,rfl,bf,K⟩:=hrel;have cy:=AA bf;clear bf
 by_cases ac:k<4
 .have iD:(k:Int)<4:=by omega
  have kw:(k:Int)<P.low.length:=by have:=jd.out;omega
  obtain⟨x0,z,_,_,_,x5,_,_,_⟩:=AD (AB HN.out K);have df:=AW (AB HN.out K);obtain⟨bl,ol,rfl,DL⟩:=(D.out.below K).at (k:=k) (by have:=jd.out;omega);obtain⟨bm,om,br,fs,cr,rfl,kK,lL,kJ,oL,hY⟩:=HM.out.row4 (Am X.out).1 ou;have DM:=(K.cell (yM _ _ lL)).trans lL;have DW:=(K.cell (yM _ _ (hY k ac))).trans (hY k ac);have fW:=yM _ _ DM;have fV:=yM _ _ DW;have LO:=AA (show Fz P k=(Bh (Be P.low k) 0 11&&decide (Au P.Vw.mem (Ab P.Vw 0).toNat k=Iy (Be P.low k))&&GK P.Vw.Xy (Be P.low k).toNat) from rfl);rw[pm.out,yq] at LO;rw[show nth P.low k=Be P.low k from rfl] at DL;generalize Be P.low k=fv at DL LO;generalize Au P.Vw.mem rn k=tw at DW LO;clear lL hY kK kJ;have hZ:=λW (hW:Below wr.heap.size wr W)=>A3 (EN fv W)
  cases fC:Bh fv 0 11
  .rw[fC] at hZ LO
   have CF:=AA hZ;have ez:Fz P k=false:=by rw[LO.out];rfl
   clear hZ LO fC;have S:=AA (iY.out.trans (Gj ac ez));go_wp2_with fail;refine Ac 36 86 [.i fv,.b false,.b true,.b true,.u,.u,.u,.u,.u,.u,.u,.u,.u,.u,.u,.u,.b true,.b true,.u,.u,.u,.u,.u,.u,.u,.u,.b true,.b true,.u,.u,.u,.u,.u,.u,.u,.u] (λ_ _ _=>True) ?_ ?_
   .intro i hi o E a wx H A Z hb X
    match i,hi with
    |0,_|2,_|3,_|16,_|17,_|26,_|27,_=>exact sP E X H A
    |1,_=>exact sD E X H A (CF.out _ Z)
    |4,_|5,_|6,_|7,_|8,_|9,_|10,_|11,_|12,_|13,_|14,_|15,_|18,_|19,_|20,_|21,_|22,_|23,_|24,_|25,_|28,_|29,_|30,_|31,_|32,_|33,_|34,_|35,_=>exact sB E X A
    |_+36,hq=>omega
   .intro L wx hR Z
    have eE:(L 27)=.bool true:=Bg hR 27;clear hR;simp only[Aj,Ag,yN,yJ,yK,yI,eE];simp;clear eE;have eA:=K.trans (Z.mono K.size);clear Z x0 z DM DW;go_wp2_with fail;go_ret;exact⟨AI S.out.symm,ad.out.trans (eA.mono ad.out.size)⟩
  have ab:=AZ.1 fC;obtain⟨fr,rfl⟩:∃x:Nat,fv=(x:Int):=⟨fv.toNat,by omega⟩
  have jx:fr<12:=by omega
  have oH:(fr:Int)<12:=by omega
  have oJ:(fr:Int)<P.Vw.Xy.length:=by have:=gR.out;omega
  rw[fC] at hZ LO;have CF:=AA hZ;have lN:=λW (hW:Below wr.heap.size wr W)=>MP (fr:Int) W (by omega) (by omega)
  rw[yq,wl] at LO;generalize Iy (fr:Int)=en_ at LO lN;have CP:=AA lN;obtain⟨qS,p8,e9,iI,_,F1,F2⟩:=(HI.out.below K).Dq (k:=fr) (by have:=gR.out;omega);cases e9;have gM:=yM _ _ F1;have fo:Fz P k=(decide (tw=en_)&&(decide ((Sc P.Vw.Xy fr).g=gA)&&decide ((Sc P.Vw.Xy fr).r=1))):=LO.out;clear hZ lN LO fC ab iI;generalize Sc P.Vw.Xy fr=x at F1 F2 fo;obtain⟨pH,xg,xr⟩:=x;dsimp only at F1 F2 fo
  rcases vW (tw=en_) with et|et
  rotate_left
  .have t1:(tw !=en_)=true:=by simp[et]
   have ez:Fz P k=false:=by rw[fo,decide_eq_false et];rfl
   clear fo et;have S:=AA (iY.out.trans (Gj ac ez));go_wp2_with fail;refine Ac 36 86 [.i ((fr:Int)),.b true,.b false,.b false,.p w.heap.size 0,.p w.heap.size 0,.v (.slice (some ⟨bm,om,none⟩) P.Vw.mem.length cm),.i ((rn:Int)),.p bm (om+rn),.v (.slice (some ⟨br,fs,none⟩) 4 cr),.i ((k:Int)),.p br (fs+k),.i tw,.i ((fr:Int)),.i en_,.b true,.b true,.b true,.u,.u,.u,.u,.u,.u,.u,.u,.b true,.b true,.u,.u,.u,.u,.u,.u,.u,.u] (λ_ _ _=>True) ?_ ?_
   .intro i hi o E a wx H A Z hb X
    match i,hi with
    |0,_|2,_|3,_|4,_|5,_|7,_|10,_|13,_|16,_|17,_|26,_|27,_=>exact sP E X H A
    |1,_=>exact sD E X H A (CF.out _ Z)
    |6,_=>exact sL E X H A (hl:=GQ (bc Z df x0))
    |8,_|11,_=>exact sI E X H A (hr:=by clear A H X;go_simp)
    |9,_=>exact sL E X H A (hl:=K9 (bc Z fW DM))
    |12,_=>exact sL E X H A (hl:=Fy (bc Z fV DW))
    |14,_=>exact sD E X H A (CP.out _ Z)
    |18,_|19,_|20,_|21,_|22,_|23,_|24,_|25,_|28,_|29,_|30,_|31,_|32,_|33,_|34,_|35,_=>exact sB E X A
    |15,_=>obtain rfl:=yQ E;have eB:(a.tmps[61]?.getD undef)=.int .i64 tw:=BY A 12;have hH:(a.tmps[63]?.getD undef)=.int .i64 en_:=BY A 14;have d3:(a.tmps[52]?.getD undef)=.bool false:=BY A 3;clear A H;refine AY.yes rfl rfl d3 ?_;go_simp;exact X.out _ _ rfl (yO _ _)
    |_+36,hq=>omega
   .intro L wx hR Z
    have eE:(L 27)=.bool true:=Bg hR 27;clear hR;simp only[Aj,Ag,yN,yJ,yK,yI,eE];simp;clear eE;have eA:=K.trans (Z.mono K.size);clear Z x0 z DM DW;go_wp2_with fail;go_ret;exact⟨AI S.out.symm,ad.out.trans (eA.mono ad.out.size)⟩
  have t1:(tw !=en_)=false:=by simp[et]
  rw[decide_eq_true et,wl] at fo;have eg:xg=gA↔xg.toList=[97]:=⟨λh=>by subst h;rw[xC];rfl,λh=>by rw[xC] at h;cases xg with|mk d=>cases d with|mk l=>simp at h;subst h;rfl⟩;clear et
  rcases vW (xg.toList=[97]) with hg|hg
  rotate_left
  .have t2:(xg.toList==[97])=false:=by simp[hg]
   have ez:Fz P k=false:=by rw[fo,decide_eq_false (λh=>hg (eg.1 h))];rfl
   clear fo hg eg;have S:=AA (iY.out.trans (Gj ac ez));go_wp2_with fail;refine Ac 36 86 [.i ((fr:Int)),.b true,.b false,.b false,.p w.heap.size 0,.p w.heap.size 0,.v (.slice (some ⟨bm,om,none⟩) P.Vw.mem.length cm),.i ((rn:Int)),.p bm (om+rn),.v (.slice (some ⟨br,fs,none⟩) 4 cr),.i ((k:Int)),.p br (fs+k),.i tw,.i ((fr:Int)),.i en_,.b false,.b false,.b false,.p w.heap.size 0,.p w.heap.size 1,.v (.slice (some ⟨bi,oi,none⟩) P.Vw.Xy.length ci),.i ((fr:Int)),.p bi (oi+fr*3),.p bi (oi+fr*3+1),.t xg,.b true,.b true,.b true,.u,.u,.u,.u,.u,.u,.u,.u] (λ_ _ _=>True) ?_ ?_
   .intro i hi o E a wx H A Z hb X
    match i,hi with
    |0,_|2,_|3,_|4,_|5,_|7,_|10,_|13,_|16,_|17,_|18,_|19,_|21,_|23,_|26,_|27,_=>exact sP E X H A
    |1,_=>exact sD E X H A (CF.out _ Z)
    |6,_=>exact sL E X H A (hl:=GQ (bc Z df x0))
    |8,_|11,_|22,_=>exact sI E X H A (hr:=by clear A H X;go_simp)
    |9,_=>exact sL E X H A (hl:=K9 (bc Z fW DM))
    |12,_=>exact sL E X H A (hl:=Fy (bc Z fV DW))
    |14,_=>exact sD E X H A (CP.out _ Z)
    |20,_=>exact sL E X H A (hl:=GV (bc Z df z))
    |24,_=>exact sL E X H A (hl:=YW (bc Z gM F1))
    |28,_|29,_|30,_|31,_|32,_|33,_|34,_|35,_=>exact sB E X A
    |15,_=>obtain rfl:=yQ E;have eB:(a.tmps[61]?.getD undef)=.int .i64 tw:=BY A 12;have hH:(a.tmps[63]?.getD undef)=.int .i64 en_:=BY A 14;have d3:(a.tmps[52]?.getD undef)=.bool false:=BY A 3;clear A H;refine AY.yes rfl rfl d3 ?_;go_simp;exact X.out _ _ rfl (yO _ _)
    |25,_=>obtain rfl:=yQ E;have mI:(a.tmps[73]?.getD undef)=.string xg:=BY A 24;have iP:(a.tmps[66]?.getD undef)=.bool false:=BY A 17;clear A H;refine AY.yes rfl rfl iP ?_;go_simp;exact X.out _ _ rfl (yO _ _)
    |_+36,hq=>omega
   .intro L wx hR Z
    have eE:(L 27)=.bool true:=Bg hR 27;clear hR;simp only[Aj,Ag,yN,yJ,yK,yI,eE];simp;clear eE;have eA:=K.trans (Z.mono K.size);clear Z x0 z DM DW;go_wp2_with fail;go_ret;exact⟨AI S.out.symm,ad.out.trans (eA.mono ad.out.size)⟩
  have t2:(xg.toList==[97])=true:=by simp[hg]
  rw[decide_eq_true (eg.2 hg),wl] at fo;clear hg eg
  rcases vW (xr=1) with hr1|hr1
  rotate_left
  .have t3:(xr !=1)=true:=by simp[hr1]
   have ez:Fz P k=false:=by rw[fo,decide_eq_false hr1]
   clear fo hr1;have S:=AA (iY.out.trans (Gj ac ez));go_wp2_with fail;refine Ac 36 86 [.i ((fr:Int)),.b true,.b false,.b false,.p w.heap.size 0,.p w.heap.size 0,.v (.slice (some ⟨bm,om,none⟩) P.Vw.mem.length cm),.i ((rn:Int)),.p bm (om+rn),.v (.slice (some ⟨br,fs,none⟩) 4 cr),.i ((k:Int)),.p br (fs+k),.i tw,.i ((fr:Int)),.i en_,.b false,.b false,.b false,.p w.heap.size 0,.p w.heap.size 1,.v (.slice (some ⟨bi,oi,none⟩) P.Vw.Xy.length ci),.i ((fr:Int)),.p bi (oi+fr*3),.p bi (oi+fr*3+1),.t xg,.b false,.b false,.b false,.p w.heap.size 0,.p w.heap.size 1,.v (.slice (some ⟨bi,oi,none⟩) P.Vw.Xy.length ci),.i ((fr:Int)),.p bi (oi+fr*3),.p bi (oi+fr*3+2),.i xr,.b true] (λ_ _ _=>True) ?_ ?_
   .intro i hi o E a wx H A Z hb X
    have bx:=bc Z df x0;have bk:=bc Z fW DM;have bw:=bc Z fV DW;have bN:=bc Z df z;have bn:=bc Z gM F1;have cP:=bc Z gM F2
    match i,hi with
    |0,_|2,_|3,_|4,_|5,_|7,_|10,_|13,_|16,_|17,_|18,_|19,_|21,_|23,_|26,_|27,_|28,_|29,_|31,_|33,_=>exact sP E X H A
    |1,_=>exact sD E X H A (CF.out _ Z)
    |6,_=>exact sL E X H A (hl:=GQ ‹_›)
    |8,_|11,_|22,_|32,_=>exact sI E X H A (hr:=by clear A H X;go_simp)
    |9,_=>exact sL E X H A (hl:=K9 ‹_›)
    |12,_|34,_=>exact sL E X H A (hl:=Fy ‹_›)
    |14,_=>exact sD E X H A (CP.out _ Z)
    |20,_|30,_=>exact sL E X H A (hl:=GV ‹_›)
    |24,_=>exact sL E X H A (hl:=YW ‹_›)
    |15,_=>clear bx bk bw bN bn cP;obtain rfl:=yQ E;have eB:(a.tmps[61]?.getD undef)=.int .i64 tw:=BY A 12;have hH:(a.tmps[63]?.getD undef)=.int .i64 en_:=BY A 14;have d3:(a.tmps[52]?.getD undef)=.bool false:=BY A 3;clear A H;refine AY.yes rfl rfl d3 ?_;go_simp;exact X.out _ _ rfl (yO _ _)
    |25,_=>clear bx bk bw bN bn cP;obtain rfl:=yQ E;have mI:(a.tmps[73]?.getD undef)=.string xg:=BY A 24;have iP:(a.tmps[66]?.getD undef)=.bool false:=BY A 17;clear A H;refine AY.yes rfl rfl iP ?_;go_simp;exact X.out _ _ rfl (yO _ _)
    |35,_=>clear bx bk bw bN bn cP;obtain rfl:=yQ E;have o5:(a.tmps[83]?.getD undef)=.int .i64 xr:=BY A 34;have ld:(a.tmps[76]?.getD undef)=.bool false:=BY A 27;clear A H;refine AY.yes rfl rfl ld ?_;go_simp;exact X.out _ _ rfl (yO _ _)
    |_+36,hq=>omega
   .intro L wx hR Z
    have eE:(L 27)=.bool false:=Bg hR 27;have ib:(L 35)=.bool true:=Bg hR 35;clear hR;simp only[Aj,Ag,yN,yJ,yK,yI,eE,ib];simp;clear eE ib;have eA:=K.trans (Z.mono K.size);clear Z x0 z DM DW;go_wp2_with fail;go_ret;exact⟨AI S.out.symm,ad.out.trans (eA.mono ad.out.size)⟩
  have t3:(xr !=1)=false:=by simp[hr1]
  have cT:Fz P k=true:=by rw[fo,decide_eq_true hr1]
  clear fo hr1;have S:=AA (cT);go_wp2_with fail;refine Ac 36 86 [.i ((fr:Int)),.b true,.b false,.b false,.p w.heap.size 0,.p w.heap.size 0,.v (.slice (some ⟨bm,om,none⟩) P.Vw.mem.length cm),.i ((rn:Int)),.p bm (om+rn),.v (.slice (some ⟨br,fs,none⟩) 4 cr),.i ((k:Int)),.p br (fs+k),.i tw,.i ((fr:Int)),.i en_,.b false,.b false,.b false,.p w.heap.size 0,.p w.heap.size 1,.v (.slice (some ⟨bi,oi,none⟩) P.Vw.Xy.length ci),.i ((fr:Int)),.p bi (oi+fr*3),.p bi (oi+fr*3+1),.t xg,.b false,.b false,.b false,.p w.heap.size 0,.p w.heap.size 1,.v (.slice (some ⟨bi,oi,none⟩) P.Vw.Xy.length ci),.i ((fr:Int)),.p bi (oi+fr*3),.p bi (oi+fr*3+2),.i xr,.b false] (λ_ _ _=>True) ?_ ?_
  .intro i hi o E a wx H A Z hb X
   have bx:=bc Z df x0;have bk:=bc Z fW DM;have bw:=bc Z fV DW;have bN:=bc Z df z;have bn:=bc Z gM F1;have cP:=bc Z gM F2
   match i,hi with
   |0,_|2,_|3,_|4,_|5,_|7,_|10,_|13,_|16,_|17,_|18,_|19,_|21,_|23,_|26,_|27,_|28,_|29,_|31,_|33,_=>exact sP E X H A
   |1,_=>exact sD E X H A (CF.out _ Z)
   |6,_=>exact sL E X H A (hl:=GQ ‹_›)
   |8,_|11,_|22,_|32,_=>exact sI E X H A (hr:=by clear A H X;go_simp)
   |9,_=>exact sL E X H A (hl:=K9 ‹_›)
   |12,_|34,_=>exact sL E X H A (hl:=Fy ‹_›)
   |14,_=>exact sD E X H A (CP.out _ Z)
   |20,_|30,_=>exact sL E X H A (hl:=GV ‹_›)
   |24,_=>exact sL E X H A (hl:=YW ‹_›)
   |15,_=>clear bx bk bw bN bn cP;obtain rfl:=yQ E;have eB:(a.tmps[61]?.getD undef)=.int .i64 tw:=BY A 12;have hH:(a.tmps[63]?.getD undef)=.int .i64 en_:=BY A 14;have d3:(a.tmps[52]?.getD undef)=.bool false:=BY A 3;clear A H;refine AY.yes rfl rfl d3 ?_;go_simp;exact X.out _ _ rfl (yO _ _)
   |25,_=>clear bx bk bw bN bn cP;obtain rfl:=yQ E;have mI:(a.tmps[73]?.getD undef)=.string xg:=BY A 24;have iP:(a.tmps[66]?.getD undef)=.bool false:=BY A 17;clear A H;refine AY.yes rfl rfl iP ?_;go_simp;exact X.out _ _ rfl (yO _ _)
   |35,_=>clear bx bk bw bN bn cP;obtain rfl:=yQ E;have o5:(a.tmps[83]?.getD undef)=.int .i64 xr:=BY A 34;have ld:(a.tmps[76]?.getD undef)=.bool false:=BY A 27;clear A H;refine AY.yes rfl rfl ld ?_;go_simp;exact X.out _ _ rfl (yO _ _)
   |_+36,hq=>omega
  .intro L wx hR Z
   have eE:(L 27)=.bool false:=Bg hR 27;have ib:(L 35)=.bool false:=Bg hR 35;clear hR;simp only[Aj,Ag,yN,yJ,yK,yI,eE,ib];simp;clear eE ib;have eA:=K.trans (Z.mono K.size);clear Z x0 z DM DW;go_wp2_with fail;go_roundw;exact⟨k+1,by omega,by go_num,Al cy.out S.out,eA⟩;simp[intOf];omega
 .have ek:k=4:=by omega
  have bf:=cy.out;rw[ek] at bf;have S:=AA (iY.out.trans (yr.2 λj hj=>bf j (yj.1 hj)));have iD:¬(k:Int)<4:=by omega
  clear cy bf;go_wp2_with fail;go_ret;exact⟨AI S.out.symm,ad.out.trans (K.mono ad.out.size)⟩
theorem Uf{l:List Bs}{k s:Nat}(hk:k<l.length):Ch (l.take (k+1)) s=Ch (l.take k) s+(if(AC l k).w=2/\(AC l k).a=(s:Int) then 1 else 0):=by
 unfold Ch;rw[DF (x:=AC l k) (BD hk),List.countP_append]
 congr 1
 simp only[List.countP_cons,List.countP_nil,DB,yD,decide_eq_true_eq,Nat.zero_add]
theorem XL{l:List Bs}{s:Nat}:Ch l s<=l.length:=by unfold Ch;exact List.countP_le_length
theorem UF(mv iv ev cv sv lv qv:Value)(P:AR)(w:World)(h:KR w mv iv ev cv sv lv qv P)(fx:P.swap.length=16)(fy:P.Xx.length<=1048576):
 Calls prog 52 #[AQ mv iv ev cv sv lv qv P.Il P.UQ] w λr w'=>r=.returned (.bool ((yN 16).all (ED P)))/\Below w.heap.size w w':=by
 unfold AQ;obtain⟨res,dq⟩:∃res,res=(yN 16).all (ED P):=⟨_,rfl⟩
 rw[<-dq];have i7:=AA dq;clear dq;obtain⟨N0,b0⟩:=EH w (.cells #[mv,iv,ev,cv,sv,lv,qv,.int .i64 P.Il,.int .i64 P.UQ] 32);have h0:=h.below b0;obtain⟨aq,cq,rfl,_,_,mX⟩:=BG.open Es (by decide) h0.2.2.2;obtain⟨mM,mJ,rfl,_,_,f6⟩:=h0.2.1.open;obtain⟨_,_,_,_,x4,_,x6,_,_⟩:=AD N0;have lu:=AA fx;clear h fx N0 h0;go_in;go_wp2_with fail;generalize w.alloc _=W0 at*;have HQ:=AA mX;have HS:=AA f6;have ad:=AA b0;clear mX f6 b0;go_loopw [3,4,5] (λix _ _ wr=>∃i0:Nat,i0<=16/\ix=.int .i64 i0/\(∀j,j<i0->ED P j=true)/\W0=wr) (λix _ _ _=>16 - (intOf ix).toNat)
 exact⟨0,yu _,rfl,λj hj=>absurd hj (xW _),rfl⟩
 obtain⟨i0,hi,rfl,bf,rfl⟩:=hrel;have cy:=AA bf;clear bf
 by_cases ac:i0<16
 .have jv:(i0:Int)<P.swap.length:=by have:=lu.out;omega
  go_wp2_with fail;go_loopw [4,5] (λs4 s5 wi=>∃k:Nat,k<=P.Xx.length/\s5=.int .i64 k/\s4=.int .i64 (Ch (P.Xx.take k) i0:Nat)/\W0=wi) (λ_ s5 _=>P.Xx.length - (intOf s5).toNat)
  exact⟨0,yu _,rfl,rfl,rfl⟩
  obtain⟨k,hk,rfl,rfl,rfl⟩:=hrel
  by_cases kw:k<P.Xx.length
  .have iD:(k:Int)<P.Xx.length:=by omega
   obtain⟨b,eF,rfl,_,D0,D1,_⟩:=HQ.out.zC kw;have S:=Uf (s:=i0) kw;have gk:=XL (l:=P.Xx.take k) (s:=i0);rw[yt] at gk
   by_cases hw:(AC P.Xx k).w=2
   .have t0:((AC P.Xx k).w==2)=true:=by simp[hw]
    by_cases ha:(AC P.Xx k).a=(i0:Int)
    .have t1:((AC P.Xx k).a==(i0:Int))=true:=by simp[ha]
     rw[if_pos ⟨hw,ha⟩] at S;have S:=AA S;generalize Ch (P.Xx.take k) i0=n0 at*;clear hw ha;go_wp2_with fail;go_roundw;exact⟨k+1,by omega,by go_num,by rw[S.out];go_num,by first|rfl|trivial⟩;simp[intOf];omega
    .have t1:((AC P.Xx k).a==(i0:Int))=false:=by simp[ha]
     rw[if_neg (λh=>ha h.2)] at S;have S:=AA S;clear hw ha;go_wp2_with fail;go_roundw;exact⟨k+1,by omega,by go_num,by rw[S.out,xU],by first|rfl|trivial⟩;simp[intOf];omega
   .have t0:((AC P.Xx k).w==2)=false:=by simp[hw]
    rw[if_neg (λh=>hw h.1)] at S;have S:=AA S;clear hw;go_wp2_with fail;go_roundw;exact⟨k+1,by omega,by go_num,by rw[S.out,xU],by first|rfl|trivial⟩;simp[intOf];omega
  .obtain rfl:k=P.Xx.length:=by omega
   have iD:¬(P.Xx.length:Int)<P.Xx.length:=by omega
   rw[List.take_length];obtain⟨b,eF,u,rfl,av,HL,hr⟩:=HS.out i0 (by have:=lu.out;omega);obtain⟨au,cu,rfl,_,_,_⟩:=hr.open;have SO:ED P i0=decide (Ch P.Xx i0=if(AH P.swap i0).isEmpty then 0 else 1):=rfl;have EM:(AH P.swap i0).isEmpty=true↔(AH P.swap i0).length=0:=by cases AH P.swap i0<;>simp
   have gV:=AA (λ(hx:ED P i0=false)=>(i7.out.trans (Gj ac hx):res=false));generalize Ch P.Xx i0=n0 at SO ⊢;have oz:(0:Int)<=((AH P.swap i0).length:Int):=by omega
   by_cases O:1<n0
   .have t1:(1:Int)<(n0:Int):=by omega
    have S:=AA (gV.out (by rw[SO];split<;>simp<;>omega));clear SO EM hr;go_wp2_with fail;go_ret;exact⟨AI S.out.symm,ad.out⟩
   .have t1:¬(1:Int)<(n0:Int):=by omega
    by_cases he:(AH P.swap i0).length=0
    .have t2:¬(0:Int)<((AH P.swap i0).length:Int):=by omega
     have nn:decide (0<(AH P.swap i0).length)=false:=decide_eq_false (by omega);rw[if_pos (EM.2 he)] at SO
     by_cases hn:n0=0
     .have t3:((n0:Int)==1)=false:=beq_eq_false_iff_ne.2 (by omega)
      have S:=AA (show ED P i0=true by rw[SO];simp[hn]);clear SO EM hr hn he;go_wp2_with fail;go_roundw;exact⟨i0+1,by omega,by go_num,Al cy.out S.out,by first|rfl|trivial⟩;simp[intOf];omega
     .have t3:((n0:Int)==1)=true:=beq_iff_eq.2 (by omega)
      have S:=AA (gV.out (by rw[SO];simp[hn]));clear SO EM hr hn he;go_wp2_with fail;go_ret;exact⟨AI S.out.symm,ad.out⟩
    .have t2:(0:Int)<((AH P.swap i0).length:Int):=by omega
     have nn:decide (0<(AH P.swap i0).length)=true:=decide_eq_true (by omega);rw[if_neg (λh=>he (EM.1 h))] at SO
     by_cases hn:n0=1
     .have t3:((n0:Int)==1)=true:=beq_iff_eq.2 (by omega)
      have S:=AA (show ED P i0=true by rw[SO];simp[hn]);clear SO EM hr hn he;go_wp2_with fail;go_roundw;exact⟨i0+1,by omega,by go_num,Al cy.out S.out,by first|rfl|trivial⟩;simp[intOf];omega
     .have t3:((n0:Int)==1)=false:=beq_eq_false_iff_ne.2 (by omega)
      have S:=AA (gV.out (by rw[SO];simp[hn]));clear SO EM hr hn he;go_wp2_with fail;go_ret;exact⟨AI S.out.symm,ad.out⟩
 .have ek:i0=16:=by omega
  have bf:=cy.out;rw[ek] at bf;have S:=AA (show res=true from i7.out.trans (yr.2 λj hj=>bf j (yj.1 hj)));have jv:¬(i0:Int)<P.swap.length:=by have:=lu.out;omega
  clear cy bf;go_wp2_with fail;go_ret;exact⟨AI S.out.symm,ad.out⟩
theorem GL(mv iv ev cv sv lv qv:Value)(P:AR)(w:World)(h:KR w mv iv ev cv sv lv qv P)(V:Jo P.Vw):
 Calls prog 21 #[AQ mv iv ev cv sv lv qv P.Il P.UQ] w λr w'=>r=.returned (.bool (CU P))/\Below w.heap.size w w':=by
 obtain⟨po,hpo⟩:∃po,po=CU P:=⟨_,rfl⟩
 rw[<-hpo];have PO:=AA (show po=(Cr P.Vw&&Ff P.swap&&Gx P.Vw&&Bz P&&decide (P.Xx.length=16)&&(yN 16).all (ED P)&&(yN 16).all (Gm P)&&Bh P.Il 0 15&&Bh P.UQ 1 6&&decide ((As P.Xx 1:Int)<=P.UQ)) from hpo);clear hpo;unfold AQ;obtain⟨N0,b0⟩:=EH w (.cells #[mv,iv,ev,cv,sv,lv,qv,.int .i64 P.Il,.int .i64 P.UQ] 32);have HR:=AA (h.below b0);have Hs:=AA V;obtain⟨aq,cq,rfl,_,_⟩:=h.2.2.2.shape;obtain⟨x0,z,x2,x3,x4,x5,x6,x7,x8⟩:=AD N0;clear h V;go_in;go_wp2_with fail;generalize w.alloc _=W0 at*;have HN:=AA N0;have ad:=AA b0;have K:Below W0.heap.size W0 W0:=yO _ _;clear N0 b0;cases e1:Cr P.Vw
 .have S:=AA (show po=false by rw[PO.out];simp[e1])
  have C:=Kh mv iv ev cv P.Vw _ (HR.out.1.below K) Hs.out;rw[e1] at C;clear e1;go_wp2_with (refine C.mono ?_;rintro r w_ ⟨rfl,cg⟩;clear x0 z x2 x3 x4 x5 x6 x7 x8);go_ret;exact⟨AI S.out.symm,ad.out.trans ((K.trans (cg.mono K.size)).mono ad.out.size)⟩
 have C:=Kh mv iv ev cv P.Vw _ (HR.out.1.below K) Hs.out;rw[e1] at C;have T1:=AA e1;rw[e1] at PO;clear e1;go_wp2_with fail;refine C.mono ?_;rintro r w_ ⟨rfl,cg⟩;replace K:=K.trans (cg.mono K.size);clear cg C x0 z x2 x3 x4 x5 x6 x7 x8;obtain⟨x0,z,x2,x3,x4,x5,x6,x7,x8⟩:=AD (AB HN.out K);cases e2:Ff P.swap
 .have S:=AA (show po=false by rw[PO.out];simp[e2])
  have C:=IN sv P.swap _ (HR.out.2.1.below K);rw[e2] at C;clear e2;go_wp2_with (refine C.mono ?_;rintro r w_ ⟨rfl,cg⟩;clear x0 z x2 x3 x4 x5 x6 x7 x8);go_ret;exact⟨AI S.out.symm,ad.out.trans ((K.trans (cg.mono K.size)).mono ad.out.size)⟩
 have C:=IN sv P.swap _ (HR.out.2.1.below K);rw[e2] at C;have T2:=AA e2;rw[e2] at PO;clear e2;go_wp2_with fail;refine C.mono ?_;rintro r w_ ⟨rfl,cg⟩;replace K:=K.trans (cg.mono K.size);clear cg C x0 z x2 x3 x4 x5 x6 x7 x8;obtain⟨x0,z,x2,x3,x4,x5,x6,x7,x8⟩:=AD (AB HN.out K);cases e3:Gx P.Vw
 .have S:=AA (show po=false by rw[PO.out];simp[e3])
  have C:=NV mv iv ev cv P.Vw _ (HR.out.1.2.2.1.below K) (EZ.1 T1.out).zY Hs.out.2;rw[e3] at C;clear e3;go_wp2_with (refine C.mono ?_;rintro r w_ ⟨rfl,cg⟩;clear x0 z x2 x3 x4 x5 x6 x7 x8);go_ret;exact⟨AI S.out.symm,ad.out.trans ((K.trans (cg.mono K.size)).mono ad.out.size)⟩
 have C:=NV mv iv ev cv P.Vw _ (HR.out.1.2.2.1.below K) (EZ.1 T1.out).zY Hs.out.2;rw[e3] at C;have T3:=AA e3;rw[e3] at PO;clear e3;go_wp2_with fail;refine C.mono ?_;rintro r w_ ⟨rfl,cg⟩;replace K:=K.trans (cg.mono K.size);clear cg C x0 z x2 x3 x4 x5 x6 x7 x8;obtain⟨x0,z,x2,x3,x4,x5,x6,x7,x8⟩:=AD (AB HN.out K);have TX:=AA (λW (hW:Below W0.heap.size W0 W)=>Rv mv iv ev cv sv lv _ P W (HR.out.below hW) T1.out);unfold AQ at TX;cases e4:Bz P
 .have S:=AA (show po=false by rw[PO.out];simp[e4])
  have C:=TX.out _ K;rw[e4] at C;clear e4;go_wp2_with (refine C.mono ?_;rintro r w_ ⟨rfl,cg⟩;clear x0 z x2 x3 x4 x5 x6 x7 x8);go_ret;exact⟨AI S.out.symm,ad.out.trans ((K.trans (cg.mono K.size)).mono ad.out.size)⟩
 have C:=TX.out _ K;rw[e4] at C;have T4:=AA e4;rw[e4] at PO;clear e4;go_wp2_with fail;refine C.mono ?_;rintro r w_ ⟨rfl,cg⟩;replace K:=K.trans (cg.mono K.size);clear cg C x0 z x2 x3 x4 x5 x6 x7 x8;obtain⟨x0,z,x2,x3,x4,x5,x6,x7,x8⟩:=AD (AB HN.out K);clear TX
 rcases vW (P.Xx.length=16) with fy|fy
 rotate_left
 .have S:=AA (show po=false by rw[PO.out];simp[fy])
  have t5:((P.Xx.length:Int) !=16)=true:=bne_iff_ne.2 (by omega);clear fy;go_wp2_with fail;go_ret;exact⟨AI S.out.symm,ad.out.trans (K.mono ad.out.size)⟩
 have t5:((P.Xx.length:Int) !=16)=false:=by rw[fy];rfl
 have jb:=AA fy;rw[decide_eq_true fy] at PO;clear fy;have SX:=AA (λW (hW:Below W0.heap.size W0 W)=>UF mv iv ev cv sv lv _ P W (HR.out.below hW) (Gf.1 T2.out).1 (by have:=jb.out;omega));unfold AQ at SX;obtain⟨sl,fx⟩:∃sl,sl=(yN 16).all (ED P):=⟨_,rfl⟩
 rw[<-fx] at SX PO;clear fx;cases e6:sl
 .have S:=AA (show po=false by rw[PO.out];simp[e6])
  have C:=SX.out _ K;rw[e6] at C;clear e6;go_wp2_with (refine C.mono ?_;rintro r w_ ⟨rfl,cg⟩;clear x0 z x2 x3 x4 x5 x6 x7 x8);go_ret;exact⟨AI S.out.symm,ad.out.trans ((K.trans (cg.mono K.size)).mono ad.out.size)⟩
 have C:=SX.out _ K;rw[e6] at C;have T6:=AA e6;rw[e6] at PO;clear e6;go_wp2_with fail;refine C.mono ?_;rintro r w_ ⟨rfl,cg⟩;replace K:=K.trans (cg.mono K.size);clear cg C x0 z x2 x3 x4 x5 x6 x7 x8;obtain⟨x0,z,x2,x3,x4,x5,x6,x7,x8⟩:=AD (AB HN.out K);clear SX t5;have iu:=AA (RU T4.out);have HF:Hid (dC P):=AA ⟨T1.out,T2.out,iu.out.1,iu.out.2,jb.out⟩;have lM:=AA (λW (hW:Below W0.heap.size W0 W) n (hn:n<16)=>VP mv iv ev cv sv lv _ P n W (HR.out.below hW) HF.out hn);unfold AQ at lM;have dl:=AA K;clear K x0 z x2 x3 x4 x5 x6 x7 x8;go_wp2_with fail;go_loopw [3] (λs3 wr=>∃k:Nat,k<=16/\s3=.int .i64 k/\(∀j,j<k->Gm P j=true)/\Below W0.heap.size W0 wr) (λs3 _=>16 - (intOf s3).toNat)
 exact⟨0,yu _,rfl,λj hj=>absurd hj (xW _),dl.out⟩
 obtain⟨k,hk,rfl,bf,K⟩:=hrel;have cy:=AA bf;clear bf;obtain⟨x0,z,x2,x3,x4,x5,x6,x7,x8⟩:=AD (AB HN.out K)
 by_cases ac:k<16
 .have iD:(k:Int)<P.Xx.length:=by have:=jb.out;omega
  have C:=lM.out wr K k ac;cases e1:Gm P k
  .rw[e1] at C
   have S:=AA (show po=false by rw[PO.out,Gj ac e1];simp);clear e1;go_wp2_with (refine C.mono ?_;rintro r w_ ⟨rfl,cg⟩);go_ret;exact⟨AI S.out.symm,ad.out.trans ((K.trans (cg.mono K.size)).mono ad.out.size)⟩
  .rw[e1] at C
   have S:=AA e1;clear e1;go_wp2_with fail;refine C.mono ?_;rintro r w_ ⟨rfl,cg⟩;go_wp2_with fail;go_roundw;exact⟨k+1,by omega,by go_num,Al cy.out S.out,K.trans (cg.mono K.size)⟩;simp[intOf];omega
 .have ek:k=16:=by omega
  have bf:=cy.out;rw[ek] at bf;have er:=AA (show po=(Bh P.Il 0 15&&Bh P.UQ 1 6&&decide ((As P.Xx 1:Int)<=P.UQ)) by
   rw[PO.out,show(yN 16).all (Gm P)=true from yr.2 λj hj=>bf j (yj.1 hj)];simp)
  have iD:¬(k:Int)<P.Xx.length:=by have:=jb.out;omega
  have fh:=AW (AB HN.out K);have gY:=λW (hW:Below wr.heap.size wr W)=>A3 (Cx P.Il 0 15 W)
  have gX:=λW (hW:Below wr.heap.size wr W)=>A3 (Cx P.UQ 1 6 W)
  have jH:=λW (hW:Below wr.heap.size wr W)=>NW mv iv ev cv sv lv _ P 1 W (BG.below (BG.below HR.out.2.2.2 K) hW) (by have:=jb.out;omega)
  unfold AQ at jH;generalize As P.Xx 1=cn at jH er;have CN:=AA jH;clear cy bf jH PO lM;cases O:Bh P.Il 0 15
  .rw[O] at gY
   have CH:=AA gY;have S:=AA (show po=false by rw[er.out,O];rfl);clear gY gX O;go_wp2_with fail;refine Ac 14 62 [.p w.heap.size 7,.i (P.Il),.b false,.b false,.u,.u,.u,.b false,.b false,.u,.u,.u,.u,.u] (λ_ _ _=>True) ?_ ?_
   .intro i hi o E a wx H A Z hb X
    match i,hi with
    |0,_|3,_|7,_|8,_=>exact sP E X H A
    |1,_=>exact sL E X H A (hl:=Fy (bc Z fh x7))
    |2,_=>exact sD E X H A (CH.out _ Z)
    |4,_|5,_|6,_|9,_|10,_|11,_|12,_|13,_=>exact sB E X A
   .intro L wx hR Z
    have q8:(L 8)=.bool false:=Bg hR 8;clear hR;simp only[Aj,Ag,yN,yJ,yK,yI,q8];simp;clear q8;have eA:=K.trans (Z.mono K.size);clear x0 z x2 x3 x4 x5 x6 x7 x8 Z;go_wp2_with fail;go_ret;exact⟨AI S.out.symm,ad.out.trans (eA.mono ad.out.size)⟩
  .rw[O] at gY
   have CH:=AA gY;cases R:Bh P.UQ 1 6
   .rw[R] at gX
    have CL:=AA gX;have S:=AA (show po=false by rw[er.out,O,R];rfl);clear gY gX O R;go_wp2_with fail;refine Ac 14 62 [.p w.heap.size 7,.i (P.Il),.b true,.b true,.p w.heap.size 8,.i (P.UQ),.b false,.b false,.b false,.u,.u,.u,.u,.u] (λ_ _ _=>True) ?_ ?_
    .intro i hi o E a wx H A Z hb X
     have bx:=bc Z fh x7;have bk:=bc Z fh x8
     match i,hi with
     |0,_|3,_|4,_|7,_|8,_=>exact sP E X H A
     |1,_|5,_=>exact sL E X H A (hl:=Fy ‹_›)
     |2,_=>exact sD E X H A (CH.out _ Z)
     |6,_=>exact sD E X H A (CL.out _ Z)
     |9,_|10,_|11,_|12,_|13,_=>exact sB E X A
    .intro L wx hR Z
     have q8:(L 8)=.bool false:=Bg hR 8;clear hR;simp only[Aj,Ag,yN,yJ,yK,yI,q8];simp;clear q8;have eA:=K.trans (Z.mono K.size);clear x0 z x2 x3 x4 x5 x6 x7 x8 Z;go_wp2_with fail;go_ret;exact⟨AI S.out.symm,ad.out.trans (eA.mono ad.out.size)⟩
   .rw[R] at gX
    have CL:=AA gX;have S:=AA (show po=decide ((cn:Int)<=P.UQ) by rw[er.out,O,R];rfl);clear gY gX O R;go_wp2_with fail;refine Ac 14 62 [.p w.heap.size 7,.i (P.Il),.b true,.b true,.p w.heap.size 8,.i (P.UQ),.b true,.b true,.b true,.a #[mv,iv,ev,cv,sv,lv,.slice aq P.Xx.length cq,.int .i64 (P.Il),.int .i64 (P.UQ)],.i ((cn:Int)),.p w.heap.size 8,.i (P.UQ),.b (decide ((cn:Int)<=P.UQ))] (λ_ _ _=>True) ?_ ?_
    .intro i hi o E a wx H A Z hb X
     have bx:=bc Z fh x7;have bk:=bc Z fh x8;have bw:=bc Z fh x0;have bN:=bc Z fh z;have bn:=bc Z fh x2;have cP:=bc Z fh x3;have gb:=bc Z fh x4;have g0:=bc Z fh x5;have ii:=bc Z fh x6
     match i,hi with
     |0,_|3,_|4,_|7,_|8,_|11,_=>exact sP E X H A
     |1,_|5,_|12,_=>exact sL E X H A (hl:=Fy ‹_›)
     |2,_=>exact sD E X H A (CH.out _ Z)
     |6,_=>exact sD E X H A (CL.out _ Z)
     |9,_=>exact sL E X H A (hl:=Wl ‹_› ‹_› ‹_› ‹_› ‹_› ‹_› ‹_› ‹_› ‹_›)
     |10,_=>exact sD E X H A (CN.out _ Z)
     |13,_=>clear bx bk bw bN bn cP gb g0 ii;obtain rfl:=yQ E;have iQ:(a.tmps[57]?.getD undef)=.int .i64 cn:=BY A 10;have eB:(a.tmps[59]?.getD undef)=.int .i64 (P.UQ):=BY A 12;have d8:(a.tmps[55]?.getD undef)=.bool true:=BY A 8;clear A H;refine AY.yes rfl rfl d8 ?_;go_simp;exact X.out _ _ rfl (yO _ _)
    .intro L wx hR Z
     have q8:(L 8)=.bool true:=Bg hR 8;have ig:(L 13)=.bool (decide ((cn:Int)<=P.UQ)):=Bg hR 13;clear hR;simp only[Aj,Ag,yN,yJ,yK,yI,q8,ig];simp;clear q8 ig;have eA:=K.trans (Z.mono K.size);clear x0 z x2 x3 x4 x5 x6 x7 x8 Z;go_wp2_with fail;go_ret;exact⟨AI S.out.symm,ad.out.trans (eA.mono ad.out.size)⟩
theorem LR(mv iv ev cv sv lv qv:Value)(P:AR)(w:World)(h:KR w mv iv ev cv sv lv qv P)(hP:Ec P){n:Nat}(hn:n<16):
 Calls prog 140 #[AQ mv iv ev cv sv lv qv P.Il P.UQ,.int .i64 n] w (KX w (CJ P n)):=by
 have dm:=λlo W m i e c s l q (h1:Fh lo W m i e c s l q P) (hl:lo<=W.heap.size)=>UG h1 hl hP hn
 have HT:=λ(h:(CJ P n).2=false)=>Ij hP hn h
 generalize CJ P n=t at dm HT ⊢;obtain⟨Q,bb⟩:=t;unfold Mr AQ at dm;dsimp only at dm HT ⊢;have dm:=AA dm;have HT:=AA HT;unfold AQ KX AQ;obtain⟨N0,N1,ar,bp⟩:=Ki w (.cells #[mv,iv,ev,cv,sv,lv,qv,.int .i64 P.Il,.int .i64 P.UQ] 32) (.cells #[.slice none 0 0,.slice none 0 0,.slice none 0 0,.slice none 0 0,.slice none 0 0,.slice none 0 0,.slice none 0 0,.int .i64 0,.int .i64 0] 32);have h0:=h.below ar;have cT:CU P=true:=EP.2 hP;obtain⟨x0,z,x2,x3,x4,x5,x6,x7,x8⟩:=AD N0;have gv:=AA bp;clear bp;go_in;go_wp2_with fail;generalize(w.alloc _).alloc _=W0 at*;have CV:=GL mv iv ev cv sv lv qv P W0 h0 (Cc hP.k);have CO:=AA (λW (hW:Below W0.heap.size W0 W)=>Lr mv iv ev cv sv lv qv P W (h0.below hW) hP);rw[cT] at CV;unfold AQ at CV CO;have bO:=AA ar;have ad:=AA N0;have dl:=AA N1;have qT:=AA hP;have hE:Bh (n:Int) 0 15=true:=AZ.2 (by omega);clear h h0 ar N0 N1 hP cT x0 z x2 x3 x4 x5 x6 x7 x8;refine CV.mono ?_;rintro r w1 ⟨rfl,b1⟩;obtain⟨x0,z,x2,x3,x4,x5,x6,x7,x8⟩:=AD (AB ad.out b1);have el:=AA b1;clear b1 CV;go_wp2_with fail;refine(Cx _ _ _ _).mono ?_;rintro r w2 ⟨rfl,rfl⟩;rw[hE];go_wp2_with fail;refine(CO.out w1 el.out).mono ?_;rintro r w2 ⟨m2,i2,e2,c2,s2,l2,q2,rfl,O2,b2⟩;unfold AQ;obtain⟨⟨⟨ma,mn,mc,rfl⟩,⟨ia,iN,ic,rfl⟩,⟨ea,en,ec,rfl⟩,⟨ka,kn,kc,rfl⟩⟩,⟨sa,sn,sc,rfl⟩,⟨la,ln,lc,rfl⟩,⟨pa,pn,pc,rfl⟩⟩:=O2.Ex;have CT:=AA (dm.out _ _ _ _ _ _ _ _ _ O2 b2.size);clear dm;have jf:=AA b2;clear O2 b2 x0 z x2 x3 x4 x5 x6 x7 x8;go_wp2_with fail;refine CT.out.mono ?_;rintro r w3 ⟨hy,kq,b3,s3⟩;have iX:=el.out.trans ((jf.out.trans b3).mono el.out.size);have B2:=AB (AB dl.out el.out) jf.out;have N3:=s3 _ _ B2;cases bb
 focus
  obtain rfl:=kq rfl
  obtain rfl:=HT.out rfl;have b4:=AJ w3 (.cells #[.slice ma mn mc,.slice ia iN ic,.slice ea en ec,.slice ka kn kc,.slice sa sn sc,.slice la ln lc,.slice pa pn pc,.int .i64 Q.Il,.int .i64 Q.UQ] 32);have B4:=AB N3 b4;have jy:=iX.trans (b4.mono iX.size);obtain⟨x0,z,x2,x3,x4,x5,x6,x7,x8⟩:=AD (AB ad.out jy);have cz:=AA (bO.out.trans (jy.mono bO.out.size));have nb:=AA (CO.out _ jy);have gW:=AA B4;clear hy kq b3 s3 iX B2 N3 b4 jy CT B4;go_wp2_with fail;refine nb.out.mono ?_;rintro r w5 ⟨m5,i5,e5,c5,s5,l5,q5,rfl,O5,b5⟩;unfold AQ;clear x0 z x2 x3 x4 x5 x6 x7 x8 nb;generalize w3.alloc _=W4 at*;obtain⟨⟨⟨_,_,_,rfl⟩,⟨_,_,_,rfl⟩,⟨_,_,_,rfl⟩,⟨_,_,_,rfl⟩⟩,⟨_,_,_,rfl⟩,⟨_,_,_,rfl⟩,⟨_,_,_,rfl⟩⟩:=O5.Ex;have N5:=AB gW.out b5;have S5:=DK N5 O5;obtain⟨a0,a1,a2,a3,a4,a5,a6,a7,a8⟩:=AD N5;have f5:=AK N5;have hX:=AA S5;have lC:=AA b5;have mT:=AA (AW gW.out)
 rotate_left
 focus
  obtain⟨m3,i3,e3,c3,pX,l3,q3,rfl,O3⟩:=hy rfl
  obtain⟨⟨⟨jU,jS,bN,rfl⟩,⟨j7,kf,j4,rfl⟩,⟨kX,kR,kU,rfl⟩,⟨j1,jV,jY,rfl⟩⟩,⟨nz,nq,nu,rfl⟩,⟨nQ,nO,nP,rfl⟩,⟨nF,nD,nE,rfl⟩⟩:=O3.Ex;have b5:=AJ w3 (.cells #[.slice jU jS bN,.slice j7 kf j4,.slice kX kR kU,.slice j1 jV jY,.slice nz nq nu,.slice nQ nO nP,.slice nF nD nE,.int .i64 Q.Il,.int .i64 Q.UQ] 32);have O5:=(O3.below b5).lower (lo':=w.heap.size) (yL bO.out.size el.out.size);have cz:=AA (bO.out.trans (iX.mono bO.out.size));have mY:=AA N3;clear hy kq b3 s3 iX B2 CT O3 N3;have N5:=AB mY.out b5;have S5:=DK N5 O5;obtain⟨a0,a1,a2,a3,a4,a5,a6,a7,a8⟩:=AD N5;have f5:=AK N5;have hX:=AA S5;have lC:=AA b5;have mT:=AA (AW mY.out)
 rotate_left
 all_goals
  clear O5 S5 N5 b5;go_wp2_with fail;clear a0 a1 a2 a3 a4 a5 a6 a7 a8 f5;obtain⟨N6,O6,dg⟩:=hX.out;have B6:=AM (cz.out.trans (lC.out.mono (by have:=cz.out.size;have:=mT.out;omega))) dg (by omega) (by have:=cz.out.size;have:=lC.out.size;omega);have O7:=O6.lower (lo':=w.heap.size) (by have:=cz.out.size;omega);unfold Fd at N6 O7 B6;exact yC (v:=.tuple #[.agg #[_,_,_,_,_,_,_,_,_],_]) (by simp[results,Tryz.results140,go_sem,AD N6]) rfl ⟨_,_,_,_,_,_,_,rfl,O7,B6⟩
theorem RD(mv iv ev cv sv lv qv:Value)(P:AR)(w:World)(h:KR w mv iv ev cv sv lv qv P)(hP:Ec P){a:Nat}(ha:a<64):
 Calls prog 84 #[AQ mv iv ev cv sv lv qv P.Il P.UQ,.int .i64 a] w (Xc w (LN P a)):=by
 obtain⟨j,hj⟩:∃j,j=a/4:=⟨_,rfl⟩
 have q1:(a:Int)/4=(j:Int):=by omega
 have hA:Bh (a:Int) 0 63=true:=AZ.2 (by omega);have eN:=TY (p:=P) (n:=a/4) hP (by omega);have eO:=Xi hP ha;have ay:=λQ=>Zo (p:=P) (a:=a) (Q:=Q)
 have fB:j<16:=by omega
 have fZ:=λ(h:(CJ P j).2=false)=>Ij hP fB h
 have dm:=λW (hR:KR W mv iv ev cv sv lv qv P)=>LR mv iv ev cv sv lv qv P W hR hP fB
 rw[<-hj] at eN eO ay;generalize CJ P j=t at eN eO ay dm fZ;generalize LN P a=tt at eO ay ⊢;obtain⟨Q,bb⟩:=t;dsimp only at eN eO ay dm fZ;have HC:=λm i e c W (hR:Le W m i e c Q.Vw)=>Fs hR eN.k 10 (a:Int) 0 0 (by decide)
 have ay:=ay Q;generalize Ae Q.Vw (Ai 10 (a:Int) 0 0)=res at HC ay;obtain⟨kr,vr,nr⟩:=res;unfold Kq at HC;dsimp only at HC ay;have HC:=AA HC;unfold KX AQ at dm;have dm:=AA dm;unfold AQ Xc AQ;obtain⟨N0,N1,ar,bp⟩:=Ki w (.cells #[mv,iv,ev,cv,sv,lv,qv,.int .i64 P.Il,.int .i64 P.UQ] 32) (.cells #[.slice none 0 0,.slice none 0 0,.slice none 0 0,.slice none 0 0,.slice none 0 0,.slice none 0 0,.slice none 0 0,.int .i64 0,.int .i64 0] 32);have h0:=h.below ar;have cT:CU P=true:=EP.2 hP;obtain⟨x0,z,x2,x3,x4,x5,x6,x7,x8⟩:=AD N0;have gv:=AA bp;clear bp;go_in;go_wp2_with fail;generalize(w.alloc _).alloc _=W0 at*;have CV:=GL mv iv ev cv sv lv qv P W0 h0 (Cc hP.k);rw[cT] at CV;have cN:=AA h0;have gS:=AA fZ;unfold AQ at CV;have pA:=AA eN;have gU:=AA eO;have eD:=AA ay;have bO:=AA ar;have ad:=AA N0;have dl:=AA N1;clear h h0 ar N0 N1 hP cT x0 z x2 x3 x4 x5 x6 x7 x8 eN eO ay hj fZ;refine CV.mono ?_;rintro r w1 ⟨rfl,b1⟩;obtain⟨x0,z,x2,x3,x4,x5,x6,x7,x8⟩:=AD (AB ad.out b1);have el:=AA b1;clear b1 CV;go_wp2_with fail;refine(KM _ _).mono ?_;rintro r w2 ⟨rfl,rfl⟩;rw[hA];go_wp2_with fail;refine(dm.out w1 (cN.out.below el.out)).mono ?_;rintro r w2 ⟨m2,i2,e2,c2,s2,l2,q2,rfl,O2,b2⟩;obtain⟨⟨⟨ma,mn,mc,rfl⟩,⟨ia,iN,ic,rfl⟩,⟨ea,en,ec,rfl⟩,⟨qa,qn,qc,rfl⟩⟩,⟨sa,sn,sc,rfl⟩,⟨la,ln,lc,rfl⟩,⟨pa,pn,pc,rfl⟩⟩:=O2.Ex;have bA:=AJ w2 (.cells #[.slice ma mn mc,.slice ia iN ic,.slice ea en ec,.slice qa qn qc,.slice sa sn sc,.slice la ln lc,.slice pa pn pc,.int .i64 Q.Il,.int .i64 Q.UQ] 32);have I3:=JR.start O2 b2.size;have cF:=el.out.trans ((b2.trans (bA.mono b2.size)).mono el.out.size);have dn:=AA I3;have N3:=AA (AB dl.out cF);have cz:=AA (bO.out.trans (cF.mono bO.out.size));have eC:=AA (yL bO.out.size el.out.size);have fJ:=AA (yL b2.size bA.size);clear O2 bA I3 cF b2 x0 z x2 x3 x4 x5 x6 x7 x8 dm cN;cases bb
 focus
  have e:=gU.out rfl
  obtain rfl:=gS.out rfl;subst e;clear gU eD gS HC;have S5:=DK N3.out (dn.out.own.lower eC.out);obtain⟨c0,c1,c2,c3,c4,c5,c6,c7,c8⟩:=dn.out.cells;obtain⟨a0,a1,a2,a3,a4,a5,a6,a7,a8⟩:=AD N3.out;have f5:=AK N3.out;have hX:=AA S5;clear S5;go_wp2_with fail;obtain⟨N6,O6,dg⟩:=hX.out;have B6:=AM cz.out dg (by omega) cz.out.size
 rotate_left
 focus
  have e:=eD.out rfl
  subst e;have C3:=AA (HC.out _ _ _ _ _ dn.out.own.ker.rd);obtain⟨c0,c1,c2,c3,c4,c5,c6,c7,c8⟩:=dn.out.cells;clear eD gU gS HC;go_wp2_with fail;generalize hg3:w2.heap.size=g3 at*;generalize w2.alloc _=W3 at*;refine C3.out.mono ?_;rintro r w4 ⟨m4,i4,e4,lj,rfl,O4,b4⟩;obtain⟨⟨eU,eT,bn,rfl⟩,⟨eZ,e7,eY,rfl⟩,⟨fk,fi,fj,rfl⟩,⟨eX,eV,eW,rfl⟩⟩:=O4.Ex;have bA:=AJ w4 (.cells #[.slice eU eT bn,.slice eZ e7 eY,.slice fk fi fj,.slice eX eV eW] 28);have du:=b4.trans (bA.mono b4.size);have I4:=dn.out.below du;have I5:=dn.out.put du (yG _) fJ.out (O4.below bA);have G5:=Aq (w4.alloc (.cells #[.slice eU eT bn,.slice eZ e7 eY,.slice fk fi fj,.slice eX eV eW] 28)) g3 (.slice eU eT bn) (.slice eZ e7 eY) (.slice fk fi fj) (.slice eX eV eW);have N4:=AB N3.out du;have ng:g3≠w.heap.size+1:=λe=>by have O:=dn.out.yU;have R:=AW dl.out;have h3:=el.out.size;omega
  have N5:=Ap N4 G5 ng;have B5:=AM (cz.out.trans (du.mono cz.out.size)) G5 (yL eC.out dn.out.yU) (yL cz.out.size du.size);obtain⟨d0,d1,d2,d3,_⟩:=I4.cells;have fd:=AK I4.yV;generalize hW5:((((w4.alloc _).setCell _ _).setCell _ _).setCell _ _).setCell _ _=W5 at I5 G5 N5 B5;have S6:=DK N5 (I5.own.lower eC.out);obtain⟨y0,y1,y2,y3,y4,y5,y6,y7,y8⟩:=I5.cells;obtain⟨a0,a1,a2,a3,a4,a5,a6,a7,a8⟩:=AD N5;have f5:=AK N5;have gT:=AA S6;have dz:=AA B5;clear S6 b4 bA du O4 I4 I5 G5 N4 N5 B5 C3 c0 c1 c2 c3 c4 c5 c6 c7 c8;go_wp2_with fail;obtain⟨N6,O6,dg⟩:=gT.out;have B6:=AM dz.out dg (by omega) dz.out.size
 rotate_left
 all_goals
  unfold Fd at N6 O6 B6;exact yC (v:=.tuple #[.agg #[_,_,_,_,_,_,_,_,_],_,_]) (by simp[results,Tryz.results84,go_sem,AD N6]) rfl ⟨_,_,_,_,_,_,_,rfl,O6,B6⟩
theorem LQ(mv iv ev cv sv lv qv:Value)(P:AR)(w:World)(h:KR w mv iv ev cv sv lv qv P)(hP:Ec P){a:Nat}(ha:a<64){x:Int}(hx:EB x=true):
 Calls prog 83 #[AQ mv iv ev cv sv lv qv P.Il P.UQ,.int .i64 a,.int .i64 x] w (KX w (JP P a x)):=by
 obtain⟨j,hj⟩:∃j,j=a/4:=⟨_,rfl⟩
 have q1:(a:Int)/4=(j:Int):=by omega
 have hA:Bh (a:Int) 0 63=true:=AZ.2 (by omega);have eN:=TY (p:=P) (n:=a/4) hP (by omega);have eO:=Vh (w:=x) hP ha;have ay:=λQ=>Yy (p:=P) (a:=a) (x:=x) (Q:=Q)
 have fB:j<16:=by omega
 have fZ:=λ(h:(CJ P j).2=false)=>Ij hP fB h
 have dm:=λW (hR:KR W mv iv ev cv sv lv qv P)=>LR mv iv ev cv sv lv qv P W hR hP fB
 rw[<-hj] at eN eO ay;generalize CJ P j=t at eN eO ay dm fZ;generalize JP P a x=tt at eO ay ⊢;obtain⟨Q,bb⟩:=t;dsimp only at eN eO ay dm fZ;have HC:=λm i e c W (hR:Le W m i e c Q.Vw)=>Fs hR eN.k 11 (a:Int) x 0 (by decide)
 have ay:=ay Q;generalize Ae Q.Vw (Ai 11 (a:Int) x 0)=res at HC ay;obtain⟨kr,vr,nr⟩:=res;unfold Kq at HC;dsimp only at HC ay;have HC:=AA HC;unfold KX AQ at dm;have dm:=AA dm;unfold AQ KX AQ;obtain⟨N0,N1,ar,bp⟩:=Ki w (.cells #[mv,iv,ev,cv,sv,lv,qv,.int .i64 P.Il,.int .i64 P.UQ] 32) (.cells #[.slice none 0 0,.slice none 0 0,.slice none 0 0,.slice none 0 0,.slice none 0 0,.slice none 0 0,.slice none 0 0,.int .i64 0,.int .i64 0] 32);have h0:=h.below ar;have cT:CU P=true:=EP.2 hP;obtain⟨x0,z,x2,x3,x4,x5,x6,x7,x8⟩:=AD N0;have gv:=AA bp;clear bp;go_in;go_wp2_with fail;generalize(w.alloc _).alloc _=W0 at*;have CV:=GL mv iv ev cv sv lv qv P W0 h0 (Cc hP.k);rw[cT] at CV;have cN:=AA h0;have gS:=AA fZ;unfold AQ at CV;have pA:=AA eN;have gU:=AA eO;have eD:=AA ay;have bO:=AA ar;have ad:=AA N0;have dl:=AA N1;clear h h0 ar N0 N1 hP cT x0 z x2 x3 x4 x5 x6 x7 x8 eN eO ay hj fZ;refine CV.mono ?_;rintro r w1 ⟨rfl,b1⟩;obtain⟨x0,z,x2,x3,x4,x5,x6,x7,x8⟩:=AD (AB ad.out b1);have el:=AA b1;clear b1 CV;go_wp2_with fail;refine(KM _ _).mono ?_;rintro r w2 ⟨rfl,rfl⟩;rw[hA];go_wp2_with fail;refine(Cx _ _ _ _).mono ?_;rintro r w2 ⟨rfl,rfl⟩;rw[show Bh x 0 9999=true from hx];go_wp2_with fail;refine(dm.out w1 (cN.out.below el.out)).mono ?_;rintro r w2 ⟨m2,i2,e2,c2,s2,l2,q2,rfl,O2,b2⟩;obtain⟨⟨⟨ma,mn,mc,rfl⟩,⟨ia,iN,ic,rfl⟩,⟨ea,en,ec,rfl⟩,⟨qa,qn,qc,rfl⟩⟩,⟨sa,sn,sc,rfl⟩,⟨la,ln,lc,rfl⟩,⟨pa,pn,pc,rfl⟩⟩:=O2.Ex;have bA:=AJ w2 (.cells #[.slice ma mn mc,.slice ia iN ic,.slice ea en ec,.slice qa qn qc,.slice sa sn sc,.slice la ln lc,.slice pa pn pc,.int .i64 Q.Il,.int .i64 Q.UQ] 32);have I3:=JR.start O2 b2.size;have cF:=el.out.trans ((b2.trans (bA.mono b2.size)).mono el.out.size);have dn:=AA I3;have N3:=AA (AB dl.out cF);have cz:=AA (bO.out.trans (cF.mono bO.out.size));have eC:=AA (yL bO.out.size el.out.size);have fJ:=AA (yL b2.size bA.size);clear O2 bA I3 cF b2 x0 z x2 x3 x4 x5 x6 x7 x8 dm cN;cases bb
 focus
  have e:=gU.out rfl
  obtain rfl:=gS.out rfl;subst e;clear gU eD gS HC;have S5:=DK N3.out (dn.out.own.lower eC.out);obtain⟨c0,c1,c2,c3,c4,c5,c6,c7,c8⟩:=dn.out.cells;obtain⟨a0,a1,a2,a3,a4,a5,a6,a7,a8⟩:=AD N3.out;have f5:=AK N3.out;have hX:=AA S5;clear S5;go_wp2_with fail;obtain⟨N6,O6,dg⟩:=hX.out;have B6:=AM cz.out dg (by omega) cz.out.size
 rotate_left
 focus
  have e:=eD.out rfl
  subst e;have C3:=AA (HC.out _ _ _ _ _ dn.out.own.ker.rd);obtain⟨c0,c1,c2,c3,c4,c5,c6,c7,c8⟩:=dn.out.cells;clear eD gU gS HC;go_wp2_with fail;generalize hg3:w2.heap.size=g3 at*;generalize w2.alloc _=W3 at*;refine C3.out.mono ?_;rintro r w4 ⟨m4,i4,e4,lj,rfl,O4,b4⟩;obtain⟨⟨eU,eT,bn,rfl⟩,⟨eZ,e7,eY,rfl⟩,⟨fk,fi,fj,rfl⟩,⟨eX,eV,eW,rfl⟩⟩:=O4.Ex;have bA:=AJ w4 (.cells #[.slice eU eT bn,.slice eZ e7 eY,.slice fk fi fj,.slice eX eV eW] 28);have du:=b4.trans (bA.mono b4.size);have I4:=dn.out.below du;have I5:=dn.out.put du (yG _) fJ.out (O4.below bA);have G5:=Aq (w4.alloc (.cells #[.slice eU eT bn,.slice eZ e7 eY,.slice fk fi fj,.slice eX eV eW] 28)) g3 (.slice eU eT bn) (.slice eZ e7 eY) (.slice fk fi fj) (.slice eX eV eW);have N4:=AB N3.out du;have ng:g3≠w.heap.size+1:=λe=>by have O:=dn.out.yU;have R:=AW dl.out;have h3:=el.out.size;omega
  have N5:=Ap N4 G5 ng;have B5:=AM (cz.out.trans (du.mono cz.out.size)) G5 (yL eC.out dn.out.yU) (yL cz.out.size du.size);obtain⟨d0,d1,d2,d3,_⟩:=I4.cells;have fd:=AK I4.yV;generalize hW5:((((w4.alloc _).setCell _ _).setCell _ _).setCell _ _).setCell _ _=W5 at I5 G5 N5 B5;have S6:=DK N5 (I5.own.lower eC.out);obtain⟨y0,y1,y2,y3,y4,y5,y6,y7,y8⟩:=I5.cells;obtain⟨a0,a1,a2,a3,a4,a5,a6,a7,a8⟩:=AD N5;have f5:=AK N5;have gT:=AA S6;have dz:=AA B5;clear S6 b4 bA du O4 I4 I5 G5 N4 N5 B5 C3 c0 c1 c2 c3 c4 c5 c6 c7 c8;go_wp2_with fail;obtain⟨N6,O6,dg⟩:=gT.out;have B6:=AM dz.out dg (by omega) dz.out.size
 rotate_left
 all_goals
  unfold Fd at N6 O6 B6;exact yC (v:=.tuple #[.agg #[_,_,_,_,_,_,_,_,_],_]) (by simp[results,Tryz.results83,go_sem,AD N6]) rfl ⟨_,_,_,_,_,_,_,rfl,O6,B6⟩
theorem NZ(mv iv ev cv sv lv qv:Value)(P:AR)(call:AU)(w:World)(h:KR w mv iv ev cv sv lv qv P)(hP:Ec P)(he:0<=call.e/\call.e<3)(fS:call.nm.size<=maxLen)(fU:call.c<=9223372036854775807):
 Calls prog 23 #[AQ mv iv ev cv sv lv qv P.Il P.UQ,.agg call.cs] w (KW w (Ig P call)):=by
 unfold AQ KW Ig AQ;have CC:=AA (λW (hR:Le W mv iv ev cv P.Vw)=>Lp hR hP.k call he fS fU);unfold Hy at CC;generalize Ae P.Vw call=res at CC ⊢;obtain⟨kr,vr,nr⟩:=res;obtain⟨ck,ce,ca,cb,cc,nm⟩:=call;simp only[AU.cs] at CC ⊢
 try dsimp only at CC ⊢
 obtain⟨N0,NC,N1,ar,bp⟩:=FY w (.cells #[mv,iv,ev,cv,sv,lv,qv,.int .i64 P.Il,.int .i64 P.UQ] 32) (.cells #[.int .i64 ck,.int .i64 ce,.int .i64 ca,.int .i64 cb,.int .i64 cc,.string nm] 34) (.cells #[.slice none 0 0,.slice none 0 0,.slice none 0 0,.slice none 0 0,.slice none 0 0,.slice none 0 0,.slice none 0 0,.int .i64 0,.int .i64 0] 32);have h0:=h.below ar;have CO:=AA (Lr mv iv ev cv sv lv qv P _ h0 hP);unfold Pd AQ at CO;have lF:=AA h0.1;obtain⟨x0,z,x2,x3,x4,x5,x6,x7,x8⟩:=AD N0;have gv:=AA bp;clear bp h h0 he fS fU hP;go_in;go_wp2_with fail;generalize((w.alloc _).alloc _).alloc _=W0 at*;have bO:=AA ar;have ad:=AA N0;have jj:=AA NC;have dl:=AA N1;clear ar N0 NC N1 x0 z x2 x3 x4 x5 x6 x7 x8;refine CO.out.mono ?_;rintro r w2 ⟨m2,i2,e2,c2,s2,l2,q2,rfl,O2,b2⟩;obtain⟨⟨⟨ma,mn,mc,rfl⟩,⟨ia,iN,ic,rfl⟩,⟨ea,en,ec,rfl⟩,⟨qa,qn,qc,rfl⟩⟩,⟨sa,sn,sc,rfl⟩,⟨la,ln,lc,rfl⟩,⟨pa,pn,pc,rfl⟩⟩:=O2.Ex;have bA:=AJ w2 (.cells #[.slice ma mn mc,.slice ia iN ic,.slice ea en ec,.slice qa qn qc,.slice sa sn sc,.slice la ln lc,.slice pa pn pc,.int .i64 P.Il,.int .i64 P.UQ] 32);have I3:=JR.start O2 b2.size;have cF:=b2.trans (bA.mono b2.size);obtain⟨x0,z,x2,x3,_⟩:=AD (AB ad.out cF);obtain⟨k0,k1,k2,k3,k4,k5⟩:=Gy (AB jj.out cF);have dn:=AA I3;have N3:=AA (AB dl.out cF);have cz:=AA (bO.out.trans (cF.mono bO.out.size));have fJ:=AA (yL b2.size bA.size);have nd:=AA (CC.out _ (lF.out.below cF));clear O2 bA I3 cF b2 CO CC;go_wp2_with fail;generalize hg3:w2.heap.size=g3 at*;generalize w2.alloc _=W3 at*;refine nd.out.mono ?_;rintro r w4 ⟨m4,i4,e4,lj,rfl,O4,b4⟩;obtain⟨⟨eU,eT,bn,rfl⟩,⟨eZ,e7,eY,rfl⟩,⟨fk,fi,fj,rfl⟩,⟨eX,eV,eW,rfl⟩⟩:=O4.Ex;have bA:=AJ w4 (.cells #[.slice eU eT bn,.slice eZ e7 eY,.slice fk fi fj,.slice eX eV eW] 28);have du:=b4.trans (bA.mono b4.size);have I4:=dn.out.below du;have I5:=dn.out.put du (yG _) fJ.out (O4.below bA);have G5:=Aq (w4.alloc (.cells #[.slice eU eT bn,.slice eZ e7 eY,.slice fk fi fj,.slice eX eV eW] 28)) g3 (.slice eU eT bn) (.slice eZ e7 eY) (.slice fk fi fj) (.slice eX eV eW);have N4:=AB N3.out du;have ng:g3≠w.heap.size+1+1:=λe=>by have O:=dn.out.yU;have R:=AW dl.out;omega
 have N5:=Ap N4 G5 ng;have B5:=AM (cz.out.trans (du.mono cz.out.size)) G5 (yL bO.out.size dn.out.yU) (yL cz.out.size du.size);obtain⟨d0,d1,d2,d3,_⟩:=I4.cells;have fd:=AK I4.yV;generalize hW5:((((w4.alloc _).setCell _ _).setCell _ _).setCell _ _).setCell _ _=W5 at I5 G5 N5 B5;have S6:=DK N5 (I5.own.lower bO.out.size);obtain⟨y0,y1,y2,y3,y4,y5,y6,y7,y8⟩:=I5.cells;obtain⟨a0,a1,a2,a3,a4,a5,a6,a7,a8⟩:=AD N5;have f5:=AK N5;have gT:=AA S6;have dz:=AA B5;clear S6 b4 bA du O4 I4 I5 G5 N4 N5 B5 nd x0 z x2 x3 k0 k1 k2 k3 k4 k5;go_wp2_with fail;obtain⟨N6,O6,dg⟩:=gT.out;have B6:=AM dz.out dg (by omega) dz.out.size;unfold Fd at N6 O6 B6;exact yC (v:=.tuple #[.agg #[_,_,_,_,_,_,_,_,_],_]) (by simp[results,Tryz.results23,go_sem,AD N6]) rfl ⟨_,_,_,_,_,_,_,rfl,O6,B6⟩
theorem RH(mv iv ev cv sv lv qv:Value)(P:AR)(call:AU)(w:World)(h:KR w mv iv ev cv sv lv qv P)(V:Jo P.Vw)(ko:(CU P&&Bh call.e 1 2)=false):
 Calls prog 7 #[AQ mv iv ev cv sv lv qv P.Il P.UQ,.agg call.cs] w λr w'=>Th r/\Below w.heap.size w w':=by
 obtain⟨ck,ce,ca,cb,cc,nm⟩:=call;simp only[AU.cs]
 try dsimp only at ko
 unfold AQ Th AQ;obtain⟨N0,NC,N1,ar,bp⟩:=FY w (.cells #[mv,iv,ev,cv,sv,lv,qv,.int .i64 P.Il,.int .i64 P.UQ] 32) (.cells #[.int .i64 ck,.int .i64 ce,.int .i64 ca,.int .i64 cb,.int .i64 cc,.string nm] 34) (.cells #[.slice none 0 0,.slice none 0 0,.slice none 0 0,.slice none 0 0,.slice none 0 0,.slice none 0 0,.slice none 0 0,.int .i64 0,.int .i64 0] 32);have h0:=h.below ar;obtain⟨x0,z,x2,x3,x4,x5,x6,x7,x8⟩:=AD N0;have gv:=AA bp;clear bp;go_in;go_wp2_with fail;generalize((w.alloc _).alloc _).alloc _=W0 at*;have CV:=GL mv iv ev cv sv lv qv P W0 h0 V;unfold AQ at CV;have bO:=AA ar;have dl:=AA N1;have jj:=AA NC;generalize CU P=ok at*;clear h h0 ar N0 N1 NC x0 z x2 x3 x4 x5 x6 x7 x8;refine CV.mono ?_;rintro r w1 ⟨rfl,b1⟩;have Bw:=AA (bO.out.trans (b1.mono bO.out.size));obtain⟨_,k1,_⟩:=Gy (AB jj.out b1);clear CV;cases ok
 rotate_left
 focus
  go_wp2_with fail
  refine(Cx _ _ _ _).mono ?_;rintro r w2 ⟨rfl,rfl⟩;rw[show Bh ce 1 2=false by simpa using ko]
 rotate_left
 all_goals
  clear ko
  have N1:=AB dl.out b1;have f1:=AK N1;obtain⟨a0,a1,a2,a3,a4,a5,a6,a7,a8⟩:=AD N1;have S2:=AA (KI N1 (Bw.out) (by omega));clear N1;go_wp2_with fail;clear a0 a1 a2 a3 a4 a5 a6 a7 a8 f1;obtain⟨N2,B2⟩:=S2.out;unfold Fd at N2 B2;exact yC (v:=.tuple #[.agg #[_,_,_,_,_,_,_,_,_],_]) (by simp[results,Tryz.results7,go_sem,AD N2]) rfl ⟨rfl,B2⟩
theorem Pa(mv iv ev cv sv lv qv:Value)(P:AR)(call:AU)(w:World)(h:KR w mv iv ev cv sv lv qv P)(hP:Ec P)(he:1<=call.e/\call.e<=2)(fS:call.nm.size<=maxLen)(fU:call.c<=9223372036854775807):
 Calls prog 7 #[AQ mv iv ev cv sv lv qv P.Il P.UQ,.agg call.cs] w (KW w (Ig P call)):=by
 have CC:=AA (λW (hR:KR W mv iv ev cv sv lv qv P)=>NZ mv iv ev cv sv lv qv P call W hR hP (by omega) fS fU);have HE:=AA (show Bh call.e 1 2=true from AZ.2 he);unfold KW at CC ⊢;generalize Ig P call=t at CC ⊢;obtain⟨Q,nr⟩:=t;obtain⟨ck,ce,ca,cb,cc,nm⟩:=call;simp only[AU.cs] at CC ⊢;unfold AQ at CC ⊢
 try dsimp only at CC HE ⊢
 obtain⟨N0,NC,N1,ar,bp⟩:=FY w (.cells #[mv,iv,ev,cv,sv,lv,qv,.int .i64 P.Il,.int .i64 P.UQ] 32) (.cells #[.int .i64 ck,.int .i64 ce,.int .i64 ca,.int .i64 cb,.int .i64 cc,.string nm] 34) (.cells #[.slice none 0 0,.slice none 0 0,.slice none 0 0,.slice none 0 0,.slice none 0 0,.slice none 0 0,.slice none 0 0,.int .i64 0,.int .i64 0] 32);have h0:=h.below ar;have cT:CU P=true:=EP.2 hP;obtain⟨x0,z,x2,x3,x4,x5,x6,x7,x8⟩:=AD N0;have gv:=AA bp;clear bp;go_in;go_wp2_with fail;generalize((w.alloc _).alloc _).alloc _=W0 at*;have CV:=GL mv iv ev cv sv lv qv P W0 h0 (Cc hP.k);rw[cT] at CV;unfold AQ at CV;have bO:=AA ar;have ad:=AA N0;have dl:=AA N1;have jj:=AA NC;have cN:=AA h0;clear h h0 ar N0 N1 NC hP cT he fS fU x0 z x2 x3 x4 x5 x6 x7 x8;refine CV.mono ?_;rintro r w1 ⟨rfl,b1⟩;obtain⟨x0,z,x2,x3,x4,x5,x6,x7,x8⟩:=AD (AB ad.out b1);obtain⟨k0,k1,k2,k3,k4,k5⟩:=Gy (AB jj.out b1);have nh:=AA (CC.out w1 (cN.out.below b1));have cz:=AA (bO.out.trans (b1.mono bO.out.size));have N1:=AA (AB dl.out b1);clear CV CC b1;go_wp2_with fail;refine(Cx _ _ _ _).mono ?_;rintro r w2 ⟨rfl,rfl⟩;rw[HE.out];go_wp2_with fail;refine nh.out.mono ?_;rintro r w5 ⟨m5,i5,e5,c5,s5,l5,q5,rfl,O5,b5⟩;obtain⟨⟨⟨ma,mn,mc,rfl⟩,⟨ia,iN,ic,rfl⟩,⟨ea,en,ec,rfl⟩,⟨qa,qn,qc,rfl⟩⟩,⟨sa,sn,sc,rfl⟩,⟨la,ln,lc,rfl⟩,⟨pa,pn,pc,rfl⟩⟩:=O5.Ex;have N5:=AB N1.out b5;have S6:=DK N5 (O5.lower cz.out.size);obtain⟨a0,a1,a2,a3,a4,a5,a6,a7,a8⟩:=AD N5;have f5:=AK N5;have gT:=AA S6;have dz:=AA (cz.out.trans (b5.mono cz.out.size));clear S6 O5 b5 N5 nh x0 z x2 x3 x4 x5 x6 x7 x8 k0 k1 k2 k3 k4 k5;go_wp2_with fail;obtain⟨N6,O6,dg⟩:=gT.out;have B6:=AM dz.out dg (by omega) dz.out.size;unfold Fd at N6 O6 B6;exact yC (v:=.tuple #[.agg #[_,_,_,_,_,_,_,_,_],_]) (by simp[results,Tryz.results7,go_sem,AD N6]) rfl ⟨_,_,_,_,_,_,_,rfl,O6,B6⟩
theorem KR.shp{w:World}{m i e c s l q:Value}{P:AR}(h:KR w m i e c s l q P):((∃a n q,m=.slice a n q)/\(∃a n q,i=.slice a n q)/\(∃a n q,e=.slice a n q)/\∃a n q,c=.slice a n q)/\(∃a n q,s=.slice a n q)/\(∃a n q,l=.slice a n q)/\∃a n r,q=.slice a n r:=by obtain⟨⟨O,R,h3,h4⟩,h5,h6,h7⟩:=h;obtain⟨_,_,rfl,_⟩:=O.open;obtain⟨_,_,rfl,_⟩:=R.shape;obtain⟨_,_,rfl,_⟩:=h3.open;obtain⟨_,_,rfl,_⟩:=h4.shape;obtain⟨_,_,rfl,_⟩:=h5.open;obtain⟨_,_,rfl,_⟩:=h6.open;obtain⟨_,_,rfl,_⟩:=h7.shape;exact⟨⟨⟨_,_,_,rfl⟩,⟨_,_,_,rfl⟩,⟨_,_,_,rfl⟩,⟨_,_,_,rfl⟩⟩,⟨_,_,_,rfl⟩,⟨_,_,_,rfl⟩,⟨_,_,_,rfl⟩⟩
def cA:AR:=⟨⟨[],[],[],[]⟩,[],[],[],0,0⟩
theorem Vt(w:World):KR w (.slice none 0 0) (.slice none 0 0) (.slice none 0 0) (.slice none 0 0) (.slice none 0 0) (.slice none 0 0) (.slice none 0 0) cA:=
 ⟨⟨⟨[],AO.rd (MR Gc 0 29 1 w),GE.nil⟩,AO.rd (MR At 0 91 3 w),⟨[],AO.rd (MR Eu 0 66 2 w),GE.nil⟩,AO.rd (MR AX 0 96 4 w)⟩,⟨[],AO.rd (MR Gc 0 29 1 w),GE.nil⟩,AG.rd (lo:=0) (World.ownsRow_nil _ _ _ _),AO.rd (MR DI 0 74 3 w)⟩
def LC(P:AR)(c:AU):AR×Int:=if(CU P&&Bh c.e 1 2)=true then Ig P c else(cA,5)
def dT(w:World)(t:AR×Int)(r:Ending)(w':World):Prop:=∃m i e c s l q,r=.returned (.tuple #[AQ m i e c s l q t.1.Il t.1.UQ,.int .i64 t.2])/\KR w' m i e c s l q t.1/\Below w.heap.size w w'
theorem Zz(mv iv ev cv sv lv qv:Value)(P:AR)(call:AU)(w:World)(h:KR w mv iv ev cv sv lv qv P)(V:Jo P.Vw)(fS:call.nm.size<=maxLen)(fU:call.c<=9223372036854775807):
 Calls prog 6 #[AQ mv iv ev cv sv lv qv P.Il P.UQ,.agg call.cs] w (dT w (LC P call)):=by
 unfold LC;cases K:(CU P&&Bh call.e 1 2)
 .exact(Rk _ _ _ _ _ _ _ P call w h V K).mono λ_ w' ⟨O,R⟩=>⟨_,_,_,_,_,_,_,O,Vt w',R⟩
 .obtain⟨O,R⟩:=wj.1 K
  exact(P8 _ _ _ _ _ _ _ P call w h (EP.1 O) (AZ.1 R) fS fU).mono λ_ _ ⟨m,i,e,c,s,l,q,O,R,h3⟩=>⟨m,i,e,c,s,l,q,O,R.rd,h3⟩
theorem Z0(mv iv ev cv sv lv qv:Value)(P:AR)(call:AU)(w:World)(h:KR w mv iv ev cv sv lv qv P)(V:Jo P.Vw)(fS:call.nm.size<=maxLen)(fU:call.c<=9223372036854775807):
 Calls prog 7 #[AQ mv iv ev cv sv lv qv P.Il P.UQ,.agg call.cs] w (dT w (LC P call)):=by
 unfold LC;cases K:(CU P&&Bh call.e 1 2)
 .exact(RH _ _ _ _ _ _ _ P call w h V K).mono λ_ w' ⟨O,R⟩=>⟨_,_,_,_,_,_,_,O,Vt w',R⟩
 .obtain⟨O,R⟩:=wj.1 K
  exact(Pa _ _ _ _ _ _ _ P call w h (EP.1 O) (AZ.1 R) fS fU).mono λ_ _ ⟨m,i,e,c,s,l,q,O,R,h3⟩=>⟨m,i,e,c,s,l,q,O,R.rd,h3⟩
theorem Qj{P:AR}{c:AU}(h:(LC P c).2≠5):Ec P/\1<=c.e/\c.e<=2/\LC P c=Ig P c:=by
 unfold LC at h ⊢
 by_cases K:(CU P&&Bh c.e 1 2)=true
 .rw[if_pos K]
  obtain⟨O,R⟩:=wj.1 K;obtain⟨h3,h4⟩:=AZ.1 R;exact⟨EP.1 O,h3,h4,rfl⟩
 .rw[if_neg K] at h
  exact absurd rfl h
def Dr(Y:World)(g N:Nat)(w:World):Prop:=FD Y w (.pointer (some ⟨g,0,none⟩)) N/\Below Y.heap.size Y w/\Y.heap.size<=g/\g<w.heap.size
theorem Dr.of{Y w:World}{h2:Value}{N:Nat}(h:FD Y w h2 N)(K:Below Y.heap.size Y w):∃g,h2=.pointer (some ⟨g,0,none⟩)/\Dr Y g N w:=by obtain⟨g,lk,bs,p,rfl,hg,fX,hr⟩:=h;exact⟨g,rfl,⟨g,lk,bs,p,rfl,hg,fX,hr⟩,K,hg,(Array.getElem?_eq_some_iff.1 fX).1⟩
theorem Dr.keep{Y w w':World}{g N:Nat}{row:Option Nat}(h:Dr Y g N w)(hg:w.grownBy w' row)(O:row≠some g)(R:∀k,row=some k->Y.heap.size<=k):Dr Y g N w':=by
 obtain⟨⟨g',lk,bs,p,hR,oF,fX,hr⟩,K,ax,ac⟩:=h;obtain rfl:g=g':=by simpa using hR
 exact⟨⟨g,lk,bs,p,rfl,oF,(hg.block g ac (λe=>O e.symm)).trans fX,hr⟩,K.grown hg K.size R,ax,yv ac hg.size⟩
theorem Dr.below{Y w w':World}{g N:Nat}(h:Dr Y g N w)(K:Below w.heap.size w w'):Dr Y g N w':=h.keep (Aa K none) (by simp) (λk hk=>by cases hk)
theorem Dr.alloc{Y w:World}{g N:Nat}(h:Dr Y g N w)(o:Obj):Dr Y g N (w.alloc o):=h.below (AJ _ _)
theorem Dr.mono{Y w:World}{g N M:Nat}(h:Dr Y g N w)(hm:N<=M):Dr Y g M w:=⟨h.1.mono hm,h.2⟩
theorem Dr.set{Y w:World}{g N b:Nat}(h:Dr Y g N w)(ep:b≠g)(K:Y.heap.size<=b):Dr Y g N (w.setCell ⟨b,j,none⟩ u):=
 h.keep (Ak w b j u) (by simpa using ep) (λk hk=>by cases hk;exact K)
theorem Dr.lt{Y w:World}{g N:Nat}(h:Dr Y g N w):g<w.heap.size:=h.2.2.2
theorem Dr.pick{Y w:World}{g N:Nat}(n:Int)(h:Dr Y g N w)(hN:N<=1000000:=by omega)(hn:n<=1000000:=by decide):
 Calls prog 17 #[.pointer (some ⟨g,0,none⟩),.int .i64 n] w λe w'=>∃x:Int,e=.returned (.int .i64 x)/\0<=x/\(0<n->x<n)/\Dr Y g (N+1) w'/\w.grownBy w' (some g):=
 (Z7 Y _ N n w h.1 h.2.1 hN hn).mono λ_ _ hp=>by
  obtain⟨x,rfl,⟨eG,fQ,gF⟩,hr,fY,g1,gK,az⟩:=hp;obtain rfl:g=g1:=by simpa using gK
  exact⟨x,rfl,eG,fQ,⟨hr,fY,h.2.2.1,yv h.2.2.2 az.size⟩,az⟩
theorem H7{Y w:World}{row:Option Nat}(h:Y.grownBy w row)(o:Obj):Y.grownBy (w.alloc o) row:=AP h (Aa (AJ _ _) row)
theorem Cj{Y w:World}{row:Option Nat}(h:Y.grownBy w row){b j:Nat}(K:Y.heap.size<=b)(u:Value):Y.grownBy (w.setCell ⟨b,j,none⟩ u) row:=
 ⟨h.os,h.tape,h.output,by simpa using h.size,λk hk ep=>(tX w ⟨b,j,none⟩ k u (by intro e;simp at e;omega)).trans (h.block k hk ep)⟩
def Gp(Y:World)(g N:Nat)(w:World)(P:Value->Prop)(e:Ending)(w':World):Prop:=∃v,e=.returned v/\P v/\Dr Y g N w'/\w.grownBy w' (some g)
theorem Ob{Y w:World}{g N:Nat}(b n:Nat)(ss:List ByteArray)(h:Dr Y g N w)(hN:N<=1000000)(hn:ss.length=n)(h0:0<n)(O:n<=1000)(ep:b≠g)(K:b<w.heap.size)(hc:∀k,k<n->w.cell? ⟨b,k,none⟩=some (.string (Cp ss k))):
 Calls prog 43 #[.pointer (some ⟨g,0,none⟩),.slice (some ⟨b,0,none⟩) n n] w (Gp Y g (N+1) w λv=>∃s,s∈ss/\v=.string s):=by
 have Hc:=AA hc;clear hc;have Hn:=AA hn;clear hn;go_in;go_wp2_with fail;refine(h.pick _ hN (by omega)).mono ?_;rintro e w1 ⟨x,rfl,io,eG,h',az⟩;have eG:=eG (by omega);obtain⟨x,rfl⟩:=xX io;have HL:w1.cell? ⟨b,x,none⟩=some (.string (Cp ss x)):=(wg (az.block b K (by simpa using ep))).trans (Hc.out x (by omega));have fQ:x<n:=by omega
 go_wp2_with fail;go_ret;exact⟨_,rfl,⟨Cp ss x,yx (Gl (by rw[Hn.out];exact fQ)),rfl⟩,h',az⟩
theorem YS(f:Int)(b:Bool)(w:World)(h0:0<=f)(O:f<=1000):
 Calls prog 93 #[.int .i64 f,.bool b] w λe w'=>e=.returned (.int .i64 (if b then 4*f+3 else 4*f+1))/\w=w':=by
 cases b<;>(go_in;go_wp2_with fail;go_ret;exact⟨rfl,rfl⟩)
theorem EG{w w1:World}{g:Nat}{L:Array Value}{t:Nat}(az:(w.alloc (.cells L t)).grownBy w1 (some g))(ac:g<w.heap.size)(hj:L[j]?=some u):w1.cell? ⟨w.heap.size,j,none⟩=some u:=by refine(wg (az.block w.heap.size (by simp) (by simp;omega))).trans ?_;rw[tx];exact hj
theorem Nb{Y w:World}{g N:Nat}(h:Dr Y g N w)(hN:N<=900000):
 Calls prog 88 #[.pointer (some ⟨g,0,none⟩)] w (Gp Y g (N+3) w λv=>∃x:Int,v=.int .i64 x/\ -1<=x/\x<=9999):=by
 go_in;go_wp2_with fail;refine(h.pick _).mono ?_;rintro e w1 ⟨x,rfl,io,eG,O,g1⟩;have eG:=eG (by decide)
 by_cases hx:x=0
 .subst hx
  go_wp2_with fail;go_ret;exact⟨_,rfl,⟨0,rfl,by decide,by decide⟩,O.mono (by omega),g1⟩
 by_cases js:x=1
 .subst js
  go_wp2_with fail;go_ret;exact⟨_,rfl,⟨0,rfl,by decide,by decide⟩,O.mono (by omega),g1⟩
 by_cases fQ:x=2
 .subst fQ
  clear hx js;go_wp2_with fail;refine((O.alloc _).pick _).mono ?_;rintro e w2 ⟨y,rfl,fN,dx,R,g2⟩;have dx:=dx (by decide);have c0:=EG (j:=0) g2 O.lt rfl;have c1:=EG (j:=1) g2 O.lt rfl;have c2:=EG (j:=2) g2 O.lt rfl;have c3:=EG (j:=3) g2 O.lt rfl;have c4:=EG (j:=4) g2 O.lt rfl;have c5:=EG (j:=5) g2 O.lt rfl;have c6:=EG (j:=6) g2 O.lt rfl;have G:=AA (AP g1 (AP (Aa (AJ _ _) _) g2));clear g1 g2
  rcases(show y=0∨y=1∨y=2∨y=3∨y=4∨y=5∨y=6 by omega) with rfl|rfl|rfl|rfl|rfl|rfl|rfl
  all_goals
   go_wp2_with fail;go_ret;exact⟨_,rfl,⟨_,rfl,by decide,by decide⟩,R.mono (by omega),G.out⟩
 .have t0:(x==0)=false:=by simp[hx]
  have t1:(x==1)=false:=by simp[js]
  have t2:(x==2)=false:=by simp[fQ]
  clear hx js fQ;go_wp2_with fail;refine(O.pick _).mono ?_;rintro e w2 ⟨y,rfl,fN,dx,R,g2⟩;have dx:=dx (by decide);go_wp2_with (refine(R.pick _).mono ?_;rintro e w3 ⟨x1,rfl,qt,dw,h3,g3⟩;have dw:=dw (by decide);have G:=AA (AP (AP g1 g2) g3);clear g1 g2 g3);go_ret;exact⟨_,rfl,⟨_,rfl,by omega,by omega⟩,h3.mono (by omega),G.out⟩
theorem Kc(w:World)(ss:List ByteArray)(t:TypeId){k:Nat}(hk:k<ss.length):(w.alloc (.cells (ss.map Value.string).toArray t)).cell? ⟨w.heap.size,k,none⟩=some (.string (Cp ss k)):=by rw[tx];simp only[List.getElem?_toArray,xz];rw[Gl hk];rfl
theorem Ja{Y w:World}{g N:Nat}(h:Dr Y g N w)(hN:N<=900000):
 Calls prog 94 #[.pointer (some ⟨g,0,none⟩)] w (Gp Y g (N+2) w λv=>∃s,s.size<=8/\v=.string s):=by
 go_in;go_wp2_with fail;refine(h.pick _).mono ?_;rintro e w1 ⟨x,rfl,io,eG,O,g1⟩
 by_cases hx:x=0
 .subst hx
  go_wp2_with fail;refine(Ob w1.heap.size 4 [⟨#[100]⟩,⟨#[65]⟩,⟨#[97,98,99,97,98]⟩,⟨#[97,32,98]⟩] (O.alloc _) (by omega) rfl (by decide) (by decide) (by have:=O.lt;omega) (by simp) (λk hk=>Kc w1 [⟨#[100]⟩,⟨#[65]⟩,⟨#[97,98,99,97,98]⟩,⟨#[97,32,98]⟩] _ hk)).mono ?_;rintro e w2 ⟨v,rfl,⟨s,V,rfl⟩,R,g2⟩;have G:=AA (AP g1 (AP (Aa (AJ _ _) _) g2));have hl:s.size<=8:=by
   simp only[xH,wX,or_false] at V
   rcases V with rfl|rfl|rfl|rfl<;>decide
  clear g1 g2 V;go_wp2_with fail;go_ret;exact⟨_,rfl,⟨s,hl,rfl⟩,R,G.out⟩
 .have t0:(x==0)=false:=by simp[hx]
  clear hx;go_wp2_with fail;refine(Ob w1.heap.size 12 [⟨#[]⟩,⟨#[97]⟩,⟨#[98]⟩,⟨#[99]⟩,⟨#[97,98]⟩,⟨#[97,97]⟩,⟨#[97,98,99]⟩,⟨#[98,97]⟩,⟨#[98]⟩,⟨#[97]⟩,⟨#[97,98,99,97]⟩,⟨#[97,99]⟩] (O.alloc _) (by omega) rfl (by decide) (by decide) (by have:=O.lt;omega) (by simp) (λk hk=>Kc w1 [⟨#[]⟩,⟨#[97]⟩,⟨#[98]⟩,⟨#[99]⟩,⟨#[97,98]⟩,⟨#[97,97]⟩,⟨#[97,98,99]⟩,⟨#[98,97]⟩,⟨#[98]⟩,⟨#[97]⟩,⟨#[97,98,99,97]⟩,⟨#[97,99]⟩] _ hk)).mono ?_;rintro e w2 ⟨v,rfl,⟨s,V,rfl⟩,R,g2⟩;have G:=AA (AP g1 (AP (Aa (AJ _ _) _) g2));have hl:s.size<=8:=by
   simp only[xH,wX,or_false] at V
   rcases V with rfl|rfl|rfl|rfl|rfl|rfl|rfl|rfl|rfl|rfl|rfl|rfl<;>decide
  clear g1 g2 V;go_wp2_with fail;go_ret;exact⟨_,rfl,⟨s,hl,rfl⟩,R,G.out⟩
theorem Tc.info{w:World}{a:Option Addr}{xs:List AV}(h:Tc 3 At w a xs){k:Nat}{x:AV}(hk:xs[k]?=some x):∃b eF,a=some ⟨b,eF,none⟩/\b<w.heap.size/\w.cell? ⟨b,eF+k*3,none⟩=some (.int .i64 x.k)/\w.cell? ⟨b,eF+k*3+1,none⟩=some (.string x.g)/\w.cell? ⟨b,eF+k*3+2,none⟩=some (.int .i64 x.r):=by obtain⟨b,eF,rfl,ac,hc⟩:=h k x hk;exact⟨b,eF,rfl,ac,hc 0 _ rfl,hc 1 _ rfl,hc 2 _ rfl⟩
def aV(xs:List Int):Prop:=∀x∈xs,0<=x/\x<12
theorem PC{Y w:World}{g N:Nat}(m i e c:Value)(xs:List AV)(kind:Int)(h:Dr Y g N w)(hN:N<=900000)(hi:BW w i xs)(hl:xs.length<=12):
 Calls prog 92 #[.pointer (some ⟨g,0,none⟩),.agg #[m,i,e,c],.int .i64 kind] w (Gp Y g (N+1) w λv=>∃x:Int,v=.int .i64 x/\0<=x/\x<12):=by
 obtain⟨a,cp,rfl,hc,kH,H0⟩:=BG.open Av (by decide) hi;unfold maxLen at kH;clear hi;go_in;go_wp2_with fail;have fY:=AJ w (.cells #[m,.slice a xs.length cp,e,c] 28);have mD:(w.alloc (.cells #[m,.slice a xs.length cp,e,c] 28)).heap[w.heap.size]?=some (.cells #[m,.slice a xs.length cp,e,c] 28 (0,0)):=yw w _;have ir:w.heap.size+1=(w.alloc (.cells #[m,.slice a xs.length cp,e,c] 28)).heap.size:=by simp
 generalize w.alloc (.cells #[m,.slice a xs.length cp,e,c] 28)=W at fY mD ir;rw[ir];go_loopw [7,8] (λo i wr=>∃k:Nat,∃ys:List Int,k<=xs.length/\ys.length<=k/\aV ys/\i=.int .i64 k/\AG W.heap.size wr o ys/\Below W.heap.size W wr) (λ_ i _=>xs.length - (intOf i).toNat)
 exact⟨0,[],yu _,yu _,λx hx=>(by cases hx),rfl,Cu _ _ _,AJ _ _⟩
 obtain⟨k,ys,hk,qu,lX,rfl,eL,ef⟩:=hrel;have lq:=AA lX;clear lX;obtain⟨c0,c1,c2,c3⟩:=AE ((ef.block _ (by omega)).trans mD);clear c0 c2 c3
 by_cases ac:k<xs.length
 .obtain⟨x,hx⟩:∃x,xs[k]?=some x:=⟨_,yH ac⟩
  obtain⟨b,eF,rfl,av,D0,_,_⟩:=H0.info hx;have HL:wr.cell? ⟨b,eF+k*3,none⟩=some (.int .i64 x.k):=((fY.trans (ef.mono fY.size)).cell (p:=⟨b,eF+k*3,none⟩) av).trans D0;clear D0 hx
  by_cases eJ:x.k=kind
  .have t0:(x.k==kind)=true:=by simp[eJ]
   clear eJ;have ax:=ef.size;go_wp2_with (at_builtin;go_must (refine Bm (lo:=W.heap.size) (n:=ys.length) (xs:=ys.map (ym .i64)) (m:=1) (news:=[.int .i64 k]) rfl rfl 3 (.int .i64 0) 1 8 underlying29 Tryz.zT rfl (by decide) rfl (Bl eL (AJ _ _)) rfl (Rd.zN _ #[_] _ 1 1 _ (by simp) rfl (by simp[maxLen])) (by simp[xR]) (by unfold maxLen;omega) (by omega) (by simp;omega) ?_;intro o' w4 g1 g2 g3 g4));go_roundw
   case rel=>exact⟨k+1,ys++[(k:Int)],by omega,by simp;omega,λy hy=>by
    rcases wM.1 hy with h'|h'
    .exact lq.out y h'
    .simp at h';subst h';omega,by go_num,by simpa[AG] using g1,(ef.alloc ef.size _).trans g4⟩
   case measure=>simp[intOf];omega
  .have t0:(x.k==kind)=false:=by simp[eJ]
   clear eJ;go_wp2_with fail;go_roundw;exact⟨k+1,ys,by omega,by omega,lq.out,by go_num,eL,ef⟩;simp[intOf];omega
 .have hD:Dr Y g N wr:=(h.below fY).below ef
  have mB:w.grownBy wr (some g):=Aa (fY.trans (ef.mono fY.size)) _;have qG:g<W.heap.size:=yv h.lt fY.size
  by_cases hz:ys.length=0
  .obtain⟨_,_,rfl,_,_⟩:=(AG.rd eL).open
   have t0:((ys.length:Int)==0)=true:=by simp[hz]
   clear hz;go_wp2_with (refine(hD.pick _).mono ?_;rintro e w2 ⟨y,rfl,fN,dx,R,g2⟩;have dx:=dx (by decide));go_ret;exact⟨_,rfl,⟨_,rfl,fN,dx⟩,R,AP mB g2⟩
  .obtain⟨q,cq,rfl,hq,ff⟩:=Jj eL (by omega)
   have t0:((ys.length:Int)==0)=false:=by simp[hz]
   have ox:0<ys.length:=by omega
   have oM:ys.length<=cq/\cq<=maxLen:=by obtain⟨_,_,he,O,R,_⟩:=(AG.rd eL).open;simp at he;obtain⟨_,rfl⟩:=he;exact⟨O,R⟩
   obtain⟨ju,cC⟩:=oM;unfold maxLen at cC;clear hz;go_wp2_with (refine(hD.pick _ (by omega) (by omega)).mono ?_;rintro e w2 ⟨y,rfl,fN,dx,R,g2⟩;have dx:=dx (by omega);obtain⟨y,rfl⟩:=xX fN;have it:=Aw eL g2 (.inr (by simp[vL];omega));have C:=(it.cellAt y (by omega)).trans (Fv (xs:=ys) (by omega));have hx:=lq.out (nth ys y) (by rw[Mz (by omega)];exact List.getElem_mem _));go_ret;exact⟨_,rfl,⟨_,rfl,hx.1,hx.2⟩,R,AP mB g2⟩
def La(x:AU):Prop:=x.nm.size<=8/\0<=x.e/\x.e<3/\x.c<=1000000
def BP(Y:World)(g N:Nat)(w:World)(m i e c:Value)(b:Nat)(wr:World):Prop:=
 ∃x:AU,La x/\Dr Y g N wr/\w.grownBy wr (some g)/\w.heap.size+1<b/\g<w.heap.size/\Y.heap.size<=w.heap.size/\wr.heap[b]?=some (.cells x.cs 34 (0,0))/\
  wr.heap[w.heap.size]?=some (.cells #[m,i,e,c] 28 (0,0))/\(∃y:AU,wr.heap[w.heap.size+1]?=some (.cells y.cs 34 (0,0)))
theorem Gz{w:World}{b:Nat}{x:AU}(h:w.heap[b]?=some (.cells x.cs 34 (0,0))):w.cell? ⟨b,0,none⟩=some (.int .i64 x.k)/\w.cell? ⟨b,1,none⟩=some (.int .i64 x.e)/\w.cell? ⟨b,2,none⟩=some (.int .i64 x.a)/\w.cell? ⟨b,3,none⟩=some (.int .i64 x.b)/\w.cell? ⟨b,4,none⟩=some (.int .i64 x.c)/\w.cell? ⟨b,5,none⟩=some (.string x.nm):=
 ⟨yz w b 0 _ _ _ h,yz w b 1 _ _ _ h,yz w b 2 _ _ _ h,yz w b 3 _ _ _ h,yz w b 4 _ _ _ h,yz w b 5 _ _ _ h⟩
section
variable {Y w wr w':World} {g N M b:Nat} {m i e c:Value}
theorem BP.kc(h:BP Y g N w m i e c b wr):wr.cell? ⟨w.heap.size,0,none⟩=some m/\wr.cell? ⟨w.heap.size,1,none⟩=some i/\wr.cell? ⟨w.heap.size,2,none⟩=some e/\wr.cell? ⟨w.heap.size,3,none⟩=some c:=by obtain⟨x,_,_,_,_,_,_,_,O,_⟩:=h;exact AE O
theorem BP.cc(h:BP Y g N w m i e c b wr):∃x:AU,wr.cell? ⟨b,0,none⟩=some (.int .i64 x.k)/\wr.cell? ⟨b,1,none⟩=some (.int .i64 x.e)/\wr.cell? ⟨b,2,none⟩=some (.int .i64 x.a)/\wr.cell? ⟨b,3,none⟩=some (.int .i64 x.b)/\wr.cell? ⟨b,4,none⟩=some (.int .i64 x.c)/\wr.cell? ⟨b,5,none⟩=some (.string x.nm)/\(∀j,wr.frozen? ⟨b,j,none⟩=false)/\Hid (wr.heap[b]?=some (.cells x.cs 34 (0,0))):=by obtain⟨x,_,_,_,_,_,_,O,_⟩:=h;obtain⟨c0,c1,c2,c3,c4,c5⟩:=Gz O;exact⟨x,c0,c1,c2,c3,c4,c5,AK O,AA O⟩
theorem BP.dr(h:BP Y g N w m i e c b wr):Dr Y g N wr:=by obtain⟨x,_,O,_⟩:=h;exact O
theorem BP.draw(h:BP Y g N w m i e c b wr)(hd:Dr Y g M w')(hg:wr.grownBy w' (some g)):BP Y g M w m i e c b w':=by
 obtain⟨x,h0,O,R,h3,h4,h5,h6,h7,⟨y,h8⟩⟩:=h;have yW:∀{q:Nat} {o:Obj},w.heap.size<=q->wr.heap[q]?=some o->w'.heap[q]?=some o:=λ{q o} hq K=>(hg.block q (AW K) (by simp;omega)).trans K
 exact⟨x,h0,hd,AP R hg,h3,h4,h5,yW (by omega) h6,yW (yG _) h7,⟨y,yW (by omega) h8⟩⟩
theorem BP.put(h:BP Y g N w m i e c b wr)(j:Nat){v:Value}(Hb:∀x:AU,La x->∃y:AU,La y/\y.cs=x.cs.setIfInBounds j v):BP Y g N w m i e c b (wr.setCell ⟨b,j,none⟩ v):=by
 obtain⟨x,h0,O,R,h3,h4,h5,h6,h7,⟨y,h8⟩⟩:=h;obtain⟨x1,z0,z1⟩:=Hb x h0;have K:=yF wr b j _ _ v h6;rw[<-z1] at K;have yW:∀{q:Nat} {o:Obj},q≠b->wr.heap[q]?=some o->(wr.setCell ⟨b,j,none⟩ v).heap[q]?=some o:=λ{q o} hq K=>(tX wr ⟨b,j,none⟩ q _ (λe=>hq (by simpa using e))).trans K
 exact⟨x1,z0,O.set (by omega) (by omega),Cj R (by omega) _,h3,h4,h5,K,yW (by omega) h7,⟨y,yW (by omega) h8⟩⟩
theorem BP.set0(h:BP Y g N w m i e c b wr)(x1:Int):BP Y g N w m i e c b (wr.setCell ⟨b,0,none⟩ (.int .i64 x1)):=h.put 0 λx h=>⟨⟨x1,x.e,x.a,x.b,x.c,x.nm⟩,h,rfl⟩
theorem BP.set1(h:BP Y g N w m i e c b wr)(x1:Int)(hz:0<=x1)(nZ:x1<3):BP Y g N w m i e c b (wr.setCell ⟨b,1,none⟩ (.int .i64 x1)):=h.put 1 λx h=>⟨⟨x.k,x1,x.a,x.b,x.c,x.nm⟩,⟨h.1,hz,nZ,h.2.2.2⟩,rfl⟩
theorem BP.set2(h:BP Y g N w m i e c b wr)(x1:Int):BP Y g N w m i e c b (wr.setCell ⟨b,2,none⟩ (.int .i64 x1)):=h.put 2 λx h=>⟨⟨x.k,x.e,x1,x.b,x.c,x.nm⟩,h,rfl⟩
theorem BP.set3(h:BP Y g N w m i e c b wr)(x1:Int):BP Y g N w m i e c b (wr.setCell ⟨b,3,none⟩ (.int .i64 x1)):=h.put 3 λx h=>⟨⟨x.k,x.e,x.a,x1,x.c,x.nm⟩,h,rfl⟩
theorem BP.set4(h:BP Y g N w m i e c b wr)(x1:Int)(hz:x1<=1000000):BP Y g N w m i e c b (wr.setCell ⟨b,4,none⟩ (.int .i64 x1)):=h.put 4 λx h=>⟨⟨x.k,x.e,x.a,x.b,x1,x.nm⟩,⟨h.1,h.2.1,h.2.2.1,hz⟩,rfl⟩
theorem BP.setS(h:BP Y g N w m i e c b wr)(s:ByteArray)(V:s.size<=8):BP Y g N w m i e c b (wr.setCell ⟨b,5,none⟩ (.string s)):=h.put 5 λx h=>⟨⟨x.k,x.e,x.a,x.b,x.c,s⟩,⟨V,h.2⟩,rfl⟩
theorem BP.gr(h:BP Y g N w m i e c b wr):w.grownBy wr (some g):=by obtain⟨x,_,_,O,_⟩:=h;exact O
theorem BP.ne(h:BP Y g N w m i e c b wr):w.heap.size≠b/\b≠w.heap.size/\w.heap.size+1≠b/\b≠w.heap.size+1:=by obtain⟨x,_,_,_,O,_⟩:=h;omega
theorem dO{w:World}{q:Nat}{x y:AU}(h:w.heap[q]?=some (.cells y.cs 34 (0,0))):
 ((((((w.setCell ⟨q,0,none⟩ (.int .i64 x.k)).setCell ⟨q,1,none⟩ (.int .i64 x.e)).setCell ⟨q,2,none⟩ (.int .i64 x.a)).setCell ⟨q,3,none⟩ (.int .i64 x.b)).setCell ⟨q,4,none⟩ (.int .i64 x.c)).setCell ⟨q,5,none⟩ (.string x.nm)).heap[q]?=some (.cells x.cs 34 (0,0)):=by
 have h0:=yF w q 0 _ _ (.int .i64 x.k) h;have O:=yF _ q 1 _ _ (.int .i64 x.e) h0;have R:=yF _ q 2 _ _ (.int .i64 x.a) O;have h3:=yF _ q 3 _ _ (.int .i64 x.b) R;have h4:=yF _ q 4 _ _ (.int .i64 x.c) h3;have h5:=yF _ q 5 _ _ (.string x.nm) h4;simpa[AU.cs] using h5
theorem BP.qc(h:BP Y g N w m i e c b wr):∃y:AU,wr.cell? ⟨w.heap.size+1,0,none⟩=some (.int .i64 y.k)/\wr.cell? ⟨w.heap.size+1,1,none⟩=some (.int .i64 y.e)/\wr.cell? ⟨w.heap.size+1,2,none⟩=some (.int .i64 y.a)/\wr.cell? ⟨w.heap.size+1,3,none⟩=some (.int .i64 y.b)/\wr.cell? ⟨w.heap.size+1,4,none⟩=some (.int .i64 y.c)/\wr.cell? ⟨w.heap.size+1,5,none⟩=some (.string y.nm)/\∀j,wr.frozen? ⟨w.heap.size+1,j,none⟩=false:=by obtain⟨x,_,_,_,_,_,_,_,_,⟨y,O⟩⟩:=h;obtain⟨c0,c1,c2,c3,c4,c5⟩:=Gz O;exact⟨y,c0,c1,c2,c3,c4,c5,AK O⟩
def aT(Y:World)(g N:Nat)(w:World)(x:AU)(W:World):Prop:=
 (W.cell? ⟨w.heap.size+1,0,none⟩=some (.int .i64 x.k)/\W.cell? ⟨w.heap.size+1,1,none⟩=some (.int .i64 x.e)/\W.cell? ⟨w.heap.size+1,2,none⟩=some (.int .i64 x.a)/\W.cell? ⟨w.heap.size+1,3,none⟩=some (.int .i64 x.b)/\W.cell? ⟨w.heap.size+1,4,none⟩=some (.int .i64 x.c)/\W.cell? ⟨w.heap.size+1,5,none⟩=some (.string x.nm))/\
 Gp Y g N w (λv=>∃x:AU,v=.agg x.cs/\La x) (.returned (.agg x.cs)) W
theorem BP.fin(h:BP Y g N w m i e c b wr)(x:AU)(K:wr.heap[b]?=some (.cells x.cs 34 (0,0)))(hM:N<=M):aT Y g M w x ((((((wr.setCell ⟨w.heap.size+1,0,none⟩ (.int .i64 x.k)).setCell ⟨w.heap.size+1,1,none⟩ (.int .i64 x.e)).setCell ⟨w.heap.size+1,2,none⟩ (.int .i64 x.a)).setCell ⟨w.heap.size+1,3,none⟩ (.int .i64 x.b)).setCell ⟨w.heap.size+1,4,none⟩ (.int .i64 x.c)).setCell ⟨w.heap.size+1,5,none⟩ (.string x.nm)):=by
 obtain⟨x',h0,O,R,h3,h4,h5,h6,h7,⟨y,h8⟩⟩:=h;have hx:La x:=by rw[h6] at K;simp[AU.cs] at K;obtain⟨a0,a1,a2,a3,a4,a5⟩:=K;exact⟨a5▸h0.1,a1▸h0.2.1,a1▸h0.2.2.1,a4▸h0.2.2.2⟩
 have n1:w.heap.size+1≠g:=by omega
 have n2:Y.heap.size<=w.heap.size+1:=by omega
 have n3:w.heap.size<=w.heap.size+1:=by omega
 exact⟨Gz (dO h8),_,rfl,⟨x,rfl,hx⟩,((((((O.set n1 n2).set n1 n2).set n1 n2).set n1 n2).set n1 n2).set n1 n2).mono hM,Cj (Cj (Cj (Cj (Cj (Cj R n3 _) n3 _) n3 _) n3 _) n3 _) n3 _⟩
theorem BP.pk(h:BP Y g N w m i e c b wr)(n:Int)(hN:N<=900000:=by omega)(h0:0<n:=by decide)(hn:n<=1000000:=by decide):Calls prog 17 #[.pointer (some ⟨g,0,none⟩),.int .i64 n] wr λe' w'=>∃x:Int,e'=.returned (.int .i64 x)/\0<=x/\x<n/\BP Y g (N+1) w m i e c b w':=
 (h.dr.pick n (by omega) hn).mono λ_ _ hp=>by obtain⟨x,rfl,O,R,h3,h4⟩:=hp;exact⟨x,rfl,O,R h0,h.draw h3 h4⟩
theorem BP.kd{xs:List AV}(h:BP Y g N w m i e c b wr)(kind:Int)(hN:N<=900000)(hi:∀w',w.grownBy w' (some g)->BW w' i xs)(hl:xs.length<=12):Calls prog 92 #[.pointer (some ⟨g,0,none⟩),.agg #[m,i,e,c],.int .i64 kind] wr λe' w'=>∃x:Int,e'=.returned (.int .i64 x)/\0<=x/\x<12/\BP Y g (N+1) w m i e c b w':=
 (PC m i e c xs kind h.dr hN (hi _ h.gr) hl).mono λ_ _ hp=>by obtain⟨_,rfl,⟨x,rfl,O,R⟩,h3,h4⟩:=hp;exact⟨x,rfl,O,R,h.draw h3 h4⟩
theorem BP.mono(h:BP Y g N w m i e c b wr)(hm:N<=M):BP Y g M w m i e c b wr:=by obtain⟨x,h0,O,R⟩:=h;exact⟨x,h0,O.mono hm,R⟩
end
def ch(g b:Nat)(m i e c:Value)(k:Nat)(v:Value):Prop:=match k with
 |0|2=>v=.pointer (some ⟨g,0,none⟩)
 |1=>v=.agg #[m,i,e,c]
 |3=>∃x1:Int,v=.int .i64 x1/\0<=x1/\x1<2
 |4|5=>∃x1:Int,v=.int .i64 x1
 |6=>v=.pointer (some ⟨b,2,none⟩)
 |_=>True
theorem Wb(f:Int)(b:Bool)(w:World)(h0:0<=f)(O:f<=1000):
 Calls prog 93 #[.int .i64 f,.bool b] w λe w'=>∃d:Int,e=.returned (.int .i64 d)/\d<=1000000/\w=w':=(YS f b w h0 O).mono λ_ _ h=>⟨_,h.1,by split<;>omega,h.2⟩
theorem PB{Y w:World}{g N:Nat}(m i e c:Value)(xs:List AV)(h:Dr Y g N w)(hN:N<=800000)(hi:∀w',w.grownBy w' (some g)->BW w' i xs)(hl:xs.length<=12):
 Calls prog 42 #[.pointer (some ⟨g,0,none⟩),.agg #[m,i,e,c]] w (Gp Y g (N+20) w λv=>∃x:AU,v=.agg x.cs/\La x):=by
 have ac:=h.lt;have bX:Y.heap.size<=w.heap.size:=h.2.1.size;have kC:=hi;have Hi:=AA hi;clear hi kC;go_in;go_wp2_with fail;refine(((h.alloc _).alloc _).pick _).mono ?_;rintro e' w1 ⟨x,rfl,io,eG,O,g1⟩;have eG:=eG (by decide);go_wp2_with fail;refine(O.pick _).mono ?_;rintro e' w2 ⟨y,rfl,fN,dx,R,g2⟩;go_wp2_with fail;refine(Ob w2.heap.size 6 [⟨#[97]⟩,⟨#[98]⟩,⟨#[99]⟩,⟨#[97,98]⟩,⟨#[98,98]⟩,⟨#[97]⟩] (R.alloc _) (by omega) rfl (by decide) (by decide) (by have:=R.lt;omega) (by simp) (λk hk=>Kc w2 [⟨#[97]⟩,⟨#[98]⟩,⟨#[99]⟩,⟨#[97,98]⟩,⟨#[98,98]⟩,⟨#[97]⟩] _ hk)).mono ?_;rintro e' w3 ⟨v,rfl,⟨s,V,rfl⟩,h3,g3⟩;have iB:s.size<=8:=by
  simp only[xH,wX,or_false] at V
  rcases V with rfl|rfl|rfl|rfl|rfl|rfl<;>decide
 go_upto_block 0 with fail;have J:BP Y g (N+3) w m i e c w3.heap.size (w3.alloc (.cells #[.int .i64 (1+x),.int .i64 y,.int .i64 0,.int .i64 0,.int .i64 0,.string s] 34)):=by
  have G:=AP (AP g1 g2) (AP (Aa (AJ _ _) _) g3);have hz:=G.size;simp at hz;have B1:=yw (w.alloc (.cells #[m,i,e,c] 28)) (.cells #[.int .i64 0,.int .i64 0,.int .i64 0,.int .i64 0,.int .i64 0,.string ⟨#[]⟩] 34);have B0:=AB (yw w (.cells #[m,i,e,c] 28)) (AJ _ (.cells #[.int .i64 0,.int .i64 0,.int .i64 0,.int .i64 0,.int .i64 0,.string ⟨#[]⟩] 34));simp only[xK] at B1;have yW:∀{q:Nat} {o:Obj},w.heap.size<=q->((w.alloc (.cells #[m,i,e,c] 28)).alloc (.cells #[.int .i64 0,.int .i64 0,.int .i64 0,.int .i64 0,.int .i64 0,.string ⟨#[]⟩] 34)).heap[q]?=some o->(w3.alloc (.cells #[.int .i64 (1+x),.int .i64 y,.int .i64 0,.int .i64 0,.int .i64 0,.string s] 34)).heap[q]?=some o:=λ{q o} hq K=>AB ((G.block q (AW K) (by simp;omega)).trans K) (AJ _ _)
  exact⟨⟨1+x,y,0,0,0,s⟩,⟨iB,fN,dx (by decide),by simp only;omega⟩,h3.alloc _,H7 (AP (Aa (IH _ _ _) _) G) _,by omega,ac,bX,yw _ _,yW (yG _) B0,⟨⟨0,0,0,0,0,⟨#[]⟩⟩,yW (by omega) B1⟩⟩
 clear O R h3 g1 g2 g3 h V fN dx;generalize w3.alloc (.cells #[.int .i64 (1+x),.int .i64 y,.int .i64 0,.int .i64 0,.int .i64 0,.string s] 34)=wr at J;generalize w3.heap.size=b at J;obtain⟨iH,iG,iF,gL⟩:=J.ne;go_cut [] (λwx=>BP Y g (N+12) w m i e c b wx)
 case first=>
  rcases(show x=0∨x=1∨x=2∨x=3∨x=4∨x=5∨x=6∨x=7∨x=8∨x=9∨x=10 by omega) with rfl|rfl|rfl|rfl|rfl|rfl|rfl|rfl|rfl|rfl|rfl
  .go_wp2_with fail
   go_meet;exact J.mono (by omega)
  .obtain⟨k0,k1,k2,k3⟩:=J.kc
   go_wp2_with fail;refine(J.kd _ (by omega) Hi.out hl).mono ?_;rintro e' w4 ⟨x1,rfl,z0,z1,S4⟩;replace J:=S4;clear S4 k0 k1 k2 k3;obtain⟨z,c0,c1,c2,c3,c4,c5,hf,ao⟩:=J.cc;go_wp2_with fail;go_meet;exact(J.set2 _).mono (by omega)
  .obtain⟨k0,k1,k2,k3⟩:=J.kc
   go_wp2_with fail;refine(J.kd _ (by omega) Hi.out hl).mono ?_;rintro e' w4 ⟨x1,rfl,z0,z1,S4⟩;replace J:=S4;clear S4 k0 k1 k2 k3;obtain⟨z,c0,c1,c2,c3,c4,c5,hf,ao⟩:=J.cc;go_wp2_with fail;refine((J.set2 _).pk _).mono ?_;rintro e' w4 ⟨x1,rfl,z0,z1,S4⟩;replace J:=S4;clear S4 c0 c1 c2 c3 c4 c5 hf ao;obtain⟨z,c0,c1,c2,c3,c4,c5,hf,ao⟩:=J.cc;go_wp2_with fail;refine((J.set3 _).pk _).mono ?_;rintro e' w4 ⟨p,rfl,p0,p1,S4⟩;replace J:=S4;clear S4 c0 c1 c2 c3 c4 c5 hf ao;go_wp2_with fail;refine(J.pk _).mono ?_;rintro e' w4 ⟨q,rfl,q0,q1,S4⟩;replace J:=S4;clear S4
   rcases(show p=0∨p=1 by omega) with rfl|rfl
   rotate_left
   rotate_left
   all_goals
    obtain⟨z,c0,c1,c2,c3,c4,c5,hf,ao⟩:=J.cc
    go_wp2_with fail;go_meet;exact(J.set4 _ (by omega)).mono (by omega)
  .obtain⟨k0,k1,k2,k3⟩:=J.kc
   go_wp2_with fail;refine(J.kd _ (by omega) Hi.out hl).mono ?_;rintro e' w4 ⟨x1,rfl,z0,z1,S4⟩;replace J:=S4;clear S4 k0 k1 k2 k3;obtain⟨z,c0,c1,c2,c3,c4,c5,hf,ao⟩:=J.cc;go_wp2_with fail;refine((J.set2 _).pk _).mono ?_;rintro e' w4 ⟨x1,rfl,z0,z1,S4⟩;replace J:=S4;clear S4 c0 c1 c2 c3 c4 c5 hf ao;obtain⟨z,c0,c1,c2,c3,c4,c5,hf,ao⟩:=J.cc;go_wp2_with fail;go_meet;exact(J.set3 _).mono (by omega)
  .go_wp2_with fail
   refine GM 7 mixed (by kernel_rfl) 152 rfl (by kernel_rfl) (λk v _=>ch g b m i e c k v) (λvs wr=>(vs 3=false->BP Y g (N+3) w m i e c b wr)/\(vs 5=false->BP Y g (N+4) w m i e c b wr)/\BP Y g (N+5) w m i e c b wr) ?_ ?_ ?_
   .have Sd:=J.draw (J.dr.below (A0 (yO _ _) 1)) (Aa (A0 (yO _ _) 1) _)
    exact⟨λ_=>Sd,λ_=>Sd.mono (by omega),Sd.mono (by omega)⟩
   .intro k hk o E a w5 H A vs D Z hb X
    match k,hk with
    |0,_=>
     obtain rfl:=yQ E;have e0:a.tmps[0]?.getD undef=.pointer (some ⟨g,0,none⟩):=by rw[PV H 0];rfl
     clear A H;refine yP ?_;go_simp;exact X.out _ _ rfl ⟨λh=>Z.1 (Dg h),λh=>Z.2.1 (Dg h),Z.2.2⟩ (λj u _ _ _ h=>h)
    |1,_=>
     obtain rfl:=yQ E;have e3:a.tmps[3]?.getD undef=.pointer (some ⟨w.heap.size,0,none⟩):=by rw[PV H 3];rfl
     clear A H;refine yP ?_;obtain⟨k0,k1,k2,k3⟩:=Z.2.2.kc;go_simp;exact X.out _ _ rfl ⟨λh=>Z.1 (Dg h),λh=>Z.2.1 (Dg h),Z.2.2⟩ (λj u _ _ _ h=>h)
    |2,_=>
     obtain rfl:=yQ E;have e0:a.tmps[0]?.getD undef=.pointer (some ⟨g,0,none⟩):=by rw[PV H 0];rfl
     clear A H;refine yP ?_;go_simp;exact X.out _ _ rfl ⟨λh=>Z.1 (Dg h),λh=>Z.2.1 (Dg h),Z.2.2⟩ (λj u _ _ _ h=>h)
    |3,_=>
     obtain rfl:=yQ E;have d2:=BY A 2
     change a.tmps[53]?.getD undef=.pointer (some ⟨g,0,none⟩) at d2
     clear A H;refine yP ?_;have S3:=Z.1 D.out.1;go_simp;refine(S3.dr.pick _).mono ?_;rintro e' w6 ⟨x1,rfl,z0,z1,h6,g6⟩;have S4:=S3.draw h6 g6;exact X.out _ _ ⟨x1,rfl,z0,z1 (by decide)⟩ ⟨λh=>by simp[Gn] at h,λ_=>S4,S4.mono (by omega)⟩ (λj u _ _ _ h=>h)
    |4,_=>
     obtain rfl:=yQ E;have d3:=BY A 3
     change ∃x1:Int,a.tmps[54]?.getD undef=.int .i64 x1/\0<=x1/\x1<2 at d3
     clear A H;refine yP ?_;obtain⟨x1,d3,z0,z1⟩:=d3;go_simp;exact X.out _ _ ⟨_,rfl⟩ ⟨λh=>Z.1 (Dg h),λh=>Z.2.1 (Dg h),Z.2.2⟩ (λj u _ _ _ h=>h)
    |5,_=>
     obtain rfl:=yQ E;have d0:=BY A 0
     change a.tmps[51]?.getD undef=.pointer (some ⟨g,0,none⟩) at d0
     have d1:=BY A 1
     change a.tmps[52]?.getD undef=.agg #[m,i,e,c] at d1
     have d4:=BY A 4
     change ∃x1:Int,a.tmps[55]?.getD undef=.int .i64 x1 at d4
     clear A H;refine yP ?_;obtain⟨x1,d4⟩:=d4;have S4:=Z.2.1 D.out.1;go_simp;refine(PC m i e c xs _ S4.dr (by omega) (Hi.out _ S4.gr) hl).mono ?_;rintro e' w6 ⟨v,rfl,⟨z',rfl,_,_⟩,h6,g6⟩;have S5:=S4.draw h6 g6;have l3:vs 3=true:=D.out.2.2 4 3 (D.out.2.1 4 (by kernel_rfl)) (by kernel_rfl);exact X.out _ _ ⟨_,rfl⟩ ⟨(λh=>by rw[Dg h] at l3;cases l3),λh=>by simp[Gn] at h,S5.mono (by omega)⟩ (λj u _ _ _ h=>h)
    |6,_=>
     obtain rfl:=yQ E;have e5:a.tmps[5]?.getD undef=.pointer (some ⟨b,0,none⟩):=by rw[PV H 5];rfl
     clear A H;refine yP ?_;go_simp;exact X.out _ _ rfl ⟨λh=>Z.1 (Dg h),λh=>Z.2.1 (Dg h),Z.2.2⟩ (λj u _ _ _ h=>h)
   .intro ys w5 hR vs hL Z
    obtain⟨x1,hz⟩:=Bg hR 5;have h6:ys 6=.pointer (some ⟨b,2,none⟩):=Bg hR 6;replace J:=Z.2.2;clear hR hL Z;simp only[Aj,Ag,yN,yJ,yK,yI,hz,h6];simp;generalize ys 0=z0;generalize ys 1=z1;generalize ys 2=z2;generalize ys 3=z3;generalize ys 4=z4;clear hz h6;obtain⟨z,c0,c1,c2,c3,c4,c5,hf,ao⟩:=J.cc;go_wp2_with fail;go_meet;exact(J.set2 _).mono (by omega)
  .go_wp2_with fail
   refine(J.pk _).mono ?_;rintro e' w4 ⟨p,rfl,p0,p1,S4⟩;replace J:=S4;clear S4;obtain⟨k0,k1,k2,k3⟩:=J.kc;go_wp2_with fail;refine(J.kd _ (by omega) Hi.out hl).mono ?_;rintro e' w4 ⟨x1,rfl,z0,z1,S4⟩;replace J:=S4;clear S4 k0 k1 k2 k3;obtain⟨z,c0,c1,c2,c3,c4,c5,hf,ao⟩:=J.cc;go_wp2_with fail;refine((J.set2 _).pk _).mono ?_;rintro e' w4 ⟨x1,rfl,z0,z1,S4⟩;replace J:=S4;clear S4 c0 c1 c2 c3 c4 c5 hf ao;obtain⟨k0,k1,k2,k3⟩:=J.kc;obtain⟨z,c0,c1,c2,c3,c4,c5,hf,ao⟩:=J.cc;go_wp2_with fail;refine((J.set3 _).kd _ (by omega) Hi.out hl).mono ?_;rintro e' w4 ⟨f,rfl,f0,f1,S4⟩;replace J:=S4;clear S4 k0 k1 k2 k3 c0 c1 c2 c3 c4 c5 hf ao;go_wp2_with fail;refine(J.pk _).mono ?_;rintro e' w4 ⟨t,rfl,t0,t1,S4⟩;replace J:=S4;clear S4;go_wp2_with fail;refine(Wb f _ _ (by omega) (by omega)).mono ?_;rintro e' w4 ⟨d,rfl,hd,rfl⟩;obtain⟨z,c0,c1,c2,c3,c4,c5,hf,ao⟩:=J.cc;go_wp2_with fail;refine((J.set4 _ hd).pk _).mono ?_;rintro e' w4 ⟨u,rfl,u0,u1,S4⟩;replace J:=S4;clear S4 c0 c1 c2 c3 c4 c5 hf ao
   by_cases hu:u=0
   .subst hu
    go_wp2_with fail;refine(Nb J.dr (by omega)).mono ?_;rintro e' w4 ⟨v,rfl,⟨z',rfl,_,qs⟩,h4,g4⟩;replace J:=J.draw h4 g4;clear h4 g4;obtain⟨z,c0,c1,c2,c3,c4,c5,hf,ao⟩:=J.cc;go_wp2_with fail;go_meet;exact(J.set4 _ (by omega)).mono (by omega)
   .have t0:(u==0)=false:=by simp[hu]
    clear hu;go_wp2_with fail;go_meet;exact J.mono (by omega)
  .obtain⟨k0,k1,k2,k3⟩:=J.kc
   go_wp2_with fail;refine(J.kd _ (by omega) Hi.out hl).mono ?_;rintro e' w4 ⟨x1,rfl,z0,z1,S4⟩;replace J:=S4;clear S4 k0 k1 k2 k3;obtain⟨z,c0,c1,c2,c3,c4,c5,hf,ao⟩:=J.cc;go_wp2_with fail;refine((J.set2 _).pk _).mono ?_;rintro e' w4 ⟨u,rfl,u0,u1,S4⟩;replace J:=S4;clear S4 c0 c1 c2 c3 c4 c5 hf ao
   by_cases hu:u=0
   .subst hu
    obtain⟨z,c0,c1,c2,c3,c4,c5,hf,ao⟩:=J.cc;go_wp2_with fail;go_meet;exact(J.set2 _).mono (by omega)
   .have t0:(u==0)=false:=by simp[hu]
    clear hu;go_wp2_with fail;go_meet;exact J.mono (by omega)
  rotate_left
  rotate_left
  .go_wp2_with fail
   refine(J.pk _).mono ?_;rintro e' w4 ⟨p,rfl,p0,p1,S4⟩;replace J:=S4;clear S4;go_wp2_with fail;refine(J.pk _).mono ?_;rintro e' w4 ⟨q,rfl,q0,q1,S4⟩;replace J:=S4;clear S4;go_wp2_with fail;refine(J.pk _).mono ?_;rintro e' w4 ⟨r,rfl,r0,r1,S4⟩;replace J:=S4;clear S4
   rcases(show p=0∨p=1 by omega) with rfl|rfl
   .obtain⟨z,c0,c1,c2,c3,c4,c5,hf,ao⟩:=J.cc
    go_wp2_with fail;refine((J.set2 _).pk _).mono ?_;rintro e' w4 ⟨x1,rfl,z0,z1,S4⟩;replace J:=S4;clear S4 c0 c1 c2 c3 c4 c5 hf ao;obtain⟨z,c0,c1,c2,c3,c4,c5,hf,ao⟩:=J.cc;go_wp2_with fail;go_meet;exact(J.set3 _).mono (by omega)
   .obtain⟨z,c0,c1,c2,c3,c4,c5,hf,ao⟩:=J.cc
    go_wp2_with fail;refine((J.set2 _).pk _).mono ?_;rintro e' w4 ⟨x1,rfl,z0,z1,S4⟩;replace J:=S4;clear S4 c0 c1 c2 c3 c4 c5 hf ao;obtain⟨z,c0,c1,c2,c3,c4,c5,hf,ao⟩:=J.cc;go_wp2_with fail;go_meet;exact(J.set3 _).mono (by omega)
  .go_wp2_with fail
   refine(J.pk _).mono ?_;rintro e' w4 ⟨p,rfl,p0,p1,S4⟩;replace J:=S4;clear S4;go_wp2_with fail;refine(J.pk _).mono ?_;rintro e' w4 ⟨q,rfl,q0,q1,S4⟩;replace J:=S4;clear S4;go_wp2_with fail;refine(J.pk _).mono ?_;rintro e' w4 ⟨r,rfl,r0,r1,S4⟩;replace J:=S4;clear S4
   rcases(show p=0∨p=1 by omega) with rfl|rfl
   rotate_left
   rotate_left
   all_goals
    obtain⟨z,c0,c1,c2,c3,c4,c5,hf,ao⟩:=J.cc
    go_wp2_with fail;refine((J.set2 _).pk _).mono ?_;rintro e' w4 ⟨x1,rfl,z0,z1,S4⟩;replace J:=S4;clear S4 c0 c1 c2 c3 c4 c5 hf ao;obtain⟨z,c0,c1,c2,c3,c4,c5,hf,ao⟩:=J.cc;go_wp2_with fail;go_meet;exact(J.set3 _).mono (by omega)
  all_goals
   go_wp2_with fail
   refine(J.pk _).mono ?_;rintro e' w4 ⟨x1,rfl,z0,z1,S4⟩;replace J:=S4;clear S4;obtain⟨z,c0,c1,c2,c3,c4,c5,hf,ao⟩:=J.cc;go_wp2_with fail;go_meet;exact(J.set2 _).mono (by omega)
 case rest=>
  clear J;have J:=hcut;go_wp2_with fail;refine(J.pk _).mono ?_;rintro e' w4 ⟨q,rfl,q0,q1,S4⟩;replace J:=S4;clear S4
  by_cases jM:q=0
  .subst jM
   go_wp2_with fail;refine(J.pk _).mono ?_;rintro e' w4 ⟨x1,rfl,z0,z1,S4⟩;replace J:=S4;clear S4;obtain⟨z,c0,c1,c2,c3,c4,c5,hf,ao⟩:=J.cc;obtain⟨y1,d0,d1,d2,d3,d4,d5,fg⟩:=J.qc;go_wp2_with fail;obtain⟨⟨E0,E1,E2,E3,E4,E5⟩,Fin⟩:=BP.fin (M:=N+20) (J.set0 (x1 - 1)) ⟨x1 - 1,z.e,z.a,z.b,z.c,z.nm⟩ (by have:=yF w4 b 0 _ _ (.int .i64 (x1 - 1)) ao.out;simpa[AU.cs] using this) (by omega);exact yC (v:=.agg #[_,_,_,_,_,_]) (by simp[results,vM,go_sem,E0,E1,E2,E3,E4,E5]) rfl Fin
  by_cases jL:q=1
  .subst jL
   go_wp2_with fail;refine(J.pk _).mono ?_;rintro e' w4 ⟨x1,rfl,z0,z1,S4⟩;replace J:=S4;clear S4;obtain⟨z,c0,c1,c2,c3,c4,c5,hf,ao⟩:=J.cc;obtain⟨y1,d0,d1,d2,d3,d4,d5,fg⟩:=J.qc;go_wp2_with fail;obtain⟨⟨E0,E1,E2,E3,E4,E5⟩,Fin⟩:=BP.fin (M:=N+20) (J.set2 (x1 - 2)) ⟨z.k,z.e,x1 - 2,z.b,z.c,z.nm⟩ (by have:=yF w4 b 2 _ _ (.int .i64 (x1 - 2)) ao.out;simpa[AU.cs] using this) (by omega);exact yC (v:=.agg #[_,_,_,_,_,_]) (by simp[results,vM,go_sem,E0,E1,E2,E3,E4,E5]) rfl Fin
  by_cases jK:q=2
  .subst jK
   go_wp2_with fail;refine(J.pk _).mono ?_;rintro e' w4 ⟨x1,rfl,z0,z1,S4⟩;replace J:=S4;clear S4;obtain⟨z,c0,c1,c2,c3,c4,c5,hf,ao⟩:=J.cc;obtain⟨y1,d0,d1,d2,d3,d4,d5,fg⟩:=J.qc;go_wp2_with fail;obtain⟨⟨E0,E1,E2,E3,E4,E5⟩,Fin⟩:=BP.fin (M:=N+20) (J.set3 (x1 - 1)) ⟨z.k,z.e,z.a,x1 - 1,z.c,z.nm⟩ (by have:=yF w4 b 3 _ _ (.int .i64 (x1 - 1)) ao.out;simpa[AU.cs] using this) (by omega);exact yC (v:=.agg #[_,_,_,_,_,_]) (by simp[results,vM,go_sem,E0,E1,E2,E3,E4,E5]) rfl Fin
  by_cases jJ:q=3
  .subst jJ
   go_wp2_with fail;refine(Ja J.dr (by omega)).mono ?_;rintro e' w4 ⟨v,rfl,⟨s',V,rfl⟩,h4,g4⟩;replace J:=J.draw h4 g4;clear h4 g4;obtain⟨z,c0,c1,c2,c3,c4,c5,hf,ao⟩:=J.cc;obtain⟨y1,d0,d1,d2,d3,d4,d5,fg⟩:=J.qc;go_wp2_with fail;obtain⟨⟨E0,E1,E2,E3,E4,E5⟩,Fin⟩:=BP.fin (M:=N+20) (J.setS s' V) ⟨z.k,z.e,z.a,z.b,z.c,s'⟩ (by have:=yF w4 b 5 _ _ (.string s') ao.out;simpa[AU.cs] using this) (by omega);exact yC (v:=.agg #[_,_,_,_,_,_]) (by simp[results,vM,go_sem,E0,E1,E2,E3,E4,E5]) rfl Fin
  by_cases jI:q=4
  .subst jI
   go_wp2_with fail;have gP:=J.draw (J.dr.alloc (.cells #[.int .i64 (-1),.int .i64 10000,.int .i64 2,.int .i64 49] 3)) (Aa (AJ _ _) _);have ed:=J.dr.lt;refine(gP.dr.pick _).mono ?_;rintro e' w5 ⟨x1,rfl,z0,z1,h5,g5⟩;replace z1:=z1 (by decide);replace J:=gP.draw h5 g5;have l0:=EG (j:=0) g5 ed rfl;have l1:=EG (j:=1) g5 ed rfl;have l2:=EG (j:=2) g5 ed rfl;have l3:=EG (j:=3) g5 ed rfl;clear h5 g5 gP ed;obtain⟨z,c0,c1,c2,c3,c4,c5,hf,ao⟩:=J.cc
   rcases(show x1=0∨x1=1∨x1=2∨x1=3 by omega) with rfl|rfl|rfl|rfl
   focus
    obtain⟨y1,d0,d1,d2,d3,d4,d5,fg⟩:=J.qc
    go_wp2_with fail;obtain⟨⟨E0,E1,E2,E3,E4,E5⟩,Fin⟩:=BP.fin (M:=N+20) (J.set4 (-1) (by decide)) ⟨z.k,z.e,z.a,z.b,-1,z.nm⟩ (by have:=yF w5 b 4 _ _ (.int .i64 (-1)) ao.out;simpa[AU.cs] using this) (by omega)
   rotate_left
   focus
    obtain⟨y1,d0,d1,d2,d3,d4,d5,fg⟩:=J.qc
    go_wp2_with fail;obtain⟨⟨E0,E1,E2,E3,E4,E5⟩,Fin⟩:=BP.fin (M:=N+20) (J.set4 (10000) (by decide)) ⟨z.k,z.e,z.a,z.b,10000,z.nm⟩ (by have:=yF w5 b 4 _ _ (.int .i64 (10000)) ao.out;simpa[AU.cs] using this) (by omega)
   rotate_left
   focus
    obtain⟨y1,d0,d1,d2,d3,d4,d5,fg⟩:=J.qc
    go_wp2_with fail;obtain⟨⟨E0,E1,E2,E3,E4,E5⟩,Fin⟩:=BP.fin (M:=N+20) (J.set4 (2) (by decide)) ⟨z.k,z.e,z.a,z.b,2,z.nm⟩ (by have:=yF w5 b 4 _ _ (.int .i64 (2)) ao.out;simpa[AU.cs] using this) (by omega)
   rotate_left
   focus
    obtain⟨y1,d0,d1,d2,d3,d4,d5,fg⟩:=J.qc
    go_wp2_with fail;obtain⟨⟨E0,E1,E2,E3,E4,E5⟩,Fin⟩:=BP.fin (M:=N+20) (J.set4 (49) (by decide)) ⟨z.k,z.e,z.a,z.b,49,z.nm⟩ (by have:=yF w5 b 4 _ _ (.int .i64 (49)) ao.out;simpa[AU.cs] using this) (by omega)
   rotate_left
   all_goals
    exact yC (v:=.agg #[_,_,_,_,_,_]) (by simp[results,vM,go_sem,E0,E1,E2,E3,E4,E5]) rfl Fin
  have t0:(q==0)=false:=by simp[jM]
  have t1:(q==1)=false:=by simp[jL]
  have t2:(q==2)=false:=by simp[jK]
  have t3:(q==3)=false:=by simp[jJ]
  have t4:(q==4)=false:=by simp[jI]
  clear jM jL jK jJ jI;obtain⟨z,c0,c1,c2,c3,c4,c5,hf,ao⟩:=J.cc;obtain⟨y1,d0,d1,d2,d3,d4,d5,fg⟩:=J.qc;go_wp2_with fail;obtain⟨⟨E0,E1,E2,E3,E4,E5⟩,Fin⟩:=BP.fin (M:=N+20) J z ao.out (by omega);exact yC (v:=.agg #[_,_,_,_,_,_]) (by simp[results,vM,go_sem,E0,E1,E2,E3,E4,E5]) rfl Fin
def Vy(x:AU):Prop:=La x/\(x.e=1∨x.e=2)
theorem Gp.e12{Y w:World}{g N:Nat}{x:AU}(h:Gp Y g N w (λv=>∃x:AU,v=.agg x.cs/\La x) (.returned (.agg x.cs)) W)(he:x.e=1∨x.e=2):Gp Y g N w (λv=>∃x:AU,v=.agg x.cs/\Vy x) (.returned (.agg x.cs)) W:=by obtain⟨v,e,⟨x',e2,hx⟩,O⟩:=h;cases e;refine⟨_,rfl,⟨x',e2,hx,?_⟩,O⟩;simp[AU.cs] at e2;rw[<-e2.2.1];exact he
theorem Nc{Y w:World}{g N:Nat}(m i e c:Value)(xs:List AV)(h:Dr Y g N w)(hN:N<=700000)(hi:∀w',w.grownBy w' (some g)->BW w' i xs)(hl:xs.length<=12):
 Calls prog 16 #[.pointer (some ⟨g,0,none⟩),.agg #[m,i,e,c]] w (Gp Y g (N+30) w λv=>∃x:AU,v=.agg x.cs/\Vy x):=by
 have ac:=h.lt;have bX:Y.heap.size<=w.heap.size:=h.2.1.size;have Hi:=AA hi;clear hi;go_in;go_wp2_with fail;have gA:=Aa (IH w (.cells #[m,i,e,c] 28) (.cells #[.int .i64 0,.int .i64 0,.int .i64 0,.int .i64 0,.int .i64 0,.string ⟨#[]⟩] 34)) (some g);refine(PB m i e c xs ((h.alloc _).alloc _) (by omega) (λw' hg=>Hi.out w' (AP gA hg)) hl).mono ?_;rintro e' w1 ⟨v,rfl,⟨x,rfl,hx⟩,O,g1⟩;have J:BP Y g (N+20) w m i e c w1.heap.size (w1.alloc (.cells x.cs 34)):=by
  have hz:=g1.size;simp at hz;have B1:=yw (w.alloc (.cells #[m,i,e,c] 28)) (.cells #[.int .i64 0,.int .i64 0,.int .i64 0,.int .i64 0,.int .i64 0,.string ⟨#[]⟩] 34);have B0:=AB (yw w (.cells #[m,i,e,c] 28)) (AJ _ (.cells #[.int .i64 0,.int .i64 0,.int .i64 0,.int .i64 0,.int .i64 0,.string ⟨#[]⟩] 34));simp only[xK] at B1;have yW:∀{q:Nat} {o:Obj},w.heap.size<=q->((w.alloc (.cells #[m,i,e,c] 28)).alloc (.cells #[.int .i64 0,.int .i64 0,.int .i64 0,.int .i64 0,.int .i64 0,.string ⟨#[]⟩] 34)).heap[q]?=some o->(w1.alloc (.cells x.cs 34)).heap[q]?=some o:=λ{q o} hq K=>AB ((g1.block q (AW K) (by simp;omega)).trans K) (AJ _ _)
  exact⟨x,hx,O.alloc _,H7 (AP gA g1) _,by omega,ac,bX,yw _ _,yW (yG _) B0,⟨⟨0,0,0,0,0,⟨#[]⟩⟩,yW (by omega) B1⟩⟩
 clear O g1 h gA;simp only[AU.cs] at J ⊢;go_wp2_with fail;generalize w1.alloc (.cells #[.int .i64 x.k,.int .i64 x.e,.int .i64 x.a,.int .i64 x.b,.int .i64 x.c,.string x.nm] 34)=wr at J ⊢;generalize w1.heap.size=b at J ⊢;obtain⟨iH,iG,iF,gL⟩:=J.ne;refine(J.pk _).mono ?_;rintro e' w4 ⟨x1,rfl,z0,z1,S4⟩;replace J:=S4;clear S4;obtain⟨z,c0,c1,c2,c3,c4,c5,hf,ao⟩:=J.cc
 by_cases hk:z.k=1
 .have t0:(z.k==1)=true:=by simp[hk]
  clear hk;go_wp2_with fail;refine((J.set1 _ (by omega) (by omega)).dr.pick _).mono ?_;rintro e' w5 ⟨u,rfl,u0,u1,h5,g5⟩;replace u1:=u1 (by decide);have mC:w5.heap[b]?=some (.cells (AU.cs ⟨z.k,1+x1,z.a,z.b,z.c,z.nm⟩) 34 (0,0)):=(g5.block b (by have:=AW ao.out;simpa using this) (by have:=J.gr.size;have:=iH;simp;obtain⟨_,_,_,_,h9,_⟩:=J;omega)).trans (by have:=yF w4 b 1 _ _ (.int .i64 (1+x1)) ao.out;simpa[AU.cs] using this);have dz:=AA mC;clear mC;replace J:=(J.set1 _ (by omega) (by omega)).draw h5 g5;clear h5 g5 c0 c1 c2 c3 c4 c5 hf ao t0
  by_cases hu:0<u
  .go_wp2_with fail
   have gP:=J.draw (J.dr.alloc (.cells #[.string ⟨#[98]⟩,.string ⟨#[99]⟩] 9)) (Aa (AJ _ _) _);refine(Ob w5.heap.size 2 [⟨#[98]⟩,⟨#[99]⟩] gP.dr (by omega) rfl (by decide) (by decide) (by have:=J.dr.lt;omega) (by simp) (λk hk=>Kc w5 [⟨#[98]⟩,⟨#[99]⟩] _ hk)).mono ?_;rintro e' w6 ⟨v,rfl,⟨s,V,rfl⟩,h6,g6⟩;replace J:=gP.draw h6 g6;clear h6 g6 gP;simp only[xH,wX,or_false] at V;obtain⟨z,c0,c1,c2,c3,c4,c5,hf,ao⟩:=J.cc
   rcases V with rfl|rfl
   .obtain⟨y1,d0,d1,d2,d3,d4,d5,fg⟩:=J.qc
    go_wp2_with fail;obtain⟨⟨E0,E1,E2,E3,E4,E5⟩,Fin⟩:=BP.fin (M:=N+30) ((J.setS ⟨#[98]⟩ (by decide)).set1 1 (by decide) (by decide)) ⟨z.k,1,z.a,z.b,z.c,⟨#[98]⟩⟩ (by have h0:=yF w6 b 5 _ _ (.string ⟨#[98]⟩) ao.out;have O:=yF _ b 1 _ _ (.int .i64 1) h0;simpa[AU.cs] using O) (by omega);exact yC (v:=.agg #[_,_,_,_,_,_]) (by simp[results,uC,go_sem,E0,E1,E2,E3,E4,E5]) rfl (Fin.e12 (.inl rfl))
   .obtain⟨y1,d0,d1,d2,d3,d4,d5,fg⟩:=J.qc
    have kQ:(((w6.setCell ⟨b,5,none⟩ (.string ⟨#[99]⟩)).setCell ⟨b,1,none⟩ (.int .i64 1)).setCell ⟨b,1,none⟩ (.int .i64 2)).heap[b]?=some (.cells (AU.cs ⟨z.k,2,z.a,z.b,z.c,⟨#[99]⟩⟩) 34 (0,0)):=by have h0:=yF w6 b 5 _ _ (.string ⟨#[99]⟩) ao.out;have O:=yF _ b 1 _ _ (.int .i64 1) h0;have R:=yF _ b 1 _ _ (.int .i64 2) O;simpa[AU.cs] using R
    have cd:=(Gz kQ).2.1;have f7:=AA kQ;clear kQ;go_wp2_with fail;obtain⟨⟨E0,E1,E2,E3,E4,E5⟩,Fin⟩:=BP.fin (M:=N+30) (((J.setS ⟨#[99]⟩ (by decide)).set1 1 (by decide) (by decide)).set1 2 (by decide) (by decide)) ⟨z.k,2,z.a,z.b,z.c,⟨#[99]⟩⟩ f7.out (by omega);exact yC (v:=.agg #[_,_,_,_,_,_]) (by simp[results,uC,go_sem,E0,E1,E2,E3,E4,E5]) rfl (Fin.e12 (.inr rfl))
  .have u2:u<=0:=by omega
   obtain⟨c0,c1,c2,c3,c4,c5⟩:=Gz dz.out;obtain⟨y1,d0,d1,d2,d3,d4,d5,fg⟩:=J.qc;go_wp2_with fail;obtain⟨⟨E0,E1,E2,E3,E4,E5⟩,Fin⟩:=BP.fin (M:=N+30) J _ dz.out (by omega);exact yC (v:=.agg #[_,_,_,_,_,_]) (by simp[results,uC,go_sem,E0,E1,E2,E3,E4,E5]) rfl (Fin.e12 (by simp only;omega))
 .have t0:(z.k==1)=false:=by simp[hk]
  clear hk;obtain⟨y1,d0,d1,d2,d3,d4,d5,fg⟩:=J.qc;go_wp2_with fail;obtain⟨⟨E0,E1,E2,E3,E4,E5⟩,Fin⟩:=BP.fin (M:=N+30) (J.set1 (1+x1) (by omega) (by omega)) ⟨z.k,1+x1,z.a,z.b,z.c,z.nm⟩ (by have:=yF w4 b 1 _ _ (.int .i64 (1+x1)) ao.out;simpa[AU.cs] using this) (by omega);exact yC (v:=.agg #[_,_,_,_,_,_]) (by simp[results,uC,go_sem,E0,E1,E2,E3,E4,E5]) rfl (Fin.e12 (by simp only;omega))
def J4(Y:World)(g N:Nat)(w:World)(P:Value->World->Prop)(e:Ending)(w':World):Prop:=∃v,e=.returned v/\P v w'/\Dr Y g N w'/\w.grownBy w' (some g)
def Pk(m:Int)(v:Value):Prop:=∃x:Int,v=.int .i64 x/\0<=x/\x<m
theorem yZ(cs:List Nat)(vs:Nat->Bool)(i:Nat):(cs.filter λj=>!Gn vs i j).length<=(cs.filter λj=>!vs j).length:=by
 induction cs with
 |nil=>exact yG _
 |cons c cs ih=>
  simp only[vS]
  by_cases h:c=i
  .subst h
   rw[show Gn vs c c=true by simp[Gn]];cases vs c<;>simp<;>omega
  .rw[show Gn vs i c=vs c by simp[Gn,h]]
   cases vs c<;>simp<;>omega
theorem ZS(cs:List Nat)(vs:Nat->Bool)(i:Nat)(hi:cs.contains i=true)(hL:vs i=false):(cs.filter λj=>!Gn vs i j).length+1<=(cs.filter λj=>!vs j).length:=by
 induction cs with
 |nil=>cases hi
 |cons c cs ih=>
  simp only[vS]
  by_cases h:c=i
  .subst h
   rw[show Gn vs c c=true by simp[Gn],hL];have:=yZ cs vs c;simp;omega
  .rw[show Gn vs i c=vs c by simp[Gn,h]]
   have kC:cs.contains i=true:=by simpa[Ne.symm h] using hi
   have:=ih kC;cases vs c<;>simp<;>omega
def Xu(Y:World)(g:Nat)(W0:World)(N0 kk c:Nat)(cs:List Nat)(vs:Nat->Bool)(w:World):Prop:=∃M,M+kk*(cs.filter λj=>!vs j).length<=N0+kk*c/\Dr Y g M w/\W0.grownBy w (some g)
section
variable {P:Program} {l:List Oper} {n i:Nat} {o o':Oper} {a a0:Act} {w Y W0:World} {hb:Act->World->Prop} {Q:Exit->Act->World->Prop} {hs:List Vx} {h2:Nat->Value->World->Prop} {v:Value} {g N0 kk c:Nat} {cs:List Nat} {vs:Nat->Bool}
abbrev dP(l:List Oper)(n:Nat)(a0 a:Act):Prop:=a.defers=a0.defers/\a.tmps.size=a0.tmps.size/\∀t,(∀i,i<n->Ag l i≠t)->a.tmps[t]?=a0.tmps[t]?
abbrev dQ(l:List Oper)(i:Nat)(hs:List Vx)(h2:Nat->Value->World->Prop)(a:Act)(w:World):Prop:=∀j,yl .any l.toArray i j=true->RV hs h2 j (a.tmps[Ag l j]?.getD undef) w
abbrev dB(hs:List Vx)(h2:Nat->Value->World->Prop)(Y:World)(g:Nat)(W0:World)(N0 kk c:Nat)(cs:List Nat)(vs:Nat->Bool)(i:Nat)(o:Oper)(a:Act)(w:World)(hb:Act->World->Prop):Prop:=∀v w',RV hs h2 i v w'->Xu Y g W0 N0 kk c cs (Gn vs i) w'->w.grownBy w' (some g)->hb (a.put o.dst v) w'
theorem gc{b eF:Nat}(hW:W0.grownBy w (some g))(ac:b<W0.heap.size)(ep:b≠g)(h:W0.cell? ⟨b,eF,none⟩=some v):w.cell? ⟨b,eF,none⟩=some v:=(wg (hW.block b ac (by simpa using ep))).trans h
theorem dR{F:FuncId}{L:Array Value}{Pv:Value->World->Prop}{k:Nat}(E:l[i]?=some o)(HQ:Hid (dB hs h2 Y g W0 N0 kk c cs vs i o a w hb))(H:Hid (dP l n a0 a))(A:Hid (dQ l i hs h2 a w))(D:Hid (vs i=false))(Z:Xu Y g W0 N0 kk c cs vs w)
 (hc:∀M,M<=N0+kk*c->Dr Y g M w->W0.grownBy w (some g)->Calls P F L w (J4 Y g (M+k) w Pv))(hk:k<=kk:=by decide)(hR:∀v w',Pv v w'->RV hs h2 i v w':=by exact λ_ _ h=>h)(hi:cs.contains i=true:=by rfl)
 (e:l[i]?=some o':=by rfl)(hw:LS l i hs o'=some true:=by kernel_rfl)(hr:(execOp (aC l n i hs a0 a) o').run P w=.ok (.enter F L) w:=by kernel_rfl):AY P l o a w hb Q:=by
 obtain rfl:=yQ (E.symm.trans e);refine⟨λ_=>?_,λh=>absurd ((Kn A hw).symm.trans h) (by decide)⟩;unfold Oper.wp;rw[<-Qz H A,hr,Oper.upon_enter];obtain⟨M,hM,hD,hW⟩:=Z;refine(hc M (by omega) hD hW).mono ?_;intro x w' h;obtain⟨v,rfl,O,R,h3⟩:=h;have hl:=ZS cs vs i hi D.out;refine HQ.out v w' (hR v w' O) ⟨M+kk,?_,R.mono (by omega),AP hW h3⟩ h3;have:=wB kk hl;rw[Nat.mul_add,wR] at this;omega
theorem da{F:FuncId}{L:Array Value}{Pv:Value->Prop}{k:Nat}(E:l[i]?=some o)(HQ:Hid (dB hs h2 Y g W0 N0 kk c cs vs i o a w hb))(H:Hid (dP l n a0 a))(A:Hid (dQ l i hs h2 a w))(D:Hid (vs i=false))(Z:Xu Y g W0 N0 kk c cs vs w)
 (hc:∀M,M<=N0+kk*c->Dr Y g M w->W0.grownBy w (some g)->Calls P F L w (Gp Y g (M+k) w Pv))(hk:k<=kk:=by decide)(hR:∀v w',Pv v->RV hs h2 i v w':=by exact λ_ _ h=>h)(hi:cs.contains i=true:=by rfl)
 (e:l[i]?=some o':=by rfl)(hw:LS l i hs o'=some true:=by kernel_rfl)(hr:(execOp (aC l n i hs a0 a) o').run P w=.ok (.enter F L) w:=by kernel_rfl):AY P l o a w hb Q:=
 dR (Pv:=λv _=>Pv v) E HQ H A D Z hc hk hR hi e hw hr
theorem Ft{id:Nat}(n N kk c:Nat)(cs:List Nat)(hs:List Vx)(h2:Nat->Value->World->Prop)(kP:Dr Y g N0 W0)
 (ip:∀i,i<n->∀o,l[i]?=some o->∀a w,Hid (dP l n a0 a)->Hid (dQ l i hs h2 a w)->∀vs:Nat->Bool,Hid (vs i=false)->Xu Y g W0 N0 kk c cs vs w->W0.grownBy w (some g)->
  ∀hb:Act->World->Prop,Hid (dB hs h2 Y g W0 N0 kk c cs vs i o a w hb)->Hid (∀v w',RV hs h2 i v w'->Below w.heap.size w w'->hb (a.put o.dst v) w')->AY P l o a w hb Q)
 (fu:∀(L:Nat->Value) w,(∀i,i<n->RV hs h2 i (L i) w)->Dr Y g (N0+kk*c) w->W0.grownBy w (some g)->wpList P l.toArray Q (l.drop n) {a0 with tmps:=Aj l (yN n) L a0.tmps} w)
 (hst:∀i,i<n->∀v w w',w.grownBy w' (some g)->h2 i v w->h2 i v w':=by exact λ_ _ _ _ _ _ h=>h)(kG:cs.length=c:=by rfl)
 (hm:P.follows .mixedOrders=true:=by kernel_rfl)(hB:Ih l n=true:=by kernel_rfl)(hN:a0.tmps.size=N:=by rfl)(hD:WH l n N=true:=by kernel_rfl):(Code.region id l.toArray true).wp P Q a0 W0:=by
 subst kG;refine GM n hm hB N hN hD (RV hs h2) (λvs w=>Xu Y g W0 N0 kk cs.length cs vs w) ?_ ?_ ?_
 .refine⟨N0,?_,kP.below (A0 (yO _ _) 1),Aa (A0 (yO _ _) 1) _⟩
  have:=xL (λj=>!(λ_:Nat=>false) j) cs;exact sJ (wB kk this) _
 .intro i hi o E a w H A vs D Z hb X
  have hq:dB hs h2 Y g W0 N0 kk cs.length cs vs i o a w hb:=λv w' O R h3=>X.out v w' O R λj u _ hj _ h=>RV.mono (hst j hj u w w' h3) h
  have hW:W0.grownBy w (some g):=by obtain⟨_,_,_,h⟩:=Z;exact h
  refine ip i hi o E a w H A vs (AA D.out.1) Z hW hb (AA hq) (AA λv w' O K=>hq v w' O ?_ (Aa K _));obtain⟨M,R,h3,h4⟩:=Z;have:=wB kk (yZ cs vs i);exact⟨M,by omega,h3.below K,AP h4 (Aa K _)⟩
 .intro L w hR vs hL Z
  obtain⟨M,R,h3,h4⟩:=Z;exact fu L w hR (h3.mono (by omega)) h4
def Qv(l:List Oper):Nat->Nat->Nat->Bool
 |0,_,_=>false
 |f+1,k,i=>yl .any l.toArray k i||(yN l.length).any λj=>yl .any l.toArray k j&&Qv l f j i
theorem Vb{f k:Nat}(hc:∀j j',vs j=true->yl .any l.toArray j j'=true->vs j'=true)(hk:vs k=true)(h:Qv l f k i=true):vs i=true:=by
 induction f generalizing k with
 |zero=>cases h
 |succ f ih=>
  unfold Qv at h
  rcases Bool.or_eq_true_iff.1 h with h|h
  .exact hc k i hk h
  .obtain⟨j,_,hj⟩:=List.any_eq_true.1 h
   obtain⟨O,R⟩:=wj.1 hj;exact ih (hc k j hk O) R
def bh(s:Nat)(U:Nat->Value->Prop)(h2:Nat->Value->World->Prop)(vs:Nat->Bool)(i:Nat)(v:Value)(w:World):Prop:=U i v/\(vs s=false->h2 i v w)
def di(Y:World)(g:Nat)(W0:World)(N0 kk c:Nat)(cs:List Nat)(s:Nat)(Af:World->Prop)(vs:Nat->Bool)(w:World):Prop:=(vs s=true->Af w)/\(vs s=false->Xu Y g W0 N0 kk c cs vs w)
theorem Je{id s:Nat}{U:Nat->Value->Prop}(n N kk c:Nat)(cs:List Nat)(hs:List Vx)(h2:Nat->Value->World->Prop)(Af:World->Prop)(kP:Dr Y g N0 W0)
 (gH:∀i,i<n->(i==s||cs.contains i)=false->∀o,l[i]?=some o->∀a w,Hid (Y8 l n a0 a)->∀vs:Nat->Bool,Hid (Xw l n hs (bh s U h2) vs a w)->Hid (Xb l i vs)->(Qv l n s i=true->W0.grownBy w (some g))->
  ∀hb:Act->World->Prop,Hid (cE hs (bh s U h2) vs i o a w hb)->AY P l o a w hb Q)
 (ee:∀i,i<n->cs.contains i=true->∀o,l[i]?=some o->∀a w,Hid (Y8 l n a0 a)->∀vs:Nat->Bool,Hid (Xw l n hs (bh s U h2) vs a w)->Hid (Xb l i vs)->Xu Y g W0 N0 kk c cs vs w->
  ∀hb:Act->World->Prop,Hid (∀v w',U i v->h2 i v w'->EW hs i=none->Xu Y g W0 N0 kk c cs (Gn vs i) w'->w.grownBy w' (some g)->hb (a.put o.dst v) w')->AY P l o a w hb Q)
 (gG:∀o,l[s]?=some o->∀a w,Hid (Y8 l n a0 a)->∀vs:Nat->Bool,Hid (Xw l n hs (bh s U h2) vs a w)->Hid (Xb l s vs)->Dr Y g (N0+kk*c) w->W0.grownBy w (some g)->
  ∀hb:Act->World->Prop,Hid (∀v w',Af w'->hb (a.put o.dst v) w')->AY P l o a w hb Q)
 (oT:∀w w',Below w.heap.size w w'->Af w->Af w')
 (fu:∀(L:Nat->Value) w,∀vs:Nat->Bool,(∀i,i<n->RF hs (bh s U h2) vs i (L i) w)->Af w->wpList P l.toArray Q [] {a0 with tmps:=DQ l (yN n) L a0.tmps} w)
 (hst:∀i,i<n->∀v w w',w.grownBy w' (some g)->h2 i v w->h2 i v w':=by exact λ_ _ _ _ _ _ h=>h)(kG:cs.length=c:=by rfl)(og:s<n:=by decide)(oj:EW hs s=some undef:=by rfl)(me:(l[s]?).bind (·.dst)=none:=by rfl)
 (qy:cs.contains s=false:=by rfl)(ov:cs.all (λi=>decide (i<n)&&Qv l n s i&&((l[i]?).bind (·.dst)).isSome)=true:=by kernel_rfl)
 (hm:P.follows .mixedOrders=true:=by kernel_rfl)(hN:a0.tmps.size=N:=by rfl)(hB:Xe l N=true:=by kernel_rfl)(hn:l.length=n:=by rfl):(Code.region id l.toArray true).wp P Q a0 W0:=by
 subst kG;refine Dn n N (λi=>i==s||cs.contains i) hs (bh s U h2) (di Y g W0 N0 kk cs.length cs s Af) ?_ ?_ ?_ ?_ ?_ ?_ hm hN hB hn
 .refine⟨λh=>(by cases h),λ_=>⟨N0,?_,kP.below (A0 (yO _ _) 1),Aa (A0 (yO _ _) 1) _⟩⟩
  have:=xL (λj=>!(λ_:Nat=>false) j) cs;exact sJ (wB kk this) _
 .intro j hj vs i v w w' _ _ _ _ K h
  exact⟨h.1,λV=>hst j hj v w w' (Aa K _) (h.2 (Dg V))⟩
 .intro vs i w w' _ hS _ K h
  have ep:s≠i:=by rintro rfl;simp at hS
  have e:Gn vs i s=vs s:=by simp[Gn,ep]
  refine⟨λV=>oT w w' K (h.1 (e▸V)),λV=>?_⟩;obtain⟨M,R,h3,h4⟩:=h.2 (e▸V);have:=wB kk (yZ cs vs i);exact⟨M,by omega,h3.below K,AP h4 (Aa K _)⟩
 .intro i hi hS o E a w H vs A D Z hb X
  refine gH i hi hS o E a w H vs A D (λhr=>?_) hb X;have V:vs s=false:=by
   cases hx:vs s with
   |false=>rfl
   |true=>exact absurd (Vb D.out.2.2 hx hr) (by rw[D.out.1];decide)
  obtain⟨_,_,_,h⟩:=Z.2 V;exact h
 .intro i hi hS o E a w H vs A D Z hb X
  by_cases kB:i=s
  .subst kB
   obtain⟨M,R,h3,h4⟩:=Z.2 D.out.1;refine gG o E a w H vs A D (h3.mono (by omega)) h4 hb (AA λv w' hA=>X.out v w' ?_ ⟨λ_=>hA,λh=>by simp[Gn] at h⟩ λj gI hj _ h=>?_)
   .have e:o.dst=none:=by rw[E] at me;exact me
    rw[e];exact RF.of oj
   .exact RF.mono (λh=>⟨h.1,λR=>by simp[Gn] at R⟩) h
  .have hc:cs.contains i=true:=by simpa[kB] using hS
   have h3:=yr.1 ov i (by simpa using hc);simp only[yD,decide_eq_true_eq] at h3;obtain⟨⟨_,hr⟩,hd⟩:=h3;have V:vs s=false:=by
    cases hx:vs s with
    |false=>rfl
    |true=>exact absurd (Vb D.out.2.2 hx hr) (by rw[D.out.1];decide)
   have e:Gn vs i s=vs s:=by simp[Gn,Ne.symm kB]
   refine ee i hi hc o E a w H vs A D (Z.2 V) hb (AA λv w' O R hv hD hW=>X.out v w' ?_ ⟨λh=>(by rw[e,V] at h;cases h),λ_=>hD⟩ λj gI hj _ h=>?_)
   .obtain⟨d,hd⟩:=Option.isSome_iff_exists.1 hd
    have e2:o.dst=some d:=by rw[E] at hd;exact hd
    rw[e2];unfold RF;rw[hv];exact⟨O,λ_=>R⟩
   .exact RF.mono (λh=>⟨h.1,λR=>hst j hj _ _ _ hW (h.2 (Dg R))⟩) h
 .intro L w vs hL hR Z
  exact fu L w vs hR (Z.1 (hL s og))
theorem fR{s:Nat}{U:Nat->Value->Prop}{F:FuncId}{L:Array Value}{Pv:Value->World->Prop}{k:Nat}(E:l[i]?=some o)(HQ:Hid (∀v w',U i v->h2 i v w'->EW hs i=none->Xu Y g W0 N0 kk c cs (Gn vs i) w'->w.grownBy w' (some g)->hb (a.put o.dst v) w'))(H:Hid (Y8 l n a0 a))(A:Hid (Xw l n hs (bh s U h2) vs a w))(D:Hid (Xb l i vs))(Z:Xu Y g W0 N0 kk c cs vs w)
 (hc:∀M,M<=N0+kk*c->Dr Y g M w->W0.grownBy w (some g)->Calls P F L w (J4 Y g (M+k) w Pv))(hk:k<=kk:=by decide)(hR:∀v w',Pv v w'->U i v/\h2 i v w')(hv:EW hs i=none:=by rfl)(hi:cs.contains i=true:=by rfl)
 (e:l[i]?=some o':=by rfl)(hw:PT l n i hs o'=some true:=by kernel_rfl)(hr:(execOp (XB l n i hs a0 a) o').run P w=.ok (.enter F L) w:=by kernel_rfl):AY P l o a w hb Q:=by
 obtain rfl:=yQ (E.symm.trans e);refine⟨λ_=>?_,λh=>absurd ((OC A D hw).symm.trans h) (by decide)⟩;unfold Oper.wp;rw[<-Pp H A D,hr,Oper.upon_enter];obtain⟨M,hM,hD,hW⟩:=Z;refine(hc M (by omega) hD hW).mono ?_;intro x w' h;obtain⟨v,rfl,O,R,h3⟩:=h;have hl:=ZS cs vs i hi D.out.1;obtain⟨r1,r2⟩:=hR v w' O;refine HQ.out v w' r1 r2 hv ⟨M+kk,?_,R.mono (by omega),AP hW h3⟩ h3;have:=wB kk hl;rw[Nat.mul_add,wR] at this;omega
theorem dK{m:Int}(E:l[i]?=some o)(HQ:Hid (dB hs h2 Y g W0 N0 kk c cs vs i o a w hb))(H:Hid (dP l n a0 a))(A:Hid (dQ l i hs h2 a w))(D:Hid (vs i=false))(Z:Xu Y g W0 N0 kk c cs vs w)(hN:N0+kk*c<=1000000)(hm:0<m/\m<=1000000:=by decide)
 (e:l[i]?=some o':=by rfl)(hr:(execOp (aC l n i hs a0 a) o').run prog w=.ok (.enter 17 #[.pointer (some ⟨g,0,none⟩),.int .i64 m]) w:=by kernel_rfl)
 (hw:LS l i hs o'=some true:=by kernel_rfl)(hk:1<=kk:=by decide)(hR:∀v w',Pk m v->RV hs h2 i v w':=by exact λ_ _ h=>h)(hi:cs.contains i=true:=by rfl):AY prog l o a w hb Q:=
 da (Pv:=Pk m) (k:=1) E HQ H A D Z (λM hM hD hW=>(hD.pick m (by omega) hm.2).mono λ_ _ h=>by obtain⟨x,rfl,h0,O,R,h3⟩:=h;exact⟨_,rfl,⟨x,rfl,h0,O hm.1⟩,R,h3⟩) hk hR hi e hw hr
theorem fK{s:Nat}{U:Nat->Value->Prop}{m:Int}(E:l[i]?=some o)(HQ:Hid (∀v w',U i v->h2 i v w'->EW hs i=none->Xu Y g W0 N0 kk c cs (Gn vs i) w'->w.grownBy w' (some g)->hb (a.put o.dst v) w'))(H:Hid (Y8 l n a0 a))(A:Hid (Xw l n hs (bh s U h2) vs a w))(D:Hid (Xb l i vs))(Z:Xu Y g W0 N0 kk c cs vs w)(hN:N0+kk*c<=1000000)(hm:0<m/\m<=1000000:=by decide)
 (e:l[i]?=some o':=by rfl)(hr:(execOp (XB l n i hs a0 a) o').run prog w=.ok (.enter 17 #[.pointer (some ⟨g,0,none⟩),.int .i64 m]) w:=by kernel_rfl)
 (hw:PT l n i hs o'=some true:=by kernel_rfl)(hk:1<=kk:=by decide)(hR:∀v w',Pk m v->U i v/\h2 i v w':=by exact λ_ _ h=>⟨h,trivial⟩)(hv:EW hs i=none:=by rfl)(hi:cs.contains i=true:=by rfl):AY prog l o a w hb Q:=
 fR (Pv:=λv _=>Pk m v) (k:=1) E HQ H A D Z (λM hM hD hW=>(hD.pick m (by omega) hm.2).mono λ_ _ h=>by obtain⟨x,rfl,h0,O,R,h3⟩:=h;exact⟨_,rfl,⟨x,rfl,h0,O hm.1⟩,R,h3⟩) hk hR hv hi e hw hr
end
structure Ul(w0:World)(g N:Nat)(w:World)(T n b:Nat)(cs:Array Value)(wr:World):Prop where
 dr:Dr w0 g N wr
 gr:w.grownBy wr (some g)
 lt:w.heap.size<b
 glt:g<w.heap.size
 lo:w0.heap.size<=w.heap.size
 yV:wr.heap[b]?=some (.cells cs T (0,0))
 res:∃rs:Array Value,rs.size=n/\wr.heap[w.heap.size]?=some (.cells rs T (0,0))
section
variable {Y w wr w':World} {g N M T n b:Nat} {cs:Array Value}
theorem Ul.draw(h:Ul Y g N w T n b cs wr)(hd:Dr Y g M w')(hg:wr.grownBy w' (some g)):Ul Y g M w T n b cs w':=by
 have yW:∀{q:Nat} {o:Obj},w.heap.size<=q->wr.heap[q]?=some o->w'.heap[q]?=some o:=λ{q o} hq K=>(hg.block q (AW K) (by have:=h.glt;simp;omega)).trans K
 obtain⟨rs,O,R⟩:=h.res;exact⟨hd,AP h.gr hg,h.lt,h.glt,h.lo,yW (tl h.lt) h.yV,rs,O,yW (yG _) R⟩
theorem Ul.pk(h:Ul Y g N w T n b cs wr)(m:Int)(hN:N<=900000:=by omega)(h0:0<m:=by decide)(hm:m<=1000000:=by decide):Calls prog 17 #[.pointer (some ⟨g,0,none⟩),.int .i64 m] wr λe' w'=>∃x:Int,e'=.returned (.int .i64 x)/\0<=x/\x<m/\Ul Y g (N+1) w T n b cs w':=
 (h.dr.pick m (by omega) hm).mono λ_ _ hp=>by obtain⟨x,rfl,O,R,h3,h4⟩:=hp;exact⟨x,rfl,O,R h0,h.draw h3 h4⟩
theorem Ul.set(h:Ul Y g N w T n b cs wr)(j:Nat)(u:Value){cs':Array Value}(e:cs.setIfInBounds j u=cs'):Ul Y g N w T n b cs' (wr.setCell ⟨b,j,none⟩ u):=by
 have K:=yF wr b j _ _ u h.yV;obtain⟨rs,O,R⟩:=h.res;have:=h.lt;have:=h.lo;have:=h.glt;exact⟨h.dr.set (by omega) (by omega),Cj h.gr (by omega) _,h.lt,h.glt,h.lo,by rw[K,e],rs,O,(tX wr ⟨b,j,none⟩ _ _ (λe=>by simp at e;omega)).trans R⟩
theorem Ul.start{T n:Nat}{cs x1:Array Value}{w1:World}(O:Dr Y g N w1)(g1:(w.alloc (.cells x1 T)).grownBy w1 (some g))(hz:x1.size=n)(dd:g<w.heap.size)(ax:Y.heap.size<=w.heap.size):Ul Y g N w T n w1.heap.size cs (w1.alloc (.cells cs T)):=by have V:=g1.size;simp at V;have B0:=yw w (.cells x1 T);have B1:=(g1.block w.heap.size (by simp) (by simp;omega)).trans B0;exact⟨O.alloc _,H7 (AP (Aa (AJ _ _) _) g1) _,by omega,dd,ax,yw _ _,x1,hz,AB B1 (AJ _ _)⟩
end
theorem Ul.mono{Y w wr:World}{g N M T n b:Nat}{cs:Array Value}(h:Ul Y g N w T n b cs wr)(hm:N<=M):Ul Y g M w T n b cs wr:=⟨h.dr.mono hm,h.gr,h.lt,h.glt,h.lo,h.yV,h.res⟩
theorem Lk{w:World}{g T:Nat}{a b c:Value}(h:w.heap[g]?=some (.cells #[a,b,c] T (0,0))):w.cell? ⟨g,0,none⟩=some a/\w.cell? ⟨g,1,none⟩=some b/\w.cell? ⟨g,2,none⟩=some c:=⟨yz w g 0 _ _ _ h,yz w g 1 _ _ _ h,yz w g 2 _ _ _ h⟩
theorem Nf{w w1:World}{g:Nat}(xs:List Int)(t:Nat)(az:(w.alloc (.cells (xs.map (ym .i64)).toArray t)).grownBy w1 (some g))(ac:g<w.heap.size){y:Nat}(hy:y<xs.length):∃q:Int,w1.cell? ⟨w.heap.size,y,none⟩=some (.int .i64 q):=
 ⟨xs[y],EG az ac (by simp[hy])⟩
theorem dG{Y w wr:World}{g N M T:Nat}{rs:Array Value}{v0 v1 v2 v3:Value}(hd:Dr Y g N wr)(hg:w.grownBy wr (some g))(dd:g<w.heap.size)(ax:Y.heap.size<=w.heap.size)(V:rs.size=4)(hB:wr.heap[w.heap.size]?=some (.cells rs T (0,0)))(hM:N<=M){P:Value->Prop}(hP:P (.agg #[v0,v1,v2,v3])):
 ((((wr.setCell ⟨w.heap.size,0,none⟩ v0).setCell ⟨w.heap.size,1,none⟩ v1).setCell ⟨w.heap.size,2,none⟩ v2).setCell ⟨w.heap.size,3,none⟩ v3).heap[w.heap.size]?=some (.cells #[v0,v1,v2,v3] T (0,0))/\
 Gp Y g M w P (.returned (.agg #[v0,v1,v2,v3])) ((((wr.setCell ⟨w.heap.size,0,none⟩ v0).setCell ⟨w.heap.size,1,none⟩ v1).setCell ⟨w.heap.size,2,none⟩ v2).setCell ⟨w.heap.size,3,none⟩ v3):=by
 obtain⟨a0,a1,a2,a3,rfl⟩:∃a0 a1 a2 a3,rs= #[a0,a1,a2,a3]:=by
  match rs,V with
  |⟨[a0,a1,a2,a3]⟩,_=>exact⟨a0,a1,a2,a3,rfl⟩
 have n1:w.heap.size≠g:=by omega
 have n3:w.heap.size<=w.heap.size:=yG _;exact⟨Cw hB,_,rfl,hP,((((hd.set n1 ax).set n1 ax).set n1 ax).set n1 ax).mono hM,Cj (Cj (Cj (Cj hg n3 _) n3 _) n3 _) n3 _⟩
theorem bo{Y w wr:World}{g N M T:Nat}{rs:Array Value}{v0 v1 v2:Value}(hd:Dr Y g N wr)(hg:w.grownBy wr (some g))(dd:g<w.heap.size)(ax:Y.heap.size<=w.heap.size)(V:rs.size=3)(hB:wr.heap[w.heap.size]?=some (.cells rs T (0,0)))(hM:N<=M){P:Value->Prop}(hP:P (.agg #[v0,v1,v2])):
 (((wr.setCell ⟨w.heap.size,0,none⟩ v0).setCell ⟨w.heap.size,1,none⟩ v1).setCell ⟨w.heap.size,2,none⟩ v2).heap[w.heap.size]?=some (.cells #[v0,v1,v2] T (0,0))/\
 Gp Y g M w P (.returned (.agg #[v0,v1,v2])) (((wr.setCell ⟨w.heap.size,0,none⟩ v0).setCell ⟨w.heap.size,1,none⟩ v1).setCell ⟨w.heap.size,2,none⟩ v2):=by
 obtain⟨a0,a1,a2,rfl⟩:∃a0 a1 a2,rs= #[a0,a1,a2]:=by
  match rs,V with
  |⟨[a0,a1,a2]⟩,_=>exact⟨a0,a1,a2,rfl⟩
 have n1:w.heap.size≠g:=by omega
 have n3:w.heap.size<=w.heap.size:=yG _;have h0:=yF wr w.heap.size 0 _ _ v0 hB;have O:=yF _ w.heap.size 1 _ _ v1 h0;have R:=yF _ w.heap.size 2 _ _ v2 O;exact⟨by simpa using R,_,rfl,hP,(((hd.set n1 ax).set n1 ax).set n1 ax).mono hM,Cj (Cj (Cj hg n3 _) n3 _) n3 _⟩
theorem UJ{Y w:World}{g N:Nat}(h:Dr Y g N w)(hN:N<=900000):
 Calls prog 187 #[.pointer (some ⟨g,0,none⟩)] w (Gp Y g (N+2) w λv=>∃x:Int,v=.int .i64 x):=by
 go_in;go_wp2_with fail;refine(h.pick _).mono ?_;rintro e w1 ⟨x,rfl,io,eG,O,g1⟩
 by_cases hx:x=0
 .subst hx
  go_wp2_with fail;refine((O.alloc _).pick _).mono ?_;rintro e w2 ⟨y,rfl,fN,dx,R,g2⟩;have dx:=dx (by decide);have c0:=EG (j:=0) g2 O.lt rfl;have c1:=EG (j:=1) g2 O.lt rfl;have c2:=EG (j:=2) g2 O.lt rfl;have G:=AA (AP g1 (AP (Aa (AJ _ _) _) g2));clear g1 g2
  rcases(show y=0∨y=1∨y=2 by omega) with rfl|rfl|rfl
  all_goals
   go_wp2_with fail;go_ret;exact⟨_,rfl,⟨_,rfl⟩,R,G.out⟩
 .have t0:(x==0)=false:=by simp[hx]
  clear hx;go_wp2_with (refine(O.pick _).mono ?_;rintro e w2 ⟨y,rfl,fN,dx,R,g2⟩;have G:=AA (AP g1 g2);clear g1 g2);go_ret;exact⟨_,rfl,⟨_,rfl⟩,R,G.out⟩
theorem Mg{Y w:World}{g N:Nat}(h:Dr Y g N w)(hN:N<=800000):
 Calls prog 143 #[.pointer (some ⟨g,0,none⟩)] w (Gp Y g (N+8) w λv=>∃x:Ad,v=.agg #[.int .i64 x.e,.int .i64 x.p,.int .i64 x.f,.bool x.w]):=by
 have ac:=h.lt;have bX:Y.heap.size<=w.heap.size:=h.2.1.size;go_in;go_wp2_with fail;refine((h.alloc _).pick _).mono ?_;rintro e w1 ⟨x,rfl,_,_,O,g1⟩;go_wp2_with fail;refine(O.pick _).mono ?_;rintro e w2 ⟨y,rfl,_,_,R,g2⟩;go_wp2_with fail;refine(R.pick _).mono ?_;rintro e w3 ⟨f,rfl,_,_,h3,g3⟩;have J:=Ul.start (T:=96) (n:=4) (cs:= #[.int .i64 x,.int .i64 y,.int .i64 f,.bool false]) h3 (AP (AP g1 g2) g3) rfl ac bX;clear h O R h3 g1 g2 g3;go_wp2_with fail;generalize w3.alloc _=w4 at J ⊢;generalize w3.heap.size=b at J ⊢;refine(J.pk _).mono ?_;rintro e w5 ⟨x1,rfl,_,_,S5⟩;clear J;obtain⟨c0,c1,c2,c3⟩:=AE S5.yV;have fz:=AK S5.yV;go_wp2_with fail;have S6:=S5.set (cs':= #[.int .i64 x,.int .i64 y,.int .i64 f,.bool (x1==0)]) 3 (.bool (x1==0)) (by simp);refine(S6.pk _).mono ?_;rintro e w7 ⟨u,rfl,_,_,J⟩;clear S5 S6 c0 c1 c2 c3 fz;have eM:=J.lt;go_upto_block 0 with fail;go_cut [] (λwx=>∃x:Ad,Ul Y g (N+8) w 96 4 b #[.int .i64 x.e,.int .i64 x.p,.int .i64 x.f,.bool x.w] wx)
 case first=>
  by_cases u0:u=0
  .subst u0
   go_wp2_with fail;have ed:=J.dr.lt;have SA:=J.draw (J.dr.alloc (.cells #[.int .i64 (-1),.int .i64 3] 3)) (Aa (AJ _ _) _);refine(SA.dr.pick _).mono ?_;rintro e w6 ⟨k9,rfl,k0,k1,h6,g6⟩;replace k1:=k1 (by decide);obtain⟨k9,rfl⟩:=xX k0;obtain⟨q,hq⟩:=Nf [-1,3] 3 g6 ed (y:=k9) (by simp;omega);have S6:=SA.draw h6 g6;clear J SA g6 h6 ed;obtain⟨c0,c1,c2,c3⟩:=AE S6.yV;have fz:=AK S6.yV;go_wp2_with fail;go_meet;exact⟨⟨q,y,f,x1==0⟩,(S6.set 0 _ (by simp)).mono (by omega)⟩
  have t0:(u==0)=false:=by simp[u0]
  by_cases u1:u=1
  .subst u1
   clear u0;go_wp2_with fail;have ed:=J.dr.lt;have SA:=J.draw (J.dr.alloc (.cells #[.int .i64 (-1),.int .i64 15,.int .i64 16] 3)) (Aa (AJ _ _) _);refine(SA.dr.pick _).mono ?_;rintro e w6 ⟨k9,rfl,k0,k1,h6,g6⟩;replace k1:=k1 (by decide);obtain⟨k9,rfl⟩:=xX k0;obtain⟨q,hq⟩:=Nf [-1,15,16] 3 g6 ed (y:=k9) (by simp;omega);have S6:=SA.draw h6 g6;clear J SA g6 h6 ed;obtain⟨c0,c1,c2,c3⟩:=AE S6.yV;have fz:=AK S6.yV;go_wp2_with fail;go_meet;exact⟨⟨x,q,f,x1==0⟩,(S6.set 1 _ (by simp)).mono (by omega)⟩
  have t1:(u==1)=false:=by simp[u1]
  by_cases u2:u=2
  .subst u2
   clear u0 u1;go_wp2_with fail;refine(UJ J.dr (by omega)).mono ?_;rintro e w8 ⟨_,rfl,⟨q,rfl⟩,h8,g8⟩;have S6:=J.draw h8 g8;clear J h8 g8;obtain⟨c0,c1,c2,c3⟩:=AE S6.yV;have fz:=AK S6.yV;go_wp2_with fail;go_meet;exact⟨⟨x,y,q,x1==0⟩,(S6.set 2 _ (by simp)).mono (by omega)⟩
  have t2:(u==2)=false:=by simp[u2]
  clear u0 u1 u2;go_wp2_with fail;go_meet;exact⟨⟨x,y,f,x1==0⟩,J.mono (by omega)⟩
 case rest=>
  clear J;obtain⟨z,S6⟩:=hcut;obtain⟨c0,c1,c2,c3⟩:=AE S6.yV;have fz:=AK S6.yV;obtain⟨rs,iq,eP⟩:=S6.res;have gp:=AK eP;obtain⟨BX,FX⟩:=dG (v0:=.int .i64 z.e) (v1:=.int .i64 z.p) (v2:=.int .i64 z.f) (v3:=.bool z.w) S6.dr S6.gr S6.glt S6.lo iq eP (yG _) (P:=λv=>∃x:Ad,v=.agg #[.int .i64 x.e,.int .i64 x.p,.int .i64 x.f,.bool x.w]) ⟨z,rfl⟩;obtain⟨r0,r1,r2,r3,rfl⟩:∃r0 r1 r2 r3,rs= #[r0,r1,r2,r3]:=by
   match rs,iq with
   |⟨[a0,a1,a2,a3]⟩,_=>exact⟨a0,a1,a2,a3,rfl⟩
  obtain⟨d0,d1,d2,d3⟩:=AE eP;have BH:=AA BX;have FH:=AA FX;clear BX FX eP S6;go_wp2_with fail;exact yC (v:=.agg #[_,_,_,_]) (by simp[results,Tryz.results143,go_sem,AE BH.out]) rfl FH.out
def NG(v:Value):Prop:=∃x:AV,x.g.size<=8/\v=.agg #[.int .i64 x.k,.string x.g,.int .i64 x.r]
theorem VQ{Y w:World}{g N:Nat}(h:Dr Y g N w)(hN:N<=800000):
 Calls prog 89 #[.pointer (some ⟨g,0,none⟩)] w (Gp Y g (N+10) w NG):=by
 have ac:=h.lt;have bX:Y.heap.size<=w.heap.size:=h.2.1.size;go_in;go_wp2_with fail;refine((h.alloc _).pick _).mono ?_;rintro e w1 ⟨x,rfl,_,_,O,g1⟩
 by_cases x0:x=0
 .subst x0
  have B0:=yw w (.cells #[.int .i64 0,.string ⟨#[]⟩,.int .i64 0] 91);have B1:=(g1.block w.heap.size (by simp) (by simp;omega)).trans B0;have gp:=AK B1;obtain⟨d0,d1,d2⟩:=Lk B1;obtain⟨BX,FX⟩:=bo (v0:=.int .i64 0) (v1:=.string ⟨#[]⟩) (v2:=.int .i64 0) O (AP (Aa (AJ _ _) _) g1) ac bX rfl B1 (M:=N+10) (by omega) (P:=NG) ⟨⟨0,⟨#[]⟩,0⟩,by decide,rfl⟩;have BH:=AA BX;have FH:=AA FX;clear BX FX B0 B1 O g1 h;go_wp2_with fail;exact yC (v:=.agg #[_,_,_]) (by simp[results,rU,go_sem,Lk BH.out]) rfl FH.out
 have t9:(x==0)=false:=by simp[x0]
 clear x0;go_wp2_with fail;refine(O.pick _).mono ?_;rintro e w2 ⟨x,rfl,_,_,R,g2⟩;go_wp2_with fail;refine(Ob w2.heap.size 5 [⟨#[97]⟩,⟨#[97]⟩,⟨#[98]⟩,⟨#[97,98]⟩,⟨#[]⟩] (R.alloc _) (by omega) rfl (by decide) (by decide) (by have:=R.lt;omega) (by simp) (λk hk=>Kc w2 [⟨#[97]⟩,⟨#[97]⟩,⟨#[98]⟩,⟨#[97,98]⟩,⟨#[]⟩] _ hk)).mono ?_;rintro e w3 ⟨v,rfl,⟨s,V,rfl⟩,h3,g3⟩;have iB:s.size<=8:=by
  simp only[xH,wX,or_false] at V
  rcases V with rfl|rfl|rfl|rfl|rfl<;>decide
 clear V;go_wp2_with fail;refine(h3.pick _).mono ?_;rintro e w4 ⟨y,rfl,y0,y1,h4,g4⟩;replace y1:=y1 (by decide);go_wp2_with fail;refine(h4.pick _).mono ?_;rintro e w5 ⟨f,rfl,f0,f1,h5,g5⟩;replace f1:=f1 (by decide);have J:=Ul.start (T:=91) (n:=3) (cs:= #[.int .i64 (1+x),.string s,.int .i64 (wrap64 (y*f))]) h5 (AP (AP (AP g1 g2) (AP (Aa (AJ _ _) _) g3)) (AP g4 g5)) rfl ac bX;clear h O R h3 h4 h5 g1 g2 g3 g4 g5;go_wp2_with fail;generalize w5.alloc _=w7 at J ⊢;generalize w5.heap.size=b at J ⊢;generalize wrap64 (y*f)=r at J ⊢;generalize 1+x=k at J ⊢;refine(J.pk _).mono ?_;rintro e w8 ⟨u,rfl,_,_,S8⟩;clear J;have J:=S8;clear S8;have eM:=J.lt;go_upto_block 0 with fail;go_cut [] (λwx=>∃x:AV,x.g.size<=8/\Ul Y g (N+10) w 91 3 b #[.int .i64 x.k,.string x.g,.int .i64 x.r] wx)
 case first=>
  by_cases u0:u=0
  .subst u0
   go_wp2_with fail;have ed:=J.dr.lt;have SA:=J.draw (J.dr.alloc (.cells #[.int .i64 (-1),.int .i64 0,.int .i64 4] 3)) (Aa (AJ _ _) _);refine(SA.dr.pick _).mono ?_;rintro e w6 ⟨k9,rfl,k0,k1,h6,g6⟩;replace k1:=k1 (by decide);obtain⟨k9,rfl⟩:=xX k0;obtain⟨q,hq⟩:=Nf [-1,0,4] 3 g6 ed (y:=k9) (by simp;omega);have S6:=SA.draw h6 g6;clear J SA g6 h6 ed;obtain⟨c0,c1,c2⟩:=Lk S6.yV;have fz:=AK S6.yV;go_wp2_with fail;go_meet;exact⟨⟨q,s,r⟩,iB,(S6.set 0 _ (by simp)).mono (by omega)⟩
  have t0:(u==0)=false:=by simp[u0]
  by_cases u1:u=1
  .subst u1
   clear u0;go_wp2_with fail;refine(Ja J.dr (by omega)).mono ?_;rintro e w9 ⟨_,rfl,⟨q,kl,rfl⟩,h8,g8⟩;have S6:=J.draw h8 g8;clear J h8 g8;obtain⟨c0,c1,c2⟩:=Lk S6.yV;have fz:=AK S6.yV;go_wp2_with fail;go_meet;exact⟨⟨k,q,r⟩,kl,(S6.set 1 _ (by simp)).mono (by omega)⟩
  have t1:(u==1)=false:=by simp[u1]
  by_cases u2:u=2
  .subst u2
   clear u0 u1;go_wp2_with fail;have ed:=J.dr.lt;have SA:=J.draw (J.dr.alloc (.cells #[.int .i64 (-1),.int .i64 50,.int .i64 51] 3)) (Aa (AJ _ _) _);refine(SA.dr.pick _).mono ?_;rintro e w6 ⟨k9,rfl,k0,k1,h6,g6⟩;replace k1:=k1 (by decide);obtain⟨k9,rfl⟩:=xX k0;obtain⟨q,hq⟩:=Nf [-1,50,51] 3 g6 ed (y:=k9) (by simp;omega);have S6:=SA.draw h6 g6;clear J SA g6 h6 ed;obtain⟨c0,c1,c2⟩:=Lk S6.yV;have fz:=AK S6.yV;go_wp2_with fail;go_meet;exact⟨⟨k,s,q⟩,iB,(S6.set 2 _ (by simp)).mono (by omega)⟩
  have t2:(u==2)=false:=by simp[u2]
  clear u0 u1 u2;go_wp2_with fail;go_meet;exact⟨⟨k,s,r⟩,iB,J.mono (by omega)⟩
 case rest=>
  clear J;obtain⟨z,n4,S6⟩:=hcut;obtain⟨c0,c1,c2⟩:=Lk S6.yV;have fz:=AK S6.yV;obtain⟨rs,iq,eP⟩:=S6.res;have gp:=AK eP;obtain⟨BX,FX⟩:=bo (v0:=.int .i64 z.k) (v1:=.string z.g) (v2:=.int .i64 z.r) S6.dr S6.gr S6.glt S6.lo iq eP (yG _) (P:=NG) ⟨z,n4,rfl⟩;obtain⟨r0,r1,r2,rfl⟩:∃r0 r1 r2,rs= #[r0,r1,r2]:=by
   match rs,iq with
   |⟨[a0,a1,a2]⟩,_=>exact⟨a0,a1,a2,rfl⟩
  obtain⟨d0,d1,d2⟩:=Lk eP;have BH:=AA BX;have FH:=AA FX;clear BX FX eP S6;go_wp2_with fail;exact yC (v:=.agg #[_,_,_]) (by simp[results,rU,go_sem,Lk BH.out]) rfl FH.out
theorem Ie{w w1 w2:World}{g q:Nat}(h:w.grownBy w1 (some g))(R:w1.grownBy w2 (some q))(hq:w.heap.size<=q):w.grownBy w2 (some g):=
 ⟨R.os.trans h.os,R.tape.trans h.tape,R.output.trans h.output,yL h.size R.size,λk hk ep=>(R.block k (yv hk h.size) (λe=>by cases e;omega)).trans (h.block k hk ep)⟩
structure Mn(ok:AN->Prop)(w0:World)(g N:Nat)(w:World)(b:Nat)(m i e c:Value)(k:AN)(wr:World):Prop where
 dr:Dr w0 g N wr
 gr:w.grownBy wr (some g)
 yT:IT (w.heap.size+1) wr b m i e c k
 good:ok k
 glt:g<w.heap.size
 lo:w0.heap.size<=w.heap.size
 lt:w.heap.size<b
 res:∃a0 a1 a2 a3,wr.heap[w.heap.size]?=some (.cells #[a0,a1,a2,a3] 28 (0,0))
section
variable {ok:AN->Prop} {Y w wr w':World} {g N M b:Nat} {m i e c m' i' e' c':Value} {k k':AN}
theorem Mn.draw(h:Mn ok Y g N w b m i e c k wr)(hd:Dr Y g M w')(hg:wr.grownBy w' (some g)):Mn ok Y g M w b m i e c k w':=by
 have dd:=h.glt;have hp:∀b',some g=some b'->b'<w.heap.size+1:=λb' e=>by cases e;omega
 have km:∀b',some g=some b'->b'<w.heap.size:=λb' e=>by cases e;exact dd
 obtain⟨a0,a1,a2,a3,O⟩:=h.res;exact⟨hd,AP h.gr hg,⟨GH h.yT.1 h.yT.2.1 hg hp,h.yT.2.1,h.yT.2.2.past hg hp⟩,h.good,dd,h.lo,h.lt,a0,a1,a2,a3,GH O (yG _) hg km⟩
theorem Mn.below(h:Mn ok Y g N w b m i e c k wr)(K:Below wr.heap.size wr w'):Mn ok Y g N w b m i e c k w':=h.draw (h.dr.below K) (Aa K _)
theorem Mn.pk(h:Mn ok Y g N w b m i e c k wr)(n:Int)(hN:N<=900000:=by omega)(h0:0<n:=by decide)(hn:n<=1000000:=by decide):Calls prog 17 #[.pointer (some ⟨g,0,none⟩),.int .i64 n] wr λe' w'=>∃x:Int,e'=.returned (.int .i64 x)/\0<=x/\x<n/\Mn ok Y g (N+1) w b m i e c k w':=
 (h.dr.pick n (by omega) hn).mono λ_ _ hp=>by obtain⟨x,rfl,O,R,h3,h4⟩:=hp;exact⟨x,rfl,O,R h0,h.draw h3 h4⟩
theorem cQ{b0 b1 b2 b3:Value}(hd:Dr Y g N wr)(hg:w.grownBy wr (some g))(hB:wr.heap[b]?=some (.cells #[b0,b1,b2,b3] 28 (0,0)))(h1:Dh (w.heap.size+1) wr m' i' e' c' k')(hk:ok k')(h3:g<w.heap.size)(R:Y.heap.size<=w.heap.size)(O:w.heap.size<b)(dq:∃a0 a1 a2 a3,wr.heap[w.heap.size]?=some (.cells #[a0,a1,a2,a3] 28 (0,0))):Mn ok Y g N w b m' i' e' c' k' ((((wr.setCell ⟨b,0,none⟩ m').setCell ⟨b,1,none⟩ i').setCell ⟨b,2,none⟩ e').setCell ⟨b,3,none⟩ c'):=by
 have az:=Aq wr b m' i' e' c';obtain⟨a0,a1,a2,a3,h4⟩:=dq;have n1:b≠g:=by omega
 have n2:Y.heap.size<=b:=by omega
 have n3:w.heap.size<=b:=by omega
 exact⟨(((hd.set n1 n2).set n1 n2).set n1 n2).set n1 n2,Cj (Cj (Cj (Cj hg n3 _) n3 _) n3 _) n3 _,⟨Cw hB,O,h1.yW az hB⟩,hk,h3,R,O,a0,a1,a2,a3,(az.block _ (AW h4) (by simp;omega)).trans h4⟩
end
def dW(ok:AN->Prop)(Y:World)(g N:Nat)(w:World):Ending->World->Prop:=J4 Y g N w λv w'=>∃m i e c k,v=.agg #[m,i,e,c]/\PY w.heap.size w' m i e c k/\ok k
def JV(ok:AN->Prop)(Y:World)(g N:Nat)(w:World)(b:Nat)(wr:World):Prop:=∃m i e c k,Dr Y g N wr/\w.grownBy wr (some g)/\wr.heap[b]?=some (.cells #[m,i,e,c] 28 (0,0))/\PY w.heap.size wr m i e c k/\ok k/\∃a0 a1 a2 a3,wr.heap[w.heap.size]?=some (.cells #[a0,a1,a2,a3] 28 (0,0))
theorem Mn.ke{ok ok':AN->Prop}{Y w wr w1:World}{g N M b q:Nat}{m i e c m' i' e' c':Value}{k k':AN}(h:Mn ok Y g N w b m i e c k wr)(az:wr.grownBy w1 (some q))(hq:w.heap.size<q)(hB:w1.heap[b]?=some (.cells #[m',i',e',c'] 28 (0,0)))(h1:PY (w.heap.size+1) w1 m' i' e' c' k')(hk:ok' k')(hM:N<=M):JV ok' Y g M w b w1:=by
 obtain⟨a0,a1,a2,a3,h4⟩:=h.res;have O:=h.glt;have R:=h.lo;exact⟨m',i',e',c',k',(h.dr.keep az (by simp;omega) (λk hk=>by cases hk;omega)).mono hM,Ie h.gr az (by omega),hB,h1.map (λ_ _ _ _ _ _ _ h=>BZ h (wH _)),hk,a0,a1,a2,a3,(az.block _ (AW h4) (by simp;omega)).trans h4⟩
def dY(ok:AN->Prop)(Y:World)(g N:Nat)(w:World)(m i e c:Value)(W:World):Prop:=W.heap[w.heap.size]?=some (.cells #[m,i,e,c] 28 (0,0))/\dW ok Y g N w (.returned (.agg #[m,i,e,c])) W
theorem cR{ok:AN->Prop}{Y w wr:World}{g N M:Nat}{m i e c a0 a1 a2 a3:Value}{k:AN}(hd:Dr Y g N wr)(hg:w.grownBy wr (some g))(S:PY w.heap.size wr m i e c k)(hk:ok k)(dd:g<w.heap.size)(ax:Y.heap.size<=w.heap.size)(hB:wr.heap[w.heap.size]?=some (.cells #[a0,a1,a2,a3] 28 (0,0)))(hM:N<=M):
 dY ok Y g M w m i e c ((((wr.setCell ⟨w.heap.size,0,none⟩ m).setCell ⟨w.heap.size,1,none⟩ i).setCell ⟨w.heap.size,2,none⟩ e).setCell ⟨w.heap.size,3,none⟩ c):=by
 have az:=Aq wr w.heap.size m i e c;have n1:w.heap.size≠g:=by omega
 have n3:=yG w.heap.size;exact⟨Cw hB,_,rfl,⟨_,_,_,_,k,rfl,S.map (L6 az hB (.inl rfl) (yG _)),hk⟩,((((hd.set n1 ax).set n1 ax).set n1 ax).set n1 ax).mono hM,Cj (Cj (Cj (Cj hg n3 _) n3 _) n3 _) n3 _⟩
structure IZ(ok:AR->Prop)(w0:World)(g N:Nat)(w:World)(b:Nat)(m i e c s l q:Value)(P:AR)(wr:World):Prop where
 dr:Dr w0 g N wr
 gr:w.grownBy wr (some g)
 yR:JR (w.heap.size+1) b wr m i e c s l q P
 good:ok P
 glt:g<w.heap.size
 lo:w0.heap.size<=w.heap.size
 lt:w.heap.size<b
 res:∃a0 a1 a2 a3 a4 a5 a6 a7 a8,wr.heap[w.heap.size]?=some (.cells #[a0,a1,a2,a3,a4,a5,a6,a7,a8] 32 (0,0))
section
variable {ok:AR->Prop} {Y w wr w':World} {g N M b:Nat} {m i e c s l q m' i' e' c' s' l' q':Value} {P P':AR}
theorem Fh.past'{lo:Nat}{row:Option Nat}(h:Fh lo w m i e c s l q P)(hg:w.grownBy w' row)(hr:∀b,row=some b->b<lo):Fh lo w' m i e c s l q P:=by
 obtain⟨O,⟨L,R,h3,h4⟩,h5,h6,h7⟩:=h;exact⟨O.past hg hr,⟨L,Br R hg hr,h3.mono λ_ _ x=>Br x hg hr,h4⟩,Br h5 hg hr,Br h6 hg hr,h7⟩
theorem IZ.draw(h:IZ ok Y g N w b m i e c s l q P wr)(hd:Dr Y g M w')(hg:wr.grownBy w' (some g)):IZ ok Y g M w b m i e c s l q P w':=by
 have dd:=h.glt;have hp:∀b',some g=some b'->b'<w.heap.size+1:=λb' e=>by cases e;omega
 have km:∀b',some g=some b'->b'<w.heap.size:=λb' e=>by cases e;exact dd
 obtain⟨a0,a1,a2,a3,a4,a5,a6,a7,a8,O⟩:=h.res;exact⟨hd,AP h.gr hg,⟨GH h.yR.yV h.yR.yU hg hp,h.yR.yU,h.yR.own.past' hg hp⟩,h.good,dd,h.lo,h.lt,a0,a1,a2,a3,a4,a5,a6,a7,a8,GH O (yG _) hg km⟩
theorem IZ.below(h:IZ ok Y g N w b m i e c s l q P wr)(K:Below wr.heap.size wr w'):IZ ok Y g N w b m i e c s l q P w':=h.draw (h.dr.below K) (Aa K _)
theorem IZ.pk(h:IZ ok Y g N w b m i e c s l q P wr)(n:Int)(hN:N<=900000:=by omega)(h0:0<n:=by decide)(hn:n<=1000000:=by decide):Calls prog 17 #[.pointer (some ⟨g,0,none⟩),.int .i64 n] wr λe' w'=>∃x:Int,e'=.returned (.int .i64 x)/\0<=x/\x<n/\IZ ok Y g (N+1) w b m i e c s l q P w':=
 (h.dr.pick n (by omega) hn).mono λ_ _ hp=>by obtain⟨x,rfl,O,R,h3,h4⟩:=hp;exact⟨x,rfl,O,R h0,h.draw h3 h4⟩
theorem cW{b0 b1 b2 b3 b4 b5 b6 b7 b8:Value}(hd:Dr Y g N wr)(hg:w.grownBy wr (some g))(hB:wr.heap[b]?=some (.cells #[b0,b1,b2,b3,b4,b5,b6,b7,b8] 32 (0,0)))(h1:Fh (w.heap.size+1) wr m' i' e' c' s' l' q' P')(hk:ok P')(h3:g<w.heap.size)(R:Y.heap.size<=w.heap.size)(O:w.heap.size<b)(dq:∃a0 a1 a2 a3 a4 a5 a6 a7 a8,wr.heap[w.heap.size]?=some (.cells #[a0,a1,a2,a3,a4,a5,a6,a7,a8] 32 (0,0))):IZ ok Y g N w b m' i' e' c' s' l' q' P' (((Fd wr b m' i' e' c' s' l' q').setCell ⟨b,7,none⟩ (.int .i64 P'.Il)).setCell ⟨b,8,none⟩ (.int .i64 P'.UQ)):=by
 obtain⟨n6,o6,dg⟩:=DK hB h1;obtain⟨a0,a1,a2,a3,a4,a5,a6,a7,a8,h4⟩:=dq;exact⟨hd.keep dg (by simp;omega) (λk hk=>by cases hk;omega),Ie hg dg (by omega),⟨n6,O,o6⟩,hk,h3,R,O,a0,a1,a2,a3,a4,a5,a6,a7,a8,(dg.block _ (AW h4) (by simp;omega)).trans h4⟩
end
def dX(ok:AR->Prop)(Y:World)(g N:Nat)(w:World):Ending->World->Prop:=J4 Y g N w λv w'=>∃m i e c s l q P,v=AQ m i e c s l q P.Il P.UQ/\OH w.heap.size w' m i e c s l q P/\ok P
def Un(ok:AR->Prop)(Y:World)(g N:Nat)(w:World)(b:Nat)(wr:World):Prop:=∃m i e c s l q P,Dr Y g N wr/\w.grownBy wr (some g)/\wr.heap[b]?=some (.cells #[m,i,e,c,s,l,q,.int .i64 P.Il,.int .i64 P.UQ] 32 (0,0))/\OH w.heap.size wr m i e c s l q P/\ok P/\∃a0 a1 a2 a3 a4 a5 a6 a7 a8,wr.heap[w.heap.size]?=some (.cells #[a0,a1,a2,a3,a4,a5,a6,a7,a8] 32 (0,0))
theorem IZ.pe{ok ok':AR->Prop}{Y w wr w1:World}{g N M b q:Nat}{m i e c s l p m' i' e' c' s' l' p':Value}{P P':AR}(h:IZ ok Y g N w b m i e c s l p P wr)(az:wr.grownBy w1 (some q))(hq:w.heap.size<q)(hB:w1.heap[b]?=some (.cells #[m',i',e',c',s',l',p',.int .i64 P'.Il,.int .i64 P'.UQ] 32 (0,0)))(h1:OH (w.heap.size+1) w1 m' i' e' c' s' l' p' P')(hk:ok' P')(hM:N<=M):Un ok' Y g M w b w1:=by
 obtain⟨a0,a1,a2,a3,a4,a5,a6,a7,a8,h4⟩:=h.res;have O:=h.glt;have R:=h.lo;exact⟨m',i',e',c',s',l',p',P',(h.dr.keep az (by simp;omega) (λk hk=>by cases hk;omega)).mono hM,Ie h.gr az (by omega),hB,h1.map (λ_ _ _ _ _ _ _ h=>BZ h (wH _)),hk,a0,a1,a2,a3,a4,a5,a6,a7,a8,(az.block _ (AW h4) (by simp;omega)).trans h4⟩
def dZ(ok:AR->Prop)(Y:World)(g N:Nat)(w:World)(m i e c s l q:Value)(P:AR)(W:World):Prop:=W.heap[w.heap.size]?=some (.cells #[m,i,e,c,s,l,q,.int .i64 P.Il,.int .i64 P.UQ] 32 (0,0))/\dX ok Y g N w (.returned (AQ m i e c s l q P.Il P.UQ)) W
theorem cX{ok:AR->Prop}{Y w wr:World}{g N M:Nat}{m i e c s l q a0 a1 a2 a3 a4 a5 a6 a7 a8:Value}{P:AR}(hd:Dr Y g N wr)(hg:w.grownBy wr (some g))(S:OH w.heap.size wr m i e c s l q P)(hk:ok P)(dd:g<w.heap.size)(ax:Y.heap.size<=w.heap.size)(hB:wr.heap[w.heap.size]?=some (.cells #[a0,a1,a2,a3,a4,a5,a6,a7,a8] 32 (0,0)))(hM:N<=M):
 dZ ok Y g M w m i e c s l q P (((Fd wr w.heap.size m i e c s l q).setCell ⟨w.heap.size,7,none⟩ (.int .i64 P.Il)).setCell ⟨w.heap.size,8,none⟩ (.int .i64 P.UQ)):=by
 have az:=F8 (w:=wr) (g:=w.heap.size) (b0:=m) (b1:=i) (b2:=e) (b3:=c) (b4:=s) (b5:=l) (b6:=q) (b7:=.int .i64 P.Il) (b8:=.int .i64 P.UQ);exact⟨IP hB,_,rfl,⟨_,_,_,_,_,_,_,P,rfl,S.map (L6 az hB (.inr rfl) (yG _)),hk⟩,(hd.keep az (by simp;omega) (λk hk=>by cases hk;exact ax)).mono hM,Ie hg az (yG _)⟩
structure LV(w0:World)(g N:Nat)(w W1:World)(b:Nat)(m i e c s l q:Value)(P:AR)(wr:World):Prop where
 dr:Dr w0 g N wr
 gr:w.grownBy wr (some g)
 yV:wr.heap[b]?=some (.cells #[m,i,e,c,s,l,q,.int .i64 P.Il,.int .i64 P.UQ] 32 (0,0))
 sf:OH (w.heap.size+1) wr m i e c s l q P
 good:Ec P
 glt:g<w.heap.size
 lo:w0.heap.size<=w.heap.size
 lt:w.heap.size<b
 sz:W1.heap.size<=wr.heap.size
 kp:∀k,k<W1.heap.size->k≠g->k≠b->wr.heap[k]?=W1.heap[k]?
section
variable {Y w W1 wr w':World} {g N M b:Nat} {m i e c s l q m' i' e' c' s' l' q':Value} {P P':AR}
theorem LV.draw(h:LV Y g N w W1 b m i e c s l q P wr)(hd:Dr Y g M w')(hg:wr.grownBy w' (some g)):LV Y g M w W1 b m i e c s l q P w':=by
 have O:=h.glt;have R:=h.lt;have h3:=h.sz;exact⟨hd,AP h.gr hg,(hg.block b (AW h.yV) (by simp;omega)).trans h.yV,h.sf.map (GU hg (by omega) (yG _)),h.good,O,h.lo,R,yL h3 hg.size,λk hk kx ky=>(hg.block k (by omega) (by simp;omega)).trans (h.kp k hk kx ky)⟩
theorem LV.below(h:LV Y g N w W1 b m i e c s l q P wr)(K:Below wr.heap.size wr w'):LV Y g N w W1 b m i e c s l q P w':=h.draw (h.dr.below K) (Aa K _)
theorem LV.mono(h:LV Y g N w W1 b m i e c s l q P wr)(hm:N<=M):LV Y g M w W1 b m i e c s l q P wr:=⟨h.dr.mono hm,h.gr,h.yV,h.sf,h.good,h.glt,h.lo,h.lt,h.sz,h.kp⟩
theorem LV.pk(h:LV Y g N w W1 b m i e c s l q P wr)(n:Int)(hN:N<=900000:=by omega)(h0:0<n:=by decide)(hn:n<=1000000:=by decide):Calls prog 17 #[.pointer (some ⟨g,0,none⟩),.int .i64 n] wr λe' w'=>∃x:Int,e'=.returned (.int .i64 x)/\0<=x/\x<n/\LV Y g (N+1) w W1 b m i e c s l q P w':=
 (h.dr.pick n (by omega) hn).mono λ_ _ hp=>by obtain⟨x,rfl,O,R,h3,h4⟩:=hp;exact⟨x,rfl,O,R h0,h.draw h3 h4⟩
theorem LV.put(h:LV Y g N w W1 b m i e c s l q P wr)(h1:OH (w.heap.size+1) wr m' i' e' c' s' l' q' P')(hk:Ec P'):
 LV Y g N w W1 b m' i' e' c' s' l' q' P' (((Fd wr b m' i' e' c' s' l' q').setCell ⟨b,7,none⟩ (.int .i64 P'.Il)).setCell ⟨b,8,none⟩ (.int .i64 P'.UQ)):=by
 have O:=h.glt;have R:=h.lt;have h3:=h.sz;have h4:=h.lo;have dg:=F8 (w:=wr) (g:=b) (b0:=m') (b1:=i') (b2:=e') (b3:=c') (b4:=s') (b5:=l') (b6:=q') (b7:=.int .i64 P'.Il) (b8:=.int .i64 P'.UQ);exact⟨h.dr.keep dg (by simp;omega) (λk hk=>by cases hk;omega),Ie h.gr dg (by omega),IP h.yV,h1.map (L6 dg h.yV (.inr rfl) (yG _)),hk,O,h4,R,yL h3 dg.size,λk hk kx ky=>(dg.block k (by omega) (by simp;omega)).trans (h.kp k hk kx ky)⟩
end
def Pf(Y:World)(g N:Nat)(w W1:World)(b:Nat)(wr:World):Prop:=∃m i e c s l q P,LV Y g N w W1 b m i e c s l q P wr
theorem Pf.below{Y w W1 wr w':World}{g N b:Nat}(h:Pf Y g N w W1 b wr)(K:Below wr.heap.size wr w'):Pf Y g N w W1 b w':=by obtain⟨m,i,e,c,s,l,q,P,h⟩:=h;exact⟨m,i,e,c,s,l,q,P,h.below K⟩
def On(lo:Nat)(w:World)(v:Value):Prop:=∃m i e c s l q P,v=AQ m i e c s l q P.Il P.UQ/\OH lo w m i e c s l q P/\Ec P
theorem On.past{lo g:Nat}{w w':World}{v:Value}(h:On lo w v)(hg:g<lo)(K:w.grownBy w' (some g)):On lo w' v:=by obtain⟨m,i,e,c,s,l,q,P,O,R,h3⟩:=h;exact⟨m,i,e,c,s,l,q,P,O,R.map (GU K hg (yG _)),h3⟩
theorem OH.pgR{lo lo':Nat}{w:World}{m i e c s l q:Value}{P:AR}(h:OH lo w m i e c s l q P)(hk:Ec P)(hl:lo'<=lo):On lo' w (AQ m i e c s l q P.Il P.UQ):=⟨m,i,e,c,s,l,q,P,rfl,h.map (λ_ _ _ _ _ _ _ x=>BZ x hl),hk⟩
theorem JV.put{ok:AN->Prop}{Y w wr:World}{g N b:Nat}{a0 a1 a2 a3 b0 b1 b2 b3 m' i' e' c':Value}{k':AN}(hd:Dr Y g N wr)(hg:w.grownBy wr (some g))(hB:wr.heap[b]?=some (.cells #[b0,b1,b2,b3] 28 (0,0)))(h1:PY w.heap.size wr m' i' e' c' k')(hk:ok k')(ac:g<w.heap.size)(ax:Y.heap.size<=w.heap.size)(K:w.heap.size<b)(dq:wr.heap[w.heap.size]?=some (.cells #[a0,a1,a2,a3] 28 (0,0))):
 JV ok Y g N w b ((((wr.setCell ⟨b,0,none⟩ m').setCell ⟨b,1,none⟩ i').setCell ⟨b,2,none⟩ e').setCell ⟨b,3,none⟩ c'):=by
 have az:=Aq wr b m' i' e' c';exact⟨m',i',e',c',k',hd.keep az (by simp;omega) (λk hk=>by cases hk;omega),Ie hg az (by omega),Cw hB,h1.map (L6 az hB (.inl rfl) (yG _)),hk,a0,a1,a2,a3,(az.block _ (AW dq) (by simp;omega)).trans dq⟩
theorem JV.draw{ok:AN->Prop}{Y w wr w':World}{g N M b:Nat}(h:JV ok Y g N w b wr)(ac:g<w.heap.size)(K:w.heap.size<b)(hd:Dr Y g M w')(hg:wr.grownBy w' (some g)):JV ok Y g M w b w':=by
 obtain⟨m,i,e,c,k,O,R,h3,h4,h5,a0,a1,a2,a3,h6⟩:=h;exact⟨m,i,e,c,k,hd,AP R hg,(hg.block _ (AW h3) (by simp;omega)).trans h3,h4.map (λ_ _ _ _ _ _ _ x=>Br x hg (λb' e=>by cases e;exact ac)),h5,a0,a1,a2,a3,(hg.block _ (AW h6) (by simp;omega)).trans h6⟩
theorem JV.below{ok:AN->Prop}{Y w wr w':World}{g N b:Nat}(h:JV ok Y g N w b wr)(ac:g<w.heap.size)(K:w.heap.size<b)(mt:Below wr.heap.size wr w'):JV ok Y g N w b w':=by obtain⟨m,i,e,c,k,O,R⟩:=h;exact JV.draw ⟨m,i,e,c,k,O,R⟩ ac K (O.below mt) (Aa mt _)
theorem JV.mono{ok:AN->Prop}{Y w wr:World}{g N M b:Nat}(h:JV ok Y g N w b wr)(hm:N<=M):JV ok Y g M w b wr:=by obtain⟨m,i,e,c,k,O,R⟩:=h;exact⟨m,i,e,c,k,O.mono hm,R⟩
theorem JV.pk{ok:AN->Prop}{Y w wr:World}{g N b:Nat}(h:JV ok Y g N w b wr)(ac:g<w.heap.size)(K:w.heap.size<b)(n:Int)(hN:N<=900000:=by omega)(h0:0<n:=by decide)(hn:n<=1000000:=by decide):Calls prog 17 #[.pointer (some ⟨g,0,none⟩),.int .i64 n] wr λe' w'=>∃x:Int,e'=.returned (.int .i64 x)/\0<=x/\x<n/\JV ok Y g (N+1) w b w':=by
 obtain⟨m,i,e,c,k,O,R⟩:=h;refine(O.pick n (by omega) hn).mono λ_ _ hp=>?_
 obtain⟨x,rfl,h3,h4,h5,h6⟩:=hp;exact⟨x,rfl,h3,h4 h0,JV.draw ⟨m,i,e,c,k,O,R⟩ ac K h5 h6⟩
def ZC(lo:Nat)(w:World)(v:Value):Prop:=∃m i e c k,v=.agg #[m,i,e,c]/\PY lo w m i e c k/\DP k
theorem ZC.past{lo g:Nat}{w w':World}{v:Value}(h:ZC lo w v)(hg:g<lo)(K:w.grownBy w' (some g)):ZC lo w' v:=by obtain⟨m,i,e,c,k,O,R,h3⟩:=h;exact⟨m,i,e,c,k,O,R.map (GU K hg (yG _)),h3⟩
theorem Pf.mono{Y w W1 wr:World}{g N M b:Nat}(h:Pf Y g N w W1 b wr)(hm:N<=M):Pf Y g M w W1 b wr:=by obtain⟨m,i,e,c,s,l,q,P,h⟩:=h;exact⟨m,i,e,c,s,l,q,P,h.mono hm⟩
theorem UK{Y w:World}{g N:Nat}(h:Dr Y g N w)(hN:N<=100000):
 Calls prog 39 #[.pointer (some ⟨g,0,none⟩)] w (dX Ec Y g (N+900) w):=by
 have ac:=h.lt;have bX:Y.heap.size<=w.heap.size:=h.2.1.size;obtain⟨B0,bA⟩:=EH w (.cells #[.slice none 0 0,.slice none 0 0,.slice none 0 0,.slice none 0 0,.slice none 0 0,.slice none 0 0,.slice none 0 0,.int .i64 0,.int .i64 0] 32);have gA:=Aa bA (some g);have hA:=h.below bA;have gg:=AW B0;go_in;go_wp2_with fail;generalize w.alloc _=wa at*;refine(hA.pick _).mono ?_;rintro e w2 ⟨y,rfl,y0,y1,R,g2⟩;replace y1:=y1 (by decide);have R2:=(g2.block w.heap.size gg (by simp;omega)).trans B0;have G2:=AP gA g2;have gf:w.heap.size+1<=w2.heap.size:=yL gg g2.size;clear hA gA B0 bA g2 h gg;go_wp2_with fail;refine(Nr (1+y) w2 (by omega) (by omega)).mono ?_;rintro e w6 ⟨m1,i1,e1,c1,s1,l1,q1,rfl,O6,b6⟩;obtain⟨⟨⟨ma,mn,mc,rfl⟩,⟨ia,iN,ic,rfl⟩,⟨ea,en,ec,rfl⟩,⟨ca,cn,cc,rfl⟩⟩,⟨sa,sn,sc,rfl⟩,⟨la,ln,lc,rfl⟩,⟨qa,qn,qc,rfl⟩⟩:=O6.Ex;have fG:Ec (VW (1+y)):=Xj (by omega) (by omega);clear y0 y1;generalize VW (1+y)=P1 at*;unfold AQ;have bB:=AJ w6 (.cells #[.slice ma mn mc,.slice ia iN ic,.slice ea en ec,.slice ca cn cc,.slice sa sn sc,.slice la ln lc,.slice qa qn qc,.int .i64 P1.Il,.int .i64 P1.UQ] 32);have f4:=b6.trans (bB.mono b6.size);have J:LV Y g (N+1) w (w6.alloc (.cells #[.slice ma mn mc,.slice ia iN ic,.slice ea en ec,.slice ca cn cc,.slice sa sn sc,.slice la ln lc,.slice qa qn qc,.int .i64 P1.Il,.int .i64 P1.UQ] 32)) w6.heap.size _ _ _ _ _ _ _ P1 (w6.alloc (.cells #[.slice ma mn mc,.slice ia iN ic,.slice ea en ec,.slice ca cn cc,.slice sa sn sc,.slice la ln lc,.slice qa qn qc,.int .i64 P1.Il,.int .i64 P1.UQ] 32)):=⟨R.below f4,AP G2 (Aa f4 _),yw _ _,O6.map (Kj bB gf),fG,ac,bX,by have:=b6.size;omega,yG _,λ_ _ _ _=>rfl⟩;have R6:=AB R2 f4;clear O6 b6 bB f4 R G2 R2 fG gf;go_wp2_with fail;generalize w6.alloc _=W1 at*;generalize w6.heap.size=b at*;refine(J.pk 24).mono ?_;rintro e w7 ⟨n,rfl,n0,n1,S7⟩;clear J;obtain⟨n,rfl⟩:=xX n0;have ks:n<24:=by omega
 clear n0 n1;go_wp2_with fail;refine(S7.pk 5).mono ?_;rintro e w8 ⟨x1,rfl,z0,z1,S8⟩;clear S7;go_wp2_with fail;generalize(x1==0)=gr;go_loopw [7] (λi wr=>∃j:Nat,j<=n/\i=.int .i64 j/\Pf Y g (N+3+33*j) w W1 b wr) (λi _=>n - (intOf i).toNat)
 exact⟨0,yu _,rfl,_,_,_,_,_,_,_,P1,S8⟩
 clear S8 z0 z1;obtain⟨j,hj,rfl,m1,i1,e1,c1,s1,l1,q1,Q,J⟩:=hrel;obtain⟨⟨⟨ma,mn,mc,rfl⟩,⟨ia,iN,ic,rfl⟩,⟨ea,en,ec,rfl⟩,⟨ca,cn,cc,rfl⟩⟩,⟨sa,sn,sc,rfl⟩,⟨la,ln,lc,rfl⟩,⟨qa,qn,qc,rfl⟩⟩:=J.sf.Ex
 by_cases gj:j<n
 .go_wp2_with fail
  refine(J.pk 4).mono ?_;rintro e wr ⟨x,rfl,x0,z,S4⟩;clear J;obtain⟨N1,hN1⟩:∃M,M=N+3+33*j+1:=⟨_,rfl⟩
  rw[<-hN1] at S4;have ku:=S4.lt;obtain⟨c0,c1,c2,c3,c4,c5,c6,c7,c8⟩:=AD S4.yV;have av:=AW S4.yV
  rcases(show(x=0∨x=1)∨x=2∨x=3 by omega) with hx|rfl|rfl
  .rcases hx with rfl|rfl<;>go_wp2_with fail
   all_goals
    refine Je (s:=10) (U:=λix vv=>match ix with
     |2=>Pk 64 vv
     |4=>Pk 999 vv
     |5=>∃x:Int,vv=.int .i64 x/\1<=x/\x<=999
     |6|7=>∃v,∃x:Bool,vv=.tuple #[v,.bool x]
     |_=>True) 11 66 1 2 [2,4] [.a #[.slice ma mn mc,.slice ia iN ic,.slice ea en ec,.slice ca cn cc,.slice sa sn sc,.slice la ln lc,.slice qa qn qc,.int .i64 Q.Il,.int .i64 Q.UQ],.p g 0,.z,.p g 0,.z,.z,.z,.z,.z,.z,.u] (λix vv ww=>match ix with
     |6|7=>∃v,(∃x:Bool,vv=.tuple #[v,.bool x])/\On (w.heap.size+1) ww v
     |8=>On (w.heap.size+1) ww vv
     |9=>True
     |_=>True) (λww=>Pf Y g (N1+2) w W1 b ww) S4.dr ?_ ?_ ?_ ?_ ?_ (hst:=?_)
    .intro i hi hS o E a wx H ll A D hr hb X
     match i,hi,hS with
     |0,_,_=>have hW:=hr (by kernel_rfl);have bx:=gc hW av (by omega) c0;have bk:=gc hW av (by omega) c1;have bw:=gc hW av (by omega) c2;have bN:=gc hW av (by omega) c3;have bn:=gc hW av (by omega) c4;have cP:=gc hW av (by omega) c5;have gb:=gc hW av (by omega) c6;have g0:=gc hW av (by omega) c7;have ii:=gc hW av (by omega) c8;exact LY E X H A D (hl:=Wl ‹_› ‹_› ‹_› ‹_› ‹_› ‹_› ‹_› ‹_› ‹_›)
     |1,_,_|3,_,_=>exact WP E X H A D
     |2,_,V|4,_,V|10,_,V=>cases V
     |5,_,_=>obtain rfl:=yQ E;have d4:(Pk 999 (a.tmps[36]?.getD undef))/\(ll 10=false->True):=Dc A D 4;obtain⟨⟨x4,d4,p2,p3⟩,_⟩:=d4;have gz:=Bb D 10;clear A H;refine yP ?_;go_simp;exact X.out _ _ ⟨⟨_,by rw[xM _ (by omega)],by omega,by omega⟩,λ_=>trivial⟩ (yO _ _)
     |6,_,_=>obtain rfl:=yQ E;have d0:(a.tmps[32]?.getD undef)=.agg #[.slice ma mn mc,.slice ia iN ic,.slice ea en ec,.slice ca cn cc,.slice sa sn sc,.slice la ln lc,.slice qa qn qc,.int .i64 Q.Il,.int .i64 Q.UQ]:=Dc A D 0;have d2:(Pk 64 (a.tmps[34]?.getD undef))/\(ll 10=false->True):=Dc A D 2;obtain⟨⟨x2,d2,p0,p1⟩,_⟩:=d2;have d5:(∃x:Int,(a.tmps[37]?.getD undef)=.int .i64 x/\1<=x/\x<=999)/\(ll 10=false->True):=Dc A D 5;obtain⟨⟨x5,d5,r0,r1⟩,_⟩:=d5;have gz:=Bb D 10;clear A H;have hW:=hr (by kernel_rfl);have gN:=S4.sf.map (GU hW (by omega) (yG _));have ki:=hW.size;obtain⟨a2,rfl⟩:=xX p0;refine yP ?_;go_simp;refine(LQ _ _ _ _ _ _ _ Q wx gN.rd S4.good (a:=a2) (by omega) (x:=x5) (AZ.2 (by omega))).mono ?_;rintro e w_ ⟨m9,i9,e9,c9,s9,l9,q9,rfl,hO,eh⟩;exact X.out _ _ ⟨⟨_,_,rfl⟩,λ_=>⟨_,⟨_,rfl⟩,hO.sf.pgR (TT S4.good (by omega) (AZ.2 (by omega))) (by omega)⟩⟩ eh
     |7,_,_=>obtain rfl:=yQ E;have d6:(∃v,∃x:Bool,(a.tmps[38]?.getD undef)=.tuple #[v,.bool x])/\(ll 10=false->∃v,(∃x:Bool,(a.tmps[38]?.getD undef)=.tuple #[v,.bool x])/\On (w.heap.size+1) wx v):=Dc A D 6;have gz:=Bb D 10;clear A H;have q:=d6.2 (Bb D 10);obtain⟨v9,⟨x9,e9⟩,q⟩:=q;refine yP ?_;go_simp;exact X.out _ _ ⟨⟨_,_,rfl⟩,λ_=>⟨_,⟨_,rfl⟩,q⟩⟩ (yO _ _)
     |8,_,_=>obtain rfl:=yQ E;have d7:(∃v,∃x:Bool,(a.tmps[31]?.getD undef)=.tuple #[v,.bool x])/\(ll 10=false->∃v,(∃x:Bool,(a.tmps[31]?.getD undef)=.tuple #[v,.bool x])/\On (w.heap.size+1) wx v):=Dc A D 7;have gz:=Bb D 10;clear A H;have q:=d7.2 (Bb D 10);obtain⟨v9,⟨x9,e9⟩,q⟩:=q;refine yP ?_;go_simp;exact X.out _ _ ⟨trivial,λ_=>q⟩ (yO _ _)
     |9,_,_=>obtain rfl:=yQ E;have d7:(∃v,∃x:Bool,(a.tmps[31]?.getD undef)=.tuple #[v,.bool x])/\(ll 10=false->∃v,(∃x:Bool,(a.tmps[31]?.getD undef)=.tuple #[v,.bool x])/\On (w.heap.size+1) wx v):=Dc A D 7;clear A H;obtain⟨v9,x9,e9⟩:=d7.1;refine yP ?_;go_simp;exact X.out _ _ ⟨trivial,λ_=>trivial⟩ (yO _ _)
    .intro i hi hS o E a wx H ll A D Z hb X
     match i,hi,hS with
     |2,_,_=>exact fK (m:=64) E X H A D Z (by omega)
     |4,_,_=>exact fK (m:=999) E X H A D Z (by omega)
     |0,_,V|1,_,V|3,_,V|5,_,V|6,_,V|7,_,V|8,_,V|9,_,V|10,_,V=>cases V
    .intro o E a wx H ll A D hD hW hb X
     obtain rfl:=yQ E;have e3:a.tmps[3]?.getD undef=.pointer (some ⟨b,0,none⟩):=eg (PV H 3);have d8:(True)/\(ll 10=false->On (w.heap.size+1) wx (a.tmps[39]?.getD undef)):=Dc A D 8;clear A H;have q:=d8.2 D.out.1;obtain⟨m9,i9,e9,c9,s9,l9,q9,P9,e0,fF,fA⟩:=q;unfold AQ at e0;obtain⟨⟨⟨va,vn,vc,rfl⟩,⟨wa,wn,wc,rfl⟩,⟨xa,xn,xc,rfl⟩,⟨ya,yn,yc,rfl⟩⟩,⟨ta,tn,tc,rfl⟩,⟨ua,un,uc,rfl⟩,⟨za,zn,zc,rfl⟩⟩:=fF.Ex;have S9:=(S4.draw hD hW).put fF fA;have B9:=(S4.draw hD hW).yV;obtain⟨c0,c1,c2,c3,c4,c5,c6,c7,c8⟩:=AD B9;have fq:=AK B9;refine yP ?_;go_simp;exact X.out undef _ ⟨_,_,_,_,_,_,_,P9,S9⟩
    .exact λ_ _ K h=>h.below K
    rotate_left
    .intro i hi v ww fp hg hz
     match i,hi with
     |6,_|7,_=>exact(by obtain⟨v9,O,R⟩:=hz;exact⟨v9,O,R.past (by omega) hg⟩)
     |8,_=>exact(hz.past (by omega) hg)
     |9,_|0,_|1,_|2,_|3,_|4,_|5,_|10,_=>exact hz
    .intro L wx ll hR hA
     clear hR;simp only[DQ,Bk,yN,yJ,yK,yI];simp
     try generalize L 0=z0
     try generalize L 1=z1
     try generalize L 2=z2
     try generalize L 3=z3
     try generalize L 4=z4
     try generalize L 5=z5
     try generalize L 6=z6
     try generalize L 7=z7
     try generalize L 8=z8
     try generalize L 9=z9
     try generalize L 10=z10
     go_wp2_with fail;go_roundw;exact⟨j+1,by omega,by go_num,hA.mono (by omega)⟩;simp[intOf];omega
  .go_wp2_with fail
   refine Je (s:=8) (U:=λix vv=>match ix with
    |2=>Pk 64 vv
    |3|4=>∃v x y,vv=.tuple #[v,.int .i64 x,.bool y]
    |_=>True) 9 66 1 1 [2] [.a #[.slice ma mn mc,.slice ia iN ic,.slice ea en ec,.slice ca cn cc,.slice sa sn sc,.slice la ln lc,.slice qa qn qc,.int .i64 Q.Il,.int .i64 Q.UQ],.p g 0,.z,.z,.z,.z,.z,.z,.u] (λix vv ww=>match ix with
    |3|4=>∃v,(∃x y,vv=.tuple #[v,.int .i64 x,.bool y])/\On (w.heap.size+1) ww v
    |5=>On (w.heap.size+1) ww vv
    |6|7=>True
    |_=>True) (λww=>Pf Y g (N1+1) w W1 b ww) S4.dr ?_ ?_ ?_ ?_ ?_ (hst:=?_)
   .intro i hi hS o E a wx H ll A D hr hb X
    match i,hi,hS with
    |0,_,_=>have hW:=hr (by kernel_rfl);have bx:=gc hW av (by omega) c0;have bk:=gc hW av (by omega) c1;have bw:=gc hW av (by omega) c2;have bN:=gc hW av (by omega) c3;have bn:=gc hW av (by omega) c4;have cP:=gc hW av (by omega) c5;have gb:=gc hW av (by omega) c6;have g0:=gc hW av (by omega) c7;have ii:=gc hW av (by omega) c8;exact LY E X H A D (hl:=Wl ‹_› ‹_› ‹_› ‹_› ‹_› ‹_› ‹_› ‹_› ‹_›)
    |1,_,_=>exact WP E X H A D
    |2,_,V|8,_,V=>cases V
    |3,_,_=>obtain rfl:=yQ E;have d0:(a.tmps[44]?.getD undef)=.agg #[.slice ma mn mc,.slice ia iN ic,.slice ea en ec,.slice ca cn cc,.slice sa sn sc,.slice la ln lc,.slice qa qn qc,.int .i64 Q.Il,.int .i64 Q.UQ]:=Dc A D 0;have d2:(Pk 64 (a.tmps[46]?.getD undef))/\(ll 8=false->True):=Dc A D 2;obtain⟨⟨x2,d2,p0,p1⟩,_⟩:=d2;have u8:=Bb D 8;clear A H;have hW:=hr (by kernel_rfl);have gN:=S4.sf.map (GU hW (by omega) (yG _));have ki:=hW.size;obtain⟨a2,rfl⟩:=xX p0;refine yP ?_;go_simp;refine(RD _ _ _ _ _ _ _ Q wx gN.rd S4.good (a:=a2) (by omega)).mono ?_;rintro e w_ ⟨m9,i9,e9,c9,s9,l9,q9,rfl,hO,eh⟩;exact X.out _ _ ⟨⟨_,_,_,rfl⟩,λ_=>⟨_,⟨_,_,rfl⟩,hO.sf.pgR (Zp S4.good (by omega)) (by omega)⟩⟩ eh
    |4,_,_=>obtain rfl:=yQ E;have d3:(∃v x y,(a.tmps[47]?.getD undef)=.tuple #[v,.int .i64 x,.bool y])/\(ll 8=false->∃v,(∃x y,(a.tmps[47]?.getD undef)=.tuple #[v,.int .i64 x,.bool y])/\On (w.heap.size+1) wx v):=Dc A D 3;have u8:=Bb D 8;clear A H;have q:=d3.2 (Bb D 8);obtain⟨v9,⟨x9,y9,e9⟩,q⟩:=q;refine yP ?_;go_simp;exact X.out _ _ ⟨⟨_,_,_,rfl⟩,λ_=>⟨_,⟨_,_,rfl⟩,q⟩⟩ (yO _ _)
    |5,_,_=>obtain rfl:=yQ E;have d4:(∃v x y,(a.tmps[43]?.getD undef)=.tuple #[v,.int .i64 x,.bool y])/\(ll 8=false->∃v,(∃x y,(a.tmps[43]?.getD undef)=.tuple #[v,.int .i64 x,.bool y])/\On (w.heap.size+1) wx v):=Dc A D 4;have u8:=Bb D 8;clear A H;have q:=d4.2 (Bb D 8);obtain⟨v9,⟨x9,y9,e9⟩,q⟩:=q;refine yP ?_;go_simp;exact X.out _ _ ⟨trivial,λ_=>q⟩ (yO _ _)
    |6,_,_=>obtain rfl:=yQ E;have d4:(∃v x y,(a.tmps[43]?.getD undef)=.tuple #[v,.int .i64 x,.bool y])/\(ll 8=false->∃v,(∃x y,(a.tmps[43]?.getD undef)=.tuple #[v,.int .i64 x,.bool y])/\On (w.heap.size+1) wx v):=Dc A D 4;clear A H;obtain⟨v9,x9,y9,e9⟩:=d4.1;refine yP ?_;go_simp;exact X.out _ _ ⟨trivial,λ_=>trivial⟩ (yO _ _)
    |7,_,_=>obtain rfl:=yQ E;have d4:(∃v x y,(a.tmps[43]?.getD undef)=.tuple #[v,.int .i64 x,.bool y])/\(ll 8=false->∃v,(∃x y,(a.tmps[43]?.getD undef)=.tuple #[v,.int .i64 x,.bool y])/\On (w.heap.size+1) wx v):=Dc A D 4;clear A H;obtain⟨v9,x9,y9,e9⟩:=d4.1;refine yP ?_;go_simp;exact X.out _ _ ⟨trivial,λ_=>trivial⟩ (yO _ _)
   .intro i hi hS o E a wx H ll A D Z hb X
    match i,hi,hS with
    |2,_,_=>exact fK (m:=64) E X H A D Z (by omega)
    |0,_,V|1,_,V|3,_,V|4,_,V|5,_,V|6,_,V|7,_,V|8,_,V=>cases V
   .intro o E a wx H ll A D hD hW hb X
    obtain rfl:=yQ E;have e3:a.tmps[3]?.getD undef=.pointer (some ⟨b,0,none⟩):=eg (PV H 3);have d5:(True)/\(ll 8=false->On (w.heap.size+1) wx (a.tmps[48]?.getD undef)):=Dc A D 5;clear A H;have q:=d5.2 D.out.1;obtain⟨m9,i9,e9,c9,s9,l9,q9,P9,e0,fF,fA⟩:=q;unfold AQ at e0;obtain⟨⟨⟨va,vn,vc,rfl⟩,⟨wa,wn,wc,rfl⟩,⟨xa,xn,xc,rfl⟩,⟨ya,yn,yc,rfl⟩⟩,⟨ta,tn,tc,rfl⟩,⟨ua,un,uc,rfl⟩,⟨za,zn,zc,rfl⟩⟩:=fF.Ex;have S9:=(S4.draw hD hW).put fF fA;have B9:=(S4.draw hD hW).yV;obtain⟨c0,c1,c2,c3,c4,c5,c6,c7,c8⟩:=AD B9;have fq:=AK B9;refine yP ?_;go_simp;exact X.out undef _ ⟨_,_,_,_,_,_,_,P9,S9⟩
   .exact λ_ _ K h=>h.below K
   rotate_left
   .intro i hi v ww fp hg hz
    match i,hi with
    |3,_|4,_=>exact(by obtain⟨v9,O,R⟩:=hz;exact⟨v9,O,R.past (by omega) hg⟩)
    |5,_=>exact(hz.past (by omega) hg)
    |6,_|7,_|0,_|1,_|2,_|8,_=>exact hz
   .intro L wx ll hR hA
    clear hR;simp only[DQ,Bk,yN,yJ,yK,yI];simp
    try generalize L 0=z0
    try generalize L 1=z1
    try generalize L 2=z2
    try generalize L 3=z3
    try generalize L 4=z4
    try generalize L 5=z5
    try generalize L 6=z6
    try generalize L 7=z7
    try generalize L 8=z8
    go_wp2_with fail;go_roundw;exact⟨j+1,by omega,by go_num,hA.mono (by omega)⟩;simp[intOf];omega
  .go_wp2_with fail
   refine(Nc _ _ _ _ Q.Vw.Xy S4.dr (by omega) (λw' hg=>(S4.sf.map (GU hg (by omega) (yG _))).rd.1.2.1) (vd S4.good.k.len)).mono ?_;rintro e w9 ⟨v,rfl,⟨x,rfl,hx⟩,h9,g9⟩;have S9:=S4.draw h9 g9;obtain⟨NC,bC⟩:=EH w9 (.cells #[.int .i64 x.k,.int .i64 x.e,.int .i64 x.a,.int .i64 x.b,.int .i64 x.c,.string x.nm] 34);clear S4 h9 g9 c0 c1 c2 c3 c4 c5 c6 c7 c8 av;simp only[AU.cs];go_upto_if 57 with fail;generalize w9.alloc _=wc at*;go_cut [] (λW=>∃y:AU,Vy y/\W.heap[w9.heap.size]?=some (.cells y.cs 34 (0,0))/\Below w9.heap.size w9 W)
   case first=>
    cases gr
    .go_wp2_with fail
     go_meet;exact⟨x,hx,NC,bC⟩
    .have fc:=AK NC
     obtain⟨d0,d1,d2,d3,d4,d5⟩:=Gz NC;have N2:=dO (x:=⟨1,1,0,0,0,⟨#[98]⟩⟩) NC;go_wp2_with fail;go_meet;exact⟨⟨1,1,0,0,0,⟨#[98]⟩⟩,⟨⟨by decide,by decide,by decide,by decide⟩,.inl rfl⟩,N2,AM (AM (AM (AM (AM (AM bC (Ak _ _ 0 _) (yG _) bC.size) (Ak _ _ 1 _) (yG _) (by simpa using bC.size)) (Ak _ _ 2 _) (yG _) (by simpa using bC.size)) (Ak _ _ 3 _) (yG _) (by simpa using bC.size)) (Ak _ _ 4 _) (yG _) (by simpa using bC.size)) (Ak _ _ 5 _) (yG _) (by simpa using bC.size)⟩
   case rest=>
   clear NC bC hx;obtain⟨y,⟨hy,im⟩,NY,bY⟩:=hcut;have ds:=S9.below bY;obtain⟨c0,c1,c2,c3,c4,c5,c6,c7,c8⟩:=AD ds.yV;obtain⟨d0,d1,d2,d3,d4,d5⟩:=Gz NY;have C:=NZ _ _ _ _ _ _ _ Q y _ ds.sf.rd ds.good ⟨hy.2.1,hy.2.2.1⟩ (by have:=hy.1;unfold maxLen;omega) (by have:=hy.2.2.2;omega);have hO:=(Qk ds.good im).1;unfold AQ at C;simp only[AU.cs] at C;go_wp2_with fail;refine C.mono ?_;rintro e pI ⟨m9,i9,e9,c9,s9,l9,q9,rfl,lp,mL⟩;obtain⟨⟨⟨va,vn,vc,rfl⟩,⟨wa,wn,wc,rfl⟩,⟨xa,xn,xc,rfl⟩,⟨ya,yn,yc,rfl⟩⟩,⟨ta,tn,tc,rfl⟩,⟨ua,un,uc,rfl⟩,⟨za,zn,zc,rfl⟩⟩:=lp.Ex;unfold AQ;have jz:=ds.below mL;have pi:=AA ((jz.put (lp.sf.map (λ_ _ _ _ _ _ _ x=>BZ x (by have:=ds.lt;have:=AW ds.yV;omega))) hO).mono (M:=N+3+33*(j+1)) (by omega));have fq:=AK jz.yV;clear c0 c1 c2 c3 c4 c5 c6 c7 c8 d0 d1 d2 d3 d4 d5 C;obtain⟨c0,c1,c2,c3,c4,c5,c6,c7,c8⟩:=AD jz.yV;clear jz ds S9 lp mL bY NY hO hy im;go_wp2_with fail;go_roundw;exact⟨j+1,by omega,by go_num,_,_,_,_,_,_,_,_,pi.out⟩;simp[intOf];omega
 .obtain⟨c0,c1,c2,c3,c4,c5,c6,c7,c8⟩:=AD J.yV
  have mb:=AW R6;have R9:=(J.kp w.heap.size mb (by omega) (by have:=J.lt;omega)).trans R6;obtain⟨d0,d1,d2,d3,d4,d5,d6,d7,d8⟩:=AD R9;have gp:=AK R9;obtain⟨BX,FX⟩:=cX (ok:=Ec) (M:=N+900) J.dr J.gr (J.sf.map (λ_ _ _ _ _ _ _ x=>BZ x (wH _))) J.good ac bX R9 (by omega);unfold Fd at BX FX;have BH:=AA BX;have FH:=AA FX;clear BX FX J R9 R6;go_wp2_with fail;exact yC (v:=.agg #[_,_,_,_,_,_,_,_,_]) (by simp[results,Tryz.results39,go_sem,AD BH.out]) rfl FH.out
theorem ZH{ss:List ByteArray}{s:ByteArray}:BS (Hz ss s).1=true:=by
 unfold Hz
 by_cases h:(BS ss&&BO s)=true
 .rw[if_pos h]
  obtain⟨O,R⟩:=wj.1 h;exact ZK O R
 .rw[if_neg h]
  decide+kernel
def cG(w:World)(r:Ending)(w':World):Prop:=∃v' b,r=.returned (.tuple #[v',.bool b])/\(∃c',AO w.heap.size 96 4 AX w' v' c'/\c'.length<=4)/\Below w.heap.size w w'
theorem SL(v:Value)(c:List Ad)(x:Ad)(w:World)(h:DY w v c):
 Calls prog 142 #[v,.agg #[.int .i64 x.e,.int .i64 x.p,.int .i64 x.f,.bool x.w]] w (cG w):=by
 obtain⟨N0,b0⟩:=EH w (.cells #[.int .i64 x.e,.int .i64 x.p,.int .i64 x.f,.bool x.w] 96);have h0:=BG.below h b0;go_in;go_wp2_with fail;generalize w.alloc _=W0 at*;have ad:=AA b0;have HN:=AA N0;obtain⟨y0,y1,y2,y3⟩:=AE N0;clear N0 b0;refine(JO v c W0 h0).mono ?_;rintro r w1 ⟨rfl,b1⟩;cases hc:Bd c
 .go_wp2_with fail
  go_ret2;exact⟨_,_,rfl,⟨[],AO.lower (Cd AX _ _ _) (yL ad.out.size b1.size),yu _⟩,(ad.out.trans (b1.mono ad.out.size)).alloc (yL ad.out.size b1.size) _⟩
 .have hl:=(Ek.1 hc).2.2
  obtain⟨y0,y1,y2,y3⟩:=AE (AB HN.out b1);go_wp2_with fail;refine(Na x _).mono ?_;rintro r w2 ⟨rfl,b2⟩;have cF:=b1.trans (b2.mono b1.size);cases hx:Bu x
  .go_wp2_with fail
   go_ret2;exact⟨_,_,rfl,⟨[],AO.lower (Cd AX _ _ _) (yL ad.out.size cF.size),yu _⟩,(ad.out.trans (cF.mono ad.out.size)).alloc (yL ad.out.size cF.size) _⟩
  .obtain⟨y0,y1,y2,y3⟩:=AE (AB HN.out cF)
   have hp:=(Ek.1 (Xn hc hx)).2.2;go_wp2_with fail;refine(Ss v c x _ (BG.below h0 cF) hl).mono ?_;rintro r w3 ⟨v',rfl,O3,b3⟩;have HO:=AA (yk O3 hp);have HB:=AA ((ad.out.trans ((cF.trans (b3.mono cF.size)).mono ad.out.size)));have D:=AA (yL ad.out.size cF.size);obtain⟨a9,c9,e9,_,_⟩:=O3.rd.shape;generalize List.length _=n9 at e9;subst e9;clear O3 hp b3 b1 b2 cF hl;go_wp2_with fail;go_ret2;exact⟨_,_,rfl,⟨_,HO.out.1.lower D.out,HO.out.2⟩,HB.out⟩
theorem OX{w w1 w2:World}{g:Nat}{row:Option Nat}(h:w.grownBy w1 (some g))(R:w1.grownBy w2 row)(hq:∀k,row=some k->w.heap.size<=k):w.grownBy w2 (some g):=
 ⟨R.os.trans h.os,R.tape.trans h.tape,R.output.trans h.output,yL h.size R.size,λk hk ep=>(R.block k (yv hk h.size) (λe=>by have:=hq k e.symm;omega)).trans (h.block k hk ep)⟩
theorem Qp(w:World)(e:TypeId)(sz n:Nat)(xs:List Value)(hl:xs.length=n*sz)(hm:n<=maxLen):(w.alloc (.cells xs.toArray e)).ownsRow w.heap.size e sz (.slice (some ⟨w.heap.size,0,none⟩) n n) n xs:=
 ⟨hl,.inr ⟨_,_,_,rfl,yG _,yw _ _,yG _,hm,by simpa using hl,by rw[<-hl];simp⟩⟩
theorem XM{ss:List ByteArray}{s:ByteArray}(h:DH ss)(V:s.size<=maxLen):DH (ss++[s]):=by
 intro x hx
 rcases wM.1 hx with O|O
 .exact h x O
 .simp at O;subst O;exact V
theorem Ry{Y w:World}{g N:Nat}(h:Dr Y g N w)(hN:N<=700000):
 Calls prog 90 #[.pointer (some ⟨g,0,none⟩)] w (J4 Y g (N+60) w λv w'=>∃ss,AO w.heap.size 9 1 Ay w' v ss/\DH ss):=by
 have ac:=h.lt;have bX:Y.heap.size<=w.heap.size:=h.2.1.size;go_in;go_wp2_with fail;have o1:=Cd Ay w 9 1;have O:=h.alloc (.cells #[] 9);have g1:w.grownBy (w.alloc (.cells #[] 9)) (some g):=Aa (AJ _ _) _;generalize w.alloc (.cells #[] 9)=wa at o1 O g1;generalize(xB (some ⟨w.heap.size,0,none⟩) 0 0)=o at o1 ⊢;refine(O.pick _).mono ?_;rintro e w2 ⟨n,rfl,n0,n1,R,g2⟩;replace n1:=n1 (by decide);obtain⟨n,rfl⟩:=xX n0;have hp:∀b',some g=some b'->b'<w.heap.size:=λb' e=>by cases e;exact ac
 have o2:AO w.heap.size 9 1 Ay w2 o []:=Br o1 g2 hp;have g3:=AP g1 g2;clear o1 O g1 g2 h;have Hp:=AA hp;clear hp;go_wp2_with fail;go_loopw [3,5] (λo i wr=>∃k:Nat,∃ss,k<=n/\i=.int .i64 k/\BS ss=true/\AO w.heap.size 9 1 Ay wr o ss/\Dr Y g (N+1+3*k) wr/\w.grownBy wr (some g)) (λ_ i _=>n - (intOf i).toNat)
 exact⟨0,[],yu _,rfl,by decide+kernel,o2,R,g3⟩
 clear o2 R g3;obtain⟨k,ss,hk,rfl,cT,hO,hD,Z⟩:=hrel;have gx:=AA cT;have HO:=AA hO;obtain⟨oa,oc,rfl,_,_⟩:=hO.rd.shape;have iC:=(Eh.1 gx.out).2.2;clear cT hO
 by_cases kv:k<n
 .go_wp2_with fail
  refine(Ja hD (by omega)).mono ?_;rintro e w3 ⟨_,rfl,⟨s,oo,rfl⟩,h3,g3⟩;have O3:AO w.heap.size 9 1 Ay w3 _ ss:=Br HO.out g3 Hp.out;have hz:w.heap.size<=w3.heap.size:=yL Z.size g3.size;go_wp2_with fail;refine(Lz _ ss s w3 O3.rd (Ej gx.out) (by unfold maxLen;omega)).mono ?_;rintro e w4 ⟨v4,rfl,O4,b4⟩;cases K:(Hz ss s).2
  .have HR:=AA (yk (O3.below b4) (yk (h3.below b4) (AP (AP Z g3) (Aa b4 _))))
   clear iC O3 O4 h3 g3 b4 hD Z;go_wp2_with fail;go_roundw;exact⟨k+1,ss,by omega,by go_num,gx.out,HR.out.1,HR.out.2.1.mono (by omega),HR.out.2.2⟩;simp[intOf];omega
  .have HR:=AA (yk (O4.lower hz) (yk (h3.below b4) (AP (AP Z g3) (Aa b4 _))))
   clear iC O3 O4 h3 g3 b4 hD Z;go_wp2_with fail;go_roundw;exact⟨k+1,(Hz ss s).1,by omega,by go_num,ZH,HR.out.1,HR.out.2.1.mono (by omega),HR.out.2.2⟩;simp[intOf];omega
 .have oB:k<=7:=by omega
  go_wp2_with fail;refine(hD.pick _).mono ?_;rintro e w3 ⟨u,rfl,_,_,h3,g3⟩;have O3:AO w.heap.size 9 1 Ay w3 _ ss:=Br HO.out g3 Hp.out;have G3:=AP Z g3;clear hD Z HO g3
  by_cases u0:u=0
  .subst u0
   go_wp2_with fail;refine(Ja h3 (by omega)).mono ?_;rintro e w4 ⟨_,rfl,⟨s,oo,rfl⟩,h4,g4⟩;have O4:AO w.heap.size 9 1 Ay w4 _ ss:=Br O3 g4 Hp.out;have G4:=AP G3 g4;have hz:w.heap.size<=w4.heap.size:=G4.size;have jg:=AA O4;have HH:=AA (yk h4 G4);clear O3 h3 G3 g4 O4 h4 G4;go_wp2_with (at_builtin;go_must (refine Bm (lo:=w.heap.size) (n:=ss.length) (xs:=CZ Ay ss) (m:=1) (news:=[.string s]) rfl rfl 9 (.string ⟨#[]⟩) 1 16 underlying64 Tryz.zU rfl (by decide) rfl (Bl jg.out (AJ _ _)) rfl (Rd.zN _ #[_] _ 1 1 _ (by simp) rfl (by simp[maxLen])) (by simp[xR]) (by unfold maxLen;omega) (by omega) (by simp;omega) ?_;intro o' w9 k1 k2 k3 k4));have o9:AO w.heap.size 9 1 Ay w9 o' (ss++[s]):=by unfold AO;rw[Bj,Ee,yA];exact k1
   have b9:∀k,(xB oa ss.length oc).ownBlock=some k->w.heap.size<=k:=λk e=>(yB jg.out k e).1
   have D9:=(HH.out.1.alloc (.cells #[.string s] 9)).keep k2 (λe=>by have:=b9 g e;have:=Hp.out g rfl;omega) (λk e=>yL bX (b9 k e));have G9:=OX (H7 HH.out.2 (.cells #[.string s] 9)) k2 b9;have HF:=AA (yk o9 (yk (D9.mono (M:=N+60) (by omega)) G9));clear o9 D9 G9 k1 k2 k3 k4;go_wp2_with fail;go_ret;exact⟨_,rfl,⟨_,HF.out.1,XM (Ej gx.out) (by unfold maxLen;omega)⟩,HF.out.2.1,HF.out.2.2⟩
  have t0:(u==0)=false:=by simp[u0]
  clear u0;go_wp2_with fail;refine(h3.pick _).mono ?_;rintro e w4 ⟨u',rfl,_,_,h4,g4⟩;have O4:AO w.heap.size 9 1 Ay w4 _ ss:=Br O3 g4 Hp.out;have HF:=AA (yk O4 (yk (h4.mono (M:=N+60) (by omega)) (AP G3 g4)));clear O3 h3 G3 g4 O4 h4 t0
  by_cases u0:u'=0
  .subst u0
   go_wp2_with fail;go_ret;refine⟨_,rfl,⟨[⟨#[97]⟩,⟨#[97,97]⟩,⟨#[97,98]⟩,⟨#[98]⟩,⟨#[98,97]⟩,⟨#[99]⟩],AO.lower (Qp w4 9 1 6 (CZ Ay [⟨#[97]⟩,⟨#[97,97]⟩,⟨#[97,98]⟩,⟨#[98]⟩,⟨#[98,97]⟩,⟨#[99]⟩]) rfl (by simp[maxLen])) HF.out.2.2.size,?_⟩,HF.out.2.1.alloc _,H7 HF.out.2.2 _⟩;intro x hx;simp only[xH,wX,or_false] at hx
   rcases hx with rfl|rfl|rfl|rfl|rfl|rfl<;>decide
  have t0:(u'==0)=false:=by simp[u0]
  clear u0;go_wp2_with fail;go_ret;exact⟨_,rfl,⟨_,HF.out.1,Ej gx.out⟩,HF.out.2.1,HF.out.2.2⟩
theorem UI{Y w:World}{g N:Nat}(h:Dr Y g N w)(hN:N<=700000):
 Calls prog 91 #[.pointer (some ⟨g,0,none⟩)] w (J4 Y g (N+80) w λv w'=>∃ss,AO w.heap.size 96 4 AX w' v ss):=by
 have ac:=h.lt;have bX:Y.heap.size<=w.heap.size:=h.2.1.size;go_in;go_wp2_with fail;have o1:=Cd AX w 96 4;have O:=h.alloc (.cells #[] 96);have g1:w.grownBy (w.alloc (.cells #[] 96)) (some g):=Aa (AJ _ _) _;generalize w.alloc (.cells #[] 96)=wa at o1 O g1;generalize(xB (some ⟨w.heap.size,0,none⟩) 0 0)=o at o1 ⊢;refine(O.pick _).mono ?_;rintro e w2 ⟨n,rfl,n0,n1,R,g2⟩;replace n1:=n1 (by decide);obtain⟨n,rfl⟩:=xX n0;have hp:∀b',some g=some b'->b'<w.heap.size:=λb' e=>by cases e;exact ac
 have o2:AO w.heap.size 96 4 AX w2 o []:=Br o1 g2 hp;have g3:=AP g1 g2;clear o1 O g1 g2 h;have Hp:=AA hp;clear hp;go_wp2_with fail;go_loopw [3,5] (λo i wr=>∃k:Nat,∃ss,k<=n/\i=.int .i64 k/\ss.length<=4/\AO w.heap.size 96 4 AX wr o ss/\Dr Y g (N+1+8*k) wr/\w.grownBy wr (some g)) (λ_ i _=>n - (intOf i).toNat)
 exact⟨0,[],yu _,rfl,yu _,o2,R,g3⟩
 clear o2 R g3;obtain⟨k,ss,hk,rfl,cT,hO,hD,Z⟩:=hrel;have gx:=AA cT;have HO:=AA hO;obtain⟨oa,oc,rfl,_,_⟩:=hO.rd.shape;have iC:ss.length<=6:=by have:=gx.out;omega
 clear cT hO
 by_cases kv:k<n
 .go_wp2_with fail
  refine(Mg hD (by omega)).mono ?_;rintro e w3 ⟨_,rfl,⟨s,rfl⟩,h3,g3⟩;have O3:AO w.heap.size 96 4 AX w3 _ ss:=Br HO.out g3 Hp.out;have hz:w.heap.size<=w3.heap.size:=yL Z.size g3.size;go_wp2_with fail;refine(SL _ ss s w3 O3.rd).mono ?_;rintro e w4 ⟨v4,bb,rfl,⟨np,O4,oA⟩,b4⟩;cases bb
  .have HR:=AA (yk (O3.below b4) (yk (h3.below b4) (AP (AP Z g3) (Aa b4 _))))
   clear iC O3 O4 h3 g3 b4 hD Z;go_wp2_with fail;go_roundw;exact⟨k+1,ss,by omega,by go_num,gx.out,HR.out.1,HR.out.2.1.mono (by omega),HR.out.2.2⟩;simp[intOf];omega
  .have HR:=AA (yk (O4.lower hz) (yk (h3.below b4) (AP (AP Z g3) (Aa b4 _))))
   clear iC O3 O4 h3 g3 b4 hD Z;go_wp2_with fail;go_roundw;exact⟨k+1,np,by omega,by go_num,oA,HR.out.1,HR.out.2.1.mono (by omega),HR.out.2.2⟩;simp[intOf];omega
 .have oB:k<=7:=by omega
  go_wp2_with fail;refine(hD.pick _).mono ?_;rintro e w3 ⟨u,rfl,_,_,h3,g3⟩;have O3:AO w.heap.size 96 4 AX w3 _ ss:=Br HO.out g3 Hp.out;have G3:=AP Z g3;clear hD Z HO g3;have HF:=AA (yk O3 (yk (h3.mono (M:=N+80) (by omega)) G3))
  by_cases u0:u=0
  .subst u0
   go_wp2_with fail;refine(Mg h3 (by omega)).mono ?_;rintro e w4 ⟨_,rfl,⟨s,rfl⟩,h4,g4⟩;have O4:AO w.heap.size 96 4 AX w4 _ ss:=Br O3 g4 Hp.out;have G4:=AP G3 g4;have hz:w.heap.size<=w4.heap.size:=G4.size;have jg:=AA O4;have HH:=AA (yk h4 G4);clear O3 h3 G3 g4 O4 h4 G4;go_wp2_with (at_builtin;go_must (refine Bm (lo:=w.heap.size) (n:=ss.length) (xs:=CZ AX ss) (m:=1) (news:=[.int .i64 s.e,.int .i64 s.p,.int .i64 s.f,.bool s.w]) rfl rfl 96 (.agg #[.int .i64 0,.int .i64 0,.int .i64 0,.bool false]) 4 32 underlying26 Tryz.zQ rfl (by decide) rfl (Bl jg.out (AJ _ _)) rfl (Rd.zN _ #[.int .i64 s.e,.int .i64 s.p,.int .i64 s.f,.bool s.w] _ 4 1 _ (by simp) rfl (by simp[maxLen])) (by simp[xR]) (by unfold maxLen;omega) (by omega) (by simp;omega) ?_;intro o' w9 k1 k2 k3 k4));have o9:AO w.heap.size 96 4 AX w9 o' (ss++[s]):=by unfold AO;rw[Bj,Ee,yA];exact k1
   have b9:∀k,(xB oa ss.length oc).ownBlock=some k->w.heap.size<=k:=λk e=>(yB jg.out k e).1
   have D9:=(HH.out.1.alloc (.cells #[.int .i64 s.e,.int .i64 s.p,.int .i64 s.f,.bool s.w] 96)).keep k2 (λe=>by have:=b9 g e;have:=Hp.out g rfl;omega) (λk e=>yL bX (b9 k e));have G9:=OX (H7 HH.out.2 (.cells #[.int .i64 s.e,.int .i64 s.p,.int .i64 s.f,.bool s.w] 96)) k2 b9;have HF:=AA (yk o9 (yk (D9.mono (M:=N+80) (by omega)) G9));clear o9 D9 G9 k1 k2 k3 k4;go_wp2_with fail;go_ret;exact⟨_,rfl,⟨_,HF.out.1⟩,HF.out.2.1,HF.out.2.2⟩
  have t0:(u==0)=false:=by simp[u0]
  clear u0
  by_cases u0:u=1
  .subst u0
   clear O3 h3 G3;go_wp2_with (at_builtin;go_must (refine Bm (lo:=w.heap.size) (n:=ss.length) (xs:=CZ AX ss) (m:=ss.length) (news:=CZ AX ss) rfl rfl 96 (.agg #[.int .i64 0,.int .i64 0,.int .i64 0,.bool false]) 4 32 underlying26 Tryz.zQ rfl (by decide) rfl HF.out.1 rfl (HF.out.1.rd) (J9 ss) (by unfold maxLen;omega) (by omega) (HF.out.2.2.size) ?_;intro o' w9 k1 k2 k3 k4));have o9:AO w.heap.size 96 4 AX w9 o' (ss++ss):=by unfold AO;rw[Bj,yA];exact k1
   have b9:∀k,(xB oa ss.length oc).ownBlock=some k->w.heap.size<=k:=λk e=>(yB HF.out.1 k e).1
   have D9:=HF.out.2.1.keep k2 (λe=>by have:=b9 g e;have:=Hp.out g rfl;omega) (λk e=>yL bX (b9 k e));have G9:=OX HF.out.2.2 k2 b9;have HH:=AA (yk o9 (yk D9 G9));clear o9 D9 G9 k1 k2 k3 k4;go_wp2_with fail;go_ret;exact⟨_,rfl,⟨_,HH.out.1⟩,HH.out.2.1,HH.out.2.2⟩
  have t1:(u==1)=false:=by simp[u0]
  clear u0 O3 h3 G3;go_wp2_with fail;go_ret;exact⟨_,rfl,⟨_,HF.out.1⟩,HF.out.2.1,HF.out.2.2⟩
def VT:List ByteArray:=[⟨#[98]⟩,⟨#[97]⟩,⟨#[97,98]⟩,⟨#[]⟩]
theorem cU{s:ByteArray}(V:s∈VT):DP (Ng [[gA],[s],[gC]]):=by
 simp only[VT,xH,wX,or_false] at V
 rcases V with rfl|rfl|rfl|rfl<;>exact EZ.1 (by kernel_rfl)
theorem Wo{s:ByteArray}(V:s∈VT):∀ts∈[[gA],[s],[gC]],BS ts=true:=by
 intro ts h;simp only[VT,xH,wX,or_false] at V h
 rcases h with rfl|rfl|rfl
 .decide+kernel
 .rcases V with rfl|rfl|rfl|rfl<;>decide+kernel
 .decide+kernel
theorem Yc{s:ByteArray}(V:s∈VT):∀ts∈[[gA],[s],[gC]],DH ts:=by
 intro ts h;simp only[VT,xH,wX,or_false] at V h
 rcases h with rfl|rfl|rfl<;>intro x hx<;>rw[List.mem_singleton] at hx<;>subst hx
 .decide
 .rcases V with rfl|rfl|rfl|rfl<;>decide
 .decide
theorem Yn{w:World}{va vb vc:Value}{a b c:List ByteArray}(u:TypeId)(ha:BT w va a)(K:BT w vb b)(hc:BT w vc c)(sa:∃x n k,va=.slice x n k)(sb:∃x n k,vb=.slice x n k)(sc:∃x n k,vc=.slice x n k):
 MI (w.alloc (.cells #[va,vb,vc] u)) (.slice (some ⟨w.heap.size,0,none⟩) 3 3) [a,b,c]:=by
 obtain⟨_,_,_,rfl⟩:=sa;obtain⟨_,_,_,rfl⟩:=sb;obtain⟨_,_,_,rfl⟩:=sc;refine⟨[_,_,_],Rd.zN _ #[_,_,_] u 1 3 _ (by simp) rfl (by simp[maxLen]),rfl,?_⟩;intro i x y hx hy
 match i,hx,hy with
 |0,hx,hy=>simp at hx hy;subst hx hy;exact ha.below (AJ _ _)
 |1,hx,hy=>simp at hx hy;subst hx hy;exact K.below (AJ _ _)
 |2,hx,hy=>simp at hx hy;subst hx hy;exact hc.below (AJ _ _)
theorem Rz{Y w:World}{g N:Nat}(h:Dr Y g N w)(hN:N<=400000):
 Calls prog 87 #[.pointer (some ⟨g,0,none⟩)] w (dW DP Y g (N+3000) w):=by
 have ac:=h.lt;have bX:Y.heap.size<=w.heap.size:=h.2.1.size;go_in;go_wp2_with fail;obtain⟨B0,BA,b0,bp⟩:=Ki w (.cells #[.slice none 0 0,.slice none 0 0,.slice none 0 0,.slice none 0 0] 28) (.cells #[.string ⟨#[97]⟩] 9);go_wp2_with fail;generalize(w.alloc _).alloc _=wa at*;rw[<-bp];have h0:=h.below b0;refine(Ob wa.heap.size 4 VT (h0.alloc _) (by omega) rfl (by decide) (by decide) (by have:=h0.lt;omega) (by simp) (λk hk=>Kc wa VT _ hk)).mono ?_;rintro e w1 ⟨v,rfl,⟨s,V,rfl⟩,O,g1⟩;have g2:=AP (Aa (AJ wa (.cells #[.string ⟨#[98]⟩,.string ⟨#[97]⟩,.string ⟨#[97,98]⟩,.string ⟨#[]⟩] 9)) (some g)) g1;have ni:=(g2.block _ (AW BA) (by simp;omega)).trans BA;have B1:=(g2.block _ (AW B0) (by simp;omega)).trans B0;have G1:=AP (Aa b0 (some g)) g2;clear h0 g1 g2 BA B0 b0 h;obtain⟨NS,NC,b1,ir⟩:=Ki w1 (.cells #[.string s] 9) (.cells #[.string ⟨#[99]⟩] 9);have kj:=Yn 64 (show BT _ _ [⟨#[97]⟩] from No (AB ni b1)) (show BT _ _ [s] from No NS) (show BT _ _ [⟨#[99]⟩] from No NC) ⟨_,_,_,rfl⟩ ⟨_,_,_,rfl⟩ ⟨_,_,_,rfl⟩;rw[ir] at kj;go_wp2_with fail;refine(Ld _ [[⟨#[97]⟩],[s],[⟨#[99]⟩]] _ kj rfl (Wo V) (Yc V)).mono ?_;rintro e w2 ⟨m,i,ev,c,rfl,O2,b2⟩;have fE:=b1.trans (((AJ _ _).trans (b2.mono (AJ _ _).size)).mono b1.size);obtain⟨⟨ma,mn,mc,rfl⟩,⟨ia,iN,ic,rfl⟩,⟨ea,en,ec,rfl⟩,⟨ca,cn,cc,rfl⟩⟩:=O2.Ex;have bK:=AJ w2 (.cells #[.slice ma mn mc,.slice ia iN ic,.slice ea en ec,.slice ca cn cc] 28);have fe:w.heap.size<w2.heap.size:=by have:=AW B1;have:=fE.size;omega
 have J:JV DP Y g (N+1) w w2.heap.size (w2.alloc (.cells #[.slice ma mn mc,.slice ia iN ic,.slice ea en ec,.slice ca cn cc] 28)):=⟨_,_,_,_,Ng [[⟨#[97]⟩],[s],[⟨#[99]⟩]],(O.below fE).below bK,AP (AP G1 (Aa fE _)) (Aa bK _),yw _ _,(O2.sf.map (Kj bK (by have:=b1.size;have:=(AJ ((w1.alloc (.cells #[.string s] 9)).alloc (.cells #[.string ⟨#[99]⟩] 9)) (.cells #[.slice (some ⟨w.heap.size+1,0,none⟩) 1 1,.slice (some ⟨w1.heap.size,0,none⟩) 1 1,.slice (some ⟨w1.heap.size+1,0,none⟩) 1 1] 64)).size;have:=AW B1;omega))),cU V,_,_,_,_,AB (AB B1 fE) bK⟩;clear O2 b2 fE kj NS NC b1 ir O G1 ni B1 bK bp V;go_wp2_with fail;generalize w2.alloc _=w3 at*;generalize w2.heap.size=b at*;refine(J.pk ac fe 5 (by omega) (by decide) (by decide)).mono ?_;rintro e w4 ⟨x,rfl,x0,z,S4⟩;clear J;go_upto_if 24 with fail;go_cut [] (λwx=>JV DP Y g (N+20) w b wx)
 case first=>
  by_cases hx:0<x
  .go_wp2_with fail
   refine(S4.pk ac fe 3 (by omega) (by decide) (by decide)).mono ?_;rintro e w5 ⟨y,rfl,y0,y1,S5⟩;clear S4;go_wp2_with fail;refine(Nr (1+y) w5 (by omega) (by omega)).mono ?_;rintro e w6 ⟨m1,i1,e1,c1,s1,l1,q1,rfl,O6,b6⟩;obtain⟨⟨⟨ma,mn,mc,rfl⟩,⟨ia,iN,ic,rfl⟩,⟨ea,en,ec,rfl⟩,⟨ca,cn,cc,rfl⟩⟩,⟨sa,sn,sc,rfl⟩,⟨la,ln,lc,rfl⟩,⟨qa,qn,qc,rfl⟩⟩:=O6.Ex;have fG:Ec (VW (1+y)):=Xj (by omega) (by omega);clear y0 y1;generalize VW (1+y)=P1 at*;unfold AQ;have bB:=AJ w6 (.cells #[.slice ma mn mc,.slice ia iN ic,.slice ea en ec,.slice ca cn cc,.slice sa sn sc,.slice la ln lc,.slice qa qn qc,.int .i64 P1.Il,.int .i64 P1.UQ] 32);have f4:=b6.trans (bB.mono b6.size);have SK:=S5.below ac fe f4;obtain⟨_,_,_,_,_,h5,g5,B5,_,_,_⟩:=S5;have oQ:=AW B5;have J:LV Y g (N+3) w (w6.alloc (.cells #[.slice ma mn mc,.slice ia iN ic,.slice ea en ec,.slice ca cn cc,.slice sa sn sc,.slice la ln lc,.slice qa qn qc,.int .i64 P1.Il,.int .i64 P1.UQ] 32)) w6.heap.size _ _ _ _ _ _ _ P1 (w6.alloc (.cells #[.slice ma mn mc,.slice ia iN ic,.slice ea en ec,.slice ca cn cc,.slice sa sn sc,.slice la ln lc,.slice qa qn qc,.int .i64 P1.Il,.int .i64 P1.UQ] 32)):=
    ⟨(h5.below f4).mono (by omega),AP g5 (Aa f4 _),yw _ _,O6.map (Kj bB (by omega)),fG,ac,bX,by have:=b6.size;omega,yG _,λ_ _ _ _=>rfl⟩
   have qI:b<w6.heap.size:=by have:=b6.size;omega
   clear O6 b6 bB f4 h5 g5 B5 fG oQ;go_wp2_with fail;generalize w6.alloc _=W1 at*;generalize w6.heap.size=b5 at*;refine(J.pk 4).mono ?_;rintro e w7 ⟨n,rfl,n0,n1,S7⟩;clear J;obtain⟨n,rfl⟩:=xX n0;have qC:n<4:=by omega
   clear n0 n1;go_wp2_with fail;go_loopw [8] (λi wr=>∃j:Nat,j<=n/\i=.int .i64 j/\Pf Y g (N+4+2*j) w W1 b5 wr) (λi _=>n - (intOf i).toNat)
   exact⟨0,yu _,rfl,_,_,_,_,_,_,_,P1,S7⟩
   clear S7;obtain⟨j,hj,rfl,m1,i1,e1,c1,s1,l1,q1,Q,J⟩:=hrel;have ku:=AW J.yV;obtain⟨⟨⟨ma,mn,mc,rfl⟩,⟨ia,iN,ic,rfl⟩,⟨ea,en,ec,rfl⟩,⟨ca,cn,cc,rfl⟩⟩,⟨sa,sn,sc,rfl⟩,⟨la,ln,lc,rfl⟩,⟨qa,qn,qc,rfl⟩⟩:=J.sf.Ex
   by_cases gj:j<n
   .go_wp2_with fail
    obtain⟨N1,hN1⟩:∃M,M=N+4+2*j:=⟨_,rfl⟩
    rw[<-hN1] at J;obtain⟨c0,c1,c2,c3,c4,c5,c6,c7,c8⟩:=AD J.yV;have av:=AW J.yV;refine Je (s:=10) (U:=λix vv=>match ix with
     |2=>Pk 64 vv
     |4=>Pk 99 vv
     |5=>∃x:Int,vv=.int .i64 x/\1<=x/\x<=99
     |6|7=>∃v,∃x:Bool,vv=.tuple #[v,.bool x]
     |_=>True) 11 68 1 2 [2,4] [.a #[.slice ma mn mc,.slice ia iN ic,.slice ea en ec,.slice ca cn cc,.slice sa sn sc,.slice la ln lc,.slice qa qn qc,.int .i64 Q.Il,.int .i64 Q.UQ],.p g 0,.z,.p g 0,.z,.z,.z,.z,.z,.z,.u] (λix vv ww=>match ix with
     |6|7=>∃v,(∃x:Bool,vv=.tuple #[v,.bool x])/\On (w.heap.size+1) ww v
     |8=>On (w.heap.size+1) ww vv
     |9=>True
     |_=>True) (λww=>Pf Y g (N1+2) w W1 b5 ww) J.dr ?_ ?_ ?_ ?_ ?_ (hst:=?_)
    .intro i hi hS o E a wx H ll A D hr hb X
     match i,hi,hS with
     |0,_,_=>have hW:=hr (by kernel_rfl);have bx:=gc hW av (by omega) c0;have bk:=gc hW av (by omega) c1;have bw:=gc hW av (by omega) c2;have bN:=gc hW av (by omega) c3;have bn:=gc hW av (by omega) c4;have cP:=gc hW av (by omega) c5;have gb:=gc hW av (by omega) c6;have g0:=gc hW av (by omega) c7;have ii:=gc hW av (by omega) c8;exact LY E X H A D (hl:=Wl ‹_› ‹_› ‹_› ‹_› ‹_› ‹_› ‹_› ‹_› ‹_›)
     |1,_,_|3,_,_=>exact WP E X H A D
     |2,_,V|4,_,V|10,_,V=>cases V
     |5,_,_=>obtain rfl:=yQ E;have d4:(Pk 99 (a.tmps[44]?.getD undef))/\(ll 10=false->True):=Dc A D 4;obtain⟨⟨x4,d4,p2,p3⟩,_⟩:=d4;have gz:=Bb D 10;clear A H;refine yP ?_;go_simp;exact X.out _ _ ⟨⟨_,by rw[xM _ (by omega)],by omega,by omega⟩,λ_=>trivial⟩ (yO _ _)
     |6,_,_=>obtain rfl:=yQ E;have d0:(a.tmps[40]?.getD undef)=.agg #[.slice ma mn mc,.slice ia iN ic,.slice ea en ec,.slice ca cn cc,.slice sa sn sc,.slice la ln lc,.slice qa qn qc,.int .i64 Q.Il,.int .i64 Q.UQ]:=Dc A D 0;have d2:(Pk 64 (a.tmps[42]?.getD undef))/\(ll 10=false->True):=Dc A D 2;obtain⟨⟨x2,d2,p0,p1⟩,_⟩:=d2;have d5:(∃x:Int,(a.tmps[45]?.getD undef)=.int .i64 x/\1<=x/\x<=99)/\(ll 10=false->True):=Dc A D 5;obtain⟨⟨x5,d5,r0,r1⟩,_⟩:=d5;have gz:=Bb D 10;clear A H;have hW:=hr (by kernel_rfl);have gN:=J.sf.map (GU hW (by omega) (yG _));have ki:=hW.size;obtain⟨a2,rfl⟩:=xX p0;refine yP ?_;go_simp;refine(LQ _ _ _ _ _ _ _ Q wx gN.rd J.good (a:=a2) (by omega) (x:=x5) (AZ.2 (by omega))).mono ?_;rintro e w_ ⟨m9,i9,e9,c9,s9,l9,q9,rfl,hO,eh⟩;exact X.out _ _ ⟨⟨_,_,rfl⟩,λ_=>⟨_,⟨_,rfl⟩,hO.sf.pgR (TT J.good (by omega) (AZ.2 (by omega))) (by omega)⟩⟩ eh
     |7,_,_=>obtain rfl:=yQ E;have d6:(∃v,∃x:Bool,(a.tmps[46]?.getD undef)=.tuple #[v,.bool x])/\(ll 10=false->∃v,(∃x:Bool,(a.tmps[46]?.getD undef)=.tuple #[v,.bool x])/\On (w.heap.size+1) wx v):=Dc A D 6;have gz:=Bb D 10;clear A H;have q:=d6.2 (Bb D 10);obtain⟨v9,⟨x9,e9⟩,q⟩:=q;refine yP ?_;go_simp;exact X.out _ _ ⟨⟨_,_,rfl⟩,λ_=>⟨_,⟨_,rfl⟩,q⟩⟩ (yO _ _)
     |8,_,_=>obtain rfl:=yQ E;have d7:(∃v,∃x:Bool,(a.tmps[39]?.getD undef)=.tuple #[v,.bool x])/\(ll 10=false->∃v,(∃x:Bool,(a.tmps[39]?.getD undef)=.tuple #[v,.bool x])/\On (w.heap.size+1) wx v):=Dc A D 7;have gz:=Bb D 10;clear A H;have q:=d7.2 (Bb D 10);obtain⟨v9,⟨x9,e9⟩,q⟩:=q;refine yP ?_;go_simp;exact X.out _ _ ⟨trivial,λ_=>q⟩ (yO _ _)
     |9,_,_=>obtain rfl:=yQ E;have d7:(∃v,∃x:Bool,(a.tmps[39]?.getD undef)=.tuple #[v,.bool x])/\(ll 10=false->∃v,(∃x:Bool,(a.tmps[39]?.getD undef)=.tuple #[v,.bool x])/\On (w.heap.size+1) wx v):=Dc A D 7;clear A H;obtain⟨v9,x9,e9⟩:=d7.1;refine yP ?_;go_simp;exact X.out _ _ ⟨trivial,λ_=>trivial⟩ (yO _ _)
    .intro i hi hS o E a wx H ll A D Z hb X
     match i,hi,hS with
     |2,_,_=>exact fK (m:=64) E X H A D Z (by omega)
     |4,_,_=>exact fK (m:=99) E X H A D Z (by omega)
     |0,_,V|1,_,V|3,_,V|5,_,V|6,_,V|7,_,V|8,_,V|9,_,V|10,_,V=>cases V
    .intro o E a wx H ll A D hD hW hb X
     obtain rfl:=yQ E;have e5:a.tmps[5]?.getD undef=.pointer (some ⟨b5,0,none⟩):=eg (PV H 5);have d8:(True)/\(ll 10=false->On (w.heap.size+1) wx (a.tmps[47]?.getD undef)):=Dc A D 8;clear A H;have q:=d8.2 D.out.1;obtain⟨m9,i9,e9,c9,s9,l9,q9,P9,e0,fF,fA⟩:=q;unfold AQ at e0;obtain⟨⟨⟨va,vn,vc,rfl⟩,⟨wa,wn,wc,rfl⟩,⟨xa,xn,xc,rfl⟩,⟨ya,yn,yc,rfl⟩⟩,⟨ta,tn,tc,rfl⟩,⟨ua,un,uc,rfl⟩,⟨za,zn,zc,rfl⟩⟩:=fF.Ex;have S9:=(J.draw hD hW).put fF fA;have B9:=(J.draw hD hW).yV;obtain⟨c0,c1,c2,c3,c4,c5,c6,c7,c8⟩:=AD B9;have fq:=AK B9;refine yP ?_;go_simp;exact X.out undef _ ⟨_,_,_,_,_,_,_,P9,S9⟩
    .exact λ_ _ K h=>h.below K
    rotate_left
    .intro i hi v ww fp hg hz
     match i,hi with
     |6,_|7,_=>exact(by obtain⟨v9,O,R⟩:=hz;exact⟨v9,O,R.past (by omega) hg⟩)
     |8,_=>exact(hz.past (by omega) hg)
     |9,_|0,_|1,_|2,_|3,_|4,_|5,_|10,_=>exact hz
    .intro L wx ll hR hA
     clear hR;simp only[DQ,Bk,yN,yJ,yK,yI];simp
     try generalize L 0=z0
     try generalize L 1=z1
     try generalize L 2=z2
     try generalize L 3=z3
     try generalize L 4=z4
     try generalize L 5=z5
     try generalize L 6=z6
     try generalize L 7=z7
     try generalize L 8=z8
     try generalize L 9=z9
     try generalize L 10=z10
     go_wp2_with fail;go_roundw;exact⟨j+1,by omega,by go_num,by rw[show N+4+2*(j+1)=N1+2 from by omega];exact hA⟩;simp[intOf];omega
   .obtain⟨c0,c1,c2,c3,c4,c5,c6,c7,c8⟩:=AD J.yV
    obtain⟨_,_,_,_,_,_,_,B9,_,_,a0,a1,a2,a3,R9⟩:=SK;have oE:b≠g:=by omega
    have mb:=AW R9;have fL:=(J.kp b (AW B9) oE (by omega)).trans B9;have mS:=(J.kp w.heap.size (AW R9) (by omega) (by omega)).trans R9;obtain⟨d0,d1,d2,d3⟩:=AE fL;have fd:=AK fL;have HR:=AA (JV.put (J.dr.mono (M:=N+20) (by omega)) J.gr fL (J.sf.1.map (λ_ _ _ _ _ _ _ x=>BZ x (wH _))) J.good.k ac bX fe mS);clear B9 R9 fL mS J;go_wp2_with fail;go_meet;exact HR.out
  .go_wp2_with fail
   go_meet;exact S4.mono (by omega)
 case rest=>
 clear S4 x0 z;go_wp2_with fail;refine(hcut.pk ac fe 24 (by omega) (by decide) (by decide)).mono ?_;rintro e w5 ⟨n,rfl,n0,n1,S5⟩;clear hcut;obtain⟨n,rfl⟩:=xX n0;have ks:n<24:=by omega
 clear n0 n1;go_wp2_with fail;go_loopw [10] (λi wr=>∃j:Nat,j<=n/\i=.int .i64 j/\JV DP Y g (N+21+20*j) w b wr) (λi _=>n - (intOf i).toNat)
 exact⟨0,yu _,rfl,S5⟩
 clear S5;obtain⟨j,hj,rfl,m1,i1,e1,c1,k,hd,kO,hB,iK,hk,a0,a1,a2,a3,hR⟩:=hrel;obtain⟨⟨ma,mn,mc,rfl⟩,⟨ia,iN,ic,rfl⟩,⟨ea,en,ec,rfl⟩,⟨ca,cn,cc,rfl⟩⟩:=iK.Ex;obtain⟨c0,c1,c2,c3⟩:=AE hB;have av:=AW hB;have lZ:=fe
 by_cases gj:j<n
 .go_wp2_with fail
  obtain⟨N1,hN1⟩:∃M,M=N+21+20*j:=⟨_,rfl⟩
  rw[<-hN1] at hd;refine Je (s:=9) (U:=λix vv=>match ix with
   |3=>∃x:AU,vv=.agg x.cs/\La x
   |4|5=>∃v,∃x y:Int,vv=.tuple #[v,.int .i64 x,.int .i64 y]
   |_=>True) 10 68 20 1 [3] [.a #[.slice ma mn mc,.slice ia iN ic,.slice ea en ec,.slice ca cn cc],.p g 0,.a #[.slice ma mn mc,.slice ia iN ic,.slice ea en ec,.slice ca cn cc],.z,.z,.z,.z,.z,.z,.u] (λix vv ww=>match ix with
   |4|5=>∃v,(∃x y:Int,vv=.tuple #[v,.int .i64 x,.int .i64 y])/\ZC w.heap.size ww v
   |6=>ZC w.heap.size ww vv
   |7|8=>True
   |_=>True) (λww=>JV DP Y g (N1+20) w b ww) hd ?_ ?_ ?_ ?_ ?_ (hst:=?_)
  .intro i hi hS o E a wx H ll A D hr hb X
   match i,hi,hS with
   |0,_,_|2,_,_=>have hW:=hr (by kernel_rfl);have bx:=gc hW av (by omega) c0;have bk:=gc hW av (by omega) c1;have bw:=gc hW av (by omega) c2;have bN:=gc hW av (by omega) c3;exact LY E X H A D (hl:=PZ ‹_› ‹_› ‹_› ‹_›)
   |1,_,_=>exact WP E X H A D
   |3,_,V|9,_,V=>cases V
   |4,_,_=>obtain rfl:=yQ E;have d0:(a.tmps[59]?.getD undef)=.agg #[.slice ma mn mc,.slice ia iN ic,.slice ea en ec,.slice ca cn cc]:=Dc A D 0;have d3:(∃x:AU,(a.tmps[62]?.getD undef)=.agg x.cs/\La x)/\(ll 9=false->True):=Dc A D 3;obtain⟨⟨cl,d3,gk⟩,_⟩:=d3;have u9:=Bb D 9;clear A H;have hW:=hr (by kernel_rfl);have gN:=iK.map (GU hW ac (yG _));have ki:=hW.size;refine yP ?_;go_simp;refine(Lp gN.rd hk cl ⟨gk.2.1,gk.2.2.1⟩ (by have:=gk.1;unfold maxLen;omega) (by have:=gk.2.2.2;omega)).mono ?_;rintro e w_ ⟨m9,i9,e9,c9,rfl,hO,eh⟩;exact X.out _ _ ⟨⟨_,_,_,rfl⟩,λ_=>⟨_,⟨_,_,rfl⟩,m9,i9,e9,c9,_,rfl,hO.sf.map (λ_ _ _ _ _ _ _ x=>BZ x (by omega)),Ll hk ⟨gk.2.1,by have:=gk.2.2.1;omega⟩⟩⟩ eh
   |5,_,_=>obtain rfl:=yQ E;have d4:(∃v,∃x y:Int,(a.tmps[63]?.getD undef)=.tuple #[v,.int .i64 x,.int .i64 y])/\(ll 9=false->∃v,(∃x y:Int,(a.tmps[63]?.getD undef)=.tuple #[v,.int .i64 x,.int .i64 y])/\ZC w.heap.size wx v):=Dc A D 4;have u9:=Bb D 9;clear A H;have q:=d4.2 (Bb D 9);obtain⟨v9,⟨x9,y9,e9⟩,q⟩:=q;refine yP ?_;go_simp;exact X.out _ _ ⟨⟨_,_,_,rfl⟩,λ_=>⟨_,⟨_,_,rfl⟩,q⟩⟩ (yO _ _)
   |6,_,_=>obtain rfl:=yQ E;have d5:(∃v,∃x y:Int,(a.tmps[58]?.getD undef)=.tuple #[v,.int .i64 x,.int .i64 y])/\(ll 9=false->∃v,(∃x y:Int,(a.tmps[58]?.getD undef)=.tuple #[v,.int .i64 x,.int .i64 y])/\ZC w.heap.size wx v):=Dc A D 5;have u9:=Bb D 9;clear A H;have q:=d5.2 (Bb D 9);obtain⟨v9,⟨x9,y9,e9⟩,q⟩:=q;refine yP ?_;go_simp;exact X.out _ _ ⟨trivial,λ_=>q⟩ (yO _ _)
   |7,_,_=>obtain rfl:=yQ E;have d5:(∃v,∃x y:Int,(a.tmps[58]?.getD undef)=.tuple #[v,.int .i64 x,.int .i64 y])/\(ll 9=false->∃v,(∃x y:Int,(a.tmps[58]?.getD undef)=.tuple #[v,.int .i64 x,.int .i64 y])/\ZC w.heap.size wx v):=Dc A D 5;clear A H;obtain⟨v9,x9,y9,e9⟩:=d5.1;refine yP ?_;go_simp;exact X.out _ _ ⟨trivial,λ_=>trivial⟩ (yO _ _)
   |8,_,_=>obtain rfl:=yQ E;have d5:(∃v,∃x y:Int,(a.tmps[58]?.getD undef)=.tuple #[v,.int .i64 x,.int .i64 y])/\(ll 9=false->∃v,(∃x y:Int,(a.tmps[58]?.getD undef)=.tuple #[v,.int .i64 x,.int .i64 y])/\ZC w.heap.size wx v):=Dc A D 5;clear A H;obtain⟨v9,x9,y9,e9⟩:=d5.1;refine yP ?_;go_simp;exact X.out _ _ ⟨trivial,λ_=>trivial⟩ (yO _ _)
  .intro i hi hS o E a wx H ll A D Z hb X
   match i,hi,hS with
   |3,_,_=>exact fR (Pv:=λv _=>∃x:AU,v=.agg x.cs/\La x) E X H A D Z (λM hM hD hW=>PB (.slice ma mn mc) (.slice ia iN ic) (.slice ea en ec) (.slice ca cn cc) k.Xy hD (by omega) (λw' hg=>(iK.map (GU (AP hW hg) ac (yG _))).rd.2.1) (vd hk.len)) (hR:=λ_ _ h=>⟨h,trivial⟩)
   |0,_,V|1,_,V|2,_,V|4,_,V|5,_,V|6,_,V|7,_,V|8,_,V|9,_,V=>cases V
  .intro o E a wx H ll A D hD hW hb X
   obtain rfl:=yQ E;have e3:a.tmps[3]?.getD undef=.pointer (some ⟨b,0,none⟩):=eg (PV H 3);have d6:(True)/\(ll 9=false->ZC w.heap.size wx (a.tmps[64]?.getD undef)):=Dc A D 6;clear A H;have q:=d6.2 D.out.1;obtain⟨m9,i9,e9,c9,k9,e0,fF,fA⟩:=q;obtain⟨⟨va,vn,vc,rfl⟩,⟨wa,wn,wc,rfl⟩,⟨xa,xn,xc,rfl⟩,⟨ya,yn,yc,rfl⟩⟩:=fF.Ex;have eP:=(hW.block b av (by simp;omega)).trans hB;have oS:=(hW.block _ (AW hR) (by simp;omega)).trans hR;obtain⟨c0,c1,c2,c3⟩:=AE eP;have fq:=AK eP;refine yP ?_;go_simp;exact X.out undef _ (JV.put hD (AP kO hW) eP fF fA ac bX lZ oS)
  .exact λ_ _ K h=>h.below ac lZ K
  rotate_left
  .intro i hi v ww fp hg hz
   match i,hi with
   |4,_|5,_=>exact(by obtain⟨v9,O,R⟩:=hz;exact⟨v9,O,R.past ac hg⟩)
   |6,_=>exact(hz.past ac hg)
   |7,_|8,_|0,_|1,_|2,_|3,_|9,_=>exact hz
  .intro L wx ll hR hA
   clear hR;simp only[DQ,Bk,yN,yJ,yK,yI];simp
   try generalize L 0=z0
   try generalize L 1=z1
   try generalize L 2=z2
   try generalize L 3=z3
   try generalize L 4=z4
   try generalize L 5=z5
   try generalize L 6=z6
   try generalize L 7=z7
   try generalize L 8=z8
   try generalize L 9=z9
   go_wp2_with fail;go_roundw;exact⟨j+1,by omega,by go_num,by rw[show N+21+20*(j+1)=N1+20 from by omega];exact hA⟩;simp[intOf];omega
 .obtain⟨d0,d1,d2,d3⟩:=AE hR
  have gp:=AK hR;obtain⟨BX,FX⟩:=cR (ok:=DP) (M:=N+3000) hd kO iK hk ac bX hR (by omega);have BH:=AA BX;have FH:=AA FX;clear BX FX hB hd kO iK hR hk;go_wp2_with fail;exact yC (v:=.agg #[_,_,_,_]) (by simp[results,Tryz.results87,go_sem,AE BH.out]) rfl FH.out
theorem TS{xs:List AV}{f:Nat}{y:AV}(h:Ib xs)(hy:y.g.size<=maxLen):Ib (xs.set f y):=by
 intro x hx
 rcases List.mem_or_eq_of_mem_set hx with O|O
 .exact h x O
 .subst O;exact hy
theorem RO{es:List Em}{f:Em->Em}(h:∀i,i<es.length->DH (AF es i).Tj)(hf:∀e,DH e.Tj->DH (f e).Tj):∀i,i<(An es j f).length->DH (AF (An es j f) i).Tj:=by
 intro i hi;rw[Cz] at hi;rw[Gk]
 split
 .rename_i e
  exact hf _ (h j e.2)
 .exact h i hi
theorem XN{es:List Em}{n:Nat}(h:∀i,i<es.length->DH (AF es i).Tj):∀i,i<(es.take n).length->DH (AF (es.take n) i).Tj:=by
 intro i hi;rw[yt] at hi;have e:AF (es.take n) i=AF es i:=by unfold AF;rw[yg,yg,uX,if_pos (by omega)]
 rw[e];exact h i (by omega)
section
variable {lo g:Nat} {w w':World} {m i e c:Value} {k:AN}
theorem IT.putWord(h:IT lo w g m i e c k)(cT:Bq k.mem=true){f:Nat}(hf:f<12):
 ∃gm iS gw ej,m=.slice (some ⟨gm,0,none⟩) 12 iS/\gm<w.heap.size/\lo<=gm/\w.cell? ⟨gm,f,none⟩=some (.slice (some ⟨gw,0,none⟩) 4 ej)/\lo<=gw/\
  ∀W q,w.grownBy W (some q)->q<lo->IT lo W g m i e c k->(∀j,W.frozen? ⟨gw,j,none⟩=false)/\gw<W.heap.size/\(∀j,j<4->∃u,W.cell? ⟨gw,j,none⟩=some u)/\∀j v,IT lo (W.setCell ⟨gw,j,none⟩ (.int .i64 v)) g m i e c {k with mem:=k.mem.set f ((AH k.mem f).set j v)}/\W.grownBy (W.setCell ⟨gw,j,none⟩ (.int .i64 v)) (some gw):=by
 obtain⟨gm,cp,gw,ej,L,rfl,gJ,_,hc,hl,ax,O,R,o,hu,hx⟩:=h.zp cT hf;have h4:=(A6.1 ((Ah.1 cT).2 f hf)).1;refine⟨gm,cp,gw,ej,rfl,gJ,(yB o.1 gm rfl).1,hc,ax,λW q hg hq hI=>?_⟩;have hp:∀b',some q=some b'->b'<lo:=λb' e=>by cases e;exact hq
 have n5:w.ownsRow lo 3 1 (.slice (some ⟨gw,0,none⟩) 4 ej) 4 ((AH k.mem f).map (ym .i64)):=by have:=hx;unfold AG at this;rwa [h4] at this
 have jr:=Br n5 hg hp;refine⟨λq=>xT jr q,(yB jr gw rfl).2,λj hj=>?_,λj v=>?_⟩
 .rw[xx jr j hj,xz,yH (by omega)]
  exact⟨_,rfl⟩
 have S:=wm jr j (.int .i64 v);have hO:AG lo (W.setCell ⟨gw,j,none⟩ (.int .i64 v)) (.slice (some ⟨gw,0,none⟩) 4 ej) ((AH k.mem f).set j v):=by unfold AG;rw[yi,h4,List.map_set];exact S.1
 exact⟨hI.row ⟨Br o.1 hg hp,o.2.1.mono λ_ _ x=>Br x hg hp,o.2.2⟩ (by rw[(Ah.1 cT).1];exact hf) hu hO S.2,S.2⟩
theorem IT.infoPut{gi n:Nat}(h:IT lo w g m (.slice (some ⟨gi,0,none⟩) n cp) e c k)(hn:n=k.Xy.length){f:Nat}(hf:f<k.Xy.length)(y:AV):
 IT lo (((w.setCell ⟨gi,f*3,none⟩ (.int .i64 y.k)).setCell ⟨gi,f*3+1,none⟩ (.string y.g)).setCell ⟨gi,f*3+2,none⟩ (.int .i64 y.r)) g m (.slice (some ⟨gi,0,none⟩) n cp) e c {k with Xy:=k.Xy.set f y}/\w.grownBy (((w.setCell ⟨gi,f*3,none⟩ (.int .i64 y.k)).setCell ⟨gi,f*3+1,none⟩ (.string y.g)).setCell ⟨gi,f*3+2,none⟩ (.int .i64 y.r)) (some gi)/\lo<=gi:=by
 have hx:k.Xy[f]?=some k.Xy[f]:=yH hf;obtain⟨a1,a2,a3⟩:=h.info hn hx (j:=0) (by decide) (y:= {k.Xy[f] with k:=y.k}) (u:=.int .i64 y.k) rfl;have eG:({k with Xy:=k.Xy.set f {k.Xy[f] with k:=y.k}}:AN).Xy[f]?=some {k.Xy[f] with k:=y.k}:=xJ hf;obtain⟨b1,b2,_⟩:=a1.info (by simpa using hn) eG (j:=1) (by decide) (y:= {k.Xy[f] with k:=y.k,g:=y.g}) (u:=.string y.g) rfl;have fQ:({k with Xy:=(k.Xy.set f {k.Xy[f] with k:=y.k}).set f {k.Xy[f] with k:=y.k,g:=y.g}}:AN).Xy[f]?=some {k.Xy[f] with k:=y.k,g:=y.g}:=xJ (by simpa using hf);obtain⟨c1,c2,_⟩:=b1.info (by simpa using hn) fQ (j:=2) (by decide) (y:=y) (u:=.int .i64 y.r) rfl;refine⟨?_,AP (AP a2 b2) c2,a3⟩;have e:((k.Xy.set f {k.Xy[f] with k:=y.k}).set f {k.Xy[f] with k:=y.k,g:=y.g}).set f y=k.Xy.set f y:=by simp
 rw[<-e];exact c1
theorem IT.rightsSf{ge n:Nat}(h:IT lo w g m i (.slice (some ⟨ge,0,none⟩) n cp) c k)(hn:n=k.V3.length){j:Nat}(hj:j<k.V3.length){u:Value}{ss:List ByteArray}(hu:AO lo 9 1 Ay w u ss):
 (w.setCell ⟨ge,j*2,none⟩ u).heap[g]?=some (.cells #[m,i,.slice (some ⟨ge,0,none⟩) n cp,c] 28 (0,0))/\PY lo (w.setCell ⟨ge,j*2,none⟩ u) m i (.slice (some ⟨ge,0,none⟩) n cp) c {k with V3:=An k.V3 j (BQ ss)}/\w.grownBy (w.setCell ⟨ge,j*2,none⟩ u) (some ge)/\lo<=ge:=by
 obtain⟨hB,hg,⟨L,o1⟩,o2,⟨gD,a1,b2,b3⟩,o4⟩:=h;have fy:gD.length=k.V3.length:=b2.1;rw[<-fy] at hn;subst hn;have kz:j<gD.length:=by omega
 have S:=AO.zI F6 a1 (k:=j) (x:=gD[j]) (yH kz) (j:=0) (by decide) (y:=(u,gD[j].2)) (u:=u) rfl;rw[xU] at S;obtain⟨iR,hc⟩:=A9 a1 ge rfl;have ep:9≠66:=by decide
 have lQ:=o1.yW S.2 hc;refine⟨Ku hB S.2 hc (by decide),⟨⟨L,lQ.1,lQ.2.1⟩,o2.yW S.2 hc,⟨gD.set j (u,gD[j].2),?_,⟨?_,?_⟩⟩,o4.yW S.2 hc⟩,S.2,(yB a1 ge rfl).1⟩
 .have:=S.1
  unfold AO;rw[yi];have h5:=this;unfold AO at h5;rw[yi] at h5;exact h5
 .rw[yi,Cz];exact fy
 .intro q p ev hp fT
  rw[Ji (d:=⟨[],0⟩)] at fT
  by_cases e:j=q
  .subst e
   rw[xJ kz] at hp;rw[xJ hj] at fT;cases hp;cases fT;have hx:=b2.2 j gD[j] (k.V3.getD j ⟨[],0⟩) (yH kz) (BD hj);exact⟨hu.yW S.2 hc ep,hx.2⟩
  .rw[List.getElem?_set_ne e] at hp fT
   have hx:=b2.2 q p ev hp fT;exact⟨hx.1.yW S.2 hc ep,hx.2⟩
theorem Sm{α:Type}{cs:α->List Value}{sz:Nat}(V:∀x,(cs x).length=sz)(xs:List α)(n:Nat):CZ cs (xs.take n)=(CZ cs xs).take (n*sz):=by
 induction xs generalizing n with
 |nil=>simp[CZ]
 |cons x xs ih=>
  cases n with
  |zero=>simp[CZ]
  |succ n=>rw[List.take_succ_cons,H6,H6,ih,show(n+1)*sz=(cs x).length+n*sz by rw[V,Nat.succ_mul,Nat.add_comm],List.take_length_add_append]
theorem Z6{α:Type}{cs:α->List Value}{sz e g n x:Nat}{xs:List α}(V:∀x,(cs x).length=sz)(h:AO lo e sz cs w (.slice (some ⟨g,0,none⟩) n cp) xs)(hn:n=xs.length)(hx:x<=n):AO lo e sz cs w (.slice (some ⟨g,0,none⟩) x cp) (xs.take x):=by
 subst hn;have hl:(xs.take x).length=x:=by rw[yt];omega
 obtain⟨O,R⟩:=h;unfold AO;rw[hl]
 rcases R with⟨h3,_⟩|⟨g',cap',iR,h3,h4,h5,h6,h7,h8,h9⟩
 .cases h3
 .simp only[xS,Option.some.injEq,Addr.mk.injEq,true_and,and_true] at h3
  obtain⟨rfl,rfl⟩:=h3;refine⟨?_,.inr ⟨g,cp,iR,rfl,h4,h5,by omega,h7,h8,?_⟩⟩
  .rw[Sm V,yt,O]
   exact vP (wL sz hx)
  .rw[Sm V,<-h9,List.take_take,vP (wL sz hx)]
theorem PY.cutEnvs{ge n x:Nat}(h:PY lo w m i (.slice (some ⟨ge,0,none⟩) n cp) c k)(hn:n=k.V3.length)(hx:x<=n):PY lo w m i (.slice (some ⟨ge,0,none⟩) x cp) c {k with V3:=k.V3.take x}:=by
 obtain⟨O,R,⟨ps,h3,h4⟩,h5⟩:=h;refine⟨O,R,⟨ps.take x,Z6 F6 h3 (hn.trans h4.1.symm) hx,?_,λj p ev hp fT=>?_⟩,h5⟩
 .rw[yt,yt,h4.1]
 .rw[uX] at hp fT
  split at hp
  .rename_i hj
   rw[if_pos hj] at fT;exact h4.2 j p ev hp fT
  .cases hp
end
def P6(lo:Nat)(w:World)(v:Value):Prop:=∃ss,AO lo 9 1 Ay w v ss/\DH ss
theorem P6.past{lo g:Nat}{w w':World}{v:Value}(h:P6 lo w v)(hg:g<lo)(K:w.grownBy w' (some g)):P6 lo w' v:=by
 obtain⟨ss,O,R⟩:=h;exact⟨ss,Br O K (λb' e=>by cases e;exact hg),R⟩
theorem Yq{P:Program}{f:FuncId}{L:Array Value}{Y w:World}{g N lo:Nat}(h:Calls P f L w (J4 Y g N w λv w'=>∃ss,AO w.heap.size 9 1 Ay w' v ss/\DH ss))(hl:lo<=w.heap.size):Calls P f L w (J4 Y g N w λv w'=>P6 lo w' v):=
 h.mono λ_ _ h=>by obtain⟨v,rfl,⟨ss,O,R⟩,h3⟩:=h;exact⟨v,rfl,⟨ss,O.lower hl,R⟩,h3⟩
theorem Wi{Y w:World}{g N:Nat}(h:Dr Y g N w)(hN:N<=300000):
 Calls prog 41 #[.pointer (some ⟨g,0,none⟩)] w (dW V6 Y g (N+3200) w):=by
 have ac:=h.lt;have bX:Y.heap.size<=w.heap.size:=h.2.1.size;have B0:=yw w (.cells #[.slice none 0 0,.slice none 0 0,.slice none 0 0,.slice none 0 0] 28);have gA:=Aa (AJ w (.cells #[.slice none 0 0,.slice none 0 0,.slice none 0 0,.slice none 0 0] 28)) (some g);have bp:w.heap.size+1=(w.alloc (.cells #[.slice none 0 0,.slice none 0 0,.slice none 0 0,.slice none 0 0] 28)).heap.size:=by simp
 go_in;go_wp2_with fail;have hA:=h.alloc (.cells #[.slice none 0 0,.slice none 0 0,.slice none 0 0,.slice none 0 0] 28);generalize w.alloc _=wa at*;refine(Rz hA (by omega)).mono ?_;rintro e w1 ⟨v,rfl,⟨m,i,ev,c,k,rfl,S1,hk⟩,O,g1⟩;obtain⟨⟨ma,mn,mc,rfl⟩,⟨ia,iN,ic,rfl⟩,⟨ea,en,ec,rfl⟩,⟨ca,cn,cc,rfl⟩⟩:=S1.Ex;rw[<-bp] at S1;have qF:g<wa.heap.size:=by omega
 have B1:=(g1.block w.heap.size (by omega) (by simp;omega)).trans B0;obtain⟨NK,bK⟩:=EH w1 (.cells #[.slice ma mn mc,.slice ia iN ic,.slice ea en ec,.slice ca cn cc] 28);have R:=O.below bK;have G2:=AP (AP gA g1) (Aa bK (some g));have B2:=AB B1 bK;have S2:PY (w.heap.size+1) _ _ _ _ _ k:=S1.map (Kj bK (yG _));have av:w.heap.size<w1.heap.size:=by have:=g1.size;omega
 clear S1 B1 O g1 hA B0 bK gA h;go_wp2_with fail;obtain⟨b,K⟩:∃b,b=w1.heap.size:=⟨_,rfl⟩
 rw[<-K] at NK av ⊢;clear K;generalize w1.alloc _=w2 at*;refine(R.pick _).mono ?_;rintro e w3 ⟨x,rfl,x0,z,h3,g3⟩;have hp:∀b',some g=some b'->b'<w.heap.size+1:=λb' e=>by cases e;omega
 have S3:PY (w.heap.size+1) w3 _ _ _ _ k:=S2.map (GU g3 (by omega) (yG _));have B3:=GH B2 (yG _) g3 (λb' e=>by cases e;exact ac);have fm:=GH NK (tl av) g3 (λb' e=>by cases e;exact ac);have G3:=AP G2 g3;obtain⟨c0,c1,c2,c3⟩:=AE fm;clear S2 B2 NK R G2 g3
 by_cases hx:0<x
 .obtain⟨d0,d1,d2,d3⟩:=AE B3
  have gp:=AK B3;obtain⟨BX,FX⟩:=cR (ok:=V6) (M:=N+3200) h3 G3 (S3.map (λ_ _ _ _ _ _ _ h=>BZ h (wH _))) ⟨Cc hk,vd hk.len⟩ ac bX B3 (by omega);have BH:=AA BX;have FH:=AA FX;clear BX FX B3 h3 G3 S3 fm hk;go_wp2_with fail;exact yC (v:=.agg #[_,_,_,_]) (by simp[results,rT,go_sem,AE BH.out]) rfl FH.out
 .have hS:=S3.rd
  go_wp2_with fail;refine(Lo _ _ _ _ k w3 hS hk).mono ?_;rintro e w4 ⟨m',i',e',c',rfl,O4,b4⟩;obtain⟨⟨lU,lT,jT,rfl⟩,⟨lV,lW,gE,rfl⟩,⟨mH,mG,fI,rfl⟩,⟨ph,o8,pb,rfl⟩⟩:=O4.Ex;have h4:=h3.below b4;have hz:w.heap.size+1<=w3.heap.size:=by have:=AW B3;omega
  have jA:=AB fm b4;have fz:=AK jA;have J:=cQ (ok:=DP) h4 (AP G3 (Aa b4 _)) jA (O4.lower hz) hk ac bX av ⟨_,_,_,_,AB B3 b4⟩;obtain⟨c0,c1,c2,c3⟩:=AE jA;clear h3 h4 G3 S3 hS fm jA B3 O4 b4 hz;go_wp2_with fail;generalize(((w4.setCell _ _).setCell _ _).setCell _ _).setCell _ _=w5 at J ⊢;refine(J.pk _).mono ?_;rintro e w6 ⟨f,rfl,f0,f1,S6⟩;clear J c0 c1 c2 c3 fz;go_wp2_with fail;refine(S6.pk _).mono ?_;rintro e w7 ⟨u,rfl,u0,u1,J⟩;clear S6;obtain⟨f,rfl⟩:=xX f0;go_upto_block 0 with fail;go_cut [] (λwx=>JV V6 Y g (N+3200) w b wx)
  case rest=>clear J;obtain⟨m9,i9,e9,c9,k9,h9,G9,N9,S9,fA,a0,a1,a2,a3,B9⟩:=hcut;obtain⟨⟨lU,lT,jT,rfl⟩,⟨lV,lW,gE,rfl⟩,⟨mH,mG,fI,rfl⟩,⟨ph,o8,pb,rfl⟩⟩:=S9.Ex;obtain⟨c0,c1,c2,c3⟩:=AE N9;obtain⟨d0,d1,d2,d3⟩:=AE B9;have gp:=AK B9;obtain⟨BX,FX⟩:=cR (ok:=V6) h9 G9 S9 fA ac bX B9 (yG _);have BH:=AA BX;have FH:=AA FX;clear BX FX B9 N9 h9 G9 S9 hk;go_wp2_with fail;exact yC (v:=.agg #[_,_,_,_]) (by simp[results,rT,go_sem,AE BH.out]) rfl FH.out
  case first=>
   have hf:f<12:=by omega
   have mr:(f:Int)<12:=by omega
   rcases(show u=0∨u=1∨u=2∨u=3∨u=4∨u=5∨u=6 by omega) with rfl|rfl|rfl|rfl|rfl|rfl|rfl
   .obtain⟨gm,iS,gw,ej,e1,nI,nH,Df,nG,SW⟩:=J.yT.putWord (Am hk).1 hf
    cases e1;have SW:=AA SW;obtain⟨c0,c1,c2,c3⟩:=AE J.yT.1;have bt:=AW J.yT.1;have eM:=J.lt;have fM:w.heap.size+1<=w7.heap.size:=by omega
    go_wp2_with fail;refine Ft 10 87 3 2 [6,8] [.p b 0,.s gm 12 jT,.i ((f:Int)),.p gm f,.s gw 4 ej,.p g 0,.z,.p g 0,.z,.z] (λix vv ww=>match ix with
     |6=>Pk 4 vv
     |8=>∃x:Int,vv=.int .i64 x/\ -1<=x/\x<=9999
     |9=>∃x:Int,vv=.int .i64 x
     |_=>True) J.dr ?_ ?_
    .intro i hi o E a wx H A ll D Z hW hb HQ X
     match i,hi with
     |0,_|2,_|5,_|7,_=>exact sP E X H A
     |1,_=>exact sL E X H A (hl:=GQ (gc hW bt (by omega) c0))
     |3,_=>exact sI E X H A (hr:=by clear A H X;go_simp)
     |4,_=>exact sL E X H A (hl:=K9 (gc hW nI (by omega) Df))
     |6,_=>exact dK (m:=4) E HQ H A D Z (by omega)
     |8,_=>exact da E HQ H A D Z (λM hM hD hW=>Nb hD (by omega))
     |9,_=>
      obtain rfl:=yQ E;have d8:∃x:Int,(a.tmps[27]?.getD undef)=.int .i64 x/\ -1<=x/\x<=9999:=BY A 8
      obtain⟨x8,d8,y0,y1⟩:=d8;clear A H;refine yP ?_;go_simp;exact X.out _ _ ⟨_,rfl⟩ (yO _ _)
    .intro L wx hR hD hW
     have q4:(L 4)=.slice (some ⟨gw,0,none⟩) 4 ej:=Bg hR 4;have q6:Pk 4 (L 6):=Bg hR 6;obtain⟨x6,q6,p0,p1⟩:=q6;have q9:∃x:Int,(L 9)=.int .i64 x:=Bg hR 9
     obtain⟨x9,q9⟩:=q9;clear hR;simp only[Aj,Ag,yN,yJ,yK,yI,q4,q6,q9];simp;clear q4 q6 q9;have S9:=J.draw hD hW;obtain⟨x6,rfl⟩:=xX p0;obtain⟨fz,qE,kI,mR⟩:=SW.out wx g hW (by omega) S9.yT;obtain⟨_,kI⟩:=kI x6 (by omega);obtain⟨I9,g9⟩:=mR x6 x9;have HR:=AA (S9.ke (ok':=V6) g9 (by omega) I9.1 I9.2.2.sf ⟨⟨(Cc hk).1,(Cc hk).2⟩,by simp[hk.len]⟩ (M:=N+3200) (by omega));clear S9 I9 g9 mR hD hW J;go_wp2_with fail;go_meet;exact HR.out
   .skip
    obtain⟨gi,li,e1,lR,jO,_,_,D2,_⟩:=J.yT.Sc' (f:=f) (by rw[hk.len];exact hf);rw[hk.len] at e1;cases e1;obtain⟨c0,c1,c2,c3⟩:=AE J.yT.1;have bt:=AW J.yT.1;have eM:=J.lt;have fM:w.heap.size+1<=w7.heap.size:=by omega
    go_wp2_with fail;refine Ft 5 87 10 1 [4] [.p b 1,.s gi 12 gE,.i ((f:Int)),.p g 0,.z] (λix vv ww=>match ix with
     |4=>NG vv
     |_=>True) J.dr ?_ ?_
    .intro i hi o E a wx H A ll D Z hW hb HQ X
     match i,hi with
     |0,_|2,_|3,_=>exact sP E X H A
     |1,_=>exact sL E X H A (hl:=GV (gc hW bt (by omega) c1))
     |4,_=>exact da E HQ H A D Z (λM hM hD hW=>VQ hD (by omega))
    .intro L wx hR hD hW
     have q1:(L 1)=.slice (some ⟨gi,0,none⟩) 12 gE:=Bg hR 1;have q2:(L 2)=.int .i64 f:=Bg hR 2;have q4:NG (L 4):=Bg hR 4;obtain⟨y4,qw,q4⟩:=q4;clear hR;simp only[Aj,Ag,yN,yJ,yK,yI,q1,q2,q4];simp;clear q1 q2 q4;have S9:=J.draw hD hW;obtain⟨oV,iT,e1,jQ,_,_,_,_,fz⟩:=S9.yT.Sc' (f:=f) (by rw[hk.len];exact hf);rw[hk.len] at e1;cases e1;obtain⟨I9,g9,_⟩:=S9.yT.infoPut hk.len.symm (f:=f) (by rw[hk.len];exact hf) y4;have HR:=AA (S9.ke (ok':=V6) g9 (by omega) I9.1 I9.2.2.sf ⟨⟨TS (Cc hk).1 (by unfold maxLen;omega),(Cc hk).2⟩,by simp[hk.len]⟩ (M:=N+3200) (by omega));clear S9 I9 g9 hD hW J;go_wp2_with fail;go_meet;exact HR.out
   .skip
    obtain⟨gi,li,e1,lR,jO,_,_,D2,_⟩:=J.yT.Sc' (f:=f) (by rw[hk.len];exact hf);rw[hk.len] at e1;cases e1;obtain⟨c0,c1,c2,c3⟩:=AE J.yT.1;have bt:=AW J.yT.1;have eM:=J.lt;have fM:w.heap.size+1<=w7.heap.size:=by omega
    go_wp2_with fail;refine Ac 10 87 [.p b 1,.s gi 12 gE,.i ((f:Int)),.p b 1,.s gi 12 gE,.i ((f:Int)),.p gi (f*3),.p gi (f*3+2),.i ((Sc k.Xy f).r),.z] (λix vv ww=>match ix with
     |9=>∃x:Int,vv=.int .i64 x
     |_=>True) ?_ ?_
    .intro i hi o E a wx H A Z hb X
     have bx:=bc Z bt c1;have bk:=bc Z lR D2
     match i,hi with
     |0,_|2,_|3,_|5,_|7,_=>exact sP E X H A
     |1,_|4,_=>exact sL E X H A (hl:=GV ‹_›)
     |6,_=>exact sI E X H A (hr:=by clear A H X;go_simp)
     |8,_=>exact sL E X H A (hl:=Fy ‹_›)
     |9,_=>clear bx bk;obtain rfl:=yQ E;have d8:(a.tmps[48]?.getD undef)=.int .i64 ((Sc k.Xy f).r):=BY A 8;clear A H;refine yP ?_;go_simp;exact X.out _ _ ⟨_,rfl⟩ (yO _ _)
    .intro L wx hR Z
     have q1:(L 1)=.slice (some ⟨gi,0,none⟩) 12 gE:=Bg hR 1;have q2:(L 2)=.int .i64 f:=Bg hR 2;have q9:∃x:Int,(L 9)=.int .i64 x:=Bg hR 9
     obtain⟨x9,q9⟩:=q9;clear hR;simp only[Aj,Ag,yN,yJ,yK,yI,q1,q2,q9];simp;clear q1 q2 q9;have S9:=J.below Z;obtain⟨oV,iT,e1,jQ,_,d0,d1,d2,fz⟩:=S9.yT.Sc' (f:=f) (by rw[hk.len];exact hf);rw[hk.len] at e1;cases e1;obtain⟨I9,g9,_⟩:=S9.yT.info hk.len.symm (f:=f) (x:=Sc k.Xy f) (Ca (by rw[hk.len];exact hf)) (j:=2) (by decide) (y:= {Sc k.Xy f with r:=x9}) (u:=.int .i64 x9) rfl;have HR:=AA (S9.ke (ok':=V6) g9 (by omega) I9.1 I9.2.2.sf ⟨⟨TS (Cc hk).1 (show(Sc k.Xy f).g.size<=maxLen from(Cc hk).1 _ (yx (Ca (show f<k.Xy.length by rw[hk.len];exact hf)))),(Cc hk).2⟩,by simp[hk.len]⟩ (M:=N+3200) (by omega));clear S9 I9 g9 Z J;go_wp2_with fail;go_meet;exact HR.out
   .skip
    obtain⟨ge,iV,_,_,e1,lS,_⟩:=J.yT.env (j:=0) (by rw[hk.zY];decide);rw[hk.zY] at e1;cases e1;obtain⟨c0,c1,c2,c3⟩:=AE J.yT.1;have bt:=AW J.yT.1;have eM:=J.lt;have fM:w.heap.size+1<=w7.heap.size:=by omega
    go_wp2_with fail;refine Ft 7 87 1 2 [3,5] [.p b 2,.s ge 3 fI,.p g 0,.z,.p g 0,.z,.z] (λix vv ww=>match ix with
     |3=>Pk 3 vv
     |5=>Pk 13 vv
     |6=>∃x:Int,vv=.int .i64 x
     |_=>True) J.dr ?_ ?_
    .intro i hi o E a wx H A ll D Z hW hb HQ X
     match i,hi with
     |0,_|2,_|4,_=>exact sP E X H A
     |1,_=>exact sL E X H A (hl:=OZ (gc hW bt (by omega) c2))
     |3,_=>exact dK (m:=3) E HQ H A D Z (by omega)
     |5,_=>exact dK (m:=13) E HQ H A D Z (by omega)
     |6,_=>obtain rfl:=yQ E;have d5:Pk 13 (a.tmps[59]?.getD undef):=BY A 5;obtain⟨x5,d5,q0,q1⟩:=d5;clear A H;refine yP ?_;go_simp;exact X.out _ _ ⟨_,rfl⟩ (yO _ _)
    .intro L wx hR hD hW
     have q1:(L 1)=.slice (some ⟨ge,0,none⟩) 3 fI:=Bg hR 1;have q3:Pk 3 (L 3):=Bg hR 3;obtain⟨x3,q3,p0,p1⟩:=q3;have q6:∃x:Int,(L 6)=.int .i64 x:=Bg hR 6
     obtain⟨x9,q6⟩:=q6;clear hR;simp only[Aj,Ag,yN,yJ,yK,yI,q1,q3,q6];simp;clear q1 q3 q6;have S9:=J.draw hD hW;obtain⟨x3,rfl⟩:=xX p0;have gF:x3<3:=by omega
     obtain⟨oW,iU,_,_,e1,jR,_,_,_,fz⟩:=S9.yT.env (j:=x3) (by rw[hk.zY];exact gF);rw[hk.zY] at e1;cases e1;obtain⟨I9,g9,_⟩:=S9.yT.root hk.zY.symm (j:=x3) (by rw[hk.zY];exact gF) x9;have HR:=AA (S9.ke (ok':=V6) g9 (by omega) I9.1 I9.2.2.sf ⟨⟨(Cc hk).1,RO (Cc hk).2 (λ_ h=>h)⟩,by simp[hk.len]⟩ (M:=N+3200) (by omega));clear S9 I9 g9 hD hW J;go_wp2_with fail;go_meet;exact HR.out
   .skip
    obtain⟨ge,iV,_,_,e1,lS,_⟩:=J.yT.env (j:=0) (by rw[hk.zY];decide);rw[hk.zY] at e1;cases e1;obtain⟨c0,c1,c2,c3⟩:=AE J.yT.1;have bt:=AW J.yT.1;have eM:=J.lt;have fM:w.heap.size+1<=w7.heap.size:=by omega
    go_wp2_with fail;refine Ft 6 87 60 2 [3,5] [.p b 2,.s ge 3 fI,.p g 0,.z,.p g 0,.z] (λix vv ww=>match ix with
     |3=>Pk 3 vv
     |5=>P6 (w.heap.size+1) ww vv
     |_=>True) J.dr ?_ ?_ (hst:=?_)
    .intro i hi o E a wx H A ll D Z hW hb HQ X
     match i,hi with
     |0,_|2,_|4,_=>exact sP E X H A
     |1,_=>exact sL E X H A (hl:=OZ (gc hW bt (by omega) c2))
     |3,_=>exact dK (m:=3) E HQ H A D Z (by omega)
     |5,_=>exact dR E HQ H A D Z (λM hM hD hW=>Yq (Ry hD (by omega)) (yL fM hW.size))
    rotate_left
    .intro i hi vv wz fp dt hz
     match i,hi with
     |3,_=>exact hz
     |5,_=>exact P6.past hz (by omega) dt
     |0,_|1,_|2,_|4,_=>exact hz
    .intro L wx hR hD hW
     have q1:(L 1)=.slice (some ⟨ge,0,none⟩) 3 fI:=Bg hR 1;have q3:Pk 3 (L 3):=Bg hR 3;obtain⟨x3,q3,p0,p1⟩:=q3;have q5:P6 (w.heap.size+1) wx (L 5):=Bg hR 5;clear hR;simp only[Aj,Ag,yN,yJ,yK,yI,q1,q3];simp;generalize L 5=z5 at q5 ⊢;clear q1 q3;have S9:=J.draw hD hW;obtain⟨x3,rfl⟩:=xX p0;have gF:x3<3:=by omega
     obtain⟨oW,iU,_,_,e1,jR,_,_,_,fz⟩:=S9.yT.env (j:=x3) (by rw[hk.zY];exact gF);rw[hk.zY] at e1;cases e1;obtain⟨ss,hO,od⟩:=q5;obtain⟨N9,ds,g9,_⟩:=S9.yT.rightsSf hk.zY.symm (j:=x3) (by rw[hk.zY];exact gF) hO;have HR:=AA (S9.ke (ok':=V6) g9 (by omega) N9 ds ⟨⟨(Cc hk).1,RO (Cc hk).2 (λ_ _=>od)⟩,by simp[hk.len]⟩ (M:=N+3200) (by omega));obtain⟨_,_,rfl,_,_⟩:=hO.rd.shape;clear S9 N9 ds g9 hD hW J hO;go_wp2_with fail;go_meet;exact HR.out
   .skip
    obtain⟨c0,c1,c2,c3⟩:=AE J.yT.1;have bt:=AW J.yT.1;have eM:=J.lt;have fM:w.heap.size+1<=w7.heap.size:=by omega
    go_wp2_with fail;refine(UI J.dr (by omega)).mono ?_;rintro e w8 ⟨v,rfl,⟨ss,hO⟩,h8,g8⟩;have S9:=J.draw h8 g8;have hO:=hO.lower fM;have g9:=Ak w8 b 3 v;have N9:=yF w8 b 3 _ _ v S9.yT.1;have O9:=S9.yT.2.2.sf;have ds:PY (w.heap.size+1) (w8.setCell ⟨b,3,none⟩ v) _ _ _ v {k with V0:=ss}:=PY.map (⟨O9.1,O9.2.1,O9.2.2.1,hO⟩:PY (w.heap.size+1) w8 _ _ _ v {k with V0:=ss}) (L6 g9 S9.yT.1 (.inl rfl) (yG _));have HR:=AA (S9.ke (ok':=V6) g9 eM (by simpa using N9) ds ⟨⟨(Cc hk).1,(Cc hk).2⟩,by simp[hk.len]⟩ (M:=N+3200) (by omega));have fz:=AK S9.yT.1;obtain⟨c0,c1,c2,c3⟩:=AE S9.yT.1;obtain⟨_,_,rfl,_,_⟩:=hO.rd.shape;clear S9 N9 ds O9 g9 h8 g8 J hO;go_wp2_with fail;go_meet;exact HR.out
   .skip
    obtain⟨ge,iV,_,_,e1,lS,_⟩:=J.yT.env (j:=0) (by rw[hk.zY];decide);rw[hk.zY] at e1;cases e1;obtain⟨c0,c1,c2,c3⟩:=AE J.yT.1;have bt:=AW J.yT.1;have eM:=J.lt;have fM:w.heap.size+1<=w7.heap.size:=by omega
    go_wp2_with fail;refine Ft 4 87 1 1 [3] [.p b 2,.s ge 3 fI,.p g 0,.z] (λix vv ww=>match ix with
     |3=>Pk 3 vv
     |_=>True) J.dr ?_ ?_
    .intro i hi o E a wx H A ll D Z hW hb HQ X
     match i,hi with
     |0,_|2,_=>exact sP E X H A
     |1,_=>exact sL E X H A (hl:=OZ (gc hW bt (by omega) c2))
     |3,_=>exact dK (m:=3) E HQ H A D Z (by omega)
    .intro L wx hR hD hW
     have q1:(L 1)=.slice (some ⟨ge,0,none⟩) 3 fI:=Bg hR 1;have q3:Pk 3 (L 3):=Bg hR 3;obtain⟨x3,q3,p0,p1⟩:=q3;clear hR;simp only[Aj,Ag,yN,yJ,yK,yI,q1,q3];simp;clear q1 q3;have S9:=J.draw hD hW;obtain⟨x3,rfl⟩:=xX p0;have gF:x3<3:=by omega
     have oN:3<=fI:=by obtain⟨_,_,e9,kI,_⟩:=S9.yT.2.2.2.2.1.choose_spec.1.rd.shape;simp only[xS] at e9;obtain⟨_,e8,rfl⟩:=e9;omega
     have g9:=Ak wx b 2 (.slice (some ⟨ge,0,none⟩) x3 fI);have N9:=yF wx b 2 _ _ (.slice (some ⟨ge,0,none⟩) x3 fI) S9.yT.1;have ds:=(S9.yT.2.2.sf.cutEnvs hk.zY.symm (x:=x3) (by omega)).map (L6 g9 S9.yT.1 (.inl rfl) (yG _));have HR:=AA (S9.ke (ok':=V6) g9 eM (by simpa using N9) ds ⟨⟨(Cc hk).1,XN (Cc hk).2⟩,by simp[hk.len]⟩ (M:=N+3200) (by omega));have fz:=AK S9.yT.1;obtain⟨c0,c1,c2,c3⟩:=AE S9.yT.1;clear S9 N9 ds g9 hD hW J;go_wp2_with fail;go_meet;exact HR.out
def Pe(P:AR):Prop:=V6 P.Vw
theorem Se{α β γ:Type}{h2:α->β->Prop}{S:α->γ->Prop}{xs:List α}{ys:List β}(h:GE h2 xs ys)(f:∀x y,h2 x y->∃x1,S x x1):∃zs,GE S xs zs:=by
 induction xs generalizing ys with
 |nil=>exact⟨[],rfl,λi x y h=>by simp at h⟩
 |cons a xs ih=>
  cases ys with
  |nil=>exact absurd h.1 (by simp)
  |cons b ys=>
   obtain⟨x1,hz⟩:=f a b (h.2 0 a b rfl rfl);obtain⟨zs,O,R⟩:=ih (ys:=ys) ⟨by simpa using h.1,λi x y hx hy=>h.2 (i+1) x y (by simpa using hx) (by simpa using hy)⟩;refine⟨x1::zs,by simp[O],λi x y hx hy=>?_⟩;cases i with
   |zero=>simp at hx hy;subst hx hy;exact hz
   |succ i=>exact R i x y (by simpa using hx) (by simpa using hy)
theorem UP{lo:Nat}{w:World}{r:List Int}(gl j:Nat)(x:Int)(h:AG lo w u r):∃r',AG lo (w.setCell ⟨gl,j,none⟩ (.int .i64 x)) u r':=by
 have hg:=Ak w gl j (.int .i64 x)
 by_cases hu:u.ownBlock=some gl
 .have h0:=h
  obtain⟨O,R⟩:=h0
  rcases R with⟨e,e2⟩|⟨g',cap',iR,e,h3⟩
  .subst e
   simp[vL] at hu
  .subst e
   simp[vL] at hu;subst hu;refine⟨r.set j x,?_⟩;have S:=(wm h j (.int .i64 x)).1;unfold AG;rw[yi,List.map_set];exact S
 .exact⟨r,Aw h hg (.inr hu)⟩
section
variable {ok:AR->Prop} {Y w wr:World} {g N M b:Nat} {m i e c s l q:Value} {P:AR}
theorem OH.lowPut{lo gl n:Nat}(h:OH lo w m i e c s (.slice (some ⟨gl,0,none⟩) n cp) q P)(j:Nat)(x:Int):
 ∃P',OH lo (w.setCell ⟨gl,j,none⟩ (.int .i64 x)) m i e c s (.slice (some ⟨gl,0,none⟩) n cp) q P'/\P'.Il=P.Il/\P'.UQ=P.UQ/\P'.Vw.Xy=P.Vw.Xy/\P'.Vw.V3=P.Vw.V3:=by
 obtain⟨⟨⟨L,O,R⟩,h3,⟨ps,h4,h5⟩,h6⟩,⟨us,h7,h8⟩,h9,oU⟩:=h;have hg:=Ak w gl j (.int .i64 x);obtain⟨iR,hc⟩:=A9 h9 gl rfl;obtain⟨m',hm⟩:=Se R λu r h=>UP gl j x h
 obtain⟨s',V⟩:=Se h8 (S:=ZG lo (w.setCell ⟨gl,j,none⟩ (.int .i64 x))) λu r h=>by
  rcases h with h|h
  .obtain⟨r',h'⟩:=UP gl j x h
   exact⟨r',.inl h'⟩
  .exact⟨r,.inr h⟩
 obtain⟨l',hl⟩:=UP gl j x h9;exact⟨⟨⟨m',P.Vw.Xy,P.Vw.V3,P.Vw.V0⟩,s',l',P.Xx,P.Il,P.UQ⟩,⟨⟨⟨L,O.yW hg hc,hm⟩,h3.yW hg hc,⟨ps,h4.yW hg hc,h5.mono λ_ _ h=>⟨h.1.yW hg hc,h.2⟩⟩,h6.yW hg hc⟩,⟨us,h7.yW hg hc,V⟩,hl,oU.yW hg hc⟩,rfl,rfl,rfl,rfl⟩
theorem IZ.page{gq n0 n:Nat}{x y:Bs}(J:IZ ok Y g N w b m i e c s l (.slice (some ⟨gq,0,none⟩) n0 cp) P wr)(kt:n0=P.Xx.length)(hk:P.Xx[n]?=some x)(hj:j<3)(hy:DI y=(DI x).set j u)(V:Pe P)(hM:N<=M):Un Pe Y g M w b (wr.setCell ⟨gq,n*3+j,none⟩ u):=by obtain⟨I,g9,h9⟩:=J.yR.zA kt hk hj hy;exact J.pe (ok':=Pe) g9 (by omega) I.yV I.own.sf V hM
theorem IZ.Il(J:IZ ok Y g N w b m i e c s l q P wr)(x:Int)(V:Pe P)(hM:N<=M):Un Pe Y g M w b (wr.setCell ⟨b,7,none⟩ (.int .i64 x)):=by obtain⟨I,g9⟩:=J.yR.zt x;exact J.pe (ok':=Pe) g9 J.lt I.yV I.own.sf V hM
theorem IZ.lim(J:IZ ok Y g N w b m i e c s l q P wr)(x:Int)(V:Pe P)(hM:N<=M):Un Pe Y g M w b (wr.setCell ⟨b,8,none⟩ (.int .i64 x)):=by have g9:=Ak wr b 8 (.int .i64 x);have h8:=yF wr b 8 _ _ (.int .i64 x) J.yR.yV;exact J.pe (ok':=Pe) (P':= {P with UQ:=x}) g9 J.lt (by simpa using h8) (J.yR.own.sf.map (L6 g9 J.yR.yV (.inr rfl) (yG _))) V hM
theorem IZ.Vw{m' i' e' c':Value}{k':AN}(J:IZ ok Y g N w b m i e c s l q P wr)(S:PY (w.heap.size+1) wr m' i' e' c' k')(V:V6 k')(hM:N<=M):Un Pe Y g M w b ((((wr.setCell ⟨b,0,none⟩ m').setCell ⟨b,1,none⟩ i').setCell ⟨b,2,none⟩ e').setCell ⟨b,3,none⟩ c'):=by have g9:=Aq wr b m' i' e' c';have h1:=J.yR.own.sf;exact J.pe (ok':=Pe) (P':= {P with Vw:=k'}) g9 J.lt (Iv J.yR.yV) (OH.map (⟨S,h1.2⟩:OH (w.heap.size+1) wr m' i' e' c' s l q {P with Vw:=k'}) (L6 g9 J.yR.yV (.inr rfl) (yG _))) V hM
theorem IZ.row{gs n0 n:Nat}{v':Value}{r:List Int}{w1:World}(J:IZ ok Y g N w b m i e c (.slice (some ⟨gs,0,none⟩) n0 cp) l q P wr)(K:Below wr.heap.size wr w1)(hO:AG wr.heap.size w1 v' r)(kt:n0=P.swap.length)(hn:n<P.swap.length)(V:Pe P)(hM:N<=M):Un Pe Y g M w b (w1.setCell ⟨gs,n,none⟩ v'):=by
 obtain⟨L,hr⟩:=J.yR.own.swp;have ax:w.heap.size+1<=wr.heap.size:=by have:=AW J.yR.yV;have:=J.lt;omega
 have h2:=hr.set (B:=wr.heap.size) (j:=n) K hO (yG _) ax (kt.trans hr.2.1.1.symm) (by rw[hr.2.1.1];exact hn);have I:=(J.yR.below K).zl h2.2 h2.1;have O:=(yB hr.1 gs rfl).1;exact(J.below K).pe (ok':=Pe) h2.2 (by omega) I.yV I.own.sf V hM
theorem IZ.lowx{gl n0:Nat}(J:IZ ok Y g N w b m i e c s (.slice (some ⟨gl,0,none⟩) n0 cp) q P wr)(j:Nat)(x:Int)(V:Pe P)(hM:N<=M):Un Pe Y g M w b (wr.setCell ⟨gl,j,none⟩ (.int .i64 x)):=by have h1:=J.yR.own;obtain⟨P',S',e1,e2,e3,e4⟩:=h1.sf.lowPut j x;obtain⟨iR,hc⟩:=A9 h1.low gl rfl;have O:=(yB h1.low gl rfl).1;have g9:=Ak wr gl j (.int .i64 x);have hB:=Ap J.yR.yV g9 (Bt hc J.yR.yV);rw[<-e1,<-e2] at hB;refine J.pe (ok':=Pe) g9 (by omega) hB S' ?_ hM;unfold Pe V6 Jo at V ⊢;rw[e3,e4];exact V
end
theorem Wj{Y w:World}{g N:Nat}(h:Dr Y g N w)(hN:N<=50000):
 Calls prog 15 #[.pointer (some ⟨g,0,none⟩)] w (dX Pe Y g (N+4300) w):=by
 have ac:=h.lt;have bX:Y.heap.size<=w.heap.size:=h.2.1.size;obtain⟨B0,bA⟩:=EH w (.cells #[.slice none 0 0,.slice none 0 0,.slice none 0 0,.slice none 0 0,.slice none 0 0,.slice none 0 0,.slice none 0 0,.int .i64 0,.int .i64 0] 32);have gA:=Aa bA (some g);have hA:=h.below bA;have gg:=AW B0;go_in;go_wp2_with fail;generalize w.alloc _=wa at*;refine(UK hA (by omega)).mono ?_;rintro e w1 ⟨v,rfl,⟨m,i,ev,c,s,l,q,P,rfl,S1,hP⟩,O,g1⟩;obtain⟨⟨⟨ma,mn,mc,rfl⟩,⟨ia,iN,ic,rfl⟩,⟨ea,en,ec,rfl⟩,⟨va,vn,vc,rfl⟩⟩,⟨sa,sn,sc,rfl⟩,⟨la,ln,lc,rfl⟩,⟨qa,qn,qc,rfl⟩⟩:=S1.Ex;unfold AQ;have B1:=(g1.block w.heap.size gg (by simp;omega)).trans B0;obtain⟨NK,bK⟩:=EH w1 (.cells #[.slice ma mn mc,.slice ia iN ic,.slice ea en ec,.slice va vn vc,.slice sa sn sc,.slice la ln lc,.slice qa qn qc,.int .i64 P.Il,.int .i64 P.UQ] 32);have R:=O.below bK;have G2:=AP (AP gA g1) (Aa bK (some g));have B2:=AB B1 bK;have S2:=S1.map (Kj bK gg);have av:w.heap.size<w1.heap.size:=yv gg g1.size;clear S1 B1 O g1 hA B0 bK gA h bA gg;go_wp2_with fail;generalize w1.alloc _=w2 at*;generalize w1.heap.size=b at*;refine(R.pick _).mono ?_;rintro e w3 ⟨x,rfl,x0,z,h3,g3⟩;have hp:∀b',some g=some b'->b'<w.heap.size+1:=λb' e=>by cases e;omega
 have S3:=S2.map (GU g3 (show g<w.heap.size+1 by omega) (yG _));have B3:=GH B2 (yG _) g3 (λb' e=>by cases e;exact ac);have fm:=GH NK (tl av) g3 (λb' e=>by cases e;exact ac);have G3:=AP G2 g3;obtain⟨c0,c1,c2,c3,c4,c5,c6,c7,c8⟩:=AD fm;have V:Pe P:=⟨Cc hP.k,vd hP.k.len⟩;clear S2 B2 NK R G2 g3
 by_cases hx:0<x
 .obtain⟨d0,d1,d2,d3,d4,d5,d6,d7,d8⟩:=AD B3
  have gp:=AK B3;obtain⟨BX,FX⟩:=cX (ok:=Pe) (M:=N+4300) h3 G3 (S3.map (λ_ _ _ _ _ _ _ h=>BZ h (wH _))) V ac bX B3 (by omega);unfold Fd at BX FX;have BH:=AA BX;have FH:=AA FX;clear BX FX B3 h3 G3 S3 fm hP V;go_wp2_with fail;exact yC (v:=.agg #[_,_,_,_,_,_,_,_,_]) (by simp[results,rS,go_sem,AD BH.out]) rfl FH.out
 .have CC:=Lr _ _ _ _ _ _ _ P w3 S3.rd hP
  unfold AQ at CC;go_wp2_with fail;refine CC.mono ?_;rintro e w4 ⟨m4,i4,e4,lj,s4,l4,q4,rfl,O4,b4⟩;obtain⟨⟨⟨lU,lT,jT,rfl⟩,⟨lV,lW,gE,rfl⟩,⟨mH,mG,fI,rfl⟩,⟨pO,pK,pM,rfl⟩⟩,⟨pW,pR,ny,rfl⟩,⟨ql,qh,jq,rfl⟩,⟨p6,pZ,lO,rfl⟩⟩:=O4.Ex;unfold AQ;have h4:=h3.below b4;have nY:w.heap.size+1<=w3.heap.size:=by have:=AW fm;omega
  have J:=cW (b:=b) h4 (AP G3 (Aa b4 _)) (AB fm b4) (O4.lower nY) hP ac bX av ⟨_,_,_,_,_,_,_,_,_,AB B3 b4⟩;have fz:=AK (AB fm b4);clear c0 c1 c2 c3 c4 c5 c6 c7 c8;obtain⟨c0,c1,c2,c3,c4,c5,c6,c7,c8⟩:=AD (AB fm b4);have J:=AA J;clear S3 B3 fm h3 G3 O4 b4 h4 CC;go_wp2_with fail;replace J:=J.out;unfold Fd at J;generalize((((((((w4.setCell _ _).setCell _ _).setCell _ _).setCell _ _).setCell _ _).setCell _ _).setCell _ _).setCell _ _).setCell _ _=w5 at J ⊢;refine(J.pk 16).mono ?_;rintro e w6 ⟨f,rfl,f0,f1,S6⟩;clear J c0 c1 c2 c3 c4 c5 c6 c7 c8 fz;go_wp2_with fail;refine(S6.pk 7).mono ?_;rintro e w7 ⟨u,rfl,u0,u1,J⟩;clear S6;obtain⟨f,rfl⟩:=xX f0;go_upto_block 0 with fail;go_cut [] (λwx=>Un Pe Y g (N+4200) w b wx)
  case rest=>clear J;obtain⟨m9,i9,e9,c9,s9,l9,q9,P9,h9,G9,N9,S9,fA,a0,a1,a2,a3,a4,a5,a6,a7,a8,B9⟩:=hcut;obtain⟨⟨⟨qf,qd,qe,rfl⟩,⟨qo,qr,qm,rfl⟩,⟨qO,qM,qN,rfl⟩,⟨pN,pJ,pL,rfl⟩⟩,⟨pU,pP,pS,rfl⟩,⟨qj,qg,qi,rfl⟩,⟨p5,pY,p4,rfl⟩⟩:=S9.Ex;obtain⟨c0,c1,c2,c3,c4,c5,c6,c7,c8⟩:=AD N9;obtain⟨d0,d1,d2,d3,d4,d5,d6,d7,d8⟩:=AD B9;have gp:=AK B9;obtain⟨BX,FX⟩:=cX (ok:=Pe) (M:=N+4300) h9 G9 S9 fA ac bX B9 (by omega);unfold Fd at BX FX;have BH:=AA BX;have FH:=AA FX;clear BX FX B9 N9 h9 G9 S9;go_wp2_with fail;exact yC (v:=.agg #[_,_,_,_,_,_,_,_,_]) (by simp[results,rS,go_sem,AD BH.out]) rfl FH.out
  case first=>
   have hf:f<16:=by omega
   have mr:(f:Int)<16:=by omega
   rcases(show u=0∨u=1∨u=2∨u=3∨u=4∨u=5∨u=6 by omega) with rfl|rfl|rfl|rfl|rfl|rfl|rfl
   .skip
    obtain⟨gq,lh,e1,_,_,jP,_⟩:=J.yR.page (n:=f) (by rw[hP.zZ];exact hf);rw[hP.zZ] at e1;cases e1;obtain⟨c0,c1,c2,c3,c4,c5,c6,c7,c8⟩:=AD J.yR.yV;have bt:=AW J.yR.yV;have eM:=J.lt;go_wp2_with fail;refine Ft 7 69 1 1 [4] [.p b 6,.s gq 16 lO,.i ((f:Int)),.p g 0,.z,.p gq (f*3),.p gq (f*3)] (λix vv ww=>match ix with
     |4=>Pk 4 vv
     |_=>True) J.dr ?_ ?_
    .intro i hi o E a wx H A ll D Z hW hb HQ X
     match i,hi with
     |0,_|2,_|3,_|6,_=>exact sP E X H A
     |1,_=>exact sL E X H A (hl:=bE (gc hW bt (by omega) c6))
     |4,_=>exact dK (m:=4) E HQ H A D Z (by omega)
     |5,_=>exact sI E X H A (hr:=by clear A H X;go_simp)
    .intro L wx hR hD hW
     have q4:Pk 4 (L 4):=Bg hR 4;obtain⟨x4,q4,p0,p1⟩:=q4;have q6:(L 6)=.pointer (some ⟨gq,f*3,none⟩):=Bg hR 6;clear hR;simp only[Aj,Ag,yN,yJ,yK,yI,q4,q6];simp;clear q4 q6;have S9:=J.draw hD hW;obtain⟨jw,fq,d0,d1,d2⟩:=S9.yR.pg (n:=f) (by rw[hP.zZ];exact hf);have HR:=AA (S9.page (x:=AC P.Xx f) (y:= {AC P.Xx f with w:=x4}) (n:=f) (j:=0) hP.zZ.symm (by unfold AC;exact BD (by rw[hP.zZ];exact hf)) (by decide) rfl V (M:=N+4200) (by omega));clear S9 hD hW J;go_wp2_with fail;go_meet;exact HR.out
   .skip
    obtain⟨gq,lh,e1,_,_,jP,_⟩:=J.yR.page (n:=f) (by rw[hP.zZ];exact hf);rw[hP.zZ] at e1;cases e1;obtain⟨c0,c1,c2,c3,c4,c5,c6,c7,c8⟩:=AD J.yR.yV;have bt:=AW J.yR.yV;have eM:=J.lt;go_wp2_with fail;refine Ft 7 69 1 1 [4] [.p b 6,.s gq 16 lO,.i ((f:Int)),.p g 0,.z,.p gq (f*3),.p gq (f*3+1)] (λix vv ww=>match ix with
     |4=>Pk 16 vv
     |_=>True) J.dr ?_ ?_
    .intro i hi o E a wx H A ll D Z hW hb HQ X
     match i,hi with
     |0,_|2,_|3,_|6,_=>exact sP E X H A
     |1,_=>exact sL E X H A (hl:=bE (gc hW bt (by omega) c6))
     |4,_=>exact dK (m:=16) E HQ H A D Z (by omega)
     |5,_=>exact sI E X H A (hr:=by clear A H X;go_simp)
    .intro L wx hR hD hW
     have q4:Pk 16 (L 4):=Bg hR 4;obtain⟨x4,q4,p0,p1⟩:=q4;have q6:(L 6)=.pointer (some ⟨gq,f*3+1,none⟩):=Bg hR 6;clear hR;simp only[Aj,Ag,yN,yJ,yK,yI,q4,q6];simp;clear q4 q6;have S9:=J.draw hD hW;obtain⟨jw,fq,d0,d1,d2⟩:=S9.yR.pg (n:=f) (by rw[hP.zZ];exact hf);have HR:=AA (S9.page (x:=AC P.Xx f) (y:= {AC P.Xx f with a:=x4}) (n:=f) (j:=1) hP.zZ.symm (by unfold AC;exact BD (by rw[hP.zZ];exact hf)) (by decide) rfl V (M:=N+4200) (by omega));clear S9 hD hW J;go_wp2_with fail;go_meet;exact HR.out
   .obtain⟨L,hr⟩:=J.yR.own.swp
    have ew:L.length=16:=by rw[hr.2.1.1,hP.zO]
    obtain⟨gs,pf,e1,iW,qQ,p7,nC,oG⟩:=hr.1.zX (by omega);rw[ew] at e1;cases e1;have b4:=AJ w7 (.cells #[.int .i64 1,.int .i64 2,.int .i64 3,.int .i64 4] 3);have hO:AG w7.heap.size (w7.alloc (.cells #[.int .i64 1,.int .i64 2,.int .i64 3,.int .i64 4] 3)) (.slice (some ⟨w7.heap.size,0,none⟩) 4 4) [1,2,3,4]:=Qp w7 3 1 4 [.int .i64 1,.int .i64 2,.int .i64 3,.int .i64 4] rfl (by decide);have HR:=AA (J.row (n:=f) b4 hO hP.zO.symm (by rw[hP.zO];exact hf) V (M:=N+4200) (by omega));have g1:(w7.alloc (.cells #[.int .i64 1,.int .i64 2,.int .i64 3,.int .i64 4] 3)).ownsRow (w.heap.size+1) 29 1 (.slice (some ⟨gs,0,none⟩) 16 ny) 16 L:=by have:=(hr.below b4).1;unfold AO at this;rwa [Jr,ew] at this
    have C1:=xx g1 f (by omega);rw[yH (by omega)] at C1;have F1:=xT g1 f;obtain⟨c0,c1,c2,c3,c4,c5,c6,c7,c8⟩:=AD J.yR.yV;have oD:gs<w7.heap.size:=nC;clear g1 hO b4 hr oG J;go_wp2_with fail;go_meet;rw[<-World.setCell_alloc_past _ gs f _ oD];exact HR.out
   .skip
    go_wp2_with fail;refine(J.pk 20).mono ?_;rintro e w8 ⟨x1,rfl,z0,z1,S8⟩;obtain⟨c0,c1,c2,c3,c4,c5,c6,c7,c8⟩:=AD S8.yR.yV;have fq:=AK S8.yR.yV;have HR:=AA (λx=>S8.Il x V (M:=N+4200) (by omega));clear S8 J;go_wp2_with fail;go_meet;exact HR.out _
   .skip
    go_wp2_with fail;refine(J.pk 9).mono ?_;rintro e w8 ⟨x1,rfl,z0,z1,S8⟩;obtain⟨c0,c1,c2,c3,c4,c5,c6,c7,c8⟩:=AD S8.yR.yV;have fq:=AK S8.yR.yV;have HR:=AA (λx=>S8.lim x V (M:=N+4200) (by omega));clear S8 J;go_wp2_with fail;go_meet;exact HR.out _
   .obtain⟨gl,pd,e1,p9,_⟩:=Kd J.yR.own.low (j:=0) (by rw[hP.zE];decide)
    rw[hP.zE] at e1;cases e1;obtain⟨c0,c1,c2,c3,c4,c5,c6,c7,c8⟩:=AD J.yR.yV;have bt:=AW J.yR.yV;have eM:=J.lt;go_wp2_with fail;refine Ft 6 69 1 2 [3,5] [.p b 5,.s gl 4 jq,.p g 0,.z,.p g 0,.z] (λix vv ww=>match ix with
     |3=>Pk 4 vv
     |5=>Pk 12 vv
     |_=>True) J.dr ?_ ?_
    .intro i hi o E a wx H A ll D Z hW hb HQ X
     match i,hi with
     |0,_|2,_|4,_=>exact sP E X H A
     |1,_=>exact sL E X H A (hl:=K9 (gc hW bt (by omega) c5))
     |3,_=>exact dK (m:=4) E HQ H A D Z (by omega)
     |5,_=>exact dK (m:=12) E HQ H A D Z (by omega)
    .intro L wx hR hD hW
     have q1:(L 1)=.slice (some ⟨gl,0,none⟩) 4 jq:=Bg hR 1;have q3:Pk 4 (L 3):=Bg hR 3;obtain⟨x3,q3,p0,p1⟩:=q3;have q5:Pk 12 (L 5):=Bg hR 5;obtain⟨x5,q5,q0,q1⟩:=q5;clear hR;simp only[Aj,Ag,yN,yJ,yK,yI,q1,q3,q5];simp;clear q1 q3 q5;have S9:=J.draw hD hW;obtain⟨x3,rfl⟩:=xX p0;obtain⟨qK,mK,e1,nJ,D9⟩:=Kd S9.yR.own.low (j:=x3) (by rw[hP.zE];omega);rw[hP.zE] at e1;cases e1;have ow:=S9.yR.own.low;unfold AG at ow;rw[hP.zE] at ow;have fl:=xT ow x3;clear ow;have HR:=AA (S9.lowx x3 x5 V (M:=N+4200) (by omega));clear S9 hD hW J;go_wp2_with fail;go_meet;exact HR.out
   .go_wp2_with fail
    refine(Wi J.dr (by omega)).mono ?_;rintro e w8 ⟨v,rfl,⟨m8,i8,e8,qP,k',rfl,S8,oC⟩,h8,g8⟩;obtain⟨⟨ka,kn,kc,rfl⟩,⟨ja,jn,jc,rfl⟩,⟨fa,fn,fc,rfl⟩,⟨ra,rn,rc,rfl⟩⟩:=S8.Ex;have S9:=J.draw h8 g8;have fz:=AK S9.yR.yV;obtain⟨c0,c1,c2,c3,c4,c5,c6,c7,c8⟩:=AD S9.yR.yV;have fM:w.heap.size+1<=w7.heap.size:=by have:=AW J.yR.yV;have:=J.lt;omega
    have HR:=AA (S9.Vw (S8.map (λ_ _ _ _ _ _ _ x=>BZ x fM)) oC (M:=N+4200) (by omega));clear S9 S8 h8 g8 J;go_wp2_with fail;go_meet;exact HR.out
section
variable {w wa W0 ww w':World} {g N rb:Nat} {o0 o1:Obj} {p s:Bool}
end
def R4(lo:Nat)(v:Value)(w:World):Prop:=∃q o,∃x:Int,v=.pointer (some ⟨q,o,none⟩)/\lo<=q/\w.cell? ⟨q,o,none⟩=some (.int .i64 x)
def R1(k lo:Nat)(v:Value)(w:World):Prop:=∃xs:List Int,xs.length=k/\AG lo w v xs
end Go.Proofs.YtaopbdankjkfpaaGreatDoor
