/-
  Packed:6 texts.
-/
import Derived.Test.YtinbcpipjfljeaaGreatDoorY1
import Derived.Test.YtinbcpipjfljeaaGreatDoorY11
import Derived.Test.YtinbcpipjfljeaaGreatDoorY7
import Derived.Test.YtinbcpipjfljeaaGreatDoorY9
set_option linter.unusedVariables false
set_option linter.unusedSimpArgs false
set_option maxHeartbeats 16000000
set_option maxRecDepth 100000
open Go Go.Proofs.YtinbcpipjfljeaaGreatDoor
open Bool renaming true_and->vS
open Decidable renaming em->wg
open Go.IntKind renaming i64->wR
open Go.IntWalk renaming i64_in->xy
open Go.Lib renaming toList_data->xz
open Go.Proofs.Tryz renaming results25->uu
open Go.RowKit.Below renaming refl->yF
open Go.Value renaming int->yf
open Go.World renaming block_lt_of_cell?->yC
open Go.World.ownsRow renaming lt->yr
open Go renaming bodyPost_ret->yp,heap_alloc_new->yw
open Int renaming tmod_eq_emod_of_nonneg->wK,toNat_natCast->xY
open List renaming all_eq_true->yk,foldl_cons->yA,foldl_nil->yy,mem_range->yj,range->yE
open List.range renaming loop->yB
open Nat renaming add_zero->xQ,le_trans->yD,lt_of_lt_of_le->xZ,not_lt_zero->xR,zero_le->yh
namespace Go.Proofs.YtinbcpipjfljeaaGreatDoor
open Go.Proofs.Tryz
open Go.RowKit
section
variable {lo g:Nat} {w w':World} {m i e c s l q:Value} {P:AR}
theorem Gg.kfar {p:Nat} {cu:Array Value} (h:Gg lo g w m i e c s l q P) (hp:w.heap[p]? =some (.cells cu 28 (0,0))) (hg:w.grownBy w' (some p)):Gg lo g w' m i e c s l q P:=
 ⟨Ap h.yM hg (Bo hp h.yM),h.yL,h.own.yN hg hp⟩
theorem Gg.putSw {s':Value} {vs:List Value} {S:List (List Int)} (h:Gg lo g w m i e c s l q P) (O:At lo w s' vs S) (ha:Fa m s'):Gg lo g (w.setCell ⟨g,4,none⟩ s') m i e c s' l q {P with swap:=S}:=by have gr:=Aq w g 4 s';have F:=h.own.yN gr h.yM;have B:=heap_setCell_same w g 4 _ 32 s' h.yM;exact⟨by simpa using B,h.yL,⟨F.ker,⟨vs,O.yN gr h.yM⟩,F.low,F.pgs,ha⟩⟩
theorem Gg.putK {m' i' e' c':Value} {k:AN} (h:Gg lo g w m i e c s l q P) (O:DO lo w m' i' e' c' k) (ha:Fa m' s):Gg lo g ((((w.setCell ⟨g,0,none⟩ m').setCell ⟨g,1,none⟩ i').setCell ⟨g,2,none⟩ e').setCell ⟨g,3,none⟩ c') m' i' e' c' s l q {P with zX:=k}:=by have gr:=Ao w g m' i' e' c';have F:=h.own.yN gr h.yM;exact⟨JL h.yM,h.yL,⟨O.yN gr h.yM,F.swp,F.low,F.pgs,ha⟩⟩
end
def ZI (lo:Nat) (v:Value) (w:World) (S:List (List Int)):Prop:=∃vs,At lo w v vs S
def Kn (lo:Nat) (v:Value) (w:World) (S:List (List Int)) (x:Int):Prop:=∃u,v= .tuple #[u, .int .i64 x, .bool true]/\ZI lo u w S
theorem ZI.below {lo:Nat} {v:Value} {w w':World} {S:List (List Int)} (h:ZI lo v w S) (hb:Below w.heap.size w w'):ZI lo v w' S:=by obtain⟨vs,h⟩:=h;exact⟨vs,h.below hb⟩
theorem Kn.below {lo:Nat} {v:Value} {w w':World} {S:List (List Int)} {x:Int} (h:Kn lo v w S x) (hb:Below w.heap.size w w'):Kn lo v w' S x:=by obtain⟨u,h1,h2⟩:=h;exact⟨u,h1,h2.below hb⟩
def U6 (lo:Nat) (w:World) (l q:Value) (Q:AR) (r:Ending) (w':World):Prop:=(∃m i e c s,r= .returned (AQ m i e c s l q Q.zT Q.zW)/\Ez lo w' m i e c s l q Q)/\Below lo w w'/\Ei w w'
theorem Vj {lo:Nat} {w:World} {mv iv ev cv sv lv qv:Value} {P:AR} (h:Ez lo w mv iv ev cv sv lv qv P) (bd:lo<=w.heap.size) (hP:EC P) {n:Nat} (hn:n<16) (hw:(AB P.No n).w=1):
 Calls prog 60 #[AQ mv iv ev cv sv lv qv P.zT P.zW, .int .i64 n] w (U6 lo w lv qv (EF P n)):=by
 have fQ:=hP.zJ hn hw;have hv:=(hP.zI hn hw).2.1;have cc:=hP.slot hn (by rw[hw];decide);obtain⟨f,hf⟩:∃f:Nat,(AB P.No n).a=(f:Int):=⟨(AB P.No n).a.toNat,by omega⟩
 obtain⟨sl,cd⟩:∃sl:Nat,BW P.swap=(sl:Int):=⟨(BW P.swap).toNat,by have:=cc.1;omega⟩
 have bB:sl<16:=by have:=cc.2.1;omega
 have dz:f<12:=by have:=fQ.1;omega
 obtain⟨ta,ha⟩:∃a,a=n/4:=⟨_,rfl⟩
 obtain⟨tb,hb⟩:∃b,b=n%4:=⟨_,rfl⟩
 have q1:(n:Int)/4=(ta:Int):=by omega
 have q2:(n:Int)%4=(tb:Int):=by omega
 have eT:ta<4:=by omega
 have eV:DI (Ad P.zX (Ag 6 (BG P.low ta) (tb:Int) 0)).1:=Ft hP.k;have hQ:EF P n= {P with zX:=(Ad (Ad P.zX (Ag 6 (BG P.low ta) (tb:Int) 0)).1 (Ag 2 (f:Int) 0 0)).1,swap:=P.swap.set sl (AH P.zX.mem f),No:=P.No.set n ⟨2,(sl:Int),false⟩}:=by unfold EF II;rw[hf,cd,<-ha,<-hb,xY,xY]
 rw[hQ];have CM:=fun m i e c W (hR:MM W m i e c P.zX)=>FL hR hP.k 6 (BG P.low ta) (tb:Int) 0 (by decide)
 generalize Ad P.zX (Ag 6 (BG P.low ta) (tb:Int) 0)=res1 at CM eV ⊢;obtain⟨ba,bK,n1⟩:=res1;dsimp only at CM eV ⊢;have C4:=fun m i e c W (hR:MM W m i e c ba)=>FL hR eV 2 (f:Int) 0 0 (by decide)
 generalize Ad ba (Ag 2 (f:Int) 0 0)=res2 at C4 ⊢;obtain⟨cE,cK,n2⟩:=res2;unfold J9 at CM C4;dsimp only at CM C4 ⊢;generalize(n1==0)=br1 at CM;replace CM:=AA CM;replace C4:=AA C4;unfold AQ U6 AQ;obtain⟨⟨_,⟨ia,iN,ic,rfl⟩,⟨ea,en,ec,rfl⟩,⟨ka,kn,kc,rfl⟩⟩,⟨sa,sn,sc,rfl⟩,_⟩:=h.zS;obtain⟨gq,qc,e3,_,_,dq,fO,_⟩:=h.pgs.zO (by rw[hP.zQ];omega);rw[hP.zQ] at e3;obtain⟨lb,lc,e2,cp,DL⟩:=JQ h.low (j:=ta) (by rw[hP.zv];exact eT);rw[hP.zv] at e2;obtain⟨vs,o1⟩:=h.ker.1;have cX:P.zX.mem.length=12:=hP.meml;have bZ:vs.length=12:=by rw[o1.2.1.1];exact cX
 obtain⟨gm,cm,e1,hD,_,_,dx,_⟩:=o1.1.zO (by omega);have fI:(AH P.zX.mem f).length=4:=hP.rowl dz;obtain⟨gw,cw,hu,bY,_,_⟩:=o1.row (f:=f) (by omega) (by omega);have DR:=AP.zB D8 (e1▸o1.1) hu 0 _ rfl;rw[bZ] at e1;rw[fI] at hu bY DR;rw[Nat.mul_one,xQ] at DR;subst e1 e2 e3;obtain⟨N0,N1,a2,bC⟩:=Jp w (.cells #[.slice (some ⟨gm,0,none⟩) 12 cm, .slice ia iN ic, .slice ea en ec, .slice ka kn kc, .slice sa sn sc, .slice (some ⟨lb,0,none⟩) 4 lc, .slice (some ⟨gq,0,none⟩) 16 qc, .int .i64 P.zT, .int .i64 P.zW] 32) (.cells #[.slice none 0 0, .slice none 0 0, .slice none 0 0, .slice none 0 0, .slice none 0 0, .slice none 0 0, .slice none 0 0, .int .i64 0, .int .i64 0] 32);have ax:=(⟨N0,bd,h.below a2⟩:Gg lo w.heap.size _ _ _ _ _ _ _ _ P);replace DR:=(a2.cell (p:=⟨gm,f,none⟩) dx).trans DR;replace DL:=(a2.cell (p:=⟨lb,ta,none⟩) cp).trans DL;replace cp:=xZ cp a2.size;replace dx:=xZ dx a2.size;replace bY:=AG.below bY a2;have fT:=AG.rd bY;have fU:=ax.own.swp.choose_spec.rd;have fV:=ax.own.ker.rd;have a1:Ey P.swap=true:=F7.2 ⟨hP.zF,hP.zx⟩;have fG:Dh (AH P.zX.mem f)=true:=(Ah.1 hP.k.mem).2 f dz;obtain⟨_,_,p1,_⟩:True/\True/\_/\True:=⟨trivial,trivial,(ax.pg (n:=n) (by rw[hP.zQ];exact hn)).2.2.2.1,trivial⟩;rw[hf] at p1;obtain⟨k0,k1,k2,k3,k4,k5,k6,_,_⟩:=ax.cells;have ga:=AA bC;have dQ:=AA N1;have HI:=AA ax;have gb:=AA bd;have dc:=AA (a2.mono bd);have cB:=AA ((Ei.refl w).below a2);have HP:=AA hP;have HK:=AA hP.k;have ig:=AA fV;replace DL:_=some (yf .i64 (BG P.low ta)):=DL;generalize BG P.low ta=la at*;have CS:=AA (fun W (hW:Below _ _ W)=>TQ (.slice sa sn sc) (.slice (some ⟨gw,0,none⟩) 4 cw) P.swap (AH P.zX.mem f) W (fU.below hW) a1 (fT.below hW) fG cd bB);have ed:(n:Int)<16:=by omega
 have iJ:(f:Int)<12:=by omega
 have hI:(ta:Int)<4:=by omega
 have av:=AA (yD bd a2.size);have cN:=AA (show n<P.No.length by rw[hP.zQ];exact hn);have db:=AA hP.zQ;clear h bd hP hw fQ hv cc hf cd hQ ax N0 N1 a2 bC o1 hu bY fI cX bZ fT fU fV a1 fG hD ha hb;go_in;go_wp2_with fail;generalize(w.alloc _).alloc _=W0 at*;generalize hg:w.heap.size=g at*;have Hg:=AA hg;have a5:=AY HI.out.yM;clear hg;refine BS 15 64 [.p g 4, .v (.slice sa sn sc), .p g 0, .p g 0, .s gm 12 cm, .i ((f:Int)), .p gm f, .s gw 4 cw, .z, .z, .z, .i ((sl:Int)), .b true, .z, .i ((sl:Int))] (fun ix vv ww=>match ix with
  |8|9=>Kn W0.heap.size vv ww (P.swap.set sl (AH P.zX.mem f)) (sl:Int)
  |10|13=>ZI W0.heap.size vv ww (P.swap.set sl (AH P.zX.mem f))
  |_=>True) ?_ ?_ ?_
 .intro i hi o ho a wx Hb Hd hG K HK
  have ar:=bc hG a5 k4;have an:=bc hG a5 k0;have ao:=bc hG dx DR
  match i,hi with
  |0,_|2,_|3,_|5,_|14,_=>exact sP ho HK Hb Hd
  |1,_|4,_=>exact sL ho HK Hb Hd (hl:=GM ‹_›)
  |6,_=>exact sI ho HK Hb Hd (hr:=by clear Hd Hb HK;go_simp)
  |7,_=>exact sL ho HK Hb Hd (hl:=Jx ‹_›)
  |8,_=>exact sC ho HK Hb Hd (CS.out _ hG) (by rintro r w_ ⟨⟨v',gp,rfl,hO⟩,cz⟩;exact⟨_,rfl,⟨v',rfl,gp,hO.lower hG.size⟩,cz⟩)
  |9,_=>clear ar an ao;obtain rfl:=yH ho;have d8:Kn W0.heap.size (a.tmps[27]?.getD undef) wx (P.swap.set sl (AH P.zX.mem f)) (sl:Int):=BT Hd 8;clear Hd Hb;refine yG ?_;go_simp;exact HK.out _ _ d8 (yF _ _)
  |10,_=>clear ar an ao;obtain rfl:=yH ho;have d9:Kn W0.heap.size (a.tmps[18]?.getD undef) wx (P.swap.set sl (AH P.zX.mem f)) (sl:Int):=BT Hd 9;clear Hd Hb;obtain⟨v',d9,hO⟩:=d9;refine yG ?_;go_simp;exact HK.out _ _ hO (yF _ _)
  |11,_|12,_=>clear ar an ao;obtain rfl:=yH ho;have d9:Kn W0.heap.size (a.tmps[18]?.getD undef) wx (P.swap.set sl (AH P.zX.mem f)) (sl:Int):=BT Hd 9;clear Hd Hb;obtain⟨v',d9,hO⟩:=d9;refine yG ?_;go_simp;exact HK.out _ _ rfl (yF _ _)
  |13,_=>clear ar an ao;obtain rfl:=yH ho;have dH:ZI W0.heap.size (a.tmps[28]?.getD undef) wx (P.swap.set sl (AH P.zX.mem f)):=BT Hd 10;clear Hd Hb;refine yG ?_;go_simp;exact HK.out _ _ dH (yF _ _)
  |_+15,hq=>omega
 .intro i hi vv wz cT bf hz
  match i,hi with
  |8,_|9,_=>exact(Kn.below hz bf)
  |10,_|13,_=>exact(ZI.below hz bf)
  |0,_|1,_|2,_|3,_|4,_|5,_|6,_|7,_|11,_|12,_|14,_=>exact hz
  |_+15,hq=>omega
 .intro vs wx hR hG
  have fC:(vs 12)= .bool true:=BZ hR 12;have di:ZI W0.heap.size (vs 13) wx (P.swap.set sl (AH P.zX.mem f)):=BZ hR 13;have cD:(vs 14)= .int .i64 sl:=BZ hR 14;clear hR;simp only[Al,AV,yE,yB,yA,yy,fC,cD];simp;generalize vs 13=go at di ⊢;clear fC cD;obtain⟨cU,hO⟩:=di;obtain⟨ua,un,uc,rfl⟩:∃a n c,go= .slice a n c:=by obtain⟨_,_,rfl,_,_⟩:=hO.1.rd.shape;exact⟨_,_,_,rfl⟩
  obtain⟨W1,rfl⟩:∃W1,W1=wx:=⟨_,rfl⟩
  have HO:=AA hO;have bp:=AA (HI.out.below hG);have cJ:=AA (dc.out.trans (hG.mono av.out));have HN:=AA (AC dQ.out hG);have HT:=AA (cB.out.below hG);have dt:=xZ cp hG.size;replace DL:=(hG.cell (p:=⟨lb,ta,none⟩) cp).trans DL;have gl:=CM.out;clear CM;have CM:=AA (fun W (hW:Below W1.heap.size W1 W)=>gl _ _ _ _ W ((ig.out.below hG).below hW));clear gl;have cp:=dt;have dJ:=AA hG.size;clear hO hG k0 k1 k2 k3 k4 k5 k6 p1 DR dx dt CS;obtain⟨k0,k1,k2,k3,k4,k5,k6,_,_⟩:=bp.out.cells;have dy:=AY bp.out.yM;go_wp2_with fail;refine Dz 19 64 (fun ix=>ix==16) [.p g 0, .a #[.slice (some ⟨gm,0,none⟩) 12 cm, .slice ia iN ic, .slice ea en ec, .slice ka kn kc], .p g 5, .s lb 4 lc, .i ((n:Int)), .i ((ta:Int)), .p lb ta, .i la, .i ((n:Int)), .i ((tb:Int)), .z, .z, .z, .i bK, .b br1, .z, .z, .i bK, .b br1] (fun ll ix vv ww=>match ix with
   |10|11=>Ed W1.heap.size vv ww ba bK br1
   |12=>GU W1.heap.size vv ww ba
   |15=>JG W1.heap.size (ll 16) vv ww ba
   |_=>True) (fun ll ww=>Below W1.heap.size W1 ww) ?_ ?_ ?_ ?_ ?_ ?_
  .exact A9 (yF _ _) 1
  .intro j hj ll i vv wz cT hi hS dC fW bf hz
   match j,hj with
   |10,_|11,_=>exact(Ed.below hz bf)
   |12,_=>exact(GU.below hz bf)
   |15,_=>exact(JG.below (by rw[F9 (by rintro rfl;cases hS)];exact hz) bf)
   |0,_|1,_|2,_|3,_|4,_|5,_|6,_|7,_|8,_|9,_|13,_|14,_|16,_|17,_|18,_=>exact hz
   |_+19,hq=>omega
  .intro ll i wz cT hi hS dC bf hg
   exact hg.trans (bf.mono hg.size)
  .intro i hi hS o ho a wx Hb ll Hd HL hG K HK
   have ar:=bc hG dy k0;have an:=bc hG dy k1;have ao:=bc hG dy k2;have ay:=bc hG dy k3;have a0:=bc hG dy k5;have a9:=bc hG cp DL
   match i,hi,hS with
   |0,_,_|2,_,_|4,_,_|8,_,_|17,_,_|18,_,_=>exact WR ho HK Hb Hd HL
   |1,_,_=>exact NU ho HK Hb Hd HL (hl:=NZ ‹_› ‹_› ‹_› ‹_›)
   |3,_,_=>exact NU ho HK Hb Hd HL (hl:=Jx ‹_›)
   |7,_,_=>exact NU ho HK Hb Hd HL (hl:=Fo ‹_›)
   |10,_,_=>exact bR ho HK Hb Hd HL (CM.out _ hG) (by rintro r w_ ⟨m',i',e',c',rfl,hO,cz⟩;exact⟨_,rfl,⟨m',i',e',c',rfl,hO.lower hG.size⟩,cz⟩)
   |16,_,hs=>cases hs
   |5,_,_=>clear ar an ao ay a0 a9;obtain rfl:=yH ho;have d4:(a.tmps[36]?.getD undef)= .int .i64 n:=DT Hd HL 4;have bj:=Ba HL 16;clear Hd Hb;refine yG ?_;go_simp;exact HK.out _ _ (by show yf .i64 (wR.wrap (ta:Int))= .int .i64 ta;rw[xy _ (by omega)]) (yF _ _)
   |6,_,_=>clear ar an ao ay a0 a9;obtain rfl:=yH ho;have d3:(a.tmps[35]?.getD undef)= .slice (some ⟨lb,0,none⟩) 4 lc:=DT Hd HL 3;have d5:(a.tmps[37]?.getD undef)= .int .i64 ta:=DT Hd HL 5;have bj:=Ba HL 16;clear Hd Hb;refine yG ?_;go_simp;exact HK.out _ _ rfl (yF _ _)
   |9,_,_=>clear ar an ao ay a0 a9;obtain rfl:=yH ho;have d8:(a.tmps[40]?.getD undef)= .int .i64 n:=DT Hd HL 8;have bj:=Ba HL 16;clear Hd Hb;refine yG ?_;go_simp;exact HK.out _ _ (by show yf .i64 (Int.tmod (n:Int) 4)= .int .i64 tb;rw[wK (by omega)];exact congrArg _ q2) (yF _ _)
   |11,_,_=>clear ar an ao ay a0 a9;obtain rfl:=yH ho;have dH:Ed W1.heap.size (a.tmps[42]?.getD undef) wx ba bK br1:=DT Hd HL 10;have bj:=Ba HL 16;clear Hd Hb;refine yG ?_;go_simp;exact HK.out _ _ dH (yF _ _)
   |12,_,_=>clear ar an ao ay a0 a9;obtain rfl:=yH ho;have cA:Ed W1.heap.size (a.tmps[31]?.getD undef) wx ba bK br1:=DT Hd HL 11;have bj:=Ba HL 16;clear Hd Hb;obtain⟨m',i',e',c',cA,hO⟩:=cA;refine yG ?_;go_simp;exact HK.out _ _ ⟨_,_,_,_,rfl,hO⟩ (yF _ _)
   |13,_,_|14,_,_=>clear ar an ao ay a0 a9;obtain rfl:=yH ho;have cA:Ed W1.heap.size (a.tmps[31]?.getD undef) wx ba bK br1:=DT Hd HL 11;clear Hd Hb;obtain⟨m',i',e',c',cA,hO⟩:=cA;refine yG ?_;go_simp;exact HK.out _ _ rfl (yF _ _)
   |15,_,_=>clear ar an ao ay a0 a9;obtain rfl:=yH ho;have bj:=Ba HL 16;clear Hd Hb;refine yG ?_;go_simp;exact HK.out _ _ ⟨_,rfl,hG.size,by rw[F9 (by decide),bj];exact yw _ _⟩ (AD _ _)
   |_+19,hq,_=>omega
  .intro i hi hS o ho a wx Hb ll Hd HL hG K HK
   match i,hi,hS with
   |0,_,hs|1,_,hs|2,_,hs|3,_,hs|4,_,hs|5,_,hs|6,_,hs|7,_,hs|8,_,hs|9,_,hs|10,_,hs|11,_,hs|12,_,hs|13,_,hs|14,_,hs|15,_,hs|17,_,hs|18,_,hs=>cases hs
   |16,_,_=>
    obtain rfl:=yH ho;have hY:JG W1.heap.size (ll 16) (a.tmps[9]?.getD undef) wx ba:=DT Hd HL 15;have bx:GU W1.heap.size (a.tmps[43]?.getD undef) wx ba:=DT Hd HL 12;clear Hd Hb;obtain⟨qb,hV,eK,a7⟩:=hY;rw[HL.out.1] at a7;replace a7:wx.heap[qb]? =some (.cells #[.slice none 0 0, .slice none 0 0, .slice none 0 0, .slice none 0 0] 28 (0,0)):=a7;obtain⟨m',i',e',c',bx,hO⟩:=bx;obtain⟨⟨va,vn,vc,rfl⟩,⟨wa,wn,wc,rfl⟩,⟨xa,xn,xc,rfl⟩,⟨ya,yn,yc,rfl⟩⟩:=hO.zS;obtain⟨c0,ei,c2,c3⟩:=AF a7;have fq:=AK a7;have cs:=AA (Ao wx qb (.slice va vn vc) (.slice wa wn wc) (.slice xa xn xc) (.slice ya yn yc));have io:=AA hV;have Hq:=AA a7;have HO:=AA hO;clear a7 hO;refine yG ?_;go_simp;exact HK.out undef _ trivial (AM hG cs.out eK hG.size) (fun j dw dv eM hu=>match j,dv with
     |0,_|1,_|2,_|3,_|4,_|5,_|6,_|7,_|8,_|9,_|13,_|14,_|16,_|17,_|18,_=>hu
     |10,_|11,_=>Ed.yN hu cs.out Hq.out
     |12,_=>GU.yN hu cs.out Hq.out
     |15,_=>⟨qb,io.out,eK,by rw[Ge];exact⟨_,_,_,_,Cs Hq.out,HO.out.yN cs.out Hq.out⟩⟩
     |_+19,hq=>absurd hq (by omega))
   |_+19,hq,_=>omega
  .intro vs wx ll bh hR hG
   have dh:JG W1.heap.size (ll 16) (vs 15) wx ba:=BZ hR 15;clear hR;simp only[Dc,Bq,yE,yB,yA,yy];simp;generalize vs 15=z15 at dh ⊢;obtain⟨qb,rfl,eK,a7⟩:=dh;rw[bh 16 (by decide),if_pos rfl] at a7;obtain⟨m',i',e',c',bD,eU⟩:=a7;clear bh k0 k1 k2 k3 k4 k5 k6 DL;obtain⟨⟨va,vn,vc,rfl⟩,⟨wa,wn,wc,rfl⟩,⟨xa,xn,xc,rfl⟩,⟨ya,yn,yc,rfl⟩⟩:=eU.zS;obtain⟨c0,ei,c2,c3⟩:=AF bD;have C4:=AA (C4.out _ _ _ _ _ eU.rd);have HG:=AA hG;have h5:=AA bD;clear hG bD eU;go_wp2_with fail;refine C4.out.mono ?_;rintro r w5 ⟨m2,i2,e2,iR,rfl,O2,b5⟩;obtain⟨⟨dX,dU,ao,rfl⟩,⟨eG,eI,eE,rfl⟩,⟨e5,eW,eY,rfl⟩,⟨eC,ey,eA,rfl⟩⟩:=O2.zS;clear C4 c0 ei c2 c3;have Q5:=AC h5.out b5;have fq:=AK Q5;obtain⟨z0,z1,z2,z3⟩:=AF Q5;have G6:=Ao w5 qb (.slice dX dU ao) (.slice eG eI eE) (.slice e5 eW eY) (.slice eC ey eA);have I6:=((bp.out.below HG.out).below b5).kfar Q5 G6;have N5:=AC (AC HN.out HG.out) b5;have N6:=Ap N5 G6 (Bo Q5 N5);have K6:=O2.yN G6 Q5;have S6:=((HO.out.below HG.out).below b5).yN G6 Q5;have l5:lo<=w5.heap.size:=yD av.out (yD dJ.out (yD HG.out.size b5.size));have B6:=AM ((cJ.out.trans (HG.out.mono (yD av.out dJ.out))).trans (b5.mono (yD av.out (yD dJ.out HG.out.size)))) G6 (by have:=av.out;have:=dJ.out;omega) l5;have Q6:=Cs (m':= .slice dX dU ao) (i':= .slice eG eI eE) (e':= .slice e5 eW eY) (c':= .slice eC ey eA) Q5;have l6:=yD l5 G6.size;have T6:=((HT.out.below HG.out).below b5).other G6 Q5 (by decide);have f6:Fa (.slice dX dU ao) (.slice ua un uc):=fun j h1 h2=>by obtain⟨us,r1⟩:=O2.1;have e1:=(yr r1.1 j h1).1;have e2:=(yr HO.out.1 j h2).2;have e3:=HG.out.size;omega
   have f5:Fa (.slice (some ⟨gm,0,none⟩) 12 cm) (.slice ua un uc):=fun j h1 h2=>by obtain⟨us,r1⟩:=HI.out.own.ker.1;have e1:=(yr r1.1 j h1).2;have e2:=(yr HO.out.1 j h2).1;omega
   generalize hW6:(((w5.setCell _ _).setCell _ _).setCell _ _).setCell _ _=W6 at G6 I6 N6 K6 S6 B6 Q6 l6 T6;have I7:=I6.putSw (S6.lower av.out) f5;have G7:=Aq W6 g 4 (.slice ua un uc);have K7:=K6.yN G7 I6.yM;have N7:=Ap N6 G7 (by omega);have Q7:=Ap Q6 G7 (Bo I6.yM Q6);have B7:=AM B6 G7 I6.yL l6;have l7:=yD l6 G7.size;have T7:=T6.fresh G7 (by have:=Hg.out;omega);obtain⟨_,_,_,_,a4,_⟩:=I6.cells;have fa:=AK I6.yM;generalize hW7:W6.setCell _ _=W7 at G7 I7 K7 N7 Q7 B7 l7 T7;have I8:=I7.putK (K7.lower (yD av.out (yD dJ.out HG.out.size))) f6;have G8:=Ao W7 g (.slice dX dU ao) (.slice eG eI eE) (.slice e5 eW eY) (.slice eC ey eA);have N8:=Ap N7 G8 (by omega);have B8:=AM B7 G8 I7.yL l7;have l8:=yD l7 G8.size;have T8:=T7.fresh G8 (by have:=Hg.out;omega);obtain⟨d0,d1,d2,d3⟩:=AF Q7;obtain⟨t0,t1,t2,t3,_⟩:=I7.cells;have ft:=AK I7.yM;generalize hW8:(((W7.setCell _ _).setCell _ _).setCell _ _).setCell _ _=W8 at I8 G8 N8 B8 l8 T8;obtain⟨_,_,_,_,_,_,s6,_,_⟩:=I8.cells;obtain⟨g6,f8,p0,p1,p2⟩:=I8.pg (n:=n) cN.out;have I9:=I8.zr (n:=n) db.out.symm cN.out ⟨2,(sl:Int),false⟩;have N9:=Ap N8 I9.2.1 (by obtain⟨cu,bu⟩:=A6 I8.own.pgs gq rfl;exact(Bo bu N8));have B9:=AM B8 I9.2.1 I9.2.2 l8;have l9:=yD l8 I9.2.1.size;obtain⟨fb,bt⟩:=A6 I8.own.pgs gq rfl;have T9:=T8.other I9.2.1 bt (by decide);have I9:=I9.1;generalize hW9:((W8.setCell _ _).setCell _ _).setCell _ _=W9 at I9 N9 B9 l9 T9;have fm:=AA T9;have fd:=AA (DD N9 I9.own);obtain⟨x0,x1,x2,x3,x4,x5,x6,x7,x8⟩:=I9.cells;obtain⟨r0,r1,r2,r3,r4,r5,r6,r7,r8⟩:=AE N9;have fr:=AK N9;have fu:=AA B9;have fh:=AA l9;clear T6 T7 T8 T9 I6 N5 N6 K6 S6 B6 Q6 l6 I7 K7 N7 Q7 B7 l7 I8 N8 B8 l8 I9 N9 B9 l9 f6 f5 O2 b5 Q5 G6 G7 G8 l5;go_wp2_with fail;obtain⟨da,c9,bV⟩:=fd.out;have df:=AM fu.out bV (by have:=HI.out.yL;omega) fh.out;have cZ:=fm.out.fresh bV (by have:=Hg.out;omega);unfold Er at da c9 df cZ;exact yp (v:= .agg #[_,_,_,_,_,_,_,_,_]) (by simp[results,Tryz.results60,go_sem,AE da]) rfl ⟨⟨_,_,_,_,_,rfl,c9⟩,df,cZ⟩
structure Uz (lo g qk:Nat) (w:World) (m i e c s l q:Value) (P:AR) (mk ik ek ck:Value) (kc:AN):Prop where
 box:w.heap[g]? =some (.cells #[m,i,e,c,s,l,q, .int .i64 P.zT, .int .i64 P.zW] 32 (0,0))
 res:w.heap[g+1]? =some (.cells #[.slice none 0 0, .slice none 0 0, .slice none 0 0, .slice none 0 0, .slice none 0 0, .slice none 0 0, .slice none 0 0, .int .i64 0, .int .i64 0] 32 (0,0))
 kb:w.heap[qk]? =some (.cells #[mk,ik,ek,ck] 28 (0,0))
 own:Ez lo w mk ik ek ck s l q {P with zX:=kc}
 yL:lo<=g/\lo<=qk/\lo<=w.heap.size
section
variable {lo g qk:Nat} {w w1:World} {m i e c s l q mk ik ek ck:Value} {P:AR} {kc:AN}
theorem Uz.below (h:Uz lo g qk w m i e c s l q P mk ik ek ck kc) (hb:Below w.heap.size w w1):Uz lo g qk w1 m i e c s l q P mk ik ek ck kc:=
 ⟨AC h.box hb,AC h.res hb,AC h.kb hb,h.own.below hb,h.yL.1,h.yL.2.1,yD h.yL.2.2 hb.size⟩
theorem Uz.put {m' i' e' c':Value} {k':AN} (h:Uz lo g qk w m i e c s l q P mk ik ek ck kc) (hb:Below w.heap.size w w1) (O:DO w.heap.size w1 m' i' e' c' k'):Uz lo g qk (Es w1 qk m' i' e' c') m i e c s l q P m' i' e' c' k':=by
 have h':=h.below hb;have gr:=Ao w1 qk m' i' e' c';have F:=h'.own.yN gr h'.kb;refine⟨Ap h'.box gr (Bo h'.kb h'.box),Ap h'.res gr (Bo h'.kb h'.res),Cs h'.kb,⟨(O.yN gr h'.kb).lower h.yL.2.2,F.swp,F.low,F.pgs,fun j h1 h2=>?_⟩,h.yL.1,h.yL.2.1,yD h'.yL.2.2 gr.size⟩;obtain⟨us,r1⟩:=O.1;obtain⟨vs,r2⟩:=h.own.swp;have e1:=(yr r1.1 j h1).1;have e2:=(yr r2.1 j h2).2;omega
theorem Uz.swap {gs eh sl:Nat} {v':Value} {r:List Int} (h:Uz lo g qk w m i e c (.slice (some ⟨gs,0,none⟩) 16 eh) l q P mk ik ek ck kc) (hl:P.swap.length=16) (hb:Below w.heap.size w w1) (hO:AG w.heap.size w1 v' r) (hs:sl<16):
 Uz lo g qk (w1.setCell ⟨gs,sl,none⟩ v') m i e c (.slice (some ⟨gs,0,none⟩) 16 eh) l q {P with swap:=P.swap.set sl r} mk ik ek ck kc/\w1.grownBy (w1.setCell ⟨gs,sl,none⟩ v') (some gs)/\lo<=gs:=by
 obtain⟨vs,a1⟩:=h.own.swp;replace a1:At lo w (.slice (some ⟨gs,0,none⟩) 16 eh) vs P.swap:=a1;have bZ:vs.length=16:=by rw[a1.2.1.1];exact hl
 have R:=a1.set (B:=w.heap.size) (j:=sl) (r:=r) (v':=v') hb hO (Nat.le_refl _) h.yL.2.2 bZ.symm (by omega);have h':=h.below hb;obtain⟨cu,bu⟩:=A6 (a1.below hb).1 gs rfl;obtain⟨B,hglo,⟨⟨⟨ms,k1,k2,k3⟩,k4,⟨ps,k5,k6,k7⟩,k8⟩,⟨us,hs'⟩,hlw,hp,dB⟩⟩:True/\lo<=g/\Ez lo w1 mk ik ek ck (.slice (some ⟨gs,0,none⟩) 16 eh) l q {P with zX:=kc}:=⟨trivial,h'.yL.1,h'.own⟩;have hg:=R.2;refine⟨⟨Ap h'.box hg (Bo bu h'.box),Ap h'.res hg (Bo bu h'.res),Ap h'.kb hg (Bo bu h'.kb),⟨⟨⟨ms,Au k1 hg dB.ne,k2.mono fun _ _ x=>Au x hg (A7 x hs'.1 (by decide)).ne,k3⟩,Au k4 hg (A7 k4 hs'.1 (by decide)).ne,⟨ps,Au k5 hg (A7 k5 hs'.1 (by decide)).ne,k6.mono fun _ _ x=>⟨Au x.1 hg (A7 x.1 hs'.1 (by decide)).ne,x.2⟩,k7⟩,Au k8 hg (A7 k8 hs'.1 (by decide)).ne⟩,⟨_,R.1⟩,Au hlw hg (A7 hlw hs'.1 (by decide)).ne,Au hp hg (A7 hp hs'.1 (by decide)).ne,dB⟩,h.yL.1,h.yL.2.1,yD h'.yL.2.2 hg.size⟩,hg,(yr a1.1 gs rfl).1⟩
theorem Uz.back (h:Uz lo g qk w m i e c s l q P mk ik ek ck kc):Gg lo g (Es w g mk ik ek ck) mk ik ek ck s l q {P with zX:=kc}/\(Es w g mk ik ek ck).heap[g+1]? =some (.cells #[.slice none 0 0, .slice none 0 0, .slice none 0 0, .slice none 0 0, .slice none 0 0, .slice none 0 0, .slice none 0 0, .int .i64 0, .int .i64 0] 32 (0,0))/\w.grownBy (Es w g mk ik ek ck) (some g):=by have gr:=Ao w g mk ik ek ck;exact⟨⟨JL h.box,h.yL.1,h.own.yN gr h.box⟩,Ap h.res gr (by omega),gr⟩
end
def Ti (lo:Nat) (w:World) (s l q:Value) (Q:AR) (r:Ending) (w':World):Prop:=(∃m i e c,r= .returned (.tuple #[AQ m i e c s l q Q.zT Q.zW, .bool true])/\Ez lo w' m i e c s l q Q)/\Below lo w w'/\Ei w w'
theorem YW {lo:Nat} {w W:World} {m i e c s l q:Value} {Q Q':AR} (h:Q=Q') (O:Ez lo W m i e c s l q Q') (B:Below lo w W) (T:Ei w W):Ti lo w s l q Q (.returned (.tuple #[AQ m i e c s l q Q'.zT Q'.zW, .bool true])) W:=by subst h;exact⟨⟨_,_,_,_,rfl,O⟩,B,T⟩
theorem XM {lo:Nat} {w:World} {mv iv ev cv sv lv qv:Value} {P:AR} (h:Ez lo w mv iv ev cv sv lv qv P) (bd:lo<=w.heap.size) (hP:EC P) {n:Nat} (hn:n<16) (hw:(AB P.No n).w≠1) (ch:0<=Am P.zX.Os):
 Calls prog 61 #[AQ mv iv ev cv sv lv qv P.zT P.zW, .int .i64 n] w (Ti lo w sv lv qv (OR P n).1):=by
 obtain⟨k1,fr,cj,ef,fM⟩:∃k1 fr,Ad P.zX (Ag 1 0 0 0)=(k1,fr,0)/\(0<=fr/\fr<=11)/\DI k1:=by obtain⟨g1,_,_⟩:=FO (Os:=P.zX.Os) (by omega);rw[hP.k.len] at g1;have hk:=Ft (kind:=1) (a:=0) (b:=0) (c:=0) hP.k;have e:=Lm (k:=P.zX) hP.may ch (a:=0) (b:=0) (c:=0);rw[e] at hk;exact⟨_,_,e,⟨ch,by omega⟩,hk⟩
 have fX:=VZ (n:=n) cj;generalize bg:(OR P n).1=QQ_;obtain⟨ta,ha⟩:∃a,a=n/4:=⟨_,rfl⟩
 obtain⟨tb,hb⟩:∃b,b=n%4:=⟨_,rfl⟩
 obtain⟨la,hla⟩:∃la,la=BG P.low ta:=⟨_,rfl⟩
 have q1:(n:Int)/4=(ta:Int):=by omega
 have q2:(n:Int)%4=(tb:Int):=by omega
 have eT:ta<4:=by omega
 have hI:(ta:Int)<4:=by omega
 have ed:(n:Int)<16:=by omega
 rw[fX] at bg;unfold II at bg;rw[<-ha,<-hb,<-hla] at bg;replace bg:=bg.symm;generalize hpx:AB P.No n=x at bg hw;obtain⟨pw,pa,pu⟩:=x;dsimp only at bg hw;unfold Ti AQ;obtain⟨N0,N1,a2,bC⟩:=Jp w (.cells #[mv,iv,ev,cv,sv,lv,qv, .int .i64 P.zT, .int .i64 P.zW] 32) (.cells #[.slice none 0 0, .slice none 0 0, .slice none 0 0, .slice none 0 0, .slice none 0 0, .slice none 0 0, .slice none 0 0, .int .i64 0, .int .i64 0] 32);have ax:=(⟨N0,bd,h.below a2⟩:Gg lo w.heap.size _ mv iv ev cv sv lv qv P);obtain⟨⟨⟨ma,mn,mc,rfl⟩,⟨ia,iN,ic,rfl⟩,⟨ea,en,ec,rfl⟩,⟨ka,kn,kc,rfl⟩⟩,_,⟨dl,dk,lc,rfl⟩,_⟩:=h.zS;obtain⟨cU,a1⟩:=h.swp;have bZ:cU.length=16:=by rw[a1.2.1.1];exact hP.zF
 obtain⟨gs,sc,e1,_,_,_,_,_⟩:=a1.1.zO (by omega);rw[bZ] at e1;subst e1;obtain⟨gq,qc,rfl,cW,dq,fO,gD,_⟩:=ax.page (n:=0) (by rw[hP.zQ];omega);rw[hP.zQ] at h ax N0 N1 a2 bC cW ⊢;have C1:=FL ax.own.ker.rd hP.k 1 0 0 0 (by decide);unfold J9 at C1;rw[cj] at C1;dsimp only at C1;rw[show((0:Int)==0)=true from rfl] at C1;obtain⟨k0,gR,k2,k3,_⟩:=ax.cells;have ga:=AA bC;have dQ:=AA N1;have HI:=AA ax;have gb:=AA bd;have av:=AA (yD bd a2.size);have dc:=AA (a2.mono bd);have cB:=AA ((Ei.refl w).below a2);have HP:=AA hP;have fj:=AA ef;have fs:=AA fM;have cN:=AA (show n<P.No.length by rw[hP.zQ];exact hn);have db:=AA hP.zQ;have dO:=AA hP.zv;have h8:=AA hla.symm;have ej:=AA hpx;have ep:=AA bg;have im:=AA C1;clear h bd hP ef fM hla hpx bg ax N0 N1 a2 bC a1 bZ C1 cj fX cW ha hb ch;go_in;go_wp2_with fail;generalize(w.alloc _).alloc _=W0 at*;generalize hg:w.heap.size=g at*;have Hg:=AA hg;clear hg;refine im.out.mono ?_;rintro r w1 ⟨m1,i1,e1,c1,rfl,O1,b1⟩;obtain⟨⟨dY,dW,an,rfl⟩,⟨eH,eJ,eF,rfl⟩,⟨e7,eX,eZ,rfl⟩,⟨eD,ez,eB,rfl⟩⟩:=O1.zS;have I1:=HI.out.below b1;have bA:=AD w1 (.cells #[.slice dY dW an, .slice eH eJ eF, .slice e7 eX eZ, .slice eD ez eB] 28);have I2:=I1.below bA;obtain⟨_,_,_,_,_,_,x6,_,_⟩:=I2.cells;obtain⟨a7,f2,p0,p1,p2⟩:=I2.pg (n:=n) cN.out;rw[ej.out] at p0 p1 p2;dsimp only at p0 p1 p2;obtain⟨NA,NB,fc,_⟩:=Jp w1 (.cells #[.slice dY dW an, .slice eH eJ eF, .slice e7 eX eZ, .slice eD ez eB] 28) (.cells #[.int .i64 pw, .int .i64 pa, .bool pu] 40);have cC:=b1.trans (fc.mono b1.size);have dB:Fa (.slice dY dW an) (.slice (some ⟨gs,0,none⟩) 16 sc):=fun j h1 h2=>by obtain⟨us,r1⟩:=O1.1;obtain⟨vs,r2⟩:=HI.out.own.swp;have e1:=(yr r1.1 j h1).1;have e2:=(yr r2.1 j h2).2;omega
 have I4:=AA (⟨AC HI.out.yM cC,AC dQ.out cC,NA,⟨(O1.below fc).lower av.out,⟨_,HI.out.own.swp.choose_spec.below cC⟩,AG.below HI.out.own.low cC,AP.below HI.out.own.pgs cC,dB⟩,HI.out.yL,yD av.out b1.size,yD av.out cC.size⟩:Uz lo g w1.heap.size _ _ _ _ _ _ _ _ P _ _ _ _ k1);have er:=AA (dc.out.trans (cC.mono av.out));have el:=AA (cB.out.below cC);have eq:=AA NB;clear I1 bA I2 NA NB fc cC dB O1 b1 k0 gR k2 k3;go_wp2_with fail;generalize(w1.alloc _).alloc _=W3 at*;generalize w1.heap.size=qk at*;obtain⟨qx,dZ⟩:∃qx,qx=qk+1:=⟨_,rfl⟩
 rw[<-dZ] at eq ⊢;clear dZ x6 p0 p1 p2 f2 a7;obtain⟨mk,ik,ek,ck,I4⟩:∃mk ik ek ck,Hid (Uz lo g qk W3 (.slice ma mn mc) (.slice ia iN ic) (.slice ea en ec) (.slice ka kn kc) (.slice (some ⟨gs,0,none⟩) 16 sc) (.slice dl dk lc) (.slice (some ⟨gq,0,none⟩) 16 qc) P mk ik ek ck k1):=⟨_,_,_,_,I4⟩
 by_cases dn:pw=2
 focus
  subst dn;have bg:=ep.out;rw[if_pos rfl,if_pos rfl] at bg;obtain⟨sl,cd,bB,hrow⟩:∃sl:Nat,pa=(sl:Int)/\sl<16/\Dh (AH P.swap sl)=true:=by
   rcases HP.out.No n (by have:=cN.out;have:=db.out;omega) with⟨x,_⟩|⟨x,_⟩|⟨x1,x2,x3,x4,x5⟩
   .rw[ej.out] at x;exact absurd x (show ¬(2:Int)=0 by decide)
   .rw[ej.out] at x;exact absurd x (show ¬(2:Int)=1 by decide)
   .rw[ej.out] at x2 x3
    refine⟨pa.toNat,by have:=x2.1;simp only at this;omega,by have:=x2.2;simp only at this;omega,?_⟩
    rcases HP.out.zx pa.toNat (by have:=x2.2;simp only at this;omega) with x|x
    .exact absurd x x3
    .exact x
  subst cd;rw[xY] at bg;have HQ:=AA bg;have bW:=AA (A5.1 hrow);have g2:(sl:Int)<16:=by omega
  clear bg ep hrow;go_loopw [10] (fun ix wr=>∃j:Nat,j<=4/\ix= .int .i64 j/\(∃mk ik ek ck,Uz lo g qk wr (.slice ma mn mc) (.slice ia iN ic) (.slice ea en ec) (.slice ka kn kc) (.slice (some ⟨gs,0,none⟩) 16 sc) (.slice dl dk lc) (.slice (some ⟨gq,0,none⟩) 16 qc) P mk ik ek ck (GR k1 fr (AH P.swap sl) j))/\wr.heap[qx]? =some (.cells #[.int .i64 2, .int .i64 sl, .bool pu] 40 (0,0))/\Below lo w wr/\Ei w wr) (fun ix _=>4 - (intOf ix).toNat)
  case atStart=>exact⟨0,by omega,rfl,⟨_,_,_,_,I4.out⟩,eq.out,er.out,el.out⟩
  case' round=>
   clear I4 eq er el;obtain⟨j,hj,rfl,⟨mk,ik,ek,ck,I5⟩,cV,B5,T5⟩:=hrel;obtain⟨⟨⟨ua,un,uc,rfl⟩,⟨va,vn,vc,rfl⟩,⟨ya,yn,yc,rfl⟩,⟨za,zn,zc,rfl⟩⟩,_,_⟩:=I5.own.zS;obtain⟨cU,a1⟩:=I5.own.swp;replace a1:At lo wr (.slice (some ⟨gs,0,none⟩) 16 sc) cU P.swap:=a1;have bZ:cU.length=16:=by rw[a1.2.1.1];exact HP.out.zF
   obtain⟨gr,rc,hu,bY,_,_⟩:=a1.row (f:=sl) (by rw[HP.out.zF];exact bB) (by rw[bW.out.1];decide);rw[bW.out.1] at hu bY;have DS:=AP.zB D8 (by rw[bZ];exact a1.1) hu 0 _ rfl;rw[Nat.mul_one,xQ] at DS;obtain⟨_,_,_,_,x4,_⟩:=AE I5.box;obtain⟨dT,ew,_⟩:=Fs cV;have dS:=AA I5;have fe:=AA cV;have fw:=AA B5;have gf:=AA T5;clear T5
   by_cases bs:j<4
   .have dw:(j:Int)<4:=by omega
    have DW:wr.cell? ⟨gr,j,none⟩=some (.int .i64 ((AH P.swap sl).getD j 0)):=by have:=World.ownsRow.cellAt (show wr.ownsRow lo 3 1 (.slice (some ⟨gr,0,none⟩) 4 rc) 4 ((AH P.swap sl).map (yf .i64)) by have:=bY;unfold AG at this;rwa [bW.out.1] at this) j bs;rw[this,List.getElem?_map,A1 (d:=0) (by rw[bW.out.1];exact bs)];rfl
    have fE:(AH P.swap sl).getD j 0<=9223372036854775807:=by have:=(bW.out.2 _ (DG (d:=0) (show j<(AH P.swap sl).length by rw[bW.out.1];exact bs))).2;omega
    have fg:=AA (KR (k:=k1) (f:=fr) (ws:=AH P.swap sl) (j:=j));have RK:=I5.own.ker.rd;have CM:=fun W (hW:Below wr.heap.size wr W)=>FL (RK.below hW) (KQ fs.out (f:=fr) (ws:=AH P.swap sl) j) 3 fr (j:Int) ((AH P.swap sl).getD j 0) fE
    have ng:g≠qk:=Bo I5.box I5.kb;have nx:qx≠qk:=Bo cV I5.kb;have ns:gs≠qk:=by obtain⟨cu,bu⟩:=A6 a1.1 gs rfl;exact Bo bu I5.kb
    have nr:gr≠qk:=by obtain⟨cu,bu⟩:=A6 bY gr rfl;exact Bo bu I5.kb
    have eP:=AY I5.box;have dZ:=AY cV;have eN:=(yr a1.1 gs rfl).2;have eO:=(yr bY gr rfl).2;have bD:=I5.kb;have cf:=AY bD;obtain⟨n0,n1,n2,n3⟩:=AF bD;generalize(AH P.swap sl).getD j 0=wd at*;generalize Ad (GR k1 fr (AH P.swap sl) j) (Ag 3 fr (j:Int) wd)=res1 at CM fg;obtain⟨ba,bK,gF⟩:=res1;unfold J9 at CM;dsimp only at CM fg;generalize(gF==0)=br1 at CM;replace CM:=AA CM;clear RK fE a1 hu bY bZ I5 cV B5 hj;go_wp2_with fail;refine Dz 18 86 (fun ix=>ix==17) [.a #[.slice ua un uc, .slice va vn vc, .slice ya yn yc, .slice za zn zc], .i fr, .i ((j:Int)), .p g 4, .s gs 16 sc, .p qx 1, .i ((sl:Int)), .p gs sl, .s gr 4 rc, .i ((j:Int)), .p gr j, .i wd, .z, .z, .z, .i bK, .b br1, .z] (fun ll ix vv ww=>match ix with
     |12|13=>Ed wr.heap.size vv ww ba bK br1
     |14=>GU wr.heap.size vv ww ba
     |_=>True) (fun ll ww=>GB wr (qk) ba (ll 17) ww) ?_ ?_ ?_ ?_ ?_ ?_
    .exact A9 (yF _ _) 1
    .intro j hj ll i vv wz cT hi hS dC fW bf hz
     match j,hj with
     |12,_|13,_=>exact(Ed.below hz bf)
     |14,_=>exact(GU.below hz bf)
     |0,_|1,_|2,_|3,_|4,_|5,_|6,_|7,_|8,_|9,_|10,_|11,_|15,_|16,_|17,_=>exact hz
     |_+18,hq=>omega
    .intro ll i wz cT hi hS dC bf hg
     show GB _ _ _ (F8 ll i 17) _
     rw[F9 (by rintro rfl;cases hS)];exact GB.grow hg bf
    .intro i hi hS o ho a wx Hb ll Hd HL hG K HK
     match i,hi,hS with
     |0,_,_=>have ct:=Ba HL 17;have ar:=(show wx.cell? ⟨qk,0,none⟩=some (.slice ua un uc) from GB.cell hG (by cases hx:ll 17 with|false=>rfl|true=>exact absurd (HL.out.2.2 12 0 (HL.out.2.2 13 12 (HL.out.2.2 14 13 (HL.out.2.2 17 14 (hx) (by kernel_rfl)) (by kernel_rfl)) (by kernel_rfl)) (by kernel_rfl)) (by rw[HL.out.1];decide)) cf n0);have an:=(show wx.cell? ⟨qk,1,none⟩=some (.slice va vn vc) from GB.cell hG (by cases hx:ll 17 with|false=>rfl|true=>exact absurd (HL.out.2.2 12 0 (HL.out.2.2 13 12 (HL.out.2.2 14 13 (HL.out.2.2 17 14 (hx) (by kernel_rfl)) (by kernel_rfl)) (by kernel_rfl)) (by kernel_rfl)) (by rw[HL.out.1];decide)) cf n1);have ao:=(show wx.cell? ⟨qk,2,none⟩=some (.slice ya yn yc) from GB.cell hG (by cases hx:ll 17 with|false=>rfl|true=>exact absurd (HL.out.2.2 12 0 (HL.out.2.2 13 12 (HL.out.2.2 14 13 (HL.out.2.2 17 14 (hx) (by kernel_rfl)) (by kernel_rfl)) (by kernel_rfl)) (by kernel_rfl)) (by rw[HL.out.1];decide)) cf n2);have ay:=(show wx.cell? ⟨qk,3,none⟩=some (.slice za zn zc) from GB.cell hG (by cases hx:ll 17 with|false=>rfl|true=>exact absurd (HL.out.2.2 12 0 (HL.out.2.2 13 12 (HL.out.2.2 14 13 (HL.out.2.2 17 14 (hx) (by kernel_rfl)) (by kernel_rfl)) (by kernel_rfl)) (by kernel_rfl)) (by rw[HL.out.1];decide)) cf n3);exact NU ho HK Hb Hd HL (hl:=NZ ‹_› ‹_› ‹_› ‹_›)
     |1,_,_|2,_,_|3,_,_|5,_,_|9,_,_=>exact WR ho HK Hb Hd HL
     |4,_,_=>have ct:=Ba HL 17;have a0:=(show wx.cell? ⟨g,4,none⟩=some (.slice (some ⟨gs,0,none⟩) 16 sc) from GB.other hG eP ng x4);exact NU ho HK Hb Hd HL (hl:=GM ‹_›)
     |6,_,_=>have ct:=Ba HL 17;have a9:=(show wx.cell? ⟨qx,1,none⟩=some (.int .i64 sl) from GB.other hG dZ nx ew);exact NU ho HK Hb Hd HL (hl:=Fo ‹_›)
     |8,_,_=>have ct:=Ba HL 17;have dj:=(show wx.cell? ⟨gs,sl,none⟩=some (.slice (some ⟨gr,0,none⟩) 4 rc) from GB.other hG eN ns DS);exact NU ho HK Hb Hd HL (hl:=Jx ‹_›)
     |11,_,_=>have ct:=Ba HL 17;have ex:=(show wx.cell? ⟨gr,j,none⟩=some (.int .i64 wd) from GB.other hG eO nr DW);exact NU ho HK Hb Hd HL (hl:=Fo ‹_›)
     |17,_,hs=>cases hs
     |7,_,_=>obtain rfl:=yH ho;have d4:(a.tmps[40]?.getD undef)= .slice (some ⟨gs,0,none⟩) 16 sc:=DT Hd HL 4;have d6:(a.tmps[42]?.getD undef)= .int .i64 sl:=DT Hd HL 6;have ct:=Ba HL 17;clear Hd Hb;refine yG ?_;go_simp;exact HK.out _ _ rfl (yF _ _)
     |10,_,_=>obtain rfl:=yH ho;have d8:(a.tmps[44]?.getD undef)= .slice (some ⟨gr,0,none⟩) 4 rc:=DT Hd HL 8;have d9:(a.tmps[45]?.getD undef)= .int .i64 j:=DT Hd HL 9;have ct:=Ba HL 17;clear Hd Hb;refine yG ?_;go_simp;exact HK.out _ _ rfl (yF _ _)
     |12,_,_=>
      obtain rfl:=yH ho;have d0:(a.tmps[36]?.getD undef)= .agg #[.slice ua un uc, .slice va vn vc, .slice ya yn yc, .slice za zn zc]:=DT Hd HL 0;have d1:(a.tmps[37]?.getD undef)= .int .i64 fr:=DT Hd HL 1;have d2:(a.tmps[38]?.getD undef)= .int .i64 j:=DT Hd HL 2;have cA:(a.tmps[47]?.getD undef)= .int .i64 wd:=DT Hd HL 11;have ct:=Ba HL 17;clear Hd Hb;refine yG ?_;go_simp;have dD:Below wr.heap.size wr wx:=by
       rw[show ll 17=false from(by cases hx:ll 17 with|false=>rfl|true=>exact absurd (HL.out.2.2 13 12 (HL.out.2.2 14 13 (HL.out.2.2 17 14 (hx) (by kernel_rfl)) (by kernel_rfl)) (by kernel_rfl)) (by rw[HL.out.1];decide))] at hG;exact hG
      refine(CM.out _ dD).mono ?_;rintro r w_ ⟨m',i',e',c',rfl,hO,cz⟩;exact HK.out _ _ ⟨m',i',e',c',rfl,hO.lower dD.size⟩ cz
     |13,_,_=>obtain rfl:=yH ho;have bx:Ed wr.heap.size (a.tmps[48]?.getD undef) wx ba bK br1:=DT Hd HL 12;have ct:=Ba HL 17;clear Hd Hb;refine yG ?_;go_simp;exact HK.out _ _ bx (yF _ _)
     |14,_,_=>obtain rfl:=yH ho;have cH:Ed wr.heap.size (a.tmps[35]?.getD undef) wx ba bK br1:=DT Hd HL 13;have ct:=Ba HL 17;clear Hd Hb;obtain⟨m',i',e',c',cH,hO⟩:=cH;refine yG ?_;go_simp;exact HK.out _ _ ⟨_,_,_,_,rfl,hO⟩ (yF _ _)
     |15,_,_|16,_,_=>obtain rfl:=yH ho;have cH:Ed wr.heap.size (a.tmps[35]?.getD undef) wx ba bK br1:=DT Hd HL 13;clear Hd Hb;obtain⟨m',i',e',c',cH,hO⟩:=cH;refine yG ?_;go_simp;exact HK.out _ _ rfl (yF _ _)
     |_+18,hq,_=>omega
    .intro i hi hS o ho a wx Hb ll Hd HL hG K HK
     match i,hi,hS with
     |0,_,hs|1,_,hs|2,_,hs|3,_,hs|4,_,hs|5,_,hs|6,_,hs|7,_,hs|8,_,hs|9,_,hs|10,_,hs|11,_,hs|12,_,hs|13,_,hs|14,_,hs|15,_,hs|16,_,hs=>cases hs
     |17,_,_=>
      obtain rfl:=yH ho;have e6:a.tmps[6]?.getD undef= .pointer (some ⟨qk,0,none⟩):=eg (OV Hb 6);have cY:GU wr.heap.size (a.tmps[49]?.getD undef) wx ba:=DT Hd HL 14;clear Hd Hb;rw[HL.out.1] at hG;replace hG:Below wr.heap.size wr wx:=hG;obtain⟨m',i',e',c',cY,hO⟩:=cY;obtain⟨⟨va,vn,vc,rfl⟩,⟨wa,wn,wc,rfl⟩,⟨xa,xn,xc,rfl⟩,⟨ya,yn,yc,rfl⟩⟩:=hO.zS;have a7:=AC bD hG;obtain⟨c0,ei,c2,c3⟩:=AF a7;have fq:=AK a7;have cs:=AA (Ao wx (qk) (.slice va vn vc) (.slice wa wn wc) (.slice xa xn xc) (.slice ya yn yc));have Hq:=AA a7;have HO:=AA hO;clear a7 hO;refine yG ?_;go_simp;exact HK.out undef _ trivial (by show GB _ _ _ (F8 ll 17 17) _;rw[Ge];exact⟨wx,_,_,_,_,hG,HO.out,yF _ _⟩) (fun j dw dv eM hu=>match j,dv with
       |0,_|1,_|2,_|3,_|4,_|5,_|6,_|7,_|8,_|9,_|10,_|11,_|15,_|16,_=>hu
       |12,_|13,_=>Ed.yN hu cs.out Hq.out
       |14,_=>GU.yN hu cs.out Hq.out
       |17,_=>absurd rfl dw
       |_+18,hq=>absurd hq (by omega))
     |_+18,hq,_=>omega
    .intro vs wx ll bh hR hG
     have dh:(vs 15)= .int .i64 bK:=BZ hR 15;clear hR;simp only[Dc,Bq,yE,yB,yA,yy,dh];simp;clear dh;rw[bh 17 (by decide)] at hG;obtain⟨wz,m3,i3,e3,c3,bk,hO,dm⟩:=hG;have a8:Below (Es wz qk m3 i3 e3 c3).heap.size (Es wz qk m3 i3 e3 c3) wx:=by simpa[Es] using dm
     have I7:=AA ((dS.out.put bk hO).below a8);have l6:=dS.out.yL.2.2;have B7:=AA (fw.out.trans ((AM (bk.mono l6) (Ao wz qk m3 i3 e3 c3) dS.out.yL.2.1 (yD l6 bk.size):Below lo wr _).trans (a8.mono (yD l6 (yD bk.size (Ao wz qk m3 i3 e3 c3).size)))));have X7:=AA (AC (Ap (AC fe.out bk) (Ao wz qk m3 i3 e3 c3) nx.symm) a8);have T7:=AA (((gf.out.below bk).other (Ao wz qk m3 i3 e3 c3) (AC bD bk) (by decide)).below a8);clear bh bk dm a8 hO bD cf n0 n1 n2 n3 CM dS fe fw x4 dT ew DS DW;go_wp2_with fail;go_roundw
     case rel=>exact⟨j+1,by omega,by go_num,⟨_,_,_,_,by rw[fg.out];exact I7.out⟩,X7.out,B7.out,T7.out⟩
     case measure=>simp[intOf];omega
   obtain rfl:j=4:=by omega
   rw[show((4:Nat):Int)=4 from rfl];have X:=I5.swap (r:=[]) HP.out.zF (AD wr (.cells #[] 3)) (FF wr) bB;have I6:=AA X.1;have B6:=AA (AM (B5.trans ((AD wr (.cells #[] 3)).mono I5.yL.2.2)) X.2.1 X.2.2 (yD I5.yL.2.2 (AD wr (.cells #[] 3)).size));have gj:=AA (KQ fs.out (f:=fr) (ws:=AH P.swap sl) 4);have D4:=((AD wr (.cells #[] 3)).cell (yC _ _ DS)).trans DS;have F4:=World.ownsRow.frozenAt (show(wr.alloc (.cells #[] 3)).ownsRow lo 29 1 (.slice (some ⟨gs,0,none⟩) 16 sc) 16 cU by have:=(a1.below (AD wr (.cells #[] 3))).1;unfold AP at this;rwa [Ga,bZ] at this) sl;obtain⟨fb,bt⟩:=A6 (a1.below (AD wr (.cells #[] 3))).1 gs rfl;have T6:=AA ((gf.out.below (AD wr (.cells #[] 3))).other X.2.1 bt (by decide));generalize hW6:World.setCell _ _ _=W6 at I6 B6 T6;clear X a1 hu bY bZ I5 cV B5 hj dS fe fw;go_wp2_with fail;clear D4 F4 DS x4 dT ew hW6;have hQ:QQ_= {P with zX:=(Ad (GR k1 fr (AH P.swap sl) 4) (Ag 6 la (tb:Int) (Gv fr))).1,swap:=P.swap.set sl [],No:=P.No.set n ⟨1,fr,true⟩}:=HQ.out;clear HQ;obtain⟨mk,ik,ek,ck,I6⟩:∃mk ik ek ck,Hid (Uz lo g qk W6 (.slice ma mn mc) (.slice ia iN ic) (.slice ea en ec) (.slice ka kn kc) (.slice (some ⟨gs,0,none⟩) 16 sc) (.slice dl dk lc) (.slice (some ⟨gq,0,none⟩) 16 qc) ⟨P.zX,P.swap.set sl [],P.low,P.No,P.zT,P.zW⟩ mk ik ek ck (GR k1 fr (AH P.swap sl) 4)):=⟨_,_,_,_,I6⟩
   generalize GR k1 fr (AH P.swap sl) 4=K2 at*;generalize P.swap.set sl []=S2 at*
 rotate_left
 focus
  have bg:=ep.out;rw[if_neg dn,if_neg dn] at bg;have t2:(pw==2)=false:=by simp[dn]
  have HQ:=AA bg;have gj:=fs;have I6:=I4;have B6:=er;have T6:=el;obtain⟨dT,_,_⟩:=Fs eq.out;clear bg ep dn I4 er el;refine wp_loop_rounds 1 ?_;rw[rounds_succ];go_wp2_with fail;obtain⟨W6,rfl⟩:∃W6,W6=W3:=⟨_,rfl⟩
  clear dT;have hQ:QQ_= {P with zX:=(Ad (k1) (Ag 6 la (tb:Int) (Gv fr))).1,swap:=P.swap,No:=P.No.set n ⟨1,fr,true⟩}:=HQ.out;clear HQ;obtain⟨mk,ik,ek,ck,I6⟩:∃mk ik ek ck,Hid (Uz lo g qk W6 (.slice ma mn mc) (.slice ia iN ic) (.slice ea en ec) (.slice ka kn kc) (.slice (some ⟨gs,0,none⟩) 16 sc) (.slice dl dk lc) (.slice (some ⟨gq,0,none⟩) 16 qc) ⟨P.zX,P.swap,P.low,P.No,P.zT,P.zW⟩ mk ik ek ck (k1)):=⟨_,_,_,_,I6⟩
  obtain⟨K2,rfl⟩:∃K2,K2=k1:=⟨_,rfl⟩
  generalize P.swap=S2 at hQ I6
 all_goals
  obtain⟨⟨⟨ua,un,uc,rfl⟩,⟨va,vn,vc,rfl⟩,⟨ya,yn,yc,rfl⟩,⟨za,zn,zc,rfl⟩⟩,_,_⟩:=I6.out.own.zS;obtain⟨lb,gK,dE,cp,DL⟩:=JQ I6.out.own.low (j:=ta) (by show ta<P.low.length;rw[dO.out];exact eT);replace dE:Value.slice dl dk lc= .slice (some ⟨lb,0,none⟩) P.low.length gK:=dE;rw[dO.out] at dE;simp only[Value.slice.injEq] at dE;obtain⟨rfl,rfl,rfl⟩:=dE;replace DL:W6.cell? ⟨lb,ta,none⟩=some (.int .i64 (BG P.low ta)):=DL;rw[h8.out] at DL;have nl:lb≠qk:=by obtain⟨cu,bu⟩:=A6 I6.out.own.low lb rfl;exact Bo bu I6.out.kb
  have ng:g≠qk:=Bo I6.out.box I6.out.kb;have eP:=AY I6.out.box;have bD:=I6.out.kb;have cf:=AY bD;obtain⟨n0,n1,n2,n3⟩:=AF bD;obtain⟨_,_,_,_,_,x5,_,_,_⟩:=AE I6.out.box;have he:Gv fr<=9223372036854775807:=by have:=fj.out;unfold Gv;omega
  have CP:=AA (fun W=>Lc fr W fj.out.1 fj.out.2);have RK:MM W6 _ _ _ _ (K2):=I6.out.own.ker.rd;have CM:=fun W (hW:Below W6.heap.size W6 W)=>FL (RK.below hW) gj.out 6 la (tb:Int) (Gv fr) he
  generalize Gv fr=en_ at he CP CM hQ;generalize Ad (K2) (Ag 6 la (tb:Int) en_)=res2 at CM hQ;obtain⟨cE,cK,gE⟩:=res2;unfold J9 at CM;dsimp only at CM hQ;have HQ:=AA hQ;clear hQ;generalize(gE==0)=br2 at CM;replace CM:=AA CM;clear RK he;go_wp2_with fail;refine Dz 17 86 (fun ix=>ix==16) [.a #[.slice ua un uc, .slice va vn vc, .slice ya yn yc, .slice za zn zc], .p g 5, .s lb 4 lc, .i ((n:Int)), .i ((ta:Int)), .p lb ta, .i la, .i ((n:Int)), .i ((tb:Int)), .i fr, .i en_, .z, .z, .z, .i cK, .b br2, .z] (fun ll ix vv ww=>match ix with
   |11|12=>Ed W6.heap.size vv ww cE cK br2
   |13=>GU W6.heap.size vv ww cE
   |_=>True) (fun ll ww=>GB W6 (qk) cE (ll 16) ww) ?_ ?_ ?_ ?_ ?_ ?_
  .exact A9 (yF _ _) 1
  .intro j hj ll i vv wz cT hi hS dC fW bf hz
   match j,hj with
   |11,_|12,_=>exact(Ed.below hz bf)
   |13,_=>exact(GU.below hz bf)
   |0,_|1,_|2,_|3,_|4,_|5,_|6,_|7,_|8,_|9,_|10,_|14,_|15,_|16,_=>exact hz
   |_+17,hq=>omega
  .intro ll i wz cT hi hS dC bf hg
   show GB _ _ _ (F8 ll i 16) _
   rw[F9 (by rintro rfl;cases hS)];exact GB.grow hg bf
  .intro i hi hS o ho a wx Hb ll Hd HL hG K HK
   match i,hi,hS with
   |0,_,_=>have bj:=Ba HL 16;have ar:=(show wx.cell? ⟨qk,0,none⟩=some (.slice ua un uc) from GB.cell hG (by cases hx:ll 16 with|false=>rfl|true=>exact absurd (HL.out.2.2 11 0 (HL.out.2.2 12 11 (HL.out.2.2 13 12 (HL.out.2.2 16 13 (hx) (by kernel_rfl)) (by kernel_rfl)) (by kernel_rfl)) (by kernel_rfl)) (by rw[HL.out.1];decide)) cf n0);have an:=(show wx.cell? ⟨qk,1,none⟩=some (.slice va vn vc) from GB.cell hG (by cases hx:ll 16 with|false=>rfl|true=>exact absurd (HL.out.2.2 11 0 (HL.out.2.2 12 11 (HL.out.2.2 13 12 (HL.out.2.2 16 13 (hx) (by kernel_rfl)) (by kernel_rfl)) (by kernel_rfl)) (by kernel_rfl)) (by rw[HL.out.1];decide)) cf n1);have ao:=(show wx.cell? ⟨qk,2,none⟩=some (.slice ya yn yc) from GB.cell hG (by cases hx:ll 16 with|false=>rfl|true=>exact absurd (HL.out.2.2 11 0 (HL.out.2.2 12 11 (HL.out.2.2 13 12 (HL.out.2.2 16 13 (hx) (by kernel_rfl)) (by kernel_rfl)) (by kernel_rfl)) (by kernel_rfl)) (by rw[HL.out.1];decide)) cf n2);have ay:=(show wx.cell? ⟨qk,3,none⟩=some (.slice za zn zc) from GB.cell hG (by cases hx:ll 16 with|false=>rfl|true=>exact absurd (HL.out.2.2 11 0 (HL.out.2.2 12 11 (HL.out.2.2 13 12 (HL.out.2.2 16 13 (hx) (by kernel_rfl)) (by kernel_rfl)) (by kernel_rfl)) (by kernel_rfl)) (by rw[HL.out.1];decide)) cf n3);exact NU ho HK Hb Hd HL (hl:=NZ ‹_› ‹_› ‹_› ‹_›)
   |1,_,_|3,_,_|7,_,_|9,_,_=>exact WR ho HK Hb Hd HL
   |2,_,_=>have bj:=Ba HL 16;have a0:=(show wx.cell? ⟨g,5,none⟩=some (.slice (some ⟨lb,0,none⟩) 4 lc) from GB.other hG eP ng x5);exact NU ho HK Hb Hd HL (hl:=Jx ‹_›)
   |6,_,_=>have bj:=Ba HL 16;have a9:=(show wx.cell? ⟨lb,ta,none⟩=some (.int .i64 la) from GB.other hG cp nl DL);exact NU ho HK Hb Hd HL (hl:=Fo ‹_›)
   |16,_,hs=>cases hs
   |4,_,_=>obtain rfl:=yH ho;have d3:(a.tmps[65]?.getD undef)= .int .i64 n:=DT Hd HL 3;have bj:=Ba HL 16;clear Hd Hb;refine yG ?_;go_simp;exact HK.out _ _ (by show yf .i64 (wR.wrap (ta:Int))= .int .i64 ta;rw[xy _ (by omega)]) (yF _ _)
   |5,_,_=>obtain rfl:=yH ho;have d2:(a.tmps[64]?.getD undef)= .slice (some ⟨lb,0,none⟩) 4 lc:=DT Hd HL 2;have d4:(a.tmps[66]?.getD undef)= .int .i64 ta:=DT Hd HL 4;have bj:=Ba HL 16;clear Hd Hb;refine yG ?_;go_simp;exact HK.out _ _ rfl (yF _ _)
   |8,_,_=>obtain rfl:=yH ho;have d7:(a.tmps[69]?.getD undef)= .int .i64 n:=DT Hd HL 7;have bj:=Ba HL 16;clear Hd Hb;refine yG ?_;go_simp;exact HK.out _ _ (by show yf .i64 (Int.tmod (n:Int) 4)= .int .i64 tb;rw[wK (by omega)];exact congrArg _ q2) (yF _ _)
   |10,_,_=>obtain rfl:=yH ho;have d9:(a.tmps[71]?.getD undef)= .int .i64 fr:=DT Hd HL 9;have bj:=Ba HL 16;clear Hd Hb;refine yG ?_;go_simp;refine(CP.out _).mono ?_;rintro r w_ ⟨rfl,cz⟩;exact HK.out _ _ rfl cz
   |11,_,_=>
    obtain rfl:=yH ho;have d0:(a.tmps[62]?.getD undef)= .agg #[.slice ua un uc, .slice va vn vc, .slice ya yn yc, .slice za zn zc]:=DT Hd HL 0;have d6:(a.tmps[68]?.getD undef)= .int .i64 la:=DT Hd HL 6;have d8:(a.tmps[70]?.getD undef)= .int .i64 tb:=DT Hd HL 8;have dH:(a.tmps[72]?.getD undef)= .int .i64 en_:=DT Hd HL 10;have bj:=Ba HL 16;clear Hd Hb;refine yG ?_;go_simp;have dD:Below W6.heap.size W6 wx:=by
     rw[show ll 16=false from(by cases hx:ll 16 with|false=>rfl|true=>exact absurd (HL.out.2.2 12 11 (HL.out.2.2 13 12 (HL.out.2.2 16 13 (hx) (by kernel_rfl)) (by kernel_rfl)) (by kernel_rfl)) (by rw[HL.out.1];decide))] at hG;exact hG
    refine(CM.out _ dD).mono ?_;rintro r w_ ⟨m',i',e',c',rfl,hO,cz⟩;exact HK.out _ _ ⟨m',i',e',c',rfl,hO.lower dD.size⟩ cz
   |12,_,_=>obtain rfl:=yH ho;have cA:Ed W6.heap.size (a.tmps[73]?.getD undef) wx cE cK br2:=DT Hd HL 11;have bj:=Ba HL 16;clear Hd Hb;refine yG ?_;go_simp;exact HK.out _ _ cA (yF _ _)
   |13,_,_=>obtain rfl:=yH ho;have bx:Ed W6.heap.size (a.tmps[61]?.getD undef) wx cE cK br2:=DT Hd HL 12;have bj:=Ba HL 16;clear Hd Hb;obtain⟨m',i',e',c',bx,hO⟩:=bx;refine yG ?_;go_simp;exact HK.out _ _ ⟨_,_,_,_,rfl,hO⟩ (yF _ _)
   |14,_,_|15,_,_=>obtain rfl:=yH ho;have bx:Ed W6.heap.size (a.tmps[61]?.getD undef) wx cE cK br2:=DT Hd HL 12;clear Hd Hb;obtain⟨m',i',e',c',bx,hO⟩:=bx;refine yG ?_;go_simp;exact HK.out _ _ rfl (yF _ _)
   |_+17,hq,_=>omega
  .intro i hi hS o ho a wx Hb ll Hd HL hG K HK
   match i,hi,hS with
   |0,_,hs|1,_,hs|2,_,hs|3,_,hs|4,_,hs|5,_,hs|6,_,hs|7,_,hs|8,_,hs|9,_,hs|10,_,hs|11,_,hs|12,_,hs|13,_,hs|14,_,hs|15,_,hs=>cases hs
   |16,_,_=>
    obtain rfl:=yH ho;have e6:a.tmps[6]?.getD undef= .pointer (some ⟨qk,0,none⟩):=eg (OV Hb 6);have cH:GU W6.heap.size (a.tmps[74]?.getD undef) wx cE:=DT Hd HL 13;clear Hd Hb;rw[HL.out.1] at hG;replace hG:Below W6.heap.size W6 wx:=hG;obtain⟨m',i',e',c',cH,hO⟩:=cH;obtain⟨⟨va,vn,vc,rfl⟩,⟨wa,wn,wc,rfl⟩,⟨xa,xn,xc,rfl⟩,⟨ya,yn,yc,rfl⟩⟩:=hO.zS;have a7:=AC bD hG;obtain⟨c0,ei,c2,c3⟩:=AF a7;have fq:=AK a7;have cs:=AA (Ao wx (qk) (.slice va vn vc) (.slice wa wn wc) (.slice xa xn xc) (.slice ya yn yc));have Hq:=AA a7;have HO:=AA hO;clear a7 hO;refine yG ?_;go_simp;exact HK.out undef _ trivial (by show GB _ _ _ (F8 ll 16 16) _;rw[Ge];exact⟨wx,_,_,_,_,hG,HO.out,yF _ _⟩) (fun j dw dv eM hu=>match j,dv with
     |0,_|1,_|2,_|3,_|4,_|5,_|6,_|7,_|8,_|9,_|10,_|14,_|15,_=>hu
     |11,_|12,_=>Ed.yN hu cs.out Hq.out
     |13,_=>GU.yN hu cs.out Hq.out
     |16,_=>absurd rfl dw
     |_+17,hq=>absurd hq (by omega))
   |_+17,hq,_=>omega
  .intro vs wx ll bh hR hG
   have cD:(vs 14)= .int .i64 cK:=BZ hR 14;clear hR;simp only[Dc,Bq,yE,yB,yA,yy,cD];simp;clear cD;rw[bh 16 (by decide)] at hG;obtain⟨wz,m3,i3,e3,c3,bk,hO,dm⟩:=hG;have a8:Below (Es wz qk m3 i3 e3 c3).heap.size (Es wz qk m3 i3 e3 c3) wx:=by simpa[Es] using dm
   have I7:=(I6.out.put bk hO).below a8;have l6:=I6.out.yL.2.2;have B7:=B6.out.trans ((AM (bk.mono l6) (Ao wz qk m3 i3 e3 c3) I6.out.yL.2.1 (yD l6 bk.size):Below lo W6 _).trans (a8.mono (yD l6 (yD bk.size (Ao wz qk m3 i3 e3 c3).size))));have T7:=((T6.out.below bk).other (Ao wz qk m3 i3 e3 c3) (AC I6.out.kb bk) (by decide)).below a8;obtain⟨⟨⟨gJ,gH,ay,rfl⟩,⟨gV,gX,gT,rfl⟩,⟨hU,hL,hN,rfl⟩,⟨gQ,gM,gO,rfl⟩⟩,_,_⟩:=I7.own.zS;clear bh bk dm a8 hO bD cf n0 n1 n2 n3 CM CP x5 DL nl ng cp I6 B6;have X8:=I7.back;have B8:=AM B7 X8.2.2 I7.yL.1 I7.yL.2.2;have l8:=yD I7.yL.2.2 X8.2.2.size;have N8:=X8.2.1;have T8:=T7.fresh X8.2.2 (by have:=Hg.out;omega);have I8:=X8.1;obtain⟨d0,d1,d2,d3⟩:=AF I7.kb;obtain⟨t0,t1,t2,t3,_⟩:=AE I7.box;have ft:=AK I7.box;clear X8;unfold Es at I8 B8 N8 l8 T8;generalize hW8:(((wx.setCell _ _).setCell _ _).setCell _ _).setCell _ _=W8 at I8 N8 B8 l8 T8;obtain⟨_,_,_,_,_,_,s6,_,_⟩:=I8.cells;obtain⟨g6,f8,p0,p1,p2⟩:=I8.pg (n:=n) cN.out;have I9:=I8.zr (n:=n) db.out.symm cN.out ⟨1,fr,true⟩;have N9:=Ap N8 I9.2.1 (by obtain⟨cu,bu⟩:=A6 I8.own.pgs gq rfl;exact(Bo bu N8));have B9:=AM B8 I9.2.1 I9.2.2 l8;have l9:=yD l8 I9.2.1.size;obtain⟨fb,bt⟩:=A6 I8.own.pgs gq rfl;have T9:=T8.other I9.2.1 bt (by decide);have I9:=I9.1;generalize hW9:((W8.setCell _ _).setCell _ _).setCell _ _=W9 at I9 N9 B9 l9 T9;have fm:=AA T9;have fd:=AA (DD N9 I9.own);obtain⟨x0,x1,x2,x3,x4,x5,x6,x7,x8⟩:=I9.cells;obtain⟨r0,r1,r2,r3,r4,r5,r6,r7,r8⟩:=AE N9;have iM:=AK N9;have fu:=AA B9;have fh:=AA l9;have dP:=AA I9.yL;clear I7 I8 N8 B8 l8 I9 N9 B9 l9 B7 l6 T7 T8 T9 T6;obtain⟨da,c9,bV⟩:=fd.out;have df:=AM fu.out bV (by have:=dP.out;omega) fh.out;have cZ:=fm.out.fresh bV (by have:=Hg.out;omega);unfold Er at da c9 df cZ;have bo:=YW HQ.out c9 df cZ;unfold Ti AQ at bo;dsimp only at bo;have HR:=AA bo;have HE:=AA (AE da);clear da c9 bV df cZ bo;go_wp2_with ((try simp only[Exit.inBlock,Exit.then]);with_reducible refine yp (v:= .tuple #[.agg #[.slice gJ gH ay, .slice gV gX gT, .slice hU hL hN, .slice gQ gM gO, .slice (some ⟨gs,0,none⟩) 16 sc, .slice (some ⟨lb,0,none⟩) 4 lc, .slice (some ⟨gq,0,none⟩) 16 qc, .int .i64 P.zT, .int .i64 P.zW], .bool true]) ?_ rfl HR.out);obtain⟨E0,E1,E2,E3,E4,E5,E6,E7,E8⟩:=HE.out;simp[results,Tryz.results61,go_sem,E0,E1,E2,E3,E4,E5,E6,E7,E8]
theorem Zb {p:AR} (h:EC p):IS p=RO p:=by
 have:=h.count;unfold IS RO
 by_cases hx:Am p.zX.Os<0
 .simp[hx]
 .by_cases hy:(Ai p.No 1:Int)=p.zW
  .simp[hx,hy]
  .have:¬p.zW<=(Ai p.No 1:Int):=by omega
   simp[hx,hy,this]
theorem YV {p:AR} {n:Nat} (h:EC p) (hf:0<=Am p.zX.Os):(OR p n).2=true:=by rw[VZ (Lm (k:=p.zX) h.may hf (a:=0) (b:=0) (c:=0))]
def L9 (lo:Nat) (w:World) (m i e c s l q:Value) (P:AR) (t:AR×Bool) (r:Ending) (w':World):Prop:=
 (t.2=true->∃m i e c s l q,r= .returned (.tuple #[AQ m i e c s l q t.1.zT t.1.zW, .bool true])/\Ez lo w' m i e c s l q t.1)/\
 (t.2=false->r= .returned (.tuple #[AQ m i e c s l q P.zT P.zW, .bool false]))/\Below lo w w'/\Ei w w'
theorem QE {lo:Nat} {w W:World} {m i e c s l q m' i' e' c' s' l' q':Value} {P Q:AR} {t:AR×Bool} (ht:t=(Q,true)) (O:Ez lo W m' i' e' c' s' l' q' Q) (B:Below lo w W) (T:Ei w W):L9 lo w m i e c s l q P t (.returned (.tuple #[AQ m' i' e' c' s' l' q' Q.zT Q.zW, .bool true])) W:=
 ⟨fun _=>⟨m',i',e',c',s',l',q',by rw[ht],by rw[ht];exact O⟩,fun h=>(by rw[ht] at h;cases h),B,T⟩
theorem Xq {lo:Nat} {w W:World} {m i e c s l q:Value} {P Q:AR} {t:AR×Bool} (ht:t=(Q,false)) (B:Below lo w W) (T:Ei w W):L9 lo w m i e c s l q P t (.returned (.tuple #[AQ m i e c s l q P.zT P.zW, .bool false])) W:=
 ⟨fun h=>(by rw[ht] at h;cases h),fun _=>rfl,B,T⟩
theorem Sr {lo:Nat} {w:World} {mv iv ev cv sv lv qv:Value} {P:AR} (h:Ez lo w mv iv ev cv sv lv qv P) (bd:lo<=w.heap.size) (hP:EC P) {n:Nat} (hn:n<16):
 Calls prog 25 #[AQ mv iv ev cv sv lv qv P.zT P.zW, .int .i64 n] w (L9 lo w mv iv ev cv sv lv qv P (BI P n)):=by
 unfold AQ L9 AQ;obtain⟨N0,N1,a2,bC⟩:=Jp w (.cells #[mv,iv,ev,cv,sv,lv,qv, .int .i64 P.zT, .int .i64 P.zW] 32) (.cells #[.slice none 0 0, .slice none 0 0, .slice none 0 0, .slice none 0 0, .slice none 0 0, .slice none 0 0, .slice none 0 0, .int .i64 0, .int .i64 0] 32);have ax:=(⟨N0,bd,h.below a2⟩:Gg lo w.heap.size _ mv iv ev cv sv lv qv P);obtain⟨⟨⟨ma,mn,mc,rfl⟩,⟨ia,iN,ic,rfl⟩,⟨ea,en,ec,rfl⟩,⟨ka,kn,kc,rfl⟩⟩,⟨sa,sn,sc,rfl⟩,⟨la,ln,lc,rfl⟩,_⟩:=h.zS;obtain⟨gq,qc,rfl,cW,dq,fO,gD,_⟩:=ax.page (n:=0) (by rw[hP.zQ];omega);rw[hP.zQ] at h ax N0 N1 a2 bC cW ⊢;have ed:(n:Int)<16:=by omega
 obtain⟨_,_,_,_,_,_,x6,_,_⟩:=ax.cells;obtain⟨fJ,fq,p0,p1,p2⟩:=ax.pg (n:=n) (by rw[hP.zQ];exact hn);have hx:P.No[n]? =some (AB P.No n):=by unfold AB;exact A1 (by rw[hP.zQ];exact hn)
 have HP:=AA hP;have dc:=AA (a2.mono bd);have cB:=AA ((Ei.refl w).below a2);have gb:=AA bd;have av:=AA (yD bd a2.size);have dQ:=AA N1;have HI:=AA ax;have ge:=AA (fun hw=>Mt (n:=n) hP hw);have T1:=AA (QH (p:=P) (n:=n));have T2:=AA (fun hw=>QF (n:=n) hP hw);have T3:=AA (fun hw=>QG hP hn hw);have f7:=AA (fun m pg hd (h:aY P n m pg hd)=>h.is);generalize BI P n=t at ge T1 T2 f7 ⊢
 by_cases hw:(AB P.No n).w=1
 .have HT:=AA (ge.out hw)
  rw[hw] at p0;have cM:=ax.zq (n:=n) (x:=AB P.No n) (y:= {AB P.No n with u:=true}) (j:=2) (u:= .bool true) hP.zQ.symm hx (by decide) rfl;have N2:=Ap N1 cM.2.1 (by obtain⟨cu,bu⟩:=A6 ax.own.pgs gq rfl;exact(Bo bu N1));obtain⟨fb,bt⟩:=A6 ax.own.pgs gq rfl;have T2:=cB.out.other cM.2.1 bt (by decide);have B2:=AM dc.out cM.2.1 cM.2.2 av.out;have l2:=yD av.out cM.2.1.size;have I2:=cM.1;clear h hP bd hx hw ax N0 N1 a2 bC cW cM;go_in;go_upto_region 1 with fail;generalize(w.alloc _).alloc _=W0 at*;generalize hg:w.heap.size=g at*;have Hg:=AA hg;clear hg;generalize hW1:W0.setCell ⟨gq,n*3+2,none⟩ (.bool true)=W1 at I2 N2 T2 B2 l2;have S3:=AA (DD N2 I2.own);obtain⟨y0,y1,y2,y3,y4,y5,y6,y7,y8⟩:=I2.cells;obtain⟨z0,z1,z2,z3,z4,z5,z6,z7,z8⟩:=AE N2;have fz:=AK N2;have es:=AA B2;have ie:=AA T2;have ib:=AA l2;have dP:=AA I2.yL;clear I2 N2 B2 T2 l2 p1 fJ;obtain⟨N4,O4,fZ⟩:=S3.out;have B4:=AM es.out fZ (by have:=dP.out;omega) ib.out;have T4:=ie.out.fresh fZ (by have:=Hg.out;omega);unfold Er at N4 O4 B4 T4;have bo:=QE (m:= .slice ma mn mc) (i:= .slice ia iN ic) (e:= .slice ea en ec) (c:= .slice ka kn kc) (s:= .slice sa sn sc) (l:= .slice la ln lc) (q:= .slice (some ⟨gq,0,none⟩) 16 qc) (P:=P) (Q:= {P with No:=Ee P.No n}) HT.out O4 B4 T4;unfold L9 AQ at bo
  try dsimp only at bo
  have HR:=AA bo;have HE:=AA (AE N4);clear bo;go_wp2_with ((try simp only[Exit.then]);with_reducible refine yp (v:= .tuple #[.agg #[.slice ma mn mc, .slice ia iN ic, .slice ea en ec, .slice ka kn kc, .slice sa sn sc, .slice la ln lc, .slice (some ⟨gq,0,none⟩) 16 qc, .int .i64 P.zT, .int .i64 P.zW], .bool true]) ?_ rfl HR.out);obtain⟨E0,E1,E2,E3,E4,E5,E6,E7,E8⟩:=HE.out;simp[results,uu,go_sem,E0,E1,E2,E3,E4,E5,E6,E7,E8]
 .have t0:((AB P.No n).w==1)=false:=by simp[hw]
  replace T1:=AA (T1.out hw);replace T2:=AA (T2.out hw);replace T3:=AA (T3.out hw);have TV:=AA (Uv hP);have gY:=AA hw;have dr:=AA hP.zW;have HF:=AA (Zb hP);have RI:=AA ax.own.ker.rd.2.1;have RQ:=AA (show BJ 3 Cz _ _ P.No from ax.own.pgs.rd);have ij:=AA (Aw hP.k).2.1;have db:=AA hP.zQ;generalize(AB P.No n).w=pw at p0 t0;obtain⟨x0,x1,x2,x3,x4,x5,x6,x7,x8⟩:=ax.cells;clear h hP bd hx hw ax N0 N1 a2 cW p1 p2;go_in;go_upto_region 4 with fail;generalize(w.alloc _).alloc _=W0 at*;generalize hg:w.heap.size=g at*;have Hg:=AA hg;have a5:=AY HI.out.yM;have ga:=AA bC;clear hg bC;obtain⟨LX,hcnt⟩:∃c:Nat,c=Ai P.No 1:=⟨_,rfl⟩
  have CC:=AA (fun W (hW:Below W0.heap.size W0 W)=>by have:=Mc (.slice ma mn mc) (.slice ia iN ic) (.slice ea en ec) (.slice ka kn kc) (.slice sa sn sc) (.slice la ln lc) (.slice (some ⟨gq,0,none⟩) 16 qc) P 1 W (BJ.below RQ.out hW) (by have:=db.out;omega);unfold AQ at this;rw[<-hcnt] at this;exact this);have CF:=AA (fun W (hW:Below W0.heap.size W0 W)=>Px (.slice ia iN ic) P.zX.Os W (BJ.below RI.out hW) ij.out);have fP:RO P=(decide (P.zW<=(LX:Int))||decide (Am P.zX.Os<0)):=by rw[hcnt];rfl
  have fk:=AA fP;have id:=AA hcnt;clear fP hcnt RQ RI p0 t0 fq fJ;go_cut [32] (fun gy wx=>gy= .bool (RO P)/\Below W0.heap.size W0 wx)
  case first=>
   refine Aa 4 49 [.a #[.slice ma mn mc, .slice ia iN ic, .slice ea en ec, .slice ka kn kc, .slice sa sn sc, .slice la ln lc,(.slice (some ⟨gq,0,none⟩) 16 qc), .int .i64 (P.zT), .int .i64 (P.zW)], .i ((LX:Int)), .p g 8, .i (P.zW)] (fun _ _ _=>True) ?_ ?_
   .intro i hi o ho a wx Hb Hd hG K HK
    have ar:=bc hG a5 x0;have an:=bc hG a5 x1;have ao:=bc hG a5 x2;have ay:=bc hG a5 x3;have a0:=bc hG a5 x4;have a9:=bc hG a5 x5;have dj:=bc hG a5 x6;have ex:=bc hG a5 x7;have fD:=bc hG a5 x8
    match i,hi with
    |0,_=>exact sL ho HK Hb Hd (hl:=Vn ‹_› ‹_› ‹_› ‹_› ‹_› ‹_› ‹_› ‹_› ‹_›)
    |1,_=>exact sD ho HK Hb Hd (CC.out _ hG)
    |2,_=>exact sP ho HK Hb Hd
    |3,_=>exact sL ho HK Hb Hd (hl:=Fo ‹_›)
   .intro vs wx hR hG
    have q1:(vs 1)= .int .i64 LX:=BZ hR 1;have q3:(vs 3)= .int .i64 (P.zW):=BZ hR 3;clear hR;simp only[Al,AV,yE,yB,yA,yy,q1,q3];simp;clear q1 q3;have HG:=AA hG;obtain⟨_,y1,_,_,_,_,_,_,y8⟩:=(HI.out.below hG).cells;clear hG x0 x1 x2 x3 x4 x5 x6 x7 x8
    by_cases hc:P.zW<=(LX:Int)
    .have E:=AA (show RO P=true by rw[fk.out];simp[hc])
     go_wp2_with fail;go_meet
     case rel=>exact⟨by rw[E.out],HG.out⟩
    .have E:=AA (show RO P=(((P.zX.Os.countP (fun x=>decide (x.k=0)):Nat):Int)==0) by
      rw[fk.out];have:= @VT P.zX.Os
      by_cases hz:P.zX.Os.countP (fun x=>decide (x.k=0))=0
      .simp[hc,hz,this.2 hz]
      .have h1:¬Am P.zX.Os<0:=fun h=>hz (this.1 h)
       simp[hc,hz,h1])
     go_wp2_with fail;refine(CF.out _ HG.out).mono ?_;rintro r w1 ⟨rfl,b1⟩;have il:=AA (HG.out.trans (b1.mono HG.out.size));clear b1;generalize List.countP _ P.zX.Os=nf at*;go_wp2_with fail;go_meet
     case rel=>exact⟨by rw[E.out],il.out⟩
  case rest=>
  obtain⟨rfl,hG⟩:=hcut;clear CC CF fk x0 x1 x2 x3 x4 x5 x6 x7 x8
  rename_i W1
  have bp:=AA (HI.out.below hG);have cJ:=AA (dc.out.trans (hG.mono av.out));have HN:=AA (AC dQ.out hG);have eo:=AA (cB.out.below hG);have bX:=AA (yD av.out hG.size);clear hG HI;rw[<-HF.out];obtain⟨y0,y1,y2,y3,y4,y5,y6,y7,y8⟩:=bp.out.cells;go_upto_if 32 with fail;go_cut [] (fun wx=>∃P1 m i e c s,Gg lo g wx m i e c s (.slice la ln lc) (.slice (some ⟨gq,0,none⟩) 16 qc) P1/\wx.heap[g+1]? =some (.cells #[.slice none 0 0, .slice none 0 0, .slice none 0 0, .slice none 0 0, .slice none 0 0, .slice none 0 0, .slice none 0 0, .int .i64 0, .int .i64 0] 32 (0,0))/\Below lo w wx/\Ei w wx/\lo<=wx.heap.size/\EC P1/\0<=Am P1.zX.Os/\(AB P1.No n).w≠1/\t=OR P1 n)
  case first=>
   cases hf:IS P
   .have gk:=AA (T2.out hf)
    go_wp2_with fail;go_meet
    case rel=>exact⟨P,_,_,_,_,_,bp.out,HN.out,cJ.out,eo.out,bX.out,HP.out,gk.out.2,gY.out,gk.out.1⟩
   .have CV:=Qe bp.out.own bX.out HP.out
    unfold U9 AQ at CV
    by_cases hz:Ai P.No 1=0
    .have fL:=T1.out ⟨by
      unfold IS at hf;simp only[Bool.or_eq_true,decide_eq_true_eq] at hf;have:=dr.out
      rcases hf with hf|hf
      .exact hf
      .omega,hz⟩
     have cG:=TV.out.2 hz;generalize CQ 32 P.No P.zT=t at CV cG;obtain⟨pg,hd,o⟩:=t;cases cG;dsimp only[Uu] at CV;have CV:=AA CV;have h6:=AA fL;clear fL hf hz;go_wp2_with fail;refine CV.out.mono ?_;rintro r w2 ⟨rfl,O2,b2,s2⟩;have b3:=AD w2 (.cells #[.slice ma mn mc, .slice ia iN ic, .slice ea en ec, .slice ka kn kc, .slice sa sn sc, .slice la ln lc, .slice (some ⟨gq,0,none⟩) 16 qc, .int .i64 hd, .int .i64 P.zW] 32);have N3:=AC (s2 _ _ HN.out) b3;have I3:=AC (s2 _ _ bp.out.yM) b3;have B3:=cJ.out.trans (b2.trans (b3.mono (yD bX.out b2.size)));have T3:=(eo.out.trans s2).below b3;have l3:=yD (yD bX.out b2.size) b3.size;have N4:=GO (b0:= .slice ma mn mc) (b1:= .slice ia iN ic) (b2:= .slice ea en ec) (b3:= .slice ka kn kc) (b4:= .slice sa sn sc) (b5:= .slice la ln lc) (b6:= .slice (some ⟨gq,0,none⟩) 16 qc) (b7:= .int .i64 P.zT) (b8:= .int .i64 P.zW) N3;have G4:=Ex (w:=w2.alloc (.cells #[.slice ma mn mc, .slice ia iN ic, .slice ea en ec, .slice ka kn kc, .slice sa sn sc, .slice la ln lc, .slice (some ⟨gq,0,none⟩) 16 qc, .int .i64 hd, .int .i64 P.zW] 32)) (g:=g+1) (b0:= .slice ma mn mc) (b1:= .slice ia iN ic) (b2:= .slice ea en ec) (b3:= .slice ka kn kc) (b4:= .slice sa sn sc) (b5:= .slice la ln lc) (b6:= .slice (some ⟨gq,0,none⟩) 16 qc) (b7:= .int .i64 P.zT) (b8:= .int .i64 P.zW);have B4:=AA (AM B3 G4 (by have:=bp.out.yL;omega) l3);have T4:=AA (T3.fresh G4 (by have:=Hg.out;omega));have ih:=AA N4;obtain⟨c0,c1,c2,c3,c4,c5,c6,c7,c8⟩:=AE I3;obtain⟨z0,z1,z2,z3,z4,z5,z6,z7,z8⟩:=AE N3;have fz:=AK N3;clear O2 b2 s2 b3 N3 I3 B3 T3 l3 N4 G4 y0 y1 y2 y3 y4 y5 y6 y7 y8 CV;have N4:=ih.out;unfold Er at N4 B4 T4;have bo:=Xq (m:= .slice ma mn mc) (i:= .slice ia iN ic) (e:= .slice ea en ec) (c:= .slice ka kn kc) (s:= .slice sa sn sc) (l:= .slice la ln lc) (q:= .slice (some ⟨gq,0,none⟩) 16 qc) (P:=P) (Q:=P) h6.out B4.out T4.out;have HR:=AA bo;have HE:=AA (AE N4);clear bo;go_wp2_with fail;refine yp (v:= .tuple #[.agg #[.slice ma mn mc, .slice ia iN ic, .slice ea en ec, .slice ka kn kc, .slice sa sn sc, .slice la ln lc, .slice (some ⟨gq,0,none⟩) 16 qc, .int .i64 P.zT, .int .i64 P.zW], .bool false]) ?_ rfl HR.out;obtain⟨E0,E1,E2,E3,E4,E5,E6,E7,E8⟩:=HE.out;simp[results,uu,go_sem,E0,E1,E2,E3,E4,E5,E6,E7,E8]
    .obtain⟨mm,pgs,hd,co⟩:=T3.out hf (fun x=>hz x.2)
     rw[co.vic] at CV;dsimp only[Uu] at CV;have a6:=AA co;have CV:=AA CV;have iI:¬(mm:Int)<0:=by omega
     clear co hf hz;go_wp2_with fail;refine CV.out.mono ?_;rintro r w2 ⟨rfl,O2,b2,s2⟩;have b3:=AD w2 (.cells #[.slice ma mn mc, .slice ia iN ic, .slice ea en ec, .slice ka kn kc, .slice sa sn sc, .slice la ln lc, .slice (some ⟨gq,0,none⟩) 16 qc, .int .i64 hd, .int .i64 P.zW] 32);have l3:=yD (yD bX.out b2.size) b3.size;have CO:=Vj (O2.below b3) l3 a6.out.ok1 a6.out.m16 a6.out.mw1;unfold U6 AQ at CO;dsimp only at CO;have CO:=AA CO;have N3:=AA (AC (s2 _ _ HN.out) b3);have I3:=AA (AC (s2 _ _ bp.out.yM) b3);have B3:=AA (cJ.out.trans (b2.trans (b3.mono (yD bX.out b2.size))));have T3:=AA ((eo.out.trans s2).below b3);have h9:=AA l3;clear O2 b2 s2 b3 l3 y0 y1 y2 y3 y4 y5 y6 y7 y8 CV;go_wp2_with fail;refine CO.out.mono ?_;rintro r w4 ⟨⟨m4,i4,e4,c4,s4,rfl,O4⟩,b4,t4⟩;obtain⟨⟨⟨iy,iw,a0,rfl⟩,⟨iD,iE,iC,rfl⟩,⟨iQ,iO,iP,rfl⟩,⟨iB,iz,iA,rfl⟩⟩,⟨it,iq,ir,rfl⟩,_⟩:=O4.zS;have S5:=DD (t4 _ _ I3.out) O4;have N5:=AA (Ap (t4 _ _ N3.out) S5.2.2 (by omega));have T5:=AA ((T3.out.trans t4).fresh S5.2.2 (by have:=Hg.out;omega));have l4:=yD h9.out b4.size;have B5:=AA (AM (B3.out.trans b4) S5.2.2 bp.out.yL l4);have l5:=AA (yD l4 S5.2.2.size);have I5:=AA (⟨S5.1,bp.out.yL,S5.2.1⟩:Gg lo g _ _ _ _ _ _ _ _ _);obtain⟨z0,z1,z2,z3,z4,z5,z6,z7,z8⟩:=AE (t4 _ _ I3.out);have fz:=AK (t4 _ _ I3.out);clear S5 O4 b4 t4 l4 CO;unfold Er at N5 T5 B5 l5 I5;go_wp2_with fail;go_meet
     case rel=>exact⟨_,_,_,_,_,_,I5.out,N5.out,B5.out,T5.out,l5.out,a6.out.ok2,a6.out.free,a6.out.nw,f7.out _ _ _ a6.out⟩
  case rest=>obtain⟨P1,m1,i1,e1,c1,s1,I1,N1,B1,f9,l1,O1,f1,n1,t1⟩:=hcut;have CI:=XM I1.own l1 O1 hn n1 f1;have fF:=YV (n:=n) O1 f1;generalize OR P1 n=ti at CI fF t1;obtain⟨Q,bb⟩:=ti;obtain rfl:bb=true:=fF;unfold Ti AQ at CI;dsimp only at CI;have hZ:=AA t1;obtain⟨⟨⟨dY,dW,an,rfl⟩,⟨eH,eJ,eF,rfl⟩,⟨e7,eX,eZ,rfl⟩,⟨eD,ez,eB,rfl⟩⟩,⟨gx,gu,gv,rfl⟩,_⟩:=I1.own.zS;obtain⟨x0,x1,x2,x3,x4,x5,x6,x7,x8⟩:=I1.cells;have fo:=AA N1;have fx:=AA B1;have fn:=AA f9;have fi:=AA l1;have dP:=AA I1.yL;have CI:=AA CI;clear I1 N1 B1 f9 l1 O1 f1 n1 t1 y0 y1 y2 y3 y4 y5 y6 y7 y8 bp HN cJ eo T1 T2 T3 TV dr;go_wp2_with fail;refine CI.out.mono ?_;rintro r w6 ⟨⟨m6,i6,e6,c6,rfl,O6⟩,b6,s6⟩;obtain⟨⟨⟨gI,gG,dj,rfl⟩,⟨gU,gW,gS,rfl⟩,⟨hT,hJ,hM,rfl⟩,⟨gP,gL,gN,rfl⟩⟩,_⟩:=O6.zS;have N6:=s6 _ _ fo.out;have S7:=AA (DD N6 O6);have B6:=AA (fx.out.trans b6);have T6:=AA (fn.out.trans s6);have l6:=AA (yD fi.out b6.size);obtain⟨z0,z1,z2,z3,z4,z5,z6,z7,z8⟩:=AE N6;have fz:=AK N6;clear O6 b6 s6 N6 CI x0 x1 x2 x3 x4 x5 x6 x7 x8;obtain⟨N8,O8,fY⟩:=S7.out;have B8:=AM B6.out fY (by have:=dP.out;omega) l6.out;have T8:=T6.out.fresh fY (by have:=Hg.out;omega);unfold Er at N8 O8 B8 T8;have bo:=QE (m:= .slice ma mn mc) (i:= .slice ia iN ic) (e:= .slice ea en ec) (c:= .slice ka kn kc) (s:= .slice sa sn sc) (l:= .slice la ln lc) (q:= .slice (some ⟨gq,0,none⟩) 16 qc) (P:=P) hZ.out O8 B8 T8;unfold L9 AQ at bo;have HR:=AA bo;have HE:=AA (AE N8);clear bo;go_wp2_with ((try simp only[Exit.then]);with_reducible refine yp (v:= .tuple #[.agg #[.slice gI gG dj, .slice gU gW gS, .slice hT hJ hM, .slice gP gL gN, .slice gx gu gv, .slice la ln lc, .slice (some ⟨gq,0,none⟩) 16 qc, .int .i64 Q.zT, .int .i64 Q.zW], .bool true]) ?_ rfl HR.out);obtain⟨E0,E1,E2,E3,E4,E5,E6,E7,E8⟩:=HE.out;simp[results,uu,go_sem,E0,E1,E2,E3,E4,E5,E6,E7,E8]
theorem UU (mv iv ev cv sv lv qv:Value) (P:AR) (n:Nat) (w:World) (h:Lr w mv iv ev cv sv lv qv P) (hh:af P) (hn:n<16):
 Calls prog 45 #[AQ mv iv ev cv sv lv qv P.zT P.zW, .int .i64 n] w fun r w'=>r= .returned (.bool (GG P n))/\Below w.heap.size w w':=by
 unfold AQ;have N0:=yw w (.cells #[mv,iv,ev,cv,sv,lv,qv, .int .i64 P.zT, .int .i64 P.zW] 32);have b0:=AD w (.cells #[mv,iv,ev,cv,sv,lv,qv, .int .i64 P.zT, .int .i64 P.zW] 32);have h0:=h.below b0;have hK:DI P.zX:=EU.1 hh.k;obtain⟨j,hj⟩:∃j,j=n/4:=⟨_,rfl⟩
 obtain⟨t,ht⟩:∃t,t=n%4:=⟨_,rfl⟩
 have q1:(n:Int)/4=(j:Int):=by omega
 have q2:(n:Int)%4=(t:Int):=by omega
 have fN:j<4:=by omega
 have g0:t<4:=by omega
 have g8:=hh.lr j fN;obtain⟨lf,hlf⟩:∃x:Nat,BG P.low j=(x:Int):=⟨(BG P.low j).toNat,by omega⟩
 have ds:lf<12:=by omega
 have fS:Br P n=As P.zX.mem lf t:=by unfold Br;rw[<-hj,<-ht,hlf,xY]
 have ed:(n:Int)<16:=by omega
 have HS:=AA h0.2.1;have ax:=AA h0.1.2.1;obtain⟨aq,cq,rfl,_,_,HQ⟩:=BJ.open Ew (by decide) h0.2.2.2;obtain⟨bq,oq,rfl,hF,D0,D1,D2⟩:=HQ.zt (k:=n) (by rw[hh.pl];exact hn);have iH:(n:Int)<P.No.length:=by rw[hh.pl];exact ed
 obtain⟨am,cm,rfl,_,_,HM⟩:=h0.1.1.open;obtain⟨al,cl,rfl,_,_,HL⟩:=h0.2.2.1.open;obtain⟨bl,ol,rfl,DL⟩:=HL.at (k:=j) (by rw[hh.ll];exact fN);rw[show nth P.low j=(lf:Int) from hlf] at DL;obtain⟨bm,om,br,cb,cr,rfl,cy,DM,cx,hC,dd⟩:=HM.row4 (Aw hK).1 ds;have DW:=dd t g0;obtain⟨ai,ci,rfl,_,_,bp⟩:=BJ.open Az (by decide) ax.out;have HI:=AA bp;obtain⟨f4,f3,rfl,_,_,_⟩:=h0.2.1.open;obtain⟨x0,x1,x2,x3,x4,x5,x6,x7,x8⟩:=AE N0;obtain⟨po,hpo⟩:∃po,po=GG P n:=⟨_,rfl⟩
 rw[<-hpo];have PO:=hpo;unfold GG at PO;rw[fS] at PO;generalize hpw:(AB P.No n).w=pw at D0 PO;generalize hpa:(AB P.No n).a=pa at D1 PO;generalize hpu:(AB P.No n).u=pu at D2 PO;generalize htw:As P.zX.mem lf t=tw at DW PO;have eM:(j:Int)<P.low.length:=by rw[hh.ll];omega
 have cX:(lf:Int)<P.zX.mem.length:=by have:=(Ah.1 (Aw hK).1).1;omega
 have gZ:(t:Int)<4:=by omega
 have cO:=AA (A0.1 (Aw hK).2.1).1;replace PO:=AA PO;clear hpo hpw hpa hpu htw fS hlf g8 hj ht HQ HM HL dd h h0;have bC:(w.alloc (.cells #[.slice (some ⟨bm,om,none⟩) P.zX.mem.length cm, .slice ai P.zX.Os.length ci,ev,cv, .slice f4 P.swap.length f3, .slice (some ⟨bl,ol,none⟩) P.low.length cl, .slice (some ⟨bq,oq,none⟩) P.No.length cq, .int .i64 P.zT, .int .i64 P.zW] 32)).heap.size=w.heap.size+1:=by simp
 go_in;go_wp2_with fail;generalize w.alloc _=W0 at*;have b2:=AD W0 (.cells #[.int .i64 pw, .int .i64 pa, .bool pu] 40);have N2:=yw W0 (.cells #[.int .i64 pw, .int .i64 pa, .bool pu] 40);have fp:=AA (AC N0 b2);have es:=AA (b0.trans (b2.mono b0.size));have gd:=AA b2;replace DL:=(b2.cell (yC _ _ DL)).trans DL;replace DM:=(b2.cell (yC _ _ DM)).trans DM;replace DW:=(b2.cell (yC _ _ DW)).trans DW;clear x0 x1 x2 x3 x4 x5 x6 x7 x8 D0 D1 D2 hF cy cx bp N0 b0 b2;obtain⟨qp,hqp⟩:∃q,q=w.heap.size+1:=⟨_,rfl⟩
 rw[bC] at N2;rw[<-hqp] at N2 ⊢;generalize W0.alloc _=W2 at*;clear hqp bC;obtain⟨x0,_,_,_,_,x5,_,_,_⟩:=AE fp.out;have a5:=AY fp.out;have eS:=yC _ _ DL;have cy:=yC _ _ DM;have cx:=yC _ _ DW;have ii:=AA N2;clear N2;go_wp2_with fail;refine Aa 15 94 [.p w.heap.size 0, .p w.heap.size 0, .v (.slice (some ⟨bm,om,none⟩) P.zX.mem.length cm), .p w.heap.size 5, .v (.slice (some ⟨bl,ol,none⟩) P.low.length cl), .i ((n:Int)), .i ((j:Int)), .p bl (ol+j), .i ((lf:Int)), .p bm (om+lf), .v (.slice (some ⟨br,cb,none⟩) 4 cr), .i ((n:Int)), .i ((t:Int)), .p br (cb+t), .i tw] (fun _ _ _=>True) ?_ ?_
 .intro i hi o ho a wx Hb Hd hG K HK
  have ar:=bc hG a5 x0;have an:=bc hG a5 x5;have ao:=bc hG eS DL;have ay:=bc hG cy DM;have a0:=bc hG cx DW
  match i,hi with
  |0,_|1,_|3,_|5,_|11,_=>exact sP ho HK Hb Hd
  |2,_=>exact sL ho HK Hb Hd (hl:=GM ‹_›)
  |4,_|10,_=>exact sL ho HK Hb Hd (hl:=Jx ‹_›)
  |7,_|9,_|13,_=>exact sI ho HK Hb Hd (hr:=by clear Hd Hb HK;go_simp)
  |8,_|14,_=>exact sL ho HK Hb Hd (hl:=Fo ‹_›)
  |6,_=>clear ar an ao ay a0;obtain rfl:=yH ho;have d5:(a.tmps[19]?.getD undef)= .int .i64 n:=BT Hd 5;clear Hd Hb;refine yG ?_;go_simp;exact HK.out _ _ (by show yf .i64 (wR.wrap (j:Int))= .int .i64 j;rw[xy _ (by omega)]) (yF _ _)
  |12,_=>clear ar an ao ay a0;obtain rfl:=yH ho;have cA:(a.tmps[25]?.getD undef)= .int .i64 n:=BT Hd 11;clear Hd Hb;refine yG ?_;go_simp;exact HK.out _ _ (by show yf .i64 (Int.tmod (n:Int) 4)= .int .i64 t;rw[wK (by omega)];exact congrArg _ q2) (yF _ _)
  |_+15,hq=>omega
 .intro vs wx hR hG
  have cD:(vs 14)= .int .i64 tw:=BZ hR 14;clear hR;simp only[Al,AV,yE,yB,yA,yy,cD];simp;clear cD;have HB:=AA (es.out.trans (hG.mono es.out.size));have fl:=AA (gd.out.trans (hG.mono gd.out.size));obtain⟨_,x1,_,_,x4,_,_,_,_⟩:=AE (AC fp.out hG);obtain⟨p0,p1,p2⟩:=Fs (AC ii.out hG);clear x0 x5 DL DM DW hG eS cy cx
  by_cases e0:pw=0
  .subst e0
   rw[if_pos rfl] at PO
   by_cases ea:pa=0
   .subst ea
    cases pu
    .have S:=AA (show po=(tw==0) by rw[PO.out];simp;by_cases h3:tw=0<;>simp[h3])
     clear PO x1 x4;go_wp2_with fail;go_ret;exact⟨AI S.out.symm,HB.out⟩
    .have S:=AA (show po=false by rw[PO.out];simp)
     clear PO x1 x4;go_wp2_with fail;go_ret;exact⟨AI S.out.symm,HB.out⟩
   .have S:=AA (show po=false by rw[PO.out];simp[ea])
    clear PO x1 x4;go_wp2_with fail;go_ret;exact⟨AI S.out.symm,HB.out⟩
  rw[if_neg e0] at PO;have t0:(pw==0)=false:=by simp[e0]
  by_cases e1:pw=1
  .subst e1
   rw[if_pos rfl] at PO;clear t0 e0 x4;have CF:=AA (fun W=>Dx pa W);go_wp2_with fail;refine(CF.out _).mono ?_;rintro r w3 ⟨rfl,rfl⟩;cases cg:Bd pa 0 11
   .have S:=AA (show po=false by rw[PO.out,cg];rfl)
    clear PO cg x1;go_wp2_with fail;go_ret;exact⟨AI S.out.symm,HB.out⟩
   have ab:=Ac.1 cg;obtain⟨fr,rfl⟩:∃x:Nat,pa=(x:Int):=⟨pa.toNat,by omega⟩
   have ef:fr<12:=by omega
   rw[cg,xY] at PO;clear cg;go_wp2_with fail;refine(Lc (fr:Int) _ (by omega) (by omega)).mono ?_;rintro r w3 ⟨rfl,b3⟩;have cQ:=AA (HB.out.trans (b3.mono HB.out.size));have iK:(fr:Int)<12:=by omega
   have hA:(fr:Int)<P.zX.Os.length:=by have:=cO.out;omega
   obtain⟨bi,oi,rfl,cL,F0,F1,F2⟩:=(HI.out.below (fl.out.trans (b3.mono fl.out.size))).zR (k:=fr) (by have:=cO.out;omega);replace x1:=(b3.cell (yC _ _ x1)).trans x1;replace p1:=(b3.cell (yC _ _ p1)).trans p1;clear p0 p2 b3 F0 cL;generalize Gv (fr:Int)=en_ at PO ⊢
   by_cases et:tw=en_
   .subst et
    have bn:=AA (show po=(decide ((zU P.zX.Os fr).g=gA)&&decide ((zU P.zX.Os fr).r=1)) by rw[PO.out];simp[Fi]);clear PO;generalize zU P.zX.Os fr=x at F1 F2 bn;obtain⟨xk,xg,xr⟩:=x;dsimp only at F1 F2 bn;have eg:xg=gA↔xg.toList=[97]:=⟨fun h=>by subst h;rw[xz];rfl,fun h=>by rw[xz] at h;cases xg with|mk d=>cases d with|mk l=>simp at h;subst h;rfl⟩
    by_cases hg:xg.toList=[97]
    .have t1:(xg.toList==[97])=true:=by simp[hg]
     have S:=AA (show po=(xr==1) by rw[bn.out,decide_eq_true (eg.2 hg),vS];by_cases h3:xr=1<;>simp[h3]);clear hg eg bn;go_wp2_with fail;go_ret;exact⟨AI S.out.symm,cQ.out⟩
    .have t1:(xg.toList==[97])=false:=by simp[hg]
     have S:=AA (show po=false by rw[bn.out,decide_eq_false (fun h=>hg (eg.1 h)),Bool.false_and]);clear hg eg bn;go_wp2_with fail;go_ret;exact⟨AI S.out.symm,cQ.out⟩
   .have S:=AA (show po=false by rw[PO.out];simp[et])
    have t1:(tw==en_)=false:=by simp[et]
    clear PO et;go_wp2_with fail;go_ret;exact⟨AI S.out.symm,cQ.out⟩
  rw[if_neg e1] at PO;have t1:(pw==1)=false:=by simp[e1]
  by_cases e2:pw=2
  .subst e2
   rw[if_pos rfl] at PO;clear t0 t1 e0 e1 x1;have CG:=AA (TP _ P.swap pa _ (HS.out.below fl.out) hh.s);go_wp2_with fail;refine CG.out.mono ?_;rintro r w3 ⟨⟨v',rfl⟩,b3⟩;have cQ:=AA (HB.out.trans (b3.mono HB.out.size));have bn:=AA (show po=(Bd pa 0 15&&!(AH P.swap pa.toNat).isEmpty&&!pu&&decide (tw=0)) from PO.out);generalize(Bd pa 0 15&&!(AH P.swap pa.toNat).isEmpty)=bb at bn ⊢;replace p2:=(b3.cell (yC _ _ p2)).trans p2;clear PO CG b3 x4 p0 p1;cases bb
   .have S:=AA (show po=false by rw[bn.out];rfl)
    go_wp2_with fail;go_ret;exact⟨AI S.out.symm,cQ.out⟩
   .cases pu
    .have S:=AA (show po=(tw==0) by rw[bn.out];simp;by_cases h3:tw=0<;>simp[h3])
     go_wp2_with fail;go_ret;exact⟨AI S.out.symm,cQ.out⟩
    .have S:=AA (show po=false by rw[bn.out];rfl)
     go_wp2_with fail;go_ret;exact⟨AI S.out.symm,cQ.out⟩
  .have t2:(pw==2)=false:=by simp[e2]
   have S:=AA (show po=false by rw[PO.out,if_neg e2]);clear PO x1 x4 e0 e1 e2;go_wp2_with fail;go_ret;exact⟨AI S.out.symm,HB.out⟩
theorem Qd (mv iv ev cv sv lv qv:Value) (P:AR) (w:World) (h:Lr w mv iv ev cv sv lv qv P) (hk:Cj P.zX=true):
 Calls prog 43 #[AQ mv iv ev cv sv lv qv P.zT P.zW] w fun r w'=>r= .returned (.bool (Bt P))/\Below w.heap.size w w':=by
 unfold AQ;have N0:=yw w (.cells #[mv,iv,ev,cv,sv,lv,qv, .int .i64 P.zT, .int .i64 P.zW] 32);have b0:=AD w (.cells #[mv,iv,ev,cv,sv,lv,qv, .int .i64 P.zT, .int .i64 P.zW] 32);have h0:=h.below b0;have hK:DI P.zX:=EU.1 hk;have g3:=zC hK (show 0<3 by omega);have ee:=(A0.1 (Aw hK).2.1).1;have cX:=(Ah.1 (Aw hK).1).1;have hB:=hK.zP;obtain⟨ae,ce,rfl,_,_,HE⟩:=h0.1.2.2.1.open;obtain⟨be,oe,ua,uc,rfl,_,_,D1,_⟩:=HE 0 (by omega);have e0:oe+0*2+1=oe+1:=by omega
 rw[e0] at D1;obtain⟨ai,ci,rfl,_,_,ax⟩:=BJ.open Az (by decide) h0.1.2.1;obtain⟨am,cm,rfl,_,_,gh⟩:=h0.1.1.open;obtain⟨al,cl,rfl,_,_,gi⟩:=h0.2.2.1.open;obtain⟨x0,x1,x2,x3,x4,x5,x6,x7,x8⟩:=AE N0;have iL:(0:Int)<P.zX.zZ.length:=by omega
 have TO:=AA (show Bt P=(decide (0<=AZ P.zX 0)&&decide (P.low.length=4)&&Fi P.zX.Os (AZ P.zX 0).toNat&&(yE 4).all (FU P)) from rfl);have fH:AZ P.zX 0=(AJ P.zX.zZ 0).root:=rfl;rw[<-fH] at D1 g3;generalize hrr:AZ P.zX 0=root at*;have h4:=AA hrr;have HM:=AA gh;have HI:=AA ax;have HL:=AA gi;have HK:=AA hK;have cO:=AA ee;have h7:=AA cX;clear h h0 hk fH hrr gh ax gi HE hK hB ee cX;have HN:=AA N0;have ad:=AA b0;clear N0 b0
 by_cases hr:root<0
 .have S:=AA (show Bt P=false by rw[TO.out,decide_eq_false (by omega)];rfl)
  clear TO;go_in;go_wp2_with fail;go_ret;exact⟨AI S.out.symm,ad.out⟩
 obtain⟨rn,rfl⟩:∃x:Nat,root=(x:Int):=⟨root.toNat,by omega⟩
 have g5:rn<12:=by omega
 have g4:(rn:Int)<12:=by omega
 have iF:(rn:Int)<P.zX.mem.length:=by have:=h7.out;omega
 have iG:(rn:Int)<P.zX.Os.length:=by have:=cO.out;omega
 rcases wg (P.low.length=4) with hll|hll
 rotate_left
 .have S:=AA (show Bt P=false by rw[TO.out,decide_eq_false hll];simp)
  have t1:((P.low.length:Int) !=4)=true:=by simp;omega
  clear TO hll;go_in;go_wp2_with fail;go_ret;exact⟨AI S.out.symm,ad.out⟩
 have t1:((P.low.length:Int) !=4)=false:=by simp;omega
 have dO:=AA hll;obtain⟨bi,oi,rfl,hH,_,F1,F2⟩:=HI.out.zR (k:=rn) (by have:=cO.out;omega);have cI:=AA (show Bt P=(decide ((zU P.zX.Os rn).g=gA)&&decide ((zU P.zX.Os rn).r=1)&&(yE 4).all (FU P)) by rw[TO.out,decide_eq_true hll,decide_eq_true (by omega:(0:Int)<=(rn:Int)),xY];simp[Fi])
 clear TO hll;generalize zU P.zX.Os rn=x at F1 F2 cI;obtain⟨xk,xg,xr⟩:=x;dsimp only at F1 F2 cI;have eg:xg=gA↔xg.toList=[97]:=⟨fun h=>by subst h;rw[xz];rfl,fun h=>by rw[xz] at h;cases xg with|mk d=>cases d with|mk l=>simp at h;subst h;rfl⟩
 rcases wg (xg.toList=[97]) with hg|hg
 rotate_left
 .have t2:(xg.toList==[97])=false:=by simp[hg]
  have S:=AA (show Bt P=false by rw[cI.out,decide_eq_false (fun h=>hg (eg.1 h))];rfl);clear cI hg eg;go_in;go_wp2_with fail;go_ret;exact⟨AI S.out.symm,ad.out⟩
 have t2:(xg.toList==[97])=true:=by simp[hg]
 rcases wg (xr=1) with hr1|hr1
 rotate_left
 .have t3:(xr !=1)=true:=by simp[hr1]
  have S:=AA (show Bt P=false by rw[cI.out,decide_eq_false hr1];simp);clear cI hg eg hr1;go_in;go_wp2_with fail;go_ret;exact⟨AI S.out.symm,ad.out⟩
 have t3:(xr !=1)=false:=by simp[hr1]
 have dI:=AA (show Bt P=(yE 4).all (FU P) by rw[cI.out,decide_eq_true (eg.2 hg),decide_eq_true hr1];rfl);clear cI hg eg hr1;go_in;go_wp2_with fail;generalize w.alloc _=W0 at*;clear x0 x1 x2 x3 x4 x5 x6 x7 x8 D1 F1 F2 t1 t2 t3;go_loopw [4,5] (fun ix _ wr=>∃k:Nat,k<=4/\ix= .int .i64 k/\(∀j,j<k->FU P j=true)/\Below W0.heap.size W0 wr) (fun ix _ _=>4 - (intOf ix).toNat)
 case atStart=>exact⟨0,yh _,rfl,fun j hj=>absurd hj (xR _),yF _ _⟩
 case round=>
  obtain⟨k,hk,rfl,ac,hb⟩:=hrel;have a3:=AA ac;clear ac
  by_cases bs:k<4
  .have du:(k:Int)<4:=by omega
   have eL:(k:Int)<P.low.length:=by have:=dO.out;omega
   obtain⟨x0,x1,_,_,_,x5,_,_,_⟩:=AE (AC HN.out hb);have a5:=AY (AC HN.out hb);obtain⟨bl,ol,rfl,DL⟩:=(HL.out.below hb).at (k:=k) (by have:=dO.out;omega);obtain⟨bm,om,br,cb,cr,rfl,eR,fy,eQ,hC,dd⟩:=HM.out.row4 (Aw HK.out).1 g5;have DM:=(hb.cell (yC _ _ fy)).trans fy;have DW:=(hb.cell (yC _ _ (dd k bs))).trans (dd k bs);have cy:=yC _ _ DM;have cx:=yC _ _ DW;have LO:=AA (show FU P k=(Bd (BG P.low k) 0 11&&decide (As P.zX.mem (AZ P.zX 0).toNat k=Gv (BG P.low k))&&Fi P.zX.Os (BG P.low k).toNat) from rfl);rw[h4.out,xY] at LO;rw[show nth P.low k=BG P.low k from rfl] at DL;generalize BG P.low k=fv at DL LO;generalize As P.zX.mem rn k=tw at DW LO;clear fy dd eR eQ;have de:=fun W (hW:Below wr.heap.size wr W)=>BM (Dx fv W)
   cases cg:Bd fv 0 11
   .rw[cg] at de LO
    have CF:=AA de;have bv:FU P k=false:=by rw[LO.out];rfl
    clear de LO cg;have S:=AA (dI.out.trans (GD bs bv));go_wp2_with fail;refine Aa 36 86 [.i fv, .b false, .b true, .b true, .u, .u, .u, .u, .u, .u, .u, .u, .u, .u, .u, .u, .b true, .b true, .u, .u, .u, .u, .u, .u, .u, .u, .b true, .b true, .u, .u, .u, .u, .u, .u, .u, .u] (fun _ _ _=>True) ?_ ?_
    .intro i hi o ho a wx Hb Hd hG K HK
     match i,hi with
     |0,_|2,_|3,_|16,_|17,_|26,_|27,_=>exact sP ho HK Hb Hd
     |1,_=>exact sD ho HK Hb Hd (CF.out _ hG)
     |4,_|5,_|6,_|7,_|8,_|9,_|10,_|11,_|12,_|13,_|14,_|15,_|18,_|19,_|20,_|21,_|22,_|23,_|24,_|25,_|28,_|29,_|30,_|31,_|32,_|33,_|34,_|35,_=>exact sB ho HK Hd
     |_+36,hq=>omega
    .intro vs wx hR hG
     have bz:(vs 27)= .bool true:=BZ hR 27;clear hR;simp only[Al,AV,yE,yB,yA,yy,bz];simp;clear bz;have bw:=hb.trans (hG.mono hb.size);clear hG x0 x1 DM DW;go_wp2_with fail;go_ret;exact⟨AI S.out.symm,ad.out.trans (bw.mono ad.out.size)⟩
   have ab:=Ac.1 cg;obtain⟨fr,rfl⟩:∃x:Nat,fv=(x:Int):=⟨fv.toNat,by omega⟩
   have ef:fr<12:=by omega
   have hm:(fr:Int)<12:=by omega
   have hA:(fr:Int)<P.zX.Os.length:=by have:=cO.out;omega
   rw[cg] at de LO;have CF:=AA de;have fB:=fun W (hW:Below wr.heap.size wr W)=>Lc (fr:Int) W (by omega) (by omega)
   rw[xY,vS] at LO;generalize Gv (fr:Int)=en_ at LO fB;have CP:=AA fB;obtain⟨iS,iu,e9,dA,_,F1,F2⟩:=(HI.out.below hb).zR (k:=fr) (by have:=cO.out;omega);cases e9;have cL:=yC _ _ F1;have ca:FU P k=(decide (tw=en_)&&(decide ((zU P.zX.Os fr).g=gA)&&decide ((zU P.zX.Os fr).r=1))):=LO.out;clear de fB LO cg ab dA;generalize zU P.zX.Os fr=x at F1 F2 ca;obtain⟨ip,xg,xr⟩:=x;dsimp only at F1 F2 ca
   rcases wg (tw=en_) with et|et
   rotate_left
   .have t1:(tw !=en_)=true:=by simp[et]
    have bv:FU P k=false:=by rw[ca,decide_eq_false et];rfl
    clear ca et;have S:=AA (dI.out.trans (GD bs bv));go_wp2_with fail;refine Aa 36 86 [.i ((fr:Int)), .b true, .b false, .b false, .p w.heap.size 0, .p w.heap.size 0, .v (.slice (some ⟨bm,om,none⟩) P.zX.mem.length cm), .i ((rn:Int)), .p bm (om+rn), .v (.slice (some ⟨br,cb,none⟩) 4 cr), .i ((k:Int)), .p br (cb+k), .i tw, .i ((fr:Int)), .i en_, .b true, .b true, .b true, .u, .u, .u, .u, .u, .u, .u, .u, .b true, .b true, .u, .u, .u, .u, .u, .u, .u, .u] (fun _ _ _=>True) ?_ ?_
    .intro i hi o ho a wx Hb Hd hG K HK
     have ar:=bc hG a5 x0;have an:=bc hG cy DM;have ao:=bc hG cx DW
     match i,hi with
     |0,_|2,_|3,_|4,_|5,_|7,_|10,_|13,_|16,_|17,_|26,_|27,_=>exact sP ho HK Hb Hd
     |1,_=>exact sD ho HK Hb Hd (CF.out _ hG)
     |6,_=>exact sL ho HK Hb Hd (hl:=GM ‹_›)
     |8,_|11,_=>exact sI ho HK Hb Hd (hr:=by clear Hd Hb HK;go_simp)
     |9,_=>exact sL ho HK Hb Hd (hl:=Jx ‹_›)
     |12,_=>exact sL ho HK Hb Hd (hl:=Fo ‹_›)
     |14,_=>exact sD ho HK Hb Hd (CP.out _ hG)
     |18,_|19,_|20,_|21,_|22,_|23,_|24,_|25,_|28,_|29,_|30,_|31,_|32,_|33,_|34,_|35,_=>exact sB ho HK Hd
     |15,_=>clear ar an ao;obtain rfl:=yH ho;have bx:(a.tmps[61]?.getD undef)= .int .i64 tw:=BT Hd 12;have cY:(a.tmps[63]?.getD undef)= .int .i64 en_:=BT Hd 14;have d3:(a.tmps[52]?.getD undef)= .bool false:=BT Hd 3;clear Hd Hb;refine AX.yes rfl rfl d3 ?_;go_simp;exact HK.out _ _ rfl (yF _ _)
     |_+36,hq=>omega
    .intro vs wx hR hG
     have bz:(vs 27)= .bool true:=BZ hR 27;clear hR;simp only[Al,AV,yE,yB,yA,yy,bz];simp;clear bz;have bw:=hb.trans (hG.mono hb.size);clear hG x0 x1 DM DW;go_wp2_with fail;go_ret;exact⟨AI S.out.symm,ad.out.trans (bw.mono ad.out.size)⟩
   have t1:(tw !=en_)=false:=by simp[et]
   rw[decide_eq_true et,vS] at ca;have eg:xg=gA↔xg.toList=[97]:=⟨fun h=>by subst h;rw[xz];rfl,fun h=>by rw[xz] at h;cases xg with|mk d=>cases d with|mk l=>simp at h;subst h;rfl⟩;clear et
   rcases wg (xg.toList=[97]) with hg|hg
   rotate_left
   .have t2:(xg.toList==[97])=false:=by simp[hg]
    have bv:FU P k=false:=by rw[ca,decide_eq_false (fun h=>hg (eg.1 h))];rfl
    clear ca hg eg;have S:=AA (dI.out.trans (GD bs bv));go_wp2_with fail;refine Aa 36 86 [.i ((fr:Int)), .b true, .b false, .b false, .p w.heap.size 0, .p w.heap.size 0, .v (.slice (some ⟨bm,om,none⟩) P.zX.mem.length cm), .i ((rn:Int)), .p bm (om+rn), .v (.slice (some ⟨br,cb,none⟩) 4 cr), .i ((k:Int)), .p br (cb+k), .i tw, .i ((fr:Int)), .i en_, .b false, .b false, .b false, .p w.heap.size 0, .p w.heap.size 1, .v (.slice (some ⟨bi,oi,none⟩) P.zX.Os.length ci), .i ((fr:Int)), .p bi (oi+fr*3), .p bi (oi+fr*3+1), .t xg, .b true, .b true, .b true, .u, .u, .u, .u, .u, .u, .u, .u] (fun _ _ _=>True) ?_ ?_
    .intro i hi o ho a wx Hb Hd hG K HK
     have ar:=bc hG a5 x0;have an:=bc hG cy DM;have ao:=bc hG cx DW;have ay:=bc hG a5 x1;have a0:=bc hG cL F1
     match i,hi with
     |0,_|2,_|3,_|4,_|5,_|7,_|10,_|13,_|16,_|17,_|18,_|19,_|21,_|23,_|26,_|27,_=>exact sP ho HK Hb Hd
     |1,_=>exact sD ho HK Hb Hd (CF.out _ hG)
     |6,_=>exact sL ho HK Hb Hd (hl:=GM ‹_›)
     |8,_|11,_|22,_=>exact sI ho HK Hb Hd (hr:=by clear Hd Hb HK;go_simp)
     |9,_=>exact sL ho HK Hb Hd (hl:=Jx ‹_›)
     |12,_=>exact sL ho HK Hb Hd (hl:=Fo ‹_›)
     |14,_=>exact sD ho HK Hb Hd (CP.out _ hG)
     |20,_=>exact sL ho HK Hb Hd (hl:=GF ‹_›)
     |24,_=>exact sL ho HK Hb Hd (hl:=Yf ‹_›)
     |28,_|29,_|30,_|31,_|32,_|33,_|34,_|35,_=>exact sB ho HK Hd
     |15,_=>clear ar an ao ay a0;obtain rfl:=yH ho;have bx:(a.tmps[61]?.getD undef)= .int .i64 tw:=BT Hd 12;have cY:(a.tmps[63]?.getD undef)= .int .i64 en_:=BT Hd 14;have d3:(a.tmps[52]?.getD undef)= .bool false:=BT Hd 3;clear Hd Hb;refine AX.yes rfl rfl d3 ?_;go_simp;exact HK.out _ _ rfl (yF _ _)
     |25,_=>clear ar an ao ay a0;obtain rfl:=yH ho;have f0:(a.tmps[73]?.getD undef)= .string xg:=BT Hd 24;have dG:(a.tmps[66]?.getD undef)= .bool false:=BT Hd 17;clear Hd Hb;refine AX.yes rfl rfl dG ?_;go_simp;exact HK.out _ _ rfl (yF _ _)
     |_+36,hq=>omega
    .intro vs wx hR hG
     have bz:(vs 27)= .bool true:=BZ hR 27;clear hR;simp only[Al,AV,yE,yB,yA,yy,bz];simp;clear bz;have bw:=hb.trans (hG.mono hb.size);clear hG x0 x1 DM DW;go_wp2_with fail;go_ret;exact⟨AI S.out.symm,ad.out.trans (bw.mono ad.out.size)⟩
   have t2:(xg.toList==[97])=true:=by simp[hg]
   rw[decide_eq_true (eg.2 hg),vS] at ca;clear hg eg
   rcases wg (xr=1) with hr1|hr1
   rotate_left
   .have t3:(xr !=1)=true:=by simp[hr1]
    have bv:FU P k=false:=by rw[ca,decide_eq_false hr1]
    clear ca hr1;have S:=AA (dI.out.trans (GD bs bv));go_wp2_with fail;refine Aa 36 86 [.i ((fr:Int)), .b true, .b false, .b false, .p w.heap.size 0, .p w.heap.size 0, .v (.slice (some ⟨bm,om,none⟩) P.zX.mem.length cm), .i ((rn:Int)), .p bm (om+rn), .v (.slice (some ⟨br,cb,none⟩) 4 cr), .i ((k:Int)), .p br (cb+k), .i tw, .i ((fr:Int)), .i en_, .b false, .b false, .b false, .p w.heap.size 0, .p w.heap.size 1, .v (.slice (some ⟨bi,oi,none⟩) P.zX.Os.length ci), .i ((fr:Int)), .p bi (oi+fr*3), .p bi (oi+fr*3+1), .t xg, .b false, .b false, .b false, .p w.heap.size 0, .p w.heap.size 1, .v (.slice (some ⟨bi,oi,none⟩) P.zX.Os.length ci), .i ((fr:Int)), .p bi (oi+fr*3), .p bi (oi+fr*3+2), .i xr, .b true] (fun _ _ _=>True) ?_ ?_
    .intro i hi o ho a wx Hb Hd hG K HK
     have ar:=bc hG a5 x0;have an:=bc hG cy DM;have ao:=bc hG cx DW;have ay:=bc hG a5 x1;have a0:=bc hG cL F1;have a9:=bc hG cL F2
     match i,hi with
     |0,_|2,_|3,_|4,_|5,_|7,_|10,_|13,_|16,_|17,_|18,_|19,_|21,_|23,_|26,_|27,_|28,_|29,_|31,_|33,_=>exact sP ho HK Hb Hd
     |1,_=>exact sD ho HK Hb Hd (CF.out _ hG)
     |6,_=>exact sL ho HK Hb Hd (hl:=GM ‹_›)
     |8,_|11,_|22,_|32,_=>exact sI ho HK Hb Hd (hr:=by clear Hd Hb HK;go_simp)
     |9,_=>exact sL ho HK Hb Hd (hl:=Jx ‹_›)
     |12,_|34,_=>exact sL ho HK Hb Hd (hl:=Fo ‹_›)
     |14,_=>exact sD ho HK Hb Hd (CP.out _ hG)
     |20,_|30,_=>exact sL ho HK Hb Hd (hl:=GF ‹_›)
     |24,_=>exact sL ho HK Hb Hd (hl:=Yf ‹_›)
     |15,_=>clear ar an ao ay a0 a9;obtain rfl:=yH ho;have bx:(a.tmps[61]?.getD undef)= .int .i64 tw:=BT Hd 12;have cY:(a.tmps[63]?.getD undef)= .int .i64 en_:=BT Hd 14;have d3:(a.tmps[52]?.getD undef)= .bool false:=BT Hd 3;clear Hd Hb;refine AX.yes rfl rfl d3 ?_;go_simp;exact HK.out _ _ rfl (yF _ _)
     |25,_=>clear ar an ao ay a0 a9;obtain rfl:=yH ho;have f0:(a.tmps[73]?.getD undef)= .string xg:=BT Hd 24;have dG:(a.tmps[66]?.getD undef)= .bool false:=BT Hd 17;clear Hd Hb;refine AX.yes rfl rfl dG ?_;go_simp;exact HK.out _ _ rfl (yF _ _)
     |35,_=>clear ar an ao ay a0 a9;obtain rfl:=yH ho;have hX:(a.tmps[83]?.getD undef)= .int .i64 xr:=BT Hd 34;have e8:(a.tmps[76]?.getD undef)= .bool false:=BT Hd 27;clear Hd Hb;refine AX.yes rfl rfl e8 ?_;go_simp;exact HK.out _ _ rfl (yF _ _)
     |_+36,hq=>omega
    .intro vs wx hR hG
     have bz:(vs 27)= .bool false:=BZ hR 27;have dg:(vs 35)= .bool true:=BZ hR 35;clear hR;simp only[Al,AV,yE,yB,yA,yy,bz,dg];simp;clear bz dg;have bw:=hb.trans (hG.mono hb.size);clear hG x0 x1 DM DW;go_wp2_with fail;go_ret;exact⟨AI S.out.symm,ad.out.trans (bw.mono ad.out.size)⟩
   have t3:(xr !=1)=false:=by simp[hr1]
   have g7:FU P k=true:=by rw[ca,decide_eq_true hr1]
   clear ca hr1;have S:=AA (g7);go_wp2_with fail;refine Aa 36 86 [.i ((fr:Int)), .b true, .b false, .b false, .p w.heap.size 0, .p w.heap.size 0, .v (.slice (some ⟨bm,om,none⟩) P.zX.mem.length cm), .i ((rn:Int)), .p bm (om+rn), .v (.slice (some ⟨br,cb,none⟩) 4 cr), .i ((k:Int)), .p br (cb+k), .i tw, .i ((fr:Int)), .i en_, .b false, .b false, .b false, .p w.heap.size 0, .p w.heap.size 1, .v (.slice (some ⟨bi,oi,none⟩) P.zX.Os.length ci), .i ((fr:Int)), .p bi (oi+fr*3), .p bi (oi+fr*3+1), .t xg, .b false, .b false, .b false, .p w.heap.size 0, .p w.heap.size 1, .v (.slice (some ⟨bi,oi,none⟩) P.zX.Os.length ci), .i ((fr:Int)), .p bi (oi+fr*3), .p bi (oi+fr*3+2), .i xr, .b false] (fun _ _ _=>True) ?_ ?_
   .intro i hi o ho a wx Hb Hd hG K HK
    have ar:=bc hG a5 x0;have an:=bc hG cy DM;have ao:=bc hG cx DW;have ay:=bc hG a5 x1;have a0:=bc hG cL F1;have a9:=bc hG cL F2
    match i,hi with
    |0,_|2,_|3,_|4,_|5,_|7,_|10,_|13,_|16,_|17,_|18,_|19,_|21,_|23,_|26,_|27,_|28,_|29,_|31,_|33,_=>exact sP ho HK Hb Hd
    |1,_=>exact sD ho HK Hb Hd (CF.out _ hG)
    |6,_=>exact sL ho HK Hb Hd (hl:=GM ‹_›)
    |8,_|11,_|22,_|32,_=>exact sI ho HK Hb Hd (hr:=by clear Hd Hb HK;go_simp)
    |9,_=>exact sL ho HK Hb Hd (hl:=Jx ‹_›)
    |12,_|34,_=>exact sL ho HK Hb Hd (hl:=Fo ‹_›)
    |14,_=>exact sD ho HK Hb Hd (CP.out _ hG)
    |20,_|30,_=>exact sL ho HK Hb Hd (hl:=GF ‹_›)
    |24,_=>exact sL ho HK Hb Hd (hl:=Yf ‹_›)
    |15,_=>clear ar an ao ay a0 a9;obtain rfl:=yH ho;have bx:(a.tmps[61]?.getD undef)= .int .i64 tw:=BT Hd 12;have cY:(a.tmps[63]?.getD undef)= .int .i64 en_:=BT Hd 14;have d3:(a.tmps[52]?.getD undef)= .bool false:=BT Hd 3;clear Hd Hb;refine AX.yes rfl rfl d3 ?_;go_simp;exact HK.out _ _ rfl (yF _ _)
    |25,_=>clear ar an ao ay a0 a9;obtain rfl:=yH ho;have f0:(a.tmps[73]?.getD undef)= .string xg:=BT Hd 24;have dG:(a.tmps[66]?.getD undef)= .bool false:=BT Hd 17;clear Hd Hb;refine AX.yes rfl rfl dG ?_;go_simp;exact HK.out _ _ rfl (yF _ _)
    |35,_=>clear ar an ao ay a0 a9;obtain rfl:=yH ho;have hX:(a.tmps[83]?.getD undef)= .int .i64 xr:=BT Hd 34;have e8:(a.tmps[76]?.getD undef)= .bool false:=BT Hd 27;clear Hd Hb;refine AX.yes rfl rfl e8 ?_;go_simp;exact HK.out _ _ rfl (yF _ _)
    |_+36,hq=>omega
   .intro vs wx hR hG
    have bz:(vs 27)= .bool false:=BZ hR 27;have dg:(vs 35)= .bool false:=BZ hR 35;clear hR;simp only[Al,AV,yE,yB,yA,yy,bz,dg];simp;clear bz dg;have bw:=hb.trans (hG.mono hb.size);clear hG x0 x1 DM DW;go_wp2_with fail;go_roundw
    case rel=>exact⟨k+1,by omega,by go_num,Aj a3.out S.out,bw⟩
    case measure=>simp[intOf];omega
  .have ek:k=4:=by omega
   have ac:=a3.out;rw[ek] at ac;have S:=AA (dI.out.trans (yk.2 fun j hj=>ac j (yj.1 hj)));have du:¬(k:Int)<4:=by omega
   clear a3 ac;go_wp2_with fail;go_ret;exact⟨AI S.out.symm,ad.out.trans (hb.mono ad.out.size)⟩
theorem TZ {l:List Bi} {k s:Nat} (hk:k<l.length):CJ (l.take (k+1)) s=CJ (l.take k) s+(if(AB l k).w=2/\(AB l k).a=(s:Int) then 1 else 0):=by
 unfold CJ;rw[Cw (x:=AB l k) (A1 hk),List.countP_append]
 congr 1
 simp only[List.countP_cons,List.countP_nil,Cu,Bool.and_eq_true,decide_eq_true_eq,Nat.zero_add]
theorem WB {l:List Bi} {s:Nat}:CJ l s<=l.length:=by unfold CJ;exact List.countP_le_length
theorem Sq (mv iv ev cv sv lv qv:Value) (P:AR) (w:World) (h:Lr w mv iv ev cv sv lv qv P) (cd:P.swap.length=16) (cF:P.No.length<=1048576):
 Calls prog 44 #[AQ mv iv ev cv sv lv qv P.zT P.zW] w fun r w'=>r= .returned (.bool ((yE 16).all (Dl P)))/\Below w.heap.size w w':=by
 unfold AQ;obtain⟨res,hres⟩:∃res,res=(yE 16).all (Dl P):=⟨_,rfl⟩
 rw[<-hres];have dM:=AA hres;clear hres;have N0:=yw w (.cells #[mv,iv,ev,cv,sv,lv,qv, .int .i64 P.zT, .int .i64 P.zW] 32);have b0:=AD w (.cells #[mv,iv,ev,cv,sv,lv,qv, .int .i64 P.zT, .int .i64 P.zW] 32);have h0:=h.below b0;obtain⟨aq,cq,rfl,_,_,gg⟩:=BJ.open Ew (by decide) h0.2.2.2;obtain⟨f4,f3,rfl,_,_,cB⟩:=h0.2.1.open;obtain⟨_,_,_,_,x4,_,x6,_,_⟩:=AE N0;have ff:=AA cd;clear h cd N0 h0;go_in;go_wp2_with fail;generalize w.alloc _=W0 at*;have HQ:=AA gg;have HS:=AA cB;have ad:=AA b0;clear gg cB b0;go_loopw [3,4,5] (fun ix _ _ wr=>∃i0:Nat,i0<=16/\ix= .int .i64 i0/\(∀j,j<i0->Dl P j=true)/\W0=wr) (fun ix _ _ _=>16 - (intOf ix).toNat)
 case atStart=>exact⟨0,yh _,rfl,fun j hj=>absurd hj (xR _),rfl⟩
 case round=>
  obtain⟨i0,hi,rfl,ac,rfl⟩:=hrel;have a3:=AA ac;clear ac
  by_cases bs:i0<16
  .have ee:(i0:Int)<P.swap.length:=by have:=ff.out;omega
   go_wp2_with fail;go_loopw [4,5] (fun s4 s5 wi=>∃k:Nat,k<=P.No.length/\s5= .int .i64 k/\s4= .int .i64 (CJ (P.No.take k) i0:Nat)/\W0=wi) (fun _ s5 _=>P.No.length - (intOf s5).toNat)
   case atStart=>exact⟨0,yh _,rfl,rfl,rfl⟩
   case round=>
    obtain⟨k,hk,rfl,rfl,rfl⟩:=hrel
    by_cases eL:k<P.No.length
    .have du:(k:Int)<P.No.length:=by omega
     obtain⟨b,gz,rfl,_,D0,D1,_⟩:=HQ.out.zt eL;have S:=TZ (s:=i0) eL;have hE:=WB (l:=P.No.take k) (s:=i0);rw[List.length_take] at hE
     by_cases hw:(AB P.No k).w=2
     .have t0:((AB P.No k).w==2)=true:=by simp[hw]
      by_cases ha:(AB P.No k).a=(i0:Int)
      .have t1:((AB P.No k).a==(i0:Int))=true:=by simp[ha]
       rw[if_pos ⟨hw,ha⟩] at S;have S:=AA S;generalize CJ (P.No.take k) i0=n0 at*;clear hw ha;go_wp2_with fail;go_roundw
       case rel=>exact⟨k+1,by omega,by go_num,by rw[S.out];go_num,by first|rfl|trivial⟩
       case measure=>simp[intOf];omega
      .have t1:((AB P.No k).a==(i0:Int))=false:=by simp[ha]
       rw[if_neg (fun h=>ha h.2)] at S;have S:=AA S;clear hw ha;go_wp2_with fail;go_roundw
       case rel=>exact⟨k+1,by omega,by go_num,by rw[S.out,xQ],by first|rfl|trivial⟩
       case measure=>simp[intOf];omega
     .have t0:((AB P.No k).w==2)=false:=by simp[hw]
      rw[if_neg (fun h=>hw h.1)] at S;have S:=AA S;clear hw;go_wp2_with fail;go_roundw
      case rel=>exact⟨k+1,by omega,by go_num,by rw[S.out,xQ],by first|rfl|trivial⟩
      case measure=>simp[intOf];omega
    .obtain rfl:k=P.No.length:=by omega
     have du:¬(P.No.length:Int)<P.No.length:=by omega
     rw[List.take_length];obtain⟨b,gz,u,rfl,eS,D,hr⟩:=HS.out i0 (by have:=ff.out;omega);obtain⟨au,cu,rfl,_,_,_⟩:=hr.open;have SO:Dl P i0=decide (CJ P.No i0=if(AH P.swap i0).isEmpty then 0 else 1):=rfl;have EM:(AH P.swap i0).isEmpty=true↔(AH P.swap i0).length=0:=by cases AH P.swap i0<;>simp
     have cP:=AA (fun(hx:Dl P i0=false)=>(dM.out.trans (GD bs hx):res=false));generalize CJ P.No i0=n0 at SO ⊢;have g9:(0:Int)<=((AH P.swap i0).length:Int):=by omega
     by_cases h1:1<n0
     .have t1:(1:Int)<(n0:Int):=by omega
      have S:=AA (cP.out (by rw[SO];split<;>simp<;>omega));clear SO EM hr;go_wp2_with fail;go_ret;exact⟨AI S.out.symm,ad.out⟩
     .have t1:¬(1:Int)<(n0:Int):=by omega
      by_cases he:(AH P.swap i0).length=0
      .have t2:¬(0:Int)<((AH P.swap i0).length:Int):=by omega
       have gt:decide (0<(AH P.swap i0).length)=false:=decide_eq_false (by omega);rw[if_pos (EM.2 he)] at SO
       by_cases hn:n0=0
       .have t3:((n0:Int)==1)=false:=beq_eq_false_iff_ne.2 (by omega)
        have S:=AA (show Dl P i0=true by rw[SO];simp[hn]);clear SO EM hr hn he;go_wp2_with fail;go_roundw
        case rel=>exact⟨i0+1,by omega,by go_num,Aj a3.out S.out,by first|rfl|trivial⟩
        case measure=>simp[intOf];omega
       .have t3:((n0:Int)==1)=true:=beq_iff_eq.2 (by omega)
        have S:=AA (cP.out (by rw[SO];simp[hn]));clear SO EM hr hn he;go_wp2_with fail;go_ret;exact⟨AI S.out.symm,ad.out⟩
      .have t2:(0:Int)<((AH P.swap i0).length:Int):=by omega
       have gt:decide (0<(AH P.swap i0).length)=true:=decide_eq_true (by omega);rw[if_neg (fun h=>he (EM.1 h))] at SO
       by_cases hn:n0=1
       .have t3:((n0:Int)==1)=true:=beq_iff_eq.2 (by omega)
        have S:=AA (show Dl P i0=true by rw[SO];simp[hn]);clear SO EM hr hn he;go_wp2_with fail;go_roundw
        case rel=>exact⟨i0+1,by omega,by go_num,Aj a3.out S.out,by first|rfl|trivial⟩
        case measure=>simp[intOf];omega
       .have t3:((n0:Int)==1)=false:=beq_eq_false_iff_ne.2 (by omega)
        have S:=AA (cP.out (by rw[SO];simp[hn]));clear SO EM hr hn he;go_wp2_with fail;go_ret;exact⟨AI S.out.symm,ad.out⟩
  .have ek:i0=16:=by omega
   have ac:=a3.out;rw[ek] at ac;have S:=AA (show res=true from dM.out.trans (yk.2 fun j hj=>ac j (yj.1 hj)));have ee:¬(i0:Int)<P.swap.length:=by have:=ff.out;omega
   clear a3 ac;go_wp2_with fail;go_ret;exact⟨AI S.out.symm,ad.out⟩
theorem GT (mv iv ev cv sv lv qv:Value) (P:AR) (w:World) (h:Lr w mv iv ev cv sv lv qv P) (hs:EQ P.zX):
 Calls prog 17 #[AQ mv iv ev cv sv lv qv P.zT P.zW] w fun r w'=>r= .returned (.bool (Bz P))/\Below w.heap.size w w':=by
 obtain⟨po,hpo⟩:∃po,po=Bz P:=⟨_,rfl⟩
 rw[<-hpo];have PO:=AA (show po=(Cj P.zX&&Ey P.swap&&GV P.zX&&Bt P&&decide (P.No.length=16)&&(yE 16).all (Dl P)&&(yE 16).all (GG P)&&Bd P.zT 0 15&&Bd P.zW 1 6&&decide ((Ai P.No 1:Int)<=P.zW)) from hpo);clear hpo;unfold AQ;have N0:=yw w (.cells #[mv,iv,ev,cv,sv,lv,qv, .int .i64 P.zT, .int .i64 P.zW] 32);have b0:=AD w (.cells #[mv,iv,ev,cv,sv,lv,qv, .int .i64 P.zT, .int .i64 P.zW] 32);have HR:=AA (h.below b0);have Hs:=AA hs;obtain⟨aq,cq,rfl,_,_⟩:=h.2.2.2.shape;obtain⟨x0,x1,x2,x3,x4,x5,x6,x7,x8⟩:=AE N0;clear h hs;go_in;go_wp2_with fail;generalize w.alloc _=W0 at*;have HN:=AA N0;have ad:=AA b0;have hb:Below W0.heap.size W0 W0:=yF _ _;clear N0 b0;cases e1:Cj P.zX
 .have S:=AA (show po=false by rw[PO.out];simp[e1])
  have C:=J3 mv iv ev cv P.zX _ (HR.out.1.below hb) Hs.out;rw[e1] at C;clear e1;go_wp2_with fail;refine C.mono ?_;rintro r w_ ⟨rfl,az⟩;clear x0 x1 x2 x3 x4 x5 x6 x7 x8;go_wp2_with fail;go_ret;exact⟨AI S.out.symm,ad.out.trans ((hb.trans (az.mono hb.size)).mono ad.out.size)⟩
 have C:=J3 mv iv ev cv P.zX _ (HR.out.1.below hb) Hs.out;rw[e1] at C;have T1:=AA e1;rw[e1] at PO;clear e1;go_wp2_with fail;refine C.mono ?_;rintro r w_ ⟨rfl,az⟩;replace hb:=hb.trans (az.mono hb.size);clear az C x0 x1 x2 x3 x4 x5 x6 x7 x8;obtain⟨x0,x1,x2,x3,x4,x5,x6,x7,x8⟩:=AE (AC HN.out hb);cases e2:Ey P.swap
 .have S:=AA (show po=false by rw[PO.out];simp[e2])
  have C:=G0 sv P.swap _ (HR.out.2.1.below hb);rw[e2] at C;clear e2;go_wp2_with fail;refine C.mono ?_;rintro r w_ ⟨rfl,az⟩;clear x0 x1 x2 x3 x4 x5 x6 x7 x8;go_wp2_with fail;go_ret;exact⟨AI S.out.symm,ad.out.trans ((hb.trans (az.mono hb.size)).mono ad.out.size)⟩
 have C:=G0 sv P.swap _ (HR.out.2.1.below hb);rw[e2] at C;have T2:=AA e2;rw[e2] at PO;clear e2;go_wp2_with fail;refine C.mono ?_;rintro r w_ ⟨rfl,az⟩;replace hb:=hb.trans (az.mono hb.size);clear az C x0 x1 x2 x3 x4 x5 x6 x7 x8;obtain⟨x0,x1,x2,x3,x4,x5,x6,x7,x8⟩:=AE (AC HN.out hb);cases e3:GV P.zX
 .have S:=AA (show po=false by rw[PO.out];simp[e3])
  have C:=Mb mv iv ev cv P.zX _ (HR.out.1.2.2.1.below hb) (EU.1 T1.out).zP Hs.out.2;rw[e3] at C;clear e3;go_wp2_with fail;refine C.mono ?_;rintro r w_ ⟨rfl,az⟩;clear x0 x1 x2 x3 x4 x5 x6 x7 x8;go_wp2_with fail;go_ret;exact⟨AI S.out.symm,ad.out.trans ((hb.trans (az.mono hb.size)).mono ad.out.size)⟩
 have C:=Mb mv iv ev cv P.zX _ (HR.out.1.2.2.1.below hb) (EU.1 T1.out).zP Hs.out.2;rw[e3] at C;have T3:=AA e3;rw[e3] at PO;clear e3;go_wp2_with fail;refine C.mono ?_;rintro r w_ ⟨rfl,az⟩;replace hb:=hb.trans (az.mono hb.size);clear az C x0 x1 x2 x3 x4 x5 x6 x7 x8;obtain⟨x0,x1,x2,x3,x4,x5,x6,x7,x8⟩:=AE (AC HN.out hb);have TX:=AA (fun W (hW:Below W0.heap.size W0 W)=>Qd mv iv ev cv sv lv _ P W (HR.out.below hW) T1.out);unfold AQ at TX;cases e4:Bt P
 .have S:=AA (show po=false by rw[PO.out];simp[e4])
  have C:=TX.out _ hb;rw[e4] at C;clear e4;go_wp2_with fail;refine C.mono ?_;rintro r w_ ⟨rfl,az⟩;clear x0 x1 x2 x3 x4 x5 x6 x7 x8;go_wp2_with fail;go_ret;exact⟨AI S.out.symm,ad.out.trans ((hb.trans (az.mono hb.size)).mono ad.out.size)⟩
 have C:=TX.out _ hb;rw[e4] at C;have T4:=AA e4;rw[e4] at PO;clear e4;go_wp2_with fail;refine C.mono ?_;rintro r w_ ⟨rfl,az⟩;replace hb:=hb.trans (az.mono hb.size);clear az C x0 x1 x2 x3 x4 x5 x6 x7 x8;obtain⟨x0,x1,x2,x3,x4,x5,x6,x7,x8⟩:=AE (AC HN.out hb);clear TX
 rcases wg (P.No.length=16) with cF|cF
 rotate_left
 .have S:=AA (show po=false by rw[PO.out];simp[cF])
  have t5:((P.No.length:Int) !=16)=true:=bne_iff_ne.2 (by omega);clear cF;go_wp2_with fail;go_ret;exact⟨AI S.out.symm,ad.out.trans (hb.mono ad.out.size)⟩
 have t5:((P.No.length:Int) !=16)=false:=by rw[cF];rfl
 have dN:=AA cF;rw[decide_eq_true cF] at PO;clear cF;have SX:=AA (fun W (hW:Below W0.heap.size W0 W)=>Sq mv iv ev cv sv lv _ P W (HR.out.below hW) (F7.1 T2.out).1 (by have:=dN.out;omega));unfold AQ at SX;obtain⟨sl,cd⟩:∃sl,sl=(yE 16).all (Dl P):=⟨_,rfl⟩
 rw[<-cd] at SX PO;clear cd;cases e6:sl
 .have S:=AA (show po=false by rw[PO.out];simp[e6])
  have C:=SX.out _ hb;rw[e6] at C;clear e6;go_wp2_with fail;refine C.mono ?_;rintro r w_ ⟨rfl,az⟩;clear x0 x1 x2 x3 x4 x5 x6 x7 x8;go_wp2_with fail;go_ret;exact⟨AI S.out.symm,ad.out.trans ((hb.trans (az.mono hb.size)).mono ad.out.size)⟩
 have C:=SX.out _ hb;rw[e6] at C;have T6:=AA e6;rw[e6] at PO;clear e6;go_wp2_with fail;refine C.mono ?_;rintro r w_ ⟨rfl,az⟩;replace hb:=hb.trans (az.mono hb.size);clear az C x0 x1 x2 x3 x4 x5 x6 x7 x8;obtain⟨x0,x1,x2,x3,x4,x5,x6,x7,x8⟩:=AE (AC HN.out hb);clear SX t5;have dp:=AA (QC T4.out);have HF:Hid (af P):=AA ⟨T1.out,T2.out,dp.out.1,dp.out.2,dN.out⟩;have fA:=AA (fun W (hW:Below W0.heap.size W0 W) n (hn:n<16)=>UU mv iv ev cv sv lv _ P n W (HR.out.below hW) HF.out hn);unfold AQ at fA;have cJ:=AA hb;clear hb x0 x1 x2 x3 x4 x5 x6 x7 x8;go_wp2_with fail;go_loopw [3] (fun s3 wr=>∃k:Nat,k<=16/\s3= .int .i64 k/\(∀j,j<k->GG P j=true)/\Below W0.heap.size W0 wr) (fun s3 _=>16 - (intOf s3).toNat)
 case atStart=>exact⟨0,yh _,rfl,fun j hj=>absurd hj (xR _),cJ.out⟩
 case round=>
  obtain⟨k,hk,rfl,ac,hb⟩:=hrel;have a3:=AA ac;clear ac;obtain⟨x0,x1,x2,x3,x4,x5,x6,x7,x8⟩:=AE (AC HN.out hb)
  by_cases bs:k<16
  .have du:(k:Int)<P.No.length:=by have:=dN.out;omega
   have C:=fA.out wr hb k bs;cases e1:GG P k
   .rw[e1] at C
    have S:=AA (show po=false by rw[PO.out,GD bs e1];simp);clear e1;go_wp2_with fail;refine C.mono ?_;rintro r w_ ⟨rfl,az⟩;go_wp2_with fail;go_ret;exact⟨AI S.out.symm,ad.out.trans ((hb.trans (az.mono hb.size)).mono ad.out.size)⟩
   .rw[e1] at C
    have S:=AA e1;clear e1;go_wp2_with fail;refine C.mono ?_;rintro r w_ ⟨rfl,az⟩;go_wp2_with fail;go_roundw
    case rel=>exact⟨k+1,by omega,by go_num,Aj a3.out S.out,hb.trans (az.mono hb.size)⟩
    case measure=>simp[intOf];omega
  .have ek:k=16:=by omega
   have ac:=a3.out;rw[ek] at ac;have bn:=AA (show po=(Bd P.zT 0 15&&Bd P.zW 1 6&&decide ((Ai P.No 1:Int)<=P.zW)) by
    rw[PO.out,show(yE 16).all (GG P)=true from yk.2 fun j hj=>ac j (yj.1 hj)];simp)
   have du:¬(k:Int)<P.No.length:=by have:=dN.out;omega
   have b9:=AY (AC HN.out hb);have cS:=fun W (hW:Below wr.heap.size wr W)=>BM (Cv P.zT 0 15 W)
   have cR:=fun W (hW:Below wr.heap.size wr W)=>BM (Cv P.zW 1 6 W)
   have eu:=fun W (hW:Below wr.heap.size wr W)=>Mc mv iv ev cv sv lv _ P 1 W (BJ.below (BJ.below HR.out.2.2.2 hb) hW) (by have:=dN.out;omega)
   unfold AQ at eu;generalize Ai P.No 1=cn at eu bn;have CN:=AA eu;clear a3 ac eu PO fA;cases h1:Bd P.zT 0 15
   .rw[h1] at cS
    have CH:=AA cS;have S:=AA (show po=false by rw[bn.out,h1];rfl);clear cS cR h1;go_wp2_with fail;refine Aa 14 62 [.p w.heap.size 7, .i (P.zT), .b false, .b false, .u, .u, .u, .b false, .b false, .u, .u, .u, .u, .u] (fun _ _ _=>True) ?_ ?_
    .intro i hi o ho a wx Hb Hd hG K HK
     have ar:=bc hG b9 x7
     match i,hi with
     |0,_|3,_|7,_|8,_=>exact sP ho HK Hb Hd
     |1,_=>exact sL ho HK Hb Hd (hl:=Fo ‹_›)
     |2,_=>exact sD ho HK Hb Hd (CH.out _ hG)
     |4,_|5,_|6,_|9,_|10,_|11,_|12,_|13,_=>exact sB ho HK Hd
    .intro vs wx hR hG
     have q8:(vs 8)= .bool false:=BZ hR 8;clear hR;simp only[Al,AV,yE,yB,yA,yy,q8];simp;clear q8;have bw:=hb.trans (hG.mono hb.size);clear x0 x1 x2 x3 x4 x5 x6 x7 x8 hG;go_wp2_with fail;go_ret;exact⟨AI S.out.symm,ad.out.trans (bw.mono ad.out.size)⟩
   .rw[h1] at cS
    have CH:=AA cS;cases h2:Bd P.zW 1 6
    .rw[h2] at cR
     have CL:=AA cR;have S:=AA (show po=false by rw[bn.out,h1,h2];rfl);clear cS cR h1 h2;go_wp2_with fail;refine Aa 14 62 [.p w.heap.size 7, .i (P.zT), .b true, .b true, .p w.heap.size 8, .i (P.zW), .b false, .b false, .b false, .u, .u, .u, .u, .u] (fun _ _ _=>True) ?_ ?_
     .intro i hi o ho a wx Hb Hd hG K HK
      have ar:=bc hG b9 x7;have an:=bc hG b9 x8
      match i,hi with
      |0,_|3,_|4,_|7,_|8,_=>exact sP ho HK Hb Hd
      |1,_|5,_=>exact sL ho HK Hb Hd (hl:=Fo ‹_›)
      |2,_=>exact sD ho HK Hb Hd (CH.out _ hG)
      |6,_=>exact sD ho HK Hb Hd (CL.out _ hG)
      |9,_|10,_|11,_|12,_|13,_=>exact sB ho HK Hd
     .intro vs wx hR hG
      have q8:(vs 8)= .bool false:=BZ hR 8;clear hR;simp only[Al,AV,yE,yB,yA,yy,q8];simp;clear q8;have bw:=hb.trans (hG.mono hb.size);clear x0 x1 x2 x3 x4 x5 x6 x7 x8 hG;go_wp2_with fail;go_ret;exact⟨AI S.out.symm,ad.out.trans (bw.mono ad.out.size)⟩
    .rw[h2] at cR
     have CL:=AA cR;have S:=AA (show po=decide ((cn:Int)<=P.zW) by rw[bn.out,h1,h2];rfl);clear cS cR h1 h2;go_wp2_with fail;refine Aa 14 62 [.p w.heap.size 7, .i (P.zT), .b true, .b true, .p w.heap.size 8, .i (P.zW), .b true, .b true, .b true, .a #[mv,iv,ev,cv,sv,lv, .slice aq P.No.length cq, .int .i64 (P.zT), .int .i64 (P.zW)], .i ((cn:Int)), .p w.heap.size 8, .i (P.zW), .b (decide ((cn:Int)<=P.zW))] (fun _ _ _=>True) ?_ ?_
     .intro i hi o ho a wx Hb Hd hG K HK
      have ar:=bc hG b9 x7;have an:=bc hG b9 x8;have ao:=bc hG b9 x0;have ay:=bc hG b9 x1;have a0:=bc hG b9 x2;have a9:=bc hG b9 x3;have dj:=bc hG b9 x4;have ex:=bc hG b9 x5;have fD:=bc hG b9 x6
      match i,hi with
      |0,_|3,_|4,_|7,_|8,_|11,_=>exact sP ho HK Hb Hd
      |1,_|5,_|12,_=>exact sL ho HK Hb Hd (hl:=Fo ‹_›)
      |2,_=>exact sD ho HK Hb Hd (CH.out _ hG)
      |6,_=>exact sD ho HK Hb Hd (CL.out _ hG)
      |9,_=>exact sL ho HK Hb Hd (hl:=Vn ‹_› ‹_› ‹_› ‹_› ‹_› ‹_› ‹_› ‹_› ‹_›)
      |10,_=>exact sD ho HK Hb Hd (CN.out _ hG)
      |13,_=>clear ar an ao ay a0 a9 dj ex fD;obtain rfl:=yH ho;have dH:(a.tmps[57]?.getD undef)= .int .i64 cn:=BT Hd 10;have bx:(a.tmps[59]?.getD undef)= .int .i64 (P.zW):=BT Hd 12;have d8:(a.tmps[55]?.getD undef)= .bool true:=BT Hd 8;clear Hd Hb;refine AX.yes rfl rfl d8 ?_;go_simp;exact HK.out _ _ rfl (yF _ _)
     .intro vs wx hR hG
      have q8:(vs 8)= .bool true:=BZ hR 8;have di:(vs 13)= .bool (decide ((cn:Int)<=P.zW)):=BZ hR 13;clear hR;simp only[Al,AV,yE,yB,yA,yy,q8,di];simp;clear q8 di;have bw:=hb.trans (hG.mono hb.size);clear x0 x1 x2 x3 x4 x5 x6 x7 x8 hG;go_wp2_with fail;go_ret;exact⟨AI S.out.symm,ad.out.trans (bw.mono ad.out.size)⟩
end Go.Proofs.YtinbcpipjfljeaaGreatDoor
