/-
  Packed:9 texts.
-/
import Derived.Test.YtinbcpipjfljeaaGreatDoorY1
import Derived.Test.YtinbcpipjfljeaaGreatDoorY13
import Derived.Test.YtinbcpipjfljeaaGreatDoorY5
import Derived.Test.YtinbcpipjfljeaaGreatDoorY10
import Derived.Test.YtinbcpipjfljeaaGreatDoorY8
import Derived.Test.YtinbcpipjfljeaaGreatDoorY11
import Derived.Test.YtinbcpipjfljeaaGreatDoorY7
set_option linter.unusedVariables false
set_option linter.unusedSimpArgs false
set_option maxHeartbeats 16000000
set_option maxRecDepth 100000
open Go Go.Proofs.YtinbcpipjfljeaaGreatDoor
open And renaming intro->ye
open Go.IntWalk renaming i64_in->xy
open Go.Proofs.Tryz renaming results19->sQ,results48->sR
open Go.RowKit.Below renaming refl->yF
open Go.Value renaming oneCell'->xE,ownBlock->uQ,slice->xB
open Go.Value.slice renaming injEq->xD
open Go.World.ownsRow renaming cellAt->xC,frozenAt->xP,lt->yr,stored->wA
open Go renaming bodyPost_ret->yp,heap_alloc_new->yw,heap_setCell_same->yu
open Int renaming eq_ofNat_of_zero_le->yd
open List renaming foldl_cons->yA,foldl_nil->yy,getD_eq_getElem?_getD->xU,getElem?_eq_getElem->yx,getElem?_set_self->xK,getElem?_take->tv,length_append->yl,length_set->xV,length_take->xW,mem_cons->xm,not_mem_nil->wM,range->yE
open List.range renaming loop->yB
open Nat renaming le_refl->yv,le_succ->wB,le_trans->yD,lt_of_lt_of_le->xZ,min_eq_left->ue,mul_le_mul_right->vK,zero_le->yh
variable {al n:Nat}
namespace Go.Proofs.YtinbcpipjfljeaaGreatDoor
open Go.Proofs.Tryz
open Go.RowKit
theorem Pf.mono{w0 w W1 wr:World}{g N M b:Nat}(h:Pf w0 g N w W1 b wr)(hm:N<=M):Pf w0 g M w W1 b wr:=by obtain⟨m,i,e,c,s,l,q,P,h⟩:=h;exact⟨m,i,e,c,s,l,q,P,h.mono hm⟩
theorem Sy{w0 w:World}{g N:Nat}(h:Dr w0 g N w)(hN:N<=100000):
 Calls prog 47 #[.pointer (some ⟨g,0,none⟩)] w (bM EC w0 g (N+900) w):=by
 have ad:=h.lt;have ai:w0.heap.size<=w.heap.size:=h.2.1.size;have B0:=yw w (.cells #[.slice none 0 0,.slice none 0 0,.slice none 0 0,.slice none 0 0,.slice none 0 0,.slice none 0 0,.slice none 0 0,.int .i64 0,.int .i64 0] 32);have bA:=AD w (.cells #[.slice none 0 0,.slice none 0 0,.slice none 0 0,.slice none 0 0,.slice none 0 0,.slice none 0 0,.slice none 0 0,.int .i64 0,.int .i64 0] 32);have gA:=AW bA (some g);have hA:=h.below bA;have bg:=AY B0;go_in;go_wp2_with fail;generalize w.alloc _=wa at*;refine(hA.pick _).mono ?_;rintro e w2 ⟨y,rfl,y0,y1,h2,g2⟩;replace y1:=y1 (by decide);have R2:=(g2.block w.heap.size bg (by simp;omega)).trans B0;have G2:=AO gA g2;have eD:w.heap.size+1<=w2.heap.size:=yD bg g2.size;clear hA gA B0 bA g2 h bg;go_wp2_with fail;refine(Mp (1+y) w2 (by omega) (by omega)).mono ?_;rintro e w6 ⟨m1,i1,e1,c1,s1,l1,q1,rfl,O6,b6⟩;obtain⟨⟨⟨ma,mn,mc,rfl⟩,⟨ia,iN,ic,rfl⟩,⟨ea,en,ec,rfl⟩,⟨ca,cn,cc,rfl⟩⟩,⟨sa,sn,sc,rfl⟩,⟨la,ln,lc,rfl⟩,⟨qa,qn,qc,rfl⟩⟩:=O6.zS;have ba:EC (Uc (1+y)):=WW (by omega) (by omega);clear y0 y1;generalize Uc (1+y)=P1 at*;unfold AQ;have bB:=AD w6 (.cells #[.slice ma mn mc,.slice ia iN ic,.slice ea en ec,.slice ca cn cc,.slice sa sn sc,.slice la ln lc,.slice qa qn qc,.int .i64 P1.zT,.int .i64 P1.zW] 32);have bl:=b6.trans (bB.mono b6.size);have St:Kg w0 g (N+1) w (w6.alloc (.cells #[.slice ma mn mc,.slice ia iN ic,.slice ea en ec,.slice ca cn cc,.slice sa sn sc,.slice la ln lc,.slice qa qn qc,.int .i64 P1.zT,.int .i64 P1.zW] 32)) w6.heap.size _ _ _ _ _ _ _ P1 (w6.alloc (.cells #[.slice ma mn mc,.slice ia iN ic,.slice ea en ec,.slice ca cn cc,.slice sa sn sc,.slice la ln lc,.slice qa qn qc,.int .i64 P1.zT,.int .i64 P1.zW] 32)):=⟨h2.below bl,AO G2 (AW bl _),yw _ _,O6.map (J4 bB eD),ba,ad,ai,by have:=b6.size;omega,yv _,λ_ _ _ _=>rfl⟩;have R6:=AC R2 bl;clear O6 b6 bB bl h2 G2 R2 ba eD;go_wp2_with fail;generalize w6.alloc _=W1 at*;generalize w6.heap.size=b at*;refine(St.pk 24).mono ?_;rintro e w7 ⟨n,rfl,n0,n1,S7⟩;clear St;obtain⟨n,rfl⟩:=yd n0;have cL:n<24:=by omega
 clear n0 n1;go_wp2_with fail;refine(S7.pk 5).mono ?_;rintro e w8 ⟨z,rfl,z0,z1,S8⟩;clear S7;go_wp2_with fail;generalize(z==0)=gr;go_loopw [7] (λi wr=>∃j:Nat,j<=n/\i=.int .i64 j/\Pf w0 g (N+3+33*j) w W1 b wr) (λi _=>n - (intOf i).toNat)
 case atStart=>exact⟨0,yh _,rfl,_,_,_,_,_,_,_,P1,S8⟩
 case round=>
  clear S8 z0 z1;obtain⟨j,hj,rfl,m1,i1,e1,c1,s1,l1,q1,Q,St⟩:=hrel;obtain⟨⟨⟨ma,mn,mc,rfl⟩,⟨ia,iN,ic,rfl⟩,⟨ea,en,ec,rfl⟩,⟨ca,cn,cc,rfl⟩⟩,⟨sa,sn,sc,rfl⟩,⟨la,ln,lc,rfl⟩,⟨qa,qn,qc,rfl⟩⟩:=St.sf.zS
  by_cases bz:j<n
  .go_wp2_with fail
   refine(St.pk 4).mono ?_;rintro e wr ⟨x,rfl,x0,x1,S4⟩;clear St;obtain⟨N1,hN1⟩:∃M,M=N+3+33*j+1:=⟨_,rfl⟩
   rw[<-hN1] at S4;have cN:=S4.lt;obtain⟨c0,c1,c2,c3,c4,c5,c6,c7,c8⟩:=AE S4.yM;have ab:=AY S4.yM
   rcases(show(x=0∨x=1)∨x=2∨x=3 by omega) with hx|rfl|rfl
   .rcases hx with rfl|rfl<;>go_wp2_with fail
    all_goals
     refine Iy (s:=10) (U:=λix vv=>match ix with
      |2=>Pk 64 vv
      |4=>Pk 999 vv
      |5=>∃x:Int,vv=.int .i64 x/\1<=x/\x<=999
      |6|7=>∃v,∃x:Bool,vv=.tuple #[v,.bool x]
      |_=>True) 11 66 1 2 [2,4] [.a #[.slice ma mn mc,.slice ia iN ic,.slice ea en ec,.slice ca cn cc,.slice sa sn sc,.slice la ln lc,.slice qa qn qc,.int .i64 Q.zT,.int .i64 Q.zW],.p g 0,.z,.p g 0,.z,.z,.z,.z,.z,.z,.u] (λix vv ww=>match ix with
      |6|7=>∃v,(∃x:Bool,vv=.tuple #[v,.bool x])/\Nm (w.heap.size+1) ww v
      |8=>Nm (w.heap.size+1) ww vv
      |9=>True
      |_=>True) (λww=>Pf w0 g (N1+2) w W1 b ww) S4.dr ?_ ?_ ?_ ?_ ?_ (hst:=?_)
     .intro i hi hS o ho a wx Hb ll Hd HL hr K HK
      match i,hi,hS with
      |0,_,_=>have hW:=hr (by kernel_rfl);have am:=gc hW ab (by omega) c0;have bi:=gc hW ab (by omega) c1;have bZ:=gc hW ab (by omega) c2;have bX:=gc hW ab (by omega) c3;have cv:=gc hW ab (by omega) c4;have ct:=gc hW ab (by omega) c5;have cr:=gc hW ab (by omega) c6;have cq:=gc hW ab (by omega) c7;have cp:=gc hW ab (by omega) c8;exact NU ho HK Hb Hd HL (hl:=Vn ‹_› ‹_› ‹_› ‹_› ‹_› ‹_› ‹_› ‹_› ‹_›)
      |1,_,_|3,_,_=>exact WR ho HK Hb Hd HL
      |2,_,hs|4,_,hs|10,_,hs=>cases hs
      |5,_,_=>obtain rfl:=yH ho;have d4:(Pk 999 (a.tmps[36]?.getD undef))/\(ll 10=false->True):=DT Hd HL 4;obtain⟨⟨x4,d4,p2,p3⟩,_⟩:=d4;have bn:=Ba HL 10;clear Hd Hb;refine yG ?_;go_simp;exact HK.out _ _ ⟨⟨_,by rw[xy _ (by omega)],by omega,by omega⟩,λ_=>trivial⟩ (yF _ _)
      |6,_,_=>obtain rfl:=yH ho;have d0:(a.tmps[32]?.getD undef)=.agg #[.slice ma mn mc,.slice ia iN ic,.slice ea en ec,.slice ca cn cc,.slice sa sn sc,.slice la ln lc,.slice qa qn qc,.int .i64 Q.zT,.int .i64 Q.zW]:=DT Hd HL 0;have d2:(Pk 64 (a.tmps[34]?.getD undef))/\(ll 10=false->True):=DT Hd HL 2;obtain⟨⟨x2,d2,p0,p1⟩,_⟩:=d2;have d5:(∃x:Int,(a.tmps[37]?.getD undef)=.int .i64 x/\1<=x/\x<=999)/\(ll 10=false->True):=DT Hd HL 5;obtain⟨⟨x5,d5,r0,r1⟩,_⟩:=d5;have bn:=Ba HL 10;clear Hd Hb;have hW:=hr (by kernel_rfl);have br:=S4.sf.map (GI hW (by omega) (yv _));have cJ:=hW.size;obtain⟨a2,rfl⟩:=yd p0;refine yG ?_;go_simp;refine(Kc _ _ _ _ _ _ _ Q wx br.rd S4.good (a:=a2) (by omega) (x:=x5) (Ac.2 (by omega))).mono ?_;rintro e w_ ⟨m9,i9,e9,c9,s9,l9,q9,rfl,hO,bq⟩;exact HK.out _ _ ⟨⟨_,_,rfl⟩,λ_=>⟨_,⟨_,rfl⟩,hO.sf.pgR (Rw S4.good (by omega) (Ac.2 (by omega))) (by omega)⟩⟩ bq
      |7,_,_=>obtain rfl:=yH ho;have d6:(∃v,∃x:Bool,(a.tmps[38]?.getD undef)=.tuple #[v,.bool x])/\(ll 10=false->∃v,(∃x:Bool,(a.tmps[38]?.getD undef)=.tuple #[v,.bool x])/\Nm (w.heap.size+1) wx v):=DT Hd HL 6;have bn:=Ba HL 10;clear Hd Hb;have q:=d6.2 (Ba HL 10);obtain⟨v9,⟨x9,e9⟩,q⟩:=q;refine yG ?_;go_simp;exact HK.out _ _ ⟨⟨_,_,rfl⟩,λ_=>⟨_,⟨_,rfl⟩,q⟩⟩ (yF _ _)
      |8,_,_=>obtain rfl:=yH ho;have d7:(∃v,∃x:Bool,(a.tmps[31]?.getD undef)=.tuple #[v,.bool x])/\(ll 10=false->∃v,(∃x:Bool,(a.tmps[31]?.getD undef)=.tuple #[v,.bool x])/\Nm (w.heap.size+1) wx v):=DT Hd HL 7;have bn:=Ba HL 10;clear Hd Hb;have q:=d7.2 (Ba HL 10);obtain⟨v9,⟨x9,e9⟩,q⟩:=q;refine yG ?_;go_simp;exact HK.out _ _ ⟨trivial,λ_=>q⟩ (yF _ _)
      |9,_,_=>obtain rfl:=yH ho;have d7:(∃v,∃x:Bool,(a.tmps[31]?.getD undef)=.tuple #[v,.bool x])/\(ll 10=false->∃v,(∃x:Bool,(a.tmps[31]?.getD undef)=.tuple #[v,.bool x])/\Nm (w.heap.size+1) wx v):=DT Hd HL 7;clear Hd Hb;obtain⟨v9,x9,e9⟩:=d7.1;refine yG ?_;go_simp;exact HK.out _ _ ⟨trivial,λ_=>trivial⟩ (yF _ _)
     .intro i hi hS o ho a wx Hb ll Hd HL hG K HK
      match i,hi,hS with
      |2,_,_=>exact fK (m:=64) ho HK Hb Hd HL hG (by omega)
      |4,_,_=>exact fK (m:=999) ho HK Hb Hd HL hG (by omega)
      |0,_,hs|1,_,hs|3,_,hs|5,_,hs|6,_,hs|7,_,hs|8,_,hs|9,_,hs|10,_,hs=>cases hs
     .intro o ho a wx Hb ll Hd HL hD hW K HK
      obtain rfl:=yH ho;have e3:a.tmps[3]?.getD undef=.pointer (some ⟨b,0,none⟩):=eg (OV Hb 3);have d8:(True)/\(ll 10=false->Nm (w.heap.size+1) wx (a.tmps[39]?.getD undef)):=DT Hd HL 8;clear Hd Hb;have q:=d8.2 HL.out.1;obtain⟨m9,i9,e9,c9,s9,l9,q9,P9,e0,az,av⟩:=q;unfold AQ at e0;obtain⟨⟨⟨va,vn,vc,rfl⟩,⟨wa,wn,wc,rfl⟩,⟨xa,xn,xc,rfl⟩,⟨ya,yn,yc,rfl⟩⟩,⟨ta,tn,tc,rfl⟩,⟨ua,un,uc,rfl⟩,⟨za,zn,zc,rfl⟩⟩:=az.zS;have S9:=(S4.draw hD hW).put az av;have B9:=(S4.draw hD hW).yM;obtain⟨c0,c1,c2,c3,c4,c5,c6,c7,c8⟩:=AE B9;have fq:=AK B9;refine yG ?_;go_simp;exact HK.out undef _ ⟨_,_,_,_,_,_,_,P9,S9⟩
     .exact λ_ _ hb h=>h.below hb
     rotate_left
     .intro i hi v ww bu hg hz
      match i,hi with
      |6,_|7,_=>exact(by obtain⟨v9,h1,h2⟩:=hz;exact⟨v9,h1,h2.past (by omega) hg⟩)
      |8,_=>exact(hz.past (by omega) hg)
      |9,_|0,_|1,_|2,_|3,_|4,_|5,_|10,_=>exact hz
     .intro vs wx ll hR hA
      clear hR;simp only[Dc,Bq,yE,yB,yA,yy];simp
      try generalize vs 0=z0
      try generalize vs 1=z1
      try generalize vs 2=z2
      try generalize vs 3=z3
      try generalize vs 4=z4
      try generalize vs 5=z5
      try generalize vs 6=z6
      try generalize vs 7=z7
      try generalize vs 8=z8
      try generalize vs 9=z9
      try generalize vs 10=z10
      go_wp2_with fail;go_roundw
      case rel=>exact⟨j+1,by omega,by go_num,hA.mono (by omega)⟩
      case measure=>simp[intOf];omega
   .go_wp2_with fail
    refine Iy (s:=8) (U:=λix vv=>match ix with
     |2=>Pk 64 vv
     |3|4=>∃v x y,vv=.tuple #[v,.int .i64 x,.bool y]
     |_=>True) 9 66 1 1 [2] [.a #[.slice ma mn mc,.slice ia iN ic,.slice ea en ec,.slice ca cn cc,.slice sa sn sc,.slice la ln lc,.slice qa qn qc,.int .i64 Q.zT,.int .i64 Q.zW],.p g 0,.z,.z,.z,.z,.z,.z,.u] (λix vv ww=>match ix with
     |3|4=>∃v,(∃x y,vv=.tuple #[v,.int .i64 x,.bool y])/\Nm (w.heap.size+1) ww v
     |5=>Nm (w.heap.size+1) ww vv
     |6|7=>True
     |_=>True) (λww=>Pf w0 g (N1+1) w W1 b ww) S4.dr ?_ ?_ ?_ ?_ ?_ (hst:=?_)
    .intro i hi hS o ho a wx Hb ll Hd HL hr K HK
     match i,hi,hS with
     |0,_,_=>have hW:=hr (by kernel_rfl);have am:=gc hW ab (by omega) c0;have bi:=gc hW ab (by omega) c1;have bZ:=gc hW ab (by omega) c2;have bX:=gc hW ab (by omega) c3;have cv:=gc hW ab (by omega) c4;have ct:=gc hW ab (by omega) c5;have cr:=gc hW ab (by omega) c6;have cq:=gc hW ab (by omega) c7;have cp:=gc hW ab (by omega) c8;exact NU ho HK Hb Hd HL (hl:=Vn ‹_› ‹_› ‹_› ‹_› ‹_› ‹_› ‹_› ‹_› ‹_›)
     |1,_,_=>exact WR ho HK Hb Hd HL
     |2,_,hs|8,_,hs=>cases hs
     |3,_,_=>obtain rfl:=yH ho;have d0:(a.tmps[44]?.getD undef)=.agg #[.slice ma mn mc,.slice ia iN ic,.slice ea en ec,.slice ca cn cc,.slice sa sn sc,.slice la ln lc,.slice qa qn qc,.int .i64 Q.zT,.int .i64 Q.zW]:=DT Hd HL 0;have d2:(Pk 64 (a.tmps[46]?.getD undef))/\(ll 8=false->True):=DT Hd HL 2;obtain⟨⟨x2,d2,p0,p1⟩,_⟩:=d2;have u8:=Ba HL 8;clear Hd Hb;have hW:=hr (by kernel_rfl);have br:=S4.sf.map (GI hW (by omega) (yv _));have cJ:=hW.size;obtain⟨a2,rfl⟩:=yd p0;refine yG ?_;go_simp;refine(P6 _ _ _ _ _ _ _ Q wx br.rd S4.good (a:=a2) (by omega)).mono ?_;rintro e w_ ⟨m9,i9,e9,c9,s9,l9,q9,rfl,hO,bq⟩;exact HK.out _ _ ⟨⟨_,_,_,rfl⟩,λ_=>⟨_,⟨_,_,rfl⟩,hO.sf.pgR (Yi S4.good (by omega)) (by omega)⟩⟩ bq
     |4,_,_=>obtain rfl:=yH ho;have d3:(∃v x y,(a.tmps[47]?.getD undef)=.tuple #[v,.int .i64 x,.bool y])/\(ll 8=false->∃v,(∃x y,(a.tmps[47]?.getD undef)=.tuple #[v,.int .i64 x,.bool y])/\Nm (w.heap.size+1) wx v):=DT Hd HL 3;have u8:=Ba HL 8;clear Hd Hb;have q:=d3.2 (Ba HL 8);obtain⟨v9,⟨x9,y9,e9⟩,q⟩:=q;refine yG ?_;go_simp;exact HK.out _ _ ⟨⟨_,_,_,rfl⟩,λ_=>⟨_,⟨_,_,rfl⟩,q⟩⟩ (yF _ _)
     |5,_,_=>obtain rfl:=yH ho;have d4:(∃v x y,(a.tmps[43]?.getD undef)=.tuple #[v,.int .i64 x,.bool y])/\(ll 8=false->∃v,(∃x y,(a.tmps[43]?.getD undef)=.tuple #[v,.int .i64 x,.bool y])/\Nm (w.heap.size+1) wx v):=DT Hd HL 4;have u8:=Ba HL 8;clear Hd Hb;have q:=d4.2 (Ba HL 8);obtain⟨v9,⟨x9,y9,e9⟩,q⟩:=q;refine yG ?_;go_simp;exact HK.out _ _ ⟨trivial,λ_=>q⟩ (yF _ _)
     |6,_,_=>obtain rfl:=yH ho;have d4:(∃v x y,(a.tmps[43]?.getD undef)=.tuple #[v,.int .i64 x,.bool y])/\(ll 8=false->∃v,(∃x y,(a.tmps[43]?.getD undef)=.tuple #[v,.int .i64 x,.bool y])/\Nm (w.heap.size+1) wx v):=DT Hd HL 4;clear Hd Hb;obtain⟨v9,x9,y9,e9⟩:=d4.1;refine yG ?_;go_simp;exact HK.out _ _ ⟨trivial,λ_=>trivial⟩ (yF _ _)
     |7,_,_=>obtain rfl:=yH ho;have d4:(∃v x y,(a.tmps[43]?.getD undef)=.tuple #[v,.int .i64 x,.bool y])/\(ll 8=false->∃v,(∃x y,(a.tmps[43]?.getD undef)=.tuple #[v,.int .i64 x,.bool y])/\Nm (w.heap.size+1) wx v):=DT Hd HL 4;clear Hd Hb;obtain⟨v9,x9,y9,e9⟩:=d4.1;refine yG ?_;go_simp;exact HK.out _ _ ⟨trivial,λ_=>trivial⟩ (yF _ _)
    .intro i hi hS o ho a wx Hb ll Hd HL hG K HK
     match i,hi,hS with
     |2,_,_=>exact fK (m:=64) ho HK Hb Hd HL hG (by omega)
     |0,_,hs|1,_,hs|3,_,hs|4,_,hs|5,_,hs|6,_,hs|7,_,hs|8,_,hs=>cases hs
    .intro o ho a wx Hb ll Hd HL hD hW K HK
     obtain rfl:=yH ho;have e3:a.tmps[3]?.getD undef=.pointer (some ⟨b,0,none⟩):=eg (OV Hb 3);have d5:(True)/\(ll 8=false->Nm (w.heap.size+1) wx (a.tmps[48]?.getD undef)):=DT Hd HL 5;clear Hd Hb;have q:=d5.2 HL.out.1;obtain⟨m9,i9,e9,c9,s9,l9,q9,P9,e0,az,av⟩:=q;unfold AQ at e0;obtain⟨⟨⟨va,vn,vc,rfl⟩,⟨wa,wn,wc,rfl⟩,⟨xa,xn,xc,rfl⟩,⟨ya,yn,yc,rfl⟩⟩,⟨ta,tn,tc,rfl⟩,⟨ua,un,uc,rfl⟩,⟨za,zn,zc,rfl⟩⟩:=az.zS;have S9:=(S4.draw hD hW).put az av;have B9:=(S4.draw hD hW).yM;obtain⟨c0,c1,c2,c3,c4,c5,c6,c7,c8⟩:=AE B9;have fq:=AK B9;refine yG ?_;go_simp;exact HK.out undef _ ⟨_,_,_,_,_,_,_,P9,S9⟩
    .exact λ_ _ hb h=>h.below hb
    rotate_left
    .intro i hi v ww bu hg hz
     match i,hi with
     |3,_|4,_=>exact(by obtain⟨v9,h1,h2⟩:=hz;exact⟨v9,h1,h2.past (by omega) hg⟩)
     |5,_=>exact(hz.past (by omega) hg)
     |6,_|7,_|0,_|1,_|2,_|8,_=>exact hz
    .intro vs wx ll hR hA
     clear hR;simp only[Dc,Bq,yE,yB,yA,yy];simp
     try generalize vs 0=z0
     try generalize vs 1=z1
     try generalize vs 2=z2
     try generalize vs 3=z3
     try generalize vs 4=z4
     try generalize vs 5=z5
     try generalize vs 6=z6
     try generalize vs 7=z7
     try generalize vs 8=z8
     go_wp2_with fail;go_roundw
     case rel=>exact⟨j+1,by omega,by go_num,hA.mono (by omega)⟩
     case measure=>simp[intOf];omega
   .go_wp2_with fail
    refine(Sx _ _ _ _ Q.zX.Os S4.dr (by omega) (λw' hg=>(S4.sf.map (GI hg (by omega) (yv _))).rd.1.2.1) (Nat.le_of_eq S4.good.k.len)).mono ?_;rintro e w9 ⟨v,rfl,⟨x,rfl,hx⟩,h9,g9⟩;have S9:=S4.draw h9 g9;have NC:=yw w9 (.cells #[.int .i64 x.k,.int .i64 x.e,.int .i64 x.a,.int .i64 x.b,.int .i64 x.c,.string x.nm] 79);have bC:=AD w9 (.cells #[.int .i64 x.k,.int .i64 x.e,.int .i64 x.a,.int .i64 x.b,.int .i64 x.c,.string x.nm] 79);clear S4 h9 g9 c0 c1 c2 c3 c4 c5 c6 c7 c8 ab;simp only[Ab.cs];go_upto_if 57 with fail;generalize w9.alloc _=wc at*;go_cut [] (λW=>∃y:Ab,U1 y/\W.heap[w9.heap.size]?=some (.cells y.cs 79 (0,0))/\Below w9.heap.size w9 W)
    case first=>
     cases gr
     .go_wp2_with fail
      go_meet;exact⟨x,hx,NC,bC⟩
     .have fc:=AK NC
      obtain⟨d0,d1,d2,d3,d4,d5⟩:=GW NC;have N2:=bG (x:=⟨1,1,0,0,0,⟨#[98]⟩⟩) NC;go_wp2_with fail;go_meet;exact⟨⟨1,1,0,0,0,⟨#[98]⟩⟩,⟨⟨by decide,by decide,by decide,by decide⟩,.inl rfl⟩,N2,AM (AM (AM (AM (AM (AM bC (Aq _ _ 0 _) (yv _) bC.size) (Aq _ _ 1 _) (yv _) (by simpa using bC.size)) (Aq _ _ 2 _) (yv _) (by simpa using bC.size)) (Aq _ _ 3 _) (yv _) (by simpa using bC.size)) (Aq _ _ 4 _) (yv _) (by simpa using bC.size)) (Aq _ _ 5 _) (yv _) (by simpa using bC.size)⟩
    case rest=>
    clear NC bC hx;obtain⟨y,⟨hy,b9⟩,NY,bY⟩:=hcut;have aq:=S9.below bY;obtain⟨c0,c1,c2,c3,c4,c5,c6,c7,c8⟩:=AE aq.yM;obtain⟨d0,d1,d2,d3,d4,d5⟩:=GW NY;have C:=Su _ _ _ _ _ _ _ Q y _ aq.sf.rd aq.good ⟨hy.2.1,hy.2.2.1⟩ (by have:=hy.1;unfold maxLen;omega) (by have:=hy.2.2.2;omega);have hO:=(Yt aq.good b9).1;unfold AQ at C;simp only[Ab.cs] at C;go_wp2_with fail;refine C.mono ?_;rintro e gt ⟨m9,i9,e9,c9,s9,l9,q9,rfl,cY,eP⟩;obtain⟨⟨⟨va,vn,vc,rfl⟩,⟨wa,wn,wc,rfl⟩,⟨xa,xn,xc,rfl⟩,⟨ya,yn,yc,rfl⟩⟩,⟨ta,tn,tc,rfl⟩,⟨ua,un,uc,rfl⟩,⟨za,zn,zc,rfl⟩⟩:=cY.zS;unfold AQ;have cC:=aq.below eP;have go:=AA ((cC.put (cY.sf.map (λ_ _ _ _ _ _ _ x=>BR x (by have:=aq.lt;have:=AY aq.yM;omega))) hO).mono (M:=N+3+33*(j+1)) (by omega));have fq:=AK cC.yM;clear c0 c1 c2 c3 c4 c5 c6 c7 c8 d0 d1 d2 d3 d4 d5 C;obtain⟨c0,c1,c2,c3,c4,c5,c6,c7,c8⟩:=AE cC.yM;clear cC aq S9 cY eP bY NY hO hy b9;go_wp2_with fail;go_roundw
    case rel=>exact⟨j+1,by omega,by go_num,_,_,_,_,_,_,_,_,go.out⟩
    case measure=>simp[intOf];omega
  .obtain⟨c0,c1,c2,c3,c4,c5,c6,c7,c8⟩:=AE St.yM
   have eF:=AY R6;have R9:=(St.kp w.heap.size eF (by omega) (by have:=St.lt;omega)).trans R6;obtain⟨d0,d1,d2,d3,d4,d5,d6,d7,d8⟩:=AE R9;have cf:=AK R9;obtain⟨BX,FX⟩:=aO (ok:=EC) (M:=N+900) St.dr St.gr (St.sf.map (λ_ _ _ _ _ _ _ x=>BR x (wB _))) St.good ad ai R9 (by omega);unfold Er at BX FX;have BH:=AA BX;have FH:=AA FX;clear BX FX St R9 R6;go_wp2_with fail;exact yp (v:=.agg #[_,_,_,_,_,_,_,_,_]) (by simp[results,Tryz.results47,go_sem,AE BH.out]) rfl FH.out
theorem X6{ss:List ByteArray}{s:ByteArray}:BO (Gh ss s).1=true:=by
 unfold Gh
 by_cases h:(BO ss&&BN s)=true
 .rw[if_pos h]
  obtain⟨h1,h2⟩:=Bool.and_eq_true_iff.1 h;exact YB h1 h2
 .rw[if_neg h]
  decide+kernel
def Z9(w:World)(r:Ending)(w':World):Prop:=∃v' b,r=.returned (.tuple #[v',.bool b])/\(∃c',AP w.heap.size 98 4 Ae w' v' c'/\c'.length<=4)/\Below w.heap.size w w'
theorem Qm(v:Value)(c:List Ak)(x:Ak)(w:World)(h:Dt w v c):
 Calls prog 160 #[v,.agg #[.int .i64 x.e,.int .i64 x.p,.int .i64 x.f,.bool x.w]] w (Z9 w):=by
 have b0:=AD w (.cells #[.int .i64 x.e,.int .i64 x.p,.int .i64 x.f,.bool x.w] 98);have N0:=yw w (.cells #[.int .i64 x.e,.int .i64 x.p,.int .i64 x.f,.bool x.w] 98);have h0:=BJ.below h b0;go_in;go_wp2_with fail;generalize w.alloc _=W0 at*;have be:=AA b0;have HN:=AA N0;obtain⟨y0,y1,y2,y3⟩:=AF N0;clear N0 b0;refine(Ii v c W0 h0).mono ?_;rintro r w1 ⟨rfl,b1⟩;cases hc:BQ c
 .go_wp2_with fail
  go_ret2;exact⟨_,_,rfl,⟨[],AP.lower (By Ae _ _ _) (yD be.out.size b1.size),yh _⟩,(be.out.trans (b1.mono be.out.size)).alloc (yD be.out.size b1.size) _⟩
 .have hl:=(Ek.1 hc).2.2
  obtain⟨y0,y1,y2,y3⟩:=AF (AC HN.out b1);go_wp2_with fail;refine(Md x _).mono ?_;rintro r w2 ⟨rfl,b2⟩;have ar:=b1.trans (b2.mono b1.size);cases hx:CU x
  .go_wp2_with fail
   go_ret2;exact⟨_,_,rfl,⟨[],AP.lower (By Ae _ _ _) (yD be.out.size ar.size),yh _⟩,(be.out.trans (ar.mono be.out.size)).alloc (yD be.out.size ar.size) _⟩
  .obtain⟨y0,y1,y2,y3⟩:=AF (AC HN.out ar)
   have hp:=(Ek.1 (Wa hc hx)).2.2;go_wp2_with fail;refine(RZ v c x _ (BJ.below h0 ar) hl).mono ?_;rintro r w3 ⟨v',rfl,O3,b3⟩;have HO:=AA (ye O3 hp);have HB:=AA ((be.out.trans ((ar.trans (b3.mono ar.size)).mono be.out.size)));have HL:=AA (yD be.out.size ar.size);obtain⟨a9,c9,e9,_,_⟩:=O3.rd.shape;generalize List.length _=n9 at e9;subst e9;clear O3 hp b3 b1 b2 ar hl;go_wp2_with fail;go_ret2;exact⟨_,_,rfl,⟨_,HO.out.1.lower HL.out,HO.out.2⟩,HB.out⟩
theorem NV{w w1 w2:World}{g:Nat}{row:Option Nat}(h:w.grownBy w1 (some g))(h2:w1.grownBy w2 row)(hq:∀k,row=some k->w.heap.size<=k):w.grownBy w2 (some g):=
 ⟨h2.os.trans h.os,h2.tape.trans h.tape,h2.output.trans h.output,yD h.size h2.size,λk hk cy=>(h2.block k (xZ hk h.size) (λe=>by have:=hq k e.symm;omega)).trans (h.block k hk cy)⟩
theorem Ph(w:World)(e:TypeId)(sz n:Nat)(xs:List Value)(hl:xs.length=n*sz)(hm:n<=maxLen):(w.alloc (.cells xs.toArray e)).ownsRow w.heap.size e sz (.slice (some ⟨w.heap.size,0,none⟩) n n) n xs:=
 ⟨hl,.inr ⟨_,_,_,rfl,yv _,yw _ _,yv _,hm,by simpa using hl,by rw[<-hl];simp⟩⟩
theorem WC{ss:List ByteArray}{s:ByteArray}(h:DP ss)(hs:s.size<=maxLen):DP (ss++[s]):=by
 intro x hx
 rcases List.mem_append.1 hx with h1|h1
 .exact h x h1
 .simp at h1;subst h1;exact hs
theorem Qf{w0 w:World}{g N:Nat}(h:Dr w0 g N w)(hN:N<=700000):
 Calls prog 109 #[.pointer (some ⟨g,0,none⟩)] w (JY w0 g (N+60) w λv w'=>∃ss,AP w.heap.size 9 1 BB w' v ss/\DP ss):=by
 have ad:=h.lt;have ai:w0.heap.size<=w.heap.size:=h.2.1.size;go_in;go_wp2_with fail;have o1:=By BB w 9 1;have h1:=h.alloc (.cells #[] 9);have g1:w.grownBy (w.alloc (.cells #[] 9)) (some g):=AW (AD _ _) _;generalize w.alloc (.cells #[] 9)=wa at o1 h1 g1;generalize(xB (some ⟨w.heap.size,0,none⟩) 0 0)=o at o1 ⊢;refine(h1.pick _).mono ?_;rintro e w2 ⟨n,rfl,n0,n1,h2,g2⟩;replace n1:=n1 (by decide);obtain⟨n,rfl⟩:=yd n0;have hp:∀b',some g=some b'->b'<w.heap.size:=λb' e=>by cases e;exact ad
 have o2:AP w.heap.size 9 1 BB w2 o []:=Bp o1 g2 hp;have g3:=AO g1 g2;clear o1 h1 g1 g2 h;have Hp:=AA hp;clear hp;go_wp2_with fail;go_loopw [3,5] (λo i wr=>∃k:Nat,∃ss,k<=n/\i=.int .i64 k/\BO ss=true/\AP w.heap.size 9 1 BB wr o ss/\Dr w0 g (N+1+3*k) wr/\w.grownBy wr (some g)) (λ_ i _=>n - (intOf i).toNat)
 case atStart=>exact⟨0,[],yh _,rfl,by decide+kernel,o2,h2,g3⟩
 case round=>
  clear o2 h2 g3;obtain⟨k,ss,hk,rfl,bj,hO,hD,hG⟩:=hrel;have bm:=AA bj;have HO:=AA hO;obtain⟨oa,oc,rfl,_,_⟩:=hO.rd.shape;have cb:=(GH.1 bm.out).2.2;clear bj hO
  by_cases cO:k<n
  .go_wp2_with fail
   refine(Iu hD (by omega)).mono ?_;rintro e w3 ⟨_,rfl,⟨s,fQ,rfl⟩,h3,g3⟩;have O3:AP w.heap.size 9 1 BB w3 _ ss:=Bp HO.out g3 Hp.out;have hz:w.heap.size<=w3.heap.size:=yD hG.size g3.size;go_wp2_with fail;refine(LH _ ss s w3 O3.rd (GJ bm.out) (by unfold maxLen;omega)).mono ?_;rintro e w4 ⟨v4,rfl,O4,b4⟩;cases hb:(Gh ss s).2
   .have HR:=AA (ye (O3.below b4) (ye (h3.below b4) (AO (AO hG g3) (AW b4 _))))
    clear cb O3 O4 h3 g3 b4 hD hG;go_wp2_with fail;go_roundw
    case rel=>exact⟨k+1,ss,by omega,by go_num,bm.out,HR.out.1,HR.out.2.1.mono (by omega),HR.out.2.2⟩
    case measure=>simp[intOf];omega
   .have HR:=AA (ye (O4.lower hz) (ye (h3.below b4) (AO (AO hG g3) (AW b4 _))))
    clear cb O3 O4 h3 g3 b4 hD hG;go_wp2_with fail;go_roundw
    case rel=>exact⟨k+1,(Gh ss s).1,by omega,by go_num,X6,HR.out.1,HR.out.2.1.mono (by omega),HR.out.2.2⟩
    case measure=>simp[intOf];omega
  .have fU:k<=7:=by omega
   go_wp2_with fail;refine(hD.pick _).mono ?_;rintro e w3 ⟨u,rfl,_,_,h3,g3⟩;have O3:AP w.heap.size 9 1 BB w3 _ ss:=Bp HO.out g3 Hp.out;have G3:=AO hG g3;clear hD hG HO g3
   by_cases u0:u=0
   .subst u0
    go_wp2_with fail;refine(Iu h3 (by omega)).mono ?_;rintro e w4 ⟨_,rfl,⟨s,fQ,rfl⟩,h4,g4⟩;have O4:AP w.heap.size 9 1 BB w4 _ ss:=Bp O3 g4 Hp.out;have G4:=AO G3 g4;have hz:w.heap.size<=w4.heap.size:=G4.size;have cm:=AA O4;have HH:=AA (ye h4 G4);clear O3 h3 G3 g4 O4 h4 G4;go_wp2_with (at_builtin;go_must (refine Be (lo:=w.heap.size) (n:=ss.length) (xs:=Ch BB ss) (m:=1) (news:=[.string s]) rfl rfl 9 (.string ⟨#[]⟩) 1 16 underlying60 Tryz.zL rfl (by decide) rfl (Co cm.out (AD _ _)) rfl (Rd.zE _ #[_] _ 1 1 _ (by simp) rfl (by simp[maxLen])) (by simp[xE]) (by unfold maxLen;omega) (by omega) (by simp;omega) ?_;intro o' w9 k1 k2 k3 k4));have o9:AP w.heap.size 9 1 BB w9 o' (ss++[s]):=by unfold AP;rw[Bl,El,yl];exact k1
    have ae:∀k,(xB oa ss.length oc).ownBlock=some k->w.heap.size<=k:=λk e=>(yr cm.out k e).1
    have D9:=(HH.out.1.alloc (.cells #[.string s] 9)).keep k2 (λe=>by have:=ae g e;have:=Hp.out g rfl;omega) (λk e=>yD ai (ae k e));have G9:=NV (Gj HH.out.2 (.cells #[.string s] 9)) k2 ae;have HF:=AA (ye o9 (ye (D9.mono (M:=N+60) (by omega)) G9));clear o9 D9 G9 k1 k2 k3 k4;go_wp2_with fail;go_ret;exact⟨_,rfl,⟨_,HF.out.1,WC (GJ bm.out) (by unfold maxLen;omega)⟩,HF.out.2.1,HF.out.2.2⟩
   have t0:(u==0)=false:=by simp[u0]
   clear u0;go_wp2_with fail;refine(h3.pick _).mono ?_;rintro e w4 ⟨u',rfl,_,_,h4,g4⟩;have O4:AP w.heap.size 9 1 BB w4 _ ss:=Bp O3 g4 Hp.out;have HF:=AA (ye O4 (ye (h4.mono (M:=N+60) (by omega)) (AO G3 g4)));clear O3 h3 G3 g4 O4 h4 t0
   by_cases u0:u'=0
   .subst u0
    go_wp2_with fail;go_ret;refine⟨_,rfl,⟨[⟨#[97]⟩,⟨#[97,97]⟩,⟨#[97,98]⟩,⟨#[98]⟩,⟨#[98,97]⟩,⟨#[99]⟩],AP.lower (Ph w4 9 1 6 (Ch BB [⟨#[97]⟩,⟨#[97,97]⟩,⟨#[97,98]⟩,⟨#[98]⟩,⟨#[98,97]⟩,⟨#[99]⟩]) rfl (by simp[maxLen])) HF.out.2.2.size,?_⟩,HF.out.2.1.alloc _,Gj HF.out.2.2 _⟩;intro x hx;simp only[xm,wM,or_false] at hx
    rcases hx with rfl|rfl|rfl|rfl|rfl|rfl<;>decide
   have t0:(u'==0)=false:=by simp[u0]
   clear u0;go_wp2_with fail;go_ret;exact⟨_,rfl,⟨_,HF.out.1,GJ bm.out⟩,HF.out.2.1,HF.out.2.2⟩
theorem Sv{w0 w:World}{g N:Nat}(h:Dr w0 g N w)(hN:N<=700000):
 Calls prog 110 #[.pointer (some ⟨g,0,none⟩)] w (JY w0 g (N+80) w λv w'=>∃ss,AP w.heap.size 98 4 Ae w' v ss):=by
 have ad:=h.lt;have ai:w0.heap.size<=w.heap.size:=h.2.1.size;go_in;go_wp2_with fail;have o1:=By Ae w 98 4;have h1:=h.alloc (.cells #[] 98);have g1:w.grownBy (w.alloc (.cells #[] 98)) (some g):=AW (AD _ _) _;generalize w.alloc (.cells #[] 98)=wa at o1 h1 g1;generalize(xB (some ⟨w.heap.size,0,none⟩) 0 0)=o at o1 ⊢;refine(h1.pick _).mono ?_;rintro e w2 ⟨n,rfl,n0,n1,h2,g2⟩;replace n1:=n1 (by decide);obtain⟨n,rfl⟩:=yd n0;have hp:∀b',some g=some b'->b'<w.heap.size:=λb' e=>by cases e;exact ad
 have o2:AP w.heap.size 98 4 Ae w2 o []:=Bp o1 g2 hp;have g3:=AO g1 g2;clear o1 h1 g1 g2 h;have Hp:=AA hp;clear hp;go_wp2_with fail;go_loopw [3,5] (λo i wr=>∃k:Nat,∃ss,k<=n/\i=.int .i64 k/\ss.length<=4/\AP w.heap.size 98 4 Ae wr o ss/\Dr w0 g (N+1+8*k) wr/\w.grownBy wr (some g)) (λ_ i _=>n - (intOf i).toNat)
 case atStart=>exact⟨0,[],yh _,rfl,yh _,o2,h2,g3⟩
 case round=>
  clear o2 h2 g3;obtain⟨k,ss,hk,rfl,bj,hO,hD,hG⟩:=hrel;have bm:=AA bj;have HO:=AA hO;obtain⟨oa,oc,rfl,_,_⟩:=hO.rd.shape;have cb:ss.length<=6:=by have:=bm.out;omega
  clear bj hO
  by_cases cO:k<n
  .go_wp2_with fail
   refine(Lx hD (by omega)).mono ?_;rintro e w3 ⟨_,rfl,⟨s,rfl⟩,h3,g3⟩;have O3:AP w.heap.size 98 4 Ae w3 _ ss:=Bp HO.out g3 Hp.out;have hz:w.heap.size<=w3.heap.size:=yD hG.size g3.size;go_wp2_with fail;refine(Qm _ ss s w3 O3.rd).mono ?_;rintro e w4 ⟨v4,bb,rfl,⟨fC,O4,fT⟩,b4⟩;cases bb
   .have HR:=AA (ye (O3.below b4) (ye (h3.below b4) (AO (AO hG g3) (AW b4 _))))
    clear cb O3 O4 h3 g3 b4 hD hG;go_wp2_with fail;go_roundw
    case rel=>exact⟨k+1,ss,by omega,by go_num,bm.out,HR.out.1,HR.out.2.1.mono (by omega),HR.out.2.2⟩
    case measure=>simp[intOf];omega
   .have HR:=AA (ye (O4.lower hz) (ye (h3.below b4) (AO (AO hG g3) (AW b4 _))))
    clear cb O3 O4 h3 g3 b4 hD hG;go_wp2_with fail;go_roundw
    case rel=>exact⟨k+1,fC,by omega,by go_num,fT,HR.out.1,HR.out.2.1.mono (by omega),HR.out.2.2⟩
    case measure=>simp[intOf];omega
  .have fU:k<=7:=by omega
   go_wp2_with fail;refine(hD.pick _).mono ?_;rintro e w3 ⟨u,rfl,_,_,h3,g3⟩;have O3:AP w.heap.size 98 4 Ae w3 _ ss:=Bp HO.out g3 Hp.out;have G3:=AO hG g3;clear hD hG HO g3;have HF:=AA (ye O3 (ye (h3.mono (M:=N+80) (by omega)) G3))
   by_cases u0:u=0
   .subst u0
    go_wp2_with fail;refine(Lx h3 (by omega)).mono ?_;rintro e w4 ⟨_,rfl,⟨s,rfl⟩,h4,g4⟩;have O4:AP w.heap.size 98 4 Ae w4 _ ss:=Bp O3 g4 Hp.out;have G4:=AO G3 g4;have hz:w.heap.size<=w4.heap.size:=G4.size;have cm:=AA O4;have HH:=AA (ye h4 G4);clear O3 h3 G3 g4 O4 h4 G4;go_wp2_with (at_builtin;go_must (refine Be (lo:=w.heap.size) (n:=ss.length) (xs:=Ch Ae ss) (m:=1) (news:=[.int .i64 s.e,.int .i64 s.p,.int .i64 s.f,.bool s.w]) rfl rfl 98 (.agg #[.int .i64 0,.int .i64 0,.int .i64 0,.bool false]) 4 32 underlying26 Tryz.zH rfl (by decide) rfl (Co cm.out (AD _ _)) rfl (Rd.zE _ #[.int .i64 s.e,.int .i64 s.p,.int .i64 s.f,.bool s.w] _ 4 1 _ (by simp) rfl (by simp[maxLen])) (by simp[xE]) (by unfold maxLen;omega) (by omega) (by simp;omega) ?_;intro o' w9 k1 k2 k3 k4));have o9:AP w.heap.size 98 4 Ae w9 o' (ss++[s]):=by unfold AP;rw[Bl,El,yl];exact k1
    have ae:∀k,(xB oa ss.length oc).ownBlock=some k->w.heap.size<=k:=λk e=>(yr cm.out k e).1
    have D9:=(HH.out.1.alloc (.cells #[.int .i64 s.e,.int .i64 s.p,.int .i64 s.f,.bool s.w] 98)).keep k2 (λe=>by have:=ae g e;have:=Hp.out g rfl;omega) (λk e=>yD ai (ae k e));have G9:=NV (Gj HH.out.2 (.cells #[.int .i64 s.e,.int .i64 s.p,.int .i64 s.f,.bool s.w] 98)) k2 ae;have HF:=AA (ye o9 (ye (D9.mono (M:=N+80) (by omega)) G9));clear o9 D9 G9 k1 k2 k3 k4;go_wp2_with fail;go_ret;exact⟨_,rfl,⟨_,HF.out.1⟩,HF.out.2.1,HF.out.2.2⟩
   have t0:(u==0)=false:=by simp[u0]
   clear u0
   by_cases u0:u=1
   .subst u0
    clear O3 h3 G3;go_wp2_with (at_builtin;go_must (refine Be (lo:=w.heap.size) (n:=ss.length) (xs:=Ch Ae ss) (m:=ss.length) (news:=Ch Ae ss) rfl rfl 98 (.agg #[.int .i64 0,.int .i64 0,.int .i64 0,.bool false]) 4 32 underlying26 Tryz.zH rfl (by decide) rfl HF.out.1 rfl (HF.out.1.rd) (Jf ss) (by unfold maxLen;omega) (by omega) (HF.out.2.2.size) ?_;intro o' w9 k1 k2 k3 k4));have o9:AP w.heap.size 98 4 Ae w9 o' (ss++ss):=by unfold AP;rw[Bl,yl];exact k1
    have ae:∀k,(xB oa ss.length oc).ownBlock=some k->w.heap.size<=k:=λk e=>(yr HF.out.1 k e).1
    have D9:=HF.out.2.1.keep k2 (λe=>by have:=ae g e;have:=Hp.out g rfl;omega) (λk e=>yD ai (ae k e));have G9:=NV HF.out.2.2 k2 ae;have HH:=AA (ye o9 (ye D9 G9));clear o9 D9 G9 k1 k2 k3 k4;go_wp2_with fail;go_ret;exact⟨_,rfl,⟨_,HH.out.1⟩,HH.out.2.1,HH.out.2.2⟩
   have t1:(u==1)=false:=by simp[u0]
   clear u0 O3 h3 G3;go_wp2_with fail;go_ret;exact⟨_,rfl,⟨_,HF.out.1⟩,HF.out.2.1,HF.out.2.2⟩
def UY:List ByteArray:=[⟨#[98]⟩,⟨#[97]⟩,⟨#[97,98]⟩,⟨#[]⟩]
theorem aK{s:ByteArray}(hs:s∈UY):DI (Mg [[gA],[s],[gC]]):=by
 simp only[UY,xm,wM,or_false] at hs
 rcases hs with rfl|rfl|rfl|rfl<;>exact EU.1 (by kernel_rfl)
theorem Vq{s:ByteArray}(hs:s∈UY):∀ts∈[[gA],[s],[gC]],BO ts=true:=by
 intro ts h;simp only[UY,xm,wM,or_false] at hs h
 rcases h with rfl|rfl|rfl
 .decide+kernel
 .rcases hs with rfl|rfl|rfl|rfl<;>decide+kernel
 .decide+kernel
theorem XS{s:ByteArray}(hs:s∈UY):∀ts∈[[gA],[s],[gC]],DP ts:=by
 intro ts h;simp only[UY,xm,wM,or_false] at hs h
 rcases h with rfl|rfl|rfl<;>intro x hx<;>rw[List.mem_singleton] at hx<;>subst hx
 .decide
 .rcases hs with rfl|rfl|rfl|rfl<;>decide
 .decide
theorem Xd{w:World}{va vb vc:Value}{a b c:List ByteArray}(u:TypeId)(ha:BP w va a)(hb:BP w vb b)(hc:BP w vc c)(sa:∃x n k,va=.slice x n k)(sb:∃x n k,vb=.slice x n k)(sc:∃x n k,vc=.slice x n k):
 LV (w.alloc (.cells #[va,vb,vc] u)) (.slice (some ⟨w.heap.size,0,none⟩) 3 3) [a,b,c]:=by
 obtain⟨_,_,_,rfl⟩:=sa;obtain⟨_,_,_,rfl⟩:=sb;obtain⟨_,_,_,rfl⟩:=sc;refine⟨[_,_,_],Rd.zE _ #[_,_,_] u 1 3 _ (by simp) rfl (by simp[maxLen]),rfl,?_⟩;intro i x y hx hy
 match i,hx,hy with
 |0,hx,hy=>simp at hx hy;subst hx hy;exact ha.below (AD _ _)
 |1,hx,hy=>simp at hx hy;subst hx hy;exact hb.below (AD _ _)
 |2,hx,hy=>simp at hx hy;subst hx hy;exact hc.below (AD _ _)
theorem Qg{w0 w:World}{g N:Nat}(h:Dr w0 g N w)(hN:N<=400000):
 Calls prog 106 #[.pointer (some ⟨g,0,none⟩)] w (bL DI w0 g (N+3000) w):=by
 have ad:=h.lt;have ai:w0.heap.size<=w.heap.size:=h.2.1.size;go_in;go_wp2_with fail;obtain⟨B0,BA,b0,cx⟩:=Jp w (.cells #[.slice none 0 0,.slice none 0 0,.slice none 0 0,.slice none 0 0] 28) (.cells #[.string ⟨#[97]⟩] 9);go_wp2_with fail;generalize(w.alloc _).alloc _=wa at*;rw[<-cx];have h0:=h.below b0;refine(Na wa.heap.size 4 UY (h0.alloc _) (by omega) rfl (by decide) (by decide) (by have:=h0.lt;omega) (by simp) (λk hk=>Jy wa UY _ hk)).mono ?_;rintro e w1 ⟨v,rfl,⟨s,hs,rfl⟩,h1,g1⟩;have g2:=AO (AW (AD wa (.cells #[.string ⟨#[98]⟩,.string ⟨#[97]⟩,.string ⟨#[97,98]⟩,.string ⟨#[]⟩] 9)) (some g)) g1;have fB:=(g2.block _ (AY BA) (by simp;omega)).trans BA;have B1:=(g2.block _ (AY B0) (by simp;omega)).trans B0;have G1:=AO (AW b0 (some g)) g2;clear h0 g1 g2 BA B0 b0 h;obtain⟨NS,NC,b1,eH⟩:=Jp w1 (.cells #[.string s] 9) (.cells #[.string ⟨#[99]⟩] 9);have cK:=Xd 60 (show BP _ _ [⟨#[97]⟩] from Ml (AC fB b1)) (show BP _ _ [s] from Ml NS) (show BP _ _ [⟨#[99]⟩] from Ml NC) ⟨_,_,_,rfl⟩ ⟨_,_,_,rfl⟩ ⟨_,_,_,rfl⟩;rw[eH] at cK;go_wp2_with fail;refine(Kl _ [[⟨#[97]⟩],[s],[⟨#[99]⟩]] _ cK rfl (Vq hs) (XS hs)).mono ?_;rintro e w2 ⟨m,i,ev,c,rfl,O2,b2⟩;have ay:=b1.trans (((AD _ _).trans (b2.mono (AD _ _).size)).mono b1.size);obtain⟨⟨ma,mn,mc,rfl⟩,⟨ia,iN,ic,rfl⟩,⟨ea,en,ec,rfl⟩,⟨ca,cn,cc,rfl⟩⟩:=O2.zS;have bK:=AD w2 (.cells #[.slice ma mn mc,.slice ia iN ic,.slice ea en ec,.slice ca cn cc] 28);have bx:w.heap.size<w2.heap.size:=by have:=AY B1;have:=ay.size;omega
 have St:Iq DI w0 g (N+1) w w2.heap.size (w2.alloc (.cells #[.slice ma mn mc,.slice ia iN ic,.slice ea en ec,.slice ca cn cc] 28)):=⟨_,_,_,_,Mg [[⟨#[97]⟩],[s],[⟨#[99]⟩]],(h1.below ay).below bK,AO (AO G1 (AW ay _)) (AW bK _),yw _ _,(O2.sf.map (J4 bK (by have:=b1.size;have:=(AD ((w1.alloc (.cells #[.string s] 9)).alloc (.cells #[.string ⟨#[99]⟩] 9)) (.cells #[.slice (some ⟨w.heap.size+1,0,none⟩) 1 1,.slice (some ⟨w1.heap.size,0,none⟩) 1 1,.slice (some ⟨w1.heap.size+1,0,none⟩) 1 1] 60)).size;have:=AY B1;omega))),aK hs,_,_,_,_,AC (AC B1 ay) bK⟩;clear O2 b2 ay cK NS NC b1 eH h1 G1 fB B1 bK cx hs;go_wp2_with fail;generalize w2.alloc _=w3 at*;generalize w2.heap.size=b at*;refine(St.pk ad bx 5 (by omega) (by decide) (by decide)).mono ?_;rintro e w4 ⟨x,rfl,x0,x1,S4⟩;clear St;go_upto_if 24 with fail;go_cut [] (λwx=>Iq DI w0 g (N+20) w b wx)
 case first=>
  by_cases hx:0<x
  .go_wp2_with fail
   refine(S4.pk ad bx 3 (by omega) (by decide) (by decide)).mono ?_;rintro e w5 ⟨y,rfl,y0,y1,S5⟩;clear S4;go_wp2_with fail;refine(Mp (1+y) w5 (by omega) (by omega)).mono ?_;rintro e w6 ⟨m1,i1,e1,c1,s1,l1,q1,rfl,O6,b6⟩;obtain⟨⟨⟨ma,mn,mc,rfl⟩,⟨ia,iN,ic,rfl⟩,⟨ea,en,ec,rfl⟩,⟨ca,cn,cc,rfl⟩⟩,⟨sa,sn,sc,rfl⟩,⟨la,ln,lc,rfl⟩,⟨qa,qn,qc,rfl⟩⟩:=O6.zS;have ba:EC (Uc (1+y)):=WW (by omega) (by omega);clear y0 y1;generalize Uc (1+y)=P1 at*;unfold AQ;have bB:=AD w6 (.cells #[.slice ma mn mc,.slice ia iN ic,.slice ea en ec,.slice ca cn cc,.slice sa sn sc,.slice la ln lc,.slice qa qn qc,.int .i64 P1.zT,.int .i64 P1.zW] 32);have bl:=b6.trans (bB.mono b6.size);have SK:=S5.below ad bx bl;obtain⟨_,_,_,_,_,h5,g5,B5,_,_,_⟩:=S5;have cz:=AY B5;have St:Kg w0 g (N+3) w (w6.alloc (.cells #[.slice ma mn mc,.slice ia iN ic,.slice ea en ec,.slice ca cn cc,.slice sa sn sc,.slice la ln lc,.slice qa qn qc,.int .i64 P1.zT,.int .i64 P1.zW] 32)) w6.heap.size _ _ _ _ _ _ _ P1 (w6.alloc (.cells #[.slice ma mn mc,.slice ia iN ic,.slice ea en ec,.slice ca cn cc,.slice sa sn sc,.slice la ln lc,.slice qa qn qc,.int .i64 P1.zT,.int .i64 P1.zW] 32)):=
    ⟨(h5.below bl).mono (by omega),AO g5 (AW bl _),yw _ _,O6.map (J4 bB (by omega)),ba,ad,ai,by have:=b6.size;omega,yv _,λ_ _ _ _=>rfl⟩
   have hC:b<w6.heap.size:=by have:=b6.size;omega
   clear O6 b6 bB bl h5 g5 B5 ba cz;go_wp2_with fail;generalize w6.alloc _=W1 at*;generalize w6.heap.size=b5 at*;refine(St.pk 4).mono ?_;rintro e w7 ⟨n,rfl,n0,n1,S7⟩;clear St;obtain⟨n,rfl⟩:=yd n0;have he:n<4:=by omega
   clear n0 n1;go_wp2_with fail;go_loopw [8] (λi wr=>∃j:Nat,j<=n/\i=.int .i64 j/\Pf w0 g (N+4+2*j) w W1 b5 wr) (λi _=>n - (intOf i).toNat)
   case atStart=>exact⟨0,yh _,rfl,_,_,_,_,_,_,_,P1,S7⟩
   case round=>
    clear S7;obtain⟨j,hj,rfl,m1,i1,e1,c1,s1,l1,q1,Q,St⟩:=hrel;have cN:=AY St.yM;obtain⟨⟨⟨ma,mn,mc,rfl⟩,⟨ia,iN,ic,rfl⟩,⟨ea,en,ec,rfl⟩,⟨ca,cn,cc,rfl⟩⟩,⟨sa,sn,sc,rfl⟩,⟨la,ln,lc,rfl⟩,⟨qa,qn,qc,rfl⟩⟩:=St.sf.zS
    by_cases bz:j<n
    .go_wp2_with fail
     obtain⟨N1,hN1⟩:∃M,M=N+4+2*j:=⟨_,rfl⟩
     rw[<-hN1] at St;obtain⟨c0,c1,c2,c3,c4,c5,c6,c7,c8⟩:=AE St.yM;have ab:=AY St.yM;refine Iy (s:=10) (U:=λix vv=>match ix with
      |2=>Pk 64 vv
      |4=>Pk 99 vv
      |5=>∃x:Int,vv=.int .i64 x/\1<=x/\x<=99
      |6|7=>∃v,∃x:Bool,vv=.tuple #[v,.bool x]
      |_=>True) 11 68 1 2 [2,4] [.a #[.slice ma mn mc,.slice ia iN ic,.slice ea en ec,.slice ca cn cc,.slice sa sn sc,.slice la ln lc,.slice qa qn qc,.int .i64 Q.zT,.int .i64 Q.zW],.p g 0,.z,.p g 0,.z,.z,.z,.z,.z,.z,.u] (λix vv ww=>match ix with
      |6|7=>∃v,(∃x:Bool,vv=.tuple #[v,.bool x])/\Nm (w.heap.size+1) ww v
      |8=>Nm (w.heap.size+1) ww vv
      |9=>True
      |_=>True) (λww=>Pf w0 g (N1+2) w W1 b5 ww) St.dr ?_ ?_ ?_ ?_ ?_ (hst:=?_)
     .intro i hi hS o ho a wx Hb ll Hd HL hr K HK
      match i,hi,hS with
      |0,_,_=>have hW:=hr (by kernel_rfl);have am:=gc hW ab (by omega) c0;have bi:=gc hW ab (by omega) c1;have bZ:=gc hW ab (by omega) c2;have bX:=gc hW ab (by omega) c3;have cv:=gc hW ab (by omega) c4;have ct:=gc hW ab (by omega) c5;have cr:=gc hW ab (by omega) c6;have cq:=gc hW ab (by omega) c7;have cp:=gc hW ab (by omega) c8;exact NU ho HK Hb Hd HL (hl:=Vn ‹_› ‹_› ‹_› ‹_› ‹_› ‹_› ‹_› ‹_› ‹_›)
      |1,_,_|3,_,_=>exact WR ho HK Hb Hd HL
      |2,_,hs|4,_,hs|10,_,hs=>cases hs
      |5,_,_=>obtain rfl:=yH ho;have d4:(Pk 99 (a.tmps[44]?.getD undef))/\(ll 10=false->True):=DT Hd HL 4;obtain⟨⟨x4,d4,p2,p3⟩,_⟩:=d4;have bn:=Ba HL 10;clear Hd Hb;refine yG ?_;go_simp;exact HK.out _ _ ⟨⟨_,by rw[xy _ (by omega)],by omega,by omega⟩,λ_=>trivial⟩ (yF _ _)
      |6,_,_=>obtain rfl:=yH ho;have d0:(a.tmps[40]?.getD undef)=.agg #[.slice ma mn mc,.slice ia iN ic,.slice ea en ec,.slice ca cn cc,.slice sa sn sc,.slice la ln lc,.slice qa qn qc,.int .i64 Q.zT,.int .i64 Q.zW]:=DT Hd HL 0;have d2:(Pk 64 (a.tmps[42]?.getD undef))/\(ll 10=false->True):=DT Hd HL 2;obtain⟨⟨x2,d2,p0,p1⟩,_⟩:=d2;have d5:(∃x:Int,(a.tmps[45]?.getD undef)=.int .i64 x/\1<=x/\x<=99)/\(ll 10=false->True):=DT Hd HL 5;obtain⟨⟨x5,d5,r0,r1⟩,_⟩:=d5;have bn:=Ba HL 10;clear Hd Hb;have hW:=hr (by kernel_rfl);have br:=St.sf.map (GI hW (by omega) (yv _));have cJ:=hW.size;obtain⟨a2,rfl⟩:=yd p0;refine yG ?_;go_simp;refine(Kc _ _ _ _ _ _ _ Q wx br.rd St.good (a:=a2) (by omega) (x:=x5) (Ac.2 (by omega))).mono ?_;rintro e w_ ⟨m9,i9,e9,c9,s9,l9,q9,rfl,hO,bq⟩;exact HK.out _ _ ⟨⟨_,_,rfl⟩,λ_=>⟨_,⟨_,rfl⟩,hO.sf.pgR (Rw St.good (by omega) (Ac.2 (by omega))) (by omega)⟩⟩ bq
      |7,_,_=>obtain rfl:=yH ho;have d6:(∃v,∃x:Bool,(a.tmps[46]?.getD undef)=.tuple #[v,.bool x])/\(ll 10=false->∃v,(∃x:Bool,(a.tmps[46]?.getD undef)=.tuple #[v,.bool x])/\Nm (w.heap.size+1) wx v):=DT Hd HL 6;have bn:=Ba HL 10;clear Hd Hb;have q:=d6.2 (Ba HL 10);obtain⟨v9,⟨x9,e9⟩,q⟩:=q;refine yG ?_;go_simp;exact HK.out _ _ ⟨⟨_,_,rfl⟩,λ_=>⟨_,⟨_,rfl⟩,q⟩⟩ (yF _ _)
      |8,_,_=>obtain rfl:=yH ho;have d7:(∃v,∃x:Bool,(a.tmps[39]?.getD undef)=.tuple #[v,.bool x])/\(ll 10=false->∃v,(∃x:Bool,(a.tmps[39]?.getD undef)=.tuple #[v,.bool x])/\Nm (w.heap.size+1) wx v):=DT Hd HL 7;have bn:=Ba HL 10;clear Hd Hb;have q:=d7.2 (Ba HL 10);obtain⟨v9,⟨x9,e9⟩,q⟩:=q;refine yG ?_;go_simp;exact HK.out _ _ ⟨trivial,λ_=>q⟩ (yF _ _)
      |9,_,_=>obtain rfl:=yH ho;have d7:(∃v,∃x:Bool,(a.tmps[39]?.getD undef)=.tuple #[v,.bool x])/\(ll 10=false->∃v,(∃x:Bool,(a.tmps[39]?.getD undef)=.tuple #[v,.bool x])/\Nm (w.heap.size+1) wx v):=DT Hd HL 7;clear Hd Hb;obtain⟨v9,x9,e9⟩:=d7.1;refine yG ?_;go_simp;exact HK.out _ _ ⟨trivial,λ_=>trivial⟩ (yF _ _)
     .intro i hi hS o ho a wx Hb ll Hd HL hG K HK
      match i,hi,hS with
      |2,_,_=>exact fK (m:=64) ho HK Hb Hd HL hG (by omega)
      |4,_,_=>exact fK (m:=99) ho HK Hb Hd HL hG (by omega)
      |0,_,hs|1,_,hs|3,_,hs|5,_,hs|6,_,hs|7,_,hs|8,_,hs|9,_,hs|10,_,hs=>cases hs
     .intro o ho a wx Hb ll Hd HL hD hW K HK
      obtain rfl:=yH ho;have e5:a.tmps[5]?.getD undef=.pointer (some ⟨b5,0,none⟩):=eg (OV Hb 5);have d8:(True)/\(ll 10=false->Nm (w.heap.size+1) wx (a.tmps[47]?.getD undef)):=DT Hd HL 8;clear Hd Hb;have q:=d8.2 HL.out.1;obtain⟨m9,i9,e9,c9,s9,l9,q9,P9,e0,az,av⟩:=q;unfold AQ at e0;obtain⟨⟨⟨va,vn,vc,rfl⟩,⟨wa,wn,wc,rfl⟩,⟨xa,xn,xc,rfl⟩,⟨ya,yn,yc,rfl⟩⟩,⟨ta,tn,tc,rfl⟩,⟨ua,un,uc,rfl⟩,⟨za,zn,zc,rfl⟩⟩:=az.zS;have S9:=(St.draw hD hW).put az av;have B9:=(St.draw hD hW).yM;obtain⟨c0,c1,c2,c3,c4,c5,c6,c7,c8⟩:=AE B9;have fq:=AK B9;refine yG ?_;go_simp;exact HK.out undef _ ⟨_,_,_,_,_,_,_,P9,S9⟩
     .exact λ_ _ hb h=>h.below hb
     rotate_left
     .intro i hi v ww bu hg hz
      match i,hi with
      |6,_|7,_=>exact(by obtain⟨v9,h1,h2⟩:=hz;exact⟨v9,h1,h2.past (by omega) hg⟩)
      |8,_=>exact(hz.past (by omega) hg)
      |9,_|0,_|1,_|2,_|3,_|4,_|5,_|10,_=>exact hz
     .intro vs wx ll hR hA
      clear hR;simp only[Dc,Bq,yE,yB,yA,yy];simp
      try generalize vs 0=z0
      try generalize vs 1=z1
      try generalize vs 2=z2
      try generalize vs 3=z3
      try generalize vs 4=z4
      try generalize vs 5=z5
      try generalize vs 6=z6
      try generalize vs 7=z7
      try generalize vs 8=z8
      try generalize vs 9=z9
      try generalize vs 10=z10
      go_wp2_with fail;go_roundw
      case rel=>exact⟨j+1,by omega,by go_num,by rw[show N+4+2*(j+1)=N1+2 from by omega];exact hA⟩
      case measure=>simp[intOf];omega
    .obtain⟨c0,c1,c2,c3,c4,c5,c6,c7,c8⟩:=AE St.yM
     obtain⟨_,_,_,_,_,_,_,B9,_,_,a0,a1,a2,a3,R9⟩:=SK;have eK:b≠g:=by omega
     have eF:=AY R9;have cE:=(St.kp b (AY B9) eK (by omega)).trans B9;have fy:=(St.kp w.heap.size (AY R9) (by omega) (by omega)).trans R9;obtain⟨d0,d1,d2,d3⟩:=AF cE;have fd:=AK cE;have HR:=AA (Iq.put (St.dr.mono (M:=N+20) (by omega)) St.gr cE (St.sf.1.map (λ_ _ _ _ _ _ _ x=>BR x (wB _))) St.good.k ad ai bx fy);clear B9 R9 cE fy St;go_wp2_with fail;go_meet;exact HR.out
  .go_wp2_with fail
   go_meet;exact S4.mono (by omega)
 case rest=>
 clear S4 x0 x1;go_wp2_with fail;refine(hcut.pk ad bx 24 (by omega) (by decide) (by decide)).mono ?_;rintro e w5 ⟨n,rfl,n0,n1,S5⟩;clear hcut;obtain⟨n,rfl⟩:=yd n0;have cL:n<24:=by omega
 clear n0 n1;go_wp2_with fail;go_loopw [10] (λi wr=>∃j:Nat,j<=n/\i=.int .i64 j/\Iq DI w0 g (N+21+20*j) w b wr) (λi _=>n - (intOf i).toNat)
 case atStart=>exact⟨0,yh _,rfl,S5⟩
 case round=>
  clear S5;obtain⟨j,hj,rfl,m1,i1,e1,c1,k,hd,cU,hB,ce,hk,a0,a1,a2,a3,hR⟩:=hrel;obtain⟨⟨ma,mn,mc,rfl⟩,⟨ia,iN,ic,rfl⟩,⟨ea,en,ec,rfl⟩,⟨ca,cn,cc,rfl⟩⟩:=ce.zS;obtain⟨c0,c1,c2,c3⟩:=AF hB;have ab:=AY hB;have eE:=bx
  by_cases bz:j<n
  .go_wp2_with fail
   obtain⟨N1,hN1⟩:∃M,M=N+21+20*j:=⟨_,rfl⟩
   rw[<-hN1] at hd;refine Iy (s:=9) (U:=λix vv=>match ix with
    |3=>∃x:Ab,vv=.agg x.cs/\MN x
    |4|5=>∃v,∃x y:Int,vv=.tuple #[v,.int .i64 x,.int .i64 y]
    |_=>True) 10 68 20 1 [3] [.a #[.slice ma mn mc,.slice ia iN ic,.slice ea en ec,.slice ca cn cc],.p g 0,.a #[.slice ma mn mc,.slice ia iN ic,.slice ea en ec,.slice ca cn cc],.z,.z,.z,.z,.z,.z,.u] (λix vv ww=>match ix with
    |4|5=>∃v,(∃x y:Int,vv=.tuple #[v,.int .i64 x,.int .i64 y])/\X1 w.heap.size ww v
    |6=>X1 w.heap.size ww vv
    |7|8=>True
    |_=>True) (λww=>Iq DI w0 g (N1+20) w b ww) hd ?_ ?_ ?_ ?_ ?_ (hst:=?_)
   .intro i hi hS o ho a wx Hb ll Hd HL hr K HK
    match i,hi,hS with
    |0,_,_|2,_,_=>have hW:=hr (by kernel_rfl);have am:=gc hW ab (by omega) c0;have bi:=gc hW ab (by omega) c1;have bZ:=gc hW ab (by omega) c2;have bX:=gc hW ab (by omega) c3;exact NU ho HK Hb Hd HL (hl:=NZ ‹_› ‹_› ‹_› ‹_›)
    |1,_,_=>exact WR ho HK Hb Hd HL
    |3,_,hs|9,_,hs=>cases hs
    |4,_,_=>obtain rfl:=yH ho;have d0:(a.tmps[59]?.getD undef)=.agg #[.slice ma mn mc,.slice ia iN ic,.slice ea en ec,.slice ca cn cc]:=DT Hd HL 0;have d3:(∃x:Ab,(a.tmps[62]?.getD undef)=.agg x.cs/\MN x)/\(ll 9=false->True):=DT Hd HL 3;obtain⟨⟨cl,d3,bV⟩,_⟩:=d3;have u9:=Ba HL 9;clear Hd Hb;have hW:=hr (by kernel_rfl);have br:=ce.map (GI hW ad (yv _));have cJ:=hW.size;refine yG ?_;go_simp;refine(Kz br.rd hk cl ⟨bV.2.1,bV.2.2.1⟩ (by have:=bV.1;unfold maxLen;omega) (by have:=bV.2.2.2;omega)).mono ?_;rintro e w_ ⟨m9,i9,e9,c9,rfl,hO,bq⟩;exact HK.out _ _ ⟨⟨_,_,_,rfl⟩,λ_=>⟨_,⟨_,_,rfl⟩,m9,i9,e9,c9,_,rfl,hO.sf.map (λ_ _ _ _ _ _ _ x=>BR x (by omega)),MV hk ⟨bV.2.1,by have:=bV.2.2.1;omega⟩⟩⟩ bq
    |5,_,_=>obtain rfl:=yH ho;have d4:(∃v,∃x y:Int,(a.tmps[63]?.getD undef)=.tuple #[v,.int .i64 x,.int .i64 y])/\(ll 9=false->∃v,(∃x y:Int,(a.tmps[63]?.getD undef)=.tuple #[v,.int .i64 x,.int .i64 y])/\X1 w.heap.size wx v):=DT Hd HL 4;have u9:=Ba HL 9;clear Hd Hb;have q:=d4.2 (Ba HL 9);obtain⟨v9,⟨x9,y9,e9⟩,q⟩:=q;refine yG ?_;go_simp;exact HK.out _ _ ⟨⟨_,_,_,rfl⟩,λ_=>⟨_,⟨_,_,rfl⟩,q⟩⟩ (yF _ _)
    |6,_,_=>obtain rfl:=yH ho;have d5:(∃v,∃x y:Int,(a.tmps[58]?.getD undef)=.tuple #[v,.int .i64 x,.int .i64 y])/\(ll 9=false->∃v,(∃x y:Int,(a.tmps[58]?.getD undef)=.tuple #[v,.int .i64 x,.int .i64 y])/\X1 w.heap.size wx v):=DT Hd HL 5;have u9:=Ba HL 9;clear Hd Hb;have q:=d5.2 (Ba HL 9);obtain⟨v9,⟨x9,y9,e9⟩,q⟩:=q;refine yG ?_;go_simp;exact HK.out _ _ ⟨trivial,λ_=>q⟩ (yF _ _)
    |7,_,_=>obtain rfl:=yH ho;have d5:(∃v,∃x y:Int,(a.tmps[58]?.getD undef)=.tuple #[v,.int .i64 x,.int .i64 y])/\(ll 9=false->∃v,(∃x y:Int,(a.tmps[58]?.getD undef)=.tuple #[v,.int .i64 x,.int .i64 y])/\X1 w.heap.size wx v):=DT Hd HL 5;clear Hd Hb;obtain⟨v9,x9,y9,e9⟩:=d5.1;refine yG ?_;go_simp;exact HK.out _ _ ⟨trivial,λ_=>trivial⟩ (yF _ _)
    |8,_,_=>obtain rfl:=yH ho;have d5:(∃v,∃x y:Int,(a.tmps[58]?.getD undef)=.tuple #[v,.int .i64 x,.int .i64 y])/\(ll 9=false->∃v,(∃x y:Int,(a.tmps[58]?.getD undef)=.tuple #[v,.int .i64 x,.int .i64 y])/\X1 w.heap.size wx v):=DT Hd HL 5;clear Hd Hb;obtain⟨v9,x9,y9,e9⟩:=d5.1;refine yG ?_;go_simp;exact HK.out _ _ ⟨trivial,λ_=>trivial⟩ (yF _ _)
   .intro i hi hS o ho a wx Hb ll Hd HL hG K HK
    match i,hi,hS with
    |3,_,_=>exact fR (Pv:=λv _=>∃x:Ab,v=.agg x.cs/\MN x) ho HK Hb Hd HL hG (λM hM hD hW=>OA (.slice ma mn mc) (.slice ia iN ic) (.slice ea en ec) (.slice ca cn cc) k.Os hD (by omega) (λw' hg=>(ce.map (GI (AO hW hg) ad (yv _))).rd.2.1) (Nat.le_of_eq hk.len)) (hR:=λ_ _ h=>⟨h,trivial⟩)
    |0,_,hs|1,_,hs|2,_,hs|4,_,hs|5,_,hs|6,_,hs|7,_,hs|8,_,hs|9,_,hs=>cases hs
   .intro o ho a wx Hb ll Hd HL hD hW K HK
    obtain rfl:=yH ho;have e3:a.tmps[3]?.getD undef=.pointer (some ⟨b,0,none⟩):=eg (OV Hb 3);have d6:(True)/\(ll 9=false->X1 w.heap.size wx (a.tmps[64]?.getD undef)):=DT Hd HL 6;clear Hd Hb;have q:=d6.2 HL.out.1;obtain⟨m9,i9,e9,c9,k9,e0,az,av⟩:=q;obtain⟨⟨va,vn,vc,rfl⟩,⟨wa,wn,wc,rfl⟩,⟨xa,xn,xc,rfl⟩,⟨ya,yn,yc,rfl⟩⟩:=az.zS;have cV:=(hW.block b ab (by simp;omega)).trans hB;have f8:=(hW.block _ (AY hR) (by simp;omega)).trans hR;obtain⟨c0,c1,c2,c3⟩:=AF cV;have fq:=AK cV;refine yG ?_;go_simp;exact HK.out undef _ (Iq.put hD (AO cU hW) cV az av ad ai eE f8)
   .exact λ_ _ hb h=>h.below ad eE hb
   rotate_left
   .intro i hi v ww bu hg hz
    match i,hi with
    |4,_|5,_=>exact(by obtain⟨v9,h1,h2⟩:=hz;exact⟨v9,h1,h2.past ad hg⟩)
    |6,_=>exact(hz.past ad hg)
    |7,_|8,_|0,_|1,_|2,_|3,_|9,_=>exact hz
   .intro vs wx ll hR hA
    clear hR;simp only[Dc,Bq,yE,yB,yA,yy];simp
    try generalize vs 0=z0
    try generalize vs 1=z1
    try generalize vs 2=z2
    try generalize vs 3=z3
    try generalize vs 4=z4
    try generalize vs 5=z5
    try generalize vs 6=z6
    try generalize vs 7=z7
    try generalize vs 8=z8
    try generalize vs 9=z9
    go_wp2_with fail;go_roundw
    case rel=>exact⟨j+1,by omega,by go_num,by rw[show N+21+20*(j+1)=N1+20 from by omega];exact hA⟩
    case measure=>simp[intOf];omega
  .obtain⟨d0,d1,d2,d3⟩:=AF hR
   have cf:=AK hR;obtain⟨BX,FX⟩:=aI (ok:=DI) (M:=N+3000) hd cU ce hk ad ai hR (by omega);have BH:=AA BX;have FH:=AA FX;clear BX FX hB hd cU ce hR hk;go_wp2_with fail;exact yp (v:=.agg #[_,_,_,_]) (by simp[results,Tryz.results106,go_sem,AF BH.out]) rfl FH.out
theorem Rv{xs:List AU}{f:Nat}{y:AU}(h:Hz xs)(hy:y.g.size<=maxLen):Hz (xs.set f y):=by
 intro x hx
 rcases List.mem_or_eq_of_mem_set hx with h1|h1
 .exact h x h1
 .subst h1;exact hy
theorem QB{es:List EN}{j:Nat}{f:EN->EN}(h:∀i,i<es.length->DP (AJ es i).zV)(hf:∀e,DP e.zV->DP (f e).zV):∀i,i<(Ar es j f).length->DP (AJ (Ar es j f) i).zV:=by
 intro i hi;rw[Cy] at hi;rw[GE]
 split
 .rename_i e
  exact hf _ (h j e.2)
 .exact h i hi
theorem WD{es:List EN}(h:∀i,i<es.length->DP (AJ es i).zV):∀i,i<(es.take n).length->DP (AJ (es.take n) i).zV:=by
 intro i hi;rw[xW] at hi;have e:AJ (es.take n) i=AJ es i:=by unfold AJ;rw[xU,xU,tv,if_pos (by omega)]
 rw[e];exact h i (by omega)
section
variable {lo g:Nat} {w w':World} {m i e c:Value} {k:AN}
theorem Ic.putWord(h:Ic lo w g m i e c k)(bj:Bs k.mem=true){f:Nat}(hf:f<12):
 ∃gm cg gw an,m=.slice (some ⟨gm,0,none⟩) 12 cg/\gm<w.heap.size/\lo<=gm/\w.cell? ⟨gm,f,none⟩=some (.slice (some ⟨gw,0,none⟩) 4 an)/\lo<=gw/\
  ∀W q,w.grownBy W (some q)->q<lo->Ic lo W g m i e c k->(∀j,W.frozen? ⟨gw,j,none⟩=false)/\gw<W.heap.size/\(∀j,j<4->∃u,W.cell? ⟨gw,j,none⟩=some u)/\∀j v,Ic lo (W.setCell ⟨gw,j,none⟩ (.int .i64 v)) g m i e c {k with mem:=k.mem.set f ((AH k.mem f).set j v)}/\W.grownBy (W.setCell ⟨gw,j,none⟩ (.int .i64 v)) (some gw):=by
 obtain⟨gm,al,gw,an,vs,rfl,f2,_,hc,hl,cP,h1,h2,o,hu,hx⟩:=h.zf bj hf;have h4:=(A5.1 ((Ah.1 bj).2 f hf)).1;refine⟨gm,al,gw,an,rfl,f2,(yr o.1 gm rfl).1,hc,cP,λW q hg hq hI=>?_⟩;have hp:∀b',some q=some b'->b'<lo:=λb' e=>by cases e;exact hq
 have fM:w.ownsRow lo 3 1 (.slice (some ⟨gw,0,none⟩) 4 an) 4 ((AH k.mem f).map (Value.int .i64)):=by have:=hx;unfold AG at this;rwa [h4] at this
 have cw:=Bp fM hg hp;refine⟨λq=>xP cw q,(yr cw gw rfl).2,λj hj=>?_,λj v=>?_⟩
 .rw[xC cw j hj,List.getElem?_map,yx (by omega)]
  exact⟨_,rfl⟩
 have S:=wA cw j (.int .i64 v);have hO:AG lo (W.setCell ⟨gw,j,none⟩ (.int .i64 v)) (.slice (some ⟨gw,0,none⟩) 4 an) ((AH k.mem f).set j v):=by unfold AG;rw[xV,h4,List.map_set];exact S.1
 exact⟨hI.row ⟨Bp o.1 hg hp,o.2.1.mono λ_ _ x=>Bp x hg hp,o.2.2⟩ (by rw[(Ah.1 bj).1];exact hf) hu hO S.2,S.2⟩
theorem Ic.infoPut{gi:Nat}(h:Ic lo w g m (.slice (some ⟨gi,0,none⟩) n al) e c k)(hn:n=k.Os.length){f:Nat}(hf:f<k.Os.length)(y:AU):
 Ic lo (((w.setCell ⟨gi,f*3,none⟩ (.int .i64 y.k)).setCell ⟨gi,f*3+1,none⟩ (.string y.g)).setCell ⟨gi,f*3+2,none⟩ (.int .i64 y.r)) g m (.slice (some ⟨gi,0,none⟩) n al) e c {k with Os:=k.Os.set f y}/\w.grownBy (((w.setCell ⟨gi,f*3,none⟩ (.int .i64 y.k)).setCell ⟨gi,f*3+1,none⟩ (.string y.g)).setCell ⟨gi,f*3+2,none⟩ (.int .i64 y.r)) (some gi)/\lo<=gi:=by
 have hx:k.Os[f]?=some k.Os[f]:=yx hf;obtain⟨a1,a2,a3⟩:=h.info hn hx (j:=0) (by decide) (y:= {k.Os[f] with k:=y.k}) (u:=.int .i64 y.k) rfl;have fO:({k with Os:=k.Os.set f {k.Os[f] with k:=y.k}}:AN).Os[f]?=some {k.Os[f] with k:=y.k}:=xK hf;obtain⟨b1,b2,_⟩:=a1.info (by simpa using hn) fO (j:=1) (by decide) (y:= {k.Os[f] with k:=y.k,g:=y.g}) (u:=.string y.g) rfl;have fN:({k with Os:=(k.Os.set f {k.Os[f] with k:=y.k}).set f {k.Os[f] with k:=y.k,g:=y.g}}:AN).Os[f]?=some {k.Os[f] with k:=y.k,g:=y.g}:=xK (by simpa using hf);obtain⟨c1,c2,_⟩:=b1.info (by simpa using hn) fN (j:=2) (by decide) (y:=y) (u:=.int .i64 y.r) rfl;refine⟨?_,AO (AO a2 b2) c2,a3⟩;have e:((k.Os.set f {k.Os[f] with k:=y.k}).set f {k.Os[f] with k:=y.k,g:=y.g}).set f y=k.Os.set f y:=by simp
 rw[<-e];exact c1
theorem Ic.rightsSf{ge:Nat}(h:Ic lo w g m i (.slice (some ⟨ge,0,none⟩) n al) c k)(hn:n=k.zZ.length){j:Nat}(hj:j<k.zZ.length){u:Value}{ss:List ByteArray}(hu:AP lo 9 1 BB w u ss):
 (w.setCell ⟨ge,j*2,none⟩ u).heap[g]?=some (.cells #[m,i,.slice (some ⟨ge,0,none⟩) n al,c] 28 (0,0))/\OQ lo (w.setCell ⟨ge,j*2,none⟩ u) m i (.slice (some ⟨ge,0,none⟩) n al) c {k with zZ:=Ar k.zZ j (BV ss)}/\w.grownBy (w.setCell ⟨ge,j*2,none⟩ u) (some ge)/\lo<=ge:=by
 obtain⟨hB,hg,⟨vs,o1⟩,o2,⟨bo,a1,b2,b3⟩,o4⟩:=h;have eJ:bo.length=k.zZ.length:=b2.1;rw[<-eJ] at hn;subst hn;have cQ:j<bo.length:=by omega
 have S:=AP.zz FW a1 (k:=j) (x:=bo[j]) (yx cQ) (j:=0) (by decide) (y:=(u,bo[j].2)) (u:=u) rfl;rw[Nat.add_zero] at S;obtain⟨bt,hc⟩:=A6 a1 ge rfl;have cy:9≠62:=by decide
 have dd:=o1.yN S.2 hc;refine⟨KE hB S.2 hc (by decide),⟨⟨vs,dd.1,dd.2.1⟩,o2.yN S.2 hc,⟨bo.set j (u,bo[j].2),?_,⟨?_,?_⟩⟩,o4.yN S.2 hc⟩,S.2,(yr a1 ge rfl).1⟩
 .have:=S.1
  unfold AP;rw[xV];have h5:=this;unfold AP at h5;rw[xV] at h5;exact h5
 .rw[xV,Cy];exact eJ
 .intro q p ev hp bk
  rw[JD (d:=⟨[],0⟩)] at bk
  by_cases e:j=q
  .subst e
   rw[xK cQ] at hp;rw[xK hj] at bk;cases hp;cases bk;have hx:=b2.2 j bo[j] (k.zZ.getD j ⟨[],0⟩) (yx cQ) (A1 hj);exact⟨hu.yN S.2 hc cy,hx.2⟩
  .rw[List.getElem?_set_ne e] at hp bk
   have hx:=b2.2 q p ev hp bk;exact⟨hx.1.yN S.2 hc cy,hx.2⟩
theorem RD{α:Type}{cs:α->List Value}{sz:Nat}(hs:∀x,(cs x).length=sz)(xs:List α)(n:Nat):Ch cs (xs.take n)=(Ch cs xs).take (n*sz):=by
 induction xs generalizing n with
 |nil=>simp[Ch]
 |cons x xs ih=>
  cases n with
  |zero=>simp[Ch]
  |succ n=>rw[List.take_succ_cons,H5,H5,ih,show(n+1)*sz=(cs x).length+n*sz by rw[hs,Nat.succ_mul,Nat.add_comm],List.take_length_add_append]
theorem Yw{α:Type}{cs:α->List Value}{sz e g x:Nat}{xs:List α}(hs:∀x,(cs x).length=sz)(h:AP lo e sz cs w (.slice (some ⟨g,0,none⟩) n al) xs)(hn:n=xs.length)(hx:x<=n):AP lo e sz cs w (.slice (some ⟨g,0,none⟩) x al) (xs.take x):=by
 subst hn;have hl:(xs.take x).length=x:=by rw[xW];omega
 obtain⟨h1,h2⟩:=h;unfold AP;rw[hl]
 rcases h2 with⟨h3,_⟩|⟨g',cap',bt,h3,h4,h5,h6,h7,h8,h9⟩
 .cases h3
 .simp only[xD,Option.some.injEq,Addr.mk.injEq,true_and,and_true] at h3
  obtain⟨rfl,rfl⟩:=h3;refine⟨?_,.inr ⟨g,al,bt,rfl,h4,h5,by omega,h7,h8,?_⟩⟩
  .rw[RD hs,xW,h1]
   exact ue (vK sz hx)
  .rw[RD hs,<-h9,List.take_take,ue (vK sz hx)]
theorem OQ.cutEnvs{ge x:Nat}(h:OQ lo w m i (.slice (some ⟨ge,0,none⟩) n al) c k)(hn:n=k.zZ.length)(hx:x<=n):OQ lo w m i (.slice (some ⟨ge,0,none⟩) x al) c {k with zZ:=k.zZ.take x}:=by
 obtain⟨h1,h2,⟨ps,h3,h4⟩,h5⟩:=h;refine⟨h1,h2,⟨ps.take x,Yw FW h3 (hn.trans h4.1.symm) hx,?_,λj p ev hp bk=>?_⟩,h5⟩
 .rw[xW,xW,h4.1]
 .rw[tv] at hp bk
  split at hp
  .rename_i hj
   rw[if_pos hj] at bk;exact h4.2 j p ev hp bk
  .cases hp
end
def Oo(lo:Nat)(w:World)(v:Value):Prop:=∃ss,AP lo 9 1 BB w v ss/\DP ss
theorem Oo.past{lo g:Nat}{w w':World}{v:Value}(h:Oo lo w v)(hg:g<lo)(hb:w.grownBy w' (some g)):Oo lo w' v:=by
 obtain⟨ss,h1,h2⟩:=h;exact⟨ss,Bp h1 hb (λb' e=>by cases e;exact hg),h2⟩
theorem Xh{P:Program}{f:FuncId}{vs:Array Value}{w0 w:World}{g N lo:Nat}(h:Calls P f vs w (JY w0 g N w λv w'=>∃ss,AP w.heap.size 9 1 BB w' v ss/\DP ss))(hl:lo<=w.heap.size):Calls P f vs w (JY w0 g N w λv w'=>Oo lo w' v):=
 h.mono λ_ _ h=>by obtain⟨v,rfl,⟨ss,h1,h2⟩,h3⟩:=h;exact⟨v,rfl,⟨ss,h1.lower hl,h2⟩,h3⟩
theorem Vl{w0 w:World}{g N:Nat}(h:Dr w0 g N w)(hN:N<=300000):
 Calls prog 48 #[.pointer (some ⟨g,0,none⟩)] w (bL EQ w0 g (N+3200) w):=by
 have ad:=h.lt;have ai:w0.heap.size<=w.heap.size:=h.2.1.size;have B0:=yw w (.cells #[.slice none 0 0,.slice none 0 0,.slice none 0 0,.slice none 0 0] 28);have gA:=AW (AD w (.cells #[.slice none 0 0,.slice none 0 0,.slice none 0 0,.slice none 0 0] 28)) (some g);have cx:w.heap.size+1=(w.alloc (.cells #[.slice none 0 0,.slice none 0 0,.slice none 0 0,.slice none 0 0] 28)).heap.size:=by simp
 go_in;go_wp2_with fail;have hA:=h.alloc (.cells #[.slice none 0 0,.slice none 0 0,.slice none 0 0,.slice none 0 0] 28);generalize w.alloc _=wa at*;refine(Qg hA (by omega)).mono ?_;rintro e w1 ⟨v,rfl,⟨m,i,ev,c,k,rfl,S1,hk⟩,h1,g1⟩;obtain⟨⟨ma,mn,mc,rfl⟩,⟨ia,iN,ic,rfl⟩,⟨ea,en,ec,rfl⟩,⟨ca,cn,cc,rfl⟩⟩:=S1.zS;rw[<-cx] at S1;have eL:g<wa.heap.size:=by omega
 have B1:=(g1.block w.heap.size (by omega) (by simp;omega)).trans B0;have bK:=AD w1 (.cells #[.slice ma mn mc,.slice ia iN ic,.slice ea en ec,.slice ca cn cc] 28);have NK:=yw w1 (.cells #[.slice ma mn mc,.slice ia iN ic,.slice ea en ec,.slice ca cn cc] 28);have h2:=h1.below bK;have G2:=AO (AO gA g1) (AW bK (some g));have B2:=AC B1 bK;have S2:OQ (w.heap.size+1) _ _ _ _ _ k:=S1.map (J4 bK (yv _));have ab:w.heap.size<w1.heap.size:=by have:=g1.size;omega
 clear S1 B1 h1 g1 hA B0 bK gA h;go_wp2_with fail;obtain⟨b,hb⟩:∃b,b=w1.heap.size:=⟨_,rfl⟩
 rw[<-hb] at NK ab ⊢;clear hb;generalize w1.alloc _=w2 at*;refine(h2.pick _).mono ?_;rintro e w3 ⟨x,rfl,x0,x1,h3,g3⟩;have hp:∀b',some g=some b'->b'<w.heap.size+1:=λb' e=>by cases e;omega
 have S3:OQ (w.heap.size+1) w3 _ _ _ _ k:=S2.map (GI g3 (by omega) (yv _));have B3:=Fg B2 (yv _) g3 (λb' e=>by cases e;exact ad);have au:=Fg NK (Nat.le_of_lt ab) g3 (λb' e=>by cases e;exact ad);have G3:=AO G2 g3;obtain⟨c0,c1,c2,c3⟩:=AF au;clear S2 B2 NK h2 G2 g3
 by_cases hx:0<x
 .obtain⟨d0,d1,d2,d3⟩:=AF B3
  have cf:=AK B3;obtain⟨BX,FX⟩:=aI (ok:=EQ) (M:=N+3200) h3 G3 (S3.map (λ_ _ _ _ _ _ _ h=>BR h (wB _))) (Ce hk) ad ai B3 (by omega);have BH:=AA BX;have FH:=AA FX;clear BX FX B3 h3 G3 S3 au hk;go_wp2_with fail;exact yp (v:=.agg #[_,_,_,_]) (by simp[results,sR,go_sem,AF BH.out]) rfl FH.out
 .have hS:=S3.rd
  go_wp2_with fail;refine(Ky _ _ _ _ k w3 hS hk).mono ?_;rintro e w4 ⟨m',i',e',c',rfl,O4,b4⟩;obtain⟨⟨dO,dN,cI,rfl⟩,⟨eB,eC,bp,rfl⟩,⟨eN,eM,bd,rfl⟩,⟨gk,gf,gg,rfl⟩⟩:=O4.zS;have h4:=h3.below b4;have hz:w.heap.size+1<=w3.heap.size:=by have:=AY B3;omega
  have cD:=AC au b4;have fz:=AK cD;have St:=aH (ok:=DI) h4 (AO G3 (AW b4 _)) cD (O4.lower hz) hk ad ai ab ⟨_,_,_,_,AC B3 b4⟩;obtain⟨c0,c1,c2,c3⟩:=AF cD;clear h3 h4 G3 S3 hS au cD B3 O4 b4 hz;go_wp2_with fail;generalize(((w4.setCell _ _).setCell _ _).setCell _ _).setCell _ _=w5 at St ⊢;refine(St.pk _).mono ?_;rintro e w6 ⟨f,rfl,f0,f1,S6⟩;clear St c0 c1 c2 c3 fz;go_wp2_with fail;refine(S6.pk _).mono ?_;rintro e w7 ⟨u,rfl,u0,u1,St⟩;clear S6;obtain⟨f,rfl⟩:=yd f0;go_upto_block 0 with fail;go_cut [] (λwx=>Iq EQ w0 g (N+3200) w b wx)
  case rest=>clear St;obtain⟨m9,i9,e9,c9,k9,h9,G9,N9,S9,av,a0,a1,a2,a3,B9⟩:=hcut;obtain⟨⟨dO,dN,cI,rfl⟩,⟨eB,eC,bp,rfl⟩,⟨eN,eM,bd,rfl⟩,⟨gk,gf,gg,rfl⟩⟩:=S9.zS;obtain⟨c0,c1,c2,c3⟩:=AF N9;obtain⟨d0,d1,d2,d3⟩:=AF B9;have cf:=AK B9;obtain⟨BX,FX⟩:=aI (ok:=EQ) h9 G9 S9 av ad ai B9 (yv _);have BH:=AA BX;have FH:=AA FX;clear BX FX B9 N9 h9 G9 S9 hk;go_wp2_with fail;exact yp (v:=.agg #[_,_,_,_]) (by simp[results,sR,go_sem,AF BH.out]) rfl FH.out
  case first=>
   have hf:f<12:=by omega
   have f4:(f:Int)<12:=by omega
   rcases(show u=0∨u=1∨u=2∨u=3∨u=4∨u=5∨u=6 by omega) with rfl|rfl|rfl|rfl|rfl|rfl|rfl
   .obtain⟨gm,cg,gw,an,e1,fI,fG,Df,fF,SW⟩:=St.yK.putWord (Aw hk).1 hf
    cases e1;have SW:=AA SW;obtain⟨c0,c1,c2,c3⟩:=AF St.yK.1;have ac:=AY St.yK.1;have ax:=St.lt;have bf:w.heap.size+1<=w7.heap.size:=by omega
    go_wp2_with fail;refine Et 10 87 3 2 [6,8] [.p b 0,.s gm 12 cI,.i ((f:Int)),.p gm f,.s gw 4 an,.p g 0,.z,.p g 0,.z,.z] (λix vv ww=>match ix with
     |6=>Pk 4 vv
     |8=>∃x:Int,vv=.int .i64 x/\ -1<=x/\x<=9999
     |9=>∃x:Int,vv=.int .i64 x
     |_=>True) St.dr ?_ ?_
    .intro i hi o ho a wx Hb Hd ll HL hG hW K HQ HK
     have am:=gc hW ac (by omega) c0;have bi:=gc hW fI (by omega) Df
     match i,hi with
     |0,_|2,_|5,_|7,_=>exact sP ho HK Hb Hd
     |1,_=>exact sL ho HK Hb Hd (hl:=GM ‹_›)
     |3,_=>exact sI ho HK Hb Hd (hr:=by clear Hd Hb HK;go_simp)
     |4,_=>exact sL ho HK Hb Hd (hl:=Jx ‹_›)
     |6,_=>exact dK (m:=4) ho HQ Hb Hd HL hG (by omega)
     |8,_=>exact bQ ho HQ Hb Hd HL hG (λM hM hD hW=>Me hD (by omega))
     |9,_=>
      clear am bi;obtain rfl:=yH ho;have d8:∃x:Int,(a.tmps[27]?.getD undef)=.int .i64 x/\ -1<=x/\x<=9999:=BT Hd 8
      obtain⟨x8,d8,y0,y1⟩:=d8;clear Hd Hb;refine yG ?_;go_simp;exact HK.out _ _ ⟨_,rfl⟩ (yF _ _)
    .intro vs wx hR hD hW
     have q4:(vs 4)=.slice (some ⟨gw,0,none⟩) 4 an:=BZ hR 4;have q6:Pk 4 (vs 6):=BZ hR 6;obtain⟨x6,q6,p0,p1⟩:=q6;have q9:∃x:Int,(vs 9)=.int .i64 x:=BZ hR 9
     obtain⟨x9,q9⟩:=q9;clear hR;simp only[Al,AV,yE,yB,yA,yy,q4,q6,q9];simp;clear q4 q6 q9;have S9:=St.draw hD hW;obtain⟨x6,rfl⟩:=yd p0;obtain⟨fz,hw,cS,fw⟩:=SW.out wx g hW (by omega) S9.yK;obtain⟨_,cS⟩:=cS x6 (by omega);obtain⟨I9,g9⟩:=fw x6 x9;have HR:=AA (S9.ke (ok':=EQ) g9 (by omega) I9.1 I9.2.2.sf ⟨(Ce hk).1,(Ce hk).2⟩ (M:=N+3200) (by omega));clear S9 I9 g9 fw hD hW St;go_wp2_with fail;go_meet;exact HR.out
   .skip
    obtain⟨gi,cX,e1,dA,cF,_,_,D2,_⟩:=St.yK.zU' (f:=f) (by rw[hk.len];exact hf);rw[hk.len] at e1;cases e1;obtain⟨c0,c1,c2,c3⟩:=AF St.yK.1;have ac:=AY St.yK.1;have ax:=St.lt;have bf:w.heap.size+1<=w7.heap.size:=by omega
    go_wp2_with fail;refine Et 5 87 10 1 [4] [.p b 1,.s gi 12 bp,.i ((f:Int)),.p g 0,.z] (λix vv ww=>match ix with
     |4=>MO vv
     |_=>True) St.dr ?_ ?_
    .intro i hi o ho a wx Hb Hd ll HL hG hW K HQ HK
     have am:=gc hW ac (by omega) c1
     match i,hi with
     |0,_|2,_|3,_=>exact sP ho HK Hb Hd
     |1,_=>exact sL ho HK Hb Hd (hl:=GF ‹_›)
     |4,_=>exact bQ ho HQ Hb Hd HL hG (λM hM hD hW=>UV hD (by omega))
    .intro vs wx hR hD hW
     have q1:(vs 1)=.slice (some ⟨gi,0,none⟩) 12 bp:=BZ hR 1;have q2:(vs 2)=.int .i64 f:=BZ hR 2;have q4:MO (vs 4):=BZ hR 4;obtain⟨y4,g6,q4⟩:=q4;clear hR;simp only[Al,AV,yE,yB,yA,yy,q1,q2,q4];simp;clear q1 q2 q4;have S9:=St.draw hD hW;obtain⟨gb,ch,e1,cG,_,_,_,_,fz⟩:=S9.yK.zU' (f:=f) (by rw[hk.len];exact hf);rw[hk.len] at e1;cases e1;obtain⟨I9,g9,_⟩:=S9.yK.infoPut hk.len.symm (f:=f) (by rw[hk.len];exact hf) y4;have HR:=AA (S9.ke (ok':=EQ) g9 (by omega) I9.1 I9.2.2.sf ⟨Rv (Ce hk).1 (by unfold maxLen;omega),(Ce hk).2⟩ (M:=N+3200) (by omega));clear S9 I9 g9 hD hW St;go_wp2_with fail;go_meet;exact HR.out
   .skip
    obtain⟨gi,cX,e1,dA,cF,_,_,D2,_⟩:=St.yK.zU' (f:=f) (by rw[hk.len];exact hf);rw[hk.len] at e1;cases e1;obtain⟨c0,c1,c2,c3⟩:=AF St.yK.1;have ac:=AY St.yK.1;have ax:=St.lt;have bf:w.heap.size+1<=w7.heap.size:=by omega
    go_wp2_with fail;refine Aa 10 87 [.p b 1,.s gi 12 bp,.i ((f:Int)),.p b 1,.s gi 12 bp,.i ((f:Int)),.p gi (f*3),.p gi (f*3+2),.i ((zU k.Os f).r),.z] (λix vv ww=>match ix with
     |9=>∃x:Int,vv=.int .i64 x
     |_=>True) ?_ ?_
    .intro i hi o ho a wx Hb Hd hG K HK
     have am:=bc hG ac c1;have bi:=bc hG dA D2
     match i,hi with
     |0,_|2,_|3,_|5,_|7,_=>exact sP ho HK Hb Hd
     |1,_|4,_=>exact sL ho HK Hb Hd (hl:=GF ‹_›)
     |6,_=>exact sI ho HK Hb Hd (hr:=by clear Hd Hb HK;go_simp)
     |8,_=>exact sL ho HK Hb Hd (hl:=Fo ‹_›)
     |9,_=>clear am bi;obtain rfl:=yH ho;have d8:(a.tmps[48]?.getD undef)=.int .i64 ((zU k.Os f).r):=BT Hd 8;clear Hd Hb;refine yG ?_;go_simp;exact HK.out _ _ ⟨_,rfl⟩ (yF _ _)
    .intro vs wx hR hG
     have q1:(vs 1)=.slice (some ⟨gi,0,none⟩) 12 bp:=BZ hR 1;have q2:(vs 2)=.int .i64 f:=BZ hR 2;have q9:∃x:Int,(vs 9)=.int .i64 x:=BZ hR 9
     obtain⟨x9,q9⟩:=q9;clear hR;simp only[Al,AV,yE,yB,yA,yy,q1,q2,q9];simp;clear q1 q2 q9;have S9:=St.below hG;obtain⟨gb,ch,e1,cG,_,d0,d1,d2,fz⟩:=S9.yK.zU' (f:=f) (by rw[hk.len];exact hf);rw[hk.len] at e1;cases e1;obtain⟨I9,g9,_⟩:=S9.yK.info hk.len.symm (f:=f) (x:=zU k.Os f) (Ci (by rw[hk.len];exact hf)) (j:=2) (by decide) (y:= {zU k.Os f with r:=x9}) (u:=.int .i64 x9) rfl;have HR:=AA (S9.ke (ok':=EQ) g9 (by omega) I9.1 I9.2.2.sf ⟨Rv (Ce hk).1 (show(zU k.Os f).g.size<=maxLen from(Ce hk).1 _ (List.mem_of_getElem? (Ci (show f<k.Os.length by rw[hk.len];exact hf)))),(Ce hk).2⟩ (M:=N+3200) (by omega));clear S9 I9 g9 hG St;go_wp2_with fail;go_meet;exact HR.out
   .skip
    obtain⟨ge,cj,_,_,e1,dB,_⟩:=St.yK.env (j:=0) (by rw[hk.zP];decide);rw[hk.zP] at e1;cases e1;obtain⟨c0,c1,c2,c3⟩:=AF St.yK.1;have ac:=AY St.yK.1;have ax:=St.lt;have bf:w.heap.size+1<=w7.heap.size:=by omega
    go_wp2_with fail;refine Et 7 87 1 2 [3,5] [.p b 2,.s ge 3 bd,.p g 0,.z,.p g 0,.z,.z] (λix vv ww=>match ix with
     |3=>Pk 3 vv
     |5=>Pk 13 vv
     |6=>∃x:Int,vv=.int .i64 x
     |_=>True) St.dr ?_ ?_
    .intro i hi o ho a wx Hb Hd ll HL hG hW K HQ HK
     have am:=gc hW ac (by omega) c2
     match i,hi with
     |0,_|2,_|4,_=>exact sP ho HK Hb Hd
     |1,_=>exact sL ho HK Hb Hd (hl:=NX ‹_›)
     |3,_=>exact dK (m:=3) ho HQ Hb Hd HL hG (by omega)
     |5,_=>exact dK (m:=13) ho HQ Hb Hd HL hG (by omega)
     |6,_=>clear am;obtain rfl:=yH ho;have d5:Pk 13 (a.tmps[59]?.getD undef):=BT Hd 5;obtain⟨x5,d5,q0,q1⟩:=d5;clear Hd Hb;refine yG ?_;go_simp;exact HK.out _ _ ⟨_,rfl⟩ (yF _ _)
    .intro vs wx hR hD hW
     have q1:(vs 1)=.slice (some ⟨ge,0,none⟩) 3 bd:=BZ hR 1;have q3:Pk 3 (vs 3):=BZ hR 3;obtain⟨x3,q3,p0,p1⟩:=q3;have q6:∃x:Int,(vs 6)=.int .i64 x:=BZ hR 6
     obtain⟨x9,q6⟩:=q6;clear hR;simp only[Al,AV,yE,yB,yA,yy,q1,q3,q6];simp;clear q1 q3 q6;have S9:=St.draw hD hW;obtain⟨x3,rfl⟩:=yd p0;have bv:x3<3:=by omega
     obtain⟨gd,ci,_,_,e1,cH,_,_,_,fz⟩:=S9.yK.env (j:=x3) (by rw[hk.zP];exact bv);rw[hk.zP] at e1;cases e1;obtain⟨I9,g9,_⟩:=S9.yK.root hk.zP.symm (j:=x3) (by rw[hk.zP];exact bv) x9;have HR:=AA (S9.ke (ok':=EQ) g9 (by omega) I9.1 I9.2.2.sf ⟨(Ce hk).1,QB (Ce hk).2 (λ_ h=>h)⟩ (M:=N+3200) (by omega));clear S9 I9 g9 hD hW St;go_wp2_with fail;go_meet;exact HR.out
   .skip
    obtain⟨ge,cj,_,_,e1,dB,_⟩:=St.yK.env (j:=0) (by rw[hk.zP];decide);rw[hk.zP] at e1;cases e1;obtain⟨c0,c1,c2,c3⟩:=AF St.yK.1;have ac:=AY St.yK.1;have ax:=St.lt;have bf:w.heap.size+1<=w7.heap.size:=by omega
    go_wp2_with fail;refine Et 6 87 60 2 [3,5] [.p b 2,.s ge 3 bd,.p g 0,.z,.p g 0,.z] (λix vv ww=>match ix with
     |3=>Pk 3 vv
     |5=>Oo (w.heap.size+1) ww vv
     |_=>True) St.dr ?_ ?_ (hst:=?_)
    .intro i hi o ho a wx Hb Hd ll HL hG hW K HQ HK
     have am:=gc hW ac (by omega) c2
     match i,hi with
     |0,_|2,_|4,_=>exact sP ho HK Hb Hd
     |1,_=>exact sL ho HK Hb Hd (hl:=NX ‹_›)
     |3,_=>exact dK (m:=3) ho HQ Hb Hd HL hG (by omega)
     |5,_=>exact dR ho HQ Hb Hd HL hG (λM hM hD hW=>Xh (Qf hD (by omega)) (yD bf hW.size))
    rotate_left
    .intro i hi vv wz bu bW hz
     match i,hi with
     |3,_=>exact hz
     |5,_=>exact Oo.past hz (by omega) bW
     |0,_|1,_|2,_|4,_=>exact hz
    .intro vs wx hR hD hW
     have q1:(vs 1)=.slice (some ⟨ge,0,none⟩) 3 bd:=BZ hR 1;have q3:Pk 3 (vs 3):=BZ hR 3;obtain⟨x3,q3,p0,p1⟩:=q3;have q5:Oo (w.heap.size+1) wx (vs 5):=BZ hR 5;clear hR;simp only[Al,AV,yE,yB,yA,yy,q1,q3];simp;generalize vs 5=z5 at q5 ⊢;clear q1 q3;have S9:=St.draw hD hW;obtain⟨x3,rfl⟩:=yd p0;have bv:x3<3:=by omega
     obtain⟨gd,ci,_,_,e1,cH,_,_,_,fz⟩:=S9.yK.env (j:=x3) (by rw[hk.zP];exact bv);rw[hk.zP] at e1;cases e1;obtain⟨ss,hO,fP⟩:=q5;obtain⟨N9,aq,g9,_⟩:=S9.yK.rightsSf hk.zP.symm (j:=x3) (by rw[hk.zP];exact bv) hO;have HR:=AA (S9.ke (ok':=EQ) g9 (by omega) N9 aq ⟨(Ce hk).1,QB (Ce hk).2 (λ_ _=>fP)⟩ (M:=N+3200) (by omega));obtain⟨_,_,rfl,_,_⟩:=hO.rd.shape;clear S9 N9 aq g9 hD hW St hO;go_wp2_with fail;go_meet;exact HR.out
   .skip
    obtain⟨c0,c1,c2,c3⟩:=AF St.yK.1;have ac:=AY St.yK.1;have ax:=St.lt;have bf:w.heap.size+1<=w7.heap.size:=by omega
    go_wp2_with fail;refine(Sv St.dr (by omega)).mono ?_;rintro e w8 ⟨v,rfl,⟨ss,hO⟩,h8,g8⟩;have S9:=St.draw h8 g8;have hO:=hO.lower bf;have g9:=Aq w8 b 3 v;have N9:=yu w8 b 3 _ _ v S9.yK.1;have O9:=S9.yK.2.2.sf;have aq:OQ (w.heap.size+1) (w8.setCell ⟨b,3,none⟩ v) _ _ _ v {k with zY:=ss}:=OQ.map (⟨O9.1,O9.2.1,O9.2.2.1,hO⟩:OQ (w.heap.size+1) w8 _ _ _ v {k with zY:=ss}) (KV g9 S9.yK.1 (.inl rfl) (yv _));have HR:=AA (S9.ke (ok':=EQ) g9 ax (by simpa using N9) aq ⟨(Ce hk).1,(Ce hk).2⟩ (M:=N+3200) (by omega));have fz:=AK S9.yK.1;obtain⟨c0,c1,c2,c3⟩:=AF S9.yK.1;obtain⟨_,_,rfl,_,_⟩:=hO.rd.shape;clear S9 N9 aq O9 g9 h8 g8 St hO;go_wp2_with fail;go_meet;exact HR.out
   .skip
    obtain⟨ge,cj,_,_,e1,dB,_⟩:=St.yK.env (j:=0) (by rw[hk.zP];decide);rw[hk.zP] at e1;cases e1;obtain⟨c0,c1,c2,c3⟩:=AF St.yK.1;have ac:=AY St.yK.1;have ax:=St.lt;have bf:w.heap.size+1<=w7.heap.size:=by omega
    go_wp2_with fail;refine Et 4 87 1 1 [3] [.p b 2,.s ge 3 bd,.p g 0,.z] (λix vv ww=>match ix with
     |3=>Pk 3 vv
     |_=>True) St.dr ?_ ?_
    .intro i hi o ho a wx Hb Hd ll HL hG hW K HQ HK
     have am:=gc hW ac (by omega) c2
     match i,hi with
     |0,_|2,_=>exact sP ho HK Hb Hd
     |1,_=>exact sL ho HK Hb Hd (hl:=NX ‹_›)
     |3,_=>exact dK (m:=3) ho HQ Hb Hd HL hG (by omega)
    .intro vs wx hR hD hW
     have q1:(vs 1)=.slice (some ⟨ge,0,none⟩) 3 bd:=BZ hR 1;have q3:Pk 3 (vs 3):=BZ hR 3;obtain⟨x3,q3,p0,p1⟩:=q3;clear hR;simp only[Al,AV,yE,yB,yA,yy,q1,q3];simp;clear q1 q3;have S9:=St.draw hD hW;obtain⟨x3,rfl⟩:=yd p0;have bv:x3<3:=by omega
     have f6:3<=bd:=by obtain⟨_,_,e9,cS,_⟩:=S9.yK.2.2.2.2.1.choose_spec.1.rd.shape;simp only[xD] at e9;obtain⟨_,e8,rfl⟩:=e9;omega
     have g9:=Aq wx b 2 (.slice (some ⟨ge,0,none⟩) x3 bd);have N9:=yu wx b 2 _ _ (.slice (some ⟨ge,0,none⟩) x3 bd) S9.yK.1;have aq:=(S9.yK.2.2.sf.cutEnvs hk.zP.symm (x:=x3) (by omega)).map (KV g9 S9.yK.1 (.inl rfl) (yv _));have HR:=AA (S9.ke (ok':=EQ) g9 ax (by simpa using N9) aq ⟨(Ce hk).1,WD (Ce hk).2⟩ (M:=N+3200) (by omega));have fz:=AK S9.yK.1;obtain⟨c0,c1,c2,c3⟩:=AF S9.yK.1;clear S9 N9 aq g9 hD hW St;go_wp2_with fail;go_meet;exact HR.out
def OY(P:AR):Prop:=EQ P.zX
theorem Qx{α β γ:Type}{R:α->β->Prop}{S:α->γ->Prop}{xs:List α}{ys:List β}(h:Fb R xs ys)(f:∀x y,R x y->∃z,S x z):∃zs,Fb S xs zs:=by
 induction xs generalizing ys with
 |nil=>exact⟨[],rfl,λi x y h=>by simp at h⟩
 |cons a xs ih=>
  cases ys with
  |nil=>exact absurd h.1 (by simp)
  |cons b ys=>
   obtain⟨z,hz⟩:=f a b (h.2 0 a b rfl rfl);obtain⟨zs,h1,h2⟩:=ih (ys:=ys) ⟨by simpa using h.1,λi x y hx hy=>h.2 (i+1) x y (by simpa using hx) (by simpa using hy)⟩;refine⟨z::zs,by simp[h1],λi x y hx hy=>?_⟩;cases i with
   |zero=>simp at hx hy;subst hx hy;exact hz
   |succ i=>exact h2 i x y (by simpa using hx) (by simpa using hy)
theorem TE{lo:Nat}{w:World}{u:Value}{r:List Int}(gl j:Nat)(x:Int)(h:AG lo w u r):∃r',AG lo (w.setCell ⟨gl,j,none⟩ (.int .i64 x)) u r':=by
 have hg:=Aq w gl j (.int .i64 x)
 by_cases hu:u.ownBlock=some gl
 .have h0:=h
  obtain⟨h1,h2⟩:=h0
  rcases h2 with⟨e,e2⟩|⟨g',cap',bt,e,h3⟩
  .subst e
   simp[uQ] at hu
  .subst e
   simp[uQ] at hu;subst hu;refine⟨r.set j x,?_⟩;have S:=(wA h j (.int .i64 x)).1;unfold AG;rw[xV,List.map_set];exact S
 .exact⟨r,Au h hg (.inr hu)⟩
section
variable {ok:AR->Prop} {w0 w wr:World} {g N M b:Nat} {m i e c s l q:Value} {P:AR}
theorem Nn.lowPut{lo gl:Nat}(h:Nn lo w m i e c s (.slice (some ⟨gl,0,none⟩) n al) q P)(j:Nat)(x:Int):
 ∃P',Nn lo (w.setCell ⟨gl,j,none⟩ (.int .i64 x)) m i e c s (.slice (some ⟨gl,0,none⟩) n al) q P'/\P'.zT=P.zT/\P'.zW=P.zW/\P'.zX.Os=P.zX.Os/\P'.zX.zZ=P.zX.zZ:=by
 obtain⟨⟨⟨vs,h1,h2⟩,h3,⟨ps,h4,h5⟩,h6⟩,⟨us,h7,h8⟩,h9,ga⟩:=h;have hg:=Aq w gl j (.int .i64 x);obtain⟨bt,hc⟩:=A6 h9 gl rfl;obtain⟨m',hm⟩:=Qx h2 λu r h=>TE gl j x h
 obtain⟨s',hs⟩:=Qx h8 (S:=X5 lo (w.setCell ⟨gl,j,none⟩ (.int .i64 x))) λu r h=>by
  rcases h with h|h
  .obtain⟨r',h'⟩:=TE gl j x h
   exact⟨r',.inl h'⟩
  .exact⟨r,.inr h⟩
 obtain⟨l',hl⟩:=TE gl j x h9;exact⟨⟨⟨m',P.zX.Os,P.zX.zZ,P.zX.zY⟩,s',l',P.No,P.zT,P.zW⟩,⟨⟨⟨vs,h1.yN hg hc,hm⟩,h3.yN hg hc,⟨ps,h4.yN hg hc,h5.mono λ_ _ h=>⟨h.1.yN hg hc,h.2⟩⟩,h6.yN hg hc⟩,⟨us,h7.yN hg hc,hs⟩,hl,ga.yN hg hc⟩,rfl,rfl,rfl,rfl⟩
theorem Hv.page{gq n0 j:Nat}{x y:Bi}{u:Value}(St:Hv ok w0 g N w b m i e c s l (.slice (some ⟨gq,0,none⟩) n0 al) P wr)(cM:n0=P.No.length)(hk:P.No[n]?=some x)(hj:j<3)(hy:Cz y=(Cz x).set j u)(hs:OY P)(hM:N<=M):Tk OY w0 g M w b (wr.setCell ⟨gq,n*3+j,none⟩ u):=by obtain⟨I,g9,h9⟩:=St.yI.zq cM hk hj hy;exact St.pe (ok':=OY) g9 (by omega) I.yM I.own.sf hs hM
theorem Hv.zT(St:Hv ok w0 g N w b m i e c s l q P wr)(x:Int)(hs:OY P)(hM:N<=M):Tk OY w0 g M w b (wr.setCell ⟨b,7,none⟩ (.int .i64 x)):=by obtain⟨I,g9⟩:=St.yI.zi x;exact St.pe (ok':=OY) g9 St.lt I.yM I.own.sf hs hM
theorem Hv.lim(St:Hv ok w0 g N w b m i e c s l q P wr)(x:Int)(hs:OY P)(hM:N<=M):Tk OY w0 g M w b (wr.setCell ⟨b,8,none⟩ (.int .i64 x)):=by have g9:=Aq wr b 8 (.int .i64 x);have h8:=yu wr b 8 _ _ (.int .i64 x) St.yI.yM;exact St.pe (ok':=OY) (P':= {P with zW:=x}) g9 St.lt (by simpa using h8) (St.yI.own.sf.map (KV g9 St.yI.yM (.inr rfl) (yv _))) hs hM
theorem Hv.zX{m' i' e' c':Value}{k':AN}(St:Hv ok w0 g N w b m i e c s l q P wr)(S:OQ (w.heap.size+1) wr m' i' e' c' k')(hs:EQ k')(hM:N<=M):Tk OY w0 g M w b ((((wr.setCell ⟨b,0,none⟩ m').setCell ⟨b,1,none⟩ i').setCell ⟨b,2,none⟩ e').setCell ⟨b,3,none⟩ c'):=by have g9:=Ao wr b m' i' e' c';have O:=St.yI.own.sf;exact St.pe (ok':=OY) (P':= {P with zX:=k'}) g9 St.lt (JL St.yI.yM) (Nn.map (⟨S,O.2⟩:Nn (w.heap.size+1) wr m' i' e' c' s l q {P with zX:=k'}) (KV g9 St.yI.yM (.inr rfl) (yv _))) hs hM
theorem Hv.row{gs n0:Nat}{v':Value}{r:List Int}{w1:World}(St:Hv ok w0 g N w b m i e c (.slice (some ⟨gs,0,none⟩) n0 al) l q P wr)(hb:Below wr.heap.size wr w1)(hO:AG wr.heap.size w1 v' r)(cM:n0=P.swap.length)(hn:n<P.swap.length)(hs:OY P)(hM:N<=M):Tk OY w0 g M w b (w1.setCell ⟨gs,n,none⟩ v'):=by
 obtain⟨vs,hr⟩:=St.yI.own.swp;have cP:w.heap.size+1<=wr.heap.size:=by have:=AY St.yI.yM;have:=St.lt;omega
 have R:=hr.set (B:=wr.heap.size) (j:=n) hb hO (yv _) cP (cM.trans hr.2.1.1.symm) (by rw[hr.2.1.1];exact hn);have I:=(St.yI.below hb).zb R.2 R.1;have h1:=(yr hr.1 gs rfl).1;exact(St.below hb).pe (ok':=OY) R.2 (by omega) I.yM I.own.sf hs hM
theorem Hv.lowx{gl n0:Nat}(St:Hv ok w0 g N w b m i e c s (.slice (some ⟨gl,0,none⟩) n0 al) q P wr)(j:Nat)(x:Int)(hs:OY P)(hM:N<=M):Tk OY w0 g M w b (wr.setCell ⟨gl,j,none⟩ (.int .i64 x)):=by have O:=St.yI.own;obtain⟨P',S',e1,e2,e3,e4⟩:=O.sf.lowPut j x;obtain⟨bt,hc⟩:=A6 O.low gl rfl;have h1:=(yr O.low gl rfl).1;have g9:=Aq wr gl j (.int .i64 x);have hB:=Ap St.yI.yM g9 (Bo hc St.yI.yM);rw[<-e1,<-e2] at hB;refine St.pe (ok':=OY) g9 (by omega) hB S' ?_ hM;unfold OY EQ at hs ⊢;rw[e3,e4];exact hs
end
theorem Vm{w0 w:World}{g N:Nat}(h:Dr w0 g N w)(hN:N<=50000):
 Calls prog 19 #[.pointer (some ⟨g,0,none⟩)] w (bM OY w0 g (N+4300) w):=by
 have ad:=h.lt;have ai:w0.heap.size<=w.heap.size:=h.2.1.size;have B0:=yw w (.cells #[.slice none 0 0,.slice none 0 0,.slice none 0 0,.slice none 0 0,.slice none 0 0,.slice none 0 0,.slice none 0 0,.int .i64 0,.int .i64 0] 32);have bA:=AD w (.cells #[.slice none 0 0,.slice none 0 0,.slice none 0 0,.slice none 0 0,.slice none 0 0,.slice none 0 0,.slice none 0 0,.int .i64 0,.int .i64 0] 32);have gA:=AW bA (some g);have hA:=h.below bA;have bg:=AY B0;go_in;go_wp2_with fail;generalize w.alloc _=wa at*;refine(Sy hA (by omega)).mono ?_;rintro e w1 ⟨v,rfl,⟨m,i,ev,c,s,l,q,P,rfl,S1,hP⟩,h1,g1⟩;obtain⟨⟨⟨ma,mn,mc,rfl⟩,⟨ia,iN,ic,rfl⟩,⟨ea,en,ec,rfl⟩,⟨va,vn,vc,rfl⟩⟩,⟨sa,sn,sc,rfl⟩,⟨la,ln,lc,rfl⟩,⟨qa,qn,qc,rfl⟩⟩:=S1.zS;unfold AQ;have B1:=(g1.block w.heap.size bg (by simp;omega)).trans B0;have bK:=AD w1 (.cells #[.slice ma mn mc,.slice ia iN ic,.slice ea en ec,.slice va vn vc,.slice sa sn sc,.slice la ln lc,.slice qa qn qc,.int .i64 P.zT,.int .i64 P.zW] 32);have NK:=yw w1 (.cells #[.slice ma mn mc,.slice ia iN ic,.slice ea en ec,.slice va vn vc,.slice sa sn sc,.slice la ln lc,.slice qa qn qc,.int .i64 P.zT,.int .i64 P.zW] 32);have h2:=h1.below bK;have G2:=AO (AO gA g1) (AW bK (some g));have B2:=AC B1 bK;have S2:=S1.map (J4 bK bg);have ab:w.heap.size<w1.heap.size:=xZ bg g1.size;clear S1 B1 h1 g1 hA B0 bK gA h bA bg;go_wp2_with fail;generalize w1.alloc _=w2 at*;generalize w1.heap.size=b at*;refine(h2.pick _).mono ?_;rintro e w3 ⟨x,rfl,x0,x1,h3,g3⟩;have hp:∀b',some g=some b'->b'<w.heap.size+1:=λb' e=>by cases e;omega
 have S3:=S2.map (GI g3 (show g<w.heap.size+1 by omega) (yv _));have B3:=Fg B2 (yv _) g3 (λb' e=>by cases e;exact ad);have au:=Fg NK (Nat.le_of_lt ab) g3 (λb' e=>by cases e;exact ad);have G3:=AO G2 g3;obtain⟨c0,c1,c2,c3,c4,c5,c6,c7,c8⟩:=AE au;have hs:OY P:=Ce hP.k;clear S2 B2 NK h2 G2 g3
 by_cases hx:0<x
 .obtain⟨d0,d1,d2,d3,d4,d5,d6,d7,d8⟩:=AE B3
  have cf:=AK B3;obtain⟨BX,FX⟩:=aO (ok:=OY) (M:=N+4300) h3 G3 (S3.map (λ_ _ _ _ _ _ _ h=>BR h (wB _))) hs ad ai B3 (by omega);unfold Er at BX FX;have BH:=AA BX;have FH:=AA FX;clear BX FX B3 h3 G3 S3 au hP hs;go_wp2_with fail;exact yp (v:=.agg #[_,_,_,_,_,_,_,_,_]) (by simp[results,sQ,go_sem,AE BH.out]) rfl FH.out
 .have CC:=K5 _ _ _ _ _ _ _ P w3 S3.rd hP
  unfold AQ at CC;go_wp2_with fail;refine CC.mono ?_;rintro e w4 ⟨m4,i4,e4,hU,s4,l4,q4,rfl,O4,b4⟩;obtain⟨⟨⟨dO,dN,cI,rfl⟩,⟨eB,eC,bp,rfl⟩,⟨eN,eM,bd,rfl⟩,⟨gD,gv,gy,rfl⟩⟩,⟨gI,gF,fD,rfl⟩,⟨gX,gU,dP,rfl⟩,⟨gN,gK,dc,rfl⟩⟩:=O4.zS;unfold AQ;have h4:=h3.below b4;have fL:w.heap.size+1<=w3.heap.size:=by have:=AY au;omega
  have St:=aN (b:=b) h4 (AO G3 (AW b4 _)) (AC au b4) (O4.lower fL) hP ad ai ab ⟨_,_,_,_,_,_,_,_,_,AC B3 b4⟩;have fz:=AK (AC au b4);clear c0 c1 c2 c3 c4 c5 c6 c7 c8;obtain⟨c0,c1,c2,c3,c4,c5,c6,c7,c8⟩:=AE (AC au b4);have St:=AA St;clear S3 B3 au h3 G3 O4 b4 h4 CC;go_wp2_with fail;replace St:=St.out;unfold Er at St;generalize((((((((w4.setCell _ _).setCell _ _).setCell _ _).setCell _ _).setCell _ _).setCell _ _).setCell _ _).setCell _ _).setCell _ _=w5 at St ⊢;refine(St.pk 16).mono ?_;rintro e w6 ⟨f,rfl,f0,f1,S6⟩;clear St c0 c1 c2 c3 c4 c5 c6 c7 c8 fz;go_wp2_with fail;refine(S6.pk 7).mono ?_;rintro e w7 ⟨u,rfl,u0,u1,St⟩;clear S6;obtain⟨f,rfl⟩:=yd f0;go_upto_block 0 with fail;go_cut [] (λwx=>Tk OY w0 g (N+4200) w b wx)
  case rest=>clear St;obtain⟨m9,i9,e9,c9,s9,l9,q9,P9,h9,G9,N9,S9,av,a0,a1,a2,a3,a4,a5,a6,a7,a8,B9⟩:=hcut;obtain⟨⟨⟨gS,gQ,gR,rfl⟩,⟨gZ,g0,gY,rfl⟩,⟨hK,hH,hJ,rfl⟩,⟨gz,gu,gx,rfl⟩⟩,⟨gH,gE,gG,rfl⟩,⟨gW,gT,gV,rfl⟩,⟨gM,gJ,gL,rfl⟩⟩:=S9.zS;obtain⟨c0,c1,c2,c3,c4,c5,c6,c7,c8⟩:=AE N9;obtain⟨d0,d1,d2,d3,d4,d5,d6,d7,d8⟩:=AE B9;have cf:=AK B9;obtain⟨BX,FX⟩:=aO (ok:=OY) (M:=N+4300) h9 G9 S9 av ad ai B9 (by omega);unfold Er at BX FX;have BH:=AA BX;have FH:=AA FX;clear BX FX B9 N9 h9 G9 S9;go_wp2_with fail;exact yp (v:=.agg #[_,_,_,_,_,_,_,_,_]) (by simp[results,sQ,go_sem,AE BH.out]) rfl FH.out
  case first=>
   have hf:f<16:=by omega
   have f4:(f:Int)<16:=by omega
   rcases(show u=0∨u=1∨u=2∨u=3∨u=4∨u=5∨u=6 by omega) with rfl|rfl|rfl|rfl|rfl|rfl|rfl
   .skip
    obtain⟨gq,cW,e1,_,_,fH,_⟩:=St.yI.page (n:=f) (by rw[hP.zQ];exact hf);rw[hP.zQ] at e1;cases e1;obtain⟨c0,c1,c2,c3,c4,c5,c6,c7,c8⟩:=AE St.yI.yM;have ac:=AY St.yI.yM;have ax:=St.lt;go_wp2_with fail;refine Et 7 69 1 1 [4] [.p b 6,.s gq 16 dc,.i ((f:Int)),.p g 0,.z,.p gq (f*3),.p gq (f*3)] (λix vv ww=>match ix with
     |4=>Pk 4 vv
     |_=>True) St.dr ?_ ?_
    .intro i hi o ho a wx Hb Hd ll HL hG hW K HQ HK
     have am:=gc hW ac (by omega) c6
     match i,hi with
     |0,_|2,_|3,_|6,_=>exact sP ho HK Hb Hd
     |1,_=>exact sL ho HK Hb Hd (hl:=Zd ‹_›)
     |4,_=>exact dK (m:=4) ho HQ Hb Hd HL hG (by omega)
     |5,_=>exact sI ho HK Hb Hd (hr:=by clear Hd Hb HK;go_simp)
    .intro vs wx hR hD hW
     have q4:Pk 4 (vs 4):=BZ hR 4;obtain⟨x4,q4,p0,p1⟩:=q4;have q6:(vs 6)=.pointer (some ⟨gq,f*3,none⟩):=BZ hR 6;clear hR;simp only[Al,AV,yE,yB,yA,yy,q4,q6];simp;clear q4 q6;have S9:=St.draw hD hW;obtain⟨fZ,fq,d0,d1,d2⟩:=S9.yI.pg (n:=f) (by rw[hP.zQ];exact hf);have HR:=AA (S9.page (x:=AB P.No f) (y:= {AB P.No f with w:=x4}) (n:=f) (j:=0) hP.zQ.symm (by unfold AB;exact A1 (by rw[hP.zQ];exact hf)) (by decide) rfl hs (M:=N+4200) (by omega));clear S9 hD hW St;go_wp2_with fail;go_meet;exact HR.out
   .skip
    obtain⟨gq,cW,e1,_,_,fH,_⟩:=St.yI.page (n:=f) (by rw[hP.zQ];exact hf);rw[hP.zQ] at e1;cases e1;obtain⟨c0,c1,c2,c3,c4,c5,c6,c7,c8⟩:=AE St.yI.yM;have ac:=AY St.yI.yM;have ax:=St.lt;go_wp2_with fail;refine Et 7 69 1 1 [4] [.p b 6,.s gq 16 dc,.i ((f:Int)),.p g 0,.z,.p gq (f*3),.p gq (f*3+1)] (λix vv ww=>match ix with
     |4=>Pk 16 vv
     |_=>True) St.dr ?_ ?_
    .intro i hi o ho a wx Hb Hd ll HL hG hW K HQ HK
     have am:=gc hW ac (by omega) c6
     match i,hi with
     |0,_|2,_|3,_|6,_=>exact sP ho HK Hb Hd
     |1,_=>exact sL ho HK Hb Hd (hl:=Zd ‹_›)
     |4,_=>exact dK (m:=16) ho HQ Hb Hd HL hG (by omega)
     |5,_=>exact sI ho HK Hb Hd (hr:=by clear Hd Hb HK;go_simp)
    .intro vs wx hR hD hW
     have q4:Pk 16 (vs 4):=BZ hR 4;obtain⟨x4,q4,p0,p1⟩:=q4;have q6:(vs 6)=.pointer (some ⟨gq,f*3+1,none⟩):=BZ hR 6;clear hR;simp only[Al,AV,yE,yB,yA,yy,q4,q6];simp;clear q4 q6;have S9:=St.draw hD hW;obtain⟨fZ,fq,d0,d1,d2⟩:=S9.yI.pg (n:=f) (by rw[hP.zQ];exact hf);have HR:=AA (S9.page (x:=AB P.No f) (y:= {AB P.No f with a:=x4}) (n:=f) (j:=1) hP.zQ.symm (by unfold AB;exact A1 (by rw[hP.zQ];exact hf)) (by decide) rfl hs (M:=N+4200) (by omega));clear S9 hD hW St;go_wp2_with fail;go_meet;exact HR.out
   .obtain⟨vs,hr⟩:=St.yI.own.swp
    have eG:vs.length=16:=by rw[hr.2.1.1,hP.zF]
    obtain⟨gs,gj,e1,hX,hV,gO,fE,f3⟩:=hr.1.zO (by omega);rw[eG] at e1;cases e1;have b4:=AD w7 (.cells #[.int .i64 1,.int .i64 2,.int .i64 3,.int .i64 4] 3);have hO:AG w7.heap.size (w7.alloc (.cells #[.int .i64 1,.int .i64 2,.int .i64 3,.int .i64 4] 3)) (.slice (some ⟨w7.heap.size,0,none⟩) 4 4) [1,2,3,4]:=Ph w7 3 1 4 [.int .i64 1,.int .i64 2,.int .i64 3,.int .i64 4] rfl (by decide);have HR:=AA (St.row (n:=f) b4 hO hP.zF.symm (by rw[hP.zF];exact hf) hs (M:=N+4200) (by omega));have g1:(w7.alloc (.cells #[.int .i64 1,.int .i64 2,.int .i64 3,.int .i64 4] 3)).ownsRow (w.heap.size+1) 29 1 (.slice (some ⟨gs,0,none⟩) 16 fD) 16 vs:=by have:=(hr.below b4).1;unfold AP at this;rwa [Ga,eG] at this
    have C1:=xC g1 f (by omega);rw[yx (by omega)] at C1;have F1:=xP g1 f;obtain⟨c0,c1,c2,c3,c4,c5,c6,c7,c8⟩:=AE St.yI.yM;have fY:gs<w7.heap.size:=fE;clear g1 hO b4 hr f3 St;go_wp2_with fail;go_meet;rw[<-World.setCell_alloc_past _ gs f _ fY];exact HR.out
   .skip
    go_wp2_with fail;refine(St.pk 20).mono ?_;rintro e w8 ⟨z,rfl,z0,z1,S8⟩;obtain⟨c0,c1,c2,c3,c4,c5,c6,c7,c8⟩:=AE S8.yI.yM;have fq:=AK S8.yI.yM;have HR:=AA (λx=>S8.zT x hs (M:=N+4200) (by omega));clear S8 St;go_wp2_with fail;go_meet;exact HR.out _
   .skip
    go_wp2_with fail;refine(St.pk 9).mono ?_;rintro e w8 ⟨z,rfl,z0,z1,S8⟩;obtain⟨c0,c1,c2,c3,c4,c5,c6,c7,c8⟩:=AE S8.yI.yM;have fq:=AK S8.yI.yM;have HR:=AA (λx=>S8.lim x hs (M:=N+4200) (by omega));clear S8 St;go_wp2_with fail;go_meet;exact HR.out _
   .obtain⟨gl,gh,e1,gP,_⟩:=JQ St.yI.own.low (j:=0) (by rw[hP.zv];decide)
    rw[hP.zv] at e1;cases e1;obtain⟨c0,c1,c2,c3,c4,c5,c6,c7,c8⟩:=AE St.yI.yM;have ac:=AY St.yI.yM;have ax:=St.lt;go_wp2_with fail;refine Et 6 69 1 2 [3,5] [.p b 5,.s gl 4 dP,.p g 0,.z,.p g 0,.z] (λix vv ww=>match ix with
     |3=>Pk 4 vv
     |5=>Pk 12 vv
     |_=>True) St.dr ?_ ?_
    .intro i hi o ho a wx Hb Hd ll HL hG hW K HQ HK
     have am:=gc hW ac (by omega) c5
     match i,hi with
     |0,_|2,_|4,_=>exact sP ho HK Hb Hd
     |1,_=>exact sL ho HK Hb Hd (hl:=Jx ‹_›)
     |3,_=>exact dK (m:=4) ho HQ Hb Hd HL hG (by omega)
     |5,_=>exact dK (m:=12) ho HQ Hb Hd HL hG (by omega)
    .intro vs wx hR hD hW
     have q1:(vs 1)=.slice (some ⟨gl,0,none⟩) 4 dP:=BZ hR 1;have q3:Pk 4 (vs 3):=BZ hR 3;obtain⟨x3,q3,p0,p1⟩:=q3;have q5:Pk 12 (vs 5):=BZ hR 5;obtain⟨x5,q5,q0,q1⟩:=q5;clear hR;simp only[Al,AV,yE,yB,yA,yy,q1,q3,q5];simp;clear q1 q3 q5;have S9:=St.draw hD hW;obtain⟨x3,rfl⟩:=yd p0;obtain⟨hF,eO,e1,fJ,D9⟩:=JQ S9.yI.own.low (j:=x3) (by rw[hP.zv];omega);rw[hP.zv] at e1;cases e1;have ow:=S9.yI.own.low;unfold AG at ow;rw[hP.zv] at ow;have fl:=xP ow x3;clear ow;have HR:=AA (S9.lowx x3 x5 hs (M:=N+4200) (by omega));clear S9 hD hW St;go_wp2_with fail;go_meet;exact HR.out
   .go_wp2_with fail
    refine(Vl St.dr (by omega)).mono ?_;rintro e w8 ⟨v,rfl,⟨m8,i8,e8,hL,k',rfl,S8,fV⟩,h8,g8⟩;obtain⟨⟨ka,kn,kc,rfl⟩,⟨ja,jn,jc,rfl⟩,⟨fa,fn,fc,rfl⟩,⟨ra,rn,rc,rfl⟩⟩:=S8.zS;have S9:=St.draw h8 g8;have fz:=AK S9.yI.yM;obtain⟨c0,c1,c2,c3,c4,c5,c6,c7,c8⟩:=AE S9.yI.yM;have bf:w.heap.size+1<=w7.heap.size:=by have:=AY St.yI.yM;have:=St.lt;omega
    have HR:=AA (S9.zX (S8.map (λ_ _ _ _ _ _ _ x=>BR x bf)) fV (M:=N+4200) (by omega));clear S9 S8 h8 g8 St;go_wp2_with fail;go_meet;exact HR.out
structure Dq(w wa W0:World)(g N rb:Nat)(o0 o1:Obj)(p s:Bool)(ww:World):Prop where
 dr:p=false->Dr wa g N ww
 sz:W0.heap.size<=ww.heap.size
 kp:∀k,k<W0.heap.size->k≠g->k≠rb->ww.heap[k]?=W0.heap[k]?
 bw:Below w.heap.size w ww
 rb:ww.heap[rb]?=some (if s then o1 else o0)
section
variable {w wa W0 ww w':World} {g N rb:Nat} {o0 o1:Obj} {p s:Bool}
theorem Dq.below(h:Dq w wa W0 g N rb o0 o1 p s ww)(hb:Below ww.heap.size ww w'):Dq w wa W0 g N rb o0 o1 p s w':=
 ⟨λe=>(h.dr e).below hb,yD h.sz hb.size,λk hk h1 h2=>(hb.block k (xZ hk h.sz)).trans (h.kp k hk h1 h2),h.bw.trans (hb.mono h.bw.size),AC h.rb hb⟩
theorem Dq.cell(h:Dq w wa W0 g N rb o0 o1 p s ww){k j:Nat}{v:Value}(hk:k<W0.heap.size)(h1:k≠g)(h2:k≠rb)(hv:W0.cell? ⟨k,j,none⟩=some v):ww.cell? ⟨k,j,none⟩=some v:=by have:=h.kp k hk h1 h2;unfold World.cell? at hv ⊢;rw[this];exact hv
end
def R4(lo:Nat)(v:Value)(w:World):Prop:=∃q o,∃x:Int,v=.pointer (some ⟨q,o,none⟩)/\lo<=q/\w.cell? ⟨q,o,none⟩=some (.int .i64 x)
theorem R4.past{lo q:Nat}{v:Value}{w w':World}(h:R4 lo v w)(hg:w.grownBy w' (some q))(hq:q<lo):R4 lo v w':=by obtain⟨b,o,x,h1,h2,h3⟩:=h;exact⟨b,o,x,h1,h2,gc hg (World.block_lt_of_cell? _ _ h3) (by simp;omega) h3⟩
def R1(lo:Nat)(v:Value)(w:World):Prop:=∃x y:Int,AG lo w v [x,y]
theorem R1.past{lo q:Nat}{v:Value}{w w':World}(h:R1 lo v w)(hg:w.grownBy w' (some q))(hq:q<lo):R1 lo v w':=by
 obtain⟨x,y,h⟩:=h;exact⟨x,y,Bp h hg (λb e=>by cases e;exact hq)⟩
theorem ap{w wa W0 ww:World}{g N rb lo:Nat}{o0 o1:Obj}{p s:Bool}{cu:Array Value}(h:Dq w wa W0 g N rb o0 o1 p s ww)(hB:W0.heap[rb]?=some (.cells cu 32 (0,0)))(hg:g<lo):∀t sz n v xs,t≠28->t≠32->W0.ownsRow lo t sz v n xs->ww.ownsRow lo t sz v n xs:=by
 intro t sz n v xs _ h2 ⟨h3,h4⟩;refine⟨h3,?_⟩
 rcases h4 with h4|⟨q,al,bt,rfl,hq,hh,hr⟩
 .exact .inl h4
 .refine .inr ⟨q,al,bt,rfl,hq,(h.kp q (AY hh) (by omega) ?_).trans hh,hr⟩
  rintro rfl;rw[hB] at hh;simp at hh;exact h2 hh.2.symm
def ZL(w:World)(r:Ending)(w':World):Prop:=∃m i e c s l q P n,r=.returned (.tuple #[AQ m i e c s l q P.zT P.zW,.int .i64 n])/\Lr w' m i e c s l q P/\OY P/\Below w.heap.size w w'
theorem L5(v:Value)(bs:List Int)(w:World)(h:Fm w v bs):
 Calls prog 8 #[v] w (ZL w):=by
 have B0:=yw w (.cells #[.slice none 0 0,.slice none 0 0,.slice none 0 0,.slice none 0 0,.slice none 0 0,.slice none 0 0,.slice none 0 0,.int .i64 0,.int .i64 0] 32);have bA:=AD w (.cells #[.slice none 0 0,.slice none 0 0,.slice none 0 0,.slice none 0 0,.slice none 0 0,.slice none 0 0,.slice none 0 0,.int .i64 0,.int .i64 0] 32);have hA:Fm (w.alloc _) v bs:=⟨h.1.below bA,h.2⟩;have bg:=AY B0;go_in;go_wp2_with fail;generalize w.alloc _=wa at*;refine(Vk _ bs _ hA).mono ?_;rintro e w1 ⟨R,rfl,hR,bh⟩;obtain⟨g,rfl,hD⟩:=Dr.of hR bh;have eL:wa.heap.size<=g:=hD.2.2.1;have cR:=hD.lt;go_wp2_with fail;refine(Vm hD (by decide)).mono ?_;rintro e w2 ⟨v2,rfl,⟨m,i,e2,v,s,l,q,P,rfl,S2,hP⟩,h2,g2⟩;obtain⟨⟨⟨ma,mn,mc,rfl⟩,⟨ia,iN,ic,rfl⟩,⟨ea,en,ec,rfl⟩,⟨va,vn,vc,rfl⟩⟩,⟨sa,sn,sc,rfl⟩,⟨la,ln,lc,rfl⟩,⟨qa,qn,qc,rfl⟩⟩:=S2.zS;unfold AQ;have Z2:=(g2.block w.heap.size (xZ bg bh.size) (by simp;omega)).trans (AC B0 bh);have db:=AM (bA.trans (bh.mono bA.size)) g2 (yD bA.size eL) (yD bA.size bh.size);have bK:=AD w2 (.cells #[.slice ma mn mc,.slice ia iN ic,.slice ea en ec,.slice va vn vc,.slice sa sn sc,.slice la ln lc,.slice qa qn qc,.int .i64 P.zT,.int .i64 P.zW] 32);have NK:=yw w2 (.cells #[.slice ma mn mc,.slice ia iN ic,.slice ea en ec,.slice va vn vc,.slice sa sn sc,.slice la ln lc,.slice qa qn qc,.int .i64 P.zT,.int .i64 P.zW] 32);have h3:=h2.below bK;have S3:=S2.map (J4 bK (yv _));have Z3:=AC Z2 bK;have da:=db.trans (bK.mono db.size);have eK:g<w2.heap.size:=xZ cR g2.size;clear S2 h2 Z2 db bK hR hD hA B0 h bA g2 bh;go_wp2_with fail;generalize w2.alloc _=w3 at*;generalize w2.heap.size=b at*;refine(h3.pick 20).mono ?_;rintro e w4 ⟨x,rfl,x0,x1,h4,g4⟩;have S4:=S3.map (GI g4 cR (yv _));have Z4:=(g4.block _ (AY Z3) (by simp;omega)).trans Z3;have co:=AM da g4 (by omega) da.size;have N4:=(g4.block _ (AY NK) (by simp;omega)).trans NK;have fS:=AY Z4;clear S3 Z3 da NK h3 g4;obtain⟨c0,c1,c2,c3,c4,c5,c6,c7,c8⟩:=AE N4;have ab:=AY N4
 by_cases hx:x=0
 .subst hx
  have eI:Dq w wa w4 g (0+4300+1) w.heap.size (.cells #[.slice none 0 0,.slice none 0 0,.slice none 0 0,.slice none 0 0,.slice none 0 0,.slice none 0 0,.slice none 0 0,.int .i64 0,.int .i64 0] 32 (0,0)) (.cells #[.slice ma mn mc,.slice ia iN ic,.slice ea en ec,.slice va vn vc,.slice sa sn sc,.slice la ln lc,.slice qa qn qc,.int .i64 P.zT,.int .i64 P.zW] 32 (0,0)) false false w4:=⟨λ_=>h4,yv _,λ_ _ _ _=>rfl,co,Z4⟩;go_wp2_with fail;refine Dz 8 22 (λix=>ix==3||ix==6) [.a #[.slice ma mn mc,.slice ia iN ic,.slice ea en ec,.slice va vn vc,.slice sa sn sc,.slice la ln lc,.slice qa qn qc,.int .i64 P.zT,.int .i64 P.zW],.z,.p g 0,.z,.z,.z,.z,.z] (λll ix vv ww=>match ix with
   |1=>R1 w4.heap.size vv ww
   |3=>Pk 2 vv
   |4=>R4 w4.heap.size vv ww
   |5|7=>∃x:Int,vv=.int .i64 x
   |_=>True) (λll ww=>Dq w wa w4 g (0+4300+1) w.heap.size (.cells #[.slice none 0 0,.slice none 0 0,.slice none 0 0,.slice none 0 0,.slice none 0 0,.slice none 0 0,.slice none 0 0,.int .i64 0,.int .i64 0] 32 (0,0)) (.cells #[.slice ma mn mc,.slice ia iN ic,.slice ea en ec,.slice va vn vc,.slice sa sn sc,.slice la ln lc,.slice qa qn qc,.int .i64 P.zT,.int .i64 P.zW] 32 (0,0)) (ll 3) (ll 6) ww) ?_ ?_ ?_ ?_ ?_ ?_
  .exact eI.below (A9 (yF _ _) 1)
  .intro j hj ll i vv wz bu hi hS f9 hE bW hz
   match j,hj with
   |1,_=>exact(R1.past hz (AW bW (some 0)) (by omega))
   |3,_=>exact hz
   |4,_=>exact(R4.past hz (AW bW (some 0)) (by omega))
   |5,_|7,_|0,_|2,_|6,_=>exact hz
  .intro ll i wz bu hi hS f9 bW hg
   show Dq _ _ _ _ _ _ _ _ (F8 ll i 3) (F8 ll i 6) _
   rw[F9 (by rintro rfl;cases hS),F9 (by rintro rfl;cases hS)];exact hg.below bW
  .intro i hi hS o ho a wx Hb ll Hd HL hG K HK
   match i,hi,hS with
   |0,_,_=>have u6:=Ba HL 6;have am:=(show wx.cell? ⟨b,0,none⟩=some (.slice ma mn mc) from hG.cell ab (by omega) (by omega) c0);have bi:=(show wx.cell? ⟨b,1,none⟩=some (.slice ia iN ic) from hG.cell ab (by omega) (by omega) c1);have bZ:=(show wx.cell? ⟨b,2,none⟩=some (.slice ea en ec) from hG.cell ab (by omega) (by omega) c2);have bX:=(show wx.cell? ⟨b,3,none⟩=some (.slice va vn vc) from hG.cell ab (by omega) (by omega) c3);have cv:=(show wx.cell? ⟨b,4,none⟩=some (.slice sa sn sc) from hG.cell ab (by omega) (by omega) c4);have ct:=(show wx.cell? ⟨b,5,none⟩=some (.slice la ln lc) from hG.cell ab (by omega) (by omega) c5);have cr:=(show wx.cell? ⟨b,6,none⟩=some (.slice qa qn qc) from hG.cell ab (by omega) (by omega) c6);have cq:=(show wx.cell? ⟨b,7,none⟩=some (.int .i64 P.zT) from hG.cell ab (by omega) (by omega) c7);have cp:=(show wx.cell? ⟨b,8,none⟩=some (.int .i64 P.zW) from hG.cell ab (by omega) (by omega) c8);exact NU ho HK Hb Hd HL (hl:=Vn ‹_› ‹_› ‹_› ‹_› ‹_› ‹_› ‹_› ‹_› ‹_›)
   |2,_,_=>exact WR ho HK Hb Hd HL
   |3,_,hs|6,_,hs=>cases hs
   |1,_,_=>obtain rfl:=yH ho;clear Hd Hb;refine yG ?_;go_simp;exact HK.out _ _ ⟨_,_,BR (Ph wx 3 1 2 [.int .i64 _,.int .i64 _] rfl (by decide)) hG.sz⟩ (AD _ _)
   |4,_,_=>obtain rfl:=yH ho;have d1:R1 w4.heap.size (a.tmps[14]?.getD undef) wx:=DT Hd HL 1;obtain⟨y1,y2,d1⟩:=d1;have d3:Pk 2 (a.tmps[16]?.getD undef):=DT Hd HL 3;obtain⟨x3,d3,p0,p1⟩:=d3;have u3:ll 3=true:=HL.out.2.1 3 (by kernel_rfl);clear Hd Hb;obtain⟨a2,rfl⟩:=yd p0;obtain⟨qb,qc,e1,g7,D⟩:=JQ d1 (j:=a2) (by simp;omega);have hq:=(yr d1 qb (by rw[e1];rfl)).1;replace d1:a.tmps[14]?.getD undef=.slice (some ⟨qb,0,none⟩) 2 qc:=e1;clear e1;refine yG ?_;go_simp;exact HK.out _ _ ⟨qb,_,_,rfl,hq,by simpa using D⟩ (yF _ _)
   |5,_,_=>obtain rfl:=yH ho;have d4:R4 w4.heap.size (a.tmps[17]?.getD undef) wx:=DT Hd HL 4;obtain⟨qb,qo,y4,d4,hq,D4⟩:=d4;clear Hd Hb;refine yG ?_;go_simp;exact HK.out _ _ ⟨_,rfl⟩ (yF _ _)
   |7,_,_=>
    obtain rfl:=yH ho;have d5:∃x:Int,(a.tmps[18]?.getD undef)=.int .i64 x:=DT Hd HL 5
    obtain⟨x5,d5⟩:=d5;have u3:ll 3=true:=HL.out.2.1 3 (by kernel_rfl);have u6:ll 6=true:=HL.out.2.1 6 (by kernel_rfl);clear Hd Hb;refine yG ?_;go_simp;exact HK.out _ _ ⟨_,rfl⟩ (yF _ _)
  .intro i hi hS o ho a wx Hb ll Hd HL hG K HK
   match i,hi,hS with
   |0,_,hs|1,_,hs|2,_,hs|4,_,hs|5,_,hs|7,_,hs=>cases hs
   |3,_,_=>
    obtain rfl:=yH ho;have d2:(a.tmps[15]?.getD undef)=.pointer (some ⟨g,0,none⟩):=DT Hd HL 2;have u6:=Ba HL 6;clear Hd Hb;refine yG ?_;go_simp;refine((hG.dr HL.out.1).pick 2).mono ?_;rintro e w_ ⟨x,rfl,x0,x1,h3,g3⟩;exact HK.out _ _ ⟨x,rfl,x0,x1 (by decide)⟩ ⟨λh=>absurd h (by simp[F8]),yD hG.sz g3.size,λk hk h1 h2=>(g3.block k (xZ hk hG.sz) (by simp;omega)).trans (hG.kp k hk h1 h2),AM hG.bw g3 (by omega) hG.bw.size,(g3.block _ (AY hG.rb) (by simp;omega)).trans (by rw[F9 (by decide)];exact hG.rb)⟩ (λj fX bz fW hu=>match j,bz with
     |0,_|2,_|3,_|5,_|6,_|7,_=>hu
     |1,_=>R1.past hu g3 (by omega)
     |4,_=>R4.past hu g3 (by omega))
   |6,_,_=>
    obtain rfl:=yH ho;have e2:a.tmps[2]?.getD undef=.pointer (some ⟨w.heap.size,0,none⟩):=eg (OV Hb 2);have d0:(a.tmps[13]?.getD undef)=.agg #[.slice ma mn mc,.slice ia iN ic,.slice ea en ec,.slice va vn vc,.slice sa sn sc,.slice la ln lc,.slice qa qn qc,.int .i64 P.zT,.int .i64 P.zW]:=DT Hd HL 0;have u3:ll 3=true:=HL.out.2.1 3 (by kernel_rfl);clear Hd Hb;have l3:=HL.out.2.1 3 (by kernel_rfl);have hr:=hG.rb;rw[HL.out.1] at hr;obtain⟨z0,z1,z2,z3,z4,z5,z6,z7,z8⟩:=AE hr;have fq:=AK hr;have Hr:=AA hr;have g3:=AA (Ex (w:=wx) (g:=w.heap.size) (b0:=.slice ma mn mc) (b1:=.slice ia iN ic) (b2:=.slice ea en ec) (b3:=.slice va vn vc) (b4:=.slice sa sn sc) (b5:=.slice la ln lc) (b6:=.slice qa qn qc) (b7:=.int .i64 P.zT) (b8:=.int .i64 P.zW));clear hr;refine yG ?_;go_simp;exact HK.out undef _ trivial ⟨λh=>absurd h (by rw[F9 (by decide),l3];decide),yD hG.sz g3.out.size,λk hk h1 h2=>(g3.out.block k (xZ hk hG.sz) (by simp;omega)).trans (hG.kp k hk h1 h2),AM hG.bw g3.out (by omega) hG.bw.size,by rw[Ge];exact GO Hr.out⟩ (λj fX bz fW hu=>match j,bz with
     |0,_|2,_|3,_|5,_|6,_|7,_=>hu
     |1,_=>R1.past hu g3.out (by omega)
     |4,_=>R4.past hu g3.out (by omega))
  .intro vs wx ll cd hR hG
   have q7:∃x:Int,(vs 7)=.int .i64 x:=BZ hR 7
   obtain⟨x7,q7⟩:=q7;clear hR;simp only[Dc,Bq,yE,yB,yA,yy,q7];simp
   try generalize vs 0=z0
   try generalize vs 1=z1
   try generalize vs 2=z2
   try generalize vs 3=z3
   try generalize vs 4=z4
   try generalize vs 5=z5
   try generalize vs 6=z6
   clear q7;have hr:=hG.rb;rw[show ll 6=true from cd 6 (by decide)] at hr;have S5:=AA (Nn.map (w':=wx) S4 (ap hG Z4 (by omega)));have HB:=AA hG.bw;have Hr:=AA hr;clear hr hG S4 Z4 co N4 c0 c1 c2 c3 c4 c5 c6 c7 c8 eI h4 cd;go_wp2_with fail;exact yp (v:=.tuple #[.agg #[_,_,_,_,_,_,_,_,_],.int .i64 x7]) (by simp[results,Tryz.results8,go_sem,AE Hr.out]) rfl ⟨_,_,_,_,_,_,_,P,x7,rfl,S5.out.rd,hP,HB.out⟩
 .have t0:(x==0)=false:=by simp[hx]
  clear hx;go_wp2_with fail;refine Et 3 22 1 1 [2] [.a #[.slice ma mn mc,.slice ia iN ic,.slice ea en ec,.slice va vn vc,.slice sa sn sc,.slice la ln lc,.slice qa qn qc,.int .i64 P.zT,.int .i64 P.zW],.p g 0,.z] (λix vv ww=>match ix with
   |2=>Pk 16 vv
   |_=>True) h4 ?_ ?_
  .intro i hi o ho a wx Hb Hd ll HL hG hW K HQ HK
   have am:=gc hW ab (by omega) c0;have bi:=gc hW ab (by omega) c1;have bZ:=gc hW ab (by omega) c2;have bX:=gc hW ab (by omega) c3;have cv:=gc hW ab (by omega) c4;have ct:=gc hW ab (by omega) c5;have cr:=gc hW ab (by omega) c6;have cq:=gc hW ab (by omega) c7;have cp:=gc hW ab (by omega) c8
   match i,hi with
   |0,_=>exact sL ho HK Hb Hd (hl:=Vn ‹_› ‹_› ‹_› ‹_› ‹_› ‹_› ‹_› ‹_› ‹_›)
   |1,_=>exact sP ho HK Hb Hd
   |2,_=>exact dK (m:=16) ho HQ Hb Hd HL hG (by omega)
  .intro vs wx hR hD hW
   have q0:(vs 0)=.agg #[.slice ma mn mc,.slice ia iN ic,.slice ea en ec,.slice va vn vc,.slice sa sn sc,.slice la ln lc,.slice qa qn qc,.int .i64 P.zT,.int .i64 P.zW]:=BZ hR 0;have q2:Pk 16 (vs 2):=BZ hR 2;obtain⟨x2,q2,p0,p1⟩:=q2;clear hR;simp only[Al,AV,yE,yB,yA,yy,q0,q2];simp;clear q0 q2;have Z5:=(hW.block _ fS (by simp;omega)).trans Z4;have S5:=S4.map (GI hW cR (yv _));have g9:=Ex (w:=wx) (g:=w.heap.size) (b0:=.slice ma mn mc) (b1:=.slice ia iN ic) (b2:=.slice ea en ec) (b3:=.slice va vn vc) (b4:=.slice sa sn sc) (b5:=.slice la ln lc) (b6:=.slice qa qn qc) (b7:=.int .i64 P.zT) (b8:=.int .i64 P.zW);have S6:=AA (S5.map (KV g9 Z5 (.inr rfl) (yv _)));have cZ:=AM co hW (by omega) co.size;have fA:=AA (AM cZ g9 (by omega) cZ.size);have Z6:=AA (GO (b0:=.slice ma mn mc) (b1:=.slice ia iN ic) (b2:=.slice ea en ec) (b3:=.slice va vn vc) (b4:=.slice sa sn sc) (b5:=.slice la ln lc) (b6:=.slice qa qn qc) (b7:=.int .i64 P.zT) (b8:=.int .i64 P.zW) Z5);unfold Er at S6 fA Z6;obtain⟨d0,d1,d2,d3,d4,d5,d6,d7,d8⟩:=AE Z5;have fz:=AK Z5;clear S4 S5 co cZ Z4 Z5 g9 hD hW N4 c0 c1 c2 c3 c4 c5 c6 c7 c8;go_wp2_with fail;exact yp (v:=.tuple #[.agg #[_,_,_,_,_,_,_,_,_],.int .i64 x2]) (by simp[results,Tryz.results8,go_sem,AE Z6.out]) rfl ⟨_,_,_,_,_,_,_,P,x2,rfl,S6.out.rd,hP,fA.out⟩
def allU(xs:List Bi)(k:Nat):Bool:=(List.range k).all λi=>!decide ((AB xs i).w=1)||(AB xs i).u
theorem allU_next{xs:List Bi}{k:Nat}:allU xs (k+1)=(allU xs k&&(!decide ((AB xs k).w=1)||(AB xs k).u)):=by unfold allU;rw[List.range_succ,List.all_append];simp
theorem fnTouchUsed.walkR(v:Value)(bs:List Int)(w:World)(h:Fm w v bs):
 Calls prog 4 #[v] w λe w'=>e=.returned (.bool true)/\Below w.heap.size w w':=by
 obtain⟨ao,c,hv,hc,hcm,hA⟩:=h.open;subst hv;unfold maxLen at hcm
 by_cases hl:1048576<bs.length
 .have t0:(1048576:Int)<bs.length:=by omega
  go_in;go_wp2_with fail;go_ret;exact⟨rfl,Below.refl _ _⟩
 have t0:¬(1048576:Int)<bs.length:=by omega
 go_in;go_wp2_with fail;refine(L5 _ bs _ h).mono ?_;rintro e w1 ⟨m1,i1,e1,c1,s1,l1,q1,P,n,rfl,R1,hs,b1⟩;clear hA h;obtain⟨⟨⟨zv,ym,yH,rfl⟩,⟨zB,ys,zf,rfl⟩,⟨zE,yv,zi,rfl⟩,⟨zH,yy,zl,rfl⟩⟩,⟨zo,yg,yB,rfl⟩,⟨zy,yp,zc,rfl⟩,⟨zr,yj,yE,rfl⟩⟩:=R1.shp;unfold AQ;have N1:=heap_alloc_new w1 (.cells #[.slice zv ym yH,.slice zB ys zf,.slice zE yv zi,.slice zH yy zl,.slice zo yg yB,.slice zy yp zc,.slice zr yj yE,.int .i64 P.zT,.int .i64 P.zW] 32);have bA:=AD w1 (.cells #[.slice zv ym yH,.slice zB ys zf,.slice zE yv zi,.slice zH yy zl,.slice zo yg yB,.slice zy yp zc,.slice zr yj yE,.int .i64 P.zT,.int .i64 P.zW] 32);have R2:=R1.below bA;obtain⟨T,hT⟩:∃T,T=JT P n:=⟨_,rfl⟩
 have CI:=ZB _ _ _ _ _ _ _ P n _ R2 hs;rw[<-hT] at CI;unfold ah at CI;have HT:=AA hT;clear hT;have hb1:=b1.trans (bA.mono b1.size);unfold AQ at CI;obtain⟨x0,x1,x2,x3,x4,x5,x6,x7,x8⟩:=AE N1;go_wp2_with fail;generalize w1.alloc _=W1 at*;generalize w1.heap.size=gp at*;refine CI.mono ?_;rintro e w2 ⟨m2,i2,e2,c2,s2,l2,q2,rfl,RI,b2⟩;clear CI bA b1 R1;have RS:=R2.below b2;obtain⟨⟨⟨zu,yl,yG,rfl⟩,⟨zA,yr,ze,rfl⟩,⟨zD,yu,zh,rfl⟩,⟨zG,yx,zk,rfl⟩⟩,⟨zn,yf,yA,rfl⟩,⟨zx,yo,zb,rfl⟩,⟨zq,yi,yD,rfl⟩⟩:=RI.shp;have N2:=heap_alloc_new w2 (.cells #[.slice zu yl yG,.slice zA yr ze,.slice zD yu zh,.slice zG yx zk,.slice zn yf yA,.slice zx yo zb,.slice zq yi yD,.int .i64 T.1.zT,.int .i64 T.1.zW] 32);have bB:=AD w2 (.cells #[.slice zu yl yG,.slice zA yr ze,.slice zD yu zh,.slice zG yx zk,.slice zn yf yA,.slice zx yo zb,.slice zq yi yD,.int .i64 T.1.zT,.int .i64 T.1.zW] 32);have b12:=b2.trans (bB.mono b2.size);have M1:=AC N1 b12;have CS:=aS _ _ _ _ _ _ _ P n _ (RS.below bB) hs;unfold ah AQ at CS;rw[<-HT.out] at CS;have RI2:=RI.below bB;clear x0 x1 x2 x3 x4 x5 x6 x7 x8;obtain⟨x0,x1,x2,x3,x4,x5,x6,x7,x8⟩:=AE M1;go_wp2_with fail;generalize w2.alloc _=W2 at*;generalize w2.heap.size=gq at*;refine CS.mono ?_;rintro e w3 ⟨m3,i3,e3,c3,s3,l3,q3,rfl,RW,b3⟩;clear CS bB b2 RS RI;obtain⟨⟨⟨zs,yk,yF,rfl⟩,⟨zz,yq,zd,rfl⟩,⟨zC,yt,zg,rfl⟩,⟨zF,yw,zj,rfl⟩⟩,⟨zm,ye,yz,rfl⟩,⟨zw,yn,za,rfl⟩,⟨zp,yh,yC,rfl⟩⟩:=RW.shp;have N3:=heap_alloc_new w3 (.cells #[.slice zs yk yF,.slice zz yq zd,.slice zC yt zg,.slice zF yw zj,.slice zm ye yz,.slice zw yn za,.slice zp yh yC,.int .i64 T.1.zT,.int .i64 T.1.zW] 32);have bC:=AD w3 (.cells #[.slice zs yk yF,.slice zz yq zd,.slice zC yt zg,.slice zF yw zj,.slice zm ye yz,.slice zw yn za,.slice zp yh yC,.int .i64 T.1.zT,.int .i64 T.1.zW] 32);have b23:=b3.trans (bC.mono b3.size);have M2:=AC N2 b23;have M3:=AC M1 b23;have R3:=RI2.below b23;have R4:=RW.below bC;have hb3:=hb1.trans ((b12.trans (b23.mono b12.size)).mono hb1.size);have SM:=Jq _ _ _ _ _ _ _ _ _ _ _ _ _ _ T.1 _ R3 R4;unfold AQ at SM;have R2':=(R2.below b12).below b23;clear x0 x1 x2 x3 x4 x5 x6 x7 x8 N1 M1 N2 b12 b23 bC b3 hb1 R2 RI2 RW;obtain⟨x0,x1,x2,x3,x4,x5,x6,x7,x8⟩:=AE M2;obtain⟨y0,y1,y2,y3,y4,y5,y6,y7,y8⟩:=AE N3;go_wp2_with fail;generalize w3.alloc _=W3 at*;generalize w3.heap.size=gw at*;refine SM.mono ?_;rintro e w4 ⟨rfl,b4⟩;have hb4:=hb3.trans (b4.mono hb3.size);have R5:=R3.below b4;have R6:=R4.below b4;have N5:=AC M2 b4;have N6:=AC N3 b4;have R7:=R2'.below b4;have N7:=AC M3 b4;clear R2' M3;clear SM x0 x1 x2 x3 x4 x5 x6 x7 x8 y0 y1 y2 y3 y4 y5 y6 y7 y8 M2 N3 R3 R4 hb3 b4;cases ht:T.2
 .have SM:=Jq _ _ _ _ _ _ _ _ _ _ _ _ _ _ T.1 _ R5 R6
  unfold AQ at SM;obtain⟨x0,x1,x2,x3,x4,x5,x6,x7,x8⟩:=AE N5;obtain⟨y0,y1,y2,y3,y4,y5,y6,y7,y8⟩:=AE N6;go_wp2_with fail;refine SM.mono ?_;rintro e w5 ⟨rfl,b5⟩;go_wp2_with fail;go_ret;exact⟨rfl,hb4.trans (b5.mono hb4.size)⟩
 .obtain⟨hP,h0,h16,hTP⟩:=WH (P:=P) (n:=n) (by rw[<-HT.out,<-ht])
  obtain⟨a,rfl⟩:=Int.eq_ofNat_of_zero_le h0;rw[Int.toNat_natCast,<-HT.out] at hTP;have TO:=Mu hP (n:=a) (by omega) (by rw[<-hTP,ht]);rw[<-hTP] at TO;have hU:=AA TO.used;obtain⟨_,_,e1,_,_,HX⟩:=BJ.open Ew (by decide) R7.2.2.2;obtain⟨_,_,e2,_,_,HY⟩:=BJ.open Ew (by decide) R5.2.2.2;have hxl:=hP.zQ;have hyl:=TO.ok.zQ;rw[hxl] at e1;rw[hyl] at e2;cases e1;cases e2;have HX:=AA (λk (hk:k<16)=>HX.zt (k:=k) (by rw[hxl];exact hk));have HY:=AA (λk (hk:k<16)=>HY.zt (k:=k) (by rw[hyl];exact hk));clear hP TO hxl hyl hTP h16 h0 ht HT R5 R6 R7 N6 hs;obtain⟨x0,x1,x2,x3,x4,x5,x6,x7,x8⟩:=AE N7;obtain⟨y0,y1,y2,y3,y4,y5,y6,y7,y8⟩:=AE N5;go_wp2_with fail;go_loopw [9,10] (λal i wr=>∃k:Nat,k<=16/\i=.int .i64 k/\al=.bool (allU P.No k)/\w4=wr) (λ_ i _=>16 - (intOf i).toNat)
  case atStart=>exact⟨0,Nat.zero_le _,rfl,rfl,rfl⟩
  case round=>
   obtain⟨k,hk,rfl,rfl,rfl⟩:=hrel
   by_cases hk16:k<16
   .obtain⟨bx,ox,e1,hbx,D0,D1,D2⟩:=HX.out k hk16
    cases e1;have hki:(k:Int)<16:=by omega
    have HN:=AA (allU_next (xs:=P.No) (k:=k));cases hal:allU P.No k
    .have E:=AA (show allU P.No (k+1)=false by rw[HN.out,hal];rfl)
     clear hal;go_wp2_with fail;go_roundw
     case rel=>exact⟨k+1,by omega,by go_num,by rw[E.out],by first|rfl|trivial⟩
     case measure=>simp[intOf];omega
    .by_cases hw:(AB P.No k).w=1
     focus
      have t1:((AB P.No k).w !=1)=false:=by simp[hw]
      have E:=AA (show allU P.No (k+1)=(AB P.No k).u by rw[HN.out,hal];simp[hw]);rw[hw] at D0;clear hal hw t1
     rotate_left
     focus
      have t1:((AB P.No k).w !=1)=true:=by simp[hw]
      have E:=AA (show allU P.No (k+1)=true by rw[HN.out,hal];simp[hw]);clear hal hw
     rotate_left
     all_goals
      go_wp2_with fail;go_roundw
      case rel=>exact⟨k+1,by omega,by go_num,by rw[E.out],by first|rfl|trivial⟩
      case measure=>simp[intOf];omega
   .obtain rfl:k=16:=by omega
    have hall:=AA (λi (hi:i<16) (h1:(AB P.No i).w=1) (h2:(AB P.No i).u=true) (h3:(AB T.1.No i).w=2)=>(show allU P.No 16=true from List.all_eq_true.2 λj hj=>by
     by_cases hw:(AB P.No j).w=1
     .simp[hU.out i hi h1 h2 h3 j (List.mem_range.1 hj) hw]
     .simp[hw]))
    generalize allU P.No 16=al at hall;go_wp2_with fail;go_loopw [11] (λi wr=>∃k:Nat,k<=16/\i=.int .i64 k/\w4=wr) (λi _=>16 - (intOf i).toNat)
    case atStart=>exact⟨0,Nat.zero_le _,rfl,rfl⟩
    case round=>
     obtain⟨k,hk,rfl,rfl⟩:=hrel
     by_cases hk16:k<16
     .obtain⟨bx,ox,e1,hbx,D0,D1,D2⟩:=HX.out k hk16
      cases e1;obtain⟨bz,oy,e2,hby,E0,E1,E2⟩:=HY.out k hk16;cases e2;have hki:(k:Int)<16:=by omega
      have hA:=AA (hall.out k hk16);generalize AB P.No k=px at D0 D1 D2 hA;generalize AB T.1.No k=py at E0 E1 E2 hA;have t1:(px.w==1)=decide (px.w=1):=by cases h:(px.w==1)<;>simp_all
      have t2:(py.w==2)=decide (py.w=2):=by cases h:(py.w==2)<;>simp_all
      have H:(decide (px.w=1)&&px.u&&decide (py.w=2)&&!al)=false:=by
       by_cases h1:px.w=1
       .cases h2:px.u
        .simp
        .by_cases h3:py.w=2
         .rw[hA.out h1 h2 h3];simp
         .simp[h3]
       .simp[h1]
      generalize decide (px.w=1)=b1 at t1 H;generalize decide (py.w=2)=b2 at t2 H;generalize px.u=b3 at D2 H;cases b1<;>cases b3<;>cases b2<;>cases al<;>first|(exact absurd H (by decide))|(clear H;go_wp2_with fail)
      all_goals
       go_roundw
       case rel=>exact⟨k+1,by omega,by go_num,by first|rfl|trivial⟩
       case measure=>simp[intOf];omega
     .obtain rfl:k=16:=by omega
      go_wp2_with fail;go_ret;exact⟨rfl,hb4⟩
end Go.Proofs.YtinbcpipjfljeaaGreatDoor
