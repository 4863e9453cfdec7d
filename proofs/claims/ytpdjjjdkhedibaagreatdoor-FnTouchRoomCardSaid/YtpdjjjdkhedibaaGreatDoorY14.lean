/-
  Packed:4 texts.
-/
import Derived.Test.YtpdjjjdkhedibaaGreatDoorY1
import Derived.Test.YtpdjjjdkhedibaaGreatDoorY13
import Derived.Test.YtpdjjjdkhedibaaGreatDoorY7
import Derived.Test.YtpdjjjdkhedibaaGreatDoorY11
set_option linter.unusedVariables false
set_option linter.unusedSimpArgs false
set_option maxHeartbeats 16000000
set_option maxRecDepth 100000
open Go Go.Proofs.YtpdjjjdkhedibaaGreatDoor
open Go.RowKit.Below renaming refl->yD
open Go.World.ownsRow renaming frozenAt->xN,lt->yq
open Go renaming bodyPost_ret->yk,heap_alloc_new->yv,heap_setCell_same->ym
open Int renaming eq_ofNat_of_zero_le->xW
open List renaming foldl_cons->yy,foldl_nil->yw,range->yC
open List.range renaming loop->yz
open Nat renaming le_refl->yt,le_trans->yB,lt_of_lt_of_le->xX
variable {au lo:Nat}
namespace Go.Proofs.YtpdjjjdkhedibaaGreatDoor
open Go.Proofs.Tryz
open Go.RowKit
def PF(lo:Nat)(w:World)(v:Value):Prop:=∃ss,AQ lo 9 1 BB w v ss/\DQ ss
theorem PF.past{g:Nat}{w w':World}{v:Value}(h:PF lo w v)(hg:g<lo)(hb:w.grownBy w' (some g)):PF lo w' v:=by
 obtain⟨ss,h1,h2⟩:=h;exact⟨ss,Bq h1 hb (λb' e=>by cases e;exact hg),h2⟩
theorem Xv{P:Program}{f:FuncId}{vs:Array Value}{w0 w:World}{g N:Nat}(h:Calls P f vs w (Jh w0 g N w λv w'=>∃ss,AQ w.heap.size 9 1 BB w' v ss/\DQ ss))(hl:lo<=w.heap.size):Calls P f vs w (Jh w0 g N w λv w'=>PF lo w' v):=
 h.mono λ_ _ h=>by obtain⟨v,rfl,⟨ss,h1,h2⟩,h3⟩:=h;exact⟨v,rfl,⟨ss,h1.lower hl,h2⟩,h3⟩
theorem V0{w0 w:World}{g N:Nat}(h:Dr w0 g N w)(hN:N<=300000):
 Calls prog 88 #[.pointer (some ⟨g,0,none⟩)] w (ba EW w0 g (N+3200) w):=by
 have ae:=h.lt;have ar:w0.heap.size<=w.heap.size:=h.2.1.size;have B0:=yv w (.cells #[.slice none 0 0,.slice none 0 0,.slice none 0 0,.slice none 0 0] 28);have gA:=AX (AE w (.cells #[.slice none 0 0,.slice none 0 0,.slice none 0 0,.slice none 0 0] 28)) (some g);have cM:w.heap.size+1=(w.alloc (.cells #[.slice none 0 0,.slice none 0 0,.slice none 0 0,.slice none 0 0] 28)).heap.size:=by simp
 go_in;go_wp2_with fail;have hA:=h.alloc (.cells #[.slice none 0 0,.slice none 0 0,.slice none 0 0,.slice none 0 0] 28);generalize w.alloc _=wa at*;refine(Qy hA (by omega)).mono ?_;rintro e w1 ⟨v,rfl,⟨m,i,ev,c,k,rfl,S1,hk⟩,h1,g1⟩;obtain⟨⟨ma,mn,mc,rfl⟩,⟨ia,iN,ic,rfl⟩,⟨ea,en,ec,rfl⟩,⟨ca,cn,cc,rfl⟩⟩:=S1.zQ;rw[<-cM] at S1;have cs:g<wa.heap.size:=by omega
 have B1:=(g1.block w.heap.size (by omega) (by simp;omega)).trans B0;have bK:=AE w1 (.cells #[.slice ma mn mc,.slice ia iN ic,.slice ea en ec,.slice ca cn cc] 28);have NK:=yv w1 (.cells #[.slice ma mn mc,.slice ia iN ic,.slice ea en ec,.slice ca cn cc] 28);have h2:=h1.below bK;have G2:=AP (AP gA g1) (AX bK (some g));have B2:=AC B1 bK;have S2:Og (w.heap.size+1) _ _ _ _ _ k:=S1.map (KE bK (yt _));have ac:w.heap.size<w1.heap.size:=by have:=g1.size;omega
 clear S1 B1 h1 g1 hA B0 bK gA h;go_wp2_with fail;obtain⟨b,hb⟩:∃b,b=w1.heap.size:=⟨_,rfl⟩
 rw[<-hb] at NK ac ⊢;clear hb;generalize w1.alloc _=w2 at*;refine(h2.pick _).mono ?_;rintro e w3 ⟨x,rfl,x0,x1,h3,g3⟩;have hp:∀b',some g=some b'->b'<w.heap.size+1:=λb' e=>by cases e;omega
 have S3:Og (w.heap.size+1) w3 _ _ _ _ k:=S2.map (GN g3 (by omega) (yt _));have B3:=Fk B2 (yt _) g3 (λb' e=>by cases e;exact ae);have ad:=Fk NK (Nat.le_of_lt ac) g3 (λb' e=>by cases e;exact ae);have G3:=AP G2 g3;obtain⟨c0,c1,c2,c3⟩:=AG ad;clear S2 B2 NK h2 G2 g3
 by_cases hx:0<x
 .obtain⟨d0,d1,d2,d3⟩:=AG B3
  have bC:=AK B3;obtain⟨BX,FX⟩:=aY (ok:=EW) (M:=N+3200) h3 G3 (S3.map (λ_ _ _ _ _ _ _ h=>BO h (Nat.le_succ _))) (Ce hk) ae ar B3 (by omega);have BH:=AA BX;have FH:=AA FX;clear BX FX B3 h3 G3 S3 ad hk;go_wp2_with fail;exact yk (v:=.agg #[_,_,_,_]) (by simp[results,Tryz.results88,go_sem,AG BH.out]) rfl FH.out
 .have hS:=S3.rd
  go_wp2_with fail;refine(LH _ _ _ _ k w3 hS hk).mono ?_;rintro e w4 ⟨m',i',e',c',rfl,O4,b4⟩;obtain⟨⟨cl,ci,br,rfl⟩,⟨co,cp,aq,rfl⟩,⟨cv,ct,al,rfl⟩,⟨dg,db,dc,rfl⟩⟩:=O4.zQ;have h4:=h3.below b4;have hz:w.heap.size+1<=w3.heap.size:=by have:=AW B3;omega
  have bm:=AC ad b4;have fz:=AK bm;have St:=aX (ok:=DJ) h4 (AP G3 (AX b4 _)) bm (O4.lower hz) hk ae ar ac ⟨_,_,_,_,AC B3 b4⟩;obtain⟨c0,c1,c2,c3⟩:=AG bm;clear h3 h4 G3 S3 hS ad bm B3 O4 b4 hz;go_wp2_with fail;generalize(((w4.setCell _ _).setCell _ _).setCell _ _).setCell _ _=w5 at St ⊢;refine(St.pk _).mono ?_;rintro e w6 ⟨f,rfl,f0,f1,S6⟩;clear St c0 c1 c2 c3 fz;go_wp2_with fail;refine(S6.pk _).mono ?_;rintro e w7 ⟨u,rfl,u0,u1,St⟩;clear S6;obtain⟨f,rfl⟩:=xW f0;go_upto_block 0 with fail;go_cut [] (λwx=>Iz EW w0 g (N+3200) w b wx)
  case rest=>clear St;obtain⟨m9,i9,e9,c9,k9,h9,G9,N9,S9,bu,a0,a1,a2,a3,B9⟩:=hcut;obtain⟨⟨cl,ci,br,rfl⟩,⟨co,cp,aq,rfl⟩,⟨cv,ct,al,rfl⟩,⟨dg,db,dc,rfl⟩⟩:=S9.zQ;obtain⟨c0,c1,c2,c3⟩:=AG N9;obtain⟨d0,d1,d2,d3⟩:=AG B9;have bC:=AK B9;obtain⟨BX,FX⟩:=aY (ok:=EW) h9 G9 S9 bu ae ar B9 (yt _);have BH:=AA BX;have FH:=AA FX;clear BX FX B9 N9 h9 G9 S9 hk;go_wp2_with fail;exact yk (v:=.agg #[_,_,_,_]) (by simp[results,Tryz.results88,go_sem,AG BH.out]) rfl FH.out
  case first=>
   have hf:f<12:=by omega
   have cV:(f:Int)<12:=by omega
   rcases(show u=0∨u=1∨u=2∨u=3∨u=4∨u=5∨u=6 by omega) with rfl|rfl|rfl|rfl|rfl|rfl|rfl
   .obtain⟨gm,dd,gw,bb,e1,cI,cG,Df,cF,SW⟩:=St.yI.putWord (At hk).1 hf
    cases e1;have SW:=AA SW;obtain⟨c0,c1,c2,c3⟩:=AG St.yI.1;have ab:=AW St.yI.1;have ai:=St.lt;have am:w.heap.size+1<=w7.heap.size:=by omega
    go_wp2_with fail;refine Ey 10 87 3 2 [6,8] [.p b 0,.s gm 12 br,.i ((f:Int)),.p gm f,.s gw 4 bb,.p g 0,.z,.p g 0,.z,.z] (λix vv ww=>match ix with
     |6=>Pk 4 vv
     |8=>∃x:Int,vv=.int .i64 x/\ -1<=x/\x<=9999
     |9=>∃x:Int,vv=.int .i64 x
     |_=>True) St.dr ?_ ?_
    .intro i hi o ho a wx Hb Hd ll HL hG hW K HQ HK
     match i,hi with
     |0,_|2,_|5,_|7,_=>exact sP ho HK Hb Hd
     |1,_=>exact sL ho HK Hb Hd (hl:=GT (gc hW ab (by omega) c0))
     |3,_=>exact sI ho HK Hb Hd (hr:=by clear Hd Hb HK;go_simp)
     |4,_=>exact sL ho HK Hb Hd (hl:=J5 (gc hW cI (by omega) Df))
     |6,_=>exact dK (m:=4) ho HQ Hb Hd HL hG (by omega)
     |8,_=>exact bo ho HQ Hb Hd HL hG (λM hM hD hW=>Ms hD (by omega))
     |9,_=>
      obtain rfl:=yF ho;have d8:∃x:Int,(a.tmps[27]?.getD undef)=.int .i64 x/\ -1<=x/\x<=9999:=BM Hd 8
      obtain⟨x8,d8,y0,y1⟩:=d8;clear Hd Hb;refine yE ?_;go_simp;exact HK.out _ _ ⟨_,rfl⟩ (yD _ _)
    .intro vs wx hR hD hW
     have q4:(vs 4)=.slice (some ⟨gw,0,none⟩) 4 bb:=BW hR 4;have q6:Pk 4 (vs 6):=BW hR 6;obtain⟨x6,q6,p0,p1⟩:=q6;have q9:∃x:Int,(vs 9)=.int .i64 x:=BW hR 9
     obtain⟨x9,q9⟩:=q9;clear hR;simp only[Aj,Ae,yC,yz,yy,yw,q4,q6,q9];simp;clear q4 q6 q9;have S9:=St.draw hD hW;obtain⟨x6,rfl⟩:=xW p0;obtain⟨fz,d9,bB,cx⟩:=SW.out wx g hW (by omega) S9.yI;obtain⟨_,bB⟩:=bB x6 (by omega);obtain⟨I9,g9⟩:=cx x6 x9;have HR:=AA (S9.ke (ok':=EW) g9 (by omega) I9.1 I9.2.2.sf ⟨(Ce hk).1,(Ce hk).2⟩ (M:=N+3200) (by omega));clear S9 I9 g9 cx hD hW St;go_wp2_with fail;go_meet;exact HR.out
   .skip
    obtain⟨gi,bY,e1,cg,bn,_,_,D2,_⟩:=St.yI.zS' (f:=f) (by rw[hk.len];exact hf);rw[hk.len] at e1;cases e1;obtain⟨c0,c1,c2,c3⟩:=AG St.yI.1;have ab:=AW St.yI.1;have ai:=St.lt;have am:w.heap.size+1<=w7.heap.size:=by omega
    go_wp2_with fail;refine Ey 5 87 10 1 [4] [.p b 1,.s gi 12 aq,.i ((f:Int)),.p g 0,.z] (λix vv ww=>match ix with
     |4=>Mb vv
     |_=>True) St.dr ?_ ?_
    .intro i hi o ho a wx Hb Hd ll HL hG hW K HQ HK
     match i,hi with
     |0,_|2,_|3,_=>exact sP ho HK Hb Hd
     |1,_=>exact sL ho HK Hb Hd (hl:=F8 (gc hW ab (by omega) c1))
     |4,_=>exact bo ho HQ Hb Hd HL hG (λM hM hD hW=>Uk hD (by omega))
    .intro vs wx hR hD hW
     have q1:(vs 1)=.slice (some ⟨gi,0,none⟩) 12 aq:=BW hR 1;have q2:(vs 2)=.int .i64 f:=BW hR 2;have q4:Mb (vs 4):=BW hR 4;obtain⟨y4,dY,q4⟩:=q4;clear hR;simp only[Aj,Ae,yC,yz,yy,yw,q1,q2,q4];simp;clear q1 q2 q4;have S9:=St.draw hD hW;obtain⟨cZ,be,e1,bp,_,_,_,_,fz⟩:=S9.yI.zS' (f:=f) (by rw[hk.len];exact hf);rw[hk.len] at e1;cases e1;obtain⟨I9,g9,_⟩:=S9.yI.infoPut hk.len.symm (f:=f) (by rw[hk.len];exact hf) y4;have HR:=AA (S9.ke (ok':=EW) g9 (by omega) I9.1 I9.2.2.sf ⟨Sc (Ce hk).1 (by unfold maxLen;omega),(Ce hk).2⟩ (M:=N+3200) (by omega));clear S9 I9 g9 hD hW St;go_wp2_with fail;go_meet;exact HR.out
   .skip
    obtain⟨gi,bY,e1,cg,bn,_,_,D2,_⟩:=St.yI.zS' (f:=f) (by rw[hk.len];exact hf);rw[hk.len] at e1;cases e1;obtain⟨c0,c1,c2,c3⟩:=AG St.yI.1;have ab:=AW St.yI.1;have ai:=St.lt;have am:w.heap.size+1<=w7.heap.size:=by omega
    go_wp2_with fail;refine AY 10 87 [.p b 1,.s gi 12 aq,.i ((f:Int)),.p b 1,.s gi 12 aq,.i ((f:Int)),.p gi (f*3),.p gi (f*3+2),.i ((zS k.zZ f).r),.z] (λix vv ww=>match ix with
     |9=>∃x:Int,vv=.int .i64 x
     |_=>True) ?_ ?_
    .intro i hi o ho a wx Hb Hd hG K HK
     have ck:=bc hG ab c1;have cj:=bc hG cg D2
     match i,hi with
     |0,_|2,_|3,_|5,_|7,_=>exact sP ho HK Hb Hd
     |1,_|4,_=>exact sL ho HK Hb Hd (hl:=F8 ‹_›)
     |6,_=>exact sI ho HK Hb Hd (hr:=by clear Hd Hb HK;go_simp)
     |8,_=>exact sL ho HK Hb Hd (hl:=Fp ‹_›)
     |9,_=>clear ck cj;obtain rfl:=yF ho;have d8:(a.tmps[48]?.getD undef)=.int .i64 ((zS k.zZ f).r):=BM Hd 8;clear Hd Hb;refine yE ?_;go_simp;exact HK.out _ _ ⟨_,rfl⟩ (yD _ _)
    .intro vs wx hR hG
     have q1:(vs 1)=.slice (some ⟨gi,0,none⟩) 12 aq:=BW hR 1;have q2:(vs 2)=.int .i64 f:=BW hR 2;have q9:∃x:Int,(vs 9)=.int .i64 x:=BW hR 9
     obtain⟨x9,q9⟩:=q9;clear hR;simp only[Aj,Ae,yC,yz,yy,yw,q1,q2,q9];simp;clear q1 q2 q9;have S9:=St.below hG;obtain⟨cZ,be,e1,bp,_,d0,d1,d2,fz⟩:=S9.yI.zS' (f:=f) (by rw[hk.len];exact hf);rw[hk.len] at e1;cases e1;obtain⟨I9,g9,_⟩:=S9.yI.info hk.len.symm (f:=f) (x:=zS k.zZ f) (Cj (by rw[hk.len];exact hf)) (j:=2) (by decide) (y:= {zS k.zZ f with r:=x9}) (u:=.int .i64 x9) rfl;have HR:=AA (S9.ke (ok':=EW) g9 (by omega) I9.1 I9.2.2.sf ⟨Sc (Ce hk).1 (show(zS k.zZ f).g.size<=maxLen from(Ce hk).1 _ (List.mem_of_getElem? (Cj (show f<k.zZ.length by rw[hk.len];exact hf)))),(Ce hk).2⟩ (M:=N+3200) (by omega));clear S9 I9 g9 hG St;go_wp2_with fail;go_meet;exact HR.out
   .skip
    obtain⟨ge,bi,_,_,e1,ch,_⟩:=St.yI.env (j:=0) (by rw[hk.zN];decide);rw[hk.zN] at e1;cases e1;obtain⟨c0,c1,c2,c3⟩:=AG St.yI.1;have ab:=AW St.yI.1;have ai:=St.lt;have am:w.heap.size+1<=w7.heap.size:=by omega
    go_wp2_with fail;refine Ey 7 87 1 2 [3,5] [.p b 2,.s ge 3 al,.p g 0,.z,.p g 0,.z,.z] (λix vv ww=>match ix with
     |3=>Pk 3 vv
     |5=>Pk 13 vv
     |6=>∃x:Int,vv=.int .i64 x
     |_=>True) St.dr ?_ ?_
    .intro i hi o ho a wx Hb Hd ll HL hG hW K HQ HK
     match i,hi with
     |0,_|2,_|4,_=>exact sP ho HK Hb Hd
     |1,_=>exact sL ho HK Hb Hd (hl:=No (gc hW ab (by omega) c2))
     |3,_=>exact dK (m:=3) ho HQ Hb Hd HL hG (by omega)
     |5,_=>exact dK (m:=13) ho HQ Hb Hd HL hG (by omega)
     |6,_=>obtain rfl:=yF ho;have d5:Pk 13 (a.tmps[59]?.getD undef):=BM Hd 5;obtain⟨x5,d5,q0,q1⟩:=d5;clear Hd Hb;refine yE ?_;go_simp;exact HK.out _ _ ⟨_,rfl⟩ (yD _ _)
    .intro vs wx hR hD hW
     have q1:(vs 1)=.slice (some ⟨ge,0,none⟩) 3 al:=BW hR 1;have q3:Pk 3 (vs 3):=BW hR 3;obtain⟨x3,q3,p0,p1⟩:=q3;have q6:∃x:Int,(vs 6)=.int .i64 x:=BW hR 6
     obtain⟨x9,q6⟩:=q6;clear hR;simp only[Aj,Ae,yC,yz,yy,yw,q1,q3,q6];simp;clear q1 q3 q6;have S9:=St.draw hD hW;obtain⟨x3,rfl⟩:=xW p0;have av:x3<3:=by omega
     obtain⟨da,bf,_,_,e1,bq,_,_,_,fz⟩:=S9.yI.env (j:=x3) (by rw[hk.zN];exact av);rw[hk.zN] at e1;cases e1;obtain⟨I9,g9,_⟩:=S9.yI.root hk.zN.symm (j:=x3) (by rw[hk.zN];exact av) x9;have HR:=AA (S9.ke (ok':=EW) g9 (by omega) I9.1 I9.2.2.sf ⟨(Ce hk).1,QQ (Ce hk).2 (λ_ h=>h)⟩ (M:=N+3200) (by omega));clear S9 I9 g9 hD hW St;go_wp2_with fail;go_meet;exact HR.out
   .skip
    obtain⟨ge,bi,_,_,e1,ch,_⟩:=St.yI.env (j:=0) (by rw[hk.zN];decide);rw[hk.zN] at e1;cases e1;obtain⟨c0,c1,c2,c3⟩:=AG St.yI.1;have ab:=AW St.yI.1;have ai:=St.lt;have am:w.heap.size+1<=w7.heap.size:=by omega
    go_wp2_with fail;refine Ey 6 87 60 2 [3,5] [.p b 2,.s ge 3 al,.p g 0,.z,.p g 0,.z] (λix vv ww=>match ix with
     |3=>Pk 3 vv
     |5=>PF (w.heap.size+1) ww vv
     |_=>True) St.dr ?_ ?_ (hst:=?_)
    .intro i hi o ho a wx Hb Hd ll HL hG hW K HQ HK
     match i,hi with
     |0,_|2,_|4,_=>exact sP ho HK Hb Hd
     |1,_=>exact sL ho HK Hb Hd (hl:=No (gc hW ab (by omega) c2))
     |3,_=>exact dK (m:=3) ho HQ Hb Hd HL hG (by omega)
     |5,_=>exact dR ho HQ Hb Hd HL hG (λM hM hD hW=>Xv (Qx hD (by omega)) (yB am hW.size))
    rotate_left
    .intro i hi vv wz ce ay hz
     match i,hi with
     |3,_=>exact hz
     |5,_=>exact PF.past hz (by omega) ay
     |0,_|1,_|2,_|4,_=>exact hz
    .intro vs wx hR hD hW
     have q1:(vs 1)=.slice (some ⟨ge,0,none⟩) 3 al:=BW hR 1;have q3:Pk 3 (vs 3):=BW hR 3;obtain⟨x3,q3,p0,p1⟩:=q3;have q5:PF (w.heap.size+1) wx (vs 5):=BW hR 5;clear hR;simp only[Aj,Ae,yC,yz,yy,yw,q1,q3];simp;generalize vs 5=z5 at q5 ⊢;clear q1 q3;have S9:=St.draw hD hW;obtain⟨x3,rfl⟩:=xW p0;have av:x3<3:=by omega
     obtain⟨da,bf,_,_,e1,bq,_,_,_,fz⟩:=S9.yI.env (j:=x3) (by rw[hk.zN];exact av);rw[hk.zN] at e1;cases e1;obtain⟨ss,hO,cL⟩:=q5;obtain⟨N9,ao,g9,_⟩:=S9.yI.rightsSf hk.zN.symm (j:=x3) (by rw[hk.zN];exact av) hO;have HR:=AA (S9.ke (ok':=EW) g9 (by omega) N9 ao ⟨(Ce hk).1,QQ (Ce hk).2 (λ_ _=>cL)⟩ (M:=N+3200) (by omega));obtain⟨_,_,rfl,_,_⟩:=hO.rd.shape;clear S9 N9 ao g9 hD hW St hO;go_wp2_with fail;go_meet;exact HR.out
   .skip
    obtain⟨c0,c1,c2,c3⟩:=AG St.yI.1;have ab:=AW St.yI.1;have ai:=St.lt;have am:w.heap.size+1<=w7.heap.size:=by omega
    go_wp2_with fail;refine(TR St.dr (by omega)).mono ?_;rintro e w8 ⟨v,rfl,⟨ss,hO⟩,h8,g8⟩;have S9:=St.draw h8 g8;have hO:=hO.lower am;have g9:=Aq w8 b 3 v;have N9:=ym w8 b 3 _ _ v S9.yI.1;have O9:=S9.yI.2.2.sf;have ao:Og (w.heap.size+1) (w8.setCell ⟨b,3,none⟩ v) _ _ _ v {k with zW:=ss}:=Og.map (⟨O9.1,O9.2.1,O9.2.2.1,hO⟩:Og (w.heap.size+1) w8 _ _ _ v {k with zW:=ss}) (Kf g9 S9.yI.1 (.inl rfl) (yt _));have HR:=AA (S9.ke (ok':=EW) g9 ai (by simpa using N9) ao ⟨(Ce hk).1,(Ce hk).2⟩ (M:=N+3200) (by omega));have fz:=AK S9.yI.1;obtain⟨c0,c1,c2,c3⟩:=AG S9.yI.1;obtain⟨_,_,rfl,_,_⟩:=hO.rd.shape;clear S9 N9 ao O9 g9 h8 g8 St hO;go_wp2_with fail;go_meet;exact HR.out
   .skip
    obtain⟨ge,bi,_,_,e1,ch,_⟩:=St.yI.env (j:=0) (by rw[hk.zN];decide);rw[hk.zN] at e1;cases e1;obtain⟨c0,c1,c2,c3⟩:=AG St.yI.1;have ab:=AW St.yI.1;have ai:=St.lt;have am:w.heap.size+1<=w7.heap.size:=by omega
    go_wp2_with fail;refine Ey 4 87 1 1 [3] [.p b 2,.s ge 3 al,.p g 0,.z] (λix vv ww=>match ix with
     |3=>Pk 3 vv
     |_=>True) St.dr ?_ ?_
    .intro i hi o ho a wx Hb Hd ll HL hG hW K HQ HK
     match i,hi with
     |0,_|2,_=>exact sP ho HK Hb Hd
     |1,_=>exact sL ho HK Hb Hd (hl:=No (gc hW ab (by omega) c2))
     |3,_=>exact dK (m:=3) ho HQ Hb Hd HL hG (by omega)
    .intro vs wx hR hD hW
     have q1:(vs 1)=.slice (some ⟨ge,0,none⟩) 3 al:=BW hR 1;have q3:Pk 3 (vs 3):=BW hR 3;obtain⟨x3,q3,p0,p1⟩:=q3;clear hR;simp only[Aj,Ae,yC,yz,yy,yw,q1,q3];simp;clear q1 q3;have S9:=St.draw hD hW;obtain⟨x3,rfl⟩:=xW p0;have av:x3<3:=by omega
     have cW:3<=al:=by obtain⟨_,_,e9,bB,_⟩:=S9.yI.2.2.2.2.1.choose_spec.1.rd.shape;simp only[Value.slice.injEq] at e9;obtain⟨_,e8,rfl⟩:=e9;omega
     have g9:=Aq wx b 2 (.slice (some ⟨ge,0,none⟩) x3 al);have N9:=ym wx b 2 _ _ (.slice (some ⟨ge,0,none⟩) x3 al) S9.yI.1;have ao:=(S9.yI.2.2.sf.cutEnvs hk.zN.symm (x:=x3) (by omega)).map (Kf g9 S9.yI.1 (.inl rfl) (yt _));have HR:=AA (S9.ke (ok':=EW) g9 ai (by simpa using N9) ao ⟨(Ce hk).1,WQ (Ce hk).2⟩ (M:=N+3200) (by omega));have fz:=AK S9.yI.1;obtain⟨c0,c1,c2,c3⟩:=AG S9.yI.1;clear S9 N9 ao g9 hD hW St;go_wp2_with fail;go_meet;exact HR.out
def On(P:AR):Prop:=EW P.zV
theorem Rc{α β γ:Type}{R:α->β->Prop}{S:α->γ->Prop}{xs:List α}{ys:List β}(h:Fh R xs ys)(f:∀x y,R x y->∃z,S x z):∃zs,Fh S xs zs:=by
 induction xs generalizing ys with
 |nil=>exact⟨[],rfl,λi x y h=>by simp at h⟩
 |cons a xs ih=>
  cases ys with
  |nil=>exact absurd h.1 (by simp)
  |cons b ys=>
   obtain⟨z,hz⟩:=f a b (h.2 0 a b rfl rfl);obtain⟨zs,h1,h2⟩:=ih (ys:=ys) ⟨by simpa using h.1,λi x y hx hy=>h.2 (i+1) x y (by simpa using hx) (by simpa using hy)⟩;refine⟨z::zs,by simp[h1],λi x y hx hy=>?_⟩;cases i with
   |zero=>simp at hx hy;subst hx hy;exact hz
   |succ i=>exact h2 i x y (by simpa using hx) (by simpa using hy)
theorem Tb{w:World}{u:Value}{r:List Int}(gl j:Nat)(x:Int)(h:AF lo w u r):∃r',AF lo (w.setCell ⟨gl,j,none⟩ (.int .i64 x)) u r':=by
 have hg:=Aq w gl j (.int .i64 x)
 by_cases hu:u.ownBlock=some gl
 .have h0:=h
  obtain⟨h1,h2⟩:=h0
  rcases h2 with⟨e,e2⟩|⟨g',cap',bl,e,h3⟩
  .subst e
   simp[Value.ownBlock] at hu
  .subst e
   simp[Value.ownBlock] at hu;subst hu;refine⟨r.set j x,?_⟩;have S:=(World.ownsRow.stored h j (.int .i64 x)).1;unfold AF;rw[List.length_set,List.map_set];exact S
 .exact⟨r,Av h hg (.inr hu)⟩
section
variable {ok:AR->Prop} {w0 w wr:World} {g N M b:Nat} {m i e c s l q:Value} {P:AR}
theorem OE.lowPut{gl n:Nat}(h:OE lo w m i e c s (.slice (some ⟨gl,0,none⟩) n au) q P)(j:Nat)(x:Int):
 ∃P',OE lo (w.setCell ⟨gl,j,none⟩ (.int .i64 x)) m i e c s (.slice (some ⟨gl,0,none⟩) n au) q P'/\P'.zR=P.zR/\P'.zU=P.zU/\P'.zV.zZ=P.zV.zZ/\P'.zV.zX=P.zV.zX:=by
 obtain⟨⟨⟨vs,h1,h2⟩,h3,⟨ps,h4,h5⟩,h6⟩,⟨us,h7,h8⟩,h9,cY⟩:=h;have hg:=Aq w gl j (.int .i64 x);obtain⟨bl,hc⟩:=A6 h9 gl rfl;obtain⟨m',hm⟩:=Rc h2 λu r h=>Tb gl j x h
 obtain⟨s',hs⟩:=Rc h8 (S:=YL lo (w.setCell ⟨gl,j,none⟩ (.int .i64 x))) λu r h=>by
  rcases h with h|h
  .obtain⟨r',h'⟩:=Tb gl j x h
   exact⟨r',.inl h'⟩
  .exact⟨r,.inr h⟩
 obtain⟨l',hl⟩:=Tb gl j x h9;exact⟨⟨⟨m',P.zV.zZ,P.zV.zX,P.zV.zW⟩,s',l',P.zY,P.zR,P.zU⟩,⟨⟨⟨vs,h1.yL hg hc,hm⟩,h3.yL hg hc,⟨ps,h4.yL hg hc,h5.mono λ_ _ h=>⟨h.1.yL hg hc,h.2⟩⟩,h6.yL hg hc⟩,⟨us,h7.yL hg hc,hs⟩,hl,cY.yL hg hc⟩,rfl,rfl,rfl,rfl⟩
theorem ID.page{gq n0 n j:Nat}{x y:Bk}{u:Value}(St:ID ok w0 g N w b m i e c s l (.slice (some ⟨gq,0,none⟩) n0 au) P wr)(bt:n0=P.zY.length)(hk:P.zY[n]?=some x)(hj:j<3)(hy:Cw y=(Cw x).set j u)(hs:On P)(hM:N<=M):UA On w0 g M w b (wr.setCell ⟨gq,n*3+j,none⟩ u):=by obtain⟨I,g9,h9⟩:=St.yG.zo bt hk hj hy;exact St.pe (ok':=On) g9 (by omega) I.yK I.own.sf hs hM
theorem ID.zR(St:ID ok w0 g N w b m i e c s l q P wr)(x:Int)(hs:On P)(hM:N<=M):UA On w0 g M w b (wr.setCell ⟨b,7,none⟩ (.int .i64 x)):=by obtain⟨I,g9⟩:=St.yG.zg x;exact St.pe (ok':=On) g9 St.lt I.yK I.own.sf hs hM
theorem ID.lim(St:ID ok w0 g N w b m i e c s l q P wr)(x:Int)(hs:On P)(hM:N<=M):UA On w0 g M w b (wr.setCell ⟨b,8,none⟩ (.int .i64 x)):=by have g9:=Aq wr b 8 (.int .i64 x);have h8:=ym wr b 8 _ _ (.int .i64 x) St.yG.yK;exact St.pe (ok':=On) (P':= {P with zU:=x}) g9 St.lt (by simpa using h8) (St.yG.own.sf.map (Kf g9 St.yG.yK (.inr rfl) (yt _))) hs hM
theorem ID.zV{m' i' e' c':Value}{k':AN}(St:ID ok w0 g N w b m i e c s l q P wr)(S:Og (w.heap.size+1) wr m' i' e' c' k')(hs:EW k')(hM:N<=M):UA On w0 g M w b ((((wr.setCell ⟨b,0,none⟩ m').setCell ⟨b,1,none⟩ i').setCell ⟨b,2,none⟩ e').setCell ⟨b,3,none⟩ c'):=by have g9:=Ao wr b m' i' e' c';have O:=St.yG.own.sf;exact St.pe (ok':=On) (P':= {P with zV:=k'}) g9 St.lt (JU St.yG.yK) (OE.map (⟨S,O.2⟩:OE (w.heap.size+1) wr m' i' e' c' s l q {P with zV:=k'}) (Kf g9 St.yG.yK (.inr rfl) (yt _))) hs hM
theorem ID.row{gs n0 n:Nat}{v':Value}{r:List Int}{w1:World}(St:ID ok w0 g N w b m i e c (.slice (some ⟨gs,0,none⟩) n0 au) l q P wr)(hb:Below wr.heap.size wr w1)(hO:AF wr.heap.size w1 v' r)(bt:n0=P.swap.length)(hn:n<P.swap.length)(hs:On P)(hM:N<=M):UA On w0 g M w b (w1.setCell ⟨gs,n,none⟩ v'):=by
 obtain⟨vs,hr⟩:=St.yG.own.swp;have cO:w.heap.size+1<=wr.heap.size:=by have:=AW St.yG.yK;have:=St.lt;omega
 have R:=hr.set (B:=wr.heap.size) (j:=n) hb hO (yt _) cO (bt.trans hr.2.1.1.symm) (by rw[hr.2.1.1];exact hn);have I:=(St.yG.below hb).yY R.2 R.1;have h1:=(yq hr.1 gs rfl).1;exact(St.below hb).pe (ok':=On) R.2 (by omega) I.yK I.own.sf hs hM
theorem ID.lowx{gl n0:Nat}(St:ID ok w0 g N w b m i e c s (.slice (some ⟨gl,0,none⟩) n0 au) q P wr)(j:Nat)(x:Int)(hs:On P)(hM:N<=M):UA On w0 g M w b (wr.setCell ⟨gl,j,none⟩ (.int .i64 x)):=by have O:=St.yG.own;obtain⟨P',S',e1,e2,e3,e4⟩:=O.sf.lowPut j x;obtain⟨bl,hc⟩:=A6 O.low gl rfl;have h1:=(yq O.low gl rfl).1;have g9:=Aq wr gl j (.int .i64 x);have hB:=Ap St.yG.yK g9 (Bp hc St.yG.yK);rw[<-e1,<-e2] at hB;refine St.pe (ok':=On) g9 (by omega) hB S' ?_ hM;unfold On EW at hs ⊢;rw[e3,e4];exact hs
end
theorem V3{w0 w:World}{g N:Nat}(h:Dr w0 g N w)(hN:N<=50000):
 Calls prog 47 #[.pointer (some ⟨g,0,none⟩)] w (bd On w0 g (N+4300) w):=by
 have ae:=h.lt;have ar:w0.heap.size<=w.heap.size:=h.2.1.size;have B0:=yv w (.cells #[.slice none 0 0,.slice none 0 0,.slice none 0 0,.slice none 0 0,.slice none 0 0,.slice none 0 0,.slice none 0 0,.int .i64 0,.int .i64 0] 32);have bA:=AE w (.cells #[.slice none 0 0,.slice none 0 0,.slice none 0 0,.slice none 0 0,.slice none 0 0,.slice none 0 0,.slice none 0 0,.int .i64 0,.int .i64 0] 32);have gA:=AX bA (some g);have hA:=h.below bA;have ax:=AW B0;go_in;go_wp2_with fail;generalize w.alloc _=wa at*;refine(TU hA (by omega)).mono ?_;rintro e w1 ⟨v,rfl,⟨m,i,ev,c,s,l,q,P,rfl,S1,hP⟩,h1,g1⟩;obtain⟨⟨⟨ma,mn,mc,rfl⟩,⟨ia,iN,ic,rfl⟩,⟨ea,en,ec,rfl⟩,⟨va,vn,vc,rfl⟩⟩,⟨sa,sn,sc,rfl⟩,⟨la,ln,lc,rfl⟩,⟨qa,qn,qc,rfl⟩⟩:=S1.zQ;unfold AO;have B1:=(g1.block w.heap.size ax (by simp;omega)).trans B0;have bK:=AE w1 (.cells #[.slice ma mn mc,.slice ia iN ic,.slice ea en ec,.slice va vn vc,.slice sa sn sc,.slice la ln lc,.slice qa qn qc,.int .i64 P.zR,.int .i64 P.zU] 32);have NK:=yv w1 (.cells #[.slice ma mn mc,.slice ia iN ic,.slice ea en ec,.slice va vn vc,.slice sa sn sc,.slice la ln lc,.slice qa qn qc,.int .i64 P.zR,.int .i64 P.zU] 32);have h2:=h1.below bK;have G2:=AP (AP gA g1) (AX bK (some g));have B2:=AC B1 bK;have S2:=S1.map (KE bK ax);have ac:w.heap.size<w1.heap.size:=xX ax g1.size;clear S1 B1 h1 g1 hA B0 bK gA h bA ax;go_wp2_with fail;generalize w1.alloc _=w2 at*;generalize w1.heap.size=b at*;refine(h2.pick _).mono ?_;rintro e w3 ⟨x,rfl,x0,x1,h3,g3⟩;have hp:∀b',some g=some b'->b'<w.heap.size+1:=λb' e=>by cases e;omega
 have S3:=S2.map (GN g3 (show g<w.heap.size+1 by omega) (yt _));have B3:=Fk B2 (yt _) g3 (λb' e=>by cases e;exact ae);have ad:=Fk NK (Nat.le_of_lt ac) g3 (λb' e=>by cases e;exact ae);have G3:=AP G2 g3;obtain⟨c0,c1,c2,c3,c4,c5,c6,c7,c8⟩:=AD ad;have hs:On P:=Ce hP.k;clear S2 B2 NK h2 G2 g3
 by_cases hx:0<x
 .obtain⟨d0,d1,d2,d3,d4,d5,d6,d7,d8⟩:=AD B3
  have bC:=AK B3;obtain⟨BX,FX⟩:=aj (ok:=On) (M:=N+4300) h3 G3 (S3.map (λ_ _ _ _ _ _ _ h=>BO h (Nat.le_succ _))) hs ae ar B3 (by omega);unfold Ew at BX FX;have BH:=AA BX;have FH:=AA FX;clear BX FX B3 h3 G3 S3 ad hP hs;go_wp2_with fail;exact yk (v:=.agg #[_,_,_,_,_,_,_,_,_]) (by simp[results,Tryz.results47,go_sem,AD BH.out]) rfl FH.out
 .have CC:=LL _ _ _ _ _ _ _ P w3 S3.rd hP
  unfold AO at CC;go_wp2_with fail;refine CC.mono ?_;rintro e w4 ⟨m4,i4,e4,el,s4,l4,q4,rfl,O4,b4⟩;obtain⟨⟨⟨cl,ci,br,rfl⟩,⟨co,cp,aq,rfl⟩,⟨cv,ct,al,rfl⟩,⟨dm,di,dk,rfl⟩⟩,⟨dt,dp,cz,rfl⟩,⟨dT,dP,cm,rfl⟩,⟨dy,dv,cf,rfl⟩⟩:=O4.zQ;unfold AO;have h4:=h3.below b4;have cK:w.heap.size+1<=w3.heap.size:=by have:=AW ad;omega
  have St:=ah (b:=b) h4 (AP G3 (AX b4 _)) (AC ad b4) (O4.lower cK) hP ae ar ac ⟨_,_,_,_,_,_,_,_,_,AC B3 b4⟩;have fz:=AK (AC ad b4);clear c0 c1 c2 c3 c4 c5 c6 c7 c8;obtain⟨c0,c1,c2,c3,c4,c5,c6,c7,c8⟩:=AD (AC ad b4);have St:=AA St;clear S3 B3 ad h3 G3 O4 b4 h4 CC;go_wp2_with fail;replace St:=St.out;unfold Ew at St;generalize((((((((w4.setCell _ _).setCell _ _).setCell _ _).setCell _ _).setCell _ _).setCell _ _).setCell _ _).setCell _ _).setCell _ _=w5 at St ⊢;refine(St.pk 16).mono ?_;rintro e w6 ⟨f,rfl,f0,f1,S6⟩;clear St c0 c1 c2 c3 c4 c5 c6 c7 c8 fz;go_wp2_with fail;refine(S6.pk 7).mono ?_;rintro e w7 ⟨u,rfl,u0,u1,St⟩;clear S6;obtain⟨f,rfl⟩:=xW f0;go_upto_block 0 with fail;go_cut [] (λwx=>UA On w0 g (N+4200) w b wx)
  case rest=>clear St;obtain⟨m9,i9,e9,c9,s9,l9,q9,P9,h9,G9,N9,S9,bu,a0,a1,a2,a3,a4,a5,a6,a7,a8,B9⟩:=hcut;obtain⟨⟨⟨dN,dB,dC,rfl⟩,⟨dW,dX,dU,rfl⟩,⟨ej,eh,ei,rfl⟩,⟨dl,dh,dj,rfl⟩⟩,⟨ds,dn,dq,rfl⟩,⟨dS,dO,dQ,rfl⟩,⟨dx,du,dw,rfl⟩⟩:=S9.zQ;obtain⟨c0,c1,c2,c3,c4,c5,c6,c7,c8⟩:=AD N9;obtain⟨d0,d1,d2,d3,d4,d5,d6,d7,d8⟩:=AD B9;have bC:=AK B9;obtain⟨BX,FX⟩:=aj (ok:=On) (M:=N+4300) h9 G9 S9 bu ae ar B9 (by omega);unfold Ew at BX FX;have BH:=AA BX;have FH:=AA FX;clear BX FX B9 N9 h9 G9 S9;go_wp2_with fail;exact yk (v:=.agg #[_,_,_,_,_,_,_,_,_]) (by simp[results,Tryz.results47,go_sem,AD BH.out]) rfl FH.out
  case first=>
   have hf:f<16:=by omega
   have cV:(f:Int)<16:=by omega
   rcases(show u=0∨u=1∨u=2∨u=3∨u=4∨u=5∨u=6 by omega) with rfl|rfl|rfl|rfl|rfl|rfl|rfl
   .skip
    obtain⟨gq,bN,e1,_,_,cH,_⟩:=St.yG.page (n:=f) (by rw[hP.zO];exact hf);rw[hP.zO] at e1;cases e1;obtain⟨c0,c1,c2,c3,c4,c5,c6,c7,c8⟩:=AD St.yG.yK;have ab:=AW St.yG.yK;have ai:=St.lt;go_wp2_with fail;refine Ey 7 69 1 1 [4] [.p b 6,.s gq 16 cf,.i ((f:Int)),.p g 0,.z,.p gq (f*3),.p gq (f*3)] (λix vv ww=>match ix with
     |4=>Pk 4 vv
     |_=>True) St.dr ?_ ?_
    .intro i hi o ho a wx Hb Hd ll HL hG hW K HQ HK
     match i,hi with
     |0,_|2,_|3,_|6,_=>exact sP ho HK Hb Hd
     |1,_=>exact sL ho HK Hb Hd (hl:=Yt (gc hW ab (by omega) c6))
     |4,_=>exact dK (m:=4) ho HQ Hb Hd HL hG (by omega)
     |5,_=>exact sI ho HK Hb Hd (hr:=by clear Hd Hb HK;go_simp)
    .intro vs wx hR hD hW
     have q4:Pk 4 (vs 4):=BW hR 4;obtain⟨x4,q4,p0,p1⟩:=q4;have q6:(vs 6)=.pointer (some ⟨gq,f*3,none⟩):=BW hR 6;clear hR;simp only[Aj,Ae,yC,yz,yy,yw,q4,q6];simp;clear q4 q6;have S9:=St.draw hD hW;obtain⟨cT,fq,d0,d1,d2⟩:=S9.yG.pg (n:=f) (by rw[hP.zO];exact hf);have HR:=AA (S9.page (x:=AB P.zY f) (y:= {AB P.zY f with w:=x4}) (n:=f) (j:=0) hP.zO.symm (by unfold AB;exact A1 (by rw[hP.zO];exact hf)) (by decide) rfl hs (M:=N+4200) (by omega));clear S9 hD hW St;go_wp2_with fail;go_meet;exact HR.out
   .skip
    obtain⟨gq,bN,e1,_,_,cH,_⟩:=St.yG.page (n:=f) (by rw[hP.zO];exact hf);rw[hP.zO] at e1;cases e1;obtain⟨c0,c1,c2,c3,c4,c5,c6,c7,c8⟩:=AD St.yG.yK;have ab:=AW St.yG.yK;have ai:=St.lt;go_wp2_with fail;refine Ey 7 69 1 1 [4] [.p b 6,.s gq 16 cf,.i ((f:Int)),.p g 0,.z,.p gq (f*3),.p gq (f*3+1)] (λix vv ww=>match ix with
     |4=>Pk 16 vv
     |_=>True) St.dr ?_ ?_
    .intro i hi o ho a wx Hb Hd ll HL hG hW K HQ HK
     match i,hi with
     |0,_|2,_|3,_|6,_=>exact sP ho HK Hb Hd
     |1,_=>exact sL ho HK Hb Hd (hl:=Yt (gc hW ab (by omega) c6))
     |4,_=>exact dK (m:=16) ho HQ Hb Hd HL hG (by omega)
     |5,_=>exact sI ho HK Hb Hd (hr:=by clear Hd Hb HK;go_simp)
    .intro vs wx hR hD hW
     have q4:Pk 16 (vs 4):=BW hR 4;obtain⟨x4,q4,p0,p1⟩:=q4;have q6:(vs 6)=.pointer (some ⟨gq,f*3+1,none⟩):=BW hR 6;clear hR;simp only[Aj,Ae,yC,yz,yy,yw,q4,q6];simp;clear q4 q6;have S9:=St.draw hD hW;obtain⟨cT,fq,d0,d1,d2⟩:=S9.yG.pg (n:=f) (by rw[hP.zO];exact hf);have HR:=AA (S9.page (x:=AB P.zY f) (y:= {AB P.zY f with a:=x4}) (n:=f) (j:=1) hP.zO.symm (by unfold AB;exact A1 (by rw[hP.zO];exact hf)) (by decide) rfl hs (M:=N+4200) (by omega));clear S9 hD hW St;go_wp2_with fail;go_meet;exact HR.out
   .obtain⟨vs,hr⟩:=St.yG.own.swp
    have cq:vs.length=16:=by rw[hr.2.1.1,hP.zD]
    obtain⟨gs,df,e1,eo,em,dz,cC,cU⟩:=hr.1.zM (by omega);rw[cq] at e1;cases e1;have b4:=AE w7 (.cells #[.int .i64 1,.int .i64 2,.int .i64 3,.int .i64 4] 3);have hO:AF w7.heap.size (w7.alloc (.cells #[.int .i64 1,.int .i64 2,.int .i64 3,.int .i64 4] 3)) (.slice (some ⟨w7.heap.size,0,none⟩) 4 4) [1,2,3,4]:=Pz w7 3 1 4 [.int .i64 1,.int .i64 2,.int .i64 3,.int .i64 4] rfl (by decide);have HR:=AA (St.row (n:=f) b4 hO hP.zD.symm (by rw[hP.zD];exact hf) hs (M:=N+4200) (by omega));have g1:(w7.alloc (.cells #[.int .i64 1,.int .i64 2,.int .i64 3,.int .i64 4] 3)).ownsRow (w.heap.size+1) 29 1 (.slice (some ⟨gs,0,none⟩) 16 cz) 16 vs:=by have:=(hr.below b4).1;unfold AQ at this;rwa [Gg,cq] at this
    have C1:=World.ownsRow.cellAt g1 f (by omega);rw[List.getElem?_eq_getElem (by omega)] at C1;have F1:=xN g1 f;obtain⟨c0,c1,c2,c3,c4,c5,c6,c7,c8⟩:=AD St.yG.yK;have cS:gs<w7.heap.size:=cC;clear g1 hO b4 hr cU St;go_wp2_with fail;go_meet;rw[<-World.setCell_alloc_past _ gs f _ cS];exact HR.out
   .skip
    go_wp2_with fail;refine(St.pk 20).mono ?_;rintro e w8 ⟨z,rfl,z0,z1,S8⟩;obtain⟨c0,c1,c2,c3,c4,c5,c6,c7,c8⟩:=AD S8.yG.yK;have fq:=AK S8.yG.yK;have HR:=AA (λx=>S8.zR x hs (M:=N+4200) (by omega));clear S8 St;go_wp2_with fail;go_meet;exact HR.out _
   .skip
    go_wp2_with fail;refine(St.pk 9).mono ?_;rintro e w8 ⟨z,rfl,z0,z1,S8⟩;obtain⟨c0,c1,c2,c3,c4,c5,c6,c7,c8⟩:=AD S8.yG.yK;have fq:=AK S8.yG.yK;have HR:=AA (λx=>S8.lim x hs (M:=N+4200) (by omega));clear S8 St;go_wp2_with fail;go_meet;exact HR.out _
   .obtain⟨gl,de,e1,dA,_⟩:=JZ St.yG.own.low (j:=0) (by rw[hP.zt];decide)
    rw[hP.zt] at e1;cases e1;obtain⟨c0,c1,c2,c3,c4,c5,c6,c7,c8⟩:=AD St.yG.yK;have ab:=AW St.yG.yK;have ai:=St.lt;go_wp2_with fail;refine Ey 6 69 1 2 [3,5] [.p b 5,.s gl 4 cm,.p g 0,.z,.p g 0,.z] (λix vv ww=>match ix with
     |3=>Pk 4 vv
     |5=>Pk 12 vv
     |_=>True) St.dr ?_ ?_
    .intro i hi o ho a wx Hb Hd ll HL hG hW K HQ HK
     match i,hi with
     |0,_|2,_|4,_=>exact sP ho HK Hb Hd
     |1,_=>exact sL ho HK Hb Hd (hl:=J5 (gc hW ab (by omega) c5))
     |3,_=>exact dK (m:=4) ho HQ Hb Hd HL hG (by omega)
     |5,_=>exact dK (m:=12) ho HQ Hb Hd HL hG (by omega)
    .intro vs wx hR hD hW
     have q1:(vs 1)=.slice (some ⟨gl,0,none⟩) 4 cm:=BW hR 1;have q3:Pk 4 (vs 3):=BW hR 3;obtain⟨x3,q3,p0,p1⟩:=q3;have q5:Pk 12 (vs 5):=BW hR 5;obtain⟨x5,q5,q0,q1⟩:=q5;clear hR;simp only[Aj,Ae,yC,yz,yy,yw,q1,q3,q5];simp;clear q1 q3 q5;have S9:=St.draw hD hW;obtain⟨x3,rfl⟩:=xW p0;obtain⟨ef,cw,e1,cJ,D9⟩:=JZ S9.yG.own.low (j:=x3) (by rw[hP.zt];omega);rw[hP.zt] at e1;cases e1;have ow:=S9.yG.own.low;unfold AF at ow;rw[hP.zt] at ow;have fl:=xN ow x3;clear ow;have HR:=AA (S9.lowx x3 x5 hs (M:=N+4200) (by omega));clear S9 hD hW St;go_wp2_with fail;go_meet;exact HR.out
   .go_wp2_with fail
    refine(V0 St.dr (by omega)).mono ?_;rintro e w8 ⟨v,rfl,⟨m8,i8,e8,ek,k',rfl,S8,cP⟩,h8,g8⟩;obtain⟨⟨ka,kn,kc,rfl⟩,⟨ja,jn,jc,rfl⟩,⟨fa,fn,fc,rfl⟩,⟨ra,rn,rc,rfl⟩⟩:=S8.zQ;have S9:=St.draw h8 g8;have fz:=AK S9.yG.yK;obtain⟨c0,c1,c2,c3,c4,c5,c6,c7,c8⟩:=AD S9.yG.yK;have am:w.heap.size+1<=w7.heap.size:=by have:=AW St.yG.yK;have:=St.lt;omega
    have HR:=AA (S9.zV (S8.map (λ_ _ _ _ _ _ _ x=>BO x am)) cP (M:=N+4200) (by omega));clear S9 S8 h8 g8 St;go_wp2_with fail;go_meet;exact HR.out
structure Dq(w wa W0:World)(g N rb:Nat)(o0 o1:Obj)(p s:Bool)(ww:World):Prop where
 dr:p=false->Dr wa g N ww
 sz:W0.heap.size<=ww.heap.size
 kp:∀k,k<W0.heap.size->k≠g->k≠rb->ww.heap[k]?=W0.heap[k]?
 bw:Below w.heap.size w ww
 rb:ww.heap[rb]?=some (if s then o1 else o0)
section
variable {w wa W0 ww w':World} {g N rb:Nat} {o0 o1:Obj} {p s:Bool}
theorem Dq.below(h:Dq w wa W0 g N rb o0 o1 p s ww)(hb:Below ww.heap.size ww w'):Dq w wa W0 g N rb o0 o1 p s w':=
 ⟨λe=>(h.dr e).below hb,yB h.sz hb.size,λk hk h1 h2=>(hb.block k (xX hk h.sz)).trans (h.kp k hk h1 h2),h.bw.trans (hb.mono h.bw.size),AC h.rb hb⟩
theorem Dq.cell(h:Dq w wa W0 g N rb o0 o1 p s ww){k j:Nat}{v:Value}(hk:k<W0.heap.size)(h1:k≠g)(h2:k≠rb)(hv:W0.cell? ⟨k,j,none⟩=some v):ww.cell? ⟨k,j,none⟩=some v:=by have:=h.kp k hk h1 h2;unfold World.cell? at hv ⊢;rw[this];exact hv
end
def R4(lo:Nat)(v:Value)(w:World):Prop:=∃q o,∃x:Int,v=.pointer (some ⟨q,o,none⟩)/\lo<=q/\w.cell? ⟨q,o,none⟩=some (.int .i64 x)
theorem R4.past{q:Nat}{v:Value}{w w':World}(h:R4 lo v w)(hg:w.grownBy w' (some q))(hq:q<lo):R4 lo v w':=by obtain⟨b,o,x,h1,h2,h3⟩:=h;exact⟨b,o,x,h1,h2,gc hg (World.block_lt_of_cell? _ _ h3) (by simp;omega) h3⟩
def R1(k lo:Nat)(v:Value)(w:World):Prop:=∃xs:List Int,xs.length=k/\AF lo w v xs
theorem R1.past{k q:Nat}{v:Value}{w w':World}(h:R1 k lo v w)(hg:w.grownBy w' (some q))(hq:q<lo):R1 k lo v w':=by
 obtain⟨x,y,h⟩:=h;exact⟨x,y,Bq h hg (λb e=>by cases e;exact hq)⟩
theorem bR{w wa W0 ww:World}{g N rb:Nat}{o0 o1:Obj}{p s:Bool}{cu:Array Value}(h:Dq w wa W0 g N rb o0 o1 p s ww)(hB:W0.heap[rb]?=some (.cells cu 32 (0,0)))(hg:g<lo):∀t sz n v xs,t≠28->t≠32->W0.ownsRow lo t sz v n xs->ww.ownsRow lo t sz v n xs:=by
 intro t sz n v xs _ h2 ⟨h3,h4⟩;refine⟨h3,?_⟩
 rcases h4 with h4|⟨q,au,bl,rfl,hq,hh,hr⟩
 .exact .inl h4
 .refine .inr ⟨q,au,bl,rfl,hq,(h.kp q (AW hh) (by omega) ?_).trans hh,hr⟩
  rintro rfl;rw[hB] at hh;simp at hh;exact h2 hh.2.symm
def ZY(w:World)(r:Ending)(w':World):Prop:=∃m i e c s l q P n,r=.returned (.tuple #[AO m i e c s l q P.zR P.zU,.int .i64 n])/\Kx w' m i e c s l q P/\On P/\Below w.heap.size w w'
theorem GZ(v:Value)(bs:List Int)(w:World)(h:Ft w v bs):
 Calls prog 16 #[v] w (ZY w):=by
 have B0:=yv w (.cells #[.slice none 0 0,.slice none 0 0,.slice none 0 0,.slice none 0 0,.slice none 0 0,.slice none 0 0,.slice none 0 0,.int .i64 0,.int .i64 0] 32);have bA:=AE w (.cells #[.slice none 0 0,.slice none 0 0,.slice none 0 0,.slice none 0 0,.slice none 0 0,.slice none 0 0,.slice none 0 0,.int .i64 0,.int .i64 0] 32);have hA:Ft (w.alloc _) v bs:=⟨h.1.below bA,h.2⟩;have ax:=AW B0;go_in;go_wp2_with fail;generalize w.alloc _=wa at*;refine(Vz _ bs _ hA).mono ?_;rintro e w1 ⟨R,rfl,hR,az⟩;obtain⟨g,rfl,hD⟩:=Dr.of hR az;have cs:wa.heap.size<=g:=hD.2.2.1;have bz:=hD.lt;go_wp2_with fail;refine(V3 hD (by decide)).mono ?_;rintro e w2 ⟨v2,rfl,⟨m,i,e2,v,s,l,q,P,rfl,S2,hP⟩,h2,g2⟩;obtain⟨⟨⟨ma,mn,mc,rfl⟩,⟨ia,iN,ic,rfl⟩,⟨ea,en,ec,rfl⟩,⟨va,vn,vc,rfl⟩⟩,⟨sa,sn,sc,rfl⟩,⟨la,ln,lc,rfl⟩,⟨qa,qn,qc,rfl⟩⟩:=S2.zQ;unfold AO;have Z2:=(g2.block w.heap.size (xX ax az.size) (by simp;omega)).trans (AC B0 az);have cd:=AM (bA.trans (az.mono bA.size)) g2 (yB bA.size cs) (yB bA.size az.size);have bK:=AE w2 (.cells #[.slice ma mn mc,.slice ia iN ic,.slice ea en ec,.slice va vn vc,.slice sa sn sc,.slice la ln lc,.slice qa qn qc,.int .i64 P.zR,.int .i64 P.zU] 32);have NK:=yv w2 (.cells #[.slice ma mn mc,.slice ia iN ic,.slice ea en ec,.slice va vn vc,.slice sa sn sc,.slice la ln lc,.slice qa qn qc,.int .i64 P.zR,.int .i64 P.zU] 32);have h3:=h2.below bK;have S3:=S2.map (KE bK (yt _));have Z3:=AC Z2 bK;have cb:=cd.trans (bK.mono cd.size);have ed:g<w2.heap.size:=xX bz g2.size;clear S2 h2 Z2 cd bK hR hD hA B0 h bA g2 az;go_wp2_with fail;generalize w2.alloc _=w3 at*;generalize w2.heap.size=b at*;refine(h3.pick 20).mono ?_;rintro e w4 ⟨x,rfl,x0,x1,h4,g4⟩;have S4:=S3.map (GN g4 bz (yt _));have Z4:=(g4.block _ (AW Z3) (by simp;omega)).trans Z3;have bk:=AM cb g4 (by omega) cb.size;have N4:=(g4.block _ (AW NK) (by simp;omega)).trans NK;clear S3 Z3 cb NK h3 g4;have cN:=AW Z4;obtain⟨c0,c1,c2,c3,c4,c5,c6,c7,c8⟩:=AD N4;have ac:=AW N4
 by_cases hx:x=0
 .subst hx
  have cr:Dq w wa w4 g (0+4300+1) w.heap.size (.cells #[.slice none 0 0,.slice none 0 0,.slice none 0 0,.slice none 0 0,.slice none 0 0,.slice none 0 0,.slice none 0 0,.int .i64 0,.int .i64 0] 32 (0,0)) (.cells #[.slice ma mn mc,.slice ia iN ic,.slice ea en ec,.slice va vn vc,.slice sa sn sc,.slice la ln lc,.slice qa qn qc,.int .i64 P.zR,.int .i64 P.zU] 32 (0,0)) false false w4:=⟨λ_=>h4,yt _,λ_ _ _ _=>rfl,bk,Z4⟩;go_wp2_with fail;refine EB 8 22 (λix=>ix==3||ix==6) [.a #[.slice ma mn mc,.slice ia iN ic,.slice ea en ec,.slice va vn vc,.slice sa sn sc,.slice la ln lc,.slice qa qn qc,.int .i64 P.zR,.int .i64 P.zU],.z,.p g 0,.z,.z,.z,.z,.z] (λll ix vv ww=>match ix with
   |1=>R1 2 w4.heap.size vv ww
   |3=>Pk 2 vv
   |4=>R4 w4.heap.size vv ww
   |5|7=>∃x:Int,vv=.int .i64 x
   |_=>True) (λll ww=>Dq w wa w4 g (0+4300+1) w.heap.size (.cells #[.slice none 0 0,.slice none 0 0,.slice none 0 0,.slice none 0 0,.slice none 0 0,.slice none 0 0,.slice none 0 0,.int .i64 0,.int .i64 0] 32 (0,0)) (.cells #[.slice ma mn mc,.slice ia iN ic,.slice ea en ec,.slice va vn vc,.slice sa sn sc,.slice la ln lc,.slice qa qn qc,.int .i64 P.zR,.int .i64 P.zU] 32 (0,0)) (ll 3) (ll 6) ww) ?_ ?_ ?_ ?_ ?_ ?_
  .exact cr.below (A8 (yD _ _) 1)
  .intro j hj ll i vv wz ce hi hS cX ee ay hz
   match j,hj with
   |1,_=>exact(R1.past hz (AX ay (some 0)) (by omega))
   |3,_=>exact hz
   |4,_=>exact(R4.past hz (AX ay (some 0)) (by omega))
   |5,_|7,_|0,_|2,_|6,_=>exact hz
  .intro ll i wz ce hi hS cX ay hg
   show Dq _ _ _ _ _ _ _ _ (GP ll i 3) (GP ll i 6) _
   rw[GH (by rintro rfl;cases hS),GH (by rintro rfl;cases hS)];exact hg.below ay
  .intro i hi hS o ho a wx Hb ll Hd HL hG K HK
   match i,hi,hS with
   |0,_,_=>have u6:=Ba HL 6;have ck:=(show wx.cell? ⟨b,0,none⟩=some (.slice ma mn mc) from hG.cell ac (by omega) (by omega) c0);have cj:=(show wx.cell? ⟨b,1,none⟩=some (.slice ia iN ic) from hG.cell ac (by omega) (by omega) c1);have dM:=(show wx.cell? ⟨b,2,none⟩=some (.slice ea en ec) from hG.cell ac (by omega) (by omega) c2);have dJ:=(show wx.cell? ⟨b,3,none⟩=some (.slice va vn vc) from hG.cell ac (by omega) (by omega) c3);have dI:=(show wx.cell? ⟨b,4,none⟩=some (.slice sa sn sc) from hG.cell ac (by omega) (by omega) c4);have dH:=(show wx.cell? ⟨b,5,none⟩=some (.slice la ln lc) from hG.cell ac (by omega) (by omega) c5);have dG:=(show wx.cell? ⟨b,6,none⟩=some (.slice qa qn qc) from hG.cell ac (by omega) (by omega) c6);have dE:=(show wx.cell? ⟨b,7,none⟩=some (.int .i64 P.zR) from hG.cell ac (by omega) (by omega) c7);have dD:=(show wx.cell? ⟨b,8,none⟩=some (.int .i64 P.zU) from hG.cell ac (by omega) (by omega) c8);exact Nl ho HK Hb Hd HL (hl:=Qz ‹_› ‹_› ‹_› ‹_› ‹_› ‹_› ‹_› ‹_› ‹_›)
   |2,_,_=>exact Wg ho HK Hb Hd HL
   |3,_,hs|6,_,hs=>cases hs
   |1,_,_=>obtain rfl:=yF ho;clear Hd Hb;refine yE ?_;go_simp;exact HK.out _ _ ⟨[(-1),16],rfl,BO (Pz wx 3 1 2 [.int .i64 (-1),.int .i64 16] rfl (by decide)) hG.sz⟩ (AE _ _)
   |4,_,_=>obtain rfl:=yF ho;have d1:R1 2 w4.heap.size (a.tmps[14]?.getD undef) wx:=DV Hd HL 1;obtain⟨ys,yl,d1⟩:=d1;have d3:Pk 2 (a.tmps[16]?.getD undef):=DV Hd HL 3;obtain⟨x3,d3,p0,p1⟩:=d3;have u3:ll 3=true:=HL.out.2.1 3 (by kernel_rfl);clear Hd Hb;obtain⟨a2,rfl⟩:=xW p0;obtain⟨qb,qc,e1,dZ,D⟩:=JZ d1 (j:=a2) (by omega);have hq:=(yq d1 qb (by rw[e1];rfl)).1;rw[yl] at e1;replace d1:a.tmps[14]?.getD undef=.slice (some ⟨qb,0,none⟩) 2 qc:=e1;clear e1;refine yE ?_;go_simp;exact HK.out _ _ ⟨qb,_,_,rfl,hq,by simpa using D⟩ (yD _ _)
   |5,_,_=>obtain rfl:=yF ho;have d4:R4 w4.heap.size (a.tmps[17]?.getD undef) wx:=DV Hd HL 4;obtain⟨qb,qo,y4,d4,hq,D4⟩:=d4;clear Hd Hb;refine yE ?_;go_simp;exact HK.out _ _ ⟨_,rfl⟩ (yD _ _)
   |7,_,_=>
    obtain rfl:=yF ho;have d5:∃x:Int,(a.tmps[18]?.getD undef)=.int .i64 x:=DV Hd HL 5
    obtain⟨x5,d5⟩:=d5;have u3:ll 3=true:=HL.out.2.1 3 (by kernel_rfl);have u6:ll 6=true:=HL.out.2.1 6 (by kernel_rfl);clear Hd Hb;refine yE ?_;go_simp;exact HK.out _ _ ⟨_,rfl⟩ (yD _ _)
  .intro i hi hS o ho a wx Hb ll Hd HL hG K HK
   match i,hi,hS with
   |0,_,hs|1,_,hs|2,_,hs|4,_,hs|5,_,hs|7,_,hs=>cases hs
   |3,_,_=>
    obtain rfl:=yF ho;have d2:(a.tmps[15]?.getD undef)=.pointer (some ⟨g,0,none⟩):=DV Hd HL 2;have u6:=Ba HL 6;clear Hd Hb;refine yE ?_;go_simp;refine((hG.dr HL.out.1).pick 2).mono ?_;rintro e w_ ⟨x,rfl,x0,x1,h3,g3⟩;exact HK.out _ _ ⟨x,rfl,x0,x1 (by decide)⟩ ⟨λh=>absurd h (by simp[GP]),yB hG.sz g3.size,λk hk h1 h2=>(g3.block k (xX hk hG.sz) (by simp;omega)).trans (hG.kp k hk h1 h2),AM hG.bw g3 (by omega) hG.bw.size,(g3.block _ (AW hG.rb) (by simp;omega)).trans (by rw[GH (by decide)];exact hG.rb)⟩ (λj cR bx cQ hu=>match j,bx with
     |0,_|2,_|3,_|5,_|6,_|7,_=>hu
     |1,_=>R1.past hu g3 (by omega)
     |4,_=>R4.past hu g3 (by omega))
   |6,_,_=>
    obtain rfl:=yF ho;have e2:a.tmps[2]?.getD undef=.pointer (some ⟨w.heap.size,0,none⟩):=eg (Oj Hb 2);have d0:(a.tmps[13]?.getD undef)=.agg #[.slice ma mn mc,.slice ia iN ic,.slice ea en ec,.slice va vn vc,.slice sa sn sc,.slice la ln lc,.slice qa qn qc,.int .i64 P.zR,.int .i64 P.zU]:=DV Hd HL 0;have u3:ll 3=true:=HL.out.2.1 3 (by kernel_rfl);clear Hd Hb;have l3:=HL.out.2.1 3 (by kernel_rfl);have hr:=hG.rb;rw[HL.out.1] at hr;obtain⟨z0,z1,z2,z3,z4,z5,z6,z7,z8⟩:=AD hr;have fq:=AK hr;have Hr:=AA hr;have g3:=AA (FD (w:=wx) (g:=w.heap.size) (b0:=.slice ma mn mc) (b1:=.slice ia iN ic) (b2:=.slice ea en ec) (b3:=.slice va vn vc) (b4:=.slice sa sn sc) (b5:=.slice la ln lc) (b6:=.slice qa qn qc) (b7:=.int .i64 P.zR) (b8:=.int .i64 P.zU));clear hr;refine yE ?_;go_simp;exact HK.out undef _ trivial ⟨λh=>absurd h (by rw[GH (by decide),l3];decide),yB hG.sz g3.out.size,λk hk h1 h2=>(g3.out.block k (xX hk hG.sz) (by simp;omega)).trans (hG.kp k hk h1 h2),AM hG.bw g3.out (by omega) hG.bw.size,by rw[Gk];exact GV Hr.out⟩ (λj cR bx cQ hu=>match j,bx with
     |0,_|2,_|3,_|5,_|6,_|7,_=>hu
     |1,_=>R1.past hu g3.out (by omega)
     |4,_=>R4.past hu g3.out (by omega))
  .intro vs wx ll a9 hR hG
   have q7:∃x:Int,(vs 7)=.int .i64 x:=BW hR 7
   obtain⟨x7,q7⟩:=q7;clear hR;simp only[De,Bb,yC,yz,yy,yw,q7];simp
   try generalize vs 0=z0
   try generalize vs 1=z1
   try generalize vs 2=z2
   try generalize vs 3=z3
   try generalize vs 4=z4
   try generalize vs 5=z5
   try generalize vs 6=z6
   clear q7;have hr:=hG.rb;rw[show ll 6=true from a9 6 (by decide)] at hr;have S5:=AA (OE.map (w':=wx) S4 (bR hG Z4 (by omega)));have HB:=AA hG.bw;have Hr:=AA hr;clear hr hG S4 Z4 bk N4 c0 c1 c2 c3 c4 c5 c6 c7 c8 cr h4 a9;go_wp2_with fail;exact yk (v:=.tuple #[.agg #[_,_,_,_,_,_,_,_,_],.int .i64 x7]) (by simp[results,Tryz.results16,go_sem,AD Hr.out]) rfl ⟨_,_,_,_,_,_,_,P,x7,rfl,S5.out.rd,hP,HB.out⟩
 .have t0:(x==0)=false:=by simp[hx]
  clear hx;go_wp2_with fail;refine Ey 3 22 1 1 [2] [.a #[.slice ma mn mc,.slice ia iN ic,.slice ea en ec,.slice va vn vc,.slice sa sn sc,.slice la ln lc,.slice qa qn qc,.int .i64 P.zR,.int .i64 P.zU],.p g 0,.z] (λix vv ww=>match ix with
   |2=>Pk 16 vv
   |_=>True) h4 ?_ ?_
  .intro i hi o ho a wx Hb Hd ll HL hG hW K HQ HK
   match i,hi with
   |0,_=>exact sL ho HK Hb Hd (hl:=Qz (gc hW ac (by omega) c0) (gc hW ac (by omega) c1) (gc hW ac (by omega) c2) (gc hW ac (by omega) c3) (gc hW ac (by omega) c4) (gc hW ac (by omega) c5) (gc hW ac (by omega) c6) (gc hW ac (by omega) c7) (gc hW ac (by omega) c8))
   |1,_=>exact sP ho HK Hb Hd
   |2,_=>exact dK (m:=16) ho HQ Hb Hd HL hG (by omega)
  .intro vs wx hR hD hW
   have q0:(vs 0)=.agg #[.slice ma mn mc,.slice ia iN ic,.slice ea en ec,.slice va vn vc,.slice sa sn sc,.slice la ln lc,.slice qa qn qc,.int .i64 P.zR,.int .i64 P.zU]:=BW hR 0;have q2:Pk 16 (vs 2):=BW hR 2;obtain⟨x2,q2,p0,p1⟩:=q2;clear hR;simp only[Aj,Ae,yC,yz,yy,yw,q0,q2];simp;clear q0 q2;have Z5:=(hW.block _ cN (by simp;omega)).trans Z4;have S5:=S4.map (GN hW bz (yt _));have g9:=FD (w:=wx) (g:=w.heap.size) (b0:=.slice ma mn mc) (b1:=.slice ia iN ic) (b2:=.slice ea en ec) (b3:=.slice va vn vc) (b4:=.slice sa sn sc) (b5:=.slice la ln lc) (b6:=.slice qa qn qc) (b7:=.int .i64 P.zR) (b8:=.int .i64 P.zU);have S6:=AA (S5.map (Kf g9 Z5 (.inr rfl) (yt _)));have b9:=AM bk hW (by omega) bk.size;have cy:=AA (AM b9 g9 (by omega) b9.size);have Z6:=AA (GV (b0:=.slice ma mn mc) (b1:=.slice ia iN ic) (b2:=.slice ea en ec) (b3:=.slice va vn vc) (b4:=.slice sa sn sc) (b5:=.slice la ln lc) (b6:=.slice qa qn qc) (b7:=.int .i64 P.zR) (b8:=.int .i64 P.zU) Z5);unfold Ew at S6 cy Z6;obtain⟨d0,d1,d2,d3,d4,d5,d6,d7,d8⟩:=AD Z5;have fz:=AK Z5;clear S4 S5 bk b9 Z4 Z5 g9 hD hW N4 c0 c1 c2 c3 c4 c5 c6 c7 c8;go_wp2_with fail;exact yk (v:=.tuple #[.agg #[_,_,_,_,_,_,_,_,_],.int .i64 x2]) (by simp[results,Tryz.results16,go_sem,AD Z6.out]) rfl ⟨_,_,_,_,_,_,_,P,x2,rfl,S6.out.rd,hP,cy.out⟩
end Go.Proofs.YtpdjjjdkhedibaaGreatDoor
