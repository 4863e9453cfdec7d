/-
  Packed:1 texts.
-/
import Derived.Test.YtpdjjjdkhedibaaGreatDoorY1
import Derived.Test.YtpdjjjdkhedibaaGreatDoorY6
import Derived.Test.YtpdjjjdkhedibaaGreatDoorY5
set_option linter.unusedVariables false
set_option linter.unusedSimpArgs false
set_option maxHeartbeats 16000000
set_option maxRecDepth 100000
open Go Go.Proofs.YtpdjjjdkhedibaaGreatDoor
open Nat renaming le_refl->yv,lt_of_lt_of_le->xW
namespace Go.Proofs.YtpdjjjdkhedibaaGreatDoor
open Go.Proofs.Tryz
open Go.RowKit
theorem Rq(mv iv ev cv sv lv qv:Value)(P:AR)(a:Int)(w:World)(h:Jy w mv iv ev cv sv lv qv P)(hs:Dn P.zV)(aq:(BZ a 0 63&&BI P)=false):
 Calls prog 12 #[AN mv iv ev cv sv lv qv P.zR P.zU,.int .i64 a] w λr w'=>Vn r/\Below w.heap.size w w':=by
 unfold AN Vn AN;obtain⟨N0,N1,ai,ao⟩:=Jz w (.cells #[mv,iv,ev,cv,sv,lv,qv,.int .i64 P.zR,.int .i64 P.zU] 32) (.cells #[.slice none 0 0,.slice none 0 0,.slice none 0 0,.slice none 0 0,.slice none 0 0,.slice none 0 0,.slice none 0 0,.int .i64 0,.int .i64 0] 32);have h0:=h.below ai;obtain⟨x0,x1,x2,x3,x4,x5,x6,x7,x8⟩:=AD N0;have be:=AA ao;clear ao;go_in;go_wp2_with fail;generalize(w.alloc _).alloc _=W0 at*;have CV:=Ey mv iv ev cv sv lv qv P W0 h0 hs;unfold AN at CV;have au:=AA ai;have a9:=AA N1;generalize BI P=ok at*;clear h h0 ai N0 N1 x0 x1 x2 x3 x4 x5 x6 x7 x8;refine CV.mono ?_;rintro r w1 ⟨rfl,b1⟩;have Bw:=AA (au.out.trans (b1.mono au.out.size));clear CV;cases ok
 rotate_left
 focus
  go_wp2_with fail
  refine(Gf _ _).mono ?_;rintro r w2 ⟨rfl,rfl⟩;rw[show BZ a 0 63=false by simpa using aq]
 rotate_left
 all_goals
  clear aq
  have N1:=AB a9.out b1;have f1:=AK N1;obtain⟨a0,a1,a2,a3,a4,a5,a6,a7,a8⟩:=AD N1;have S2:=AA (EL N1 (Bw.out) (by omega));clear N1;go_wp2_with fail;clear a0 a1 a2 a3 a4 a5 a6 a7 a8 f1;obtain⟨N2,B2⟩:=S2.out;unfold Dy at N2 B2;exact bodyPost_ret (v:=.tuple #[.agg #[_,_,_,_,_,_,_,_,_],_,_]) (by simp[results,Tryz.results12,go_sem,AD N2]) rfl ⟨rfl,B2⟩
theorem bI(mv iv ev cv sv lv qv:Value)(P:AR)(n:Int)(w:World)(h:Jy w mv iv ev cv sv lv qv P)(hs:Dn P.zV):
 Calls prog 12 #[AN mv iv ev cv sv lv qv P.zR P.zU,.int .i64 n] w (bS w (Gg P n)):=by
 unfold Gg;cases hb:(BZ n 0 63&&BI P)
 .exact(Rq _ _ _ _ _ _ _ P n w h hs hb).mono λ_ w' ⟨h1,L⟩=>⟨_,_,_,_,_,_,_,h1,L3 w',L⟩
 .obtain⟨L,h1⟩:=Bool.and_eq_true_iff.1 hb
  obtain⟨h3,h4⟩:=AZ.1 L;obtain⟨a,rfl⟩:=Int.eq_ofNat_of_zero_le h3;exact(Lp _ _ _ _ _ _ _ P w h (Ca.1 h1) (a:=a) (by omega)).mono λ_ _ ⟨m,i,e,c,s,l,q,h1,L,h3⟩=>⟨m,i,e,c,s,l,q,h1,L.rd,h3⟩
def bM(w:World)(r:Ending)(w':World):Prop:=∃m i e c s l q P n,r=.returned (.tuple #[AN m i e c s l q P.zR P.zU,.int .i64 n])/\(∃lo,Nr lo w' m i e c s l q P)/\Oc P/\Below w.heap.size w w'
theorem Mw(v:Value)(bs:List Int)(w:World)(h:EP w v bs):
 Calls prog 27 #[v] w (bM w):=by
 obtain⟨B0,D⟩:=Dd w (.cells #[.slice none 0 0,.slice none 0 0,.slice none 0 0,.slice none 0 0,.slice none 0 0,.slice none 0 0,.slice none 0 0,.int .i64 0,.int .i64 0] 32);have hA:EP (w.alloc _) v bs:=⟨h.1.below D,h.2⟩;have ax:=AW B0;go_in;go_wp2_with fail;generalize w.alloc _=wa at*;refine(QH _ bs _ hA).mono ?_;rintro e w1 ⟨ma,rfl,hR,ad⟩;obtain⟨g,rfl,N⟩:=Dr.of hR ad;have az:wa.heap.size<=g:=N.2.2.1;have ar:=N.lt;go_wp2_with fail;refine(QI N (by decide)).mono ?_;rintro e w2 ⟨v2,rfl,⟨m,i,e2,v,s,l,q,P,rfl,S2,hP⟩,L,g2⟩;obtain⟨⟨⟨R,mn,mc,rfl⟩,⟨V,O,X,rfl⟩,⟨H,en,J,rfl⟩,⟨va,vn,vc,rfl⟩⟩,⟨sa,sn,sc,rfl⟩,⟨Y,K,Z,rfl⟩,⟨qa,qn,qc,rfl⟩⟩:=S2.zQ;unfold AN;have Z2:=(g2.block w.heap.size (xW ax ad.size) (by simp;omega)).trans (AB B0 ad);have am:=AM (D.trans (ad.mono D.size)) g2 (Nat.le_trans D.size az) (Nat.le_trans D.size ad.size);obtain⟨NK,bK⟩:=Dd w2 (.cells #[.slice R mn mc,.slice V O X,.slice H en J,.slice va vn vc,.slice sa sn sc,.slice Y K Z,.slice qa qn qc,.int .i64 P.zR,.int .i64 P.zU] 32);have h3:=L.below bK;have S3:=S2.map (Jv bK (yv _));have Z3:=AB Z2 bK;have av:=am.trans (bK.mono am.size);have bb:g<w2.heap.size:=xW ar g2.size;clear S2 L Z2 am bK hR N hA B0 h D g2 ad;go_wp2_with fail;generalize w2.alloc _=w3 at*;generalize w2.heap.size=b at*;have h4:=h3;have S4:=S3;have Z4:=Z3;have al:=av;have N4:=NK;generalize w3=w4 at*;clear h3 S3 Z3 av NK;have ay:=AW Z4;obtain⟨c0,c1,c2,c3,c4,c5,c6,c7,c8⟩:=AD N4;have E:=AW N4;go_wp2_with fail;refine FI 3 13 2 1 [2] [.a #[.slice R mn mc,.slice V O X,.slice H en J,.slice va vn vc,.slice sa sn sc,.slice Y K Z,.slice qa qn qc,.int .i64 P.zR,.int .i64 P.zU],.p g 0,.z] (λix vv ww=>match ix with
  |2=>∃x:Int,vv=.int .i64 x
  |_=>True) h4 ?_ ?_
 .intro i hi o ho a wx Hb Hd ll HL hG z ln HQ HK
  match i,hi with
  |0,_=>exact sL ho HK Hb Hd (hl:=Tz (gc z E (by omega) c0) (gc z E (by omega) c1) (gc z E (by omega) c2) (gc z E (by omega) c3) (gc z E (by omega) c4) (gc z E (by omega) c5) (gc z E (by omega) c6) (gc z E (by omega) c7) (gc z E (by omega) c8))
  |1,_=>exact sP ho HK Hb Hd
  |2,_=>exact cj ho HQ Hb Hd HL hG (λM hM N z=>Lh N (by omega))
 .intro vs wx hR N z
  have q0:(vs 0)=.agg #[.slice R mn mc,.slice V O X,.slice H en J,.slice va vn vc,.slice sa sn sc,.slice Y K Z,.slice qa qn qc,.int .i64 P.zR,.int .i64 P.zU]:=BS hR 0;have q2:∃x:Int,(vs 2)=.int .i64 x:=BS hR 2
  obtain⟨x2,q2⟩:=q2;clear hR;simp only[Ak,Ah,List.range,List.range.loop,List.foldl_cons,List.foldl_nil,q0,q2];simp;clear q0 q2;have A:=(z.block _ ay (by simp;omega)).trans Z4;have S5:=S4.map (GD z ar (yv _));have g9:=EY (w:=wx) (g:=w.heap.size) (b0:=.slice R mn mc) (b1:=.slice V O X) (b2:=.slice H en J) (b3:=.slice va vn vc) (b4:=.slice sa sn sc) (b5:=.slice Y K Z) (b6:=.slice qa qn qc) (b7:=.int .i64 P.zR) (b8:=.int .i64 P.zU);have S6:=AA (S5.map (KM g9 A (.inr rfl) (yv _)));have ac:=AM al z (by omega) al.size;have ae:=AA (AM ac g9 (by omega) ac.size);have Z6:=AA (F5 (b0:=.slice R mn mc) (b1:=.slice V O X) (b2:=.slice H en J) (b3:=.slice va vn vc) (b4:=.slice sa sn sc) (b5:=.slice Y K Z) (b6:=.slice qa qn qc) (b7:=.int .i64 P.zR) (b8:=.int .i64 P.zU) A);unfold Dy at S6 ae Z6;obtain⟨d0,d1,d2,d3,d4,d5,d6,d7,d8⟩:=AD A;have fz:=AK A;clear S4 S5 al ac Z4 A g9 N z N4 c0 c1 c2 c3 c4 c5 c6 c7 c8;go_wp2_with fail;exact bodyPost_ret (v:=.tuple #[.agg #[_,_,_,_,_,_,_,_,_],.int .i64 x2]) (by simp[results,Tryz.results27,go_sem,AD Z6.out]) rfl ⟨_,_,_,_,_,_,_,P,x2,rfl,⟨_,S6.out⟩,hP,ae.out⟩
theorem J3(v:Value)(bs:List Int)(w:World)(h:EP w v bs):
 Calls prog 10 #[v] w (Z9 w):=by
 obtain⟨B0,D⟩:=Dd w (.cells #[.slice none 0 0,.slice none 0 0,.slice none 0 0,.slice none 0 0,.slice none 0 0,.slice none 0 0,.slice none 0 0,.int .i64 0,.int .i64 0] 32);have hA:EP (w.alloc _) v bs:=⟨h.1.below D,h.2⟩;go_in;go_wp2_with fail;generalize w.alloc _=wa at*;refine(Mw _ bs _ hA).mono ?_;rintro e w1 ⟨m,i,e,v,s,l,q,P,n,rfl,⟨lo,S⟩,hP,b1⟩;obtain⟨⟨⟨R,mn,mc,rfl⟩,⟨V,O,X,rfl⟩,⟨H,en,J,rfl⟩,⟨va,vn,vc,rfl⟩⟩,⟨sa,sn,sc,rfl⟩,⟨Y,K,Z,rfl⟩,⟨qa,qn,qc,rfl⟩⟩:=S.zQ;unfold AN;have A:=AB B0 b1;have ac:=D.trans (b1.mono D.size);have g9:=EY (w:=w1) (g:=w.heap.size) (b0:=.slice R mn mc) (b1:=.slice V O X) (b2:=.slice H en J) (b3:=.slice va vn vc) (b4:=.slice sa sn sc) (b5:=.slice Y K Z) (b6:=.slice qa qn qc) (b7:=.int .i64 P.zR) (b8:=.int .i64 P.zU);have S6:=AA (S.map (KM g9 A (.inr rfl) (yv _)));have ae:=AA (AM ac g9 (by omega) ac.size);have Z6:=AA (F5 (b0:=.slice R mn mc) (b1:=.slice V O X) (b2:=.slice H en J) (b3:=.slice va vn vc) (b4:=.slice sa sn sc) (b5:=.slice Y K Z) (b6:=.slice qa qn qc) (b7:=.int .i64 P.zR) (b8:=.int .i64 P.zU) A);unfold Dy at S6 ae Z6;obtain⟨d0,d1,d2,d3,d4,d5,d6,d7,d8⟩:=AD A;have fz:=AK A;clear S ac A g9 hA h B0 D b1;go_wp2_with fail;exact bodyPost_ret (v:=.tuple #[.agg #[_,_,_,_,_,_,_,_,_],.int .i64 n]) (by simp[results,Tryz.results10,go_sem,AD Z6.out]) rfl ⟨_,_,_,_,_,_,_,P,n,rfl,S6.out.rd,hP,ae.out⟩
end Go.Proofs.YtpdjjjdkhedibaaGreatDoor
