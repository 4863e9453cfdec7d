/-
  Packed:1 texts.
-/
import Derived.Test.YtaopbdankjkfpaaGreatDoorY3
set_option linter.unusedVariables false
set_option linter.unusedSimpArgs false
set_option maxHeartbeats 16000000
set_option maxRecDepth 100000
open Go Go.Proofs.YtaopbdankjkfpaaGreatDoor
namespace Go.Proofs.YtaopbdankjkfpaaGreatDoor
open Go.Proofs.Tryz
open Go.RowKit
theorem Pz(m i e c:Value)(k:AN)(z:AU)(w:World)(O5:Le w m i e c k)(V:DP k)(he:0<=z.e)(hn:z.e<3)(ai:z.nm.size<=maxLen)(al:z.c<=9223372036854775807):
 Calls prog 9 #[.agg #[m,i,e,c],.agg #[.int .i64 z.k,.int .i64 z.e,.int .i64 z.a,.int .i64 z.b,.int .i64 z.c,.string z.nm]] w (Hy w (Ae k z)):=by
 unfold Hy;have D:=λW (K:Le W m i e c k)=>KS m i e c k W K (Cc V)
 rw[EZ.2 V] at D;have D:=AA D;have A:=λW (K:Le W m i e c k)=>QI m i e c k z W K V he hn ai al
 unfold Hy at A;have hE:Bh z.e 0 2=true:=AZ.2 (by omega);have ae:=Ll V (c:=z) (by omega);generalize Ae k z=res at A ae ⊢;have A:=AA A;have HO:=AA (λm i e c W (K:Le W m i e c res.1)=>Po m i e c res.1 W K ae);obtain⟨ck,ce,ca,cb,cc,nm⟩:=z;dsimp only at*;obtain⟨X,Y,B2,H,aq⟩:=FY w (.cells #[m,i,e,c] 28) (.cells #[.int .i64 ck,.int .i64 ce,.int .i64 ca,.int .i64 cb,.int .i64 cc,.string nm] 34) (.cells #[.slice none 0 0,.slice none 0 0,.slice none 0 0,.slice none 0 0] 28);have h0:=O5.below H;obtain⟨L,N,O,R⟩:=AE X;go_in;go_wp2_with fail;generalize((w.alloc _).alloc _).alloc _=W0 at*;have am:=AA H;refine(D.out W0 h0).mono ?_;rintro r w1 ⟨rfl,b1⟩;clear L N O R;obtain⟨_,y1,_⟩:=Dd (AB Y b1);go_wp2_with fail;refine(MO _ _).mono ?_;rintro r w2 ⟨rfl,rfl⟩;rw[hE];clear y1;obtain⟨L,N,O,R⟩:=AE (AB X b1);obtain⟨y0,y1,y2,y3,y4,y5⟩:=Dd (AB Y b1);have C1:=A.out _ (h0.below b1);clear D A hE;go_wp2_with fail;refine C1.mono ?_;rintro r w3 ⟨m3,i3,e3,c3,rfl,Z,b3⟩;clear L N O R y0 y1 y2 y3 y4 y5 C1;obtain⟨⟨ma,mn,mc,rfl⟩,⟨ia,iN,ic,rfl⟩,⟨ea,en,ec,rfl⟩,⟨qa,qn,qc,rfl⟩⟩:=Z.Ex;obtain⟨N4,b4⟩:=EH w3 (.cells #[.slice ma mn mc,.slice ia iN ic,.slice ea en ec,.slice qa qn qc] 28);have C2:=HO.out _ _ _ _ _ (Z.below b4).rd;obtain⟨L,N,O,R⟩:=AE N4;have ad:=b1.trans ((b3.trans (b4.mono b3.size)).mono b1.size);have Z4:=AB B2 ad;have J:=AA (H.trans (ad.mono H.size));clear Z b3 b4 N4 X Y B2 h0 H b1 ad HO;go_wp2_with fail;generalize w3.alloc _=w4 at*;refine C2.mono ?_;rintro r w5 ⟨m5,i5,e5,c5,rfl,h,b5⟩;clear L N O R C2;obtain⟨⟨va,vn,vc,rfl⟩,⟨wa,wn,wc,rfl⟩,⟨xa,xn,xc,rfl⟩,⟨ya,yn,yc,rfl⟩⟩:=h.Ex;have E:=AB Z4 b5;obtain⟨z0,z1,z2,z3⟩:=AE E;have fz:=AK E;have ao:=AW Z4;have gr:=Aq w5 (w.heap.size+1+1) (.slice va vn vc) (.slice wa wn wc) (.slice xa xn xc) (.slice ya yn yc);have S5:=Cw (m':=.slice va vn vc) (i':=.slice wa wn wc) (e':=.slice xa xn xc) (c':=.slice ya yn yc) E;have O6:=AA ((h.yW gr E).lower (lo':=w.heap.size) (by have:=J.out.size;omega));have B6:=AA (AM (J.out.trans (b5.mono J.out.size)) gr (by omega) (by have:=J.out.size;have:=b5.size;omega));have HS:=AA S5;clear Z4 E S5 h b5 gr J;go_wp2_with fail;exact bodyPost_ret (v:=.tuple #[.agg #[_,_,_,_],.int .i64 res.2.1,.int .i64 res.2.2]) (by simp[results,Tryz.results9,go_sem,AE HS.out]) rfl ⟨_,_,_,_,rfl,O6.out,B6.out⟩
end Go.Proofs.YtaopbdankjkfpaaGreatDoor
