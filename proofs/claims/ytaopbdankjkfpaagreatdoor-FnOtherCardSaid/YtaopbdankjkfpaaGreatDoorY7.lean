/-
  Packed:1 texts.
-/
import Derived.Test.YtaopbdankjkfpaaGreatDoorY4
import Derived.Test.YtaopbdankjkfpaaGreatDoorY3
set_option linter.unusedVariables false
set_option linter.unusedSimpArgs false
set_option maxHeartbeats 16000000
set_option maxRecDepth 100000
open Go Go.Proofs.YtaopbdankjkfpaaGreatDoor
open Int renaming toNat_natCast->yq
namespace Go.Proofs.YtaopbdankjkfpaaGreatDoor
open Go.Proofs.Tryz
open Go.RowKit
theorem Rl(N K J H V L O:Value)(P:AR)(w:World)(HW:KR w N K J H V L O P)(z:Ec P){A:Nat}(ha:A<64):
 Calls prog 38 #[AQ N K J H V L O P.Il P.UQ,.int .i64 A] w λr w'=>r=.returned (.int .i64 (EL P A))/\Below w.heap.size w w':=by
 unfold AQ;obtain⟨D,b0⟩:=EH w (.cells #[N,K,J,H,V,L,O,.int .i64 P.Il,.int .i64 P.UQ] 32);have h0:=HW.below b0;obtain⟨j,hj⟩:∃j,j=A/4:=⟨_,rfl⟩
 obtain⟨t,ht⟩:∃t,t=A%4:=⟨_,rfl⟩
 have q1:(A:Int)/4=(j:Int):=by omega
 have q2:(A:Int)%4=(t:Int):=by omega
 have al:j<16:=by omega
 have a0:t<4:=by omega
 have hA:Bh (A:Int) 0 63=true:=AZ.2 (by omega);have hW:EL P A=(if(AC P.Xx j).w=1 then Au P.Vw.mem (AC P.Xx j).a.toNat t else if(AC P.Xx j).w=2 then Au P.swap (AC P.Xx j).a.toNat t else 0):=by unfold EL;rw[<-hj,<-ht]
 have C:=IG N K J H V L O P _ h0 (Cc z.k);rw[EP.2 z] at C;unfold AQ at C;have C:=AA C;have h:=AA hW;clear hW hj ht;obtain⟨x0,x1,x2,x3,x4,x5,x6,x7,x8⟩:=AD D;go_in;go_wp2_with fail;generalize w.alloc _=W0 at*;refine C.out.mono ?_;rintro r w1 ⟨rfl,b1⟩;go_wp2_with fail;refine(KL _ _).mono ?_;rintro r w2 ⟨rfl,rfl⟩;rw[hA];have h1:=h0.below b1;have Y:=AA (b0.trans (b1.mono b0.size));have N1:=AB D b1;obtain⟨aq,cq,rfl,_,_,HQ⟩:=BG.open Es (by decide) h1.2.2.2;obtain⟨bq,oq,rfl,bk,D0,D1,D2⟩:=HQ.zC (k:=j) (by rw[z.zZ];exact al);have bf:(j:Int)<P.Xx.length:=by rw[z.zZ];omega
 have a3:=z.Xx j al;obtain⟨am,cm,rfl,_,_,HM⟩:=h1.1.1.open;obtain⟨bm,bl,rfl,_,_,HS⟩:=h1.2.1.open;clear x0 x1 x2 x3 x4 x5 x6 x7 x8 C D HW h0 b0 b1 HQ;obtain⟨x0,x1,x2,x3,x4,x5,x6,x7,x8⟩:=AD N1;have Z:=AJ w1 (.cells #[.int .i64 (AC P.Xx j).w,.int .i64 (AC P.Xx j).a,.bool (AC P.Xx j).u] 74);have ai:=AW N1;have y0:=(Z.cell (p:=⟨w.heap.size,0,none⟩) ai).trans x0;have y4:=(Z.cell (p:=⟨w.heap.size,4,none⟩) ai).trans x4;have HF:=AA (Y.out.trans (Z.mono Y.out.size))
 rcases a3 with⟨hw,_⟩|⟨hw,⟨ha0,ha1⟩,_⟩|⟨hw,⟨ha0,ha1⟩,hne,hxu⟩
 focus
  have DD:=AA (show EL P A=0 by rw[h.out,if_neg (by omega),if_neg (by omega)])
  rw[hw] at D0;clear HM HS z h hw
 rotate_left
 focus
  obtain⟨fr,hfr⟩:∃n:Nat,(AC P.Xx j).a=(n:Int):=⟨(AC P.Xx j).a.toNat,by omega⟩
  have av:fr<12:=by omega
  have DD:=AA (show EL P A=Au P.Vw.mem fr t by rw[h.out,if_pos hw,hfr,yq]);obtain⟨b,ao,b2,ab,c2,rfl,X,N0,a6,E⟩:=HM.word (Am z.k).1 av a0;have z1:=(Z.cell (p:=⟨b,ao+fr,none⟩) X).trans N0;have z2:=(Z.cell (p:=⟨b2,ab+t,none⟩) a6).trans E;have a4:(fr:Int)<P.Vw.mem.length:=by have:=(Ah.1 (Am z.k).1).1;omega
  have ar:(t:Int)<4:=by omega
  rw[hw] at D0;rw[hfr] at D1;rw[hw,hfr] at y0 y4 z1 z2;clear HM HS z h hw hfr N0 E
 rotate_left
 focus
  obtain⟨R,hsl⟩:∃n:Nat,(AC P.Xx j).a=(n:Int):=⟨(AC P.Xx j).a.toNat,by omega⟩
  have ac:R<16:=by omega
  have DD:=AA (show EL P A=Au P.swap R t by rw[h.out,if_neg (by omega),if_pos hw,hsl,yq]);rw[hsl,yq] at hne;have ae:D8 (AH P.swap R)=true:=(z.zG R ac).resolve_left hne;have a2:=(A6.1 ae).1;obtain⟨b,ao,u,rfl,X,N0,hr⟩:=HS R (by rw[z.zO];exact ac);obtain⟨au,cu,rfl,bi,_,HU⟩:=hr.open;obtain⟨b2,ab,rfl,E⟩:=HU.at (k:=t) (by omega);have z1:=(Z.cell (p:=⟨b,ao+R,none⟩) X).trans N0;have z2:=(Z.cell (World.block_lt_of_cell? _ _ E)).trans E;have a4:(R:Int)<P.swap.length:=by rw[z.zO];omega
  have ar:(t:Int)<(AH P.swap R).length:=by rw[a2];omega
  have e2:nth (AH P.swap R) t=Au P.swap R t:=rfl;rw[e2] at z2;rw[hw] at D0;rw[hsl] at D1;rw[hw,hsl] at y0 y4 z1 z2;clear HM HS z h hw hsl N0 E hr HU ae hne e2 hxu
 rotate_left
 all_goals
  go_wp2_with fail;go_ret;exact⟨Cl DD.out.symm,Y.out.trans ((AJ w1 _).mono Y.out.size)⟩
def GC(P:AR)(k:Nat):List Int:=(List.range k).map (EL P)
theorem ME{P:AR}{k:Nat}:(GC P k).length=k:=by simp[GC]
theorem Uk{P:AR}{k:Nat}:GC P (k+1)=GC P k++[EL P k]:=by simp[GC,List.range_succ]
theorem TZ(N K J H V L O:Value)(P:AR)(w:World)(HW:KR w N K J H V L O P)(z:Ec P):
 Calls prog 13 #[AQ N K J H V L O P.Il P.UQ] w λr w'=>∃v',r=.returned v'/\AG w.heap.size w' v' (GC P 64)/\Below w.heap.size w w':=by
 unfold AQ;obtain⟨D,b0⟩:=EH w (.cells #[N,K,J,H,V,L,O,.int .i64 P.Il,.int .i64 P.UQ] 32);have h0:=HW.below b0;have a1:(w.alloc (.cells #[N,K,J,H,V,L,O,.int .i64 P.Il,.int .i64 P.UQ] 32)).heap.size=w.heap.size+1:=by simp
 go_in;go_wp2_with fail;generalize w.alloc _=W0 at*;rw[<-a1];have bA:=AJ W0 (.cells #[] 3);have o1:=FU W0;have HN:=AA D;have Y:=AA b0;have CW:=AA (λW (hW:Below W0.heap.size W0 W) (k:Nat) (hk:k<64)=>Rl N K J H V L O P W (h0.below hW) z hk);generalize W0.alloc (.cells #[] 3)=wa at o1 bA ⊢;generalize(Value.slice (some ⟨W0.heap.size,0,none⟩) 0 0)=o at o1 ⊢;unfold AQ at CW;clear HW h0 D z b0;go_loopw [3,4] (λo i wr=>∃k:Nat,k<=64/\i=.int .i64 k/\AG W0.heap.size wr o (GC P k)/\Below W0.heap.size W0 wr) (λ_ i _=>64 - (intOf i).toNat)
 exact⟨0,Nat.zero_le _,rfl,o1,bA⟩
 clear o1 bA;obtain⟨k,hk,rfl,hO,X⟩:=hrel;have HO:=AA hO;obtain⟨oa,oc,rfl,_,_,_⟩:=hO.rd.open;rw[ME] at HO ⊢;clear hO
 by_cases a5:k<64
 .obtain⟨x0,x1,x2,x3,x4,x5,x6,x7,x8⟩:=AD (AB HN.out X)
  have be:(k:Int)<64:=by omega
  go_wp2_with fail;refine(CW.out _ X k a5).mono ?_;rintro r w1 ⟨rfl,b1⟩;have ax:=X.trans (b1.mono X.size);have b2:=AJ w1 (.cells #[.int .i64 (EL P k)] 3);have O2:=AG.below (AG.below HO.out b1) b2;have a7:(w1.alloc (.cells #[.int .i64 (EL P k)] 3)).ownsRow W0.heap.size 3 1 (.slice oa k oc) k ((GC P k).map (Value.int .i64)):=by have:=O2;unfold AG at this;rwa [ME] at this
  have L2:W0.heap.size<=(w1.alloc (.cells #[.int .i64 (EL P k)] 3)).heap.size:=Nat.le_trans ax.size b2.size;have a8:=AA (ax.trans (b2.mono ax.size));clear x0 x1 x2 x3 x4 x5 x6 x7 x8 O2 b1 b2;go_wp2_with (at_builtin;go_must (refine Bm (lo:=W0.heap.size) (n:=k) (xs:=(GC P k).map (Value.int .i64)) (m:=1) (news:=[.int .i64 (EL P k)]) rfl rfl 3 (.int .i64 0) 1 8 underlying29 Tryz.zT rfl (by decide) rfl a7 rfl (Rd.zN _ #[_] _ 1 1 _ (by simp) rfl (by simp[maxLen])) (by simp[Value.oneCell']) (by unfold maxLen;omega) (by omega) L2 ?_;intro o' w5 az bb a9 ay));go_roundw;exact⟨k+1,by omega,by go_num,by rw[Uk];unfold AG;rw[List.map_append,List.length_append,ME];exact az,a8.out.trans ay⟩;simp[intOf];omega
 .obtain rfl:k=64:=by omega
  go_wp2_with fail;go_ret;exact⟨_,rfl,BZ HO.out Y.out.size,Y.out.trans (X.mono Y.out.size)⟩
end Go.Proofs.YtaopbdankjkfpaaGreatDoor
