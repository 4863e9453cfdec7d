/-
  Packed:1 texts.
-/
import Derived.Test.YtpdjjjdkhedibaaGreatDoorY4
import Derived.Test.YtpdjjjdkhedibaaGreatDoorY3
set_option linter.unusedVariables false
set_option linter.unusedSimpArgs false
set_option maxHeartbeats 16000000
set_option maxRecDepth 100000
open Go Go.Proofs.YtpdjjjdkhedibaaGreatDoor
open Int renaming toNat_natCast->yd
namespace Go.Proofs.YtpdjjjdkhedibaaGreatDoor
open Go.Proofs.Tryz
open Go.RowKit
theorem MS(N K J H V L O:Value)(P:AR)(w:World)(HW:Jy w N K J H V L O P)(z:Du P){A:Nat}(ha:A<64):
 Calls prog 26 #[AN N K J H V L O P.zR P.zU,.int .i64 A] w λr w'=>r=.returned (.int .i64 (Dx P A))/\Below w.heap.size w w':=by
 unfold AN;obtain⟨D,b0⟩:=Dd w (.cells #[N,K,J,H,V,L,O,.int .i64 P.zR,.int .i64 P.zU] 32);have h0:=HW.below b0;obtain⟨j,hj⟩:∃j,j=A/4:=⟨_,rfl⟩
 obtain⟨t,ht⟩:∃t,t=A%4:=⟨_,rfl⟩
 have q1:(A:Int)/4=(j:Int):=by omega
 have q2:(A:Int)%4=(t:Int):=by omega
 have al:j<16:=by omega
 have a0:t<4:=by omega
 have hA:BZ (A:Int) 0 63=true:=AZ.2 (by omega);have hW:Dx P A=(if(AC P.zY j).w=1 then As P.zV.mem (AC P.zY j).a.toNat t else if(AC P.zY j).w=2 then As P.swap (AC P.zY j).a.toNat t else 0):=by unfold Dx;rw[<-hj,<-ht]
 have C:=GF N K J H V L O P _ h0 (CQ z.k);rw[Ca.2 z] at C;unfold AN at C;have C:=AA C;have h:=AA hW;clear hW hj ht;obtain⟨x0,x1,x2,x3,x4,x5,x6,x7,x8⟩:=AD D;go_in;go_wp2_with fail;generalize w.alloc _=W0 at*;refine C.out.mono ?_;rintro r w1 ⟨rfl,b1⟩;go_wp2_with fail;refine(FJ _ _).mono ?_;rintro r w2 ⟨rfl,rfl⟩;rw[hA];have h1:=h0.below b1;have Y:=AA (b0.trans (b1.mono b0.size));have N1:=AB D b1;obtain⟨aq,cq,rfl,_,_,HQ⟩:=BK.open En (by decide) h1.2.2.2;obtain⟨bq,oq,rfl,bk,D0,D1,D2⟩:=HQ.zq (k:=j) (by rw[z.zO];exact al);have bf:(j:Int)<P.zY.length:=by rw[z.zO];omega
 have a3:=z.zY j al;obtain⟨am,cm,rfl,_,_,HM⟩:=h1.1.1.open;obtain⟨bm,bl,rfl,_,_,HS⟩:=h1.2.1.open;clear x0 x1 x2 x3 x4 x5 x6 x7 x8 C D HW h0 b0 b1 HQ;obtain⟨x0,x1,x2,x3,x4,x5,x6,x7,x8⟩:=AD N1;have Z:=AI w1 (.cells #[.int .i64 (AC P.zY j).w,.int .i64 (AC P.zY j).a,.bool (AC P.zY j).u] 43);have ai:=AW N1;have y0:=(Z.cell (p:=⟨w.heap.size,0,none⟩) ai).trans x0;have y4:=(Z.cell (p:=⟨w.heap.size,4,none⟩) ai).trans x4;have HF:=AA (Y.out.trans (Z.mono Y.out.size))
 rcases a3 with⟨hw,_⟩|⟨hw,⟨ha0,ha1⟩,_⟩|⟨hw,⟨ha0,ha1⟩,hne,hxu⟩
 focus
  have DD:=AA (show Dx P A=0 by rw[h.out,if_neg (by omega),if_neg (by omega)])
  rw[hw] at D0;clear HM HS z h hw
 rotate_left
 focus
  obtain⟨fr,hfr⟩:∃n:Nat,(AC P.zY j).a=(n:Int):=⟨(AC P.zY j).a.toNat,by omega⟩
  have av:fr<12:=by omega
  have DD:=AA (show Dx P A=As P.zV.mem fr t by rw[h.out,if_pos hw,hfr,yd]);obtain⟨b,ao,b2,ab,c2,rfl,X,N0,a6,E⟩:=HM.word (Ar z.k).1 av a0;have z1:=(Z.cell (p:=⟨b,ao+fr,none⟩) X).trans N0;have z2:=(Z.cell (p:=⟨b2,ab+t,none⟩) a6).trans E;have a4:(fr:Int)<P.zV.mem.length:=by have:=(Ai.1 (Ar z.k).1).1;omega
  have ar:(t:Int)<4:=by omega
  rw[hw] at D0;rw[hfr] at D1;rw[hw,hfr] at y0 y4 z1 z2;clear HM HS z h hw hfr N0 E
 rotate_left
 focus
  obtain⟨R,hsl⟩:∃n:Nat,(AC P.zY j).a=(n:Int):=⟨(AC P.zY j).a.toNat,by omega⟩
  have ac:R<16:=by omega
  have DD:=AA (show Dx P A=As P.swap R t by rw[h.out,if_neg (by omega),if_pos hw,hsl,yd]);rw[hsl,yd] at hne;have ae:Ds (AG P.swap R)=true:=(z.zv R ac).resolve_left hne;have a2:=(A4.1 ae).1;obtain⟨b,ao,u,rfl,X,N0,hr⟩:=HS R (by rw[z.zD];exact ac);obtain⟨au,cu,rfl,bi,_,HU⟩:=hr.open;obtain⟨b2,ab,rfl,E⟩:=HU.at (k:=t) (by omega);have z1:=(Z.cell (p:=⟨b,ao+R,none⟩) X).trans N0;have z2:=(Z.cell (World.block_lt_of_cell? _ _ E)).trans E;have a4:(R:Int)<P.swap.length:=by rw[z.zD];omega
  have ar:(t:Int)<(AG P.swap R).length:=by rw[a2];omega
  have e2:nth (AG P.swap R) t=As P.swap R t:=rfl;rw[e2] at z2;rw[hw] at D0;rw[hsl] at D1;rw[hw,hsl] at y0 y4 z1 z2;clear HM HS z h hw hsl N0 E hr HU ae hne e2 hxu
 rotate_left
 all_goals
  go_wp2_with fail;go_ret;exact⟨Ch DD.out.symm,Y.out.trans ((AI w1 _).mono Y.out.size)⟩
def D8(P:AR)(k:Nat):List Int:=(List.range k).map (Dx P)
theorem JC{P:AR}{k:Nat}:(D8 P k).length=k:=by simp[D8]
theorem Ub{P:AR}{k:Nat}:D8 P (k+1)=D8 P k++[Dx P k]:=by simp[D8,List.range_succ]
theorem MN(N K J H V L O:Value)(P:AR)(w:World)(HW:Jy w N K J H V L O P)(z:Du P):
 Calls prog 20 #[AN N K J H V L O P.zR P.zU] w λr w'=>∃v',r=.returned v'/\AF w.heap.size w' v' (D8 P 64)/\Below w.heap.size w w':=by
 unfold AN;obtain⟨D,b0⟩:=Dd w (.cells #[N,K,J,H,V,L,O,.int .i64 P.zR,.int .i64 P.zU] 32);have h0:=HW.below b0;have a1:(w.alloc (.cells #[N,K,J,H,V,L,O,.int .i64 P.zR,.int .i64 P.zU] 32)).heap.size=w.heap.size+1:=by simp
 go_in;go_wp2_with fail;generalize w.alloc _=W0 at*;rw[<-a1];have bA:=AI W0 (.cells #[] 3);have o1:=FF W0;have HN:=AA D;have Y:=AA b0;have CW:=AA (λW (hW:Below W0.heap.size W0 W) (k:Nat) (hk:k<64)=>MS N K J H V L O P W (h0.below hW) z hk);generalize W0.alloc (.cells #[] 3)=wa at o1 bA ⊢;generalize(Value.slice (some ⟨W0.heap.size,0,none⟩) 0 0)=o at o1 ⊢;unfold AN at CW;clear HW h0 D z b0;go_loopw [3,4] (λo i wr=>∃k:Nat,k<=64/\i=.int .i64 k/\AF W0.heap.size wr o (D8 P k)/\Below W0.heap.size W0 wr) (λ_ i _=>64 - (intOf i).toNat)
 exact⟨0,Nat.zero_le _,rfl,o1,bA⟩
 clear o1 bA;obtain⟨k,hk,rfl,hO,X⟩:=hrel;have HO:=AA hO;obtain⟨oa,oc,rfl,_,_,_⟩:=hO.rd.open;rw[JC] at HO ⊢;clear hO
 by_cases a5:k<64
 .obtain⟨x0,x1,x2,x3,x4,x5,x6,x7,x8⟩:=AD (AB HN.out X)
  have be:(k:Int)<64:=by omega
  go_wp2_with fail;refine(CW.out _ X k a5).mono ?_;rintro r w1 ⟨rfl,b1⟩;have ax:=X.trans (b1.mono X.size);have b2:=AI w1 (.cells #[.int .i64 (Dx P k)] 3);have O2:=AF.below (AF.below HO.out b1) b2;have a7:(w1.alloc (.cells #[.int .i64 (Dx P k)] 3)).ownsRow W0.heap.size 3 1 (.slice oa k oc) k ((D8 P k).map (Value.int .i64)):=by have:=O2;unfold AF at this;rwa [JC] at this
  have L2:W0.heap.size<=(w1.alloc (.cells #[.int .i64 (Dx P k)] 3)).heap.size:=Nat.le_trans ax.size b2.size;have a8:=AA (ax.trans (b2.mono ax.size));clear x0 x1 x2 x3 x4 x5 x6 x7 x8 O2 b1 b2;go_wp2_with (at_builtin;go_must (refine Bg (lo:=W0.heap.size) (n:=k) (xs:=(D8 P k).map (Value.int .i64)) (m:=1) (news:=[.int .i64 (Dx P k)]) rfl rfl 3 (.int .i64 0) 1 8 underlying29 Tryz.zI rfl (by decide) rfl a7 rfl (Rd.zC _ #[_] _ 1 1 _ (by simp) rfl (by simp[maxLen])) (by simp[Value.oneCell']) (by unfold maxLen;omega) (by omega) L2 ?_;intro o' w5 az bb a9 ay));go_roundw;exact⟨k+1,by omega,by go_num,by rw[Ub];unfold AF;rw[List.map_append,List.length_append,JC];exact az,a8.out.trans ay⟩;simp[intOf];omega
 .obtain rfl:k=64:=by omega
  go_wp2_with fail;go_ret;exact⟨_,rfl,BU HO.out Y.out.size,Y.out.trans (X.mono Y.out.size)⟩
end Go.Proofs.YtpdjjjdkhedibaaGreatDoor
