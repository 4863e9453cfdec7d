/-
  Packed:1 texts.
-/
import Derived.Test.YtpdjjjdkhedibaaGreatDoorY9
import Derived.Test.YtpdjjjdkhedibaaGreatDoorY11
import Derived.Test.YtpdjjjdkhedibaaGreatDoorY7
import Derived.Test.YtpdjjjdkhedibaaGreatDoorY6
set_option linter.unusedVariables false
set_option linter.unusedSimpArgs false
set_option maxHeartbeats 16000000
set_option maxRecDepth 100000
open Go Go.Proofs.YtpdjjjdkhedibaaGreatDoor
open Int renaming toNat_natCast->yb
namespace Go.Proofs.YtpdjjjdkhedibaaGreatDoor
open Go.Proofs.Tryz
open Go.RowKit
theorem Qn(mv iv ev cv sv lv qv:Value)(P:AR)(w:World)(h:Kx w mv iv ev cv sv lv qv P)(hP:ED P){ad:Nat}(ha:ad<64):
 Calls prog 26 #[AO mv iv ev cv sv lv qv P.zR P.zU,.int .i64 ad] w λr w'=>r=.returned (.int .i64 (Dy P ad))/\Below w.heap.size w w':=by
 unfold AO;have N0:=heap_alloc_new w (.cells #[mv,iv,ev,cv,sv,lv,qv,.int .i64 P.zR,.int .i64 P.zU] 32);have b0:=AE w (.cells #[mv,iv,ev,cv,sv,lv,qv,.int .i64 P.zR,.int .i64 P.zU] 32);have h0:=h.below b0;obtain⟨j,hj⟩:∃j,j=ad/4:=⟨_,rfl⟩
 obtain⟨t,ht⟩:∃t,t=ad%4:=⟨_,rfl⟩
 have q1:(ad:Int)/4=(j:Int):=by omega
 have q2:(ad:Int)%4=(t:Int):=by omega
 have al:j<16:=by omega
 have a0:t<4:=by omega
 have hA:Be (ad:Int) 0 63=true:=Ab.2 (by omega);have hW:Dy P ad=(if(AB P.zY j).w=1 then Ar P.zV.mem (AB P.zY j).a.toNat t else if(AB P.zY j).w=2 then Ar P.swap (AB P.zY j).a.toNat t else 0):=by unfold Dy;rw[<-hj,<-ht]
 have C:=G0 mv iv ev cv sv lv qv P _ h0 (Ce hP.k);rw[Dl.2 hP] at C;unfold AO at C;have C:=AA C;have HW:=AA hW;clear hW hj ht;obtain⟨x0,x1,x2,x3,x4,x5,x6,x7,x8⟩:=AD N0;go_in;go_wp2_with fail;generalize w.alloc _=W0 at*;refine C.out.mono ?_;rintro r w1 ⟨rfl,b1⟩;go_wp2_with fail;refine(MA _ _).mono ?_;rintro r w2 ⟨rfl,rfl⟩;rw[hA];have h1:=h0.below b1;have HB:=AA (b0.trans (b1.mono b0.size));have N1:=AC N0 b1;obtain⟨aq,cq,rfl,_,_,HQ⟩:=BD.open DT (by decide) h1.2.2.2;obtain⟨bq,oq,rfl,bk,D0,D1,D2⟩:=HQ.zq (k:=j) (by rw[hP.zO];exact al);have bf:(j:Int)<P.zY.length:=by rw[hP.zO];omega
 have a3:=hP.zY j al;obtain⟨am,cm,rfl,_,_,HM⟩:=h1.1.1.open;obtain⟨bm,bl,rfl,_,_,HS⟩:=h1.2.1.open;clear x0 x1 x2 x3 x4 x5 x6 x7 x8 C N0 h h0 b0 b1 HQ;obtain⟨x0,x1,x2,x3,x4,x5,x6,x7,x8⟩:=AD N1;have bN:=AE w1 (.cells #[.int .i64 (AB P.zY j).w,.int .i64 (AB P.zY j).a,.bool (AB P.zY j).u] 43);have ai:=AW N1;have y0:=(bN.cell (p:=⟨w.heap.size,0,none⟩) ai).trans x0;have y4:=(bN.cell (p:=⟨w.heap.size,4,none⟩) ai).trans x4;have HF:=AA (HB.out.trans (bN.mono HB.out.size))
 rcases a3 with⟨hw,_⟩|⟨hw,⟨ha0,ha1⟩,_⟩|⟨hw,⟨ha0,ha1⟩,hne,hxu⟩
 focus
  have E:=AA (show Dy P ad=0 by rw[HW.out,if_neg (by omega),if_neg (by omega)])
  rw[hw] at D0;clear HM HS hP HW hw
 rotate_left
 focus
  obtain⟨fr,hfr⟩:∃n:Nat,(AB P.zY j).a=(n:Int):=⟨(AB P.zY j).a.toNat,by omega⟩
  have av:fr<12:=by omega
  have E:=AA (show Dy P ad=Ar P.zV.mem fr t by rw[HW.out,if_pos hw,hfr,yb]);obtain⟨b,ao,b2,ab,c2,rfl,hb,D,a6,DD⟩:=HM.word (At hP.k).1 av a0;have z1:=(bN.cell (p:=⟨b,ao+fr,none⟩) hb).trans D;have z2:=(bN.cell (p:=⟨b2,ab+t,none⟩) a6).trans DD;have a4:(fr:Int)<P.zV.mem.length:=by have:=(Ai.1 (At hP.k).1).1;omega
  have ar:(t:Int)<4:=by omega
  rw[hw] at D0;rw[hfr] at D1;rw[hw,hfr] at y0 y4 z1 z2;clear HM HS hP HW hw hfr D DD
 rotate_left
 focus
  obtain⟨sl,hsl⟩:∃n:Nat,(AB P.zY j).a=(n:Int):=⟨(AB P.zY j).a.toNat,by omega⟩
  have ac:sl<16:=by omega
  have E:=AA (show Dy P ad=Ar P.swap sl t by rw[HW.out,if_neg (by omega),if_pos hw,hsl,yb]);rw[hsl,yb] at hne;have ae:Di (AH P.swap sl)=true:=(hP.zv sl ac).resolve_left hne;have a2:=(A3.1 ae).1;obtain⟨b,ao,u,rfl,hb,D,hr⟩:=HS sl (by rw[hP.zD];exact ac);obtain⟨au,cu,rfl,bi,_,HU⟩:=hr.open;obtain⟨b2,ab,rfl,DD⟩:=HU.at (k:=t) (by omega);have z1:=(bN.cell (p:=⟨b,ao+sl,none⟩) hb).trans D;have z2:=(bN.cell (World.block_lt_of_cell? _ _ DD)).trans DD;have a4:(sl:Int)<P.swap.length:=by rw[hP.zD];omega
  have ar:(t:Int)<(AH P.swap sl).length:=by rw[a2];omega
  have e2:nth (AH P.swap sl) t=Ar P.swap sl t:=rfl;rw[e2] at z2;rw[hw] at D0;rw[hsl] at D1;rw[hw,hsl] at y0 y4 z1 z2;clear HM HS hP HW hw hsl D DD hr HU ae hne e2 hxu
 rotate_left
 all_goals
  go_wp2_with fail;go_ret;exact⟨Cb E.out.symm,HB.out.trans ((AE w1 _).mono HB.out.size)⟩
def Ff(P:AR)(k:Nat):List Int:=(List.range k).map (Dy P)
theorem Ld{P:AR}{k:Nat}:(Ff P k).length=k:=by simp[Ff]
theorem Tw{P:AR}{k:Nat}:Ff P (k+1)=Ff P k++[Dy P k]:=by simp[Ff,List.range_succ]
theorem Sh(mv iv ev cv sv lv qv:Value)(P:AR)(w:World)(h:Kx w mv iv ev cv sv lv qv P)(hP:ED P):
 Calls prog 20 #[AO mv iv ev cv sv lv qv P.zR P.zU] w λr w'=>∃v',r=.returned v'/\AF w.heap.size w' v' (Ff P 64)/\Below w.heap.size w w':=by
 unfold AO;have N0:=heap_alloc_new w (.cells #[mv,iv,ev,cv,sv,lv,qv,.int .i64 P.zR,.int .i64 P.zU] 32);have b0:=AE w (.cells #[mv,iv,ev,cv,sv,lv,qv,.int .i64 P.zR,.int .i64 P.zU] 32);have h0:=h.below b0;have a1:(w.alloc (.cells #[mv,iv,ev,cv,sv,lv,qv,.int .i64 P.zR,.int .i64 P.zU] 32)).heap.size=w.heap.size+1:=by simp
 go_in;go_wp2_with fail;generalize w.alloc _=W0 at*;rw[<-a1];have bA:=AE W0 (.cells #[] 3);have o1:=Ev W0;have HN:=AA N0;have HB:=AA b0;have CW:=AA (λW (hW:Below W0.heap.size W0 W) (k:Nat) (hk:k<64)=>Qn mv iv ev cv sv lv qv P W (h0.below hW) hP hk);generalize W0.alloc (.cells #[] 3)=wa at o1 bA ⊢;generalize(Value.slice (some ⟨W0.heap.size,0,none⟩) 0 0)=o at o1 ⊢;unfold AO at CW;clear h h0 N0 hP b0;go_loopw [3,4] (λo i wr=>∃k:Nat,k<=64/\i=.int .i64 k/\AF W0.heap.size wr o (Ff P k)/\Below W0.heap.size W0 wr) (λ_ i _=>64 - (intOf i).toNat)
 case atStart=>exact⟨0,Nat.zero_le _,rfl,o1,bA⟩
 case round=>
  clear o1 bA;obtain⟨k,hk,rfl,hO,hb⟩:=hrel;have HO:=AA hO;obtain⟨oa,oc,rfl,_,_,_⟩:=hO.rd.open;rw[Ld] at HO ⊢;clear hO
  by_cases a5:k<64
  .obtain⟨x0,x1,x2,x3,x4,x5,x6,x7,x8⟩:=AD (AC HN.out hb)
   have be:(k:Int)<64:=by omega
   go_wp2_with fail;refine(CW.out _ hb k a5).mono ?_;rintro r w1 ⟨rfl,b1⟩;have ax:=hb.trans (b1.mono hb.size);have b2:=AE w1 (.cells #[.int .i64 (Dy P k)] 3);have O2:=AF.below (AF.below HO.out b1) b2;have a7:(w1.alloc (.cells #[.int .i64 (Dy P k)] 3)).ownsRow W0.heap.size 3 1 (.slice oa k oc) k ((Ff P k).map (Value.int .i64)):=by have:=O2;unfold AF at this;rwa [Ld] at this
   have L2:W0.heap.size<=(w1.alloc (.cells #[.int .i64 (Dy P k)] 3)).heap.size:=Nat.le_trans ax.size b2.size;have a8:=AA (ax.trans (b2.mono ax.size));clear x0 x1 x2 x3 x4 x5 x6 x7 x8 O2 b1 b2;go_wp2_with (at_builtin;go_must (refine Bc (lo:=W0.heap.size) (n:=k) (xs:=(Ff P k).map (Value.int .i64)) (m:=1) (news:=[.int .i64 (Dy P k)]) rfl rfl 3 (.int .i64 0) 1 8 underlying29 Tryz.zI rfl (by decide) rfl a7 rfl (Rd.zC _ #[_] _ 1 1 _ (by simp) rfl (by simp[maxLen])) (by simp[Value.oneCell']) (by unfold maxLen;omega) (by omega) L2 ?_;intro o' w5 az bb a9 ay));go_roundw
   case rel=>exact⟨k+1,by omega,by go_num,by rw[Tw];unfold AF;rw[List.map_append,List.length_append,Ld];exact az,a8.out.trans ay⟩
   case measure=>simp[intOf];omega
  .obtain rfl:k=64:=by omega
   go_wp2_with fail;go_ret;exact⟨_,rfl,BO HO.out HB.out.size,HB.out.trans (hb.mono HB.out.size)⟩
end Go.Proofs.YtpdjjjdkhedibaaGreatDoor
