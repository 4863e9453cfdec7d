/-
  Packed:1 texts.
-/
import Derived.Test.YtpdjjjdkhedibaaGreatDoorY9
set_option linter.unusedVariables false
set_option linter.unusedSimpArgs false
set_option maxHeartbeats 16000000
set_option maxRecDepth 100000
open Go Go.Proofs.YtpdjjjdkhedibaaGreatDoor
namespace Go.Proofs.YtpdjjjdkhedibaaGreatDoor
open Go.Proofs.Tryz
open Go.RowKit
theorem Mm(mv iv ev cv sv lv qv:Value)(P:AR)(w:World)(h:BD 3 Cw w qv P.zY)(hl:P.zY.length<=1048576):
 Calls prog 21 #[AO mv iv ev cv sv lv qv P.zR P.zU] w λr w'=>r=.returned (.int .i64 (Ac P.zY 1:Nat))/\Below w.heap.size w w':=by
 unfold AO;have N0:=heap_alloc_new w (.cells #[mv,iv,ev,cv,sv,lv,qv,.int .i64 P.zR,.int .i64 P.zU] 32);have ao:=AE w (.cells #[mv,iv,ev,cv,sv,lv,qv,.int .i64 P.zR,.int .i64 P.zU] 32);obtain⟨aq,cq,rfl,_,_,ar⟩:=BD.open DT (by decide) (BD.below h ao);obtain⟨_,_,_,_,_,_,x6,_,_⟩:=AD N0;clear h;go_in;go_wp2_with fail;generalize w.alloc _=W0 at*;have HQ:=AA ar;clear ar N0;go_loopw [3,4] (λn ix wr=>∃k:Nat,k<=P.zY.length/\ix=.int .i64 k/\n=.int .i64 (Ac (P.zY.take k) 1:Nat)/\W0=wr) (λn ix _=>P.zY.length - (intOf ix).toNat)
 case atStart=>exact⟨0,Nat.zero_le _,rfl,rfl,rfl⟩
 case round=>
  obtain⟨k,hk,rfl,rfl,rfl⟩:=hrel
  by_cases ab:k<P.zY.length
  .have ae:(k:Int)<P.zY.length:=by omega
   obtain⟨b,ac,rfl,_,D0,_,_⟩:=HQ.out.zq ab;have S:=AA (OH (wh:=1) ab);have al:=Ni (l:=P.zY.take k) (wh:=1);rw[List.length_take] at al;generalize Ac (P.zY.take k) 1=n0 at*
   by_cases hw:(AB P.zY k).w=1
   .have t0:((AB P.zY k).w==1)=true:=by simp[hw]
    rw[if_pos hw] at S;clear hw;go_wp2_with fail;go_roundw
    case rel=>exact⟨k+1,by omega,by go_num,by rw[S.out];go_num,by first|rfl|trivial⟩
    case measure=>simp[intOf];omega
   .have t0:((AB P.zY k).w==1)=false:=by simp[hw]
    rw[if_neg hw] at S;clear hw;go_wp2_with fail;go_roundw
    case rel=>exact⟨k+1,by omega,by go_num,by rw[S.out,Nat.add_zero],by first|rfl|trivial⟩
    case measure=>simp[intOf];omega
  .obtain rfl:k=P.zY.length:=by omega
   have ae:¬(P.zY.length:Int)<P.zY.length:=by omega
   rw[List.take_length];go_wp2_with fail;go_ret;exact⟨rfl,ao⟩
theorem Qq(v:Value)(l:List AU)(w:World)(h:BS w v l)(hl:l.length<=12):
 Calls prog 59 #[v] w λr w'=>r=.returned (.int .i64 (l.countP (λx=>decide (x.k=0)):Nat))/\Below w.heap.size w w':=by
 obtain⟨ai,ci,rfl,_,_,H0⟩:=BD.open Ay (by decide) h;have au:(l.length:Int)<=12:=by omega
 have HH:=AA H0;clear h H0;go_in;go_wp2_with fail;go_loopw [3,8] (λn ix wr=>∃k:Nat,k<=l.length/\ix=.int .i64 k/\n=.int .i64 ((l.take k).countP (λx=>decide (x.k=0)):Nat)/\Below w.heap.size w wr) (λn ix _=>l.length - (intOf ix).toNat)
 case atStart=>exact⟨0,Nat.zero_le _,rfl,rfl,Below.refl _ _⟩
 case round=>
  obtain⟨k,hk,rfl,rfl,hb⟩:=hrel
  by_cases ab:k<l.length
  .have ae:(k:Int)<l.length:=by omega
   obtain⟨b,ac,rfl,am,D0,D1,D2⟩:=HH.out.zP ab;have d0:=(hb.cell (p:=⟨b,ac+k*3,none⟩) am).trans D0;have d1:=(hb.cell (p:=⟨b,ac+k*3+1,none⟩) am).trans D1;have d2:=(hb.cell (p:=⟨b,ac+k*3+2,none⟩) am).trans D2;have S:=AA (PZ ab);have al:=List.countP_le_length (p:=λx:AU=>decide (x.k=0)) (l:=l.take k);rw[List.length_take] at al;generalize List.countP _ (l.take k)=n0 at*;have HB:=AA (λo=>hb.alloc hb.size o);clear D0 D1 D2
   by_cases hw:(zS l k).k=0
   .have t0:((zS l k).k==0)=true:=by simp[hw]
    rw[if_pos hw] at S;clear hw;go_wp2_with fail;go_roundw
    case rel=>exact⟨k+1,by omega,by go_num,by rw[S.out];go_num,HB.out _⟩
    case measure=>simp[intOf];omega
   .have t0:((zS l k).k==0)=false:=by simp[hw]
    rw[if_neg hw] at S;clear hw;go_wp2_with fail;go_roundw
    case rel=>exact⟨k+1,by omega,by go_num,by rw[S.out,Nat.add_zero],HB.out _⟩
    case measure=>simp[intOf];omega
  .obtain rfl:k=l.length:=by omega
   have ae:¬(l.length:Int)<l.length:=by omega
   rw[List.take_length];go_wp2_with fail;go_ret;exact⟨rfl,hb⟩
theorem LG(v:Value)(l:List AU)(w:World)(h:BS w v l)(ad:BI l=true):
 Calls prog 22 #[v] w λr w'=>r=.returned (.int .i64 (l.countP (λx=>decide (x.k=0)):Nat))/\Below w.heap.size w w':=by
 have CV:=Ek v l w h (CJ ad);rw[ad] at CV;have CV:=AA CV;have CF:=AA (λW (hW:Below w.heap.size w W)=>Qq v l W (BD.below h hW) (by have:=(Az.1 ad).1;omega));clear h ad;go_in;go_wp2_with fail;refine CV.out.mono ?_;rintro r w2 ⟨rfl,b2⟩;go_wp2_with fail;refine(CF.out _ b2).mono ?_;rintro r w3 ⟨rfl,b3⟩;go_wp2_with fail;go_ret;exact⟨rfl,b2.trans (b3.mono b2.size)⟩
end Go.Proofs.YtpdjjjdkhedibaaGreatDoor
