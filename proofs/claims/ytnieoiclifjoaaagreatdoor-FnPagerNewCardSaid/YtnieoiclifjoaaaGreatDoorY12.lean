/-
  Packed:4 texts.
-/
import Derived.Test.YtnieoiclifjoaaaGreatDoorY11
import Derived.Test.YtnieoiclifjoaaaGreatDoorY7
import Derived.Deep.DeepCutAuto
import Derived.Test.YtnieoiclifjoaaaGreatDoorY6
set_option linter.unusedVariables false
set_option maxHeartbeats 16000000
set_option maxRecDepth 100000
namespace Go.Proofs.YtnieoiclifjoaaaGreatDoor
open Go.Proofs.Tryz
open Go.RowKit
theorem Dm.rights {T:Nat} {cs:Array Value} {R:List Nat} {lo g b0:Nat} {w W W':World} {m i c:Value} {k:AN} {ge n cap:Nat} (h:Dm T cs R lo g b0 w W m i (.slice (some ⟨ge,0,none⟩) n cap) c k) (hn:n=k.envs.length) (hb:Below W.heap.size W W') {j:Nat} (hj:j<k.envs.length) {u:Value} {ss:List ByteArray} (hu:AJ W.heap.size 9 1 An W' u ss):
 Dm T cs R lo g b0 w (W'.setCell ⟨ge,j*2,none⟩ u) m i (.slice (some ⟨ge,0,none⟩) n cap) c {k with envs:=AV k.envs j (A9 ss)}:=by
 have S:=h.ink.rights hn h.lo hb hj hu;have h':=h.below hb;obtain⟨ps,o⟩:=h'.ink.2.2.2.2.1;obtain⟨c2,h2⟩:=Bf o.1 ge rfl;exact⟨S.1,BD h'.blk S.2.1 (Dn h2 h'.blk h.ty.2.2.1),AT h'.bel S.2.1 S.2.2 h'.lo,Nat.le_trans h'.lo S.2.1.size,h.ty,h'.kf.row S.2.1 h2 (by decide),fun b hr=>⟨(h.rs b hr).1,BD (h'.rs b hr).2 S.2.1 (Dn h2 (h'.rs b hr).2 (by decide))⟩⟩
theorem KE {lo:Nat} {mv iv ev cv:Value} {k:AN} {w:World} (h:Cz lo w mv iv ev cv k) (hlo:lo≤w.heap.size) (hk:De k) (call:AR) (he:0≤call.e∧call.e<3) (h2:call.k=8∨call.k=9) (hnm:call.nm.size≤maxLen):
 Calls prog 230 #[.agg #[mv,iv,ev,cv], .agg call.cs] w (GF lo w (AU k call)):=by
 have S0':=SC.start h hlo call;obtain⟨ge,cape,e9,_,_⟩:=S0'.envs (by rw[hk.envl];omega);rw[hk.envl] at e9;obtain⟨gi,capi,e8,_,_⟩:=S0'.infos (by rw[hk.len];omega);rw[hk.len] at e8;obtain⟨am,nm_,cm,ai,ni,ci,ae,ne_,ce,ac,nc,cc,em,ei,ee,ec⟩:=S0'.shapes;subst e8 e9 em ec;clear ei ee;have S0:=AA S0';obtain⟨kk,e,ra,b,c,nm⟩:=call;simp only at he h2 hnm;obtain⟨en,rfl⟩:∃n:Nat,e=(n:Int):=⟨e.toNat,by omega⟩
 have hen:en<3:=by omega
 have heni:(en:Int)<3:=by omega
 simp only[AR.cs] at S0 ⊢;have HK:=AA hk;have CR:=AA (fun W=>Ae (Df nm W hnm));have HN:=AA hnm;have CM:=AA (fun W (h:Fp W (.slice (some ⟨ge,0,none⟩) 3 cape) k.envs)=>GR (.slice am nm_ cm) (.slice (some ⟨gi,0,none⟩) 12 capi) (.slice (some ⟨ge,0,none⟩) 3 cape) (.slice ac nc cc) k en nm W h hk hen hnm);obtain⟨x0,x1,x2,x3⟩:=S0.out.xs;obtain⟨y0,y1,y2,y3,y4,y5⟩:=S0.out.ys6;have HP:Hid (AU k ⟨kk,(en:Int),ra,b,c,nm⟩=if Bk ra 0 2=false∨A4 nm=false∨(kk=9∧ra=(en:Int)) then(k,0,3)
  else if Ca (AC k.envs en).rights nm=false then(k,0,1)
  else if kk=8 then(if(A6 (AC k.envs ra.toNat).rights nm).2=false then(k,0,4) else({k with envs:=AV k.envs ra.toNat (A9 (A6 (AC k.envs ra.toNat).rights nm).1)},0,0))
  else(if Aq k.infos (Az k.mem (AC k.envs ra.toNat).root) (BA (AC k.envs ra.toNat).rights nm)=false then(k,0,2) else({k with envs:=AV k.envs ra.toNat (A9 (BA (AC k.envs ra.toNat).rights nm))},0,0))):=by
  refine Lib.hid ?_
  rcases h2 with rfl|rfl
  ·rw[P9 rfl]
   unfold Ei FJ;simp
  ·rw[PF rfl]
   unfold Dc FJ;simp only[Int.toNat_natCast]
   by_cases a1:Bk ra 0 2=false<;>by_cases a2:A4 nm=false<;>by_cases a3:ra=(en:Int)<;>simp[a1,a2,a3]
 have H2:=AA h2;clear h S0' he hk h2 hnm;generalize hW0:((w.alloc _).alloc _).alloc _=W0 at*;cases e1:Bk ra 0 2
 ·have HP3:=AA (show AU k ⟨kk,(en:Int),ra,b,c,nm⟩=(k,0,3) by rw[HP.out,if_pos (.inl e1)])
  have E1:=AA e1;clear e1 HP;go_in;go_wp2_with fail;refine(Ae (Ic _ _)).mono ?_;rintro r w1 ⟨rfl,hb1⟩;rw[E1.out];have S1:=AA (S0.out.below hb1);clear x0 x1 x2 x3 y0 y1 y2 y3 y4 y5 hb1 hW0;obtain⟨x0,x1,x2,x3⟩:=S1.out.xs;obtain⟨⟨z0,z1,z2,z3⟩,hfz⟩:=S1.out.zs;obtain⟨hB9,HR9⟩:=S1.out.bad (Nat.le_trans hlo (Nat.le_add_right _ _)) (Nat.le_add_right _ _) (v:=0) (code:=3) (HP3.out) (by decide);have HE:=AA (AB hB9);have HR:=AA HR9;clear hB9 HR9;go_wp2_with ((try simp only[Exit.inBlock,Exit.then]);with_reducible refine bodyPost_ret (v:= .tuple #[.agg #[_,_,_,_], .int .i64 (0), .int .i64 (3)]) ?_ rfl HR.out;obtain⟨E0,E1,E2,E3⟩:=HE.out;simp[results,Tryz.results230,go_sem,E0,E1,E2,E3])
 ·have E1:=AA e1
  have ab:=AZ.1 e1;obtain⟨an,rfl⟩:∃n:Nat,ra=(n:Int):=⟨ra.toNat,by omega⟩
  have han:an<3:=by omega
  have hani:(an:Int)<3:=by omega
  generalize hrv:A4 nm=rv at CR;have HV:=AA hrv;clear e1 ab hrv;cases rv
  ·have HP3:=AA (show AU k ⟨kk,(en:Int),(an:Int),b,c,nm⟩=(k,0,3) by rw[HP.out,if_pos (.inr (.inl HV.out))])
   clear HP;go_in;go_wp2_with fail;refine(Ae (Ic _ _)).mono ?_;rintro r w1 ⟨rfl,hb1⟩;rw[E1.out];have S1:=AA (S0.out.below hb1);clear x0 x1 x2 x3 y0 y1 y2 y3 y4 y5 hb1 hW0;obtain⟨y0,y1,y2,y3,y4,y5⟩:=S1.out.ys6;go_wp2_with fail;refine(CR.out _).mono ?_;rintro r w2 ⟨rfl,hb2⟩;have S2:=AA (S1.out.below hb2);clear y0 y1 y2 y3 y4 y5 hb2;obtain⟨x0,x1,x2,x3⟩:=S2.out.xs;obtain⟨⟨z0,z1,z2,z3⟩,hfz⟩:=S2.out.zs;obtain⟨hB9,HR9⟩:=S2.out.bad (Nat.le_trans hlo (Nat.le_add_right _ _)) (Nat.le_add_right _ _) (v:=0) (code:=3) (HP3.out) (by decide);have HE:=AA (AB hB9);have HR:=AA HR9;clear hB9 HR9;go_wp2_with ((try simp only[Exit.inBlock,Exit.then]);with_reducible refine bodyPost_ret (v:= .tuple #[.agg #[_,_,_,_], .int .i64 (0), .int .i64 (3)]) ?_ rfl HR.out;obtain⟨E0,E1,E2,E3⟩:=HE.out;simp[results,Tryz.results230,go_sem,E0,E1,E2,E3])
  ·rcases H2.out with rfl|rfl
   ·have HP2:=AA (show AU k ⟨8,(en:Int),(an:Int),b,c,nm⟩=if Ca (AC k.envs en).rights nm=false then(k,0,1) else if(A6 (AC k.envs an).rights nm).2=false then(k,0,4) else({k with envs:=AV k.envs an (A9 (A6 (AC k.envs an).rights nm).1)},0,0) by rw[HP.out,if_neg (by rintro(x|x|⟨x,_⟩);(· rw[E1.out] at x;cases x);(· rw[HV.out] at x;cases x);cases x)];rfl)
    clear HP;go_in;go_wp2_with fail;refine(Ae (Ic _ _)).mono ?_;rintro r w1 ⟨rfl,hb1⟩;rw[E1.out];have S1:=AA (S0.out.below hb1);clear x0 x1 x2 x3 y0 y1 y2 y3 y4 y5 hb1 hW0;obtain⟨y0,y1,y2,y3,y4,y5⟩:=S1.out.ys6;go_wp2_with fail;refine(CR.out _).mono ?_;rintro r w2 ⟨rfl,hb2⟩;have S2:=AA (S1.out.below hb2);clear y0 y1 y2 y3 y4 y5 hb2;obtain⟨y0,y1,y2,y3,y4,y5⟩:=S2.out.ys6;obtain⟨x0,x1,x2,x3⟩:=S2.out.xs;generalize hmb:Ca (AC k.envs en).rights nm=mb at CM HP2;clear hmb;go_wp2_with fail;refine(CM.out _ S2.out.K.2.2.1).mono ?_;rintro r w4 ⟨rfl,hb4⟩;have S4:=AA (S2.out.below hb4);clear x0 x1 x2 x3 y0 y1 y2 y3 y4 y5 hb4 CM;cases mb
    ·have HP3:=AA (show AU k ⟨8,(en:Int),(an:Int),b,c,nm⟩=(k,0,1) by rw[HP2.out];rfl)
     obtain⟨x0,x1,x2,x3⟩:=S4.out.xs;obtain⟨⟨z0,z1,z2,z3⟩,hfz⟩:=S4.out.zs;obtain⟨hB9,HR9⟩:=S4.out.bad (Nat.le_trans hlo (Nat.le_add_right _ _)) (Nat.le_add_right _ _) (v:=0) (code:=1) (HP3.out) (by decide);have HE:=AA (AB hB9);have HR:=AA HR9;clear hB9 HR9;go_wp2_with ((try simp only[Exit.inBlock,Exit.then]);with_reducible refine bodyPost_ret (v:= .tuple #[.agg #[_,_,_,_], .int .i64 (0), .int .i64 (1)]) ?_ rfl HR.out;obtain⟨E0,E1,E2,E3⟩:=HE.out;simp[results,Tryz.results230,go_sem,E0,E1,E2,E3])
    ·skip
     obtain⟨x0,x1,x2,x3⟩:=S4.out.xs;obtain⟨y0,y1,y2,y3,y4,y5⟩:=S4.out.ys6;obtain⟨hlb,hlg,_,_⟩:=S4.out.lts;have hge:=S4.out.ge_lt;obtain⟨ua,uc,D0,D1,R⟩:=S4.out.env (j:=an) (by rw[HK.out.envl];exact han);have CP:=AA (fun W (hW:Below w4.heap.size w4 W)=>by have:=NP _ (AC k.envs an).rights nm W (A3.below R hW) (Ft HK.out han) HN.out;rw[show Gu (AC k.envs an).rights nm=A6 (AC k.envs an).rights nm by unfold Gu;rw[show A2 (AC k.envs an).rights=true from HK.out.rights an han,HV.out];rfl] at this;exact this);have HP3:=AA (show AU k ⟨8,(en:Int),(an:Int),b,c,nm⟩=if(A6 (AC k.envs an).rights nm).2=false then(k,0,4) else({k with envs:=AV k.envs an (A9 (A6 (AC k.envs an).rights nm).1)},0,0) by rw[HP2.out];rfl);generalize A6 (AC k.envs an).rights nm=res at CP HP3;clear R HP2;go_wp2_with fail;refine AH 14 mixed (by kernel_rfl) 102 rfl (by kernel_rfl) (fun ix vv ww=>match ix with
      |0=>vv= .pointer (some ⟨w.heap.size,2,none⟩)
      |1=>vv= .slice (some ⟨ge,0,none⟩) 3 cape
      |2=>vv= .pointer (some ⟨w.heap.size+1,2,none⟩)
      |3=>vv= .int .i64 an
      |4=>vv= .pointer (some ⟨ge,an*2,none⟩)
      |5=>vv= .pointer (some ⟨ge,an*2,none⟩)
      |6=>vv= .slice ua (AC k.envs an).rights.length uc
      |7=>vv= .pointer (some ⟨w.heap.size+1,5,none⟩)
      |8=>vv= .string nm
      |9=>∃v',vv= .tuple #[v', .bool res.2]∧AJ w4.heap.size 9 1 An ww v' res.1
      |10=>∃v',vv= .tuple #[v', .bool res.2]∧AJ w4.heap.size 9 1 An ww v' res.1
      |11=>AJ w4.heap.size 9 1 An ww vv res.1
      |12=>vv= .bool (res.2)
      |13=>AJ w4.heap.size 9 1 An ww vv res.1
      |_=>True) ?_ ?_ ?_
     ·intro i hi vv wz ww' hbz hz
      match i,hi with
      |0,_|1,_|2,_|3,_|4,_|5,_|6,_|7,_|8,_=>exact hz
      |9,_=>exact(by obtain⟨v',h0,h1⟩:=hz;exact⟨v',h0,AJ.below h1 hbz⟩)
      |10,_=>exact(by obtain⟨v',h0,h1⟩:=hz;exact⟨v',h0,AJ.below h1 hbz⟩)
      |11,_=>exact(AJ.below hz hbz)
      |12,_=>exact hz
      |13,_=>exact(AJ.below hz hbz)
     ·intro i hi o ho a wx Hb Hd hG K HK
      match i,hi with
      |0,_=>exact eF ho HK GO (eb (Aj Hb 2))
      |1,_=>exact eL ho HK (et (AD Hd 0)) (La (bc hG hlg x2))
      |2,_=>exact eF ho HK EC (eb (Aj Hb 3))
      |3,_=>exact eL ho HK (et (AD Hd 2)) (DA (bc hG hlb y2))
      |4,_=>obtain rfl:=So_ ho;have d1:(a.tmps[46]?.getD undef)= .slice (some ⟨ge,0,none⟩) 3 cape:=AD Hd 1;have d3:(a.tmps[48]?.getD undef)= .int .i64 an:=AD Hd 3;clear Hd Hb;refine AI.of rfl ?_;go_simp;exact HK.out _ _ rfl (Below.refl _ _)
      |5,_=>exact eF ho HK EV (et (AD Hd 4))
      |6,_=>exact eL ho HK (et (AD Hd 5)) (Ie (bc hG hge D0))
      |7,_=>exact eF ho HK LX (eb (Aj Hb 3))
      |8,_=>exact eL ho HK (et (AD Hd 7)) (Uo (bc hG hlb y5))
      |9,_=>obtain rfl:=So_ ho;have d6:(a.tmps[51]?.getD undef)= .slice ua (AC k.envs an).rights.length uc:=AD Hd 6;have d8:(a.tmps[53]?.getD undef)= .string nm:=AD Hd 8;clear Hd Hb;refine AI.of rfl ?_;go_simp;refine(CP.out _ hG).mono ?_;rintro e w_ ⟨v',rfl,hO,hb2⟩;exact HK.out _ _ ⟨_,rfl,hO.lower hG.size⟩ hb2
      |10,_=>
       obtain rfl:=So_ ho;have d9:∃v',(a.tmps[54]?.getD undef)= .tuple #[v', .bool res.2]∧AJ w4.heap.size 9 1 An wx v' res.1:=AD Hd 9
       clear Hd Hb;refine AI.of rfl ?_;go_simp;exact HK.out _ _ d9 (Below.refl _ _)
      |11,_=>
       obtain rfl:=So_ ho;have d10:∃v',(a.tmps[44]?.getD undef)= .tuple #[v', .bool res.2]∧AJ w4.heap.size 9 1 An wx v' res.1:=AD Hd 10
       clear Hd Hb;obtain⟨v',d10,hO⟩:=d10;refine AI.of rfl ?_;go_simp;exact HK.out _ _ hO (Below.refl _ _)
      |12,_=>
       obtain rfl:=So_ ho;have d10:∃v',(a.tmps[44]?.getD undef)= .tuple #[v', .bool res.2]∧AJ w4.heap.size 9 1 An wx v' res.1:=AD Hd 10
       clear Hd Hb;obtain⟨v',d10,hO⟩:=d10;refine AI.of rfl ?_;go_simp;exact HK.out _ _ rfl (Below.refl _ _)
      |13,_=>obtain rfl:=So_ ho;have d11:AJ w4.heap.size 9 1 An wx (a.tmps[55]?.getD undef) res.1:=AD Hd 11;clear Hd Hb;refine AI.of rfl ?_;go_simp;exact HK.out _ _ d11 (Below.refl _ _)
     ·intro vs wx hR hG
      have q12:(vs 12)= .bool (res.2):=BI hR 12;have q13:AJ w4.heap.size 9 1 An wx (vs 13) res.1:=BI hR 13;clear hR;simp only[Ai,AX,List.range,List.range.loop,List.foldl_cons,List.foldl_nil,q12];simp;generalize vs 13=z13 at q13 ⊢;clear q12;have S5:=AA (S4.out.below hG);have HO:=AA q13;have HbG:=AA hG;obtain⟨a9,c9,e9,_,_⟩:=q13.rd.shape;generalize List.length _=n9 at e9;subst e9;clear x0 x1 x2 x3 y0 y1 y2 y3 y4 y5 D0 D1 q13 hG;obtain⟨rs,rb⟩:=res;cases rb
      ·have HP4:=AA (show AU k ⟨8,(en:Int),(an:Int),b,c,nm⟩=(k,0,4) by rw[HP3.out];rfl)
       obtain⟨x0,x1,x2,x3⟩:=S5.out.xs;obtain⟨⟨z0,z1,z2,z3⟩,hfz⟩:=S5.out.zs;obtain⟨hB9,HR9⟩:=S5.out.bad (Nat.le_trans hlo (Nat.le_add_right _ _)) (Nat.le_add_right _ _) (v:=0) (code:=4) (HP4.out) (by decide);have HE:=AA (AB hB9);have HR:=AA HR9;clear hB9 HR9;go_wp2_with ((try simp only[Exit.inBlock,Exit.then]);with_reducible refine bodyPost_ret (v:= .tuple #[.agg #[_,_,_,_], .int .i64 (0), .int .i64 (4)]) ?_ rfl HR.out;obtain⟨E0,E1,E2,E3⟩:=HE.out;simp[results,Tryz.results230,go_sem,E0,E1,E2,E3])
      ·have HP4:=AA (show AU k ⟨8,(en:Int),(an:Int),b,c,nm⟩=({k with envs:=AV k.envs an (A9 rs)},0,0) by rw[HP3.out];rfl)
       have T:=AA (S4.out.rights HK.out.envl.symm HbG.out (j:=an) (by rw[HK.out.envl];exact han) HO.out);obtain⟨_,_,d0w,_,_⟩:=S5.out.env (j:=an) (by rw[HK.out.envl];exact han);have Fe:=S5.out.fze (an*2);have x2o:=S5.out.xs.2.2.1;obtain⟨_,_,yo,_⟩:=S5.out.ys6;generalize hW9:wx.setCell _ _=W9 at T;obtain⟨x0,x1,x2,x3⟩:=T.out.xs;obtain⟨⟨z0,z1,z2,z3⟩,hfz⟩:=T.out.zs;obtain⟨hB9,HR9⟩:=T.out.ret (Nat.le_trans hlo (Nat.le_add_right _ _)) (Nat.le_add_right _ _) (v:=0) (code:=0) (HP4.out);have HE:=AA (AB hB9);have HR:=AA HR9;clear hB9 HR9;go_wp2_with ((try simp only[Exit.inBlock,Exit.then]);with_reducible refine bodyPost_ret (v:= .tuple #[.agg #[_,_,_,_], .int .i64 (0), .int .i64 (0)]) ?_ rfl HR.out;obtain⟨E0,E1,E2,E3⟩:=HE.out;simp[results,Tryz.results230,go_sem,E0,E1,E2,E3])
   ·by_cases ee:an=en
    ·have HP3:=AA (show AU k ⟨9,(en:Int),(an:Int),b,c,nm⟩=(k,0,3) by rw[HP.out,if_pos (.inr (.inr ⟨rfl,by rw[ee]⟩))])
     have te:((an:Int)==(en:Int))=true:=by rw[ee];simp
     clear HP ee;go_in;go_wp2_with fail;refine(Ae (Ic _ _)).mono ?_;rintro r w1 ⟨rfl,hb1⟩;rw[E1.out];have S1:=AA (S0.out.below hb1);clear x0 x1 x2 x3 y0 y1 y2 y3 y4 y5 hb1 hW0;obtain⟨y0,y1,y2,y3,y4,y5⟩:=S1.out.ys6;go_wp2_with fail;refine(CR.out _).mono ?_;rintro r w2 ⟨rfl,hb2⟩;have S2:=AA (S1.out.below hb2);clear y0 y1 y2 y3 y4 y5 hb2;obtain⟨y0,y1,y2,y3,y4,y5⟩:=S2.out.ys6;obtain⟨x0,x1,x2,x3⟩:=S2.out.xs;obtain⟨⟨z0,z1,z2,z3⟩,hfz⟩:=S2.out.zs;obtain⟨hB9,HR9⟩:=S2.out.bad (Nat.le_trans hlo (Nat.le_add_right _ _)) (Nat.le_add_right _ _) (v:=0) (code:=3) (HP3.out) (by decide);have HE:=AA (AB hB9);have HR:=AA HR9;clear hB9 HR9;go_wp2_with ((try simp only[Exit.inBlock,Exit.then]);with_reducible refine bodyPost_ret (v:= .tuple #[.agg #[_,_,_,_], .int .i64 (0), .int .i64 (3)]) ?_ rfl HR.out;obtain⟨E0,E1,E2,E3⟩:=HE.out;simp[results,Tryz.results230,go_sem,E0,E1,E2,E3])
    ·have HP2:=AA (show AU k ⟨9,(en:Int),(an:Int),b,c,nm⟩=if Ca (AC k.envs en).rights nm=false then(k,0,1) else if Aq k.infos (Az k.mem (AC k.envs an).root) (BA (AC k.envs an).rights nm)=false then(k,0,2) else({k with envs:=AV k.envs an (A9 (BA (AC k.envs an).rights nm))},0,0) by rw[HP.out,if_neg (by rintro(x|x|⟨_,x⟩);(· rw[E1.out] at x;cases x);(· rw[HV.out] at x;cases x);exact ee (by omega))];rfl)
     have te:((an:Int)==(en:Int))=false:=by simp;omega
     clear HP ee;go_in;go_wp2_with fail;refine(Ae (Ic _ _)).mono ?_;rintro r w1 ⟨rfl,hb1⟩;rw[E1.out];have S1:=AA (S0.out.below hb1);clear x0 x1 x2 x3 y0 y1 y2 y3 y4 y5 hb1 hW0;obtain⟨y0,y1,y2,y3,y4,y5⟩:=S1.out.ys6;go_wp2_with fail;refine(CR.out _).mono ?_;rintro r w2 ⟨rfl,hb2⟩;have S2:=AA (S1.out.below hb2);clear y0 y1 y2 y3 y4 y5 hb2;obtain⟨y0,y1,y2,y3,y4,y5⟩:=S2.out.ys6;obtain⟨x0,x1,x2,x3⟩:=S2.out.xs;generalize hmb:Ca (AC k.envs en).rights nm=mb at CM HP2;clear hmb;go_wp2_with fail;refine(CM.out _ S2.out.K.2.2.1).mono ?_;rintro r w4 ⟨rfl,hb4⟩;have S4:=AA (S2.out.below hb4);clear x0 x1 x2 x3 y0 y1 y2 y3 y4 y5 hb4 CM;cases mb
     ·have HP3:=AA (show AU k ⟨9,(en:Int),(an:Int),b,c,nm⟩=(k,0,1) by rw[HP2.out];rfl)
      obtain⟨x0,x1,x2,x3⟩:=S4.out.xs;obtain⟨⟨z0,z1,z2,z3⟩,hfz⟩:=S4.out.zs;obtain⟨hB9,HR9⟩:=S4.out.bad (Nat.le_trans hlo (Nat.le_add_right _ _)) (Nat.le_add_right _ _) (v:=0) (code:=1) (HP3.out) (by decide);have HE:=AA (AB hB9);have HR:=AA HR9;clear hB9 HR9;go_wp2_with ((try simp only[Exit.inBlock,Exit.then]);with_reducible refine bodyPost_ret (v:= .tuple #[.agg #[_,_,_,_], .int .i64 (0), .int .i64 (1)]) ?_ rfl HR.out;obtain⟨E0,E1,E2,E3⟩:=HE.out;simp[results,Tryz.results230,go_sem,E0,E1,E2,E3])
     ·skip
      obtain⟨x0,x1,x2,x3⟩:=S4.out.xs;obtain⟨y0,y1,y2,y3,y4,y5⟩:=S4.out.ys6;obtain⟨hlb,hlg,_,_⟩:=S4.out.lts;have hge:=S4.out.ge_lt;obtain⟨ua,uc,D0,D1,R⟩:=S4.out.env (j:=an) (by rw[HK.out.envl];exact han);have hsr:=Ft HK.out han;have CD:=AA (fun W (hW:Below w4.heap.size w4 W)=>QW _ (AC k.envs an).rights nm W (A3.below R hW) hsr HN.out (by have:(AC k.envs an).rights.length≤6:=(ER.1 (HK.out.rights an han)).2.2;omega));have HP3:=AA (show AU k ⟨9,(en:Int),(an:Int),b,c,nm⟩=if Aq k.infos (Az k.mem (AC k.envs an).root) (BA (AC k.envs an).rights nm)=false then(k,0,2) else({k with envs:=AV k.envs an (A9 (BA (AC k.envs an).rights nm))},0,0) by rw[HP2.out];rfl);have hsd:EB (BA (AC k.envs an).rights nm):=fun s hs=>hsr s (List.mem_filter.1 hs).1
      generalize BA (AC k.envs an).rights nm=rs at CD HP3 hsd;have Hsd:=AA hsd;clear R HP2 hsr hsd;go_wp2_with fail;refine AH 9 mixed (by kernel_rfl) 102 rfl (by kernel_rfl) (fun ix vv ww=>match ix with
       |0=>vv= .pointer (some ⟨w.heap.size,2,none⟩)
       |1=>vv= .slice (some ⟨ge,0,none⟩) 3 cape
       |2=>vv= .pointer (some ⟨w.heap.size+1,2,none⟩)
       |3=>vv= .int .i64 an
       |4=>vv= .pointer (some ⟨ge,an*2,none⟩)
       |5=>vv= .pointer (some ⟨ge,an*2,none⟩)
       |6=>vv= .slice ua (AC k.envs an).rights.length uc
       |7=>vv= .pointer (some ⟨w.heap.size+1,5,none⟩)
       |8=>vv= .string nm
       |_=>True) ?_ ?_ ?_
      ·intro i hi vv wz ww' hbz hz
       match i,hi with
       |0,_|1,_|2,_|3,_|4,_|5,_|6,_|7,_|8,_=>exact hz
      ·intro i hi o ho a wx Hb Hd hG K HK
       match i,hi with
       |0,_=>exact eF ho HK GO (eb (Aj Hb 2))
       |1,_=>exact eL ho HK (et (AD Hd 0)) (La (bc hG hlg x2))
       |2,_=>exact eF ho HK EC (eb (Aj Hb 3))
       |3,_=>exact eL ho HK (et (AD Hd 2)) (DA (bc hG hlb y2))
       |4,_=>obtain rfl:=So_ ho;have d1:(a.tmps[69]?.getD undef)= .slice (some ⟨ge,0,none⟩) 3 cape:=AD Hd 1;have d3:(a.tmps[71]?.getD undef)= .int .i64 an:=AD Hd 3;clear Hd Hb;refine AI.of rfl ?_;go_simp;exact HK.out _ _ rfl (Below.refl _ _)
       |5,_=>exact eF ho HK EV (et (AD Hd 4))
       |6,_=>exact eL ho HK (et (AD Hd 5)) (Ie (bc hG hge D0))
       |7,_=>exact eF ho HK LX (eb (Aj Hb 3))
       |8,_=>exact eL ho HK (et (AD Hd 7)) (Uo (bc hG hlb y5))
      ·intro vs wx hR hG
       have q6:(vs 6)= .slice ua (AC k.envs an).rights.length uc:=BI hR 6;have q8:(vs 8)= .string nm:=BI hR 8;clear hR;simp only[Ai,AX,List.range,List.range.loop,List.foldl_cons,List.foldl_nil,q6,q8];simp;clear q6 q8;have HbG:=AA hG;clear x0 x1 x2 x3 y0 y1 y2 y3 y4 y5 D0 D1 hG hlb hlg hge;go_wp2_with fail;refine(CD.out _ HbG.out).mono ?_;rintro r w5 ⟨v',rfl,hO,hb5⟩;have Hb5:=AA (HbG.out.trans (hb5.mono HbG.out.size));have S5:=AA (S4.out.below Hb5.out);have HO:=AA (hO.lower HbG.out.size);obtain⟨a9,c9,e9,_,_⟩:=hO.rd.shape;have HRd:=AA hO.rd;generalize List.length _=n9 at e9;subst e9;clear hO hb5 CD;obtain⟨x0,x1,x2,x3⟩:=S5.out.xs;obtain⟨y0,y1,y2,y3,y4,y5⟩:=S5.out.ys6;obtain⟨hlb,hlg,_,_⟩:=S5.out.lts;have hge:=S5.out.ge_lt;obtain⟨_,_,D0,D1,_⟩:=S5.out.env (j:=an) (by rw[HK.out.envl];exact han);have hr12:(AC k.envs an).root<12:=by have:=root_lt HK.out han;omega
       have RM:=S5.out.K.1;have RI:=S5.out.K.2.1;have CX:=AA (fun W (hW:Below w5.heap.size w5 W)=>I7 _ k.mem (AC k.envs an).root W (RM.below hW) (AW HK.out).1 hr12);have CA:=AA (fun W (hW:Below w5.heap.size w5 W) v2 (h2:Ap W v2 (Ak (El k.mem (AC k.envs an).root)))=>by have:=F7 _ v2 _ k.infos (El k.mem (AC k.envs an).root) rs W (A3.below RI hW) h2 (A3.below HRd.out hW) (fun f hf=>by have:=reach_lt hr12 f ((GT hr12 f).1 hf);have:=HK.out.len;omega) (Bh (AW HK.out).2.1) Hsd.out;rw[Ds (GT hr12)] at this;exact this);generalize hbb:Aq k.infos (Az k.mem (AC k.envs an).root) rs=bb at CA HP3;clear hbb RM RI hr12;go_wp2_with fail;refine AH 13 mixed (by kernel_rfl) 102 rfl (by kernel_rfl) (fun ix vv ww=>match ix with
        |0=>vv= .pointer (some ⟨w.heap.size,1,none⟩)
        |1=>vv= .slice (some ⟨gi,0,none⟩) 12 capi
        |2=>vv= .pointer (some ⟨w.heap.size,0,none⟩)
        |3=>vv= .slice am nm_ cm
        |4=>vv= .pointer (some ⟨w.heap.size,2,none⟩)
        |5=>vv= .slice (some ⟨ge,0,none⟩) 3 cape
        |6=>vv= .pointer (some ⟨w.heap.size+1,2,none⟩)
        |7=>vv= .int .i64 an
        |8=>vv= .pointer (some ⟨ge,an*2,none⟩)
        |9=>vv= .pointer (some ⟨ge,an*2+1,none⟩)
        |10=>vv= .int .i64 ((AC k.envs an).root)
        |11=>AE w5.heap.size ww vv (Ak (El k.mem (AC k.envs an).root))
        |12=>vv= .slice a9 n9 c9
        |_=>True) ?_ ?_ ?_
       ·intro i hi vv wz ww' hbz hz
        match i,hi with
        |0,_|1,_|2,_|3,_|4,_|5,_|6,_|7,_|8,_|9,_|10,_=>exact hz
        |11,_=>exact(AE.below hz hbz)
        |12,_=>exact hz
       ·intro i hi o ho a wx Hb Hd hG K HK
        match i,hi with
        |0,_=>exact eF ho HK CU (eb (Aj Hb 2))
        |1,_=>exact eL ho HK (et (AD Hd 0)) (FF (bc hG hlg x1))
        |2,_=>exact eF ho HK Ci (eb (Aj Hb 2))
        |3,_=>exact eL ho HK (et (AD Hd 2)) (Fd (bc hG hlg x0))
        |4,_=>exact eF ho HK GO (eb (Aj Hb 2))
        |5,_=>exact eL ho HK (et (AD Hd 4)) (La (bc hG hlg x2))
        |6,_=>exact eF ho HK EC (eb (Aj Hb 3))
        |7,_=>exact eL ho HK (et (AD Hd 6)) (DA (bc hG hlb y2))
        |8,_=>obtain rfl:=So_ ho;have d5:(a.tmps[83]?.getD undef)= .slice (some ⟨ge,0,none⟩) 3 cape:=AD Hd 5;have d7:(a.tmps[85]?.getD undef)= .int .i64 an:=AD Hd 7;clear Hd Hb;refine AI.of rfl ?_;go_simp;exact HK.out _ _ rfl (Below.refl _ _)
        |9,_=>exact eF ho HK Ez (et (AD Hd 8))
        |10,_=>exact eL ho HK (et (AD Hd 9)) (DA (bc hG hge D1))
        |11,_=>obtain rfl:=So_ ho;have d3:(a.tmps[81]?.getD undef)= .slice am nm_ cm:=AD Hd 3;have d10:(a.tmps[88]?.getD undef)= .int .i64 ((AC k.envs an).root):=AD Hd 10;clear Hd Hb;refine AI.of rfl ?_;go_simp;refine(CX.out _ hG).mono ?_;rintro e w_ ⟨v9,rfl,hO,hb2⟩;exact HK.out _ _ (BQ hO hG.size) hb2
        |12,_=>exact eM ho HK (eb (Aj Hb 9))
       ·intro vs wx hR hG
        have q1:(vs 1)= .slice (some ⟨gi,0,none⟩) 12 capi:=BI hR 1;have q11:AE w5.heap.size wx (vs 11) (Ak (El k.mem (AC k.envs an).root)):=BI hR 11;have q12:(vs 12)= .slice a9 n9 c9:=BI hR 12;clear hR;simp only[Ai,AX,List.range,List.range.loop,List.foldl_cons,List.foldl_nil,q1,q12];simp;generalize vs 11=z11 at q11 ⊢;clear q1 q12;have HQ:=AA q11.rd;obtain⟨a8,c8,e8,_⟩:=q11.rd.open;generalize List.length _=n8 at e8;subst e8;have HbH:=AA hG;clear x0 x1 x2 x3 y0 y1 y2 y3 y4 y5 D0 D1 hG hlb hlg hge q11;go_wp2_with fail;refine(CA.out _ HbH.out _ HQ.out).mono ?_;rintro r w7 ⟨rfl,hb7⟩;have Hb7:=AA ((Hb5.out.trans (HbH.out.mono Hb5.out.size)).trans (hb7.mono (Nat.le_trans Hb5.out.size HbH.out.size)));have S7:=AA (S4.out.below Hb7.out);have HO7:=AA (AJ.below (AJ.below HO.out HbH.out) hb7);clear hb7 CA HQ;cases bb
        ·have HP4:=AA (show AU k ⟨9,(en:Int),(an:Int),b,c,nm⟩=(k,0,2) by rw[HP3.out];rfl)
         obtain⟨x0,x1,x2,x3⟩:=S7.out.xs;obtain⟨⟨z0,z1,z2,z3⟩,hfz⟩:=S7.out.zs;obtain⟨hB9,HR9⟩:=S7.out.bad (Nat.le_trans hlo (Nat.le_add_right _ _)) (Nat.le_add_right _ _) (v:=0) (code:=2) (HP4.out) (by decide);have HE:=AA (AB hB9);have HR:=AA HR9;clear hB9 HR9;go_wp2_with ((try simp only[Exit.inBlock,Exit.then]);with_reducible refine bodyPost_ret (v:= .tuple #[.agg #[_,_,_,_], .int .i64 (0), .int .i64 (2)]) ?_ rfl HR.out;obtain⟨E0,E1,E2,E3⟩:=HE.out;simp[results,Tryz.results230,go_sem,E0,E1,E2,E3])
        ·have HP4:=AA (show AU k ⟨9,(en:Int),(an:Int),b,c,nm⟩=({k with envs:=AV k.envs an (A9 rs)},0,0) by rw[HP3.out];rfl)
         have T:=AA (S4.out.rights HK.out.envl.symm Hb7.out (j:=an) (by rw[HK.out.envl];exact han) HO7.out);obtain⟨_,_,d0w,_,_⟩:=S7.out.env (j:=an) (by rw[HK.out.envl];exact han);have Fe:=S7.out.fze (an*2);have x2o:=S7.out.xs.2.2.1;obtain⟨_,_,yo,_⟩:=S7.out.ys6;generalize hW9:w7.setCell _ _=W9 at T;obtain⟨x0,x1,x2,x3⟩:=T.out.xs;obtain⟨⟨z0,z1,z2,z3⟩,hfz⟩:=T.out.zs;obtain⟨hB9,HR9⟩:=T.out.ret (Nat.le_trans hlo (Nat.le_add_right _ _)) (Nat.le_add_right _ _) (v:=0) (code:=0) (HP4.out);have HE:=AA (AB hB9);have HR:=AA HR9;clear hB9 HR9;go_wp2_with ((try simp only[Exit.inBlock,Exit.then]);with_reducible refine bodyPost_ret (v:= .tuple #[.agg #[_,_,_,_], .int .i64 (0), .int .i64 (0)]) ?_ rfl HR.out;obtain⟨E0,E1,E2,E3⟩:=HE.out;simp[results,Tryz.results230,go_sem,E0,E1,E2,E3])
theorem Qb {lo:Nat} {mv iv ev cv:Value} {k:AN} {w:World} (h:Cz lo w mv iv ev cv k) (hlo:lo≤w.heap.size) (hk:De k) (call:AR) (he:0≤call.e∧call.e<3) (h2:call.k=10):
 Calls prog 231 #[.agg #[mv,iv,ev,cv], .agg call.cs] w (GF lo w (AU k call)):=by
 have S0':=SC.start h hlo call;have P0:=(OG (k:=k) (by first|exact .inl h2|exact .inr h2)).trans Pq;have hok:=(AW hk).1;obtain⟨gm,capm,e7,_⟩:=Dm.mems S0' hok;obtain⟨ge,cape,e9,_,_⟩:=S0'.envs (by rw[hk.envl];omega);rw[hk.envl] at e9;obtain⟨am,nm_,cm,ai,ni,ci,ae,ne_,ce,ac,nc,cc,em,ei,ee,ec⟩:=S0'.shapes;subst e7 e9 ei ec;clear em ee;have S0:=AA S0';obtain⟨kk,e,ra,b,c,nm⟩:=call;simp only at he h2;subst h2;obtain⟨en,rfl⟩:∃n:Nat,e=(n:Int):=⟨e.toNat,by omega⟩
 have hen:en<3:=by omega
 have heni:(en:Int)<3:=by omega
 simp only[AR.cs,Int.toNat_natCast] at S0 P0 ⊢;have HP:=AA P0;have HK:=AA hk;have Hok:=AA hok;obtain⟨x0,x1,x2,x3⟩:=S0.out.xs;obtain⟨y0,y1,y2,y3,y4,y5⟩:=S0.out.ys6;obtain⟨_,_,_,D1,_⟩:=S0.out.env (j:=en) (by rw[hk.envl];exact hen);clear h S0' he hk P0 hok;generalize hW0:((w.alloc _).alloc _).alloc _=W0 at*;cases e1:Bk ra 0 63
 ·have HP3:=AA (show AU k ⟨10,(en:Int),ra,b,c,nm⟩=(k,0,3) by rw[HP.out,if_pos (.inl e1)])
  have E1:=AA e1;clear e1 HP;go_in;go_wp2_with fail;refine(Ae (EY _ _)).mono ?_;rintro r w1 ⟨rfl,hb1⟩;rw[E1.out];have S1:=AA (S0.out.below hb1);clear x0 x1 x2 x3 y0 y1 y2 y3 y4 y5 D1 hb1 hW0;obtain⟨x0,x1,x2,x3⟩:=S1.out.xs;obtain⟨⟨z0,z1,z2,z3⟩,hfz⟩:=S1.out.zs;obtain⟨hB9,HR9⟩:=S1.out.bad (Nat.le_trans hlo (Nat.le_add_right _ _)) (Nat.le_add_right _ _) (v:=0) (code:=3) (HP3.out) (by decide);have HE:=AA (AB hB9);have HR:=AA HR9;clear hB9 HR9;go_wp2_with ((try simp only[Exit.inBlock,Exit.then]);with_reducible refine bodyPost_ret (v:= .tuple #[.agg #[_,_,_,_], .int .i64 (0), .int .i64 (3)]) ?_ rfl HR.out;obtain⟨E0,E1,E2,E3⟩:=HE.out;simp[results,Tryz.results231,go_sem,E0,E1,E2,E3])
 ·have E1:=AA e1
  have ab:=AZ.1 e1;obtain⟨an,rfl⟩:∃n:Nat,ra=(n:Int):=⟨ra.toNat,by omega⟩
  have han:an<64:=by omega
  clear ab e1;generalize hrt:(AC k.envs en).root=rt at*;have hrt0:=AA hrt
  by_cases h0:rt<0
  ·have HP3:=AA (show AU k ⟨10,(en:Int),(an:Int),b,c,nm⟩=(k,0,3) by rw[HP.out,if_pos (.inr (.inl h0))])
   clear HP hrt;go_in;go_wp2_with fail;refine(Ae (EY _ _)).mono ?_;rintro r w1 ⟨rfl,hb1⟩;rw[E1.out];have S1:=AA (S0.out.below hb1);clear x0 x1 x2 x3 y0 y1 y2 y3 y4 y5 D1 hb1 hW0;obtain⟨x0,x1,x2,x3⟩:=S1.out.xs;obtain⟨⟨z0,z1,z2,z3⟩,hfz⟩:=S1.out.zs;obtain⟨hB9,HR9⟩:=S1.out.bad (Nat.le_trans hlo (Nat.le_add_right _ _)) (Nat.le_add_right _ _) (v:=0) (code:=3) (HP3.out) (by decide);have HE:=AA (AB hB9);have HR:=AA HR9;clear hB9 HR9;go_wp2_with ((try simp only[Exit.inBlock,Exit.then]);with_reducible refine bodyPost_ret (v:= .tuple #[.agg #[_,_,_,_], .int .i64 (0), .int .i64 (3)]) ?_ rfl HR.out;obtain⟨E0,E1,E2,E3⟩:=HE.out;simp[results,Tryz.results231,go_sem,E0,E1,E2,E3])
  ·obtain⟨rn,rfl⟩:∃n:Nat,rt=(n:Int):=⟨rt.toNat,by omega⟩
   have hr12:rn<12:=by have:=root_lt HK.out hen;omega
   have hpu:=(show AU k ⟨10,(en:Int),(an:Int),b,c,nm⟩=_ by rw[HP.out,if_neg (by rintro(x|x|⟨x,_⟩);(· rw[E1.out] at x;cases x);(· exact h0 x);(· cases x))]);simp only[Int.toNat_natCast] at hpu;have HPU:=AA hpu;clear hpu;clear HP hrt h0;go_in;go_wp2_with fail;refine(Ae (EY _ _)).mono ?_;rintro r w2 ⟨rfl,hb1⟩;rw[E1.out];have S2:=AA (S0.out.below hb1);clear x0 x1 x2 x3 y0 y1 y2 y3 y4 y5 D1 hb1 hW0;obtain⟨x0,x1,x2,x3⟩:=S2.out.xs;obtain⟨y0,y1,y2,y3,y4,y5⟩:=S2.out.ys6;have CF:=AA (Mz _ k.cache (en:Int) ((an:Int)/4) w2 S2.out.K.2.2.2);go_wp2_with fail;refine CF.out.mono ?_;rintro r w3 ⟨rfl,hb3⟩;have S3:=AA (S2.out.below hb3);clear x0 x1 x2 x3 y0 y1 y2 y3 y4 y5 hb3 CF;obtain⟨x0,x1,x2,x3⟩:=S3.out.xs;obtain⟨y0,y1,y2,y3,y4,y5⟩:=S3.out.ys6;have FC:=AA (fun h=>Mp (c:=k.cache) (e:=(en:Int)) (p:=((an:Int)/4)) h);generalize hat:FX k.cache (en:Int) ((an:Int)/4)=at_ at*;have Hat:=AA hat;clear hat;go_upto_if 52 with fail;have hb5:=AG w3 (.cells #[.int .i64 0, .int .i64 ((an:Int)%4), .bool false] 142);have n5:=heap_alloc_new w3 (.cells #[.int .i64 0, .int .i64 ((an:Int)%4), .bool false] 142);have hql:=S3.out.lts.2.1;have S5:=AA (S3.out.below hb5);have Hqlo:=AA S3.out.lo;have Hb5:=AA hb5;have hb5l:=hb5.size;clear x0 x1 x2 x3 y0 y1 y2 y3 y4 y5 hb5;generalize hW5:w3.alloc _=W5 at*;generalize hqq:w3.heap.size=q at*;have Hqq:=AA hqq;clear hqq;have N5:=AA n5;clear n5 hW5;have hqg:q≠w.heap.size:=by omega
   have hgq:w.heap.size≠q:=by omega
   go_cut [10,11] (fun s10 s11 wx=>∃(fr:Nat) (wb:Bool),fr<12∧BV k.mem rn an=(0,fr,wb)∧(SC lo w.heap.size ⟨10,(en:Int),(an:Int),b,c,nm⟩ w wx (.slice (some ⟨gm,0,none⟩) 12 capm) (.slice ai ni ci) (.slice (some ⟨ge,0,none⟩) 3 cape) (.slice ac nc cc) k)∧wx.heap[q]? =some (.cells #[.int .i64 fr, .int .i64 ((an:Int)%4), .bool wb] 142 (0,0)))
   case first=>
    obtain⟨x0,x1,x2,x3⟩:=S5.out.xs;obtain⟨y0,y1,y2,y3,y4,y5⟩:=S5.out.ys6;obtain⟨c0,c1,c2⟩:=ET N5.out;have hfz:=AM N5.out
    by_cases hlt:at_<0
    ·have CW:=AA (My _ k.mem rn an W5 S5.out.K.1 Hok.out hr12 han)
     go_wp2_with fail;refine CW.out.mono ?_;rintro r w6 ⟨rfl,hb6⟩;have S6:=AA (S5.out.below hb6);have N6:=AA (AF N5.out hb6);clear x0 x1 x2 x3 y0 y1 y2 y3 y4 y5 c0 c1 c2 hfz hb6 CW;rw[show GE k.mem rn an= .tuple #[if(BV k.mem rn an).1=0 then IX (BV k.mem rn an).2.1 an (BV k.mem rn an).2.2 else Db, .int .i64 (BV k.mem rn an).1] from rfl];have Hwf:=AA (fun fr wb (h:BV k.mem rn an=(0,fr,wb))=>Na h);generalize hwk:BV k.mem rn an=res at*;clear hwk;obtain⟨cd,fr,wb⟩:=res
     by_cases hcd:cd=0
     ·subst hcd
      have hfr:=Hwf.out fr wb rfl;rw[if_pos rfl];unfold IX;rw[show((an%4:Nat):Int)=(an:Int)%4 by omega];have B7:=AG w6 (.cells #[.int .i64 fr, .int .i64 ((an:Int)%4), .bool wb] 142);obtain⟨T8,n8⟩:=(S6.out.below B7).place (by decide) (AF N6.out B7) (Nat.le_trans Hqlo.out (Nat.le_refl _)) (.int .i64 fr) (.int .i64 ((an:Int)%4)) (.bool wb);have T8:=AA T8;have N8:=AA n8;obtain⟨c0,c1,c2⟩:=ET (AF N6.out B7);have hfz:=AM (AF N6.out B7);have hq6:q≠w6.heap.size:=by have:=Ao N6.out;omega
      have hq6':w6.heap.size≠q:=fun e=>hq6 e.symm
      clear B7 n8;go_wp2_with fail;go_meet
      case rel=>exact⟨fr,wb,hfr,rfl,T8.out,N8.out⟩
     ·rw[if_neg hcd]
      unfold Db;have B7:=AG w6 (.cells #[.int .i64 0, .int .i64 0, .bool false] 142);have S7:=AA (S6.out.below B7);have hcd':(cd !=0)=true:=by simp[hcd]
      have HP3:=AA (show AU k ⟨10,(en:Int),(an:Int),b,c,nm⟩=(k,0,3) by rw[HPU.out];simp[hcd]);clear B7;obtain⟨x0,x1,x2,x3⟩:=S7.out.xs;obtain⟨⟨z0,z1,z2,z3⟩,hfz⟩:=S7.out.zs;obtain⟨hB9,HR9⟩:=S7.out.bad (Nat.le_trans hlo (Nat.le_add_right _ _)) (Nat.le_add_right _ _) (v:=0) (code:=3) (HP3.out) (by decide);have HE:=AA (AB hB9);have HR:=AA HR9;clear hB9 HR9;go_wp2_with ((try simp only[Exit.inBlock,Exit.then]);with_reducible refine bodyPost_ret (v:= .tuple #[.agg #[_,_,_,_], .int .i64 (0), .int .i64 (3)]) ?_ rfl HR.out;obtain⟨E0,E1,E2,E3⟩:=HE.out;simp[results,Tryz.results231,go_sem,E0,E1,E2,E3])
    ·obtain⟨j,hj,ej,hs⟩:=FC.out (by omega)
     rw[show(an:Int)/4=((an/4:Nat):Int) by omega] at hs;obtain⟨fr,hfr,hcj,hwk⟩:=Ll HK.out hj hs rfl;generalize(Ac k.cache j).w=wb at hcj hwk;obtain⟨a8,c8,e8,_,_,H8⟩:=A3.open Bi (by decide) S3.out.K.2.2.2;cases e8;obtain⟨bc,offc,rfl,hbc,D0,D1,D2,D3⟩:=H8.cachedCells hj;rw[hcj] at D2 D3;rw[Hqq.out] at hbc;simp only at D2 D3;have D2w:=(Hb5.out.cell (p:=⟨bc,offc+j*4+2,none⟩) hbc).trans D2;have D3w:=(Hb5.out.cell (p:=⟨bc,offc+j*4+3,none⟩) hbc).trans D3;obtain⟨T8,n8⟩:=S5.out.place2 (by decide) N5.out (Nat.le_trans Hqlo.out (Nat.le_refl _)) (.int .i64 fr) (.bool wb);have T8:=AA T8;have N8:=AA n8;have hji:(j:Int)<k.cache.length:=by omega
     have hbcq:bc≠q:=by omega
     have hqbc:q≠bc:=by omega
     rw[hrt0.out] at hwk;rw[Int.toNat_natCast] at hwk;subst ej;clear hs hcj D0 D1 D2 D3 n8 H8;go_wp2_with fail;go_meet
     case rel=>exact⟨fr,wb,hfr,hwk,T8.out,N8.out⟩
   case rest=>
    obtain⟨fr,wb,hfr,hwk,s8,n8⟩:=hcut;generalize wc=w8 at*;have S8:=AA s8;have N8:=AA n8;have hpu:=HPU.out;rw[hwk,show((an:Int)%4).toNat=an%4 by omega] at hpu;clear s8 n8 HPU hwk;obtain⟨x0,x1,x2,x3⟩:=S8.out.xs;obtain⟨y0,y1,y2,y3,y4,y5⟩:=S8.out.ys6;obtain⟨p0,p1,p2⟩:=ET N8.out;have HP3:=AA (show AU k ⟨10,(en:Int),(an:Int),b,c,nm⟩=({k with cache:=Ee k.cache (en:Int) ((an:Int)/4) fr wb},Am k.mem fr (an%4),0) by rw[hpu];rfl);clear hpu;go_upto_if 90 with fail;clear x0 x1 x2 x3 y0 y1 y2 y3 y4 y5 p0 p1 p2;go_cut [] (fun wx=>∃cv,(SC lo w.heap.size ⟨10,(en:Int),(an:Int),b,c,nm⟩ w wx (.slice (some ⟨gm,0,none⟩) 12 capm) (.slice ai ni ci) (.slice (some ⟨ge,0,none⟩) 3 cape) cv {k with cache:=Ee k.cache (en:Int) ((an:Int)/4) fr wb})∧wx.heap[q]? =some (.cells #[.int .i64 fr, .int .i64 ((an:Int)%4), .bool wb] 142 (0,0)))
    case first=>
     by_cases hlt:at_<0
     ·obtain⟨x0,x1,x2,x3⟩:=S8.out.xs
      obtain⟨y0,y1,y2,y3,y4,y5⟩:=S8.out.ys6;obtain⟨p0,p1,p2⟩:=ET N8.out;have CP:=AA (ON _ k.cache ⟨(en:Int),(an:Int)/4,(fr:Int),wb⟩ w8 S8.out.K.2.2.2 (GQ HK.out));go_wp2_with fail;refine CP.out.mono ?_;rintro r w9 ⟨v',rfl,hO,hb9⟩;have T9:=AA (S8.out.cache hb9 hO);have N9:=AA (show(w9.setCell ⟨w.heap.size,3,none⟩ v').heap[q]? =_ from BD (AF N8.out hb9) (Al w9 w.heap.size 3 v') hgq);have hU:=AA (show Ee k.cache (en:Int) ((an:Int)/4) fr wb=FM k.cache ⟨(en:Int),(an:Int)/4,(fr:Int),wb⟩ by unfold Ee;rw[Hat.out,if_pos hlt]);have fzg:=AM (S8.out.below hb9).ink.1;have x3o:=(S8.out.below hb9).xs.2.2.2;clear x0 x1 x2 x3 y0 y1 y2 y3 y4 y5 p0 p1 p2 CP;obtain⟨a9,c9,e9,_,_⟩:=hO.rd.shape;generalize List.length _=n9 at e9;subst e9;clear hO hb9;go_wp2_with fail;go_meet
      case rel=>exact⟨_,by rw[hU.out];exact T9.out,N9.out⟩
     ·have hU:=AA (show Ee k.cache (en:Int) ((an:Int)/4) fr wb=k.cache by unfold Ee;rw[Hat.out,if_neg (by omega)])
      go_wp2_with fail;go_meet
      case rel=>exact⟨_,by rw[hU.out];exact S8.out,N8.out⟩
    case rest=>
     obtain⟨cv,s10,n10⟩:=hcut;generalize wc=w10 at*;have S10:=AA s10;have N10:=AA n10;obtain⟨ac9,c9,e9,_,_⟩:=(s10.K.2.2.2).shape;generalize List.length _=nc9 at e9;subst e9;generalize c9=cc9 at*;clear s10 n10 S8 N8;obtain⟨x0,x1,x2,x3⟩:=S10.out.xs;obtain⟨y0,y1,y2,y3,y4,y5⟩:=S10.out.ys6;obtain⟨p0,p1,p2⟩:=ET N10.out;obtain⟨hlb,hlg,_,_⟩:=S10.out.lts;have hlq:=Ao N10.out;obtain⟨gw,capw,D,hgw,hcw,hC,_,_,_,hne,_⟩:=Dm.mrow S10.out Hok.out hfr;have hgm:gm<w10.heap.size:=World.block_lt_of_cell? _ _ D;have hfri:(fr:Int)<12:=by omega
     have h4i:(an:Int)%4<4:=by omega
     have Dw:=hC (an%4) (by omega);obtain⟨hneg,hB2⟩:=S10.out.rs _ (List.mem_singleton.2 rfl);have nwb:gw≠w.heap.size+2:=hne _ _ _ hB2 (by decide);clear hne;have nqb:q≠w.heap.size+2:=fun e=>by rw[e] at N10;rw[N10.out] at hB2;simp at hB2
     have ngb:gm≠w.heap.size+2:=fun e=>by obtain⟨vs,o⟩:=S10.out.ink.2.2.1;obtain⟨cu,hcu⟩:=Bf o.1 gm rfl;exact Dn hcu hB2 (by decide) e
     have HP4:=AA (show AU k ⟨10,(en:Int),(an:Int),b,c,nm⟩=({k with cache:=Ee k.cache (en:Int) ((an:Int)/4) fr wb},Am k.mem fr (an%4),0) from HP3.out);generalize Am k.mem fr (an%4)=wd at Dw HP4;obtain⟨⟨z0,z1,z2,z3⟩,hfz⟩:=S10.out.zs;go_wp2_with fail;refine Bs 14 mixed 131 rfl (by kernel_rfl) rfl (fun ix=>ix==11) (fun ll ix vv ww=>match ix with
      |0=>vv= .agg #[.slice (some ⟨gm,0,none⟩) 12 capm, .slice ai ni ci, .slice (some ⟨ge,0,none⟩) 3 cape, .slice ac9 nc9 cc9]
      |1=>vv= .pointer (some ⟨w.heap.size,0,none⟩)
      |2=>vv= .slice (some ⟨gm,0,none⟩) 12 capm
      |3=>vv= .pointer (some ⟨q,0,none⟩)
      |4=>vv= .int .i64 fr
      |5=>vv= .pointer (some ⟨gm,fr,none⟩)
      |6=>vv= .slice (some ⟨gw,0,none⟩) 4 capw
      |7=>vv= .pointer (some ⟨q,1,none⟩)
      |8=>vv= .int .i64 (((an:Int)%4))
      |9=>vv= .pointer (some ⟨gw,an%4,none⟩)
      |10=>vv= .int .i64 wd
      |11=>True
      |12=>vv= .int .i64 wd
      |13=>vv= .int .i64 0
      |_=>True) (fun ll ww=>GA w10 (w.heap.size+2) (.slice (some ⟨gm,0,none⟩) 12 capm) (.slice ai ni ci) (.slice (some ⟨ge,0,none⟩) 3 cape) (.slice ac9 nc9 cc9) (ll 11) ww) ?_ ?_ ?_ ?_ ?_ ?_
     ·exact Ar (Below.refl _ _) 1
     ·intro j hj ll i vv wz ww' hi hS hLi hLj hbz hz
      match j,hj with
      |0,_|1,_|2,_|3,_|4,_|5,_|6,_|7,_|8,_|9,_|10,_|11,_|12,_|13,_=>exact hz
     ·intro ll i wz ww' hi hS hLi hbz hg
      show GA _ _ _ _ _ _ (JK ll i 11) _
      rw[En (by rintro rfl;cases hS)];exact GA.grow hg hbz
     ·intro i hi hS o ho a wx Hb ll Hd HL hG K HK
      match i,hi,hS with
      |0,_,_=>
       obtain rfl:=So_ ho;have e2:a.tmps[2]?.getD undef= .pointer (some ⟨w.heap.size,0,none⟩):=eg (Aj Hb 2);have u11:ll 11=false:=by
        cases hx:ll 11
        ·rfl
        ·exact absurd (HL.out.2.2 11 0 hx (by kernel_rfl)) (by rw[HL.out.1];decide)
       clear Hd Hb;have m0:wx.cell? ⟨w.heap.size,0,none⟩=some (.slice (some ⟨gm,0,none⟩) 12 capm):=(GA.cell hG hlg (by simp)).trans x0;have m1:wx.cell? ⟨w.heap.size,1,none⟩=some (.slice ai ni ci):=(GA.cell hG hlg (by simp)).trans x1;have m2:wx.cell? ⟨w.heap.size,2,none⟩=some (.slice (some ⟨ge,0,none⟩) 3 cape):=(GA.cell hG hlg (by simp)).trans x2;have m3:wx.cell? ⟨w.heap.size,3,none⟩=some (.slice ac9 nc9 cc9):=(GA.cell hG hlg (by simp)).trans x3;refine AI.of rfl ?_;go_simp;exact HK.out _ _ rfl (Below.refl _ _)
      |1,_,_=>obtain rfl:=So_ ho;exact eF ho HK Ci (eb (Aj Hb 2))
      |2,_,_=>obtain rfl:=So_ ho;have d1:(a.tmps[121]?.getD undef)= .pointer (some ⟨w.heap.size,0,none⟩):=Be Hd HL 1;clear Hd Hb;have m0:wx.cell? ⟨w.heap.size,0,none⟩=some (.slice (some ⟨gm,0,none⟩) 12 capm):=(GA.cell hG hlg (by simp)).trans x0;refine AI.of rfl ?_;go_simp;exact HK.out _ _ rfl (Below.refl _ _)
      |3,_,_=>obtain rfl:=So_ ho;exact eF ho HK ML (eb (Aj Hb 9))
      |4,_,_=>obtain rfl:=So_ ho;have d3:(a.tmps[123]?.getD undef)= .pointer (some ⟨q,0,none⟩):=Be Hd HL 3;clear Hd Hb;have m0:wx.cell? ⟨q,0,none⟩=some (.int .i64 fr):=(GA.cell hG hlq nqb).trans p0;refine AI.of rfl ?_;go_simp;exact HK.out _ _ rfl (Below.refl _ _)
      |5,_,_=>obtain rfl:=So_ ho;have d2:(a.tmps[122]?.getD undef)= .slice (some ⟨gm,0,none⟩) 12 capm:=Be Hd HL 2;have d4:(a.tmps[124]?.getD undef)= .int .i64 fr:=Be Hd HL 4;clear Hd Hb;refine AI.of rfl ?_;go_simp;exact HK.out _ _ rfl (Below.refl _ _)
      |6,_,_=>obtain rfl:=So_ ho;have d5:(a.tmps[125]?.getD undef)= .pointer (some ⟨gm,fr,none⟩):=Be Hd HL 5;clear Hd Hb;have m0:wx.cell? ⟨gm,fr,none⟩=some (.slice (some ⟨gw,0,none⟩) 4 capw):=(GA.cell hG hgm ngb).trans D;refine AI.of rfl ?_;go_simp;exact HK.out _ _ rfl (Below.refl _ _)
      |7,_,_=>obtain rfl:=So_ ho;exact eF ho HK Sa (eb (Aj Hb 9))
      |8,_,_=>obtain rfl:=So_ ho;have d7:(a.tmps[127]?.getD undef)= .pointer (some ⟨q,1,none⟩):=Be Hd HL 7;clear Hd Hb;have m0:wx.cell? ⟨q,1,none⟩=some (.int .i64 (((an:Int)%4))):=(GA.cell hG hlq nqb).trans p1;refine AI.of rfl ?_;go_simp;exact HK.out _ _ rfl (Below.refl _ _)
      |9,_,_=>obtain rfl:=So_ ho;have d6:(a.tmps[126]?.getD undef)= .slice (some ⟨gw,0,none⟩) 4 capw:=Be Hd HL 6;have d8:(a.tmps[128]?.getD undef)= .int .i64 (((an:Int)%4)):=Be Hd HL 8;clear Hd Hb;refine AI.of rfl ?_;go_simp;exact HK.out _ _ rfl (Below.refl _ _)
      |10,_,_=>obtain rfl:=So_ ho;have d9:(a.tmps[129]?.getD undef)= .pointer (some ⟨gw,an%4,none⟩):=Be Hd HL 9;clear Hd Hb;have m0:wx.cell? ⟨gw,an%4,none⟩=some (.int .i64 wd):=(GA.cell hG hgw nwb).trans Dw;refine AI.of rfl ?_;go_simp;exact HK.out _ _ rfl (Below.refl _ _)
      |11,_,hs=>exact absurd hs (by decide)
      |12,_,_=>obtain rfl:=So_ ho;exact eA ho HK (et (Be Hd HL 10))
      |13,_,_=>obtain rfl:=So_ ho;exact eA ho HK rfl
     ·intro i hi hS o ho a wx Hb ll Hd HL hG K HK
      match i,hi,hS with
      |0,_,hs|1,_,hs|2,_,hs|3,_,hs|4,_,hs|5,_,hs|6,_,hs|7,_,hs|8,_,hs|9,_,hs|10,_,hs=>exact absurd hs (by decide)
      |11,_,_=>
       obtain rfl:=So_ ho;have e4:a.tmps[4]?.getD undef= .pointer (some ⟨w.heap.size+2,0,none⟩):=eg (Aj Hb 4);have d0:(a.tmps[120]?.getD undef)= .agg #[.slice (some ⟨gm,0,none⟩) 12 capm, .slice ai ni ci, .slice (some ⟨ge,0,none⟩) 3 cape, .slice ac9 nc9 cc9]:=Be Hd HL 0;clear Hd Hb;rw[HL.out.1] at hG;replace hG:Below w10.heap.size w10 wx:=hG;have B2:=AF hB2 hG;obtain⟨c0,c1,c2,c3⟩:=AB B2;have hf2:=AM B2;refine AI.of rfl ?_;go_simp;exact HK.out undef _ trivial (by show GA _ _ _ _ _ _ (JK ll 11 11) _;rw[FN];exact⟨wx,hG,Below.refl _ _⟩) (fun j hji hjn hjl hu=>match j,hjn with
        |0,_|1,_|2,_|3,_|4,_|5,_|6,_|7,_|8,_|9,_|10,_=>hu
        |11,_=>absurd rfl hji
        |12,_=>hu
        |13,_=>hu)
      |12,_,hs|13,_,hs=>exact absurd hs (by decide)
     ·intro vs wx ll hall hR hG
      have q12:(vs 12)= .int .i64 wd:=BI hR 12;have q13:(vs 13)= .int .i64 0:=BI hR 13;clear hR;simp only[Dy,Bl,List.range,List.range.loop,List.foldl_cons,List.foldl_nil,q12,q13];simp;clear q12 q13;rw[hall 11 (by decide)] at hG;obtain⟨wz,h1,h2⟩:=hG;have h2':Below (Gf wz (w.heap.size+2) (.slice (some ⟨gm,0,none⟩) 12 capm) (.slice ai ni ci) (.slice (some ⟨ge,0,none⟩) 3 cape) (.slice ac9 nc9 cc9)).heap.size (Gf wz (w.heap.size+2) (.slice (some ⟨gm,0,none⟩) 12 capm) (.slice ai ni ci) (.slice (some ⟨ge,0,none⟩) 3 cape) (.slice ac9 nc9 cc9)) wx:=by simpa[Gf] using h2
      obtain⟨hB9,HR9⟩:=(S10.out.below h1).ret (Nat.le_trans hlo (Nat.le_add_right _ _)) (Nat.le_add_right _ _) (v:=wd) (code:=0) HP4.out;obtain⟨E0,E1,E2,E3⟩:=AB (AF hB9 h2');have HR:=AA (HR9.below (by have:=(S10.out.below h1).lo;simpa using this) h2');have HE:=AA (And.intro E0 (And.intro E1 (And.intro E2 E3)));clear x0 x1 x2 x3 y0 y1 y2 y3 y4 y5 p0 p1 p2 z0 z1 z2 z3 hfz D Dw E0 E1 E2 E3 hB9 HR9 h1 h2 h2' hB2;go_wp2_with fail;obtain⟨E0,E1,E2,E3⟩:=HE.out;exact bodyPost_ret (v:= .tuple #[.agg #[_,_,_,_], .int .i64 wd, .int .i64 0]) (by simp[results,Tryz.results231,go_sem,E0,E1,E2,E3]) rfl HR.out
theorem PR {lo:Nat} {mv iv ev cv:Value} {k:AN} {w:World} (h:Cz lo w mv iv ev cv k) (hlo:lo≤w.heap.size) (hk:De k) (call:AR) (he:0≤call.e∧call.e<3) (h2:call.k=11):
 Calls prog 231 #[.agg #[mv,iv,ev,cv], .agg call.cs] w (GF lo w (AU k call)):=by
 have S0':=SC.start h hlo call;have P0:=(OG (k:=k) (by first|exact .inl h2|exact .inr h2)).trans Pq;have hok:=(AW hk).1;obtain⟨gm,capm,e7,_⟩:=Dm.mems S0' hok;obtain⟨ge,cape,e9,_,_⟩:=S0'.envs (by rw[hk.envl];omega);rw[hk.envl] at e9;obtain⟨am,nm_,cm,ai,ni,ci,ae,ne_,ce,ac,nc,cc,em,ei,ee,ec⟩:=S0'.shapes;subst e7 e9 ei ec;clear em ee;have S0:=AA S0';obtain⟨kk,e,ra,b,c,nm⟩:=call;simp only at he h2;subst h2;obtain⟨en,rfl⟩:∃n:Nat,e=(n:Int):=⟨e.toNat,by omega⟩
 have hen:en<3:=by omega
 have heni:(en:Int)<3:=by omega
 simp only[AR.cs,Int.toNat_natCast] at S0 P0 ⊢;have HP:=AA P0;have HK:=AA hk;have Hok:=AA hok;obtain⟨x0,x1,x2,x3⟩:=S0.out.xs;obtain⟨y0,y1,y2,y3,y4,y5⟩:=S0.out.ys6;obtain⟨_,_,_,D1,_⟩:=S0.out.env (j:=en) (by rw[hk.envl];exact hen);clear h S0' he hk P0 hok;generalize hW0:((w.alloc _).alloc _).alloc _=W0 at*;cases e1:Bk ra 0 63
 ·have HP3:=AA (show AU k ⟨11,(en:Int),ra,b,c,nm⟩=(k,0,3) by rw[HP.out,if_pos (.inl e1)])
  have E1:=AA e1;clear e1 HP;go_in;go_wp2_with fail;refine(Ae (EY _ _)).mono ?_;rintro r w1 ⟨rfl,hb1⟩;rw[E1.out];have S1:=AA (S0.out.below hb1);clear x0 x1 x2 x3 y0 y1 y2 y3 y4 y5 D1 hb1 hW0;obtain⟨x0,x1,x2,x3⟩:=S1.out.xs;obtain⟨⟨z0,z1,z2,z3⟩,hfz⟩:=S1.out.zs;obtain⟨hB9,HR9⟩:=S1.out.bad (Nat.le_trans hlo (Nat.le_add_right _ _)) (Nat.le_add_right _ _) (v:=0) (code:=3) (HP3.out) (by decide);have HE:=AA (AB hB9);have HR:=AA HR9;clear hB9 HR9;go_wp2_with ((try simp only[Exit.inBlock,Exit.then]);with_reducible refine bodyPost_ret (v:= .tuple #[.agg #[_,_,_,_], .int .i64 (0), .int .i64 (3)]) ?_ rfl HR.out;obtain⟨E0,E1,E2,E3⟩:=HE.out;simp[results,Tryz.results231,go_sem,E0,E1,E2,E3])
 ·have E1:=AA e1
  have ab:=AZ.1 e1;obtain⟨an,rfl⟩:∃n:Nat,ra=(n:Int):=⟨ra.toNat,by omega⟩
  have han:an<64:=by omega
  clear ab e1;generalize hrt:(AC k.envs en).root=rt at*;have hrt0:=AA hrt
  by_cases h0:rt<0
  ·have HP3:=AA (show AU k ⟨11,(en:Int),(an:Int),b,c,nm⟩=(k,0,3) by rw[HP.out,if_pos (.inr (.inl h0))])
   clear HP hrt;go_in;go_wp2_with fail;refine(Ae (EY _ _)).mono ?_;rintro r w1 ⟨rfl,hb1⟩;rw[E1.out];have S1:=AA (S0.out.below hb1);clear x0 x1 x2 x3 y0 y1 y2 y3 y4 y5 D1 hb1 hW0;obtain⟨x0,x1,x2,x3⟩:=S1.out.xs;obtain⟨⟨z0,z1,z2,z3⟩,hfz⟩:=S1.out.zs;obtain⟨hB9,HR9⟩:=S1.out.bad (Nat.le_trans hlo (Nat.le_add_right _ _)) (Nat.le_add_right _ _) (v:=0) (code:=3) (HP3.out) (by decide);have HE:=AA (AB hB9);have HR:=AA HR9;clear hB9 HR9;go_wp2_with ((try simp only[Exit.inBlock,Exit.then]);with_reducible refine bodyPost_ret (v:= .tuple #[.agg #[_,_,_,_], .int .i64 (0), .int .i64 (3)]) ?_ rfl HR.out;obtain⟨E0,E1,E2,E3⟩:=HE.out;simp[results,Tryz.results231,go_sem,E0,E1,E2,E3])
  ·obtain⟨rn,rfl⟩:∃n:Nat,rt=(n:Int):=⟨rt.toNat,by omega⟩
   have hr12:rn<12:=by have:=root_lt HK.out hen;omega
   cases hwb:E9 b
   ·have HP3:=AA (show AU k ⟨11,(en:Int),(an:Int),b,c,nm⟩=(k,0,3) by rw[HP.out,if_pos (.inr (.inr ⟨by first|rfl|trivial,hwb⟩))])
    have HW:=AA (show Bk b 0 9999=false from hwb);clear HP hrt hwb h0;go_in;go_wp2_with fail;refine(Ae (EY _ _)).mono ?_;rintro r w1 ⟨rfl,hb1⟩;rw[E1.out];have S1:=AA (S0.out.below hb1);clear x0 x1 x2 x3 y0 y1 y2 y3 y4 y5 D1 hb1 hW0;obtain⟨y0,y1,y2,y3,y4,y5⟩:=S1.out.ys6;go_wp2_with fail;refine(Ae (DV _ _ _ _)).mono ?_;rintro r w2 ⟨rfl,hb2⟩;rw[HW.out];have S2:=AA (S1.out.below hb2);clear y0 y1 y2 y3 y4 y5 hb2;obtain⟨x0,x1,x2,x3⟩:=S2.out.xs;obtain⟨⟨z0,z1,z2,z3⟩,hfz⟩:=S2.out.zs;obtain⟨hB9,HR9⟩:=S2.out.bad (Nat.le_trans hlo (Nat.le_add_right _ _)) (Nat.le_add_right _ _) (v:=0) (code:=3) (HP3.out) (by decide);have HE:=AA (AB hB9);have HR:=AA HR9;clear hB9 HR9;go_wp2_with ((try simp only[Exit.inBlock,Exit.then]);with_reducible refine bodyPost_ret (v:= .tuple #[.agg #[_,_,_,_], .int .i64 (0), .int .i64 (3)]) ?_ rfl HR.out;obtain⟨E0,E1,E2,E3⟩:=HE.out;simp[results,Tryz.results231,go_sem,E0,E1,E2,E3])
   ·have HW:=AA (show Bk b 0 9999=true from hwb)
    have hpu:=(show AU k ⟨11,(en:Int),(an:Int),b,c,nm⟩=_ by rw[HP.out,if_neg (by rintro(x|x|⟨_,x⟩);(· rw[E1.out] at x;cases x);(· exact h0 x);(· rw[hwb] at x;cases x))]);simp only[Int.toNat_natCast] at hpu;have HPU:=AA hpu;clear hpu;clear HP hrt hwb h0;go_in;go_wp2_with fail;refine(Ae (EY _ _)).mono ?_;rintro r w1 ⟨rfl,hb1⟩;rw[E1.out];have S1:=AA (S0.out.below hb1);clear x0 x1 x2 x3 y0 y1 y2 y3 y4 y5 D1 hb1 hW0;obtain⟨y0,y1,y2,y3,y4,y5⟩:=S1.out.ys6;go_wp2_with fail;refine(Ae (DV _ _ _ _)).mono ?_;rintro r w2 ⟨rfl,hb2⟩;rw[HW.out];have S2:=AA (S1.out.below hb2);clear y0 y1 y2 y3 y4 y5 hb2;obtain⟨x0,x1,x2,x3⟩:=S2.out.xs;obtain⟨y0,y1,y2,y3,y4,y5⟩:=S2.out.ys6;have CF:=AA (Mz _ k.cache (en:Int) ((an:Int)/4) w2 S2.out.K.2.2.2);go_wp2_with fail;refine CF.out.mono ?_;rintro r w3 ⟨rfl,hb3⟩;have S3:=AA (S2.out.below hb3);clear x0 x1 x2 x3 y0 y1 y2 y3 y4 y5 hb3 CF;obtain⟨x0,x1,x2,x3⟩:=S3.out.xs;obtain⟨y0,y1,y2,y3,y4,y5⟩:=S3.out.ys6;have FC:=AA (fun h=>Mp (c:=k.cache) (e:=(en:Int)) (p:=((an:Int)/4)) h);generalize hat:FX k.cache (en:Int) ((an:Int)/4)=at_ at*;have Hat:=AA hat;clear hat;go_upto_if 52 with fail;have hb5:=AG w3 (.cells #[.int .i64 0, .int .i64 ((an:Int)%4), .bool false] 142);have n5:=heap_alloc_new w3 (.cells #[.int .i64 0, .int .i64 ((an:Int)%4), .bool false] 142);have hql:=S3.out.lts.2.1;have S5:=AA (S3.out.below hb5);have Hqlo:=AA S3.out.lo;have Hb5:=AA hb5;have hb5l:=hb5.size;clear x0 x1 x2 x3 y0 y1 y2 y3 y4 y5 hb5;generalize hW5:w3.alloc _=W5 at*;generalize hqq:w3.heap.size=q at*;have Hqq:=AA hqq;clear hqq;have N5:=AA n5;clear n5 hW5;have hqg:q≠w.heap.size:=by omega
    have hgq:w.heap.size≠q:=by omega
    go_cut [10,11] (fun s10 s11 wx=>∃(fr:Nat) (wb:Bool),fr<12∧BV k.mem rn an=(0,fr,wb)∧(SC lo w.heap.size ⟨11,(en:Int),(an:Int),b,c,nm⟩ w wx (.slice (some ⟨gm,0,none⟩) 12 capm) (.slice ai ni ci) (.slice (some ⟨ge,0,none⟩) 3 cape) (.slice ac nc cc) k)∧wx.heap[q]? =some (.cells #[.int .i64 fr, .int .i64 ((an:Int)%4), .bool wb] 142 (0,0)))
    case first=>
     obtain⟨x0,x1,x2,x3⟩:=S5.out.xs;obtain⟨y0,y1,y2,y3,y4,y5⟩:=S5.out.ys6;obtain⟨c0,c1,c2⟩:=ET N5.out;have hfz:=AM N5.out
     by_cases hlt:at_<0
     ·have CW:=AA (My _ k.mem rn an W5 S5.out.K.1 Hok.out hr12 han)
      go_wp2_with fail;refine CW.out.mono ?_;rintro r w6 ⟨rfl,hb6⟩;have S6:=AA (S5.out.below hb6);have N6:=AA (AF N5.out hb6);clear x0 x1 x2 x3 y0 y1 y2 y3 y4 y5 c0 c1 c2 hfz hb6 CW;rw[show GE k.mem rn an= .tuple #[if(BV k.mem rn an).1=0 then IX (BV k.mem rn an).2.1 an (BV k.mem rn an).2.2 else Db, .int .i64 (BV k.mem rn an).1] from rfl];have Hwf:=AA (fun fr wb (h:BV k.mem rn an=(0,fr,wb))=>Na h);generalize hwk:BV k.mem rn an=res at*;clear hwk;obtain⟨cd,fr,wb⟩:=res
      by_cases hcd:cd=0
      ·subst hcd
       have hfr:=Hwf.out fr wb rfl;rw[if_pos rfl];unfold IX;rw[show((an%4:Nat):Int)=(an:Int)%4 by omega];have B7:=AG w6 (.cells #[.int .i64 fr, .int .i64 ((an:Int)%4), .bool wb] 142);obtain⟨T8,n8⟩:=(S6.out.below B7).place (by decide) (AF N6.out B7) (Nat.le_trans Hqlo.out (Nat.le_refl _)) (.int .i64 fr) (.int .i64 ((an:Int)%4)) (.bool wb);have T8:=AA T8;have N8:=AA n8;obtain⟨c0,c1,c2⟩:=ET (AF N6.out B7);have hfz:=AM (AF N6.out B7);have hq6:q≠w6.heap.size:=by have:=Ao N6.out;omega
       have hq6':w6.heap.size≠q:=fun e=>hq6 e.symm
       clear B7 n8;go_wp2_with fail;go_meet
       case rel=>exact⟨fr,wb,hfr,rfl,T8.out,N8.out⟩
      ·rw[if_neg hcd]
       unfold Db;have B7:=AG w6 (.cells #[.int .i64 0, .int .i64 0, .bool false] 142);have S7:=AA (S6.out.below B7);have hcd':(cd !=0)=true:=by simp[hcd]
       have HP3:=AA (show AU k ⟨11,(en:Int),(an:Int),b,c,nm⟩=(k,0,3) by rw[HPU.out];simp[hcd]);clear B7;obtain⟨x0,x1,x2,x3⟩:=S7.out.xs;obtain⟨⟨z0,z1,z2,z3⟩,hfz⟩:=S7.out.zs;obtain⟨hB9,HR9⟩:=S7.out.bad (Nat.le_trans hlo (Nat.le_add_right _ _)) (Nat.le_add_right _ _) (v:=0) (code:=3) (HP3.out) (by decide);have HE:=AA (AB hB9);have HR:=AA HR9;clear hB9 HR9;go_wp2_with ((try simp only[Exit.inBlock,Exit.then]);with_reducible refine bodyPost_ret (v:= .tuple #[.agg #[_,_,_,_], .int .i64 (0), .int .i64 (3)]) ?_ rfl HR.out;obtain⟨E0,E1,E2,E3⟩:=HE.out;simp[results,Tryz.results231,go_sem,E0,E1,E2,E3])
     ·obtain⟨j,hj,ej,hs⟩:=FC.out (by omega)
      rw[show(an:Int)/4=((an/4:Nat):Int) by omega] at hs;obtain⟨fr,hfr,hcj,hwk⟩:=Ll HK.out hj hs rfl;generalize(Ac k.cache j).w=wb at hcj hwk;obtain⟨a8,c8,e8,_,_,H8⟩:=A3.open Bi (by decide) S3.out.K.2.2.2;cases e8;obtain⟨bc,offc,rfl,hbc,D0,D1,D2,D3⟩:=H8.cachedCells hj;rw[hcj] at D2 D3;rw[Hqq.out] at hbc;simp only at D2 D3;have D2w:=(Hb5.out.cell (p:=⟨bc,offc+j*4+2,none⟩) hbc).trans D2;have D3w:=(Hb5.out.cell (p:=⟨bc,offc+j*4+3,none⟩) hbc).trans D3;obtain⟨T8,n8⟩:=S5.out.place2 (by decide) N5.out (Nat.le_trans Hqlo.out (Nat.le_refl _)) (.int .i64 fr) (.bool wb);have T8:=AA T8;have N8:=AA n8;have hji:(j:Int)<k.cache.length:=by omega
      have hbcq:bc≠q:=by omega
      have hqbc:q≠bc:=by omega
      rw[hrt0.out] at hwk;rw[Int.toNat_natCast] at hwk;subst ej;clear hs hcj D0 D1 D2 D3 n8 H8;go_wp2_with fail;go_meet
      case rel=>exact⟨fr,wb,hfr,hwk,T8.out,N8.out⟩
    case rest=>
     obtain⟨fr,wb,hfr,hwk,s8,n8⟩:=hcut;generalize wc=w8 at*;have S8:=AA s8;have N8:=AA n8;have hpu:=HPU.out;rw[hwk,show((an:Int)%4).toNat=an%4 by omega] at hpu;clear s8 n8 HPU hwk;obtain⟨x0,x1,x2,x3⟩:=S8.out.xs;obtain⟨y0,y1,y2,y3,y4,y5⟩:=S8.out.ys6;obtain⟨p0,p1,p2⟩:=ET N8.out
     by_cases hwb:wb=false
     ·subst hwb
      have HP3:=AA (show AU k ⟨11,(en:Int),(an:Int),b,c,nm⟩=(k,0,1) by rw[hpu];rfl);clear hpu;obtain⟨x0,x1,x2,x3⟩:=S8.out.xs;obtain⟨⟨z0,z1,z2,z3⟩,hfz⟩:=S8.out.zs;obtain⟨hB9,HR9⟩:=S8.out.bad (Nat.le_trans hlo (Nat.le_add_right _ _)) (Nat.le_add_right _ _) (v:=0) (code:=1) (HP3.out) (by decide);have HE:=AA (AB hB9);have HR:=AA HR9;clear hB9 HR9;go_wp2_with ((try simp only[Exit.inBlock,Exit.then]);with_reducible refine bodyPost_ret (v:= .tuple #[.agg #[_,_,_,_], .int .i64 (0), .int .i64 (1)]) ?_ rfl HR.out;obtain⟨E0,E1,E2,E3⟩:=HE.out;simp[results,Tryz.results231,go_sem,E0,E1,E2,E3])
     ·have HP3:=AA (show AU k ⟨11,(en:Int),(an:Int),b,c,nm⟩=({k with mem:=Ch k.mem fr (an%4) b,cache:=Ee k.cache (en:Int) ((an:Int)/4) fr wb},0,0) by rw[hpu];simp[hwb])
      have hnb:(!wb)=false:=by simpa using hwb
      clear hpu hwb;go_upto_if 90 with fail;clear x0 x1 x2 x3 y0 y1 y2 y3 y4 y5 p0 p1 p2;go_cut [] (fun wx=>∃cv,(SC lo w.heap.size ⟨11,(en:Int),(an:Int),b,c,nm⟩ w wx (.slice (some ⟨gm,0,none⟩) 12 capm) (.slice ai ni ci) (.slice (some ⟨ge,0,none⟩) 3 cape) cv {k with cache:=Ee k.cache (en:Int) ((an:Int)/4) fr wb})∧wx.heap[q]? =some (.cells #[.int .i64 fr, .int .i64 ((an:Int)%4), .bool wb] 142 (0,0)))
      case first=>
       by_cases hlt:at_<0
       ·obtain⟨x0,x1,x2,x3⟩:=S8.out.xs
        obtain⟨y0,y1,y2,y3,y4,y5⟩:=S8.out.ys6;obtain⟨p0,p1,p2⟩:=ET N8.out;have CP:=AA (ON _ k.cache ⟨(en:Int),(an:Int)/4,(fr:Int),wb⟩ w8 S8.out.K.2.2.2 (GQ HK.out));go_wp2_with fail;refine CP.out.mono ?_;rintro r w9 ⟨v',rfl,hO,hb9⟩;have T9:=AA (S8.out.cache hb9 hO);have N9:=AA (show(w9.setCell ⟨w.heap.size,3,none⟩ v').heap[q]? =_ from BD (AF N8.out hb9) (Al w9 w.heap.size 3 v') hgq);have hU:=AA (show Ee k.cache (en:Int) ((an:Int)/4) fr wb=FM k.cache ⟨(en:Int),(an:Int)/4,(fr:Int),wb⟩ by unfold Ee;rw[Hat.out,if_pos hlt]);have fzg:=AM (S8.out.below hb9).ink.1;have x3o:=(S8.out.below hb9).xs.2.2.2;clear x0 x1 x2 x3 y0 y1 y2 y3 y4 y5 p0 p1 p2 CP;obtain⟨a9,c9,e9,_,_⟩:=hO.rd.shape;generalize List.length _=n9 at e9;subst e9;clear hO hb9;go_wp2_with fail;go_meet
        case rel=>exact⟨_,by rw[hU.out];exact T9.out,N9.out⟩
       ·have hU:=AA (show Ee k.cache (en:Int) ((an:Int)/4) fr wb=k.cache by unfold Ee;rw[Hat.out,if_neg (by omega)])
        go_wp2_with fail;go_meet
        case rel=>exact⟨_,by rw[hU.out];exact S8.out,N8.out⟩
      case rest=>
       obtain⟨cv,s10,n10⟩:=hcut;generalize wc=w10 at*;have S10:=AA s10;have N10:=AA n10;obtain⟨ac9,c9,e9,_,_⟩:=(s10.K.2.2.2).shape;generalize List.length _=nc9 at e9;subst e9;generalize c9=cc9 at*;clear s10 n10 S8 N8;obtain⟨x0,x1,x2,x3⟩:=S10.out.xs;obtain⟨y0,y1,y2,y3,y4,y5⟩:=S10.out.ys6;obtain⟨p0,p1,p2⟩:=ET N10.out;obtain⟨hlb,hlg,_,_⟩:=S10.out.lts;have hlq:=Ao N10.out;obtain⟨gw,capw,D,hgw,hcw,_⟩:=Dm.mrow S10.out Hok.out hfr;have hgm:gm<w10.heap.size:=World.block_lt_of_cell? _ _ D;have hfri:(fr:Int)<12:=by omega
       have h4i:(an:Int)%4<4:=by omega
       have HP4:=AA (show AU k ⟨11,(en:Int),(an:Int),b,c,nm⟩=({k with mem:=Ch k.mem fr (an%4) b,cache:=Ee k.cache (en:Int) ((an:Int)/4) fr wb},0,0) from HP3.out);go_wp2_with fail;refine AH 10 mixed (by kernel_rfl) 131 rfl (by kernel_rfl) (fun ix vv ww=>match ix with
        |0=>vv= .pointer (some ⟨w.heap.size,0,none⟩)
        |1=>vv= .slice (some ⟨gm,0,none⟩) 12 capm
        |2=>vv= .pointer (some ⟨q,0,none⟩)
        |3=>vv= .int .i64 fr
        |4=>vv= .pointer (some ⟨gm,fr,none⟩)
        |5=>vv= .slice (some ⟨gw,0,none⟩) 4 capw
        |6=>vv= .pointer (some ⟨q,1,none⟩)
        |7=>vv= .int .i64 (((an:Int)%4))
        |8=>vv= .pointer (some ⟨w.heap.size+1,3,none⟩)
        |9=>vv= .int .i64 b
        |_=>True) ?_ ?_ ?_
       ·intro i hi vv wz ww' hbz hz
        match i,hi with
        |0,_|1,_|2,_|3,_|4,_|5,_|6,_|7,_|8,_|9,_=>exact hz
       ·intro i hi o ho a wx Hb Hd hG K HK
        match i,hi with
        |0,_=>exact eF ho HK Ci (eb (Aj Hb 2))
        |1,_=>exact eL ho HK (et (AD Hd 0)) (Fd (bc hG hlg x0))
        |2,_=>exact eF ho HK ML (eb (Aj Hb 9))
        |3,_=>exact eL ho HK (et (AD Hd 2)) (DA (bc hG hlq p0))
        |4,_=>obtain rfl:=So_ ho;have d1:(a.tmps[109]?.getD undef)= .slice (some ⟨gm,0,none⟩) 12 capm:=AD Hd 1;have d3:(a.tmps[111]?.getD undef)= .int .i64 fr:=AD Hd 3;clear Hd Hb;refine AI.of rfl ?_;go_simp;exact HK.out _ _ rfl (Below.refl _ _)
        |5,_=>exact eL ho HK (et (AD Hd 4)) (Qh (bc hG hgm D))
        |6,_=>exact eF ho HK Sa (eb (Aj Hb 9))
        |7,_=>exact eL ho HK (et (AD Hd 6)) (DA (bc hG hlq p1))
        |8,_=>exact eF ho HK Gp (eb (Aj Hb 3))
        |9,_=>exact eL ho HK (et (AD Hd 8)) (DA (bc hG hlb y3))
       ·intro vs wx hR hG
        have q5:(vs 5)= .slice (some ⟨gw,0,none⟩) 4 capw:=BI hR 5;have q7:(vs 7)= .int .i64 (((an:Int)%4)):=BI hR 7;have q9:(vs 9)= .int .i64 b:=BI hR 9;clear hR;simp only[Ai,AX,List.range,List.range.loop,List.foldl_cons,List.foldl_nil,q5,q7,q9];simp;clear q5 q7 q9;have S11:=AA (S10.out.below hG);obtain⟨gw2,capw2,D2,_,_,hC,Fr,_,_,hxx,hS⟩:=Dm.mrow S11.out Hok.out hfr;clear hxx;have eD:=D2.symm.trans ((hG.cell (p:=⟨gm,fr,none⟩) hgm).trans D);cases eD;have D3:=hC (an%4) (by omega);have S12:=AA (hS (an%4) b (by omega));generalize hW9:wx.setCell _ _=W9 at S12;clear x0 x1 x2 x3 y0 y1 y2 y3 y4 y5 p0 p1 p2 D D2 hS hG S10 hC hnb hfri h4i hgw hcw hgm hlb hlg hlq;obtain⟨x0,x1,x2,x3⟩:=S12.out.xs;obtain⟨⟨z0,z1,z2,z3⟩,hfz⟩:=S12.out.zs;obtain⟨hB9,HR9⟩:=S12.out.ret (Nat.le_trans hlo (Nat.le_add_right _ _)) (Nat.le_add_right _ _) (v:=0) (code:=0) (HP4.out);have HE:=AA (AB hB9);have HR:=AA HR9;clear hB9 HR9;go_wp2_with ((try simp only[Exit.inBlock,Exit.then]);with_reducible refine bodyPost_ret (v:= .tuple #[.agg #[_,_,_,_], .int .i64 (0), .int .i64 (0)]) ?_ rfl HR.out;obtain⟨E0,E1,E2,E3⟩:=HE.out;simp[results,Tryz.results231,go_sem,E0,E1,E2,E3])
def Ve (w w':World):Prop:=∀(b:Nat) (cu:Array Value),w.heap[b]? =some (.cells cu 29 (0,0))→w'.heap[b]? =w.heap[b]?
theorem GF.up {T:Nat} {cs:Array Value} {lo b0 b:Nat} {w W W1:World} {m i e c m' i' e' c':Value} {k:AN} {res:LB} (h:Dm T cs [b] lo w.heap.size b0 w W m i e c k) (hlo:lo≤b) (hgb:w.heap.size≤b)
 (hs:Vz m' i' e' c') (hK:res.2.2=0→Cz lo W1 m' i' e' c' res.1) (hb:Below lo W W1) (hf:Ve W W1):
 W1.heap[b]? =some (.cells #[.slice none 0 0, .slice none 0 0, .slice none 0 0, .slice none 0 0] 29 (0,0))∧
 ((((W1.setCell ⟨b,0,none⟩ m').setCell ⟨b,1,none⟩ i').setCell ⟨b,2,none⟩ e').setCell ⟨b,3,none⟩ c').heap[b]? =some (.cells #[m',i',e',c'] 29 (0,0))∧
 GF lo w res (.returned (.tuple #[.agg #[m',i',e',c'], .int .i64 res.2.1, .int .i64 res.2.2])) ((((W1.setCell ⟨b,0,none⟩ m').setCell ⟨b,1,none⟩ i').setCell ⟨b,2,none⟩ e').setCell ⟨b,3,none⟩ c'):=by
 obtain⟨hne,hB0⟩:=h.rs b (List.mem_singleton.2 rfl);have hB:=(hf b _ hB0).trans hB0;have hgr:=Ab (Ab (Ab (Al W1 b 0 m') 1 i') 2 e') 3 c';refine⟨hB,DJ hB,m',i',e',c',rfl,hs,fun hc=>?_,((((h.bel.trans hb).setCell hlo _).setCell hlo _).setCell hlo _).setCell hlo _,fun q cu hq=>?_⟩
 ·obtain⟨⟨vs,o1⟩,o2,⟨ps,o3⟩,o4⟩:=hK hc
  exact⟨⟨vs,o1.far hgr hB (by decide) (by decide)⟩,o2.far hgr hB (by decide),⟨ps,o3.far hgr hB (by decide) (by decide)⟩,o4.far hgr hB (by decide)⟩
 ·have e1:=(h.kf q cu (by have:=Ao hq;omega) hq).trans hq
  have e2:=(hf q cu e1).trans e1;exact(BD e2 hgr (by have:=Ao hq;omega)).trans hq.symm
end Go.Proofs.YtnieoiclifjoaaaGreatDoor
