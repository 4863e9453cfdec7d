/-
  Packed:5 texts.
-/
import Derived.Test.YtnieoiclifjoaaaGreatDoorY7
import Derived.Test.YtnieoiclifjoaaaGreatDoorY9
import Derived.Deep.DeepCutAuto
import Derived.Deep.CutBlock
import Derived.Test.YtnieoiclifjoaaaGreatDoorY11
import Derived.Test.YtnieoiclifjoaaaGreatDoorY12
import Derived.Test.YtnieoiclifjoaaaGreatDoorY10
import Derived.Test.YtnieoiclifjoaaaGreatDoorY5
import Derived.Test.YtnieoiclifjoaaaGreatDoorY4
set_option linter.unusedVariables false
set_option maxHeartbeats 16000000
set_option maxRecDepth 100000
namespace Go.Proofs.YtnieoiclifjoaaaGreatDoor
open Go.Proofs.Tryz
open Go.RowKit
theorem Mo (x:Int):∃(fn:Nat) (wr:Bool),PI x= .tuple #[.int .i64 fn, .bool wr, .bool (BX x)]∧fn<12∧(BX x=true→fn=Ax x):=by
 cases h:BX x
 ·exact⟨0,false,Do h,by decide,fun h=>by cases h⟩
 ·exact⟨Ax x,Iw x,Di h,DZ h,fun _=>rfl⟩
theorem Pu {k:AN} {a e:Nat} (h:e∈Eo k a):e<3:=by rw[←Eg] at h;exact SV h
theorem T5 {k:AN} {a:Nat}:(Eo k a).length≤3:=by rw[←Eg];exact Gi
theorem Ub {k:AN} {c:AR} (h:Dl k c=true) (ht:Ba (infoAt k.infos c.a.toNat).k=true):BX c.c=true→(infoAt k.infos (Ax c.c)).k≠3:=by intro hg;unfold Dl at h;rw[if_pos hg,decide_eq_true_eq] at h;simp only[Ba,Bool.or_eq_true,decide_eq_true_eq] at ht;omega
theorem NI {infos:List AQ} {x n:Int} (h:BX x=false):A1 infos x n=infos:=by unfold A1;rw[if_neg (by rw[h];decide)]
theorem Oe {infos:List AQ} {x n:Int} {f:Nat} (h:BX x=true) (hf:f=Ax x):A1 infos x n=AV infos f (DK n):=by unfold A1;rw[if_pos h,hf]
theorem Rj {lo:Nat} {mv iv ev cv:Value} {k:AN} {w:World} (h:Cz lo w mv iv ev cv k) (hlo:lo≤w.heap.size) (hk:De k) (call:AR) (he:0≤call.e∧call.e<3) (h2:call.k=6) (hc:call.c≤9223372036854775807):
 Calls prog 228 #[.agg #[mv,iv,ev,cv], .agg call.cs] w (GF lo w (AU k call)):=by
 have S0':=SC.start h hlo call;have P0:=TA (k:=k) h2;have FZ:=AA (fun hz=>Hg (k:=k) (c:=call) (kind:=0) hz);have hok:=(AW hk).1;obtain⟨gm,capm,e7,_⟩:=Dm.mems S0' hok;obtain⟨ge,cape,e9,_,_⟩:=S0'.envs (by rw[hk.envl];omega);rw[hk.envl] at e9;obtain⟨gi,capi,e8,_,_⟩:=S0'.infos (by rw[hk.len];omega);rw[hk.len] at e8;obtain⟨am,nm_,cm,ai,ni,ci,ae,ne_,ce,ac,nc,cc,em,ei,ee,ec⟩:=S0'.shapes;subst e7 e8 e9 ec;clear em ei ee;have S0:=AA S0';obtain⟨kk,e,ra,b,c,nm⟩:=call;simp only at he h2 hc;subst h2;obtain⟨en,rfl⟩:∃n:Nat,e=(n:Int):=⟨e.toNat,by omega⟩
 have hen:en<3:=by omega
 have heni:(en:Int)<3:=by omega
 simp only[AR.cs] at S0 P0 FZ ⊢;have HP:=AA P0;have HK:=AA hk;have Hok:=AA hok;have CF:=AA (fun W (h:Mb W (.slice (some ⟨gm,0,none⟩) 12 capm) (.slice (some ⟨gi,0,none⟩) 12 capi) (.slice (some ⟨ge,0,none⟩) 3 cape) (.slice ac nc cc) k)=>JA _ _ _ _ k 6 (en:Int) ra b c nm 0 W h hk he (.inl rfl));have CG:=AA (fun W=>Ae (Cc c W hc));have Hc:=AA hc;obtain⟨x0,x1,x2,x3⟩:=S0.out.xs;obtain⟨y0,y1,y2,y3,y4,y5⟩:=S0.out.ys6;generalize hfc:BZ k ⟨6,(en:Int),ra,b,c,nm⟩ 0=fc at*;clear h S0' he hk P0 hok hfc hc;generalize hW0:((w.alloc _).alloc _).alloc _=W0 at*;go_in;go_wp2_with fail;refine(CF.out _ S0.out.K).mono ?_;rintro r w1 ⟨rfl,hb1⟩;have S1:=AA (S0.out.below hb1);clear x0 x1 x2 x3 y0 y1 y2 y3 y4 y5 hb1 CF hW0
 by_cases ef:fc=0
 ·subst ef
  obtain⟨hin,_,hm,_,htk⟩:=FZ.out rfl;have ab:=AZ.1 hin;obtain⟨an,rfl⟩:∃n:Nat,ra=(n:Int):=⟨ra.toNat,by omega⟩
  have han:an<12:=by omega
  have hani:(an:Int)<12:=by omega
  have HP2:=AA (show AU k ⟨6,(en:Int),(an:Int),b,c,nm⟩=U6 k ⟨6,(en:Int),(an:Int),b,c,nm⟩ by rw[HP.out];rfl);have Htk:=AA (htk (by first|rfl|trivial));obtain⟨x0,x1,x2,x3⟩:=S1.out.xs;obtain⟨y0,y1,y2,y3,y4,y5⟩:=S1.out.ys6;clear hin hm htk ab FZ HP;go_wp2_with fail;refine(CG.out _).mono ?_;rintro r w2 ⟨rfl,hb2⟩;have S2:=AA (S1.out.below hb2);obtain⟨fn,wf,hV,hfn,hfe⟩:=Mo c;rw[hV];clear x0 x1 x2 x3 y0 y1 y2 y3 y4 y5 hb2 hV CG S0 S1;obtain⟨x0,x1,x2,x3⟩:=S2.out.xs;obtain⟨y0,y1,y2,y3,y4,y5⟩:=S2.out.ys6;obtain⟨hlb,hlg,_,_⟩:=S2.out.lts;have hgi:=S2.out.gi_lt;obtain⟨d0,_,_⟩:=S2.out.infoAt (f:=an) (by rw[HK.out.len];exact han);obtain⟨f0,_,_⟩:=S2.out.infoAt (f:=fn) (by rw[HK.out.len];exact hfn);have CB:=AA (fun W (hW:Below w2.heap.size w2 W)=>Ae (DV b 0 3 W));have CK:=AA (fun W (hW:Below w2.heap.size w2 W)=>Ae (IV c W));have hfni:(fn:Int)<12:=by omega
  obtain⟨okb,hokb⟩:∃okb,okb=(Bk b 0 3&&Dl k ⟨6,(en:Int),(an:Int),b,c,nm⟩):=⟨_,rfl⟩
  have Hokb:=AA hokb;have HFe:=AA hfe;generalize hsm:BX c=sm at*;have Hsm:=AA hsm;clear hokb hfe hsm;go_wp2_with fail;go_cut [60] (fun s60 wx=>s60= .bool (!okb)∧Dm 44 #[.int .i64 6, .int .i64 en, .int .i64 an, .int .i64 b, .int .i64 c, .string nm] [w.heap.size+2] lo w.heap.size (w.heap.size+1) w wx (.slice (some ⟨gm,0,none⟩) 12 capm) (.slice (some ⟨gi,0,none⟩) 12 capi) (.slice (some ⟨ge,0,none⟩) 3 cape) (.slice ac nc cc) k)
  case first=>
   have OK0:(decide (0≤b)&&decide (b≤3))=Bk b 0 3:=rfl;clear OK0;cases hb3:Bk b 0 3
   ·have E:=AA (show okb=false by rw[Hokb.out,hb3];rfl)
    rw[hb3] at CB;clear hb3 d0 f0;refine AH 29 mixed (by kernel_rfl) 167 rfl (by kernel_rfl) (fun ix vv ww=>match ix with
     |0=>vv= .pointer (some ⟨w.heap.size+1,3,none⟩)
     |1=>vv= .int .i64 b
     |2=>vv= .bool false
     |3=>vv= .bool true
     |4=>vv= .bool true
     |5|6|7|8=>vv=undef
     |9=>vv= .bool true
     |10=>vv= .bool true
     |11|12|13|14|15|16|17|18|19|20|21|22|23|24|25|26|27|28=>vv=undef
     |_=>True) ?_ ?_ ?_
    ·intro i hi vv wz ww' hbz hz
     match i,hi with
     |0,_|1,_|2,_|3,_|4,_|5,_|6,_|7,_|8,_|9,_|10,_|11,_|12,_|13,_|14,_|15,_|16,_|17,_|18,_|19,_|20,_|21,_|22,_|23,_|24,_|25,_|26,_|27,_|28,_=>exact hz
     |_+29,hq=>exact absurd hq (by omega)
    ·intro i hi o ho a wx Hb Hd hG K HK
     match i,hi with
     |0,_=>exact eF ho HK Gp (eb (Aj Hb 3))
     |1,_=>exact eL ho HK (et (AD Hd 0)) (DA (bc hG hlb y3))
     |2,_=>obtain rfl:=So_ ho;have d1:(a.tmps[32]?.getD undef)= .int .i64 b:=AD Hd 1;clear Hd Hb;refine AI.of rfl ?_;go_simp;refine(CB.out _ hG).mono ?_;rintro e w_ ⟨rfl,hb2⟩;exact HK.out _ _ rfl hb2
     |3,_=>exact eN ho HK (et (AD Hd 2))
     |4,_=>exact eM ho HK (et (AD Hd 3))
     |5,_|6,_|7,_|8,_=>exact eB ho HK (AD Hd 4)
     |9,_=>exact eT ho HK (et (AD Hd 4)) rfl
     |10,_=>exact eM ho HK (et (AD Hd 9))
     |11,_|12,_=>exact eB ho HK (AD Hd 10)
     |13,_=>obtain rfl:=So_ ho;have d12:(a.tmps[43]?.getD undef)=undef:=AD Hd 12;clear Hd Hb;exact AI.un rfl rfl d12 (HK.out _ _ rfl (Below.refl _ _))
     |14,_=>obtain rfl:=So_ ho;have d12:(a.tmps[43]?.getD undef)=undef:=AD Hd 12;clear Hd Hb;exact AI.un rfl rfl d12 (HK.out _ _ rfl (Below.refl _ _))
     |15,_=>obtain rfl:=So_ ho;have d12:(a.tmps[43]?.getD undef)=undef:=AD Hd 12;clear Hd Hb;exact AI.un rfl rfl d12 (HK.out _ _ rfl (Below.refl _ _))
     |16,_=>obtain rfl:=So_ ho;have d12:(a.tmps[43]?.getD undef)=undef:=AD Hd 12;clear Hd Hb;exact AI.un rfl rfl d12 (HK.out _ _ rfl (Below.refl _ _))
     |17,_=>obtain rfl:=So_ ho;have d12:(a.tmps[43]?.getD undef)=undef:=AD Hd 12;clear Hd Hb;exact AI.un rfl rfl d12 (HK.out _ _ rfl (Below.refl _ _))
     |18,_=>obtain rfl:=So_ ho;have d12:(a.tmps[43]?.getD undef)=undef:=AD Hd 12;clear Hd Hb;exact AI.un rfl rfl d12 (HK.out _ _ rfl (Below.refl _ _))
     |19,_=>obtain rfl:=So_ ho;have d12:(a.tmps[43]?.getD undef)=undef:=AD Hd 12;clear Hd Hb;exact AI.un rfl rfl d12 (HK.out _ _ rfl (Below.refl _ _))
     |20,_=>obtain rfl:=So_ ho;have d12:(a.tmps[43]?.getD undef)=undef:=AD Hd 12;clear Hd Hb;exact AI.un rfl rfl d12 (HK.out _ _ rfl (Below.refl _ _))
     |21,_=>obtain rfl:=So_ ho;have d12:(a.tmps[43]?.getD undef)=undef:=AD Hd 12;clear Hd Hb;exact AI.un rfl rfl d12 (HK.out _ _ rfl (Below.refl _ _))
     |22,_=>obtain rfl:=So_ ho;have d12:(a.tmps[43]?.getD undef)=undef:=AD Hd 12;clear Hd Hb;exact AI.un rfl rfl d12 (HK.out _ _ rfl (Below.refl _ _))
     |23,_=>obtain rfl:=So_ ho;have d12:(a.tmps[43]?.getD undef)=undef:=AD Hd 12;clear Hd Hb;exact AI.un rfl rfl d12 (HK.out _ _ rfl (Below.refl _ _))
     |24,_=>obtain rfl:=So_ ho;have d12:(a.tmps[43]?.getD undef)=undef:=AD Hd 12;clear Hd Hb;exact AI.un rfl rfl d12 (HK.out _ _ rfl (Below.refl _ _))
     |25,_=>obtain rfl:=So_ ho;have d12:(a.tmps[43]?.getD undef)=undef:=AD Hd 12;clear Hd Hb;exact AI.un rfl rfl d12 (HK.out _ _ rfl (Below.refl _ _))
     |26,_=>obtain rfl:=So_ ho;have d12:(a.tmps[43]?.getD undef)=undef:=AD Hd 12;clear Hd Hb;exact AI.un rfl rfl d12 (HK.out _ _ rfl (Below.refl _ _))
     |27,_=>obtain rfl:=So_ ho;have d12:(a.tmps[43]?.getD undef)=undef:=AD Hd 12;clear Hd Hb;exact AI.un rfl rfl d12 (HK.out _ _ rfl (Below.refl _ _))
     |28,_=>exact eB ho HK (AD Hd 10)
     |_+29,hq=>exact absurd hq (by omega)
    ·intro vs wx hR hG
     have q10:(vs 10)= .bool true:=BI hR 10;clear hR;simp only[Ai,AX,List.range,List.range.loop,List.foldl_cons,List.foldl_nil,q10];simp;clear q10;clear x0 x1 x2 x3 y0 y1 y2 y3 y4 y5;go_wp2_with fail;go_meet
     case rel=>exact⟨by rw[E.out];rfl,S2.out.below hG⟩
   ·rw[hb3] at CB
    cases sm
    ·by_cases hc0:c=0
     ·have E:=AA (show okb=true by rw[Hokb.out,hb3];simp only[Dl,Hsm.out];simp[hc0])
      have EK:Da c=0:=by simp[Da,hc0]
      rw[EK] at CK;clear hb3 hc0 EK d0 f0;refine AH 29 mixed (by kernel_rfl) 167 rfl (by kernel_rfl) (fun ix vv ww=>match ix with
       |0=>vv= .pointer (some ⟨w.heap.size+1,3,none⟩)
       |1=>vv= .int .i64 b
       |2=>vv= .bool true
       |3=>vv= .bool false
       |4=>vv= .bool false
       |5=>vv= .pointer (some ⟨w.heap.size+1,4,none⟩)
       |6=>vv= .int .i64 c
       |7=>vv= .int .i64 0
       |8=>vv= .bool false
       |9=>vv= .bool false
       |10=>vv= .bool false
       |11=>vv= .bool false
       |12=>vv= .bool false
       |13|14|15|16|17|18|19|20|21|22|23|24|25|26|27=>vv=undef
       |28=>vv= .bool false
       |_=>True) ?_ ?_ ?_
      ·intro i hi vv wz ww' hbz hz
       match i,hi with
       |0,_|1,_|2,_|3,_|4,_|5,_|6,_|7,_|8,_|9,_|10,_|11,_|12,_|13,_|14,_|15,_|16,_|17,_|18,_|19,_|20,_|21,_|22,_|23,_|24,_|25,_|26,_|27,_|28,_=>exact hz
       |_+29,hq=>exact absurd hq (by omega)
      ·intro i hi o ho a wx Hb Hd hG K HK
       match i,hi with
       |0,_=>exact eF ho HK Gp (eb (Aj Hb 3))
       |1,_=>exact eL ho HK (et (AD Hd 0)) (DA (bc hG hlb y3))
       |2,_=>obtain rfl:=So_ ho;have d1:(a.tmps[32]?.getD undef)= .int .i64 b:=AD Hd 1;clear Hd Hb;refine AI.of rfl ?_;go_simp;refine(CB.out _ hG).mono ?_;rintro e w_ ⟨rfl,hb2⟩;exact HK.out _ _ rfl hb2
       |3,_=>exact eN ho HK (et (AD Hd 2))
       |4,_=>exact eM ho HK (et (AD Hd 3))
       |5,_=>exact eF ho HK KS (eb (Aj Hb 3)) (hw:=gy rfl rfl (AD Hd 4))
       |6,_=>exact eL ho HK (et (AD Hd 5)) (DA (bc hG hlb y4)) (hw:=gy rfl rfl (AD Hd 4))
       |7,_=>obtain rfl:=So_ ho;have d6:(a.tmps[37]?.getD undef)= .int .i64 c:=AD Hd 6;have d4:(a.tmps[35]?.getD undef)= .bool false:=AD Hd 4;clear Hd Hb;refine AI.yes rfl rfl d4 ?_;go_simp;refine(CK.out _ hG).mono ?_;rintro e w_ ⟨rfl,hb2⟩;exact HK.out _ _ rfl hb2
       |8,_=>obtain rfl:=So_ ho;have d7:(a.tmps[38]?.getD undef)= .int .i64 0:=AD Hd 7;have d4:(a.tmps[35]?.getD undef)= .bool false:=AD Hd 4;clear Hd Hb;refine AI.yes rfl rfl d4 ?_;go_simp;exact HK.out _ _ rfl (Below.refl _ _)
       |9,_=>exact eE ho HK (et (AD Hd 4)) (et (AD Hd 8))
       |10,_=>exact eM ho HK (et (AD Hd 9))
       |11,_=>exact eM ho HK (eb (Aj Hb 10)) (hw:=gy rfl rfl (AD Hd 10))
       |12,_=>exact eM ho HK (et (AD Hd 11)) (hw:=gy rfl rfl (AD Hd 10))
       |13,_|14,_|15,_|16,_|17,_|18,_|19,_|20,_|21,_|22,_|23,_|24,_|25,_|26,_|27,_=>exact eB ho HK (AD Hd 12)
       |28,_=>exact eE ho HK (et (AD Hd 12)) rfl (hw:=gy rfl rfl (AD Hd 10))
       |_+29,hq=>exact absurd hq (by omega)
      ·intro vs wx hR hG
       have q10:(vs 10)= .bool false:=BI hR 10;have q28:(vs 28)= .bool false:=BI hR 28;clear hR;simp only[Ai,AX,List.range,List.range.loop,List.foldl_cons,List.foldl_nil,q10,q28];simp;clear q10 q28;clear x0 x1 x2 x3 y0 y1 y2 y3 y4 y5;go_wp2_with fail;go_meet
       case rel=>exact⟨by rw[E.out];rfl,S2.out.below hG⟩
     ·have E:=AA (show okb=false by rw[Hokb.out,hb3];simp only[Dl,Hsm.out];simp[hc0])
      have EK:Da c=2:=by simp[Da,hc0,Hsm.out]
      rw[EK] at CK;clear hb3 hc0 EK d0 f0;refine AH 29 mixed (by kernel_rfl) 167 rfl (by kernel_rfl) (fun ix vv ww=>match ix with
       |0=>vv= .pointer (some ⟨w.heap.size+1,3,none⟩)
       |1=>vv= .int .i64 b
       |2=>vv= .bool true
       |3=>vv= .bool false
       |4=>vv= .bool false
       |5=>vv= .pointer (some ⟨w.heap.size+1,4,none⟩)
       |6=>vv= .int .i64 c
       |7=>vv= .int .i64 2
       |8=>vv= .bool true
       |9=>vv= .bool true
       |10=>vv= .bool true
       |11|12|13|14|15|16|17|18|19|20|21|22|23|24|25|26|27|28=>vv=undef
       |_=>True) ?_ ?_ ?_
      ·intro i hi vv wz ww' hbz hz
       match i,hi with
       |0,_|1,_|2,_|3,_|4,_|5,_|6,_|7,_|8,_|9,_|10,_|11,_|12,_|13,_|14,_|15,_|16,_|17,_|18,_|19,_|20,_|21,_|22,_|23,_|24,_|25,_|26,_|27,_|28,_=>exact hz
       |_+29,hq=>exact absurd hq (by omega)
      ·intro i hi o ho a wx Hb Hd hG K HK
       match i,hi with
       |0,_=>exact eF ho HK Gp (eb (Aj Hb 3))
       |1,_=>exact eL ho HK (et (AD Hd 0)) (DA (bc hG hlb y3))
       |2,_=>obtain rfl:=So_ ho;have d1:(a.tmps[32]?.getD undef)= .int .i64 b:=AD Hd 1;clear Hd Hb;refine AI.of rfl ?_;go_simp;refine(CB.out _ hG).mono ?_;rintro e w_ ⟨rfl,hb2⟩;exact HK.out _ _ rfl hb2
       |3,_=>exact eN ho HK (et (AD Hd 2))
       |4,_=>exact eM ho HK (et (AD Hd 3))
       |5,_=>exact eF ho HK KS (eb (Aj Hb 3)) (hw:=gy rfl rfl (AD Hd 4))
       |6,_=>exact eL ho HK (et (AD Hd 5)) (DA (bc hG hlb y4)) (hw:=gy rfl rfl (AD Hd 4))
       |7,_=>obtain rfl:=So_ ho;have d6:(a.tmps[37]?.getD undef)= .int .i64 c:=AD Hd 6;have d4:(a.tmps[35]?.getD undef)= .bool false:=AD Hd 4;clear Hd Hb;refine AI.yes rfl rfl d4 ?_;go_simp;refine(CK.out _ hG).mono ?_;rintro e w_ ⟨rfl,hb2⟩;exact HK.out _ _ rfl hb2
       |8,_=>obtain rfl:=So_ ho;have d7:(a.tmps[38]?.getD undef)= .int .i64 2:=AD Hd 7;have d4:(a.tmps[35]?.getD undef)= .bool false:=AD Hd 4;clear Hd Hb;refine AI.yes rfl rfl d4 ?_;go_simp;exact HK.out _ _ rfl (Below.refl _ _)
       |9,_=>exact eE ho HK (et (AD Hd 4)) (et (AD Hd 8))
       |10,_=>exact eM ho HK (et (AD Hd 9))
       |11,_|12,_=>exact eB ho HK (AD Hd 10)
       |13,_=>obtain rfl:=So_ ho;have d12:(a.tmps[43]?.getD undef)=undef:=AD Hd 12;clear Hd Hb;exact AI.un rfl rfl d12 (HK.out _ _ rfl (Below.refl _ _))
       |14,_=>obtain rfl:=So_ ho;have d12:(a.tmps[43]?.getD undef)=undef:=AD Hd 12;clear Hd Hb;exact AI.un rfl rfl d12 (HK.out _ _ rfl (Below.refl _ _))
       |15,_=>obtain rfl:=So_ ho;have d12:(a.tmps[43]?.getD undef)=undef:=AD Hd 12;clear Hd Hb;exact AI.un rfl rfl d12 (HK.out _ _ rfl (Below.refl _ _))
       |16,_=>obtain rfl:=So_ ho;have d12:(a.tmps[43]?.getD undef)=undef:=AD Hd 12;clear Hd Hb;exact AI.un rfl rfl d12 (HK.out _ _ rfl (Below.refl _ _))
       |17,_=>obtain rfl:=So_ ho;have d12:(a.tmps[43]?.getD undef)=undef:=AD Hd 12;clear Hd Hb;exact AI.un rfl rfl d12 (HK.out _ _ rfl (Below.refl _ _))
       |18,_=>obtain rfl:=So_ ho;have d12:(a.tmps[43]?.getD undef)=undef:=AD Hd 12;clear Hd Hb;exact AI.un rfl rfl d12 (HK.out _ _ rfl (Below.refl _ _))
       |19,_=>obtain rfl:=So_ ho;have d12:(a.tmps[43]?.getD undef)=undef:=AD Hd 12;clear Hd Hb;exact AI.un rfl rfl d12 (HK.out _ _ rfl (Below.refl _ _))
       |20,_=>obtain rfl:=So_ ho;have d12:(a.tmps[43]?.getD undef)=undef:=AD Hd 12;clear Hd Hb;exact AI.un rfl rfl d12 (HK.out _ _ rfl (Below.refl _ _))
       |21,_=>obtain rfl:=So_ ho;have d12:(a.tmps[43]?.getD undef)=undef:=AD Hd 12;clear Hd Hb;exact AI.un rfl rfl d12 (HK.out _ _ rfl (Below.refl _ _))
       |22,_=>obtain rfl:=So_ ho;have d12:(a.tmps[43]?.getD undef)=undef:=AD Hd 12;clear Hd Hb;exact AI.un rfl rfl d12 (HK.out _ _ rfl (Below.refl _ _))
       |23,_=>obtain rfl:=So_ ho;have d12:(a.tmps[43]?.getD undef)=undef:=AD Hd 12;clear Hd Hb;exact AI.un rfl rfl d12 (HK.out _ _ rfl (Below.refl _ _))
       |24,_=>obtain rfl:=So_ ho;have d12:(a.tmps[43]?.getD undef)=undef:=AD Hd 12;clear Hd Hb;exact AI.un rfl rfl d12 (HK.out _ _ rfl (Below.refl _ _))
       |25,_=>obtain rfl:=So_ ho;have d12:(a.tmps[43]?.getD undef)=undef:=AD Hd 12;clear Hd Hb;exact AI.un rfl rfl d12 (HK.out _ _ rfl (Below.refl _ _))
       |26,_=>obtain rfl:=So_ ho;have d12:(a.tmps[43]?.getD undef)=undef:=AD Hd 12;clear Hd Hb;exact AI.un rfl rfl d12 (HK.out _ _ rfl (Below.refl _ _))
       |27,_=>obtain rfl:=So_ ho;have d12:(a.tmps[43]?.getD undef)=undef:=AD Hd 12;clear Hd Hb;exact AI.un rfl rfl d12 (HK.out _ _ rfl (Below.refl _ _))
       |28,_=>exact eB ho HK (AD Hd 10)
       |_+29,hq=>exact absurd hq (by omega)
      ·intro vs wx hR hG
       have q10:(vs 10)= .bool true:=BI hR 10;clear hR;simp only[Ai,AX,List.range,List.range.loop,List.foldl_cons,List.foldl_nil,q10];simp;clear q10;clear x0 x1 x2 x3 y0 y1 y2 y3 y4 y5;go_wp2_with fail;go_meet
       case rel=>exact⟨by rw[E.out];rfl,S2.out.below hG⟩
    ·have EK:Da c=1:=by
      unfold Da;rw[if_neg (by intro h;have:=Hsm.out;rw[h] at this;cases this),Hsm.out];rfl
     rw[EK] at CK;have hfe:=HFe.out rfl;have hkt:=Htk.out;generalize hka:(infoAt k.infos an).k=ka at d0 hkt;generalize hkf:(infoAt k.infos fn).k=kf at f0;have hka23:2≤ka∧ka≤3:=by simp only[Ba,Bool.or_eq_true,decide_eq_true_eq,Int.toNat_natCast,hka] at hkt;omega
     obtain⟨km,hkm⟩:∃km,ka - 1=km:=⟨_,rfl⟩
     have Hkm:=AA hkm
     by_cases hq:kf=km
     ·have E:=AA (show okb=true by rw[Hokb.out,hb3];simp[Dl,Hsm.out,←hfe,hka,hkf];omega)
      have t27:(kf !=km)=false:=by simp[hq]
      clear hb3 EK hfe hkt hka hkf hkm hq;refine AH 29 mixed (by kernel_rfl) 167 rfl (by kernel_rfl) (fun ix vv ww=>match ix with
       |0=>vv= .pointer (some ⟨w.heap.size+1,3,none⟩)
       |1=>vv= .int .i64 b
       |2=>vv= .bool true
       |3=>vv= .bool false
       |4=>vv= .bool false
       |5=>vv= .pointer (some ⟨w.heap.size+1,4,none⟩)
       |6=>vv= .int .i64 c
       |7=>vv= .int .i64 1
       |8=>vv= .bool false
       |9=>vv= .bool false
       |10=>vv= .bool false
       |11=>vv= .bool true
       |12=>vv= .bool true
       |13=>vv= .pointer (some ⟨w.heap.size,1,none⟩)
       |14=>vv= .slice (some ⟨gi,0,none⟩) 12 capi
       |15=>vv= .int .i64 fn
       |16=>vv= .pointer (some ⟨gi,fn*3,none⟩)
       |17=>vv= .pointer (some ⟨gi,fn*3,none⟩)
       |18=>vv= .int .i64 kf
       |19=>vv= .pointer (some ⟨w.heap.size,1,none⟩)
       |20=>vv= .slice (some ⟨gi,0,none⟩) 12 capi
       |21=>vv= .pointer (some ⟨w.heap.size+1,2,none⟩)
       |22=>vv= .int .i64 an
       |23=>vv= .pointer (some ⟨gi,an*3,none⟩)
       |24=>vv= .pointer (some ⟨gi,an*3,none⟩)
       |25=>vv= .int .i64 ka
       |26=>vv= .int .i64 km
       |27=>vv= .bool false
       |28=>vv= .bool false
       |_=>True) ?_ ?_ ?_
      ·intro i hi vv wz ww' hbz hz
       match i,hi with
       |0,_|1,_|2,_|3,_|4,_|5,_|6,_|7,_|8,_|9,_|10,_|11,_|12,_|13,_|14,_|15,_|16,_|17,_|18,_|19,_|20,_|21,_|22,_|23,_|24,_|25,_|26,_|27,_|28,_=>exact hz
       |_+29,hq=>exact absurd hq (by omega)
      ·intro i hi o ho a wx Hb Hd hG K HK
       match i,hi with
       |0,_=>exact eF ho HK Gp (eb (Aj Hb 3))
       |1,_=>exact eL ho HK (et (AD Hd 0)) (DA (bc hG hlb y3))
       |2,_=>obtain rfl:=So_ ho;have d1:(a.tmps[32]?.getD undef)= .int .i64 b:=AD Hd 1;clear Hd Hb;refine AI.of rfl ?_;go_simp;refine(CB.out _ hG).mono ?_;rintro e w_ ⟨rfl,hb2⟩;exact HK.out _ _ rfl hb2
       |3,_=>exact eN ho HK (et (AD Hd 2))
       |4,_=>exact eM ho HK (et (AD Hd 3))
       |5,_=>exact eF ho HK KS (eb (Aj Hb 3)) (hw:=gy rfl rfl (AD Hd 4))
       |6,_=>exact eL ho HK (et (AD Hd 5)) (DA (bc hG hlb y4)) (hw:=gy rfl rfl (AD Hd 4))
       |7,_=>obtain rfl:=So_ ho;have d6:(a.tmps[37]?.getD undef)= .int .i64 c:=AD Hd 6;have d4:(a.tmps[35]?.getD undef)= .bool false:=AD Hd 4;clear Hd Hb;refine AI.yes rfl rfl d4 ?_;go_simp;refine(CK.out _ hG).mono ?_;rintro e w_ ⟨rfl,hb2⟩;exact HK.out _ _ rfl hb2
       |8,_=>obtain rfl:=So_ ho;have d7:(a.tmps[38]?.getD undef)= .int .i64 1:=AD Hd 7;have d4:(a.tmps[35]?.getD undef)= .bool false:=AD Hd 4;clear Hd Hb;refine AI.yes rfl rfl d4 ?_;go_simp;exact HK.out _ _ rfl (Below.refl _ _)
       |9,_=>exact eE ho HK (et (AD Hd 4)) (et (AD Hd 8))
       |10,_=>exact eM ho HK (et (AD Hd 9))
       |11,_=>exact eM ho HK (eb (Aj Hb 10)) (hw:=gy rfl rfl (AD Hd 10))
       |12,_=>exact eM ho HK (et (AD Hd 11)) (hw:=gy rfl rfl (AD Hd 10))
       |13,_=>exact eF ho HK CU (eb (Aj Hb 2)) (hw:=gy rfl rfl (AD Hd 12))
       |14,_=>exact eL ho HK (et (AD Hd 13)) (FF (bc hG hlg x1)) (hw:=gy rfl rfl (AD Hd 12))
       |15,_=>exact eM ho HK (eb (Aj Hb 8)) (hw:=gy rfl rfl (AD Hd 12))
       |16,_=>obtain rfl:=So_ ho;have d14:(a.tmps[45]?.getD undef)= .slice (some ⟨gi,0,none⟩) 12 capi:=AD Hd 14;have d15:(a.tmps[46]?.getD undef)= .int .i64 fn:=AD Hd 15;have d12:(a.tmps[43]?.getD undef)= .bool true:=AD Hd 12;clear Hd Hb;refine AI.yes rfl rfl d12 ?_;go_simp;exact HK.out _ _ rfl (Below.refl _ _)
       |17,_=>exact eF ho HK F4 (et (AD Hd 16)) (hw:=gy rfl rfl (AD Hd 12))
       |18,_=>exact eL ho HK (et (AD Hd 17)) (DA (bc hG hgi f0)) (hw:=gy rfl rfl (AD Hd 12))
       |19,_=>exact eF ho HK CU (eb (Aj Hb 2)) (hw:=gy rfl rfl (AD Hd 12))
       |20,_=>exact eL ho HK (et (AD Hd 19)) (FF (bc hG hlg x1)) (hw:=gy rfl rfl (AD Hd 12))
       |21,_=>exact eF ho HK EC (eb (Aj Hb 3)) (hw:=gy rfl rfl (AD Hd 12))
       |22,_=>exact eL ho HK (et (AD Hd 21)) (DA (bc hG hlb y2)) (hw:=gy rfl rfl (AD Hd 12))
       |23,_=>obtain rfl:=So_ ho;have d20:(a.tmps[51]?.getD undef)= .slice (some ⟨gi,0,none⟩) 12 capi:=AD Hd 20;have d22:(a.tmps[53]?.getD undef)= .int .i64 an:=AD Hd 22;have d12:(a.tmps[43]?.getD undef)= .bool true:=AD Hd 12;clear Hd Hb;refine AI.yes rfl rfl d12 ?_;go_simp;exact HK.out _ _ rfl (Below.refl _ _)
       |24,_=>exact eF ho HK F4 (et (AD Hd 23)) (hw:=gy rfl rfl (AD Hd 12))
       |25,_=>exact eL ho HK (et (AD Hd 24)) (DA (bc hG hgi d0)) (hw:=gy rfl rfl (AD Hd 12))
       |26,_=>obtain rfl:=So_ ho;have d25:(a.tmps[56]?.getD undef)= .int .i64 ka:=AD Hd 25;have d12:(a.tmps[43]?.getD undef)= .bool true:=AD Hd 12;clear Hd Hb;refine AI.yes rfl rfl d12 ?_;go_simp;exact HK.out _ _ (by show Value.int .i64 (IntKind.i64.wrap (ka - 1))= .int .i64 km;rw[IntWalk.i64_in _ (by omega),Hkm.out]) (Below.refl _ _)
       |27,_=>obtain rfl:=So_ ho;have d18:(a.tmps[49]?.getD undef)= .int .i64 kf:=AD Hd 18;have d26:(a.tmps[57]?.getD undef)= .int .i64 km:=AD Hd 26;have d12:(a.tmps[43]?.getD undef)= .bool true:=AD Hd 12;clear Hd Hb;refine AI.yes rfl rfl d12 ?_;go_simp;exact HK.out _ _ rfl (Below.refl _ _)
       |28,_=>exact eT ho HK (et (AD Hd 12)) (et (AD Hd 27)) (hw:=gy rfl rfl (AD Hd 10))
       |_+29,hq=>exact absurd hq (by omega)
      ·intro vs wx hR hG
       have q10:(vs 10)= .bool false:=BI hR 10;have q28:(vs 28)= .bool false:=BI hR 28;clear hR;simp only[Ai,AX,List.range,List.range.loop,List.foldl_cons,List.foldl_nil,q10,q28];simp;clear q10 q28;clear x0 x1 x2 x3 y0 y1 y2 y3 y4 y5 d0 f0;go_wp2_with fail;go_meet
       case rel=>exact⟨by rw[E.out];rfl,S2.out.below hG⟩
     ·have E:=AA (show okb=false by rw[Hokb.out,hb3];simp[Dl,Hsm.out,←hfe,hka,hkf];omega)
      have t27:(kf !=km)=true:=by simp[hq]
      clear hb3 EK hfe hkt hka hkf hkm hq;refine AH 29 mixed (by kernel_rfl) 167 rfl (by kernel_rfl) (fun ix vv ww=>match ix with
       |0=>vv= .pointer (some ⟨w.heap.size+1,3,none⟩)
       |1=>vv= .int .i64 b
       |2=>vv= .bool true
       |3=>vv= .bool false
       |4=>vv= .bool false
       |5=>vv= .pointer (some ⟨w.heap.size+1,4,none⟩)
       |6=>vv= .int .i64 c
       |7=>vv= .int .i64 1
       |8=>vv= .bool false
       |9=>vv= .bool false
       |10=>vv= .bool false
       |11=>vv= .bool true
       |12=>vv= .bool true
       |13=>vv= .pointer (some ⟨w.heap.size,1,none⟩)
       |14=>vv= .slice (some ⟨gi,0,none⟩) 12 capi
       |15=>vv= .int .i64 fn
       |16=>vv= .pointer (some ⟨gi,fn*3,none⟩)
       |17=>vv= .pointer (some ⟨gi,fn*3,none⟩)
       |18=>vv= .int .i64 kf
       |19=>vv= .pointer (some ⟨w.heap.size,1,none⟩)
       |20=>vv= .slice (some ⟨gi,0,none⟩) 12 capi
       |21=>vv= .pointer (some ⟨w.heap.size+1,2,none⟩)
       |22=>vv= .int .i64 an
       |23=>vv= .pointer (some ⟨gi,an*3,none⟩)
       |24=>vv= .pointer (some ⟨gi,an*3,none⟩)
       |25=>vv= .int .i64 ka
       |26=>vv= .int .i64 km
       |27=>vv= .bool true
       |28=>vv= .bool true
       |_=>True) ?_ ?_ ?_
      ·intro i hi vv wz ww' hbz hz
       match i,hi with
       |0,_|1,_|2,_|3,_|4,_|5,_|6,_|7,_|8,_|9,_|10,_|11,_|12,_|13,_|14,_|15,_|16,_|17,_|18,_|19,_|20,_|21,_|22,_|23,_|24,_|25,_|26,_|27,_|28,_=>exact hz
       |_+29,hq=>exact absurd hq (by omega)
      ·intro i hi o ho a wx Hb Hd hG K HK
       match i,hi with
       |0,_=>exact eF ho HK Gp (eb (Aj Hb 3))
       |1,_=>exact eL ho HK (et (AD Hd 0)) (DA (bc hG hlb y3))
       |2,_=>obtain rfl:=So_ ho;have d1:(a.tmps[32]?.getD undef)= .int .i64 b:=AD Hd 1;clear Hd Hb;refine AI.of rfl ?_;go_simp;refine(CB.out _ hG).mono ?_;rintro e w_ ⟨rfl,hb2⟩;exact HK.out _ _ rfl hb2
       |3,_=>exact eN ho HK (et (AD Hd 2))
       |4,_=>exact eM ho HK (et (AD Hd 3))
       |5,_=>exact eF ho HK KS (eb (Aj Hb 3)) (hw:=gy rfl rfl (AD Hd 4))
       |6,_=>exact eL ho HK (et (AD Hd 5)) (DA (bc hG hlb y4)) (hw:=gy rfl rfl (AD Hd 4))
       |7,_=>obtain rfl:=So_ ho;have d6:(a.tmps[37]?.getD undef)= .int .i64 c:=AD Hd 6;have d4:(a.tmps[35]?.getD undef)= .bool false:=AD Hd 4;clear Hd Hb;refine AI.yes rfl rfl d4 ?_;go_simp;refine(CK.out _ hG).mono ?_;rintro e w_ ⟨rfl,hb2⟩;exact HK.out _ _ rfl hb2
       |8,_=>obtain rfl:=So_ ho;have d7:(a.tmps[38]?.getD undef)= .int .i64 1:=AD Hd 7;have d4:(a.tmps[35]?.getD undef)= .bool false:=AD Hd 4;clear Hd Hb;refine AI.yes rfl rfl d4 ?_;go_simp;exact HK.out _ _ rfl (Below.refl _ _)
       |9,_=>exact eE ho HK (et (AD Hd 4)) (et (AD Hd 8))
       |10,_=>exact eM ho HK (et (AD Hd 9))
       |11,_=>exact eM ho HK (eb (Aj Hb 10)) (hw:=gy rfl rfl (AD Hd 10))
       |12,_=>exact eM ho HK (et (AD Hd 11)) (hw:=gy rfl rfl (AD Hd 10))
       |13,_=>exact eF ho HK CU (eb (Aj Hb 2)) (hw:=gy rfl rfl (AD Hd 12))
       |14,_=>exact eL ho HK (et (AD Hd 13)) (FF (bc hG hlg x1)) (hw:=gy rfl rfl (AD Hd 12))
       |15,_=>exact eM ho HK (eb (Aj Hb 8)) (hw:=gy rfl rfl (AD Hd 12))
       |16,_=>obtain rfl:=So_ ho;have d14:(a.tmps[45]?.getD undef)= .slice (some ⟨gi,0,none⟩) 12 capi:=AD Hd 14;have d15:(a.tmps[46]?.getD undef)= .int .i64 fn:=AD Hd 15;have d12:(a.tmps[43]?.getD undef)= .bool true:=AD Hd 12;clear Hd Hb;refine AI.yes rfl rfl d12 ?_;go_simp;exact HK.out _ _ rfl (Below.refl _ _)
       |17,_=>exact eF ho HK F4 (et (AD Hd 16)) (hw:=gy rfl rfl (AD Hd 12))
       |18,_=>exact eL ho HK (et (AD Hd 17)) (DA (bc hG hgi f0)) (hw:=gy rfl rfl (AD Hd 12))
       |19,_=>exact eF ho HK CU (eb (Aj Hb 2)) (hw:=gy rfl rfl (AD Hd 12))
       |20,_=>exact eL ho HK (et (AD Hd 19)) (FF (bc hG hlg x1)) (hw:=gy rfl rfl (AD Hd 12))
       |21,_=>exact eF ho HK EC (eb (Aj Hb 3)) (hw:=gy rfl rfl (AD Hd 12))
       |22,_=>exact eL ho HK (et (AD Hd 21)) (DA (bc hG hlb y2)) (hw:=gy rfl rfl (AD Hd 12))
       |23,_=>obtain rfl:=So_ ho;have d20:(a.tmps[51]?.getD undef)= .slice (some ⟨gi,0,none⟩) 12 capi:=AD Hd 20;have d22:(a.tmps[53]?.getD undef)= .int .i64 an:=AD Hd 22;have d12:(a.tmps[43]?.getD undef)= .bool true:=AD Hd 12;clear Hd Hb;refine AI.yes rfl rfl d12 ?_;go_simp;exact HK.out _ _ rfl (Below.refl _ _)
       |24,_=>exact eF ho HK F4 (et (AD Hd 23)) (hw:=gy rfl rfl (AD Hd 12))
       |25,_=>exact eL ho HK (et (AD Hd 24)) (DA (bc hG hgi d0)) (hw:=gy rfl rfl (AD Hd 12))
       |26,_=>obtain rfl:=So_ ho;have d25:(a.tmps[56]?.getD undef)= .int .i64 ka:=AD Hd 25;have d12:(a.tmps[43]?.getD undef)= .bool true:=AD Hd 12;clear Hd Hb;refine AI.yes rfl rfl d12 ?_;go_simp;exact HK.out _ _ (by show Value.int .i64 (IntKind.i64.wrap (ka - 1))= .int .i64 km;rw[IntWalk.i64_in _ (by omega),Hkm.out]) (Below.refl _ _)
       |27,_=>obtain rfl:=So_ ho;have d18:(a.tmps[49]?.getD undef)= .int .i64 kf:=AD Hd 18;have d26:(a.tmps[57]?.getD undef)= .int .i64 km:=AD Hd 26;have d12:(a.tmps[43]?.getD undef)= .bool true:=AD Hd 12;clear Hd Hb;refine AI.yes rfl rfl d12 ?_;go_simp;exact HK.out _ _ rfl (Below.refl _ _)
       |28,_=>exact eT ho HK (et (AD Hd 12)) (et (AD Hd 27)) (hw:=gy rfl rfl (AD Hd 10))
       |_+29,hq=>exact absurd hq (by omega)
      ·intro vs wx hR hG
       have q10:(vs 10)= .bool false:=BI hR 10;have q28:(vs 28)= .bool true:=BI hR 28;clear hR;simp only[Ai,AX,List.range,List.range.loop,List.foldl_cons,List.foldl_nil,q10,q28];simp;clear q10 q28;clear x0 x1 x2 x3 y0 y1 y2 y3 y4 y5 d0 f0;go_wp2_with fail;go_meet
       case rel=>exact⟨by rw[E.out];rfl,S2.out.below hG⟩
  case rest=>
  obtain⟨hs60,S3⟩:=hcut;subst hs60;replace S3:=AA S3;clear x0 x1 x2 x3 y0 y1 y2 y3 y4 y5 d0 f0 CB CK S2 hlb hlg hgi;obtain⟨w3,rfl⟩:∃w3:World,w3=wc:=⟨_,rfl⟩
  cases okb
  ·have HP3:=AA (show AU k ⟨6,(en:Int),(an:Int),b,c,nm⟩=(k,0,3) by
    rw[HP2.out];unfold U6;rw[if_pos];have:=Hokb.out;cases h1:Bk b 0 3
    ·exact .inl rfl
    ·refine .inr ?_
     rw[h1,Bool.true_and] at this;exact this.symm)
   clear HP2;obtain⟨x0,x1,x2,x3⟩:=S3.out.xs;obtain⟨⟨z0,z1,z2,z3⟩,hfz⟩:=S3.out.zs;obtain⟨hB9,HR9⟩:=S3.out.bad (Nat.le_trans hlo (Nat.le_add_right _ _)) (Nat.le_add_right _ _) (v:=0) (code:=3) (HP3.out) (by decide);have HE:=AA (AB hB9);have HR:=AA HR9;clear hB9 HR9;go_wp2_with ((try simp only[Exit.inBlock,Exit.then]);with_reducible refine bodyPost_ret (v:= .tuple #[.agg #[_,_,_,_], .int .i64 (0), .int .i64 (3)]) ?_ rfl HR.out;obtain⟨E0,E1,E2,E3⟩:=HE.out;simp[results,Tryz.results228,go_sem,E0,E1,E2,E3])
  obtain⟨hb3,hfit⟩:Bk b 0 3=true∧Dl k ⟨6,(en:Int),(an:Int),b,c,nm⟩=true:=by
   have:=Hokb.out.symm
   rwa [Bool.and_eq_true] at this
  have HBe:=AA (Q8 (k:=k) (Ub hfit Htk.out));have HP3:=AA (show AU k ⟨6,(en:Int),(an:Int),b,c,nm⟩=_ from HP2.out.trans (by unfold U6;rw[if_neg (by rw[hb3,hfit];simp)]));have bb:=AZ.1 hb3;obtain⟨bn,rfl⟩:∃n:Nat,b=(n:Int):=⟨b.toNat,by omega⟩
  have hbn:bn<4:=by omega
  have hbni:(bn:Int)<4:=by omega
  simp only[Int.toNat_natCast] at HP3;clear hb3 hfit bb HP2 Hokb;obtain⟨nd,hnd⟩:∃nd,nd=DH k c:=⟨_,rfl⟩
  have Hnd:=AA hnd;obtain⟨us,hus⟩:∃us,us=Eo k an:=⟨_,rfl⟩
  have Hus:=AA hus;have hul:us.length≤3:=by rw[hus];exact T5
  have Hu3:=AA (show ∀e,e∈us→e<3 by rw[hus];exact fun e h=>Pu h);have Hn12:=AA (show ∀g,g∈nd→g<k.infos.length by
   rw[hnd,HK.out.len];intro g hg;unfold DH at hg
   split at hg
   ·next hgc=>
    rcases List.mem_cons.1 hg with h|h
    ·rw[h];exact DZ hgc
    ·split at h
     ·exact FL h
     ·cases h
   ·cases hg)
  rw[←hnd,←hus] at HP3;rw[←hnd] at HBe;clear hnd hus;have CBe:=AA (fun W (h1:BJ W (.slice (some ⟨gm,0,none⟩) 12 capm) k.mem) (h2:BH W (.slice (some ⟨gi,0,none⟩) 12 capi) k.infos)=>Nn (.slice (some ⟨gm,0,none⟩) 12 capm) (.slice (some ⟨gi,0,none⟩) 12 capi) (.slice (some ⟨ge,0,none⟩) 3 cape) (.slice ac nc cc) k c W h1 h2 Hok.out HK.out.len Hc.out);obtain⟨x0,x1,x2,x3⟩:=S3.out.xs;obtain⟨y0,y1,y2,y3,y4,y5⟩:=S3.out.ys6;go_wp2_with fail;refine(CBe.out _ S3.out.K.1 S3.out.K.2.1).mono ?_;rintro r w4 ⟨vb,rfl,hob,hb4⟩;rw[HBe.out] at hob;have S4:=AA (S3.out.below hb4);have hlt3:=S3.out.lts.2.1;clear x0 x1 x2 x3 y0 y1 y2 y3 y4 y5 CBe HBe;obtain⟨x0,x1,x2,x3⟩:=S4.out.xs;obtain⟨y0,y1,y2,y3,y4,y5⟩:=S4.out.ys6;go_wp2_with fail;refine(PT _ _ _ _ k an _ S4.out.K HK.out).mono ?_;rintro r w5 ⟨vu,rfl,hou,hb5⟩;rw[Tz HK.out (show Ba (A7 k an)=true from Htk.out),←Hus.out] at hou;have S5:=AA (S4.out.below hb5);have OB:=AA (AE.below hob hb5);have OU:=AA hou;have hlt4:w.heap.size<w4.heap.size:=Nat.lt_of_lt_of_le hlt3 hb4.size;obtain⟨ax,cx,rfl,_,_,_⟩:=hou.rd.open;rw[BU] at OU ⊢;clear x0 x1 x2 x3 y0 y1 y2 y3 y4 y5 hob hou hb4 hb5 S3 S4;go_upto_block 0 with fail;go_cut [] (fun wx=>(∀e,e∈us→Aq k.infos nd (AC k.envs e).rights=true)∧∃a9 n9 c9,Dm 44 #[.int .i64 6, .int .i64 en, .int .i64 an, .int .i64 bn, .int .i64 c, .string nm] [w.heap.size+2] lo w.heap.size (w.heap.size+1) w wx (.slice (some ⟨gm,0,none⟩) 12 capm) (.slice (some ⟨gi,0,none⟩) 12 capi) (.slice (some ⟨ge,0,none⟩) 3 cape) (.slice a9 n9 c9) {k with cache:=Ey us k.cache})
  case first=>
   go_wp2_with fail;go_loopw [13] (fun s13 wr=>∃j:Nat,j≤us.length∧s13= .int .i64 j∧(∀e,e∈us.take j→Aq k.infos nd (AC k.envs e).rights=true)∧AE w3.heap.size wr vb (Ak nd)∧AE w4.heap.size wr (.slice ax us.length cx) (Ak us)∧∃a9 n9 c9,Dm 44 #[.int .i64 6, .int .i64 en, .int .i64 an, .int .i64 bn, .int .i64 c, .string nm] [w.heap.size+2] lo w.heap.size (w.heap.size+1) w wr (.slice (some ⟨gm,0,none⟩) 12 capm) (.slice (some ⟨gi,0,none⟩) 12 capi) (.slice (some ⟨ge,0,none⟩) 3 cape) (.slice a9 n9 c9) {k with cache:=Ey (us.take j) k.cache}) (fun s13 _=>us.length - (intOf s13).toNat)
   case atStart=>exact⟨0,Nat.zero_le _,rfl,fun e he=>by simp at he,OB.out,OU.out,ac,nc,cc,S5.out⟩
   case round=>
    obtain⟨j,hj,rfl,hall,hob,hou,a9,n9,c9,hS⟩:=hrel;have Hall:=AA hall;have S:=AA hS;have HOB:=AA hob;have HOU:=AA hou;clear hall hS hob OB OU
    by_cases hlt:j<us.length
    ·obtain⟨ax',cx',hvx,_,_,H0⟩:=hou.rd.open
     rw[BU] at hvx;simp only[Value.slice.injEq] at hvx;obtain⟨rfl,_,rfl⟩:=hvx;obtain⟨bx,offx,rfl,DX⟩:=H0.at (k:=j) (by rw[BU];exact hlt);rw[Kw hlt] at DX;obtain⟨un,hun⟩:∃u,u=us.getD j 0:=⟨_,rfl⟩
     rw[←hun] at DX;have HUN:=AA hun;have hmem:un∈us:=by rw[hun];exact List.mem_of_getElem? (A8 hlt)
     have hun3:=Hu3.out un hmem;have Hmem:=AA hmem;clear hun hmem H0 hou;have hjl:(j:Int)<us.length:=by omega
     have huni:(un:Int)<3:=by omega
     obtain⟨x0,x1,x2,x3⟩:=S.out.xs;obtain⟨y0,y1,y2,y3,y4,y5⟩:=S.out.ys6;obtain⟨hlb,hlg,_,_⟩:=S.out.lts;have hge:=S.out.ge_lt;have hbx:bx<wr.heap.size:=World.block_lt_of_cell? _ _ DX;obtain⟨ua,uc,D0,_,R⟩:=S.out.env (j:=un) (by show un<k.envs.length;rw[HK.out.envl];exact hun3);have RI:=S.out.K.2.1;have RB:=HOB.out.rd;have CA:=AA (fun W (hW:Below wr.heap.size wr W)=>F7 _ vb _ k.infos nd (AC k.envs un).rights W (A3.below RI hW) (Ap.below RB hW) (A3.below R hW) Hn12.out (Bh (AW HK.out).2.1) (Ft HK.out hun3));generalize hbbq:Aq k.infos nd (AC k.envs un).rights=bq at CA;have Hbq:=AA hbbq;clear hbbq RI R RB;go_wp2_with fail;refine AH 12 mixed (by kernel_rfl) 167 rfl (by kernel_rfl) (fun ix vv ww=>match ix with
      |0=>vv= .pointer (some ⟨w.heap.size,1,none⟩)
      |1=>vv= .slice (some ⟨gi,0,none⟩) 12 capi
      |2=>vv=vb
      |3=>vv= .pointer (some ⟨w.heap.size,2,none⟩)
      |4=>vv= .slice (some ⟨ge,0,none⟩) 3 cape
      |5=>vv= .slice (some ⟨bx,offx,none⟩) us.length cx
      |6=>vv= .int .i64 j
      |7=>vv= .pointer (some ⟨bx,offx+j,none⟩)
      |8=>vv= .int .i64 un
      |9=>vv= .pointer (some ⟨ge,un*2,none⟩)
      |10=>vv= .pointer (some ⟨ge,un*2,none⟩)
      |11=>vv= .slice ua (AC k.envs un).rights.length uc
      |_=>True) ?_ ?_ ?_
     ·intro i hi vv wz ww' hbz hz
      match i,hi with
      |0,_|1,_|2,_|3,_|4,_|5,_|6,_|7,_|8,_|9,_|10,_|11,_=>exact hz
     ·intro i hi o ho a wx Hb Hd hG K HK
      match i,hi with
      |0,_=>exact eF ho HK CU (eb (Aj Hb 2))
      |1,_=>exact eL ho HK (et (AD Hd 0)) (FF (bc hG hlg x1))
      |2,_=>exact eM ho HK (eb (Aj Hb 11))
      |3,_=>exact eF ho HK GO (eb (Aj Hb 2))
      |4,_=>exact eL ho HK (et (AD Hd 3)) (La (bc hG hlg x2))
      |5,_=>exact eM ho HK (eb (Aj Hb 12))
      |6,_=>exact eM ho HK (eb (Aj Hb 13))
      |7,_=>obtain rfl:=So_ ho;have d5:(a.tmps[81]?.getD undef)= .slice (some ⟨bx,offx,none⟩) us.length cx:=AD Hd 5;have d6:(a.tmps[82]?.getD undef)= .int .i64 j:=AD Hd 6;clear Hd Hb;refine AI.of rfl ?_;go_simp;exact HK.out _ _ rfl (Below.refl _ _)
      |8,_=>exact eL ho HK (et (AD Hd 7)) (DA (bc hG hbx DX))
      |9,_=>obtain rfl:=So_ ho;have d4:(a.tmps[80]?.getD undef)= .slice (some ⟨ge,0,none⟩) 3 cape:=AD Hd 4;have d8:(a.tmps[84]?.getD undef)= .int .i64 un:=AD Hd 8;clear Hd Hb;refine AI.of rfl ?_;go_simp;exact HK.out _ _ rfl (Below.refl _ _)
      |10,_=>exact eF ho HK EV (et (AD Hd 9))
      |11,_=>exact eL ho HK (et (AD Hd 10)) (Ie (bc hG hge D0))
     ·intro vs wx hR hG
      have q1:(vs 1)= .slice (some ⟨gi,0,none⟩) 12 capi:=BI hR 1;have q2:(vs 2)=vb:=BI hR 2;have q11:(vs 11)= .slice ua (AC k.envs un).rights.length uc:=BI hR 11;clear hR;simp only[Ai,AX,List.range,List.range.loop,List.foldl_cons,List.foldl_nil,q1,q2,q11];simp;clear q1 q2 q11;have S6:=AA (S.out.below hG);have HbG:=AA hG;clear x0 x1 x2 x3 y0 y1 y2 y3 y4 y5 D0 hG;go_wp2_with fail;refine(CA.out _ HbG.out).mono ?_;rintro r w7 ⟨rfl,hb7⟩;have S7:=AA (S6.out.below hb7);have HB7:=AA (HbG.out.trans (hb7.mono HbG.out.size));clear hb7 CA HbG S6;cases bq
      ·have HP4:=AA (show AU k ⟨6,(en:Int),(an:Int),(bn:Int),c,nm⟩=(k,0,1) by rw[HP3.out,if_pos (List.all_eq_false.2 ⟨un,Hmem.out,by rw[Hbq.out];decide⟩)])
       obtain⟨x0,x1,x2,x3⟩:=S7.out.xs;obtain⟨⟨z0,z1,z2,z3⟩,hfz⟩:=S7.out.zs;obtain⟨hB9,HR9⟩:=S7.out.bad (Nat.le_trans hlo (Nat.le_add_right _ _)) (Nat.le_add_right _ _) (v:=0) (code:=1) (HP4.out) (by decide);have HE:=AA (AB hB9);have HR:=AA HR9;clear hB9 HR9;go_wp2_with ((try simp only[Exit.inBlock,Exit.then]);with_reducible refine bodyPost_ret (v:= .tuple #[.agg #[_,_,_,_], .int .i64 (0), .int .i64 (1)]) ?_ rfl HR.out;obtain⟨E0,E1,E2,E3⟩:=HE.out;simp[results,Tryz.results228,go_sem,E0,E1,E2,E3])
      ·have hDX7:=(HB7.out.cell hbx).trans DX
       have hbx7:bx<w7.heap.size:=World.block_lt_of_cell? _ _ hDX7;clear DX hbx;have DX:=hDX7;have hbx:=hbx7;clear hDX7 hbx7;obtain⟨x0,x1,x2,x3⟩:=S7.out.xs;obtain⟨hlb,hlg,_,_⟩:=S7.out.lts;have CD:=AA (fun W (h:Bn W (.slice a9 n9 c9) (Ey (us.take j) k.cache))=>Ho (.slice a9 n9 c9) (Ey (us.take j) k.cache) (un:Int) W h (by have:=LT (us.take j) (AW HK.out).2.2;simp only[Bc,Bool.and_eq_true,decide_eq_true_eq] at this;omega));go_wp2_with fail;refine AH 6 mixed (by kernel_rfl) 167 rfl (by kernel_rfl) (fun ix vv ww=>match ix with
        |0=>vv= .pointer (some ⟨w.heap.size,3,none⟩)
        |1=>vv= .slice a9 n9 c9
        |2=>vv= .slice (some ⟨bx,offx,none⟩) us.length cx
        |3=>vv= .int .i64 j
        |4=>vv= .pointer (some ⟨bx,offx+j,none⟩)
        |5=>vv= .int .i64 un
        |_=>True) ?_ ?_ ?_
       ·intro i hi vv wz ww' hbz hz
        match i,hi with
        |0,_|1,_|2,_|3,_|4,_|5,_=>exact hz
       ·intro i hi o ho a wx Hb Hd hG K HK
        match i,hi with
        |0,_=>exact eF ho HK EU (eb (Aj Hb 2))
        |1,_=>exact eL ho HK (et (AD Hd 0)) (M5 (bc hG hlg x3))
        |2,_=>exact eM ho HK (eb (Aj Hb 12))
        |3,_=>exact eM ho HK (eb (Aj Hb 13))
        |4,_=>obtain rfl:=So_ ho;have d2:(a.tmps[93]?.getD undef)= .slice (some ⟨bx,offx,none⟩) us.length cx:=AD Hd 2;have d3:(a.tmps[94]?.getD undef)= .int .i64 j:=AD Hd 3;clear Hd Hb;refine AI.of rfl ?_;go_simp;exact HK.out _ _ rfl (Below.refl _ _)
        |5,_=>exact eL ho HK (et (AD Hd 4)) (DA (bc hG hbx DX))
       ·intro vs wx hR hG
        have q1:(vs 1)= .slice a9 n9 c9:=BI hR 1;have q5:(vs 5)= .int .i64 un:=BI hR 5;clear hR;simp only[Ai,AX,List.range,List.range.loop,List.foldl_cons,List.foldl_nil,q1,q5];simp;clear q1 q5;have S8:=AA (S7.out.below hG);have HB8:=AA (HB7.out.trans (hG.mono HB7.out.size));have x3o:=S8.out.xs.2.2.2;clear x0 x1 x2 x3 hG DX;go_wp2_with fail;refine(CD.out _ S8.out.K.2.2.2).mono ?_;rintro r w9 ⟨v',rfl,hO,hb9⟩;have T2:=AA (S8.out.cache hb9 hO);have HB9:=HB8.out.trans (hb9.mono HB8.out.size);have OB9:=AA (Jw (g:=w.heap.size) (j:=3) (u:=v') (AE.below HOB.out HB9) hlt3);have OU9:=AA (Jw (g:=w.heap.size) (j:=3) (u:=v') (AE.below HOU.out HB9) hlt4);have fzg:=AM (S8.out.below hb9).ink.1;have x3p:=(S8.out.below hb9).xs.2.2.2;clear x3o HB9 hb9;obtain⟨a8,c8,e9,_,_⟩:=hO.rd.shape;generalize List.length _=n8 at e9;subst e9;clear hO;generalize hW10:w9.setCell _ _=W10 at T2 OB9 OU9;go_wp2_with fail;go_roundw
        case rel=>
         refine⟨j+1,by omega,by go_num,fun e he=>?_,OB9.out,OU9.out,a8,n8,c8,?_⟩
         ·rw[Cv (A8 (d:=0) hlt),List.mem_append,List.mem_singleton] at he
          rcases he with he|rfl
          ·exact Hall.out e he
          ·rw[←HUN.out];exact Hbq.out
         ·rw[JY hlt,←HUN.out];exact T2.out
        case measure=>simp[intOf];omega
    ·obtain rfl:j=us.length:=by omega
     rw[List.take_length] at Hall S;have hjl:¬(us.length:Int)<us.length:=by omega
     clear hou;go_wp2_with fail;go_meet
     case rel=>exact⟨Hall.out,_,_,_,S.out⟩
  case rest=>
  obtain⟨hall,a9,n9,c9,hS⟩:=hcut;have S:=AA hS;have HP4:=AA (HP3.out.trans (if_neg (by rw[Bool.not_eq_false,List.all_eq_true];exact hall)));obtain⟨w10,rfl⟩:∃w10:World,w10=wc:=⟨_,rfl⟩
  clear hall hS HP3 OB OU S5;obtain⟨mm,hmm⟩:∃mm,mm=(sm&&!Ca (AC k.envs en).rights (infoAt k.infos (Ax c)).g):=⟨_,rfl⟩
  have Hmm:=AA hmm;clear hmm;go_wp2_with fail;go_cut [112] (fun s112 wx=>s112= .bool mm∧Dm 44 #[.int .i64 6, .int .i64 en, .int .i64 an, .int .i64 bn, .int .i64 c, .string nm] [w.heap.size+2] lo w.heap.size (w.heap.size+1) w wx (.slice (some ⟨gm,0,none⟩) 12 capm) (.slice (some ⟨gi,0,none⟩) 12 capi) (.slice (some ⟨ge,0,none⟩) 3 cape) (.slice a9 n9 c9) {k with cache:=Ey us k.cache})
  case first=>
   obtain⟨x0,x1,x2,x3⟩:=S.out.xs;obtain⟨y0,y1,y2,y3,y4,y5⟩:=S.out.ys6;obtain⟨hlb,hlg,_,_⟩:=S.out.lts;have hgi:=S.out.gi_lt;obtain⟨_,f1,_⟩:=S.out.infoAt (f:=fn) (by show fn<k.infos.length;rw[HK.out.len];exact hfn)
   try simp only at f1
   cases sm
   ·clear f1
    refine AH 13 mixed (by kernel_rfl) 167 rfl (by kernel_rfl) (fun ix vv ww=>match ix with
     |0=>vv= .bool false
     |1=>vv= .bool false
     |2|3|4|5|6|7|8|9|10|11|12=>vv=undef
     |_=>True) ?_ ?_ ?_
    ·intro i hi vv wz ww' hbz hz
     match i,hi with
     |0,_|1,_|2,_|3,_|4,_|5,_|6,_|7,_|8,_|9,_|10,_|11,_|12,_=>exact hz
    ·intro i hi o ho a wx Hb Hd hG K HK
     match i,hi with
     |0,_=>exact eM ho HK (eb (Aj Hb 10))
     |1,_=>exact eM ho HK (et (AD Hd 0))
     |2,_|3,_|4,_|5,_|6,_|7,_|8,_|9,_|10,_|11,_|12,_=>exact eB ho HK (AD Hd 1)
    ·intro vs wx hR hG
     have q1:(vs 1)= .bool false:=BI hR 1;clear hR;simp only[Ai,AX,List.range,List.range.loop,List.foldl_cons,List.foldl_nil,q1];simp;clear q1;clear x0 x1 x2 x3 y0 y1 y2 y3 y4 y5;go_wp2_with fail;go_meet
     case rel=>exact⟨by rw[Hmm.out];rfl,S.out.below hG⟩
   ·have hfe:=HFe.out rfl
    have HM0:=Hmm.out;have RE:=S.out.K.2.2.1;have CM:=AA (fun W (hW:Below w10.heap.size w10 W)=>GR (.slice (some ⟨gm,0,none⟩) 12 capm) (.slice (some ⟨gi,0,none⟩) 12 capi) (.slice (some ⟨ge,0,none⟩) 3 cape) (.slice a9 n9 c9) k en (infoAt k.infos fn).g W (RE.below hW) HK.out hen (Bh (AW HK.out).2.1 _ (List.mem_of_getElem? (Bo (by rw[HK.out.len];exact hfn)))));rw[←hfe] at HM0;generalize(infoAt k.infos fn).g=fg at f1 CM HM0;clear RE hfe;generalize Ca (AC k.envs en).rights fg=my at CM HM0;have HM:=AA HM0;clear HM0;cases my
    ·skip
     refine AH 13 mixed (by kernel_rfl) 167 rfl (by kernel_rfl) (fun ix vv ww=>match ix with
      |0=>vv= .bool true
      |1=>vv= .bool true
      |2=>vv= .agg #[.slice (some ⟨gm,0,none⟩) 12 capm, .slice (some ⟨gi,0,none⟩) 12 capi, .slice (some ⟨ge,0,none⟩) 3 cape, .slice a9 n9 c9]
      |3=>vv= .pointer (some ⟨w.heap.size+1,1,none⟩)
      |4=>vv= .int .i64 en
      |5=>vv= .pointer (some ⟨w.heap.size,1,none⟩)
      |6=>vv= .slice (some ⟨gi,0,none⟩) 12 capi
      |7=>vv= .int .i64 fn
      |8=>vv= .pointer (some ⟨gi,fn*3,none⟩)
      |9=>vv= .pointer (some ⟨gi,fn*3+1,none⟩)
      |10=>vv= .string fg
      |11=>vv= .bool false
      |12=>vv= .bool true
      |_=>True) ?_ ?_ ?_
     ·intro i hi vv wz ww' hbz hz
      match i,hi with
      |0,_|1,_|2,_|3,_|4,_|5,_|6,_|7,_|8,_|9,_|10,_|11,_|12,_=>exact hz
     ·intro i hi o ho a wx Hb Hd hG K HK
      match i,hi with
      |0,_=>exact eM ho HK (eb (Aj Hb 10))
      |1,_=>exact eM ho HK (et (AD Hd 0))
      |2,_=>exact eL ho HK (eb (Aj Hb 2)) (PV (bc hG hlg x0) (bc hG hlg x1) (bc hG hlg x2) (bc hG hlg x3)) (hw:=gy rfl rfl (AD Hd 1))
      |3,_=>exact eF ho HK FY (eb (Aj Hb 3)) (hw:=gy rfl rfl (AD Hd 1))
      |4,_=>exact eL ho HK (et (AD Hd 3)) (DA (bc hG hlb y1)) (hw:=gy rfl rfl (AD Hd 1))
      |5,_=>exact eF ho HK CU (eb (Aj Hb 2)) (hw:=gy rfl rfl (AD Hd 1))
      |6,_=>exact eL ho HK (et (AD Hd 5)) (FF (bc hG hlg x1)) (hw:=gy rfl rfl (AD Hd 1))
      |7,_=>exact eM ho HK (eb (Aj Hb 8)) (hw:=gy rfl rfl (AD Hd 1))
      |8,_=>obtain rfl:=So_ ho;have d6:(a.tmps[105]?.getD undef)= .slice (some ⟨gi,0,none⟩) 12 capi:=AD Hd 6;have d7:(a.tmps[106]?.getD undef)= .int .i64 fn:=AD Hd 7;have d1:(a.tmps[100]?.getD undef)= .bool true:=AD Hd 1;clear Hd Hb;refine AI.yes rfl rfl d1 ?_;go_simp;exact HK.out _ _ rfl (Below.refl _ _)
      |9,_=>exact eF ho HK Kp (et (AD Hd 8)) (hw:=gy rfl rfl (AD Hd 1))
      |10,_=>exact eL ho HK (et (AD Hd 9)) (Uo (bc hG hgi f1)) (hw:=gy rfl rfl (AD Hd 1))
      |11,_=>obtain rfl:=So_ ho;have d2:(a.tmps[101]?.getD undef)= .agg #[.slice (some ⟨gm,0,none⟩) 12 capm, .slice (some ⟨gi,0,none⟩) 12 capi, .slice (some ⟨ge,0,none⟩) 3 cape, .slice a9 n9 c9]:=AD Hd 2;have d4:(a.tmps[103]?.getD undef)= .int .i64 en:=AD Hd 4;have d10:(a.tmps[109]?.getD undef)= .string fg:=AD Hd 10;have d1:(a.tmps[100]?.getD undef)= .bool true:=AD Hd 1;clear Hd Hb;refine AI.yes rfl rfl d1 ?_;go_simp;refine(CM.out _ hG).mono ?_;rintro e w_ ⟨rfl,hb2⟩;exact HK.out _ _ rfl hb2
      |12,_=>exact eN ho HK (et (AD Hd 11)) (hw:=gy rfl rfl (AD Hd 1))
     ·intro vs wx hR hG
      have q1:(vs 1)= .bool true:=BI hR 1;have q12:(vs 12)= .bool true:=BI hR 12;clear hR;simp only[Ai,AX,List.range,List.range.loop,List.foldl_cons,List.foldl_nil,q1,q12];simp;clear q1 q12;clear x0 x1 x2 x3 y0 y1 y2 y3 y4 y5 f1;go_wp2_with fail;go_meet
      case rel=>exact⟨by rw[HM.out];rfl,S.out.below hG⟩
    ·skip
     refine AH 13 mixed (by kernel_rfl) 167 rfl (by kernel_rfl) (fun ix vv ww=>match ix with
      |0=>vv= .bool true
      |1=>vv= .bool true
      |2=>vv= .agg #[.slice (some ⟨gm,0,none⟩) 12 capm, .slice (some ⟨gi,0,none⟩) 12 capi, .slice (some ⟨ge,0,none⟩) 3 cape, .slice a9 n9 c9]
      |3=>vv= .pointer (some ⟨w.heap.size+1,1,none⟩)
      |4=>vv= .int .i64 en
      |5=>vv= .pointer (some ⟨w.heap.size,1,none⟩)
      |6=>vv= .slice (some ⟨gi,0,none⟩) 12 capi
      |7=>vv= .int .i64 fn
      |8=>vv= .pointer (some ⟨gi,fn*3,none⟩)
      |9=>vv= .pointer (some ⟨gi,fn*3+1,none⟩)
      |10=>vv= .string fg
      |11=>vv= .bool true
      |12=>vv= .bool false
      |_=>True) ?_ ?_ ?_
     ·intro i hi vv wz ww' hbz hz
      match i,hi with
      |0,_|1,_|2,_|3,_|4,_|5,_|6,_|7,_|8,_|9,_|10,_|11,_|12,_=>exact hz
     ·intro i hi o ho a wx Hb Hd hG K HK
      match i,hi with
      |0,_=>exact eM ho HK (eb (Aj Hb 10))
      |1,_=>exact eM ho HK (et (AD Hd 0))
      |2,_=>exact eL ho HK (eb (Aj Hb 2)) (PV (bc hG hlg x0) (bc hG hlg x1) (bc hG hlg x2) (bc hG hlg x3)) (hw:=gy rfl rfl (AD Hd 1))
      |3,_=>exact eF ho HK FY (eb (Aj Hb 3)) (hw:=gy rfl rfl (AD Hd 1))
      |4,_=>exact eL ho HK (et (AD Hd 3)) (DA (bc hG hlb y1)) (hw:=gy rfl rfl (AD Hd 1))
      |5,_=>exact eF ho HK CU (eb (Aj Hb 2)) (hw:=gy rfl rfl (AD Hd 1))
      |6,_=>exact eL ho HK (et (AD Hd 5)) (FF (bc hG hlg x1)) (hw:=gy rfl rfl (AD Hd 1))
      |7,_=>exact eM ho HK (eb (Aj Hb 8)) (hw:=gy rfl rfl (AD Hd 1))
      |8,_=>obtain rfl:=So_ ho;have d6:(a.tmps[105]?.getD undef)= .slice (some ⟨gi,0,none⟩) 12 capi:=AD Hd 6;have d7:(a.tmps[106]?.getD undef)= .int .i64 fn:=AD Hd 7;have d1:(a.tmps[100]?.getD undef)= .bool true:=AD Hd 1;clear Hd Hb;refine AI.yes rfl rfl d1 ?_;go_simp;exact HK.out _ _ rfl (Below.refl _ _)
      |9,_=>exact eF ho HK Kp (et (AD Hd 8)) (hw:=gy rfl rfl (AD Hd 1))
      |10,_=>exact eL ho HK (et (AD Hd 9)) (Uo (bc hG hgi f1)) (hw:=gy rfl rfl (AD Hd 1))
      |11,_=>obtain rfl:=So_ ho;have d2:(a.tmps[101]?.getD undef)= .agg #[.slice (some ⟨gm,0,none⟩) 12 capm, .slice (some ⟨gi,0,none⟩) 12 capi, .slice (some ⟨ge,0,none⟩) 3 cape, .slice a9 n9 c9]:=AD Hd 2;have d4:(a.tmps[103]?.getD undef)= .int .i64 en:=AD Hd 4;have d10:(a.tmps[109]?.getD undef)= .string fg:=AD Hd 10;have d1:(a.tmps[100]?.getD undef)= .bool true:=AD Hd 1;clear Hd Hb;refine AI.yes rfl rfl d1 ?_;go_simp;refine(CM.out _ hG).mono ?_;rintro e w_ ⟨rfl,hb2⟩;exact HK.out _ _ rfl hb2
      |12,_=>exact eN ho HK (et (AD Hd 11)) (hw:=gy rfl rfl (AD Hd 1))
     ·intro vs wx hR hG
      have q1:(vs 1)= .bool true:=BI hR 1;have q12:(vs 12)= .bool false:=BI hR 12;clear hR;simp only[Ai,AX,List.range,List.range.loop,List.foldl_cons,List.foldl_nil,q1,q12];simp;clear q1 q12;clear x0 x1 x2 x3 y0 y1 y2 y3 y4 y5 f1;go_wp2_with fail;go_meet
      case rel=>exact⟨by rw[HM.out];rfl,S.out.below hG⟩
  case rest=>
  obtain⟨hs112,S11⟩:=hcut;subst hs112;replace S11:=AA S11;clear S;obtain⟨w11,rfl⟩:∃w11:World,w11=wc:=⟨_,rfl⟩
  cases mm
  rotate_left
  ·have HP5:=AA (show AU k ⟨6,(en:Int),(an:Int),(bn:Int),c,nm⟩=(k,0,1) by
    have hmm:=Hmm.out.symm;rw[Bool.and_eq_true,Bool.not_eq_true'] at hmm;exact HP4.out.trans (if_pos ⟨Hsm.out.trans hmm.1,hmm.2⟩))
   clear Hmm HP4;obtain⟨x0,x1,x2,x3⟩:=S11.out.xs;obtain⟨⟨z0,z1,z2,z3⟩,hfz⟩:=S11.out.zs;obtain⟨hB9,HR9⟩:=S11.out.bad (Nat.le_trans hlo (Nat.le_add_right _ _)) (Nat.le_add_right _ _) (v:=0) (code:=1) (HP5.out) (by decide);have HE:=AA (AB hB9);have HR:=AA HR9;clear hB9 HR9;go_wp2_with ((try simp only[Exit.inBlock,Exit.then]);with_reducible refine bodyPost_ret (v:= .tuple #[.agg #[_,_,_,_], .int .i64 (0), .int .i64 (1)]) ?_ rfl HR.out;obtain⟨E0,E1,E2,E3⟩:=HE.out;simp[results,Tryz.results228,go_sem,E0,E1,E2,E3])
  have hno:¬(BX c=true∧FJ k (en:Int) (infoAt k.infos (Ax c)).g=false):=by rintro⟨h1,h2⟩;have h3:sm=true:=Hsm.out.symm.trans h1;have h4:Ca (AC k.envs en).rights (infoAt k.infos (Ax c)).g=false:=h2;have hmm:=Hmm.out;rw[h3,h4] at hmm;cases hmm
  have HP5:=AA (HP4.out.trans (if_neg hno));clear Hmm HP4 hno;obtain⟨wo,hwo⟩:∃wo,wo=Am k.mem an bn:=⟨_,rfl⟩
  have hwr:=HK.out.word (f:=an) (i:=bn) han hbn;rw[←hwo] at hwr HP5;obtain⟨fo,wro,hVo,hfo,hfoe⟩:=Mo wo;have CO0:=fun W (hW:Below w11.heap.size w11 W)=>Ae (Cc wo W (by omega))
  rw[hVo] at CO0;have CO:=AA CO0;have HFo:=AA hfoe;generalize hso:BX wo=so at*;have Hso:=AA hso;have hfoi:(fo:Int)<12:=by omega
  obtain⟨x0,x1,x2,x3⟩:=S11.out.xs;obtain⟨y0,y1,y2,y3,y4,y5⟩:=S11.out.ys6;obtain⟨hlb,hlg,_,_⟩:=S11.out.lts;obtain⟨gw,capw,Dw,hgw,hcw,Dj,_⟩:=S11.out.mrow Hok.out (f:=an) han;have Dv:=Dj bn hbn
  try simp only at Dv
  rw[←hwo] at Dv;have hgm:gm<w11.heap.size:=World.block_lt_of_cell? _ _ Dw;have HWO:=AA hwo;clear Dj CO0 hVo hfoe hso hwr hwo;go_wp2_with fail;refine AH 17 mixed (by kernel_rfl) 167 rfl (by kernel_rfl) (fun ix vv ww=>match ix with
   |0=>vv= .pointer (some ⟨w.heap.size,0,none⟩)
   |1=>vv= .slice (some ⟨gm,0,none⟩) 12 capm
   |2=>vv= .pointer (some ⟨w.heap.size+1,2,none⟩)
   |3=>vv= .int .i64 an
   |4=>vv= .pointer (some ⟨gm,an,none⟩)
   |5=>vv= .slice (some ⟨gw,0,none⟩) 4 capw
   |6=>vv= .pointer (some ⟨w.heap.size+1,3,none⟩)
   |7=>vv= .int .i64 bn
   |8=>vv= .pointer (some ⟨gw,bn,none⟩)
   |9=>vv= .int .i64 wo
   |10=>vv= .tuple #[.int .i64 fo, .bool wro, .bool so]
   |11=>vv= .tuple #[.int .i64 fo, .bool wro, .bool so]
   |12=>vv= .int .i64 fo
   |13=>vv= .bool wro
   |14=>vv= .bool so
   |15=>vv= .int .i64 fo
   |16=>vv= .bool wro
   |_=>True) ?_ ?_ ?_
  ·intro i hi vv wz ww' hbz hz
   match i,hi with
   |0,_|1,_|2,_|3,_|4,_|5,_|6,_|7,_|8,_|9,_|10,_|11,_|12,_|13,_|14,_|15,_|16,_=>exact hz
   |_+17,hq=>exact absurd hq (by omega)
  ·intro i hi o ho a wx Hb Hd hG K HK
   match i,hi with
   |0,_=>exact eF ho HK Ci (eb (Aj Hb 2))
   |1,_=>exact eL ho HK (et (AD Hd 0)) (Fd (bc hG hlg x0))
   |2,_=>exact eF ho HK EC (eb (Aj Hb 3))
   |3,_=>exact eL ho HK (et (AD Hd 2)) (DA (bc hG hlb y2))
   |4,_=>obtain rfl:=So_ ho;have d1:(a.tmps[116]?.getD undef)= .slice (some ⟨gm,0,none⟩) 12 capm:=AD Hd 1;have d3:(a.tmps[118]?.getD undef)= .int .i64 an:=AD Hd 3;clear Hd Hb;refine AI.of rfl ?_;go_simp;exact HK.out _ _ rfl (Below.refl _ _)
   |5,_=>exact eL ho HK (et (AD Hd 4)) (Qh (bc hG hgm Dw))
   |6,_=>exact eF ho HK Gp (eb (Aj Hb 3))
   |7,_=>exact eL ho HK (et (AD Hd 6)) (DA (bc hG hlb y3))
   |8,_=>obtain rfl:=So_ ho;have d5:(a.tmps[120]?.getD undef)= .slice (some ⟨gw,0,none⟩) 4 capw:=AD Hd 5;have d7:(a.tmps[122]?.getD undef)= .int .i64 bn:=AD Hd 7;clear Hd Hb;refine AI.of rfl ?_;go_simp;exact HK.out _ _ rfl (Below.refl _ _)
   |9,_=>exact eL ho HK (et (AD Hd 8)) (DA (bc hG hgw Dv))
   |10,_=>obtain rfl:=So_ ho;have d9:(a.tmps[124]?.getD undef)= .int .i64 wo:=AD Hd 9;clear Hd Hb;refine AI.of rfl ?_;go_simp;refine(CO.out _ hG).mono ?_;rintro e w_ ⟨rfl,hb2⟩;exact HK.out _ _ rfl hb2
   |11,_=>exact eM ho HK (et (AD Hd 10))
   |12,_=>obtain rfl:=So_ ho;have d11:(a.tmps[114]?.getD undef)= .tuple #[.int .i64 fo, .bool wro, .bool so]:=AD Hd 11;clear Hd Hb;refine AI.of rfl ?_;go_simp;exact HK.out _ _ rfl (Below.refl _ _)
   |13,_=>obtain rfl:=So_ ho;have d11:(a.tmps[114]?.getD undef)= .tuple #[.int .i64 fo, .bool wro, .bool so]:=AD Hd 11;clear Hd Hb;refine AI.of rfl ?_;go_simp;exact HK.out _ _ rfl (Below.refl _ _)
   |14,_=>obtain rfl:=So_ ho;have d11:(a.tmps[114]?.getD undef)= .tuple #[.int .i64 fo, .bool wro, .bool so]:=AD Hd 11;clear Hd Hb;refine AI.of rfl ?_;go_simp;exact HK.out _ _ rfl (Below.refl _ _)
   |15,_=>exact eA ho HK (et (AD Hd 12))
   |16,_=>exact eA ho HK (et (AD Hd 13))
   |_+17,hq=>exact absurd hq (by omega)
  ·intro vs wx hR hG
   have q14:(vs 14)= .bool so:=BI hR 14;have q15:(vs 15)= .int .i64 fo:=BI hR 15;have q16:(vs 16)= .bool wro:=BI hR 16;clear hR;simp only[Ai,AX,List.range,List.range.loop,List.foldl_cons,List.foldl_nil,q14,q15,q16];simp;clear q14 q15 q16;have S12:=AA (S11.out.below hG);clear x0 x1 x2 x3 y0 y1 y2 y3 y4 y5 Dw Dv hG CO hgm hgw hcw S11 hlb hlg;obtain⟨w12,rfl⟩:∃w12:World,w12=wx:=⟨_,rfl⟩
   go_upto_if 129 with fail;go_cut [] (fun wx=>Dm 44 #[.int .i64 6, .int .i64 en, .int .i64 an, .int .i64 bn, .int .i64 c, .string nm] [w.heap.size+2] lo w.heap.size (w.heap.size+1) w wx (.slice (some ⟨gm,0,none⟩) 12 capm) (.slice (some ⟨gi,0,none⟩) 12 capi) (.slice (some ⟨ge,0,none⟩) 3 cape) (.slice a9 n9 c9) {k with cache:=Ey us k.cache,infos:=A1 k.infos wo (-1)})
   case first=>
    cases so
    ·have E:=AA (NI (infos:=k.infos) (n:= -1) Hso.out)
     go_wp2_with fail;go_meet
     case rel=>rw[E.out];exact S12.out
    ·have E:=AA (Oe (infos:=k.infos) (n:= -1) Hso.out (HFo.out rfl))
     obtain⟨x0,x1,x2,x3⟩:=S12.out.xs;obtain⟨hlb,hlg,_,_⟩:=S12.out.lts;have hgi:=S12.out.gi_lt;obtain⟨_,_,d2⟩:=S12.out.infoAt (f:=fo) (by show fo<(k.infos).length;have:=HK.out.len;(try simp only[Cr]);omega)
     try simp only at d2
     have hrv0:=HK.out.refs_le hfo;generalize hrv:(infoAt (k.infos) fo).r=rv at d2 hrv0;obtain⟨nr,hnr⟩:∃nr,rv - 1=nr:=⟨_,rfl⟩
     have Hnr:=AA hnr;clear hnr;have hati:(fo:Int)<12:=by omega
     go_wp2_with fail;refine AH 10 mixed (by kernel_rfl) 167 rfl (by kernel_rfl) (fun ix vv ww=>match ix with
      |0=>vv= .pointer (some ⟨w.heap.size,1,none⟩)
      |1=>vv= .slice (some ⟨gi,0,none⟩) 12 capi
      |2=>vv= .int .i64 fo
      |3=>vv= .pointer (some ⟨w.heap.size,1,none⟩)
      |4=>vv= .slice (some ⟨gi,0,none⟩) 12 capi
      |5=>vv= .int .i64 fo
      |6=>vv= .pointer (some ⟨gi,fo*3,none⟩)
      |7=>vv= .pointer (some ⟨gi,fo*3+2,none⟩)
      |8=>vv= .int .i64 rv
      |9=>vv= .int .i64 nr
      |_=>True) ?_ ?_ ?_
     ·intro i hi vv wz ww' hbz hz
      match i,hi with
      |0,_|1,_|2,_|3,_|4,_|5,_|6,_|7,_|8,_|9,_=>exact hz
     ·intro i hi o ho a wx Hb Hd hG K HK
      match i,hi with
      |0,_=>exact eF ho HK CU (eb (Aj Hb 2))
      |1,_=>exact eL ho HK (et (AD Hd 0)) (FF (bc hG hlg x1))
      |2,_=>exact eM ho HK (eb (Aj Hb 14))
      |3,_=>exact eF ho HK CU (eb (Aj Hb 2))
      |4,_=>exact eL ho HK (et (AD Hd 3)) (FF (bc hG hlg x1))
      |5,_=>exact eM ho HK (eb (Aj Hb 14))
      |6,_=>obtain rfl:=So_ ho;have d4:(a.tmps[134]?.getD undef)= .slice (some ⟨gi,0,none⟩) 12 capi:=AD Hd 4;have d5:(a.tmps[135]?.getD undef)= .int .i64 fo:=AD Hd 5;clear Hd Hb;refine AI.of rfl ?_;go_simp;exact HK.out _ _ rfl (Below.refl _ _)
      |7,_=>exact eF ho HK GW (et (AD Hd 6))
      |8,_=>exact eL ho HK (et (AD Hd 7)) (DA (bc hG hgi d2))
      |9,_=>obtain rfl:=So_ ho;have d8:(a.tmps[138]?.getD undef)= .int .i64 rv:=AD Hd 8;clear Hd Hb;refine AI.of rfl ?_;go_simp;exact HK.out _ _ (by show Value.int .i64 (IntKind.i64.wrap (rv - 1))= .int .i64 nr;rw[IntWalk.i64_in _ (by omega),Hnr.out]) (Below.refl _ _)
     ·intro vs wx hR hG
      have q1:(vs 1)= .slice (some ⟨gi,0,none⟩) 12 capi:=BI hR 1;have q2:(vs 2)= .int .i64 fo:=BI hR 2;have q9:(vs 9)= .int .i64 nr:=BI hR 9;clear hR;simp only[Ai,AX,List.range,List.range.loop,List.foldl_cons,List.foldl_nil,q1,q2,q9];simp;clear q1 q2 q9;have SB:=AA (S12.out.below hG);obtain⟨_,_,d2w⟩:=SB.out.infoAt (f:=fo) (by show fo<(k.infos).length;have:=HK.out.len;(try simp only[Cr]);omega);have Fr:=SB.out.fzi (fo*3+2);have NN:=SB.out.info (by show 12=(k.infos).length;have:=HK.out.len;(try simp only[Cr]);omega) (f:=fo) (by show fo<(k.infos).length;have:=HK.out.len;(try simp only[Cr]);omega) (-1)
      try simp only at NN d2w
      rw[hrv] at NN d2w;rw[show rv+ -1=nr by have:=Hnr.out;omega] at NN;replace NN:=AA NN;generalize hW9:wx.setCell _ _=W9 at NN;clear x0 x1 x2 x3 d2 hG SB;go_wp2_with fail;go_meet
      case rel=>rw[E.out];exact NN.out
   case rest=>
   replace hcut:=AA hcut;have S13:=hcut;clear hcut S12;obtain⟨w12,rfl⟩:∃w12:World,w12=wc:=⟨_,rfl⟩
   go_upto_if 142 with fail;go_cut [] (fun wx=>Dm 44 #[.int .i64 6, .int .i64 en, .int .i64 an, .int .i64 bn, .int .i64 c, .string nm] [w.heap.size+2] lo w.heap.size (w.heap.size+1) w wx (.slice (some ⟨gm,0,none⟩) 12 capm) (.slice (some ⟨gi,0,none⟩) 12 capi) (.slice (some ⟨ge,0,none⟩) 3 cape) (.slice a9 n9 c9) {k with cache:=Ey us k.cache,infos:=A1 (A1 k.infos wo (-1)) c 1})
   case first=>
    cases sm
    ·have E:=AA (NI (infos:=A1 k.infos wo (-1)) (n:=1) Hsm.out)
     go_wp2_with fail;go_meet
     case rel=>rw[E.out];exact S13.out
    ·have E:=AA (Oe (infos:=A1 k.infos wo (-1)) (n:=1) Hsm.out (HFe.out rfl))
     have SR:=AA (GM.refer (ID (AW HK.out).2.1) HK.out.len (n:= -1) (x:=wo) (.inr rfl));obtain⟨x0,x1,x2,x3⟩:=S13.out.xs;obtain⟨hlb,hlg,_,_⟩:=S13.out.lts;have hgi:=S13.out.gi_lt;obtain⟨_,_,d2⟩:=S13.out.infoAt (f:=fn) (by show fn<(A1 k.infos wo (-1)).length;have:=HK.out.len;(try simp only[Cr]);omega)
     try simp only at d2
     have hrv0:=SR.out fn (by simp only[Cr];rw[HK.out.len];exact hfn);generalize hrv:(infoAt (A1 k.infos wo (-1)) fn).r=rv at d2 hrv0;obtain⟨nr,hnr⟩:∃nr,rv+1=nr:=⟨_,rfl⟩
     have Hnr:=AA hnr;clear hnr;have hati:(fn:Int)<12:=by omega
     go_wp2_with fail;refine AH 10 mixed (by kernel_rfl) 167 rfl (by kernel_rfl) (fun ix vv ww=>match ix with
      |0=>vv= .pointer (some ⟨w.heap.size,1,none⟩)
      |1=>vv= .slice (some ⟨gi,0,none⟩) 12 capi
      |2=>vv= .int .i64 fn
      |3=>vv= .pointer (some ⟨w.heap.size,1,none⟩)
      |4=>vv= .slice (some ⟨gi,0,none⟩) 12 capi
      |5=>vv= .int .i64 fn
      |6=>vv= .pointer (some ⟨gi,fn*3,none⟩)
      |7=>vv= .pointer (some ⟨gi,fn*3+2,none⟩)
      |8=>vv= .int .i64 rv
      |9=>vv= .int .i64 nr
      |_=>True) ?_ ?_ ?_
     ·intro i hi vv wz ww' hbz hz
      match i,hi with
      |0,_|1,_|2,_|3,_|4,_|5,_|6,_|7,_|8,_|9,_=>exact hz
     ·intro i hi o ho a wx Hb Hd hG K HK
      match i,hi with
      |0,_=>exact eF ho HK CU (eb (Aj Hb 2))
      |1,_=>exact eL ho HK (et (AD Hd 0)) (FF (bc hG hlg x1))
      |2,_=>exact eM ho HK (eb (Aj Hb 8))
      |3,_=>exact eF ho HK CU (eb (Aj Hb 2))
      |4,_=>exact eL ho HK (et (AD Hd 3)) (FF (bc hG hlg x1))
      |5,_=>exact eM ho HK (eb (Aj Hb 8))
      |6,_=>obtain rfl:=So_ ho;have d4:(a.tmps[147]?.getD undef)= .slice (some ⟨gi,0,none⟩) 12 capi:=AD Hd 4;have d5:(a.tmps[148]?.getD undef)= .int .i64 fn:=AD Hd 5;clear Hd Hb;refine AI.of rfl ?_;go_simp;exact HK.out _ _ rfl (Below.refl _ _)
      |7,_=>exact eF ho HK GW (et (AD Hd 6))
      |8,_=>exact eL ho HK (et (AD Hd 7)) (DA (bc hG hgi d2))
      |9,_=>obtain rfl:=So_ ho;have d8:(a.tmps[151]?.getD undef)= .int .i64 rv:=AD Hd 8;clear Hd Hb;refine AI.of rfl ?_;go_simp;exact HK.out _ _ (by show Value.int .i64 (IntKind.i64.wrap (rv+1))= .int .i64 nr;rw[IntWalk.i64_in _ (by omega),Hnr.out]) (Below.refl _ _)
     ·intro vs wx hR hG
      have q1:(vs 1)= .slice (some ⟨gi,0,none⟩) 12 capi:=BI hR 1;have q2:(vs 2)= .int .i64 fn:=BI hR 2;have q9:(vs 9)= .int .i64 nr:=BI hR 9;clear hR;simp only[Ai,AX,List.range,List.range.loop,List.foldl_cons,List.foldl_nil,q1,q2,q9];simp;clear q1 q2 q9;have SB:=AA (S13.out.below hG);obtain⟨_,_,d2w⟩:=SB.out.infoAt (f:=fn) (by show fn<(A1 k.infos wo (-1)).length;have:=HK.out.len;(try simp only[Cr]);omega);have Fr:=SB.out.fzi (fn*3+2);have NN:=SB.out.info (by show 12=(A1 k.infos wo (-1)).length;have:=HK.out.len;(try simp only[Cr]);omega) (f:=fn) (by show fn<(A1 k.infos wo (-1)).length;have:=HK.out.len;(try simp only[Cr]);omega) (1)
      try simp only at NN d2w
      rw[hrv] at NN d2w;rw[show rv+1=nr by have:=Hnr.out;omega] at NN;replace NN:=AA NN;generalize hW9:wx.setCell _ _=W9 at NN;clear x0 x1 x2 x3 d2 hG SB;go_wp2_with fail;go_meet
      case rel=>rw[E.out];exact NN.out
   case rest=>
   replace hcut:=AA hcut;have S14:=hcut;clear hcut S13;obtain⟨w13,rfl⟩:∃w13:World,w13=wc:=⟨_,rfl⟩
   obtain⟨x0,x1,x2,x3⟩:=S14.out.xs;obtain⟨y0,y1,y2,y3,y4,y5⟩:=S14.out.ys6;obtain⟨hlb,hlg,_,_⟩:=S14.out.lts;obtain⟨gw,capw,Dw,hgw,hcw,_⟩:=S14.out.mrow Hok.out (f:=an) han;have hgm:gm<w13.heap.size:=World.block_lt_of_cell? _ _ Dw;go_wp2_with fail;refine AH 10 mixed (by kernel_rfl) 167 rfl (by kernel_rfl) (fun ix vv ww=>match ix with
    |0=>vv= .pointer (some ⟨w.heap.size,0,none⟩)
    |1=>vv= .slice (some ⟨gm,0,none⟩) 12 capm
    |2=>vv= .pointer (some ⟨w.heap.size+1,2,none⟩)
    |3=>vv= .int .i64 an
    |4=>vv= .pointer (some ⟨gm,an,none⟩)
    |5=>vv= .slice (some ⟨gw,0,none⟩) 4 capw
    |6=>vv= .pointer (some ⟨w.heap.size+1,3,none⟩)
    |7=>vv= .int .i64 bn
    |8=>vv= .pointer (some ⟨w.heap.size+1,4,none⟩)
    |9=>vv= .int .i64 c
    |_=>True) ?_ ?_ ?_
   ·intro i hi vv wz ww' hbz hz
    match i,hi with
    |0,_|1,_|2,_|3,_|4,_|5,_|6,_|7,_|8,_|9,_=>exact hz
   ·intro i hi o ho a wx Hb Hd hG K HK
    match i,hi with
    |0,_=>exact eF ho HK Ci (eb (Aj Hb 2))
    |1,_=>exact eL ho HK (et (AD Hd 0)) (Fd (bc hG hlg x0))
    |2,_=>exact eF ho HK EC (eb (Aj Hb 3))
    |3,_=>exact eL ho HK (et (AD Hd 2)) (DA (bc hG hlb y2))
    |4,_=>obtain rfl:=So_ ho;have d1:(a.tmps[156]?.getD undef)= .slice (some ⟨gm,0,none⟩) 12 capm:=AD Hd 1;have d3:(a.tmps[158]?.getD undef)= .int .i64 an:=AD Hd 3;clear Hd Hb;refine AI.of rfl ?_;go_simp;exact HK.out _ _ rfl (Below.refl _ _)
    |5,_=>exact eL ho HK (et (AD Hd 4)) (Qh (bc hG hgm Dw))
    |6,_=>exact eF ho HK Gp (eb (Aj Hb 3))
    |7,_=>exact eL ho HK (et (AD Hd 6)) (DA (bc hG hlb y3))
    |8,_=>exact eF ho HK KS (eb (Aj Hb 3))
    |9,_=>exact eL ho HK (et (AD Hd 8)) (DA (bc hG hlb y4))
   ·intro vs wx hR hG
    have q5:(vs 5)= .slice (some ⟨gw,0,none⟩) 4 capw:=BI hR 5;have q7:(vs 7)= .int .i64 bn:=BI hR 7;have q9:(vs 9)= .int .i64 c:=BI hR 9;clear hR;simp only[Ai,AX,List.range,List.range.loop,List.foldl_cons,List.foldl_nil,q5,q7,q9];simp;clear q5 q7 q9;have S15:=AA (S14.out.below hG);obtain⟨gw2,capw2,D2,_,_,hC,Fr,_,_,_,hS⟩:=S15.out.mrow Hok.out (f:=an) han;have eD:=D2.symm.trans ((hG.cell (p:=⟨gm,an,none⟩) hgm).trans Dw);cases eD;have D3:=hC bn hbn;have S16:=AA (hS bn c hbn);generalize hW9:wx.setCell _ _=W9 at S16;clear x0 x1 x2 x3 y0 y1 y2 y3 y4 y5 Dw D2 hS hG S14 hC;obtain⟨x0,x1,x2,x3⟩:=S16.out.xs;obtain⟨⟨z0,z1,z2,z3⟩,hfz⟩:=S16.out.zs;obtain⟨hB9,HR9⟩:=S16.out.ret (Nat.le_trans hlo (Nat.le_add_right _ _)) (Nat.le_add_right _ _) (v:=0) (code:=0) (HP5.out);have HE:=AA (AB hB9);have HR:=AA HR9;clear hB9 HR9;go_wp2_with ((try simp only[Exit.inBlock,Exit.then]);with_reducible refine bodyPost_ret (v:= .tuple #[.agg #[_,_,_,_], .int .i64 (0), .int .i64 (0)]) ?_ rfl HR.out;obtain⟨E0,E1,E2,E3⟩:=HE.out;simp[results,Tryz.results228,go_sem,E0,E1,E2,E3])
 ·have t1:(fc !=0)=true:=by simp[ef]
  have hc:=AA ef;have HP3:=AA (show AU k ⟨6,(en:Int),ra,b,c,nm⟩=(k,0,fc) by rw[HP.out,if_neg ef]);clear ef FZ HP;obtain⟨x0,x1,x2,x3⟩:=S1.out.xs;obtain⟨⟨z0,z1,z2,z3⟩,hfz⟩:=S1.out.zs;obtain⟨hB9,HR9⟩:=S1.out.bad (Nat.le_trans hlo (Nat.le_add_right _ _)) (Nat.le_add_right _ _) (v:=0) (code:=fc) (HP3.out) (hc.out);have HE:=AA (AB hB9);have HR:=AA HR9;clear hB9 HR9;go_wp2_with ((try simp only[Exit.inBlock,Exit.then]);with_reducible refine bodyPost_ret (v:= .tuple #[.agg #[_,_,_,_], .int .i64 (0), .int .i64 (fc)]) ?_ rfl HR.out;obtain⟨E0,E1,E2,E3⟩:=HE.out;simp[results,Tryz.results228,go_sem,E0,E1,E2,E3])
theorem Tc {lo:Nat} {mv iv ev cv:Value} {k:AN} {w:World} (h:Cz lo w mv iv ev cv k) (hlo:lo≤w.heap.size) (hk:De k) (call:AR) (he:0≤call.e∧call.e<3) (hnm:call.nm.size≤maxLen) (hc:call.c≤9223372036854775807):
 Calls prog 167 #[.agg #[mv,iv,ev,cv], .agg call.cs] w (GF lo w (AU k call)):=by
 have S0':=SC.start h hlo call;obtain⟨am,nm_,cm,ai,ni,ci,ae,ne_,ce,ac,nc,cc,rfl,rfl,rfl,rfl⟩:=S0'.shapes;have S0:=AA S0';obtain⟨kk,e,a,b,c,nm⟩:=call;simp only[AR.cs] at S0 ⊢;have HK:=AA hk;have HE:=AA he;have HN:=AA hnm;have HC:=AA hc;obtain⟨x0,x1,x2,x3⟩:=S0.out.xs;obtain⟨y0,y1,y2,y3,y4,y5⟩:=S0.out.ys6;clear h S0' he hk hnm hc;generalize hW0:((w.alloc _).alloc _).alloc _=W0 at*
 by_cases e1:kk=1
 ·subst e1
  have C:=AA (Qe S0.out.ink.2.2 S0.out.lo HK.out ⟨1,e,a,b,c,nm⟩ HE.out rfl HN.out);go_in;go_wp2_with fail;refine C.out.mono ?_;rintro r w1 ⟨m',i',e',c',rfl,hs,hK,hb,hf⟩;obtain⟨hB,hB9,HR9⟩:=GF.up S0.out (Nat.le_trans hlo (Nat.le_add_right _ _)) (Nat.le_add_right _ _) hs hK hb hf;obtain⟨am,nm',cm,ai,ni,ci,ae,ne',ce,ac,nc,cc,rfl,rfl,rfl,rfl⟩:=hs;obtain⟨z0,z1,z2,z3⟩:=AB hB;have hfz:=AM hB;have HE9:=AA (AB hB9);have HR:=AA HR9;clear hK hb hf hB hB9 HR9 x0 x1 x2 x3 y0 y1 y2 y3 y4 y5 hW0;go_wp2_with fail;obtain⟨E0,E1,E2,E3⟩:=HE9.out;exact bodyPost_ret (v:= .tuple #[.agg #[_,_,_,_], .int .i64 _, .int .i64 _]) (by simp[results,Tryz.results167,go_sem,E0,E1,E2,E3]) rfl HR.out
 by_cases e2:kk=2
 ·subst e2
  have C:=AA (Qa S0.out.ink.2.2 S0.out.lo HK.out ⟨2,e,a,b,c,nm⟩ HE.out rfl);go_in;go_wp2_with fail;refine C.out.mono ?_;rintro r w1 ⟨m',i',e',c',rfl,hs,hK,hb,hf⟩;obtain⟨hB,hB9,HR9⟩:=GF.up S0.out (Nat.le_trans hlo (Nat.le_add_right _ _)) (Nat.le_add_right _ _) hs hK hb hf;obtain⟨am,nm',cm,ai,ni,ci,ae,ne',ce,ac,nc,cc,rfl,rfl,rfl,rfl⟩:=hs;obtain⟨z0,z1,z2,z3⟩:=AB hB;have hfz:=AM hB;have HE9:=AA (AB hB9);have HR:=AA HR9;clear hK hb hf hB hB9 HR9 x0 x1 x2 x3 y0 y1 y2 y3 y4 y5 hW0;go_wp2_with fail;obtain⟨E0,E1,E2,E3⟩:=HE9.out;exact bodyPost_ret (v:= .tuple #[.agg #[_,_,_,_], .int .i64 _, .int .i64 _]) (by simp[results,Tryz.results167,go_sem,E0,E1,E2,E3]) rfl HR.out
 by_cases e3:kk=3
 ·subst e3
  have C:=AA (Qc S0.out.ink.2.2 S0.out.lo HK.out ⟨3,e,a,b,c,nm⟩ HE.out rfl);go_in;go_wp2_with fail;refine C.out.mono ?_;rintro r w1 ⟨m',i',e',c',rfl,hs,hK,hb,hf⟩;obtain⟨hB,hB9,HR9⟩:=GF.up S0.out (Nat.le_trans hlo (Nat.le_add_right _ _)) (Nat.le_add_right _ _) hs hK hb hf;obtain⟨am,nm',cm,ai,ni,ci,ae,ne',ce,ac,nc,cc,rfl,rfl,rfl,rfl⟩:=hs;obtain⟨z0,z1,z2,z3⟩:=AB hB;have hfz:=AM hB;have HE9:=AA (AB hB9);have HR:=AA HR9;clear hK hb hf hB hB9 HR9 x0 x1 x2 x3 y0 y1 y2 y3 y4 y5 hW0;go_wp2_with fail;obtain⟨E0,E1,E2,E3⟩:=HE9.out;exact bodyPost_ret (v:= .tuple #[.agg #[_,_,_,_], .int .i64 _, .int .i64 _]) (by simp[results,Tryz.results167,go_sem,E0,E1,E2,E3]) rfl HR.out
 by_cases e4:kk=4
 ·subst e4
  have C:=AA (Mx S0.out.ink.2.2 S0.out.lo HK.out ⟨4,e,a,b,c,nm⟩ HE.out (.inl rfl));go_in;go_wp2_with fail;refine C.out.mono ?_;rintro r w1 ⟨m',i',e',c',rfl,hs,hK,hb,hf⟩;obtain⟨hB,hB9,HR9⟩:=GF.up S0.out (Nat.le_trans hlo (Nat.le_add_right _ _)) (Nat.le_add_right _ _) hs hK hb hf;obtain⟨am,nm',cm,ai,ni,ci,ae,ne',ce,ac,nc,cc,rfl,rfl,rfl,rfl⟩:=hs;obtain⟨z0,z1,z2,z3⟩:=AB hB;have hfz:=AM hB;have HE9:=AA (AB hB9);have HR:=AA HR9;clear hK hb hf hB hB9 HR9 x0 x1 x2 x3 y0 y1 y2 y3 y4 y5 hW0;go_wp2_with fail;obtain⟨E0,E1,E2,E3⟩:=HE9.out;exact bodyPost_ret (v:= .tuple #[.agg #[_,_,_,_], .int .i64 _, .int .i64 _]) (by simp[results,Tryz.results167,go_sem,E0,E1,E2,E3]) rfl HR.out
 by_cases e5:kk=5
 ·subst e5
  have C:=AA (Mx S0.out.ink.2.2 S0.out.lo HK.out ⟨5,e,a,b,c,nm⟩ HE.out (.inr rfl));go_in;go_wp2_with fail;refine C.out.mono ?_;rintro r w1 ⟨m',i',e',c',rfl,hs,hK,hb,hf⟩;obtain⟨hB,hB9,HR9⟩:=GF.up S0.out (Nat.le_trans hlo (Nat.le_add_right _ _)) (Nat.le_add_right _ _) hs hK hb hf;obtain⟨am,nm',cm,ai,ni,ci,ae,ne',ce,ac,nc,cc,rfl,rfl,rfl,rfl⟩:=hs;obtain⟨z0,z1,z2,z3⟩:=AB hB;have hfz:=AM hB;have HE9:=AA (AB hB9);have HR:=AA HR9;clear hK hb hf hB hB9 HR9 x0 x1 x2 x3 y0 y1 y2 y3 y4 y5 hW0;go_wp2_with fail;obtain⟨E0,E1,E2,E3⟩:=HE9.out;exact bodyPost_ret (v:= .tuple #[.agg #[_,_,_,_], .int .i64 _, .int .i64 _]) (by simp[results,Tryz.results167,go_sem,E0,E1,E2,E3]) rfl HR.out
 by_cases e6:kk=6
 ·subst e6
  have C:=AA (Rj S0.out.ink.2.2 S0.out.lo HK.out ⟨6,e,a,b,c,nm⟩ HE.out rfl HC.out);go_in;go_wp2_with fail;refine C.out.mono ?_;rintro r w1 ⟨m',i',e',c',rfl,hs,hK,hb,hf⟩;obtain⟨hB,hB9,HR9⟩:=GF.up S0.out (Nat.le_trans hlo (Nat.le_add_right _ _)) (Nat.le_add_right _ _) hs hK hb hf;obtain⟨am,nm',cm,ai,ni,ci,ae,ne',ce,ac,nc,cc,rfl,rfl,rfl,rfl⟩:=hs;obtain⟨z0,z1,z2,z3⟩:=AB hB;have hfz:=AM hB;have HE9:=AA (AB hB9);have HR:=AA HR9;clear hK hb hf hB hB9 HR9 x0 x1 x2 x3 y0 y1 y2 y3 y4 y5 hW0;go_wp2_with fail;obtain⟨E0,E1,E2,E3⟩:=HE9.out;exact bodyPost_ret (v:= .tuple #[.agg #[_,_,_,_], .int .i64 _, .int .i64 _]) (by simp[results,Tryz.results167,go_sem,E0,E1,E2,E3]) rfl HR.out
 by_cases e7:kk=7
 ·subst e7
  have C:=AA (Qd S0.out.ink.2.2 S0.out.lo HK.out ⟨7,e,a,b,c,nm⟩ HE.out rfl);go_in;go_wp2_with fail;refine C.out.mono ?_;rintro r w1 ⟨m',i',e',c',rfl,hs,hK,hb,hf⟩;obtain⟨hB,hB9,HR9⟩:=GF.up S0.out (Nat.le_trans hlo (Nat.le_add_right _ _)) (Nat.le_add_right _ _) hs hK hb hf;obtain⟨am,nm',cm,ai,ni,ci,ae,ne',ce,ac,nc,cc,rfl,rfl,rfl,rfl⟩:=hs;obtain⟨z0,z1,z2,z3⟩:=AB hB;have hfz:=AM hB;have HE9:=AA (AB hB9);have HR:=AA HR9;clear hK hb hf hB hB9 HR9 x0 x1 x2 x3 y0 y1 y2 y3 y4 y5 hW0;go_wp2_with fail;obtain⟨E0,E1,E2,E3⟩:=HE9.out;exact bodyPost_ret (v:= .tuple #[.agg #[_,_,_,_], .int .i64 _, .int .i64 _]) (by simp[results,Tryz.results167,go_sem,E0,E1,E2,E3]) rfl HR.out
 by_cases e8:kk=8
 ·subst e8
  have C:=AA (KE S0.out.ink.2.2 S0.out.lo HK.out ⟨8,e,a,b,c,nm⟩ HE.out (.inl rfl) HN.out);go_in;go_wp2_with fail;refine C.out.mono ?_;rintro r w1 ⟨m',i',e',c',rfl,hs,hK,hb,hf⟩;obtain⟨hB,hB9,HR9⟩:=GF.up S0.out (Nat.le_trans hlo (Nat.le_add_right _ _)) (Nat.le_add_right _ _) hs hK hb hf;obtain⟨am,nm',cm,ai,ni,ci,ae,ne',ce,ac,nc,cc,rfl,rfl,rfl,rfl⟩:=hs;obtain⟨z0,z1,z2,z3⟩:=AB hB;have hfz:=AM hB;have HE9:=AA (AB hB9);have HR:=AA HR9;clear hK hb hf hB hB9 HR9 x0 x1 x2 x3 y0 y1 y2 y3 y4 y5 hW0;go_wp2_with fail;obtain⟨E0,E1,E2,E3⟩:=HE9.out;exact bodyPost_ret (v:= .tuple #[.agg #[_,_,_,_], .int .i64 _, .int .i64 _]) (by simp[results,Tryz.results167,go_sem,E0,E1,E2,E3]) rfl HR.out
 by_cases e9:kk=9
 ·subst e9
  have C:=AA (KE S0.out.ink.2.2 S0.out.lo HK.out ⟨9,e,a,b,c,nm⟩ HE.out (.inr rfl) HN.out);go_in;go_wp2_with fail;refine C.out.mono ?_;rintro r w1 ⟨m',i',e',c',rfl,hs,hK,hb,hf⟩;obtain⟨hB,hB9,HR9⟩:=GF.up S0.out (Nat.le_trans hlo (Nat.le_add_right _ _)) (Nat.le_add_right _ _) hs hK hb hf;obtain⟨am,nm',cm,ai,ni,ci,ae,ne',ce,ac,nc,cc,rfl,rfl,rfl,rfl⟩:=hs;obtain⟨z0,z1,z2,z3⟩:=AB hB;have hfz:=AM hB;have HE9:=AA (AB hB9);have HR:=AA HR9;clear hK hb hf hB hB9 HR9 x0 x1 x2 x3 y0 y1 y2 y3 y4 y5 hW0;go_wp2_with fail;obtain⟨E0,E1,E2,E3⟩:=HE9.out;exact bodyPost_ret (v:= .tuple #[.agg #[_,_,_,_], .int .i64 _, .int .i64 _]) (by simp[results,Tryz.results167,go_sem,E0,E1,E2,E3]) rfl HR.out
 by_cases e10:kk=10
 ·subst e10
  have C:=AA (Qb S0.out.ink.2.2 S0.out.lo HK.out ⟨10,e,a,b,c,nm⟩ HE.out rfl);go_in;go_wp2_with fail;refine C.out.mono ?_;rintro r w1 ⟨m',i',e',c',rfl,hs,hK,hb,hf⟩;obtain⟨hB,hB9,HR9⟩:=GF.up S0.out (Nat.le_trans hlo (Nat.le_add_right _ _)) (Nat.le_add_right _ _) hs hK hb hf;obtain⟨am,nm',cm,ai,ni,ci,ae,ne',ce,ac,nc,cc,rfl,rfl,rfl,rfl⟩:=hs;obtain⟨z0,z1,z2,z3⟩:=AB hB;have hfz:=AM hB;have HE9:=AA (AB hB9);have HR:=AA HR9;clear hK hb hf hB hB9 HR9 x0 x1 x2 x3 y0 y1 y2 y3 y4 y5 hW0;go_wp2_with fail;obtain⟨E0,E1,E2,E3⟩:=HE9.out;exact bodyPost_ret (v:= .tuple #[.agg #[_,_,_,_], .int .i64 _, .int .i64 _]) (by simp[results,Tryz.results167,go_sem,E0,E1,E2,E3]) rfl HR.out
 by_cases e11:kk=11
 ·subst e11
  have C:=AA (PR S0.out.ink.2.2 S0.out.lo HK.out ⟨11,e,a,b,c,nm⟩ HE.out rfl);go_in;go_wp2_with fail;refine C.out.mono ?_;rintro r w1 ⟨m',i',e',c',rfl,hs,hK,hb,hf⟩;obtain⟨hB,hB9,HR9⟩:=GF.up S0.out (Nat.le_trans hlo (Nat.le_add_right _ _)) (Nat.le_add_right _ _) hs hK hb hf;obtain⟨am,nm',cm,ai,ni,ci,ae,ne',ce,ac,nc,cc,rfl,rfl,rfl,rfl⟩:=hs;obtain⟨z0,z1,z2,z3⟩:=AB hB;have hfz:=AM hB;have HE9:=AA (AB hB9);have HR:=AA HR9;clear hK hb hf hB hB9 HR9 x0 x1 x2 x3 y0 y1 y2 y3 y4 y5 hW0;go_wp2_with fail;obtain⟨E0,E1,E2,E3⟩:=HE9.out;exact bodyPost_ret (v:= .tuple #[.agg #[_,_,_,_], .int .i64 _, .int .i64 _]) (by simp[results,Tryz.results167,go_sem,E0,E1,E2,E3]) rfl HR.out
 have HP3:=AA (show AU k ⟨kk,e,a,b,c,nm⟩=(k,0,3) by unfold AU;rw[if_neg e1,if_neg (by rw[AZ];simp only;omega),if_neg e7,if_neg e8,if_neg e9,if_neg (by simp only;omega)]);have t1:(kk==1)=false:=by simp[e1]
 have t2:(kk==2)=false:=by simp[e2]
 have t3:(kk==3)=false:=by simp[e3]
 have t4:(kk==4)=false:=by simp[e4]
 have t5:(kk==5)=false:=by simp[e5]
 have t6:(kk==6)=false:=by simp[e6]
 have t7:(kk==7)=false:=by simp[e7]
 have t8:(kk==8)=false:=by simp[e8]
 have t9:(kk==9)=false:=by simp[e9]
 have t10:(kk==10)=false:=by simp[e10]
 have t11:(kk==11)=false:=by simp[e11]
 clear e1 e2 e3 e4 e5 e6 e7 e8 e9 e10 e11;go_in;obtain⟨x0,x1,x2,x3⟩:=S0.out.xs;obtain⟨⟨z0,z1,z2,z3⟩,hfz⟩:=S0.out.zs;obtain⟨hB9,HR9⟩:=S0.out.bad (Nat.le_trans hlo (Nat.le_add_right _ _)) (Nat.le_add_right _ _) (v:=0) (code:=3) (HP3.out) (by decide);have HE:=AA (AB hB9);have HR:=AA HR9;clear hB9 HR9;go_wp2_with ((try simp only[Exit.inBlock,Exit.then]);with_reducible refine bodyPost_ret (v:= .tuple #[.agg #[_,_,_,_], .int .i64 (0), .int .i64 (3)]) ?_ rfl HR.out;obtain⟨E0,E1,E2,E3⟩:=HE.out;simp[results,Tryz.results167,go_sem,E0,E1,E2,E3])
def MV (lo:Nat) (b:Bool) (v:Value) (w:World) (k:AN):Prop:=b=true∨∃m i e c,v= .agg #[m,i,e,c]∧Cz lo w m i e c k
theorem MV.below {lo:Nat} {b:Bool} {v:Value} {w w':World} {k:AN} (h:MV lo b v w k) (hb:Below w.heap.size w w'):MV lo b v w' k:=h.imp id fun⟨m,i,e,c,h1,h2⟩=>⟨m,i,e,c,h1,h2.below hb⟩
theorem MV.far {lo g:Nat} {b:Bool} {v:Value} {w w':World} {k:AN} {cu:Array Value} (h:MV lo b v w k) (hg:w.grownBy w' (some g)) (hB:w.heap[g]? =some (.cells cu 29 (0,0))):MV lo b v w' k:=h.imp id fun⟨m,i,e,c,h1,h2⟩=>⟨m,i,e,c,h1,h2.far hg hB (by decide) (by decide) (by decide) (by decide) (by decide) (by decide)⟩
def QK (lo:Nat) (w:World) (m i e c:Value) (k:AN) (y:Int):Prop:=Vz m i e c∧(y=0→Cz lo w m i e c k)
theorem QK.below {lo:Nat} {w w':World} {m i e c:Value} {k:AN} {y:Int} (h:QK lo w m i e c k y) (hb:Below w.heap.size w w'):QK lo w' m i e c k y:=⟨h.1,fun h0=>(h.2 h0).below hb⟩
theorem QK.far {lo g:Nat} {w w':World} {m i e c:Value} {k:AN} {y:Int} {cu:Array Value} (h:QK lo w m i e c k y) (hg:w.grownBy w' (some g)) (hB:w.heap[g]? =some (.cells cu 29 (0,0))):QK lo w' m i e c k y:=⟨h.1,fun h0=>(h.2 h0).far hg hB (by decide) (by decide) (by decide) (by decide) (by decide) (by decide)⟩
def J4 (lo:Nat) (v:Value) (w:World) (k:AN) (x y:Int):Prop:=∃m i e c,v= .tuple #[.agg #[m,i,e,c], .int .i64 x, .int .i64 y]∧QK lo w m i e c k y
def Nj (lo:Nat) (v:Value) (w:World) (k:AN) (y:Int):Prop:=∃m i e c,v= .agg #[m,i,e,c]∧QK lo w m i e c k y
theorem J4.below {lo:Nat} {v:Value} {w w':World} {k:AN} {x y:Int} (h:J4 lo v w k x y) (hb:Below w.heap.size w w'):J4 lo v w' k x y:=by obtain⟨m,i,e,c,h1,h2⟩:=h;exact⟨m,i,e,c,h1,h2.below hb⟩
theorem J4.far {lo g:Nat} {v:Value} {w w':World} {k:AN} {x y:Int} {cu:Array Value} (h:J4 lo v w k x y) (hg:w.grownBy w' (some g)) (hB:w.heap[g]? =some (.cells cu 29 (0,0))):J4 lo v w' k x y:=by obtain⟨m,i,e,c,h1,h2⟩:=h;exact⟨m,i,e,c,h1,h2.far hg hB⟩
theorem Nj.below {lo:Nat} {v:Value} {w w':World} {k:AN} {y:Int} (h:Nj lo v w k y) (hb:Below w.heap.size w w'):Nj lo v w' k y:=by obtain⟨m,i,e,c,h1,h2⟩:=h;exact⟨m,i,e,c,h1,h2.below hb⟩
theorem Nj.far {lo g:Nat} {v:Value} {w w':World} {k:AN} {y:Int} {cu:Array Value} (h:Nj lo v w k y) (hg:w.grownBy w' (some g)) (hB:w.heap[g]? =some (.cells cu 29 (0,0))):Nj lo v w' k y:=by obtain⟨m,i,e,c,h1,h2⟩:=h;exact⟨m,i,e,c,h1,h2.far hg hB⟩
def Gm (lo:Nat) (b:Bool) (v:Value) (w:World) (k:AN) (y:Int):Prop:=∃q,v= .pointer (some ⟨q,0,none⟩)∧lo≤q∧if b=true then ∃m i e c,w.heap[q]? =some (.cells #[m,i,e,c] 29 (0,0))∧QK lo w m i e c k y else w.heap[q]? =some (.cells #[.slice none 0 0, .slice none 0 0, .slice none 0 0, .slice none 0 0] 29 (0,0))
theorem Gm.below {lo:Nat} {b:Bool} {v:Value} {w w':World} {k:AN} {y:Int} (h:Gm lo b v w k y) (hb:Below w.heap.size w w'):Gm lo b v w' k y:=by
 obtain⟨q,h0,h1,h2⟩:=h;refine⟨q,h0,h1,?_⟩;cases b
 ·exact AF h2 hb
 ·obtain⟨m,i,e,c,h3,h4⟩:=h2
  exact⟨m,i,e,c,AF h3 hb,h4.below hb⟩
theorem Gm.stay {lo:Nat} {v:Value} {w w':World} {k:AN} {y:Int} (h:Gm lo false v w k y) (hf:Ve w w'):Gm lo false v w' k y:=by obtain⟨q,h0,h1,h2⟩:=h;exact⟨q,h0,h1,(hf q _ h2).trans h2⟩
theorem QZ {mv iv ev cv:Value} {k:AN} {w:World} (h:Mb w mv iv ev cv k) (hk:De k) (call:AR) (he:0≤call.e∧call.e<3) (hnm:call.nm.size≤maxLen) (hcc:call.c≤9223372036854775807):
 Calls prog 101 #[.agg #[mv,iv,ev,cv], .agg call.cs] w (OD w (AU k call)):=by
 have CDo:=AA (fun(lo:Nat) (W:World) (m1 i1 e1 c1:Value) (h:Cz lo W m1 i1 e1 c1 k) (hlo:lo≤W.heap.size)=>Tc h hlo hk call he hnm hcc);have HR:=AA h;have HKk:=AA hk;have HN:=AA (@Mm k call);generalize AU k call=res at CDo HN ⊢;obtain⟨kr,vr,nr⟩:=res;obtain⟨ck,ce,ca,cb,cc,nm⟩:=call;simp only[AR.cs] at CDo ⊢;obtain⟨B0,B1,B2,hb0,hs0⟩:=K5 w (.cells #[mv,iv,ev,cv] 29) (.cells #[.int .i64 ck, .int .i64 ce, .int .i64 ca, .int .i64 cb, .int .i64 cc, .string nm] 44) (.cells #[.slice none 0 0, .slice none 0 0, .slice none 0 0, .slice none 0 0] 29);have CC:=AA (fun W (hW:Below (((w.alloc (.cells #[mv,iv,ev,cv] 29)).alloc (.cells #[.int .i64 ck, .int .i64 ce, .int .i64 ca, .int .i64 cb, .int .i64 cc, .string nm] 44)).alloc (.cells #[.slice none 0 0, .slice none 0 0, .slice none 0 0, .slice none 0 0] 29)).heap.size _ W)=>QY mv iv ev cv k W ((HR.out.below hb0).below hW) HKk.out);clear he hnm hcc h hk;go_in;go_wp2_with fail;generalize((w.alloc _).alloc _).alloc _=W0 at*;obtain⟨x0,x1,x2,x3⟩:=AB B0;obtain⟨y0,y1,y2,y3,y4,y5⟩:=Iv B1;have hg0:=Ao B0;have hb0':=Ao B1;have HB0:=AA hb0;have HB:=AA (And.intro B0 B2);clear hb0 B0 B1 B2;have hb0:=hb0';clear hb0';refine Bs 12 mixed 26 rfl (by kernel_rfl) rfl (fun ix=>ix==3||ix==9) (fun ll ix vv ww=>match ix with
  |0=>vv= .agg #[mv,iv,ev,cv]
  |1=>MV W0.heap.size (ll 3) vv ww k
  |2=>vv= .agg #[.int .i64 ck, .int .i64 ce, .int .i64 ca, .int .i64 cb, .int .i64 cc, .string nm]
  |3=>J4 W0.heap.size vv ww kr vr nr
  |4=>J4 W0.heap.size vv ww kr vr nr
  |5=>Nj W0.heap.size vv ww kr nr
  |6=>vv= .int .i64 vr
  |7=>vv= .int .i64 nr
  |8=>Gm W0.heap.size (ll 9) vv ww kr nr
  |9=>True
  |10=>vv= .int .i64 vr
  |11=>vv= .int .i64 nr
  |_=>True) (fun ll ww=>Below W0.heap.size W0 ww) ?_ ?_ ?_ ?_ ?_ ?_
 ·exact Ar (Below.refl _ _) 1
 ·intro j hj ll i vv wz ww' hi hS hLi hLj hbz hz
  match j,hj with
  |0,_=>exact hz
  |1,_=>exact(MV.below (by rw[En (by rintro rfl;exact absurd hS (by decide))];exact hz) hbz)
  |2,_=>exact hz
  |3,_=>exact(J4.below hz hbz)
  |4,_=>exact(J4.below hz hbz)
  |5,_=>exact(Nj.below hz hbz)
  |6,_|7,_=>exact hz
  |8,_=>exact(Gm.below (by rw[En (by rintro rfl;exact absurd hS (by decide))];exact hz) hbz)
  |9,_|10,_|11,_=>exact hz
 ·intro ll i wz ww' hi hS hLi hbz hg
  exact hg.trans (hbz.mono hg.size)
 ·intro i hi hS o ho a wx Hb ll Hd HL hG K HK
  match i,hi,hS with
  |0,_,_=>obtain rfl:=So_ ho;exact eL ho HK (eb (Aj Hb 2)) (PV (bc hG hg0 x0) (bc hG hg0 x1) (bc hG hg0 x2) (bc hG hg0 x3))
  |1,_,_=>
   obtain rfl:=So_ ho;have d0:(a.tmps[11]?.getD undef)= .agg #[mv,iv,ev,cv]:=Be Hd HL 0;have u3:ll 3=false:=by
    cases hx:ll 3
    ·rfl
    ·exact absurd (HL.out.2.2 3 1 hx (by kernel_rfl)) (by rw[HL.out.1];decide)
   have u9:ll 9=false:=by
    cases hx:ll 9
    ·rfl
    ·exact absurd (HL.out.2.2 9 1 hx (by kernel_rfl)) (by rw[HL.out.1];decide)
   clear Hd Hb;refine AI.of rfl ?_;go_simp;refine(CC.out _ hG).mono ?_;rintro r w_ ⟨m',i',e',c',rfl,hO,hb2⟩;exact HK.out _ _ (.inr ⟨m',i',e',c',rfl,hO.lower hG.size⟩) hb2
  |2,_,_=>obtain rfl:=So_ ho;exact eL ho HK (eb (Aj Hb 3)) (Vx (bc hG hb0 y0) (bc hG hb0 y1) (bc hG hb0 y2) (bc hG hb0 y3) (bc hG hb0 y4) (bc hG hb0 y5))
  |3,_,hs=>exact absurd hs (by decide)
  |4,_,_=>
   obtain rfl:=So_ ho;have d3:J4 W0.heap.size (a.tmps[14]?.getD undef) wx kr vr nr:=Be Hd HL 3;have u3:ll 3=true:=HL.out.2.1 3 (by kernel_rfl);have u9:ll 9=false:=by
    cases hx:ll 9
    ·rfl
    ·exact absurd (HL.out.2.2 9 4 hx (by kernel_rfl)) (by rw[HL.out.1];decide)
   clear Hd Hb;refine AI.of rfl ?_;go_simp;exact HK.out _ _ d3 (Below.refl _ _)
  |5,_,_=>
   obtain rfl:=So_ ho;have d4:J4 W0.heap.size (a.tmps[10]?.getD undef) wx kr vr nr:=Be Hd HL 4;have u9:ll 9=false:=by
    cases hx:ll 9
    ·rfl
    ·exact absurd (HL.out.2.2 9 5 hx (by kernel_rfl)) (by rw[HL.out.1];decide)
   clear Hd Hb;obtain⟨m',i',e',c',d4,hO⟩:=d4;refine AI.of rfl ?_;go_simp;exact HK.out _ _ ⟨_,_,_,_,rfl,hO⟩ (Below.refl _ _)
  |6,_,_=>obtain rfl:=So_ ho;have d4:J4 W0.heap.size (a.tmps[10]?.getD undef) wx kr vr nr:=Be Hd HL 4;clear Hd Hb;obtain⟨m',i',e',c',d4,hO⟩:=d4;refine AI.of rfl ?_;go_simp;exact HK.out _ _ rfl (Below.refl _ _)
  |7,_,_=>obtain rfl:=So_ ho;have d4:J4 W0.heap.size (a.tmps[10]?.getD undef) wx kr vr nr:=Be Hd HL 4;clear Hd Hb;obtain⟨m',i',e',c',d4,hO⟩:=d4;refine AI.of rfl ?_;go_simp;exact HK.out _ _ rfl (Below.refl _ _)
  |8,_,_=>
   obtain rfl:=So_ ho;have u9:ll 9=false:=by
    cases hx:ll 9
    ·rfl
    ·exact absurd (HL.out.2.2 9 8 hx (by kernel_rfl)) (by rw[HL.out.1];decide)
   clear Hd Hb;refine AI.of rfl ?_;go_simp;exact HK.out _ _ ⟨_,rfl,hG.size,by rw[En (by decide),u9];exact heap_alloc_new _ _⟩ (AG _ _)
  |9,_,hs=>exact absurd hs (by decide)
  |10,_,_=>obtain rfl:=So_ ho;exact eA ho HK (et (Be Hd HL 6))
  |11,_,_=>obtain rfl:=So_ ho;exact eA ho HK (et (Be Hd HL 7))
 ·intro i hi hS o ho a wx Hb ll Hd HL hG K HK
  match i,hi,hS with
  |0,_,hs|1,_,hs|2,_,hs=>exact absurd hs (by decide)
  |3,_,_=>
   obtain rfl:=So_ ho;have d1:MV W0.heap.size (ll 3) (a.tmps[12]?.getD undef) wx k:=Be Hd HL 1;have d2:(a.tmps[13]?.getD undef)= .agg #[.int .i64 ck, .int .i64 ce, .int .i64 ca, .int .i64 cb, .int .i64 cc, .string nm]:=Be Hd HL 2;have u9:ll 9=false:=by
    cases hx:ll 9
    ·rfl
    ·exact absurd (HL.out.2.2 9 3 hx (by kernel_rfl)) (by rw[HL.out.1];decide)
   clear Hd Hb
   rcases d1 with d1|⟨m',i',e',c',d1,hO⟩
   ·rw[HL.out.1] at d1;cases d1
   refine AI.of rfl ?_;go_simp;refine(CDo.out _ _ _ _ _ _ hO hG.size).mono ?_;rintro r w_ ⟨m2,i2,e2,c2,rfl,hs,hk2,hb2,hf⟩;exact HK.out _ _ ⟨m2,i2,e2,c2,rfl,hs,hk2⟩ (hG.trans hb2) (fun j hji hjn hjl hu=>match j,hjn with
    |0,_=>hu
    |1,_=> .inl (by rw[FN])
    |2,_=>hu
    |3,_=>absurd rfl hji
    |4,_=>absurd (HL.out.2.2 4 3 (hjl) (by kernel_rfl)) (by rw[HL.out.1];decide)
    |5,_=>absurd (HL.out.2.2 4 3 (HL.out.2.2 5 4 (hjl) (by kernel_rfl)) (by kernel_rfl)) (by rw[HL.out.1];decide)
    |6,_|7,_=>hu
    |8,_=>by
     rw[u9] at hu
     show Gm _ (JK ll 3 9) _ _ _ _
     rw[En (by decide),u9];exact Gm.stay hu hf
    |9,_|10,_=>hu
    |11,_=>hu)
  |4,_,hs|5,_,hs|6,_,hs|7,_,hs|8,_,hs=>exact absurd hs (by decide)
  |9,_,_=>
   obtain rfl:=So_ ho;have d8:Gm W0.heap.size (ll 9) (a.tmps[7]?.getD undef) wx kr nr:=Be Hd HL 8;have d5:Nj W0.heap.size (a.tmps[15]?.getD undef) wx kr nr:=Be Hd HL 5;have u3:ll 3=true:=HL.out.2.1 3 (by kernel_rfl);clear Hd Hb;obtain⟨qb,e10,hq1,hq2⟩:=d8;rw[HL.out.1] at hq2;replace hq2:wx.heap[qb]? =some (.cells #[.slice none 0 0, .slice none 0 0, .slice none 0 0, .slice none 0 0] 29 (0,0)):=hq2;obtain⟨m',i',e',c',d5,hO⟩:=d5;obtain⟨va,vn,vc,wa,wn,wc,xa,xn,xc,ya,yn,yc,rfl,rfl,rfl,rfl⟩:=hO.1;obtain⟨c0,c1_,c2,c3⟩:=AB hq2;have fq:=AM hq2;have hgr:=AA (BM wx qb (.slice va vn vc) (.slice wa wn wc) (.slice xa xn xc) (.slice ya yn yc));have E10:=AA e10;have Hq:=AA hq2;have HO:=AA hO;clear hq2 hO;refine AI.of rfl ?_;go_simp;exact HK.out undef _ trivial (AT hG hgr.out hq1 hG.size) (fun j hji hjn hjl hu=>match j,hjn with
    |0,_=>hu
    |1,_=>by
     show MV _ (JK ll 9 3) _ _ _
     rw[En (by decide)];exact MV.far hu hgr.out Hq.out
    |2,_=>hu
    |3,_=>J4.far hu hgr.out Hq.out
    |4,_=>J4.far hu hgr.out Hq.out
    |5,_=>Nj.far hu hgr.out Hq.out
    |6,_|7,_=>hu
    |8,_=>⟨qb,E10.out,hq1,by rw[FN];exact⟨_,_,_,_,DJ Hq.out,HO.out.far hgr.out Hq.out⟩⟩
    |9,_=>absurd rfl hji
    |10,_=>hu
    |11,_=>hu)
  |10,_,hs|11,_,hs=>exact absurd hs (by decide)
 ·intro vs wx ll hall hR hG
  have q8:Gm W0.heap.size (ll 9) (vs 8) wx kr nr:=BI hR 8;have q10:(vs 10)= .int .i64 vr:=BI hR 10;have q11:(vs 11)= .int .i64 nr:=BI hR 11;clear hR;simp only[Dy,Bl,List.range,List.range.loop,List.foldl_cons,List.foldl_nil,q10,q11];simp;generalize vs 8=z8 at q8 ⊢;clear q10 q11;obtain⟨qb,rfl,hq1,hq2⟩:=q8;rw[hall 9 (by decide),if_pos rfl] at hq2;obtain⟨m',i',e',c',hqB,hO⟩:=hq2;clear hall x0 x1 x2 x3 y0 y1 y2 y3 y4 y5;obtain⟨va,vn,vc,wa,wn,wc,xa,xn,xc,ya,yn,yc,rfl,rfl,rfl,rfl⟩:=hO.1;obtain⟨c0,c1_,c2,c3⟩:=AB hqB;have B0':=AF HB.out.1 hG;have B2':=AF HB.out.2 hG;have HWx:=AA (HB0.out.trans (hG.mono HB0.out.size))
  by_cases h0:nr=0
  ·subst h0
   have hK:=hO.2 rfl;have hfz:=AM B2';obtain⟨z0,z1,z2,z3⟩:=AB B2';obtain⟨E0,E1,E2,E3⟩:=IB (m':= .slice va vn vc) (i':= .slice wa wn wc) (e':= .slice xa xn xc) (c':= .slice ya yn yc) B2';have HE:=AA (And.intro E0 (And.intro E1 (And.intro E2 E3)));have hgr:=BM wx (w.heap.size+1+1) (.slice va vn vc) (.slice wa wn wc) (.slice xa xn xc) (.slice ya yn yc);have HR4:=AA (show Cz w.heap.size _ (.slice va vn vc) (.slice wa wn wc) (.slice xa xn xc) (.slice ya yn yc) kr from(hK.far hgr B2' (by decide) (by decide) (by decide) (by decide) (by decide) (by decide)).lower HB0.out.size);have HB4:=AA (AT HWx.out hgr (by omega) HWx.out.size);clear E0 E1 E2 E3 hO hK hgr B0' B2' HN hG hqB;go_wp2_with fail;obtain⟨E0,E1,E2,E3⟩:=HE.out;exact bodyPost_ret (v:= .tuple #[.agg #[_,_,_,_],_,_]) (by simp[results,Tryz.results101,go_sem,E0,E1,E2,E3]) rfl ⟨_,_,_,_,rfl,HR4.out,HB4.out⟩
  ·have t0:(nr !=0)=true:=by simp[h0]
   have hN:=HN.out h0;simp only[Prod.mk.injEq,and_true] at hN;obtain⟨rfl,rfl⟩:=hN;obtain⟨x0,x1,x2,x3⟩:=AB B0';have CC2:=CC.out wx hG;clear hO hqB c0 c1_ c2 c3;go_wp2_with fail;refine CC2.mono ?_;rintro r w4 ⟨m4,i4,e4,c4,rfl,O4,b4⟩;have B4:=AF B2' b4;have hfz:=AM B4;obtain⟨z0,z1,z2,z3⟩:=AB B4;obtain⟨E0,E1,E2,E3⟩:=IB (m':=m4) (i':=i4) (e':=e4) (c':=c4) B4;have HE:=AA (And.intro E0 (And.intro E1 (And.intro E2 E3)));have hgr:=BM w4 (w.heap.size+1+1) m4 i4 e4 c4;have HR4:=AA (show Cz w.heap.size _ m4 i4 e4 c4 kr from(O4.far hgr B4 (by decide) (by decide) (by decide) (by decide) (by decide) (by decide)).lower HWx.out.size);have HB4:=AA (AT (HWx.out.trans (b4.mono HWx.out.size)) hgr (by omega) (by have:=HWx.out.size;have:=b4.size;omega));obtain⟨⟨_,_,_,rfl⟩,⟨_,_,_,rfl⟩,⟨_,_,_,rfl⟩,⟨_,_,_,rfl⟩⟩:=O4.shapes;clear E0 E1 E2 E3 O4 b4 B4 hgr B0' B2' x0 x1 x2 x3 hG;go_wp2_with fail;obtain⟨E0,E1,E2,E3⟩:=HE.out;exact bodyPost_ret (v:= .tuple #[.agg #[_,_,_,_],_,_]) (by simp[results,Tryz.results101,go_sem,E0,E1,E2,E3]) rfl ⟨_,_,_,_,rfl,HR4.out,HB4.out⟩
def VF (w:World) (res:LB) (r:Ending) (w':World):Prop:=∃m i e c,r= .returned (.tuple #[.agg #[m,i,e,c], .int .i64 res.2.1, .bool (res.2.2==0)])∧Cz w.heap.size w' m i e c res.1∧Below w.heap.size w w'
theorem Qg {m i e c:Value} {k:AN} {w:World} (h:Mb w m i e c k) (hk:De k) (kind a b x:Int) (hx:x≤9223372036854775807):
 Calls prog 47 #[.agg #[m,i,e,c], .int .i64 kind, .int .i64 a, .int .i64 b, .int .i64 x] w (VF w (AU k (Dh kind a b x))):=by
 obtain⟨N0,N1,hb0,hs0⟩:=Ph w (.cells #[m,i,e,c] 29) (.cells #[.slice none 0 0, .slice none 0 0, .slice none 0 0, .slice none 0 0] 29);have C:=QZ (h.below hb0) hk (Dh kind a b x) ⟨Int.le_refl 0,show(0:Int)<3 by decide⟩ (show gA.size≤maxLen by decide) hx;simp only[AR.cs,Dh,gA] at C ⊢;generalize AU k ⟨kind,0,a,b,x,⟨#[97]⟩⟩=res at C ⊢;obtain⟨kr,vr,nr⟩:=res;have C:=AA C;clear h hk hx;obtain⟨x0,x1,x2,x3⟩:=AB N0;go_in;go_wp2_with fail;generalize(w.alloc _).alloc _=W0 at*;refine C.out.mono ?_;rintro r w1 ⟨m1,i1,e1,c1,rfl,O1,b1⟩;obtain⟨⟨ma,mn,mc,rfl⟩,⟨ia,iN,ic,rfl⟩,⟨ea,en,ec,rfl⟩,⟨qa,qn,qc,rfl⟩⟩:=O1.shapes;have N2:=heap_alloc_new w1 (.cells #[.slice ma mn mc, .slice ia iN ic, .slice ea en ec, .slice qa qn qc] 29);have b2:=AG w1 (.cells #[.slice ma mn mc, .slice ia iN ic, .slice ea en ec, .slice qa qn qc] 29);have B2':=AF (AF N1 b1) b2;have O2:=O1.below b2;have HW:=AA (hb0.trans ((b1.trans (b2.mono b1.size)).mono hb0.size));have hfz:=AM B2';obtain⟨z0,z1,z2,z3⟩:=AB B2';obtain⟨p0,p1,p2,p3⟩:=AB N2;obtain⟨E0,E1,E2,E3⟩:=IB (m':= .slice ma mn mc) (i':= .slice ia iN ic) (e':= .slice ea en ec) (c':= .slice qa qn qc) B2';have HE:=AA (And.intro E0 (And.intro E1 (And.intro E2 E3)));have hgr:=BM (w1.alloc (.cells #[.slice ma mn mc, .slice ia iN ic, .slice ea en ec, .slice qa qn qc] 29)) (w.heap.size+1) (.slice ma mn mc) (.slice ia iN ic) (.slice ea en ec) (.slice qa qn qc);have HR4:=AA (show Cz w.heap.size _ (.slice ma mn mc) (.slice ia iN ic) (.slice ea en ec) (.slice qa qn qc) kr from(O2.far hgr B2' (by decide) (by decide) (by decide) (by decide) (by decide) (by decide)).lower hb0.size);have HB4:=AA (AT HW.out hgr (by omega) HW.out.size);clear E0 E1 E2 E3 hgr B2' N0 N1 N2 x0 x1 x2 x3 O1 O2 b1 b2 hb0 hs0 C;go_wp2_with fail;obtain⟨E0,E1,E2,E3⟩:=HE.out;exact bodyPost_ret (v:= .tuple #[.agg #[_,_,_,_],_,_]) (by simp[results,Tryz.results47,go_sem,E0,E1,E2,E3]) rfl ⟨_,_,_,_,rfl,HR4.out,HB4.out⟩
theorem Cz.past {lo:Nat} {w w':World} {m i e c:Value} {k:AN} {row:Option Nat} (h:Cz lo w m i e c k) (hg:w.grownBy w' row) (hr:∀b,row=some b→b<lo):Cz lo w' m i e c k:=by
 obtain⟨⟨vs,h1,h2,h3⟩,h4,⟨ps,h5,h6,h7⟩,h8⟩:=h;exact⟨⟨vs,EQ h1 hg hr,h2.mono fun _ _ x=>EQ x hg hr,h3⟩,EQ h4 hg hr,⟨ps,EQ h5 hg hr,h6.mono fun _ _ x=>⟨EQ x.1 hg hr,x.2⟩,h7⟩,EQ h8 hg hr⟩
theorem Oh {lo:Nat} {w:World} {v:Value} (h:w.ownsRow lo 30 1 v 16 (List.replicate 16 (.slice none 0 0))):Ah lo w v (List.replicate 16 (.slice none 0 0)) (List.replicate 16 []):=by
 refine⟨h,⟨rfl,fun i x y hx hy=>?_⟩,fun i j u u' _ hi hj=>?_⟩
 ·rw[List.getElem?_replicate] at hx hy
  split at hx
  ·rw[if_pos (by assumption)] at hy
   cases hx;cases hy;exact World.ownsRow_nil _ _ _ _
  ·cases hx
 ·rw[List.getElem?_replicate] at hi
  split at hi
  ·cases hi;intro b hb;simp[Value.ownBlock] at hb
  ·cases hi
theorem Pc (w:World) (s:ByteArray) (t:TypeId):BC (w.alloc (.cells #[.string s] t)) (.slice (some ⟨w.heap.size,0,none⟩) 1 1) [s]:=
 Rd.newsAt w #[.string s] t 1 1 _ rfl rfl (by simp[maxLen])
theorem So (w:World) (a b c:ByteArray) (t u:TypeId):
 IJ ((((w.alloc (.cells #[.string a] t)).alloc (.cells #[.string b] t)).alloc (.cells #[.string c] t)).alloc (.cells #[.slice (some ⟨w.heap.size,0,none⟩) 1 1, .slice (some ⟨w.heap.size+1,0,none⟩) 1 1, .slice (some ⟨w.heap.size+1+1,0,none⟩) 1 1] u))
  (.slice (some ⟨w.heap.size+1+1+1,0,none⟩) 3 3) [[a],[b],[c]]:=by
 have h1:=Pc w a t;have h2:=Pc (w.alloc (.cells #[.string a] t)) b t;have h3:=Pc ((w.alloc (.cells #[.string a] t)).alloc (.cells #[.string b] t)) c t;simp only[World.size_alloc] at h2 h3;refine⟨[.slice (some ⟨w.heap.size,0,none⟩) 1 1, .slice (some ⟨w.heap.size+1,0,none⟩) 1 1, .slice (some ⟨w.heap.size+1+1,0,none⟩) 1 1],?_,rfl,?_⟩
 ·exact Rd.newsAt _ #[_,_,_] u 1 3 _ (by simp) rfl (by simp[maxLen])
 ·intro i x y hx hy
  match i,hx,hy with
  |0,hx,hy=>simp at hx hy;subst hx hy;exact((A3.below h1 (AG _ _)).below (AG _ _)).below (AG _ _)
  |1,hx,hy=>simp at hx hy;subst hx hy;exact(A3.below h2 (AG _ _)).below (AG _ _)
  |2,hx,hy=>simp at hx hy;subst hx hy;exact A3.below h3 (AG _ _)
def Ju:List (List ByteArray):=[[gA],[gB],[gC]]
theorem Ka:∀ts∈Ju,A2 ts=true:=by
 intro ts h;simp only[Ju,List.mem_cons,List.not_mem_nil,or_false] at h
 rcases h with rfl|rfl|rfl<;>decide+kernel
theorem KF:∀ts∈Ju,EB ts:=fun ts h=>FW (Ka ts h)
theorem Ls:Kv Ju=Cp 0:=by kernel_rfl
def nP (l:Int) (n k:Nat):BO:=⟨Cp n,List.replicate 16 [],(List.range k).map (fun j=>((j+1:Nat):Int)),List.replicate 16 ⟨0,0,false⟩,0,l⟩
theorem VR (l:Int):nP l 15 4=Hz l:=by unfold nP Hz;rw[NA];rfl
def VH (w:World) (l:Int) (r:Ending) (w':World):Prop:=∃m i e c s lo q,r= .returned (.tuple #[Bq m i e c s lo q 0 l, .bool true])∧JN w.heap.size w' m i e c s lo q (Hz l)∧Below w.heap.size w w'
def UH (r:Ending):Prop:=r= .returned (.tuple #[Bq (.slice none 0 0) (.slice none 0 0) (.slice none 0 0) (.slice none 0 0) (.slice none 0 0) (.slice none 0 0) (.slice none 0 0) 0 0, .bool false])
theorem Pz (l:Int) (w:World) (h:Bk l 1 6=false):Calls prog 16 #[.int .i64 l] w fun r w'=>UH r∧Below w.heap.size w w':=by have N0:=heap_alloc_new w (.cells #[.slice none 0 0, .slice none 0 0, .slice none 0 0, .slice none 0 0, .slice none 0 0, .slice none 0 0, .slice none 0 0, .int .i64 0, .int .i64 0] 33);go_in;go_wp2_with fail;refine(Cs _ _ _ _).mono ?_;rintro e w' ⟨rfl,rfl⟩;rw[h];have f0:=AM N0;obtain⟨x0,x1,x2,x3,x4,x5,x6,x7,x8⟩:=Ad N0;go_wp2_with fail;exact bodyPost_ret (v:= .tuple #[.agg #[_,_,_,_,_,_,_,_,_],_]) (by simp[results,Tryz.results16,go_sem,x0,x1,x2,x3,x4,x5,x6,x7,x8]) rfl ⟨rfl,AG _ _⟩
theorem OR:(madeCells (Value.agg #[.int .i64 0, .int .i64 0, .bool false]).cells (16*3)).toList=Bj Dg (List.replicate 16 ⟨0,0,false⟩):=by kernel_rfl
def LE (lo:Nat) (v:Value) (w:World) (m i e c:Value) (l:Int):Prop:=∃s q,v= .agg #[m,i,e,c,s, .slice none 0 0,q, .int .i64 0, .int .i64 l]∧Ah lo w s (List.replicate 16 (.slice none 0 0)) (List.replicate 16 [])∧AJ lo 127 3 Dg w q (List.replicate 16 ⟨0,0,false⟩)
theorem LE.below {lo:Nat} {v:Value} {w w':World} {m i e c:Value} {l:Int} (h:LE lo v w m i e c l) (hb:Below w.heap.size w w'):LE lo v w' m i e c l:=by obtain⟨s,q,h1,h2,h3⟩:=h;exact⟨s,q,h1,h2.below hb,h3.below hb⟩
def Gw (lo:Nat) (v:Value) (w:World):Prop:=∃g,v= .pointer (some ⟨g,0,none⟩)∧lo≤g∧w.heap[g]? =some (.cells #[.slice none 0 0, .slice none 0 0, .slice none 0 0, .slice none 0 0, .slice none 0 0, .slice none 0 0, .slice none 0 0, .int .i64 0, .int .i64 0] 33 (0,0))
theorem Gw.below {lo:Nat} {v:Value} {w w':World} (h:Gw lo v w) (hb:Below w.heap.size w w'):Gw lo v w':=by obtain⟨g,h1,h2,h3⟩:=h;exact⟨g,h1,h2,AF h3 hb⟩
theorem OX {lo g:Nat} {w:World} {mv iv ev cv sv lv qv:Value} {l:Int} {n k:Nat} (h:Py lo g w mv iv ev cv sv lv qv (nP l n k)) (hlo:lo≤w.heap.size) (hn:n≤15) (call:AR) (he:call.e=0) (hnm:call.nm.size≤maxLen) (hcc:call.c≤9223372036854775807) {v:Int} (hc:AU (Cp n) call=(Cp (n+1),v,0)):
 Calls prog 41 #[.pointer (some ⟨g,0,none⟩), .agg #[.int .i64 call.k, .int .i64 call.e, .int .i64 call.a, .int .i64 call.b, .int .i64 call.c, .string call.nm]] w
  (fun r w'=>r= .returned (.int .i64 v)∧(∃m i e c,Py lo g w' m i e c sv lv qv (nP l (n+1) k)∧Cz w.heap.size w' m i e c (Cp (n+1)))∧Below lo w w'∧w.grownBy w' (some g)):=by
 refine(Tm h hlo (Qj n hn) call (by omega) (by omega) hnm hcc).mono ?_;rintro r w' ⟨h1,h2,h3⟩;have e:AU (nP l n k).kern call=(Cp (n+1),v,0):=hc;rw[e] at h1 h2;exact⟨h1,h2,h3⟩
theorem Ld {w:World} {lo e sz n:Nat} {v:Value} {xs:List Value} (h:w.ownsRow lo e sz v n xs):∃a n c,v= .slice a n c:=by
 rcases h.2 with⟨rfl,_⟩|⟨g',cap,cur,rfl,_⟩
 ·exact⟨_,_,_,rfl⟩
 ·exact⟨_,_,_,rfl⟩
def GH (k:Nat):List Int:=(List.range k).map fun j=>((j+1:Nat):Int)
theorem M7 (k:Nat):GH (k+1)=GH k++[((k+1:Nat):Int)]:=by simp[GH,List.range_succ]
theorem Jt (k:Nat):(GH k).length=k:=by simp[GH]
theorem VS {lo B g n k:Nat} {w3 w4 w5:World} {m i e c sv lv pv o':Value} {l fr:Int} (I3:Py lo g w3 m i e c sv lv pv (nP l n k)) (S3:Ah lo w3 sv (List.replicate 16 (.slice none 0 0)) (List.replicate 16 [])) (K3:Cz B w3 m i e c (Cp n)) (hB:lo≤B)
 (hr:∀b,lv.ownBlock=some b→b<B) (b4:Below w3.heap.size w3 w4) (q1:w5.ownsRow lo 3 1 o' (k+1) ((GH k).map (Value.int .i64)++[.int .i64 fr])) (q2:w4.grownBy w5 lv.ownBlock) (hfr:fr=((k+1:Nat):Int)):
 w5.heap[g]? =some (.cells #[m,i,e,c,sv,lv,pv, .int .i64 0, .int .i64 l] 33 (0,0))∧Py lo g (w5.setCell ⟨g,5,none⟩ o') m i e c sv o' pv (nP l n (k+1))∧Ah lo (w5.setCell ⟨g,5,none⟩ o') sv (List.replicate 16 (.slice none 0 0)) (List.replicate 16 []):=by
 have I4:=I3.below b4;have S4:=S3.below b4;have hne:=Bz I4.own.low I4.blk (by decide);have hB5:=(q2.block g (Ao I4.blk) (fun e=>hne e.symm)).trans I4.blk;have gr:=Al w5 g 5 o';have S6:=(Oh (Av S4.1 q2 (BK S4.1 I4.own.low (by decide)).ne)).far gr hB5 (by decide) (by decide);refine⟨hB5,⟨?_,I3.glo,⟨(((K3.below b4).past q2 hr).lower hB).far gr hB5 (by decide) (by decide) (by decide) (by decide) (by decide) (by decide),⟨_,S6⟩,?_,Ek (Av I4.own.pgs q2 (BK I4.own.pgs I4.own.low (by decide)).ne) gr hB5 (by decide),I3.own.apart⟩⟩,S6⟩
 ·have:=heap_setCell_same w5 g 5 _ _ o' hB5
  simpa[nP] using this
 ·show AE lo _ o' (GH (k+1))
  rw[M7,←hfr];have:AE lo w5 o' (GH k++[fr]):=by simpa[AE,Jt] using q1
  exact Ek this gr hB5 (by decide)
theorem Ow (l:Int) (w:World) (h1:1≤l) (h6:l≤6):Calls prog 16 #[.int .i64 l] w (VH w l):=by
 have N0:=heap_alloc_new w (.cells #[.slice none 0 0, .slice none 0 0, .slice none 0 0, .slice none 0 0, .slice none 0 0, .slice none 0 0, .slice none 0 0, .int .i64 0, .int .i64 0] 33);have b0:=AG w (.cells #[.slice none 0 0, .slice none 0 0, .slice none 0 0, .slice none 0 0, .slice none 0 0, .slice none 0 0, .slice none 0 0, .int .i64 0, .int .i64 0] 33);have hs0:(w.alloc (.cells #[.slice none 0 0, .slice none 0 0, .slice none 0 0, .slice none 0 0, .slice none 0 0, .slice none 0 0, .slice none 0 0, .int .i64 0, .int .i64 0] 33)).heap.size=w.heap.size+1:=by simp
 go_in;go_wp2_with fail;refine(Cs _ _ _ _).mono ?_;rintro e w' ⟨rfl,rfl⟩;rw[show Bk l 1 6=true from AZ.2 ⟨h1,h6⟩];generalize w.alloc _=W0 at*;have Hs0:=AA hs0;clear hs0;go_wp2_with fail;have hr3:=So W0 ⟨#[97]⟩ ⟨#[98]⟩ ⟨#[99]⟩ 9 67;have bn:=((F3 W0 (.cells #[.string ⟨#[97]⟩] 9) (.cells #[.string ⟨#[98]⟩] 9)).trans ((AG _ (.cells #[.string ⟨#[99]⟩] 9)).mono (F3 W0 _ _).size));replace bn:=bn.trans ((AG _ (.cells #[.slice (some ⟨W0.heap.size,0,none⟩) 1 1, .slice (some ⟨W0.heap.size+1,0,none⟩) 1 1, .slice (some ⟨W0.heap.size+1+1,0,none⟩) 1 1] 67)).mono bn.size);generalize(((W0.alloc _).alloc _).alloc _).alloc _=w5 at*;refine(MX _ Ju w5 hr3 rfl Ka KF).mono ?_;rintro e w6 ⟨mk,ik,ek,ck,rfl,O6,b6⟩;rw[Ls] at O6;obtain⟨⟨ma,mn,mc,rfl⟩,⟨ia,iN,ic,rfl⟩,⟨ea,en,ec,rfl⟩,⟨qa,qn,qc,rfl⟩⟩:=O6.shapes;have b7:=AG w6 (.cells #[.slice ma mn mc, .slice ia iN ic, .slice ea en ec, .slice qa qn qc] 29);have N7:=heap_alloc_new w6 (.cells #[.slice ma mn mc, .slice ia iN ic, .slice ea en ec, .slice qa qn qc] 29);have O7:=(O6.below b7).lower bn.size;have B7:=bn.trans ((b6.trans (b7.mono b6.size)).mono bn.size);go_wp2_with fail;generalize w6.heap.size=gk at N7 ⊢;generalize w6.alloc _=W7 at*;obtain⟨k0,k1,k2,k3⟩:=AB N7;have hgk:=Ao N7;have HO:=AA O7;have HB:=AA B7;have HN:=AA N0;have Hb:=AA b0;clear hr3 bn O6 b6 b7 N7 O7 B7 N0 b0;refine AH 6 mixed (by kernel_rfl) 64 rfl (by kernel_rfl) (fun ix vv ww=>match ix with
  |0=>vv= .agg #[.slice ma mn mc, .slice ia iN ic, .slice ea en ec, .slice qa qn qc]
  |1=>Ah W7.heap.size ww vv (List.replicate 16 (.slice none 0 0)) (List.replicate 16 [])
  |2=>AJ W7.heap.size 127 3 Dg ww vv (List.replicate 16 ⟨0,0,false⟩)
  |3=>vv= .int .i64 l
  |4=>LE W7.heap.size vv ww (.slice ma mn mc) (.slice ia iN ic) (.slice ea en ec) (.slice qa qn qc) l
  |5=>Gw W7.heap.size vv ww
  |_=>True) ?_ ?_ ?_
 ·intro i hi vv wz ww' hbz hz
  match i,hi with
  |0,_=>exact hz
  |1,_=>exact(Ah.below hz hbz)
  |2,_=>exact(AJ.below hz hbz)
  |3,_=>exact hz
  |4,_=>exact(LE.below hz hbz)
  |5,_=>exact(Gw.below hz hbz)
 ·intro i hi o ho a wx Hb Hd hG K HK
  match i,hi with
  |0,_=>exact eL ho HK (eb (Aj Hb 4)) (PV (bc hG hgk k0) (bc hG hgk k1) (bc hG hgk k2) (bc hG hgk k3))
  |1,_=>obtain rfl:=So_ ho;clear Hd Hb;obtain⟨i0,hi0,hz0,hz1,hz2⟩:=info_parts Tryz.infoRow;obtain⟨w9,hrun,h3,h4⟩:=run_make_full (P:=prog) wx wx.heap.size 24 30 i0 _ 1 underlying24 hi0 hz0 hz1 .i64 .i64 16 (by rw[hz2];decide) (by decide) (Nat.le_refl _);have h5:=Below.of_grown h4;rw[Kt (.slice none 0 0) rfl 16] at h3;have hrun':(Instr.makeSlice 24 (.int .i64 16) (.int .i64 16)).run prog wx= .ok (.slice (some ⟨wx.heap.size,0,none⟩) 16 16) w9:=hrun;clear hi0 hz0 hz1 hz2 hrun;refine AI.of rfl ?_;go_simp;exact HK.out _ _ ((Oh h3).lower hG.size) h5
  |2,_=>obtain rfl:=So_ ho;clear Hd Hb;obtain⟨i0,hi0,hz0,hz1,hz2⟩:=info_parts Tryz.infoPageK;obtain⟨w9,hrun,h3,h4⟩:=run_make_full (P:=prog) wx wx.heap.size 31 127 i0 _ 3 underlying31 hi0 hz0 hz1 .i64 .i64 16 (by rw[hz2];decide) (by decide) (Nat.le_refl _);have h5:=Below.of_grown h4;rw[OR] at h3;have hrun':(Instr.makeSlice 31 (.int .i64 16) (.int .i64 16)).run prog wx= .ok (.slice (some ⟨wx.heap.size,0,none⟩) 16 16) w9:=hrun;clear hi0 hz0 hz1 hz2 hrun;refine AI.of rfl ?_;go_simp;exact HK.out _ _ (BQ h3 hG.size) h5
  |3,_=>exact eM ho HK (eb (Aj Hb 0))
  |4,_=>obtain rfl:=So_ ho;have d0:(a.tmps[24]?.getD undef)= .agg #[.slice ma mn mc, .slice ia iN ic, .slice ea en ec, .slice qa qn qc]:=AD Hd 0;have d1:Ah W7.heap.size wx (a.tmps[25]?.getD undef) (List.replicate 16 (.slice none 0 0)) (List.replicate 16 []):=AD Hd 1;have d2:AJ W7.heap.size 127 3 Dg wx (a.tmps[26]?.getD undef) (List.replicate 16 ⟨0,0,false⟩):=AD Hd 2;have d3:(a.tmps[27]?.getD undef)= .int .i64 l:=AD Hd 3;clear Hd Hb;generalize e25:a.tmps[25]?.getD undef=s' at d1;generalize e26:a.tmps[26]?.getD undef=q' at d2;have D1:=AA d1;have D2:=AA d2;obtain⟨_,_,rfl,_,_⟩:=d1.1.rd.shape;obtain⟨_,_,rfl,_,_⟩:=d2.rd.shape;clear d1 d2;refine AI.of rfl ?_;go_simp;exact HK.out _ _ ⟨_,_,rfl,D1.out,D2.out⟩ (Below.refl _ _)
  |5,_=>obtain rfl:=So_ ho;clear Hd Hb;refine AI.of rfl ?_;go_simp;exact HK.out _ _ ⟨_,rfl,hG.size,heap_alloc_new _ _⟩ (AG _ _)
 ·intro vs wx hR hG
  have q4:LE W7.heap.size (vs 4) wx (.slice ma mn mc) (.slice ia iN ic) (.slice ea en ec) (.slice qa qn qc) l:=BI hR 4;have q5:Gw W7.heap.size (vs 5) wx:=BI hR 5;clear hR;simp only[Ai,AX,List.range,List.range.loop,List.foldl_cons,List.foldl_nil];simp;generalize vs 4=z4 at q4 ⊢;generalize vs 5=z5 at q5 ⊢;obtain⟨s',q',rfl,r1,r2⟩:=q4;obtain⟨g,rfl,hg7,hgB⟩:=q5;obtain⟨sa,sn,sc,rfl⟩:∃a n c,s'= .slice a n c:=by obtain⟨_,_,rfl,_,_⟩:=r1.1.rd.shape;exact⟨_,_,_,rfl⟩
  obtain⟨pa,pn,pc,rfl⟩:∃a n c,q'= .slice a n c:=by obtain⟨_,_,rfl,_,_⟩:=r2.rd.shape;exact⟨_,_,_,rfl⟩
  have hap:Fa (.slice ma mn mc) (.slice sa sn sc):=fun b hb hb'=>by obtain⟨us,hu⟩:=HO.out.1;have:=(World.ownsRow.lt hu.1 b hb).2;have:=(World.ownsRow.lt r1.1 b hb').1;omega
  have OP:JN W0.heap.size wx (.slice ma mn mc) (.slice ia iN ic) (.slice ea en ec) (.slice qa qn qc) (.slice sa sn sc) (.slice none 0 0) (.slice pa pn pc) (nP l 0 0):=⟨HO.out.below hG,⟨_,r1.lower HB.out.size⟩,World.ownsRow_nil _ _ _ _,BQ r2 HB.out.size,hap⟩;obtain⟨x0,x1,x2,x3,x4,x5,x6,x7,x8⟩:=Ad hgB;have fz:=AM hgB;clear k0 k1 k2 k3 hgk r2 hap;go_step;go_simp;have hgr:=IC (w:=wx) (g:=g) (b0:= .slice ma mn mc) (b1:= .slice ia iN ic) (b2:= .slice ea en ec) (b3:= .slice qa qn qc) (b4:= .slice sa sn sc) (b5:= .slice none 0 0) (b6:= .slice pa pn pc) (b7:= .int .i64 0) (b8:= .int .i64 l);have N8:=Jj (b0:= .slice ma mn mc) (b1:= .slice ia iN ic) (b2:= .slice ea en ec) (b3:= .slice qa qn qc) (b4:= .slice sa sn sc) (b5:= .slice none 0 0) (b6:= .slice pa pn pc) (b7:= .int .i64 0) (b8:= .int .i64 l) hgB;have O8:=OP.far hgr hgB (by decide) (by decide) (by decide) (by decide) (by decide) (by decide) (by decide);have B8:=AT (HB.out.trans (hG.mono HB.out.size)) hgr (Nat.le_trans HB.out.size hg7) (Nat.le_trans HB.out.size hG.size);have L8:W0.heap.size≤(((MF wx g (.slice ma mn mc) (.slice ia iN ic) (.slice ea en ec) (.slice qa qn qc) (.slice sa sn sc) (.slice none 0 0) (.slice pa pn pc)).setCell ⟨g,7,none⟩ (.int .i64 0)).setCell ⟨g,8,none⟩ (.int .i64 l)).heap.size:=Nat.le_trans HB.out.size (Nat.le_trans hG.size hgr.size);have S8:=(r1.lower HB.out.size).far hgr hgB (by decide) (by decide);have I8:Py W0.heap.size g _ _ _ _ _ _ _ _ (nP l 0 0):=⟨N8,Nat.le_trans HB.out.size hg7,O8⟩;clear r1 N8 O8 hgr OP x0 x1 x2 x3 x4 x5 x6 x7 x8 fz hgB hg7 hG HO HB;unfold MF at I8 B8 L8 S8;generalize((((((((wx.setCell _ _).setCell _ _).setCell _ _).setCell _ _).setCell _ _).setCell _ _).setCell _ _).setCell _ _).setCell _ _=W8 at*;have C:=OX I8 L8 (by omega) ⟨1,0,0,0,0,⟨#[97]⟩⟩ rfl (by decide) (by decide) Sj;dsimp only at C;go_wp2_with fail;refine C.mono ?_;rintro r w9 ⟨rfl,⟨m9,i9,e9,c9,I9,_⟩,b9,g9⟩;have B9:=B8.trans b9;have L9:=Nat.le_trans L8 b9.size;have S9:=S8.far g9 I8.blk (by decide) (by decide);have C:=OX I9 L9 (by omega) ⟨4,0,0,3,0,⟨#[]⟩⟩ rfl (by decide) (by decide) ((Kn (t:=gA) ⟨by decide,by decide,by decide⟩).trans Sg);dsimp only at C;clear I8 S8 B8 L8 b9 g9;go_wp2_with fail;refine C.mono ?_;rintro r w10 ⟨rfl,⟨m10,i10,e10,c10,I10,_⟩,b10,g10⟩;have B10:=B9.trans b10;have L10:=Nat.le_trans L9 b10.size;have S10:=S9.far g10 I9.blk (by decide) (by decide);have C:=OX I10 L10 (by omega) ⟨7,0,0,0,0,⟨#[]⟩⟩ rfl (by decide) (by decide) ((Kn (t:=gA) ⟨by decide,by decide,by decide⟩).trans Qk);dsimp only at C;clear I9 S9 B9 L9 b10 g10;go_wp2_with fail;refine C.mono ?_;rintro r w11 ⟨rfl,⟨m11,i11,e11,c11,I11,_⟩,b11,g11⟩;have B11:=B10.trans b11;have L11:=Nat.le_trans L10 b11.size;have S11:=S10.far g11 I10.blk (by decide) (by decide);clear I10 S10 B10 L10 b11 g11 C;go_wp2_with fail;go_loopw [8,9,10,11,37] (fun _ _ _ _ ix wr=>∃k:Nat,k≤4∧ix= .int .i64 k∧∃m i e c lv,Py W0.heap.size g wr m i e c (.slice sa sn sc) lv (.slice pa pn pc) (nP l (3*k+3) k)∧Ah W0.heap.size wr (.slice sa sn sc) (List.replicate 16 (.slice none 0 0)) (List.replicate 16 [])∧Below W0.heap.size W0 wr∧W0.heap.size≤wr.heap.size) (fun _ _ _ _ ix _=>4 - (intOf ix).toNat)
  case atStart=>exact⟨0,by omega,rfl,_,_,_,_,_,I11,S11,B11,L11⟩
  case round=>
   clear I11 S11 B11 L11;obtain⟨k,hk,rfl,mv,iv,ev,cv,lv,I0,S0,B0,L0⟩:=hrel
   by_cases hlt:k<4
   ·obtain⟨fr,hfr⟩:∃fr:Int,fr=((k+1:Nat):Int):=⟨_,rfl⟩
    have T1:=Ql k hlt;have T2:=Sf k hlt;have T3:=Si k hlt;rw[←hfr] at T1 T2 T3;have hf0:0≤fr∧fr≤11:=by omega
    have Hfr:=AA hfr;clear hfr;have k4:(k:Int)<4:=by omega
    have C:=OX I0 L0 (by omega) ⟨1,0,0,0,0,⟨#[97]⟩⟩ rfl (by decide) (by decide) T1;dsimp only at C;go_wp2_with fail;refine C.mono ?_;rintro r w1 ⟨rfl,⟨m1,i1,e1,c1,I1,_⟩,b1,g1⟩;have B1:=B0.trans b1;have L1:=Nat.le_trans L0 b1.size;have S1:=S0.far g1 I0.blk (by decide) (by decide);have C:=OX I1 L1 (by omega) ⟨4,0,fr,2,0,⟨#[]⟩⟩ rfl (show(0:Nat)≤maxLen from Nat.zero_le _) (show(0:Int)≤9223372036854775807 by decide) ((Kn (t:=gA) ⟨by decide,by decide,by decide⟩).trans T2);dsimp only at C;clear I0 S0 B0 L0 b1 g1;go_wp2_with fail;refine C.mono ?_;rintro r w2 ⟨rfl,⟨m2,i2,e2,c2,I2,_⟩,b2,g2⟩;have B2:=B1.trans b2;have L2:=Nat.le_trans L1 b2.size;have S2:=S1.far g2 I1.blk (by decide) (by decide);clear I1 S1 B1 L1 b2 g2 C;go_wp2_with fail;refine(Iq fr _ hf0.1 hf0.2).mono ?_;rintro r w3 ⟨rfl,rfl⟩;have he:J5 fr≤9223372036854775807:=by unfold J5;omega
    generalize J5 fr=en at T3 he ⊢;have C:=OX I2 L2 (by omega) ⟨6,0,0,(k:Int),en,⟨#[]⟩⟩ rfl (show(0:Nat)≤maxLen from Nat.zero_le _) he ((Kn (t:=gA) ⟨by decide,by decide,by decide⟩).trans T3);dsimp only at C;go_wp2_with fail;refine C.mono ?_;rintro r w3 ⟨rfl,⟨m3,i3,e3,c3,I3,K3⟩,b3,g3⟩;have B3:=B2.trans b3;have L3:=Nat.le_trans L2 b3.size;have S3:=S2.far g3 I2.blk (by decide) (by decide);have hxl:=Jt k;have hlow:AE W0.heap.size w3 lv (GH k):=I3.own.low;have hlt2:∀b,lv.ownBlock=some b→b<w2.heap.size:=fun b hb=>(World.ownsRow.lt I2.own.low b hb).2
    have HP:=AA (fun w4 w5 o' (b4:Below w3.heap.size w3 w4) q1 (q2:w4.grownBy w5 lv.ownBlock)=>VS (o':=o') (w5:=w5) I3 S3 K3 L2 hlt2 b4 q1 q2 Hfr.out);obtain⟨_,_,_,_,_,c5,_⟩:=Ad I3.blk;have f5:=AM I3.blk;obtain⟨la,lc,rfl,_,_,_⟩:=hlow.rd.open;have b4:=AG w3 (.cells #[.int .i64 fr] 3);have hlow4:(w3.alloc (.cells #[.int .i64 fr] 3)).ownsRow W0.heap.size 3 1 (.slice la (GH k).length lc) k ((GH k).map (Value.int .i64)):=by have:=AE.below hlow b4;unfold AE at this;rwa [hxl] at this ⊢
    rw[hxl] at hlow4 c5 HP;have L4:=Nat.le_trans L3 b4.size;have HI:=AA (And.intro B3 (And.intro b4 L4));clear I2 I3 S2 S3 K3 B2 B3 L2 g3 b3 C hlow hlt2 T1 T2 T3;go_wp2_with (at_builtin;go_must (refine BW (lo:=W0.heap.size) (n:=k) (xs:=(GH k).map (Value.int .i64)) (m:=1) (news:=[.int .i64 fr]) rfl rfl 3 (.int .i64 0) 1 8 underlying30 Tryz.infoInt rfl (by decide) rfl hlow4 rfl (Rd.newsAt _ #[_] _ 1 1 _ (by simp) rfl (by simp[maxLen])) (by simp[Value.oneCell']) (by unfold maxLen;omega) (by omega) L4 ?_;intro o' w5 q1 q2 q3 q4;obtain⟨oa,on,oc,rfl⟩:=Ld q1;have X:=HP.out _ _ _ HI.out.2.1 q1 q2;have f6:=AM X.1;have c6:=cell_of_row _ _ 5 _ _ _ X.1;have HX:=AA X.2;have HQ:=AA q4;clear X q1 q2 q3 q4 hlow4));go_roundw
    case rel=>exact⟨k+1,by omega,by go_num,_,_,_,_,_,HX.out.1,HX.out.2,AT (HI.out.1.trans (((HI.out.2.1).mono L3).trans HQ.out)) (Al _ _ _ _) HX.out.1.glo (Nat.le_trans HI.out.2.2 HQ.out.size),Nat.le_trans (Nat.le_trans HI.out.2.2 HQ.out.size) (Al _ g 5 _).size⟩
    case measure=>simp[intOf];omega
   ·obtain rfl:k=4:=by omega
    have I1:Py W0.heap.size g wr mv iv ev cv (.slice sa sn sc) lv (.slice pa pn pc) (Hz l):=VR l▸I0
    have C:=Ux _ _ _ _ _ _ _ (Hz l) wr I1.own.rd (MO h1 h6);unfold Bq at C;obtain⟨x0,x1,x2,x3,x4,x5,x6,x7,x8⟩:=I1.cells;replace x7:wr.cell? ⟨g,7,none⟩=some (.int .i64 0):=x7;replace x8:wr.cell? ⟨g,8,none⟩=some (.int .i64 l):=x8;clear I0 I1 S0;rw[show((4:Nat):Int)=4 from rfl];go_wp2_with fail;refine C.mono ?_;rintro r w7 ⟨m7,i7,e7,c7,s7,l7,q7,rfl,OO,b7⟩;have BB:=B0.trans (b7.mono L0);have HR:=(BB.block w.heap.size (by have:=Hs0.out;omega)).trans HN.out;obtain⟨⟨⟨na,nn,nc,rfl⟩,⟨ja,jn,jc,rfl⟩,⟨fa,fn,fc,rfl⟩,⟨ra,rn,rc,rfl⟩⟩,⟨ta,tn,tc,rfl⟩,⟨la,ln,lc,rfl⟩,⟨ua,un,uc,rfl⟩⟩:=OO.shapes;obtain⟨z0,z1,z2,z3,z4,z5,z6,z7,z8⟩:=Ad HR;have fz:=AM HR;have gr:=IC (w:=w7) (g:=w.heap.size) (b0:= .slice na nn nc) (b1:= .slice ja jn jc) (b2:= .slice fa fn fc) (b3:= .slice ra rn rc) (b4:= .slice ta tn tc) (b5:= .slice la ln lc) (b6:= .slice ua un uc) (b7:= .int .i64 0) (b8:= .int .i64 l);have NN:=Jj (b0:= .slice na nn nc) (b1:= .slice ja jn jc) (b2:= .slice fa fn fc) (b3:= .slice ra rn rc) (b4:= .slice ta tn tc) (b5:= .slice la ln lc) (b6:= .slice ua un uc) (b7:= .int .i64 0) (b8:= .int .i64 l) HR;have OF:=AA ((OO.far gr HR (by decide) (by decide) (by decide) (by decide) (by decide) (by decide) (by decide)).lower (Nat.le_trans Hb.out.size L0));have BF:=AA (AT (Hb.out.trans (BB.mono Hb.out.size)) gr (Nat.le_refl _) (Nat.le_trans (Nat.le_trans Hb.out.size L0) b7.size));have HE:=AA (Ad NN);dsimp only[Bq,Hz];clear OO BB HR gr NN C x0 x1 x2 x3 x4 x5 x6 x7 x8 B0 b7;go_wp2_with fail;obtain⟨E0,E1,E2,E3,E4,E5,E6,E7,E8⟩:=HE.out;unfold MF at E0 E1 E2 E3 E4 E5 E6 E7 E8;exact bodyPost_ret (v:= .tuple #[.agg #[_,_,_,_,_,_,_,_,_],_]) (by simp[results,Tryz.results16,go_sem,E0,E1,E2,E3,E4,E5,E6,E7,E8]) rfl ⟨_,_,_,_,_,_,_,rfl,OF.out,BF.out⟩
end Go.Proofs.YtnieoiclifjoaaaGreatDoor
