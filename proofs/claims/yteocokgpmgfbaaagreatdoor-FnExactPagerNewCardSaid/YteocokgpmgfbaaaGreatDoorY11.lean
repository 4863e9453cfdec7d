/-
  Packed:8 texts.
-/
import Derived.Test.YteocokgpmgfbaaaGreatDoorY1
import Derived.Test.YteocokgpmgfbaaaGreatDoorY9
import Derived.Deep.DeepCutAuto
import Derived.Test.YteocokgpmgfbaaaGreatDoorY7
import Derived.Deep.CutBlock
import Derived.Test.YteocokgpmgfbaaaGreatDoorY10
import Derived.Test.YteocokgpmgfbaaaGreatDoorY8
import Derived.Test.YteocokgpmgfbaaaGreatDoorY4
set_option linter.unusedVariables false
set_option linter.unusedSimpArgs false
set_option maxHeartbeats 16000000
set_option maxRecDepth 100000
namespace Go.Proofs.YteocokgpmgfbaaaGreatDoor
open Go.Proofs.Tryz
open Go.RowKit
theorem QF {lo:Nat} {mv iv ev cv:Value} {k:AH} {w:World} (h:Ct lo w mv iv ev cv k) (hlo:lo≤w.heap.size) (hk:DV k) (call:AM) (he:0≤call.e∧call.e<3) (h2:call.k=10):
 Calls prog 77 #[.agg #[mv,iv,ev,cv], .agg call.cs] w (Fd lo w (AO k call)):=by
 have S0':=SC.start h hlo call;have P0:=(Nb (k:=k) (by first|exact .inl h2|exact .inr h2)).trans Pa;have hok:=(AT hk).1;obtain⟨gm,capm,e7,_⟩:=DW.mems S0' hok;obtain⟨ge,cape,e9,_,_⟩:=S0'.envs (by rw[hk.envl];omega);rw[hk.envl] at e9;obtain⟨am,nm_,cm,ai,ni,ci,ae,ne_,ce,ac,nc,cc,em,ei,ee,ec⟩:=S0'.shapes;subst e7 e9 ei ec;clear em ee;have S0:=AA S0';obtain⟨kk,e,ra,b,c,nm⟩:=call;simp only at he h2;subst h2;obtain⟨en,rfl⟩:∃n:Nat,e=(n:Int):=⟨e.toNat,by omega⟩
 have hen:en<3:=by omega
 have heni:(en:Int)<3:=by omega
 simp only[AM.cs,Int.toNat_natCast] at S0 P0 ⊢;have HP:=AA P0;have HK:=AA hk;have Hok:=AA hok;obtain⟨x0,x1,x2,x3⟩:=S0.out.xs;obtain⟨y0,y1,y2,y3,y4,y5⟩:=S0.out.ys6;obtain⟨_,_,_,D1,_⟩:=S0.out.env (j:=en) (by rw[hk.envl];exact hen);clear h S0' he hk P0 hok;generalize hW0:((w.alloc _).alloc _).alloc _=W0 at*;cases e1:Bv ra 0 63
 ·have HP3:=AA (show AO k ⟨10,(en:Int),ra,b,c,nm⟩=(k,0,3) by rw[HP.out,if_pos (.inl e1)])
  have E1:=AA e1;clear e1 HP;go_in;go_wp2_with fail;refine(Ab (Dx _ _)).mono ?_;rintro r w1 ⟨rfl,hb1⟩;rw[E1.out];have S1:=AA (S0.out.below hb1);clear x0 x1 x2 x3 y0 y1 y2 y3 y4 y5 D1 hb1 hW0;obtain⟨x0,x1,x2,x3⟩:=S1.out.xs;obtain⟨⟨z0,z1,z2,z3⟩,hfz⟩:=S1.out.zs;obtain⟨hB9,HR9⟩:=S1.out.bad (Nat.le_trans hlo (Nat.le_add_right _ _)) (Nat.le_add_right _ _) (v:=0) (code:=3) (HP3.out) (by decide);have HE:=AA (AB hB9);have HR:=AA HR9;clear hB9 HR9;go_wp2_with ((try simp only[Exit.inBlock,Exit.then]);with_reducible refine bodyPost_ret (v:= .tuple #[.agg #[_,_,_,_], .int .i64 (0), .int .i64 (3)]) ?_ rfl HR.out;obtain⟨E0,E1,E2,E3⟩:=HE.out;simp[results,Tryz.results77,go_sem,E0,E1,E2,E3])
 ·have E1:=AA e1
  have ab:=Ac.1 e1;obtain⟨an,rfl⟩:∃n:Nat,ra=(n:Int):=⟨ra.toNat,by omega⟩
  have han:an<64:=by omega
  clear ab e1;generalize hrt:(AD k.envs en).root=rt at*;have hrt0:=AA hrt
  by_cases h0:rt<0
  ·have HP3:=AA (show AO k ⟨10,(en:Int),(an:Int),b,c,nm⟩=(k,0,3) by rw[HP.out,if_pos (.inr (.inl h0))])
   clear HP hrt;go_in;go_wp2_with fail;refine(Ab (Dx _ _)).mono ?_;rintro r w1 ⟨rfl,hb1⟩;rw[E1.out];have S1:=AA (S0.out.below hb1);clear x0 x1 x2 x3 y0 y1 y2 y3 y4 y5 D1 hb1 hW0;obtain⟨x0,x1,x2,x3⟩:=S1.out.xs;obtain⟨⟨z0,z1,z2,z3⟩,hfz⟩:=S1.out.zs;obtain⟨hB9,HR9⟩:=S1.out.bad (Nat.le_trans hlo (Nat.le_add_right _ _)) (Nat.le_add_right _ _) (v:=0) (code:=3) (HP3.out) (by decide);have HE:=AA (AB hB9);have HR:=AA HR9;clear hB9 HR9;go_wp2_with ((try simp only[Exit.inBlock,Exit.then]);with_reducible refine bodyPost_ret (v:= .tuple #[.agg #[_,_,_,_], .int .i64 (0), .int .i64 (3)]) ?_ rfl HR.out;obtain⟨E0,E1,E2,E3⟩:=HE.out;simp[results,Tryz.results77,go_sem,E0,E1,E2,E3])
  ·obtain⟨rn,rfl⟩:∃n:Nat,rt=(n:Int):=⟨rt.toNat,by omega⟩
   have hr12:rn<12:=by have:=root_lt HK.out hen;omega
   have hpu:=(show AO k ⟨10,(en:Int),(an:Int),b,c,nm⟩=_ by rw[HP.out,if_neg (by rintro(x|x|⟨x,_⟩);(· rw[E1.out] at x;cases x);(· exact h0 x);(· cases x))]);simp only[Int.toNat_natCast] at hpu;have HPU:=AA hpu;clear hpu;clear HP hrt h0;go_in;go_wp2_with fail;refine(Ab (Dx _ _)).mono ?_;rintro r w2 ⟨rfl,hb1⟩;rw[E1.out];have S2:=AA (S0.out.below hb1);clear x0 x1 x2 x3 y0 y1 y2 y3 y4 y5 D1 hb1 hW0;obtain⟨x0,x1,x2,x3⟩:=S2.out.xs;obtain⟨y0,y1,y2,y3,y4,y5⟩:=S2.out.ys6;have CF:=AA (MW _ k.cache (en:Int) ((an:Int)/4) w2 S2.out.K.2.2.2);go_wp2_with fail;refine CF.out.mono ?_;rintro r w3 ⟨rfl,hb3⟩;have S3:=AA (S2.out.below hb3);clear x0 x1 x2 x3 y0 y1 y2 y3 y4 y5 hb3 CF;obtain⟨x0,x1,x2,x3⟩:=S3.out.xs;obtain⟨y0,y1,y2,y3,y4,y5⟩:=S3.out.ys6;have FC:=AA (fun h=>ML (c:=k.cache) (e:=(en:Int)) (p:=((an:Int)/4)) h);generalize hat:Eu k.cache (en:Int) ((an:Int)/4)=at_ at*;have Hat:=AA hat;clear hat;go_upto_if 52 with fail;have hb5:=AF w3 (.cells #[.int .i64 0, .int .i64 ((an:Int)%4), .bool false] 126);have n5:=heap_alloc_new w3 (.cells #[.int .i64 0, .int .i64 ((an:Int)%4), .bool false] 126);have hql:=S3.out.lts.2.1;have S5:=AA (S3.out.below hb5);have Hqlo:=AA S3.out.lo;have Hb5:=AA hb5;have hb5l:=hb5.size;clear x0 x1 x2 x3 y0 y1 y2 y3 y4 y5 hb5;generalize hW5:w3.alloc _=W5 at*;generalize hqq:w3.heap.size=q at*;have Hqq:=AA hqq;clear hqq;have N5:=AA n5;clear n5 hW5;have hqg:q≠w.heap.size:=by omega
   have hgq:w.heap.size≠q:=by omega
   go_cut [10,11] (fun s10 s11 wx=>∃(fr:Nat) (wb:Bool),fr<12∧BS k.mem rn an=(0,fr,wb)∧(SC lo w.heap.size ⟨10,(en:Int),(an:Int),b,c,nm⟩ w wx (.slice (some ⟨gm,0,none⟩) 12 capm) (.slice ai ni ci) (.slice (some ⟨ge,0,none⟩) 3 cape) (.slice ac nc cc) k)∧wx.heap[q]? =some (.cells #[.int .i64 fr, .int .i64 ((an:Int)%4), .bool wb] 126 (0,0)))
   case first=>
    obtain⟨x0,x1,x2,x3⟩:=S5.out.xs;obtain⟨y0,y1,y2,y3,y4,y5⟩:=S5.out.ys6;obtain⟨c0,c1,c2⟩:=Ds N5.out;have hfz:=AI N5.out
    by_cases hlt:at_<0
    ·have CW:=AA (MV _ k.mem rn an W5 S5.out.K.1 Hok.out hr12 han)
     go_wp2_with fail;refine CW.out.mono ?_;rintro r w6 ⟨rfl,hb6⟩;have S6:=AA (S5.out.below hb6);have N6:=AA (AG N5.out hb6);clear x0 x1 x2 x3 y0 y1 y2 y3 y4 y5 c0 c1 c2 hfz hb6 CW;rw[show Fj k.mem rn an= .tuple #[if(BS k.mem rn an).1=0 then If (BS k.mem rn an).2.1 an (BS k.mem rn an).2.2 else Da, .int .i64 (BS k.mem rn an).1] from rfl];have Hwf:=AA (fun fr wb (h:BS k.mem rn an=(0,fr,wb))=>My h);generalize hwk:BS k.mem rn an=res at*;clear hwk;obtain⟨cd,fr,wb⟩:=res
     by_cases hcd:cd=0
     ·subst hcd
      have hfr:=Hwf.out fr wb rfl;rw[if_pos rfl];unfold If;rw[show((an%4:Nat):Int)=(an:Int)%4 by omega];have B7:=AF w6 (.cells #[.int .i64 fr, .int .i64 ((an:Int)%4), .bool wb] 126);obtain⟨T8,n8⟩:=(S6.out.below B7).place (by decide) (AG N6.out B7) (Nat.le_trans Hqlo.out (Nat.le_refl _)) (.int .i64 fr) (.int .i64 ((an:Int)%4)) (.bool wb);have T8:=AA T8;have N8:=AA n8;obtain⟨c0,c1,c2⟩:=Ds (AG N6.out B7);have hfz:=AI (AG N6.out B7);have hq6:q≠w6.heap.size:=by have:=Aq N6.out;omega
      have hq6':w6.heap.size≠q:=fun e=>hq6 e.symm
      clear B7 n8;go_wp2_with fail;go_meet
      case rel=>exact⟨fr,wb,hfr,rfl,T8.out,N8.out⟩
     ·rw[if_neg hcd]
      unfold Da;have B7:=AF w6 (.cells #[.int .i64 0, .int .i64 0, .bool false] 126);have S7:=AA (S6.out.below B7);have hcd':(cd !=0)=true:=by simp[hcd]
      have HP3:=AA (show AO k ⟨10,(en:Int),(an:Int),b,c,nm⟩=(k,0,3) by rw[HPU.out];simp[hcd]);clear B7;obtain⟨x0,x1,x2,x3⟩:=S7.out.xs;obtain⟨⟨z0,z1,z2,z3⟩,hfz⟩:=S7.out.zs;obtain⟨hB9,HR9⟩:=S7.out.bad (Nat.le_trans hlo (Nat.le_add_right _ _)) (Nat.le_add_right _ _) (v:=0) (code:=3) (HP3.out) (by decide);have HE:=AA (AB hB9);have HR:=AA HR9;clear hB9 HR9;go_wp2_with ((try simp only[Exit.inBlock,Exit.then]);with_reducible refine bodyPost_ret (v:= .tuple #[.agg #[_,_,_,_], .int .i64 (0), .int .i64 (3)]) ?_ rfl HR.out;obtain⟨E0,E1,E2,E3⟩:=HE.out;simp[results,Tryz.results77,go_sem,E0,E1,E2,E3])
    ·obtain⟨j,hj,ej,hs⟩:=FC.out (by omega)
     rw[show(an:Int)/4=((an/4:Nat):Int) by omega] at hs;obtain⟨fr,hfr,hcj,hwk⟩:=LG HK.out hj hs rfl;generalize(Ae k.cache j).w=wb at hcj hwk;obtain⟨a8,c8,e8,_,_,H8⟩:=A6.open BP (by decide) S3.out.K.2.2.2;cases e8;obtain⟨bc,offc,rfl,hbc,D0,D1,D2,D3⟩:=H8.cachedCells hj;rw[hcj] at D2 D3;rw[Hqq.out] at hbc;simp only at D2 D3;have D2w:=(Hb5.out.cell (p:=⟨bc,offc+j*4+2,none⟩) hbc).trans D2;have D3w:=(Hb5.out.cell (p:=⟨bc,offc+j*4+3,none⟩) hbc).trans D3;obtain⟨T8,n8⟩:=S5.out.place2 (by decide) N5.out (Nat.le_trans Hqlo.out (Nat.le_refl _)) (.int .i64 fr) (.bool wb);have T8:=AA T8;have N8:=AA n8;have hji:(j:Int)<k.cache.length:=by omega
     have hbcq:bc≠q:=by omega
     have hqbc:q≠bc:=by omega
     rw[hrt0.out] at hwk;rw[Int.toNat_natCast] at hwk;subst ej;clear hs hcj D0 D1 D2 D3 n8 H8;go_wp2_with fail;go_meet
     case rel=>exact⟨fr,wb,hfr,hwk,T8.out,N8.out⟩
   case rest=>
    obtain⟨fr,wb,hfr,hwk,s8,n8⟩:=hcut;generalize wc=w8 at*;have S8:=AA s8;have N8:=AA n8;have hpu:=HPU.out;rw[hwk,show((an:Int)%4).toNat=an%4 by omega] at hpu;clear s8 n8 HPU hwk;obtain⟨x0,x1,x2,x3⟩:=S8.out.xs;obtain⟨y0,y1,y2,y3,y4,y5⟩:=S8.out.ys6;obtain⟨p0,p1,p2⟩:=Ds N8.out;have HP3:=AA (show AO k ⟨10,(en:Int),(an:Int),b,c,nm⟩=({k with cache:=EA k.cache (en:Int) ((an:Int)/4) fr wb},Ar k.mem fr (an%4),0) by rw[hpu];rfl);clear hpu;go_upto_if 90 with fail;clear x0 x1 x2 x3 y0 y1 y2 y3 y4 y5 p0 p1 p2;go_cut [] (fun wx=>∃cv,(SC lo w.heap.size ⟨10,(en:Int),(an:Int),b,c,nm⟩ w wx (.slice (some ⟨gm,0,none⟩) 12 capm) (.slice ai ni ci) (.slice (some ⟨ge,0,none⟩) 3 cape) cv {k with cache:=EA k.cache (en:Int) ((an:Int)/4) fr wb})∧wx.heap[q]? =some (.cells #[.int .i64 fr, .int .i64 ((an:Int)%4), .bool wb] 126 (0,0)))
    case first=>
     by_cases hlt:at_<0
     ·obtain⟨x0,x1,x2,x3⟩:=S8.out.xs
      obtain⟨y0,y1,y2,y3,y4,y5⟩:=S8.out.ys6;obtain⟨p0,p1,p2⟩:=Ds N8.out;have CP:=AA (Nj _ k.cache ⟨(en:Int),(an:Int)/4,(fr:Int),wb⟩ w8 S8.out.K.2.2.2 (Fp HK.out));go_wp2_with fail;refine CP.out.mono ?_;rintro r w9 ⟨v',rfl,hO,hb9⟩;have T9:=AA (S8.out.cache hb9 hO);have N9:=AA (show(w9.setCell ⟨w.heap.size,3,none⟩ v').heap[q]? =_ from BD (AG N8.out hb9) (Aj w9 w.heap.size 3 v') hgq);have hU:=AA (show EA k.cache (en:Int) ((an:Int)/4) fr wb=El k.cache ⟨(en:Int),(an:Int)/4,(fr:Int),wb⟩ by unfold EA;rw[Hat.out,if_pos hlt]);have fzg:=AI (S8.out.below hb9).ink.1;have x3o:=(S8.out.below hb9).xs.2.2.2;clear x0 x1 x2 x3 y0 y1 y2 y3 y4 y5 p0 p1 p2 CP;obtain⟨a9,c9,e9,_,_⟩:=hO.rd.shape;generalize List.length _=n9 at e9;subst e9;clear hO hb9;go_wp2_with fail;go_meet
      case rel=>exact⟨_,by rw[hU.out];exact T9.out,N9.out⟩
     ·have hU:=AA (show EA k.cache (en:Int) ((an:Int)/4) fr wb=k.cache by unfold EA;rw[Hat.out,if_neg (by omega)])
      go_wp2_with fail;go_meet
      case rel=>exact⟨_,by rw[hU.out];exact S8.out,N8.out⟩
    case rest=>
     obtain⟨cv,s10,n10⟩:=hcut;generalize wc=w10 at*;have S10:=AA s10;have N10:=AA n10;obtain⟨ac9,c9,e9,_,_⟩:=(s10.K.2.2.2).shape;generalize List.length _=nc9 at e9;subst e9;generalize c9=cc9 at*;clear s10 n10 S8 N8;obtain⟨x0,x1,x2,x3⟩:=S10.out.xs;obtain⟨y0,y1,y2,y3,y4,y5⟩:=S10.out.ys6;obtain⟨p0,p1,p2⟩:=Ds N10.out;obtain⟨hlb,hlg,_,_⟩:=S10.out.lts;have hlq:=Aq N10.out;obtain⟨gw,capw,D,hgw,hcw,hC,_,_,_,hne,_⟩:=DW.mrow S10.out Hok.out hfr;have hgm:gm<w10.heap.size:=World.block_lt_of_cell? _ _ D;have hfri:(fr:Int)<12:=by omega
     have h4i:(an:Int)%4<4:=by omega
     have Dw:=hC (an%4) (by omega);obtain⟨hneg,hB2⟩:=S10.out.rs _ (List.mem_singleton.2 rfl);have nwb:gw≠w.heap.size+2:=hne _ _ _ hB2 (by decide);clear hne;have nqb:q≠w.heap.size+2:=fun e=>by rw[e] at N10;rw[N10.out] at hB2;simp at hB2
     have ngb:gm≠w.heap.size+2:=fun e=>by obtain⟨vs,o⟩:=S10.out.ink.2.2.1;obtain⟨cu,hcu⟩:=A8 o.1 gm rfl;exact DY hcu hB2 (by decide) e
     have HP4:=AA (show AO k ⟨10,(en:Int),(an:Int),b,c,nm⟩=({k with cache:=EA k.cache (en:Int) ((an:Int)/4) fr wb},Ar k.mem fr (an%4),0) from HP3.out);generalize Ar k.mem fr (an%4)=wd at Dw HP4;obtain⟨⟨z0,z1,z2,z3⟩,hfz⟩:=S10.out.zs;go_wp2_with fail;refine Cz 14 131 (fun ix=>ix==11) [.a #[.slice (some ⟨gm,0,none⟩) 12 capm, .slice ai ni ci, .slice (some ⟨ge,0,none⟩) 3 cape, .slice ac9 nc9 cc9], .p w.heap.size 0, .s gm 12 capm, .p q 0, .i ((fr:Int)), .p gm fr, .s gw 4 capw, .p q 1, .i (((an:Int)%4)), .p gw (an%4), .i wd, .z, .i wd, .i 0] (fun ll ix vv ww=>match ix with
      |_=>True) (fun ll ww=>GA w10 (w.heap.size+2) (.slice (some ⟨gm,0,none⟩) 12 capm) (.slice ai ni ci) (.slice (some ⟨ge,0,none⟩) 3 cape) (.slice ac9 nc9 cc9) (ll 11) ww) ?_ ?_ ?_ ?_ ?_ ?_
     ·exact Ao (Below.refl _ _) 1
     ·exact fun _ _ _ _ _ _ _ _ _ _ _ _ h=>h
     ·intro ll i wz ww' hi hS hLi hbz hg
      show GA _ _ _ _ _ _ (Gy ll i 11) _
      rw[ER (by rintro rfl;cases hS)];exact GA.grow hg hbz
     ·intro i hi hS o ho a wx Hb ll Hd HL hG K HK
      match i,hi,hS with
      |0,_,_=>have u11:=Cl HL 11;have mc0:=(show wx.cell? ⟨w.heap.size,0,none⟩=some (.slice (some ⟨gm,0,none⟩) 12 capm) from(GA.cell hG hlg (by simp)).trans x0);have mc1:=(show wx.cell? ⟨w.heap.size,1,none⟩=some (.slice ai ni ci) from(GA.cell hG hlg (by simp)).trans x1);have mc2:=(show wx.cell? ⟨w.heap.size,2,none⟩=some (.slice (some ⟨ge,0,none⟩) 3 cape) from(GA.cell hG hlg (by simp)).trans x2);have mc3:=(show wx.cell? ⟨w.heap.size,3,none⟩=some (.slice ac9 nc9 cc9) from(GA.cell hG hlg (by simp)).trans x3);exact Je ho HK Hb Hd HL (hl:=MY (by assumption) (by assumption) (by assumption) (by assumption))
      |1,_,_|3,_,_|7,_,_|12,_,_|13,_,_=>exact Tk ho HK Hb Hd HL
      |2,_,_=>have mc0:=(show wx.cell? ⟨w.heap.size,0,none⟩=some (.slice (some ⟨gm,0,none⟩) 12 capm) from(GA.cell hG hlg (by simp)).trans x0);exact Je ho HK Hb Hd HL (hl:=Ff (by assumption))
      |4,_,_=>have mc4:=(show wx.cell? ⟨q,0,none⟩=some (.int .i64 fr) from(GA.cell hG hlq nqb).trans p0);exact Je ho HK Hb Hd HL (hl:=Fg (by assumption))
      |6,_,_=>have mc5:=(show wx.cell? ⟨gm,fr,none⟩=some (.slice (some ⟨gw,0,none⟩) 4 capw) from(GA.cell hG hgm ngb).trans D);exact Je ho HK Hb Hd HL (hl:=Ra (by assumption))
      |8,_,_=>have mc6:=(show wx.cell? ⟨q,1,none⟩=some (.int .i64 (((an:Int)%4))) from(GA.cell hG hlq nqb).trans p1);exact Je ho HK Hb Hd HL (hl:=Fg (by assumption))
      |10,_,_=>have mc7:=(show wx.cell? ⟨gw,an%4,none⟩=some (.int .i64 wd) from(GA.cell hG hgw nwb).trans Dw);exact Je ho HK Hb Hd HL (hl:=Fg (by assumption))
      |11,_,hs=>exact absurd hs (by decide)
      |5,_,_=>obtain rfl:=So_ ho;have d2:(a.tmps[122]?.getD undef)= .slice (some ⟨gm,0,none⟩) 12 capm:=Ec Hd HL 2;have d4:(a.tmps[124]?.getD undef)= .int .i64 fr:=Ec Hd HL 4;clear Hd Hb;refine Aa.of rfl ?_;go_simp;exact HK.out _ _ rfl (Below.refl _ _)
      |9,_,_=>obtain rfl:=So_ ho;have d6:(a.tmps[126]?.getD undef)= .slice (some ⟨gw,0,none⟩) 4 capw:=Ec Hd HL 6;have d8:(a.tmps[128]?.getD undef)= .int .i64 (((an:Int)%4)):=Ec Hd HL 8;clear Hd Hb;refine Aa.of rfl ?_;go_simp;exact HK.out _ _ rfl (Below.refl _ _)
     ·intro i hi hS o ho a wx Hb ll Hd HL hG K HK
      match i,hi,hS with
      |0,_,hs|1,_,hs|2,_,hs|3,_,hs|4,_,hs|5,_,hs|6,_,hs|7,_,hs|8,_,hs|9,_,hs|10,_,hs|12,_,hs|13,_,hs=>exact absurd hs (by decide)
      |11,_,_=>
       obtain rfl:=So_ ho;have e4:a.tmps[4]?.getD undef= .pointer (some ⟨w.heap.size+2,0,none⟩):=eg (SA Hb 4);have d0:(a.tmps[120]?.getD undef)= .agg #[.slice (some ⟨gm,0,none⟩) 12 capm, .slice ai ni ci, .slice (some ⟨ge,0,none⟩) 3 cape, .slice ac9 nc9 cc9]:=Ec Hd HL 0;clear Hd Hb;rw[HL.out.1] at hG;replace hG:Below w10.heap.size w10 wx:=hG;have B2:=AG hB2 hG;obtain⟨c0,c1,c2,c3⟩:=AB B2;have hf2:=AI B2;refine Aa.of rfl ?_;go_simp;exact HK.out undef _ trivial (by show GA _ _ _ _ _ _ (Gy ll 11 11) _;rw[En];exact⟨wx,hG,Below.refl _ _⟩) (fun j hji hjn hjl hu=>match j,hjn with
        |0,_|1,_|2,_|3,_|4,_|5,_|6,_|7,_|8,_|9,_|10,_|12,_|13,_=>hu
        |11,_=>absurd rfl hji)
     ·intro vs wx ll hall hR hG
      have q12:(vs 12)= .int .i64 wd:=BT hR 12;have q13:(vs 13)= .int .i64 0:=BT hR 13;clear hR;simp only[DS,BW,List.range,List.range.loop,List.foldl_cons,List.foldl_nil,q12,q13];simp;clear q12 q13;rw[hall 11 (by decide)] at hG;obtain⟨wz,h1,h2⟩:=hG;have h2':Below (GH wz (w.heap.size+2) (.slice (some ⟨gm,0,none⟩) 12 capm) (.slice ai ni ci) (.slice (some ⟨ge,0,none⟩) 3 cape) (.slice ac9 nc9 cc9)).heap.size (GH wz (w.heap.size+2) (.slice (some ⟨gm,0,none⟩) 12 capm) (.slice ai ni ci) (.slice (some ⟨ge,0,none⟩) 3 cape) (.slice ac9 nc9 cc9)) wx:=by simpa[GH] using h2
      obtain⟨hB9,HR9⟩:=(S10.out.below h1).ret (Nat.le_trans hlo (Nat.le_add_right _ _)) (Nat.le_add_right _ _) (v:=wd) (code:=0) HP4.out;obtain⟨E0,E1,E2,E3⟩:=AB (AG hB9 h2');have HR:=AA (HR9.below (by have:=(S10.out.below h1).lo;simpa using this) h2');have HE:=AA (And.intro E0 (And.intro E1 (And.intro E2 E3)));clear x0 x1 x2 x3 y0 y1 y2 y3 y4 y5 p0 p1 p2 z0 z1 z2 z3 hfz D Dw E0 E1 E2 E3 hB9 HR9 h1 h2 h2' hB2;go_wp2_with fail;obtain⟨E0,E1,E2,E3⟩:=HE.out;exact bodyPost_ret (v:= .tuple #[.agg #[_,_,_,_], .int .i64 wd, .int .i64 0]) (by simp[results,Tryz.results77,go_sem,E0,E1,E2,E3]) rfl HR.out
theorem Oz {lo:Nat} {mv iv ev cv:Value} {k:AH} {w:World} (h:Ct lo w mv iv ev cv k) (hlo:lo≤w.heap.size) (hk:DV k) (call:AM) (he:0≤call.e∧call.e<3) (h2:call.k=11):
 Calls prog 77 #[.agg #[mv,iv,ev,cv], .agg call.cs] w (Fd lo w (AO k call)):=by
 have S0':=SC.start h hlo call;have P0:=(Nb (k:=k) (by first|exact .inl h2|exact .inr h2)).trans Pa;have hok:=(AT hk).1;obtain⟨gm,capm,e7,_⟩:=DW.mems S0' hok;obtain⟨ge,cape,e9,_,_⟩:=S0'.envs (by rw[hk.envl];omega);rw[hk.envl] at e9;obtain⟨am,nm_,cm,ai,ni,ci,ae,ne_,ce,ac,nc,cc,em,ei,ee,ec⟩:=S0'.shapes;subst e7 e9 ei ec;clear em ee;have S0:=AA S0';obtain⟨kk,e,ra,b,c,nm⟩:=call;simp only at he h2;subst h2;obtain⟨en,rfl⟩:∃n:Nat,e=(n:Int):=⟨e.toNat,by omega⟩
 have hen:en<3:=by omega
 have heni:(en:Int)<3:=by omega
 simp only[AM.cs,Int.toNat_natCast] at S0 P0 ⊢;have HP:=AA P0;have HK:=AA hk;have Hok:=AA hok;obtain⟨x0,x1,x2,x3⟩:=S0.out.xs;obtain⟨y0,y1,y2,y3,y4,y5⟩:=S0.out.ys6;obtain⟨_,_,_,D1,_⟩:=S0.out.env (j:=en) (by rw[hk.envl];exact hen);clear h S0' he hk P0 hok;generalize hW0:((w.alloc _).alloc _).alloc _=W0 at*;cases e1:Bv ra 0 63
 ·have HP3:=AA (show AO k ⟨11,(en:Int),ra,b,c,nm⟩=(k,0,3) by rw[HP.out,if_pos (.inl e1)])
  have E1:=AA e1;clear e1 HP;go_in;go_wp2_with fail;refine(Ab (Dx _ _)).mono ?_;rintro r w1 ⟨rfl,hb1⟩;rw[E1.out];have S1:=AA (S0.out.below hb1);clear x0 x1 x2 x3 y0 y1 y2 y3 y4 y5 D1 hb1 hW0;obtain⟨x0,x1,x2,x3⟩:=S1.out.xs;obtain⟨⟨z0,z1,z2,z3⟩,hfz⟩:=S1.out.zs;obtain⟨hB9,HR9⟩:=S1.out.bad (Nat.le_trans hlo (Nat.le_add_right _ _)) (Nat.le_add_right _ _) (v:=0) (code:=3) (HP3.out) (by decide);have HE:=AA (AB hB9);have HR:=AA HR9;clear hB9 HR9;go_wp2_with ((try simp only[Exit.inBlock,Exit.then]);with_reducible refine bodyPost_ret (v:= .tuple #[.agg #[_,_,_,_], .int .i64 (0), .int .i64 (3)]) ?_ rfl HR.out;obtain⟨E0,E1,E2,E3⟩:=HE.out;simp[results,Tryz.results77,go_sem,E0,E1,E2,E3])
 ·have E1:=AA e1
  have ab:=Ac.1 e1;obtain⟨an,rfl⟩:∃n:Nat,ra=(n:Int):=⟨ra.toNat,by omega⟩
  have han:an<64:=by omega
  clear ab e1;generalize hrt:(AD k.envs en).root=rt at*;have hrt0:=AA hrt
  by_cases h0:rt<0
  ·have HP3:=AA (show AO k ⟨11,(en:Int),(an:Int),b,c,nm⟩=(k,0,3) by rw[HP.out,if_pos (.inr (.inl h0))])
   clear HP hrt;go_in;go_wp2_with fail;refine(Ab (Dx _ _)).mono ?_;rintro r w1 ⟨rfl,hb1⟩;rw[E1.out];have S1:=AA (S0.out.below hb1);clear x0 x1 x2 x3 y0 y1 y2 y3 y4 y5 D1 hb1 hW0;obtain⟨x0,x1,x2,x3⟩:=S1.out.xs;obtain⟨⟨z0,z1,z2,z3⟩,hfz⟩:=S1.out.zs;obtain⟨hB9,HR9⟩:=S1.out.bad (Nat.le_trans hlo (Nat.le_add_right _ _)) (Nat.le_add_right _ _) (v:=0) (code:=3) (HP3.out) (by decide);have HE:=AA (AB hB9);have HR:=AA HR9;clear hB9 HR9;go_wp2_with ((try simp only[Exit.inBlock,Exit.then]);with_reducible refine bodyPost_ret (v:= .tuple #[.agg #[_,_,_,_], .int .i64 (0), .int .i64 (3)]) ?_ rfl HR.out;obtain⟨E0,E1,E2,E3⟩:=HE.out;simp[results,Tryz.results77,go_sem,E0,E1,E2,E3])
  ·obtain⟨rn,rfl⟩:∃n:Nat,rt=(n:Int):=⟨rt.toNat,by omega⟩
   have hr12:rn<12:=by have:=root_lt HK.out hen;omega
   cases hwb:Ee b
   ·have HP3:=AA (show AO k ⟨11,(en:Int),(an:Int),b,c,nm⟩=(k,0,3) by rw[HP.out,if_pos (.inr (.inr ⟨by first|rfl|trivial,hwb⟩))])
    have HW:=AA (show Bv b 0 9999=false from hwb);clear HP hrt hwb h0;go_in;go_wp2_with fail;refine(Ab (Dx _ _)).mono ?_;rintro r w1 ⟨rfl,hb1⟩;rw[E1.out];have S1:=AA (S0.out.below hb1);clear x0 x1 x2 x3 y0 y1 y2 y3 y4 y5 D1 hb1 hW0;obtain⟨y0,y1,y2,y3,y4,y5⟩:=S1.out.ys6;go_wp2_with fail;refine(Ab (DH _ _ _ _)).mono ?_;rintro r w2 ⟨rfl,hb2⟩;rw[HW.out];have S2:=AA (S1.out.below hb2);clear y0 y1 y2 y3 y4 y5 hb2;obtain⟨x0,x1,x2,x3⟩:=S2.out.xs;obtain⟨⟨z0,z1,z2,z3⟩,hfz⟩:=S2.out.zs;obtain⟨hB9,HR9⟩:=S2.out.bad (Nat.le_trans hlo (Nat.le_add_right _ _)) (Nat.le_add_right _ _) (v:=0) (code:=3) (HP3.out) (by decide);have HE:=AA (AB hB9);have HR:=AA HR9;clear hB9 HR9;go_wp2_with ((try simp only[Exit.inBlock,Exit.then]);with_reducible refine bodyPost_ret (v:= .tuple #[.agg #[_,_,_,_], .int .i64 (0), .int .i64 (3)]) ?_ rfl HR.out;obtain⟨E0,E1,E2,E3⟩:=HE.out;simp[results,Tryz.results77,go_sem,E0,E1,E2,E3])
   ·have HW:=AA (show Bv b 0 9999=true from hwb)
    have hpu:=(show AO k ⟨11,(en:Int),(an:Int),b,c,nm⟩=_ by rw[HP.out,if_neg (by rintro(x|x|⟨_,x⟩);(· rw[E1.out] at x;cases x);(· exact h0 x);(· rw[hwb] at x;cases x))]);simp only[Int.toNat_natCast] at hpu;have HPU:=AA hpu;clear hpu;clear HP hrt hwb h0;go_in;go_wp2_with fail;refine(Ab (Dx _ _)).mono ?_;rintro r w1 ⟨rfl,hb1⟩;rw[E1.out];have S1:=AA (S0.out.below hb1);clear x0 x1 x2 x3 y0 y1 y2 y3 y4 y5 D1 hb1 hW0;obtain⟨y0,y1,y2,y3,y4,y5⟩:=S1.out.ys6;go_wp2_with fail;refine(Ab (DH _ _ _ _)).mono ?_;rintro r w2 ⟨rfl,hb2⟩;rw[HW.out];have S2:=AA (S1.out.below hb2);clear y0 y1 y2 y3 y4 y5 hb2;obtain⟨x0,x1,x2,x3⟩:=S2.out.xs;obtain⟨y0,y1,y2,y3,y4,y5⟩:=S2.out.ys6;have CF:=AA (MW _ k.cache (en:Int) ((an:Int)/4) w2 S2.out.K.2.2.2);go_wp2_with fail;refine CF.out.mono ?_;rintro r w3 ⟨rfl,hb3⟩;have S3:=AA (S2.out.below hb3);clear x0 x1 x2 x3 y0 y1 y2 y3 y4 y5 hb3 CF;obtain⟨x0,x1,x2,x3⟩:=S3.out.xs;obtain⟨y0,y1,y2,y3,y4,y5⟩:=S3.out.ys6;have FC:=AA (fun h=>ML (c:=k.cache) (e:=(en:Int)) (p:=((an:Int)/4)) h);generalize hat:Eu k.cache (en:Int) ((an:Int)/4)=at_ at*;have Hat:=AA hat;clear hat;go_upto_if 52 with fail;have hb5:=AF w3 (.cells #[.int .i64 0, .int .i64 ((an:Int)%4), .bool false] 126);have n5:=heap_alloc_new w3 (.cells #[.int .i64 0, .int .i64 ((an:Int)%4), .bool false] 126);have hql:=S3.out.lts.2.1;have S5:=AA (S3.out.below hb5);have Hqlo:=AA S3.out.lo;have Hb5:=AA hb5;have hb5l:=hb5.size;clear x0 x1 x2 x3 y0 y1 y2 y3 y4 y5 hb5;generalize hW5:w3.alloc _=W5 at*;generalize hqq:w3.heap.size=q at*;have Hqq:=AA hqq;clear hqq;have N5:=AA n5;clear n5 hW5;have hqg:q≠w.heap.size:=by omega
    have hgq:w.heap.size≠q:=by omega
    go_cut [10,11] (fun s10 s11 wx=>∃(fr:Nat) (wb:Bool),fr<12∧BS k.mem rn an=(0,fr,wb)∧(SC lo w.heap.size ⟨11,(en:Int),(an:Int),b,c,nm⟩ w wx (.slice (some ⟨gm,0,none⟩) 12 capm) (.slice ai ni ci) (.slice (some ⟨ge,0,none⟩) 3 cape) (.slice ac nc cc) k)∧wx.heap[q]? =some (.cells #[.int .i64 fr, .int .i64 ((an:Int)%4), .bool wb] 126 (0,0)))
    case first=>
     obtain⟨x0,x1,x2,x3⟩:=S5.out.xs;obtain⟨y0,y1,y2,y3,y4,y5⟩:=S5.out.ys6;obtain⟨c0,c1,c2⟩:=Ds N5.out;have hfz:=AI N5.out
     by_cases hlt:at_<0
     ·have CW:=AA (MV _ k.mem rn an W5 S5.out.K.1 Hok.out hr12 han)
      go_wp2_with fail;refine CW.out.mono ?_;rintro r w6 ⟨rfl,hb6⟩;have S6:=AA (S5.out.below hb6);have N6:=AA (AG N5.out hb6);clear x0 x1 x2 x3 y0 y1 y2 y3 y4 y5 c0 c1 c2 hfz hb6 CW;rw[show Fj k.mem rn an= .tuple #[if(BS k.mem rn an).1=0 then If (BS k.mem rn an).2.1 an (BS k.mem rn an).2.2 else Da, .int .i64 (BS k.mem rn an).1] from rfl];have Hwf:=AA (fun fr wb (h:BS k.mem rn an=(0,fr,wb))=>My h);generalize hwk:BS k.mem rn an=res at*;clear hwk;obtain⟨cd,fr,wb⟩:=res
      by_cases hcd:cd=0
      ·subst hcd
       have hfr:=Hwf.out fr wb rfl;rw[if_pos rfl];unfold If;rw[show((an%4:Nat):Int)=(an:Int)%4 by omega];have B7:=AF w6 (.cells #[.int .i64 fr, .int .i64 ((an:Int)%4), .bool wb] 126);obtain⟨T8,n8⟩:=(S6.out.below B7).place (by decide) (AG N6.out B7) (Nat.le_trans Hqlo.out (Nat.le_refl _)) (.int .i64 fr) (.int .i64 ((an:Int)%4)) (.bool wb);have T8:=AA T8;have N8:=AA n8;obtain⟨c0,c1,c2⟩:=Ds (AG N6.out B7);have hfz:=AI (AG N6.out B7);have hq6:q≠w6.heap.size:=by have:=Aq N6.out;omega
       have hq6':w6.heap.size≠q:=fun e=>hq6 e.symm
       clear B7 n8;go_wp2_with fail;go_meet
       case rel=>exact⟨fr,wb,hfr,rfl,T8.out,N8.out⟩
      ·rw[if_neg hcd]
       unfold Da;have B7:=AF w6 (.cells #[.int .i64 0, .int .i64 0, .bool false] 126);have S7:=AA (S6.out.below B7);have hcd':(cd !=0)=true:=by simp[hcd]
       have HP3:=AA (show AO k ⟨11,(en:Int),(an:Int),b,c,nm⟩=(k,0,3) by rw[HPU.out];simp[hcd]);clear B7;obtain⟨x0,x1,x2,x3⟩:=S7.out.xs;obtain⟨⟨z0,z1,z2,z3⟩,hfz⟩:=S7.out.zs;obtain⟨hB9,HR9⟩:=S7.out.bad (Nat.le_trans hlo (Nat.le_add_right _ _)) (Nat.le_add_right _ _) (v:=0) (code:=3) (HP3.out) (by decide);have HE:=AA (AB hB9);have HR:=AA HR9;clear hB9 HR9;go_wp2_with ((try simp only[Exit.inBlock,Exit.then]);with_reducible refine bodyPost_ret (v:= .tuple #[.agg #[_,_,_,_], .int .i64 (0), .int .i64 (3)]) ?_ rfl HR.out;obtain⟨E0,E1,E2,E3⟩:=HE.out;simp[results,Tryz.results77,go_sem,E0,E1,E2,E3])
     ·obtain⟨j,hj,ej,hs⟩:=FC.out (by omega)
      rw[show(an:Int)/4=((an/4:Nat):Int) by omega] at hs;obtain⟨fr,hfr,hcj,hwk⟩:=LG HK.out hj hs rfl;generalize(Ae k.cache j).w=wb at hcj hwk;obtain⟨a8,c8,e8,_,_,H8⟩:=A6.open BP (by decide) S3.out.K.2.2.2;cases e8;obtain⟨bc,offc,rfl,hbc,D0,D1,D2,D3⟩:=H8.cachedCells hj;rw[hcj] at D2 D3;rw[Hqq.out] at hbc;simp only at D2 D3;have D2w:=(Hb5.out.cell (p:=⟨bc,offc+j*4+2,none⟩) hbc).trans D2;have D3w:=(Hb5.out.cell (p:=⟨bc,offc+j*4+3,none⟩) hbc).trans D3;obtain⟨T8,n8⟩:=S5.out.place2 (by decide) N5.out (Nat.le_trans Hqlo.out (Nat.le_refl _)) (.int .i64 fr) (.bool wb);have T8:=AA T8;have N8:=AA n8;have hji:(j:Int)<k.cache.length:=by omega
      have hbcq:bc≠q:=by omega
      have hqbc:q≠bc:=by omega
      rw[hrt0.out] at hwk;rw[Int.toNat_natCast] at hwk;subst ej;clear hs hcj D0 D1 D2 D3 n8 H8;go_wp2_with fail;go_meet
      case rel=>exact⟨fr,wb,hfr,hwk,T8.out,N8.out⟩
    case rest=>
     obtain⟨fr,wb,hfr,hwk,s8,n8⟩:=hcut;generalize wc=w8 at*;have S8:=AA s8;have N8:=AA n8;have hpu:=HPU.out;rw[hwk,show((an:Int)%4).toNat=an%4 by omega] at hpu;clear s8 n8 HPU hwk;obtain⟨x0,x1,x2,x3⟩:=S8.out.xs;obtain⟨y0,y1,y2,y3,y4,y5⟩:=S8.out.ys6;obtain⟨p0,p1,p2⟩:=Ds N8.out
     by_cases hwb:wb=false
     ·subst hwb
      have HP3:=AA (show AO k ⟨11,(en:Int),(an:Int),b,c,nm⟩=(k,0,1) by rw[hpu];rfl);clear hpu;obtain⟨x0,x1,x2,x3⟩:=S8.out.xs;obtain⟨⟨z0,z1,z2,z3⟩,hfz⟩:=S8.out.zs;obtain⟨hB9,HR9⟩:=S8.out.bad (Nat.le_trans hlo (Nat.le_add_right _ _)) (Nat.le_add_right _ _) (v:=0) (code:=1) (HP3.out) (by decide);have HE:=AA (AB hB9);have HR:=AA HR9;clear hB9 HR9;go_wp2_with ((try simp only[Exit.inBlock,Exit.then]);with_reducible refine bodyPost_ret (v:= .tuple #[.agg #[_,_,_,_], .int .i64 (0), .int .i64 (1)]) ?_ rfl HR.out;obtain⟨E0,E1,E2,E3⟩:=HE.out;simp[results,Tryz.results77,go_sem,E0,E1,E2,E3])
     ·have HP3:=AA (show AO k ⟨11,(en:Int),(an:Int),b,c,nm⟩=({k with mem:=CZ k.mem fr (an%4) b,cache:=EA k.cache (en:Int) ((an:Int)/4) fr wb},0,0) by rw[hpu];simp[hwb])
      have hnb:(!wb)=false:=by simpa using hwb
      clear hpu hwb;go_upto_if 90 with fail;clear x0 x1 x2 x3 y0 y1 y2 y3 y4 y5 p0 p1 p2;go_cut [] (fun wx=>∃cv,(SC lo w.heap.size ⟨11,(en:Int),(an:Int),b,c,nm⟩ w wx (.slice (some ⟨gm,0,none⟩) 12 capm) (.slice ai ni ci) (.slice (some ⟨ge,0,none⟩) 3 cape) cv {k with cache:=EA k.cache (en:Int) ((an:Int)/4) fr wb})∧wx.heap[q]? =some (.cells #[.int .i64 fr, .int .i64 ((an:Int)%4), .bool wb] 126 (0,0)))
      case first=>
       by_cases hlt:at_<0
       ·obtain⟨x0,x1,x2,x3⟩:=S8.out.xs
        obtain⟨y0,y1,y2,y3,y4,y5⟩:=S8.out.ys6;obtain⟨p0,p1,p2⟩:=Ds N8.out;have CP:=AA (Nj _ k.cache ⟨(en:Int),(an:Int)/4,(fr:Int),wb⟩ w8 S8.out.K.2.2.2 (Fp HK.out));go_wp2_with fail;refine CP.out.mono ?_;rintro r w9 ⟨v',rfl,hO,hb9⟩;have T9:=AA (S8.out.cache hb9 hO);have N9:=AA (show(w9.setCell ⟨w.heap.size,3,none⟩ v').heap[q]? =_ from BD (AG N8.out hb9) (Aj w9 w.heap.size 3 v') hgq);have hU:=AA (show EA k.cache (en:Int) ((an:Int)/4) fr wb=El k.cache ⟨(en:Int),(an:Int)/4,(fr:Int),wb⟩ by unfold EA;rw[Hat.out,if_pos hlt]);have fzg:=AI (S8.out.below hb9).ink.1;have x3o:=(S8.out.below hb9).xs.2.2.2;clear x0 x1 x2 x3 y0 y1 y2 y3 y4 y5 p0 p1 p2 CP;obtain⟨a9,c9,e9,_,_⟩:=hO.rd.shape;generalize List.length _=n9 at e9;subst e9;clear hO hb9;go_wp2_with fail;go_meet
        case rel=>exact⟨_,by rw[hU.out];exact T9.out,N9.out⟩
       ·have hU:=AA (show EA k.cache (en:Int) ((an:Int)/4) fr wb=k.cache by unfold EA;rw[Hat.out,if_neg (by omega)])
        go_wp2_with fail;go_meet
        case rel=>exact⟨_,by rw[hU.out];exact S8.out,N8.out⟩
      case rest=>
       obtain⟨cv,s10,n10⟩:=hcut;generalize wc=w10 at*;have S10:=AA s10;have N10:=AA n10;obtain⟨ac9,c9,e9,_,_⟩:=(s10.K.2.2.2).shape;generalize List.length _=nc9 at e9;subst e9;generalize c9=cc9 at*;clear s10 n10 S8 N8;obtain⟨x0,x1,x2,x3⟩:=S10.out.xs;obtain⟨y0,y1,y2,y3,y4,y5⟩:=S10.out.ys6;obtain⟨p0,p1,p2⟩:=Ds N10.out;obtain⟨hlb,hlg,_,_⟩:=S10.out.lts;have hlq:=Aq N10.out;obtain⟨gw,capw,D,hgw,hcw,_⟩:=DW.mrow S10.out Hok.out hfr;have hgm:gm<w10.heap.size:=World.block_lt_of_cell? _ _ D;have hfri:(fr:Int)<12:=by omega
       have h4i:(an:Int)%4<4:=by omega
       have HP4:=AA (show AO k ⟨11,(en:Int),(an:Int),b,c,nm⟩=({k with mem:=CZ k.mem fr (an%4) b,cache:=EA k.cache (en:Int) ((an:Int)/4) fr wb},0,0) from HP3.out);go_wp2_with fail;refine Al 10 131 [.p w.heap.size 0, .s gm 12 capm, .p q 0, .i ((fr:Int)), .p gm fr, .s gw 4 capw, .p q 1, .i (((an:Int)%4)), .p (w.heap.size+1) 3, .i b] (fun _ _ _=>True) ?_ ?_
       ·intro i hi o ho a wx Hb Hd hG K HK
        have mc0:=bc hG hlg x0;have mc1:=bc hG hlq p0;have mc2:=bc hG hgm D;have mc3:=bc hG hlq p1;have mc4:=bc hG hlb y3
        match i,hi with
        |0,_|2,_|6,_|8,_=>exact sP ho HK Hb Hd
        |1,_=>exact sL ho HK Hb Hd (hl:=Ff (by assumption))
        |3,_|7,_|9,_=>exact sL ho HK Hb Hd (hl:=Fg (by assumption))
        |4,_=>exact sI ho HK Hb Hd (hr:=by clear Hd Hb HK;go_simp)
        |5,_=>exact sL ho HK Hb Hd (hl:=Ra (by assumption))
       ·intro vs wx hR hG
        have q5:(vs 5)= .slice (some ⟨gw,0,none⟩) 4 capw:=BT hR 5;have q7:(vs 7)= .int .i64 (((an:Int)%4)):=BT hR 7;have q9:(vs 9)= .int .i64 b:=BT hR 9;clear hR;simp only[Ai,AQ,List.range,List.range.loop,List.foldl_cons,List.foldl_nil,q5,q7,q9];simp;clear q5 q7 q9;have S11:=AA (S10.out.below hG);obtain⟨gw2,capw2,D2,_,_,hC,Fr,_,_,hxx,hS⟩:=DW.mrow S11.out Hok.out hfr;clear hxx;have eD:=D2.symm.trans ((hG.cell (p:=⟨gm,fr,none⟩) hgm).trans D);cases eD;have D3:=hC (an%4) (by omega);have S12:=AA (hS (an%4) b (by omega));generalize hW9:wx.setCell _ _=W9 at S12;clear x0 x1 x2 x3 y0 y1 y2 y3 y4 y5 p0 p1 p2 D D2 hS hG S10 hC hnb hfri h4i hgw hcw hgm hlb hlg hlq;obtain⟨x0,x1,x2,x3⟩:=S12.out.xs;obtain⟨⟨z0,z1,z2,z3⟩,hfz⟩:=S12.out.zs;obtain⟨hB9,HR9⟩:=S12.out.ret (Nat.le_trans hlo (Nat.le_add_right _ _)) (Nat.le_add_right _ _) (v:=0) (code:=0) (HP4.out);have HE:=AA (AB hB9);have HR:=AA HR9;clear hB9 HR9;go_wp2_with ((try simp only[Exit.inBlock,Exit.then]);with_reducible refine bodyPost_ret (v:= .tuple #[.agg #[_,_,_,_], .int .i64 (0), .int .i64 (0)]) ?_ rfl HR.out;obtain⟨E0,E1,E2,E3⟩:=HE.out;simp[results,Tryz.results77,go_sem,E0,E1,E2,E3])
def VN (w w':World):Prop:=∀(b:Nat) (cu:Array Value),w.heap[b]? =some (.cells cu 27 (0,0))→w'.heap[b]? =w.heap[b]?
theorem Fd.up {T:Nat} {cs:Array Value} {lo b0 b:Nat} {w W W1:World} {m i e c m' i' e' c':Value} {k:AH} {res:Kk} (h:DW T cs [b] lo w.heap.size b0 w W m i e c k) (hlo:lo≤b) (hgb:w.heap.size≤b)
 (hs:Vs m' i' e' c') (hK:res.2.2=0→Ct lo W1 m' i' e' c' res.1) (hb:Below lo W W1) (hf:VN W W1):
 W1.heap[b]? =some (.cells #[.slice none 0 0, .slice none 0 0, .slice none 0 0, .slice none 0 0] 27 (0,0))∧
 ((((W1.setCell ⟨b,0,none⟩ m').setCell ⟨b,1,none⟩ i').setCell ⟨b,2,none⟩ e').setCell ⟨b,3,none⟩ c').heap[b]? =some (.cells #[m',i',e',c'] 27 (0,0))∧
 Fd lo w res (.returned (.tuple #[.agg #[m',i',e',c'], .int .i64 res.2.1, .int .i64 res.2.2])) ((((W1.setCell ⟨b,0,none⟩ m').setCell ⟨b,1,none⟩ i').setCell ⟨b,2,none⟩ e').setCell ⟨b,3,none⟩ c'):=by
 obtain⟨hne,hB0⟩:=h.rs b (List.mem_singleton.2 rfl);have hB:=(hf b _ hB0).trans hB0;have hgr:=AZ (AZ (AZ (Aj W1 b 0 m') 1 i') 2 e') 3 c';refine⟨hB,DB hB,m',i',e',c',rfl,hs,fun hc=>?_,((((h.bel.trans hb).setCell hlo _).setCell hlo _).setCell hlo _).setCell hlo _,fun q cu hq=>?_⟩
 ·obtain⟨⟨vs,o1⟩,o2,⟨ps,o3⟩,o4⟩:=hK hc
  exact⟨⟨vs,o1.far hgr hB (by decide) (by decide)⟩,o2.far hgr hB (by decide),⟨ps,o3.far hgr hB (by decide) (by decide)⟩,o4.far hgr hB (by decide)⟩
 ·have e1:=(h.kf q cu (by have:=Aq hq;omega) hq).trans hq
  have e2:=(hf q cu e1).trans e1;exact(BD e2 hgr (by have:=Aq hq;omega)).trans hq.symm
theorem MI (x:Int):∃(fn:Nat) (wr:Bool),Oh x= .tuple #[.int .i64 fn, .bool wr, .bool (BV x)]∧fn<12∧(BV x=true→fn=A1 x):=by
 cases h:BV x
 ·exact⟨0,false,Dh h,by decide,fun h=>by cases h⟩
 ·exact⟨A1 x,IS x,Dd h,Dg h,fun _=>rfl⟩
theorem Pd {k:AH} {a e:Nat} (h:e∈ET k a):e<3:=by rw[←EG] at h;exact R8 h
theorem Tg {k:AH} {a:Nat}:(ET k a).length≤3:=by rw[←EG];exact GK
theorem UF {k:AH} {c:AM} (h:DU k c=true) (ht:Bg (infoAt k.infos c.a.toNat).k=true):BV c.c=true→(infoAt k.infos (A1 c.c)).k≠3:=by intro hg;unfold DU at h;rw[if_pos hg,decide_eq_true_eq] at h;simp only[Bg,Bool.or_eq_true,decide_eq_true_eq] at ht;omega
theorem Mm {infos:List AL} {x n:Int} (h:BV x=false):Aw infos x n=infos:=by unfold Aw;rw[if_neg (by rw[h];decide)]
theorem OC {infos:List AL} {x n:Int} {f:Nat} (h:BV x=true) (hf:f=A1 x):Aw infos x n=AR infos f (DD n):=by unfold Aw;rw[if_pos h,hf]
theorem RX {lo:Nat} {mv iv ev cv:Value} {k:AH} {w:World} (h:Ct lo w mv iv ev cv k) (hlo:lo≤w.heap.size) (hk:DV k) (call:AM) (he:0≤call.e∧call.e<3) (h2:call.k=6) (hc:call.c≤9223372036854775807):
 Calls prog 74 #[.agg #[mv,iv,ev,cv], .agg call.cs] w (Fd lo w (AO k call)):=by
 have S0':=SC.start h hlo call;have P0:=Sn (k:=k) h2;have FZ:=AA (fun hz=>Gl (k:=k) (c:=call) (kind:=0) hz);have hok:=(AT hk).1;obtain⟨gm,capm,e7,_⟩:=DW.mems S0' hok;obtain⟨ge,cape,e9,_,_⟩:=S0'.envs (by rw[hk.envl];omega);rw[hk.envl] at e9;obtain⟨gi,capi,e8,_,_⟩:=S0'.infos (by rw[hk.len];omega);rw[hk.len] at e8;obtain⟨am,nm_,cm,ai,ni,ci,ae,ne_,ce,ac,nc,cc,em,ei,ee,ec⟩:=S0'.shapes;subst e7 e8 e9 ec;clear em ei ee;have S0:=AA S0';obtain⟨kk,e,ra,b,c,nm⟩:=call;simp only at he h2 hc;subst h2;obtain⟨en,rfl⟩:∃n:Nat,e=(n:Int):=⟨e.toNat,by omega⟩
 have hen:en<3:=by omega
 have heni:(en:Int)<3:=by omega
 simp only[AM.cs] at S0 P0 FZ ⊢;have HP:=AA P0;have HK:=AA hk;have Hok:=AA hok;have CF:=AA (fun W (h:L6 W (.slice (some ⟨gm,0,none⟩) 12 capm) (.slice (some ⟨gi,0,none⟩) 12 capi) (.slice (some ⟨ge,0,none⟩) 3 cape) (.slice ac nc cc) k)=>IX _ _ _ _ k 6 (en:Int) ra b c nm 0 W h hk he (.inl rfl));have CG:=AA (fun W=>Ab (Bz c W hc));have Hc:=AA hc;obtain⟨x0,x1,x2,x3⟩:=S0.out.xs;obtain⟨y0,y1,y2,y3,y4,y5⟩:=S0.out.ys6;generalize hfc:BY k ⟨6,(en:Int),ra,b,c,nm⟩ 0=fc at*;clear h S0' he hk P0 hok hfc hc;generalize hW0:((w.alloc _).alloc _).alloc _=W0 at*;go_in;go_wp2_with fail;refine(CF.out _ S0.out.K).mono ?_;rintro r w1 ⟨rfl,hb1⟩;have S1:=AA (S0.out.below hb1);clear x0 x1 x2 x3 y0 y1 y2 y3 y4 y5 hb1 CF hW0
 by_cases ef:fc=0
 ·subst ef
  obtain⟨hin,_,hm,_,htk⟩:=FZ.out rfl;have ab:=Ac.1 hin;obtain⟨an,rfl⟩:∃n:Nat,ra=(n:Int):=⟨ra.toNat,by omega⟩
  have han:an<12:=by omega
  have hani:(an:Int)<12:=by omega
  have HP2:=AA (show AO k ⟨6,(en:Int),(an:Int),b,c,nm⟩=Ug k ⟨6,(en:Int),(an:Int),b,c,nm⟩ by rw[HP.out];rfl);have Htk:=AA (htk (by first|rfl|trivial));obtain⟨x0,x1,x2,x3⟩:=S1.out.xs;obtain⟨y0,y1,y2,y3,y4,y5⟩:=S1.out.ys6;clear hin hm htk ab FZ HP;go_wp2_with fail;refine(CG.out _).mono ?_;rintro r w2 ⟨rfl,hb2⟩;have S2:=AA (S1.out.below hb2);obtain⟨fn,wf,hV,hfn,hfe⟩:=MI c;rw[hV];clear x0 x1 x2 x3 y0 y1 y2 y3 y4 y5 hb2 hV CG S0 S1;obtain⟨x0,x1,x2,x3⟩:=S2.out.xs;obtain⟨y0,y1,y2,y3,y4,y5⟩:=S2.out.ys6;obtain⟨hlb,hlg,_,_⟩:=S2.out.lts;have hgi:=S2.out.gi_lt;obtain⟨d0,_,_⟩:=S2.out.infoAt (f:=an) (by rw[HK.out.len];exact han);obtain⟨f0,_,_⟩:=S2.out.infoAt (f:=fn) (by rw[HK.out.len];exact hfn);have CB:=AA (fun W (hW:Below w2.heap.size w2 W)=>Ab (DH b 0 3 W));have CK:=AA (fun W (hW:Below w2.heap.size w2 W)=>Ab (Hh c W));have hfni:(fn:Int)<12:=by omega
  obtain⟨okb,hokb⟩:∃okb,okb=(Bv b 0 3&&DU k ⟨6,(en:Int),(an:Int),b,c,nm⟩):=⟨_,rfl⟩
  have Hokb:=AA hokb;have HFe:=AA hfe;generalize hsm:BV c=sm at*;have Hsm:=AA hsm;clear hokb hfe hsm;go_wp2_with fail;go_cut [60] (fun s60 wx=>s60= .bool (!okb)∧DW 48 #[.int .i64 6, .int .i64 en, .int .i64 an, .int .i64 b, .int .i64 c, .string nm] [w.heap.size+2] lo w.heap.size (w.heap.size+1) w wx (.slice (some ⟨gm,0,none⟩) 12 capm) (.slice (some ⟨gi,0,none⟩) 12 capi) (.slice (some ⟨ge,0,none⟩) 3 cape) (.slice ac nc cc) k)
  case first=>
   have OK0:(decide (0≤b)&&decide (b≤3))=Bv b 0 3:=rfl;clear OK0;cases hb3:Bv b 0 3
   ·have E:=AA (show okb=false by rw[Hokb.out,hb3];rfl)
    rw[hb3] at CB;clear hb3 d0 f0;refine Al 29 167 [.p (w.heap.size+1) 3, .i b, .b false, .b true, .b true, .u, .u, .u, .u, .b true, .b true, .u, .u, .u, .u, .u, .u, .u, .u, .u, .u, .u, .u, .u, .u, .u, .u, .u, .u] (fun _ _ _=>True) ?_ ?_
    ·intro i hi o ho a wx Hb Hd hG K HK
     have mc0:=bc hG hlb y3
     match i,hi with
     |0,_|3,_|4,_|9,_|10,_=>exact sP ho HK Hb Hd
     |1,_=>exact sL ho HK Hb Hd (hl:=Fg (by assumption))
     |2,_=>exact sD ho HK Hb Hd (CB.out _ hG)
     |5,_|6,_|7,_|8,_|11,_|12,_|13,_|14,_|15,_|16,_|17,_|18,_|19,_|20,_|21,_|22,_|23,_|24,_|25,_|26,_|27,_|28,_=>exact sB ho HK Hd
     |_+29,hq=>exact absurd hq (by omega)
    ·intro vs wx hR hG
     have q10:(vs 10)= .bool true:=BT hR 10;clear hR;simp only[Ai,AQ,List.range,List.range.loop,List.foldl_cons,List.foldl_nil,q10];simp;clear q10;clear x0 x1 x2 x3 y0 y1 y2 y3 y4 y5;go_wp2_with fail;go_meet
     case rel=>exact⟨by rw[E.out];rfl,S2.out.below hG⟩
   ·rw[hb3] at CB
    cases sm
    ·by_cases hc0:c=0
     ·have E:=AA (show okb=true by rw[Hokb.out,hb3];simp only[DU,Hsm.out];simp[hc0])
      have EK:DJ c=0:=by simp[DJ,hc0]
      rw[EK] at CK;clear hb3 hc0 EK d0 f0;refine Al 29 167 [.p (w.heap.size+1) 3, .i b, .b true, .b false, .b false, .p (w.heap.size+1) 4, .i c, .i 0, .b false, .b false, .b false, .b false, .b false, .u, .u, .u, .u, .u, .u, .u, .u, .u, .u, .u, .u, .u, .u, .u, .b false] (fun _ _ _=>True) ?_ ?_
      ·intro i hi o ho a wx Hb Hd hG K HK
       have mc0:=bc hG hlb y3;have mc1:=bc hG hlb y4
       match i,hi with
       |0,_|3,_|4,_|5,_|9,_|10,_|11,_|12,_|28,_=>exact sP ho HK Hb Hd
       |1,_|6,_=>exact sL ho HK Hb Hd (hl:=Fg (by assumption))
       |2,_=>exact sD ho HK Hb Hd (CB.out _ hG)
       |7,_=>exact sD ho HK Hb Hd (CK.out _ hG)
       |13,_|14,_|15,_|16,_|17,_|18,_|19,_|20,_|21,_|22,_|23,_|24,_|25,_|26,_|27,_=>exact sB ho HK Hd
       |8,_=>clear mc0 mc1;obtain rfl:=So_ ho;have d7:(a.tmps[38]?.getD undef)= .int .i64 0:=Bx Hd 7;have d4:(a.tmps[35]?.getD undef)= .bool false:=Bx Hd 4;clear Hd Hb;refine Aa.yes rfl rfl d4 ?_;go_simp;exact HK.out _ _ rfl (Below.refl _ _)
       |_+29,hq=>exact absurd hq (by omega)
      ·intro vs wx hR hG
       have q10:(vs 10)= .bool false:=BT hR 10;have q28:(vs 28)= .bool false:=BT hR 28;clear hR;simp only[Ai,AQ,List.range,List.range.loop,List.foldl_cons,List.foldl_nil,q10,q28];simp;clear q10 q28;clear x0 x1 x2 x3 y0 y1 y2 y3 y4 y5;go_wp2_with fail;go_meet
       case rel=>exact⟨by rw[E.out];rfl,S2.out.below hG⟩
     ·have E:=AA (show okb=false by rw[Hokb.out,hb3];simp only[DU,Hsm.out];simp[hc0])
      have EK:DJ c=2:=by simp[DJ,hc0,Hsm.out]
      rw[EK] at CK;clear hb3 hc0 EK d0 f0;refine Al 29 167 [.p (w.heap.size+1) 3, .i b, .b true, .b false, .b false, .p (w.heap.size+1) 4, .i c, .i 2, .b true, .b true, .b true, .u, .u, .u, .u, .u, .u, .u, .u, .u, .u, .u, .u, .u, .u, .u, .u, .u, .u] (fun _ _ _=>True) ?_ ?_
      ·intro i hi o ho a wx Hb Hd hG K HK
       have mc0:=bc hG hlb y3;have mc1:=bc hG hlb y4
       match i,hi with
       |0,_|3,_|4,_|5,_|9,_|10,_=>exact sP ho HK Hb Hd
       |1,_|6,_=>exact sL ho HK Hb Hd (hl:=Fg (by assumption))
       |2,_=>exact sD ho HK Hb Hd (CB.out _ hG)
       |7,_=>exact sD ho HK Hb Hd (CK.out _ hG)
       |11,_|12,_|13,_|14,_|15,_|16,_|17,_|18,_|19,_|20,_|21,_|22,_|23,_|24,_|25,_|26,_|27,_|28,_=>exact sB ho HK Hd
       |8,_=>clear mc0 mc1;obtain rfl:=So_ ho;have d7:(a.tmps[38]?.getD undef)= .int .i64 2:=Bx Hd 7;have d4:(a.tmps[35]?.getD undef)= .bool false:=Bx Hd 4;clear Hd Hb;refine Aa.yes rfl rfl d4 ?_;go_simp;exact HK.out _ _ rfl (Below.refl _ _)
       |_+29,hq=>exact absurd hq (by omega)
      ·intro vs wx hR hG
       have q10:(vs 10)= .bool true:=BT hR 10;clear hR;simp only[Ai,AQ,List.range,List.range.loop,List.foldl_cons,List.foldl_nil,q10];simp;clear q10;clear x0 x1 x2 x3 y0 y1 y2 y3 y4 y5;go_wp2_with fail;go_meet
       case rel=>exact⟨by rw[E.out];rfl,S2.out.below hG⟩
    ·have EK:DJ c=1:=by
      unfold DJ;rw[if_neg (by intro h;have:=Hsm.out;rw[h] at this;cases this),Hsm.out];rfl
     rw[EK] at CK;have hfe:=HFe.out rfl;have hkt:=Htk.out;generalize hka:(infoAt k.infos an).k=ka at d0 hkt;generalize hkf:(infoAt k.infos fn).k=kf at f0;have hka23:2≤ka∧ka≤3:=by simp only[Bg,Bool.or_eq_true,decide_eq_true_eq,Int.toNat_natCast,hka] at hkt;omega
     obtain⟨km,hkm⟩:∃km,ka - 1=km:=⟨_,rfl⟩
     have Hkm:=AA hkm
     by_cases hq:kf=km
     ·have E:=AA (show okb=true by rw[Hokb.out,hb3];simp[DU,Hsm.out,←hfe,hka,hkf];omega)
      have t27:(kf !=km)=false:=by simp[hq]
      clear hb3 EK hfe hkt hka hkf hkm hq;refine Al 29 167 [.p (w.heap.size+1) 3, .i b, .b true, .b false, .b false, .p (w.heap.size+1) 4, .i c, .i 1, .b false, .b false, .b false, .b true, .b true, .p w.heap.size 1, .s gi 12 capi, .i ((fn:Int)), .p gi (fn*3), .p gi (fn*3), .i kf, .p w.heap.size 1, .s gi 12 capi, .p (w.heap.size+1) 2, .i ((an:Int)), .p gi (an*3), .p gi (an*3), .i ka, .i km, .b false, .b false] (fun _ _ _=>True) ?_ ?_
      ·intro i hi o ho a wx Hb Hd hG K HK
       have mc0:=bc hG hlb y3;have mc1:=bc hG hlb y4;have mc2:=bc hG hlg x1;have mc3:=bc hG hgi f0;have mc4:=bc hG hlb y2;have mc5:=bc hG hgi d0
       match i,hi with
       |0,_|3,_|4,_|5,_|9,_|10,_|11,_|12,_|13,_|15,_|17,_|19,_|21,_|24,_|28,_=>exact sP ho HK Hb Hd
       |1,_|6,_|18,_|22,_|25,_=>exact sL ho HK Hb Hd (hl:=Fg (by assumption))
       |2,_=>exact sD ho HK Hb Hd (CB.out _ hG)
       |7,_=>exact sD ho HK Hb Hd (CK.out _ hG)
       |14,_|20,_=>exact sL ho HK Hb Hd (hl:=GX (by assumption))
       |16,_|23,_=>exact sI ho HK Hb Hd (hr:=by clear Hd Hb HK;go_simp)
       |8,_=>clear mc0 mc1 mc2 mc3 mc4 mc5;obtain rfl:=So_ ho;have d7:(a.tmps[38]?.getD undef)= .int .i64 1:=Bx Hd 7;have d4:(a.tmps[35]?.getD undef)= .bool false:=Bx Hd 4;clear Hd Hb;refine Aa.yes rfl rfl d4 ?_;go_simp;exact HK.out _ _ rfl (Below.refl _ _)
       |26,_=>clear mc0 mc1 mc2 mc3 mc4 mc5;obtain rfl:=So_ ho;have d25:(a.tmps[56]?.getD undef)= .int .i64 ka:=Bx Hd 25;have d12:(a.tmps[43]?.getD undef)= .bool true:=Bx Hd 12;clear Hd Hb;refine Aa.yes rfl rfl d12 ?_;go_simp;exact HK.out _ _ (by show Value.int .i64 (IntKind.i64.wrap (ka - 1))= .int .i64 km;rw[IntWalk.i64_in _ (by omega),Hkm.out]) (Below.refl _ _)
       |27,_=>clear mc0 mc1 mc2 mc3 mc4 mc5;obtain rfl:=So_ ho;have d18:(a.tmps[49]?.getD undef)= .int .i64 kf:=Bx Hd 18;have d26:(a.tmps[57]?.getD undef)= .int .i64 km:=Bx Hd 26;have d12:(a.tmps[43]?.getD undef)= .bool true:=Bx Hd 12;clear Hd Hb;refine Aa.yes rfl rfl d12 ?_;go_simp;exact HK.out _ _ rfl (Below.refl _ _)
       |_+29,hq=>exact absurd hq (by omega)
      ·intro vs wx hR hG
       have q10:(vs 10)= .bool false:=BT hR 10;have q28:(vs 28)= .bool false:=BT hR 28;clear hR;simp only[Ai,AQ,List.range,List.range.loop,List.foldl_cons,List.foldl_nil,q10,q28];simp;clear q10 q28;clear x0 x1 x2 x3 y0 y1 y2 y3 y4 y5 d0 f0;go_wp2_with fail;go_meet
       case rel=>exact⟨by rw[E.out];rfl,S2.out.below hG⟩
     ·have E:=AA (show okb=false by rw[Hokb.out,hb3];simp[DU,Hsm.out,←hfe,hka,hkf];omega)
      have t27:(kf !=km)=true:=by simp[hq]
      clear hb3 EK hfe hkt hka hkf hkm hq;refine Al 29 167 [.p (w.heap.size+1) 3, .i b, .b true, .b false, .b false, .p (w.heap.size+1) 4, .i c, .i 1, .b false, .b false, .b false, .b true, .b true, .p w.heap.size 1, .s gi 12 capi, .i ((fn:Int)), .p gi (fn*3), .p gi (fn*3), .i kf, .p w.heap.size 1, .s gi 12 capi, .p (w.heap.size+1) 2, .i ((an:Int)), .p gi (an*3), .p gi (an*3), .i ka, .i km, .b true, .b true] (fun _ _ _=>True) ?_ ?_
      ·intro i hi o ho a wx Hb Hd hG K HK
       have mc0:=bc hG hlb y3;have mc1:=bc hG hlb y4;have mc2:=bc hG hlg x1;have mc3:=bc hG hgi f0;have mc4:=bc hG hlb y2;have mc5:=bc hG hgi d0
       match i,hi with
       |0,_|3,_|4,_|5,_|9,_|10,_|11,_|12,_|13,_|15,_|17,_|19,_|21,_|24,_|28,_=>exact sP ho HK Hb Hd
       |1,_|6,_|18,_|22,_|25,_=>exact sL ho HK Hb Hd (hl:=Fg (by assumption))
       |2,_=>exact sD ho HK Hb Hd (CB.out _ hG)
       |7,_=>exact sD ho HK Hb Hd (CK.out _ hG)
       |14,_|20,_=>exact sL ho HK Hb Hd (hl:=GX (by assumption))
       |16,_|23,_=>exact sI ho HK Hb Hd (hr:=by clear Hd Hb HK;go_simp)
       |8,_=>clear mc0 mc1 mc2 mc3 mc4 mc5;obtain rfl:=So_ ho;have d7:(a.tmps[38]?.getD undef)= .int .i64 1:=Bx Hd 7;have d4:(a.tmps[35]?.getD undef)= .bool false:=Bx Hd 4;clear Hd Hb;refine Aa.yes rfl rfl d4 ?_;go_simp;exact HK.out _ _ rfl (Below.refl _ _)
       |26,_=>clear mc0 mc1 mc2 mc3 mc4 mc5;obtain rfl:=So_ ho;have d25:(a.tmps[56]?.getD undef)= .int .i64 ka:=Bx Hd 25;have d12:(a.tmps[43]?.getD undef)= .bool true:=Bx Hd 12;clear Hd Hb;refine Aa.yes rfl rfl d12 ?_;go_simp;exact HK.out _ _ (by show Value.int .i64 (IntKind.i64.wrap (ka - 1))= .int .i64 km;rw[IntWalk.i64_in _ (by omega),Hkm.out]) (Below.refl _ _)
       |27,_=>clear mc0 mc1 mc2 mc3 mc4 mc5;obtain rfl:=So_ ho;have d18:(a.tmps[49]?.getD undef)= .int .i64 kf:=Bx Hd 18;have d26:(a.tmps[57]?.getD undef)= .int .i64 km:=Bx Hd 26;have d12:(a.tmps[43]?.getD undef)= .bool true:=Bx Hd 12;clear Hd Hb;refine Aa.yes rfl rfl d12 ?_;go_simp;exact HK.out _ _ rfl (Below.refl _ _)
       |_+29,hq=>exact absurd hq (by omega)
      ·intro vs wx hR hG
       have q10:(vs 10)= .bool false:=BT hR 10;have q28:(vs 28)= .bool true:=BT hR 28;clear hR;simp only[Ai,AQ,List.range,List.range.loop,List.foldl_cons,List.foldl_nil,q10,q28];simp;clear q10 q28;clear x0 x1 x2 x3 y0 y1 y2 y3 y4 y5 d0 f0;go_wp2_with fail;go_meet
       case rel=>exact⟨by rw[E.out];rfl,S2.out.below hG⟩
  case rest=>
  obtain⟨hs60,S3⟩:=hcut;subst hs60;replace S3:=AA S3;clear x0 x1 x2 x3 y0 y1 y2 y3 y4 y5 d0 f0 CB CK S2 hlb hlg hgi;obtain⟨w3,rfl⟩:∃w3:World,w3=wc:=⟨_,rfl⟩
  cases okb
  ·have HP3:=AA (show AO k ⟨6,(en:Int),(an:Int),b,c,nm⟩=(k,0,3) by
    rw[HP2.out];unfold Ug;rw[if_pos];have:=Hokb.out;cases h1:Bv b 0 3
    ·exact .inl rfl
    ·refine .inr ?_
     rw[h1,Bool.true_and] at this;exact this.symm)
   clear HP2;obtain⟨x0,x1,x2,x3⟩:=S3.out.xs;obtain⟨⟨z0,z1,z2,z3⟩,hfz⟩:=S3.out.zs;obtain⟨hB9,HR9⟩:=S3.out.bad (Nat.le_trans hlo (Nat.le_add_right _ _)) (Nat.le_add_right _ _) (v:=0) (code:=3) (HP3.out) (by decide);have HE:=AA (AB hB9);have HR:=AA HR9;clear hB9 HR9;go_wp2_with ((try simp only[Exit.inBlock,Exit.then]);with_reducible refine bodyPost_ret (v:= .tuple #[.agg #[_,_,_,_], .int .i64 (0), .int .i64 (3)]) ?_ rfl HR.out;obtain⟨E0,E1,E2,E3⟩:=HE.out;simp[results,Tryz.results74,go_sem,E0,E1,E2,E3])
  obtain⟨hb3,hfit⟩:Bv b 0 3=true∧DU k ⟨6,(en:Int),(an:Int),b,c,nm⟩=true:=by
   have:=Hokb.out.symm
   rwa [Bool.and_eq_true] at this
  have HBe:=AA (Qr (k:=k) (UF hfit Htk.out));have HP3:=AA (show AO k ⟨6,(en:Int),(an:Int),b,c,nm⟩=_ from HP2.out.trans (by unfold Ug;rw[if_neg (by rw[hb3,hfit];simp)]));have bb:=Ac.1 hb3;obtain⟨bn,rfl⟩:∃n:Nat,b=(n:Int):=⟨b.toNat,by omega⟩
  have hbn:bn<4:=by omega
  have hbni:(bn:Int)<4:=by omega
  simp only[Int.toNat_natCast] at HP3;clear hb3 hfit bb HP2 Hokb;obtain⟨nd,hnd⟩:∃nd,nd=DA k c:=⟨_,rfl⟩
  have Hnd:=AA hnd;obtain⟨us,hus⟩:∃us,us=ET k an:=⟨_,rfl⟩
  have Hus:=AA hus;have hul:us.length≤3:=by rw[hus];exact Tg
  have Hu3:=AA (show ∀e,e∈us→e<3 by rw[hus];exact fun e h=>Pd h);have Hn12:=AA (show ∀g,g∈nd→g<k.infos.length by
   rw[hnd,HK.out.len];intro g hg;unfold DA at hg
   split at hg
   ·next hgc=>
    rcases List.mem_cons.1 hg with h|h
    ·rw[h];exact Dg hgc
    ·split at h
     ·exact Ek h
     ·cases h
   ·cases hg)
  rw[←hnd,←hus] at HP3;rw[←hnd] at HBe;clear hnd hus;have CBe:=AA (fun W (h1:BI W (.slice (some ⟨gm,0,none⟩) 12 capm) k.mem) (h2:BH W (.slice (some ⟨gi,0,none⟩) 12 capi) k.infos)=>NJ (.slice (some ⟨gm,0,none⟩) 12 capm) (.slice (some ⟨gi,0,none⟩) 12 capi) (.slice (some ⟨ge,0,none⟩) 3 cape) (.slice ac nc cc) k c W h1 h2 Hok.out HK.out.len Hc.out);obtain⟨x0,x1,x2,x3⟩:=S3.out.xs;obtain⟨y0,y1,y2,y3,y4,y5⟩:=S3.out.ys6;go_wp2_with fail;refine(CBe.out _ S3.out.K.1 S3.out.K.2.1).mono ?_;rintro r w4 ⟨vb,rfl,hob,hb4⟩;rw[HBe.out] at hob;have S4:=AA (S3.out.below hb4);have hlt3:=S3.out.lts.2.1;clear x0 x1 x2 x3 y0 y1 y2 y3 y4 y5 CBe HBe;obtain⟨x0,x1,x2,x3⟩:=S4.out.xs;obtain⟨y0,y1,y2,y3,y4,y5⟩:=S4.out.ys6;go_wp2_with fail;refine(PA _ _ _ _ k an _ S4.out.K HK.out).mono ?_;rintro r w5 ⟨vu,rfl,hou,hb5⟩;rw[Tf HK.out (show Bg (A4 k an)=true from Htk.out),←Hus.out] at hou;have S5:=AA (S4.out.below hb5);have OB:=AA (AE.below hob hb5);have OU:=AA hou;have hlt4:w.heap.size<w4.heap.size:=Nat.lt_of_lt_of_le hlt3 hb4.size;obtain⟨ax,cx,rfl,_,_,_⟩:=hou.rd.open;rw[BO] at OU ⊢;clear x0 x1 x2 x3 y0 y1 y2 y3 y4 y5 hob hou hb4 hb5 S3 S4;go_upto_block 0 with fail;go_cut [] (fun wx=>(∀e,e∈us→At k.infos nd (AD k.envs e).rights=true)∧∃a9 n9 c9,DW 48 #[.int .i64 6, .int .i64 en, .int .i64 an, .int .i64 bn, .int .i64 c, .string nm] [w.heap.size+2] lo w.heap.size (w.heap.size+1) w wx (.slice (some ⟨gm,0,none⟩) 12 capm) (.slice (some ⟨gi,0,none⟩) 12 capi) (.slice (some ⟨ge,0,none⟩) 3 cape) (.slice a9 n9 c9) {k with cache:=Ed us k.cache})
  case first=>
   go_wp2_with fail;go_loopw [13] (fun s13 wr=>∃j:Nat,j≤us.length∧s13= .int .i64 j∧(∀e,e∈us.take j→At k.infos nd (AD k.envs e).rights=true)∧AE w3.heap.size wr vb (Ah nd)∧AE w4.heap.size wr (.slice ax us.length cx) (Ah us)∧∃a9 n9 c9,DW 48 #[.int .i64 6, .int .i64 en, .int .i64 an, .int .i64 bn, .int .i64 c, .string nm] [w.heap.size+2] lo w.heap.size (w.heap.size+1) w wr (.slice (some ⟨gm,0,none⟩) 12 capm) (.slice (some ⟨gi,0,none⟩) 12 capi) (.slice (some ⟨ge,0,none⟩) 3 cape) (.slice a9 n9 c9) {k with cache:=Ed (us.take j) k.cache}) (fun s13 _=>us.length - (intOf s13).toNat)
   case atStart=>exact⟨0,Nat.zero_le _,rfl,fun e he=>by simp at he,OB.out,OU.out,ac,nc,cc,S5.out⟩
   case round=>
    obtain⟨j,hj,rfl,hall,hob,hou,a9,n9,c9,hS⟩:=hrel;have Hall:=AA hall;have S:=AA hS;have HOB:=AA hob;have HOU:=AA hou;clear hall hS hob OB OU
    by_cases hlt:j<us.length
    ·obtain⟨ax',cx',hvx,_,_,H0⟩:=hou.rd.open
     rw[BO] at hvx;simp only[Value.slice.injEq] at hvx;obtain⟨rfl,_,rfl⟩:=hvx;obtain⟨bx,offx,rfl,DX⟩:=H0.at (k:=j) (by rw[BO];exact hlt);rw[KX hlt] at DX;obtain⟨un,hun⟩:∃u,u=us.getD j 0:=⟨_,rfl⟩
     rw[←hun] at DX;have HUN:=AA hun;have hmem:un∈us:=by rw[hun];exact List.mem_of_getElem? (Ba hlt)
     have hun3:=Hu3.out un hmem;have Hmem:=AA hmem;clear hun hmem H0 hou;have hjl:(j:Int)<us.length:=by omega
     have huni:(un:Int)<3:=by omega
     obtain⟨x0,x1,x2,x3⟩:=S.out.xs;obtain⟨y0,y1,y2,y3,y4,y5⟩:=S.out.ys6;obtain⟨hlb,hlg,_,_⟩:=S.out.lts;have hge:=S.out.ge_lt;have hbx:bx<wr.heap.size:=World.block_lt_of_cell? _ _ DX;obtain⟨ua,uc,D0,_,R⟩:=S.out.env (j:=un) (by show un<k.envs.length;rw[HK.out.envl];exact hun3);have RI:=S.out.K.2.1;have RB:=HOB.out.rd;have CA:=AA (fun W (hW:Below wr.heap.size wr W)=>FU _ vb _ k.infos nd (AD k.envs un).rights W (A6.below RI hW) (Ap.below RB hW) (A6.below R hW) Hn12.out (Be (AT HK.out).2.1) (FG HK.out hun3));generalize hbbq:At k.infos nd (AD k.envs un).rights=bq at CA;have Hbq:=AA hbbq;clear hbbq RI R RB;go_wp2_with fail;refine Al 12 167 [.p w.heap.size 1, .s gi 12 capi, .v vb, .p w.heap.size 2, .s ge 3 cape, .v (.slice (some ⟨bx,offx,none⟩) us.length cx), .i ((j:Int)), .p bx (offx+j), .i ((un:Int)), .p ge (un*2), .p ge (un*2), .v (.slice ua (AD k.envs un).rights.length uc)] (fun _ _ _=>True) ?_ ?_
     ·intro i hi o ho a wx Hb Hd hG K HK
      have mc0:=bc hG hlg x1;have mc1:=bc hG hlg x2;have mc2:=bc hG hbx DX;have mc3:=bc hG hge D0
      match i,hi with
      |0,_|2,_|3,_|5,_|6,_|10,_=>exact sP ho HK Hb Hd
      |1,_=>exact sL ho HK Hb Hd (hl:=GX (by assumption))
      |4,_=>exact sL ho HK Hb Hd (hl:=MX (by assumption))
      |7,_|9,_=>exact sI ho HK Hb Hd (hr:=by clear Hd Hb HK;go_simp)
      |8,_=>exact sL ho HK Hb Hd (hl:=Fg (by assumption))
      |11,_=>exact sL ho HK Hb Hd (hl:=K7 (by assumption))
     ·intro vs wx hR hG
      have q1:(vs 1)= .slice (some ⟨gi,0,none⟩) 12 capi:=BT hR 1;have q2:(vs 2)=vb:=BT hR 2;have q11:(vs 11)= .slice ua (AD k.envs un).rights.length uc:=BT hR 11;clear hR;simp only[Ai,AQ,List.range,List.range.loop,List.foldl_cons,List.foldl_nil,q1,q2,q11];simp;clear q1 q2 q11;have S6:=AA (S.out.below hG);have HbG:=AA hG;clear x0 x1 x2 x3 y0 y1 y2 y3 y4 y5 D0 hG;go_wp2_with fail;refine(CA.out _ HbG.out).mono ?_;rintro r w7 ⟨rfl,hb7⟩;have S7:=AA (S6.out.below hb7);have HB7:=AA (HbG.out.trans (hb7.mono HbG.out.size));clear hb7 CA HbG S6;cases bq
      ·have HP4:=AA (show AO k ⟨6,(en:Int),(an:Int),(bn:Int),c,nm⟩=(k,0,1) by rw[HP3.out,if_pos (List.all_eq_false.2 ⟨un,Hmem.out,by rw[Hbq.out];decide⟩)])
       obtain⟨x0,x1,x2,x3⟩:=S7.out.xs;obtain⟨⟨z0,z1,z2,z3⟩,hfz⟩:=S7.out.zs;obtain⟨hB9,HR9⟩:=S7.out.bad (Nat.le_trans hlo (Nat.le_add_right _ _)) (Nat.le_add_right _ _) (v:=0) (code:=1) (HP4.out) (by decide);have HE:=AA (AB hB9);have HR:=AA HR9;clear hB9 HR9;go_wp2_with ((try simp only[Exit.inBlock,Exit.then]);with_reducible refine bodyPost_ret (v:= .tuple #[.agg #[_,_,_,_], .int .i64 (0), .int .i64 (1)]) ?_ rfl HR.out;obtain⟨E0,E1,E2,E3⟩:=HE.out;simp[results,Tryz.results74,go_sem,E0,E1,E2,E3])
      ·have hDX7:=(HB7.out.cell hbx).trans DX
       have hbx7:bx<w7.heap.size:=World.block_lt_of_cell? _ _ hDX7;clear DX hbx;have DX:=hDX7;have hbx:=hbx7;clear hDX7 hbx7;obtain⟨x0,x1,x2,x3⟩:=S7.out.xs;obtain⟨hlb,hlg,_,_⟩:=S7.out.lts;have CD:=AA (fun W (h:Bh W (.slice a9 n9 c9) (Ed (us.take j) k.cache))=>Gq (.slice a9 n9 c9) (Ed (us.take j) k.cache) (un:Int) W h (by have:=Kz (us.take j) (AT HK.out).2.2;simp only[Bu,Bool.and_eq_true,decide_eq_true_eq] at this;omega));go_wp2_with fail;refine Al 6 167 [.p w.heap.size 3, .v (.slice a9 n9 c9), .v (.slice (some ⟨bx,offx,none⟩) us.length cx), .i ((j:Int)), .p bx (offx+j), .i ((un:Int))] (fun _ _ _=>True) ?_ ?_
       ·intro i hi o ho a wx Hb Hd hG K HK
        have mc0:=bc hG hlg x3;have mc1:=bc hG hbx DX
        match i,hi with
        |0,_|2,_|3,_=>exact sP ho HK Hb Hd
        |1,_=>exact sL ho HK Hb Hd (hl:=K6 (by assumption))
        |4,_=>exact sI ho HK Hb Hd (hr:=by clear Hd Hb HK;go_simp)
        |5,_=>exact sL ho HK Hb Hd (hl:=Fg (by assumption))
       ·intro vs wx hR hG
        have q1:(vs 1)= .slice a9 n9 c9:=BT hR 1;have q5:(vs 5)= .int .i64 un:=BT hR 5;clear hR;simp only[Ai,AQ,List.range,List.range.loop,List.foldl_cons,List.foldl_nil,q1,q5];simp;clear q1 q5;have S8:=AA (S7.out.below hG);have HB8:=AA (HB7.out.trans (hG.mono HB7.out.size));have x3o:=S8.out.xs.2.2.2;clear x0 x1 x2 x3 hG DX;go_wp2_with fail;refine(CD.out _ S8.out.K.2.2.2).mono ?_;rintro r w9 ⟨v',rfl,hO,hb9⟩;have T2:=AA (S8.out.cache hb9 hO);have HB9:=HB8.out.trans (hb9.mono HB8.out.size);have OB9:=AA (JV (g:=w.heap.size) (j:=3) (u:=v') (AE.below HOB.out HB9) hlt3);have OU9:=AA (JV (g:=w.heap.size) (j:=3) (u:=v') (AE.below HOU.out HB9) hlt4);have fzg:=AI (S8.out.below hb9).ink.1;have x3p:=(S8.out.below hb9).xs.2.2.2;clear x3o HB9 hb9;obtain⟨a8,c8,e9,_,_⟩:=hO.rd.shape;generalize List.length _=n8 at e9;subst e9;clear hO;generalize hW10:w9.setCell _ _=W10 at T2 OB9 OU9;go_wp2_with fail;go_roundw
        case rel=>
         refine⟨j+1,by omega,by go_num,fun e he=>?_,OB9.out,OU9.out,a8,n8,c8,?_⟩
         ·rw[DI (Ba (d:=0) hlt),List.mem_append,List.mem_singleton] at he
          rcases he with he|rfl
          ·exact Hall.out e he
          ·rw[←HUN.out];exact Hbq.out
         ·rw[Iy hlt,←HUN.out];exact T2.out
        case measure=>simp[intOf];omega
    ·obtain rfl:j=us.length:=by omega
     rw[List.take_length] at Hall S;have hjl:¬(us.length:Int)<us.length:=by omega
     clear hou;go_wp2_with fail;go_meet
     case rel=>exact⟨Hall.out,_,_,_,S.out⟩
  case rest=>
  obtain⟨hall,a9,n9,c9,hS⟩:=hcut;have S:=AA hS;have HP4:=AA (HP3.out.trans (if_neg (by rw[Bool.not_eq_false,List.all_eq_true];exact hall)));obtain⟨w10,rfl⟩:∃w10:World,w10=wc:=⟨_,rfl⟩
  clear hall hS HP3 OB OU S5;obtain⟨mm,hmm⟩:∃mm,mm=(sm&&!Cc (AD k.envs en).rights (infoAt k.infos (A1 c)).g):=⟨_,rfl⟩
  have Hmm:=AA hmm;clear hmm;go_wp2_with fail;go_cut [112] (fun s112 wx=>s112= .bool mm∧DW 48 #[.int .i64 6, .int .i64 en, .int .i64 an, .int .i64 bn, .int .i64 c, .string nm] [w.heap.size+2] lo w.heap.size (w.heap.size+1) w wx (.slice (some ⟨gm,0,none⟩) 12 capm) (.slice (some ⟨gi,0,none⟩) 12 capi) (.slice (some ⟨ge,0,none⟩) 3 cape) (.slice a9 n9 c9) {k with cache:=Ed us k.cache})
  case first=>
   obtain⟨x0,x1,x2,x3⟩:=S.out.xs;obtain⟨y0,y1,y2,y3,y4,y5⟩:=S.out.ys6;obtain⟨hlb,hlg,_,_⟩:=S.out.lts;have hgi:=S.out.gi_lt;obtain⟨_,f1,_⟩:=S.out.infoAt (f:=fn) (by show fn<k.infos.length;rw[HK.out.len];exact hfn)
   try simp only at f1
   cases sm
   ·clear f1
    refine Al 13 167 [.b false, .b false, .u, .u, .u, .u, .u, .u, .u, .u, .u, .u, .u] (fun _ _ _=>True) ?_ ?_
    ·intro i hi o ho a wx Hb Hd hG K HK
     match i,hi with
     |0,_|1,_=>exact sP ho HK Hb Hd
     |2,_|3,_|4,_|5,_|6,_|7,_|8,_|9,_|10,_|11,_|12,_=>exact sB ho HK Hd
    ·intro vs wx hR hG
     have q1:(vs 1)= .bool false:=BT hR 1;clear hR;simp only[Ai,AQ,List.range,List.range.loop,List.foldl_cons,List.foldl_nil,q1];simp;clear q1;clear x0 x1 x2 x3 y0 y1 y2 y3 y4 y5;go_wp2_with fail;go_meet
     case rel=>exact⟨by rw[Hmm.out];rfl,S.out.below hG⟩
   ·have hfe:=HFe.out rfl
    have HM0:=Hmm.out;have RE:=S.out.K.2.2.1;have CM:=AA (fun W (hW:Below w10.heap.size w10 W)=>Fq (.slice (some ⟨gm,0,none⟩) 12 capm) (.slice (some ⟨gi,0,none⟩) 12 capi) (.slice (some ⟨ge,0,none⟩) 3 cape) (.slice a9 n9 c9) k en (infoAt k.infos fn).g W (RE.below hW) HK.out hen (Be (AT HK.out).2.1 _ (List.mem_of_getElem? (Br (by rw[HK.out.len];exact hfn)))));rw[←hfe] at HM0;generalize(infoAt k.infos fn).g=fg at f1 CM HM0;clear RE hfe;generalize Cc (AD k.envs en).rights fg=my at CM HM0;have HM:=AA HM0;clear HM0;cases my
    ·skip
     refine Al 13 167 [.b true, .b true, .a #[.slice (some ⟨gm,0,none⟩) 12 capm, .slice (some ⟨gi,0,none⟩) 12 capi, .slice (some ⟨ge,0,none⟩) 3 cape, .slice a9 n9 c9], .p (w.heap.size+1) 1, .i ((en:Int)), .p w.heap.size 1, .s gi 12 capi, .i ((fn:Int)), .p gi (fn*3), .p gi (fn*3+1), .t fg, .b false, .b true] (fun _ _ _=>True) ?_ ?_
     ·intro i hi o ho a wx Hb Hd hG K HK
      have mc0:=bc hG hlg x0;have mc1:=bc hG hlg x1;have mc2:=bc hG hlg x2;have mc3:=bc hG hlg x3;have mc4:=bc hG hlb y1;have mc5:=bc hG hgi f1
      match i,hi with
      |0,_|1,_|3,_|5,_|7,_|9,_|12,_=>exact sP ho HK Hb Hd
      |2,_=>exact sL ho HK Hb Hd (hl:=MY (by assumption) (by assumption) (by assumption) (by assumption))
      |4,_=>exact sL ho HK Hb Hd (hl:=Fg (by assumption))
      |6,_=>exact sL ho HK Hb Hd (hl:=GX (by assumption))
      |8,_=>exact sI ho HK Hb Hd (hr:=by clear Hd Hb HK;go_simp)
      |10,_=>exact sL ho HK Hb Hd (hl:=UL (by assumption))
      |11,_=>exact sD ho HK Hb Hd (CM.out _ hG)
     ·intro vs wx hR hG
      have q1:(vs 1)= .bool true:=BT hR 1;have q12:(vs 12)= .bool true:=BT hR 12;clear hR;simp only[Ai,AQ,List.range,List.range.loop,List.foldl_cons,List.foldl_nil,q1,q12];simp;clear q1 q12;clear x0 x1 x2 x3 y0 y1 y2 y3 y4 y5 f1;go_wp2_with fail;go_meet
      case rel=>exact⟨by rw[HM.out];rfl,S.out.below hG⟩
    ·skip
     refine Al 13 167 [.b true, .b true, .a #[.slice (some ⟨gm,0,none⟩) 12 capm, .slice (some ⟨gi,0,none⟩) 12 capi, .slice (some ⟨ge,0,none⟩) 3 cape, .slice a9 n9 c9], .p (w.heap.size+1) 1, .i ((en:Int)), .p w.heap.size 1, .s gi 12 capi, .i ((fn:Int)), .p gi (fn*3), .p gi (fn*3+1), .t fg, .b true, .b false] (fun _ _ _=>True) ?_ ?_
     ·intro i hi o ho a wx Hb Hd hG K HK
      have mc0:=bc hG hlg x0;have mc1:=bc hG hlg x1;have mc2:=bc hG hlg x2;have mc3:=bc hG hlg x3;have mc4:=bc hG hlb y1;have mc5:=bc hG hgi f1
      match i,hi with
      |0,_|1,_|3,_|5,_|7,_|9,_|12,_=>exact sP ho HK Hb Hd
      |2,_=>exact sL ho HK Hb Hd (hl:=MY (by assumption) (by assumption) (by assumption) (by assumption))
      |4,_=>exact sL ho HK Hb Hd (hl:=Fg (by assumption))
      |6,_=>exact sL ho HK Hb Hd (hl:=GX (by assumption))
      |8,_=>exact sI ho HK Hb Hd (hr:=by clear Hd Hb HK;go_simp)
      |10,_=>exact sL ho HK Hb Hd (hl:=UL (by assumption))
      |11,_=>exact sD ho HK Hb Hd (CM.out _ hG)
     ·intro vs wx hR hG
      have q1:(vs 1)= .bool true:=BT hR 1;have q12:(vs 12)= .bool false:=BT hR 12;clear hR;simp only[Ai,AQ,List.range,List.range.loop,List.foldl_cons,List.foldl_nil,q1,q12];simp;clear q1 q12;clear x0 x1 x2 x3 y0 y1 y2 y3 y4 y5 f1;go_wp2_with fail;go_meet
      case rel=>exact⟨by rw[HM.out];rfl,S.out.below hG⟩
  case rest=>
  obtain⟨hs112,S11⟩:=hcut;subst hs112;replace S11:=AA S11;clear S;obtain⟨w11,rfl⟩:∃w11:World,w11=wc:=⟨_,rfl⟩
  cases mm
  rotate_left
  ·have HP5:=AA (show AO k ⟨6,(en:Int),(an:Int),(bn:Int),c,nm⟩=(k,0,1) by
    have hmm:=Hmm.out.symm;rw[Bool.and_eq_true,Bool.not_eq_true'] at hmm;exact HP4.out.trans (if_pos ⟨Hsm.out.trans hmm.1,hmm.2⟩))
   clear Hmm HP4;obtain⟨x0,x1,x2,x3⟩:=S11.out.xs;obtain⟨⟨z0,z1,z2,z3⟩,hfz⟩:=S11.out.zs;obtain⟨hB9,HR9⟩:=S11.out.bad (Nat.le_trans hlo (Nat.le_add_right _ _)) (Nat.le_add_right _ _) (v:=0) (code:=1) (HP5.out) (by decide);have HE:=AA (AB hB9);have HR:=AA HR9;clear hB9 HR9;go_wp2_with ((try simp only[Exit.inBlock,Exit.then]);with_reducible refine bodyPost_ret (v:= .tuple #[.agg #[_,_,_,_], .int .i64 (0), .int .i64 (1)]) ?_ rfl HR.out;obtain⟨E0,E1,E2,E3⟩:=HE.out;simp[results,Tryz.results74,go_sem,E0,E1,E2,E3])
  have hno:¬(BV c=true∧Ej k (en:Int) (infoAt k.infos (A1 c)).g=false):=by rintro⟨h1,h2⟩;have h3:sm=true:=Hsm.out.symm.trans h1;have h4:Cc (AD k.envs en).rights (infoAt k.infos (A1 c)).g=false:=h2;have hmm:=Hmm.out;rw[h3,h4] at hmm;cases hmm
  have HP5:=AA (HP4.out.trans (if_neg hno));clear Hmm HP4 hno;obtain⟨wo,hwo⟩:∃wo,wo=Ar k.mem an bn:=⟨_,rfl⟩
  have hwr:=HK.out.word (f:=an) (i:=bn) han hbn;rw[←hwo] at hwr HP5;obtain⟨fo,wro,hVo,hfo,hfoe⟩:=MI wo;have CO0:=fun W (hW:Below w11.heap.size w11 W)=>Ab (Bz wo W (by omega))
  rw[hVo] at CO0;have CO:=AA CO0;have HFo:=AA hfoe;generalize hso:BV wo=so at*;have Hso:=AA hso;have hfoi:(fo:Int)<12:=by omega
  obtain⟨x0,x1,x2,x3⟩:=S11.out.xs;obtain⟨y0,y1,y2,y3,y4,y5⟩:=S11.out.ys6;obtain⟨hlb,hlg,_,_⟩:=S11.out.lts;obtain⟨gw,capw,Dw,hgw,hcw,Dj,_⟩:=S11.out.mrow Hok.out (f:=an) han;have Dv:=Dj bn hbn
  try simp only at Dv
  rw[←hwo] at Dv;have hgm:gm<w11.heap.size:=World.block_lt_of_cell? _ _ Dw;have HWO:=AA hwo;clear Dj CO0 hVo hfoe hso hwr hwo;go_wp2_with fail;refine Al 17 167 [.p w.heap.size 0, .s gm 12 capm, .p (w.heap.size+1) 2, .i ((an:Int)), .p gm an, .s gw 4 capw, .p (w.heap.size+1) 3, .i ((bn:Int)), .p gw bn, .i wo, .v (.tuple #[.int .i64 fo, .bool wro, .bool so]), .v (.tuple #[.int .i64 fo, .bool wro, .bool so]), .i ((fo:Int)), .b wro, .b so, .i ((fo:Int)), .b wro] (fun _ _ _=>True) ?_ ?_
  ·intro i hi o ho a wx Hb Hd hG K HK
   have mc0:=bc hG hlg x0;have mc1:=bc hG hlb y2;have mc2:=bc hG hgm Dw;have mc3:=bc hG hlb y3;have mc4:=bc hG hgw Dv
   match i,hi with
   |0,_|2,_|6,_|11,_|12,_|13,_|14,_|15,_|16,_=>exact sP ho HK Hb Hd
   |1,_=>exact sL ho HK Hb Hd (hl:=Ff (by assumption))
   |3,_|7,_|9,_=>exact sL ho HK Hb Hd (hl:=Fg (by assumption))
   |4,_|8,_=>exact sI ho HK Hb Hd (hr:=by clear Hd Hb HK;go_simp)
   |5,_=>exact sL ho HK Hb Hd (hl:=Ra (by assumption))
   |10,_=>exact sD ho HK Hb Hd (CO.out _ hG)
   |_+17,hq=>exact absurd hq (by omega)
  ·intro vs wx hR hG
   have q14:(vs 14)= .bool so:=BT hR 14;have q15:(vs 15)= .int .i64 fo:=BT hR 15;have q16:(vs 16)= .bool wro:=BT hR 16;clear hR;simp only[Ai,AQ,List.range,List.range.loop,List.foldl_cons,List.foldl_nil,q14,q15,q16];simp;clear q14 q15 q16;have S12:=AA (S11.out.below hG);clear x0 x1 x2 x3 y0 y1 y2 y3 y4 y5 Dw Dv hG CO hgm hgw hcw S11 hlb hlg;obtain⟨w12,rfl⟩:∃w12:World,w12=wx:=⟨_,rfl⟩
   go_upto_if 129 with fail;go_cut [] (fun wx=>DW 48 #[.int .i64 6, .int .i64 en, .int .i64 an, .int .i64 bn, .int .i64 c, .string nm] [w.heap.size+2] lo w.heap.size (w.heap.size+1) w wx (.slice (some ⟨gm,0,none⟩) 12 capm) (.slice (some ⟨gi,0,none⟩) 12 capi) (.slice (some ⟨ge,0,none⟩) 3 cape) (.slice a9 n9 c9) {k with cache:=Ed us k.cache,infos:=Aw k.infos wo (-1)})
   case first=>
    cases so
    ·have E:=AA (Mm (infos:=k.infos) (n:= -1) Hso.out)
     go_wp2_with fail;go_meet
     case rel=>rw[E.out];exact S12.out
    ·have E:=AA (OC (infos:=k.infos) (n:= -1) Hso.out (HFo.out rfl))
     obtain⟨x0,x1,x2,x3⟩:=S12.out.xs;obtain⟨hlb,hlg,_,_⟩:=S12.out.lts;have hgi:=S12.out.gi_lt;obtain⟨_,_,d2⟩:=S12.out.infoAt (f:=fo) (by show fo<(k.infos).length;have:=HK.out.len;(try simp only[Cj]);omega)
     try simp only at d2
     have hrv0:=HK.out.refs_le hfo;generalize hrv:(infoAt (k.infos) fo).r=rv at d2 hrv0;obtain⟨nr,hnr⟩:∃nr,rv - 1=nr:=⟨_,rfl⟩
     have Hnr:=AA hnr;clear hnr;have hati:(fo:Int)<12:=by omega
     go_wp2_with fail;refine Al 10 167 [.p w.heap.size 1, .s gi 12 capi, .i ((fo:Int)), .p w.heap.size 1, .s gi 12 capi, .i ((fo:Int)), .p gi (fo*3), .p gi (fo*3+2), .i rv, .i nr] (fun _ _ _=>True) ?_ ?_
     ·intro i hi o ho a wx Hb Hd hG K HK
      have mc0:=bc hG hlg x1;have mc1:=bc hG hgi d2
      match i,hi with
      |0,_|2,_|3,_|5,_|7,_=>exact sP ho HK Hb Hd
      |1,_|4,_=>exact sL ho HK Hb Hd (hl:=GX (by assumption))
      |6,_=>exact sI ho HK Hb Hd (hr:=by clear Hd Hb HK;go_simp)
      |8,_=>exact sL ho HK Hb Hd (hl:=Fg (by assumption))
      |9,_=>clear mc0 mc1;obtain rfl:=So_ ho;have d8:(a.tmps[138]?.getD undef)= .int .i64 rv:=Bx Hd 8;clear Hd Hb;refine Aa.of rfl ?_;go_simp;exact HK.out _ _ (by show Value.int .i64 (IntKind.i64.wrap (rv - 1))= .int .i64 nr;rw[IntWalk.i64_in _ (by omega),Hnr.out]) (Below.refl _ _)
     ·intro vs wx hR hG
      have q1:(vs 1)= .slice (some ⟨gi,0,none⟩) 12 capi:=BT hR 1;have q2:(vs 2)= .int .i64 fo:=BT hR 2;have q9:(vs 9)= .int .i64 nr:=BT hR 9;clear hR;simp only[Ai,AQ,List.range,List.range.loop,List.foldl_cons,List.foldl_nil,q1,q2,q9];simp;clear q1 q2 q9;have SB:=AA (S12.out.below hG);obtain⟨_,_,d2w⟩:=SB.out.infoAt (f:=fo) (by show fo<(k.infos).length;have:=HK.out.len;(try simp only[Cj]);omega);have Fr:=SB.out.fzi (fo*3+2);have NN:=SB.out.info (by show 12=(k.infos).length;have:=HK.out.len;(try simp only[Cj]);omega) (f:=fo) (by show fo<(k.infos).length;have:=HK.out.len;(try simp only[Cj]);omega) (-1)
      try simp only at NN d2w
      rw[hrv] at NN d2w;rw[show rv+ -1=nr by have:=Hnr.out;omega] at NN;replace NN:=AA NN;generalize hW9:wx.setCell _ _=W9 at NN;clear x0 x1 x2 x3 d2 hG SB;go_wp2_with fail;go_meet
      case rel=>rw[E.out];exact NN.out
   case rest=>
   replace hcut:=AA hcut;have S13:=hcut;clear hcut S12;obtain⟨w12,rfl⟩:∃w12:World,w12=wc:=⟨_,rfl⟩
   go_upto_if 142 with fail;go_cut [] (fun wx=>DW 48 #[.int .i64 6, .int .i64 en, .int .i64 an, .int .i64 bn, .int .i64 c, .string nm] [w.heap.size+2] lo w.heap.size (w.heap.size+1) w wx (.slice (some ⟨gm,0,none⟩) 12 capm) (.slice (some ⟨gi,0,none⟩) 12 capi) (.slice (some ⟨ge,0,none⟩) 3 cape) (.slice a9 n9 c9) {k with cache:=Ed us k.cache,infos:=Aw (Aw k.infos wo (-1)) c 1})
   case first=>
    cases sm
    ·have E:=AA (Mm (infos:=Aw k.infos wo (-1)) (n:=1) Hsm.out)
     go_wp2_with fail;go_meet
     case rel=>rw[E.out];exact S13.out
    ·have E:=AA (OC (infos:=Aw k.infos wo (-1)) (n:=1) Hsm.out (HFe.out rfl))
     have SR:=AA (Fn.refer (Gx (AT HK.out).2.1) HK.out.len (n:= -1) (x:=wo) (.inr rfl));obtain⟨x0,x1,x2,x3⟩:=S13.out.xs;obtain⟨hlb,hlg,_,_⟩:=S13.out.lts;have hgi:=S13.out.gi_lt;obtain⟨_,_,d2⟩:=S13.out.infoAt (f:=fn) (by show fn<(Aw k.infos wo (-1)).length;have:=HK.out.len;(try simp only[Cj]);omega)
     try simp only at d2
     have hrv0:=SR.out fn (by simp only[Cj];rw[HK.out.len];exact hfn);generalize hrv:(infoAt (Aw k.infos wo (-1)) fn).r=rv at d2 hrv0;obtain⟨nr,hnr⟩:∃nr,rv+1=nr:=⟨_,rfl⟩
     have Hnr:=AA hnr;clear hnr;have hati:(fn:Int)<12:=by omega
     go_wp2_with fail;refine Al 10 167 [.p w.heap.size 1, .s gi 12 capi, .i ((fn:Int)), .p w.heap.size 1, .s gi 12 capi, .i ((fn:Int)), .p gi (fn*3), .p gi (fn*3+2), .i rv, .i nr] (fun _ _ _=>True) ?_ ?_
     ·intro i hi o ho a wx Hb Hd hG K HK
      have mc0:=bc hG hlg x1;have mc1:=bc hG hgi d2
      match i,hi with
      |0,_|2,_|3,_|5,_|7,_=>exact sP ho HK Hb Hd
      |1,_|4,_=>exact sL ho HK Hb Hd (hl:=GX (by assumption))
      |6,_=>exact sI ho HK Hb Hd (hr:=by clear Hd Hb HK;go_simp)
      |8,_=>exact sL ho HK Hb Hd (hl:=Fg (by assumption))
      |9,_=>clear mc0 mc1;obtain rfl:=So_ ho;have d8:(a.tmps[151]?.getD undef)= .int .i64 rv:=Bx Hd 8;clear Hd Hb;refine Aa.of rfl ?_;go_simp;exact HK.out _ _ (by show Value.int .i64 (IntKind.i64.wrap (rv+1))= .int .i64 nr;rw[IntWalk.i64_in _ (by omega),Hnr.out]) (Below.refl _ _)
     ·intro vs wx hR hG
      have q1:(vs 1)= .slice (some ⟨gi,0,none⟩) 12 capi:=BT hR 1;have q2:(vs 2)= .int .i64 fn:=BT hR 2;have q9:(vs 9)= .int .i64 nr:=BT hR 9;clear hR;simp only[Ai,AQ,List.range,List.range.loop,List.foldl_cons,List.foldl_nil,q1,q2,q9];simp;clear q1 q2 q9;have SB:=AA (S13.out.below hG);obtain⟨_,_,d2w⟩:=SB.out.infoAt (f:=fn) (by show fn<(Aw k.infos wo (-1)).length;have:=HK.out.len;(try simp only[Cj]);omega);have Fr:=SB.out.fzi (fn*3+2);have NN:=SB.out.info (by show 12=(Aw k.infos wo (-1)).length;have:=HK.out.len;(try simp only[Cj]);omega) (f:=fn) (by show fn<(Aw k.infos wo (-1)).length;have:=HK.out.len;(try simp only[Cj]);omega) (1)
      try simp only at NN d2w
      rw[hrv] at NN d2w;rw[show rv+1=nr by have:=Hnr.out;omega] at NN;replace NN:=AA NN;generalize hW9:wx.setCell _ _=W9 at NN;clear x0 x1 x2 x3 d2 hG SB;go_wp2_with fail;go_meet
      case rel=>rw[E.out];exact NN.out
   case rest=>
   replace hcut:=AA hcut;have S14:=hcut;clear hcut S13;obtain⟨w13,rfl⟩:∃w13:World,w13=wc:=⟨_,rfl⟩
   obtain⟨x0,x1,x2,x3⟩:=S14.out.xs;obtain⟨y0,y1,y2,y3,y4,y5⟩:=S14.out.ys6;obtain⟨hlb,hlg,_,_⟩:=S14.out.lts;obtain⟨gw,capw,Dw,hgw,hcw,_⟩:=S14.out.mrow Hok.out (f:=an) han;have hgm:gm<w13.heap.size:=World.block_lt_of_cell? _ _ Dw;go_wp2_with fail;refine Al 10 167 [.p w.heap.size 0, .s gm 12 capm, .p (w.heap.size+1) 2, .i ((an:Int)), .p gm an, .s gw 4 capw, .p (w.heap.size+1) 3, .i ((bn:Int)), .p (w.heap.size+1) 4, .i c] (fun _ _ _=>True) ?_ ?_
   ·intro i hi o ho a wx Hb Hd hG K HK
    have mc0:=bc hG hlg x0;have mc1:=bc hG hlb y2;have mc2:=bc hG hgm Dw;have mc3:=bc hG hlb y3;have mc4:=bc hG hlb y4
    match i,hi with
    |0,_|2,_|6,_|8,_=>exact sP ho HK Hb Hd
    |1,_=>exact sL ho HK Hb Hd (hl:=Ff (by assumption))
    |3,_|7,_|9,_=>exact sL ho HK Hb Hd (hl:=Fg (by assumption))
    |4,_=>exact sI ho HK Hb Hd (hr:=by clear Hd Hb HK;go_simp)
    |5,_=>exact sL ho HK Hb Hd (hl:=Ra (by assumption))
   ·intro vs wx hR hG
    have q5:(vs 5)= .slice (some ⟨gw,0,none⟩) 4 capw:=BT hR 5;have q7:(vs 7)= .int .i64 bn:=BT hR 7;have q9:(vs 9)= .int .i64 c:=BT hR 9;clear hR;simp only[Ai,AQ,List.range,List.range.loop,List.foldl_cons,List.foldl_nil,q5,q7,q9];simp;clear q5 q7 q9;have S15:=AA (S14.out.below hG);obtain⟨gw2,capw2,D2,_,_,hC,Fr,_,_,_,hS⟩:=S15.out.mrow Hok.out (f:=an) han;have eD:=D2.symm.trans ((hG.cell (p:=⟨gm,an,none⟩) hgm).trans Dw);cases eD;have D3:=hC bn hbn;have S16:=AA (hS bn c hbn);generalize hW9:wx.setCell _ _=W9 at S16;clear x0 x1 x2 x3 y0 y1 y2 y3 y4 y5 Dw D2 hS hG S14 hC;obtain⟨x0,x1,x2,x3⟩:=S16.out.xs;obtain⟨⟨z0,z1,z2,z3⟩,hfz⟩:=S16.out.zs;obtain⟨hB9,HR9⟩:=S16.out.ret (Nat.le_trans hlo (Nat.le_add_right _ _)) (Nat.le_add_right _ _) (v:=0) (code:=0) (HP5.out);have HE:=AA (AB hB9);have HR:=AA HR9;clear hB9 HR9;go_wp2_with ((try simp only[Exit.inBlock,Exit.then]);with_reducible refine bodyPost_ret (v:= .tuple #[.agg #[_,_,_,_], .int .i64 (0), .int .i64 (0)]) ?_ rfl HR.out;obtain⟨E0,E1,E2,E3⟩:=HE.out;simp[results,Tryz.results74,go_sem,E0,E1,E2,E3])
 ·have t1:(fc !=0)=true:=by simp[ef]
  have hc:=AA ef;have HP3:=AA (show AO k ⟨6,(en:Int),ra,b,c,nm⟩=(k,0,fc) by rw[HP.out,if_neg ef]);clear ef FZ HP;obtain⟨x0,x1,x2,x3⟩:=S1.out.xs;obtain⟨⟨z0,z1,z2,z3⟩,hfz⟩:=S1.out.zs;obtain⟨hB9,HR9⟩:=S1.out.bad (Nat.le_trans hlo (Nat.le_add_right _ _)) (Nat.le_add_right _ _) (v:=0) (code:=fc) (HP3.out) (hc.out);have HE:=AA (AB hB9);have HR:=AA HR9;clear hB9 HR9;go_wp2_with ((try simp only[Exit.inBlock,Exit.then]);with_reducible refine bodyPost_ret (v:= .tuple #[.agg #[_,_,_,_], .int .i64 (0), .int .i64 (fc)]) ?_ rfl HR.out;obtain⟨E0,E1,E2,E3⟩:=HE.out;simp[results,Tryz.results74,go_sem,E0,E1,E2,E3])
theorem TL {lo:Nat} {mv iv ev cv:Value} {k:AH} {w:World} (h:Ct lo w mv iv ev cv k) (hlo:lo≤w.heap.size) (hk:DV k) (call:AM) (he:0≤call.e∧call.e<3) (hnm:call.nm.size≤maxLen) (hc:call.c≤9223372036854775807):
 Calls prog 55 #[.agg #[mv,iv,ev,cv], .agg call.cs] w (Fd lo w (AO k call)):=by
 have S0':=SC.start h hlo call;obtain⟨am,nm_,cm,ai,ni,ci,ae,ne_,ce,ac,nc,cc,rfl,rfl,rfl,rfl⟩:=S0'.shapes;have S0:=AA S0';obtain⟨kk,e,a,b,c,nm⟩:=call;simp only[AM.cs] at S0 ⊢;have HK:=AA hk;have HE:=AA he;have HN:=AA hnm;have HC:=AA hc;obtain⟨x0,x1,x2,x3⟩:=S0.out.xs;obtain⟨y0,y1,y2,y3,y4,y5⟩:=S0.out.ys6;clear h S0' he hk hnm hc;generalize hW0:((w.alloc _).alloc _).alloc _=W0 at*
 by_cases e1:kk=1
 ·subst e1
  have C:=AA (QI S0.out.ink.2.2 S0.out.lo HK.out ⟨1,e,a,b,c,nm⟩ HE.out rfl HN.out);go_in;go_wp2_with fail;refine C.out.mono ?_;rintro r w1 ⟨m',i',e',c',rfl,hs,hK,hb,hf⟩;obtain⟨hB,hB9,HR9⟩:=Fd.up S0.out (Nat.le_trans hlo (Nat.le_add_right _ _)) (Nat.le_add_right _ _) hs hK hb hf;obtain⟨am,nm',cm,ai,ni,ci,ae,ne',ce,ac,nc,cc,rfl,rfl,rfl,rfl⟩:=hs;obtain⟨z0,z1,z2,z3⟩:=AB hB;have hfz:=AI hB;have HE9:=AA (AB hB9);have HR:=AA HR9;clear hK hb hf hB hB9 HR9 x0 x1 x2 x3 y0 y1 y2 y3 y4 y5 hW0;go_wp2_with fail;obtain⟨E0,E1,E2,E3⟩:=HE9.out;exact bodyPost_ret (v:= .tuple #[.agg #[_,_,_,_], .int .i64 _, .int .i64 _]) (by simp[results,Tryz.results55,go_sem,E0,E1,E2,E3]) rfl HR.out
 by_cases e2:kk=2
 ·subst e2
  have C:=AA (QE S0.out.ink.2.2 S0.out.lo HK.out ⟨2,e,a,b,c,nm⟩ HE.out rfl);go_in;go_wp2_with fail;refine C.out.mono ?_;rintro r w1 ⟨m',i',e',c',rfl,hs,hK,hb,hf⟩;obtain⟨hB,hB9,HR9⟩:=Fd.up S0.out (Nat.le_trans hlo (Nat.le_add_right _ _)) (Nat.le_add_right _ _) hs hK hb hf;obtain⟨am,nm',cm,ai,ni,ci,ae,ne',ce,ac,nc,cc,rfl,rfl,rfl,rfl⟩:=hs;obtain⟨z0,z1,z2,z3⟩:=AB hB;have hfz:=AI hB;have HE9:=AA (AB hB9);have HR:=AA HR9;clear hK hb hf hB hB9 HR9 x0 x1 x2 x3 y0 y1 y2 y3 y4 y5 hW0;go_wp2_with fail;obtain⟨E0,E1,E2,E3⟩:=HE9.out;exact bodyPost_ret (v:= .tuple #[.agg #[_,_,_,_], .int .i64 _, .int .i64 _]) (by simp[results,Tryz.results55,go_sem,E0,E1,E2,E3]) rfl HR.out
 by_cases e3:kk=3
 ·subst e3
  have C:=AA (QG S0.out.ink.2.2 S0.out.lo HK.out ⟨3,e,a,b,c,nm⟩ HE.out rfl);go_in;go_wp2_with fail;refine C.out.mono ?_;rintro r w1 ⟨m',i',e',c',rfl,hs,hK,hb,hf⟩;obtain⟨hB,hB9,HR9⟩:=Fd.up S0.out (Nat.le_trans hlo (Nat.le_add_right _ _)) (Nat.le_add_right _ _) hs hK hb hf;obtain⟨am,nm',cm,ai,ni,ci,ae,ne',ce,ac,nc,cc,rfl,rfl,rfl,rfl⟩:=hs;obtain⟨z0,z1,z2,z3⟩:=AB hB;have hfz:=AI hB;have HE9:=AA (AB hB9);have HR:=AA HR9;clear hK hb hf hB hB9 HR9 x0 x1 x2 x3 y0 y1 y2 y3 y4 y5 hW0;go_wp2_with fail;obtain⟨E0,E1,E2,E3⟩:=HE9.out;exact bodyPost_ret (v:= .tuple #[.agg #[_,_,_,_], .int .i64 _, .int .i64 _]) (by simp[results,Tryz.results55,go_sem,E0,E1,E2,E3]) rfl HR.out
 by_cases e4:kk=4
 ·subst e4
  have C:=AA (MU S0.out.ink.2.2 S0.out.lo HK.out ⟨4,e,a,b,c,nm⟩ HE.out (.inl rfl));go_in;go_wp2_with fail;refine C.out.mono ?_;rintro r w1 ⟨m',i',e',c',rfl,hs,hK,hb,hf⟩;obtain⟨hB,hB9,HR9⟩:=Fd.up S0.out (Nat.le_trans hlo (Nat.le_add_right _ _)) (Nat.le_add_right _ _) hs hK hb hf;obtain⟨am,nm',cm,ai,ni,ci,ae,ne',ce,ac,nc,cc,rfl,rfl,rfl,rfl⟩:=hs;obtain⟨z0,z1,z2,z3⟩:=AB hB;have hfz:=AI hB;have HE9:=AA (AB hB9);have HR:=AA HR9;clear hK hb hf hB hB9 HR9 x0 x1 x2 x3 y0 y1 y2 y3 y4 y5 hW0;go_wp2_with fail;obtain⟨E0,E1,E2,E3⟩:=HE9.out;exact bodyPost_ret (v:= .tuple #[.agg #[_,_,_,_], .int .i64 _, .int .i64 _]) (by simp[results,Tryz.results55,go_sem,E0,E1,E2,E3]) rfl HR.out
 by_cases e5:kk=5
 ·subst e5
  have C:=AA (MU S0.out.ink.2.2 S0.out.lo HK.out ⟨5,e,a,b,c,nm⟩ HE.out (.inr rfl));go_in;go_wp2_with fail;refine C.out.mono ?_;rintro r w1 ⟨m',i',e',c',rfl,hs,hK,hb,hf⟩;obtain⟨hB,hB9,HR9⟩:=Fd.up S0.out (Nat.le_trans hlo (Nat.le_add_right _ _)) (Nat.le_add_right _ _) hs hK hb hf;obtain⟨am,nm',cm,ai,ni,ci,ae,ne',ce,ac,nc,cc,rfl,rfl,rfl,rfl⟩:=hs;obtain⟨z0,z1,z2,z3⟩:=AB hB;have hfz:=AI hB;have HE9:=AA (AB hB9);have HR:=AA HR9;clear hK hb hf hB hB9 HR9 x0 x1 x2 x3 y0 y1 y2 y3 y4 y5 hW0;go_wp2_with fail;obtain⟨E0,E1,E2,E3⟩:=HE9.out;exact bodyPost_ret (v:= .tuple #[.agg #[_,_,_,_], .int .i64 _, .int .i64 _]) (by simp[results,Tryz.results55,go_sem,E0,E1,E2,E3]) rfl HR.out
 by_cases e6:kk=6
 ·subst e6
  have C:=AA (RX S0.out.ink.2.2 S0.out.lo HK.out ⟨6,e,a,b,c,nm⟩ HE.out rfl HC.out);go_in;go_wp2_with fail;refine C.out.mono ?_;rintro r w1 ⟨m',i',e',c',rfl,hs,hK,hb,hf⟩;obtain⟨hB,hB9,HR9⟩:=Fd.up S0.out (Nat.le_trans hlo (Nat.le_add_right _ _)) (Nat.le_add_right _ _) hs hK hb hf;obtain⟨am,nm',cm,ai,ni,ci,ae,ne',ce,ac,nc,cc,rfl,rfl,rfl,rfl⟩:=hs;obtain⟨z0,z1,z2,z3⟩:=AB hB;have hfz:=AI hB;have HE9:=AA (AB hB9);have HR:=AA HR9;clear hK hb hf hB hB9 HR9 x0 x1 x2 x3 y0 y1 y2 y3 y4 y5 hW0;go_wp2_with fail;obtain⟨E0,E1,E2,E3⟩:=HE9.out;exact bodyPost_ret (v:= .tuple #[.agg #[_,_,_,_], .int .i64 _, .int .i64 _]) (by simp[results,Tryz.results55,go_sem,E0,E1,E2,E3]) rfl HR.out
 by_cases e7:kk=7
 ·subst e7
  have C:=AA (QH S0.out.ink.2.2 S0.out.lo HK.out ⟨7,e,a,b,c,nm⟩ HE.out rfl);go_in;go_wp2_with fail;refine C.out.mono ?_;rintro r w1 ⟨m',i',e',c',rfl,hs,hK,hb,hf⟩;obtain⟨hB,hB9,HR9⟩:=Fd.up S0.out (Nat.le_trans hlo (Nat.le_add_right _ _)) (Nat.le_add_right _ _) hs hK hb hf;obtain⟨am,nm',cm,ai,ni,ci,ae,ne',ce,ac,nc,cc,rfl,rfl,rfl,rfl⟩:=hs;obtain⟨z0,z1,z2,z3⟩:=AB hB;have hfz:=AI hB;have HE9:=AA (AB hB9);have HR:=AA HR9;clear hK hb hf hB hB9 HR9 x0 x1 x2 x3 y0 y1 y2 y3 y4 y5 hW0;go_wp2_with fail;obtain⟨E0,E1,E2,E3⟩:=HE9.out;exact bodyPost_ret (v:= .tuple #[.agg #[_,_,_,_], .int .i64 _, .int .i64 _]) (by simp[results,Tryz.results55,go_sem,E0,E1,E2,E3]) rfl HR.out
 by_cases e8:kk=8
 ·subst e8
  have C:=AA (Jn S0.out.ink.2.2 S0.out.lo HK.out ⟨8,e,a,b,c,nm⟩ HE.out (.inl rfl) HN.out);go_in;go_wp2_with fail;refine C.out.mono ?_;rintro r w1 ⟨m',i',e',c',rfl,hs,hK,hb,hf⟩;obtain⟨hB,hB9,HR9⟩:=Fd.up S0.out (Nat.le_trans hlo (Nat.le_add_right _ _)) (Nat.le_add_right _ _) hs hK hb hf;obtain⟨am,nm',cm,ai,ni,ci,ae,ne',ce,ac,nc,cc,rfl,rfl,rfl,rfl⟩:=hs;obtain⟨z0,z1,z2,z3⟩:=AB hB;have hfz:=AI hB;have HE9:=AA (AB hB9);have HR:=AA HR9;clear hK hb hf hB hB9 HR9 x0 x1 x2 x3 y0 y1 y2 y3 y4 y5 hW0;go_wp2_with fail;obtain⟨E0,E1,E2,E3⟩:=HE9.out;exact bodyPost_ret (v:= .tuple #[.agg #[_,_,_,_], .int .i64 _, .int .i64 _]) (by simp[results,Tryz.results55,go_sem,E0,E1,E2,E3]) rfl HR.out
 by_cases e9:kk=9
 ·subst e9
  have C:=AA (Jn S0.out.ink.2.2 S0.out.lo HK.out ⟨9,e,a,b,c,nm⟩ HE.out (.inr rfl) HN.out);go_in;go_wp2_with fail;refine C.out.mono ?_;rintro r w1 ⟨m',i',e',c',rfl,hs,hK,hb,hf⟩;obtain⟨hB,hB9,HR9⟩:=Fd.up S0.out (Nat.le_trans hlo (Nat.le_add_right _ _)) (Nat.le_add_right _ _) hs hK hb hf;obtain⟨am,nm',cm,ai,ni,ci,ae,ne',ce,ac,nc,cc,rfl,rfl,rfl,rfl⟩:=hs;obtain⟨z0,z1,z2,z3⟩:=AB hB;have hfz:=AI hB;have HE9:=AA (AB hB9);have HR:=AA HR9;clear hK hb hf hB hB9 HR9 x0 x1 x2 x3 y0 y1 y2 y3 y4 y5 hW0;go_wp2_with fail;obtain⟨E0,E1,E2,E3⟩:=HE9.out;exact bodyPost_ret (v:= .tuple #[.agg #[_,_,_,_], .int .i64 _, .int .i64 _]) (by simp[results,Tryz.results55,go_sem,E0,E1,E2,E3]) rfl HR.out
 by_cases e10:kk=10
 ·subst e10
  have C:=AA (QF S0.out.ink.2.2 S0.out.lo HK.out ⟨10,e,a,b,c,nm⟩ HE.out rfl);go_in;go_wp2_with fail;refine C.out.mono ?_;rintro r w1 ⟨m',i',e',c',rfl,hs,hK,hb,hf⟩;obtain⟨hB,hB9,HR9⟩:=Fd.up S0.out (Nat.le_trans hlo (Nat.le_add_right _ _)) (Nat.le_add_right _ _) hs hK hb hf;obtain⟨am,nm',cm,ai,ni,ci,ae,ne',ce,ac,nc,cc,rfl,rfl,rfl,rfl⟩:=hs;obtain⟨z0,z1,z2,z3⟩:=AB hB;have hfz:=AI hB;have HE9:=AA (AB hB9);have HR:=AA HR9;clear hK hb hf hB hB9 HR9 x0 x1 x2 x3 y0 y1 y2 y3 y4 y5 hW0;go_wp2_with fail;obtain⟨E0,E1,E2,E3⟩:=HE9.out;exact bodyPost_ret (v:= .tuple #[.agg #[_,_,_,_], .int .i64 _, .int .i64 _]) (by simp[results,Tryz.results55,go_sem,E0,E1,E2,E3]) rfl HR.out
 by_cases e11:kk=11
 ·subst e11
  have C:=AA (Oz S0.out.ink.2.2 S0.out.lo HK.out ⟨11,e,a,b,c,nm⟩ HE.out rfl);go_in;go_wp2_with fail;refine C.out.mono ?_;rintro r w1 ⟨m',i',e',c',rfl,hs,hK,hb,hf⟩;obtain⟨hB,hB9,HR9⟩:=Fd.up S0.out (Nat.le_trans hlo (Nat.le_add_right _ _)) (Nat.le_add_right _ _) hs hK hb hf;obtain⟨am,nm',cm,ai,ni,ci,ae,ne',ce,ac,nc,cc,rfl,rfl,rfl,rfl⟩:=hs;obtain⟨z0,z1,z2,z3⟩:=AB hB;have hfz:=AI hB;have HE9:=AA (AB hB9);have HR:=AA HR9;clear hK hb hf hB hB9 HR9 x0 x1 x2 x3 y0 y1 y2 y3 y4 y5 hW0;go_wp2_with fail;obtain⟨E0,E1,E2,E3⟩:=HE9.out;exact bodyPost_ret (v:= .tuple #[.agg #[_,_,_,_], .int .i64 _, .int .i64 _]) (by simp[results,Tryz.results55,go_sem,E0,E1,E2,E3]) rfl HR.out
 have HP3:=AA (show AO k ⟨kk,e,a,b,c,nm⟩=(k,0,3) by unfold AO;rw[if_neg e1,if_neg (by rw[Ac];simp only;omega),if_neg e7,if_neg e8,if_neg e9,if_neg (by simp only;omega)]);have t1:(kk==1)=false:=by simp[e1]
 have t2:(kk==2)=false:=by simp[e2]
 have t3:(kk==3)=false:=by simp[e3]
 have t4:(kk==4)=false:=by simp[e4]
 have t5:(kk==5)=false:=by simp[e5]
 have t6:(kk==6)=false:=by simp[e6]
 have t7:(kk==7)=false:=by simp[e7]
 have t8:(kk==8)=false:=by simp[e8]
 have t9:(kk==9)=false:=by simp[e9]
 have t10:(kk==10)=false:=by simp[e10]
 have t11:(kk==11)=false:=by simp[e11]
 clear e1 e2 e3 e4 e5 e6 e7 e8 e9 e10 e11;go_in;obtain⟨x0,x1,x2,x3⟩:=S0.out.xs;obtain⟨⟨z0,z1,z2,z3⟩,hfz⟩:=S0.out.zs;obtain⟨hB9,HR9⟩:=S0.out.bad (Nat.le_trans hlo (Nat.le_add_right _ _)) (Nat.le_add_right _ _) (v:=0) (code:=3) (HP3.out) (by decide);have HE:=AA (AB hB9);have HR:=AA HR9;clear hB9 HR9;go_wp2_with ((try simp only[Exit.inBlock,Exit.then]);with_reducible refine bodyPost_ret (v:= .tuple #[.agg #[_,_,_,_], .int .i64 (0), .int .i64 (3)]) ?_ rfl HR.out;obtain⟨E0,E1,E2,E3⟩:=HE.out;simp[results,Tryz.results55,go_sem,E0,E1,E2,E3])
def Lu (lo:Nat) (b:Bool) (v:Value) (w:World) (k:AH):Prop:=b=true∨∃m i e c,v= .agg #[m,i,e,c]∧Ct lo w m i e c k
theorem Lu.below {lo:Nat} {b:Bool} {v:Value} {w w':World} {k:AH} (h:Lu lo b v w k) (hb:Below w.heap.size w w'):Lu lo b v w' k:=h.imp id fun⟨m,i,e,c,h1,h2⟩=>⟨m,i,e,c,h1,h2.below hb⟩
theorem Lu.far {lo g:Nat} {b:Bool} {v:Value} {w w':World} {k:AH} {cu:Array Value} (h:Lu lo b v w k) (hg:w.grownBy w' (some g)) (hB:w.heap[g]? =some (.cells cu 27 (0,0))):Lu lo b v w' k:=h.imp id fun⟨m,i,e,c,h1,h2⟩=>⟨m,i,e,c,h1,h2.far hg hB (by decide) (by decide) (by decide) (by decide) (by decide) (by decide)⟩
def QK (lo:Nat) (w:World) (m i e c:Value) (k:AH) (y:Int):Prop:=Vs m i e c∧(y=0→Ct lo w m i e c k)
theorem QK.below {lo:Nat} {w w':World} {m i e c:Value} {k:AH} {y:Int} (h:QK lo w m i e c k y) (hb:Below w.heap.size w w'):QK lo w' m i e c k y:=⟨h.1,fun h0=>(h.2 h0).below hb⟩
theorem QK.far {lo g:Nat} {w w':World} {m i e c:Value} {k:AH} {y:Int} {cu:Array Value} (h:QK lo w m i e c k y) (hg:w.grownBy w' (some g)) (hB:w.heap[g]? =some (.cells cu 27 (0,0))):QK lo w' m i e c k y:=⟨h.1,fun h0=>(h.2 h0).far hg hB (by decide) (by decide) (by decide) (by decide) (by decide) (by decide)⟩
def Jd (lo:Nat) (v:Value) (w:World) (k:AH) (x y:Int):Prop:=∃m i e c,v= .tuple #[.agg #[m,i,e,c], .int .i64 x, .int .i64 y]∧QK lo w m i e c k y
def NB (lo:Nat) (v:Value) (w:World) (k:AH) (y:Int):Prop:=∃m i e c,v= .agg #[m,i,e,c]∧QK lo w m i e c k y
theorem Jd.below {lo:Nat} {v:Value} {w w':World} {k:AH} {x y:Int} (h:Jd lo v w k x y) (hb:Below w.heap.size w w'):Jd lo v w' k x y:=by obtain⟨m,i,e,c,h1,h2⟩:=h;exact⟨m,i,e,c,h1,h2.below hb⟩
theorem Jd.far {lo g:Nat} {v:Value} {w w':World} {k:AH} {x y:Int} {cu:Array Value} (h:Jd lo v w k x y) (hg:w.grownBy w' (some g)) (hB:w.heap[g]? =some (.cells cu 27 (0,0))):Jd lo v w' k x y:=by obtain⟨m,i,e,c,h1,h2⟩:=h;exact⟨m,i,e,c,h1,h2.far hg hB⟩
theorem NB.below {lo:Nat} {v:Value} {w w':World} {k:AH} {y:Int} (h:NB lo v w k y) (hb:Below w.heap.size w w'):NB lo v w' k y:=by obtain⟨m,i,e,c,h1,h2⟩:=h;exact⟨m,i,e,c,h1,h2.below hb⟩
theorem NB.far {lo g:Nat} {v:Value} {w w':World} {k:AH} {y:Int} {cu:Array Value} (h:NB lo v w k y) (hg:w.grownBy w' (some g)) (hB:w.heap[g]? =some (.cells cu 27 (0,0))):NB lo v w' k y:=by obtain⟨m,i,e,c,h1,h2⟩:=h;exact⟨m,i,e,c,h1,h2.far hg hB⟩
def Fl (lo:Nat) (b:Bool) (v:Value) (w:World) (k:AH) (y:Int):Prop:=∃q,v= .pointer (some ⟨q,0,none⟩)∧lo≤q∧if b=true then ∃m i e c,w.heap[q]? =some (.cells #[m,i,e,c] 27 (0,0))∧QK lo w m i e c k y else w.heap[q]? =some (.cells #[.slice none 0 0, .slice none 0 0, .slice none 0 0, .slice none 0 0] 27 (0,0))
theorem Fl.below {lo:Nat} {b:Bool} {v:Value} {w w':World} {k:AH} {y:Int} (h:Fl lo b v w k y) (hb:Below w.heap.size w w'):Fl lo b v w' k y:=by
 obtain⟨q,h0,h1,h2⟩:=h;refine⟨q,h0,h1,?_⟩;cases b
 ·exact AG h2 hb
 ·obtain⟨m,i,e,c,h3,h4⟩:=h2
  exact⟨m,i,e,c,AG h3 hb,h4.below hb⟩
theorem Fl.stay {lo:Nat} {v:Value} {w w':World} {k:AH} {y:Int} (h:Fl lo false v w k y) (hf:VN w w'):Fl lo false v w' k y:=by obtain⟨q,h0,h1,h2⟩:=h;exact⟨q,h0,h1,(hf q _ h2).trans h2⟩
theorem QD {mv iv ev cv:Value} {k:AH} {w:World} (h:L6 w mv iv ev cv k) (hk:DV k) (call:AM) (he:0≤call.e∧call.e<3) (hnm:call.nm.size≤maxLen) (hcc:call.c≤9223372036854775807):
 Calls prog 33 #[.agg #[mv,iv,ev,cv], .agg call.cs] w (NZ w (AO k call)):=by
 have CDo:=AA (fun(lo:Nat) (W:World) (m1 i1 e1 c1:Value) (h:Ct lo W m1 i1 e1 c1 k) (hlo:lo≤W.heap.size)=>TL h hlo hk call he hnm hcc);have HR:=AA h;have HKk:=AA hk;have HN:=AA (@MG k call);generalize AO k call=res at CDo HN ⊢;obtain⟨kr,vr,nr⟩:=res;obtain⟨ck,ce,ca,cb,cc,nm⟩:=call;simp only[AM.cs] at CDo ⊢;obtain⟨B0,B1,B2,hb0,hs0⟩:=Kd w (.cells #[mv,iv,ev,cv] 27) (.cells #[.int .i64 ck, .int .i64 ce, .int .i64 ca, .int .i64 cb, .int .i64 cc, .string nm] 48) (.cells #[.slice none 0 0, .slice none 0 0, .slice none 0 0, .slice none 0 0] 27);have CC:=AA (fun W (hW:Below (((w.alloc (.cells #[mv,iv,ev,cv] 27)).alloc (.cells #[.int .i64 ck, .int .i64 ce, .int .i64 ca, .int .i64 cb, .int .i64 cc, .string nm] 48)).alloc (.cells #[.slice none 0 0, .slice none 0 0, .slice none 0 0, .slice none 0 0] 27)).heap.size _ W)=>QC mv iv ev cv k W ((HR.out.below hb0).below hW) HKk.out);clear he hnm hcc h hk;go_in;go_wp2_with fail;generalize((w.alloc _).alloc _).alloc _=W0 at*;obtain⟨x0,x1,x2,x3⟩:=AB B0;obtain⟨y0,y1,y2,y3,y4,y5⟩:=IR B1;have hg0:=Aq B0;have hb0':=Aq B1;have HB0:=AA hb0;have HB:=AA (And.intro B0 B2);clear hb0 B0 B1 B2;have hb0:=hb0';clear hb0';refine Cz 12 26 (fun ix=>ix==3||ix==9) [.a #[mv,iv,ev,cv], .z, .a #[.int .i64 ck, .int .i64 ce, .int .i64 ca, .int .i64 cb, .int .i64 cc, .string nm], .z, .z, .z, .i vr, .i nr, .z, .z, .i vr, .i nr] (fun ll ix vv ww=>match ix with
  |1=>Lu W0.heap.size (ll 3) vv ww k
  |3=>Jd W0.heap.size vv ww kr vr nr
  |4=>Jd W0.heap.size vv ww kr vr nr
  |5=>NB W0.heap.size vv ww kr nr
  |8=>Fl W0.heap.size (ll 9) vv ww kr nr
  |_=>True) (fun ll ww=>Below W0.heap.size W0 ww) ?_ ?_ ?_ ?_ ?_ ?_
 ·exact Ao (Below.refl _ _) 1
 ·intro j hj ll i vv wz ww' hi hS hLi hLj hbz hz
  match j,hj with
  |1,_=>exact(Lu.below (by rw[ER (by rintro rfl;exact absurd hS (by decide))];exact hz) hbz)
  |3,_=>exact(Jd.below hz hbz)
  |4,_=>exact(Jd.below hz hbz)
  |5,_=>exact(NB.below hz hbz)
  |8,_=>exact(Fl.below (by rw[ER (by rintro rfl;exact absurd hS (by decide))];exact hz) hbz)
  |0,_|2,_|6,_|7,_|9,_|10,_|11,_=>exact hz
 ·intro ll i wz ww' hi hS hLi hbz hg
  exact hg.trans (hbz.mono hg.size)
 ·intro i hi hS o ho a wx Hb ll Hd HL hG K HK
  have mc0:=bc hG hg0 x0;have mc1:=bc hG hg0 x1;have mc2:=bc hG hg0 x2;have mc3:=bc hG hg0 x3;have mc4:=bc hG hb0 y0;have mc5:=bc hG hb0 y1;have mc6:=bc hG hb0 y2;have mc7:=bc hG hb0 y3;have mc8:=bc hG hb0 y4;have mc9:=bc hG hb0 y5
  match i,hi,hS with
  |0,_,_=>exact Je ho HK Hb Hd HL (hl:=MY (by assumption) (by assumption) (by assumption) (by assumption))
  |1,_,_=>exact Vw ho HK Hb Hd HL (CC.out _ hG) (by rintro r w_ ⟨m',i',e',c',rfl,hO,hb2⟩;exact⟨_,rfl,(.inr ⟨m',i',e',c',rfl,hO.lower hG.size⟩),hb2⟩)
  |2,_,_=>exact Je ho HK Hb Hd HL (hl:=Vn (by assumption) (by assumption) (by assumption) (by assumption) (by assumption) (by assumption))
  |10,_,_|11,_,_=>exact Tk ho HK Hb Hd HL
  |3,_,hs|9,_,hs=>exact absurd hs (by decide)
  |4,_,_=>clear mc0 mc1 mc2 mc3 mc4 mc5 mc6 mc7 mc8 mc9;obtain rfl:=So_ ho;have d3:Jd W0.heap.size (a.tmps[14]?.getD undef) wx kr vr nr:=Ec Hd HL 3;have u3:ll 3=true:=HL.out.2.1 3 (by kernel_rfl);have u9:=Cl HL 9;clear Hd Hb;refine Aa.of rfl ?_;go_simp;exact HK.out _ _ d3 (Below.refl _ _)
  |5,_,_=>clear mc0 mc1 mc2 mc3 mc4 mc5 mc6 mc7 mc8 mc9;obtain rfl:=So_ ho;have d4:Jd W0.heap.size (a.tmps[10]?.getD undef) wx kr vr nr:=Ec Hd HL 4;have u9:=Cl HL 9;clear Hd Hb;obtain⟨m',i',e',c',d4,hO⟩:=d4;refine Aa.of rfl ?_;go_simp;exact HK.out _ _ ⟨_,_,_,_,rfl,hO⟩ (Below.refl _ _)
  |6,_,_=>clear mc0 mc1 mc2 mc3 mc4 mc5 mc6 mc7 mc8 mc9;obtain rfl:=So_ ho;have d4:Jd W0.heap.size (a.tmps[10]?.getD undef) wx kr vr nr:=Ec Hd HL 4;clear Hd Hb;obtain⟨m',i',e',c',d4,hO⟩:=d4;refine Aa.of rfl ?_;go_simp;exact HK.out _ _ rfl (Below.refl _ _)
  |7,_,_=>clear mc0 mc1 mc2 mc3 mc4 mc5 mc6 mc7 mc8 mc9;obtain rfl:=So_ ho;have d4:Jd W0.heap.size (a.tmps[10]?.getD undef) wx kr vr nr:=Ec Hd HL 4;clear Hd Hb;obtain⟨m',i',e',c',d4,hO⟩:=d4;refine Aa.of rfl ?_;go_simp;exact HK.out _ _ rfl (Below.refl _ _)
  |8,_,_=>clear mc0 mc1 mc2 mc3 mc4 mc5 mc6 mc7 mc8 mc9;obtain rfl:=So_ ho;have u9:=Cl HL 9;clear Hd Hb;refine Aa.of rfl ?_;go_simp;exact HK.out _ _ ⟨_,rfl,hG.size,by rw[ER (by decide),u9];exact heap_alloc_new _ _⟩ (AF _ _)
 ·intro i hi hS o ho a wx Hb ll Hd HL hG K HK
  match i,hi,hS with
  |0,_,hs|1,_,hs|2,_,hs|4,_,hs|5,_,hs|6,_,hs|7,_,hs|8,_,hs|10,_,hs|11,_,hs=>exact absurd hs (by decide)
  |3,_,_=>
   obtain rfl:=So_ ho;have d1:Lu W0.heap.size (ll 3) (a.tmps[12]?.getD undef) wx k:=Ec Hd HL 1;have d2:(a.tmps[13]?.getD undef)= .agg #[.int .i64 ck, .int .i64 ce, .int .i64 ca, .int .i64 cb, .int .i64 cc, .string nm]:=Ec Hd HL 2;have u9:=Cl HL 9;clear Hd Hb
   rcases d1 with d1|⟨m',i',e',c',d1,hO⟩
   ·rw[HL.out.1] at d1;cases d1
   refine Aa.of rfl ?_;go_simp;refine(CDo.out _ _ _ _ _ _ hO hG.size).mono ?_;rintro r w_ ⟨m2,i2,e2,c2,rfl,hs,hk2,hb2,hf⟩;exact HK.out _ _ ⟨m2,i2,e2,c2,rfl,hs,hk2⟩ (hG.trans hb2) (fun j hji hjn hjl hu=>match j,hjn with
    |0,_|2,_|6,_|7,_|9,_|10,_|11,_=>hu
    |1,_=> .inl (by rw[En])
    |3,_=>absurd rfl hji
    |4,_=>absurd (HL.out.2.2 4 3 (hjl) (by kernel_rfl)) (by rw[HL.out.1];decide)
    |5,_=>absurd (HL.out.2.2 4 3 (HL.out.2.2 5 4 (hjl) (by kernel_rfl)) (by kernel_rfl)) (by rw[HL.out.1];decide)
    |8,_=>by
     change Fl _ (ll 9) _ _ _ _ at hu
     rw[u9] at hu
     show Fl _ (Gy ll 3 9) _ _ _ _
     rw[ER (by decide),u9];exact Fl.stay hu hf)
  |9,_,_=>
   obtain rfl:=So_ ho;have d8:Fl W0.heap.size (ll 9) (a.tmps[7]?.getD undef) wx kr nr:=Ec Hd HL 8;have d5:NB W0.heap.size (a.tmps[15]?.getD undef) wx kr nr:=Ec Hd HL 5;have u3:ll 3=true:=HL.out.2.1 3 (by kernel_rfl);clear Hd Hb;obtain⟨qb,e10,hq1,hq2⟩:=d8;rw[HL.out.1] at hq2;replace hq2:wx.heap[qb]? =some (.cells #[.slice none 0 0, .slice none 0 0, .slice none 0 0, .slice none 0 0] 27 (0,0)):=hq2;obtain⟨m',i',e',c',d5,hO⟩:=d5;obtain⟨va,vn,vc,wa,wn,wc,xa,xn,xc,ya,yn,yc,rfl,rfl,rfl,rfl⟩:=hO.1;obtain⟨c0,c1_,c2,c3⟩:=AB hq2;have fq:=AI hq2;have hgr:=AA (BJ wx qb (.slice va vn vc) (.slice wa wn wc) (.slice xa xn xc) (.slice ya yn yc));have E10:=AA e10;have Hq:=AA hq2;have HO:=AA hO;clear hq2 hO;refine Aa.of rfl ?_;go_simp;exact HK.out undef _ trivial (AN hG hgr.out hq1 hG.size) (fun j hji hjn hjl hu=>match j,hjn with
    |0,_|2,_|6,_|7,_|10,_|11,_=>hu
    |1,_=>by
     show Lu _ (Gy ll 9 3) _ _ _
     rw[ER (by decide)];exact Lu.far hu hgr.out Hq.out
    |3,_=>Jd.far hu hgr.out Hq.out
    |4,_=>Jd.far hu hgr.out Hq.out
    |5,_=>NB.far hu hgr.out Hq.out
    |8,_=>⟨qb,E10.out,hq1,by rw[En];exact⟨_,_,_,_,DB Hq.out,HO.out.far hgr.out Hq.out⟩⟩
    |9,_=>absurd rfl hji)
 ·intro vs wx ll hall hR hG
  have q8:Fl W0.heap.size (ll 9) (vs 8) wx kr nr:=BT hR 8;have q10:(vs 10)= .int .i64 vr:=BT hR 10;have q11:(vs 11)= .int .i64 nr:=BT hR 11;clear hR;simp only[DS,BW,List.range,List.range.loop,List.foldl_cons,List.foldl_nil,q10,q11];simp;generalize vs 8=z8 at q8 ⊢;clear q10 q11;obtain⟨qb,rfl,hq1,hq2⟩:=q8;rw[hall 9 (by decide),if_pos rfl] at hq2;obtain⟨m',i',e',c',hqB,hO⟩:=hq2;clear hall x0 x1 x2 x3 y0 y1 y2 y3 y4 y5;obtain⟨va,vn,vc,wa,wn,wc,xa,xn,xc,ya,yn,yc,rfl,rfl,rfl,rfl⟩:=hO.1;obtain⟨c0,c1_,c2,c3⟩:=AB hqB;have B0':=AG HB.out.1 hG;have B2':=AG HB.out.2 hG;have HWx:=AA (HB0.out.trans (hG.mono HB0.out.size))
  by_cases h0:nr=0
  ·subst h0
   have hK:=hO.2 rfl;have hfz:=AI B2';obtain⟨z0,z1,z2,z3⟩:=AB B2';obtain⟨E0,E1,E2,E3⟩:=Gv (m':= .slice va vn vc) (i':= .slice wa wn wc) (e':= .slice xa xn xc) (c':= .slice ya yn yc) B2';have HE:=AA (And.intro E0 (And.intro E1 (And.intro E2 E3)));have hgr:=BJ wx (w.heap.size+1+1) (.slice va vn vc) (.slice wa wn wc) (.slice xa xn xc) (.slice ya yn yc);have HR4:=AA (show Ct w.heap.size _ (.slice va vn vc) (.slice wa wn wc) (.slice xa xn xc) (.slice ya yn yc) kr from(hK.far hgr B2' (by decide) (by decide) (by decide) (by decide) (by decide) (by decide)).lower HB0.out.size);have HB4:=AA (AN HWx.out hgr (by omega) HWx.out.size);clear E0 E1 E2 E3 hO hK hgr B0' B2' HN hG hqB;go_wp2_with fail;obtain⟨E0,E1,E2,E3⟩:=HE.out;exact bodyPost_ret (v:= .tuple #[.agg #[_,_,_,_],_,_]) (by simp[results,Tryz.results33,go_sem,E0,E1,E2,E3]) rfl ⟨_,_,_,_,rfl,HR4.out,HB4.out⟩
  ·have t0:(nr !=0)=true:=by simp[h0]
   have hN:=HN.out h0;simp only[Prod.mk.injEq,and_true] at hN;obtain⟨rfl,rfl⟩:=hN;obtain⟨x0,x1,x2,x3⟩:=AB B0';have CC2:=CC.out wx hG;clear hO hqB c0 c1_ c2 c3;go_wp2_with fail;refine CC2.mono ?_;rintro r w4 ⟨m4,i4,e4,c4,rfl,O4,b4⟩;have B4:=AG B2' b4;have hfz:=AI B4;obtain⟨z0,z1,z2,z3⟩:=AB B4;obtain⟨E0,E1,E2,E3⟩:=Gv (m':=m4) (i':=i4) (e':=e4) (c':=c4) B4;have HE:=AA (And.intro E0 (And.intro E1 (And.intro E2 E3)));have hgr:=BJ w4 (w.heap.size+1+1) m4 i4 e4 c4;have HR4:=AA (show Ct w.heap.size _ m4 i4 e4 c4 kr from(O4.far hgr B4 (by decide) (by decide) (by decide) (by decide) (by decide) (by decide)).lower HWx.out.size);have HB4:=AA (AN (HWx.out.trans (b4.mono HWx.out.size)) hgr (by omega) (by have:=HWx.out.size;have:=b4.size;omega));obtain⟨⟨_,_,_,rfl⟩,⟨_,_,_,rfl⟩,⟨_,_,_,rfl⟩,⟨_,_,_,rfl⟩⟩:=O4.shapes;clear E0 E1 E2 E3 O4 b4 B4 hgr B0' B2' x0 x1 x2 x3 hG;go_wp2_with fail;obtain⟨E0,E1,E2,E3⟩:=HE.out;exact bodyPost_ret (v:= .tuple #[.agg #[_,_,_,_],_,_]) (by simp[results,Tryz.results33,go_sem,E0,E1,E2,E3]) rfl ⟨_,_,_,_,rfl,HR4.out,HB4.out⟩
def Uu (w:World) (res:Kk) (r:Ending) (w':World):Prop:=∃m i e c,r= .returned (.tuple #[.agg #[m,i,e,c], .int .i64 res.2.1, .bool (res.2.2==0)])∧Ct w.heap.size w' m i e c res.1∧Below w.heap.size w w'
theorem QL {m i e c:Value} {k:AH} {w:World} (h:L6 w m i e c k) (hk:DV k) (kind a b x:Int) (hx:x≤9223372036854775807):
 Calls prog 12 #[.agg #[m,i,e,c], .int .i64 kind, .int .i64 a, .int .i64 b, .int .i64 x] w (Uu w (AO k (DP kind a b x))):=by
 obtain⟨N0,N1,hb0,hs0⟩:=Mr w (.cells #[m,i,e,c] 27) (.cells #[.slice none 0 0, .slice none 0 0, .slice none 0 0, .slice none 0 0] 27);have C:=QD (h.below hb0) hk (DP kind a b x) ⟨Int.le_refl 0,show(0:Int)<3 by decide⟩ (show gA.size≤maxLen by decide) hx;simp only[AM.cs,DP,gA] at C ⊢;generalize AO k ⟨kind,0,a,b,x,⟨#[97]⟩⟩=res at C ⊢;obtain⟨kr,vr,nr⟩:=res;have C:=AA C;clear h hk hx;obtain⟨x0,x1,x2,x3⟩:=AB N0;go_in;go_wp2_with fail;generalize(w.alloc _).alloc _=W0 at*;refine C.out.mono ?_;rintro r w1 ⟨m1,i1,e1,c1,rfl,O1,b1⟩;obtain⟨⟨ma,mn,mc,rfl⟩,⟨ia,iN,ic,rfl⟩,⟨ea,en,ec,rfl⟩,⟨qa,qn,qc,rfl⟩⟩:=O1.shapes;have N2:=heap_alloc_new w1 (.cells #[.slice ma mn mc, .slice ia iN ic, .slice ea en ec, .slice qa qn qc] 27);have b2:=AF w1 (.cells #[.slice ma mn mc, .slice ia iN ic, .slice ea en ec, .slice qa qn qc] 27);have B2':=AG (AG N1 b1) b2;have O2:=O1.below b2;have HW:=AA (hb0.trans ((b1.trans (b2.mono b1.size)).mono hb0.size));have hfz:=AI B2';obtain⟨z0,z1,z2,z3⟩:=AB B2';obtain⟨p0,p1,p2,p3⟩:=AB N2;obtain⟨E0,E1,E2,E3⟩:=Gv (m':= .slice ma mn mc) (i':= .slice ia iN ic) (e':= .slice ea en ec) (c':= .slice qa qn qc) B2';have HE:=AA (And.intro E0 (And.intro E1 (And.intro E2 E3)));have hgr:=BJ (w1.alloc (.cells #[.slice ma mn mc, .slice ia iN ic, .slice ea en ec, .slice qa qn qc] 27)) (w.heap.size+1) (.slice ma mn mc) (.slice ia iN ic) (.slice ea en ec) (.slice qa qn qc);have HR4:=AA (show Ct w.heap.size _ (.slice ma mn mc) (.slice ia iN ic) (.slice ea en ec) (.slice qa qn qc) kr from(O2.far hgr B2' (by decide) (by decide) (by decide) (by decide) (by decide) (by decide)).lower hb0.size);have HB4:=AA (AN HW.out hgr (by omega) HW.out.size);clear E0 E1 E2 E3 hgr B2' N0 N1 N2 x0 x1 x2 x3 O1 O2 b1 b2 hb0 hs0 C;go_wp2_with fail;obtain⟨E0,E1,E2,E3⟩:=HE.out;exact bodyPost_ret (v:= .tuple #[.agg #[_,_,_,_],_,_]) (by simp[results,Tryz.results12,go_sem,E0,E1,E2,E3]) rfl ⟨_,_,_,_,rfl,HR4.out,HB4.out⟩
theorem Ct.past {lo:Nat} {w w':World} {m i e c:Value} {k:AH} {row:Option Nat} (h:Ct lo w m i e c k) (hg:w.grownBy w' row) (hr:∀b,row=some b→b<lo):Ct lo w' m i e c k:=by
 obtain⟨⟨vs,h1,h2,h3⟩,h4,⟨ps,h5,h6,h7⟩,h8⟩:=h;exact⟨⟨vs,Do h1 hg hr,h2.mono fun _ _ x=>Do x hg hr,h3⟩,Do h4 hg hr,⟨ps,Do h5 hg hr,h6.mono fun _ _ x=>⟨Do x.1 hg hr,x.2⟩,h7⟩,Do h8 hg hr⟩
theorem OG {lo:Nat} {w:World} {v:Value} (h:w.ownsRow lo 28 1 v 16 (List.replicate 16 (.slice none 0 0))):AV lo w v (List.replicate 16 (.slice none 0 0)) (List.replicate 16 []):=by
 refine⟨h,⟨rfl,fun i x y hx hy=>?_⟩,fun i j u u' _ hi hj=>?_⟩
 ·rw[List.getElem?_replicate] at hx hy
  split at hx
  ·rw[if_pos (by assumption)] at hy
   cases hx;cases hy;exact World.ownsRow_nil _ _ _ _
  ·cases hx
 ·rw[List.getElem?_replicate] at hi
  split at hi
  ·cases hi;intro b hb;simp[Value.ownBlock] at hb
  ·cases hi
theorem PM (w:World) (s:ByteArray) (t:TypeId):BG (w.alloc (.cells #[.string s] t)) (.slice (some ⟨w.heap.size,0,none⟩) 1 1) [s]:=
 Rd.newsAt w #[.string s] t 1 1 _ rfl rfl (by simp[maxLen])
theorem Sa (w:World) (a b c:ByteArray) (t u:TypeId):
 G4 ((((w.alloc (.cells #[.string a] t)).alloc (.cells #[.string b] t)).alloc (.cells #[.string c] t)).alloc (.cells #[.slice (some ⟨w.heap.size,0,none⟩) 1 1, .slice (some ⟨w.heap.size+1,0,none⟩) 1 1, .slice (some ⟨w.heap.size+1+1,0,none⟩) 1 1] u))
  (.slice (some ⟨w.heap.size+1+1+1,0,none⟩) 3 3) [[a],[b],[c]]:=by
 have h1:=PM w a t;have h2:=PM (w.alloc (.cells #[.string a] t)) b t;have h3:=PM ((w.alloc (.cells #[.string a] t)).alloc (.cells #[.string b] t)) c t;simp only[World.size_alloc] at h2 h3;refine⟨[.slice (some ⟨w.heap.size,0,none⟩) 1 1, .slice (some ⟨w.heap.size+1,0,none⟩) 1 1, .slice (some ⟨w.heap.size+1+1,0,none⟩) 1 1],?_,rfl,?_⟩
 ·exact Rd.newsAt _ #[_,_,_] u 1 3 _ (by simp) rfl (by simp[maxLen])
 ·intro i x y hx hy
  match i,hx,hy with
  |0,hx,hy=>simp at hx hy;subst hx hy;exact((A6.below h1 (AF _ _)).below (AF _ _)).below (AF _ _)
  |1,hx,hy=>simp at hx hy;subst hx hy;exact(A6.below h2 (AF _ _)).below (AF _ _)
  |2,hx,hy=>simp at hx hy;subst hx hy;exact A6.below h3 (AF _ _)
def JT:List (List ByteArray):=[[gA],[gB],[gC]]
theorem J6:∀ts∈JT,Ax ts=true:=by
 intro ts h;simp only[JT,List.mem_cons,List.not_mem_nil,or_false] at h
 rcases h with rfl|rfl|rfl<;>decide+kernel
theorem Jo:∀ts∈JT,Dr ts:=fun ts h=>Fa (J6 ts h)
theorem LO:KW JT=Ch 0:=by kernel_rfl
def nP (l:Int) (n k:Nat):BU:=⟨Ch n,List.replicate 16 [],(List.range k).map (fun j=>((j+1:Nat):Int)),List.replicate 16 ⟨0,0,false⟩,0,l⟩
theorem U6 (l:Int):nP l 15 4=GF l:=by unfold nP GF;rw[Mg];rfl
def Uw (w:World) (l:Int) (r:Ending) (w':World):Prop:=∃m i e c s lo q,r= .returned (.tuple #[Cu m i e c s lo q 0 l, .bool true])∧IP w.heap.size w' m i e c s lo q (GF l)∧Below w.heap.size w w'
def Tq (r:Ending):Prop:=r= .returned (.tuple #[Cu (.slice none 0 0) (.slice none 0 0) (.slice none 0 0) (.slice none 0 0) (.slice none 0 0) (.slice none 0 0) (.slice none 0 0) 0 0, .bool false])
theorem Pf (l:Int) (w:World) (h:Bv l 1 6=false):Calls prog 5 #[.int .i64 l] w fun r w'=>Tq r∧Below w.heap.size w w':=by have N0:=heap_alloc_new w (.cells #[.slice none 0 0, .slice none 0 0, .slice none 0 0, .slice none 0 0, .slice none 0 0, .slice none 0 0, .slice none 0 0, .int .i64 0, .int .i64 0] 31);go_in;go_wp2_with fail;refine(EU _ _ _ _).mono ?_;rintro e w' ⟨rfl,rfl⟩;rw[h];have f0:=AI N0;obtain⟨x0,x1,x2,x3,x4,x5,x6,x7,x8⟩:=Ad N0;go_wp2_with fail;exact bodyPost_ret (v:= .tuple #[.agg #[_,_,_,_,_,_,_,_,_],_]) (by simp[results,Tryz.results5,go_sem,x0,x1,x2,x3,x4,x5,x6,x7,x8]) rfl ⟨rfl,AF _ _⟩
theorem Nm:(madeCells (Value.agg #[.int .i64 0, .int .i64 0, .bool false]).cells (16*3)).toList=Bf CQ (List.replicate 16 ⟨0,0,false⟩):=by kernel_rfl
def Kn (lo:Nat) (v:Value) (w:World) (m i e c:Value) (l:Int):Prop:=∃s q,v= .agg #[m,i,e,c,s, .slice none 0 0,q, .int .i64 0, .int .i64 l]∧AV lo w s (List.replicate 16 (.slice none 0 0)) (List.replicate 16 [])∧AC lo 73 3 CQ w q (List.replicate 16 ⟨0,0,false⟩)
theorem Kn.below {lo:Nat} {v:Value} {w w':World} {m i e c:Value} {l:Int} (h:Kn lo v w m i e c l) (hb:Below w.heap.size w w'):Kn lo v w' m i e c l:=by obtain⟨s,q,h1,h2,h3⟩:=h;exact⟨s,q,h1,h2.below hb,h3.below hb⟩
def GT (lo:Nat) (v:Value) (w:World):Prop:=∃g,v= .pointer (some ⟨g,0,none⟩)∧lo≤g∧w.heap[g]? =some (.cells #[.slice none 0 0, .slice none 0 0, .slice none 0 0, .slice none 0 0, .slice none 0 0, .slice none 0 0, .slice none 0 0, .int .i64 0, .int .i64 0] 31 (0,0))
theorem GT.below {lo:Nat} {v:Value} {w w':World} (h:GT lo v w) (hb:Below w.heap.size w w'):GT lo v w':=by obtain⟨g,h1,h2,h3⟩:=h;exact⟨g,h1,h2,AG h3 hb⟩
theorem Ns {lo g:Nat} {w:World} {mv iv ev cv sv lv qv:Value} {l:Int} {n k:Nat} (h:Pe lo g w mv iv ev cv sv lv qv (nP l n k)) (hlo:lo≤w.heap.size) (hn:n≤15) (call:AM) (he:call.e=0) (hnm:call.nm.size≤maxLen) (hcc:call.c≤9223372036854775807) {v:Int} (hc:AO (Ch n) call=(Ch (n+1),v,0)):
 Calls prog 16 #[.pointer (some ⟨g,0,none⟩), .agg #[.int .i64 call.k, .int .i64 call.e, .int .i64 call.a, .int .i64 call.b, .int .i64 call.c, .string call.nm]] w
  (fun r w'=>r= .returned (.int .i64 v)∧(∃m i e c,Pe lo g w' m i e c sv lv qv (nP l (n+1) k)∧Ct w.heap.size w' m i e c (Ch (n+1)))∧Below lo w w'∧w.grownBy w' (some g)):=by
 refine(TS h hlo (QR n hn) call (by omega) (by omega) hnm hcc).mono ?_;rintro r w' ⟨h1,h2,h3⟩;have e:AO (nP l n k).kern call=(Ch (n+1),v,0):=hc;rw[e] at h1 h2;exact⟨h1,h2,h3⟩
theorem Nz {w:World} {lo e sz n:Nat} {v:Value} {xs:List Value} (h:w.ownsRow lo e sz v n xs):∃a n c,v= .slice a n c:=by
 rcases h.2 with⟨rfl,_⟩|⟨g',cap,cur,rfl,_⟩
 ·exact⟨_,_,_,rfl⟩
 ·exact⟨_,_,_,rfl⟩
def Fh (k:Nat):List Int:=(List.range k).map fun j=>((j+1:Nat):Int)
theorem Ma (k:Nat):Fh (k+1)=Fh k++[((k+1:Nat):Int)]:=by simp[Fh,List.range_succ]
theorem JQ (k:Nat):(Fh k).length=k:=by simp[Fh]
theorem U7 {lo B g n k:Nat} {w3 w4 w5:World} {m i e c sv lv pv o':Value} {l fr:Int} (I3:Pe lo g w3 m i e c sv lv pv (nP l n k)) (S3:AV lo w3 sv (List.replicate 16 (.slice none 0 0)) (List.replicate 16 [])) (K3:Ct B w3 m i e c (Ch n)) (hB:lo≤B)
 (hr:∀b,lv.ownBlock=some b→b<B) (b4:Below w3.heap.size w3 w4) (q1:w5.ownsRow lo 3 1 o' (k+1) ((Fh k).map (Value.int .i64)++[.int .i64 fr])) (q2:w4.grownBy w5 lv.ownBlock) (hfr:fr=((k+1:Nat):Int)):
 w5.heap[g]? =some (.cells #[m,i,e,c,sv,lv,pv, .int .i64 0, .int .i64 l] 31 (0,0))∧Pe lo g (w5.setCell ⟨g,5,none⟩ o') m i e c sv o' pv (nP l n (k+1))∧AV lo (w5.setCell ⟨g,5,none⟩ o') sv (List.replicate 16 (.slice none 0 0)) (List.replicate 16 []):=by
 have I4:=I3.below b4;have S4:=S3.below b4;have hne:=Bs I4.own.low I4.blk (by decide);have hB5:=(q2.block g (Aq I4.blk) (fun e=>hne e.symm)).trans I4.blk;have gr:=Aj w5 g 5 o';have S6:=(OG (An S4.1 q2 (BA S4.1 I4.own.low (by decide)).ne)).far gr hB5 (by decide) (by decide);refine⟨hB5,⟨?_,I3.glo,⟨(((K3.below b4).past q2 hr).lower hB).far gr hB5 (by decide) (by decide) (by decide) (by decide) (by decide) (by decide),⟨_,S6⟩,?_,EN (An I4.own.pgs q2 (BA I4.own.pgs I4.own.low (by decide)).ne) gr hB5 (by decide),I3.own.apart⟩⟩,S6⟩
 ·have:=heap_setCell_same w5 g 5 _ _ o' hB5
  simpa[nP] using this
 ·show AE lo _ o' (Fh (k+1))
  rw[Ma,←hfr];have:AE lo w5 o' (Fh k++[fr]):=by simpa[AE,JQ] using q1
  exact EN this gr hB5 (by decide)
theorem OW (l:Int) (w:World) (h1:1≤l) (h6:l≤6):Calls prog 5 #[.int .i64 l] w (Uw w l):=by
 have N0:=heap_alloc_new w (.cells #[.slice none 0 0, .slice none 0 0, .slice none 0 0, .slice none 0 0, .slice none 0 0, .slice none 0 0, .slice none 0 0, .int .i64 0, .int .i64 0] 31);have b0:=AF w (.cells #[.slice none 0 0, .slice none 0 0, .slice none 0 0, .slice none 0 0, .slice none 0 0, .slice none 0 0, .slice none 0 0, .int .i64 0, .int .i64 0] 31);have hs0:(w.alloc (.cells #[.slice none 0 0, .slice none 0 0, .slice none 0 0, .slice none 0 0, .slice none 0 0, .slice none 0 0, .slice none 0 0, .int .i64 0, .int .i64 0] 31)).heap.size=w.heap.size+1:=by simp
 go_in;go_wp2_with fail;refine(EU _ _ _ _).mono ?_;rintro e w' ⟨rfl,rfl⟩;rw[show Bv l 1 6=true from Ac.2 ⟨h1,h6⟩];generalize w.alloc _=W0 at*;have Hs0:=AA hs0;clear hs0;go_wp2_with fail;have hr3:=Sa W0 ⟨#[97]⟩ ⟨#[98]⟩ ⟨#[99]⟩ 9 40;have bn:=((FQ W0 (.cells #[.string ⟨#[97]⟩] 9) (.cells #[.string ⟨#[98]⟩] 9)).trans ((AF _ (.cells #[.string ⟨#[99]⟩] 9)).mono (FQ W0 _ _).size));replace bn:=bn.trans ((AF _ (.cells #[.slice (some ⟨W0.heap.size,0,none⟩) 1 1, .slice (some ⟨W0.heap.size+1,0,none⟩) 1 1, .slice (some ⟨W0.heap.size+1+1,0,none⟩) 1 1] 40)).mono bn.size);generalize(((W0.alloc _).alloc _).alloc _).alloc _=w5 at*;refine(Lw _ JT w5 hr3 rfl J6 Jo).mono ?_;rintro e w6 ⟨mk,ik,ek,ck,rfl,O6,b6⟩;rw[LO] at O6;obtain⟨⟨ma,mn,mc,rfl⟩,⟨ia,iN,ic,rfl⟩,⟨ea,en,ec,rfl⟩,⟨qa,qn,qc,rfl⟩⟩:=O6.shapes;have b7:=AF w6 (.cells #[.slice ma mn mc, .slice ia iN ic, .slice ea en ec, .slice qa qn qc] 27);have N7:=heap_alloc_new w6 (.cells #[.slice ma mn mc, .slice ia iN ic, .slice ea en ec, .slice qa qn qc] 27);have O7:=(O6.below b7).lower bn.size;have B7:=bn.trans ((b6.trans (b7.mono b6.size)).mono bn.size);go_wp2_with fail;generalize w6.heap.size=gk at N7 ⊢;generalize w6.alloc _=W7 at*;obtain⟨k0,k1,k2,k3⟩:=AB N7;have hgk:=Aq N7;have HO:=AA O7;have HB:=AA B7;have HN:=AA N0;have Hb:=AA b0;clear hr3 bn O6 b6 b7 N7 O7 B7 N0 b0;refine Am 6 64 [.a #[.slice ma mn mc, .slice ia iN ic, .slice ea en ec, .slice qa qn qc], .z, .z, .i l, .z, .z] (fun ix vv ww=>match ix with
  |1=>AV W7.heap.size ww vv (List.replicate 16 (.slice none 0 0)) (List.replicate 16 [])
  |2=>AC W7.heap.size 73 3 CQ ww vv (List.replicate 16 ⟨0,0,false⟩)
  |4=>Kn W7.heap.size vv ww (.slice ma mn mc) (.slice ia iN ic) (.slice ea en ec) (.slice qa qn qc) l
  |5=>GT W7.heap.size vv ww
  |_=>True) ?_ ?_ ?_
 ·intro i hi o ho a wx Hb Hd hG K HK
  have mc0:=bc hG hgk k0;have mc1:=bc hG hgk k1;have mc2:=bc hG hgk k2;have mc3:=bc hG hgk k3
  match i,hi with
  |0,_=>exact sL ho HK Hb Hd (hl:=MY (by assumption) (by assumption) (by assumption) (by assumption))
  |3,_=>exact sP ho HK Hb Hd
  |1,_=>clear mc0 mc1 mc2 mc3;obtain rfl:=So_ ho;clear Hd Hb;obtain⟨i0,hi0,hz0,hz1,hz2⟩:=info_parts Tryz.infoRow;obtain⟨w9,hrun,h3,h4⟩:=run_make_full (P:=prog) wx wx.heap.size 22 28 i0 _ 1 underlying22 hi0 hz0 hz1 .i64 .i64 16 (by rw[hz2];decide) (by decide) (Nat.le_refl _);have h5:=Below.of_grown h4;rw[KS (.slice none 0 0) rfl 16] at h3;have hrun':(Instr.makeSlice 22 (.int .i64 16) (.int .i64 16)).run prog wx= .ok (.slice (some ⟨wx.heap.size,0,none⟩) 16 16) w9:=hrun;clear hi0 hz0 hz1 hz2 hrun;refine Aa.of rfl ?_;go_simp;exact HK.out _ _ ((OG h3).lower hG.size) h5
  |2,_=>clear mc0 mc1 mc2 mc3;obtain rfl:=So_ ho;clear Hd Hb;obtain⟨i0,hi0,hz0,hz1,hz2⟩:=info_parts Tryz.infoPageK;obtain⟨w9,hrun,h3,h4⟩:=run_make_full (P:=prog) wx wx.heap.size 29 73 i0 _ 3 underlying29 hi0 hz0 hz1 .i64 .i64 16 (by rw[hz2];decide) (by decide) (Nat.le_refl _);have h5:=Below.of_grown h4;rw[Nm] at h3;have hrun':(Instr.makeSlice 29 (.int .i64 16) (.int .i64 16)).run prog wx= .ok (.slice (some ⟨wx.heap.size,0,none⟩) 16 16) w9:=hrun;clear hi0 hz0 hz1 hz2 hrun;refine Aa.of rfl ?_;go_simp;exact HK.out _ _ (Bd h3 hG.size) h5
  |4,_=>clear mc0 mc1 mc2 mc3;obtain rfl:=So_ ho;have d0:(a.tmps[24]?.getD undef)= .agg #[.slice ma mn mc, .slice ia iN ic, .slice ea en ec, .slice qa qn qc]:=Bx Hd 0;have d1:AV W7.heap.size wx (a.tmps[25]?.getD undef) (List.replicate 16 (.slice none 0 0)) (List.replicate 16 []):=Bx Hd 1;have d2:AC W7.heap.size 73 3 CQ wx (a.tmps[26]?.getD undef) (List.replicate 16 ⟨0,0,false⟩):=Bx Hd 2;have d3:(a.tmps[27]?.getD undef)= .int .i64 l:=Bx Hd 3;clear Hd Hb;generalize e25:a.tmps[25]?.getD undef=s' at d1;generalize e26:a.tmps[26]?.getD undef=q' at d2;have D1:=AA d1;have D2:=AA d2;obtain⟨_,_,rfl,_,_⟩:=d1.1.rd.shape;obtain⟨_,_,rfl,_,_⟩:=d2.rd.shape;clear d1 d2;refine Aa.of rfl ?_;go_simp;exact HK.out _ _ ⟨_,_,rfl,D1.out,D2.out⟩ (Below.refl _ _)
  |5,_=>clear mc0 mc1 mc2 mc3;obtain rfl:=So_ ho;clear Hd Hb;refine Aa.of rfl ?_;go_simp;exact HK.out _ _ ⟨_,rfl,hG.size,heap_alloc_new _ _⟩ (AF _ _)
 ·intro i hi vv wz ww' hbz hz
  match i,hi with
  |1,_=>exact(AV.below hz hbz)
  |2,_=>exact(AC.below hz hbz)
  |4,_=>exact(Kn.below hz hbz)
  |5,_=>exact(GT.below hz hbz)
  |0,_|3,_=>exact hz
 ·intro vs wx hR hG
  have q4:Kn W7.heap.size (vs 4) wx (.slice ma mn mc) (.slice ia iN ic) (.slice ea en ec) (.slice qa qn qc) l:=BT hR 4;have q5:GT W7.heap.size (vs 5) wx:=BT hR 5;clear hR;simp only[Ai,AQ,List.range,List.range.loop,List.foldl_cons,List.foldl_nil];simp;generalize vs 4=z4 at q4 ⊢;generalize vs 5=z5 at q5 ⊢;obtain⟨s',q',rfl,r1,r2⟩:=q4;obtain⟨g,rfl,hg7,hgB⟩:=q5;obtain⟨sa,sn,sc,rfl⟩:∃a n c,s'= .slice a n c:=by obtain⟨_,_,rfl,_,_⟩:=r1.1.rd.shape;exact⟨_,_,_,rfl⟩
  obtain⟨pa,pn,pc,rfl⟩:∃a n c,q'= .slice a n c:=by obtain⟨_,_,rfl,_,_⟩:=r2.rd.shape;exact⟨_,_,_,rfl⟩
  have hap:Ey (.slice ma mn mc) (.slice sa sn sc):=fun b hb hb'=>by obtain⟨us,hu⟩:=HO.out.1;have:=(World.ownsRow.lt hu.1 b hb).2;have:=(World.ownsRow.lt r1.1 b hb').1;omega
  have OP:IP W0.heap.size wx (.slice ma mn mc) (.slice ia iN ic) (.slice ea en ec) (.slice qa qn qc) (.slice sa sn sc) (.slice none 0 0) (.slice pa pn pc) (nP l 0 0):=⟨HO.out.below hG,⟨_,r1.lower HB.out.size⟩,World.ownsRow_nil _ _ _ _,Bd r2 HB.out.size,hap⟩;obtain⟨x0,x1,x2,x3,x4,x5,x6,x7,x8⟩:=Ad hgB;have fz:=AI hgB;clear k0 k1 k2 k3 hgk r2 hap;go_step;go_simp;have hgr:=Gw (w:=wx) (g:=g) (b0:= .slice ma mn mc) (b1:= .slice ia iN ic) (b2:= .slice ea en ec) (b3:= .slice qa qn qc) (b4:= .slice sa sn sc) (b5:= .slice none 0 0) (b6:= .slice pa pn pc) (b7:= .int .i64 0) (b8:= .int .i64 l);have N8:=JF (b0:= .slice ma mn mc) (b1:= .slice ia iN ic) (b2:= .slice ea en ec) (b3:= .slice qa qn qc) (b4:= .slice sa sn sc) (b5:= .slice none 0 0) (b6:= .slice pa pn pc) (b7:= .int .i64 0) (b8:= .int .i64 l) hgB;have O8:=OP.far hgr hgB (by decide) (by decide) (by decide) (by decide) (by decide) (by decide) (by decide);have B8:=AN (HB.out.trans (hG.mono HB.out.size)) hgr (Nat.le_trans HB.out.size hg7) (Nat.le_trans HB.out.size hG.size);have L8:W0.heap.size≤(((Lf wx g (.slice ma mn mc) (.slice ia iN ic) (.slice ea en ec) (.slice qa qn qc) (.slice sa sn sc) (.slice none 0 0) (.slice pa pn pc)).setCell ⟨g,7,none⟩ (.int .i64 0)).setCell ⟨g,8,none⟩ (.int .i64 l)).heap.size:=Nat.le_trans HB.out.size (Nat.le_trans hG.size hgr.size);have S8:=(r1.lower HB.out.size).far hgr hgB (by decide) (by decide);have I8:Pe W0.heap.size g _ _ _ _ _ _ _ _ (nP l 0 0):=⟨N8,Nat.le_trans HB.out.size hg7,O8⟩;clear r1 N8 O8 hgr OP x0 x1 x2 x3 x4 x5 x6 x7 x8 fz hgB hg7 hG HO HB;unfold Lf at I8 B8 L8 S8;generalize((((((((wx.setCell _ _).setCell _ _).setCell _ _).setCell _ _).setCell _ _).setCell _ _).setCell _ _).setCell _ _).setCell _ _=W8 at*;have C:=Ns I8 L8 (by omega) ⟨1,0,0,0,0,⟨#[97]⟩⟩ rfl (by decide) (by decide) SS;dsimp only at C;go_wp2_with fail;refine C.mono ?_;rintro r w9 ⟨rfl,⟨m9,i9,e9,c9,I9,_⟩,b9,g9⟩;have B9:=B8.trans b9;have L9:=Nat.le_trans L8 b9.size;have S9:=S8.far g9 I8.blk (by decide) (by decide);have C:=Ns I9 L9 (by omega) ⟨4,0,0,3,0,⟨#[]⟩⟩ rfl (by decide) (by decide) ((KL (t:=gA) ⟨by decide,by decide,by decide⟩).trans SP);dsimp only at C;clear I8 S8 B8 L8 b9 g9;go_wp2_with fail;refine C.mono ?_;rintro r w10 ⟨rfl,⟨m10,i10,e10,c10,I10,_⟩,b10,g10⟩;have B10:=B9.trans b10;have L10:=Nat.le_trans L9 b10.size;have S10:=S9.far g10 I9.blk (by decide) (by decide);have C:=Ns I10 L10 (by omega) ⟨7,0,0,0,0,⟨#[]⟩⟩ rfl (by decide) (by decide) ((KL (t:=gA) ⟨by decide,by decide,by decide⟩).trans QS);dsimp only at C;clear I9 S9 B9 L9 b10 g10;go_wp2_with fail;refine C.mono ?_;rintro r w11 ⟨rfl,⟨m11,i11,e11,c11,I11,_⟩,b11,g11⟩;have B11:=B10.trans b11;have L11:=Nat.le_trans L10 b11.size;have S11:=S10.far g11 I10.blk (by decide) (by decide);clear I10 S10 B10 L10 b11 g11 C;go_wp2_with fail;go_loopw [8,9,10,11,37] (fun _ _ _ _ ix wr=>∃k:Nat,k≤4∧ix= .int .i64 k∧∃m i e c lv,Pe W0.heap.size g wr m i e c (.slice sa sn sc) lv (.slice pa pn pc) (nP l (3*k+3) k)∧AV W0.heap.size wr (.slice sa sn sc) (List.replicate 16 (.slice none 0 0)) (List.replicate 16 [])∧Below W0.heap.size W0 wr∧W0.heap.size≤wr.heap.size) (fun _ _ _ _ ix _=>4 - (intOf ix).toNat)
  case atStart=>exact⟨0,by omega,rfl,_,_,_,_,_,I11,S11,B11,L11⟩
  case round=>
   clear I11 S11 B11 L11;obtain⟨k,hk,rfl,mv,iv,ev,cv,lv,I0,S0,B0,L0⟩:=hrel
   by_cases hlt:k<4
   ·obtain⟨fr,hfr⟩:∃fr:Int,fr=((k+1:Nat):Int):=⟨_,rfl⟩
    have T1:=QT k hlt;have T2:=SO k hlt;have T3:=SQ k hlt;rw[←hfr] at T1 T2 T3;have hf0:0≤fr∧fr≤11:=by omega
    have Hfr:=AA hfr;clear hfr;have k4:(k:Int)<4:=by omega
    have C:=Ns I0 L0 (by omega) ⟨1,0,0,0,0,⟨#[97]⟩⟩ rfl (by decide) (by decide) T1;dsimp only at C;go_wp2_with fail;refine C.mono ?_;rintro r w1 ⟨rfl,⟨m1,i1,e1,c1,I1,_⟩,b1,g1⟩;have B1:=B0.trans b1;have L1:=Nat.le_trans L0 b1.size;have S1:=S0.far g1 I0.blk (by decide) (by decide);have C:=Ns I1 L1 (by omega) ⟨4,0,fr,2,0,⟨#[]⟩⟩ rfl (show(0:Nat)≤maxLen from Nat.zero_le _) (show(0:Int)≤9223372036854775807 by decide) ((KL (t:=gA) ⟨by decide,by decide,by decide⟩).trans T2);dsimp only at C;clear I0 S0 B0 L0 b1 g1;go_wp2_with fail;refine C.mono ?_;rintro r w2 ⟨rfl,⟨m2,i2,e2,c2,I2,_⟩,b2,g2⟩;have B2:=B1.trans b2;have L2:=Nat.le_trans L1 b2.size;have S2:=S1.far g2 I1.blk (by decide) (by decide);clear I1 S1 B1 L1 b2 g2 C;go_wp2_with fail;refine(OT fr _ hf0.1 hf0.2).mono ?_;rintro r w3 ⟨rfl,rfl⟩;have he:Og fr≤9223372036854775807:=by unfold Og;omega
    generalize Og fr=en at T3 he ⊢;have C:=Ns I2 L2 (by omega) ⟨6,0,0,(k:Int),en,⟨#[]⟩⟩ rfl (show(0:Nat)≤maxLen from Nat.zero_le _) he ((KL (t:=gA) ⟨by decide,by decide,by decide⟩).trans T3);dsimp only at C;go_wp2_with fail;refine C.mono ?_;rintro r w3 ⟨rfl,⟨m3,i3,e3,c3,I3,K3⟩,b3,g3⟩;have B3:=B2.trans b3;have L3:=Nat.le_trans L2 b3.size;have S3:=S2.far g3 I2.blk (by decide) (by decide);have hxl:=JQ k;have hlow:AE W0.heap.size w3 lv (Fh k):=I3.own.low;have hlt2:∀b,lv.ownBlock=some b→b<w2.heap.size:=fun b hb=>(World.ownsRow.lt I2.own.low b hb).2
    have HP:=AA (fun w4 w5 o' (b4:Below w3.heap.size w3 w4) q1 (q2:w4.grownBy w5 lv.ownBlock)=>U7 (o':=o') (w5:=w5) I3 S3 K3 L2 hlt2 b4 q1 q2 Hfr.out);obtain⟨_,_,_,_,_,c5,_⟩:=Ad I3.blk;have f5:=AI I3.blk;obtain⟨la,lc,rfl,_,_,_⟩:=hlow.rd.open;have b4:=AF w3 (.cells #[.int .i64 fr] 3);have hlow4:(w3.alloc (.cells #[.int .i64 fr] 3)).ownsRow W0.heap.size 3 1 (.slice la (Fh k).length lc) k ((Fh k).map (Value.int .i64)):=by have:=AE.below hlow b4;unfold AE at this;rwa [hxl] at this ⊢
    rw[hxl] at hlow4 c5 HP;have L4:=Nat.le_trans L3 b4.size;have HI:=AA (And.intro B3 (And.intro b4 L4));clear I2 I3 S2 S3 K3 B2 B3 L2 g3 b3 C hlow hlt2 T1 T2 T3;go_wp2_with (at_builtin;go_must (refine BX (lo:=W0.heap.size) (n:=k) (xs:=(Fh k).map (Value.int .i64)) (m:=1) (news:=[.int .i64 fr]) rfl rfl 3 (.int .i64 0) 1 8 underlying28 Tryz.infoInt rfl (by decide) rfl hlow4 rfl (Rd.newsAt _ #[_] _ 1 1 _ (by simp) rfl (by simp[maxLen])) (by simp[Value.oneCell']) (by unfold maxLen;omega) (by omega) L4 ?_;intro o' w5 q1 q2 q3 q4;obtain⟨oa,on,oc,rfl⟩:=Nz q1;have X:=HP.out _ _ _ HI.out.2.1 q1 q2;have f6:=AI X.1;have c6:=cell_of_row _ _ 5 _ _ _ X.1;have HX:=AA X.2;have HQ:=AA q4;clear X q1 q2 q3 q4 hlow4));go_roundw
    case rel=>exact⟨k+1,by omega,by go_num,_,_,_,_,_,HX.out.1,HX.out.2,AN (HI.out.1.trans (((HI.out.2.1).mono L3).trans HQ.out)) (Aj _ _ _ _) HX.out.1.glo (Nat.le_trans HI.out.2.2 HQ.out.size),Nat.le_trans (Nat.le_trans HI.out.2.2 HQ.out.size) (Aj _ g 5 _).size⟩
    case measure=>simp[intOf];omega
   ·obtain rfl:k=4:=by omega
    have I1:Pe W0.heap.size g wr mv iv ev cv (.slice sa sn sc) lv (.slice pa pn pc) (GF l):=U6 l▸I0
    have C:=UW _ _ _ _ _ _ _ (GF l) wr I1.own.rd (U8 h1 h6);unfold Cu at C;obtain⟨x0,x1,x2,x3,x4,x5,x6,x7,x8⟩:=I1.cells;replace x7:wr.cell? ⟨g,7,none⟩=some (.int .i64 0):=x7;replace x8:wr.cell? ⟨g,8,none⟩=some (.int .i64 l):=x8;clear I0 I1 S0;rw[show((4:Nat):Int)=4 from rfl];go_wp2_with fail;refine C.mono ?_;rintro r w7 ⟨m7,i7,e7,c7,s7,l7,q7,rfl,OO,b7⟩;have BB:=B0.trans (b7.mono L0);have HR:=(BB.block w.heap.size (by have:=Hs0.out;omega)).trans HN.out;obtain⟨⟨⟨na,nn,nc,rfl⟩,⟨ja,jn,jc,rfl⟩,⟨fa,fn,fc,rfl⟩,⟨ra,rn,rc,rfl⟩⟩,⟨ta,tn,tc,rfl⟩,⟨la,ln,lc,rfl⟩,⟨ua,un,uc,rfl⟩⟩:=OO.shapes;obtain⟨z0,z1,z2,z3,z4,z5,z6,z7,z8⟩:=Ad HR;have fz:=AI HR;have gr:=Gw (w:=w7) (g:=w.heap.size) (b0:= .slice na nn nc) (b1:= .slice ja jn jc) (b2:= .slice fa fn fc) (b3:= .slice ra rn rc) (b4:= .slice ta tn tc) (b5:= .slice la ln lc) (b6:= .slice ua un uc) (b7:= .int .i64 0) (b8:= .int .i64 l);have NN:=JF (b0:= .slice na nn nc) (b1:= .slice ja jn jc) (b2:= .slice fa fn fc) (b3:= .slice ra rn rc) (b4:= .slice ta tn tc) (b5:= .slice la ln lc) (b6:= .slice ua un uc) (b7:= .int .i64 0) (b8:= .int .i64 l) HR;have OF:=AA ((OO.far gr HR (by decide) (by decide) (by decide) (by decide) (by decide) (by decide) (by decide)).lower (Nat.le_trans Hb.out.size L0));have BF:=AA (AN (Hb.out.trans (BB.mono Hb.out.size)) gr (Nat.le_refl _) (Nat.le_trans (Nat.le_trans Hb.out.size L0) b7.size));have HE:=AA (Ad NN);dsimp only[Cu,GF];clear OO BB HR gr NN C x0 x1 x2 x3 x4 x5 x6 x7 x8 B0 b7;go_wp2_with fail;obtain⟨E0,E1,E2,E3,E4,E5,E6,E7,E8⟩:=HE.out;unfold Lf at E0 E1 E2 E3 E4 E5 E6 E7 E8;exact bodyPost_ret (v:= .tuple #[.agg #[_,_,_,_,_,_,_,_,_],_]) (by simp[results,Tryz.results5,go_sem,E0,E1,E2,E3,E4,E5,E6,E7,E8]) rfl ⟨_,_,_,_,_,_,_,rfl,OF.out,BF.out⟩
end Go.Proofs.YteocokgpmgfbaaaGreatDoor
