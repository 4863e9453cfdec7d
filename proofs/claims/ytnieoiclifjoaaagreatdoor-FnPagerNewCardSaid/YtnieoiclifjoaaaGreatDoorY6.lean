/-
  Packed:16 texts.
-/
import Derived.Test.YtnieoiclifjoaaaGreatDoorY5
import Derived.Test.YtnieoiclifjoaaaGreatDoorY2
import Derived.Test.YtnieoiclifjoaaaGreatDoorY4
set_option linter.unusedVariables false
set_option maxHeartbeats 16000000
set_option maxRecDepth 100000
namespace Go.Proofs.YtnieoiclifjoaaaGreatDoor
open Go.Proofs.Tryz
open Go.RowKit
theorem FW {ss:List ByteArray} (h:A2 ss=true):EB ss:=by
 intro s hs;obtain⟨j,hj,rfl⟩:=List.getElem_of_mem hs;unfold A2 at h;simp only[Bool.and_eq_true,List.all_eq_true] at h;have h1:=h.1 j (List.mem_range.2 hj);unfold Bx at h1;simp only[Bool.and_eq_true] at h1;have h2:=IY h1.1;have e:Bp ss j=ss[j]:=by simp[Bp,hj]
 rw[e] at h2;exact Nat.le_trans h2 (by decide)
theorem RZ {lo g:Nat} {w:World} {m i e c:Value} {k:AN} (h:IH lo w g m i e c k) (hlo:lo≤w.heap.size) (hK:De k) (call:AR) (he:0≤call.e) (hn:call.e<3) (hnm:call.nm.size≤maxLen):
 Calls prog 205 #[call.on g] w (Cd lo g w (Ei k call)):=by
 have N:=heap_alloc_new w (.cells (call.onCells g) 163);have hb0:=AG w (.cells (call.onCells g) 163);have C0:=AA (fun W (_:Below w.heap.size w W)=>Ae (LZ call.a W));have C1:=AA (fun W (_:Below w.heap.size w W)=>Cn call.nm W hnm);have C2:=AA (fun W (hW:Below w.heap.size w W)=>Ku (h.below hW) call call.nm he (by rw[hK.envl];exact hn));have P:Ei k call=if Bk call.a 0 2=false∨A4 call.nm=false then(k,0,3) else if FJ k call.e call.nm=false then(k,0,1) else if(A6 (AC k.envs call.a.toNat).rights call.nm).2=false then(k,0,4) else({k with envs:=AV k.envs call.a.toNat (A9 (A6 (AC k.envs call.a.toNat).rights call.nm).1)},0,0):=rfl
 obtain⟨k1,e1,a1,b1,c1,nm⟩:=call;simp only[AR.on,AR.onCells] at N hb0 C0 C1 C2 P hnm ⊢;obtain⟨y0,y1,y2,y3,y4,y5,y6⟩:=Dk (c:=⟨k1,e1,a1,b1,c1,nm⟩) N;have hl:=Ao N;have HN:=AA N;have HP:=AA P;have HK:=AA hK;have HI:=AA h;clear P hK h N y0 y1 y2 y4 y5 y6;go_in;go_wp2_with fail;generalize hW0:w.alloc _=W0 at*;clear hW0;cases e4:Bk a1 0 2
 ·have T:=AA e4
  have E:=AA (show Ei k ⟨k1,e1,a1,b1,c1,nm⟩=(k,0,3) by rw[HP.out,if_pos (.inl e4)]);clear e4 y3;refine(C0.out _ hb0).mono ?_;rintro r w1 ⟨rfl,hb1⟩;rw[T.out];have hbw:=hb0.trans (hb1.mono hb0.size);go_wp2_with fail;go_ret;exact Cd.bad E.out (by decide) (hbw.mono hlo)
 ·have T0:=AA e4
  have ab:=AZ.1 e4;obtain⟨an,rfl⟩:∃n:Nat,a1=(n:Int):=⟨a1.toNat,by omega⟩
  have han:an<3:=by omega
  clear e4 y3;refine(C0.out _ hb0).mono ?_;rintro r w1 ⟨rfl,hbW⟩;rw[T0.out];have hbw:=hb0.trans (hbW.mono hb0.size);obtain⟨y0,y1,y2,y3,y4,y5,y6⟩:=Dk (c:=⟨k1,e1,(an:Int),b1,c1,nm⟩) (AF HN.out hbW);clear y0 y1 y2 y3 y4 y5;go_wp2_with fail;clear y6;cases e5:A4 nm
  ·have T:=AA e5
   have E:=AA (show Ei k ⟨k1,e1,(an:Int),b1,c1,nm⟩=(k,0,3) by rw[HP.out,if_pos (.inr e5)]);clear e5;refine(C1.out _ hbw).mono ?_;rintro r w2 ⟨rfl,hb1⟩;rw[T.out];replace hbw:=hbw.trans (hb1.mono hbw.size);go_wp2_with fail;go_ret;exact Cd.bad E.out (by decide) (hbw.mono hlo)
  ·have T:=AA e5
   have HP2:=AA (show Ei k ⟨k1,e1,(an:Int),b1,c1,nm⟩=_ by rw[HP.out,if_neg (by rw[T0.out,e5];simp)]);clear e5;refine(C1.out _ hbw).mono ?_;rintro r w2 ⟨rfl,hb1⟩;rw[T.out];replace hbW:=hbW.trans (hb1.mono hbW.size);replace hbw:=hbw.trans (hb1.mono hbw.size);obtain⟨y0,y1,y2,y3,y4,y5,y6⟩:=Dk (c:=⟨k1,e1,(an:Int),b1,c1,nm⟩) (AF HN.out hbW);clear hb1;go_wp2_with fail;clear y0 y1 y2 y3 y4 y5 y6;cases e6:FJ k e1 nm
   ·have T6:=AA e6
    have E:=AA (show Ei k ⟨k1,e1,(an:Int),b1,c1,nm⟩=(k,0,1) by rw[HP2.out,e6];rfl);clear e6;refine(C2.out _ hbw).mono ?_;rintro r w2 ⟨rfl,hb2⟩;rw[T6.out];replace hbw:=hbw.trans (hb2.mono hbw.size);go_wp2_with fail;go_ret;exact Cd.bad E.out (by decide) (hbw.mono hlo)
   ·have T6:=AA e6
    have HP3:=AA (show Ei k ⟨k1,e1,(an:Int),b1,c1,nm⟩=_ by rw[HP2.out,e6,if_neg (by decide)]);clear e6;refine(C2.out _ hbw).mono ?_;rintro r W2 ⟨rfl,hb2⟩;rw[T6.out];replace hbW:=hbW.trans (hb2.mono hbW.size);replace hbw:=hbw.trans (hb2.mono hbw.size);have h2:=HI.out.below hbw;obtain⟨ge,cap,ua,uc,rfl,hge0,D0,_,R,fz⟩:=h2.env (j:=an) (by rw[HK.out.envl];exact han);have x2:=cell_regrown h2.cells.2.2.1;obtain⟨y0,y1,y2,y3,y4,y5,y6⟩:=Dk (c:=⟨k1,e1,(an:Int),b1,c1,nm⟩) (AF HN.out hbW);replace y0:=cell_regrown y0;replace y3:=cell_regrown y3;have hane:(an:Int)<k.envs.length:=by rw[HK.out.envl];omega
    have hl20:=Nat.lt_of_lt_of_le hl hbW.size;have hgb:ge≠w.heap.size:=by intro e';have h0:=(World.ownsRow.lt HI.out.2.2.2.2.1.choose_spec.1 ge rfl).2;omega
    clear y1 y2 y4 y5 hb2;go_wp2_with fail;refine wp_region_quiet_below mixed (by kernel_rfl) ?_
    repeat(go_big_quiet_step (fail))
    refine wpQuiet_nil ?_;intro _ hw';obtain⟨⟨dq,osq⟩,hw''⟩:=hw';subst hw'';have bq:=below_regrown W2 dq osq;generalize Sort.grow (redrawn W2 dq) osq=wq at bq;clear x2 y0 y3;go_wp2_with fail;have hbq:=hbw.trans (bq.mono hbw.size);have hIq:=AA (h2.below bq);replace y6:=(bq.cell (p:=⟨w.heap.size,6,none⟩) hl20).trans y6;replace D0:=(bq.cell (p:=⟨ge,an*2,none⟩) hge0).trans D0;have fzq:=(bq.frozen (p:=⟨ge,an*2,none⟩) hge0).trans (fz _);have hl2:=Nat.lt_of_lt_of_le hl20 bq.size;have hge:=Nat.lt_of_lt_of_le hge0 bq.size;have hloq:=Nat.le_trans hlo hbq.size;have Rq:BC wq (.slice ua (AC k.envs an).rights.length uc) (AC k.envs an).rights:=A3.below R bq;have rk:=HK.out.rights an han;have C30:=fun W (hW:Below wq.heap.size wq W)=>Nk _ (AC k.envs an).rights nm W (A3.below Rq hW) (FW rk) hnm rk T.out
    have HP4:=AA (show Ei k ⟨k1,e1,(an:Int),b1,c1,nm⟩=if(A6 (AC k.envs an).rights nm).2=false then(k,0,4) else({k with envs:=AV k.envs an (A9 (A6 (AC k.envs an).rights nm).1)},0,0) from HP3.out);unfold UD at C30;obtain⟨ss,bb,hsb⟩:∃ss bb,A6 (AC k.envs an).rights nm=(ss,bb):=⟨_,_,rfl⟩
    simp only[hsb] at C30 HP4;have C3:=AA C30;clear C30 R Rq rk hsb h2 fz bq hge0 hl20;refine AH 12 mixed (by kernel_rfl) 52 rfl (by kernel_rfl) (fun ix vv ww=>match ix with
     |0=>vv= .pointer (some ⟨ge,an*2,none⟩)
     |1=>vv= .pointer (some ⟨ge,an*2,none⟩)
     |2=>vv= .pointer (some ⟨ge,an*2,none⟩)
     |3=>vv= .slice ua (AC k.envs an).rights.length uc
     |4=>vv= .pointer (some ⟨w.heap.size,1,none⟩)
     |5=>vv= .pointer (some ⟨w.heap.size,6,none⟩)
     |6=>vv= .string nm
     |7=>∃v',vv= .tuple #[v', .bool bb]∧AJ wq.heap.size 9 1 An ww v' ss
     |8=>∃v',vv= .tuple #[v', .bool bb]∧AJ wq.heap.size 9 1 An ww v' ss
     |9=>AJ wq.heap.size 9 1 An ww vv ss
     |10=>vv= .bool bb
     |11=>AJ wq.heap.size 9 1 An ww vv ss
     |_=>True) ?_ ?_ ?_
    ·intro i hi vv wz ww' hbz hz
     match i,hi with
     |0,_|1,_|2,_|3,_|4,_|5,_|6,_=>exact hz
     |7,_=>exact(by obtain⟨v',h0,h1⟩:=hz;exact⟨v',h0,AJ.below h1 hbz⟩)
     |8,_=>exact(by obtain⟨v',h0,h1⟩:=hz;exact⟨v',h0,AJ.below h1 hbz⟩)
     |9,_=>exact(AJ.below hz hbz)
     |10,_=>exact hz
     |11,_=>exact(AJ.below hz hbz)
    ·intro i hi o ho a wx Hb Hd hG K HK
     match i,hi with
     |0,_=>exact eM ho HK (eb (Aj Hb 3))
     |1,_=>exact eC ho HK (et (AD Hd 0))
     |2,_=>exact eF ho HK EV (et (AD Hd 1))
     |3,_=>exact eL ho HK (et (AD Hd 2)) (Ie (bc hG hge D0))
     |4,_=>exact eF ho HK Dp (eb (Aj Hb 1))
     |5,_=>exact eF ho HK LX (et (AD Hd 4))
     |6,_=>exact eL ho HK (et (AD Hd 5)) (Uo (bc hG hl2 y6))
     |7,_=>obtain rfl:=So_ ho;have d3:(a.tmps[39]?.getD undef)= .slice ua (AC k.envs an).rights.length uc:=AD Hd 3;have d6:(a.tmps[42]?.getD undef)= .string nm:=AD Hd 6;clear Hd Hb;refine AI.of rfl ?_;go_simp;refine(C3.out _ hG).mono ?_;rintro e w_ ⟨v',rfl,hO,hb2⟩;exact HK.out _ _ ⟨_,rfl,hO.lower hG.size⟩ hb2
     |8,_=>
      obtain rfl:=So_ ho;have d7:∃v',(a.tmps[43]?.getD undef)= .tuple #[v', .bool bb]∧AJ wq.heap.size 9 1 An wx v' ss:=AD Hd 7
      clear Hd Hb;obtain⟨v',d7,hO⟩:=d7;refine AI.of rfl ?_;go_simp;exact HK.out _ _ ⟨_,rfl,hO⟩ (Below.refl _ _)
     |9,_=>
      obtain rfl:=So_ ho;have d8:∃v',(a.tmps[35]?.getD undef)= .tuple #[v', .bool bb]∧AJ wq.heap.size 9 1 An wx v' ss:=AD Hd 8
      clear Hd Hb;obtain⟨v',d8,hO⟩:=d8;refine AI.of rfl ?_;go_simp;exact HK.out _ _ hO (Below.refl _ _)
     |10,_=>
      obtain rfl:=So_ ho;have d8:∃v',(a.tmps[35]?.getD undef)= .tuple #[v', .bool bb]∧AJ wq.heap.size 9 1 An wx v' ss:=AD Hd 8
      clear Hd Hb;obtain⟨v',d8,hO⟩:=d8;refine AI.of rfl ?_;go_simp;exact HK.out _ _ rfl (Below.refl _ _)
     |11,_=>obtain rfl:=So_ ho;have d9:AJ wq.heap.size 9 1 An wx (a.tmps[44]?.getD undef) ss:=AD Hd 9;clear Hd Hb;refine AI.of rfl ?_;go_simp;exact HK.out _ _ d9 (Below.refl _ _)
    ·intro vs wx hR hG
     have q10:(vs 10)= .bool bb:=BI hR 10;have q11:AJ wq.heap.size 9 1 An wx (vs 11) ss:=BI hR 11;clear hR;simp only[Ai,AX,List.range,List.range.loop,List.foldl_cons,List.foldl_nil,q10];simp;generalize vs 11=z11 at q11 ⊢;clear q10;have hbx:=hbq.trans (hG.mono hbq.size);replace D0:=(hG.cell (p:=⟨ge,an*2,none⟩) hge).trans D0;replace fzq:=(hG.frozen (p:=⟨ge,an*2,none⟩) hge).trans fzq;cases bb
     ·have E:=AA (show Ei k ⟨k1,e1,(an:Int),b1,c1,nm⟩=(k,0,4) by rw[HP4.out];rfl)
      clear q11 hG D0 fzq y6;go_wp2_with fail;go_ret;exact Cd.bad E.out (by decide) (hbx.mono hlo)
     ·have E:=AA (show Ei k ⟨k1,e1,(an:Int),b1,c1,nm⟩=({k with envs:=AV k.envs an (A9 ss)},0,0) by rw[HP4.out];rfl)
      have S:=AA (hIq.out.rights rfl hloq hG (by rw[HK.out.envl];exact han) q11);have hbx2:=AA (AT (hbx.mono hlo) S.out.2.1 S.out.2.2 (Nat.le_trans hlo hbx.size));obtain⟨_,_,rfl,_,_⟩:=q11.rd.shape;clear q11 hG y6;go_wp2_with fail;go_ret;exact⟨by rw[E.out];rfl,fun _=>⟨_,_,_,_,by rw[E.out];exact S.out.1⟩,hbx2.out⟩
theorem F9 (v:Value) (m:List (List Int)) (r:Int) (w:World) (h:BJ w v m) (hok:Bg m=true) (hr:r<12):Calls prog 110 #[v, .int .i64 r] w (KQ m r w):=by
 by_cases h0:r<0
 ·exact Ly v m r w h h0
 ·obtain⟨n,rfl⟩:∃n:Nat,r=(n:Int):=⟨r.toNat,by omega⟩
  exact Lx v m n w h hok (by omega)
theorem root_lt {k:AN} (h:De k) {j:Nat} (hj:j<3):(AC k.envs j).root<12:=by have:=h.roots j hj;unfold AY at this;omega
theorem Qo {lo g:Nat} {w:World} {m i e c:Value} {k:AN} (h:IH lo w g m i e c k) (hlo:lo≤w.heap.size) (hK:De k) (call:AR) (he:0≤call.e) (hn:call.e<3) (hnm:call.nm.size≤maxLen):
 Calls prog 206 #[call.on g] w (Cd lo g w (Dc k call)):=by
 have N:=heap_alloc_new w (.cells (call.onCells g) 163);have hb0:=AG w (.cells (call.onCells g) 163);have C0:=AA (fun W (_:Below w.heap.size w W)=>Ae (LZ call.a W));have C1:=AA (fun W (_:Below w.heap.size w W)=>Cn call.nm W hnm);have C2:=AA (fun W (hW:Below w.heap.size w W)=>Ku (h.below hW) call call.nm he (by rw[hK.envl];exact hn));have P:Dc k call=if Bk call.a 0 2=false∨call.a=call.e∨A4 call.nm=false then(k,0,3) else if FJ k call.e call.nm=false then(k,0,1) else if Aq k.infos (Az k.mem (AC k.envs call.a.toNat).root) (BA (AC k.envs call.a.toNat).rights call.nm)=false then(k,0,2) else({k with envs:=AV k.envs call.a.toNat (A9 (BA (AC k.envs call.a.toNat).rights call.nm))},0,0):=rfl
 obtain⟨k1,e1,a1,b1,c1,nm⟩:=call;simp only[AR.on,AR.onCells] at N hb0 C0 C1 C2 P hnm ⊢;obtain⟨y0,y1,y2,y3,y4,y5,y6⟩:=Dk (c:=⟨k1,e1,a1,b1,c1,nm⟩) N;have hl:=Ao N;have HN:=AA N;have HP:=AA P;have HK:=AA hK;have HI:=AA h;clear P hK h N y0 y1 y2 y4 y5 y6;go_in;go_wp2_with fail;generalize hW0:w.alloc _=W0 at*;clear hW0;cases e4:Bk a1 0 2
 ·have T:=AA e4
  have E:=AA (show Dc k ⟨k1,e1,a1,b1,c1,nm⟩=(k,0,3) by rw[HP.out,if_pos (.inl e4)]);clear e4 y3;refine(C0.out _ hb0).mono ?_;rintro r w1 ⟨rfl,hb1⟩;rw[T.out];have hbw:=hb0.trans (hb1.mono hb0.size);go_wp2_with fail;go_ret;exact Cd.bad E.out (by decide) (hbw.mono hlo)
 ·have T0:=AA e4
  have ab:=AZ.1 e4;obtain⟨an,rfl⟩:∃n:Nat,a1=(n:Int):=⟨a1.toNat,by omega⟩
  have han:an<3:=by omega
  clear e4 y3;refine(C0.out _ hb0).mono ?_;rintro r w1 ⟨rfl,hbW⟩;rw[T0.out];have hbw:=hb0.trans (hbW.mono hb0.size);obtain⟨y0,y1,y2,y3,y4,y5,y6⟩:=Dk (c:=⟨k1,e1,(an:Int),b1,c1,nm⟩) (AF HN.out hbW);clear y0 y1 y4 y5
  by_cases hae:(an:Int)=e1
  ·have E:=AA (show Dc k ⟨k1,e1,(an:Int),b1,c1,nm⟩=(k,0,3) by rw[HP.out,if_pos (.inr (.inl hae))])
   have t3:((an:Int)==e1)=true:=by simp[hae]
   clear hae y6;go_wp2_with fail;go_ret;exact Cd.bad E.out (by decide) (hbw.mono hlo)
  have t3:((an:Int)==e1)=false:=by simp[hae]
  have hne:=AA hae;clear hae;go_wp2_with fail;clear y2 y3 y6 t3;cases e5:A4 nm
  ·have T:=AA e5
   have E:=AA (show Dc k ⟨k1,e1,(an:Int),b1,c1,nm⟩=(k,0,3) by rw[HP.out,if_pos (.inr (.inr e5))]);clear e5;refine(C1.out _ hbw).mono ?_;rintro r w2 ⟨rfl,hb1⟩;rw[T.out];replace hbw:=hbw.trans (hb1.mono hbw.size);go_wp2_with fail;go_ret;exact Cd.bad E.out (by decide) (hbw.mono hlo)
  ·have T:=AA e5
   have HP2:=AA (show Dc k ⟨k1,e1,(an:Int),b1,c1,nm⟩=_ by rw[HP.out,if_neg (by rw[T0.out,e5];simpa using hne.out)]);clear e5;refine(C1.out _ hbw).mono ?_;rintro r w2 ⟨rfl,hb1⟩;rw[T.out];replace hbW:=hbW.trans (hb1.mono hbW.size);replace hbw:=hbw.trans (hb1.mono hbw.size);obtain⟨y0,y1,y2,y3,y4,y5,y6⟩:=Dk (c:=⟨k1,e1,(an:Int),b1,c1,nm⟩) (AF HN.out hbW);clear hb1;go_wp2_with fail;clear y0 y1 y2 y3 y4 y5 y6;cases e6:FJ k e1 nm
   ·have T6:=AA e6
    have E:=AA (show Dc k ⟨k1,e1,(an:Int),b1,c1,nm⟩=(k,0,1) by rw[HP2.out,e6];rfl);clear e6;refine(C2.out _ hbw).mono ?_;rintro r w2 ⟨rfl,hb2⟩;rw[T6.out];replace hbw:=hbw.trans (hb2.mono hbw.size);go_wp2_with fail;go_ret;exact Cd.bad E.out (by decide) (hbw.mono hlo)
   ·have T6:=AA e6
    have HP3:=AA (show Dc k ⟨k1,e1,(an:Int),b1,c1,nm⟩=_ by rw[HP2.out,e6,if_neg (by decide)]);clear e6;refine(C2.out _ hbw).mono ?_;rintro r W2 ⟨rfl,hb2⟩;rw[T6.out];replace hbW:=hbW.trans (hb2.mono hbW.size);replace hbw:=hbw.trans (hb2.mono hbw.size);have h2:=HI.out.below hbw;obtain⟨ge,cap,ua,uc,rfl,hge0,D0,D1,R,fz⟩:=h2.env (j:=an) (by rw[HK.out.envl];exact han);have x2:=cell_regrown h2.cells.2.2.1;obtain⟨y0,y1,y2,y3,y4,y5,y6⟩:=Dk (c:=⟨k1,e1,(an:Int),b1,c1,nm⟩) (AF HN.out hbW);replace y0:=cell_regrown y0;replace y3:=cell_regrown y3;have hane:(an:Int)<k.envs.length:=by rw[HK.out.envl];omega
    have hl20:=Nat.lt_of_lt_of_le hl hbW.size;have hgb:ge≠w.heap.size:=by intro e';have h0:=(World.ownsRow.lt HI.out.2.2.2.2.1.choose_spec.1 ge rfl).2;omega
    clear y1 y2 y4 y5 hb2;go_wp2_with fail;refine wp_region_quiet_below mixed (by kernel_rfl) ?_
    repeat(go_big_quiet_step (fail))
    refine wpQuiet_nil ?_;intro _ hw';obtain⟨⟨dq,osq⟩,hw''⟩:=hw';subst hw'';have bq:=below_regrown W2 dq osq;generalize Sort.grow (redrawn W2 dq) osq=wq at bq;clear x2 y0 y3;go_wp2_with fail;have hbq:=hbw.trans (bq.mono hbw.size);have hIq:=AA (h2.below bq);replace y6:=(bq.cell (p:=⟨w.heap.size,6,none⟩) hl20).trans y6;replace D0:=(bq.cell (p:=⟨ge,an*2,none⟩) hge0).trans D0;replace D1:=(bq.cell (p:=⟨ge,an*2+1,none⟩) hge0).trans D1;have fzq:=(bq.frozen (p:=⟨ge,an*2,none⟩) hge0).trans (fz _);have hbWq:=hbW.trans (bq.mono hbW.size);have hl2:=Nat.lt_of_lt_of_le hl20 bq.size;have hge:=Nat.lt_of_lt_of_le hge0 bq.size;have hloq:=Nat.le_trans hlo hbq.size;have Rq:BC wq (.slice ua (AC k.envs an).rights.length uc) (AC k.envs an).rights:=A3.below R bq;have rk:=HK.out.rights an han;have C3:=AA (fun W (hW:Below wq.heap.size wq W)=>Mc _ (AC k.envs an).rights nm W (A3.below Rq hW) (FW rk) hnm rk T.out);have HP4:=AA (show Dc k ⟨k1,e1,(an:Int),b1,c1,nm⟩=if Aq k.infos (Az k.mem (AC k.envs an).root) (BA (AC k.envs an).rights nm)=false then(k,0,2) else({k with envs:=AV k.envs an (A9 (BA (AC k.envs an).rights nm))},0,0) from HP3.out);clear R Rq rk h2 fz bq hge0 hl20;refine AH 8 mixed (by kernel_rfl) 70 rfl (by kernel_rfl) (fun ix vv ww=>match ix with
     |0=>vv= .pointer (some ⟨ge,an*2,none⟩)
     |1=>vv= .pointer (some ⟨ge,an*2,none⟩)
     |2=>vv= .pointer (some ⟨ge,an*2,none⟩)
     |3=>vv= .slice ua (AC k.envs an).rights.length uc
     |4=>vv= .pointer (some ⟨w.heap.size,1,none⟩)
     |5=>vv= .pointer (some ⟨w.heap.size,6,none⟩)
     |6=>vv= .string nm
     |7=>AJ wq.heap.size 9 1 An ww vv (BA (AC k.envs an).rights nm)
     |_=>True) ?_ ?_ ?_
    ·intro i hi vv wz ww' hbz hz
     match i,hi with
     |0,_|1,_|2,_|3,_|4,_|5,_|6,_=>exact hz
     |7,_=>exact(AJ.below hz hbz)
    ·intro i hi o ho a wx Hb Hd hG K HK
     match i,hi with
     |0,_=>exact eM ho HK (eb (Aj Hb 3))
     |1,_=>exact eC ho HK (et (AD Hd 0))
     |2,_=>exact eF ho HK EV (et (AD Hd 1))
     |3,_=>exact eL ho HK (et (AD Hd 2)) (Ie (bc hG hge D0))
     |4,_=>exact eF ho HK Dp (eb (Aj Hb 1))
     |5,_=>exact eF ho HK LX (et (AD Hd 4))
     |6,_=>exact eL ho HK (et (AD Hd 5)) (Uo (bc hG hl2 y6))
     |7,_=>obtain rfl:=So_ ho;have d3:(a.tmps[46]?.getD undef)= .slice ua (AC k.envs an).rights.length uc:=AD Hd 3;have d6:(a.tmps[49]?.getD undef)= .string nm:=AD Hd 6;clear Hd Hb;refine AI.of rfl ?_;go_simp;refine(C3.out _ hG).mono ?_;rintro e w_ ⟨v',rfl,hO,hb2⟩;exact HK.out _ _ (hO.lower hG.size) hb2
    ·intro vs wx hR hG
     have q7:AJ wq.heap.size 9 1 An wx (vs 7) (BA (AC k.envs an).rights nm):=BI hR 7;clear hR;simp only[Ai,AX,List.range,List.range.loop,List.foldl_cons,List.foldl_nil];simp;generalize vs 7=z7 at q7 ⊢;have hbx:=hbq.trans (hG.mono hbq.size);have hbWx:=hbWq.trans (hG.mono hbWq.size);have hIx:=hIq.out.below hG;obtain⟨y0,_,_,_,_,_,_⟩:=Dk (c:=⟨k1,e1,(an:Int),b1,c1,nm⟩) (AF HN.out hbWx);replace D0:=(hG.cell (p:=⟨ge,an*2,none⟩) hge).trans D0;replace D1:=(hG.cell (p:=⟨ge,an*2+1,none⟩) hge).trans D1;replace fzq:=(hG.frozen (p:=⟨ge,an*2,none⟩) hge).trans fzq;have hge3:=Nat.lt_of_lt_of_le hge hG.size;have hl3:=Nat.lt_of_lt_of_le hl2 hG.size;have hgl3:=Ao hIx.1;have x0:=hIx.cells.1;have x1:=hIx.cells.2.1;have hm12:=root_lt HK.out han;have RM:BJ wx m k.mem:=hIx.2.2.rd.1;have RIn:BH wx i k.infos:=hIx.2.2.2.1.rd;have hOq:=AA q7;have hGq:=AA hG;obtain⟨wy,rfl⟩:∃wy:World,wy=wx:=⟨_,rfl⟩
     have CX:=AA (fun W (hW:Below wy.heap.size wy W)=>F9 m k.mem _ W (RM.below hW) (AW HK.out).1 hm12);have CA:=AA (fun W (hW:Below wy.heap.size wy W) v2 ts (h2:Ap W v2 (Ak ts)) (hm:∀g,g∈ts↔g∈Az k.mem (AC k.envs an).root)=>by have:=FH g _ v2 _ (BA (AC k.envs an).rights nm) ts k.infos W ((hW.cell (p:=⟨g,1,none⟩) hgl3).trans x1) (A3.below q7.rd hW) (A3.below RIn hW) h2 (fun f hf=>by have:=reach_lt hm12 f ((hm f).1 hf);have:=HK.out.len;omega);rw[Ds hm] at this;exact this);generalize hbb:Aq k.infos (Az k.mem (AC k.envs an).root) (BA (AC k.envs an).rights nm)=bb at CA HP4;have HBb:=AA hbb;obtain⟨p1,p2,rfl,_,_⟩:=q7.rd.shape;clear hbb RM RIn q7 hG hIx x1;go_wp2_with fail;refine AH 14 mixed (by kernel_rfl) 70 rfl (by kernel_rfl) (fun ix vv ww=>match ix with
      |0=>vv= .pointer (some ⟨w.heap.size,0,none⟩)
      |1=>vv= .pointer (some ⟨g,0,none⟩)
      |2=>vv= .slice p1 (BA (AC k.envs an).rights nm).length p2
      |3=>vv= .pointer (some ⟨w.heap.size,0,none⟩)
      |4=>vv= .pointer (some ⟨g,0,none⟩)
      |5=>vv= .pointer (some ⟨g,0,none⟩)
      |6=>vv= .pointer (some ⟨g,0,none⟩)
      |7=>vv=m
      |8=>vv= .pointer (some ⟨ge,an*2,none⟩)
      |9=>vv= .pointer (some ⟨ge,an*2,none⟩)
      |10=>vv= .pointer (some ⟨ge,an*2+1,none⟩)
      |11=>vv= .int .i64 ((AC k.envs an).root)
      |12=>Bt wy.heap.size k.mem (AC k.envs an).root ww vv
      |13=>vv= .bool bb
      |_=>True) ?_ ?_ ?_
     ·intro i hi vv wz ww' hbz hz
      match i,hi with
      |0,_|1,_|2,_|3,_|4,_|5,_|6,_|7,_|8,_|9,_|10,_|11,_=>exact hz
      |12,_=>exact(Bt.below hz hbz)
      |13,_=>exact hz
     ·intro i hi o ho a wx Hb Hd hG K HK
      match i,hi with
      |0,_=>exact eF ho HK BP (eb (Aj Hb 1))
      |1,_=>exact eL ho HK (et (AD Hd 0)) (DY (bc hG hl3 y0))
      |2,_=>exact eM ho HK (eb (Aj Hb 4))
      |3,_=>exact eF ho HK BP (eb (Aj Hb 1))
      |4,_=>exact eL ho HK (et (AD Hd 3)) (DY (bc hG hl3 y0))
      |5,_=>exact eC ho HK (et (AD Hd 4))
      |6,_=>exact eF ho HK Ci (et (AD Hd 5))
      |7,_=>exact eL ho HK (et (AD Hd 6)) (Fd (bc hG hgl3 x0))
      |8,_=>exact eM ho HK (eb (Aj Hb 3))
      |9,_=>exact eC ho HK (et (AD Hd 8))
      |10,_=>exact eF ho HK Ez (et (AD Hd 9))
      |11,_=>exact eL ho HK (et (AD Hd 10)) (DA (bc hG hge3 D1))
      |12,_=>obtain rfl:=So_ ho;have d7:(a.tmps[58]?.getD undef)=m:=AD Hd 7;have d11:(a.tmps[62]?.getD undef)= .int .i64 ((AC k.envs an).root):=AD Hd 11;clear Hd Hb;refine AI.of rfl ?_;go_simp;refine(CX.out _ hG).mono ?_;rintro e w_ ⟨v',ts,rfl,hO,hmem,_,hb2⟩;exact HK.out _ _ ⟨ts,BQ hO hG.size,hmem⟩ hb2
      |13,_=>obtain rfl:=So_ ho;have d1:(a.tmps[52]?.getD undef)= .pointer (some ⟨g,0,none⟩):=AD Hd 1;have d2:(a.tmps[53]?.getD undef)= .slice p1 (BA (AC k.envs an).rights nm).length p2:=AD Hd 2;have d12:Bt wy.heap.size k.mem (AC k.envs an).root wx (a.tmps[63]?.getD undef):=AD Hd 12;clear Hd Hb;generalize e63:a.tmps[63]?.getD undef=v2 at d12;obtain⟨ts,hO,hmem⟩:=d12;have CAx:=CA.out wx hG v2 ts (AE.rd hO) hmem;refine AI.of rfl ?_;go_simp;refine CAx.mono ?_;rintro e w_ ⟨rfl,hb2⟩;exact HK.out _ _ rfl hb2
     ·intro vs wx hR hG
      have q13:(vs 13)= .bool bb:=BI hR 13;clear hR;simp only[Ai,AX,List.range,List.range.loop,List.foldl_cons,List.foldl_nil,q13];simp;clear q13;have hbz:=hbx.trans (hG.mono hbx.size);cases bb
      ·have E:=AA (show Dc k ⟨k1,e1,(an:Int),b1,c1,nm⟩=(k,0,2) by rw[HP4.out];rfl)
       clear hG D0 D1 fzq y0 x0;go_wp2_with fail;go_ret;exact Cd.bad E.out (by decide) (hbz.mono hlo)
      ·have E:=AA (show Dc k ⟨k1,e1,(an:Int),b1,c1,nm⟩=({k with envs:=AV k.envs an (A9 (BA (AC k.envs an).rights nm))},0,0) by rw[HP4.out];rfl)
       have S:=AA (hIq.out.rights rfl hloq (hGq.out.trans (hG.mono hGq.out.size)) (by rw[HK.out.envl];exact han) (hOq.out.below hG));have hbz2:=AA (AT (hbz.mono hlo) S.out.2.1 S.out.2.2 (Nat.le_trans hlo hbz.size));replace D0:=(hG.cell (p:=⟨ge,an*2,none⟩) hge3).trans D0;replace fzq:=(hG.frozen (p:=⟨ge,an*2,none⟩) hge3).trans fzq;clear hG D1 y0 x0;go_wp2_with fail;go_ret;exact⟨by rw[E.out];rfl,fun _=>⟨_,_,_,_,by rw[E.out];exact S.out.1⟩,hbz2.out⟩
theorem Ft {k:AN} (h:De k) {j:Nat} (hj:j<3):EB (AC k.envs j).rights:=FW (h.rights j hj)
theorem GR (m i e c:Value) (k:AN) (en:Nat) (g:ByteArray) (w:World) (h:Fp w e k.envs) (hk:De k) (hen:en<3) (hg:g.size≤maxLen):
 Calls prog 280 #[.agg #[m,i,e,c], .int .i64 en, .string g] w fun r w'=>r= .returned (.bool (Ca (AC k.envs en).rights g))∧Below w.heap.size w w':=by
 have N0:=heap_alloc_new w (.cells #[m,i,e,c] 29);have hb0:=AG w (.cells #[m,i,e,c] 29);obtain⟨a,cp,rfl,hc,hcm,H⟩:=(h.below hb0).open;obtain⟨b,off,ua,uc,rfl,hbl,D0,_,hR⟩:=H en (by rw[hk.envl];exact hen);have C:=AA (KY _ _ g _ hR (Ft hk hen) hg);have hel:(en:Int)<k.envs.length:=by rw[hk.envl];omega
 obtain⟨_,_,x2,_⟩:=AB N0;have hn0:¬(en:Int)<0:=by omega
 clear h hk H hR N0;go_in;go_wp2_with fail;generalize w.alloc _=W0 at*;refine C.out.mono ?_;rintro e w1 ⟨rfl,b1⟩;go_wp2_with fail;go_ret;exact⟨rfl,hb0.trans (b1.mono hb0.size)⟩
theorem Nn (m i e c:Value) (k:AN) (x:Int) (w:World) (h:BJ w m k.mem) (hi:BH w i k.infos) (hm:Bg k.mem=true) (hl:k.infos.length=12) (hx:x≤9223372036854775807):
 Calls prog 287 #[.agg #[m,i,e,c], .int .i64 x] w fun r w'=>∃v',r= .returned v'∧AE w.heap.size w' v' (Ak (Iu k x))∧Below w.heap.size w w':=by
 have N0:=heap_alloc_new w (.cells #[m,i,e,c] 29);have hb0:=AG w (.cells #[m,i,e,c] 29);obtain⟨x0,x1,_,_⟩:=AB N0;have hlt0:=Ao N0;cases hg:BX x
 ·have V:=AA (Do hg)
  have E:Iu k x=[]:=by unfold Iu;rw[hg];rfl
  rw[E];have o1:=Fh (w.alloc (.cells #[m,i,e,c] 29));simp only[World.size_alloc] at o1;clear hg E;go_in;go_wp2_with (go_at_call 270;refine(Cc _ _ hx).mono ?_;rintro e w' ⟨rfl,rfl⟩;rw[V.out]);go_ret;exact⟨_,rfl,Kb o1 (Nat.le_succ _),hb0.alloc hb0.size _⟩
 ·have V:=AA (Di hg)
  have hF:=DZ hg;have BE:Iu k x=Ax x::(if(infoAt k.infos (Ax x)).k=2 then named (AL k.mem (Ax x)) else[]):=by unfold Iu;rw[hg,if_pos rfl]
  rw[BE];generalize Ax x=o at*;obtain⟨ai,ci,rfl,_,_,HI⟩:=A3.open As (by decide) (A3.below hi hb0);obtain⟨bi,offi,rfl,hbi,D0,_,_⟩:=HI.infoCells (show o<k.infos.length by omega);have hol:(o:Int)<k.infos.length:=by omega
  have ho0:¬(o:Int)<0:=by omega
  have o1:=Sl (w.alloc (.cells #[m, .slice (some ⟨bi,offi,none⟩) k.infos.length ci,e,c] 29)) o;clear hg BE HI hi
  by_cases h2:(infoAt k.infos o).k=2
  ·have t2:((infoAt k.infos o).k !=2)=false:=by simp[h2]
   rw[if_pos h2];have hml:=(Af.1 hm).1;obtain⟨am,cm,rfl,_,_,HM⟩:=(h.below hb0).open;obtain⟨bm,offm,u,rfl,hbm,DM,hR⟩:=HM o (by omega);have hom:(o:Int)<k.mem.length:=by omega
   have hrl:=(BG.1 ((Af.1 hm).2 o hF)).1;have CN:=AA (fun W (hW:Below _ _ W)=>IM u (AL k.mem o) W (Ap.below hR hW) (by omega) (K9 hm hF));have hnl:=PW hm hF;obtain⟨_,_,rfl,_⟩:=hR.open;generalize named (AL k.mem o)=ns at*;simp only[World.size_alloc] at o1;have hbm':=hbm;simp only[World.size_alloc] at hbm';clear h2 h hm hl HM hR hml hrl N0;go_in;go_wp2_with (go_at_call 270;refine(Cc _ _ hx).mono ?_;rintro e w' ⟨rfl,rfl⟩;rw[V.out]);generalize w.alloc _=W0 at*;have C:=AA (CN.out _ (AG W0 (.cells #[.int .i64 o] 3)));refine C.out.mono ?_;rintro r w1 ⟨v1,rfl,n1,b1⟩;have O1:=AA (AE.below o1 b1);have hbw:=(AG W0 (.cells #[.int .i64 o] 3)).trans (b1.mono (AG W0 (.cells #[.int .i64 o] 3)).size);have hws:=hbw.size;have hb1:=hb0.trans (hbw.mono hb0.size);have HRd:=AA (AE.rd n1);have Hb1:=AA hb1;obtain⟨az,cz,rfl,hcz⟩:=D5 n1;clear o1 n1 b1 hb1 hbw CN C x0 x1 D0 DM;go_wp2_with (at_builtin;go_must (refine BW (lo:=w.heap.size+1) (n:=1) (xs:=(Ak [o]).map (Value.int .i64)) (m:=ns.length) (news:=(Ak ns).map (Value.int .i64)) rfl rfl 3 (.int .i64 0) 1 8 underlying30 Tryz.infoInt rfl (by decide) rfl (JF O1.out (Below.refl _ _)) rfl (by have:=HRd.out;unfold Ap at this;rw[Ce] at this;exact this) (Jc _) (by unfold maxLen;omega) (by omega) (by omega) ?_;intro o' w9 k1 k2 k3 k4));go_ret;exact⟨_,rfl,Kb (Ge (ys:=[o]) (zs:=ns) k1) (Nat.le_succ _),Hb1.out.trans (k4.mono (Nat.le_succ _))⟩
  ·have t2:((infoAt k.infos o).k !=2)=true:=by simp[h2]
   rw[if_neg h2];simp only[World.size_alloc] at o1;obtain⟨_,_,rfl,_⟩:=h.open;clear h2 h hm hl N0;go_in;go_wp2_with (go_at_call 270;refine(Cc _ _ hx).mono ?_;rintro e w' ⟨rfl,rfl⟩;rw[V.out]);go_ret;exact⟨_,rfl,Kb o1 (Nat.le_succ _),hb0.alloc hb0.size _⟩
theorem VA {lo:Nat} {w:World} {ops:Array Oper} {rest:List Oper} {o:Oper} {a:Act} {Q:Exit→Act→World→Prop} {s x:Operand} {t:TypeId}
 (hgd:o.guard=none) (ho:o.op= .call {callee:= .builtin .append,args:= #[s,x],argTypes:= #[t,t]})
 (ht:prog.underlying t=some (.slice 3)) {v u:Value} {xs:List Int} (hs:a.eval s=v) (hown:AE lo w v [])
 (hx:a.eval x=u) (hr:Ap w u xs) (h63:xs.length≤1048576) (hlo:lo≤w.heap.size)
 (hK:∀v' w',AE lo w' v' xs→Below lo w w'→wpList prog ops Q rest (a.put o.dst v') w'):wpList prog ops Q (o::rest) a w:=by
 refine BW (n:=0) (xs:=[]) (m:=xs.length) (news:=xs.map (Value.int .i64)) hgd ho 3 (.int .i64 0) 1 8 ht Tryz.infoInt rfl (by decide) hs hown hx hr (Jc _) ?_ ?_ hlo fun v' w' k1 _ _ k4=>hK v' w' ?_ k4
 ·unfold maxLen;omega
 ·omega
 ·unfold AE
  rw[Nat.zero_add] at k1;exact k1
theorem Rk (v:Value) (m:List (List Int)) (w:World) (h:BJ w v m) (hl:m.length≤100) (hr:∀f,f<m.length→(AL m f).length≤100):
 Calls prog 144 #[v] w fun e w'=>∃v' vs,e= .returned v'∧Ah w.heap.size w' v' vs m∧Below w.heap.size w w':=by
 obtain⟨a,c,rfl,hc,hcm,H⟩:=h.open;unfold maxLen at hcm;have HH:=AA H;have HR:=AA hr;clear h H hr;go_in;go_wp2_with fail;go_loopw [3,4] (fun o i wr=>∃k:Nat,∃vs:List Value,k≤m.length∧vs.length=k∧i= .int .i64 k∧Ah w.heap.size wr o vs (m.take k)∧Below w.heap.size w wr) (fun _ i _=>m.length - (intOf i).toNat)
 case atStart=>exact⟨0,[],by omega,rfl,rfl,⟨Cb _ _ _,FP.nil,CJ.nil⟩,AG _ _⟩
 case round=>
  obtain⟨k,vs,hk,hl2,rfl,hO,hbel⟩:=hrel;have Hl:=AA hl2;clear hl2
  by_cases hlt:k<m.length
  ·have hlti:(k:Int)<(m.length:Int):=by omega
   have hv1:vs.length≤100:=by rw[Hl.out];omega
   have hrl:=HR.out k hlt;have TK:=AA (Cv (Pf hlt));obtain⟨b,off,u,rfl,hbl,D,hR⟩:=(HH.out.below hbel) k hlt;generalize AL m k=r at*;have hR1:=AA (Ap.below hR (AG wr (.cells #[] 3)));obtain⟨_,_,rfl,_⟩:=hR.open;have HO:=AA hO;have Hbel:=AA hbel;obtain⟨_,_,rfl,_⟩:=hO.1.rd.shape;clear hR hO hbel;go_wp2_with (first|(at_builtin;refine VA rfl rfl underlying30 rfl (Fh wr) rfl hR1.out (by omega) (AG wr (.cells #[] 3)).size ?_;intro u' w2 hu hb2;have Hb2:=AA ((AG wr (.cells #[] 3)).trans hb2);have Hu:=AA hu;obtain⟨ua,uc,rfl,_⟩:=(AE.rd hu).open;clear hu hb2)|(at_builtin;go_must (refine BW (lo:=w.heap.size) (n:=vs.length) (xs:=Bj Fg vs) (m:=1) rfl rfl 30 (.slice none 0 0) 1 24 underlying24 Tryz.infoRow rfl (by decide) rfl ((HO.out.below Hb2.out).below (AG _ _)).1 rfl (Rd.newsAt _ #[_] _ 1 1 _ (by simp) rfl (by simp[maxLen])) (by simp[Value.oneCell']) (by unfold maxLen;omega) (by omega) (by have h1:=Hbel.out.size;have h2:=Hb2.out.size;simp;omega) ?_;intro o' w3 g1 g2 g3 g4)));go_roundw
   case rel=>have hb2:=Hb2.out.trans ((AG w2 (.cells #[.slice ua r.length uc] 30)).mono Hb2.out.size);have hP:=HO.out.push hb2 Hbel.out.size (Hu.out.below (AG _ _)) g1 g2;exact⟨k+1,vs++[.slice ua r.length uc],by omega,by rw[List.length_append,Hl.out];rfl,by go_num,by rw[TK.out];exact hP,(Hbel.out.trans (hb2.mono Hbel.out.size)).trans g4⟩
   case measure=>simp[intOf];omega
  ·obtain rfl:k=m.length:=by omega
   rw[List.take_length] at hO;go_wp2_with fail;go_ret;exact⟨_,vs,rfl,hO,hbel⟩
theorem Rl (w:World):Calls prog 46 #[] w fun e w'=>∃v vs,e= .returned v∧Ah w.heap.size w' v vs (List.replicate 16 [])∧Below w.heap.size w w':=by
 go_in;go_wp2_with fail;go_loopw [1,2] (fun o i wr=>∃k:Nat,∃vs:List Value,k≤16∧vs.length=k∧i= .int .i64 k∧Ah w.heap.size wr o vs (List.replicate k [])∧Below w.heap.size w wr) (fun _ i _=>16 - (intOf i).toNat)
 case atStart=>exact⟨0,[],by omega,rfl,rfl,⟨Cb _ _ _,FP.nil,CJ.nil⟩,AG _ _⟩
 case round=>
  obtain⟨k,vs,hk,hl2,rfl,hO,hbel⟩:=hrel;have Hl:=AA hl2;clear hl2
  by_cases hlt:k<16
  ·have hv1:vs.length≤16:=by rw[Hl.out];omega
   have hb2:=(AG wr (.cells #[] 3));have HO:=AA hO;have Hbel:=AA hbel;obtain⟨_,_,rfl,_⟩:=hO.1.rd.shape;clear hO hbel;go_wp2_with (at_builtin;go_must (refine BW (lo:=w.heap.size) (n:=vs.length) (xs:=Bj Fg vs) (m:=1) (news:=[.slice (some ⟨wr.heap.size,0,none⟩) 0 0]) rfl rfl 30 (.slice none 0 0) 1 24 underlying24 Tryz.infoRow rfl (by decide) rfl ((HO.out.below hb2).below (AG _ _)).1 rfl (Rd.newsAt _ #[_] _ 1 1 _ (by simp) rfl (by simp[maxLen])) (by simp[Value.oneCell']) (by unfold maxLen;omega) (by omega) (by have h1:=Hbel.out.size;have h2:=hb2.size;simp;omega) ?_;intro o' w3 g1 g2 g3 g4));go_roundw
   case rel=>have hb3:=hb2.trans ((AG (wr.alloc (.cells #[] 3)) (.cells #[.slice (some ⟨wr.heap.size,0,none⟩) 0 0] 30)).mono hb2.size);have hu:AE wr.heap.size (wr.alloc (.cells #[] 3)) (.slice (some ⟨wr.heap.size,0,none⟩) 0 0) []:=Fh wr;have hP:=HO.out.push hb3 Hbel.out.size (hu.below (AG _ _)) g1 g2;exact⟨k+1,vs++[.slice (some ⟨wr.heap.size,0,none⟩) 0 0],by omega,by rw[List.length_append,Hl.out];rfl,by go_num,by rw[List.replicate_succ'];exact hP,(Hbel.out.trans (hb3.mono Hbel.out.size)).trans g4⟩
   case measure=>simp[intOf];omega
  ·obtain rfl:k=16:=by omega
   go_wp2_with fail;go_ret;exact⟨_,vs,rfl,hO,hbel⟩
theorem Sq {w:World} {g T:Nat} {a b c d:Value} (h:w.heap[g]? =some (.cells #[a,b,c,d] T (0,0))):Rd w (.slice (some ⟨g,0,none⟩) 1 1) 4 1 [a,b,c,d]:=by
 obtain⟨h0,h1,h2,h3⟩:=AB h;refine⟨_,_,rfl,Nat.le_refl _,by simp[maxLen],rfl,nofun,fun _=>⟨g,0,rfl,fun j hj=>?_⟩⟩;rw[Nat.zero_add]
 match j,hj with
 |0,_=>exact h0
 |1,_=>exact h1
 |2,_=>exact h2
 |3,_=>exact h3
 |_+4,hj=>exact absurd hj (by omega)
theorem Vp {w:World} {b off n c sz k:Nat} {xs:List Value} (h:Rd w (.slice (some ⟨b,off,none⟩) n c) sz n xs) (hk:k≤n):Rd w (.slice (some ⟨b,off+k*sz,none⟩) (n - k) (c - k)) sz (n - k) (xs.drop (k*sz)):=by
 obtain⟨ao,c',hv,hmc,hcm,hl,hnil,hc⟩:=h;simp only[Value.slice.injEq,true_and] at hv;obtain⟨rfl,rfl⟩:=hv;have hks:k*sz+(n - k)*sz=n*sz:=by rw[←Nat.add_mul];congr 1;omega
 refine⟨_,_,rfl,by omega,by omega,by rw[List.length_drop];omega,(by intro e;cases e),fun hk0=>?_⟩;obtain⟨b',off',e,hcell⟩:=hc (by omega);obtain⟨rfl,rfl⟩:b=b'∧off=off':=by simpa using e
 refine⟨_,_,rfl,fun j hj=>?_⟩;rw[Nat.add_assoc,hcell (k*sz+j) (by omega),List.getElem?_drop]
theorem Uy {w:World} {q cap:Nat} {F:List Aa} (h:A3 4 AP w (.slice (some ⟨q,0,none⟩) F.length cap) F) (h1:1≤F.length):A3 4 AP w (.slice (some ⟨q,4,none⟩) (F.length - 1) (cap - 1)) (F.drop 1):=by
 have r:=Vp h (k:=1) h1;cases F with
 |nil=>simp at h1
 |cons y F=>exact r
theorem ON (v:Value) (c:List Aa) (x:Aa) (w:World) (h:Bn w v c) (hl:c.length≤4):
 Calls prog 291 #[v, .agg #[.int .i64 x.e, .int .i64 x.p, .int .i64 x.f, .bool x.w]] w fun r w'=>∃v',r= .returned v'∧AJ w.heap.size 140 4 AP w' v' (FM c x)∧Below w.heap.size w w':=by
 obtain⟨a,cp,rfl,hc,hcm,H⟩:=A3.open Bi (by decide) h;have hc4:c.length≤1000:=by omega
 unfold maxLen at hcm;have HH:=AA H;obtain⟨N0,N1,hb0,hs0⟩:=Ph w (.cells #[.int .i64 x.e, .int .i64 x.p, .int .i64 x.f, .bool x.w] 140) (.cells #[] 140);have o1:AJ (w.heap.size+1) 140 4 AP ((w.alloc (.cells #[.int .i64 x.e, .int .i64 x.p, .int .i64 x.f, .bool x.w] 140)).alloc (.cells #[] 140)) (.slice (some ⟨w.heap.size+1,0,none⟩) 0 0) []:=by have:=CY AP (w.alloc (.cells #[.int .i64 x.e, .int .i64 x.p, .int .i64 x.f, .bool x.w] 140)) 140 4;simp only[World.size_alloc] at this;exact this
 have HL4:=AA hl;have PE:FM c x=(if(c.filter fun y=>!A5 x.e x.p y).length=4 then(c.filter fun y=>!A5 x.e x.p y).drop 1 else c.filter fun y=>!A5 x.e x.p y)++[x]:=rfl;have HPE:=AA PE;clear h H hl PE hs0 N1;go_in;go_wp2_with fail;generalize(w.alloc _).alloc _=wa at o1 hb0 N0 ⊢;generalize(Value.slice (some ⟨w.heap.size+1,0,none⟩) 0 0)=o at o1 ⊢;go_loopw [5,6] (fun o ix wr=>∃k:Nat,k≤c.length∧ix= .int .i64 k∧AJ (w.heap.size+1) 140 4 AP wr o ((c.take k).filter fun y=>!A5 x.e x.p y)∧Below w.heap.size w wr∧wr.heap[w.heap.size]? =some (.cells #[.int .i64 x.e, .int .i64 x.p, .int .i64 x.f, .bool x.w] 140 (0,0))) (fun _ ix _=>c.length - (intOf ix).toNat)
 case atStart=>exact⟨0,Nat.zero_le _,rfl,o1,hb0,N0⟩
 case round=>
  clear o1 hb0 N0;obtain⟨k,hk,rfl,hown,hb,hN⟩:=hrel
  by_cases hlt:k<c.length
  ·have hlti:(k:Int)<(c.length:Int):=by omega
   obtain⟨b,off,rfl,hbl,D0,D1,D2,D3⟩:=(HH.out.below hb).cachedCells hlt;have Nx:=AA (JZ (p:=fun y=>!A5 x.e x.p y) (Gb hlt));have hnl:=Gq (p:=fun y=>!A5 x.e x.p y) (l:=c) (k:=k);generalize Ac c k=y at D0 D1 D2 D3 Nx;generalize(c.take k).filter (fun y=>!A5 x.e x.p y)=ys at hown Nx hnl;obtain⟨x0,x1,x2,x3⟩:=AB hN;have hlx:=Ao hN;have Hown:=AA hown;have Hb:=AA hb;have HN:=AA hN;obtain⟨_,_,rfl,_⟩:=hown.rd.shape;clear hown hb hN
   by_cases e1:y.e=x.e
   ·by_cases e2:y.p=x.p
    ·skip
     have t1:(y.e !=x.e)=false:=by simp[e1]
     have t2:(y.p !=x.p)=false:=by simp[e2]
     have Nx':=AA (show(c.take (k+1)).filter (fun y=>!A5 x.e x.p y)=ys by rw[Nx.out];simp[A5,e1,e2]);clear Nx e1 e2;go_wp2_with fail;refine AH 17 mixed (by kernel_rfl) 50 rfl (by kernel_rfl) (fun ix vv ww=>match ix with
      |0=>vv= .slice (some ⟨b,off,none⟩) c.length cp
      |1=>vv= .int .i64 k
      |2=>vv= .pointer (some ⟨b,off+k*4,none⟩)
      |3=>vv= .pointer (some ⟨b,off+k*4,none⟩)
      |4=>vv= .int .i64 (y.e)
      |5=>vv= .pointer (some ⟨w.heap.size,0,none⟩)
      |6=>vv= .int .i64 (x.e)
      |7=>vv= .bool false
      |8=>vv= .bool false
      |9=>vv= .slice (some ⟨b,off,none⟩) c.length cp
      |10=>vv= .int .i64 k
      |11=>vv= .pointer (some ⟨b,off+k*4,none⟩)
      |12=>vv= .pointer (some ⟨b,off+k*4+1,none⟩)
      |13=>vv= .int .i64 (y.p)
      |14=>vv= .pointer (some ⟨w.heap.size,1,none⟩)
      |15=>vv= .int .i64 (x.p)
      |16=>vv= .bool false
      |_=>True) ?_ ?_ ?_
     ·intro i hi vv wz ww' hbz hz
      match i,hi with
      |0,_|1,_|2,_|3,_|4,_|5,_|6,_|7,_|8,_|9,_|10,_|11,_|12,_|13,_|14,_|15,_|16,_=>exact hz
      |_+17,hq=>exact absurd hq (by omega)
     ·intro i hi o ho a wx Hb Hd hG K HK
      match i,hi with
      |0,_=>exact eM ho HK (eb (Aj Hb 0))
      |1,_=>exact eM ho HK (eb (Aj Hb 6))
      |2,_=>obtain rfl:=So_ ho;have d0:(a.tmps[14]?.getD undef)= .slice (some ⟨b,off,none⟩) c.length cp:=AD Hd 0;have d1:(a.tmps[15]?.getD undef)= .int .i64 k:=AD Hd 1;clear Hd Hb;refine AI.of rfl ?_;go_simp;exact HK.out _ _ rfl (Below.refl _ _)
      |3,_=>exact eF ho HK Jr (et (AD Hd 2))
      |4,_=>exact eL ho HK (et (AD Hd 3)) (DA (bc hG hbl D0))
      |5,_=>exact eF ho HK Jr (eb (Aj Hb 3))
      |6,_=>exact eL ho HK (et (AD Hd 5)) (DA (bc hG hlx x0))
      |7,_=>obtain rfl:=So_ ho;have d4:(a.tmps[18]?.getD undef)= .int .i64 (y.e):=AD Hd 4;have d6:(a.tmps[20]?.getD undef)= .int .i64 (x.e):=AD Hd 6;clear Hd Hb;refine AI.of rfl ?_;go_simp;exact HK.out _ _ rfl (Below.refl _ _)
      |8,_=>exact eM ho HK (et (AD Hd 7))
      |9,_=>exact eM ho HK (eb (Aj Hb 0)) (hw:=gy rfl rfl (AD Hd 8))
      |10,_=>exact eM ho HK (eb (Aj Hb 6)) (hw:=gy rfl rfl (AD Hd 8))
      |11,_=>obtain rfl:=So_ ho;have d9:(a.tmps[23]?.getD undef)= .slice (some ⟨b,off,none⟩) c.length cp:=AD Hd 9;have d10:(a.tmps[24]?.getD undef)= .int .i64 k:=AD Hd 10;have d8:(a.tmps[22]?.getD undef)= .bool false:=AD Hd 8;clear Hd Hb;refine AI.yes rfl rfl d8 ?_;go_simp;exact HK.out _ _ rfl (Below.refl _ _)
      |12,_=>exact eF ho HK MK (et (AD Hd 11)) (hw:=gy rfl rfl (AD Hd 8))
      |13,_=>exact eL ho HK (et (AD Hd 12)) (DA (bc hG hbl D1)) (hw:=gy rfl rfl (AD Hd 8))
      |14,_=>exact eF ho HK MK (eb (Aj Hb 3)) (hw:=gy rfl rfl (AD Hd 8))
      |15,_=>exact eL ho HK (et (AD Hd 14)) (DA (bc hG hlx x1)) (hw:=gy rfl rfl (AD Hd 8))
      |16,_=>obtain rfl:=So_ ho;have d13:(a.tmps[27]?.getD undef)= .int .i64 (y.p):=AD Hd 13;have d15:(a.tmps[29]?.getD undef)= .int .i64 (x.p):=AD Hd 15;have d8:(a.tmps[22]?.getD undef)= .bool false:=AD Hd 8;clear Hd Hb;refine AI.yes rfl rfl d8 ?_;go_simp;exact HK.out _ _ rfl (Below.refl _ _)
      |_+17,hq=>exact absurd hq (by omega)
     ·intro vs wx hR hG
      have q8:(vs 8)= .bool false:=BI hR 8;have q16:(vs 16)= .bool false:=BI hR 16;clear hR;simp only[Ai,AX,List.range,List.range.loop,List.foldl_cons,List.foldl_nil,q8,q16];simp;clear q8 q16;go_wp2_with fail;go_roundw
      case rel=>exact⟨k+1,by omega,by go_num,by rw[Nx'.out];exact AJ.below Hown.out hG,Hb.out.trans (hG.mono Hb.out.size),AF HN.out hG⟩
      case measure=>simp[intOf];omega
    ·skip
     have t1:(y.e !=x.e)=false:=by simp[e1]
     have t2:(y.p !=x.p)=true:=by simp[e2]
     have Nx':=AA (show(c.take (k+1)).filter (fun y=>!A5 x.e x.p y)=ys++[y] by rw[Nx.out];simp[A5,e1,e2]);clear Nx e1 e2;go_wp2_with fail;refine AH 17 mixed (by kernel_rfl) 50 rfl (by kernel_rfl) (fun ix vv ww=>match ix with
      |0=>vv= .slice (some ⟨b,off,none⟩) c.length cp
      |1=>vv= .int .i64 k
      |2=>vv= .pointer (some ⟨b,off+k*4,none⟩)
      |3=>vv= .pointer (some ⟨b,off+k*4,none⟩)
      |4=>vv= .int .i64 (y.e)
      |5=>vv= .pointer (some ⟨w.heap.size,0,none⟩)
      |6=>vv= .int .i64 (x.e)
      |7=>vv= .bool false
      |8=>vv= .bool false
      |9=>vv= .slice (some ⟨b,off,none⟩) c.length cp
      |10=>vv= .int .i64 k
      |11=>vv= .pointer (some ⟨b,off+k*4,none⟩)
      |12=>vv= .pointer (some ⟨b,off+k*4+1,none⟩)
      |13=>vv= .int .i64 (y.p)
      |14=>vv= .pointer (some ⟨w.heap.size,1,none⟩)
      |15=>vv= .int .i64 (x.p)
      |16=>vv= .bool true
      |_=>True) ?_ ?_ ?_
     ·intro i hi vv wz ww' hbz hz
      match i,hi with
      |0,_|1,_|2,_|3,_|4,_|5,_|6,_|7,_|8,_|9,_|10,_|11,_|12,_|13,_|14,_|15,_|16,_=>exact hz
      |_+17,hq=>exact absurd hq (by omega)
     ·intro i hi o ho a wx Hb Hd hG K HK
      match i,hi with
      |0,_=>exact eM ho HK (eb (Aj Hb 0))
      |1,_=>exact eM ho HK (eb (Aj Hb 6))
      |2,_=>obtain rfl:=So_ ho;have d0:(a.tmps[14]?.getD undef)= .slice (some ⟨b,off,none⟩) c.length cp:=AD Hd 0;have d1:(a.tmps[15]?.getD undef)= .int .i64 k:=AD Hd 1;clear Hd Hb;refine AI.of rfl ?_;go_simp;exact HK.out _ _ rfl (Below.refl _ _)
      |3,_=>exact eF ho HK Jr (et (AD Hd 2))
      |4,_=>exact eL ho HK (et (AD Hd 3)) (DA (bc hG hbl D0))
      |5,_=>exact eF ho HK Jr (eb (Aj Hb 3))
      |6,_=>exact eL ho HK (et (AD Hd 5)) (DA (bc hG hlx x0))
      |7,_=>obtain rfl:=So_ ho;have d4:(a.tmps[18]?.getD undef)= .int .i64 (y.e):=AD Hd 4;have d6:(a.tmps[20]?.getD undef)= .int .i64 (x.e):=AD Hd 6;clear Hd Hb;refine AI.of rfl ?_;go_simp;exact HK.out _ _ rfl (Below.refl _ _)
      |8,_=>exact eM ho HK (et (AD Hd 7))
      |9,_=>exact eM ho HK (eb (Aj Hb 0)) (hw:=gy rfl rfl (AD Hd 8))
      |10,_=>exact eM ho HK (eb (Aj Hb 6)) (hw:=gy rfl rfl (AD Hd 8))
      |11,_=>obtain rfl:=So_ ho;have d9:(a.tmps[23]?.getD undef)= .slice (some ⟨b,off,none⟩) c.length cp:=AD Hd 9;have d10:(a.tmps[24]?.getD undef)= .int .i64 k:=AD Hd 10;have d8:(a.tmps[22]?.getD undef)= .bool false:=AD Hd 8;clear Hd Hb;refine AI.yes rfl rfl d8 ?_;go_simp;exact HK.out _ _ rfl (Below.refl _ _)
      |12,_=>exact eF ho HK MK (et (AD Hd 11)) (hw:=gy rfl rfl (AD Hd 8))
      |13,_=>exact eL ho HK (et (AD Hd 12)) (DA (bc hG hbl D1)) (hw:=gy rfl rfl (AD Hd 8))
      |14,_=>exact eF ho HK MK (eb (Aj Hb 3)) (hw:=gy rfl rfl (AD Hd 8))
      |15,_=>exact eL ho HK (et (AD Hd 14)) (DA (bc hG hlx x1)) (hw:=gy rfl rfl (AD Hd 8))
      |16,_=>obtain rfl:=So_ ho;have d13:(a.tmps[27]?.getD undef)= .int .i64 (y.p):=AD Hd 13;have d15:(a.tmps[29]?.getD undef)= .int .i64 (x.p):=AD Hd 15;have d8:(a.tmps[22]?.getD undef)= .bool false:=AD Hd 8;clear Hd Hb;refine AI.yes rfl rfl d8 ?_;go_simp;exact HK.out _ _ rfl (Below.refl _ _)
      |_+17,hq=>exact absurd hq (by omega)
     ·intro vs wx hR hG
      have q8:(vs 8)= .bool false:=BI hR 8;have q16:(vs 16)= .bool true:=BI hR 16;clear hR;simp only[Ai,AX,List.range,List.range.loop,List.foldl_cons,List.foldl_nil,q8,q16];simp;clear q8 q16;have D0w:=(hG.cell (p:=⟨b,off+k*4,none⟩) hbl).trans D0;have D1w:=(hG.cell (p:=⟨b,off+k*4+1,none⟩) hbl).trans D1;have D2w:=(hG.cell (p:=⟨b,off+k*4+2,none⟩) hbl).trans D2;have D3w:=(hG.cell (p:=⟨b,off+k*4+3,none⟩) hbl).trans D3;have hbx:=Hb.out.trans (hG.mono Hb.out.size);have HOx:=AA (AJ.below Hown.out hG);have hNx:=AF HN.out hG;clear D0 D1 D2 D3;go_wp2_with (at_builtin;go_must (refine BW (lo:=w.heap.size+1) (n:=ys.length) (xs:=Bj AP ys) (m:=1) (news:=[.int .i64 y.e, .int .i64 y.p, .int .i64 y.f, .bool y.w]) rfl rfl 140 (.agg #[.int .i64 0, .int .i64 0, .int .i64 0, .bool false]) 4 32 underlying27 Tryz.infoCachedK rfl (by decide) rfl (Bw HOx.out (AG _ _)) rfl (Rd.newsAt _ #[.int .i64 y.e, .int .i64 y.p, .int .i64 y.f, .bool y.w] _ 4 1 _ rfl (by simp) (by simp[maxLen])) (by simp[Value.oneCell']) (by unfold maxLen;omega) (by omega) (by have:=hbx.size;have:=Ao hNx;simp;omega) ?_;intro o' w9 k1 k2 k3 k4));go_roundw
      case rel=>exact⟨k+1,by omega,by go_num,by rw[Nx'.out];unfold AJ;rw[BS,EO,List.length_append];exact k1,(hbx.alloc hbx.size _).trans (k4.mono (Nat.le_succ _)),(k2.block w.heap.size (by have:=Ao hNx;simp;omega) (fun e=>by have:=(HOx.out.lt _ e.symm).1;omega)).trans (AF hNx (AG _ _))⟩
      case measure=>simp[intOf];omega
   ·skip
    have t1:(y.e !=x.e)=true:=by simp[e1]
    have Nx':=AA (show(c.take (k+1)).filter (fun y=>!A5 x.e x.p y)=ys++[y] by rw[Nx.out];simp[A5,e1]);clear Nx e1;go_wp2_with fail;refine AH 17 mixed (by kernel_rfl) 50 rfl (by kernel_rfl) (fun ix vv ww=>match ix with
     |0=>vv= .slice (some ⟨b,off,none⟩) c.length cp
     |1=>vv= .int .i64 k
     |2=>vv= .pointer (some ⟨b,off+k*4,none⟩)
     |3=>vv= .pointer (some ⟨b,off+k*4,none⟩)
     |4=>vv= .int .i64 (y.e)
     |5=>vv= .pointer (some ⟨w.heap.size,0,none⟩)
     |6=>vv= .int .i64 (x.e)
     |7=>vv= .bool true
     |8=>vv= .bool true
     |9|10|11|12|13|14|15|16=>vv=undef
     |_=>True) ?_ ?_ ?_
    ·intro i hi vv wz ww' hbz hz
     match i,hi with
     |0,_|1,_|2,_|3,_|4,_|5,_|6,_|7,_|8,_|9,_|10,_|11,_|12,_|13,_|14,_|15,_|16,_=>exact hz
     |_+17,hq=>exact absurd hq (by omega)
    ·intro i hi o ho a wx Hb Hd hG K HK
     match i,hi with
     |0,_=>exact eM ho HK (eb (Aj Hb 0))
     |1,_=>exact eM ho HK (eb (Aj Hb 6))
     |2,_=>obtain rfl:=So_ ho;have d0:(a.tmps[14]?.getD undef)= .slice (some ⟨b,off,none⟩) c.length cp:=AD Hd 0;have d1:(a.tmps[15]?.getD undef)= .int .i64 k:=AD Hd 1;clear Hd Hb;refine AI.of rfl ?_;go_simp;exact HK.out _ _ rfl (Below.refl _ _)
     |3,_=>exact eF ho HK Jr (et (AD Hd 2))
     |4,_=>exact eL ho HK (et (AD Hd 3)) (DA (bc hG hbl D0))
     |5,_=>exact eF ho HK Jr (eb (Aj Hb 3))
     |6,_=>exact eL ho HK (et (AD Hd 5)) (DA (bc hG hlx x0))
     |7,_=>obtain rfl:=So_ ho;have d4:(a.tmps[18]?.getD undef)= .int .i64 (y.e):=AD Hd 4;have d6:(a.tmps[20]?.getD undef)= .int .i64 (x.e):=AD Hd 6;clear Hd Hb;refine AI.of rfl ?_;go_simp;exact HK.out _ _ rfl (Below.refl _ _)
     |8,_=>exact eM ho HK (et (AD Hd 7))
     |9,_|10,_|11,_|12,_|13,_|14,_|15,_|16,_=>exact eB ho HK (AD Hd 8)
     |_+17,hq=>exact absurd hq (by omega)
    ·intro vs wx hR hG
     have q8:(vs 8)= .bool true:=BI hR 8;have q16:(vs 16)=undef:=BI hR 16;clear hR;simp only[Ai,AX,List.range,List.range.loop,List.foldl_cons,List.foldl_nil,q8,q16];simp;clear q8 q16;have D0w:=(hG.cell (p:=⟨b,off+k*4,none⟩) hbl).trans D0;have D1w:=(hG.cell (p:=⟨b,off+k*4+1,none⟩) hbl).trans D1;have D2w:=(hG.cell (p:=⟨b,off+k*4+2,none⟩) hbl).trans D2;have D3w:=(hG.cell (p:=⟨b,off+k*4+3,none⟩) hbl).trans D3;have hbx:=Hb.out.trans (hG.mono Hb.out.size);have HOx:=AA (AJ.below Hown.out hG);have hNx:=AF HN.out hG;clear D0 D1 D2 D3;go_wp2_with (at_builtin;go_must (refine BW (lo:=w.heap.size+1) (n:=ys.length) (xs:=Bj AP ys) (m:=1) (news:=[.int .i64 y.e, .int .i64 y.p, .int .i64 y.f, .bool y.w]) rfl rfl 140 (.agg #[.int .i64 0, .int .i64 0, .int .i64 0, .bool false]) 4 32 underlying27 Tryz.infoCachedK rfl (by decide) rfl (Bw HOx.out (AG _ _)) rfl (Rd.newsAt _ #[.int .i64 y.e, .int .i64 y.p, .int .i64 y.f, .bool y.w] _ 4 1 _ rfl (by simp) (by simp[maxLen])) (by simp[Value.oneCell']) (by unfold maxLen;omega) (by omega) (by have:=hbx.size;have:=Ao hNx;simp;omega) ?_;intro o' w9 k1 k2 k3 k4));go_roundw
     case rel=>exact⟨k+1,by omega,by go_num,by rw[Nx'.out];unfold AJ;rw[BS,EO,List.length_append];exact k1,(hbx.alloc hbx.size _).trans (k4.mono (Nat.le_succ _)),(k2.block w.heap.size (by have:=Ao hNx;simp;omega) (fun e=>by have:=(HOx.out.lt _ e.symm).1;omega)).trans (AF hNx (AG _ _))⟩
     case measure=>simp[intOf];omega
  ·obtain rfl:k=c.length:=by omega
   rw[List.take_length] at hown;have hfl:(c.filter fun y=>!A5 x.e x.p y).length≤c.length:=List.length_filter_le ..;have hPE:=HPE.out;generalize(c.filter fun y=>!A5 x.e x.p y)=F at*;have HPE:=AA hPE;clear hPE;have hF4:F.length≤4:=by have:=HL4.out;omega
   obtain⟨x0,x1,x2,x3⟩:=AB hN;have hlx:=Ao hN;have HO:=AA hown
   by_cases h4:F.length=4
   ·have P:=AA (show FM c x=F.drop 1++[x] by rw[HPE.out,if_pos h4])
    obtain⟨q,cap,rfl,c1,c2,q1,q2,hfz⟩:=hown.shapeOwn (by omega);unfold maxLen at c2;have h4i:(4:Int)≤F.length:=by omega
    have H4:=AA h4;clear h4 hown;go_wp2_with fail;have RG:=AA (Uy (AJ.rd HO.out) (by have:=H4.out;omega));have hG3:(F.drop 1).length≤3:=by rw[List.length_drop];have:=H4.out;omega
    generalize F.drop 1=G at*;generalize(Value.slice (some ⟨q,4,none⟩) (F.length - 1) (cap - 1))=u5 at RG ⊢;clear HO;refine AH 5 mixed (by kernel_rfl) 50 rfl (by kernel_rfl) (fun ix vv ww=>match ix with
     |0=>∃g,vv= .slice (some ⟨g,0,none⟩) 0 0∧wr.heap.size≤g∧ww.heap[g]? =some (.cells #[] 140 (0,0))
     |1=>vv=u5
     |2=>AJ wr.heap.size 140 4 AP ww vv G
     |3=>vv= .agg #[.int .i64 (x.e), .int .i64 (x.p), .int .i64 (x.f), .bool (x.w)]
     |4=>∃g,vv= .slice (some ⟨g,0,none⟩) 1 1∧wr.heap.size≤g∧ww.heap[g]? =some (.cells #[.int .i64 x.e, .int .i64 x.p, .int .i64 x.f, .bool x.w] 140 (0,0))
     |_=>True) ?_ ?_ ?_
    ·intro i hi vv wz ww' hbz hz
     match i,hi with
     |0,_=>exact(by obtain⟨g,h0,h1,h2⟩:=hz;exact⟨g,h0,h1,AF h2 hbz⟩)
     |1,_=>exact hz
     |2,_=>exact(AJ.below hz hbz)
     |3,_=>exact hz
     |4,_=>exact(by obtain⟨g,h0,h1,h2⟩:=hz;exact⟨g,h0,h1,AF h2 hbz⟩)
    ·intro i hi o ho a wx Hb Hd hG K HK
     match i,hi with
     |0,_=>obtain rfl:=So_ ho;clear Hd Hb;refine AI.of rfl ?_;go_simp;exact HK.out _ _ ⟨_,rfl,hG.size,heap_alloc_new _ _⟩ (AG _ _)
     |1,_=>exact eM ho HK (eb (Aj Hb 5))
     |2,_=>
      obtain rfl:=So_ ho;have d0:∃g,(a.tmps[44]?.getD undef)= .slice (some ⟨g,0,none⟩) 0 0∧wr.heap.size≤g∧wx.heap[g]? =some (.cells #[] 140 (0,0)):=AD Hd 0
      have d1:(a.tmps[45]?.getD undef)=u5:=AD Hd 1;clear Hd Hb;refine AI.of rfl ?_;obtain⟨g,d0a,d0b,d0c⟩:=d0;obtain⟨v7,w4,hrun,r1,r2,_⟩:=Ct (lo:=wr.heap.size) (w:=wx) (t:=27) (ty:=27) 140 _ 4 32 underlying27 Tryz.infoCachedK rfl (by decide) d0c d0b (A3.below RG.out hG) (Jd _) (by omega);refine BY rfl (BR d0a) (BR d1) hrun ?_;exact HK.out _ _ r1 r2
     |3,_=>exact eL ho HK (eb (Aj Hb 3)) (Vg (bc hG hlx x0) (bc hG hlx x1) (bc hG hlx x2) (bc hG hlx x3))
     |4,_=>obtain rfl:=So_ ho;have d3:(a.tmps[47]?.getD undef)= .agg #[.int .i64 (x.e), .int .i64 (x.p), .int .i64 (x.f), .bool (x.w)]:=AD Hd 3;clear Hd Hb;refine AI.of rfl ?_;go_simp;exact HK.out _ _ ⟨_,rfl,hG.size,heap_alloc_new _ _⟩ (AG _ _)
    ·intro vs wx hR hG
     have q2:AJ wr.heap.size 140 4 AP wx (vs 2) G:=BI hR 2;have q4:∃g,(vs 4)= .slice (some ⟨g,0,none⟩) 1 1∧wr.heap.size≤g∧wx.heap[g]? =some (.cells #[.int .i64 x.e, .int .i64 x.p, .int .i64 x.f, .bool x.w] 140 (0,0)):=BI hR 4
     clear hR;simp only[Ai,AX,List.range,List.range.loop,List.foldl_cons,List.foldl_nil];simp;generalize vs 2=z2 at q2 ⊢;generalize vs 4=z4 at q4 ⊢;obtain⟨g4,rfl,_,q4⟩:=q4;have Q2:=AA q2;have Q4:=AA (Sq q4);have hbx:=hb.trans (hG.mono hb.size);have hgs:=hG.size;obtain⟨_,_,rfl,_⟩:=q2.rd.shape;clear q2 q4 x0 x1 x2 x3;go_wp2_with (at_builtin;go_must (refine BW (lo:=wr.heap.size) (n:=G.length) (xs:=Bj AP G) (m:=1) (news:=[.int .i64 x.e, .int .i64 x.p, .int .i64 x.f, .bool x.w]) rfl rfl 140 (.agg #[.int .i64 0, .int .i64 0, .int .i64 0, .bool false]) 4 32 underlying27 Tryz.infoCachedK rfl (by decide) rfl Q2.out rfl Q4.out (by simp[Value.oneCell']) (by unfold maxLen;omega) (by omega) hgs ?_;intro o' w9 k1 k2 k3 k4));go_ret;exact⟨_,rfl,by rw[P.out];unfold AJ;rw[BS,EO,List.length_append];exact BQ k1 hb.size,hbx.trans (k4.mono hb.size)⟩
   ·have P:=AA (show FM c x=F++[x] by rw[HPE.out,if_neg h4])
    obtain⟨_,_,e5,_,_⟩:=hown.rd.shape;have hlt4:¬(4:Int)≤F.length:=by omega
    have RG:=AA hown.rd;have hG3:F.length≤3:=by omega
    clear h4 HO;cases e5;clear hown;go_wp2_with fail;generalize F=G at*;generalize(Value.slice _ G.length _)=u5 at RG ⊢;refine AH 5 mixed (by kernel_rfl) 50 rfl (by kernel_rfl) (fun ix vv ww=>match ix with
     |0=>∃g,vv= .slice (some ⟨g,0,none⟩) 0 0∧wr.heap.size≤g∧ww.heap[g]? =some (.cells #[] 140 (0,0))
     |1=>vv=u5
     |2=>AJ wr.heap.size 140 4 AP ww vv G
     |3=>vv= .agg #[.int .i64 (x.e), .int .i64 (x.p), .int .i64 (x.f), .bool (x.w)]
     |4=>∃g,vv= .slice (some ⟨g,0,none⟩) 1 1∧wr.heap.size≤g∧ww.heap[g]? =some (.cells #[.int .i64 x.e, .int .i64 x.p, .int .i64 x.f, .bool x.w] 140 (0,0))
     |_=>True) ?_ ?_ ?_
    ·intro i hi vv wz ww' hbz hz
     match i,hi with
     |0,_=>exact(by obtain⟨g,h0,h1,h2⟩:=hz;exact⟨g,h0,h1,AF h2 hbz⟩)
     |1,_=>exact hz
     |2,_=>exact(AJ.below hz hbz)
     |3,_=>exact hz
     |4,_=>exact(by obtain⟨g,h0,h1,h2⟩:=hz;exact⟨g,h0,h1,AF h2 hbz⟩)
    ·intro i hi o ho a wx Hb Hd hG K HK
     match i,hi with
     |0,_=>obtain rfl:=So_ ho;clear Hd Hb;refine AI.of rfl ?_;go_simp;exact HK.out _ _ ⟨_,rfl,hG.size,heap_alloc_new _ _⟩ (AG _ _)
     |1,_=>exact eM ho HK (eb (Aj Hb 5))
     |2,_=>
      obtain rfl:=So_ ho;have d0:∃g,(a.tmps[44]?.getD undef)= .slice (some ⟨g,0,none⟩) 0 0∧wr.heap.size≤g∧wx.heap[g]? =some (.cells #[] 140 (0,0)):=AD Hd 0
      have d1:(a.tmps[45]?.getD undef)=u5:=AD Hd 1;clear Hd Hb;refine AI.of rfl ?_;obtain⟨g,d0a,d0b,d0c⟩:=d0;obtain⟨v7,w4,hrun,r1,r2,_⟩:=Ct (lo:=wr.heap.size) (w:=wx) (t:=27) (ty:=27) 140 _ 4 32 underlying27 Tryz.infoCachedK rfl (by decide) d0c d0b (A3.below RG.out hG) (Jd _) (by omega);refine BY rfl (BR d0a) (BR d1) hrun ?_;exact HK.out _ _ r1 r2
     |3,_=>exact eL ho HK (eb (Aj Hb 3)) (Vg (bc hG hlx x0) (bc hG hlx x1) (bc hG hlx x2) (bc hG hlx x3))
     |4,_=>obtain rfl:=So_ ho;have d3:(a.tmps[47]?.getD undef)= .agg #[.int .i64 (x.e), .int .i64 (x.p), .int .i64 (x.f), .bool (x.w)]:=AD Hd 3;clear Hd Hb;refine AI.of rfl ?_;go_simp;exact HK.out _ _ ⟨_,rfl,hG.size,heap_alloc_new _ _⟩ (AG _ _)
    ·intro vs wx hR hG
     have q2:AJ wr.heap.size 140 4 AP wx (vs 2) G:=BI hR 2;have q4:∃g,(vs 4)= .slice (some ⟨g,0,none⟩) 1 1∧wr.heap.size≤g∧wx.heap[g]? =some (.cells #[.int .i64 x.e, .int .i64 x.p, .int .i64 x.f, .bool x.w] 140 (0,0)):=BI hR 4
     clear hR;simp only[Ai,AX,List.range,List.range.loop,List.foldl_cons,List.foldl_nil];simp;generalize vs 2=z2 at q2 ⊢;generalize vs 4=z4 at q4 ⊢;obtain⟨g4,rfl,_,q4⟩:=q4;have Q2:=AA q2;have Q4:=AA (Sq q4);have hbx:=hb.trans (hG.mono hb.size);have hgs:=hG.size;obtain⟨_,_,rfl,_⟩:=q2.rd.shape;clear q2 q4 x0 x1 x2 x3;go_wp2_with (at_builtin;go_must (refine BW (lo:=wr.heap.size) (n:=G.length) (xs:=Bj AP G) (m:=1) (news:=[.int .i64 x.e, .int .i64 x.p, .int .i64 x.f, .bool x.w]) rfl rfl 140 (.agg #[.int .i64 0, .int .i64 0, .int .i64 0, .bool false]) 4 32 underlying27 Tryz.infoCachedK rfl (by decide) rfl Q2.out rfl Q4.out (by simp[Value.oneCell']) (by unfold maxLen;omega) (by omega) hgs ?_;intro o' w9 k1 k2 k3 k4));go_ret;exact⟨_,rfl,by rw[P.out];unfold AJ;rw[BS,EO,List.length_append];exact BQ k1 hb.size,hbx.trans (k4.mono hb.size)⟩
end Go.Proofs.YtnieoiclifjoaaaGreatDoor
set_option linter.unusedVariables false
set_option linter.unusedSimpArgs false
namespace Go.Proofs.YtnieoiclifjoaaaGreatDoor
open Go.Proofs.Tryz
theorem KO.lows_ne {p:BO} (h:KO p) {n i:Nat} (hn:n<16) (hw:(AO p.pages n).w=1) (hi:i<4):(D6 p.low i).toNat≠(AO p.pages n).a.toNat:=fun e=>by have h1:=h.low_kind hi;have h2:=h.frame_kind hn hw;rw[e] at h1;omega
theorem KO.root_ne {p:BO} (h:KO p) {n:Nat} (hn:n<16) (hw:(AO p.pages n).w=1):(AY p.kern 0).toNat≠(AO p.pages n).a.toNat:=fun e=>by have h1:=h.root_lt;have h2:=h.frame_kind hn hw;rw[e] at h1;omega
theorem KO.rowl {p:BO} (h:KO p) {f:Nat} (hf:f<12):(AL p.kern.mem f).length=4:=h.k.row hf
theorem KO.meml {p:BO} (h:KO p):p.kern.mem.length=12:=(Af.1 h.k.mem).1
theorem row4 {r:List Int} (h:r.length=4):(((r.set 0 (r.getD 0 0)).set 1 (r.getD 1 0)).set 2 (r.getD 2 0)).set 3 (r.getD 3 0)=r:=by
 match r,h with
 | [a,b,c,d],_=>rfl
def far (hand:Int) (i:Nat):Nat:=((i:Int) - hand).toNat+(if(i:Int)<hand then((i:Int)+16 - hand).toNat else 0)
theorem NV {pages:List DI} {j i:Nat}:(AO (pages.set j (Qu (AO pages j))) i).w=(AO pages i).w∧(AO (pages.set j (Qu (AO pages j))) i).a=(AO pages i).a∧
 ((AO (pages.set j (Qu (AO pages j))) i).u=true→(AO pages i).u=true)∧(i≠j→AO (pages.set j (Qu (AO pages j))) i=AO pages i):=by
 rw[Rs]
 by_cases e:i=j∧j<pages.length
 ·rw[if_pos e]
  obtain⟨rfl,_⟩:=e;exact⟨rfl,rfl,(fun h=>by cases h),fun h=>absurd rfl h⟩
 ·rw[if_neg e]
  exact⟨rfl,rfl,fun h=>h,fun _=>rfl⟩
structure GN (a b:List DI):Prop where
 len:b.length=a.length
 w:∀i,(AO b i).w=(AO a i).w
 at':∀i,(AO b i).a=(AO a i).a
 u:∀i,(AO b i).u=true→(AO a i).u=true
theorem GN.refl (a:List DI):GN a a:=⟨rfl,fun _=>rfl,fun _=>rfl,fun _ h=>h⟩
theorem GN.step {a b:List DI} {j:Nat} (h:GN (a.set j (Qu (AO a j))) b):GN a b:=
 ⟨by rw[h.len,List.length_set],fun i=>(h.w i).trans NV.1,fun i=>(h.at' i).trans NV.2.1,fun i hi=>NV.2.2.1 (h.u i hi)⟩
theorem JW {q:DI→Bool}:∀{a b:List DI},b.length=a.length→(∀i,q (AO b i)=q (AO a i))→b.countP q=a.countP q
 | [],[],_,_=>rfl
 |x::a,y::b,hl,h=>by
  rw[List.countP_cons,List.countP_cons,JW (by simpa using hl) (fun i=>by simpa[AO] using h (i+1))];have:=h 0;simp only[AO,List.getD_cons_zero] at this;rw[this]
theorem GN.count {a b:List DI} (h:GN a b) (w:Int):DT b w=DT a w:=JW h.len fun i=>by unfold TY;rw[h.w i]
theorem GN.slots {a b:List DI} (h:GN a b) (s:Nat):FD b s=FD a s:=JW h.len fun i=>by unfold Mi;rw[h.w i,h.at' i]
theorem GN.word {p:BO} {b:List DI} (h:GN p.pages b) (hand:Int) (a:Nat):F1 {p with pages:=b,hand:=hand} a=F1 p a:=by
 unfold F1
 show(if(AO b (a/4)).w=1 then _ else if(AO b (a/4)).w=2 then _ else _)=_
 rw[h.w,h.at']
theorem GN.ok {p:BO} {b:List DI} (h:GN p.pages b) (hp:KO p) {hand:Int} (h0:0≤hand) (h1:hand≤15):KO {p with pages:=b,hand:=hand}:=by
 refine⟨hp.k,hp.swapl,hp.swapr,hp.may,hp.alone,hp.root,hp.lowl,hp.mroot,hp.lows,h.len.trans hp.pagel,fun s hs=>(h.slots s).trans (hp.slots s hs),fun n hn=>?_,⟨h0,h1⟩,hp.limit,?_⟩
 ·have e:DC {p with pages:=b,hand:=hand} n=DC p n:=rfl
  unfold MZ;rw[e]
  show((AO b n).w=0∧(AO b n).a=0∧(AO b n).u=false∧_)∨((AO b n).w=1∧_∧_=J5 (AO b n).a∧Q3 _ (AO b n).a.toNat)∨((AO b n).w=2∧_∧AL p.swap (AO b n).a.toNat≠[]∧(AO b n).u=false∧_)
  rw[h.w,h.at'];have hu:=h.u n;have un:(AO p.pages n).u=false→(AO b n).u=false:=fun x=>by
   cases hb:(AO b n).u
   ·rfl
   ·rw[hu hb] at x;cases x
  rcases hp.pages n hn with⟨x1,x2,x3,x4⟩|x|⟨x1,x2,x3,x4,x5⟩
  ·exact .inl ⟨x1,x2,un x3,x4⟩
  ·exact .inr (.inl x)
  ·exact .inr (.inr ⟨x1,x2,x3,un x4,x5⟩)
 ·show(DT b 1:Int)≤p.limit
  rw[h.count];exact hp.count
def Ee (c:List Aa) (e p:Int) (f:Nat) (w:Bool):List Aa:=if FX c e p<0 then FM c ⟨e,p,f,w⟩ else c
theorem Pq {k:AN} {c:AR}:IF k c=
 if Bk c.a 0 63=false∨(AC k.envs c.e.toNat).root<0∨(c.k=11∧E9 c.b=false) then(k,0,3)
 else if(BV k.mem (AC k.envs c.e.toNat).root.toNat c.a.toNat).1≠0 then(k,0,3)
 else if c.k=11∧(BV k.mem (AC k.envs c.e.toNat).root.toNat c.a.toNat).2.2=false then(k,0,1)
 else if c.k=11 then({k with mem:=Ch k.mem (BV k.mem (AC k.envs c.e.toNat).root.toNat c.a.toNat).2.1 (c.a%4).toNat c.b,cache:=Ee k.cache c.e (c.a/4) (BV k.mem (AC k.envs c.e.toNat).root.toNat c.a.toNat).2.1 (BV k.mem (AC k.envs c.e.toNat).root.toNat c.a.toNat).2.2},0,0)
 else({k with cache:=Ee k.cache c.e (c.a/4) (BV k.mem (AC k.envs c.e.toNat).root.toNat c.a.toNat).2.1 (BV k.mem (AC k.envs c.e.toNat).root.toNat c.a.toNat).2.2},Am k.mem (BV k.mem (AC k.envs c.e.toNat).root.toNat c.a.toNat).2.1 (c.a%4).toNat,0):=rfl
theorem KO.cache {p:BO} (h:KO p) {c:List Aa} (hk:De {p.kern with cache:=c}):KO {p with kern:= {p.kern with cache:=c}}:=
 ⟨hk,h.swapl,h.swapr,h.may,h.alone,h.root,h.lowl,h.mroot,h.lows,h.pagel,h.slots,fun n hn=>h.pages n hn,h.hand,h.limit,h.count⟩
theorem VL {a b:Nat} (h1:a/4=b/4) (h2:a%4=b%4):a=b:=by omega
theorem KO.put {p:BO} (h:KO p) {a:Nat} (ha:a<64) (hw:(AO p.pages (a/4)).w=1) {w:Int} {c:List Aa} (hk:De {p.kern with mem:=Ch p.kern.mem (AO p.pages (a/4)).a.toNat (a%4) w,cache:=c}):
 KO {p with kern:= {p.kern with mem:=Ch p.kern.mem (AO p.pages (a/4)).a.toNat (a%4) w,cache:=c}}∧
 ∀b,b<64→F1 {p with kern:= {p.kern with mem:=Ch p.kern.mem (AO p.pages (a/4)).a.toNat (a%4) w,cache:=c}} b=if b=a then w else F1 p b:=by
 have fk:=h.frame_kind (n:=a/4) (by omega) hw;have hat:∀f i,Am (Ch p.kern.mem (AO p.pages (a/4)).a.toNat (a%4) w) f i=if f=(AO p.pages (a/4)).a.toNat∧i=a%4 then w else Am p.kern.mem f i:=fun f i=>U7 (by rw[h.meml];exact fk.1) (by rw[h.rowl fk.1];omega)
 refine⟨⟨hk,h.swapl,h.swapr,h.may,h.alone,h.root,h.lowl,h.mroot,fun i hi=>?_,h.pagel,h.slots,fun n hn=>?_,h.hand,h.limit,h.count⟩,fun b hb=>?_⟩
 ·obtain⟨x1,x2,x3,x4⟩:=h.lows i hi
  refine⟨x1,x2,?_,x4⟩
  show Am (Ch p.kern.mem _ _ w) (AY p.kern 0).toNat i=_
  rw[hat,if_neg (fun e=>h.root_ne (n:=a/4) (by omega) hw e.1)];exact x3
 ·have e:DC {p with kern:= {p.kern with mem:=Ch p.kern.mem (AO p.pages (a/4)).a.toNat (a%4) w,cache:=c}} n=DC p n:=by
   unfold DC
   show Am (Ch p.kern.mem _ _ w) (D6 p.low (n/4)).toNat (n%4)=_
   rw[hat,if_neg (fun e=>h.lows_ne (n:=a/4) (i:=n/4) (by omega) hw (by omega) e.1)]
  have:=h.pages n hn;unfold MZ at this ⊢;rw[e];exact this
 ·unfold F1
  show(if(AO p.pages (b/4)).w=1 then Am (Ch p.kern.mem _ _ w) (AO p.pages (b/4)).a.toNat (b%4) else if(AO p.pages (b/4)).w=2 then _ else _)=_
  by_cases e:b=a
  ·subst e
   rw[if_pos hw,if_pos rfl,hat,if_pos ⟨rfl,rfl⟩]
  ·rw[if_neg e]
   by_cases w1:(AO p.pages (b/4)).w=1
   ·rw[if_pos w1,if_pos w1,hat,if_neg]
    rintro⟨x,y⟩;exact e (VL (h.frame_inj (by omega) (by omega) w1 hw x) y)
   ·rw[if_neg w1,if_neg w1]
def BZ (k:AN) (c:AR) (kind:Int):Int:=
 if Bk c.a 0 11=false∨(infoAt k.infos c.a.toNat).k=0 then 3
 else if Ca (AC k.envs c.e.toNat).rights (infoAt k.infos c.a.toNat).g=false then 1
 else if(0<kind∧(infoAt k.infos c.a.toNat).k≠kind)∨(kind=0∧Ba (infoAt k.infos c.a.toNat).k=false) then 3
 else 0
theorem IK {k:AN} {c:AR} (h1:2≤c.k) (h2:c.k≤6):AU k c=Fs k c:=by unfold AU;rw[if_neg (by omega),if_pos (AZ.2 ⟨h1,h2⟩)]
theorem Q9 {k:AN} {c:AR} (h:c.k=2):AU k c=if BZ k c 1=0 then(if(infoAt k.infos c.a.toNat).r≠0 then(k,0,2) else({k with infos:=k.infos.set c.a.toNat AQ.zero},0,0)) else(k,0,BZ k c 1):=by
 rw[IK (by omega) (by omega)];unfold Fs BZ Kr FJ;rw[h]
 by_cases a1:Bk c.a 0 11=false∨(infoAt k.infos c.a.toNat).k=0
 ·rw[if_pos a1,if_pos (by rcases a1 with a1|a1<;>simp[a1])];rfl
 ·have a1':=not_or.1 a1
  rw[if_neg a1,if_neg (by simp[a1'.1,a1'.2])];cases Ca (AC k.envs c.e.toNat).rights (infoAt k.infos c.a.toNat).g
  ·rfl
  ·by_cases a2:(infoAt k.infos c.a.toNat).k=1
   ·simp[a2]
   ·simp[a2]
theorem RA {k:AN} {c:AR} (h:c.k=3):AU k c=if BZ k c 1=0 then(if Bk c.b 0 3=false∨E9 c.c=false then(k,0,3) else({k with mem:=Ch k.mem c.a.toNat c.b.toNat c.c},0,0)) else(k,0,BZ k c 1):=by
 rw[IK (by omega) (by omega)];unfold Fs BZ Kz FJ;rw[h]
 by_cases a1:Bk c.a 0 11=false∨(infoAt k.infos c.a.toNat).k=0
 ·rw[if_pos a1,if_pos (by rcases a1 with a1|a1<;>simp[a1])];rfl
 ·have a1':=not_or.1 a1
  rw[if_neg a1,if_neg (by simp[a1'.1,a1'.2])];cases Ca (AC k.envs c.e.toNat).rights (infoAt k.infos c.a.toNat).g
  ·rfl
  ·by_cases a2:(infoAt k.infos c.a.toNat).k=1
   ·simp[a2]
   ·simp[a2]
theorem Sz {k:AN} {c:AR} (h:c.k=4∨c.k=5):AU k c=if Bk c.a 0 11=false∨(infoAt k.infos c.a.toNat).k=0∨(c.k=4∧Ba c.b=false) then(k,0,3)
 else if FJ k c.e (infoAt k.infos c.a.toNat).g=false then(k,0,1)
 else DQ k (if c.k=4 then FU k.mem k.infos c.a.toNat c.b (AC k.envs c.e.toNat).rights else Cw k.mem k.infos c.a.toNat):=by
 rw[IK (by omega) (by omega)];unfold Fs
 rcases h with h|h<;>simp[h]
def U6 (k:AN) (c:AR):LB:=
 if Bk c.b 0 3=false∨Dl k c=false then(k,0,3)
 else if(Eo k c.a.toNat).all (fun e=>Aq k.infos (DH k c.c) (AC k.envs e).rights)=false then(k,0,1)
 else if BX c.c=true∧FJ k c.e (infoAt k.infos (Ax c.c)).g=false then(k,0,1)
 else({k with mem:=Ch k.mem c.a.toNat c.b.toNat c.c,infos:=A1 (A1 k.infos (Am k.mem c.a.toNat c.b.toNat) (-1)) c.c 1,cache:=(Eo k c.a.toNat).foldl (fun c e=>Co c (e:Nat)) k.cache},0,0)
theorem TA {k:AN} {c:AR} (h:c.k=6):AU k c=if BZ k c 0=0 then U6 k c else(k,0,BZ k c 0):=by
 rw[IK (by omega) (by omega)];unfold Fs BZ GC U6 FJ;rw[h]
 by_cases a1:Bk c.a 0 11=false∨(infoAt k.infos c.a.toNat).k=0
 ·rw[if_pos a1,if_pos (by rcases a1 with a1|a1<;>simp[a1])];rfl
 ·have a1':=not_or.1 a1
  rw[if_neg a1,if_neg (by simp[a1'.1,a1'.2])];cases Ca (AC k.envs c.e.toNat).rights (infoAt k.infos c.a.toNat).g
  ·rfl
  ·cases a2:Ba (infoAt k.infos c.a.toNat).k<;>simp
theorem Hg {k:AN} {c:AR} {kind:Int} (h:BZ k c kind=0):Bk c.a 0 11=true∧(infoAt k.infos c.a.toNat).k≠0∧Ca (AC k.envs c.e.toNat).rights (infoAt k.infos c.a.toNat).g=true∧(0<kind→(infoAt k.infos c.a.toNat).k=kind)∧(kind=0→Ba (infoAt k.infos c.a.toNat).k=true):=by
 unfold BZ at h
 by_cases a1:Bk c.a 0 11=false∨(infoAt k.infos c.a.toNat).k=0
 ·rw[if_pos a1] at h;cases h
 ·rw[if_neg a1] at h
  have a1':=not_or.1 a1;cases hm:Ca (AC k.envs c.e.toNat).rights (infoAt k.infos c.a.toNat).g
  ·rw[hm] at h;cases h
  ·rw[hm,if_neg (by simp)] at h
   by_cases a2:(0<kind∧(infoAt k.infos c.a.toNat).k≠kind)∨(kind=0∧Ba (infoAt k.infos c.a.toNat).k=false)
   ·rw[if_pos a2] at h;cases h
   ·have a2':=not_or.1 a2
    refine⟨by simpa using a1'.1,a1'.2,rfl,fun h0=>?_,fun h0=>?_⟩
    ·exact Classical.byContradiction fun hx=>a2'.1 ⟨h0,hx⟩
    ·cases ht:Ba (infoAt k.infos c.a.toNat).k
     ·exact absurd ⟨h0,ht⟩ a2'.2
     ·rfl
def BN (infos:List AQ) (old:Int):List AQ:=if 0≤old then AV infos old.toNat (DK (-1)) else infos
def Br (infos:List AQ) (new:Int):List AQ:=if 0≤new then AV infos new.toNat (DK 1) else infos
theorem Qq {k:AN} {c:AR}:GI k c=
 if c.a≠ -1∧(Bk c.a 0 11=false∨(infoAt k.infos c.a.toNat).k≠3) then(k,0,3)
 else if Aq k.infos (Az k.mem c.a) (AC k.envs c.e.toNat).rights=false then(k,0,1)
 else({k with infos:=Br (BN k.infos (AC k.envs c.e.toNat).root) c.a,envs:=AV k.envs c.e.toNat (Bu c.a),cache:=Co k.cache c.e},0,0):=rfl
theorem RD {k:AN} {c:AR} (h:c.k=7):AU k c=GI k c:=by unfold AU;rw[if_neg (by omega),if_neg (by rw[h];decide),if_pos h]
theorem P9 {k:AN} {c:AR} (h:c.k=8):AU k c=Ei k c:=by unfold AU;rw[if_neg (by omega),if_neg (by rw[h];decide),if_neg (by omega),if_pos h]
theorem PF {k:AN} {c:AR} (h:c.k=9):AU k c=Dc k c:=by unfold AU;rw[if_neg (by omega),if_neg (by rw[h];decide),if_neg (by omega),if_neg (by omega),if_pos h]
theorem OG {k:AN} {c:AR} (h:c.k=10∨c.k=11):AU k c=IF k c:=by unfold AU;rw[if_neg (by omega),if_neg (by rcases h with h|h<;>rw[h]<;>decide),if_neg (by omega),if_neg (by omega),if_neg (by omega),if_pos h]
theorem Ll {k:AN} (h:De k) {e p:Nat} {j:Nat} (hj:j<k.cache.length) (hs:A5 (e:Int) (p:Int) (Ac k.cache j)=true) {a:Nat} (ha:a/4=p):
 ∃fr:Nat,fr<12∧Ac k.cache j=⟨(e:Int),(p:Int),(fr:Int),(Ac k.cache j).w⟩∧BV k.mem (AC k.envs e).root.toNat a=(0,fr,(Ac k.cache j).w):=by
 have hx:Ac k.cache j∈k.cache:=List.mem_of_getElem? (A8 hj);have ht:=h.trans _ hx;have hc:=(Ef.1 h.cache).1 _ hx;generalize Ac k.cache j=x at*;obtain⟨xe,xp,xf,xw⟩:=x;simp only[A5,Bool.and_eq_true,decide_eq_true_eq] at hs;obtain⟨rfl,rfl⟩:=hs;simp only[CZ,Bool.and_eq_true,AZ] at hc;obtain⟨_,h0,h11⟩:=hc;obtain⟨fr,rfl⟩:∃fr:Nat,xf=(fr:Int):=⟨xf.toNat,by omega⟩
 refine⟨fr,by omega,rfl,?_⟩;simp only[Dd,Bool.and_eq_true,decide_eq_true_eq,Int.toNat_natCast] at ht;have e1:BV k.mem (AC k.envs e).root.toNat a=BV k.mem (AC k.envs e).root.toNat (4*p):=by unfold BV;rw[show 4*p/16=a/16 by omega,show 4*p/4%4=a/4%4 by omega]
 rw[e1];exact ht.2
end Go.Proofs.YtnieoiclifjoaaaGreatDoor
set_option linter.unusedVariables false
namespace Go.Proofs.YtnieoiclifjoaaaGreatDoor
open Go.Proofs.Tryz
open Go.RowKit
theorem Iv {w:World} {g T:Nat} {a b c d e f:Value} (h:w.heap[g]? =some (.cells #[a,b,c,d,e,f] T (0,0))):w.cell? ⟨g,0,none⟩=some a∧w.cell? ⟨g,1,none⟩=some b∧w.cell? ⟨g,2,none⟩=some c∧w.cell? ⟨g,3,none⟩=some d∧w.cell? ⟨g,4,none⟩=some e∧w.cell? ⟨g,5,none⟩=some f:=
 ⟨cell_of_row _ _ 0 _ _ _ h,cell_of_row _ _ 1 _ _ _ h,cell_of_row _ _ 2 _ _ _ h,cell_of_row _ _ 3 _ _ _ h,cell_of_row _ _ 4 _ _ _ h,cell_of_row _ _ 5 _ _ _ h⟩
theorem JA (m iv ev cv:Value) (k:AN) (kk e a b c:Int) (nm:ByteArray) (kind:Int) (w:World) (h:Mb w m iv ev cv k) (hk:De k) (he:0≤e∧e<3) (hkind:kind=0∨kind=1):
 Calls prog 283 #[.agg #[m,iv,ev,cv], .agg #[.int .i64 kk, .int .i64 e, .int .i64 a, .int .i64 b, .int .i64 c, .string nm], .int .i64 kind] w fun r w'=>r= .returned (.int .i64 (BZ k ⟨kk,e,a,b,c,nm⟩ kind))∧Below w.heap.size w w':=by
 obtain⟨N0,N1,hb0,hs0⟩:=Ph w (.cells #[m,iv,ev,cv] 29) (.cells #[.int .i64 kk, .int .i64 e, .int .i64 a, .int .i64 b, .int .i64 c, .string nm] 44);obtain⟨x0,x1,x2,x3⟩:=AB N0;obtain⟨y0,y1,y2,y3,y4,y5⟩:=Iv N1;have hlg:=Ao N0;have hlb:=Ao N1
 by_cases ha:Bk a 0 11=true
 ·obtain⟨an,rfl⟩:∃an:Nat,a=(an:Int):=⟨a.toNat,by have:=(AZ.1 ha).1;omega⟩
  obtain⟨en,rfl⟩:∃en:Nat,e=(en:Int):=⟨e.toNat,by omega⟩
  have han:an<12:=by have:=(AZ.1 ha).2;omega
  have hen:en<3:=by omega
  have hl:=(At.1 (AW hk).2.1).1;have FC:=AA (show BZ k ⟨kk,(en:Int),(an:Int),b,c,nm⟩ kind=if(infoAt k.infos an).k=0 then 3 else if Ca (AC k.envs en).rights (infoAt k.infos an).g=false then 1
   else if(0<kind∧(infoAt k.infos an).k≠kind)∨(kind=0∧Ba (infoAt k.infos an).k=false) then 3 else 0 by unfold BZ;simp[ha])
  have hsm:=Bh (AW hk).2.1 _ (List.mem_of_getElem? (Bo (show an<k.infos.length by omega)));have CM:=AA (fun W (hW:Below _ _ W)=>GR m iv ev cv k en (infoAt k.infos an).g W ((h.2.2.1.below hb0).below hW) hk hen hsm);obtain⟨ai,ci,rfl,_,_,HI⟩:=A3.open As (by decide) (A3.below h.2.1 hb0);obtain⟨bi,offi,rfl,hbi,D0,D1,_⟩:=HI.infoCells (show an<k.infos.length by omega);have hal:(an:Int)<k.infos.length:=by omega
  have HA:=AA ha;have hn0:¬(an:Int)<0:=by omega
  clear h hk N0 N1 HI ha hl hsm he;generalize hW0:(w.alloc _).alloc _=W0 at x0 x1 x2 x3 y0 y1 y2 y3 y4 y5 D0 D1 hlg hlb hbi CM hb0;generalize(infoAt k.infos an).g=gd at D1 CM FC;generalize(infoAt k.infos an).k=kd at D0 FC;generalize Ca (AC k.envs en).rights gd=mb at CM FC
  by_cases e0:kd=0
  ·have t0:(kd==0)=true:=by simp[e0]
   have R:=AA (show BZ k ⟨kk,(en:Int),(an:Int),b,c,nm⟩ kind=3 by rw[FC.out,if_pos e0]);clear e0;go_in;go_wp2_with fail;refine(Cg _ _).mono ?_;rintro r w2 ⟨rfl,rfl⟩;rw[HA.out];go_wp2_with fail;go_ret;exact⟨Bd R.out.symm,hb0⟩
  ·have t0:(kd==0)=false:=by simp[e0]
   have FC2:=AA (show BZ k ⟨kk,(en:Int),(an:Int),b,c,nm⟩ kind=if mb=false then 1
    else if(0<kind∧kd≠kind)∨(kind=0∧Ba kd=false) then 3 else 0 by rw[FC.out,if_neg e0])
   clear e0 FC;go_in;go_wp2_with fail;refine(Cg _ _).mono ?_;rintro r w2 ⟨rfl,rfl⟩;rw[HA.out];go_wp2_with fail;refine AH 11 mixed (by kernel_rfl) 64 rfl (by kernel_rfl) (fun ix vv ww=>match ix with
    |0=>vv= .agg #[m, .slice (some ⟨bi,offi,none⟩) k.infos.length ci,ev,cv]
    |1=>vv= .pointer (some ⟨w.heap.size+1,1,none⟩)
    |2=>vv= .int .i64 en
    |3=>vv= .pointer (some ⟨w.heap.size,1,none⟩)
    |4=>vv= .slice (some ⟨bi,offi,none⟩) k.infos.length ci
    |5=>vv= .pointer (some ⟨w.heap.size+1,2,none⟩)
    |6=>vv= .int .i64 an
    |7=>vv= .pointer (some ⟨bi,offi+an*3,none⟩)
    |8=>vv= .pointer (some ⟨bi,offi+an*3+1,none⟩)
    |9=>vv= .string gd
    |10=>vv= .bool mb
    |_=>True) ?_ ?_ ?_
   ·intro i hi vv wz ww' hbz hz
    match i,hi with
    |0,_|1,_|2,_|3,_|4,_|5,_|6,_|7,_|8,_|9,_|10,_=>exact hz
   ·intro i hi o ho a wx Hb Hd hG K HK
    match i,hi with
    |0,_=>exact eL ho HK (eb (Aj Hb 3)) (PV (bc hG hlg x0) (bc hG hlg x1) (bc hG hlg x2) (bc hG hlg x3))
    |1,_=>exact eF ho HK FY (eb (Aj Hb 4))
    |2,_=>exact eL ho HK (et (AD Hd 1)) (DA (bc hG hlb y1))
    |3,_=>exact eF ho HK CU (eb (Aj Hb 3))
    |4,_=>exact eL ho HK (et (AD Hd 3)) (FF (bc hG hlg x1))
    |5,_=>exact eF ho HK EC (eb (Aj Hb 4))
    |6,_=>exact eL ho HK (et (AD Hd 5)) (DA (bc hG hlb y2))
    |7,_=>obtain rfl:=So_ ho;have d4:(a.tmps[27]?.getD undef)= .slice (some ⟨bi,offi,none⟩) k.infos.length ci:=AD Hd 4;have d6:(a.tmps[29]?.getD undef)= .int .i64 an:=AD Hd 6;clear Hd Hb;refine AI.of rfl ?_;go_simp;exact HK.out _ _ rfl (Below.refl _ _)
    |8,_=>exact eF ho HK Kp (et (AD Hd 7))
    |9,_=>exact eL ho HK (et (AD Hd 8)) (Uo (bc hG hbi D1))
    |10,_=>obtain rfl:=So_ ho;have d0:(a.tmps[23]?.getD undef)= .agg #[m, .slice (some ⟨bi,offi,none⟩) k.infos.length ci,ev,cv]:=AD Hd 0;have d2:(a.tmps[25]?.getD undef)= .int .i64 en:=AD Hd 2;have d9:(a.tmps[32]?.getD undef)= .string gd:=AD Hd 9;clear Hd Hb;refine AI.of rfl ?_;go_simp;refine(CM.out _ hG).mono ?_;rintro e w_ ⟨rfl,hb2⟩;exact HK.out _ _ rfl hb2
   ·intro vs wx hR hG
    have q10:(vs 10)= .bool mb:=BI hR 10;clear hR;simp only[Ai,AX,List.range,List.range.loop,List.foldl_cons,List.foldl_nil,q10];simp;clear q10;have D0w:=(hG.cell (p:=⟨bi,offi+an*3,none⟩) hbi).trans D0;have x1w:=(hG.cell (p:=⟨w.heap.size,1,none⟩) hlg).trans x1;have y2w:=(hG.cell (p:=⟨w.heap.size+1,2,none⟩) hlb).trans y2;have hbx:=hb0.trans (hG.mono hb0.size);clear D0 D1 x0 x1 x2 x3 y0 y1 y2 y3 y4 y5 hG CM;cases mb
    ·have R:=AA (show BZ k ⟨kk,(en:Int),(an:Int),b,c,nm⟩ kind=1 by rw[FC2.out];rfl)
     go_wp2_with fail;go_ret;exact⟨Bd R.out.symm,hbx⟩
    ·rcases hkind with rfl|rfl
     ·have R:=AA (show BZ k ⟨kk,(en:Int),(an:Int),b,c,nm⟩ 0=if Ba kd=false then 3 else 0 by rw[FC2.out];simp)
      go_wp2_with fail;refine(F6 _ _).mono ?_;rintro r w2 ⟨rfl,rfl⟩;generalize Ba kd=tb at R;cases tb
      ·go_wp2_with fail
       go_ret;exact⟨Bd R.out.symm,hbx⟩
      ·go_wp2_with fail
       go_ret;exact⟨Bd R.out.symm,hbx⟩
     ·by_cases e1:kd=1
      ·have t1:(kd !=1)=false:=by simp[e1]
       have R:=AA (show BZ k ⟨kk,(en:Int),(an:Int),b,c,nm⟩ 1=0 by rw[FC2.out];simp[e1]);clear e1;go_wp2_with fail;go_ret;exact⟨Bd R.out.symm,hbx⟩
      ·have t1:(kd !=1)=true:=by simp[e1]
       have R:=AA (show BZ k ⟨kk,(en:Int),(an:Int),b,c,nm⟩ 1=3 by rw[FC2.out];simp[e1]);clear e1;go_wp2_with fail;go_ret;exact⟨Bd R.out.symm,hbx⟩
 ·have ha':Bk a 0 11=false:=by simpa using ha
  have R:=AA (show BZ k ⟨kk,e,a,b,c,nm⟩ kind=3 by unfold BZ;simp[ha']);have HA:=AA ha';clear ha ha' h hk;go_in;go_wp2_with fail;refine(Cg _ _).mono ?_;rintro r w2 ⟨rfl,rfl⟩;rw[HA.out];go_wp2_with fail;go_ret;exact⟨Bd R.out.symm,hb0⟩
def KL (w0:World) (g:Nat) (m i e c:Value) (k:AN) (qs:List (Value×Int)) (wr:World):Prop:=
 wr.heap[g]? =some (.cells #[m,i,e,c] 29 (0,0))∧(∃vs,Ah w0.heap.size wr m vs k.mem)∧AJ w0.heap.size 135 3 Ag wr i k.infos∧Bm w0.heap.size wr e qs (k.envs.take qs.length)∧AJ w0.heap.size 140 4 AP wr c k.cache∧Below w0.heap.size w0 wr∧w0.heap.size≤g
def JM (lo:Nat) (T:Nat) (W:World) (V:Value):Prop:=∃g,V= .slice (some ⟨g,0,none⟩) 0 0∧lo≤g∧W.heap[g]? =some (.cells #[] T (0,0))
theorem JM.below {lo T:Nat} {W W':World} {V:Value} (h:JM lo T W V) (hb:Below W.heap.size W W'):JM lo T W' V:=by obtain⟨g,h0,h1,h2⟩:=h;exact⟨g,h0,h1,AF h2 hb⟩
def Q0 (lo:Nat) (r:Int) (ts:List ByteArray) (W:World) (V:Value):Prop:=∃u,V= .agg #[u, .int .i64 r]∧AJ lo 9 1 An W u ts
theorem Q0.below {lo:Nat} {r:Int} {ts:List ByteArray} {W W':World} {V:Value} (h:Q0 lo r ts W V) (hb:Below W.heap.size W W'):Q0 lo r ts W' V:=by obtain⟨u,h0,h1⟩:=h;exact⟨u,h0,h1.below hb⟩
def Ss (lo:Nat) (r:Int) (ts:List ByteArray) (W:World) (V:Value):Prop:=∃g u,V= .slice (some ⟨g,0,none⟩) 1 1∧lo≤g∧W.heap[g]? =some (.cells #[u, .int .i64 r] 85 (0,0))∧AJ lo 9 1 An W u ts
theorem Ss.below {lo:Nat} {r:Int} {ts:List ByteArray} {W W':World} {V:Value} (h:Ss lo r ts W V) (hb:Below W.heap.size W W'):Ss lo r ts W' V:=by obtain⟨g,u,h0,h1,h2,h3⟩:=h;exact⟨g,u,h0,h1,AF h2 hb,h3.below hb⟩
theorem VX {w:World} {g T:Nat} {a b:Value} (h:w.heap[g]? =some (.cells #[a,b] T (0,0))):Rd w (.slice (some ⟨g,0,none⟩) 1 1) 2 1 [a,b]:=by
 have h0:=cell_of_row _ _ 0 _ _ _ h;have h1:=cell_of_row _ _ 1 _ _ _ h;refine⟨_,_,rfl,Nat.le_refl _,by simp[maxLen],rfl,nofun,fun _=>⟨g,0,rfl,fun j hj=>?_⟩⟩;rw[Nat.zero_add]
 match j,hj with
 |0,_=>exact h0
 |1,_=>exact h1
 |_+2,hj=>exact absurd hj (by omega)
def GK (lo:Nat) (w:World) (v:Value) (k:AN):Prop:=∃m i e c,v= .agg #[m,i,e,c]∧(∃vs,Ah lo w m vs k.mem)∧AJ lo 135 3 Ag w i k.infos∧Bm lo w e [] []∧AJ lo 140 4 AP w c k.cache
theorem GK.below {lo:Nat} {w w':World} {v:Value} {k:AN} (h:GK lo w v k) (hb:Below w.heap.size w w'):GK lo w' v k:=by obtain⟨m,i,e,c,h0,⟨vs,h1⟩,h2,h3,h4⟩:=h;exact⟨m,i,e,c,h0,⟨vs,h1.below hb⟩,h2.below hb,h3.below hb,h4.below hb⟩
def Vl (w:World) (row:Option Nat):Prop:=∀q,row=some q→∃cur,w.heap[q]? =some (.cells cur 85 (0,0))
theorem Vq {lo:Nat} {w1 w2:World} {row:Option Nat} {v:Value} {vs:List Value} {xss:List (List Int)} (o:Ah lo w1 v vs xss) (h2:w1.grownBy w2 row) (hr:Vl w1 row):Ah lo w2 v vs xss:=by
 cases row with
 |none=>exact o.below (Below.of_grown h2)
 |some q=>obtain⟨cur,hc⟩:=hr q rfl;exact o.far h2 hc (by decide) (by decide)
theorem Vi {α:Type} {lo e sz:Nat} {cs:α→List Value} {w1 w2:World} {row:Option Nat} {v:Value} {xs:List α} (o:AJ lo e sz cs w1 v xs) (h2:w1.grownBy w2 row) (hr:Vl w1 row) (he:e≠85):AJ lo e sz cs w2 v xs:=by
 cases row with
 |none=>exact o.below (Below.of_grown h2)
 |some q=>obtain⟨cur,hc⟩:=hr q rfl;exact o.far h2 hc he
theorem KL.blk {w0:World} {g:Nat} {m i e c:Value} {k:AN} {qs:List (Value×Int)} {wr w1 w2:World} (h:KL w0 g m i e c k qs wr) (hb:Below wr.heap.size wr w1) (h2:w1.grownBy w2 e.ownBlock):w2.heap[g]? =some (.cells #[m,i,e,c] 29 (0,0)):=by
 have hB1:=AF h.1 hb;exact(h2.block g (Ao hB1) fun e'=>Bz (h.2.2.2.1.1.below hb) hB1 (by decide) e'.symm).trans hB1
theorem KL.step {w0:World} {g:Nat} {m i ev c u v':Value} {k:AN} {qs:List (Value×Int)} {wr w1 w2:World} {e:EM} (h:KL w0 g m i ev c k qs wr) (hb:Below wr.heap.size wr w1) (hu:AJ wr.heap.size 9 1 An w1 u e.rights) (he:k.envs[qs.length]? =some e)
 (h1:w2.ownsRow w0.heap.size 85 2 v' (qs.length+1) (Bj ED qs++[u, .int .i64 e.root])) (h2:w1.grownBy w2 ev.ownBlock):KL w0 g m i v' c k (qs++[(u,e.root)]) (w2.setCell ⟨g,2,none⟩ v'):=by
 have hB2:=h.blk hb h2;obtain⟨hB,⟨vs,o1⟩,o2,o3,o4,hbw,hg⟩:=h;have P:=Bm.push o3 hb hbw.size (Nat.le_refl _) hu h1 h2;have hr:Vl w1 ev.ownBlock:=fun q hq=>Bf (o3.1.below hb) q hq
 have hgr:=Al w2 g 2 v';have ht:k.envs.take (qs++[(u,e.root)]).length=k.envs.take qs.length++[⟨e.rights,e.root⟩]:=by rw[List.length_append,List.length_singleton,Cv he]
 refine⟨?_,⟨vs,(Vq (o1.below hb) h2 hr).far hgr hB2 (by decide) (by decide)⟩,(Vi (o2.below hb) h2 hr (by decide)).far hgr hB2 (by decide),?_,(Vi (o4.below hb) h2 hr (by decide)).far hgr hB2 (by decide),?_,hg⟩
 ·have:=heap_setCell_same w2 g 2 _ 29 v' hB2
  simpa using this
 ·rw[ht]
  exact P.far hgr hB2 (by decide) (by decide)
 ·exact((hbw.trans (hb.mono hbw.size)).grown h2 (hbw.trans (hb.mono hbw.size)).size (fun q hq=>((o3.1.below hb).lt q hq).1)).setCell hg _
theorem QY (m i e c:Value) (k:AN) (w:World) (h:Mb w m i e c k) (hk:De k):Calls prog 143 #[.agg #[m,i,e,c]] w (MH w k):=by
 obtain⟨h1,h2,h3,h4⟩:=h;have hml:=(Af.1 (AW hk).1).1;have hil:=(At.1 (AW hk).2.1).1;have hcl:k.cache.length≤4:=by have:=hk.cache;simp only[Bc,Bool.and_eq_true,decide_eq_true_eq] at this;exact this.2
 have hrl:∀f,f<k.mem.length→(AL k.mem f).length≤100:=fun f hf=>by have:=(BG.1 ((Af.1 (AW hk).1).2 f (by omega))).1;omega
 obtain⟨N0,N1,hb0,hs0⟩:=Ph w (.cells #[m,i,e,c] 29) (.cells #[.slice none 0 0, .slice none 0 0, .slice none 0 0, .slice none 0 0] 29);obtain⟨x0,x1,x2,x3⟩:=AB N0;have hlt0:=Ao N0;have C1:=AA (fun W (hW:Below _ _ W)=>Rk m k.mem W ((h1.below hb0).below hW) (by omega) hrl);have RI:=AA (A3.below h2 hb0);have RC:=AA (A3.below h4 hb0);obtain⟨am,cm,rfl,_⟩:=h1.open;obtain⟨ai,ci,rfl,_,_⟩:=h2.shape;obtain⟨ae,ce,rfl,hce,hcem,HE0⟩:=(h3.below hb0).open;obtain⟨ac,cc,rfl,_,_⟩:=h4.shape;have HE:=AA HE0;have Hk:=AA hk;have Hel:=AA hk.envl;have hil2:k.infos.length≤100:=by omega
 generalize hW0:(w.alloc _).alloc _=W0 at*;clear h1 h2 h3 h4 hk hml hil hrl HE0;go_in;go_wp2_with fail;refine AH 14 mixed (by kernel_rfl) 46 rfl (by kernel_rfl) (fun ix vv ww=>match ix with
  |0=>vv= .pointer (some ⟨w.heap.size,0,none⟩)
  |1=>vv= .slice am k.mem.length cm
  |2=>∃vs',Ah W0.heap.size ww vv vs' k.mem
  |3=>JM W0.heap.size 135 ww vv
  |4=>vv= .pointer (some ⟨w.heap.size,1,none⟩)
  |5=>vv= .slice ai k.infos.length ci
  |6=>AJ W0.heap.size 135 3 Ag ww vv k.infos
  |7=>Bm W0.heap.size ww vv [] []
  |8=>JM W0.heap.size 140 ww vv
  |9=>vv= .pointer (some ⟨w.heap.size,3,none⟩)
  |10=>vv= .slice ac k.cache.length cc
  |11=>AJ W0.heap.size 140 4 AP ww vv k.cache
  |12=>GK W0.heap.size ww vv k
  |13=>Ir W0.heap.size ww vv
  |_=>True) ?_ ?_ ?_
 ·intro i hi vv wz ww' hbz hz
  match i,hi with
  |0,_|1,_=>exact hz
  |2,_=>exact(by obtain⟨vs',h'⟩:=hz;exact⟨vs',h'.below hbz⟩)
  |3,_=>exact(JM.below hz hbz)
  |4,_|5,_=>exact hz
  |6,_=>exact(AJ.below hz hbz)
  |7,_=>exact(Bm.below hz hbz)
  |8,_=>exact(JM.below hz hbz)
  |9,_|10,_=>exact hz
  |11,_=>exact(AJ.below hz hbz)
  |12,_=>exact(GK.below hz hbz)
  |13,_=>exact(Ir.below hz hbz)
 ·intro i hi o ho a wx Hb Hd hG K HK
  match i,hi with
  |0,_=>exact eF ho HK Ci (eb (Aj Hb 1))
  |1,_=>exact eL ho HK (et (AD Hd 0)) (Fd (bc hG hlt0 x0))
  |2,_=>obtain rfl:=So_ ho;have d1:(a.tmps[6]?.getD undef)= .slice am k.mem.length cm:=AD Hd 1;clear Hd Hb;refine AI.of rfl ?_;go_simp;refine(C1.out _ hG).mono ?_;rintro e w_ ⟨v',vs',rfl,hO,hb2⟩;exact HK.out _ _ ⟨vs',hO.lower hG.size⟩ hb2
  |3,_=>obtain rfl:=So_ ho;clear Hd Hb;refine AI.of rfl ?_;go_simp;exact HK.out _ _ ⟨_,rfl,hG.size,heap_alloc_new _ _⟩ (AG _ _)
  |4,_=>exact eF ho HK CU (eb (Aj Hb 1))
  |5,_=>exact eL ho HK (et (AD Hd 4)) (FF (bc hG hlt0 x1))
  |6,_=>obtain rfl:=So_ ho;have d3:JM W0.heap.size 135 wx (a.tmps[8]?.getD undef):=AD Hd 3;have d5:(a.tmps[10]?.getD undef)= .slice ai k.infos.length ci:=AD Hd 5;clear Hd Hb;refine AI.of rfl ?_;obtain⟨g_,d0a,d0b,d0c⟩:=d3;obtain⟨v7,w4,hrun,r1,r2,_⟩:=Ct (lo:=W0.heap.size) (w:=wx) (t:=25) (ty:=25) 135 _ 3 32 underlying25 Tryz.infoInfoK rfl (by decide) d0c d0b (A3.below RI.out hG) (EZ _) (by omega);refine BY rfl (BR d0a) (BR d5) hrun ?_;exact HK.out _ _ r1 r2
  |7,_=>obtain rfl:=So_ ho;clear Hd Hb;refine AI.of rfl ?_;go_simp;exact HK.out _ _ ⟨AJ.lower (CY ED _ _ _) hG.size,FP.nil,CJ.nil⟩ (AG _ _)
  |8,_=>obtain rfl:=So_ ho;clear Hd Hb;refine AI.of rfl ?_;go_simp;exact HK.out _ _ ⟨_,rfl,hG.size,heap_alloc_new _ _⟩ (AG _ _)
  |9,_=>exact eF ho HK EU (eb (Aj Hb 1))
  |10,_=>exact eL ho HK (et (AD Hd 9)) (M5 (bc hG hlt0 x3))
  |11,_=>obtain rfl:=So_ ho;have d8:JM W0.heap.size 140 wx (a.tmps[13]?.getD undef):=AD Hd 8;have d10:(a.tmps[15]?.getD undef)= .slice ac k.cache.length cc:=AD Hd 10;clear Hd Hb;refine AI.of rfl ?_;obtain⟨g_,d0a,d0b,d0c⟩:=d8;obtain⟨v7,w4,hrun,r1,r2,_⟩:=Ct (lo:=W0.heap.size) (w:=wx) (t:=27) (ty:=27) 140 _ 4 32 underlying27 Tryz.infoCachedK rfl (by decide) d0c d0b (A3.below RC.out hG) (Jd _) (by omega);refine BY rfl (BR d0a) (BR d10) hrun ?_;exact HK.out _ _ r1 r2
  |12,_=>
   obtain rfl:=So_ ho;have d2:∃vs',Ah W0.heap.size wx (a.tmps[7]?.getD undef) vs' k.mem:=AD Hd 2
   have d6:AJ W0.heap.size 135 3 Ag wx (a.tmps[11]?.getD undef) k.infos:=AD Hd 6;have d7:Bm W0.heap.size wx (a.tmps[12]?.getD undef) [] []:=AD Hd 7;have d11:AJ W0.heap.size 140 4 AP wx (a.tmps[16]?.getD undef) k.cache:=AD Hd 11;clear Hd Hb;generalize e7:a.tmps[7]?.getD undef=m' at d2;generalize e11:a.tmps[11]?.getD undef=i' at d6;generalize e12:a.tmps[12]?.getD undef=e' at d7;generalize e16:a.tmps[16]?.getD undef=c' at d11;have W:Hid (GK W0.heap.size wx (.agg #[m',i',e',c']) k):=AA ⟨m',i',e',c',rfl,d2,d6,d7,d11⟩;obtain⟨_,d2⟩:=d2;obtain⟨_,_,rfl,_,_⟩:=d2.1.rd.shape;obtain⟨_,_,rfl,_,_⟩:=d6.rd.shape;obtain⟨_,_,rfl,_,_⟩:=d7.1.rd.shape;obtain⟨_,_,rfl,_,_⟩:=d11.rd.shape;clear d2 d6 d7 d11;refine AI.of rfl ?_;go_simp;exact HK.out _ _ W.out (Below.refl _ _)
  |13,_=>obtain rfl:=So_ ho;clear Hd Hb;refine AI.of rfl ?_;go_simp;exact HK.out _ _ ⟨_,rfl,hG.size,heap_alloc_new _ _⟩ (AG _ _)
 ·intro vs wx hR hG
  have q12:GK W0.heap.size wx (vs 12) k:=BI hR 12;have q13:Ir W0.heap.size wx (vs 13):=BI hR 13;obtain⟨g,q13,hg,hB⟩:=q13;clear hR;simp only[Ai,AX,List.range,List.range.loop,List.foldl_cons,List.foldl_nil,q13];simp;generalize vs 12=z12 at q12 ⊢;clear q13;obtain⟨m',i',e',c',rfl,⟨vs',o1⟩,o2,o3,o4⟩:=q12;have hgr:=Ab (Ab (Ab (Al wx g 0 m') 1 i') 2 e') 3 c';have St:KL W0 g m' i' e' c' k [] ((((wx.setCell ⟨g,0,none⟩ m').setCell ⟨g,1,none⟩ i').setCell ⟨g,2,none⟩ e').setCell ⟨g,3,none⟩ c'):=
   ⟨DJ hB,⟨vs',o1.far hgr hB (by decide) (by decide)⟩,o2.far hgr hB (by decide),o3.far hgr hB (by decide) (by decide),o4.far hgr hB (by decide),(((hG.setCell hg _).setCell hg _).setCell hg _).setCell hg _,hg⟩
  obtain⟨pa,pc,rfl,_,_⟩:=o1.1.rd.shape;obtain⟨qa,qc,rfl,_,_⟩:=o2.rd.shape;obtain⟨ea,ec,eqe,_,_⟩:=o3.1.rd.shape;rw[List.length_nil] at eqe;subst eqe;obtain⟨ra,rc,rfl,_,_⟩:=o4.rd.shape;obtain⟨b0,b1,b2,b3⟩:=AB hB;have hfz:=AM hB;have HN0:=AA N0;have HN1:=AA N1;have HhW0:=AA hW0;have Hs0:=AA hs0;clear o1 o2 o3 o4 hG hB hgr x0 x1 x2 x3 N0 N1 hW0 hs0 RI RC C1;go_wp2_with fail;clear b0 b1 b2 b3 hfz;go_loopw [4] (fun ix wr=>∃(qs:List (Value×Int)) (ev:Value),qs.length≤3∧ix= .int .i64 qs.length∧KL W0 g (.slice pa vs'.length pc) (.slice qa k.infos.length qc) ev (.slice ra k.cache.length rc) k qs wr) (fun ix _=>3 - (intOf ix).toNat)
  case atStart=>exact⟨[],_,by simp,rfl,St⟩
  case round=>
   clear St;obtain⟨qs,ev,hq,rfl,St⟩:=hrel;have Hel3:=Hel.out;have hx2:=(AB ((St.2.2.2.2.2.1.block _ hlt0).trans HN0.out)).2.2.1;have hlt0r:=Nat.lt_of_lt_of_le hlt0 St.2.2.2.2.2.1.size;have y2:=(AB St.1).2.2.1;have hlgr:=Ao St.1;obtain⟨ea,ec,rfl,hec,hecm⟩:=St.2.2.2.1.1.rd.shape
   by_cases hlt:qs.length<3
   ·have hqe:qs.length<k.envs.length:=by omega
    obtain⟨be,offe,ua,uc,rfl,hlbe,D0,D1,hR⟩:=(HE.out.below (St.2.2.2.2.2.1)) qs.length hqe;have hlti:(qs.length:Int)<k.envs.length:=by omega
    have RS:=AA hR;have hsl:=Mv Hk.out hlt;have HSt:=AA St;have Hel':=AA Hel3;have x2r:=hx2;clear St hR Hel3 hx2;go_wp2_with fail;refine AH 18 mixed (by kernel_rfl) 46 rfl (by kernel_rfl) (fun ix vv ww=>match ix with
     |0=>vv= .pointer (some ⟨g,2,none⟩)
     |1=>vv= .slice ea qs.length ec
     |2=>JM wr.heap.size 9 ww vv
     |3=>vv= .pointer (some ⟨w.heap.size,2,none⟩)
     |4=>vv= .slice (some ⟨be,offe,none⟩) k.envs.length ce
     |5=>vv= .int .i64 ((qs.length:Int))
     |6=>vv= .pointer (some ⟨be,offe+qs.length*2,none⟩)
     |7=>vv= .pointer (some ⟨be,offe+qs.length*2,none⟩)
     |8=>vv= .slice ua (AC k.envs qs.length).rights.length uc
     |9=>AJ wr.heap.size 9 1 An ww vv (AC k.envs qs.length).rights
     |10=>vv= .pointer (some ⟨w.heap.size,2,none⟩)
     |11=>vv= .slice (some ⟨be,offe,none⟩) k.envs.length ce
     |12=>vv= .int .i64 ((qs.length:Int))
     |13=>vv= .pointer (some ⟨be,offe+qs.length*2,none⟩)
     |14=>vv= .pointer (some ⟨be,offe+qs.length*2+1,none⟩)
     |15=>vv= .int .i64 ((AC k.envs qs.length).root)
     |16=>Q0 wr.heap.size (AC k.envs qs.length).root (AC k.envs qs.length).rights ww vv
     |17=>Ss wr.heap.size (AC k.envs qs.length).root (AC k.envs qs.length).rights ww vv
     |_=>True) ?_ ?_ ?_
    ·intro i hi vv wz ww' hbz hz
     match i,hi with
     |0,_|1,_=>exact hz
     |2,_=>exact(JM.below hz hbz)
     |3,_|4,_|5,_|6,_|7,_|8,_=>exact hz
     |9,_=>exact(AJ.below hz hbz)
     |10,_|11,_|12,_|13,_|14,_|15,_=>exact hz
     |16,_=>exact(Q0.below hz hbz)
     |17,_=>exact(Ss.below hz hbz)
     |_+18,hq=>exact absurd hq (by omega)
    ·intro i hi o ho a wx Hb Hd hG K HK
     match i,hi with
     |0,_=>exact eF ho HK GO (eb (Aj Hb 3))
     |1,_=>exact eL ho HK (et (AD Hd 0)) (La (bc hG hlgr y2))
     |2,_=>obtain rfl:=So_ ho;clear Hd Hb;refine AI.of rfl ?_;go_simp;exact HK.out _ _ ⟨_,rfl,hG.size,heap_alloc_new _ _⟩ (AG _ _)
     |3,_=>exact eF ho HK GO (eb (Aj Hb 1))
     |4,_=>exact eL ho HK (et (AD Hd 3)) (La (bc hG hlt0r x2r))
     |5,_=>exact eM ho HK (eb (Aj Hb 4))
     |6,_=>obtain rfl:=So_ ho;have d4:(a.tmps[29]?.getD undef)= .slice (some ⟨be,offe,none⟩) k.envs.length ce:=AD Hd 4;have d5:(a.tmps[30]?.getD undef)= .int .i64 ((qs.length:Int)):=AD Hd 5;clear Hd Hb;refine AI.of rfl ?_;go_simp;exact HK.out _ _ rfl (Below.refl _ _)
     |7,_=>exact eF ho HK EV (et (AD Hd 6))
     |8,_=>exact eL ho HK (et (AD Hd 7)) (Ie (bc hG hlbe D0))
     |9,_=>obtain rfl:=So_ ho;have d2:JM wr.heap.size 9 wx (a.tmps[27]?.getD undef):=AD Hd 2;have d8:(a.tmps[33]?.getD undef)= .slice ua (AC k.envs qs.length).rights.length uc:=AD Hd 8;clear Hd Hb;refine AI.of rfl ?_;obtain⟨g_,d0a,d0b,d0c⟩:=d2;obtain⟨v7,w4,hrun,r1,r2,_⟩:=Ct (lo:=wr.heap.size) (w:=wx) (t:=67) (ty:=67) 9 _ 1 16 underlying67 Tryz.infoStringK rfl (by decide) d0c d0b (A3.below RS.out hG) (F0 _) (by omega);refine BY rfl (BR d0a) (BR d8) hrun ?_;exact HK.out _ _ r1 r2
     |10,_=>exact eF ho HK GO (eb (Aj Hb 1))
     |11,_=>exact eL ho HK (et (AD Hd 10)) (La (bc hG hlt0r x2r))
     |12,_=>exact eM ho HK (eb (Aj Hb 4))
     |13,_=>obtain rfl:=So_ ho;have d11:(a.tmps[36]?.getD undef)= .slice (some ⟨be,offe,none⟩) k.envs.length ce:=AD Hd 11;have d12:(a.tmps[37]?.getD undef)= .int .i64 ((qs.length:Int)):=AD Hd 12;clear Hd Hb;refine AI.of rfl ?_;go_simp;exact HK.out _ _ rfl (Below.refl _ _)
     |14,_=>exact eF ho HK Ez (et (AD Hd 13))
     |15,_=>exact eL ho HK (et (AD Hd 14)) (DA (bc hG hlbe D1))
     |16,_=>obtain rfl:=So_ ho;have d9:AJ wr.heap.size 9 1 An wx (a.tmps[34]?.getD undef) (AC k.envs qs.length).rights:=AD Hd 9;have d15:(a.tmps[40]?.getD undef)= .int .i64 ((AC k.envs qs.length).root):=AD Hd 15;clear Hd Hb;generalize e34:a.tmps[34]?.getD undef=u at d9;have W:Hid (Q0 wr.heap.size (AC k.envs qs.length).root (AC k.envs qs.length).rights wx (.agg #[u, .int .i64 (AC k.envs qs.length).root])):=AA ⟨u,rfl,d9⟩;obtain⟨_,_,rfl,_,_⟩:=d9.rd.shape;clear d9;refine AI.of rfl ?_;go_simp;exact HK.out _ _ W.out (Below.refl _ _)
     |17,_=>obtain rfl:=So_ ho;have d16:Q0 wr.heap.size (AC k.envs qs.length).root (AC k.envs qs.length).rights wx (a.tmps[41]?.getD undef):=AD Hd 16;clear Hd Hb;obtain⟨u,d16,d9⟩:=d16;have HD:=AA d9;obtain⟨_,_,rfl,_,_⟩:=d9.rd.shape;clear d9;refine AI.of rfl ?_;go_simp;exact HK.out _ _ ⟨_,_,rfl,hG.size,heap_alloc_new _ _,HD.out.below (AG _ _)⟩ (AG _ _)
     |_+18,hq=>exact absurd hq (by omega)
    ·intro vs wx hR hG
     have q1:(vs 1)= .slice ea qs.length ec:=BI hR 1;have q17:Ss wr.heap.size (AC k.envs qs.length).root (AC k.envs qs.length).rights wx (vs 17):=BI hR 17;clear hR;simp only[Ai,AX,List.range,List.range.loop,List.foldl_cons,List.foldl_nil,q1];simp;generalize vs 17=z17 at q17 ⊢;clear q1;obtain⟨gb,u,rfl,_,hgb,hu⟩:=q17;have hbw:=HSt.out.2.2.2.2.2.1;have y2w:=(hG.cell (p:=⟨g,2,none⟩) hlgr).trans y2;have hlgw:=Nat.lt_of_lt_of_le hlgr hG.size;have Q:=AA (VX hgb);have HU:=AA hu;have O:=AA (HSt.out.2.2.2.1.1.below hG);have HG:=AA hG;have hbg:=(hbw.trans (hG.mono hbw.size)).size;obtain⟨_,_,rfl,_,_⟩:=hu.rd.shape;clear hgb hu hG D0 D1 y2 hbw;go_wp2_with (at_builtin;go_must (refine BW (lo:=W0.heap.size) (n:=qs.length) (xs:=Bj ED qs) (m:=1) rfl rfl 85 (.agg #[.slice none 0 0, .int .i64 0]) 2 32 underlying26 Tryz.infoEnv rfl (by decide) rfl O.out rfl Q.out (by simp[Value.oneCell']) (by unfold maxLen;omega) (by omega) hbg ?_;intro o' w9 k1 k2 k3 k4;have S:=AA (HSt.out.step HG.out HU.out (show k.envs[qs.length]? =some (AC k.envs qs.length) by unfold AC;exact A8 hqe) k1 k2);have hB9:=HSt.out.blk HG.out k2;have z2:=(AB hB9).2.2.1;have fz9:=AM hB9;have hl9:=Ao hB9;obtain⟨_,_,rfl,_,_⟩:=(Rd.of_owns k1).shape;clear k1 k2 k3 k4 hB9 y2w));go_roundw
     case rel=>exact⟨_,_,by rw[List.length_append,List.length_singleton];omega,by rw[List.length_append,List.length_singleton];go_num,S.out⟩
     case measure=>simp[intOf];omega
   ·have e3:qs.length=3:=by omega
    obtain⟨hB,⟨vs2,o1⟩,o2,o3,o4,hbel,_⟩:=St;have o5:Bm W0.heap.size wr (.slice ea qs.length ec) qs k.envs:=by have:=o3;rwa [List.take_of_length_le (by omega)] at this
    have hBs:=(hbel.block _ (by have:=Hs0.out;omega)).trans HN1.out;have S:=AA (show ∀w',wr.grownBy w' (some (w.heap.size+1))→MH w k (.returned (.agg #[_,_,(.slice ea qs.length ec),_])) w' from fun w' hg'=>⟨_,_,_,_,rfl,⟨⟨vs2,(o1.far hg' hBs (by decide) (by decide)).lower hb0.size⟩,(o2.far hg' hBs (by decide)).lower hb0.size,⟨qs,(o5.far hg' hBs (by decide) (by decide)).lower hb0.size⟩,(o4.far hg' hBs (by decide)).lower hb0.size⟩,(hb0.trans (hbel.mono hb0.size)).grown hg' (hb0.trans (hbel.mono hb0.size)).size (fun k hk=>by cases hk;omega)⟩)
    obtain⟨E0,E1,E2,E3⟩:=AB (DJ (m':= .slice pa vs'.length pc) (i':= .slice qa k.infos.length qc) (e':= .slice ea qs.length ec) (c':= .slice ra k.cache.length rc) hBs);have HE:=AA (And.intro E0 (And.intro E1 (And.intro E2 E3)));have hgr:wr.grownBy ((((wr.setCell ⟨w.heap.size+1,0,none⟩ (.slice pa vs'.length pc)).setCell ⟨w.heap.size+1,1,none⟩ (.slice qa k.infos.length qc)).setCell ⟨w.heap.size+1,2,none⟩ (.slice ea qs.length ec)).setCell ⟨w.heap.size+1,3,none⟩ (.slice ra k.cache.length rc)) (some (w.heap.size+1)):=Ab (Ab (Ab (Al wr (w.heap.size+1) 0 _) 1 _) 2 _) 3 _;obtain⟨b0,b1,b2,b3⟩:=AB hB;obtain⟨c0,c1,c2,c3⟩:=AB hBs;have hfz:=AM hBs;have hlt3:¬(qs.length:Int)<k.envs.length:=by omega
    have x2r:=hx2;clear hB hBs o1 o2 o3 o4 o5 E0 E1 E2 E3 e3 hx2 Hel3;go_wp2_with fail;obtain⟨E0,E1,E2,E3⟩:=HE.out;exact bodyPost_ret (v:= .agg #[_,_,_,_]) (by simp[results,Tryz.results143,go_sem,E0,E1,E2,E3]) rfl (S.out _ hgr)
theorem KD (m iv ev cv:Value) (k:AN) (kk b c:Int) (en an:Nat) (nm:ByteArray) (w:World) (h:Mb w m iv ev cv k) (hk:De k) (hen:en<3) (han:an<12) (hkk:kk=4→Ba b=true):
 Calls prog 285 #[.agg #[m,iv,ev,cv], .agg #[.int .i64 kk, .int .i64 en, .int .i64 an, .int .i64 b, .int .i64 c, .string nm]] w (KP (if kk=4 then FU k.mem k.infos an b (AC k.envs en).rights else Cw k.mem k.infos an) w):=by
 obtain⟨N0,N1,hb0,hs0⟩:=Ph w (.cells #[m,iv,ev,cv] 29) (.cells #[.int .i64 kk, .int .i64 en, .int .i64 an, .int .i64 b, .int .i64 c, .string nm] 44);obtain⟨x0,x1,x2,x3⟩:=AB N0;obtain⟨y0,y1,y2,y3,y4,y5⟩:=Iv N1;have hlg:=Ao N0;have hlb:=Ao N1;have hok:=(AW hk).1;have hio:=(AW hk).2.1;have hm:=h.1.below hb0;have hi:=A3.below h.2.1 hb0;obtain⟨ae,ce,rfl,_,_,HE⟩:=(h.2.2.1.below hb0).open;have hel:en<k.envs.length:=by rw[hk.envl];exact hen
 obtain⟨be,offe,ua,uc,rfl,hlbe,D0,_,hR⟩:=HE en hel;have hell:(en:Int)<k.envs.length:=by omega
 have hn0:¬(en:Int)<0:=by omega
 have C1:=fun(h4:kk=4)=>fun W (hW:Below _ _ W)=>Nt m iv _ k.mem k.infos an b (AC k.envs en).rights W (hm.below hW) hok (A3.below hi hW) hio han (hkk h4) (A3.below hR hW) (Ft hk hen) (hk.rights en hen)
 have C2:=AA (fun W (hW:Below _ _ W)=>ME m iv k.mem k.infos an W (hm.below hW) hok (A3.below hi hW) hio han);obtain⟨am,cm,rfl,_⟩:=hm.open;obtain⟨ai,ci,rfl,_,_⟩:=hi.shape;generalize hW0:(w.alloc _).alloc _=W0 at*
 by_cases h4:kk=4
 ·rw[if_pos h4]
  have CP:=AA (C1 h4);subst h4;generalize FU k.mem k.infos an b (AC k.envs en).rights=res at*;clear h hk N0 N1 HE hm hi hR C1 C2 hok hio hkk hs0;go_in;go_wp2_with fail;refine AH 18 mixed (by kernel_rfl) 36 rfl (by kernel_rfl) (fun ix vv ww=>match ix with
   |0=>vv= .pointer (some ⟨w.heap.size,0,none⟩)
   |1=>vv= .slice am k.mem.length cm
   |2=>vv= .pointer (some ⟨w.heap.size,1,none⟩)
   |3=>vv= .slice ai k.infos.length ci
   |4=>vv= .pointer (some ⟨w.heap.size+1,2,none⟩)
   |5=>vv= .int .i64 an
   |6=>vv= .pointer (some ⟨w.heap.size+1,3,none⟩)
   |7=>vv= .int .i64 b
   |8=>vv= .pointer (some ⟨w.heap.size,2,none⟩)
   |9=>vv= .slice (some ⟨be,offe,none⟩) k.envs.length ce
   |10=>vv= .pointer (some ⟨w.heap.size+1,1,none⟩)
   |11=>vv= .int .i64 en
   |12=>vv= .pointer (some ⟨be,offe+en*2,none⟩)
   |13=>vv= .pointer (some ⟨be,offe+en*2,none⟩)
   |14=>vv= .slice ua (AC k.envs en).rights.length uc
   |15=>∃v',vv= .tuple #[v', .int .i64 res.2]∧AJ W0.heap.size 135 3 Ag ww v' res.1
   |16=>AJ W0.heap.size 135 3 Ag ww vv res.1
   |17=>vv= .int .i64 (res.2)
   |_=>True) ?_ ?_ ?_
  ·intro i hi vv wz ww' hbz hz
   match i,hi with
   |0,_|1,_|2,_|3,_|4,_|5,_|6,_|7,_|8,_|9,_|10,_|11,_|12,_|13,_|14,_=>exact hz
   |15,_=>exact(by obtain⟨v',h0,h1⟩:=hz;exact⟨v',h0,AJ.below h1 hbz⟩)
   |16,_=>exact(AJ.below hz hbz)
   |17,_=>exact hz
   |_+18,hq=>exact absurd hq (by omega)
  ·intro i hi o ho a wx Hb Hd hG K HK
   match i,hi with
   |0,_=>exact eF ho HK Ci (eb (Aj Hb 2))
   |1,_=>exact eL ho HK (et (AD Hd 0)) (Fd (bc hG hlg x0))
   |2,_=>exact eF ho HK CU (eb (Aj Hb 2))
   |3,_=>exact eL ho HK (et (AD Hd 2)) (FF (bc hG hlg x1))
   |4,_=>exact eF ho HK EC (eb (Aj Hb 3))
   |5,_=>exact eL ho HK (et (AD Hd 4)) (DA (bc hG hlb y2))
   |6,_=>exact eF ho HK Gp (eb (Aj Hb 3))
   |7,_=>exact eL ho HK (et (AD Hd 6)) (DA (bc hG hlb y3))
   |8,_=>exact eF ho HK GO (eb (Aj Hb 2))
   |9,_=>exact eL ho HK (et (AD Hd 8)) (La (bc hG hlg x2))
   |10,_=>exact eF ho HK FY (eb (Aj Hb 3))
   |11,_=>exact eL ho HK (et (AD Hd 10)) (DA (bc hG hlb y1))
   |12,_=>obtain rfl:=So_ ho;have d9:(a.tmps[18]?.getD undef)= .slice (some ⟨be,offe,none⟩) k.envs.length ce:=AD Hd 9;have d11:(a.tmps[20]?.getD undef)= .int .i64 en:=AD Hd 11;clear Hd Hb;refine AI.of rfl ?_;go_simp;exact HK.out _ _ rfl (Below.refl _ _)
   |13,_=>exact eF ho HK EV (et (AD Hd 12))
   |14,_=>exact eL ho HK (et (AD Hd 13)) (Ie (bc hG hlbe D0))
   |15,_=>obtain rfl:=So_ ho;have d1:(a.tmps[10]?.getD undef)= .slice am k.mem.length cm:=AD Hd 1;have d3:(a.tmps[12]?.getD undef)= .slice ai k.infos.length ci:=AD Hd 3;have d5:(a.tmps[14]?.getD undef)= .int .i64 an:=AD Hd 5;have d7:(a.tmps[16]?.getD undef)= .int .i64 b:=AD Hd 7;have d14:(a.tmps[23]?.getD undef)= .slice ua (AC k.envs en).rights.length uc:=AD Hd 14;clear Hd Hb;refine AI.of rfl ?_;go_simp;refine(CP.out _ hG).mono ?_;rintro e w_ ⟨v',rfl,hO,hb2⟩;exact HK.out _ _ ⟨_,rfl,hO.lower hG.size⟩ hb2
   |16,_=>
    obtain rfl:=So_ ho;have d15:∃v',(a.tmps[24]?.getD undef)= .tuple #[v', .int .i64 res.2]∧AJ W0.heap.size 135 3 Ag wx v' res.1:=AD Hd 15
    clear Hd Hb;obtain⟨v',d15,hO⟩:=d15;refine AI.of rfl ?_;go_simp;exact HK.out _ _ hO (Below.refl _ _)
   |17,_=>
    obtain rfl:=So_ ho;have d15:∃v',(a.tmps[24]?.getD undef)= .tuple #[v', .int .i64 res.2]∧AJ W0.heap.size 135 3 Ag wx v' res.1:=AD Hd 15
    clear Hd Hb;obtain⟨v',d15,hO⟩:=d15;refine AI.of rfl ?_;go_simp;exact HK.out _ _ rfl (Below.refl _ _)
   |_+18,hq=>exact absurd hq (by omega)
  ·intro vs wx hR hG
   have q16:AJ W0.heap.size 135 3 Ag wx (vs 16) res.1:=BI hR 16;have q17:(vs 17)= .int .i64 (res.2):=BI hR 17;clear hR;simp only[Ai,AX,List.range,List.range.loop,List.foldl_cons,List.foldl_nil,q17];simp;generalize vs 16=z16 at q16 ⊢;clear q17;have Q:=AA q16;have hbx:=hb0.trans (hG.mono hb0.size);obtain⟨_,_,rfl,_,_⟩:=q16.rd.shape;clear q16 hG;go_wp2_with fail;go_ret2;exact⟨_,rfl,Q.out.lower hb0.size,hbx⟩
 ·rw[if_neg h4]
  have t4:(kk==4)=false:=by simp[h4]
  generalize Cw k.mem k.infos an=res at*;clear h hk N0 N1 HE hm hi hR C1 hok hio hkk hs0 h4;go_in;go_wp2_with fail;refine(C2.out _ (Below.refl _ _)).mono ?_;rintro r w2 ⟨v',rfl,hO,b2⟩;have HO:=AA hO;have hbx:=hb0.trans (b2.mono hb0.size);obtain⟨_,_,rfl,_,_⟩:=hO.rd.shape;clear hO b2;go_wp2_with fail;go_ret2;exact⟨_,rfl,HO.out.lower hb0.size,hbx⟩
theorem IR {lo:Nat} {w:World} {t:TypeId} (ty:TypeId) (e:TypeId) (z:Value) (sz bytes:Nat) (ht:prog.underlying t=some (.slice e)) (hi:(prog.info? e).map (fun i=>(i.zero,i.size,i.bytes))=some (some z,sz,bytes))
 (hzs:z.cells.size=sz) (hsz:0<sz) {v u:Value} {n m:Nat} {xs news:List Value} (hown:w.ownsRow lo e sz v n xs) (hr:Rd w u sz m news) (h1:∀u∈news,u.oneCell'=true) (h63:n+m≤maxLen) (hbytes:(n+m)*bytes≤140737488355328) (hlo:lo≤w.heap.size):
 ∃v' w',(Builtin.append_ #[t,t] ty #[v,u]).run prog w= .ok v' w'∧w'.ownsRow lo e sz v' (n+m) (xs++news)∧w.grownBy w' v.ownBlock∧Below lo w w':=by
 obtain⟨i0,hi0,hz0,hz1,hz2⟩:=info_parts hi;obtain⟨ao,c,rfl,hmc,hcm,hl,hnil,hc⟩:=hr;have hbel:∀w',w.grownBy w' v.ownBlock→Below lo w w':=fun w' hg=>(Below.refl lo w).grown hg hlo (fun k hk=>(hown.lt k hk).1)
 cases ao with
 |none=>
  have hc0:=hnil rfl;subst hc0;obtain rfl:m=0:=by omega
  have hnews:news=[]:=List.eq_nil_of_length_eq_zero (by simpa using hl);subst hnews;exact⟨v,w,run_append_owned_none (P:=prog) (w:=w) lo t ty e i0 sz ht hi0 v n xs hown,by simpa using hown,⟨rfl,rfl,rfl,Nat.le_refl _,fun _ _ _=>rfl⟩,Below.refl _ _⟩
 |some ad=>
  obtain⟨v',w',h2,h3,h4,_⟩:=run_append_own_at (P:=prog) w lo t ty e i0 z sz bytes ht hi0 hz0 hz1 hz2 hzs hsz v n xs hown ad m c news hl (by
   intro j u hu
   rcases Nat.eq_zero_or_pos m with rfl|hm
   ·simp at hl
    simp[hl] at hu
   ·obtain⟨b,off,had,hcell⟩:=hc hm
    obtain rfl:ad=⟨b,off,none⟩:=by simpa using had
    have hj:j<news.length:=(List.getElem?_eq_some_iff.1 hu).1;have hadd:(⟨b,off,none⟩:Addr).add j=⟨b,off+j,none⟩:=by unfold Addr.add;split<;>simp_all
    rw[hadd,hcell j (by omega),hu]) h1 h63 hbytes hlo
  exact⟨v',w',h2,h3,h4,hbel w' h4⟩
def Gu (ss:List ByteArray) (s:ByteArray):List ByteArray×Bool:=if A2 ss&&A4 s then A6 ss s else([],false)
def VE (w:World) (r:List ByteArray×Bool) (e:Ending) (w':World):Prop:=∃v',e= .returned (.tuple #[v', .bool r.2])∧AJ w.heap.size 9 1 An w' v' r.1∧Below w.heap.size w w'
theorem Oj {w:World} {a:Option Addr} {n c k:Nat} {ss:List ByteArray} (h:BC w (.slice a n c) ss) (hn:n=ss.length) (hk:k≤n):BC w (.slice a k c) (ss.take k):=by
 obtain⟨ao,c',hv,hmc,hcm,hl,hnil,hc⟩:=h;simp only[Value.slice.injEq] at hv;obtain⟨rfl,_,rfl⟩:=hv;have hlen:(ss.take k).length=k:=by rw[List.length_take];omega
 unfold BC A3;rw[hlen];refine⟨_,_,rfl,by omega,hcm,by rw[Dx,List.length_map,hlen,Nat.mul_one],hnil,fun hk0=>?_⟩;obtain⟨b,off,e,hcell⟩:=hc (by omega);refine⟨b,off,e,fun j hj=>?_⟩;have hj':j<k:=by omega
 rw[hcell j (by omega),Dx,Dx,List.map_take,List.getElem?_take,if_pos hj']
theorem Tw {w:World} {b off n c k:Nat} {ss:List ByteArray} (h:BC w (.slice (some ⟨b,off,none⟩) n c) ss) (hn:n=ss.length) (hk:k≤n) (b' off':Nat) (he:k<n→b'=b∧off'=off+k):BC w (.slice (some ⟨b',off',none⟩) (n - k) (c - k)) (ss.drop k):=by
 obtain⟨ao,c',hv,hmc,hcm,hl,hnil,hc⟩:=h;simp only[Value.slice.injEq] at hv;obtain⟨rfl,_,rfl⟩:=hv;have hlen:(ss.drop k).length=n - k:=by rw[List.length_drop];omega
 unfold BC A3;rw[hlen];refine⟨_,_,rfl,by omega,by omega,by rw[Dx,List.length_map,hlen,Nat.mul_one],(by intro e;cases e),fun hk0=>?_⟩;obtain⟨b1,off1,e,hcell⟩:=hc (by omega);obtain⟨rfl,rfl⟩:b=b1∧off=off1:=by simpa using e
 obtain⟨rfl,rfl⟩:=he (by omega);refine⟨_,_,rfl,fun j hj=>?_⟩;rw[Nat.add_assoc,hcell (k+j) (by omega),Dx,Dx,List.map_drop,List.getElem?_drop]
theorem Ms (vs:List Value):Bj Fg vs=vs:=by
 induction vs with
 |nil=>rfl
 |cons v vs ih=>rw[G6,ih];rfl
theorem Ah.set {lo B:Nat} {w0 w:World} {gs n cap j:Nat} {vs:List Value} {S:List (List Int)} {v':Value} {r:List Int} (h:Ah lo w0 (.slice (some ⟨gs,0,none⟩) n cap) vs S) (hb:Below w0.heap.size w0 w) (hO:AE B w v' r) (hB:w0.heap.size≤B) (hlo:lo≤w0.heap.size) (hn:n=vs.length) (hj:j<vs.length):
 Ah lo (w.setCell ⟨gs,j,none⟩ v') (.slice (some ⟨gs,0,none⟩) n cap) (vs.set j v') (S.set j r)∧w.grownBy (w.setCell ⟨gs,j,none⟩ v') (some gs):=by
 have h':=h.below hb;obtain⟨h1,⟨h2l,h2⟩,h3⟩:=h';have g1:w.ownsRow lo 30 1 (.slice (some ⟨gs,0,none⟩) n cap) n vs:=by have:=h1;unfold AJ at this;rw[Ms,←hn] at this;exact this
 obtain⟨s1,s2⟩:=World.ownsRow.stored g1 j v';obtain⟨cur,hcur⟩:=Bf g1 gs rfl;have old:∀(i:Nat) u,vs[i]? =some u→∀b,u.ownBlock=some b→b<w0.heap.size:=fun i u hu b hb'=>by
  obtain⟨x,hx⟩:∃x,S[i]? =some x:=⟨_,List.getElem?_eq_getElem (by rw[←h2l];exact(List.getElem?_eq_some_iff.1 hu).1)⟩
  exact(World.ownsRow.lt (h.2.1.2 i u x hu hx) b hb').2
 refine⟨⟨?_,⟨by rw[List.length_set,List.length_set];exact h2l,fun i u x hu hx=>?_⟩,fun i k u u' hik hu hu'=>?_⟩,s2⟩
 ·unfold AJ
  rw[Ms,List.length_set,←hn];exact s1
 ·rw[List.getElem?_set] at hu hx
  by_cases e:j=i
  ·subst e
   rw[if_pos rfl,if_pos hj] at hu;rw[if_pos rfl,if_pos (by rw[←h2l];exact hj)] at hx;cases hu;cases hx;exact Ek (BQ hO (Nat.le_trans hlo hB)) s2 hcur (by decide)
  ·rw[if_neg e] at hu hx
   exact Ek (h2 i u x hu hx) s2 hcur (by decide)
 ·have fresh:∀b,v'.ownBlock=some b→w0.heap.size≤b:=fun b hb'=>Nat.le_trans hB (World.ownsRow.lt hO b hb').1
  rw[List.getElem?_set] at hu hu'
  by_cases e:j=i
  ·subst e
   rw[if_pos rfl,if_pos hj] at hu;rw[if_neg hik] at hu';cases hu;intro b hb1 hb2;have:=fresh b hb1;have:=old k u' hu' b hb2;omega
  ·rw[if_neg e] at hu
   by_cases e':j=k
   ·subst e'
    rw[if_pos rfl,if_pos hj] at hu';cases hu';intro b hb1 hb2;have:=fresh b hb2;have:=old i u hu b hb1;omega
   ·rw[if_neg e'] at hu'
    exact h3 i k u u' hik hu hu'
theorem GQ {k:AN} (hk:De k):k.cache.length≤4:=by have:=hk.cache;simp only[Bc,Bool.and_eq_true,decide_eq_true_eq] at this;exact this.2
theorem Dm.newRow {T:Nat} {cs:Array Value} {R:List Nat} {lo g b0:Nat} {w W W':World} {i e c:Value} {k:AN} {gm n cap:Nat} (h:Dm T cs R lo g b0 w W (.slice (some ⟨gm,0,none⟩) n cap) i e c k) (hn:n=k.mem.length) (hb:Below W.heap.size W W') {v':Value} {r:List Int} (h2:AE W.heap.size W' v' r) {f:Nat} (hf:f<k.mem.length):
 Dm T cs R lo g b0 w (W'.setCell ⟨gm,f,none⟩ v') (.slice (some ⟨gm,0,none⟩) n cap) i e c {k with mem:=k.mem.set f r}:=by
 have h':=h.below hb;obtain⟨vs,o1⟩:=h.ink.2.2.1;have hvl:vs.length=k.mem.length:=o1.2.1.1;have S:=Ah.set o1 hb h2 (Nat.le_refl _) h.lo (by omega) (show f<vs.length by omega);have o1':=o1.below hb;obtain⟨cur,hc⟩:=Bf o1'.1 gm rfl;obtain⟨hB,hg,_,o2,⟨ps,o3⟩,o4⟩:=h'.ink;exact⟨⟨Jo hB S.2 hc (by decide),hg,⟨_,S.1⟩,o2.far S.2 hc (by decide),⟨ps,o3.far S.2 hc (by decide) (by decide)⟩,o4.far S.2 hc (by decide)⟩,BD h'.blk S.2 (Dn hc h'.blk h.ty.2.2.2.2),AT h'.bel S.2 (World.ownsRow.lt o1'.1 gm rfl).1 h'.lo,Nat.le_trans h'.lo S.2.size,h.ty,h'.kf.row S.2 hc (by decide),fun b hr=>⟨(h.rs b hr).1,BD (h'.rs b hr).2 S.2 (Dn hc (h'.rs b hr).2 (by decide))⟩⟩
def AR.cs (c:AR):Array Value:= #[.int .i64 c.k, .int .i64 c.e, .int .i64 c.a, .int .i64 c.b, .int .i64 c.c, .string c.nm]
abbrev SC (lo n:Nat) (call:AR) (w W:World) (m i e c:Value) (k:AN):Prop:=Dm 44 call.cs [n+2] lo n (n+1) w W m i e c k
theorem SC.start {lo:Nat} {w:World} {m i e c:Value} {k:AN} (h:Cz lo w m i e c k) (hlo:lo≤w.heap.size) (call:AR):
 SC lo w.heap.size call w (((w.alloc (.cells #[m,i,e,c] 29)).alloc (.cells call.cs 44)).alloc (.cells #[.slice none 0 0, .slice none 0 0, .slice none 0 0, .slice none 0 0] 29)) m i e c k:=by
 obtain⟨N0,N1,hb0,hs0⟩:=Ph w (.cells #[m,i,e,c] 29) (.cells call.cs 44);generalize(w.alloc (.cells #[m,i,e,c] 29)).alloc (.cells call.cs 44)=W at*;have hb1:=AG W (.cells #[.slice none 0 0, .slice none 0 0, .slice none 0 0, .slice none 0 0] 29);have N2:=heap_alloc_new W (.cells #[.slice none 0 0, .slice none 0 0, .slice none 0 0, .slice none 0 0] 29);have hb:=hb0.trans (hb1.mono hb0.size);rw[hs0] at N2;refine⟨⟨AF N0 hb1,hlo,h.below hb⟩,AF N1 hb1,hb.mono hlo,Nat.le_trans hlo hb.size,by decide,UC.below (fun _ _ _ _=>rfl) hb,fun b hr=>?_⟩;rw[List.mem_singleton] at hr;subst hr;exact⟨by omega,N2⟩
def Vz (m i e c:Value):Prop:=∃am nm cm ai ni ci ae ne ce ac nc cc,m= .slice am nm cm∧i= .slice ai ni ci∧e= .slice ae ne ce∧c= .slice ac nc cc
def GF (lo:Nat) (w:World) (res:LB) (r:Ending) (w':World):Prop:=∃m i e c,r= .returned (.tuple #[.agg #[m,i,e,c], .int .i64 res.2.1, .int .i64 res.2.2])∧Vz m i e c∧(res.2.2=0→Cz lo w' m i e c res.1)∧Below lo w w'∧(∀(b:Nat) (cu:Array Value),w.heap[b]? =some (.cells cu 29 (0,0))→w'.heap[b]? =w.heap[b]?)
section
variable {T:Nat} {cs:Array Value} {R:List Nat} {lo g b0 b:Nat} {w W W':World} {m i e c:Value} {k:AN}
theorem Dm.ys6 {v0 v1 v2 v3 v4 v5:Value} (h:Dm T #[v0,v1,v2,v3,v4,v5] R lo g b0 w W m i e c k):W.cell? ⟨b0,0,none⟩=some v0∧W.cell? ⟨b0,1,none⟩=some v1∧W.cell? ⟨b0,2,none⟩=some v2∧W.cell? ⟨b0,3,none⟩=some v3∧W.cell? ⟨b0,4,none⟩=some v4∧W.cell? ⟨b0,5,none⟩=some v5:=Iv h.blk
theorem Dm.K (h:Dm T cs R lo g b0 w W m i e c k):Mb W m i e c k:=h.ink.2.2.rd
theorem Dm.shapes (h:Dm T cs R lo g b0 w W m i e c k):Vz m i e c:=by obtain⟨h1,h2,h3,h4⟩:=h.K;obtain⟨am,cm,rfl,_⟩:=h1.open;obtain⟨ai,ci,rfl,_,_⟩:=h2.shape;obtain⟨ae,ce,rfl,_⟩:=h3.open;obtain⟨ac,cc,rfl,_,_⟩:=h4.shape;exact⟨_,_,_,_,_,_,_,_,_,_,_,_,rfl,rfl,rfl,rfl⟩
theorem Dm.ret (h:Dm T cs [b] lo w.heap.size b0 w W m i e c k) (hlo:lo≤b) (hgb:w.heap.size≤b) {v code:Int} {res:LB} (hr:res=(k,v,code)):
 ((((W.setCell ⟨b,0,none⟩ m).setCell ⟨b,1,none⟩ i).setCell ⟨b,2,none⟩ e).setCell ⟨b,3,none⟩ c).heap[b]? =some (.cells #[m,i,e,c] 29 (0,0))∧
 GF lo w res (.returned (.tuple #[.agg #[m,i,e,c], .int .i64 v, .int .i64 code])) ((((W.setCell ⟨b,0,none⟩ m).setCell ⟨b,1,none⟩ i).setCell ⟨b,2,none⟩ e).setCell ⟨b,3,none⟩ c):=by
 obtain⟨hne,hB⟩:=h.rs b (List.mem_singleton.2 rfl);subst hr;have hgr:=Ab (Ab (Ab (Al W b 0 m) 1 i) 2 e) 3 c;obtain⟨⟨vs,o1⟩,o2,⟨ps,o3⟩,o4⟩:=h.ink.2.2;exact⟨DJ hB,m,i,e,c,rfl,h.shapes,fun _=>⟨⟨vs,o1.far hgr hB (by decide) (by decide)⟩,o2.far hgr hB (by decide),⟨ps,o3.far hgr hB (by decide) (by decide)⟩,o4.far hgr hB (by decide)⟩,(((h.bel.setCell hlo _).setCell hlo _).setCell hlo _).setCell hlo _,fun q cu hq=>(BD ((h.kf q cu (by have:=Ao hq;omega) hq).trans hq) (Ab (Ab (Ab (Al W b 0 m) 1 i) 2 e) 3 c) (by have:=Ao hq;omega)).trans hq.symm⟩
theorem Dm.bad (h:Dm T cs [b] lo w.heap.size b0 w W m i e c k) (hlo:lo≤b) (hgb:w.heap.size≤b) {v code:Int} {res:LB} {k':AN} (hr:res=(k',v,code)) (hc:code≠0):
 ((((W.setCell ⟨b,0,none⟩ m).setCell ⟨b,1,none⟩ i).setCell ⟨b,2,none⟩ e).setCell ⟨b,3,none⟩ c).heap[b]? =some (.cells #[m,i,e,c] 29 (0,0))∧
 GF lo w res (.returned (.tuple #[.agg #[m,i,e,c], .int .i64 v, .int .i64 code])) ((((W.setCell ⟨b,0,none⟩ m).setCell ⟨b,1,none⟩ i).setCell ⟨b,2,none⟩ e).setCell ⟨b,3,none⟩ c):=by
 obtain⟨hne,hB⟩:=h.rs b (List.mem_singleton.2 rfl);subst hr;exact⟨DJ hB,m,i,e,c,rfl,h.shapes,fun h=>absurd h hc,(((h.bel.setCell hlo _).setCell hlo _).setCell hlo _).setCell hlo _,fun q cu hq=>(BD ((h.kf q cu (by have:=Ao hq;omega) hq).trans hq) (Ab (Ab (Ab (Al W b 0 m) 1 i) 2 e) 3 c) (by have:=Ao hq;omega)).trans hq.symm⟩
theorem Dm.zs (h:Dm T cs [b] lo g b0 w W m i e c k):(W.cell? ⟨b,0,none⟩=some (.slice none 0 0)∧W.cell? ⟨b,1,none⟩=some (.slice none 0 0)∧W.cell? ⟨b,2,none⟩=some (.slice none 0 0)∧W.cell? ⟨b,3,none⟩=some (.slice none 0 0))∧∀q,W.frozen? ⟨b,q,none⟩=false:=
 have hB:=(h.rs b (List.mem_singleton.2 rfl)).2
 ⟨AB hB,AM hB⟩
end
end Go.Proofs.YtnieoiclifjoaaaGreatDoor
