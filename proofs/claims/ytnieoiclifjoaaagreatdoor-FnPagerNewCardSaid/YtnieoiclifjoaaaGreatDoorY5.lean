/-
  Packed:12 texts.
-/
import Derived.Test.YtnieoiclifjoaaaGreatDoorY4
import Derived.Test.YtnieoiclifjoaaaGreatDoorY2
import Derived.Test.YtnieoiclifjoaaaGreatDoorY1
import Derived.Test.YtnieoiclifjoaaaGreatDoorY3
set_option linter.unusedVariables false
set_option maxHeartbeats 16000000
set_option maxRecDepth 100000
namespace Go.Proofs.YtnieoiclifjoaaaGreatDoor
open Go.Proofs.Tryz
open Go.RowKit
def Cx (lo g:Nat) (w:World) (res:LB) (r:Ending) (w':World):Prop:=r= .returned (.tuple #[.int .i64 res.2.1, .int .i64 res.2.2])∧(res.2.2=0→∃m i e c,IH lo w' g m i e c res.1)∧Below lo w w'
def Cd (lo g:Nat) (w:World) (res:LB) (r:Ending) (w':World):Prop:=r= .returned (.int .i64 res.2.2)∧(res.2.2=0→∃m i e c,IH lo w' g m i e c res.1)∧Below lo w w'
theorem Cx.bad {lo g:Nat} {w w':World} {k:AN} {n:Int} {res:LB} (h:res=(k,0,n)) (hn:n≠0) (hb:Below lo w w'):Cx lo g w res (.returned (.tuple #[.int .i64 0, .int .i64 n])) w':=by subst h;exact⟨rfl,fun h=>absurd h hn,hb⟩
theorem Cd.bad {lo g:Nat} {w w':World} {k:AN} {n:Int} {res:LB} (h:res=(k,0,n)) (hn:n≠0) (hb:Below lo w w'):Cd lo g w res (.returned (.int .i64 n)) w':=by subst h;exact⟨rfl,fun h=>absurd h hn,hb⟩
theorem AW {k:AN} (h:De k):Bg k.mem=true∧A0 k.infos=true∧Bc k.cache=true:=by have:=GP.2 h;unfold DU at this;simp only[Bool.and_eq_true] at this;exact⟨this.1.1.1.1.1.1,this.1.1.1.1.1.2,this.1.1.1.1.2⟩
theorem SG {lo g cap:Nat} {w:World} {r:List Int} (h:AE lo w (.slice (some ⟨g,0,none⟩) 4 cap) r) (hl:r.length=4):
 ∃w',(∀ty,(Builtin.clear_ #[30] ty #[.slice (some ⟨g,0,none⟩) 4 cap]).run prog w= .ok (.tuple #[]) w')∧AE lo w' (.slice (some ⟨g,0,none⟩) 4 cap) [0,0,0,0]∧w.grownBy w' (some g):=by
 have h4:w.ownsRow lo 3 1 (.slice (some ⟨g,0,none⟩) 4 cap) 4 (r.map (Value.int .i64)):=by have:=h;unfold AE at this;rwa [hl] at this
 have ez:(Builtin.zeroCells (Value.int .i64 0).cells 4).toList=[.int .i64 0, .int .i64 0, .int .i64 0, .int .i64 0]:=by kernel_rfl
 have hst:=run_storeCells_cells (P:=prog) g 0 (Builtin.zeroCells (Value.int .i64 0).cells 4).toList 0 w (by
  intro j hj;have hj4:j<4:=by rw[ez] at hj;exact hj
  have:=World.ownsRow.cellAt h4 j (by omega);simp only[Nat.zero_add] at this ⊢;rw[this];simp;omega) (by intro j _;exact World.ownsRow.frozenAt h4 _) (by
  intro u hu;rw[ez] at hu;have:u= .int .i64 0:=by simpa using hu
  subst this;rfl)
 simp only[Nat.add_zero] at hst;have e0:=Fj g 0 (Builtin.zeroCells (Value.int .i64 0).cells 4).toList 0 w;rw[Nat.add_zero] at e0;refine⟨w.setCells g 0 (Builtin.zeroCells (Value.int .i64 0).cells 4).toList,fun ty=>?_,?_,?_⟩
 ·simp[Builtin.clear_,run_underlying underlying30,hst]
 ·rw[e0]
  obtain⟨a1,_⟩:=Du h4 0 0 (Builtin.zeroCells (Value.int .i64 0).cells 4).toList;have e:ES (r.map (Value.int .i64)) 0 0 (Builtin.zeroCells (Value.int .i64 0).cells 4).toList=[0,0,0,0].map (Value.int .i64):=by
   rw[ez]
   match r,hl with
   | [a,b,c,d],_=>rfl
  rw[e] at a1;exact a1
 ·rw[e0]
  exact(Du h4 0 0 (Builtin.zeroCells (Value.int .i64 0).cells 4).toList).2
theorem IH.memRow {lo g:Nat} {w:World} {m i e c:Value} {k:AN} (h:IH lo w g m i e c k) (hok:Bg k.mem=true) {f:Nat} (hf:f<12):
 ∃gm capm gw capw vs,m= .slice (some ⟨gm,0,none⟩) 12 capm∧gm<w.heap.size∧gm≠g∧w.cell? ⟨gm,f,none⟩=some (.slice (some ⟨gw,0,none⟩) 4 capw)∧gw<w.heap.size∧lo≤gw∧gw≠g∧gw≠gm∧Ah lo w m vs k.mem∧vs[f]? =some (.slice (some ⟨gw,0,none⟩) 4 capw)∧AE lo w (.slice (some ⟨gw,0,none⟩) 4 capw) (AL k.mem f):=by
 obtain⟨vs,o⟩:=h.2.2.1;obtain⟨hml,hr⟩:=Af.1 hok;have h4:=(BG.1 (hr f hf)).1;have hvl:vs.length=12:=by rw[o.2.1.1,hml]
 obtain⟨gm,capm,rfl,_,_,_,hgm,_⟩:=o.1.shapeOwn (by omega);obtain⟨gw,capw,hu,hx,hlo,hlt⟩:=o.row (f:=f) (by omega) (by omega);rw[h4] at hu hx;have D:=AJ.cellsAt EG o.1 hu 0 _ rfl;rw[Nat.mul_one,Nat.add_zero] at D;have n1:gm≠g:=fun e=>Bz o.1 h.1 (by decide) (by rw[e];rfl)
 have n2:gw≠g:=fun e=>Bz hx h.1 (by decide) (by rw[e];rfl)
 have n3:gw≠gm:=fun e=>by have:=BK hx o.1 (Ne.symm Jn) gw rfl;apply this;rw[e];rfl
 rw[hvl] at*;exact⟨gm,capm,gw,capw,vs,rfl,hgm,n1,D,hlt,hlo,n2,n3,o,hu,hx⟩
theorem Tx {lo g:Nat} {w:World} {m i e c:Value} {k:AN} (h:IH lo w g m i e c k) (hlo:lo≤w.heap.size) (hK:De k) (call:AR) (he:0≤call.e) (hn:call.e<3) (hnm:call.nm.size≤maxLen):
 Calls prog 201 #[call.on g] w (Cx lo g w (Io k call)):=by
 have N:=heap_alloc_new w (.cells (call.onCells g) 163);have hb0:=AG w (.cells (call.onCells g) 163);obtain⟨hm,hi,hc⟩:=AW hK;have C1:=AA (fun W (_:Below w.heap.size w W)=>Cn call.nm W hnm);have C2:=AA (fun W (hW:Below w.heap.size w W)=>Ku (h.below hW) call call.nm he (by rw[hK.envl];exact hn));have P:Io k call=if A4 call.nm=false then(k,0,3) else if FJ k call.e call.nm=false then(k,0,1) else if Cy k.infos<0 then(k,0,4) else({k with infos:=k.infos.set (Cy k.infos).toNat ⟨1,call.nm,0⟩,mem:=k.mem.set (Cy k.infos).toNat [0,0,0,0]},Cy k.infos,0):=rfl
 obtain⟨k1,e1,a1,b1,c1,nm⟩:=call;simp only[AR.on,AR.onCells] at N hb0 C1 C2 P hnm ⊢;obtain⟨y0,y1,y2,y3,y4,y5,y6⟩:=Dk (c:=⟨k1,e1,a1,b1,c1,nm⟩) N;have hl:=Ao N;have HN:=AA N;have HP:=AA P;have Hm:=AA hm;have Hi:=AA hi;have HK:=AA hK;have HI:=AA h;clear P hm hi hc hK h N y0 y1 y2 y3 y4 y5;go_in;go_wp2_with fail;generalize hW0:w.alloc _=W0 at*;clear hW0;cases e5:A4 nm
 ·have T:=AA e5
  have E:=AA (show Io k ⟨k1,e1,a1,b1,c1,nm⟩=(k,0,3) by rw[HP.out,e5];rfl);clear e5 y6;refine(C1.out _ hb0).mono ?_;rintro r w1 ⟨rfl,hb1⟩;rw[T.out];have hbw:=hb0.trans (hb1.mono hb0.size);go_wp2_with fail;go_ret2;exact Cx.bad E.out (by decide) (hbw.mono hlo)
 ·have T:=AA e5
  have HP2:=AA (show Io k ⟨k1,e1,a1,b1,c1,nm⟩=_ by rw[HP.out,e5,if_neg (by decide)]);clear e5 y6;refine(C1.out _ hb0).mono ?_;rintro r w1 ⟨rfl,hbW⟩;rw[T.out];have hbw:=hb0.trans (hbW.mono hb0.size);obtain⟨y0,y1,y2,y3,y4,y5,y6⟩:=Dk (c:=⟨k1,e1,a1,b1,c1,nm⟩) (AF HN.out hbW);go_wp2_with fail;clear y0 y1 y2 y3 y4 y5 y6;cases e6:FJ k e1 nm
  ·have T6:=AA e6
   have E:=AA (show Io k ⟨k1,e1,a1,b1,c1,nm⟩=(k,0,1) by rw[HP2.out,e6];rfl);clear e6;refine(C2.out _ hbw).mono ?_;rintro r w2 ⟨rfl,hb2⟩;rw[T6.out];replace hbw:=hbw.trans (hb2.mono hbw.size);go_wp2_with fail;go_ret2;exact Cx.bad E.out (by decide) (hbw.mono hlo)
  ·have T6:=AA e6
   have HP3:=AA (show Io k ⟨k1,e1,a1,b1,c1,nm⟩=_ by rw[HP2.out,e6,if_neg (by decide)]);clear e6;refine(C2.out _ hbw).mono ?_;rintro r W2 ⟨rfl,hb2⟩;rw[T6.out];replace hbW:=hbW.trans (hb2.mono hbW.size);replace hbw:=hbw.trans (hb2.mono hbw.size);have h2:=HI.out.below hbw;have hI2:=AA h2;have hlo2:=Nat.le_trans hlo hbw.size;obtain⟨y0,y1,y2,y3,y4,y5,y6⟩:=Dk (c:=⟨k1,e1,a1,b1,c1,nm⟩) (AF HN.out hbW);have hl2:=Nat.lt_of_lt_of_le hl hbW.size;have hgl2:=Ao h2.1;have hgb:g≠w.heap.size:=Nat.ne_of_lt (Ao HI.out.1);obtain⟨gi,capi,rfl,_,_,_,_,_,hfzi⟩:=h2.infoAt' (f:=0) (by have:=(At.1 Hi.out).1;omega);have x1:=h2.cells.2.1;have RI:BH W2 (.slice (some ⟨gi,0,none⟩) k.infos.length capi) k.infos:=h2.2.2.2.1.rd;clear h2 hb2 y1 y2 y3 y4 y5 hfzi;go_wp2_with fail
   by_cases e7:Cy k.infos<0
   ·have E:=AA (show Io k ⟨k1,e1,a1,b1,c1,nm⟩=(k,0,4) by rw[HP3.out,if_pos e7])
    have C3:=AA (fun W (hW:Below W2.heap.size W2 W)=>MT _ k.infos nm W (A3.below RI hW) (Bh Hi.out) hnm Hi.out T.out e7);clear e7 RI;refine AH 15 mixed (by kernel_rfl) 49 rfl (by kernel_rfl) (fun ix vv ww=>match ix with
     |0=>vv= .pointer (some ⟨w.heap.size,0,none⟩)
     |1=>vv= .pointer (some ⟨g,0,none⟩)
     |2=>vv= .pointer (some ⟨g,0,none⟩)
     |3=>vv= .pointer (some ⟨g,1,none⟩)
     |4=>vv= .slice (some ⟨gi,0,none⟩) k.infos.length capi
     |5=>vv= .pointer (some ⟨w.heap.size,1,none⟩)
     |6=>vv= .pointer (some ⟨w.heap.size,6,none⟩)
     |7=>vv= .string nm
     |8=>vv= .tuple #[.slice none 0 0, .int .i64 0, .bool false]
     |9=>vv= .tuple #[.slice none 0 0, .int .i64 0, .bool false]
     |10=>vv= .slice none 0 0
     |11=>vv= .int .i64 0
     |12=>vv= .bool false
     |13=>vv= .slice none 0 0
     |14=>vv= .int .i64 0
     |_=>True) ?_ ?_ ?_
    ·intro i hi vv wz ww' hbz hz
     match i,hi with
     |0,_|1,_|2,_|3,_|4,_|5,_|6,_|7,_|8,_|9,_|10,_|11,_|12,_|13,_|14,_=>exact hz
     |_+15,hq=>exact absurd hq (by omega)
    ·intro i hi o ho a wx Hb Hd hG K HK
     match i,hi with
     |0,_=>exact eF ho HK BP (eb (Aj Hb 1))
     |1,_=>exact eL ho HK (et (AD Hd 0)) (DY (bc hG hl2 y0))
     |2,_=>exact eC ho HK (et (AD Hd 1))
     |3,_=>exact eF ho HK CU (et (AD Hd 2))
     |4,_=>exact eL ho HK (et (AD Hd 3)) (FF (bc hG hgl2 x1))
     |5,_=>exact eF ho HK Dp (eb (Aj Hb 1))
     |6,_=>exact eF ho HK LX (et (AD Hd 5))
     |7,_=>exact eL ho HK (et (AD Hd 6)) (Uo (bc hG hl2 y6))
     |8,_=>obtain rfl:=So_ ho;have d4:(a.tmps[25]?.getD undef)= .slice (some ⟨gi,0,none⟩) k.infos.length capi:=AD Hd 4;have d7:(a.tmps[28]?.getD undef)= .string nm:=AD Hd 7;clear Hd Hb;refine AI.of rfl ?_;go_simp;refine(C3.out _ hG).mono ?_;rintro e w_ ⟨rfl,hb2⟩;exact HK.out _ _ rfl hb2
     |9,_=>exact eM ho HK (et (AD Hd 8))
     |10,_=>obtain rfl:=So_ ho;have d9:(a.tmps[20]?.getD undef)= .tuple #[.slice none 0 0, .int .i64 0, .bool false]:=AD Hd 9;clear Hd Hb;refine AI.of rfl ?_;go_simp;exact HK.out _ _ rfl (Below.refl _ _)
     |11,_=>obtain rfl:=So_ ho;have d9:(a.tmps[20]?.getD undef)= .tuple #[.slice none 0 0, .int .i64 0, .bool false]:=AD Hd 9;clear Hd Hb;refine AI.of rfl ?_;go_simp;exact HK.out _ _ rfl (Below.refl _ _)
     |12,_=>obtain rfl:=So_ ho;have d9:(a.tmps[20]?.getD undef)= .tuple #[.slice none 0 0, .int .i64 0, .bool false]:=AD Hd 9;clear Hd Hb;refine AI.of rfl ?_;go_simp;exact HK.out _ _ rfl (Below.refl _ _)
     |13,_=>exact eA ho HK (et (AD Hd 10))
     |14,_=>exact eA ho HK (et (AD Hd 11))
     |_+15,hq=>exact absurd hq (by omega)
    ·intro vs wx hR hG
     have q12:(vs 12)= .bool false:=BI hR 12;have q13:(vs 13)= .slice none 0 0:=BI hR 13;have q14:(vs 14)= .int .i64 0:=BI hR 14;clear hR;simp only[Ai,AX,List.range,List.range.loop,List.foldl_cons,List.foldl_nil,q12,q13,q14];simp;clear q12 q13 q14;replace hbw:=hbw.trans (hG.mono hbw.size);clear hG y0 y6 x1;go_wp2_with fail;go_ret2;exact Cx.bad E.out (by decide) (hbw.mono hlo)
   ·obtain⟨f1,f2,f3⟩:=Iy e7
    obtain⟨f,hf⟩:∃f:Nat,Cy k.infos=(f:Int):=⟨(Cy k.infos).toNat,by omega⟩
    have E:=AA (show Io k ⟨k1,e1,a1,b1,c1,nm⟩=({k with infos:=k.infos.set f ⟨1,nm,0⟩,mem:=k.mem.set f [0,0,0,0]},(f:Int),0) by rw[HP3.out,if_neg e7,hf];rfl);have C30:=fun W (hW:Below W2.heap.size W2 W)=>MU _ k.infos nm W (A3.below RI hW) (Bh Hi.out) hnm Hi.out T.out f3
    unfold NU at C30;rw[hf] at C30 f1;simp only[Int.toNat_natCast] at C30 f1;have C3:=AA C30;have hf12:f<12:=by have:=(At.1 Hi.out).1;omega
    clear e7 RI C30 f2 f3 hf f1;refine AH 15 mixed (by kernel_rfl) 49 rfl (by kernel_rfl) (fun ix vv ww=>match ix with
     |0=>vv= .pointer (some ⟨w.heap.size,0,none⟩)
     |1=>vv= .pointer (some ⟨g,0,none⟩)
     |2=>vv= .pointer (some ⟨g,0,none⟩)
     |3=>vv= .pointer (some ⟨g,1,none⟩)
     |4=>vv= .slice (some ⟨gi,0,none⟩) k.infos.length capi
     |5=>vv= .pointer (some ⟨w.heap.size,1,none⟩)
     |6=>vv= .pointer (some ⟨w.heap.size,6,none⟩)
     |7=>vv= .string nm
     |8=>∃v',vv= .tuple #[v', .int .i64 f, .bool true]∧AJ W2.heap.size 135 3 Ag ww v' (k.infos.set f ⟨1,nm,0⟩)
     |9=>∃v',vv= .tuple #[v', .int .i64 f, .bool true]∧AJ W2.heap.size 135 3 Ag ww v' (k.infos.set f ⟨1,nm,0⟩)
     |10=>AJ W2.heap.size 135 3 Ag ww vv (k.infos.set f ⟨1,nm,0⟩)
     |11=>vv= .int .i64 f
     |12=>vv= .bool true
     |13=>AJ W2.heap.size 135 3 Ag ww vv (k.infos.set f ⟨1,nm,0⟩)
     |14=>vv= .int .i64 f
     |_=>True) ?_ ?_ ?_
    ·intro i hi vv wz ww' hbz hz
     match i,hi with
     |0,_|1,_|2,_|3,_|4,_|5,_|6,_|7,_=>exact hz
     |8,_=>exact(by obtain⟨v',h0,h1⟩:=hz;exact⟨v',h0,AJ.below h1 hbz⟩)
     |9,_=>exact(by obtain⟨v',h0,h1⟩:=hz;exact⟨v',h0,AJ.below h1 hbz⟩)
     |10,_=>exact(AJ.below hz hbz)
     |11,_|12,_=>exact hz
     |13,_=>exact(AJ.below hz hbz)
     |14,_=>exact hz
     |_+15,hq=>exact absurd hq (by omega)
    ·intro i hi o ho a wx Hb Hd hG K HK
     match i,hi with
     |0,_=>exact eF ho HK BP (eb (Aj Hb 1))
     |1,_=>exact eL ho HK (et (AD Hd 0)) (DY (bc hG hl2 y0))
     |2,_=>exact eC ho HK (et (AD Hd 1))
     |3,_=>exact eF ho HK CU (et (AD Hd 2))
     |4,_=>exact eL ho HK (et (AD Hd 3)) (FF (bc hG hgl2 x1))
     |5,_=>exact eF ho HK Dp (eb (Aj Hb 1))
     |6,_=>exact eF ho HK LX (et (AD Hd 5))
     |7,_=>exact eL ho HK (et (AD Hd 6)) (Uo (bc hG hl2 y6))
     |8,_=>obtain rfl:=So_ ho;have d4:(a.tmps[25]?.getD undef)= .slice (some ⟨gi,0,none⟩) k.infos.length capi:=AD Hd 4;have d7:(a.tmps[28]?.getD undef)= .string nm:=AD Hd 7;clear Hd Hb;refine AI.of rfl ?_;go_simp;refine(C3.out _ hG).mono ?_;rintro e w_ ⟨v',rfl,hO,hb2⟩;exact HK.out _ _ ⟨_,rfl,hO.lower hG.size⟩ hb2
     |9,_=>
      obtain rfl:=So_ ho;have d8:∃v',(a.tmps[29]?.getD undef)= .tuple #[v', .int .i64 f, .bool true]∧AJ W2.heap.size 135 3 Ag wx v' (k.infos.set f ⟨1,nm,0⟩):=AD Hd 8
      clear Hd Hb;obtain⟨v',d8,hO⟩:=d8;refine AI.of rfl ?_;go_simp;exact HK.out _ _ ⟨_,rfl,hO⟩ (Below.refl _ _)
     |10,_=>
      obtain rfl:=So_ ho;have d9:∃v',(a.tmps[20]?.getD undef)= .tuple #[v', .int .i64 f, .bool true]∧AJ W2.heap.size 135 3 Ag wx v' (k.infos.set f ⟨1,nm,0⟩):=AD Hd 9
      clear Hd Hb;obtain⟨v',d9,hO⟩:=d9;refine AI.of rfl ?_;go_simp;exact HK.out _ _ hO (Below.refl _ _)
     |11,_=>
      obtain rfl:=So_ ho;have d9:∃v',(a.tmps[20]?.getD undef)= .tuple #[v', .int .i64 f, .bool true]∧AJ W2.heap.size 135 3 Ag wx v' (k.infos.set f ⟨1,nm,0⟩):=AD Hd 9
      clear Hd Hb;obtain⟨v',d9,hO⟩:=d9;refine AI.of rfl ?_;go_simp;exact HK.out _ _ rfl (Below.refl _ _)
     |12,_=>
      obtain rfl:=So_ ho;have d9:∃v',(a.tmps[20]?.getD undef)= .tuple #[v', .int .i64 f, .bool true]∧AJ W2.heap.size 135 3 Ag wx v' (k.infos.set f ⟨1,nm,0⟩):=AD Hd 9
      clear Hd Hb;obtain⟨v',d9,hO⟩:=d9;refine AI.of rfl ?_;go_simp;exact HK.out _ _ rfl (Below.refl _ _)
     |13,_=>obtain rfl:=So_ ho;have d10:AJ W2.heap.size 135 3 Ag wx (a.tmps[30]?.getD undef) (k.infos.set f ⟨1,nm,0⟩):=AD Hd 10;clear Hd Hb;refine AI.of rfl ?_;go_simp;exact HK.out _ _ d10 (Below.refl _ _)
     |14,_=>exact eA ho HK (et (AD Hd 11))
     |_+15,hq=>exact absurd hq (by omega)
    ·intro vs wx hR hG
     have q12:(vs 12)= .bool true:=BI hR 12;have q13:AJ W2.heap.size 135 3 Ag wx (vs 13) (k.infos.set f ⟨1,nm,0⟩):=BI hR 13;have q14:(vs 14)= .int .i64 f:=BI hR 14;clear hR;simp only[Ai,AX,List.range,List.range.loop,List.foldl_cons,List.foldl_nil,q12,q14];simp;generalize vs 13=z13 at q13 ⊢;clear q12 q14;have h5:=hI2.out.infos hlo2 hG q13;have hbw5:=((hbw.trans (hG.mono hbw.size)).mono hlo).setCell (p:=⟨g,1,none⟩) hI2.out.2.1 z13;replace y0:=(hG.cell (p:=⟨w.heap.size,0,none⟩) hl2).trans y0;replace x1:=(hG.cell (p:=⟨g,1,none⟩) hgl2).trans x1;have h2x:=hI2.out.below hG;have x0:=h2x.cells.1;have hfzg:=AM h2x.1;obtain⟨gm,capm,gw,capw,vs,rfl,hgm,n1,D,hgw,hlw,n2,n3,o1,hu,hx⟩:=h5.memRow (f:=f) Hm.out hf12;have hml:=(Af.1 Hm.out).1;have h4:=(BG.1 ((Af.1 Hm.out).2 f hf12)).1;have D2:=(EX (o:=f) (Al wx g 1 z13) (by simpa using hgm) (fun e=>n1 (So_ e).symm)).symm.trans D;obtain⟨w6,hcl,hO6,hg6⟩:=SG hx h4;have h6:=AA (h5.row o1 (by rw[hml];exact hf12) hu hO6 hg6);have hb6:=AA (AT hbw5 hg6 hlw (Nat.le_trans hlo hbw5.size));have hf12i:(f:Int)<12:=by omega
     obtain⟨q1,q2,rfl,_,_⟩:=q13.rd.shape;simp only[List.length_set] at hcl;have hgb':w.heap.size≠g:=fun e=>hgb e.symm
     clear h5 hbw5 h2x D hx o1 hu hO6 hg6 h4 hml hgm hgw hlw n2 n3 q13 hG;go_wp2_with fail;go_ret2;exact⟨by rw[E.out];rfl,fun _=>⟨_,_,_,_,by rw[E.out];exact h6.out⟩,hb6.out⟩
def Bl (l:List Oper) (i:Nat):Option Nat:=(l[i]?).bind (·.dst)
def Dy (l:List Oper) (is:List Nat) (vs:Nat→Value) (b:Array Value):Array Value:=is.foldl (fun b i=>match Bl l i with|some d=>b.setIfInBounds d (vs i)|none=>b) b
def Uc (l:List Oper) (N:Nat):Bool:=
 ((List.range l.length).all fun i=>(List.range l.length).all fun j=>i==j||(Bl l i).isNone||Bl l i !=Bl l j)&&
 ((List.range l.length).all fun j=>match l[j]? with|some o=>o.after.all fun e=>!Region.binds .any e||decide (e.on<j)|none=>false)&&
 ((List.range l.length).all fun i=>match Bl l i with|some d=>decide (d<N)|none=>true)
def Fl (l:List Oper) (tmps:Array Value) (i:Nat):Value:=match Bl l i with|some d=>tmps[d]?.getD undef|none=>undef
structure MG (l:List Oper) (a0:Act) (R:(Nat→Bool)→Nat→Value→World→Prop) (G:(Nat→Bool)→World→Prop) (listed:Array Bool) (a:Act) (w:World):Prop where
 size':listed.size=l.length
 closed:∀j oj,l[j]? =some oj→listed.getD j false=true→∀e∈oj.after,Region.binds .any e=true→listed.getD e.on false=true
 defers:a.defers=a0.defers
 size:a.tmps.size=a0.tmps.size
 base:∀t,(∀i,i<l.length→Bl l i≠some t)→a.tmps[t]? =a0.tmps[t]?
 post:∀i,i<l.length→listed.getD i false=true→R (fun j=>listed.getD j false) i (Fl l a.tmps i) w
 glob:G (fun j=>listed.getD j false) w
section
variable {P:Program}
theorem UA {l:List Oper} {a:Act} {i j:Nat} {o:Oper} {v:Value} (ho:l[i]? =some o) (hne:Bl l i=none∨Bl l i≠Bl l j):Fl l (a.put o.dst v).tmps j=Fl l a.tmps j:=by
 have e:Bl l i=o.dst:=by simp[Bl,ho]
 rw[e] at hne;unfold Fl;cases hj:Bl l j with
 |none=>rfl
 |some d=>
  cases hd:o.dst with
  |none=>rfl
  |some d'=>
   have:d'≠d:=by
    rintro rfl
    rcases hne with h|h
    ·rw[hd] at h;cases h
    ·exact h (by rw[hd,hj])
   simp only[Act.put];rw[Array.getElem?_setIfInBounds_ne this]
theorem T7 {l:List Oper} {a:Act} {i:Nat} {o:Oper} {v:Value} (ho:l[i]? =some o) (hN:∀d,Bl l i=some d→d<a.tmps.size):Fl l (a.put o.dst v).tmps i=match o.dst with|some _=>v|none=>undef:=by
 have e:Bl l i=o.dst:=by simp[Bl,ho]
 unfold Fl;rw[e];cases hd:o.dst with
 |none=>rfl
 |some d=>have:=hN d (by rw[e,hd]);simp[Act.put,this]
theorem QL (l:List Oper):∀(is:List Nat) (b c:Array Value),c.size=b.size→(∀t,(∀i,i∈is→Bl l i≠some t)→c[t]? =b[t]?)→c=Dy l is (fun i=>Fl l c i) b:=by
 intro is
 induction is with
 |nil=>intro b c hs h;exact Array.ext_getElem? fun t=>h t (fun i hi=>by cases hi)
 |cons i is ih=>
  intro b c hs h
  show c=Dy l is _ (match Bl l i with|some d=>b.setIfInBounds d (Fl l c i)|none=>b)
  cases hd:Bl l i with
  |none=>
   exact ih b c hs fun t ht=>h t fun j hj=>by
    rcases List.mem_cons.1 hj with rfl|hj
    ·rw[hd];exact(fun e=>by cases e)
    ·exact ht j hj
  |some d=>
   refine ih _ c (by simpa using hs) fun t ht=>?_
   by_cases hti:d=t
   ·subst hti
    have hv:Fl l c i=c[d]?.getD undef:=by unfold Fl;rw[hd]
    show c[d]? =(b.setIfInBounds d (Fl l c i))[d]?
    rw[hv]
    rcases Nat.lt_or_ge d c.size with h'|h'
    ·have:d<b.size:=by omega
     simp[h',this]
    ·have:b.size≤d:=by omega
     simp[h',this]
   ·show c[t]? =(b.setIfInBounds d (Fl l c i))[t]?
    rw[Array.getElem?_setIfInBounds_ne hti];exact h t fun j hj=>by
     rcases List.mem_cons.1 hj with rfl|hj
     ·rw[hd];exact fun e=>hti (So_ e)
     ·exact ht j hj
theorem MG.wpAny {l:List Oper} {a0:Act} {R:(Nat→Bool)→Nat→Value→World→Prop} {G:(Nat→Bool)→World→Prop} {Q:Exit→Act→World→Prop}
 (hB:Uc l a0.tmps.size=true)
 (hstep:∀i,i<l.length→∀o,l[i]? =some o→∀a w,a.defers=a0.defers→a.tmps.size=a0.tmps.size→(∀t,(∀i,i<l.length→Bl l i≠some t)→a.tmps[t]? =a0.tmps[t]?)→
  ∀L:Nat→Bool,(∀j,j<l.length→L j=true→R L j (Fl l a.tmps j) w)→L i=false→(∀j,Region.waitsFor .any l.toArray i j=true→L j=true)→(∀j j',L j=true→Region.waitsFor .any l.toArray j j'=true→L j'=true)→G L w→
  ∀K:Act→World→Prop,(∀v w',R (JK L i) i (match o.dst with|some _=>v|none=>undef) w'→G (JK L i) w'→(∀j,j≠i→j<l.length→L j=true→R L j (Fl l a.tmps j) w→R (JK L i) j (Fl l a.tmps j) w')→K (a.put o.dst v) w')→AI P l o a w K Q)
 (htail:∀a w,a.defers=a0.defers→a.tmps.size=a0.tmps.size→(∀t,(∀i,i<l.length→Bl l i≠some t)→a.tmps[t]? =a0.tmps[t]?)→
  ∀L:Nat→Bool,(∀i,i<l.length→L i=true)→(∀i,i<l.length→R L i (Fl l a.tmps i) w)→G L w→Q .normal a w):
 ∀(f:Nat) (listed:Array Bool) (a:Act) (w:World),f=((List.range l.length).filter fun i=>!listed.getD i false).length→MG l a0 R G listed a w→Go.wpAny P .any l.toArray Q f listed a w:=by
 simp only[Uc,Bool.and_eq_true] at hB;obtain⟨⟨hdis,hback⟩,hin⟩:=hB;have hne:∀i j,i<l.length→j<l.length→i≠j→Bl l i=none∨Bl l i≠Bl l j:=by intro i j hi hj hij;have:=List.all_eq_true.1 (List.all_eq_true.1 hdis i (List.mem_range.2 hi)) j (List.mem_range.2 hj);simp only[Bool.or_eq_true,beq_iff_eq,hij,false_or,bne_iff_ne,Option.isNone_iff_eq_none] at this;exact this
 have hN:∀i,i<l.length→∀d,Bl l i=some d→d<a0.tmps.size:=by intro i hi d hd;have:=List.all_eq_true.1 hin i (List.mem_range.2 hi);rw[hd] at this;simpa using this
 have done:∀(listed:Array Bool) (a:Act) (w:World),(∀i,i<l.length→listed.getD i false=true)→MG l a0 R G listed a w→Q .normal a w:=fun listed a w hall inv=>htail a w inv.defers inv.size inv.base _ hall (fun i hi=>inv.post i hi (hall i hi)) inv.glob
 have stuck:∀(listed:Array Bool),listed.size=l.length→Region.ready .any l.toArray listed=[]→∀i,i<l.length→listed.getD i false=true:=by
  intro listed hsz hr;have:∀k,∀i,i<k→i<l.length→listed.getD i false=true:=by
   intro k
   induction k with
   |zero=>intro i hi;omega
   |succ k ihk=>
    intro i hik hin';cases hx:listed.getD i false with
    |true=>rfl
    |false=>
     exfalso;have hun:listed.getD i true=false:=getD_in (by omega) hx;have ho:l[i]? =some l[i]:=List.getElem?_eq_getElem hin';have hnr:i∉Region.ready .any l.toArray listed:=by rw[hr];simp
     apply hnr;rw[mem_ready];refine⟨hun,l[i],by simp,fun e he hb=>?_⟩;have hlt:e.on<i:=by have:=List.all_eq_true.1 hback i (List.mem_range.2 hin');rw[ho] at this;simpa[hb] using Array.all_eq_true'.1 this e he
     exact ihk e.on (by omega) (by omega)
  exact fun i hi=>this l.length i hi hi
 intro f
 induction f with
 |zero=>
  intro listed a w hf inv;have hall:∀i,i<l.length→listed.getD i false=true:=by
   intro i hi;cases hx:listed.getD i false with
   |true=>rfl
   |false=>
    exfalso;have:i∈(List.range l.length).filter fun i=>!listed.getD i false:=List.mem_filter.2 ⟨List.mem_range.2 hi,by simp[hx]⟩
    have:=List.length_pos_of_mem this;omega
  refine⟨?_,done listed a w hall inv⟩;rw[List.eq_nil_iff_forall_not_mem];intro i hi;obtain⟨hun,o,ho,_⟩:=mem_ready.1 hi;have hil:i<l.length:=by have:=(Array.getElem?_eq_some_iff.1 ho).1;simpa using this
  have:=getD_both hun;rw[hall i hil] at this;cases this
 |succ f ih=>
  intro listed a w hf inv;refine⟨fun hr=>done listed a w (stuck listed inv.size' hr) inv,fun i hi=>?_⟩;obtain⟨hun,o,ho',hdep⟩:=mem_ready.1 hi;have ho:l[i]? =some o:=by simpa using ho'
  have hil:i<l.length:=(List.getElem?_eq_some_iff.1 ho).1;have hunf:=getD_both hun;unfold Go.wpOp;rw[ho'];have hlis:∀j,Region.waitsFor .any l.toArray i j=true→listed.getD j false=true:=by intro j hj;obtain⟨oj,hoj,e,he,hb,rfl⟩:=Region.waitsFor_spec hj;obtain rfl:oj=o:=So_ (hoj.symm.trans ho');exact hdep e he hb
  have hclo:∀j j',listed.getD j false=true→Region.waitsFor .any l.toArray j j'=true→listed.getD j' false=true:=by intro j j' hj hw;obtain⟨oj,hoj,e,he,hb,rfl⟩:=Region.waitsFor_spec hw;exact inv.closed j oj (by simpa using hoj) hj e he hb
  have eL:(fun j=>(listed.setIfInBounds i true).getD j false)=JK (fun j=>listed.getD j false) i:=by
   have hsz:=inv.size'
   funext j
   unfold JK
   by_cases hji:j=i
   ·subst hji
    rw[if_pos rfl,EW (by omega)]
   ·rw[if_neg hji,getD_set_ne false (Ne.symm hji)]
  have hK:=hstep i hil o ho a w inv.defers inv.size inv.base (fun j=>listed.getD j false) (fun j hj hjl=>inv.post j hj hjl) hunf hlis hclo inv.glob (Go.wpAny P .any l.toArray Q f (listed.setIfInBounds i true)) (fun v w' hR hG' hkeep=>by
   have hcount:f=((List.range l.length).filter fun k=>!(listed.setIfInBounds i true).getD k false).length:=by
    have hmem:i∈(List.range l.length).filter fun k=>!listed.getD k false:=by rw[List.mem_filter];exact⟨List.mem_range.2 hil,by rw[hunf];rfl⟩
    have hnd:((List.range l.length).filter fun k=>!listed.getD k false).Nodup:=List.nodup_range.filter _;have he:((List.range l.length).filter fun k=>!(listed.setIfInBounds i true).getD k false)=((List.range l.length).filter fun k=>!listed.getD k false).erase i:=by
     rw[hnd.erase_eq_filter,List.filter_filter];refine List.filter_congr fun k hk=>?_
     have hsz:=inv.size'
     by_cases hki:k=i
     ·subst hki
      simp[EW (show k<listed.size by omega)]
     ·rw[getD_set_ne false (Ne.symm hki)]
      simp[hki]
    rw[he,List.length_erase_of_mem hmem];have:=List.length_pos_of_mem hmem;omega
   refine ih _ _ _ hcount ⟨by simpa using inv.size',?_,?_,?_,?_,?_,?_⟩
   ·intro j oj hoj hj e he hb
    by_cases hji:j=i
    ·subst hji
     obtain rfl:oj=o:=So_ (hoj.symm.trans ho);have:=hdep e he hb
     by_cases h2:e.on=j
     ·rw[h2] at this;rw[this] at hunf;cases hunf
     ·rw[getD_set_ne false (Ne.symm h2)];exact this
    ·rw[getD_set_ne false (Ne.symm hji)] at hj
     have:=inv.closed j oj hoj hj e he hb
     by_cases h2:e.on=i
     ·have hsz:=inv.size'
      rw[h2,EW (by omega)]
     ·rw[getD_set_ne false (Ne.symm h2)];exact this
   ·cases hd:o.dst<;>simpa[Act.put] using inv.defers
   ·cases hd:o.dst<;>simpa[Act.put] using inv.size
   ·intro t ht
    rw[←inv.base t ht];cases hd:o.dst with
    |none=>rfl
    |some d=>
     have:d≠t:=fun e=>ht i hil (by simp[Bl,ho,hd,e])
     simp only[Act.put];rw[Array.getElem?_setIfInBounds_ne this]
   ·intro j hj hjl
    rw[eL]
    by_cases hji:j=i
    ·subst hji
     rw[T7 ho (fun d hd=>by rw[inv.size];exact hN j hj d hd)];exact hR
    ·have hjl':listed.getD j false=true:=by rwa [getD_set_ne false (Ne.symm hji)] at hjl
     rw[UA ho (hne i j hil hj (Ne.symm hji))];exact hkeep j hji hj hjl' (inv.post j hj hjl')
   ·rw[eL];exact hG')
  cases hwt:Region.wanted o (yielded l.toArray a.tmps) with
  |true=>dsimp only;rw[hwt,if_pos rfl];exact .inl (hK.1 hwt)
  |false=>dsimp only;rw[hwt,if_neg Bool.false_ne_true];exact hK.2 hwt
theorem Bs {id:Nat} {Q:Exit→Act→World→Prop} {a0:Act} {w0:World} {l:List Oper} (n:Nat) (hm:P.follows .mixedOrders=true)
 (N:Nat) (hN:a0.tmps.size=N) (hB:Uc l N=true) (hn:l.length=n) (S:Nat→Bool) (R:(Nat→Bool)→Nat→Value→World→Prop) (G:(Nat→Bool)→World→Prop)
 (hG:G (fun _=>false) {w0 with drawn:=w0.drawn+1})
 (hmono:∀j,j<n→∀L i v w w',i<n→S i=false→L i=false→L j=true→Below w.heap.size w w'→R L j v w→R (JK L i) j v w')
 (hgrow:∀L i w w',i<n→S i=false→L i=false→Below w.heap.size w w'→G L w→G (JK L i) w')
 (hstep:∀i,i<n→S i=false→∀o,l[i]? =some o→∀a w,Hid (a.defers=a0.defers∧a.tmps.size=a0.tmps.size∧∀t,(∀i,i<n→Bl l i≠some t)→a.tmps[t]? =a0.tmps[t]?)→
  ∀L:Nat→Bool,Hid (∀j,L j=true→j<n→R L j (Fl l a.tmps j) w)→Hid (L i=false∧(∀j,Region.waitsFor .any l.toArray i j=true→L j=true)∧∀j j',L j=true→Region.waitsFor .any l.toArray j j'=true→L j'=true)→G L w→
  ∀K:Act→World→Prop,Hid (∀v w',R (JK L i) i (match o.dst with|some _=>v|none=>undef) w'→Below w.heap.size w w'→K (a.put o.dst v) w')→AI P l o a w K Q)
 (hspec:∀i,i<n→S i=true→∀o,l[i]? =some o→∀a w,Hid (a.defers=a0.defers∧a.tmps.size=a0.tmps.size∧∀t,(∀i,i<n→Bl l i≠some t)→a.tmps[t]? =a0.tmps[t]?)→
  ∀L:Nat→Bool,Hid (∀j,L j=true→j<n→R L j (Fl l a.tmps j) w)→Hid (L i=false∧(∀j,Region.waitsFor .any l.toArray i j=true→L j=true)∧∀j j',L j=true→Region.waitsFor .any l.toArray j j'=true→L j'=true)→G L w→
  ∀K:Act→World→Prop,Hid (∀v w',R (JK L i) i (match o.dst with|some _=>v|none=>undef) w'→G (JK L i) w'→(∀j,j≠i→j<n→L j=true→R L j (Fl l a.tmps j) w→R (JK L i) j (Fl l a.tmps j) w')→K (a.put o.dst v) w')→AI P l o a w K Q)
 (htail:∀(vs:Nat→Value) w,∀L:Nat→Bool,(∀i,i<n→L i=true)→(∀i,i<n→R L i (vs i) w)→G L w→wpList P l.toArray Q [] {a0 with tmps:=Dy l (List.range n) vs a0.tmps} w):
 (Code.region id l.toArray true).wp P Q a0 w0:=by
 subst hn;refine wp_region_any hm ?_;refine MG.wpAny (a0:=a0) (R:=R) (G:=G) (by rw[hN];exact hB) (fun i hi o ho a w h1 h2 h3 L h4 h6 h7 h8 h5 K hK=>?_) (fun a w h1 h2 h3 L h6 h4 h5=>?_) _ _ _ _ ?_ ⟨by simp,fun j oj _ hl=>(by rw[getD_replicate_false] at hl;cases hl),rfl,rfl,fun _ _=>rfl,fun i _ hl=>(by rw[getD_replicate_false] at hl;cases hl),(show G (fun j=>(Array.replicate l.toArray.size false).getD j false) _ from(funext fun j=>getD_replicate_false _ _:(fun j=>(Array.replicate l.toArray.size false).getD j false)=fun _=>false)▸hG)⟩
 ·cases hS:S i with
  |false=>exact hstep i hi hS o ho a w (AA ⟨h1,h2,h3⟩) L (AA fun j hj hjn=>h4 j hjn hj) (AA ⟨h6,h7,h8⟩) h5 K (AA fun v w' hR hb=>hK v w' hR (hgrow L i w w' hi hS h6 hb h5) (fun j hji hjn hjl hu=>hmono j hjn L i _ w w' hi hS h6 hjl hb hu))
  |true=>exact hspec i hi hS o ho a w (AA ⟨h1,h2,h3⟩) L (AA fun j hj hjn=>h4 j hjn hj) (AA ⟨h6,h7,h8⟩) h5 K (AA hK)
 ·have e:=QL l (List.range l.length) a0.tmps a.tmps h2 (fun t ht=>h3 t fun i hi=>ht i (List.mem_range.2 hi))
  have:=htail (fun i=>Fl l a.tmps i) w L h6 h4 h5;rw[←e] at this;obtain⟨tm,df⟩:=a;dsimp only at h1 this;subst h1;exact this
 ·have:((List.range l.length).filter fun i=>!(Array.replicate l.toArray.size false).getD i false)=List.range l.length:=by
   rw[List.filter_eq_self];intro i _;rw[getD_replicate_false];rfl
  rw[this];simp
end
theorem BD {w w1:World} {b g:Nat} {o:Obj} (h:w.heap[b]? =some o) (hg:w.grownBy w1 (some g)) (hne:g≠b):w1.heap[b]? =some o:=
 (hg.block b (Ao h) (fun e=>hne (So_ e).symm)).trans h
theorem Dn {w:World} {b g T T':Nat} {c c':Array Value} (h:w.heap[b]? =some (.cells c T (0,0))) (h':w.heap[g]? =some (.cells c' T' (0,0))) (hT:T≠T'):b≠g:=fun e=>by subst e;rw[h] at h';simp at h';exact hT h'.2
def UC (g:Nat) (w W:World):Prop:=∀b cu,b≠g→w.heap[b]? =some (.cells cu 29 (0,0))→W.heap[b]? =w.heap[b]?
theorem UC.below {g:Nat} {w W W':World} (h:UC g w W) (hb:Below W.heap.size W W'):UC g w W':=fun b cu hg hB=>(hb.block b (Ao ((h b cu hg hB).trans hB))).trans (h b cu hg hB)
theorem UC.row {g q T:Nat} {w W W':World} {cu:Array Value} (h:UC g w W) (hg:W.grownBy W' (some q)) (hq:W.heap[q]? =some (.cells cu T (0,0))) (hT:T≠29):UC g w W':=fun b cu' hbg hB=>
 have e:=(h b cu' hbg hB).trans hB
 (BD e hg (Dn hq e hT)).trans hB.symm
theorem UC.own {g:Nat} {w W W':World} (h:UC g w W) (hg:W.grownBy W' (some g)):UC g w W':=fun b cu' hbg hB=>
 have e:=(h b cu' hbg hB).trans hB
 (BD e hg (fun h=>hbg h.symm)).trans hB.symm
structure Dm (T:Nat) (cs:Array Value) (R:List Nat) (lo g b0:Nat) (w W:World) (m i e c:Value) (k:AN):Prop where
 ink:IH lo W g m i e c k
 blk:W.heap[b0]? =some (.cells cs T (0,0))
 bel:Below lo w W
 lo:lo≤W.heap.size
 ty:29≠T∧135≠T∧85≠T∧3≠T∧30≠T
 kf:UC g w W
 rs:∀b∈R,g≠b∧W.heap[b]? =some (.cells #[.slice none 0 0, .slice none 0 0, .slice none 0 0, .slice none 0 0] 29 (0,0))
abbrev CS (lo g b0:Nat) (call:AR) (w W:World) (m i e c:Value) (k:AN):Prop:=Dm 163 (call.onCells g) [] lo g b0 w W m i e c k
theorem Dm.start {lo g:Nat} {w:World} {m i e c:Value} {k:AN} (h:IH lo w g m i e c k) (hlo:lo≤w.heap.size) (call:AR):CS lo g w.heap.size call w (w.alloc (.cells (call.onCells g) 163)) m i e c k:=
 ⟨h.below (AG _ _),heap_alloc_new _ _,(AG _ _).mono hlo,Nat.le_trans hlo (AG _ _).size,by decide,UC.below (fun _ _ _ _=>rfl) (AG _ _),nofun⟩
theorem Dm.ys {lo g b0:Nat} {call:AR} {w W:World} {m i e c:Value} {k:AN} (h:CS lo g b0 call w W m i e c k):W.cell? ⟨b0,0,none⟩=some (.pointer (some ⟨g,0,none⟩))∧W.cell? ⟨b0,1,none⟩=some (.int .i64 call.k)∧W.cell? ⟨b0,2,none⟩=some (.int .i64 call.e)∧W.cell? ⟨b0,3,none⟩=some (.int .i64 call.a)∧W.cell? ⟨b0,4,none⟩=some (.int .i64 call.b)∧W.cell? ⟨b0,5,none⟩=some (.int .i64 call.c)∧W.cell? ⟨b0,6,none⟩=some (.string call.nm):=Dk h.blk
section
variable {T:Nat} {cs:Array Value} {R:List Nat} {lo g b0:Nat} {w W W':World} {m i e c:Value} {k:AN}
theorem Dm.below (h:Dm T cs R lo g b0 w W m i e c k) (hb:Below W.heap.size W W'):Dm T cs R lo g b0 w W' m i e c k:=
 ⟨h.ink.below hb,AF h.blk hb,h.bel.trans (hb.mono h.lo),Nat.le_trans h.lo hb.size,h.ty,h.kf.below hb,fun b hr=>⟨(h.rs b hr).1,AF (h.rs b hr).2 hb⟩⟩
theorem Dm.xs (h:Dm T cs R lo g b0 w W m i e c k):W.cell? ⟨g,0,none⟩=some m∧W.cell? ⟨g,1,none⟩=some i∧W.cell? ⟨g,2,none⟩=some e∧W.cell? ⟨g,3,none⟩=some c:=h.ink.cells
theorem Dm.lts (h:Dm T cs R lo g b0 w W m i e c k):b0<W.heap.size∧g<W.heap.size∧g≠b0∧b0≠g:=⟨Ao h.blk,Ao h.ink.1,Dn h.ink.1 h.blk h.ty.1,(Dn h.ink.1 h.blk h.ty.1).symm⟩
theorem Dm.row_ne (h:Dm T cs R lo g b0 w W m i e c k) {lo' T' sz n:Nat} {v:Value} {xs:List Value} (o:W.ownsRow lo' T' sz v n xs) {b:Nat} (hb:v.ownBlock=some b) (h1:T'≠29) (h2:T'≠T):(b≠g∧g≠b)∧b≠b0∧b0≠b:=by obtain⟨cur,hc⟩:=Bf o b hb;have a1:=Dn hc h.ink.1 h1;have a2:=Dn hc h.blk h2;exact⟨⟨a1,a1.symm⟩,a2,a2.symm⟩
theorem Dm.infos (h:Dm T cs R lo g b0 w W m i e c k) (hl:0<k.infos.length):∃gi cap,i= .slice (some ⟨gi,0,none⟩) k.infos.length cap∧gi<W.heap.size∧lo≤gi∧((gi≠g∧g≠gi)∧gi≠b0∧b0≠gi)∧∀q,W.frozen? ⟨gi,q,none⟩=false:=by obtain⟨gi,cap,e1,h1,h2,_,_,_,hz⟩:=h.ink.infoAt' hl;refine⟨gi,cap,e1,h1,h2,h.row_ne h.ink.2.2.2.1 (by rw[e1];rfl) (by decide) h.ty.2.1,hz⟩
theorem Dm.envs (h:Dm T cs R lo g b0 w W m i e c k) (hl:0<k.envs.length):∃ge cap,e= .slice (some ⟨ge,0,none⟩) k.envs.length cap∧ge<W.heap.size∧((ge≠g∧g≠ge)∧ge≠b0∧b0≠ge)∧∀q,W.frozen? ⟨ge,q,none⟩=false:=by obtain⟨ge,cap,_,_,e1,h1,_,_,_,hz⟩:=h.ink.env hl;obtain⟨ps,o⟩:=h.ink.2.2.2.2.1;exact⟨ge,cap,e1,h1,h.row_ne o.1 (by rw[e1];rfl) (by decide) h.ty.2.2.1,hz⟩
theorem Dm.infos_envs {gi ge n n' cap cap':Nat} (h:Dm T cs R lo g b0 w W m (.slice (some ⟨gi,0,none⟩) n cap) (.slice (some ⟨ge,0,none⟩) n' cap') c k):gi≠ge∧ge≠gi:=by obtain⟨ps,o⟩:=h.ink.2.2.2.2.1;obtain⟨c1,h1⟩:=Bf o.1 ge rfl;obtain⟨c2,h2⟩:=Bf h.ink.2.2.2.1 gi rfl;have:=Dn h2 h1 (by decide);exact⟨this,this.symm⟩
theorem Dm.info {gi n cap:Nat} (h:Dm T cs R lo g b0 w W m (.slice (some ⟨gi,0,none⟩) n cap) e c k) (hn:n=k.infos.length) {f:Nat} (hf:f<k.infos.length) (r:Int):
 Dm T cs R lo g b0 w (W.setCell ⟨gi,f*3+2,none⟩ (.int .i64 ((infoAt k.infos f).r+r))) m (.slice (some ⟨gi,0,none⟩) n cap) e c {k with infos:=AV k.infos f (DK r)}:=by
 have T:=h.ink.info hn (Bo hf) (j:=2) (by decide) (y:=DK r (infoAt k.infos f)) (u:= .int .i64 ((infoAt k.infos f).r+r)) rfl;rw[←Fu] at T;obtain⟨c2,h2⟩:=Bf h.ink.2.2.2.1 gi rfl;exact⟨T.1,BD h.blk T.2.1 (Dn h2 h.blk h.ty.2.1),AT h.bel T.2.1 T.2.2 h.lo,Nat.le_trans h.lo T.2.1.size,h.ty,h.kf.row T.2.1 h2 (by decide),fun b hr=>⟨(h.rs b hr).1,BD (h.rs b hr).2 T.2.1 (Dn h2 (h.rs b hr).2 (by decide))⟩⟩
theorem Dm.root {ge n cap:Nat} (h:Dm T cs R lo g b0 w W m i (.slice (some ⟨ge,0,none⟩) n cap) c k) (hn:n=k.envs.length) {j:Nat} (hj:j<k.envs.length) (r:Int):
 Dm T cs R lo g b0 w (W.setCell ⟨ge,j*2+1,none⟩ (.int .i64 r)) m i (.slice (some ⟨ge,0,none⟩) n cap) c {k with envs:=AV k.envs j (Bu r)}:=by
 have T:=h.ink.root hn hj r;obtain⟨ps,o⟩:=h.ink.2.2.2.2.1;obtain⟨c2,h2⟩:=Bf o.1 ge rfl;exact⟨T.1,BD h.blk T.2.1 (Dn h2 h.blk h.ty.2.2.1),AT h.bel T.2.1 T.2.2 h.lo,Nat.le_trans h.lo T.2.1.size,h.ty,h.kf.row T.2.1 h2 (by decide),fun b hr=>⟨(h.rs b hr).1,BD (h.rs b hr).2 T.2.1 (Dn h2 (h.rs b hr).2 (by decide))⟩⟩
theorem Dm.cache (h:Dm T cs R lo g b0 w W m i e c k) (hb:Below W.heap.size W W') {c':Value} {xs:List Aa} (h2:AJ W.heap.size 140 4 AP W' c' xs):Dm T cs R lo g b0 w (W'.setCell ⟨g,3,none⟩ c') m i e c' {k with cache:=xs}:=by
 have h':=h.below hb;exact⟨h.ink.cache h.lo hb h2,BD h'.blk (Al W' g 3 c') h.lts.2.2.1,h'.bel.setCell h.ink.2.1 _,by simpa using h'.lo,h.ty,h'.kf.own (Al W' g 3 c'),fun b hr=>⟨(h.rs b hr).1,BD (h'.rs b hr).2 (Al W' g 3 _) (h.rs b hr).1⟩⟩
theorem Dm.newInfos (h:Dm T cs R lo g b0 w W m i e c k) (hb:Below W.heap.size W W') {i':Value} {xs:List AQ} (h2:AJ W.heap.size 135 3 Ag W' i' xs):Dm T cs R lo g b0 w (W'.setCell ⟨g,1,none⟩ i') m i' e c {k with infos:=xs}:=by
 have h':=h.below hb;exact⟨h.ink.infos h.lo hb h2,BD h'.blk (Al W' g 1 i') h.lts.2.2.1,h'.bel.setCell h.ink.2.1 _,by simpa using h'.lo,h.ty,h'.kf.own (Al W' g 1 i'),fun b hr=>⟨(h.rs b hr).1,BD (h'.rs b hr).2 (Al W' g 1 _) (h.rs b hr).1⟩⟩
theorem Dm.fzi {gi n cap:Nat} (h:Dm T cs R lo g b0 w W m (.slice (some ⟨gi,0,none⟩) n cap) e c k) (q:Nat):W.frozen? ⟨gi,q,none⟩=false:=by obtain⟨cur,hc⟩:=Bf h.ink.2.2.2.1 gi rfl;exact AM hc q
theorem Dm.fze {ge n cap:Nat} (h:Dm T cs R lo g b0 w W m i (.slice (some ⟨ge,0,none⟩) n cap) c k) (q:Nat):W.frozen? ⟨ge,q,none⟩=false:=by obtain⟨ps,o⟩:=h.ink.2.2.2.2.1;obtain⟨cur,hc⟩:=Bf o.1 ge rfl;exact AM hc q
theorem Dm.ge_lt {ge n cap:Nat} (h:Dm T cs R lo g b0 w W m i (.slice (some ⟨ge,0,none⟩) n cap) c k):ge<W.heap.size:=by obtain⟨ps,o⟩:=h.ink.2.2.2.2.1;exact(World.ownsRow.lt o.1 ge rfl).2
theorem Dm.gi_lt {gi n cap:Nat} (h:Dm T cs R lo g b0 w W m (.slice (some ⟨gi,0,none⟩) n cap) e c k):gi<W.heap.size:=(World.ownsRow.lt h.ink.2.2.2.1 gi rfl).2
theorem Dm.env {ge n cap:Nat} (h:Dm T cs R lo g b0 w W m i (.slice (some ⟨ge,0,none⟩) n cap) c k) {j:Nat} (hj:j<k.envs.length):
 ∃ua uc,W.cell? ⟨ge,j*2,none⟩=some (.slice ua (AC k.envs j).rights.length uc)∧W.cell? ⟨ge,j*2+1,none⟩=some (.int .i64 (AC k.envs j).root)∧BC W (.slice ua (AC k.envs j).rights.length uc) (AC k.envs j).rights:=by
 obtain⟨ge',cap',ua,uc,e1,_,d0,d1,R,_⟩:=h.ink.env hj;cases e1;exact⟨ua,uc,d0,d1,R⟩
theorem Dm.infoAt {gi n cap:Nat} (h:Dm T cs R lo g b0 w W m (.slice (some ⟨gi,0,none⟩) n cap) e c k) {f:Nat} (hf:f<k.infos.length):
 W.cell? ⟨gi,f*3,none⟩=some (.int .i64 (infoAt k.infos f).k)∧W.cell? ⟨gi,f*3+1,none⟩=some (.string (infoAt k.infos f).g)∧W.cell? ⟨gi,f*3+2,none⟩=some (.int .i64 (infoAt k.infos f).r):=by
 obtain⟨gi',cap',e1,_,_,d0,d1,d2,_⟩:=h.ink.infoAt' hf;cases e1;exact⟨d0,d1,d2⟩
theorem Dm.mems (h:Dm T cs R lo g b0 w W m i e c k) (hok:Bg k.mem=true):∃gm cap,m= .slice (some ⟨gm,0,none⟩) 12 cap∧gm<W.heap.size∧(gm≠g∧g≠gm)∧gm≠b0∧b0≠gm:=by obtain⟨gm,cap,_,_,_,e1,h1,h2,_⟩:=h.ink.memRow hok (f:=0) (by omega);obtain⟨vs,o⟩:=h.ink.2.2.1;exact⟨gm,cap,e1,h1,h.row_ne o.1 (by rw[e1];rfl) (by decide) h.ty.2.2.2.2⟩
theorem Dm.mrow {gm n cap:Nat} (h:Dm T cs R lo g b0 w W (.slice (some ⟨gm,0,none⟩) n cap) i e c k) (hok:Bg k.mem=true) {f:Nat} (hf:f<12):
 ∃gw capw,W.cell? ⟨gm,f,none⟩=some (.slice (some ⟨gw,0,none⟩) 4 capw)∧gw<W.heap.size∧4≤capw∧(∀j,j<4→W.cell? ⟨gw,j,none⟩=some (.int .i64 (Am k.mem f j)))∧(∀q,W.frozen? ⟨gw,q,none⟩=false)∧((gw≠g∧g≠gw)∧gw≠b0∧b0≠gw)∧(gw≠gm∧gm≠gw)∧(∀b cu T,W.heap[b]? =some (.cells cu T (0,0))→T≠3→gw≠b)∧
  ∀j v,j<4→Dm T cs R lo g b0 w (W.setCell ⟨gw,j,none⟩ (.int .i64 v)) (.slice (some ⟨gm,0,none⟩) n cap) i e c {k with mem:=Ch k.mem f j v}:=by
 obtain⟨gm',cap',gw,capw,vs,e1,_,_,hc,hl,hlo,h1,h2,o,hu,hx⟩:=h.ink.memRow hok hf;cases e1;have h4:=(BG.1 ((Af.1 hok).2 f hf)).1;have hx4:W.ownsRow lo 3 1 (.slice (some ⟨gw,0,none⟩) 4 capw) 4 ((AL k.mem f).map (Value.int .i64)):=by have:=hx;unfold AE at this;rwa [h4] at this
 have hc4:4≤capw:=by obtain⟨_,_,hv,hcc,_⟩:=Ap.open (AE.rd hx);simp only[Value.slice.injEq] at hv;obtain⟨_,_,rfl⟩:=hv;omega
 obtain⟨cur,hcur⟩:=Bf hx4 gw rfl;refine⟨gw,capw,hc,hl,hc4,fun j hj=>?_,fun q=>World.ownsRow.frozenAt hx4 q,h.row_ne hx4 rfl (by decide) h.ty.2.2.2.1,⟨h2,h2.symm⟩,fun b cu T hb hT=>Dn hcur hb (Ne.symm hT),fun j v hj=>?_⟩
 ·have:=World.ownsRow.cellAt hx4 j hj
  rw[this,List.getElem?_map];unfold Am;rw[A8 (d:=0) (by omega)];rfl
 ·have S:=World.ownsRow.stored hx4 j (.int .i64 v)
  have hO:AE lo (W.setCell ⟨gw,j,none⟩ (.int .i64 v)) (.slice (some ⟨gw,0,none⟩) 4 capw) ((AL k.mem f).set j v):=by unfold AE;rw[List.length_set,h4,List.map_set];exact S.1
  have T:=h.ink.row o (by rw[(Af.1 hok).1];exact hf) hu hO S.2;rw[←NR] at T;exact⟨T,BD h.blk S.2 (Dn hcur h.blk h.ty.2.2.2.1),AT h.bel S.2 hlo h.lo,Nat.le_trans h.lo S.2.size,h.ty,h.kf.row S.2 hcur (by decide),fun b hr=>⟨(h.rs b hr).1,BD (h.rs b hr).2 S.2 (Dn hcur (h.rs b hr).2 (by decide))⟩⟩
end
def Oo (W:World) (lo g b0:Nat) (call:AR) (w:World) (m i e:Value) (k:AN) (b:Bool) (ww:World):Prop:=match b with
 |false=>Below W.heap.size W ww
 |true=>∃c',CS lo g b0 call w ww m i e c' k
theorem Oo.grow {W:World} {lo g b0:Nat} {call:AR} {w:World} {m i e:Value} {k:AN} {b:Bool} {ww ww':World} (h:Oo W lo g b0 call w m i e k b ww) (hb:Below ww.heap.size ww ww'):Oo W lo g b0 call w m i e k b ww':=by
 cases b
 ·exact Below.trans h (hb.mono h.size)
 ·obtain⟨c',h⟩:=h
  exact⟨c',h.below hb⟩
theorem Ij {α:Type} {lo e sz:Nat} {cs:α→List Value} {w:World} {v u:Value} {xs:List α} {g j:Nat} (h:AJ lo e sz cs w v xs) (hg:g<lo):AJ lo e sz cs (w.setCell ⟨g,j,none⟩ u) v xs:=
 AJ.grown h (Al w g j u) (by
  rcases hv:v.ownBlock with _|b
  ·exact .inl rfl
  ·refine .inr fun e=>?_
   cases e;have:=(World.ownsRow.lt h g hv).1;omega)
theorem En {L:Nat→Bool} {i j:Nat} (h:i≠j):JK L i j=L j:=if_neg (fun e=>h e.symm)
theorem FN {L:Nat→Bool} {i:Nat}:JK L i i=true:=if_pos rfl
theorem Dm.callEnv {lo g b0:Nat} {call:AR} {w W:World} {m i c:Value} {k:AN} {ge n cap en:Nat} (h:CS lo g b0 call w W m i (.slice (some ⟨ge,0,none⟩) n cap) c k) (he:call.e=(en:Int)) (hn:en<n) (W':World) (hb:Below W.heap.size W W'):
 Calls prog 250 #[call.on g] W' fun e w'=>e= .returned (.pointer (some ⟨ge,en*2,none⟩))∧Below W'.heap.size W' w':=SZ g ge n cap en call W' (h.below hb).xs.2.2.1 he hn
theorem EH (v:Value) (xs:List AQ) (w:World) (h:BH w v xs) (hs:HY xs):Calls prog 148 #[v] w fun e w'=>e= .returned (.bool (A0 xs))∧Below w.heap.size w w':=by
 obtain⟨a,c,rfl,hc,hcm,H⟩:=A3.open As (by decide) h;unfold maxLen at hcm;have HH:=AA H;have HS:=AA hs;clear h H hs;go_in;go_wp2_with fail;go_loopw [3] (fun ix wr=>∃k:Nat,k≤xs.length∧ix= .int .i64 k∧(∀j,j<k→Cj (infoAt xs j)=true)∧Below w.heap.size w wr) (fun ix _=>xs.length - (intOf ix).toNat)
 case atStart=>exact⟨0,Nat.zero_le _,rfl,fun j hj=>absurd hj (Nat.not_lt_zero _),Below.refl _ _⟩
 case round=>
  obtain⟨k,hk,rfl,hpre,hb⟩:=hrel;have Hpre:=AA hpre;clear hpre
  by_cases hlt:k<xs.length
  ·have hlti:(k:Int)<(xs.length:Int):=by omega
   obtain⟨b,off,rfl,hbl,D0,D1,D2⟩:=(HH.out.below hb).infoCells hlt;have C:=QX (infoAt xs k) wr (HS.out _ (List.mem_of_getElem? (Bo hlt)));simp only[AQ.val] at C;have HC:=AA C;clear C;cases hp:Cj (infoAt xs k)
   ·have S:=AA (show A0 xs=false by unfold A0;rw[Mh (Bo hlt) hp];rfl)
    have Hp:=AA hp;clear hp;go_wp2_with fail;refine HC.out.mono ?_;rintro e w2 ⟨rfl,b2⟩;rw[Hp.out];go_wp2_with fail;go_ret;exact⟨AK S.out.symm,hb.trans (b2.mono hb.size)⟩
   ·have Hp:=AA hp
    clear hp;go_wp2_with fail;refine HC.out.mono ?_;rintro e w2 ⟨rfl,b2⟩;rw[Hp.out];go_wp2_with fail;go_roundw
    case rel=>exact⟨k+1,by omega,by go_num,Ay Hpre.out Hp.out,hb.trans (b2.mono hb.size)⟩
    case measure=>simp[intOf];omega
  ·have ek:k=xs.length:=by omega
   have hpre:=Hpre.out;rw[ek] at hpre;have S:=AA (show A0 xs=((xs.length:Int)==12) by unfold A0;rw[Kj (fun k hk=>Bo hk) hpre];by_cases h4:xs.length=12<;>simp[h4]<;>omega);clear Hpre hpre;go_wp2_with fail;go_ret;exact⟨AK S.out.symm,hb⟩
theorem Ud {xs:List AQ} {k:Nat} (hk:k<xs.length) (h:∀j,j<k→decide ((infoAt xs j).k=0)=false) (hp:decide ((infoAt xs k).k=0)=true):Cy xs=(k:Int):=by
 have g:∀j (hj:j<xs.length),xs[j]=infoAt xs j:=fun j hj=>by have:=Bo hj;rw[List.getElem?_eq_getElem hj] at this;exact So_ this
 unfold Cy;rw[if_pos (PB (Bo hk) hp)];have:xs.findIdx (fun x=>decide (x.k=0))=k:=by
  rw[List.findIdx_eq hk];exact⟨by rw[g k hk];exact hp,fun j hj=>by rw[g j (by omega)];exact h j hj⟩
 rw[this]
theorem TP {xs:List AQ} (h:∀j,j<xs.length→decide ((infoAt xs j).k=0)=false):Cy xs= -1:=by
 unfold Cy;rw[if_neg];rw[Kk (fun k hk=>Bo hk) h];simp
theorem Lp (v:Value) (xs:List AQ) (w:World) (h:BH w v xs):Calls prog 281 #[v] w fun e w'=>e= .returned (.int .i64 (Cy xs))∧Below w.heap.size w w':=by
 obtain⟨a,c,rfl,hc,hcm,H⟩:=A3.open As (by decide) h;unfold maxLen at hcm;have HH:=AA H;clear h H;go_in;go_wp2_with fail;go_loopw [3] (fun ix wr=>∃k:Nat,k≤xs.length∧ix= .int .i64 k∧(∀j,j<k→decide ((infoAt xs j).k=0)=false)∧Below w.heap.size w wr) (fun ix _=>xs.length - (intOf ix).toNat)
 case atStart=>exact⟨0,Nat.zero_le _,rfl,fun j hj=>absurd hj (Nat.not_lt_zero _),Below.refl _ _⟩
 case round=>
  obtain⟨k,hk,rfl,hpre,hb⟩:=hrel;have Hpre:=AA hpre;clear hpre
  by_cases hlt:k<xs.length
  ·have hlti:(k:Int)<(xs.length:Int):=by omega
   obtain⟨b,off,rfl,hbl,D0,D1,D2⟩:=(HH.out.below hb).infoCells hlt;cases hp:decide ((infoAt xs k).k=0)
   ·have t0:((infoAt xs k).k==0)=false:=by simpa using hp
    have Hp:=AA hp;clear hp;go_wp2_with fail;go_roundw
    case rel=>exact⟨k+1,by omega,by go_num,Ay Hpre.out Hp.out,hb⟩
    case measure=>simp[intOf];omega
   ·have t0:((infoAt xs k).k==0)=true:=by simpa using hp
    have S:=AA (Ud hlt Hpre.out hp);have Hp:=AA hp;clear hp;go_wp2_with fail;go_ret;exact⟨Bd S.out.symm,hb⟩
  ·have ek:k=xs.length:=by omega
   have hpre:=Hpre.out;rw[ek] at hpre;have S:=AA (TP hpre);clear Hpre hpre;go_wp2_with fail;go_ret;exact⟨Bd S.out.symm,hb⟩
theorem OM (v:Value) (xs:List Int) (n:Int) (w:World) (h:Ap w v xs):Calls prog 330 #[v, .int .i64 n] w fun e w'=>e= .returned (.bool (xs.any fun x=>decide (x=n)))∧Below w.heap.size w w':=by
 obtain⟨a,c,rfl,hc,hcm,H⟩:=h.open;unfold maxLen at hcm;have HH:=AA H;clear h H;go_in;go_wp2_with fail;go_loopw [5] (fun ix wr=>∃k:Nat,k≤xs.length∧ix= .int .i64 k∧(∀j,j<k→decide (nth xs j=n)=false)∧Below w.heap.size w wr) (fun ix _=>xs.length - (intOf ix).toNat)
 case atStart=>exact⟨0,Nat.zero_le _,rfl,fun j hj=>absurd hj (Nat.not_lt_zero _),Below.refl _ _⟩
 case round=>
  obtain⟨k,hk,rfl,hpre,hb⟩:=hrel;have Hpre:=AA hpre;clear hpre
  by_cases hlt:k<xs.length
  ·have hlti:(k:Int)<(xs.length:Int):=by omega
   obtain⟨b,off,rfl,D⟩:=(HH.out.below hb).at hlt;cases hp:decide (nth xs k=n)
   ·have t0:(nth xs k==n)=false:=by simpa using hp
    have Hp:=AA hp;clear hp;go_wp2_with fail;go_roundw
    case rel=>exact⟨k+1,by omega,by go_num,Ay Hpre.out Hp.out,hb⟩
    case measure=>simp[intOf];omega
   ·have t0:(nth xs k==n)=true:=by simpa using hp
    have S:=AA (PB (p:=fun x=>decide (x=n)) (MP hlt) hp);have Hp:=AA hp;clear hp;go_wp2_with fail;go_ret;exact⟨AK S.out.symm,hb⟩
  ·have ek:k=xs.length:=by omega
   have hpre:=Hpre.out;rw[ek] at hpre;have S:=AA (Kk (p:=fun x=>decide (x=n)) (fun k hk=>MP hk) hpre);clear Hpre hpre;go_wp2_with fail;go_ret;exact⟨AK S.out.symm,hb⟩
theorem KY (v:Value) (ss:List ByteArray) (g:ByteArray) (w:World) (h:BC w v ss) (hs:EB ss) (hg:g.size≤maxLen):Calls prog 155 #[v, .string g] w fun e w'=>e= .returned (.bool (Ca ss g))∧Below w.heap.size w w':=by
 obtain⟨a,c,rfl,hc,hcm,H⟩:=A3.open EJ (by decide) h;unfold maxLen at hcm;have HH:=AA H;have HS:=AA (And.intro hs hg);clear h H hs hg;go_in;go_wp2_with fail;go_loopw [5] (fun ix wr=>∃k:Nat,k≤ss.length∧ix= .int .i64 k∧(∀j,j<k→LR (Bp ss j) g=false)∧Below w.heap.size w wr) (fun ix _=>ss.length - (intOf ix).toNat)
 case atStart=>exact⟨0,Nat.zero_le _,rfl,fun j hj=>absurd hj (Nat.not_lt_zero _),Below.refl _ _⟩
 case round=>
  obtain⟨k,hk,rfl,hpre,hb⟩:=hrel;have Hpre:=AA hpre;clear hpre
  by_cases hlt:k<ss.length
  ·have hlti:(k:Int)<(ss.length:Int):=by omega
   obtain⟨b,off,rfl,D⟩:=(HH.out.below hb).str hlt;have C:=AA (KB (Bp ss k) g wr (HS.out.1 _ (List.mem_of_getElem? (F8 hlt))) HS.out.2);cases hp:LR (Bp ss k) g
   ·have Hp:=AA hp
    clear hp;go_wp2_with fail;refine C.out.mono ?_;rintro e w2 ⟨rfl,rfl⟩;rw[Hp.out];go_wp2_with fail;go_roundw
    case rel=>exact⟨k+1,by omega,by go_num,Ay Hpre.out Hp.out,hb⟩
    case measure=>simp[intOf];omega
   ·have S:=AA (show Ca ss g=true from PB (p:=fun s=>LR s g) (F8 hlt) hp)
    have Hp:=AA hp;clear hp;go_wp2_with fail;refine C.out.mono ?_;rintro e w2 ⟨rfl,rfl⟩;rw[Hp.out];go_wp2_with fail;go_ret;exact⟨AK S.out.symm,hb⟩
  ·have ek:k=ss.length:=by omega
   have hpre:=Hpre.out;rw[ek] at hpre;have S:=AA (show Ca ss g=false from Kk (p:=fun s=>LR s g) (fun k hk=>F8 hk) hpre);clear Hpre hpre;go_wp2_with fail;go_ret;exact⟨AK S.out.symm,hb⟩
def Ix (fs:List Nat) (k:Nat):Nat:=fs.getD k 0
theorem Gd {fs:List Nat} {k:Nat} (h:k<fs.length):fs[k]? =some (Ix fs k):=by unfold Ix;exact A8 h
theorem PM {fs:List Nat} {k:Nat}:nth (Ak fs) k=(Ix fs k:Int):=by unfold nth Ak Ix;simp only[List.getD_eq_getElem?_getD,List.getElem?_map];cases fs[k]? <;>rfl
theorem Ce {fs:List Nat}:(Ak fs).length=fs.length:=by simp[Ak]
theorem F7 (v1 v2 v3:Value) (xs:List AQ) (fs:List Nat) (ss:List ByteArray) (w:World) (h1:BH w v1 xs) (h2:Ap w v2 (Ak fs)) (h3:BC w v3 ss) (hf:∀f∈fs,f<xs.length) (hI:HY xs) (hs:EB ss):
 Calls prog 213 #[v1,v2,v3] w fun e w'=>e= .returned (.bool (Aq xs fs ss))∧Below w.heap.size w w':=by
 obtain⟨a1,c1,rfl,hc1,hcm1,H1⟩:=A3.open As (by decide) h1;obtain⟨a2,c2,rfl,hc2,hcm2,H2⟩:=h2.open;rw[Ce] at hc2 ⊢;unfold maxLen at hcm1 hcm2;have CM:=AA (fun W (hW:Below w.heap.size w W) (g:ByteArray) (hg:g.size≤maxLen)=>KY v3 ss g W (A3.below h3 hW) hs hg);have HH1:=AA H1;have HH2:=AA H2;have HF:=AA (And.intro hf hI);obtain⟨a3,c3,rfl,hc3,hcm3⟩:=h3.shape;clear h1 h2 h3 H1 H2 hf hI hs;go_in;go_wp2_with fail;go_loopw [7] (fun ix wr=>∃k:Nat,k≤fs.length∧ix= .int .i64 k∧(∀j,j<k→Ca ss (infoAt xs (Ix fs j)).g=true)∧Below w.heap.size w wr) (fun ix _=>fs.length - (intOf ix).toNat)
 case atStart=>exact⟨0,Nat.zero_le _,rfl,fun j hj=>absurd hj (Nat.not_lt_zero _),Below.refl _ _⟩
 case round=>
  obtain⟨k,hk,rfl,hpre,hb⟩:=hrel;have Hpre:=AA hpre;clear hpre
  by_cases hlt:k<fs.length
  ·have hlti:(k:Int)<(fs.length:Int):=by omega
   obtain⟨b2,off2,rfl,D⟩:=(HH2.out.below hb).at (k:=k) (by rw[Ce];exact hlt);rw[PM] at D;have hfl:=HF.out.1 _ (List.mem_of_getElem? (Gd hlt));obtain⟨b,off,rfl,hbl,D0,D1,D2⟩:=(HH1.out.below hb).infoCells hfl;have hfi:(Ix fs k:Int)<xs.length:=by omega
   have C:=AA (CM.out wr hb (infoAt xs (Ix fs k)).g (HF.out.2 _ (List.mem_of_getElem? (Bo hfl))));cases hp:Ca ss (infoAt xs (Ix fs k)).g
   ·have S:=AA (show Aq xs fs ss=false from Mh (p:=fun f=>Ca ss (infoAt xs f).g) (Gd hlt) hp)
    have Hp:=AA hp;clear hp;go_wp2_with fail;refine C.out.mono ?_;rintro e w2 ⟨rfl,b2⟩;rw[Hp.out];go_wp2_with fail;go_ret;exact⟨AK S.out.symm,hb.trans (b2.mono hb.size)⟩
   ·have Hp:=AA hp
    clear hp;go_wp2_with fail;refine C.out.mono ?_;rintro e w2 ⟨rfl,b2⟩;rw[Hp.out];go_wp2_with fail;go_roundw
    case rel=>exact⟨k+1,by omega,by go_num,Ay Hpre.out Hp.out,hb.trans (b2.mono hb.size)⟩
    case measure=>simp[intOf];omega
  ·have ek:k=fs.length:=by omega
   have hpre:=Hpre.out;rw[ek] at hpre;have S:=AA (show Aq xs fs ss=true from Kj (p:=fun f=>Ca ss (infoAt xs f).g) (fun k hk=>Gd hk) hpre);clear Hpre hpre;go_wp2_with fail;go_ret;exact⟨AK S.out.symm,hb⟩
theorem QT {a b:List Nat}:Ak (a++b)=Ak a++Ak b:=by simp[Ak]
theorem Ge {lo:Nat} {w:World} {v:Value} {ys zs:List Nat} (h:w.ownsRow lo 3 1 v (ys.length+zs.length) ((Ak ys).map (Value.int .i64)++(Ak zs).map (Value.int .i64))):AE lo w v (Ak (ys++zs)):=by unfold AE;rw[QT,List.map_append,List.length_append,Ce,Ce];exact h
theorem Jc (xs:List Int):∀u∈xs.map (Value.int .i64),u.oneCell'=true:=by intro u hu;obtain⟨x,_,rfl⟩:=List.mem_map.1 hu;rfl
theorem Fh (w:World):AE w.heap.size (w.alloc (.cells #[] 3)) (.slice (some ⟨w.heap.size,0,none⟩) 0 0) (Ak []):=Cb w 3 1
theorem IM (v:Value) (r:List Int) (w:World) (h:Ap w v r) (hl:r.length≤100) (hx:∀k,k<r.length→nth r k≤9223372036854775807):Calls prog 269 #[v] w fun e w'=>∃v',e= .returned v'∧AE w.heap.size w' v' (Ak (named r))∧Below w.heap.size w w':=by
 obtain⟨a,c,rfl,hc,hcm,H⟩:=h.open;unfold maxLen at hcm;have HH:=AA H;have HX:=AA hx;have bA:=AG w (.cells #[] 3);have o1:=Fh w;clear h H hx;go_in;go_wp2_with fail;generalize w.alloc (.cells #[] 3)=wa at o1 bA ⊢;generalize(Value.slice (some ⟨w.heap.size,0,none⟩) 0 0)=o at o1 ⊢;go_loopw [3,4,5,6,7] (fun o ix _ _ _ wr=>∃k:Nat,k≤r.length∧ix= .int .i64 k∧AE w.heap.size wr o (Ak (named (r.take k)))∧Below w.heap.size w wr) (fun _ ix _ _ _ _=>r.length - (intOf ix).toNat)
 case atStart=>exact⟨0,Nat.zero_le _,rfl,o1,bA⟩
 case round=>
  clear o1 bA;obtain⟨k,hk,rfl,hown,hb⟩:=hrel
  by_cases hlt:k<r.length
  ·have hlti:(k:Int)<(r.length:Int):=by omega
   obtain⟨b,off,rfl,D⟩:=(HH.out.below hb).at hlt;have hxk:=HX.out k hlt;have Nx:=AA (Hy hlt);have hnl:(named (r.take k)).length≤100:=by have:=Ex (r:=r.take k);rw[List.length_take] at this;omega
   change (Hid (named (r.take (k+1))=named (r.take k)++(if BX (nth r k) then[Ax (nth r k)] else[]))) at Nx
   generalize named (r.take k)=ys at hown Nx hnl;generalize nth r k=x at D Nx hxk;have Hown:=AA hown;obtain⟨_,_,rfl,_⟩:=(AE.rd hown).open;clear hown;go_wp2_with fail;refine(Cc x _ hxk).mono ?_;rintro e w2 ⟨rfl,rfl⟩;cases hg:BX x
   ·rw[Do hg]
    have Nx':=AA (show named (r.take (k+1))=ys by rw[Nx.out,hg];simp);clear hg Nx;go_wp2_with fail;go_roundw
    case rel=>exact⟨k+1,by omega,by go_num,by rw[Nx'.out];exact Hown.out,hb⟩
    case measure=>simp[intOf];omega
   ·rw[Di hg]
    have Nx':=AA (show named (r.take (k+1))=ys++[Ax x] by rw[Nx.out,hg];simp);generalize Ax x=f at Nx';clear hg Nx;rw[Ce];go_wp2_with (at_builtin;go_must (refine BW (lo:=w.heap.size) (n:=ys.length) (xs:=(Ak ys).map (Value.int .i64)) (m:=1) (news:=[.int .i64 f]) rfl rfl 3 (.int .i64 0) 1 8 underlying30 Tryz.infoInt rfl (by decide) rfl (by have:=AE.below Hown.out (AG wr (.cells #[.int .i64 f] 3));unfold AE at this;rw[Ce] at this;exact this) rfl (Rd.newsAt _ #[_] _ 1 1 _ (by simp) rfl (by simp[maxLen])) (by simp[Value.oneCell']) (by unfold maxLen;omega) (by omega) (by have:=hb.size;simp;omega) ?_;intro o' w9 k1 k2 k3 k4));go_roundw
    case rel=>exact⟨k+1,by omega,by go_num,by rw[Nx'.out];exact Ge (zs:=[f]) k1,(hb.alloc hb.size _).trans k4⟩
    case measure=>simp[intOf];omega
  ·obtain rfl:k=r.length:=by omega
   rw[List.take_length] at hown;go_wp2_with fail;go_ret;exact⟨_,rfl,hown,hb⟩
theorem JF {lo:Nat} {w w':World} {v:Value} {ys:List Nat} (h:AE lo w v (Ak ys)) (hb:Below w.heap.size w w'):w'.ownsRow lo 3 1 v ys.length ((Ak ys).map (Value.int .i64)):=by
 have:=AE.below h hb;unfold AE at this
 rwa [Ce] at this
theorem D5 {lo:Nat} {w:World} {v:Value} {ys:List Nat} (h:AE lo w v (Ak ys)):∃a c,v= .slice a ys.length c∧ys.length≤c:=by obtain⟨a,c,e,hc,_⟩:=(AE.rd h).open;rw[Ce] at e hc;exact⟨a,c,e,hc⟩
def GD (fs:List Nat) (k:Nat):List Nat:=(List.range k).filter fun f=>fs.contains f
theorem Nz {fs:List Nat} {k:Nat}:GD fs (k+1)=GD fs k++(if fs.contains k then[k] else[]):=by
 unfold GD;rw[List.range_succ,List.filter_append]
 congr 1
 simp only[List.filter_cons,List.filter_nil]
theorem Pp {fs:List Nat} {k:Nat}:(GD fs k).length≤k:=by
 have:=List.length_filter_le (fun f=>fs.contains f) (List.range k);simpa[GD] using this
theorem QQ {fs:List Nat} {k:Nat}:((Ak fs).any fun x=>decide (x=(k:Int)))=fs.contains k:=by
 rw[Bool.eq_iff_iff,List.contains_iff_mem];simp[Ak];constructor
 ·rintro⟨x,hx,e⟩
  obtain rfl:x=k:=by omega
  exact hx
 ·intro h
  exact⟨k,h,rfl⟩
theorem JB (v:Value) (fs:List Nat) (w:World) (h:Ap w v (Ak fs)):Calls prog 266 #[v] w fun e w'=>∃v',e= .returned v'∧AE w.heap.size w' v' (Ak (GX fs))∧Below w.heap.size w w':=by
 have C:=AA (fun(k:Nat) W (hW:Below w.heap.size w W)=>OM v (Ak fs) (k:Int) W (Ap.below h hW));have bA:=AG w (.cells #[] 3);have o1:=Fh w;clear h;go_in;go_wp2_with fail;generalize w.alloc (.cells #[] 3)=wa at o1 bA ⊢;generalize(Value.slice (some ⟨w.heap.size,0,none⟩) 0 0)=o at o1 ⊢;go_loopw [3,4] (fun o ix wr=>∃k:Nat,k≤12∧ix= .int .i64 k∧AE w.heap.size wr o (Ak (GD fs k))∧Below w.heap.size w wr) (fun _ ix _=>12 - (intOf ix).toNat)
 case atStart=>exact⟨0,Nat.zero_le _,rfl,o1,bA⟩
 case round=>
  clear o1 bA;obtain⟨k,hk,rfl,hown,hb⟩:=hrel
  by_cases hlt:k<12
  ·have hlti:(k:Int)<12:=by omega
   have Nx:=AA (Nz (fs:=fs) (k:=k));have hnl:=Pp (fs:=fs) (k:=k);generalize GD fs k=ys at hown Nx hnl;have Ck:=C.out k wr hb;rw[QQ] at Ck;have HC:=AA Ck;have Hown:=AA hown;obtain⟨_,_,rfl,_⟩:=D5 hown;clear hown Ck;go_wp2_with fail;refine HC.out.mono ?_;rintro e w2 ⟨rfl,b2⟩;have hb2:=hb.trans (b2.mono hb.size);have Hown2:=AA (Hown.out.below b2);cases hg:fs.contains k
   ·have Nx':=AA (show GD fs (k+1)=ys by rw[Nx.out,hg];simp)
    clear hg Nx;go_wp2_with fail;go_roundw
    case rel=>exact⟨k+1,by omega,by go_num,by rw[Nx'.out];exact Hown2.out,hb2⟩
    case measure=>simp[intOf];omega
   ·have Nx':=AA (show GD fs (k+1)=ys++[k] by rw[Nx.out,hg];simp)
    clear hg Nx;go_wp2_with (at_builtin;go_must (refine BW (lo:=w.heap.size) (n:=ys.length) (xs:=(Ak ys).map (Value.int .i64)) (m:=1) (news:=[.int .i64 k]) rfl rfl 3 (.int .i64 0) 1 8 underlying30 Tryz.infoInt rfl (by decide) rfl (JF Hown2.out (AG _ (.cells #[.int .i64 k] 3))) rfl (Rd.newsAt _ #[_] _ 1 1 _ (by simp) rfl (by simp[maxLen])) (by simp[Value.oneCell']) (by unfold maxLen;omega) (by omega) (by have:=hb2.size;simp;omega) ?_;intro o' w9 k1 k2 k3 k4));go_roundw
    case rel=>exact⟨k+1,by omega,by go_num,by rw[Nx'.out];exact Ge (zs:=[k]) k1,(hb2.alloc hb2.size _).trans k4⟩
    case measure=>simp[intOf];omega
  ·obtain rfl:k=12:=by omega
   rw[show((12:Nat):Int)=12 from rfl];go_wp2_with fail;go_ret;exact⟨_,rfl,hown,hb⟩
theorem K9 {m:List (List Int)} (hm:Bg m=true) {f:Nat} (hf:f<12):∀k,k<(AL m f).length→nth (AL m f) k≤9223372036854775807:=fun k hk=>by obtain⟨h4,hw⟩:=BG.1 ((Af.1 hm).2 f hf);have:=(hw _ (Dz (d:=0) hk)).2;unfold nth;omega
theorem JC (v:Value) (m:List (List Int)) (root:Nat) (w:World) (h:BJ w v m) (hm:Bg m=true) (hr:root<12):Calls prog 265 #[v, .int .i64 root] w fun e w'=>∃v',e= .returned v'∧AE w.heap.size w' v' (Ak (EA m root))∧Below w.heap.size w w':=by
 obtain⟨a,c,rfl,hc,hcm,H⟩:=h.open;have hml:=(Af.1 hm).1;have hrl:=(BG.1 ((Af.1 hm).2 root hr)).1;obtain⟨b,off,u,rfl,hbl,D,hR⟩:=H root (by omega);have C:=AA (IM u (AL m root) w hR (by omega) (K9 hm hr));have hri:(root:Int)<12:=by omega
 rw[hml];obtain⟨_,_,rfl,_⟩:=hR.open;unfold EA;clear h H hR hm hml hc hcm hrl;go_in;go_wp2_with fail;refine C.out.mono ?_;rintro e w1 ⟨v1,rfl,o1,b1⟩;have C2:=AA (JB v1 _ w1 (AE.rd o1));have Hb1:=AA b1;clear o1 b1 C;go_wp2_with fail;refine C2.out.mono ?_;rintro e w2 ⟨v2,rfl,o2,b2⟩;have Ho2:=AA (Kb o2 Hb1.out.size);have Hb2:=AA (Hb1.out.trans (b2.mono Hb1.out.size));clear o2 b2 C2;go_wp2_with fail;go_ret;exact⟨_,rfl,Ho2.out,Hb2.out⟩
def Es (m:List (List Int)) (ts:List Nat) (k:Nat):List Nat:=(ts.take k).flatMap fun t=>named (AL m t)
theorem J9 {m:List (List Int)} {ts:List Nat} {k:Nat} (h:k<ts.length):Es m ts (k+1)=Es m ts k++named (AL m (Ix ts k)):=by unfold Es;rw[Cv (Gd h),List.flatMap_append];simp
theorem PL {m:List (List Int)} {ts:List Nat} {k:Nat} (hl:∀t∈ts,(AL m t).length=4):(Es m ts k).length≤4*k:=by
 induction k with
 |zero=>simp[Es]
 |succ k ih=>
  by_cases h:k<ts.length
  ·rw[J9 h,List.length_append]
   have h1:=Ex (r:=AL m (Ix ts k));have h2:=hl _ (List.mem_of_getElem? (Gd h));omega
  ·have:Es m ts (k+1)=Es m ts k:=by unfold Es;rw[List.take_of_length_le (by omega),List.take_of_length_le (by omega)]
   rw[this];omega
theorem PU (v:Value) (m:List (List Int)) (root:Nat) (w:World) (h:BJ w v m) (hm:Bg m=true) (hr:root<12):Calls prog 267 #[v, .int .i64 root] w fun e w'=>∃v',e= .returned v'∧AE w.heap.size w' v' (Ak (Gy m root))∧Below w.heap.size w w':=by
 have bA:=AG w (.cells #[] 3);have o1:=Fh w;have C:=AA (JC v m root _ (h.below bA) hm hr);obtain⟨a,c,rfl,hc,hcm,H⟩:=h.open;have hml:=(Af.1 hm).1;have hT:∀t∈EA m root,t<12:=fun t ht=>FL (Gh.1 ht)
 have hrow:∀t∈EA m root,(AL m t).length=4:=fun t ht=>(BG.1 ((Af.1 hm).2 t (hT t ht))).1
 have hl12:(EA m root).length≤12:=Jl;have FS:Gy m root=GX (Es m (EA m root) (EA m root).length):=by unfold Gy Es;rw[List.take_length]
 rw[FS];have HH:=AA H;have HT:=AA (And.intro hT hrow);have Hm:=AA hm;rw[hml] at C ⊢;generalize EA m root=ts at*;clear h H hm hT hrow FS hc hcm;go_in;go_wp2_with fail;generalize w.alloc (.cells #[] 3)=wa at o1 bA C ⊢;refine C.out.mono ?_;rintro e w1 ⟨v1,rfl,t1,b1⟩;have hb1:=bA.trans (b1.mono bA.size);have o2:=AE.below o1 b1;obtain⟨a1,c1,rfl,hc1⟩:=D5 t1;have HT1:=AA t1;have Hb1:=AA hb1;have hap:Fa (.slice (some ⟨w.heap.size,0,none⟩) 0 0) (.slice a1 ts.length c1):=fun b hb hb'=>by have h1:=(World.ownsRow.lt t1 b hb').1;have h2:=(World.ownsRow.lt o1 b hb).2;omega
 clear C o1 bA t1 b1 hb1;go_wp2_with fail;generalize(Value.slice (some ⟨w.heap.size,0,none⟩) 0 0)=o at o2 hap ⊢;go_loopw [5,7] (fun o ix wr=>∃k:Nat,k≤ts.length∧ix= .int .i64 k∧AE w.heap.size wr o (Ak (Es m ts k))∧Below w.heap.size w wr∧AE wa.heap.size wr (.slice a1 ts.length c1) (Ak ts)∧Fa o (.slice a1 ts.length c1)) (fun _ ix _=>ts.length - (intOf ix).toNat)
 case atStart=>exact⟨0,Nat.zero_le _,rfl,o2,Hb1.out,HT1.out,hap⟩
 case round=>
  clear o2 hap;obtain⟨k,hk,rfl,hown,hb,ht1,hap⟩:=hrel
  by_cases hlt:k<ts.length
  ·have hlti:(k:Int)<(ts.length:Int):=by omega
   obtain⟨_,_,e1,_,_,H1⟩:=(AE.rd ht1).open;simp only[Value.slice.injEq] at e1;obtain⟨rfl,e2,rfl⟩:=e1;clear e2;obtain⟨b1,off1,rfl,D1⟩:=H1.at (k:=k) (by rw[Ce];exact hlt);rw[PM] at D1;clear H1;have hmem:=List.mem_of_getElem? (Gd hlt);have hf:=HT.out.1 _ hmem;have hr4:=HT.out.2 _ hmem;obtain⟨b,off,u,rfl,hbl,D,hR⟩:=(HH.out.below hb) (Ix ts k) (by omega);have CN:=AA (IM u (AL m (Ix ts k)) wr hR (by omega) (K9 Hm.out hf));have hfi:(Ix ts k:Int)<12:=by omega
   have Nx:=AA (J9 (m:=m) hlt);have hnl:=PL (k:=k) HT.out.2;have hnm:=Ex (r:=AL m (Ix ts k));rw[hr4] at hnm;obtain⟨_,_,rfl,_⟩:=hR.open;generalize Es m ts k=ys at hown Nx hnl;generalize named (AL m (Ix ts k))=zs at CN Nx hnm;generalize Ix ts k=f at*;have Hown:=AA hown;obtain⟨_,_,rfl,_⟩:=D5 hown;have Ht:=AA (And.intro ht1 hap);clear hown hR hmem hr4 ht1 hap;go_wp2_with fail;refine CN.out.mono ?_;rintro e w2 ⟨v2,rfl,o2,b2⟩;have Hb2:=AA (hb.trans (b2.mono hb.size));have Ht2:=AA (And.intro (AE.below Ht.out.1 b2) Ht.out.2);have Hown2:=AA (Hown.out.below b2);have hRd:=AE.rd o2;obtain⟨az,cz,rfl,hcz⟩:=D5 o2;have HRd:=AA hRd;clear o2 b2 hRd D D1;go_wp2_with (at_builtin;go_must (refine BW (lo:=w.heap.size) (n:=ys.length) (xs:=(Ak ys).map (Value.int .i64)) (m:=zs.length) (news:=(Ak zs).map (Value.int .i64)) rfl rfl 3 (.int .i64 0) 1 8 underlying30 Tryz.infoInt rfl (by decide) rfl (JF Hown2.out (Below.refl _ _)) rfl (by have:=HRd.out;unfold Ap at this;rw[Ce] at this;exact this) (Jc _) (by unfold maxLen;omega) (by omega) (by have:=Hb2.out.size;omega) ?_;intro o' w9 k1 k2 k3 k4));go_roundw
   case rel=>exact⟨k+1,by omega,by go_num,by rw[Nx.out];exact Ge k1,Hb2.out.trans k4,Av Ht2.out.1 k2 Ht2.out.2.symm.ne,Ht2.out.2.grown k3 (fun b hb=>(World.ownsRow.lt Ht2.out.1 b hb).2)⟩
   case measure=>simp[intOf];omega
  ·obtain rfl:k=ts.length:=by omega
   have C2:=AA (JB _ _ wr (AE.rd hown));obtain⟨_,_,rfl,_⟩:=D5 hown;have Hb:=AA hb;clear hown hb;go_wp2_with fail;refine C2.out.mono ?_;rintro e w2 ⟨v2,rfl,o2,b2⟩;have Ho2:=AA (Kb o2 Hb.out.size);have Hb2:=AA (Hb.out.trans (b2.mono Hb.out.size));clear o2 b2 C2;go_wp2_with fail;go_ret;exact⟨_,rfl,Ho2.out,Hb2.out⟩
theorem Sl (w:World) (n:Nat):AE w.heap.size (w.alloc (.cells #[.int .i64 n] 3)) (.slice (some ⟨w.heap.size,0,none⟩) 1 1) (Ak [n]):=PZ (n:=1) (C:=1) rfl (Nat.le_refl _) (by decide) (Nat.le_refl _)
theorem I7 (v:Value) (m:List (List Int)) (root:Int) (w:World) (h:BJ w v m) (hm:Bg m=true) (hr:root<12):Calls prog 214 #[v, .int .i64 root] w fun e w'=>∃v',e= .returned v'∧AE w.heap.size w' v' (Ak (El m root))∧Below w.heap.size w w':=by
 by_cases hn:root<0
 ·have E:El m root=[]:=by unfold El;rw[if_pos hn]
  have o1:=Fh w;rw[E];go_in;go_wp2_with fail;go_ret;exact⟨_,rfl,o1,AG _ _⟩
 ·obtain⟨r,rfl⟩:∃r:Nat,root=(r:Int):=⟨root.toNat,by omega⟩
  have E:El m (r:Int)=GX (([r]++EA m r)++Gy m r):=by unfold El;rw[if_neg hn,Int.toNat_natCast];rfl
  have hr12:r<12:=by omega
  rw[E];have b0:=AG w (.cells #[.int .i64 r] 3);have o0:=Sl w r;have CT:=AA (fun W (hW:Below w.heap.size w W)=>JC v m r W (h.below hW) hm hr12);have CF:=AA (fun W (hW:Below w.heap.size w W)=>PU v m r W (h.below hW) hm hr12);have ht:(EA m r).length≤12:=Jl;have hf:(Gy m r).length≤12:=Jl;obtain⟨a,c,rfl,hc,hcm,_⟩:=h.open;generalize EA m r=ts at*;generalize Gy m r=fs at*;clear h hm E hc hcm;go_in;go_wp2_with fail;generalize w.alloc _=wa at o0 b0 ⊢;refine(CT.out wa b0).mono ?_;rintro e w1 ⟨v1,rfl,o1,b1⟩;have O0:=AE.below o0 b1;have hb1:=b0.trans (b1.mono b0.size);have HRd:=AA (AE.rd o1);have hlw:w.heap.size≤w1.heap.size:=hb1.size;have Hb1:=AA hb1;obtain⟨az,cz,rfl,hcz⟩:=D5 o1;clear o0 b0 o1 b1 hb1;have ys1:Ak [r]=Ak ([r]:List Nat):=rfl;go_wp2_with (at_builtin;go_must (refine BW (lo:=w.heap.size) (n:=1) (xs:=(Ak [r]).map (Value.int .i64)) (m:=ts.length) (news:=(Ak ts).map (Value.int .i64)) rfl rfl 3 (.int .i64 0) 1 8 underlying30 Tryz.infoInt rfl (by decide) rfl (JF O0 (Below.refl _ _)) rfl (by have:=HRd.out;unfold Ap at this;rw[Ce] at this;exact this) (Jc _) (by unfold maxLen;omega) (by omega) (by omega) ?_;intro o' w9 k1 k2 k3 k4));have hb9:=Hb1.out.trans k4;refine(CF.out w9 hb9).mono ?_;rintro e w2 ⟨v2,rfl,o2,b2⟩;have O9:=Ge (ys:=[r]) (zs:=ts) k1;have O2:=AE.below O9 b2;have Hb2:=AA (hb9.trans (b2.mono hb9.size));have HRd2:=AA (AE.rd o2);obtain⟨ay,cy,rfl,hcy⟩:=D5 o2;obtain⟨ax,cx,rfl,hcx⟩:=D5 O2;clear O0 HRd k1 k2 k3 k4 hb9 O9 o2 b2;go_wp2_with (at_builtin;go_must (refine BW (lo:=w.heap.size) (n:=([r]++ts).length) (xs:=(Ak ([r]++ts)).map (Value.int .i64)) (m:=fs.length) (news:=(Ak fs).map (Value.int .i64)) rfl rfl 3 (.int .i64 0) 1 8 underlying30 Tryz.infoInt rfl (by decide) rfl (JF O2 (Below.refl _ _)) rfl (by have:=HRd2.out;unfold Ap at this;rw[Ce] at this;exact this) (Jc _) (by simp only[List.length_append,List.length_singleton];unfold maxLen;omega) (by simp only[List.length_append,List.length_singleton];omega) (by have:=Hb2.out.size;omega) ?_;intro o8 w8 k1 k2 k3 k4));have hb8:=Hb2.out.trans k4;have O8:=Ge k1;refine(JB o8 _ w8 (AE.rd O8)).mono ?_;rintro e w3 ⟨v3,rfl,o3,b3⟩;have Ho3:=AA (Kb o3 hb8.size);have Hb3:=AA (hb8.trans (b3.mono hb8.size));clear O8 hb8 k1 k2 k3 k4 o3 b3 O2;go_wp2_with fail;go_ret;exact⟨_,rfl,Ho3.out,Hb3.out⟩
theorem Ph (w:World) (a b:Obj):((w.alloc a).alloc b).heap[w.heap.size]? =some a∧((w.alloc a).alloc b).heap[w.heap.size+1]? =some b∧Below w.heap.size w ((w.alloc a).alloc b)∧((w.alloc a).alloc b).heap.size=w.heap.size+2:=by have h1:=heap_alloc_new w a;have h2:=heap_alloc_new (w.alloc a) b;have h4:=AF h1 (AG _ b);simp only[World.size_alloc] at h2;exact⟨h4,h2,F3 w a b,by simp⟩
def Fk (k:AN) (a n:Nat):List Nat:=(List.range n).filter (NW k a)
theorem OC {k:AN} {a n:Nat}:Fk k a (n+1)=Fk k a n++(if NW k a n then[n] else[]):=by
 unfold Fk;rw[List.range_succ,List.filter_append]
 congr 1
 simp only[List.filter_cons,List.filter_nil]
theorem Ps {k:AN} {a n:Nat}:(Fk k a n).length≤n:=by have:=List.length_filter_le (NW k a) (List.range n);simpa[Fk] using this
theorem PT (mv iv ev cv:Value) (k:AN) (a:Nat) (w:World) (h:Mb w mv iv ev cv k) (hk:De k):Calls prog 288 #[.agg #[mv,iv,ev,cv], .int .i64 a] w fun e w'=>∃v',e= .returned v'∧AE w.heap.size w' v' (Ak (Pr k a))∧Below w.heap.size w w':=by
 obtain⟨N0,N1,hb0,hs0⟩:=Ph w (.cells #[mv,iv,ev,cv] 29) (.cells #[] 3);have o1:AE w.heap.size ((w.alloc (.cells #[mv,iv,ev,cv] 29)).alloc (.cells #[] 3)) (.slice (some ⟨w.heap.size+1,0,none⟩) 0 0) (Ak []):=by have:=Fh (w.alloc (.cells #[mv,iv,ev,cv] 29));simp only[World.size_alloc] at this;exact Kb this (Nat.le_succ _)
 have CT:=AA (fun(r:Nat) (hr:r<12) W (hW:Below w.heap.size w W)=>JC mv k.mem r W (h.1.below hW) hk.mem hr);obtain⟨ae,ce,rfl,hce,hcme,HE⟩:=h.2.2.1.open;rw[hk.envl] at hce N0 o1 hb0 ⊢;have HR:=AA hk.roots;have HHE:=AA HE;have Henvl:=AA hk.envl;have US:Pr k a=Fk k a 3:=rfl;rw[US];clear h hk HE US hs0 N1;go_in;go_wp2_with fail;generalize(w.alloc _).alloc _=wa at o1 hb0 N0 ⊢;have HN0:=AA N0;clear N0;generalize(Value.slice (some ⟨w.heap.size+1,0,none⟩) 0 0)=o at o1 ⊢;go_loopw [5,6,7] (fun o ix _ wr=>∃n:Nat,n≤3∧ix= .int .i64 n∧AE w.heap.size wr o (Ak (Fk k a n))∧Below w.heap.size w wr∧wr.heap[w.heap.size]? =some (.cells #[mv,iv, .slice ae 3 ce,cv] 29 (0,0))) (fun _ ix _ _=>3 - (intOf ix).toNat)
 case atStart=>exact⟨0,Nat.zero_le _,rfl,o1,hb0,HN0.out⟩
 case round=>
  clear o1 hb0;obtain⟨n,hn,rfl,hown,hb,hN⟩:=hrel;obtain⟨x0,_,x2,_⟩:=AB hN
  by_cases hlt:n<3
  ·have hlti:(n:Int)<3:=by omega
   obtain⟨b,off,ua,uc,rfl,hbl,D0,D1,_⟩:=(HHE.out.below hb) n (by rw[Henvl.out];exact hlt);have hroot:=HR.out n hlt;have Nx:=AA (OC (k:=k) (a:=a) (n:=n));have hnl:=Ps (k:=k) (a:=a) (n:=n);have UE:NW k a n=(decide ((AC k.envs n).root=(a:Int))||(decide (0≤(AC k.envs n).root)&&(EA k.mem (AC k.envs n).root.toNat).contains a)):=rfl
   change (AC k.envs n).root= -1∨(0≤(AC k.envs n).root∧(AC k.envs n).root≤11∧_) at hroot
   generalize Fk k a n=ys at hown Nx hnl;generalize NW k a n=ub at Nx UE;generalize(AC k.envs n).root=rt at D1 hroot UE;have Hown:=AA hown;have HN:=AA hN;obtain⟨_,_,rfl,_⟩:=D5 hown;clear hown hN D0;have YES:Hid (ub=true→Fk k a (n+1)=ys++[n]):=AA fun e=>by rw[Nx.out,e];simp
   have NO:Hid (ub=false→Fk k a (n+1)=ys):=AA fun e=>by rw[Nx.out,e];simp
   clear Nx
   by_cases e1:rt=(a:Int)
   ·have t1:(rt==(a:Int))=true:=by simp[e1]
    have Nx':=AA (YES.out (by rw[UE];simp[e1]));clear YES NO UE e1 hroot;go_wp2_with (at_builtin;go_must (refine BW (lo:=w.heap.size) (n:=ys.length) (xs:=(Ak ys).map (Value.int .i64)) (m:=1) (news:=[.int .i64 n]) rfl rfl 3 (.int .i64 0) 1 8 underlying30 Tryz.infoInt rfl (by decide) rfl (JF Hown.out (AG _ (.cells #[.int .i64 n] 3))) rfl (Rd.newsAt _ #[_] _ 1 1 _ (by simp) rfl (by simp[maxLen])) (by simp[Value.oneCell']) (by unfold maxLen;omega) (by omega) (by have:=hb.size;simp;omega) ?_;intro o' w9 k1 k2 k3 k4));go_roundw
    case rel=>exact⟨n+1,by omega,by go_num,by rw[Nx'.out];exact Ge (zs:=[n]) k1,(hb.alloc hb.size _).trans k4,(k2.block w.heap.size (by have:=Ao HN.out;simp;omega) (fun e=>Bz Hown.out HN.out (by decide) e.symm)).trans (AF HN.out (AG _ _))⟩
    case measure=>simp[intOf];omega
   ·have t1:(rt==(a:Int))=false:=by simp[e1]
    rcases hroot with rfl|⟨h0,h11,_⟩
    ·have Nx':=AA (NO.out (by rw[UE];simp[e1]))
     clear YES NO UE e1;go_wp2_with fail;go_roundw
     case rel=>exact⟨n+1,by omega,by go_num,by rw[Nx'.out];exact Hown.out,hb,HN.out⟩
     case measure=>simp[intOf];omega
    ·obtain⟨r,rfl⟩:∃r:Nat,rt=(r:Int):=⟨rt.toNat,by omega⟩
     have C:=AA (CT.out r (by omega) wr hb);rw[Int.toNat_natCast] at UE;go_wp2_with fail;refine C.out.mono ?_;rintro e w2 ⟨v2,rfl,o2,b2⟩;have CH:=OM v2 _ (a:Int) w2 (AE.rd o2);rw[QQ] at CH;generalize(EA k.mem r).contains a=bt at UE CH;have HCH:=AA CH;have hb2:=hb.trans (b2.mono hb.size);have Hown2:=AA (Hown.out.below b2);have HN2:=AA (AF HN.out b2);clear CH o2 b2 C x0 x2 D1;go_wp2_with fail;refine HCH.out.mono ?_;rintro e w3 ⟨rfl,b3⟩;have hb3:=hb2.trans (b3.mono hb2.size);have Hown3:=AA (Hown2.out.below b3);have HN3:=AA (AF HN2.out b3);clear b3 hb2;cases bt
     ·have Nx':=AA (NO.out (by rw[UE];simp[e1]))
      clear YES NO UE e1;go_wp2_with fail;go_roundw
      case rel=>exact⟨n+1,by omega,by go_num,by rw[Nx'.out];exact Hown3.out,hb3,HN3.out⟩
      case measure=>simp[intOf];omega
     ·have Nx':=AA (YES.out (by rw[UE];simp))
      clear YES NO UE e1;go_wp2_with (at_builtin;go_must (refine BW (lo:=w.heap.size) (n:=ys.length) (xs:=(Ak ys).map (Value.int .i64)) (m:=1) (news:=[.int .i64 n]) rfl rfl 3 (.int .i64 0) 1 8 underlying30 Tryz.infoInt rfl (by decide) rfl (JF Hown3.out (AG _ (.cells #[.int .i64 n] 3))) rfl (Rd.newsAt _ #[_] _ 1 1 _ (by simp) rfl (by simp[maxLen])) (by simp[Value.oneCell']) (by unfold maxLen;omega) (by omega) (by have:=hb3.size;simp;omega) ?_;intro o' w9 k1 k2 k3 k4));go_roundw
      case rel=>exact⟨n+1,by omega,by go_num,by rw[Nx'.out];exact Ge (zs:=[n]) k1,(hb3.alloc hb3.size _).trans k4,(k2.block w.heap.size (by have:=Ao HN3.out;simp;omega) (fun e=>Bz Hown3.out HN3.out (by decide) e.symm)).trans (AF HN3.out (AG _ _))⟩
      case measure=>simp[intOf];omega
  ·obtain rfl:n=3:=by omega
   rw[show((3:Nat):Int)=3 from rfl];go_wp2_with fail;go_ret;exact⟨_,rfl,hown,hb⟩
theorem Gb {l:List Aa} {k:Nat} (h:k<l.length):l[k]? =some (Ac l k):=by simp[Ac,h]
theorem JZ {α:Type} {p:α→Bool} {l:List α} {k:Nat} {x:α} (h:l[k]? =some x):(l.take (k+1)).filter p=(l.take k).filter p++(if p x then[x] else[]):=by
 rw[Cv h,List.filter_append]
 congr 1
 simp only[List.filter_cons,List.filter_nil]
theorem Gq {α:Type} {p:α→Bool} {l:List α} {k:Nat}:((l.take k).filter p).length≤l.length:=Nat.le_trans (List.length_filter_le _ _) (by rw[List.length_take];omega)
theorem Ho (v:Value) (c:List Aa) (e:Int) (w:World) (h:Bn w v c) (hl:c.length≤100):Calls prog 289 #[v, .int .i64 e] w fun r w'=>∃v',r= .returned v'∧AJ w.heap.size 140 4 AP w' v' (Co c e)∧Below w.heap.size w w':=by
 obtain⟨a,cp,rfl,hc,hcm,H⟩:=A3.open Bi (by decide) h;unfold maxLen at hcm;have HH:=AA H;have bA:=AG w (.cells #[] 140);have o1:=CY AP w 140 4;clear h H;go_in;go_wp2_with fail;generalize w.alloc (.cells #[] 140)=wa at o1 bA ⊢;generalize(Value.slice (some ⟨w.heap.size,0,none⟩) 0 0)=o at o1 ⊢;go_loopw [5,6] (fun o ix wr=>∃k:Nat,k≤c.length∧ix= .int .i64 k∧AJ w.heap.size 140 4 AP wr o ((c.take k).filter (fun y=>decide (y.e≠e)))∧Below w.heap.size w wr) (fun _ ix _=>c.length - (intOf ix).toNat)
 case atStart=>exact⟨0,Nat.zero_le _,rfl,o1,bA⟩
 case round=>
  clear o1 bA;obtain⟨k,hk,rfl,hown,hb⟩:=hrel
  by_cases hlt:k<c.length
  ·have hlti:(k:Int)<(c.length:Int):=by omega
   obtain⟨b,off,rfl,hbl,D0,D1,D2,D3⟩:=(HH.out.below hb).cachedCells hlt;have Nx:=AA (JZ (p:=fun y=>decide (y.e≠e)) (Gb hlt));have hnl:=Gq (p:=fun y=>decide (y.e≠e)) (l:=c) (k:=k);generalize Ac c k=x at D0 D1 D2 D3 Nx;generalize(c.take k).filter (fun y=>decide (y.e≠e))=ys at hown Nx hnl;have Hown:=AA hown;obtain⟨_,_,rfl,_⟩:=hown.rd.shape;clear hown;cases hp:decide (x.e≠e)
   ·have t0:(x.e !=e)=false:=by simpa using hp
    have Nx':=AA (show(c.take (k+1)).filter (fun y=>decide (y.e≠e))=ys by rw[Nx.out,hp];simp);have Hp:=AA hp;clear hp Nx;go_wp2_with fail;go_roundw
    case rel=>exact⟨k+1,by omega,by go_num,by rw[Nx'.out];exact Hown.out,hb⟩
    case measure=>simp[intOf];omega
   ·have t0:(x.e !=e)=true:=by simpa using hp
    have Nx':=AA (show(c.take (k+1)).filter (fun y=>decide (y.e≠e))=ys++[x] by rw[Nx.out,hp];simp);have Hp:=AA hp;clear hp Nx;go_wp2_with (at_builtin;go_must (refine BW (lo:=w.heap.size) (n:=ys.length) (xs:=Bj AP ys) (m:=1) (news:=[.int .i64 x.e, .int .i64 x.p, .int .i64 x.f, .bool x.w]) rfl rfl 140 (.agg #[.int .i64 0, .int .i64 0, .int .i64 0, .bool false]) 4 32 underlying27 Tryz.infoCachedK rfl (by decide) rfl (Bw (Hown.out) (AG _ _)) rfl (Rd.newsAt _ #[.int .i64 x.e, .int .i64 x.p, .int .i64 x.f, .bool x.w] _ 4 1 _ rfl (by simp) (by simp[maxLen])) (by simp[Value.oneCell']) (by unfold maxLen;omega) (by omega) (by have:=(hb).size;simp;omega) ?_;intro o' w9 k1 k2 k3 k4));go_roundw
    case rel=>exact⟨k+1,by omega,by go_num,by rw[Nx'.out];unfold AJ;rw[BS,EO,List.length_append];exact k1,((hb).alloc (hb).size _).trans k4⟩
    case measure=>simp[intOf];omega
  ·obtain rfl:k=c.length:=by omega
   rw[List.take_length] at hown;go_wp2_with fail;go_ret;exact⟨_,rfl,hown,hb⟩
theorem Ua {c:List Aa} {e p:Int} {k:Nat} (hk:k<c.length) (h:∀j,j<k→A5 e p (Ac c j)=false) (hp:A5 e p (Ac c k)=true):FX c e p=(k:Int):=by
 have g:∀j (hj:j<c.length),c[j]=Ac c j:=fun j hj=>by have:=Gb hj;rw[List.getElem?_eq_getElem hj] at this;exact So_ this
 unfold FX;rw[if_pos (PB (Gb hk) hp)];have:c.findIdx (A5 e p)=k:=by
  rw[List.findIdx_eq hk];exact⟨by rw[g k hk];exact hp,fun j hj=>by rw[g j (by omega)];exact h j hj⟩
 rw[this]
theorem TI {c:List Aa} {e p:Int} (h:∀j,j<c.length→A5 e p (Ac c j)=false):FX c e p= -1:=by
 unfold FX;rw[if_neg];rw[Kk (fun k hk=>Gb hk) h];simp
theorem Mz (v:Value) (c:List Aa) (e p:Int) (w:World) (h:Bn w v c):Calls prog 212 #[v, .int .i64 e, .int .i64 p] w fun r w'=>r= .returned (.int .i64 (FX c e p))∧Below w.heap.size w w':=by
 obtain⟨a,cp,rfl,hc,hcm,H⟩:=A3.open Bi (by decide) h;unfold maxLen at hcm;have HH:=AA H;clear h H;go_in;go_wp2_with fail;go_loopw [7] (fun ix wr=>∃k:Nat,k≤c.length∧ix= .int .i64 k∧(∀j,j<k→A5 e p (Ac c j)=false)∧Below w.heap.size w wr) (fun ix _=>c.length - (intOf ix).toNat)
 case atStart=>exact⟨0,Nat.zero_le _,rfl,fun j hj=>absurd hj (Nat.not_lt_zero _),Below.refl _ _⟩
 case round=>
  obtain⟨k,hk,rfl,hpre,hb⟩:=hrel;have Hpre:=AA hpre;clear hpre
  by_cases hlt:k<c.length
  ·have hlti:(k:Int)<(c.length:Int):=by omega
   obtain⟨b,off,rfl,hbl,D0,D1,D2,D3⟩:=(HH.out.below hb).cachedCells hlt;have SE:A5 e p (Ac c k)=(decide ((Ac c k).e=e)&&decide ((Ac c k).p=p)):=rfl;have FA:=AA (fun hp=>Ua (e:=e) (p:=p) hlt Hpre.out hp);have NE:=AA (fun hp=>Ay Hpre.out (show A5 e p (Ac c k)=false from hp));rw[SE] at FA NE;clear SE;generalize Ac c k=x at D0 D1 D2 D3 FA NE
   by_cases h1:x.e=e
   ·have t1:(x.e==e)=true:=by simp[h1]
    by_cases h2:x.p=p
    ·have t2:(x.p==p)=true:=by simp[h2]
     have S:=AA (FA.out (by simp[h1,h2]));clear FA NE h1 h2;go_wp2_with fail;go_ret;exact⟨Bd S.out.symm,hb⟩
    ·have t2:(x.p==p)=false:=by simp[h2]
     have N:=AA (NE.out (by simp[h2]));clear FA NE h1 h2;go_wp2_with fail;go_roundw
     case rel=>exact⟨k+1,by omega,by go_num,N.out,hb⟩
     case measure=>simp[intOf];omega
   ·have t1:(x.e==e)=false:=by simp[h1]
    have N:=AA (NE.out (by simp[h1]));clear FA NE h1;go_wp2_with fail;go_roundw
    case rel=>exact⟨k+1,by omega,by go_num,N.out,hb⟩
    case measure=>simp[intOf];omega
  ·obtain rfl:k=c.length:=by omega
   have S:=AA (TI Hpre.out);go_wp2_with fail;go_ret;exact⟨Bd S.out.symm,hb⟩
theorem Tj {ss:List ByteArray} {k:Nat} (h:k<ss.length):ss[k]? =some (Bp ss k):=F8 h
theorem QW (v:Value) (ss:List ByteArray) (s:ByteArray) (w:World) (h:BC w v ss) (hs:EB ss) (hz:s.size≤maxLen) (hl:ss.length≤100):Calls prog 290 #[v, .string s] w fun r w'=>∃v',r= .returned v'∧AJ w.heap.size 9 1 An w' v' (BA ss s)∧Below w.heap.size w w':=by
 obtain⟨a,cp,rfl,hc,hcm,H⟩:=A3.open EJ (by decide) h;unfold maxLen at hcm;have HH:=AA H;have HS:=AA (And.intro hs hz);have bA:=AG w (.cells #[] 9);have o1:=CY An w 9 1;clear h H hs hz;go_in;go_wp2_with fail;generalize w.alloc (.cells #[] 9)=wa at o1 bA ⊢;generalize(Value.slice (some ⟨w.heap.size,0,none⟩) 0 0)=o at o1 ⊢;go_loopw [5,6] (fun o ix wr=>∃k:Nat,k≤ss.length∧ix= .int .i64 k∧AJ w.heap.size 9 1 An wr o ((ss.take k).filter (fun r=>!LR s r))∧Below w.heap.size w wr) (fun _ ix _=>ss.length - (intOf ix).toNat)
 case atStart=>exact⟨0,Nat.zero_le _,rfl,o1,bA⟩
 case round=>
  clear o1 bA;obtain⟨k,hk,rfl,hown,hb⟩:=hrel
  by_cases hlt:k<ss.length
  ·have hlti:(k:Int)<(ss.length:Int):=by omega
   obtain⟨b,off,rfl,D⟩:=(HH.out.below hb).str hlt;have C:=AA (KB s (Bp ss k) wr HS.out.2 (HS.out.1 _ (List.mem_of_getElem? (F8 hlt))));have Nx:=AA (JZ (p:=fun r=>!LR s r) (Tj hlt));have hnl:=Gq (p:=fun r=>!LR s r) (l:=ss) (k:=k);generalize Bp ss k=x at D Nx C;generalize(ss.take k).filter (fun r=>!LR s r)=ys at hown Nx hnl;have Hown:=AA hown;obtain⟨_,_,rfl,_⟩:=hown.rd.shape;clear hown;cases hp:!LR s x
   ·have Nx':=AA (show(ss.take (k+1)).filter (fun r=>!LR s r)=ys by rw[Nx.out,hp];simp)
    have Hp:=AA hp;clear hp Nx;go_wp2_with fail;refine C.out.mono ?_;rintro e w2 ⟨rfl,rfl⟩;rw[show LR s x=!false by rw[←Hp.out];simp];go_wp2_with fail;go_roundw
    case rel=>exact⟨k+1,by omega,by go_num,by rw[Nx'.out];exact Hown.out,hb⟩
    case measure=>simp[intOf];omega
   ·have Nx':=AA (show(ss.take (k+1)).filter (fun r=>!LR s r)=ys++[x] by rw[Nx.out,hp];simp)
    have Hp:=AA hp;clear hp Nx;go_wp2_with fail;refine C.out.mono ?_;rintro e w2 ⟨rfl,rfl⟩;rw[show LR s x=!true by rw[←Hp.out];simp];go_wp2_with (at_builtin;go_must (refine BW (lo:=w.heap.size) (n:=ys.length) (xs:=Bj An ys) (m:=1) (news:=[.string x]) rfl rfl 9 (.string ⟨#[]⟩) 1 16 underlying67 Tryz.infoStringK rfl (by decide) rfl (Bw (Hown.out) (AG _ _)) rfl (Rd.newsAt _ #[.string x] _ 1 1 _ rfl (by simp) (by simp[maxLen])) (by simp[Value.oneCell']) (by unfold maxLen;omega) (by omega) (by have:=(hb).size;simp;omega) ?_;intro o' w9 k1 k2 k3 k4));go_roundw
    case rel=>exact⟨k+1,by omega,by go_num,by rw[Nx'.out];unfold AJ;rw[BS,EO,List.length_append];exact k1,((hb).alloc (hb).size _).trans k4⟩
    case measure=>simp[intOf];omega
  ·obtain rfl:k=ss.length:=by omega
   rw[List.take_length] at hown;go_wp2_with fail;go_ret;exact⟨_,rfl,hown,hb⟩
theorem Eu {α:Type} {cs:α→List Value} {lo:Nat} {w:World} {ops:Array Oper} {rest:List Oper} {o:Oper} {a:Act} {Q:Exit→Act→World→Prop} {s x:Operand} {t:TypeId}
 (hgd:o.guard=none) (ho:o.op= .call {callee:= .builtin .append,args:= #[s,x],argTypes:= #[t,t]})
 (e:TypeId) (z:Value) (sz bytes:Nat) (ht:prog.underlying t=some (.slice e)) (hi:(prog.info? e).map (fun i=>(i.zero,i.size,i.bytes))=some (some z,sz,bytes))
 (hzs:z.cells.size=sz) (hsz:0<sz) {v u:Value} {xs:List α} (hs:a.eval s=v) (hown:AJ lo e sz cs w v ([]:List α))
 (hx:a.eval x=u) (hr:A3 sz cs w u xs) (h1:∀u∈Bj cs xs,u.oneCell'=true) (h63:xs.length≤1048576) (hbytes:bytes≤1048576) (hlo:lo≤w.heap.size)
 (hK:∀v' w',AJ lo e sz cs w' v' xs→Below lo w w'→wpList prog ops Q rest (a.put o.dst v') w'):wpList prog ops Q (o::rest) a w:=by
 refine BW hgd ho e z sz bytes ht hi hzs hsz hs hown hx hr h1 ?_ ?_ hlo fun v' w' k1 _ _ k4=>hK v' w' ?_ k4
 ·unfold maxLen;simp only[List.length_nil];omega
 ·simp only[List.length_nil]
  have h1:=Nat.mul_le_mul_right bytes (show 0+xs.length≤1048576 by omega);have h2:=Nat.mul_le_mul_left 1048576 hbytes;omega
 ·unfold AJ
  have:([]:List α).length+xs.length=xs.length:=by simp
  rw[this] at k1;exact k1
theorem EZ (xs:List AQ):∀u∈Bj Ag xs,u.oneCell'=true:=by
 intro u hu;obtain⟨s,_,hs⟩:=List.mem_flatMap.1 hu;simp[Ag] at hs
 rcases hs with rfl|rfl|rfl<;>rfl
theorem Jd (xs:List Aa):∀u∈Bj AP xs,u.oneCell'=true:=by
 intro u hu;obtain⟨s,_,hs⟩:=List.mem_flatMap.1 hu;simp[AP] at hs
 rcases hs with rfl|rfl|rfl|rfl<;>rfl
theorem F0 (xs:List ByteArray):∀u∈Bj An xs,u.oneCell'=true:=by
 intro u hu;obtain⟨s,_,hs⟩:=List.mem_flatMap.1 hu;simp[An] at hs
 rcases hs with rfl<;>rfl
theorem Um (v:Value) (m:List (List Int)) (f:Nat) (w:World) (h:BJ w v m) (hm:Bg m=true) (hf:f<12):Calls prog 371 #[v, .int .i64 f] w fun e w'=>e= .returned (.bool true)∧Below w.heap.size w w':=by have C:=Lg v m w h;rw[hm] at C;have HC:=AA C;have E:Bk (f:Int) 0 11=true:=AZ.2 (by omega);have HE:=AA E;clear C h hm E;go_in;go_wp2_with fail;refine HC.out.mono ?_;rintro e w1 ⟨rfl,b1⟩;go_wp2_with fail;refine(Cg _ _).mono ?_;rintro e w2 ⟨rfl,rfl⟩;rw[HE.out];go_wp2_with fail;go_ret;exact⟨rfl,b1⟩
theorem Lq (v iv:Value) (m:List (List Int)) (xs:List AQ) (f:Nat) (w:World) (h:BJ w v m) (hm:Bg m=true) (hI:BH w iv xs) (hio:A0 xs=true) (hf:f<12):Calls prog 360 #[v,iv, .int .i64 f] w fun e w'=>e= .returned (.bool true)∧Below w.heap.size w w':=by
 have C1:=AA (Um v m f w h hm hf);have C2:=AA (fun W (hW:Below w.heap.size w W)=>by have:=EH iv xs W (A3.below hI hW) (Bh hio);rw[hio] at this;exact this);clear h hm hI hio;go_in;go_wp2_with fail;refine C1.out.mono ?_;rintro e w1 ⟨rfl,b1⟩;go_wp2_with fail;refine(C2.out _ b1).mono ?_;rintro e w2 ⟨rfl,b2⟩;go_wp2_with fail;go_ret;exact⟨rfl,b1.trans (b2.mono b1.size)⟩
theorem NM (v:Value) (xs:List AQ) (g:ByteArray) (f:Nat) (w:World) (h:BH w v xs) (hok:A0 xs=true) (hg:A4 g=true) (hfr:Cy xs=(f:Int)) (hf:f<12):
 Calls prog 282 #[v, .string g] w fun e w'=>∃v',e= .returned (.tuple #[v', .int .i64 f, .bool true])∧AJ w.heap.size 135 3 Ag w' v' (xs.set f ⟨1,g,0⟩)∧Below w.heap.size w w':=by
 have hl:=(At.1 hok).1;have c0:=Lp v xs w h;rw[hfr] at c0;have C0:=AA c0;have hg4:=IY hg;have hgm:g.size≤maxLen:=by unfold maxLen;omega
 have C1:=AA (fun W (hW:Below w.heap.size w W)=>by have:=EH v xs W (A3.below h hW) (Bh hok);rw[hok] at this;exact this);have C2:=AA (fun W=>by have:=Df g W hgm;rw[hg] at this;exact this);have HR:=AA (fun W (hW:Below w.heap.size w W)=>A3.below h hW);obtain⟨a,c,rfl,hc,hcm⟩:=h.shape;have Hl:=AA hl;have hl12:xs.length≤12:=by omega
 clear h hok hg hfr c0 hgm hg4 hl;go_in;go_wp2_with fail;refine C0.out.mono ?_;rintro e w0 ⟨rfl,b0⟩;go_wp2_with fail;refine(C1.out _ b0).mono ?_;rintro e w1 ⟨rfl,b1⟩;have hb1:=b0.trans (b1.mono b0.size);go_wp2_with fail;refine(C2.out _).mono ?_;rintro e w1 ⟨rfl,rfl⟩;have Hb1:=AA hb1;go_wp2_with (at_builtin;go_must (refine Eu (cs:=Ag) rfl rfl 135 (.agg #[.int .i64 0, .string ⟨#[]⟩, .int .i64 0]) 3 32 underlying25 Tryz.infoInfoK rfl (by decide) rfl (CY Ag _ _ _) rfl (HR.out _ (hb1.trans ((AG _ _).mono hb1.size))) (EZ _) (by omega) (by decide) (by simp) ?_;intro v' w9 hO hb9));have hb2:=(Hb1.out.trans ((AG _ _).mono Hb1.out.size)).trans (hb9.mono Hb1.out.size);obtain⟨q,cap,rfl,c1,c2,q1,q2,hfz⟩:=hO.shapeOwn (by have:=Hl.out;omega);have hS:=AA (AJ.stored As hO (show f<xs.length by have:=Hl.out;omega) ⟨1,g,0⟩);obtain⟨d0,d1,d2⟩:=AJ.infoCells hO (show f<xs.length by have:=Hl.out;omega);have hB:=AA (AT hb2 hS.out.2 (Nat.le_trans Hb1.out.size q1) hb2.size);have hlo:=Hb1.out.size;have hfl:(f:Int)<xs.length:=by have:=Hl.out;omega
 unfold maxLen at c2;have hn0:¬(f:Int)<0:=by omega
 clear hO hb9 hb1 b0 b1 hb2 hl12;go_wp2_with fail;go_ret3;exact⟨_,rfl,hS.out.1.lower hlo,hB.out⟩
theorem NL (v:Value) (xs:List AQ) (f:Nat) (w:World) (h:BH w v xs) (hok:A0 xs=true) (hf:f<12) (hk:(infoAt xs f).k=1) (hr:(infoAt xs f).r=0):
 Calls prog 284 #[v, .int .i64 f] w fun e w'=>∃v',e= .returned (.tuple #[v', .bool true])∧AJ w.heap.size 135 3 Ag w' v' (xs.set f AQ.zero)∧Below w.heap.size w w':=by
 have hl:=(At.1 hok).1;have C1:=AA (fun W (hW:Below w.heap.size w W)=>by have:=EH v xs W (A3.below h hW) (Bh hok);rw[hok] at this;exact this);have HE:=AA (show Bk (f:Int) 0 11=true from AZ.2 (by omega));have HR:=AA (fun W (hW:Below w.heap.size w W)=>A3.below h hW);obtain⟨ai,ci,rfl,hci,hcim,H2⟩:=A3.open As (by decide) h;obtain⟨bi,offi,rfl,hbi,D0,_,D2⟩:=H2.infoCells (show f<xs.length by omega);have hfl:(f:Int)<xs.length:=by omega
 have t1:((infoAt xs f).k !=1)=false:=by simp[hk]
 have t2:¬0<(infoAt xs f).r:=by omega
 have Hl:=AA hl;have hb:=Below.refl w.heap.size w;clear h hok hk hr H2 hl;go_in;go_wp2_with fail;refine(C1.out _ hb).mono ?_;rintro e w_ ⟨rfl,hb_⟩;replace hb:=hb.trans (hb_.mono hb.size);clear hb_;go_wp2_with fail;refine(Cg _ _).mono ?_;rintro e w2 ⟨rfl,rfl⟩;rw[HE.out];replace D0:=(hb.cell (p:=⟨bi,offi+f*3,none⟩) hbi).trans D0;replace D2:=(hb.cell (p:=⟨bi,offi+f*3+2,none⟩) hbi).trans D2;have Hb1:=AA hb;go_wp2_with (at_builtin;go_must (refine Eu (cs:=Ag) rfl rfl 135 (.agg #[.int .i64 0, .string ⟨#[]⟩, .int .i64 0]) 3 32 underlying25 Tryz.infoInfoK rfl (by decide) rfl (CY Ag _ _ _) rfl (HR.out _ (Hb1.out.trans ((AG _ _).mono Hb1.out.size))) (EZ _) (by have:=Hl.out;omega) (by decide) (by simp) ?_;intro v' w9 hO hb9));have hb2:=(Hb1.out.trans ((AG _ _).mono Hb1.out.size)).trans (hb9.mono Hb1.out.size);obtain⟨q,cap,rfl,c1,c2,q1,q2,hfz⟩:=hO.shapeOwn (by have:=Hl.out;omega);have hS:=AA (AJ.stored As hO (show f<xs.length by have:=Hl.out;omega) AQ.zero);obtain⟨d0,d1,d2⟩:=AJ.infoCells hO (show f<xs.length by have:=Hl.out;omega);have hB:=AA (AT hb2 hS.out.2 (Nat.le_trans Hb1.out.size q1) hb2.size);have hlo:=Hb1.out.size;unfold maxLen at c2;have hn0:¬(f:Int)<0:=by omega
 clear hO hb9 hb2 hb D0 D2;go_wp2_with fail;go_ret2;exact⟨_,rfl,hS.out.1.lower hlo,hB.out⟩
theorem Nr (v:Value) (xs:List AQ) (f:Nat) (w:World) (h:BH w v xs) (hok:A0 xs=true) (hf:f<12) (hk:(infoAt xs f).k=1) (hr:(infoAt xs f).r≠0):
 Calls prog 284 #[v, .int .i64 f] w fun e w'=>∃v',e= .returned (.tuple #[v', .bool false])∧Below w.heap.size w w':=by
 have hl:=(At.1 hok).1;have hr0:=(F5 ((At.1 hok).2 f hf)).2.1;have C1:=AA (fun W (hW:Below w.heap.size w W)=>by have:=EH v xs W (A3.below h hW) (Bh hok);rw[hok] at this;exact this);have HE:=AA (show Bk (f:Int) 0 11=true from AZ.2 (by omega));obtain⟨ai,ci,rfl,hci,hcim,H2⟩:=A3.open As (by decide) h;obtain⟨bi,offi,rfl,hbi,D0,_,D2⟩:=H2.infoCells (show f<xs.length by omega);have hfl:(f:Int)<xs.length:=by omega
 have t1:((infoAt xs f).k !=1)=false:=by simp[hk]
 have t2:0<(infoAt xs f).r:=by omega
 have hb:=Below.refl w.heap.size w;clear h hok hk hr H2 hl hr0;go_in;go_wp2_with fail;refine(C1.out _ hb).mono ?_;rintro e w_ ⟨rfl,hb_⟩;replace hb:=hb.trans (hb_.mono hb.size);clear hb_;go_wp2_with fail;refine(Cg _ _).mono ?_;rintro e w2 ⟨rfl,rfl⟩;rw[HE.out];replace D0:=(hb.cell (p:=⟨bi,offi+f*3,none⟩) hbi).trans D0;replace D2:=(hb.cell (p:=⟨bi,offi+f*3+2,none⟩) hbi).trans D2;go_wp2_with fail;go_ret2;exact⟨_,rfl,hb.alloc hb.size _⟩
theorem PQ (v rv:Value) (xs:List AQ) (f:Nat) (x kind:Int) (ss:List ByteArray) (w:World) (h:BH w v xs) (hl:xs.length=12) (hI:HY xs) (hv:BC w rv ss) (hs:EB ss) (hx:x≤9223372036854775807) (hk:2≤kind∧kind≤3):
 Calls prog 268 #[v, .int .i64 f, .int .i64 x, .int .i64 kind,rv] w fun e w'=>e= .returned (.bool (Et xs f kind ss x))∧Below w.heap.size w w':=by
 cases hg:BX x
 ·have V:=AA (Do hg)
  have G:=AA (show Et xs f kind ss x=(x==0) by simp only[Et,hg];rw[Bool.eq_iff_iff];simp);obtain⟨_,_,rfl,_⟩:=h.shape;obtain⟨_,_,rfl,_⟩:=hv.shape;clear hg h hl hI hv hs;go_in;go_wp2_with (go_at_call 270;refine(Cc _ _ hx).mono ?_;rintro e w' ⟨rfl,rfl⟩;rw[V.out]);go_ret;exact⟨AK G.out.symm,Below.refl _ _⟩
 ·have V:=AA (Di hg)
  have hF:=DZ hg;have G:=OK (infos:=xs) (f:=f) (kind:=kind) (ss:=ss) hg;have hxl:Ax x<xs.length:=by omega
  have HC:=AA (KY rv ss (infoAt xs (Ax x)).g w hv hs (hI _ (List.mem_of_getElem? (Bo hxl))));obtain⟨a,c,rfl,_,_,H⟩:=A3.open As (by decide) h;obtain⟨b,off,rfl,hbl,D0,D1,_⟩:=H.infoCells hxl;obtain⟨_,_,rfl,_⟩:=hv.shape;generalize Ax x=o at*;generalize Ca ss (infoAt xs o).g=mb at HC G;have hol:(o:Int)<xs.length:=by omega
  clear hg h hl hI hv hs H hxl hF
  by_cases e1:o=f
  ·have t1:((o:Int) !=(f:Int))=false:=by simp[e1]
   have R:=AA (show Et xs f kind ss x=false by rw[G];simp[e1]);clear G e1;go_in;go_wp2_with (go_at_call 270;refine(Cc _ _ hx).mono ?_;rintro e w' ⟨rfl,rfl⟩;rw[V.out]);go_ret;exact⟨AK R.out.symm,Below.refl _ _⟩
  ·have t1:((o:Int) !=(f:Int))=true:=by simp;omega
   by_cases e2:(infoAt xs o).k=kind - 1
   ·have t2:((infoAt xs o).k==kind - 1)=true:=by simp[e2]
    have R:=AA (show Et xs f kind ss x=mb by rw[G];simp[e1,e2]);clear G e1 e2;go_in;go_wp2_with (go_at_call 270;refine(Cc _ _ hx).mono ?_;rintro e w' ⟨rfl,rfl⟩;rw[V.out]);refine HC.out.mono ?_;rintro e w2 ⟨rfl,b2⟩;go_wp2_with fail;go_ret;exact⟨AK R.out.symm,b2⟩
   ·have t2:((infoAt xs o).k==kind - 1)=false:=by simp[e2]
    have R:=AA (show Et xs f kind ss x=false by rw[G];simp[e2]);clear G e1 e2;go_in;go_wp2_with (go_at_call 270;refine(Cc _ _ hx).mono ?_;rintro e w' ⟨rfl,rfl⟩;rw[V.out]);go_ret;exact⟨AK R.out.symm,Below.refl _ _⟩
theorem SX {m:List (List Int)} (hm:Bg m=true) {f:Nat} (hf:f<12) {k:Nat} (hk:k<4):(AL m f)[k]? =some (Am m f k):=by have:=(BG.1 ((Af.1 hm).2 f hf)).1;unfold Am;exact A8 (by omega)
theorem Vs {m:List (List Int)} (hm:Bg m=true) {f:Nat} (hf:f<12) {k:Nat} (hk:k<4):Am m f k≤9223372036854775807:=by obtain⟨h4,hw⟩:=BG.1 ((Af.1 hm).2 f hf);have:=(hw _ (List.mem_of_getElem? (SX hm hf hk))).2;omega
theorem Ta (v iv rv:Value) (m:List (List Int)) (xs:List AQ) (f:Nat) (kind:Int) (ss:List ByteArray) (w:World) (h:BJ w v m) (hm:Bg m=true) (hI:BH w iv xs) (hl:xs.length=12) (hsI:HY xs) (hf:f<12) (hk:Ba kind=true) (hv:BC w rv ss) (hs:EB ss):
 Calls prog 216 #[v,iv, .int .i64 f, .int .i64 kind,rv] w fun e w'=>e= .returned (.bool (Gv m xs f kind ss))∧Below w.heap.size w w':=by
 have hk2:2≤kind∧kind≤3:=by simp only[Ba,Bool.or_eq_true,decide_eq_true_eq] at hk;omega
 have CE:=AA (fun(x:Int) (hx:x≤9223372036854775807) W (hW:Below w.heap.size w W)=>PQ iv rv xs f x kind ss W (A3.below hI hW) hl hsI (A3.below hv hW) hs hx hk2);have Hm:=AA hm;have Hrl:=AA (BG.1 ((Af.1 hm).2 f hf)).1;have hml:=(Af.1 hm).1;obtain⟨a,c,rfl,_,_,H⟩:=h.open;obtain⟨_,_,rfl,_⟩:=hI.shape;obtain⟨_,_,rfl,_⟩:=hv.shape;have HH:=AA H;have hfl:(f:Int)<m.length:=by omega
 clear h hm hI hl hsI hk hv hs hk2 hml H;go_in;go_wp2_with fail;go_loopw [11] (fun ix wr=>∃k:Nat,k≤4∧ix= .int .i64 k∧(∀j,j<k→Et xs f kind ss (Am m f j)=true)∧Below w.heap.size w wr) (fun ix _=>4 - (intOf ix).toNat)
 case atStart=>exact⟨0,Nat.zero_le _,rfl,fun j hj=>absurd hj (Nat.not_lt_zero _),Below.refl _ _⟩
 case round=>
  obtain⟨k,hk,rfl,hpre,hb⟩:=hrel;have Hpre:=AA hpre;clear hpre
  by_cases hlt:k<4
  ·have hlti:(k:Int)<(4:Int):=by omega
   obtain⟨b,off,b2,off2,c2,rfl,hbl,D,hbl2,hc4,W0⟩:=(HH.out.below hb).row4 Hm.out hf;have D2:=W0 k hlt;have C:=AA (CE.out (Am m f k) (Vs Hm.out hf hlt) wr hb);clear W0;cases hp:Et xs f kind ss (Am m f k)
   ·have S:=AA (show Gv m xs f kind ss=false from Mh (SX Hm.out hf hlt) hp)
    have Hp:=AA hp;clear hp;go_wp2_with fail;refine C.out.mono ?_;rintro e w2 ⟨rfl,b2⟩;rw[Hp.out];go_wp2_with fail;go_ret;exact⟨AK S.out.symm,hb.trans (b2.mono hb.size)⟩
   ·have Hp:=AA hp
    clear hp;go_wp2_with fail;refine C.out.mono ?_;rintro e w2 ⟨rfl,b2⟩;rw[Hp.out];go_wp2_with fail;go_roundw
    case rel=>exact⟨k+1,by omega,by go_num,Ay Hpre.out Hp.out,hb.trans (b2.mono hb.size)⟩
    case measure=>simp[intOf];omega
  ·have ek:k=4:=by omega
   have hpre:=Hpre.out;rw[ek] at hpre;have S:=AA (show Gv m xs f kind ss=true from Kj (f:=Am m f) (fun k hk=>SX Hm.out hf (by have:=Hrl.out;omega)) (fun j hj=>hpre j (by have:=Hrl.out;omega)));clear Hpre hpre;go_wp2_with fail;go_ret;exact⟨AK S.out.symm,hb⟩
theorem Rz {infos:List AQ} {fs:List Nat} {n:Int} {j:Nat} (hj:j<fs.length):Aw infos (fs.take (j+1)) n=(Aw infos (fs.take j) n).set (Ix fs j) (DK n (infoAt (Aw infos (fs.take j) n) (Ix fs j))):=by unfold Aw;rw[Cv (Gd hj),List.foldl_append];exact Fu
theorem Mw (v iv:Value) (m:List (List Int)) (xs:List AQ) (f:Nat) (n:Int) (w:World) (h:BJ w v m) (hm:Bg m=true) (hI:BH w iv xs) (hio:A0 xs=true) (hf:f<12) (hn:n=1∨n= -1):
 Calls prog 361 #[v,iv, .int .i64 f, .int .i64 n] w fun e w'=>∃v',e= .returned v'∧AJ w.heap.size 135 3 Ag w' v' (Aw xs (named (AL m f)) n)∧Below w.heap.size w w':=by
 have Hl:=AA (At.1 hio).1;have hml:=(Af.1 hm).1;have HR:=AA (fun W (hW:Below w.heap.size w W)=>A3.below hI hW);have Hrow:=AA (fun W (hW:Below w.heap.size w W)=>h.below hW);have hrl:=(BG.1 ((Af.1 hm).2 f hf)).1;have CN:=AA (fun u W hu=>IM u (AL m f) W hu (by omega) (K9 hm hf));have h4:=PW hm hf;have H12:=AA (fun g (hg:g∈named (AL m f))=>FL hg);have Hio:=AA hio;have Hn:=AA hn;have hnb: -1≤n∧n≤1:=by omega
 obtain⟨am,cm,rfl,_,_,_⟩:=h.open;obtain⟨ai,ci,rfl,_,_⟩:=hI.shape;have hfm:(f:Int)<m.length:=by omega
 have hfl:f<m.length:=by omega
 generalize named (AL m f)=fs at*;clear h hm hI hio hn hrl hml;go_in;go_wp2_with (at_builtin;go_must (refine Eu (cs:=Ag) rfl rfl 135 (.agg #[.int .i64 0, .string ⟨#[]⟩, .int .i64 0]) 3 32 underlying25 Tryz.infoInfoK rfl (by decide) rfl (CY Ag _ _ _) rfl (HR.out _ (AG _ _)) (EZ _) (by have:=Hl.out;omega) (by decide) (by simp) ?_;intro v' w9 hO hb9));have hb1:=(AG w _).trans hb9;obtain⟨q,cap,rfl,c1,c2,q1,q2,hfz⟩:=hO.shapeOwn (by have:=Hl.out;omega);unfold maxLen at c2;have HO:=AA hO;have Hb1:=AA hb1;obtain⟨a9,c9,e9,_,_,H9⟩:=(Hrow.out _ hb1).open;simp only[Value.slice.injEq] at e9;obtain⟨rfl,_,rfl⟩:=e9;obtain⟨b,off,u,rfl,hbl,D,hR⟩:=H9 f hfl;have C:=AA (CN.out u w9 hR);obtain⟨_,_,rfl,_⟩:=hR.open;have hn0:¬(f:Int)<0:=by omega
 clear hO hb9 hb1 H9 hR CN hfz;go_wp2_with fail;refine C.out.mono ?_;rintro e w1 ⟨v1,rfl,o1,b1⟩;obtain⟨a1,c1',rfl,hc1⟩:=D5 o1;have HO1:=AA (HO.out.below b1);have Ho1:=AA o1;have Hw1:=AA (Hb1.out.trans (b1.mono Hb1.out.size));clear o1 b1 C D;go_wp2_with fail;go_loopw [11] (fun ix wr=>∃k:Nat,k≤fs.length∧ix= .int .i64 k∧AJ w.heap.size 135 3 Ag wr (.slice (some ⟨q,0,none⟩) xs.length cap) (Aw xs (fs.take k) n)∧AE w9.heap.size wr (.slice a1 fs.length c1') (Ak fs)∧Below w.heap.size w wr) (fun ix _=>fs.length - (intOf ix).toNat)
 case atStart=>exact⟨0,Nat.zero_le _,rfl,by simpa[Aw] using HO1.out,Ho1.out,Hw1.out⟩
 case round=>
  obtain⟨k,hk,rfl,hO,o1,hb⟩:=hrel
  by_cases hlt:k<fs.length
  ·have hlti:(k:Int)<(fs.length:Int):=by omega
   obtain⟨a2,c2',e2,_,_,H1⟩:=(AE.rd o1).open;simp only[Value.slice.injEq] at e2;obtain⟨rfl,e2,rfl⟩:=e2;clear e2;obtain⟨b1,off1,rfl,D⟩:=H1.at (k:=k) (by rw[Ce];exact hlt);rw[PM] at D;have hlb1:=(World.ownsRow.lt o1 b1 rfl).2;have ho:=H12.out _ (List.mem_of_getElem? (Gd hlt));have RN:=Rz (infos:=xs) (n:=n) hlt;obtain⟨r1,r2,_⟩:=IQ Hio.out (fs:=fs.take k) (by rw[List.length_take];omega) Hn.out ho;have hlX:(Aw xs (fs.take k) n).length=xs.length:=G7;rw[←hlX] at hO;generalize Aw xs (fs.take k) n=X at*;generalize Ix fs k=o at*;have hoX:o<X.length:=by rw[hlX,Hl.out];exact ho
   have hol:(o:Int)<xs.length:=by rw[Hl.out];omega
   have ho0:¬(o:Int)<0:=by omega
   obtain⟨_,_,d2⟩:=AJ.infoCells hO hoX;have hq:=(World.ownsRow.lt hO q rfl).2;have HOX:=AA hO;have HoX:=AA (Bo hoX);have HlX:=AA hlX;have Ho1k:=AA o1;have E:=AA RN;have Hb:=AA hb;clear RN hO o1 hb H1 hlX hoX;go_wp2_with fail;refine AH 17 mixed (by kernel_rfl) 44 rfl (by kernel_rfl) (fun ix vv ww=>match ix with
    |0=>vv= .slice (some ⟨q,0,none⟩) xs.length cap
    |1=>vv= .slice (some ⟨b1,off1,none⟩) fs.length c1'
    |2=>vv= .int .i64 k
    |3=>vv= .pointer (some ⟨b1,off1+k,none⟩)
    |4=>vv= .int .i64 o
    |5=>vv= .slice (some ⟨q,0,none⟩) xs.length cap
    |6=>vv= .slice (some ⟨b1,off1,none⟩) fs.length c1'
    |7=>vv= .int .i64 k
    |8=>vv= .pointer (some ⟨b1,off1+k,none⟩)
    |9=>vv= .int .i64 o
    |10=>vv= .pointer (some ⟨q,o*3,none⟩)
    |11=>vv= .pointer (some ⟨q,o*3+2,none⟩)
    |12=>vv= .int .i64 ((infoAt X o).r)
    |13=>vv= .int .i64 n
    |14=>vv= .int .i64 ((infoAt X o).r+n)
    |15=>vv= .pointer (some ⟨q,o*3,none⟩)
    |16=>vv= .pointer (some ⟨q,o*3+2,none⟩)
    |_=>True) ?_ ?_ ?_
   ·intro i hi vv wz ww' hbz hz
    match i,hi with
    |0,_|1,_|2,_|3,_|4,_|5,_|6,_|7,_|8,_|9,_|10,_|11,_|12,_|13,_|14,_|15,_|16,_=>exact hz
    |_+17,hq=>exact absurd hq (by omega)
   ·intro i hi o ho a wx Hb Hd hG K HK
    match i,hi with
    |0,_=>exact eM ho HK (eb (Aj Hb 9))
    |1,_=>exact eM ho HK (eb (Aj Hb 10))
    |2,_=>exact eM ho HK (eb (Aj Hb 11))
    |3,_=>obtain rfl:=So_ ho;have d1:(a.tmps[27]?.getD undef)= .slice (some ⟨b1,off1,none⟩) fs.length c1':=AD Hd 1;have d2:(a.tmps[28]?.getD undef)= .int .i64 k:=AD Hd 2;clear Hd Hb;refine AI.of rfl ?_;go_simp;exact HK.out _ _ rfl (Below.refl _ _)
    |4,_=>exact eL ho HK (et (AD Hd 3)) (DA (bc hG hlb1 D))
    |5,_=>exact eM ho HK (eb (Aj Hb 9))
    |6,_=>exact eM ho HK (eb (Aj Hb 10))
    |7,_=>exact eM ho HK (eb (Aj Hb 11))
    |8,_=>obtain rfl:=So_ ho;have d6:(a.tmps[32]?.getD undef)= .slice (some ⟨b1,off1,none⟩) fs.length c1':=AD Hd 6;have d7:(a.tmps[33]?.getD undef)= .int .i64 k:=AD Hd 7;clear Hd Hb;refine AI.of rfl ?_;go_simp;exact HK.out _ _ rfl (Below.refl _ _)
    |9,_=>exact eL ho HK (et (AD Hd 8)) (DA (bc hG hlb1 D))
    |10,_=>obtain rfl:=So_ ho;have d5:(a.tmps[31]?.getD undef)= .slice (some ⟨q,0,none⟩) xs.length cap:=AD Hd 5;have d9:(a.tmps[35]?.getD undef)= .int .i64 o:=AD Hd 9;clear Hd Hb;refine AI.of rfl ?_;go_simp;exact HK.out _ _ rfl (Below.refl _ _)
    |11,_=>exact eF ho HK GW (et (AD Hd 10))
    |12,_=>exact eL ho HK (et (AD Hd 11)) (DA (bc hG hq d2))
    |13,_=>exact eM ho HK (eb (Aj Hb 3))
    |14,_=>obtain rfl:=So_ ho;have d12:(a.tmps[38]?.getD undef)= .int .i64 ((infoAt X o).r):=AD Hd 12;have d13:(a.tmps[39]?.getD undef)= .int .i64 n:=AD Hd 13;clear Hd Hb;refine AI.of rfl ?_;go_simp;exact HK.out _ _ (by show Value.int .i64 (IntKind.i64.wrap _)=_;rw[IntWalk.i64_in _ (by omega)]) (Below.refl _ _)
    |15,_=>obtain rfl:=So_ ho;have d0:(a.tmps[26]?.getD undef)= .slice (some ⟨q,0,none⟩) xs.length cap:=AD Hd 0;have d4:(a.tmps[30]?.getD undef)= .int .i64 o:=AD Hd 4;clear Hd Hb;refine AI.of rfl ?_;go_simp;exact HK.out _ _ rfl (Below.refl _ _)
    |16,_=>exact eF ho HK GW (et (AD Hd 15))
    |_+17,hq=>exact absurd hq (by omega)
   ·intro vs wx hR hG
    have q14:(vs 14)= .int .i64 ((infoAt X o).r+n):=BI hR 14;have q16:(vs 16)= .pointer (some ⟨q,o*3+2,none⟩):=BI hR 16;clear hR;simp only[Ai,AX,List.range,List.range.loop,List.foldl_cons,List.foldl_nil,q14,q16];simp;clear q14 q16;have S2w:=AA (AJ.stored1 As (HOX.out.below hG) HoX.out (j:=2) (by decide) (y:=DK n (infoAt X o)) (u:= .int .i64 ((infoAt X o).r+n)) rfl);have hbg:=AA (Hb.out.trans (hG.mono Hb.out.size));have Fw:wx.frozen? ⟨q,o*3+2,none⟩=false:=World.ownsRow.frozenAt (HOX.out.below hG) (o*3+2);obtain⟨cur,hcur⟩:=Bf (HOX.out.below hG) q rfl;have N2:=AA (Ek (Ho1k.out.below hG) S2w.out.2 hcur (by decide));have hqw:q<wx.heap.size:=(World.ownsRow.lt (HOX.out.below hG) q rfl).2;rw[HlX.out] at S2w;have d2w:=(hG.cell (p:=⟨q,o*3+2,none⟩) hq).trans d2;clear hG hcur d2 D;go_wp2_with fail;go_roundw
    case rel=>exact⟨k+1,by omega,by go_num,by rw[E.out];exact S2w.out.1,N2.out,AT hbg.out S2w.out.2 q1 hbg.out.size⟩
    case measure=>simp[intOf];omega
  ·obtain rfl:k=fs.length:=by omega
   rw[List.take_length] at hO;go_wp2_with fail;go_ret;exact⟨_,rfl,hO,hb⟩
theorem Mu {xs:List AQ} {f:Nat} {kind:Int} (h:A0 xs=true) (hf:f<12) (hk0:(infoAt xs f).k≠0) (hk:1≤kind∧kind≤3):A0 (AV xs f (Cu kind))=true:=by
 obtain⟨hl,h2⟩:=At.1 h;refine At.2 ⟨by rw[Au];exact hl,fun g hg=>?_⟩;rw[Ej]
 split
 ·have:=h2 f hf
  rw[Kc hk0] at this;rw[Kc (x:=Cu kind _) (by show kind≠0;omega)]
  show(Bk kind 1 3&&A4 (infoAt xs f).g&&Bk (infoAt xs f).r 0 50)=true
  simp only[Bool.and_eq_true] at this ⊢;exact⟨⟨AZ.2 hk,this.1.2⟩,this.2⟩
 ·exact h2 g hg
theorem Nt (v iv rv:Value) (m:List (List Int)) (xs:List AQ) (f:Nat) (kind:Int) (ss:List ByteArray) (w:World) (h:BJ w v m) (hok:Bg m=true) (hI:BH w iv xs) (hio:A0 xs=true) (hf:f<12) (hk:Ba kind=true) (hv:BC w rv ss) (hss:EB ss) (hr:A2 ss=true):
 Calls prog 335 #[v,iv, .int .i64 f, .int .i64 kind,rv] w (KP (FU m xs f kind ss) w):=by
 have hl:=(At.1 hio).1;have hk2:2≤kind∧kind≤3:=by simp only[Ba,Bool.or_eq_true,decide_eq_true_eq] at hk;omega
 have hr0:=(F5 ((At.1 hio).2 f hf)).2.1;have C1:=AA (fun W (hW:Below w.heap.size w W)=>Lq v iv m xs f W (h.below hW) hok (A3.below hI hW) hio hf);have C3:=AA (fun W (_:Below w.heap.size w W)=>Ae (by have:=F6 kind W;rw[hk] at this;exact this));have C4:=AA (fun W (hW:Below w.heap.size w W)=>by have:=GL rv ss W (A3.below hv hW) hss;rw[hr] at this;exact this);have C7:=AA (fun W (hW:Below w.heap.size w W)=>Ta v iv rv m xs f kind ss W (h.below hW) hok (A3.below hI hW) hl (Bh hio) hf hk (A3.below hv hW) hss);have HR:=AA (fun W (hW:Below w.heap.size w W)=>A3.below hI hW);have SM:=AA (J0 (kind:=kind) hok hio hf (.inl (rfl:(1:Int)=1)));have PN:=AA (Pb (m:=m) (infos:=xs) (f:=f) (kind:=kind) (ss:=ss));have CAdd0:=AA (fun(hk1:(infoAt xs f).k=1) W (hW:Below w.heap.size w W) u (hu:BH W u (AV xs f (Cu kind)))=>Mw v u m (AV xs f (Cu kind)) f 1 W (h.below hW) hok hu (Mu hio hf (by omega) (by omega)) hf (.inl rfl));obtain⟨ai,ci,rfl,hci,hcim,H2⟩:=A3.open As (by decide) hI;obtain⟨bi,offi,rfl,hbi,D0,_,D2⟩:=H2.infoCells (show f<xs.length by omega);obtain⟨_,_,rfl,_⟩:=h.open;obtain⟨_,_,rfl,_⟩:=hv.shape;have hfl:(f:Int)<xs.length:=by omega
 have Hl:=AA hl;have hb:=Below.refl w.heap.size w;clear h hok hI hio hk hv hss hr hl H2;go_in;go_wp2_with fail;refine(C1.out _ hb).mono ?_;rintro e w_ ⟨rfl,hb_⟩;replace hb:=hb.trans (hb_.mono hb.size);clear hb_;go_wp2_with fail;refine(C3.out _ hb).mono ?_;rintro e w_ ⟨rfl,hb_⟩;replace hb:=hb.trans (hb_.mono hb.size);clear hb_;go_wp2_with fail;refine(C4.out _ hb).mono ?_;rintro e w4 ⟨rfl,n4,rfl⟩;replace hb:=hb.trans (Ar (Below.refl _ _) n4|>.mono hb.size);have Hb:=AA hb
 by_cases e1:(infoAt xs f).k=1
 ·by_cases e2:(infoAt xs f).r=0
  ·have t1:((infoAt xs f).k !=1)=false:=by simp[e1]
   have t2:¬0<(infoAt xs f).r:=by omega
   have P:=AA (show FU m xs f kind ss=if Gv m xs f kind ss=false then(xs,2)
    else if A0 (AV (Aw xs (named (AL m f)) 1) f (Cu kind)) then(AV (Aw xs (named (AL m f)) 1) f (Cu kind),0) else(xs,1) by rw[PN.out,if_neg (by simp[e1,e2])])
   have CAdd:=AA (CAdd0.out e1);clear e1 e2 CAdd0 PN hr0;go_wp2_with (at_builtin;go_must (refine Eu (cs:=Ag) rfl rfl 135 (.agg #[.int .i64 0, .string ⟨#[]⟩, .int .i64 0]) 3 32 underlying25 Tryz.infoInfoK rfl (by decide) rfl (CY Ag _ _ _) rfl (HR.out _ (Hb.out.trans ((AG _ _).mono Hb.out.size))) (EZ _) (by have:=Hl.out;omega) (by decide) (by simp) ?_;intro v' w9 hO hb9;have Hb9:=AA ((Hb.out.trans ((AG _ _).mono Hb.out.size)).trans (hb9.mono Hb.out.size));replace D0:=(Hb9.out.cell (p:=⟨bi,offi+f*3,none⟩) hbi).trans D0;replace D2:=(Hb9.out.cell (p:=⟨bi,offi+f*3+2,none⟩) hbi).trans D2;clear hb9));refine(C7.out _ Hb9.out).mono ?_;rintro e w10 ⟨rfl,b10⟩;replace hO:=AJ.below hO b10;have Hb9':=AA (Hb9.out.trans (b10.mono Hb9.out.size));clear b10 D0 D2;cases hg:Gv m xs f kind ss
   ·have P2:=AA (show FU m xs f kind ss=(xs,2) by rw[P.out,hg];rfl)
    clear hg;have HO:=AA hO;clear hO;go_wp2_with fail;go_ret2;exact⟨_,by rw[P2.out];rfl,by rw[P2.out];exact HO.out.lower Hb.out.size,Hb9'.out⟩
   ·have P2:=AA (show FU m xs f kind ss=if A0 (AV (Aw xs (named (AL m f)) 1) f (Cu kind)) then(AV (Aw xs (named (AL m f)) 1) f (Cu kind),0) else(xs,1) by rw[P.out,hg];rfl)
    clear hg;obtain⟨q,cap,rfl,c1,c2,q1,q2,hfz⟩:=hO.shapeOwn (by have:=Hl.out;omega);unfold maxLen at c2;obtain⟨d0,_,_⟩:=AJ.infoCells hO (show f<xs.length by have:=Hl.out;omega);have Fr:=hfz (f*3);have S0:=AJ.stored1 As hO (Bo (show f<xs.length by have:=Hl.out;omega)) (j:=0) (by decide) (y:=Cu kind (infoAt xs f)) (u:= .int .i64 kind) rfl;rw[Nat.add_zero] at S0;have hb10:=AT Hb9'.out S0.2 (Nat.le_trans Hb.out.size q1) Hb9'.out.size;rw[←Fu (f:=Cu kind)] at S0;have S:=AA (AJ.lower S0.1 Hb.out.size);have hn0:¬(f:Int)<0:=by omega
    clear S0 hO hfz;go_wp2_with fail;generalize hwN:w10.setCell _ _=wN at*;clear d0 Fr hwN q2;have hXl:(AV xs f (Cu kind)).length=xs.length:=Au;have CA:=CAdd.out wN hb10 (.slice (some ⟨q,0,none⟩) xs.length cap) (AJ.rd S.out);clear hXl;refine CA.mono ?_;rintro e w11 ⟨v11,rfl,o11,b11⟩;rw[←Lr] at o11;have hb11:=hb10.trans (b11.mono hb10.size);have O11:=AA (AJ.lower o11 hb10.size);have R11:=AJ.rd o11;clear o11 b11 S;generalize hM:AV (Aw xs (named (AL m f)) 1) f (Cu kind)=M at*;have C9:=EH v11 M w11 R11 SM.out;obtain⟨a11,c11,rfl,_,_⟩:=R11.shape;cases hq:A0 M
    ·have P3:=AA (show FU m xs f kind ss=(xs,1) by rw[P2.out,hq];rfl)
     rw[hq] at C9;have C:=AA C9;have Hb11:=AA hb11;clear C9 hq R11 hb11 hb10;go_wp2_with fail;refine(C.out).mono ?_;rintro e w12 ⟨rfl,b12⟩;have hb12:=Hb11.out.trans (b12.mono Hb11.out.size);have Hb12:=AA hb12;clear b12 hb12 c1 c2;go_wp2_with (at_builtin;go_must (refine Eu (cs:=Ag) rfl rfl 135 (.agg #[.int .i64 0, .string ⟨#[]⟩, .int .i64 0]) 3 32 underlying25 Tryz.infoInfoK rfl (by decide) rfl (CY Ag _ _ _) rfl (HR.out _ (Hb12.out.trans ((AG _ _).mono Hb12.out.size))) (EZ _) (by have:=Hl.out;omega) (by decide) (by simp) ?_;intro v' w9 hO hb9));have hb13:=(Hb12.out.trans ((AG _ _).mono Hb12.out.size)).trans (hb9.mono Hb12.out.size);have HO:=AA (hO.lower Hb12.out.size);have HB13:=AA hb13;clear hO hb9 hb13;go_wp2_with fail;go_ret2;exact⟨_,by rw[P3.out];rfl,by rw[P3.out];exact HO.out,HB13.out⟩
    ·have P3:=AA (show FU m xs f kind ss=(M,0) by rw[P2.out,hq];rfl)
     rw[hq] at C9;have C:=AA C9;have Hb11:=AA hb11;clear C9 hq R11 hb11 hb10;go_wp2_with fail;refine(C.out).mono ?_;rintro e w12 ⟨rfl,b12⟩;have hb12:=Hb11.out.trans (b12.mono Hb11.out.size);have O12:=AA (O11.out.below b12);clear b12 c1 c2;go_wp2_with fail;go_ret2;exact⟨_,by rw[P3.out];rfl,by rw[P3.out];exact O12.out,hb12⟩
  ·have t1:((infoAt xs f).k !=1)=false:=by simp[e1]
   have t2:0<(infoAt xs f).r:=by omega
   have P2:=AA (show FU m xs f kind ss=(xs,1) by rw[PN.out,if_pos (.inr e2)]);clear e1 e2 CAdd0 PN hr0;go_wp2_with (at_builtin;go_must (refine Eu (cs:=Ag) rfl rfl 135 (.agg #[.int .i64 0, .string ⟨#[]⟩, .int .i64 0]) 3 32 underlying25 Tryz.infoInfoK rfl (by decide) rfl (CY Ag _ _ _) rfl (HR.out _ (Hb.out.trans ((AG _ _).mono Hb.out.size))) (EZ _) (by have:=Hl.out;omega) (by decide) (by simp) ?_;intro v' w9 hO hb9;have Hb9:=AA ((Hb.out.trans ((AG _ _).mono Hb.out.size)).trans (hb9.mono Hb.out.size));replace D0:=(Hb9.out.cell (p:=⟨bi,offi+f*3,none⟩) hbi).trans D0;replace D2:=(Hb9.out.cell (p:=⟨bi,offi+f*3+2,none⟩) hbi).trans D2;clear hb9));go_ret2;exact⟨_,by rw[P2.out];rfl,by rw[P2.out];exact hO.lower Hb.out.size,Hb9.out⟩
 ·have t1:((infoAt xs f).k !=1)=true:=by simp[e1]
  have P2:=AA (show FU m xs f kind ss=(xs,1) by rw[PN.out,if_pos (.inl e1)]);clear e1 CAdd0 PN hr0;go_wp2_with (at_builtin;go_must (refine Eu (cs:=Ag) rfl rfl 135 (.agg #[.int .i64 0, .string ⟨#[]⟩, .int .i64 0]) 3 32 underlying25 Tryz.infoInfoK rfl (by decide) rfl (CY Ag _ _ _) rfl (HR.out _ (Hb.out.trans ((AG _ _).mono Hb.out.size))) (EZ _) (by have:=Hl.out;omega) (by decide) (by simp) ?_;intro v' w9 hO hb9;have Hb9:=AA ((Hb.out.trans ((AG _ _).mono Hb.out.size)).trans (hb9.mono Hb.out.size));replace D0:=(Hb9.out.cell (p:=⟨bi,offi+f*3,none⟩) hbi).trans D0;clear hb9));go_ret2;exact⟨_,by rw[P2.out];rfl,by rw[P2.out];exact hO.lower Hb.out.size,Hb9.out⟩
theorem ME (v iv:Value) (m:List (List Int)) (xs:List AQ) (f:Nat) (w:World) (h:BJ w v m) (hok:Bg m=true) (hI:BH w iv xs) (hio:A0 xs=true) (hf:f<12):
 Calls prog 336 #[v,iv, .int .i64 f] w (KP (Cw m xs f) w):=by
 have hl:=(At.1 hio).1;have hr0:=(F5 ((At.1 hio).2 f hf)).2.1;have C1:=AA (fun W (hW:Below w.heap.size w W)=>Lq v iv m xs f W (h.below hW) hok (A3.below hI hW) hio hf);have HR:=AA (fun W (hW:Below w.heap.size w W)=>A3.below hI hW);have SM:=AA (J0 (kind:=1) hok hio hf (.inr (rfl:(-1:Int)= -1)));have PN:=AA (K6 (m:=m) (infos:=xs) (f:=f));have CAdd0:=AA (fun(hk1:Ba (infoAt xs f).k=true) W (hW:Below w.heap.size w W) u (hu:BH W u (AV xs f (Cu 1)))=>Mw v u m (AV xs f (Cu 1)) f (-1) W (h.below hW) hok hu (Mu hio hf (by intro e;rw[e] at hk1;cases hk1) (by omega)) hf (.inr rfl));obtain⟨ai,ci,rfl,hci,hcim,H2⟩:=A3.open As (by decide) hI;obtain⟨bi,offi,rfl,hbi,D0,_,D2⟩:=H2.infoCells (show f<xs.length by omega);obtain⟨_,_,rfl,_⟩:=h.open;have hfl:(f:Int)<xs.length:=by omega
 have Hl:=AA hl;have hb:=Below.refl w.heap.size w;have CK:=AA (fun W=>F6 (infoAt xs f).k W);clear h hok hI hio hl H2;go_in;go_wp2_with fail;refine(C1.out _ hb).mono ?_;rintro e w_ ⟨rfl,hb_⟩;replace hb:=hb.trans (hb_.mono hb.size);clear hb_;have Hb:=AA hb;clear hb;go_wp2_with (at_builtin;go_must (refine Eu (cs:=Ag) rfl rfl 135 (.agg #[.int .i64 0, .string ⟨#[]⟩, .int .i64 0]) 3 32 underlying25 Tryz.infoInfoK rfl (by decide) rfl (CY Ag _ _ _) rfl (HR.out _ (Hb.out.trans ((AG _ _).mono Hb.out.size))) (EZ _) (by have:=Hl.out;omega) (by decide) (by simp) ?_;intro v' w9 hO hb9;have Hb9:=AA ((Hb.out.trans ((AG _ _).mono Hb.out.size)).trans (hb9.mono Hb.out.size));replace D0:=(Hb9.out.cell (p:=⟨bi,offi+f*3,none⟩) hbi).trans D0;replace D2:=(Hb9.out.cell (p:=⟨bi,offi+f*3+2,none⟩) hbi).trans D2;clear hb9));have Hb9':=Hb9;refine(CK.out _).mono ?_;rintro e w10 ⟨rfl,rfl⟩;cases e1:Ba (infoAt xs f).k
 ·have P2:=AA (show Cw m xs f=(xs,1) by rw[PN.out,if_pos (.inl e1)])
  clear e1 CAdd0 PN hr0;have HO:=AA hO;clear hO;go_wp2_with fail;go_ret2;exact⟨_,by rw[P2.out];rfl,by rw[P2.out];exact HO.out.lower Hb.out.size,Hb9.out⟩
 ·by_cases e2:(infoAt xs f).r=0
  ·have t2:¬0<(infoAt xs f).r:=by omega
   have P2:=AA (show Cw m xs f=if A0 (AV (Aw xs (named (AL m f)) (-1)) f (Cu 1)) then(AV (Aw xs (named (AL m f)) (-1)) f (Cu 1),0) else(xs,2) by rw[PN.out,if_neg (by simp[e1,e2])]);have CAdd:=AA (CAdd0.out e1);clear e1 e2 CAdd0 PN hr0;obtain⟨w10,rfl⟩:∃w10:World,w10=w9:=⟨_,rfl⟩
   obtain⟨q,cap,rfl,c1,c2,q1,q2,hfz⟩:=hO.shapeOwn (by have:=Hl.out;omega);unfold maxLen at c2;obtain⟨d0,_,_⟩:=AJ.infoCells hO (show f<xs.length by have:=Hl.out;omega);have Fr:=hfz (f*3);have S0:=AJ.stored1 As hO (Bo (show f<xs.length by have:=Hl.out;omega)) (j:=0) (by decide) (y:=Cu 1 (infoAt xs f)) (u:= .int .i64 1) rfl;rw[Nat.add_zero] at S0;have hb10:=AT Hb9'.out S0.2 (Nat.le_trans Hb.out.size q1) Hb9'.out.size;rw[←Fu (f:=Cu 1)] at S0;have S:=AA (AJ.lower S0.1 Hb.out.size);have hn0:¬(f:Int)<0:=by omega
   clear S0 hO hfz;go_wp2_with fail;generalize hwN:w10.setCell _ _=wN at*;clear d0 Fr hwN q2;have hXl:(AV xs f (Cu 1)).length=xs.length:=Au;have CA:=CAdd.out wN hb10 (.slice (some ⟨q,0,none⟩) xs.length cap) (AJ.rd S.out);clear hXl;refine CA.mono ?_;rintro e w11 ⟨v11,rfl,o11,b11⟩;rw[←Lr] at o11;have hb11:=hb10.trans (b11.mono hb10.size);have O11:=AA (AJ.lower o11 hb10.size);have R11:=AJ.rd o11;clear o11 b11 S;generalize hM:AV (Aw xs (named (AL m f)) (-1)) f (Cu 1)=M at*;have C9:=EH v11 M w11 R11 SM.out;obtain⟨a11,c11,rfl,_,_⟩:=R11.shape;cases hq:A0 M
   ·have P3:=AA (show Cw m xs f=(xs,2) by rw[P2.out,hq];rfl)
    rw[hq] at C9;have C:=AA C9;have Hb11:=AA hb11;clear C9 hq R11 hb11 hb10;go_wp2_with fail;refine(C.out).mono ?_;rintro e w12 ⟨rfl,b12⟩;have hb12:=Hb11.out.trans (b12.mono Hb11.out.size);have Hb12:=AA hb12;clear b12 hb12 c1 c2;go_wp2_with (at_builtin;go_must (refine Eu (cs:=Ag) rfl rfl 135 (.agg #[.int .i64 0, .string ⟨#[]⟩, .int .i64 0]) 3 32 underlying25 Tryz.infoInfoK rfl (by decide) rfl (CY Ag _ _ _) rfl (HR.out _ (Hb12.out.trans ((AG _ _).mono Hb12.out.size))) (EZ _) (by have:=Hl.out;omega) (by decide) (by simp) ?_;intro v' w9 hO hb9));have hb13:=(Hb12.out.trans ((AG _ _).mono Hb12.out.size)).trans (hb9.mono Hb12.out.size);have HO:=AA (hO.lower Hb12.out.size);have HB13:=AA hb13;clear hO hb9 hb13;go_wp2_with fail;go_ret2;exact⟨_,by rw[P3.out];rfl,by rw[P3.out];exact HO.out,HB13.out⟩
   ·have P3:=AA (show Cw m xs f=(M,0) by rw[P2.out,hq];rfl)
    rw[hq] at C9;have C:=AA C9;have Hb11:=AA hb11;clear C9 hq R11 hb11 hb10;go_wp2_with fail;refine(C.out).mono ?_;rintro e w12 ⟨rfl,b12⟩;have hb12:=Hb11.out.trans (b12.mono Hb11.out.size);have O12:=AA (O11.out.below b12);clear b12 c1 c2;go_wp2_with fail;go_ret2;exact⟨_,by rw[P3.out];rfl,by rw[P3.out];exact O12.out,hb12⟩
  ·have t2:0<(infoAt xs f).r:=by omega
   have P2:=AA (show Cw m xs f=(xs,1) by rw[PN.out,if_pos (.inr e2)]);clear e1 e2 CAdd0 PN hr0;have HO:=AA hO;clear hO;go_wp2_with fail;go_ret2;exact⟨_,by rw[P2.out];rfl,by rw[P2.out];exact HO.out.lower Hb.out.size,Hb9.out⟩
end Go.Proofs.YtnieoiclifjoaaaGreatDoor
