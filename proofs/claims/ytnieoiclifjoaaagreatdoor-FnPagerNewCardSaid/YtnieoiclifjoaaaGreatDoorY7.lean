/-
  Packed:4 texts.
-/
import Derived.Test.YtnieoiclifjoaaaGreatDoorY6
import Derived.Test.YtnieoiclifjoaaaGreatDoorY3
import Derived.Test.YtnieoiclifjoaaaGreatDoorY5
set_option linter.unusedVariables false
set_option maxHeartbeats 16000000
set_option maxRecDepth 100000
namespace Go.Proofs.YtnieoiclifjoaaaGreatDoor
open Go.Proofs.Tryz
open Go.RowKit
theorem Qa {lo:Nat} {m iv ev cv:Value} {k:AN} {w:World} (h:Cz lo w m iv ev cv k) (hlo:lo≤w.heap.size) (hk:De k) (call:AR) (he:0≤call.e∧call.e<3) (h2:call.k=2):
 Calls prog 225 #[.agg #[m,iv,ev,cv], .agg call.cs] w (GF lo w (AU k call)):=by
 have S0':=SC.start h hlo call;have HP:=AA (Q9 (k:=k) h2);have FZ:=AA (fun hz=>Hg (k:=k) (c:=call) (kind:=1) hz);obtain⟨am,nm_,cm,ai,ni,ci,ae,ne_,ce,ac,nc,cc,rfl,rfl,rfl,rfl⟩:=S0'.shapes;have S0:=AA S0';obtain⟨kk,e,a,b,c,nm⟩:=call;simp only[AR.cs] at S0 HP FZ ⊢;have HK:=AA hk;have CF:=AA (fun W (h:Mb W (.slice am nm_ cm) (.slice ai ni ci) (.slice ae ne_ ce) (.slice ac nc cc) k)=>JA _ _ _ _ k kk e a b c nm 1 W h hk he (.inr rfl));obtain⟨x0,x1,x2,x3⟩:=S0.out.xs;obtain⟨y0,y1,y2,y3,y4,y5⟩:=S0.out.ys6;generalize hfc:BZ k ⟨kk,e,a,b,c,nm⟩ 1=fc at*;have Hn:Hid (w.heap.size=w.heap.size):=AA rfl;clear h h2 S0' hfc he hk;generalize hW0:((w.alloc _).alloc _).alloc _=W0 at*;go_in;go_wp2_with fail;refine(CF.out _ S0.out.K).mono ?_;rintro r w1 ⟨rfl,hb1⟩;have S1:=AA (S0.out.below hb1);clear x0 x1 x2 x3 y0 y1 y2 y3 y4 y5 hb1 CF
 by_cases ef:fc=0
 ·subst ef
  obtain⟨hin,hk0,hm,hk1,_⟩:=FZ.out rfl;have ab:=AZ.1 hin;obtain⟨an,rfl⟩:∃n:Nat,a=(n:Int):=⟨a.toNat,by omega⟩
  have han:an<12:=by omega
  have hkd:(infoAt k.infos an).k=1:=hk1 (by decide);have hio:=(AW HK.out).2.1;have HP2:=AA (show AU k ⟨kk,e,(an:Int),b,c,nm⟩=if(infoAt k.infos an).r≠0 then(k,0,2) else({k with infos:=k.infos.set an AQ.zero},0,0) by rw[HP.out];rfl);obtain⟨x0,x1,x2,x3⟩:=S1.out.xs;obtain⟨y0,y1,y2,y3,y4,y5⟩:=S1.out.ys6
  by_cases er:(infoAt k.infos an).r=0
  ·have CG:=AA (fun W hi=>NL (.slice ai ni ci) k.infos an W hi hio han hkd er)
   have HP3:=AA (show AU k ⟨kk,e,(an:Int),b,c,nm⟩=({k with infos:=k.infos.set an AQ.zero},0,0) by rw[HP2.out,if_neg (by simp[er])]);clear hin hk0 hm hk1 hkd er hio FZ HP HP2 ab;go_wp2_with fail;refine(CG.out _ S1.out.K.2.1).mono ?_;rintro r w2 ⟨v',rfl,hO,hb2⟩;clear x0 x1 x2 x3 y0 y1 y2 y3 y4 y5;have S2:=AA (S1.out.newInfos hb2 hO);have fzg:=AM (S1.out.below hb2).ink.1;have x1o:=(S1.out.below hb2).xs.2.1;obtain⟨a9,c9,e9,_,_⟩:=hO.rd.shape;generalize List.length _=n9 at e9;subst e9;clear hO hb2;generalize hW9:w2.setCell _ _=W9 at S2;obtain⟨x0,x1,x2,x3⟩:=S2.out.xs;obtain⟨⟨z0,z1,z2,z3⟩,hfz⟩:=S2.out.zs;obtain⟨hB9,HR9⟩:=S2.out.ret (Nat.le_trans hlo (Nat.le_add_right _ _)) (Nat.le_add_right _ _) (v:=0) (code:=0) (HP3.out);have HE:=AA (AB hB9);have HR:=AA HR9;clear hB9 HR9;go_wp2_with ((try simp only[Exit.inBlock,Exit.then]);with_reducible refine bodyPost_ret (v:= .tuple #[.agg #[_,_,_,_], .int .i64 (0), .int .i64 (0)]) ?_ rfl HR.out;obtain⟨E0,E1,E2,E3⟩:=HE.out;simp[results,Tryz.results225,go_sem,E0,E1,E2,E3])
  ·have CG:=AA (fun W hi=>Nr (.slice ai ni ci) k.infos an W hi hio han hkd er)
   have HP3:=AA (show AU k ⟨kk,e,(an:Int),b,c,nm⟩=(k,0,2) by rw[HP2.out,if_pos er]);clear hin hk0 hm hk1 hkd er hio FZ HP HP2 ab;go_wp2_with fail;refine(CG.out _ S1.out.K.2.1).mono ?_;rintro r w2 ⟨v',rfl,hb2⟩;have S2:=AA (S1.out.below hb2);clear x0 x1 x2 x3 y0 y1 y2 y3 y4 y5 hb2;obtain⟨x0,x1,x2,x3⟩:=S2.out.xs;obtain⟨⟨z0,z1,z2,z3⟩,hfz⟩:=S2.out.zs;obtain⟨hB9,HR9⟩:=S2.out.bad (Nat.le_trans hlo (Nat.le_add_right _ _)) (Nat.le_add_right _ _) (v:=0) (code:=2) (HP3.out) (by decide);have HE:=AA (AB hB9);have HR:=AA HR9;clear hB9 HR9;go_wp2_with ((try simp only[Exit.inBlock,Exit.then]);with_reducible refine bodyPost_ret (v:= .tuple #[.agg #[_,_,_,_], .int .i64 (0), .int .i64 (2)]) ?_ rfl HR.out;obtain⟨E0,E1,E2,E3⟩:=HE.out;simp[results,Tryz.results225,go_sem,E0,E1,E2,E3])
 ·have t1:(fc !=0)=true:=by simp[ef]
  have hc:=AA ef;have HP3:=AA (show AU k ⟨kk,e,a,b,c,nm⟩=(k,0,fc) by rw[HP.out,if_neg ef]);clear ef FZ HP;obtain⟨x0,x1,x2,x3⟩:=S1.out.xs;obtain⟨⟨z0,z1,z2,z3⟩,hfz⟩:=S1.out.zs;obtain⟨hB9,HR9⟩:=S1.out.bad (Nat.le_trans hlo (Nat.le_add_right _ _)) (Nat.le_add_right _ _) (v:=0) (code:=fc) (HP3.out) (hc.out);have HE:=AA (AB hB9);have HR:=AA HR9;clear hB9 HR9;go_wp2_with ((try simp only[Exit.inBlock,Exit.then]);with_reducible refine bodyPost_ret (v:= .tuple #[.agg #[_,_,_,_], .int .i64 (0), .int .i64 (fc)]) ?_ rfl HR.out;obtain⟨E0,E1,E2,E3⟩:=HE.out;simp[results,Tryz.results225,go_sem,E0,E1,E2,E3])
theorem Qc {lo:Nat} {m iv ev cv:Value} {k:AN} {w:World} (h:Cz lo w m iv ev cv k) (hlo:lo≤w.heap.size) (hk:De k) (call:AR) (he:0≤call.e∧call.e<3) (h2:call.k=3):
 Calls prog 226 #[.agg #[m,iv,ev,cv], .agg call.cs] w (GF lo w (AU k call)):=by
 have S0':=SC.start h hlo call;have HP:=AA (RA (k:=k) h2);have FZ:=AA (fun hz=>Hg (k:=k) (c:=call) (kind:=1) hz);have hok:=(AW hk).1;obtain⟨gm,capm,rfl,_⟩:=Dm.mems S0' hok;obtain⟨am,nm_,cm,ai,ni,ci,ae,ne_,ce,ac,nc,cc,em,rfl,rfl,rfl⟩:=S0'.shapes;clear em;have S0:=AA S0';obtain⟨kk,e,a,b,c,nm⟩:=call;simp only[AR.cs] at S0 HP FZ ⊢;have HK:=AA hk;have CF:=AA (fun W (h:Mb W (.slice (some ⟨gm,0,none⟩) 12 capm) (.slice ai ni ci) (.slice ae ne_ ce) (.slice ac nc cc) k)=>JA _ _ _ _ k kk e a b c nm 1 W h hk he (.inr rfl));obtain⟨x0,x1,x2,x3⟩:=S0.out.xs;obtain⟨y0,y1,y2,y3,y4,y5⟩:=S0.out.ys6;generalize hfc:BZ k ⟨kk,e,a,b,c,nm⟩ 1=fc at*;have Hok:=AA hok;clear h h2 S0' hfc he hk hok;generalize hW0:((w.alloc _).alloc _).alloc _=W0 at*;go_in;go_wp2_with fail;refine(CF.out _ S0.out.K).mono ?_;rintro r w1 ⟨rfl,hb1⟩;have S1:=AA (S0.out.below hb1);clear x0 x1 x2 x3 y0 y1 y2 y3 y4 y5 hb1 CF
 by_cases ef:fc=0
 ·subst ef
  obtain⟨hin,hk0,hm,hk1,_⟩:=FZ.out rfl;have ab:=AZ.1 hin;obtain⟨an,rfl⟩:∃n:Nat,a=(n:Int):=⟨a.toNat,by omega⟩
  have han:an<12:=by omega
  have hani:(an:Int)<12:=by omega
  have HP2:=AA (show AU k ⟨kk,e,(an:Int),b,c,nm⟩=if Bk b 0 3=false∨E9 c=false then(k,0,3) else({k with mem:=Ch k.mem an b.toNat c},0,0) by rw[HP.out];rfl);obtain⟨x0,x1,x2,x3⟩:=S1.out.xs;obtain⟨y0,y1,y2,y3,y4,y5⟩:=S1.out.ys6;clear hin hk0 hm hk1 ab FZ HP;cases hb3:Bk b 0 3
  ·have HP3:=AA (show AU k ⟨kk,e,(an:Int),b,c,nm⟩=(k,0,3) by rw[HP2.out,if_pos (.inl hb3)])
   have Hb3:=AA hb3;clear hb3 HP2;go_wp2_with fail;refine(DV _ _ _ _).mono ?_;rintro r w2 ⟨rfl,rfl⟩;rw[Hb3.out];clear x0 x1 x2 x3 y0 y1 y2 y3 y4 y5;obtain⟨x0,x1,x2,x3⟩:=S1.out.xs;obtain⟨⟨z0,z1,z2,z3⟩,hfz⟩:=S1.out.zs;obtain⟨hB9,HR9⟩:=S1.out.bad (Nat.le_trans hlo (Nat.le_add_right _ _)) (Nat.le_add_right _ _) (v:=0) (code:=3) (HP3.out) (by decide);have HE:=AA (AB hB9);have HR:=AA HR9;clear hB9 HR9;go_wp2_with ((try simp only[Exit.inBlock,Exit.then]);with_reducible refine bodyPost_ret (v:= .tuple #[.agg #[_,_,_,_], .int .i64 (0), .int .i64 (3)]) ?_ rfl HR.out;obtain⟨E0,E1,E2,E3⟩:=HE.out;simp[results,Tryz.results226,go_sem,E0,E1,E2,E3])
  ·cases hc3:E9 c
   ·have HP3:=AA (show AU k ⟨kk,e,(an:Int),b,c,nm⟩=(k,0,3) by rw[HP2.out,if_pos (.inr hc3)])
    have Hb3:=AA hb3;have Hc3:=AA (show Bk c 0 9999=false from hc3);clear hb3 HP2 hc3;go_wp2_with fail;refine(DV _ _ _ _).mono ?_;rintro r w2 ⟨rfl,rfl⟩;rw[Hb3.out];go_wp2_with fail;refine(DV _ _ _ _).mono ?_;rintro r w2 ⟨rfl,rfl⟩;rw[Hc3.out];clear x0 x1 x2 x3 y0 y1 y2 y3 y4 y5;obtain⟨x0,x1,x2,x3⟩:=S1.out.xs;obtain⟨⟨z0,z1,z2,z3⟩,hfz⟩:=S1.out.zs;obtain⟨hB9,HR9⟩:=S1.out.bad (Nat.le_trans hlo (Nat.le_add_right _ _)) (Nat.le_add_right _ _) (v:=0) (code:=3) (HP3.out) (by decide);have HE:=AA (AB hB9);have HR:=AA HR9;clear hB9 HR9;go_wp2_with ((try simp only[Exit.inBlock,Exit.then]);with_reducible refine bodyPost_ret (v:= .tuple #[.agg #[_,_,_,_], .int .i64 (0), .int .i64 (3)]) ?_ rfl HR.out;obtain⟨E0,E1,E2,E3⟩:=HE.out;simp[results,Tryz.results226,go_sem,E0,E1,E2,E3])
   ·have HP3:=AA (show AU k ⟨kk,e,(an:Int),b,c,nm⟩=({k with mem:=Ch k.mem an b.toNat c},0,0) by rw[HP2.out,if_neg (by simp[hb3,hc3])])
    have bb:=AZ.1 hb3;obtain⟨bn,rfl⟩:∃n:Nat,b=(n:Int):=⟨b.toNat,by omega⟩
    have hbn:bn<4:=by omega
    have hbni:(bn:Int)<4:=by omega
    have Hb3:=AA hb3;have Hc3:=AA (show Bk c 0 9999=true from hc3);obtain⟨gw,capw,D,hgw,hcw,_⟩:=Dm.mrow S1.out Hok.out han;obtain⟨hlb,hlg,_,_⟩:=S1.out.lts;have hgm:gm<w1.heap.size:=World.block_lt_of_cell? _ _ D;clear hb3 hc3 bb HP2;go_wp2_with fail;refine(DV _ _ _ _).mono ?_;rintro r w2 ⟨rfl,rfl⟩;rw[Hb3.out];go_wp2_with fail;refine(DV _ _ _ _).mono ?_;rintro r w2 ⟨rfl,rfl⟩;rw[Hc3.out];go_wp2_with fail;refine AH 10 mixed (by kernel_rfl) 40 rfl (by kernel_rfl) (fun ix vv ww=>match ix with
     |0=>vv= .pointer (some ⟨w.heap.size,0,none⟩)
     |1=>vv= .slice (some ⟨gm,0,none⟩) 12 capm
     |2=>vv= .pointer (some ⟨w.heap.size+1,2,none⟩)
     |3=>vv= .int .i64 an
     |4=>vv= .pointer (some ⟨gm,an,none⟩)
     |5=>vv= .slice (some ⟨gw,0,none⟩) 4 capw
     |6=>vv= .pointer (some ⟨w.heap.size+1,3,none⟩)
     |7=>vv= .int .i64 bn
     |8=>vv= .pointer (some ⟨w.heap.size+1,4,none⟩)
     |9=>vv= .int .i64 c
     |_=>True) ?_ ?_ ?_
    ·intro i hi vv wz ww' hbz hz
     match i,hi with
     |0,_|1,_|2,_|3,_|4,_|5,_|6,_|7,_|8,_|9,_=>exact hz
    ·intro i hi o ho a wx Hb Hd hG K HK
     match i,hi with
     |0,_=>exact eF ho HK Ci (eb (Aj Hb 2))
     |1,_=>exact eL ho HK (et (AD Hd 0)) (Fd (bc hG hlg x0))
     |2,_=>exact eF ho HK EC (eb (Aj Hb 3))
     |3,_=>exact eL ho HK (et (AD Hd 2)) (DA (bc hG hlb y2))
     |4,_=>obtain rfl:=So_ ho;have d1:(a.tmps[29]?.getD undef)= .slice (some ⟨gm,0,none⟩) 12 capm:=AD Hd 1;have d3:(a.tmps[31]?.getD undef)= .int .i64 an:=AD Hd 3;clear Hd Hb;refine AI.of rfl ?_;go_simp;exact HK.out _ _ rfl (Below.refl _ _)
     |5,_=>exact eL ho HK (et (AD Hd 4)) (Qh (bc hG hgm D))
     |6,_=>exact eF ho HK Gp (eb (Aj Hb 3))
     |7,_=>exact eL ho HK (et (AD Hd 6)) (DA (bc hG hlb y3))
     |8,_=>exact eF ho HK KS (eb (Aj Hb 3))
     |9,_=>exact eL ho HK (et (AD Hd 8)) (DA (bc hG hlb y4))
    ·intro vs wx hR hG
     have q5:(vs 5)= .slice (some ⟨gw,0,none⟩) 4 capw:=BI hR 5;have q7:(vs 7)= .int .i64 bn:=BI hR 7;have q9:(vs 9)= .int .i64 c:=BI hR 9;clear hR;simp only[Ai,AX,List.range,List.range.loop,List.foldl_cons,List.foldl_nil,q5,q7,q9];simp;clear q5 q7 q9;have S2:=AA (S1.out.below hG);obtain⟨gw2,capw2,D2,_,_,hC,Fr,_,_,_,hS⟩:=Dm.mrow S2.out Hok.out han;have eD:=D2.symm.trans ((hG.cell (p:=⟨gm,an,none⟩) hgm).trans D);cases eD;have D3:=hC bn hbn;have S3:=AA (hS bn c hbn);generalize hW9:wx.setCell _ _=W9 at S3;clear x0 x1 x2 x3 y0 y1 y2 y3 y4 y5 D D2 hS hG S1 hC;obtain⟨x0,x1,x2,x3⟩:=S3.out.xs;obtain⟨⟨z0,z1,z2,z3⟩,hfz⟩:=S3.out.zs;obtain⟨hB9,HR9⟩:=S3.out.ret (Nat.le_trans hlo (Nat.le_add_right _ _)) (Nat.le_add_right _ _) (v:=0) (code:=0) (HP3.out);have HE:=AA (AB hB9);have HR:=AA HR9;clear hB9 HR9;go_wp2_with ((try simp only[Exit.inBlock,Exit.then]);with_reducible refine bodyPost_ret (v:= .tuple #[.agg #[_,_,_,_], .int .i64 (0), .int .i64 (0)]) ?_ rfl HR.out;obtain⟨E0,E1,E2,E3⟩:=HE.out;simp[results,Tryz.results226,go_sem,E0,E1,E2,E3])
 ·have t1:(fc !=0)=true:=by simp[ef]
  have hc:=AA ef;have HP3:=AA (show AU k ⟨kk,e,a,b,c,nm⟩=(k,0,fc) by rw[HP.out,if_neg ef]);clear ef FZ HP;obtain⟨x0,x1,x2,x3⟩:=S1.out.xs;obtain⟨⟨z0,z1,z2,z3⟩,hfz⟩:=S1.out.zs;obtain⟨hB9,HR9⟩:=S1.out.bad (Nat.le_trans hlo (Nat.le_add_right _ _)) (Nat.le_add_right _ _) (v:=0) (code:=fc) (HP3.out) (hc.out);have HE:=AA (AB hB9);have HR:=AA HR9;clear hB9 HR9;go_wp2_with ((try simp only[Exit.inBlock,Exit.then]);with_reducible refine bodyPost_ret (v:= .tuple #[.agg #[_,_,_,_], .int .i64 (0), .int .i64 (fc)]) ?_ rfl HR.out;obtain⟨E0,E1,E2,E3⟩:=HE.out;simp[results,Tryz.results226,go_sem,E0,E1,E2,E3])
def Gf (w:World) (b:Nat) (m i e c:Value):World:=(((w.setCell ⟨b,0,none⟩ m).setCell ⟨b,1,none⟩ i).setCell ⟨b,2,none⟩ e).setCell ⟨b,3,none⟩ c
def GA (W:World) (b:Nat) (m i e c:Value) (t:Bool) (ww:World):Prop:=match t with
 |false=>Below W.heap.size W ww
 |true=>∃wz,Below W.heap.size W wz∧Below wz.heap.size (Gf wz b m i e c) ww
theorem GA.grow {W:World} {b:Nat} {m i e c:Value} {t:Bool} {ww ww':World} (h:GA W b m i e c t ww) (hb:Below ww.heap.size ww ww'):GA W b m i e c t ww':=by
 cases t
 ·exact Below.trans h (hb.mono (Below.size h))
 ·obtain⟨wz,h1,h2⟩:=h
  exact⟨wz,h1,h2.trans (hb.mono (by have:=h2.size;simpa[Gf] using this))⟩
theorem GA.cell {W:World} {b:Nat} {m i e c:Value} {t:Bool} {ww:World} (h:GA W b m i e c t ww) {g o:Nat} (hp:g<W.heap.size) (hne:g≠b):ww.cell? ⟨g,o,none⟩=W.cell? ⟨g,o,none⟩:=by
 cases t
 ·exact Below.cell (p:=⟨g,o,none⟩) h hp
 ·obtain⟨wz,h1,h2⟩:=h
  have hz:g<wz.heap.size:=Nat.lt_of_lt_of_le hp h1.size;have hgr:wz.grownBy (Gf wz b m i e c) (some b):=Ab (Ab (Ab (Al wz b 0 m) 1 i) 2 e) 3 c;exact(Below.cell (p:=⟨g,o,none⟩) h2 hz).trans ((EX hgr hz (fun e=>hne (So_ e).symm)).trans (h1.cell (p:=⟨g,o,none⟩) hp))
theorem ET {w:World} {g T:Nat} {a b c:Value} (h:w.heap[g]? =some (.cells #[a,b,c] T (0,0))):w.cell? ⟨g,0,none⟩=some a∧w.cell? ⟨g,1,none⟩=some b∧w.cell? ⟨g,2,none⟩=some c:=
 ⟨cell_of_row _ _ 0 _ _ _ h,cell_of_row _ _ 1 _ _ _ h,cell_of_row _ _ 2 _ _ _ h⟩
theorem Na {m:List (List Int)} {root a fr:Nat} {wb:Bool} (h:BV m root a=(0,fr,wb)):fr<12:=by
 unfold BV at h
 split at h
 ·split at h
  ·next h2=>cases h;exact DZ h2
  ·cases h
 ·cases h
theorem Dm.far {T:Nat} {cs:Array Value} {R:List Nat} {lo g b0 q:Nat} {w W W':World} {m i e c:Value} {k:AN} (h:Dm T cs R lo g b0 w W m i e c k) (hT:T≠142) {cu:Array Value} (hB:W.heap[q]? =some (.cells cu 142 (0,0))) (hq:lo≤q) (hg:W.grownBy W' (some q)):Dm T cs R lo g b0 w W' m i e c k:=by
 obtain⟨hK,hlo,⟨vs,o1⟩,o2,⟨ps,o3⟩,o4⟩:=h.ink;exact⟨⟨Jo hK hg hB (by decide),hlo,⟨vs,o1.far hg hB (by decide) (by decide)⟩,o2.far hg hB (by decide),⟨ps,o3.far hg hB (by decide) (by decide)⟩,o4.far hg hB (by decide)⟩,BD h.blk hg (Dn hB h.blk hT.symm),AT h.bel hg hq h.lo,Nat.le_trans h.lo hg.size,h.ty,h.kf.row hg hB (by decide),fun b hr=>⟨(h.rs b hr).1,BD (h.rs b hr).2 hg (Dn hB (h.rs b hr).2 (by decide))⟩⟩
theorem Dm.place {T:Nat} {cs:Array Value} {R:List Nat} {lo g b0 q:Nat} {w W:World} {m i e c x y z:Value} {k:AN} (h:Dm T cs R lo g b0 w W m i e c k) (hT:T≠142) (hB:W.heap[q]? =some (.cells #[x,y,z] 142 (0,0))) (hq:lo≤q) (u v t:Value):
 Dm T cs R lo g b0 w (((W.setCell ⟨q,0,none⟩ u).setCell ⟨q,1,none⟩ v).setCell ⟨q,2,none⟩ t) m i e c k∧(((W.setCell ⟨q,0,none⟩ u).setCell ⟨q,1,none⟩ v).setCell ⟨q,2,none⟩ t).heap[q]? =some (.cells #[u,v,t] 142 (0,0)):=by
 refine⟨h.far hT hB hq (Ab (Ab (Al W q 0 u) 1 v) 2 t),?_⟩;have h1:=heap_setCell_same W q 0 _ 142 u hB;have h2:=heap_setCell_same _ q 1 _ 142 v h1;have h3:=heap_setCell_same _ q 2 _ 142 t h2;simpa using h3
theorem Dm.place2 {T:Nat} {cs:Array Value} {R:List Nat} {lo g b0 q:Nat} {w W:World} {m i e c x y z:Value} {k:AN} (h:Dm T cs R lo g b0 w W m i e c k) (hT:T≠142) (hB:W.heap[q]? =some (.cells #[x,y,z] 142 (0,0))) (hq:lo≤q) (u t:Value):
 Dm T cs R lo g b0 w ((W.setCell ⟨q,0,none⟩ u).setCell ⟨q,2,none⟩ t) m i e c k∧((W.setCell ⟨q,0,none⟩ u).setCell ⟨q,2,none⟩ t).heap[q]? =some (.cells #[u,y,t] 142 (0,0)):=by
 refine⟨h.far hT hB hq (Ab (Al W q 0 u) 2 t),?_⟩;have h1:=heap_setCell_same W q 0 _ 142 u hB;have h3:=heap_setCell_same _ q 2 _ 142 t h1;simpa using h3
theorem GF.below {lo:Nat} {w W W':World} {res:LB} {r:Ending} (h:GF lo w res r W) (hlo:lo≤W.heap.size) (hb:Below W.heap.size W W'):GF lo w res r W':=by
 obtain⟨m,i,e,c,h1,hs,h2,h3,h4⟩:=h;exact⟨m,i,e,c,h1,hs,fun hc=>(h2 hc).below hb,h3.trans (hb.mono hlo),fun b cu hB=>(hb.block b (Ao ((h4 b cu hB).trans hB))).trans (h4 b cu hB)⟩
theorem My (v:Value) (m:List (List Int)) (root a:Nat) (w:World) (h:BJ w v m) (hok:Bg m=true) (hr:root<12) (ha:a<64):
 Calls prog 218 #[v, .int .i64 root, .int .i64 a] w fun e w'=>e= .returned (GE m root a)∧Below w.heap.size w w':=by
 obtain⟨q,c,rfl,hc,hcm,H0⟩:=h.open;have hl:=(Af.1 hok).1;unfold maxLen at hcm;rw[hl] at hc ⊢;obtain⟨b,off,b2,off2,c2,rfl,hb,D,hb2,D2⟩:=H0.word hok hr (show a/16<4 by omega);have D':=((AG w (.cells #[.int .i64 0, .int .i64 0, .bool false] 142)).cell (p:=⟨b,off+root,none⟩) hb).trans D;have D2':=((AG w (.cells #[.int .i64 0, .int .i64 0, .bool false] 142)).cell (p:=⟨b2,off2+a/16,none⟩) hb2).trans D2;have hw1:=FO hok hr (show a/16<4 by omega);have E1:=AA (fun W=>Cc (Am m root (a/16)) W (by omega));have hB:=AG w (.cells #[.int .i64 0, .int .i64 0, .bool false] 142);cases hg1:BX (Am m root (a/16))
 ·have S:=AA (show GE m root a= .tuple #[Db, .int .i64 1] by simp[GE,BV,hg1])
  have V1:=AA (Do hg1);clear H0 D D2 hg1 hw1 hb hb2;go_in;go_wp2_with fail;refine(E1.out _).mono ?_;rintro e w' ⟨rfl,rfl⟩;rw[V1.out];go_wp2_with fail;exact bodyPost_ret (v:= .tuple #[Db, .int .i64 1]) (by simp[results,Tryz.results218,go_sem,Db]) rfl ⟨by rw[S.out],hB⟩
 ·have ht:Ax (Am m root (a/16))<12:=DZ hg1
  have V1:=AA (Di hg1);obtain⟨b',off',b3,off3,c3,e,hb',D3,hb3,D4⟩:=H0.word hok ht (show a/4%4<4 by omega);cases e;have D3':=((AG w (.cells #[.int .i64 0, .int .i64 0, .bool false] 142)).cell (p:=⟨b,off+Ax (Am m root (a/16)),none⟩) hb).trans D3;have D4':=((AG w (.cells #[.int .i64 0, .int .i64 0, .bool false] 142)).cell (p:=⟨b3,off3+a/4%4,none⟩) hb3).trans D4;have hw2:=FO hok ht (show a/4%4<4 by omega);have E2:=AA (fun W=>Cc (Am m (Ax (Am m root (a/16))) (a/4%4)) W (by omega));cases hg2:BX (Am m (Ax (Am m root (a/16))) (a/4%4))
  ·have S:=AA (show GE m root a= .tuple #[Db, .int .i64 2] by simp[GE,BV,hg1,hg2])
   have V2:=AA (Do hg2);clear H0 D D2 D3 D4 hg1 hg2 hw1 hw2 hb hb2 hb3 hb';go_in;go_wp2_with fail;refine(E1.out _).mono ?_;rintro e w' ⟨rfl,rfl⟩;rw[V1.out];go_wp2_with fail;refine(E2.out _).mono ?_;rintro e w' ⟨rfl,rfl⟩;rw[V2.out];go_wp2_with fail;exact bodyPost_ret (v:= .tuple #[Db, .int .i64 2]) (by simp[results,Tryz.results218,go_sem,Db]) rfl ⟨by rw[S.out],hB⟩
  ·have S:=AA (show GE m root a= .tuple #[.agg #[.int .i64 ((Ax (Am m (Ax (Am m root (a/16))) (a/4%4)):Nat):Int), .int .i64 ((a:Int)%4), .bool (Iw (Am m root (a/16))&&Iw (Am m (Ax (Am m root (a/16))) (a/4%4)))], .int .i64 0] by simp[GE,BV,hg1,hg2,IX])
   have V2:=AA (Di hg2);generalize Ax (Am m (Ax (Am m root (a/16))) (a/4%4))=fr at S V2;generalize Iw (Am m (Ax (Am m root (a/16))) (a/4%4))=wb at S V2;generalize Iw (Am m root (a/16))=wa at S V1;cases wa
   all_goals
    clear H0 D D2 D3 D4 hg1 hg2 hw1 hw2 hb hb2 hb3 hb';go_in;go_wp2_with fail;refine(E1.out _).mono ?_;rintro e w' ⟨rfl,rfl⟩;rw[V1.out];go_wp2_with fail;refine(E2.out _).mono ?_;rintro e w' ⟨rfl,rfl⟩;rw[V2.out];go_wp2_with fail
   ·exact bodyPost_ret (v:= .tuple #[.agg #[.int .i64 fr, .int .i64 ((a:Int)%4), .bool false], .int .i64 0]) (by simp[results,Tryz.results218,go_sem]) rfl ⟨by rw[S.out,Bool.false_and],AG _ _⟩
   ·exact bodyPost_ret (v:= .tuple #[.agg #[.int .i64 fr, .int .i64 ((a:Int)%4), .bool wb], .int .i64 0]) (by simp[results,Tryz.results218,go_sem]) rfl ⟨by rw[S.out,Bool.true_and],AG _ _⟩
theorem Nm {P:Program} {f:FuncId} {args:Array Value} {w:World} {v:Ending} (h:Calls P f args w fun e w'=>e=v∧∃n,w'=w.drewN n):Calls P f args w fun e w'=>e=v∧Below w.heap.size w w':=by refine h.mono ?_;rintro e w' ⟨h1,n,rfl⟩;exact⟨h1,Ar (Below.refl _ _) n⟩
theorem Tr {lo g:Nat} {w:World} {m i e c:Value} {k:AN} (h:IH lo w g m i e c k) (hlo:lo≤w.heap.size) (hK:De k) (call:AR) (he:0≤call.e) (hn:call.e<3):
 Calls prog 204 #[call.on g] w (Cd lo g w (GI k call)):=by
 have N:=heap_alloc_new w (.cells (call.onCells g) 163);have hb0:=AG w (.cells (call.onCells g) 163);have S0:=Dm.start h hlo call;have C0:=AA (fun W (_:Below w.heap.size w W)=>Ae (BT call.a W));have HPx:=AA (Qq (k:=k) (c:=call));obtain⟨k1,e1,a1,b1,c1,nm⟩:=call;obtain⟨en,rfl⟩:∃n:Nat,e1=(n:Int):=⟨e1.toNat,by simp only at he;omega⟩
 have hen:en<3:=by simp only at hn;omega
 simp only[AR.on,AR.onCells] at N hb0 C0 HPx S0 ⊢;simp only[Int.toNat_natCast] at HPx;obtain⟨y0,y1,y2,y3,y4,y5,y6⟩:=Dk (c:=⟨k1,(en:Int),a1,b1,c1,nm⟩) N;have hl:=Ao N;have HN:=AA N;have HK:=AA hK;obtain⟨ge,cap,e9,_,⟨⟨nge1,nge2⟩,nge3,nge4⟩,_⟩:=S0.envs (by rw[hK.envl];omega);rw[hK.envl] at e9;obtain⟨gi,capi,e8,_,_,⟨⟨ngi1,ngi2⟩,ngi3,ngi4⟩,_⟩:=S0.infos (by rw[hK.len];omega);rw[hK.len] at e8;subst e8 e9;obtain⟨nie,nei⟩:=S0.infos_envs;have HI:=AA h;have HS0:=AA S0;clear hK h N y1 y2 y4 y5 y6 S0
 by_cases e1:a1= -1
 ·have t1:(a1 != -1)=false:=by simp[e1]
  have HP2:=AA (show GI k ⟨k1,(en:Int),a1,b1,c1,nm⟩=if Aq k.infos (Az k.mem a1) (AC k.envs en).rights=false then(k,0,1) else({k with infos:=Br (BN k.infos (AC k.envs en).root) a1,envs:=AV k.envs en (Bu a1),cache:=Co k.cache (en:Int)},0,0) by rw[HPx.out,if_neg (by rw[e1];simp)]);have Ha:Hid (a1<12):=AA (by omega);have Hn:Hid (a1<0):=AA (by omega);clear e1 y0;go_in;go_wp2_with fail;have HS:=HS0;generalize hW2:w.alloc _=W2 at*;clear hW2;have hge:=HS.out.ge_lt;obtain⟨y0,y1,y2,y3,y4,y5,y6⟩:=HS.out.ys;obtain⟨x0,x1,x2,_⟩:=HS.out.xs;obtain⟨hl2,hgl2,ngb,nbg⟩:=HS.out.lts;obtain⟨ua,uc,D0,D1,R⟩:=HS.out.env (j:=en) (by rw[HK.out.envl];exact hen);have CE:=AA (fun W (hW:Below W2.heap.size W2 W)=>HS.out.callEnv (en:=en) rfl hen W hW);simp only[AR.on,AR.onCells] at CE;have RM:BJ W2 m k.mem:=HS.out.ink.2.2.rd.1;have RIn:BH W2 (.slice (some ⟨gi,0,none⟩) 12 capi) k.infos:=HS.out.ink.2.2.2.1.rd;have CX:=AA (fun W (hW:Below W2.heap.size W2 W)=>F9 m k.mem (a1) W (RM.below hW) (AW HK.out).1 Ha.out);have CA:=AA (fun W (hW:Below W2.heap.size W2 W) v2 ts (h2:Ap W v2 (Ak ts)) (hm:∀g,g∈ts↔g∈Az k.mem (a1))=>by have:=FH g _ v2 _ (AC k.envs en).rights ts k.infos W ((hW.cell (p:=⟨g,1,none⟩) hgl2).trans x1) (A3.below R hW) (A3.below RIn hW) h2 (fun f hf=>by have:=reach_lt Ha.out f ((hm f).1 hf);have:=HK.out.len;omega);rw[Ds hm] at this;exact this);generalize hbb:Aq k.infos (Az k.mem (a1)) (AC k.envs en).rights=bb at CA HP2;clear hbb RM RIn R x1 x2;refine AH 15 mixed (by kernel_rfl) 94 rfl (by kernel_rfl) (fun ix vv ww=>match ix with
   |0=>vv= .pointer (some ⟨w.heap.size,0,none⟩)
   |1=>vv= .pointer (some ⟨g,0,none⟩)
   |2=>vv= .agg #[.pointer (some ⟨g,0,none⟩), .int .i64 k1, .int .i64 en, .int .i64 a1, .int .i64 b1, .int .i64 c1, .string nm]
   |3=>vv= .pointer (some ⟨ge,en*2,none⟩)
   |4=>vv= .pointer (some ⟨ge,en*2,none⟩)
   |5=>vv= .pointer (some ⟨ge,en*2,none⟩)
   |6=>vv= .slice ua (AC k.envs en).rights.length uc
   |7=>vv= .pointer (some ⟨w.heap.size,0,none⟩)
   |8=>vv= .pointer (some ⟨g,0,none⟩)
   |9=>vv= .pointer (some ⟨g,0,none⟩)
   |10=>vv= .pointer (some ⟨g,0,none⟩)
   |11=>vv=m
   |12=>vv= .int .i64 a1
   |13=>Bt W2.heap.size k.mem (a1) ww vv
   |14=>vv= .bool bb
   |_=>True) ?_ ?_ ?_
  ·intro i hi vv wz ww' hbz hz
   match i,hi with
   |0,_|1,_|2,_|3,_|4,_|5,_|6,_|7,_|8,_|9,_|10,_|11,_|12,_=>exact hz
   |13,_=>exact(Bt.below hz hbz)
   |14,_=>exact hz
   |_+15,hq=>exact absurd hq (by omega)
  ·intro i hi o ho a wx Hb Hd hG K HK
   match i,hi with
   |0,_=>exact eF ho HK BP (eb (Aj Hb 1))
   |1,_=>exact eL ho HK (et (AD Hd 0)) (DY (bc hG hl2 y0))
   |2,_=>exact eL ho HK (eb (Aj Hb 1)) (Un (bc hG hl2 y0) (bc hG hl2 y1) (bc hG hl2 y2) (bc hG hl2 y3) (bc hG hl2 y4) (bc hG hl2 y5) (bc hG hl2 y6))
   |3,_=>obtain rfl:=So_ ho;have d2:(a.tmps[29]?.getD undef)= .agg #[.pointer (some ⟨g,0,none⟩), .int .i64 k1, .int .i64 en, .int .i64 a1, .int .i64 b1, .int .i64 c1, .string nm]:=AD Hd 2;clear Hd Hb;refine AI.of rfl ?_;go_simp;refine(CE.out _ hG).mono ?_;rintro e w_ ⟨rfl,hb2⟩;exact HK.out _ _ rfl hb2
   |4,_=>exact eC ho HK (et (AD Hd 3))
   |5,_=>exact eF ho HK EV (et (AD Hd 4))
   |6,_=>exact eL ho HK (et (AD Hd 5)) (Ie (bc hG hge D0))
   |7,_=>exact eF ho HK BP (eb (Aj Hb 1))
   |8,_=>exact eL ho HK (et (AD Hd 7)) (DY (bc hG hl2 y0))
   |9,_=>exact eC ho HK (et (AD Hd 8))
   |10,_=>exact eF ho HK Ci (et (AD Hd 9))
   |11,_=>exact eL ho HK (et (AD Hd 10)) (Fd (bc hG hgl2 x0))
   |12,_=>exact eM ho HK (eb (Aj Hb 3))
   |13,_=>obtain rfl:=So_ ho;have d11:(a.tmps[38]?.getD undef)=m:=AD Hd 11;have d12:(a.tmps[39]?.getD undef)= .int .i64 a1:=AD Hd 12;clear Hd Hb;refine AI.of rfl ?_;go_simp;refine(CX.out _ hG).mono ?_;rintro e w_ ⟨v',ts,rfl,hO,hmem,_,hb2⟩;exact HK.out _ _ ⟨ts,BQ hO hG.size,hmem⟩ hb2
   |14,_=>obtain rfl:=So_ ho;have d1:(a.tmps[28]?.getD undef)= .pointer (some ⟨g,0,none⟩):=AD Hd 1;have d6:(a.tmps[33]?.getD undef)= .slice ua (AC k.envs en).rights.length uc:=AD Hd 6;have d13:Bt W2.heap.size k.mem (a1) wx (a.tmps[40]?.getD undef):=AD Hd 13;clear Hd Hb;generalize e40:a.tmps[40]?.getD undef=v2 at d13;obtain⟨ts,hO,hmem⟩:=d13;have CAx:=CA.out wx hG v2 ts (AE.rd hO) hmem;refine AI.of rfl ?_;go_simp;refine CAx.mono ?_;rintro e w_ ⟨rfl,hb2⟩;exact HK.out _ _ rfl hb2
   |_+15,hq=>exact absurd hq (by omega)
  ·intro vs wx hR hG
   have q14:(vs 14)= .bool bb:=BI hR 14;clear hR;simp only[Ai,AX,List.range,List.range.loop,List.foldl_cons,List.foldl_nil,q14];simp;clear q14;have S1:=AA (HS.out.below hG);cases bb
   ·have E:=AA (show GI k ⟨k1,(en:Int),a1,b1,c1,nm⟩=(k,0,1) by rw[HP2.out];rfl)
    clear D0 D1 y0 y1 y2 y3 y4 y5 y6 x0;go_wp2_with fail;go_ret;exact Cd.bad E.out (by decide) S1.out.bel
   ·have HP3:=AA (show GI k ⟨k1,(en:Int),a1,b1,c1,nm⟩=({k with infos:=Br (BN k.infos (AC k.envs en).root) (a1),envs:=AV k.envs en (Bu (a1)),cache:=Co k.cache (en:Int)},0,0) by rw[HP2.out];rfl)
    clear y0 y1 y2 y3 y4 y5 y6 x0 D0 D1;obtain⟨y0,y1,y2,y3,y4,y5,y6⟩:=S1.out.ys;go_wp2_with fail;refine(CE.out _ hG).mono ?_;rintro r w3 ⟨rfl,hb3⟩;have S3:=AA (S1.out.below hb3);obtain⟨_,_,_,D1,_⟩:=S3.out.env (j:=en) (by rw[HK.out.envl];exact hen);clear y0 y1 y2 y3 y4 y5 y6 hG hb3;obtain⟨y0,y1,y2,y3,y4,y5,y6⟩:=S3.out.ys
    by_cases ho:(AC k.envs en).root<0
    ·have t5:¬(0:Int)≤(AC k.envs en).root:=by omega
     have HU:=AA (show BN k.infos (AC k.envs en).root=k.infos by unfold BN;rw[if_neg t5]);have CE4:=AA (fun W (hW:Below w3.heap.size w3 W)=>S3.out.callEnv (en:=en) rfl hen W hW);simp only[AR.on,AR.onCells] at CE4;clear ho;go_wp2_with fail;clear y0 y1 y2 y3 y4 y5 y6 D1;refine(CE4.out _ (Below.refl _ _)).mono ?_;rintro r4 w5 ⟨rfl,hb5⟩;have S5:=AA (S3.out.below hb5);obtain⟨_,_,_,D1,_⟩:=S5.out.env (j:=en) (by rw[HK.out.envl];exact hen);have Fe:=S5.out.fze (en*2+1);have S6:=AA (S5.out.root HK.out.envl.symm (by rw[HK.out.envl];exact hen) (a1));have t6:=AA Hn.out;have t7:¬(0:Int)≤a1:=by have:=Hn.out;omega
     have HR:=AA (show Br (BN k.infos (AC k.envs en).root) (a1)=k.infos by rw[HU.out];unfold Br;rw[if_neg t7]);go_wp2_with fail;clear D1 Fe t7;generalize w5.setCell _ _=W7 at*;have S7:=S6;clear S6;have Y:=S7.out.ys;obtain⟨y0,y1,y2,_,_,_,_⟩:=Y;obtain⟨x0,_,_,x3⟩:=S7.out.xs;obtain⟨hl7,hgl7,ngb,nbg⟩:=S7.out.lts;have RC:Bn W7 c k.cache:=S7.out.ink.2.2.2.2.2.rd;have CD:=AA (fun W (hW:Below W7.heap.size W7 W)=>Ev c k.cache (en:Int) W (A3.below RC hW) (AW HK.out).2.2);clear RC x0 y1;refine AH 13 mixed (by kernel_rfl) 94 rfl (by kernel_rfl) (fun ix vv ww=>match ix with
      |0=>vv= .pointer (some ⟨w.heap.size,0,none⟩)
      |1=>vv= .pointer (some ⟨g,0,none⟩)
      |2=>vv= .pointer (some ⟨w.heap.size,0,none⟩)
      |3=>vv= .pointer (some ⟨g,0,none⟩)
      |4=>vv= .pointer (some ⟨g,0,none⟩)
      |5=>vv= .pointer (some ⟨g,3,none⟩)
      |6=>vv=c
      |7=>vv= .pointer (some ⟨w.heap.size,1,none⟩)
      |8=>vv= .pointer (some ⟨w.heap.size,2,none⟩)
      |9=>vv= .int .i64 en
      |10=>AJ W7.heap.size 140 4 AP ww vv (Co k.cache (en:Int))
      |11=>vv= .pointer (some ⟨g,0,none⟩)
      |12=>vv= .pointer (some ⟨g,3,none⟩)
      |_=>True) ?_ ?_ ?_
     ·intro i hi vv wz ww' hbz hz
      match i,hi with
      |0,_|1,_|2,_|3,_|4,_|5,_|6,_|7,_|8,_|9,_=>exact hz
      |10,_=>exact(AJ.below hz hbz)
      |11,_|12,_=>exact hz
     ·intro i hi o ho a wx Hb Hd hG K HK
      match i,hi with
      |0,_=>exact eF ho HK BP (eb (Aj Hb 1))
      |1,_=>exact eL ho HK (et (AD Hd 0)) (DY (bc hG hl7 y0))
      |2,_=>exact eF ho HK BP (eb (Aj Hb 1))
      |3,_=>exact eL ho HK (et (AD Hd 2)) (DY (bc hG hl7 y0))
      |4,_=>exact eC ho HK (et (AD Hd 3))
      |5,_=>exact eF ho HK EU (et (AD Hd 4))
      |6,_=>exact eL ho HK (et (AD Hd 5)) (M5 (bc hG hgl7 x3))
      |7,_=>exact eF ho HK Dp (eb (Aj Hb 1))
      |8,_=>exact eF ho HK FY (et (AD Hd 7))
      |9,_=>exact eL ho HK (et (AD Hd 8)) (DA (bc hG hl7 y2))
      |10,_=>obtain rfl:=So_ ho;have d6:(a.tmps[87]?.getD undef)=c:=AD Hd 6;have d9:(a.tmps[90]?.getD undef)= .int .i64 en:=AD Hd 9;clear Hd Hb;refine AI.of rfl ?_;go_simp;refine(CD.out _ hG).mono ?_;rintro e w_ ⟨v',rfl,hO,hb2⟩;exact HK.out _ _ (hO.lower hG.size) hb2
      |11,_=>exact eC ho HK (et (AD Hd 1))
      |12,_=>exact eF ho HK EU (et (AD Hd 11))
     ·intro vs wx hR hG
      have q1:(vs 1)= .pointer (some ⟨g,0,none⟩):=BI hR 1;have q10:AJ W7.heap.size 140 4 AP wx (vs 10) (Co k.cache (en:Int)):=BI hR 10;have q11:(vs 11)= .pointer (some ⟨g,0,none⟩):=BI hR 11;have q12:(vs 12)= .pointer (some ⟨g,3,none⟩):=BI hR 12;clear hR;simp only[Ai,AX,List.range,List.range.loop,List.foldl_cons,List.foldl_nil,q1,q11,q12];simp;generalize vs 10=z10 at q10 ⊢;clear q1 q11 q12;have S8:=AA (S7.out.cache hG q10);have fzg:=AM (S7.out.below hG).ink.1;have x3w:=(S7.out.below hG).xs.2.2.2;obtain⟨_,_,rfl,_,_⟩:=q10.rd.shape;clear q10 hG y0 y2 x3;go_wp2_with fail;go_ret;exact⟨by rw[HP3.out];rfl,fun _=>⟨_,_,_,_,by rw[HP3.out];rw[HR.out];exact S8.out.ink⟩,S8.out.bel⟩
    ·obtain⟨rn,hrn⟩:∃n:Nat,(AC k.envs en).root=(n:Int):=⟨(AC k.envs en).root.toNat,by omega⟩
     have hr12:rn<12:=by have:=root_lt HK.out hen;omega
     have HU:=AA (show BN k.infos (AC k.envs en).root=AV k.infos rn (DK (-1)) by unfold BN;rw[hrn,if_pos (by omega),Int.toNat_natCast]);rw[hrn] at D1;have t5:(0:Int)≤(rn:Int):=by omega
     have hri:(rn:Int)<12:=by omega
     obtain⟨_,_,d2⟩:=S3.out.infoAt (f:=rn) (by rw[HK.out.len];exact hr12);have rf:=HK.out.refs_le hr12;have x1:=S3.out.xs.2.1;have Fr:=S3.out.fzi (rn*3+2);have S4:Hid (CS lo g w.heap.size ⟨k1,(en:Int),a1,b1,c1,nm⟩ w (w3.setCell ⟨gi,rn*3+2,none⟩ (.int .i64 ((infoAt k.infos rn).r - 1))) m (.slice (some ⟨gi,0,none⟩) 12 capi) (.slice (some ⟨ge,0,none⟩) 3 cap) c {k with infos:=AV k.infos rn (DK (-1))}):=AA (S3.out.info HK.out.len.symm (by rw[HK.out.len];exact hr12) (-1));clear ho hrn;go_wp2_with fail;clear y0 y1 y2 y3 y4 y5 y6 D1 d2 x1 Fr rf;generalize w3.setCell _ _=W4 at*;have CE4:=S4.out.callEnv (en:=en) rfl hen W4 (Below.refl _ _);simp only[AR.on,AR.onCells] at CE4;refine CE4.mono ?_;rintro r4 w5 ⟨rfl,hb5⟩;have S5:=AA (S4.out.below hb5);obtain⟨_,_,_,D1,_⟩:=S5.out.env (j:=en) (by rw[HK.out.envl];exact hen);have Fe:=S5.out.fze (en*2+1);have S6:=AA (S5.out.root HK.out.envl.symm (by rw[HK.out.envl];exact hen) (a1));have t6:=AA Hn.out;have t7:¬(0:Int)≤a1:=by have:=Hn.out;omega
     have HR:=AA (show Br (BN k.infos (AC k.envs en).root) (a1)=AV k.infos rn (DK (-1)) by rw[HU.out];unfold Br;rw[if_neg t7]);go_wp2_with fail;clear D1 Fe t7;generalize w5.setCell _ _=W7 at*;have S7:=S6;clear S6;have Y:=S7.out.ys;obtain⟨y0,y1,y2,_,_,_,_⟩:=Y;obtain⟨x0,_,_,x3⟩:=S7.out.xs;obtain⟨hl7,hgl7,ngb,nbg⟩:=S7.out.lts;have RC:Bn W7 c k.cache:=S7.out.ink.2.2.2.2.2.rd;have CD:=AA (fun W (hW:Below W7.heap.size W7 W)=>Ev c k.cache (en:Int) W (A3.below RC hW) (AW HK.out).2.2);clear RC x0 y1;refine AH 13 mixed (by kernel_rfl) 94 rfl (by kernel_rfl) (fun ix vv ww=>match ix with
      |0=>vv= .pointer (some ⟨w.heap.size,0,none⟩)
      |1=>vv= .pointer (some ⟨g,0,none⟩)
      |2=>vv= .pointer (some ⟨w.heap.size,0,none⟩)
      |3=>vv= .pointer (some ⟨g,0,none⟩)
      |4=>vv= .pointer (some ⟨g,0,none⟩)
      |5=>vv= .pointer (some ⟨g,3,none⟩)
      |6=>vv=c
      |7=>vv= .pointer (some ⟨w.heap.size,1,none⟩)
      |8=>vv= .pointer (some ⟨w.heap.size,2,none⟩)
      |9=>vv= .int .i64 en
      |10=>AJ W7.heap.size 140 4 AP ww vv (Co k.cache (en:Int))
      |11=>vv= .pointer (some ⟨g,0,none⟩)
      |12=>vv= .pointer (some ⟨g,3,none⟩)
      |_=>True) ?_ ?_ ?_
     ·intro i hi vv wz ww' hbz hz
      match i,hi with
      |0,_|1,_|2,_|3,_|4,_|5,_|6,_|7,_|8,_|9,_=>exact hz
      |10,_=>exact(AJ.below hz hbz)
      |11,_|12,_=>exact hz
     ·intro i hi o ho a wx Hb Hd hG K HK
      match i,hi with
      |0,_=>exact eF ho HK BP (eb (Aj Hb 1))
      |1,_=>exact eL ho HK (et (AD Hd 0)) (DY (bc hG hl7 y0))
      |2,_=>exact eF ho HK BP (eb (Aj Hb 1))
      |3,_=>exact eL ho HK (et (AD Hd 2)) (DY (bc hG hl7 y0))
      |4,_=>exact eC ho HK (et (AD Hd 3))
      |5,_=>exact eF ho HK EU (et (AD Hd 4))
      |6,_=>exact eL ho HK (et (AD Hd 5)) (M5 (bc hG hgl7 x3))
      |7,_=>exact eF ho HK Dp (eb (Aj Hb 1))
      |8,_=>exact eF ho HK FY (et (AD Hd 7))
      |9,_=>exact eL ho HK (et (AD Hd 8)) (DA (bc hG hl7 y2))
      |10,_=>obtain rfl:=So_ ho;have d6:(a.tmps[87]?.getD undef)=c:=AD Hd 6;have d9:(a.tmps[90]?.getD undef)= .int .i64 en:=AD Hd 9;clear Hd Hb;refine AI.of rfl ?_;go_simp;refine(CD.out _ hG).mono ?_;rintro e w_ ⟨v',rfl,hO,hb2⟩;exact HK.out _ _ (hO.lower hG.size) hb2
      |11,_=>exact eC ho HK (et (AD Hd 1))
      |12,_=>exact eF ho HK EU (et (AD Hd 11))
     ·intro vs wx hR hG
      have q1:(vs 1)= .pointer (some ⟨g,0,none⟩):=BI hR 1;have q10:AJ W7.heap.size 140 4 AP wx (vs 10) (Co k.cache (en:Int)):=BI hR 10;have q11:(vs 11)= .pointer (some ⟨g,0,none⟩):=BI hR 11;have q12:(vs 12)= .pointer (some ⟨g,3,none⟩):=BI hR 12;clear hR;simp only[Ai,AX,List.range,List.range.loop,List.foldl_cons,List.foldl_nil,q1,q11,q12];simp;generalize vs 10=z10 at q10 ⊢;clear q1 q11 q12;have S8:=AA (S7.out.cache hG q10);have fzg:=AM (S7.out.below hG).ink.1;have x3w:=(S7.out.below hG).xs.2.2.2;obtain⟨_,_,rfl,_,_⟩:=q10.rd.shape;clear q10 hG y0 y2 x3;go_wp2_with fail;go_ret;exact⟨by rw[HP3.out];rfl,fun _=>⟨_,_,_,_,by rw[HP3.out];rw[HR.out];exact S8.out.ink⟩,S8.out.bel⟩
 ·have t1:(a1 != -1)=true:=by simp[e1]
  cases e2:Bk a1 0 11
  ·have E:=AA (show GI k ⟨k1,(en:Int),a1,b1,c1,nm⟩=(k,0,3) by rw[HPx.out,if_pos ⟨e1, .inl e2⟩])
   have T:=AA e2;clear e1 e2 y0;go_in;go_wp2_with fail;refine(C0.out _ hb0).mono ?_;rintro r w1 ⟨rfl,hb1⟩;rw[T.out];have hbw:=hb0.trans (hb1.mono hb0.size);go_wp2_with fail;go_ret;exact Cd.bad E.out (by decide) (hbw.mono hlo)
  ·have T:=AA e2
   have ab:=AZ.1 e2;obtain⟨an,rfl⟩:∃n:Nat,a1=(n:Int):=⟨a1.toNat,by omega⟩
   have han:an<k.infos.length:=by rw[HK.out.len];omega
   have hani:(an:Int)<12:=by omega
   have e1':=AA e1;have Ha:Hid ((an:Int)<12):=AA (by omega);clear e2 y0 e1
   by_cases e3:(infoAt k.infos an).k=3
   ·have t3:((infoAt k.infos an).k !=3)=false:=by simp[e3]
    have HP2:=AA (show GI k ⟨k1,(en:Int),(an:Int),b1,c1,nm⟩=if Aq k.infos (Az k.mem (an:Int)) (AC k.envs en).rights=false then(k,0,1) else({k with infos:=Br (BN k.infos (AC k.envs en).root) (an:Int),envs:=AV k.envs en (Bu (an:Int)),cache:=Co k.cache (en:Int)},0,0) by rw[HPx.out,if_neg (by rintro⟨_,x|x⟩;(· rw[T.out] at x;cases x);(· exact x e3))]);clear e3;go_in;go_wp2_with fail;refine(C0.out _ hb0).mono ?_;rintro r W2 ⟨rfl,hbW⟩;rw[T.out];have HS:=AA (HS0.out.below hbW);obtain⟨y0,_,_,_,_,_,_⟩:=HS.out.ys;obtain⟨d0,_,_⟩:=HS.out.infoAt han;have x1:=HS.out.xs.2.1;clear hbW;go_wp2_with fail;clear y0 x1 d0 hani t3 han;have hge:=HS.out.ge_lt;obtain⟨y0,y1,y2,y3,y4,y5,y6⟩:=HS.out.ys;obtain⟨x0,x1,x2,_⟩:=HS.out.xs;obtain⟨hl2,hgl2,ngb,nbg⟩:=HS.out.lts;obtain⟨ua,uc,D0,D1,R⟩:=HS.out.env (j:=en) (by rw[HK.out.envl];exact hen);have CE:=AA (fun W (hW:Below W2.heap.size W2 W)=>HS.out.callEnv (en:=en) rfl hen W hW);simp only[AR.on,AR.onCells] at CE;have RM:BJ W2 m k.mem:=HS.out.ink.2.2.rd.1;have RIn:BH W2 (.slice (some ⟨gi,0,none⟩) 12 capi) k.infos:=HS.out.ink.2.2.2.1.rd;have CX:=AA (fun W (hW:Below W2.heap.size W2 W)=>F9 m k.mem ((an:Int)) W (RM.below hW) (AW HK.out).1 Ha.out);have CA:=AA (fun W (hW:Below W2.heap.size W2 W) v2 ts (h2:Ap W v2 (Ak ts)) (hm:∀g,g∈ts↔g∈Az k.mem ((an:Int)))=>by have:=FH g _ v2 _ (AC k.envs en).rights ts k.infos W ((hW.cell (p:=⟨g,1,none⟩) hgl2).trans x1) (A3.below R hW) (A3.below RIn hW) h2 (fun f hf=>by have:=reach_lt Ha.out f ((hm f).1 hf);have:=HK.out.len;omega);rw[Ds hm] at this;exact this);generalize hbb:Aq k.infos (Az k.mem ((an:Int))) (AC k.envs en).rights=bb at CA HP2;clear hbb RM RIn R x1 x2;refine AH 15 mixed (by kernel_rfl) 94 rfl (by kernel_rfl) (fun ix vv ww=>match ix with
     |0=>vv= .pointer (some ⟨w.heap.size,0,none⟩)
     |1=>vv= .pointer (some ⟨g,0,none⟩)
     |2=>vv= .agg #[.pointer (some ⟨g,0,none⟩), .int .i64 k1, .int .i64 en, .int .i64 an, .int .i64 b1, .int .i64 c1, .string nm]
     |3=>vv= .pointer (some ⟨ge,en*2,none⟩)
     |4=>vv= .pointer (some ⟨ge,en*2,none⟩)
     |5=>vv= .pointer (some ⟨ge,en*2,none⟩)
     |6=>vv= .slice ua (AC k.envs en).rights.length uc
     |7=>vv= .pointer (some ⟨w.heap.size,0,none⟩)
     |8=>vv= .pointer (some ⟨g,0,none⟩)
     |9=>vv= .pointer (some ⟨g,0,none⟩)
     |10=>vv= .pointer (some ⟨g,0,none⟩)
     |11=>vv=m
     |12=>vv= .int .i64 an
     |13=>Bt W2.heap.size k.mem ((an:Int)) ww vv
     |14=>vv= .bool bb
     |_=>True) ?_ ?_ ?_
    ·intro i hi vv wz ww' hbz hz
     match i,hi with
     |0,_|1,_|2,_|3,_|4,_|5,_|6,_|7,_|8,_|9,_|10,_|11,_|12,_=>exact hz
     |13,_=>exact(Bt.below hz hbz)
     |14,_=>exact hz
     |_+15,hq=>exact absurd hq (by omega)
    ·intro i hi o ho a wx Hb Hd hG K HK
     match i,hi with
     |0,_=>exact eF ho HK BP (eb (Aj Hb 1))
     |1,_=>exact eL ho HK (et (AD Hd 0)) (DY (bc hG hl2 y0))
     |2,_=>exact eL ho HK (eb (Aj Hb 1)) (Un (bc hG hl2 y0) (bc hG hl2 y1) (bc hG hl2 y2) (bc hG hl2 y3) (bc hG hl2 y4) (bc hG hl2 y5) (bc hG hl2 y6))
     |3,_=>obtain rfl:=So_ ho;have d2:(a.tmps[29]?.getD undef)= .agg #[.pointer (some ⟨g,0,none⟩), .int .i64 k1, .int .i64 en, .int .i64 an, .int .i64 b1, .int .i64 c1, .string nm]:=AD Hd 2;clear Hd Hb;refine AI.of rfl ?_;go_simp;refine(CE.out _ hG).mono ?_;rintro e w_ ⟨rfl,hb2⟩;exact HK.out _ _ rfl hb2
     |4,_=>exact eC ho HK (et (AD Hd 3))
     |5,_=>exact eF ho HK EV (et (AD Hd 4))
     |6,_=>exact eL ho HK (et (AD Hd 5)) (Ie (bc hG hge D0))
     |7,_=>exact eF ho HK BP (eb (Aj Hb 1))
     |8,_=>exact eL ho HK (et (AD Hd 7)) (DY (bc hG hl2 y0))
     |9,_=>exact eC ho HK (et (AD Hd 8))
     |10,_=>exact eF ho HK Ci (et (AD Hd 9))
     |11,_=>exact eL ho HK (et (AD Hd 10)) (Fd (bc hG hgl2 x0))
     |12,_=>exact eM ho HK (eb (Aj Hb 3))
     |13,_=>obtain rfl:=So_ ho;have d11:(a.tmps[38]?.getD undef)=m:=AD Hd 11;have d12:(a.tmps[39]?.getD undef)= .int .i64 an:=AD Hd 12;clear Hd Hb;refine AI.of rfl ?_;go_simp;refine(CX.out _ hG).mono ?_;rintro e w_ ⟨v',ts,rfl,hO,hmem,_,hb2⟩;exact HK.out _ _ ⟨ts,BQ hO hG.size,hmem⟩ hb2
     |14,_=>obtain rfl:=So_ ho;have d1:(a.tmps[28]?.getD undef)= .pointer (some ⟨g,0,none⟩):=AD Hd 1;have d6:(a.tmps[33]?.getD undef)= .slice ua (AC k.envs en).rights.length uc:=AD Hd 6;have d13:Bt W2.heap.size k.mem ((an:Int)) wx (a.tmps[40]?.getD undef):=AD Hd 13;clear Hd Hb;generalize e40:a.tmps[40]?.getD undef=v2 at d13;obtain⟨ts,hO,hmem⟩:=d13;have CAx:=CA.out wx hG v2 ts (AE.rd hO) hmem;refine AI.of rfl ?_;go_simp;refine CAx.mono ?_;rintro e w_ ⟨rfl,hb2⟩;exact HK.out _ _ rfl hb2
     |_+15,hq=>exact absurd hq (by omega)
    ·intro vs wx hR hG
     have q14:(vs 14)= .bool bb:=BI hR 14;clear hR;simp only[Ai,AX,List.range,List.range.loop,List.foldl_cons,List.foldl_nil,q14];simp;clear q14;have S1:=AA (HS.out.below hG);cases bb
     ·have E:=AA (show GI k ⟨k1,(en:Int),(an:Int),b1,c1,nm⟩=(k,0,1) by rw[HP2.out];rfl)
      clear D0 D1 y0 y1 y2 y3 y4 y5 y6 x0;go_wp2_with fail;go_ret;exact Cd.bad E.out (by decide) S1.out.bel
     ·have HP3:=AA (show GI k ⟨k1,(en:Int),(an:Int),b1,c1,nm⟩=({k with infos:=Br (BN k.infos (AC k.envs en).root) ((an:Int)),envs:=AV k.envs en (Bu ((an:Int))),cache:=Co k.cache (en:Int)},0,0) by rw[HP2.out];rfl)
      clear y0 y1 y2 y3 y4 y5 y6 x0 D0 D1;obtain⟨y0,y1,y2,y3,y4,y5,y6⟩:=S1.out.ys;go_wp2_with fail;refine(CE.out _ hG).mono ?_;rintro r w3 ⟨rfl,hb3⟩;have S3:=AA (S1.out.below hb3);obtain⟨_,_,_,D1,_⟩:=S3.out.env (j:=en) (by rw[HK.out.envl];exact hen);clear y0 y1 y2 y3 y4 y5 y6 hG hb3;obtain⟨y0,y1,y2,y3,y4,y5,y6⟩:=S3.out.ys
      by_cases ho:(AC k.envs en).root<0
      ·have t5:¬(0:Int)≤(AC k.envs en).root:=by omega
       have HU:=AA (show BN k.infos (AC k.envs en).root=k.infos by unfold BN;rw[if_neg t5]);have CE4:=AA (fun W (hW:Below w3.heap.size w3 W)=>S3.out.callEnv (en:=en) rfl hen W hW);simp only[AR.on,AR.onCells] at CE4;clear ho;go_wp2_with fail;clear y0 y1 y2 y3 y4 y5 y6 D1;refine(CE4.out _ (Below.refl _ _)).mono ?_;rintro r4 w5 ⟨rfl,hb5⟩;have S5:=AA (S3.out.below hb5);obtain⟨_,_,_,D1,_⟩:=S5.out.env (j:=en) (by rw[HK.out.envl];exact hen);have Fe:=S5.out.fze (en*2+1);have S6:=AA (S5.out.root HK.out.envl.symm (by rw[HK.out.envl];exact hen) ((an:Int)));have x1:=S5.out.xs.2.1;obtain⟨y0,_,_,y3,_,_,_⟩:=S5.out.ys;obtain⟨_,_,d2⟩:=S5.out.infoAt (f:=an) (by have:=HK.out.len;(try simp only[Au]);omega);have Fr:=S5.out.fzi (an*3+2);have hA12:an<12:=by have:=Ha.out;omega
       have rfa:0 - 1≤(infoAt (k.infos) an).r∧(infoAt (k.infos) an).r≤47:=by have r1:=HK.out.refs_le hA12;omega
       have HR:=AA (show Br (BN k.infos (AC k.envs en).root) ((an:Int))=AV (k.infos) an (DK 1) by rw[HU.out];unfold Br;rw[if_pos (by omega),Int.toNat_natCast]);have S7:=AA (S6.out.info (by show 12=(k.infos).length;(try simp only[Au]);exact HK.out.len.symm) (f:=an) (by show an<(k.infos).length;(try simp only[Au]);rw[HK.out.len];exact hA12) 1);have hani:(an:Int)<12:=by omega
       simp only at S7 d2;generalize hrv:(infoAt (k.infos) an).r=rv at*;go_wp2_with fail;clear D1 Fe Fr d2 x1 y0 y3 rfa hrv;generalize World.setCell (World.setCell _ _ _) _ _=W7 at*;clear S6;have Y:=S7.out.ys;obtain⟨y0,y1,y2,_,_,_,_⟩:=Y;obtain⟨x0,_,_,x3⟩:=S7.out.xs;obtain⟨hl7,hgl7,ngb,nbg⟩:=S7.out.lts;have RC:Bn W7 c k.cache:=S7.out.ink.2.2.2.2.2.rd;have CD:=AA (fun W (hW:Below W7.heap.size W7 W)=>Ev c k.cache (en:Int) W (A3.below RC hW) (AW HK.out).2.2);clear RC x0 y1;refine AH 13 mixed (by kernel_rfl) 94 rfl (by kernel_rfl) (fun ix vv ww=>match ix with
        |0=>vv= .pointer (some ⟨w.heap.size,0,none⟩)
        |1=>vv= .pointer (some ⟨g,0,none⟩)
        |2=>vv= .pointer (some ⟨w.heap.size,0,none⟩)
        |3=>vv= .pointer (some ⟨g,0,none⟩)
        |4=>vv= .pointer (some ⟨g,0,none⟩)
        |5=>vv= .pointer (some ⟨g,3,none⟩)
        |6=>vv=c
        |7=>vv= .pointer (some ⟨w.heap.size,1,none⟩)
        |8=>vv= .pointer (some ⟨w.heap.size,2,none⟩)
        |9=>vv= .int .i64 en
        |10=>AJ W7.heap.size 140 4 AP ww vv (Co k.cache (en:Int))
        |11=>vv= .pointer (some ⟨g,0,none⟩)
        |12=>vv= .pointer (some ⟨g,3,none⟩)
        |_=>True) ?_ ?_ ?_
       ·intro i hi vv wz ww' hbz hz
        match i,hi with
        |0,_|1,_|2,_|3,_|4,_|5,_|6,_|7,_|8,_|9,_=>exact hz
        |10,_=>exact(AJ.below hz hbz)
        |11,_|12,_=>exact hz
       ·intro i hi o ho a wx Hb Hd hG K HK
        match i,hi with
        |0,_=>exact eF ho HK BP (eb (Aj Hb 1))
        |1,_=>exact eL ho HK (et (AD Hd 0)) (DY (bc hG hl7 y0))
        |2,_=>exact eF ho HK BP (eb (Aj Hb 1))
        |3,_=>exact eL ho HK (et (AD Hd 2)) (DY (bc hG hl7 y0))
        |4,_=>exact eC ho HK (et (AD Hd 3))
        |5,_=>exact eF ho HK EU (et (AD Hd 4))
        |6,_=>exact eL ho HK (et (AD Hd 5)) (M5 (bc hG hgl7 x3))
        |7,_=>exact eF ho HK Dp (eb (Aj Hb 1))
        |8,_=>exact eF ho HK FY (et (AD Hd 7))
        |9,_=>exact eL ho HK (et (AD Hd 8)) (DA (bc hG hl7 y2))
        |10,_=>obtain rfl:=So_ ho;have d6:(a.tmps[87]?.getD undef)=c:=AD Hd 6;have d9:(a.tmps[90]?.getD undef)= .int .i64 en:=AD Hd 9;clear Hd Hb;refine AI.of rfl ?_;go_simp;refine(CD.out _ hG).mono ?_;rintro e w_ ⟨v',rfl,hO,hb2⟩;exact HK.out _ _ (hO.lower hG.size) hb2
        |11,_=>exact eC ho HK (et (AD Hd 1))
        |12,_=>exact eF ho HK EU (et (AD Hd 11))
       ·intro vs wx hR hG
        have q1:(vs 1)= .pointer (some ⟨g,0,none⟩):=BI hR 1;have q10:AJ W7.heap.size 140 4 AP wx (vs 10) (Co k.cache (en:Int)):=BI hR 10;have q11:(vs 11)= .pointer (some ⟨g,0,none⟩):=BI hR 11;have q12:(vs 12)= .pointer (some ⟨g,3,none⟩):=BI hR 12;clear hR;simp only[Ai,AX,List.range,List.range.loop,List.foldl_cons,List.foldl_nil,q1,q11,q12];simp;generalize vs 10=z10 at q10 ⊢;clear q1 q11 q12;have S8:=AA (S7.out.cache hG q10);have fzg:=AM (S7.out.below hG).ink.1;have x3w:=(S7.out.below hG).xs.2.2.2;obtain⟨_,_,rfl,_,_⟩:=q10.rd.shape;clear q10 hG y0 y2 x3;go_wp2_with fail;go_ret;exact⟨by rw[HP3.out];rfl,fun _=>⟨_,_,_,_,by rw[HP3.out];rw[HR.out];exact S8.out.ink⟩,S8.out.bel⟩
      ·obtain⟨rn,hrn⟩:∃n:Nat,(AC k.envs en).root=(n:Int):=⟨(AC k.envs en).root.toNat,by omega⟩
       have hr12:rn<12:=by have:=root_lt HK.out hen;omega
       have HU:=AA (show BN k.infos (AC k.envs en).root=AV k.infos rn (DK (-1)) by unfold BN;rw[hrn,if_pos (by omega),Int.toNat_natCast]);rw[hrn] at D1;have t5:(0:Int)≤(rn:Int):=by omega
       have hri:(rn:Int)<12:=by omega
       obtain⟨_,_,d2⟩:=S3.out.infoAt (f:=rn) (by rw[HK.out.len];exact hr12);have rf:=HK.out.refs_le hr12;have x1:=S3.out.xs.2.1;have Fr:=S3.out.fzi (rn*3+2);have S4:Hid (CS lo g w.heap.size ⟨k1,(en:Int),(an:Int),b1,c1,nm⟩ w (w3.setCell ⟨gi,rn*3+2,none⟩ (.int .i64 ((infoAt k.infos rn).r - 1))) m (.slice (some ⟨gi,0,none⟩) 12 capi) (.slice (some ⟨ge,0,none⟩) 3 cap) c {k with infos:=AV k.infos rn (DK (-1))}):=AA (S3.out.info HK.out.len.symm (by rw[HK.out.len];exact hr12) (-1));clear ho hrn;go_wp2_with fail;clear y0 y1 y2 y3 y4 y5 y6 D1 d2 x1 Fr rf;generalize w3.setCell _ _=W4 at*;have CE4:=S4.out.callEnv (en:=en) rfl hen W4 (Below.refl _ _);simp only[AR.on,AR.onCells] at CE4;refine CE4.mono ?_;rintro r4 w5 ⟨rfl,hb5⟩;have S5:=AA (S4.out.below hb5);obtain⟨_,_,_,D1,_⟩:=S5.out.env (j:=en) (by rw[HK.out.envl];exact hen);have Fe:=S5.out.fze (en*2+1);have S6:=AA (S5.out.root HK.out.envl.symm (by rw[HK.out.envl];exact hen) ((an:Int)));have x1:=S5.out.xs.2.1;obtain⟨y0,_,_,y3,_,_,_⟩:=S5.out.ys;obtain⟨_,_,d2⟩:=S5.out.infoAt (f:=an) (by have:=HK.out.len;(try simp only[Au]);omega);have Fr:=S5.out.fzi (an*3+2);have hA12:an<12:=by have:=Ha.out;omega
       have rfa:0 - 1≤(infoAt (AV k.infos rn (DK (-1))) an).r∧(infoAt (AV k.infos rn (DK (-1))) an).r≤47:=by
        have r1:=HK.out.refs_le hA12;rw[Ej]
        split
        ·next hx=>have r2:=HK.out.refs_le hr12;show 0 - 1≤(infoAt k.infos rn).r+ -1∧(infoAt k.infos rn).r+ -1≤47;omega
        ·omega
       have HR:=AA (show Br (BN k.infos (AC k.envs en).root) ((an:Int))=AV (AV k.infos rn (DK (-1))) an (DK 1) by rw[HU.out];unfold Br;rw[if_pos (by omega),Int.toNat_natCast]);have S7:=AA (S6.out.info (by show 12=(AV k.infos rn (DK (-1))).length;(try simp only[Au]);exact HK.out.len.symm) (f:=an) (by show an<(AV k.infos rn (DK (-1))).length;(try simp only[Au]);rw[HK.out.len];exact hA12) 1);have hani:(an:Int)<12:=by omega
       simp only at S7 d2;generalize hrv:(infoAt (AV k.infos rn (DK (-1))) an).r=rv at*;go_wp2_with fail;clear D1 Fe Fr d2 x1 y0 y3 rfa hrv;generalize World.setCell (World.setCell _ _ _) _ _=W7 at*;clear S6;have Y:=S7.out.ys;obtain⟨y0,y1,y2,_,_,_,_⟩:=Y;obtain⟨x0,_,_,x3⟩:=S7.out.xs;obtain⟨hl7,hgl7,ngb,nbg⟩:=S7.out.lts;have RC:Bn W7 c k.cache:=S7.out.ink.2.2.2.2.2.rd;have CD:=AA (fun W (hW:Below W7.heap.size W7 W)=>Ev c k.cache (en:Int) W (A3.below RC hW) (AW HK.out).2.2);clear RC x0 y1;refine AH 13 mixed (by kernel_rfl) 94 rfl (by kernel_rfl) (fun ix vv ww=>match ix with
        |0=>vv= .pointer (some ⟨w.heap.size,0,none⟩)
        |1=>vv= .pointer (some ⟨g,0,none⟩)
        |2=>vv= .pointer (some ⟨w.heap.size,0,none⟩)
        |3=>vv= .pointer (some ⟨g,0,none⟩)
        |4=>vv= .pointer (some ⟨g,0,none⟩)
        |5=>vv= .pointer (some ⟨g,3,none⟩)
        |6=>vv=c
        |7=>vv= .pointer (some ⟨w.heap.size,1,none⟩)
        |8=>vv= .pointer (some ⟨w.heap.size,2,none⟩)
        |9=>vv= .int .i64 en
        |10=>AJ W7.heap.size 140 4 AP ww vv (Co k.cache (en:Int))
        |11=>vv= .pointer (some ⟨g,0,none⟩)
        |12=>vv= .pointer (some ⟨g,3,none⟩)
        |_=>True) ?_ ?_ ?_
       ·intro i hi vv wz ww' hbz hz
        match i,hi with
        |0,_|1,_|2,_|3,_|4,_|5,_|6,_|7,_|8,_|9,_=>exact hz
        |10,_=>exact(AJ.below hz hbz)
        |11,_|12,_=>exact hz
       ·intro i hi o ho a wx Hb Hd hG K HK
        match i,hi with
        |0,_=>exact eF ho HK BP (eb (Aj Hb 1))
        |1,_=>exact eL ho HK (et (AD Hd 0)) (DY (bc hG hl7 y0))
        |2,_=>exact eF ho HK BP (eb (Aj Hb 1))
        |3,_=>exact eL ho HK (et (AD Hd 2)) (DY (bc hG hl7 y0))
        |4,_=>exact eC ho HK (et (AD Hd 3))
        |5,_=>exact eF ho HK EU (et (AD Hd 4))
        |6,_=>exact eL ho HK (et (AD Hd 5)) (M5 (bc hG hgl7 x3))
        |7,_=>exact eF ho HK Dp (eb (Aj Hb 1))
        |8,_=>exact eF ho HK FY (et (AD Hd 7))
        |9,_=>exact eL ho HK (et (AD Hd 8)) (DA (bc hG hl7 y2))
        |10,_=>obtain rfl:=So_ ho;have d6:(a.tmps[87]?.getD undef)=c:=AD Hd 6;have d9:(a.tmps[90]?.getD undef)= .int .i64 en:=AD Hd 9;clear Hd Hb;refine AI.of rfl ?_;go_simp;refine(CD.out _ hG).mono ?_;rintro e w_ ⟨v',rfl,hO,hb2⟩;exact HK.out _ _ (hO.lower hG.size) hb2
        |11,_=>exact eC ho HK (et (AD Hd 1))
        |12,_=>exact eF ho HK EU (et (AD Hd 11))
       ·intro vs wx hR hG
        have q1:(vs 1)= .pointer (some ⟨g,0,none⟩):=BI hR 1;have q10:AJ W7.heap.size 140 4 AP wx (vs 10) (Co k.cache (en:Int)):=BI hR 10;have q11:(vs 11)= .pointer (some ⟨g,0,none⟩):=BI hR 11;have q12:(vs 12)= .pointer (some ⟨g,3,none⟩):=BI hR 12;clear hR;simp only[Ai,AX,List.range,List.range.loop,List.foldl_cons,List.foldl_nil,q1,q11,q12];simp;generalize vs 10=z10 at q10 ⊢;clear q1 q11 q12;have S8:=AA (S7.out.cache hG q10);have fzg:=AM (S7.out.below hG).ink.1;have x3w:=(S7.out.below hG).xs.2.2.2;obtain⟨_,_,rfl,_,_⟩:=q10.rd.shape;clear q10 hG y0 y2 x3;go_wp2_with fail;go_ret;exact⟨by rw[HP3.out];rfl,fun _=>⟨_,_,_,_,by rw[HP3.out];rw[HR.out];exact S8.out.ink⟩,S8.out.bel⟩
   ·have t3:((infoAt k.infos an).k !=3)=true:=by simp[e3]
    have E:=AA (show GI k ⟨k1,(en:Int),(an:Int),b1,c1,nm⟩=(k,0,3) by rw[HPx.out,if_pos ⟨e1'.out, .inr e3⟩]);clear e3;go_in;go_wp2_with fail;refine(C0.out _ hb0).mono ?_;rintro r w1 ⟨rfl,hbW⟩;rw[T.out];have hbw:=hb0.trans (hbW.mono hb0.size);have HS:=AA (HS0.out.below hbW);obtain⟨y0,_,_,_,_,_,_⟩:=HS.out.ys;obtain⟨d0,_,_⟩:=HS.out.infoAt han;have x1:=HS.out.xs.2.1;clear hbW;go_wp2_with fail;go_ret;exact Cd.bad E.out (by decide) (hbw.mono hlo)
end Go.Proofs.YtnieoiclifjoaaaGreatDoor
