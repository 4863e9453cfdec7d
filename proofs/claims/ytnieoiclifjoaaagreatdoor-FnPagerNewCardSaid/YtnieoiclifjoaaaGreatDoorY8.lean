/-
  Packed:1 texts.
-/
import Derived.Test.YtnieoiclifjoaaaGreatDoorY5
import Derived.Test.YtnieoiclifjoaaaGreatDoorY6
set_option linter.unusedVariables false
set_option maxHeartbeats 16000000
set_option maxRecDepth 100000
namespace Go.Proofs.YtnieoiclifjoaaaGreatDoor
open Go.Proofs.Tryz
open Go.RowKit
def Ox (lo:Nat) (w:World) (v:Value) (f a:Nat) (b:Bool):Prop:=∃q,v= .pointer (some ⟨q,0,none⟩)∧lo≤q∧w.heap[q]? =some (.cells #[.int .i64 f, .int .i64 a, .bool b] 142 (0,0))
theorem Ox.below {lo:Nat} {w w':World} {v:Value} {f a:Nat} {b:Bool} (h:Ox lo w v f a b) (hb:Below w.heap.size w w'):Ox lo w' v f a b:=by obtain⟨q,h0,h1,h2⟩:=h;exact⟨q,h0,h1,AF h2 hb⟩
theorem Il {W w':World} {q T:Nat} {x y z a b c:Value} (h:w'.heap[q]? =some (.cells #[x,y,z] T (0,0))) (hb:Below W.heap.size W w') (hq:W.heap.size≤q):
 (((w'.setCell ⟨q,0,none⟩ a).setCell ⟨q,1,none⟩ b).setCell ⟨q,2,none⟩ c).heap[q]? =some (.cells #[a,b,c] T (0,0))∧Below W.heap.size W (((w'.setCell ⟨q,0,none⟩ a).setCell ⟨q,1,none⟩ b).setCell ⟨q,2,none⟩ c):=by
 refine⟨?_,((hb.setCell hq _).setCell hq _).setCell hq _⟩;have h1:=heap_setCell_same w' q 0 _ T a h;have h2:=heap_setCell_same _ q 1 _ T b h1;have h3:=heap_setCell_same _ q 2 _ T c h2;simpa using h3
def Cm (lo:Nat) (b:Bool) (v:Value) (w:World) (f a:Int) (t:Bool):Prop:=∃q,v= .pointer (some ⟨q,0,none⟩)∧lo≤q∧w.heap[q]? =some (.cells (if b then #[.int .i64 f, .int .i64 a, .bool t] else #[.int .i64 0, .int .i64 0, .bool false]) 142 (0,0))
theorem Cm.below {lo:Nat} {b:Bool} {v:Value} {w w':World} {f a:Int} {t:Bool} (h:Cm lo b v w f a t) (hb:Below w.heap.size w w'):Cm lo b v w' f a t:=by obtain⟨q,h0,h1,h2⟩:=h;exact⟨q,h0,h1,AF h2 hb⟩
theorem Cm.zero {lo q:Nat} {b:Bool} {w:World} {f a:Int} {t:Bool} (hb:b=false) (hq:lo≤q) (hh:w.heap[q]? =some (.cells #[.int .i64 0, .int .i64 0, .bool false] 142 (0,0))):Cm lo b (.pointer (some ⟨q,0,none⟩)) w f a t:=⟨q,rfl,hq,by rw[hb];exact hh⟩
theorem Qv {lo g:Nat} {w:World} {m i e c:Value} {k:AN} (h:IH lo w g m i e c k) (hlo:lo≤w.heap.size) (hK:De k) (call:AR) (he:0≤call.e) (hn:call.e<3) (hk:call.k=10∨call.k=11):
 Calls prog 207 #[call.on g] w (Cx lo g w (IF k call)):=by
 have S0:=Dm.start h hlo call;have C0:=AA (fun W=>Ae (IW call.a W));have C1:=AA (fun W=>Ae (KX call.b W));have P:=Pq (k:=k) (c:=call);obtain⟨k1,e1,a1,b1,c1,nm⟩:=call;obtain⟨en,rfl⟩:∃n:Nat,e1=(n:Int):=⟨e1.toNat,by simp only at he;omega⟩
 have hen:en<3:=by simp only at hn;omega
 simp only[AR.on,AR.onCells] at C0 C1 S0 P hk ⊢;simp only[Int.toNat_natCast] at P;obtain⟨ge,cap,e9,_,⟨⟨nge1,nge2⟩,nge3,nge4⟩,_⟩:=S0.envs (by rw[hK.envl];omega);rw[hK.envl] at e9;obtain⟨gi,capi,e8,_,_,⟨⟨ngi1,ngi2⟩,ngi3,ngi4⟩,_⟩:=S0.infos (by rw[hK.len];omega);rw[hK.len] at e8;obtain⟨gm,capm,e7,_,⟨ngm1,ngm2⟩,ngm3,ngm4⟩:=S0.mems (AW hK).1;subst e7 e8 e9;obtain⟨y0,y1,y2,y3,y4,y5,y6⟩:=S0.ys;have HK:=AA hK;have HS:=AA S0;have CE:=AA (fun W (hW:Below (w.alloc (.cells #[.pointer (some ⟨g,0,none⟩), .int .i64 k1, .int .i64 en, .int .i64 a1, .int .i64 b1, .int .i64 c1, .string nm] 163)).heap.size _ W)=>HS.out.callEnv (en:=en) rfl hen W hW);simp only[AR.on,AR.onCells] at CE;clear hK h S0 hlo he hn
 rcases hk with rfl|rfl
 ·have HP:=AA P
  clear P;go_in;go_wp2_with fail;generalize hW0:w.alloc _=W0 at*;clear hW0;refine(CE.out _ (Below.refl _ _)).mono ?_;rintro r W1 ⟨rfl,hb1⟩;have S1:=AA (HS.out.below hb1);clear y0 y1 y2 y3 y4 y5 y6;obtain⟨y0,y1,y2,y3,y4,y5,y6⟩:=S1.out.ys;obtain⟨_,_,_,D1,_⟩:=S1.out.env (j:=en) (by rw[HK.out.envl];exact hen);clear hb1;cases e4:Bk a1 0 63
  ·have T:=AA e4
   have E:=AA (show IF k ⟨10,(en:Int),a1,b1,c1,nm⟩=(k,0,3) by rw[HP.out,if_pos (.inl e4)]);clear e4;go_wp2_with fail;refine(C0.out W1).mono ?_;rintro r w1 ⟨rfl,hb2⟩;rw[T.out];have S2:=AA (S1.out.below hb2);go_wp2_with fail;go_ret2;exact Cx.bad E.out (by decide) S2.out.bel
  ·have T:=AA e4
   have ab:=AZ.1 e4;obtain⟨an,rfl⟩:∃n:Nat,a1=(n:Int):=⟨a1.toNat,by omega⟩
   have han:an<64:=by omega
   clear e4;go_wp2_with fail;refine(C0.out W1).mono ?_;rintro r W2 ⟨rfl,hb2⟩;rw[T.out];have S2:=AA (S1.out.below hb2);clear y0 y1 y2 y3 y4 y5 y6 D1;obtain⟨y0,y1,y2,y3,y4,y5,y6⟩:=S2.out.ys;clear hb2
   by_cases e5:(AC k.envs en).root<0
   ·have E:=AA (show IF k ⟨10,(en:Int),(an:Int),b1,c1,nm⟩=(k,0,3) by rw[HP.out,if_pos (.inr (.inl e5))])
    go_wp2_with fail;go_ret2;exact Cx.bad E.out (by decide) S2.out.bel
   ·obtain⟨rn,hrn⟩:∃n:Nat,(AC k.envs en).root=(n:Int):=⟨(AC k.envs en).root.toNat,by omega⟩
    have hr12:rn<12:=by have:=root_lt HK.out hen;omega
    have HR:=AA hrn;have e5':¬(rn:Int)<0:=by omega
    clear e5;rw[hrn];clear hrn;obtain⟨W5,rfl⟩:∃W5:World,W5=W2:=⟨_,rfl⟩
    have S5:=S2;clear S2;go_wp2_with fail;clear y0 y1 y2 y3 y4 y5 y6;have HP2:=AA (show IF k ⟨10,(en:Int),(an:Int),b1,c1,nm⟩=_ by rw[HP.out,if_neg (by rintro(x|x|⟨x,_⟩);(· rw[T.out] at x;cases x);(· rw[show(AC k.envs en).root=(rn:Int) from HR.out] at x;omega);(· exact absurd x (by decide)))]);have CW0:=fun W (hW:Below W5.heap.size W5 W)=>NY _ k.mem rn an W (S5.out.ink.2.2.rd.1.below hW) (AW HK.out).1 hr12 han
    have HKW:=AA (HK.out.walk_data (e:=en) (a:=an) hen (by show(0:Int)≤(AC k.envs en).root;rw[HR.out];omega));unfold GE IX Db at CW0;rw[HR.out] at HP2;simp only[Int.toNat_natCast] at HP2;have HKW2:=HKW.out;unfold AY at HKW2;rw[HR.out] at HKW2;simp only[Int.toNat_natCast] at HKW2;obtain⟨a4,ha4e⟩:∃n,n=an%4:=⟨_,rfl⟩
    simp only[←ha4e] at CW0;have HA4:=AA ha4e;have an4:a4<4:=by omega
    clear ha4e;generalize hwp:BV k.mem rn an=x at*;obtain⟨cp,fp,wp⟩:=x;simp only at CW0 HP2 HKW2;obtain⟨y0,y1,y2,y3,y4,y5,y6⟩:=S5.out.ys;obtain⟨x0,_,_,_⟩:=S5.out.xs;obtain⟨hl5,hgl5,ngb,nbg⟩:=S5.out.lts
    by_cases e7:cp=0
    ·subst e7
     simp only[if_true] at CW0;have CW:=AA CW0;have Hfp:=AA (HKW2 rfl).1;clear CW0 HKW2 HKW hwp;refine Bs 16 mixed 121 rfl (by kernel_rfl) rfl (fun ix=>ix==14) (fun ll ix vv ww=>match ix with
      |0=>vv= .pointer (some ⟨w.heap.size,0,none⟩)
      |1=>vv= .pointer (some ⟨g,0,none⟩)
      |2=>vv= .pointer (some ⟨g,0,none⟩)
      |3=>vv= .pointer (some ⟨g,0,none⟩)
      |4=>vv= .slice (some ⟨gm,0,none⟩) 12 capm
      |5=>vv= .int .i64 rn
      |6=>vv= .pointer (some ⟨w.heap.size,1,none⟩)
      |7=>vv= .pointer (some ⟨w.heap.size,3,none⟩)
      |8=>vv= .int .i64 an
      |9=>vv= .tuple #[.agg #[.int .i64 fp, .int .i64 a4, .bool wp], .int .i64 0]
      |10=>vv= .tuple #[.agg #[.int .i64 fp, .int .i64 a4, .bool wp], .int .i64 0]
      |11=>vv= .agg #[.int .i64 fp, .int .i64 a4, .bool wp]
      |12=>vv= .int .i64 0
      |13=>Cm W5.heap.size (ll 14) vv ww ((fp:Int)) ((a4:Int)) wp
      |14=>True
      |15=>vv= .int .i64 0
      |_=>True) (fun ll ww=>Below W5.heap.size W5 ww) ?_ ?_ ?_ ?_ ?_ ?_
     ·exact Ar (Below.refl _ _) 1
     ·intro j hj ll i vv wz ww' hi hS hLi hLj hbz hz
      match j,hj with
      |0,_|1,_|2,_|3,_|4,_|5,_|6,_|7,_|8,_|9,_|10,_|11,_|12,_=>exact hz
      |13,_=>exact(Cm.below (by rw[En (by rintro rfl;cases hS)];exact hz) hbz)
      |14,_|15,_=>exact hz
      |_+16,hq=>exact absurd hq (by omega)
     ·intro ll i wz ww' hi hS hLi hbz hg
      exact hg.trans (hbz.mono hg.size)
     ·intro i hi hS o ho a wx Hb ll Hd HL hG K HK
      match i,hi,hS with
      |0,_,_=>obtain rfl:=So_ ho;exact eF ho HK BP (eb (Aj Hb 1))
      |1,_,_=>obtain rfl:=So_ ho;exact eL ho HK (et (Be Hd HL 0)) (DY (bc hG hl5 y0))
      |2,_,_=>obtain rfl:=So_ ho;exact eC ho HK (et (Be Hd HL 1))
      |3,_,_=>obtain rfl:=So_ ho;exact eF ho HK Ci (et (Be Hd HL 2))
      |4,_,_=>obtain rfl:=So_ ho;exact eL ho HK (et (Be Hd HL 3)) (Fd (bc hG hgl5 x0))
      |5,_,_=>obtain rfl:=So_ ho;exact eM ho HK (eb (Aj Hb 5))
      |6,_,_=>obtain rfl:=So_ ho;exact eF ho HK Dp (eb (Aj Hb 1))
      |7,_,_=>obtain rfl:=So_ ho;exact eF ho HK EC (et (Be Hd HL 6))
      |8,_,_=>obtain rfl:=So_ ho;exact eL ho HK (et (Be Hd HL 7)) (DA (bc hG hl5 y3))
      |9,_,_=>
       obtain rfl:=So_ ho;have d4:(a.tmps[44]?.getD undef)= .slice (some ⟨gm,0,none⟩) 12 capm:=Be Hd HL 4;have d5:(a.tmps[45]?.getD undef)= .int .i64 rn:=Be Hd HL 5;have d8:(a.tmps[48]?.getD undef)= .int .i64 an:=Be Hd HL 8;have u14:ll 14=false:=by
        cases hx:ll 14
        ·rfl
        ·exact absurd (HL.out.2.2 14 9 hx (by kernel_rfl)) (by rw[HL.out.1];decide)
       clear Hd Hb;refine AI.of rfl ?_;go_simp;refine(CW.out _ hG).mono ?_;rintro e w_ ⟨rfl,hb2⟩;exact HK.out _ _ rfl hb2
      |10,_,_=>obtain rfl:=So_ ho;exact eM ho HK (et (Be Hd HL 9))
      |11,_,_=>
       obtain rfl:=So_ ho;have d10:(a.tmps[39]?.getD undef)= .tuple #[.agg #[.int .i64 fp, .int .i64 a4, .bool wp], .int .i64 0]:=Be Hd HL 10;have u14:ll 14=false:=by
        cases hx:ll 14
        ·rfl
        ·exact absurd (HL.out.2.2 14 11 hx (by kernel_rfl)) (by rw[HL.out.1];decide)
       clear Hd Hb;refine AI.of rfl ?_;go_simp;exact HK.out _ _ rfl (Below.refl _ _)
      |12,_,_=>obtain rfl:=So_ ho;have d10:(a.tmps[39]?.getD undef)= .tuple #[.agg #[.int .i64 fp, .int .i64 a4, .bool wp], .int .i64 0]:=Be Hd HL 10;clear Hd Hb;refine AI.of rfl ?_;go_simp;exact HK.out _ _ rfl (Below.refl _ _)
      |13,_,_=>
       obtain rfl:=So_ ho;have u14:ll 14=false:=by
        cases hx:ll 14
        ·rfl
        ·exact absurd (HL.out.2.2 14 13 hx (by kernel_rfl)) (by rw[HL.out.1];decide)
       clear Hd Hb;refine AI.of rfl ?_;go_simp;exact HK.out _ _ (Cm.zero (by rw[En (by decide)];exact u14) hG.size (heap_alloc_new _ _)) (AG _ _)
      |14,_,hs=>exact absurd hs (by decide)
      |15,_,_=>obtain rfl:=So_ ho;exact eA ho HK (et (Be Hd HL 12))
      |_+16,hq,_=>exact absurd hq (by omega)
     ·intro i hi hS o ho a wx Hb ll Hd HL hG K HK
      match i,hi,hS with
      |0,_,hs|1,_,hs|2,_,hs|3,_,hs|4,_,hs|5,_,hs|6,_,hs|7,_,hs|8,_,hs|9,_,hs|10,_,hs|11,_,hs|12,_,hs|13,_,hs=>exact absurd hs (by decide)
      |14,_,_=>
       obtain rfl:=So_ ho;have d13:Cm W5.heap.size (ll 14) (a.tmps[6]?.getD undef) wx ((fp:Int)) ((a4:Int)) wp:=Be Hd HL 13;have d11:(a.tmps[50]?.getD undef)= .agg #[.int .i64 fp, .int .i64 a4, .bool wp]:=Be Hd HL 11;clear Hd Hb;obtain⟨q,e13,hq1,hq2⟩:=d13;rw[HL.out.1] at hq2;replace hq2:wx.heap[q]? =some (.cells #[.int .i64 0, .int .i64 0, .bool false] 142 (0,0)):=hq2;have c0:=cell_of_row _ _ 0 _ _ _ hq2;have c1_:=cell_of_row _ _ 1 _ _ _ hq2;have c2:=cell_of_row _ _ 2 _ _ _ hq2;have fq:=AM hq2;have Pl:=AA (Il (W:=W5) (a:= .int .i64 fp) (b:= .int .i64 a4) (c:= .bool wp) hq2 hG hq1);have E13:=AA e13;clear hq2;refine AI.of rfl ?_;go_simp;exact HK.out undef _ trivial Pl.out.2 (fun j hji hjn hjl hu=>match j,hjn with
        |0,_|1,_|2,_|3,_|4,_|5,_|6,_|7,_|8,_|9,_|10,_|11,_|12,_=>hu
        |13,_=>⟨q,E13.out,hq1,by rw[FN];exact Pl.out.1⟩
        |14,_|15,_=>hu
        |_+16,hq=>absurd hq (by omega))
      |15,_,hs=>exact absurd hs (by decide)
      |_+16,hq,_=>exact absurd hq (by omega)
     ·intro vs wx ll hall hR hG
      have q11:(vs 11)= .agg #[.int .i64 fp, .int .i64 a4, .bool wp]:=BI hR 11;have q12:(vs 12)= .int .i64 0:=BI hR 12;have q13:Cm W5.heap.size (ll 14) (vs 13) wx ((fp:Int)) ((a4:Int)) wp:=BI hR 13;have q15:(vs 15)= .int .i64 0:=BI hR 15;clear hR;simp only[Dy,Bl,List.range,List.range.loop,List.foldl_cons,List.foldl_nil,q11,q12,q15];simp;generalize vs 13=z13 at q13 ⊢;clear q11 q12 q15;obtain⟨q,rfl,hq1,hq2⟩:=q13;rw[hall 14 (by decide)] at hq2;replace hq2:wx.heap[q]? =some (.cells #[.int .i64 fp, .int .i64 a4, .bool wp] 142 (0,0)):=hq2;have S6:=AA (S5.out.below hG);have hQ6:=hq2;clear hq2 x0 y0 y1 y2 y3 y4 y5 y6 hG hall;obtain⟨W6,rfl⟩:∃W6:World,W6=wx:=⟨_,rfl⟩
      have pz2:=cell_of_row _ _ 2 _ _ _ hQ6;go_wp2_with fail;clear pz2;have HPE:=AA (show IF k ⟨10,(en:Int),(an:Int),b1,c1,nm⟩=({k with cache:=Ee k.cache (en:Int) ((an:Int)/4) fp wp},Am k.mem fp a4,0) by rw[HP2.out,if_neg (by simp),if_neg (by rintro⟨x,_⟩;exact absurd x (by decide)),if_neg (by decide),show((an:Int)%4).toNat=a4 by have:=HA4.out;omega])
      obtain⟨y0,_,_,y3,y4,_,_⟩:=S6.out.ys;obtain⟨x0,_,_,_⟩:=S6.out.xs;obtain⟨gw,capw,Dw,hgw,hcw,Dj,fzw,⟨⟨ngw1,ngw2⟩,ngw3,ngw4⟩,_,_,SW⟩:=S6.out.mrow (AW HK.out).1 (f:=fp) Hfp.out;have z0:=cell_regrown (cell_of_row _ _ 0 _ _ _ hQ6);have z1:=cell_regrown (cell_of_row _ _ 1 _ _ _ hQ6);replace y0:=cell_regrown y0;replace x0:=cell_regrown x0;replace Dw:=cell_regrown Dw;have hf12:(fp:Int)<12:=by have:=Hfp.out;omega
      have ha4:(a4:Int)<4:=by omega
      have hbl:=S6.out.lts.1;have HD:=AA Dj;clear Dj SW;refine wp_region_quiet_below mixed (by kernel_rfl) ?_
      repeat(go_big_quiet_step (fail))
      refine wpQuiet_nil ?_;intro _ hw';obtain⟨⟨dq,osq⟩,hw''⟩:=hw';subst hw'';have bq:=below_regrown W6 dq osq;generalize Sort.grow (redrawn W6 dq) osq=wq at bq;clear z0 z1 y0 x0 Dw;have S7:=AA (S6.out.below bq);have hQ7:=AA (AF hQ6 bq);have Dv:=(bq.cell (p:=⟨gw,a4,none⟩) hgw).trans (HD.out a4 an4);replace y3:=(bq.cell (p:=⟨w.heap.size,3,none⟩) hbl).trans y3;replace y4:=(bq.cell (p:=⟨w.heap.size,4,none⟩) hbl).trans y4;have hd4:(0:Int)≤(an:Int):=by omega
      obtain⟨W7,rfl⟩:∃W7:World,W7=wq:=⟨_,rfl⟩
      clear y4 fzw HD bq hQ6;go_wp2_with fail;clear y3 Dv;obtain⟨y0,_,y2,y3,_,_,_⟩:=S7.out.ys;obtain⟨_,_,_,x3⟩:=S7.out.xs;obtain⟨hl7,hgl7,_,_⟩:=S7.out.lts;have RC:Bn W7 c k.cache:=S7.out.ink.2.2.2.2.2.rd;have CF:=AA (fun W (hW:Below W7.heap.size W7 W)=>KR c k.cache (en:Int) ((an:Int)/4) W (A3.below RC hW));clear RC;refine AH 10 mixed (by kernel_rfl) 121 rfl (by kernel_rfl) (fun ix vv ww=>match ix with
       |0=>vv= .pointer (some ⟨w.heap.size,0,none⟩)
       |1=>vv= .pointer (some ⟨g,0,none⟩)
       |2=>vv= .pointer (some ⟨g,0,none⟩)
       |3=>vv= .pointer (some ⟨g,3,none⟩)
       |4=>vv=c
       |5=>vv= .pointer (some ⟨w.heap.size,1,none⟩)
       |6=>vv= .pointer (some ⟨w.heap.size,2,none⟩)
       |7=>vv= .int .i64 en
       |8=>vv= .int .i64 (((an:Int)/4))
       |9=>vv= .int .i64 (FX k.cache (en:Int) ((an:Int)/4))
       |_=>True) ?_ ?_ ?_
      ·intro i hi vv wz ww' hbz hz
       match i,hi with
       |0,_|1,_|2,_|3,_|4,_|5,_|6,_|7,_|8,_|9,_=>exact hz
      ·intro i hi o ho a wx Hb Hd hG K HK
       match i,hi with
       |0,_=>exact eF ho HK BP (eb (Aj Hb 1))
       |1,_=>exact eL ho HK (et (AD Hd 0)) (DY (bc hG hl7 y0))
       |2,_=>exact eC ho HK (et (AD Hd 1))
       |3,_=>exact eF ho HK EU (et (AD Hd 2))
       |4,_=>exact eL ho HK (et (AD Hd 3)) (M5 (bc hG hgl7 x3))
       |5,_=>exact eF ho HK Dp (eb (Aj Hb 1))
       |6,_=>exact eF ho HK FY (et (AD Hd 5))
       |7,_=>exact eL ho HK (et (AD Hd 6)) (DA (bc hG hl7 y2))
       |8,_=>exact eM ho HK (eb (Aj Hb 10))
       |9,_=>obtain rfl:=So_ ho;have d4:(a.tmps[91]?.getD undef)=c:=AD Hd 4;have d7:(a.tmps[94]?.getD undef)= .int .i64 en:=AD Hd 7;have d8:(a.tmps[95]?.getD undef)= .int .i64 (((an:Int)/4)):=AD Hd 8;clear Hd Hb;refine AI.of rfl ?_;go_simp;refine(CF.out _ hG).mono ?_;rintro e w_ ⟨rfl,hb2⟩;exact HK.out _ _ rfl hb2
      ·intro vs wx hR hG
       have q9:(vs 9)= .int .i64 (FX k.cache (en:Int) ((an:Int)/4)):=BI hR 9;clear hR;simp only[Ai,AX,List.range,List.range.loop,List.foldl_cons,List.foldl_nil,q9];simp;clear q9;have S8:=AA (S7.out.below hG);have HP8:=AA (hG);clear y0 y2 y3 x3 hG
       by_cases hfc:FX k.cache (en:Int) ((an:Int)/4)<0
       rotate_left
       ·have HU:=AA (show Ee k.cache (en:Int) ((an:Int)/4) fp wp=k.cache by unfold Ee;rw[if_neg hfc])
        go_wp2_with fail;go_ret2;exact⟨by rw[HPE.out]<;>rfl,fun _=>⟨_,_,_,_,by rw[HPE.out,HU.out];exact S8.out.ink⟩,S8.out.bel⟩
       ·have HU:=AA (show Ee k.cache (en:Int) ((an:Int)/4) fp wp=FM k.cache ⟨(en:Int),((an:Int)/4),(fp:Int),wp⟩ by unfold Ee;rw[if_pos hfc])
        obtain⟨W8,rfl⟩:∃W8:World,W8=wx:=⟨_,rfl⟩
        have hQ8:=AF hQ7.out HP8.out;obtain⟨y0,_,y2,y3,_,_,_⟩:=S8.out.ys;obtain⟨_,_,_,x3⟩:=S8.out.xs;obtain⟨hl8,hgl8,ngb,nbg⟩:=S8.out.lts;have hq8:=Ao hQ8;have pz0:=cell_of_row _ _ 0 _ _ _ hQ8;have pz2:=cell_of_row _ _ 2 _ _ _ hQ8;have RC:Bn W8 c k.cache:=S8.out.ink.2.2.2.2.2.rd;have hck:CZ ⟨(en:Int),((an:Int)/4),(fp:Int),wp⟩=true:=by have:=Hfp.out;simp only[CZ,Bool.and_eq_true,AZ];omega
        have CP:=AA (fun W (hW:Below W8.heap.size W8 W)=>Kf c k.cache ⟨(en:Int),((an:Int)/4),(fp:Int),wp⟩ W (A3.below RC hW) (AW HK.out).2.2 hck);simp only[Aa.val] at CP;clear RC hck hQ8;go_wp2_with fail;refine Bs 23 mixed 121 rfl (by kernel_rfl) rfl (fun ix=>ix==22) (fun ll ix vv ww=>match ix with
         |0=>vv= .pointer (some ⟨w.heap.size,0,none⟩)
         |1=>vv= .pointer (some ⟨g,0,none⟩)
         |2=>vv= .pointer (some ⟨w.heap.size,0,none⟩)
         |3=>vv= .pointer (some ⟨g,0,none⟩)
         |4=>vv= .pointer (some ⟨g,0,none⟩)
         |5=>vv= .pointer (some ⟨g,3,none⟩)
         |6=>vv=c
         |7=>vv= .pointer (some ⟨w.heap.size,1,none⟩)
         |8=>vv= .pointer (some ⟨w.heap.size,2,none⟩)
         |9=>vv= .int .i64 en
         |10=>vv= .int .i64 (((an:Int)/4))
         |11=>vv= .pointer (some ⟨q,0,none⟩)
         |12=>vv= .int .i64 fp
         |13=>vv= .pointer (some ⟨q,2,none⟩)
         |14=>vv= .bool wp
         |15=>vv= .agg #[.int .i64 en, .int .i64 (((an:Int)/4)), .int .i64 fp, .bool wp]
         |16=>∃v',vv= .tuple #[v', .bool true]∧AJ W8.heap.size 140 4 AP ww v' (FM k.cache ⟨(en:Int),((an:Int)/4),(fp:Int),wp⟩)
         |17=>∃v',vv= .tuple #[v', .bool true]∧AJ W8.heap.size 140 4 AP ww v' (FM k.cache ⟨(en:Int),((an:Int)/4),(fp:Int),wp⟩)
         |18=>AJ W8.heap.size 140 4 AP ww vv (FM k.cache ⟨(en:Int),((an:Int)/4),(fp:Int),wp⟩)
         |19=>vv= .bool true
         |20=>vv= .pointer (some ⟨g,0,none⟩)
         |21=>vv= .pointer (some ⟨g,3,none⟩)
         |22=>True
         |_=>True) (fun ll ww=>Oo W8 lo g w.heap.size ⟨10,(en:Int),(an:Int),b1,c1,nm⟩ w (.slice (some ⟨gm,0,none⟩) 12 capm) (.slice (some ⟨gi,0,none⟩) 12 capi) (.slice (some ⟨ge,0,none⟩) 3 cap) {k with cache:=(FM k.cache ⟨(en:Int),((an:Int)/4),(fp:Int),wp⟩)} (ll 22) ww) ?_ ?_ ?_ ?_ ?_ ?_
        ·exact Ar (Below.refl _ _) 1
        ·intro j hj ll i vv wz ww' hi hS hLi hLj hbz hz
         match j,hj with
         |0,_|1,_|2,_|3,_|4,_|5,_|6,_|7,_|8,_|9,_|10,_|11,_|12,_|13,_|14,_|15,_=>exact hz
         |16,_=>exact(by obtain⟨v',h0,h1⟩:=hz;exact⟨v',h0,AJ.below h1 hbz⟩)
         |17,_=>exact(by obtain⟨v',h0,h1⟩:=hz;exact⟨v',h0,AJ.below h1 hbz⟩)
         |18,_=>exact(AJ.below hz hbz)
         |19,_|20,_|21,_|22,_=>exact hz
         |_+23,hq=>exact absurd hq (by omega)
        ·intro ll i wz ww' hi hS hLi hbz hg
         show Oo _ _ _ _ _ _ _ _ _ _ (JK ll i 22) _
         rw[En (by rintro rfl;cases hS)];exact Oo.grow hg hbz
        ·intro i hi hS o ho a wx Hb ll Hd HL hG K HK
         match i,hi,hS with
         |0,_,_=>obtain rfl:=So_ ho;exact eF ho HK BP (eb (Aj Hb 1))
         |1,_,_=>
          obtain rfl:=So_ ho;have d0:(a.tmps[99]?.getD undef)= .pointer (some ⟨w.heap.size,0,none⟩):=Be Hd HL 0;have u22:ll 22=false:=by
           cases hx:ll 22
           ·rfl
           ·exact absurd (HL.out.2.2 22 1 hx (by kernel_rfl)) (by rw[HL.out.1];decide)
          rw[u22] at hG;replace hG:Below W8.heap.size W8 wx:=hG;clear Hd Hb;have m0:=(hG.cell (p:=⟨w.heap.size,0,none⟩) hl8).trans y0;refine AI.of rfl ?_;go_simp;exact HK.out _ _ rfl (Below.refl _ _)
         |2,_,_=>obtain rfl:=So_ ho;exact eF ho HK BP (eb (Aj Hb 1))
         |3,_,_=>
          obtain rfl:=So_ ho;have d2:(a.tmps[101]?.getD undef)= .pointer (some ⟨w.heap.size,0,none⟩):=Be Hd HL 2;have u22:ll 22=false:=by
           cases hx:ll 22
           ·rfl
           ·exact absurd (HL.out.2.2 22 3 hx (by kernel_rfl)) (by rw[HL.out.1];decide)
          rw[u22] at hG;replace hG:Below W8.heap.size W8 wx:=hG;clear Hd Hb;have m0:=(hG.cell (p:=⟨w.heap.size,0,none⟩) hl8).trans y0;refine AI.of rfl ?_;go_simp;exact HK.out _ _ rfl (Below.refl _ _)
         |4,_,_=>obtain rfl:=So_ ho;exact eC ho HK (et (Be Hd HL 3))
         |5,_,_=>obtain rfl:=So_ ho;exact eF ho HK EU (et (Be Hd HL 4))
         |6,_,_=>
          obtain rfl:=So_ ho;have d5:(a.tmps[104]?.getD undef)= .pointer (some ⟨g,3,none⟩):=Be Hd HL 5;have u22:ll 22=false:=by
           cases hx:ll 22
           ·rfl
           ·exact absurd (HL.out.2.2 22 6 hx (by kernel_rfl)) (by rw[HL.out.1];decide)
          rw[u22] at hG;replace hG:Below W8.heap.size W8 wx:=hG;clear Hd Hb;have m0:=(hG.cell (p:=⟨g,3,none⟩) hgl8).trans x3;refine AI.of rfl ?_;go_simp;exact HK.out _ _ rfl (Below.refl _ _)
         |7,_,_=>obtain rfl:=So_ ho;exact eF ho HK Dp (eb (Aj Hb 1))
         |8,_,_=>obtain rfl:=So_ ho;exact eF ho HK FY (et (Be Hd HL 7))
         |9,_,_=>
          obtain rfl:=So_ ho;have d8:(a.tmps[107]?.getD undef)= .pointer (some ⟨w.heap.size,2,none⟩):=Be Hd HL 8;have u22:ll 22=false:=by
           cases hx:ll 22
           ·rfl
           ·exact absurd (HL.out.2.2 22 9 hx (by kernel_rfl)) (by rw[HL.out.1];decide)
          rw[u22] at hG;replace hG:Below W8.heap.size W8 wx:=hG;clear Hd Hb;have m0:=(hG.cell (p:=⟨w.heap.size,2,none⟩) hl8).trans y2;refine AI.of rfl ?_;go_simp;exact HK.out _ _ rfl (Below.refl _ _)
         |10,_,_=>obtain rfl:=So_ ho;exact eM ho HK (eb (Aj Hb 10))
         |11,_,_=>obtain rfl:=So_ ho;exact eF ho HK ML (eb (Aj Hb 6))
         |12,_,_=>
          obtain rfl:=So_ ho;have d11:(a.tmps[110]?.getD undef)= .pointer (some ⟨q,0,none⟩):=Be Hd HL 11;have u22:ll 22=false:=by
           cases hx:ll 22
           ·rfl
           ·exact absurd (HL.out.2.2 22 12 hx (by kernel_rfl)) (by rw[HL.out.1];decide)
          rw[u22] at hG;replace hG:Below W8.heap.size W8 wx:=hG;clear Hd Hb;have m0:=(hG.cell (p:=⟨q,0,none⟩) hq8).trans pz0;refine AI.of rfl ?_;go_simp;exact HK.out _ _ rfl (Below.refl _ _)
         |13,_,_=>obtain rfl:=So_ ho;exact eF ho HK Sb (eb (Aj Hb 6))
         |14,_,_=>
          obtain rfl:=So_ ho;have d13:(a.tmps[112]?.getD undef)= .pointer (some ⟨q,2,none⟩):=Be Hd HL 13;have u22:ll 22=false:=by
           cases hx:ll 22
           ·rfl
           ·exact absurd (HL.out.2.2 22 14 hx (by kernel_rfl)) (by rw[HL.out.1];decide)
          rw[u22] at hG;replace hG:Below W8.heap.size W8 wx:=hG;clear Hd Hb;have m0:=(hG.cell (p:=⟨q,2,none⟩) hq8).trans pz2;refine AI.of rfl ?_;go_simp;exact HK.out _ _ rfl (Below.refl _ _)
         |15,_,_=>
          obtain rfl:=So_ ho;have d9:(a.tmps[108]?.getD undef)= .int .i64 en:=Be Hd HL 9;have d10:(a.tmps[109]?.getD undef)= .int .i64 (((an:Int)/4)):=Be Hd HL 10;have d12:(a.tmps[111]?.getD undef)= .int .i64 fp:=Be Hd HL 12;have d14:(a.tmps[113]?.getD undef)= .bool wp:=Be Hd HL 14;have u22:ll 22=false:=by
           cases hx:ll 22
           ·rfl
           ·exact absurd (HL.out.2.2 22 15 hx (by kernel_rfl)) (by rw[HL.out.1];decide)
          rw[u22] at hG;replace hG:Below W8.heap.size W8 wx:=hG;clear Hd Hb;refine AI.of rfl ?_;go_simp;exact HK.out _ _ rfl (Below.refl _ _)
         |16,_,_=>
          obtain rfl:=So_ ho;have d6:(a.tmps[105]?.getD undef)=c:=Be Hd HL 6;have d15:(a.tmps[114]?.getD undef)= .agg #[.int .i64 en, .int .i64 (((an:Int)/4)), .int .i64 fp, .bool wp]:=Be Hd HL 15;have u22:ll 22=false:=by
           cases hx:ll 22
           ·rfl
           ·exact absurd (HL.out.2.2 22 16 hx (by kernel_rfl)) (by rw[HL.out.1];decide)
          rw[u22] at hG;replace hG:Below W8.heap.size W8 wx:=hG;clear Hd Hb;refine AI.of rfl ?_;go_simp;refine(CP.out _ hG).mono ?_;rintro e w_ ⟨v',rfl,hO,hb2⟩;exact HK.out _ _ ⟨_,rfl,hO.lower hG.size⟩ hb2
         |17,_,_=>
          obtain rfl:=So_ ho;have d16:∃v',(a.tmps[115]?.getD undef)= .tuple #[v', .bool true]∧AJ W8.heap.size 140 4 AP wx v' (FM k.cache ⟨(en:Int),((an:Int)/4),(fp:Int),wp⟩):=Be Hd HL 16
          have u22:ll 22=false:=by
           cases hx:ll 22
           ·rfl
           ·exact absurd (HL.out.2.2 22 17 hx (by kernel_rfl)) (by rw[HL.out.1];decide)
          rw[u22] at hG;replace hG:Below W8.heap.size W8 wx:=hG;clear Hd Hb;obtain⟨v',d16,hO⟩:=d16;refine AI.of rfl ?_;go_simp;exact HK.out _ _ ⟨_,rfl,hO⟩ (Below.refl _ _)
         |18,_,_=>
          obtain rfl:=So_ ho;have d17:∃v',(a.tmps[98]?.getD undef)= .tuple #[v', .bool true]∧AJ W8.heap.size 140 4 AP wx v' (FM k.cache ⟨(en:Int),((an:Int)/4),(fp:Int),wp⟩):=Be Hd HL 17
          have u22:ll 22=false:=by
           cases hx:ll 22
           ·rfl
           ·exact absurd (HL.out.2.2 22 18 hx (by kernel_rfl)) (by rw[HL.out.1];decide)
          rw[u22] at hG;replace hG:Below W8.heap.size W8 wx:=hG;clear Hd Hb;obtain⟨v',d17,hO⟩:=d17;refine AI.of rfl ?_;go_simp;exact HK.out _ _ hO (Below.refl _ _)
         |19,_,_=>
          obtain rfl:=So_ ho;have d17:∃v',(a.tmps[98]?.getD undef)= .tuple #[v', .bool true]∧AJ W8.heap.size 140 4 AP wx v' (FM k.cache ⟨(en:Int),((an:Int)/4),(fp:Int),wp⟩):=Be Hd HL 17
          clear Hd Hb;obtain⟨v',d17,hO⟩:=d17;refine AI.of rfl ?_;go_simp;exact HK.out _ _ rfl (Below.refl _ _)
         |20,_,_=>obtain rfl:=So_ ho;exact eC ho HK (et (Be Hd HL 1))
         |21,_,_=>obtain rfl:=So_ ho;exact eF ho HK EU (et (Be Hd HL 20))
         |22,_,hs=>exact absurd hs (by decide)
         |_+23,hq,_=>exact absurd hq (by omega)
        ·intro i hi hS o ho a wx Hb ll Hd HL hG K HK
         match i,hi,hS with
         |0,_,hs|1,_,hs|2,_,hs|3,_,hs|4,_,hs|5,_,hs|6,_,hs|7,_,hs|8,_,hs|9,_,hs|10,_,hs|11,_,hs|12,_,hs|13,_,hs|14,_,hs|15,_,hs|16,_,hs|17,_,hs|18,_,hs|19,_,hs|20,_,hs|21,_,hs=>exact absurd hs (by decide)
         |22,_,_=>
          obtain rfl:=So_ ho;have d21:(a.tmps[119]?.getD undef)= .pointer (some ⟨g,3,none⟩):=Be Hd HL 21;have d18:AJ W8.heap.size 140 4 AP wx (a.tmps[116]?.getD undef) (FM k.cache ⟨(en:Int),((an:Int)/4),(fp:Int),wp⟩):=Be Hd HL 18;clear Hd Hb;rw[HL.out.1] at hG;replace hG:Below W8.heap.size W8 wx:=hG;have x3w:=(S8.out.below hG).xs.2.2.2;have fzg:=AM (S8.out.below hG).ink.1;generalize e116:a.tmps[116]?.getD undef=v16 at d18;have S9:=AA (S8.out.cache hG d18);obtain⟨_,_,rfl,_,_⟩:=d18.rd.shape;clear d18;refine AI.of rfl ?_;go_simp;exact HK.out undef _ trivial (by rw[FN];exact⟨_,S9.out⟩) (fun j hji hjn hjl hu=>match j,hjn with
           |0,_|1,_|2,_|3,_|4,_|5,_|6,_|7,_|8,_|9,_|10,_|11,_|12,_|13,_|14,_|15,_=>hu
           |16,_=>(by obtain⟨v',h0,h1⟩:=hu;exact⟨v',h0,Ij h1 hgl8⟩)
           |17,_=>(by obtain⟨v',h0,h1⟩:=hu;exact⟨v',h0,Ij h1 hgl8⟩)
           |18,_=>Ij hu hgl8
           |19,_|20,_|21,_|22,_=>hu
           |_+23,hq=>absurd hq (by omega))
         |_+23,hq,_=>exact absurd hq (by omega)
        ·intro vs wx ll hall hR hG
         clear hR;simp only[Dy,Bl,List.range,List.range.loop,List.foldl_cons,List.foldl_nil];simp;rw[hall 22 (by decide)] at hG;obtain⟨c',S9⟩:=hG;have S9:=AA S9;clear hall y0 y2 y3 x3 pz0 pz2;go_wp2_with fail;go_ret2;exact⟨by rw[HPE.out]<;>rfl,fun _=>⟨_,_,_,_,by rw[HPE.out,HU.out];exact S9.out.ink⟩,S9.out.bel⟩
    ·have E:=AA (show IF k ⟨10,(en:Int),(an:Int),b1,c1,nm⟩=(k,0,3) by rw[HP2.out,if_pos e7])
     rw[if_neg e7] at CW0;have CW:=AA CW0;have e7':(cp !=0)=true:=by simp[e7]
     clear CW0 HKW2 HKW hwp e7;refine Bs 16 mixed 121 rfl (by kernel_rfl) rfl (fun ix=>ix==14) (fun ll ix vv ww=>match ix with
      |0=>vv= .pointer (some ⟨w.heap.size,0,none⟩)
      |1=>vv= .pointer (some ⟨g,0,none⟩)
      |2=>vv= .pointer (some ⟨g,0,none⟩)
      |3=>vv= .pointer (some ⟨g,0,none⟩)
      |4=>vv= .slice (some ⟨gm,0,none⟩) 12 capm
      |5=>vv= .int .i64 rn
      |6=>vv= .pointer (some ⟨w.heap.size,1,none⟩)
      |7=>vv= .pointer (some ⟨w.heap.size,3,none⟩)
      |8=>vv= .int .i64 an
      |9=>vv= .tuple #[.agg #[.int .i64 0, .int .i64 0, .bool false], .int .i64 cp]
      |10=>vv= .tuple #[.agg #[.int .i64 0, .int .i64 0, .bool false], .int .i64 cp]
      |11=>vv= .agg #[.int .i64 0, .int .i64 0, .bool false]
      |12=>vv= .int .i64 cp
      |13=>Cm W5.heap.size (ll 14) vv ww (0) (0) false
      |14=>True
      |15=>vv= .int .i64 cp
      |_=>True) (fun ll ww=>Below W5.heap.size W5 ww) ?_ ?_ ?_ ?_ ?_ ?_
     ·exact Ar (Below.refl _ _) 1
     ·intro j hj ll i vv wz ww' hi hS hLi hLj hbz hz
      match j,hj with
      |0,_|1,_|2,_|3,_|4,_|5,_|6,_|7,_|8,_|9,_|10,_|11,_|12,_=>exact hz
      |13,_=>exact(Cm.below (by rw[En (by rintro rfl;cases hS)];exact hz) hbz)
      |14,_|15,_=>exact hz
      |_+16,hq=>exact absurd hq (by omega)
     ·intro ll i wz ww' hi hS hLi hbz hg
      exact hg.trans (hbz.mono hg.size)
     ·intro i hi hS o ho a wx Hb ll Hd HL hG K HK
      match i,hi,hS with
      |0,_,_=>obtain rfl:=So_ ho;exact eF ho HK BP (eb (Aj Hb 1))
      |1,_,_=>obtain rfl:=So_ ho;exact eL ho HK (et (Be Hd HL 0)) (DY (bc hG hl5 y0))
      |2,_,_=>obtain rfl:=So_ ho;exact eC ho HK (et (Be Hd HL 1))
      |3,_,_=>obtain rfl:=So_ ho;exact eF ho HK Ci (et (Be Hd HL 2))
      |4,_,_=>obtain rfl:=So_ ho;exact eL ho HK (et (Be Hd HL 3)) (Fd (bc hG hgl5 x0))
      |5,_,_=>obtain rfl:=So_ ho;exact eM ho HK (eb (Aj Hb 5))
      |6,_,_=>obtain rfl:=So_ ho;exact eF ho HK Dp (eb (Aj Hb 1))
      |7,_,_=>obtain rfl:=So_ ho;exact eF ho HK EC (et (Be Hd HL 6))
      |8,_,_=>obtain rfl:=So_ ho;exact eL ho HK (et (Be Hd HL 7)) (DA (bc hG hl5 y3))
      |9,_,_=>
       obtain rfl:=So_ ho;have d4:(a.tmps[44]?.getD undef)= .slice (some ⟨gm,0,none⟩) 12 capm:=Be Hd HL 4;have d5:(a.tmps[45]?.getD undef)= .int .i64 rn:=Be Hd HL 5;have d8:(a.tmps[48]?.getD undef)= .int .i64 an:=Be Hd HL 8;have u14:ll 14=false:=by
        cases hx:ll 14
        ·rfl
        ·exact absurd (HL.out.2.2 14 9 hx (by kernel_rfl)) (by rw[HL.out.1];decide)
       clear Hd Hb;refine AI.of rfl ?_;go_simp;refine(CW.out _ hG).mono ?_;rintro e w_ ⟨rfl,hb2⟩;exact HK.out _ _ rfl hb2
      |10,_,_=>obtain rfl:=So_ ho;exact eM ho HK (et (Be Hd HL 9))
      |11,_,_=>
       obtain rfl:=So_ ho;have d10:(a.tmps[39]?.getD undef)= .tuple #[.agg #[.int .i64 0, .int .i64 0, .bool false], .int .i64 cp]:=Be Hd HL 10;have u14:ll 14=false:=by
        cases hx:ll 14
        ·rfl
        ·exact absurd (HL.out.2.2 14 11 hx (by kernel_rfl)) (by rw[HL.out.1];decide)
       clear Hd Hb;refine AI.of rfl ?_;go_simp;exact HK.out _ _ rfl (Below.refl _ _)
      |12,_,_=>obtain rfl:=So_ ho;have d10:(a.tmps[39]?.getD undef)= .tuple #[.agg #[.int .i64 0, .int .i64 0, .bool false], .int .i64 cp]:=Be Hd HL 10;clear Hd Hb;refine AI.of rfl ?_;go_simp;exact HK.out _ _ rfl (Below.refl _ _)
      |13,_,_=>
       obtain rfl:=So_ ho;have u14:ll 14=false:=by
        cases hx:ll 14
        ·rfl
        ·exact absurd (HL.out.2.2 14 13 hx (by kernel_rfl)) (by rw[HL.out.1];decide)
       clear Hd Hb;refine AI.of rfl ?_;go_simp;exact HK.out _ _ (Cm.zero (by rw[En (by decide)];exact u14) hG.size (heap_alloc_new _ _)) (AG _ _)
      |14,_,hs=>exact absurd hs (by decide)
      |15,_,_=>obtain rfl:=So_ ho;exact eA ho HK (et (Be Hd HL 12))
      |_+16,hq,_=>exact absurd hq (by omega)
     ·intro i hi hS o ho a wx Hb ll Hd HL hG K HK
      match i,hi,hS with
      |0,_,hs|1,_,hs|2,_,hs|3,_,hs|4,_,hs|5,_,hs|6,_,hs|7,_,hs|8,_,hs|9,_,hs|10,_,hs|11,_,hs|12,_,hs|13,_,hs=>exact absurd hs (by decide)
      |14,_,_=>
       obtain rfl:=So_ ho;have d13:Cm W5.heap.size (ll 14) (a.tmps[6]?.getD undef) wx (0) (0) false:=Be Hd HL 13;have d11:(a.tmps[50]?.getD undef)= .agg #[.int .i64 0, .int .i64 0, .bool false]:=Be Hd HL 11;clear Hd Hb;obtain⟨q,e13,hq1,hq2⟩:=d13;rw[HL.out.1] at hq2;replace hq2:wx.heap[q]? =some (.cells #[.int .i64 0, .int .i64 0, .bool false] 142 (0,0)):=hq2;have c0:=cell_of_row _ _ 0 _ _ _ hq2;have c1_:=cell_of_row _ _ 1 _ _ _ hq2;have c2:=cell_of_row _ _ 2 _ _ _ hq2;have fq:=AM hq2;have Pl:=AA (Il (W:=W5) (a:= .int .i64 0) (b:= .int .i64 0) (c:= .bool false) hq2 hG hq1);have E13:=AA e13;clear hq2;refine AI.of rfl ?_;go_simp;exact HK.out undef _ trivial Pl.out.2 (fun j hji hjn hjl hu=>match j,hjn with
        |0,_|1,_|2,_|3,_|4,_|5,_|6,_|7,_|8,_|9,_|10,_|11,_|12,_=>hu
        |13,_=>⟨q,E13.out,hq1,by rw[FN];exact Pl.out.1⟩
        |14,_|15,_=>hu
        |_+16,hq=>absurd hq (by omega))
      |15,_,hs=>exact absurd hs (by decide)
      |_+16,hq,_=>exact absurd hq (by omega)
     ·intro vs wx ll hall hR hG
      have q11:(vs 11)= .agg #[.int .i64 0, .int .i64 0, .bool false]:=BI hR 11;have q12:(vs 12)= .int .i64 cp:=BI hR 12;have q13:Cm W5.heap.size (ll 14) (vs 13) wx (0) (0) false:=BI hR 13;have q15:(vs 15)= .int .i64 cp:=BI hR 15;clear hR;simp only[Dy,Bl,List.range,List.range.loop,List.foldl_cons,List.foldl_nil,q11,q12,q15];simp;generalize vs 13=z13 at q13 ⊢;clear q11 q12 q15;have hGx:=AA hG;clear x0 y0 y1 y2 y3 y4 y5 y6 hG hall q13;go_wp2_with fail;go_ret2;exact Cx.bad E.out (by decide) (S5.out.below hGx.out).bel
 ·have HP:=AA P
  clear P;go_in;go_wp2_with fail;generalize hW0:w.alloc _=W0 at*;clear hW0;refine(CE.out _ (Below.refl _ _)).mono ?_;rintro r W1 ⟨rfl,hb1⟩;have S1:=AA (HS.out.below hb1);clear y0 y1 y2 y3 y4 y5 y6;obtain⟨y0,y1,y2,y3,y4,y5,y6⟩:=S1.out.ys;obtain⟨_,_,_,D1,_⟩:=S1.out.env (j:=en) (by rw[HK.out.envl];exact hen);clear hb1;cases e4:Bk a1 0 63
  ·have T:=AA e4
   have E:=AA (show IF k ⟨11,(en:Int),a1,b1,c1,nm⟩=(k,0,3) by rw[HP.out,if_pos (.inl e4)]);clear e4;go_wp2_with fail;refine(C0.out W1).mono ?_;rintro r w1 ⟨rfl,hb2⟩;rw[T.out];have S2:=AA (S1.out.below hb2);go_wp2_with fail;go_ret2;exact Cx.bad E.out (by decide) S2.out.bel
  ·have T:=AA e4
   have ab:=AZ.1 e4;obtain⟨an,rfl⟩:∃n:Nat,a1=(n:Int):=⟨a1.toNat,by omega⟩
   have han:an<64:=by omega
   clear e4;go_wp2_with fail;refine(C0.out W1).mono ?_;rintro r W2 ⟨rfl,hb2⟩;rw[T.out];have S2:=AA (S1.out.below hb2);clear y0 y1 y2 y3 y4 y5 y6 D1;obtain⟨y0,y1,y2,y3,y4,y5,y6⟩:=S2.out.ys;clear hb2
   by_cases e5:(AC k.envs en).root<0
   ·have E:=AA (show IF k ⟨11,(en:Int),(an:Int),b1,c1,nm⟩=(k,0,3) by rw[HP.out,if_pos (.inr (.inl e5))])
    go_wp2_with fail;go_ret2;exact Cx.bad E.out (by decide) S2.out.bel
   ·obtain⟨rn,hrn⟩:∃n:Nat,(AC k.envs en).root=(n:Int):=⟨(AC k.envs en).root.toNat,by omega⟩
    have hr12:rn<12:=by have:=root_lt HK.out hen;omega
    have HR:=AA hrn;have e5':¬(rn:Int)<0:=by omega
    clear e5;rw[hrn];clear hrn;cases e6:Bk b1 0 9999
    ·have T6:=AA e6
     have E:=AA (show IF k ⟨11,(en:Int),(an:Int),b1,c1,nm⟩=(k,0,3) by rw[HP.out,if_pos (.inr (.inr ⟨by first|rfl|trivial,e6⟩))]);clear e6;go_wp2_with fail;refine(C1.out W2).mono ?_;rintro r w1 ⟨rfl,hb2⟩;rw[T6.out];have S3:=AA (S2.out.below hb2);go_wp2_with fail;go_ret2;exact Cx.bad E.out (by decide) S3.out.bel
    ·have T6:=AA e6
     clear e6;go_wp2_with fail;refine(C1.out W2).mono ?_;rintro r W5 ⟨rfl,hb2⟩;rw[T6.out];have S5:=AA (S2.out.below hb2);clear S2 y0 y1 y2 y3 y4 y5 y6 hb2;go_wp2_with fail;have HP2:=AA (show IF k ⟨11,(en:Int),(an:Int),b1,c1,nm⟩=_ by rw[HP.out,if_neg (by rintro(x|x|⟨_,x⟩);(· rw[T.out] at x;cases x);(· rw[show(AC k.envs en).root=(rn:Int) from HR.out] at x;omega);(· rw[show E9 b1=true from T6.out] at x;cases x))]);have CW0:=fun W (hW:Below W5.heap.size W5 W)=>NY _ k.mem rn an W (S5.out.ink.2.2.rd.1.below hW) (AW HK.out).1 hr12 han
     have HKW:=AA (HK.out.walk_data (e:=en) (a:=an) hen (by show(0:Int)≤(AC k.envs en).root;rw[HR.out];omega));unfold GE IX Db at CW0;rw[HR.out] at HP2;simp only[Int.toNat_natCast] at HP2;have HKW2:=HKW.out;unfold AY at HKW2;rw[HR.out] at HKW2;simp only[Int.toNat_natCast] at HKW2;obtain⟨a4,ha4e⟩:∃n,n=an%4:=⟨_,rfl⟩
     simp only[←ha4e] at CW0;have HA4:=AA ha4e;have an4:a4<4:=by omega
     clear ha4e;generalize hwp:BV k.mem rn an=x at*;obtain⟨cp,fp,wp⟩:=x;simp only at CW0 HP2 HKW2;obtain⟨y0,y1,y2,y3,y4,y5,y6⟩:=S5.out.ys;obtain⟨x0,_,_,_⟩:=S5.out.xs;obtain⟨hl5,hgl5,ngb,nbg⟩:=S5.out.lts
     by_cases e7:cp=0
     ·subst e7
      simp only[if_true] at CW0;have CW:=AA CW0;have Hfp:=AA (HKW2 rfl).1;clear CW0 HKW2 HKW hwp;refine Bs 16 mixed 121 rfl (by kernel_rfl) rfl (fun ix=>ix==14) (fun ll ix vv ww=>match ix with
       |0=>vv= .pointer (some ⟨w.heap.size,0,none⟩)
       |1=>vv= .pointer (some ⟨g,0,none⟩)
       |2=>vv= .pointer (some ⟨g,0,none⟩)
       |3=>vv= .pointer (some ⟨g,0,none⟩)
       |4=>vv= .slice (some ⟨gm,0,none⟩) 12 capm
       |5=>vv= .int .i64 rn
       |6=>vv= .pointer (some ⟨w.heap.size,1,none⟩)
       |7=>vv= .pointer (some ⟨w.heap.size,3,none⟩)
       |8=>vv= .int .i64 an
       |9=>vv= .tuple #[.agg #[.int .i64 fp, .int .i64 a4, .bool wp], .int .i64 0]
       |10=>vv= .tuple #[.agg #[.int .i64 fp, .int .i64 a4, .bool wp], .int .i64 0]
       |11=>vv= .agg #[.int .i64 fp, .int .i64 a4, .bool wp]
       |12=>vv= .int .i64 0
       |13=>Cm W5.heap.size (ll 14) vv ww ((fp:Int)) ((a4:Int)) wp
       |14=>True
       |15=>vv= .int .i64 0
       |_=>True) (fun ll ww=>Below W5.heap.size W5 ww) ?_ ?_ ?_ ?_ ?_ ?_
      ·exact Ar (Below.refl _ _) 1
      ·intro j hj ll i vv wz ww' hi hS hLi hLj hbz hz
       match j,hj with
       |0,_|1,_|2,_|3,_|4,_|5,_|6,_|7,_|8,_|9,_|10,_|11,_|12,_=>exact hz
       |13,_=>exact(Cm.below (by rw[En (by rintro rfl;cases hS)];exact hz) hbz)
       |14,_|15,_=>exact hz
       |_+16,hq=>exact absurd hq (by omega)
      ·intro ll i wz ww' hi hS hLi hbz hg
       exact hg.trans (hbz.mono hg.size)
      ·intro i hi hS o ho a wx Hb ll Hd HL hG K HK
       match i,hi,hS with
       |0,_,_=>obtain rfl:=So_ ho;exact eF ho HK BP (eb (Aj Hb 1))
       |1,_,_=>obtain rfl:=So_ ho;exact eL ho HK (et (Be Hd HL 0)) (DY (bc hG hl5 y0))
       |2,_,_=>obtain rfl:=So_ ho;exact eC ho HK (et (Be Hd HL 1))
       |3,_,_=>obtain rfl:=So_ ho;exact eF ho HK Ci (et (Be Hd HL 2))
       |4,_,_=>obtain rfl:=So_ ho;exact eL ho HK (et (Be Hd HL 3)) (Fd (bc hG hgl5 x0))
       |5,_,_=>obtain rfl:=So_ ho;exact eM ho HK (eb (Aj Hb 5))
       |6,_,_=>obtain rfl:=So_ ho;exact eF ho HK Dp (eb (Aj Hb 1))
       |7,_,_=>obtain rfl:=So_ ho;exact eF ho HK EC (et (Be Hd HL 6))
       |8,_,_=>obtain rfl:=So_ ho;exact eL ho HK (et (Be Hd HL 7)) (DA (bc hG hl5 y3))
       |9,_,_=>
        obtain rfl:=So_ ho;have d4:(a.tmps[44]?.getD undef)= .slice (some ⟨gm,0,none⟩) 12 capm:=Be Hd HL 4;have d5:(a.tmps[45]?.getD undef)= .int .i64 rn:=Be Hd HL 5;have d8:(a.tmps[48]?.getD undef)= .int .i64 an:=Be Hd HL 8;have u14:ll 14=false:=by
         cases hx:ll 14
         ·rfl
         ·exact absurd (HL.out.2.2 14 9 hx (by kernel_rfl)) (by rw[HL.out.1];decide)
        clear Hd Hb;refine AI.of rfl ?_;go_simp;refine(CW.out _ hG).mono ?_;rintro e w_ ⟨rfl,hb2⟩;exact HK.out _ _ rfl hb2
       |10,_,_=>obtain rfl:=So_ ho;exact eM ho HK (et (Be Hd HL 9))
       |11,_,_=>
        obtain rfl:=So_ ho;have d10:(a.tmps[39]?.getD undef)= .tuple #[.agg #[.int .i64 fp, .int .i64 a4, .bool wp], .int .i64 0]:=Be Hd HL 10;have u14:ll 14=false:=by
         cases hx:ll 14
         ·rfl
         ·exact absurd (HL.out.2.2 14 11 hx (by kernel_rfl)) (by rw[HL.out.1];decide)
        clear Hd Hb;refine AI.of rfl ?_;go_simp;exact HK.out _ _ rfl (Below.refl _ _)
       |12,_,_=>obtain rfl:=So_ ho;have d10:(a.tmps[39]?.getD undef)= .tuple #[.agg #[.int .i64 fp, .int .i64 a4, .bool wp], .int .i64 0]:=Be Hd HL 10;clear Hd Hb;refine AI.of rfl ?_;go_simp;exact HK.out _ _ rfl (Below.refl _ _)
       |13,_,_=>
        obtain rfl:=So_ ho;have u14:ll 14=false:=by
         cases hx:ll 14
         ·rfl
         ·exact absurd (HL.out.2.2 14 13 hx (by kernel_rfl)) (by rw[HL.out.1];decide)
        clear Hd Hb;refine AI.of rfl ?_;go_simp;exact HK.out _ _ (Cm.zero (by rw[En (by decide)];exact u14) hG.size (heap_alloc_new _ _)) (AG _ _)
       |14,_,hs=>exact absurd hs (by decide)
       |15,_,_=>obtain rfl:=So_ ho;exact eA ho HK (et (Be Hd HL 12))
       |_+16,hq,_=>exact absurd hq (by omega)
      ·intro i hi hS o ho a wx Hb ll Hd HL hG K HK
       match i,hi,hS with
       |0,_,hs|1,_,hs|2,_,hs|3,_,hs|4,_,hs|5,_,hs|6,_,hs|7,_,hs|8,_,hs|9,_,hs|10,_,hs|11,_,hs|12,_,hs|13,_,hs=>exact absurd hs (by decide)
       |14,_,_=>
        obtain rfl:=So_ ho;have d13:Cm W5.heap.size (ll 14) (a.tmps[6]?.getD undef) wx ((fp:Int)) ((a4:Int)) wp:=Be Hd HL 13;have d11:(a.tmps[50]?.getD undef)= .agg #[.int .i64 fp, .int .i64 a4, .bool wp]:=Be Hd HL 11;clear Hd Hb;obtain⟨q,e13,hq1,hq2⟩:=d13;rw[HL.out.1] at hq2;replace hq2:wx.heap[q]? =some (.cells #[.int .i64 0, .int .i64 0, .bool false] 142 (0,0)):=hq2;have c0:=cell_of_row _ _ 0 _ _ _ hq2;have c1_:=cell_of_row _ _ 1 _ _ _ hq2;have c2:=cell_of_row _ _ 2 _ _ _ hq2;have fq:=AM hq2;have Pl:=AA (Il (W:=W5) (a:= .int .i64 fp) (b:= .int .i64 a4) (c:= .bool wp) hq2 hG hq1);have E13:=AA e13;clear hq2;refine AI.of rfl ?_;go_simp;exact HK.out undef _ trivial Pl.out.2 (fun j hji hjn hjl hu=>match j,hjn with
         |0,_|1,_|2,_|3,_|4,_|5,_|6,_|7,_|8,_|9,_|10,_|11,_|12,_=>hu
         |13,_=>⟨q,E13.out,hq1,by rw[FN];exact Pl.out.1⟩
         |14,_|15,_=>hu
         |_+16,hq=>absurd hq (by omega))
       |15,_,hs=>exact absurd hs (by decide)
       |_+16,hq,_=>exact absurd hq (by omega)
      ·intro vs wx ll hall hR hG
       have q11:(vs 11)= .agg #[.int .i64 fp, .int .i64 a4, .bool wp]:=BI hR 11;have q12:(vs 12)= .int .i64 0:=BI hR 12;have q13:Cm W5.heap.size (ll 14) (vs 13) wx ((fp:Int)) ((a4:Int)) wp:=BI hR 13;have q15:(vs 15)= .int .i64 0:=BI hR 15;clear hR;simp only[Dy,Bl,List.range,List.range.loop,List.foldl_cons,List.foldl_nil,q11,q12,q15];simp;generalize vs 13=z13 at q13 ⊢;clear q11 q12 q15;obtain⟨q,rfl,hq1,hq2⟩:=q13;rw[hall 14 (by decide)] at hq2;replace hq2:wx.heap[q]? =some (.cells #[.int .i64 fp, .int .i64 a4, .bool wp] 142 (0,0)):=hq2;have S6:=AA (S5.out.below hG);have hQ6:=hq2;clear hq2 x0 y0 y1 y2 y3 y4 y5 y6 hG hall;obtain⟨W6,rfl⟩:∃W6:World,W6=wx:=⟨_,rfl⟩
       have HPE:=AA (show IF k ⟨11,(en:Int),(an:Int),b1,c1,nm⟩=if wp=false then(k,0,1) else({k with mem:=Ch k.mem fp a4 b1,cache:=Ee k.cache (en:Int) ((an:Int)/4) fp wp},0,0) by rw[HP2.out,if_neg (by simp)];simp only[true_and,if_true,show((an:Int)%4).toNat=a4 by have:=HA4.out;omega])
       have z2_:=cell_of_row _ _ 2 _ _ _ hQ6;cases wp
       ·have E:=AA (show IF k ⟨11,(en:Int),(an:Int),b1,c1,nm⟩=(k,0,1) by rw[HPE.out,if_pos rfl])
        go_wp2_with fail;go_ret2;exact Cx.bad E.out (by decide) S6.out.bel
       have HPE2:=AA (show IF k ⟨11,(en:Int),(an:Int),b1,c1,nm⟩=({k with mem:=Ch k.mem fp a4 b1,cache:=Ee k.cache (en:Int) ((an:Int)/4) fp true},0,0) by rw[HPE.out,if_neg (by decide)]);go_wp2_with fail;clear z2_ HPE;have HPE:=HPE2;obtain⟨y0,_,_,y3,y4,_,_⟩:=S6.out.ys;obtain⟨x0,_,_,_⟩:=S6.out.xs;obtain⟨gw,capw,Dw0,hgw,hcw,Dj,fzw,⟨⟨ngw1,ngw2⟩,ngw3,ngw4⟩,_,_,SW⟩:=S6.out.mrow (AW HK.out).1 (f:=fp) Hfp.out;have z0:=cell_regrown (cell_of_row _ _ 0 _ _ _ hQ6);have z1:=cell_regrown (cell_of_row _ _ 1 _ _ _ hQ6);replace y0:=cell_regrown y0;replace x0:=cell_regrown x0;have Dw:=cell_regrown Dw0;have hf12:(fp:Int)<12:=by have:=Hfp.out;omega
       have ha4:(a4:Int)<4:=by omega
       have hbl:=S6.out.lts.1;have HD:=AA Dj;clear Dj SW;refine wp_region_quiet_below mixed (by kernel_rfl) ?_
       repeat(go_big_quiet_step (fail))
       refine wpQuiet_nil ?_;intro _ hw';obtain⟨⟨dq,osq⟩,hw''⟩:=hw';subst hw'';have bq:=below_regrown W6 dq osq;generalize Sort.grow (redrawn W6 dq) osq=wq at bq;clear z0 z1 y0 x0 Dw;have S7:=AA (S6.out.below bq);have hQ7:=AA (AF hQ6 bq);have Dv:=(bq.cell (p:=⟨gw,a4,none⟩) hgw).trans (HD.out a4 an4);replace y3:=(bq.cell (p:=⟨w.heap.size,3,none⟩) hbl).trans y3;replace y4:=(bq.cell (p:=⟨w.heap.size,4,none⟩) hbl).trans y4;have hd4:(0:Int)≤(an:Int):=by omega
       obtain⟨gw',capw',Dw7,hgw7,_,_,fzw7,_,_,hT7,SW7⟩:=S7.out.mrow (AW HK.out).1 (f:=fp) Hfp.out;have hsame:=(bq.cell (p:=⟨gm,fp,none⟩) (World.block_lt_of_cell? _ _ Dw0)).trans Dw0;rw[hsame] at Dw7;have hgg:gw=gw':=by simp at Dw7;exact Dw7.1
       subst hgg;have S7b:=AA (SW7 a4 b1 an4);have hQb:=AA (BD hQ7.out (Al wq gw a4 (.int .i64 b1)) (hT7 q _ _ hQ7.out (by decide)));have fz7:=fzw7 a4;clear hQ6 SW7 hT7 fzw7 hsame Dw7 Dw0 HD fzw bq S7 hQ7 S6;go_wp2_with fail;clear y3 y4 Dv fz7;generalize wq.setCell _ _=W7 at*;have S7:=S7b;have hQ7:=hQb;clear S7b hQb;obtain⟨y0,_,y2,y3,_,_,_⟩:=S7.out.ys;obtain⟨_,_,_,x3⟩:=S7.out.xs;obtain⟨hl7,hgl7,_,_⟩:=S7.out.lts;have RC:Bn W7 c k.cache:=S7.out.ink.2.2.2.2.2.rd;have CF:=AA (fun W (hW:Below W7.heap.size W7 W)=>KR c k.cache (en:Int) ((an:Int)/4) W (A3.below RC hW));clear RC;refine AH 10 mixed (by kernel_rfl) 121 rfl (by kernel_rfl) (fun ix vv ww=>match ix with
        |0=>vv= .pointer (some ⟨w.heap.size,0,none⟩)
        |1=>vv= .pointer (some ⟨g,0,none⟩)
        |2=>vv= .pointer (some ⟨g,0,none⟩)
        |3=>vv= .pointer (some ⟨g,3,none⟩)
        |4=>vv=c
        |5=>vv= .pointer (some ⟨w.heap.size,1,none⟩)
        |6=>vv= .pointer (some ⟨w.heap.size,2,none⟩)
        |7=>vv= .int .i64 en
        |8=>vv= .int .i64 (((an:Int)/4))
        |9=>vv= .int .i64 (FX k.cache (en:Int) ((an:Int)/4))
        |_=>True) ?_ ?_ ?_
       ·intro i hi vv wz ww' hbz hz
        match i,hi with
        |0,_|1,_|2,_|3,_|4,_|5,_|6,_|7,_|8,_|9,_=>exact hz
       ·intro i hi o ho a wx Hb Hd hG K HK
        match i,hi with
        |0,_=>exact eF ho HK BP (eb (Aj Hb 1))
        |1,_=>exact eL ho HK (et (AD Hd 0)) (DY (bc hG hl7 y0))
        |2,_=>exact eC ho HK (et (AD Hd 1))
        |3,_=>exact eF ho HK EU (et (AD Hd 2))
        |4,_=>exact eL ho HK (et (AD Hd 3)) (M5 (bc hG hgl7 x3))
        |5,_=>exact eF ho HK Dp (eb (Aj Hb 1))
        |6,_=>exact eF ho HK FY (et (AD Hd 5))
        |7,_=>exact eL ho HK (et (AD Hd 6)) (DA (bc hG hl7 y2))
        |8,_=>exact eM ho HK (eb (Aj Hb 10))
        |9,_=>obtain rfl:=So_ ho;have d4:(a.tmps[91]?.getD undef)=c:=AD Hd 4;have d7:(a.tmps[94]?.getD undef)= .int .i64 en:=AD Hd 7;have d8:(a.tmps[95]?.getD undef)= .int .i64 (((an:Int)/4)):=AD Hd 8;clear Hd Hb;refine AI.of rfl ?_;go_simp;refine(CF.out _ hG).mono ?_;rintro e w_ ⟨rfl,hb2⟩;exact HK.out _ _ rfl hb2
       ·intro vs wx hR hG
        have q9:(vs 9)= .int .i64 (FX k.cache (en:Int) ((an:Int)/4)):=BI hR 9;clear hR;simp only[Ai,AX,List.range,List.range.loop,List.foldl_cons,List.foldl_nil,q9];simp;clear q9;have S8:=AA (S7.out.below hG);have HP8:=AA (hG);clear y0 y2 y3 x3 hG
        by_cases hfc:FX k.cache (en:Int) ((an:Int)/4)<0
        rotate_left
        ·have HU:=AA (show Ee k.cache (en:Int) ((an:Int)/4) fp true=k.cache by unfold Ee;rw[if_neg hfc])
         go_wp2_with fail;go_ret2;exact⟨by rw[HPE.out]<;>rfl,fun _=>⟨_,_,_,_,by rw[HPE.out,HU.out];exact S8.out.ink⟩,S8.out.bel⟩
        ·have HU:=AA (show Ee k.cache (en:Int) ((an:Int)/4) fp true=FM k.cache ⟨(en:Int),((an:Int)/4),(fp:Int),true⟩ by unfold Ee;rw[if_pos hfc])
         obtain⟨W8,rfl⟩:∃W8:World,W8=wx:=⟨_,rfl⟩
         have hQ8:=AF hQ7.out HP8.out;obtain⟨y0,_,y2,y3,_,_,_⟩:=S8.out.ys;obtain⟨_,_,_,x3⟩:=S8.out.xs;obtain⟨hl8,hgl8,ngb,nbg⟩:=S8.out.lts;have hq8:=Ao hQ8;have pz0:=cell_of_row _ _ 0 _ _ _ hQ8;have pz2:=cell_of_row _ _ 2 _ _ _ hQ8;have RC:Bn W8 c k.cache:=S8.out.ink.2.2.2.2.2.rd;have hck:CZ ⟨(en:Int),((an:Int)/4),(fp:Int),true⟩=true:=by have:=Hfp.out;simp only[CZ,Bool.and_eq_true,AZ];omega
         have CP:=AA (fun W (hW:Below W8.heap.size W8 W)=>Kf c k.cache ⟨(en:Int),((an:Int)/4),(fp:Int),true⟩ W (A3.below RC hW) (AW HK.out).2.2 hck);simp only[Aa.val] at CP;clear RC hck hQ8;go_wp2_with fail;refine Bs 23 mixed 121 rfl (by kernel_rfl) rfl (fun ix=>ix==22) (fun ll ix vv ww=>match ix with
          |0=>vv= .pointer (some ⟨w.heap.size,0,none⟩)
          |1=>vv= .pointer (some ⟨g,0,none⟩)
          |2=>vv= .pointer (some ⟨w.heap.size,0,none⟩)
          |3=>vv= .pointer (some ⟨g,0,none⟩)
          |4=>vv= .pointer (some ⟨g,0,none⟩)
          |5=>vv= .pointer (some ⟨g,3,none⟩)
          |6=>vv=c
          |7=>vv= .pointer (some ⟨w.heap.size,1,none⟩)
          |8=>vv= .pointer (some ⟨w.heap.size,2,none⟩)
          |9=>vv= .int .i64 en
          |10=>vv= .int .i64 (((an:Int)/4))
          |11=>vv= .pointer (some ⟨q,0,none⟩)
          |12=>vv= .int .i64 fp
          |13=>vv= .pointer (some ⟨q,2,none⟩)
          |14=>vv= .bool true
          |15=>vv= .agg #[.int .i64 en, .int .i64 (((an:Int)/4)), .int .i64 fp, .bool true]
          |16=>∃v',vv= .tuple #[v', .bool true]∧AJ W8.heap.size 140 4 AP ww v' (FM k.cache ⟨(en:Int),((an:Int)/4),(fp:Int),true⟩)
          |17=>∃v',vv= .tuple #[v', .bool true]∧AJ W8.heap.size 140 4 AP ww v' (FM k.cache ⟨(en:Int),((an:Int)/4),(fp:Int),true⟩)
          |18=>AJ W8.heap.size 140 4 AP ww vv (FM k.cache ⟨(en:Int),((an:Int)/4),(fp:Int),true⟩)
          |19=>vv= .bool true
          |20=>vv= .pointer (some ⟨g,0,none⟩)
          |21=>vv= .pointer (some ⟨g,3,none⟩)
          |22=>True
          |_=>True) (fun ll ww=>Oo W8 lo g w.heap.size ⟨11,(en:Int),(an:Int),b1,c1,nm⟩ w (.slice (some ⟨gm,0,none⟩) 12 capm) (.slice (some ⟨gi,0,none⟩) 12 capi) (.slice (some ⟨ge,0,none⟩) 3 cap) {k with mem:=Ch k.mem fp a4 b1,cache:=(FM k.cache ⟨(en:Int),((an:Int)/4),(fp:Int),true⟩)} (ll 22) ww) ?_ ?_ ?_ ?_ ?_ ?_
         ·exact Ar (Below.refl _ _) 1
         ·intro j hj ll i vv wz ww' hi hS hLi hLj hbz hz
          match j,hj with
          |0,_|1,_|2,_|3,_|4,_|5,_|6,_|7,_|8,_|9,_|10,_|11,_|12,_|13,_|14,_|15,_=>exact hz
          |16,_=>exact(by obtain⟨v',h0,h1⟩:=hz;exact⟨v',h0,AJ.below h1 hbz⟩)
          |17,_=>exact(by obtain⟨v',h0,h1⟩:=hz;exact⟨v',h0,AJ.below h1 hbz⟩)
          |18,_=>exact(AJ.below hz hbz)
          |19,_|20,_|21,_|22,_=>exact hz
          |_+23,hq=>exact absurd hq (by omega)
         ·intro ll i wz ww' hi hS hLi hbz hg
          show Oo _ _ _ _ _ _ _ _ _ _ (JK ll i 22) _
          rw[En (by rintro rfl;cases hS)];exact Oo.grow hg hbz
         ·intro i hi hS o ho a wx Hb ll Hd HL hG K HK
          match i,hi,hS with
          |0,_,_=>obtain rfl:=So_ ho;exact eF ho HK BP (eb (Aj Hb 1))
          |1,_,_=>
           obtain rfl:=So_ ho;have d0:(a.tmps[99]?.getD undef)= .pointer (some ⟨w.heap.size,0,none⟩):=Be Hd HL 0;have u22:ll 22=false:=by
            cases hx:ll 22
            ·rfl
            ·exact absurd (HL.out.2.2 22 1 hx (by kernel_rfl)) (by rw[HL.out.1];decide)
           rw[u22] at hG;replace hG:Below W8.heap.size W8 wx:=hG;clear Hd Hb;have m0:=(hG.cell (p:=⟨w.heap.size,0,none⟩) hl8).trans y0;refine AI.of rfl ?_;go_simp;exact HK.out _ _ rfl (Below.refl _ _)
          |2,_,_=>obtain rfl:=So_ ho;exact eF ho HK BP (eb (Aj Hb 1))
          |3,_,_=>
           obtain rfl:=So_ ho;have d2:(a.tmps[101]?.getD undef)= .pointer (some ⟨w.heap.size,0,none⟩):=Be Hd HL 2;have u22:ll 22=false:=by
            cases hx:ll 22
            ·rfl
            ·exact absurd (HL.out.2.2 22 3 hx (by kernel_rfl)) (by rw[HL.out.1];decide)
           rw[u22] at hG;replace hG:Below W8.heap.size W8 wx:=hG;clear Hd Hb;have m0:=(hG.cell (p:=⟨w.heap.size,0,none⟩) hl8).trans y0;refine AI.of rfl ?_;go_simp;exact HK.out _ _ rfl (Below.refl _ _)
          |4,_,_=>obtain rfl:=So_ ho;exact eC ho HK (et (Be Hd HL 3))
          |5,_,_=>obtain rfl:=So_ ho;exact eF ho HK EU (et (Be Hd HL 4))
          |6,_,_=>
           obtain rfl:=So_ ho;have d5:(a.tmps[104]?.getD undef)= .pointer (some ⟨g,3,none⟩):=Be Hd HL 5;have u22:ll 22=false:=by
            cases hx:ll 22
            ·rfl
            ·exact absurd (HL.out.2.2 22 6 hx (by kernel_rfl)) (by rw[HL.out.1];decide)
           rw[u22] at hG;replace hG:Below W8.heap.size W8 wx:=hG;clear Hd Hb;have m0:=(hG.cell (p:=⟨g,3,none⟩) hgl8).trans x3;refine AI.of rfl ?_;go_simp;exact HK.out _ _ rfl (Below.refl _ _)
          |7,_,_=>obtain rfl:=So_ ho;exact eF ho HK Dp (eb (Aj Hb 1))
          |8,_,_=>obtain rfl:=So_ ho;exact eF ho HK FY (et (Be Hd HL 7))
          |9,_,_=>
           obtain rfl:=So_ ho;have d8:(a.tmps[107]?.getD undef)= .pointer (some ⟨w.heap.size,2,none⟩):=Be Hd HL 8;have u22:ll 22=false:=by
            cases hx:ll 22
            ·rfl
            ·exact absurd (HL.out.2.2 22 9 hx (by kernel_rfl)) (by rw[HL.out.1];decide)
           rw[u22] at hG;replace hG:Below W8.heap.size W8 wx:=hG;clear Hd Hb;have m0:=(hG.cell (p:=⟨w.heap.size,2,none⟩) hl8).trans y2;refine AI.of rfl ?_;go_simp;exact HK.out _ _ rfl (Below.refl _ _)
          |10,_,_=>obtain rfl:=So_ ho;exact eM ho HK (eb (Aj Hb 10))
          |11,_,_=>obtain rfl:=So_ ho;exact eF ho HK ML (eb (Aj Hb 6))
          |12,_,_=>
           obtain rfl:=So_ ho;have d11:(a.tmps[110]?.getD undef)= .pointer (some ⟨q,0,none⟩):=Be Hd HL 11;have u22:ll 22=false:=by
            cases hx:ll 22
            ·rfl
            ·exact absurd (HL.out.2.2 22 12 hx (by kernel_rfl)) (by rw[HL.out.1];decide)
           rw[u22] at hG;replace hG:Below W8.heap.size W8 wx:=hG;clear Hd Hb;have m0:=(hG.cell (p:=⟨q,0,none⟩) hq8).trans pz0;refine AI.of rfl ?_;go_simp;exact HK.out _ _ rfl (Below.refl _ _)
          |13,_,_=>obtain rfl:=So_ ho;exact eF ho HK Sb (eb (Aj Hb 6))
          |14,_,_=>
           obtain rfl:=So_ ho;have d13:(a.tmps[112]?.getD undef)= .pointer (some ⟨q,2,none⟩):=Be Hd HL 13;have u22:ll 22=false:=by
            cases hx:ll 22
            ·rfl
            ·exact absurd (HL.out.2.2 22 14 hx (by kernel_rfl)) (by rw[HL.out.1];decide)
           rw[u22] at hG;replace hG:Below W8.heap.size W8 wx:=hG;clear Hd Hb;have m0:=(hG.cell (p:=⟨q,2,none⟩) hq8).trans pz2;refine AI.of rfl ?_;go_simp;exact HK.out _ _ rfl (Below.refl _ _)
          |15,_,_=>
           obtain rfl:=So_ ho;have d9:(a.tmps[108]?.getD undef)= .int .i64 en:=Be Hd HL 9;have d10:(a.tmps[109]?.getD undef)= .int .i64 (((an:Int)/4)):=Be Hd HL 10;have d12:(a.tmps[111]?.getD undef)= .int .i64 fp:=Be Hd HL 12;have d14:(a.tmps[113]?.getD undef)= .bool true:=Be Hd HL 14;have u22:ll 22=false:=by
            cases hx:ll 22
            ·rfl
            ·exact absurd (HL.out.2.2 22 15 hx (by kernel_rfl)) (by rw[HL.out.1];decide)
           rw[u22] at hG;replace hG:Below W8.heap.size W8 wx:=hG;clear Hd Hb;refine AI.of rfl ?_;go_simp;exact HK.out _ _ rfl (Below.refl _ _)
          |16,_,_=>
           obtain rfl:=So_ ho;have d6:(a.tmps[105]?.getD undef)=c:=Be Hd HL 6;have d15:(a.tmps[114]?.getD undef)= .agg #[.int .i64 en, .int .i64 (((an:Int)/4)), .int .i64 fp, .bool true]:=Be Hd HL 15;have u22:ll 22=false:=by
            cases hx:ll 22
            ·rfl
            ·exact absurd (HL.out.2.2 22 16 hx (by kernel_rfl)) (by rw[HL.out.1];decide)
           rw[u22] at hG;replace hG:Below W8.heap.size W8 wx:=hG;clear Hd Hb;refine AI.of rfl ?_;go_simp;refine(CP.out _ hG).mono ?_;rintro e w_ ⟨v',rfl,hO,hb2⟩;exact HK.out _ _ ⟨_,rfl,hO.lower hG.size⟩ hb2
          |17,_,_=>
           obtain rfl:=So_ ho;have d16:∃v',(a.tmps[115]?.getD undef)= .tuple #[v', .bool true]∧AJ W8.heap.size 140 4 AP wx v' (FM k.cache ⟨(en:Int),((an:Int)/4),(fp:Int),true⟩):=Be Hd HL 16
           have u22:ll 22=false:=by
            cases hx:ll 22
            ·rfl
            ·exact absurd (HL.out.2.2 22 17 hx (by kernel_rfl)) (by rw[HL.out.1];decide)
           rw[u22] at hG;replace hG:Below W8.heap.size W8 wx:=hG;clear Hd Hb;obtain⟨v',d16,hO⟩:=d16;refine AI.of rfl ?_;go_simp;exact HK.out _ _ ⟨_,rfl,hO⟩ (Below.refl _ _)
          |18,_,_=>
           obtain rfl:=So_ ho;have d17:∃v',(a.tmps[98]?.getD undef)= .tuple #[v', .bool true]∧AJ W8.heap.size 140 4 AP wx v' (FM k.cache ⟨(en:Int),((an:Int)/4),(fp:Int),true⟩):=Be Hd HL 17
           have u22:ll 22=false:=by
            cases hx:ll 22
            ·rfl
            ·exact absurd (HL.out.2.2 22 18 hx (by kernel_rfl)) (by rw[HL.out.1];decide)
           rw[u22] at hG;replace hG:Below W8.heap.size W8 wx:=hG;clear Hd Hb;obtain⟨v',d17,hO⟩:=d17;refine AI.of rfl ?_;go_simp;exact HK.out _ _ hO (Below.refl _ _)
          |19,_,_=>
           obtain rfl:=So_ ho;have d17:∃v',(a.tmps[98]?.getD undef)= .tuple #[v', .bool true]∧AJ W8.heap.size 140 4 AP wx v' (FM k.cache ⟨(en:Int),((an:Int)/4),(fp:Int),true⟩):=Be Hd HL 17
           clear Hd Hb;obtain⟨v',d17,hO⟩:=d17;refine AI.of rfl ?_;go_simp;exact HK.out _ _ rfl (Below.refl _ _)
          |20,_,_=>obtain rfl:=So_ ho;exact eC ho HK (et (Be Hd HL 1))
          |21,_,_=>obtain rfl:=So_ ho;exact eF ho HK EU (et (Be Hd HL 20))
          |22,_,hs=>exact absurd hs (by decide)
          |_+23,hq,_=>exact absurd hq (by omega)
         ·intro i hi hS o ho a wx Hb ll Hd HL hG K HK
          match i,hi,hS with
          |0,_,hs|1,_,hs|2,_,hs|3,_,hs|4,_,hs|5,_,hs|6,_,hs|7,_,hs|8,_,hs|9,_,hs|10,_,hs|11,_,hs|12,_,hs|13,_,hs|14,_,hs|15,_,hs|16,_,hs|17,_,hs|18,_,hs|19,_,hs|20,_,hs|21,_,hs=>exact absurd hs (by decide)
          |22,_,_=>
           obtain rfl:=So_ ho;have d21:(a.tmps[119]?.getD undef)= .pointer (some ⟨g,3,none⟩):=Be Hd HL 21;have d18:AJ W8.heap.size 140 4 AP wx (a.tmps[116]?.getD undef) (FM k.cache ⟨(en:Int),((an:Int)/4),(fp:Int),true⟩):=Be Hd HL 18;clear Hd Hb;rw[HL.out.1] at hG;replace hG:Below W8.heap.size W8 wx:=hG;have x3w:=(S8.out.below hG).xs.2.2.2;have fzg:=AM (S8.out.below hG).ink.1;generalize e116:a.tmps[116]?.getD undef=v16 at d18;have S9:=AA (S8.out.cache hG d18);obtain⟨_,_,rfl,_,_⟩:=d18.rd.shape;clear d18;refine AI.of rfl ?_;go_simp;exact HK.out undef _ trivial (by rw[FN];exact⟨_,S9.out⟩) (fun j hji hjn hjl hu=>match j,hjn with
            |0,_|1,_|2,_|3,_|4,_|5,_|6,_|7,_|8,_|9,_|10,_|11,_|12,_|13,_|14,_|15,_=>hu
            |16,_=>(by obtain⟨v',h0,h1⟩:=hu;exact⟨v',h0,Ij h1 hgl8⟩)
            |17,_=>(by obtain⟨v',h0,h1⟩:=hu;exact⟨v',h0,Ij h1 hgl8⟩)
            |18,_=>Ij hu hgl8
            |19,_|20,_|21,_|22,_=>hu
            |_+23,hq=>absurd hq (by omega))
          |_+23,hq,_=>exact absurd hq (by omega)
         ·intro vs wx ll hall hR hG
          clear hR;simp only[Dy,Bl,List.range,List.range.loop,List.foldl_cons,List.foldl_nil];simp;rw[hall 22 (by decide)] at hG;obtain⟨c',S9⟩:=hG;have S9:=AA S9;clear hall y0 y2 y3 x3 pz0 pz2;go_wp2_with fail;go_ret2;exact⟨by rw[HPE.out]<;>rfl,fun _=>⟨_,_,_,_,by rw[HPE.out,HU.out];exact S9.out.ink⟩,S9.out.bel⟩
     ·have E:=AA (show IF k ⟨11,(en:Int),(an:Int),b1,c1,nm⟩=(k,0,3) by rw[HP2.out,if_pos e7])
      rw[if_neg e7] at CW0;have CW:=AA CW0;have e7':(cp !=0)=true:=by simp[e7]
      clear CW0 HKW2 HKW hwp e7;refine Bs 16 mixed 121 rfl (by kernel_rfl) rfl (fun ix=>ix==14) (fun ll ix vv ww=>match ix with
       |0=>vv= .pointer (some ⟨w.heap.size,0,none⟩)
       |1=>vv= .pointer (some ⟨g,0,none⟩)
       |2=>vv= .pointer (some ⟨g,0,none⟩)
       |3=>vv= .pointer (some ⟨g,0,none⟩)
       |4=>vv= .slice (some ⟨gm,0,none⟩) 12 capm
       |5=>vv= .int .i64 rn
       |6=>vv= .pointer (some ⟨w.heap.size,1,none⟩)
       |7=>vv= .pointer (some ⟨w.heap.size,3,none⟩)
       |8=>vv= .int .i64 an
       |9=>vv= .tuple #[.agg #[.int .i64 0, .int .i64 0, .bool false], .int .i64 cp]
       |10=>vv= .tuple #[.agg #[.int .i64 0, .int .i64 0, .bool false], .int .i64 cp]
       |11=>vv= .agg #[.int .i64 0, .int .i64 0, .bool false]
       |12=>vv= .int .i64 cp
       |13=>Cm W5.heap.size (ll 14) vv ww (0) (0) false
       |14=>True
       |15=>vv= .int .i64 cp
       |_=>True) (fun ll ww=>Below W5.heap.size W5 ww) ?_ ?_ ?_ ?_ ?_ ?_
      ·exact Ar (Below.refl _ _) 1
      ·intro j hj ll i vv wz ww' hi hS hLi hLj hbz hz
       match j,hj with
       |0,_|1,_|2,_|3,_|4,_|5,_|6,_|7,_|8,_|9,_|10,_|11,_|12,_=>exact hz
       |13,_=>exact(Cm.below (by rw[En (by rintro rfl;cases hS)];exact hz) hbz)
       |14,_|15,_=>exact hz
       |_+16,hq=>exact absurd hq (by omega)
      ·intro ll i wz ww' hi hS hLi hbz hg
       exact hg.trans (hbz.mono hg.size)
      ·intro i hi hS o ho a wx Hb ll Hd HL hG K HK
       match i,hi,hS with
       |0,_,_=>obtain rfl:=So_ ho;exact eF ho HK BP (eb (Aj Hb 1))
       |1,_,_=>obtain rfl:=So_ ho;exact eL ho HK (et (Be Hd HL 0)) (DY (bc hG hl5 y0))
       |2,_,_=>obtain rfl:=So_ ho;exact eC ho HK (et (Be Hd HL 1))
       |3,_,_=>obtain rfl:=So_ ho;exact eF ho HK Ci (et (Be Hd HL 2))
       |4,_,_=>obtain rfl:=So_ ho;exact eL ho HK (et (Be Hd HL 3)) (Fd (bc hG hgl5 x0))
       |5,_,_=>obtain rfl:=So_ ho;exact eM ho HK (eb (Aj Hb 5))
       |6,_,_=>obtain rfl:=So_ ho;exact eF ho HK Dp (eb (Aj Hb 1))
       |7,_,_=>obtain rfl:=So_ ho;exact eF ho HK EC (et (Be Hd HL 6))
       |8,_,_=>obtain rfl:=So_ ho;exact eL ho HK (et (Be Hd HL 7)) (DA (bc hG hl5 y3))
       |9,_,_=>
        obtain rfl:=So_ ho;have d4:(a.tmps[44]?.getD undef)= .slice (some ⟨gm,0,none⟩) 12 capm:=Be Hd HL 4;have d5:(a.tmps[45]?.getD undef)= .int .i64 rn:=Be Hd HL 5;have d8:(a.tmps[48]?.getD undef)= .int .i64 an:=Be Hd HL 8;have u14:ll 14=false:=by
         cases hx:ll 14
         ·rfl
         ·exact absurd (HL.out.2.2 14 9 hx (by kernel_rfl)) (by rw[HL.out.1];decide)
        clear Hd Hb;refine AI.of rfl ?_;go_simp;refine(CW.out _ hG).mono ?_;rintro e w_ ⟨rfl,hb2⟩;exact HK.out _ _ rfl hb2
       |10,_,_=>obtain rfl:=So_ ho;exact eM ho HK (et (Be Hd HL 9))
       |11,_,_=>
        obtain rfl:=So_ ho;have d10:(a.tmps[39]?.getD undef)= .tuple #[.agg #[.int .i64 0, .int .i64 0, .bool false], .int .i64 cp]:=Be Hd HL 10;have u14:ll 14=false:=by
         cases hx:ll 14
         ·rfl
         ·exact absurd (HL.out.2.2 14 11 hx (by kernel_rfl)) (by rw[HL.out.1];decide)
        clear Hd Hb;refine AI.of rfl ?_;go_simp;exact HK.out _ _ rfl (Below.refl _ _)
       |12,_,_=>obtain rfl:=So_ ho;have d10:(a.tmps[39]?.getD undef)= .tuple #[.agg #[.int .i64 0, .int .i64 0, .bool false], .int .i64 cp]:=Be Hd HL 10;clear Hd Hb;refine AI.of rfl ?_;go_simp;exact HK.out _ _ rfl (Below.refl _ _)
       |13,_,_=>
        obtain rfl:=So_ ho;have u14:ll 14=false:=by
         cases hx:ll 14
         ·rfl
         ·exact absurd (HL.out.2.2 14 13 hx (by kernel_rfl)) (by rw[HL.out.1];decide)
        clear Hd Hb;refine AI.of rfl ?_;go_simp;exact HK.out _ _ (Cm.zero (by rw[En (by decide)];exact u14) hG.size (heap_alloc_new _ _)) (AG _ _)
       |14,_,hs=>exact absurd hs (by decide)
       |15,_,_=>obtain rfl:=So_ ho;exact eA ho HK (et (Be Hd HL 12))
       |_+16,hq,_=>exact absurd hq (by omega)
      ·intro i hi hS o ho a wx Hb ll Hd HL hG K HK
       match i,hi,hS with
       |0,_,hs|1,_,hs|2,_,hs|3,_,hs|4,_,hs|5,_,hs|6,_,hs|7,_,hs|8,_,hs|9,_,hs|10,_,hs|11,_,hs|12,_,hs|13,_,hs=>exact absurd hs (by decide)
       |14,_,_=>
        obtain rfl:=So_ ho;have d13:Cm W5.heap.size (ll 14) (a.tmps[6]?.getD undef) wx (0) (0) false:=Be Hd HL 13;have d11:(a.tmps[50]?.getD undef)= .agg #[.int .i64 0, .int .i64 0, .bool false]:=Be Hd HL 11;clear Hd Hb;obtain⟨q,e13,hq1,hq2⟩:=d13;rw[HL.out.1] at hq2;replace hq2:wx.heap[q]? =some (.cells #[.int .i64 0, .int .i64 0, .bool false] 142 (0,0)):=hq2;have c0:=cell_of_row _ _ 0 _ _ _ hq2;have c1_:=cell_of_row _ _ 1 _ _ _ hq2;have c2:=cell_of_row _ _ 2 _ _ _ hq2;have fq:=AM hq2;have Pl:=AA (Il (W:=W5) (a:= .int .i64 0) (b:= .int .i64 0) (c:= .bool false) hq2 hG hq1);have E13:=AA e13;clear hq2;refine AI.of rfl ?_;go_simp;exact HK.out undef _ trivial Pl.out.2 (fun j hji hjn hjl hu=>match j,hjn with
         |0,_|1,_|2,_|3,_|4,_|5,_|6,_|7,_|8,_|9,_|10,_|11,_|12,_=>hu
         |13,_=>⟨q,E13.out,hq1,by rw[FN];exact Pl.out.1⟩
         |14,_|15,_=>hu
         |_+16,hq=>absurd hq (by omega))
       |15,_,hs=>exact absurd hs (by decide)
       |_+16,hq,_=>exact absurd hq (by omega)
      ·intro vs wx ll hall hR hG
       have q11:(vs 11)= .agg #[.int .i64 0, .int .i64 0, .bool false]:=BI hR 11;have q12:(vs 12)= .int .i64 cp:=BI hR 12;have q13:Cm W5.heap.size (ll 14) (vs 13) wx (0) (0) false:=BI hR 13;have q15:(vs 15)= .int .i64 cp:=BI hR 15;clear hR;simp only[Dy,Bl,List.range,List.range.loop,List.foldl_cons,List.foldl_nil,q11,q12,q15];simp;generalize vs 13=z13 at q13 ⊢;clear q11 q12 q15;have hGx:=AA hG;clear x0 y0 y1 y2 y3 y4 y5 y6 hG hall q13;go_wp2_with fail;go_ret2;exact Cx.bad E.out (by decide) (S5.out.below hGx.out).bel
end Go.Proofs.YtnieoiclifjoaaaGreatDoor
