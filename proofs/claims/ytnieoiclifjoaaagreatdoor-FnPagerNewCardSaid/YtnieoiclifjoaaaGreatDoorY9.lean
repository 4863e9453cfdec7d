/-
  Packed:6 texts.
-/
import Derived.Deep.DeepCutAuto
import Derived.Test.YtnieoiclifjoaaaGreatDoorY5
import Derived.Test.YtnieoiclifjoaaaGreatDoorY6
import Derived.Test.YtnieoiclifjoaaaGreatDoorY8
import Derived.Test.YtnieoiclifjoaaaGreatDoorY7
import Derived.Lib.Strings
import Derived.WalkKit
set_option linter.unusedVariables false
set_option maxHeartbeats 16000000
set_option maxRecDepth 100000
namespace Go.Proofs.YtnieoiclifjoaaaGreatDoor
open Go.Proofs.Tryz
open Go.RowKit
def Bv (k:AN) (a j:Nat):List Nat:=(List.range j).filter fun e=>(Az k.mem (AC k.envs e).root).contains a
theorem NX {k:AN} {a j:Nat} (h:(Az k.mem (AC k.envs j).root).contains a=false):Bv k a (j+1)=Bv k a j:=by unfold Bv;rw[List.range_succ,List.filter_append];simp only[List.filter_cons,h,List.filter_nil];simp
theorem L6 {k:AN} {a j:Nat} (h:(Az k.mem (AC k.envs j).root).contains a=true):Bv k a (j+1)=Bv k a j++[j]:=by unfold Bv;rw[List.range_succ,List.filter_append];simp only[List.filter_cons,h,List.filter_nil];simp
theorem Gi {k:AN} {a j:Nat}:(Bv k a j).length≤j:=by unfold Bv;exact Nat.le_trans (List.length_filter_le _ _) (by simp)
theorem SV {k:AN} {a j e:Nat} (h:e∈Bv k a j):e<j:=List.mem_range.1 (List.mem_filter.1 h).1
theorem Eg {k:AN} {a:Nat}:Bv k a 3=Eo k a:=rfl
theorem GV {ts l:List Nat} {a:Nat} (h:∀g,g∈ts↔g∈l):(Ak ts).contains (a:Int)=l.contains a:=by rw[Bool.eq_iff_iff,List.contains_iff_mem,List.contains_iff_mem,JE,h]
def Ey (es:List Nat) (c:List Aa):List Aa:=es.foldl (fun c e=>Co c (e:Nat)) c
theorem LT {c:List Aa} (es:List Nat) (h:Bc c=true):Bc (Ey es c)=true:=QG h
theorem JY {es:List Nat} {c:List Aa} {j:Nat} (h:j<es.length):Ey (es.take (j+1)) c=Co (Ey (es.take j) c) ((es.getD j 0:Nat):Int):=by unfold Ey;rw[Cv (A8 (d:=0) h),List.foldl_append];rfl
theorem Va {k:AN} {c:AR}:GC k c=
 if Ba (infoAt k.infos c.a.toNat).k=false∨Bk c.b 0 3=false∨Dl k c=false then(k,0,3)
 else if(Eo k c.a.toNat).all (fun e=>Aq k.infos (DH k c.c) (AC k.envs e).rights)=false then(k,0,1)
 else if BX c.c=true∧FJ k c.e (infoAt k.infos (Ax c.c)).g=false then(k,0,1)
 else({k with mem:=Ch k.mem c.a.toNat c.b.toNat c.c,infos:=A1 (A1 k.infos (Am k.mem c.a.toNat c.b.toNat) (-1)) c.c 1,cache:=Ey (Eo k c.a.toNat) k.cache},0,0):=rfl
theorem ID {infos:List AQ} (h:A0 infos=true):GM infos 50:=by
 intro f hf;have:=(At.1 h).2 f (by rw[←(At.1 h).1];exact hf);unfold Cj at this;simp only[Bool.or_eq_true,Bool.and_eq_true,decide_eq_true_eq,AZ] at this
 rcases this with h|h
 ·rw[h];decide
 ·omega
theorem GM.refer {infos:List AQ} {b x n:Int} (h:GM infos b) (hl:infos.length=12) (hn:n=1∨n= -1):GM (A1 infos x n) (b+1):=by
 intro f hf;rw[Cr] at hf;have:=h f hf;rw[Le hl]
 show -(b+1)≤(infoAt infos f).r+n*((GG (FB f x):Nat):Int)∧(infoAt infos f).r+n*((GG (FB f x):Nat):Int)≤b+1
 unfold GG
 split<;>rcases hn with rfl|rfl<;>omega
theorem GM.mono {infos:List AQ} {b b':Int} (h:GM infos b) (hb:b≤b'):GM infos b':=fun f hf=>by have:=h f hf;omega
theorem Jw {lo:Nat} {w:World} {v u:Value} {xs:List Int} {g j:Nat} (h:AE lo w v xs) (hg:g<lo):AE lo (w.setCell ⟨g,j,none⟩ u) v xs:=
 Av h (Al w g j u) (by
  rcases hv:v.ownBlock with _|b
  ·exact .inl rfl
  ·refine .inr fun e=>?_
   cases e;have:=(World.ownsRow.lt h g hv).1;omega)
theorem Dm.refer {lo g b0:Nat} {call:AR} {w W:World} {m e c:Value} {k:AN} {gi cap:Nat} (h:CS lo g b0 call w W m (.slice (some ⟨gi,0,none⟩) 12 cap) e c k) (x n:Int) (hx:x≤9223372036854775807) (hl:k.infos.length=12) (hn:n=1∨n= -1) (hs:GM k.infos 1000):
 Calls prog 320 #[call.on g, .int .i64 x, .int .i64 n] W fun r w'=>r= .returned (.tuple #[])∧CS lo g b0 call w w' m (.slice (some ⟨gi,0,none⟩) 12 cap) e c {k with infos:=A1 k.infos x n}∧W.grownBy w' (some gi):=by
 have Hb1:=AA (AG W (.cells (call.onCells g) 163));have N:=heap_alloc_new W (.cells (call.onCells g) 163);have hb:=AG W (.cells (call.onCells g) 163);have h1:=h.below hb;have hnb: -1≤n∧n≤1:=by omega
 have CE:=AA (fun W=>EL x W hx);have ngi:=h1.row_ne h1.ink.2.2.2.1 rfl (by decide) (by decide);obtain⟨cur,hcur⟩:=Bf h1.ink.2.2.2.1 gi rfl;have hgb:gi≠W.heap.size:=by have:=h.gi_lt;omega
 have hbg:W.heap.size≠gi:=hgb.symm;have hgg:g≠W.heap.size:=by have:=h.lts.2.1;omega
 obtain⟨k1,e1,a1,b1,c1,nm1⟩:=call;simp only[AR.on,AR.onCells] at N hb h1 Hb1 ⊢;obtain⟨y0,y1,y2,y3,y4,y5,y6⟩:=Dk (c:=⟨k1,e1,a1,b1,c1,nm1⟩) N;cases hg:BX x
 ·have V:=AA (Do hg)
  have S:=AA (show A1 k.infos x n=k.infos by simp[A1,hg]);have H1:=AA h1;clear hg h h1 hs hn y0 y1 y2 y3 y4 y5 y6 N hl ngi hcur;go_in;go_wp2_with (go_at_call 175;refine(CE.out _).mono ?_;rintro e w' ⟨rfl,rfl⟩;rw[V.out]);go_returns;exact⟨rfl,by rw[S.out];exact H1.out,Dt Hb1.out _⟩
 ·have hF:=DZ hg
  have V:=AA (Di hg);have S:=AA (show A1 k.infos x n=AV k.infos (Ax x) (DK n) by unfold A1;rw[hg,if_pos rfl]);generalize Ax x=f at*;have hfl:f<k.infos.length:=by omega
  obtain⟨s1,s2⟩:=hs f hfl;obtain⟨_,_,d2⟩:=h1.infoAt hfl;have T:=AA (h1.info hl.symm hfl n);have x1:=h1.xs.2.1;have Fr:=h1.fzi (f*3+2);have hfi:(f:Int)<12:=by omega
  clear hg h h1 hs hn N y1 y2 y3 y4 y5 y6 hl ngi hcur;go_in;go_wp2_with (go_at_call 175;refine(CE.out _).mono ?_;rintro e w' ⟨rfl,rfl⟩;rw[V.out]);go_returns;exact⟨rfl,by rw[S.out];exact T.out,EP (Dt Hb1.out _) (Al _ _ _ _)⟩
theorem U4 {lo g:Nat} {w:World} {m i e c:Value} {k:AN} (h:IH lo w g m i e c k) (hlo:lo≤w.heap.size) (hK:De k) (call:AR) (he:0≤call.e) (hn:call.e<3) (ha:0≤call.a∧call.a<12) (hcc:call.c≤9223372036854775807):
 Calls prog 256 #[call.on g] w (Cd lo g w (GC k call)):=by
 have S0:=Dm.start h hlo call;have P:=Va (k:=k) (c:=call);obtain⟨k1,e1,a1,b1,c1,nm⟩:=call;obtain⟨en,rfl⟩:∃n:Nat,e1=(n:Int):=⟨e1.toNat,by simp only at he;omega⟩
 obtain⟨an,rfl⟩:∃n:Nat,a1=(n:Int):=⟨a1.toNat,by simp only at ha;omega⟩
 have hen:en<3:=by simp only at hn;omega
 have han:an<12:=by simp only at ha;omega
 simp only[AR.on,AR.onCells] at S0 P hcc ⊢;simp only[Int.toNat_natCast] at P;obtain⟨ge,cap,e9,_,⟨⟨nge1,nge2⟩,nge3,nge4⟩,_⟩:=S0.envs (by rw[hK.envl];omega);rw[hK.envl] at e9;obtain⟨gi,capi,e8,_,_,⟨⟨ngi1,ngi2⟩,ngi3,ngi4⟩,_⟩:=S0.infos (by rw[hK.len];omega);rw[hK.len] at e8;obtain⟨gm,capm,e7,_,⟨ngm1,ngm2⟩,ngm3,ngm4⟩:=S0.mems (AW hK).1;subst e7 e8 e9;obtain⟨y0,y1,y2,y3,y4,y5,y6⟩:=S0.ys;have HK:=AA hK;have HS:=AA S0;have HP:=AA P;have hai:(an:Int)<12:=by omega
 have CEn:=AA (fun W=>EL c1 W hcc);replace y3:=cell_regrown y3;replace y4:=cell_regrown y4;replace y5:=cell_regrown y5;clear hK h S0 hlo he hn P y0 y1 y2 y6 ha;go_in;go_wp2_with fail;generalize w.alloc _=W0 at*;refine wp_region_quiet_below mixed (by kernel_rfl) ?_
 repeat(go_big_quiet_step (fail))
 refine wpQuiet_nil ?_;intro _ hw';obtain⟨⟨dq,osq⟩,hw''⟩:=hw';subst hw'';have bq:=below_regrown W0 dq osq;generalize Sort.grow (redrawn W0 dq) osq=wq at bq;clear y3 y4 y5;have S2:=AA (HS.out.below bq);obtain⟨W2,rfl⟩:∃W2:World,W2=wq:=⟨_,rfl⟩
 clear bq;obtain⟨y0,_,_,_,_,_,_⟩:=S2.out.ys;obtain⟨x0,x1,_,_⟩:=S2.out.xs;obtain⟨d0,_,_⟩:=S2.out.infoAt (f:=an) (by rw[HK.out.len];exact han);have cT:=Gx (w1:=W2) (fun W=>By (infoAt k.infos an).k W);have cP:=Gx (w1:=W2) (fun W=>Ln b1 W);have cN:=Gx (w1:=W2) (fun W=>JS (infoAt k.infos an).k W);cases hg:BX c1
 ·have V:=AA (Do hg)
  have Hent:=AA hg;have hnd:DH k c1=[]:=by unfold DH;rw[hg];rfl
  have Hnd:=AA hnd;have hwf:Dl k ⟨k1,(en:Int),(an:Int),b1,c1,nm⟩=decide (c1=0):=by unfold Dl;rw[hg];rfl
  clear hg hnd;go_wp2_with (go_at_call 175;refine(CEn.out _).mono ?_;rintro e w' ⟨rfl,rfl⟩;rw[V.out]);clear x1 d0 y0 x0;cases ht:Ba (infoAt k.infos an).k
  ·rw[ht] at cT
   have E:=AA (show GC k ⟨k1,(en:Int),(an:Int),b1,c1,nm⟩=(k,0,3) by rw[HP.out,if_pos (.inl ht)]);refine wp_region_quiet_below mixed (by kernel_rfl) ?_
   repeat(go_big_quiet_step (first|exact cT _ _|exact cP _ _|exact cN _ _))
   refine wpQuiet_nil ?_;intro _ hw';obtain⟨⟨dq,osq⟩,hw''⟩:=hw';subst hw'';have bq:=below_regrown W2 dq osq;generalize Sort.grow (redrawn W2 dq) osq=wq at bq;go_wp2_with fail;go_ret;exact Cd.bad E.out (by decide) (S2.out.below bq).bel
  ·rw[ht] at cT
   cases hb:Bk b1 0 3
   ·rw[hb] at cP
    have E:=AA (show GC k ⟨k1,(en:Int),(an:Int),b1,c1,nm⟩=(k,0,3) by rw[HP.out,if_pos (.inr (.inl hb))]);refine wp_region_quiet_below mixed (by kernel_rfl) ?_
    repeat(go_big_quiet_step (first|exact cT _ _|exact cP _ _|exact cN _ _))
    refine wpQuiet_nil ?_;intro _ hw';obtain⟨⟨dq,osq⟩,hw''⟩:=hw';subst hw'';have bq:=below_regrown W2 dq osq;generalize Sort.grow (redrawn W2 dq) osq=wq at bq;go_wp2_with fail;go_ret;exact Cd.bad E.out (by decide) (S2.out.below bq).bel
   ·rw[hb] at cP
    by_cases h0:c1=0
    ·have t0:(c1 !=0)=false:=by simp[h0]
     have HP2:=AA (show GC k ⟨k1,(en:Int),(an:Int),b1,c1,nm⟩=_ by rw[HP.out,if_neg (by rintro(x|x|x);(· rw[ht] at x;cases x);(· rw[hb] at x;cases x);(· rw[hwf,h0] at x;cases x))]);obtain⟨bn,rfl⟩:∃n:Nat,b1=(n:Int):=⟨b1.toNat,by have:=(AZ.1 hb).1;omega⟩
     have hb4:bn<4:=by have:=(AZ.1 hb).2;omega
     simp only[Int.toNat_natCast] at HP2;have Hc0:=AA h0;clear hwf ht hb h0;refine wp_region_quiet_below mixed (by kernel_rfl) ?_
     repeat(go_big_quiet_step (first|exact cT _ _|exact cP _ _|exact cN _ _))
     refine wpQuiet_nil ?_;intro _ hw';obtain⟨⟨dq,osq⟩,hw''⟩:=hw';subst hw'';have bq:=below_regrown W2 dq osq;generalize Sort.grow (redrawn W2 dq) osq=wq at bq;clear cT cP cN t0;have S5:=AA (S2.out.below bq);obtain⟨W5,rfl⟩:∃W5:World,W5=wq:=⟨_,rfl⟩
     clear bq S2;have N10:=AA (World.ownsRow_nil W5 W5.heap.size 3 1);have N10:Hid (AE W5.heap.size W5 (.slice none 0 0) (Ak [])):=AA N10.out;obtain⟨ts,hts⟩:∃ts:List Nat,ts=[]:=⟨_,rfl⟩
     have Hm:=AA (show ∀g,g∈ts↔g∈DH k c1 by rw[hts,Hnd.out];exact fun _=>Iff.rfl);have Ht:=AA (show ∀g,g∈ts→g<12 by rw[hts];intro g hg;cases hg);rw[←hts] at N10;clear hts;obtain⟨y0,_,_,_,_,_,_⟩:=S5.out.ys;obtain⟨_,_,x2,_⟩:=S5.out.xs;go_wp2_with fail;clear y0 x2;go_loopw [11,99] (fun s11 s99 wr=>∃j:Nat,j≤3∧s99= .int .i64 j∧AE W5.heap.size wr s11 (Ak (Bv k an j))∧Below W5.heap.size W5 wr∧∀e,e∈Bv k an j→Aq k.infos (DH k c1) (AC k.envs e).rights=true) (fun _ s99 _=>3 - (intOf s99).toNat)
     case atStart=>exact⟨0,Nat.zero_le _,rfl,World.ownsRow_nil _ _ _ _,Below.refl _ _,fun e he=>by cases he⟩
     case round=>
      obtain⟨j,hj,rfl,hO,hbel,hall⟩:=hrel;have Hall:=AA hall;clear hall;have hl6:=Gi (k:=k) (a:=an) (j:=j);have S6:=AA (S5.out.below hbel);have HO:=AA hO;have Hbel:=AA hbel;obtain⟨a11,c11,rfl,_,_,_⟩:=hO.rd.open;rw[BU] at HO ⊢;clear hO hbel
      by_cases hlt:j<3
      ·obtain⟨ua,uc,D05,D15,R5⟩:=S5.out.env (j:=j) (by rw[HK.out.envl];exact hlt)
       have D0:=(Hbel.out.cell (World.block_lt_of_cell? _ _ D05)).trans D05;have D1:=(Hbel.out.cell (World.block_lt_of_cell? _ _ D15)).trans D15;have R:=A3.below R5 Hbel.out;have HR5:=AA R5;clear D05 D15 R5;have hbN:=AG wr (.cells #[.slice ua (AC k.envs j).rights.length uc, .int .i64 (AC k.envs j).root] 85);have NE:=heap_alloc_new wr (.cells #[.slice ua (AC k.envs j).rights.length uc, .int .i64 (AC k.envs j).root] 85);have S7:=AA (S6.out.below hbN);have hlt3:(j:Int)<3:=by omega
       obtain⟨y0,_,_,_,_,_,_⟩:=S7.out.ys;obtain⟨x0,x1,_,_⟩:=S7.out.xs;obtain⟨hlr,hgr,_,_⟩:=S7.out.lts;have hm12:=root_lt HK.out hlt;have RM:=BJ.below S6.out.ink.2.2.rd.1 hbN;have RIn:BH _ _ k.infos:=S7.out.ink.2.2.2.1.rd;have R7:=A3.below R hbN;have HNE:=AA NE;have hqr:=Ao NE;have n0:=cell_of_row _ _ 0 _ _ _ NE;have n1:=cell_of_row _ _ 1 _ _ _ NE;have HbN:=AA hbN;clear hbN NE R;go_wp2_with fail;clear D0 D1;generalize wr.alloc _=W7 at*;obtain⟨qe,hqe⟩:∃q,q=wr.heap.size:=⟨_,rfl⟩
       rw[←hqe] at HNE hqr n0 n1 ⊢;have CX:=AA (fun W (hW:Below W7.heap.size W7 W)=>F9 _ k.mem (AC k.envs j).root W (RM.below hW) (AW HK.out).1 hm12);have hG0:=HbN.out;cases hbu:(Az k.mem (AC k.envs j).root).contains an
       ·have Hbu:Hid ((Az k.mem (AC k.envs j).root).contains an=false):=AA hbu
        have HU:=AA (NX hbu);clear hbu hqe;refine AH 10 mixed (by kernel_rfl) 188 rfl (by kernel_rfl) (fun ix vv ww=>match ix with
         |0=>vv= .pointer (some ⟨w.heap.size,0,none⟩)
         |1=>vv= .pointer (some ⟨g,0,none⟩)
         |2=>vv= .pointer (some ⟨g,0,none⟩)
         |3=>vv= .pointer (some ⟨g,0,none⟩)
         |4=>vv= .slice (some ⟨gm,0,none⟩) 12 capm
         |5=>vv= .pointer (some ⟨qe,1,none⟩)
         |6=>vv= .int .i64 ((AC k.envs j).root)
         |7=>Bt wr.heap.size k.mem (AC k.envs j).root ww vv
         |8=>vv= .int .i64 an
         |9=>vv= .bool false
         |_=>True) ?_ ?_ ?_
        ·intro i hi vv wz ww' hbz hz
         match i,hi with
         |0,_|1,_|2,_|3,_|4,_|5,_|6,_=>exact hz
         |7,_=>exact(Bt.below hz hbz)
         |8,_|9,_=>exact hz
        ·intro i hi o ho a wx Hb Hd hG K HK
         match i,hi with
         |0,_=>exact eF ho HK BP (eb (Aj Hb 1))
         |1,_=>exact eL ho HK (et (AD Hd 0)) (DY (bc hG hlr y0))
         |2,_=>exact eC ho HK (et (AD Hd 1))
         |3,_=>exact eF ho HK Ci (et (AD Hd 2))
         |4,_=>exact eL ho HK (et (AD Hd 3)) (Fd (bc hG hgr x0))
         |5,_=>exact eF ho HK Ez (eb (Aj Hb 13))
         |6,_=>exact eL ho HK (et (AD Hd 5)) (DA (bc hG hqr n1))
         |7,_=>obtain rfl:=So_ ho;have d4:(a.tmps[108]?.getD undef)= .slice (some ⟨gm,0,none⟩) 12 capm:=AD Hd 4;have d6:(a.tmps[110]?.getD undef)= .int .i64 ((AC k.envs j).root):=AD Hd 6;clear Hd Hb;refine AI.of rfl ?_;go_simp;refine(CX.out _ hG).mono ?_;rintro e w_ ⟨v',ts',rfl,hO,hmem,_,hb2⟩;exact HK.out _ _ ⟨ts',BQ hO (Nat.le_trans hG0.size hG.size),hmem⟩ hb2
         |8,_=>exact eM ho HK (eb (Aj Hb 3))
         |9,_=>obtain rfl:=So_ ho;have d7:Bt wr.heap.size k.mem (AC k.envs j).root wx (a.tmps[111]?.getD undef):=AD Hd 7;have d8:(a.tmps[112]?.getD undef)= .int .i64 an:=AD Hd 8;clear Hd Hb;generalize e111:a.tmps[111]?.getD undef=v2 at d7;obtain⟨ts',hO,hmem⟩:=d7;have CC:=Ae (FQ v2 ts' (an:Int) wx (AE.rd hO));rw[GV hmem,Hbu.out] at CC;refine AI.of rfl ?_;go_simp;refine CC.mono ?_;rintro e w_ ⟨rfl,hb2⟩;exact HK.out _ _ rfl hb2
        ·intro vs wx hR hG
         have q9:(vs 9)= .bool false:=BI hR 9;clear hR;simp only[Ai,AX,List.range,List.range.loop,List.foldl_cons,List.foldl_nil,q9];simp;clear q9;have hbx:=hG0.trans (hG.mono hG0.size);have HOx:=AA (HO.out.below hbx);have Hbx:=AA (Hbel.out.trans (hbx.mono Hbel.out.size));clear hG hbx y0 x0 x1 n0 n1 hG0 RM RIn R7;go_wp2_with fail;go_roundw
         case rel=>exact⟨j+1,by omega,by go_num,by rw[HU.out];exact HOx.out,Hbx.out,by rw[HU.out];exact Hall.out⟩
         case measure=>simp[intOf];omega
       ·have Hbu:Hid ((Az k.mem (AC k.envs j).root).contains an=true):=AA hbu
        have HU:=AA (L6 hbu);have hju:j∈Eo k an:=by rw[←Eg];exact List.mem_filter.2 ⟨List.mem_range.2 hlt,hbu⟩
        clear hbu hqe;refine AH 10 mixed (by kernel_rfl) 188 rfl (by kernel_rfl) (fun ix vv ww=>match ix with
         |0=>vv= .pointer (some ⟨w.heap.size,0,none⟩)
         |1=>vv= .pointer (some ⟨g,0,none⟩)
         |2=>vv= .pointer (some ⟨g,0,none⟩)
         |3=>vv= .pointer (some ⟨g,0,none⟩)
         |4=>vv= .slice (some ⟨gm,0,none⟩) 12 capm
         |5=>vv= .pointer (some ⟨qe,1,none⟩)
         |6=>vv= .int .i64 ((AC k.envs j).root)
         |7=>Bt wr.heap.size k.mem (AC k.envs j).root ww vv
         |8=>vv= .int .i64 an
         |9=>vv= .bool true
         |_=>True) ?_ ?_ ?_
        ·intro i hi vv wz ww' hbz hz
         match i,hi with
         |0,_|1,_|2,_|3,_|4,_|5,_|6,_=>exact hz
         |7,_=>exact(Bt.below hz hbz)
         |8,_|9,_=>exact hz
        ·intro i hi o ho a wx Hb Hd hG K HK
         match i,hi with
         |0,_=>exact eF ho HK BP (eb (Aj Hb 1))
         |1,_=>exact eL ho HK (et (AD Hd 0)) (DY (bc hG hlr y0))
         |2,_=>exact eC ho HK (et (AD Hd 1))
         |3,_=>exact eF ho HK Ci (et (AD Hd 2))
         |4,_=>exact eL ho HK (et (AD Hd 3)) (Fd (bc hG hgr x0))
         |5,_=>exact eF ho HK Ez (eb (Aj Hb 13))
         |6,_=>exact eL ho HK (et (AD Hd 5)) (DA (bc hG hqr n1))
         |7,_=>obtain rfl:=So_ ho;have d4:(a.tmps[108]?.getD undef)= .slice (some ⟨gm,0,none⟩) 12 capm:=AD Hd 4;have d6:(a.tmps[110]?.getD undef)= .int .i64 ((AC k.envs j).root):=AD Hd 6;clear Hd Hb;refine AI.of rfl ?_;go_simp;refine(CX.out _ hG).mono ?_;rintro e w_ ⟨v',ts',rfl,hO,hmem,_,hb2⟩;exact HK.out _ _ ⟨ts',BQ hO (Nat.le_trans hG0.size hG.size),hmem⟩ hb2
         |8,_=>exact eM ho HK (eb (Aj Hb 3))
         |9,_=>obtain rfl:=So_ ho;have d7:Bt wr.heap.size k.mem (AC k.envs j).root wx (a.tmps[111]?.getD undef):=AD Hd 7;have d8:(a.tmps[112]?.getD undef)= .int .i64 an:=AD Hd 8;clear Hd Hb;generalize e111:a.tmps[111]?.getD undef=v2 at d7;obtain⟨ts',hO,hmem⟩:=d7;have CC:=Ae (FQ v2 ts' (an:Int) wx (AE.rd hO));rw[GV hmem,Hbu.out] at CC;refine AI.of rfl ?_;go_simp;refine CC.mono ?_;rintro e w_ ⟨rfl,hb2⟩;exact HK.out _ _ rfl hb2
        ·intro vs wx hR hG
         have q9:(vs 9)= .bool true:=BI hR 9;clear hR;simp only[Ai,AX,List.range,List.range.loop,List.foldl_cons,List.foldl_nil,q9];simp;clear q9;have hbx:=hG0.trans (hG.mono hG0.size);have HOx:=HO.out.below hbx;have Hbx:=AA (Hbel.out.trans (hbx.mono Hbel.out.size));have b1:=AG wx (.cells #[.int .i64 j] 3);have O1:=AA (show(wx.alloc (.cells #[.int .i64 j] 3)).ownsRow W5.heap.size 3 1 (.slice a11 (Bv k an j).length c11) (Bv k an j).length ((Ak (Bv k an j)).map (Value.int .i64)) by have:=HOx.below b1;unfold AE at this;rwa [BU] at this);have L1:=AA (show Rd (wx.alloc (.cells #[.int .i64 j] 3)) (.slice (some ⟨wx.heap.size,0,none⟩) 1 1) 1 1 ((Ak [j]).map (Value.int .i64)) from AE.rd (Ik wx (j:Int)));have s5:=Hbx.out.size;have hnb:=AA (show ∀b,(Value.slice a11 (Bv k an j).length c11).ownBlock=some b→W5.heap.size≤b from fun b hb=>(World.ownsRow.lt HO.out b hb).1);have S8:=AA ((S7.out.below hG).below b1);have HNE8:=AA (AF (AF HNE.out hG) b1);have Rx:=AA (A3.below (A3.below R7 hG) b1);have hOa:=AA HOx;have HB8:=AA (Hbx.out.trans (b1.mono s5));clear hG hbx y0 x0 x1 n0 n1 hG0 RM RIn R7 HOx b1;go_wp2_with (at_builtin;go_must (refine DO (lo:=W5.heap.size) (v:= .slice a11 (Bv k an j).length c11) (n:=(Bv k an j).length) (xs:=(Ak (Bv k an j)).map (Value.int .i64)) (m:=1) (news:=(Ak [j]).map (Value.int .i64)) rfl rfl 3 (.int .i64 0) 1 8 underlying30 Tryz.infoInt rfl (by decide) rfl O1.out rfl L1.out If (by unfold maxLen;omega) (by omega) (by simp;omega) ?_;intro o11 W9 k1_ k2_ k3_;have y0:=(EX (o:=0) k2_ S8.out.lts.1 (Bz O1.out S8.out.blk (by decide))).trans S8.out.ys.1;have n0:=(EX (o:=0) k2_ (Ao HNE8.out) (Bz O1.out HNE8.out (by decide))).trans (cell_of_row _ _ 0 _ _ _ HNE8.out)));have HB9:=AA (HB8.out.trans k3_);have S9:=AA (S5.out.below HB9.out);have O9:=AA (JV (a:=Bv k an j) (b:=[j]) k1_);have CAl:=FH g _ (.slice none 0 0) _ (AC k.envs j).rights ts k.infos W9 S9.out.xs.2.1 (A3.below HR5.out HB9.out) (A3.below S5.out.ink.2.2.2.1.rd HB9.out) (Ap.below (AE.rd N10.out) HB9.out) (fun g hg=>by rw[HK.out.len];exact Ht.out g hg);rw[Ds Hm.out] at CAl;clear y0 n0 k1_ k2_ k3_ O1 L1;cases hal:Aq k.infos (DH k c1) (AC k.envs j).rights
         ·have Hal:=AA hal
          have E:=AA (show GC k ⟨k1,(en:Int),(an:Int),(bn:Int),c1,nm⟩=(k,0,1) by rw[HP2.out,if_pos (List.all_eq_false.2 ⟨j,hju,by rw[hal];decide⟩)]);rw[hal] at CAl;clear hal;refine CAl.mono ?_;rintro r w10 ⟨rfl,hb10⟩;go_wp2_with fail;go_ret;exact Cd.bad E.out (by decide) (S9.out.below hb10).bel
         ·have Hal:=AA hal
          rw[hal] at CAl;clear hal;refine CAl.mono ?_;rintro r w10 ⟨rfl,hb10⟩;have O10:=AA (O9.out.below hb10);have H10:=AA (HB9.out.trans (hb10.mono HB9.out.size));clear hb10;go_wp2_with fail;go_roundw
          case rel=>exact⟨j+1,by omega,by go_num,by rw[HU.out];exact O10.out,H10.out,fun e he=>by
           rw[HU.out,List.mem_append,List.mem_singleton] at he
           rcases he with he|rfl
           ·exact Hall.out e he
           ·exact Hal.out⟩
          case measure=>simp[intOf];omega
      ·obtain rfl:j=3:=by omega
       rw[Eg] at HO Hall ⊢;obtain⟨us,hus⟩:∃us,us=Eo k an:=⟨_,rfl⟩
       have husl:us.length≤3:=by rw[hus,←Eg];exact Gi
       rw[←hus] at HO Hall ⊢;have HP3:=AA (show GC k ⟨k1,(en:Int),(an:Int),(bn:Int),c1,nm⟩=_ by rw[HP2.out,if_neg (by rw[Bool.not_eq_false,List.all_eq_true,←hus];exact Hall.out)]);rw[←hus] at HP3;clear hus hl6;obtain⟨W6,rfl⟩:∃W6:World,W6=wr:=⟨_,rfl⟩
       go_wp2_with fail;have HP4:=AA (show GC k ⟨k1,(en:Int),(an:Int),(bn:Int),c1,nm⟩=_ by rw[HP3.out,if_neg (by rintro⟨x,_⟩;rw[Hent.out] at x;cases x)]);refine wp_region_quiet_below mixed (by kernel_rfl) ?_
       repeat(go_big_quiet_step (fail))
       refine wpQuiet_nil ?_;intro _ hw';obtain⟨⟨dq,osq⟩,hw''⟩:=hw';subst hw'';have bq:=below_regrown W6 dq osq;generalize Sort.grow (redrawn W6 dq) osq=wq at bq;have S7:=AA (S6.out.below bq);obtain⟨W7,rfl⟩:∃W7:World,W7=wq:=⟨_,rfl⟩
       have HO7:=AA (HO.out.below bq);have hs5:=Nat.le_trans Hbel.out.size bq.size;obtain⟨y0,y1,y2,y3,y4,y5,y6⟩:=S7.out.ys;obtain⟨x0,_,_,_⟩:=S7.out.xs;obtain⟨gw,capw,Dw,hgw,hcw,Dj,fzw,⟨⟨ngw1,ngw2⟩,ngw3,ngw4⟩,_,hT,SW⟩:=S7.out.mrow (AW HK.out).1 (f:=an) han;have Dv:=Dj bn hb4;have fz:=fzw bn;have S8:=AA (SW bn c1 hb4);have hb4i:(bn:Int)<4:=by omega
       have how:=AA (HK.out.word (f:=an) (i:=bn) han hb4);have hgw5:gw<W5.heap.size:=by obtain⟨gw',capw',Dw',hgw',_⟩:=S5.out.mrow (AW HK.out).1 (f:=an) han;have:=((Hbel.out.trans (bq.mono Hbel.out.size)).cell (World.block_lt_of_cell? _ _ Dw')).trans Dw';rw[Dw] at this;simp at this;rw[this.1];exact hgw'
       have HO8:=AA (show AE W5.heap.size (W7.setCell ⟨gw,bn,none⟩ (.int .i64 c1)) (.slice a11 us.length c11) (Ak us) from Av HO7.out (Al _ _ _ _) (by
        rcases hv:(Value.slice a11 us.length c11).ownBlock with _|b
        ·exact .inl rfl
        ·refine .inr fun e=>?_
         cases e;have:=(World.ownsRow.lt HO7.out gw hv).1;omega))
       clear bq Dj fzw SW hT;go_wp2_with fail;clear y0 y1 y2 y3 y4 y5 y6 x0 Dw Dv fz;generalize W7.setCell _ _=W8 at*;have CR:=S8.out.refer (Am k.mem an bn) (-1) (by have:=how.out.2;omega) HK.out.len (.inr rfl) ((ID (AW HK.out).2.1).mono (by decide));simp only[AR.on,AR.onCells] at CR;refine CR.mono ?_;rintro r w9 ⟨rfl,S9,hg9⟩;have S9:=AA S9;have hgi5:=S5.out.gi_lt;have HO9:=AA (show AE W5.heap.size w9 (.slice a11 us.length c11) (Ak us) from Av HO8.out hg9 (by
        rcases hv:(Value.slice a11 us.length c11).ownBlock with _|b
        ·exact .inl rfl
        ·refine .inr fun e=>?_
         cases e;have:=(World.ownsRow.lt HO8.out gi hv).1;omega))
       clear hg9 CR;obtain⟨y0,y1,y2,y3,y4,y5,y6⟩:=S9.out.ys;go_wp2_with fail;clear y0 y1 y2 y3 y4 y5 y6;have CR:=S9.out.refer c1 1 hcc (by simp only[Cr];exact HK.out.len) (.inl rfl) (GM.mono (GM.refer (ID (AW HK.out).2.1) HK.out.len (.inr rfl)) (by decide));simp only[AR.on,AR.onCells] at CR;refine CR.mono ?_;rintro r w10 ⟨rfl,S10,hg10⟩;have S10:=AA S10;have HO10:=AA (show AE W5.heap.size w10 (.slice a11 us.length c11) (Ak us) from Av HO9.out hg10 (by
        rcases hv:(Value.slice a11 us.length c11).ownBlock with _|b
        ·exact .inl rfl
        ·refine .inr fun e=>?_
         cases e;have:=(World.ownsRow.lt HO9.out gi hv).1;omega))
       have hg5:=S5.out.lts.2.1;clear hg10 CR;go_wp2_with fail;go_loopw [172] (fun s172 wr=>∃j:Nat,j≤us.length∧s172= .int .i64 j∧AE W5.heap.size wr (.slice a11 us.length c11) (Ak us)∧∃c',CS lo g w.heap.size ⟨k1,(en:Int),(an:Int),(bn:Int),c1,nm⟩ w wr (.slice (some ⟨gm,0,none⟩) 12 capm) (.slice (some ⟨gi,0,none⟩) 12 capi) (.slice (some ⟨ge,0,none⟩) 3 cap) c' {k with mem:=Ch k.mem an bn c1,infos:=A1 (A1 k.infos (Am k.mem an bn) (-1)) c1 1,cache:=Ey (us.take j) k.cache}) (fun s172 _=>us.length - (intOf s172).toNat)
       case atStart=>exact⟨0,Nat.zero_le _,rfl,HO10.out,c,S10.out⟩
       case round=>
        obtain⟨j,hj,rfl,hO,c',hS⟩:=hrel;have HOr:=AA hO;have S:=AA hS;clear hS
        by_cases hlt:j<us.length
        ·obtain⟨ax,cx,hvx,_,_,H0⟩:=hO.rd.open
         rw[BU] at hvx;simp only[Value.slice.injEq] at hvx;obtain⟨rfl,_,rfl⟩:=hvx;obtain⟨bx,offx,rfl,DX⟩:=H0.at (k:=j) (by rw[BU];exact hlt);rw[Kw hlt] at DX;obtain⟨un,hun⟩:∃u,u=us.getD j 0:=⟨_,rfl⟩
         rw[←hun] at DX;have HUN:=AA hun;obtain⟨cc,hcc'⟩:∃cc,cc=Ey (us.take j) k.cache:=⟨_,rfl⟩
         have HCC:=AA hcc';clear hun;have hjl:(j:Int)<us.length:=by omega
         obtain⟨y0,_,_,_,_,_,_⟩:=S.out.ys;obtain⟨_,_,_,x3⟩:=S.out.xs;obtain⟨hlr,hgr,ngb,nbg⟩:=S.out.lts;have RC:Bn wr c' cc:=by rw[hcc'];exact S.out.ink.2.2.2.2.2.rd
         clear hcc';have CD:=AA (fun W (hW:Below wr.heap.size wr W)=>Ev c' cc (un:Int) W (A3.below RC hW) (by rw[HCC.out];exact LT _ (AW HK.out).2.2));clear RC H0 hO;go_wp2_with fail;clear DX;refine AH 11 mixed (by kernel_rfl) 188 rfl (by kernel_rfl) (fun ix vv ww=>match ix with
          |0=>vv= .pointer (some ⟨w.heap.size,0,none⟩)
          |1=>vv= .pointer (some ⟨g,0,none⟩)
          |2=>vv= .pointer (some ⟨w.heap.size,0,none⟩)
          |3=>vv= .pointer (some ⟨g,0,none⟩)
          |4=>vv= .pointer (some ⟨g,0,none⟩)
          |5=>vv= .pointer (some ⟨g,3,none⟩)
          |6=>vv=c'
          |7=>vv= .int .i64 un
          |8=>AJ wr.heap.size 140 4 AP ww vv (Co cc (un:Int))
          |9=>vv= .pointer (some ⟨g,0,none⟩)
          |10=>vv= .pointer (some ⟨g,3,none⟩)
          |_=>True) ?_ ?_ ?_
         ·intro i hi vv wz ww' hbz hz
          match i,hi with
          |0,_|1,_|2,_|3,_|4,_|5,_|6,_|7,_=>exact hz
          |8,_=>exact(AJ.below hz hbz)
          |9,_|10,_=>exact hz
         ·intro i hi o ho a wx Hb Hd hG K HK
          match i,hi with
          |0,_=>exact eF ho HK BP (eb (Aj Hb 1))
          |1,_=>exact eL ho HK (et (AD Hd 0)) (DY (bc hG hlr y0))
          |2,_=>exact eF ho HK BP (eb (Aj Hb 1))
          |3,_=>exact eL ho HK (et (AD Hd 2)) (DY (bc hG hlr y0))
          |4,_=>exact eC ho HK (et (AD Hd 3))
          |5,_=>exact eF ho HK EU (et (AD Hd 4))
          |6,_=>exact eL ho HK (et (AD Hd 5)) (M5 (bc hG hgr x3))
          |7,_=>exact eM ho HK (eb (Aj Hb 16))
          |8,_=>obtain rfl:=So_ ho;have d6:(a.tmps[182]?.getD undef)=c':=AD Hd 6;have d7:(a.tmps[183]?.getD undef)= .int .i64 un:=AD Hd 7;clear Hd Hb;refine AI.of rfl ?_;go_simp;refine(CD.out _ hG).mono ?_;rintro e w_ ⟨v',rfl,hO,hb2⟩;exact HK.out _ _ (hO.lower hG.size) hb2
          |9,_=>exact eC ho HK (et (AD Hd 1))
          |10,_=>exact eF ho HK EU (et (AD Hd 9))
         ·intro vs wx hR hG
          have q1:(vs 1)= .pointer (some ⟨g,0,none⟩):=BI hR 1;have q8:AJ wr.heap.size 140 4 AP wx (vs 8) (Co cc (un:Int)):=BI hR 8;have q9:(vs 9)= .pointer (some ⟨g,0,none⟩):=BI hR 9;have q10:(vs 10)= .pointer (some ⟨g,3,none⟩):=BI hR 10;clear hR;simp only[Ai,AX,List.range,List.range.loop,List.foldl_cons,List.foldl_nil,q1,q9,q10];simp;generalize vs 8=z8 at q8 ⊢;clear q1 q9 q10;rw[HCC.out,HUN.out,←JY hlt] at q8;have S8:=AA (S.out.cache hG q8);have HOn:=AA (Jw (j:=3) (u:=z8) (AE.below HOr.out hG) hg5);have fzg:=AM (S.out.below hG).ink.1;have x3w:=(S.out.below hG).xs.2.2.2;obtain⟨_,_,rfl,_,_⟩:=q8.rd.shape;clear q8 hG y0 x3;go_wp2_with fail;go_roundw
          case rel=>exact⟨j+1,by omega,by go_num,HOn.out,_,S8.out⟩
          case measure=>simp[intOf];omega
        ·obtain rfl:j=us.length:=by omega
         rw[List.take_length] at S;have HE:=AA (show GC k ⟨k1,(en:Int),(an:Int),(bn:Int),c1,nm⟩=({k with mem:=Ch k.mem an bn c1,infos:=A1 (A1 k.infos (Am k.mem an bn) (-1)) c1 1,cache:=Ey us k.cache},0,0) from HP4.out);go_wp2_with fail;go_ret;exact⟨by rw[HE.out]<;>rfl,fun _=>⟨_,_,_,_,by rw[HE.out];exact S.out.ink⟩,S.out.bel⟩
    ·have t0:(c1 !=0)=true:=by simp[h0]
     have E:=AA (show GC k ⟨k1,(en:Int),(an:Int),b1,c1,nm⟩=(k,0,3) by rw[HP.out,if_pos (.inr (.inr (by rw[hwf];simp[h0])))]);refine wp_region_quiet_below mixed (by kernel_rfl) ?_
     repeat(go_big_quiet_step (first|exact cT _ _|exact cP _ _|exact cN _ _))
     refine wpQuiet_nil ?_;intro _ hw';obtain⟨⟨dq,osq⟩,hw''⟩:=hw';subst hw'';have bq:=below_regrown W2 dq osq;generalize Sort.grow (redrawn W2 dq) osq=wq at bq;go_wp2_with fail;go_ret;exact Cd.bad E.out (by decide) (S2.out.below bq).bel
 ·have hF:=DZ hg
  have V:=AA (Di hg);have Hent:=AA hg;have hwf:Dl k ⟨k1,(en:Int),(an:Int),b1,c1,nm⟩=decide ((infoAt k.infos (Ax c1)).k=(infoAt k.infos an).k - 1):=by unfold Dl;rw[hg];rfl
  have h0:c1≠0:=by rintro rfl;cases hg
  have t0:(c1 !=0)=true:=by simp[h0]
  have HN:=AA (show DH k c1=Ax c1::(if Ba (infoAt k.infos (Ax c1)).k then named (AL k.mem (Ax c1)) else[]) by unfold DH;rw[hg];rfl);clear hg;obtain⟨f,hfe⟩:∃f,f=Ax c1:=⟨_,rfl⟩
  have HF:=AA hfe.symm;rw[←hfe] at V HN hwf hF;clear hfe;obtain⟨df0,_,_⟩:=S2.out.infoAt (f:=f) (by rw[HK.out.len];exact hF);have hfi:(f:Int)<12:=by omega
  go_wp2_with (go_at_call 175;refine(CEn.out _).mono ?_;rintro e w' ⟨rfl,rfl⟩;rw[V.out]);replace y0:=cell_regrown y0;replace x1:=cell_regrown x1;replace df0:=cell_regrown df0;clear d0 x0;cases ht:Ba (infoAt k.infos an).k
  ·rw[ht] at cT
   have E:=AA (show GC k ⟨k1,(en:Int),(an:Int),b1,c1,nm⟩=(k,0,3) by rw[HP.out,if_pos (.inl ht)]);refine wp_region_quiet_below mixed (by kernel_rfl) ?_
   repeat(go_big_quiet_step (first|exact cT _ _|exact cP _ _|exact cN _ _))
   refine wpQuiet_nil ?_;intro _ hw';obtain⟨⟨dq,osq⟩,hw''⟩:=hw';subst hw'';have bq:=below_regrown W2 dq osq;generalize Sort.grow (redrawn W2 dq) osq=wq at bq;go_wp2_with fail;go_ret;exact Cd.bad E.out (by decide) (S2.out.below bq).bel
  ·rw[ht] at cT
   rw[OY ht] at cN;cases hb:Bk b1 0 3
   ·rw[hb] at cP
    have E:=AA (show GC k ⟨k1,(en:Int),(an:Int),b1,c1,nm⟩=(k,0,3) by rw[HP.out,if_pos (.inr (.inl hb))]);refine wp_region_quiet_below mixed (by kernel_rfl) ?_
    repeat(go_big_quiet_step (first|exact cT _ _|exact cP _ _|exact cN _ _))
    refine wpQuiet_nil ?_;intro _ hw';obtain⟨⟨dq,osq⟩,hw''⟩:=hw';subst hw'';have bq:=below_regrown W2 dq osq;generalize Sort.grow (redrawn W2 dq) osq=wq at bq;go_wp2_with fail;go_ret;exact Cd.bad E.out (by decide) (S2.out.below bq).bel
   ·rw[hb] at cP
    by_cases h0:(infoAt k.infos f).k=(infoAt k.infos an).k - 1
    ·have t2:((infoAt k.infos f).k !=(infoAt k.infos an).k - 1)=false:=by simp[h0]
     have HP2:=AA (show GC k ⟨k1,(en:Int),(an:Int),b1,c1,nm⟩=_ by rw[HP.out,if_neg (by rintro(x|x|x);(· rw[ht] at x;cases x);(· rw[hb] at x;cases x);(· rw[hwf,decide_eq_true h0] at x;cases x))]);obtain⟨bn,rfl⟩:∃n:Nat,b1=(n:Int):=⟨b1.toNat,by have:=(AZ.1 hb).1;omega⟩
     have hb4:bn<4:=by have:=(AZ.1 hb).2;omega
     simp only[Int.toNat_natCast] at HP2;have hf12:=hF;clear hwf ht hb h0 hF;refine wp_region_quiet_below mixed (by kernel_rfl) ?_
     repeat(go_big_quiet_step (first|exact cT _ _|exact cP _ _|exact cN _ _))
     refine wpQuiet_nil ?_;intro _ hw';obtain⟨⟨dq,osq⟩,hw''⟩:=hw';subst hw'';have bq:=below_regrown W2 dq osq;generalize Sort.grow (redrawn W2 dq) osq=wq at bq;clear cT cP cN t0 t2 y0 x1 df0;have S3:=AA (S2.out.below bq);obtain⟨W3,rfl⟩:∃W3:World,W3=wq:=⟨_,rfl⟩
     clear bq S2;have b1_:=AG W3 (.cells #[.int .i64 f] 3);have O4:=AA (Ik W3 (f:Int));have S4:=AA (S3.out.below b1_);have HB4:=AA b1_;clear b1_;obtain⟨y0,_,_,_,_,_,_⟩:=S4.out.ys;obtain⟨x0,x1,_,_⟩:=S4.out.xs;obtain⟨df0,_,_⟩:=S4.out.infoAt (f:=f) (by rw[HK.out.len];exact hf12);have CT:=AA (fun W=>By (infoAt k.infos f).k W);go_wp2_with fail;refine(CT.out _).mono ?_;rintro r w9 ⟨rfl,rfl⟩;generalize W3.alloc _=W4 at*;go_upto_if 83 with fail;go_cut [10] (fun s10 wx=>∃ts b3,AE b3 wx s10 (Ak ts)∧(∀g,g∈ts↔g∈DH k c1)∧(∀g,g∈ts→g<12)∧CS lo g w.heap.size ⟨k1,(en:Int),(an:Int),(bn:Int),c1,nm⟩ w wx (.slice (some ⟨gm,0,none⟩) 12 capm) (.slice (some ⟨gi,0,none⟩) 12 capi) (.slice (some ⟨ge,0,none⟩) 3 cap) c k)
     case first=>
      cases htf:Ba (infoAt k.infos f).k
      ·go_wp2_with fail
       go_meet
       case rel=>exact⟨[f],_,O4.out,by rw[HN.out,htf];exact fun _=>Iff.rfl,by intro g hg;rw[List.mem_singleton] at hg;omega,S4.out⟩
      ·have RM:=S4.out.ink.2.2.rd.1
       have CN:=OW _ (.slice (some ⟨W3.heap.size,0,none⟩) 1 1) k.mem [f] W4 RM (AW HK.out).1 (AE.rd O4.out) (by simpa using hf12) (by simp);have hacc:=JT (AW HK.out).1 (ns:=[f]) (by simpa using hf12);go_wp2_with fail;refine CN.mono ?_;rintro r w5 ⟨v5,t5,rfl,P5,m5,l5,hb5⟩;have O5:=AA (show w5.ownsRow W3.heap.size 3 1 (.slice (some ⟨W3.heap.size,0,none⟩) 1 1) 1 ((Ak [f]).map (Value.int .i64)) from O4.out.below hb5);have R5:=AA (show Rd w5 v5 1 t5.length ((Ak t5).map (Value.int .i64)) by have:=AE.rd P5;unfold Ap at this;rwa [BU] at this);have hlo5:W3.heap.size≤w5.heap.size:=Nat.le_trans (by have:=(World.ownsRow.lt O4.out _ rfl);omega) hb5.size;have S5_:=AA (S4.out.below hb5);have HB5:=AA (HB4.out.trans (hb5.mono HB4.out.size));have h5:t5.length≤4:=by simp at hacc;omega
       have Hm:=AA (show ∀g,g∈[f]++t5↔g∈DH k c1 by intro g;rw[HN.out,htf,if_pos rfl,List.mem_append,List.mem_singleton,List.mem_cons,m5];simp[F2])
       have Ht:=AA (show ∀g,g∈[f]++t5→g<12 by
        intro g hg;rw[List.mem_append,List.mem_singleton] at hg
        rcases hg with rfl|hg
        ·exact hf12
        ·obtain⟨_,_,hg⟩:=JU.1 ((m5 g).1 hg)
         exact FL hg)
       clear htf O4 S4 x0 x1 y0 df0 CT RM P5 m5 l5 hb5 hacc CN;go_wp2_with (at_builtin;go_must (refine DO (lo:=W3.heap.size) (v:= .slice (some ⟨W3.heap.size,0,none⟩) 1 1) (n:=1) (xs:=(Ak [f]).map (Value.int .i64)) (m:=t5.length) (news:=(Ak t5).map (Value.int .i64)) rfl rfl 3 (.int .i64 0) 1 8 underlying30 Tryz.infoInt rfl (by decide) rfl O5.out rfl R5.out If (by unfold maxLen;omega) (by omega) (by omega) ?_;intro o10 W5 k1_ k2_ k3_;have y0:=(EX (o:=0) k2_ S5_.out.lts.1 (Bz O5.out S5_.out.blk (by decide))).trans S5_.out.ys.1;have x2:=(EX (o:=2) k2_ S5_.out.lts.2.1 (Bz O5.out S5_.out.ink.1 (by decide))).trans S5_.out.xs.2.2.1));go_meet
       case rel=>exact⟨[f]++t5,_,JV (a:=[f]) (b:=t5) k1_,Hm.out,Ht.out,S3.out.below (HB5.out.trans k3_)⟩
     case rest=>
     obtain⟨ts,b3,n10,hm_,ht_,s5_⟩:=hcut;have N10:=AA n10;have Hm:=AA hm_;have Ht:=AA ht_;have S5:=AA s5_;obtain⟨W5,rfl⟩:∃W5:World,W5=wc:=⟨_,rfl⟩
     clear n10 hm_ ht_ s5_ O4 S4 x0 x1 y0 df0 CT;obtain⟨y0,_,_,_,_,_,_⟩:=S5.out.ys;obtain⟨_,_,x2,_⟩:=S5.out.xs;go_wp2_with fail;clear y0 x2;go_loopw [11,99] (fun s11 s99 wr=>∃j:Nat,j≤3∧s99= .int .i64 j∧AE W5.heap.size wr s11 (Ak (Bv k an j))∧Below W5.heap.size W5 wr∧∀e,e∈Bv k an j→Aq k.infos (DH k c1) (AC k.envs e).rights=true) (fun _ s99 _=>3 - (intOf s99).toNat)
     case atStart=>exact⟨0,Nat.zero_le _,rfl,World.ownsRow_nil _ _ _ _,Below.refl _ _,fun e he=>by cases he⟩
     case round=>
      obtain⟨j,hj,rfl,hO,hbel,hall⟩:=hrel;have Hall:=AA hall;clear hall;have hl6:=Gi (k:=k) (a:=an) (j:=j);have S6:=AA (S5.out.below hbel);have HO:=AA hO;have Hbel:=AA hbel;obtain⟨a11,c11,rfl,_,_,_⟩:=hO.rd.open;rw[BU] at HO ⊢;clear hO hbel
      by_cases hlt:j<3
      ·obtain⟨ua,uc,D05,D15,R5⟩:=S5.out.env (j:=j) (by rw[HK.out.envl];exact hlt)
       have D0:=(Hbel.out.cell (World.block_lt_of_cell? _ _ D05)).trans D05;have D1:=(Hbel.out.cell (World.block_lt_of_cell? _ _ D15)).trans D15;have R:=A3.below R5 Hbel.out;have HR5:=AA R5;clear D05 D15 R5;have hbN:=AG wr (.cells #[.slice ua (AC k.envs j).rights.length uc, .int .i64 (AC k.envs j).root] 85);have NE:=heap_alloc_new wr (.cells #[.slice ua (AC k.envs j).rights.length uc, .int .i64 (AC k.envs j).root] 85);have S7:=AA (S6.out.below hbN);have hlt3:(j:Int)<3:=by omega
       obtain⟨y0,_,_,_,_,_,_⟩:=S7.out.ys;obtain⟨x0,x1,_,_⟩:=S7.out.xs;obtain⟨hlr,hgr,_,_⟩:=S7.out.lts;have hm12:=root_lt HK.out hlt;have RM:=BJ.below S6.out.ink.2.2.rd.1 hbN;have RIn:BH _ _ k.infos:=S7.out.ink.2.2.2.1.rd;have R7:=A3.below R hbN;have HNE:=AA NE;have hqr:=Ao NE;have n0:=cell_of_row _ _ 0 _ _ _ NE;have n1:=cell_of_row _ _ 1 _ _ _ NE;have HbN:=AA hbN;clear hbN NE R;go_wp2_with fail;clear D0 D1;generalize wr.alloc _=W7 at*;obtain⟨qe,hqe⟩:∃q,q=wr.heap.size:=⟨_,rfl⟩
       rw[←hqe] at HNE hqr n0 n1 ⊢;have CX:=AA (fun W (hW:Below W7.heap.size W7 W)=>F9 _ k.mem (AC k.envs j).root W (RM.below hW) (AW HK.out).1 hm12);have hG0:=HbN.out;cases hbu:(Az k.mem (AC k.envs j).root).contains an
       ·have Hbu:Hid ((Az k.mem (AC k.envs j).root).contains an=false):=AA hbu
        have HU:=AA (NX hbu);clear hbu hqe;refine AH 10 mixed (by kernel_rfl) 188 rfl (by kernel_rfl) (fun ix vv ww=>match ix with
         |0=>vv= .pointer (some ⟨w.heap.size,0,none⟩)
         |1=>vv= .pointer (some ⟨g,0,none⟩)
         |2=>vv= .pointer (some ⟨g,0,none⟩)
         |3=>vv= .pointer (some ⟨g,0,none⟩)
         |4=>vv= .slice (some ⟨gm,0,none⟩) 12 capm
         |5=>vv= .pointer (some ⟨qe,1,none⟩)
         |6=>vv= .int .i64 ((AC k.envs j).root)
         |7=>Bt wr.heap.size k.mem (AC k.envs j).root ww vv
         |8=>vv= .int .i64 an
         |9=>vv= .bool false
         |_=>True) ?_ ?_ ?_
        ·intro i hi vv wz ww' hbz hz
         match i,hi with
         |0,_|1,_|2,_|3,_|4,_|5,_|6,_=>exact hz
         |7,_=>exact(Bt.below hz hbz)
         |8,_|9,_=>exact hz
        ·intro i hi o ho a wx Hb Hd hG K HK
         match i,hi with
         |0,_=>exact eF ho HK BP (eb (Aj Hb 1))
         |1,_=>exact eL ho HK (et (AD Hd 0)) (DY (bc hG hlr y0))
         |2,_=>exact eC ho HK (et (AD Hd 1))
         |3,_=>exact eF ho HK Ci (et (AD Hd 2))
         |4,_=>exact eL ho HK (et (AD Hd 3)) (Fd (bc hG hgr x0))
         |5,_=>exact eF ho HK Ez (eb (Aj Hb 13))
         |6,_=>exact eL ho HK (et (AD Hd 5)) (DA (bc hG hqr n1))
         |7,_=>obtain rfl:=So_ ho;have d4:(a.tmps[108]?.getD undef)= .slice (some ⟨gm,0,none⟩) 12 capm:=AD Hd 4;have d6:(a.tmps[110]?.getD undef)= .int .i64 ((AC k.envs j).root):=AD Hd 6;clear Hd Hb;refine AI.of rfl ?_;go_simp;refine(CX.out _ hG).mono ?_;rintro e w_ ⟨v',ts',rfl,hO,hmem,_,hb2⟩;exact HK.out _ _ ⟨ts',BQ hO (Nat.le_trans hG0.size hG.size),hmem⟩ hb2
         |8,_=>exact eM ho HK (eb (Aj Hb 3))
         |9,_=>obtain rfl:=So_ ho;have d7:Bt wr.heap.size k.mem (AC k.envs j).root wx (a.tmps[111]?.getD undef):=AD Hd 7;have d8:(a.tmps[112]?.getD undef)= .int .i64 an:=AD Hd 8;clear Hd Hb;generalize e111:a.tmps[111]?.getD undef=v2 at d7;obtain⟨ts',hO,hmem⟩:=d7;have CC:=Ae (FQ v2 ts' (an:Int) wx (AE.rd hO));rw[GV hmem,Hbu.out] at CC;refine AI.of rfl ?_;go_simp;refine CC.mono ?_;rintro e w_ ⟨rfl,hb2⟩;exact HK.out _ _ rfl hb2
        ·intro vs wx hR hG
         have q9:(vs 9)= .bool false:=BI hR 9;clear hR;simp only[Ai,AX,List.range,List.range.loop,List.foldl_cons,List.foldl_nil,q9];simp;clear q9;have hbx:=hG0.trans (hG.mono hG0.size);have HOx:=AA (HO.out.below hbx);have Hbx:=AA (Hbel.out.trans (hbx.mono Hbel.out.size));clear hG hbx y0 x0 x1 n0 n1 hG0 RM RIn R7;go_wp2_with fail;go_roundw
         case rel=>exact⟨j+1,by omega,by go_num,by rw[HU.out];exact HOx.out,Hbx.out,by rw[HU.out];exact Hall.out⟩
         case measure=>simp[intOf];omega
       ·have Hbu:Hid ((Az k.mem (AC k.envs j).root).contains an=true):=AA hbu
        have HU:=AA (L6 hbu);have hju:j∈Eo k an:=by rw[←Eg];exact List.mem_filter.2 ⟨List.mem_range.2 hlt,hbu⟩
        clear hbu hqe;refine AH 10 mixed (by kernel_rfl) 188 rfl (by kernel_rfl) (fun ix vv ww=>match ix with
         |0=>vv= .pointer (some ⟨w.heap.size,0,none⟩)
         |1=>vv= .pointer (some ⟨g,0,none⟩)
         |2=>vv= .pointer (some ⟨g,0,none⟩)
         |3=>vv= .pointer (some ⟨g,0,none⟩)
         |4=>vv= .slice (some ⟨gm,0,none⟩) 12 capm
         |5=>vv= .pointer (some ⟨qe,1,none⟩)
         |6=>vv= .int .i64 ((AC k.envs j).root)
         |7=>Bt wr.heap.size k.mem (AC k.envs j).root ww vv
         |8=>vv= .int .i64 an
         |9=>vv= .bool true
         |_=>True) ?_ ?_ ?_
        ·intro i hi vv wz ww' hbz hz
         match i,hi with
         |0,_|1,_|2,_|3,_|4,_|5,_|6,_=>exact hz
         |7,_=>exact(Bt.below hz hbz)
         |8,_|9,_=>exact hz
        ·intro i hi o ho a wx Hb Hd hG K HK
         match i,hi with
         |0,_=>exact eF ho HK BP (eb (Aj Hb 1))
         |1,_=>exact eL ho HK (et (AD Hd 0)) (DY (bc hG hlr y0))
         |2,_=>exact eC ho HK (et (AD Hd 1))
         |3,_=>exact eF ho HK Ci (et (AD Hd 2))
         |4,_=>exact eL ho HK (et (AD Hd 3)) (Fd (bc hG hgr x0))
         |5,_=>exact eF ho HK Ez (eb (Aj Hb 13))
         |6,_=>exact eL ho HK (et (AD Hd 5)) (DA (bc hG hqr n1))
         |7,_=>obtain rfl:=So_ ho;have d4:(a.tmps[108]?.getD undef)= .slice (some ⟨gm,0,none⟩) 12 capm:=AD Hd 4;have d6:(a.tmps[110]?.getD undef)= .int .i64 ((AC k.envs j).root):=AD Hd 6;clear Hd Hb;refine AI.of rfl ?_;go_simp;refine(CX.out _ hG).mono ?_;rintro e w_ ⟨v',ts',rfl,hO,hmem,_,hb2⟩;exact HK.out _ _ ⟨ts',BQ hO (Nat.le_trans hG0.size hG.size),hmem⟩ hb2
         |8,_=>exact eM ho HK (eb (Aj Hb 3))
         |9,_=>obtain rfl:=So_ ho;have d7:Bt wr.heap.size k.mem (AC k.envs j).root wx (a.tmps[111]?.getD undef):=AD Hd 7;have d8:(a.tmps[112]?.getD undef)= .int .i64 an:=AD Hd 8;clear Hd Hb;generalize e111:a.tmps[111]?.getD undef=v2 at d7;obtain⟨ts',hO,hmem⟩:=d7;have CC:=Ae (FQ v2 ts' (an:Int) wx (AE.rd hO));rw[GV hmem,Hbu.out] at CC;refine AI.of rfl ?_;go_simp;refine CC.mono ?_;rintro e w_ ⟨rfl,hb2⟩;exact HK.out _ _ rfl hb2
        ·intro vs wx hR hG
         have q9:(vs 9)= .bool true:=BI hR 9;clear hR;simp only[Ai,AX,List.range,List.range.loop,List.foldl_cons,List.foldl_nil,q9];simp;clear q9;have hbx:=hG0.trans (hG.mono hG0.size);have HOx:=HO.out.below hbx;have Hbx:=AA (Hbel.out.trans (hbx.mono Hbel.out.size));have b1:=AG wx (.cells #[.int .i64 j] 3);have O1:=AA (show(wx.alloc (.cells #[.int .i64 j] 3)).ownsRow W5.heap.size 3 1 (.slice a11 (Bv k an j).length c11) (Bv k an j).length ((Ak (Bv k an j)).map (Value.int .i64)) by have:=HOx.below b1;unfold AE at this;rwa [BU] at this);have L1:=AA (show Rd (wx.alloc (.cells #[.int .i64 j] 3)) (.slice (some ⟨wx.heap.size,0,none⟩) 1 1) 1 1 ((Ak [j]).map (Value.int .i64)) from AE.rd (Ik wx (j:Int)));have s5:=Hbx.out.size;have hnb:=AA (show ∀b,(Value.slice a11 (Bv k an j).length c11).ownBlock=some b→W5.heap.size≤b from fun b hb=>(World.ownsRow.lt HO.out b hb).1);have S8:=AA ((S7.out.below hG).below b1);have HNE8:=AA (AF (AF HNE.out hG) b1);have Rx:=AA (A3.below (A3.below R7 hG) b1);have hOa:=AA HOx;have HB8:=AA (Hbx.out.trans (b1.mono s5));clear hG hbx y0 x0 x1 n0 n1 hG0 RM RIn R7 HOx b1;go_wp2_with (at_builtin;go_must (refine DO (lo:=W5.heap.size) (v:= .slice a11 (Bv k an j).length c11) (n:=(Bv k an j).length) (xs:=(Ak (Bv k an j)).map (Value.int .i64)) (m:=1) (news:=(Ak [j]).map (Value.int .i64)) rfl rfl 3 (.int .i64 0) 1 8 underlying30 Tryz.infoInt rfl (by decide) rfl O1.out rfl L1.out If (by unfold maxLen;omega) (by omega) (by simp;omega) ?_;intro o11 W9 k1_ k2_ k3_;have y0:=(EX (o:=0) k2_ S8.out.lts.1 (Bz O1.out S8.out.blk (by decide))).trans S8.out.ys.1;have n0:=(EX (o:=0) k2_ (Ao HNE8.out) (Bz O1.out HNE8.out (by decide))).trans (cell_of_row _ _ 0 _ _ _ HNE8.out)));have HB9:=AA (HB8.out.trans k3_);have S9:=AA (S5.out.below HB9.out);have O9:=AA (JV (a:=Bv k an j) (b:=[j]) k1_);have CAl:=FH g _ _ _ (AC k.envs j).rights ts k.infos W9 S9.out.xs.2.1 (A3.below HR5.out HB9.out) (A3.below S5.out.ink.2.2.2.1.rd HB9.out) (Ap.below (AE.rd N10.out) HB9.out) (fun g hg=>by rw[HK.out.len];exact Ht.out g hg);rw[Ds Hm.out] at CAl;clear y0 n0 k1_ k2_ k3_ O1 L1;cases hal:Aq k.infos (DH k c1) (AC k.envs j).rights
         ·have Hal:=AA hal
          have E:=AA (show GC k ⟨k1,(en:Int),(an:Int),(bn:Int),c1,nm⟩=(k,0,1) by rw[HP2.out,if_pos (List.all_eq_false.2 ⟨j,hju,by rw[hal];decide⟩)]);rw[hal] at CAl;clear hal;refine CAl.mono ?_;rintro r w10 ⟨rfl,hb10⟩;go_wp2_with fail;go_ret;exact Cd.bad E.out (by decide) (S9.out.below hb10).bel
         ·have Hal:=AA hal
          rw[hal] at CAl;clear hal;refine CAl.mono ?_;rintro r w10 ⟨rfl,hb10⟩;have O10:=AA (O9.out.below hb10);have H10:=AA (HB9.out.trans (hb10.mono HB9.out.size));clear hb10;go_wp2_with fail;go_roundw
          case rel=>exact⟨j+1,by omega,by go_num,by rw[HU.out];exact O10.out,H10.out,fun e he=>by
           rw[HU.out,List.mem_append,List.mem_singleton] at he
           rcases he with he|rfl
           ·exact Hall.out e he
           ·exact Hal.out⟩
          case measure=>simp[intOf];omega
      ·obtain rfl:j=3:=by omega
       rw[Eg] at HO Hall ⊢;obtain⟨us,hus⟩:∃us,us=Eo k an:=⟨_,rfl⟩
       have husl:us.length≤3:=by rw[hus,←Eg];exact Gi
       rw[←hus] at HO Hall ⊢;have HP3:=AA (show GC k ⟨k1,(en:Int),(an:Int),(bn:Int),c1,nm⟩=_ by rw[HP2.out,if_neg (by rw[Bool.not_eq_false,List.all_eq_true,←hus];exact Hall.out)]);rw[←hus] at HP3;clear hus hl6;obtain⟨W6,rfl⟩:∃W6:World,W6=wr:=⟨_,rfl⟩
       go_wp2_with fail;have CM:=MB (w1:=W6) (fun W hW=>Ku (S6.out.below hW).ink ⟨k1,(en:Int),(an:Int),(bn:Int),c1,nm⟩ (infoAt k.infos f).g (by simp) (by rw[HK.out.envl];simp only;omega));simp only[AR.on,AR.onCells] at CM;obtain⟨y0,y1,y2,y3,y4,y5,y6⟩:=S6.out.ys;replace y0:=cell_regrown y0;replace y1:=cell_regrown y1;replace y2:=cell_regrown y2;replace y3:=cell_regrown y3;replace y4:=cell_regrown y4;replace y5:=cell_regrown y5;replace y6:=cell_regrown y6;have x1:=cell_regrown S6.out.xs.2.1;have dg:=cell_regrown (S6.out.infoAt (f:=f) (by rw[HK.out.len];exact hf12)).2.1;cases hmy:FJ k (en:Int) (infoAt k.infos f).g
       ·have HMy:=AA hmy
        have E:=AA (show GC k ⟨k1,(en:Int),(an:Int),(bn:Int),c1,nm⟩=(k,0,1) by rw[HP3.out,if_pos ⟨Hent.out,by rw[HF.out];exact hmy⟩]);rw[hmy] at CM;clear hmy;refine wp_region_quiet_below mixed (by kernel_rfl) ?_
        repeat(go_big_quiet_step (exact CM _ _))
        refine wpQuiet_nil ?_;intro _ hw';obtain⟨⟨dq,osq⟩,hw''⟩:=hw';subst hw'';have bq:=below_regrown W6 dq osq;generalize Sort.grow (redrawn W6 dq) osq=wq at bq;clear y0 y1 y2 y3 y4 y5 y6 x1 dg;go_wp2_with fail;go_ret;exact Cd.bad E.out (by decide) (S6.out.below bq).bel
       have HMy:=AA hmy;rw[hmy] at CM;clear hmy;have HP4:=AA (show GC k ⟨k1,(en:Int),(an:Int),(bn:Int),c1,nm⟩=_ by rw[HP3.out,if_neg (by rintro⟨_,x⟩;rw[HF.out,HMy.out] at x;cases x)]);refine wp_region_quiet_below mixed (by kernel_rfl) ?_
       repeat(go_big_quiet_step (exact CM _ _))
       refine wpQuiet_nil ?_;intro _ hw';obtain⟨⟨dq,osq⟩,hw''⟩:=hw';subst hw'';have bq:=below_regrown W6 dq osq;generalize Sort.grow (redrawn W6 dq) osq=wq at bq;clear y0 y1 y2 y3 y4 y5 y6 x1 dg CM;have S7:=AA (S6.out.below bq);obtain⟨W7,rfl⟩:∃W7:World,W7=wq:=⟨_,rfl⟩
       have HO7:=AA (HO.out.below bq);have hs5:=Nat.le_trans Hbel.out.size bq.size;obtain⟨y0,y1,y2,y3,y4,y5,y6⟩:=S7.out.ys;obtain⟨x0,_,_,_⟩:=S7.out.xs;obtain⟨gw,capw,Dw,hgw,hcw,Dj,fzw,⟨⟨ngw1,ngw2⟩,ngw3,ngw4⟩,_,hT,SW⟩:=S7.out.mrow (AW HK.out).1 (f:=an) han;have Dv:=Dj bn hb4;have fz:=fzw bn;have S8:=AA (SW bn c1 hb4);have hb4i:(bn:Int)<4:=by omega
       have how:=AA (HK.out.word (f:=an) (i:=bn) han hb4);have hgw5:gw<W5.heap.size:=by obtain⟨gw',capw',Dw',hgw',_⟩:=S5.out.mrow (AW HK.out).1 (f:=an) han;have:=((Hbel.out.trans (bq.mono Hbel.out.size)).cell (World.block_lt_of_cell? _ _ Dw')).trans Dw';rw[Dw] at this;simp at this;rw[this.1];exact hgw'
       have HO8:=AA (show AE W5.heap.size (W7.setCell ⟨gw,bn,none⟩ (.int .i64 c1)) (.slice a11 us.length c11) (Ak us) from Av HO7.out (Al _ _ _ _) (by
        rcases hv:(Value.slice a11 us.length c11).ownBlock with _|b
        ·exact .inl rfl
        ·refine .inr fun e=>?_
         cases e;have:=(World.ownsRow.lt HO7.out gw hv).1;omega))
       clear bq Dj fzw SW hT;go_wp2_with fail;clear y0 y1 y2 y3 y4 y5 y6 x0 Dw Dv fz;generalize W7.setCell _ _=W8 at*;have CR:=S8.out.refer (Am k.mem an bn) (-1) (by have:=how.out.2;omega) HK.out.len (.inr rfl) ((ID (AW HK.out).2.1).mono (by decide));simp only[AR.on,AR.onCells] at CR;refine CR.mono ?_;rintro r w9 ⟨rfl,S9,hg9⟩;have S9:=AA S9;have hgi5:=S5.out.gi_lt;have HO9:=AA (show AE W5.heap.size w9 (.slice a11 us.length c11) (Ak us) from Av HO8.out hg9 (by
        rcases hv:(Value.slice a11 us.length c11).ownBlock with _|b
        ·exact .inl rfl
        ·refine .inr fun e=>?_
         cases e;have:=(World.ownsRow.lt HO8.out gi hv).1;omega))
       clear hg9 CR;obtain⟨y0,y1,y2,y3,y4,y5,y6⟩:=S9.out.ys;go_wp2_with fail;clear y0 y1 y2 y3 y4 y5 y6;have CR:=S9.out.refer c1 1 hcc (by simp only[Cr];exact HK.out.len) (.inl rfl) (GM.mono (GM.refer (ID (AW HK.out).2.1) HK.out.len (.inr rfl)) (by decide));simp only[AR.on,AR.onCells] at CR;refine CR.mono ?_;rintro r w10 ⟨rfl,S10,hg10⟩;have S10:=AA S10;have HO10:=AA (show AE W5.heap.size w10 (.slice a11 us.length c11) (Ak us) from Av HO9.out hg10 (by
        rcases hv:(Value.slice a11 us.length c11).ownBlock with _|b
        ·exact .inl rfl
        ·refine .inr fun e=>?_
         cases e;have:=(World.ownsRow.lt HO9.out gi hv).1;omega))
       have hg5:=S5.out.lts.2.1;clear hg10 CR;go_wp2_with fail;go_loopw [172] (fun s172 wr=>∃j:Nat,j≤us.length∧s172= .int .i64 j∧AE W5.heap.size wr (.slice a11 us.length c11) (Ak us)∧∃c',CS lo g w.heap.size ⟨k1,(en:Int),(an:Int),(bn:Int),c1,nm⟩ w wr (.slice (some ⟨gm,0,none⟩) 12 capm) (.slice (some ⟨gi,0,none⟩) 12 capi) (.slice (some ⟨ge,0,none⟩) 3 cap) c' {k with mem:=Ch k.mem an bn c1,infos:=A1 (A1 k.infos (Am k.mem an bn) (-1)) c1 1,cache:=Ey (us.take j) k.cache}) (fun s172 _=>us.length - (intOf s172).toNat)
       case atStart=>exact⟨0,Nat.zero_le _,rfl,HO10.out,c,S10.out⟩
       case round=>
        obtain⟨j,hj,rfl,hO,c',hS⟩:=hrel;have HOr:=AA hO;have S:=AA hS;clear hS
        by_cases hlt:j<us.length
        ·obtain⟨ax,cx,hvx,_,_,H0⟩:=hO.rd.open
         rw[BU] at hvx;simp only[Value.slice.injEq] at hvx;obtain⟨rfl,_,rfl⟩:=hvx;obtain⟨bx,offx,rfl,DX⟩:=H0.at (k:=j) (by rw[BU];exact hlt);rw[Kw hlt] at DX;obtain⟨un,hun⟩:∃u,u=us.getD j 0:=⟨_,rfl⟩
         rw[←hun] at DX;have HUN:=AA hun;obtain⟨cc,hcc'⟩:∃cc,cc=Ey (us.take j) k.cache:=⟨_,rfl⟩
         have HCC:=AA hcc';clear hun;have hjl:(j:Int)<us.length:=by omega
         obtain⟨y0,_,_,_,_,_,_⟩:=S.out.ys;obtain⟨_,_,_,x3⟩:=S.out.xs;obtain⟨hlr,hgr,ngb,nbg⟩:=S.out.lts;have RC:Bn wr c' cc:=by rw[hcc'];exact S.out.ink.2.2.2.2.2.rd
         clear hcc';have CD:=AA (fun W (hW:Below wr.heap.size wr W)=>Ev c' cc (un:Int) W (A3.below RC hW) (by rw[HCC.out];exact LT _ (AW HK.out).2.2));clear RC H0 hO;go_wp2_with fail;clear DX;refine AH 11 mixed (by kernel_rfl) 188 rfl (by kernel_rfl) (fun ix vv ww=>match ix with
          |0=>vv= .pointer (some ⟨w.heap.size,0,none⟩)
          |1=>vv= .pointer (some ⟨g,0,none⟩)
          |2=>vv= .pointer (some ⟨w.heap.size,0,none⟩)
          |3=>vv= .pointer (some ⟨g,0,none⟩)
          |4=>vv= .pointer (some ⟨g,0,none⟩)
          |5=>vv= .pointer (some ⟨g,3,none⟩)
          |6=>vv=c'
          |7=>vv= .int .i64 un
          |8=>AJ wr.heap.size 140 4 AP ww vv (Co cc (un:Int))
          |9=>vv= .pointer (some ⟨g,0,none⟩)
          |10=>vv= .pointer (some ⟨g,3,none⟩)
          |_=>True) ?_ ?_ ?_
         ·intro i hi vv wz ww' hbz hz
          match i,hi with
          |0,_|1,_|2,_|3,_|4,_|5,_|6,_|7,_=>exact hz
          |8,_=>exact(AJ.below hz hbz)
          |9,_|10,_=>exact hz
         ·intro i hi o ho a wx Hb Hd hG K HK
          match i,hi with
          |0,_=>exact eF ho HK BP (eb (Aj Hb 1))
          |1,_=>exact eL ho HK (et (AD Hd 0)) (DY (bc hG hlr y0))
          |2,_=>exact eF ho HK BP (eb (Aj Hb 1))
          |3,_=>exact eL ho HK (et (AD Hd 2)) (DY (bc hG hlr y0))
          |4,_=>exact eC ho HK (et (AD Hd 3))
          |5,_=>exact eF ho HK EU (et (AD Hd 4))
          |6,_=>exact eL ho HK (et (AD Hd 5)) (M5 (bc hG hgr x3))
          |7,_=>exact eM ho HK (eb (Aj Hb 16))
          |8,_=>obtain rfl:=So_ ho;have d6:(a.tmps[182]?.getD undef)=c':=AD Hd 6;have d7:(a.tmps[183]?.getD undef)= .int .i64 un:=AD Hd 7;clear Hd Hb;refine AI.of rfl ?_;go_simp;refine(CD.out _ hG).mono ?_;rintro e w_ ⟨v',rfl,hO,hb2⟩;exact HK.out _ _ (hO.lower hG.size) hb2
          |9,_=>exact eC ho HK (et (AD Hd 1))
          |10,_=>exact eF ho HK EU (et (AD Hd 9))
         ·intro vs wx hR hG
          have q1:(vs 1)= .pointer (some ⟨g,0,none⟩):=BI hR 1;have q8:AJ wr.heap.size 140 4 AP wx (vs 8) (Co cc (un:Int)):=BI hR 8;have q9:(vs 9)= .pointer (some ⟨g,0,none⟩):=BI hR 9;have q10:(vs 10)= .pointer (some ⟨g,3,none⟩):=BI hR 10;clear hR;simp only[Ai,AX,List.range,List.range.loop,List.foldl_cons,List.foldl_nil,q1,q9,q10];simp;generalize vs 8=z8 at q8 ⊢;clear q1 q9 q10;rw[HCC.out,HUN.out,←JY hlt] at q8;have S8:=AA (S.out.cache hG q8);have HOn:=AA (Jw (j:=3) (u:=z8) (AE.below HOr.out hG) hg5);have fzg:=AM (S.out.below hG).ink.1;have x3w:=(S.out.below hG).xs.2.2.2;obtain⟨_,_,rfl,_,_⟩:=q8.rd.shape;clear q8 hG y0 x3;go_wp2_with fail;go_roundw
          case rel=>exact⟨j+1,by omega,by go_num,HOn.out,_,S8.out⟩
          case measure=>simp[intOf];omega
        ·obtain rfl:j=us.length:=by omega
         rw[List.take_length] at S;have HE:=AA (show GC k ⟨k1,(en:Int),(an:Int),(bn:Int),c1,nm⟩=({k with mem:=Ch k.mem an bn c1,infos:=A1 (A1 k.infos (Am k.mem an bn) (-1)) c1 1,cache:=Ey us k.cache},0,0) from HP4.out);go_wp2_with fail;go_ret;exact⟨by rw[HE.out]<;>rfl,fun _=>⟨_,_,_,_,by rw[HE.out];exact S.out.ink⟩,S.out.bel⟩
    ·have t2:((infoAt k.infos f).k !=(infoAt k.infos an).k - 1)=true:=by simp[h0]
     have E:=AA (show GC k ⟨k1,(en:Int),(an:Int),b1,c1,nm⟩=(k,0,3) by rw[HP.out,if_pos (.inr (.inr (by rw[hwf];exact decide_eq_false h0)))]);refine wp_region_quiet_below mixed (by kernel_rfl) ?_
     repeat(go_big_quiet_step (first|exact cT _ _|exact cP _ _|exact cN _ _))
     refine wpQuiet_nil ?_;intro _ hw';obtain⟨⟨dq,osq⟩,hw''⟩:=hw';subst hw'';have bq:=below_regrown W2 dq osq;generalize Sort.grow (redrawn W2 dq) osq=wq at bq;go_wp2_with fail;go_ret;exact Cd.bad E.out (by decide) (S2.out.below bq).bel
def Cq (k:AN) (c:AR):LB:=
 if c.k=2 then Kr k c
 else if c.k=3 then Kz k c
 else if c.k=4 then DQ k (FU k.mem k.infos c.a.toNat c.b (AC k.envs c.e.toNat).rights)
 else if c.k=5 then DQ k (Cw k.mem k.infos c.a.toNat)
 else GC k c
theorem NF {n:Int} (h:n≠0):G0 n≠0:=by
 unfold G0;rw[if_neg h]
 split<;>decide
theorem HZ {lo g:Nat} {w:World} {m i e c:Value} {k:AN} (h:IH lo w g m i e c k) (hlo:lo≤w.heap.size) (hK:De k) (call:AR) (he:0≤call.e) (hn:call.e<3) (hk:2≤call.k∧call.k≤6) (ha:0≤call.a∧call.a<12) (hk4:call.k=4→Ba call.b=true) (hcc:call.c≤9223372036854775807):
 Calls prog 203 #[call.on g] w (Cd lo g w (Cq k call)):=by
 have S0:=Dm.start h hlo call;have P:Cq k call=if call.k=2 then Kr k call else if call.k=3 then Kz k call else if call.k=4 then DQ k (FU k.mem k.infos call.a.toNat call.b (AC k.envs call.e.toNat).rights) else if call.k=5 then DQ k (Cw k.mem k.infos call.a.toNat) else GC k call:=rfl
 have CS6:=fun(W:World) (hW:Below (w.alloc (.cells (call.onCells g) 163)).heap.size (w.alloc (.cells (call.onCells g) 163)) W)=>U4 (S0.below hW).ink (S0.below hW).lo hK call he hn ha hcc
 obtain⟨k1,e1,a1,b1,c1,nm⟩:=call;obtain⟨en,rfl⟩:∃n:Nat,e1=(n:Int):=⟨e1.toNat,by simp only at he;omega⟩
 obtain⟨an,rfl⟩:∃n:Nat,a1=(n:Int):=⟨a1.toNat,by simp only at ha;omega⟩
 have hen:en<3:=by simp only at hn;omega
 have han:an<12:=by simp only at ha;omega
 simp only[AR.on,AR.onCells] at S0 P hk hk4 CS6 ⊢;simp only[Int.toNat_natCast] at P;obtain⟨ge,cap,e9,_,⟨⟨nge1,nge2⟩,nge3,nge4⟩,_⟩:=S0.envs (by rw[hK.envl];omega);rw[hK.envl] at e9;obtain⟨gi,capi,e8,_,_,⟨⟨ngi1,ngi2⟩,ngi3,ngi4⟩,_⟩:=S0.infos (by rw[hK.len];omega);rw[hK.len] at e8;obtain⟨gm,capm,e7,_,⟨ngm1,ngm2⟩,ngm3,ngm4⟩:=S0.mems (AW hK).1;subst e7 e8 e9;obtain⟨y0,y1,y2,y3,y4,y5,y6⟩:=S0.ys;obtain⟨x0,x1,x2,x3⟩:=S0.xs;obtain⟨d0,d1,d2⟩:=S0.infoAt (f:=an) (by rw[hK.len];exact han);have hani:(an:Int)<12:=by omega
 obtain⟨hl2,hgl2,ngb,nbg⟩:=S0.lts;have HK:=AA hK;have HS:=AA S0;clear hK h S0 hlo he hn;obtain⟨kk1,kk2⟩:=hk;have k5:k1=2∨k1=3∨k1=4∨k1=5∨k1=6:=by omega
 clear kk1 kk2
 rcases k5 with rfl|rfl|rfl|rfl|rfl
 ·have HP:=AA (show Cq k ⟨2,(en:Int),(an:Int),b1,c1,nm⟩=Kr k ⟨2,(en:Int),(an:Int),b1,c1,nm⟩ from P)
  have HG:=AA (show Kr k ⟨2,(en:Int),(an:Int),b1,c1,nm⟩=if(infoAt k.infos an).k≠1 then(k,0,3) else if(infoAt k.infos an).r≠0 then(k,0,2) else({k with infos:=k.infos.set an AQ.zero},0,0) from rfl);clear P CS6
  by_cases h1:(infoAt k.infos an).k=1
  ·have t1:((infoAt k.infos an).k==1)=true:=by simp[h1]
   by_cases h2:(infoAt k.infos an).r=0
   ·have E:=AA (show Cq k ⟨2,(en:Int),(an:Int),b1,c1,nm⟩=({k with infos:=k.infos.set an AQ.zero},0,0) by rw[HP.out,HG.out,if_neg (by simp[h1]),if_neg (by simp[h2])])
    have H1:=AA h1;have H2:=AA h2;clear h1 h2;go_in;go_wp2_with fail;generalize w.alloc _=W0 at*;have CG:=AA (Nh _ k.infos an W0 HS.out.ink.2.2.2.1.rd (AW HK.out).2.1 han H1.out H2.out);refine CG.out.mono ?_;rintro r w1 ⟨v',rfl,hO,hb⟩;have S2:=AA (HS.out.newInfos hb hO);have fz:=AM (HS.out.below hb).ink.1;have x1:=(HS.out.below hb).xs.2.1;have y0:=(HS.out.below hb).ys.1;obtain⟨_,_,rfl,_,_⟩:=hO.rd.shape;rw[List.length_set] at S2;clear hO hb;go_wp2_with fail;go_ret;exact⟨by rw[E.out]<;>rfl,fun _=>⟨_,_,_,_,by rw[E.out];exact S2.out.ink⟩,S2.out.bel⟩
   ·have E:=AA (show Cq k ⟨2,(en:Int),(an:Int),b1,c1,nm⟩=(k,0,2) by rw[HP.out,HG.out,if_neg (by simp[h1]),if_pos h2])
    have H1:=AA h1;have H2:=AA h2;clear h1 h2;go_in;go_wp2_with fail;generalize w.alloc _=W0 at*;have CG:=AA (Ot _ k.infos an W0 HS.out.ink.2.2.2.1.rd (AW HK.out).2.1 han H1.out H2.out);refine CG.out.mono ?_;rintro r w1 ⟨rfl,hb⟩;have S2:=AA (HS.out.below hb);go_wp2_with fail;go_ret;exact Cd.bad E.out (by decide) S2.out.bel
  ·have t1:((infoAt k.infos an).k==1)=false:=by simp[h1]
   have E:=AA (show Cq k ⟨2,(en:Int),(an:Int),b1,c1,nm⟩=(k,0,3) by rw[HP.out,HG.out,if_pos h1]);clear h1;go_in;go_wp2_with fail;go_ret;exact Cd.bad E.out (by decide) HS.out.bel
 ·have HP:=AA (show Cq k ⟨3,(en:Int),(an:Int),b1,c1,nm⟩=Kz k ⟨3,(en:Int),(an:Int),b1,c1,nm⟩ from P)
  have HG:=AA (show Kz k ⟨3,(en:Int),(an:Int),b1,c1,nm⟩=if(infoAt k.infos an).k≠1∨Bk b1 0 3=false∨E9 c1=false then(k,0,3) else({k with mem:=Ch k.mem an b1.toNat c1},0,0) from rfl);clear P CS6;have C0:=AA (fun W=>Ae (Ln b1 W));have C1:=AA (fun W=>Ae (KX c1 W))
  by_cases h1:(infoAt k.infos an).k=1
  ·have t1:((infoAt k.infos an).k==1)=true:=by simp[h1]
   have H1:=AA h1;clear h1;go_in;go_wp2_with fail;generalize w.alloc _=W0 at*;cases h2:Bk b1 0 3
   ·have E:=AA (show Cq k ⟨3,(en:Int),(an:Int),b1,c1,nm⟩=(k,0,3) by rw[HP.out,HG.out,if_pos (.inr (.inl h2))])
    have T:=AA h2;clear h2;refine(C0.out _).mono ?_;rintro r w1 ⟨rfl,hb⟩;rw[T.out];have S2:=AA (HS.out.below hb);clear y0 y1 y2 y3 y4 y5 y6 x0 x1 x2 x3 d0 d1 d2;go_wp2_with fail;go_ret;exact Cd.bad E.out (by decide) S2.out.bel
   ·have T:=AA h2
    have hbb:=AZ.1 h2;obtain⟨bn,rfl⟩:∃n:Nat,b1=(n:Int):=⟨b1.toNat,by omega⟩
    have hb4:bn<4:=by omega
    clear h2 hbb;refine(C0.out _).mono ?_;rintro r W1 ⟨rfl,hb⟩;rw[T.out];have S1:=AA (HS.out.below hb);clear y0 y1 y2 y3 y4 y5 y6 x0 x1 x2 x3 d0 d1 d2 hb;obtain⟨y0,y1,y2,y3,y4,y5,y6⟩:=S1.out.ys;go_wp2_with fail;cases h3:Bk c1 0 9999
    ·have E:=AA (show Cq k ⟨3,(en:Int),(an:Int),(bn:Int),c1,nm⟩=(k,0,3) by rw[HP.out,HG.out,if_pos (.inr (.inr h3))])
     have T3:=AA h3;clear h3;refine(C1.out _).mono ?_;rintro r w1 ⟨rfl,hb⟩;rw[T3.out];have S2:=AA (S1.out.below hb);clear y0 y1 y2 y3 y4 y5 y6;go_wp2_with fail;go_ret;exact Cd.bad E.out (by decide) S2.out.bel
    ·have T3:=AA h3
     have E:=AA (show Cq k ⟨3,(en:Int),(an:Int),(bn:Int),c1,nm⟩=({k with mem:=Ch k.mem an bn c1},0,0) by rw[HP.out,HG.out,if_neg (by rintro(x|x|x);(· exact x H1.out);(· rw[T.out] at x;cases x);(· rw[show E9 c1=true from h3] at x;cases x)),Int.toNat_natCast]);clear h3;refine(C1.out _).mono ?_;rintro r W2 ⟨rfl,hb⟩;rw[T3.out];have S2:=AA (S1.out.below hb);clear y0 y1 y2 y3 y4 y5 y6 hb;obtain⟨y0,_,_,_,y4,y5,_⟩:=S2.out.ys;obtain⟨x0,_,_,_⟩:=S2.out.xs;obtain⟨hl2,hgl2,_,_⟩:=S2.out.lts;obtain⟨gw,capw,Dw,hgw,hcw,Dj,fzw,⟨⟨ngw1,ngw2⟩,ngw3,ngw4⟩,_,_,_⟩:=S2.out.mrow (AW HK.out).1 (f:=an) han;have hgm2:=World.block_lt_of_cell? _ _ Dw;have hb4i:(bn:Int)<4:=by omega
     clear Dj fzw;go_wp2_with fail;refine AH 15 mixed (by kernel_rfl) 139 rfl (by kernel_rfl) (fun ix vv ww=>match ix with
      |0=>vv= .pointer (some ⟨w.heap.size,0,none⟩)
      |1=>vv= .pointer (some ⟨g,0,none⟩)
      |2=>vv= .pointer (some ⟨g,0,none⟩)
      |3=>vv= .pointer (some ⟨g,0,none⟩)
      |4=>vv= .slice (some ⟨gm,0,none⟩) 12 capm
      |5=>vv= .int .i64 an
      |6=>vv= .pointer (some ⟨gm,an,none⟩)
      |7=>vv= .slice (some ⟨gw,0,none⟩) 4 capw
      |8=>vv= .pointer (some ⟨w.heap.size,1,none⟩)
      |9=>vv= .pointer (some ⟨w.heap.size,4,none⟩)
      |10=>vv= .int .i64 bn
      |11=>vv= .pointer (some ⟨w.heap.size,1,none⟩)
      |12=>vv= .pointer (some ⟨w.heap.size,5,none⟩)
      |13=>vv= .int .i64 c1
      |14=>vv= .pointer (some ⟨gw,bn,none⟩)
      |_=>True) ?_ ?_ ?_
     ·intro i hi vv wz ww' hbz hz
      match i,hi with
      |0,_|1,_|2,_|3,_|4,_|5,_|6,_|7,_|8,_|9,_|10,_|11,_|12,_|13,_|14,_=>exact hz
      |_+15,hq=>exact absurd hq (by omega)
     ·intro i hi o ho a wx Hb Hd hG K HK
      match i,hi with
      |0,_=>exact eF ho HK BP (eb (Aj Hb 1))
      |1,_=>exact eL ho HK (et (AD Hd 0)) (DY (bc hG hl2 y0))
      |2,_=>exact eC ho HK (et (AD Hd 1))
      |3,_=>exact eF ho HK Ci (et (AD Hd 2))
      |4,_=>exact eL ho HK (et (AD Hd 3)) (Fd (bc hG hgl2 x0))
      |5,_=>exact eM ho HK (eb (Aj Hb 3))
      |6,_=>obtain rfl:=So_ ho;have d4:(a.tmps[72]?.getD undef)= .slice (some ⟨gm,0,none⟩) 12 capm:=AD Hd 4;have d5:(a.tmps[73]?.getD undef)= .int .i64 an:=AD Hd 5;clear Hd Hb;refine AI.of rfl ?_;go_simp;exact HK.out _ _ rfl (Below.refl _ _)
      |7,_=>exact eL ho HK (et (AD Hd 6)) (Qh (bc hG hgm2 Dw))
      |8,_=>exact eF ho HK Dp (eb (Aj Hb 1))
      |9,_=>exact eF ho HK Gp (et (AD Hd 8))
      |10,_=>exact eL ho HK (et (AD Hd 9)) (DA (bc hG hl2 y4))
      |11,_=>exact eF ho HK Dp (eb (Aj Hb 1))
      |12,_=>exact eF ho HK KS (et (AD Hd 11))
      |13,_=>exact eL ho HK (et (AD Hd 12)) (DA (bc hG hl2 y5))
      |14,_=>obtain rfl:=So_ ho;have d7:(a.tmps[75]?.getD undef)= .slice (some ⟨gw,0,none⟩) 4 capw:=AD Hd 7;have d10:(a.tmps[78]?.getD undef)= .int .i64 bn:=AD Hd 10;clear Hd Hb;refine AI.of rfl ?_;go_simp;exact HK.out _ _ rfl (Below.refl _ _)
      |_+15,hq=>exact absurd hq (by omega)
     ·intro vs wx hR hG
      have q13:(vs 13)= .int .i64 c1:=BI hR 13;have q14:(vs 14)= .pointer (some ⟨gw,bn,none⟩):=BI hR 14;clear hR;simp only[Ai,AX,List.range,List.range.loop,List.foldl_cons,List.foldl_nil,q13,q14];simp;clear q13 q14;have S3:=AA (S2.out.below hG);obtain⟨gw',capw',Dw',_,_,Dj,fzw,_,_,_,SW⟩:=S3.out.mrow (AW HK.out).1 (f:=an) han;have hsame:=(hG.cell (p:=⟨gm,an,none⟩) hgm2).trans Dw;rw[hsame] at Dw';have hgg:gw=gw':=by simp at Dw';exact Dw'.1
      subst hgg;have Dv:=Dj bn hb4;have fz:=fzw bn;have S4:=AA (SW bn c1 hb4);clear hG y0 y4 y5 x0 Dw Dw' hsame Dj fzw SW;go_wp2_with fail;go_ret;exact⟨by rw[E.out]<;>rfl,fun _=>⟨_,_,_,_,by rw[E.out];exact S4.out.ink⟩,S4.out.bel⟩
  ·have t1:((infoAt k.infos an).k==1)=false:=by simp[h1]
   have E:=AA (show Cq k ⟨3,(en:Int),(an:Int),b1,c1,nm⟩=(k,0,3) by rw[HP.out,HG.out,if_pos (.inl h1)]);clear h1;go_in;go_wp2_with fail;go_ret;exact Cd.bad E.out (by decide) HS.out.bel
 ·have hkt:=hk4 rfl
  have HP:=AA (show Cq k ⟨4,(en:Int),(an:Int),b1,c1,nm⟩=DQ k (FU k.mem k.infos an b1 (AC k.envs en).rights) from P);obtain⟨xs,cd,hp⟩:∃xs cd,FU k.mem k.infos an b1 (AC k.envs en).rights=(xs,cd):=⟨_,_,rfl⟩
  have HPp:=AA hp;clear P CS6 hp
  by_cases h1:(infoAt k.infos an).k=1
  all_goals
   first
   |have t1:((infoAt k.infos an).k==1)=true:=by simp[h1]
   |have t1:((infoAt k.infos an).k==1)=false:=by simp[h1]
   clear h1;go_in;go_wp2_with fail;generalize w.alloc _=W2 at*;have hge:=HS.out.ge_lt;obtain⟨ua,uc,D0,D1,R⟩:=HS.out.env (j:=en) (by rw[HK.out.envl];exact hen);have CE:=AA (fun W (hW:Below W2.heap.size W2 W)=>HS.out.callEnv (en:=en) rfl hen W hW);simp only[AR.on,AR.onCells] at CE;have CT0:=fun W (hW:Below W2.heap.size W2 W)=>Oz _ _ _ k.mem k.infos an b1 (AC k.envs en).rights W (BJ.below HS.out.ink.2.2.rd.1 hW) (AW HK.out).1 (A3.below HS.out.ink.2.2.2.1.rd hW) (AW HK.out).2.1 han hkt (A3.below R hW) (FW (HK.out.rights en hen)) (HK.out.rights en hen)
   rw[HPp.out] at CT0;unfold KP at CT0;simp only at CT0;have CT:=AA CT0;clear CT0 R D1;refine AH 24 mixed (by kernel_rfl) 139 rfl (by kernel_rfl) (fun ix vv ww=>match ix with
    |0=>vv= .pointer (some ⟨w.heap.size,0,none⟩)
    |1=>vv= .pointer (some ⟨g,0,none⟩)
    |2=>vv= .pointer (some ⟨g,0,none⟩)
    |3=>vv= .pointer (some ⟨g,0,none⟩)
    |4=>vv= .slice (some ⟨gm,0,none⟩) 12 capm
    |5=>vv= .pointer (some ⟨w.heap.size,0,none⟩)
    |6=>vv= .pointer (some ⟨g,0,none⟩)
    |7=>vv= .pointer (some ⟨g,0,none⟩)
    |8=>vv= .pointer (some ⟨g,1,none⟩)
    |9=>vv= .slice (some ⟨gi,0,none⟩) 12 capi
    |10=>vv= .int .i64 an
    |11=>vv= .pointer (some ⟨w.heap.size,1,none⟩)
    |12=>vv= .pointer (some ⟨w.heap.size,4,none⟩)
    |13=>vv= .int .i64 b1
    |14=>vv= .agg #[.pointer (some ⟨g,0,none⟩), .int .i64 4, .int .i64 en, .int .i64 an, .int .i64 b1, .int .i64 c1, .string nm]
    |15=>vv= .pointer (some ⟨ge,en*2,none⟩)
    |16=>vv= .pointer (some ⟨ge,en*2,none⟩)
    |17=>vv= .pointer (some ⟨ge,en*2,none⟩)
    |18=>vv= .slice ua (AC k.envs en).rights.length uc
    |19=>∃v',vv= .tuple #[v', .int .i64 cd]∧AJ W2.heap.size 135 3 Ag ww v' xs
    |20=>∃v',vv= .tuple #[v', .int .i64 cd]∧AJ W2.heap.size 135 3 Ag ww v' xs
    |21=>AJ W2.heap.size 135 3 Ag ww vv xs
    |22=>vv= .int .i64 cd
    |23=>AJ W2.heap.size 135 3 Ag ww vv xs
    |_=>True) ?_ ?_ ?_
   ·intro i hi vv wz ww' hbz hz
    match i,hi with
    |0,_|1,_|2,_|3,_|4,_|5,_|6,_|7,_|8,_|9,_|10,_|11,_|12,_|13,_|14,_|15,_|16,_|17,_|18,_=>exact hz
    |19,_=>exact(by obtain⟨v',h0,h1⟩:=hz;exact⟨v',h0,AJ.below h1 hbz⟩)
    |20,_=>exact(by obtain⟨v',h0,h1⟩:=hz;exact⟨v',h0,AJ.below h1 hbz⟩)
    |21,_=>exact(AJ.below hz hbz)
    |22,_=>exact hz
    |23,_=>exact(AJ.below hz hbz)
    |_+24,hq=>exact absurd hq (by omega)
   ·intro i hi o ho a wx Hb Hd hG K HK
    match i,hi with
    |0,_=>exact eF ho HK BP (eb (Aj Hb 1))
    |1,_=>exact eL ho HK (et (AD Hd 0)) (DY (bc hG hl2 y0))
    |2,_=>exact eC ho HK (et (AD Hd 1))
    |3,_=>exact eF ho HK Ci (et (AD Hd 2))
    |4,_=>exact eL ho HK (et (AD Hd 3)) (Fd (bc hG hgl2 x0))
    |5,_=>exact eF ho HK BP (eb (Aj Hb 1))
    |6,_=>exact eL ho HK (et (AD Hd 5)) (DY (bc hG hl2 y0))
    |7,_=>exact eC ho HK (et (AD Hd 6))
    |8,_=>exact eF ho HK CU (et (AD Hd 7))
    |9,_=>exact eL ho HK (et (AD Hd 8)) (FF (bc hG hgl2 x1))
    |10,_=>exact eM ho HK (eb (Aj Hb 3))
    |11,_=>exact eF ho HK Dp (eb (Aj Hb 1))
    |12,_=>exact eF ho HK Gp (et (AD Hd 11))
    |13,_=>exact eL ho HK (et (AD Hd 12)) (DA (bc hG hl2 y4))
    |14,_=>exact eL ho HK (eb (Aj Hb 1)) (Un (bc hG hl2 y0) (bc hG hl2 y1) (bc hG hl2 y2) (bc hG hl2 y3) (bc hG hl2 y4) (bc hG hl2 y5) (bc hG hl2 y6))
    |15,_=>obtain rfl:=So_ ho;have d14:(a.tmps[100]?.getD undef)= .agg #[.pointer (some ⟨g,0,none⟩), .int .i64 4, .int .i64 en, .int .i64 an, .int .i64 b1, .int .i64 c1, .string nm]:=AD Hd 14;clear Hd Hb;refine AI.of rfl ?_;go_simp;refine(CE.out _ hG).mono ?_;rintro e w_ ⟨rfl,hb2⟩;exact HK.out _ _ rfl hb2
    |16,_=>exact eC ho HK (et (AD Hd 15))
    |17,_=>exact eF ho HK EV (et (AD Hd 16))
    |18,_=>exact eL ho HK (et (AD Hd 17)) (Ie (bc hG hge D0))
    |19,_=>obtain rfl:=So_ ho;have d4:(a.tmps[90]?.getD undef)= .slice (some ⟨gm,0,none⟩) 12 capm:=AD Hd 4;have d9:(a.tmps[95]?.getD undef)= .slice (some ⟨gi,0,none⟩) 12 capi:=AD Hd 9;have d10:(a.tmps[96]?.getD undef)= .int .i64 an:=AD Hd 10;have d13:(a.tmps[99]?.getD undef)= .int .i64 b1:=AD Hd 13;have d18:(a.tmps[104]?.getD undef)= .slice ua (AC k.envs en).rights.length uc:=AD Hd 18;clear Hd Hb;refine AI.of rfl ?_;go_simp;refine(CT.out _ hG).mono ?_;rintro e w_ ⟨v',rfl,hO,hb2⟩;exact HK.out _ _ ⟨_,rfl,hO.lower hG.size⟩ hb2
    |20,_=>
     obtain rfl:=So_ ho;have d19:∃v',(a.tmps[105]?.getD undef)= .tuple #[v', .int .i64 cd]∧AJ W2.heap.size 135 3 Ag wx v' xs:=AD Hd 19
     clear Hd Hb;obtain⟨v',d19,hO⟩:=d19;refine AI.of rfl ?_;go_simp;exact HK.out _ _ ⟨_,rfl,hO⟩ (Below.refl _ _)
    |21,_=>
     obtain rfl:=So_ ho;have d20:∃v',(a.tmps[85]?.getD undef)= .tuple #[v', .int .i64 cd]∧AJ W2.heap.size 135 3 Ag wx v' xs:=AD Hd 20
     clear Hd Hb;obtain⟨v',d20,hO⟩:=d20;refine AI.of rfl ?_;go_simp;exact HK.out _ _ hO (Below.refl _ _)
    |22,_=>
     obtain rfl:=So_ ho;have d20:∃v',(a.tmps[85]?.getD undef)= .tuple #[v', .int .i64 cd]∧AJ W2.heap.size 135 3 Ag wx v' xs:=AD Hd 20
     clear Hd Hb;obtain⟨v',d20,hO⟩:=d20;refine AI.of rfl ?_;go_simp;exact HK.out _ _ rfl (Below.refl _ _)
    |23,_=>obtain rfl:=So_ ho;have d21:AJ W2.heap.size 135 3 Ag wx (a.tmps[106]?.getD undef) xs:=AD Hd 21;clear Hd Hb;refine AI.of rfl ?_;go_simp;exact HK.out _ _ d21 (Below.refl _ _)
    |_+24,hq=>exact absurd hq (by omega)
   ·intro vs wx hR hG
    have q22:(vs 22)= .int .i64 cd:=BI hR 22;have q23:AJ W2.heap.size 135 3 Ag wx (vs 23) xs:=BI hR 23;clear hR;simp only[Ai,AX,List.range,List.range.loop,List.foldl_cons,List.foldl_nil,q22];simp;generalize vs 23=z23 at q23 ⊢;clear q22;have S3:=AA (HS.out.newInfos hG q23);have fzg:=AM (HS.out.below hG).ink.1;have x1w:=(HS.out.below hG).xs.2.1;have y0w:=(HS.out.below hG).ys.1;have CC:=AA (fun W=>Lu cd W);obtain⟨_,_,rfl,_,_⟩:=q23.rd.shape;clear q23 hG y0 y1 y2 y3 y4 y5 y6 x0 x1 x2 x3 d0 d1 d2 D0;go_wp2_with fail;refine(CC.out _).mono ?_;rintro r w9 ⟨rfl,rfl⟩;go_wp2_with fail;go_ret
    by_cases h0:cd=0
    ·subst h0
     have E:Cq k ⟨4,(en:Int),(an:Int),b1,c1,nm⟩=({k with infos:=xs},0,0):=by rw[HP.out,HPp.out];rfl
     exact⟨by rw[E]<;>rfl,fun _=>⟨_,_,_,_,by rw[E];exact S3.out.ink⟩,S3.out.bel⟩
    ·have E:Cq k ⟨4,(en:Int),(an:Int),b1,c1,nm⟩=(k,0,G0 cd):=by
      rw[HP.out,HPp.out];unfold DQ;rw[if_neg h0]
     exact Cd.bad E (NF h0) S3.out.bel
 ·have HP:=AA (show Cq k ⟨5,(en:Int),(an:Int),b1,c1,nm⟩=DQ k (Cw k.mem k.infos an) from P)
  obtain⟨xs,cd,hp⟩:∃xs cd,Cw k.mem k.infos an=(xs,cd):=⟨_,_,rfl⟩
  have HPp:=AA hp;clear P CS6 hp
  by_cases h1:(infoAt k.infos an).k=1
  all_goals
   first
   |have t1:((infoAt k.infos an).k==1)=true:=by simp[h1]
   |have t1:((infoAt k.infos an).k==1)=false:=by simp[h1]
   clear h1;go_in;go_wp2_with fail;generalize w.alloc _=W2 at*;have hge:=HS.out.ge_lt;obtain⟨ua,uc,D0,D1,R⟩:=HS.out.env (j:=en) (by rw[HK.out.envl];exact hen);have CE:=AA (fun W (hW:Below W2.heap.size W2 W)=>HS.out.callEnv (en:=en) rfl hen W hW);simp only[AR.on,AR.onCells] at CE;have CT0:=fun W (hW:Below W2.heap.size W2 W)=>Mf _ _ k.mem k.infos an W (BJ.below HS.out.ink.2.2.rd.1 hW) (AW HK.out).1 (A3.below HS.out.ink.2.2.2.1.rd hW) (AW HK.out).2.1 han
   rw[HPp.out] at CT0;unfold KP at CT0;simp only at CT0;have CT:=AA CT0;clear CT0 R D1;refine AH 16 mixed (by kernel_rfl) 139 rfl (by kernel_rfl) (fun ix vv ww=>match ix with
    |0=>vv= .pointer (some ⟨w.heap.size,0,none⟩)
    |1=>vv= .pointer (some ⟨g,0,none⟩)
    |2=>vv= .pointer (some ⟨g,0,none⟩)
    |3=>vv= .pointer (some ⟨g,0,none⟩)
    |4=>vv= .slice (some ⟨gm,0,none⟩) 12 capm
    |5=>vv= .pointer (some ⟨w.heap.size,0,none⟩)
    |6=>vv= .pointer (some ⟨g,0,none⟩)
    |7=>vv= .pointer (some ⟨g,0,none⟩)
    |8=>vv= .pointer (some ⟨g,1,none⟩)
    |9=>vv= .slice (some ⟨gi,0,none⟩) 12 capi
    |10=>vv= .int .i64 an
    |11=>∃v',vv= .tuple #[v', .int .i64 cd]∧AJ W2.heap.size 135 3 Ag ww v' xs
    |12=>∃v',vv= .tuple #[v', .int .i64 cd]∧AJ W2.heap.size 135 3 Ag ww v' xs
    |13=>AJ W2.heap.size 135 3 Ag ww vv xs
    |14=>vv= .int .i64 cd
    |15=>AJ W2.heap.size 135 3 Ag ww vv xs
    |_=>True) ?_ ?_ ?_
   ·intro i hi vv wz ww' hbz hz
    match i,hi with
    |0,_|1,_|2,_|3,_|4,_|5,_|6,_|7,_|8,_|9,_|10,_=>exact hz
    |11,_=>exact(by obtain⟨v',h0,h1⟩:=hz;exact⟨v',h0,AJ.below h1 hbz⟩)
    |12,_=>exact(by obtain⟨v',h0,h1⟩:=hz;exact⟨v',h0,AJ.below h1 hbz⟩)
    |13,_=>exact(AJ.below hz hbz)
    |14,_=>exact hz
    |15,_=>exact(AJ.below hz hbz)
    |_+16,hq=>exact absurd hq (by omega)
   ·intro i hi o ho a wx Hb Hd hG K HK
    match i,hi with
    |0,_=>exact eF ho HK BP (eb (Aj Hb 1))
    |1,_=>exact eL ho HK (et (AD Hd 0)) (DY (bc hG hl2 y0))
    |2,_=>exact eC ho HK (et (AD Hd 1))
    |3,_=>exact eF ho HK Ci (et (AD Hd 2))
    |4,_=>exact eL ho HK (et (AD Hd 3)) (Fd (bc hG hgl2 x0))
    |5,_=>exact eF ho HK BP (eb (Aj Hb 1))
    |6,_=>exact eL ho HK (et (AD Hd 5)) (DY (bc hG hl2 y0))
    |7,_=>exact eC ho HK (et (AD Hd 6))
    |8,_=>exact eF ho HK CU (et (AD Hd 7))
    |9,_=>exact eL ho HK (et (AD Hd 8)) (FF (bc hG hgl2 x1))
    |10,_=>exact eM ho HK (eb (Aj Hb 3))
    |11,_=>obtain rfl:=So_ ho;have d4:(a.tmps[122]?.getD undef)= .slice (some ⟨gm,0,none⟩) 12 capm:=AD Hd 4;have d9:(a.tmps[127]?.getD undef)= .slice (some ⟨gi,0,none⟩) 12 capi:=AD Hd 9;have d10:(a.tmps[128]?.getD undef)= .int .i64 an:=AD Hd 10;clear Hd Hb;refine AI.of rfl ?_;go_simp;refine(CT.out _ hG).mono ?_;rintro e w_ ⟨v',rfl,hO,hb2⟩;exact HK.out _ _ ⟨_,rfl,hO.lower hG.size⟩ hb2
    |12,_=>
     obtain rfl:=So_ ho;have d11:∃v',(a.tmps[129]?.getD undef)= .tuple #[v', .int .i64 cd]∧AJ W2.heap.size 135 3 Ag wx v' xs:=AD Hd 11
     clear Hd Hb;obtain⟨v',d11,hO⟩:=d11;refine AI.of rfl ?_;go_simp;exact HK.out _ _ ⟨_,rfl,hO⟩ (Below.refl _ _)
    |13,_=>
     obtain rfl:=So_ ho;have d12:∃v',(a.tmps[117]?.getD undef)= .tuple #[v', .int .i64 cd]∧AJ W2.heap.size 135 3 Ag wx v' xs:=AD Hd 12
     clear Hd Hb;obtain⟨v',d12,hO⟩:=d12;refine AI.of rfl ?_;go_simp;exact HK.out _ _ hO (Below.refl _ _)
    |14,_=>
     obtain rfl:=So_ ho;have d12:∃v',(a.tmps[117]?.getD undef)= .tuple #[v', .int .i64 cd]∧AJ W2.heap.size 135 3 Ag wx v' xs:=AD Hd 12
     clear Hd Hb;obtain⟨v',d12,hO⟩:=d12;refine AI.of rfl ?_;go_simp;exact HK.out _ _ rfl (Below.refl _ _)
    |15,_=>obtain rfl:=So_ ho;have d13:AJ W2.heap.size 135 3 Ag wx (a.tmps[130]?.getD undef) xs:=AD Hd 13;clear Hd Hb;refine AI.of rfl ?_;go_simp;exact HK.out _ _ d13 (Below.refl _ _)
    |_+16,hq=>exact absurd hq (by omega)
   ·intro vs wx hR hG
    have q14:(vs 14)= .int .i64 cd:=BI hR 14;have q15:AJ W2.heap.size 135 3 Ag wx (vs 15) xs:=BI hR 15;clear hR;simp only[Ai,AX,List.range,List.range.loop,List.foldl_cons,List.foldl_nil,q14];simp;generalize vs 15=z15 at q15 ⊢;clear q14;have S3:=AA (HS.out.newInfos hG q15);have fzg:=AM (HS.out.below hG).ink.1;have x1w:=(HS.out.below hG).xs.2.1;have y0w:=(HS.out.below hG).ys.1;have CC:=AA (fun W=>Lu cd W);obtain⟨_,_,rfl,_,_⟩:=q15.rd.shape;clear q15 hG y0 y1 y2 y3 y4 y5 y6 x0 x1 x2 x3 d0 d1 d2 D0;go_wp2_with fail;refine(CC.out _).mono ?_;rintro r w9 ⟨rfl,rfl⟩;go_wp2_with fail;go_ret
    by_cases h0:cd=0
    ·subst h0
     have E:Cq k ⟨5,(en:Int),(an:Int),b1,c1,nm⟩=({k with infos:=xs},0,0):=by rw[HP.out,HPp.out];rfl
     exact⟨by rw[E]<;>rfl,fun _=>⟨_,_,_,_,by rw[E];exact S3.out.ink⟩,S3.out.bel⟩
    ·have E:Cq k ⟨5,(en:Int),(an:Int),b1,c1,nm⟩=(k,0,G0 cd):=by
      rw[HP.out,HPp.out];unfold DQ;rw[if_neg h0]
     exact Cd.bad E (NF h0) S3.out.bel
 ·have HP:=AA (show Cq k ⟨6,(en:Int),(an:Int),b1,c1,nm⟩=GC k ⟨6,(en:Int),(an:Int),b1,c1,nm⟩ from P)
  have HC6:=AA CS6;clear P CS6 d1 d2
  by_cases h1:(infoAt k.infos an).k=1
  all_goals
   first
   |have t1:((infoAt k.infos an).k==1)=true:=by simp[h1]
   |have t1:((infoAt k.infos an).k==1)=false:=by simp[h1]
   clear h1;go_in;go_wp2_with fail;generalize w.alloc _=W0 at*;refine(HC6.out W0 (Below.refl _ _)).mono ?_;rintro r w1 ⟨rfl,hK6,hb⟩;go_wp2_with fail;go_ret;exact⟨by rw[HP.out]<;>rfl,fun h=>by rw[HP.out] at h ⊢;exact hK6 h,(HS.out.bel).trans hb⟩
theorem Ts {k:AN} {c:AR}:(GI k c).2.1=0:=by
 unfold GI
 split
 ·rfl
 ·split<;>rfl
theorem Ra {k:AN} {c:AR}:(Ei k c).2.1=0:=by
 unfold Ei
 split
 ·rfl
 ·split
  ·rfl
  ·split<;>rfl
theorem Qp {k:AN} {c:AR}:(Dc k c).2.1=0:=by
 unfold Dc
 split
 ·rfl
 ·split
  ·rfl
  ·split<;>rfl
theorem U5 {k:AN} {c:AR}:(GC k c).2.1=0:=by
 unfold GC
 split
 ·rfl
 ·split
  ·rfl
  ·split<;>rfl
theorem Lv {k:AN} {r:List AQ×Int}:(DQ k r).2.1=0:=by
 unfold DQ
 split<;>rfl
theorem Hh {k:AN} {c:AR}:(Cq k c).2.1=0:=by
 unfold Cq
 split
 ·unfold Kr
  split
  ·rfl
  ·split<;>rfl
 ·split
  ·unfold Kz
   split<;>rfl
  ·split
   ·exact Lv
   ·split
    ·exact Lv
    ·exact U5
theorem Cd.two {lo g:Nat} {w W:World} {res:LB} {r:Ending} {w':World} (h:Cd lo g W res r w') (hv:res.2.1=0) (hb:Below lo w W):∃n,r= .returned (.int .i64 n)∧Cx lo g w res (.returned (.tuple #[.int .i64 0, .int .i64 n])) w':=by obtain⟨h1,h2,h3⟩:=h;exact⟨_,h1,by rw[hv],h2,hb.trans h3⟩
theorem Cx.of {lo g:Nat} {w W:World} {res:LB} {r:Ending} {w':World} (h:Cx lo g W res r w') (hb:Below lo w W):∃v n,r= .returned (.tuple #[.int .i64 v, .int .i64 n])∧Cx lo g w res (.returned (.tuple #[.int .i64 v, .int .i64 n])) w':=by obtain⟨h1,h2,h3⟩:=h;exact⟨_,_,h1,rfl,h2,hb.trans h3⟩
theorem DF {k:AN} {c:AR}:Fs k c=if Bk c.a 0 11=false∨(infoAt k.infos c.a.toNat).k=0∨(c.k=4∧Ba c.b=false) then(k,0,3) else if FJ k c.e (infoAt k.infos c.a.toNat).g=false then(k,0,1) else Cq k c:=rfl
theorem VP {lo g:Nat} {w:World} {m i e c:Value} {k:AN} (h:IH lo w g m i e c k) (hlo:lo≤w.heap.size) (hK:De k) (call:AR) (he:0≤call.e) (hn:call.e<3) (hnm:call.nm.size≤maxLen) (hcc:call.c≤9223372036854775807):
 Calls prog 138 #[call.on g] w (Cx lo g w (AU k call)):=by
 have S0:=Dm.start h hlo call;obtain⟨k1,e1,a1,b1,c1,nm⟩:=call;obtain⟨en,rfl⟩:∃n:Nat,e1=(n:Int):=⟨e1.toNat,by simp only at he;omega⟩
 have hen:en<3:=by simp only at hn;omega
 simp only[AR.on,AR.onCells] at S0 hnm hcc ⊢;obtain⟨ge,cap,e9,_,⟨⟨nge1,nge2⟩,nge3,nge4⟩,_⟩:=S0.envs (by rw[hK.envl];omega);rw[hK.envl] at e9;obtain⟨gi,capi,e8,_,_,⟨⟨ngi1,ngi2⟩,ngi3,ngi4⟩,_⟩:=S0.infos (by rw[hK.len];omega);rw[hK.len] at e8;obtain⟨gm,capm,e7,_,⟨ngm1,ngm2⟩,ngm3,ngm4⟩:=S0.mems (AW hK).1;subst e7 e8 e9;obtain⟨y0,y1,y2,y3,y4,y5,y6⟩:=S0.ys;obtain⟨x0,x1,x2,x3⟩:=S0.xs;have HK:=AA hK;have HS:=AA S0;clear hK h S0 hlo he hn
 by_cases k1e:k1=1
 ·subst k1e
  have HP:=AA (show AU k ⟨1,(en:Int),a1,b1,c1,nm⟩=Io k ⟨1,(en:Int),a1,b1,c1,nm⟩ from rfl);go_in;go_wp2_with fail;generalize w.alloc _=W0 at*;have C:=Tx HS.out.ink HS.out.lo HK.out ⟨1,(en:Int),a1,b1,c1,nm⟩ (by simp) (by simp only;omega) hnm;simp only[AR.on,AR.onCells] at C;refine C.mono ?_;rintro r w1 hr;obtain⟨v,n,rfl,hE⟩:=Cx.of hr HS.out.bel;have HE:=AA hE;clear hr hE C y0 y1 y2 y3 y4 y5 y6 x0 x1 x2 x3;go_wp2_with fail;go_ret2;rw[HP.out];exact HE.out
 by_cases k2e:k1=2
 ·subst k2e
  have HP:=AA (show AU k ⟨2,(en:Int),a1,b1,c1,nm⟩=Fs k ⟨2,(en:Int),a1,b1,c1,nm⟩ from rfl);cases hfr:Bk a1 0 11
  ·have E:=AA (show AU k ⟨2,(en:Int),a1,b1,c1,nm⟩=(k,0,3) by rw[HP.out,DF,if_pos (.inl hfr)])
   go_in;go_wp2_with fail;generalize w.alloc _=W0 at*;have cF:=Gx (w1:=W0) (fun W=>BT a1 W);have cT:=Gx (w1:=W0) (fun W=>By b1 W);rw[hfr] at cF;replace y1:=cell_regrown y1;replace y3:=cell_regrown y3;clear y0 y2 y4 y5 y6 x0 x1 x2 x3 hfr;refine wp_region_quiet_below mixed (by kernel_rfl) ?_
   repeat(go_big_quiet_step (first|exact cF _ _|exact cT _ _))
   refine wpQuiet_nil ?_;intro _ hw';obtain⟨⟨dq,osq⟩,hw''⟩:=hw';subst hw'';have bq:=below_regrown W0 dq osq;generalize Sort.grow (redrawn W0 dq) osq=wq at bq;clear y1 y3;go_wp2_with fail;go_ret2;exact Cx.bad E.out (by decide) (HS.out.below bq).bel
  have T:=AA hfr;obtain⟨an,rfl⟩:∃n:Nat,a1=(n:Int):=⟨a1.toNat,by have:=(AZ.1 hfr).1;omega⟩
  have han:an<12:=by have:=(AZ.1 hfr).2;omega
  have hai:(an:Int)<12:=by omega
  clear hfr;go_in;go_wp2_with fail;generalize w.alloc _=W0 at*;obtain⟨d0,d1,_⟩:=HS.out.infoAt (f:=an) (by rw[HK.out.len];exact han);have cF:=Gx (w1:=W0) (fun W=>BT (an:Int) W);have cT:=Gx (w1:=W0) (fun W=>By b1 W);rw[T.out] at cF;replace y0:=cell_regrown y0;replace y1:=cell_regrown y1;replace y2:=cell_regrown y2;replace y3:=cell_regrown y3;replace y4:=cell_regrown y4;replace y5:=cell_regrown y5;replace y6:=cell_regrown y6;replace x1:=cell_regrown x1;replace d0:=cell_regrown d0;replace d1:=cell_regrown d1;clear x0 x2 x3
  by_cases h0:(infoAt k.infos an).k=0
  ·have E:=AA (show AU k ⟨2,(en:Int),(an:Int),b1,c1,nm⟩=(k,0,3) by rw[HP.out,DF,if_pos (.inr (.inl h0))])
   have t0:((infoAt k.infos an).k==0)=true:=by simp[h0]
   clear h0;refine wp_region_quiet_below mixed (by kernel_rfl) ?_
   repeat(go_big_quiet_step (first|exact cF _ _|exact cT _ _))
   refine wpQuiet_nil ?_;intro _ hw';obtain⟨⟨dq,osq⟩,hw''⟩:=hw';subst hw'';have bq:=below_regrown W0 dq osq;generalize Sort.grow (redrawn W0 dq) osq=wq at bq;clear y0 y1 y2 y3 y4 y5 y6 x1 d0 d1 t0;go_wp2_with fail;go_ret2;exact Cx.bad E.out (by decide) (HS.out.below bq).bel
  have H0:=AA h0;have t0:((infoAt k.infos an).k==0)=false:=by simp[h0]
  clear h0;have HP2:=AA (show AU k ⟨2,(en:Int),(an:Int),b1,c1,nm⟩=if FJ k (en:Int) (infoAt k.infos an).g=false then(k,0,1) else Cq k ⟨2,(en:Int),(an:Int),b1,c1,nm⟩ by rw[HP.out,DF,if_neg (by rintro(x|x|⟨x,_⟩);(· rw[T.out] at x;cases x);(· exact H0.out x);(· simp at x))]<;>rfl);refine wp_region_quiet_below mixed (by kernel_rfl) ?_
  repeat(go_big_quiet_step (first|exact cF _ _|exact cT _ _))
  refine wpQuiet_nil ?_;intro _ hw';obtain⟨⟨dq,osq⟩,hw''⟩:=hw';subst hw'';have bq:=below_regrown W0 dq osq;generalize Sort.grow (redrawn W0 dq) osq=wq at bq;have S1:=AA (HS.out.below bq);obtain⟨W1,rfl⟩:∃W1:World,W1=wq:=⟨_,rfl⟩
  clear y0 y1 y2 y3 y4 y5 y6 x1 d0 d1 t0 cF cT bq;obtain⟨y0,y1,y2,y3,y4,y5,y6⟩:=S1.out.ys;have x1:=S1.out.xs.2.1;obtain⟨_,d1,_⟩:=S1.out.infoAt (f:=an) (by rw[HK.out.len];exact han);have CM:=MB (w1:=W1) (fun W hW=>Ku (S1.out.below hW).ink ⟨2,(en:Int),(an:Int),b1,c1,nm⟩ (infoAt k.infos an).g (by simp) (by rw[HK.out.envl];simp only;omega));simp only[AR.on,AR.onCells] at CM;replace y0:=cell_regrown y0;replace y1:=cell_regrown y1;replace y2:=cell_regrown y2;replace y3:=cell_regrown y3;replace y4:=cell_regrown y4;replace y5:=cell_regrown y5;replace y6:=cell_regrown y6;replace x1:=cell_regrown x1;replace d1:=cell_regrown d1;cases hm:FJ k (en:Int) (infoAt k.infos an).g
  ·have E:=AA (show AU k ⟨2,(en:Int),(an:Int),b1,c1,nm⟩=(k,0,1) by rw[HP2.out,if_pos hm])
   rw[hm] at CM;clear hm;go_wp2_with fail;refine wp_region_quiet_below mixed (by kernel_rfl) ?_
   repeat(go_big_quiet_step (exact CM _ _))
   refine wpQuiet_nil ?_;intro _ hw';obtain⟨⟨dq,osq⟩,hw''⟩:=hw';subst hw'';have bq:=below_regrown W1 dq osq;generalize Sort.grow (redrawn W1 dq) osq=wq at bq;clear y0 y1 y2 y3 y4 y5 y6 x1 d1;go_wp2_with fail;go_ret2;exact Cx.bad E.out (by decide) (S1.out.below bq).bel
  have HP3:=AA (show AU k ⟨2,(en:Int),(an:Int),b1,c1,nm⟩=Cq k ⟨2,(en:Int),(an:Int),b1,c1,nm⟩ by rw[HP2.out,if_neg (by rw[hm];decide)]);rw[hm] at CM;clear hm;go_wp2_with fail;refine wp_region_quiet_below mixed (by kernel_rfl) ?_
  repeat(go_big_quiet_step (exact CM _ _))
  refine wpQuiet_nil ?_;intro _ hw';obtain⟨⟨dq,osq⟩,hw''⟩:=hw';subst hw'';have bq:=below_regrown W1 dq osq;generalize Sort.grow (redrawn W1 dq) osq=wq at bq;have S2:=AA (S1.out.below bq);obtain⟨W2,rfl⟩:∃W2:World,W2=wq:=⟨_,rfl⟩
  clear y0 y1 y2 y3 y4 y5 y6 x1 d1 bq CM;obtain⟨y0,y1,y2,y3,y4,y5,y6⟩:=S2.out.ys;go_wp2_with fail;have C:=HZ S2.out.ink S2.out.lo HK.out ⟨2,(en:Int),(an:Int),b1,c1,nm⟩ (by simp) (by simp only;omega) (by simp) (by simp only;omega) (by intro x;simp at x) hcc;simp only[AR.on,AR.onCells] at C;refine C.mono ?_;rintro r w1 hr;obtain⟨n,rfl,hE⟩:=Cd.two hr Hh S2.out.bel;have HE:=AA hE;clear hr hE C y0 y1 y2 y3 y4 y5 y6;go_wp2_with fail;go_ret2;rw[HP3.out];exact HE.out
 by_cases k3e:k1=3
 ·subst k3e
  have HP:=AA (show AU k ⟨3,(en:Int),a1,b1,c1,nm⟩=Fs k ⟨3,(en:Int),a1,b1,c1,nm⟩ from rfl);cases hfr:Bk a1 0 11
  ·have E:=AA (show AU k ⟨3,(en:Int),a1,b1,c1,nm⟩=(k,0,3) by rw[HP.out,DF,if_pos (.inl hfr)])
   go_in;go_wp2_with fail;generalize w.alloc _=W0 at*;have cF:=Gx (w1:=W0) (fun W=>BT a1 W);have cT:=Gx (w1:=W0) (fun W=>By b1 W);rw[hfr] at cF;replace y1:=cell_regrown y1;replace y3:=cell_regrown y3;clear y0 y2 y4 y5 y6 x0 x1 x2 x3 hfr;refine wp_region_quiet_below mixed (by kernel_rfl) ?_
   repeat(go_big_quiet_step (first|exact cF _ _|exact cT _ _))
   refine wpQuiet_nil ?_;intro _ hw';obtain⟨⟨dq,osq⟩,hw''⟩:=hw';subst hw'';have bq:=below_regrown W0 dq osq;generalize Sort.grow (redrawn W0 dq) osq=wq at bq;clear y1 y3;go_wp2_with fail;go_ret2;exact Cx.bad E.out (by decide) (HS.out.below bq).bel
  have T:=AA hfr;obtain⟨an,rfl⟩:∃n:Nat,a1=(n:Int):=⟨a1.toNat,by have:=(AZ.1 hfr).1;omega⟩
  have han:an<12:=by have:=(AZ.1 hfr).2;omega
  have hai:(an:Int)<12:=by omega
  clear hfr;go_in;go_wp2_with fail;generalize w.alloc _=W0 at*;obtain⟨d0,d1,_⟩:=HS.out.infoAt (f:=an) (by rw[HK.out.len];exact han);have cF:=Gx (w1:=W0) (fun W=>BT (an:Int) W);have cT:=Gx (w1:=W0) (fun W=>By b1 W);rw[T.out] at cF;replace y0:=cell_regrown y0;replace y1:=cell_regrown y1;replace y2:=cell_regrown y2;replace y3:=cell_regrown y3;replace y4:=cell_regrown y4;replace y5:=cell_regrown y5;replace y6:=cell_regrown y6;replace x1:=cell_regrown x1;replace d0:=cell_regrown d0;replace d1:=cell_regrown d1;clear x0 x2 x3
  by_cases h0:(infoAt k.infos an).k=0
  ·have E:=AA (show AU k ⟨3,(en:Int),(an:Int),b1,c1,nm⟩=(k,0,3) by rw[HP.out,DF,if_pos (.inr (.inl h0))])
   have t0:((infoAt k.infos an).k==0)=true:=by simp[h0]
   clear h0;refine wp_region_quiet_below mixed (by kernel_rfl) ?_
   repeat(go_big_quiet_step (first|exact cF _ _|exact cT _ _))
   refine wpQuiet_nil ?_;intro _ hw';obtain⟨⟨dq,osq⟩,hw''⟩:=hw';subst hw'';have bq:=below_regrown W0 dq osq;generalize Sort.grow (redrawn W0 dq) osq=wq at bq;clear y0 y1 y2 y3 y4 y5 y6 x1 d0 d1 t0;go_wp2_with fail;go_ret2;exact Cx.bad E.out (by decide) (HS.out.below bq).bel
  have H0:=AA h0;have t0:((infoAt k.infos an).k==0)=false:=by simp[h0]
  clear h0;have HP2:=AA (show AU k ⟨3,(en:Int),(an:Int),b1,c1,nm⟩=if FJ k (en:Int) (infoAt k.infos an).g=false then(k,0,1) else Cq k ⟨3,(en:Int),(an:Int),b1,c1,nm⟩ by rw[HP.out,DF,if_neg (by rintro(x|x|⟨x,_⟩);(· rw[T.out] at x;cases x);(· exact H0.out x);(· simp at x))]<;>rfl);refine wp_region_quiet_below mixed (by kernel_rfl) ?_
  repeat(go_big_quiet_step (first|exact cF _ _|exact cT _ _))
  refine wpQuiet_nil ?_;intro _ hw';obtain⟨⟨dq,osq⟩,hw''⟩:=hw';subst hw'';have bq:=below_regrown W0 dq osq;generalize Sort.grow (redrawn W0 dq) osq=wq at bq;have S1:=AA (HS.out.below bq);obtain⟨W1,rfl⟩:∃W1:World,W1=wq:=⟨_,rfl⟩
  clear y0 y1 y2 y3 y4 y5 y6 x1 d0 d1 t0 cF cT bq;obtain⟨y0,y1,y2,y3,y4,y5,y6⟩:=S1.out.ys;have x1:=S1.out.xs.2.1;obtain⟨_,d1,_⟩:=S1.out.infoAt (f:=an) (by rw[HK.out.len];exact han);have CM:=MB (w1:=W1) (fun W hW=>Ku (S1.out.below hW).ink ⟨3,(en:Int),(an:Int),b1,c1,nm⟩ (infoAt k.infos an).g (by simp) (by rw[HK.out.envl];simp only;omega));simp only[AR.on,AR.onCells] at CM;replace y0:=cell_regrown y0;replace y1:=cell_regrown y1;replace y2:=cell_regrown y2;replace y3:=cell_regrown y3;replace y4:=cell_regrown y4;replace y5:=cell_regrown y5;replace y6:=cell_regrown y6;replace x1:=cell_regrown x1;replace d1:=cell_regrown d1;cases hm:FJ k (en:Int) (infoAt k.infos an).g
  ·have E:=AA (show AU k ⟨3,(en:Int),(an:Int),b1,c1,nm⟩=(k,0,1) by rw[HP2.out,if_pos hm])
   rw[hm] at CM;clear hm;go_wp2_with fail;refine wp_region_quiet_below mixed (by kernel_rfl) ?_
   repeat(go_big_quiet_step (exact CM _ _))
   refine wpQuiet_nil ?_;intro _ hw';obtain⟨⟨dq,osq⟩,hw''⟩:=hw';subst hw'';have bq:=below_regrown W1 dq osq;generalize Sort.grow (redrawn W1 dq) osq=wq at bq;clear y0 y1 y2 y3 y4 y5 y6 x1 d1;go_wp2_with fail;go_ret2;exact Cx.bad E.out (by decide) (S1.out.below bq).bel
  have HP3:=AA (show AU k ⟨3,(en:Int),(an:Int),b1,c1,nm⟩=Cq k ⟨3,(en:Int),(an:Int),b1,c1,nm⟩ by rw[HP2.out,if_neg (by rw[hm];decide)]);rw[hm] at CM;clear hm;go_wp2_with fail;refine wp_region_quiet_below mixed (by kernel_rfl) ?_
  repeat(go_big_quiet_step (exact CM _ _))
  refine wpQuiet_nil ?_;intro _ hw';obtain⟨⟨dq,osq⟩,hw''⟩:=hw';subst hw'';have bq:=below_regrown W1 dq osq;generalize Sort.grow (redrawn W1 dq) osq=wq at bq;have S2:=AA (S1.out.below bq);obtain⟨W2,rfl⟩:∃W2:World,W2=wq:=⟨_,rfl⟩
  clear y0 y1 y2 y3 y4 y5 y6 x1 d1 bq CM;obtain⟨y0,y1,y2,y3,y4,y5,y6⟩:=S2.out.ys;go_wp2_with fail;have C:=HZ S2.out.ink S2.out.lo HK.out ⟨3,(en:Int),(an:Int),b1,c1,nm⟩ (by simp) (by simp only;omega) (by simp) (by simp only;omega) (by intro x;simp at x) hcc;simp only[AR.on,AR.onCells] at C;refine C.mono ?_;rintro r w1 hr;obtain⟨n,rfl,hE⟩:=Cd.two hr Hh S2.out.bel;have HE:=AA hE;clear hr hE C y0 y1 y2 y3 y4 y5 y6;go_wp2_with fail;go_ret2;rw[HP3.out];exact HE.out
 by_cases k4e:k1=4
 ·subst k4e
  have HP:=AA (show AU k ⟨4,(en:Int),a1,b1,c1,nm⟩=Fs k ⟨4,(en:Int),a1,b1,c1,nm⟩ from rfl);cases hfr:Bk a1 0 11
  ·have E:=AA (show AU k ⟨4,(en:Int),a1,b1,c1,nm⟩=(k,0,3) by rw[HP.out,DF,if_pos (.inl hfr)])
   go_in;go_wp2_with fail;generalize w.alloc _=W0 at*;have cF:=Gx (w1:=W0) (fun W=>BT a1 W);have cT:=Gx (w1:=W0) (fun W=>By b1 W);rw[hfr] at cF;replace y1:=cell_regrown y1;replace y3:=cell_regrown y3;clear y0 y2 y4 y5 y6 x0 x1 x2 x3 hfr;refine wp_region_quiet_below mixed (by kernel_rfl) ?_
   repeat(go_big_quiet_step (first|exact cF _ _|exact cT _ _))
   refine wpQuiet_nil ?_;intro _ hw';obtain⟨⟨dq,osq⟩,hw''⟩:=hw';subst hw'';have bq:=below_regrown W0 dq osq;generalize Sort.grow (redrawn W0 dq) osq=wq at bq;clear y1 y3;go_wp2_with fail;go_ret2;exact Cx.bad E.out (by decide) (HS.out.below bq).bel
  have T:=AA hfr;obtain⟨an,rfl⟩:∃n:Nat,a1=(n:Int):=⟨a1.toNat,by have:=(AZ.1 hfr).1;omega⟩
  have han:an<12:=by have:=(AZ.1 hfr).2;omega
  have hai:(an:Int)<12:=by omega
  clear hfr;go_in;go_wp2_with fail;generalize w.alloc _=W0 at*;obtain⟨d0,d1,_⟩:=HS.out.infoAt (f:=an) (by rw[HK.out.len];exact han);have cF:=Gx (w1:=W0) (fun W=>BT (an:Int) W);have cT:=Gx (w1:=W0) (fun W=>By b1 W);rw[T.out] at cF;replace y0:=cell_regrown y0;replace y1:=cell_regrown y1;replace y2:=cell_regrown y2;replace y3:=cell_regrown y3;replace y4:=cell_regrown y4;replace y5:=cell_regrown y5;replace y6:=cell_regrown y6;replace x1:=cell_regrown x1;replace d0:=cell_regrown d0;replace d1:=cell_regrown d1;clear x0 x2 x3
  by_cases h0:(infoAt k.infos an).k=0
  ·have E:=AA (show AU k ⟨4,(en:Int),(an:Int),b1,c1,nm⟩=(k,0,3) by rw[HP.out,DF,if_pos (.inr (.inl h0))])
   have t0:((infoAt k.infos an).k==0)=true:=by simp[h0]
   clear h0;refine wp_region_quiet_below mixed (by kernel_rfl) ?_
   repeat(go_big_quiet_step (first|exact cF _ _|exact cT _ _))
   refine wpQuiet_nil ?_;intro _ hw';obtain⟨⟨dq,osq⟩,hw''⟩:=hw';subst hw'';have bq:=below_regrown W0 dq osq;generalize Sort.grow (redrawn W0 dq) osq=wq at bq;clear y0 y1 y2 y3 y4 y5 y6 x1 d0 d1 t0;go_wp2_with fail;go_ret2;exact Cx.bad E.out (by decide) (HS.out.below bq).bel
  have H0:=AA h0;have t0:((infoAt k.infos an).k==0)=false:=by simp[h0]
  clear h0;cases ht:Ba b1
  ·have E:=AA (show AU k ⟨4,(en:Int),(an:Int),b1,c1,nm⟩=(k,0,3) by rw[HP.out,DF,if_pos (.inr (.inr ⟨rfl,ht⟩))])
   rw[ht] at cT;refine wp_region_quiet_below mixed (by kernel_rfl) ?_
   repeat(go_big_quiet_step (first|exact cF _ _|exact cT _ _))
   refine wpQuiet_nil ?_;intro _ hw';obtain⟨⟨dq,osq⟩,hw''⟩:=hw';subst hw'';have bq:=below_regrown W0 dq osq;generalize Sort.grow (redrawn W0 dq) osq=wq at bq;clear y0 y1 y2 y3 y4 y5 y6 x1 d0 d1;go_wp2_with fail;go_ret2;exact Cx.bad E.out (by decide) (HS.out.below bq).bel
  rw[ht] at cT;have HP2:=AA (show AU k ⟨4,(en:Int),(an:Int),b1,c1,nm⟩=if FJ k (en:Int) (infoAt k.infos an).g=false then(k,0,1) else Cq k ⟨4,(en:Int),(an:Int),b1,c1,nm⟩ by rw[HP.out,DF,if_neg (by rintro(x|x|⟨_,x⟩);(· rw[T.out] at x;cases x);(· exact H0.out x);(· rw[ht] at x;cases x))]<;>rfl);refine wp_region_quiet_below mixed (by kernel_rfl) ?_
  repeat(go_big_quiet_step (first|exact cF _ _|exact cT _ _))
  refine wpQuiet_nil ?_;intro _ hw';obtain⟨⟨dq,osq⟩,hw''⟩:=hw';subst hw'';have bq:=below_regrown W0 dq osq;generalize Sort.grow (redrawn W0 dq) osq=wq at bq;have S1:=AA (HS.out.below bq);obtain⟨W1,rfl⟩:∃W1:World,W1=wq:=⟨_,rfl⟩
  clear y0 y1 y2 y3 y4 y5 y6 x1 d0 d1 t0 cF cT bq;obtain⟨y0,y1,y2,y3,y4,y5,y6⟩:=S1.out.ys;have x1:=S1.out.xs.2.1;obtain⟨_,d1,_⟩:=S1.out.infoAt (f:=an) (by rw[HK.out.len];exact han);have CM:=MB (w1:=W1) (fun W hW=>Ku (S1.out.below hW).ink ⟨4,(en:Int),(an:Int),b1,c1,nm⟩ (infoAt k.infos an).g (by simp) (by rw[HK.out.envl];simp only;omega));simp only[AR.on,AR.onCells] at CM;replace y0:=cell_regrown y0;replace y1:=cell_regrown y1;replace y2:=cell_regrown y2;replace y3:=cell_regrown y3;replace y4:=cell_regrown y4;replace y5:=cell_regrown y5;replace y6:=cell_regrown y6;replace x1:=cell_regrown x1;replace d1:=cell_regrown d1;cases hm:FJ k (en:Int) (infoAt k.infos an).g
  ·have E:=AA (show AU k ⟨4,(en:Int),(an:Int),b1,c1,nm⟩=(k,0,1) by rw[HP2.out,if_pos hm])
   rw[hm] at CM;clear hm;go_wp2_with fail;refine wp_region_quiet_below mixed (by kernel_rfl) ?_
   repeat(go_big_quiet_step (exact CM _ _))
   refine wpQuiet_nil ?_;intro _ hw';obtain⟨⟨dq,osq⟩,hw''⟩:=hw';subst hw'';have bq:=below_regrown W1 dq osq;generalize Sort.grow (redrawn W1 dq) osq=wq at bq;clear y0 y1 y2 y3 y4 y5 y6 x1 d1;go_wp2_with fail;go_ret2;exact Cx.bad E.out (by decide) (S1.out.below bq).bel
  have HP3:=AA (show AU k ⟨4,(en:Int),(an:Int),b1,c1,nm⟩=Cq k ⟨4,(en:Int),(an:Int),b1,c1,nm⟩ by rw[HP2.out,if_neg (by rw[hm];decide)]);rw[hm] at CM;clear hm;go_wp2_with fail;refine wp_region_quiet_below mixed (by kernel_rfl) ?_
  repeat(go_big_quiet_step (exact CM _ _))
  refine wpQuiet_nil ?_;intro _ hw';obtain⟨⟨dq,osq⟩,hw''⟩:=hw';subst hw'';have bq:=below_regrown W1 dq osq;generalize Sort.grow (redrawn W1 dq) osq=wq at bq;have S2:=AA (S1.out.below bq);obtain⟨W2,rfl⟩:∃W2:World,W2=wq:=⟨_,rfl⟩
  clear y0 y1 y2 y3 y4 y5 y6 x1 d1 bq CM;obtain⟨y0,y1,y2,y3,y4,y5,y6⟩:=S2.out.ys;go_wp2_with fail;have C:=HZ S2.out.ink S2.out.lo HK.out ⟨4,(en:Int),(an:Int),b1,c1,nm⟩ (by simp) (by simp only;omega) (by simp) (by simp only;omega) (by intro _;exact ht) hcc;simp only[AR.on,AR.onCells] at C;refine C.mono ?_;rintro r w1 hr;obtain⟨n,rfl,hE⟩:=Cd.two hr Hh S2.out.bel;have HE:=AA hE;clear hr hE C y0 y1 y2 y3 y4 y5 y6;go_wp2_with fail;go_ret2;rw[HP3.out];exact HE.out
 by_cases k5e:k1=5
 ·subst k5e
  have HP:=AA (show AU k ⟨5,(en:Int),a1,b1,c1,nm⟩=Fs k ⟨5,(en:Int),a1,b1,c1,nm⟩ from rfl);cases hfr:Bk a1 0 11
  ·have E:=AA (show AU k ⟨5,(en:Int),a1,b1,c1,nm⟩=(k,0,3) by rw[HP.out,DF,if_pos (.inl hfr)])
   go_in;go_wp2_with fail;generalize w.alloc _=W0 at*;have cF:=Gx (w1:=W0) (fun W=>BT a1 W);have cT:=Gx (w1:=W0) (fun W=>By b1 W);rw[hfr] at cF;replace y1:=cell_regrown y1;replace y3:=cell_regrown y3;clear y0 y2 y4 y5 y6 x0 x1 x2 x3 hfr;refine wp_region_quiet_below mixed (by kernel_rfl) ?_
   repeat(go_big_quiet_step (first|exact cF _ _|exact cT _ _))
   refine wpQuiet_nil ?_;intro _ hw';obtain⟨⟨dq,osq⟩,hw''⟩:=hw';subst hw'';have bq:=below_regrown W0 dq osq;generalize Sort.grow (redrawn W0 dq) osq=wq at bq;clear y1 y3;go_wp2_with fail;go_ret2;exact Cx.bad E.out (by decide) (HS.out.below bq).bel
  have T:=AA hfr;obtain⟨an,rfl⟩:∃n:Nat,a1=(n:Int):=⟨a1.toNat,by have:=(AZ.1 hfr).1;omega⟩
  have han:an<12:=by have:=(AZ.1 hfr).2;omega
  have hai:(an:Int)<12:=by omega
  clear hfr;go_in;go_wp2_with fail;generalize w.alloc _=W0 at*;obtain⟨d0,d1,_⟩:=HS.out.infoAt (f:=an) (by rw[HK.out.len];exact han);have cF:=Gx (w1:=W0) (fun W=>BT (an:Int) W);have cT:=Gx (w1:=W0) (fun W=>By b1 W);rw[T.out] at cF;replace y0:=cell_regrown y0;replace y1:=cell_regrown y1;replace y2:=cell_regrown y2;replace y3:=cell_regrown y3;replace y4:=cell_regrown y4;replace y5:=cell_regrown y5;replace y6:=cell_regrown y6;replace x1:=cell_regrown x1;replace d0:=cell_regrown d0;replace d1:=cell_regrown d1;clear x0 x2 x3
  by_cases h0:(infoAt k.infos an).k=0
  ·have E:=AA (show AU k ⟨5,(en:Int),(an:Int),b1,c1,nm⟩=(k,0,3) by rw[HP.out,DF,if_pos (.inr (.inl h0))])
   have t0:((infoAt k.infos an).k==0)=true:=by simp[h0]
   clear h0;refine wp_region_quiet_below mixed (by kernel_rfl) ?_
   repeat(go_big_quiet_step (first|exact cF _ _|exact cT _ _))
   refine wpQuiet_nil ?_;intro _ hw';obtain⟨⟨dq,osq⟩,hw''⟩:=hw';subst hw'';have bq:=below_regrown W0 dq osq;generalize Sort.grow (redrawn W0 dq) osq=wq at bq;clear y0 y1 y2 y3 y4 y5 y6 x1 d0 d1 t0;go_wp2_with fail;go_ret2;exact Cx.bad E.out (by decide) (HS.out.below bq).bel
  have H0:=AA h0;have t0:((infoAt k.infos an).k==0)=false:=by simp[h0]
  clear h0;have HP2:=AA (show AU k ⟨5,(en:Int),(an:Int),b1,c1,nm⟩=if FJ k (en:Int) (infoAt k.infos an).g=false then(k,0,1) else Cq k ⟨5,(en:Int),(an:Int),b1,c1,nm⟩ by rw[HP.out,DF,if_neg (by rintro(x|x|⟨x,_⟩);(· rw[T.out] at x;cases x);(· exact H0.out x);(· simp at x))]<;>rfl);refine wp_region_quiet_below mixed (by kernel_rfl) ?_
  repeat(go_big_quiet_step (first|exact cF _ _|exact cT _ _))
  refine wpQuiet_nil ?_;intro _ hw';obtain⟨⟨dq,osq⟩,hw''⟩:=hw';subst hw'';have bq:=below_regrown W0 dq osq;generalize Sort.grow (redrawn W0 dq) osq=wq at bq;have S1:=AA (HS.out.below bq);obtain⟨W1,rfl⟩:∃W1:World,W1=wq:=⟨_,rfl⟩
  clear y0 y1 y2 y3 y4 y5 y6 x1 d0 d1 t0 cF cT bq;obtain⟨y0,y1,y2,y3,y4,y5,y6⟩:=S1.out.ys;have x1:=S1.out.xs.2.1;obtain⟨_,d1,_⟩:=S1.out.infoAt (f:=an) (by rw[HK.out.len];exact han);have CM:=MB (w1:=W1) (fun W hW=>Ku (S1.out.below hW).ink ⟨5,(en:Int),(an:Int),b1,c1,nm⟩ (infoAt k.infos an).g (by simp) (by rw[HK.out.envl];simp only;omega));simp only[AR.on,AR.onCells] at CM;replace y0:=cell_regrown y0;replace y1:=cell_regrown y1;replace y2:=cell_regrown y2;replace y3:=cell_regrown y3;replace y4:=cell_regrown y4;replace y5:=cell_regrown y5;replace y6:=cell_regrown y6;replace x1:=cell_regrown x1;replace d1:=cell_regrown d1;cases hm:FJ k (en:Int) (infoAt k.infos an).g
  ·have E:=AA (show AU k ⟨5,(en:Int),(an:Int),b1,c1,nm⟩=(k,0,1) by rw[HP2.out,if_pos hm])
   rw[hm] at CM;clear hm;go_wp2_with fail;refine wp_region_quiet_below mixed (by kernel_rfl) ?_
   repeat(go_big_quiet_step (exact CM _ _))
   refine wpQuiet_nil ?_;intro _ hw';obtain⟨⟨dq,osq⟩,hw''⟩:=hw';subst hw'';have bq:=below_regrown W1 dq osq;generalize Sort.grow (redrawn W1 dq) osq=wq at bq;clear y0 y1 y2 y3 y4 y5 y6 x1 d1;go_wp2_with fail;go_ret2;exact Cx.bad E.out (by decide) (S1.out.below bq).bel
  have HP3:=AA (show AU k ⟨5,(en:Int),(an:Int),b1,c1,nm⟩=Cq k ⟨5,(en:Int),(an:Int),b1,c1,nm⟩ by rw[HP2.out,if_neg (by rw[hm];decide)]);rw[hm] at CM;clear hm;go_wp2_with fail;refine wp_region_quiet_below mixed (by kernel_rfl) ?_
  repeat(go_big_quiet_step (exact CM _ _))
  refine wpQuiet_nil ?_;intro _ hw';obtain⟨⟨dq,osq⟩,hw''⟩:=hw';subst hw'';have bq:=below_regrown W1 dq osq;generalize Sort.grow (redrawn W1 dq) osq=wq at bq;have S2:=AA (S1.out.below bq);obtain⟨W2,rfl⟩:∃W2:World,W2=wq:=⟨_,rfl⟩
  clear y0 y1 y2 y3 y4 y5 y6 x1 d1 bq CM;obtain⟨y0,y1,y2,y3,y4,y5,y6⟩:=S2.out.ys;go_wp2_with fail;have C:=HZ S2.out.ink S2.out.lo HK.out ⟨5,(en:Int),(an:Int),b1,c1,nm⟩ (by simp) (by simp only;omega) (by simp) (by simp only;omega) (by intro x;simp at x) hcc;simp only[AR.on,AR.onCells] at C;refine C.mono ?_;rintro r w1 hr;obtain⟨n,rfl,hE⟩:=Cd.two hr Hh S2.out.bel;have HE:=AA hE;clear hr hE C y0 y1 y2 y3 y4 y5 y6;go_wp2_with fail;go_ret2;rw[HP3.out];exact HE.out
 by_cases k6e:k1=6
 ·subst k6e
  have HP:=AA (show AU k ⟨6,(en:Int),a1,b1,c1,nm⟩=Fs k ⟨6,(en:Int),a1,b1,c1,nm⟩ from rfl);cases hfr:Bk a1 0 11
  ·have E:=AA (show AU k ⟨6,(en:Int),a1,b1,c1,nm⟩=(k,0,3) by rw[HP.out,DF,if_pos (.inl hfr)])
   go_in;go_wp2_with fail;generalize w.alloc _=W0 at*;have cF:=Gx (w1:=W0) (fun W=>BT a1 W);have cT:=Gx (w1:=W0) (fun W=>By b1 W);rw[hfr] at cF;replace y1:=cell_regrown y1;replace y3:=cell_regrown y3;clear y0 y2 y4 y5 y6 x0 x1 x2 x3 hfr;refine wp_region_quiet_below mixed (by kernel_rfl) ?_
   repeat(go_big_quiet_step (first|exact cF _ _|exact cT _ _))
   refine wpQuiet_nil ?_;intro _ hw';obtain⟨⟨dq,osq⟩,hw''⟩:=hw';subst hw'';have bq:=below_regrown W0 dq osq;generalize Sort.grow (redrawn W0 dq) osq=wq at bq;clear y1 y3;go_wp2_with fail;go_ret2;exact Cx.bad E.out (by decide) (HS.out.below bq).bel
  have T:=AA hfr;obtain⟨an,rfl⟩:∃n:Nat,a1=(n:Int):=⟨a1.toNat,by have:=(AZ.1 hfr).1;omega⟩
  have han:an<12:=by have:=(AZ.1 hfr).2;omega
  have hai:(an:Int)<12:=by omega
  clear hfr;go_in;go_wp2_with fail;generalize w.alloc _=W0 at*;obtain⟨d0,d1,_⟩:=HS.out.infoAt (f:=an) (by rw[HK.out.len];exact han);have cF:=Gx (w1:=W0) (fun W=>BT (an:Int) W);have cT:=Gx (w1:=W0) (fun W=>By b1 W);rw[T.out] at cF;replace y0:=cell_regrown y0;replace y1:=cell_regrown y1;replace y2:=cell_regrown y2;replace y3:=cell_regrown y3;replace y4:=cell_regrown y4;replace y5:=cell_regrown y5;replace y6:=cell_regrown y6;replace x1:=cell_regrown x1;replace d0:=cell_regrown d0;replace d1:=cell_regrown d1;clear x0 x2 x3
  by_cases h0:(infoAt k.infos an).k=0
  ·have E:=AA (show AU k ⟨6,(en:Int),(an:Int),b1,c1,nm⟩=(k,0,3) by rw[HP.out,DF,if_pos (.inr (.inl h0))])
   have t0:((infoAt k.infos an).k==0)=true:=by simp[h0]
   clear h0;refine wp_region_quiet_below mixed (by kernel_rfl) ?_
   repeat(go_big_quiet_step (first|exact cF _ _|exact cT _ _))
   refine wpQuiet_nil ?_;intro _ hw';obtain⟨⟨dq,osq⟩,hw''⟩:=hw';subst hw'';have bq:=below_regrown W0 dq osq;generalize Sort.grow (redrawn W0 dq) osq=wq at bq;clear y0 y1 y2 y3 y4 y5 y6 x1 d0 d1 t0;go_wp2_with fail;go_ret2;exact Cx.bad E.out (by decide) (HS.out.below bq).bel
  have H0:=AA h0;have t0:((infoAt k.infos an).k==0)=false:=by simp[h0]
  clear h0;have HP2:=AA (show AU k ⟨6,(en:Int),(an:Int),b1,c1,nm⟩=if FJ k (en:Int) (infoAt k.infos an).g=false then(k,0,1) else Cq k ⟨6,(en:Int),(an:Int),b1,c1,nm⟩ by rw[HP.out,DF,if_neg (by rintro(x|x|⟨x,_⟩);(· rw[T.out] at x;cases x);(· exact H0.out x);(· simp at x))]<;>rfl);refine wp_region_quiet_below mixed (by kernel_rfl) ?_
  repeat(go_big_quiet_step (first|exact cF _ _|exact cT _ _))
  refine wpQuiet_nil ?_;intro _ hw';obtain⟨⟨dq,osq⟩,hw''⟩:=hw';subst hw'';have bq:=below_regrown W0 dq osq;generalize Sort.grow (redrawn W0 dq) osq=wq at bq;have S1:=AA (HS.out.below bq);obtain⟨W1,rfl⟩:∃W1:World,W1=wq:=⟨_,rfl⟩
  clear y0 y1 y2 y3 y4 y5 y6 x1 d0 d1 t0 cF cT bq;obtain⟨y0,y1,y2,y3,y4,y5,y6⟩:=S1.out.ys;have x1:=S1.out.xs.2.1;obtain⟨_,d1,_⟩:=S1.out.infoAt (f:=an) (by rw[HK.out.len];exact han);have CM:=MB (w1:=W1) (fun W hW=>Ku (S1.out.below hW).ink ⟨6,(en:Int),(an:Int),b1,c1,nm⟩ (infoAt k.infos an).g (by simp) (by rw[HK.out.envl];simp only;omega));simp only[AR.on,AR.onCells] at CM;replace y0:=cell_regrown y0;replace y1:=cell_regrown y1;replace y2:=cell_regrown y2;replace y3:=cell_regrown y3;replace y4:=cell_regrown y4;replace y5:=cell_regrown y5;replace y6:=cell_regrown y6;replace x1:=cell_regrown x1;replace d1:=cell_regrown d1;cases hm:FJ k (en:Int) (infoAt k.infos an).g
  ·have E:=AA (show AU k ⟨6,(en:Int),(an:Int),b1,c1,nm⟩=(k,0,1) by rw[HP2.out,if_pos hm])
   rw[hm] at CM;clear hm;go_wp2_with fail;refine wp_region_quiet_below mixed (by kernel_rfl) ?_
   repeat(go_big_quiet_step (exact CM _ _))
   refine wpQuiet_nil ?_;intro _ hw';obtain⟨⟨dq,osq⟩,hw''⟩:=hw';subst hw'';have bq:=below_regrown W1 dq osq;generalize Sort.grow (redrawn W1 dq) osq=wq at bq;clear y0 y1 y2 y3 y4 y5 y6 x1 d1;go_wp2_with fail;go_ret2;exact Cx.bad E.out (by decide) (S1.out.below bq).bel
  have HP3:=AA (show AU k ⟨6,(en:Int),(an:Int),b1,c1,nm⟩=Cq k ⟨6,(en:Int),(an:Int),b1,c1,nm⟩ by rw[HP2.out,if_neg (by rw[hm];decide)]);rw[hm] at CM;clear hm;go_wp2_with fail;refine wp_region_quiet_below mixed (by kernel_rfl) ?_
  repeat(go_big_quiet_step (exact CM _ _))
  refine wpQuiet_nil ?_;intro _ hw';obtain⟨⟨dq,osq⟩,hw''⟩:=hw';subst hw'';have bq:=below_regrown W1 dq osq;generalize Sort.grow (redrawn W1 dq) osq=wq at bq;have S2:=AA (S1.out.below bq);obtain⟨W2,rfl⟩:∃W2:World,W2=wq:=⟨_,rfl⟩
  clear y0 y1 y2 y3 y4 y5 y6 x1 d1 bq CM;obtain⟨y0,y1,y2,y3,y4,y5,y6⟩:=S2.out.ys;go_wp2_with fail;have C:=HZ S2.out.ink S2.out.lo HK.out ⟨6,(en:Int),(an:Int),b1,c1,nm⟩ (by simp) (by simp only;omega) (by simp) (by simp only;omega) (by intro x;simp at x) hcc;simp only[AR.on,AR.onCells] at C;refine C.mono ?_;rintro r w1 hr;obtain⟨n,rfl,hE⟩:=Cd.two hr Hh S2.out.bel;have HE:=AA hE;clear hr hE C y0 y1 y2 y3 y4 y5 y6;go_wp2_with fail;go_ret2;rw[HP3.out];exact HE.out
 by_cases k7e:k1=7
 ·subst k7e
  have HP:=AA (show AU k ⟨7,(en:Int),a1,b1,c1,nm⟩=GI k ⟨7,(en:Int),a1,b1,c1,nm⟩ from rfl);go_in;go_wp2_with fail;generalize w.alloc _=W0 at*;have C:=Tr HS.out.ink HS.out.lo HK.out ⟨7,(en:Int),a1,b1,c1,nm⟩ (by simp) (by simp only;omega);simp only[AR.on,AR.onCells] at C;refine C.mono ?_;rintro r w1 hr;obtain⟨n,rfl,hE⟩:=Cd.two hr Ts HS.out.bel;have HE:=AA hE;clear hr hE C y0 y1 y2 y3 y4 y5 y6 x0 x1 x2 x3;go_wp2_with fail;go_ret2;rw[HP.out];exact HE.out
 by_cases k8e:k1=8
 ·subst k8e
  have HP:=AA (show AU k ⟨8,(en:Int),a1,b1,c1,nm⟩=Ei k ⟨8,(en:Int),a1,b1,c1,nm⟩ from rfl);go_in;go_wp2_with fail;generalize w.alloc _=W0 at*;have C:=RZ HS.out.ink HS.out.lo HK.out ⟨8,(en:Int),a1,b1,c1,nm⟩ (by simp) (by simp only;omega) hnm;simp only[AR.on,AR.onCells] at C;refine C.mono ?_;rintro r w1 hr;obtain⟨n,rfl,hE⟩:=Cd.two hr Ra HS.out.bel;have HE:=AA hE;clear hr hE C y0 y1 y2 y3 y4 y5 y6 x0 x1 x2 x3;go_wp2_with fail;go_ret2;rw[HP.out];exact HE.out
 by_cases k9e:k1=9
 ·subst k9e
  have HP:=AA (show AU k ⟨9,(en:Int),a1,b1,c1,nm⟩=Dc k ⟨9,(en:Int),a1,b1,c1,nm⟩ from rfl);go_in;go_wp2_with fail;generalize w.alloc _=W0 at*;have C:=Qo HS.out.ink HS.out.lo HK.out ⟨9,(en:Int),a1,b1,c1,nm⟩ (by simp) (by simp only;omega) hnm;simp only[AR.on,AR.onCells] at C;refine C.mono ?_;rintro r w1 hr;obtain⟨n,rfl,hE⟩:=Cd.two hr Qp HS.out.bel;have HE:=AA hE;clear hr hE C y0 y1 y2 y3 y4 y5 y6 x0 x1 x2 x3;go_wp2_with fail;go_ret2;rw[HP.out];exact HE.out
 by_cases kae:k1=10
 ·subst kae
  have HP:=AA (show AU k ⟨10,(en:Int),a1,b1,c1,nm⟩=IF k ⟨10,(en:Int),a1,b1,c1,nm⟩ from rfl);go_in;go_wp2_with fail;generalize w.alloc _=W0 at*;have C:=Qv HS.out.ink HS.out.lo HK.out ⟨10,(en:Int),a1,b1,c1,nm⟩ (by simp) (by simp only;omega) (.inl rfl);simp only[AR.on,AR.onCells] at C;refine C.mono ?_;rintro r w1 hr;obtain⟨v,n,rfl,hE⟩:=Cx.of hr HS.out.bel;have HE:=AA hE;clear hr hE C y0 y1 y2 y3 y4 y5 y6 x0 x1 x2 x3;go_wp2_with fail;go_ret2;rw[HP.out];exact HE.out
 by_cases kbe:k1=11
 ·subst kbe
  have HP:=AA (show AU k ⟨11,(en:Int),a1,b1,c1,nm⟩=IF k ⟨11,(en:Int),a1,b1,c1,nm⟩ from rfl);go_in;go_wp2_with fail;generalize w.alloc _=W0 at*;have C:=Qv HS.out.ink HS.out.lo HK.out ⟨11,(en:Int),a1,b1,c1,nm⟩ (by simp) (by simp only;omega) (.inr rfl);simp only[AR.on,AR.onCells] at C;refine C.mono ?_;rintro r w1 hr;obtain⟨v,n,rfl,hE⟩:=Cx.of hr HS.out.bel;have HE:=AA hE;clear hr hE C y0 y1 y2 y3 y4 y5 y6 x0 x1 x2 x3;go_wp2_with fail;go_ret2;rw[HP.out];exact HE.out
 have E:=AA (show AU k ⟨k1,(en:Int),a1,b1,c1,nm⟩=(k,0,3) by unfold AU;rw[if_neg k1e,if_neg (by rw[Bool.not_eq_true,Rc];show k1<2∨6<k1;omega),if_neg k7e,if_neg k8e,if_neg k9e,if_neg (by rintro(x|x);(· exact kae x);(· exact kbe x))])
 have t1:(k1==1)=false:=by simp[k1e]
 have t2:(k1==2)=false:=by simp[k2e]
 have t3:(k1==3)=false:=by simp[k3e]
 have t4:(k1==4)=false:=by simp[k4e]
 have t5:(k1==5)=false:=by simp[k5e]
 have t6:(k1==6)=false:=by simp[k6e]
 have t7:(k1==7)=false:=by simp[k7e]
 have t8:(k1==8)=false:=by simp[k8e]
 have t9:(k1==9)=false:=by simp[k9e]
 have ta:(k1==10)=false:=by simp[kae]
 have tb:(k1==11)=false:=by simp[kbe]
 clear k1e k2e k3e k4e k5e k6e k7e k8e k9e kae kbe y0 y2 y3 y4 y5 y6 x0 x1 x2 x3;go_in;go_wp2_with fail;go_ret2;exact Cx.bad E.out (by decide) HS.out.bel
end Go.Proofs.YtnieoiclifjoaaaGreatDoor
set_option linter.unusedVariables false
set_option linter.unusedSimpArgs false
namespace Go.Proofs.YtnieoiclifjoaaaGreatDoor
open Go.Proofs.Tryz
def Vt (k:AN) (f:Nat):Prop:=(infoAt k.infos f).r=1∧((∃t i,t<12∧Ba (A7 k t)=true∧i<4∧FB f (Am k.mem t i)=true∧(infoAt k.infos t).g=gA)∨AY k 0=(f:Int))
def Vf (k k':AN):Prop:=(∀e,e<3→Ca (CQ k' e) gA=Ca (CQ k e) gA)∧AY k' 0=AY k 0∧
 ∀f,f<12→(infoAt k.infos f).g=gA→A7 k f≠0→AL k'.mem f=AL k.mem f∧(infoAt k'.infos f).g=gA∧(Vt k f→(infoAt k'.infos f).r=(infoAt k.infos f).r)
theorem Vf.refl (k:AN):Vf k k:=⟨fun _ _=>rfl,rfl,fun _ _ h _=>⟨rfl,h,fun _=>rfl⟩⟩
section
variable {k:AN} (h:De k)
include h
end
section
variable {k:AN} (h:De k) {c:AR} (he:c.e=1∨c.e=2) (hal:∀e,1≤e→e<3→Ca (CQ k e) gA=false)
include h he hal
end
def gB:ByteArray:=⟨#[98]⟩
def gC:ByteArray:=⟨#[99]⟩
def Vy:AN:=⟨List.replicate 12 [0,0,0,0],List.replicate 12 ⟨0,⟨#[]⟩,0⟩,[⟨[gA],-1⟩,⟨[gB],-1⟩,⟨[gC],-1⟩],[]⟩
def Ih:List AR:=[Dh 1 0 0 0,Dh 4 0 3 0,Dh 7 0 0 0,
 Dh 1 0 0 0,Dh 4 1 2 0,Dh 6 0 0 7,Dh 1 0 0 0,Dh 4 2 2 0,Dh 6 0 1 11,Dh 1 0 0 0,Dh 4 3 2 0,Dh 6 0 2 15,Dh 1 0 0 0,Dh 4 4 2 0,Dh 6 0 3 19]
def Cp (n:Nat):AN:=(Ih.take n).foldl (fun k c=>(AU k c).1) Vy
def Vh:AN:=⟨[7,11,15,19]::List.replicate 11 [0,0,0,0],⟨3,gA,1⟩::(List.replicate 4 ⟨2,gA,1⟩++List.replicate 7 ⟨0,⟨#[]⟩,0⟩),[⟨[gA],0⟩,⟨[gB],-1⟩,⟨[gC],-1⟩],[]⟩
theorem NA:Cp 15=Vh:=by kernel_rfl
theorem Sj:AU (Cp 0) (Dh 1 0 0 0)=(Cp 1,0,0):=by kernel_rfl
theorem Sg:AU (Cp 1) (Dh 4 0 3 0)=(Cp 2,0,0):=by kernel_rfl
theorem Qk:AU (Cp 2) (Dh 7 0 0 0)=(Cp 3,0,0):=by kernel_rfl
theorem Ql:∀i,i<4→AU (Cp (3*i+3)) (Dh 1 0 0 0)=(Cp (3*i+4),((i+1:Nat):Int),0)
 |0,_=>by kernel_rfl
 |1,_=>by kernel_rfl
 |2,_=>by kernel_rfl
 |3,_=>by kernel_rfl
 |_+4,h=>by omega
theorem Sf:∀i,i<4→AU (Cp (3*i+4)) (Dh 4 ((i+1:Nat):Int) 2 0)=(Cp (3*i+5),0,0)
 |0,_=>by kernel_rfl
 |1,_=>by kernel_rfl
 |2,_=>by kernel_rfl
 |3,_=>by kernel_rfl
 |_+4,h=>by omega
theorem Si:∀i,i<4→AU (Cp (3*i+5)) (Dh 6 0 (i:Int) (J5 ((i+1:Nat):Int)))=(Cp (3*i+6),0,0)
 |0,_=>by kernel_rfl
 |1,_=>by kernel_rfl
 |2,_=>by kernel_rfl
 |3,_=>by kernel_rfl
 |_+4,h=>by omega
theorem Qj:∀n,n≤15→De (Cp n):=by
 have h0:De (Cp 0):=GP.1 (by kernel_rfl);intro n
 induction n with
 |zero=>exact fun _=>h0
 |succ n ih=>
  intro hn;have hlt:n<Ih.length:=by show n<15;omega
  have e:Cp (n+1)=(AU (Cp n) Ih[n]).1:=by unfold Cp;rw[List.take_succ_eq_append_getElem hlt,List.foldl_append];rfl
  rw[e];have he:(Ih[n]).e=0:=by
   have:∀c∈Ih,c.e=0:=by
    intro c hc;simp only[Ih,List.mem_cons,List.not_mem_nil,or_false] at hc
    rcases hc with h|h|h|h|h|h|h|h|h|h|h|h|h|h|h<;>(subst h;rfl)
   exact this _ (List.getElem_mem hlt)
  exact UP (ih (by omega)) (by rw[he];omega)
def Hz (limit:Int):BO:=⟨Vh,List.replicate 16 [],[1,2,3,4],List.replicate 16 ⟨0,0,false⟩,0,limit⟩
theorem MO {l:Int} (h1:1≤l) (h6:l≤6):KO (Hz l):=by
 have h:KO (Hz 1):=Je.1 (by kernel_rfl);exact⟨h.k,h.swapl,h.swapr,h.may,h.alone,h.root,h.lowl,h.mroot,h.lows,h.pagel,h.slots,fun n hn=>h.pages n hn,h.hand,⟨h1,h6⟩,by
  show((DT (List.replicate 16 ⟨0,0,false⟩) 1:Nat):Int)≤l
  have:DT (List.replicate 16 ⟨0,0,false⟩) 1=0:=by kernel_rfl
  omega⟩
theorem Ti (l:Int) {a:Nat} (ha:a<64):F1 (Hz l) a=0:=by
 have e:AO (Hz l).pages (a/4)=⟨0,0,false⟩:=by
  show(List.replicate 16 (⟨0,0,false⟩:DI)).getD (a/4) ⟨0,0,false⟩=_
  rw[List.getD_eq_getElem?_getD,List.getElem?_replicate]
  split<;>rfl
 unfold F1;rw[e];rfl
def EN (k:AN) (r:LB):Prop:=(r.2.2≠0→r=(k,0,r.2.2))∧0≤r.2.2∧r.2.2≤4
theorem EN.code {k:AN} {n:Int} (h0:0≤n) (h4:n≤4):EN k (k,0,n):=⟨fun _=>rfl,h0,h4⟩
theorem EN.done {k k':AN} {v:Int}:EN k (k',v,0):=⟨fun h=>absurd rfl h,by show(0:Int)≤0;omega,by show(0:Int)≤4;omega⟩
theorem EN.iteP {k:AN} {p:Prop} [Decidable p] {a b:LB} (ha:EN k a) (hb:EN k b):EN k (if p then a else b):=by split<;>assumption
theorem NG {k:AN} {r:List AQ×Int}:EN k (DQ k r):=by
 unfold DQ G0
 split
 ·exact .done
 ·split
  ·exact .code (by omega) (by omega)
  ·exact .code (by omega) (by omega)
theorem UO {k:AN} {c:AR}:EN k (AU k c):=by
 have c1:EN k (k,0,1):= .code (by omega) (by omega);have c2:EN k (k,0,2):= .code (by omega) (by omega);have c3:EN k (k,0,3):= .code (by omega) (by omega);have c4:EN k (k,0,4):= .code (by omega) (by omega);unfold AU;refine .iteP (.iteP c3 (.iteP c1 (.iteP c4 .done))) (.iteP ?_ (.iteP ?_ (.iteP ?_ (.iteP ?_ (.iteP ?_ c3)))))
 ·unfold Fs
  refine .iteP c3 (.iteP c1 (.iteP (.iteP c3 (.iteP c2 .done)) (.iteP (.iteP c3 .done) (.iteP NG (.iteP NG ?_)))));unfold GC;exact .iteP c3 (.iteP c1 (.iteP c1 .done))
 ·unfold GI
  exact .iteP c3 (.iteP c1 .done)
 ·unfold Ei
  exact .iteP c3 (.iteP c1 (.iteP c4 .done))
 ·unfold Dc
  exact .iteP c3 (.iteP c1 (.iteP c2 .done))
 ·unfold IF
  exact .iteP c3 (.iteP c3 (.iteP c1 (.iteP .done .done)))
theorem Mm {k:AN} {c:AR} (h:(AU k c).2.2≠0):AU k c=(k,0,(AU k c).2.2):=UO.1 h
theorem Kn {k:AN} {kind e a b c:Int} {s t:ByteArray} (h:kind≠1∧kind≠8∧kind≠9):AU k ⟨kind,e,a,b,c,s⟩=AU k ⟨kind,e,a,b,c,t⟩:=by unfold AU;simp only[h.1,h.2.1,h.2.2,if_false];rfl
end Go.Proofs.YtnieoiclifjoaaaGreatDoor
