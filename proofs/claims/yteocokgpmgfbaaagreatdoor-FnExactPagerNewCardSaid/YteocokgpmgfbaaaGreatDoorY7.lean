/-
  Packed:7 texts.
-/
import Derived.Test.YteocokgpmgfbaaaGreatDoorY1
import Derived.Deep.DeepCutAuto
import Derived.Test.YteocokgpmgfbaaaGreatDoorY5
import Derived.Test.YteocokgpmgfbaaaGreatDoorY6
import Derived.Lib.Strings
import Derived.WalkKit
import Derived.Test.YteocokgpmgfbaaaGreatDoorY4
set_option linter.unusedVariables false
set_option maxHeartbeats 16000000
set_option maxRecDepth 100000
namespace Go.Proofs.YteocokgpmgfbaaaGreatDoor
open Go.Proofs.Tryz
open Go.RowKit
def Bm (k:AH) (a j:Nat):List Nat:=(List.range j).filter fun e=>(A5 k.mem (AD k.envs e).root).contains a
theorem Mw {k:AH} {a j:Nat} (h:(A5 k.mem (AD k.envs j).root).contains a=false):Bm k a (j+1)=Bm k a j:=by unfold Bm;rw[List.range_succ,List.filter_append];simp only[List.filter_cons,h,List.filter_nil];simp
theorem LU {k:AH} {a j:Nat} (h:(A5 k.mem (AD k.envs j).root).contains a=true):Bm k a (j+1)=Bm k a j++[j]:=by unfold Bm;rw[List.range_succ,List.filter_append];simp only[List.filter_cons,h,List.filter_nil];simp
theorem GK {k:AH} {a j:Nat}:(Bm k a j).length≤j:=by unfold Bm;exact Nat.le_trans (List.length_filter_le _ _) (by simp)
theorem R8 {k:AH} {a j e:Nat} (h:e∈Bm k a j):e<j:=List.mem_range.1 (List.mem_filter.1 h).1
theorem EG {k:AH} {a:Nat}:Bm k a 3=ET k a:=rfl
theorem Fx {ts l:List Nat} {a:Nat} (h:∀g,g∈ts↔g∈l):(Ah ts).contains (a:Int)=l.contains a:=by rw[Bool.eq_iff_iff,List.contains_iff_mem,List.contains_iff_mem,Ib,h]
def Ed (es:List Nat) (c:List AU):List AU:=es.foldl (fun c e=>Cg c (e:Nat)) c
theorem Kz {c:List AU} (es:List Nat) (h:Bu c=true):Bu (Ed es c)=true:=Pr h
theorem Iy {es:List Nat} {c:List AU} {j:Nat} (h:j<es.length):Ed (es.take (j+1)) c=Cg (Ed (es.take j) c) ((es.getD j 0:Nat):Int):=by unfold Ed;rw[DI (Ba (d:=0) h),List.foldl_append];rfl
theorem VG {k:AH} {c:AM}:FY k c=
 if Bg (infoAt k.infos c.a.toNat).k=false∨Bv c.b 0 3=false∨DU k c=false then(k,0,3)
 else if(ET k c.a.toNat).all (fun e=>At k.infos (DA k c.c) (AD k.envs e).rights)=false then(k,0,1)
 else if BV c.c=true∧Ej k c.e (infoAt k.infos (A1 c.c)).g=false then(k,0,1)
 else({k with mem:=CZ k.mem c.a.toNat c.b.toNat c.c,infos:=Aw (Aw k.infos (Ar k.mem c.a.toNat c.b.toNat) (-1)) c.c 1,cache:=Ed (ET k c.a.toNat) k.cache},0,0):=rfl
theorem Gx {infos:List AL} (h:A3 infos=true):Fn infos 50:=by
 intro f hf;have:=(Au.1 h).2 f (by rw[←(Au.1 h).1];exact hf);unfold Cb at this;simp only[Bool.or_eq_true,Bool.and_eq_true,decide_eq_true_eq,Ac] at this
 rcases this with h|h
 ·rw[h];decide
 ·omega
theorem Fn.refer {infos:List AL} {b x n:Int} (h:Fn infos b) (hl:infos.length=12) (hn:n=1∨n= -1):Fn (Aw infos x n) (b+1):=by
 intro f hf;rw[Cj] at hf;have:=h f hf;rw[LA hl]
 show -(b+1)≤(infoAt infos f).r+n*((Hv (Ef f x):Nat):Int)∧(infoAt infos f).r+n*((Hv (Ef f x):Nat):Int)≤b+1
 unfold Hv
 split<;>rcases hn with rfl|rfl<;>omega
theorem Fn.mono {infos:List AL} {b b':Int} (h:Fn infos b) (hb:b≤b'):Fn infos b':=fun f hf=>by have:=h f hf;omega
theorem JV {lo:Nat} {w:World} {v u:Value} {xs:List Int} {g j:Nat} (h:AE lo w v xs) (hg:g<lo):AE lo (w.setCell ⟨g,j,none⟩ u) v xs:=
 An h (Aj w g j u) (by
  rcases hv:v.ownBlock with _|b
  ·exact .inl rfl
  ·refine .inr fun e=>?_
   cases e;have:=(World.ownsRow.lt h g hv).1;omega)
theorem DW.refer {lo g b0:Nat} {call:AM} {w W:World} {m e c:Value} {k:AH} {gi cap:Nat} (h:CS lo g b0 call w W m (.slice (some ⟨gi,0,none⟩) 12 cap) e c k) (x n:Int) (hx:x≤9223372036854775807) (hl:k.infos.length=12) (hn:n=1∨n= -1) (hs:Fn k.infos 1000):
 Calls prog 164 #[call.on g, .int .i64 x, .int .i64 n] W fun r w'=>r= .returned (.tuple #[])∧CS lo g b0 call w w' m (.slice (some ⟨gi,0,none⟩) 12 cap) e c {k with infos:=Aw k.infos x n}∧W.grownBy w' (some gi):=by
 have Hb1:=AA (AF W (.cells (call.onCells g) 87));have N:=heap_alloc_new W (.cells (call.onCells g) 87);have hb:=AF W (.cells (call.onCells g) 87);have h1:=h.below hb;have hnb: -1≤n∧n≤1:=by omega
 have CE:=AA (fun W=>EI x W hx);have ngi:=h1.row_ne h1.ink.2.2.2.1 rfl (by decide) (by decide);obtain⟨cur,hcur⟩:=A8 h1.ink.2.2.2.1 gi rfl;have hgb:gi≠W.heap.size:=by have:=h.gi_lt;omega
 have hbg:W.heap.size≠gi:=hgb.symm;have hgg:g≠W.heap.size:=by have:=h.lts.2.1;omega
 obtain⟨k1,e1,a1,b1,c1,nm1⟩:=call;simp only[AM.on,AM.onCells] at N hb h1 Hb1 ⊢;obtain⟨y0,y1,y2,y3,y4,y5,y6⟩:=DT (c:=⟨k1,e1,a1,b1,c1,nm1⟩) N;cases hg:BV x
 ·have V:=AA (Dh hg)
  have S:=AA (show Aw k.infos x n=k.infos by simp[Aw,hg]);have H1:=AA h1;clear hg h h1 hs hn y0 y1 y2 y3 y4 y5 y6 N hl ngi hcur;go_in;go_wp2_with (go_at_call 160;refine(CE.out _).mono ?_;rintro e w' ⟨rfl,rfl⟩;rw[V.out]);go_returns;exact⟨rfl,by rw[S.out];exact H1.out,Cy Hb1.out _⟩
 ·have hF:=Dg hg
  have V:=AA (Dd hg);have S:=AA (show Aw k.infos x n=AR k.infos (A1 x) (DD n) by unfold Aw;rw[hg,if_pos rfl]);generalize A1 x=f at*;have hfl:f<k.infos.length:=by omega
  obtain⟨s1,s2⟩:=hs f hfl;obtain⟨_,_,d2⟩:=h1.infoAt hfl;have T:=AA (h1.info hl.symm hfl n);have x1:=h1.xs.2.1;have Fr:=h1.fzi (f*3+2);have hfi:(f:Int)<12:=by omega
  clear hg h h1 hs hn N y1 y2 y3 y4 y5 y6 hl ngi hcur;go_in;go_wp2_with (go_at_call 160;refine(CE.out _).mono ?_;rintro e w' ⟨rfl,rfl⟩;rw[V.out]);go_returns;exact⟨rfl,by rw[S.out];exact T.out,Bp (Cy Hb1.out _) (Aj _ _ _ _)⟩
theorem Ue {lo g:Nat} {w:World} {m i e c:Value} {k:AH} (h:G2 lo w g m i e c k) (hlo:lo≤w.heap.size) (hK:DV k) (call:AM) (he:0≤call.e) (hn:call.e<3) (ha:0≤call.a∧call.a<12) (hcc:call.c≤9223372036854775807):
 Calls prog 127 #[call.on g] w (CJ lo g w (FY k call)):=by
 have S0:=DW.start h hlo call;have P:=VG (k:=k) (c:=call);obtain⟨k1,e1,a1,b1,c1,nm⟩:=call;obtain⟨en,rfl⟩:∃n:Nat,e1=(n:Int):=⟨e1.toNat,by simp only at he;omega⟩
 obtain⟨an,rfl⟩:∃n:Nat,a1=(n:Int):=⟨a1.toNat,by simp only at ha;omega⟩
 have hen:en<3:=by simp only at hn;omega
 have han:an<12:=by simp only at ha;omega
 simp only[AM.on,AM.onCells] at S0 P hcc ⊢;simp only[Int.toNat_natCast] at P;obtain⟨ge,cap,e9,_,⟨⟨nge1,nge2⟩,nge3,nge4⟩,_⟩:=S0.envs (by rw[hK.envl];omega);rw[hK.envl] at e9;obtain⟨gi,capi,e8,_,_,⟨⟨ngi1,ngi2⟩,ngi3,ngi4⟩,_⟩:=S0.infos (by rw[hK.len];omega);rw[hK.len] at e8;obtain⟨gm,capm,e7,_,⟨ngm1,ngm2⟩,ngm3,ngm4⟩:=S0.mems (AT hK).1;subst e7 e8 e9;obtain⟨y0,y1,y2,y3,y4,y5,y6⟩:=S0.ys;have HK:=AA hK;have HS:=AA S0;have HP:=AA P;have hai:(an:Int)<12:=by omega
 have CEn:=AA (fun W=>EI c1 W hcc);replace y3:=cell_regrown y3;replace y4:=cell_regrown y4;replace y5:=cell_regrown y5;clear hK h S0 hlo he hn P y0 y1 y2 y6 ha;go_in;go_wp2_with fail;generalize w.alloc _=W0 at*;refine wp_region_quiet_below mixed (by kernel_rfl) ?_
 repeat(go_big_quiet_step (fail))
 refine wpQuiet_nil ?_;intro _ hw';obtain⟨⟨dq,osq⟩,hw''⟩:=hw';subst hw'';have bq:=below_regrown W0 dq osq;generalize Sort.grow (redrawn W0 dq) osq=wq at bq;clear y3 y4 y5;have S2:=AA (HS.out.below bq);obtain⟨W2,rfl⟩:∃W2:World,W2=wq:=⟨_,rfl⟩
 clear bq;obtain⟨y0,_,_,_,_,_,_⟩:=S2.out.ys;obtain⟨x0,x1,_,_⟩:=S2.out.xs;obtain⟨d0,_,_⟩:=S2.out.infoAt (f:=an) (by rw[HK.out.len];exact han);have cT:=GU (w1:=W2) (fun W=>CV (infoAt k.infos an).k W);have cP:=GU (w1:=W2) (fun W=>LK b1 W);have cN:=GU (w1:=W2) (fun W=>It (infoAt k.infos an).k W);cases hg:BV c1
 ·have V:=AA (Dh hg)
  have Hent:=AA hg;have hnd:DA k c1=[]:=by unfold DA;rw[hg];rfl
  have Hnd:=AA hnd;have hwf:DU k ⟨k1,(en:Int),(an:Int),b1,c1,nm⟩=decide (c1=0):=by unfold DU;rw[hg];rfl
  clear hg hnd;go_wp2_with (go_at_call 160;refine(CEn.out _).mono ?_;rintro e w' ⟨rfl,rfl⟩;rw[V.out]);clear x1 d0 y0 x0;cases ht:Bg (infoAt k.infos an).k
  ·rw[ht] at cT
   have E:=AA (show FY k ⟨k1,(en:Int),(an:Int),b1,c1,nm⟩=(k,0,3) by rw[HP.out,if_pos (.inl ht)]);refine wp_region_quiet_below mixed (by kernel_rfl) ?_
   repeat(go_big_quiet_step (first|exact cT _ _|exact cP _ _|exact cN _ _))
   refine wpQuiet_nil ?_;intro _ hw';obtain⟨⟨dq,osq⟩,hw''⟩:=hw';subst hw'';have bq:=below_regrown W2 dq osq;generalize Sort.grow (redrawn W2 dq) osq=wq at bq;go_wp2_with fail;go_ret;exact CJ.bad E.out (by decide) (S2.out.below bq).bel
  ·rw[ht] at cT
   cases hb:Bv b1 0 3
   ·rw[hb] at cP
    have E:=AA (show FY k ⟨k1,(en:Int),(an:Int),b1,c1,nm⟩=(k,0,3) by rw[HP.out,if_pos (.inr (.inl hb))]);refine wp_region_quiet_below mixed (by kernel_rfl) ?_
    repeat(go_big_quiet_step (first|exact cT _ _|exact cP _ _|exact cN _ _))
    refine wpQuiet_nil ?_;intro _ hw';obtain⟨⟨dq,osq⟩,hw''⟩:=hw';subst hw'';have bq:=below_regrown W2 dq osq;generalize Sort.grow (redrawn W2 dq) osq=wq at bq;go_wp2_with fail;go_ret;exact CJ.bad E.out (by decide) (S2.out.below bq).bel
   ·rw[hb] at cP
    by_cases h0:c1=0
    ·have t0:(c1 !=0)=false:=by simp[h0]
     have HP2:=AA (show FY k ⟨k1,(en:Int),(an:Int),b1,c1,nm⟩=_ by rw[HP.out,if_neg (by rintro(x|x|x);(· rw[ht] at x;cases x);(· rw[hb] at x;cases x);(· rw[hwf,h0] at x;cases x))]);obtain⟨bn,rfl⟩:∃n:Nat,b1=(n:Int):=⟨b1.toNat,by have:=(Ac.1 hb).1;omega⟩
     have hb4:bn<4:=by have:=(Ac.1 hb).2;omega
     simp only[Int.toNat_natCast] at HP2;have Hc0:=AA h0;clear hwf ht hb h0;refine wp_region_quiet_below mixed (by kernel_rfl) ?_
     repeat(go_big_quiet_step (first|exact cT _ _|exact cP _ _|exact cN _ _))
     refine wpQuiet_nil ?_;intro _ hw';obtain⟨⟨dq,osq⟩,hw''⟩:=hw';subst hw'';have bq:=below_regrown W2 dq osq;generalize Sort.grow (redrawn W2 dq) osq=wq at bq;clear cT cP cN t0;have S5:=AA (S2.out.below bq);obtain⟨W5,rfl⟩:∃W5:World,W5=wq:=⟨_,rfl⟩
     clear bq S2;have N10:=AA (World.ownsRow_nil W5 W5.heap.size 3 1);have N10:Hid (AE W5.heap.size W5 (.slice none 0 0) (Ah [])):=AA N10.out;obtain⟨ts,hts⟩:∃ts:List Nat,ts=[]:=⟨_,rfl⟩
     have Hm:=AA (show ∀g,g∈ts↔g∈DA k c1 by rw[hts,Hnd.out];exact fun _=>Iff.rfl);have Ht:=AA (show ∀g,g∈ts→g<12 by rw[hts];intro g hg;cases hg);rw[←hts] at N10;clear hts;obtain⟨y0,_,_,_,_,_,_⟩:=S5.out.ys;obtain⟨_,_,x2,_⟩:=S5.out.xs;go_wp2_with fail;clear y0 x2;go_loopw [11,99] (fun s11 s99 wr=>∃j:Nat,j≤3∧s99= .int .i64 j∧AE W5.heap.size wr s11 (Ah (Bm k an j))∧Below W5.heap.size W5 wr∧∀e,e∈Bm k an j→At k.infos (DA k c1) (AD k.envs e).rights=true) (fun _ s99 _=>3 - (intOf s99).toNat)
     case atStart=>exact⟨0,Nat.zero_le _,rfl,World.ownsRow_nil _ _ _ _,Below.refl _ _,fun e he=>by cases he⟩
     case round=>
      obtain⟨j,hj,rfl,hO,hbel,hall⟩:=hrel;have Hall:=AA hall;clear hall;have hl6:=GK (k:=k) (a:=an) (j:=j);have S6:=AA (S5.out.below hbel);have HO:=AA hO;have Hbel:=AA hbel;obtain⟨a11,c11,rfl,_,_,_⟩:=hO.rd.open;rw[BO] at HO ⊢;clear hO hbel
      by_cases hlt:j<3
      ·obtain⟨ua,uc,D05,D15,R5⟩:=S5.out.env (j:=j) (by rw[HK.out.envl];exact hlt)
       have D0:=(Hbel.out.cell (World.block_lt_of_cell? _ _ D05)).trans D05;have D1:=(Hbel.out.cell (World.block_lt_of_cell? _ _ D15)).trans D15;have R:=A6.below R5 Hbel.out;have HR5:=AA R5;clear D05 D15 R5;have hbN:=AF wr (.cells #[.slice ua (AD k.envs j).rights.length uc, .int .i64 (AD k.envs j).root] 62);have NE:=heap_alloc_new wr (.cells #[.slice ua (AD k.envs j).rights.length uc, .int .i64 (AD k.envs j).root] 62);have S7:=AA (S6.out.below hbN);have hlt3:(j:Int)<3:=by omega
       obtain⟨y0,_,_,_,_,_,_⟩:=S7.out.ys;obtain⟨x0,x1,_,_⟩:=S7.out.xs;obtain⟨hlr,hgr,_,_⟩:=S7.out.lts;have hm12:=root_lt HK.out hlt;have RM:=BI.below S6.out.ink.2.2.rd.1 hbN;have RIn:BH _ _ k.infos:=S7.out.ink.2.2.2.1.rd;have R7:=A6.below R hbN;have HNE:=AA NE;have hqr:=Aq NE;have n0:=cell_of_row _ _ 0 _ _ _ NE;have n1:=cell_of_row _ _ 1 _ _ _ NE;have HbN:=AA hbN;clear hbN NE R;go_wp2_with fail;clear D0 D1;generalize wr.alloc _=W7 at*;obtain⟨qe,hqe⟩:∃q,q=wr.heap.size:=⟨_,rfl⟩
       rw[←hqe] at HNE hqr n0 n1 ⊢;have CX:=AA (fun W (hW:Below W7.heap.size W7 W)=>FX _ k.mem (AD k.envs j).root W (RM.below hW) (AT HK.out).1 hm12);have hG0:=HbN.out;cases hbu:(A5 k.mem (AD k.envs j).root).contains an
       ·have Hbu:Hid ((A5 k.mem (AD k.envs j).root).contains an=false):=AA hbu
        have HU:=AA (Mw hbu);clear hbu hqe;refine Am 10 188 [.p w.heap.size 0, .p g 0, .p g 0, .p g 0, .s gm 12 capm, .p qe 1, .i ((AD k.envs j).root), .z, .i ((an:Int)), .b false] (fun ix vv ww=>match ix with
         |7=>Cp wr.heap.size k.mem (AD k.envs j).root ww vv
         |_=>True) ?_ ?_ ?_
        ·intro i hi o ho a wx Hb Hd hG K HK
         have mc0:=bc hG hlr y0;have mc1:=bc hG hgr x0;have mc2:=bc hG hqr n1
         match i,hi with
         |0,_|2,_|3,_|5,_|8,_=>exact sP ho HK Hb Hd
         |1,_=>exact sL ho HK Hb Hd (hl:=GC (by assumption))
         |4,_=>exact sL ho HK Hb Hd (hl:=Ff (by assumption))
         |6,_=>exact sL ho HK Hb Hd (hl:=Fg (by assumption))
         |7,_=>exact sC ho HK Hb Hd (CX.out _ hG) (by rintro e w_ ⟨v',ts',rfl,hO,hmem,_,hb2⟩;exact⟨_,rfl,⟨ts',Bd hO (Nat.le_trans hG0.size hG.size),hmem⟩,hb2⟩)
         |9,_=>clear mc0 mc1 mc2;obtain rfl:=So_ ho;have d7:Cp wr.heap.size k.mem (AD k.envs j).root wx (a.tmps[111]?.getD undef):=Bx Hd 7;have d8:(a.tmps[112]?.getD undef)= .int .i64 an:=Bx Hd 8;clear Hd Hb;generalize e111:a.tmps[111]?.getD undef=v2 at d7;obtain⟨ts',hO,hmem⟩:=d7;have CC:=Ab (Eo v2 ts' (an:Int) wx (AE.rd hO));rw[Fx hmem,Hbu.out] at CC;refine Aa.of rfl ?_;go_simp;refine CC.mono ?_;rintro e w_ ⟨rfl,hb2⟩;exact HK.out _ _ rfl hb2
        ·intro i hi vv wz ww' hbz hz
         match i,hi with
         |7,_=>exact(Cp.below hz hbz)
         |0,_|1,_|2,_|3,_|4,_|5,_|6,_|8,_|9,_=>exact hz
        ·intro vs wx hR hG
         have q9:(vs 9)= .bool false:=BT hR 9;clear hR;simp only[Ai,AQ,List.range,List.range.loop,List.foldl_cons,List.foldl_nil,q9];simp;clear q9;have hbx:=hG0.trans (hG.mono hG0.size);have HOx:=AA (HO.out.below hbx);have Hbx:=AA (Hbel.out.trans (hbx.mono Hbel.out.size));clear hG hbx y0 x0 x1 n0 n1 hG0 RM RIn R7;go_wp2_with fail;go_roundw
         case rel=>exact⟨j+1,by omega,by go_num,by rw[HU.out];exact HOx.out,Hbx.out,by rw[HU.out];exact Hall.out⟩
         case measure=>simp[intOf];omega
       ·have Hbu:Hid ((A5 k.mem (AD k.envs j).root).contains an=true):=AA hbu
        have HU:=AA (LU hbu);have hju:j∈ET k an:=by rw[←EG];exact List.mem_filter.2 ⟨List.mem_range.2 hlt,hbu⟩
        clear hbu hqe;refine Am 10 188 [.p w.heap.size 0, .p g 0, .p g 0, .p g 0, .s gm 12 capm, .p qe 1, .i ((AD k.envs j).root), .z, .i ((an:Int)), .b true] (fun ix vv ww=>match ix with
         |7=>Cp wr.heap.size k.mem (AD k.envs j).root ww vv
         |_=>True) ?_ ?_ ?_
        ·intro i hi o ho a wx Hb Hd hG K HK
         have mc0:=bc hG hlr y0;have mc1:=bc hG hgr x0;have mc2:=bc hG hqr n1
         match i,hi with
         |0,_|2,_|3,_|5,_|8,_=>exact sP ho HK Hb Hd
         |1,_=>exact sL ho HK Hb Hd (hl:=GC (by assumption))
         |4,_=>exact sL ho HK Hb Hd (hl:=Ff (by assumption))
         |6,_=>exact sL ho HK Hb Hd (hl:=Fg (by assumption))
         |7,_=>exact sC ho HK Hb Hd (CX.out _ hG) (by rintro e w_ ⟨v',ts',rfl,hO,hmem,_,hb2⟩;exact⟨_,rfl,⟨ts',Bd hO (Nat.le_trans hG0.size hG.size),hmem⟩,hb2⟩)
         |9,_=>clear mc0 mc1 mc2;obtain rfl:=So_ ho;have d7:Cp wr.heap.size k.mem (AD k.envs j).root wx (a.tmps[111]?.getD undef):=Bx Hd 7;have d8:(a.tmps[112]?.getD undef)= .int .i64 an:=Bx Hd 8;clear Hd Hb;generalize e111:a.tmps[111]?.getD undef=v2 at d7;obtain⟨ts',hO,hmem⟩:=d7;have CC:=Ab (Eo v2 ts' (an:Int) wx (AE.rd hO));rw[Fx hmem,Hbu.out] at CC;refine Aa.of rfl ?_;go_simp;refine CC.mono ?_;rintro e w_ ⟨rfl,hb2⟩;exact HK.out _ _ rfl hb2
        ·intro i hi vv wz ww' hbz hz
         match i,hi with
         |7,_=>exact(Cp.below hz hbz)
         |0,_|1,_|2,_|3,_|4,_|5,_|6,_|8,_|9,_=>exact hz
        ·intro vs wx hR hG
         have q9:(vs 9)= .bool true:=BT hR 9;clear hR;simp only[Ai,AQ,List.range,List.range.loop,List.foldl_cons,List.foldl_nil,q9];simp;clear q9;have hbx:=hG0.trans (hG.mono hG0.size);have HOx:=HO.out.below hbx;have Hbx:=AA (Hbel.out.trans (hbx.mono Hbel.out.size));have b1:=AF wx (.cells #[.int .i64 j] 3);have O1:=AA (show(wx.alloc (.cells #[.int .i64 j] 3)).ownsRow W5.heap.size 3 1 (.slice a11 (Bm k an j).length c11) (Bm k an j).length ((Ah (Bm k an j)).map (Value.int .i64)) by have:=HOx.below b1;unfold AE at this;rwa [BO] at this);have L1:=AA (show Rd (wx.alloc (.cells #[.int .i64 j] 3)) (.slice (some ⟨wx.heap.size,0,none⟩) 1 1) 1 1 ((Ah [j]).map (Value.int .i64)) from AE.rd (IJ wx (j:Int)));have s5:=Hbx.out.size;have hnb:=AA (show ∀b,(Value.slice a11 (Bm k an j).length c11).ownBlock=some b→W5.heap.size≤b from fun b hb=>(World.ownsRow.lt HO.out b hb).1);have S8:=AA ((S7.out.below hG).below b1);have HNE8:=AA (AG (AG HNE.out hG) b1);have Rx:=AA (A6.below (A6.below R7 hG) b1);have hOa:=AA HOx;have HB8:=AA (Hbx.out.trans (b1.mono s5));clear hG hbx y0 x0 x1 n0 n1 hG0 RM RIn R7 HOx b1;go_wp2_with (at_builtin;go_must (refine DF (lo:=W5.heap.size) (v:= .slice a11 (Bm k an j).length c11) (n:=(Bm k an j).length) (xs:=(Ah (Bm k an j)).map (Value.int .i64)) (m:=1) (news:=(Ah [j]).map (Value.int .i64)) rfl rfl 3 (.int .i64 0) 1 8 underlying28 Tryz.infoInt rfl (by decide) rfl O1.out rfl L1.out IE (by unfold maxLen;omega) (by omega) (by simp;omega) ?_;intro o11 W9 k1_ k2_ k3_;have y0:=(Du (o:=0) k2_ S8.out.lts.1 (Bs O1.out S8.out.blk (by decide))).trans S8.out.ys.1;have n0:=(Du (o:=0) k2_ (Aq HNE8.out) (Bs O1.out HNE8.out (by decide))).trans (cell_of_row _ _ 0 _ _ _ HNE8.out)));have HB9:=AA (HB8.out.trans k3_);have S9:=AA (S5.out.below HB9.out);have O9:=AA (Iw (a:=Bm k an j) (b:=[j]) k1_);have CAl:=F0 g _ (.slice none 0 0) _ (AD k.envs j).rights ts k.infos W9 S9.out.xs.2.1 (A6.below HR5.out HB9.out) (A6.below S5.out.ink.2.2.2.1.rd HB9.out) (Ap.below (AE.rd N10.out) HB9.out) (fun g hg=>by rw[HK.out.len];exact Ht.out g hg);rw[ED Hm.out] at CAl;clear y0 n0 k1_ k2_ k3_ O1 L1;cases hal:At k.infos (DA k c1) (AD k.envs j).rights
         ·have Hal:=AA hal
          have E:=AA (show FY k ⟨k1,(en:Int),(an:Int),(bn:Int),c1,nm⟩=(k,0,1) by rw[HP2.out,if_pos (List.all_eq_false.2 ⟨j,hju,by rw[hal];decide⟩)]);rw[hal] at CAl;clear hal;refine CAl.mono ?_;rintro r w10 ⟨rfl,hb10⟩;go_wp2_with fail;go_ret;exact CJ.bad E.out (by decide) (S9.out.below hb10).bel
         ·have Hal:=AA hal
          rw[hal] at CAl;clear hal;refine CAl.mono ?_;rintro r w10 ⟨rfl,hb10⟩;have O10:=AA (O9.out.below hb10);have H10:=AA (HB9.out.trans (hb10.mono HB9.out.size));clear hb10;go_wp2_with fail;go_roundw
          case rel=>exact⟨j+1,by omega,by go_num,by rw[HU.out];exact O10.out,H10.out,fun e he=>by
           rw[HU.out,List.mem_append,List.mem_singleton] at he
           rcases he with he|rfl
           ·exact Hall.out e he
           ·exact Hal.out⟩
          case measure=>simp[intOf];omega
      ·obtain rfl:j=3:=by omega
       rw[EG] at HO Hall ⊢;obtain⟨us,hus⟩:∃us,us=ET k an:=⟨_,rfl⟩
       have husl:us.length≤3:=by rw[hus,←EG];exact GK
       rw[←hus] at HO Hall ⊢;have HP3:=AA (show FY k ⟨k1,(en:Int),(an:Int),(bn:Int),c1,nm⟩=_ by rw[HP2.out,if_neg (by rw[Bool.not_eq_false,List.all_eq_true,←hus];exact Hall.out)]);rw[←hus] at HP3;clear hus hl6;obtain⟨W6,rfl⟩:∃W6:World,W6=wr:=⟨_,rfl⟩
       go_wp2_with fail;have HP4:=AA (show FY k ⟨k1,(en:Int),(an:Int),(bn:Int),c1,nm⟩=_ by rw[HP3.out,if_neg (by rintro⟨x,_⟩;rw[Hent.out] at x;cases x)]);refine wp_region_quiet_below mixed (by kernel_rfl) ?_
       repeat(go_big_quiet_step (fail))
       refine wpQuiet_nil ?_;intro _ hw';obtain⟨⟨dq,osq⟩,hw''⟩:=hw';subst hw'';have bq:=below_regrown W6 dq osq;generalize Sort.grow (redrawn W6 dq) osq=wq at bq;have S7:=AA (S6.out.below bq);obtain⟨W7,rfl⟩:∃W7:World,W7=wq:=⟨_,rfl⟩
       have HO7:=AA (HO.out.below bq);have hs5:=Nat.le_trans Hbel.out.size bq.size;obtain⟨y0,y1,y2,y3,y4,y5,y6⟩:=S7.out.ys;obtain⟨x0,_,_,_⟩:=S7.out.xs;obtain⟨gw,capw,Dw,hgw,hcw,Dj,fzw,⟨⟨ngw1,ngw2⟩,ngw3,ngw4⟩,_,hT,SW⟩:=S7.out.mrow (AT HK.out).1 (f:=an) han;have Dv:=Dj bn hb4;have fz:=fzw bn;have S8:=AA (SW bn c1 hb4);have hb4i:(bn:Int)<4:=by omega
       have how:=AA (HK.out.word (f:=an) (i:=bn) han hb4);have hgw5:gw<W5.heap.size:=by obtain⟨gw',capw',Dw',hgw',_⟩:=S5.out.mrow (AT HK.out).1 (f:=an) han;have:=((Hbel.out.trans (bq.mono Hbel.out.size)).cell (World.block_lt_of_cell? _ _ Dw')).trans Dw';rw[Dw] at this;simp at this;rw[this.1];exact hgw'
       have HO8:=AA (show AE W5.heap.size (W7.setCell ⟨gw,bn,none⟩ (.int .i64 c1)) (.slice a11 us.length c11) (Ah us) from An HO7.out (Aj _ _ _ _) (by
        rcases hv:(Value.slice a11 us.length c11).ownBlock with _|b
        ·exact .inl rfl
        ·refine .inr fun e=>?_
         cases e;have:=(World.ownsRow.lt HO7.out gw hv).1;omega))
       clear bq Dj fzw SW hT;go_wp2_with fail;clear y0 y1 y2 y3 y4 y5 y6 x0 Dw Dv fz;generalize W7.setCell _ _=W8 at*;have CR:=S8.out.refer (Ar k.mem an bn) (-1) (by have:=how.out.2;omega) HK.out.len (.inr rfl) ((Gx (AT HK.out).2.1).mono (by decide));simp only[AM.on,AM.onCells] at CR;refine CR.mono ?_;rintro r w9 ⟨rfl,S9,hg9⟩;have S9:=AA S9;have hgi5:=S5.out.gi_lt;have HO9:=AA (show AE W5.heap.size w9 (.slice a11 us.length c11) (Ah us) from An HO8.out hg9 (by
        rcases hv:(Value.slice a11 us.length c11).ownBlock with _|b
        ·exact .inl rfl
        ·refine .inr fun e=>?_
         cases e;have:=(World.ownsRow.lt HO8.out gi hv).1;omega))
       clear hg9 CR;obtain⟨y0,y1,y2,y3,y4,y5,y6⟩:=S9.out.ys;go_wp2_with fail;clear y0 y1 y2 y3 y4 y5 y6;have CR:=S9.out.refer c1 1 hcc (by simp only[Cj];exact HK.out.len) (.inl rfl) (Fn.mono (Fn.refer (Gx (AT HK.out).2.1) HK.out.len (.inr rfl)) (by decide));simp only[AM.on,AM.onCells] at CR;refine CR.mono ?_;rintro r w10 ⟨rfl,S10,hg10⟩;have S10:=AA S10;have HO10:=AA (show AE W5.heap.size w10 (.slice a11 us.length c11) (Ah us) from An HO9.out hg10 (by
        rcases hv:(Value.slice a11 us.length c11).ownBlock with _|b
        ·exact .inl rfl
        ·refine .inr fun e=>?_
         cases e;have:=(World.ownsRow.lt HO9.out gi hv).1;omega))
       have hg5:=S5.out.lts.2.1;clear hg10 CR;go_wp2_with fail;go_loopw [172] (fun s172 wr=>∃j:Nat,j≤us.length∧s172= .int .i64 j∧AE W5.heap.size wr (.slice a11 us.length c11) (Ah us)∧∃c',CS lo g w.heap.size ⟨k1,(en:Int),(an:Int),(bn:Int),c1,nm⟩ w wr (.slice (some ⟨gm,0,none⟩) 12 capm) (.slice (some ⟨gi,0,none⟩) 12 capi) (.slice (some ⟨ge,0,none⟩) 3 cap) c' {k with mem:=CZ k.mem an bn c1,infos:=Aw (Aw k.infos (Ar k.mem an bn) (-1)) c1 1,cache:=Ed (us.take j) k.cache}) (fun s172 _=>us.length - (intOf s172).toNat)
       case atStart=>exact⟨0,Nat.zero_le _,rfl,HO10.out,c,S10.out⟩
       case round=>
        obtain⟨j,hj,rfl,hO,c',hS⟩:=hrel;have HOr:=AA hO;have S:=AA hS;clear hS
        by_cases hlt:j<us.length
        ·obtain⟨ax,cx,hvx,_,_,H0⟩:=hO.rd.open
         rw[BO] at hvx;simp only[Value.slice.injEq] at hvx;obtain⟨rfl,_,rfl⟩:=hvx;obtain⟨bx,offx,rfl,DX⟩:=H0.at (k:=j) (by rw[BO];exact hlt);rw[KX hlt] at DX;obtain⟨un,hun⟩:∃u,u=us.getD j 0:=⟨_,rfl⟩
         rw[←hun] at DX;have HUN:=AA hun;obtain⟨cc,hcc'⟩:∃cc,cc=Ed (us.take j) k.cache:=⟨_,rfl⟩
         have HCC:=AA hcc';clear hun;have hjl:(j:Int)<us.length:=by omega
         obtain⟨y0,_,_,_,_,_,_⟩:=S.out.ys;obtain⟨_,_,_,x3⟩:=S.out.xs;obtain⟨hlr,hgr,ngb,nbg⟩:=S.out.lts;have RC:Bh wr c' cc:=by rw[hcc'];exact S.out.ink.2.2.2.2.2.rd
         clear hcc';have CD:=AA (fun W (hW:Below wr.heap.size wr W)=>Ea c' cc (un:Int) W (A6.below RC hW) (by rw[HCC.out];exact Kz _ (AT HK.out).2.2));clear RC H0 hO;go_wp2_with fail;clear DX;refine Am 11 188 [.p w.heap.size 0, .p g 0, .p w.heap.size 0, .p g 0, .p g 0, .p g 3, .v c', .i ((un:Int)), .z, .p g 0, .p g 3] (fun ix vv ww=>match ix with
          |8=>AC wr.heap.size 95 4 AJ ww vv (Cg cc (un:Int))
          |_=>True) ?_ ?_ ?_
         ·intro i hi o ho a wx Hb Hd hG K HK
          have mc0:=bc hG hlr y0;have mc1:=bc hG hgr x3
          match i,hi with
          |0,_|2,_|4,_|5,_|7,_|9,_|10,_=>exact sP ho HK Hb Hd
          |1,_|3,_=>exact sL ho HK Hb Hd (hl:=GC (by assumption))
          |6,_=>exact sL ho HK Hb Hd (hl:=K6 (by assumption))
          |8,_=>exact sC ho HK Hb Hd (CD.out _ hG) (by rintro e w_ ⟨v',rfl,hO,hb2⟩;exact⟨_,rfl,(hO.lower hG.size),hb2⟩)
         ·intro i hi vv wz ww' hbz hz
          match i,hi with
          |8,_=>exact(AC.below hz hbz)
          |0,_|1,_|2,_|3,_|4,_|5,_|6,_|7,_|9,_|10,_=>exact hz
         ·intro vs wx hR hG
          have q1:(vs 1)= .pointer (some ⟨g,0,none⟩):=BT hR 1;have q8:AC wr.heap.size 95 4 AJ wx (vs 8) (Cg cc (un:Int)):=BT hR 8;have q9:(vs 9)= .pointer (some ⟨g,0,none⟩):=BT hR 9;have q10:(vs 10)= .pointer (some ⟨g,3,none⟩):=BT hR 10;clear hR;simp only[Ai,AQ,List.range,List.range.loop,List.foldl_cons,List.foldl_nil,q1,q9,q10];simp;generalize vs 8=z8 at q8 ⊢;clear q1 q9 q10;rw[HCC.out,HUN.out,←Iy hlt] at q8;have S8:=AA (S.out.cache hG q8);have HOn:=AA (JV (j:=3) (u:=z8) (AE.below HOr.out hG) hg5);have fzg:=AI (S.out.below hG).ink.1;have x3w:=(S.out.below hG).xs.2.2.2;obtain⟨_,_,rfl,_,_⟩:=q8.rd.shape;clear q8 hG y0 x3;go_wp2_with fail;go_roundw
          case rel=>exact⟨j+1,by omega,by go_num,HOn.out,_,S8.out⟩
          case measure=>simp[intOf];omega
        ·obtain rfl:j=us.length:=by omega
         rw[List.take_length] at S;have HE:=AA (show FY k ⟨k1,(en:Int),(an:Int),(bn:Int),c1,nm⟩=({k with mem:=CZ k.mem an bn c1,infos:=Aw (Aw k.infos (Ar k.mem an bn) (-1)) c1 1,cache:=Ed us k.cache},0,0) from HP4.out);go_wp2_with fail;go_ret;exact⟨by rw[HE.out]<;>rfl,fun _=>⟨_,_,_,_,by rw[HE.out];exact S.out.ink⟩,S.out.bel⟩
    ·have t0:(c1 !=0)=true:=by simp[h0]
     have E:=AA (show FY k ⟨k1,(en:Int),(an:Int),b1,c1,nm⟩=(k,0,3) by rw[HP.out,if_pos (.inr (.inr (by rw[hwf];simp[h0])))]);refine wp_region_quiet_below mixed (by kernel_rfl) ?_
     repeat(go_big_quiet_step (first|exact cT _ _|exact cP _ _|exact cN _ _))
     refine wpQuiet_nil ?_;intro _ hw';obtain⟨⟨dq,osq⟩,hw''⟩:=hw';subst hw'';have bq:=below_regrown W2 dq osq;generalize Sort.grow (redrawn W2 dq) osq=wq at bq;go_wp2_with fail;go_ret;exact CJ.bad E.out (by decide) (S2.out.below bq).bel
 ·have hF:=Dg hg
  have V:=AA (Dd hg);have Hent:=AA hg;have hwf:DU k ⟨k1,(en:Int),(an:Int),b1,c1,nm⟩=decide ((infoAt k.infos (A1 c1)).k=(infoAt k.infos an).k - 1):=by unfold DU;rw[hg];rfl
  have h0:c1≠0:=by rintro rfl;cases hg
  have t0:(c1 !=0)=true:=by simp[h0]
  have HN:=AA (show DA k c1=A1 c1::(if Bg (infoAt k.infos (A1 c1)).k then named (AK k.mem (A1 c1)) else[]) by unfold DA;rw[hg];rfl);clear hg;obtain⟨f,hfe⟩:∃f,f=A1 c1:=⟨_,rfl⟩
  have HF:=AA hfe.symm;rw[←hfe] at V HN hwf hF;clear hfe;obtain⟨df0,_,_⟩:=S2.out.infoAt (f:=f) (by rw[HK.out.len];exact hF);have hfi:(f:Int)<12:=by omega
  go_wp2_with (go_at_call 160;refine(CEn.out _).mono ?_;rintro e w' ⟨rfl,rfl⟩;rw[V.out]);replace y0:=cell_regrown y0;replace x1:=cell_regrown x1;replace df0:=cell_regrown df0;clear d0 x0;cases ht:Bg (infoAt k.infos an).k
  ·rw[ht] at cT
   have E:=AA (show FY k ⟨k1,(en:Int),(an:Int),b1,c1,nm⟩=(k,0,3) by rw[HP.out,if_pos (.inl ht)]);refine wp_region_quiet_below mixed (by kernel_rfl) ?_
   repeat(go_big_quiet_step (first|exact cT _ _|exact cP _ _|exact cN _ _))
   refine wpQuiet_nil ?_;intro _ hw';obtain⟨⟨dq,osq⟩,hw''⟩:=hw';subst hw'';have bq:=below_regrown W2 dq osq;generalize Sort.grow (redrawn W2 dq) osq=wq at bq;go_wp2_with fail;go_ret;exact CJ.bad E.out (by decide) (S2.out.below bq).bel
  ·rw[ht] at cT
   rw[Nt ht] at cN;cases hb:Bv b1 0 3
   ·rw[hb] at cP
    have E:=AA (show FY k ⟨k1,(en:Int),(an:Int),b1,c1,nm⟩=(k,0,3) by rw[HP.out,if_pos (.inr (.inl hb))]);refine wp_region_quiet_below mixed (by kernel_rfl) ?_
    repeat(go_big_quiet_step (first|exact cT _ _|exact cP _ _|exact cN _ _))
    refine wpQuiet_nil ?_;intro _ hw';obtain⟨⟨dq,osq⟩,hw''⟩:=hw';subst hw'';have bq:=below_regrown W2 dq osq;generalize Sort.grow (redrawn W2 dq) osq=wq at bq;go_wp2_with fail;go_ret;exact CJ.bad E.out (by decide) (S2.out.below bq).bel
   ·rw[hb] at cP
    by_cases h0:(infoAt k.infos f).k=(infoAt k.infos an).k - 1
    ·have t2:((infoAt k.infos f).k !=(infoAt k.infos an).k - 1)=false:=by simp[h0]
     have HP2:=AA (show FY k ⟨k1,(en:Int),(an:Int),b1,c1,nm⟩=_ by rw[HP.out,if_neg (by rintro(x|x|x);(· rw[ht] at x;cases x);(· rw[hb] at x;cases x);(· rw[hwf,decide_eq_true h0] at x;cases x))]);obtain⟨bn,rfl⟩:∃n:Nat,b1=(n:Int):=⟨b1.toNat,by have:=(Ac.1 hb).1;omega⟩
     have hb4:bn<4:=by have:=(Ac.1 hb).2;omega
     simp only[Int.toNat_natCast] at HP2;have hf12:=hF;clear hwf ht hb h0 hF;refine wp_region_quiet_below mixed (by kernel_rfl) ?_
     repeat(go_big_quiet_step (first|exact cT _ _|exact cP _ _|exact cN _ _))
     refine wpQuiet_nil ?_;intro _ hw';obtain⟨⟨dq,osq⟩,hw''⟩:=hw';subst hw'';have bq:=below_regrown W2 dq osq;generalize Sort.grow (redrawn W2 dq) osq=wq at bq;clear cT cP cN t0 t2 y0 x1 df0;have S3:=AA (S2.out.below bq);obtain⟨W3,rfl⟩:∃W3:World,W3=wq:=⟨_,rfl⟩
     clear bq S2;have b1_:=AF W3 (.cells #[.int .i64 f] 3);have O4:=AA (IJ W3 (f:Int));have S4:=AA (S3.out.below b1_);have HB4:=AA b1_;clear b1_;obtain⟨y0,_,_,_,_,_,_⟩:=S4.out.ys;obtain⟨x0,x1,_,_⟩:=S4.out.xs;obtain⟨df0,_,_⟩:=S4.out.infoAt (f:=f) (by rw[HK.out.len];exact hf12);have CT:=AA (fun W=>CV (infoAt k.infos f).k W);go_wp2_with fail;refine(CT.out _).mono ?_;rintro r w9 ⟨rfl,rfl⟩;generalize W3.alloc _=W4 at*;go_upto_if 83 with fail;go_cut [10] (fun s10 wx=>∃ts b3,AE b3 wx s10 (Ah ts)∧(∀g,g∈ts↔g∈DA k c1)∧(∀g,g∈ts→g<12)∧CS lo g w.heap.size ⟨k1,(en:Int),(an:Int),(bn:Int),c1,nm⟩ w wx (.slice (some ⟨gm,0,none⟩) 12 capm) (.slice (some ⟨gi,0,none⟩) 12 capi) (.slice (some ⟨ge,0,none⟩) 3 cap) c k)
     case first=>
      cases htf:Bg (infoAt k.infos f).k
      ·go_wp2_with fail
       go_meet
       case rel=>exact⟨[f],_,O4.out,by rw[HN.out,htf];exact fun _=>Iff.rfl,by intro g hg;rw[List.mem_singleton] at hg;omega,S4.out⟩
      ·have RM:=S4.out.ink.2.2.rd.1
       have CN:=Nr _ (.slice (some ⟨W3.heap.size,0,none⟩) 1 1) k.mem [f] W4 RM (AT HK.out).1 (AE.rd O4.out) (by simpa using hf12) (by simp);have hacc:=Iu (AT HK.out).1 (ns:=[f]) (by simpa using hf12);go_wp2_with fail;refine CN.mono ?_;rintro r w5 ⟨v5,t5,rfl,P5,m5,l5,hb5⟩;have O5:=AA (show w5.ownsRow W3.heap.size 3 1 (.slice (some ⟨W3.heap.size,0,none⟩) 1 1) 1 ((Ah [f]).map (Value.int .i64)) from O4.out.below hb5);have R5:=AA (show Rd w5 v5 1 t5.length ((Ah t5).map (Value.int .i64)) by have:=AE.rd P5;unfold Ap at this;rwa [BO] at this);have hlo5:W3.heap.size≤w5.heap.size:=Nat.le_trans (by have:=(World.ownsRow.lt O4.out _ rfl);omega) hb5.size;have S5_:=AA (S4.out.below hb5);have HB5:=AA (HB4.out.trans (hb5.mono HB4.out.size));have h5:t5.length≤4:=by simp at hacc;omega
       have Hm:=AA (show ∀g,g∈[f]++t5↔g∈DA k c1 by intro g;rw[HN.out,htf,if_pos rfl,List.mem_append,List.mem_singleton,List.mem_cons,m5];simp[FP])
       have Ht:=AA (show ∀g,g∈[f]++t5→g<12 by
        intro g hg;rw[List.mem_append,List.mem_singleton] at hg
        rcases hg with rfl|hg
        ·exact hf12
        ·obtain⟨_,_,hg⟩:=Iv.1 ((m5 g).1 hg)
         exact Ek hg)
       clear htf O4 S4 x0 x1 y0 df0 CT RM P5 m5 l5 hb5 hacc CN;go_wp2_with (at_builtin;go_must (refine DF (lo:=W3.heap.size) (v:= .slice (some ⟨W3.heap.size,0,none⟩) 1 1) (n:=1) (xs:=(Ah [f]).map (Value.int .i64)) (m:=t5.length) (news:=(Ah t5).map (Value.int .i64)) rfl rfl 3 (.int .i64 0) 1 8 underlying28 Tryz.infoInt rfl (by decide) rfl O5.out rfl R5.out IE (by unfold maxLen;omega) (by omega) (by omega) ?_;intro o10 W5 k1_ k2_ k3_;have y0:=(Du (o:=0) k2_ S5_.out.lts.1 (Bs O5.out S5_.out.blk (by decide))).trans S5_.out.ys.1;have x2:=(Du (o:=2) k2_ S5_.out.lts.2.1 (Bs O5.out S5_.out.ink.1 (by decide))).trans S5_.out.xs.2.2.1));go_meet
       case rel=>exact⟨[f]++t5,_,Iw (a:=[f]) (b:=t5) k1_,Hm.out,Ht.out,S3.out.below (HB5.out.trans k3_)⟩
     case rest=>
     obtain⟨ts,b3,n10,hm_,ht_,s5_⟩:=hcut;have N10:=AA n10;have Hm:=AA hm_;have Ht:=AA ht_;have S5:=AA s5_;obtain⟨W5,rfl⟩:∃W5:World,W5=wc:=⟨_,rfl⟩
     clear n10 hm_ ht_ s5_ O4 S4 x0 x1 y0 df0 CT;obtain⟨y0,_,_,_,_,_,_⟩:=S5.out.ys;obtain⟨_,_,x2,_⟩:=S5.out.xs;go_wp2_with fail;clear y0 x2;go_loopw [11,99] (fun s11 s99 wr=>∃j:Nat,j≤3∧s99= .int .i64 j∧AE W5.heap.size wr s11 (Ah (Bm k an j))∧Below W5.heap.size W5 wr∧∀e,e∈Bm k an j→At k.infos (DA k c1) (AD k.envs e).rights=true) (fun _ s99 _=>3 - (intOf s99).toNat)
     case atStart=>exact⟨0,Nat.zero_le _,rfl,World.ownsRow_nil _ _ _ _,Below.refl _ _,fun e he=>by cases he⟩
     case round=>
      obtain⟨j,hj,rfl,hO,hbel,hall⟩:=hrel;have Hall:=AA hall;clear hall;have hl6:=GK (k:=k) (a:=an) (j:=j);have S6:=AA (S5.out.below hbel);have HO:=AA hO;have Hbel:=AA hbel;obtain⟨a11,c11,rfl,_,_,_⟩:=hO.rd.open;rw[BO] at HO ⊢;clear hO hbel
      by_cases hlt:j<3
      ·obtain⟨ua,uc,D05,D15,R5⟩:=S5.out.env (j:=j) (by rw[HK.out.envl];exact hlt)
       have D0:=(Hbel.out.cell (World.block_lt_of_cell? _ _ D05)).trans D05;have D1:=(Hbel.out.cell (World.block_lt_of_cell? _ _ D15)).trans D15;have R:=A6.below R5 Hbel.out;have HR5:=AA R5;clear D05 D15 R5;have hbN:=AF wr (.cells #[.slice ua (AD k.envs j).rights.length uc, .int .i64 (AD k.envs j).root] 62);have NE:=heap_alloc_new wr (.cells #[.slice ua (AD k.envs j).rights.length uc, .int .i64 (AD k.envs j).root] 62);have S7:=AA (S6.out.below hbN);have hlt3:(j:Int)<3:=by omega
       obtain⟨y0,_,_,_,_,_,_⟩:=S7.out.ys;obtain⟨x0,x1,_,_⟩:=S7.out.xs;obtain⟨hlr,hgr,_,_⟩:=S7.out.lts;have hm12:=root_lt HK.out hlt;have RM:=BI.below S6.out.ink.2.2.rd.1 hbN;have RIn:BH _ _ k.infos:=S7.out.ink.2.2.2.1.rd;have R7:=A6.below R hbN;have HNE:=AA NE;have hqr:=Aq NE;have n0:=cell_of_row _ _ 0 _ _ _ NE;have n1:=cell_of_row _ _ 1 _ _ _ NE;have HbN:=AA hbN;clear hbN NE R;go_wp2_with fail;clear D0 D1;generalize wr.alloc _=W7 at*;obtain⟨qe,hqe⟩:∃q,q=wr.heap.size:=⟨_,rfl⟩
       rw[←hqe] at HNE hqr n0 n1 ⊢;have CX:=AA (fun W (hW:Below W7.heap.size W7 W)=>FX _ k.mem (AD k.envs j).root W (RM.below hW) (AT HK.out).1 hm12);have hG0:=HbN.out;cases hbu:(A5 k.mem (AD k.envs j).root).contains an
       ·have Hbu:Hid ((A5 k.mem (AD k.envs j).root).contains an=false):=AA hbu
        have HU:=AA (Mw hbu);clear hbu hqe;refine Am 10 188 [.p w.heap.size 0, .p g 0, .p g 0, .p g 0, .s gm 12 capm, .p qe 1, .i ((AD k.envs j).root), .z, .i ((an:Int)), .b false] (fun ix vv ww=>match ix with
         |7=>Cp wr.heap.size k.mem (AD k.envs j).root ww vv
         |_=>True) ?_ ?_ ?_
        ·intro i hi o ho a wx Hb Hd hG K HK
         have mc0:=bc hG hlr y0;have mc1:=bc hG hgr x0;have mc2:=bc hG hqr n1
         match i,hi with
         |0,_|2,_|3,_|5,_|8,_=>exact sP ho HK Hb Hd
         |1,_=>exact sL ho HK Hb Hd (hl:=GC (by assumption))
         |4,_=>exact sL ho HK Hb Hd (hl:=Ff (by assumption))
         |6,_=>exact sL ho HK Hb Hd (hl:=Fg (by assumption))
         |7,_=>exact sC ho HK Hb Hd (CX.out _ hG) (by rintro e w_ ⟨v',ts',rfl,hO,hmem,_,hb2⟩;exact⟨_,rfl,⟨ts',Bd hO (Nat.le_trans hG0.size hG.size),hmem⟩,hb2⟩)
         |9,_=>clear mc0 mc1 mc2;obtain rfl:=So_ ho;have d7:Cp wr.heap.size k.mem (AD k.envs j).root wx (a.tmps[111]?.getD undef):=Bx Hd 7;have d8:(a.tmps[112]?.getD undef)= .int .i64 an:=Bx Hd 8;clear Hd Hb;generalize e111:a.tmps[111]?.getD undef=v2 at d7;obtain⟨ts',hO,hmem⟩:=d7;have CC:=Ab (Eo v2 ts' (an:Int) wx (AE.rd hO));rw[Fx hmem,Hbu.out] at CC;refine Aa.of rfl ?_;go_simp;refine CC.mono ?_;rintro e w_ ⟨rfl,hb2⟩;exact HK.out _ _ rfl hb2
        ·intro i hi vv wz ww' hbz hz
         match i,hi with
         |7,_=>exact(Cp.below hz hbz)
         |0,_|1,_|2,_|3,_|4,_|5,_|6,_|8,_|9,_=>exact hz
        ·intro vs wx hR hG
         have q9:(vs 9)= .bool false:=BT hR 9;clear hR;simp only[Ai,AQ,List.range,List.range.loop,List.foldl_cons,List.foldl_nil,q9];simp;clear q9;have hbx:=hG0.trans (hG.mono hG0.size);have HOx:=AA (HO.out.below hbx);have Hbx:=AA (Hbel.out.trans (hbx.mono Hbel.out.size));clear hG hbx y0 x0 x1 n0 n1 hG0 RM RIn R7;go_wp2_with fail;go_roundw
         case rel=>exact⟨j+1,by omega,by go_num,by rw[HU.out];exact HOx.out,Hbx.out,by rw[HU.out];exact Hall.out⟩
         case measure=>simp[intOf];omega
       ·have Hbu:Hid ((A5 k.mem (AD k.envs j).root).contains an=true):=AA hbu
        have HU:=AA (LU hbu);have hju:j∈ET k an:=by rw[←EG];exact List.mem_filter.2 ⟨List.mem_range.2 hlt,hbu⟩
        clear hbu hqe;refine Am 10 188 [.p w.heap.size 0, .p g 0, .p g 0, .p g 0, .s gm 12 capm, .p qe 1, .i ((AD k.envs j).root), .z, .i ((an:Int)), .b true] (fun ix vv ww=>match ix with
         |7=>Cp wr.heap.size k.mem (AD k.envs j).root ww vv
         |_=>True) ?_ ?_ ?_
        ·intro i hi o ho a wx Hb Hd hG K HK
         have mc0:=bc hG hlr y0;have mc1:=bc hG hgr x0;have mc2:=bc hG hqr n1
         match i,hi with
         |0,_|2,_|3,_|5,_|8,_=>exact sP ho HK Hb Hd
         |1,_=>exact sL ho HK Hb Hd (hl:=GC (by assumption))
         |4,_=>exact sL ho HK Hb Hd (hl:=Ff (by assumption))
         |6,_=>exact sL ho HK Hb Hd (hl:=Fg (by assumption))
         |7,_=>exact sC ho HK Hb Hd (CX.out _ hG) (by rintro e w_ ⟨v',ts',rfl,hO,hmem,_,hb2⟩;exact⟨_,rfl,⟨ts',Bd hO (Nat.le_trans hG0.size hG.size),hmem⟩,hb2⟩)
         |9,_=>clear mc0 mc1 mc2;obtain rfl:=So_ ho;have d7:Cp wr.heap.size k.mem (AD k.envs j).root wx (a.tmps[111]?.getD undef):=Bx Hd 7;have d8:(a.tmps[112]?.getD undef)= .int .i64 an:=Bx Hd 8;clear Hd Hb;generalize e111:a.tmps[111]?.getD undef=v2 at d7;obtain⟨ts',hO,hmem⟩:=d7;have CC:=Ab (Eo v2 ts' (an:Int) wx (AE.rd hO));rw[Fx hmem,Hbu.out] at CC;refine Aa.of rfl ?_;go_simp;refine CC.mono ?_;rintro e w_ ⟨rfl,hb2⟩;exact HK.out _ _ rfl hb2
        ·intro i hi vv wz ww' hbz hz
         match i,hi with
         |7,_=>exact(Cp.below hz hbz)
         |0,_|1,_|2,_|3,_|4,_|5,_|6,_|8,_|9,_=>exact hz
        ·intro vs wx hR hG
         have q9:(vs 9)= .bool true:=BT hR 9;clear hR;simp only[Ai,AQ,List.range,List.range.loop,List.foldl_cons,List.foldl_nil,q9];simp;clear q9;have hbx:=hG0.trans (hG.mono hG0.size);have HOx:=HO.out.below hbx;have Hbx:=AA (Hbel.out.trans (hbx.mono Hbel.out.size));have b1:=AF wx (.cells #[.int .i64 j] 3);have O1:=AA (show(wx.alloc (.cells #[.int .i64 j] 3)).ownsRow W5.heap.size 3 1 (.slice a11 (Bm k an j).length c11) (Bm k an j).length ((Ah (Bm k an j)).map (Value.int .i64)) by have:=HOx.below b1;unfold AE at this;rwa [BO] at this);have L1:=AA (show Rd (wx.alloc (.cells #[.int .i64 j] 3)) (.slice (some ⟨wx.heap.size,0,none⟩) 1 1) 1 1 ((Ah [j]).map (Value.int .i64)) from AE.rd (IJ wx (j:Int)));have s5:=Hbx.out.size;have hnb:=AA (show ∀b,(Value.slice a11 (Bm k an j).length c11).ownBlock=some b→W5.heap.size≤b from fun b hb=>(World.ownsRow.lt HO.out b hb).1);have S8:=AA ((S7.out.below hG).below b1);have HNE8:=AA (AG (AG HNE.out hG) b1);have Rx:=AA (A6.below (A6.below R7 hG) b1);have hOa:=AA HOx;have HB8:=AA (Hbx.out.trans (b1.mono s5));clear hG hbx y0 x0 x1 n0 n1 hG0 RM RIn R7 HOx b1;go_wp2_with (at_builtin;go_must (refine DF (lo:=W5.heap.size) (v:= .slice a11 (Bm k an j).length c11) (n:=(Bm k an j).length) (xs:=(Ah (Bm k an j)).map (Value.int .i64)) (m:=1) (news:=(Ah [j]).map (Value.int .i64)) rfl rfl 3 (.int .i64 0) 1 8 underlying28 Tryz.infoInt rfl (by decide) rfl O1.out rfl L1.out IE (by unfold maxLen;omega) (by omega) (by simp;omega) ?_;intro o11 W9 k1_ k2_ k3_;have y0:=(Du (o:=0) k2_ S8.out.lts.1 (Bs O1.out S8.out.blk (by decide))).trans S8.out.ys.1;have n0:=(Du (o:=0) k2_ (Aq HNE8.out) (Bs O1.out HNE8.out (by decide))).trans (cell_of_row _ _ 0 _ _ _ HNE8.out)));have HB9:=AA (HB8.out.trans k3_);have S9:=AA (S5.out.below HB9.out);have O9:=AA (Iw (a:=Bm k an j) (b:=[j]) k1_);have CAl:=F0 g _ _ _ (AD k.envs j).rights ts k.infos W9 S9.out.xs.2.1 (A6.below HR5.out HB9.out) (A6.below S5.out.ink.2.2.2.1.rd HB9.out) (Ap.below (AE.rd N10.out) HB9.out) (fun g hg=>by rw[HK.out.len];exact Ht.out g hg);rw[ED Hm.out] at CAl;clear y0 n0 k1_ k2_ k3_ O1 L1;cases hal:At k.infos (DA k c1) (AD k.envs j).rights
         ·have Hal:=AA hal
          have E:=AA (show FY k ⟨k1,(en:Int),(an:Int),(bn:Int),c1,nm⟩=(k,0,1) by rw[HP2.out,if_pos (List.all_eq_false.2 ⟨j,hju,by rw[hal];decide⟩)]);rw[hal] at CAl;clear hal;refine CAl.mono ?_;rintro r w10 ⟨rfl,hb10⟩;go_wp2_with fail;go_ret;exact CJ.bad E.out (by decide) (S9.out.below hb10).bel
         ·have Hal:=AA hal
          rw[hal] at CAl;clear hal;refine CAl.mono ?_;rintro r w10 ⟨rfl,hb10⟩;have O10:=AA (O9.out.below hb10);have H10:=AA (HB9.out.trans (hb10.mono HB9.out.size));clear hb10;go_wp2_with fail;go_roundw
          case rel=>exact⟨j+1,by omega,by go_num,by rw[HU.out];exact O10.out,H10.out,fun e he=>by
           rw[HU.out,List.mem_append,List.mem_singleton] at he
           rcases he with he|rfl
           ·exact Hall.out e he
           ·exact Hal.out⟩
          case measure=>simp[intOf];omega
      ·obtain rfl:j=3:=by omega
       rw[EG] at HO Hall ⊢;obtain⟨us,hus⟩:∃us,us=ET k an:=⟨_,rfl⟩
       have husl:us.length≤3:=by rw[hus,←EG];exact GK
       rw[←hus] at HO Hall ⊢;have HP3:=AA (show FY k ⟨k1,(en:Int),(an:Int),(bn:Int),c1,nm⟩=_ by rw[HP2.out,if_neg (by rw[Bool.not_eq_false,List.all_eq_true,←hus];exact Hall.out)]);rw[←hus] at HP3;clear hus hl6;obtain⟨W6,rfl⟩:∃W6:World,W6=wr:=⟨_,rfl⟩
       go_wp2_with fail;have CM:=Io (w1:=W6) (fun W hW=>KV (S6.out.below hW).ink ⟨k1,(en:Int),(an:Int),(bn:Int),c1,nm⟩ (infoAt k.infos f).g (by simp) (by rw[HK.out.envl];simp only;omega));simp only[AM.on,AM.onCells] at CM;obtain⟨y0,y1,y2,y3,y4,y5,y6⟩:=S6.out.ys;replace y0:=cell_regrown y0;replace y1:=cell_regrown y1;replace y2:=cell_regrown y2;replace y3:=cell_regrown y3;replace y4:=cell_regrown y4;replace y5:=cell_regrown y5;replace y6:=cell_regrown y6;have x1:=cell_regrown S6.out.xs.2.1;have dg:=cell_regrown (S6.out.infoAt (f:=f) (by rw[HK.out.len];exact hf12)).2.1;cases hmy:Ej k (en:Int) (infoAt k.infos f).g
       ·have HMy:=AA hmy
        have E:=AA (show FY k ⟨k1,(en:Int),(an:Int),(bn:Int),c1,nm⟩=(k,0,1) by rw[HP3.out,if_pos ⟨Hent.out,by rw[HF.out];exact hmy⟩]);rw[hmy] at CM;clear hmy;refine wp_region_quiet_below mixed (by kernel_rfl) ?_
        repeat(go_big_quiet_step (exact CM _ _))
        refine wpQuiet_nil ?_;intro _ hw';obtain⟨⟨dq,osq⟩,hw''⟩:=hw';subst hw'';have bq:=below_regrown W6 dq osq;generalize Sort.grow (redrawn W6 dq) osq=wq at bq;clear y0 y1 y2 y3 y4 y5 y6 x1 dg;go_wp2_with fail;go_ret;exact CJ.bad E.out (by decide) (S6.out.below bq).bel
       have HMy:=AA hmy;rw[hmy] at CM;clear hmy;have HP4:=AA (show FY k ⟨k1,(en:Int),(an:Int),(bn:Int),c1,nm⟩=_ by rw[HP3.out,if_neg (by rintro⟨_,x⟩;rw[HF.out,HMy.out] at x;cases x)]);refine wp_region_quiet_below mixed (by kernel_rfl) ?_
       repeat(go_big_quiet_step (exact CM _ _))
       refine wpQuiet_nil ?_;intro _ hw';obtain⟨⟨dq,osq⟩,hw''⟩:=hw';subst hw'';have bq:=below_regrown W6 dq osq;generalize Sort.grow (redrawn W6 dq) osq=wq at bq;clear y0 y1 y2 y3 y4 y5 y6 x1 dg CM;have S7:=AA (S6.out.below bq);obtain⟨W7,rfl⟩:∃W7:World,W7=wq:=⟨_,rfl⟩
       have HO7:=AA (HO.out.below bq);have hs5:=Nat.le_trans Hbel.out.size bq.size;obtain⟨y0,y1,y2,y3,y4,y5,y6⟩:=S7.out.ys;obtain⟨x0,_,_,_⟩:=S7.out.xs;obtain⟨gw,capw,Dw,hgw,hcw,Dj,fzw,⟨⟨ngw1,ngw2⟩,ngw3,ngw4⟩,_,hT,SW⟩:=S7.out.mrow (AT HK.out).1 (f:=an) han;have Dv:=Dj bn hb4;have fz:=fzw bn;have S8:=AA (SW bn c1 hb4);have hb4i:(bn:Int)<4:=by omega
       have how:=AA (HK.out.word (f:=an) (i:=bn) han hb4);have hgw5:gw<W5.heap.size:=by obtain⟨gw',capw',Dw',hgw',_⟩:=S5.out.mrow (AT HK.out).1 (f:=an) han;have:=((Hbel.out.trans (bq.mono Hbel.out.size)).cell (World.block_lt_of_cell? _ _ Dw')).trans Dw';rw[Dw] at this;simp at this;rw[this.1];exact hgw'
       have HO8:=AA (show AE W5.heap.size (W7.setCell ⟨gw,bn,none⟩ (.int .i64 c1)) (.slice a11 us.length c11) (Ah us) from An HO7.out (Aj _ _ _ _) (by
        rcases hv:(Value.slice a11 us.length c11).ownBlock with _|b
        ·exact .inl rfl
        ·refine .inr fun e=>?_
         cases e;have:=(World.ownsRow.lt HO7.out gw hv).1;omega))
       clear bq Dj fzw SW hT;go_wp2_with fail;clear y0 y1 y2 y3 y4 y5 y6 x0 Dw Dv fz;generalize W7.setCell _ _=W8 at*;have CR:=S8.out.refer (Ar k.mem an bn) (-1) (by have:=how.out.2;omega) HK.out.len (.inr rfl) ((Gx (AT HK.out).2.1).mono (by decide));simp only[AM.on,AM.onCells] at CR;refine CR.mono ?_;rintro r w9 ⟨rfl,S9,hg9⟩;have S9:=AA S9;have hgi5:=S5.out.gi_lt;have HO9:=AA (show AE W5.heap.size w9 (.slice a11 us.length c11) (Ah us) from An HO8.out hg9 (by
        rcases hv:(Value.slice a11 us.length c11).ownBlock with _|b
        ·exact .inl rfl
        ·refine .inr fun e=>?_
         cases e;have:=(World.ownsRow.lt HO8.out gi hv).1;omega))
       clear hg9 CR;obtain⟨y0,y1,y2,y3,y4,y5,y6⟩:=S9.out.ys;go_wp2_with fail;clear y0 y1 y2 y3 y4 y5 y6;have CR:=S9.out.refer c1 1 hcc (by simp only[Cj];exact HK.out.len) (.inl rfl) (Fn.mono (Fn.refer (Gx (AT HK.out).2.1) HK.out.len (.inr rfl)) (by decide));simp only[AM.on,AM.onCells] at CR;refine CR.mono ?_;rintro r w10 ⟨rfl,S10,hg10⟩;have S10:=AA S10;have HO10:=AA (show AE W5.heap.size w10 (.slice a11 us.length c11) (Ah us) from An HO9.out hg10 (by
        rcases hv:(Value.slice a11 us.length c11).ownBlock with _|b
        ·exact .inl rfl
        ·refine .inr fun e=>?_
         cases e;have:=(World.ownsRow.lt HO9.out gi hv).1;omega))
       have hg5:=S5.out.lts.2.1;clear hg10 CR;go_wp2_with fail;go_loopw [172] (fun s172 wr=>∃j:Nat,j≤us.length∧s172= .int .i64 j∧AE W5.heap.size wr (.slice a11 us.length c11) (Ah us)∧∃c',CS lo g w.heap.size ⟨k1,(en:Int),(an:Int),(bn:Int),c1,nm⟩ w wr (.slice (some ⟨gm,0,none⟩) 12 capm) (.slice (some ⟨gi,0,none⟩) 12 capi) (.slice (some ⟨ge,0,none⟩) 3 cap) c' {k with mem:=CZ k.mem an bn c1,infos:=Aw (Aw k.infos (Ar k.mem an bn) (-1)) c1 1,cache:=Ed (us.take j) k.cache}) (fun s172 _=>us.length - (intOf s172).toNat)
       case atStart=>exact⟨0,Nat.zero_le _,rfl,HO10.out,c,S10.out⟩
       case round=>
        obtain⟨j,hj,rfl,hO,c',hS⟩:=hrel;have HOr:=AA hO;have S:=AA hS;clear hS
        by_cases hlt:j<us.length
        ·obtain⟨ax,cx,hvx,_,_,H0⟩:=hO.rd.open
         rw[BO] at hvx;simp only[Value.slice.injEq] at hvx;obtain⟨rfl,_,rfl⟩:=hvx;obtain⟨bx,offx,rfl,DX⟩:=H0.at (k:=j) (by rw[BO];exact hlt);rw[KX hlt] at DX;obtain⟨un,hun⟩:∃u,u=us.getD j 0:=⟨_,rfl⟩
         rw[←hun] at DX;have HUN:=AA hun;obtain⟨cc,hcc'⟩:∃cc,cc=Ed (us.take j) k.cache:=⟨_,rfl⟩
         have HCC:=AA hcc';clear hun;have hjl:(j:Int)<us.length:=by omega
         obtain⟨y0,_,_,_,_,_,_⟩:=S.out.ys;obtain⟨_,_,_,x3⟩:=S.out.xs;obtain⟨hlr,hgr,ngb,nbg⟩:=S.out.lts;have RC:Bh wr c' cc:=by rw[hcc'];exact S.out.ink.2.2.2.2.2.rd
         clear hcc';have CD:=AA (fun W (hW:Below wr.heap.size wr W)=>Ea c' cc (un:Int) W (A6.below RC hW) (by rw[HCC.out];exact Kz _ (AT HK.out).2.2));clear RC H0 hO;go_wp2_with fail;clear DX;refine Am 11 188 [.p w.heap.size 0, .p g 0, .p w.heap.size 0, .p g 0, .p g 0, .p g 3, .v c', .i ((un:Int)), .z, .p g 0, .p g 3] (fun ix vv ww=>match ix with
          |8=>AC wr.heap.size 95 4 AJ ww vv (Cg cc (un:Int))
          |_=>True) ?_ ?_ ?_
         ·intro i hi o ho a wx Hb Hd hG K HK
          have mc0:=bc hG hlr y0;have mc1:=bc hG hgr x3
          match i,hi with
          |0,_|2,_|4,_|5,_|7,_|9,_|10,_=>exact sP ho HK Hb Hd
          |1,_|3,_=>exact sL ho HK Hb Hd (hl:=GC (by assumption))
          |6,_=>exact sL ho HK Hb Hd (hl:=K6 (by assumption))
          |8,_=>exact sC ho HK Hb Hd (CD.out _ hG) (by rintro e w_ ⟨v',rfl,hO,hb2⟩;exact⟨_,rfl,(hO.lower hG.size),hb2⟩)
         ·intro i hi vv wz ww' hbz hz
          match i,hi with
          |8,_=>exact(AC.below hz hbz)
          |0,_|1,_|2,_|3,_|4,_|5,_|6,_|7,_|9,_|10,_=>exact hz
         ·intro vs wx hR hG
          have q1:(vs 1)= .pointer (some ⟨g,0,none⟩):=BT hR 1;have q8:AC wr.heap.size 95 4 AJ wx (vs 8) (Cg cc (un:Int)):=BT hR 8;have q9:(vs 9)= .pointer (some ⟨g,0,none⟩):=BT hR 9;have q10:(vs 10)= .pointer (some ⟨g,3,none⟩):=BT hR 10;clear hR;simp only[Ai,AQ,List.range,List.range.loop,List.foldl_cons,List.foldl_nil,q1,q9,q10];simp;generalize vs 8=z8 at q8 ⊢;clear q1 q9 q10;rw[HCC.out,HUN.out,←Iy hlt] at q8;have S8:=AA (S.out.cache hG q8);have HOn:=AA (JV (j:=3) (u:=z8) (AE.below HOr.out hG) hg5);have fzg:=AI (S.out.below hG).ink.1;have x3w:=(S.out.below hG).xs.2.2.2;obtain⟨_,_,rfl,_,_⟩:=q8.rd.shape;clear q8 hG y0 x3;go_wp2_with fail;go_roundw
          case rel=>exact⟨j+1,by omega,by go_num,HOn.out,_,S8.out⟩
          case measure=>simp[intOf];omega
        ·obtain rfl:j=us.length:=by omega
         rw[List.take_length] at S;have HE:=AA (show FY k ⟨k1,(en:Int),(an:Int),(bn:Int),c1,nm⟩=({k with mem:=CZ k.mem an bn c1,infos:=Aw (Aw k.infos (Ar k.mem an bn) (-1)) c1 1,cache:=Ed us k.cache},0,0) from HP4.out);go_wp2_with fail;go_ret;exact⟨by rw[HE.out]<;>rfl,fun _=>⟨_,_,_,_,by rw[HE.out];exact S.out.ink⟩,S.out.bel⟩
    ·have t2:((infoAt k.infos f).k !=(infoAt k.infos an).k - 1)=true:=by simp[h0]
     have E:=AA (show FY k ⟨k1,(en:Int),(an:Int),b1,c1,nm⟩=(k,0,3) by rw[HP.out,if_pos (.inr (.inr (by rw[hwf];exact decide_eq_false h0)))]);refine wp_region_quiet_below mixed (by kernel_rfl) ?_
     repeat(go_big_quiet_step (first|exact cT _ _|exact cP _ _|exact cN _ _))
     refine wpQuiet_nil ?_;intro _ hw';obtain⟨⟨dq,osq⟩,hw''⟩:=hw';subst hw'';have bq:=below_regrown W2 dq osq;generalize Sort.grow (redrawn W2 dq) osq=wq at bq;go_wp2_with fail;go_ret;exact CJ.bad E.out (by decide) (S2.out.below bq).bel
def Ci (k:AH) (c:AM):Kk:=
 if c.k=2 then KO k c
 else if c.k=3 then Ka k c
 else if c.k=4 then DG k (Et k.mem k.infos c.a.toNat c.b (AD k.envs c.e.toNat).rights)
 else if c.k=5 then DG k (Cq k.mem k.infos c.a.toNat)
 else FY k c
theorem Mk {n:Int} (h:n≠0):GZ n≠0:=by
 unfold GZ;rw[if_neg h]
 split<;>decide
theorem Gk {lo g:Nat} {w:World} {m i e c:Value} {k:AH} (h:G2 lo w g m i e c k) (hlo:lo≤w.heap.size) (hK:DV k) (call:AM) (he:0≤call.e) (hn:call.e<3) (hk:2≤call.k∧call.k≤6) (ha:0≤call.a∧call.a<12) (hk4:call.k=4→Bg call.b=true) (hcc:call.c≤9223372036854775807):
 Calls prog 83 #[call.on g] w (CJ lo g w (Ci k call)):=by
 have S0:=DW.start h hlo call;have P:Ci k call=if call.k=2 then KO k call else if call.k=3 then Ka k call else if call.k=4 then DG k (Et k.mem k.infos call.a.toNat call.b (AD k.envs call.e.toNat).rights) else if call.k=5 then DG k (Cq k.mem k.infos call.a.toNat) else FY k call:=rfl
 have CS6:=fun(W:World) (hW:Below (w.alloc (.cells (call.onCells g) 87)).heap.size (w.alloc (.cells (call.onCells g) 87)) W)=>Ue (S0.below hW).ink (S0.below hW).lo hK call he hn ha hcc
 obtain⟨k1,e1,a1,b1,c1,nm⟩:=call;obtain⟨en,rfl⟩:∃n:Nat,e1=(n:Int):=⟨e1.toNat,by simp only at he;omega⟩
 obtain⟨an,rfl⟩:∃n:Nat,a1=(n:Int):=⟨a1.toNat,by simp only at ha;omega⟩
 have hen:en<3:=by simp only at hn;omega
 have han:an<12:=by simp only at ha;omega
 simp only[AM.on,AM.onCells] at S0 P hk hk4 CS6 ⊢;simp only[Int.toNat_natCast] at P;obtain⟨ge,cap,e9,_,⟨⟨nge1,nge2⟩,nge3,nge4⟩,_⟩:=S0.envs (by rw[hK.envl];omega);rw[hK.envl] at e9;obtain⟨gi,capi,e8,_,_,⟨⟨ngi1,ngi2⟩,ngi3,ngi4⟩,_⟩:=S0.infos (by rw[hK.len];omega);rw[hK.len] at e8;obtain⟨gm,capm,e7,_,⟨ngm1,ngm2⟩,ngm3,ngm4⟩:=S0.mems (AT hK).1;subst e7 e8 e9;obtain⟨y0,y1,y2,y3,y4,y5,y6⟩:=S0.ys;obtain⟨x0,x1,x2,x3⟩:=S0.xs;obtain⟨d0,d1,d2⟩:=S0.infoAt (f:=an) (by rw[hK.len];exact han);have hani:(an:Int)<12:=by omega
 obtain⟨hl2,hgl2,ngb,nbg⟩:=S0.lts;have HK:=AA hK;have HS:=AA S0;clear hK h S0 hlo he hn;obtain⟨kk1,kk2⟩:=hk;have k5:k1=2∨k1=3∨k1=4∨k1=5∨k1=6:=by omega
 clear kk1 kk2
 rcases k5 with rfl|rfl|rfl|rfl|rfl
 ·have HP:=AA (show Ci k ⟨2,(en:Int),(an:Int),b1,c1,nm⟩=KO k ⟨2,(en:Int),(an:Int),b1,c1,nm⟩ from P)
  have HG:=AA (show KO k ⟨2,(en:Int),(an:Int),b1,c1,nm⟩=if(infoAt k.infos an).k≠1 then(k,0,3) else if(infoAt k.infos an).r≠0 then(k,0,2) else({k with infos:=k.infos.set an AL.zero},0,0) from rfl);clear P CS6
  by_cases h1:(infoAt k.infos an).k=1
  ·have t1:((infoAt k.infos an).k==1)=true:=by simp[h1]
   by_cases h2:(infoAt k.infos an).r=0
   ·have E:=AA (show Ci k ⟨2,(en:Int),(an:Int),b1,c1,nm⟩=({k with infos:=k.infos.set an AL.zero},0,0) by rw[HP.out,HG.out,if_neg (by simp[h1]),if_neg (by simp[h2])])
    have H1:=AA h1;have H2:=AA h2;clear h1 h2;go_in;go_wp2_with fail;generalize w.alloc _=W0 at*;have CG:=AA (NA _ k.infos an W0 HS.out.ink.2.2.2.1.rd (AT HK.out).2.1 han H1.out H2.out);refine CG.out.mono ?_;rintro r w1 ⟨v',rfl,hO,hb⟩;have S2:=AA (HS.out.newInfos hb hO);have fz:=AI (HS.out.below hb).ink.1;have x1:=(HS.out.below hb).xs.2.1;have y0:=(HS.out.below hb).ys.1;obtain⟨_,_,rfl,_,_⟩:=hO.rd.shape;rw[List.length_set] at S2;clear hO hb;go_wp2_with fail;go_ret;exact⟨by rw[E.out]<;>rfl,fun _=>⟨_,_,_,_,by rw[E.out];exact S2.out.ink⟩,S2.out.bel⟩
   ·have E:=AA (show Ci k ⟨2,(en:Int),(an:Int),b1,c1,nm⟩=(k,0,2) by rw[HP.out,HG.out,if_neg (by simp[h1]),if_pos h2])
    have H1:=AA h1;have H2:=AA h2;clear h1 h2;go_in;go_wp2_with fail;generalize w.alloc _=W0 at*;have CG:=AA (OV _ k.infos an W0 HS.out.ink.2.2.2.1.rd (AT HK.out).2.1 han H1.out H2.out);refine CG.out.mono ?_;rintro r w1 ⟨rfl,hb⟩;have S2:=AA (HS.out.below hb);go_wp2_with fail;go_ret;exact CJ.bad E.out (by decide) S2.out.bel
  ·have t1:((infoAt k.infos an).k==1)=false:=by simp[h1]
   have E:=AA (show Ci k ⟨2,(en:Int),(an:Int),b1,c1,nm⟩=(k,0,3) by rw[HP.out,HG.out,if_pos h1]);clear h1;go_in;go_wp2_with fail;go_ret;exact CJ.bad E.out (by decide) HS.out.bel
 ·have HP:=AA (show Ci k ⟨3,(en:Int),(an:Int),b1,c1,nm⟩=Ka k ⟨3,(en:Int),(an:Int),b1,c1,nm⟩ from P)
  have HG:=AA (show Ka k ⟨3,(en:Int),(an:Int),b1,c1,nm⟩=if(infoAt k.infos an).k≠1∨Bv b1 0 3=false∨Ee c1=false then(k,0,3) else({k with mem:=CZ k.mem an b1.toNat c1},0,0) from rfl);clear P CS6;have C0:=AA (fun W=>Ab (LK b1 W));have C1:=AA (fun W=>Ab (J1 c1 W))
  by_cases h1:(infoAt k.infos an).k=1
  ·have t1:((infoAt k.infos an).k==1)=true:=by simp[h1]
   have H1:=AA h1;clear h1;go_in;go_wp2_with fail;generalize w.alloc _=W0 at*;cases h2:Bv b1 0 3
   ·have E:=AA (show Ci k ⟨3,(en:Int),(an:Int),b1,c1,nm⟩=(k,0,3) by rw[HP.out,HG.out,if_pos (.inr (.inl h2))])
    have T:=AA h2;clear h2;refine(C0.out _).mono ?_;rintro r w1 ⟨rfl,hb⟩;rw[T.out];have S2:=AA (HS.out.below hb);clear y0 y1 y2 y3 y4 y5 y6 x0 x1 x2 x3 d0 d1 d2;go_wp2_with fail;go_ret;exact CJ.bad E.out (by decide) S2.out.bel
   ·have T:=AA h2
    have hbb:=Ac.1 h2;obtain⟨bn,rfl⟩:∃n:Nat,b1=(n:Int):=⟨b1.toNat,by omega⟩
    have hb4:bn<4:=by omega
    clear h2 hbb;refine(C0.out _).mono ?_;rintro r W1 ⟨rfl,hb⟩;rw[T.out];have S1:=AA (HS.out.below hb);clear y0 y1 y2 y3 y4 y5 y6 x0 x1 x2 x3 d0 d1 d2 hb;obtain⟨y0,y1,y2,y3,y4,y5,y6⟩:=S1.out.ys;go_wp2_with fail;cases h3:Bv c1 0 9999
    ·have E:=AA (show Ci k ⟨3,(en:Int),(an:Int),(bn:Int),c1,nm⟩=(k,0,3) by rw[HP.out,HG.out,if_pos (.inr (.inr h3))])
     have T3:=AA h3;clear h3;refine(C1.out _).mono ?_;rintro r w1 ⟨rfl,hb⟩;rw[T3.out];have S2:=AA (S1.out.below hb);clear y0 y1 y2 y3 y4 y5 y6;go_wp2_with fail;go_ret;exact CJ.bad E.out (by decide) S2.out.bel
    ·have T3:=AA h3
     have E:=AA (show Ci k ⟨3,(en:Int),(an:Int),(bn:Int),c1,nm⟩=({k with mem:=CZ k.mem an bn c1},0,0) by rw[HP.out,HG.out,if_neg (by rintro(x|x|x);(· exact x H1.out);(· rw[T.out] at x;cases x);(· rw[show Ee c1=true from h3] at x;cases x)),Int.toNat_natCast]);clear h3;refine(C1.out _).mono ?_;rintro r W2 ⟨rfl,hb⟩;rw[T3.out];have S2:=AA (S1.out.below hb);clear y0 y1 y2 y3 y4 y5 y6 hb;obtain⟨y0,_,_,_,y4,y5,_⟩:=S2.out.ys;obtain⟨x0,_,_,_⟩:=S2.out.xs;obtain⟨hl2,hgl2,_,_⟩:=S2.out.lts;obtain⟨gw,capw,Dw,hgw,hcw,Dj,fzw,⟨⟨ngw1,ngw2⟩,ngw3,ngw4⟩,_,_,_⟩:=S2.out.mrow (AT HK.out).1 (f:=an) han;have hgm2:=World.block_lt_of_cell? _ _ Dw;have hb4i:(bn:Int)<4:=by omega
     clear Dj fzw;go_wp2_with fail;refine Al 15 139 [.p w.heap.size 0, .p g 0, .p g 0, .p g 0, .s gm 12 capm, .i ((an:Int)), .p gm an, .s gw 4 capw, .p w.heap.size 1, .p w.heap.size 4, .i ((bn:Int)), .p w.heap.size 1, .p w.heap.size 5, .i c1, .p gw bn] (fun _ _ _=>True) ?_ ?_
     ·intro i hi o ho a wx Hb Hd hG K HK
      have mc0:=bc hG hl2 y0;have mc1:=bc hG hgl2 x0;have mc2:=bc hG hgm2 Dw;have mc3:=bc hG hl2 y4;have mc4:=bc hG hl2 y5
      match i,hi with
      |0,_|2,_|3,_|5,_|8,_|9,_|11,_|12,_=>exact sP ho HK Hb Hd
      |1,_=>exact sL ho HK Hb Hd (hl:=GC (by assumption))
      |4,_=>exact sL ho HK Hb Hd (hl:=Ff (by assumption))
      |6,_|14,_=>exact sI ho HK Hb Hd (hr:=by clear Hd Hb HK;go_simp)
      |7,_=>exact sL ho HK Hb Hd (hl:=Ra (by assumption))
      |10,_|13,_=>exact sL ho HK Hb Hd (hl:=Fg (by assumption))
      |_+15,hq=>exact absurd hq (by omega)
     ·intro vs wx hR hG
      have q13:(vs 13)= .int .i64 c1:=BT hR 13;have q14:(vs 14)= .pointer (some ⟨gw,bn,none⟩):=BT hR 14;clear hR;simp only[Ai,AQ,List.range,List.range.loop,List.foldl_cons,List.foldl_nil,q13,q14];simp;clear q13 q14;have S3:=AA (S2.out.below hG);obtain⟨gw',capw',Dw',_,_,Dj,fzw,_,_,_,SW⟩:=S3.out.mrow (AT HK.out).1 (f:=an) han;have hsame:=(hG.cell (p:=⟨gm,an,none⟩) hgm2).trans Dw;rw[hsame] at Dw';have hgg:gw=gw':=by simp at Dw';exact Dw'.1
      subst hgg;have Dv:=Dj bn hb4;have fz:=fzw bn;have S4:=AA (SW bn c1 hb4);clear hG y0 y4 y5 x0 Dw Dw' hsame Dj fzw SW;go_wp2_with fail;go_ret;exact⟨by rw[E.out]<;>rfl,fun _=>⟨_,_,_,_,by rw[E.out];exact S4.out.ink⟩,S4.out.bel⟩
  ·have t1:((infoAt k.infos an).k==1)=false:=by simp[h1]
   have E:=AA (show Ci k ⟨3,(en:Int),(an:Int),b1,c1,nm⟩=(k,0,3) by rw[HP.out,HG.out,if_pos (.inl h1)]);clear h1;go_in;go_wp2_with fail;go_ret;exact CJ.bad E.out (by decide) HS.out.bel
 ·have hkt:=hk4 rfl
  have HP:=AA (show Ci k ⟨4,(en:Int),(an:Int),b1,c1,nm⟩=DG k (Et k.mem k.infos an b1 (AD k.envs en).rights) from P);obtain⟨xs,cd,hp⟩:∃xs cd,Et k.mem k.infos an b1 (AD k.envs en).rights=(xs,cd):=⟨_,_,rfl⟩
  have HPp:=AA hp;clear P CS6 hp
  by_cases h1:(infoAt k.infos an).k=1
  all_goals
   first
   |have t1:((infoAt k.infos an).k==1)=true:=by simp[h1]
   |have t1:((infoAt k.infos an).k==1)=false:=by simp[h1]
   clear h1;go_in;go_wp2_with fail;generalize w.alloc _=W2 at*;have hge:=HS.out.ge_lt;obtain⟨ua,uc,D0,D1,R⟩:=HS.out.env (j:=en) (by rw[HK.out.envl];exact hen);have CE:=AA (fun W (hW:Below W2.heap.size W2 W)=>HS.out.callEnv (en:=en) rfl hen W hW);simp only[AM.on,AM.onCells] at CE;have CT0:=fun W (hW:Below W2.heap.size W2 W)=>OZ _ _ _ k.mem k.infos an b1 (AD k.envs en).rights W (BI.below HS.out.ink.2.2.rd.1 hW) (AT HK.out).1 (A6.below HS.out.ink.2.2.2.1.rd hW) (AT HK.out).2.1 han hkt (A6.below R hW) (Fa (HK.out.rights en hen)) (HK.out.rights en hen)
   rw[HPp.out] at CT0;unfold Jv at CT0;simp only at CT0;have CT:=AA CT0;clear CT0 R D1;refine Am 24 139 [.p w.heap.size 0, .p g 0, .p g 0, .p g 0, .s gm 12 capm, .p w.heap.size 0, .p g 0, .p g 0, .p g 1, .s gi 12 capi, .i ((an:Int)), .p w.heap.size 1, .p w.heap.size 4, .i b1, .a #[.pointer (some ⟨g,0,none⟩), .int .i64 4, .int .i64 en, .int .i64 an, .int .i64 b1, .int .i64 c1, .string nm], .p ge (en*2), .p ge (en*2), .p ge (en*2), .v (.slice ua (AD k.envs en).rights.length uc), .z, .z, .z, .i cd, .z] (fun ix vv ww=>match ix with
    |19=>∃v',vv= .tuple #[v', .int .i64 cd]∧AC W2.heap.size 91 3 AX ww v' xs
    |20=>∃v',vv= .tuple #[v', .int .i64 cd]∧AC W2.heap.size 91 3 AX ww v' xs
    |21=>AC W2.heap.size 91 3 AX ww vv xs
    |23=>AC W2.heap.size 91 3 AX ww vv xs
    |_=>True) ?_ ?_ ?_
   ·intro i hi o ho a wx Hb Hd hG K HK
    have mc0:=bc hG hl2 y0;have mc1:=bc hG hgl2 x0;have mc2:=bc hG hgl2 x1;have mc3:=bc hG hl2 y4;have mc4:=bc hG hl2 y1;have mc5:=bc hG hl2 y2;have mc6:=bc hG hl2 y3;have mc7:=bc hG hl2 y5;have mc8:=bc hG hl2 y6;have mc9:=bc hG hge D0
    match i,hi with
    |0,_|2,_|3,_|5,_|7,_|8,_|10,_|11,_|12,_|16,_|17,_=>exact sP ho HK Hb Hd
    |1,_|6,_=>exact sL ho HK Hb Hd (hl:=GC (by assumption))
    |4,_=>exact sL ho HK Hb Hd (hl:=Ff (by assumption))
    |9,_=>exact sL ho HK Hb Hd (hl:=GX (by assumption))
    |13,_=>exact sL ho HK Hb Hd (hl:=Fg (by assumption))
    |14,_=>exact sL ho HK Hb Hd (hl:=Va (by assumption) (by assumption) (by assumption) (by assumption) (by assumption) (by assumption) (by assumption))
    |15,_=>exact sD ho HK Hb Hd (CE.out _ hG)
    |18,_=>exact sL ho HK Hb Hd (hl:=K7 (by assumption))
    |19,_=>exact sC ho HK Hb Hd (CT.out _ hG) (by rintro e w_ ⟨v',rfl,hO,hb2⟩;exact⟨_,rfl,⟨_,rfl,hO.lower hG.size⟩,hb2⟩)
    |20,_=>
     clear mc0 mc1 mc2 mc3 mc4 mc5 mc6 mc7 mc8 mc9;obtain rfl:=So_ ho;have d19:∃v',(a.tmps[105]?.getD undef)= .tuple #[v', .int .i64 cd]∧AC W2.heap.size 91 3 AX wx v' xs:=Bx Hd 19
     clear Hd Hb;obtain⟨v',d19,hO⟩:=d19;refine Aa.of rfl ?_;go_simp;exact HK.out _ _ ⟨_,rfl,hO⟩ (Below.refl _ _)
    |21,_=>
     clear mc0 mc1 mc2 mc3 mc4 mc5 mc6 mc7 mc8 mc9;obtain rfl:=So_ ho;have d20:∃v',(a.tmps[85]?.getD undef)= .tuple #[v', .int .i64 cd]∧AC W2.heap.size 91 3 AX wx v' xs:=Bx Hd 20
     clear Hd Hb;obtain⟨v',d20,hO⟩:=d20;refine Aa.of rfl ?_;go_simp;exact HK.out _ _ hO (Below.refl _ _)
    |22,_=>
     clear mc0 mc1 mc2 mc3 mc4 mc5 mc6 mc7 mc8 mc9;obtain rfl:=So_ ho;have d20:∃v',(a.tmps[85]?.getD undef)= .tuple #[v', .int .i64 cd]∧AC W2.heap.size 91 3 AX wx v' xs:=Bx Hd 20
     clear Hd Hb;obtain⟨v',d20,hO⟩:=d20;refine Aa.of rfl ?_;go_simp;exact HK.out _ _ rfl (Below.refl _ _)
    |23,_=>clear mc0 mc1 mc2 mc3 mc4 mc5 mc6 mc7 mc8 mc9;obtain rfl:=So_ ho;have d21:AC W2.heap.size 91 3 AX wx (a.tmps[106]?.getD undef) xs:=Bx Hd 21;clear Hd Hb;refine Aa.of rfl ?_;go_simp;exact HK.out _ _ d21 (Below.refl _ _)
    |_+24,hq=>exact absurd hq (by omega)
   ·intro i hi vv wz ww' hbz hz
    match i,hi with
    |19,_=>exact(by obtain⟨v',h0,h1⟩:=hz;exact⟨v',h0,AC.below h1 hbz⟩)
    |20,_=>exact(by obtain⟨v',h0,h1⟩:=hz;exact⟨v',h0,AC.below h1 hbz⟩)
    |21,_=>exact(AC.below hz hbz)
    |23,_=>exact(AC.below hz hbz)
    |0,_|1,_|2,_|3,_|4,_|5,_|6,_|7,_|8,_|9,_|10,_|11,_|12,_|13,_|14,_|15,_|16,_|17,_|18,_|22,_=>exact hz
    |_+24,hq=>exact absurd hq (by omega)
   ·intro vs wx hR hG
    have q22:(vs 22)= .int .i64 cd:=BT hR 22;have q23:AC W2.heap.size 91 3 AX wx (vs 23) xs:=BT hR 23;clear hR;simp only[Ai,AQ,List.range,List.range.loop,List.foldl_cons,List.foldl_nil,q22];simp;generalize vs 23=z23 at q23 ⊢;clear q22;have S3:=AA (HS.out.newInfos hG q23);have fzg:=AI (HS.out.below hG).ink.1;have x1w:=(HS.out.below hG).xs.2.1;have y0w:=(HS.out.below hG).ys.1;have CC:=AA (fun W=>LQ cd W);obtain⟨_,_,rfl,_,_⟩:=q23.rd.shape;clear q23 hG y0 y1 y2 y3 y4 y5 y6 x0 x1 x2 x3 d0 d1 d2 D0;go_wp2_with fail;refine(CC.out _).mono ?_;rintro r w9 ⟨rfl,rfl⟩;go_wp2_with fail;go_ret
    by_cases h0:cd=0
    ·subst h0
     have E:Ci k ⟨4,(en:Int),(an:Int),b1,c1,nm⟩=({k with infos:=xs},0,0):=by rw[HP.out,HPp.out];rfl
     exact⟨by rw[E]<;>rfl,fun _=>⟨_,_,_,_,by rw[E];exact S3.out.ink⟩,S3.out.bel⟩
    ·have E:Ci k ⟨4,(en:Int),(an:Int),b1,c1,nm⟩=(k,0,GZ cd):=by
      rw[HP.out,HPp.out];unfold DG;rw[if_neg h0]
     exact CJ.bad E (Mk h0) S3.out.bel
 ·have HP:=AA (show Ci k ⟨5,(en:Int),(an:Int),b1,c1,nm⟩=DG k (Cq k.mem k.infos an) from P)
  obtain⟨xs,cd,hp⟩:∃xs cd,Cq k.mem k.infos an=(xs,cd):=⟨_,_,rfl⟩
  have HPp:=AA hp;clear P CS6 hp
  by_cases h1:(infoAt k.infos an).k=1
  all_goals
   first
   |have t1:((infoAt k.infos an).k==1)=true:=by simp[h1]
   |have t1:((infoAt k.infos an).k==1)=false:=by simp[h1]
   clear h1;go_in;go_wp2_with fail;generalize w.alloc _=W2 at*;have hge:=HS.out.ge_lt;obtain⟨ua,uc,D0,D1,R⟩:=HS.out.env (j:=en) (by rw[HK.out.envl];exact hen);have CE:=AA (fun W (hW:Below W2.heap.size W2 W)=>HS.out.callEnv (en:=en) rfl hen W hW);simp only[AM.on,AM.onCells] at CE;have CT0:=fun W (hW:Below W2.heap.size W2 W)=>MA _ _ k.mem k.infos an W (BI.below HS.out.ink.2.2.rd.1 hW) (AT HK.out).1 (A6.below HS.out.ink.2.2.2.1.rd hW) (AT HK.out).2.1 han
   rw[HPp.out] at CT0;unfold Jv at CT0;simp only at CT0;have CT:=AA CT0;clear CT0 R D1;refine Am 16 139 [.p w.heap.size 0, .p g 0, .p g 0, .p g 0, .s gm 12 capm, .p w.heap.size 0, .p g 0, .p g 0, .p g 1, .s gi 12 capi, .i ((an:Int)), .z, .z, .z, .i cd, .z] (fun ix vv ww=>match ix with
    |11=>∃v',vv= .tuple #[v', .int .i64 cd]∧AC W2.heap.size 91 3 AX ww v' xs
    |12=>∃v',vv= .tuple #[v', .int .i64 cd]∧AC W2.heap.size 91 3 AX ww v' xs
    |13=>AC W2.heap.size 91 3 AX ww vv xs
    |15=>AC W2.heap.size 91 3 AX ww vv xs
    |_=>True) ?_ ?_ ?_
   ·intro i hi o ho a wx Hb Hd hG K HK
    have mc0:=bc hG hl2 y0;have mc1:=bc hG hgl2 x0;have mc2:=bc hG hgl2 x1
    match i,hi with
    |0,_|2,_|3,_|5,_|7,_|8,_|10,_=>exact sP ho HK Hb Hd
    |1,_|6,_=>exact sL ho HK Hb Hd (hl:=GC (by assumption))
    |4,_=>exact sL ho HK Hb Hd (hl:=Ff (by assumption))
    |9,_=>exact sL ho HK Hb Hd (hl:=GX (by assumption))
    |11,_=>exact sC ho HK Hb Hd (CT.out _ hG) (by rintro e w_ ⟨v',rfl,hO,hb2⟩;exact⟨_,rfl,⟨_,rfl,hO.lower hG.size⟩,hb2⟩)
    |12,_=>
     clear mc0 mc1 mc2;obtain rfl:=So_ ho;have d11:∃v',(a.tmps[129]?.getD undef)= .tuple #[v', .int .i64 cd]∧AC W2.heap.size 91 3 AX wx v' xs:=Bx Hd 11
     clear Hd Hb;obtain⟨v',d11,hO⟩:=d11;refine Aa.of rfl ?_;go_simp;exact HK.out _ _ ⟨_,rfl,hO⟩ (Below.refl _ _)
    |13,_=>
     clear mc0 mc1 mc2;obtain rfl:=So_ ho;have d12:∃v',(a.tmps[117]?.getD undef)= .tuple #[v', .int .i64 cd]∧AC W2.heap.size 91 3 AX wx v' xs:=Bx Hd 12
     clear Hd Hb;obtain⟨v',d12,hO⟩:=d12;refine Aa.of rfl ?_;go_simp;exact HK.out _ _ hO (Below.refl _ _)
    |14,_=>
     clear mc0 mc1 mc2;obtain rfl:=So_ ho;have d12:∃v',(a.tmps[117]?.getD undef)= .tuple #[v', .int .i64 cd]∧AC W2.heap.size 91 3 AX wx v' xs:=Bx Hd 12
     clear Hd Hb;obtain⟨v',d12,hO⟩:=d12;refine Aa.of rfl ?_;go_simp;exact HK.out _ _ rfl (Below.refl _ _)
    |15,_=>clear mc0 mc1 mc2;obtain rfl:=So_ ho;have d13:AC W2.heap.size 91 3 AX wx (a.tmps[130]?.getD undef) xs:=Bx Hd 13;clear Hd Hb;refine Aa.of rfl ?_;go_simp;exact HK.out _ _ d13 (Below.refl _ _)
    |_+16,hq=>exact absurd hq (by omega)
   ·intro i hi vv wz ww' hbz hz
    match i,hi with
    |11,_=>exact(by obtain⟨v',h0,h1⟩:=hz;exact⟨v',h0,AC.below h1 hbz⟩)
    |12,_=>exact(by obtain⟨v',h0,h1⟩:=hz;exact⟨v',h0,AC.below h1 hbz⟩)
    |13,_=>exact(AC.below hz hbz)
    |15,_=>exact(AC.below hz hbz)
    |0,_|1,_|2,_|3,_|4,_|5,_|6,_|7,_|8,_|9,_|10,_|14,_=>exact hz
    |_+16,hq=>exact absurd hq (by omega)
   ·intro vs wx hR hG
    have q14:(vs 14)= .int .i64 cd:=BT hR 14;have q15:AC W2.heap.size 91 3 AX wx (vs 15) xs:=BT hR 15;clear hR;simp only[Ai,AQ,List.range,List.range.loop,List.foldl_cons,List.foldl_nil,q14];simp;generalize vs 15=z15 at q15 ⊢;clear q14;have S3:=AA (HS.out.newInfos hG q15);have fzg:=AI (HS.out.below hG).ink.1;have x1w:=(HS.out.below hG).xs.2.1;have y0w:=(HS.out.below hG).ys.1;have CC:=AA (fun W=>LQ cd W);obtain⟨_,_,rfl,_,_⟩:=q15.rd.shape;clear q15 hG y0 y1 y2 y3 y4 y5 y6 x0 x1 x2 x3 d0 d1 d2 D0;go_wp2_with fail;refine(CC.out _).mono ?_;rintro r w9 ⟨rfl,rfl⟩;go_wp2_with fail;go_ret
    by_cases h0:cd=0
    ·subst h0
     have E:Ci k ⟨5,(en:Int),(an:Int),b1,c1,nm⟩=({k with infos:=xs},0,0):=by rw[HP.out,HPp.out];rfl
     exact⟨by rw[E]<;>rfl,fun _=>⟨_,_,_,_,by rw[E];exact S3.out.ink⟩,S3.out.bel⟩
    ·have E:Ci k ⟨5,(en:Int),(an:Int),b1,c1,nm⟩=(k,0,GZ cd):=by
      rw[HP.out,HPp.out];unfold DG;rw[if_neg h0]
     exact CJ.bad E (Mk h0) S3.out.bel
 ·have HP:=AA (show Ci k ⟨6,(en:Int),(an:Int),b1,c1,nm⟩=FY k ⟨6,(en:Int),(an:Int),b1,c1,nm⟩ from P)
  have HC6:=AA CS6;clear P CS6 d1 d2
  by_cases h1:(infoAt k.infos an).k=1
  all_goals
   first
   |have t1:((infoAt k.infos an).k==1)=true:=by simp[h1]
   |have t1:((infoAt k.infos an).k==1)=false:=by simp[h1]
   clear h1;go_in;go_wp2_with fail;generalize w.alloc _=W0 at*;refine(HC6.out W0 (Below.refl _ _)).mono ?_;rintro r w1 ⟨rfl,hK6,hb⟩;go_wp2_with fail;go_ret;exact⟨by rw[HP.out]<;>rfl,fun h=>by rw[HP.out] at h ⊢;exact hK6 h,(HS.out.bel).trans hb⟩
theorem TX {k:AH} {c:AM}:(Fi k c).2.1=0:=by
 unfold Fi
 split
 ·rfl
 ·split<;>rfl
theorem RJ {k:AH} {c:AM}:(EL k c).2.1=0:=by
 unfold EL
 split
 ·rfl
 ·split
  ·rfl
  ·split<;>rfl
theorem QZ {k:AH} {c:AM}:(DL k c).2.1=0:=by
 unfold DL
 split
 ·rfl
 ·split
  ·rfl
  ·split<;>rfl
theorem Uf {k:AH} {c:AM}:(FY k c).2.1=0:=by
 unfold FY
 split
 ·rfl
 ·split
  ·rfl
  ·split<;>rfl
theorem LR {k:AH} {r:List AL×Int}:(DG k r).2.1=0:=by
 unfold DG
 split<;>rfl
theorem Gm {k:AH} {c:AM}:(Ci k c).2.1=0:=by
 unfold Ci
 split
 ·unfold KO
  split
  ·rfl
  ·split<;>rfl
 ·split
  ·unfold Ka
   split<;>rfl
  ·split
   ·exact LR
   ·split
    ·exact LR
    ·exact Uf
theorem CJ.two {lo g:Nat} {w W:World} {res:Kk} {r:Ending} {w':World} (h:CJ lo g W res r w') (hv:res.2.1=0) (hb:Below lo w W):∃n,r= .returned (.int .i64 n)∧Cr lo g w res (.returned (.tuple #[.int .i64 0, .int .i64 n])) w':=by obtain⟨h1,h2,h3⟩:=h;exact⟨_,h1,by rw[hv],h2,hb.trans h3⟩
theorem Cr.of {lo g:Nat} {w W:World} {res:Kk} {r:Ending} {w':World} (h:Cr lo g W res r w') (hb:Below lo w W):∃v n,r= .returned (.tuple #[.int .i64 v, .int .i64 n])∧Cr lo g w res (.returned (.tuple #[.int .i64 v, .int .i64 n])) w':=by obtain⟨h1,h2,h3⟩:=h;exact⟨_,_,h1,rfl,h2,hb.trans h3⟩
theorem Cw {k:AH} {c:AM}:FF k c=if Bv c.a 0 11=false∨(infoAt k.infos c.a.toNat).k=0∨(c.k=4∧Bg c.b=false) then(k,0,3) else if Ej k c.e (infoAt k.infos c.a.toNat).g=false then(k,0,1) else Ci k c:=rfl
theorem U3 {lo g:Nat} {w:World} {m i e c:Value} {k:AH} (h:G2 lo w g m i e c k) (hlo:lo≤w.heap.size) (hK:DV k) (call:AM) (he:0≤call.e) (hn:call.e<3) (hnm:call.nm.size≤maxLen) (hcc:call.c≤9223372036854775807):
 Calls prog 59 #[call.on g] w (Cr lo g w (AO k call)):=by
 have S0:=DW.start h hlo call;obtain⟨k1,e1,a1,b1,c1,nm⟩:=call;obtain⟨en,rfl⟩:∃n:Nat,e1=(n:Int):=⟨e1.toNat,by simp only at he;omega⟩
 have hen:en<3:=by simp only at hn;omega
 simp only[AM.on,AM.onCells] at S0 hnm hcc ⊢;obtain⟨ge,cap,e9,_,⟨⟨nge1,nge2⟩,nge3,nge4⟩,_⟩:=S0.envs (by rw[hK.envl];omega);rw[hK.envl] at e9;obtain⟨gi,capi,e8,_,_,⟨⟨ngi1,ngi2⟩,ngi3,ngi4⟩,_⟩:=S0.infos (by rw[hK.len];omega);rw[hK.len] at e8;obtain⟨gm,capm,e7,_,⟨ngm1,ngm2⟩,ngm3,ngm4⟩:=S0.mems (AT hK).1;subst e7 e8 e9;obtain⟨y0,y1,y2,y3,y4,y5,y6⟩:=S0.ys;obtain⟨x0,x1,x2,x3⟩:=S0.xs;have HK:=AA hK;have HS:=AA S0;clear hK h S0 hlo he hn
 by_cases k1e:k1=1
 ·subst k1e
  have HP:=AA (show AO k ⟨1,(en:Int),a1,b1,c1,nm⟩=IK k ⟨1,(en:Int),a1,b1,c1,nm⟩ from rfl);go_in;go_wp2_with fail;generalize w.alloc _=W0 at*;have C:=Td HS.out.ink HS.out.lo HK.out ⟨1,(en:Int),a1,b1,c1,nm⟩ (by simp) (by simp only;omega) hnm;simp only[AM.on,AM.onCells] at C;refine C.mono ?_;rintro r w1 hr;obtain⟨v,n,rfl,hE⟩:=Cr.of hr HS.out.bel;have HE:=AA hE;clear hr hE C y0 y1 y2 y3 y4 y5 y6 x0 x1 x2 x3;go_wp2_with fail;go_ret2;rw[HP.out];exact HE.out
 by_cases k2e:k1=2
 ·subst k2e
  have HP:=AA (show AO k ⟨2,(en:Int),a1,b1,c1,nm⟩=FF k ⟨2,(en:Int),a1,b1,c1,nm⟩ from rfl);cases hfr:Bv a1 0 11
  ·have E:=AA (show AO k ⟨2,(en:Int),a1,b1,c1,nm⟩=(k,0,3) by rw[HP.out,Cw,if_pos (.inl hfr)])
   go_in;go_wp2_with fail;generalize w.alloc _=W0 at*;have cF:=GU (w1:=W0) (fun W=>Bc a1 W);have cT:=GU (w1:=W0) (fun W=>CV b1 W);rw[hfr] at cF;replace y1:=cell_regrown y1;replace y3:=cell_regrown y3;clear y0 y2 y4 y5 y6 x0 x1 x2 x3 hfr;refine wp_region_quiet_below mixed (by kernel_rfl) ?_
   repeat(go_big_quiet_step (first|exact cF _ _|exact cT _ _))
   refine wpQuiet_nil ?_;intro _ hw';obtain⟨⟨dq,osq⟩,hw''⟩:=hw';subst hw'';have bq:=below_regrown W0 dq osq;generalize Sort.grow (redrawn W0 dq) osq=wq at bq;clear y1 y3;go_wp2_with fail;go_ret2;exact Cr.bad E.out (by decide) (HS.out.below bq).bel
  have T:=AA hfr;obtain⟨an,rfl⟩:∃n:Nat,a1=(n:Int):=⟨a1.toNat,by have:=(Ac.1 hfr).1;omega⟩
  have han:an<12:=by have:=(Ac.1 hfr).2;omega
  have hai:(an:Int)<12:=by omega
  clear hfr;go_in;go_wp2_with fail;generalize w.alloc _=W0 at*;obtain⟨d0,d1,_⟩:=HS.out.infoAt (f:=an) (by rw[HK.out.len];exact han);have cF:=GU (w1:=W0) (fun W=>Bc (an:Int) W);have cT:=GU (w1:=W0) (fun W=>CV b1 W);rw[T.out] at cF;replace y0:=cell_regrown y0;replace y1:=cell_regrown y1;replace y2:=cell_regrown y2;replace y3:=cell_regrown y3;replace y4:=cell_regrown y4;replace y5:=cell_regrown y5;replace y6:=cell_regrown y6;replace x1:=cell_regrown x1;replace d0:=cell_regrown d0;replace d1:=cell_regrown d1;clear x0 x2 x3
  by_cases h0:(infoAt k.infos an).k=0
  ·have E:=AA (show AO k ⟨2,(en:Int),(an:Int),b1,c1,nm⟩=(k,0,3) by rw[HP.out,Cw,if_pos (.inr (.inl h0))])
   have t0:((infoAt k.infos an).k==0)=true:=by simp[h0]
   clear h0;refine wp_region_quiet_below mixed (by kernel_rfl) ?_
   repeat(go_big_quiet_step (first|exact cF _ _|exact cT _ _))
   refine wpQuiet_nil ?_;intro _ hw';obtain⟨⟨dq,osq⟩,hw''⟩:=hw';subst hw'';have bq:=below_regrown W0 dq osq;generalize Sort.grow (redrawn W0 dq) osq=wq at bq;clear y0 y1 y2 y3 y4 y5 y6 x1 d0 d1 t0;go_wp2_with fail;go_ret2;exact Cr.bad E.out (by decide) (HS.out.below bq).bel
  have H0:=AA h0;have t0:((infoAt k.infos an).k==0)=false:=by simp[h0]
  clear h0;have HP2:=AA (show AO k ⟨2,(en:Int),(an:Int),b1,c1,nm⟩=if Ej k (en:Int) (infoAt k.infos an).g=false then(k,0,1) else Ci k ⟨2,(en:Int),(an:Int),b1,c1,nm⟩ by rw[HP.out,Cw,if_neg (by rintro(x|x|⟨x,_⟩);(· rw[T.out] at x;cases x);(· exact H0.out x);(· simp at x))]<;>rfl);refine wp_region_quiet_below mixed (by kernel_rfl) ?_
  repeat(go_big_quiet_step (first|exact cF _ _|exact cT _ _))
  refine wpQuiet_nil ?_;intro _ hw';obtain⟨⟨dq,osq⟩,hw''⟩:=hw';subst hw'';have bq:=below_regrown W0 dq osq;generalize Sort.grow (redrawn W0 dq) osq=wq at bq;have S1:=AA (HS.out.below bq);obtain⟨W1,rfl⟩:∃W1:World,W1=wq:=⟨_,rfl⟩
  clear y0 y1 y2 y3 y4 y5 y6 x1 d0 d1 t0 cF cT bq;obtain⟨y0,y1,y2,y3,y4,y5,y6⟩:=S1.out.ys;have x1:=S1.out.xs.2.1;obtain⟨_,d1,_⟩:=S1.out.infoAt (f:=an) (by rw[HK.out.len];exact han);have CM:=Io (w1:=W1) (fun W hW=>KV (S1.out.below hW).ink ⟨2,(en:Int),(an:Int),b1,c1,nm⟩ (infoAt k.infos an).g (by simp) (by rw[HK.out.envl];simp only;omega));simp only[AM.on,AM.onCells] at CM;replace y0:=cell_regrown y0;replace y1:=cell_regrown y1;replace y2:=cell_regrown y2;replace y3:=cell_regrown y3;replace y4:=cell_regrown y4;replace y5:=cell_regrown y5;replace y6:=cell_regrown y6;replace x1:=cell_regrown x1;replace d1:=cell_regrown d1;cases hm:Ej k (en:Int) (infoAt k.infos an).g
  ·have E:=AA (show AO k ⟨2,(en:Int),(an:Int),b1,c1,nm⟩=(k,0,1) by rw[HP2.out,if_pos hm])
   rw[hm] at CM;clear hm;go_wp2_with fail;refine wp_region_quiet_below mixed (by kernel_rfl) ?_
   repeat(go_big_quiet_step (exact CM _ _))
   refine wpQuiet_nil ?_;intro _ hw';obtain⟨⟨dq,osq⟩,hw''⟩:=hw';subst hw'';have bq:=below_regrown W1 dq osq;generalize Sort.grow (redrawn W1 dq) osq=wq at bq;clear y0 y1 y2 y3 y4 y5 y6 x1 d1;go_wp2_with fail;go_ret2;exact Cr.bad E.out (by decide) (S1.out.below bq).bel
  have HP3:=AA (show AO k ⟨2,(en:Int),(an:Int),b1,c1,nm⟩=Ci k ⟨2,(en:Int),(an:Int),b1,c1,nm⟩ by rw[HP2.out,if_neg (by rw[hm];decide)]);rw[hm] at CM;clear hm;go_wp2_with fail;refine wp_region_quiet_below mixed (by kernel_rfl) ?_
  repeat(go_big_quiet_step (exact CM _ _))
  refine wpQuiet_nil ?_;intro _ hw';obtain⟨⟨dq,osq⟩,hw''⟩:=hw';subst hw'';have bq:=below_regrown W1 dq osq;generalize Sort.grow (redrawn W1 dq) osq=wq at bq;have S2:=AA (S1.out.below bq);obtain⟨W2,rfl⟩:∃W2:World,W2=wq:=⟨_,rfl⟩
  clear y0 y1 y2 y3 y4 y5 y6 x1 d1 bq CM;obtain⟨y0,y1,y2,y3,y4,y5,y6⟩:=S2.out.ys;go_wp2_with fail;have C:=Gk S2.out.ink S2.out.lo HK.out ⟨2,(en:Int),(an:Int),b1,c1,nm⟩ (by simp) (by simp only;omega) (by simp) (by simp only;omega) (by intro x;simp at x) hcc;simp only[AM.on,AM.onCells] at C;refine C.mono ?_;rintro r w1 hr;obtain⟨n,rfl,hE⟩:=CJ.two hr Gm S2.out.bel;have HE:=AA hE;clear hr hE C y0 y1 y2 y3 y4 y5 y6;go_wp2_with fail;go_ret2;rw[HP3.out];exact HE.out
 by_cases k3e:k1=3
 ·subst k3e
  have HP:=AA (show AO k ⟨3,(en:Int),a1,b1,c1,nm⟩=FF k ⟨3,(en:Int),a1,b1,c1,nm⟩ from rfl);cases hfr:Bv a1 0 11
  ·have E:=AA (show AO k ⟨3,(en:Int),a1,b1,c1,nm⟩=(k,0,3) by rw[HP.out,Cw,if_pos (.inl hfr)])
   go_in;go_wp2_with fail;generalize w.alloc _=W0 at*;have cF:=GU (w1:=W0) (fun W=>Bc a1 W);have cT:=GU (w1:=W0) (fun W=>CV b1 W);rw[hfr] at cF;replace y1:=cell_regrown y1;replace y3:=cell_regrown y3;clear y0 y2 y4 y5 y6 x0 x1 x2 x3 hfr;refine wp_region_quiet_below mixed (by kernel_rfl) ?_
   repeat(go_big_quiet_step (first|exact cF _ _|exact cT _ _))
   refine wpQuiet_nil ?_;intro _ hw';obtain⟨⟨dq,osq⟩,hw''⟩:=hw';subst hw'';have bq:=below_regrown W0 dq osq;generalize Sort.grow (redrawn W0 dq) osq=wq at bq;clear y1 y3;go_wp2_with fail;go_ret2;exact Cr.bad E.out (by decide) (HS.out.below bq).bel
  have T:=AA hfr;obtain⟨an,rfl⟩:∃n:Nat,a1=(n:Int):=⟨a1.toNat,by have:=(Ac.1 hfr).1;omega⟩
  have han:an<12:=by have:=(Ac.1 hfr).2;omega
  have hai:(an:Int)<12:=by omega
  clear hfr;go_in;go_wp2_with fail;generalize w.alloc _=W0 at*;obtain⟨d0,d1,_⟩:=HS.out.infoAt (f:=an) (by rw[HK.out.len];exact han);have cF:=GU (w1:=W0) (fun W=>Bc (an:Int) W);have cT:=GU (w1:=W0) (fun W=>CV b1 W);rw[T.out] at cF;replace y0:=cell_regrown y0;replace y1:=cell_regrown y1;replace y2:=cell_regrown y2;replace y3:=cell_regrown y3;replace y4:=cell_regrown y4;replace y5:=cell_regrown y5;replace y6:=cell_regrown y6;replace x1:=cell_regrown x1;replace d0:=cell_regrown d0;replace d1:=cell_regrown d1;clear x0 x2 x3
  by_cases h0:(infoAt k.infos an).k=0
  ·have E:=AA (show AO k ⟨3,(en:Int),(an:Int),b1,c1,nm⟩=(k,0,3) by rw[HP.out,Cw,if_pos (.inr (.inl h0))])
   have t0:((infoAt k.infos an).k==0)=true:=by simp[h0]
   clear h0;refine wp_region_quiet_below mixed (by kernel_rfl) ?_
   repeat(go_big_quiet_step (first|exact cF _ _|exact cT _ _))
   refine wpQuiet_nil ?_;intro _ hw';obtain⟨⟨dq,osq⟩,hw''⟩:=hw';subst hw'';have bq:=below_regrown W0 dq osq;generalize Sort.grow (redrawn W0 dq) osq=wq at bq;clear y0 y1 y2 y3 y4 y5 y6 x1 d0 d1 t0;go_wp2_with fail;go_ret2;exact Cr.bad E.out (by decide) (HS.out.below bq).bel
  have H0:=AA h0;have t0:((infoAt k.infos an).k==0)=false:=by simp[h0]
  clear h0;have HP2:=AA (show AO k ⟨3,(en:Int),(an:Int),b1,c1,nm⟩=if Ej k (en:Int) (infoAt k.infos an).g=false then(k,0,1) else Ci k ⟨3,(en:Int),(an:Int),b1,c1,nm⟩ by rw[HP.out,Cw,if_neg (by rintro(x|x|⟨x,_⟩);(· rw[T.out] at x;cases x);(· exact H0.out x);(· simp at x))]<;>rfl);refine wp_region_quiet_below mixed (by kernel_rfl) ?_
  repeat(go_big_quiet_step (first|exact cF _ _|exact cT _ _))
  refine wpQuiet_nil ?_;intro _ hw';obtain⟨⟨dq,osq⟩,hw''⟩:=hw';subst hw'';have bq:=below_regrown W0 dq osq;generalize Sort.grow (redrawn W0 dq) osq=wq at bq;have S1:=AA (HS.out.below bq);obtain⟨W1,rfl⟩:∃W1:World,W1=wq:=⟨_,rfl⟩
  clear y0 y1 y2 y3 y4 y5 y6 x1 d0 d1 t0 cF cT bq;obtain⟨y0,y1,y2,y3,y4,y5,y6⟩:=S1.out.ys;have x1:=S1.out.xs.2.1;obtain⟨_,d1,_⟩:=S1.out.infoAt (f:=an) (by rw[HK.out.len];exact han);have CM:=Io (w1:=W1) (fun W hW=>KV (S1.out.below hW).ink ⟨3,(en:Int),(an:Int),b1,c1,nm⟩ (infoAt k.infos an).g (by simp) (by rw[HK.out.envl];simp only;omega));simp only[AM.on,AM.onCells] at CM;replace y0:=cell_regrown y0;replace y1:=cell_regrown y1;replace y2:=cell_regrown y2;replace y3:=cell_regrown y3;replace y4:=cell_regrown y4;replace y5:=cell_regrown y5;replace y6:=cell_regrown y6;replace x1:=cell_regrown x1;replace d1:=cell_regrown d1;cases hm:Ej k (en:Int) (infoAt k.infos an).g
  ·have E:=AA (show AO k ⟨3,(en:Int),(an:Int),b1,c1,nm⟩=(k,0,1) by rw[HP2.out,if_pos hm])
   rw[hm] at CM;clear hm;go_wp2_with fail;refine wp_region_quiet_below mixed (by kernel_rfl) ?_
   repeat(go_big_quiet_step (exact CM _ _))
   refine wpQuiet_nil ?_;intro _ hw';obtain⟨⟨dq,osq⟩,hw''⟩:=hw';subst hw'';have bq:=below_regrown W1 dq osq;generalize Sort.grow (redrawn W1 dq) osq=wq at bq;clear y0 y1 y2 y3 y4 y5 y6 x1 d1;go_wp2_with fail;go_ret2;exact Cr.bad E.out (by decide) (S1.out.below bq).bel
  have HP3:=AA (show AO k ⟨3,(en:Int),(an:Int),b1,c1,nm⟩=Ci k ⟨3,(en:Int),(an:Int),b1,c1,nm⟩ by rw[HP2.out,if_neg (by rw[hm];decide)]);rw[hm] at CM;clear hm;go_wp2_with fail;refine wp_region_quiet_below mixed (by kernel_rfl) ?_
  repeat(go_big_quiet_step (exact CM _ _))
  refine wpQuiet_nil ?_;intro _ hw';obtain⟨⟨dq,osq⟩,hw''⟩:=hw';subst hw'';have bq:=below_regrown W1 dq osq;generalize Sort.grow (redrawn W1 dq) osq=wq at bq;have S2:=AA (S1.out.below bq);obtain⟨W2,rfl⟩:∃W2:World,W2=wq:=⟨_,rfl⟩
  clear y0 y1 y2 y3 y4 y5 y6 x1 d1 bq CM;obtain⟨y0,y1,y2,y3,y4,y5,y6⟩:=S2.out.ys;go_wp2_with fail;have C:=Gk S2.out.ink S2.out.lo HK.out ⟨3,(en:Int),(an:Int),b1,c1,nm⟩ (by simp) (by simp only;omega) (by simp) (by simp only;omega) (by intro x;simp at x) hcc;simp only[AM.on,AM.onCells] at C;refine C.mono ?_;rintro r w1 hr;obtain⟨n,rfl,hE⟩:=CJ.two hr Gm S2.out.bel;have HE:=AA hE;clear hr hE C y0 y1 y2 y3 y4 y5 y6;go_wp2_with fail;go_ret2;rw[HP3.out];exact HE.out
 by_cases k4e:k1=4
 ·subst k4e
  have HP:=AA (show AO k ⟨4,(en:Int),a1,b1,c1,nm⟩=FF k ⟨4,(en:Int),a1,b1,c1,nm⟩ from rfl);cases hfr:Bv a1 0 11
  ·have E:=AA (show AO k ⟨4,(en:Int),a1,b1,c1,nm⟩=(k,0,3) by rw[HP.out,Cw,if_pos (.inl hfr)])
   go_in;go_wp2_with fail;generalize w.alloc _=W0 at*;have cF:=GU (w1:=W0) (fun W=>Bc a1 W);have cT:=GU (w1:=W0) (fun W=>CV b1 W);rw[hfr] at cF;replace y1:=cell_regrown y1;replace y3:=cell_regrown y3;clear y0 y2 y4 y5 y6 x0 x1 x2 x3 hfr;refine wp_region_quiet_below mixed (by kernel_rfl) ?_
   repeat(go_big_quiet_step (first|exact cF _ _|exact cT _ _))
   refine wpQuiet_nil ?_;intro _ hw';obtain⟨⟨dq,osq⟩,hw''⟩:=hw';subst hw'';have bq:=below_regrown W0 dq osq;generalize Sort.grow (redrawn W0 dq) osq=wq at bq;clear y1 y3;go_wp2_with fail;go_ret2;exact Cr.bad E.out (by decide) (HS.out.below bq).bel
  have T:=AA hfr;obtain⟨an,rfl⟩:∃n:Nat,a1=(n:Int):=⟨a1.toNat,by have:=(Ac.1 hfr).1;omega⟩
  have han:an<12:=by have:=(Ac.1 hfr).2;omega
  have hai:(an:Int)<12:=by omega
  clear hfr;go_in;go_wp2_with fail;generalize w.alloc _=W0 at*;obtain⟨d0,d1,_⟩:=HS.out.infoAt (f:=an) (by rw[HK.out.len];exact han);have cF:=GU (w1:=W0) (fun W=>Bc (an:Int) W);have cT:=GU (w1:=W0) (fun W=>CV b1 W);rw[T.out] at cF;replace y0:=cell_regrown y0;replace y1:=cell_regrown y1;replace y2:=cell_regrown y2;replace y3:=cell_regrown y3;replace y4:=cell_regrown y4;replace y5:=cell_regrown y5;replace y6:=cell_regrown y6;replace x1:=cell_regrown x1;replace d0:=cell_regrown d0;replace d1:=cell_regrown d1;clear x0 x2 x3
  by_cases h0:(infoAt k.infos an).k=0
  ·have E:=AA (show AO k ⟨4,(en:Int),(an:Int),b1,c1,nm⟩=(k,0,3) by rw[HP.out,Cw,if_pos (.inr (.inl h0))])
   have t0:((infoAt k.infos an).k==0)=true:=by simp[h0]
   clear h0;refine wp_region_quiet_below mixed (by kernel_rfl) ?_
   repeat(go_big_quiet_step (first|exact cF _ _|exact cT _ _))
   refine wpQuiet_nil ?_;intro _ hw';obtain⟨⟨dq,osq⟩,hw''⟩:=hw';subst hw'';have bq:=below_regrown W0 dq osq;generalize Sort.grow (redrawn W0 dq) osq=wq at bq;clear y0 y1 y2 y3 y4 y5 y6 x1 d0 d1 t0;go_wp2_with fail;go_ret2;exact Cr.bad E.out (by decide) (HS.out.below bq).bel
  have H0:=AA h0;have t0:((infoAt k.infos an).k==0)=false:=by simp[h0]
  clear h0;cases ht:Bg b1
  ·have E:=AA (show AO k ⟨4,(en:Int),(an:Int),b1,c1,nm⟩=(k,0,3) by rw[HP.out,Cw,if_pos (.inr (.inr ⟨rfl,ht⟩))])
   rw[ht] at cT;refine wp_region_quiet_below mixed (by kernel_rfl) ?_
   repeat(go_big_quiet_step (first|exact cF _ _|exact cT _ _))
   refine wpQuiet_nil ?_;intro _ hw';obtain⟨⟨dq,osq⟩,hw''⟩:=hw';subst hw'';have bq:=below_regrown W0 dq osq;generalize Sort.grow (redrawn W0 dq) osq=wq at bq;clear y0 y1 y2 y3 y4 y5 y6 x1 d0 d1;go_wp2_with fail;go_ret2;exact Cr.bad E.out (by decide) (HS.out.below bq).bel
  rw[ht] at cT;have HP2:=AA (show AO k ⟨4,(en:Int),(an:Int),b1,c1,nm⟩=if Ej k (en:Int) (infoAt k.infos an).g=false then(k,0,1) else Ci k ⟨4,(en:Int),(an:Int),b1,c1,nm⟩ by rw[HP.out,Cw,if_neg (by rintro(x|x|⟨_,x⟩);(· rw[T.out] at x;cases x);(· exact H0.out x);(· rw[ht] at x;cases x))]<;>rfl);refine wp_region_quiet_below mixed (by kernel_rfl) ?_
  repeat(go_big_quiet_step (first|exact cF _ _|exact cT _ _))
  refine wpQuiet_nil ?_;intro _ hw';obtain⟨⟨dq,osq⟩,hw''⟩:=hw';subst hw'';have bq:=below_regrown W0 dq osq;generalize Sort.grow (redrawn W0 dq) osq=wq at bq;have S1:=AA (HS.out.below bq);obtain⟨W1,rfl⟩:∃W1:World,W1=wq:=⟨_,rfl⟩
  clear y0 y1 y2 y3 y4 y5 y6 x1 d0 d1 t0 cF cT bq;obtain⟨y0,y1,y2,y3,y4,y5,y6⟩:=S1.out.ys;have x1:=S1.out.xs.2.1;obtain⟨_,d1,_⟩:=S1.out.infoAt (f:=an) (by rw[HK.out.len];exact han);have CM:=Io (w1:=W1) (fun W hW=>KV (S1.out.below hW).ink ⟨4,(en:Int),(an:Int),b1,c1,nm⟩ (infoAt k.infos an).g (by simp) (by rw[HK.out.envl];simp only;omega));simp only[AM.on,AM.onCells] at CM;replace y0:=cell_regrown y0;replace y1:=cell_regrown y1;replace y2:=cell_regrown y2;replace y3:=cell_regrown y3;replace y4:=cell_regrown y4;replace y5:=cell_regrown y5;replace y6:=cell_regrown y6;replace x1:=cell_regrown x1;replace d1:=cell_regrown d1;cases hm:Ej k (en:Int) (infoAt k.infos an).g
  ·have E:=AA (show AO k ⟨4,(en:Int),(an:Int),b1,c1,nm⟩=(k,0,1) by rw[HP2.out,if_pos hm])
   rw[hm] at CM;clear hm;go_wp2_with fail;refine wp_region_quiet_below mixed (by kernel_rfl) ?_
   repeat(go_big_quiet_step (exact CM _ _))
   refine wpQuiet_nil ?_;intro _ hw';obtain⟨⟨dq,osq⟩,hw''⟩:=hw';subst hw'';have bq:=below_regrown W1 dq osq;generalize Sort.grow (redrawn W1 dq) osq=wq at bq;clear y0 y1 y2 y3 y4 y5 y6 x1 d1;go_wp2_with fail;go_ret2;exact Cr.bad E.out (by decide) (S1.out.below bq).bel
  have HP3:=AA (show AO k ⟨4,(en:Int),(an:Int),b1,c1,nm⟩=Ci k ⟨4,(en:Int),(an:Int),b1,c1,nm⟩ by rw[HP2.out,if_neg (by rw[hm];decide)]);rw[hm] at CM;clear hm;go_wp2_with fail;refine wp_region_quiet_below mixed (by kernel_rfl) ?_
  repeat(go_big_quiet_step (exact CM _ _))
  refine wpQuiet_nil ?_;intro _ hw';obtain⟨⟨dq,osq⟩,hw''⟩:=hw';subst hw'';have bq:=below_regrown W1 dq osq;generalize Sort.grow (redrawn W1 dq) osq=wq at bq;have S2:=AA (S1.out.below bq);obtain⟨W2,rfl⟩:∃W2:World,W2=wq:=⟨_,rfl⟩
  clear y0 y1 y2 y3 y4 y5 y6 x1 d1 bq CM;obtain⟨y0,y1,y2,y3,y4,y5,y6⟩:=S2.out.ys;go_wp2_with fail;have C:=Gk S2.out.ink S2.out.lo HK.out ⟨4,(en:Int),(an:Int),b1,c1,nm⟩ (by simp) (by simp only;omega) (by simp) (by simp only;omega) (by intro _;exact ht) hcc;simp only[AM.on,AM.onCells] at C;refine C.mono ?_;rintro r w1 hr;obtain⟨n,rfl,hE⟩:=CJ.two hr Gm S2.out.bel;have HE:=AA hE;clear hr hE C y0 y1 y2 y3 y4 y5 y6;go_wp2_with fail;go_ret2;rw[HP3.out];exact HE.out
 by_cases k5e:k1=5
 ·subst k5e
  have HP:=AA (show AO k ⟨5,(en:Int),a1,b1,c1,nm⟩=FF k ⟨5,(en:Int),a1,b1,c1,nm⟩ from rfl);cases hfr:Bv a1 0 11
  ·have E:=AA (show AO k ⟨5,(en:Int),a1,b1,c1,nm⟩=(k,0,3) by rw[HP.out,Cw,if_pos (.inl hfr)])
   go_in;go_wp2_with fail;generalize w.alloc _=W0 at*;have cF:=GU (w1:=W0) (fun W=>Bc a1 W);have cT:=GU (w1:=W0) (fun W=>CV b1 W);rw[hfr] at cF;replace y1:=cell_regrown y1;replace y3:=cell_regrown y3;clear y0 y2 y4 y5 y6 x0 x1 x2 x3 hfr;refine wp_region_quiet_below mixed (by kernel_rfl) ?_
   repeat(go_big_quiet_step (first|exact cF _ _|exact cT _ _))
   refine wpQuiet_nil ?_;intro _ hw';obtain⟨⟨dq,osq⟩,hw''⟩:=hw';subst hw'';have bq:=below_regrown W0 dq osq;generalize Sort.grow (redrawn W0 dq) osq=wq at bq;clear y1 y3;go_wp2_with fail;go_ret2;exact Cr.bad E.out (by decide) (HS.out.below bq).bel
  have T:=AA hfr;obtain⟨an,rfl⟩:∃n:Nat,a1=(n:Int):=⟨a1.toNat,by have:=(Ac.1 hfr).1;omega⟩
  have han:an<12:=by have:=(Ac.1 hfr).2;omega
  have hai:(an:Int)<12:=by omega
  clear hfr;go_in;go_wp2_with fail;generalize w.alloc _=W0 at*;obtain⟨d0,d1,_⟩:=HS.out.infoAt (f:=an) (by rw[HK.out.len];exact han);have cF:=GU (w1:=W0) (fun W=>Bc (an:Int) W);have cT:=GU (w1:=W0) (fun W=>CV b1 W);rw[T.out] at cF;replace y0:=cell_regrown y0;replace y1:=cell_regrown y1;replace y2:=cell_regrown y2;replace y3:=cell_regrown y3;replace y4:=cell_regrown y4;replace y5:=cell_regrown y5;replace y6:=cell_regrown y6;replace x1:=cell_regrown x1;replace d0:=cell_regrown d0;replace d1:=cell_regrown d1;clear x0 x2 x3
  by_cases h0:(infoAt k.infos an).k=0
  ·have E:=AA (show AO k ⟨5,(en:Int),(an:Int),b1,c1,nm⟩=(k,0,3) by rw[HP.out,Cw,if_pos (.inr (.inl h0))])
   have t0:((infoAt k.infos an).k==0)=true:=by simp[h0]
   clear h0;refine wp_region_quiet_below mixed (by kernel_rfl) ?_
   repeat(go_big_quiet_step (first|exact cF _ _|exact cT _ _))
   refine wpQuiet_nil ?_;intro _ hw';obtain⟨⟨dq,osq⟩,hw''⟩:=hw';subst hw'';have bq:=below_regrown W0 dq osq;generalize Sort.grow (redrawn W0 dq) osq=wq at bq;clear y0 y1 y2 y3 y4 y5 y6 x1 d0 d1 t0;go_wp2_with fail;go_ret2;exact Cr.bad E.out (by decide) (HS.out.below bq).bel
  have H0:=AA h0;have t0:((infoAt k.infos an).k==0)=false:=by simp[h0]
  clear h0;have HP2:=AA (show AO k ⟨5,(en:Int),(an:Int),b1,c1,nm⟩=if Ej k (en:Int) (infoAt k.infos an).g=false then(k,0,1) else Ci k ⟨5,(en:Int),(an:Int),b1,c1,nm⟩ by rw[HP.out,Cw,if_neg (by rintro(x|x|⟨x,_⟩);(· rw[T.out] at x;cases x);(· exact H0.out x);(· simp at x))]<;>rfl);refine wp_region_quiet_below mixed (by kernel_rfl) ?_
  repeat(go_big_quiet_step (first|exact cF _ _|exact cT _ _))
  refine wpQuiet_nil ?_;intro _ hw';obtain⟨⟨dq,osq⟩,hw''⟩:=hw';subst hw'';have bq:=below_regrown W0 dq osq;generalize Sort.grow (redrawn W0 dq) osq=wq at bq;have S1:=AA (HS.out.below bq);obtain⟨W1,rfl⟩:∃W1:World,W1=wq:=⟨_,rfl⟩
  clear y0 y1 y2 y3 y4 y5 y6 x1 d0 d1 t0 cF cT bq;obtain⟨y0,y1,y2,y3,y4,y5,y6⟩:=S1.out.ys;have x1:=S1.out.xs.2.1;obtain⟨_,d1,_⟩:=S1.out.infoAt (f:=an) (by rw[HK.out.len];exact han);have CM:=Io (w1:=W1) (fun W hW=>KV (S1.out.below hW).ink ⟨5,(en:Int),(an:Int),b1,c1,nm⟩ (infoAt k.infos an).g (by simp) (by rw[HK.out.envl];simp only;omega));simp only[AM.on,AM.onCells] at CM;replace y0:=cell_regrown y0;replace y1:=cell_regrown y1;replace y2:=cell_regrown y2;replace y3:=cell_regrown y3;replace y4:=cell_regrown y4;replace y5:=cell_regrown y5;replace y6:=cell_regrown y6;replace x1:=cell_regrown x1;replace d1:=cell_regrown d1;cases hm:Ej k (en:Int) (infoAt k.infos an).g
  ·have E:=AA (show AO k ⟨5,(en:Int),(an:Int),b1,c1,nm⟩=(k,0,1) by rw[HP2.out,if_pos hm])
   rw[hm] at CM;clear hm;go_wp2_with fail;refine wp_region_quiet_below mixed (by kernel_rfl) ?_
   repeat(go_big_quiet_step (exact CM _ _))
   refine wpQuiet_nil ?_;intro _ hw';obtain⟨⟨dq,osq⟩,hw''⟩:=hw';subst hw'';have bq:=below_regrown W1 dq osq;generalize Sort.grow (redrawn W1 dq) osq=wq at bq;clear y0 y1 y2 y3 y4 y5 y6 x1 d1;go_wp2_with fail;go_ret2;exact Cr.bad E.out (by decide) (S1.out.below bq).bel
  have HP3:=AA (show AO k ⟨5,(en:Int),(an:Int),b1,c1,nm⟩=Ci k ⟨5,(en:Int),(an:Int),b1,c1,nm⟩ by rw[HP2.out,if_neg (by rw[hm];decide)]);rw[hm] at CM;clear hm;go_wp2_with fail;refine wp_region_quiet_below mixed (by kernel_rfl) ?_
  repeat(go_big_quiet_step (exact CM _ _))
  refine wpQuiet_nil ?_;intro _ hw';obtain⟨⟨dq,osq⟩,hw''⟩:=hw';subst hw'';have bq:=below_regrown W1 dq osq;generalize Sort.grow (redrawn W1 dq) osq=wq at bq;have S2:=AA (S1.out.below bq);obtain⟨W2,rfl⟩:∃W2:World,W2=wq:=⟨_,rfl⟩
  clear y0 y1 y2 y3 y4 y5 y6 x1 d1 bq CM;obtain⟨y0,y1,y2,y3,y4,y5,y6⟩:=S2.out.ys;go_wp2_with fail;have C:=Gk S2.out.ink S2.out.lo HK.out ⟨5,(en:Int),(an:Int),b1,c1,nm⟩ (by simp) (by simp only;omega) (by simp) (by simp only;omega) (by intro x;simp at x) hcc;simp only[AM.on,AM.onCells] at C;refine C.mono ?_;rintro r w1 hr;obtain⟨n,rfl,hE⟩:=CJ.two hr Gm S2.out.bel;have HE:=AA hE;clear hr hE C y0 y1 y2 y3 y4 y5 y6;go_wp2_with fail;go_ret2;rw[HP3.out];exact HE.out
 by_cases k6e:k1=6
 ·subst k6e
  have HP:=AA (show AO k ⟨6,(en:Int),a1,b1,c1,nm⟩=FF k ⟨6,(en:Int),a1,b1,c1,nm⟩ from rfl);cases hfr:Bv a1 0 11
  ·have E:=AA (show AO k ⟨6,(en:Int),a1,b1,c1,nm⟩=(k,0,3) by rw[HP.out,Cw,if_pos (.inl hfr)])
   go_in;go_wp2_with fail;generalize w.alloc _=W0 at*;have cF:=GU (w1:=W0) (fun W=>Bc a1 W);have cT:=GU (w1:=W0) (fun W=>CV b1 W);rw[hfr] at cF;replace y1:=cell_regrown y1;replace y3:=cell_regrown y3;clear y0 y2 y4 y5 y6 x0 x1 x2 x3 hfr;refine wp_region_quiet_below mixed (by kernel_rfl) ?_
   repeat(go_big_quiet_step (first|exact cF _ _|exact cT _ _))
   refine wpQuiet_nil ?_;intro _ hw';obtain⟨⟨dq,osq⟩,hw''⟩:=hw';subst hw'';have bq:=below_regrown W0 dq osq;generalize Sort.grow (redrawn W0 dq) osq=wq at bq;clear y1 y3;go_wp2_with fail;go_ret2;exact Cr.bad E.out (by decide) (HS.out.below bq).bel
  have T:=AA hfr;obtain⟨an,rfl⟩:∃n:Nat,a1=(n:Int):=⟨a1.toNat,by have:=(Ac.1 hfr).1;omega⟩
  have han:an<12:=by have:=(Ac.1 hfr).2;omega
  have hai:(an:Int)<12:=by omega
  clear hfr;go_in;go_wp2_with fail;generalize w.alloc _=W0 at*;obtain⟨d0,d1,_⟩:=HS.out.infoAt (f:=an) (by rw[HK.out.len];exact han);have cF:=GU (w1:=W0) (fun W=>Bc (an:Int) W);have cT:=GU (w1:=W0) (fun W=>CV b1 W);rw[T.out] at cF;replace y0:=cell_regrown y0;replace y1:=cell_regrown y1;replace y2:=cell_regrown y2;replace y3:=cell_regrown y3;replace y4:=cell_regrown y4;replace y5:=cell_regrown y5;replace y6:=cell_regrown y6;replace x1:=cell_regrown x1;replace d0:=cell_regrown d0;replace d1:=cell_regrown d1;clear x0 x2 x3
  by_cases h0:(infoAt k.infos an).k=0
  ·have E:=AA (show AO k ⟨6,(en:Int),(an:Int),b1,c1,nm⟩=(k,0,3) by rw[HP.out,Cw,if_pos (.inr (.inl h0))])
   have t0:((infoAt k.infos an).k==0)=true:=by simp[h0]
   clear h0;refine wp_region_quiet_below mixed (by kernel_rfl) ?_
   repeat(go_big_quiet_step (first|exact cF _ _|exact cT _ _))
   refine wpQuiet_nil ?_;intro _ hw';obtain⟨⟨dq,osq⟩,hw''⟩:=hw';subst hw'';have bq:=below_regrown W0 dq osq;generalize Sort.grow (redrawn W0 dq) osq=wq at bq;clear y0 y1 y2 y3 y4 y5 y6 x1 d0 d1 t0;go_wp2_with fail;go_ret2;exact Cr.bad E.out (by decide) (HS.out.below bq).bel
  have H0:=AA h0;have t0:((infoAt k.infos an).k==0)=false:=by simp[h0]
  clear h0;have HP2:=AA (show AO k ⟨6,(en:Int),(an:Int),b1,c1,nm⟩=if Ej k (en:Int) (infoAt k.infos an).g=false then(k,0,1) else Ci k ⟨6,(en:Int),(an:Int),b1,c1,nm⟩ by rw[HP.out,Cw,if_neg (by rintro(x|x|⟨x,_⟩);(· rw[T.out] at x;cases x);(· exact H0.out x);(· simp at x))]<;>rfl);refine wp_region_quiet_below mixed (by kernel_rfl) ?_
  repeat(go_big_quiet_step (first|exact cF _ _|exact cT _ _))
  refine wpQuiet_nil ?_;intro _ hw';obtain⟨⟨dq,osq⟩,hw''⟩:=hw';subst hw'';have bq:=below_regrown W0 dq osq;generalize Sort.grow (redrawn W0 dq) osq=wq at bq;have S1:=AA (HS.out.below bq);obtain⟨W1,rfl⟩:∃W1:World,W1=wq:=⟨_,rfl⟩
  clear y0 y1 y2 y3 y4 y5 y6 x1 d0 d1 t0 cF cT bq;obtain⟨y0,y1,y2,y3,y4,y5,y6⟩:=S1.out.ys;have x1:=S1.out.xs.2.1;obtain⟨_,d1,_⟩:=S1.out.infoAt (f:=an) (by rw[HK.out.len];exact han);have CM:=Io (w1:=W1) (fun W hW=>KV (S1.out.below hW).ink ⟨6,(en:Int),(an:Int),b1,c1,nm⟩ (infoAt k.infos an).g (by simp) (by rw[HK.out.envl];simp only;omega));simp only[AM.on,AM.onCells] at CM;replace y0:=cell_regrown y0;replace y1:=cell_regrown y1;replace y2:=cell_regrown y2;replace y3:=cell_regrown y3;replace y4:=cell_regrown y4;replace y5:=cell_regrown y5;replace y6:=cell_regrown y6;replace x1:=cell_regrown x1;replace d1:=cell_regrown d1;cases hm:Ej k (en:Int) (infoAt k.infos an).g
  ·have E:=AA (show AO k ⟨6,(en:Int),(an:Int),b1,c1,nm⟩=(k,0,1) by rw[HP2.out,if_pos hm])
   rw[hm] at CM;clear hm;go_wp2_with fail;refine wp_region_quiet_below mixed (by kernel_rfl) ?_
   repeat(go_big_quiet_step (exact CM _ _))
   refine wpQuiet_nil ?_;intro _ hw';obtain⟨⟨dq,osq⟩,hw''⟩:=hw';subst hw'';have bq:=below_regrown W1 dq osq;generalize Sort.grow (redrawn W1 dq) osq=wq at bq;clear y0 y1 y2 y3 y4 y5 y6 x1 d1;go_wp2_with fail;go_ret2;exact Cr.bad E.out (by decide) (S1.out.below bq).bel
  have HP3:=AA (show AO k ⟨6,(en:Int),(an:Int),b1,c1,nm⟩=Ci k ⟨6,(en:Int),(an:Int),b1,c1,nm⟩ by rw[HP2.out,if_neg (by rw[hm];decide)]);rw[hm] at CM;clear hm;go_wp2_with fail;refine wp_region_quiet_below mixed (by kernel_rfl) ?_
  repeat(go_big_quiet_step (exact CM _ _))
  refine wpQuiet_nil ?_;intro _ hw';obtain⟨⟨dq,osq⟩,hw''⟩:=hw';subst hw'';have bq:=below_regrown W1 dq osq;generalize Sort.grow (redrawn W1 dq) osq=wq at bq;have S2:=AA (S1.out.below bq);obtain⟨W2,rfl⟩:∃W2:World,W2=wq:=⟨_,rfl⟩
  clear y0 y1 y2 y3 y4 y5 y6 x1 d1 bq CM;obtain⟨y0,y1,y2,y3,y4,y5,y6⟩:=S2.out.ys;go_wp2_with fail;have C:=Gk S2.out.ink S2.out.lo HK.out ⟨6,(en:Int),(an:Int),b1,c1,nm⟩ (by simp) (by simp only;omega) (by simp) (by simp only;omega) (by intro x;simp at x) hcc;simp only[AM.on,AM.onCells] at C;refine C.mono ?_;rintro r w1 hr;obtain⟨n,rfl,hE⟩:=CJ.two hr Gm S2.out.bel;have HE:=AA hE;clear hr hE C y0 y1 y2 y3 y4 y5 y6;go_wp2_with fail;go_ret2;rw[HP3.out];exact HE.out
 by_cases k7e:k1=7
 ·subst k7e
  have HP:=AA (show AO k ⟨7,(en:Int),a1,b1,c1,nm⟩=Fi k ⟨7,(en:Int),a1,b1,c1,nm⟩ from rfl);go_in;go_wp2_with fail;generalize w.alloc _=W0 at*;have C:=TW HS.out.ink HS.out.lo HK.out ⟨7,(en:Int),a1,b1,c1,nm⟩ (by simp) (by simp only;omega);simp only[AM.on,AM.onCells] at C;refine C.mono ?_;rintro r w1 hr;obtain⟨n,rfl,hE⟩:=CJ.two hr TX HS.out.bel;have HE:=AA hE;clear hr hE C y0 y1 y2 y3 y4 y5 y6 x0 x1 x2 x3;go_wp2_with fail;go_ret2;rw[HP.out];exact HE.out
 by_cases k8e:k1=8
 ·subst k8e
  have HP:=AA (show AO k ⟨8,(en:Int),a1,b1,c1,nm⟩=EL k ⟨8,(en:Int),a1,b1,c1,nm⟩ from rfl);go_in;go_wp2_with fail;generalize w.alloc _=W0 at*;have C:=RH HS.out.ink HS.out.lo HK.out ⟨8,(en:Int),a1,b1,c1,nm⟩ (by simp) (by simp only;omega) hnm;simp only[AM.on,AM.onCells] at C;refine C.mono ?_;rintro r w1 hr;obtain⟨n,rfl,hE⟩:=CJ.two hr RJ HS.out.bel;have HE:=AA hE;clear hr hE C y0 y1 y2 y3 y4 y5 y6 x0 x1 x2 x3;go_wp2_with fail;go_ret2;rw[HP.out];exact HE.out
 by_cases k9e:k1=9
 ·subst k9e
  have HP:=AA (show AO k ⟨9,(en:Int),a1,b1,c1,nm⟩=DL k ⟨9,(en:Int),a1,b1,c1,nm⟩ from rfl);go_in;go_wp2_with fail;generalize w.alloc _=W0 at*;have C:=QY HS.out.ink HS.out.lo HK.out ⟨9,(en:Int),a1,b1,c1,nm⟩ (by simp) (by simp only;omega) hnm;simp only[AM.on,AM.onCells] at C;refine C.mono ?_;rintro r w1 hr;obtain⟨n,rfl,hE⟩:=CJ.two hr QZ HS.out.bel;have HE:=AA hE;clear hr hE C y0 y1 y2 y3 y4 y5 y6 x0 x1 x2 x3;go_wp2_with fail;go_ret2;rw[HP.out];exact HE.out
 by_cases kae:k1=10
 ·subst kae
  have HP:=AA (show AO k ⟨10,(en:Int),a1,b1,c1,nm⟩=Gz k ⟨10,(en:Int),a1,b1,c1,nm⟩ from rfl);go_in;go_wp2_with fail;generalize w.alloc _=W0 at*;have C:=Qh HS.out.ink HS.out.lo HK.out ⟨10,(en:Int),a1,b1,c1,nm⟩ (by simp) (by simp only;omega) (.inl rfl);simp only[AM.on,AM.onCells] at C;refine C.mono ?_;rintro r w1 hr;obtain⟨v,n,rfl,hE⟩:=Cr.of hr HS.out.bel;have HE:=AA hE;clear hr hE C y0 y1 y2 y3 y4 y5 y6 x0 x1 x2 x3;go_wp2_with fail;go_ret2;rw[HP.out];exact HE.out
 by_cases kbe:k1=11
 ·subst kbe
  have HP:=AA (show AO k ⟨11,(en:Int),a1,b1,c1,nm⟩=Gz k ⟨11,(en:Int),a1,b1,c1,nm⟩ from rfl);go_in;go_wp2_with fail;generalize w.alloc _=W0 at*;have C:=Qh HS.out.ink HS.out.lo HK.out ⟨11,(en:Int),a1,b1,c1,nm⟩ (by simp) (by simp only;omega) (.inr rfl);simp only[AM.on,AM.onCells] at C;refine C.mono ?_;rintro r w1 hr;obtain⟨v,n,rfl,hE⟩:=Cr.of hr HS.out.bel;have HE:=AA hE;clear hr hE C y0 y1 y2 y3 y4 y5 y6 x0 x1 x2 x3;go_wp2_with fail;go_ret2;rw[HP.out];exact HE.out
 have E:=AA (show AO k ⟨k1,(en:Int),a1,b1,c1,nm⟩=(k,0,3) by unfold AO;rw[if_neg k1e,if_neg (by rw[Bool.not_eq_true,RO];show k1<2∨6<k1;omega),if_neg k7e,if_neg k8e,if_neg k9e,if_neg (by rintro(x|x);(· exact kae x);(· exact kbe x))])
 have t1:(k1==1)=false:=by simp[k1e]
 have t2:(k1==2)=false:=by simp[k2e]
 have t3:(k1==3)=false:=by simp[k3e]
 have t4:(k1==4)=false:=by simp[k4e]
 have t5:(k1==5)=false:=by simp[k5e]
 have t6:(k1==6)=false:=by simp[k6e]
 have t7:(k1==7)=false:=by simp[k7e]
 have t8:(k1==8)=false:=by simp[k8e]
 have t9:(k1==9)=false:=by simp[k9e]
 have ta:(k1==10)=false:=by simp[kae]
 have tb:(k1==11)=false:=by simp[kbe]
 clear k1e k2e k3e k4e k5e k6e k7e k8e k9e kae kbe y0 y2 y3 y4 y5 y6 x0 x1 x2 x3;go_in;go_wp2_with fail;go_ret2;exact Cr.bad E.out (by decide) HS.out.bel
end Go.Proofs.YteocokgpmgfbaaaGreatDoor
set_option linter.unusedVariables false
set_option linter.unusedSimpArgs false
namespace Go.Proofs.YteocokgpmgfbaaaGreatDoor
open Go.Proofs.Tryz
def Vl (k:AH) (f:Nat):Prop:=(infoAt k.infos f).r=1∧((∃t i,t<12∧Bg (A4 k t)=true∧i<4∧Ef f (Ar k.mem t i)=true∧(infoAt k.infos t).g=gA)∨AY k 0=(f:Int))
def VO (k k':AH):Prop:=(∀e,e<3→Cc (Cm k' e) gA=Cc (Cm k e) gA)∧AY k' 0=AY k 0∧
 ∀f,f<12→(infoAt k.infos f).g=gA→A4 k f≠0→AK k'.mem f=AK k.mem f∧(infoAt k'.infos f).g=gA∧(Vl k f→(infoAt k'.infos f).r=(infoAt k.infos f).r)
theorem VO.refl (k:AH):VO k k:=⟨fun _ _=>rfl,rfl,fun _ _ h _=>⟨rfl,h,fun _=>rfl⟩⟩
section
variable {k:AH} (h:DV k)
include h
end
section
variable {k:AH} (h:DV k) {c:AM} (he:c.e=1∨c.e=2) (hal:∀e,1≤e→e<3→Cc (Cm k e) gA=false)
include h he hal
end
def gB:ByteArray:=⟨#[98]⟩
def gC:ByteArray:=⟨#[99]⟩
def Vp:AH:=⟨List.replicate 12 [0,0,0,0],List.replicate 12 ⟨0,⟨#[]⟩,0⟩,[⟨[gA],-1⟩,⟨[gB],-1⟩,⟨[gC],-1⟩],[]⟩
def IG:List AM:=[DP 1 0 0 0,DP 4 0 3 0,DP 7 0 0 0,
 DP 1 0 0 0,DP 4 1 2 0,DP 6 0 0 7,DP 1 0 0 0,DP 4 2 2 0,DP 6 0 1 11,DP 1 0 0 0,DP 4 3 2 0,DP 6 0 2 15,DP 1 0 0 0,DP 4 4 2 0,DP 6 0 3 19]
def Ch (n:Nat):AH:=(IG.take n).foldl (fun k c=>(AO k c).1) Vp
def JB:AH:=⟨[7,11,15,19]::List.replicate 11 [0,0,0,0],⟨3,gA,1⟩::(List.replicate 4 ⟨2,gA,1⟩++List.replicate 7 ⟨0,⟨#[]⟩,0⟩),[⟨[gA],0⟩,⟨[gB],-1⟩,⟨[gC],-1⟩],[]⟩
theorem Mg:Ch 15=JB:=by kernel_rfl
theorem SS:AO (Ch 0) (DP 1 0 0 0)=(Ch 1,0,0):=by kernel_rfl
theorem SP:AO (Ch 1) (DP 4 0 3 0)=(Ch 2,0,0):=by kernel_rfl
theorem QS:AO (Ch 2) (DP 7 0 0 0)=(Ch 3,0,0):=by kernel_rfl
theorem QT:∀i,i<4→AO (Ch (3*i+3)) (DP 1 0 0 0)=(Ch (3*i+4),((i+1:Nat):Int),0)
 |0,_=>by kernel_rfl
 |1,_=>by kernel_rfl
 |2,_=>by kernel_rfl
 |3,_=>by kernel_rfl
 |_+4,h=>by omega
theorem SO:∀i,i<4→AO (Ch (3*i+4)) (DP 4 ((i+1:Nat):Int) 2 0)=(Ch (3*i+5),0,0)
 |0,_=>by kernel_rfl
 |1,_=>by kernel_rfl
 |2,_=>by kernel_rfl
 |3,_=>by kernel_rfl
 |_+4,h=>by omega
theorem SQ:∀i,i<4→AO (Ch (3*i+5)) (DP 6 0 (i:Int) (Og ((i+1:Nat):Int)))=(Ch (3*i+6),0,0)
 |0,_=>by kernel_rfl
 |1,_=>by kernel_rfl
 |2,_=>by kernel_rfl
 |3,_=>by kernel_rfl
 |_+4,h=>by omega
theorem QR:∀n,n≤15→DV (Ch n):=by
 have h0:DV (Ch 0):=J2.1 (by kernel_rfl);intro n
 induction n with
 |zero=>exact fun _=>h0
 |succ n ih=>
  intro hn;have hlt:n<IG.length:=by show n<15;omega
  have e:Ch (n+1)=(AO (Ch n) IG[n]).1:=by unfold Ch;rw[List.take_succ_eq_append_getElem hlt,List.foldl_append];rfl
  rw[e];have he:(IG[n]).e=0:=by
   have:∀c∈IG,c.e=0:=by
    intro c hc;simp only[IG,List.mem_cons,List.not_mem_nil,or_false] at hc
    rcases hc with h|h|h|h|h|h|h|h|h|h|h|h|h|h|h<;>(subst h;rfl)
   exact this _ (List.getElem_mem hlt)
  exact Tz (ih (by omega)) (by rw[he];omega)
def GF (limit:Int):BU:=⟨JB,List.replicate 16 [],[1,2,3,4],List.replicate 16 ⟨0,0,false⟩,0,limit⟩
theorem U8 {l:Int} (h1:1≤l) (h6:l≤6):KF (GF l):=by
 have h:KF (GF 1):=QU.1 (by kernel_rfl);exact⟨h.k,h.swapl,h.swapr,h.may,h.alone,h.root,h.lowl,h.mroot,h.lows,h.pagel,h.slots,fun n hn=>h.pages n hn,h.hand,⟨h1,h6⟩,by
  show((Gj (List.replicate 16 ⟨0,0,false⟩) 1:Nat):Int)≤l
  have:Gj (List.replicate 16 ⟨0,0,false⟩) 1=0:=by kernel_rfl
  omega⟩
def Dm (k:AH) (r:Kk):Prop:=(r.2.2≠0→r=(k,0,r.2.2))∧0≤r.2.2∧r.2.2≤4
theorem Dm.code {k:AH} {n:Int} (h0:0≤n) (h4:n≤4):Dm k (k,0,n):=⟨fun _=>rfl,h0,h4⟩
theorem Dm.done {k k':AH} {v:Int}:Dm k (k',v,0):=⟨fun h=>absurd rfl h,by show(0:Int)≤0;omega,by show(0:Int)≤4;omega⟩
theorem Dm.iteP {k:AH} {p:Prop} [Decidable p] {a b:Kk} (ha:Dm k a) (hb:Dm k b):Dm k (if p then a else b):=by split<;>assumption
theorem Ml {k:AH} {r:List AL×Int}:Dm k (DG k r):=by
 unfold DG GZ
 split
 ·exact .done
 ·split
  ·exact .code (by omega) (by omega)
  ·exact .code (by omega) (by omega)
theorem Ty {k:AH} {c:AM}:Dm k (AO k c):=by
 have c1:Dm k (k,0,1):= .code (by omega) (by omega);have c2:Dm k (k,0,2):= .code (by omega) (by omega);have c3:Dm k (k,0,3):= .code (by omega) (by omega);have c4:Dm k (k,0,4):= .code (by omega) (by omega);unfold AO;refine .iteP (.iteP c3 (.iteP c1 (.iteP c4 .done))) (.iteP ?_ (.iteP ?_ (.iteP ?_ (.iteP ?_ (.iteP ?_ c3)))))
 ·unfold FF
  refine .iteP c3 (.iteP c1 (.iteP (.iteP c3 (.iteP c2 .done)) (.iteP (.iteP c3 .done) (.iteP Ml (.iteP Ml ?_)))));unfold FY;exact .iteP c3 (.iteP c1 (.iteP c1 .done))
 ·unfold Fi
  exact .iteP c3 (.iteP c1 .done)
 ·unfold EL
  exact .iteP c3 (.iteP c1 (.iteP c4 .done))
 ·unfold DL
  exact .iteP c3 (.iteP c1 (.iteP c2 .done))
 ·unfold Gz
  exact .iteP c3 (.iteP c3 (.iteP c1 (.iteP .done .done)))
theorem MG {k:AH} {c:AM} (h:(AO k c).2.2≠0):AO k c=(k,0,(AO k c).2.2):=Ty.1 h
theorem KL {k:AH} {kind e a b c:Int} {s t:ByteArray} (h:kind≠1∧kind≠8∧kind≠9):AO k ⟨kind,e,a,b,c,s⟩=AO k ⟨kind,e,a,b,c,t⟩:=by unfold AO;simp only[h.1,h.2.1,h.2.2,if_false];rfl
end Go.Proofs.YteocokgpmgfbaaaGreatDoor
set_option linter.unusedVariables false
namespace Go.Proofs.YteocokgpmgfbaaaGreatDoor
open Go.Proofs.Tryz
open Go.RowKit
def NZ (w:World) (res:Kk) (e:Ending) (w':World):Prop:=∃m i ev c,e= .returned (.tuple #[.agg #[m,i,ev,c], .int .i64 res.2.1, .int .i64 res.2.2])∧Ct w.heap.size w' m i ev c res.1∧Below w.heap.size w w'
theorem Ct.lower {lo lo':Nat} {w:World} {m i e c:Value} {k:AH} (h:Ct lo w m i e c k) (hl:lo'≤lo):Ct lo' w m i e c k:=
 ⟨⟨_,h.1.choose_spec.lower hl⟩,h.2.1.lower hl,⟨_,h.2.2.1.choose_spec.lower hl⟩,h.2.2.2.lower hl⟩
theorem Ct.far {lo g:Nat} {w w':World} {m i e c:Value} {k:AH} {cs:Array Value} {T:Nat} {fr:Nat×Nat} (h:Ct lo w m i e c k) (hg:w.grownBy w' (some g)) (hB:w.heap[g]? =some (.cells cs T fr))
 (h1:28≠T) (h2:3≠T) (h3:91≠T) (h4:62≠T) (h5:9≠T) (h6:95≠T):Ct lo w' m i e c k:=
 ⟨⟨_,h.1.choose_spec.far hg hB h1 h2⟩,h.2.1.far hg hB h3,⟨_,h.2.2.1.choose_spec.far hg hB h4 h5⟩,h.2.2.2.far hg hB h6⟩
theorem ME {w:World} {g t:Nat} {a b c d e f:Value} (h:w.heap[g]? =some (.cells #[a,b,c,d,e,f] t (0,0))):w.cell? ⟨g,0,none⟩=some a∧w.cell? ⟨g,1,none⟩=some b∧w.cell? ⟨g,2,none⟩=some c∧w.cell? ⟨g,3,none⟩=some d∧w.cell? ⟨g,4,none⟩=some e∧w.cell? ⟨g,5,none⟩=some f:=
 ⟨cell_of_row w g 0 _ _ _ h,cell_of_row w g 1 _ _ _ h,cell_of_row w g 2 _ _ _ h,cell_of_row w g 3 _ _ _ h,cell_of_row w g 4 _ _ _ h,cell_of_row w g 5 _ _ _ h⟩
theorem BJ (w:World) (g:Nat) (a b c d:Value):w.grownBy ((((w.setCell ⟨g,0,none⟩ a).setCell ⟨g,1,none⟩ b).setCell ⟨g,2,none⟩ c).setCell ⟨g,3,none⟩ d) (some g):=
 AZ (AZ (AZ (Aj w g 0 a) 1 b) 2 c) 3 d
theorem Ct.shapes {lo:Nat} {w:World} {m i e c:Value} {k:AH} (h:Ct lo w m i e c k):(∃a n q,m= .slice a n q)∧(∃a n q,i= .slice a n q)∧(∃a n q,e= .slice a n q)∧∃a n q,c= .slice a n q:=by obtain⟨⟨_,h1⟩,h2,⟨_,h3⟩,h4⟩:=h;obtain⟨_,_,rfl,_,_⟩:=h1.1.rd.shape;obtain⟨_,_,rfl,_,_⟩:=h2.rd.shape;obtain⟨_,_,rfl,_,_⟩:=h3.1.rd.shape;obtain⟨_,_,rfl,_,_⟩:=h4.rd.shape;exact⟨⟨_,_,_,rfl⟩,⟨_,_,_,rfl⟩,⟨_,_,_,rfl⟩,⟨_,_,_,rfl⟩⟩
theorem Kd (w:World) (a b c:Obj):(((w.alloc a).alloc b).alloc c).heap[w.heap.size]? =some a∧(((w.alloc a).alloc b).alloc c).heap[w.heap.size+1]? =some b∧(((w.alloc a).alloc b).alloc c).heap[w.heap.size+1+1]? =some c∧Below w.heap.size w (((w.alloc a).alloc b).alloc c)∧(((w.alloc a).alloc b).alloc c).heap.size=w.heap.size+3:=by have h1:=heap_alloc_new w a;have h2:=heap_alloc_new (w.alloc a) b;have h3:=heap_alloc_new ((w.alloc a).alloc b) c;have h4:=AG (AG h1 (AF _ b)) (AF _ c);have h5:=AG h2 (AF _ c);simp only[World.size_alloc] at h2 h3 h5;refine⟨h4,h5,h3,(FQ w a b).trans ((AF _ c).mono (FQ w a b).size),by simp⟩
theorem Gv {w:World} {g t:Nat} {m i e c m' i' e' c':Value} (h:w.heap[g]? =some (.cells #[m,i,e,c] t (0,0))):((((w.setCell ⟨g,0,none⟩ m').setCell ⟨g,1,none⟩ i').setCell ⟨g,2,none⟩ e').setCell ⟨g,3,none⟩ c').cell? ⟨g,0,none⟩=some m'∧((((w.setCell ⟨g,0,none⟩ m').setCell ⟨g,1,none⟩ i').setCell ⟨g,2,none⟩ e').setCell ⟨g,3,none⟩ c').cell? ⟨g,1,none⟩=some i'∧((((w.setCell ⟨g,0,none⟩ m').setCell ⟨g,1,none⟩ i').setCell ⟨g,2,none⟩ e').setCell ⟨g,3,none⟩ c').cell? ⟨g,2,none⟩=some e'∧((((w.setCell ⟨g,0,none⟩ m').setCell ⟨g,1,none⟩ i').setCell ⟨g,2,none⟩ e').setCell ⟨g,3,none⟩ c').cell? ⟨g,3,none⟩=some c':=AB (DB h)
theorem Qx (m i e c:Value) (k:AH) (call:AM) (w:World) (h:L6 w m i e c k) (hk:DV k) (he:0≤call.e) (hn:call.e<3) (hnm:call.nm.size≤maxLen) (hcc:call.c≤9223372036854775807):
 Calls prog 38 #[.agg #[m,i,e,c], .agg #[.int .i64 call.k, .int .i64 call.e, .int .i64 call.a, .int .i64 call.b, .int .i64 call.c, .string call.nm]] w (NZ w (AO k call)):=by
 have C:=AA (fun(lo g:Nat) (w:World) (m i e c:Value) (h:G2 lo w g m i e c k) (hlo:lo≤w.heap.size)=>U3 h hlo hk call he hn hnm hcc);have HR:=AA h;have HK:=AA hk;have HN:=AA (@MG k call);generalize AO k call=res at C HN ⊢;obtain⟨kr,vr,nr⟩:=res;obtain⟨ck,ce,ca,cb,cc,nm⟩:=call;simp only[AM.on,AM.onCells] at C;clear he hn hnm hcc h hk;go_in;go_wp2_with fail;obtain⟨B0,B1,B2,hb0,hs0⟩:=Kd w (.cells #[m,i,e,c] 27) (.cells #[.int .i64 ck, .int .i64 ce, .int .i64 ca, .int .i64 cb, .int .i64 cc, .string nm] 48) (.cells #[.slice none 0 0, .slice none 0 0, .slice none 0 0, .slice none 0 0] 27);generalize((w.alloc _).alloc _).alloc _=W0 at*;refine(PI m i e c k W0 (HR.out.below hb0) HK.out).mono ?_;rintro r w1 ⟨m1,i1,e1,c1,rfl,O1,b1⟩;have hs1:=b1.size;obtain⟨⟨ma,mn,mc,rfl⟩,⟨ia,iN,ic,rfl⟩,⟨ea,en,ec,rfl⟩,⟨qa,qn,qc,rfl⟩⟩:=O1.shapes;have N3:=heap_alloc_new w1 (.cells #[.slice ma mn mc, .slice ia iN ic, .slice ea en ec, .slice qa qn qc] 27);have b2:=AF w1 (.cells #[.slice ma mn mc, .slice ia iN ic, .slice ea en ec, .slice qa qn qc] 27);obtain⟨y0,y1,y2,y3,y4,y5⟩:=ME (AG (AG B1 b1) b2);have hI:=AA (show G2 W0.heap.size _ w1.heap.size _ _ _ _ k from⟨N3,hs1,O1.below b2⟩);have hb1:=AA (b1.trans (b2.mono hs1));clear N3 O1 b1 b2 B1;go_wp2_with fail;refine(C.out _ _ _ _ _ _ _ hI.out (by have:=hb1.out.size;omega)).mono ?_;rintro r w3 ⟨rfl,hk3,b3⟩;have hb3:=hb1.out.trans b3;have hlt:w.heap.size+1+1<W0.heap.size:=by omega
 have B0':=(hb3.block _ (by omega)).trans B0;have B2':=(hb3.block _ (by omega)).trans B2;have HW3:=AA (hb0.trans (hb3.mono hb0.size));clear y0 y1 y2 y3 y4 y5 hI hb1 b3 B0 B2 C
 by_cases h0:nr=0
 ·subst h0
  have t0:((0:Int)==0)=true:=rfl;obtain⟨m',i',e',c',hI3⟩:=hk3 rfl;obtain⟨⟨ma',mn',mc',rfl⟩,⟨ia',iN',ic',rfl⟩,⟨ea',en',ec',rfl⟩,⟨qa',qn',qc',rfl⟩⟩:=hI3.2.2.shapes;obtain⟨x0,x1,x2,x3⟩:=hI3.cells;have hfz:=AI B2';obtain⟨z0,z1,z2,z3⟩:=AB B2';obtain⟨E0,E1,E2,E3⟩:=Gv (m':= .slice ma' mn' mc') (i':= .slice ia' iN' ic') (e':= .slice ea' en' ec') (c':= .slice qa' qn' qc') B2';have HE:=AA (And.intro E0 (And.intro E1 (And.intro E2 E3)));have hgr:=BJ w3 (w.heap.size+1+1) (.slice ma' mn' mc') (.slice ia' iN' ic') (.slice ea' en' ec') (.slice qa' qn' qc');have HR4:=AA (show Ct w.heap.size _ (.slice ma' mn' mc') (.slice ia' iN' ic') (.slice ea' en' ec') (.slice qa' qn' qc') kr from(hI3.2.2.far hgr B2' (by decide) (by decide) (by decide) (by decide) (by decide) (by decide)).lower hb0.size);have HB4:=AA (AN HW3.out hgr (by omega) HW3.out.size);clear E0 E1 E2 E3 hI3 hk3 hgr B0' B2' HN hb3;go_wp2_with fail;obtain⟨E0,E1,E2,E3⟩:=HE.out;exact bodyPost_ret (v:= .tuple #[.agg #[_,_,_,_],_,_]) (by simp[results,Tryz.results38,go_sem,E0,E1,E2,E3]) rfl ⟨_,_,_,_,rfl,HR4.out,HB4.out⟩
 ·have t0:(nr==0)=false:=by simp[h0]
  have hN:=HN.out h0;simp only[Prod.mk.injEq,and_true] at hN;obtain⟨rfl,rfl⟩:=hN;obtain⟨x0,x1,x2,x3⟩:=AB B0';clear hk3;go_wp2_with fail;refine(PI m i e c kr w3 (HR.out.below HW3.out) HK.out).mono ?_;rintro r w4 ⟨m4,i4,e4,c4,rfl,O4,b4⟩;have B4:=AG B2' b4;have hfz:=AI B4;obtain⟨z0,z1,z2,z3⟩:=AB B4;obtain⟨E0,E1,E2,E3⟩:=Gv (m':=m4) (i':=i4) (e':=e4) (c':=c4) B4;have HE:=AA (And.intro E0 (And.intro E1 (And.intro E2 E3)));have hgr:=BJ w4 (w.heap.size+1+1) m4 i4 e4 c4;have HR4:=AA (show Ct w.heap.size _ m4 i4 e4 c4 kr from(O4.far hgr B4 (by decide) (by decide) (by decide) (by decide) (by decide) (by decide)).lower HW3.out.size);have HB4:=AA (AN (HW3.out.trans (b4.mono HW3.out.size)) hgr (by omega) (by have:=HW3.out.size;have:=b4.size;omega));obtain⟨⟨_,_,_,rfl⟩,⟨_,_,_,rfl⟩,⟨_,_,_,rfl⟩,⟨_,_,_,rfl⟩⟩:=O4.shapes;clear E0 E1 E2 E3 O4 b4 B4 hgr B0' B2' x0 x1 x2 x3;go_wp2_with fail;obtain⟨E0,E1,E2,E3⟩:=HE.out;exact bodyPost_ret (v:= .tuple #[.agg #[_,_,_,_],_,_]) (by simp[results,Tryz.results38,go_sem,E0,E1,E2,E3]) rfl ⟨_,_,_,_,rfl,HR4.out,HB4.out⟩
end Go.Proofs.YteocokgpmgfbaaaGreatDoor
