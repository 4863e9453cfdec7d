/-
  Packed:18 texts.
-/
import Derived.Test.YteocokgpmgfbaaaGreatDoorY1
import Derived.Test.YteocokgpmgfbaaaGreatDoorY8
import Derived.Test.YteocokgpmgfbaaaGreatDoorY3
import Derived.Test.YteocokgpmgfbaaaGreatDoorY4
import Derived.Test.YteocokgpmgfbaaaGreatDoorY5
set_option linter.unusedVariables false
set_option linter.unusedSimpArgs false
set_option maxHeartbeats 16000000
set_option maxRecDepth 100000
namespace Go.Proofs.YteocokgpmgfbaaaGreatDoor
open Go.Proofs.Tryz
open Go.RowKit
theorem Mo (v:Value) (xs:List AL) (f:Nat) (w:World) (h:BH w v xs) (hok:A3 xs=true) (hf:f<12) (hk:(infoAt xs f).k=1) (hr:(infoAt xs f).r=0):
 Calls prog 93 #[v, .int .i64 f] w fun e w'=>∃v',e= .returned (.tuple #[v', .bool true])∧AC w.heap.size 91 3 AX w' v' (xs.set f AL.zero)∧Below w.heap.size w w':=by
 have hl:=(Au.1 hok).1;have C1:=AA (fun W (hW:Below w.heap.size w W)=>by have:=Dl v xs W (A6.below h hW) (Be hok);rw[hok] at this;exact this);have HE:=AA (show Bv (f:Int) 0 11=true from Ac.2 (by omega));have HR:=AA (fun W (hW:Below w.heap.size w W)=>A6.below h hW);obtain⟨ai,ci,rfl,hci,hcim,H2⟩:=A6.open Ak (by decide) h;obtain⟨bi,offi,rfl,hbi,D0,_,D2⟩:=H2.infoCells (show f<xs.length by omega);have hfl:(f:Int)<xs.length:=by omega
 have t1:((infoAt xs f).k !=1)=false:=by simp[hk]
 have t2:¬0<(infoAt xs f).r:=by omega
 have Hl:=AA hl;have hb:=Below.refl w.heap.size w;clear h hok hk hr H2 hl;go_in;go_wp2_with fail;refine(C1.out _ hb).mono ?_;rintro e w_ ⟨rfl,hb_⟩;replace hb:=hb.trans (hb_.mono hb.size);clear hb_;go_wp2_with fail;refine(CY _ _).mono ?_;rintro e w2 ⟨rfl,rfl⟩;rw[HE.out];replace D0:=(hb.cell (p:=⟨bi,offi+f*3,none⟩) hbi).trans D0;replace D2:=(hb.cell (p:=⟨bi,offi+f*3+2,none⟩) hbi).trans D2;have Hb1:=AA hb;go_wp2_with (at_builtin;go_must (refine EZ (cs:=AX) rfl rfl 91 (.agg #[.int .i64 0, .string ⟨#[]⟩, .int .i64 0]) 3 32 underlying23 Tryz.infoInfoK rfl (by decide) rfl (Bw AX _ _ _) rfl (HR.out _ (Hb1.out.trans ((AF _ _).mono Hb1.out.size))) (Dy _) (by have:=Hl.out;omega) (by decide) (by simp) ?_;intro v' w9 hO hb9));have hb2:=(Hb1.out.trans ((AF _ _).mono Hb1.out.size)).trans (hb9.mono Hb1.out.size);obtain⟨q,cap,rfl,c1,c2,q1,q2,hfz⟩:=hO.shapeOwn (by have:=Hl.out;omega);have hS:=AA (AC.stored Ak hO (show f<xs.length by have:=Hl.out;omega) AL.zero);obtain⟨d0,d1,d2⟩:=AC.infoCells hO (show f<xs.length by have:=Hl.out;omega);have hB:=AA (AN hb2 hS.out.2 (Nat.le_trans Hb1.out.size q1) hb2.size);have hlo:=Hb1.out.size;unfold maxLen at c2;have hn0:¬(f:Int)<0:=by omega
 clear hO hb9 hb2 hb D0 D2;go_wp2_with fail;go_ret2;exact⟨_,rfl,hS.out.1.lower hlo,hB.out⟩
theorem NS (v:Value) (xs:List AL) (f:Nat) (w:World) (h:BH w v xs) (hok:A3 xs=true) (hf:f<12) (hk:(infoAt xs f).k=1) (hr:(infoAt xs f).r≠0):
 Calls prog 93 #[v, .int .i64 f] w fun e w'=>∃v',e= .returned (.tuple #[v', .bool false])∧Below w.heap.size w w':=by
 have hl:=(Au.1 hok).1;have hr0:=(FR ((Au.1 hok).2 f hf)).2.1;have C1:=AA (fun W (hW:Below w.heap.size w W)=>by have:=Dl v xs W (A6.below h hW) (Be hok);rw[hok] at this;exact this);have HE:=AA (show Bv (f:Int) 0 11=true from Ac.2 (by omega));obtain⟨ai,ci,rfl,hci,hcim,H2⟩:=A6.open Ak (by decide) h;obtain⟨bi,offi,rfl,hbi,D0,_,D2⟩:=H2.infoCells (show f<xs.length by omega);have hfl:(f:Int)<xs.length:=by omega
 have t1:((infoAt xs f).k !=1)=false:=by simp[hk]
 have t2:0<(infoAt xs f).r:=by omega
 have hb:=Below.refl w.heap.size w;clear h hok hk hr H2 hl hr0;go_in;go_wp2_with fail;refine(C1.out _ hb).mono ?_;rintro e w_ ⟨rfl,hb_⟩;replace hb:=hb.trans (hb_.mono hb.size);clear hb_;go_wp2_with fail;refine(CY _ _).mono ?_;rintro e w2 ⟨rfl,rfl⟩;rw[HE.out];replace D0:=(hb.cell (p:=⟨bi,offi+f*3,none⟩) hbi).trans D0;replace D2:=(hb.cell (p:=⟨bi,offi+f*3+2,none⟩) hbi).trans D2;go_wp2_with fail;go_ret2;exact⟨_,rfl,hb.alloc hb.size _⟩
theorem Oy (v rv:Value) (xs:List AL) (f:Nat) (x kind:Int) (ss:List ByteArray) (w:World) (h:BH w v xs) (hl:xs.length=12) (hI:Hj xs) (hv:BG w rv ss) (hs:Dr ss) (hx:x≤9223372036854775807) (hk:2≤kind∧kind≤3):
 Calls prog 210 #[v, .int .i64 f, .int .i64 x, .int .i64 kind,rv] w fun e w'=>e= .returned (.bool (EY xs f kind ss x))∧Below w.heap.size w w':=by
 cases hg:BV x
 ·have V:=AA (Dh hg)
  have G:=AA (show EY xs f kind ss x=(x==0) by simp only[EY,hg];rw[Bool.eq_iff_iff];simp);obtain⟨_,_,rfl,_⟩:=h.shape;obtain⟨_,_,rfl,_⟩:=hv.shape;clear hg h hl hI hv hs;go_in;go_wp2_with (go_at_call 97;refine(Bz _ _ hx).mono ?_;rintro e w' ⟨rfl,rfl⟩;rw[V.out]);go_ret;exact⟨AP G.out.symm,Below.refl _ _⟩
 ·have V:=AA (Dd hg)
  have hF:=Dg hg;have G:=Nh (infos:=xs) (f:=f) (kind:=kind) (ss:=ss) hg;have hxl:A1 x<xs.length:=by omega
  have HC:=AA (J3 rv ss (infoAt xs (A1 x)).g w hv hs (hI _ (List.mem_of_getElem? (Br hxl))));obtain⟨a,c,rfl,_,_,H⟩:=A6.open Ak (by decide) h;obtain⟨b,off,rfl,hbl,D0,D1,_⟩:=H.infoCells hxl;obtain⟨_,_,rfl,_⟩:=hv.shape;generalize A1 x=o at*;generalize Cc ss (infoAt xs o).g=mb at HC G;have hol:(o:Int)<xs.length:=by omega
  clear hg h hl hI hv hs H hxl hF
  by_cases e1:o=f
  ·have t1:((o:Int) !=(f:Int))=false:=by simp[e1]
   have R:=AA (show EY xs f kind ss x=false by rw[G];simp[e1]);clear G e1;go_in;go_wp2_with (go_at_call 97;refine(Bz _ _ hx).mono ?_;rintro e w' ⟨rfl,rfl⟩;rw[V.out]);go_ret;exact⟨AP R.out.symm,Below.refl _ _⟩
  ·have t1:((o:Int) !=(f:Int))=true:=by simp;omega
   by_cases e2:(infoAt xs o).k=kind - 1
   ·have t2:((infoAt xs o).k==kind - 1)=true:=by simp[e2]
    have R:=AA (show EY xs f kind ss x=mb by rw[G];simp[e1,e2]);clear G e1 e2;go_in;go_wp2_with (go_at_call 97;refine(Bz _ _ hx).mono ?_;rintro e w' ⟨rfl,rfl⟩;rw[V.out]);refine HC.out.mono ?_;rintro e w2 ⟨rfl,b2⟩;go_wp2_with fail;go_ret;exact⟨AP R.out.symm,b2⟩
   ·have t2:((infoAt xs o).k==kind - 1)=false:=by simp[e2]
    have R:=AA (show EY xs f kind ss x=false by rw[G];simp[e2]);clear G e1 e2;go_in;go_wp2_with (go_at_call 97;refine(Bz _ _ hx).mono ?_;rintro e w' ⟨rfl,rfl⟩;rw[V.out]);go_ret;exact⟨AP R.out.symm,Below.refl _ _⟩
theorem R9 {m:List (List Int)} (hm:Bq m=true) {f:Nat} (hf:f<12) {k:Nat} (hk:k<4):(AK m f)[k]? =some (Ar m f k):=by have:=(BZ.1 ((Af.1 hm).2 f hf)).1;unfold Ar;exact Ba (by omega)
theorem Vh {m:List (List Int)} (hm:Bq m=true) {f:Nat} (hf:f<12) {k:Nat} (hk:k<4):Ar m f k≤9223372036854775807:=by obtain⟨h4,hw⟩:=BZ.1 ((Af.1 hm).2 f hf);have:=(hw _ (List.mem_of_getElem? (R9 hm hf hk))).2;omega
theorem TI (v iv rv:Value) (m:List (List Int)) (xs:List AL) (f:Nat) (kind:Int) (ss:List ByteArray) (w:World) (h:BI w v m) (hm:Bq m=true) (hI:BH w iv xs) (hl:xs.length=12) (hsI:Hj xs) (hf:f<12) (hk:Bg kind=true) (hv:BG w rv ss) (hs:Dr ss):
 Calls prog 184 #[v,iv, .int .i64 f, .int .i64 kind,rv] w fun e w'=>e= .returned (.bool (Gp m xs f kind ss))∧Below w.heap.size w w':=by
 have hk2:2≤kind∧kind≤3:=by simp only[Bg,Bool.or_eq_true,decide_eq_true_eq] at hk;omega
 have CE:=AA (fun(x:Int) (hx:x≤9223372036854775807) W (hW:Below w.heap.size w W)=>Oy iv rv xs f x kind ss W (A6.below hI hW) hl hsI (A6.below hv hW) hs hx hk2);have Hm:=AA hm;have Hrl:=AA (BZ.1 ((Af.1 hm).2 f hf)).1;have hml:=(Af.1 hm).1;obtain⟨a,c,rfl,_,_,H⟩:=h.open;obtain⟨_,_,rfl,_⟩:=hI.shape;obtain⟨_,_,rfl,_⟩:=hv.shape;have HH:=AA H;have hfl:(f:Int)<m.length:=by omega
 clear h hm hI hl hsI hk hv hs hk2 hml H;go_in;go_wp2_with fail;go_loopw [11] (fun ix wr=>∃k:Nat,k≤4∧ix= .int .i64 k∧(∀j,j<k→EY xs f kind ss (Ar m f j)=true)∧Below w.heap.size w wr) (fun ix _=>4 - (intOf ix).toNat)
 case atStart=>exact⟨0,Nat.zero_le _,rfl,fun j hj=>absurd hj (Nat.not_lt_zero _),Below.refl _ _⟩
 case round=>
  obtain⟨k,hk,rfl,hpre,hb⟩:=hrel;have Hpre:=AA hpre;clear hpre
  by_cases hlt:k<4
  ·have hlti:(k:Int)<(4:Int):=by omega
   obtain⟨b,off,b2,off2,c2,rfl,hbl,D,hbl2,hc4,W0⟩:=(HH.out.below hb).row4 Hm.out hf;have D2:=W0 k hlt;have C:=AA (CE.out (Ar m f k) (Vh Hm.out hf hlt) wr hb);clear W0;cases hp:EY xs f kind ss (Ar m f k)
   ·have S:=AA (show Gp m xs f kind ss=false from MC (R9 Hm.out hf hlt) hp)
    have Hp:=AA hp;clear hp;go_wp2_with fail;refine C.out.mono ?_;rintro e w2 ⟨rfl,b2⟩;rw[Hp.out];go_wp2_with fail;go_ret;exact⟨AP S.out.symm,hb.trans (b2.mono hb.size)⟩
   ·have Hp:=AA hp
    clear hp;go_wp2_with fail;refine C.out.mono ?_;rintro e w2 ⟨rfl,b2⟩;rw[Hp.out];go_wp2_with fail;go_roundw
    case rel=>exact⟨k+1,by omega,by go_num,BK Hpre.out Hp.out,hb.trans (b2.mono hb.size)⟩
    case measure=>simp[intOf];omega
  ·have ek:k=4:=by omega
   have hpre:=Hpre.out;rw[ek] at hpre;have S:=AA (show Gp m xs f kind ss=true from KI (f:=Ar m f) (fun k hk=>R9 Hm.out hf (by have:=Hrl.out;omega)) (fun j hj=>hpre j (by have:=Hrl.out;omega)));clear Hpre hpre;go_wp2_with fail;go_ret;exact⟨AP S.out.symm,hb⟩
theorem Rj {infos:List AL} {fs:List Nat} {n:Int} {j:Nat} (hj:j<fs.length):Av infos (fs.take (j+1)) n=(Av infos (fs.take j) n).set (IT fs j) (DD n (infoAt (Av infos (fs.take j) n) (IT fs j))):=by unfold Av;rw[DI (F9 hj),List.foldl_append];exact FH
theorem MT (v iv:Value) (m:List (List Int)) (xs:List AL) (f:Nat) (n:Int) (w:World) (h:BI w v m) (hm:Bq m=true) (hI:BH w iv xs) (hio:A3 xs=true) (hf:f<12) (hn:n=1∨n= -1):
 Calls prog 185 #[v,iv, .int .i64 f, .int .i64 n] w fun e w'=>∃v',e= .returned v'∧AC w.heap.size 91 3 AX w' v' (Av xs (named (AK m f)) n)∧Below w.heap.size w w':=by
 have Hl:=AA (Au.1 hio).1;have hml:=(Af.1 hm).1;have HR:=AA (fun W (hW:Below w.heap.size w W)=>A6.below hI hW);have Hrow:=AA (fun W (hW:Below w.heap.size w W)=>h.below hW);have hrl:=(BZ.1 ((Af.1 hm).2 f hf)).1;have CN:=AA (fun u W hu=>G6 u (AK m f) W hu (by omega) (Kh hm hf));have h4:=PF hm hf;have H12:=AA (fun g (hg:g∈named (AK m f))=>Ek hg);have Hio:=AA hio;have Hn:=AA hn;have hnb: -1≤n∧n≤1:=by omega
 obtain⟨am,cm,rfl,_,_,_⟩:=h.open;obtain⟨ai,ci,rfl,_,_⟩:=hI.shape;have hfm:(f:Int)<m.length:=by omega
 have hfl:f<m.length:=by omega
 generalize named (AK m f)=fs at*;clear h hm hI hio hn hrl hml;go_in;go_wp2_with (at_builtin;go_must (refine EZ (cs:=AX) rfl rfl 91 (.agg #[.int .i64 0, .string ⟨#[]⟩, .int .i64 0]) 3 32 underlying23 Tryz.infoInfoK rfl (by decide) rfl (Bw AX _ _ _) rfl (HR.out _ (AF _ _)) (Dy _) (by have:=Hl.out;omega) (by decide) (by simp) ?_;intro v' w9 hO hb9));have hb1:=(AF w _).trans hb9;obtain⟨q,cap,rfl,c1,c2,q1,q2,hfz⟩:=hO.shapeOwn (by have:=Hl.out;omega);unfold maxLen at c2;have HO:=AA hO;have Hb1:=AA hb1;obtain⟨a9,c9,e9,_,_,H9⟩:=(Hrow.out _ hb1).open;simp only[Value.slice.injEq] at e9;obtain⟨rfl,_,rfl⟩:=e9;obtain⟨b,off,u,rfl,hbl,D,hR⟩:=H9 f hfl;have C:=AA (CN.out u w9 hR);obtain⟨_,_,rfl,_⟩:=hR.open;have hn0:¬(f:Int)<0:=by omega
 clear hO hb9 hb1 H9 hR CN hfz;go_wp2_with fail;refine C.out.mono ?_;rintro e w1 ⟨v1,rfl,o1,b1⟩;obtain⟨a1,c1',rfl,hc1⟩:=Df o1;have HO1:=AA (HO.out.below b1);have Ho1:=AA o1;have Hw1:=AA (Hb1.out.trans (b1.mono Hb1.out.size));clear o1 b1 C D;go_wp2_with fail;go_loopw [11] (fun ix wr=>∃k:Nat,k≤fs.length∧ix= .int .i64 k∧AC w.heap.size 91 3 AX wr (.slice (some ⟨q,0,none⟩) xs.length cap) (Av xs (fs.take k) n)∧AE w9.heap.size wr (.slice a1 fs.length c1') (Ah fs)∧Below w.heap.size w wr) (fun ix _=>fs.length - (intOf ix).toNat)
 case atStart=>exact⟨0,Nat.zero_le _,rfl,by simpa[Av] using HO1.out,Ho1.out,Hw1.out⟩
 case round=>
  obtain⟨k,hk,rfl,hO,o1,hb⟩:=hrel
  by_cases hlt:k<fs.length
  ·have hlti:(k:Int)<(fs.length:Int):=by omega
   obtain⟨a2,c2',e2,_,_,H1⟩:=(AE.rd o1).open;simp only[Value.slice.injEq] at e2;obtain⟨rfl,e2,rfl⟩:=e2;clear e2;obtain⟨b1,off1,rfl,D⟩:=H1.at (k:=k) (by rw[CU];exact hlt);rw[Ou] at D;have hlb1:=(World.ownsRow.lt o1 b1 rfl).2;have ho:=H12.out _ (List.mem_of_getElem? (F9 hlt));have RN:=Rj (infos:=xs) (n:=n) hlt;obtain⟨r1,r2,_⟩:=G8 Hio.out (fs:=fs.take k) (by rw[List.length_take];omega) Hn.out ho;have hlX:(Av xs (fs.take k) n).length=xs.length:=Gf;rw[←hlX] at hO;generalize Av xs (fs.take k) n=X at*;generalize IT fs k=o at*;have hoX:o<X.length:=by rw[hlX,Hl.out];exact ho
   have hol:(o:Int)<xs.length:=by rw[Hl.out];omega
   have ho0:¬(o:Int)<0:=by omega
   obtain⟨_,_,d2⟩:=AC.infoCells hO hoX;have hq:=(World.ownsRow.lt hO q rfl).2;have HOX:=AA hO;have HoX:=AA (Br hoX);have HlX:=AA hlX;have Ho1k:=AA o1;have E:=AA RN;have Hb:=AA hb;clear RN hO o1 hb H1 hlX hoX;go_wp2_with fail;refine Al 17 44 [.s q xs.length cap, .v (.slice (some ⟨b1,off1,none⟩) fs.length c1'), .i ((k:Int)), .p b1 (off1+k), .i ((o:Int)), .s q xs.length cap, .v (.slice (some ⟨b1,off1,none⟩) fs.length c1'), .i ((k:Int)), .p b1 (off1+k), .i ((o:Int)), .p q (o*3), .p q (o*3+2), .i ((infoAt X o).r), .i n, .i ((infoAt X o).r+n), .p q (o*3), .p q (o*3+2)] (fun _ _ _=>True) ?_ ?_
   ·intro i hi o ho a wx Hb Hd hG K HK
    have mc0:=bc hG hlb1 D;have mc1:=bc hG hq d2
    match i,hi with
    |0,_|1,_|2,_|5,_|6,_|7,_|11,_|13,_|16,_=>exact sP ho HK Hb Hd
    |3,_|8,_|10,_|15,_=>exact sI ho HK Hb Hd (hr:=by clear Hd Hb HK;go_simp)
    |4,_|9,_|12,_=>exact sL ho HK Hb Hd (hl:=Fg (by assumption))
    |14,_=>clear mc0 mc1;obtain rfl:=So_ ho;have d12:(a.tmps[38]?.getD undef)= .int .i64 ((infoAt X o).r):=Bx Hd 12;have d13:(a.tmps[39]?.getD undef)= .int .i64 n:=Bx Hd 13;clear Hd Hb;refine Aa.of rfl ?_;go_simp;exact HK.out _ _ (by show Value.int .i64 (IntKind.i64.wrap _)=_;rw[IntWalk.i64_in _ (by omega)]) (Below.refl _ _)
    |_+17,hq=>exact absurd hq (by omega)
   ·intro vs wx hR hG
    have q14:(vs 14)= .int .i64 ((infoAt X o).r+n):=BT hR 14;have q16:(vs 16)= .pointer (some ⟨q,o*3+2,none⟩):=BT hR 16;clear hR;simp only[Ai,AQ,List.range,List.range.loop,List.foldl_cons,List.foldl_nil,q14,q16];simp;clear q14 q16;have S2w:=AA (AC.stored1 Ak (HOX.out.below hG) HoX.out (j:=2) (by decide) (y:=DD n (infoAt X o)) (u:= .int .i64 ((infoAt X o).r+n)) rfl);have hbg:=AA (Hb.out.trans (hG.mono Hb.out.size));have Fw:wx.frozen? ⟨q,o*3+2,none⟩=false:=World.ownsRow.frozenAt (HOX.out.below hG) (o*3+2);obtain⟨cur,hcur⟩:=A8 (HOX.out.below hG) q rfl;have N2:=AA (EN (Ho1k.out.below hG) S2w.out.2 hcur (by decide));have hqw:q<wx.heap.size:=(World.ownsRow.lt (HOX.out.below hG) q rfl).2;rw[HlX.out] at S2w;have d2w:=(hG.cell (p:=⟨q,o*3+2,none⟩) hq).trans d2;clear hG hcur d2 D;go_wp2_with fail;go_roundw
    case rel=>exact⟨k+1,by omega,by go_num,by rw[E.out];exact S2w.out.1,N2.out,AN hbg.out S2w.out.2 q1 hbg.out.size⟩
    case measure=>simp[intOf];omega
  ·obtain rfl:k=fs.length:=by omega
   rw[List.take_length] at hO;go_wp2_with fail;go_ret;exact⟨_,rfl,hO,hb⟩
theorem MR {xs:List AL} {f:Nat} {kind:Int} (h:A3 xs=true) (hf:f<12) (hk0:(infoAt xs f).k≠0) (hk:1≤kind∧kind≤3):A3 (AR xs f (Co kind))=true:=by
 obtain⟨hl,h2⟩:=Au.1 h;refine Au.2 ⟨by rw[As];exact hl,fun g hg=>?_⟩;rw[EM]
 split
 ·have:=h2 f hf
  rw[J8 hk0] at this;rw[J8 (x:=Co kind _) (by show kind≠0;omega)]
  show(Bv kind 1 3&&Az (infoAt xs f).g&&Bv (infoAt xs f).r 0 50)=true
  simp only[Bool.and_eq_true] at this ⊢;exact⟨⟨Ac.2 hk,this.1.2⟩,this.2⟩
 ·exact h2 g hg
theorem NV (v iv rv:Value) (m:List (List Int)) (xs:List AL) (f:Nat) (kind:Int) (ss:List ByteArray) (w:World) (h:BI w v m) (hok:Bq m=true) (hI:BH w iv xs) (hio:A3 xs=true) (hf:f<12) (hk:Bg kind=true) (hv:BG w rv ss) (hss:Dr ss) (hr:Ax ss=true):
 Calls prog 140 #[v,iv, .int .i64 f, .int .i64 kind,rv] w (Jv (Et m xs f kind ss) w):=by
 have hl:=(Au.1 hio).1;have hk2:2≤kind∧kind≤3:=by simp only[Bg,Bool.or_eq_true,decide_eq_true_eq] at hk;omega
 have hr0:=(FR ((Au.1 hio).2 f hf)).2.1;have C1:=AA (fun W (hW:Below w.heap.size w W)=>LM v iv m xs f W (h.below hW) hok (A6.below hI hW) hio hf);have C3:=AA (fun W (_:Below w.heap.size w W)=>Ab (by have:=FT kind W;rw[hk] at this;exact this));have C4:=AA (fun W (hW:Below w.heap.size w W)=>by have:=Fm rv ss W (A6.below hv hW) hss;rw[hr] at this;exact this);have C7:=AA (fun W (hW:Below w.heap.size w W)=>TI v iv rv m xs f kind ss W (h.below hW) hok (A6.below hI hW) hl (Be hio) hf hk (A6.below hv hW) hss);have HR:=AA (fun W (hW:Below w.heap.size w W)=>A6.below hI hW);have SM:=AA (JZ (kind:=kind) hok hio hf (.inl (rfl:(1:Int)=1)));have PN:=AA (PL (m:=m) (infos:=xs) (f:=f) (kind:=kind) (ss:=ss));have CAdd0:=AA (fun(hk1:(infoAt xs f).k=1) W (hW:Below w.heap.size w W) u (hu:BH W u (AR xs f (Co kind)))=>MT v u m (AR xs f (Co kind)) f 1 W (h.below hW) hok hu (MR hio hf (by omega) (by omega)) hf (.inl rfl));obtain⟨ai,ci,rfl,hci,hcim,H2⟩:=A6.open Ak (by decide) hI;obtain⟨bi,offi,rfl,hbi,D0,_,D2⟩:=H2.infoCells (show f<xs.length by omega);obtain⟨_,_,rfl,_⟩:=h.open;obtain⟨_,_,rfl,_⟩:=hv.shape;have hfl:(f:Int)<xs.length:=by omega
 have Hl:=AA hl;have hb:=Below.refl w.heap.size w;clear h hok hI hio hk hv hss hr hl H2;go_in;go_wp2_with fail;refine(C1.out _ hb).mono ?_;rintro e w_ ⟨rfl,hb_⟩;replace hb:=hb.trans (hb_.mono hb.size);clear hb_;go_wp2_with fail;refine(C3.out _ hb).mono ?_;rintro e w_ ⟨rfl,hb_⟩;replace hb:=hb.trans (hb_.mono hb.size);clear hb_;go_wp2_with fail;refine(C4.out _ hb).mono ?_;rintro e w4 ⟨rfl,n4,rfl⟩;replace hb:=hb.trans (Ao (Below.refl _ _) n4|>.mono hb.size);have Hb:=AA hb
 by_cases e1:(infoAt xs f).k=1
 ·by_cases e2:(infoAt xs f).r=0
  ·have t1:((infoAt xs f).k !=1)=false:=by simp[e1]
   have t2:¬0<(infoAt xs f).r:=by omega
   have P:=AA (show Et m xs f kind ss=if Gp m xs f kind ss=false then(xs,2)
    else if A3 (AR (Av xs (named (AK m f)) 1) f (Co kind)) then(AR (Av xs (named (AK m f)) 1) f (Co kind),0) else(xs,1) by rw[PN.out,if_neg (by simp[e1,e2])])
   have CAdd:=AA (CAdd0.out e1);clear e1 e2 CAdd0 PN hr0;go_wp2_with (at_builtin;go_must (refine EZ (cs:=AX) rfl rfl 91 (.agg #[.int .i64 0, .string ⟨#[]⟩, .int .i64 0]) 3 32 underlying23 Tryz.infoInfoK rfl (by decide) rfl (Bw AX _ _ _) rfl (HR.out _ (Hb.out.trans ((AF _ _).mono Hb.out.size))) (Dy _) (by have:=Hl.out;omega) (by decide) (by simp) ?_;intro v' w9 hO hb9;have Hb9:=AA ((Hb.out.trans ((AF _ _).mono Hb.out.size)).trans (hb9.mono Hb.out.size));replace D0:=(Hb9.out.cell (p:=⟨bi,offi+f*3,none⟩) hbi).trans D0;replace D2:=(Hb9.out.cell (p:=⟨bi,offi+f*3+2,none⟩) hbi).trans D2;clear hb9));refine(C7.out _ Hb9.out).mono ?_;rintro e w10 ⟨rfl,b10⟩;replace hO:=AC.below hO b10;have Hb9':=AA (Hb9.out.trans (b10.mono Hb9.out.size));clear b10 D0 D2;cases hg:Gp m xs f kind ss
   ·have P2:=AA (show Et m xs f kind ss=(xs,2) by rw[P.out,hg];rfl)
    clear hg;have HO:=AA hO;clear hO;go_wp2_with fail;go_ret2;exact⟨_,by rw[P2.out];rfl,by rw[P2.out];exact HO.out.lower Hb.out.size,Hb9'.out⟩
   ·have P2:=AA (show Et m xs f kind ss=if A3 (AR (Av xs (named (AK m f)) 1) f (Co kind)) then(AR (Av xs (named (AK m f)) 1) f (Co kind),0) else(xs,1) by rw[P.out,hg];rfl)
    clear hg;obtain⟨q,cap,rfl,c1,c2,q1,q2,hfz⟩:=hO.shapeOwn (by have:=Hl.out;omega);unfold maxLen at c2;obtain⟨d0,_,_⟩:=AC.infoCells hO (show f<xs.length by have:=Hl.out;omega);have Fr:=hfz (f*3);have S0:=AC.stored1 Ak hO (Br (show f<xs.length by have:=Hl.out;omega)) (j:=0) (by decide) (y:=Co kind (infoAt xs f)) (u:= .int .i64 kind) rfl;rw[Nat.add_zero] at S0;have hb10:=AN Hb9'.out S0.2 (Nat.le_trans Hb.out.size q1) Hb9'.out.size;rw[←FH (f:=Co kind)] at S0;have S:=AA (AC.lower S0.1 Hb.out.size);have hn0:¬(f:Int)<0:=by omega
    clear S0 hO hfz;go_wp2_with fail;generalize hwN:w10.setCell _ _=wN at*;clear d0 Fr hwN q2;have hXl:(AR xs f (Co kind)).length=xs.length:=As;have CA:=CAdd.out wN hb10 (.slice (some ⟨q,0,none⟩) xs.length cap) (AC.rd S.out);clear hXl;refine CA.mono ?_;rintro e w11 ⟨v11,rfl,o11,b11⟩;rw[←LN] at o11;have hb11:=hb10.trans (b11.mono hb10.size);have O11:=AA (AC.lower o11 hb10.size);have R11:=AC.rd o11;clear o11 b11 S;generalize hM:AR (Av xs (named (AK m f)) 1) f (Co kind)=M at*;have C9:=Dl v11 M w11 R11 SM.out;obtain⟨a11,c11,rfl,_,_⟩:=R11.shape;cases hq:A3 M
    ·have P3:=AA (show Et m xs f kind ss=(xs,1) by rw[P2.out,hq];rfl)
     rw[hq] at C9;have C:=AA C9;have Hb11:=AA hb11;clear C9 hq R11 hb11 hb10;go_wp2_with fail;refine(C.out).mono ?_;rintro e w12 ⟨rfl,b12⟩;have hb12:=Hb11.out.trans (b12.mono Hb11.out.size);have Hb12:=AA hb12;clear b12 hb12 c1 c2;go_wp2_with (at_builtin;go_must (refine EZ (cs:=AX) rfl rfl 91 (.agg #[.int .i64 0, .string ⟨#[]⟩, .int .i64 0]) 3 32 underlying23 Tryz.infoInfoK rfl (by decide) rfl (Bw AX _ _ _) rfl (HR.out _ (Hb12.out.trans ((AF _ _).mono Hb12.out.size))) (Dy _) (by have:=Hl.out;omega) (by decide) (by simp) ?_;intro v' w9 hO hb9));have hb13:=(Hb12.out.trans ((AF _ _).mono Hb12.out.size)).trans (hb9.mono Hb12.out.size);have HO:=AA (hO.lower Hb12.out.size);have HB13:=AA hb13;clear hO hb9 hb13;go_wp2_with fail;go_ret2;exact⟨_,by rw[P3.out];rfl,by rw[P3.out];exact HO.out,HB13.out⟩
    ·have P3:=AA (show Et m xs f kind ss=(M,0) by rw[P2.out,hq];rfl)
     rw[hq] at C9;have C:=AA C9;have Hb11:=AA hb11;clear C9 hq R11 hb11 hb10;go_wp2_with fail;refine(C.out).mono ?_;rintro e w12 ⟨rfl,b12⟩;have hb12:=Hb11.out.trans (b12.mono Hb11.out.size);have O12:=AA (O11.out.below b12);clear b12 c1 c2;go_wp2_with fail;go_ret2;exact⟨_,by rw[P3.out];rfl,by rw[P3.out];exact O12.out,hb12⟩
  ·have t1:((infoAt xs f).k !=1)=false:=by simp[e1]
   have t2:0<(infoAt xs f).r:=by omega
   have P2:=AA (show Et m xs f kind ss=(xs,1) by rw[PN.out,if_pos (.inr e2)]);clear e1 e2 CAdd0 PN hr0;go_wp2_with (at_builtin;go_must (refine EZ (cs:=AX) rfl rfl 91 (.agg #[.int .i64 0, .string ⟨#[]⟩, .int .i64 0]) 3 32 underlying23 Tryz.infoInfoK rfl (by decide) rfl (Bw AX _ _ _) rfl (HR.out _ (Hb.out.trans ((AF _ _).mono Hb.out.size))) (Dy _) (by have:=Hl.out;omega) (by decide) (by simp) ?_;intro v' w9 hO hb9;have Hb9:=AA ((Hb.out.trans ((AF _ _).mono Hb.out.size)).trans (hb9.mono Hb.out.size));replace D0:=(Hb9.out.cell (p:=⟨bi,offi+f*3,none⟩) hbi).trans D0;replace D2:=(Hb9.out.cell (p:=⟨bi,offi+f*3+2,none⟩) hbi).trans D2;clear hb9));go_ret2;exact⟨_,by rw[P2.out];rfl,by rw[P2.out];exact hO.lower Hb.out.size,Hb9.out⟩
 ·have t1:((infoAt xs f).k !=1)=true:=by simp[e1]
  have P2:=AA (show Et m xs f kind ss=(xs,1) by rw[PN.out,if_pos (.inl e1)]);clear e1 CAdd0 PN hr0;go_wp2_with (at_builtin;go_must (refine EZ (cs:=AX) rfl rfl 91 (.agg #[.int .i64 0, .string ⟨#[]⟩, .int .i64 0]) 3 32 underlying23 Tryz.infoInfoK rfl (by decide) rfl (Bw AX _ _ _) rfl (HR.out _ (Hb.out.trans ((AF _ _).mono Hb.out.size))) (Dy _) (by have:=Hl.out;omega) (by decide) (by simp) ?_;intro v' w9 hO hb9;have Hb9:=AA ((Hb.out.trans ((AF _ _).mono Hb.out.size)).trans (hb9.mono Hb.out.size));replace D0:=(Hb9.out.cell (p:=⟨bi,offi+f*3,none⟩) hbi).trans D0;clear hb9));go_ret2;exact⟨_,by rw[P2.out];rfl,by rw[P2.out];exact hO.lower Hb.out.size,Hb9.out⟩
theorem Le (v iv:Value) (m:List (List Int)) (xs:List AL) (f:Nat) (w:World) (h:BI w v m) (hok:Bq m=true) (hI:BH w iv xs) (hio:A3 xs=true) (hf:f<12):
 Calls prog 141 #[v,iv, .int .i64 f] w (Jv (Cq m xs f) w):=by
 have hl:=(Au.1 hio).1;have hr0:=(FR ((Au.1 hio).2 f hf)).2.1;have C1:=AA (fun W (hW:Below w.heap.size w W)=>LM v iv m xs f W (h.below hW) hok (A6.below hI hW) hio hf);have HR:=AA (fun W (hW:Below w.heap.size w W)=>A6.below hI hW);have SM:=AA (JZ (kind:=1) hok hio hf (.inr (rfl:(-1:Int)= -1)));have PN:=AA (Kf (m:=m) (infos:=xs) (f:=f));have CAdd0:=AA (fun(hk1:Bg (infoAt xs f).k=true) W (hW:Below w.heap.size w W) u (hu:BH W u (AR xs f (Co 1)))=>MT v u m (AR xs f (Co 1)) f (-1) W (h.below hW) hok hu (MR hio hf (by intro e;rw[e] at hk1;cases hk1) (by omega)) hf (.inr rfl));obtain⟨ai,ci,rfl,hci,hcim,H2⟩:=A6.open Ak (by decide) hI;obtain⟨bi,offi,rfl,hbi,D0,_,D2⟩:=H2.infoCells (show f<xs.length by omega);obtain⟨_,_,rfl,_⟩:=h.open;have hfl:(f:Int)<xs.length:=by omega
 have Hl:=AA hl;have hb:=Below.refl w.heap.size w;have CK:=AA (fun W=>FT (infoAt xs f).k W);clear h hok hI hio hl H2;go_in;go_wp2_with fail;refine(C1.out _ hb).mono ?_;rintro e w_ ⟨rfl,hb_⟩;replace hb:=hb.trans (hb_.mono hb.size);clear hb_;have Hb:=AA hb;clear hb;go_wp2_with (at_builtin;go_must (refine EZ (cs:=AX) rfl rfl 91 (.agg #[.int .i64 0, .string ⟨#[]⟩, .int .i64 0]) 3 32 underlying23 Tryz.infoInfoK rfl (by decide) rfl (Bw AX _ _ _) rfl (HR.out _ (Hb.out.trans ((AF _ _).mono Hb.out.size))) (Dy _) (by have:=Hl.out;omega) (by decide) (by simp) ?_;intro v' w9 hO hb9;have Hb9:=AA ((Hb.out.trans ((AF _ _).mono Hb.out.size)).trans (hb9.mono Hb.out.size));replace D0:=(Hb9.out.cell (p:=⟨bi,offi+f*3,none⟩) hbi).trans D0;replace D2:=(Hb9.out.cell (p:=⟨bi,offi+f*3+2,none⟩) hbi).trans D2;clear hb9));have Hb9':=Hb9;refine(CK.out _).mono ?_;rintro e w10 ⟨rfl,rfl⟩;cases e1:Bg (infoAt xs f).k
 ·have P2:=AA (show Cq m xs f=(xs,1) by rw[PN.out,if_pos (.inl e1)])
  clear e1 CAdd0 PN hr0;have HO:=AA hO;clear hO;go_wp2_with fail;go_ret2;exact⟨_,by rw[P2.out];rfl,by rw[P2.out];exact HO.out.lower Hb.out.size,Hb9.out⟩
 ·by_cases e2:(infoAt xs f).r=0
  ·have t2:¬0<(infoAt xs f).r:=by omega
   have P2:=AA (show Cq m xs f=if A3 (AR (Av xs (named (AK m f)) (-1)) f (Co 1)) then(AR (Av xs (named (AK m f)) (-1)) f (Co 1),0) else(xs,2) by rw[PN.out,if_neg (by simp[e1,e2])]);have CAdd:=AA (CAdd0.out e1);clear e1 e2 CAdd0 PN hr0;obtain⟨w10,rfl⟩:∃w10:World,w10=w9:=⟨_,rfl⟩
   obtain⟨q,cap,rfl,c1,c2,q1,q2,hfz⟩:=hO.shapeOwn (by have:=Hl.out;omega);unfold maxLen at c2;obtain⟨d0,_,_⟩:=AC.infoCells hO (show f<xs.length by have:=Hl.out;omega);have Fr:=hfz (f*3);have S0:=AC.stored1 Ak hO (Br (show f<xs.length by have:=Hl.out;omega)) (j:=0) (by decide) (y:=Co 1 (infoAt xs f)) (u:= .int .i64 1) rfl;rw[Nat.add_zero] at S0;have hb10:=AN Hb9'.out S0.2 (Nat.le_trans Hb.out.size q1) Hb9'.out.size;rw[←FH (f:=Co 1)] at S0;have S:=AA (AC.lower S0.1 Hb.out.size);have hn0:¬(f:Int)<0:=by omega
   clear S0 hO hfz;go_wp2_with fail;generalize hwN:w10.setCell _ _=wN at*;clear d0 Fr hwN q2;have hXl:(AR xs f (Co 1)).length=xs.length:=As;have CA:=CAdd.out wN hb10 (.slice (some ⟨q,0,none⟩) xs.length cap) (AC.rd S.out);clear hXl;refine CA.mono ?_;rintro e w11 ⟨v11,rfl,o11,b11⟩;rw[←LN] at o11;have hb11:=hb10.trans (b11.mono hb10.size);have O11:=AA (AC.lower o11 hb10.size);have R11:=AC.rd o11;clear o11 b11 S;generalize hM:AR (Av xs (named (AK m f)) (-1)) f (Co 1)=M at*;have C9:=Dl v11 M w11 R11 SM.out;obtain⟨a11,c11,rfl,_,_⟩:=R11.shape;cases hq:A3 M
   ·have P3:=AA (show Cq m xs f=(xs,2) by rw[P2.out,hq];rfl)
    rw[hq] at C9;have C:=AA C9;have Hb11:=AA hb11;clear C9 hq R11 hb11 hb10;go_wp2_with fail;refine(C.out).mono ?_;rintro e w12 ⟨rfl,b12⟩;have hb12:=Hb11.out.trans (b12.mono Hb11.out.size);have Hb12:=AA hb12;clear b12 hb12 c1 c2;go_wp2_with (at_builtin;go_must (refine EZ (cs:=AX) rfl rfl 91 (.agg #[.int .i64 0, .string ⟨#[]⟩, .int .i64 0]) 3 32 underlying23 Tryz.infoInfoK rfl (by decide) rfl (Bw AX _ _ _) rfl (HR.out _ (Hb12.out.trans ((AF _ _).mono Hb12.out.size))) (Dy _) (by have:=Hl.out;omega) (by decide) (by simp) ?_;intro v' w9 hO hb9));have hb13:=(Hb12.out.trans ((AF _ _).mono Hb12.out.size)).trans (hb9.mono Hb12.out.size);have HO:=AA (hO.lower Hb12.out.size);have HB13:=AA hb13;clear hO hb9 hb13;go_wp2_with fail;go_ret2;exact⟨_,by rw[P3.out];rfl,by rw[P3.out];exact HO.out,HB13.out⟩
   ·have P3:=AA (show Cq m xs f=(M,0) by rw[P2.out,hq];rfl)
    rw[hq] at C9;have C:=AA C9;have Hb11:=AA hb11;clear C9 hq R11 hb11 hb10;go_wp2_with fail;refine(C.out).mono ?_;rintro e w12 ⟨rfl,b12⟩;have hb12:=Hb11.out.trans (b12.mono Hb11.out.size);have O12:=AA (O11.out.below b12);clear b12 c1 c2;go_wp2_with fail;go_ret2;exact⟨_,by rw[P3.out];rfl,by rw[P3.out];exact O12.out,hb12⟩
  ·have t2:0<(infoAt xs f).r:=by omega
   have P2:=AA (show Cq m xs f=(xs,1) by rw[PN.out,if_pos (.inr e2)]);clear e1 e2 CAdd0 PN hr0;have HO:=AA hO;clear hO;go_wp2_with fail;go_ret2;exact⟨_,by rw[P2.out];rfl,by rw[P2.out];exact HO.out.lower Hb.out.size,Hb9.out⟩
theorem FG {k:AH} (h:DV k) {j:Nat} (hj:j<3):Dr (AD k.envs j).rights:=Fa (h.rights j hj)
theorem Fq (m i e c:Value) (k:AH) (en:Nat) (g:ByteArray) (w:World) (h:Ew w e k.envs) (hk:DV k) (hen:en<3) (hg:g.size≤maxLen):
 Calls prog 89 #[.agg #[m,i,e,c], .int .i64 en, .string g] w fun r w'=>r= .returned (.bool (Cc (AD k.envs en).rights g))∧Below w.heap.size w w':=by
 have N0:=heap_alloc_new w (.cells #[m,i,e,c] 27);have hb0:=AF w (.cells #[m,i,e,c] 27);obtain⟨a,cp,rfl,hc,hcm,H⟩:=(h.below hb0).open;obtain⟨b,off,ua,uc,rfl,hbl,D0,_,hR⟩:=H en (by rw[hk.envl];exact hen);have C:=AA (J3 _ _ g _ hR (FG hk hen) hg);have hel:(en:Int)<k.envs.length:=by rw[hk.envl];omega
 obtain⟨_,_,x2,_⟩:=AB N0;have hn0:¬(en:Int)<0:=by omega
 clear h hk H hR N0;go_in;go_wp2_with fail;generalize w.alloc _=W0 at*;refine C.out.mono ?_;rintro e w1 ⟨rfl,b1⟩;go_wp2_with fail;go_ret;exact⟨rfl,hb0.trans (b1.mono hb0.size)⟩
theorem NJ (m i e c:Value) (k:AH) (x:Int) (w:World) (h:BI w m k.mem) (hi:BH w i k.infos) (hm:Bq k.mem=true) (hl:k.infos.length=12) (hx:x≤9223372036854775807):
 Calls prog 99 #[.agg #[m,i,e,c], .int .i64 x] w fun r w'=>∃v',r= .returned v'∧AE w.heap.size w' v' (Ah (IQ k x))∧Below w.heap.size w w':=by
 have N0:=heap_alloc_new w (.cells #[m,i,e,c] 27);have hb0:=AF w (.cells #[m,i,e,c] 27);obtain⟨x0,x1,_,_⟩:=AB N0;have hlt0:=Aq N0;cases hg:BV x
 ·have V:=AA (Dh hg)
  have E:IQ k x=[]:=by unfold IQ;rw[hg];rfl
  rw[E];have o1:=FW (w.alloc (.cells #[m,i,e,c] 27));simp only[World.size_alloc] at o1;clear hg E;go_in;go_wp2_with (go_at_call 97;refine(Bz _ _ hx).mono ?_;rintro e w' ⟨rfl,rfl⟩;rw[V.out]);go_ret;exact⟨_,rfl,J7 o1 (Nat.le_succ _),hb0.alloc hb0.size _⟩
 ·have V:=AA (Dd hg)
  have hF:=Dg hg;have BE:IQ k x=A1 x::(if(infoAt k.infos (A1 x)).k=2 then named (AK k.mem (A1 x)) else[]):=by unfold IQ;rw[hg,if_pos rfl]
  rw[BE];generalize A1 x=o at*;obtain⟨ai,ci,rfl,_,_,HI⟩:=A6.open Ak (by decide) (A6.below hi hb0);obtain⟨bi,offi,rfl,hbi,D0,_,_⟩:=HI.infoCells (show o<k.infos.length by omega);have hol:(o:Int)<k.infos.length:=by omega
  have ho0:¬(o:Int)<0:=by omega
  have o1:=SV (w.alloc (.cells #[m, .slice (some ⟨bi,offi,none⟩) k.infos.length ci,e,c] 27)) o;clear hg BE HI hi
  by_cases h2:(infoAt k.infos o).k=2
  ·have t2:((infoAt k.infos o).k !=2)=false:=by simp[h2]
   rw[if_pos h2];have hml:=(Af.1 hm).1;obtain⟨am,cm,rfl,_,_,HM⟩:=(h.below hb0).open;obtain⟨bm,offm,u,rfl,hbm,DM,hR⟩:=HM o (by omega);have hom:(o:Int)<k.mem.length:=by omega
   have hrl:=(BZ.1 ((Af.1 hm).2 o hF)).1;have CN:=AA (fun W (hW:Below _ _ W)=>G6 u (AK k.mem o) W (Ap.below hR hW) (by omega) (Kh hm hF));have hnl:=PF hm hF;obtain⟨_,_,rfl,_⟩:=hR.open;generalize named (AK k.mem o)=ns at*;simp only[World.size_alloc] at o1;have hbm':=hbm;simp only[World.size_alloc] at hbm';clear h2 h hm hl HM hR hml hrl N0;go_in;go_wp2_with (go_at_call 97;refine(Bz _ _ hx).mono ?_;rintro e w' ⟨rfl,rfl⟩;rw[V.out]);generalize w.alloc _=W0 at*;have C:=AA (CN.out _ (AF W0 (.cells #[.int .i64 o] 3)));refine C.out.mono ?_;rintro r w1 ⟨v1,rfl,n1,b1⟩;have O1:=AA (AE.below o1 b1);have hbw:=(AF W0 (.cells #[.int .i64 o] 3)).trans (b1.mono (AF W0 (.cells #[.int .i64 o] 3)).size);have hws:=hbw.size;have hb1:=hb0.trans (hbw.mono hb0.size);have HRd:=AA (AE.rd n1);have Hb1:=AA hb1;obtain⟨az,cz,rfl,hcz⟩:=Df n1;clear o1 n1 b1 hb1 hbw CN C x0 x1 D0 DM;go_wp2_with (at_builtin;go_must (refine BX (lo:=w.heap.size+1) (n:=1) (xs:=(Ah [o]).map (Value.int .i64)) (m:=ns.length) (news:=(Ah ns).map (Value.int .i64)) rfl rfl 3 (.int .i64 0) 1 8 underlying28 Tryz.infoInt rfl (by decide) rfl (Ic O1.out (Below.refl _ _)) rfl (by have:=HRd.out;unfold Ap at this;rw[CU] at this;exact this) (JC _) (by unfold maxLen;omega) (by omega) (by omega) ?_;intro o' w9 k1 k2 k3 k4));go_ret;exact⟨_,rfl,J7 (GG (ys:=[o]) (zs:=ns) k1) (Nat.le_succ _),Hb1.out.trans (k4.mono (Nat.le_succ _))⟩
  ·have t2:((infoAt k.infos o).k !=2)=true:=by simp[h2]
   rw[if_neg h2];simp only[World.size_alloc] at o1;obtain⟨_,_,rfl,_⟩:=h.open;clear h2 h hm hl N0;go_in;go_wp2_with (go_at_call 97;refine(Bz _ _ hx).mono ?_;rintro e w' ⟨rfl,rfl⟩;rw[V.out]);go_ret;exact⟨_,rfl,J7 o1 (Nat.le_succ _),hb0.alloc hb0.size _⟩
theorem Um {lo:Nat} {w:World} {ops:Array Oper} {rest:List Oper} {o:Oper} {a:Act} {Q:Exit→Act→World→Prop} {s x:Operand} {t:TypeId}
 (hgd:o.guard=none) (ho:o.op= .call {callee:= .builtin .append,args:= #[s,x],argTypes:= #[t,t]})
 (ht:prog.underlying t=some (.slice 3)) {v u:Value} {xs:List Int} (hs:a.eval s=v) (hown:AE lo w v [])
 (hx:a.eval x=u) (hr:Ap w u xs) (h63:xs.length≤1048576) (hlo:lo≤w.heap.size)
 (hK:∀v' w',AE lo w' v' xs→Below lo w w'→wpList prog ops Q rest (a.put o.dst v') w'):wpList prog ops Q (o::rest) a w:=by
 refine BX (n:=0) (xs:=[]) (m:=xs.length) (news:=xs.map (Value.int .i64)) hgd ho 3 (.int .i64 0) 1 8 ht Tryz.infoInt rfl (by decide) hs hown hx hr (JC _) ?_ ?_ hlo fun v' w' k1 _ _ k4=>hK v' w' ?_ k4
 ·unfold maxLen;omega
 ·omega
 ·unfold AE
  rw[Nat.zero_add] at k1;exact k1
theorem RY (v:Value) (m:List (List Int)) (w:World) (h:BI w v m) (hl:m.length≤100) (hr:∀f,f<m.length→(AK m f).length≤100):
 Calls prog 78 #[v] w fun e w'=>∃v' vs,e= .returned v'∧AV w.heap.size w' v' vs m∧Below w.heap.size w w':=by
 obtain⟨a,c,rfl,hc,hcm,H⟩:=h.open;unfold maxLen at hcm;have HH:=AA H;have HR:=AA hr;clear h H hr;go_in;go_wp2_with fail;go_loopw [3,4] (fun o i wr=>∃k:Nat,∃vs:List Value,k≤m.length∧vs.length=k∧i= .int .i64 k∧AV w.heap.size wr o vs (m.take k)∧Below w.heap.size w wr) (fun _ i _=>m.length - (intOf i).toNat)
 case atStart=>exact⟨0,[],by omega,rfl,rfl,⟨By _ _ _,Ei.nil,Bj.nil⟩,AF _ _⟩
 case round=>
  obtain⟨k,vs,hk,hl2,rfl,hO,hbel⟩:=hrel;have Hl:=AA hl2;clear hl2
  by_cases hlt:k<m.length
  ·have hlti:(k:Int)<(m.length:Int):=by omega
   have hv1:vs.length≤100:=by rw[Hl.out];omega
   have hrl:=HR.out k hlt;have TK:=AA (DI (PS hlt));obtain⟨b,off,u,rfl,hbl,D,hR⟩:=(HH.out.below hbel) k hlt;generalize AK m k=r at*;have hR1:=AA (Ap.below hR (AF wr (.cells #[] 3)));obtain⟨_,_,rfl,_⟩:=hR.open;have HO:=AA hO;have Hbel:=AA hbel;obtain⟨_,_,rfl,_⟩:=hO.1.rd.shape;clear hR hO hbel;go_wp2_with (first|(at_builtin;refine Um rfl rfl underlying28 rfl (FW wr) rfl hR1.out (by omega) (AF wr (.cells #[] 3)).size ?_;intro u' w2 hu hb2;have Hb2:=AA ((AF wr (.cells #[] 3)).trans hb2);have Hu:=AA hu;obtain⟨ua,uc,rfl,_⟩:=(AE.rd hu).open;clear hu hb2)|(at_builtin;go_must (refine BX (lo:=w.heap.size) (n:=vs.length) (xs:=Bf Dz vs) (m:=1) rfl rfl 28 (.slice none 0 0) 1 24 underlying22 Tryz.infoRow rfl (by decide) rfl ((HO.out.below Hb2.out).below (AF _ _)).1 rfl (Rd.newsAt _ #[_] _ 1 1 _ (by simp) rfl (by simp[maxLen])) (by simp[Value.oneCell']) (by unfold maxLen;omega) (by omega) (by have h1:=Hbel.out.size;have h2:=Hb2.out.size;simp;omega) ?_;intro o' w3 g1 g2 g3 g4)));go_roundw
   case rel=>have hb2:=Hb2.out.trans ((AF w2 (.cells #[.slice ua r.length uc] 28)).mono Hb2.out.size);have hP:=HO.out.push hb2 Hbel.out.size (Hu.out.below (AF _ _)) g1 g2;exact⟨k+1,vs++[.slice ua r.length uc],by omega,by rw[List.length_append,Hl.out];rfl,by go_num,by rw[TK.out];exact hP,(Hbel.out.trans (hb2.mono Hbel.out.size)).trans g4⟩
   case measure=>simp[intOf];omega
  ·obtain rfl:k=m.length:=by omega
   rw[List.take_length] at hO;go_wp2_with fail;go_ret;exact⟨_,vs,rfl,hO,hbel⟩
theorem RZ (w:World):Calls prog 11 #[] w fun e w'=>∃v vs,e= .returned v∧AV w.heap.size w' v vs (List.replicate 16 [])∧Below w.heap.size w w':=by
 go_in;go_wp2_with fail;go_loopw [1,2] (fun o i wr=>∃k:Nat,∃vs:List Value,k≤16∧vs.length=k∧i= .int .i64 k∧AV w.heap.size wr o vs (List.replicate k [])∧Below w.heap.size w wr) (fun _ i _=>16 - (intOf i).toNat)
 case atStart=>exact⟨0,[],by omega,rfl,rfl,⟨By _ _ _,Ei.nil,Bj.nil⟩,AF _ _⟩
 case round=>
  obtain⟨k,vs,hk,hl2,rfl,hO,hbel⟩:=hrel;have Hl:=AA hl2;clear hl2
  by_cases hlt:k<16
  ·have hv1:vs.length≤16:=by rw[Hl.out];omega
   have hb2:=(AF wr (.cells #[] 3));have HO:=AA hO;have Hbel:=AA hbel;obtain⟨_,_,rfl,_⟩:=hO.1.rd.shape;clear hO hbel;go_wp2_with (at_builtin;go_must (refine BX (lo:=w.heap.size) (n:=vs.length) (xs:=Bf Dz vs) (m:=1) (news:=[.slice (some ⟨wr.heap.size,0,none⟩) 0 0]) rfl rfl 28 (.slice none 0 0) 1 24 underlying22 Tryz.infoRow rfl (by decide) rfl ((HO.out.below hb2).below (AF _ _)).1 rfl (Rd.newsAt _ #[_] _ 1 1 _ (by simp) rfl (by simp[maxLen])) (by simp[Value.oneCell']) (by unfold maxLen;omega) (by omega) (by have h1:=Hbel.out.size;have h2:=hb2.size;simp;omega) ?_;intro o' w3 g1 g2 g3 g4));go_roundw
   case rel=>have hb3:=hb2.trans ((AF (wr.alloc (.cells #[] 3)) (.cells #[.slice (some ⟨wr.heap.size,0,none⟩) 0 0] 28)).mono hb2.size);have hu:AE wr.heap.size (wr.alloc (.cells #[] 3)) (.slice (some ⟨wr.heap.size,0,none⟩) 0 0) []:=FW wr;have hP:=HO.out.push hb3 Hbel.out.size (hu.below (AF _ _)) g1 g2;exact⟨k+1,vs++[.slice (some ⟨wr.heap.size,0,none⟩) 0 0],by omega,by rw[List.length_append,Hl.out];rfl,by go_num,by rw[List.replicate_succ'];exact hP,(Hbel.out.trans (hb3.mono Hbel.out.size)).trans g4⟩
   case measure=>simp[intOf];omega
  ·obtain rfl:k=16:=by omega
   go_wp2_with fail;go_ret;exact⟨_,vs,rfl,hO,hbel⟩
theorem Sc {w:World} {g T:Nat} {a b c d:Value} (h:w.heap[g]? =some (.cells #[a,b,c,d] T (0,0))):Rd w (.slice (some ⟨g,0,none⟩) 1 1) 4 1 [a,b,c,d]:=by
 obtain⟨h0,h1,h2,h3⟩:=AB h;refine⟨_,_,rfl,Nat.le_refl _,by simp[maxLen],rfl,nofun,fun _=>⟨g,0,rfl,fun j hj=>?_⟩⟩;rw[Nat.zero_add]
 match j,hj with
 |0,_=>exact h0
 |1,_=>exact h1
 |2,_=>exact h2
 |3,_=>exact h3
 |_+4,hj=>exact absurd hj (by omega)
theorem Vc {w:World} {b off n c sz k:Nat} {xs:List Value} (h:Rd w (.slice (some ⟨b,off,none⟩) n c) sz n xs) (hk:k≤n):Rd w (.slice (some ⟨b,off+k*sz,none⟩) (n - k) (c - k)) sz (n - k) (xs.drop (k*sz)):=by
 obtain⟨ao,c',hv,hmc,hcm,hl,hnil,hc⟩:=h;simp only[Value.slice.injEq,true_and] at hv;obtain⟨rfl,rfl⟩:=hv;have hks:k*sz+(n - k)*sz=n*sz:=by rw[←Nat.add_mul];congr 1;omega
 refine⟨_,_,rfl,by omega,by omega,by rw[List.length_drop];omega,(by intro e;cases e),fun hk0=>?_⟩;obtain⟨b',off',e,hcell⟩:=hc (by omega);obtain⟨rfl,rfl⟩:b=b'∧off=off':=by simpa using e
 refine⟨_,_,rfl,fun j hj=>?_⟩;rw[Nat.add_assoc,hcell (k*sz+j) (by omega),List.getElem?_drop]
theorem UX {w:World} {q cap:Nat} {F:List AU} (h:A6 4 AJ w (.slice (some ⟨q,0,none⟩) F.length cap) F) (h1:1≤F.length):A6 4 AJ w (.slice (some ⟨q,4,none⟩) (F.length - 1) (cap - 1)) (F.drop 1):=by
 have r:=Vc h (k:=1) h1;cases F with
 |nil=>simp at h1
 |cons y F=>exact r
theorem Nj (v:Value) (c:List AU) (x:AU) (w:World) (h:Bh w v c) (hl:c.length≤4):
 Calls prog 110 #[v, .agg #[.int .i64 x.e, .int .i64 x.p, .int .i64 x.f, .bool x.w]] w fun r w'=>∃v',r= .returned v'∧AC w.heap.size 95 4 AJ w' v' (El c x)∧Below w.heap.size w w':=by
 obtain⟨a,cp,rfl,hc,hcm,H⟩:=A6.open BP (by decide) h;have hc4:c.length≤1000:=by omega
 unfold maxLen at hcm;have HH:=AA H;obtain⟨N0,N1,hb0,hs0⟩:=Mr w (.cells #[.int .i64 x.e, .int .i64 x.p, .int .i64 x.f, .bool x.w] 95) (.cells #[] 95);have o1:AC (w.heap.size+1) 95 4 AJ ((w.alloc (.cells #[.int .i64 x.e, .int .i64 x.p, .int .i64 x.f, .bool x.w] 95)).alloc (.cells #[] 95)) (.slice (some ⟨w.heap.size+1,0,none⟩) 0 0) []:=by have:=Bw AJ (w.alloc (.cells #[.int .i64 x.e, .int .i64 x.p, .int .i64 x.f, .bool x.w] 95)) 95 4;simp only[World.size_alloc] at this;exact this
 have HL4:=AA hl;have PE:El c x=(if(c.filter fun y=>!Ay x.e x.p y).length=4 then(c.filter fun y=>!Ay x.e x.p y).drop 1 else c.filter fun y=>!Ay x.e x.p y)++[x]:=rfl;have HPE:=AA PE;clear h H hl PE hs0 N1;go_in;go_wp2_with fail;generalize(w.alloc _).alloc _=wa at o1 hb0 N0 ⊢;generalize(Value.slice (some ⟨w.heap.size+1,0,none⟩) 0 0)=o at o1 ⊢;go_loopw [5,6] (fun o ix wr=>∃k:Nat,k≤c.length∧ix= .int .i64 k∧AC (w.heap.size+1) 95 4 AJ wr o ((c.take k).filter fun y=>!Ay x.e x.p y)∧Below w.heap.size w wr∧wr.heap[w.heap.size]? =some (.cells #[.int .i64 x.e, .int .i64 x.p, .int .i64 x.f, .bool x.w] 95 (0,0))) (fun _ ix _=>c.length - (intOf ix).toNat)
 case atStart=>exact⟨0,Nat.zero_le _,rfl,o1,hb0,N0⟩
 case round=>
  clear o1 hb0 N0;obtain⟨k,hk,rfl,hown,hb,hN⟩:=hrel
  by_cases hlt:k<c.length
  ·have hlti:(k:Int)<(c.length:Int):=by omega
   obtain⟨b,off,rfl,hbl,D0,D1,D2,D3⟩:=(HH.out.below hb).cachedCells hlt;have Nx:=AA (Iz (p:=fun y=>!Ay x.e x.p y) (F5 hlt));have hnl:=GN (p:=fun y=>!Ay x.e x.p y) (l:=c) (k:=k);generalize Ae c k=y at D0 D1 D2 D3 Nx;generalize(c.take k).filter (fun y=>!Ay x.e x.p y)=ys at hown Nx hnl;obtain⟨x0,x1,x2,x3⟩:=AB hN;have hlx:=Aq hN;have Hown:=AA hown;have Hb:=AA hb;have HN:=AA hN;obtain⟨_,_,rfl,_⟩:=hown.rd.shape;clear hown hb hN
   by_cases e1:y.e=x.e
   ·by_cases e2:y.p=x.p
    ·skip
     have t1:(y.e !=x.e)=false:=by simp[e1]
     have t2:(y.p !=x.p)=false:=by simp[e2]
     have Nx':=AA (show(c.take (k+1)).filter (fun y=>!Ay x.e x.p y)=ys by rw[Nx.out];simp[Ay,e1,e2]);clear Nx e1 e2;go_wp2_with fail;refine Al 17 50 [.v (.slice (some ⟨b,off,none⟩) c.length cp), .i ((k:Int)), .p b (off+k*4), .p b (off+k*4), .i (y.e), .p w.heap.size 0, .i (x.e), .b false, .b false, .v (.slice (some ⟨b,off,none⟩) c.length cp), .i ((k:Int)), .p b (off+k*4), .p b (off+k*4+1), .i (y.p), .p w.heap.size 1, .i (x.p), .b false] (fun _ _ _=>True) ?_ ?_
     ·intro i hi o ho a wx Hb Hd hG K HK
      have mc0:=bc hG hbl D0;have mc1:=bc hG hlx x0;have mc2:=bc hG hbl D1;have mc3:=bc hG hlx x1
      match i,hi with
      |0,_|1,_|3,_|5,_|8,_|9,_|10,_|12,_|14,_=>exact sP ho HK Hb Hd
      |2,_|11,_=>exact sI ho HK Hb Hd (hr:=by clear Hd Hb HK;go_simp)
      |4,_|6,_|13,_|15,_=>exact sL ho HK Hb Hd (hl:=Fg (by assumption))
      |7,_=>clear mc0 mc1 mc2 mc3;obtain rfl:=So_ ho;have d4:(a.tmps[18]?.getD undef)= .int .i64 (y.e):=Bx Hd 4;have d6:(a.tmps[20]?.getD undef)= .int .i64 (x.e):=Bx Hd 6;clear Hd Hb;refine Aa.of rfl ?_;go_simp;exact HK.out _ _ rfl (Below.refl _ _)
      |16,_=>clear mc0 mc1 mc2 mc3;obtain rfl:=So_ ho;have d13:(a.tmps[27]?.getD undef)= .int .i64 (y.p):=Bx Hd 13;have d15:(a.tmps[29]?.getD undef)= .int .i64 (x.p):=Bx Hd 15;have d8:(a.tmps[22]?.getD undef)= .bool false:=Bx Hd 8;clear Hd Hb;refine Aa.yes rfl rfl d8 ?_;go_simp;exact HK.out _ _ rfl (Below.refl _ _)
      |_+17,hq=>exact absurd hq (by omega)
     ·intro vs wx hR hG
      have q8:(vs 8)= .bool false:=BT hR 8;have q16:(vs 16)= .bool false:=BT hR 16;clear hR;simp only[Ai,AQ,List.range,List.range.loop,List.foldl_cons,List.foldl_nil,q8,q16];simp;clear q8 q16;go_wp2_with fail;go_roundw
      case rel=>exact⟨k+1,by omega,by go_num,by rw[Nx'.out];exact AC.below Hown.out hG,Hb.out.trans (hG.mono Hb.out.size),AG HN.out hG⟩
      case measure=>simp[intOf];omega
    ·skip
     have t1:(y.e !=x.e)=false:=by simp[e1]
     have t2:(y.p !=x.p)=true:=by simp[e2]
     have Nx':=AA (show(c.take (k+1)).filter (fun y=>!Ay x.e x.p y)=ys++[y] by rw[Nx.out];simp[Ay,e1,e2]);clear Nx e1 e2;go_wp2_with fail;refine Al 17 50 [.v (.slice (some ⟨b,off,none⟩) c.length cp), .i ((k:Int)), .p b (off+k*4), .p b (off+k*4), .i (y.e), .p w.heap.size 0, .i (x.e), .b false, .b false, .v (.slice (some ⟨b,off,none⟩) c.length cp), .i ((k:Int)), .p b (off+k*4), .p b (off+k*4+1), .i (y.p), .p w.heap.size 1, .i (x.p), .b true] (fun _ _ _=>True) ?_ ?_
     ·intro i hi o ho a wx Hb Hd hG K HK
      have mc0:=bc hG hbl D0;have mc1:=bc hG hlx x0;have mc2:=bc hG hbl D1;have mc3:=bc hG hlx x1
      match i,hi with
      |0,_|1,_|3,_|5,_|8,_|9,_|10,_|12,_|14,_=>exact sP ho HK Hb Hd
      |2,_|11,_=>exact sI ho HK Hb Hd (hr:=by clear Hd Hb HK;go_simp)
      |4,_|6,_|13,_|15,_=>exact sL ho HK Hb Hd (hl:=Fg (by assumption))
      |7,_=>clear mc0 mc1 mc2 mc3;obtain rfl:=So_ ho;have d4:(a.tmps[18]?.getD undef)= .int .i64 (y.e):=Bx Hd 4;have d6:(a.tmps[20]?.getD undef)= .int .i64 (x.e):=Bx Hd 6;clear Hd Hb;refine Aa.of rfl ?_;go_simp;exact HK.out _ _ rfl (Below.refl _ _)
      |16,_=>clear mc0 mc1 mc2 mc3;obtain rfl:=So_ ho;have d13:(a.tmps[27]?.getD undef)= .int .i64 (y.p):=Bx Hd 13;have d15:(a.tmps[29]?.getD undef)= .int .i64 (x.p):=Bx Hd 15;have d8:(a.tmps[22]?.getD undef)= .bool false:=Bx Hd 8;clear Hd Hb;refine Aa.yes rfl rfl d8 ?_;go_simp;exact HK.out _ _ rfl (Below.refl _ _)
      |_+17,hq=>exact absurd hq (by omega)
     ·intro vs wx hR hG
      have q8:(vs 8)= .bool false:=BT hR 8;have q16:(vs 16)= .bool true:=BT hR 16;clear hR;simp only[Ai,AQ,List.range,List.range.loop,List.foldl_cons,List.foldl_nil,q8,q16];simp;clear q8 q16;have D0w:=(hG.cell (p:=⟨b,off+k*4,none⟩) hbl).trans D0;have D1w:=(hG.cell (p:=⟨b,off+k*4+1,none⟩) hbl).trans D1;have D2w:=(hG.cell (p:=⟨b,off+k*4+2,none⟩) hbl).trans D2;have D3w:=(hG.cell (p:=⟨b,off+k*4+3,none⟩) hbl).trans D3;have hbx:=Hb.out.trans (hG.mono Hb.out.size);have HOx:=AA (AC.below Hown.out hG);have hNx:=AG HN.out hG;clear D0 D1 D2 D3;go_wp2_with (at_builtin;go_must (refine BX (lo:=w.heap.size+1) (n:=ys.length) (xs:=Bf AJ ys) (m:=1) (news:=[.int .i64 y.e, .int .i64 y.p, .int .i64 y.f, .bool y.w]) rfl rfl 95 (.agg #[.int .i64 0, .int .i64 0, .int .i64 0, .bool false]) 4 32 underlying25 Tryz.infoCachedK rfl (by decide) rfl (Bn HOx.out (AF _ _)) rfl (Rd.newsAt _ #[.int .i64 y.e, .int .i64 y.p, .int .i64 y.f, .bool y.w] _ 4 1 _ rfl (by simp) (by simp[maxLen])) (by simp[Value.oneCell']) (by unfold maxLen;omega) (by omega) (by have:=hbx.size;have:=Aq hNx;simp;omega) ?_;intro o' w9 k1 k2 k3 k4));go_roundw
      case rel=>exact⟨k+1,by omega,by go_num,by rw[Nx'.out];unfold AC;rw[BN,Dn,List.length_append];exact k1,(hbx.alloc hbx.size _).trans (k4.mono (Nat.le_succ _)),(k2.block w.heap.size (by have:=Aq hNx;simp;omega) (fun e=>by have:=(HOx.out.lt _ e.symm).1;omega)).trans (AG hNx (AF _ _))⟩
      case measure=>simp[intOf];omega
   ·skip
    have t1:(y.e !=x.e)=true:=by simp[e1]
    have Nx':=AA (show(c.take (k+1)).filter (fun y=>!Ay x.e x.p y)=ys++[y] by rw[Nx.out];simp[Ay,e1]);clear Nx e1;go_wp2_with fail;refine Al 17 50 [.v (.slice (some ⟨b,off,none⟩) c.length cp), .i ((k:Int)), .p b (off+k*4), .p b (off+k*4), .i (y.e), .p w.heap.size 0, .i (x.e), .b true, .b true, .u, .u, .u, .u, .u, .u, .u, .u] (fun _ _ _=>True) ?_ ?_
    ·intro i hi o ho a wx Hb Hd hG K HK
     have mc0:=bc hG hbl D0;have mc1:=bc hG hlx x0
     match i,hi with
     |0,_|1,_|3,_|5,_|8,_=>exact sP ho HK Hb Hd
     |2,_=>exact sI ho HK Hb Hd (hr:=by clear Hd Hb HK;go_simp)
     |4,_|6,_=>exact sL ho HK Hb Hd (hl:=Fg (by assumption))
     |9,_|10,_|11,_|12,_|13,_|14,_|15,_|16,_=>exact sB ho HK Hd
     |7,_=>clear mc0 mc1;obtain rfl:=So_ ho;have d4:(a.tmps[18]?.getD undef)= .int .i64 (y.e):=Bx Hd 4;have d6:(a.tmps[20]?.getD undef)= .int .i64 (x.e):=Bx Hd 6;clear Hd Hb;refine Aa.of rfl ?_;go_simp;exact HK.out _ _ rfl (Below.refl _ _)
     |_+17,hq=>exact absurd hq (by omega)
    ·intro vs wx hR hG
     have q8:(vs 8)= .bool true:=BT hR 8;have q16:(vs 16)=undef:=BT hR 16;clear hR;simp only[Ai,AQ,List.range,List.range.loop,List.foldl_cons,List.foldl_nil,q8,q16];simp;clear q8 q16;have D0w:=(hG.cell (p:=⟨b,off+k*4,none⟩) hbl).trans D0;have D1w:=(hG.cell (p:=⟨b,off+k*4+1,none⟩) hbl).trans D1;have D2w:=(hG.cell (p:=⟨b,off+k*4+2,none⟩) hbl).trans D2;have D3w:=(hG.cell (p:=⟨b,off+k*4+3,none⟩) hbl).trans D3;have hbx:=Hb.out.trans (hG.mono Hb.out.size);have HOx:=AA (AC.below Hown.out hG);have hNx:=AG HN.out hG;clear D0 D1 D2 D3;go_wp2_with (at_builtin;go_must (refine BX (lo:=w.heap.size+1) (n:=ys.length) (xs:=Bf AJ ys) (m:=1) (news:=[.int .i64 y.e, .int .i64 y.p, .int .i64 y.f, .bool y.w]) rfl rfl 95 (.agg #[.int .i64 0, .int .i64 0, .int .i64 0, .bool false]) 4 32 underlying25 Tryz.infoCachedK rfl (by decide) rfl (Bn HOx.out (AF _ _)) rfl (Rd.newsAt _ #[.int .i64 y.e, .int .i64 y.p, .int .i64 y.f, .bool y.w] _ 4 1 _ rfl (by simp) (by simp[maxLen])) (by simp[Value.oneCell']) (by unfold maxLen;omega) (by omega) (by have:=hbx.size;have:=Aq hNx;simp;omega) ?_;intro o' w9 k1 k2 k3 k4));go_roundw
     case rel=>exact⟨k+1,by omega,by go_num,by rw[Nx'.out];unfold AC;rw[BN,Dn,List.length_append];exact k1,(hbx.alloc hbx.size _).trans (k4.mono (Nat.le_succ _)),(k2.block w.heap.size (by have:=Aq hNx;simp;omega) (fun e=>by have:=(HOx.out.lt _ e.symm).1;omega)).trans (AG hNx (AF _ _))⟩
     case measure=>simp[intOf];omega
  ·obtain rfl:k=c.length:=by omega
   rw[List.take_length] at hown;have hfl:(c.filter fun y=>!Ay x.e x.p y).length≤c.length:=List.length_filter_le ..;have hPE:=HPE.out;generalize(c.filter fun y=>!Ay x.e x.p y)=F at*;have HPE:=AA hPE;clear hPE;have hF4:F.length≤4:=by have:=HL4.out;omega
   obtain⟨x0,x1,x2,x3⟩:=AB hN;have hlx:=Aq hN;have HO:=AA hown
   by_cases h4:F.length=4
   ·have P:=AA (show El c x=F.drop 1++[x] by rw[HPE.out,if_pos h4])
    obtain⟨q,cap,rfl,c1,c2,q1,q2,hfz⟩:=hown.shapeOwn (by omega);unfold maxLen at c2;have h4i:(4:Int)≤F.length:=by omega
    have H4:=AA h4;clear h4 hown;go_wp2_with fail;have RG:=AA (UX (AC.rd HO.out) (by have:=H4.out;omega));have hG3:(F.drop 1).length≤3:=by rw[List.length_drop];have:=H4.out;omega
    generalize F.drop 1=G at*;generalize(Value.slice (some ⟨q,4,none⟩) (F.length - 1) (cap - 1))=u5 at RG ⊢;clear HO;refine Am 5 50 [.z, .v u5, .z, .a #[.int .i64 (x.e), .int .i64 (x.p), .int .i64 (x.f), .bool (x.w)], .z] (fun ix vv ww=>match ix with
     |0=>∃g,vv= .slice (some ⟨g,0,none⟩) 0 0∧wr.heap.size≤g∧ww.heap[g]? =some (.cells #[] 95 (0,0))
     |2=>AC wr.heap.size 95 4 AJ ww vv G
     |4=>∃g,vv= .slice (some ⟨g,0,none⟩) 1 1∧wr.heap.size≤g∧ww.heap[g]? =some (.cells #[.int .i64 x.e, .int .i64 x.p, .int .i64 x.f, .bool x.w] 95 (0,0))
     |_=>True) ?_ ?_ ?_
    ·intro i hi o ho a wx Hb Hd hG K HK
     have mc0:=bc hG hlx x0;have mc1:=bc hG hlx x1;have mc2:=bc hG hlx x2;have mc3:=bc hG hlx x3
     match i,hi with
     |1,_=>exact sP ho HK Hb Hd
     |3,_=>exact sL ho HK Hb Hd (hl:=Vo (by assumption) (by assumption) (by assumption) (by assumption))
     |0,_=>clear mc0 mc1 mc2 mc3;obtain rfl:=So_ ho;clear Hd Hb;refine Aa.of rfl ?_;go_simp;exact HK.out _ _ ⟨_,rfl,hG.size,heap_alloc_new _ _⟩ (AF _ _)
     |2,_=>
      clear mc0 mc1 mc2 mc3;obtain rfl:=So_ ho;have d0:∃g,(a.tmps[44]?.getD undef)= .slice (some ⟨g,0,none⟩) 0 0∧wr.heap.size≤g∧wx.heap[g]? =some (.cells #[] 95 (0,0)):=Bx Hd 0
      have d1:(a.tmps[45]?.getD undef)=u5:=Bx Hd 1;clear Hd Hb;refine Aa.of rfl ?_;obtain⟨g,d0a,d0b,d0c⟩:=d0;obtain⟨v7,w4,hrun,r1,r2,_⟩:=Cn (lo:=wr.heap.size) (w:=wx) (t:=25) (ty:=25) 95 _ 4 32 underlying25 Tryz.infoCachedK rfl (by decide) d0c d0b (A6.below RG.out hG) (JD _) (by omega);refine BR rfl (BC d0a) (BC d1) hrun ?_;exact HK.out _ _ r1 r2
     |4,_=>clear mc0 mc1 mc2 mc3;obtain rfl:=So_ ho;have d3:(a.tmps[47]?.getD undef)= .agg #[.int .i64 (x.e), .int .i64 (x.p), .int .i64 (x.f), .bool (x.w)]:=Bx Hd 3;clear Hd Hb;refine Aa.of rfl ?_;go_simp;exact HK.out _ _ ⟨_,rfl,hG.size,heap_alloc_new _ _⟩ (AF _ _)
    ·intro i hi vv wz ww' hbz hz
     match i,hi with
     |0,_=>exact(by obtain⟨g,h0,h1,h2⟩:=hz;exact⟨g,h0,h1,AG h2 hbz⟩)
     |2,_=>exact(AC.below hz hbz)
     |4,_=>exact(by obtain⟨g,h0,h1,h2⟩:=hz;exact⟨g,h0,h1,AG h2 hbz⟩)
     |1,_|3,_=>exact hz
    ·intro vs wx hR hG
     have q2:AC wr.heap.size 95 4 AJ wx (vs 2) G:=BT hR 2;have q4:∃g,(vs 4)= .slice (some ⟨g,0,none⟩) 1 1∧wr.heap.size≤g∧wx.heap[g]? =some (.cells #[.int .i64 x.e, .int .i64 x.p, .int .i64 x.f, .bool x.w] 95 (0,0)):=BT hR 4
     clear hR;simp only[Ai,AQ,List.range,List.range.loop,List.foldl_cons,List.foldl_nil];simp;generalize vs 2=z2 at q2 ⊢;generalize vs 4=z4 at q4 ⊢;obtain⟨g4,rfl,_,q4⟩:=q4;have Q2:=AA q2;have Q4:=AA (Sc q4);have hbx:=hb.trans (hG.mono hb.size);have hgs:=hG.size;obtain⟨_,_,rfl,_⟩:=q2.rd.shape;clear q2 q4 x0 x1 x2 x3;go_wp2_with (at_builtin;go_must (refine BX (lo:=wr.heap.size) (n:=G.length) (xs:=Bf AJ G) (m:=1) (news:=[.int .i64 x.e, .int .i64 x.p, .int .i64 x.f, .bool x.w]) rfl rfl 95 (.agg #[.int .i64 0, .int .i64 0, .int .i64 0, .bool false]) 4 32 underlying25 Tryz.infoCachedK rfl (by decide) rfl Q2.out rfl Q4.out (by simp[Value.oneCell']) (by unfold maxLen;omega) (by omega) hgs ?_;intro o' w9 k1 k2 k3 k4));go_ret;exact⟨_,rfl,by rw[P.out];unfold AC;rw[BN,Dn,List.length_append];exact Bd k1 hb.size,hbx.trans (k4.mono hb.size)⟩
   ·have P:=AA (show El c x=F++[x] by rw[HPE.out,if_neg h4])
    obtain⟨_,_,e5,_,_⟩:=hown.rd.shape;have hlt4:¬(4:Int)≤F.length:=by omega
    have RG:=AA hown.rd;have hG3:F.length≤3:=by omega
    clear h4 HO;cases e5;clear hown;go_wp2_with fail;generalize F=G at*;generalize(Value.slice _ G.length _)=u5 at RG ⊢;refine Am 5 50 [.z, .v u5, .z, .a #[.int .i64 (x.e), .int .i64 (x.p), .int .i64 (x.f), .bool (x.w)], .z] (fun ix vv ww=>match ix with
     |0=>∃g,vv= .slice (some ⟨g,0,none⟩) 0 0∧wr.heap.size≤g∧ww.heap[g]? =some (.cells #[] 95 (0,0))
     |2=>AC wr.heap.size 95 4 AJ ww vv G
     |4=>∃g,vv= .slice (some ⟨g,0,none⟩) 1 1∧wr.heap.size≤g∧ww.heap[g]? =some (.cells #[.int .i64 x.e, .int .i64 x.p, .int .i64 x.f, .bool x.w] 95 (0,0))
     |_=>True) ?_ ?_ ?_
    ·intro i hi o ho a wx Hb Hd hG K HK
     have mc0:=bc hG hlx x0;have mc1:=bc hG hlx x1;have mc2:=bc hG hlx x2;have mc3:=bc hG hlx x3
     match i,hi with
     |1,_=>exact sP ho HK Hb Hd
     |3,_=>exact sL ho HK Hb Hd (hl:=Vo (by assumption) (by assumption) (by assumption) (by assumption))
     |0,_=>clear mc0 mc1 mc2 mc3;obtain rfl:=So_ ho;clear Hd Hb;refine Aa.of rfl ?_;go_simp;exact HK.out _ _ ⟨_,rfl,hG.size,heap_alloc_new _ _⟩ (AF _ _)
     |2,_=>
      clear mc0 mc1 mc2 mc3;obtain rfl:=So_ ho;have d0:∃g,(a.tmps[44]?.getD undef)= .slice (some ⟨g,0,none⟩) 0 0∧wr.heap.size≤g∧wx.heap[g]? =some (.cells #[] 95 (0,0)):=Bx Hd 0
      have d1:(a.tmps[45]?.getD undef)=u5:=Bx Hd 1;clear Hd Hb;refine Aa.of rfl ?_;obtain⟨g,d0a,d0b,d0c⟩:=d0;obtain⟨v7,w4,hrun,r1,r2,_⟩:=Cn (lo:=wr.heap.size) (w:=wx) (t:=25) (ty:=25) 95 _ 4 32 underlying25 Tryz.infoCachedK rfl (by decide) d0c d0b (A6.below RG.out hG) (JD _) (by omega);refine BR rfl (BC d0a) (BC d1) hrun ?_;exact HK.out _ _ r1 r2
     |4,_=>clear mc0 mc1 mc2 mc3;obtain rfl:=So_ ho;have d3:(a.tmps[47]?.getD undef)= .agg #[.int .i64 (x.e), .int .i64 (x.p), .int .i64 (x.f), .bool (x.w)]:=Bx Hd 3;clear Hd Hb;refine Aa.of rfl ?_;go_simp;exact HK.out _ _ ⟨_,rfl,hG.size,heap_alloc_new _ _⟩ (AF _ _)
    ·intro i hi vv wz ww' hbz hz
     match i,hi with
     |0,_=>exact(by obtain⟨g,h0,h1,h2⟩:=hz;exact⟨g,h0,h1,AG h2 hbz⟩)
     |2,_=>exact(AC.below hz hbz)
     |4,_=>exact(by obtain⟨g,h0,h1,h2⟩:=hz;exact⟨g,h0,h1,AG h2 hbz⟩)
     |1,_|3,_=>exact hz
    ·intro vs wx hR hG
     have q2:AC wr.heap.size 95 4 AJ wx (vs 2) G:=BT hR 2;have q4:∃g,(vs 4)= .slice (some ⟨g,0,none⟩) 1 1∧wr.heap.size≤g∧wx.heap[g]? =some (.cells #[.int .i64 x.e, .int .i64 x.p, .int .i64 x.f, .bool x.w] 95 (0,0)):=BT hR 4
     clear hR;simp only[Ai,AQ,List.range,List.range.loop,List.foldl_cons,List.foldl_nil];simp;generalize vs 2=z2 at q2 ⊢;generalize vs 4=z4 at q4 ⊢;obtain⟨g4,rfl,_,q4⟩:=q4;have Q2:=AA q2;have Q4:=AA (Sc q4);have hbx:=hb.trans (hG.mono hb.size);have hgs:=hG.size;obtain⟨_,_,rfl,_⟩:=q2.rd.shape;clear q2 q4 x0 x1 x2 x3;go_wp2_with (at_builtin;go_must (refine BX (lo:=wr.heap.size) (n:=G.length) (xs:=Bf AJ G) (m:=1) (news:=[.int .i64 x.e, .int .i64 x.p, .int .i64 x.f, .bool x.w]) rfl rfl 95 (.agg #[.int .i64 0, .int .i64 0, .int .i64 0, .bool false]) 4 32 underlying25 Tryz.infoCachedK rfl (by decide) rfl Q2.out rfl Q4.out (by simp[Value.oneCell']) (by unfold maxLen;omega) (by omega) hgs ?_;intro o' w9 k1 k2 k3 k4));go_ret;exact⟨_,rfl,by rw[P.out];unfold AC;rw[BN,Dn,List.length_append];exact Bd k1 hb.size,hbx.trans (k4.mono hb.size)⟩
theorem IR {w:World} {g T:Nat} {a b c d e f:Value} (h:w.heap[g]? =some (.cells #[a,b,c,d,e,f] T (0,0))):w.cell? ⟨g,0,none⟩=some a∧w.cell? ⟨g,1,none⟩=some b∧w.cell? ⟨g,2,none⟩=some c∧w.cell? ⟨g,3,none⟩=some d∧w.cell? ⟨g,4,none⟩=some e∧w.cell? ⟨g,5,none⟩=some f:=
 ⟨cell_of_row _ _ 0 _ _ _ h,cell_of_row _ _ 1 _ _ _ h,cell_of_row _ _ 2 _ _ _ h,cell_of_row _ _ 3 _ _ _ h,cell_of_row _ _ 4 _ _ _ h,cell_of_row _ _ 5 _ _ _ h⟩
theorem IX (m iv ev cv:Value) (k:AH) (kk e a b c:Int) (nm:ByteArray) (kind:Int) (w:World) (h:L6 w m iv ev cv k) (hk:DV k) (he:0≤e∧e<3) (hkind:kind=0∨kind=1):
 Calls prog 92 #[.agg #[m,iv,ev,cv], .agg #[.int .i64 kk, .int .i64 e, .int .i64 a, .int .i64 b, .int .i64 c, .string nm], .int .i64 kind] w fun r w'=>r= .returned (.int .i64 (BY k ⟨kk,e,a,b,c,nm⟩ kind))∧Below w.heap.size w w':=by
 obtain⟨N0,N1,hb0,hs0⟩:=Mr w (.cells #[m,iv,ev,cv] 27) (.cells #[.int .i64 kk, .int .i64 e, .int .i64 a, .int .i64 b, .int .i64 c, .string nm] 48);obtain⟨x0,x1,x2,x3⟩:=AB N0;obtain⟨y0,y1,y2,y3,y4,y5⟩:=IR N1;have hlg:=Aq N0;have hlb:=Aq N1
 by_cases ha:Bv a 0 11=true
 ·obtain⟨an,rfl⟩:∃an:Nat,a=(an:Int):=⟨a.toNat,by have:=(Ac.1 ha).1;omega⟩
  obtain⟨en,rfl⟩:∃en:Nat,e=(en:Int):=⟨e.toNat,by omega⟩
  have han:an<12:=by have:=(Ac.1 ha).2;omega
  have hen:en<3:=by omega
  have hl:=(Au.1 (AT hk).2.1).1;have FC:=AA (show BY k ⟨kk,(en:Int),(an:Int),b,c,nm⟩ kind=if(infoAt k.infos an).k=0 then 3 else if Cc (AD k.envs en).rights (infoAt k.infos an).g=false then 1
   else if(0<kind∧(infoAt k.infos an).k≠kind)∨(kind=0∧Bg (infoAt k.infos an).k=false) then 3 else 0 by unfold BY;simp[ha])
  have hsm:=Be (AT hk).2.1 _ (List.mem_of_getElem? (Br (show an<k.infos.length by omega)));have CM:=AA (fun W (hW:Below _ _ W)=>Fq m iv ev cv k en (infoAt k.infos an).g W ((h.2.2.1.below hb0).below hW) hk hen hsm);obtain⟨ai,ci,rfl,_,_,HI⟩:=A6.open Ak (by decide) (A6.below h.2.1 hb0);obtain⟨bi,offi,rfl,hbi,D0,D1,_⟩:=HI.infoCells (show an<k.infos.length by omega);have hal:(an:Int)<k.infos.length:=by omega
  have HA:=AA ha;have hn0:¬(an:Int)<0:=by omega
  clear h hk N0 N1 HI ha hl hsm he;generalize hW0:(w.alloc _).alloc _=W0 at x0 x1 x2 x3 y0 y1 y2 y3 y4 y5 D0 D1 hlg hlb hbi CM hb0;generalize(infoAt k.infos an).g=gd at D1 CM FC;generalize(infoAt k.infos an).k=kd at D0 FC;generalize Cc (AD k.envs en).rights gd=mb at CM FC
  by_cases e0:kd=0
  ·have t0:(kd==0)=true:=by simp[e0]
   have R:=AA (show BY k ⟨kk,(en:Int),(an:Int),b,c,nm⟩ kind=3 by rw[FC.out,if_pos e0]);clear e0;go_in;go_wp2_with fail;refine(CY _ _).mono ?_;rintro r w2 ⟨rfl,rfl⟩;rw[HA.out];go_wp2_with fail;go_ret;exact⟨BQ R.out.symm,hb0⟩
  ·have t0:(kd==0)=false:=by simp[e0]
   have FC2:=AA (show BY k ⟨kk,(en:Int),(an:Int),b,c,nm⟩ kind=if mb=false then 1
    else if(0<kind∧kd≠kind)∨(kind=0∧Bg kd=false) then 3 else 0 by rw[FC.out,if_neg e0])
   clear e0 FC;go_in;go_wp2_with fail;refine(CY _ _).mono ?_;rintro r w2 ⟨rfl,rfl⟩;rw[HA.out];go_wp2_with fail;refine Al 11 64 [.a #[m, .slice (some ⟨bi,offi,none⟩) k.infos.length ci,ev,cv], .p (w.heap.size+1) 1, .i ((en:Int)), .p w.heap.size 1, .v (.slice (some ⟨bi,offi,none⟩) k.infos.length ci), .p (w.heap.size+1) 2, .i ((an:Int)), .p bi (offi+an*3), .p bi (offi+an*3+1), .t gd, .b mb] (fun _ _ _=>True) ?_ ?_
   ·intro i hi o ho a wx Hb Hd hG K HK
    have mc0:=bc hG hlg x0;have mc1:=bc hG hlg x1;have mc2:=bc hG hlg x2;have mc3:=bc hG hlg x3;have mc4:=bc hG hlb y1;have mc5:=bc hG hlb y2;have mc6:=bc hG hbi D1
    match i,hi with
    |0,_=>exact sL ho HK Hb Hd (hl:=MY (by assumption) (by assumption) (by assumption) (by assumption))
    |1,_|3,_|5,_|8,_=>exact sP ho HK Hb Hd
    |2,_|6,_=>exact sL ho HK Hb Hd (hl:=Fg (by assumption))
    |4,_=>exact sL ho HK Hb Hd (hl:=GX (by assumption))
    |7,_=>exact sI ho HK Hb Hd (hr:=by clear Hd Hb HK;go_simp)
    |9,_=>exact sL ho HK Hb Hd (hl:=UL (by assumption))
    |10,_=>exact sD ho HK Hb Hd (CM.out _ hG)
   ·intro vs wx hR hG
    have q10:(vs 10)= .bool mb:=BT hR 10;clear hR;simp only[Ai,AQ,List.range,List.range.loop,List.foldl_cons,List.foldl_nil,q10];simp;clear q10;have D0w:=(hG.cell (p:=⟨bi,offi+an*3,none⟩) hbi).trans D0;have x1w:=(hG.cell (p:=⟨w.heap.size,1,none⟩) hlg).trans x1;have y2w:=(hG.cell (p:=⟨w.heap.size+1,2,none⟩) hlb).trans y2;have hbx:=hb0.trans (hG.mono hb0.size);clear D0 D1 x0 x1 x2 x3 y0 y1 y2 y3 y4 y5 hG CM;cases mb
    ·have R:=AA (show BY k ⟨kk,(en:Int),(an:Int),b,c,nm⟩ kind=1 by rw[FC2.out];rfl)
     go_wp2_with fail;go_ret;exact⟨BQ R.out.symm,hbx⟩
    ·rcases hkind with rfl|rfl
     ·have R:=AA (show BY k ⟨kk,(en:Int),(an:Int),b,c,nm⟩ 0=if Bg kd=false then 3 else 0 by rw[FC2.out];simp)
      go_wp2_with fail;refine(FT _ _).mono ?_;rintro r w2 ⟨rfl,rfl⟩;generalize Bg kd=tb at R;cases tb
      ·go_wp2_with fail
       go_ret;exact⟨BQ R.out.symm,hbx⟩
      ·go_wp2_with fail
       go_ret;exact⟨BQ R.out.symm,hbx⟩
     ·by_cases e1:kd=1
      ·have t1:(kd !=1)=false:=by simp[e1]
       have R:=AA (show BY k ⟨kk,(en:Int),(an:Int),b,c,nm⟩ 1=0 by rw[FC2.out];simp[e1]);clear e1;go_wp2_with fail;go_ret;exact⟨BQ R.out.symm,hbx⟩
      ·have t1:(kd !=1)=true:=by simp[e1]
       have R:=AA (show BY k ⟨kk,(en:Int),(an:Int),b,c,nm⟩ 1=3 by rw[FC2.out];simp[e1]);clear e1;go_wp2_with fail;go_ret;exact⟨BQ R.out.symm,hbx⟩
 ·have ha':Bv a 0 11=false:=by simpa using ha
  have R:=AA (show BY k ⟨kk,e,a,b,c,nm⟩ kind=3 by unfold BY;simp[ha']);have HA:=AA ha';clear ha ha' h hk;go_in;go_wp2_with fail;refine(CY _ _).mono ?_;rintro r w2 ⟨rfl,rfl⟩;rw[HA.out];go_wp2_with fail;go_ret;exact⟨BQ R.out.symm,hb0⟩
def Js (w0:World) (g:Nat) (m i e c:Value) (k:AH) (qs:List (Value×Int)) (wr:World):Prop:=
 wr.heap[g]? =some (.cells #[m,i,e,c] 27 (0,0))∧(∃vs,AV w0.heap.size wr m vs k.mem)∧AC w0.heap.size 91 3 AX wr i k.infos∧A2 w0.heap.size wr e qs (k.envs.take qs.length)∧AC w0.heap.size 95 4 AJ wr c k.cache∧Below w0.heap.size w0 wr∧w0.heap.size≤g
def Im (lo:Nat) (T:Nat) (W:World) (V:Value):Prop:=∃g,V= .slice (some ⟨g,0,none⟩) 0 0∧lo≤g∧W.heap[g]? =some (.cells #[] T (0,0))
theorem Im.below {lo T:Nat} {W W':World} {V:Value} (h:Im lo T W V) (hb:Below W.heap.size W W'):Im lo T W' V:=by obtain⟨g,h0,h1,h2⟩:=h;exact⟨g,h0,h1,AG h2 hb⟩
def Qm (lo:Nat) (r:Int) (ts:List ByteArray) (W:World) (V:Value):Prop:=∃u,V= .agg #[u, .int .i64 r]∧AC lo 9 1 Ag W u ts
theorem Qm.below {lo:Nat} {r:Int} {ts:List ByteArray} {W W':World} {V:Value} (h:Qm lo r ts W V) (hb:Below W.heap.size W W'):Qm lo r ts W' V:=by obtain⟨u,h0,h1⟩:=h;exact⟨u,h0,h1.below hb⟩
def Sg (lo:Nat) (r:Int) (ts:List ByteArray) (W:World) (V:Value):Prop:=∃g u,V= .slice (some ⟨g,0,none⟩) 1 1∧lo≤g∧W.heap[g]? =some (.cells #[u, .int .i64 r] 62 (0,0))∧AC lo 9 1 Ag W u ts
theorem Sg.below {lo:Nat} {r:Int} {ts:List ByteArray} {W W':World} {V:Value} (h:Sg lo r ts W V) (hb:Below W.heap.size W W'):Sg lo r ts W' V:=by obtain⟨g,u,h0,h1,h2,h3⟩:=h;exact⟨g,u,h0,h1,AG h2 hb,h3.below hb⟩
theorem VE {w:World} {g T:Nat} {a b:Value} (h:w.heap[g]? =some (.cells #[a,b] T (0,0))):Rd w (.slice (some ⟨g,0,none⟩) 1 1) 2 1 [a,b]:=by
 have h0:=cell_of_row _ _ 0 _ _ _ h;have h1:=cell_of_row _ _ 1 _ _ _ h;refine⟨_,_,rfl,Nat.le_refl _,by simp[maxLen],rfl,nofun,fun _=>⟨g,0,rfl,fun j hj=>?_⟩⟩;rw[Nat.zero_add]
 match j,hj with
 |0,_=>exact h0
 |1,_=>exact h1
 |_+2,hj=>exact absurd hj (by omega)
def Fk (lo:Nat) (w:World) (v:Value) (k:AH):Prop:=∃m i e c,v= .agg #[m,i,e,c]∧(∃vs,AV lo w m vs k.mem)∧AC lo 91 3 AX w i k.infos∧A2 lo w e [] []∧AC lo 95 4 AJ w c k.cache
theorem Fk.below {lo:Nat} {w w':World} {v:Value} {k:AH} (h:Fk lo w v k) (hb:Below w.heap.size w w'):Fk lo w' v k:=by obtain⟨m,i,e,c,h0,⟨vs,h1⟩,h2,h3,h4⟩:=h;exact⟨m,i,e,c,h0,⟨vs,h1.below hb⟩,h2.below hb,h3.below hb,h4.below hb⟩
def VS (w:World) (row:Option Nat):Prop:=∀q,row=some q→∃cur,w.heap[q]? =some (.cells cur 62 (0,0))
theorem Ve {lo:Nat} {w1 w2:World} {row:Option Nat} {v:Value} {vs:List Value} {xss:List (List Int)} (o:AV lo w1 v vs xss) (h2:w1.grownBy w2 row) (hr:VS w1 row):AV lo w2 v vs xss:=by
 cases row with
 |none=>exact o.below (Below.of_grown h2)
 |some q=>obtain⟨cur,hc⟩:=hr q rfl;exact o.far h2 hc (by decide) (by decide)
theorem VQ {α:Type} {lo e sz:Nat} {cs:α→List Value} {w1 w2:World} {row:Option Nat} {v:Value} {xs:List α} (o:AC lo e sz cs w1 v xs) (h2:w1.grownBy w2 row) (hr:VS w1 row) (he:e≠62):AC lo e sz cs w2 v xs:=by
 cases row with
 |none=>exact o.below (Below.of_grown h2)
 |some q=>obtain⟨cur,hc⟩:=hr q rfl;exact o.far h2 hc he
theorem Js.blk {w0:World} {g:Nat} {m i e c:Value} {k:AH} {qs:List (Value×Int)} {wr w1 w2:World} (h:Js w0 g m i e c k qs wr) (hb:Below wr.heap.size wr w1) (h2:w1.grownBy w2 e.ownBlock):w2.heap[g]? =some (.cells #[m,i,e,c] 27 (0,0)):=by
 have hB1:=AG h.1 hb;exact(h2.block g (Aq hB1) fun e'=>Bs (h.2.2.2.1.1.below hb) hB1 (by decide) e'.symm).trans hB1
theorem Js.step {w0:World} {g:Nat} {m i ev c u v':Value} {k:AH} {qs:List (Value×Int)} {wr w1 w2:World} {e:DQ} (h:Js w0 g m i ev c k qs wr) (hb:Below wr.heap.size wr w1) (hu:AC wr.heap.size 9 1 Ag w1 u e.rights) (he:k.envs[qs.length]? =some e)
 (h1:w2.ownsRow w0.heap.size 62 2 v' (qs.length+1) (Bf DO qs++[u, .int .i64 e.root])) (h2:w1.grownBy w2 ev.ownBlock):Js w0 g m i v' c k (qs++[(u,e.root)]) (w2.setCell ⟨g,2,none⟩ v'):=by
 have hB2:=h.blk hb h2;obtain⟨hB,⟨vs,o1⟩,o2,o3,o4,hbw,hg⟩:=h;have P:=A2.push o3 hb hbw.size (Nat.le_refl _) hu h1 h2;have hr:VS w1 ev.ownBlock:=fun q hq=>A8 (o3.1.below hb) q hq
 have hgr:=Aj w2 g 2 v';have ht:k.envs.take (qs++[(u,e.root)]).length=k.envs.take qs.length++[⟨e.rights,e.root⟩]:=by rw[List.length_append,List.length_singleton,DI he]
 refine⟨?_,⟨vs,(Ve (o1.below hb) h2 hr).far hgr hB2 (by decide) (by decide)⟩,(VQ (o2.below hb) h2 hr (by decide)).far hgr hB2 (by decide),?_,(VQ (o4.below hb) h2 hr (by decide)).far hgr hB2 (by decide),?_,hg⟩
 ·have:=heap_setCell_same w2 g 2 _ 27 v' hB2
  simpa using this
 ·rw[ht]
  exact P.far hgr hB2 (by decide) (by decide)
 ·exact((hbw.trans (hb.mono hbw.size)).grown h2 (hbw.trans (hb.mono hbw.size)).size (fun q hq=>((o3.1.below hb).lt q hq).1)).setCell hg _
theorem QC (m i e c:Value) (k:AH) (w:World) (h:L6 w m i e c k) (hk:DV k):Calls prog 56 #[.agg #[m,i,e,c]] w (Lh w k):=by
 obtain⟨h1,h2,h3,h4⟩:=h;have hml:=(Af.1 (AT hk).1).1;have hil:=(Au.1 (AT hk).2.1).1;have hcl:k.cache.length≤4:=by have:=hk.cache;simp only[Bu,Bool.and_eq_true,decide_eq_true_eq] at this;exact this.2
 have hrl:∀f,f<k.mem.length→(AK k.mem f).length≤100:=fun f hf=>by have:=(BZ.1 ((Af.1 (AT hk).1).2 f (by omega))).1;omega
 obtain⟨N0,N1,hb0,hs0⟩:=Mr w (.cells #[m,i,e,c] 27) (.cells #[.slice none 0 0, .slice none 0 0, .slice none 0 0, .slice none 0 0] 27);obtain⟨x0,x1,x2,x3⟩:=AB N0;have hlt0:=Aq N0;have C1:=AA (fun W (hW:Below _ _ W)=>RY m k.mem W ((h1.below hb0).below hW) (by omega) hrl);have RI:=AA (A6.below h2 hb0);have RC:=AA (A6.below h4 hb0);obtain⟨am,cm,rfl,_⟩:=h1.open;obtain⟨ai,ci,rfl,_,_⟩:=h2.shape;obtain⟨ae,ce,rfl,hce,hcem,HE0⟩:=(h3.below hb0).open;obtain⟨ac,cc,rfl,_,_⟩:=h4.shape;have HE:=AA HE0;have Hk:=AA hk;have Hel:=AA hk.envl;have hil2:k.infos.length≤100:=by omega
 generalize hW0:(w.alloc _).alloc _=W0 at*;clear h1 h2 h3 h4 hk hml hil hrl HE0;go_in;go_wp2_with fail;refine Am 14 46 [.p w.heap.size 0, .v (.slice am k.mem.length cm), .z, .z, .p w.heap.size 1, .v (.slice ai k.infos.length ci), .z, .z, .z, .p w.heap.size 3, .v (.slice ac k.cache.length cc), .z, .z, .z] (fun ix vv ww=>match ix with
  |2=>∃vs',AV W0.heap.size ww vv vs' k.mem
  |3=>Im W0.heap.size 91 ww vv
  |6=>AC W0.heap.size 91 3 AX ww vv k.infos
  |7=>A2 W0.heap.size ww vv [] []
  |8=>Im W0.heap.size 95 ww vv
  |11=>AC W0.heap.size 95 4 AJ ww vv k.cache
  |12=>Fk W0.heap.size ww vv k
  |13=>IM W0.heap.size ww vv
  |_=>True) ?_ ?_ ?_
 ·intro i hi o ho a wx Hb Hd hG K HK
  have mc0:=bc hG hlt0 x0;have mc1:=bc hG hlt0 x1;have mc2:=bc hG hlt0 x3
  match i,hi with
  |0,_|4,_|9,_=>exact sP ho HK Hb Hd
  |1,_=>exact sL ho HK Hb Hd (hl:=Ff (by assumption))
  |2,_=>exact sC ho HK Hb Hd (C1.out _ hG) (by rintro e w_ ⟨v',vs',rfl,hO,hb2⟩;exact⟨_,rfl,⟨vs',hO.lower hG.size⟩,hb2⟩)
  |5,_=>exact sL ho HK Hb Hd (hl:=GX (by assumption))
  |10,_=>exact sL ho HK Hb Hd (hl:=K6 (by assumption))
  |3,_=>clear mc0 mc1 mc2;obtain rfl:=So_ ho;clear Hd Hb;refine Aa.of rfl ?_;go_simp;exact HK.out _ _ ⟨_,rfl,hG.size,heap_alloc_new _ _⟩ (AF _ _)
  |6,_=>clear mc0 mc1 mc2;obtain rfl:=So_ ho;have d3:Im W0.heap.size 91 wx (a.tmps[8]?.getD undef):=Bx Hd 3;have d5:(a.tmps[10]?.getD undef)= .slice ai k.infos.length ci:=Bx Hd 5;clear Hd Hb;refine Aa.of rfl ?_;obtain⟨g_,d0a,d0b,d0c⟩:=d3;obtain⟨v7,w4,hrun,r1,r2,_⟩:=Cn (lo:=W0.heap.size) (w:=wx) (t:=23) (ty:=23) 91 _ 3 32 underlying23 Tryz.infoInfoK rfl (by decide) d0c d0b (A6.below RI.out hG) (Dy _) (by omega);refine BR rfl (BC d0a) (BC d5) hrun ?_;exact HK.out _ _ r1 r2
  |7,_=>clear mc0 mc1 mc2;obtain rfl:=So_ ho;clear Hd Hb;refine Aa.of rfl ?_;go_simp;exact HK.out _ _ ⟨AC.lower (Bw DO _ _ _) hG.size,Ei.nil,Bj.nil⟩ (AF _ _)
  |8,_=>clear mc0 mc1 mc2;obtain rfl:=So_ ho;clear Hd Hb;refine Aa.of rfl ?_;go_simp;exact HK.out _ _ ⟨_,rfl,hG.size,heap_alloc_new _ _⟩ (AF _ _)
  |11,_=>clear mc0 mc1 mc2;obtain rfl:=So_ ho;have d8:Im W0.heap.size 95 wx (a.tmps[13]?.getD undef):=Bx Hd 8;have d10:(a.tmps[15]?.getD undef)= .slice ac k.cache.length cc:=Bx Hd 10;clear Hd Hb;refine Aa.of rfl ?_;obtain⟨g_,d0a,d0b,d0c⟩:=d8;obtain⟨v7,w4,hrun,r1,r2,_⟩:=Cn (lo:=W0.heap.size) (w:=wx) (t:=25) (ty:=25) 95 _ 4 32 underlying25 Tryz.infoCachedK rfl (by decide) d0c d0b (A6.below RC.out hG) (JD _) (by omega);refine BR rfl (BC d0a) (BC d10) hrun ?_;exact HK.out _ _ r1 r2
  |12,_=>
   clear mc0 mc1 mc2;obtain rfl:=So_ ho;have d2:∃vs',AV W0.heap.size wx (a.tmps[7]?.getD undef) vs' k.mem:=Bx Hd 2
   have d6:AC W0.heap.size 91 3 AX wx (a.tmps[11]?.getD undef) k.infos:=Bx Hd 6;have d7:A2 W0.heap.size wx (a.tmps[12]?.getD undef) [] []:=Bx Hd 7;have d11:AC W0.heap.size 95 4 AJ wx (a.tmps[16]?.getD undef) k.cache:=Bx Hd 11;clear Hd Hb;generalize e7:a.tmps[7]?.getD undef=m' at d2;generalize e11:a.tmps[11]?.getD undef=i' at d6;generalize e12:a.tmps[12]?.getD undef=e' at d7;generalize e16:a.tmps[16]?.getD undef=c' at d11;have W:Hid (Fk W0.heap.size wx (.agg #[m',i',e',c']) k):=AA ⟨m',i',e',c',rfl,d2,d6,d7,d11⟩;obtain⟨_,d2⟩:=d2;obtain⟨_,_,rfl,_,_⟩:=d2.1.rd.shape;obtain⟨_,_,rfl,_,_⟩:=d6.rd.shape;obtain⟨_,_,rfl,_,_⟩:=d7.1.rd.shape;obtain⟨_,_,rfl,_,_⟩:=d11.rd.shape;clear d2 d6 d7 d11;refine Aa.of rfl ?_;go_simp;exact HK.out _ _ W.out (Below.refl _ _)
  |13,_=>clear mc0 mc1 mc2;obtain rfl:=So_ ho;clear Hd Hb;refine Aa.of rfl ?_;go_simp;exact HK.out _ _ ⟨_,rfl,hG.size,heap_alloc_new _ _⟩ (AF _ _)
 ·intro i hi vv wz ww' hbz hz
  match i,hi with
  |2,_=>exact(by obtain⟨vs',h'⟩:=hz;exact⟨vs',h'.below hbz⟩)
  |3,_=>exact(Im.below hz hbz)
  |6,_=>exact(AC.below hz hbz)
  |7,_=>exact(A2.below hz hbz)
  |8,_=>exact(Im.below hz hbz)
  |11,_=>exact(AC.below hz hbz)
  |12,_=>exact(Fk.below hz hbz)
  |13,_=>exact(IM.below hz hbz)
  |0,_|1,_|4,_|5,_|9,_|10,_=>exact hz
 ·intro vs wx hR hG
  have q12:Fk W0.heap.size wx (vs 12) k:=BT hR 12;have q13:IM W0.heap.size wx (vs 13):=BT hR 13;obtain⟨g,q13,hg,hB⟩:=q13;clear hR;simp only[Ai,AQ,List.range,List.range.loop,List.foldl_cons,List.foldl_nil,q13];simp;generalize vs 12=z12 at q12 ⊢;clear q13;obtain⟨m',i',e',c',rfl,⟨vs',o1⟩,o2,o3,o4⟩:=q12;have hgr:=AZ (AZ (AZ (Aj wx g 0 m') 1 i') 2 e') 3 c';have St:Js W0 g m' i' e' c' k [] ((((wx.setCell ⟨g,0,none⟩ m').setCell ⟨g,1,none⟩ i').setCell ⟨g,2,none⟩ e').setCell ⟨g,3,none⟩ c'):=
   ⟨DB hB,⟨vs',o1.far hgr hB (by decide) (by decide)⟩,o2.far hgr hB (by decide),o3.far hgr hB (by decide) (by decide),o4.far hgr hB (by decide),(((hG.setCell hg _).setCell hg _).setCell hg _).setCell hg _,hg⟩
  obtain⟨pa,pc,rfl,_,_⟩:=o1.1.rd.shape;obtain⟨qa,qc,rfl,_,_⟩:=o2.rd.shape;obtain⟨ea,ec,eqe,_,_⟩:=o3.1.rd.shape;rw[List.length_nil] at eqe;subst eqe;obtain⟨ra,rc,rfl,_,_⟩:=o4.rd.shape;obtain⟨b0,b1,b2,b3⟩:=AB hB;have hfz:=AI hB;have HN0:=AA N0;have HN1:=AA N1;have HhW0:=AA hW0;have Hs0:=AA hs0;clear o1 o2 o3 o4 hG hB hgr x0 x1 x2 x3 N0 N1 hW0 hs0 RI RC C1;go_wp2_with fail;clear b0 b1 b2 b3 hfz;go_loopw [4] (fun ix wr=>∃(qs:List (Value×Int)) (ev:Value),qs.length≤3∧ix= .int .i64 qs.length∧Js W0 g (.slice pa vs'.length pc) (.slice qa k.infos.length qc) ev (.slice ra k.cache.length rc) k qs wr) (fun ix _=>3 - (intOf ix).toNat)
  case atStart=>exact⟨[],_,by simp,rfl,St⟩
  case round=>
   clear St;obtain⟨qs,ev,hq,rfl,St⟩:=hrel;have Hel3:=Hel.out;have hx2:=(AB ((St.2.2.2.2.2.1.block _ hlt0).trans HN0.out)).2.2.1;have hlt0r:=Nat.lt_of_lt_of_le hlt0 St.2.2.2.2.2.1.size;have y2:=(AB St.1).2.2.1;have hlgr:=Aq St.1;obtain⟨ea,ec,rfl,hec,hecm⟩:=St.2.2.2.1.1.rd.shape
   by_cases hlt:qs.length<3
   ·have hqe:qs.length<k.envs.length:=by omega
    obtain⟨be,offe,ua,uc,rfl,hlbe,D0,D1,hR⟩:=(HE.out.below (St.2.2.2.2.2.1)) qs.length hqe;have hlti:(qs.length:Int)<k.envs.length:=by omega
    have RS:=AA hR;have hsl:=MS Hk.out hlt;have HSt:=AA St;have Hel':=AA Hel3;have x2r:=hx2;clear St hR Hel3 hx2;go_wp2_with fail;refine Am 18 46 [.p g 2, .v (.slice ea qs.length ec), .z, .p w.heap.size 2, .v (.slice (some ⟨be,offe,none⟩) k.envs.length ce), .i ((qs.length:Int)), .p be (offe+qs.length*2), .p be (offe+qs.length*2), .v (.slice ua (AD k.envs qs.length).rights.length uc), .z, .p w.heap.size 2, .v (.slice (some ⟨be,offe,none⟩) k.envs.length ce), .i ((qs.length:Int)), .p be (offe+qs.length*2), .p be (offe+qs.length*2+1), .i ((AD k.envs qs.length).root), .z, .z] (fun ix vv ww=>match ix with
     |2=>Im wr.heap.size 9 ww vv
     |9=>AC wr.heap.size 9 1 Ag ww vv (AD k.envs qs.length).rights
     |16=>Qm wr.heap.size (AD k.envs qs.length).root (AD k.envs qs.length).rights ww vv
     |17=>Sg wr.heap.size (AD k.envs qs.length).root (AD k.envs qs.length).rights ww vv
     |_=>True) ?_ ?_ ?_
    ·intro i hi o ho a wx Hb Hd hG K HK
     have mc0:=bc hG hlgr y2;have mc1:=bc hG hlt0r x2r;have mc2:=bc hG hlbe D0;have mc3:=bc hG hlbe D1
     match i,hi with
     |0,_|3,_|5,_|7,_|10,_|12,_|14,_=>exact sP ho HK Hb Hd
     |1,_|4,_|11,_=>exact sL ho HK Hb Hd (hl:=MX (by assumption))
     |6,_|13,_=>exact sI ho HK Hb Hd (hr:=by clear Hd Hb HK;go_simp)
     |8,_=>exact sL ho HK Hb Hd (hl:=K7 (by assumption))
     |15,_=>exact sL ho HK Hb Hd (hl:=Fg (by assumption))
     |2,_=>clear mc0 mc1 mc2 mc3;obtain rfl:=So_ ho;clear Hd Hb;refine Aa.of rfl ?_;go_simp;exact HK.out _ _ ⟨_,rfl,hG.size,heap_alloc_new _ _⟩ (AF _ _)
     |9,_=>clear mc0 mc1 mc2 mc3;obtain rfl:=So_ ho;have d2:Im wr.heap.size 9 wx (a.tmps[27]?.getD undef):=Bx Hd 2;have d8:(a.tmps[33]?.getD undef)= .slice ua (AD k.envs qs.length).rights.length uc:=Bx Hd 8;clear Hd Hb;refine Aa.of rfl ?_;obtain⟨g_,d0a,d0b,d0c⟩:=d2;obtain⟨v7,w4,hrun,r1,r2,_⟩:=Cn (lo:=wr.heap.size) (w:=wx) (t:=40) (ty:=40) 9 _ 1 16 underlying40 Tryz.infoStringK rfl (by decide) d0c d0b (A6.below RS.out hG) (FN _) (by omega);refine BR rfl (BC d0a) (BC d8) hrun ?_;exact HK.out _ _ r1 r2
     |16,_=>clear mc0 mc1 mc2 mc3;obtain rfl:=So_ ho;have d9:AC wr.heap.size 9 1 Ag wx (a.tmps[34]?.getD undef) (AD k.envs qs.length).rights:=Bx Hd 9;have d15:(a.tmps[40]?.getD undef)= .int .i64 ((AD k.envs qs.length).root):=Bx Hd 15;clear Hd Hb;generalize e34:a.tmps[34]?.getD undef=u at d9;have W:Hid (Qm wr.heap.size (AD k.envs qs.length).root (AD k.envs qs.length).rights wx (.agg #[u, .int .i64 (AD k.envs qs.length).root])):=AA ⟨u,rfl,d9⟩;obtain⟨_,_,rfl,_,_⟩:=d9.rd.shape;clear d9;refine Aa.of rfl ?_;go_simp;exact HK.out _ _ W.out (Below.refl _ _)
     |17,_=>clear mc0 mc1 mc2 mc3;obtain rfl:=So_ ho;have d16:Qm wr.heap.size (AD k.envs qs.length).root (AD k.envs qs.length).rights wx (a.tmps[41]?.getD undef):=Bx Hd 16;clear Hd Hb;obtain⟨u,d16,d9⟩:=d16;have HD:=AA d9;obtain⟨_,_,rfl,_,_⟩:=d9.rd.shape;clear d9;refine Aa.of rfl ?_;go_simp;exact HK.out _ _ ⟨_,_,rfl,hG.size,heap_alloc_new _ _,HD.out.below (AF _ _)⟩ (AF _ _)
     |_+18,hq=>exact absurd hq (by omega)
    ·intro i hi vv wz ww' hbz hz
     match i,hi with
     |2,_=>exact(Im.below hz hbz)
     |9,_=>exact(AC.below hz hbz)
     |16,_=>exact(Qm.below hz hbz)
     |17,_=>exact(Sg.below hz hbz)
     |0,_|1,_|3,_|4,_|5,_|6,_|7,_|8,_|10,_|11,_|12,_|13,_|14,_|15,_=>exact hz
     |_+18,hq=>exact absurd hq (by omega)
    ·intro vs wx hR hG
     have q1:(vs 1)= .slice ea qs.length ec:=BT hR 1;have q17:Sg wr.heap.size (AD k.envs qs.length).root (AD k.envs qs.length).rights wx (vs 17):=BT hR 17;clear hR;simp only[Ai,AQ,List.range,List.range.loop,List.foldl_cons,List.foldl_nil,q1];simp;generalize vs 17=z17 at q17 ⊢;clear q1;obtain⟨gb,u,rfl,_,hgb,hu⟩:=q17;have hbw:=HSt.out.2.2.2.2.2.1;have y2w:=(hG.cell (p:=⟨g,2,none⟩) hlgr).trans y2;have hlgw:=Nat.lt_of_lt_of_le hlgr hG.size;have Q:=AA (VE hgb);have HU:=AA hu;have O:=AA (HSt.out.2.2.2.1.1.below hG);have HG:=AA hG;have hbg:=(hbw.trans (hG.mono hbw.size)).size;obtain⟨_,_,rfl,_,_⟩:=hu.rd.shape;clear hgb hu hG D0 D1 y2 hbw;go_wp2_with (at_builtin;go_must (refine BX (lo:=W0.heap.size) (n:=qs.length) (xs:=Bf DO qs) (m:=1) rfl rfl 62 (.agg #[.slice none 0 0, .int .i64 0]) 2 32 underlying24 Tryz.infoEnv rfl (by decide) rfl O.out rfl Q.out (by simp[Value.oneCell']) (by unfold maxLen;omega) (by omega) hbg ?_;intro o' w9 k1 k2 k3 k4;have S:=AA (HSt.out.step HG.out HU.out (show k.envs[qs.length]? =some (AD k.envs qs.length) by unfold AD;exact Ba hqe) k1 k2);have hB9:=HSt.out.blk HG.out k2;have z2:=(AB hB9).2.2.1;have fz9:=AI hB9;have hl9:=Aq hB9;obtain⟨_,_,rfl,_,_⟩:=(Rd.of_owns k1).shape;clear k1 k2 k3 k4 hB9 y2w));go_roundw
     case rel=>exact⟨_,_,by rw[List.length_append,List.length_singleton];omega,by rw[List.length_append,List.length_singleton];go_num,S.out⟩
     case measure=>simp[intOf];omega
   ·have e3:qs.length=3:=by omega
    obtain⟨hB,⟨vs2,o1⟩,o2,o3,o4,hbel,_⟩:=St;have o5:A2 W0.heap.size wr (.slice ea qs.length ec) qs k.envs:=by have:=o3;rwa [List.take_of_length_le (by omega)] at this
    have hBs:=(hbel.block _ (by have:=Hs0.out;omega)).trans HN1.out;have S:=AA (show ∀w',wr.grownBy w' (some (w.heap.size+1))→Lh w k (.returned (.agg #[_,_,(.slice ea qs.length ec),_])) w' from fun w' hg'=>⟨_,_,_,_,rfl,⟨⟨vs2,(o1.far hg' hBs (by decide) (by decide)).lower hb0.size⟩,(o2.far hg' hBs (by decide)).lower hb0.size,⟨qs,(o5.far hg' hBs (by decide) (by decide)).lower hb0.size⟩,(o4.far hg' hBs (by decide)).lower hb0.size⟩,(hb0.trans (hbel.mono hb0.size)).grown hg' (hb0.trans (hbel.mono hb0.size)).size (fun k hk=>by cases hk;omega)⟩)
    obtain⟨E0,E1,E2,E3⟩:=AB (DB (m':= .slice pa vs'.length pc) (i':= .slice qa k.infos.length qc) (e':= .slice ea qs.length ec) (c':= .slice ra k.cache.length rc) hBs);have HE:=AA (And.intro E0 (And.intro E1 (And.intro E2 E3)));have hgr:wr.grownBy ((((wr.setCell ⟨w.heap.size+1,0,none⟩ (.slice pa vs'.length pc)).setCell ⟨w.heap.size+1,1,none⟩ (.slice qa k.infos.length qc)).setCell ⟨w.heap.size+1,2,none⟩ (.slice ea qs.length ec)).setCell ⟨w.heap.size+1,3,none⟩ (.slice ra k.cache.length rc)) (some (w.heap.size+1)):=AZ (AZ (AZ (Aj wr (w.heap.size+1) 0 _) 1 _) 2 _) 3 _;obtain⟨b0,b1,b2,b3⟩:=AB hB;obtain⟨c0,c1,c2,c3⟩:=AB hBs;have hfz:=AI hBs;have hlt3:¬(qs.length:Int)<k.envs.length:=by omega
    have x2r:=hx2;clear hB hBs o1 o2 o3 o4 o5 E0 E1 E2 E3 e3 hx2 Hel3;go_wp2_with fail;obtain⟨E0,E1,E2,E3⟩:=HE.out;exact bodyPost_ret (v:= .agg #[_,_,_,_]) (by simp[results,Tryz.results56,go_sem,E0,E1,E2,E3]) rfl (S.out _ hgr)
theorem Jm (m iv ev cv:Value) (k:AH) (kk b c:Int) (en an:Nat) (nm:ByteArray) (w:World) (h:L6 w m iv ev cv k) (hk:DV k) (hen:en<3) (han:an<12) (hkk:kk=4→Bg b=true):
 Calls prog 96 #[.agg #[m,iv,ev,cv], .agg #[.int .i64 kk, .int .i64 en, .int .i64 an, .int .i64 b, .int .i64 c, .string nm]] w (Jv (if kk=4 then Et k.mem k.infos an b (AD k.envs en).rights else Cq k.mem k.infos an) w):=by
 obtain⟨N0,N1,hb0,hs0⟩:=Mr w (.cells #[m,iv,ev,cv] 27) (.cells #[.int .i64 kk, .int .i64 en, .int .i64 an, .int .i64 b, .int .i64 c, .string nm] 48);obtain⟨x0,x1,x2,x3⟩:=AB N0;obtain⟨y0,y1,y2,y3,y4,y5⟩:=IR N1;have hlg:=Aq N0;have hlb:=Aq N1;have hok:=(AT hk).1;have hio:=(AT hk).2.1;have hm:=h.1.below hb0;have hi:=A6.below h.2.1 hb0;obtain⟨ae,ce,rfl,_,_,HE⟩:=(h.2.2.1.below hb0).open;have hel:en<k.envs.length:=by rw[hk.envl];exact hen
 obtain⟨be,offe,ua,uc,rfl,hlbe,D0,_,hR⟩:=HE en hel;have hell:(en:Int)<k.envs.length:=by omega
 have hn0:¬(en:Int)<0:=by omega
 have C1:=fun(h4:kk=4)=>fun W (hW:Below _ _ W)=>NV m iv _ k.mem k.infos an b (AD k.envs en).rights W (hm.below hW) hok (A6.below hi hW) hio han (hkk h4) (A6.below hR hW) (FG hk hen) (hk.rights en hen)
 have C2:=AA (fun W (hW:Below _ _ W)=>Le m iv k.mem k.infos an W (hm.below hW) hok (A6.below hi hW) hio han);obtain⟨am,cm,rfl,_⟩:=hm.open;obtain⟨ai,ci,rfl,_,_⟩:=hi.shape;generalize hW0:(w.alloc _).alloc _=W0 at*
 by_cases h4:kk=4
 ·rw[if_pos h4]
  have CP:=AA (C1 h4);subst h4;generalize Et k.mem k.infos an b (AD k.envs en).rights=res at*;clear h hk N0 N1 HE hm hi hR C1 C2 hok hio hkk hs0;go_in;go_wp2_with fail;refine Am 18 36 [.p w.heap.size 0, .v (.slice am k.mem.length cm), .p w.heap.size 1, .v (.slice ai k.infos.length ci), .p (w.heap.size+1) 2, .i ((an:Int)), .p (w.heap.size+1) 3, .i b, .p w.heap.size 2, .v (.slice (some ⟨be,offe,none⟩) k.envs.length ce), .p (w.heap.size+1) 1, .i ((en:Int)), .p be (offe+en*2), .p be (offe+en*2), .v (.slice ua (AD k.envs en).rights.length uc), .z, .z, .i (res.2)] (fun ix vv ww=>match ix with
   |15=>∃v',vv= .tuple #[v', .int .i64 res.2]∧AC W0.heap.size 91 3 AX ww v' res.1
   |16=>AC W0.heap.size 91 3 AX ww vv res.1
   |_=>True) ?_ ?_ ?_
  ·intro i hi o ho a wx Hb Hd hG K HK
   have mc0:=bc hG hlg x0;have mc1:=bc hG hlg x1;have mc2:=bc hG hlb y2;have mc3:=bc hG hlb y3;have mc4:=bc hG hlg x2;have mc5:=bc hG hlb y1;have mc6:=bc hG hlbe D0
   match i,hi with
   |0,_|2,_|4,_|6,_|8,_|10,_|13,_=>exact sP ho HK Hb Hd
   |1,_=>exact sL ho HK Hb Hd (hl:=Ff (by assumption))
   |3,_=>exact sL ho HK Hb Hd (hl:=GX (by assumption))
   |5,_|7,_|11,_=>exact sL ho HK Hb Hd (hl:=Fg (by assumption))
   |9,_=>exact sL ho HK Hb Hd (hl:=MX (by assumption))
   |12,_=>exact sI ho HK Hb Hd (hr:=by clear Hd Hb HK;go_simp)
   |14,_=>exact sL ho HK Hb Hd (hl:=K7 (by assumption))
   |15,_=>exact sC ho HK Hb Hd (CP.out _ hG) (by rintro e w_ ⟨v',rfl,hO,hb2⟩;exact⟨_,rfl,⟨_,rfl,hO.lower hG.size⟩,hb2⟩)
   |16,_=>
    clear mc0 mc1 mc2 mc3 mc4 mc5 mc6;obtain rfl:=So_ ho;have d15:∃v',(a.tmps[24]?.getD undef)= .tuple #[v', .int .i64 res.2]∧AC W0.heap.size 91 3 AX wx v' res.1:=Bx Hd 15
    clear Hd Hb;obtain⟨v',d15,hO⟩:=d15;refine Aa.of rfl ?_;go_simp;exact HK.out _ _ hO (Below.refl _ _)
   |17,_=>
    clear mc0 mc1 mc2 mc3 mc4 mc5 mc6;obtain rfl:=So_ ho;have d15:∃v',(a.tmps[24]?.getD undef)= .tuple #[v', .int .i64 res.2]∧AC W0.heap.size 91 3 AX wx v' res.1:=Bx Hd 15
    clear Hd Hb;obtain⟨v',d15,hO⟩:=d15;refine Aa.of rfl ?_;go_simp;exact HK.out _ _ rfl (Below.refl _ _)
   |_+18,hq=>exact absurd hq (by omega)
  ·intro i hi vv wz ww' hbz hz
   match i,hi with
   |15,_=>exact(by obtain⟨v',h0,h1⟩:=hz;exact⟨v',h0,AC.below h1 hbz⟩)
   |16,_=>exact(AC.below hz hbz)
   |0,_|1,_|2,_|3,_|4,_|5,_|6,_|7,_|8,_|9,_|10,_|11,_|12,_|13,_|14,_|17,_=>exact hz
   |_+18,hq=>exact absurd hq (by omega)
  ·intro vs wx hR hG
   have q16:AC W0.heap.size 91 3 AX wx (vs 16) res.1:=BT hR 16;have q17:(vs 17)= .int .i64 (res.2):=BT hR 17;clear hR;simp only[Ai,AQ,List.range,List.range.loop,List.foldl_cons,List.foldl_nil,q17];simp;generalize vs 16=z16 at q16 ⊢;clear q17;have Q:=AA q16;have hbx:=hb0.trans (hG.mono hb0.size);obtain⟨_,_,rfl,_,_⟩:=q16.rd.shape;clear q16 hG;go_wp2_with fail;go_ret2;exact⟨_,rfl,Q.out.lower hb0.size,hbx⟩
 ·rw[if_neg h4]
  have t4:(kk==4)=false:=by simp[h4]
  generalize Cq k.mem k.infos an=res at*;clear h hk N0 N1 HE hm hi hR C1 hok hio hkk hs0 h4;go_in;go_wp2_with fail;refine(C2.out _ (Below.refl _ _)).mono ?_;rintro r w2 ⟨v',rfl,hO,b2⟩;have HO:=AA hO;have hbx:=hb0.trans (b2.mono hb0.size);obtain⟨_,_,rfl,_,_⟩:=hO.rd.shape;clear hO b2;go_wp2_with fail;go_ret2;exact⟨_,rfl,HO.out.lower hb0.size,hbx⟩
theorem G9 {lo:Nat} {w:World} {t:TypeId} (ty:TypeId) (e:TypeId) (z:Value) (sz bytes:Nat) (ht:prog.underlying t=some (.slice e)) (hi:(prog.info? e).map (fun i=>(i.zero,i.size,i.bytes))=some (some z,sz,bytes))
 (hzs:z.cells.size=sz) (hsz:0<sz) {v u:Value} {n m:Nat} {xs news:List Value} (hown:w.ownsRow lo e sz v n xs) (hr:Rd w u sz m news) (h1:∀u∈news,u.oneCell'=true) (h63:n+m≤maxLen) (hbytes:(n+m)*bytes≤140737488355328) (hlo:lo≤w.heap.size):
 ∃v' w',(Builtin.append_ #[t,t] ty #[v,u]).run prog w= .ok v' w'∧w'.ownsRow lo e sz v' (n+m) (xs++news)∧w.grownBy w' v.ownBlock∧Below lo w w':=by
 obtain⟨i0,hi0,hz0,hz1,hz2⟩:=info_parts hi;obtain⟨ao,c,rfl,hmc,hcm,hl,hnil,hc⟩:=hr;have hbel:∀w',w.grownBy w' v.ownBlock→Below lo w w':=fun w' hg=>(Below.refl lo w).grown hg hlo (fun k hk=>(hown.lt k hk).1)
 cases ao with
 |none=>
  have hc0:=hnil rfl;subst hc0;obtain rfl:m=0:=by omega
  have hnews:news=[]:=List.eq_nil_of_length_eq_zero (by simpa using hl);subst hnews;exact⟨v,w,run_append_owned_none (P:=prog) (w:=w) lo t ty e i0 sz ht hi0 v n xs hown,by simpa using hown,⟨rfl,rfl,rfl,Nat.le_refl _,fun _ _ _=>rfl⟩,Below.refl _ _⟩
 |some ad=>
  obtain⟨v',w',h2,h3,h4,_⟩:=run_append_own_at (P:=prog) w lo t ty e i0 z sz bytes ht hi0 hz0 hz1 hz2 hzs hsz v n xs hown ad m c news hl (by
   intro j u hu
   rcases Nat.eq_zero_or_pos m with rfl|hm
   ·simp at hl
    simp[hl] at hu
   ·obtain⟨b,off,had,hcell⟩:=hc hm
    obtain rfl:ad=⟨b,off,none⟩:=by simpa using had
    have hj:j<news.length:=(List.getElem?_eq_some_iff.1 hu).1;have hadd:(⟨b,off,none⟩:Addr).add j=⟨b,off+j,none⟩:=by unfold Addr.add;split<;>simp_all
    rw[hadd,hcell j (by omega),hu]) h1 h63 hbytes hlo
  exact⟨v',w',h2,h3,h4,hbel w' h4⟩
def GR (ss:List ByteArray) (s:ByteArray):List ByteArray×Bool:=if Ax ss&&Az s then A0 ss s else([],false)
def Ur (w:World) (r:List ByteArray×Bool) (e:Ending) (w':World):Prop:=∃v',e= .returned (.tuple #[v', .bool r.2])∧AC w.heap.size 9 1 Ag w' v' r.1∧Below w.heap.size w w'
theorem OI {w:World} {a:Option Addr} {n c k:Nat} {ss:List ByteArray} (h:BG w (.slice a n c) ss) (hn:n=ss.length) (hk:k≤n):BG w (.slice a k c) (ss.take k):=by
 obtain⟨ao,c',hv,hmc,hcm,hl,hnil,hc⟩:=h;simp only[Value.slice.injEq] at hv;obtain⟨rfl,_,rfl⟩:=hv;have hlen:(ss.take k).length=k:=by rw[List.length_take];omega
 unfold BG A6;rw[hlen];refine⟨_,_,rfl,by omega,hcm,by rw[Dc,List.length_map,hlen,Nat.mul_one],hnil,fun hk0=>?_⟩;obtain⟨b,off,e,hcell⟩:=hc (by omega);refine⟨b,off,e,fun j hj=>?_⟩;have hj':j<k:=by omega
 rw[hcell j (by omega),Dc,Dc,List.map_take,List.getElem?_take,if_pos hj']
theorem Tc {w:World} {b off n c k:Nat} {ss:List ByteArray} (h:BG w (.slice (some ⟨b,off,none⟩) n c) ss) (hn:n=ss.length) (hk:k≤n) (b' off':Nat) (he:k<n→b'=b∧off'=off+k):BG w (.slice (some ⟨b',off',none⟩) (n - k) (c - k)) (ss.drop k):=by
 obtain⟨ao,c',hv,hmc,hcm,hl,hnil,hc⟩:=h;simp only[Value.slice.injEq] at hv;obtain⟨rfl,_,rfl⟩:=hv;have hlen:(ss.drop k).length=n - k:=by rw[List.length_drop];omega
 unfold BG A6;rw[hlen];refine⟨_,_,rfl,by omega,by omega,by rw[Dc,List.length_map,hlen,Nat.mul_one],(by intro e;cases e),fun hk0=>?_⟩;obtain⟨b1,off1,e,hcell⟩:=hc (by omega);obtain⟨rfl,rfl⟩:b=b1∧off=off1:=by simpa using e
 obtain⟨rfl,rfl⟩:=he (by omega);refine⟨_,_,rfl,fun j hj=>?_⟩;rw[Nat.add_assoc,hcell (k+j) (by omega),Dc,Dc,List.map_drop,List.getElem?_drop]
theorem MO (vs:List Value):Bf Dz vs=vs:=by
 induction vs with
 |nil=>rfl
 |cons v vs ih=>rw[Gd,ih];rfl
theorem AV.set {lo B:Nat} {w0 w:World} {gs n cap j:Nat} {vs:List Value} {S:List (List Int)} {v':Value} {r:List Int} (h:AV lo w0 (.slice (some ⟨gs,0,none⟩) n cap) vs S) (hb:Below w0.heap.size w0 w) (hO:AE B w v' r) (hB:w0.heap.size≤B) (hlo:lo≤w0.heap.size) (hn:n=vs.length) (hj:j<vs.length):
 AV lo (w.setCell ⟨gs,j,none⟩ v') (.slice (some ⟨gs,0,none⟩) n cap) (vs.set j v') (S.set j r)∧w.grownBy (w.setCell ⟨gs,j,none⟩ v') (some gs):=by
 have h':=h.below hb;obtain⟨h1,⟨h2l,h2⟩,h3⟩:=h';have g1:w.ownsRow lo 28 1 (.slice (some ⟨gs,0,none⟩) n cap) n vs:=by have:=h1;unfold AC at this;rw[MO,←hn] at this;exact this
 obtain⟨s1,s2⟩:=World.ownsRow.stored g1 j v';obtain⟨cur,hcur⟩:=A8 g1 gs rfl;have old:∀(i:Nat) u,vs[i]? =some u→∀b,u.ownBlock=some b→b<w0.heap.size:=fun i u hu b hb'=>by
  obtain⟨x,hx⟩:∃x,S[i]? =some x:=⟨_,List.getElem?_eq_getElem (by rw[←h2l];exact(List.getElem?_eq_some_iff.1 hu).1)⟩
  exact(World.ownsRow.lt (h.2.1.2 i u x hu hx) b hb').2
 refine⟨⟨?_,⟨by rw[List.length_set,List.length_set];exact h2l,fun i u x hu hx=>?_⟩,fun i k u u' hik hu hu'=>?_⟩,s2⟩
 ·unfold AC
  rw[MO,List.length_set,←hn];exact s1
 ·rw[List.getElem?_set] at hu hx
  by_cases e:j=i
  ·subst e
   rw[if_pos rfl,if_pos hj] at hu;rw[if_pos rfl,if_pos (by rw[←h2l];exact hj)] at hx;cases hu;cases hx;exact EN (Bd hO (Nat.le_trans hlo hB)) s2 hcur (by decide)
  ·rw[if_neg e] at hu hx
   exact EN (h2 i u x hu hx) s2 hcur (by decide)
 ·have fresh:∀b,v'.ownBlock=some b→w0.heap.size≤b:=fun b hb'=>Nat.le_trans hB (World.ownsRow.lt hO b hb').1
  rw[List.getElem?_set] at hu hu'
  by_cases e:j=i
  ·subst e
   rw[if_pos rfl,if_pos hj] at hu;rw[if_neg hik] at hu';cases hu;intro b hb1 hb2;have:=fresh b hb1;have:=old k u' hu' b hb2;omega
  ·rw[if_neg e] at hu
   by_cases e':j=k
   ·subst e'
    rw[if_pos rfl,if_pos hj] at hu';cases hu';intro b hb1 hb2;have:=fresh b hb2;have:=old i u hu b hb1;omega
   ·rw[if_neg e'] at hu'
    exact h3 i k u u' hik hu hu'
theorem Fp {k:AH} (hk:DV k):k.cache.length≤4:=by have:=hk.cache;simp only[Bu,Bool.and_eq_true,decide_eq_true_eq] at this;exact this.2
theorem DW.newRow {T:Nat} {cs:Array Value} {R:List Nat} {lo g b0:Nat} {w W W':World} {i e c:Value} {k:AH} {gm n cap:Nat} (h:DW T cs R lo g b0 w W (.slice (some ⟨gm,0,none⟩) n cap) i e c k) (hn:n=k.mem.length) (hb:Below W.heap.size W W') {v':Value} {r:List Int} (h2:AE W.heap.size W' v' r) {f:Nat} (hf:f<k.mem.length):
 DW T cs R lo g b0 w (W'.setCell ⟨gm,f,none⟩ v') (.slice (some ⟨gm,0,none⟩) n cap) i e c {k with mem:=k.mem.set f r}:=by
 have h':=h.below hb;obtain⟨vs,o1⟩:=h.ink.2.2.1;have hvl:vs.length=k.mem.length:=o1.2.1.1;have S:=AV.set o1 hb h2 (Nat.le_refl _) h.lo (by omega) (show f<vs.length by omega);have o1':=o1.below hb;obtain⟨cur,hc⟩:=A8 o1'.1 gm rfl;obtain⟨hB,hg,_,o2,⟨ps,o3⟩,o4⟩:=h'.ink;exact⟨⟨JM hB S.2 hc (by decide),hg,⟨_,S.1⟩,o2.far S.2 hc (by decide),⟨ps,o3.far S.2 hc (by decide) (by decide)⟩,o4.far S.2 hc (by decide)⟩,BD h'.blk S.2 (DY hc h'.blk h.ty.2.2.2.2),AN h'.bel S.2 (World.ownsRow.lt o1'.1 gm rfl).1 h'.lo,Nat.le_trans h'.lo S.2.size,h.ty,h'.kf.row S.2 hc (by decide),fun b hr=>⟨(h.rs b hr).1,BD (h'.rs b hr).2 S.2 (DY hc (h'.rs b hr).2 (by decide))⟩⟩
def AM.cs (c:AM):Array Value:= #[.int .i64 c.k, .int .i64 c.e, .int .i64 c.a, .int .i64 c.b, .int .i64 c.c, .string c.nm]
abbrev SC (lo n:Nat) (call:AM) (w W:World) (m i e c:Value) (k:AH):Prop:=DW 48 call.cs [n+2] lo n (n+1) w W m i e c k
theorem SC.start {lo:Nat} {w:World} {m i e c:Value} {k:AH} (h:Ct lo w m i e c k) (hlo:lo≤w.heap.size) (call:AM):
 SC lo w.heap.size call w (((w.alloc (.cells #[m,i,e,c] 27)).alloc (.cells call.cs 48)).alloc (.cells #[.slice none 0 0, .slice none 0 0, .slice none 0 0, .slice none 0 0] 27)) m i e c k:=by
 obtain⟨N0,N1,hb0,hs0⟩:=Mr w (.cells #[m,i,e,c] 27) (.cells call.cs 48);generalize(w.alloc (.cells #[m,i,e,c] 27)).alloc (.cells call.cs 48)=W at*;have hb1:=AF W (.cells #[.slice none 0 0, .slice none 0 0, .slice none 0 0, .slice none 0 0] 27);have N2:=heap_alloc_new W (.cells #[.slice none 0 0, .slice none 0 0, .slice none 0 0, .slice none 0 0] 27);have hb:=hb0.trans (hb1.mono hb0.size);rw[hs0] at N2;refine⟨⟨AG N0 hb1,hlo,h.below hb⟩,AG N1 hb1,hb.mono hlo,Nat.le_trans hlo hb.size,by decide,Tj.below (fun _ _ _ _=>rfl) hb,fun b hr=>?_⟩;rw[List.mem_singleton] at hr;subst hr;exact⟨by omega,N2⟩
def Vs (m i e c:Value):Prop:=∃am nm cm ai ni ci ae ne ce ac nc cc,m= .slice am nm cm∧i= .slice ai ni ci∧e= .slice ae ne ce∧c= .slice ac nc cc
def Fd (lo:Nat) (w:World) (res:Kk) (r:Ending) (w':World):Prop:=∃m i e c,r= .returned (.tuple #[.agg #[m,i,e,c], .int .i64 res.2.1, .int .i64 res.2.2])∧Vs m i e c∧(res.2.2=0→Ct lo w' m i e c res.1)∧Below lo w w'∧(∀(b:Nat) (cu:Array Value),w.heap[b]? =some (.cells cu 27 (0,0))→w'.heap[b]? =w.heap[b]?)
section
variable {T:Nat} {cs:Array Value} {R:List Nat} {lo g b0 b:Nat} {w W W':World} {m i e c:Value} {k:AH}
theorem DW.ys6 {v0 v1 v2 v3 v4 v5:Value} (h:DW T #[v0,v1,v2,v3,v4,v5] R lo g b0 w W m i e c k):W.cell? ⟨b0,0,none⟩=some v0∧W.cell? ⟨b0,1,none⟩=some v1∧W.cell? ⟨b0,2,none⟩=some v2∧W.cell? ⟨b0,3,none⟩=some v3∧W.cell? ⟨b0,4,none⟩=some v4∧W.cell? ⟨b0,5,none⟩=some v5:=IR h.blk
theorem DW.K (h:DW T cs R lo g b0 w W m i e c k):L6 W m i e c k:=h.ink.2.2.rd
theorem DW.shapes (h:DW T cs R lo g b0 w W m i e c k):Vs m i e c:=by obtain⟨h1,h2,h3,h4⟩:=h.K;obtain⟨am,cm,rfl,_⟩:=h1.open;obtain⟨ai,ci,rfl,_,_⟩:=h2.shape;obtain⟨ae,ce,rfl,_⟩:=h3.open;obtain⟨ac,cc,rfl,_,_⟩:=h4.shape;exact⟨_,_,_,_,_,_,_,_,_,_,_,_,rfl,rfl,rfl,rfl⟩
theorem DW.ret (h:DW T cs [b] lo w.heap.size b0 w W m i e c k) (hlo:lo≤b) (hgb:w.heap.size≤b) {v code:Int} {res:Kk} (hr:res=(k,v,code)):
 ((((W.setCell ⟨b,0,none⟩ m).setCell ⟨b,1,none⟩ i).setCell ⟨b,2,none⟩ e).setCell ⟨b,3,none⟩ c).heap[b]? =some (.cells #[m,i,e,c] 27 (0,0))∧
 Fd lo w res (.returned (.tuple #[.agg #[m,i,e,c], .int .i64 v, .int .i64 code])) ((((W.setCell ⟨b,0,none⟩ m).setCell ⟨b,1,none⟩ i).setCell ⟨b,2,none⟩ e).setCell ⟨b,3,none⟩ c):=by
 obtain⟨hne,hB⟩:=h.rs b (List.mem_singleton.2 rfl);subst hr;have hgr:=AZ (AZ (AZ (Aj W b 0 m) 1 i) 2 e) 3 c;obtain⟨⟨vs,o1⟩,o2,⟨ps,o3⟩,o4⟩:=h.ink.2.2;exact⟨DB hB,m,i,e,c,rfl,h.shapes,fun _=>⟨⟨vs,o1.far hgr hB (by decide) (by decide)⟩,o2.far hgr hB (by decide),⟨ps,o3.far hgr hB (by decide) (by decide)⟩,o4.far hgr hB (by decide)⟩,(((h.bel.setCell hlo _).setCell hlo _).setCell hlo _).setCell hlo _,fun q cu hq=>(BD ((h.kf q cu (by have:=Aq hq;omega) hq).trans hq) (AZ (AZ (AZ (Aj W b 0 m) 1 i) 2 e) 3 c) (by have:=Aq hq;omega)).trans hq.symm⟩
theorem DW.bad (h:DW T cs [b] lo w.heap.size b0 w W m i e c k) (hlo:lo≤b) (hgb:w.heap.size≤b) {v code:Int} {res:Kk} {k':AH} (hr:res=(k',v,code)) (hc:code≠0):
 ((((W.setCell ⟨b,0,none⟩ m).setCell ⟨b,1,none⟩ i).setCell ⟨b,2,none⟩ e).setCell ⟨b,3,none⟩ c).heap[b]? =some (.cells #[m,i,e,c] 27 (0,0))∧
 Fd lo w res (.returned (.tuple #[.agg #[m,i,e,c], .int .i64 v, .int .i64 code])) ((((W.setCell ⟨b,0,none⟩ m).setCell ⟨b,1,none⟩ i).setCell ⟨b,2,none⟩ e).setCell ⟨b,3,none⟩ c):=by
 obtain⟨hne,hB⟩:=h.rs b (List.mem_singleton.2 rfl);subst hr;exact⟨DB hB,m,i,e,c,rfl,h.shapes,fun h=>absurd h hc,(((h.bel.setCell hlo _).setCell hlo _).setCell hlo _).setCell hlo _,fun q cu hq=>(BD ((h.kf q cu (by have:=Aq hq;omega) hq).trans hq) (AZ (AZ (AZ (Aj W b 0 m) 1 i) 2 e) 3 c) (by have:=Aq hq;omega)).trans hq.symm⟩
theorem DW.zs (h:DW T cs [b] lo g b0 w W m i e c k):(W.cell? ⟨b,0,none⟩=some (.slice none 0 0)∧W.cell? ⟨b,1,none⟩=some (.slice none 0 0)∧W.cell? ⟨b,2,none⟩=some (.slice none 0 0)∧W.cell? ⟨b,3,none⟩=some (.slice none 0 0))∧∀q,W.frozen? ⟨b,q,none⟩=false:=
 have hB:=(h.rs b (List.mem_singleton.2 rfl)).2
 ⟨AB hB,AI hB⟩
end
theorem QE {lo:Nat} {m iv ev cv:Value} {k:AH} {w:World} (h:Ct lo w m iv ev cv k) (hlo:lo≤w.heap.size) (hk:DV k) (call:AM) (he:0≤call.e∧call.e<3) (h2:call.k=2):
 Calls prog 71 #[.agg #[m,iv,ev,cv], .agg call.cs] w (Fd lo w (AO k call)):=by
 have S0':=SC.start h hlo call;have HP:=AA (Qt (k:=k) h2);have FZ:=AA (fun hz=>Gl (k:=k) (c:=call) (kind:=1) hz);obtain⟨am,nm_,cm,ai,ni,ci,ae,ne_,ce,ac,nc,cc,rfl,rfl,rfl,rfl⟩:=S0'.shapes;have S0:=AA S0';obtain⟨kk,e,a,b,c,nm⟩:=call;simp only[AM.cs] at S0 HP FZ ⊢;have HK:=AA hk;have CF:=AA (fun W (h:L6 W (.slice am nm_ cm) (.slice ai ni ci) (.slice ae ne_ ce) (.slice ac nc cc) k)=>IX _ _ _ _ k kk e a b c nm 1 W h hk he (.inr rfl));obtain⟨x0,x1,x2,x3⟩:=S0.out.xs;obtain⟨y0,y1,y2,y3,y4,y5⟩:=S0.out.ys6;generalize hfc:BY k ⟨kk,e,a,b,c,nm⟩ 1=fc at*;have Hn:Hid (w.heap.size=w.heap.size):=AA rfl;clear h h2 S0' hfc he hk;generalize hW0:((w.alloc _).alloc _).alloc _=W0 at*;go_in;go_wp2_with fail;refine(CF.out _ S0.out.K).mono ?_;rintro r w1 ⟨rfl,hb1⟩;have S1:=AA (S0.out.below hb1);clear x0 x1 x2 x3 y0 y1 y2 y3 y4 y5 hb1 CF
 by_cases ef:fc=0
 ·subst ef
  obtain⟨hin,hk0,hm,hk1,_⟩:=FZ.out rfl;have ab:=Ac.1 hin;obtain⟨an,rfl⟩:∃n:Nat,a=(n:Int):=⟨a.toNat,by omega⟩
  have han:an<12:=by omega
  have hkd:(infoAt k.infos an).k=1:=hk1 (by decide);have hio:=(AT HK.out).2.1;have HP2:=AA (show AO k ⟨kk,e,(an:Int),b,c,nm⟩=if(infoAt k.infos an).r≠0 then(k,0,2) else({k with infos:=k.infos.set an AL.zero},0,0) by rw[HP.out];rfl);obtain⟨x0,x1,x2,x3⟩:=S1.out.xs;obtain⟨y0,y1,y2,y3,y4,y5⟩:=S1.out.ys6
  by_cases er:(infoAt k.infos an).r=0
  ·have CG:=AA (fun W hi=>Mo (.slice ai ni ci) k.infos an W hi hio han hkd er)
   have HP3:=AA (show AO k ⟨kk,e,(an:Int),b,c,nm⟩=({k with infos:=k.infos.set an AL.zero},0,0) by rw[HP2.out,if_neg (by simp[er])]);clear hin hk0 hm hk1 hkd er hio FZ HP HP2 ab;go_wp2_with fail;refine(CG.out _ S1.out.K.2.1).mono ?_;rintro r w2 ⟨v',rfl,hO,hb2⟩;clear x0 x1 x2 x3 y0 y1 y2 y3 y4 y5;have S2:=AA (S1.out.newInfos hb2 hO);have fzg:=AI (S1.out.below hb2).ink.1;have x1o:=(S1.out.below hb2).xs.2.1;obtain⟨a9,c9,e9,_,_⟩:=hO.rd.shape;generalize List.length _=n9 at e9;subst e9;clear hO hb2;generalize hW9:w2.setCell _ _=W9 at S2;obtain⟨x0,x1,x2,x3⟩:=S2.out.xs;obtain⟨⟨z0,z1,z2,z3⟩,hfz⟩:=S2.out.zs;obtain⟨hB9,HR9⟩:=S2.out.ret (Nat.le_trans hlo (Nat.le_add_right _ _)) (Nat.le_add_right _ _) (v:=0) (code:=0) (HP3.out);have HE:=AA (AB hB9);have HR:=AA HR9;clear hB9 HR9;go_wp2_with ((try simp only[Exit.inBlock,Exit.then]);with_reducible refine bodyPost_ret (v:= .tuple #[.agg #[_,_,_,_], .int .i64 (0), .int .i64 (0)]) ?_ rfl HR.out;obtain⟨E0,E1,E2,E3⟩:=HE.out;simp[results,Tryz.results71,go_sem,E0,E1,E2,E3])
  ·have CG:=AA (fun W hi=>NS (.slice ai ni ci) k.infos an W hi hio han hkd er)
   have HP3:=AA (show AO k ⟨kk,e,(an:Int),b,c,nm⟩=(k,0,2) by rw[HP2.out,if_pos er]);clear hin hk0 hm hk1 hkd er hio FZ HP HP2 ab;go_wp2_with fail;refine(CG.out _ S1.out.K.2.1).mono ?_;rintro r w2 ⟨v',rfl,hb2⟩;have S2:=AA (S1.out.below hb2);clear x0 x1 x2 x3 y0 y1 y2 y3 y4 y5 hb2;obtain⟨x0,x1,x2,x3⟩:=S2.out.xs;obtain⟨⟨z0,z1,z2,z3⟩,hfz⟩:=S2.out.zs;obtain⟨hB9,HR9⟩:=S2.out.bad (Nat.le_trans hlo (Nat.le_add_right _ _)) (Nat.le_add_right _ _) (v:=0) (code:=2) (HP3.out) (by decide);have HE:=AA (AB hB9);have HR:=AA HR9;clear hB9 HR9;go_wp2_with ((try simp only[Exit.inBlock,Exit.then]);with_reducible refine bodyPost_ret (v:= .tuple #[.agg #[_,_,_,_], .int .i64 (0), .int .i64 (2)]) ?_ rfl HR.out;obtain⟨E0,E1,E2,E3⟩:=HE.out;simp[results,Tryz.results71,go_sem,E0,E1,E2,E3])
 ·have t1:(fc !=0)=true:=by simp[ef]
  have hc:=AA ef;have HP3:=AA (show AO k ⟨kk,e,a,b,c,nm⟩=(k,0,fc) by rw[HP.out,if_neg ef]);clear ef FZ HP;obtain⟨x0,x1,x2,x3⟩:=S1.out.xs;obtain⟨⟨z0,z1,z2,z3⟩,hfz⟩:=S1.out.zs;obtain⟨hB9,HR9⟩:=S1.out.bad (Nat.le_trans hlo (Nat.le_add_right _ _)) (Nat.le_add_right _ _) (v:=0) (code:=fc) (HP3.out) (hc.out);have HE:=AA (AB hB9);have HR:=AA HR9;clear hB9 HR9;go_wp2_with ((try simp only[Exit.inBlock,Exit.then]);with_reducible refine bodyPost_ret (v:= .tuple #[.agg #[_,_,_,_], .int .i64 (0), .int .i64 (fc)]) ?_ rfl HR.out;obtain⟨E0,E1,E2,E3⟩:=HE.out;simp[results,Tryz.results71,go_sem,E0,E1,E2,E3])
theorem QG {lo:Nat} {m iv ev cv:Value} {k:AH} {w:World} (h:Ct lo w m iv ev cv k) (hlo:lo≤w.heap.size) (hk:DV k) (call:AM) (he:0≤call.e∧call.e<3) (h2:call.k=3):
 Calls prog 72 #[.agg #[m,iv,ev,cv], .agg call.cs] w (Fd lo w (AO k call)):=by
 have S0':=SC.start h hlo call;have HP:=AA (Qu (k:=k) h2);have FZ:=AA (fun hz=>Gl (k:=k) (c:=call) (kind:=1) hz);have hok:=(AT hk).1;obtain⟨gm,capm,rfl,_⟩:=DW.mems S0' hok;obtain⟨am,nm_,cm,ai,ni,ci,ae,ne_,ce,ac,nc,cc,em,rfl,rfl,rfl⟩:=S0'.shapes;clear em;have S0:=AA S0';obtain⟨kk,e,a,b,c,nm⟩:=call;simp only[AM.cs] at S0 HP FZ ⊢;have HK:=AA hk;have CF:=AA (fun W (h:L6 W (.slice (some ⟨gm,0,none⟩) 12 capm) (.slice ai ni ci) (.slice ae ne_ ce) (.slice ac nc cc) k)=>IX _ _ _ _ k kk e a b c nm 1 W h hk he (.inr rfl));obtain⟨x0,x1,x2,x3⟩:=S0.out.xs;obtain⟨y0,y1,y2,y3,y4,y5⟩:=S0.out.ys6;generalize hfc:BY k ⟨kk,e,a,b,c,nm⟩ 1=fc at*;have Hok:=AA hok;clear h h2 S0' hfc he hk hok;generalize hW0:((w.alloc _).alloc _).alloc _=W0 at*;go_in;go_wp2_with fail;refine(CF.out _ S0.out.K).mono ?_;rintro r w1 ⟨rfl,hb1⟩;have S1:=AA (S0.out.below hb1);clear x0 x1 x2 x3 y0 y1 y2 y3 y4 y5 hb1 CF
 by_cases ef:fc=0
 ·subst ef
  obtain⟨hin,hk0,hm,hk1,_⟩:=FZ.out rfl;have ab:=Ac.1 hin;obtain⟨an,rfl⟩:∃n:Nat,a=(n:Int):=⟨a.toNat,by omega⟩
  have han:an<12:=by omega
  have hani:(an:Int)<12:=by omega
  have HP2:=AA (show AO k ⟨kk,e,(an:Int),b,c,nm⟩=if Bv b 0 3=false∨Ee c=false then(k,0,3) else({k with mem:=CZ k.mem an b.toNat c},0,0) by rw[HP.out];rfl);obtain⟨x0,x1,x2,x3⟩:=S1.out.xs;obtain⟨y0,y1,y2,y3,y4,y5⟩:=S1.out.ys6;clear hin hk0 hm hk1 ab FZ HP;cases hb3:Bv b 0 3
  ·have HP3:=AA (show AO k ⟨kk,e,(an:Int),b,c,nm⟩=(k,0,3) by rw[HP2.out,if_pos (.inl hb3)])
   have Hb3:=AA hb3;clear hb3 HP2;go_wp2_with fail;refine(DH _ _ _ _).mono ?_;rintro r w2 ⟨rfl,rfl⟩;rw[Hb3.out];clear x0 x1 x2 x3 y0 y1 y2 y3 y4 y5;obtain⟨x0,x1,x2,x3⟩:=S1.out.xs;obtain⟨⟨z0,z1,z2,z3⟩,hfz⟩:=S1.out.zs;obtain⟨hB9,HR9⟩:=S1.out.bad (Nat.le_trans hlo (Nat.le_add_right _ _)) (Nat.le_add_right _ _) (v:=0) (code:=3) (HP3.out) (by decide);have HE:=AA (AB hB9);have HR:=AA HR9;clear hB9 HR9;go_wp2_with ((try simp only[Exit.inBlock,Exit.then]);with_reducible refine bodyPost_ret (v:= .tuple #[.agg #[_,_,_,_], .int .i64 (0), .int .i64 (3)]) ?_ rfl HR.out;obtain⟨E0,E1,E2,E3⟩:=HE.out;simp[results,Tryz.results72,go_sem,E0,E1,E2,E3])
  ·cases hc3:Ee c
   ·have HP3:=AA (show AO k ⟨kk,e,(an:Int),b,c,nm⟩=(k,0,3) by rw[HP2.out,if_pos (.inr hc3)])
    have Hb3:=AA hb3;have Hc3:=AA (show Bv c 0 9999=false from hc3);clear hb3 HP2 hc3;go_wp2_with fail;refine(DH _ _ _ _).mono ?_;rintro r w2 ⟨rfl,rfl⟩;rw[Hb3.out];go_wp2_with fail;refine(DH _ _ _ _).mono ?_;rintro r w2 ⟨rfl,rfl⟩;rw[Hc3.out];clear x0 x1 x2 x3 y0 y1 y2 y3 y4 y5;obtain⟨x0,x1,x2,x3⟩:=S1.out.xs;obtain⟨⟨z0,z1,z2,z3⟩,hfz⟩:=S1.out.zs;obtain⟨hB9,HR9⟩:=S1.out.bad (Nat.le_trans hlo (Nat.le_add_right _ _)) (Nat.le_add_right _ _) (v:=0) (code:=3) (HP3.out) (by decide);have HE:=AA (AB hB9);have HR:=AA HR9;clear hB9 HR9;go_wp2_with ((try simp only[Exit.inBlock,Exit.then]);with_reducible refine bodyPost_ret (v:= .tuple #[.agg #[_,_,_,_], .int .i64 (0), .int .i64 (3)]) ?_ rfl HR.out;obtain⟨E0,E1,E2,E3⟩:=HE.out;simp[results,Tryz.results72,go_sem,E0,E1,E2,E3])
   ·have HP3:=AA (show AO k ⟨kk,e,(an:Int),b,c,nm⟩=({k with mem:=CZ k.mem an b.toNat c},0,0) by rw[HP2.out,if_neg (by simp[hb3,hc3])])
    have bb:=Ac.1 hb3;obtain⟨bn,rfl⟩:∃n:Nat,b=(n:Int):=⟨b.toNat,by omega⟩
    have hbn:bn<4:=by omega
    have hbni:(bn:Int)<4:=by omega
    have Hb3:=AA hb3;have Hc3:=AA (show Bv c 0 9999=true from hc3);obtain⟨gw,capw,D,hgw,hcw,_⟩:=DW.mrow S1.out Hok.out han;obtain⟨hlb,hlg,_,_⟩:=S1.out.lts;have hgm:gm<w1.heap.size:=World.block_lt_of_cell? _ _ D;clear hb3 hc3 bb HP2;go_wp2_with fail;refine(DH _ _ _ _).mono ?_;rintro r w2 ⟨rfl,rfl⟩;rw[Hb3.out];go_wp2_with fail;refine(DH _ _ _ _).mono ?_;rintro r w2 ⟨rfl,rfl⟩;rw[Hc3.out];go_wp2_with fail;refine Al 10 40 [.p w.heap.size 0, .s gm 12 capm, .p (w.heap.size+1) 2, .i ((an:Int)), .p gm an, .s gw 4 capw, .p (w.heap.size+1) 3, .i ((bn:Int)), .p (w.heap.size+1) 4, .i c] (fun _ _ _=>True) ?_ ?_
    ·intro i hi o ho a wx Hb Hd hG K HK
     have mc0:=bc hG hlg x0;have mc1:=bc hG hlb y2;have mc2:=bc hG hgm D;have mc3:=bc hG hlb y3;have mc4:=bc hG hlb y4
     match i,hi with
     |0,_|2,_|6,_|8,_=>exact sP ho HK Hb Hd
     |1,_=>exact sL ho HK Hb Hd (hl:=Ff (by assumption))
     |3,_|7,_|9,_=>exact sL ho HK Hb Hd (hl:=Fg (by assumption))
     |4,_=>exact sI ho HK Hb Hd (hr:=by clear Hd Hb HK;go_simp)
     |5,_=>exact sL ho HK Hb Hd (hl:=Ra (by assumption))
    ·intro vs wx hR hG
     have q5:(vs 5)= .slice (some ⟨gw,0,none⟩) 4 capw:=BT hR 5;have q7:(vs 7)= .int .i64 bn:=BT hR 7;have q9:(vs 9)= .int .i64 c:=BT hR 9;clear hR;simp only[Ai,AQ,List.range,List.range.loop,List.foldl_cons,List.foldl_nil,q5,q7,q9];simp;clear q5 q7 q9;have S2:=AA (S1.out.below hG);obtain⟨gw2,capw2,D2,_,_,hC,Fr,_,_,_,hS⟩:=DW.mrow S2.out Hok.out han;have eD:=D2.symm.trans ((hG.cell (p:=⟨gm,an,none⟩) hgm).trans D);cases eD;have D3:=hC bn hbn;have S3:=AA (hS bn c hbn);generalize hW9:wx.setCell _ _=W9 at S3;clear x0 x1 x2 x3 y0 y1 y2 y3 y4 y5 D D2 hS hG S1 hC;obtain⟨x0,x1,x2,x3⟩:=S3.out.xs;obtain⟨⟨z0,z1,z2,z3⟩,hfz⟩:=S3.out.zs;obtain⟨hB9,HR9⟩:=S3.out.ret (Nat.le_trans hlo (Nat.le_add_right _ _)) (Nat.le_add_right _ _) (v:=0) (code:=0) (HP3.out);have HE:=AA (AB hB9);have HR:=AA HR9;clear hB9 HR9;go_wp2_with ((try simp only[Exit.inBlock,Exit.then]);with_reducible refine bodyPost_ret (v:= .tuple #[.agg #[_,_,_,_], .int .i64 (0), .int .i64 (0)]) ?_ rfl HR.out;obtain⟨E0,E1,E2,E3⟩:=HE.out;simp[results,Tryz.results72,go_sem,E0,E1,E2,E3])
 ·have t1:(fc !=0)=true:=by simp[ef]
  have hc:=AA ef;have HP3:=AA (show AO k ⟨kk,e,a,b,c,nm⟩=(k,0,fc) by rw[HP.out,if_neg ef]);clear ef FZ HP;obtain⟨x0,x1,x2,x3⟩:=S1.out.xs;obtain⟨⟨z0,z1,z2,z3⟩,hfz⟩:=S1.out.zs;obtain⟨hB9,HR9⟩:=S1.out.bad (Nat.le_trans hlo (Nat.le_add_right _ _)) (Nat.le_add_right _ _) (v:=0) (code:=fc) (HP3.out) (hc.out);have HE:=AA (AB hB9);have HR:=AA HR9;clear hB9 HR9;go_wp2_with ((try simp only[Exit.inBlock,Exit.then]);with_reducible refine bodyPost_ret (v:= .tuple #[.agg #[_,_,_,_], .int .i64 (0), .int .i64 (fc)]) ?_ rfl HR.out;obtain⟨E0,E1,E2,E3⟩:=HE.out;simp[results,Tryz.results72,go_sem,E0,E1,E2,E3])
def GH (w:World) (b:Nat) (m i e c:Value):World:=(((w.setCell ⟨b,0,none⟩ m).setCell ⟨b,1,none⟩ i).setCell ⟨b,2,none⟩ e).setCell ⟨b,3,none⟩ c
def GA (W:World) (b:Nat) (m i e c:Value) (t:Bool) (ww:World):Prop:=match t with
 |false=>Below W.heap.size W ww
 |true=>∃wz,Below W.heap.size W wz∧Below wz.heap.size (GH wz b m i e c) ww
theorem GA.grow {W:World} {b:Nat} {m i e c:Value} {t:Bool} {ww ww':World} (h:GA W b m i e c t ww) (hb:Below ww.heap.size ww ww'):GA W b m i e c t ww':=by
 cases t
 ·exact Below.trans h (hb.mono (Below.size h))
 ·obtain⟨wz,h1,h2⟩:=h
  exact⟨wz,h1,h2.trans (hb.mono (by have:=h2.size;simpa[GH] using this))⟩
theorem GA.cell {W:World} {b:Nat} {m i e c:Value} {t:Bool} {ww:World} (h:GA W b m i e c t ww) {g o:Nat} (hp:g<W.heap.size) (hne:g≠b):ww.cell? ⟨g,o,none⟩=W.cell? ⟨g,o,none⟩:=by
 cases t
 ·exact Below.cell (p:=⟨g,o,none⟩) h hp
 ·obtain⟨wz,h1,h2⟩:=h
  have hz:g<wz.heap.size:=Nat.lt_of_lt_of_le hp h1.size;have hgr:wz.grownBy (GH wz b m i e c) (some b):=AZ (AZ (AZ (Aj wz b 0 m) 1 i) 2 e) 3 c;exact(Below.cell (p:=⟨g,o,none⟩) h2 hz).trans ((Du hgr hz (fun e=>hne (So_ e).symm)).trans (h1.cell (p:=⟨g,o,none⟩) hp))
theorem Ds {w:World} {g T:Nat} {a b c:Value} (h:w.heap[g]? =some (.cells #[a,b,c] T (0,0))):w.cell? ⟨g,0,none⟩=some a∧w.cell? ⟨g,1,none⟩=some b∧w.cell? ⟨g,2,none⟩=some c:=
 ⟨cell_of_row _ _ 0 _ _ _ h,cell_of_row _ _ 1 _ _ _ h,cell_of_row _ _ 2 _ _ _ h⟩
theorem My {m:List (List Int)} {root a fr:Nat} {wb:Bool} (h:BS m root a=(0,fr,wb)):fr<12:=by
 unfold BS at h
 split at h
 ·split at h
  ·next h2=>cases h;exact Dg h2
  ·cases h
 ·cases h
theorem DW.far {T:Nat} {cs:Array Value} {R:List Nat} {lo g b0 q:Nat} {w W W':World} {m i e c:Value} {k:AH} (h:DW T cs R lo g b0 w W m i e c k) (hT:T≠126) {cu:Array Value} (hB:W.heap[q]? =some (.cells cu 126 (0,0))) (hq:lo≤q) (hg:W.grownBy W' (some q)):DW T cs R lo g b0 w W' m i e c k:=by
 obtain⟨hK,hlo,⟨vs,o1⟩,o2,⟨ps,o3⟩,o4⟩:=h.ink;exact⟨⟨JM hK hg hB (by decide),hlo,⟨vs,o1.far hg hB (by decide) (by decide)⟩,o2.far hg hB (by decide),⟨ps,o3.far hg hB (by decide) (by decide)⟩,o4.far hg hB (by decide)⟩,BD h.blk hg (DY hB h.blk hT.symm),AN h.bel hg hq h.lo,Nat.le_trans h.lo hg.size,h.ty,h.kf.row hg hB (by decide),fun b hr=>⟨(h.rs b hr).1,BD (h.rs b hr).2 hg (DY hB (h.rs b hr).2 (by decide))⟩⟩
theorem DW.place {T:Nat} {cs:Array Value} {R:List Nat} {lo g b0 q:Nat} {w W:World} {m i e c x y z:Value} {k:AH} (h:DW T cs R lo g b0 w W m i e c k) (hT:T≠126) (hB:W.heap[q]? =some (.cells #[x,y,z] 126 (0,0))) (hq:lo≤q) (u v t:Value):
 DW T cs R lo g b0 w (((W.setCell ⟨q,0,none⟩ u).setCell ⟨q,1,none⟩ v).setCell ⟨q,2,none⟩ t) m i e c k∧(((W.setCell ⟨q,0,none⟩ u).setCell ⟨q,1,none⟩ v).setCell ⟨q,2,none⟩ t).heap[q]? =some (.cells #[u,v,t] 126 (0,0)):=by
 refine⟨h.far hT hB hq (AZ (AZ (Aj W q 0 u) 1 v) 2 t),?_⟩;have h1:=heap_setCell_same W q 0 _ 126 u hB;have h2:=heap_setCell_same _ q 1 _ 126 v h1;have h3:=heap_setCell_same _ q 2 _ 126 t h2;simpa using h3
theorem DW.place2 {T:Nat} {cs:Array Value} {R:List Nat} {lo g b0 q:Nat} {w W:World} {m i e c x y z:Value} {k:AH} (h:DW T cs R lo g b0 w W m i e c k) (hT:T≠126) (hB:W.heap[q]? =some (.cells #[x,y,z] 126 (0,0))) (hq:lo≤q) (u t:Value):
 DW T cs R lo g b0 w ((W.setCell ⟨q,0,none⟩ u).setCell ⟨q,2,none⟩ t) m i e c k∧((W.setCell ⟨q,0,none⟩ u).setCell ⟨q,2,none⟩ t).heap[q]? =some (.cells #[u,y,t] 126 (0,0)):=by
 refine⟨h.far hT hB hq (AZ (Aj W q 0 u) 2 t),?_⟩;have h1:=heap_setCell_same W q 0 _ 126 u hB;have h3:=heap_setCell_same _ q 2 _ 126 t h1;simpa using h3
theorem Fd.below {lo:Nat} {w W W':World} {res:Kk} {r:Ending} (h:Fd lo w res r W) (hlo:lo≤W.heap.size) (hb:Below W.heap.size W W'):Fd lo w res r W':=by
 obtain⟨m,i,e,c,h1,hs,h2,h3,h4⟩:=h;exact⟨m,i,e,c,h1,hs,fun hc=>(h2 hc).below hb,h3.trans (hb.mono hlo),fun b cu hB=>(hb.block b (Aq ((h4 b cu hB).trans hB))).trans (h4 b cu hB)⟩
theorem MV (v:Value) (m:List (List Int)) (root a:Nat) (w:World) (h:BI w v m) (hok:Bq m=true) (hr:root<12) (ha:a<64):
 Calls prog 109 #[v, .int .i64 root, .int .i64 a] w fun e w'=>e= .returned (Fj m root a)∧Below w.heap.size w w':=by
 obtain⟨q,c,rfl,hc,hcm,H0⟩:=h.open;have hl:=(Af.1 hok).1;unfold maxLen at hcm;rw[hl] at hc ⊢;obtain⟨b,off,b2,off2,c2,rfl,hb,D,hb2,D2⟩:=H0.word hok hr (show a/16<4 by omega);have D':=((AF w (.cells #[.int .i64 0, .int .i64 0, .bool false] 126)).cell (p:=⟨b,off+root,none⟩) hb).trans D;have D2':=((AF w (.cells #[.int .i64 0, .int .i64 0, .bool false] 126)).cell (p:=⟨b2,off2+a/16,none⟩) hb2).trans D2;have hw1:=FO hok hr (show a/16<4 by omega);have E1:=AA (fun W=>Bz (Ar m root (a/16)) W (by omega));have hB:=AF w (.cells #[.int .i64 0, .int .i64 0, .bool false] 126);cases hg1:BV (Ar m root (a/16))
 ·have S:=AA (show Fj m root a= .tuple #[Da, .int .i64 1] by simp[Fj,BS,hg1])
  have V1:=AA (Dh hg1);clear H0 D D2 hg1 hw1 hb hb2;go_in;go_wp2_with fail;refine(E1.out _).mono ?_;rintro e w' ⟨rfl,rfl⟩;rw[V1.out];go_wp2_with fail;exact bodyPost_ret (v:= .tuple #[Da, .int .i64 1]) (by simp[results,Tryz.results109,go_sem,Da]) rfl ⟨by rw[S.out],hB⟩
 ·have ht:A1 (Ar m root (a/16))<12:=Dg hg1
  have V1:=AA (Dd hg1);obtain⟨b',off',b3,off3,c3,e,hb',D3,hb3,D4⟩:=H0.word hok ht (show a/4%4<4 by omega);cases e;have D3':=((AF w (.cells #[.int .i64 0, .int .i64 0, .bool false] 126)).cell (p:=⟨b,off+A1 (Ar m root (a/16)),none⟩) hb).trans D3;have D4':=((AF w (.cells #[.int .i64 0, .int .i64 0, .bool false] 126)).cell (p:=⟨b3,off3+a/4%4,none⟩) hb3).trans D4;have hw2:=FO hok ht (show a/4%4<4 by omega);have E2:=AA (fun W=>Bz (Ar m (A1 (Ar m root (a/16))) (a/4%4)) W (by omega));cases hg2:BV (Ar m (A1 (Ar m root (a/16))) (a/4%4))
  ·have S:=AA (show Fj m root a= .tuple #[Da, .int .i64 2] by simp[Fj,BS,hg1,hg2])
   have V2:=AA (Dh hg2);clear H0 D D2 D3 D4 hg1 hg2 hw1 hw2 hb hb2 hb3 hb';go_in;go_wp2_with fail;refine(E1.out _).mono ?_;rintro e w' ⟨rfl,rfl⟩;rw[V1.out];go_wp2_with fail;refine(E2.out _).mono ?_;rintro e w' ⟨rfl,rfl⟩;rw[V2.out];go_wp2_with fail;exact bodyPost_ret (v:= .tuple #[Da, .int .i64 2]) (by simp[results,Tryz.results109,go_sem,Da]) rfl ⟨by rw[S.out],hB⟩
  ·have S:=AA (show Fj m root a= .tuple #[.agg #[.int .i64 ((A1 (Ar m (A1 (Ar m root (a/16))) (a/4%4)):Nat):Int), .int .i64 ((a:Int)%4), .bool (IS (Ar m root (a/16))&&IS (Ar m (A1 (Ar m root (a/16))) (a/4%4)))], .int .i64 0] by simp[Fj,BS,hg1,hg2,If])
   have V2:=AA (Dd hg2);generalize A1 (Ar m (A1 (Ar m root (a/16))) (a/4%4))=fr at S V2;generalize IS (Ar m (A1 (Ar m root (a/16))) (a/4%4))=wb at S V2;generalize IS (Ar m root (a/16))=wa at S V1;cases wa
   all_goals
    clear H0 D D2 D3 D4 hg1 hg2 hw1 hw2 hb hb2 hb3 hb';go_in;go_wp2_with fail;refine(E1.out _).mono ?_;rintro e w' ⟨rfl,rfl⟩;rw[V1.out];go_wp2_with fail;refine(E2.out _).mono ?_;rintro e w' ⟨rfl,rfl⟩;rw[V2.out];go_wp2_with fail
   ·exact bodyPost_ret (v:= .tuple #[.agg #[.int .i64 fr, .int .i64 ((a:Int)%4), .bool false], .int .i64 0]) (by simp[results,Tryz.results109,go_sem]) rfl ⟨by rw[S.out,Bool.false_and],AF _ _⟩
   ·exact bodyPost_ret (v:= .tuple #[.agg #[.int .i64 fr, .int .i64 ((a:Int)%4), .bool wb], .int .i64 0]) (by simp[results,Tryz.results109,go_sem]) rfl ⟨by rw[S.out,Bool.true_and],AF _ _⟩
theorem ND {P:Program} {f:FuncId} {args:Array Value} {w:World} {v:Ending} (h:Calls P f args w fun e w'=>e=v∧∃n,w'=w.drewN n):Calls P f args w fun e w'=>e=v∧Below w.heap.size w w':=by refine h.mono ?_;rintro e w' ⟨h1,n,rfl⟩;exact⟨h1,Ao (Below.refl _ _) n⟩
theorem Ql.pageCells {w:World} {a:Option Addr} {xs:List DR} (h:Ql 3 CQ w a xs) {k:Nat} (hk:k<xs.length):∃b off,a=some ⟨b,off,none⟩∧b<w.heap.size∧w.cell? ⟨b,off+k*3,none⟩=some (.int .i64 (AW xs k).w)∧w.cell? ⟨b,off+k*3+1,none⟩=some (.int .i64 (AW xs k).a)∧w.cell? ⟨b,off+k*3+2,none⟩=some (.bool (AW xs k).u):=by obtain⟨b,off,rfl,hbl,hc⟩:=h k _ (show xs[k]? =some (AW xs k) from Ba hk);exact⟨b,off,rfl,hbl,by simpa using hc 0 _ rfl,hc 1 _ rfl,hc 2 _ rfl⟩
theorem Ri {P:Program} {f:FuncId} {args:Array Value} {w:World} {n:Nat} (h:∀m,Calls P f args (w.drewN m) fun e w'=>e= .returned (.bool true)∧∃j,w'=(w.drewN m).drewN j):∀x,Calls P f args (w.drewN (n+x)) fun e w''=>e= .returned (.bool true)∧∃j,w''=w.drewN (n+j):=by intro x;refine(h (n+x)).mono ?_;rintro e w' ⟨rfl,j,rfl⟩;exact⟨rfl,x+j,by rw[LH,Nat.add_assoc]⟩
theorem Jy {P:Program} {f:FuncId} {args:Array Value} {w:World} {v:Ending} (h:Calls P f args w fun e w'=>e=v∧∃n,w'=w.drewN n):Calls P f args w fun e w'=>e=v∧Below w.heap.size w w':=ND h
end Go.Proofs.YteocokgpmgfbaaaGreatDoor
