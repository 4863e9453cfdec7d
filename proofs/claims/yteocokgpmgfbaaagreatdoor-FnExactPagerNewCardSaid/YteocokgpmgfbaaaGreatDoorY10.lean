/-
  Packed:6 texts.
-/
import Derived.Test.YteocokgpmgfbaaaGreatDoorY1
import Derived.Test.YteocokgpmgfbaaaGreatDoorY9
import Derived.Lib.QuietBelow
set_option linter.unusedVariables false
set_option linter.unusedSimpArgs false
set_option maxHeartbeats 16000000
set_option maxRecDepth 100000
namespace Go.Proofs.YteocokgpmgfbaaaGreatDoor
open Go.Proofs.Tryz
open Go.RowKit
theorem Rr (w:World) (a b:Obj):Below w.heap.size w ((w.alloc a).alloc b):=(Mr w a b).2.2.1
theorem Nf (v1 v2:Value) (xs:List Int) (w:World) (h1:Ap w v1 xs) (h2:Ap w v2 xs):
 Calls prog 21 #[v1,v2] w fun e w'=>e= .returned (.bool true)∧∃n,w'=w.drewN n:=by
 obtain⟨a1,c1,rfl,hc1,hcm1,H1⟩:=h1.open;obtain⟨a2,c2,rfl,hc2,hcm2,H2⟩:=h2.open;unfold maxLen at hcm1 hcm2;clear h1 h2;have hb:((xs.length:Int) !=xs.length)=false:=by simp
 go_in;go_wp2_with fail;go_loopw [5] (fun i wr=>∃k:Nat,k≤xs.length∧i= .int .i64 k∧∃n,wr=w.drewN n) (fun i _=>xs.length - (intOf i).toNat)
 case atStart=>exact⟨0,Nat.zero_le _,rfl,0,rfl⟩
 case round=>
  obtain⟨k,hk,rfl,n,rfl⟩:=hrel
  by_cases hlt:k<xs.length
  ·have hlti:(k:Int)<(xs.length:Int):=by omega
   obtain⟨b1,o1,rfl,D1⟩:=H1.at hlt;obtain⟨b2,o2,rfl,D2⟩:=H2.at hlt;clear H1 H2;go_wp2_with fail;go_quiet (fail);go_wp2_with fail;go_roundw
   case rel=>exact⟨k+1,by omega,by go_num,_,rfl⟩
   case measure=>simp[intOf];omega
  ·have hlti:¬(k:Int)<(xs.length:Int):=by omega
   go_wp2_with fail;go_ret;exact⟨rfl,_,rfl⟩
theorem Om (v1 v2:Value) (xs:List ByteArray) (w:World) (h1:BG w v1 xs) (h2:BG w v2 xs):
 Calls prog 88 #[v1,v2] w fun e w'=>e= .returned (.bool true)∧∃n,w'=w.drewN n:=by
 obtain⟨a1,c1,rfl,hc1,hcm1,H1⟩:=A6.open DE (by decide) h1;obtain⟨a2,c2,rfl,hc2,hcm2,H2⟩:=A6.open DE (by decide) h2;unfold maxLen at hcm1 hcm2;clear h1 h2;have hb:((xs.length:Int) !=xs.length)=false:=by simp
 go_in;go_wp2_with fail;go_loopw [5] (fun i wr=>∃k:Nat,k≤xs.length∧i= .int .i64 k∧∃n,wr=w.drewN n) (fun i _=>xs.length - (intOf i).toNat)
 case atStart=>exact⟨0,Nat.zero_le _,rfl,0,rfl⟩
 case round=>
  obtain⟨k,hk,rfl,n,rfl⟩:=hrel
  by_cases hlt:k<xs.length
  ·have hlti:(k:Int)<(xs.length:Int):=by omega
   obtain⟨b1,o1,rfl,D1⟩:=H1.str hlt;obtain⟨b2,o2,rfl,D2⟩:=H2.str hlt;clear H1 H2;go_wp2_with fail;go_quiet (fail);go_wp2_with fail;go_roundw
   case rel=>exact⟨k+1,by omega,by go_num,_,rfl⟩
   case measure=>simp[intOf];omega
  ·have hlti:¬(k:Int)<(xs.length:Int):=by omega
   go_wp2_with fail;go_ret;exact⟨rfl,_,rfl⟩
theorem MK (v1 v2:Value) (xs:List (List Int)) (w:World) (h1:BI w v1 xs) (h2:BI w v2 xs):
 Calls prog 20 #[v1,v2] w fun e w'=>e= .returned (.bool true)∧∃n,w'=w.drewN n:=by
 obtain⟨a1,c1,rfl,hc1,hcm1,H1⟩:=h1.open;obtain⟨a2,c2,rfl,hc2,hcm2,H2⟩:=h2.open;unfold maxLen at hcm1 hcm2;clear h1 h2;have hb:((xs.length:Int) !=xs.length)=false:=by simp
 go_in;go_wp2_with fail;go_loopw [5] (fun i wr=>∃k:Nat,k≤xs.length∧i= .int .i64 k∧∃n,wr=w.drewN n) (fun i _=>xs.length - (intOf i).toNat)
 case atStart=>exact⟨0,Nat.zero_le _,rfl,0,rfl⟩
 case round=>
  obtain⟨k,hk,rfl,n,rfl⟩:=hrel
  by_cases hlt:k<xs.length
  ·have hlti:(k:Int)<(xs.length:Int):=by omega
   obtain⟨b1,o1,u1,rfl,_,D1,R1⟩:=H1 k hlt;obtain⟨b2,o2,u2,rfl,_,D2,R2⟩:=H2 k hlt;have HQ:=AA (Ri (w:=w) (n:=n) fun m=>Nf u1 u2 (AK xs k) (w.drewN m) (R1.below (Ao (Below.refl _ _) m)) (R2.below (Ao (Below.refl _ _) m)));clear H1 H2 R1 R2;go_wp2_with fail;go_quiet ((go_at_call 21;exact HQ.out _));go_wp2_with fail;go_roundw
   case rel=>exact⟨k+1,by omega,by go_num,_,rfl⟩
   case measure=>simp[intOf];omega
  ·have hlti:¬(k:Int)<(xs.length:Int):=by omega
   go_wp2_with fail;go_ret;exact⟨rfl,_,rfl⟩
theorem Q6 (x:AL) (w:World):Calls prog 64 #[x.val,x.val] w fun e w'=>e= .returned (.bool true)∧Below w.heap.size w w':=by
 have hb:(x.k !=x.k)=false:=by simp
 have hg:(x.g.toList !=x.g.toList)=false:=by simp
 have hr:(x.r !=x.r)=false:=by simp
 unfold AL.val;go_in;go_wp2_with fail;go_ret;exact⟨rfl,Rr w (.cells #[.int .i64 x.k, .string x.g, .int .i64 x.r] 91) (.cells #[.int .i64 x.k, .string x.g, .int .i64 x.r] 91)⟩
theorem Q5 (v1 v2:Value) (xs:List AL) (w:World) (h1:BH w v1 xs) (h2:BH w v2 xs):
 Calls prog 44 #[v1,v2] w fun e w'=>e= .returned (.bool true)∧Below w.heap.size w w':=by
 obtain⟨a1,c1,rfl,hc1,hcm1,H1⟩:=A6.open Ak (by decide) h1;obtain⟨a2,c2,rfl,hc2,hcm2,H2⟩:=A6.open Ak (by decide) h2;unfold maxLen at hcm1 hcm2;clear h1 h2;have H1:=AA H1;have H2:=AA H2;have hb:((xs.length:Int) !=xs.length)=false:=by simp
 go_in;go_wp2_with fail;go_loopw [5] (fun i wr=>∃k:Nat,k≤xs.length∧i= .int .i64 k∧Below w.heap.size w wr) (fun i _=>xs.length - (intOf i).toNat)
 case atStart=>exact⟨0,Nat.zero_le _,rfl,Below.refl _ _⟩
 case round=>
  obtain⟨k,hk,rfl,hbel⟩:=hrel
  by_cases hlt:k<xs.length
  ·have hlti:(k:Int)<(xs.length:Int):=by omega
   have Hb:=AA hbel;obtain⟨b1,o1,rfl,_,D0,D1,D2⟩:=(H1.out.below hbel).infoCells hlt;obtain⟨b2,o2,rfl,_,E0,E1,E2⟩:=(H2.out.below hbel).infoCells hlt;have D0:=cell_regrown D0;have D1:=cell_regrown D1;have D2:=cell_regrown D2;have E0:=cell_regrown E0;have E1:=cell_regrown E1;have E2:=cell_regrown E2;have cT:=Io (w1:=wr) (fun W _=>Q6 (infoAt xs k) W);clear hbel;go_wp2_with fail;refine wp_region_quiet_below mixed (by kernel_rfl) ?_
   repeat(go_big_quiet_step (exact cT _ _))
   refine wpQuiet_nil ?_;intro _ hw';obtain⟨⟨dq,osq⟩,hw''⟩:=hw';subst hw'';have bq:=below_regrown wr dq osq;generalize Sort.grow (redrawn wr dq) osq=wq at bq;have Hb1:=AA (Hb.out.trans (bq.mono Hb.out.size));clear bq cT D0 D1 D2 E0 E1 E2;go_wp2_with fail;go_roundw
   case rel=>exact⟨k+1,by omega,by go_num,Hb1.out⟩
   case measure=>simp[intOf];omega
  ·have hlti:¬(k:Int)<(xs.length:Int):=by omega
   go_wp2_with fail;go_ret;exact⟨rfl,hbel⟩
theorem Oj (x:AU) (w:World):Calls prog 66 #[x.val,x.val] w fun e w'=>e= .returned (.bool true)∧Below w.heap.size w w':=by
 have hb:(x.e !=x.e)=false:=by simp
 have hg:(x.p !=x.p)=false:=by simp
 have hr:(x.f !=x.f)=false:=by simp
 have hw:(x.w !=x.w)=false:=by simp
 unfold AU.val;go_in;go_wp2_with fail;go_ret;exact⟨rfl,Rr w (.cells #[.int .i64 x.e, .int .i64 x.p, .int .i64 x.f, .bool x.w] 95) (.cells #[.int .i64 x.e, .int .i64 x.p, .int .i64 x.f, .bool x.w] 95)⟩
theorem Oi (v1 v2:Value) (xs:List AU) (w:World) (h1:Bh w v1 xs) (h2:Bh w v2 xs):
 Calls prog 46 #[v1,v2] w fun e w'=>e= .returned (.bool true)∧Below w.heap.size w w':=by
 obtain⟨a1,c1,rfl,hc1,hcm1,H1⟩:=A6.open BP (by decide) h1;obtain⟨a2,c2,rfl,hc2,hcm2,H2⟩:=A6.open BP (by decide) h2;unfold maxLen at hcm1 hcm2;clear h1 h2;have H1:=AA H1;have H2:=AA H2;have hb:((xs.length:Int) !=xs.length)=false:=by simp
 go_in;go_wp2_with fail;go_loopw [5] (fun i wr=>∃k:Nat,k≤xs.length∧i= .int .i64 k∧Below w.heap.size w wr) (fun i _=>xs.length - (intOf i).toNat)
 case atStart=>exact⟨0,Nat.zero_le _,rfl,Below.refl _ _⟩
 case round=>
  obtain⟨k,hk,rfl,hbel⟩:=hrel
  by_cases hlt:k<xs.length
  ·have hlti:(k:Int)<(xs.length:Int):=by omega
   have Hb:=AA hbel;obtain⟨b1,o1,rfl,_,D0,D1,D2,D3⟩:=(H1.out.below hbel).cachedCells hlt;obtain⟨b2,o2,rfl,_,E0,E1,E2,E3⟩:=(H2.out.below hbel).cachedCells hlt;have D0:=cell_regrown D0;have D1:=cell_regrown D1;have D2:=cell_regrown D2;have D3:=cell_regrown D3;have E0:=cell_regrown E0;have E1:=cell_regrown E1;have E2:=cell_regrown E2;have E3:=cell_regrown E3;have cT:=Io (w1:=wr) (fun W _=>Oj (Ae xs k) W);clear hbel;go_wp2_with fail;refine wp_region_quiet_below mixed (by kernel_rfl) ?_
   repeat(go_big_quiet_step (exact cT _ _))
   refine wpQuiet_nil ?_;intro _ hw';obtain⟨⟨dq,osq⟩,hw''⟩:=hw';subst hw'';have bq:=below_regrown wr dq osq;generalize Sort.grow (redrawn wr dq) osq=wq at bq;have Hb1:=AA (Hb.out.trans (bq.mono Hb.out.size));clear bq cT D0 D1 D2 D3 E0 E1 E2 E3;go_wp2_with fail;go_roundw
   case rel=>exact⟨k+1,by omega,by go_num,Hb1.out⟩
   case measure=>simp[intOf];omega
  ·have hlti:¬(k:Int)<(xs.length:Int):=by omega
   go_wp2_with fail;go_ret;exact⟨rfl,hbel⟩
theorem Q8 (x:DR) (w:World):Calls prog 47 #[.agg #[.int .i64 x.w, .int .i64 x.a, .bool x.u], .agg #[.int .i64 x.w, .int .i64 x.a, .bool x.u]] w fun e w'=>e= .returned (.bool true)∧Below w.heap.size w w':=by
 have hb:(x.w !=x.w)=false:=by simp
 have hg:(x.a !=x.a)=false:=by simp
 have hr:(x.u !=x.u)=false:=by simp
 go_in;go_wp2_with fail;go_ret;exact⟨rfl,Rr w (.cells #[.int .i64 x.w, .int .i64 x.a, .bool x.u] 73) (.cells #[.int .i64 x.w, .int .i64 x.a, .bool x.u] 73)⟩
theorem Q7 (v1 v2:Value) (xs:List DR) (w:World) (h1:A6 3 CQ w v1 xs) (h2:A6 3 CQ w v2 xs):
 Calls prog 22 #[v1,v2] w fun e w'=>e= .returned (.bool true)∧Below w.heap.size w w':=by
 obtain⟨a1,c1,rfl,hc1,hcm1,H1⟩:=A6.open Gu (by decide) h1;obtain⟨a2,c2,rfl,hc2,hcm2,H2⟩:=A6.open Gu (by decide) h2;unfold maxLen at hcm1 hcm2;clear h1 h2;have H1:=AA H1;have H2:=AA H2;have hb:((xs.length:Int) !=xs.length)=false:=by simp
 go_in;go_wp2_with fail;go_loopw [5] (fun i wr=>∃k:Nat,k≤xs.length∧i= .int .i64 k∧Below w.heap.size w wr) (fun i _=>xs.length - (intOf i).toNat)
 case atStart=>exact⟨0,Nat.zero_le _,rfl,Below.refl _ _⟩
 case round=>
  obtain⟨k,hk,rfl,hbel⟩:=hrel
  by_cases hlt:k<xs.length
  ·have hlti:(k:Int)<(xs.length:Int):=by omega
   have Hb:=AA hbel;obtain⟨b1,o1,rfl,_,D0,D1,D2⟩:=(H1.out.below hbel).pageCells hlt;obtain⟨b2,o2,rfl,_,E0,E1,E2⟩:=(H2.out.below hbel).pageCells hlt;have D0:=cell_regrown D0;have D1:=cell_regrown D1;have D2:=cell_regrown D2;have E0:=cell_regrown E0;have E1:=cell_regrown E1;have E2:=cell_regrown E2;have cT:=Io (w1:=wr) (fun W _=>Q8 (AW xs k) W);clear hbel;go_wp2_with fail;refine wp_region_quiet_below mixed (by kernel_rfl) ?_
   repeat(go_big_quiet_step (exact cT _ _))
   refine wpQuiet_nil ?_;intro _ hw';obtain⟨⟨dq,osq⟩,hw''⟩:=hw';subst hw'';have bq:=below_regrown wr dq osq;generalize Sort.grow (redrawn wr dq) osq=wq at bq;have Hb1:=AA (Hb.out.trans (bq.mono Hb.out.size));clear bq cT D0 D1 D2 E0 E1 E2;go_wp2_with fail;go_roundw
   case rel=>exact⟨k+1,by omega,by go_num,Hb1.out⟩
   case measure=>simp[intOf];omega
  ·have hlti:¬(k:Int)<(xs.length:Int):=by omega
   go_wp2_with fail;go_ret;exact⟨rfl,hbel⟩
theorem Ss (v1 v2:Value) (ss:List ByteArray) (r:Int) (w:World) (h1:BG w v1 ss) (h2:BG w v2 ss):Calls prog 65 #[.agg #[v1, .int .i64 r], .agg #[v2, .int .i64 r]] w fun e w'=>e= .returned (.bool true)∧Below w.heap.size w w':=by
 have hr:(r !=r)=false:=by simp
 obtain⟨N0,N1,hb0,hs0⟩:=Mr w (.cells #[v1, .int .i64 r] 62) (.cells #[v2, .int .i64 r] 62);have H1:=AA (A6.below h1 hb0);have H2:=AA (A6.below h2 hb0);have HB0:=AA hb0;clear h1 h2;go_in;go_wp2_with fail;generalize(w.alloc _).alloc _=W0 at*;have HN:=AA (And.intro N0 N1);have x0:=cell_of_row _ _ 0 _ _ _ N0;have y0:=cell_of_row _ _ 0 _ _ _ N1;simp only[List.getElem?_toArray,List.getElem?_cons_zero] at x0 y0;clear N0 N1 hs0 hb0;go_wp2_with fail;refine(Om v1 v2 ss W0 H1.out H2.out).mono ?_;rintro e w_ ⟨rfl,n,rfl⟩;clear x0 y0;have x1:=cell_of_row _ _ 1 _ _ _ (AG HN.out.1 (Ao (Below.refl _ W0) n));have y1:=cell_of_row _ _ 1 _ _ _ (AG HN.out.2 (Ao (Below.refl _ W0) n));go_wp2_with fail;go_ret;exact⟨rfl,Ao HB0.out n⟩
theorem Sr (v1 v2:Value) (xs:List DQ) (w:World) (h1:Ew w v1 xs) (h2:Ew w v2 xs):
 Calls prog 45 #[v1,v2] w fun e w'=>e= .returned (.bool true)∧Below w.heap.size w w':=by
 obtain⟨a1,c1,rfl,hc1,hcm1,H1⟩:=h1.open;obtain⟨a2,c2,rfl,hc2,hcm2,H2⟩:=h2.open;unfold maxLen at hcm1 hcm2;clear h1 h2;have H1:=AA H1;have H2:=AA H2;have hb:((xs.length:Int) !=xs.length)=false:=by simp
 go_in;go_wp2_with fail;go_loopw [5] (fun i wr=>∃k:Nat,k≤xs.length∧i= .int .i64 k∧Below w.heap.size w wr) (fun i _=>xs.length - (intOf i).toNat)
 case atStart=>exact⟨0,Nat.zero_le _,rfl,Below.refl _ _⟩
 case round=>
  obtain⟨k,hk,rfl,hbel⟩:=hrel
  by_cases hlt:k<xs.length
  ·have hlti:(k:Int)<(xs.length:Int):=by omega
   have Hb:=AA hbel;obtain⟨b1,o1,ua1,uc1,rfl,hl1,D10,D11,R1⟩:=H1.out k hlt;obtain⟨b2,o2,ua2,uc2,rfl,hl2,D20,D21,R2⟩:=H2.out k hlt;replace D10:=cell_regrown ((hbel.cell (p:=⟨_,_,none⟩) hl1).trans D10);replace D11:=cell_regrown ((hbel.cell (p:=⟨_,_,none⟩) hl1).trans D11);replace D20:=cell_regrown ((hbel.cell (p:=⟨_,_,none⟩) hl2).trans D20);replace D21:=cell_regrown ((hbel.cell (p:=⟨_,_,none⟩) hl2).trans D21);have cT:=Io (w1:=wr) (fun W hW=>Ss _ _ (AD xs k).rights (AD xs k).root W (A6.below (A6.below R1 hbel) hW) (A6.below (A6.below R2 hbel) hW));clear R1 R2 hl1 hl2;clear hbel;go_wp2_with fail;refine wp_region_quiet_below mixed (by kernel_rfl) ?_
   repeat(go_big_quiet_step (exact cT _ _))
   refine wpQuiet_nil ?_;intro _ hw';obtain⟨⟨dq,osq⟩,hw''⟩:=hw';subst hw'';have bq:=below_regrown wr dq osq;generalize Sort.grow (redrawn wr dq) osq=wq at bq;have Hb1:=AA (Hb.out.trans (bq.mono Hb.out.size));clear bq cT D10 D11 D20 D21;go_wp2_with fail;go_roundw
   case rel=>exact⟨k+1,by omega,by go_num,Hb1.out⟩
   case measure=>simp[intOf];omega
  ·have hlti:¬(k:Int)<(xs.length:Int):=by omega
   go_wp2_with fail;go_ret;exact⟨rfl,hbel⟩
theorem Ol (m i e c m' i' e' c':Value) (k:AH) (w:World) (h1:L6 w m i e c k) (h2:L6 w m' i' e' c' k):
 Calls prog 19 #[.agg #[m,i,e,c], .agg #[m',i',e',c']] w fun r w'=>r= .returned (.bool true)∧Below w.heap.size w w':=by
 obtain⟨N0,N1,hb0,hs0⟩:=Mr w (.cells #[m,i,e,c] 27) (.cells #[m',i',e',c'] 27);have H1:=AA (h1.below hb0);have H2:=AA (h2.below hb0);clear h1 h2;go_in;go_wp2_with fail;generalize(w.alloc _).alloc _=W0 at*;have HN:=AA (And.intro N0 N1);have HB0:=AA hb0;obtain⟨x0,x1,x2,x3⟩:=AB N0;obtain⟨y0,y1,y2,y3⟩:=AB N1;clear N0 N1 hb0 hs0;have hb:Below W0.heap.size W0 W0:=Below.refl _ _;go_wp2_with fail;refine(Jy (MK m m' k.mem _ (H1.out.1.below hb) (H2.out.1.below hb))).mono ?_;rintro r w_ ⟨rfl,hb_⟩;replace hb:=hb.trans (hb_.mono hb.size);clear hb_ x0 x1 x2 x3 y0 y1 y2 y3;obtain⟨x0,x1,x2,x3⟩:=AB (AG HN.out.1 hb);obtain⟨y0,y1,y2,y3⟩:=AB (AG HN.out.2 hb);go_wp2_with fail;refine(Q5 i i' k.infos _ (A6.below H1.out.2.1 hb) (A6.below H2.out.2.1 hb)).mono ?_;rintro r w_ ⟨rfl,hb_⟩;replace hb:=hb.trans (hb_.mono hb.size);clear hb_ x0 x1 x2 x3 y0 y1 y2 y3;obtain⟨x0,x1,x2,x3⟩:=AB (AG HN.out.1 hb);obtain⟨y0,y1,y2,y3⟩:=AB (AG HN.out.2 hb);go_wp2_with fail;refine(Sr e e' k.envs _ (H1.out.2.2.1.below hb) (H2.out.2.2.1.below hb)).mono ?_;rintro r w_ ⟨rfl,hb_⟩;replace hb:=hb.trans (hb_.mono hb.size);clear hb_ x0 x1 x2 x3 y0 y1 y2 y3;obtain⟨x0,x1,x2,x3⟩:=AB (AG HN.out.1 hb);obtain⟨y0,y1,y2,y3⟩:=AB (AG HN.out.2 hb);go_wp2_with fail;refine(Oi c c' k.cache _ (A6.below H1.out.2.2.2 hb) (A6.below H2.out.2.2.2 hb)).mono ?_;rintro r w_ ⟨rfl,hb_⟩;replace hb:=hb.trans (hb_.mono hb.size);clear hb_ x0 x1 x2 x3 y0 y1 y2 y3;obtain⟨x0,x1,x2,x3⟩:=AB (AG HN.out.1 hb);obtain⟨y0,y1,y2,y3⟩:=AB (AG HN.out.2 hb);go_wp2_with fail;go_ret;exact⟨rfl,HB0.out.trans (hb.mono HB0.out.size)⟩
theorem LI (m i e c s l q m' i' e' c' s' l' q':Value) (P:BU) (w:World) (h1:Pg w m i e c s l q P) (h2:Pg w m' i' e' c' s' l' q' P):
 Calls prog 6 #[Cu m i e c s l q P.hand P.limit,Cu m' i' e' c' s' l' q' P.hand P.limit] w fun r w'=>r= .returned (.bool true)∧Below w.heap.size w w':=by
 unfold Cu;obtain⟨N0,N1,hb0,hs0⟩:=Mr w (.cells #[m,i,e,c,s,l,q, .int .i64 P.hand, .int .i64 P.limit] 31) (.cells #[m',i',e',c',s',l',q', .int .i64 P.hand, .int .i64 P.limit] 31);have H1:=AA (h1.below hb0);have H2:=AA (h2.below hb0);clear h1 h2;have g1:(P.hand !=P.hand)=false:=by simp
 have g2:(P.limit !=P.limit)=false:=by simp
 go_in;go_wp2_with fail;generalize(w.alloc _).alloc _=W0 at*;have HN:=AA (And.intro N0 N1);have HB0:=AA hb0;obtain⟨x0,x1,x2,x3,x4,x5,x6,x7,x8⟩:=Ad N0;obtain⟨y0,y1,y2,y3,y4,y5,y6,y7,y8⟩:=Ad N1;clear N0 N1 hb0 hs0;have hb:Below W0.heap.size W0 W0:=Below.refl _ _;go_wp2_with fail;refine(Ol m i e c m' i' e' c' P.kern _ (H1.out.1.below hb) (H2.out.1.below hb)).mono ?_;rintro r w_ ⟨rfl,hb_⟩;replace hb:=hb.trans (hb_.mono hb.size);clear hb_ x0 x1 x2 x3 x4 x5 x6 x7 x8 y0 y1 y2 y3 y4 y5 y6 y7 y8;obtain⟨x0,x1,x2,x3,x4,x5,x6,x7,x8⟩:=Ad (AG HN.out.1 hb);obtain⟨y0,y1,y2,y3,y4,y5,y6,y7,y8⟩:=Ad (AG HN.out.2 hb);go_wp2_with fail;refine(Jy (MK s s' P.swap _ (H1.out.2.1.below hb) (H2.out.2.1.below hb))).mono ?_;rintro r w_ ⟨rfl,hb_⟩;replace hb:=hb.trans (hb_.mono hb.size);clear hb_ x0 x1 x2 x3 x4 x5 x6 x7 x8 y0 y1 y2 y3 y4 y5 y6 y7 y8;obtain⟨x0,x1,x2,x3,x4,x5,x6,x7,x8⟩:=Ad (AG HN.out.1 hb);obtain⟨y0,y1,y2,y3,y4,y5,y6,y7,y8⟩:=Ad (AG HN.out.2 hb);go_wp2_with fail;refine(Jy (Nf l l' P.low _ (H1.out.2.2.1.below hb) (H2.out.2.2.1.below hb))).mono ?_;rintro r w_ ⟨rfl,hb_⟩;replace hb:=hb.trans (hb_.mono hb.size);clear hb_ x0 x1 x2 x3 x4 x5 x6 x7 x8 y0 y1 y2 y3 y4 y5 y6 y7 y8;obtain⟨x0,x1,x2,x3,x4,x5,x6,x7,x8⟩:=Ad (AG HN.out.1 hb);obtain⟨y0,y1,y2,y3,y4,y5,y6,y7,y8⟩:=Ad (AG HN.out.2 hb);go_wp2_with fail;refine(Q7 q q' P.pages _ (A6.below H1.out.2.2.2 hb) (A6.below H2.out.2.2.2 hb)).mono ?_;rintro r w_ ⟨rfl,hb_⟩;replace hb:=hb.trans (hb_.mono hb.size);clear hb_ x0 x1 x2 x3 x4 x5 x6 x7 x8 y0 y1 y2 y3 y4 y5 y6 y7 y8;obtain⟨x0,x1,x2,x3,x4,x5,x6,x7,x8⟩:=Ad (AG HN.out.1 hb);obtain⟨y0,y1,y2,y3,y4,y5,y6,y7,y8⟩:=Ad (AG HN.out.2 hb);go_wp2_with fail;go_ret;exact⟨rfl,HB0.out.trans (hb.mono HB0.out.size)⟩
theorem Qw {k:AH} {c:AM} (h:c.k=1):AO k c=IK k c:=by unfold AO;rw[if_pos h]
theorem QI {lo:Nat} {m iv ev cv:Value} {k:AH} {w:World} (h:Ct lo w m iv ev cv k) (hlo:lo≤w.heap.size) (hk:DV k) (call:AM) (he:0≤call.e∧call.e<3) (h2:call.k=1) (hnm:call.nm.size≤maxLen):
 Calls prog 70 #[.agg #[m,iv,ev,cv], .agg call.cs] w (Fd lo w (AO k call)):=by
 have S0':=SC.start h hlo call;have P0:AO k call=if Az call.nm=false then(k,0,3) else if Cc (AD k.envs call.e.toNat).rights call.nm=false then(k,0,1) else if Cs k.infos<0 then(k,0,4) else({k with infos:=k.infos.set (Cs k.infos).toNat ⟨1,call.nm,0⟩,mem:=k.mem.set (Cs k.infos).toNat [0,0,0,0]},Cs k.infos,0):=Qw h2
 have hok:=(AT hk).1;have hio:=(AT hk).2.1;obtain⟨gm,capm,rfl,_⟩:=DW.mems S0' hok;obtain⟨am,nm_,cm,ai,ni,ci,ae,ne_,ce,ac,nc,cc,em,rfl,rfl,rfl⟩:=S0'.shapes;clear em;have S0:=AA S0';obtain⟨kk,e,a,b,c,nm⟩:=call;simp only at he hnm;obtain⟨en,rfl⟩:∃n:Nat,e=(n:Int):=⟨e.toNat,by omega⟩
 simp only[AM.cs,Int.toNat_natCast] at S0 P0 ⊢;have HP:=AA P0;have HK:=AA hk;have CR:=AA (fun W=>Ab (DN nm W hnm));have CM:=AA (fun W (h:Ew W (.slice ae ne_ ce) k.envs)=>Fq (.slice (some ⟨gm,0,none⟩) 12 capm) (.slice ai ni ci) (.slice ae ne_ ce) (.slice ac nc cc) k en nm W h hk (by omega) hnm);have CF:=AA (fun W (h:BH W (.slice ai ni ci) k.infos)=>LL (.slice ai ni ci) k.infos W h);obtain⟨x0,x1,x2,x3⟩:=S0.out.xs;obtain⟨y0,y1,y2,y3,y4,y5⟩:=S0.out.ys6;have Hok:=AA hok;have Hio:=AA hio;generalize hrv:Az nm=rv at CR HP;generalize hmb:Cc (AD k.envs en).rights nm=mb at CM HP;have Hrv:=AA hrv;clear h h2 S0' he hk hok hio hnm P0 hrv hmb;generalize hW0:((w.alloc _).alloc _).alloc _=W0 at*;go_in;go_wp2_with fail;refine(CR.out _).mono ?_;rintro r w0 ⟨rfl,hb0⟩;have S0:=AA (S0.out.below hb0);clear x0 x1 x2 x3 y0 y1 y2 y3 y4 y5 hb0 hW0;cases rv
 ·have HP3:=AA (show AO k ⟨kk,(en:Int),a,b,c,nm⟩=(k,0,3) by rw[HP.out];rfl)
  clear HP CR CM CF;obtain⟨x0,x1,x2,x3⟩:=S0.out.xs;obtain⟨⟨z0,z1,z2,z3⟩,hfz⟩:=S0.out.zs;obtain⟨hB9,HR9⟩:=S0.out.bad (Nat.le_trans hlo (Nat.le_add_right _ _)) (Nat.le_add_right _ _) (v:=0) (code:=3) (HP3.out) (by decide);have HE:=AA (AB hB9);have HR:=AA HR9;clear hB9 HR9;go_wp2_with ((try simp only[Exit.inBlock,Exit.then]);with_reducible refine bodyPost_ret (v:= .tuple #[.agg #[_,_,_,_], .int .i64 (0), .int .i64 (3)]) ?_ rfl HR.out;obtain⟨E0,E1,E2,E3⟩:=HE.out;simp[results,Tryz.results70,go_sem,E0,E1,E2,E3])
 ·obtain⟨x0,x1,x2,x3⟩:=S0.out.xs
  obtain⟨y0,y1,y2,y3,y4,y5⟩:=S0.out.ys6;go_wp2_with fail;refine(CM.out _ S0.out.K.2.2.1).mono ?_;rintro r w1 ⟨rfl,hb1⟩;have S1:=AA (S0.out.below hb1);clear x0 x1 x2 x3 y0 y1 y2 y3 y4 y5 hb1;cases mb
  ·have HP3:=AA (show AO k ⟨kk,(en:Int),a,b,c,nm⟩=(k,0,1) by rw[HP.out];rfl)
   obtain⟨x0,x1,x2,x3⟩:=S1.out.xs;obtain⟨⟨z0,z1,z2,z3⟩,hfz⟩:=S1.out.zs;obtain⟨hB9,HR9⟩:=S1.out.bad (Nat.le_trans hlo (Nat.le_add_right _ _)) (Nat.le_add_right _ _) (v:=0) (code:=1) (HP3.out) (by decide);have HE:=AA (AB hB9);have HR:=AA HR9;clear hB9 HR9;go_wp2_with ((try simp only[Exit.inBlock,Exit.then]);with_reducible refine bodyPost_ret (v:= .tuple #[.agg #[_,_,_,_], .int .i64 (0), .int .i64 (1)]) ?_ rfl HR.out;obtain⟨E0,E1,E2,E3⟩:=HE.out;simp[results,Tryz.results70,go_sem,E0,E1,E2,E3])
  ·have HP2:=AA (show AO k ⟨kk,(en:Int),a,b,c,nm⟩=if Cs k.infos<0 then(k,0,4) else({k with infos:=k.infos.set (Cs k.infos).toNat ⟨1,nm,0⟩,mem:=k.mem.set (Cs k.infos).toNat [0,0,0,0]},Cs k.infos,0) by rw[HP.out];rfl)
   obtain⟨x0,x1,x2,x3⟩:=S1.out.xs;clear HP;go_wp2_with fail;refine(CF.out _ S1.out.K.2.1).mono ?_;rintro r w2 ⟨rfl,hb2⟩;have S2:=AA (S1.out.below hb2);clear x0 x1 x2 x3 hb2
   by_cases hf0:Cs k.infos<0
   ·have HP3:=AA (show AO k ⟨kk,(en:Int),a,b,c,nm⟩=(k,0,4) by rw[HP2.out,if_pos hf0])
    clear HP2;obtain⟨x0,x1,x2,x3⟩:=S2.out.xs;obtain⟨⟨z0,z1,z2,z3⟩,hfz⟩:=S2.out.zs;obtain⟨hB9,HR9⟩:=S2.out.bad (Nat.le_trans hlo (Nat.le_add_right _ _)) (Nat.le_add_right _ _) (v:=0) (code:=4) (HP3.out) (by decide);have HE:=AA (AB hB9);have HR:=AA HR9;clear hB9 HR9;go_wp2_with ((try simp only[Exit.inBlock,Exit.then]);with_reducible refine bodyPost_ret (v:= .tuple #[.agg #[_,_,_,_], .int .i64 (0), .int .i64 (4)]) ?_ rfl HR.out;obtain⟨E0,E1,E2,E3⟩:=HE.out;simp[results,Tryz.results70,go_sem,E0,E1,E2,E3])
   ·obtain⟨hf1,_,_⟩:=IU (infos:=k.infos) (by omega)
    obtain⟨f,hf⟩:∃f:Nat,Cs k.infos=(f:Int):=⟨(Cs k.infos).toNat,by omega⟩
    have hf12:f<12:=by have:=HK.out.len;omega
    have HP3:=AA (show AO k ⟨kk,(en:Int),a,b,c,nm⟩=({k with infos:=k.infos.set f ⟨1,nm,0⟩,mem:=k.mem.set f [0,0,0,0]},(f:Int),0) by rw[HP2.out,if_neg hf0,hf];rfl);have CT:=AA (fun W hi=>Mp (.slice ai ni ci) k.infos nm f W hi Hio.out Hrv.out hf hf12);obtain⟨x0,x1,x2,x3⟩:=S2.out.xs;obtain⟨y0,y1,y2,y3,y4,y5⟩:=S2.out.ys6;rw[hf];clear HP2 hf hf0 hf1;go_wp2_with fail;refine(CT.out _ S2.out.K.2.1).mono ?_;rintro r w3 ⟨v',rfl,hO,hb3⟩;clear x0 x1 x2 x3 y0 y1 y2 y3 y4 y5;have S3:=AA (S2.out.newInfos hb3 hO);have fzg:=AI (S2.out.below hb3).ink.1;have x1o:=(S2.out.below hb3).xs.2.1;obtain⟨a9,c9,e9,_,_⟩:=hO.rd.shape;generalize List.length _=n9 at e9;subst e9;clear hO hb3;generalize hW9:w3.setCell _ _=W9 at S3;obtain⟨x0,x1,x2,x3⟩:=S3.out.xs;have hlg:=S3.out.lts.2.1;have hfi:(f:Int)<12:=by omega
    have hml:=(Af.1 Hok.out).1;go_wp2_with fail;refine Am 4 49 [.p w.heap.size 0, .s gm 12 capm, .i ((f:Int)), .z] (fun ix vv ww=>match ix with
     |3=>AE W9.heap.size ww vv [0,0,0,0]
     |_=>True) ?_ ?_ ?_
    ·intro i hi o ho a wx Hb Hd hG K HK
     have mc0:=bc hG hlg x0
     match i,hi with
     |0,_|2,_=>exact sP ho HK Hb Hd
     |1,_=>exact sL ho HK Hb Hd (hl:=Ff (by assumption))
     |3,_=>clear mc0;obtain rfl:=So_ ho;clear Hd Hb;obtain⟨i0,hi0,hz0,hz1,hz2⟩:=info_parts Tryz.infoInt;obtain⟨w9,hrun,h3,h4⟩:=run_make_full (P:=prog) wx wx.heap.size 28 3 i0 _ 1 underlying28 hi0 hz0 hz1 .i64 .i64 4 (by rw[hz2];decide) (by decide) (Nat.le_refl _);have h5:=Below.of_grown h4;rw[KS (.int .i64 0) rfl 4] at h3;have hrun':(Instr.makeSlice 28 (.int .i64 4) (.int .i64 4)).run prog wx= .ok (.slice (some ⟨wx.heap.size,0,none⟩) 4 4) w9:=hrun;clear hi0 hz0 hz1 hz2 hrun;refine Aa.of rfl ?_;go_simp;exact HK.out _ _ (Bd h3 hG.size) h5
    ·intro i hi vv wz ww' hbz hz
     match i,hi with
     |3,_=>exact(AE.below hz hbz)
     |0,_|1,_|2,_=>exact hz
    ·intro vs wx hR hG
     have q1:(vs 1)= .slice (some ⟨gm,0,none⟩) 12 capm:=BT hR 1;have q2:(vs 2)= .int .i64 f:=BT hR 2;have q3:AE W9.heap.size wx (vs 3) [0,0,0,0]:=BT hR 3;clear hR;simp only[Ai,AQ,List.range,List.range.loop,List.foldl_cons,List.foldl_nil,q1,q2];simp;generalize vs 3=z3 at q3 ⊢;clear q1 q2;have S4:=AA (S3.out.newRow hml.symm hG q3 (by rw[hml];exact hf12));obtain⟨gm2,capm2,gw2,capw2,vs2,e2,_,_,D2,_⟩:=(S3.out.below hG).ink.memRow Hok.out hf12;cases e2;have Fr:=AI (A8 ((S3.out.below hG).ink.2.2.1.choose_spec.1) gm rfl).choose_spec;obtain⟨a9,c9,e9,_,_⟩:=q3.rd.open;rw[show([0,0,0,0]:List Int).length=4 from rfl] at e9;subst e9;generalize hW10:wx.setCell _ _=W10 at S4;clear x0 x1 x2 x3 q3 hG hlg;obtain⟨x0,x1,x2,x3⟩:=S4.out.xs;obtain⟨⟨z0,z1,z2,z3⟩,hfz⟩:=S4.out.zs;obtain⟨hB9,HR9⟩:=S4.out.ret (Nat.le_trans hlo (Nat.le_add_right _ _)) (Nat.le_add_right _ _) (v:=(f:Int)) (code:=0) (HP3.out);have HE:=AA (AB hB9);have HR:=AA HR9;clear hB9 HR9;go_wp2_with ((try simp only[Exit.inBlock,Exit.then]);with_reducible refine bodyPost_ret (v:= .tuple #[.agg #[_,_,_,_], .int .i64 f, .int .i64 (0)]) ?_ rfl HR.out;obtain⟨E0,E1,E2,E3⟩:=HE.out;simp[results,Tryz.results70,go_sem,E0,E1,E2,E3])
theorem TT {m:List (List Int)} {xs:List AL} {f:Nat} {kind:Int} {ss:List ByteArray}:(Et m xs f kind ss).2=0∨(Et m xs f kind ss).2=1∨(Et m xs f kind ss).2=2:=by
 unfold Et
 repeat' split
 all_goals simp
theorem Qf {m:List (List Int)} {xs:List AL} {f:Nat}:(Cq m xs f).2=0∨(Cq m xs f).2=1∨(Cq m xs f).2=2:=by
 unfold Cq
 repeat' split
 all_goals simp
theorem MU {lo:Nat} {mv iv ev cv:Value} {k:AH} {w:World} (h:Ct lo w mv iv ev cv k) (hlo:lo≤w.heap.size) (hk:DV k) (call:AM) (he:0≤call.e∧call.e<3) (h2:call.k=4∨call.k=5):
 Calls prog 73 #[.agg #[mv,iv,ev,cv], .agg call.cs] w (Fd lo w (AO k call)):=by
 have S0':=SC.start h hlo call;have P0:=Sm (k:=k) h2;obtain⟨gi,capi,e8,hgi,_⟩:=S0'.infos (by rw[hk.len];omega);rw[hk.len] at e8;obtain⟨am,nm_,cm,ai,ni,ci,ae,ne_,ce,ac,nc,cc,em,ei,ee,ec⟩:=S0'.shapes;subst e8;have Sh:=AA (And.intro em (And.intro ee ec));clear ei em ee ec;have S0:=AA S0';obtain⟨kk,e,a,b,c,nm⟩:=call;simp only at he h2;obtain⟨en,rfl⟩:∃n:Nat,e=(n:Int):=⟨e.toNat,by omega⟩
 have hen:en<3:=by omega
 simp only[AM.cs] at S0 P0 ⊢;have HP:=AA P0;have HK:=AA hk;have Hl:=AA hk.len;obtain⟨x0,x1,x2,x3⟩:=S0.out.xs;obtain⟨y0,y1,y2,y3,y4,y5⟩:=S0.out.ys6;have H2:=AA h2;clear h S0' he hk P0 h2;generalize hW0:((w.alloc _).alloc _).alloc _=W0 at*;cases ha:Bv a 0 11
 ·have HP3:=AA (show AO k ⟨kk,(en:Int),a,b,c,nm⟩=(k,0,3) by rw[HP.out,if_pos (.inl ha)])
  have Ha:=AA ha;obtain⟨rfl,rfl,rfl⟩:=Sh.out;clear ha HP;go_in;go_wp2_with fail;refine(Ab (CY _ _)).mono ?_;rintro r w1 ⟨rfl,hb1⟩;rw[Ha.out];have S1:=AA (S0.out.below hb1);clear x0 x1 x2 x3 y0 y1 y2 y3 y4 y5 hb1 hW0;obtain⟨x0,x1,x2,x3⟩:=S1.out.xs;obtain⟨⟨z0,z1,z2,z3⟩,hfz⟩:=S1.out.zs;obtain⟨hB9,HR9⟩:=S1.out.bad (Nat.le_trans hlo (Nat.le_add_right _ _)) (Nat.le_add_right _ _) (v:=0) (code:=3) (HP3.out) (by decide);have HE:=AA (AB hB9);have HR:=AA HR9;clear hB9 HR9;go_wp2_with ((try simp only[Exit.inBlock,Exit.then]);with_reducible refine bodyPost_ret (v:= .tuple #[.agg #[_,_,_,_], .int .i64 (0), .int .i64 (3)]) ?_ rfl HR.out;obtain⟨E0,E1,E2,E3⟩:=HE.out;simp[results,Tryz.results73,go_sem,E0,E1,E2,E3])
 ·have ab:=Ac.1 ha
  obtain⟨an,rfl⟩:∃n:Nat,a=(n:Int):=⟨a.toNat,by omega⟩
  have han:an<12:=by omega
  have hani:(an:Int)<12:=by omega
  have Ha:=AA ha;have HG:=AA (Be (AT HK.out).2.1 _ (List.mem_of_getElem? (Br (show an<k.infos.length by rw[Hl.out];exact han))));generalize hkd:(infoAt k.infos an).k=kd at*;have Hkd:=AA hkd;clear ha ab
  by_cases e0:kd=0
  ·have HP3:=AA (show AO k ⟨kk,(en:Int),(an:Int),b,c,nm⟩=(k,0,3) by rw[HP.out,if_pos (.inr (.inl (by rw[Int.toNat_natCast,hkd,e0])))])
   have t0:(kd==0)=true:=by simp[e0]
   obtain⟨rfl,rfl,rfl⟩:=Sh.out;clear e0 HP hkd;go_in;go_wp2_with fail;refine(Ab (CY _ _)).mono ?_;rintro r w1 ⟨rfl,hb1⟩;rw[Ha.out];have S1:=AA (S0.out.below hb1);obtain⟨D0,_,_⟩:=S1.out.infoAt (f:=an) (by rw[Hl.out];exact han);rw[Hkd.out] at D0;clear x0 x1 x2 x3 y0 y1 y2 y3 y4 y5 hb1 hW0;obtain⟨x0,x1,x2,x3⟩:=S1.out.xs;obtain⟨y0,y1,y2,y3,y4,y5⟩:=S1.out.ys6;obtain⟨x0,x1,x2,x3⟩:=S1.out.xs;obtain⟨⟨z0,z1,z2,z3⟩,hfz⟩:=S1.out.zs;obtain⟨hB9,HR9⟩:=S1.out.bad (Nat.le_trans hlo (Nat.le_add_right _ _)) (Nat.le_add_right _ _) (v:=0) (code:=3) (HP3.out) (by decide);have HE:=AA (AB hB9);have HR:=AA HR9;clear hB9 HR9;go_wp2_with ((try simp only[Exit.inBlock,Exit.then]);with_reducible refine bodyPost_ret (v:= .tuple #[.agg #[_,_,_,_], .int .i64 (0), .int .i64 (3)]) ?_ rfl HR.out;obtain⟨E0,E1,E2,E3⟩:=HE.out;simp[results,Tryz.results73,go_sem,E0,E1,E2,E3])
  ·have t0:(kd==0)=false:=by simp[e0]
   by_cases e4:kk=4
   ·cases hb:Bg b
    ·have HP3:=AA (show AO k ⟨kk,(en:Int),(an:Int),b,c,nm⟩=(k,0,3) by rw[HP.out,if_pos (.inr (.inr ⟨e4,hb⟩))])
     have Hb:=AA hb;obtain⟨rfl,rfl,rfl⟩:=Sh.out;subst e4;clear e0 HP hkd hb;go_in;go_wp2_with fail;refine(Ab (CY _ _)).mono ?_;rintro r w1 ⟨rfl,hb1⟩;rw[Ha.out];have S1:=AA (S0.out.below hb1);obtain⟨D0,_,_⟩:=S1.out.infoAt (f:=an) (by rw[Hl.out];exact han);rw[Hkd.out] at D0;clear x0 x1 x2 x3 y0 y1 y2 y3 y4 y5 hb1 hW0;obtain⟨x0,x1,x2,x3⟩:=S1.out.xs;obtain⟨y0,y1,y2,y3,y4,y5⟩:=S1.out.ys6;go_wp2_with fail;refine(Ab (FT _ _)).mono ?_;rintro r w2 ⟨rfl,hb2⟩;rw[Hb.out];have S2:=AA (S1.out.below hb2);clear hb2;clear x0 x1 x2 x3 y0 y1 y2 y3 y4 y5 D0;obtain⟨x0,x1,x2,x3⟩:=S2.out.xs;obtain⟨⟨z0,z1,z2,z3⟩,hfz⟩:=S2.out.zs;obtain⟨hB9,HR9⟩:=S2.out.bad (Nat.le_trans hlo (Nat.le_add_right _ _)) (Nat.le_add_right _ _) (v:=0) (code:=3) (HP3.out) (by decide);have HE:=AA (AB hB9);have HR:=AA HR9;clear hB9 HR9;go_wp2_with ((try simp only[Exit.inBlock,Exit.then]);with_reducible refine bodyPost_ret (v:= .tuple #[.agg #[_,_,_,_], .int .i64 (0), .int .i64 (3)]) ?_ rfl HR.out;obtain⟨E0,E1,E2,E3⟩:=HE.out;simp[results,Tryz.results73,go_sem,E0,E1,E2,E3])
    ·have HP2:=AA (show AO k ⟨kk,(en:Int),(an:Int),b,c,nm⟩=if Cc (AD k.envs en).rights (infoAt k.infos an).g=false then(k,0,1) else DG k (Et k.mem k.infos an b (AD k.envs en).rights) by rw[HP.out,if_neg (by rintro(x|x|⟨_,x⟩);(· rw[Ha.out] at x;cases x);(· rw[Int.toNat_natCast,hkd] at x;exact e0 x);(· rw[hb] at x;cases x)),if_pos e4];rfl)
     have Hb:=AA hb;have hkt:kk=4→Bg b=true:=fun _=>hb
     have CP:=AA (fun W (h:L6 W mv (.slice (some ⟨gi,0,none⟩) 12 capi) ev cv k)=>by have:=Jm mv (.slice (some ⟨gi,0,none⟩) 12 capi) ev cv k kk b c en an nm W h HK.out hen han hkt;rw[if_pos e4] at this;exact this);have HC:=AA (TT (m:=k.mem) (xs:=k.infos) (f:=an) (kind:=b) (ss:=(AD k.envs en).rights));generalize Et k.mem k.infos an b (AD k.envs en).rights=res at CP HP2 HC;obtain⟨rfl,rfl,rfl⟩:=Sh.out;subst e4;clear e0 HP hkd hb hkt;go_in;go_wp2_with fail;refine(Ab (CY _ _)).mono ?_;rintro r w1 ⟨rfl,hb1⟩;rw[Ha.out];have S1:=AA (S0.out.below hb1);obtain⟨D0,_,_⟩:=S1.out.infoAt (f:=an) (by rw[Hl.out];exact han);rw[Hkd.out] at D0;clear x0 x1 x2 x3 y0 y1 y2 y3 y4 y5 hb1 hW0;obtain⟨x0,x1,x2,x3⟩:=S1.out.xs;obtain⟨y0,y1,y2,y3,y4,y5⟩:=S1.out.ys6;go_wp2_with fail;refine(Ab (FT _ _)).mono ?_;rintro r w2 ⟨rfl,hb2⟩;rw[Hb.out];have S2:=AA (S1.out.below hb2);clear hb2;clear x0 x1 x2 x3 y0 y1 y2 y3 y4 y5 D0;obtain⟨x0,x1,x2,x3⟩:=S2.out.xs;obtain⟨y0,y1,y2,y3,y4,y5⟩:=S2.out.ys6;obtain⟨_,D1,_⟩:=S2.out.infoAt (f:=an) (by rw[Hl.out];exact han);obtain⟨hlb,hlg,_,_⟩:=S2.out.lts;have hgi2:=S2.out.gi_lt;have CM:=AA (fun W (h:Ew W (.slice ae ne_ ce) k.envs)=>Fq (.slice am nm_ cm) (.slice (some ⟨gi,0,none⟩) 12 capi) (.slice ae ne_ ce) (.slice ac nc cc) k en (infoAt k.infos an).g W h HK.out hen HG.out);generalize(infoAt k.infos an).g=gd at D1 CM HP2;generalize hmb:Cc (AD k.envs en).rights gd=mb at CM HP2;clear hmb;go_wp2_with fail;refine Al 10 64 [.a #[.slice am nm_ cm, .slice (some ⟨gi,0,none⟩) 12 capi, .slice ae ne_ ce, .slice ac nc cc], .p (w.heap.size+1) 1, .i ((en:Int)), .p w.heap.size 1, .s gi 12 capi, .p (w.heap.size+1) 2, .i ((an:Int)), .p gi (an*3), .p gi (an*3+1), .t gd] (fun _ _ _=>True) ?_ ?_
     ·intro i hi o ho a wx Hb Hd hG K HK
      have mc0:=bc hG hlg x0;have mc1:=bc hG hlg x1;have mc2:=bc hG hlg x2;have mc3:=bc hG hlg x3;have mc4:=bc hG hlb y1;have mc5:=bc hG hlb y2;have mc6:=bc hG hgi2 D1
      match i,hi with
      |0,_=>exact sL ho HK Hb Hd (hl:=MY (by assumption) (by assumption) (by assumption) (by assumption))
      |1,_|3,_|5,_|8,_=>exact sP ho HK Hb Hd
      |2,_|6,_=>exact sL ho HK Hb Hd (hl:=Fg (by assumption))
      |4,_=>exact sL ho HK Hb Hd (hl:=GX (by assumption))
      |7,_=>exact sI ho HK Hb Hd (hr:=by clear Hd Hb HK;go_simp)
      |9,_=>exact sL ho HK Hb Hd (hl:=UL (by assumption))
     ·intro vs wx hR hG
      have q0:(vs 0)= .agg #[.slice am nm_ cm, .slice (some ⟨gi,0,none⟩) 12 capi, .slice ae ne_ ce, .slice ac nc cc]:=BT hR 0;have q2:(vs 2)= .int .i64 en:=BT hR 2;have q9:(vs 9)= .string gd:=BT hR 9;clear hR;simp only[Ai,AQ,List.range,List.range.loop,List.foldl_cons,List.foldl_nil,q0,q2,q9];simp;clear q0 q2 q9;have S3:=AA (S2.out.below hG);clear x0 x1 x2 x3 y0 y1 y2 y3 y4 y5 D1 hG;go_wp2_with fail;refine(CM.out _ S3.out.K.2.2.1).mono ?_;rintro r w4 ⟨rfl,hb4⟩;have S4:=AA (S3.out.below hb4);clear hb4;cases mb
      ·have HP3:=AA (show AO k ⟨4,(en:Int),(an:Int),b,c,nm⟩=(k,0,1) by rw[HP2.out];rfl)
       obtain⟨x0,x1,x2,x3⟩:=S4.out.xs;obtain⟨⟨z0,z1,z2,z3⟩,hfz⟩:=S4.out.zs;obtain⟨hB9,HR9⟩:=S4.out.bad (Nat.le_trans hlo (Nat.le_add_right _ _)) (Nat.le_add_right _ _) (v:=0) (code:=1) (HP3.out) (by decide);have HE:=AA (AB hB9);have HR:=AA HR9;clear hB9 HR9;go_wp2_with ((try simp only[Exit.inBlock,Exit.then]);with_reducible refine bodyPost_ret (v:= .tuple #[.agg #[_,_,_,_], .int .i64 (0), .int .i64 (1)]) ?_ rfl HR.out;obtain⟨E0,E1,E2,E3⟩:=HE.out;simp[results,Tryz.results73,go_sem,E0,E1,E2,E3])
      ·obtain⟨x0,x1,x2,x3⟩:=S4.out.xs
       obtain⟨y0,y1,y2,y3,y4,y5⟩:=S4.out.ys6;obtain⟨ri,rc⟩:=res;have HP3:=AA (show AO k ⟨4,(en:Int),(an:Int),b,c,nm⟩=DG k (ri,rc) by rw[HP2.out];rfl);go_wp2_with fail;refine(CP.out _ S4.out.K).mono ?_;rintro r w5 ⟨v',rfl,hO,hb5⟩;simp only at hO ⊢;clear x0 x1 x2 x3 y0 y1 y2 y3 y4 y5 HP2
       rcases HC.out with e|e|e<;>subst e
       ·have S5:=AA (S4.out.newInfos hb5 hO)
        have fzg:=AI (S4.out.below hb5).ink.1;have x1o:=(S4.out.below hb5).xs.2.1;obtain⟨a9,c9,e9,_,_⟩:=hO.rd.shape;generalize List.length _=n9 at e9;subst e9;clear hO hb5;generalize hW9:w5.setCell _ _=W9 at S5;obtain⟨x0,x1,x2,x3⟩:=S5.out.xs;obtain⟨⟨z0,z1,z2,z3⟩,hfz⟩:=S5.out.zs;obtain⟨hB9,HR9⟩:=S5.out.ret (Nat.le_trans hlo (Nat.le_add_right _ _)) (Nat.le_add_right _ _) (v:=0) (code:=0) (HP3.out);have HE:=AA (AB hB9);have HR:=AA HR9;clear hB9 HR9;go_wp2_with ((try simp only[Exit.inBlock,Exit.then]);with_reducible refine bodyPost_ret (v:= .tuple #[.agg #[_,_,_,_], .int .i64 (0), .int .i64 (0)]) ?_ rfl HR.out;obtain⟨E0,E1,E2,E3⟩:=HE.out;simp[results,Tryz.results73,go_sem,E0,E1,E2,E3])
       ·have S5:=AA (S4.out.below hb5)
        obtain⟨a9,c9,e9,_,_⟩:=hO.rd.shape;generalize List.length _=n9 at e9;subst e9;clear hO hb5;obtain⟨x0,x1,x2,x3⟩:=S5.out.xs;obtain⟨⟨z0,z1,z2,z3⟩,hfz⟩:=S5.out.zs;obtain⟨hB9,HR9⟩:=S5.out.bad (Nat.le_trans hlo (Nat.le_add_right _ _)) (Nat.le_add_right _ _) (v:=0) (code:=2) (HP3.out) (by decide);have HE:=AA (AB hB9);have HR:=AA HR9;clear hB9 HR9;go_wp2_with ((try simp only[Exit.inBlock,Exit.then]);with_reducible refine bodyPost_ret (v:= .tuple #[.agg #[_,_,_,_], .int .i64 (0), .int .i64 (2)]) ?_ rfl HR.out;obtain⟨E0,E1,E2,E3⟩:=HE.out;simp[results,Tryz.results73,go_sem,E0,E1,E2,E3])
       ·have S5:=AA (S4.out.below hb5)
        obtain⟨a9,c9,e9,_,_⟩:=hO.rd.shape;generalize List.length _=n9 at e9;subst e9;clear hO hb5;obtain⟨x0,x1,x2,x3⟩:=S5.out.xs;obtain⟨⟨z0,z1,z2,z3⟩,hfz⟩:=S5.out.zs;obtain⟨hB9,HR9⟩:=S5.out.bad (Nat.le_trans hlo (Nat.le_add_right _ _)) (Nat.le_add_right _ _) (v:=0) (code:=3) (HP3.out) (by decide);have HE:=AA (AB hB9);have HR:=AA HR9;clear hB9 HR9;go_wp2_with ((try simp only[Exit.inBlock,Exit.then]);with_reducible refine bodyPost_ret (v:= .tuple #[.agg #[_,_,_,_], .int .i64 (0), .int .i64 (3)]) ?_ rfl HR.out;obtain⟨E0,E1,E2,E3⟩:=HE.out;simp[results,Tryz.results73,go_sem,E0,E1,E2,E3])
   ·have e5:kk=5:=by rcases H2.out with x|x;(· exact absurd x e4);exact x
    have HP2:=AA (show AO k ⟨kk,(en:Int),(an:Int),b,c,nm⟩=if Cc (AD k.envs en).rights (infoAt k.infos an).g=false then(k,0,1) else DG k (Cq k.mem k.infos an) by rw[HP.out,if_neg (by rintro(x|x|⟨x,_⟩);(· rw[Ha.out] at x;cases x);(· rw[Int.toNat_natCast,hkd] at x;exact e0 x);exact e4 x),if_neg e4];rfl);have hkt:kk=4→Bg b=true:=fun x=>absurd x e4
    have CP:=AA (fun W (h:L6 W mv (.slice (some ⟨gi,0,none⟩) 12 capi) ev cv k)=>by have:=Jm mv (.slice (some ⟨gi,0,none⟩) 12 capi) ev cv k kk b c en an nm W h HK.out hen han hkt;rw[if_neg e4] at this;exact this);have HC:=AA (Qf (m:=k.mem) (xs:=k.infos) (f:=an));generalize Cq k.mem k.infos an=res at CP HP2 HC;obtain⟨rfl,rfl,rfl⟩:=Sh.out;subst e5;clear e0 HP hkd hkt e4;go_in;go_wp2_with fail;refine(Ab (CY _ _)).mono ?_;rintro r w1 ⟨rfl,hb1⟩;rw[Ha.out];have S1:=AA (S0.out.below hb1);obtain⟨D0,_,_⟩:=S1.out.infoAt (f:=an) (by rw[Hl.out];exact han);rw[Hkd.out] at D0;clear x0 x1 x2 x3 y0 y1 y2 y3 y4 y5 hb1 hW0;obtain⟨x0,x1,x2,x3⟩:=S1.out.xs;obtain⟨y0,y1,y2,y3,y4,y5⟩:=S1.out.ys6;go_wp2_with fail;have S2:=S1;generalize w1=w2 at*;clear x0 x1 x2 x3 y0 y1 y2 y3 y4 y5 D0;obtain⟨x0,x1,x2,x3⟩:=S2.out.xs;obtain⟨y0,y1,y2,y3,y4,y5⟩:=S2.out.ys6;obtain⟨_,D1,_⟩:=S2.out.infoAt (f:=an) (by rw[Hl.out];exact han);obtain⟨hlb,hlg,_,_⟩:=S2.out.lts;have hgi2:=S2.out.gi_lt;have CM:=AA (fun W (h:Ew W (.slice ae ne_ ce) k.envs)=>Fq (.slice am nm_ cm) (.slice (some ⟨gi,0,none⟩) 12 capi) (.slice ae ne_ ce) (.slice ac nc cc) k en (infoAt k.infos an).g W h HK.out hen HG.out);generalize(infoAt k.infos an).g=gd at D1 CM HP2;generalize hmb:Cc (AD k.envs en).rights gd=mb at CM HP2;clear hmb;go_wp2_with fail;refine Al 10 64 [.a #[.slice am nm_ cm, .slice (some ⟨gi,0,none⟩) 12 capi, .slice ae ne_ ce, .slice ac nc cc], .p (w.heap.size+1) 1, .i ((en:Int)), .p w.heap.size 1, .s gi 12 capi, .p (w.heap.size+1) 2, .i ((an:Int)), .p gi (an*3), .p gi (an*3+1), .t gd] (fun _ _ _=>True) ?_ ?_
    ·intro i hi o ho a wx Hb Hd hG K HK
     have mc0:=bc hG hlg x0;have mc1:=bc hG hlg x1;have mc2:=bc hG hlg x2;have mc3:=bc hG hlg x3;have mc4:=bc hG hlb y1;have mc5:=bc hG hlb y2;have mc6:=bc hG hgi2 D1
     match i,hi with
     |0,_=>exact sL ho HK Hb Hd (hl:=MY (by assumption) (by assumption) (by assumption) (by assumption))
     |1,_|3,_|5,_|8,_=>exact sP ho HK Hb Hd
     |2,_|6,_=>exact sL ho HK Hb Hd (hl:=Fg (by assumption))
     |4,_=>exact sL ho HK Hb Hd (hl:=GX (by assumption))
     |7,_=>exact sI ho HK Hb Hd (hr:=by clear Hd Hb HK;go_simp)
     |9,_=>exact sL ho HK Hb Hd (hl:=UL (by assumption))
    ·intro vs wx hR hG
     have q0:(vs 0)= .agg #[.slice am nm_ cm, .slice (some ⟨gi,0,none⟩) 12 capi, .slice ae ne_ ce, .slice ac nc cc]:=BT hR 0;have q2:(vs 2)= .int .i64 en:=BT hR 2;have q9:(vs 9)= .string gd:=BT hR 9;clear hR;simp only[Ai,AQ,List.range,List.range.loop,List.foldl_cons,List.foldl_nil,q0,q2,q9];simp;clear q0 q2 q9;have S3:=AA (S2.out.below hG);clear x0 x1 x2 x3 y0 y1 y2 y3 y4 y5 D1 hG;go_wp2_with fail;refine(CM.out _ S3.out.K.2.2.1).mono ?_;rintro r w4 ⟨rfl,hb4⟩;have S4:=AA (S3.out.below hb4);clear hb4;cases mb
     ·have HP3:=AA (show AO k ⟨5,(en:Int),(an:Int),b,c,nm⟩=(k,0,1) by rw[HP2.out];rfl)
      obtain⟨x0,x1,x2,x3⟩:=S4.out.xs;obtain⟨⟨z0,z1,z2,z3⟩,hfz⟩:=S4.out.zs;obtain⟨hB9,HR9⟩:=S4.out.bad (Nat.le_trans hlo (Nat.le_add_right _ _)) (Nat.le_add_right _ _) (v:=0) (code:=1) (HP3.out) (by decide);have HE:=AA (AB hB9);have HR:=AA HR9;clear hB9 HR9;go_wp2_with ((try simp only[Exit.inBlock,Exit.then]);with_reducible refine bodyPost_ret (v:= .tuple #[.agg #[_,_,_,_], .int .i64 (0), .int .i64 (1)]) ?_ rfl HR.out;obtain⟨E0,E1,E2,E3⟩:=HE.out;simp[results,Tryz.results73,go_sem,E0,E1,E2,E3])
     ·obtain⟨x0,x1,x2,x3⟩:=S4.out.xs
      obtain⟨y0,y1,y2,y3,y4,y5⟩:=S4.out.ys6;obtain⟨ri,rc⟩:=res;have HP3:=AA (show AO k ⟨5,(en:Int),(an:Int),b,c,nm⟩=DG k (ri,rc) by rw[HP2.out];rfl);go_wp2_with fail;refine(CP.out _ S4.out.K).mono ?_;rintro r w5 ⟨v',rfl,hO,hb5⟩;simp only at hO ⊢;clear x0 x1 x2 x3 y0 y1 y2 y3 y4 y5 HP2
      rcases HC.out with e|e|e<;>subst e
      ·have S5:=AA (S4.out.newInfos hb5 hO)
       have fzg:=AI (S4.out.below hb5).ink.1;have x1o:=(S4.out.below hb5).xs.2.1;obtain⟨a9,c9,e9,_,_⟩:=hO.rd.shape;generalize List.length _=n9 at e9;subst e9;clear hO hb5;generalize hW9:w5.setCell _ _=W9 at S5;obtain⟨x0,x1,x2,x3⟩:=S5.out.xs;obtain⟨⟨z0,z1,z2,z3⟩,hfz⟩:=S5.out.zs;obtain⟨hB9,HR9⟩:=S5.out.ret (Nat.le_trans hlo (Nat.le_add_right _ _)) (Nat.le_add_right _ _) (v:=0) (code:=0) (HP3.out);have HE:=AA (AB hB9);have HR:=AA HR9;clear hB9 HR9;go_wp2_with ((try simp only[Exit.inBlock,Exit.then]);with_reducible refine bodyPost_ret (v:= .tuple #[.agg #[_,_,_,_], .int .i64 (0), .int .i64 (0)]) ?_ rfl HR.out;obtain⟨E0,E1,E2,E3⟩:=HE.out;simp[results,Tryz.results73,go_sem,E0,E1,E2,E3])
      ·have S5:=AA (S4.out.below hb5)
       obtain⟨a9,c9,e9,_,_⟩:=hO.rd.shape;generalize List.length _=n9 at e9;subst e9;clear hO hb5;obtain⟨x0,x1,x2,x3⟩:=S5.out.xs;obtain⟨⟨z0,z1,z2,z3⟩,hfz⟩:=S5.out.zs;obtain⟨hB9,HR9⟩:=S5.out.bad (Nat.le_trans hlo (Nat.le_add_right _ _)) (Nat.le_add_right _ _) (v:=0) (code:=2) (HP3.out) (by decide);have HE:=AA (AB hB9);have HR:=AA HR9;clear hB9 HR9;go_wp2_with ((try simp only[Exit.inBlock,Exit.then]);with_reducible refine bodyPost_ret (v:= .tuple #[.agg #[_,_,_,_], .int .i64 (0), .int .i64 (2)]) ?_ rfl HR.out;obtain⟨E0,E1,E2,E3⟩:=HE.out;simp[results,Tryz.results73,go_sem,E0,E1,E2,E3])
      ·have S5:=AA (S4.out.below hb5)
       obtain⟨a9,c9,e9,_,_⟩:=hO.rd.shape;generalize List.length _=n9 at e9;subst e9;clear hO hb5;obtain⟨x0,x1,x2,x3⟩:=S5.out.xs;obtain⟨⟨z0,z1,z2,z3⟩,hfz⟩:=S5.out.zs;obtain⟨hB9,HR9⟩:=S5.out.bad (Nat.le_trans hlo (Nat.le_add_right _ _)) (Nat.le_add_right _ _) (v:=0) (code:=3) (HP3.out) (by decide);have HE:=AA (AB hB9);have HR:=AA HR9;clear hB9 HR9;go_wp2_with ((try simp only[Exit.inBlock,Exit.then]);with_reducible refine bodyPost_ret (v:= .tuple #[.agg #[_,_,_,_], .int .i64 (0), .int .i64 (3)]) ?_ rfl HR.out;obtain⟨E0,E1,E2,E3⟩:=HE.out;simp[results,Tryz.results73,go_sem,E0,E1,E2,E3])
theorem QH {lo:Nat} {mv iv ev cv:Value} {k:AH} {w:World} (h:Ct lo w mv iv ev cv k) (hlo:lo≤w.heap.size) (hk:DV k) (call:AM) (he:0≤call.e∧call.e<3) (h2:call.k=7):
 Calls prog 75 #[.agg #[mv,iv,ev,cv], .agg call.cs] w (Fd lo w (AO k call)):=by
 have S0':=SC.start h hlo call;have P0:=(Qv (k:=k) h2).trans Qa;obtain⟨ge,cape,e9,_,_⟩:=S0'.envs (by rw[hk.envl];omega);rw[hk.envl] at e9;obtain⟨gi,capi,e8,_,_⟩:=S0'.infos (by rw[hk.len];omega);rw[hk.len] at e8;obtain⟨am,nm_,cm,ai,ni,ci,ae,ne_,ce,ac,nc,cc,em,ei,ee,ec⟩:=S0'.shapes;subst e8 e9 em ec;clear ei ee;have S0:=AA S0';obtain⟨kk,e,ra,b,c,nm⟩:=call;simp only at he h2;subst h2;obtain⟨en,rfl⟩:∃n:Nat,e=(n:Int):=⟨e.toNat,by omega⟩
 have hen:en<3:=by omega
 have heni:(en:Int)<3:=by omega
 simp only[AM.cs,Int.toNat_natCast] at S0 P0 ⊢;have HP:=AA P0;have HK:=AA hk;obtain⟨x0,x1,x2,x3⟩:=S0.out.xs;obtain⟨y0,y1,y2,y3,y4,y5⟩:=S0.out.ys6;clear h S0' he hk P0;generalize hW0:((w.alloc _).alloc _).alloc _=W0 at*
 by_cases e1:ra= -1
 ·have t1:(ra != -1)=false:=by simp[e1]
  have HP2:=AA (show AO k ⟨7,(en:Int),ra,b,c,nm⟩=if At k.infos (A5 k.mem ra) (AD k.envs en).rights=false then(k,0,1) else({k with infos:=Bk (BM k.infos (AD k.envs en).root) ra,envs:=AR k.envs en (Bl ra),cache:=Cg k.cache (en:Int)},0,0) by rw[HP.out,if_neg (by rw[e1];simp)]);have Ha:Hid (ra<12):=AA (by omega);have Hn:Hid (ra<0):=AA (by omega);clear e1 HP;subst hW0;go_in;go_wp2_with fail;generalize hW2:((w.alloc _).alloc _).alloc _=W0 at*;have S2:=S0;clear x0 x1 x2 x3 y0 y1 y2 y3 y4 y5 hW2;obtain⟨x0,x1,x2,x3⟩:=S2.out.xs;obtain⟨y0,y1,y2,y3,y4,y5⟩:=S2.out.ys6;obtain⟨hlb,hlg,_,_⟩:=S2.out.lts;have hge:=S2.out.ge_lt;obtain⟨ua,uc,D0,D1,R⟩:=S2.out.env (j:=en) (by rw[HK.out.envl];exact hen);have RM:=S2.out.K.1;have RI:=S2.out.K.2.1;have CX:=AA (fun W (hW:Below W0.heap.size W0 W)=>IW _ k.mem (ra) W (RM.below hW) (AT HK.out).1 Ha.out);have CA:=AA (fun W (hW:Below W0.heap.size W0 W) v2 (h2:Ap W v2 (Ah (EP k.mem (ra))))=>by have:=FU _ v2 _ k.infos (EP k.mem (ra)) (AD k.envs en).rights W (A6.below RI hW) h2 (A6.below R hW) (fun f hf=>by have:=reach_lt Ha.out f ((Fu Ha.out f).1 hf);have:=HK.out.len;omega) (Be (AT HK.out).2.1) (FG HK.out hen);rw[ED (Fu Ha.out)] at this;exact this);generalize hbb:At k.infos (A5 k.mem (ra)) (AD k.envs en).rights=bb at CA HP2;clear hbb RM RI R;go_wp2_with fail;refine Am 14 98 [.p w.heap.size 1, .s gi 12 capi, .p w.heap.size 0, .v (.slice am nm_ cm), .p (w.heap.size+1) 2, .i ra, .z, .p w.heap.size 2, .s ge 3 cape, .p (w.heap.size+1) 1, .i ((en:Int)), .p ge (en*2), .p ge (en*2), .v (.slice ua (AD k.envs en).rights.length uc)] (fun ix vv ww=>match ix with
   |6=>AE W0.heap.size ww vv (Ah (EP k.mem (ra)))
   |_=>True) ?_ ?_ ?_
  ·intro i hi o ho a wx Hb Hd hG K HK
   have mc0:=bc hG hlg x1;have mc1:=bc hG hlg x0;have mc2:=bc hG hlb y2;have mc3:=bc hG hlg x2;have mc4:=bc hG hlb y1;have mc5:=bc hG hge D0
   match i,hi with
   |0,_|2,_|4,_|7,_|9,_|12,_=>exact sP ho HK Hb Hd
   |1,_=>exact sL ho HK Hb Hd (hl:=GX (by assumption))
   |3,_=>exact sL ho HK Hb Hd (hl:=Ff (by assumption))
   |5,_|10,_=>exact sL ho HK Hb Hd (hl:=Fg (by assumption))
   |6,_=>exact sC ho HK Hb Hd (CX.out _ hG) (by rintro e w_ ⟨v',rfl,hO,hb2⟩;exact⟨_,rfl,(Bd hO hG.size),hb2⟩)
   |8,_=>exact sL ho HK Hb Hd (hl:=MX (by assumption))
   |11,_=>exact sI ho HK Hb Hd (hr:=by clear Hd Hb HK;go_simp)
   |13,_=>exact sL ho HK Hb Hd (hl:=K7 (by assumption))
  ·intro i hi vv wz ww' hbz hz
   match i,hi with
   |6,_=>exact(AE.below hz hbz)
   |0,_|1,_|2,_|3,_|4,_|5,_|7,_|8,_|9,_|10,_|11,_|12,_|13,_=>exact hz
  ·intro vs wx hR hG
   have q1:(vs 1)= .slice (some ⟨gi,0,none⟩) 12 capi:=BT hR 1;have q6:AE W0.heap.size wx (vs 6) (Ah (EP k.mem (ra))):=BT hR 6;have q13:(vs 13)= .slice ua (AD k.envs en).rights.length uc:=BT hR 13;clear hR;simp only[Ai,AQ,List.range,List.range.loop,List.foldl_cons,List.foldl_nil,q1,q13];simp;generalize vs 6=z6 at q6 ⊢;clear q1 q13;have S3:=AA (S2.out.below hG);obtain⟨a8,c8,e8,_⟩:=q6.rd.open;have HQ:=AA q6.rd;generalize List.length _=n8 at e8;subst e8;have HbG:=AA hG;clear x0 x1 x2 x3 y0 y1 y2 y3 y4 y5 D0 D1 hG q6;go_wp2_with fail;refine(CA.out _ HbG.out _ HQ.out).mono ?_;rintro r w4 ⟨rfl,hb4⟩;have S4:=AA (S3.out.below hb4);clear hb4 HbG HQ CA;cases bb
   ·have HP3:=AA (show AO k ⟨7,(en:Int),ra,b,c,nm⟩=(k,0,1) by rw[HP2.out];rfl)
    obtain⟨x0,x1,x2,x3⟩:=S4.out.xs;obtain⟨⟨z0,z1,z2,z3⟩,hfz⟩:=S4.out.zs;obtain⟨hB9,HR9⟩:=S4.out.bad (Nat.le_trans hlo (Nat.le_add_right _ _)) (Nat.le_add_right _ _) (v:=0) (code:=1) (HP3.out) (by decide);have HE:=AA (AB hB9);have HR:=AA HR9;clear hB9 HR9;go_wp2_with ((try simp only[Exit.inBlock,Exit.then]);with_reducible refine bodyPost_ret (v:= .tuple #[.agg #[_,_,_,_], .int .i64 (0), .int .i64 (1)]) ?_ rfl HR.out;obtain⟨E0,E1,E2,E3⟩:=HE.out;simp[results,Tryz.results75,go_sem,E0,E1,E2,E3])
   ·have HP3:=AA (show AO k ⟨7,(en:Int),ra,b,c,nm⟩=({k with infos:=Bk (BM k.infos (AD k.envs en).root) (ra),envs:=AR k.envs en (Bl (ra)),cache:=Cg k.cache (en:Int)},0,0) by rw[HP2.out];rfl)
    clear HP2;obtain⟨x0,x1,x2,x3⟩:=S4.out.xs;obtain⟨y0,y1,y2,y3,y4,y5⟩:=S4.out.ys6;obtain⟨_,_,_,D1,_⟩:=S4.out.env (j:=en) (by rw[HK.out.envl];exact hen)
    by_cases ho:(AD k.envs en).root<0
    ·have t5:¬(0:Int)≤(AD k.envs en).root:=by omega
     have HU:=AA (show BM k.infos (AD k.envs en).root=k.infos by unfold BM;rw[if_neg t5]);clear ho;have t7:¬(0:Int)≤ra:=by have:=Hn.out;omega
     have HR:=AA (show Bk (BM k.infos (AD k.envs en).root) (ra)=k.infos by rw[HU.out];unfold Bk;rw[if_neg t7]);obtain⟨x0,x1,x2,x3⟩:=S4.out.xs;obtain⟨y0,y1,y2,y3,y4,y5⟩:=S4.out.ys6;obtain⟨_,_,D0,D1,_⟩:=S4.out.env (j:=en) (by show en<k.envs.length;rw[HK.out.envl];exact hen);have Fe:=S4.out.fze (en*2+1);have T1:=AA (S4.out.root HK.out.envl.symm (by show en<k.envs.length;rw[HK.out.envl];exact hen) (ra));generalize hW7:w4.setCell _ _=W7 at T1;have CD:=AA (fun W (h:Bh W (.slice ac nc cc) k.cache)=>Gq (.slice ac nc cc) k.cache (en:Int) W h (by have:=Fp HK.out;omega));have x3o:=T1.out.xs.2.2.2;obtain⟨_,yo,_⟩:=T1.out.ys6;go_wp2_with fail;refine(CD.out _ T1.out.K.2.2.2).mono ?_;rintro r w8 ⟨v',rfl,hO,hb8⟩;have T2:=AA (T1.out.cache hb8 hO);have fzg:=AI (T1.out.below hb8).ink.1;have x3p:=(T1.out.below hb8).xs.2.2.2;clear x0 x1 x2 x3 y0 y1 y2 y3 y4 y5 x3o yo D0 D1 Fe hW7;obtain⟨a9,c9,e9,_,_⟩:=hO.rd.shape;generalize List.length _=n9 at e9;subst e9;clear hO hb8;generalize hW10:w8.setCell _ _=W10 at T2;have HP4:=AA (show AO k ⟨7,(en:Int),ra,b,c,nm⟩=({k with infos:=k.infos,envs:=AR k.envs en (Bl (ra)),cache:=Cg k.cache (en:Int)},0,0) by rw[HP3.out,HR.out]);obtain⟨x0,x1,x2,x3⟩:=T2.out.xs;obtain⟨⟨z0,z1,z2,z3⟩,hfz⟩:=T2.out.zs;obtain⟨hB9,HR9⟩:=T2.out.ret (Nat.le_trans hlo (Nat.le_add_right _ _)) (Nat.le_add_right _ _) (v:=0) (code:=0) (HP4.out);have HE:=AA (AB hB9);have HR:=AA HR9;clear hB9 HR9;go_wp2_with ((try simp only[Exit.inBlock,Exit.then]);with_reducible refine bodyPost_ret (v:= .tuple #[.agg #[_,_,_,_], .int .i64 (0), .int .i64 (0)]) ?_ rfl HR.out;obtain⟨E0,E1,E2,E3⟩:=HE.out;simp[results,Tryz.results75,go_sem,E0,E1,E2,E3])
    ·obtain⟨rn,hrn⟩:∃n:Nat,(AD k.envs en).root=(n:Int):=⟨(AD k.envs en).root.toNat,by omega⟩
     have hr12:rn<12:=by have:=root_lt HK.out hen;omega
     have HU:=AA (show BM k.infos (AD k.envs en).root=AR k.infos rn (DD (-1)) by unfold BM;rw[hrn,if_pos (by omega),Int.toNat_natCast]);rw[hrn] at D1;have t5:(0:Int)≤(rn:Int):=by omega
     clear ho hrn;obtain⟨x0,x1,x2,x3⟩:=S4.out.xs;obtain⟨y0,y1,y2,y3,y4,y5⟩:=S4.out.ys6;obtain⟨hlb,hlg,_,_⟩:=S4.out.lts;have hgi:=S4.out.gi_lt;obtain⟨_,_,d2⟩:=S4.out.infoAt (f:=rn) (by show rn<(k.infos).length;have:=HK.out.len;(try simp only[As]);omega)
     try simp only at d2
     have hrv0:=HK.out.refs_le hr12;generalize hrv:(infoAt (k.infos) rn).r=rv at d2 hrv0;obtain⟨nr,hnr⟩:∃nr,rv - 1=nr:=⟨_,rfl⟩
     have Hnr:=AA hnr;clear hnr;have hati:(rn:Int)<12:=by omega
     go_wp2_with fail;refine Al 10 98 [.p w.heap.size 1, .s gi 12 capi, .i ((rn:Int)), .p w.heap.size 1, .s gi 12 capi, .i ((rn:Int)), .p gi (rn*3), .p gi (rn*3+2), .i rv, .i nr] (fun _ _ _=>True) ?_ ?_
     ·intro i hi o ho a wx Hb Hd hG K HK
      have mc0:=bc hG hlg x1;have mc1:=bc hG hgi d2
      match i,hi with
      |0,_|2,_|3,_|5,_|7,_=>exact sP ho HK Hb Hd
      |1,_|4,_=>exact sL ho HK Hb Hd (hl:=GX (by assumption))
      |6,_=>exact sI ho HK Hb Hd (hr:=by clear Hd Hb HK;go_simp)
      |8,_=>exact sL ho HK Hb Hd (hl:=Fg (by assumption))
      |9,_=>clear mc0 mc1;obtain rfl:=So_ ho;have d8:(a.tmps[62]?.getD undef)= .int .i64 rv:=Bx Hd 8;clear Hd Hb;refine Aa.of rfl ?_;go_simp;exact HK.out _ _ (by show Value.int .i64 (IntKind.i64.wrap (rv - 1))= .int .i64 nr;rw[IntWalk.i64_in _ (by omega),Hnr.out]) (Below.refl _ _)
     ·intro vs wx hR hG
      have q1:(vs 1)= .slice (some ⟨gi,0,none⟩) 12 capi:=BT hR 1;have q2:(vs 2)= .int .i64 rn:=BT hR 2;have q9:(vs 9)= .int .i64 nr:=BT hR 9;clear hR;simp only[Ai,AQ,List.range,List.range.loop,List.foldl_cons,List.foldl_nil,q1,q2,q9];simp;clear q1 q2 q9;have SB:=AA (S4.out.below hG);obtain⟨_,_,d2w⟩:=SB.out.infoAt (f:=rn) (by show rn<(k.infos).length;have:=HK.out.len;(try simp only[As]);omega);have Fr:=SB.out.fzi (rn*3+2);have S5:=SB.out.info (by show 12=(k.infos).length;have:=HK.out.len;(try simp only[As]);omega) (f:=rn) (by show rn<(k.infos).length;have:=HK.out.len;(try simp only[As]);omega) (-1)
      try simp only at S5 d2w
      rw[hrv] at S5 d2w;rw[show rv+ -1=nr by have:=Hnr.out;omega] at S5;replace S5:=AA S5;generalize hW5:wx.setCell _ _=W5 at S5;clear x0 x1 x2 x3 y0 y1 y2 y3 y4 y5 d2 hG SB;have t7:¬(0:Int)≤ra:=by have:=Hn.out;omega
      have HR:=AA (show Bk (BM k.infos (AD k.envs en).root) (ra)=AR k.infos rn (DD (-1)) by rw[HU.out];unfold Bk;rw[if_neg t7]);obtain⟨x0,x1,x2,x3⟩:=S5.out.xs;obtain⟨y0,y1,y2,y3,y4,y5⟩:=S5.out.ys6;obtain⟨_,_,D0,D1,_⟩:=S5.out.env (j:=en) (by show en<k.envs.length;rw[HK.out.envl];exact hen);have Fe:=S5.out.fze (en*2+1);have T1:=AA (S5.out.root HK.out.envl.symm (by show en<k.envs.length;rw[HK.out.envl];exact hen) (ra));generalize hW7:W5.setCell _ _=W7 at T1;have CD:=AA (fun W (h:Bh W (.slice ac nc cc) k.cache)=>Gq (.slice ac nc cc) k.cache (en:Int) W h (by have:=Fp HK.out;omega));have x3o:=T1.out.xs.2.2.2;obtain⟨_,yo,_⟩:=T1.out.ys6;go_wp2_with fail;refine(CD.out _ T1.out.K.2.2.2).mono ?_;rintro r w8 ⟨v',rfl,hO,hb8⟩;have T2:=AA (T1.out.cache hb8 hO);have fzg:=AI (T1.out.below hb8).ink.1;have x3p:=(T1.out.below hb8).xs.2.2.2;clear x0 x1 x2 x3 y0 y1 y2 y3 y4 y5 x3o yo D0 D1 Fe hW7;obtain⟨a9,c9,e9,_,_⟩:=hO.rd.shape;generalize List.length _=n9 at e9;subst e9;clear hO hb8;generalize hW10:w8.setCell _ _=W10 at T2;have HP4:=AA (show AO k ⟨7,(en:Int),ra,b,c,nm⟩=({k with infos:=AR k.infos rn (DD (-1)),envs:=AR k.envs en (Bl (ra)),cache:=Cg k.cache (en:Int)},0,0) by rw[HP3.out,HR.out]);obtain⟨x0,x1,x2,x3⟩:=T2.out.xs;obtain⟨⟨z0,z1,z2,z3⟩,hfz⟩:=T2.out.zs;obtain⟨hB9,HR9⟩:=T2.out.ret (Nat.le_trans hlo (Nat.le_add_right _ _)) (Nat.le_add_right _ _) (v:=0) (code:=0) (HP4.out);have HE:=AA (AB hB9);have HR:=AA HR9;clear hB9 HR9;go_wp2_with ((try simp only[Exit.inBlock,Exit.then]);with_reducible refine bodyPost_ret (v:= .tuple #[.agg #[_,_,_,_], .int .i64 (0), .int .i64 (0)]) ?_ rfl HR.out;obtain⟨E0,E1,E2,E3⟩:=HE.out;simp[results,Tryz.results75,go_sem,E0,E1,E2,E3])
 ·have t1:(ra != -1)=true:=by simp[e1]
  cases e2:Bv ra 0 11
  ·have HP3:=AA (show AO k ⟨7,(en:Int),ra,b,c,nm⟩=(k,0,3) by rw[HP.out,if_pos ⟨e1, .inl e2⟩])
   have T:=AA e2;clear e1 e2 HP;go_in;go_wp2_with fail;refine(Ab (CY _ _)).mono ?_;rintro r w1 ⟨rfl,hb1⟩;rw[T.out];have S1:=AA (S0.out.below hb1);clear x0 x1 x2 x3 y0 y1 y2 y3 y4 y5 hb1 hW0;obtain⟨x0,x1,x2,x3⟩:=S1.out.xs;obtain⟨⟨z0,z1,z2,z3⟩,hfz⟩:=S1.out.zs;obtain⟨hB9,HR9⟩:=S1.out.bad (Nat.le_trans hlo (Nat.le_add_right _ _)) (Nat.le_add_right _ _) (v:=0) (code:=3) (HP3.out) (by decide);have HE:=AA (AB hB9);have HR:=AA HR9;clear hB9 HR9;go_wp2_with ((try simp only[Exit.inBlock,Exit.then]);with_reducible refine bodyPost_ret (v:= .tuple #[.agg #[_,_,_,_], .int .i64 (0), .int .i64 (3)]) ?_ rfl HR.out;obtain⟨E0,E1,E2,E3⟩:=HE.out;simp[results,Tryz.results75,go_sem,E0,E1,E2,E3])
  ·have T:=AA e2
   have ab:=Ac.1 e2;obtain⟨an,rfl⟩:∃n:Nat,ra=(n:Int):=⟨ra.toNat,by omega⟩
   have han:an<12:=by omega
   have hani:(an:Int)<12:=by omega
   have Ha:Hid ((an:Int)<12):=AA (by omega)
   by_cases e3:(infoAt k.infos an).k=3
   ·have t3:((infoAt k.infos an).k !=3)=false:=by simp[e3]
    have HP2:=AA (show AO k ⟨7,(en:Int),(an:Int),b,c,nm⟩=if At k.infos (A5 k.mem (an:Int)) (AD k.envs en).rights=false then(k,0,1) else({k with infos:=Bk (BM k.infos (AD k.envs en).root) (an:Int),envs:=AR k.envs en (Bl (an:Int)),cache:=Cg k.cache (en:Int)},0,0) by rw[HP.out,if_neg (by rintro⟨_,x|x⟩;(· rw[T.out] at x;cases x);exact x (by rw[Int.toNat_natCast];exact e3))]);clear e1 e2 e3 HP ab;go_in;go_wp2_with fail;refine(Ab (CY _ _)).mono ?_;rintro r w2 ⟨rfl,hb1⟩;rw[T.out];have S2:=AA (S0.out.below hb1);clear x0 x1 x2 x3 y0 y1 y2 y3 y4 y5 hb1 hW0;obtain⟨x0,x1,x2,x3⟩:=S2.out.xs;obtain⟨y0,y1,y2,y3,y4,y5⟩:=S2.out.ys6;obtain⟨d0,_,_⟩:=S2.out.infoAt (f:=an) (by rw[HK.out.len];exact han);go_wp2_with fail;clear x0 x1 x2 x3 y0 y1 y2 y3 y4 y5 d0 t3;obtain⟨x0,x1,x2,x3⟩:=S2.out.xs;obtain⟨y0,y1,y2,y3,y4,y5⟩:=S2.out.ys6;obtain⟨hlb,hlg,_,_⟩:=S2.out.lts;have hge:=S2.out.ge_lt;obtain⟨ua,uc,D0,D1,R⟩:=S2.out.env (j:=en) (by rw[HK.out.envl];exact hen);have RM:=S2.out.K.1;have RI:=S2.out.K.2.1;have CX:=AA (fun W (hW:Below w2.heap.size w2 W)=>IW _ k.mem ((an:Int)) W (RM.below hW) (AT HK.out).1 Ha.out);have CA:=AA (fun W (hW:Below w2.heap.size w2 W) v2 (h2:Ap W v2 (Ah (EP k.mem ((an:Int)))))=>by have:=FU _ v2 _ k.infos (EP k.mem ((an:Int))) (AD k.envs en).rights W (A6.below RI hW) h2 (A6.below R hW) (fun f hf=>by have:=reach_lt Ha.out f ((Fu Ha.out f).1 hf);have:=HK.out.len;omega) (Be (AT HK.out).2.1) (FG HK.out hen);rw[ED (Fu Ha.out)] at this;exact this);generalize hbb:At k.infos (A5 k.mem ((an:Int))) (AD k.envs en).rights=bb at CA HP2;clear hbb RM RI R;go_wp2_with fail;refine Am 14 98 [.p w.heap.size 1, .s gi 12 capi, .p w.heap.size 0, .v (.slice am nm_ cm), .p (w.heap.size+1) 2, .i ((an:Int)), .z, .p w.heap.size 2, .s ge 3 cape, .p (w.heap.size+1) 1, .i ((en:Int)), .p ge (en*2), .p ge (en*2), .v (.slice ua (AD k.envs en).rights.length uc)] (fun ix vv ww=>match ix with
     |6=>AE w2.heap.size ww vv (Ah (EP k.mem ((an:Int))))
     |_=>True) ?_ ?_ ?_
    ·intro i hi o ho a wx Hb Hd hG K HK
     have mc0:=bc hG hlg x1;have mc1:=bc hG hlg x0;have mc2:=bc hG hlb y2;have mc3:=bc hG hlg x2;have mc4:=bc hG hlb y1;have mc5:=bc hG hge D0
     match i,hi with
     |0,_|2,_|4,_|7,_|9,_|12,_=>exact sP ho HK Hb Hd
     |1,_=>exact sL ho HK Hb Hd (hl:=GX (by assumption))
     |3,_=>exact sL ho HK Hb Hd (hl:=Ff (by assumption))
     |5,_|10,_=>exact sL ho HK Hb Hd (hl:=Fg (by assumption))
     |6,_=>exact sC ho HK Hb Hd (CX.out _ hG) (by rintro e w_ ⟨v',rfl,hO,hb2⟩;exact⟨_,rfl,(Bd hO hG.size),hb2⟩)
     |8,_=>exact sL ho HK Hb Hd (hl:=MX (by assumption))
     |11,_=>exact sI ho HK Hb Hd (hr:=by clear Hd Hb HK;go_simp)
     |13,_=>exact sL ho HK Hb Hd (hl:=K7 (by assumption))
    ·intro i hi vv wz ww' hbz hz
     match i,hi with
     |6,_=>exact(AE.below hz hbz)
     |0,_|1,_|2,_|3,_|4,_|5,_|7,_|8,_|9,_|10,_|11,_|12,_|13,_=>exact hz
    ·intro vs wx hR hG
     have q1:(vs 1)= .slice (some ⟨gi,0,none⟩) 12 capi:=BT hR 1;have q6:AE w2.heap.size wx (vs 6) (Ah (EP k.mem ((an:Int)))):=BT hR 6;have q13:(vs 13)= .slice ua (AD k.envs en).rights.length uc:=BT hR 13;clear hR;simp only[Ai,AQ,List.range,List.range.loop,List.foldl_cons,List.foldl_nil,q1,q13];simp;generalize vs 6=z6 at q6 ⊢;clear q1 q13;have S3:=AA (S2.out.below hG);obtain⟨a8,c8,e8,_⟩:=q6.rd.open;have HQ:=AA q6.rd;generalize List.length _=n8 at e8;subst e8;have HbG:=AA hG;clear x0 x1 x2 x3 y0 y1 y2 y3 y4 y5 D0 D1 hG q6;go_wp2_with fail;refine(CA.out _ HbG.out _ HQ.out).mono ?_;rintro r w4 ⟨rfl,hb4⟩;have S4:=AA (S3.out.below hb4);clear hb4 HbG HQ CA;cases bb
     ·have HP3:=AA (show AO k ⟨7,(en:Int),(an:Int),b,c,nm⟩=(k,0,1) by rw[HP2.out];rfl)
      obtain⟨x0,x1,x2,x3⟩:=S4.out.xs;obtain⟨⟨z0,z1,z2,z3⟩,hfz⟩:=S4.out.zs;obtain⟨hB9,HR9⟩:=S4.out.bad (Nat.le_trans hlo (Nat.le_add_right _ _)) (Nat.le_add_right _ _) (v:=0) (code:=1) (HP3.out) (by decide);have HE:=AA (AB hB9);have HR:=AA HR9;clear hB9 HR9;go_wp2_with ((try simp only[Exit.inBlock,Exit.then]);with_reducible refine bodyPost_ret (v:= .tuple #[.agg #[_,_,_,_], .int .i64 (0), .int .i64 (1)]) ?_ rfl HR.out;obtain⟨E0,E1,E2,E3⟩:=HE.out;simp[results,Tryz.results75,go_sem,E0,E1,E2,E3])
     ·have HP3:=AA (show AO k ⟨7,(en:Int),(an:Int),b,c,nm⟩=({k with infos:=Bk (BM k.infos (AD k.envs en).root) ((an:Int)),envs:=AR k.envs en (Bl ((an:Int))),cache:=Cg k.cache (en:Int)},0,0) by rw[HP2.out];rfl)
      clear HP2;obtain⟨x0,x1,x2,x3⟩:=S4.out.xs;obtain⟨y0,y1,y2,y3,y4,y5⟩:=S4.out.ys6;obtain⟨_,_,_,D1,_⟩:=S4.out.env (j:=en) (by rw[HK.out.envl];exact hen)
      by_cases ho:(AD k.envs en).root<0
      ·have t5:¬(0:Int)≤(AD k.envs en).root:=by omega
       have HU:=AA (show BM k.infos (AD k.envs en).root=k.infos by unfold BM;rw[if_neg t5]);clear ho;have t7:(0:Int)≤(an:Int):=by omega
       have HR:=AA (show Bk (BM k.infos (AD k.envs en).root) ((an:Int))=AR (k.infos) an (DD 1) by rw[HU.out];unfold Bk;rw[if_pos t7,Int.toNat_natCast]);obtain⟨x0,x1,x2,x3⟩:=S4.out.xs;obtain⟨y0,y1,y2,y3,y4,y5⟩:=S4.out.ys6;obtain⟨hlb,hlg,_,_⟩:=S4.out.lts;have hgi:=S4.out.gi_lt;obtain⟨_,_,d2⟩:=S4.out.infoAt (f:=an) (by show an<(k.infos).length;have:=HK.out.len;(try simp only[As]);omega)
       try simp only at d2
       have hrv0:=HK.out.refs_le han;generalize hrv:(infoAt (k.infos) an).r=rv at d2 hrv0;obtain⟨nr,hnr⟩:∃nr,rv+1=nr:=⟨_,rfl⟩
       have Hnr:=AA hnr;clear hnr;have hati:(an:Int)<12:=by omega
       go_wp2_with fail;refine Al 12 98 [.p w.heap.size 1, .s gi 12 capi, .p (w.heap.size+1) 2, .i ((an:Int)), .p w.heap.size 1, .s gi 12 capi, .p (w.heap.size+1) 2, .i ((an:Int)), .p gi (an*3), .p gi (an*3+2), .i rv, .i nr] (fun _ _ _=>True) ?_ ?_
       ·intro i hi o ho a wx Hb Hd hG K HK
        have mc0:=bc hG hlg x1;have mc1:=bc hG hlb y2;have mc2:=bc hG hgi d2
        match i,hi with
        |0,_|2,_|4,_|6,_|9,_=>exact sP ho HK Hb Hd
        |1,_|5,_=>exact sL ho HK Hb Hd (hl:=GX (by assumption))
        |3,_|7,_|10,_=>exact sL ho HK Hb Hd (hl:=Fg (by assumption))
        |8,_=>exact sI ho HK Hb Hd (hr:=by clear Hd Hb HK;go_simp)
        |11,_=>clear mc0 mc1 mc2;obtain rfl:=So_ ho;have d10:(a.tmps[79]?.getD undef)= .int .i64 rv:=Bx Hd 10;clear Hd Hb;refine Aa.of rfl ?_;go_simp;exact HK.out _ _ (by show Value.int .i64 (IntKind.i64.wrap (rv+1))= .int .i64 nr;rw[IntWalk.i64_in _ (by omega),Hnr.out]) (Below.refl _ _)
       ·intro vs wx hR hG
        have q1:(vs 1)= .slice (some ⟨gi,0,none⟩) 12 capi:=BT hR 1;have q3:(vs 3)= .int .i64 an:=BT hR 3;have q11:(vs 11)= .int .i64 nr:=BT hR 11;clear hR;simp only[Ai,AQ,List.range,List.range.loop,List.foldl_cons,List.foldl_nil,q1,q3,q11];simp;clear q1 q3 q11;have SB:=AA (S4.out.below hG);obtain⟨_,_,d2w⟩:=SB.out.infoAt (f:=an) (by show an<(k.infos).length;have:=HK.out.len;(try simp only[As]);omega);have Fr:=SB.out.fzi (an*3+2);have S6:=SB.out.info (by show 12=(k.infos).length;have:=HK.out.len;(try simp only[As]);omega) (f:=an) (by show an<(k.infos).length;have:=HK.out.len;(try simp only[As]);omega) (1)
        try simp only at S6 d2w
        rw[hrv] at S6 d2w;rw[show rv+1=nr by have:=Hnr.out;omega] at S6;replace S6:=AA S6;generalize hW6:wx.setCell _ _=W6 at S6;clear x0 x1 x2 x3 y0 y1 y2 y3 y4 y5 d2 hG SB;obtain⟨x0,x1,x2,x3⟩:=S6.out.xs;obtain⟨y0,y1,y2,y3,y4,y5⟩:=S6.out.ys6;obtain⟨_,_,D0,D1,_⟩:=S6.out.env (j:=en) (by show en<k.envs.length;rw[HK.out.envl];exact hen);have Fe:=S6.out.fze (en*2+1);have T1:=AA (S6.out.root HK.out.envl.symm (by show en<k.envs.length;rw[HK.out.envl];exact hen) ((an:Int)));generalize hW7:W6.setCell _ _=W7 at T1;have CD:=AA (fun W (h:Bh W (.slice ac nc cc) k.cache)=>Gq (.slice ac nc cc) k.cache (en:Int) W h (by have:=Fp HK.out;omega));have x3o:=T1.out.xs.2.2.2;obtain⟨_,yo,_⟩:=T1.out.ys6;go_wp2_with fail;refine(CD.out _ T1.out.K.2.2.2).mono ?_;rintro r w8 ⟨v',rfl,hO,hb8⟩;have T2:=AA (T1.out.cache hb8 hO);have fzg:=AI (T1.out.below hb8).ink.1;have x3p:=(T1.out.below hb8).xs.2.2.2;clear x0 x1 x2 x3 y0 y1 y2 y3 y4 y5 x3o yo D0 D1 Fe hW7;obtain⟨a9,c9,e9,_,_⟩:=hO.rd.shape;generalize List.length _=n9 at e9;subst e9;clear hO hb8;generalize hW10:w8.setCell _ _=W10 at T2;have HP4:=AA (show AO k ⟨7,(en:Int),(an:Int),b,c,nm⟩=({k with infos:=AR k.infos an (DD 1),envs:=AR k.envs en (Bl ((an:Int))),cache:=Cg k.cache (en:Int)},0,0) by rw[HP3.out,HR.out]);obtain⟨x0,x1,x2,x3⟩:=T2.out.xs;obtain⟨⟨z0,z1,z2,z3⟩,hfz⟩:=T2.out.zs;obtain⟨hB9,HR9⟩:=T2.out.ret (Nat.le_trans hlo (Nat.le_add_right _ _)) (Nat.le_add_right _ _) (v:=0) (code:=0) (HP4.out);have HE:=AA (AB hB9);have HR:=AA HR9;clear hB9 HR9;go_wp2_with ((try simp only[Exit.inBlock,Exit.then]);with_reducible refine bodyPost_ret (v:= .tuple #[.agg #[_,_,_,_], .int .i64 (0), .int .i64 (0)]) ?_ rfl HR.out;obtain⟨E0,E1,E2,E3⟩:=HE.out;simp[results,Tryz.results75,go_sem,E0,E1,E2,E3])
      ·obtain⟨rn,hrn⟩:∃n:Nat,(AD k.envs en).root=(n:Int):=⟨(AD k.envs en).root.toNat,by omega⟩
       have hr12:rn<12:=by have:=root_lt HK.out hen;omega
       have HU:=AA (show BM k.infos (AD k.envs en).root=AR k.infos rn (DD (-1)) by unfold BM;rw[hrn,if_pos (by omega),Int.toNat_natCast]);rw[hrn] at D1;have t5:(0:Int)≤(rn:Int):=by omega
       clear ho hrn;obtain⟨x0,x1,x2,x3⟩:=S4.out.xs;obtain⟨y0,y1,y2,y3,y4,y5⟩:=S4.out.ys6;obtain⟨hlb,hlg,_,_⟩:=S4.out.lts;have hgi:=S4.out.gi_lt;obtain⟨_,_,d2⟩:=S4.out.infoAt (f:=rn) (by show rn<(k.infos).length;have:=HK.out.len;(try simp only[As]);omega)
       try simp only at d2
       have hrv0:=HK.out.refs_le hr12;generalize hrv:(infoAt (k.infos) rn).r=rv at d2 hrv0;obtain⟨nr,hnr⟩:∃nr,rv - 1=nr:=⟨_,rfl⟩
       have Hnr:=AA hnr;clear hnr;have hati:(rn:Int)<12:=by omega
       go_wp2_with fail;refine Al 10 98 [.p w.heap.size 1, .s gi 12 capi, .i ((rn:Int)), .p w.heap.size 1, .s gi 12 capi, .i ((rn:Int)), .p gi (rn*3), .p gi (rn*3+2), .i rv, .i nr] (fun _ _ _=>True) ?_ ?_
       ·intro i hi o ho a wx Hb Hd hG K HK
        have mc0:=bc hG hlg x1;have mc1:=bc hG hgi d2
        match i,hi with
        |0,_|2,_|3,_|5,_|7,_=>exact sP ho HK Hb Hd
        |1,_|4,_=>exact sL ho HK Hb Hd (hl:=GX (by assumption))
        |6,_=>exact sI ho HK Hb Hd (hr:=by clear Hd Hb HK;go_simp)
        |8,_=>exact sL ho HK Hb Hd (hl:=Fg (by assumption))
        |9,_=>clear mc0 mc1;obtain rfl:=So_ ho;have d8:(a.tmps[62]?.getD undef)= .int .i64 rv:=Bx Hd 8;clear Hd Hb;refine Aa.of rfl ?_;go_simp;exact HK.out _ _ (by show Value.int .i64 (IntKind.i64.wrap (rv - 1))= .int .i64 nr;rw[IntWalk.i64_in _ (by omega),Hnr.out]) (Below.refl _ _)
       ·intro vs wx hR hG
        have q1:(vs 1)= .slice (some ⟨gi,0,none⟩) 12 capi:=BT hR 1;have q2:(vs 2)= .int .i64 rn:=BT hR 2;have q9:(vs 9)= .int .i64 nr:=BT hR 9;clear hR;simp only[Ai,AQ,List.range,List.range.loop,List.foldl_cons,List.foldl_nil,q1,q2,q9];simp;clear q1 q2 q9;have SB:=AA (S4.out.below hG);obtain⟨_,_,d2w⟩:=SB.out.infoAt (f:=rn) (by show rn<(k.infos).length;have:=HK.out.len;(try simp only[As]);omega);have Fr:=SB.out.fzi (rn*3+2);have S5:=SB.out.info (by show 12=(k.infos).length;have:=HK.out.len;(try simp only[As]);omega) (f:=rn) (by show rn<(k.infos).length;have:=HK.out.len;(try simp only[As]);omega) (-1)
        try simp only at S5 d2w
        rw[hrv] at S5 d2w;rw[show rv+ -1=nr by have:=Hnr.out;omega] at S5;replace S5:=AA S5;generalize hW5:wx.setCell _ _=W5 at S5;clear x0 x1 x2 x3 y0 y1 y2 y3 y4 y5 d2 hG SB;have t7:(0:Int)≤(an:Int):=by omega
        have HR:=AA (show Bk (BM k.infos (AD k.envs en).root) ((an:Int))=AR (AR k.infos rn (DD (-1))) an (DD 1) by rw[HU.out];unfold Bk;rw[if_pos t7,Int.toNat_natCast]);obtain⟨x0,x1,x2,x3⟩:=S5.out.xs;obtain⟨y0,y1,y2,y3,y4,y5⟩:=S5.out.ys6;obtain⟨hlb,hlg,_,_⟩:=S5.out.lts;have hgi:=S5.out.gi_lt;obtain⟨_,_,d2⟩:=S5.out.infoAt (f:=an) (by show an<(AR k.infos rn (DD (-1))).length;have:=HK.out.len;(try simp only[As]);omega)
        try simp only at d2
        have hrv0:=(show 0 - 1≤(infoAt (AR k.infos rn (DD (-1))) an).r∧(infoAt (AR k.infos rn (DD (-1))) an).r≤47 by
         have r1:=HK.out.refs_le han;rw[EM]
         split
         ·next hx=>have r2:=HK.out.refs_le hr12;show 0 - 1≤(infoAt k.infos rn).r+ -1∧(infoAt k.infos rn).r+ -1≤47;omega
         ·omega)
        generalize hrv:(infoAt (AR k.infos rn (DD (-1))) an).r=rv at d2 hrv0;obtain⟨nr,hnr⟩:∃nr,rv+1=nr:=⟨_,rfl⟩
        have Hnr:=AA hnr;clear hnr;have hati:(an:Int)<12:=by omega
        go_wp2_with fail;refine Al 12 98 [.p w.heap.size 1, .s gi 12 capi, .p (w.heap.size+1) 2, .i ((an:Int)), .p w.heap.size 1, .s gi 12 capi, .p (w.heap.size+1) 2, .i ((an:Int)), .p gi (an*3), .p gi (an*3+2), .i rv, .i nr] (fun _ _ _=>True) ?_ ?_
        ·intro i hi o ho a wx Hb Hd hG K HK
         have mc0:=bc hG hlg x1;have mc1:=bc hG hlb y2;have mc2:=bc hG hgi d2
         match i,hi with
         |0,_|2,_|4,_|6,_|9,_=>exact sP ho HK Hb Hd
         |1,_|5,_=>exact sL ho HK Hb Hd (hl:=GX (by assumption))
         |3,_|7,_|10,_=>exact sL ho HK Hb Hd (hl:=Fg (by assumption))
         |8,_=>exact sI ho HK Hb Hd (hr:=by clear Hd Hb HK;go_simp)
         |11,_=>clear mc0 mc1 mc2;obtain rfl:=So_ ho;have d10:(a.tmps[79]?.getD undef)= .int .i64 rv:=Bx Hd 10;clear Hd Hb;refine Aa.of rfl ?_;go_simp;exact HK.out _ _ (by show Value.int .i64 (IntKind.i64.wrap (rv+1))= .int .i64 nr;rw[IntWalk.i64_in _ (by omega),Hnr.out]) (Below.refl _ _)
        ·intro vs wx hR hG
         have q1:(vs 1)= .slice (some ⟨gi,0,none⟩) 12 capi:=BT hR 1;have q3:(vs 3)= .int .i64 an:=BT hR 3;have q11:(vs 11)= .int .i64 nr:=BT hR 11;clear hR;simp only[Ai,AQ,List.range,List.range.loop,List.foldl_cons,List.foldl_nil,q1,q3,q11];simp;clear q1 q3 q11;have SB:=AA (S5.out.below hG);obtain⟨_,_,d2w⟩:=SB.out.infoAt (f:=an) (by show an<(AR k.infos rn (DD (-1))).length;have:=HK.out.len;(try simp only[As]);omega);have Fr:=SB.out.fzi (an*3+2);have S6:=SB.out.info (by show 12=(AR k.infos rn (DD (-1))).length;have:=HK.out.len;(try simp only[As]);omega) (f:=an) (by show an<(AR k.infos rn (DD (-1))).length;have:=HK.out.len;(try simp only[As]);omega) (1)
         try simp only at S6 d2w
         rw[hrv] at S6 d2w;rw[show rv+1=nr by have:=Hnr.out;omega] at S6;replace S6:=AA S6;generalize hW6:wx.setCell _ _=W6 at S6;clear x0 x1 x2 x3 y0 y1 y2 y3 y4 y5 d2 hG SB;obtain⟨x0,x1,x2,x3⟩:=S6.out.xs;obtain⟨y0,y1,y2,y3,y4,y5⟩:=S6.out.ys6;obtain⟨_,_,D0,D1,_⟩:=S6.out.env (j:=en) (by show en<k.envs.length;rw[HK.out.envl];exact hen);have Fe:=S6.out.fze (en*2+1);have T1:=AA (S6.out.root HK.out.envl.symm (by show en<k.envs.length;rw[HK.out.envl];exact hen) ((an:Int)));generalize hW7:W6.setCell _ _=W7 at T1;have CD:=AA (fun W (h:Bh W (.slice ac nc cc) k.cache)=>Gq (.slice ac nc cc) k.cache (en:Int) W h (by have:=Fp HK.out;omega));have x3o:=T1.out.xs.2.2.2;obtain⟨_,yo,_⟩:=T1.out.ys6;go_wp2_with fail;refine(CD.out _ T1.out.K.2.2.2).mono ?_;rintro r w8 ⟨v',rfl,hO,hb8⟩;have T2:=AA (T1.out.cache hb8 hO);have fzg:=AI (T1.out.below hb8).ink.1;have x3p:=(T1.out.below hb8).xs.2.2.2;clear x0 x1 x2 x3 y0 y1 y2 y3 y4 y5 x3o yo D0 D1 Fe hW7;obtain⟨a9,c9,e9,_,_⟩:=hO.rd.shape;generalize List.length _=n9 at e9;subst e9;clear hO hb8;generalize hW10:w8.setCell _ _=W10 at T2;have HP4:=AA (show AO k ⟨7,(en:Int),(an:Int),b,c,nm⟩=({k with infos:=AR (AR k.infos rn (DD (-1))) an (DD 1),envs:=AR k.envs en (Bl ((an:Int))),cache:=Cg k.cache (en:Int)},0,0) by rw[HP3.out,HR.out]);obtain⟨x0,x1,x2,x3⟩:=T2.out.xs;obtain⟨⟨z0,z1,z2,z3⟩,hfz⟩:=T2.out.zs;obtain⟨hB9,HR9⟩:=T2.out.ret (Nat.le_trans hlo (Nat.le_add_right _ _)) (Nat.le_add_right _ _) (v:=0) (code:=0) (HP4.out);have HE:=AA (AB hB9);have HR:=AA HR9;clear hB9 HR9;go_wp2_with ((try simp only[Exit.inBlock,Exit.then]);with_reducible refine bodyPost_ret (v:= .tuple #[.agg #[_,_,_,_], .int .i64 (0), .int .i64 (0)]) ?_ rfl HR.out;obtain⟨E0,E1,E2,E3⟩:=HE.out;simp[results,Tryz.results75,go_sem,E0,E1,E2,E3])
   ·have t3:((infoAt k.infos an).k !=3)=true:=by simp[e3]
    have HP3:=AA (show AO k ⟨7,(en:Int),(an:Int),b,c,nm⟩=(k,0,3) by rw[HP.out,if_pos ⟨e1, .inr (by rw[Int.toNat_natCast];exact e3)⟩]);clear e1 e2 e3 HP ab;go_in;go_wp2_with fail;refine(Ab (CY _ _)).mono ?_;rintro r w1 ⟨rfl,hb1⟩;rw[T.out];have S1:=AA (S0.out.below hb1);clear x0 x1 x2 x3 y0 y1 y2 y3 y4 y5 hb1 hW0;obtain⟨y0,y1,y2,y3,y4,y5⟩:=S1.out.ys6;obtain⟨d0,_,_⟩:=S1.out.infoAt (f:=an) (by rw[HK.out.len];exact han);obtain⟨x0,x1,x2,x3⟩:=S1.out.xs;obtain⟨⟨z0,z1,z2,z3⟩,hfz⟩:=S1.out.zs;obtain⟨hB9,HR9⟩:=S1.out.bad (Nat.le_trans hlo (Nat.le_add_right _ _)) (Nat.le_add_right _ _) (v:=0) (code:=3) (HP3.out) (by decide);have HE:=AA (AB hB9);have HR:=AA HR9;clear hB9 HR9;go_wp2_with ((try simp only[Exit.inBlock,Exit.then]);with_reducible refine bodyPost_ret (v:= .tuple #[.agg #[_,_,_,_], .int .i64 (0), .int .i64 (3)]) ?_ rfl HR.out;obtain⟨E0,E1,E2,E3⟩:=HE.out;simp[results,Tryz.results75,go_sem,E0,E1,E2,E3])
theorem Uy {ss:List ByteArray} {s:ByteArray} (h1:Ax ss=true) (h2:Az s=true):GR ss s=if(decide (Kx ss s<ss.length)&&decide (Bi ss (Kx ss s)=s))=true then(ss,true) else if ss.length=6 then(ss,false) else(Bb ss (Kx ss s) s,true):=by
 unfold GR;rw[h1,h2,←U1 h1]
 show A0 ss s=_
 unfold A0;rw[Ts];rfl
theorem LJ {ss:List ByteArray} {k:Nat} {s:ByteArray}:Bb ss k s=(ss.take k++[s])++ss.drop k:=by simp[Bb]
theorem Sb {w:World} {g T:Nat} {x:Value} (h:w.heap[g]? =some (.cells #[x] T (0,0))):Rd w (.slice (some ⟨g,0,none⟩) 1 1) 1 1 [x]:=by
 have h0:=cell_of_row _ _ 0 _ _ _ h;refine⟨_,_,rfl,Nat.le_refl _,by simp[maxLen],rfl,nofun,fun _=>⟨g,0,rfl,fun j hj=>?_⟩⟩;rw[Nat.zero_add]
 match j,hj with
 |0,_=>exact h0
 |_+1,hj=>exact absurd hj (by omega)
theorem Qd {w:World} {a:Option Addr} {c:Nat} {ss:List ByteArray} (h:BG w (.slice a ss.length c) ss) (a':Option Addr) (ha:a'=none→a=none):BG w (.slice a' 0 (c - ss.length)) (ss.drop ss.length):=by
 obtain⟨ao,c',hv,hmc,hcm,hl,hnil,hc⟩:=h;simp only[Value.slice.injEq] at hv;obtain⟨rfl,_,rfl⟩:=hv;rw[List.drop_length];exact⟨_,_,rfl,Nat.zero_le _,by omega,rfl,fun h=>by have:=hnil (ha h);omega,fun h=>absurd h (Nat.lt_irrefl 0)⟩
theorem Mq (v:Value) (ss:List ByteArray) (s:ByteArray) (w:World) (h:BG w v ss) (hs:Dr ss) (hz:s.size≤maxLen):Calls prog 105 #[v, .string s] w (Ur w (GR ss s)):=by
 have C1:=AA (Kb (Fm v ss w h hs));have C2:=AA (fun W=>Ab (DN s W hz));obtain⟨pa,c,rfl,hc,hcm,H⟩:=A6.open DE (by decide) h;have HR:=AA (fun W (hW:Below w.heap.size w W)=>A6.below h hW);have HH:=AA H;unfold maxLen at hcm;clear h hs hz H;generalize hrv:Ax ss=rv at C1;generalize hsv:Az s=sv at C2;have HV:=AA (And.intro hrv hsv);clear hrv hsv;cases rv
 ·have P:=AA (show GR ss s=([],false) by unfold GR;rw[HV.out.1];rfl)
  go_in;go_wp2_with fail;refine C1.out.mono ?_;rintro r w1 ⟨rfl,b1⟩;go_wp2_with fail;go_ret2;exact⟨_,by rw[P.out];rfl,by rw[P.out];exact AC.lower (Bw Ag _ _ _) b1.size,b1.alloc b1.size _⟩
 ·cases sv
  ·have P:=AA (show GR ss s=([],false) by unfold GR;rw[HV.out.1,HV.out.2];rfl)
   go_in;go_wp2_with fail;refine C1.out.mono ?_;rintro r w1 ⟨rfl,b1⟩;go_wp2_with fail;refine(C2.out _).mono ?_;rintro r w2 ⟨rfl,b2⟩;have b3:=b1.trans (b2.mono b1.size);clear b1 b2;go_wp2_with fail;go_ret2;exact⟨_,by rw[P.out];rfl,by rw[P.out];exact AC.lower (Bw Ag _ _ _) b3.size,b3.alloc b3.size _⟩
  ·have hl6:=(Dp.1 HV.out.1).2.2
   have HP:=AA (Uy (ss:=ss) (s:=s) HV.out.1 HV.out.2);go_in;go_wp2_with fail;refine C1.out.mono ?_;rintro r w1 ⟨rfl,b1⟩;go_wp2_with fail;refine(C2.out _).mono ?_;rintro r w2 ⟨rfl,b2⟩;have b3:=b1.trans (b2.mono b1.size);clear b1 b2 C1 C2;go_wp2_with fail;go_loopw [6] (fun ix wr=>∃k:Nat,k≤ss.length∧ix= .int .i64 k∧(∀j,j<k→KA (Bi ss j) s=true)∧Below w.heap.size w wr) (fun ix _=>ss.length - (intOf ix).toNat)
   case atStart=>exact⟨0,Nat.zero_le _,rfl,fun j hj=>absurd hj (Nat.not_lt_zero _),b3⟩
   case round=>
    obtain⟨k,hk,rfl,hpre,hb⟩:=hrel;have Hpre:=AA hpre;have HB:=AA hb;clear hpre b3
    by_cases hlt:k<ss.length
    ·have hlti:(k:Int)<(ss.length:Int):=by omega
     obtain⟨b,off,rfl,D⟩:=(HH.out.below hb).str hlt;cases ht:Op.bytesLess (Bi ss k).toList s.toList
     ·have ECut:=AA (show Kx ss s=k from Of hk Hpre.out (fun _=>ht))
      have Ht:=AA ht;clear hb
      by_cases he:Bi ss k=s
      ·have te:((Bi ss k).toList==s.toList)=true:=by rw[he];simp
       have P:=AA (show GR ss s=(ss,true) by rw[HP.out,ECut.out,if_pos (by simp[hlt,he])]);clear he HP;go_wp2_with (at_builtin;go_must (refine EZ (cs:=Ag) rfl rfl 9 (.string ⟨#[]⟩) 1 16 underlying40 Tryz.infoStringK rfl (by decide) rfl (Bw Ag _ _ _) rfl (HR.out _ (HB.out.trans ((AF _ _).mono HB.out.size))) (FN _) (by omega) (by decide) (by simp) ?_;intro v' w9 hO hb9));have HO:=AA hO;obtain⟨a9,c9,e9,_,_⟩:=hO.rd.shape;generalize List.length _=n9 at e9;subst e9;have hbx:=AA ((HB.out.trans ((AF _ _).mono HB.out.size)).trans (hb9.mono HB.out.size));clear hO hb9;go_wp2_with fail;go_ret2;exact⟨_,by rw[P.out];rfl,by rw[P.out];exact HO.out.lower HB.out.size,hbx.out⟩
      ·have te:((Bi ss k).toList==s.toList)=false:=by
        rw[beq_eq_false_iff_ne];exact fun e=>he (ByteArray.ext (Array.toList_inj.mp (by rw[←Lib.toList_data,←Lib.toList_data];exact e)))
       have HP2:=AA (show GR ss s=if ss.length=6 then(ss,false) else(Bb ss k s,true) by rw[HP.out,ECut.out,if_neg (by simp[he])]);clear he HP
       by_cases h6:ss.length=6
       ·have P:=AA (show GR ss s=(ss,false) by rw[HP2.out,if_pos h6])
        have h6i:(6:Int)≤(ss.length:Int):=by omega
        clear h6;go_wp2_with (at_builtin;go_must (refine EZ (cs:=Ag) rfl rfl 9 (.string ⟨#[]⟩) 1 16 underlying40 Tryz.infoStringK rfl (by decide) rfl (Bw Ag _ _ _) rfl (HR.out _ (HB.out.trans ((AF _ _).mono HB.out.size))) (FN _) (by omega) (by decide) (by simp) ?_;intro v' w9 hO hb9));have HO:=AA hO;obtain⟨a9,c9,e9,_,_⟩:=hO.rd.shape;generalize List.length _=n9 at e9;subst e9;have hbx:=AA ((HB.out.trans ((AF _ _).mono HB.out.size)).trans (hb9.mono HB.out.size));clear hO hb9;go_wp2_with fail;go_ret2;exact⟨_,by rw[P.out];rfl,by rw[P.out];exact HO.out.lower HB.out.size,hbx.out⟩
       ·have P:=AA (show GR ss s=(Bb ss k s,true) by rw[HP2.out,if_neg h6])
        have h6i:¬(6:Int)≤(ss.length:Int):=by omega
        have hkc:k≤c:=by omega
        clear h6;go_wp2_with fail;refine Cz 14 63 (fun ix=>ix==7||ix==11) [.z, .v (.slice (some ⟨b,off,none⟩) ss.length c), .i ((k:Int)), .z, .z, .t s, .z, .z, .v (.slice (some ⟨b,off,none⟩) ss.length c), .i ((k:Int)), .z, .z, .z, .b true] (fun ll ix vv ww=>match ix with
         |0=>(ll 4=false→Im wr.heap.size 9 ww vv)
         |3=>(∀W',Below wr.heap.size wr W'→BG W' vv (ss.take k))
         |4=>(ll 7=false→AC wr.heap.size 9 1 Ag ww vv (ss.take k))
         |6=>(ll 7=false→∃g,vv= .slice (some ⟨g,0,none⟩) 1 1∧ww.heap[g]? =some (.cells #[.string s] 9 (0,0)))
         |7=>(ll 11=false→AC wr.heap.size 9 1 Ag ww vv (ss.take k++[s]))
         |10=>(∀W',Below wr.heap.size wr W'→BG W' vv (ss.drop k))
         |11=>AC wr.heap.size 9 1 Ag ww vv (Bb ss k s)
         |12=>AC wr.heap.size 9 1 Ag ww vv (Bb ss k s)
         |_=>True) (fun ll ww=>Below wr.heap.size wr ww) ?_ ?_ ?_ ?_ ?_ ?_
        ·exact Ao (Below.refl _ _) 1
        ·intro j hj ll i vv wz ww' hi hS hLi hLj hbz hz
         match j,hj with
         |0,_=>exact(fun hL=>Im.below (hz (EQ hL)) hbz)
         |3,_=>exact hz
         |4,_=>exact(fun hL=>AC.below (hz (EQ hL)) hbz)
         |6,_=>exact(fun hL=>by obtain⟨g,h0,h1⟩:=hz (EQ hL);exact⟨g,h0,AG h1 hbz⟩)
         |7,_=>exact(fun hL=>AC.below (hz (EQ hL)) hbz)
         |10,_=>exact hz
         |11,_=>exact(AC.below hz hbz)
         |12,_=>exact(AC.below hz hbz)
         |1,_|2,_|5,_|8,_|9,_|13,_=>exact hz
        ·intro ll i wz ww' hi hS hLi hbz hg
         exact hg.trans (hbz.mono hg.size)
        ·intro i hi hS o ho a wx Hb ll Hd HL hG K HK
         match i,hi,hS with
         |1,_,_|2,_,_|5,_,_|8,_,_|9,_,_|13,_,_=>exact Tk ho HK Hb Hd HL
         |7,_,hs|11,_,hs=>exact absurd hs (by decide)
         |0,_,_=>obtain rfl:=So_ ho;clear Hd Hb;refine Aa.of rfl ?_;go_simp;exact HK.out _ _ (fun _=>⟨_,rfl,hG.size,heap_alloc_new _ _⟩) (AF _ _)
         |3,_,_=>obtain rfl:=So_ ho;have d1:(a.tmps[52]?.getD undef)= .slice (some ⟨b,off,none⟩) ss.length c:=Ec Hd HL 1;have d2:(a.tmps[53]?.getD undef)= .int .i64 k:=Ec Hd HL 2;clear Hd Hb;refine Aa.of rfl ?_;go_simp;exact HK.out _ _ (fun W' hW=>OI (HR.out W' (HB.out.trans (hW.mono HB.out.size))) rfl (by omega)) (Below.refl _ _)
         |4,_,_=>obtain rfl:=So_ ho;have d0:(ll 4=false→Im wr.heap.size 9 wx (a.tmps[51]?.getD undef)):=Ec Hd HL 0;have d3:(∀W',Below wr.heap.size wr W'→BG W' (a.tmps[54]?.getD undef) (ss.take k)):=Ec Hd HL 3;have u7:=Cl HL 7;clear Hd Hb;refine Aa.of rfl ?_;obtain⟨g_,d0a,d0b,d0c⟩:=d0 HL.out.1;obtain⟨v7,w4,hrun,r1,r2,_⟩:=Cn (lo:=wr.heap.size) (w:=wx) (t:=40) (ty:=40) 9 _ 1 16 underlying40 Tryz.infoStringK rfl (by decide) d0c d0b (d3 _ hG) (FN _) (by rw[List.length_take];omega);refine BR rfl (BC d0a) (BC rfl) hrun ?_;exact HK.out _ _ (fun _=>r1) r2
         |6,_,_=>obtain rfl:=So_ ho;have d5:(a.tmps[56]?.getD undef)= .string s:=Ec Hd HL 5;have u7:=Cl HL 7;clear Hd Hb;refine Aa.of rfl ?_;go_simp;exact HK.out _ _ (fun _=>⟨_,rfl,heap_alloc_new _ _⟩) (AF _ _)
         |10,_,_=>obtain rfl:=So_ ho;have d8:(a.tmps[59]?.getD undef)= .slice (some ⟨b,off,none⟩) ss.length c:=Ec Hd HL 8;have d9:(a.tmps[60]?.getD undef)= .int .i64 k:=Ec Hd HL 9;have u11:=Cl HL 11;clear Hd Hb;refine Aa.of rfl ?_;go_simp;rw[show(if c=k then some (⟨b,off,none⟩:Addr) else some ⟨b,off+k,none⟩)=some ⟨b,if c=k then off else off+k,none⟩ by split<;>rfl];exact HK.out _ _ (fun W' hW=>Tc (HR.out W' (HB.out.trans (hW.mono HB.out.size))) rfl (by omega) b _ (fun h=>⟨rfl,if_neg (by omega)⟩)) (Below.refl _ _)
         |12,_,_=>obtain rfl:=So_ ho;have d11:AC wr.heap.size 9 1 Ag wx (a.tmps[62]?.getD undef) (Bb ss k s):=Ec Hd HL 11;have u7:ll 7=true:=HL.out.2.1 7 (by kernel_rfl);have u11:ll 11=true:=HL.out.2.1 11 (by kernel_rfl);clear Hd Hb;refine Aa.of rfl ?_;go_simp;exact HK.out _ _ d11 (Below.refl _ _)
        ·intro i hi hS o ho a wx Hb ll Hd HL hG K HK
         match i,hi,hS with
         |0,_,hs|1,_,hs|2,_,hs|3,_,hs|4,_,hs|5,_,hs|6,_,hs|8,_,hs|9,_,hs|10,_,hs|12,_,hs|13,_,hs=>exact absurd hs (by decide)
         |7,_,_=>
          obtain rfl:=So_ ho;have d4:(ll 7=false→AC wr.heap.size 9 1 Ag wx (a.tmps[55]?.getD undef) (ss.take k)):=Ec Hd HL 4;have d6:(ll 7=false→∃g,(a.tmps[57]?.getD undef)= .slice (some ⟨g,0,none⟩) 1 1∧wx.heap[g]? =some (.cells #[.string s] 9 (0,0))):=Ec Hd HL 6;have u11:=Cl HL 11;clear Hd Hb;refine Aa.of rfl ?_;have D4:=d4 HL.out.1;obtain⟨g6,e6,B6⟩:=d6 HL.out.1;obtain⟨v7,w4,hrun,r1,_,r3⟩:=G9 (lo:=wr.heap.size) (w:=wx) (t:=40) 40 9 _ 1 16 underlying40 Tryz.infoStringK rfl (by decide) D4 (Sb B6) (by simp[Value.oneCell']) (by rw[List.length_take];unfold maxLen;omega) (by rw[List.length_take];omega) hG.size;refine BR rfl (BC rfl) (BC e6) hrun ?_;have r1':AC wr.heap.size 9 1 Ag w4 v7 (ss.take k++[s]):=by unfold AC;rw[BN,Dn,List.length_append];exact r1
          exact HK.out _ _ (fun _=>r1') (hG.trans r3) (fun j hji hjn hjl hu=>match j,hjn with
           |1,_|2,_|3,_|5,_|8,_|9,_|10,_|13,_=>hu
           |0,_=>(fun h=>absurd ((EQ h).symm.trans (HL.out.2.1 4 (by kernel_rfl))) (by decide))
           |4,_=>(fun h=>absurd h (by rw[En];decide))
           |6,_=>(fun h=>absurd h (by rw[En];decide))
           |7,_=>absurd rfl hji
           |11,_=>absurd (u11.symm.trans hjl) (by decide)
           |12,_=>absurd (u11.symm.trans (HL.out.2.2 12 11 hjl (by kernel_rfl))) (by decide))
         |11,_,_=>
          obtain rfl:=So_ ho;have d7:(ll 11=false→AC wr.heap.size 9 1 Ag wx (a.tmps[58]?.getD undef) (ss.take k++[s])):=Ec Hd HL 7;have d10:(∀W',Below wr.heap.size wr W'→BG W' (a.tmps[61]?.getD undef) (ss.drop k)):=Ec Hd HL 10;have u7:ll 7=true:=HL.out.2.1 7 (by kernel_rfl);clear Hd Hb;refine Aa.of rfl ?_;have D7:=d7 HL.out.1;obtain⟨v7,w4,hrun,r1,_,r3⟩:=G9 (lo:=wr.heap.size) (w:=wx) (t:=40) 40 9 _ 1 16 underlying40 Tryz.infoStringK rfl (by decide) D7 (d10 _ hG) (FN _) (by simp only[List.length_append,List.length_take,List.length_drop];unfold maxLen;simp;omega) (by simp only[List.length_append,List.length_take,List.length_drop];simp;omega) hG.size;refine BR rfl (BC rfl) (BC rfl) hrun ?_;have r1':AC wr.heap.size 9 1 Ag w4 v7 (Bb ss k s):=by unfold AC;rw[LJ,BN,List.length_append];exact r1
          exact HK.out _ _ r1' (hG.trans r3) (fun j hji hjn hjl hu=>match j,hjn with
           |1,_|2,_|3,_|5,_|8,_|9,_|10,_|13,_=>hu
           |0,_=>(fun h=>absurd ((EQ h).symm.trans (HL.out.2.2 7 4 u7 (by kernel_rfl))) (by decide))
           |4,_=>(fun h=>absurd ((EQ h).symm.trans (u7)) (by decide))
           |6,_=>(fun h=>absurd ((EQ h).symm.trans (u7)) (by decide))
           |7,_=>(fun h=>absurd h (by rw[En];decide))
           |11,_=>absurd rfl hji
           |12,_=>absurd (HL.out.1.symm.trans (HL.out.2.2 12 11 hjl (by kernel_rfl))) (by decide))
        ·intro vs wx ll hall hR hG
         have q12:AC wr.heap.size 9 1 Ag wx (vs 12) (Bb ss k s):=BT hR 12;have q13:(vs 13)= .bool true:=BT hR 13;clear hR;simp only[DS,BW,List.range,List.range.loop,List.foldl_cons,List.foldl_nil,q13];simp;generalize vs 12=z12 at q12 ⊢;clear q13;have HO:=AA q12;have hbx:=AA (HB.out.trans (hG.mono HB.out.size));go_wp2_with fail;go_ret2;exact⟨_,by rw[P.out];rfl,by rw[P.out];exact HO.out.lower HB.out.size,hbx.out⟩
     ·have Ht:=AA (show KA (Bi ss k) s=true from ht)
      go_wp2_with fail;go_roundw
      case rel=>exact⟨k+1,by omega,by go_num,BK Hpre.out Ht.out,hb⟩
      case measure=>simp[intOf];omega
    ·obtain rfl:k=ss.length:=by omega
     have ECut:=AA (show Kx ss s=ss.length from Of hk Hpre.out (fun h=>absurd h (by omega)));have HP2:=AA (show GR ss s=if ss.length=6 then(ss,false) else(Bb ss ss.length s,true) by rw[HP.out,ECut.out,if_neg (by simp)]);clear HP
     by_cases h6:ss.length=6
     ·have P:=AA (show GR ss s=(ss,false) by rw[HP2.out,if_pos h6])
      have h6i:(6:Int)≤(ss.length:Int):=by omega
      clear h6;go_wp2_with (at_builtin;go_must (refine EZ (cs:=Ag) rfl rfl 9 (.string ⟨#[]⟩) 1 16 underlying40 Tryz.infoStringK rfl (by decide) rfl (Bw Ag _ _ _) rfl (HR.out _ (HB.out.trans ((AF _ _).mono HB.out.size))) (FN _) (by omega) (by decide) (by simp) ?_;intro v' w9 hO hb9));have HO:=AA hO;obtain⟨a9,c9,e9,_,_⟩:=hO.rd.shape;generalize List.length _=n9 at e9;subst e9;have hbx:=AA ((HB.out.trans ((AF _ _).mono HB.out.size)).trans (hb9.mono HB.out.size));clear hO hb9;go_wp2_with fail;go_ret2;exact⟨_,by rw[P.out];rfl,by rw[P.out];exact HO.out.lower HB.out.size,hbx.out⟩
     ·have P:=AA (show GR ss s=(Bb ss ss.length s,true) by rw[HP2.out,if_neg h6])
      have h6i:¬(6:Int)≤(ss.length:Int):=by omega
      have hkc:ss.length≤c:=by omega
      clear h6;go_wp2_with fail;refine Cz 14 63 (fun ix=>ix==7||ix==11) [.z, .v (.slice pa ss.length c), .i ((ss.length:Int)), .z, .z, .t s, .z, .z, .v (.slice pa ss.length c), .i ((ss.length:Int)), .z, .z, .z, .b true] (fun ll ix vv ww=>match ix with
       |0=>(ll 4=false→Im wr.heap.size 9 ww vv)
       |3=>(∀W',Below wr.heap.size wr W'→BG W' vv (ss.take ss.length))
       |4=>(ll 7=false→AC wr.heap.size 9 1 Ag ww vv (ss.take ss.length))
       |6=>(ll 7=false→∃g,vv= .slice (some ⟨g,0,none⟩) 1 1∧ww.heap[g]? =some (.cells #[.string s] 9 (0,0)))
       |7=>(ll 11=false→AC wr.heap.size 9 1 Ag ww vv (ss.take ss.length++[s]))
       |10=>(∀W',Below wr.heap.size wr W'→BG W' vv (ss.drop ss.length))
       |11=>AC wr.heap.size 9 1 Ag ww vv (Bb ss ss.length s)
       |12=>AC wr.heap.size 9 1 Ag ww vv (Bb ss ss.length s)
       |_=>True) (fun ll ww=>Below wr.heap.size wr ww) ?_ ?_ ?_ ?_ ?_ ?_
      ·exact Ao (Below.refl _ _) 1
      ·intro j hj ll i vv wz ww' hi hS hLi hLj hbz hz
       match j,hj with
       |0,_=>exact(fun hL=>Im.below (hz (EQ hL)) hbz)
       |3,_=>exact hz
       |4,_=>exact(fun hL=>AC.below (hz (EQ hL)) hbz)
       |6,_=>exact(fun hL=>by obtain⟨g,h0,h1⟩:=hz (EQ hL);exact⟨g,h0,AG h1 hbz⟩)
       |7,_=>exact(fun hL=>AC.below (hz (EQ hL)) hbz)
       |10,_=>exact hz
       |11,_=>exact(AC.below hz hbz)
       |12,_=>exact(AC.below hz hbz)
       |1,_|2,_|5,_|8,_|9,_|13,_=>exact hz
      ·intro ll i wz ww' hi hS hLi hbz hg
       exact hg.trans (hbz.mono hg.size)
      ·intro i hi hS o ho a wx Hb ll Hd HL hG K HK
       match i,hi,hS with
       |1,_,_|2,_,_|5,_,_|8,_,_|9,_,_|13,_,_=>exact Tk ho HK Hb Hd HL
       |7,_,hs|11,_,hs=>exact absurd hs (by decide)
       |0,_,_=>obtain rfl:=So_ ho;clear Hd Hb;refine Aa.of rfl ?_;go_simp;exact HK.out _ _ (fun _=>⟨_,rfl,hG.size,heap_alloc_new _ _⟩) (AF _ _)
       |3,_,_=>obtain rfl:=So_ ho;have d1:(a.tmps[52]?.getD undef)= .slice pa ss.length c:=Ec Hd HL 1;have d2:(a.tmps[53]?.getD undef)= .int .i64 ((ss.length:Int)):=Ec Hd HL 2;clear Hd Hb;refine Aa.of rfl ?_;go_simp;exact HK.out _ _ (fun W' hW=>OI (HR.out W' (HB.out.trans (hW.mono HB.out.size))) rfl (by omega)) (Below.refl _ _)
       |4,_,_=>obtain rfl:=So_ ho;have d0:(ll 4=false→Im wr.heap.size 9 wx (a.tmps[51]?.getD undef)):=Ec Hd HL 0;have d3:(∀W',Below wr.heap.size wr W'→BG W' (a.tmps[54]?.getD undef) (ss.take ss.length)):=Ec Hd HL 3;have u7:=Cl HL 7;clear Hd Hb;refine Aa.of rfl ?_;obtain⟨g_,d0a,d0b,d0c⟩:=d0 HL.out.1;obtain⟨v7,w4,hrun,r1,r2,_⟩:=Cn (lo:=wr.heap.size) (w:=wx) (t:=40) (ty:=40) 9 _ 1 16 underlying40 Tryz.infoStringK rfl (by decide) d0c d0b (d3 _ hG) (FN _) (by rw[List.length_take];omega);refine BR rfl (BC d0a) (BC rfl) hrun ?_;exact HK.out _ _ (fun _=>r1) r2
       |6,_,_=>obtain rfl:=So_ ho;have d5:(a.tmps[56]?.getD undef)= .string s:=Ec Hd HL 5;have u7:=Cl HL 7;clear Hd Hb;refine Aa.of rfl ?_;go_simp;exact HK.out _ _ (fun _=>⟨_,rfl,heap_alloc_new _ _⟩) (AF _ _)
       |10,_,_=>
        obtain rfl:=So_ ho;have d8:(a.tmps[59]?.getD undef)= .slice pa ss.length c:=Ec Hd HL 8;have d9:(a.tmps[60]?.getD undef)= .int .i64 ((ss.length:Int)):=Ec Hd HL 9;have u11:=Cl HL 11;clear Hd Hb;refine Aa.of rfl ?_;go_simp
        rcases pa with _|ad
        ·go_simp
         exact HK.out _ _ (fun W' hW=>Qd (HR.out W' (HB.out.trans (hW.mono HB.out.size))) none (fun _=>rfl)) (Below.refl _ _)
        ·go_simp
         exact HK.out _ _ (fun W' hW=>Qd (HR.out W' (HB.out.trans (hW.mono HB.out.size))) _ (fun h=>by split at h<;>cases h)) (Below.refl _ _)
       |12,_,_=>obtain rfl:=So_ ho;have d11:AC wr.heap.size 9 1 Ag wx (a.tmps[62]?.getD undef) (Bb ss ss.length s):=Ec Hd HL 11;have u7:ll 7=true:=HL.out.2.1 7 (by kernel_rfl);have u11:ll 11=true:=HL.out.2.1 11 (by kernel_rfl);clear Hd Hb;refine Aa.of rfl ?_;go_simp;exact HK.out _ _ d11 (Below.refl _ _)
      ·intro i hi hS o ho a wx Hb ll Hd HL hG K HK
       match i,hi,hS with
       |0,_,hs|1,_,hs|2,_,hs|3,_,hs|4,_,hs|5,_,hs|6,_,hs|8,_,hs|9,_,hs|10,_,hs|12,_,hs|13,_,hs=>exact absurd hs (by decide)
       |7,_,_=>
        obtain rfl:=So_ ho;have d4:(ll 7=false→AC wr.heap.size 9 1 Ag wx (a.tmps[55]?.getD undef) (ss.take ss.length)):=Ec Hd HL 4;have d6:(ll 7=false→∃g,(a.tmps[57]?.getD undef)= .slice (some ⟨g,0,none⟩) 1 1∧wx.heap[g]? =some (.cells #[.string s] 9 (0,0))):=Ec Hd HL 6;have u11:=Cl HL 11;clear Hd Hb;refine Aa.of rfl ?_;have D4:=d4 HL.out.1;obtain⟨g6,e6,B6⟩:=d6 HL.out.1;obtain⟨v7,w4,hrun,r1,_,r3⟩:=G9 (lo:=wr.heap.size) (w:=wx) (t:=40) 40 9 _ 1 16 underlying40 Tryz.infoStringK rfl (by decide) D4 (Sb B6) (by simp[Value.oneCell']) (by rw[List.length_take];unfold maxLen;omega) (by rw[List.length_take];omega) hG.size;refine BR rfl (BC rfl) (BC e6) hrun ?_;have r1':AC wr.heap.size 9 1 Ag w4 v7 (ss.take ss.length++[s]):=by unfold AC;rw[BN,Dn,List.length_append];exact r1
        exact HK.out _ _ (fun _=>r1') (hG.trans r3) (fun j hji hjn hjl hu=>match j,hjn with
         |1,_|2,_|3,_|5,_|8,_|9,_|10,_|13,_=>hu
         |0,_=>(fun h=>absurd ((EQ h).symm.trans (HL.out.2.1 4 (by kernel_rfl))) (by decide))
         |4,_=>(fun h=>absurd h (by rw[En];decide))
         |6,_=>(fun h=>absurd h (by rw[En];decide))
         |7,_=>absurd rfl hji
         |11,_=>absurd (u11.symm.trans hjl) (by decide)
         |12,_=>absurd (u11.symm.trans (HL.out.2.2 12 11 hjl (by kernel_rfl))) (by decide))
       |11,_,_=>
        obtain rfl:=So_ ho;have d7:(ll 11=false→AC wr.heap.size 9 1 Ag wx (a.tmps[58]?.getD undef) (ss.take ss.length++[s])):=Ec Hd HL 7;have d10:(∀W',Below wr.heap.size wr W'→BG W' (a.tmps[61]?.getD undef) (ss.drop ss.length)):=Ec Hd HL 10;have u7:ll 7=true:=HL.out.2.1 7 (by kernel_rfl);clear Hd Hb;refine Aa.of rfl ?_;have D7:=d7 HL.out.1;obtain⟨v7,w4,hrun,r1,_,r3⟩:=G9 (lo:=wr.heap.size) (w:=wx) (t:=40) 40 9 _ 1 16 underlying40 Tryz.infoStringK rfl (by decide) D7 (d10 _ hG) (FN _) (by simp only[List.length_append,List.length_take,List.length_drop];unfold maxLen;simp;omega) (by simp only[List.length_append,List.length_take,List.length_drop];simp;omega) hG.size;refine BR rfl (BC rfl) (BC rfl) hrun ?_;have r1':AC wr.heap.size 9 1 Ag w4 v7 (Bb ss ss.length s):=by unfold AC;rw[LJ,BN,List.length_append];exact r1
        exact HK.out _ _ r1' (hG.trans r3) (fun j hji hjn hjl hu=>match j,hjn with
         |1,_|2,_|3,_|5,_|8,_|9,_|10,_|13,_=>hu
         |0,_=>(fun h=>absurd ((EQ h).symm.trans (HL.out.2.2 7 4 u7 (by kernel_rfl))) (by decide))
         |4,_=>(fun h=>absurd ((EQ h).symm.trans (u7)) (by decide))
         |6,_=>(fun h=>absurd ((EQ h).symm.trans (u7)) (by decide))
         |7,_=>(fun h=>absurd h (by rw[En];decide))
         |11,_=>absurd rfl hji
         |12,_=>absurd (HL.out.1.symm.trans (HL.out.2.2 12 11 hjl (by kernel_rfl))) (by decide))
      ·intro vs wx ll hall hR hG
       have q12:AC wr.heap.size 9 1 Ag wx (vs 12) (Bb ss ss.length s):=BT hR 12;have q13:(vs 13)= .bool true:=BT hR 13;clear hR;simp only[DS,BW,List.range,List.range.loop,List.foldl_cons,List.foldl_nil,q13];simp;generalize vs 12=z12 at q12 ⊢;clear q13;have HO:=AA q12;have hbx:=AA (HB.out.trans (hG.mono HB.out.size));go_wp2_with fail;go_ret2;exact⟨_,by rw[P.out];rfl,by rw[P.out];exact HO.out.lower HB.out.size,hbx.out⟩
theorem DW.rights {T:Nat} {cs:Array Value} {R:List Nat} {lo g b0:Nat} {w W W':World} {m i c:Value} {k:AH} {ge n cap:Nat} (h:DW T cs R lo g b0 w W m i (.slice (some ⟨ge,0,none⟩) n cap) c k) (hn:n=k.envs.length) (hb:Below W.heap.size W W') {j:Nat} (hj:j<k.envs.length) {u:Value} {ss:List ByteArray} (hu:AC W.heap.size 9 1 Ag W' u ss):
 DW T cs R lo g b0 w (W'.setCell ⟨ge,j*2,none⟩ u) m i (.slice (some ⟨ge,0,none⟩) n cap) c {k with envs:=AR k.envs j (A7 ss)}:=by
 have S:=h.ink.rights hn h.lo hb hj hu;have h':=h.below hb;obtain⟨ps,o⟩:=h'.ink.2.2.2.2.1;obtain⟨c2,h2⟩:=A8 o.1 ge rfl;exact⟨S.1,BD h'.blk S.2.1 (DY h2 h'.blk h.ty.2.2.1),AN h'.bel S.2.1 S.2.2 h'.lo,Nat.le_trans h'.lo S.2.1.size,h.ty,h'.kf.row S.2.1 h2 (by decide),fun b hr=>⟨(h.rs b hr).1,BD (h'.rs b hr).2 S.2.1 (DY h2 (h'.rs b hr).2 (by decide))⟩⟩
theorem Jn {lo:Nat} {mv iv ev cv:Value} {k:AH} {w:World} (h:Ct lo w mv iv ev cv k) (hlo:lo≤w.heap.size) (hk:DV k) (call:AM) (he:0≤call.e∧call.e<3) (h2:call.k=8∨call.k=9) (hnm:call.nm.size≤maxLen):
 Calls prog 76 #[.agg #[mv,iv,ev,cv], .agg call.cs] w (Fd lo w (AO k call)):=by
 have S0':=SC.start h hlo call;obtain⟨ge,cape,e9,_,_⟩:=S0'.envs (by rw[hk.envl];omega);rw[hk.envl] at e9;obtain⟨gi,capi,e8,_,_⟩:=S0'.infos (by rw[hk.len];omega);rw[hk.len] at e8;obtain⟨am,nm_,cm,ai,ni,ci,ae,ne_,ce,ac,nc,cc,em,ei,ee,ec⟩:=S0'.shapes;subst e8 e9 em ec;clear ei ee;have S0:=AA S0';obtain⟨kk,e,ra,b,c,nm⟩:=call;simp only at he h2 hnm;obtain⟨en,rfl⟩:∃n:Nat,e=(n:Int):=⟨e.toNat,by omega⟩
 have hen:en<3:=by omega
 have heni:(en:Int)<3:=by omega
 simp only[AM.cs] at S0 ⊢;have HK:=AA hk;have CR:=AA (fun W=>Ab (DN nm W hnm));have HN:=AA hnm;have CM:=AA (fun W (h:Ew W (.slice (some ⟨ge,0,none⟩) 3 cape) k.envs)=>Fq (.slice am nm_ cm) (.slice (some ⟨gi,0,none⟩) 12 capi) (.slice (some ⟨ge,0,none⟩) 3 cape) (.slice ac nc cc) k en nm W h hk hen hnm);obtain⟨x0,x1,x2,x3⟩:=S0.out.xs;obtain⟨y0,y1,y2,y3,y4,y5⟩:=S0.out.ys6;have HP:Hid (AO k ⟨kk,(en:Int),ra,b,c,nm⟩=if Bv ra 0 2=false∨Az nm=false∨(kk=9∧ra=(en:Int)) then(k,0,3)
  else if Cc (AD k.envs en).rights nm=false then(k,0,1)
  else if kk=8 then(if(A0 (AD k.envs ra.toNat).rights nm).2=false then(k,0,4) else({k with envs:=AR k.envs ra.toNat (A7 (A0 (AD k.envs ra.toNat).rights nm).1)},0,0))
  else(if At k.infos (A5 k.mem (AD k.envs ra.toNat).root) (A9 (AD k.envs ra.toNat).rights nm)=false then(k,0,2) else({k with envs:=AR k.envs ra.toNat (A7 (A9 (AD k.envs ra.toNat).rights nm))},0,0))):=by
  refine Lib.hid ?_
  rcases h2 with rfl|rfl
  ·rw[Pk rfl]
   unfold EL Ej;simp
  ·rw[Oe rfl]
   unfold DL Ej;simp only[Int.toNat_natCast]
   by_cases a1:Bv ra 0 2=false<;>by_cases a2:Az nm=false<;>by_cases a3:ra=(en:Int)<;>simp[a1,a2,a3]
 have H2:=AA h2;clear h S0' he hk h2 hnm;generalize hW0:((w.alloc _).alloc _).alloc _=W0 at*;cases e1:Bv ra 0 2
 ·have HP3:=AA (show AO k ⟨kk,(en:Int),ra,b,c,nm⟩=(k,0,3) by rw[HP.out,if_pos (.inl e1)])
  have E1:=AA e1;clear e1 HP;go_in;go_wp2_with fail;refine(Ab (IB _ _)).mono ?_;rintro r w1 ⟨rfl,hb1⟩;rw[E1.out];have S1:=AA (S0.out.below hb1);clear x0 x1 x2 x3 y0 y1 y2 y3 y4 y5 hb1 hW0;obtain⟨x0,x1,x2,x3⟩:=S1.out.xs;obtain⟨⟨z0,z1,z2,z3⟩,hfz⟩:=S1.out.zs;obtain⟨hB9,HR9⟩:=S1.out.bad (Nat.le_trans hlo (Nat.le_add_right _ _)) (Nat.le_add_right _ _) (v:=0) (code:=3) (HP3.out) (by decide);have HE:=AA (AB hB9);have HR:=AA HR9;clear hB9 HR9;go_wp2_with ((try simp only[Exit.inBlock,Exit.then]);with_reducible refine bodyPost_ret (v:= .tuple #[.agg #[_,_,_,_], .int .i64 (0), .int .i64 (3)]) ?_ rfl HR.out;obtain⟨E0,E1,E2,E3⟩:=HE.out;simp[results,Tryz.results76,go_sem,E0,E1,E2,E3])
 ·have E1:=AA e1
  have ab:=Ac.1 e1;obtain⟨an,rfl⟩:∃n:Nat,ra=(n:Int):=⟨ra.toNat,by omega⟩
  have han:an<3:=by omega
  have hani:(an:Int)<3:=by omega
  generalize hrv:Az nm=rv at CR;have HV:=AA hrv;clear e1 ab hrv;cases rv
  ·have HP3:=AA (show AO k ⟨kk,(en:Int),(an:Int),b,c,nm⟩=(k,0,3) by rw[HP.out,if_pos (.inr (.inl HV.out))])
   clear HP;go_in;go_wp2_with fail;refine(Ab (IB _ _)).mono ?_;rintro r w1 ⟨rfl,hb1⟩;rw[E1.out];have S1:=AA (S0.out.below hb1);clear x0 x1 x2 x3 y0 y1 y2 y3 y4 y5 hb1 hW0;obtain⟨y0,y1,y2,y3,y4,y5⟩:=S1.out.ys6;go_wp2_with fail;refine(CR.out _).mono ?_;rintro r w2 ⟨rfl,hb2⟩;have S2:=AA (S1.out.below hb2);clear y0 y1 y2 y3 y4 y5 hb2;obtain⟨x0,x1,x2,x3⟩:=S2.out.xs;obtain⟨⟨z0,z1,z2,z3⟩,hfz⟩:=S2.out.zs;obtain⟨hB9,HR9⟩:=S2.out.bad (Nat.le_trans hlo (Nat.le_add_right _ _)) (Nat.le_add_right _ _) (v:=0) (code:=3) (HP3.out) (by decide);have HE:=AA (AB hB9);have HR:=AA HR9;clear hB9 HR9;go_wp2_with ((try simp only[Exit.inBlock,Exit.then]);with_reducible refine bodyPost_ret (v:= .tuple #[.agg #[_,_,_,_], .int .i64 (0), .int .i64 (3)]) ?_ rfl HR.out;obtain⟨E0,E1,E2,E3⟩:=HE.out;simp[results,Tryz.results76,go_sem,E0,E1,E2,E3])
  ·rcases H2.out with rfl|rfl
   ·have HP2:=AA (show AO k ⟨8,(en:Int),(an:Int),b,c,nm⟩=if Cc (AD k.envs en).rights nm=false then(k,0,1) else if(A0 (AD k.envs an).rights nm).2=false then(k,0,4) else({k with envs:=AR k.envs an (A7 (A0 (AD k.envs an).rights nm).1)},0,0) by rw[HP.out,if_neg (by rintro(x|x|⟨x,_⟩);(· rw[E1.out] at x;cases x);(· rw[HV.out] at x;cases x);cases x)];rfl)
    clear HP;go_in;go_wp2_with fail;refine(Ab (IB _ _)).mono ?_;rintro r w1 ⟨rfl,hb1⟩;rw[E1.out];have S1:=AA (S0.out.below hb1);clear x0 x1 x2 x3 y0 y1 y2 y3 y4 y5 hb1 hW0;obtain⟨y0,y1,y2,y3,y4,y5⟩:=S1.out.ys6;go_wp2_with fail;refine(CR.out _).mono ?_;rintro r w2 ⟨rfl,hb2⟩;have S2:=AA (S1.out.below hb2);clear y0 y1 y2 y3 y4 y5 hb2;obtain⟨y0,y1,y2,y3,y4,y5⟩:=S2.out.ys6;obtain⟨x0,x1,x2,x3⟩:=S2.out.xs;generalize hmb:Cc (AD k.envs en).rights nm=mb at CM HP2;clear hmb;go_wp2_with fail;refine(CM.out _ S2.out.K.2.2.1).mono ?_;rintro r w4 ⟨rfl,hb4⟩;have S4:=AA (S2.out.below hb4);clear x0 x1 x2 x3 y0 y1 y2 y3 y4 y5 hb4 CM;cases mb
    ·have HP3:=AA (show AO k ⟨8,(en:Int),(an:Int),b,c,nm⟩=(k,0,1) by rw[HP2.out];rfl)
     obtain⟨x0,x1,x2,x3⟩:=S4.out.xs;obtain⟨⟨z0,z1,z2,z3⟩,hfz⟩:=S4.out.zs;obtain⟨hB9,HR9⟩:=S4.out.bad (Nat.le_trans hlo (Nat.le_add_right _ _)) (Nat.le_add_right _ _) (v:=0) (code:=1) (HP3.out) (by decide);have HE:=AA (AB hB9);have HR:=AA HR9;clear hB9 HR9;go_wp2_with ((try simp only[Exit.inBlock,Exit.then]);with_reducible refine bodyPost_ret (v:= .tuple #[.agg #[_,_,_,_], .int .i64 (0), .int .i64 (1)]) ?_ rfl HR.out;obtain⟨E0,E1,E2,E3⟩:=HE.out;simp[results,Tryz.results76,go_sem,E0,E1,E2,E3])
    ·skip
     obtain⟨x0,x1,x2,x3⟩:=S4.out.xs;obtain⟨y0,y1,y2,y3,y4,y5⟩:=S4.out.ys6;obtain⟨hlb,hlg,_,_⟩:=S4.out.lts;have hge:=S4.out.ge_lt;obtain⟨ua,uc,D0,D1,R⟩:=S4.out.env (j:=an) (by rw[HK.out.envl];exact han);have CP:=AA (fun W (hW:Below w4.heap.size w4 W)=>by have:=Mq _ (AD k.envs an).rights nm W (A6.below R hW) (FG HK.out han) HN.out;rw[show GR (AD k.envs an).rights nm=A0 (AD k.envs an).rights nm by unfold GR;rw[show Ax (AD k.envs an).rights=true from HK.out.rights an han,HV.out];rfl] at this;exact this);have HP3:=AA (show AO k ⟨8,(en:Int),(an:Int),b,c,nm⟩=if(A0 (AD k.envs an).rights nm).2=false then(k,0,4) else({k with envs:=AR k.envs an (A7 (A0 (AD k.envs an).rights nm).1)},0,0) by rw[HP2.out];rfl);generalize A0 (AD k.envs an).rights nm=res at CP HP3;clear R HP2;go_wp2_with fail;refine Am 14 102 [.p w.heap.size 2, .s ge 3 cape, .p (w.heap.size+1) 2, .i ((an:Int)), .p ge (an*2), .p ge (an*2), .v (.slice ua (AD k.envs an).rights.length uc), .p (w.heap.size+1) 5, .t nm, .z, .z, .z, .b (res.2), .z] (fun ix vv ww=>match ix with
      |9=>∃v',vv= .tuple #[v', .bool res.2]∧AC w4.heap.size 9 1 Ag ww v' res.1
      |10=>∃v',vv= .tuple #[v', .bool res.2]∧AC w4.heap.size 9 1 Ag ww v' res.1
      |11=>AC w4.heap.size 9 1 Ag ww vv res.1
      |13=>AC w4.heap.size 9 1 Ag ww vv res.1
      |_=>True) ?_ ?_ ?_
     ·intro i hi o ho a wx Hb Hd hG K HK
      have mc0:=bc hG hlg x2;have mc1:=bc hG hlb y2;have mc2:=bc hG hge D0;have mc3:=bc hG hlb y5
      match i,hi with
      |0,_|2,_|5,_|7,_=>exact sP ho HK Hb Hd
      |1,_=>exact sL ho HK Hb Hd (hl:=MX (by assumption))
      |3,_=>exact sL ho HK Hb Hd (hl:=Fg (by assumption))
      |4,_=>exact sI ho HK Hb Hd (hr:=by clear Hd Hb HK;go_simp)
      |6,_=>exact sL ho HK Hb Hd (hl:=K7 (by assumption))
      |8,_=>exact sL ho HK Hb Hd (hl:=UL (by assumption))
      |9,_=>exact sC ho HK Hb Hd (CP.out _ hG) (by rintro e w_ ⟨v',rfl,hO,hb2⟩;exact⟨_,rfl,⟨_,rfl,hO.lower hG.size⟩,hb2⟩)
      |10,_=>
       clear mc0 mc1 mc2 mc3;obtain rfl:=So_ ho;have d9:∃v',(a.tmps[54]?.getD undef)= .tuple #[v', .bool res.2]∧AC w4.heap.size 9 1 Ag wx v' res.1:=Bx Hd 9
       clear Hd Hb;refine Aa.of rfl ?_;go_simp;exact HK.out _ _ d9 (Below.refl _ _)
      |11,_=>
       clear mc0 mc1 mc2 mc3;obtain rfl:=So_ ho;have d10:∃v',(a.tmps[44]?.getD undef)= .tuple #[v', .bool res.2]∧AC w4.heap.size 9 1 Ag wx v' res.1:=Bx Hd 10
       clear Hd Hb;obtain⟨v',d10,hO⟩:=d10;refine Aa.of rfl ?_;go_simp;exact HK.out _ _ hO (Below.refl _ _)
      |12,_=>
       clear mc0 mc1 mc2 mc3;obtain rfl:=So_ ho;have d10:∃v',(a.tmps[44]?.getD undef)= .tuple #[v', .bool res.2]∧AC w4.heap.size 9 1 Ag wx v' res.1:=Bx Hd 10
       clear Hd Hb;obtain⟨v',d10,hO⟩:=d10;refine Aa.of rfl ?_;go_simp;exact HK.out _ _ rfl (Below.refl _ _)
      |13,_=>clear mc0 mc1 mc2 mc3;obtain rfl:=So_ ho;have d11:AC w4.heap.size 9 1 Ag wx (a.tmps[55]?.getD undef) res.1:=Bx Hd 11;clear Hd Hb;refine Aa.of rfl ?_;go_simp;exact HK.out _ _ d11 (Below.refl _ _)
     ·intro i hi vv wz ww' hbz hz
      match i,hi with
      |9,_=>exact(by obtain⟨v',h0,h1⟩:=hz;exact⟨v',h0,AC.below h1 hbz⟩)
      |10,_=>exact(by obtain⟨v',h0,h1⟩:=hz;exact⟨v',h0,AC.below h1 hbz⟩)
      |11,_=>exact(AC.below hz hbz)
      |13,_=>exact(AC.below hz hbz)
      |0,_|1,_|2,_|3,_|4,_|5,_|6,_|7,_|8,_|12,_=>exact hz
     ·intro vs wx hR hG
      have q12:(vs 12)= .bool (res.2):=BT hR 12;have q13:AC w4.heap.size 9 1 Ag wx (vs 13) res.1:=BT hR 13;clear hR;simp only[Ai,AQ,List.range,List.range.loop,List.foldl_cons,List.foldl_nil,q12];simp;generalize vs 13=z13 at q13 ⊢;clear q12;have S5:=AA (S4.out.below hG);have HO:=AA q13;have HbG:=AA hG;obtain⟨a9,c9,e9,_,_⟩:=q13.rd.shape;generalize List.length _=n9 at e9;subst e9;clear x0 x1 x2 x3 y0 y1 y2 y3 y4 y5 D0 D1 q13 hG;obtain⟨rs,rb⟩:=res;cases rb
      ·have HP4:=AA (show AO k ⟨8,(en:Int),(an:Int),b,c,nm⟩=(k,0,4) by rw[HP3.out];rfl)
       obtain⟨x0,x1,x2,x3⟩:=S5.out.xs;obtain⟨⟨z0,z1,z2,z3⟩,hfz⟩:=S5.out.zs;obtain⟨hB9,HR9⟩:=S5.out.bad (Nat.le_trans hlo (Nat.le_add_right _ _)) (Nat.le_add_right _ _) (v:=0) (code:=4) (HP4.out) (by decide);have HE:=AA (AB hB9);have HR:=AA HR9;clear hB9 HR9;go_wp2_with ((try simp only[Exit.inBlock,Exit.then]);with_reducible refine bodyPost_ret (v:= .tuple #[.agg #[_,_,_,_], .int .i64 (0), .int .i64 (4)]) ?_ rfl HR.out;obtain⟨E0,E1,E2,E3⟩:=HE.out;simp[results,Tryz.results76,go_sem,E0,E1,E2,E3])
      ·have HP4:=AA (show AO k ⟨8,(en:Int),(an:Int),b,c,nm⟩=({k with envs:=AR k.envs an (A7 rs)},0,0) by rw[HP3.out];rfl)
       have T:=AA (S4.out.rights HK.out.envl.symm HbG.out (j:=an) (by rw[HK.out.envl];exact han) HO.out);obtain⟨_,_,d0w,_,_⟩:=S5.out.env (j:=an) (by rw[HK.out.envl];exact han);have Fe:=S5.out.fze (an*2);have x2o:=S5.out.xs.2.2.1;obtain⟨_,_,yo,_⟩:=S5.out.ys6;generalize hW9:wx.setCell _ _=W9 at T;obtain⟨x0,x1,x2,x3⟩:=T.out.xs;obtain⟨⟨z0,z1,z2,z3⟩,hfz⟩:=T.out.zs;obtain⟨hB9,HR9⟩:=T.out.ret (Nat.le_trans hlo (Nat.le_add_right _ _)) (Nat.le_add_right _ _) (v:=0) (code:=0) (HP4.out);have HE:=AA (AB hB9);have HR:=AA HR9;clear hB9 HR9;go_wp2_with ((try simp only[Exit.inBlock,Exit.then]);with_reducible refine bodyPost_ret (v:= .tuple #[.agg #[_,_,_,_], .int .i64 (0), .int .i64 (0)]) ?_ rfl HR.out;obtain⟨E0,E1,E2,E3⟩:=HE.out;simp[results,Tryz.results76,go_sem,E0,E1,E2,E3])
   ·by_cases ee:an=en
    ·have HP3:=AA (show AO k ⟨9,(en:Int),(an:Int),b,c,nm⟩=(k,0,3) by rw[HP.out,if_pos (.inr (.inr ⟨rfl,by rw[ee]⟩))])
     have te:((an:Int)==(en:Int))=true:=by rw[ee];simp
     clear HP ee;go_in;go_wp2_with fail;refine(Ab (IB _ _)).mono ?_;rintro r w1 ⟨rfl,hb1⟩;rw[E1.out];have S1:=AA (S0.out.below hb1);clear x0 x1 x2 x3 y0 y1 y2 y3 y4 y5 hb1 hW0;obtain⟨y0,y1,y2,y3,y4,y5⟩:=S1.out.ys6;go_wp2_with fail;refine(CR.out _).mono ?_;rintro r w2 ⟨rfl,hb2⟩;have S2:=AA (S1.out.below hb2);clear y0 y1 y2 y3 y4 y5 hb2;obtain⟨y0,y1,y2,y3,y4,y5⟩:=S2.out.ys6;obtain⟨x0,x1,x2,x3⟩:=S2.out.xs;obtain⟨⟨z0,z1,z2,z3⟩,hfz⟩:=S2.out.zs;obtain⟨hB9,HR9⟩:=S2.out.bad (Nat.le_trans hlo (Nat.le_add_right _ _)) (Nat.le_add_right _ _) (v:=0) (code:=3) (HP3.out) (by decide);have HE:=AA (AB hB9);have HR:=AA HR9;clear hB9 HR9;go_wp2_with ((try simp only[Exit.inBlock,Exit.then]);with_reducible refine bodyPost_ret (v:= .tuple #[.agg #[_,_,_,_], .int .i64 (0), .int .i64 (3)]) ?_ rfl HR.out;obtain⟨E0,E1,E2,E3⟩:=HE.out;simp[results,Tryz.results76,go_sem,E0,E1,E2,E3])
    ·have HP2:=AA (show AO k ⟨9,(en:Int),(an:Int),b,c,nm⟩=if Cc (AD k.envs en).rights nm=false then(k,0,1) else if At k.infos (A5 k.mem (AD k.envs an).root) (A9 (AD k.envs an).rights nm)=false then(k,0,2) else({k with envs:=AR k.envs an (A7 (A9 (AD k.envs an).rights nm))},0,0) by rw[HP.out,if_neg (by rintro(x|x|⟨_,x⟩);(· rw[E1.out] at x;cases x);(· rw[HV.out] at x;cases x);exact ee (by omega))];rfl)
     have te:((an:Int)==(en:Int))=false:=by simp;omega
     clear HP ee;go_in;go_wp2_with fail;refine(Ab (IB _ _)).mono ?_;rintro r w1 ⟨rfl,hb1⟩;rw[E1.out];have S1:=AA (S0.out.below hb1);clear x0 x1 x2 x3 y0 y1 y2 y3 y4 y5 hb1 hW0;obtain⟨y0,y1,y2,y3,y4,y5⟩:=S1.out.ys6;go_wp2_with fail;refine(CR.out _).mono ?_;rintro r w2 ⟨rfl,hb2⟩;have S2:=AA (S1.out.below hb2);clear y0 y1 y2 y3 y4 y5 hb2;obtain⟨y0,y1,y2,y3,y4,y5⟩:=S2.out.ys6;obtain⟨x0,x1,x2,x3⟩:=S2.out.xs;generalize hmb:Cc (AD k.envs en).rights nm=mb at CM HP2;clear hmb;go_wp2_with fail;refine(CM.out _ S2.out.K.2.2.1).mono ?_;rintro r w4 ⟨rfl,hb4⟩;have S4:=AA (S2.out.below hb4);clear x0 x1 x2 x3 y0 y1 y2 y3 y4 y5 hb4 CM;cases mb
     ·have HP3:=AA (show AO k ⟨9,(en:Int),(an:Int),b,c,nm⟩=(k,0,1) by rw[HP2.out];rfl)
      obtain⟨x0,x1,x2,x3⟩:=S4.out.xs;obtain⟨⟨z0,z1,z2,z3⟩,hfz⟩:=S4.out.zs;obtain⟨hB9,HR9⟩:=S4.out.bad (Nat.le_trans hlo (Nat.le_add_right _ _)) (Nat.le_add_right _ _) (v:=0) (code:=1) (HP3.out) (by decide);have HE:=AA (AB hB9);have HR:=AA HR9;clear hB9 HR9;go_wp2_with ((try simp only[Exit.inBlock,Exit.then]);with_reducible refine bodyPost_ret (v:= .tuple #[.agg #[_,_,_,_], .int .i64 (0), .int .i64 (1)]) ?_ rfl HR.out;obtain⟨E0,E1,E2,E3⟩:=HE.out;simp[results,Tryz.results76,go_sem,E0,E1,E2,E3])
     ·skip
      obtain⟨x0,x1,x2,x3⟩:=S4.out.xs;obtain⟨y0,y1,y2,y3,y4,y5⟩:=S4.out.ys6;obtain⟨hlb,hlg,_,_⟩:=S4.out.lts;have hge:=S4.out.ge_lt;obtain⟨ua,uc,D0,D1,R⟩:=S4.out.env (j:=an) (by rw[HK.out.envl];exact han);have hsr:=FG HK.out han;have CD:=AA (fun W (hW:Below w4.heap.size w4 W)=>QA _ (AD k.envs an).rights nm W (A6.below R hW) hsr HN.out (by have:(AD k.envs an).rights.length≤6:=(Dp.1 (HK.out.rights an han)).2.2;omega));have HP3:=AA (show AO k ⟨9,(en:Int),(an:Int),b,c,nm⟩=if At k.infos (A5 k.mem (AD k.envs an).root) (A9 (AD k.envs an).rights nm)=false then(k,0,2) else({k with envs:=AR k.envs an (A7 (A9 (AD k.envs an).rights nm))},0,0) by rw[HP2.out];rfl);have hsd:Dr (A9 (AD k.envs an).rights nm):=fun s hs=>hsr s (List.mem_filter.1 hs).1
      generalize A9 (AD k.envs an).rights nm=rs at CD HP3 hsd;have Hsd:=AA hsd;clear R HP2 hsr hsd;go_wp2_with fail;refine Al 9 102 [.p w.heap.size 2, .s ge 3 cape, .p (w.heap.size+1) 2, .i ((an:Int)), .p ge (an*2), .p ge (an*2), .v (.slice ua (AD k.envs an).rights.length uc), .p (w.heap.size+1) 5, .t nm] (fun _ _ _=>True) ?_ ?_
      ·intro i hi o ho a wx Hb Hd hG K HK
       have mc0:=bc hG hlg x2;have mc1:=bc hG hlb y2;have mc2:=bc hG hge D0;have mc3:=bc hG hlb y5
       match i,hi with
       |0,_|2,_|5,_|7,_=>exact sP ho HK Hb Hd
       |1,_=>exact sL ho HK Hb Hd (hl:=MX (by assumption))
       |3,_=>exact sL ho HK Hb Hd (hl:=Fg (by assumption))
       |4,_=>exact sI ho HK Hb Hd (hr:=by clear Hd Hb HK;go_simp)
       |6,_=>exact sL ho HK Hb Hd (hl:=K7 (by assumption))
       |8,_=>exact sL ho HK Hb Hd (hl:=UL (by assumption))
      ·intro vs wx hR hG
       have q6:(vs 6)= .slice ua (AD k.envs an).rights.length uc:=BT hR 6;have q8:(vs 8)= .string nm:=BT hR 8;clear hR;simp only[Ai,AQ,List.range,List.range.loop,List.foldl_cons,List.foldl_nil,q6,q8];simp;clear q6 q8;have HbG:=AA hG;clear x0 x1 x2 x3 y0 y1 y2 y3 y4 y5 D0 D1 hG hlb hlg hge;go_wp2_with fail;refine(CD.out _ HbG.out).mono ?_;rintro r w5 ⟨v',rfl,hO,hb5⟩;have Hb5:=AA (HbG.out.trans (hb5.mono HbG.out.size));have S5:=AA (S4.out.below Hb5.out);have HO:=AA (hO.lower HbG.out.size);obtain⟨a9,c9,e9,_,_⟩:=hO.rd.shape;have HRd:=AA hO.rd;generalize List.length _=n9 at e9;subst e9;clear hO hb5 CD;obtain⟨x0,x1,x2,x3⟩:=S5.out.xs;obtain⟨y0,y1,y2,y3,y4,y5⟩:=S5.out.ys6;obtain⟨hlb,hlg,_,_⟩:=S5.out.lts;have hge:=S5.out.ge_lt;obtain⟨_,_,D0,D1,_⟩:=S5.out.env (j:=an) (by rw[HK.out.envl];exact han);have hr12:(AD k.envs an).root<12:=by have:=root_lt HK.out han;omega
       have RM:=S5.out.K.1;have RI:=S5.out.K.2.1;have CX:=AA (fun W (hW:Below w5.heap.size w5 W)=>IW _ k.mem (AD k.envs an).root W (RM.below hW) (AT HK.out).1 hr12);have CA:=AA (fun W (hW:Below w5.heap.size w5 W) v2 (h2:Ap W v2 (Ah (EP k.mem (AD k.envs an).root)))=>by have:=FU _ v2 _ k.infos (EP k.mem (AD k.envs an).root) rs W (A6.below RI hW) h2 (A6.below HRd.out hW) (fun f hf=>by have:=reach_lt hr12 f ((Fu hr12 f).1 hf);have:=HK.out.len;omega) (Be (AT HK.out).2.1) Hsd.out;rw[ED (Fu hr12)] at this;exact this);generalize hbb:At k.infos (A5 k.mem (AD k.envs an).root) rs=bb at CA HP3;clear hbb RM RI hr12;go_wp2_with fail;refine Am 13 102 [.p w.heap.size 1, .s gi 12 capi, .p w.heap.size 0, .v (.slice am nm_ cm), .p w.heap.size 2, .s ge 3 cape, .p (w.heap.size+1) 2, .i ((an:Int)), .p ge (an*2), .p ge (an*2+1), .i ((AD k.envs an).root), .z, .v (.slice a9 n9 c9)] (fun ix vv ww=>match ix with
        |11=>AE w5.heap.size ww vv (Ah (EP k.mem (AD k.envs an).root))
        |_=>True) ?_ ?_ ?_
       ·intro i hi o ho a wx Hb Hd hG K HK
        have mc0:=bc hG hlg x1;have mc1:=bc hG hlg x0;have mc2:=bc hG hlg x2;have mc3:=bc hG hlb y2;have mc4:=bc hG hge D1
        match i,hi with
        |0,_|2,_|4,_|6,_|9,_|12,_=>exact sP ho HK Hb Hd
        |1,_=>exact sL ho HK Hb Hd (hl:=GX (by assumption))
        |3,_=>exact sL ho HK Hb Hd (hl:=Ff (by assumption))
        |5,_=>exact sL ho HK Hb Hd (hl:=MX (by assumption))
        |7,_|10,_=>exact sL ho HK Hb Hd (hl:=Fg (by assumption))
        |8,_=>exact sI ho HK Hb Hd (hr:=by clear Hd Hb HK;go_simp)
        |11,_=>exact sC ho HK Hb Hd (CX.out _ hG) (by rintro e w_ ⟨v9,rfl,hO,hb2⟩;exact⟨_,rfl,(Bd hO hG.size),hb2⟩)
       ·intro i hi vv wz ww' hbz hz
        match i,hi with
        |11,_=>exact(AE.below hz hbz)
        |0,_|1,_|2,_|3,_|4,_|5,_|6,_|7,_|8,_|9,_|10,_|12,_=>exact hz
       ·intro vs wx hR hG
        have q1:(vs 1)= .slice (some ⟨gi,0,none⟩) 12 capi:=BT hR 1;have q11:AE w5.heap.size wx (vs 11) (Ah (EP k.mem (AD k.envs an).root)):=BT hR 11;have q12:(vs 12)= .slice a9 n9 c9:=BT hR 12;clear hR;simp only[Ai,AQ,List.range,List.range.loop,List.foldl_cons,List.foldl_nil,q1,q12];simp;generalize vs 11=z11 at q11 ⊢;clear q1 q12;have HQ:=AA q11.rd;obtain⟨a8,c8,e8,_⟩:=q11.rd.open;generalize List.length _=n8 at e8;subst e8;have HbH:=AA hG;clear x0 x1 x2 x3 y0 y1 y2 y3 y4 y5 D0 D1 hG hlb hlg hge q11;go_wp2_with fail;refine(CA.out _ HbH.out _ HQ.out).mono ?_;rintro r w7 ⟨rfl,hb7⟩;have Hb7:=AA ((Hb5.out.trans (HbH.out.mono Hb5.out.size)).trans (hb7.mono (Nat.le_trans Hb5.out.size HbH.out.size)));have S7:=AA (S4.out.below Hb7.out);have HO7:=AA (AC.below (AC.below HO.out HbH.out) hb7);clear hb7 CA HQ;cases bb
        ·have HP4:=AA (show AO k ⟨9,(en:Int),(an:Int),b,c,nm⟩=(k,0,2) by rw[HP3.out];rfl)
         obtain⟨x0,x1,x2,x3⟩:=S7.out.xs;obtain⟨⟨z0,z1,z2,z3⟩,hfz⟩:=S7.out.zs;obtain⟨hB9,HR9⟩:=S7.out.bad (Nat.le_trans hlo (Nat.le_add_right _ _)) (Nat.le_add_right _ _) (v:=0) (code:=2) (HP4.out) (by decide);have HE:=AA (AB hB9);have HR:=AA HR9;clear hB9 HR9;go_wp2_with ((try simp only[Exit.inBlock,Exit.then]);with_reducible refine bodyPost_ret (v:= .tuple #[.agg #[_,_,_,_], .int .i64 (0), .int .i64 (2)]) ?_ rfl HR.out;obtain⟨E0,E1,E2,E3⟩:=HE.out;simp[results,Tryz.results76,go_sem,E0,E1,E2,E3])
        ·have HP4:=AA (show AO k ⟨9,(en:Int),(an:Int),b,c,nm⟩=({k with envs:=AR k.envs an (A7 rs)},0,0) by rw[HP3.out];rfl)
         have T:=AA (S4.out.rights HK.out.envl.symm Hb7.out (j:=an) (by rw[HK.out.envl];exact han) HO7.out);obtain⟨_,_,d0w,_,_⟩:=S7.out.env (j:=an) (by rw[HK.out.envl];exact han);have Fe:=S7.out.fze (an*2);have x2o:=S7.out.xs.2.2.1;obtain⟨_,_,yo,_⟩:=S7.out.ys6;generalize hW9:w7.setCell _ _=W9 at T;obtain⟨x0,x1,x2,x3⟩:=T.out.xs;obtain⟨⟨z0,z1,z2,z3⟩,hfz⟩:=T.out.zs;obtain⟨hB9,HR9⟩:=T.out.ret (Nat.le_trans hlo (Nat.le_add_right _ _)) (Nat.le_add_right _ _) (v:=0) (code:=0) (HP4.out);have HE:=AA (AB hB9);have HR:=AA HR9;clear hB9 HR9;go_wp2_with ((try simp only[Exit.inBlock,Exit.then]);with_reducible refine bodyPost_ret (v:= .tuple #[.agg #[_,_,_,_], .int .i64 (0), .int .i64 (0)]) ?_ rfl HR.out;obtain⟨E0,E1,E2,E3⟩:=HE.out;simp[results,Tryz.results76,go_sem,E0,E1,E2,E3])
end Go.Proofs.YteocokgpmgfbaaaGreatDoor
