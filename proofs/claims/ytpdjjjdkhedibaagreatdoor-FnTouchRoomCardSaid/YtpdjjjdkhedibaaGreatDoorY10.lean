/-
  Packed:7 texts.
-/
import Derived.Test.YtpdjjjdkhedibaaGreatDoorY1
import Derived.Test.YtpdjjjdkhedibaaGreatDoorY8
import Derived.Test.YtpdjjjdkhedibaaGreatDoorY9
import Derived.Deep.DeepCutAuto
import Derived.Test.YtpdjjjdkhedibaaGreatDoorY5
import Derived.Deep.CutBlock
set_option linter.unusedVariables false
set_option linter.unusedSimpArgs false
set_option maxHeartbeats 16000000
set_option maxRecDepth 100000
open Go Go.Proofs.YtpdjjjdkhedibaaGreatDoor
open And renaming intro->xZ
open Bool renaming and_eq_true->yp,or_eq_true->xl
open Go.Exit renaming inBlock->xQ
open Go.IntWalk renaming i64_in->xy
open Go.Proofs.Tryz renaming results122->sQ,results175->vR,results177->wG,results178->vS
open Go.RowKit.Below renaming refl->yD
open Go.Value renaming int->yf,oneCell'->xD
open Go.World renaming block_lt_of_cell?->yA
open Go renaming bodyPost_ret->yk,heap_alloc_new->yv
open Int renaming toNat_natCast->yb
open List renaming foldl_cons->yy,foldl_nil->yw,length->wX,length_append->yj,length_drop->wH,length_take->xT,mem_of_getElem?->ye,mem_singleton->xx,range->yC
open List.range renaming loop->yz
open Nat renaming le_add_right->wI,le_refl->yt,le_trans->yB,zero_le->yh
variable {k:AN} {w w':World} {g lo:Nat} {x y:Int} {c cv ev i iv m mv v:Value}
namespace Go.Proofs.YtpdjjjdkhedibaaGreatDoor
open Go.Proofs.Tryz
open Go.RowKit
theorem Zc{ss:List ByteArray}{s:ByteArray}(h1:BQ ss=true)(h2:BP s=true):Gn ss s=if(decide (Nk ss s<ss.length)&&decide (Db ss (Nk ss s)=s))=true then(ss,true) else if ss.length=6 then(ss,false) else(D5 ss (Nk ss s) s,true):=by
 unfold Gn;rw[h1,h2,<-Zf h1]
 show Cm ss s=_
 unfold Cm;rw[YN];rfl
theorem OJ{ss:List ByteArray}{k:Nat}{s:ByteArray}:D5 ss k s=(ss.take k++[s])++ss.drop k:=by simp[D5]
theorem Mz{T:Nat}{x:Value}(h:w.heap[g]?=some (.cells #[x] T (0,0))):Rd w (.slice (some ⟨g,0,none⟩) 1 1) 1 1 [x]:=by
 have h0:=cell_of_row _ _ 0 _ _ _ h;refine⟨_,_,rfl,yt _,by simp[maxLen],rfl,nofun,λ_=>⟨g,0,rfl,λj hj=>?_⟩⟩;rw[Nat.zero_add]
 match j,hj with
 |0,_=>exact h0
 |_+1,hj=>exact absurd hj (by omega)
theorem U3{a:Option Addr}{c:Nat}{ss:List ByteArray}(h:BR w (.slice a ss.length c) ss)(a':Option Addr)(ha:a'=none->a=none):BR w (.slice a' 0 (c - ss.length)) (ss.drop ss.length):=by
 obtain⟨ao,c',hv,gV,fm,hl,ez,hc⟩:=h;simp only[Value.slice.injEq] at hv;obtain⟨rfl,_,rfl⟩:=hv;rw[List.drop_length];exact⟨_,_,rfl,yh _,by omega,rfl,λh=>by have:=ez (ha h);omega,λh=>absurd h (Nat.lt_irrefl 0)⟩
theorem LU(v:Value)(ss:List ByteArray)(s:ByteArray)(w:World)(h:BR w v ss)(hs:DQ ss)(hz:s.size<=maxLen):Calls prog 193 #[v,.string s] w (ZW w (Gn ss s)):=by
 have C1:=AA (Td (GI v ss w h hs));have C2:=AA (λW=>BK (EJ s W hz));obtain⟨pa,c,rfl,hc,fm,H⟩:=BD.open Gv (by decide) h;have HR:=AA (λW (hW:Below w.heap.size w W)=>BD.below h hW);have HH:=AA H;unfold maxLen at fm;clear h hs hz H;generalize hrv:BQ ss=rv at C1;generalize hsv:BP s=sv at C2;have HV:=AA (xZ hrv hsv);clear hrv hsv;cases rv
 .have P:=AA (show Gn ss s=([],false) by unfold Gn;rw[HV.out.1];rfl)
  go_in;go_wp2_with fail;refine C1.out.mono ?_;rintro r w1 ⟨rfl,b1⟩;go_wp2_with fail;go_ret2;exact⟨_,by rw[P.out];rfl,by rw[P.out];exact AQ.lower (By BB _ _ _) b1.size,b1.alloc b1.size _⟩
 .cases sv
  .have P:=AA (show Gn ss s=([],false) by unfold Gn;rw[HV.out.1,HV.out.2];rfl)
   go_in;go_wp2_with fail;refine C1.out.mono ?_;rintro r w1 ⟨rfl,b1⟩;go_wp2_with fail;refine(C2.out _).mono ?_;rintro r w2 ⟨rfl,b2⟩;have b3:=b1.trans (b2.mono b1.size);clear b1 b2;go_wp2_with fail;go_ret2;exact⟨_,by rw[P.out];rfl,by rw[P.out];exact AQ.lower (By BB _ _ _) b3.size,b3.alloc b3.size _⟩
  .have gW:=(GM.1 HV.out.1).2.2
   have HP:=AA (Zc (ss:=ss) (s:=s) HV.out.1 HV.out.2);go_in;go_wp2_with fail;refine C1.out.mono ?_;rintro r w1 ⟨rfl,b1⟩;go_wp2_with fail;refine(C2.out _).mono ?_;rintro r w2 ⟨rfl,b2⟩;have b3:=b1.trans (b2.mono b1.size);clear b1 b2 C1 C2;go_wp2_with fail;go_loopw [6] (λix wr=>∃k:Nat,k<=ss.length/\ix=.int .i64 k/\(∀j,j<k->Q0 (Db ss j) s=true)/\Below w.heap.size w wr) (λix _=>ss.length - (intOf ix).toNat)
   case atStart=>exact⟨0,yh _,rfl,λj hj=>absurd hj (Nat.not_lt_zero _),b3⟩
   case round=>
    obtain⟨k,hk,rfl,dw,hb⟩:=hrel;have c7:=AA dw;have HB:=AA hb;clear dw b3
    by_cases cj:k<ss.length
    .have f4:(k:Int)<(ss.length:Int):=by omega
     obtain⟨b,cR,rfl,D⟩:=(HH.out.below hb).str cj;cases ht:Op.bytesLess (Db ss k).toList s.toList
     .have cO:=AA (show Nk ss s=k from Sx hk c7.out (λ_=>ht))
      have Ht:=AA ht;clear hb
      by_cases he:Db ss k=s
      .have te:((Db ss k).toList==s.toList)=true:=by rw[he];simp
       have P:=AA (show Gn ss s=(ss,true) by rw[HP.out,cO.out,if_pos (by simp[cj,he])]);clear he HP;go_wp2_with (at_builtin;go_must (refine FO (cs:=BB) rfl rfl 9 (.string ⟨#[]⟩) 1 16 underlying72 Tryz.zJ rfl (by decide) rfl (By BB _ _ _) rfl (HR.out _ (HB.out.trans ((AE _ _).mono HB.out.size))) (Gr _) (by omega) (by decide) (by simp) ?_;intro v' w9 hO bp));have HO:=AA hO;obtain⟨a9,c9,e9,_,_⟩:=hO.rd.shape;generalize wX _=n9 at e9;subst e9;have b6:=AA ((HB.out.trans ((AE _ _).mono HB.out.size)).trans (bp.mono HB.out.size));clear hO bp;go_wp2_with fail;go_ret2;exact⟨_,by rw[P.out];rfl,by rw[P.out];exact HO.out.lower HB.out.size,b6.out⟩
      .have te:((Db ss k).toList==s.toList)=false:=by
        rw[beq_eq_false_iff_ne];exact λe=>he (ByteArray.ext (Array.toList_inj.mp (by rw[<-Lib.toList_data,<-Lib.toList_data];exact e)))
       have bt:=AA (show Gn ss s=if ss.length=6 then(ss,false) else(D5 ss k s,true) by rw[HP.out,cO.out,if_neg (by simp[he])]);clear he HP
       by_cases h6:ss.length=6
       .have P:=AA (show Gn ss s=(ss,false) by rw[bt.out,if_pos h6])
        have eJ:(6:Int)<=(ss.length:Int):=by omega
        clear h6;go_wp2_with (at_builtin;go_must (refine FO (cs:=BB) rfl rfl 9 (.string ⟨#[]⟩) 1 16 underlying72 Tryz.zJ rfl (by decide) rfl (By BB _ _ _) rfl (HR.out _ (HB.out.trans ((AE _ _).mono HB.out.size))) (Gr _) (by omega) (by decide) (by simp) ?_;intro v' w9 hO bp));have HO:=AA hO;obtain⟨a9,c9,e9,_,_⟩:=hO.rd.shape;generalize wX _=n9 at e9;subst e9;have b6:=AA ((HB.out.trans ((AE _ _).mono HB.out.size)).trans (bp.mono HB.out.size));clear hO bp;go_wp2_with fail;go_ret2;exact⟨_,by rw[P.out];rfl,by rw[P.out];exact HO.out.lower HB.out.size,b6.out⟩
       .have P:=AA (show Gn ss s=(D5 ss k s,true) by rw[bt.out,if_neg h6])
        have eJ:¬(6:Int)<=(ss.length:Int):=by omega
        have f5:k<=c:=by omega
        clear h6;go_wp2_with fail;refine EB 14 63 (λix=>ix==7||ix==11) [.z,.v (.slice (some ⟨b,cR,none⟩) ss.length c),.i ((k:Int)),.z,.z,.t s,.z,.z,.v (.slice (some ⟨b,cR,none⟩) ss.length c),.i ((k:Int)),.z,.z,.z,.b true] (λll ix vv ww=>match ix with
         |0=>(ll 4=false->Ko wr.heap.size 9 ww vv)
         |3=>(∀W',Below wr.heap.size wr W'->BR W' vv (ss.take k))
         |4=>(ll 7=false->AQ wr.heap.size 9 1 BB ww vv (ss.take k))
         |6=>(ll 7=false->∃g,vv=.slice (some ⟨g,0,none⟩) 1 1/\ww.heap[g]?=some (.cells #[.string s] 9 (0,0)))
         |7=>(ll 11=false->AQ wr.heap.size 9 1 BB ww vv (ss.take k++[s]))
         |10=>(∀W',Below wr.heap.size wr W'->BR W' vv (ss.drop k))
         |11|12=>AQ wr.heap.size 9 1 BB ww vv (D5 ss k s)
         |_=>True) (λll ww=>Below wr.heap.size wr ww) ?_ ?_ ?_ ?_ ?_ ?_
        .exact A8 (yD _ _) 1
        .intro j hj ll i vv wz cP hi hS dh ft a4 hz
         match j,hj with
         |0,_=>exact(λhL=>Ko.below (hz (DU hL)) a4)
         |3,_|10,_=>exact hz
         |4,_|7,_=>exact(λhL=>AQ.below (hz (DU hL)) a4)
         |6,_=>exact(λhL=>by obtain⟨g,h0,h1⟩:=hz (DU hL);exact⟨g,h0,AC h1 a4⟩)
         |11,_|12,_=>exact(AQ.below hz a4)
         |1,_|2,_|5,_|8,_|9,_|13,_=>exact hz
        .intro ll i wz cP hi hS dh a4 hg
         exact hg.trans (a4.mono hg.size)
        .intro i hi hS o ho a wx Hb ll Hd HL hG K HK
         match i,hi,hS with
         |1,_,_|2,_,_|5,_,_|8,_,_|9,_,_|13,_,_=>exact Wg ho HK Hb Hd HL
         |7,_,hs|11,_,hs=>cases hs
         |0,_,_=>obtain rfl:=yF ho;clear Hd Hb;refine yE ?_;go_simp;exact HK.out _ _ (λ_=>⟨_,rfl,hG.size,yv _ _⟩) (AE _ _)
         |3,_,_=>obtain rfl:=yF ho;have d1:(a.tmps[52]?.getD undef)=.slice (some ⟨b,cR,none⟩) ss.length c:=DV Hd HL 1;have d2:(a.tmps[53]?.getD undef)=.int .i64 k:=DV Hd HL 2;clear Hd Hb;refine yE ?_;go_simp;exact HK.out _ _ (λW' hW=>Sf (HR.out W' (HB.out.trans (hW.mono HB.out.size))) rfl (by omega)) (yD _ _)
         |4,_,_=>obtain rfl:=yF ho;have d0:(ll 4=false->Ko wr.heap.size 9 wx (a.tmps[51]?.getD undef)):=DV Hd HL 0;have d3:(∀W',Below wr.heap.size wr W'->BR W' (a.tmps[54]?.getD undef) (ss.take k)):=DV Hd HL 3;have u7:=Ba HL 7;clear Hd Hb;refine yE ?_;obtain⟨g_,eN,eM,eL⟩:=d0 HL.out.1;obtain⟨v7,w4,bf,r1,r2,_⟩:=DZ (lo:=wr.heap.size) (w:=wx) (t:=72) (ty:=72) 9 _ 1 16 underlying72 Tryz.zJ rfl (by decide) eL eM (d3 _ hG) (Gr _) (by rw[xT];omega);refine Cr rfl (Bl eN) (Bl rfl) bf ?_;exact HK.out _ _ (λ_=>r1) r2
         |6,_,_=>obtain rfl:=yF ho;have d5:(a.tmps[56]?.getD undef)=.string s:=DV Hd HL 5;have u7:=Ba HL 7;clear Hd Hb;refine yE ?_;go_simp;exact HK.out _ _ (λ_=>⟨_,rfl,yv _ _⟩) (AE _ _)
         |10,_,_=>obtain rfl:=yF ho;have d8:(a.tmps[59]?.getD undef)=.slice (some ⟨b,cR,none⟩) ss.length c:=DV Hd HL 8;have d9:(a.tmps[60]?.getD undef)=.int .i64 k:=DV Hd HL 9;have cr:=Ba HL 11;clear Hd Hb;refine yE ?_;go_simp;rw[show(if c=k then some (⟨b,cR,none⟩:Addr) else some ⟨b,cR+k,none⟩)=some ⟨b,if c=k then cR else cR+k,none⟩ by split<;>rfl];exact HK.out _ _ (λW' hW=>X2 (HR.out W' (HB.out.trans (hW.mono HB.out.size))) rfl (by omega) b _ (λh=>⟨rfl,if_neg (by omega)⟩)) (yD _ _)
         |12,_,_=>obtain rfl:=yF ho;have dI:AQ wr.heap.size 9 1 BB wx (a.tmps[62]?.getD undef) (D5 ss k s):=DV Hd HL 11;have u7:ll 7=true:=HL.out.2.1 7 (by kernel_rfl);have cr:ll 11=true:=HL.out.2.1 11 (by kernel_rfl);clear Hd Hb;refine yE ?_;go_simp;exact HK.out _ _ dI (yD _ _)
        .intro i hi hS o ho a wx Hb ll Hd HL hG K HK
         match i,hi,hS with
         |0,_,hs|1,_,hs|2,_,hs|3,_,hs|4,_,hs|5,_,hs|6,_,hs|8,_,hs|9,_,hs|10,_,hs|12,_,hs|13,_,hs=>cases hs
         |7,_,_=>
          obtain rfl:=yF ho;have d4:(ll 7=false->AQ wr.heap.size 9 1 BB wx (a.tmps[55]?.getD undef) (ss.take k)):=DV Hd HL 4;have d6:(ll 7=false->∃g,(a.tmps[57]?.getD undef)=.slice (some ⟨g,0,none⟩) 1 1/\wx.heap[g]?=some (.cells #[.string s] 9 (0,0))):=DV Hd HL 6;have cr:=Ba HL 11;clear Hd Hb;refine yE ?_;have D4:=d4 HL.out.1;obtain⟨g6,e6,B6⟩:=d6 HL.out.1;obtain⟨v7,w4,bf,r1,_,r3⟩:=Jr (lo:=wr.heap.size) (w:=wx) (t:=72) 72 9 _ 1 16 underlying72 Tryz.zJ rfl (by decide) D4 (Mz B6) (by simp[xD]) (by rw[xT];unfold maxLen;omega) (by rw[xT];omega) hG.size;refine Cr rfl (Bl rfl) (Bl e6) bf ?_;have cS:AQ wr.heap.size 9 1 BB w4 v7 (ss.take k++[s]):=by unfold AQ;rw[Bm,Er,yj];exact r1
          exact HK.out _ _ (λ_=>cS) (hG.trans r3) (λj b7 b9 bK hu=>match j,b9 with
           |1,_|2,_|3,_|5,_|8,_|9,_|10,_|13,_=>hu
           |0,_=>(λh=>absurd ((DU h).symm.trans (HL.out.2.1 4 (by kernel_rfl))) (by decide))
           |4,_|6,_=>(λh=>absurd h (by rw[Gk];decide))
           |7,_=>absurd rfl b7
           |11,_=>absurd (cr.symm.trans bK) (by decide)
           |12,_=>absurd (cr.symm.trans (HL.out.2.2 12 11 bK (by kernel_rfl))) (by decide))
         |11,_,_=>
          obtain rfl:=yF ho;have d7:(ll 11=false->AQ wr.heap.size 9 1 BB wx (a.tmps[58]?.getD undef) (ss.take k++[s])):=DV Hd HL 7;have cM:(∀W',Below wr.heap.size wr W'->BR W' (a.tmps[61]?.getD undef) (ss.drop k)):=DV Hd HL 10;have u7:ll 7=true:=HL.out.2.1 7 (by kernel_rfl);clear Hd Hb;refine yE ?_;have D7:=d7 HL.out.1;obtain⟨v7,w4,bf,r1,_,r3⟩:=Jr (lo:=wr.heap.size) (w:=wx) (t:=72) 72 9 _ 1 16 underlying72 Tryz.zJ rfl (by decide) D7 (cM _ hG) (Gr _) (by simp only[yj,xT,wH];unfold maxLen;simp;omega) (by simp only[yj,xT,wH];simp;omega) hG.size;refine Cr rfl (Bl rfl) (Bl rfl) bf ?_;have cS:AQ wr.heap.size 9 1 BB w4 v7 (D5 ss k s):=by unfold AQ;rw[OJ,Bm,yj];exact r1
          exact HK.out _ _ cS (hG.trans r3) (λj b7 b9 bK hu=>match j,b9 with
           |1,_|2,_|3,_|5,_|8,_|9,_|10,_|13,_=>hu
           |0,_=>(λh=>absurd ((DU h).symm.trans (HL.out.2.2 7 4 u7 (by kernel_rfl))) (by decide))
           |4,_|6,_=>(λh=>absurd ((DU h).symm.trans (u7)) (by decide))
           |7,_=>(λh=>absurd h (by rw[Gk];decide))
           |11,_=>absurd rfl b7
           |12,_=>absurd (HL.out.1.symm.trans (HL.out.2.2 12 11 bK (by kernel_rfl))) (by decide))
        .intro vs wx ll a7 hR hG
         have bm:AQ wr.heap.size 9 1 BB wx (vs 12) (D5 ss k s):=BW hR 12;have b8:(vs 13)=.bool true:=BW hR 13;clear hR;simp only[De,Bb,yC,yz,yy,yw,b8];simp;generalize vs 12=z12 at bm ⊢;clear b8;have HO:=AA bm;have b6:=AA (HB.out.trans (hG.mono HB.out.size));go_wp2_with fail;go_ret2;exact⟨_,by rw[P.out];rfl,by rw[P.out];exact HO.out.lower HB.out.size,b6.out⟩
     .have Ht:=AA (show Q0 (Db ss k) s=true from ht)
      go_wp2_with fail;go_roundw
      case rel=>exact⟨k+1,by omega,by go_num,Ak c7.out Ht.out,hb⟩
      case measure=>simp[intOf];omega
    .obtain rfl:k=ss.length:=by omega
     have cO:=AA (show Nk ss s=ss.length from Sx hk c7.out (λh=>absurd h (by omega)));have bt:=AA (show Gn ss s=if ss.length=6 then(ss,false) else(D5 ss ss.length s,true) by rw[HP.out,cO.out,if_neg (by simp)]);clear HP
     by_cases h6:ss.length=6
     .have P:=AA (show Gn ss s=(ss,false) by rw[bt.out,if_pos h6])
      have eJ:(6:Int)<=(ss.length:Int):=by omega
      clear h6;go_wp2_with (at_builtin;go_must (refine FO (cs:=BB) rfl rfl 9 (.string ⟨#[]⟩) 1 16 underlying72 Tryz.zJ rfl (by decide) rfl (By BB _ _ _) rfl (HR.out _ (HB.out.trans ((AE _ _).mono HB.out.size))) (Gr _) (by omega) (by decide) (by simp) ?_;intro v' w9 hO bp));have HO:=AA hO;obtain⟨a9,c9,e9,_,_⟩:=hO.rd.shape;generalize wX _=n9 at e9;subst e9;have b6:=AA ((HB.out.trans ((AE _ _).mono HB.out.size)).trans (bp.mono HB.out.size));clear hO bp;go_wp2_with fail;go_ret2;exact⟨_,by rw[P.out];rfl,by rw[P.out];exact HO.out.lower HB.out.size,b6.out⟩
     .have P:=AA (show Gn ss s=(D5 ss ss.length s,true) by rw[bt.out,if_neg h6])
      have eJ:¬(6:Int)<=(ss.length:Int):=by omega
      have f5:ss.length<=c:=by omega
      clear h6;go_wp2_with fail;refine EB 14 63 (λix=>ix==7||ix==11) [.z,.v (.slice pa ss.length c),.i ((ss.length:Int)),.z,.z,.t s,.z,.z,.v (.slice pa ss.length c),.i ((ss.length:Int)),.z,.z,.z,.b true] (λll ix vv ww=>match ix with
       |0=>(ll 4=false->Ko wr.heap.size 9 ww vv)
       |3=>(∀W',Below wr.heap.size wr W'->BR W' vv (ss.take ss.length))
       |4=>(ll 7=false->AQ wr.heap.size 9 1 BB ww vv (ss.take ss.length))
       |6=>(ll 7=false->∃g,vv=.slice (some ⟨g,0,none⟩) 1 1/\ww.heap[g]?=some (.cells #[.string s] 9 (0,0)))
       |7=>(ll 11=false->AQ wr.heap.size 9 1 BB ww vv (ss.take ss.length++[s]))
       |10=>(∀W',Below wr.heap.size wr W'->BR W' vv (ss.drop ss.length))
       |11|12=>AQ wr.heap.size 9 1 BB ww vv (D5 ss ss.length s)
       |_=>True) (λll ww=>Below wr.heap.size wr ww) ?_ ?_ ?_ ?_ ?_ ?_
      .exact A8 (yD _ _) 1
      .intro j hj ll i vv wz cP hi hS dh ft a4 hz
       match j,hj with
       |0,_=>exact(λhL=>Ko.below (hz (DU hL)) a4)
       |3,_|10,_=>exact hz
       |4,_|7,_=>exact(λhL=>AQ.below (hz (DU hL)) a4)
       |6,_=>exact(λhL=>by obtain⟨g,h0,h1⟩:=hz (DU hL);exact⟨g,h0,AC h1 a4⟩)
       |11,_|12,_=>exact(AQ.below hz a4)
       |1,_|2,_|5,_|8,_|9,_|13,_=>exact hz
      .intro ll i wz cP hi hS dh a4 hg
       exact hg.trans (a4.mono hg.size)
      .intro i hi hS o ho a wx Hb ll Hd HL hG K HK
       match i,hi,hS with
       |1,_,_|2,_,_|5,_,_|8,_,_|9,_,_|13,_,_=>exact Wg ho HK Hb Hd HL
       |7,_,hs|11,_,hs=>cases hs
       |0,_,_=>obtain rfl:=yF ho;clear Hd Hb;refine yE ?_;go_simp;exact HK.out _ _ (λ_=>⟨_,rfl,hG.size,yv _ _⟩) (AE _ _)
       |3,_,_=>obtain rfl:=yF ho;have d1:(a.tmps[52]?.getD undef)=.slice pa ss.length c:=DV Hd HL 1;have d2:(a.tmps[53]?.getD undef)=.int .i64 ((ss.length:Int)):=DV Hd HL 2;clear Hd Hb;refine yE ?_;go_simp;exact HK.out _ _ (λW' hW=>Sf (HR.out W' (HB.out.trans (hW.mono HB.out.size))) rfl (by omega)) (yD _ _)
       |4,_,_=>obtain rfl:=yF ho;have d0:(ll 4=false->Ko wr.heap.size 9 wx (a.tmps[51]?.getD undef)):=DV Hd HL 0;have d3:(∀W',Below wr.heap.size wr W'->BR W' (a.tmps[54]?.getD undef) (ss.take ss.length)):=DV Hd HL 3;have u7:=Ba HL 7;clear Hd Hb;refine yE ?_;obtain⟨g_,eN,eM,eL⟩:=d0 HL.out.1;obtain⟨v7,w4,bf,r1,r2,_⟩:=DZ (lo:=wr.heap.size) (w:=wx) (t:=72) (ty:=72) 9 _ 1 16 underlying72 Tryz.zJ rfl (by decide) eL eM (d3 _ hG) (Gr _) (by rw[xT];omega);refine Cr rfl (Bl eN) (Bl rfl) bf ?_;exact HK.out _ _ (λ_=>r1) r2
       |6,_,_=>obtain rfl:=yF ho;have d5:(a.tmps[56]?.getD undef)=.string s:=DV Hd HL 5;have u7:=Ba HL 7;clear Hd Hb;refine yE ?_;go_simp;exact HK.out _ _ (λ_=>⟨_,rfl,yv _ _⟩) (AE _ _)
       |10,_,_=>
        obtain rfl:=yF ho;have d8:(a.tmps[59]?.getD undef)=.slice pa ss.length c:=DV Hd HL 8;have d9:(a.tmps[60]?.getD undef)=.int .i64 ((ss.length:Int)):=DV Hd HL 9;have cr:=Ba HL 11;clear Hd Hb;refine yE ?_;go_simp
        rcases pa with _|ad
        .go_simp
         exact HK.out _ _ (λW' hW=>U3 (HR.out W' (HB.out.trans (hW.mono HB.out.size))) none (λ_=>rfl)) (yD _ _)
        .go_simp
         exact HK.out _ _ (λW' hW=>U3 (HR.out W' (HB.out.trans (hW.mono HB.out.size))) _ (λh=>by split at h<;>cases h)) (yD _ _)
       |12,_,_=>obtain rfl:=yF ho;have dI:AQ wr.heap.size 9 1 BB wx (a.tmps[62]?.getD undef) (D5 ss ss.length s):=DV Hd HL 11;have u7:ll 7=true:=HL.out.2.1 7 (by kernel_rfl);have cr:ll 11=true:=HL.out.2.1 11 (by kernel_rfl);clear Hd Hb;refine yE ?_;go_simp;exact HK.out _ _ dI (yD _ _)
      .intro i hi hS o ho a wx Hb ll Hd HL hG K HK
       match i,hi,hS with
       |0,_,hs|1,_,hs|2,_,hs|3,_,hs|4,_,hs|5,_,hs|6,_,hs|8,_,hs|9,_,hs|10,_,hs|12,_,hs|13,_,hs=>cases hs
       |7,_,_=>
        obtain rfl:=yF ho;have d4:(ll 7=false->AQ wr.heap.size 9 1 BB wx (a.tmps[55]?.getD undef) (ss.take ss.length)):=DV Hd HL 4;have d6:(ll 7=false->∃g,(a.tmps[57]?.getD undef)=.slice (some ⟨g,0,none⟩) 1 1/\wx.heap[g]?=some (.cells #[.string s] 9 (0,0))):=DV Hd HL 6;have cr:=Ba HL 11;clear Hd Hb;refine yE ?_;have D4:=d4 HL.out.1;obtain⟨g6,e6,B6⟩:=d6 HL.out.1;obtain⟨v7,w4,bf,r1,_,r3⟩:=Jr (lo:=wr.heap.size) (w:=wx) (t:=72) 72 9 _ 1 16 underlying72 Tryz.zJ rfl (by decide) D4 (Mz B6) (by simp[xD]) (by rw[xT];unfold maxLen;omega) (by rw[xT];omega) hG.size;refine Cr rfl (Bl rfl) (Bl e6) bf ?_;have cS:AQ wr.heap.size 9 1 BB w4 v7 (ss.take ss.length++[s]):=by unfold AQ;rw[Bm,Er,yj];exact r1
        exact HK.out _ _ (λ_=>cS) (hG.trans r3) (λj b7 b9 bK hu=>match j,b9 with
         |1,_|2,_|3,_|5,_|8,_|9,_|10,_|13,_=>hu
         |0,_=>(λh=>absurd ((DU h).symm.trans (HL.out.2.1 4 (by kernel_rfl))) (by decide))
         |4,_|6,_=>(λh=>absurd h (by rw[Gk];decide))
         |7,_=>absurd rfl b7
         |11,_=>absurd (cr.symm.trans bK) (by decide)
         |12,_=>absurd (cr.symm.trans (HL.out.2.2 12 11 bK (by kernel_rfl))) (by decide))
       |11,_,_=>
        obtain rfl:=yF ho;have d7:(ll 11=false->AQ wr.heap.size 9 1 BB wx (a.tmps[58]?.getD undef) (ss.take ss.length++[s])):=DV Hd HL 7;have cM:(∀W',Below wr.heap.size wr W'->BR W' (a.tmps[61]?.getD undef) (ss.drop ss.length)):=DV Hd HL 10;have u7:ll 7=true:=HL.out.2.1 7 (by kernel_rfl);clear Hd Hb;refine yE ?_;have D7:=d7 HL.out.1;obtain⟨v7,w4,bf,r1,_,r3⟩:=Jr (lo:=wr.heap.size) (w:=wx) (t:=72) 72 9 _ 1 16 underlying72 Tryz.zJ rfl (by decide) D7 (cM _ hG) (Gr _) (by simp only[yj,xT,wH];unfold maxLen;simp;omega) (by simp only[yj,xT,wH];simp;omega) hG.size;refine Cr rfl (Bl rfl) (Bl rfl) bf ?_;have cS:AQ wr.heap.size 9 1 BB w4 v7 (D5 ss ss.length s):=by unfold AQ;rw[OJ,Bm,yj];exact r1
        exact HK.out _ _ cS (hG.trans r3) (λj b7 b9 bK hu=>match j,b9 with
         |1,_|2,_|3,_|5,_|8,_|9,_|10,_|13,_=>hu
         |0,_=>(λh=>absurd ((DU h).symm.trans (HL.out.2.2 7 4 u7 (by kernel_rfl))) (by decide))
         |4,_|6,_=>(λh=>absurd ((DU h).symm.trans (u7)) (by decide))
         |7,_=>(λh=>absurd h (by rw[Gk];decide))
         |11,_=>absurd rfl b7
         |12,_=>absurd (HL.out.1.symm.trans (HL.out.2.2 12 11 bK (by kernel_rfl))) (by decide))
      .intro vs wx ll a7 hR hG
       have bm:AQ wr.heap.size 9 1 BB wx (vs 12) (D5 ss ss.length s):=BW hR 12;have b8:(vs 13)=.bool true:=BW hR 13;clear hR;simp only[De,Bb,yC,yz,yy,yw,b8];simp;generalize vs 12=z12 at bm ⊢;clear b8;have HO:=AA bm;have b6:=AA (HB.out.trans (hG.mono HB.out.size));go_wp2_with fail;go_ret2;exact⟨_,by rw[P.out];rfl,by rw[P.out];exact HO.out.lower HB.out.size,b6.out⟩
theorem ET.zT{T:Nat}{cs:Array Value}{R:List Nat}{b0:Nat}{W W':World}{ge n fx:Nat}(h:ET T cs R lo g b0 w W m i (.slice (some ⟨ge,0,none⟩) n fx) c k)(hn:n=k.zX.length)(hb:Below W.heap.size W W'){j:Nat}(hj:j<k.zX.length){u:Value}{ss:List ByteArray}(hu:AQ W.heap.size 9 1 BB W' u ss):
 ET T cs R lo g b0 w (W'.setCell ⟨ge,j*2,none⟩ u) m i (.slice (some ⟨ge,0,none⟩) n fx) c {k with zX:=As k.zX j (BU ss)}:=by
 have S:=h.yI.zT hn h.lo hb hj hu;have h':=h.below hb;obtain⟨ps,o⟩:=h'.yI.2.2.2.2.1;obtain⟨c2,h2⟩:=A6 o.1 ge rfl;exact⟨S.1,Ap h'.yK S.2.1 (Bp h2 h'.yK h.ty.2.2.1),AM h'.bel S.2.1 S.2.2 h'.lo,yB h'.lo S.2.1.size,h.ty,h'.kf.row S.2.1 h2 (by decide),λb hr=>⟨(h.rs b hr).1,Ap (h'.rs b hr).2 S.2.1 (Bp h2 (h'.rs b hr).2 (by decide))⟩⟩
theorem Qu(h:DP lo w mv iv ev cv k)(az:lo<=w.heap.size)(hk:DJ k)(call:Aa)(he:0<=call.e/\call.e<3)(h2:call.k=8∨call.k=9)(ch:call.nm.size<=maxLen):
 Calls prog 177 #[.agg #[mv,iv,ev,cv],.agg call.cs] w (Kr lo w (Ad k call)):=by
 have bk:=SC.start h az call;obtain⟨ge,ar,e9,_,_⟩:=bk.zX (by rw[hk.zN];omega);rw[hk.zN] at e9;obtain⟨gi,al,e8,_,_⟩:=bk.zZ (by rw[hk.len];omega);rw[hk.len] at e8;obtain⟨am,dq,cm,ai,ni,ci,ae,ep,ce,ac,nc,cc,em,ei,ee,ec⟩:=bk.zQ;subst e8 e9 em ec;clear ei ee;have S0:=AA bk;obtain⟨kk,e,ra,b,c,nm⟩:=call;simp only at he h2 ch;obtain⟨en,rfl⟩:∃n:Nat,e=(n:Int):=⟨e.toNat,by omega⟩
 have df:en<3:=by omega
 have dB:(en:Int)<3:=by omega
 simp only[Aa.cs] at S0 ⊢;have HK:=AA hk;have CR:=AA (λW=>BK (EJ nm W ch));have HN:=AA ch;have CM:=AA (λW (h:Fq W (.slice (some ⟨ge,0,none⟩) 3 ar) k.zX)=>JY (.slice am dq cm) (.slice (some ⟨gi,0,none⟩) 12 al) (.slice (some ⟨ge,0,none⟩) 3 ar) (.slice ac nc cc) k en nm W h hk df ch);obtain⟨x0,x1,x2,x3⟩:=S0.out.xs;obtain⟨y0,y1,y2,y3,y4,y5⟩:=S0.out.ys6;have HP:Hid (Ad k ⟨kk,(en:Int),ra,b,c,nm⟩=if Be ra 0 2=false∨BP nm=false∨(kk=9/\ra=(en:Int)) then(k,0,3)
  else if Bv (AJ k.zX en).zT nm=false then(k,0,1)
  else if kk=8 then(if(Cm (AJ k.zX ra.toNat).zT nm).2=false then(k,0,4) else({k with zX:=As k.zX ra.toNat (BU (Cm (AJ k.zX ra.toNat).zT nm).1)},0,0))
  else(if BG k.zZ (BZ k.mem (AJ k.zX ra.toNat).root) (DB (AJ k.zX ra.toNat).zT nm)=false then(k,0,2) else({k with zX:=As k.zX ra.toNat (BU (DB (AJ k.zX ra.toNat).zT nm))},0,0))):=by
  refine Lib.hid ?_
  rcases h2 with rfl|rfl
  .rw[UG rfl]
   unfold LF Fb;simp
  .rw[Su rfl]
   unfold Jp Fb;simp only[yb]
   by_cases a1:Be ra 0 2=false<;>by_cases a2:BP nm=false<;>by_cases a3:ra=(en:Int)<;>simp[a1,a2,a3]
 have H2:=AA h2;clear h bk he hk h2 ch;generalize hW0:((w.alloc _).alloc _).alloc _=W0 at*;cases e1:Be ra 0 2
 .have ay:=AA (show Ad k ⟨kk,(en:Int),ra,b,c,nm⟩=(k,0,3) by rw[HP.out,if_pos (.inl e1)])
  have E1:=AA e1;clear e1 HP;go_in;go_wp2_with fail;refine(BK (JL _ _)).mono ?_;rintro r w1 ⟨rfl,br⟩;rw[E1.out];have S1:=AA (S0.out.below br);clear x0 x1 x2 x3 y0 y1 y2 y3 y4 y5 br hW0;obtain⟨⟨x0,x1,x2,x3⟩,⟨⟨z0,z1,z2,z3⟩,a6⟩,HE,HR⟩:=S1.out.yH az (v:=0) (code:=3) (ay.out) (by decide);go_wp2_with ((try simp only[xQ,Exit.then]);with_reducible refine yk ?_ rfl HR.out;obtain⟨E0,E1,E2,E3⟩:=HE.out;simp[results,wG,go_sem,E0,E1,E2,E3])
 .have E1:=AA e1
  have ab:=Ab.1 e1;obtain⟨an,rfl⟩:∃n:Nat,ra=(n:Int):=⟨ra.toNat,by omega⟩
  have bs:an<3:=by omega
  have eI:(an:Int)<3:=by omega
  generalize hrv:BP nm=rv at CR;have HV:=AA hrv;clear e1 ab hrv;cases rv
  .have ay:=AA (show Ad k ⟨kk,(en:Int),(an:Int),b,c,nm⟩=(k,0,3) by rw[HP.out,if_pos (.inr (.inl HV.out))])
   clear HP;go_in;go_wp2_with fail;refine(BK (JL _ _)).mono ?_;rintro r w1 ⟨rfl,br⟩;rw[E1.out];have S1:=AA (S0.out.below br);clear x0 x1 x2 x3 y0 y1 y2 y3 y4 y5 br hW0;obtain⟨y0,y1,y2,y3,y4,y5⟩:=S1.out.ys6;go_wp2_with fail;refine(CR.out _).mono ?_;rintro r w2 ⟨rfl,a0⟩;have S2:=AA (S1.out.below a0);clear y0 y1 y2 y3 y4 y5 a0;obtain⟨⟨x0,x1,x2,x3⟩,⟨⟨z0,z1,z2,z3⟩,a6⟩,HE,HR⟩:=S2.out.yH az (v:=0) (code:=3) (ay.out) (by decide);go_wp2_with ((try simp only[xQ,Exit.then]);with_reducible refine yk ?_ rfl HR.out;obtain⟨E0,E1,E2,E3⟩:=HE.out;simp[results,wG,go_sem,E0,E1,E2,E3])
  .rcases H2.out with rfl|rfl
   .have bt:=AA (show Ad k ⟨8,(en:Int),(an:Int),b,c,nm⟩=if Bv (AJ k.zX en).zT nm=false then(k,0,1) else if(Cm (AJ k.zX an).zT nm).2=false then(k,0,4) else({k with zX:=As k.zX an (BU (Cm (AJ k.zX an).zT nm).1)},0,0) by rw[HP.out,if_neg (by rintro(x|x|⟨x,_⟩);(· rw[E1.out] at x;cases x);(· rw[HV.out] at x;cases x);cases x)];rfl)
    clear HP;go_in;go_wp2_with fail;refine(BK (JL _ _)).mono ?_;rintro r w1 ⟨rfl,br⟩;rw[E1.out];have S1:=AA (S0.out.below br);clear x0 x1 x2 x3 y0 y1 y2 y3 y4 y5 br hW0;obtain⟨y0,y1,y2,y3,y4,y5⟩:=S1.out.ys6;go_wp2_with fail;refine(CR.out _).mono ?_;rintro r w2 ⟨rfl,a0⟩;have S2:=AA (S1.out.below a0);clear y0 y1 y2 y3 y4 y5 a0;obtain⟨y0,y1,y2,y3,y4,y5⟩:=S2.out.ys6;obtain⟨x0,x1,x2,x3⟩:=S2.out.xs;generalize hmb:Bv (AJ k.zX en).zT nm=mb at CM bt;clear hmb;go_wp2_with fail;refine(CM.out _ S2.out.K.2.2.1).mono ?_;rintro r w4 ⟨rfl,cL⟩;have S4:=AA (S2.out.below cL);clear x0 x1 x2 x3 y0 y1 y2 y3 y4 y5 cL CM;cases mb
    .have ay:=AA (show Ad k ⟨8,(en:Int),(an:Int),b,c,nm⟩=(k,0,1) by rw[bt.out];rfl)
     obtain⟨⟨x0,x1,x2,x3⟩,⟨⟨z0,z1,z2,z3⟩,a6⟩,HE,HR⟩:=S4.out.yH az (v:=0) (code:=1) (ay.out) (by decide);go_wp2_with ((try simp only[xQ,Exit.then]);with_reducible refine yk ?_ rfl HR.out;obtain⟨E0,E1,E2,E3⟩:=HE.out;simp[results,wG,go_sem,E0,E1,E2,E3])
    .skip
     obtain⟨x0,x1,x2,x3⟩:=S4.out.xs;obtain⟨y0,y1,y2,y3,y4,y5⟩:=S4.out.ys6;obtain⟨av,au,_,_⟩:=S4.out.lts;have cK:=S4.out.yU;obtain⟨ua,uc,D0,D1,R⟩:=S4.out.env (j:=an) (by rw[HK.out.zN];exact bs);have CP:=AA (λW (hW:Below w4.heap.size w4 W)=>by have:=LU _ (AJ k.zX an).zT nm W (BD.below R hW) (II HK.out bs) HN.out;rw[show Gn (AJ k.zX an).zT nm=Cm (AJ k.zX an).zT nm by unfold Gn;rw[show BQ (AJ k.zX an).zT=true from HK.out.zT an bs,HV.out];rfl] at this;exact this);have ay:=AA (show Ad k ⟨8,(en:Int),(an:Int),b,c,nm⟩=if(Cm (AJ k.zX an).zT nm).2=false then(k,0,4) else({k with zX:=As k.zX an (BU (Cm (AJ k.zX an).zT nm).1)},0,0) by rw[bt.out];rfl);generalize Cm (AJ k.zX an).zT nm=res at CP ay;clear R bt;go_wp2_with fail;refine BN 14 102 [.p w.heap.size 2,.s ge 3 ar,.p (w.heap.size+1) 2,.i ((an:Int)),.p ge (an*2),.p ge (an*2),.v (.slice ua (AJ k.zX an).zT.length uc),.p (w.heap.size+1) 5,.t nm,.z,.z,.z,.b (res.2),.z] (λix vv ww=>match ix with
      |9|10=>∃v',vv=.tuple #[v',.bool res.2]/\AQ w4.heap.size 9 1 BB ww v' res.1
      |11|13=>AQ w4.heap.size 9 1 BB ww vv res.1
      |_=>True) ?_ ?_ ?_
     .intro i hi o ho a wx Hb Hd hG K HK
      match i,hi with
      |0,_|2,_|5,_|7,_=>exact sP ho HK Hb Hd
      |1,_=>exact sL ho HK Hb Hd (hl:=No (bc hG au x2))
      |3,_=>exact sL ho HK Hb Hd (hl:=Fp (bc hG av y2))
      |4,_=>exact sI ho HK Hb Hd (hr:=by clear Hd Hb HK;go_simp)
      |6,_=>exact sL ho HK Hb Hd (hl:=LM (bc hG cK D0))
      |8,_=>exact sL ho HK Hb Hd (hl:=Yu (bc hG av y5))
      |9,_=>exact sC ho HK Hb Hd (CP.out _ hG) (by rintro e w_ ⟨v',rfl,hO,a0⟩;exact⟨_,rfl,⟨_,rfl,hO.lower hG.size⟩,a0⟩)
      |10,_=>
       obtain rfl:=yF ho;have d9:∃v',(a.tmps[54]?.getD undef)=.tuple #[v',.bool res.2]/\AQ w4.heap.size 9 1 BB wx v' res.1:=BM Hd 9
       clear Hd Hb;refine yE ?_;go_simp;exact HK.out _ _ d9 (yD _ _)
      |11,_=>
       obtain rfl:=yF ho;have cM:∃v',(a.tmps[44]?.getD undef)=.tuple #[v',.bool res.2]/\AQ w4.heap.size 9 1 BB wx v' res.1:=BM Hd 10
       clear Hd Hb;obtain⟨v',cM,hO⟩:=cM;refine yE ?_;go_simp;exact HK.out _ _ hO (yD _ _)
      |12,_=>
       obtain rfl:=yF ho;have cM:∃v',(a.tmps[44]?.getD undef)=.tuple #[v',.bool res.2]/\AQ w4.heap.size 9 1 BB wx v' res.1:=BM Hd 10
       clear Hd Hb;obtain⟨v',cM,hO⟩:=cM;refine yE ?_;go_simp;exact HK.out _ _ rfl (yD _ _)
      |13,_=>obtain rfl:=yF ho;have dI:AQ w4.heap.size 9 1 BB wx (a.tmps[55]?.getD undef) res.1:=BM Hd 11;clear Hd Hb;refine yE ?_;go_simp;exact HK.out _ _ dI (yD _ _)
     .intro i hi vv wz cP a4 hz
      match i,hi with
      |9,_|10,_=>exact(by obtain⟨v',h0,h1⟩:=hz;exact⟨v',h0,AQ.below h1 a4⟩)
      |11,_|13,_=>exact(AQ.below hz a4)
      |0,_|1,_|2,_|3,_|4,_|5,_|6,_|7,_|8,_|12,_=>exact hz
     .intro vs wx hR hG
      have bm:(vs 12)=.bool (res.2):=BW hR 12;have b8:AQ w4.heap.size 9 1 BB wx (vs 13) res.1:=BW hR 13;clear hR;simp only[Aj,Ae,yC,yz,yy,yw,bm];simp;generalize vs 13=z13 at b8 ⊢;clear bm;have S5:=AA (S4.out.below hG);have HO:=AA b8;have cq:=AA hG;obtain⟨a9,c9,e9,_,_⟩:=b8.rd.shape;generalize wX _=n9 at e9;subst e9;clear x0 x1 x2 x3 y0 y1 y2 y3 y4 y5 D0 D1 b8 hG;obtain⟨rs,rb⟩:=res;cases rb
      focus
       have bl:=AA (show Ad k ⟨8,(en:Int),(an:Int),b,c,nm⟩=(k,0,4) by rw[ay.out];rfl)
       obtain⟨⟨x0,x1,x2,x3⟩,⟨⟨z0,z1,z2,z3⟩,a6⟩,HE,HR⟩:=S5.out.yH az (v:=0) (code:=4) (bl.out) (by decide)
      rotate_left
      focus
       have bl:=AA (show Ad k ⟨8,(en:Int),(an:Int),b,c,nm⟩=({k with zX:=As k.zX an (BU rs)},0,0) by rw[ay.out];rfl)
       have T:=AA (S4.out.zT HK.out.zN.symm cq.out (j:=an) (by rw[HK.out.zN];exact bs) HO.out);obtain⟨_,_,gr,_,_⟩:=S5.out.env (j:=an) (by rw[HK.out.zN];exact bs);have Fe:=S5.out.fze (an*2);have fO:=S5.out.xs.2.2.1;obtain⟨_,_,yo,_⟩:=S5.out.ys6;generalize hW9:wx.setCell _ _=W9 at T;obtain⟨⟨x0,x1,x2,x3⟩,⟨⟨z0,z1,z2,z3⟩,a6⟩,HE,HR⟩:=T.out.fin az (v:=0) (code:=0) (bl.out)
      rotate_left
      all_goals
       go_wp2_with ((try simp only[xQ,Exit.then]);with_reducible refine yk ?_ rfl HR.out;obtain⟨E0,E1,E2,E3⟩:=HE.out;simp[results,wG,go_sem,E0,E1,E2,E3])
   .by_cases ee:an=en
    .have ay:=AA (show Ad k ⟨9,(en:Int),(an:Int),b,c,nm⟩=(k,0,3) by rw[HP.out,if_pos (.inr (.inr ⟨rfl,by rw[ee]⟩))])
     have te:((an:Int)==(en:Int))=true:=by rw[ee];simp
     clear HP ee;go_in;go_wp2_with fail;refine(BK (JL _ _)).mono ?_;rintro r w1 ⟨rfl,br⟩;rw[E1.out];have S1:=AA (S0.out.below br);clear x0 x1 x2 x3 y0 y1 y2 y3 y4 y5 br hW0;obtain⟨y0,y1,y2,y3,y4,y5⟩:=S1.out.ys6;go_wp2_with fail;refine(CR.out _).mono ?_;rintro r w2 ⟨rfl,a0⟩;have S2:=AA (S1.out.below a0);clear y0 y1 y2 y3 y4 y5 a0;obtain⟨y0,y1,y2,y3,y4,y5⟩:=S2.out.ys6;obtain⟨⟨x0,x1,x2,x3⟩,⟨⟨z0,z1,z2,z3⟩,a6⟩,HE,HR⟩:=S2.out.yH az (v:=0) (code:=3) (ay.out) (by decide);go_wp2_with ((try simp only[xQ,Exit.then]);with_reducible refine yk ?_ rfl HR.out;obtain⟨E0,E1,E2,E3⟩:=HE.out;simp[results,wG,go_sem,E0,E1,E2,E3])
    .have bt:=AA (show Ad k ⟨9,(en:Int),(an:Int),b,c,nm⟩=if Bv (AJ k.zX en).zT nm=false then(k,0,1) else if BG k.zZ (BZ k.mem (AJ k.zX an).root) (DB (AJ k.zX an).zT nm)=false then(k,0,2) else({k with zX:=As k.zX an (BU (DB (AJ k.zX an).zT nm))},0,0) by rw[HP.out,if_neg (by rintro(x|x|⟨_,x⟩);(· rw[E1.out] at x;cases x);(· rw[HV.out] at x;cases x);exact ee (by omega))];rfl)
     have te:((an:Int)==(en:Int))=false:=by simp;omega
     clear HP ee;go_in;go_wp2_with fail;refine(BK (JL _ _)).mono ?_;rintro r w1 ⟨rfl,br⟩;rw[E1.out];have S1:=AA (S0.out.below br);clear x0 x1 x2 x3 y0 y1 y2 y3 y4 y5 br hW0;obtain⟨y0,y1,y2,y3,y4,y5⟩:=S1.out.ys6;go_wp2_with fail;refine(CR.out _).mono ?_;rintro r w2 ⟨rfl,a0⟩;have S2:=AA (S1.out.below a0);clear y0 y1 y2 y3 y4 y5 a0;obtain⟨y0,y1,y2,y3,y4,y5⟩:=S2.out.ys6;obtain⟨x0,x1,x2,x3⟩:=S2.out.xs;generalize hmb:Bv (AJ k.zX en).zT nm=mb at CM bt;clear hmb;go_wp2_with fail;refine(CM.out _ S2.out.K.2.2.1).mono ?_;rintro r w4 ⟨rfl,cL⟩;have S4:=AA (S2.out.below cL);clear x0 x1 x2 x3 y0 y1 y2 y3 y4 y5 cL CM;cases mb
     .have ay:=AA (show Ad k ⟨9,(en:Int),(an:Int),b,c,nm⟩=(k,0,1) by rw[bt.out];rfl)
      obtain⟨⟨x0,x1,x2,x3⟩,⟨⟨z0,z1,z2,z3⟩,a6⟩,HE,HR⟩:=S4.out.yH az (v:=0) (code:=1) (ay.out) (by decide);go_wp2_with ((try simp only[xQ,Exit.then]);with_reducible refine yk ?_ rfl HR.out;obtain⟨E0,E1,E2,E3⟩:=HE.out;simp[results,wG,go_sem,E0,E1,E2,E3])
     .skip
      obtain⟨x0,x1,x2,x3⟩:=S4.out.xs;obtain⟨y0,y1,y2,y3,y4,y5⟩:=S4.out.ys6;obtain⟨av,au,_,_⟩:=S4.out.lts;have cK:=S4.out.yU;obtain⟨ua,uc,D0,D1,R⟩:=S4.out.env (j:=an) (by rw[HK.out.zN];exact bs);have es:=II HK.out bs;have CD:=AA (λW (hW:Below w4.heap.size w4 W)=>Uc _ (AJ k.zX an).zT nm W (BD.below R hW) es HN.out (by have:(AJ k.zX an).zT.length<=6:=(GM.1 (HK.out.zT an bs)).2.2;omega));have ay:=AA (show Ad k ⟨9,(en:Int),(an:Int),b,c,nm⟩=if BG k.zZ (BZ k.mem (AJ k.zX an).root) (DB (AJ k.zX an).zT nm)=false then(k,0,2) else({k with zX:=As k.zX an (BU (DB (AJ k.zX an).zT nm))},0,0) by rw[bt.out];rfl);have eu:DQ (DB (AJ k.zX an).zT nm):=λs hs=>es s (List.mem_filter.1 hs).1
      generalize DB (AJ k.zX an).zT nm=rs at CD ay eu;have gy:=AA eu;clear R bt es eu;go_wp2_with fail;refine AY 9 102 [.p w.heap.size 2,.s ge 3 ar,.p (w.heap.size+1) 2,.i ((an:Int)),.p ge (an*2),.p ge (an*2),.v (.slice ua (AJ k.zX an).zT.length uc),.p (w.heap.size+1) 5,.t nm] (λ_ _ _=>True) ?_ ?_
      .intro i hi o ho a wx Hb Hd hG K HK
       match i,hi with
       |0,_|2,_|5,_|7,_=>exact sP ho HK Hb Hd
       |1,_=>exact sL ho HK Hb Hd (hl:=No (bc hG au x2))
       |3,_=>exact sL ho HK Hb Hd (hl:=Fp (bc hG av y2))
       |4,_=>exact sI ho HK Hb Hd (hr:=by clear Hd Hb HK;go_simp)
       |6,_=>exact sL ho HK Hb Hd (hl:=LM (bc hG cK D0))
       |8,_=>exact sL ho HK Hb Hd (hl:=Yu (bc hG av y5))
      .intro vs wx hR hG
       have q6:(vs 6)=.slice ua (AJ k.zX an).zT.length uc:=BW hR 6;have q8:(vs 8)=.string nm:=BW hR 8;clear hR;simp only[Aj,Ae,yC,yz,yy,yw,q6,q8];simp;clear q6 q8;have cq:=AA hG;clear x0 x1 x2 x3 y0 y1 y2 y3 y4 y5 D0 D1 hG av au cK;go_wp2_with fail;refine(CD.out _ cq.out).mono ?_;rintro r w5 ⟨v',rfl,hO,cn⟩;have da:=AA (cq.out.trans (cn.mono cq.out.size));have S5:=AA (S4.out.below da.out);have HO:=AA (hO.lower cq.out.size);obtain⟨a9,c9,e9,_,_⟩:=hO.rd.shape;have gD:=AA hO.rd;generalize wX _=n9 at e9;subst e9;clear hO cn CD;obtain⟨x0,x1,x2,x3⟩:=S5.out.xs;obtain⟨y0,y1,y2,y3,y4,y5⟩:=S5.out.ys6;obtain⟨av,au,_,_⟩:=S5.out.lts;have cK:=S5.out.yU;obtain⟨_,_,D0,D1,_⟩:=S5.out.env (j:=an) (by rw[HK.out.zN];exact bs);have b5:(AJ k.zX an).root<12:=by have:=zA HK.out bs;omega
       have RM:=S5.out.K.1;have RI:=S5.out.K.2.1;have CX:=AA (λW (hW:Below w5.heap.size w5 W)=>JC _ k.mem (AJ k.zX an).root W (RM.below hW) (At HK.out).1 b5);have CA:=AA (λW (hW:Below w5.heap.size w5 W) v2 (h2:Aw W v2 (A0 (Ed k.mem (AJ k.zX an).root)))=>by have:=F7 _ v2 _ k.zZ (Ed k.mem (AJ k.zX an).root) rs W (BD.below RI hW) h2 (BD.below gD.out hW) (λf hf=>by have:=zw b5 f ((GD b5 f).1 hf);have:=HK.out.len;omega) (CJ (At HK.out).2.1) gy.out;rw[Fv (GD b5)] at this;exact this);generalize hbb:BG k.zZ (BZ k.mem (AJ k.zX an).root) rs=bb at CA ay;clear hbb RM RI b5;go_wp2_with fail;refine BN 13 102 [.p w.heap.size 1,.s gi 12 al,.p w.heap.size 0,.v (.slice am dq cm),.p w.heap.size 2,.s ge 3 ar,.p (w.heap.size+1) 2,.i ((an:Int)),.p ge (an*2),.p ge (an*2+1),.i ((AJ k.zX an).root),.z,.v (.slice a9 n9 c9)] (λix vv ww=>match ix with
        |11=>AF w5.heap.size ww vv (A0 (Ed k.mem (AJ k.zX an).root))
        |_=>True) ?_ ?_ ?_
       .intro i hi o ho a wx Hb Hd hG K HK
        have bw:=bc hG av y2;have bu:=bc hG cK D1
        match i,hi with
        |0,_|2,_|4,_|6,_|9,_|12,_=>exact sP ho HK Hb Hd
        |1,_=>exact sL ho HK Hb Hd (hl:=F8 (bc hG au x1))
        |3,_=>exact sL ho HK Hb Hd (hl:=GT (bc hG au x0))
        |5,_=>exact sL ho HK Hb Hd (hl:=No (bc hG au x2))
        |7,_|10,_=>exact sL ho HK Hb Hd (hl:=Fp ‹_›)
        |8,_=>exact sI ho HK Hb Hd (hr:=by clear Hd Hb HK;go_simp)
        |11,_=>exact sC ho HK Hb Hd (CX.out _ hG) (by rintro e w_ ⟨v9,rfl,hO,a0⟩;exact⟨_,rfl,(BO hO hG.size),a0⟩)
       .intro i hi vv wz cP a4 hz
        match i,hi with
        |11,_=>exact(AF.below hz a4)
        |0,_|1,_|2,_|3,_|4,_|5,_|6,_|7,_|8,_|9,_|10,_|12,_=>exact hz
       .intro vs wx hR hG
        have q1:(vs 1)=.slice (some ⟨gi,0,none⟩) 12 al:=BW hR 1;have ct:AF w5.heap.size wx (vs 11) (A0 (Ed k.mem (AJ k.zX an).root)):=BW hR 11;have bm:(vs 12)=.slice a9 n9 c9:=BW hR 12;clear hR;simp only[Aj,Ae,yC,yz,yy,yw,q1,bm];simp;generalize vs 11=z11 at ct ⊢;clear q1 bm;have HQ:=AA ct.rd;obtain⟨a8,c8,e8,_⟩:=ct.rd.open;generalize wX _=n8 at e8;subst e8;have eh:=AA hG;clear x0 x1 x2 x3 y0 y1 y2 y3 y4 y5 D0 D1 hG av au cK ct;go_wp2_with fail;refine(CA.out _ eh.out _ HQ.out).mono ?_;rintro r w7 ⟨rfl,cY⟩;have fF:=AA ((da.out.trans (eh.out.mono da.out.size)).trans (cY.mono (yB da.out.size eh.out.size)));have S7:=AA (S4.out.below fF.out);have gF:=AA (AQ.below (AQ.below HO.out eh.out) cY);clear cY CA HQ;cases bb
        focus
         have bl:=AA (show Ad k ⟨9,(en:Int),(an:Int),b,c,nm⟩=(k,0,2) by rw[ay.out];rfl)
         obtain⟨⟨x0,x1,x2,x3⟩,⟨⟨z0,z1,z2,z3⟩,a6⟩,HE,HR⟩:=S7.out.yH az (v:=0) (code:=2) (bl.out) (by decide)
        rotate_left
        focus
         have bl:=AA (show Ad k ⟨9,(en:Int),(an:Int),b,c,nm⟩=({k with zX:=As k.zX an (BU rs)},0,0) by rw[ay.out];rfl)
         have T:=AA (S4.out.zT HK.out.zN.symm fF.out (j:=an) (by rw[HK.out.zN];exact bs) gF.out);obtain⟨_,_,gr,_,_⟩:=S7.out.env (j:=an) (by rw[HK.out.zN];exact bs);have Fe:=S7.out.fze (an*2);have fO:=S7.out.xs.2.2.1;obtain⟨_,_,yo,_⟩:=S7.out.ys6;generalize hW9:w7.setCell _ _=W9 at T;obtain⟨⟨x0,x1,x2,x3⟩,⟨⟨z0,z1,z2,z3⟩,a6⟩,HE,HR⟩:=T.out.fin az (v:=0) (code:=0) (bl.out)
        rotate_left
        all_goals
         go_wp2_with ((try simp only[xQ,Exit.then]);with_reducible refine yk ?_ rfl HR.out;obtain⟨E0,E1,E2,E3⟩:=HE.out;simp[results,wG,go_sem,E0,E1,E2,E3])
theorem Vt(h:DP lo w mv iv ev cv k)(az:lo<=w.heap.size)(hk:DJ k)(call:Aa)(he:0<=call.e/\call.e<3)(h2:call.k=10∨call.k=11):
 Calls prog 178 #[.agg #[mv,iv,ev,cv],.agg call.cs] w (Kr lo w (Ad k call)):=by
 have bk:=SC.start h az call;have P0:=(XF (k:=k) h2).trans aB;have cU:=(At hk).1;obtain⟨gm,aq,e7,_⟩:=ET.mems bk cU;obtain⟨ge,ar,e9,_,_⟩:=bk.zX (by rw[hk.zN];omega);rw[hk.zN] at e9;obtain⟨am,dq,cm,ai,ni,ci,ae,ep,ce,ac,nc,cc,em,ei,ee,ec⟩:=bk.zQ;subst e7 e9 ei ec;clear em ee;have S0:=AA bk;obtain⟨kk,e,ra,b,c,nm⟩:=call;simp only at he h2;obtain⟨en,rfl⟩:∃n:Nat,e=(n:Int):=⟨e.toNat,by omega⟩
 have df:en<3:=by omega
 have dB:(en:Int)<3:=by omega
 simp only[Aa.cs,yb] at S0 P0 ⊢;obtain⟨x0,x1,x2,x3⟩:=S0.out.xs;obtain⟨y0,y1,y2,y3,y4,y5⟩:=S0.out.ys6;obtain⟨_,_,_,D1,_⟩:=S0.out.env (j:=en) (by rw[hk.zN];exact df);obtain⟨rt,hrt⟩:∃r,(AJ k.zX en).root=r:=⟨_,rfl⟩
 rw[hrt] at P0 D1;have dv:=AA hrt;have HP:=AA P0;have HK:=AA hk;have cN:=AA cU;obtain⟨bad,hbad⟩:∃b',decide (Be ra 0 63=false∨rt<0∨(kk=11/\EA b=false))=b':=⟨_,rfl⟩
 have HB:=AA hbad;clear h bk he hk P0 cU hrt hbad h2;go_in;go_upto_region 2 with fail;clear D1;go_cut [37] (λfT wx=>fT=.bool bad/\SC lo w.heap.size ⟨kk,(en:Int),ra,b,c,nm⟩ w wx (.slice (some ⟨gm,0,none⟩) 12 aq) (.slice ai ni ci) (.slice (some ⟨ge,0,none⟩) 3 ar) (.slice ac nc cc) k)
 case first=>
  go_wp2_with fail;refine(BK (Jw _ _)).mono ?_;rintro r w1 ⟨rfl,br⟩;have S1:=AA (S0.out.below br);clear x0 x1 x2 x3 y0 y1 y2 y3 y4 y5 br;obtain⟨y0,y1,y2,y3,y4,y5⟩:=S1.out.ys6;cases e1:Be ra 0 63
  .have E1:=AA e1
   clear e1;go_wp2_with fail;go_meet
   case rel=>exact⟨by rw[<-HB.out];simp[E1.out],S1.out⟩
  have E1:=AA e1;clear e1
  by_cases h0:rt<0
  .have H0:=AA h0
   go_wp2_with fail;go_meet
   case rel=>exact⟨by rw[<-HB.out];simp[H0.out],S1.out⟩
  have H0:=AA h0;cases tk:(kk==11)
  .have TK:=AA (show kk≠11 by simpa using tk)
   go_wp2_with fail;go_meet
   case rel=>exact⟨by rw[<-HB.out];simp[E1.out,H0.out,TK.out],S1.out⟩
  have TK:=AA (show kk=11 by simpa using tk);go_wp2_with fail;refine(BK (Cv _ _ _ _)).mono ?_;rintro r w2 ⟨rfl,a0⟩;have S2:=AA (S1.out.below a0);clear y0 y1 y2 y3 y4 y5 a0;go_wp2_with fail;go_meet
  case rel=>exact⟨by rw[<-HB.out];unfold EA;cases hw:Be b 0 9999<;>simp[E1.out,H0.out,TK.out,hw],S2.out⟩
 case rest=>
 obtain⟨rfl,hS⟩:=hcut;have S2:=AA hS;obtain⟨w2,rfl⟩:∃w2,w2=wc:=⟨_,rfl⟩
 clear x0 x1 x2 x3 y0 y1 y2 y3 y4 y5 hS S0;cases bad
 rotate_left
 .have ay:=AA (HP.out.trans (if_pos (of_decide_eq_true HB.out)))
  clear HP HB;obtain⟨⟨x0,x1,x2,x3⟩,⟨⟨z0,z1,z2,z3⟩,a6⟩,HE,HR⟩:=S2.out.yH az (v:=0) (code:=3) (ay.out) (by decide);go_wp2_with ((try simp only[xQ,Exit.then]);with_reducible refine yk ?_ rfl HR.out;obtain⟨E0,E1,E2,E3⟩:=HE.out;simp[results,vS,go_sem,E0,E1,E2,E3])
 have cH:=HP.out.trans (if_neg (of_decide_eq_false HB.out));have eB:=of_decide_eq_false HB.out;have ab:=Ab.1 (show Be ra 0 63=true by cases e1:Be ra 0 63;(· exact absurd (.inl e1) eB);(· rfl));obtain⟨an,rfl⟩:∃n:Nat,ra=(n:Int):=⟨ra.toNat,by omega⟩
 have bs:an<64:=by omega
 obtain⟨rn,rfl⟩:∃n:Nat,rt=(n:Int):=⟨rt.toNat,by have:¬rt<0:=λx=>eB (.inr (.inl x));omega⟩
 have b5:rn<12:=by have:=zA HK.out df;rw[dv.out] at this;omega
 simp only[yb] at cH;have eR:=AA cH;clear cH HP HB eB ab;obtain⟨x0,x1,x2,x3⟩:=S2.out.xs;obtain⟨y0,y1,y2,y3,y4,y5⟩:=S2.out.ys6;have CF:=AA (Pj _ k.zW (en:Int) ((an:Int)/4) w2 S2.out.K.2.2.2);go_wp2_with fail;refine CF.out.mono ?_;rintro r w3 ⟨rfl,bA⟩;have S3:=AA (S2.out.below bA);clear x0 x1 x2 x3 y0 y1 y2 y3 y4 y5 bA CF;obtain⟨x0,x1,x2,x3⟩:=S3.out.xs;obtain⟨y0,y1,y2,y3,y4,y5⟩:=S3.out.ys6;have FC:=AA (λh=>Vc (c:=k.zW) (e:=(en:Int)) (p:=((an:Int)/4)) h);generalize hat:IB k.zW (en:Int) ((an:Int)/4)=at_ at*;have fG:=AA hat;clear hat;go_upto_if 52 with fail;have cn:=AE w3 (.cells #[.int .i64 0,.int .i64 ((an:Int)%4),.bool false] 114);have n5:=yv w3 (.cells #[.int .i64 0,.int .i64 ((an:Int)%4),.bool false] 114);have gT:=S3.out.lts.2.1;have S5:=AA (S3.out.below cn);have dM:=AA S3.out.lo;have da:=AA cn;have gh:=cn.size;clear x0 x1 x2 x3 y0 y1 y2 y3 y4 y5 cn;generalize hW5:w3.alloc _=W5 at*;generalize hqq:w3.heap.size=q at*;have gz:=AA hqq;clear hqq;have N5:=AA n5;clear n5 hW5;have gU:q≠w.heap.size:=by omega
 have f7:w.heap.size≠q:=by omega
 go_cut [10,11] (λdQ gO wx=>∃(fr:Nat) (wb:Bool),fr<12/\Bu k.mem rn an=(0,fr,wb)/\(SC lo w.heap.size ⟨kk,(en:Int),(an:Int),b,c,nm⟩ w wx (.slice (some ⟨gm,0,none⟩) 12 aq) (.slice ai ni ci) (.slice (some ⟨ge,0,none⟩) 3 ar) (.slice ac nc cc) k)/\wx.heap[q]?=some (.cells #[.int .i64 fr,.int .i64 ((an:Int)%4),.bool wb] 114 (0,0)))
 case first=>
  obtain⟨x0,x1,x2,x3⟩:=S5.out.xs;obtain⟨y0,y1,y2,y3,y4,y5⟩:=S5.out.ys6;obtain⟨c0,c1,c2⟩:=Fx N5.out;have a6:=AK N5.out
  by_cases cj:at_<0
  .have CW:=AA (Ph _ k.mem rn an W5 S5.out.K.1 cN.out b5 bs)
   go_wp2_with fail;refine CW.out.mono ?_;rintro r w6 ⟨rfl,eG⟩;have S6:=AA (S5.out.below eG);have N6:=AA (AC N5.out eG);clear x0 x1 x2 x3 y0 y1 y2 y3 y4 y5 c0 c1 c2 a6 eG CW;rw[show Il k.mem rn an=.tuple #[if(Bu k.mem rn an).1=0 then MW (Bu k.mem rn an).2.1 an (Bu k.mem rn an).2.2 else Et,.int .i64 (Bu k.mem rn an).1] from rfl];have gu:=AA (λfr wb (h:Bu k.mem rn an=(0,fr,wb))=>WZ h);generalize cG:Bu k.mem rn an=res at*;clear cG;obtain⟨cd,fr,wb⟩:=res
   by_cases dY:cd=0
   .subst dY
    have cX:=gu.out fr wb rfl;rw[if_pos rfl];unfold MW;rw[show((an%4:Nat):Int)=(an:Int)%4 by omega];have B7:=AE w6 (.cells #[.int .i64 fr,.int .i64 ((an:Int)%4),.bool wb] 114);obtain⟨T8,n8⟩:=(S6.out.below B7).place (by decide) (AC N6.out B7) (yB dM.out (yt _)) (.int .i64 fr) (.int .i64 ((an:Int)%4)) (.bool wb);have T8:=AA T8;have N8:=AA n8;obtain⟨c0,c1,c2⟩:=Fx (AC N6.out B7);have a6:=AK (AC N6.out B7);have f2:q≠w6.heap.size:=by have:=AW N6.out;omega
    have fZ:w6.heap.size≠q:=λe=>f2 e.symm
    clear B7 n8;go_wp2_with fail;go_meet
    case rel=>exact⟨fr,wb,cX,rfl,T8.out,N8.out⟩
   .rw[if_neg dY]
    unfold Et;have B7:=AE w6 (.cells #[.int .i64 0,.int .i64 0,.bool false] 114);have S7:=AA (S6.out.below B7);have gd:(cd !=0)=true:=by simp[dY]
    have ay:=AA (eR.out.trans (if_pos dY));clear B7;obtain⟨⟨x0,x1,x2,x3⟩,⟨⟨z0,z1,z2,z3⟩,a6⟩,HE,HR⟩:=S7.out.yH az (v:=0) (code:=3) (ay.out) (by decide);go_wp2_with ((try simp only[xQ,Exit.then]);with_reducible refine yk ?_ rfl HR.out;obtain⟨E0,E1,E2,E3⟩:=HE.out;simp[results,vS,go_sem,E0,E1,E2,E3])
  .obtain⟨j,hj,ej,hs⟩:=FC.out (by omega)
   rw[show(an:Int)/4=((an/4:Nat):Int) by omega] at hs;obtain⟨fr,cX,eE,cG⟩:=UF HK.out hj hs rfl;generalize(AT k.zW j).w=wb at eE cG;obtain⟨a8,c8,e8,_,_,H8⟩:=BD.open Ch (by decide) S3.out.K.2.2.2;cases e8;obtain⟨bc,dp,rfl,eF,D0,D1,D2,D3⟩:=H8.zL hj;rw[eE] at D2 D3;rw[gz.out] at eF;simp only at D2 D3;have g4:=(da.out.cell (p:=⟨bc,dp+j*4+2,none⟩) eF).trans D2;have g3:=(da.out.cell (p:=⟨bc,dp+j*4+3,none⟩) eF).trans D3;obtain⟨T8,n8⟩:=S5.out.place2 (by decide) N5.out (yB dM.out (yt _)) (.int .i64 fr) (.bool wb);have T8:=AA T8;have N8:=AA n8;have b7:(j:Int)<k.zW.length:=by omega
   have gg:bc≠q:=by omega
   have fY:q≠bc:=by omega
   rw[dv.out] at cG;rw[yb] at cG;subst ej;clear hs eE D0 D1 D2 D3 n8 H8;go_wp2_with fail;go_meet
   case rel=>exact⟨fr,wb,cX,cG,T8.out,N8.out⟩
 case rest=>
  obtain⟨fr,wb,cX,cG,s8,n8⟩:=hcut;generalize wc=w8 at*;have S8:=AA s8;have N8:=AA n8;have cH:=eR.out;rw[cG,if_neg (by simp),show((an:Int)%4).toNat=an%4 by omega] at cH;simp only at cH;clear s8 n8 eR cG;obtain⟨x0,x1,x2,x3⟩:=S8.out.xs;obtain⟨y0,y1,y2,y3,y4,y5⟩:=S8.out.ys6;obtain⟨p0,p1,p2⟩:=Fx N8.out;go_upto_region 13 with fail;go_cut [87] (λfQ wx=>fQ=.bool ((kk==11)&&!wb)/\wx=w8)
  case first=>
   cases tk:(kk==11)
   all_goals
    go_wp2_with fail;go_meet
    case rel=>exact⟨by rw[tk];rfl,rfl⟩
  case rest=>
  obtain⟨rfl,rfl⟩:=hcut;obtain⟨w8,rfl⟩:∃w8,w8=wc:=⟨_,rfl⟩
  cases a0:((kk==11)&&!wb)
  rotate_left
  .have ay:=AA (cH.trans (if_pos (by simpa using a0)))
   obtain⟨⟨x0,x1,x2,x3⟩,⟨⟨z0,z1,z2,z3⟩,a6⟩,HE,HR⟩:=S8.out.yH az (v:=0) (code:=1) (ay.out) (by decide);go_wp2_with ((try simp only[xQ,Exit.then]);with_reducible refine yk ?_ rfl HR.out;obtain⟨E0,E1,E2,E3⟩:=HE.out;simp[results,vS,go_sem,E0,E1,E2,E3])
  have ay:=AA (cH.trans (if_neg (by simpa using a0)));clear cH a0;go_upto_if 90 with fail;clear x0 x1 x2 x3 y0 y1 y2 y3 y4 y5 p0 p1 p2;go_cut [] (λwx=>∃cv,(SC lo w.heap.size ⟨kk,(en:Int),(an:Int),b,c,nm⟩ w wx (.slice (some ⟨gm,0,none⟩) 12 aq) (.slice ai ni ci) (.slice (some ⟨ge,0,none⟩) 3 ar) cv {k with zW:=NJ k.zW (en:Int) ((an:Int)/4) fr wb})/\wx.heap[q]?=some (.cells #[.int .i64 fr,.int .i64 ((an:Int)%4),.bool wb] 114 (0,0)))
  case first=>
   by_cases cj:at_<0
   .obtain⟨x0,x1,x2,x3⟩:=S8.out.xs
    obtain⟨y0,y1,y2,y3,y4,y5⟩:=S8.out.ys6;obtain⟨p0,p1,p2⟩:=Fx N8.out;have CP:=AA (Rs _ k.zW ⟨(en:Int),(an:Int)/4,(fr:Int),wb⟩ w8 S8.out.K.2.2.2 (Pd HK.out));go_wp2_with fail;refine CP.out.mono ?_;rintro r w9 ⟨v',rfl,hO,bp⟩;have T9:=AA (S8.out.zW bp hO);have N9:=AA (show(w9.setCell ⟨w.heap.size,3,none⟩ v').heap[q]?=_ from Ap (AC N8.out bp) (Aq w9 w.heap.size 3 v') f7);have hU:=AA (show NJ k.zW (en:Int) ((an:Int)/4) fr wb=My k.zW ⟨(en:Int),(an:Int)/4,(fr:Int),wb⟩ by unfold NJ;rw[fG.out,if_pos cj]);have gk:=AK (S8.out.below bp).yI.1;have e0:=(S8.out.below bp).xs.2.2.2;clear x0 x1 x2 x3 y0 y1 y2 y3 y4 y5 p0 p1 p2 CP;obtain⟨a9,c9,e9,_,_⟩:=hO.rd.shape;generalize wX _=n9 at e9;subst e9;clear hO bp;go_wp2_with fail;go_meet
    case rel=>exact⟨_,by rw[hU.out];exact T9.out,N9.out⟩
   .have hU:=AA (show NJ k.zW (en:Int) ((an:Int)/4) fr wb=k.zW by unfold NJ;rw[fG.out,if_neg (by omega)])
    go_wp2_with fail;go_meet
    case rel=>exact⟨_,by rw[hU.out];exact S8.out,N8.out⟩
  case rest=>
   obtain⟨cv,dQ,ff⟩:=hcut;generalize wc=w10 at*;have cg:=AA dQ;have ed:=AA ff;obtain⟨dj,c9,e9,_,_⟩:=(dQ.K.2.2.2).shape;generalize wX _=nc9 at e9;subst e9;generalize c9=cc9 at*;clear dQ ff S8 N8;obtain⟨x0,x1,x2,x3⟩:=cg.out.xs;obtain⟨y0,y1,y2,y3,y4,y5⟩:=cg.out.ys6;obtain⟨p0,p1,p2⟩:=Fx ed.out;obtain⟨av,au,_,_⟩:=cg.out.lts;have dy:=AW ed.out;cases tk:(kk==11)
   .have dc:=AA tk
    obtain⟨gw,bi,D,cW,dC,hC,_,_,_,eA,_⟩:=ET.mrow cg.out cN.out cX;have cl:gm<w10.heap.size:=yA _ _ D;have dz:(fr:Int)<12:=by omega
    have fv:(an:Int)%4<4:=by omega
    have Dw:=hC (an%4) (by omega);obtain⟨f3,di⟩:=cg.out.rs _ (xx.2 rfl);have fU:gw≠w.heap.size+2:=eA _ _ _ di (by decide);clear eA;have fe:q≠w.heap.size+2:=λe=>by rw[e] at ed;rw[ed.out] at di;simp at di
    have fV:gm≠w.heap.size+2:=λe=>by obtain⟨vs,o⟩:=cg.out.yI.2.2.1;obtain⟨cu,gb⟩:=A6 o.1 gm rfl;exact Bp gb di (by decide) e
    have bl:=ay.out.trans (if_neg (by simpa using dc.out));generalize Ar k.mem fr (an%4)=wd at Dw bl;have bl:=AA bl;obtain⟨⟨z0,z1,z2,z3⟩,a6⟩:=cg.out.zs;go_wp2_with fail;refine EB 14 131 (λix=>ix==11) [.a #[.slice (some ⟨gm,0,none⟩) 12 aq,.slice ai ni ci,.slice (some ⟨ge,0,none⟩) 3 ar,.slice dj nc9 cc9],.p w.heap.size 0,.s gm 12 aq,.p q 0,.i ((fr:Int)),.p gm fr,.s gw 4 bi,.p q 1,.i (((an:Int)%4)),.p gw (an%4),.i wd,.z,.i wd,.i 0] (λll ix vv ww=>match ix with
     |_=>True) (λll ww=>GA w10 (w.heap.size+2) (.slice (some ⟨gm,0,none⟩) 12 aq) (.slice ai ni ci) (.slice (some ⟨ge,0,none⟩) 3 ar) (.slice dj nc9 cc9) (ll 11) ww) ?_ ?_ ?_ ?_ ?_ ?_
    .exact A8 (yD _ _) 1
    .exact λ_ _ _ _ _ _ _ _ _ _ _ _ h=>h
    .intro ll i wz cP hi hS dh a4 hg
     show GA _ _ _ _ _ _ (GP ll i 11) _
     rw[GH (by rintro rfl;cases hS)];exact GA.grow hg a4
    .intro i hi hS o ho a wx Hb ll Hd HL hG K HK
     match i,hi,hS with
     |0,_,_=>have cr:=Ba HL 11;have be:=(show wx.cell? ⟨w.heap.size,0,none⟩=some (.slice (some ⟨gm,0,none⟩) 12 aq) from(GA.cell hG au (by simp)).trans x0);have a5:=(show wx.cell? ⟨w.heap.size,1,none⟩=some (.slice ai ni ci) from(GA.cell hG au (by simp)).trans x1);have bY:=(show wx.cell? ⟨w.heap.size,2,none⟩=some (.slice (some ⟨ge,0,none⟩) 3 ar) from(GA.cell hG au (by simp)).trans x2);have bw:=(show wx.cell? ⟨w.heap.size,3,none⟩=some (.slice dj nc9 cc9) from(GA.cell hG au (by simp)).trans x3);exact Nl ho HK Hb Hd HL (hl:=Np ‹_› ‹_› ‹_› ‹_›)
     |1,_,_|3,_,_|7,_,_|12,_,_|13,_,_=>exact Wg ho HK Hb Hd HL
     |2,_,_=>have be:=(show wx.cell? ⟨w.heap.size,0,none⟩=some (.slice (some ⟨gm,0,none⟩) 12 aq) from(GA.cell hG au (by simp)).trans x0);exact Nl ho HK Hb Hd HL (hl:=GT ‹_›)
     |4,_,_=>have bu:=(show wx.cell? ⟨q,0,none⟩=some (.int .i64 fr) from(GA.cell hG dy fe).trans p0);exact Nl ho HK Hb Hd HL (hl:=Fp ‹_›)
     |6,_,_=>have bN:=(show wx.cell? ⟨gm,fr,none⟩=some (.slice (some ⟨gw,0,none⟩) 4 bi) from(GA.cell hG cl fV).trans D);exact Nl ho HK Hb Hd HL (hl:=J5 ‹_›)
     |8,_,_=>have ds:=(show wx.cell? ⟨q,1,none⟩=some (.int .i64 (((an:Int)%4))) from(GA.cell hG dy fe).trans p1);exact Nl ho HK Hb Hd HL (hl:=Fp ‹_›)
     |10,_,_=>have dr:=(show wx.cell? ⟨gw,an%4,none⟩=some (.int .i64 wd) from(GA.cell hG cW fU).trans Dw);exact Nl ho HK Hb Hd HL (hl:=Fp ‹_›)
     |11,_,hs=>cases hs
     |5,_,_=>obtain rfl:=yF ho;have d2:(a.tmps[122]?.getD undef)=.slice (some ⟨gm,0,none⟩) 12 aq:=DV Hd HL 2;have d4:(a.tmps[124]?.getD undef)=.int .i64 fr:=DV Hd HL 4;clear Hd Hb;refine yE ?_;go_simp;exact HK.out _ _ rfl (yD _ _)
     |9,_,_=>obtain rfl:=yF ho;have d6:(a.tmps[126]?.getD undef)=.slice (some ⟨gw,0,none⟩) 4 bi:=DV Hd HL 6;have d8:(a.tmps[128]?.getD undef)=.int .i64 (((an:Int)%4)):=DV Hd HL 8;clear Hd Hb;refine yE ?_;go_simp;exact HK.out _ _ rfl (yD _ _)
    .intro i hi hS o ho a wx Hb ll Hd HL hG K HK
     match i,hi,hS with
     |0,_,hs|1,_,hs|2,_,hs|3,_,hs|4,_,hs|5,_,hs|6,_,hs|7,_,hs|8,_,hs|9,_,hs|10,_,hs|12,_,hs|13,_,hs=>cases hs
     |11,_,_=>
      obtain rfl:=yF ho;have e4:a.tmps[4]?.getD undef=.pointer (some ⟨w.heap.size+2,0,none⟩):=eg (Oj Hb 4);have d0:(a.tmps[120]?.getD undef)=.agg #[.slice (some ⟨gm,0,none⟩) 12 aq,.slice ai ni ci,.slice (some ⟨ge,0,none⟩) 3 ar,.slice dj nc9 cc9]:=DV Hd HL 0;clear Hd Hb;rw[HL.out.1] at hG;replace hG:Below w10.heap.size w10 wx:=hG;have B2:=AC di hG;obtain⟨c0,c1,c2,c3⟩:=AG B2;have gY:=AK B2;refine yE ?_;go_simp;exact HK.out undef _ trivial (by show GA _ _ _ _ _ _ (GP ll 11 11) _;rw[Gk];exact⟨wx,hG,yD _ _⟩) (λj b7 b9 bK hu=>match j,b9 with
       |0,_|1,_|2,_|3,_|4,_|5,_|6,_|7,_|8,_|9,_|10,_|12,_|13,_=>hu
       |11,_=>absurd rfl b7)
    .intro vs wx ll a7 hR hG
     have bm:(vs 12)=.int .i64 wd:=BW hR 12;have b8:(vs 13)=.int .i64 0:=BW hR 13;clear hR;simp only[De,Bb,yC,yz,yy,yw,bm,b8];simp;clear bm b8;rw[a7 11 (by decide)] at hG;obtain⟨wz,h1,h2⟩:=hG;have eK:Below (Ex wz (w.heap.size+2) (.slice (some ⟨gm,0,none⟩) 12 aq) (.slice ai ni ci) (.slice (some ⟨ge,0,none⟩) 3 ar) (.slice dj nc9 cc9)).heap.size (Ex wz (w.heap.size+2) (.slice (some ⟨gm,0,none⟩) 12 aq) (.slice ai ni ci) (.slice (some ⟨ge,0,none⟩) 3 ar) (.slice dj nc9 cc9)) wx:=by simpa[Ex] using h2
     obtain⟨dG,dO⟩:=(cg.out.below h1).ret (yB az (wI _ _)) (wI _ _) (v:=wd) (code:=0) bl.out;obtain⟨E0,E1,E2,E3⟩:=AG (AC dG eK);have HR:=AA (dO.below (by have:=(cg.out.below h1).lo;simpa using this) eK);have HE:=AA (xZ E0 (xZ E1 (xZ E2 E3)));clear x0 x1 x2 x3 y0 y1 y2 y3 y4 y5 p0 p1 p2 z0 z1 z2 z3 a6 D Dw E0 E1 E2 E3 dG dO h1 h2 eK di;go_wp2_with fail;exact yk (v:=.tuple #[.agg #[_,_,_,_],.int .i64 wd,.int .i64 0]) (by simp[results,vS,go_sem,HE.out]) rfl HR.out
   .have dc:=AA tk
    obtain⟨gw,bi,D,cW,dC,_⟩:=ET.mrow cg.out cN.out cX;have cl:gm<w10.heap.size:=yA _ _ D;have dz:(fr:Int)<12:=by omega
    have fv:(an:Int)%4<4:=by omega
    have bl:=AA (ay.out.trans (if_pos (by simpa using dc.out)));go_wp2_with fail;refine AY 10 131 [.p w.heap.size 0,.s gm 12 aq,.p q 0,.i ((fr:Int)),.p gm fr,.s gw 4 bi,.p q 1,.i (((an:Int)%4)),.p (w.heap.size+1) 3,.i b] (λ_ _ _=>True) ?_ ?_
    .intro i hi o ho a wx Hb Hd hG K HK
     have a5:=bc hG dy p0;have bw:=bc hG dy p1;have bu:=bc hG av y3
     match i,hi with
     |0,_|2,_|6,_|8,_=>exact sP ho HK Hb Hd
     |1,_=>exact sL ho HK Hb Hd (hl:=GT (bc hG au x0))
     |3,_|7,_|9,_=>exact sL ho HK Hb Hd (hl:=Fp ‹_›)
     |4,_=>exact sI ho HK Hb Hd (hr:=by clear Hd Hb HK;go_simp)
     |5,_=>exact sL ho HK Hb Hd (hl:=J5 (bc hG cl D))
    .intro vs wx hR hG
     have q5:(vs 5)=.slice (some ⟨gw,0,none⟩) 4 bi:=BW hR 5;have q7:(vs 7)=.int .i64 (((an:Int)%4)):=BW hR 7;have q9:(vs 9)=.int .i64 b:=BW hR 9;clear hR;simp only[Aj,Ae,yC,yz,yy,yw,q5,q7,q9];simp;clear q5 q7 q9;have co:=AA (cg.out.below hG);obtain⟨gj,dJ,D2,_,_,hC,Fr,_,_,fW,hS⟩:=ET.mrow co.out cN.out cX;clear fW;have eD:=D2.symm.trans ((hG.cell (p:=⟨gm,fr,none⟩) cl).trans D);cases eD;have D3:=hC (an%4) (by omega);have cC:=AA (hS (an%4) b (by omega));generalize hW9:wx.setCell _ _=W9 at cC;clear x0 x1 x2 x3 y0 y1 y2 y3 y4 y5 p0 p1 p2 D D2 hS hG cg hC dz fv cW dC cl av au dy;obtain⟨⟨x0,x1,x2,x3⟩,⟨⟨z0,z1,z2,z3⟩,a6⟩,HE,HR⟩:=cC.out.fin az (v:=0) (code:=0) (bl.out);go_wp2_with ((try simp only[xQ,Exit.then]);with_reducible refine yk ?_ rfl HR.out;obtain⟨E0,E1,E2,E3⟩:=HE.out;simp[results,vS,go_sem,E0,E1,E2,E3])
def aD(w w':World):Prop:=∀(b:Nat)(cu:Array Value),w.heap[b]?=some (.cells cu 28 (0,0))->w'.heap[b]?=w.heap[b]?
theorem Kr.up{T:Nat}{cs:Array Value}{b0 b:Nat}{W W1:World}{e m' i' e' c':Value}{res:ML}(h:ET T cs [b] lo w.heap.size b0 w W m i e c k)(az:lo<=b)(gX:w.heap.size<=b)
 (hs:bZ m' i' e' c')(hK:res.2.2=0->DP lo W1 m' i' e' c' res.1)(hb:Below lo W W1)(hf:aD W W1):
 W1.heap[b]?=some (.cells #[.slice none 0 0,.slice none 0 0,.slice none 0 0,.slice none 0 0] 28 (0,0))/\
 ((((W1.setCell ⟨b,0,none⟩ m').setCell ⟨b,1,none⟩ i').setCell ⟨b,2,none⟩ e').setCell ⟨b,3,none⟩ c').heap[b]?=some (.cells #[m',i',e',c'] 28 (0,0))/\
 Kr lo w res (.returned (.tuple #[.agg #[m',i',e',c'],.int .i64 res.2.1,.int .i64 res.2.2])) ((((W1.setCell ⟨b,0,none⟩ m').setCell ⟨b,1,none⟩ i').setCell ⟨b,2,none⟩ e').setCell ⟨b,3,none⟩ c'):=by
 obtain⟨eA,fu⟩:=h.rs b (xx.2 rfl);have hB:=(hf b _ fu).trans fu;have bz:=An (An (An (Aq W1 b 0 m') 1 i') 2 e') 3 c';refine⟨hB,Cs hB,m',i',e',c',rfl,hs,λhc=>?_,((((h.bel.trans hb).setCell az _).setCell az _).setCell az _).setCell az _,λq cu hq=>?_⟩
 .obtain⟨⟨vs,o1⟩,o2,⟨ps,o3⟩,o4⟩:=hK hc
  exact⟨⟨vs,o1.yL bz hB⟩,o2.yL bz hB,⟨ps,o3.yL bz hB⟩,o4.yL bz hB⟩
 .have e1:=(h.kf q cu (by have:=AW hq;omega) hq).trans hq
  have e2:=(hf q cu e1).trans e1;exact(Ap e2 bz (by have:=AW hq;omega)).trans hq.symm
theorem PU(x:Int):∃(fn:Nat) (wr:Bool),Sy x=.tuple #[.int .i64 fn,.bool wr,.bool (Bh x)]/\fn<12/\(Bh x=true->fn=A9 x):=by
 cases h:Bh x
 .exact⟨0,false,Eg h,by decide,λh=>by cases h⟩
 .exact⟨A9 x,KQ x,EX h,EP h,λ_=>rfl⟩
theorem Tv{a e:Nat}(h:e∈Fd k a):e<3:=by rw[<-Ij] at h;exact WX h
theorem YA{a:Nat}:(Fd k a).length<=3:=by rw[<-Ij];exact Lb
theorem Yc{c:Aa}(h:Dk k c=true)(ht:Bd (zS k.zZ c.a.toNat).k=true):Bh c.c=true->(zS k.zZ (A9 c.c)).k≠3:=by intro hg;unfold Dk at h;rw[if_pos hg,decide_eq_true_eq] at h;simp only[Bd,xl,decide_eq_true_eq] at ht;omega
theorem QE{zZ:List AU}{n:Int}(h:Bh x=false):A4 zZ x n=zZ:=by unfold A4;rw[if_neg (by rw[h];decide)]
theorem SU{zZ:List AU}{n:Int}{f:Nat}(h:Bh x=true)(hf:f=A9 x):A4 zZ x n=As zZ f (JS n):=by unfold A4;rw[if_pos h,hf]
theorem Vv(h:DP lo w mv iv ev cv k)(az:lo<=w.heap.size)(hk:DJ k)(call:Aa)(he:0<=call.e/\call.e<3)(h2:call.k=6)(hc:call.c<=9223372036854775807):
 Calls prog 175 #[.agg #[mv,iv,ev,cv],.agg call.cs] w (Kr lo w (Ad k call)):=by
 have bk:=SC.start h az call;have P0:=XE (k:=k) h2;have FZ:=AA (λhz=>JW (k:=k) (c:=call) (kind:=0) hz);have cU:=(At hk).1;obtain⟨gm,aq,e7,_⟩:=ET.mems bk cU;obtain⟨ge,ar,e9,_,_⟩:=bk.zX (by rw[hk.zN];omega);rw[hk.zN] at e9;obtain⟨gi,al,e8,_,_⟩:=bk.zZ (by rw[hk.len];omega);rw[hk.len] at e8;obtain⟨am,dq,cm,ai,ni,ci,ae,ep,ce,ac,nc,cc,em,ei,ee,ec⟩:=bk.zQ;subst e7 e8 e9 ec;clear em ei ee;have S0:=AA bk;obtain⟨kk,e,ra,b,c,nm⟩:=call;simp only at he h2 hc;subst h2;obtain⟨en,rfl⟩:∃n:Nat,e=(n:Int):=⟨e.toNat,by omega⟩
 have df:en<3:=by omega
 have dB:(en:Int)<3:=by omega
 simp only[Aa.cs] at S0 P0 FZ ⊢;have HP:=AA P0;have HK:=AA hk;have cN:=AA cU;have CF:=AA (λW (h:Ma W (.slice (some ⟨gm,0,none⟩) 12 aq) (.slice (some ⟨gi,0,none⟩) 12 al) (.slice (some ⟨ge,0,none⟩) 3 ar) (.slice ac nc cc) k)=>KU _ _ _ _ k 6 (en:Int) ra b c nm 0 W h hk he (.inl rfl));have CG:=AA (λW=>BK (Cy c W hc));have Hc:=AA hc;obtain⟨x0,x1,x2,x3⟩:=S0.out.xs;obtain⟨y0,y1,y2,y3,y4,y5⟩:=S0.out.ys6;generalize hfc:Bx k ⟨6,(en:Int),ra,b,c,nm⟩ 0=fc at*;clear h bk he hk P0 cU hfc hc;generalize hW0:((w.alloc _).alloc _).alloc _=W0 at*;go_in;go_wp2_with fail;refine(CF.out _ S0.out.K).mono ?_;rintro r w1 ⟨rfl,br⟩;have S1:=AA (S0.out.below br);clear x0 x1 x2 x3 y0 y1 y2 y3 y4 y5 br CF hW0
 by_cases ef:fc=0
 .subst ef
  obtain⟨fl,_,hm,_,fi⟩:=FZ.out rfl;have ab:=Ab.1 fl;obtain⟨an,rfl⟩:∃n:Nat,ra=(n:Int):=⟨ra.toNat,by omega⟩
  have bs:an<12:=by omega
  have eI:(an:Int)<12:=by omega
  have bt:=AA (show Ad k ⟨6,(en:Int),(an:Int),b,c,nm⟩=ZM k ⟨6,(en:Int),(an:Int),b,c,nm⟩ by rw[HP.out];rfl);have eO:=AA (fi (by first|rfl|trivial));obtain⟨x0,x1,x2,x3⟩:=S1.out.xs;obtain⟨y0,y1,y2,y3,y4,y5⟩:=S1.out.ys6;clear fl hm fi ab FZ HP;go_wp2_with fail;refine(CG.out _).mono ?_;rintro r w2 ⟨rfl,a0⟩;have S2:=AA (S1.out.below a0);obtain⟨fn,wf,hV,dX,cy⟩:=PU c;rw[hV];clear x0 x1 x2 x3 y0 y1 y2 y3 y4 y5 a0 hV CG S0 S1;obtain⟨x0,x1,x2,x3⟩:=S2.out.xs;obtain⟨y0,y1,y2,y3,y4,y5⟩:=S2.out.ys6;obtain⟨av,au,_,_⟩:=S2.out.lts;have cf:=S2.out.zl;obtain⟨d0,_,_⟩:=S2.out.zS (f:=an) (by rw[HK.out.len];exact bs);obtain⟨f0,_,_⟩:=S2.out.zS (f:=fn) (by rw[HK.out.len];exact dX);have CB:=AA (λW (hW:Below w2.heap.size w2 W)=>BK (Cv b 0 3 W));have CK:=AA (λW (hW:Below w2.heap.size w2 W)=>BK (Ju c W));have ga:(fn:Int)<12:=by omega
  obtain⟨okb,hokb⟩:∃okb,okb=(Be b 0 3&&Dk k ⟨6,(en:Int),(an:Int),b,c,nm⟩):=⟨_,rfl⟩
  have bC:=AA hokb;have eS:=AA cy;generalize hsm:Bh c=sm at*;have cp:=AA hsm;clear hokb cy hsm;go_wp2_with fail;go_cut [60] (λfS wx=>fS=.bool (!okb)/\ET 55 #[.int .i64 6,.int .i64 en,.int .i64 an,.int .i64 b,.int .i64 c,.string nm] [w.heap.size+2] lo w.heap.size (w.heap.size+1) w wx (.slice (some ⟨gm,0,none⟩) 12 aq) (.slice (some ⟨gi,0,none⟩) 12 al) (.slice (some ⟨ge,0,none⟩) 3 ar) (.slice ac nc cc) k)
  case first=>
   have gt:(decide (0<=b)&&decide (b<=3))=Be b 0 3:=rfl;clear gt;cases bA:Be b 0 3
   .have E:=AA (show okb=false by rw[bC.out,bA];rfl)
    rw[bA] at CB;clear bA d0 f0;refine AY 29 167 [.p (w.heap.size+1) 3,.i b,.b false,.b true,.b true,.u,.u,.u,.u,.b true,.b true,.u,.u,.u,.u,.u,.u,.u,.u,.u,.u,.u,.u,.u,.u,.u,.u,.u,.u] (λ_ _ _=>True) ?_ ?_
    .intro i hi o ho a wx Hb Hd hG K HK
     match i,hi with
     |0,_|3,_|4,_|9,_|10,_=>exact sP ho HK Hb Hd
     |1,_=>exact sL ho HK Hb Hd (hl:=Fp (bc hG av y3))
     |2,_=>exact sD ho HK Hb Hd (CB.out _ hG)
     |5,_|6,_|7,_|8,_|11,_|12,_|13,_|14,_|15,_|16,_|17,_|18,_|19,_|20,_|21,_|22,_|23,_|24,_|25,_|26,_|27,_|28,_=>exact sB ho HK Hd
     |_+29,hq=>omega
    .intro vs wx hR hG
     have bB:(vs 10)=.bool true:=BW hR 10;clear hR;simp only[Aj,Ae,yC,yz,yy,yw,bB];simp;clear bB;clear x0 x1 x2 x3 y0 y1 y2 y3 y4 y5;go_wp2_with fail;go_meet
     case rel=>exact⟨by rw[E.out];rfl,S2.out.below hG⟩
   .rw[bA] at CB
    cases sm
    .by_cases dg:c=0
     .have E:=AA (show okb=true by rw[bC.out,bA];simp only[Dk,cp.out];simp[dg])
      have EK:EF c=0:=by simp[EF,dg]
      rw[EK] at CK;clear bA dg EK d0 f0;refine AY 29 167 [.p (w.heap.size+1) 3,.i b,.b true,.b false,.b false,.p (w.heap.size+1) 4,.i c,.i 0,.b false,.b false,.b false,.b false,.b false,.u,.u,.u,.u,.u,.u,.u,.u,.u,.u,.u,.u,.u,.u,.u,.b false] (λ_ _ _=>True) ?_ ?_
      .intro i hi o ho a wx Hb Hd hG K HK
       have be:=bc hG av y3;have a5:=bc hG av y4
       match i,hi with
       |0,_|3,_|4,_|5,_|9,_|10,_|11,_|12,_|28,_=>exact sP ho HK Hb Hd
       |1,_|6,_=>exact sL ho HK Hb Hd (hl:=Fp ‹_›)
       |2,_=>exact sD ho HK Hb Hd (CB.out _ hG)
       |7,_=>exact sD ho HK Hb Hd (CK.out _ hG)
       |13,_|14,_|15,_|16,_|17,_|18,_|19,_|20,_|21,_|22,_|23,_|24,_|25,_|26,_|27,_=>exact sB ho HK Hd
       |8,_=>clear be a5;obtain rfl:=yF ho;have d7:(a.tmps[38]?.getD undef)=.int .i64 0:=BM Hd 7;have d4:(a.tmps[35]?.getD undef)=.bool false:=BM Hd 4;clear Hd Hb;refine AV.yes rfl rfl d4 ?_;go_simp;exact HK.out _ _ rfl (yD _ _)
       |_+29,hq=>omega
      .intro vs wx hR hG
       have bB:(vs 10)=.bool false:=BW hR 10;have cQ:(vs 28)=.bool false:=BW hR 28;clear hR;simp only[Aj,Ae,yC,yz,yy,yw,bB,cQ];simp;clear bB cQ;clear x0 x1 x2 x3 y0 y1 y2 y3 y4 y5;go_wp2_with fail;go_meet
       case rel=>exact⟨by rw[E.out];rfl,S2.out.below hG⟩
     .have E:=AA (show okb=false by rw[bC.out,bA];simp only[Dk,cp.out];simp[dg])
      have EK:EF c=2:=by simp[EF,dg,cp.out]
      rw[EK] at CK;clear bA dg EK d0 f0;refine AY 29 167 [.p (w.heap.size+1) 3,.i b,.b true,.b false,.b false,.p (w.heap.size+1) 4,.i c,.i 2,.b true,.b true,.b true,.u,.u,.u,.u,.u,.u,.u,.u,.u,.u,.u,.u,.u,.u,.u,.u,.u,.u] (λ_ _ _=>True) ?_ ?_
      .intro i hi o ho a wx Hb Hd hG K HK
       have be:=bc hG av y3;have a5:=bc hG av y4
       match i,hi with
       |0,_|3,_|4,_|5,_|9,_|10,_=>exact sP ho HK Hb Hd
       |1,_|6,_=>exact sL ho HK Hb Hd (hl:=Fp ‹_›)
       |2,_=>exact sD ho HK Hb Hd (CB.out _ hG)
       |7,_=>exact sD ho HK Hb Hd (CK.out _ hG)
       |11,_|12,_|13,_|14,_|15,_|16,_|17,_|18,_|19,_|20,_|21,_|22,_|23,_|24,_|25,_|26,_|27,_|28,_=>exact sB ho HK Hd
       |8,_=>clear be a5;obtain rfl:=yF ho;have d7:(a.tmps[38]?.getD undef)=.int .i64 2:=BM Hd 7;have d4:(a.tmps[35]?.getD undef)=.bool false:=BM Hd 4;clear Hd Hb;refine AV.yes rfl rfl d4 ?_;go_simp;exact HK.out _ _ rfl (yD _ _)
       |_+29,hq=>omega
      .intro vs wx hR hG
       have bB:(vs 10)=.bool true:=BW hR 10;clear hR;simp only[Aj,Ae,yC,yz,yy,yw,bB];simp;clear bB;clear x0 x1 x2 x3 y0 y1 y2 y3 y4 y5;go_wp2_with fail;go_meet
       case rel=>exact⟨by rw[E.out];rfl,S2.out.below hG⟩
    .have EK:EF c=1:=by
      unfold EF;rw[if_neg (by intro h;have:=cp.out;rw[h] at this;cases this),cp.out];rfl
     rw[EK] at CK;have cy:=eS.out rfl;have dU:=eO.out;generalize hka:(zS k.zZ an).k=ka at d0 dU;generalize hkf:(zS k.zZ fn).k=kf at f0;have fk:2<=ka/\ka<=3:=by simp only[Bd,xl,decide_eq_true_eq,yb,hka] at dU;omega
     obtain⟨km,hkm⟩:∃km,ka - 1=km:=⟨_,rfl⟩
     have fD:=AA hkm
     by_cases hq:kf=km
     .have E:=AA (show okb=true by rw[bC.out,bA];simp[Dk,cp.out,<-cy,hka,hkf];omega)
      have fP:(kf !=km)=false:=by simp[hq]
      clear bA EK cy dU hka hkf hkm hq;refine AY 29 167 [.p (w.heap.size+1) 3,.i b,.b true,.b false,.b false,.p (w.heap.size+1) 4,.i c,.i 1,.b false,.b false,.b false,.b true,.b true,.p w.heap.size 1,.s gi 12 al,.i ((fn:Int)),.p gi (fn*3),.p gi (fn*3),.i kf,.p w.heap.size 1,.s gi 12 al,.p (w.heap.size+1) 2,.i ((an:Int)),.p gi (an*3),.p gi (an*3),.i ka,.i km,.b false,.b false] (λ_ _ _=>True) ?_ ?_
      .intro i hi o ho a wx Hb Hd hG K HK
       have be:=bc hG av y3;have a5:=bc hG av y4;have bY:=bc hG au x1;have bw:=bc hG cf f0;have bu:=bc hG av y2;have bN:=bc hG cf d0
       match i,hi with
       |0,_|3,_|4,_|5,_|9,_|10,_|11,_|12,_|13,_|15,_|17,_|19,_|21,_|24,_|28,_=>exact sP ho HK Hb Hd
       |1,_|6,_|18,_|22,_|25,_=>exact sL ho HK Hb Hd (hl:=Fp ‹_›)
       |2,_=>exact sD ho HK Hb Hd (CB.out _ hG)
       |7,_=>exact sD ho HK Hb Hd (CK.out _ hG)
       |14,_|20,_=>exact sL ho HK Hb Hd (hl:=F8 ‹_›)
       |16,_|23,_=>exact sI ho HK Hb Hd (hr:=by clear Hd Hb HK;go_simp)
       |8,_=>clear be a5 bY bw bu bN;obtain rfl:=yF ho;have d7:(a.tmps[38]?.getD undef)=.int .i64 1:=BM Hd 7;have d4:(a.tmps[35]?.getD undef)=.bool false:=BM Hd 4;clear Hd Hb;refine AV.yes rfl rfl d4 ?_;go_simp;exact HK.out _ _ rfl (yD _ _)
       |26,_=>clear be a5 bY bw bu bN;obtain rfl:=yF ho;have gp:(a.tmps[56]?.getD undef)=.int .i64 ka:=BM Hd 25;have c5:(a.tmps[43]?.getD undef)=.bool true:=BM Hd 12;clear Hd Hb;refine AV.yes rfl rfl c5 ?_;go_simp;exact HK.out _ _ (by show yf .i64 (IntKind.i64.wrap (ka - 1))=.int .i64 km;rw[xy _ (by omega),fD.out]) (yD _ _)
       |27,_=>clear be a5 bY bw bu bN;obtain rfl:=yF ho;have gq:(a.tmps[49]?.getD undef)=.int .i64 kf:=BM Hd 18;have gl:(a.tmps[57]?.getD undef)=.int .i64 km:=BM Hd 26;have c5:(a.tmps[43]?.getD undef)=.bool true:=BM Hd 12;clear Hd Hb;refine AV.yes rfl rfl c5 ?_;go_simp;exact HK.out _ _ rfl (yD _ _)
       |_+29,hq=>omega
      .intro vs wx hR hG
       have bB:(vs 10)=.bool false:=BW hR 10;have cQ:(vs 28)=.bool false:=BW hR 28;clear hR;simp only[Aj,Ae,yC,yz,yy,yw,bB,cQ];simp;clear bB cQ;clear x0 x1 x2 x3 y0 y1 y2 y3 y4 y5 d0 f0;go_wp2_with fail;go_meet
       case rel=>exact⟨by rw[E.out];rfl,S2.out.below hG⟩
     .have E:=AA (show okb=false by rw[bC.out,bA];simp[Dk,cp.out,<-cy,hka,hkf];omega)
      have fP:(kf !=km)=true:=by simp[hq]
      clear bA EK cy dU hka hkf hkm hq;refine AY 29 167 [.p (w.heap.size+1) 3,.i b,.b true,.b false,.b false,.p (w.heap.size+1) 4,.i c,.i 1,.b false,.b false,.b false,.b true,.b true,.p w.heap.size 1,.s gi 12 al,.i ((fn:Int)),.p gi (fn*3),.p gi (fn*3),.i kf,.p w.heap.size 1,.s gi 12 al,.p (w.heap.size+1) 2,.i ((an:Int)),.p gi (an*3),.p gi (an*3),.i ka,.i km,.b true,.b true] (λ_ _ _=>True) ?_ ?_
      .intro i hi o ho a wx Hb Hd hG K HK
       have be:=bc hG av y3;have a5:=bc hG av y4;have bY:=bc hG au x1;have bw:=bc hG cf f0;have bu:=bc hG av y2;have bN:=bc hG cf d0
       match i,hi with
       |0,_|3,_|4,_|5,_|9,_|10,_|11,_|12,_|13,_|15,_|17,_|19,_|21,_|24,_|28,_=>exact sP ho HK Hb Hd
       |1,_|6,_|18,_|22,_|25,_=>exact sL ho HK Hb Hd (hl:=Fp ‹_›)
       |2,_=>exact sD ho HK Hb Hd (CB.out _ hG)
       |7,_=>exact sD ho HK Hb Hd (CK.out _ hG)
       |14,_|20,_=>exact sL ho HK Hb Hd (hl:=F8 ‹_›)
       |16,_|23,_=>exact sI ho HK Hb Hd (hr:=by clear Hd Hb HK;go_simp)
       |8,_=>clear be a5 bY bw bu bN;obtain rfl:=yF ho;have d7:(a.tmps[38]?.getD undef)=.int .i64 1:=BM Hd 7;have d4:(a.tmps[35]?.getD undef)=.bool false:=BM Hd 4;clear Hd Hb;refine AV.yes rfl rfl d4 ?_;go_simp;exact HK.out _ _ rfl (yD _ _)
       |26,_=>clear be a5 bY bw bu bN;obtain rfl:=yF ho;have gp:(a.tmps[56]?.getD undef)=.int .i64 ka:=BM Hd 25;have c5:(a.tmps[43]?.getD undef)=.bool true:=BM Hd 12;clear Hd Hb;refine AV.yes rfl rfl c5 ?_;go_simp;exact HK.out _ _ (by show yf .i64 (IntKind.i64.wrap (ka - 1))=.int .i64 km;rw[xy _ (by omega),fD.out]) (yD _ _)
       |27,_=>clear be a5 bY bw bu bN;obtain rfl:=yF ho;have gq:(a.tmps[49]?.getD undef)=.int .i64 kf:=BM Hd 18;have gl:(a.tmps[57]?.getD undef)=.int .i64 km:=BM Hd 26;have c5:(a.tmps[43]?.getD undef)=.bool true:=BM Hd 12;clear Hd Hb;refine AV.yes rfl rfl c5 ?_;go_simp;exact HK.out _ _ rfl (yD _ _)
       |_+29,hq=>omega
      .intro vs wx hR hG
       have bB:(vs 10)=.bool false:=BW hR 10;have cQ:(vs 28)=.bool true:=BW hR 28;clear hR;simp only[Aj,Ae,yC,yz,yy,yw,bB,cQ];simp;clear bB cQ;clear x0 x1 x2 x3 y0 y1 y2 y3 y4 y5 d0 f0;go_wp2_with fail;go_meet
       case rel=>exact⟨by rw[E.out];rfl,S2.out.below hG⟩
  case rest=>
  obtain⟨ew,S3⟩:=hcut;subst ew;replace S3:=AA S3;clear x0 x1 x2 x3 y0 y1 y2 y3 y4 y5 d0 f0 CB CK S2 av au cf;obtain⟨w3,rfl⟩:∃w3:World,w3=wc:=⟨_,rfl⟩
  cases okb
  .have ay:=AA (show Ad k ⟨6,(en:Int),(an:Int),b,c,nm⟩=(k,0,3) by
    rw[bt.out];unfold ZM;rw[if_pos];have:=bC.out;cases h1:Be b 0 3
    .exact .inl rfl
    .refine .inr ?_
     rw[h1,Bool.true_and] at this;exact this.symm)
   clear bt;obtain⟨⟨x0,x1,x2,x3⟩,⟨⟨z0,z1,z2,z3⟩,a6⟩,HE,HR⟩:=S3.out.yH az (v:=0) (code:=3) (ay.out) (by decide);go_wp2_with ((try simp only[xQ,Exit.then]);with_reducible refine yk ?_ rfl HR.out;obtain⟨E0,E1,E2,E3⟩:=HE.out;simp[results,vR,go_sem,E0,E1,E2,E3])
  obtain⟨bA,hfit⟩:Be b 0 3=true/\Dk k ⟨6,(en:Int),(an:Int),b,c,nm⟩=true:=by
   have:=bC.out.symm
   rwa [yp] at this
  have eT:=AA (VQ (k:=k) (Yc hfit eO.out));have ay:=AA (show Ad k ⟨6,(en:Int),(an:Int),b,c,nm⟩=_ from bt.out.trans (by unfold ZM;rw[if_neg (by rw[bA,hfit];simp)]));have bb:=Ab.1 bA;obtain⟨bn,rfl⟩:∃n:Nat,b=(n:Int):=⟨b.toNat,by omega⟩
  have dZ:bn<4:=by omega
  have gf:(bn:Int)<4:=by omega
  simp only[yb] at ay;clear bA hfit bb bt bC;obtain⟨nd,hnd⟩:∃nd,nd=DK k c:=⟨_,rfl⟩
  have g1:=AA hnd;obtain⟨us,hus⟩:∃us,us=Fd k an:=⟨_,rfl⟩
  have gv:=AA hus;have gR:us.length<=3:=by rw[hus];exact YA
  have gx:=AA (show ∀e,e∈us->e<3 by rw[hus];exact λe h=>Tv h);have eP:=AA (show ∀g,g∈nd->g<k.zZ.length by
   rw[hnd,HK.out.len];intro g hg;unfold DK at hg
   split at hg
   .next hgc=>
    rcases List.mem_cons.1 hg with h|h
    .rw[h];exact EP hgc
    .split at h
     .exact FL h
     .cases h
   .cases hg)
  rw[<-hnd,<-hus] at ay;rw[<-hnd] at eT;clear hnd hus;have fN:=AA (λW (h1:Bf W (.slice (some ⟨gm,0,none⟩) 12 aq) k.mem) (h2:BS W (.slice (some ⟨gi,0,none⟩) 12 al) k.zZ)=>Qs (.slice (some ⟨gm,0,none⟩) 12 aq) (.slice (some ⟨gi,0,none⟩) 12 al) (.slice (some ⟨ge,0,none⟩) 3 ar) (.slice ac nc cc) k c W h1 h2 cN.out HK.out.len Hc.out);obtain⟨x0,x1,x2,x3⟩:=S3.out.xs;obtain⟨y0,y1,y2,y3,y4,y5⟩:=S3.out.ys6;go_wp2_with fail;refine(fN.out _ S3.out.K.1 S3.out.K.2.1).mono ?_;rintro r w4 ⟨vb,rfl,de,cL⟩;rw[eT.out] at de;have S4:=AA (S3.out.below cL);have dx:=S3.out.lts.2.1;clear x0 x1 x2 x3 y0 y1 y2 y3 y4 y5 fN eT;obtain⟨x0,x1,x2,x3⟩:=S4.out.xs;obtain⟨y0,y1,y2,y3,y4,y5⟩:=S4.out.ys6;go_wp2_with fail;refine(TJ _ _ _ _ k an _ S4.out.K HK.out).mono ?_;rintro r w5 ⟨vu,rfl,cI,cn⟩;rw[X9 HK.out (show Bd (Ax k an)=true from eO.out),<-gv.out] at cI;have S5:=AA (S4.out.below cn);have OB:=AA (AF.below de cn);have OU:=AA cI;have eC:w.heap.size<w4.heap.size:=Nat.lt_of_lt_of_le dx cL.size;obtain⟨ax,cx,rfl,_,_,_⟩:=cI.rd.open;rw[Cd] at OU ⊢;clear x0 x1 x2 x3 y0 y1 y2 y3 y4 y5 de cI cL cn S3 S4;go_upto_block 0 with fail;go_cut [] (λwx=>(∀e,e∈us->BG k.zZ nd (AJ k.zX e).zT=true)/\∃a9 n9 c9,ET 55 #[.int .i64 6,.int .i64 en,.int .i64 an,.int .i64 bn,.int .i64 c,.string nm] [w.heap.size+2] lo w.heap.size (w.heap.size+1) w wx (.slice (some ⟨gm,0,none⟩) 12 aq) (.slice (some ⟨gi,0,none⟩) 12 al) (.slice (some ⟨ge,0,none⟩) 3 ar) (.slice a9 n9 c9) {k with zW:=Gf us k.zW})
  case first=>
   go_wp2_with fail;go_loopw [13] (λel wr=>∃j:Nat,j<=us.length/\el=.int .i64 j/\(∀e,e∈us.take j->BG k.zZ nd (AJ k.zX e).zT=true)/\AF w3.heap.size wr vb (A0 nd)/\AF w4.heap.size wr (.slice ax us.length cx) (A0 us)/\∃a9 n9 c9,ET 55 #[.int .i64 6,.int .i64 en,.int .i64 an,.int .i64 bn,.int .i64 c,.string nm] [w.heap.size+2] lo w.heap.size (w.heap.size+1) w wr (.slice (some ⟨gm,0,none⟩) 12 aq) (.slice (some ⟨gi,0,none⟩) 12 al) (.slice (some ⟨ge,0,none⟩) 3 ar) (.slice a9 n9 c9) {k with zW:=Gf (us.take j) k.zW}) (λel _=>us.length - (intOf el).toNat)
   case atStart=>exact⟨0,yh _,rfl,λe he=>by simp at he,OB.out,OU.out,ac,nc,cc,S5.out⟩
   case round=>
    obtain⟨j,hj,rfl,a7,de,cI,a9,n9,c9,hS⟩:=hrel;have db:=AA a7;have S:=AA hS;have fJ:=AA de;have gE:=AA cI;clear a7 hS de OB OU
    by_cases cj:j<us.length
    .obtain⟨g0,gZ,er,_,_,H0⟩:=cI.rd.open
     rw[Cd] at er;simp only[Value.slice.injEq] at er;obtain⟨rfl,_,rfl⟩:=er;obtain⟨bx,cF,rfl,DX⟩:=H0.at (k:=j) (by rw[Cd];exact cj);rw[Ps cj] at DX;obtain⟨un,hun⟩:∃u,u=us.getD j 0:=⟨_,rfl⟩
     rw[<-hun] at DX;have fH:=AA hun;have cV:un∈us:=by rw[hun];exact ye (A1 cj)
     have dt:=gx.out un cV;have eQ:=AA cV;clear hun cV H0 cI;have bK:(j:Int)<us.length:=by omega
     have fX:(un:Int)<3:=by omega
     obtain⟨x0,x1,x2,x3⟩:=S.out.xs;obtain⟨y0,y1,y2,y3,y4,y5⟩:=S.out.ys6;obtain⟨av,au,_,_⟩:=S.out.lts;have cK:=S.out.yU;have b6:bx<wr.heap.size:=yA _ _ DX;obtain⟨ua,uc,D0,_,R⟩:=S.out.env (j:=un) (by show un<k.zX.length;rw[HK.out.zN];exact dt);have RI:=S.out.K.2.1;have RB:=fJ.out.rd;have CA:=AA (λW (hW:Below wr.heap.size wr W)=>F7 _ vb _ k.zZ nd (AJ k.zX un).zT W (BD.below RI hW) (Aw.below RB hW) (BD.below R hW) eP.out (CJ (At HK.out).2.1) (II HK.out dt));generalize hbbq:BG k.zZ nd (AJ k.zX un).zT=bq at CA;have fE:=AA hbbq;clear hbbq RI R RB;go_wp2_with fail;refine AY 12 167 [.p w.heap.size 1,.s gi 12 al,.v vb,.p w.heap.size 2,.s ge 3 ar,.v (.slice (some ⟨bx,cF,none⟩) us.length cx),.i ((j:Int)),.p bx (cF+j),.i ((un:Int)),.p ge (un*2),.p ge (un*2),.v (.slice ua (AJ k.zX un).zT.length uc)] (λ_ _ _=>True) ?_ ?_
     .intro i hi o ho a wx Hb Hd hG K HK
      match i,hi with
      |0,_|2,_|3,_|5,_|6,_|10,_=>exact sP ho HK Hb Hd
      |1,_=>exact sL ho HK Hb Hd (hl:=F8 (bc hG au x1))
      |4,_=>exact sL ho HK Hb Hd (hl:=No (bc hG au x2))
      |7,_|9,_=>exact sI ho HK Hb Hd (hr:=by clear Hd Hb HK;go_simp)
      |8,_=>exact sL ho HK Hb Hd (hl:=Fp (bc hG b6 DX))
      |11,_=>exact sL ho HK Hb Hd (hl:=LM (bc hG cK D0))
     .intro vs wx hR hG
      have q1:(vs 1)=.slice (some ⟨gi,0,none⟩) 12 al:=BW hR 1;have q2:(vs 2)=vb:=BW hR 2;have ct:(vs 11)=.slice ua (AJ k.zX un).zT.length uc:=BW hR 11;clear hR;simp only[Aj,Ae,yC,yz,yy,yw,q1,q2,ct];simp;clear q1 q2 ct;have S6:=AA (S.out.below hG);have cq:=AA hG;clear x0 x1 x2 x3 y0 y1 y2 y3 y4 y5 D0 hG;go_wp2_with fail;refine(CA.out _ cq.out).mono ?_;rintro r w7 ⟨rfl,cY⟩;have S7:=AA (S6.out.below cY);have eV:=AA (cq.out.trans (cY.mono cq.out.size));clear cY CA cq S6;cases bq
      .have bl:=AA (show Ad k ⟨6,(en:Int),(an:Int),(bn:Int),c,nm⟩=(k,0,1) by rw[ay.out,if_pos (List.all_eq_false.2 ⟨un,eQ.out,by rw[fE.out];decide⟩)])
       obtain⟨⟨x0,x1,x2,x3⟩,⟨⟨z0,z1,z2,z3⟩,a6⟩,HE,HR⟩:=S7.out.yH az (v:=0) (code:=1) (bl.out) (by decide);go_wp2_with ((try simp only[xQ,Exit.then]);with_reducible refine yk ?_ rfl HR.out;obtain⟨E0,E1,E2,E3⟩:=HE.out;simp[results,vR,go_sem,E0,E1,E2,E3])
      .have cZ:=(eV.out.cell b6).trans DX
       have dD:bx<w7.heap.size:=yA _ _ cZ;clear DX b6;have DX:=cZ;have b6:=dD;clear cZ dD;obtain⟨x0,x1,x2,x3⟩:=S7.out.xs;obtain⟨av,au,_,_⟩:=S7.out.lts;have CD:=AA (λW (h:Dz W (.slice a9 n9 c9) (Gf (us.take j) k.zW))=>Pi (.slice a9 n9 c9) (Gf (us.take j) k.zW) (un:Int) W h (by have:=Ri (us.take j) (At HK.out).2.2;simp only[BT,yp,decide_eq_true_eq] at this;omega));go_wp2_with fail;refine AY 6 167 [.p w.heap.size 3,.v (.slice a9 n9 c9),.v (.slice (some ⟨bx,cF,none⟩) us.length cx),.i ((j:Int)),.p bx (cF+j),.i ((un:Int))] (λ_ _ _=>True) ?_ ?_
       .intro i hi o ho a wx Hb Hd hG K HK
        match i,hi with
        |0,_|2,_|3,_=>exact sP ho HK Hb Hd
        |1,_=>exact sL ho HK Hb Hd (hl:=Zp (bc hG au x3))
        |4,_=>exact sI ho HK Hb Hd (hr:=by clear Hd Hb HK;go_simp)
        |5,_=>exact sL ho HK Hb Hd (hl:=Fp (bc hG b6 DX))
       .intro vs wx hR hG
        have q1:(vs 1)=.slice a9 n9 c9:=BW hR 1;have q5:(vs 5)=.int .i64 un:=BW hR 5;clear hR;simp only[Aj,Ae,yC,yz,yy,yw,q1,q5];simp;clear q1 q5;have S8:=AA (S7.out.below hG);have fL:=AA (eV.out.trans (hG.mono eV.out.size));have e0:=S8.out.xs.2.2.2;clear x0 x1 x2 x3 hG DX;go_wp2_with fail;refine(CD.out _ S8.out.K.2.2.2).mono ?_;rintro r w9 ⟨v',rfl,hO,bp⟩;have T2:=AA (S8.out.zW bp hO);have eU:=fL.out.trans (bp.mono fL.out.size);have fB:=AA (Nt (g:=w.heap.size) (j:=3) (u:=v') (AF.below fJ.out eU) dx);have fA:=AA (Nt (g:=w.heap.size) (j:=3) (u:=v') (AF.below gE.out eU) eC);have gk:=AK (S8.out.below bp).yI.1;have gL:=(S8.out.below bp).xs.2.2.2;clear e0 eU bp;obtain⟨a8,c8,e9,_,_⟩:=hO.rd.shape;generalize wX _=n8 at e9;subst e9;clear hO;generalize hW10:w9.setCell _ _=W10 at T2 fB fA;go_wp2_with fail;go_roundw
        case rel=>
         refine⟨j+1,by omega,by go_num,λe he=>?_,fB.out,fA.out,a8,n8,c8,?_⟩
         .rw[Cx (A1 (d:=0) cj),List.mem_append,xx] at he
          rcases he with he|rfl
          .exact db.out e he
          .rw[<-fH.out];exact fE.out
         .rw[OI cj,<-fH.out];exact T2.out
        case measure=>simp[intOf];omega
    .obtain rfl:j=us.length:=by omega
     rw[List.take_length] at db S;have bK:¬(us.length:Int)<us.length:=by omega
     clear cI;go_wp2_with fail;go_meet
     case rel=>exact⟨db.out,_,_,_,S.out⟩
  case rest=>
  obtain⟨a7,a9,n9,c9,hS⟩:=hcut;have S:=AA hS;have bl:=AA (ay.out.trans (if_neg (by rw[Bool.not_eq_false,List.all_eq_true];exact a7)));obtain⟨w10,rfl⟩:∃w10:World,w10=wc:=⟨_,rfl⟩
  clear a7 hS ay OB OU S5;obtain⟨mm,cJ⟩:∃mm,mm=(sm&&!Bv (AJ k.zX en).zT (zS k.zZ (A9 c)).g):=⟨_,rfl⟩
  have dl:=AA cJ;clear cJ;go_wp2_with fail;go_cut [112] (λeo wx=>eo=.bool mm/\ET 55 #[.int .i64 6,.int .i64 en,.int .i64 an,.int .i64 bn,.int .i64 c,.string nm] [w.heap.size+2] lo w.heap.size (w.heap.size+1) w wx (.slice (some ⟨gm,0,none⟩) 12 aq) (.slice (some ⟨gi,0,none⟩) 12 al) (.slice (some ⟨ge,0,none⟩) 3 ar) (.slice a9 n9 c9) {k with zW:=Gf us k.zW})
  case first=>
   obtain⟨x0,x1,x2,x3⟩:=S.out.xs;obtain⟨y0,y1,y2,y3,y4,y5⟩:=S.out.ys6;obtain⟨av,au,_,_⟩:=S.out.lts;have cf:=S.out.zl;obtain⟨_,f1,_⟩:=S.out.zS (f:=fn) (by show fn<k.zZ.length;rw[HK.out.len];exact dX)
   try simp only at f1
   cases sm
   .clear f1
    refine AY 13 167 [.b false,.b false,.u,.u,.u,.u,.u,.u,.u,.u,.u,.u,.u] (λ_ _ _=>True) ?_ ?_
    .intro i hi o ho a wx Hb Hd hG K HK
     match i,hi with
     |0,_|1,_=>exact sP ho HK Hb Hd
     |2,_|3,_|4,_|5,_|6,_|7,_|8,_|9,_|10,_|11,_|12,_=>exact sB ho HK Hd
    .intro vs wx hR hG
     have q1:(vs 1)=.bool false:=BW hR 1;clear hR;simp only[Aj,Ae,yC,yz,yy,yw,q1];simp;clear q1;clear x0 x1 x2 x3 y0 y1 y2 y3 y4 y5;go_wp2_with fail;go_meet
     case rel=>exact⟨by rw[dl.out];rfl,S.out.below hG⟩
   .have cy:=eS.out rfl
    have dP:=dl.out;have RE:=S.out.K.2.2.1;have CM:=AA (λW (hW:Below w10.heap.size w10 W)=>JY (.slice (some ⟨gm,0,none⟩) 12 aq) (.slice (some ⟨gi,0,none⟩) 12 al) (.slice (some ⟨ge,0,none⟩) 3 ar) (.slice a9 n9 c9) k en (zS k.zZ fn).g W (RE.below hW) HK.out df (CJ (At HK.out).2.1 _ (ye (Cj (by rw[HK.out.len];exact dX)))));rw[<-cy] at dP;generalize(zS k.zZ fn).g=fg at f1 CM dP;clear RE cy;generalize Bv (AJ k.zX en).zT fg=my at CM dP;have HM:=AA dP;clear dP;cases my
    .skip
     refine AY 13 167 [.b true,.b true,.a #[.slice (some ⟨gm,0,none⟩) 12 aq,.slice (some ⟨gi,0,none⟩) 12 al,.slice (some ⟨ge,0,none⟩) 3 ar,.slice a9 n9 c9],.p (w.heap.size+1) 1,.i ((en:Int)),.p w.heap.size 1,.s gi 12 al,.i ((fn:Int)),.p gi (fn*3),.p gi (fn*3+1),.t fg,.b false,.b true] (λ_ _ _=>True) ?_ ?_
     .intro i hi o ho a wx Hb Hd hG K HK
      have be:=bc hG au x0;have a5:=bc hG au x1;have bY:=bc hG au x2;have bw:=bc hG au x3;have bu:=bc hG av y1;have bN:=bc hG cf f1
      match i,hi with
      |0,_|1,_|3,_|5,_|7,_|9,_|12,_=>exact sP ho HK Hb Hd
      |2,_=>exact sL ho HK Hb Hd (hl:=Np ‹_› ‹_› ‹_› ‹_›)
      |4,_=>exact sL ho HK Hb Hd (hl:=Fp ‹_›)
      |6,_=>exact sL ho HK Hb Hd (hl:=F8 ‹_›)
      |8,_=>exact sI ho HK Hb Hd (hr:=by clear Hd Hb HK;go_simp)
      |10,_=>exact sL ho HK Hb Hd (hl:=Yu ‹_›)
      |11,_=>exact sD ho HK Hb Hd (CM.out _ hG)
     .intro vs wx hR hG
      have q1:(vs 1)=.bool true:=BW hR 1;have bm:(vs 12)=.bool true:=BW hR 12;clear hR;simp only[Aj,Ae,yC,yz,yy,yw,q1,bm];simp;clear q1 bm;clear x0 x1 x2 x3 y0 y1 y2 y3 y4 y5 f1;go_wp2_with fail;go_meet
      case rel=>exact⟨by rw[HM.out];rfl,S.out.below hG⟩
    .skip
     refine AY 13 167 [.b true,.b true,.a #[.slice (some ⟨gm,0,none⟩) 12 aq,.slice (some ⟨gi,0,none⟩) 12 al,.slice (some ⟨ge,0,none⟩) 3 ar,.slice a9 n9 c9],.p (w.heap.size+1) 1,.i ((en:Int)),.p w.heap.size 1,.s gi 12 al,.i ((fn:Int)),.p gi (fn*3),.p gi (fn*3+1),.t fg,.b true,.b false] (λ_ _ _=>True) ?_ ?_
     .intro i hi o ho a wx Hb Hd hG K HK
      have be:=bc hG au x0;have a5:=bc hG au x1;have bY:=bc hG au x2;have bw:=bc hG au x3;have bu:=bc hG av y1;have bN:=bc hG cf f1
      match i,hi with
      |0,_|1,_|3,_|5,_|7,_|9,_|12,_=>exact sP ho HK Hb Hd
      |2,_=>exact sL ho HK Hb Hd (hl:=Np ‹_› ‹_› ‹_› ‹_›)
      |4,_=>exact sL ho HK Hb Hd (hl:=Fp ‹_›)
      |6,_=>exact sL ho HK Hb Hd (hl:=F8 ‹_›)
      |8,_=>exact sI ho HK Hb Hd (hr:=by clear Hd Hb HK;go_simp)
      |10,_=>exact sL ho HK Hb Hd (hl:=Yu ‹_›)
      |11,_=>exact sD ho HK Hb Hd (CM.out _ hG)
     .intro vs wx hR hG
      have q1:(vs 1)=.bool true:=BW hR 1;have bm:(vs 12)=.bool false:=BW hR 12;clear hR;simp only[Aj,Ae,yC,yz,yy,yw,q1,bm];simp;clear q1 bm;clear x0 x1 x2 x3 y0 y1 y2 y3 y4 y5 f1;go_wp2_with fail;go_meet
      case rel=>exact⟨by rw[HM.out];rfl,S.out.below hG⟩
  case rest=>
  obtain⟨du,co⟩:=hcut;subst du;replace co:=AA co;clear S;obtain⟨w11,rfl⟩:∃w11:World,w11=wc:=⟨_,rfl⟩
  cases mm
  rotate_left
  .have ek:=AA (show Ad k ⟨6,(en:Int),(an:Int),(bn:Int),c,nm⟩=(k,0,1) by
    have cJ:=dl.out.symm;rw[yp,Bool.not_eq_true'] at cJ;exact bl.out.trans (if_pos ⟨cp.out.trans cJ.1,cJ.2⟩))
   clear dl bl;obtain⟨⟨x0,x1,x2,x3⟩,⟨⟨z0,z1,z2,z3⟩,a6⟩,HE,HR⟩:=co.out.yH az (v:=0) (code:=1) (ek.out) (by decide);go_wp2_with ((try simp only[xQ,Exit.then]);with_reducible refine yk ?_ rfl HR.out;obtain⟨E0,E1,E2,E3⟩:=HE.out;simp[results,vR,go_sem,E0,E1,E2,E3])
  have fj:¬(Bh c=true/\Fb k (en:Int) (zS k.zZ (A9 c)).g=false):=by rintro⟨h1,h2⟩;have h3:sm=true:=cp.out.symm.trans h1;have h4:Bv (AJ k.zX en).zT (zS k.zZ (A9 c)).g=false:=h2;have cJ:=dl.out;rw[h3,h4] at cJ;cases cJ
  have ek:=AA (bl.out.trans (if_neg fj));clear dl bl fj;obtain⟨wo,hwo⟩:∃wo,wo=Ar k.mem an bn:=⟨_,rfl⟩
  have fh:=HK.out.word (f:=an) (i:=bn) bs dZ;rw[<-hwo] at fh ek;obtain⟨fo,dn,fs,f9,dA⟩:=PU wo;have eX:=λW (hW:Below w11.heap.size w11 W)=>BK (Cy wo W (by omega))
  rw[fs] at eX;have CO:=AA eX;have gH:=AA dA;generalize hso:Bh wo=so at*;have fC:=AA hso;have f8:(fo:Int)<12:=by omega
  obtain⟨x0,x1,x2,x3⟩:=co.out.xs;obtain⟨y0,y1,y2,y3,y4,y5⟩:=co.out.ys6;obtain⟨av,au,_,_⟩:=co.out.lts;obtain⟨gw,bi,Dw,cW,dC,Dj,_⟩:=co.out.mrow cN.out (f:=an) bs;have Dv:=Dj bn dZ
  try simp only at Dv
  rw[<-hwo] at Dv;have cl:gm<w11.heap.size:=yA _ _ Dw;have g2:=AA hwo;clear Dj eX fs dA hso fh hwo;go_wp2_with fail;refine AY 17 167 [.p w.heap.size 0,.s gm 12 aq,.p (w.heap.size+1) 2,.i ((an:Int)),.p gm an,.s gw 4 bi,.p (w.heap.size+1) 3,.i ((bn:Int)),.p gw bn,.i wo,.v (.tuple #[.int .i64 fo,.bool dn,.bool so]),.v (.tuple #[.int .i64 fo,.bool dn,.bool so]),.i ((fo:Int)),.b dn,.b so,.i ((fo:Int)),.b dn] (λ_ _ _=>True) ?_ ?_
  .intro i hi o ho a wx Hb Hd hG K HK
   have a5:=bc hG av y2;have bw:=bc hG av y3;have bu:=bc hG cW Dv
   match i,hi with
   |0,_|2,_|6,_|11,_|12,_|13,_|14,_|15,_|16,_=>exact sP ho HK Hb Hd
   |1,_=>exact sL ho HK Hb Hd (hl:=GT (bc hG au x0))
   |3,_|7,_|9,_=>exact sL ho HK Hb Hd (hl:=Fp ‹_›)
   |4,_|8,_=>exact sI ho HK Hb Hd (hr:=by clear Hd Hb HK;go_simp)
   |5,_=>exact sL ho HK Hb Hd (hl:=J5 (bc hG cl Dw))
   |10,_=>exact sD ho HK Hb Hd (CO.out _ hG)
   |_+17,hq=>omega
  .intro vs wx hR hG
   have fd:(vs 14)=.bool so:=BW hR 14;have fb:(vs 15)=.int .i64 fo:=BW hR 15;have fa:(vs 16)=.bool dn:=BW hR 16;clear hR;simp only[Aj,Ae,yC,yz,yy,yw,fd,fb,fa];simp;clear fd fb fa;have cC:=AA (co.out.below hG);clear x0 x1 x2 x3 y0 y1 y2 y3 y4 y5 Dw Dv hG CO cl cW dC co av au;obtain⟨w12,rfl⟩:∃w12:World,w12=wx:=⟨_,rfl⟩
   go_upto_if 129 with fail;go_cut [] (λwx=>ET 55 #[.int .i64 6,.int .i64 en,.int .i64 an,.int .i64 bn,.int .i64 c,.string nm] [w.heap.size+2] lo w.heap.size (w.heap.size+1) w wx (.slice (some ⟨gm,0,none⟩) 12 aq) (.slice (some ⟨gi,0,none⟩) 12 al) (.slice (some ⟨ge,0,none⟩) 3 ar) (.slice a9 n9 c9) {k with zW:=Gf us k.zW,zZ:=A4 k.zZ wo (-1)})
   case first=>
    cases so
    .have E:=AA (QE (zZ:=k.zZ) (n:= -1) fC.out)
     go_wp2_with fail;go_meet
     case rel=>rw[E.out];exact cC.out
    .have E:=AA (SU (zZ:=k.zZ) (n:= -1) fC.out (gH.out rfl))
     obtain⟨x0,x1,x2,x3⟩:=cC.out.xs;obtain⟨av,au,_,_⟩:=cC.out.lts;have cf:=cC.out.zl;obtain⟨_,_,d2⟩:=cC.out.zS (f:=fo) (by show fo<(k.zZ).length;have:=HK.out.len;(try simp only[Cg]);omega)
     try simp only at d2
     have cT:=HK.out.yP f9;generalize hrv:(zS (k.zZ) fo).r=rv at d2 cT;obtain⟨nr,hnr⟩:∃nr,rv - 1=nr:=⟨_,rfl⟩
     have dN:=AA hnr;clear hnr;have eH:(fo:Int)<12:=by omega
     go_wp2_with fail;refine AY 10 167 [.p w.heap.size 1,.s gi 12 al,.i ((fo:Int)),.p w.heap.size 1,.s gi 12 al,.i ((fo:Int)),.p gi (fo*3),.p gi (fo*3+2),.i rv,.i nr] (λ_ _ _=>True) ?_ ?_
     .intro i hi o ho a wx Hb Hd hG K HK
      have be:=bc hG au x1;have a5:=bc hG cf d2
      match i,hi with
      |0,_|2,_|3,_|5,_|7,_=>exact sP ho HK Hb Hd
      |1,_|4,_=>exact sL ho HK Hb Hd (hl:=F8 ‹_›)
      |6,_=>exact sI ho HK Hb Hd (hr:=by clear Hd Hb HK;go_simp)
      |8,_=>exact sL ho HK Hb Hd (hl:=Fp ‹_›)
      |9,_=>clear be a5;obtain rfl:=yF ho;have d8:(a.tmps[138]?.getD undef)=.int .i64 rv:=BM Hd 8;clear Hd Hb;refine yE ?_;go_simp;exact HK.out _ _ (by show yf .i64 (IntKind.i64.wrap (rv - 1))=.int .i64 nr;rw[xy _ (by omega),dN.out]) (yD _ _)
     .intro vs wx hR hG
      have q1:(vs 1)=.slice (some ⟨gi,0,none⟩) 12 al:=BW hR 1;have q2:(vs 2)=.int .i64 fo:=BW hR 2;have q9:(vs 9)=.int .i64 nr:=BW hR 9;clear hR;simp only[Aj,Ae,yC,yz,yy,yw,q1,q2,q9];simp;clear q1 q2 q9;have SB:=AA (cC.out.below hG);obtain⟨_,_,dH⟩:=SB.out.zS (f:=fo) (by show fo<(k.zZ).length;have:=HK.out.len;(try simp only[Cg]);omega);have Fr:=SB.out.fzi (fo*3+2);have NN:=SB.out.info (by show 12=(k.zZ).length;have:=HK.out.len;(try simp only[Cg]);omega) (f:=fo) (by show fo<(k.zZ).length;have:=HK.out.len;(try simp only[Cg]);omega) (-1)
      try simp only at NN dH
      rw[hrv] at NN dH;rw[show rv+ -1=nr by have:=dN.out;omega] at NN;replace NN:=AA NN;generalize hW9:wx.setCell _ _=W9 at NN;clear x0 x1 x2 x3 d2 hG SB;go_wp2_with fail;go_meet
      case rel=>rw[E.out];exact NN.out
   case rest=>
   replace hcut:=AA hcut;have c6:=hcut;clear hcut cC;obtain⟨w12,rfl⟩:∃w12:World,w12=wc:=⟨_,rfl⟩
   go_upto_if 142 with fail;go_cut [] (λwx=>ET 55 #[.int .i64 6,.int .i64 en,.int .i64 an,.int .i64 bn,.int .i64 c,.string nm] [w.heap.size+2] lo w.heap.size (w.heap.size+1) w wx (.slice (some ⟨gm,0,none⟩) 12 aq) (.slice (some ⟨gi,0,none⟩) 12 al) (.slice (some ⟨ge,0,none⟩) 3 ar) (.slice a9 n9 c9) {k with zW:=Gf us k.zW,zZ:=A4 (A4 k.zZ wo (-1)) c 1})
   case first=>
    cases sm
    .have E:=AA (QE (zZ:=A4 k.zZ wo (-1)) (n:=1) cp.out)
     go_wp2_with fail;go_meet
     case rel=>rw[E.out];exact c6.out
    .have E:=AA (SU (zZ:=A4 k.zZ wo (-1)) (n:=1) cp.out (eS.out rfl))
     have SR:=AA (JR.refer (MY (At HK.out).2.1) HK.out.len (n:= -1) (x:=wo) (.inr rfl));obtain⟨x0,x1,x2,x3⟩:=c6.out.xs;obtain⟨av,au,_,_⟩:=c6.out.lts;have cf:=c6.out.zl;obtain⟨_,_,d2⟩:=c6.out.zS (f:=fn) (by show fn<(A4 k.zZ wo (-1)).length;have:=HK.out.len;(try simp only[Cg]);omega)
     try simp only at d2
     have cT:=SR.out fn (by simp only[Cg];rw[HK.out.len];exact dX);generalize hrv:(zS (A4 k.zZ wo (-1)) fn).r=rv at d2 cT;obtain⟨nr,hnr⟩:∃nr,rv+1=nr:=⟨_,rfl⟩
     have dN:=AA hnr;clear hnr;have eH:(fn:Int)<12:=by omega
     go_wp2_with fail;refine AY 10 167 [.p w.heap.size 1,.s gi 12 al,.i ((fn:Int)),.p w.heap.size 1,.s gi 12 al,.i ((fn:Int)),.p gi (fn*3),.p gi (fn*3+2),.i rv,.i nr] (λ_ _ _=>True) ?_ ?_
     .intro i hi o ho a wx Hb Hd hG K HK
      have be:=bc hG au x1;have a5:=bc hG cf d2
      match i,hi with
      |0,_|2,_|3,_|5,_|7,_=>exact sP ho HK Hb Hd
      |1,_|4,_=>exact sL ho HK Hb Hd (hl:=F8 ‹_›)
      |6,_=>exact sI ho HK Hb Hd (hr:=by clear Hd Hb HK;go_simp)
      |8,_=>exact sL ho HK Hb Hd (hl:=Fp ‹_›)
      |9,_=>clear be a5;obtain rfl:=yF ho;have d8:(a.tmps[151]?.getD undef)=.int .i64 rv:=BM Hd 8;clear Hd Hb;refine yE ?_;go_simp;exact HK.out _ _ (by show yf .i64 (IntKind.i64.wrap (rv+1))=.int .i64 nr;rw[xy _ (by omega),dN.out]) (yD _ _)
     .intro vs wx hR hG
      have q1:(vs 1)=.slice (some ⟨gi,0,none⟩) 12 al:=BW hR 1;have q2:(vs 2)=.int .i64 fn:=BW hR 2;have q9:(vs 9)=.int .i64 nr:=BW hR 9;clear hR;simp only[Aj,Ae,yC,yz,yy,yw,q1,q2,q9];simp;clear q1 q2 q9;have SB:=AA (c6.out.below hG);obtain⟨_,_,dH⟩:=SB.out.zS (f:=fn) (by show fn<(A4 k.zZ wo (-1)).length;have:=HK.out.len;(try simp only[Cg]);omega);have Fr:=SB.out.fzi (fn*3+2);have NN:=SB.out.info (by show 12=(A4 k.zZ wo (-1)).length;have:=HK.out.len;(try simp only[Cg]);omega) (f:=fn) (by show fn<(A4 k.zZ wo (-1)).length;have:=HK.out.len;(try simp only[Cg]);omega) (1)
      try simp only at NN dH
      rw[hrv] at NN dH;rw[show rv+1=nr by have:=dN.out;omega] at NN;replace NN:=AA NN;generalize hW9:wx.setCell _ _=W9 at NN;clear x0 x1 x2 x3 d2 hG SB;go_wp2_with fail;go_meet
      case rel=>rw[E.out];exact NN.out
   case rest=>
   replace hcut:=AA hcut;have dk:=hcut;clear hcut c6;obtain⟨w13,rfl⟩:∃w13:World,w13=wc:=⟨_,rfl⟩
   obtain⟨x0,x1,x2,x3⟩:=dk.out.xs;obtain⟨y0,y1,y2,y3,y4,y5⟩:=dk.out.ys6;obtain⟨av,au,_,_⟩:=dk.out.lts;obtain⟨gw,bi,Dw,cW,dC,_⟩:=dk.out.mrow cN.out (f:=an) bs;have cl:gm<w13.heap.size:=yA _ _ Dw;go_wp2_with fail;refine AY 10 167 [.p w.heap.size 0,.s gm 12 aq,.p (w.heap.size+1) 2,.i ((an:Int)),.p gm an,.s gw 4 bi,.p (w.heap.size+1) 3,.i ((bn:Int)),.p (w.heap.size+1) 4,.i c] (λ_ _ _=>True) ?_ ?_
   .intro i hi o ho a wx Hb Hd hG K HK
    have a5:=bc hG av y2;have bw:=bc hG av y3;have bu:=bc hG av y4
    match i,hi with
    |0,_|2,_|6,_|8,_=>exact sP ho HK Hb Hd
    |1,_=>exact sL ho HK Hb Hd (hl:=GT (bc hG au x0))
    |3,_|7,_|9,_=>exact sL ho HK Hb Hd (hl:=Fp ‹_›)
    |4,_=>exact sI ho HK Hb Hd (hr:=by clear Hd Hb HK;go_simp)
    |5,_=>exact sL ho HK Hb Hd (hl:=J5 (bc hG cl Dw))
   .intro vs wx hR hG
    have q5:(vs 5)=.slice (some ⟨gw,0,none⟩) 4 bi:=BW hR 5;have q7:(vs 7)=.int .i64 bn:=BW hR 7;have q9:(vs 9)=.int .i64 c:=BW hR 9;clear hR;simp only[Aj,Ae,yC,yz,yy,yw,q5,q7,q9];simp;clear q5 q7 q9;have gs:=AA (dk.out.below hG);obtain⟨gj,dJ,D2,_,_,hC,Fr,_,_,_,hS⟩:=gs.out.mrow cN.out (f:=an) bs;have eD:=D2.symm.trans ((hG.cell (p:=⟨gm,an,none⟩) cl).trans Dw);cases eD;have D3:=hC bn dZ;have fz:=AA (hS bn c dZ);generalize hW9:wx.setCell _ _=W9 at fz;clear x0 x1 x2 x3 y0 y1 y2 y3 y4 y5 Dw D2 hS hG dk hC;obtain⟨⟨x0,x1,x2,x3⟩,⟨⟨z0,z1,z2,z3⟩,a6⟩,HE,HR⟩:=fz.out.fin az (v:=0) (code:=0) (ek.out);go_wp2_with ((try simp only[xQ,Exit.then]);with_reducible refine yk ?_ rfl HR.out;obtain⟨E0,E1,E2,E3⟩:=HE.out;simp[results,vR,go_sem,E0,E1,E2,E3])
 .have t1:(fc !=0)=true:=by simp[ef]
  have hc:=AA ef;have ay:=AA (show Ad k ⟨6,(en:Int),ra,b,c,nm⟩=(k,0,fc) by rw[HP.out,if_neg ef]);clear ef FZ HP;obtain⟨⟨x0,x1,x2,x3⟩,⟨⟨z0,z1,z2,z3⟩,a6⟩,HE,HR⟩:=S1.out.yH az (v:=0) (code:=fc) (ay.out) (hc.out);go_wp2_with ((try simp only[xQ,Exit.then]);with_reducible refine yk ?_ rfl HR.out;obtain⟨E0,E1,E2,E3⟩:=HE.out;simp[results,vR,go_sem,E0,E1,E2,E3])
theorem XY(h:DP lo w mv iv ev cv k)(az:lo<=w.heap.size)(hk:DJ k)(call:Aa)(he:0<=call.e/\call.e<3)(ch:call.nm.size<=maxLen)(hc:call.c<=9223372036854775807):
 Calls prog 122 #[.agg #[mv,iv,ev,cv],.agg call.cs] w (Kr lo w (Ad k call)):=by
 have bk:=SC.start h az call;obtain⟨am,dq,cm,ai,ni,ci,ae,ep,ce,ac,nc,cc,rfl,rfl,rfl,rfl⟩:=bk.zQ;have S0:=AA bk;obtain⟨kk,e,a,b,c,nm⟩:=call;simp only[Aa.cs] at S0 ⊢;have HK:=AA hk;have HE:=AA he;have HN:=AA ch;have HC:=AA hc;obtain⟨x0,x1,x2,x3⟩:=S0.out.xs;obtain⟨y0,y1,y2,y3,y4,y5⟩:=S0.out.ys6;clear h bk he hk ch hc;generalize hW0:((w.alloc _).alloc _).alloc _=W0 at*
 by_cases hk:kk=1∨kk=2∨kk=3∨kk=4∨kk=5∨kk=6∨kk=7∨kk=8∨kk=9∨kk=10∨kk=11
 .skip
  rcases hk with rfl|rfl|rfl|rfl|rfl|rfl|rfl|rfl|rfl|rfl|rfl
  all_goals
   have C:=S0.out.yI.2.2;go_in;go_wp2_with fail
   first
   |refine(Uh C S0.out.lo HK.out ⟨_,e,a,b,c,nm⟩ HE.out rfl HN.out).mono ?_
   |refine(Ue C S0.out.lo HK.out ⟨_,e,a,b,c,nm⟩ HE.out rfl).mono ?_
   |refine(Uf C S0.out.lo HK.out ⟨_,e,a,b,c,nm⟩ HE.out rfl).mono ?_
   |refine(Vu C S0.out.lo HK.out ⟨_,e,a,b,c,nm⟩ HE.out (by simp)).mono ?_
   |refine(Vv C S0.out.lo HK.out ⟨_,e,a,b,c,nm⟩ HE.out rfl HC.out).mono ?_
   |refine(Ug C S0.out.lo HK.out ⟨_,e,a,b,c,nm⟩ HE.out rfl).mono ?_
   |refine(Qu C S0.out.lo HK.out ⟨_,e,a,b,c,nm⟩ HE.out (by simp) HN.out).mono ?_
   |refine(Vt C S0.out.lo HK.out ⟨_,e,a,b,c,nm⟩ HE.out (by simp)).mono ?_
   rintro r w1 ⟨m',i',e',c',rfl,hs,hK,hb,hf⟩;obtain⟨hB,dG,dO⟩:=Kr.up S0.out (yB az (wI _ _)) (wI _ _) hs hK hb hf;obtain⟨am,gP,cm,ai,ni,ci,ae,gQ,ce,ac,nc,cc,rfl,rfl,rfl,rfl⟩:=hs;obtain⟨z0,z1,z2,z3⟩:=AG hB;have a6:=AK hB;have gI:=AA (AG dG);have HR:=AA dO;clear hK hb hf hB dG dO x0 x1 x2 x3 y0 y1 y2 y3 y4 y5 hW0;go_wp2_with fail;exact yk (v:=.tuple #[.agg #[_,_,_,_],.int .i64 _,.int .i64 _]) (by simp[results,sQ,go_sem,gI.out]) rfl HR.out
 simp only[not_or] at hk;obtain⟨e1,e2,e3,e4,e5,e6,e7,e8,e9,ea,fw⟩:=hk;have ay:=AA (show Ad k ⟨kk,e,a,b,c,nm⟩=(k,0,3) by unfold Ad;rw[if_neg e1,if_neg (by rw[Ab];simp only;omega),if_neg e7,if_neg e8,if_neg e9,if_neg (by simp only;omega)]);have t1:(kk==1)=false:=by simp[e1]
 have t2:(kk==2)=false:=by simp[e2]
 have t3:(kk==3)=false:=by simp[e3]
 have t4:(kk==4)=false:=by simp[e4]
 have t5:(kk==5)=false:=by simp[e5]
 have t6:(kk==6)=false:=by simp[e6]
 have t7:(kk==7)=false:=by simp[e7]
 have t8:(kk==8)=false:=by simp[e8]
 have t9:(kk==9)=false:=by simp[e9]
 have gN:(kk==10)=false:=by simp[ea]
 have gM:(kk==11)=false:=by simp[fw]
 clear e1 e2 e3 e4 e5 e6 e7 e8 e9 ea fw;go_in;obtain⟨⟨x0,x1,x2,x3⟩,⟨⟨z0,z1,z2,z3⟩,a6⟩,HE,HR⟩:=S0.out.yH az (v:=0) (code:=3) (ay.out) (by decide);go_wp2_with ((try simp only[xQ,Exit.then]);with_reducible refine yk ?_ rfl HR.out;obtain⟨E0,E1,E2,E3⟩:=HE.out;simp[results,sQ,go_sem,E0,E1,E2,E3])
def PD(lo:Nat)(b:Bool)(v:Value)(w:World)(k:AN):Prop:=b=true∨∃m i e c,v=.agg #[m,i,e,c]/\DP lo w m i e c k
theorem PD.below{b:Bool}(h:PD lo b v w k)(hb:Below w.heap.size w w'):PD lo b v w' k:=h.imp id λ⟨m,i,e,c,h1,h2⟩=>⟨m,i,e,c,h1,h2.below hb⟩
theorem PD.yL{b:Bool}{cu:Array Value}(h:PD lo b v w k)(hg:w.grownBy w' (some g))(hB:w.heap[g]?=some (.cells cu 28 (0,0))):PD lo b v w' k:=h.imp id λ⟨m,i,e,c,h1,h2⟩=>⟨m,i,e,c,h1,h2.yL hg hB⟩
def QK(lo:Nat)(w:World)(m i e c:Value)(k:AN)(y:Int):Prop:=bZ m i e c/\(y=0->DP lo w m i e c k)
theorem QK.below{e:Value}(h:QK lo w m i e c k y)(hb:Below w.heap.size w w'):QK lo w' m i e c k y:=⟨h.1,λh0=>(h.2 h0).below hb⟩
theorem QK.yL{e:Value}{cu:Array Value}(h:QK lo w m i e c k y)(hg:w.grownBy w' (some g))(hB:w.heap[g]?=some (.cells cu 28 (0,0))):QK lo w' m i e c k y:=⟨h.1,λh0=>(h.2 h0).yL hg hB⟩
def L5(lo:Nat)(v:Value)(w:World)(k:AN)(x y:Int):Prop:=∃m i e c,v=.tuple #[.agg #[m,i,e,c],.int .i64 x,.int .i64 y]/\QK lo w m i e c k y
def Qo(lo:Nat)(v:Value)(w:World)(k:AN)(y:Int):Prop:=∃m i e c,v=.agg #[m,i,e,c]/\QK lo w m i e c k y
theorem L5.below(h:L5 lo v w k x y)(hb:Below w.heap.size w w'):L5 lo v w' k x y:=by obtain⟨m,i,e,c,h1,h2⟩:=h;exact⟨m,i,e,c,h1,h2.below hb⟩
theorem L5.yL{cu:Array Value}(h:L5 lo v w k x y)(hg:w.grownBy w' (some g))(hB:w.heap[g]?=some (.cells cu 28 (0,0))):L5 lo v w' k x y:=by obtain⟨m,i,e,c,h1,h2⟩:=h;exact⟨m,i,e,c,h1,h2.yL hg hB⟩
theorem Qo.below(h:Qo lo v w k y)(hb:Below w.heap.size w w'):Qo lo v w' k y:=by obtain⟨m,i,e,c,h1,h2⟩:=h;exact⟨m,i,e,c,h1,h2.below hb⟩
theorem Qo.yL{cu:Array Value}(h:Qo lo v w k y)(hg:w.grownBy w' (some g))(hB:w.heap[g]?=some (.cells cu 28 (0,0))):Qo lo v w' k y:=by obtain⟨m,i,e,c,h1,h2⟩:=h;exact⟨m,i,e,c,h1,h2.yL hg hB⟩
def IE(lo:Nat)(b:Bool)(v:Value)(w:World)(k:AN)(y:Int):Prop:=∃q,v=.pointer (some ⟨q,0,none⟩)/\lo<=q/\if b=true then ∃m i e c,w.heap[q]?=some (.cells #[m,i,e,c] 28 (0,0))/\QK lo w m i e c k y else w.heap[q]?=some (.cells #[.slice none 0 0,.slice none 0 0,.slice none 0 0,.slice none 0 0] 28 (0,0))
theorem IE.below{b:Bool}(h:IE lo b v w k y)(hb:Below w.heap.size w w'):IE lo b v w' k y:=by
 obtain⟨q,h0,h1,h2⟩:=h;refine⟨q,h0,h1,?_⟩;cases b
 .exact AC h2 hb
 .obtain⟨m,i,e,c,h3,h4⟩:=h2
  exact⟨m,i,e,c,AC h3 hb,h4.below hb⟩
theorem IE.stay(h:IE lo false v w k y)(hf:aD w w'):IE lo false v w' k y:=by obtain⟨q,h0,h1,h2⟩:=h;exact⟨q,h0,h1,(hf q _ h2).trans h2⟩
theorem LI(h:Ma w mv iv ev cv k)(hk:DJ k)(call:Aa)(he:0<=call.e/\call.e<3)(ch:call.nm.size<=maxLen)(fp:call.c<=9223372036854775807):
 Calls prog 67 #[.agg #[mv,iv,ev,cv],.agg call.cs] w (NV w (Ad k call)):=by
 have eY:=AA (λ(lo:Nat)(W:World)(m1 i1 e1 c1:Value)(h:DP lo W m1 i1 e1 c1 k)(az:lo<=W.heap.size)=>XY h az hk call he ch fp);have HR:=AA h;have gG:=AA hk;have HN:=AA (@PQ k call);generalize Ad k call=res at eY HN ⊢;obtain⟨kr,vr,nr⟩:=res;obtain⟨ck,ce,ca,cb,cc,nm⟩:=call;simp only[Aa.cs] at eY ⊢;obtain⟨B0,B1,B2,cz,gS⟩:=Kg w (.cells #[mv,iv,ev,cv] 28) (.cells #[.int .i64 ck,.int .i64 ce,.int .i64 ca,.int .i64 cb,.int .i64 cc,.string nm] 55) (.cells #[.slice none 0 0,.slice none 0 0,.slice none 0 0,.slice none 0 0] 28);have CC:=AA (λW (hW:Below (((w.alloc (.cells #[mv,iv,ev,cv] 28)).alloc (.cells #[.int .i64 ck,.int .i64 ce,.int .i64 ca,.int .i64 cb,.int .i64 cc,.string nm] 55)).alloc (.cells #[.slice none 0 0,.slice none 0 0,.slice none 0 0,.slice none 0 0] 28)).heap.size _ W)=>LH mv iv ev cv k W ((HR.out.below cz).below hW) gG.out);clear he ch fp h hk;go_in;go_wp2_with fail;generalize((w.alloc _).alloc _).alloc _=W0 at*;obtain⟨x0,x1,x2,x3⟩:=AG B0;obtain⟨y0,y1,y2,y3,y4,y5⟩:=JT B1;have dW:=AW B0;have dE:=AW B1;have eW:=AA cz;have HB:=AA (xZ B0 B2);clear cz B0 B1 B2;have cz:=dE;clear dE;refine EB 12 26 (λix=>ix==3||ix==9) [.a #[mv,iv,ev,cv],.z,.a #[.int .i64 ck,.int .i64 ce,.int .i64 ca,.int .i64 cb,.int .i64 cc,.string nm],.z,.z,.z,.i vr,.i nr,.z,.z,.i vr,.i nr] (λll ix vv ww=>match ix with
  |1=>PD W0.heap.size (ll 3) vv ww k
  |3|4=>L5 W0.heap.size vv ww kr vr nr
  |5=>Qo W0.heap.size vv ww kr nr
  |8=>IE W0.heap.size (ll 9) vv ww kr nr
  |_=>True) (λll ww=>Below W0.heap.size W0 ww) ?_ ?_ ?_ ?_ ?_ ?_
 .exact A8 (yD _ _) 1
 .intro j hj ll i vv wz cP hi hS dh ft a4 hz
  match j,hj with
  |1,_=>exact(PD.below (by rw[GH (by rintro rfl;exact absurd hS (by decide))];exact hz) a4)
  |3,_|4,_=>exact(L5.below hz a4)
  |5,_=>exact(Qo.below hz a4)
  |8,_=>exact(IE.below (by rw[GH (by rintro rfl;exact absurd hS (by decide))];exact hz) a4)
  |0,_|2,_|6,_|7,_|9,_|10,_|11,_=>exact hz
 .intro ll i wz cP hi hS dh a4 hg
  exact hg.trans (a4.mono hg.size)
 .intro i hi hS o ho a wx Hb ll Hd HL hG K HK
  have be:=bc hG dW x0;have a5:=bc hG dW x1;have bY:=bc hG dW x2;have bw:=bc hG dW x3;have bu:=bc hG cz y0;have bN:=bc hG cz y1;have ds:=bc hG cz y2;have dr:=bc hG cz y3;have dT:=bc hG cz y4;have dS:=bc hG cz y5
  match i,hi,hS with
  |0,_,_=>exact Nl ho HK Hb Hd HL (hl:=Np ‹_› ‹_› ‹_› ‹_›)
  |1,_,_=>exact bv ho HK Hb Hd HL (CC.out _ hG) (by rintro r w_ ⟨m',i',e',c',rfl,hO,a0⟩;exact⟨_,rfl,(.inr ⟨m',i',e',c',rfl,hO.lower hG.size⟩),a0⟩)
  |2,_,_=>exact Nl ho HK Hb Hd HL (hl:=bS ‹_› ‹_› ‹_› ‹_› ‹_› ‹_›)
  |10,_,_|11,_,_=>exact Wg ho HK Hb Hd HL
  |3,_,hs|9,_,hs=>cases hs
  |4,_,_=>clear be a5 bY bw bu bN ds dr dT dS;obtain rfl:=yF ho;have d3:L5 W0.heap.size (a.tmps[14]?.getD undef) wx kr vr nr:=DV Hd HL 3;have u3:ll 3=true:=HL.out.2.1 3 (by kernel_rfl);have u9:=Ba HL 9;clear Hd Hb;refine yE ?_;go_simp;exact HK.out _ _ d3 (yD _ _)
  |5,_,_=>clear be a5 bY bw bu bN ds dr dT dS;obtain rfl:=yF ho;have d4:L5 W0.heap.size (a.tmps[10]?.getD undef) wx kr vr nr:=DV Hd HL 4;have u9:=Ba HL 9;clear Hd Hb;obtain⟨m',i',e',c',d4,hO⟩:=d4;refine yE ?_;go_simp;exact HK.out _ _ ⟨_,_,_,_,rfl,hO⟩ (yD _ _)
  |6,_,_|7,_,_=>clear be a5 bY bw bu bN ds dr dT dS;obtain rfl:=yF ho;have d4:L5 W0.heap.size (a.tmps[10]?.getD undef) wx kr vr nr:=DV Hd HL 4;clear Hd Hb;obtain⟨m',i',e',c',d4,hO⟩:=d4;refine yE ?_;go_simp;exact HK.out _ _ rfl (yD _ _)
  |8,_,_=>clear be a5 bY bw bu bN ds dr dT dS;obtain rfl:=yF ho;have u9:=Ba HL 9;clear Hd Hb;refine yE ?_;go_simp;exact HK.out _ _ ⟨_,rfl,hG.size,by rw[GH (by decide),u9];exact yv _ _⟩ (AE _ _)
 .intro i hi hS o ho a wx Hb ll Hd HL hG K HK
  match i,hi,hS with
  |0,_,hs|1,_,hs|2,_,hs|4,_,hs|5,_,hs|6,_,hs|7,_,hs|8,_,hs|10,_,hs|11,_,hs=>cases hs
  |3,_,_=>
   obtain rfl:=yF ho;have d1:PD W0.heap.size (ll 3) (a.tmps[12]?.getD undef) wx k:=DV Hd HL 1;have d2:(a.tmps[13]?.getD undef)=.agg #[.int .i64 ck,.int .i64 ce,.int .i64 ca,.int .i64 cb,.int .i64 cc,.string nm]:=DV Hd HL 2;have u9:=Ba HL 9;clear Hd Hb
   rcases d1 with d1|⟨m',i',e',c',d1,hO⟩
   .rw[HL.out.1] at d1;cases d1
   refine yE ?_;go_simp;refine(eY.out _ _ _ _ _ _ hO hG.size).mono ?_;rintro r w_ ⟨m2,i2,e2,c2,rfl,hs,f6,a0,hf⟩;exact HK.out _ _ ⟨m2,i2,e2,c2,rfl,hs,f6⟩ (hG.trans a0) (λj b7 b9 bK hu=>match j,b9 with
    |0,_|2,_|6,_|7,_|9,_|10,_|11,_=>hu
    |1,_=> .inl (by rw[Gk])
    |3,_=>absurd rfl b7
    |4,_=>absurd (HL.out.2.2 4 3 (bK) (by kernel_rfl)) (by rw[HL.out.1];decide)
    |5,_=>absurd (HL.out.2.2 4 3 (HL.out.2.2 5 4 (bK) (by kernel_rfl)) (by kernel_rfl)) (by rw[HL.out.1];decide)
    |8,_=>by
     change IE _ (ll 9) _ _ _ _ at hu
     rw[u9] at hu
     show IE _ (GP ll 3 9) _ _ _ _
     rw[GH (by decide),u9];exact IE.stay hu hf)
  |9,_,_=>
   obtain rfl:=yF ho;have d8:IE W0.heap.size (ll 9) (a.tmps[7]?.getD undef) wx kr nr:=DV Hd HL 8;have d5:Qo W0.heap.size (a.tmps[15]?.getD undef) wx kr nr:=DV Hd HL 5;have u3:ll 3=true:=HL.out.2.1 3 (by kernel_rfl);clear Hd Hb;obtain⟨qb,ea,ey,cw⟩:=d8;rw[HL.out.1] at cw;replace cw:wx.heap[qb]?=some (.cells #[.slice none 0 0,.slice none 0 0,.slice none 0 0,.slice none 0 0] 28 (0,0)):=cw;obtain⟨m',i',e',c',d5,hO⟩:=d5;obtain⟨va,vn,vc,wa,wn,wc,xa,xn,xc,ya,yn,yc,rfl,rfl,rfl,rfl⟩:=hO.1;obtain⟨c0,fy,c2,c3⟩:=AG cw;have fq:=AK cw;have bz:=AA (Ao wx qb (.slice va vn vc) (.slice wa wn wc) (.slice xa xn xc) (.slice ya yn yc));have gJ:=AA ea;have Hq:=AA cw;have HO:=AA hO;clear cw hO;refine yE ?_;go_simp;exact HK.out undef _ trivial (AM hG bz.out ey hG.size) (λj b7 b9 bK hu=>match j,b9 with
    |0,_|2,_|6,_|7,_|10,_|11,_=>hu
    |1,_=>by
     show PD _ (GP ll 9 3) _ _ _
     rw[GH (by decide)];exact PD.yL hu bz.out Hq.out
    |3,_|4,_=>L5.yL hu bz.out Hq.out
    |5,_=>Qo.yL hu bz.out Hq.out
    |8,_=>⟨qb,gJ.out,ey,by rw[Gk];exact⟨_,_,_,_,Cs Hq.out,HO.out.yL bz.out Hq.out⟩⟩
    |9,_=>absurd rfl b7)
 .intro vs wx ll a7 hR hG
  have q8:IE W0.heap.size (ll 9) (vs 8) wx kr nr:=BW hR 8;have bB:(vs 10)=.int .i64 vr:=BW hR 10;have ct:(vs 11)=.int .i64 nr:=BW hR 11;clear hR;simp only[De,Bb,yC,yz,yy,yw,bB,ct];simp;generalize vs 8=z8 at q8 ⊢;clear bB ct;obtain⟨qb,rfl,ey,cw⟩:=q8;rw[a7 9 (by decide),if_pos rfl] at cw;obtain⟨m',i',e',c',ex,hO⟩:=cw;clear a7 x0 x1 x2 x3 y0 y1 y2 y3 y4 y5;obtain⟨va,vn,vc,wa,wn,wc,xa,xn,xc,ya,yn,yc,rfl,rfl,rfl,rfl⟩:=hO.1;obtain⟨c0,fy,c2,c3⟩:=AG ex;have eZ:=AC HB.out.1 hG;have dd:=AC HB.out.2 hG;have dm:=AA (eW.out.trans (hG.mono eW.out.size))
  by_cases h0:nr=0
  focus
   subst h0
   have hK:=hO.2 rfl;have a6:=AK dd;obtain⟨z0,z1,z2,z3⟩:=AG dd;obtain⟨E0,E1,E2,E3⟩:=Jc (m':=.slice va vn vc) (i':=.slice wa wn wc) (e':=.slice xa xn xc) (c':=.slice ya yn yc) dd;have HE:=AA (xZ E0 (xZ E1 (xZ E2 E3)));have bz:=Ao wx (w.heap.size+1+1) (.slice va vn vc) (.slice wa wn wc) (.slice xa xn xc) (.slice ya yn yc);have fI:=AA (show DP w.heap.size _ (.slice va vn vc) (.slice wa wn wc) (.slice xa xn xc) (.slice ya yn yc) kr from(hK.yL bz dd).lower eW.out.size);have fM:=AA (AM dm.out bz (by omega) dm.out.size);clear E0 E1 E2 E3 hO hK bz eZ dd HN hG ex
  rotate_left
  focus
   have t0:(nr !=0)=true:=by simp[h0]
   have hN:=HN.out h0;simp only[Prod.mk.injEq,and_true] at hN;obtain⟨rfl,rfl⟩:=hN;obtain⟨x0,x1,x2,x3⟩:=AG eZ;have gK:=CC.out wx hG;clear hO ex c0 fy c2 c3;go_wp2_with fail;refine gK.mono ?_;rintro r w4 ⟨m4,i4,e4,c4,rfl,O4,b4⟩;have B4:=AC dd b4;have a6:=AK B4;obtain⟨z0,z1,z2,z3⟩:=AG B4;obtain⟨E0,E1,E2,E3⟩:=Jc (m':=m4) (i':=i4) (e':=e4) (c':=c4) B4;have HE:=AA (xZ E0 (xZ E1 (xZ E2 E3)));have bz:=Ao w4 (w.heap.size+1+1) m4 i4 e4 c4;have fI:=AA (show DP w.heap.size _ m4 i4 e4 c4 kr from(O4.yL bz B4).lower dm.out.size);have fM:=AA (AM (dm.out.trans (b4.mono dm.out.size)) bz (by omega) (by have:=dm.out.size;have:=b4.size;omega));obtain⟨⟨_,_,_,rfl⟩,⟨_,_,_,rfl⟩,⟨_,_,_,rfl⟩,⟨_,_,_,rfl⟩⟩:=O4.zQ;clear E0 E1 E2 E3 O4 b4 B4 bz eZ dd x0 x1 x2 x3 hG
  rotate_left
  all_goals
   go_wp2_with fail;exact yk (v:=.tuple #[.agg #[_,_,_,_],_,_]) (by simp[results,Tryz.results67,go_sem,HE.out]) rfl ⟨_,_,_,_,rfl,fI.out,fM.out⟩
end Go.Proofs.YtpdjjjdkhedibaaGreatDoor
