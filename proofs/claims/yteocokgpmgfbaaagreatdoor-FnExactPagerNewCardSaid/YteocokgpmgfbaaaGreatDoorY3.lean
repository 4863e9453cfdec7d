/-
  Packed:18 texts.
-/
import Derived.Test.YteocokgpmgfbaaaGreatDoorY2
import Derived.StillTailTactics
import Derived.Ground.NamesProg
import Derived.Ground.Names2Prog
import Derived.Shelf.Slices.CompactI
import Derived.Shelf.Slices.Turned
import Derived.Shelf.Sort.Plain
import Derived.Shelf.Spec.SearchS
import Derived.Shelf.Spec.SlicesInsertGrow
import Derived.Shelf.Strings.Prefix
import Derived.Shelf.Strings.SlTrimAscii
import Derived.Test.YteocokgpmgfbaaaGreatDoorProg
import Derived.Sort.OwnSortedInts
import Derived.Shelf.Slices.In.SortNone
set_option linter.unusedVariables false
set_option maxHeartbeats 16000000
set_option maxRecDepth 100000
namespace Go.Proofs.YteocokgpmgfbaaaGreatDoor
open Go.Proofs.Tryz
open Go.RowKit
section
variable {α:Type} {p:α→Bool} {xs ys:List α} {i j:Nat}
structure GO (p:α→Bool) (xs ys:List α) (i j:Nat):Prop where
 len:ys.length=xs.length
 lt:i<j
 le:j≤xs.length
 kept:ys.take i=(xs.take j).filter fun x=>!p x
 rest:ys.drop j=xs.drop j
theorem GO.start {k:Nat} {x:α} (hk:xs[k]? =some x) (h:∀(j:Nat) y,j<k→xs[j]? =some y→p y=false) (hp:p x=true):GO p xs xs k (k+1):=by
 have hlt:=(List.getElem?_eq_some_iff.1 hk).1;refine⟨rfl,by omega,by omega,?_,rfl⟩;rw[DI hk,List.filter_append];have h1:(xs.take k).filter (fun x=>!p x)=xs.take k:=by rw[List.filter_eq_self];intro y hy;obtain⟨j,hj⟩:=List.getElem?_of_mem hy;have hjk:=(List.getElem?_eq_some_iff.1 hj).1;rw[List.length_take] at hjk;rw[List.getElem?_take_of_lt (by omega)] at hj;simp[h j y (by omega) hj]
 rw[h1];simp[hp]
theorem GO.drop (h:GO p xs ys i j) {x:α} (hx:xs[j]? =some x) (hp:p x=true):GO p xs ys i (j+1):=by
 have hlt:=(List.getElem?_eq_some_iff.1 hx).1;refine⟨h.len,by have:=h.lt;omega,by omega,?_,?_⟩
 ·rw[h.kept,DI hx,List.filter_append]
  simp[hp]
 ·have:=congrArg (List.drop 1) h.rest
  rw[List.drop_drop,List.drop_drop] at this;exact this
theorem GO.keep (h:GO p xs ys i j) {x:α} (hx:xs[j]? =some x) (hp:p x=false):GO p xs (ys.set i x) (i+1) (j+1):=by
 have hlt:=(List.getElem?_eq_some_iff.1 hx).1;have hij:=h.lt;refine⟨by rw[List.length_set];exact h.len,by omega,by omega,?_,?_⟩
 ·have e:(ys.set i x).take (i+1)=ys.take i++[x]:=by
   have hi:(ys.set i x)[i]? =some x:=by rw[List.getElem?_set_self (by rw[h.len];omega)]
   rw[DI hi,List.take_set_of_le (Nat.le_refl _)]
  rw[e,h.kept,DI hx,List.filter_append];simp[hp]
 ·rw[List.drop_set_of_lt (by omega)]
  have:=congrArg (List.drop 1) h.rest;rw[List.drop_drop,List.drop_drop] at this;exact this
theorem GO.next (h:GO p xs ys i j):ys[j]? =xs[j]? :=by
 have:=congrArg (fun l=>l[0]?) h.rest;simpa using this
theorem GO.done (h:GO p xs ys i j) (hj:j=xs.length):ys.take i=xs.filter fun x=>!p x:=by rw[h.kept,hj,List.take_length]
theorem KN (h:EJ p xs≠ -1):∃k x,EJ p xs=((k:Nat):Int)∧xs[k]? =some x∧p x=true∧∀(j:Nat) y,j<k→xs[j]? =some y→p y=false:=by
 unfold EJ at h ⊢
 split
 ·rename_i ha
  have hl:xs.findIdx p<xs.length:=List.findIdx_lt_length.2 (List.any_eq_true.1 ha);refine⟨_,xs[xs.findIdx p],rfl,List.getElem?_eq_getElem hl,List.findIdx_getElem,fun j y hj hy=>?_⟩;obtain⟨hjl,rfl⟩:=List.getElem?_eq_some_iff.1 hy;have:=List.not_of_lt_findIdx hj;simpa using this
 ·rename_i ha
  rw[if_neg ha] at h;exact absurd rfl h
theorem MM (h:EJ p xs= -1):xs.filter (fun x=>!p x)=xs:=by
 rw[List.filter_eq_self];intro x hx;unfold EJ at h
 split at h
 ·omega
 ·rename_i ha
  simp only[List.any_eq_true,not_exists,not_and] at ha;simpa using ha x hx
end
theorem AC.strCells {lo e g cap k:Nat} {w:World} {xs:List ByteArray} (h:AC lo e 1 Ag w (.slice (some ⟨g,0,none⟩) xs.length cap) xs) (hk:k<xs.length):w.cell? ⟨g,k,none⟩=some (.string (Bi xs k)):=by have hc:=AC.cellsAt DE h (k:=k) (x:=Bi xs k) (by simp[Bi,hk]);simpa using hc 0 _ rfl
theorem VL {lo e n sz g cap:Nat} {w:World} {xs:List Value} (h:w.ownsRow lo e sz (.slice (some ⟨g,0,none⟩) n cap) n xs):lo≤g∧g<w.heap.size:=World.ownsRow.lt h g rfl
theorem LW:∀w,(zeroValue 95).run prog w= .ok (.agg #[.int .i64 0, .int .i64 0, .int .i64 0, .bool false]) w:=fun _=>by kernel_rfl
theorem Fz {lo:Nat} (F:Nat) (caps:Array Value) (p:AU→Bool) (v:Value) (xs:List AU) (w:World) (h:AC lo 95 4 AJ w v xs) (hlo:lo≤w.heap.size)
 (hF:∀args w,(callFunc F args).run prog w= .ok (.enter F args) w) (hf:∀x,x∈xs→∀W,Below lo w W→Calls prog F (#[x.val]++caps) W fun e W'=>e= .returned (.bool (p x))∧Below W.heap.size W W'):
 Calls prog 170 #[v, .func (.func F) #[] caps] w fun e w'=>∃v',e= .returned v'∧AC lo 95 4 AJ w' v' (xs.filter fun x=>!p x)∧Below lo w w':=by
 have C0:=GP F caps p v xs w h.rd hF (fun x hx W hW=>hf x hx W (hW.mono hlo))
 by_cases hnone:EJ p xs= -1
 ·have S:=AA (MM hnone)
  rw[hnone] at C0;have H:=AA h;obtain⟨a,c,rfl,hc,hcm⟩:=h.rd.shape;have C:=AA C0;clear C0 hf hnone h;go_in;go_wp2_with (refine(C.out).mono ?_;rintro e w1 ⟨rfl,hb1⟩);go_ret;exact⟨_,rfl,by rw[S.out];exact H.out.below hb1,hb1.mono hlo⟩
 ·obtain⟨k,x0,hk,hx0,hp0,hpre⟩:=KN hnone
  rw[hk] at C0;have hkl:k<xs.length:=(List.getElem?_eq_some_iff.1 hx0).1;obtain⟨g,cap,rfl,hc,hcm,hg,hgl,hfz0⟩:=h.shapeOwn (by omega);unfold maxLen at hcm;have t0:((k:Int)== -1)=false:=by rw[beq_eq_false_iff_ne];omega
  have C:=AA C0;have Hf:=AA hf;have S0:=AA (GO.start hx0 hpre hp0);have HO:=AA h;clear C0 hf hnone hk hx0 hp0 hpre h hfz0;go_in;go_wp2_with (refine(C.out).mono ?_;rintro e w1 ⟨rfl,hb1⟩);go_loopw [5,6] (fun i5 j6 wr=>∃i j:Nat,∃ys:List AU,i5= .int .i64 i∧j6= .int .i64 j∧GO p xs ys i j∧AC lo 95 4 AJ wr (.slice (some ⟨g,0,none⟩) xs.length cap) ys∧Below lo w wr) (fun _ j6 _=>xs.length - (intOf j6).toNat)
  case atStart=>exact⟨k,k+1,xs,rfl,by go_num,S0.out,HO.out.below hb1,hb1.mono hlo⟩
  case round=>
   clear hb1 HO;obtain⟨i,j,ys,rfl,rfl,hS,hO,hbel⟩:=hrel;have hij:=hS.lt;have hjl:=hS.le;have hlen:=hS.len;have S:=AA hS;have hO2:AC lo 95 4 AJ wr (.slice (some ⟨g,0,none⟩) ys.length cap) ys:=by rw[hlen];exact hO
   have hfz:∀q,wr.frozen? ⟨g,q,none⟩=false:=fun q=>World.ownsRow.frozenAt hO2 q
   have hlo2:lo≤wr.heap.size:=Nat.le_trans hlo hbel.size
   by_cases hlt:j<xs.length
   ·obtain⟨x,hx⟩:∃x,xs[j]? =some x:=⟨_,List.getElem?_eq_getElem hlt⟩
    have hj2:j<ys.length:=by omega
    have hi2:i<ys.length:=by omega
    obtain⟨d0,d1,d2,d3⟩:=AC.cachedCells hO2 (k:=j) hj2;obtain⟨e0,e1,e2,e3⟩:=AC.cachedCells hO2 (k:=i) hi2;have hyx:Ae ys j=x:=by have:=S.out.next;rw[hx] at this;simp[Ae,this]
    rw[hyx] at d0 d1 d2 d3;have hgw:=(VL hO2);have Cf:=AA (Hf.out x (List.mem_of_getElem? hx) (wr.alloc (.cells #[.int .i64 x.e, .int .i64 x.p, .int .i64 x.f, .bool x.w] 95)) (hbel.alloc hlo2 _));have Hx:=AA hx;have HO2:=AA hO2;have Hi2:i<xs.length:=by omega
    clear hS hO hO2 hx hyx hlen hj2 hi2;go_wp2_with fail;refine(Cf.out).mono ?_;rintro e w2 ⟨rfl,hb2⟩;have hb3:=(hbel.alloc hlo2 (.cells #[.int .i64 x.e, .int .i64 x.p, .int .i64 x.f, .bool x.w] 95)).trans (hb2.mono (by simp;omega));have hgr:=(AF wr (.cells #[.int .i64 x.e, .int .i64 x.p, .int .i64 x.f, .bool x.w] 95)).trans (hb2.mono (AF _ _).size);have HO3:=AA (HO2.out.below hgr);obtain⟨hc2,hf2⟩:=Tw hb2;have hz:wr.heap.size<w2.heap.size:=by have:=hb2.size;simp at this;omega
    cases hp:p x
    ·have SK:=AA (S.out.keep Hx.out hp)
     have Hp:=AA hp;clear hp;have ST0:=AC.stored BP HO3.out (k:=i) (by rw[S.out.len];exact Hi2) x;have ST:=AA ST0;clear ST0;have BL:=AA (AN hb3 ST.out.2 hg (Nat.le_trans hlo2 hgr.size));clear hgr hb3 hb2;go_wp2_with fail;go_roundw
     case rel=>exact⟨i+1,j+1,ys.set i x,by go_num,by go_num,SK.out,by have:=ST.out.1;rw[S.out.len] at this;exact this,BL.out⟩
     case measure=>simp[intOf];omega
    ·have SD:=AA (S.out.drop Hx.out hp)
     have Hp:=AA hp;clear hp;have HB:=AA hb3;clear hgr hb3 hb2;go_wp2_with fail;go_roundw
     case rel=>exact⟨i,j+1,ys,rfl,by go_num,SD.out,by have:=HO3.out;rw[S.out.len] at this;exact this,HB.out⟩
     case measure=>simp[intOf];omega
   ·have hje:j=xs.length:=by omega
    have hd:=AA (hS.done hje);have hin:i<xs.length:=by omega
    have hO3:wr.ownsRow lo 95 4 (.slice (some ⟨g,0,none⟩) xs.length cap) xs.length (Bf AJ ys):=by have:=hO2;unfold AC at this;rwa [hlen] at this
    obtain⟨w3,hcl,hO4,hg4⟩:=H5 (P:=prog) (sz:=4) (t:=25) underlying25 LW rfl (by simp[Value.cells,Value.oneCell']) hO3 hin;have hE:(Bf AJ ys).take (i*4)=Bf AJ (xs.filter fun x=>!p x):=by
     rw[←hd.out]
     conv=>lhs;rw[←List.take_append_drop i ys,BN]
     rw[List.take_left'];rw[F8 BP,List.length_take]
     congr 1;omega
    have hL:(xs.filter fun x=>!p x).length=i:=by rw[←hd.out,List.length_take];omega
    rw[hE] at hO4;have R:=AA (show AC lo 95 4 AJ w3 (.slice (some ⟨g,0,none⟩) i cap) (xs.filter fun x=>!p x) by unfold AC;rw[hL];exact hO4);have BL:=AA (AN hbel hg4 hg hlo2);have hcap:¬cap=i:=by omega
    have hcl2:=fun ty=>hcl ty (cap - i)
    clear hO hO2 hO3 hO4 hE hL hcl hg4 hlen hS hfz hje hd;go_wp2_with fail;go_ret;exact⟨_,rfl,R.out,BL.out⟩
theorem Qk:∀w,(zeroValue 9).run prog w= .ok (.string ⟨#[]⟩) w:=fun _=>by kernel_rfl
theorem Is {lo:Nat} (F:Nat) (caps:Array Value) (p:ByteArray→Bool) (v:Value) (xs:List ByteArray) (w:World) (h:AC lo 9 1 Ag w v xs) (hlo:lo≤w.heap.size)
 (hF:∀args w,(callFunc F args).run prog w= .ok (.enter F args) w) (hf:∀x,x∈xs→∀W,Below lo w W→Calls prog F (#[Value.string x]++caps) W fun e W'=>e= .returned (.bool (p x))∧Below W.heap.size W W'):
 Calls prog 174 #[v, .func (.func F) #[] caps] w fun e w'=>∃v',e= .returned v'∧AC lo 9 1 Ag w' v' (xs.filter fun x=>!p x)∧Below lo w w':=by
 have C0:=GQ F caps p v xs w h.rd hF (fun x hx W hW=>hf x hx W (hW.mono hlo))
 by_cases hnone:EJ p xs= -1
 ·have S:=AA (MM hnone)
  rw[hnone] at C0;have H:=AA h;obtain⟨a,c,rfl,hc,hcm⟩:=h.rd.shape;have C:=AA C0;clear C0 hf hnone h;go_in;go_wp2_with (refine(C.out).mono ?_;rintro e w1 ⟨rfl,hb1⟩);go_ret;exact⟨_,rfl,by rw[S.out];exact H.out.below hb1,hb1.mono hlo⟩
 ·obtain⟨k,x0,hk,hx0,hp0,hpre⟩:=KN hnone
  rw[hk] at C0;have hkl:k<xs.length:=(List.getElem?_eq_some_iff.1 hx0).1;obtain⟨g,cap,rfl,hc,hcm,hg,hgl,hfz0⟩:=h.shapeOwn (by omega);unfold maxLen at hcm;have t0:((k:Int)== -1)=false:=by rw[beq_eq_false_iff_ne];omega
  have C:=AA C0;have Hf:=AA hf;have S0:=AA (GO.start hx0 hpre hp0);have HO:=AA h;clear C0 hf hnone hk hx0 hp0 hpre h hfz0;go_in;go_wp2_with (refine(C.out).mono ?_;rintro e w1 ⟨rfl,hb1⟩);go_loopw [5,6] (fun i5 j6 wr=>∃i j:Nat,∃ys:List ByteArray,i5= .int .i64 i∧j6= .int .i64 j∧GO p xs ys i j∧AC lo 9 1 Ag wr (.slice (some ⟨g,0,none⟩) xs.length cap) ys∧Below lo w wr) (fun _ j6 _=>xs.length - (intOf j6).toNat)
  case atStart=>exact⟨k,k+1,xs,rfl,by go_num,S0.out,HO.out.below hb1,hb1.mono hlo⟩
  case round=>
   clear hb1 HO;obtain⟨i,j,ys,rfl,rfl,hS,hO,hbel⟩:=hrel;have hij:=hS.lt;have hjl:=hS.le;have hlen:=hS.len;have S:=AA hS;have hO2:AC lo 9 1 Ag wr (.slice (some ⟨g,0,none⟩) ys.length cap) ys:=by rw[hlen];exact hO
   have hfz:∀q,wr.frozen? ⟨g,q,none⟩=false:=fun q=>World.ownsRow.frozenAt hO2 q
   have hlo2:lo≤wr.heap.size:=Nat.le_trans hlo hbel.size
   by_cases hlt:j<xs.length
   ·obtain⟨x,hx⟩:∃x,xs[j]? =some x:=⟨_,List.getElem?_eq_getElem hlt⟩
    have hj2:j<ys.length:=by omega
    have hi2:i<ys.length:=by omega
    have d0:=AC.strCells hO2 (k:=j) hj2;have e0:=AC.strCells hO2 (k:=i) hi2;have hyx:Bi ys j=x:=by have:=S.out.next;rw[hx] at this;simp[Bi,this]
    rw[hyx] at d0;have hgw:=(VL hO2);have Cf:=AA (Hf.out x (List.mem_of_getElem? hx) wr hbel);have Hx:=AA hx;have HO2:=AA hO2;have Hi2:i<xs.length:=by omega
    clear hS hO hO2 hx hyx hlen hj2 hi2;go_wp2_with fail;refine(Cf.out).mono ?_;rintro e w2 ⟨rfl,hb2⟩;have hb3:=hbel.trans (hb2.mono hlo2);have hgr:=hb2;have HO3:=AA (HO2.out.below hgr);obtain⟨hc2,hf2⟩:=Tw hb2;have hz:=hb2.size;cases hp:p x
    ·have SK:=AA (S.out.keep Hx.out hp)
     have Hp:=AA hp;clear hp;have ST0:=AC.stored DE HO3.out (k:=i) (by rw[S.out.len];exact Hi2) x;simp only[Nat.mul_one] at ST0;have ST:=AA ST0;clear ST0;have BL:=AA (AN hb3 ST.out.2 hg (Nat.le_trans hlo2 hgr.size));clear hgr hb3 hb2;go_wp2_with fail;go_roundw
     case rel=>exact⟨i+1,j+1,ys.set i x,by go_num,by go_num,SK.out,by have:=ST.out.1;rw[S.out.len] at this;exact this,BL.out⟩
     case measure=>simp[intOf];omega
    ·have SD:=AA (S.out.drop Hx.out hp)
     have Hp:=AA hp;clear hp;have HB:=AA hb3;clear hgr hb3 hb2;go_wp2_with fail;go_roundw
     case rel=>exact⟨i,j+1,ys,rfl,by go_num,SD.out,by have:=HO3.out;rw[S.out.len] at this;exact this,HB.out⟩
     case measure=>simp[intOf];omega
   ·have hje:j=xs.length:=by omega
    have hd:=AA (hS.done hje);have hin:i<xs.length:=by omega
    have hO3:wr.ownsRow lo 9 1 (.slice (some ⟨g,0,none⟩) xs.length cap) xs.length (Bf Ag ys):=by have:=hO2;unfold AC at this;rwa [hlen] at this
    obtain⟨w3,hcl,hO4,hg4⟩:=H5 (P:=prog) (sz:=1) (t:=40) underlying40 Qk rfl (by simp[Value.cells,Value.oneCell']) hO3 hin;have hE:(Bf Ag ys).take (i*1)=Bf Ag (xs.filter fun x=>!p x):=by
     rw[←hd.out]
     conv=>lhs;rw[←List.take_append_drop i ys,BN]
     rw[List.take_left'];rw[F8 DE,List.length_take]
     congr 1;omega
    have hL:(xs.filter fun x=>!p x).length=i:=by rw[←hd.out,List.length_take];omega
    rw[hE] at hO4;have R:=AA (show AC lo 9 1 Ag w3 (.slice (some ⟨g,0,none⟩) i cap) (xs.filter fun x=>!p x) by unfold AC;rw[hL];exact hO4);have BL:=AA (AN hbel hg4 hg hlo2);have hcap:¬cap=i:=by omega
    have hcl2:=fun ty=>hcl ty (cap - i)
    simp only[Nat.mul_one] at hcl2;clear hO hO2 hO3 hO4 hE hL hcl hg4 hlen hS hfz hje hd;go_wp2_with fail;go_ret;exact⟨_,rfl,R.out,BL.out⟩
theorem Mj {lo e sz n m g cap:Nat} {w:World} {xs:List Value} (h:w.ownsRow lo e sz (.slice (some ⟨g,0,none⟩) n cap) n xs) (hn:n≤m) (hm:m≤cap):∃ys,ys.take (n*sz)=xs∧w.ownsRow lo e sz (.slice (some ⟨g,0,none⟩) m cap) m ys:=by
 rcases h.2 with⟨h0,_⟩|⟨g',cap',cur,hv,hb,hg,hnc,hcm,hcs,htake⟩
 ·cases h0
 ·cases hv
  have h1:n*sz≤m*sz:=Nat.mul_le_mul_right _ hn;have h2:m*sz≤cap*sz:=Nat.mul_le_mul_right _ hm;refine⟨cur.toList.take (m*sz),by rw[List.take_take,Nat.min_eq_left h1];exact htake,?_, .inr ⟨g,cap,cur,rfl,hb,hg,hm,hcm,hcs,rfl⟩⟩;rw[List.length_take,Array.length_toList,hcs];omega
theorem Ki {P:Program} {ops:Array Oper} {rest:List Oper} {o:Oper} {a:Act} {Q:Exit→Act→World→Prop} {w w':World} {s x:Operand} {t:TypeId} (hgd:o.guard=none) (ho:o.op= .call {callee:= .builtin .append,args:= #[s,x],argTypes:= #[t,t]})
 {v u v':Value} (hs:a.eval s=v) (hx:a.eval x=u) (hrun:(Builtin.append_ #[t,t] o.type #[v,u]).run P w= .ok v' w') (h:wpList P ops Q rest (a.put o.dst v') w'):wpList P ops Q (o::rest) a w:=
 wpList_plain hgd fun _ hK=>BR ho hs hx hrun (hK _ _ h)
theorem Kq {lo:Nat} (v:Value) (xs:List AU) (w:World) (h:AC lo 95 4 AJ w v xs) (hlo:lo≤w.heap.size) (h4:xs.length=4):
 Calls prog 181 #[v, .int .i64 0, .int .i64 1] w fun e w'=>∃v',e= .returned v'∧AC lo 95 4 AJ w' v' (xs.drop 1)∧Below lo w w':=by
 obtain⟨g,cap,rfl,hc,hcm,hg,hgl,hfz0⟩:=h.shapeOwn (by omega);have h':w.ownsRow lo 95 4 (.slice (some ⟨g,0,none⟩) 4 cap) 4 (Bf AJ xs):=by have:=h;unfold AC at this;rwa [h4] at this
 rw[h4] at hc ⊢;unfold maxLen at hcm;obtain⟨i0,hi0,hz0,hz1,hz2⟩:=info_parts Tryz.infoCachedK;have hl12:((Bf AJ xs).drop 4).length=3*4:=by rw[List.length_drop,F8 BP,h4]
 have hrun:=fun W (hW:∀k,k<w.heap.size→W.heap[k]? =w.heap[k]?) (hO:W.ownsRow lo 95 4 (.slice (some ⟨g,0,none⟩) 4 cap) 4 (Bf AJ xs)) ty=>
  run_append_fits (P:=prog) W lo 25 ty 95 i0 4 underlying25 hi0 hz1 g 0 cap [] (LP hO (Nat.zero_le _)) ⟨g,4,none⟩ 3 (cap - 1) ((Bf AJ xs).drop 4) hl12 (by
   intro j u hu;have hj:j<12:=by have:=(List.getElem?_eq_some_iff.1 hu).1;omega
   have e:(⟨g,4,none⟩:Addr).add j=⟨g,4+j,none⟩:=by unfold Addr.add;split<;>simp_all
   rw[e,World.ownsRow.cellAt hO (4+j) (by omega),←hu,List.getElem?_drop]) (by
   intro u hu;obtain⟨s,_,hs⟩:=List.mem_flatMap.1 (List.mem_of_mem_drop hu);simp[AJ] at hs
   rcases hs with rfl|rfl|rfl|rfl<;>rfl) (by omega)
 have hc1:¬cap=1:=by omega
 have hO:=AA h';have HR:=AA hrun;clear hrun h h' hi0 hz0 hz1 hz2 hl12;go_in;go_wp2_with fail;go_still_tail 6,mixed
 change wpList _ _ _ _ _ w.drew
 have hbd:Below w.heap.size w w.drew:=Ao (Below.refl _ _) 1;have hO2:=AA (Bn hO.out hbd);obtain⟨w3,happ,hO3,hg3⟩:=HR.out w.drew hbd.block hO2.out 25;have hb3:=AN (hbd.mono hlo) hg3 hg (Nat.le_trans hlo hbd.size);have hlo3:lo≤w3.heap.size:=Nat.le_trans hlo hb3.size;obtain⟨ys,hys,hO4⟩:=Mj hO3 (show 0+3≤4 by decide) hc;obtain⟨w4,hcl,hO5,hg5⟩:=H5 (P:=prog) (sz:=4) (t:=25) underlying25 LW rfl (by simp[Value.cells,Value.oneCell']) hO4 (show 3<4 by decide);have hE:ys.take (3*4)=Bf AJ (xs.drop 1):=by
  have e:(Bf AJ xs).drop 4=Bf AJ (xs.drop 1):=by
   cases xs with
   |nil=>rfl
   |cons x xs=>rw[Gd,List.drop_left' (BP x)];rfl
  rw[←e];simpa using hys
 rw[hE] at hO5;have hcap3:¬cap=3:=by omega
 have R:=AA (show AC lo 95 4 AJ w4 (.slice (some ⟨g,0,none⟩) 3 cap) (xs.drop 1) by unfold AC;rw[List.length_drop,h4];exact hO5);have BL:=AA (AN hb3 hg5 hg hlo3);have hcl2:=fun ty=>hcl ty (cap - 3)
 simp only[Nat.zero_add] at happ;clear hcl hO3 hO4 hO5 hg3 hg5 hys hE hb3 hbd;generalize w.drew=w2 at happ ⊢;refine Ki rfl rfl rfl rfl happ ?_;clear happ;go_wp2_with fail;go_ret;exact⟨_,rfl,R.out,BL.out⟩
end Go.Proofs.YteocokgpmgfbaaaGreatDoor
namespace Go.Proofs
open Go.Shelf
def Tryz.lays189_ren:Go.Shelf.Ren:=⟨fun|189=>167|125=>203|257=>202|128=>226|129=>227|294=>217|295=>218|296=>219|297=>220|298=>221|299=>222|216=>223|300=>224|301=>225|328=>232|329=>233|330=>234|331=>235|332=>236|215=>237|343=>241|n=>n,fun|28=>28|3=>3|46=>182|0=>0|51=>203|53=>205|4=>4|183=>196|182=>195|131=>49|5=>5|9=>9|218=>206|222=>143|228=>212|229=>84|n=>n,fun|n=>n⟩
theorem Tryz.lays189:Go.Proofs.Lays.n189 prog Tryz.lays189_ren:= {
 mixed:=by kernel_rfl
 f125:=func203.trans (congrArg some (by kernel_rfl))
 f128:=func226.trans (congrArg some (by kernel_rfl))
 f129:=func227.trans (congrArg some (by kernel_rfl))
 f189:=func167.trans (congrArg some (by kernel_rfl))
 f215:=func237.trans (congrArg some (by kernel_rfl))
 f216:=func223.trans (congrArg some (by kernel_rfl))
 f257:=func202.trans (congrArg some (by kernel_rfl))
 f294:=func217.trans (congrArg some (by kernel_rfl))
 f295:=func218.trans (congrArg some (by kernel_rfl))
 f296:=func219.trans (congrArg some (by kernel_rfl))
 f297:=func220.trans (congrArg some (by kernel_rfl))
 f298:=func221.trans (congrArg some (by kernel_rfl))
 f299:=func222.trans (congrArg some (by kernel_rfl))
 f300:=func224.trans (congrArg some (by kernel_rfl))
 f301:=func225.trans (congrArg some (by kernel_rfl))
 f328:=func232.trans (congrArg some (by kernel_rfl))
 f329:=func233.trans (congrArg some (by kernel_rfl))
 f330:=func234.trans (congrArg some (by kernel_rfl))
 f331:=func235.trans (congrArg some (by kernel_rfl))
 f332:=func236.trans (congrArg some (by kernel_rfl))
 f343:=func241.trans (congrArg some (by kernel_rfl))
 t0:=underlying0
 a0:=Tryz.isAgg0
 z0:=Tryz.sizeOf0
 v0:=Tryz.zeroValue0
 t3:=underlying3
 a3:=Tryz.isAgg3
 z3:=Tryz.sizeOf3
 v3:=Tryz.zeroValue3
 t4:=underlying4
 a4:=Tryz.isAgg4
 z4:=Tryz.sizeOf4
 v4:=Tryz.zeroValue4
 t5:=underlying5
 a5:=Tryz.isAgg5
 z5:=Tryz.sizeOf5
 v5:=Tryz.zeroValue5
 t9:=underlying9
 a9:=Tryz.isAgg9
 z9:=Tryz.sizeOf9
 v9:=Tryz.zeroValue9
 t28:=underlying28
 a28:=Tryz.isAgg28
 z28:=Tryz.sizeOf28
 v28:=Tryz.zeroValue28
 t46:=underlying182
 a46:=Tryz.isAgg182
 z46:=Tryz.sizeOf182
 v46:=Tryz.zeroValue182
 t51:=underlying203
 a51:=Tryz.isAgg203
 z51:=Tryz.sizeOf203
 v51:=Tryz.zeroValue203
 t53:=underlying205
 a53:=Tryz.isAgg205
 z53:=Tryz.sizeOf205
 v53:=Tryz.zeroValue205
 t131:=underlying49
 a131:=Tryz.isAgg49
 z131:=Tryz.sizeOf49
 v131:=Tryz.zeroValue49
 t182:=underlying195
 a182:=Tryz.isAgg195
 z182:=Tryz.sizeOf195
 v182:=Tryz.zeroValue195
 t183:=underlying196
 a183:=Tryz.isAgg196
 z183:=Tryz.sizeOf196
 v183:=Tryz.zeroValue196
 t218:=underlying206
 a218:=Tryz.isAgg206
 z218:=Tryz.sizeOf206
 v218:=Tryz.zeroValue206
 t222:=underlying143
 a222:=Tryz.isAgg143
 z222:=Tryz.sizeOf143
 v222:=Tryz.zeroValue143
 t228:=underlying212
 a228:=Tryz.isAgg212
 z228:=Tryz.sizeOf212
 v228:=Tryz.zeroValue212
 t229:=underlying84
 a229:=Tryz.isAgg84
 z229:=Tryz.sizeOf84
 v229:=Tryz.zeroValue84}
def Tryz.lays2n20_ren:Go.Shelf.Ren:=⟨fun|20=>168|n=>n,fun|22=>28|3=>3|4=>4|0=>0|n=>n,fun|n=>n⟩
theorem Tryz.lays2n20:Go.Proofs.Lays2.n20 prog Tryz.lays2n20_ren:= {
 mixed:=by kernel_rfl
 f20:=func168.trans (congrArg some (by kernel_rfl))
 t0:=underlying0
 a0:=Tryz.isAgg0
 z0:=Tryz.sizeOf0
 v0:=Tryz.zeroValue0
 t3:=underlying3
 a3:=Tryz.isAgg3
 z3:=Tryz.sizeOf3
 v3:=Tryz.zeroValue3
 t4:=underlying4
 a4:=Tryz.isAgg4
 z4:=Tryz.sizeOf4
 v4:=Tryz.zeroValue4
 t22:=underlying28
 a22:=Tryz.isAgg28
 z22:=Tryz.sizeOf28
 v22:=Tryz.zeroValue28
 i3:=by kernel_rfl}
def Tryz.lays107_ren:Go.Shelf.Ren:=⟨fun|107=>163|108=>200|n=>n,fun|28=>28|3=>3|4=>4|0=>0|n=>n,fun|n=>n⟩
theorem Tryz.lays107:Go.Proofs.Lays.n107 prog Tryz.lays107_ren:= {
 mixed:=by kernel_rfl
 f107:=func163.trans (congrArg some (by kernel_rfl))
 f108:=func200.trans (congrArg some (by kernel_rfl))
 t0:=underlying0
 a0:=Tryz.isAgg0
 z0:=Tryz.sizeOf0
 v0:=Tryz.zeroValue0
 t3:=underlying3
 a3:=Tryz.isAgg3
 z3:=Tryz.sizeOf3
 v3:=Tryz.zeroValue3
 t4:=underlying4
 a4:=Tryz.isAgg4
 z4:=Tryz.sizeOf4
 v4:=Tryz.zeroValue4
 t28:=underlying28
 a28:=Tryz.isAgg28
 z28:=Tryz.sizeOf28
 v28:=Tryz.zeroValue28}
def Tryz.lays2n26_ren:Go.Shelf.Ren:=⟨fun|26=>172|33=>204|34=>205|38=>228|n=>n,fun|24=>40|9=>9|3=>3|4=>4|40=>182|0=>0|n=>n,fun|n=>n⟩
theorem Tryz.lays2n26:Go.Proofs.Lays2.n26 prog Tryz.lays2n26_ren:= {
 mixed:=by kernel_rfl
 f26:=func172.trans (congrArg some (by kernel_rfl))
 f33:=func204.trans (congrArg some (by kernel_rfl))
 f34:=func205.trans (congrArg some (by kernel_rfl))
 f38:=func228.trans (congrArg some (by kernel_rfl))
 t0:=underlying0
 a0:=Tryz.isAgg0
 z0:=Tryz.sizeOf0
 v0:=Tryz.zeroValue0
 t3:=underlying3
 a3:=Tryz.isAgg3
 z3:=Tryz.sizeOf3
 v3:=Tryz.zeroValue3
 t4:=underlying4
 a4:=Tryz.isAgg4
 z4:=Tryz.sizeOf4
 v4:=Tryz.zeroValue4
 t9:=underlying9
 a9:=Tryz.isAgg9
 z9:=Tryz.sizeOf9
 v9:=Tryz.zeroValue9
 t24:=underlying40
 a24:=Tryz.isAgg40
 z24:=Tryz.sizeOf40
 v24:=Tryz.zeroValue40
 t40:=underlying182
 a40:=Tryz.isAgg182
 z40:=Tryz.sizeOf182
 v40:=Tryz.zeroValue182}
def Tryz.lays2n22_ren:Go.Shelf.Ren:=⟨fun|22=>173|29=>206|30=>207|36=>229|17=>238|n=>n,fun|24=>40|9=>9|3=>3|4=>4|0=>0|n=>n,fun|n=>n⟩
theorem Tryz.lays2n22:Go.Proofs.Lays2.n22 prog Tryz.lays2n22_ren:= {
 mixed:=by kernel_rfl
 f17:=func238.trans (congrArg some (by kernel_rfl))
 f22:=func173.trans (congrArg some (by kernel_rfl))
 f29:=func206.trans (congrArg some (by kernel_rfl))
 f30:=func207.trans (congrArg some (by kernel_rfl))
 f36:=func229.trans (congrArg some (by kernel_rfl))
 t0:=underlying0
 a0:=Tryz.isAgg0
 z0:=Tryz.sizeOf0
 v0:=Tryz.zeroValue0
 t3:=underlying3
 a3:=Tryz.isAgg3
 z3:=Tryz.sizeOf3
 v3:=Tryz.zeroValue3
 t4:=underlying4
 a4:=Tryz.isAgg4
 z4:=Tryz.sizeOf4
 v4:=Tryz.zeroValue4
 t9:=underlying9
 a9:=Tryz.isAgg9
 z9:=Tryz.sizeOf9
 v9:=Tryz.zeroValue9
 t24:=underlying40
 a24:=Tryz.isAgg40
 z24:=Tryz.sizeOf40
 v24:=Tryz.zeroValue40
 i9:=by kernel_rfl}
def Tryz.lays160_ren:Go.Shelf.Ren:=⟨fun|160=>79|232=>112|231=>111|227=>113|234=>115|233=>114|236=>117|235=>116|228=>148|271=>151|151=>150|197=>149|120=>188|152=>187|260=>186|137=>211|119=>212|224=>213|225=>214|217=>231|266=>240|n=>n,fun|9=>9|4=>4|3=>3|5=>5|117=>133|116=>132|0=>0|124=>136|21=>21|105=>150|46=>182|119=>186|139=>189|138=>188|n=>n,fun|3=>0|4=>1|n=>n⟩
theorem Tryz.lays160:Go.Proofs.Lays.n160 prog Tryz.lays160_ren:= {
 mixed:=by kernel_rfl
 f119:=func212.trans (congrArg some (by kernel_rfl))
 f120:=func188.trans (congrArg some (by kernel_rfl))
 f137:=func211.trans (congrArg some (by kernel_rfl))
 f151:=func150.trans (congrArg some (by kernel_rfl))
 f152:=func187.trans (congrArg some (by kernel_rfl))
 f160:=func79.trans (congrArg some (by kernel_rfl))
 f197:=func149.trans (congrArg some (by kernel_rfl))
 f217:=func231.trans (congrArg some (by kernel_rfl))
 f224:=func213.trans (congrArg some (by kernel_rfl))
 f225:=func214.trans (congrArg some (by kernel_rfl))
 f227:=func113.trans (congrArg some (by kernel_rfl))
 f228:=func148.trans (congrArg some (by kernel_rfl))
 f231:=func111.trans (congrArg some (by kernel_rfl))
 f232:=func112.trans (congrArg some (by kernel_rfl))
 f233:=func114.trans (congrArg some (by kernel_rfl))
 f234:=func115.trans (congrArg some (by kernel_rfl))
 f235:=func116.trans (congrArg some (by kernel_rfl))
 f236:=func117.trans (congrArg some (by kernel_rfl))
 f260:=func186.trans (congrArg some (by kernel_rfl))
 f266:=func240.trans (congrArg some (by kernel_rfl))
 f271:=func151.trans (congrArg some (by kernel_rfl))
 t0:=underlying0
 a0:=Tryz.isAgg0
 z0:=Tryz.sizeOf0
 v0:=Tryz.zeroValue0
 t3:=underlying3
 a3:=Tryz.isAgg3
 z3:=Tryz.sizeOf3
 v3:=Tryz.zeroValue3
 t4:=underlying4
 a4:=Tryz.isAgg4
 z4:=Tryz.sizeOf4
 v4:=Tryz.zeroValue4
 t5:=underlying5
 a5:=Tryz.isAgg5
 z5:=Tryz.sizeOf5
 v5:=Tryz.zeroValue5
 t9:=underlying9
 a9:=Tryz.isAgg9
 z9:=Tryz.sizeOf9
 v9:=Tryz.zeroValue9
 t21:=underlying21
 a21:=Tryz.isAgg21
 z21:=Tryz.sizeOf21
 v21:=Tryz.zeroValue21
 t46:=underlying182
 a46:=Tryz.isAgg182
 z46:=Tryz.sizeOf182
 v46:=Tryz.zeroValue182
 t105:=underlying150
 a105:=Tryz.isAgg150
 z105:=Tryz.sizeOf150
 v105:=Tryz.zeroValue150
 t116:=underlying132
 a116:=Tryz.isAgg132
 z116:=Tryz.sizeOf132
 t117:=underlying133
 a117:=Tryz.isAgg133
 z117:=Tryz.sizeOf133
 v117:=Tryz.zeroValue133
 t119:=underlying186
 a119:=Tryz.isAgg186
 z119:=Tryz.sizeOf186
 t124:=underlying136
 a124:=Tryz.isAgg136
 z124:=Tryz.sizeOf136
 v124:=Tryz.zeroValue136
 t138:=underlying188
 a138:=Tryz.isAgg188
 z138:=Tryz.sizeOf188
 v138:=Tryz.zeroValue188
 t139:=underlying189
 a139:=Tryz.isAgg189
 z139:=Tryz.sizeOf189
 v139:=Tryz.zeroValue189
 g3:=by kernel_rfl
 g4:=by kernel_rfl}
def Tryz.lays99_ren:Go.Shelf.Ren:=⟨fun|99=>156|206=>195|n=>n,fun|9=>9|4=>4|3=>3|n=>n,fun|n=>n⟩
theorem Tryz.lays99:Go.Proofs.Lays.n99 prog Tryz.lays99_ren:= {
 mixed:=by kernel_rfl
 f99:=func156.trans (congrArg some (by kernel_rfl))
 f206:=func195.trans (congrArg some (by kernel_rfl))
 t3:=underlying3
 a3:=Tryz.isAgg3
 z3:=Tryz.sizeOf3
 v3:=Tryz.zeroValue3
 t4:=underlying4
 a4:=Tryz.isAgg4
 z4:=Tryz.sizeOf4
 v4:=Tryz.zeroValue4
 t9:=underlying9
 a9:=Tryz.isAgg9
 z9:=Tryz.sizeOf9
 v9:=Tryz.zeroValue9}
end Go.Proofs
set_option linter.unusedVariables false
namespace Go.Proofs.YteocokgpmgfbaaaGreatDoor
open Go.Proofs.Tryz
open Go.RowKit Go.Shelf
theorem NX (l cs:List UInt8):Lib.trimLeftS l cs=[]↔∀b∈l,cs.contains b=true:=by
 unfold Lib.trimLeftS
 induction l with
 |nil=>simp
 |cons x l ih=>
  rw[List.dropWhile_cons]
  by_cases hx:cs.contains x=true
  ·rw[if_pos hx,ih]
   constructor
   ·intro h b hb
    rcases List.mem_cons.1 hb with e|e
    ·subst e;exact hx
    ·exact h b e
   ·intro h b hb
    exact h b (List.mem_cons_of_mem _ hb)
  ·rw[if_neg hx]
   constructor
   ·intro h;cases h
   ·intro h;exact absurd (h x List.mem_cons_self) hx
theorem Ul (l cs:List UInt8):Lib.trimS l cs=[]↔∀b∈l,cs.contains b=true:=by
 unfold Lib.trimS;rw[NX];unfold Lib.trimRightS;constructor
 ·intro h b hb
  by_cases hc:cs.contains b=true
  ·exact hc
  ·refine h b ?_
   have h2:b∈l.reverse:=List.mem_reverse.2 hb;have:∀l':List UInt8,b∈l'→b∈l'.dropWhile (cs.contains ·):=by
    intro l'
    induction l' with
    |nil=>intro h;exact h
    |cons x l' ih=>
     intro h;rw[List.dropWhile_cons]
     split
     ·next hx=>
      rcases List.mem_cons.1 h with e|e
      ·subst e;exact absurd hx hc
      ·exact ih e
     ·exact h
   exact List.mem_reverse.2 (this _ h2)
 ·intro h b hb
  exact h b (List.mem_reverse.1 ((List.dropWhile_sublist _).subset (List.mem_reverse.1 hb)))
theorem MZ (c:UInt8):([97,98,99]:List UInt8).contains c=D5 c:=by
 have h:∀n:Fin 256,([97,98,99]:List UInt8).contains ⟨⟨n⟩⟩=D5 ⟨⟨n⟩⟩:=by decide+kernel
 exact h c.toBitVec.toFin
theorem PR (s:ByteArray) (h:s.size≤4):(Value.string ⟨(Lib.trimS s.data.toList [97,98,99]).toArray⟩= .string ⟨#[]⟩)↔Az s=true:=by
 have e:Az s=s.data.toList.all D5:=by simp[Az,h]
 rw[e,List.all_eq_true];have t:=Ul s.data.toList [97,98,99];constructor
 ·intro hv b hb
  have:Lib.trimS s.data.toList [97,98,99]=[]:=by simp only[Value.string.injEq,ByteArray.mk.injEq] at hv;have:=congrArg Array.toList hv;simpa using this
  rw[←MZ];exact t.1 this b hb
 ·intro ha
  rw[t.2 (fun b hb=>by rw[MZ];exact ha b hb)]
theorem isEmpty_iff (r:ByteArray):r.toList.isEmpty=true↔r=⟨#[]⟩:=by rw[Lib.toList_data,List.isEmpty_iff];obtain⟨⟨l⟩⟩:=r;simp
theorem Ce (s:ByteArray) (w:World) (hs:s.size≤maxLen):
 Calls prog 58 #[.string s] w fun e w'=>e= .returned (.bool (Az s))∧Below w.heap.size w w':=by
 unfold maxLen at hs
 by_cases h4:s.size≤4
 ·have hcon:=Any.strings_Trim_laid Tryz.lays160 (by kernel_rfl) s ⟨#[97,98,99]⟩ w (by omega) (by decide) (ascii_of_all (by decide))
  change Calls prog 79 _ _ (fun e w'=>e= .returned (.string ⟨(Lib.trimS s.data.toList [97,98,99]).toArray⟩)∧Below w.heap.size w w') at hcon
  have R:=AA (PR s h4);have i4:(s.size:Int)≤4:=by omega
  generalize(⟨(Lib.trimS s.data.toList [97,98,99]).toArray⟩:ByteArray)=r at hcon R;go_in;go_wp2_with fail;refine hcon.mono ?_;rintro e w1 ⟨rfl,hb⟩;have S:Hid (r.toList.isEmpty=Az s):=AA (by rw[Bool.eq_iff_iff,←R.out,isEmpty_iff];simp)
  go_wp2_with fail;go_ret;exact⟨AP S.out,hb⟩
 ·have S:=AA (show Az s=false by simp[Az,h4])
  have i4:¬(s.size:Int)≤4:=by omega
  go_in;go_wp2_with fail;go_ret;exact⟨AP S.out.symm,Below.refl _ _⟩
end Go.Proofs.YteocokgpmgfbaaaGreatDoor
set_option linter.unusedVariables false
namespace Go.Proofs.YteocokgpmgfbaaaGreatDoor
open Go.Proofs.Tryz
open Go.RowKit Go.Shelf Go.Sort
def Ah (ns:List Nat):List Int:=ns.map fun n:Nat=>(n:Int)
theorem BO (ns:List Nat):(Ah ns).length=ns.length:=by simp[Ah]
theorem KX {ns:List Nat} {k:Nat} (h:k<ns.length):nth (Ah ns) k=((ns.getD k 0:Nat):Int):=by simp[nth,Ah,h]
theorem Ib {ns:List Nat} {g:Nat}:(g:Int)∈Ah ns↔g∈ns:=by
 simp only[Ah,List.mem_map];constructor
 ·rintro⟨a,h,e⟩
  have:a=g:=by omega
  subst this;exact h
 ·exact fun h=>⟨g,h,rfl⟩
theorem Ny {lo e:Nat} {w:World} {v:Value} {n:Nat} {xs:List Value} (h:w.ownsRow lo e 1 v n xs) (hn:0<n):∃g cap cur,v= .slice (some ⟨g,0,none⟩) n cap∧lo≤g∧w.heap[g]? =some (.cells cur e (0,0))∧n≤cap∧cap≤maxLen∧cur.size=cap*1∧cur.toList.take (n*1)=xs:=by
 rcases h.2 with⟨rfl,rfl⟩|⟨g,cap,cur,rfl,hb,hg,hnc,hcm,hcs,htake⟩
 ·have:=h.1;simp at this;omega
 ·exact⟨g,cap,cur,rfl,hb,hg,hnc,hcm,hcs,htake⟩
theorem KH {lo:Nat} (v:Value) (ns:List Nat) (w:World) (h:AE lo w v (Ah ns)) (hs:ns.length≤1048576):
 Calls prog 167 #[v] w fun e w'=>e= .returned (.tuple #[])∧∃ts:List Nat,ts.length=ns.length∧(∀g,g∈ts↔g∈ns)∧AE lo w' v (Ah ts)∧w.grownBy w' v.ownBlock:=by
 by_cases h0:ns.length=0
 ·obtain rfl:ns=[]:=List.eq_nil_of_length_eq_zero h0
  obtain⟨a,c,rfl,_⟩:=h.rd.open;refine(Any.slices_Sort_int_none Tryz.lays189 a c w).mono ?_;rintro e w' ⟨rfl,rfl⟩;exact⟨rfl,[],rfl,fun _=>Iff.rfl,h,⟨rfl,rfl,rfl,Nat.le_refl _,fun _ _ _=>rfl⟩⟩
 ·obtain⟨g,cap,cur,rfl,hg,hb,hnc,hcm,hcs,ht⟩:=Ny h (by rw[BO];omega)
  have hH:=holds_of_blockI (ss:=Ah ns) hb (by simpa using ht);have hl:(ns.mergeSort fun x y=>decide (x≤y)).length=ns.length:=List.length_mergeSort _;have e1:(Ah ns).mergeSort (fun x y=>decide (x≤y))=Ah (ns.mergeSort fun x y=>decide (x≤y)):=by unfold Ah;rw[List.map_mergeSort];intro a _ b _;simp
  refine(Any.slices_Sort_int Tryz.lays189 g 0 cap (Ah ns) w hH (Array.getElem?_eq_some_iff.1 hb).1 (by rw[BO];omega)).mono ?_;rintro e w' ⟨rfl,nn,os,rfl⟩;rw[e1];refine⟨rfl,_,hl,fun g=>List.mem_mergeSort,?_,grownBy_sortedI _⟩;have:=ownsRow_sortedI (n:=nn) (os:=os) (ss:=Ah ns) (ts:=Ah (ns.mergeSort fun x y=>decide (x≤y))) (by rw[BO,BO];exact hl) hg hb hnc hcm hcs;have el:(Ah (ns.mergeSort fun x y=>decide (x≤y))).length=(Ah ns).length:=by rw[BO,BO];exact hl
  unfold AE;rw[el];exact this
theorem Pm (d:Array Int):∀m,m≤d.size→∀x,x∈Lib.compactUpTo d m↔∃j,j<m∧d[j]! =x:=by
 intro m
 induction m with
 |zero=>intro _ x;simp[Lib.compactUpTo]
 |succ m ih=>
  intro hm x;rw[Lib.compactUpTo_succ,List.mem_append,ih (by omega)];cases hk:Lib.keeps d m
  ·have hk':m≠0∧d[m]! =d[m - 1]! :=by
    unfold Lib.keeps at hk;simp at hk;exact⟨by omega,hk.2⟩
   constructor
   ·rintro(⟨j,hj,h⟩|h)
    ·exact⟨j,by omega,h⟩
    ·simp at h
   ·rintro⟨j,hj,h⟩
    by_cases e:j=m
    ·subst e;exact .inl ⟨j - 1,by omega,by rw[←hk'.2];exact h⟩
    ·exact .inl ⟨j,by omega,h⟩
  ·constructor
   ·rintro(⟨j,hj,h⟩|h)
    ·exact⟨j,by omega,h⟩
    ·simp at h;exact⟨m,by omega,h.symm⟩
   ·rintro⟨j,hj,h⟩
    by_cases e:j=m
    ·subst e;exact .inr (by simp[h])
    ·exact .inl ⟨j,by omega,h⟩
theorem KM (zs:List Int) (x:Int):x∈Lib.compact zs↔x∈zs:=by
 unfold Lib.compact;rw[Pm _ _ (by simp)];constructor
 ·rintro⟨j,hj,rfl⟩
  simp[hj]
 ·intro h
  obtain⟨j,hj,rfl⟩:=List.getElem_of_mem h;exact⟨j,hj,by simp[hj]⟩
theorem Qy (zs:List Int):(Lib.compact zs).length≤zs.length:=by unfold Lib.compact Lib.compactUpTo;rw[List.length_map];exact Nat.le_trans (List.length_filter_le _ _) (by simp)
theorem SJ {zs:List Int} (h:∀z∈zs,0≤z):Ah (zs.map Int.toNat)=zs:=by
 unfold Ah;rw[List.map_map]
 conv=>rhs;rw[←List.map_id zs]
 exact List.map_congr_left fun z hz=>by have:=h z hz;simp;omega
theorem Rf {lo e n k:Nat} {w:World} {g cap:Nat} {xs:List Value} (h:w.ownsRow lo e 1 (.slice (some ⟨g,0,none⟩) n cap) n xs) (hk:k≤n):w.ownsRow lo e 1 (.slice (some ⟨g,0,none⟩) k cap) k (xs.take k):=by
 rcases h.2 with⟨h0,_⟩|⟨g',cap',cur,hv,hb,hg,hnc,hcm,hcs,htake⟩
 ·cases h0
 ·cases hv
  refine⟨by have:=h.1;simp at this;simp[this];omega, .inr ⟨g,cap,cur,rfl,hb,hg,by omega,hcm,hcs,?_⟩⟩;rw[←htake,List.take_take,Nat.mul_one,Nat.mul_one,Nat.min_eq_left hk]
theorem Ij {lo:Nat} (v:Value) (ns:List Nat) (w:World) (h:AE lo w v (Ah ns)) (hs:ns.length≤1048576):
 Calls prog 168 #[v] w fun e w'=>∃v',e= .returned v'∧v'.ownBlock=v.ownBlock∧∃ts:List Nat,ts.length≤ns.length∧(∀g,g∈ts↔g∈ns)∧AE lo w' v' (Ah ts)∧w.grownBy w' v.ownBlock:=by
 by_cases h0:ns.length=0
 ·obtain rfl:ns=[]:=List.eq_nil_of_length_eq_zero h0
  obtain⟨a,c,rfl,_⟩:=h.rd.open;refine(Any.slices_Compact_int_empty Tryz.lays2n20 a c w).mono ?_;rintro e w' ⟨rfl,rfl⟩;exact⟨_,rfl,rfl,[],Nat.le_refl _,fun _=>Iff.rfl,h,⟨rfl,rfl,rfl,Nat.le_refl _,fun _ _ _=>rfl⟩⟩
 ·obtain⟨g,cap,cur,rfl,hg,hb,hnc,hcm,hcs,ht⟩:=Ny h (by rw[BO];omega)
  have hH:=holds_of_blockI (ss:=Ah ns) hb (by simpa using ht);have hpos:∀z∈Lib.compact (Ah ns),0≤z:=by intro z hz;rw[KM] at hz;obtain⟨n,_,rfl⟩:=List.mem_map.1 hz;omega
  refine(Any.slices_Compact_int Tryz.lays2n20 g 0 cap (Ah ns) w hH (by rw[BO];omega) hnc).mono ?_;rintro e w' ⟨rfl,nn,rfl⟩;have hle:=Qy (Ah ns);have hO:=ownsRow_sortedI (n:=nn) (os:= #[]) (ss:=Ah ns) (ts:=Lib.compact (Ah ns)++List.replicate ((Ah ns).length - (Lib.compact (Ah ns)).length) 0) (by simp;omega) hg hb hnc hcm hcs;have hG:=grownBy_sortedI (w:=w) (g:=g) (n:=nn) (os:= #[]) (Lib.compact (Ah ns)++List.replicate ((Ah ns).length - (Lib.compact (Ah ns)).length) 0).toArray;rw[grow_empty] at hO hG;refine⟨_,rfl,rfl,(Lib.compact (Ah ns)).map Int.toNat,by rw[List.length_map];rw[BO] at hle;exact hle,fun g=>?_,?_,hG⟩
  ·rw[←Ib,SJ hpos,KM,Ib]
  ·rw[SJ hpos]
   have hP:=Rf hO hle;unfold AE;have e:((Lib.compact (Ah ns)++List.replicate ((Ah ns).length - (Lib.compact (Ah ns)).length) 0).map (Value.int .i64)).take (Lib.compact (Ah ns)).length=(Lib.compact (Ah ns)).map (Value.int .i64):=by rw[List.map_append,List.take_left' (by simp)]
   rw[e] at hP;exact hP
theorem Eo (v:Value) (ns:List Nat) (x:Int) (w:World) (h:Ap w v (Ah ns)):
 Calls prog 163 #[v, .int .i64 x] w fun e w'=>e= .returned (.bool ((Ah ns).contains x))∧w=w':=by
 obtain⟨a,c,rfl,hc,hcm,H0⟩:=h.open;unfold maxLen at hcm
 by_cases h0:ns.length=0
 ·obtain rfl:ns=[]:=List.eq_nil_of_length_eq_zero h0
  refine(Any.slices_Contains_int_empty Tryz.lays107 a c x w).mono ?_;rintro e w' ⟨rfl,rfl⟩;exact⟨rfl,rfl⟩
 ·obtain⟨b,off,rfl,hcell⟩:=H0 0 (by rw[BO];omega)
  refine(Any.slices_Contains_int Tryz.lays107 b off (Ah ns).length c (Ah ns) x w (Nat.le_refl _) (by omega) (fun j hj=>hcell j hj)).mono ?_;rintro e w' ⟨rfl,rfl⟩;rw[List.take_length];exact⟨rfl,rfl⟩
theorem Jg (s p:ByteArray) (w:World):Calls prog 156 #[.string s, .string p] w fun e w'=>e= .returned (.bool (Kw p s))∧w=w':=by refine(Any.strings_HasPrefix Tryz.lays99 s p w).mono ?_;rintro e w' ⟨rfl,rfl⟩;exact⟨rfl,rfl⟩
end Go.Proofs.YteocokgpmgfbaaaGreatDoor
set_option linter.unusedVariables false
namespace Go.Proofs.YteocokgpmgfbaaaGreatDoor
open Go.Proofs.Tryz
open Go.RowKit
theorem Qb (r:List Int):Ih r=Em r:=by
 unfold Ih Em;rw[Bool.and_comm]
 congr 1
theorem Lj {α:Type} {p:α→Bool} {l:List α}:(!l.any fun x=>!p x)=l.all p:=by simp[List.all_eq_not_any_not]
theorem Ks (u:Value) (r:List Int) (w:World) (h:Ap w u r):Calls prog 197 #[u] w fun e w'=>e= .returned (.bool (!Em r))∧Below w.heap.size w w':=by have C:=AA (P9 u r w h);clear h;go_in;go_wp2_with (refine(C.out).mono ?_;rintro e w' ⟨rfl,rfl⟩;rw[Qb]);go_ret;exact⟨rfl,Below.refl _ _⟩
theorem H7 (v:Value) (m:List (List Int)) (w:World) (h:BI w v m):Calls prog 157 #[v] w fun e w'=>e= .returned (.bool (Bq m))∧Below w.heap.size w w':=by
 have C:=AA (Ir 197 #[] (fun r=>!Em r) v m w h (fun _ _=>by kernel_rfl) (fun u r _ W _ hr=>Ks u r W hr));obtain⟨a,c,rfl,hc,hcm,_⟩:=h.open;clear h;unfold maxLen at hcm
 by_cases h4:m.length=12
 ·have S:=AA (show(!m.any fun r=>!Em r)=Bq m by rw[Lj];simp[Bq,h4])
  have hb:((m.length:Int)==12)=true:=by simp[h4]
  clear h4;go_in;go_wp2_with (refine(C.out).mono ?_;rintro e w' ⟨rfl,hb2⟩);go_ret;exact⟨AP S.out,hb2⟩
 ·have S:=AA (show Bq m=false by simp[Bq,h4])
  have hb:((m.length:Int)==12)=false:=by simp;omega
  clear h4;go_in;go_wp2_with fail;go_ret;exact⟨AP S.out.symm,Below.refl _ _⟩
def Hj (xs:List AL):Prop:=∀x∈xs,x.g.size≤maxLen
def To (x:AL):Bool:=Bv x.k 1 3&&Az x.g&&Bv x.r 0 50
theorem Pz:Cb AL.zero=true:=by simp[Cb]
theorem J0 {x:AL} (h:x≠AL.zero):Cb x=To x:=by simp[Cb,h,To]
theorem RU (x:AL) (w:World) (hs:x.g.size≤maxLen):Calls prog 191 #[x.val] w fun e w'=>e= .returned (.bool (Cb x))∧Below w.heap.size w w':=by
 obtain⟨k,g,r⟩:=x;simp only[AL.val];simp only at hs;have C:=AA (fun W=>Ce g W hs);clear hs;have key:∀(b:Bool),b=false→Cb ⟨k,g,r⟩=Cb ⟨k,g,r⟩:=fun _ _=>rfl
 clear key;have CW:=AA (fun n lo hi W=>EU n lo hi W)
 by_cases hk:k=0
 ·subst hk
  by_cases hg:g.toList=[]
  ·by_cases hr:r=0
   ·have S:=AA (show Cb ⟨0,g,r⟩=true by
     have:g=⟨#[]⟩:=by rw[Lib.toList_data] at hg;cases g;simp at hg;rw[hg]
     rw[hr,this];exact Pz)
    go_in;go_wp2_with fail;go_ret;exact⟨AP S.out.symm,AF _ _⟩
   ·have S:=AA (show Cb ⟨0,g,r⟩=false by rw[J0 (by intro e;simp[AL.zero] at e;exact hr e.2)];simp[To,Bv])
    have H:=AA (show Bv 0 1 3=false from rfl);go_in;go_wp2_with (refine(CW.out _ _ _ _).mono ?_;rintro e w' ⟨rfl,rfl⟩;rw[H.out]);go_ret;exact⟨AP S.out.symm,AF _ _⟩
  ·have S:=AA (show Cb ⟨0,g,r⟩=false by rw[J0 (by intro e;simp[AL.zero] at e;exact hg (by rw[e.1,Lib.toList_data]))];simp[To,Bv])
   have H:=AA (show Bv 0 1 3=false from rfl);go_in;go_wp2_with (refine(CW.out _ _ _ _).mono ?_;rintro e w' ⟨rfl,rfl⟩;rw[H.out]);go_ret;exact⟨AP S.out.symm,AF _ _⟩
 ·have S:=AA (show Cb ⟨k,g,r⟩=To ⟨k,g,r⟩ from J0 (by intro e;simp[AL.zero] at e;exact hk e.1))
  cases h1:Bv k 1 3
  ·have T:=AA (show To ⟨k,g,r⟩=false by simp[To,h1])
   have H:=AA h1;clear h1;go_in;go_wp2_with (refine(CW.out _ _ _ _).mono ?_;rintro e w' ⟨rfl,rfl⟩;rw[H.out]);go_ret;exact⟨AP (S.out.trans T.out).symm,AF _ _⟩
  ·cases h2:Az g
   ·have T:=AA (show To ⟨k,g,r⟩=false by simp[To,h2])
    have H:=AA h1;clear h1;have H2:=AA h2;clear h2;go_in;go_wp2_with (first|(refine(CW.out _ _ _ _).mono ?_;rintro e w' ⟨rfl,rfl⟩;rw[H.out])|(refine(C.out _).mono ?_;rintro e w' ⟨rfl,hb⟩;rw[H2.out]));go_ret;exact⟨AP (S.out.trans T.out).symm,(AF _ _).trans (hb.mono (AF _ _).size)⟩
   ·have T:=AA (show To ⟨k,g,r⟩=Bv r 0 50 by simp[To,h1,h2])
    have H:=AA h1;clear h1;have H2:=AA h2;clear h2;go_in;go_wp2_with fail;refine(CW.out _ _ _ _).mono ?_;rintro e w' ⟨rfl,rfl⟩;rw[H.out];go_wp2_with fail;refine(C.out _).mono ?_;rintro e w' ⟨rfl,hb⟩;rw[H2.out];have hz:w.heap.size<w'.heap.size:=by have:=hb.size;simp at this;omega
    obtain⟨hc,hf⟩:=Tw hb;go_wp2_with fail;refine(CW.out _ _ _ _).mono ?_;rintro e w' ⟨rfl,rfl⟩;go_wp2_with fail;go_ret;exact⟨AP (S.out.trans T.out).symm,(AF _ _).trans (hb.mono (AF _ _).size)⟩
theorem LX (x:AL) (w:World) (hs:x.g.size≤maxLen):Calls prog 190 #[x.val] w fun e w'=>e= .returned (.bool (!Cb x))∧Below w.heap.size w w':=by
 have C:=AA (fun W=>RU x W hs);obtain⟨k,g,r⟩:=x;simp only[AL.val] at C ⊢;go_in;go_wp2_with (refine(C.out _).mono ?_;rintro e w' ⟨rfl,hb⟩);go_ret;exact⟨rfl,(AF _ _).trans (hb.mono (AF _ _).size)⟩
theorem Cx (v:Value) (xs:List AL) (w:World) (h:BH w v xs) (hs:Hj xs):Calls prog 152 #[v] w fun e w'=>e= .returned (.bool (A3 xs))∧Below w.heap.size w w':=by
 have C:=AA (Iq 190 #[] (fun x=>!Cb x) v xs w h (fun _ _=>by kernel_rfl) (fun x hx W _=>LX x W (hs x hx)));obtain⟨a,c,rfl,hc,hcm⟩:=h.shape;clear h hs;unfold maxLen at hcm
 by_cases h4:xs.length=12
 ·have S:=AA (show(!xs.any fun x=>!Cb x)=A3 xs by rw[Lj];simp[A3,h4])
  have hb:((xs.length:Int)==12)=true:=by simp[h4]
  clear h4;go_in;go_wp2_with (refine(C.out).mono ?_;rintro e w' ⟨rfl,hb2⟩);go_ret;exact⟨AP S.out,hb2⟩
 ·have S:=AA (show A3 xs=false by simp[A3,h4])
  have hb:((xs.length:Int)==12)=false:=by simp;omega
  clear h4;go_in;go_wp2_with fail;go_ret;exact⟨AP S.out.symm,Below.refl _ _⟩
theorem MN (x:AL) (w:World):Calls prog 193 #[x.val] w fun e w'=>e= .returned (.bool (decide (x.k=0)))∧Below w.heap.size w w':=by obtain⟨k,g,r⟩:=x;simp only[AL.val];have S:=AA (show(k==0)=decide (k=0) by cases h:(k==0)<;>simp_all);go_in;go_wp2_with fail;go_ret;exact⟨AP S.out,AF _ _⟩
theorem Jh (v:Value) (xs:List AL) (w:World) (h:BH w v xs):Calls prog 153 #[v] w fun e w'=>e= .returned (.int .i64 (Cs xs))∧Below w.heap.size w w':=by
 have C:=AA (G3 193 #[] (fun x=>decide (x.k=0)) v xs w h (fun _ _=>by kernel_rfl) (fun x _ W _=>MN x W));obtain⟨a,c,rfl,hc,hcm⟩:=h.shape;clear h;go_in;go_wp2_with (refine(C.out).mono ?_;rintro e w' ⟨rfl,hb2⟩);go_ret;exact⟨rfl,hb2⟩
theorem UP (s g:ByteArray) (b:Nat) (w:World) (h:w.cell? ⟨b,0,none⟩=some (.string g)):Calls prog 155 #[.string s, .pointer (some ⟨b,0,none⟩)] w fun e w'=>e= .returned (.bool (Kw s g))∧Below w.heap.size w w':=by go_in;go_wp2_with (refine(Jg _ _ _).mono ?_;rintro e w' ⟨rfl,rfl⟩);go_ret;exact⟨rfl,Below.refl _ _⟩
theorem PD (v:Value) (ss:List ByteArray) (g:ByteArray) (w:World) (h:BG w v ss):Calls prog 119 #[v, .string g] w fun e w'=>e= .returned (.bool (Cc ss g))∧Below w.heap.size w w':=by
 have b1:=AF w (.cells #[.string g] 9);have cg:(w.alloc (.cells #[.string g] 9)).cell? ⟨w.heap.size,0,none⟩=some (.string g):=cell_of_row _ _ 0 _ _ _ (heap_alloc_new _ _);have C:=AA (IL 155 #[.pointer (some ⟨w.heap.size,0,none⟩)] (fun s=>Kw s g) v ss _ (A6.below h b1) (fun _ _=>by kernel_rfl) (fun s _ W hW=>UP s g _ W ((hW.cell (World.block_lt_of_cell? _ _ cg)).trans cg)));obtain⟨a,c,rfl,hc,hcm⟩:=h.shape;clear h cg;go_in;go_wp2_with (refine(C.out).mono ?_;rintro e w' ⟨rfl,hb2⟩);go_ret;exact⟨rfl,b1.trans (hb2.mono b1.size)⟩
def Mt (xs:List AL) (g:ByteArray):List AL:=xs.set (Cs xs).toNat ⟨1,g,0⟩
theorem Ls (v:Value) (xs:List AL) (g:ByteArray) (w:World) (h:BH w v xs) (hs:Hj xs) (hg:g.size≤maxLen) (hok:A3 xs=true) (hr:Az g=true) (hf:Cs xs<0):
 Calls prog 118 #[v, .string g] w fun e w'=>e= .returned (.tuple #[.slice none 0 0, .int .i64 0, .bool false])∧Below w.heap.size w w':=by
 have C1:=AA (fun W (hW:Below w.heap.size w W)=>Cx v xs W (A6.below h hW) hs);have C2:=AA (fun W=>Ce g W hg);have C3:=AA (fun W (hW:Below w.heap.size w W)=>Jh v xs W (A6.below h hW));have Ok:=AA hok;have Hr:=AA hr;clear hok hr h hs hg;go_in;go_wp2_with fail;refine(C1.out _ (Below.refl _ _)).mono ?_;rintro e w1 ⟨rfl,hb1⟩;rw[Ok.out];go_wp2_with fail;refine(C2.out _).mono ?_;rintro e w2 ⟨rfl,hb2⟩;rw[Hr.out];replace hb2:=hb1.trans (hb2.mono hb1.size);clear hb1;go_wp2_with fail;refine(C3.out _ hb2).mono ?_;rintro e w3 ⟨rfl,hb3⟩;replace hb3:=hb2.trans (hb3.mono hb2.size);clear hb2;go_wp2_with fail;go_ret3;exact⟨rfl,hb3⟩
theorem Lt (v:Value) (xs:List AL) (g:ByteArray) (w:World) (h:BH w v xs) (hs:Hj xs) (hg:g.size≤maxLen) (hok:A3 xs=true) (hr:Az g=true) (hf:0≤Cs xs):
 Calls prog 118 #[v, .string g] w fun e w'=>∃v',e= .returned (.tuple #[v', .int .i64 (Cs xs), .bool true])∧AC w.heap.size 91 3 AX w' v' (Mt xs g)∧Below w.heap.size w w':=by
 have C1:=AA (fun W (hW:Below w.heap.size w W)=>Cx v xs W (A6.below h hW) hs);have C2:=AA (fun W=>Ce g W hg);have C3:=AA (fun W (hW:Below w.heap.size w W)=>Jh v xs W (A6.below h hW));have hl:xs.length=12:=(Au.1 hok).1;have C4:=AA (fun W (hW:Below w.heap.size w W)=>Eb v xs W (A6.below h hW) (by omega));have Ok:=AA hok;have Hr:=AA hr;have hfl:(Cs xs).toNat<xs.length:=(IU (by omega)).1;have Hl:=AA hl;clear hok hr h hs hg hl;go_in;go_wp2_with fail;refine(C1.out _ (Below.refl _ _)).mono ?_;rintro e w1 ⟨rfl,hb1⟩;rw[Ok.out];go_wp2_with fail;refine(C2.out _).mono ?_;rintro e w2 ⟨rfl,hb2⟩;rw[Hr.out];replace hb2:=hb1.trans (hb2.mono hb1.size);clear hb1;go_wp2_with fail;refine(C3.out _ hb2).mono ?_;rintro e w3 ⟨rfl,hb3⟩;replace hb3:=hb2.trans (hb3.mono hb2.size);clear hb2;go_wp2_with fail;refine(C4.out _ hb3).mono ?_;rintro e w4 ⟨v',rfl,hO,hb4⟩;obtain⟨q,cap,rfl,c1,c2,q1,q2,hfz⟩:=hO.shapeOwn (by omega);unfold maxLen at c2;have hS:=AA (AC.stored Ak hO hfl ⟨1,g,0⟩);obtain⟨d0,d1,d2⟩:=AC.infoCells hO hfl;have hB:=AA (AN (hb3.trans (hb4.mono hb3.size)) hS.out.2 (Nat.le_trans hb3.size q1) (hb3.trans (hb4.mono hb3.size)).size);have hlo:=hb3.size;clear hO hb4 hb3;have hfi:Cs xs<xs.length:=by omega
 go_wp2_with fail;go_ret3;exact⟨_,rfl,hS.out.1.lower hlo,hB.out⟩
theorem Oc (a b:Int):(a==b)=decide (a=b):=by cases h:(a==b)<;>simp_all
theorem IV (x:AU) (w:World):Calls prog 179 #[x.val] w fun e w'=>e= .returned (.bool (Ca x))∧Below w.heap.size w w':=by
 obtain⟨e,p,f,b⟩:=x;simp only[AU.val];have C1:=AA (fun W=>K5 e W);have C2:=AA (fun W=>RW p W);have C3:=AA (fun W=>Bc f W);cases h1:Bv e 0 2
 ·have S:=AA (show Ca ⟨e,p,f,b⟩=false by simp[Ca,h1])
  have H1:=AA h1;clear h1;go_in;go_wp2_with (refine(C1.out _).mono ?_;rintro e w' ⟨rfl,rfl⟩;rw[H1.out]);go_ret;exact⟨AP S.out.symm,AF _ _⟩
 ·cases h2:Bv p 0 15
  ·have S:=AA (show Ca ⟨e,p,f,b⟩=false by simp[Ca,h2])
   have H1:=AA h1;clear h1;have H2:=AA h2;clear h2;go_in;go_wp2_with (first|(go_at_call 131;refine(C1.out _).mono ?_;rintro e w' ⟨rfl,rfl⟩;rw[H1.out])|(go_at_call 208;refine(C2.out _).mono ?_;rintro e w' ⟨rfl,rfl⟩;rw[H2.out]));go_ret;exact⟨AP S.out.symm,AF _ _⟩
  ·have S:=AA (show Ca ⟨e,p,f,b⟩=Bv f 0 11 by simp[Ca,h1,h2])
   have H1:=AA h1;clear h1;have H2:=AA h2;clear h2;go_in;go_wp2_with (first|(go_at_call 131;refine(C1.out _).mono ?_;rintro e w' ⟨rfl,rfl⟩;rw[H1.out])|(go_at_call 208;refine(C2.out _).mono ?_;rintro e w' ⟨rfl,rfl⟩;rw[H2.out])|(go_at_call 39;refine(C3.out _).mono ?_;rintro e w' ⟨rfl,rfl⟩));go_ret;exact⟨AP S.out.symm,AF _ _⟩
theorem Pj (x:AU) (e p:Int) (be bp:Nat) (w:World) (h1:w.cell? ⟨be,0,none⟩=some (.int .i64 e)) (h2:w.cell? ⟨bp,0,none⟩=some (.int .i64 p)):Calls prog 178 #[x.val, .pointer (some ⟨be,0,none⟩), .pointer (some ⟨bp,0,none⟩)] w fun r w'=>r= .returned (.bool (Ay e p x))∧Below w.heap.size w w':=by
 obtain⟨xe,xp,xf,xb⟩:=x;simp only[AU.val];have b1:=World.block_lt_of_cell? w _ h1;have b2:=World.block_lt_of_cell? w _ h2;have n1:¬be=w.heap.size:=by have:be<w.heap.size:=b1;omega
 have n2:¬bp=w.heap.size:=by have:bp<w.heap.size:=b2;omega
 by_cases he:xe=e
 ·have S:=AA (show Ay e p ⟨xe,xp,xf,xb⟩=(xp==p) by simp[Ay,he,Oc])
  have t:(xe==e)=true:=by simp[he]
  clear he;go_in;go_wp2_with fail;go_ret;exact⟨AP S.out.symm,AF _ _⟩
 ·have S:=AA (show Ay e p ⟨xe,xp,xf,xb⟩=false by simp[Ay,he])
  have t:(xe==e)=false:=by simp[he]
  clear he;go_in;go_wp2_with fail;go_ret;exact⟨AP S.out.symm,AF _ _⟩
theorem Jx (v:Value) (xs:List AU) (e p:Int) (w:World) (h:Bh w v xs):Calls prog 136 #[v, .int .i64 e, .int .i64 p] w fun r w'=>r= .returned (.int .i64 (Eu xs e p))∧Below w.heap.size w w':=by
 have b2:=FQ w (.cells #[.int .i64 e] 3) (.cells #[.int .i64 p] 3);have ce0:(w.alloc (.cells #[.int .i64 e] 3)).cell? ⟨w.heap.size,0,none⟩=some (.int .i64 e):=cell_of_row _ _ 0 _ _ _ (heap_alloc_new _ _);have ce:((w.alloc (.cells #[.int .i64 e] 3)).alloc (.cells #[.int .i64 p] 3)).cell? ⟨w.heap.size,0,none⟩=some (.int .i64 e):=((AF _ _).cell (World.block_lt_of_cell? _ _ ce0)).trans ce0;have cp:((w.alloc (.cells #[.int .i64 e] 3)).alloc (.cells #[.int .i64 p] 3)).cell? ⟨w.heap.size+1,0,none⟩=some (.int .i64 p):=by
  have:=cell_of_row _ _ 0 _ _ _ (heap_alloc_new (w.alloc (.cells #[.int .i64 e] 3)) (.cells #[.int .i64 p] 3))
  rwa [World.size_alloc] at this
 have C:=AA (GP 178 #[.pointer (some ⟨w.heap.size,0,none⟩), .pointer (some ⟨w.heap.size+1,0,none⟩)] (Ay e p) v xs _ (A6.below h b2) (fun _ _=>by kernel_rfl)
  (fun x _ W hW=>Pj x e p _ _ W ((hW.cell (World.block_lt_of_cell? _ _ ce)).trans ce) ((hW.cell (World.block_lt_of_cell? _ _ cp)).trans cp)))
 obtain⟨a,c,rfl,hc,hcm⟩:=h.shape;clear h ce0 ce cp;go_in;go_wp2_with (refine(C.out).mono ?_;rintro e w' ⟨rfl,hb2⟩);go_ret;exact⟨rfl,b2.trans (hb2.mono b2.size)⟩
theorem Bh.take {w:World} {a:Option Addr} {c k:Nat} {xs:List AU} (h:Bh w (.slice a xs.length c) xs) (hk:k≤xs.length):Bh w (.slice a k c) (xs.take k):=by
 obtain⟨a',c',hv,hnc,hcm,hl,hnil,hc⟩:=h;cases hv;have hl':(Bf AJ (xs.take k)).length=k*4:=by rw[F8 BP,List.length_take];congr 1;omega
 have hk4:k*4≤xs.length*4:=Nat.mul_le_mul_right _ hk;unfold Bh A6;rw[show(xs.take k).length=k by rw[List.length_take];omega];refine⟨a,c,rfl,by omega,hcm,hl',hnil,fun hn=>?_⟩;obtain⟨b,off,rfl,hcell⟩:=hc (by omega);refine⟨b,off,rfl,fun j hj=>?_⟩;rw[hcell j (by omega)];have e:Bf AJ xs=Bf AJ (xs.take k)++Bf AJ (xs.drop k):=by rw[←BN,List.take_append_drop]
 rw[e,List.getElem?_append_left (by omega)]
theorem Sw {xs:List AU} {e p:Int}:decide (0≤Eu xs e p)=xs.any (Ay e p):=Gc
theorem LF {xs:List AU} {k:Nat} (h:k<xs.length) (hc:D9 xs k=false):Bu xs=false:=by have:(List.range xs.length).all (D9 xs)=false:=List.all_eq_false.2 ⟨k,List.mem_range.2 h,by simp[hc]⟩;simp[Bu,this]
theorem Od {xs:List AU} (h:∀k,k<xs.length→D9 xs k=true) (hl:xs.length≤4):Bu xs=true:=by
 have:(List.range xs.length).all (D9 xs)=true:=List.all_eq_true.2 fun k hk=>h k (List.mem_range.1 hk)
 simp[Bu,this,hl]
theorem Ii (v:Value) (xs:List AU) (w:World) (h:Bh w v xs):Calls prog 169 #[v] w fun e w'=>e= .returned (.bool (Bu xs))∧Below w.heap.size w w':=by
 have H:=AA h;obtain⟨a,c,rfl,hc,hcm,H0⟩:=A6.open BP (by decide) h;clear h;unfold maxLen at hcm
 by_cases h4:xs.length≤4
 ·have hb:¬(4:Int)<xs.length:=by omega
  go_in;go_wp2_with fail;go_loopw [10] (fun i wr=>∃k:Nat,k≤xs.length∧i= .int .i64 k∧(∀j,j<k→D9 xs j=true)∧Below w.heap.size w wr) (fun i _=>xs.length - (intOf i).toNat)
  case atStart=>exact⟨0,Nat.zero_le _,rfl,fun j hj=>absurd hj (Nat.not_lt_zero _),Below.refl _ _⟩
  case round=>
   obtain⟨k,hk,rfl,hpre,hbel⟩:=hrel;have Hpre:=AA hpre;clear hpre
   by_cases hlt:k<xs.length
   ·obtain⟨b,off,rfl,hbl,D0,D1,D2,D3⟩:=H0.cachedCells hlt
    replace D0:=(hbel.cell (p:=⟨b,off+k*4,none⟩) hbl).trans D0;replace D1:=(hbel.cell (p:=⟨b,off+k*4+1,none⟩) hbl).trans D1;replace D2:=(hbel.cell (p:=⟨b,off+k*4+2,none⟩) hbl).trans D2;replace D3:=(hbel.cell (p:=⟨b,off+k*4+3,none⟩) hbl).trans D3;clear H0;have N:=heap_alloc_new wr (.cells #[.int .i64 (Ae xs k).e, .int .i64 (Ae xs k).p, .int .i64 (Ae xs k).f, .bool (Ae xs k).w] 95);have hba:=hbel.trans ((AF wr (.cells #[.int .i64 (Ae xs k).e, .int .i64 (Ae xs k).p, .int .i64 (Ae xs k).f, .bool (Ae xs k).w] 95)).mono hbel.size);have hk1:(k:Int)≤xs.length:=by omega
    have hk2:(k:Int)≤c:=by omega
    go_wp2_with fail;generalize wr.alloc _=wa at N hba;clear D0 D1 D2 D3 hbel;obtain⟨n0,n1,n2,n3⟩:=AB N;have k0:=cell_regrown n0;have k1:=cell_regrown n1;have k2:=cell_regrown n2;have k3:=cell_regrown n3;clear n0 n1 n2 n3;have HB:=AA hba;have cF:=Io (w1:=wa) (fun W hW=>Jx _ (xs.take k) (Ae xs k).e (Ae xs k).p W (Bh.take (A6.below H.out (hba.trans (hW.mono hba.size))) hk));cases h1:Ca (Ae xs k)
    ·have S:=AA (LF hlt (by simp[D9,h1]))
     have cC:=Io (w1:=wa) (fun W _=>by have:=IV (Ae xs k) W;rw[h1] at this;exact this);clear h1 N hba;refine wp_region_quiet_below mixed (by kernel_rfl) ?_
     repeat(go_big_quiet_step (first|exact cC _ _|exact cF _ _))
     refine wpQuiet_nil ?_;intro _ hw';obtain⟨⟨dq,osq⟩,hw''⟩:=hw';subst hw'';have bq:=below_regrown wa dq osq;generalize Sort.grow (redrawn wa dq) osq=wq at bq;go_wp2_with fail;go_ret;exact⟨AP S.out.symm,HB.out.trans (bq.mono HB.out.size)⟩
    ·have cC:=Io (w1:=wa) (fun W _=>by have:=IV (Ae xs k) W;rw[h1] at this;exact this)
     have E:=Sw (xs:=xs.take k) (e:=(Ae xs k).e) (p:=(Ae xs k).p);cases h2:(xs.take k).any (Ay (Ae xs k).e (Ae xs k).p)
     ·have S:=AA (show D9 xs k=true by simp only[D9,h1,h2];rfl)
      rw[h2] at E;clear h1 h2 N hba;refine wp_region_quiet_below mixed (by kernel_rfl) ?_
      repeat(go_big_quiet_step (first|exact cC _ _|exact cF _ _))
      refine wpQuiet_nil ?_;intro _ hw';obtain⟨⟨dq,osq⟩,hw''⟩:=hw';subst hw'';have bq:=below_regrown wa dq osq;generalize Sort.grow (redrawn wa dq) osq=wq at bq;go_wp2_with fail;go_roundw
      case rel=>exact⟨k+1,by omega,by go_num,BK Hpre.out S.out,HB.out.trans (bq.mono HB.out.size)⟩
      case measure=>simp[intOf];omega
     ·have S:=AA (LF hlt (by simp only[D9,h1,h2];rfl))
      rw[h2] at E;clear h1 h2 N hba;refine wp_region_quiet_below mixed (by kernel_rfl) ?_
      repeat(go_big_quiet_step (first|exact cC _ _|exact cF _ _))
      refine wpQuiet_nil ?_;intro _ hw';obtain⟨⟨dq,osq⟩,hw''⟩:=hw';subst hw'';have bq:=below_regrown wa dq osq;generalize Sort.grow (redrawn wa dq) osq=wq at bq;go_wp2_with fail;go_ret;exact⟨AP S.out.symm,HB.out.trans (bq.mono HB.out.size)⟩
   ·have S:=AA (Od (xs:=xs) (fun j hj=>Hpre.out j (by omega)) h4)
    go_wp2_with fail;go_ret;exact⟨AP S.out.symm,hbel⟩
 ·have S:=AA (show Bu xs=false by simp[Bu,h4])
  have hb:(4:Int)<xs.length:=by omega
  go_in;go_wp2_with fail;go_ret;exact⟨AP S.out.symm,Below.refl _ _⟩
theorem UA {xs:List AU} {e:Int}:(xs.filter fun x=>!decide (x.e=e))=Cg xs e:=by
 unfold Cg
 congr 1
 funext x
 simp
theorem Lq (x:AU) (e:Int) (be:Nat) (w:World) (h1:w.cell? ⟨be,0,none⟩=some (.int .i64 e)):Calls prog 171 #[x.val, .pointer (some ⟨be,0,none⟩)] w fun r w'=>r= .returned (.bool (decide (x.e=e)))∧Below w.heap.size w w':=by
 obtain⟨xe,xp,xf,xb⟩:=x;simp only[AU.val];have b1:=World.block_lt_of_cell? w _ h1;have n1:¬be=w.heap.size:=by have:be<w.heap.size:=b1;omega
 have S:=AA (Oc xe e);go_in;go_wp2_with fail;go_ret;exact⟨AP S.out,AF _ _⟩
theorem Ea (v:Value) (xs:List AU) (e:Int) (w:World) (h:Bh w v xs) (hok:Bu xs=true):Calls prog 130 #[v, .int .i64 e] w fun r w'=>∃v',r= .returned v'∧AC w.heap.size 95 4 AJ w' v' (Cg xs e)∧Below w.heap.size w w':=by
 have hl:=(EF.1 hok).2.2;have b1:=AF w (.cells #[.int .i64 e] 3);have ce:(w.alloc (.cells #[.int .i64 e] 3)).cell? ⟨w.heap.size,0,none⟩=some (.int .i64 e):=cell_of_row _ _ 0 _ _ _ (heap_alloc_new _ _);have hlt:w.heap.size<(w.alloc (.cells #[.int .i64 e] 3)).heap.size:=by simp
 have C1:=AA (by have:=Ii v xs _ (A6.below h b1);rw[hok] at this;exact this);have C2:=AA (fun W (hW:Below w.heap.size w W)=>GM v xs W (A6.below h hW) (by omega));obtain⟨a,c,rfl,hc,hcm⟩:=h.shape;clear h hok;go_in;go_wp2_with fail;refine(C1.out).mono ?_;rintro r w1 ⟨rfl,hb1⟩;replace ce:=(hb1.cell (World.block_lt_of_cell? _ _ ce)).trans ce;have hb2:=b1.trans (hb1.mono b1.size);replace hlt:w.heap.size<w1.heap.size:=Nat.lt_of_lt_of_le hlt hb1.size;clear hb1 b1;have CE:=AA ce;clear ce;go_wp2_with fail;refine(C2.out _ hb2).mono ?_;rintro r w2 ⟨v',rfl,hO,hb3⟩;have ce2:=(hb3.cell (p:=⟨w.heap.size,0,none⟩) hlt).trans CE.out;have C3:=AA (Fz 171 #[.pointer (some ⟨w.heap.size,0,none⟩)] (fun x=>decide (x.e=e)) v' xs w2 hO hb3.size (fun _ _=>by kernel_rfl)
  (fun x _ W hW=>Lq x e _ W ((hW.cell (p:=⟨w.heap.size,0,none⟩) hlt).trans ce2)))
 have hb4:=hb2.trans (hb3.mono hb2.size);have hs1:=hb2.size;clear hO hb3 ce2;go_wp2_with fail;refine(C3.out).mono ?_;rintro r w3 ⟨v3,rfl,hO3,hb5⟩;go_wp2_with fail;go_ret;refine⟨_,rfl,?_,hb4.trans (hb5.mono hs1)⟩;rw[←UA];exact hO3.lower hs1
theorem M7 (y x:AU) (b:Nat) (w:World) (h1:w.heap[b]? =some (.cells #[.int .i64 x.e, .int .i64 x.p, .int .i64 x.f, .bool x.w] 95 (0,0))):Calls prog 180 #[y.val, .pointer (some ⟨b,0,none⟩)] w fun r w'=>r= .returned (.bool (Ay x.e x.p y))∧Below w.heap.size w w':=by
 obtain⟨d0,d1,d2,d3⟩:=AB h1;have b1:=Aq h1;have n1:¬b=w.heap.size:=by omega
 obtain⟨ye,yp,yf,yb⟩:=y;simp only[AU.val];clear h1
 by_cases he:ye=x.e
 ·have S:=AA (show Ay x.e x.p ⟨ye,yp,yf,yb⟩=(yp==x.p) by simp[Ay,he,Oc])
  have t:(ye==x.e)=true:=by simp[he]
  clear he;go_in;go_wp2_with fail;go_ret;exact⟨AP S.out.symm,AF _ _⟩
 ·have S:=AA (show Ay x.e x.p ⟨ye,yp,yf,yb⟩=false by simp[Ay,he])
  have t:(ye==x.e)=false:=by simp[he]
  clear he;go_in;go_wp2_with fail;go_ret;exact⟨AP S.out.symm,AF _ _⟩
theorem SZ {xs:List AU} {x:AU} {ys:List AU} (h:ys=if(xs.filter fun y=>!Ay x.e x.p y).length=4 then(xs.filter fun y=>!Ay x.e x.p y).drop 1 else xs.filter fun y=>!Ay x.e x.p y):ys++[x]=El xs x:=by rw[h];rfl
theorem KB (v:Value) (xs:List AU) (x:AU) (w:World) (h:Bh w v xs) (hok:Bu xs=true) (hx:Ca x=true):Calls prog 137 #[v,x.val] w fun r w'=>∃v',r= .returned (.tuple #[v', .bool true])∧AC w.heap.size 95 4 AJ w' v' (El xs x)∧Below w.heap.size w w':=by
 have hl:=(EF.1 hok).2.2;have b1:=AF w (.cells #[.int .i64 x.e, .int .i64 x.p, .int .i64 x.f, .bool x.w] 95);have N:=heap_alloc_new w (.cells #[.int .i64 x.e, .int .i64 x.p, .int .i64 x.f, .bool x.w] 95);have C1:=AA (by have:=Ii v xs _ (A6.below h b1);rw[hok] at this;exact this);have CX:=AA (fun W=>by have:=IV x W;rw[hx] at this;exact this);have C2:=AA (fun W (hW:Below w.heap.size w W)=>GM v xs W (A6.below h hW) (by omega));obtain⟨a,c,rfl,hc,hcm⟩:=h.shape;have hfl:(xs.filter fun y=>!Ay x.e x.p y).length≤4:=Nat.le_trans (List.length_filter_le _ _) hl;clear h hok hx;simp only[AU.val] at CX ⊢;go_in;go_wp2_with fail;refine(C1.out).mono ?_;rintro r w1 ⟨rfl,hb1⟩;replace N:=AG N hb1;have hb2:=b1.trans (hb1.mono b1.size);clear hb1 b1;obtain⟨d0,d1,d2,d3⟩:=AB N;have HN:=AA N;clear N;go_wp2_with fail;refine(CX.out _).mono ?_;rintro r w2 ⟨rfl,hb3⟩;have HN2:=AA (AG HN.out hb3);replace hb2:=hb2.trans (hb3.mono hb2.size);clear hb3 d0 d1 d2 d3 HN;go_wp2_with fail;refine(C2.out _ hb2).mono ?_;rintro r w3 ⟨v',rfl,hO,hb4⟩;have N3:=AG HN2.out hb4;have hlt:w.heap.size<w2.heap.size:=Aq HN2.out;have C3:=AA (Fz 180 #[.pointer (some ⟨w.heap.size,0,none⟩)] (Ay x.e x.p) v' xs w3 hO hb4.size (fun _ _=>by kernel_rfl)
  (fun y _ W hW=>M7 y x _ W ((hW.block _ hlt).trans N3)))
 have hb5:=hb2.trans (hb4.mono hb2.size);have hs1:=hb2.size;have hs3:=hb4.size;have HN3:=AA N3;clear hO hb4 N3 HN2;go_wp2_with fail;refine(C3.out).mono ?_;rintro r w4 ⟨v4,rfl,hO4,hb6⟩;have N4:=(hb6.block _ hlt).trans HN3.out;have hb7:=hb5.trans (hb6.mono hs1);have hs4:w2.heap.size≤w4.heap.size:=Nat.le_trans hs3 hb6.size;obtain⟨a4,c4,rfl,hc4,hcm4⟩:=hO4.rd.shape;have HO4:=AA hO4;have HN4:=AA N4;clear hO4 hb6 hb5 N4 HN3
 by_cases hn:(xs.filter fun y=>!Ay x.e x.p y).length=4
 ·have t:(((xs.filter fun y=>!Ay x.e x.p y).length:Int)==4)=true:=by simp[hn]
  have E:=AA (SZ (xs:=xs) (x:=x) (ys:=(xs.filter fun y=>!Ay x.e x.p y).drop 1) (by rw[if_pos hn]));have CD:=AA (Kq _ _ w4 HO4.out hs4 hn);have hl3:((xs.filter fun y=>!Ay x.e x.p y).drop 1).length≤3:=by rw[List.length_drop];omega
  generalize(xs.filter fun y=>!Ay x.e x.p y)=fs at*;clear hn HO4 hfl;go_wp2_with fail;refine(CD.out).mono ?_;rintro r w5 ⟨v5,rfl,hO5,hb8⟩;have N5:=(hb8.block _ hlt).trans HN4.out;obtain⟨d0,d1,d2,d3⟩:=AB N5;have hb9:=hb7.trans (hb8.mono hs1);have hs5:w2.heap.size≤w5.heap.size:=Nat.le_trans hs4 hb8.size;have HO5:=AA hO5;clear hO5 hb8 hb7 N5 HN4;generalize hgs:fs.drop 1=gs at*;clear hgs;go_wp2_with (at_builtin;go_must (refine DF (lo:=w2.heap.size) (v:=v5) (n:=gs.length) (xs:=Bf AJ gs) (m:=1) (news:=[.int .i64 x.e, .int .i64 x.p, .int .i64 x.f, .bool x.w]) rfl rfl 95 (.agg #[.int .i64 0, .int .i64 0, .int .i64 0, .bool false]) 4 32 underlying25 Tryz.infoCachedK rfl (by decide) rfl (Bn HO5.out (AF _ _)) rfl (Rd.newsAt _ #[.int .i64 x.e, .int .i64 x.p, .int .i64 x.f, .bool x.w] _ 4 1 _ rfl (by simp) (by simp[maxLen])) (by simp[Value.oneCell']) (by unfold maxLen;omega) (by omega) (by simp;omega) ?_;intro v6 w6 k1 k2 k3));have R:AC w2.heap.size 95 4 AJ w6 v6 (gs++[x]):=by unfold AC;rw[BN,Dn,List.length_append];exact k1
  rw[E.out] at R;have RR:=AA R;clear k1 R;go_wp2_with fail;go_ret2;exact⟨_,rfl,RR.out.lower hs1,(hb9.trans ((AF _ _).mono hb9.size)).trans (k3.mono hs1)⟩
 ·have t:(((xs.filter fun y=>!Ay x.e x.p y).length:Int)==4)=false:=by rw[beq_eq_false_iff_ne];omega
  have E:=AA (SZ (xs:=xs) (x:=x) (ys:=xs.filter fun y=>!Ay x.e x.p y) (by rw[if_neg hn]));have hl3:(xs.filter fun y=>!Ay x.e x.p y).length≤3:=by omega
  generalize(xs.filter fun y=>!Ay x.e x.p y)=gs at*;clear hn hfl;obtain⟨d0,d1,d2,d3⟩:=AB HN4.out;go_wp2_with (at_builtin;go_must (refine DF (lo:=w2.heap.size) (v:= .slice a4 gs.length c4) (n:=gs.length) (xs:=Bf AJ gs) (m:=1) (news:=[.int .i64 x.e, .int .i64 x.p, .int .i64 x.f, .bool x.w]) rfl rfl 95 (.agg #[.int .i64 0, .int .i64 0, .int .i64 0, .bool false]) 4 32 underlying25 Tryz.infoCachedK rfl (by decide) rfl (Bn HO4.out (AF _ _)) rfl (Rd.newsAt _ #[.int .i64 x.e, .int .i64 x.p, .int .i64 x.f, .bool x.w] _ 4 1 _ rfl (by simp) (by simp[maxLen])) (by simp[Value.oneCell']) (by unfold maxLen;omega) (by omega) (by simp;omega) ?_;intro v6 w6 k1 k2 k3));have R:AC w2.heap.size 95 4 AJ w6 v6 (gs++[x]):=by unfold AC;rw[BN,Dn,List.length_append];exact k1
  rw[E.out] at R;have RR:=AA R;clear k1 R;go_wp2_with fail;go_ret2;exact⟨_,rfl,RR.out.lower hs1,(hb7.trans ((AF _ _).mono hb7.size)).trans (k3.mono hs1)⟩
theorem Ep (v:Value) (ss:List ByteArray) (w:World) (h:BG w v ss) (hs:Dr ss):Calls prog 36 #[v] w fun e w'=>e= .returned (.bool (Ax ss))∧Below w.heap.size w w':=by
 obtain⟨a,c,rfl,hc,hcm,H0⟩:=A6.open DE (by decide) h;unfold maxLen at hcm;have Hs:=AA hs;clear hs h;go_in;go_wp2_with fail;go_loopw [7] (fun i wr=>∃k:Nat,k≤ss.length∧i= .int .i64 k∧(∀j,j<k→Bo ss j=true)∧Below w.heap.size w wr) (fun i _=>ss.length - (intOf i).toNat)
 case atStart=>exact⟨0,Nat.zero_le _,rfl,fun j hj=>absurd hj (Nat.not_lt_zero _),Below.refl _ _⟩
 case round=>
  obtain⟨k,hk,rfl,hpre,hbel⟩:=hrel;have Hpre:=AA hpre;clear hpre
  by_cases hlt:k<ss.length
  ·obtain⟨b,off,rfl,D0⟩:=H0.str hlt
   have hbl:=World.block_lt_of_cell? w _ D0;have D:=(hbel.cell (p:=⟨b,off+k,none⟩) hbl).trans D0;have C:=AA (fun W=>Ce (Bi ss k) W (Hs.out.nth hlt));cases hok:Az (Bi ss k)
   ·have S:=AA (Ga hlt (by simp[Bo,hok]))
    have Hok:=AA hok;clear hok D0;go_wp2_with fail;refine(C.out _).mono ?_;rintro e w2 ⟨rfl,hb⟩;rw[Hok.out];go_wp2_with fail;go_ret;exact⟨AP S.out.symm,hbel.trans (hb.mono hbel.size)⟩
   ·by_cases hk0:k=0
    ·have Ok:=AA (show Bo ss k=true by simp[Bo,hok];exact .inl hk0)
     have Hok:=AA hok;have t0:¬(0:Int)<k:=by omega
     clear hok D0 hk0;go_wp2_with fail;refine(C.out _).mono ?_;rintro e w2 ⟨rfl,hb⟩;rw[Hok.out];go_wp2_with fail;go_roundw
     case rel=>exact⟨k+1,by omega,by go_num,BK Hpre.out Ok.out,hbel.trans (hb.mono hbel.size)⟩
     case measure=>simp[intOf];omega
    ·obtain⟨b',off',hbb,E0⟩:=H0.str (show k - 1<ss.length by omega)
     obtain⟨rfl,rfl⟩:b=b'∧off=off':=by simpa using hbb
     have E:=(hbel.cell (p:=⟨b,off+(k - 1),none⟩) hbl).trans E0;have t0:(0:Int)<k:=by omega
     have s1:((k:Int) - 1).toNat=k - 1:=by omega
     have s3:(1:Int)≤k:=by omega
     have Hok:=AA hok;clear D0 E0 hbb;cases hge:J9 (Bi ss (k - 1)) (Bi ss k)
     ·have Ok:=AA (show Bo ss k=true by simp[Bo,hok,hge])
      have hL:Op.bytesLess (Bi ss (k - 1)).toList (Bi ss k).toList=true:=by simpa[J9] using hge
      have EE:=AA E;clear hok hge;go_wp2_with fail;refine(C.out _).mono ?_;rintro e w2 ⟨rfl,hb⟩;rw[Hok.out];have E2:=(hb.cell (World.block_lt_of_cell? _ _ EE.out)).trans EE.out;clear E;go_wp2_with fail;go_roundw
      case rel=>exact⟨k+1,by omega,by go_num,BK Hpre.out Ok.out,hbel.trans (hb.mono hbel.size)⟩
      case measure=>simp[intOf];omega
     ·have S:=AA (Ga hlt (by simp[Bo,hok,hge,hk0]))
      have hL:Op.bytesLess (Bi ss (k - 1)).toList (Bi ss k).toList=false:=by simpa[J9] using hge
      have EE:=AA E;clear hok hge;go_wp2_with fail;refine(C.out _).mono ?_;rintro e w2 ⟨rfl,hb⟩;rw[Hok.out];have E2:=(hb.cell (World.block_lt_of_cell? _ _ EE.out)).trans EE.out;clear E;go_wp2_with fail;go_ret;exact⟨AP S.out.symm,hbel.trans (hb.mono hbel.size)⟩
  ·have S:=AA (Jp (ss:=ss) (fun j hj=>Hpre.out j (by omega)))
   go_wp2_with fail;go_ret;exact⟨AP S.out.symm,hbel⟩
theorem LY (s g:ByteArray) (b:Nat) (w:World) (h:w.cell? ⟨b,0,none⟩=some (.string g)):Calls prog 175 #[.string s, .pointer (some ⟨b,0,none⟩)] w fun e w'=>e= .returned (.bool (Kw g s))∧Below w.heap.size w w':=by go_in;go_wp2_with (refine(Jg _ _ _).mono ?_;rintro e w' ⟨rfl,rfl⟩);go_ret;exact⟨rfl,Below.refl _ _⟩
theorem L7 (v:Value) (ss:List ByteArray) (g:ByteArray) (w:World) (h:BG w v ss) (hs:Dr ss) (hg:g.size≤maxLen) (hok:Ax ss=true) (hr:Az g=true):Calls prog 133 #[v, .string g] w fun r w'=>∃v',r= .returned v'∧AC w.heap.size 9 1 Ag w' v' (A9 ss g)∧Below w.heap.size w w':=by
 have hl:=(Dp.1 hok).2.2;have b1:=AF w (.cells #[.string g] 9);have ce:(w.alloc (.cells #[.string g] 9)).cell? ⟨w.heap.size,0,none⟩=some (.string g):=cell_of_row _ _ 0 _ _ _ (heap_alloc_new _ _);have hlt:w.heap.size<(w.alloc (.cells #[.string g] 9)).heap.size:=by simp
 have C1:=AA (by have:=Ep v ss _ (A6.below h b1) hs;rw[hok] at this;exact this);have CX:=AA (fun W=>by have:=Ce g W hg;rw[hr] at this;exact this);have C2:=AA (fun W (hW:Below w.heap.size w W)=>EV v ss W (A6.below h hW) (by omega));obtain⟨a,c,rfl,hc,hcm⟩:=h.shape;clear h hok hs hg hr;go_in;go_wp2_with fail;refine(C1.out).mono ?_;rintro r w1 ⟨rfl,hb1⟩;replace ce:=(hb1.cell (World.block_lt_of_cell? _ _ ce)).trans ce;have hb2:=b1.trans (hb1.mono b1.size);replace hlt:w.heap.size<w1.heap.size:=Nat.lt_of_lt_of_le hlt hb1.size;clear hb1 b1;have CE:=AA ce;go_wp2_with fail;refine(CX.out _).mono ?_;rintro r w2 ⟨rfl,hb3⟩;have CE2:=AA ((hb3.cell (p:=⟨w.heap.size,0,none⟩) hlt).trans CE.out);replace hlt:w.heap.size<w2.heap.size:=Nat.lt_of_lt_of_le hlt hb3.size;replace hb2:=hb2.trans (hb3.mono hb2.size);clear hb3 ce CE;go_wp2_with fail;refine(C2.out _ hb2).mono ?_;rintro r w3 ⟨v',rfl,hO,hb4⟩;have ce3:=(hb4.cell (p:=⟨w.heap.size,0,none⟩) hlt).trans CE2.out;have C3:=AA (Is 175 #[.pointer (some ⟨w.heap.size,0,none⟩)] (fun s=>Kw g s) v' ss w3 hO hb4.size (fun _ _=>by kernel_rfl)
  (fun x _ W hW=>LY x g _ W ((hW.cell (p:=⟨w.heap.size,0,none⟩) hlt).trans ce3)))
 have hb5:=hb2.trans (hb4.mono hb2.size);have hs1:=hb2.size;clear hO hb4 ce3;go_wp2_with fail;refine(C3.out).mono ?_;rintro r w4 ⟨v4,rfl,hO4,hb6⟩;go_wp2_with fail;go_ret;exact⟨_,rfl,hO4.lower hs1,hb5.trans (hb6.mono hs1)⟩
end Go.Proofs.YteocokgpmgfbaaaGreatDoor
set_option linter.unusedVariables false
namespace Go.Proofs.YteocokgpmgfbaaaGreatDoor
open Go.Proofs.Tryz
open Go.RowKit Go.Shelf
theorem JU {lo e n g cap:Nat} {w:World} {cs:List Value} (h:w.ownsRow lo e 1 (.slice (some ⟨g,0,none⟩) n cap) n cs):∀(j:Nat) v,cs[j]? =some v→w.cell? ⟨g,0+j,none⟩=some v:=by intro j v hj;have hl:=h.1;have:=(List.getElem?_eq_some_iff.1 hj).1;rw[Nat.zero_add,World.ownsRow.cellAt h j (by omega),hj]
theorem TR {lo e n g cap:Nat} {w:World} {cs:List Value} (h:w.ownsRow lo e 1 (.slice (some ⟨g,0,none⟩) n cap) n cs):∃cur,w.heap[g]? =some (.cells cur e (0,0))∧n≤cap∧cap≤maxLen∧cur.size=cap:=by
 rcases h.2 with⟨h0,_⟩|⟨g',cap',cur,hv,hb,hg,hnc,hcm,hcs,htake⟩
 ·cases h0
 ·cases hv
  exact⟨cur,hg,hnc,hcm,by omega⟩
theorem HJ (A B us:List Value) (h:us.length≤B.length):Dq (A++B) A.length 0 us=A++us++B.drop us.length:=by
 have e:A++B=A++B.take us.length++B.drop us.length:=by rw[List.append_assoc,List.take_append_drop]
 rw[e,JG A (B.take us.length) (B.drop us.length) us 0 (by rw[List.length_take];omega) A.length (by omega)]
theorem Nw (ss:List ByteArray):∀u∈ss.map Value.string,u.oneCell'=true:=by intro u hu;obtain⟨s,_,rfl⟩:=List.mem_map.1 hu;rfl
theorem Dc (ss:List ByteArray):Bf Ag ss=ss.map Value.string:=by
 induction ss with
 |nil=>rfl
 |cons s ss ih=>rw[Gd,ih];rfl
def Bb (ss:List ByteArray) (k:Nat) (x:ByteArray):List ByteArray:=ss.take k++x::ss.drop k
theorem GW {ss:List ByteArray} {k:Nat} {x:ByteArray} (hk:k≤ss.length):(Bb ss k x).length=ss.length+1:=by simp[Bb];omega
theorem TG {zs cs:List Value} {k n:Nat} {x:Value} (hz:zs.length=n+1) (hc:cs.length=n) (hk:k≤n) (ht:zs.take k=cs.take k):Dq (Dq zs k 0 [x]) (k+1) 0 (cs.drop k)=cs.take k++x::cs.drop k:=by
 have hA:(cs.take k).length=k:=by rw[List.length_take];omega
 have e:zs=cs.take k++zs.drop k:=by rw[←ht,List.take_append_drop]
 have h1:Dq zs k 0 [x]=cs.take k++[x]++(zs.drop k).drop 1:=by have:=HJ (cs.take k) (zs.drop k) [x] (by simp;omega);rw[←e,hA] at this;exact this
 rw[h1];have:=HJ (cs.take k++[x]) ((zs.drop k).drop 1) (cs.drop k) (by simp;omega);rw[List.length_append,hA] at this;rw[show[x].length=1 from rfl] at this;rw[this];have h2:((zs.drop k).drop 1).drop (cs.drop k).length=[]:=List.eq_nil_of_length_eq_zero (by simp;omega);rw[h2];simp
theorem TH {zs cs:List Value} {k n:Nat} {x:Value} (hz:zs.length=n+1) (hc:cs.length=n) (hk:k≤n) (ht:zs.take k=cs.take k):Dq (Dq zs (k+1) 0 (cs.drop k)) k 0 [x]=cs.take k++x::cs.drop k:=by
 have hA:(cs.take k).length=k:=by rw[List.length_take];omega
 have hB:(zs.take (k+1)).length=k+1:=by rw[List.length_take];omega
 have h1:Dq zs (k+1) 0 (cs.drop k)=zs.take (k+1)++cs.drop k:=by have:=HJ (zs.take (k+1)) (zs.drop (k+1)) (cs.drop k) (by simp;omega);rw[List.take_append_drop,hB] at this;rw[this];have h2:(zs.drop (k+1)).drop (cs.drop k).length=[]:=List.eq_nil_of_length_eq_zero (by simp;omega);rw[h2,List.append_nil]
 rw[h1];obtain⟨b,hb⟩:∃b,zs.take (k+1)=cs.take k++[b]:=⟨zs[k],by rw[←ht];exact List.take_succ_eq_append_getElem (by omega)⟩
 rw[hb];have:=JG (cs.take k) [b] (cs.drop k) [x] 0 rfl k (by omega);rw[this];simp
theorem PJ {lo e n C:Nat} {w:World} {arr:Array Value} (hs:arr.size=C) (hn:n≤C) (hm:C≤maxLen) (hlo:lo≤w.heap.size):(w.alloc (.cells arr e)).ownsRow lo e 1 (.slice (some ⟨w.heap.size,0,none⟩) n C) n (arr.toList.take n):=
 ⟨by rw[List.length_take,Array.length_toList];omega, .inr ⟨w.heap.size,C,arr,rfl,hlo,heap_alloc_new _ _,hn,hm,by omega,by rw[Nat.mul_one]⟩⟩
theorem VF (w:World) (g o:Nat) (us:List Value):w.setCells g o us=Eg w g o 0 us:=by rw[←E9,Nat.add_zero]
theorem Kr {lo vb k:Nat} (v:Value) (ss:List ByteArray) (x:ByteArray) (w:World) (h:AC lo 9 1 Ag w v ss) (hlo:lo≤w.heap.size) (hk:k≤ss.length) (hl:ss.length≤1000)
 (hN:w.heap[vb]? =some (.cells #[.string x] 9 (0,0))) (hne:∀g,v.ownBlock=some g→vb≠g):
 Calls prog 173 #[v, .int .i64 k, .slice (some ⟨vb,0,none⟩) 1 1] w fun e w'=>∃v',e= .returned v'∧AC lo 9 1 Ag w' v' (Bb ss k x)∧Below lo w w':=by
 have hvs:∀(j:Nat) v,[Value.string x][j]? =some v→w.cell? ⟨vb,0+j,none⟩=some v:=by
  intro j v hj
  match j,hj with
  |0,hj=>simp at hj;subst hj;exact cell_of_row w vb 0 _ _ _ hN
 have h1v:∀v∈[Value.string x],v.oneCell'=true:=by simp[Value.oneCell']
 obtain⟨a,c,hv,hc,hcm⟩:=h.rd.shape
 by_cases hroom:ss.length+1≤c
 ·
  have hx:∃g,v= .slice (some ⟨g,0,none⟩) ss.length c∧lo≤g:=by
   rcases h.2 with⟨h0,_⟩|⟨g,cap,cur,h0,hb,_⟩
   ·rw[hv] at h0;simp only[Value.slice.injEq] at h0;omega
   ·rw[hv] at h0;cases h0;exact⟨g,hv,hb⟩
  obtain⟨g,rfl,hg⟩:=hx;have hO:w.ownsRow lo 9 1 (.slice (some ⟨g,0,none⟩) ss.length c) ss.length (ss.map Value.string):=by have:=h;unfold AC at this;rwa [Dc] at this
  obtain⟨ys,hys,hO2⟩:=Mj hO (show ss.length≤ss.length+1 by omega) hroom;have hyl:=hO2.1;rw[Nat.mul_one] at hys hyl;obtain⟨cur,hcur,_,_,hcs⟩:=TR hO;have hvb:vb≠g:=hne g rfl;have hsp:∀j,j<ss.length+1→(w.cell? ⟨g,0+j,none⟩).isSome=true:=by intro j hj;rw[JU hO2 j _ (List.getElem?_eq_getElem (show j<ys.length by omega))];rfl
  have hfz:∀j,w.frozen? ⟨g,0+j,none⟩=false:=fun j=>World.ownsRow.frozenAt hO _
  by_cases hkn:k=ss.length
  ·subst hkn
   refine(Any2.slices_Insert_string_end_room Tryz.lays2n22 g 0 ss.length c vb 0 1 1 [.string x] w (by decide) hroom (by unfold maxLen at hcm;omega) rfl (fun j hj=>by have:=hsp (ss.length+j) (by omega);simpa[Nat.add_assoc] using this) (fun j _=>by have:=hfz (ss.length+j);simpa[Nat.add_assoc] using this) hvs h1v).mono ?_;rintro e w' ⟨rfl,rfl⟩;obtain⟨r1,r2⟩:=Db hO2 ss.length 0 [.string x];rw[show w.setCells g (0+ss.length) [.string x]=Eg w g ss.length 0 [.string x] by rw[Nat.zero_add,←E9,Nat.add_zero]];refine⟨_,rfl,?_,AN (Below.refl _ _) r2 hg hlo⟩;have e1:Dq ys ss.length 0 [.string x]=(Bb ss ss.length x).map Value.string:=by
    have e2:ys=ss.map Value.string++ys.drop ss.length:=by rw[←hys,List.take_append_drop]
    have:=HJ (ss.map Value.string) (ys.drop ss.length) [.string x] (by simp;omega);rw[←e2,List.length_map] at this;rw[this];have:(ys.drop ss.length).drop 1=[]:=List.eq_nil_of_length_eq_zero (by simp;omega);simp[Bb,this]
   unfold AC;rw[GW (Nat.le_refl _),Dc,←e1];exact r1
  ·have hkl:k<ss.length:=by omega
   refine(Any2.slices_Insert_string_shift Tryz.lays2n22 g 0 ss.length c k vb 0 1 1 (ss.map Value.string) [.string x] w hkl (by decide) hroom (by unfold maxLen at hcm;omega) hvb (by simp) rfl (JU hO) hsp (fun j _=>hfz j) hvs (Nw ss) h1v
    9 9 1 c (by simp[World.shape?,hN]) (by simp[World.shape?,hcur,hcs]) (by omega) (AI hN 0) (AI hN 1)).mono ?_
   rintro e w' ⟨rfl,rfl⟩;have hbd:Below w.heap.size w w.drew:=Ao (Below.refl _ _) 1;have hO3:=Bn hO2 hbd;obtain⟨r1,r2⟩:=Db hO3 (k+1) 0 ((ss.map Value.string).drop k);obtain⟨r3,r4⟩:=Db r1 k 0 [.string x];rw[VF,VF,Nat.zero_add,Nat.zero_add];refine⟨_,rfl,?_,AN (AN (hbd.mono hlo) r2 hg (Nat.le_trans hlo hbd.size)) r4 hg (Nat.le_trans (Nat.le_trans hlo hbd.size) r2.size)⟩;rw[TH (n:=ss.length) hyl (by simp) hk (by rw[←hys,List.take_take,Nat.min_eq_left hk])] at r3;unfold AC;rw[GW hk,Dc];simpa[Bb,List.map_take,List.map_drop] using r3
 ·have hcl:∀a',a=some a'→∀(j:Nat) v,(ss.map Value.string)[j]? =some v→w.cell? (a'.add j)=some v:=by
   rintro a' rfl j v hj
   rcases h.2 with⟨h0,_⟩|⟨g,cap,cur,h0,hb,_⟩
   ·rw[hv] at h0;cases h0
   ·rw[hv] at h0
    cases h0;have hO:=h;unfold AC at hO;rw[hv,Dc] at hO;have:=JU hO j v hj;rw[Nat.zero_add] at this;rw[←this];unfold Addr.add
    split<;>simp_all
  have hC1:=grownCap_ge w (ss.length+1) c 9;have hC2:=grownCap_le_maxLen w (ss.length+1) c 9 (by unfold maxLen;omega);rw[hv]
  by_cases hkn:k=ss.length
  ·subst hkn
   refine(Any2.slices_Insert_string_end_grow Tryz.lays2n22 a ss.length c vb 0 1 1 (ss.map Value.string) [.string x] w (by decide) hc (by omega) (by omega) (by simp) rfl (by rintro rfl;obtain⟨a',c',hv',_,_,_,hnil,_⟩:=h.rd;rw[hv] at hv';cases hv';have:=hnil rfl;omega) hcl hvs h1v).mono ?_
   rintro e w' ⟨rfl,rfl⟩;refine⟨_,rfl,?_,((Ao (Below.refl _ _) 1:Below lo w (w.drewN 1))).alloc hlo _⟩;have:=PJ (lo:=lo) (e:=9) (n:=ss.length+1) (C:=grownCap w (ss.length+1) c 9) (w:=w.drew) (arr:=(ss.map Value.string++[Value.string x]).toArray++Builtin.zeroCells (Value.string ⟨#[]⟩).cells (grownCap w (ss.length+1) c 9 - (ss.length+1))) (by simp[Builtin.zeroCells,Value.cells];omega) hC1 hC2 hlo;have e1:((ss.map Value.string++[Value.string x]).toArray++Builtin.zeroCells (Value.string ⟨#[]⟩).cells (grownCap w (ss.length+1) c 9 - (ss.length+1))).toList.take (ss.length+1)=(Bb ss ss.length x).map Value.string:=by rw[Array.toList_append,List.take_left' (by simp)];simp[Bb]
   rw[e1] at this;unfold AC;rw[GW (Nat.le_refl _),Dc];exact this
  ·have hkl:k<ss.length:=by omega
   obtain⟨g,rfl,hcg⟩:∃g,a=some ⟨g,0,none⟩∧True:=by
    rcases h.2 with⟨h0,_⟩|⟨g,cap,cur,h0,hb,_⟩
    ·rw[hv] at h0;simp only[Value.slice.injEq] at h0;omega
    ·rw[hv] at h0;cases h0;exact⟨g,rfl,trivial⟩
   have hO:w.ownsRow lo 9 1 (.slice (some ⟨g,0,none⟩) ss.length c) ss.length (ss.map Value.string):=by have:=h;unfold AC at this;rw[hv,Dc] at this;exact this
   have hcon:=Any2.slices_Insert_string_grow Tryz.lays2n22 g 0 ss.length c k vb 0 1 1 (ss.map Value.string) [.string x] w hkl (by decide) hc (by omega) (by omega) (by simp) rfl (JU hO) hvs (Nw ss) h1v
   change Calls prog 173 _ _ (fun e w'=>e= .returned (.slice (some ⟨w.heap.size,0,none⟩) (ss.length+1) (grownCap w (ss.length+1) c 9))∧w'=(((w.alloc (.cells (((ss.map Value.string).take k).toArray++Builtin.zeroCells (Value.string ⟨#[]⟩).cells (ss.length+1 - k)++Builtin.zeroCells (Value.string ⟨#[]⟩).cells (grownCap w (ss.length+1) c 9 - (ss.length+1))) 9)).drew.setCells w.heap.size k [Value.string x]).drew).setCells w.heap.size (k+1) ((ss.map Value.string).drop k)) at hcon
   refine hcon.mono ?_;rintro e w' ⟨rfl,rfl⟩;have hN0:=PJ (lo:=lo) (e:=9) (n:=ss.length+1) (C:=grownCap w (ss.length+1) c 9) (w:=w) (arr:=((ss.map Value.string).take k).toArray++Builtin.zeroCells (Value.string ⟨#[]⟩).cells (ss.length+1 - k)++Builtin.zeroCells (Value.string ⟨#[]⟩).cells (grownCap w (ss.length+1) c 9 - (ss.length+1))) (by simp[Builtin.zeroCells,Value.cells];omega) hC1 hC2 hlo;have hB0:Below lo w (w.alloc (.cells (((ss.map Value.string).take k).toArray++Builtin.zeroCells (Value.string ⟨#[]⟩).cells (ss.length+1 - k)++Builtin.zeroCells (Value.string ⟨#[]⟩).cells (grownCap w (ss.length+1) c 9 - (ss.length+1))) 9)):=(Below.refl lo w).alloc hlo _;have hT:(((ss.map Value.string).take k).toArray++Builtin.zeroCells (Value.string ⟨#[]⟩).cells (ss.length+1 - k)++Builtin.zeroCells (Value.string ⟨#[]⟩).cells (grownCap w (ss.length+1) c 9 - (ss.length+1))).toList.take k=(ss.map Value.string).take k:=by rw[Array.toList_append,Array.toList_append,List.append_assoc,List.take_left' (by simp;omega)]
   generalize(((ss.map Value.string).take k).toArray++Builtin.zeroCells (Value.string ⟨#[]⟩).cells (ss.length+1 - k)++Builtin.zeroCells (Value.string ⟨#[]⟩).cells (grownCap w (ss.length+1) c 9 - (ss.length+1)))=arr at hN0 hB0 hT ⊢;generalize hwa:w.alloc (.cells arr 9)=wa at hN0 hB0 ⊢;have hd1:Below wa.heap.size wa wa.drew:=Ao (Below.refl _ _) 1;obtain⟨r1,r2⟩:=Db (Bn hN0 hd1) k 0 [.string x];have hd2:Below (Eg wa.drew w.heap.size k 0 [.string x]).heap.size (Eg wa.drew w.heap.size k 0 [.string x]) (Eg wa.drew w.heap.size k 0 [.string x]).drew:=Ao (Below.refl _ _) 1;obtain⟨r3,r4⟩:=Db (Bn r1 hd2) (k+1) 0 ((ss.map Value.string).drop k);rw[VF,VF];have s0:lo≤wa.heap.size:=Nat.le_trans hlo hB0.size;have b1:=AN (hB0.trans (hd1.mono s0)) r2 hlo (Nat.le_trans s0 hd1.size);have s1:lo≤(Eg wa.drew w.heap.size k 0 [.string x]).heap.size:=Nat.le_trans hlo b1.size;refine⟨_,rfl,?_,AN (b1.trans (hd2.mono s1)) r4 hlo (Nat.le_trans s1 hd2.size)⟩;have hzl:=hN0.1;rw[TG (n:=ss.length) (by simpa using hzl) (by simp) hk (by rw[List.take_take,Nat.min_eq_left (by omega)];exact hT)] at r3;unfold AC;rw[GW hk,Dc];simpa[Bb,List.map_take,List.map_drop] using r3
def Uq (ss:List ByteArray) (x:ByteArray) (t:Nat):ByteArray:=if t<ss.length then Bi ss t else x
theorem Px {ss:List ByteArray} {k:Nat} (h:k<ss.length):ss[k]=Bi ss k:=by simp[Bi,h]
def Cv (ss:List ByteArray) (x:ByteArray):Nat:=(ss.takeWhile fun y=>!J9 y x).length
theorem Ie {ss:List ByteArray} {x:ByteArray}:Cv ss x≤ss.length:=(List.takeWhile_prefix _).length_le
theorem Mb (x:ByteArray):KA x x=false:=by
 cases h:KA x x
 ·rfl
 ·have:=Ia.1 h
  exact absurd this (List.lt_irrefl _)
theorem KY {ss:List ByteArray} {x:ByteArray} {t:Nat} (h:t<Cv ss x):KA (Bi ss t) x=true:=by
 have hm:Bi ss t∈ss.takeWhile fun y=>!J9 y x:=by
  have h1:(ss.takeWhile fun y=>!J9 y x)[t]? =ss[t]? :=by
   rw[←List.takeWhile_append_dropWhile (p:=fun y=>!J9 y x) (l:=ss)];rw[List.takeWhile_append_dropWhile]
   conv=>rhs;rw[←List.takeWhile_append_dropWhile (p:=fun y=>!J9 y x) (l:=ss)]
   rw[List.getElem?_append_left h]
  have hl:t<ss.length:=Nat.lt_of_lt_of_le h Ie;rw[FV hl] at h1;exact List.mem_of_getElem? h1
 simpa[Jz] using I7 hm
theorem KZ {ss:List ByteArray} {x:ByteArray} (hs:ss.Pairwise (fun a b=>KA a b=true)) {t:Nat} (h:Cv ss x≤t) (ht:t<ss.length):KA (Bi ss t) x=false:=by
 have hp:KA (Bi ss (Cv ss x)) x=false:=by
  have hlt:Cv ss x<ss.length:=by omega
  have h1:(ss.dropWhile fun y=>!J9 y x).head? =some (Bi ss (Cv ss x)):=by
   have e:=List.takeWhile_append_dropWhile (p:=fun y=>!J9 y x) (l:=ss);have h2:(List.takeWhile (fun y=>!J9 y x) ss++List.dropWhile (fun y=>!J9 y x) ss)[(List.takeWhile (fun y=>!J9 y x) ss).length]? =some (Bi ss (Cv ss x)):=by rw[e];exact FV hlt
   rw[List.getElem?_append_right (Nat.le_refl _)] at h2;simp only[Nat.sub_self] at h2;rw[List.head?_eq_getElem?];exact h2
  have h3:=List.head?_dropWhile_not (fun y=>!J9 y x) ss;rw[h1] at h3;simpa[Jz] using h3
 by_cases e:t=Cv ss x
 ·rw[e];exact hp
 ·cases hx:KA (Bi ss t) x
  ·rfl
  ·exfalso
   rw[List.pairwise_iff_getElem] at hs;have h4:=hs (Cv ss x) t (by omega) ht (by omega);have e1:ss[Cv ss x]'(by omega)=Bi ss (Cv ss x):=Px _;have e2:ss[t]=Bi ss t:=by simp[Bi,ht]
   rw[e1,e2] at h4;rw[K9 h4 hx] at hp;cases hp
theorem PU {ss:List ByteArray} {x:ByteArray} (hs:ss.Pairwise (fun a b=>KA a b=true)):Lib.bsGo (fun t=>Op.bytesLess (Uq ss x t).toList x.toList) ss.length 0 ss.length=Cv ss x:=by
 refine Lib.bsGo_spec _ (Cv ss x) (fun t ht=>?_) (fun t ht=>?_) _ _ _ (by omega) (by omega) Ie
 ·have hl:t<ss.length:=Nat.lt_of_lt_of_le ht Ie
  simp only[Uq,hl,if_true];exact KY ht
 ·by_cases hl:t<ss.length
  ·simp only[Uq,hl,if_true]
   exact KZ hs ht hl
  ·simp only[Uq,hl,if_false]
   exact Mb x
theorem Rs {ss:List ByteArray} {x:ByteArray} (hs:ss.Pairwise (fun a b=>KA a b=true)):(decide (Cv ss x<ss.length∧Uq ss x (Cv ss x)=x))=ss.any (fun y=>decide (y=x)):=by
 rw[Bool.eq_iff_iff,decide_eq_true_eq,Li];constructor
 ·rintro⟨h1,h2⟩
  simp only[Uq,h1,if_true] at h2;exact⟨_,List.mem_of_getElem? (FV h1),by simp[h2]⟩
 ·rintro⟨y,hy,he⟩
  obtain rfl:y=x:=by simpa using he
  obtain⟨j,hj,rfl⟩:=Gr (d:=⟨#[]⟩) hy;have e:Cv ss (ss.getD j ⟨#[]⟩)=j:=by
   rcases Nat.lt_trichotomy (Cv ss (ss.getD j ⟨#[]⟩)) j with h|h|h
   ·exfalso
    have h1:=KZ hs (Nat.le_refl _) (x:=ss.getD j ⟨#[]⟩) (by omega);rw[List.pairwise_iff_getElem] at hs;have h4:=hs _ j (by omega) hj h;have e1:ss[Cv ss (ss.getD j ⟨#[]⟩)]'(by omega)=Bi ss (Cv ss (ss.getD j ⟨#[]⟩)):=Px _;have e2:ss[j]=ss.getD j ⟨#[]⟩:=by simp[hj]
    rw[e1,e2,h1] at h4;cases h4
   ·exact h
   ·exfalso
    have:=KY h;rw[show Bi ss j=ss.getD j ⟨#[]⟩ from rfl,Mb] at this;cases this
  rw[e];exact⟨hj,by simp[Uq,hj,Bi]⟩
theorem P6 {ss:List ByteArray} {x:ByteArray}:Bb ss (Cv ss x) x=MB ss x:=by
 have key:∀A B:List ByteArray,A++B=ss→ss.take A.length=A∧ss.drop A.length=B:=by rintro A B rfl;simp
 obtain⟨k1,k2⟩:=key _ _ (List.takeWhile_append_dropWhile (p:=fun y=>!J9 y x) (l:=ss));unfold Bb MB Cv;rw[k1,k2]
theorem Km (v:Value) (ss:List ByteArray) (x:ByteArray) (w:World) (h:BG w v ss) (hs:Ax ss=true):
 Calls prog 172 #[v, .string x] w fun e w'=>e= .returned (.tuple #[.int .i64 ((Cv ss x:Nat):Int), .bool (ss.any fun y=>decide (y=x))])∧Below w.heap.size w w':=by
 obtain⟨h1,h2,h3⟩:=Dp.1 hs;obtain⟨a,c,rfl,hc,hcm,H0⟩:=A6.open DE (by decide) h
 by_cases h0:ss.length=0
 ·obtain rfl:ss=[]:=List.eq_nil_of_length_eq_zero h0
  refine(Any2.slices_BinarySearch_string_empty Tryz.lays2n26 a c x w).mono ?_;rintro e w' ⟨rfl,rfl⟩;exact⟨rfl,Below.refl _ _⟩
 ·obtain⟨b,off,rfl,_⟩:=H0.str (show 0<ss.length by omega)
  have hcell:∀j,j<ss.length→w.cell? ⟨b,off+j,none⟩=some (.string (Uq ss x j)):=by intro j hj;obtain⟨b',off',e,D⟩:=H0.str hj;cases e;simp only[Uq,hj,if_true];exact D
  have hcon:=Any2.slices_BinarySearch_string Tryz.lays2n26 b off ss.length c (Uq ss x) x w (by omega) hcell;rw[PU h2,Rs h2] at hcon;exact Kb (hcon.mono fun e w' ⟨he,hq⟩=>⟨he,hq⟩)
def Tl (w:World) (ss:List ByteArray) (x:ByteArray) (e:Ending) (w':World):Prop:=∃v',e= .returned (.tuple #[v', .bool (A0 ss x).2])∧AC w.heap.size 9 1 Ag w' v' (A0 ss x).1∧Below w.heap.size w w'
theorem NC (v:Value) (ss:List ByteArray) (x:ByteArray) (w:World) (h:BG w v ss) (hs:Dr ss) (hx:x.size≤maxLen) (hok:Ax ss=true) (hr:Az x=true):
 Calls prog 132 #[v, .string x] w (Tl w ss x):=by
 have hl:=(Dp.1 hok).2.2;have C1:=AA (by have:=Ep v ss w h hs;rw[hok] at this;exact this);have CX:=AA (fun W=>by have:=Ce x W hx;rw[hr] at this;exact this);have CB:=AA (fun W (hW:Below w.heap.size w W)=>Km v ss x W (A6.below h hW) hok);have C2:=AA (fun W (hW:Below w.heap.size w W)=>EV v ss W (A6.below h hW) (by omega));obtain⟨a,c,rfl,hc,hcm⟩:=h.shape;have hin:ss.any (fun y=>decide (y=x))=true→A0 ss x=(ss,true):=fun h=>by unfold A0;rw[if_pos h]
 have hfu:ss.any (fun y=>decide (y=x))=false→ss.length=6→A0 ss x=(ss,false):=fun h h6=>by unfold A0;rw[if_neg (by simp[h]),if_pos h6]
 have hno:ss.any (fun y=>decide (y=x))=false→ss.length≠6→A0 ss x=(Bb ss (Cv ss x) x,true):=fun h h6=>by unfold A0;rw[if_neg (by simp[h]),if_neg h6,P6]
 have HIN:=AA hin;have HFU:=AA hfu;have HNO:=AA hno;have hpl:=Ie (ss:=ss) (x:=x);clear h hok hs hx hr hin hfu hno;go_in;go_wp2_with fail;refine(C1.out).mono ?_;rintro r w1 ⟨rfl,hb1⟩;go_wp2_with fail;refine(CX.out _).mono ?_;rintro r w2 ⟨rfl,hb2⟩;replace hb2:=hb1.trans (hb2.mono hb1.size);clear hb1;go_wp2_with fail;refine(CB.out _ hb2).mono ?_;rintro r w3 ⟨rfl,hb3⟩;replace hb3:=hb2.trans (hb3.mono hb2.size);clear hb2;have C3:=AA (C2.out _ hb3);have s3:=hb3.size;cases hany:ss.any (fun y=>decide (y=x))
 ·by_cases h6:ss.length=6
  ·have E:=AA (HFU.out hany h6)
   have t6:((ss.length:Int)==6)=true:=by simp[h6]
   clear hany h6;go_wp2_with fail;refine(C3.out).mono ?_;rintro r w4 ⟨v4,rfl,hO,hb4⟩;go_wp2_with fail;go_ret2;exact⟨_,by rw[E.out];rfl,by rw[E.out];exact hO.lower s3,hb3.trans (hb4.mono s3)⟩
  ·have E:=AA (HNO.out hany h6)
   have t6:((ss.length:Int)==6)=false:=by rw[beq_eq_false_iff_ne];omega
   clear hany h6;go_wp2_with fail;refine(C3.out).mono ?_;rintro r w4 ⟨v4,rfl,hO,hb4⟩;have hO5:=hO.below (AF w4 (.cells #[.string x] 9));have CI:=AA (Kr v4 ss x (w4.alloc (.cells #[.string x] 9)) hO5 (Nat.le_trans hb4.size (AF _ _).size) hpl (by omega) (heap_alloc_new _ _) (fun g hg=>by have:=(World.ownsRow.lt hO g hg).2;omega));have hb5:=hb4.trans ((AF w4 (.cells #[.string x] 9)).mono hb4.size);clear hO hO5 hb4;go_wp2_with fail;refine(CI.out).mono ?_;rintro r w6 ⟨v6,rfl,hO6,hb6⟩;go_wp2_with fail;go_ret2;exact⟨_,by rw[E.out];rfl,by rw[E.out];exact hO6.lower s3,hb3.trans ((hb5.trans hb6).mono s3)⟩
 ·have E:=AA (HIN.out hany)
  clear hany;go_wp2_with fail;refine(C3.out).mono ?_;rintro r w4 ⟨v4,rfl,hO,hb4⟩;go_wp2_with fail;go_ret2;exact⟨_,by rw[E.out];rfl,by rw[E.out];exact hO.lower s3,hb3.trans (hb4.mono s3)⟩
end Go.Proofs.YteocokgpmgfbaaaGreatDoor
set_option linter.unusedVariables false
namespace Go.Proofs.YteocokgpmgfbaaaGreatDoor
open Go.Proofs.Tryz
open Go.RowKit
theorem Ip.word {w:World} {a:Option Addr} {m:List (List Int)} (h:Ip w a m) (hok:Bq m=true) {f i:Nat} (hf:f<12) (hi:i<4):
 ∃b off b2 off2 c2,a=some ⟨b,off,none⟩∧b<w.heap.size∧w.cell? ⟨b,off+f,none⟩=some (.slice (some ⟨b2,off2,none⟩) 4 c2)∧b2<w.heap.size∧w.cell? ⟨b2,off2+i,none⟩=some (.int .i64 (Ar m f i)):=by
 obtain⟨hl,hr⟩:=Af.1 hok;obtain⟨b,off,u,rfl,hlt,hc,hri⟩:=h f (by omega);have h4:=(BZ.1 (hr f hf)).1;obtain⟨a2,c2,rfl,_,_,H⟩:=hri.open;obtain⟨b2,off2,rfl,hlt2,hc2⟩:=H.cellAt (show i<(AK m f).length by omega);rw[h4] at hc;exact⟨b,off,b2,off2,c2,rfl,hlt,hc,hlt2,hc2⟩
theorem FO {m:List (List Int)} (hok:Bq m=true) {f i:Nat} (hf:f<12) (hi:i<4):0≤Ar m f i∧Ar m f i≤9999:=by obtain⟨hl,hr⟩:=Af.1 hok;obtain⟨h4,hw⟩:=BZ.1 (hr f hf);exact hw _ (De (by omega))
def If (f a:Nat) (b:Bool):Value:= .agg #[.int .i64 f, .int .i64 ((a%4:Nat):Int), .bool b]
def Da:Value:= .agg #[.int .i64 0, .int .i64 0, .bool false]
def Fj (m:List (List Int)) (root a:Nat):Value:= .tuple #[if(BS m root a).1=0 then If (BS m root a).2.1 a (BS m root a).2.2 else Da, .int .i64 (BS m root a).1]
theorem Qi (v:Value) (m:List (List Int)) (root a:Nat) (w:World) (h:BI w v m) (hok:Bq m=true) (hr:root<12) (ha:a<64):
 Calls prog 135 #[v, .int .i64 root, .int .i64 a] w fun e w'=>e= .returned (Fj m root a)∧Below w.heap.size w w':=by
 obtain⟨q,c,rfl,hc,hcm,H0⟩:=h.open;have hl:=(Af.1 hok).1;unfold maxLen at hcm;rw[hl] at hc ⊢;have hA:=AA (fun W=>Lp a W ha);obtain⟨b,off,b2,off2,c2,rfl,hb,D,hb2,D2⟩:=H0.word hok hr (show a/16<4 by omega);have D':=((AF w (.cells #[.int .i64 0, .int .i64 0, .bool false] 126)).cell (p:=⟨b,off+root,none⟩) hb).trans D;have D2':=((AF w (.cells #[.int .i64 0, .int .i64 0, .bool false] 126)).cell (p:=⟨b2,off2+a/16,none⟩) hb2).trans D2;have hw1:=FO hok hr (show a/16<4 by omega);have E1:=AA (fun W=>EI (Ar m root (a/16)) W (by omega));have hB:=AF w (.cells #[.int .i64 0, .int .i64 0, .bool false] 126);cases hg1:BV (Ar m root (a/16))
 ·have S:=AA (show Fj m root a= .tuple #[Da, .int .i64 1] by simp[Fj,BS,hg1])
  have V1:=AA (Dh hg1);clear H0 D D2 hg1 hw1 hb hb2;go_in;go_wp2_with (first|(go_at_call 176;refine(hA.out _).mono ?_;rintro e w' ⟨rfl,rfl⟩)|(go_at_call 160;refine(E1.out _).mono ?_;rintro e w' ⟨rfl,rfl⟩;rw[V1.out]));exact bodyPost_ret (v:= .tuple #[Da, .int .i64 1]) (by simp[results,Tryz.results135,go_sem,Da]) rfl ⟨by rw[S.out],hB⟩
 ·have ht:A1 (Ar m root (a/16))<12:=Dg hg1
  have V1:=AA (Dd hg1);obtain⟨b',off',b3,off3,c3,e,hb',D3,hb3,D4⟩:=H0.word hok ht (show a/4%4<4 by omega);cases e;have D3':=((AF w (.cells #[.int .i64 0, .int .i64 0, .bool false] 126)).cell (p:=⟨b,off+A1 (Ar m root (a/16)),none⟩) hb).trans D3;have D4':=((AF w (.cells #[.int .i64 0, .int .i64 0, .bool false] 126)).cell (p:=⟨b3,off3+a/4%4,none⟩) hb3).trans D4;have hw2:=FO hok ht (show a/4%4<4 by omega);have E2:=AA (fun W=>EI (Ar m (A1 (Ar m root (a/16))) (a/4%4)) W (by omega));cases hg2:BV (Ar m (A1 (Ar m root (a/16))) (a/4%4))
  ·have S:=AA (show Fj m root a= .tuple #[Da, .int .i64 2] by simp[Fj,BS,hg1,hg2])
   have V2:=AA (Dh hg2);clear H0 D D2 D3 D4 hg1 hg2 hw1 hw2 hb hb2 hb3 hb';go_in;go_wp2_with fail;refine(hA.out _).mono ?_;rintro e w' ⟨rfl,rfl⟩;go_wp2_with fail;refine(E1.out _).mono ?_;rintro e w' ⟨rfl,rfl⟩;rw[V1.out];go_wp2_with fail;refine(E2.out _).mono ?_;rintro e w' ⟨rfl,rfl⟩;rw[V2.out];go_wp2_with fail;exact bodyPost_ret (v:= .tuple #[Da, .int .i64 2]) (by simp[results,Tryz.results135,go_sem,Da]) rfl ⟨by rw[S.out],hB⟩
  ·have S:=AA (show Fj m root a= .tuple #[.agg #[.int .i64 ((A1 (Ar m (A1 (Ar m root (a/16))) (a/4%4)):Nat):Int), .int .i64 ((a%4:Nat):Int), .bool (IS (Ar m root (a/16))&&IS (Ar m (A1 (Ar m root (a/16))) (a/4%4)))], .int .i64 0] by simp[Fj,BS,hg1,hg2,If])
   have V2:=AA (Dd hg2);cases hx:IS (Ar m root (a/16))
   all_goals
    rw[hx] at V1 S;clear H0 D D2 D3 D4 hg1 hg2 hw1 hw2 hb hb2 hb3 hb' hx;go_in;go_wp2_with fail;refine(hA.out _).mono ?_;rintro e w' ⟨rfl,rfl⟩;go_wp2_with fail;refine(E1.out _).mono ?_;rintro e w' ⟨rfl,rfl⟩;rw[V1.out];go_wp2_with fail;refine(E2.out _).mono ?_;rintro e w' ⟨rfl,rfl⟩;rw[V2.out];go_wp2_with fail
   ·exact bodyPost_ret (v:= .tuple #[.agg #[.int .i64 ((A1 (Ar m (A1 (Ar m root (a/16))) (a/4%4)):Nat):Int), .int .i64 ((a%4:Nat):Int), .bool false], .int .i64 0]) (by simp[results,Tryz.results135,go_sem]) rfl ⟨by rw[S.out,Bool.false_and],(Below.refl _ _).alloc (Nat.le_refl _) _⟩
   ·exact bodyPost_ret (v:= .tuple #[.agg #[.int .i64 ((A1 (Ar m (A1 (Ar m root (a/16))) (a/4%4)):Nat):Int), .int .i64 ((a%4:Nat):Int), .bool (IS (Ar m (A1 (Ar m root (a/16))) (a/4%4)))], .int .i64 0]) (by simp[results,Tryz.results135,go_sem]) rfl ⟨by rw[S.out,Bool.true_and],(Below.refl _ _).alloc (Nat.le_refl _) _⟩
theorem Ip.row4 {w:World} {a:Option Addr} {m:List (List Int)} (h:Ip w a m) (hok:Bq m=true) {f:Nat} (hf:f<12):
 ∃b off b2 off2 c2,a=some ⟨b,off,none⟩∧b<w.heap.size∧w.cell? ⟨b,off+f,none⟩=some (.slice (some ⟨b2,off2,none⟩) 4 c2)∧b2<w.heap.size∧4≤c2∧∀i,i<4→w.cell? ⟨b2,off2+i,none⟩=some (.int .i64 (Ar m f i)):=by
 obtain⟨hl,hr⟩:=Af.1 hok;obtain⟨b,off,u,rfl,hlt,hc,hri⟩:=h f (by omega);have h4:=(BZ.1 (hr f hf)).1;obtain⟨a2,c2,rfl,hc2,_,H⟩:=hri.open;obtain⟨b2,off2,rfl,hlt2,_⟩:=H.cellAt (show 0<(AK m f).length by omega);rw[h4] at hc hc2;refine⟨b,off,b2,off2,c2,rfl,hlt,hc,hlt2,hc2,fun i hi=>?_⟩;obtain⟨b',off',e,_,hcell⟩:=H.cellAt (show i<(AK m f).length by omega);cases e;exact hcell
def FP (m:List (List Int)) (ns:List Nat):List Nat:=ns.flatMap fun n=>named (AK m n)
theorem Sk {m:List (List Int)} {ns:List Nat} {k:Nat} (h:k<ns.length):FP m (ns.take (k+1))=FP m (ns.take k)++named (AK m (ns.getD k 0)):=by rw[DI (Ba (d:=0) h)];simp[FP]
theorem J5 {r:List Int} {j:Nat} (h:j<r.length):named (r.take (j+1))=named (r.take j)++(if BV (r.getD j 0) then[A1 (r.getD j 0)] else[]):=by
 rw[DI (Ba (d:=0) h)];unfold named;rw[List.filter_append,List.map_append]
 congr 1
 rw[List.filter_cons,List.filter_nil]
 split<;>simp_all
theorem Iu {m:List (List Int)} (hok:Bq m=true) {ns:List Nat} (hn:∀n∈ns,n<12):(FP m ns).length≤4*ns.length:=by
 induction ns with
 |nil=>simp[FP]
 |cons n ns ih=>have h1:=ih (fun x hx=>hn x (List.mem_cons_of_mem _ hx));have h2:=FM (r:=AK m n);have h3:=(BZ.1 ((Af.1 hok).2 n (hn n (List.mem_cons_self ..)))).1;simp only[FP,List.flatMap_cons,List.length_append,List.length_cons] at h1 ⊢;omega
theorem Iv {m:List (List Int)} {ns:List Nat} {g:Nat}:g∈FP m ns↔∃n∈ns,g∈named (AK m n):=by simp[FP]
theorem TA {ns:List Nat} {k:Nat} (h:k<ns.length):ns.getD k 0∈ns:=De h
theorem Kv {lo e sz n:Nat} {w w':World} {v:Value} {xs:List Value} (h:w'.ownsRow lo e sz v n xs) (hg:w.grownBy w' v.ownBlock) (hlo:lo≤w.heap.size):Below lo w w':=(Below.refl lo w).grown hg hlo (fun k hk=>(World.ownsRow.lt h k hk).1)
theorem MD {lo e sz n:Nat} {w w':World} {v u:Value} {xs:List Value} (h:w'.ownsRow lo e sz v n xs) (hv:v.ownBlock=u.ownBlock) (hg:w.grownBy w' u.ownBlock) (hlo:lo≤w.heap.size):Below lo w w':=Kv h (hv▸hg) hlo
def Tp (m:List (List Int)) (ns:List Nat) (w:World) (e:Ending) (w':World):Prop:=∃v' ts,e= .returned v'∧AE w.heap.size w' v' (Ah ts)∧(∀g,g∈ts↔g∈FP m ns)∧ts.length≤(FP m ns).length∧Below w.heap.size w w'
theorem Nr (v v2:Value) (m:List (List Int)) (ns:List Nat) (w:World) (h:BI w v m) (hok:Bq m=true) (h2:Ap w v2 (Ah ns)) (hn:∀n∈ns,n<12) (hl:ns.length≤1000):
 Calls prog 162 #[v,v2] w (Tp m ns w):=by
 obtain⟨q,c,rfl,hc,hcm,H0⟩:=h.open;obtain⟨q2,c2,rfl,hc2,hcm2,H2⟩:=h2.open;have hml:=(Af.1 hok).1;have hal:=Iu hok hn;unfold maxLen at hcm hcm2;rw[hml] at hc ⊢;rw[BO] at hc2 ⊢;have Hn:=AA hn;have Hok:=AA hok;have HR:=AA H0;have HI:=AA H2;clear h h2 hn hok H0 H2 hml;go_in;go_wp2_with fail;go_loopw [5,15] (fun o i wr=>∃k:Nat,k≤ns.length∧i= .int .i64 k∧AE w.heap.size wr o (Ah (FP m (ns.take k)))∧Below w.heap.size w wr) (fun _ i _=>ns.length - (intOf i).toNat)
 case atStart=>exact⟨0,Nat.zero_le _,rfl,World.ownsRow_nil _ _ _ _,Below.refl _ _⟩
 case round=>
  obtain⟨k,hk,rfl,hO,hbel⟩:=hrel
  by_cases hlt:k<ns.length
  ·obtain⟨b,off,rfl,hb,D0⟩:=HI.out.cellAt (show k<(Ah ns).length by rw[BO];exact hlt)
   rw[KX hlt] at D0;have D:=(hbel.cell (p:=⟨b,off+k,none⟩) hb).trans D0;have hn12:=Hn.out _ (TA hlt);obtain⟨bm,offm,br,offr,cr,rfl,hbm,M0,hbr,hcr,W0⟩:=HR.out.row4 Hok.out hn12;have M:=(hbel.cell (p:=⟨bm,offm+ns.getD k 0,none⟩) hbm).trans M0;have HW:=AA W0;have hrl:=AA (BZ.1 ((Af.1 Hok.out).2 _ hn12)).1;have AS:=AA (Sk (m:=m) hlt);generalize hnk:ns.getD k 0=nk at*;have Hnk:=AA hnk;have hk4:(FP m (ns.take k)).length≤4*k:=by
    have:=Iu Hok.out (ns:=ns.take k) (fun n hn=>Hn.out n (List.mem_of_mem_take hn));rw[List.length_take] at this;omega
   clear D0 M0 W0 hnk;have HO:=AA hO;have HB:=AA hbel;clear hO;go_wp2_with fail;clear D M hbel;obtain⟨wo,rfl⟩:∃wo:World,wo=wr:=⟨_,rfl⟩
   go_loopw [5,24] (fun o i wi=>∃j:Nat,j≤4∧i= .int .i64 j∧AE w.heap.size wi o (Ah (FP m (ns.take k)++named ((AK m nk).take j)))∧Below w.heap.size w wi) (fun _ i _=>4 - (intOf i).toNat)
   case atStart=>exact⟨0,by omega,rfl,by simpa[named] using HO.out,HB.out⟩
   case round=>
    obtain⟨j,hj,rfl,hOi,hbi⟩:=hrel
    by_cases hjl:j<4
    ·have W:=(hbi.cell (p:=⟨br,offr+j,none⟩) hbr).trans (HW.out j hjl)
     have NT:=AA (J5 (r:=AK m nk) (j:=j) (by rw[hrl.out];exact hjl));have wb:=FO Hok.out hn12 hjl;have CE:=AA (fun W=>EI (Ar m nk j) W (by omega));have HOi:=AA hOi;have hlen:(FP m (ns.take k)++named ((AK m nk).take j)).length≤4*k+4:=by have:=FM (r:=(AK m nk).take j);rw[List.length_take] at this;rw[List.length_append];omega
     have hsz:=hbi.size;clear hOi;cases hg:BV (Ar m nk j)
     ·have V:=AA (Dh hg)
      have E:=AA (show FP m (ns.take k)++named ((AK m nk).take (j+1))=FP m (ns.take k)++named ((AK m nk).take j) by rw[NT.out,show(AK m nk).getD j 0=Ar m nk j from rfl,hg];simp);clear hg;go_wp2_with (go_at_call 160;refine(CE.out _).mono ?_;rintro e w' ⟨rfl,rfl⟩;rw[V.out]);go_roundw
      case rel=>exact⟨j+1,by omega,by go_num,by rw[E.out];exact HOi.out,hbi⟩
      case measure=>simp[intOf];omega
     ·have V:=AA (Dd hg)
      have E:=AA (show FP m (ns.take k)++named ((AK m nk).take (j+1))=(FP m (ns.take k)++named ((AK m nk).take j))++[A1 (Ar m nk j)] by rw[NT.out,show(AK m nk).getD j 0=Ar m nk j from rfl,hg];simp);clear hg;generalize FP m (ns.take k)++named ((AK m nk).take j)=acc at*;have HO2:=AA (fun ob=>(by have:=Bn HOi.out (AF wr ob);rwa [BO] at this:(wr.alloc ob).ownsRow w.heap.size 3 1 u5 acc.length ((Ah acc).map (Value.int .i64))));go_wp2_with (first|(go_at_call 160;refine(CE.out _).mono ?_;rintro e w' ⟨rfl,rfl⟩;rw[V.out])|(at_builtin;go_must (refine DF (lo:=w.heap.size) (v:=u5) (n:=acc.length) (xs:=(Ah acc).map (Value.int .i64)) (m:=1) (news:=[.int .i64 ((A1 (Ar m nk j):Nat):Int)]) rfl rfl 3 (.int .i64 0) 1 8 underlying28 Tryz.infoInt rfl (by decide) rfl (HO2.out _) rfl (Rd.newsAt _ #[_] _ 1 1 _ rfl (by simp) (by simp[maxLen])) (by simp[Value.oneCell']) (by unfold maxLen;omega) (by omega) (by simp;omega) ?_;intro o' w3 k1 k2 k3)));have R:AE w.heap.size w3 o' (Ah (acc++[A1 (Ar m nk j)])):=by unfold AE;rw[BO,List.length_append];simpa[Ah] using k1
      rw[←E.out] at R;have RR:=AA R;clear k1 k2 R;go_roundw
      case rel=>exact⟨j+1,by omega,by go_num,RR.out,(hbi.trans ((AF _ _).mono hbi.size)).trans k3⟩
      case measure=>simp[intOf];omega
    ·obtain rfl:j=4:=by omega
     have E:FP m (ns.take k)++named ((AK m nk).take 4)=FP m (ns.take (k+1)):=by rw[AS.out,List.take_of_length_le (l:=AK m nk) (i:=4) (Nat.le_of_eq hrl.out)]
     rw[E] at hOi;clear E;go_wp2_with fail;go_roundw
     case rel=>exact⟨k+1,by omega,by go_num,hOi,hbi⟩
     case measure=>simp[intOf];omega
  ·obtain rfl:k=ns.length:=by omega
   rw[List.take_length] at hO;have CS:=AA (KH u5 (FP m ns) wr hO (by omega));clear hO;go_wp2_with fail;refine(CS.out).mono ?_;rintro e w1 ⟨rfl,ts,t1,t2,hO1,hg1⟩;have hb1:=hbel.trans (Kv hO1 hg1 hbel.size);have hs1:=hb1.size;have CC:=AA (Ij u5 ts w1 hO1 (by omega));clear hO1 hg1 hbel;go_wp2_with fail;refine(CC.out).mono ?_;rintro e w2 ⟨v',rfl,hvb,ts2,s1,s2,hO2,hg2⟩;go_wp2_with fail;go_ret;exact⟨_,ts2,rfl,hO2,fun g=>(s2 g).trans (t2 g),by omega,hb1.trans (MD hO2 hvb hg2 hs1)⟩
def Jw (m:List (List Int)) (root:Int) (w:World) (e:Ending) (w':World):Prop:=∃v' ts,e= .returned v'∧AE w.heap.size w' v' (Ah ts)∧(∀g,g∈ts↔g∈A5 m root)∧ts.length≤100∧Below w.heap.size w w'
theorem TU {m:List (List Int)} {n g:Nat}:g∈A5 m (n:Int)↔g=n∨g∈FP m [n]∨g∈FP m (FP m [n]):=by
 rw[DK];simp only[Int.toNat_natCast,Iv,List.mem_singleton,exists_eq_left];constructor
 ·rintro⟨_,h⟩;exact h
 ·intro h;exact⟨by omega,h⟩
theorem Qq {m:List (List Int)} {a b:List Nat} (h:∀g,g∈a↔g∈b) (g:Nat):g∈FP m a↔g∈FP m b:=by
 rw[Iv,Iv];exact exists_congr fun n=>and_congr_left fun _=>h n
theorem IJ (w:World) (x:Int):AE w.heap.size (w.alloc (.cells #[.int .i64 x] 3)) (.slice (some ⟨w.heap.size,0,none⟩) 1 1) [x]:=World.ownsRow_lit (base:=w.heap.size) w #[.int .i64 x] 1 (Nat.le_refl _) (by simp[maxLen]) (by simp)
theorem P8 (n:Nat):Ah [n]=[(n:Int)]:=rfl
theorem UJ (a b:List Nat):Ah (a++b)=Ah a++Ah b:=by simp[Ah]
theorem Iw {lo:Nat} {w:World} {v:Value} {a b:List Nat} (h:w.ownsRow lo 3 1 v (a.length+b.length) ((Ah a).map (Value.int .i64)++(Ah b).map (Value.int .i64))):AE lo w v (Ah (a++b)):=by unfold AE;rw[BO,List.length_append,UJ,List.map_append];exact h
theorem QW (v:Value) (m:List (List Int)) (n:Nat) (w:World) (h:BI w v m) (hok:Bq m=true) (hn:n<12):
 Calls prog 129 #[v, .int .i64 n] w (Jw m (n:Int) w):=by
 have hlen1:=Iu hok (ns:=[n]) (by simpa using hn);have C1:=AA (fun W v2 ns (hW:Below w.heap.size w W) (h2:Ap W v2 (Ah ns)) (hns:∀n∈ns,n<12) (hl:ns.length≤1000)=>Nr v v2 m ns W (by obtain⟨vs,a,b⟩:=h;exact BI.below ⟨vs,a,b⟩ hW) hok h2 hns hl);have hlt12:∀ns:List Nat,∀g∈FP m ns,g<12:=by intro ns g hg;obtain⟨_,_,hg⟩:=Iv.1 hg;exact Ek hg
 have hal:∀ns:List Nat,(∀g∈ns,g<12)→(FP m ns).length≤4*ns.length:=fun ns h=>Iu hok h
 obtain⟨q,c,rfl,hc,hcm,_⟩:=h.open;have HLT:=AA hlt12;have HAL:=AA hal;have i0:(0:Int)≤(n:Int):=by omega
 clear h hok hc hcm hlt12 hal;go_in;go_wp2_with fail;have b1:=AF w (.cells #[.int .i64 n] 3);have b2:=FQ w (.cells #[.int .i64 n] 3) (.cells #[.int .i64 n] 3);have O1:=AA ((IJ w (n:Int)).below (AF _ (.cells #[.int .i64 n] 3)));have O2:=IJ (w.alloc (.cells #[.int .i64 n] 3)) (n:Int);rw[World.size_alloc] at O2;refine(C1.out _ _ [n] b2 (by rw[P8];exact AE.rd O2) (by simpa using hn) (by simp)).mono ?_;rintro e w1 ⟨v1,t1,rfl,P1,m1,l1,hb1⟩;have Q1:=AA (O1.out.below hb1);have B1:=b2.trans (hb1.mono b2.size);have s1:=B1.size;obtain⟨a1,c1,rfl,_,_,_⟩:=P1.rd.open;have P1r:=AA (AE.rd P1);rw[BO] at P1r ⊢;clear hb1 b1 b2 O2 P1 O1;have R1:=AA (show Rd w1 (.slice a1 t1.length c1) 1 t1.length ((Ah t1).map (Value.int .i64)) by have:=P1r.out;unfold Ap at this;rwa [BO] at this);have h1:t1.length≤4:=by simp at hlen1;omega
 go_wp2_with (at_builtin;go_must (refine DF (lo:=w.heap.size) (v:= .slice (some ⟨w.heap.size,0,none⟩) 1 1) (n:=1) (xs:=[.int .i64 n]) (m:=t1.length) (news:=(Ah t1).map (Value.int .i64)) rfl rfl 3 (.int .i64 0) 1 8 underlying28 Tryz.infoInt rfl (by decide) rfl Q1.out rfl R1.out IE (by unfold maxLen;omega) (by omega) (by omega) ?_;intro o2 w2 k1 k2 k3));have O3:=AA (Iw (a:=[n]) k1);have B2:=B1.trans k3;have s2:=B2.size;clear k1 k2 k3 Q1 R1 P1r B1;have b3:=B2.trans ((AF w2 (.cells #[.int .i64 n] 3)).mono s2);have O4:=AA (O3.out.below (AF w2 (.cells #[.int .i64 n] 3)));have CN:=AA (C1.out _ _ [n] b3 (by rw[P8];exact AE.rd (IJ w2 (n:Int))) (by simpa using hn) (by simp));clear O3;go_wp2_with fail;refine(CN.out).mono ?_;rintro e w3 ⟨v3,t3,rfl,P3,m3,l3,hb3⟩;have O5:=AA (O4.out.below hb3);have B3:=b3.trans (hb3.mono b3.size);have s3:=B3.size;have h3:t3.length≤4:=by simp at hlen1;omega
 have t3lt:∀g∈t3,g<12:=fun g hg=>HLT.out _ g ((m3 g).1 hg)
 have CM:=AA (C1.out _ v3 t3 B3 (AE.rd P3) t3lt (by omega));have h4:=HAL.out t3 t3lt;have M3:=AA m3;have M1:=AA m1;clear hb3 b3 P3 O4 CN m3 m1;go_wp2_with fail;refine(CM.out).mono ?_;rintro e w4 ⟨v4,t4,rfl,P4,m4,l4,hb4⟩;have O6:=AA (O5.out.below hb4);have O6':=AA (show w4.ownsRow w.heap.size 3 1 o2 ([n]++t1).length ((Ah ([n]++t1)).map (Value.int .i64)) by have:=O6.out;unfold AE at this;rwa [BO] at this);have B4:=B3.trans (hb4.mono s3);have s4:=B4.size;have R4:=AA (show Rd w4 v4 1 t4.length ((Ah t4).map (Value.int .i64)) by have:=AE.rd P4;unfold Ap at this;rwa [BO] at this);have M4:=AA m4;have hl1:([n]++t1).length≤5:=by simp;omega
 clear hb4 P4 m4 O5;have hmem:=AA (show ∀g,g∈(([n]++t1)++t4)↔g∈A5 m (n:Int) by intro g;rw[TU,List.mem_append,List.mem_append,List.mem_singleton,M1.out,M4.out,Qq M3.out,or_assoc])
 generalize[n]++t1=acc at*;go_wp2_with (at_builtin;go_must (refine DF (lo:=w.heap.size) (v:=o2) (n:=acc.length) (xs:=(Ah acc).map (Value.int .i64)) (m:=t4.length) (news:=(Ah t4).map (Value.int .i64)) rfl rfl 3 (.int .i64 0) 1 8 underlying28 Tryz.infoInt rfl (by decide) rfl O6'.out rfl R4.out IE (by unfold maxLen;omega) (by omega) (by omega) ?_;intro o5 w5 k1 k2 k3));have O7:=Iw k1;have B5:=B4.trans k3;have s5:=B5.size;have hl5:(acc++t4).length≤21:=by rw[List.length_append];omega
 have CS:=AA (KH o5 (acc++t4) w5 O7 (by omega));generalize acc++t4=fin at*;clear k1 k2 k3 O7 O6 O6' R4 B4;go_wp2_with fail;refine(CS.out).mono ?_;rintro e w6 ⟨rfl,ts,u1,u2,hO1,hg1⟩;have B6:=B5.trans (Kv hO1 hg1 s5);have s6:=B6.size;have CC:=AA (Ij o5 ts w6 hO1 (by omega));clear hO1 hg1 B5;go_wp2_with fail;refine(CC.out).mono ?_;rintro e w7 ⟨v',rfl,hvb,ts2,y1,y2,hO2,hg2⟩;go_wp2_with fail;go_ret;exact⟨_,ts2,rfl,hO2,fun g=>((y2 g).trans (u2 g)).trans (hmem.out g),by omega,B6.trans (MD hO2 hvb hg2 s6)⟩
theorem QX (v:Value) (m:List (List Int)) (r:Int) (w:World) (h:BI w v m) (hr:r<0):Calls prog 129 #[v, .int .i64 r] w (Jw m r w):=by
 obtain⟨q,c,rfl,_,_,_⟩:=h.open;have S:=AA (show ∀g,g∈([]:List Nat)↔g∈A5 m r from fun g=>⟨(fun h=>by cases h),(fun h=>by have:=(DK.1 h).1;omega)⟩);clear h;go_in;go_wp2_with fail;go_ret;exact⟨_,[],rfl,World.ownsRow_nil _ _ _ _,S.out,by decide,Below.refl _ _⟩
theorem Lr (F:Nat) (caps:Array Value) (p:Int→Bool) (v:Value) (xs:List Int) (w:World) (h:Ap w v xs)
 (hF:∀args w,(callFunc F args).run prog w= .ok (.enter F args) w) (hf:∀x,x∈xs→∀W,Below w.heap.size w W→Calls prog F (#[.int .i64 x]++caps) W fun e W'=>e= .returned (.bool (p x))∧Below W.heap.size W W'):
 Calls prog 201 #[v, .func (.func F) #[] caps] w fun e w'=>e= .returned (.int .i64 (EJ p xs))∧Below w.heap.size w w':=by
 obtain⟨a,c,rfl,hc,hcm,H0⟩:=h.open;clear h;unfold maxLen at hcm;have Hf:=AA hf;clear hf;go_in;go_wp2;go_loopw [8] (fun i wr=>∃k:Nat,k≤xs.length∧i= .int .i64 k∧(∀(j:Nat) x,j<k→xs[j]? =some x→p x=false)∧Below w.heap.size w wr) (fun i _=>xs.length - (intOf i).toNat)
 case atStart=>exact⟨0,Nat.zero_le _,rfl,fun j x hj=>absurd hj (Nat.not_lt_zero _),Below.refl _ _⟩
 case round=>
  obtain⟨k,hk,rfl,hpre,hbel⟩:=hrel;have Hpre:=AA hpre;clear hpre
  by_cases hlt:k<xs.length
  ·have hx:xs[k]? =some (nth xs k):=Mh hlt
   obtain⟨b,off,rfl,hbl,D0'⟩:=H0.cellAt hlt;have D0:=(hbel.cell (p:=⟨b,off+k,none⟩) hbl).trans D0';clear D0';have Hx:=AA hx;have Hc:=AA (Hf.out _ (List.mem_of_getElem? hx) wr hbel);clear hx;cases hp:p (nth xs k)
   ·have Hp:=AA hp;clear hp
    go_wp2_with (refine(Hc.out).mono ?_;rintro e w' ⟨rfl,hb2⟩;rw[Hp.out]);go_roundw
    case rel=>exact⟨k+1,by omega,by go_num,FJ Hpre.out Hx.out Hp.out,hbel.trans (hb2.mono hbel.size)⟩
    case measure=>simp[intOf];omega
   ·have Hp:=AA hp;clear hp
    have hres:=AA (Gb Hx.out Hpre.out Hp.out);go_wp2_with (refine(Hc.out).mono ?_;rintro e w' ⟨rfl,hb2⟩;rw[Hp.out]);go_ret;exact⟨BQ hres.out.symm,hbel.trans (hb2.mono hbel.size)⟩
  ·have hres:=AA (FK (p:=p) (xs:=xs) (fun j x hx=>Hpre.out j x (by have:=(List.getElem?_eq_some_iff.1 hx).1;omega) hx))
   go_wp2;go_ret;exact⟨BQ hres.out.symm,hbel⟩
theorem G1 (F:Nat) (caps:Array Value) (p:Int→Bool) (v:Value) (xs:List Int) (w:World) (h:Ap w v xs)
 (hF:∀args w,(callFunc F args).run prog w= .ok (.enter F args) w) (hf:∀x,x∈xs→∀W,Below w.heap.size w W→Calls prog F (#[.int .i64 x]++caps) W fun e W'=>e= .returned (.bool (p x))∧Below W.heap.size W W'):
 Calls prog 165 #[v, .func (.func F) #[] caps] w fun e w'=>e= .returned (.bool (xs.any p))∧Below w.heap.size w w':=by
 have E:=AA (Gc (p:=p) (xs:=xs));have C:=AA (Lr F caps p v xs w h hF hf);clear h hf;go_in;go_wp2_with (refine(C.out).mono ?_;rintro e w' ⟨rfl,hb2⟩);go_ret;exact⟨AP E.out,hb2⟩
theorem Oa (f:Nat) (v:Value) (ss:List ByteArray) (iv:Value) (infos:List AL) (br bk gk:Nat) (w:World) (hr:w.cell? ⟨br,0,none⟩=some v) (hk:w.cell? ⟨bk,0,none⟩=some (.pointer (some ⟨gk,0,none⟩)))
 (hi:w.cell? ⟨gk,1,none⟩=some iv) (hv:BG w v ss) (hI:BH w iv infos) (hf:f<infos.length):
 Calls prog 166 #[.int .i64 f, .pointer (some ⟨br,0,none⟩), .pointer (some ⟨bk,0,none⟩)] w fun e w'=>e= .returned (.bool (!Cc ss (infoAt infos f).g))∧Below w.heap.size w w':=by
 obtain⟨a,c,rfl,hc,hcm,H0⟩:=A6.open Ak (by decide) hI;obtain⟨b,off,rfl,hb,D0,D1,D2⟩:=H0.infoCells hf;have M:=Io (w1:=w) (fun W hW=>PD v ss (infoAt infos f).g W (A6.below hv hW));obtain⟨av,cv,rfl,_,_⟩:=hv.shape;have k0:=cell_regrown hr;have k1:=cell_regrown hk;have k2:=cell_regrown hi;have k3:=cell_regrown D1;have f0:(f:Int)<infos.length:=by omega
 clear H0 hI hv D0 D1 D2;go_in;go_wp2_with fail;refine wp_region_quiet_below mixed (by kernel_rfl) ?_
 repeat(go_big_quiet_step (exact M _ _))
 refine wpQuiet_nil ?_;intro _ hw';obtain⟨⟨dq,osq⟩,hw''⟩:=hw';subst hw'';have bq:=below_regrown w dq osq;generalize Sort.grow (redrawn w dq) osq=wq at bq;go_wp2_with fail;go_ret;exact⟨rfl,bq⟩
theorem F0 (gk:Nat) (v v2 iv:Value) (ss:List ByteArray) (fs:List Nat) (infos:List AL) (w:World) (hi:w.cell? ⟨gk,1,none⟩=some iv) (hv:BG w v ss) (hI:BH w iv infos) (h2:Ap w v2 (Ah fs)) (hfs:∀f∈fs,f<infos.length):
 Calls prog 128 #[.pointer (some ⟨gk,0,none⟩),v,v2] w fun e w'=>e= .returned (.bool (At infos fs ss))∧Below w.heap.size w w':=by
 have b2:=FQ w (.cells #[.pointer (some ⟨gk,0,none⟩)] 85) (.cells #[v] 40);have ck0:(w.alloc (.cells #[.pointer (some ⟨gk,0,none⟩)] 85)).cell? ⟨w.heap.size,0,none⟩=some (.pointer (some ⟨gk,0,none⟩)):=cell_of_row _ _ 0 _ _ _ (heap_alloc_new _ _);have ck:((w.alloc (.cells #[.pointer (some ⟨gk,0,none⟩)] 85)).alloc (.cells #[v] 40)).cell? ⟨w.heap.size,0,none⟩=some (.pointer (some ⟨gk,0,none⟩)):=((AF _ _).cell (World.block_lt_of_cell? _ _ ck0)).trans ck0;have cv:((w.alloc (.cells #[.pointer (some ⟨gk,0,none⟩)] 85)).alloc (.cells #[v] 40)).cell? ⟨w.heap.size+1,0,none⟩=some v:=by
  have:=cell_of_row _ _ 0 _ _ _ (heap_alloc_new (w.alloc (.cells #[.pointer (some ⟨gk,0,none⟩)] 85)) (.cells #[v] 40))
  rwa [World.size_alloc] at this
 have hgl:=World.block_lt_of_cell? w _ hi;have S:=AA (show(!(Ah fs).any (fun x=>!Cc ss (infoAt infos x.toNat).g))=At infos fs ss by rw[Lj];unfold Ah At;rw[List.all_map];rfl);have C:=AA (G1 166 #[.pointer (some ⟨w.heap.size+1,0,none⟩), .pointer (some ⟨w.heap.size,0,none⟩)] (fun x=>!Cc ss (infoAt infos x.toNat).g) v2 (Ah fs) _ (Ap.below h2 b2) (fun _ _=>by kernel_rfl) (by intro x hx W hW;obtain⟨n,hn,rfl⟩:=List.mem_map.1 hx;have hb:=b2.trans (hW.mono b2.size);exact Oa n v ss iv infos _ _ gk W ((hW.cell (World.block_lt_of_cell? _ _ cv)).trans cv) ((hW.cell (World.block_lt_of_cell? _ _ ck)).trans ck) ((hb.cell hgl).trans hi) (A6.below hv hb) (A6.below hI hb) (hfs n hn)))
 obtain⟨a,c,rfl,_,_,_⟩:=h2.open;obtain⟨a',c',rfl,_,_⟩:=hv.shape;clear hv hI h2 hi ck0 ck cv hfs;go_in;go_wp2_with (refine(C.out).mono ?_;rintro e w' ⟨rfl,hb2⟩);go_ret;exact⟨AP S.out,b2.trans (hb2.mono b2.size)⟩
theorem Nt {k:Int} (h:Bg k=true):QQ k=k - 1:=by unfold QQ;rw[if_pos h]
theorem RD {infos:List AL} {f:Nat} {kind:Int} {ss:List ByteArray}:EY infos f kind ss 0=true:=JP.2 (.inr ⟨rfl,rfl⟩)
theorem TC {infos:List AL} {f:Nat} {kind x:Int} {ss:List ByteArray} (h0:x≠0) (h:BV x=false):EY infos f kind ss x=false:=by simp[EY,h,h0]
theorem Nh {infos:List AL} {f:Nat} {kind x:Int} {ss:List ByteArray} (h:BV x=true):EY infos f kind ss x=(decide (A1 x≠f)&&decide ((infoAt infos (A1 x)).k=kind - 1)&&Cc ss (infoAt infos (A1 x)).g):=by simp[EY,h]
theorem TB (x:Int) (f:Nat) (kind:Int) (v iv:Value) (ss:List ByteArray) (infos:List AL) (bf bi bk br:Nat) (w:World) (hx:x≤9223372036854775807) (h1:w.cell? ⟨bf,0,none⟩=some (.int .i64 f)) (h2:w.cell? ⟨bi,0,none⟩=some iv) (h3:w.cell? ⟨bk,0,none⟩=some (.int .i64 kind)) (h4:w.cell? ⟨br,0,none⟩=some v)
 (hv:BG w v ss) (hI:BH w iv infos) (hl:infos.length=12) (hk:Bg kind=true):
 Calls prog 199 #[.int .i64 x, .pointer (some ⟨bf,0,none⟩), .pointer (some ⟨bi,0,none⟩), .pointer (some ⟨bk,0,none⟩), .pointer (some ⟨br,0,none⟩)] w fun e w'=>e= .returned (.bool (!EY infos f kind ss x))∧Below w.heap.size w w':=by
 obtain⟨a,c,rfl,hc,hcm,H0⟩:=A6.open Ak (by decide) hI;have CE:=AA (fun W=>EI x W hx);have k1:=cell_regrown h1;have k2:=cell_regrown h2;have k3:=cell_regrown h3;have k4:=cell_regrown h4;have cT:=GU (w1:=w) (fun W=>It kind W);rw[Nt hk] at cT
 by_cases hx0:x=0
 ·subst hx0
  have V:=AA (Dh (x:=0) rfl);have S:=AA (show(!EY infos f kind ss 0)=false by rw[RD];rfl);clear H0 hI hv h1 h2 h3 h4 hk hc hcm;go_in;go_wp2_with (go_at_call 160;refine(CE.out _).mono ?_;rintro e w' ⟨rfl,rfl⟩;rw[V.out]);refine wp_region_quiet_below mixed (by kernel_rfl) ?_
  repeat(go_big_quiet_step (exact cT _ _))
  refine wpQuiet_nil ?_;intro _ hw';obtain⟨⟨dq,osq⟩,hw''⟩:=hw';subst hw'';have bq:=below_regrown w dq osq;generalize Sort.grow (redrawn w dq) osq=wq at bq;go_wp2_with fail;go_ret;exact⟨AP S.out.symm,bq⟩
 ·have t0:(x !=0)=true:=by simp[hx0]
  cases hg:BV x
  ·have V:=AA (Dh hg)
   have S:=AA (show(!EY infos f kind ss x)=true by rw[TC hx0 hg];rfl);clear H0 hI hv h1 h2 h3 h4 hk hc hcm hg hx0;go_in;go_wp2_with (go_at_call 160;refine(CE.out _).mono ?_;rintro e w' ⟨rfl,rfl⟩;rw[V.out]);refine wp_region_quiet_below mixed (by kernel_rfl) ?_
   repeat(go_big_quiet_step (exact cT _ _))
   refine wpQuiet_nil ?_;intro _ hw';obtain⟨⟨dq,osq⟩,hw''⟩:=hw';subst hw'';have bq:=below_regrown w dq osq;generalize Sort.grow (redrawn w dq) osq=wq at bq;go_wp2_with fail;go_ret;exact⟨AP S.out.symm,bq⟩
  ·have hF:=Dg hg
   have V:=AA (Dd hg);have G:=AA (Nh (infos:=infos) (f:=f) (kind:=kind) (ss:=ss) hg);obtain⟨b,off,rfl,hb,D0,D1,D2⟩:=H0.infoCells (show A1 x<infos.length by omega);have d0:=cell_regrown D0;have d1:=cell_regrown D1;have M:=Io (w1:=w) (fun W hW=>PD v ss (infoAt infos (A1 x)).g W (A6.below hv hW));obtain⟨av,cv,rfl,_,_⟩:=hv.shape;have i1:((A1 x:Nat):Int)<infos.length:=by omega
   clear H0 hI hv h1 h2 h3 h4 hk hc hcm D0 D1 D2 hx0 hg;generalize A1 x=o at*
   by_cases e1:o=f
   ·have t1:((o:Int)==(f:Int))=true:=by simp[e1]
    have S:=AA (show(!EY infos f kind ss x)=true by rw[G.out];simp[e1]);clear e1;go_in;go_wp2_with (go_at_call 160;refine(CE.out _).mono ?_;rintro e w' ⟨rfl,rfl⟩;rw[V.out]);refine wp_region_quiet_below mixed (by kernel_rfl) ?_
    repeat(go_big_quiet_step (first|exact cT _ _|exact M _ _))
    refine wpQuiet_nil ?_;intro _ hw';obtain⟨⟨dq,osq⟩,hw''⟩:=hw';subst hw'';have bq:=below_regrown w dq osq;generalize Sort.grow (redrawn w dq) osq=wq at bq;go_wp2_with fail;go_ret;exact⟨AP S.out.symm,bq⟩
   ·have t1:((o:Int)==(f:Int))=false:=by simp;omega
    by_cases e2:(infoAt infos o).k=kind - 1
    ·have t2:((infoAt infos o).k !=kind - 1)=false:=by simp[e2]
     have S:=AA (show(!EY infos f kind ss x)=!Cc ss (infoAt infos o).g by rw[G.out];simp[e1,e2]);clear e1 e2;go_in;go_wp2_with (go_at_call 160;refine(CE.out _).mono ?_;rintro e w' ⟨rfl,rfl⟩;rw[V.out]);refine wp_region_quiet_below mixed (by kernel_rfl) ?_
     repeat(go_big_quiet_step (first|exact cT _ _|exact M _ _))
     refine wpQuiet_nil ?_;intro _ hw';obtain⟨⟨dq,osq⟩,hw''⟩:=hw';subst hw'';have bq:=below_regrown w dq osq;generalize Sort.grow (redrawn w dq) osq=wq at bq;go_wp2_with fail;go_ret;exact⟨AP S.out.symm,bq⟩
    ·have t2:((infoAt infos o).k !=kind - 1)=true:=by simp[e2]
     have S:=AA (show(!EY infos f kind ss x)=true by rw[G.out];simp[e2]);clear e1 e2;go_in;go_wp2_with (go_at_call 160;refine(CE.out _).mono ?_;rintro e w' ⟨rfl,rfl⟩;rw[V.out]);refine wp_region_quiet_below mixed (by kernel_rfl) ?_
     repeat(go_big_quiet_step (first|exact cT _ _|exact M _ _))
     refine wpQuiet_nil ?_;intro _ hw';obtain⟨⟨dq,osq⟩,hw''⟩:=hw';subst hw'';have bq:=below_regrown w dq osq;generalize Sort.grow (redrawn w dq) osq=wq at bq;go_wp2_with fail;go_ret;exact⟨AP S.out.symm,bq⟩
theorem UI (v iv rv:Value) (m:List (List Int)) (infos:List AL) (f:Nat) (kind:Int) (ss:List ByteArray) (w:World) (h:BI w v m) (hok:Bq m=true) (hI:BH w iv infos) (hl:infos.length=12) (hf:f<12) (hk:Bg kind=true) (hv:BG w rv ss):
 Calls prog 158 #[v,iv, .int .i64 f, .int .i64 kind,rv] w fun e w'=>e= .returned (.bool (Gp m infos f kind ss))∧Below w.heap.size w w':=by
 obtain⟨ai,ci,rfl,_,_⟩:=hI.shape;obtain⟨av,cv,rfl,_,_⟩:=hv.shape;have b4:=VU w (.cells #[.slice ai infos.length ci] 23) (.cells #[.int .i64 f] 3) (.cells #[.int .i64 kind] 3) (.cells #[.slice av ss.length cv] 40);have N0:=heap_alloc_new w (.cells #[.slice ai infos.length ci] 23);have N1:=heap_alloc_new (w.alloc (.cells #[.slice ai infos.length ci] 23)) (.cells #[.int .i64 f] 3);have N2:=heap_alloc_new ((w.alloc (.cells #[.slice ai infos.length ci] 23)).alloc (.cells #[.int .i64 f] 3)) (.cells #[.int .i64 kind] 3);have N3:=heap_alloc_new (((w.alloc (.cells #[.slice ai infos.length ci] 23)).alloc (.cells #[.int .i64 f] 3)).alloc (.cells #[.int .i64 kind] 3)) (.cells #[.slice av ss.length cv] 40);simp only[World.size_alloc] at N1 N2 N3;have M2:=AG N2 (AF _ (.cells #[.slice av ss.length cv] 40));have M1:=AG N1 (FQ _ (.cells #[.int .i64 kind] 3) (.cells #[.slice av ss.length cv] 40));have M0:=AG N0 (Tx _ (.cells #[.int .i64 f] 3) (.cells #[.int .i64 kind] 3) (.cells #[.slice av ss.length cv] 40));obtain⟨q,c,rfl,hc,hcm,H0⟩:=h.open;have hml:=(Af.1 hok).1;obtain⟨bm,offm,br,offr,cr,rfl,hbm,D,hbr,hcr,W0⟩:=H0.row4 hok hf;have D':=(b4.cell (p:=⟨bm,offm+f,none⟩) hbm).trans D;have rd:=(BI.open (BI.below h b4));have hrow:Ap ((((w.alloc (.cells #[.slice ai infos.length ci] 23)).alloc (.cells #[.int .i64 f] 3)).alloc (.cells #[.int .i64 kind] 3)).alloc (.cells #[.slice av ss.length cv] 40)) (.slice (some ⟨br,offr,none⟩) 4 cr) (AK m f):=by obtain⟨b',off',u,e,_,hcu,hr⟩:=H0 f (by omega);cases e;rw[D] at hcu;cases hcu;exact Ap.below hr b4
 have S:=AA (show(!(AK m f).any fun x=>!EY infos f kind ss x)=Gp m infos f kind ss by rw[Lj];rfl);have hw:∀x,x∈AK m f→x≤9999:=fun x hx=>((BZ.1 ((Af.1 hok).2 f hf)).2 x hx).2
 have C:=AA (G1 199 #[.pointer (some ⟨w.heap.size+1,0,none⟩), .pointer (some ⟨w.heap.size,0,none⟩), .pointer (some ⟨w.heap.size+1+1,0,none⟩), .pointer (some ⟨w.heap.size+1+1+1,0,none⟩)] (fun x=>!EY infos f kind ss x) _ (AK m f) _ hrow (fun _ _=>by kernel_rfl) (by intro x hx W hW;have hb:=b4.trans (hW.mono b4.size);exact TB x f kind _ _ ss infos _ _ _ _ W (by have:=hw x hx;omega) (cell_of_row _ _ 0 _ _ _ (AG M1 hW)) (cell_of_row _ _ 0 _ _ _ (AG M0 hW)) (cell_of_row _ _ 0 _ _ _ (AG M2 hW)) (cell_of_row _ _ 0 _ _ _ (AG N3 hW)) (A6.below hv hb) (A6.below hI hb) hl hk))
 have fm:(f:Int)<m.length:=by omega
 clear hv hI h hrow hw N0 N1 N2 N3 M0 M1 M2 W0 rd H0 D hl hml hok;go_in;go_wp2_with (refine(C.out).mono ?_;rintro e w' ⟨rfl,hb2⟩);go_ret;exact⟨AP S.out,b4.trans (hb2.mono b4.size)⟩
end Go.Proofs.YteocokgpmgfbaaaGreatDoor
