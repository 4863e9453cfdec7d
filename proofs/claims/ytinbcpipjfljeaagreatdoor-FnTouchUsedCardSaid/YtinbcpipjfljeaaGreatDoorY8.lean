/-
  Packed:13 texts.
-/
import Derived.Test.YtinbcpipjfljeaaGreatDoorY1
import Derived.Test.YtinbcpipjfljeaaGreatDoorY7
import Derived.Test.YtinbcpipjfljeaaGreatDoorY4
import Derived.Test.YtinbcpipjfljeaaGreatDoorY3
import Derived.Test.YtinbcpipjfljeaaGreatDoorY5
set_option linter.unusedVariables false
set_option linter.unusedSimpArgs false
set_option maxHeartbeats 16000000
set_option maxRecDepth 100000
open Go Go.Proofs.YtinbcpipjfljeaaGreatDoor
open Bool renaming eq_iff_iff->wF,or_eq_true->xv
open Go.IntKind renaming i64->wR
open Go.IntWalk renaming i64_in->xy
open Go.RowKit.Below renaming refl->yF
open Go.Value renaming int->yf,oneCell'->xE,slice->xB
open Go.Value.slice renaming injEq->xD
open Go.World renaming block_lt_of_cell?->yC,size_alloc->xG
open Go.World.ownsRow renaming lt->yr
open Go renaming cell_of_row->yi,heap_alloc_new->yw
open Int renaming toNat_natCast->xY
open List renaming all_eq_true->yk,count_le_length->uN,filter_append->wy,filter_cons->uW,filter_nil->ul,foldl_cons->yA,foldl_nil->yy,getD_eq_getElem?_getD->xU,getElem?_eq_getElem->yx,length_append->yl,length_drop->vZ,length_filter_le->wV,length_nil->wP,length_singleton->xO,length_take->xW,mem_flatMap->wS,mem_of_getElem?->yg,mem_range->yj,range->yE,range_succ->xx,replicate->xX,take_length->xt
open List.range renaming loop->yB
open Nat renaming le_refl->yv,le_succ->wB,le_trans->yD,not_lt_zero->xR,zero_le->yh
variable {k n:Nat} {w:World}
namespace Go.Proofs.YtinbcpipjfljeaaGreatDoor
open Go.Proofs.Tryz
open Go.RowKit
theorem WY (w:World) (n:Nat):AG w.heap.size (w.alloc (.cells #[.int .i64 n] 3)) (.slice (some ⟨w.heap.size,0,none⟩) 1 1) (Ay [n]):=Zk (n:=1) (C:=1) rfl (yv _) (by decide) (yv _)
theorem It (v:Value) (m:List (List Int)) (root:Int) (w:World) (h:Bc w v m) (hm:Bs m=true) (hr:root<12):Calls prog 146 #[v, .int .i64 root] w fun e w'=>∃v',e= .returned v'/\AG w.heap.size w' v' (Ay (EY m root))/\Below w.heap.size w w':=by
 by_cases hn:root<0
 .have E:EY m root=[]:=by unfold EY;rw[if_pos hn]
  have o1:=FF w;rw[E];go_in;go_wp2_with fail;go_ret;exact⟨_,rfl,o1,AD _ _⟩
 .obtain⟨r,rfl⟩:∃r:Nat,root=(r:Int):=⟨root.toNat,by omega⟩
  have E:EY m (r:Int)=IJ (([r]++Ec m r)++Ir m r):=by unfold EY;rw[if_neg hn,xY];rfl
  have cK:r<12:=by omega
  rw[E];have b0:=AD w (.cells #[.int .i64 r] 3);have o0:=WY w r;have CT:=AA (fun W (hW:Below w.heap.size w W)=>KK v m r W (h.below hW) hm cK);have CF:=AA (fun W (hW:Below w.heap.size w W)=>Ss v m r W (h.below hW) hm cK);have ht:(Ec m r).length<=12:=LL;have hf:(Ir m r).length<=12:=LL;obtain⟨a,c,rfl,hc,br,_⟩:=h.open;generalize Ec m r=ts at*;generalize Ir m r=fs at*;clear h hm E hc br;go_in;go_wp2_with fail;generalize w.alloc _=wa at o0 b0 ⊢;refine(CT.out wa b0).mono ?_;rintro e w1 ⟨v1,rfl,o1,b1⟩;have O0:=AG.below o0 b1;have bw:=b0.trans (b1.mono b0.size);have c8:=AA (AG.rd o1);have fM:w.heap.size<=w1.heap.size:=bw.size;have bl:=AA bw;obtain⟨az,cz,rfl,eO⟩:=ET o1;clear o0 b0 o1 b1 bw;have fA:Ay [r]=Ay ([r]:List Nat):=rfl;go_wp2_with (at_builtin;go_must (refine Be (lo:=w.heap.size) (n:=1) (xs:=(Ay [r]).map (yf .i64)) (m:=ts.length) (news:=(Ay ts).map (yf .i64)) rfl rfl 3 (.int .i64 0) 1 8 underlying29 Tryz.zK rfl (by decide) rfl (KP O0 (yF _ _)) rfl (by have:=c8.out;unfold Ax at this;rw[Ca] at this;exact this) (LC _) (by unfold maxLen;omega) (by omega) (by omega) ?_;intro o' w9 k1 k2 k3 k4));have a4:=bl.out.trans k4;refine(CF.out w9 a4).mono ?_;rintro e w2 ⟨v2,rfl,o2,b2⟩;have O9:=IW (ys:=[r]) (zs:=ts) k1;have O2:=AG.below O9 b2;have cr:=AA (a4.trans (b2.mono a4.size));have dP:=AA (AG.rd o2);obtain⟨ay,cy,rfl,fS⟩:=ET o2;obtain⟨ax,cx,rfl,fT⟩:=ET O2;clear O0 c8 k1 k2 k3 k4 a4 O9 o2 b2;go_wp2_with (at_builtin;go_must (refine Be (lo:=w.heap.size) (n:=([r]++ts).length) (xs:=(Ay ([r]++ts)).map (yf .i64)) (m:=fs.length) (news:=(Ay fs).map (yf .i64)) rfl rfl 3 (.int .i64 0) 1 8 underlying29 Tryz.zK rfl (by decide) rfl (KP O2 (yF _ _)) rfl (by have:=dP.out;unfold Ax at this;rw[Ca] at this;exact this) (LC _) (by simp only[yl,xO];unfold maxLen;omega) (by simp only[yl,xO];omega) (by have:=cr.out.size;omega) ?_;intro o8 w8 k1 k2 k3 k4));have c5:=cr.out.trans k4;have O8:=IW k1;refine(KJ o8 _ w8 (AG.rd O8)).mono ?_;rintro e w3 ⟨v3,rfl,o3,b3⟩;have ff:=AA (MH o3 c5.size);have fj:=AA (c5.trans (b3.mono c5.size));clear O8 c5 k1 k2 k3 k4 o3 b3 O2;go_wp2_with fail;go_ret;exact⟨_,rfl,ff.out,fj.out⟩
theorem Jp (w:World) (a b:Obj):((w.alloc a).alloc b).heap[w.heap.size]? =some a/\((w.alloc a).alloc b).heap[w.heap.size+1]? =some b/\Below w.heap.size w ((w.alloc a).alloc b)/\((w.alloc a).alloc b).heap.size=w.heap.size+2:=by have h1:=yw w a;have h2:=yw (w.alloc a) b;have h4:=AC h1 (AD _ b);simp only[xG] at h2;exact⟨h4,h2,Gu w a b,by simp⟩
def GP (k:AN) (a n:Nat):List Nat:=(yE n).filter (QJ k a)
theorem Qv {k:AN} {a:Nat}:GP k a (n+1)=GP k a n++(if QJ k a n then[n] else[]):=by
 unfold GP;rw[xx,wy]
 congr 1
 simp only[uW,ul]
theorem Te {k:AN} {a:Nat}:(GP k a n).length<=n:=by have:=wV (QJ k a) (yE n);simpa[GP] using this
theorem Sp (mv iv ev cv:Value) (k:AN) (a:Nat) (w:World) (h:MM w mv iv ev cv k) (hk:DI k):Calls prog 249 #[.agg #[mv,iv,ev,cv], .int .i64 a] w fun e w'=>∃v',e= .returned v'/\AG w.heap.size w' v' (Ay (Td k a))/\Below w.heap.size w w':=by
 obtain⟨N0,N1,ar,cY⟩:=Jp w (.cells #[mv,iv,ev,cv] 28) (.cells #[] 3);have o1:AG w.heap.size ((w.alloc (.cells #[mv,iv,ev,cv] 28)).alloc (.cells #[] 3)) (.slice (some ⟨w.heap.size+1,0,none⟩) 0 0) (Ay []):=by have:=FF (w.alloc (.cells #[mv,iv,ev,cv] 28));simp only[xG] at this;exact MH this (wB _)
 have CT:=AA (fun(r:Nat) (hr:r<12) W (hW:Below w.heap.size w W)=>KK mv k.mem r W (h.1.below hW) hk.mem hr);obtain⟨ae,ce,rfl,eR,eP,HE⟩:=h.2.2.1.open;rw[hk.zP] at eR N0 o1 ar ⊢;have HR:=AA hk.roots;have fq:=AA HE;have cV:=AA hk.zP;have US:Td k a=GP k a 3:=rfl;rw[US];clear h hk HE US cY N1;go_in;go_wp2_with fail;generalize(w.alloc _).alloc _=wa at o1 ar N0 ⊢;have fo:=AA N0;clear N0;generalize(xB (some ⟨w.heap.size+1,0,none⟩) 0 0)=o at o1 ⊢;go_loopw [5,6,7] (fun o ix _ wr=>∃n:Nat,n<=3/\ix= .int .i64 n/\AG w.heap.size wr o (Ay (GP k a n))/\Below w.heap.size w wr/\wr.heap[w.heap.size]? =some (.cells #[mv,iv, .slice ae 3 ce,cv] 28 (0,0))) (fun _ ix _ _=>3 - (intOf ix).toNat)
 case atStart=>exact⟨0,yh _,rfl,o1,ar,fo.out⟩
 case round=>
  clear o1 ar;obtain⟨n,hn,rfl,ac,hb,hN⟩:=hrel;obtain⟨x0,_,x2,_⟩:=AF hN
  by_cases aq:n<3
  .have bj:(n:Int)<3:=by omega
   obtain⟨b,ad,ua,uc,rfl,a0,D0,D1,_⟩:=(fq.out.below hb) n (by rw[cV.out];exact aq);have bx:=HR.out n aq;have Nx:=AA (Qv (k:=k) (a:=a) (n:=n));have cb:=Te (k:=k) (a:=a) (n:=n);have UE:QJ k a n=(decide ((AJ k.zZ n).root=(a:Int))||(decide (0<=(AJ k.zZ n).root)&&(Ec k.mem (AJ k.zZ n).root.toNat).contains a)):=rfl
   change (AJ k.zZ n).root= -1∨(0<=(AJ k.zZ n).root/\(AJ k.zZ n).root<=11/\_) at bx
   generalize GP k a n=ys at ac Nx cb;generalize QJ k a n=ub at Nx UE;generalize(AJ k.zZ n).root=rt at D1 bx UE;have a7:=AA ac;have HN:=AA hN;obtain⟨_,_,rfl,_⟩:=ET ac;clear ac hN D0;have cE:Hid (ub=true->GP k a (n+1)=ys++[n]):=AA fun e=>by rw[Nx.out,e];simp
   have NO:Hid (ub=false->GP k a (n+1)=ys):=AA fun e=>by rw[Nx.out,e];simp
   clear Nx
   by_cases e1:rt=(a:Int)
   .have t1:(rt==(a:Int))=true:=by simp[e1]
    have bk:=AA (cE.out (by rw[UE];simp[e1]));clear cE NO UE e1 bx;go_wp2_with (at_builtin;go_must (refine Be (lo:=w.heap.size) (n:=ys.length) (xs:=(Ay ys).map (yf .i64)) (m:=1) (news:=[.int .i64 n]) rfl rfl 3 (.int .i64 0) 1 8 underlying29 Tryz.zK rfl (by decide) rfl (KP a7.out (AD _ (.cells #[.int .i64 n] 3))) rfl (Rd.zE _ #[_] _ 1 1 _ (by simp) rfl (by simp[maxLen])) (by simp[xE]) (by unfold maxLen;omega) (by omega) (by have:=hb.size;simp;omega) ?_;intro o' w9 k1 k2 k3 k4));go_roundw
    case rel=>exact⟨n+1,by omega,by go_num,by rw[bk.out];exact IW (zs:=[n]) k1,(hb.alloc hb.size _).trans k4,(k2.block w.heap.size (by have:=AY HN.out;simp;omega) (fun e=>Dd a7.out HN.out (by decide) e.symm)).trans (AC HN.out (AD _ _))⟩
    case measure=>simp[intOf];omega
   .have t1:(rt==(a:Int))=false:=by simp[e1]
    rcases bx with rfl|⟨h0,h11,_⟩
    .have bk:=AA (NO.out (by rw[UE];simp[e1]))
     clear cE NO UE e1;go_wp2_with fail;go_roundw
     case rel=>exact⟨n+1,by omega,by go_num,by rw[bk.out];exact a7.out,hb,HN.out⟩
     case measure=>simp[intOf];omega
    .obtain⟨r,rfl⟩:∃r:Nat,rt=(r:Int):=⟨rt.toNat,by omega⟩
     have C:=AA (CT.out r (by omega) wr hb);rw[xY] at UE;go_wp2_with fail;refine C.out.mono ?_;rintro e w2 ⟨v2,rfl,o2,b2⟩;have CH:=RY v2 _ (a:Int) w2 (AG.rd o2);rw[UH] at CH;generalize(Ec k.mem r).contains a=bt at UE CH;have ft:=AA CH;have a5:=hb.trans (b2.mono hb.size);have cS:=AA (a7.out.below b2);have dS:=AA (AC HN.out b2);clear CH o2 b2 C x0 x2 D1;go_wp2_with fail;refine ft.out.mono ?_;rintro e w3 ⟨rfl,b3⟩;have cl:=a5.trans (b3.mono a5.size);have b4:=AA (cS.out.below b3);have dc:=AA (AC dS.out b3);clear b3 a5;cases bt
     .have bk:=AA (NO.out (by rw[UE];simp[e1]))
      clear cE NO UE e1;go_wp2_with fail;go_roundw
      case rel=>exact⟨n+1,by omega,by go_num,by rw[bk.out];exact b4.out,cl,dc.out⟩
      case measure=>simp[intOf];omega
     .have bk:=AA (cE.out (by rw[UE];simp))
      clear cE NO UE e1;go_wp2_with (at_builtin;go_must (refine Be (lo:=w.heap.size) (n:=ys.length) (xs:=(Ay ys).map (yf .i64)) (m:=1) (news:=[.int .i64 n]) rfl rfl 3 (.int .i64 0) 1 8 underlying29 Tryz.zK rfl (by decide) rfl (KP b4.out (AD _ (.cells #[.int .i64 n] 3))) rfl (Rd.zE _ #[_] _ 1 1 _ (by simp) rfl (by simp[maxLen])) (by simp[xE]) (by unfold maxLen;omega) (by omega) (by have:=cl.size;simp;omega) ?_;intro o' w9 k1 k2 k3 k4));go_roundw
      case rel=>exact⟨n+1,by omega,by go_num,by rw[bk.out];exact IW (zs:=[n]) k1,(cl.alloc cl.size _).trans k4,(k2.block w.heap.size (by have:=AY dc.out;simp;omega) (fun e=>Dd b4.out dc.out (by decide) e.symm)).trans (AC dc.out (AD _ _))⟩
      case measure=>simp[intOf];omega
  .obtain rfl:n=3:=by omega
   rw[show((3:Nat):Int)=3 from rfl];go_wp2_with fail;go_ret;exact⟨_,rfl,ac,hb⟩
theorem Ej {l:List Ak} (h:k<l.length):l[k]? =some (AT l k):=by simp[AT,h]
theorem Kw {α:Type} {p:α->Bool} {l:List α} {x:α} (h:l[k]? =some x):(l.take (k+1)).filter p=(l.take k).filter p++(if p x then[x] else[]):=by
 rw[Cw h,wy]
 congr 1
 simp only[uW,ul]
theorem Ih {α:Type} {p:α->Bool} {l:List α}:((l.take k).filter p).length<=l.length:=yD (wV _ _) (by rw[xW];omega)
theorem PT (v:Value) (c:List Ak) (e:Int) (w:World) (h:Dt w v c) (hl:c.length<=100):Calls prog 250 #[v, .int .i64 e] w fun r w'=>∃v',r= .returned v'/\AP w.heap.size 98 4 Ae w' v' (Fu c e)/\Below w.heap.size w w':=by
 obtain⟨a,cp,rfl,hc,br,H⟩:=BJ.open Cg (by decide) h;unfold maxLen at br;have HH:=AA H;have bA:=AD w (.cells #[] 98);have o1:=By Ae w 98 4;clear h H;go_in;go_wp2_with fail;generalize w.alloc (.cells #[] 98)=wa at o1 bA ⊢;generalize(xB (some ⟨w.heap.size,0,none⟩) 0 0)=o at o1 ⊢;go_loopw [5,6] (fun o ix wr=>∃k:Nat,k<=c.length/\ix= .int .i64 k/\AP w.heap.size 98 4 Ae wr o ((c.take k).filter (fun y=>decide (y.e≠e)))/\Below w.heap.size w wr) (fun _ ix _=>c.length - (intOf ix).toNat)
 case atStart=>exact⟨0,yh _,rfl,o1,bA⟩
 case round=>
  clear o1 bA;obtain⟨k,hk,rfl,ac,hb⟩:=hrel
  by_cases aq:k<c.length
  .have bj:(k:Int)<(c.length:Int):=by omega
   obtain⟨b,ad,rfl,a0,D0,D1,D2,D3⟩:=(HH.out.below hb).zN aq;have Nx:=AA (Kw (p:=fun y=>decide (y.e≠e)) (Ej aq));have cb:=Ih (p:=fun y=>decide (y.e≠e)) (l:=c) (k:=k);generalize AT c k=x at D0 D1 D2 D3 Nx;generalize(c.take k).filter (fun y=>decide (y.e≠e))=ys at ac Nx cb;have a7:=AA ac;obtain⟨_,_,rfl,_⟩:=ac.rd.shape;clear ac;cases hp:decide (x.e≠e)
   .have t0:(x.e !=e)=false:=by simpa using hp
    have bk:=AA (show(c.take (k+1)).filter (fun y=>decide (y.e≠e))=ys by rw[Nx.out,hp];simp);have Hp:=AA hp;clear hp Nx;go_wp2_with fail;go_roundw
    case rel=>exact⟨k+1,by omega,by go_num,by rw[bk.out];exact a7.out,hb⟩
    case measure=>simp[intOf];omega
   .have t0:(x.e !=e)=true:=by simpa using hp
    have bk:=AA (show(c.take (k+1)).filter (fun y=>decide (y.e≠e))=ys++[x] by rw[Nx.out,hp];simp);have Hp:=AA hp;clear hp Nx;go_wp2_with (at_builtin;go_must (refine Be (lo:=w.heap.size) (n:=ys.length) (xs:=Ch Ae ys) (m:=1) (news:=[.int .i64 x.e, .int .i64 x.p, .int .i64 x.f, .bool x.w]) rfl rfl 98 (.agg #[.int .i64 0, .int .i64 0, .int .i64 0, .bool false]) 4 32 underlying26 Tryz.zH rfl (by decide) rfl (Co (a7.out) (AD _ _)) rfl (Rd.zE _ #[.int .i64 x.e, .int .i64 x.p, .int .i64 x.f, .bool x.w] _ 4 1 _ rfl (by simp) (by simp[maxLen])) (by simp[xE]) (by unfold maxLen;omega) (by omega) (by have:=(hb).size;simp;omega) ?_;intro o' w9 k1 k2 k3 k4));go_roundw
    case rel=>exact⟨k+1,by omega,by go_num,by rw[bk.out];unfold AP;rw[Bl,El,yl];exact k1,((hb).alloc (hb).size _).trans k4⟩
    case measure=>simp[intOf];omega
  .obtain rfl:k=c.length:=by omega
   rw[xt] at ac;go_wp2_with fail;go_ret;exact⟨_,rfl,ac,hb⟩
theorem YN {c:List Ak} {e p:Int} (hk:k<c.length) (h:∀j,j<k->Bj e p (AT c j)=false) (hp:Bj e p (AT c k)=true):Hj c e p=(k:Int):=by
 have g:∀j (hj:j<c.length),c[j]=AT c j:=fun j hj=>by have:=Ej hj;rw[yx hj] at this;exact yH this
 unfold Hj;rw[if_pos (NM (Ej hk) hp)];have:c.findIdx (Bj e p)=k:=by
  rw[List.findIdx_eq hk];exact⟨by rw[g k hk];exact hp,fun j hj=>by rw[g j (by omega)];exact h j hj⟩
 rw[this]
theorem Wv {c:List Ak} {e p:Int} (h:∀j,j<c.length->Bj e p (AT c j)=false):Hj c e p= -1:=by
 unfold Hj;rw[if_neg];rw[Ks (fun k hk=>Ej hk) h];simp
theorem PU (v:Value) (c:List Ak) (e p:Int) (w:World) (h:Dt w v c):Calls prog 143 #[v, .int .i64 e, .int .i64 p] w fun r w'=>r= .returned (.int .i64 (Hj c e p))/\Below w.heap.size w w':=by
 obtain⟨a,cp,rfl,hc,br,H⟩:=BJ.open Cg (by decide) h;unfold maxLen at br;have HH:=AA H;clear h H;go_in;go_wp2_with fail;go_loopw [7] (fun ix wr=>∃k:Nat,k<=c.length/\ix= .int .i64 k/\(∀j,j<k->Bj e p (AT c j)=false)/\Below w.heap.size w wr) (fun ix _=>c.length - (intOf ix).toNat)
 case atStart=>exact⟨0,yh _,rfl,fun j hj=>absurd hj (xR _),yF _ _⟩
 case round=>
  obtain⟨k,hk,rfl,al,hb⟩:=hrel;have a3:=AA al;clear al
  by_cases aq:k<c.length
  .have bj:(k:Int)<(c.length:Int):=by omega
   obtain⟨b,ad,rfl,a0,D0,D1,D2,D3⟩:=(HH.out.below hb).zN aq;have SE:Bj e p (AT c k)=(decide ((AT c k).e=e)&&decide ((AT c k).p=p)):=rfl;have FA:=AA (fun hp=>YN (e:=e) (p:=p) aq a3.out hp);have NE:=AA (fun hp=>Aj a3.out (show Bj e p (AT c k)=false from hp));rw[SE] at FA NE;clear SE;generalize AT c k=x at D0 D1 D2 D3 FA NE
   by_cases h1:x.e=e
   .have t1:(x.e==e)=true:=by simp[h1]
    by_cases h2:x.p=p
    .have t2:(x.p==p)=true:=by simp[h2]
     have S:=AA (FA.out (by simp[h1,h2]));clear FA NE h1 h2;go_wp2_with fail;go_ret;exact⟨Cn S.out.symm,hb⟩
    .have t2:(x.p==p)=false:=by simp[h2]
     have N:=AA (NE.out (by simp[h2]));clear FA NE h1 h2;go_wp2_with fail;go_roundw
     case rel=>exact⟨k+1,by omega,by go_num,N.out,hb⟩
     case measure=>simp[intOf];omega
   .have t1:(x.e==e)=false:=by simp[h1]
    have N:=AA (NE.out (by simp[h1]));clear FA NE h1;go_wp2_with fail;go_roundw
    case rel=>exact⟨k+1,by omega,by go_num,N.out,hb⟩
    case measure=>simp[intOf];omega
  .obtain rfl:k=c.length:=by omega
   have S:=AA (Wv a3.out);go_wp2_with fail;go_ret;exact⟨Cn S.out.symm,hb⟩
theorem XW {ss:List ByteArray} (h:k<ss.length):ss[k]? =some (DZ ss k):=IH h
theorem UM (v:Value) (ss:List ByteArray) (s:ByteArray) (w:World) (h:BP w v ss) (hs:DP ss) (hz:s.size<=maxLen) (hl:ss.length<=100):Calls prog 251 #[v, .string s] w fun r w'=>∃v',r= .returned v'/\AP w.heap.size 9 1 BB w' v' (DB ss s)/\Below w.heap.size w w':=by
 obtain⟨a,cp,rfl,hc,br,H⟩:=BJ.open Gp (by decide) h;unfold maxLen at br;have HH:=AA H;have HS:=AA (And.intro hs hz);have bA:=AD w (.cells #[] 9);have o1:=By BB w 9 1;clear h H hs hz;go_in;go_wp2_with fail;generalize w.alloc (.cells #[] 9)=wa at o1 bA ⊢;generalize(xB (some ⟨w.heap.size,0,none⟩) 0 0)=o at o1 ⊢;go_loopw [5,6] (fun o ix wr=>∃k:Nat,k<=ss.length/\ix= .int .i64 k/\AP w.heap.size 9 1 BB wr o ((ss.take k).filter (fun r=>!Ku s r))/\Below w.heap.size w wr) (fun _ ix _=>ss.length - (intOf ix).toNat)
 case atStart=>exact⟨0,yh _,rfl,o1,bA⟩
 case round=>
  clear o1 bA;obtain⟨k,hk,rfl,ac,hb⟩:=hrel
  by_cases aq:k<ss.length
  .have bj:(k:Int)<(ss.length:Int):=by omega
   obtain⟨b,ad,rfl,D⟩:=(HH.out.below hb).str aq;have C:=AA (Lv s (DZ ss k) wr HS.out.2 (HS.out.1 _ (yg (IH aq))));have Nx:=AA (Kw (p:=fun r=>!Ku s r) (XW aq));have cb:=Ih (p:=fun r=>!Ku s r) (l:=ss) (k:=k);generalize DZ ss k=x at D Nx C;generalize(ss.take k).filter (fun r=>!Ku s r)=ys at ac Nx cb;have a7:=AA ac;obtain⟨_,_,rfl,_⟩:=ac.rd.shape;clear ac;cases hp:!Ku s x
   .have bk:=AA (show(ss.take (k+1)).filter (fun r=>!Ku s r)=ys by rw[Nx.out,hp];simp)
    have Hp:=AA hp;clear hp Nx;go_wp2_with fail;refine C.out.mono ?_;rintro e w2 ⟨rfl,rfl⟩;rw[show Ku s x=!false by rw[<-Hp.out];simp];go_wp2_with fail;go_roundw
    case rel=>exact⟨k+1,by omega,by go_num,by rw[bk.out];exact a7.out,hb⟩
    case measure=>simp[intOf];omega
   .have bk:=AA (show(ss.take (k+1)).filter (fun r=>!Ku s r)=ys++[x] by rw[Nx.out,hp];simp)
    have Hp:=AA hp;clear hp Nx;go_wp2_with fail;refine C.out.mono ?_;rintro e w2 ⟨rfl,rfl⟩;rw[show Ku s x=!true by rw[<-Hp.out];simp];go_wp2_with (at_builtin;go_must (refine Be (lo:=w.heap.size) (n:=ys.length) (xs:=Ch BB ys) (m:=1) (news:=[.string x]) rfl rfl 9 (.string ⟨#[]⟩) 1 16 underlying60 Tryz.zL rfl (by decide) rfl (Co (a7.out) (AD _ _)) rfl (Rd.zE _ #[.string x] _ 1 1 _ rfl (by simp) (by simp[maxLen])) (by simp[xE]) (by unfold maxLen;omega) (by omega) (by have:=(hb).size;simp;omega) ?_;intro o' w9 k1 k2 k3 k4));go_roundw
    case rel=>exact⟨k+1,by omega,by go_num,by rw[bk.out];unfold AP;rw[Bl,El,yl];exact k1,((hb).alloc (hb).size _).trans k4⟩
    case measure=>simp[intOf];omega
  .obtain rfl:k=ss.length:=by omega
   rw[xt] at ac;go_wp2_with fail;go_ret;exact⟨_,rfl,ac,hb⟩
theorem FI {α:Type} {cs:α->List Value} {lo:Nat} {ops:Array Oper} {rest:List Oper} {o:Oper} {a:Act} {Q:Exit->Act->World->Prop} {s x:Operand} {t:TypeId}
 (dt:o.guard=none) (ho:o.op= .call {callee:= .builtin .append,args:= #[s,x],argTypes:= #[t,t]})
 (e:TypeId) (z:Value) (sz bytes:Nat) (ht:prog.underlying t=some (.slice e)) (hi:(prog.info? e).map (fun i=>(i.zero,i.size,i.bytes))=some (some z,sz,bytes))
 (eB:z.cells.size=sz) (dZ:0<sz) {v u:Value} {xs:List α} (hs:a.eval s=v) (ac:AP lo e sz cs w v ([]:List α))
 (hx:a.eval x=u) (hr:BJ sz cs w u xs) (h1:∀u∈Ch cs xs,u.oneCell'=true) (eZ:xs.length<=1048576) (ck:bytes<=1048576) (ch:lo<=w.heap.size)
 (hK:∀v' w',AP lo e sz cs w' v' xs->Below lo w w'->wpList prog ops Q rest (a.put o.dst v') w'):wpList prog ops Q (o::rest) a w:=by
 refine Be dt ho e z sz bytes ht hi eB dZ hs ac hx hr h1 ?_ ?_ ch fun v' w' k1 _ _ k4=>hK v' w' ?_ k4
 .unfold maxLen;simp only[wP];omega
 .simp only[wP]
  have h1:=Nat.mul_le_mul_right bytes (show 0+xs.length<=1048576 by omega);have h2:=Nat.mul_le_mul_left 1048576 ck;omega
 .unfold AP
  have:([]:List α).length+xs.length=xs.length:=by simp
  rw[this] at k1;exact k1
theorem Ev (xs:List AU):∀u∈Ch A2 xs,u.oneCell'=true:=by
 intro u hu;obtain⟨s,_,hs⟩:=wS.1 hu;simp[A2] at hs
 rcases hs with rfl|rfl|rfl<;>rfl
theorem Jf (xs:List Ak):∀u∈Ch Ae xs,u.oneCell'=true:=by
 intro u hu;obtain⟨s,_,hs⟩:=wS.1 hu;simp[Ae] at hs
 rcases hs with rfl|rfl|rfl|rfl<;>rfl
theorem Gk (xs:List ByteArray):∀u∈Ch BB xs,u.oneCell'=true:=by
 intro u hu;obtain⟨s,_,hs⟩:=wS.1 hu;simp[BB] at hs
 rcases hs with rfl<;>rfl
theorem Ye (v:Value) (m:List (List Int)) (f:Nat) (w:World) (h:Bc w v m) (hm:Bs m=true) (hf:f<12):Calls prog 283 #[v, .int .i64 f] w fun e w'=>e= .returned (.bool true)/\Below w.heap.size w w':=by have C:=IB v m w h;rw[hm] at C;have HC:=AA C;have E:Bd (f:Int) 0 11=true:=Ac.2 (by omega);have HE:=AA E;clear C h hm E;go_in;go_wp2_with fail;refine HC.out.mono ?_;rintro e w1 ⟨rfl,b1⟩;go_wp2_with fail;refine(Dx _ _).mono ?_;rintro e w2 ⟨rfl,rfl⟩;rw[HE.out];go_wp2_with fail;go_ret;exact⟨rfl,b1⟩
theorem Nw (v iv:Value) (m:List (List Int)) (xs:List AU) (f:Nat) (w:World) (h:Bc w v m) (hm:Bs m=true) (hI:BU w iv xs) (bf:BK xs=true) (hf:f<12):Calls prog 278 #[v,iv, .int .i64 f] w fun e w'=>e= .returned (.bool true)/\Below w.heap.size w w':=by
 have C1:=AA (Ye v m f w h hm hf);have C2:=AA (fun W (hW:Below w.heap.size w W)=>by have:=DK iv xs W (BJ.below hI hW) (Cb bf);rw[bf] at this;exact this);clear h hm hI bf;go_in;go_wp2_with fail;refine C1.out.mono ?_;rintro e w1 ⟨rfl,b1⟩;go_wp2_with fail;refine(C2.out _ b1).mono ?_;rintro e w2 ⟨rfl,b2⟩;go_wp2_with fail;go_ret;exact⟨rfl,b1.trans (b2.mono b1.size)⟩
theorem Pz (v:Value) (xs:List AU) (g:ByteArray) (f:Nat) (w:World) (h:BU w v xs) (au:BK xs=true) (hg:BN g=true) (eh:Am xs=(f:Int)) (hf:f<12):
 Calls prog 244 #[v, .string g] w fun e w'=>∃v',e= .returned (.tuple #[v', .int .i64 f, .bool true])/\AP w.heap.size 93 3 A2 w' v' (xs.set f ⟨1,g,0⟩)/\Below w.heap.size w w':=by
 have hl:=(A0.1 au).1;have c0:=Nv v xs w h;rw[eh] at c0;have C0:=AA c0;have eL:=Jo hg;have ee:g.size<=maxLen:=by unfold maxLen;omega
 have C1:=AA (fun W (hW:Below w.heap.size w W)=>by have:=DK v xs W (BJ.below h hW) (Cb au);rw[au] at this;exact this);have C2:=AA (fun W=>by have:=ED g W ee;rw[hg] at this;exact this);have HR:=AA (fun W (hW:Below w.heap.size w W)=>BJ.below h hW);obtain⟨a,c,rfl,hc,br⟩:=h.shape;have Hl:=AA hl;have dn:xs.length<=12:=by omega
 clear h au hg eh c0 ee eL hl;go_in;go_wp2_with fail;refine C0.out.mono ?_;rintro e w0 ⟨rfl,b0⟩;go_wp2_with fail;refine(C1.out _ b0).mono ?_;rintro e w1 ⟨rfl,b1⟩;have bw:=b0.trans (b1.mono b0.size);go_wp2_with fail;refine(C2.out _).mono ?_;rintro e w1 ⟨rfl,rfl⟩;have bl:=AA bw;go_wp2_with (at_builtin;go_must (refine FI (cs:=A2) rfl rfl 93 (.agg #[.int .i64 0, .string ⟨#[]⟩, .int .i64 0]) 3 32 underlying24 Tryz.zG rfl (by decide) rfl (By A2 _ _ _) rfl (HR.out _ (bw.trans ((AD _ _).mono bw.size))) (Ev _) (by omega) (by decide) (by simp) ?_;intro v' w9 hO a4));have a5:=(bl.out.trans ((AD _ _).mono bl.out.size)).trans (a4.mono bl.out.size);obtain⟨q,bB,rfl,c1,c2,q1,q2,b6⟩:=hO.zO (by have:=Hl.out;omega);have hS:=AA (AP.stored Az hO (show f<xs.length by have:=Hl.out;omega) ⟨1,g,0⟩);obtain⟨d0,d1,d2⟩:=AP.zR hO (show f<xs.length by have:=Hl.out;omega);have hB:=AA (AM a5 hS.out.2 (yD bl.out.size q1) a5.size);have ch:=bl.out.size;have b7:(f:Int)<xs.length:=by have:=Hl.out;omega
 unfold maxLen at c2;have cB:¬(f:Int)<0:=by omega
 clear hO a4 bw b0 b1 a5 dn;go_wp2_with fail;go_ret3;exact⟨_,rfl,hS.out.1.lower ch,hB.out⟩
theorem Py (v:Value) (xs:List AU) (f:Nat) (w:World) (h:BU w v xs) (au:BK xs=true) (hf:f<12) (hk:(zU xs f).k=1) (hr:(zU xs f).r=0):
 Calls prog 246 #[v, .int .i64 f] w fun e w'=>∃v',e= .returned (.tuple #[v', .bool true])/\AP w.heap.size 93 3 A2 w' v' (xs.set f AU.zero)/\Below w.heap.size w w':=by
 have hl:=(A0.1 au).1;have C1:=AA (fun W (hW:Below w.heap.size w W)=>by have:=DK v xs W (BJ.below h hW) (Cb au);rw[au] at this;exact this);have HE:=AA (show Bd (f:Int) 0 11=true from Ac.2 (by omega));have HR:=AA (fun W (hW:Below w.heap.size w W)=>BJ.below h hW);obtain⟨ai,ci,rfl,dw,cj,H2⟩:=BJ.open Az (by decide) h;obtain⟨bi,ab,rfl,a6,D0,_,D2⟩:=H2.zR (show f<xs.length by omega);have b7:(f:Int)<xs.length:=by omega
 have t1:((zU xs f).k !=1)=false:=by simp[hk]
 have t2:¬0<(zU xs f).r:=by omega
 have Hl:=AA hl;have hb:=yF w.heap.size w;clear h au hk hr H2 hl;go_in;go_wp2_with fail;refine(C1.out _ hb).mono ?_;rintro e w_ ⟨rfl,bz⟩;replace hb:=hb.trans (bz.mono hb.size);clear bz;go_wp2_with fail;refine(Dx _ _).mono ?_;rintro e w2 ⟨rfl,rfl⟩;rw[HE.out];replace D0:=(hb.cell (p:=⟨bi,ab+f*3,none⟩) a6).trans D0;replace D2:=(hb.cell (p:=⟨bi,ab+f*3+2,none⟩) a6).trans D2;have bl:=AA hb;go_wp2_with (at_builtin;go_must (refine FI (cs:=A2) rfl rfl 93 (.agg #[.int .i64 0, .string ⟨#[]⟩, .int .i64 0]) 3 32 underlying24 Tryz.zG rfl (by decide) rfl (By A2 _ _ _) rfl (HR.out _ (bl.out.trans ((AD _ _).mono bl.out.size))) (Ev _) (by have:=Hl.out;omega) (by decide) (by simp) ?_;intro v' w9 hO a4));have a5:=(bl.out.trans ((AD _ _).mono bl.out.size)).trans (a4.mono bl.out.size);obtain⟨q,bB,rfl,c1,c2,q1,q2,b6⟩:=hO.zO (by have:=Hl.out;omega);have hS:=AA (AP.stored Az hO (show f<xs.length by have:=Hl.out;omega) AU.zero);obtain⟨d0,d1,d2⟩:=AP.zR hO (show f<xs.length by have:=Hl.out;omega);have hB:=AA (AM a5 hS.out.2 (yD bl.out.size q1) a5.size);have ch:=bl.out.size;unfold maxLen at c2;have cB:¬(f:Int)<0:=by omega
 clear hO a4 a5 hb D0 D2;go_wp2_with fail;go_ret2;exact⟨_,rfl,hS.out.1.lower ch,hB.out⟩
theorem Qn (v:Value) (xs:List AU) (f:Nat) (w:World) (h:BU w v xs) (au:BK xs=true) (hf:f<12) (hk:(zU xs f).k=1) (hr:(zU xs f).r≠0):
 Calls prog 246 #[v, .int .i64 f] w fun e w'=>∃v',e= .returned (.tuple #[v', .bool false])/\Below w.heap.size w w':=by
 have hl:=(A0.1 au).1;have ca:=(Gw ((A0.1 au).2 f hf)).2.1;have C1:=AA (fun W (hW:Below w.heap.size w W)=>by have:=DK v xs W (BJ.below h hW) (Cb au);rw[au] at this;exact this);have HE:=AA (show Bd (f:Int) 0 11=true from Ac.2 (by omega));obtain⟨ai,ci,rfl,dw,cj,H2⟩:=BJ.open Az (by decide) h;obtain⟨bi,ab,rfl,a6,D0,_,D2⟩:=H2.zR (show f<xs.length by omega);have b7:(f:Int)<xs.length:=by omega
 have t1:((zU xs f).k !=1)=false:=by simp[hk]
 have t2:0<(zU xs f).r:=by omega
 have hb:=yF w.heap.size w;clear h au hk hr H2 hl ca;go_in;go_wp2_with fail;refine(C1.out _ hb).mono ?_;rintro e w_ ⟨rfl,bz⟩;replace hb:=hb.trans (bz.mono hb.size);clear bz;go_wp2_with fail;refine(Dx _ _).mono ?_;rintro e w2 ⟨rfl,rfl⟩;rw[HE.out];replace D0:=(hb.cell (p:=⟨bi,ab+f*3,none⟩) a6).trans D0;replace D2:=(hb.cell (p:=⟨bi,ab+f*3+2,none⟩) a6).trans D2;go_wp2_with fail;go_ret2;exact⟨_,rfl,hb.alloc hb.size _⟩
theorem Sn (v rv:Value) (xs:List AU) (f:Nat) (x kind:Int) (ss:List ByteArray) (w:World) (h:BU w v xs) (hl:xs.length=12) (hI:Hz xs) (hv:BP w rv ss) (hs:DP ss) (hx:x<=9223372036854775807) (hk:2<=kind/\kind<=3):
 Calls prog 177 #[v, .int .i64 f, .int .i64 x, .int .i64 kind,rv] w fun e w'=>e= .returned (.bool (FJ xs f kind ss x))/\Below w.heap.size w w':=by
 cases hg:Bf x
 .have V:=AA (Eb hg)
  have G:=AA (show FJ xs f kind ss x=(x==0) by simp only[FJ,hg];rw[wF];simp);obtain⟨_,_,rfl,_⟩:=h.shape;obtain⟨_,_,rfl,_⟩:=hv.shape;clear hg h hl hI hv hs;go_in;go_wp2_with (go_at_call 179;refine(Cx _ _ hx).mono ?_;rintro e w' ⟨rfl,rfl⟩;rw[V.out]);go_ret;exact⟨AI G.out.symm,yF _ _⟩
 .have V:=AA (ER hg)
  have hF:=EH hg;have G:=RT (Os:=xs) (f:=f) (kind:=kind) (ss:=ss) hg;have di:A8 x<xs.length:=by omega
  have HC:=AA (KH rv ss (zU xs (A8 x)).g w hv hs (hI _ (yg (Ci di))));obtain⟨a,c,rfl,_,_,H⟩:=BJ.open Az (by decide) h;obtain⟨b,ad,rfl,a0,D0,D1,_⟩:=H.zR di;obtain⟨_,_,rfl,_⟩:=hv.shape;generalize A8 x=o at*;generalize Bv ss (zU xs o).g=mb at HC G;have ea:(o:Int)<xs.length:=by omega
  clear hg h hl hI hv hs H di hF
  by_cases e1:o=f
  .have t1:((o:Int) !=(f:Int))=false:=by simp[e1]
   have R:=AA (show FJ xs f kind ss x=false by rw[G];simp[e1]);clear G e1;go_in;go_wp2_with (go_at_call 179;refine(Cx _ _ hx).mono ?_;rintro e w' ⟨rfl,rfl⟩;rw[V.out]);go_ret;exact⟨AI R.out.symm,yF _ _⟩
  .have t1:((o:Int) !=(f:Int))=true:=by simp;omega
   by_cases e2:(zU xs o).k=kind - 1
   .have t2:((zU xs o).k==kind - 1)=true:=by simp[e2]
    have R:=AA (show FJ xs f kind ss x=mb by rw[G];simp[e1,e2]);clear G e1 e2;go_in;go_wp2_with (go_at_call 179;refine(Cx _ _ hx).mono ?_;rintro e w' ⟨rfl,rfl⟩;rw[V.out]);refine HC.out.mono ?_;rintro e w2 ⟨rfl,b2⟩;go_wp2_with fail;go_ret;exact⟨AI R.out.symm,b2⟩
   .have t2:((zU xs o).k==kind - 1)=false:=by simp[e2]
    have R:=AA (show FJ xs f kind ss x=false by rw[G];simp[e2]);clear G e1 e2;go_in;go_wp2_with (go_at_call 179;refine(Cx _ _ hx).mono ?_;rintro e w' ⟨rfl,rfl⟩;rw[V.out]);go_ret;exact⟨AI R.out.symm,yF _ _⟩
theorem WN {m:List (List Int)} (hm:Bs m=true) {f:Nat} (hf:f<12) {k:Nat} (hk:k<4):(AH m f)[k]? =some (As m f k):=by have:=(A5.1 ((Ah.1 hm).2 f hf)).1;unfold As;exact A1 (by omega)
theorem aV {m:List (List Int)} (hm:Bs m=true) {f:Nat} (hf:f<12) {k:Nat} (hk:k<4):As m f k<=9223372036854775807:=by obtain⟨h4,hw⟩:=A5.1 ((Ah.1 hm).2 f hf);have:=(hw _ (yg (WN hm hf hk))).2;omega
theorem RU (v iv rv:Value) (m:List (List Int)) (xs:List AU) (f:Nat) (kind:Int) (ss:List ByteArray) (w:World) (h:Bc w v m) (hm:Bs m=true) (hI:BU w iv xs) (hl:xs.length=12) (cI:Hz xs) (hf:f<12) (hk:Bb kind=true) (hv:BP w rv ss) (hs:DP ss):
 Calls prog 148 #[v,iv, .int .i64 f, .int .i64 kind,rv] w fun e w'=>e= .returned (.bool (Im m xs f kind ss))/\Below w.heap.size w w':=by
 have dp:2<=kind/\kind<=3:=by simp only[Bb,xv,decide_eq_true_eq] at hk;omega
 have CE:=AA (fun(x:Int) (hx:x<=9223372036854775807) W (hW:Below w.heap.size w W)=>Sn iv rv xs f x kind ss W (BJ.below hI hW) hl cI (BJ.below hv hW) hs hx dp);have Hm:=AA hm;have eq:=AA (A5.1 ((Ah.1 hm).2 f hf)).1;have cf:=(Ah.1 hm).1;obtain⟨a,c,rfl,_,_,H⟩:=h.open;obtain⟨_,_,rfl,_⟩:=hI.shape;obtain⟨_,_,rfl,_⟩:=hv.shape;have HH:=AA H;have b7:(f:Int)<m.length:=by omega
 clear h hm hI hl cI hk hv hs dp cf H;go_in;go_wp2_with fail;go_loopw [11] (fun ix wr=>∃k:Nat,k<=4/\ix= .int .i64 k/\(∀j,j<k->FJ xs f kind ss (As m f j)=true)/\Below w.heap.size w wr) (fun ix _=>4 - (intOf ix).toNat)
 case atStart=>exact⟨0,yh _,rfl,fun j hj=>absurd hj (xR _),yF _ _⟩
 case round=>
  obtain⟨k,hk,rfl,al,hb⟩:=hrel;have a3:=AA al;clear al
  by_cases aq:k<4
  .have bj:(k:Int)<(4:Int):=by omega
   obtain⟨b,ad,b2,eA,c2,rfl,a0,D,eV,eS,W0⟩:=(HH.out.below hb).row4 Hm.out hf;have D2:=W0 k aq;have C:=AA (CE.out (As m f k) (aV Hm.out hf aq) wr hb);clear W0;cases hp:FJ xs f kind ss (As m f k)
   .have S:=AA (show Im m xs f kind ss=false from If (WN Hm.out hf aq) hp)
    have Hp:=AA hp;clear hp;go_wp2_with fail;refine C.out.mono ?_;rintro e w2 ⟨rfl,b2⟩;rw[Hp.out];go_wp2_with fail;go_ret;exact⟨AI S.out.symm,hb.trans (b2.mono hb.size)⟩
   .have Hp:=AA hp
    clear hp;go_wp2_with fail;refine C.out.mono ?_;rintro e w2 ⟨rfl,b2⟩;rw[Hp.out];go_wp2_with fail;go_roundw
    case rel=>exact⟨k+1,by omega,by go_num,Aj a3.out Hp.out,hb.trans (b2.mono hb.size)⟩
    case measure=>simp[intOf];omega
  .have ek:k=4:=by omega
   have al:=a3.out;rw[ek] at al;have S:=AA (show Im m xs f kind ss=true from Jc (f:=As m f) (fun k hk=>WN Hm.out hf (by have:=eq.out;omega)) (fun j hj=>al j (by have:=eq.out;omega)));clear a3 al;go_wp2_with fail;go_ret;exact⟨AI S.out.symm,hb⟩
theorem V0 {Os:List AU} {fs:List Nat} {n:Int} {j:Nat} (hj:j<fs.length):Bg Os (fs.take (j+1)) n=(Bg Os (fs.take j) n).set (Hh fs j) (JJ n (zU (Bg Os (fs.take j) n) (Hh fs j))):=by unfold Bg;rw[Cw (Fv hj),List.foldl_append];exact KM
theorem GD {p:Nat->Bool} (hk:k<n) (h:p k=false):(yE n).all p=false:=by rw[List.all_eq_false];exact⟨k,yj.2 hk,by rw[h];decide⟩
theorem Md (x:Ak) (w:World):Calls prog 142 #[.agg #[.int .i64 x.e, .int .i64 x.p, .int .i64 x.f, .bool x.w]] w fun e w'=>e= .returned (.bool (CU x))/\Below w.heap.size w w':=by
 have N0:=yw w (.cells #[.int .i64 x.e, .int .i64 x.p, .int .i64 x.f, .bool x.w] 98);have ar:=AD w (.cells #[.int .i64 x.e, .int .i64 x.p, .int .i64 x.f, .bool x.w] 98);obtain⟨x0,x1,x2,_⟩:=AF N0;have E:CU x=(Bd x.e 0 2&&Bd x.p 0 15&&Bd x.f 0 11):=rfl;have HE:=AA E;clear E N0;go_in;go_wp2_with fail;generalize w.alloc _=W0 at*;refine(JC _ _).mono ?_;rintro r w1 ⟨rfl,rfl⟩;cases h1:Bd x.e 0 2
 .have S:=AA (show CU x=false by rw[HE.out,h1];rfl)
  clear h1;go_wp2_with fail;go_ret;exact⟨AI S.out.symm,ar⟩
 .rw[h1] at HE
  clear h1;go_wp2_with fail;refine(Cv _ _ _ _).mono ?_;rintro r w1 ⟨rfl,rfl⟩;cases h2:Bd x.p 0 15
  .have S:=AA (show CU x=false by rw[HE.out,h2];rfl)
   clear h2;go_wp2_with fail;go_ret;exact⟨AI S.out.symm,ar⟩
  .rw[h2] at HE
   have S:=AA (show CU x=Bd x.f 0 11 by rw[HE.out];simp);clear h2;go_wp2_with fail;refine(Dx _ _).mono ?_;rintro r w1 ⟨rfl,rfl⟩;go_wp2_with fail;go_ret;exact⟨AI S.out.symm,ar⟩
theorem Xm {c:List Ak} (hk:k<c.length):Ct c k=(CU (AT c k)&&!decide (Hj c (AT c k).e (AT c k).p<(k:Int))):=by
 unfold Ct
 congr 1
 congr 1
 have cd:Bj (AT c k).e (AT c k).p (AT c k)=true:=by simp[Bj]
 rw[wF,decide_eq_true_eq,List.any_eq_true];unfold Hj;rw[if_pos (NM (Ej hk) cd)];have b7:c.findIdx (Bj (AT c k).e (AT c k).p)<c.length:=List.findIdx_lt_length.2 ⟨_,yg (Ej hk),cd⟩;constructor
 .rintro⟨x,hx,hp⟩
  obtain⟨j,hj⟩:=List.getElem?_of_mem hx;have eJ:j<k:=by have:=(List.getElem?_eq_some_iff.1 hj).1;rw[xW] at this;omega
  rw[List.getElem?_take,if_pos eJ] at hj;have:c.findIdx (Bj (AT c k).e (AT c k).p)<=j:=by
   rcases Nat.lt_or_ge j (c.findIdx (Bj (AT c k).e (AT c k).p)) with h|h
   .have hn:=List.not_of_lt_findIdx h
    have e:c[j]'(by omega)=x:=by have h2:=yx (l:=c) (i:=j) (by omega);rw[h2] at hj;exact yH hj
    rw[e] at hn;rw[hp] at hn;cases hn
   .exact h
  omega
 .intro h
  refine⟨c[c.findIdx (Bj (AT c k).e (AT c k).p)],?_,List.findIdx_getElem⟩;rw[List.mem_take_iff_getElem];exact⟨_,by omega,rfl⟩
theorem Ii (v:Value) (c:List Ak) (w:World) (h:Dt w v c):Calls prog 91 #[v] w fun e w'=>e= .returned (.bool (BQ c))/\Below w.heap.size w w':=by
 have HV:=AA h;obtain⟨a,cp,rfl,hc,br,H⟩:=BJ.open Cg (by decide) h;unfold maxLen at br;have HH:=AA H;clear h H;go_in;go_wp2_with fail;go_loopw [3] (fun ix wr=>∃k:Nat,k<=c.length/\ix= .int .i64 k/\(∀j,j<k->Ct c j=true)/\Below w.heap.size w wr) (fun ix _=>c.length - (intOf ix).toNat)
 case atStart=>exact⟨0,yh _,rfl,fun j hj=>absurd hj (xR _),yF _ _⟩
 case round=>
  obtain⟨k,hk,rfl,al,hb⟩:=hrel;have a3:=AA al;clear al
  by_cases aq:k<c.length
  .have bj:(k:Int)<(c.length:Int):=by omega
   have fk:=AA (BJ.below HV.out hb);obtain⟨b,ad,rfl,dA,D0,D1,D2,D3⟩:=(HH.out.below hb).zN aq;have a0:=yC _ _ D0;have SF:=Xm aq;have cG:=fun W (hW:Below wr.heap.size wr W)=>Md (AT c k) W
   have CF:=AA (fun W (hW:Below wr.heap.size wr W)=>PU _ c (AT c k).e (AT c k).p W (BJ.below fk.out hW));generalize Hj c (AT c k).e (AT c k).p=fd at SF CF;clear dA;cases h1:CU (AT c k)
   .rw[h1] at cG
    have CA:=AA cG;rw[h1] at SF;clear cG h1;have bX:Ct c k=false:=by rw[SF];rfl
    clear SF;have S:=AA (show BQ c=false by unfold BQ;rw[GD aq bX];rfl);go_wp2_with fail;refine Aa 21 35 [.v (.slice (some ⟨b,ad,none⟩) c.length cp), .i ((k:Int)), .p b (ad+k*4), .a #[.int .i64 ((AT c k).e), .int .i64 ((AT c k).p), .int .i64 ((AT c k).f), .bool (AT c k).w], .b false, .b true, .b true, .u, .u, .u, .u, .u, .u, .u, .u, .u, .u, .u, .u, .u, .u] (fun _ _ _=>True) ?_ ?_
    .intro i hi o ho a wx Hb Hd hG K HK
     have bb:=bc hG a0 D0;have ba:=bc hG a0 D1;have bh:=bc hG a0 D2;have bu:=bc hG a0 D3
     match i,hi with
     |0,_|1,_|5,_|6,_=>exact sP ho HK Hb Hd
     |2,_=>exact sI ho HK Hb Hd (hr:=by clear Hd Hb HK;go_simp)
     |3,_=>exact sL ho HK Hb Hd (hl:=Yg ‹_› ‹_› ‹_› ‹_›)
     |4,_=>exact sD ho HK Hb Hd (CA.out _ hG)
     |7,_|8,_|9,_|10,_|11,_|12,_|13,_|14,_|15,_|16,_|17,_|18,_|19,_|20,_=>exact sB ho HK Hd
     |_+21,hq=>omega
    .intro vs wx hR hG
     have q6:(vs 6)= .bool true:=BZ hR 6;clear hR;simp only[Al,AV,yE,yB,yA,yy,q6];simp;clear q6;have bY:=hb.trans (hG.mono hb.size);clear hG D0 D1 D2 D3;go_wp2_with fail;go_ret;exact⟨AI S.out.symm,bY⟩
   .rw[h1] at cG
    have CA:=AA cG;rw[h1] at SF;clear cG h1
    by_cases h2:fd<(k:Int)
    .have bX:Ct c k=false:=by rw[SF];simp[h2]
     clear SF;have S:=AA (show BQ c=false by unfold BQ;rw[GD aq bX];rfl);go_wp2_with fail;refine Aa 21 35 [.v (.slice (some ⟨b,ad,none⟩) c.length cp), .i ((k:Int)), .p b (ad+k*4), .a #[.int .i64 ((AT c k).e), .int .i64 ((AT c k).p), .int .i64 ((AT c k).f), .bool (AT c k).w], .b true, .b false, .b false, .v (.slice (some ⟨b,ad,none⟩) c.length cp), .v (.slice (some ⟨b,ad,none⟩) c.length cp), .i ((k:Int)), .p b (ad+k*4), .p b (ad+k*4), .i ((AT c k).e), .v (.slice (some ⟨b,ad,none⟩) c.length cp), .i ((k:Int)), .p b (ad+k*4), .p b (ad+k*4+1), .i ((AT c k).p), .i fd, .i ((k:Int)), .b true] (fun _ _ _=>True) ?_ ?_
     .intro i hi o ho a wx Hb Hd hG K HK
      have bb:=bc hG a0 D0;have ba:=bc hG a0 D1;have bh:=bc hG a0 D2;have bu:=bc hG a0 D3
      match i,hi with
      |0,_|1,_|5,_|6,_|7,_|8,_|9,_|11,_|13,_|14,_|16,_|19,_=>exact sP ho HK Hb Hd
      |2,_|10,_|15,_=>exact sI ho HK Hb Hd (hr:=by clear Hd Hb HK;go_simp)
      |3,_=>exact sL ho HK Hb Hd (hl:=Yg ‹_› ‹_› ‹_› ‹_›)
      |4,_=>exact sD ho HK Hb Hd (CA.out _ hG)
      |12,_|17,_=>exact sL ho HK Hb Hd (hl:=Fo ‹_›)
      |18,_=>exact sD ho HK Hb Hd (CF.out _ hG)
      |20,_=>clear bb ba bh bu;obtain rfl:=yH ho;have dG:(a.tmps[28]?.getD undef)= .int .i64 fd:=BT Hd 18;have cq:(a.tmps[29]?.getD undef)= .int .i64 k:=BT Hd 19;have d6:(a.tmps[16]?.getD undef)= .bool false:=BT Hd 6;clear Hd Hb;refine AX.yes rfl rfl d6 ?_;go_simp;exact HK.out _ _ rfl (yF _ _)
      |_+21,hq=>omega
     .intro vs wx hR hG
      have q6:(vs 6)= .bool false:=BZ hR 6;have bV:(vs 20)= .bool true:=BZ hR 20;clear hR;simp only[Al,AV,yE,yB,yA,yy,q6,bV];simp;clear q6 bV;have bY:=hb.trans (hG.mono hb.size);clear hG D0 D1 D2 D3;go_wp2_with fail;go_ret;exact⟨AI S.out.symm,bY⟩
    .have au:Ct c k=true:=by rw[SF];simp[h2]
     clear SF;have S:=AA (au);go_wp2_with fail;refine Aa 21 35 [.v (.slice (some ⟨b,ad,none⟩) c.length cp), .i ((k:Int)), .p b (ad+k*4), .a #[.int .i64 ((AT c k).e), .int .i64 ((AT c k).p), .int .i64 ((AT c k).f), .bool (AT c k).w], .b true, .b false, .b false, .v (.slice (some ⟨b,ad,none⟩) c.length cp), .v (.slice (some ⟨b,ad,none⟩) c.length cp), .i ((k:Int)), .p b (ad+k*4), .p b (ad+k*4), .i ((AT c k).e), .v (.slice (some ⟨b,ad,none⟩) c.length cp), .i ((k:Int)), .p b (ad+k*4), .p b (ad+k*4+1), .i ((AT c k).p), .i fd, .i ((k:Int)), .b false] (fun _ _ _=>True) ?_ ?_
     .intro i hi o ho a wx Hb Hd hG K HK
      have bb:=bc hG a0 D0;have ba:=bc hG a0 D1;have bh:=bc hG a0 D2;have bu:=bc hG a0 D3
      match i,hi with
      |0,_|1,_|5,_|6,_|7,_|8,_|9,_|11,_|13,_|14,_|16,_|19,_=>exact sP ho HK Hb Hd
      |2,_|10,_|15,_=>exact sI ho HK Hb Hd (hr:=by clear Hd Hb HK;go_simp)
      |3,_=>exact sL ho HK Hb Hd (hl:=Yg ‹_› ‹_› ‹_› ‹_›)
      |4,_=>exact sD ho HK Hb Hd (CA.out _ hG)
      |12,_|17,_=>exact sL ho HK Hb Hd (hl:=Fo ‹_›)
      |18,_=>exact sD ho HK Hb Hd (CF.out _ hG)
      |20,_=>clear bb ba bh bu;obtain rfl:=yH ho;have dG:(a.tmps[28]?.getD undef)= .int .i64 fd:=BT Hd 18;have cq:(a.tmps[29]?.getD undef)= .int .i64 k:=BT Hd 19;have d6:(a.tmps[16]?.getD undef)= .bool false:=BT Hd 6;clear Hd Hb;refine AX.yes rfl rfl d6 ?_;go_simp;exact HK.out _ _ (congrArg Value.bool (decide_eq_false (by omega))) (yF _ _)
      |_+21,hq=>omega
     .intro vs wx hR hG
      have q6:(vs 6)= .bool false:=BZ hR 6;have bV:(vs 20)= .bool false:=BZ hR 20;clear hR;simp only[Al,AV,yE,yB,yA,yy,q6,bV];simp;clear q6 bV;have bY:=hb.trans (hG.mono hb.size);clear hG D0 D1 D2 D3;go_wp2_with fail;go_roundw
      case rel=>exact⟨k+1,by omega,by go_num,Aj a3.out S.out,bY⟩
      case measure=>simp[intOf];omega
  .have ek:k=c.length:=by omega
   have al:=a3.out;rw[ek] at al;have S:=AA (show BQ c=decide ((c.length:Int)<=4) by
    unfold BQ;have:(yE c.length).all (Ct c)=true:=yk.2 fun j hj=>al j (yj.1 hj)
    rw[this,Bool.true_and]
    by_cases h:c.length<=4
    .rw[decide_eq_true h,decide_eq_true (by omega:(c.length:Int)<=4)]
    .rw[decide_eq_false h,decide_eq_false (by omega:¬(c.length:Int)<=4)])
   clear a3 al;go_wp2_with fail;go_ret;exact⟨AI S.out.symm,hb⟩
theorem Lw (m i e c:Value) (k:AN) (w:World) (h:Bc w m k.mem) (hm:Bs k.mem=true) (hI:BU w i k.Os) (bf:BK k.Os=true):
 Calls prog 93 #[.agg #[m,i,e,c]] w fun r w'=>r= .returned (.bool ((yE 12).all (DY k)))/\Below w.heap.size w w':=by
 have N0:=yw w (.cells #[m,i,e,c] 28);have ar:=AD w (.cells #[m,i,e,c] 28);replace h:=h.below ar;replace hI:=BJ.below hI ar;obtain⟨am,cm,rfl,_⟩:=h.open;obtain⟨ai,ci,rfl,_,_,ew⟩:=BJ.open Az (by decide) hI;have ed:=(A0.1 bf).1;have cI:=Cb bf;generalize hnm:k.mem.length=nm at*;have Hl:=AA ed;have f3:=AA hnm;clear ed hnm;go_in;go_wp2_with fail;generalize w.alloc _=W0 at*;have HN:=AA N0;have HH:=AA ew;have HR:=AA h;have HI:=AA hI;have Hm:=AA hm;have Hs:=AA cI;have eH:=AY N0;clear h hI hm bf cI N0 ew;go_loopw [3] (fun ix wr=>∃f:Nat,f<=12/\ix= .int .i64 f/\(∀j,j<f->DY k j=true)/\Below W0.heap.size W0 wr) (fun ix _=>12 - (intOf ix).toNat)
 case atStart=>exact⟨0,yh _,rfl,fun j hj=>absurd hj (xR _),yF _ _⟩
 case round=>
  obtain⟨f,hf,rfl,al,hb⟩:=hrel;have a3:=AA al;clear al
  by_cases aq:f<12
  .have bj:(f:Int)<12:=by omega
   have b7:(f:Int)<k.Os.length:=by have:=Hl.out;omega
   obtain⟨x0,x1,_,_⟩:=AF (AC HN.out hb);have cN:w.heap.size<wr.heap.size:=Nat.lt_of_lt_of_le eH hb.size;obtain⟨bi,ab,rfl,dB,D0,_,_⟩:=(HH.out.below hb).zR (show f<k.Os.length by have:=Hl.out;omega);have a6:=yC _ _ D0;have cu:=fun W (hW:Below wr.heap.size wr W)=>BM (FT (zU k.Os f).k W)
   have TO:DY k f=(!Bb (zU k.Os f).k||Im k.mem k.Os f (zU k.Os f).k [⟨#[]⟩]):=rfl;clear dB;cases h1:Bb (zU k.Os f).k
   .rw[h1] at cu TO
    have CT:=AA cu;have au:DY k f=true:=by rw[TO];rfl
    clear cu TO h1;have S:=AA (au);go_wp2_with fail;refine Aa 21 31 [.p w.heap.size 1, .v (.slice (some ⟨bi,ab,none⟩) k.Os.length ci), .i ((f:Int)), .p bi (ab+f*3), .p bi (ab+f*3), .i ((zU k.Os f).k), .b false, .b false, .u, .u, .u, .u, .u, .u, .u, .u, .u, .u, .u, .u, .u] (fun _ _ _=>True) ?_ ?_
    .intro i hi o ho a wx Hb Hd hG K HK
     have bb:=bc hG cN x1;have ba:=bc hG a6 D0
     match i,hi with
     |0,_|2,_|4,_|7,_=>exact sP ho HK Hb Hd
     |1,_=>exact sL ho HK Hb Hd (hl:=GF ‹_›)
     |3,_=>exact sI ho HK Hb Hd (hr:=by clear Hd Hb HK;go_simp)
     |5,_=>exact sL ho HK Hb Hd (hl:=Fo ‹_›)
     |6,_=>exact sD ho HK Hb Hd (CT.out _ hG)
     |8,_|9,_|10,_|11,_|12,_|13,_|14,_|15,_|16,_|17,_|18,_|19,_|20,_=>exact sB ho HK Hd
     |_+21,hq=>omega
    .intro vs wx hR hG
     have q7:(vs 7)= .bool false:=BZ hR 7;clear hR;simp only[Al,AV,yE,yB,yA,yy,q7];simp;clear q7;have bY:=hb.trans (hG.mono hb.size);clear hG D0 x0 x1;go_wp2_with fail;go_roundw
     case rel=>exact⟨f+1,by omega,by go_num,Aj a3.out S.out,bY⟩
     case measure=>simp[intOf];omega
   .have cF:=fun W (hW:Below wr.heap.size wr W) v2 (h2:BP W v2 [⟨#[]⟩])=>RU _ _ v2 k.mem k.Os f (zU k.Os f).k [⟨#[]⟩] W ((HR.out.below hb).below hW) Hm.out (BJ.below (BJ.below HI.out hb) hW) Hl.out Hs.out aq h1 h2 (fun s hs=>by rw[List.mem_singleton] at hs;subst hs;exact yh _)
    rw[h1] at cu TO;have CT:=AA cu;cases h2:Im k.mem k.Os f (zU k.Os f).k [⟨#[]⟩]
    .rw[h2] at cF TO
     have CG:=AA cF;have bX:DY k f=false:=by rw[TO];rfl
     clear cu TO h1 h2 cF;have S:=AA (show(yE 12).all (DY k)=false from GD aq bX);go_wp2_with fail;refine BS 21 31 [.p w.heap.size 1, .v (.slice (some ⟨bi,ab,none⟩) k.Os.length ci), .i ((f:Int)), .p bi (ab+f*3), .p bi (ab+f*3), .i ((zU k.Os f).k), .b true, .b true, .p w.heap.size 0, .v (.slice am nm cm), .p w.heap.size 1, .v (.slice (some ⟨bi,ab,none⟩) k.Os.length ci), .i ((f:Int)), .p w.heap.size 1, .v (.slice (some ⟨bi,ab,none⟩) k.Os.length ci), .i ((f:Int)), .p bi (ab+f*3), .p bi (ab+f*3), .i ((zU k.Os f).k), .z, .b false] (fun ix vv ww=>match ix with
      |19=>BP ww vv [⟨#[]⟩]
      |_=>True) ?_ ?_ ?_
     .intro i hi o ho a wx Hb Hd hG K HK
      have bb:=bc hG cN x1;have ba:=bc hG a6 D0;have bh:=bc hG cN x0
      match i,hi with
      |0,_|2,_|4,_|7,_|8,_|10,_|12,_|13,_|15,_|17,_=>exact sP ho HK Hb Hd
      |1,_|11,_|14,_=>exact sL ho HK Hb Hd (hl:=GF ‹_›)
      |3,_|16,_=>exact sI ho HK Hb Hd (hr:=by clear Hd Hb HK;go_simp)
      |5,_|18,_=>exact sL ho HK Hb Hd (hl:=Fo ‹_›)
      |6,_=>exact sD ho HK Hb Hd (CT.out _ hG)
      |9,_=>exact sL ho HK Hb Hd (hl:=GM ‹_›)
      |19,_=>clear bb ba bh;obtain rfl:=yH ho;have d7:(a.tmps[15]?.getD undef)= .bool true:=BT Hd 7;clear Hd Hb;refine AX.yes rfl rfl d7 ?_;go_simp;exact HK.out _ _ (Rd.news _ #[.string ⟨#[]⟩] _ 1 1 rfl (by simp[maxLen])) (AD _ _)
      |20,_=>clear bb ba bh;obtain rfl:=yH ho;have d9:(a.tmps[17]?.getD undef)= .slice am nm cm:=BT Hd 9;have ep:(a.tmps[19]?.getD undef)= .slice (some ⟨bi,ab,none⟩) k.Os.length ci:=BT Hd 11;have eo:(a.tmps[20]?.getD undef)= .int .i64 f:=BT Hd 12;have dG:(a.tmps[26]?.getD undef)= .int .i64 ((zU k.Os f).k):=BT Hd 18;have cq:BP wx (a.tmps[27]?.getD undef) [⟨#[]⟩]:=BT Hd 19;have d7:(a.tmps[15]?.getD undef)= .bool true:=BT Hd 7;clear Hd Hb;generalize e27:a.tmps[27]?.getD undef=v2 at cq;have dT:=CG.out wx hG v2 cq;refine AX.yes rfl rfl d7 ?_;go_simp;refine dT.mono ?_;rintro e w_ ⟨rfl,a5⟩;exact HK.out _ _ rfl a5
      |_+21,hq=>omega
     .intro i hi vv wz dU cD hz
      match i,hi with
      |19,_=>exact(BJ.below hz cD)
      |0,_|1,_|2,_|3,_|4,_|5,_|6,_|7,_|8,_|9,_|10,_|11,_|12,_|13,_|14,_|15,_|16,_|17,_|18,_|20,_=>exact hz
      |_+21,hq=>omega
     .intro vs wx hR hG
      have q7:(vs 7)= .bool true:=BZ hR 7;have bV:(vs 20)= .bool false:=BZ hR 20;clear hR;simp only[Al,AV,yE,yB,yA,yy,q7,bV];simp;clear q7 bV;have bY:=hb.trans (hG.mono hb.size);clear hG D0 x0 x1;go_wp2_with fail;go_ret;exact⟨AI S.out.symm,ar.trans (bY.mono ar.size)⟩
    .rw[h2] at cF TO
     have CG:=AA cF;have au:DY k f=true:=by rw[TO];rfl
     clear cu TO h1 h2 cF;have S:=AA (au);go_wp2_with fail;refine BS 21 31 [.p w.heap.size 1, .v (.slice (some ⟨bi,ab,none⟩) k.Os.length ci), .i ((f:Int)), .p bi (ab+f*3), .p bi (ab+f*3), .i ((zU k.Os f).k), .b true, .b true, .p w.heap.size 0, .v (.slice am nm cm), .p w.heap.size 1, .v (.slice (some ⟨bi,ab,none⟩) k.Os.length ci), .i ((f:Int)), .p w.heap.size 1, .v (.slice (some ⟨bi,ab,none⟩) k.Os.length ci), .i ((f:Int)), .p bi (ab+f*3), .p bi (ab+f*3), .i ((zU k.Os f).k), .z, .b true] (fun ix vv ww=>match ix with
      |19=>BP ww vv [⟨#[]⟩]
      |_=>True) ?_ ?_ ?_
     .intro i hi o ho a wx Hb Hd hG K HK
      have bb:=bc hG cN x1;have ba:=bc hG a6 D0;have bh:=bc hG cN x0
      match i,hi with
      |0,_|2,_|4,_|7,_|8,_|10,_|12,_|13,_|15,_|17,_=>exact sP ho HK Hb Hd
      |1,_|11,_|14,_=>exact sL ho HK Hb Hd (hl:=GF ‹_›)
      |3,_|16,_=>exact sI ho HK Hb Hd (hr:=by clear Hd Hb HK;go_simp)
      |5,_|18,_=>exact sL ho HK Hb Hd (hl:=Fo ‹_›)
      |6,_=>exact sD ho HK Hb Hd (CT.out _ hG)
      |9,_=>exact sL ho HK Hb Hd (hl:=GM ‹_›)
      |19,_=>clear bb ba bh;obtain rfl:=yH ho;have d7:(a.tmps[15]?.getD undef)= .bool true:=BT Hd 7;clear Hd Hb;refine AX.yes rfl rfl d7 ?_;go_simp;exact HK.out _ _ (Rd.news _ #[.string ⟨#[]⟩] _ 1 1 rfl (by simp[maxLen])) (AD _ _)
      |20,_=>clear bb ba bh;obtain rfl:=yH ho;have d9:(a.tmps[17]?.getD undef)= .slice am nm cm:=BT Hd 9;have ep:(a.tmps[19]?.getD undef)= .slice (some ⟨bi,ab,none⟩) k.Os.length ci:=BT Hd 11;have eo:(a.tmps[20]?.getD undef)= .int .i64 f:=BT Hd 12;have dG:(a.tmps[26]?.getD undef)= .int .i64 ((zU k.Os f).k):=BT Hd 18;have cq:BP wx (a.tmps[27]?.getD undef) [⟨#[]⟩]:=BT Hd 19;have d7:(a.tmps[15]?.getD undef)= .bool true:=BT Hd 7;clear Hd Hb;generalize e27:a.tmps[27]?.getD undef=v2 at cq;have dT:=CG.out wx hG v2 cq;refine AX.yes rfl rfl d7 ?_;go_simp;refine dT.mono ?_;rintro e w_ ⟨rfl,a5⟩;exact HK.out _ _ rfl a5
      |_+21,hq=>omega
     .intro i hi vv wz dU cD hz
      match i,hi with
      |19,_=>exact(BJ.below hz cD)
      |0,_|1,_|2,_|3,_|4,_|5,_|6,_|7,_|8,_|9,_|10,_|11,_|12,_|13,_|14,_|15,_|16,_|17,_|18,_|20,_=>exact hz
      |_+21,hq=>omega
     .intro vs wx hR hG
      have q7:(vs 7)= .bool true:=BZ hR 7;have bV:(vs 20)= .bool true:=BZ hR 20;clear hR;simp only[Al,AV,yE,yB,yA,yy,q7,bV];simp;clear q7 bV;have bY:=hb.trans (hG.mono hb.size);clear hG D0 x0 x1;go_wp2_with fail;go_roundw
      case rel=>exact⟨f+1,by omega,by go_num,Aj a3.out S.out,bY⟩
      case measure=>simp[intOf];omega
  .have ek:f=12:=by omega
   have al:=a3.out;rw[ek] at al;have S:=AA (show(yE 12).all (DY k)=true from yk.2 fun j hj=>al j (yj.1 hj));clear a3 al;go_wp2_with fail;go_ret;exact⟨AI S.out.symm,ar.trans (hb.mono ar.size)⟩
def ZU (m:List (List Int)) (Os:List AU) (t i g:Nat):Nat:=
 ((yE t).map fun u=>if Bb (zU Os u).k then(named (AH m u)).count g else 0).sum+((named (AH m t)).take i).count g
def VI (m:List (List Int)) (Os:List AU) (t i:Nat):List Int:=(yE 12).map fun g=>(ZU m Os t i g:Int)
section
variable {m:List (List Int)} {Os:List AU} {t i g:Nat}
theorem MW:(VI m Os t i).length=12:=by simp[VI]
theorem Sb (h:g<12):nth (VI m Os t i) g=ZU m Os t i g:=by unfold VI nth;rw[xU,List.getElem?_map,List.getElem?_range h];rfl
theorem YF:VI m Os t 0=GX m Os t 0:=by simp[VI,ZU,GX,IP,named]
theorem YE (hi:i<(named (AH m t)).length):VI m Os t (i+1)=(VI m Os t i).set (Hh (named (AH m t)) i) (ZU m Os t i (Hh (named (AH m t)) i)+1):=by
 have hf:Hh (named (AH m t)) i<12:=FD (yg (Fv hi));refine LZ (by simp[VI]) fun g hg=>?_
 rw[MW] at hg;rw[Sz (by rw[MW];exact hf),Sb hg,Sb hg];unfold ZU;rw[Cw (Fv hi),List.count_append]
 by_cases e:g=Hh (named (AH m t)) i
 .subst e;simp;omega
 .rw[if_neg e,List.count_singleton]
  have:(Hh (named (AH m t)) i==g)=false:=by simp;exact fun h=>e h.symm
  rw[this];simp
theorem ZT (hk:Bb (zU Os t).k=true):VI m Os t (named (AH m t)).length=GX m Os (t+1) 0:=by unfold VI ZU GX IP;rw[xx (n:=t),xt];simp[hk,named]
theorem aD (hm:Bs m=true) (ht:t<=12):ZU m Os t i g<=100:=by
 have h1:=PC (Os:=Os) (g:=g) (j:=0) hm ht (by omega);have h2:((named (AH m t)).take i).count g<=4:=by
  have h3:=uN (a:=g) (l:=(named (AH m t)).take i);have h4:=FB (r:=AH m t);rw[xW] at h3;have h5:(AH m t).length<=4:=by
   rcases Nat.lt_or_ge t 12 with h|h
   .exact Nat.le_of_eq (A5.1 ((Ah.1 hm).2 t h)).1
   .have:AH m t=[]:=by unfold AH;rw[xU,List.getElem?_eq_none (by have:=(Ah.1 hm).1;omega)];rfl
    rw[this];simp
  omega
 unfold IP at h1;unfold ZU;simp[named] at h1;have:((yE t).map fun u=>if Bb (zU Os u).k then(named (AH m u)).count g else 0).sum<=4*t:=by
  clear h1 h2
  induction t with
  |zero=>simp
  |succ t ih=>
   have:=ih (by omega);rw[xx,List.map_append,List.sum_append];have h2:(if Bb (zU Os t).k then(named (AH m t)).count g else 0)<=4:=by
    split
    .have h3:=uN (a:=g) (l:=named (AH m t))
     have h4:=FB (r:=AH m t);have h5:=(A5.1 ((Ah.1 hm).2 t (by omega))).1;omega
    .omega
   simp only[List.map_cons,List.map_nil,List.sum_cons,List.sum_nil];omega
 omega
end
theorem Sm (v iv:Value) (m:List (List Int)) (Os:List AU) (w:World) (h:Bc w v m) (au:Bs m=true) (hI:BU w iv Os) (hl:Os.length=12):
 Calls prog 149 #[v,iv] w fun e w'=>∃v',e= .returned v'/\AG w.heap.size w' v' ((yE 12).map fun g=>(countP m Os g:Int))/\Below w.heap.size w w':=by
 obtain⟨q,c,rfl,hc,br,H0⟩:=h.open;obtain⟨a2,c2,rfl,eT,dv,H2⟩:=BJ.open Az (by decide) hI;have cf:=(Ah.1 au).1;unfold maxLen at br dv;rw[cf] at hc ⊢;rw[hl] at eT ⊢;have cT:=AA au;have HR:=AA H0;have HI:=AA H2;have Hl:=AA hl;clear h au H0 H2 cf hI hl;go_in;go_wp2_with (at_make;go_must (refine Of (n:=12) rfl rfl 3 (.int .i64 0) 8 underlying29 Tryz.zK rfl rfl (by omega) (by unfold maxLen;omega) ?_;intro w1 ac av dZ));have el:AG w.heap.size w1 (.slice (some ⟨w.heap.size,0,none⟩) 12 12) (GX m Os 0 0):=by unfold AG;rw[JM,Qz];exact ac
 have eM:w.heap.size<=w.heap.size:=yv _;have fv:=AA av;clear ac av;go_loopw [6,7,8] (fun i s7 s8 wr=>∃t:Nat,t<=12/\i= .int .i64 t/\AG w.heap.size wr (.slice (some ⟨w.heap.size,0,none⟩) 12 12) (GX m Os t 0)/\Below w.heap.size w wr) (fun i _ _ _=>12 - (intOf i).toNat)
 case atStart=>exact⟨0,yh _,rfl,el,fv.out⟩
 case round=>
  obtain⟨t,ht,rfl,hO,av⟩:=hrel;clear el
  by_cases aq:t<12
  .have bj:(t:Int)<12:=by omega
   obtain⟨bm,cH,u,rfl,dz,M0,hr⟩:=HR.out t (by rw[(Ah.1 cT.out).1];exact aq);have M:=(av.cell (p:=⟨bm,cH+t,none⟩) dz).trans M0;have cJ:=(A5.1 ((Ah.1 cT.out).2 _ aq)).1;have CN:=IU _ (AH m t) wr (Ax.below hr av) (by omega) (LR cT.out aq);have HO:=AA hO;have Hb:=AA av;have fO:=(yr HO.out w.heap.size rfl).2;obtain⟨wo,rfl⟩:∃wo:World,wo=wr:=⟨_,rfl⟩
   clear M0 hr hO;go_wp2_with fail;refine CN.mono ?_;rintro e w2 ⟨v2,rfl,O2,b2⟩;have a5:=Hb.out.trans (b2.mono Hb.out.size);have cb:=PY cT.out aq;obtain⟨an,cQ,rfl,du,eQ,HN⟩:=O2.rd.open;rw[Ca] at du ⊢;have dQ:=AA (AG.below HO.out b2);have ON:=AA O2;clear CN O2 av M;cases hk:Bb (zU Os t).k
   .have S:=AA (Qy (m:=m) hk)
    have HK:=AA hk;obtain⟨bi,ab,rfl,a6,D0,_,_⟩:=(HI.out.below a5).zR (show t<Os.length by rw[Hl.out];exact aq);clear hk;go_wp2_with fail;go_loopw [8] (fun s8 wi=>s8= .int .i64 0/\w2=wi) (fun _ _=>0)
    case atStart=>exact⟨rfl,rfl⟩
    case round=>
     obtain⟨rfl,rfl⟩:=hrel
     by_cases h0:0<(named (AH m t)).length
     focus
      have e3:(0:Int)<(named (AH m t)).length:=by omega
      go_wp2_with (go_at_call 147;refine(FT _ _).mono ?_;rintro e w' ⟨rfl,rfl⟩;rw[HK.out])
     rotate_left
     focus
      have e3:¬(0:Int)<(named (AH m t)).length:=by omega
      go_wp2_with fail
     rotate_left
     all_goals
      go_roundw
      case rel=>exact⟨t+1,by omega,by go_num,by rw[<-S.out];exact dQ.out,a5⟩
      case measure=>simp[intOf];omega
   .have S:=AA (ZT (m:=m) hk)
    have HK:=AA hk;have f4:=AA HN;have fl:Hid (AG w.heap.size w2 (.slice (some ⟨w.heap.size,0,none⟩) 12 12) (VI m Os t 0)):=AA (by rw[YF];exact dQ.out);have fu:=AA a5;generalize hns:(named (AH m t)).length=nl at*;have cU:=AA hns;clear hk a5 dQ HO HN hns;go_wp2_with fail;go_loopw [8] (fun s8 wi=>∃j:Nat,j<=nl/\s8= .int .i64 j/\AG w.heap.size wi (.slice (some ⟨w.heap.size,0,none⟩) 12 12) (VI m Os t j)/\AG wo.heap.size wi (.slice an nl cQ) (Ay (named (AH m t)))/\Below w.heap.size w wi) (fun s8 _=>nl - (intOf s8).toNat)
    case atStart=>exact⟨0,yh _,rfl,fl.out,by have:=ON.out;rwa [Ca,cU.out] at this,fu.out⟩
    case round=>
     obtain⟨j,hj,rfl,dE,c6,a6⟩:=hrel;obtain⟨bi,ab,rfl,eW,D0,_,_⟩:=(HI.out.below a6).zR (show t<Os.length by rw[Hl.out];exact aq)
     by_cases dr:j<nl
     .have eI:(j:Int)<(nl:Int):=by omega
      obtain⟨bn,bC,e1,DN⟩:=(show Ie wr an (Ay (named (AH m t))) from by obtain⟨x1,x2,ex,_,_,hx⟩:=c6.rd.open;rw[Ca,cU.out] at ex;simp only[xD] at ex;obtain⟨rfl,_,rfl⟩:=ex;exact hx).at (k:=j) (by rw[Ca,cU.out];exact dr)
      subst e1;rw[Ob] at DN;have E:=AA (YE (Os:=Os) (show j<(named (AH m t)).length by rw[cU.out];exact dr));have hF:Hh (named (AH m t)) j<12:=FD (yg (Fv (by rw[cU.out];exact dr)));have fU:=aD (Os:=Os) (i:=j) (g:=Hh (named (AH m t)) j) cT.out (Nat.le_of_lt aq);have cg:wr.ownsRow w.heap.size 3 1 (.slice (some ⟨w.heap.size,0,none⟩) 12 12) 12 ((VI m Os t j).map (yf .i64)):=by have:=dE;unfold AG at this;rwa [MW] at this
      have DC:=(cg.cellAt (Hh (named (AH m t)) j) (by omega)).trans (FQ (xs:=VI m Os t j) (by rw[MW];exact hF));rw[Sb hF] at DC;have ds:∀b,(xB (some ⟨bn,bC,none⟩) nl cQ).ownBlock=some b->b≠w.heap.size:=fun b hb=>by have:=(yr c6 b hb).1;omega
      have cX:=AA cg;have fn:=AA c6;generalize Hh (named (AH m t)) j=fr at*;generalize ZU m Os t j fr=cn at*;have eN:(fr:Int)<12:=by omega
      have eU:=yC _ _ DN;have ef:=yC _ _ DC;obtain⟨nc,hnc⟩:∃nc:Int,(cn:Int)+1=nc:=⟨_,rfl⟩
      have er:=AA hnc;have es:=AA a6;clear cg dE c6 hnc a6;go_wp2_with (go_at_call 147;refine(FT _ _).mono ?_;rintro e w' ⟨rfl,rfl⟩;rw[HK.out]);refine Aa 13 48 [.s w.heap.size 12 12, .v (.slice (some ⟨bn,bC,none⟩) nl cQ), .i ((j:Int)), .p bn (bC+j), .i ((fr:Int)), .s w.heap.size 12 12, .v (.slice (some ⟨bn,bC,none⟩) nl cQ), .i ((j:Int)), .p bn (bC+j), .i ((fr:Int)), .p w.heap.size fr, .i ((cn:Int)), .i nc] (fun _ _ _=>True) ?_ ?_
      .intro i hi o ho a wx Hb Hd hG K HK
       have bb:=bc hG eU DN;have ba:=bc hG ef DC
       match i,hi with
       |0,_|1,_|2,_|5,_|6,_|7,_=>exact sP ho HK Hb Hd
       |3,_|8,_|10,_=>exact sI ho HK Hb Hd (hr:=by clear Hd Hb HK;go_simp)
       |4,_|9,_|11,_=>exact sL ho HK Hb Hd (hl:=Fo ‹_›)
       |12,_=>clear bb ba;obtain rfl:=yH ho;have ep:(a.tmps[44]?.getD undef)= .int .i64 cn:=BT Hd 11;clear Hd Hb;refine yG ?_;go_simp;exact HK.out _ _ (by show yf .i64 (wR.wrap ((cn:Int)+1))= .int .i64 nc;rw[xy _ (by omega),er.out]) (yF _ _)
      .intro vs wx hR hG
       have q0:(vs 0)= .slice (some ⟨w.heap.size,0,none⟩) 12 12:=BZ hR 0;have q4:(vs 4)= .int .i64 fr:=BZ hR 4;have dX:(vs 12)= .int .i64 nc:=BZ hR 12;clear hR;simp only[Al,AV,yE,yB,yA,yy,q0,q4,dX];simp;clear q0 q4 dX;have O3:=Co cX.out hG;have Fr:=O3.frozenAt fr;have C2:=(hG.cell (p:=⟨w.heap.size,fr,none⟩) ef).trans DC;have S2:=AA (O3.stored fr (.int .i64 nc));have eu:=AG.below fn.out hG;have dS:=AA (Au eu (Aq wx w.heap.size fr (.int .i64 nc)) (by
        rcases hv:(xB (some ⟨bn,bC,none⟩) nl cQ).ownBlock with _|b
        .exact .inl rfl
        .exact .inr fun e=>ds b hv (yH e)))
       have ey:=AA (es.out.trans (hG.mono es.out.size));clear D0 DN DC hG O3 eu;go_wp2_with fail;go_roundw
       case rel=>refine⟨j+1,by omega,by go_num,?_,dS.out,AM ey.out S2.out.2 eM ey.out.size⟩;rw[E.out,er.out];unfold AG;rw[List.length_set,MW,List.map_set];exact S2.out.1
       case measure=>simp[intOf];omega
     .obtain rfl:j=nl:=by omega
      go_wp2_with fail;go_roundw
      case rel=>exact⟨t+1,by omega,by go_num,by rw[<-S.out];exact dE,a6⟩
      case measure=>simp[intOf];omega
  .obtain rfl:t=12:=by omega
   rw[Tr] at hO;go_wp2_with fail;go_ret;exact⟨_,rfl,hO,av⟩
theorem PQ (v iv:Value) (m:List (List Int)) (xs:List AU) (f:Nat) (n:Int) (w:World) (h:Bc w v m) (hm:Bs m=true) (hI:BU w iv xs) (bf:BK xs=true) (hf:f<12) (hn:n=1∨n= -1):
 Calls prog 279 #[v,iv, .int .i64 f, .int .i64 n] w fun e w'=>∃v',e= .returned v'/\AP w.heap.size 93 3 A2 w' v' (Bg xs (named (AH m f)) n)/\Below w.heap.size w w':=by
 have Hl:=AA (A0.1 bf).1;have cf:=(Ah.1 hm).1;have HR:=AA (fun W (hW:Below w.heap.size w W)=>BJ.below hI hW);have dN:=AA (fun W (hW:Below w.heap.size w W)=>h.below hW);have cJ:=(A5.1 ((Ah.1 hm).2 f hf)).1;have CN:=AA (fun u W hu=>IU u (AH m f) W hu (by omega) (LR hm hf));have h4:=PY hm hf;have fw:=AA (fun g (hg:g∈named (AH m f))=>FD hg);have fi:=AA bf;have Hn:=AA hn;have fJ: -1<=n/\n<=1:=by omega
 obtain⟨am,cm,rfl,_,_,_⟩:=h.open;obtain⟨ai,ci,rfl,_,_⟩:=hI.shape;have fP:(f:Int)<m.length:=by omega
 have b7:f<m.length:=by omega
 generalize named (AH m f)=fs at*;clear h hm hI bf hn cJ cf;go_in;go_wp2_with (at_builtin;go_must (refine FI (cs:=A2) rfl rfl 93 (.agg #[.int .i64 0, .string ⟨#[]⟩, .int .i64 0]) 3 32 underlying24 Tryz.zG rfl (by decide) rfl (By A2 _ _ _) rfl (HR.out _ (AD _ _)) (Ev _) (by have:=Hl.out;omega) (by decide) (by simp) ?_;intro v' w9 hO a4));have bw:=(AD w _).trans a4;obtain⟨q,bB,rfl,c1,c2,q1,q2,b6⟩:=hO.zO (by have:=Hl.out;omega);unfold maxLen at c2;have HO:=AA hO;have bl:=AA bw;obtain⟨a9,c9,e9,_,_,H9⟩:=(dN.out _ bw).open;simp only[xD] at e9;obtain⟨rfl,_,rfl⟩:=e9;obtain⟨b,ad,u,rfl,a0,D,hR⟩:=H9 f b7;have C:=AA (CN.out u w9 hR);obtain⟨_,_,rfl,_⟩:=hR.open;have cB:¬(f:Int)<0:=by omega
 clear hO a4 bw H9 hR CN b6;go_wp2_with fail;refine C.out.mono ?_;rintro e w1 ⟨v1,rfl,o1,b1⟩;obtain⟨a1,dH,rfl,fV⟩:=ET o1;have fm:=AA (HO.out.below b1);have fg:=AA o1;have fc:=AA (bl.out.trans (b1.mono bl.out.size));clear o1 b1 C D;go_wp2_with fail;go_loopw [11] (fun ix wr=>∃k:Nat,k<=fs.length/\ix= .int .i64 k/\AP w.heap.size 93 3 A2 wr (.slice (some ⟨q,0,none⟩) xs.length bB) (Bg xs (fs.take k) n)/\AG w9.heap.size wr (.slice a1 fs.length dH) (Ay fs)/\Below w.heap.size w wr) (fun ix _=>fs.length - (intOf ix).toNat)
 case atStart=>exact⟨0,yh _,rfl,by simpa[Bg] using fm.out,fg.out,fc.out⟩
 case round=>
  obtain⟨k,hk,rfl,hO,o1,hb⟩:=hrel
  by_cases aq:k<fs.length
  .have bj:(k:Int)<(fs.length:Int):=by omega
   obtain⟨a2,f2,e2,_,_,H1⟩:=(AG.rd o1).open;simp only[xD] at e2;obtain⟨rfl,e2,rfl⟩:=e2;clear e2;obtain⟨b1,b8,rfl,D⟩:=H1.at (k:=k) (by rw[Ca];exact aq);rw[Ob] at D;have dm:=(yr o1 b1 rfl).2;have ho:=fw.out _ (yg (Fv aq));have RN:=V0 (Os:=xs) (n:=n) aq;obtain⟨r1,r2,_⟩:=LG fi.out (fs:=fs.take k) (by rw[xW];omega) Hn.out ho;have c3:(Bg xs (fs.take k) n).length=xs.length:=Nf;rw[<-c3] at hO;generalize Bg xs (fs.take k) n=X at*;generalize Hh fs k=o at*;have dl:o<X.length:=by rw[c3,Hl.out];exact ho
   have ea:(o:Int)<xs.length:=by rw[Hl.out];omega
   have eD:¬(o:Int)<0:=by omega
   obtain⟨_,_,d2⟩:=AP.zR hO dl;have hq:=(yr hO q rfl).2;have db:=AA hO;have fe:=AA (Ci dl);have fh:=AA c3;have dO:=AA o1;have E:=AA RN;have Hb:=AA hb;clear RN hO o1 hb H1 c3 dl;go_wp2_with fail;refine Aa 17 44 [.s q xs.length bB, .v (.slice (some ⟨b1,b8,none⟩) fs.length dH), .i ((k:Int)), .p b1 (b8+k), .i ((o:Int)), .s q xs.length bB, .v (.slice (some ⟨b1,b8,none⟩) fs.length dH), .i ((k:Int)), .p b1 (b8+k), .i ((o:Int)), .p q (o*3), .p q (o*3+2), .i ((zU X o).r), .i n, .i ((zU X o).r+n), .p q (o*3), .p q (o*3+2)] (fun _ _ _=>True) ?_ ?_
   .intro i hi o ho a wx Hb Hd hG K HK
    have bb:=bc hG dm D;have ba:=bc hG hq d2
    match i,hi with
    |0,_|1,_|2,_|5,_|6,_|7,_|11,_|13,_|16,_=>exact sP ho HK Hb Hd
    |3,_|8,_|10,_|15,_=>exact sI ho HK Hb Hd (hr:=by clear Hd Hb HK;go_simp)
    |4,_|9,_|12,_=>exact sL ho HK Hb Hd (hl:=Fo ‹_›)
    |14,_=>clear bb ba;obtain rfl:=yH ho;have eo:(a.tmps[38]?.getD undef)= .int .i64 ((zU X o).r):=BT Hd 12;have em:(a.tmps[39]?.getD undef)= .int .i64 n:=BT Hd 13;clear Hd Hb;refine yG ?_;go_simp;exact HK.out _ _ (by show yf .i64 (wR.wrap _)=_;rw[xy _ (by omega)]) (yF _ _)
    |_+17,hq=>omega
   .intro vs wx hR hG
    have dW:(vs 14)= .int .i64 ((zU X o).r+n):=BZ hR 14;have bW:(vs 16)= .pointer (some ⟨q,o*3+2,none⟩):=BZ hR 16;clear hR;simp only[Al,AV,yE,yB,yA,yy,dW,bW];simp;clear dW bW;have c7:=AA (AP.zz Az (db.out.below hG) fe.out (j:=2) (by decide) (y:=JJ n (zU X o)) (u:= .int .i64 ((zU X o).r+n)) rfl);have ei:=AA (Hb.out.trans (hG.mono Hb.out.size));have Fw:wx.frozen? ⟨q,o*3+2,none⟩=false:=World.ownsRow.frozenAt (db.out.below hG) (o*3+2);obtain⟨f1,cO⟩:=A6 (db.out.below hG) q rfl;have N2:=AA (Eo (dO.out.below hG) c7.out.2 cO);have fH:q<wx.heap.size:=(yr (db.out.below hG) q rfl).2;rw[fh.out] at c7;have f0:=(hG.cell (p:=⟨q,o*3+2,none⟩) hq).trans d2;clear hG cO d2 D;go_wp2_with fail;go_roundw
    case rel=>exact⟨k+1,by omega,by go_num,by rw[E.out];exact c7.out.1,N2.out,AM ei.out c7.out.2 q1 ei.out.size⟩
    case measure=>simp[intOf];omega
  .obtain rfl:k=fs.length:=by omega
   rw[xt] at hO;go_wp2_with fail;go_ret;exact⟨_,rfl,hO,hb⟩
theorem PK {xs:List AU} {f:Nat} {kind:Int} (h:BK xs=true) (hf:f<12) (ec:(zU xs f).k≠0) (hk:1<=kind/\kind<=3):BK (Ar xs f (EJ kind))=true:=by
 obtain⟨hl,h2⟩:=A0.1 h;refine A0.2 ⟨by rw[Cy];exact hl,fun g hg=>?_⟩;rw[FR]
 split
 .have:=h2 f hf
  rw[MJ ec] at this;rw[MJ (x:=EJ kind _) (by show kind≠0;omega)]
  show(Bd kind 1 3&&BN (zU xs f).g&&Bd (zU xs f).r 0 50)=true
  simp only[Bool.and_eq_true] at this ⊢;exact⟨⟨Ac.2 hk,this.1.2⟩,this.2⟩
 .exact h2 g hg
theorem Qo (v iv rv:Value) (m:List (List Int)) (xs:List AU) (f:Nat) (kind:Int) (ss:List ByteArray) (w:World) (h:Bc w v m) (au:Bs m=true) (hI:BU w iv xs) (bf:BK xs=true) (hf:f<12) (hk:Bb kind=true) (hv:BP w rv ss) (dj:DP ss) (hr:BO ss=true):
 Calls prog 267 #[v,iv, .int .i64 f, .int .i64 kind,rv] w (U8 (Gz m xs f kind ss) w):=by
 have hl:=(A0.1 bf).1;have dp:2<=kind/\kind<=3:=by simp only[Bb,xv,decide_eq_true_eq] at hk;omega
 have ca:=(Gw ((A0.1 bf).2 f hf)).2.1;have C1:=AA (fun W (hW:Below w.heap.size w W)=>Nw v iv m xs f W (h.below hW) au (BJ.below hI hW) bf hf);have C3:=AA (fun W (_:Below w.heap.size w W)=>BM (by have:=FT kind W;rw[hk] at this;exact this));have C4:=AA (fun W (hW:Below w.heap.size w W)=>by have:=GC rv ss W (BJ.below hv hW) dj;rw[hr] at this;exact this);have C7:=AA (fun W (hW:Below w.heap.size w W)=>RU v iv rv m xs f kind ss W (h.below hW) au (BJ.below hI hW) hl (Cb bf) hf hk (BJ.below hv hW) dj);have HR:=AA (fun W (hW:Below w.heap.size w W)=>BJ.below hI hW);have SM:=AA (Rt (kind:=kind) au bf hf (.inl (rfl:(1:Int)=1)));have PN:=AA (aM (m:=m) (Os:=xs) (f:=f) (kind:=kind) (ss:=ss));have a8:=AA (fun(dq:(zU xs f).k=1) W (hW:Below w.heap.size w W) u (hu:BU W u (Ar xs f (EJ kind)))=>PQ v u m (Ar xs f (EJ kind)) f 1 W (h.below hW) au hu (PK bf hf (by omega) (by omega)) hf (.inl rfl));obtain⟨ai,ci,rfl,dw,cj,H2⟩:=BJ.open Az (by decide) hI;obtain⟨bi,ab,rfl,a6,D0,_,D2⟩:=H2.zR (show f<xs.length by omega);obtain⟨_,_,rfl,_⟩:=h.open;obtain⟨_,_,rfl,_⟩:=hv.shape;have b7:(f:Int)<xs.length:=by omega
 have Hl:=AA hl;have hb:=yF w.heap.size w;clear h au hI bf hk hv dj hr hl H2;go_in;go_wp2_with fail;refine(C1.out _ hb).mono ?_;rintro e w_ ⟨rfl,bz⟩;replace hb:=hb.trans (bz.mono hb.size);clear bz;go_wp2_with fail;refine(C3.out _ hb).mono ?_;rintro e w_ ⟨rfl,bz⟩;replace hb:=hb.trans (bz.mono hb.size);clear bz;go_wp2_with fail;refine(C4.out _ hb).mono ?_;rintro e w4 ⟨rfl,n4,rfl⟩;replace hb:=hb.trans (A9 (yF _ _) n4|>.mono hb.size);have Hb:=AA hb
 by_cases e1:(zU xs f).k=1
 .by_cases e2:(zU xs f).r=0
  .have t1:((zU xs f).k !=1)=false:=by simp[e1]
   have t2:¬0<(zU xs f).r:=by omega
   have P:=AA (show Gz m xs f kind ss=if Im m xs f kind ss=false then(xs,2)
    else if BK (Ar (Bg xs (named (AH m f)) 1) f (EJ kind)) then(Ar (Bg xs (named (AH m f)) 1) f (EJ kind),0) else(xs,1) by rw[PN.out,if_neg (by simp[e1,e2])])
   have cw:=AA (a8.out e1);clear e1 e2 a8 PN ca;go_wp2_with (at_builtin;go_must (refine FI (cs:=A2) rfl rfl 93 (.agg #[.int .i64 0, .string ⟨#[]⟩, .int .i64 0]) 3 32 underlying24 Tryz.zG rfl (by decide) rfl (By A2 _ _ _) rfl (HR.out _ (Hb.out.trans ((AD _ _).mono Hb.out.size))) (Ev _) (by have:=Hl.out;omega) (by decide) (by simp) ?_;intro v' w9 hO a4;have bs:=AA ((Hb.out.trans ((AD _ _).mono Hb.out.size)).trans (a4.mono Hb.out.size));replace D0:=(bs.out.cell (p:=⟨bi,ab+f*3,none⟩) a6).trans D0;replace D2:=(bs.out.cell (p:=⟨bi,ab+f*3+2,none⟩) a6).trans D2;clear a4));refine(C7.out _ bs.out).mono ?_;rintro e cA ⟨rfl,dI⟩;replace hO:=AP.below hO dI;have bK:=AA (bs.out.trans (dI.mono bs.out.size));clear dI D0 D2;cases hg:Im m xs f kind ss
   .have P2:=AA (show Gz m xs f kind ss=(xs,2) by rw[P.out,hg];rfl)
    clear hg;have HO:=AA hO;clear hO;go_wp2_with fail;go_ret2;exact⟨_,by rw[P2.out];rfl,by rw[P2.out];exact HO.out.lower Hb.out.size,bK.out⟩
   .have P2:=AA (show Gz m xs f kind ss=if BK (Ar (Bg xs (named (AH m f)) 1) f (EJ kind)) then(Ar (Bg xs (named (AH m f)) 1) f (EJ kind),0) else(xs,1) by rw[P.out,hg];rfl)
    clear hg;obtain⟨q,bB,rfl,c1,c2,q1,q2,b6⟩:=hO.zO (by have:=Hl.out;omega);unfold maxLen at c2;obtain⟨d0,_,_⟩:=AP.zR hO (show f<xs.length by have:=Hl.out;omega);have Fr:=b6 (f*3);have S0:=AP.zz Az hO (Ci (show f<xs.length by have:=Hl.out;omega)) (j:=0) (by decide) (y:=EJ kind (zU xs f)) (u:= .int .i64 kind) rfl;rw[Nat.add_zero] at S0;have bd:=AM bK.out S0.2 (yD Hb.out.size q1) bK.out.size;rw[<-KM (f:=EJ kind)] at S0;have S:=AA (AP.lower S0.1 Hb.out.size);have cB:¬(f:Int)<0:=by omega
    clear S0 hO b6;go_wp2_with fail;generalize hwN:cA.setCell _ _=wN at*;clear d0 Fr hwN q2;have dD:(Ar xs f (EJ kind)).length=xs.length:=Cy;have CA:=cw.out wN bd (.slice (some ⟨q,0,none⟩) xs.length bB) (AP.rd S.out);clear dD;refine CA.mono ?_;rintro e df ⟨dg,rfl,b9,cR⟩;rw[<-OD] at b9;have bp:=bd.trans (cR.mono bd.size);have dM:=AA (AP.lower b9 bd.size);have cc:=AP.rd b9;clear b9 cR S;generalize hM:Ar (Bg xs (named (AH m f)) 1) f (EJ kind)=M at*;have C9:=DK dg M df cc SM.out;obtain⟨fb,fa,rfl,_,_⟩:=cc.shape;cases hq:BK M
    .have P3:=AA (show Gz m xs f kind ss=(xs,1) by rw[P2.out,hq];rfl)
     rw[hq] at C9;have C:=AA C9;have bg:=AA bp;clear C9 hq cc bp bd;go_wp2_with fail;refine(C.out).mono ?_;rintro e de ⟨rfl,bD⟩;have bo:=bg.out.trans (bD.mono bg.out.size);have be:=AA bo;clear bD bo c1 c2;go_wp2_with (at_builtin;go_must (refine FI (cs:=A2) rfl rfl 93 (.agg #[.int .i64 0, .string ⟨#[]⟩, .int .i64 0]) 3 32 underlying24 Tryz.zG rfl (by decide) rfl (By A2 _ _ _) rfl (HR.out _ (be.out.trans ((AD _ _).mono be.out.size))) (Ev _) (by have:=Hl.out;omega) (by decide) (by simp) ?_;intro v' w9 hO a4));have bZ:=(be.out.trans ((AD _ _).mono be.out.size)).trans (a4.mono be.out.size);have HO:=AA (hO.lower be.out.size);have ct:=AA bZ;clear hO a4 bZ;go_wp2_with fail;go_ret2;exact⟨_,by rw[P3.out];rfl,by rw[P3.out];exact HO.out,ct.out⟩
    .have P3:=AA (show Gz m xs f kind ss=(M,0) by rw[P2.out,hq];rfl)
     rw[hq] at C9;have C:=AA C9;have bg:=AA bp;clear C9 hq cc bp bd;go_wp2_with fail;refine(C.out).mono ?_;rintro e de ⟨rfl,bD⟩;have bo:=bg.out.trans (bD.mono bg.out.size);have dJ:=AA (dM.out.below bD);clear bD c1 c2;go_wp2_with fail;go_ret2;exact⟨_,by rw[P3.out];rfl,by rw[P3.out];exact dJ.out,bo⟩
  .have t1:((zU xs f).k !=1)=false:=by simp[e1]
   have t2:0<(zU xs f).r:=by omega
   have P2:=AA (show Gz m xs f kind ss=(xs,1) by rw[PN.out,if_pos (.inr e2)]);clear e1 e2 a8 PN ca;go_wp2_with (at_builtin;go_must (refine FI (cs:=A2) rfl rfl 93 (.agg #[.int .i64 0, .string ⟨#[]⟩, .int .i64 0]) 3 32 underlying24 Tryz.zG rfl (by decide) rfl (By A2 _ _ _) rfl (HR.out _ (Hb.out.trans ((AD _ _).mono Hb.out.size))) (Ev _) (by have:=Hl.out;omega) (by decide) (by simp) ?_;intro v' w9 hO a4;have bs:=AA ((Hb.out.trans ((AD _ _).mono Hb.out.size)).trans (a4.mono Hb.out.size));replace D0:=(bs.out.cell (p:=⟨bi,ab+f*3,none⟩) a6).trans D0;replace D2:=(bs.out.cell (p:=⟨bi,ab+f*3+2,none⟩) a6).trans D2;clear a4));go_ret2;exact⟨_,by rw[P2.out];rfl,by rw[P2.out];exact hO.lower Hb.out.size,bs.out⟩
 .have t1:((zU xs f).k !=1)=true:=by simp[e1]
  have P2:=AA (show Gz m xs f kind ss=(xs,1) by rw[PN.out,if_pos (.inl e1)]);clear e1 a8 PN ca;go_wp2_with (at_builtin;go_must (refine FI (cs:=A2) rfl rfl 93 (.agg #[.int .i64 0, .string ⟨#[]⟩, .int .i64 0]) 3 32 underlying24 Tryz.zG rfl (by decide) rfl (By A2 _ _ _) rfl (HR.out _ (Hb.out.trans ((AD _ _).mono Hb.out.size))) (Ev _) (by have:=Hl.out;omega) (by decide) (by simp) ?_;intro v' w9 hO a4;have bs:=AA ((Hb.out.trans ((AD _ _).mono Hb.out.size)).trans (a4.mono Hb.out.size));replace D0:=(bs.out.cell (p:=⟨bi,ab+f*3,none⟩) a6).trans D0;clear a4));go_ret2;exact⟨_,by rw[P2.out];rfl,by rw[P2.out];exact hO.lower Hb.out.size,bs.out⟩
theorem OS (v iv:Value) (m:List (List Int)) (xs:List AU) (f:Nat) (w:World) (h:Bc w v m) (au:Bs m=true) (hI:BU w iv xs) (bf:BK xs=true) (hf:f<12):
 Calls prog 268 #[v,iv, .int .i64 f] w (U8 (Di m xs f) w):=by
 have hl:=(A0.1 bf).1;have ca:=(Gw ((A0.1 bf).2 f hf)).2.1;have C1:=AA (fun W (hW:Below w.heap.size w W)=>Nw v iv m xs f W (h.below hW) au (BJ.below hI hW) bf hf);have HR:=AA (fun W (hW:Below w.heap.size w W)=>BJ.below hI hW);have SM:=AA (Rt (kind:=1) au bf hf (.inr (rfl:(-1:Int)= -1)));have PN:=AA (ZD (m:=m) (Os:=xs) (f:=f));have a8:=AA (fun(dq:Bb (zU xs f).k=true) W (hW:Below w.heap.size w W) u (hu:BU W u (Ar xs f (EJ 1)))=>PQ v u m (Ar xs f (EJ 1)) f (-1) W (h.below hW) au hu (PK bf hf (by intro e;rw[e] at dq;cases dq) (by omega)) hf (.inr rfl));obtain⟨ai,ci,rfl,dw,cj,H2⟩:=BJ.open Az (by decide) hI;obtain⟨bi,ab,rfl,a6,D0,_,D2⟩:=H2.zR (show f<xs.length by omega);obtain⟨_,_,rfl,_⟩:=h.open;have b7:(f:Int)<xs.length:=by omega
 have Hl:=AA hl;have hb:=yF w.heap.size w;have CK:=AA (fun W=>FT (zU xs f).k W);clear h au hI bf hl H2;go_in;go_wp2_with fail;refine(C1.out _ hb).mono ?_;rintro e w_ ⟨rfl,bz⟩;replace hb:=hb.trans (bz.mono hb.size);clear bz;have Hb:=AA hb;clear hb;go_wp2_with (at_builtin;go_must (refine FI (cs:=A2) rfl rfl 93 (.agg #[.int .i64 0, .string ⟨#[]⟩, .int .i64 0]) 3 32 underlying24 Tryz.zG rfl (by decide) rfl (By A2 _ _ _) rfl (HR.out _ (Hb.out.trans ((AD _ _).mono Hb.out.size))) (Ev _) (by have:=Hl.out;omega) (by decide) (by simp) ?_;intro v' w9 hO a4;have bs:=AA ((Hb.out.trans ((AD _ _).mono Hb.out.size)).trans (a4.mono Hb.out.size));replace D0:=(bs.out.cell (p:=⟨bi,ab+f*3,none⟩) a6).trans D0;replace D2:=(bs.out.cell (p:=⟨bi,ab+f*3+2,none⟩) a6).trans D2;clear a4));have bK:=bs;refine(CK.out _).mono ?_;rintro e cA ⟨rfl,rfl⟩;cases e1:Bb (zU xs f).k
 .have P2:=AA (show Di m xs f=(xs,1) by rw[PN.out,if_pos (.inl e1)])
  clear e1 a8 PN ca;have HO:=AA hO;clear hO;go_wp2_with fail;go_ret2;exact⟨_,by rw[P2.out];rfl,by rw[P2.out];exact HO.out.lower Hb.out.size,bs.out⟩
 .by_cases e2:(zU xs f).r=0
  .have t2:¬0<(zU xs f).r:=by omega
   have P2:=AA (show Di m xs f=if BK (Ar (Bg xs (named (AH m f)) (-1)) f (EJ 1)) then(Ar (Bg xs (named (AH m f)) (-1)) f (EJ 1),0) else(xs,2) by rw[PN.out,if_neg (by simp[e1,e2])]);have cw:=AA (a8.out e1);clear e1 e2 a8 PN ca;obtain⟨cA,rfl⟩:∃cA:World,cA=w9:=⟨_,rfl⟩
   obtain⟨q,bB,rfl,c1,c2,q1,q2,b6⟩:=hO.zO (by have:=Hl.out;omega);unfold maxLen at c2;obtain⟨d0,_,_⟩:=AP.zR hO (show f<xs.length by have:=Hl.out;omega);have Fr:=b6 (f*3);have S0:=AP.zz Az hO (Ci (show f<xs.length by have:=Hl.out;omega)) (j:=0) (by decide) (y:=EJ 1 (zU xs f)) (u:= .int .i64 1) rfl;rw[Nat.add_zero] at S0;have bd:=AM bK.out S0.2 (yD Hb.out.size q1) bK.out.size;rw[<-KM (f:=EJ 1)] at S0;have S:=AA (AP.lower S0.1 Hb.out.size);have cB:¬(f:Int)<0:=by omega
   clear S0 hO b6;go_wp2_with fail;generalize hwN:cA.setCell _ _=wN at*;clear d0 Fr hwN q2;have dD:(Ar xs f (EJ 1)).length=xs.length:=Cy;have CA:=cw.out wN bd (.slice (some ⟨q,0,none⟩) xs.length bB) (AP.rd S.out);clear dD;refine CA.mono ?_;rintro e df ⟨dg,rfl,b9,cR⟩;rw[<-OD] at b9;have bp:=bd.trans (cR.mono bd.size);have dM:=AA (AP.lower b9 bd.size);have cc:=AP.rd b9;clear b9 cR S;generalize hM:Ar (Bg xs (named (AH m f)) (-1)) f (EJ 1)=M at*;have C9:=DK dg M df cc SM.out;obtain⟨fb,fa,rfl,_,_⟩:=cc.shape;cases hq:BK M
   .have P3:=AA (show Di m xs f=(xs,2) by rw[P2.out,hq];rfl)
    rw[hq] at C9;have C:=AA C9;have bg:=AA bp;clear C9 hq cc bp bd;go_wp2_with fail;refine(C.out).mono ?_;rintro e de ⟨rfl,bD⟩;have bo:=bg.out.trans (bD.mono bg.out.size);have be:=AA bo;clear bD bo c1 c2;go_wp2_with (at_builtin;go_must (refine FI (cs:=A2) rfl rfl 93 (.agg #[.int .i64 0, .string ⟨#[]⟩, .int .i64 0]) 3 32 underlying24 Tryz.zG rfl (by decide) rfl (By A2 _ _ _) rfl (HR.out _ (be.out.trans ((AD _ _).mono be.out.size))) (Ev _) (by have:=Hl.out;omega) (by decide) (by simp) ?_;intro v' w9 hO a4));have bZ:=(be.out.trans ((AD _ _).mono be.out.size)).trans (a4.mono be.out.size);have HO:=AA (hO.lower be.out.size);have ct:=AA bZ;clear hO a4 bZ;go_wp2_with fail;go_ret2;exact⟨_,by rw[P3.out];rfl,by rw[P3.out];exact HO.out,ct.out⟩
   .have P3:=AA (show Di m xs f=(M,0) by rw[P2.out,hq];rfl)
    rw[hq] at C9;have C:=AA C9;have bg:=AA bp;clear C9 hq cc bp bd;go_wp2_with fail;refine(C.out).mono ?_;rintro e de ⟨rfl,bD⟩;have bo:=bg.out.trans (bD.mono bg.out.size);have dJ:=AA (dM.out.below bD);clear bD c1 c2;go_wp2_with fail;go_ret2;exact⟨_,by rw[P3.out];rfl,by rw[P3.out];exact dJ.out,bo⟩
  .have t2:0<(zU xs f).r:=by omega
   have P2:=AA (show Di m xs f=(xs,1) by rw[PN.out,if_pos (.inr e2)]);clear e1 e2 a8 PN ca;have HO:=AA hO;clear hO;go_wp2_with fail;go_ret2;exact⟨_,by rw[P2.out];rfl,by rw[P2.out];exact HO.out.lower Hb.out.size,bs.out⟩
theorem H7 {k:AN} (h:DI k) {j:Nat} (hj:j<3):DP (AJ k.zZ j).zV:=GJ (h.zV j hj)
theorem JP (m i e c:Value) (k:AN) (en:Nat) (g:ByteArray) (w:World) (h:Fk w e k.zZ) (hk:DI k) (c4:en<3) (hg:g.size<=maxLen):
 Calls prog 242 #[.agg #[m,i,e,c], .int .i64 en, .string g] w fun r w'=>r= .returned (.bool (Bv (AJ k.zZ en).zV g))/\Below w.heap.size w w':=by
 have N0:=yw w (.cells #[m,i,e,c] 28);have ar:=AD w (.cells #[m,i,e,c] 28);obtain⟨a,cp,rfl,hc,br,H⟩:=(h.below ar).open;obtain⟨b,ad,ua,uc,rfl,a0,D0,_,hR⟩:=H en (by rw[hk.zP];exact c4);have C:=AA (KH _ _ g _ hR (H7 hk c4) hg);have fQ:(en:Int)<k.zZ.length:=by rw[hk.zP];omega
 obtain⟨_,_,x2,_⟩:=AF N0;have cB:¬(en:Int)<0:=by omega
 clear h hk H hR N0;go_in;go_wp2_with fail;generalize w.alloc _=W0 at*;refine C.out.mono ?_;rintro e w1 ⟨rfl,b1⟩;go_wp2_with fail;go_ret;exact⟨rfl,ar.trans (b1.mono ar.size)⟩
theorem QZ (m i e c:Value) (k:AN) (x:Int) (w:World) (h:Bc w m k.mem) (hi:BU w i k.Os) (hm:Bs k.mem=true) (hl:k.Os.length=12) (hx:x<=9223372036854775807):
 Calls prog 248 #[.agg #[m,i,e,c], .int .i64 x] w fun r w'=>∃v',r= .returned v'/\AG w.heap.size w' v' (Ay (KD k x))/\Below w.heap.size w w':=by
 have N0:=yw w (.cells #[m,i,e,c] 28);have ar:=AD w (.cells #[m,i,e,c] 28);obtain⟨x0,x1,_,_⟩:=AF N0;have eG:=AY N0;cases hg:Bf x
 .have V:=AA (Eb hg)
  have E:KD k x=[]:=by unfold KD;rw[hg];rfl
  rw[E];have o1:=FF (w.alloc (.cells #[m,i,e,c] 28));simp only[xG] at o1;clear hg E;go_in;go_wp2_with (go_at_call 179;refine(Cx _ _ hx).mono ?_;rintro e w' ⟨rfl,rfl⟩;rw[V.out]);go_ret;exact⟨_,rfl,MH o1 (wB _),ar.alloc ar.size _⟩
 .have V:=AA (ER hg)
  have hF:=EH hg;have BE:KD k x=A8 x::(if(zU k.Os (A8 x)).k=2 then named (AH k.mem (A8 x)) else[]):=by unfold KD;rw[hg,if_pos rfl]
  rw[BE];generalize A8 x=o at*;obtain⟨ai,ci,rfl,_,_,HI⟩:=BJ.open Az (by decide) (BJ.below hi ar);obtain⟨bi,ab,rfl,a6,D0,_,_⟩:=HI.zR (show o<k.Os.length by omega);have ea:(o:Int)<k.Os.length:=by omega
  have eD:¬(o:Int)<0:=by omega
  have o1:=WY (w.alloc (.cells #[m, .slice (some ⟨bi,ab,none⟩) k.Os.length ci,e,c] 28)) o;clear hg BE HI hi
  by_cases h2:(zU k.Os o).k=2
  .have t2:((zU k.Os o).k !=2)=false:=by simp[h2]
   rw[if_pos h2];have cf:=(Ah.1 hm).1;obtain⟨am,cm,rfl,_,_,HM⟩:=(h.below ar).open;obtain⟨bm,cH,u,rfl,dz,DM,hR⟩:=HM o (by omega);have fI:(o:Int)<k.mem.length:=by omega
   have cJ:=(A5.1 ((Ah.1 hm).2 o hF)).1;have CN:=AA (fun W (hW:Below _ _ W)=>IU u (AH k.mem o) W (Ax.below hR hW) (by omega) (LR hm hF));have cb:=PY hm hF;obtain⟨_,_,rfl,_⟩:=hR.open;generalize named (AH k.mem o)=ns at*;simp only[xG] at o1;have dy:=dz;simp only[xG] at dy;clear h2 h hm hl HM hR cf cJ N0;go_in;go_wp2_with (go_at_call 179;refine(Cx _ _ hx).mono ?_;rintro e w' ⟨rfl,rfl⟩;rw[V.out]);generalize w.alloc _=W0 at*;have C:=AA (CN.out _ (AD W0 (.cells #[.int .i64 o] 3)));refine C.out.mono ?_;rintro r w1 ⟨v1,rfl,n1,b1⟩;have O1:=AA (AG.below o1 b1);have dx:=(AD W0 (.cells #[.int .i64 o] 3)).trans (b1.mono (AD W0 (.cells #[.int .i64 o] 3)).size);have fG:=dx.size;have bw:=ar.trans (dx.mono ar.size);have c8:=AA (AG.rd n1);have bl:=AA bw;obtain⟨az,cz,rfl,eO⟩:=ET n1;clear o1 n1 b1 bw dx CN C x0 x1 D0 DM;go_wp2_with (at_builtin;go_must (refine Be (lo:=w.heap.size+1) (n:=1) (xs:=(Ay [o]).map (yf .i64)) (m:=ns.length) (news:=(Ay ns).map (yf .i64)) rfl rfl 3 (.int .i64 0) 1 8 underlying29 Tryz.zK rfl (by decide) rfl (KP O1.out (yF _ _)) rfl (by have:=c8.out;unfold Ax at this;rw[Ca] at this;exact this) (LC _) (by unfold maxLen;omega) (by omega) (by omega) ?_;intro o' w9 k1 k2 k3 k4));go_ret;exact⟨_,rfl,MH (IW (ys:=[o]) (zs:=ns) k1) (wB _),bl.out.trans (k4.mono (wB _))⟩
  .have t2:((zU k.Os o).k !=2)=true:=by simp[h2]
   rw[if_neg h2];simp only[xG] at o1;obtain⟨_,_,rfl,_⟩:=h.open;clear h2 h hm hl N0;go_in;go_wp2_with (go_at_call 179;refine(Cx _ _ hx).mono ?_;rintro e w' ⟨rfl,rfl⟩;rw[V.out]);go_ret;exact⟨_,rfl,MH o1 (wB _),ar.alloc ar.size _⟩
theorem Mz {lo:Nat} {ops:Array Oper} {rest:List Oper} {o:Oper} {a:Act} {Q:Exit->Act->World->Prop} {s x:Operand} {t:TypeId}
 (dt:o.guard=none) (ho:o.op= .call {callee:= .builtin .append,args:= #[s,x],argTypes:= #[t,t]})
 (ht:prog.underlying t=some (.slice 3)) {v u:Value} {xs:List Int} (hs:a.eval s=v) (ac:AG lo w v [])
 (hx:a.eval x=u) (hr:Ax w u xs) (eZ:xs.length<=1048576) (ch:lo<=w.heap.size)
 (hK:∀v' w',AG lo w' v' xs->Below lo w w'->wpList prog ops Q rest (a.put o.dst v') w'):wpList prog ops Q (o::rest) a w:=by
 refine Be (n:=0) (xs:=[]) (m:=xs.length) (news:=xs.map (yf .i64)) dt ho 3 (.int .i64 0) 1 8 ht Tryz.zK rfl (by decide) hs ac hx hr (LC _) ?_ ?_ ch fun v' w' k1 _ _ k4=>hK v' w' ?_ k4
 .unfold maxLen;omega
 .omega
 .unfold AG
  rw[Nat.zero_add] at k1;exact k1
theorem ME (v:Value) (m:List (List Int)) (w:World) (h:Bc w v m) (hl:m.length<=100) (hr:∀f,f<m.length->(AH m f).length<=100):
 Calls prog 63 #[v] w fun e w'=>∃v' vs,e= .returned v'/\At w.heap.size w' v' vs m/\Below w.heap.size w w':=by
 obtain⟨a,c,rfl,hc,br,H⟩:=h.open;unfold maxLen at br;have HH:=AA H;have HR:=AA hr;clear h H hr;go_in;go_wp2_with fail;go_loopw [3,4] (fun o i wr=>∃k:Nat,∃vs:List Value,k<=m.length/\vs.length=k/\i= .int .i64 k/\At w.heap.size wr o vs (m.take k)/\Below w.heap.size w wr) (fun _ i _=>m.length - (intOf i).toNat)
 case atStart=>exact⟨0,[],by omega,rfl,rfl,⟨Cp _ _ _,Fb.nil,DF.nil⟩,AD _ _⟩
 case round=>
  obtain⟨k,vs,hk,cL,rfl,hO,av⟩:=hrel;have Hl:=AA cL;clear cL
  by_cases aq:k<m.length
  .have bj:(k:Int)<(m.length:Int):=by omega
   have eC:vs.length<=100:=by rw[Hl.out];omega
   have cJ:=HR.out k aq;have TK:=AA (Cw (Jh aq));obtain⟨b,ad,u,rfl,a0,D,hR⟩:=(HH.out.below av) k aq;generalize AH m k=r at*;have eX:=AA (Ax.below hR (AD wr (.cells #[] 3)));obtain⟨_,_,rfl,_⟩:=hR.open;have HO:=AA hO;have bq:=AA av;obtain⟨_,_,rfl,_⟩:=hO.1.rd.shape;clear hR hO av;go_wp2_with (first|(at_builtin;refine Mz rfl rfl underlying29 rfl (FF wr) rfl eX.out (by omega) (AD wr (.cells #[] 3)).size ?_;intro u' w2 hu a5;have cr:=AA ((AD wr (.cells #[] 3)).trans a5);have Hu:=AA hu;obtain⟨ua,uc,rfl,_⟩:=(AG.rd hu).open;clear hu a5)|(at_builtin;go_must (refine Be (lo:=w.heap.size) (n:=vs.length) (xs:=Ch F3 vs) (m:=1) rfl rfl 29 (.slice none 0 0) 1 24 underlying23 Tryz.yZ rfl (by decide) rfl ((HO.out.below cr.out).below (AD _ _)).1 rfl (Rd.zE _ #[_] _ 1 1 _ (by simp) rfl (by simp[maxLen])) (by simp[xE]) (by unfold maxLen;omega) (by omega) (by have h1:=bq.out.size;have h2:=cr.out.size;simp;omega) ?_;intro o' w3 g1 g2 g3 g4)));go_roundw
   case rel=>have a5:=cr.out.trans ((AD w2 (.cells #[.slice ua r.length uc] 29)).mono cr.out.size);have hP:=HO.out.push a5 bq.out.size (Hu.out.below (AD _ _)) g1 g2;exact⟨k+1,vs++[.slice ua r.length uc],by omega,by rw[yl,Hl.out];rfl,by go_num,by rw[TK.out];exact hP,(bq.out.trans (a5.mono bq.out.size)).trans g4⟩
   case measure=>simp[intOf];omega
  .obtain rfl:k=m.length:=by omega
   rw[xt] at hO;go_wp2_with fail;go_ret;exact⟨_,vs,rfl,hO,av⟩
theorem Vi (w:World):Calls prog 153 #[] w fun e w'=>∃v vs,e= .returned v/\At w.heap.size w' v vs (xX 16 [])/\Below w.heap.size w w':=by
 go_in;go_wp2_with fail;go_loopw [1,2] (fun o i wr=>∃k:Nat,∃vs:List Value,k<=16/\vs.length=k/\i= .int .i64 k/\At w.heap.size wr o vs (xX k [])/\Below w.heap.size w wr) (fun _ i _=>16 - (intOf i).toNat)
 case atStart=>exact⟨0,[],by omega,rfl,rfl,⟨Cp _ _ _,Fb.nil,DF.nil⟩,AD _ _⟩
 case round=>
  obtain⟨k,vs,hk,cL,rfl,hO,av⟩:=hrel;have Hl:=AA cL;clear cL
  by_cases aq:k<16
  .have eC:vs.length<=16:=by rw[Hl.out];omega
   have a5:=(AD wr (.cells #[] 3));have HO:=AA hO;have bq:=AA av;obtain⟨_,_,rfl,_⟩:=hO.1.rd.shape;clear hO av;go_wp2_with (at_builtin;go_must (refine Be (lo:=w.heap.size) (n:=vs.length) (xs:=Ch F3 vs) (m:=1) (news:=[.slice (some ⟨wr.heap.size,0,none⟩) 0 0]) rfl rfl 29 (.slice none 0 0) 1 24 underlying23 Tryz.yZ rfl (by decide) rfl ((HO.out.below a5).below (AD _ _)).1 rfl (Rd.zE _ #[_] _ 1 1 _ (by simp) rfl (by simp[maxLen])) (by simp[xE]) (by unfold maxLen;omega) (by omega) (by have h1:=bq.out.size;have h2:=a5.size;simp;omega) ?_;intro o' w3 g1 g2 g3 g4));go_roundw
   case rel=>have cl:=a5.trans ((AD (wr.alloc (.cells #[] 3)) (.cells #[.slice (some ⟨wr.heap.size,0,none⟩) 0 0] 29)).mono a5.size);have hu:AG wr.heap.size (wr.alloc (.cells #[] 3)) (.slice (some ⟨wr.heap.size,0,none⟩) 0 0) []:=FF wr;have hP:=HO.out.push cl bq.out.size (hu.below (AD _ _)) g1 g2;exact⟨k+1,vs++[.slice (some ⟨wr.heap.size,0,none⟩) 0 0],by omega,by rw[yl,Hl.out];rfl,by go_num,by rw[List.replicate_succ'];exact hP,(bq.out.trans (cl.mono bq.out.size)).trans g4⟩
   case measure=>simp[intOf];omega
  .obtain rfl:k=16:=by omega
   go_wp2_with fail;go_ret;exact⟨_,vs,rfl,hO,av⟩
theorem Wb {g T:Nat} {a b c d:Value} (h:w.heap[g]? =some (.cells #[a,b,c,d] T (0,0))):Rd w (.slice (some ⟨g,0,none⟩) 1 1) 4 1 [a,b,c,d]:=by
 obtain⟨h0,h1,h2,h3⟩:=AF h;refine⟨_,_,rfl,yv _,by simp[maxLen],rfl,nofun,fun _=>⟨g,0,rfl,fun j hj=>?_⟩⟩;rw[Nat.zero_add]
 match j,hj with
 |0,_=>exact h0
 |1,_=>exact h1
 |2,_=>exact h2
 |3,_=>exact h3
 |_+4,hj=>exact absurd hj (by omega)
theorem aP {b ad c sz:Nat} {xs:List Value} (h:Rd w (.slice (some ⟨b,ad,none⟩) n c) sz n xs) (hk:k<=n):Rd w (.slice (some ⟨b,ad+k*sz,none⟩) (n - k) (c - k)) sz (n - k) (xs.drop (k*sz)):=by
 obtain⟨ao,c',hv,fL,br,hl,eE,hc⟩:=h;simp only[xD,true_and] at hv;obtain⟨rfl,rfl⟩:=hv;have fN:k*sz+(n - k)*sz=n*sz:=by rw[<-Nat.add_mul];congr 1;omega
 refine⟨_,_,rfl,by omega,by omega,by rw[vZ];omega,(by intro e;cases e),fun ec=>?_⟩;obtain⟨b',dh,e,cP⟩:=hc (by omega);obtain⟨rfl,rfl⟩:b=b'/\ad=dh:=by simpa using e
 refine⟨_,_,rfl,fun j hj=>?_⟩;rw[Nat.add_assoc,cP (k*sz+j) (by omega),List.getElem?_drop]
theorem Y0 {q bB:Nat} {F:List Ak} (h:BJ 4 Ae w (.slice (some ⟨q,0,none⟩) F.length bB) F) (h1:1<=F.length):BJ 4 Ae w (.slice (some ⟨q,4,none⟩) (F.length - 1) (bB - 1)) (F.drop 1):=by
 have r:=aP h (k:=1) h1;cases F with
 |nil=>simp at h1
 |cons y F=>exact r
theorem RZ (v:Value) (c:List Ak) (x:Ak) (w:World) (h:Dt w v c) (hl:c.length<=4):
 Calls prog 183 #[v, .agg #[.int .i64 x.e, .int .i64 x.p, .int .i64 x.f, .bool x.w]] w fun r w'=>∃v',r= .returned v'/\AP w.heap.size 98 4 Ae w' v' (Mk c x)/\Below w.heap.size w w':=by
 obtain⟨a,cp,rfl,hc,br,H⟩:=BJ.open Cg (by decide) h;have eS:c.length<=1000:=by omega
 unfold maxLen at br;have HH:=AA H;obtain⟨N0,N1,ar,cY⟩:=Jp w (.cells #[.int .i64 x.e, .int .i64 x.p, .int .i64 x.f, .bool x.w] 98) (.cells #[] 98);have o1:AP (w.heap.size+1) 98 4 Ae ((w.alloc (.cells #[.int .i64 x.e, .int .i64 x.p, .int .i64 x.f, .bool x.w] 98)).alloc (.cells #[] 98)) (.slice (some ⟨w.heap.size+1,0,none⟩) 0 0) []:=by have:=By Ae (w.alloc (.cells #[.int .i64 x.e, .int .i64 x.p, .int .i64 x.f, .bool x.w] 98)) 98 4;simp only[xG] at this;exact this
 have fp:=AA hl;have PE:Mk c x=(if(c.filter fun y=>!Bj x.e x.p y).length=4 then(c.filter fun y=>!Bj x.e x.p y).drop 1 else c.filter fun y=>!Bj x.e x.p y)++[x]:=rfl;have da:=AA PE;clear h H hl PE cY N1;go_in;go_wp2_with fail;generalize(w.alloc _).alloc _=wa at o1 ar N0 ⊢;generalize(xB (some ⟨w.heap.size+1,0,none⟩) 0 0)=o at o1 ⊢;go_loopw [5,6] (fun o ix wr=>∃k:Nat,k<=c.length/\ix= .int .i64 k/\AP (w.heap.size+1) 98 4 Ae wr o ((c.take k).filter fun y=>!Bj x.e x.p y)/\Below w.heap.size w wr/\wr.heap[w.heap.size]? =some (.cells #[.int .i64 x.e, .int .i64 x.p, .int .i64 x.f, .bool x.w] 98 (0,0))) (fun _ ix _=>c.length - (intOf ix).toNat)
 case atStart=>exact⟨0,yh _,rfl,o1,ar,N0⟩
 case round=>
  clear o1 ar N0;obtain⟨k,hk,rfl,ac,hb,hN⟩:=hrel
  by_cases aq:k<c.length
  .have bj:(k:Int)<(c.length:Int):=by omega
   obtain⟨b,ad,rfl,a0,D0,D1,D2,D3⟩:=(HH.out.below hb).zN aq;have Nx:=AA (Kw (p:=fun y=>!Bj x.e x.p y) (Ej aq));have cb:=Ih (p:=fun y=>!Bj x.e x.p y) (l:=c) (k:=k);generalize AT c k=y at D0 D1 D2 D3 Nx;generalize(c.take k).filter (fun y=>!Bj x.e x.p y)=ys at ac Nx cb;obtain⟨x0,x1,x2,x3⟩:=AF hN;have b5:=AY hN;have a7:=AA ac;have Hb:=AA hb;have HN:=AA hN;obtain⟨_,_,rfl,_⟩:=ac.rd.shape;clear ac hb hN
   by_cases e1:y.e=x.e
   .by_cases e2:y.p=x.p
    .skip
     have t1:(y.e !=x.e)=false:=by simp[e1]
     have t2:(y.p !=x.p)=false:=by simp[e2]
     have bk:=AA (show(c.take (k+1)).filter (fun y=>!Bj x.e x.p y)=ys by rw[Nx.out];simp[Bj,e1,e2]);clear Nx e1 e2;go_wp2_with fail;refine Aa 17 50 [.v (.slice (some ⟨b,ad,none⟩) c.length cp), .i ((k:Int)), .p b (ad+k*4), .p b (ad+k*4), .i (y.e), .p w.heap.size 0, .i (x.e), .b false, .b false, .v (.slice (some ⟨b,ad,none⟩) c.length cp), .i ((k:Int)), .p b (ad+k*4), .p b (ad+k*4+1), .i (y.p), .p w.heap.size 1, .i (x.p), .b false] (fun _ _ _=>True) ?_ ?_
     .intro i hi o ho a wx Hb Hd hG K HK
      have bb:=bc hG a0 D0;have ba:=bc hG b5 x0;have bh:=bc hG a0 D1;have bu:=bc hG b5 x1
      match i,hi with
      |0,_|1,_|3,_|5,_|8,_|9,_|10,_|12,_|14,_=>exact sP ho HK Hb Hd
      |2,_|11,_=>exact sI ho HK Hb Hd (hr:=by clear Hd Hb HK;go_simp)
      |4,_|6,_|13,_|15,_=>exact sL ho HK Hb Hd (hl:=Fo ‹_›)
      |7,_=>clear bb ba bh bu;obtain rfl:=yH ho;have d4:(a.tmps[18]?.getD undef)= .int .i64 (y.e):=BT Hd 4;have d6:(a.tmps[20]?.getD undef)= .int .i64 (x.e):=BT Hd 6;clear Hd Hb;refine yG ?_;go_simp;exact HK.out _ _ rfl (yF _ _)
      |16,_=>clear bb ba bh bu;obtain rfl:=yH ho;have em:(a.tmps[27]?.getD undef)= .int .i64 (y.p):=BT Hd 13;have e4:(a.tmps[29]?.getD undef)= .int .i64 (x.p):=BT Hd 15;have d8:(a.tmps[22]?.getD undef)= .bool false:=BT Hd 8;clear Hd Hb;refine AX.yes rfl rfl d8 ?_;go_simp;exact HK.out _ _ rfl (yF _ _)
      |_+17,hq=>omega
     .intro vs wx hR hG
      have q8:(vs 8)= .bool false:=BZ hR 8;have bW:(vs 16)= .bool false:=BZ hR 16;clear hR;simp only[Al,AV,yE,yB,yA,yy,q8,bW];simp;clear q8 bW;go_wp2_with fail;go_roundw
      case rel=>exact⟨k+1,by omega,by go_num,by rw[bk.out];exact AP.below a7.out hG,Hb.out.trans (hG.mono Hb.out.size),AC HN.out hG⟩
      case measure=>simp[intOf];omega
    .skip
     have t1:(y.e !=x.e)=false:=by simp[e1]
     have t2:(y.p !=x.p)=true:=by simp[e2]
     have bk:=AA (show(c.take (k+1)).filter (fun y=>!Bj x.e x.p y)=ys++[y] by rw[Nx.out];simp[Bj,e1,e2]);clear Nx e1 e2;go_wp2_with fail;refine Aa 17 50 [.v (.slice (some ⟨b,ad,none⟩) c.length cp), .i ((k:Int)), .p b (ad+k*4), .p b (ad+k*4), .i (y.e), .p w.heap.size 0, .i (x.e), .b false, .b false, .v (.slice (some ⟨b,ad,none⟩) c.length cp), .i ((k:Int)), .p b (ad+k*4), .p b (ad+k*4+1), .i (y.p), .p w.heap.size 1, .i (x.p), .b true] (fun _ _ _=>True) ?_ ?_
     .intro i hi o ho a wx Hb Hd hG K HK
      have bb:=bc hG a0 D0;have ba:=bc hG b5 x0;have bh:=bc hG a0 D1;have bu:=bc hG b5 x1
      match i,hi with
      |0,_|1,_|3,_|5,_|8,_|9,_|10,_|12,_|14,_=>exact sP ho HK Hb Hd
      |2,_|11,_=>exact sI ho HK Hb Hd (hr:=by clear Hd Hb HK;go_simp)
      |4,_|6,_|13,_|15,_=>exact sL ho HK Hb Hd (hl:=Fo ‹_›)
      |7,_=>clear bb ba bh bu;obtain rfl:=yH ho;have d4:(a.tmps[18]?.getD undef)= .int .i64 (y.e):=BT Hd 4;have d6:(a.tmps[20]?.getD undef)= .int .i64 (x.e):=BT Hd 6;clear Hd Hb;refine yG ?_;go_simp;exact HK.out _ _ rfl (yF _ _)
      |16,_=>clear bb ba bh bu;obtain rfl:=yH ho;have em:(a.tmps[27]?.getD undef)= .int .i64 (y.p):=BT Hd 13;have e4:(a.tmps[29]?.getD undef)= .int .i64 (x.p):=BT Hd 15;have d8:(a.tmps[22]?.getD undef)= .bool false:=BT Hd 8;clear Hd Hb;refine AX.yes rfl rfl d8 ?_;go_simp;exact HK.out _ _ rfl (yF _ _)
      |_+17,hq=>omega
     .intro vs wx hR hG
      have q8:(vs 8)= .bool false:=BZ hR 8;have bW:(vs 16)= .bool true:=BZ hR 16;clear hR;simp only[Al,AV,yE,yB,yA,yy,q8,bW];simp;clear q8 bW;have ez:=(hG.cell (p:=⟨b,ad+k*4,none⟩) a0).trans D0;have fz:=(hG.cell (p:=⟨b,ad+k*4+1,none⟩) a0).trans D1;have fy:=(hG.cell (p:=⟨b,ad+k*4+2,none⟩) a0).trans D2;have fx:=(hG.cell (p:=⟨b,ad+k*4+3,none⟩) a0).trans D3;have bv:=Hb.out.trans (hG.mono Hb.out.size);have cW:=AA (AP.below a7.out hG);have co:=AC HN.out hG;clear D0 D1 D2 D3;go_wp2_with (at_builtin;go_must (refine Be (lo:=w.heap.size+1) (n:=ys.length) (xs:=Ch Ae ys) (m:=1) (news:=[.int .i64 y.e, .int .i64 y.p, .int .i64 y.f, .bool y.w]) rfl rfl 98 (.agg #[.int .i64 0, .int .i64 0, .int .i64 0, .bool false]) 4 32 underlying26 Tryz.zH rfl (by decide) rfl (Co cW.out (AD _ _)) rfl (Rd.zE _ #[.int .i64 y.e, .int .i64 y.p, .int .i64 y.f, .bool y.w] _ 4 1 _ rfl (by simp) (by simp[maxLen])) (by simp[xE]) (by unfold maxLen;omega) (by omega) (by have:=bv.size;have:=AY co;simp;omega) ?_;intro o' w9 k1 k2 k3 k4));go_roundw
      case rel=>exact⟨k+1,by omega,by go_num,by rw[bk.out];unfold AP;rw[Bl,El,yl];exact k1,(bv.alloc bv.size _).trans (k4.mono (wB _)),(k2.block w.heap.size (by have:=AY co;simp;omega) (fun e=>by have:=(cW.out.lt _ e.symm).1;omega)).trans (AC co (AD _ _))⟩
      case measure=>simp[intOf];omega
   .skip
    have t1:(y.e !=x.e)=true:=by simp[e1]
    have bk:=AA (show(c.take (k+1)).filter (fun y=>!Bj x.e x.p y)=ys++[y] by rw[Nx.out];simp[Bj,e1]);clear Nx e1;go_wp2_with fail;refine Aa 17 50 [.v (.slice (some ⟨b,ad,none⟩) c.length cp), .i ((k:Int)), .p b (ad+k*4), .p b (ad+k*4), .i (y.e), .p w.heap.size 0, .i (x.e), .b true, .b true, .u, .u, .u, .u, .u, .u, .u, .u] (fun _ _ _=>True) ?_ ?_
    .intro i hi o ho a wx Hb Hd hG K HK
     have bb:=bc hG a0 D0;have ba:=bc hG b5 x0
     match i,hi with
     |0,_|1,_|3,_|5,_|8,_=>exact sP ho HK Hb Hd
     |2,_=>exact sI ho HK Hb Hd (hr:=by clear Hd Hb HK;go_simp)
     |4,_|6,_=>exact sL ho HK Hb Hd (hl:=Fo ‹_›)
     |9,_|10,_|11,_|12,_|13,_|14,_|15,_|16,_=>exact sB ho HK Hd
     |7,_=>clear bb ba;obtain rfl:=yH ho;have d4:(a.tmps[18]?.getD undef)= .int .i64 (y.e):=BT Hd 4;have d6:(a.tmps[20]?.getD undef)= .int .i64 (x.e):=BT Hd 6;clear Hd Hb;refine yG ?_;go_simp;exact HK.out _ _ rfl (yF _ _)
     |_+17,hq=>omega
    .intro vs wx hR hG
     have q8:(vs 8)= .bool true:=BZ hR 8;have bW:(vs 16)=undef:=BZ hR 16;clear hR;simp only[Al,AV,yE,yB,yA,yy,q8,bW];simp;clear q8 bW;have ez:=(hG.cell (p:=⟨b,ad+k*4,none⟩) a0).trans D0;have fz:=(hG.cell (p:=⟨b,ad+k*4+1,none⟩) a0).trans D1;have fy:=(hG.cell (p:=⟨b,ad+k*4+2,none⟩) a0).trans D2;have fx:=(hG.cell (p:=⟨b,ad+k*4+3,none⟩) a0).trans D3;have bv:=Hb.out.trans (hG.mono Hb.out.size);have cW:=AA (AP.below a7.out hG);have co:=AC HN.out hG;clear D0 D1 D2 D3;go_wp2_with (at_builtin;go_must (refine Be (lo:=w.heap.size+1) (n:=ys.length) (xs:=Ch Ae ys) (m:=1) (news:=[.int .i64 y.e, .int .i64 y.p, .int .i64 y.f, .bool y.w]) rfl rfl 98 (.agg #[.int .i64 0, .int .i64 0, .int .i64 0, .bool false]) 4 32 underlying26 Tryz.zH rfl (by decide) rfl (Co cW.out (AD _ _)) rfl (Rd.zE _ #[.int .i64 y.e, .int .i64 y.p, .int .i64 y.f, .bool y.w] _ 4 1 _ rfl (by simp) (by simp[maxLen])) (by simp[xE]) (by unfold maxLen;omega) (by omega) (by have:=bv.size;have:=AY co;simp;omega) ?_;intro o' w9 k1 k2 k3 k4));go_roundw
     case rel=>exact⟨k+1,by omega,by go_num,by rw[bk.out];unfold AP;rw[Bl,El,yl];exact k1,(bv.alloc bv.size _).trans (k4.mono (wB _)),(k2.block w.heap.size (by have:=AY co;simp;omega) (fun e=>by have:=(cW.out.lt _ e.symm).1;omega)).trans (AC co (AD _ _))⟩
     case measure=>simp[intOf];omega
  .obtain rfl:k=c.length:=by omega
   rw[xt] at ac;have b7:(c.filter fun y=>!Bj x.e x.p y).length<=c.length:=wV ..;have ej:=da.out;generalize(c.filter fun y=>!Bj x.e x.p y)=F at*;have da:=AA ej;clear ej;have fY:F.length<=4:=by have:=fp.out;omega
   obtain⟨x0,x1,x2,x3⟩:=AF hN;have b5:=AY hN;have HO:=AA ac
   by_cases h4:F.length=4
   focus
    have P:=AA (show Mk c x=F.drop 1++[x] by rw[da.out,if_pos h4])
    obtain⟨q,bB,rfl,c1,c2,q1,q2,b6⟩:=ac.zO (by omega);unfold maxLen at c2;have fZ:(4:Int)<=F.length:=by omega
    have H4:=AA h4;clear h4 ac;go_wp2_with fail;have RG:=AA (Y0 (AP.rd HO.out) (by have:=H4.out;omega));have eY:(F.drop 1).length<=3:=by rw[vZ];have:=H4.out;omega
    generalize F.drop 1=G at*;generalize(xB (some ⟨q,4,none⟩) (F.length - 1) (bB - 1))=u5 at RG ⊢;clear HO
   rotate_left
   focus
    have P:=AA (show Mk c x=F++[x] by rw[da.out,if_neg h4])
    obtain⟨_,_,e5,_,_⟩:=ac.rd.shape;have eF:¬(4:Int)<=F.length:=by omega
    have RG:=AA ac.rd;have eY:F.length<=3:=by omega
    clear h4 HO;cases e5;clear ac;go_wp2_with fail;generalize F=G at*;generalize(xB _ G.length _)=u5 at RG ⊢
   rotate_left
   all_goals
    refine BS 5 50 [.z, .v u5, .z, .a #[.int .i64 (x.e), .int .i64 (x.p), .int .i64 (x.f), .bool (x.w)], .z] (fun ix vv ww=>match ix with
     |0=>∃g,vv= .slice (some ⟨g,0,none⟩) 0 0/\wr.heap.size<=g/\ww.heap[g]? =some (.cells #[] 98 (0,0))
     |2=>AP wr.heap.size 98 4 Ae ww vv G
     |4=>∃g,vv= .slice (some ⟨g,0,none⟩) 1 1/\wr.heap.size<=g/\ww.heap[g]? =some (.cells #[.int .i64 x.e, .int .i64 x.p, .int .i64 x.f, .bool x.w] 98 (0,0))
     |_=>True) ?_ ?_ ?_
    .intro i hi o ho a wx Hb Hd hG K HK
     have bb:=bc hG b5 x0;have ba:=bc hG b5 x1;have bh:=bc hG b5 x2;have bu:=bc hG b5 x3
     match i,hi with
     |1,_=>exact sP ho HK Hb Hd
     |3,_=>exact sL ho HK Hb Hd (hl:=Yg ‹_› ‹_› ‹_› ‹_›)
     |0,_=>clear bb ba bh bu;obtain rfl:=yH ho;clear Hd Hb;refine yG ?_;go_simp;exact HK.out _ _ ⟨_,rfl,hG.size,yw _ _⟩ (AD _ _)
     |2,_=>
      clear bb ba bh bu;obtain rfl:=yH ho;have d0:∃g,(a.tmps[44]?.getD undef)= .slice (some ⟨g,0,none⟩) 0 0/\wr.heap.size<=g/\wx.heap[g]? =some (.cells #[] 98 (0,0)):=BT Hd 0
      have d1:(a.tmps[45]?.getD undef)=u5:=BT Hd 1;clear Hd Hb;refine yG ?_;obtain⟨g,e8,e7,e6⟩:=d0;obtain⟨v7,w4,dk,r1,r2,_⟩:=DV (lo:=wr.heap.size) (w:=wx) (t:=26) (ty:=26) 98 _ 4 32 underlying26 Tryz.zH rfl (by decide) e6 e7 (BJ.below RG.out hG) (Jf _) (by omega);refine Cr rfl (Bk e8) (Bk d1) dk ?_;exact HK.out _ _ r1 r2
     |4,_=>clear bb ba bh bu;obtain rfl:=yH ho;have d3:(a.tmps[47]?.getD undef)= .agg #[.int .i64 (x.e), .int .i64 (x.p), .int .i64 (x.f), .bool (x.w)]:=BT Hd 3;clear Hd Hb;refine yG ?_;go_simp;exact HK.out _ _ ⟨_,rfl,hG.size,yw _ _⟩ (AD _ _)
    .intro i hi vv wz dU cD hz
     match i,hi with
     |0,_|4,_=>exact(by obtain⟨g,h0,h1,h2⟩:=hz;exact⟨g,h0,h1,AC h2 cD⟩)
     |2,_=>exact(AP.below hz cD)
     |1,_|3,_=>exact hz
    .intro vs wx hR hG
     have q2:AP wr.heap.size 98 4 Ae wx (vs 2) G:=BZ hR 2;have q4:∃g,(vs 4)= .slice (some ⟨g,0,none⟩) 1 1/\wr.heap.size<=g/\wx.heap[g]? =some (.cells #[.int .i64 x.e, .int .i64 x.p, .int .i64 x.f, .bool x.w] 98 (0,0)):=BZ hR 4
     clear hR;simp only[Al,AV,yE,yB,yA,yy];simp;generalize vs 2=z2 at q2 ⊢;generalize vs 4=z4 at q4 ⊢;obtain⟨g4,rfl,_,q4⟩:=q4;have Q2:=AA q2;have Q4:=AA (Wb q4);have bv:=hb.trans (hG.mono hb.size);have eK:=hG.size;obtain⟨_,_,rfl,_⟩:=q2.rd.shape;clear q2 q4 x0 x1 x2 x3;go_wp2_with (at_builtin;go_must (refine Be (lo:=wr.heap.size) (n:=G.length) (xs:=Ch Ae G) (m:=1) (news:=[.int .i64 x.e, .int .i64 x.p, .int .i64 x.f, .bool x.w]) rfl rfl 98 (.agg #[.int .i64 0, .int .i64 0, .int .i64 0, .bool false]) 4 32 underlying26 Tryz.zH rfl (by decide) rfl Q2.out rfl Q4.out (by simp[xE]) (by unfold maxLen;omega) (by omega) eK ?_;intro o' w9 k1 k2 k3 k4));go_ret;exact⟨_,rfl,by rw[P.out];unfold AP;rw[Bl,El,yl];exact BR k1 hb.size,bv.trans (k4.mono hb.size)⟩
theorem JK {g T:Nat} {a b c d e f:Value} (h:w.heap[g]? =some (.cells #[a,b,c,d,e,f] T (0,0))):w.cell? ⟨g,0,none⟩=some a/\w.cell? ⟨g,1,none⟩=some b/\w.cell? ⟨g,2,none⟩=some c/\w.cell? ⟨g,3,none⟩=some d/\w.cell? ⟨g,4,none⟩=some e/\w.cell? ⟨g,5,none⟩=some f:=
 ⟨yi _ _ 0 _ _ _ h,yi _ _ 1 _ _ _ h,yi _ _ 2 _ _ _ h,yi _ _ 3 _ _ _ h,yi _ _ 4 _ _ _ h,yi _ _ 5 _ _ _ h⟩
theorem KI (m iv ev cv:Value) (k:AN) (kk e a b c:Int) (nm:ByteArray) (kind:Int) (w:World) (h:MM w m iv ev cv k) (hk:DI k) (he:0<=e/\e<3) (cM:kind=0∨kind=1):
 Calls prog 245 #[.agg #[m,iv,ev,cv], .agg #[.int .i64 kk, .int .i64 e, .int .i64 a, .int .i64 b, .int .i64 c, .string nm], .int .i64 kind] w fun r w'=>r= .returned (.int .i64 (Bx k ⟨kk,e,a,b,c,nm⟩ kind))/\Below w.heap.size w w':=by
 obtain⟨N0,N1,ar,cY⟩:=Jp w (.cells #[m,iv,ev,cv] 28) (.cells #[.int .i64 kk, .int .i64 e, .int .i64 a, .int .i64 b, .int .i64 c, .string nm] 79);obtain⟨x0,x1,x2,x3⟩:=AF N0;obtain⟨y0,y1,y2,y3,y4,y5⟩:=JK N1;have cC:=AY N0;have cZ:=AY N1
 by_cases ha:Bd a 0 11=true
 .obtain⟨an,rfl⟩:∃an:Nat,a=(an:Int):=⟨a.toNat,by have:=(Ac.1 ha).1;omega⟩
  obtain⟨en,rfl⟩:∃en:Nat,e=(en:Int):=⟨e.toNat,by omega⟩
  have fW:an<12:=by have:=(Ac.1 ha).2;omega
  have c4:en<3:=by omega
  have hl:=(A0.1 (Aw hk).2.1).1;have FC:=AA (show Bx k ⟨kk,(en:Int),(an:Int),b,c,nm⟩ kind=if(zU k.Os an).k=0 then 3 else if Bv (AJ k.zZ en).zV (zU k.Os an).g=false then 1
   else if(0<kind/\(zU k.Os an).k≠kind)∨(kind=0/\Bb (zU k.Os an).k=false) then 3 else 0 by unfold Bx;simp[ha])
  have d5:=Cb (Aw hk).2.1 _ (yg (Ci (show an<k.Os.length by omega)));have CM:=AA (fun W (hW:Below _ _ W)=>JP m iv ev cv k en (zU k.Os an).g W ((h.2.2.1.below ar).below hW) hk c4 d5);obtain⟨ai,ci,rfl,_,_,HI⟩:=BJ.open Az (by decide) (BJ.below h.2.1 ar);obtain⟨bi,ab,rfl,a6,D0,D1,_⟩:=HI.zR (show an<k.Os.length by omega);have fX:(an:Int)<k.Os.length:=by omega
  have HA:=AA ha;have cB:¬(an:Int)<0:=by omega
  clear h hk N0 N1 HI ha hl d5 he;generalize hW0:(w.alloc _).alloc _=W0 at x0 x1 x2 x3 y0 y1 y2 y3 y4 y5 D0 D1 cC cZ a6 CM ar;generalize(zU k.Os an).g=gd at D1 CM FC;generalize(zU k.Os an).k=kd at D0 FC;generalize Bv (AJ k.zZ en).zV gd=mb at CM FC
  by_cases e0:kd=0
  .have t0:(kd==0)=true:=by simp[e0]
   have R:=AA (show Bx k ⟨kk,(en:Int),(an:Int),b,c,nm⟩ kind=3 by rw[FC.out,if_pos e0]);clear e0;go_in;go_wp2_with fail;refine(Dx _ _).mono ?_;rintro r w2 ⟨rfl,rfl⟩;rw[HA.out];go_wp2_with fail;go_ret;exact⟨Cn R.out.symm,ar⟩
  .have t0:(kd==0)=false:=by simp[e0]
   have dd:=AA (show Bx k ⟨kk,(en:Int),(an:Int),b,c,nm⟩ kind=if mb=false then 1
    else if(0<kind/\kd≠kind)∨(kind=0/\Bb kd=false) then 3 else 0 by rw[FC.out,if_neg e0])
   clear e0 FC;go_in;go_wp2_with fail;refine(Dx _ _).mono ?_;rintro r w2 ⟨rfl,rfl⟩;rw[HA.out];go_wp2_with fail;refine Aa 11 64 [.a #[m, .slice (some ⟨bi,ab,none⟩) k.Os.length ci,ev,cv], .p (w.heap.size+1) 1, .i ((en:Int)), .p w.heap.size 1, .v (.slice (some ⟨bi,ab,none⟩) k.Os.length ci), .p (w.heap.size+1) 2, .i ((an:Int)), .p bi (ab+an*3), .p bi (ab+an*3+1), .t gd, .b mb] (fun _ _ _=>True) ?_ ?_
   .intro i hi o ho a wx Hb Hd hG K HK
    have bb:=bc hG cC x0;have ba:=bc hG cC x1;have bh:=bc hG cC x2;have bu:=bc hG cC x3;have fF:=bc hG cZ y1;have fE:=bc hG cZ y2;have fD:=bc hG a6 D1
    match i,hi with
    |0,_=>exact sL ho HK Hb Hd (hl:=NZ ‹_› ‹_› ‹_› ‹_›)
    |1,_|3,_|5,_|8,_=>exact sP ho HK Hb Hd
    |2,_|6,_=>exact sL ho HK Hb Hd (hl:=Fo ‹_›)
    |4,_=>exact sL ho HK Hb Hd (hl:=GF ‹_›)
    |7,_=>exact sI ho HK Hb Hd (hr:=by clear Hd Hb HK;go_simp)
    |9,_=>exact sL ho HK Hb Hd (hl:=Yf ‹_›)
    |10,_=>exact sD ho HK Hb Hd (CM.out _ hG)
   .intro vs wx hR hG
    have dY:(vs 10)= .bool mb:=BZ hR 10;clear hR;simp only[Al,AV,yE,yB,yA,yy,dY];simp;clear dY;have ez:=(hG.cell (p:=⟨bi,ab+an*3,none⟩) a6).trans D0;have fC:=(hG.cell (p:=⟨w.heap.size,1,none⟩) cC).trans x1;have fB:=(hG.cell (p:=⟨w.heap.size+1,2,none⟩) cZ).trans y2;have bv:=ar.trans (hG.mono ar.size);clear D0 D1 x0 x1 x2 x3 y0 y1 y2 y3 y4 y5 hG CM;cases mb
    .have R:=AA (show Bx k ⟨kk,(en:Int),(an:Int),b,c,nm⟩ kind=1 by rw[dd.out];rfl)
     go_wp2_with fail;go_ret;exact⟨Cn R.out.symm,bv⟩
    .rcases cM with rfl|rfl
     .have R:=AA (show Bx k ⟨kk,(en:Int),(an:Int),b,c,nm⟩ 0=if Bb kd=false then 3 else 0 by rw[dd.out];simp)
      go_wp2_with fail;refine(FT _ _).mono ?_;rintro r w2 ⟨rfl,rfl⟩;generalize Bb kd=tb at R;cases tb
      .go_wp2_with fail
       go_ret;exact⟨Cn R.out.symm,bv⟩
      .go_wp2_with fail
       go_ret;exact⟨Cn R.out.symm,bv⟩
     .by_cases e1:kd=1
      .have t1:(kd !=1)=false:=by simp[e1]
       have R:=AA (show Bx k ⟨kk,(en:Int),(an:Int),b,c,nm⟩ 1=0 by rw[dd.out];simp[e1]);clear e1;go_wp2_with fail;go_ret;exact⟨Cn R.out.symm,bv⟩
      .have t1:(kd !=1)=true:=by simp[e1]
       have R:=AA (show Bx k ⟨kk,(en:Int),(an:Int),b,c,nm⟩ 1=3 by rw[dd.out];simp[e1]);clear e1;go_wp2_with fail;go_ret;exact⟨Cn R.out.symm,bv⟩
 .have dC:Bd a 0 11=false:=by simpa using ha
  have R:=AA (show Bx k ⟨kk,e,a,b,c,nm⟩ kind=3 by unfold Bx;simp[dC]);have HA:=AA dC;clear ha dC h hk;go_in;go_wp2_with fail;refine(Dx _ _).mono ?_;rintro r w2 ⟨rfl,rfl⟩;rw[HA.out];go_wp2_with fail;go_ret;exact⟨Cn R.out.symm,ar⟩
end Go.Proofs.YtinbcpipjfljeaaGreatDoor
