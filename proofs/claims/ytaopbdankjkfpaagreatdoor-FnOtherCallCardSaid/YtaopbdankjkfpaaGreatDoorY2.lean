/-
  Packed:30 texts.
-/
import Derived.Test.YtaopbdankjkfpaaGreatDoorY1
import Derived.Deep.DeepCutAuto
import Derived.Deep.CutBlock
set_option linter.unusedVariables false
set_option linter.unusedSimpArgs false
set_option maxHeartbeats 16000000
set_option maxRecDepth 100000
open Go Go.Proofs.YtaopbdankjkfpaaGreatDoor
open And renaming intro->yk
open Bool renaming and_eq_true->yD,eq_iff_iff->xi,or_eq_true->xP
open Go.Builtin renaming clear_->tY,zeroCells->xY
open Go.Proofs.Tryz renaming results66->uD
open Go.RowKit.Below renaming refl->yO
open Go.Value renaming int->ym,oneCell'->xR,slice->xB
open Go.Value.slice renaming injEq->xS
open Go.World renaming block_lt_of_cell?->yM,ownsRow_nil->xv,size_alloc->xK
open Go.World.ownsRow renaming cellAt->xx,frozenAt->xT,lt->yB,stored->wm
open Go renaming bodyPost_ret->yC,cell_of_row->yz,cell_regrown->yy,heap_alloc_new->yw,heap_setCell_same->yF
open Int renaming toNat_natCast->yq
open List renaming all_eq_false->xh,all_eq_true->yr,append_nil->se,contains_iff_mem->vI,countP_cons->xA,count_le_length->vx,drop_eq_getElem_cons->tK,drop_eq_nil_of_le->tz,filter_append->wF,filter_cons->vS,filter_nil->vo,foldl_append->vJ,foldl_cons->yK,foldl_nil->yI,getD_eq_getElem?_getD->yg,getElem?_eq_getElem->yH,getElem?_eq_none->tp,getElem?_eq_some_iff->yE,getElem?_map->xz,getElem?_of_mem->xq,getElem?_range->sU,getElem?_set->we,getElem?_set_ne->wE,getElem?_set_self->xJ,getElem_of_mem->xl,length_append->yA,length_cons->vY,length_drop->xm,length_filter_le->xL,length_nil->wY,length_replicate->uz,length_set->yi,length_singleton->xQ,length_take->yt,lt_irrefl->rW,map_append->xN,map_set->vj,mem_append->wM,mem_filter->wO,mem_flatMap->wV,mem_map->vZ,mem_of_getElem?->yx,mem_range->yj,mem_singleton->xF,pairwise_iff_getElem->wP,range->yN,range_succ->xI,replicate->yd,set_eq_of_length_le->tE,set_set->ug,takeWhile->rV,takeWhile_append_dropWhile->xD,takeWhile_cons->sT,take_length->xG,take_of_length_le->xo
open List.range renaming loop->yJ
open Nat renaming add_zero->xU,eq_zero_or_pos->wC,le_of_eq->vd,le_refl->yG,le_trans->yL,lt_of_lt_of_le->yv,mul_comm->tq,mul_one->wR,zero_add->wK,zero_le->yu
variable {ss:List ByteArray} {s x:ByteArray} {a b f ge gi n:Nat} {r:List Int} {w':World} {u v:Value} {kind:Int} {l:List AV} {V:List Value} {es:List Em} {R:AU} {p:AR}
namespace Go.Proofs.YtaopbdankjkfpaaGreatDoor
open Go.Proofs.Tryz
open Go.RowKit Go.Shelf
def aR(ss:List ByteArray)(x:ByteArray)(t:Nat):ByteArray:=if t<ss.length then Cp ss t else x
theorem U9{k:Nat}(h:k<ss.length):ss[k]=Cp ss k:=by simp[Cp,h]
def Dy(ss:List ByteArray)(x:ByteArray):Nat:=(ss.takeWhile λy=>!M8 y x).length
theorem LE:Dy ss x<=ss.length:=(List.takeWhile_prefix _).length_le
theorem Qa(x:ByteArray):M9 x x=false:=by
 cases h:M9 x x
 .rfl
 .have:=LA.1 h
  exact absurd this (rW _)
theorem Nk{t:Nat}(h:t<Dy ss x):M9 (Cp ss t) x=true:=by
 have hm:Cp ss t∈ss.takeWhile λy=>!M8 y x:=by
  have A:(ss.takeWhile λy=>!M8 y x)[t]?=ss[t]? :=by
   rw[<-xD (p:=λy=>!M8 y x) (l:=ss)];rw[xD]
   conv=>rhs;rw[<-xD (p:=λy=>!M8 y x) (l:=ss)]
   rw[List.getElem?_append_left h]
  have hl:t<ss.length:=yv h LE;rw[Gl hl] at A;exact yx A
 simpa[Mt] using Lu hm
theorem Nl(hs:ss.Pairwise (λa b=>M9 a b=true)){t:Nat}(h:Dy ss x<=t)(ht:t<ss.length):M9 (Cp ss t) x=false:=by
 have hp:M9 (Cp ss (Dy ss x)) x=false:=by
  have ay:Dy ss x<ss.length:=by omega
  have A:(ss.dropWhile λy=>!M8 y x).head?=some (Cp ss (Dy ss x)):=by
   have e:=xD (p:=λy=>!M8 y x) (l:=ss);have H:(rV (λy=>!M8 y x) ss++List.dropWhile (λy=>!M8 y x) ss)[(rV (λy=>!M8 y x) ss).length]?=some (Cp ss (Dy ss x)):=by rw[e];exact Gl ay
   rw[List.getElem?_append_right (yG _)] at H;simp only[Nat.sub_self] at H;rw[List.head?_eq_getElem?];exact H
  have h3:=List.head?_dropWhile_not (λy=>!M8 y x) ss;rw[A] at h3;simpa[Mt] using h3
 by_cases e:t=Dy ss x
 .rw[e];exact hp
 .cases hx:M9 (Cp ss t) x
  .rfl
  .exfalso
   rw[wP] at hs;have h4:=hs (Dy ss x) t (by omega) ht (by omega);have e1:ss[Dy ss x]'(by omega)=Cp ss (Dy ss x):=U9 _;have e2:ss[t]=Cp ss t:=by simp[Cp,ht]
   rw[e1,e2] at h4;rw[Oa h4 hx] at hp;cases hp
theorem Ua(hs:ss.Pairwise (λa b=>M9 a b=true)):Lib.bsGo (λt=>Op.bytesLess (aR ss x t).toList x.toList) ss.length 0 ss.length=Dy ss x:=by
 refine Lib.bsGo_spec _ (Dy ss x) (λt ht=>?_) (λt ht=>?_) _ _ _ (by omega) (by omega) LE
 .have hl:t<ss.length:=yv ht LE
  simp only[aR,hl,if_true];exact Nk ht
 .by_cases hl:t<ss.length
  .simp only[aR,hl,if_true]
   exact Nl hs ht hl
  .simp only[aR,hl,if_false]
   exact Qa x
theorem XH(hs:ss.Pairwise (λa b=>M9 a b=true)):(decide (Dy ss x<ss.length/\aR ss x (Dy ss x)=x))=ss.any (λy=>decide (y=x)):=by
 rw[xi,decide_eq_true_eq,Ks];constructor
 .rintro⟨A,H⟩
  simp only[aR,A,if_true] at H;exact⟨_,yx (Gl A),by simp[H]⟩
 .rintro⟨y,hy,he⟩
  obtain rfl:y=x:=by simpa using he
  obtain⟨j,hj,rfl⟩:=IM (d:=⟨#[]⟩) hy;have e:Dy ss (ss.getD j ⟨#[]⟩)=j:=by
   rcases Nat.lt_trichotomy (Dy ss (ss.getD j ⟨#[]⟩)) j with h|h|h
   .exfalso
    have A:=Nl hs (yG _) (x:=ss.getD j ⟨#[]⟩) (by omega);rw[wP] at hs;have h4:=hs _ j (by omega) hj h;have e1:ss[Dy ss (ss.getD j ⟨#[]⟩)]'(by omega)=Cp ss (Dy ss (ss.getD j ⟨#[]⟩)):=U9 _;have e2:ss[j]=ss.getD j ⟨#[]⟩:=by simp[hj]
    rw[e1,e2,A] at h4;cases h4
   .exact h
   .exfalso
    have:=Nk h;rw[show Cp ss j=ss.getD j ⟨#[]⟩ from rfl,Qa] at this;cases this
  rw[e];exact⟨hj,by simp[aR,hj,Cp]⟩
theorem VE:Cg ss (Dy ss x) x=QE ss x:=by
 have mf:∀h1 B:List ByteArray,h1++B=ss->ss.take h1.length=h1/\ss.drop h1.length=B:=by rintro h1 B rfl;simp
 obtain⟨k1,k2⟩:=mf _ _ (xD (p:=λy=>!M8 y x) (l:=ss));unfold Cg QE Dy;rw[k1,k2]
theorem OI(v:Value)(ss:List ByteArray)(x:ByteArray)(w:World)(h:BT w v ss)(hs:BS ss=true):
 Calls prog 194 #[v,.string x] w λe w'=>e=.returned (.tuple #[.int .i64 ((Dy ss x:Nat):Int),.bool (ss.any λy=>decide (y=x))])/\Below w.heap.size w w':=by
 obtain⟨A,H,h3⟩:=Eh.1 hs;obtain⟨a,c,rfl,hc,cw,H0⟩:=BG.open FJ (by decide) h
 by_cases h0:ss.length=0
 .obtain rfl:ss=[]:=List.eq_nil_of_length_eq_zero h0
  refine(Any2.slices_BinarySearch_string_empty Tryz.lays2n26 a c x w).mono ?_;rintro e w' ⟨rfl,rfl⟩;exact⟨rfl,yO _ _⟩
 .obtain⟨b,a6,rfl,_⟩:=H0.str (show 0<ss.length by omega)
  have bL:∀j,j<ss.length->w.cell? ⟨b,a6+j,none⟩=some (.string (aR ss x j)):=by intro j hj;obtain⟨b',fZ,e,Hb⟩:=H0.str hj;cases e;simp only[aR,hj,if_true];exact Hb
  have iF:=Any2.slices_BinarySearch_string Tryz.lays2n26 b a6 ss.length c (aR ss x) x w (by omega) bL;rw[Ua H,XH H] at iF;exact Nn (iF.mono λe w' ⟨he,hq⟩=>⟨he,hq⟩)
def ZA(w:World)(ss:List ByteArray)(x:ByteArray)(e:Ending)(w':World):Prop:=∃v',e=.returned (.tuple #[v',.bool (BR ss x).2])/\AO w.heap.size 9 1 Ay w' v' (BR ss x).1/\Below w.heap.size w w'
theorem Rn(v:Value)(ss:List ByteArray)(x:ByteArray)(w:World)(h:BT w v ss)(hs:DH ss)(hx:x.size<=maxLen)(aq:BS ss=true)(hr:BO x=true):
 Calls prog 153 #[v,.string x] w (ZA w ss x):=by
 have hl:=(Eh.1 aq).2.2;have C1:=AA (by have:=Gh v ss w h hs;rw[aq] at this;exact this);have CX:=AA (λW=>by have:=DZ x W hx;rw[hr] at this;exact this);have CB:=AA (λW (hW:Below w.heap.size w W)=>OI v ss x W (BG.below h hW) aq);have C2:=AA (λW (hW:Below w.heap.size w W)=>JJ v ss W (BG.below h hW) (by omega));obtain⟨a,c,rfl,hc,cw⟩:=h.shape;have ew:ss.any (λy=>decide (y=x))=true->BR ss x=(ss,true):=λh=>by unfold BR;rw[if_pos h]
 have lk:ss.any (λy=>decide (y=x))=false->ss.length=6->BR ss x=(ss,false):=λh h6=>by unfold BR;rw[if_neg (by simp[h]),if_pos h6]
 have cy:ss.any (λy=>decide (y=x))=false->ss.length≠6->BR ss x=(Cg ss (Dy ss x) x,true):=λh h6=>by unfold BR;rw[if_neg (by simp[h]),if_neg h6,VE]
 have nd:=AA ew;have nf:=AA lk;have na:=AA cy;have du:=LE (ss:=ss) (x:=x);clear h aq hs hx hr ew lk cy;go_in;go_wp2_with fail;refine(C1.out).mono ?_;rintro r w1 ⟨rfl,be⟩;go_wp2_with fail;refine(CX.out _).mono ?_;rintro r w2 ⟨rfl,ad⟩;replace ad:=be.trans (ad.mono be.size);clear be;go_wp2_with fail;refine(CB.out _ ad).mono ?_;rintro r w3 ⟨rfl,dk⟩;replace dk:=ad.trans (dk.mono ad.size);clear ad;have C3:=AA (C2.out _ dk);have s3:=dk.size;cases eB:ss.any (λy=>decide (y=x))
 .by_cases h6:ss.length=6
  .have hi:=AA (nf.out eB h6)
   have t6:((ss.length:Int)==6)=true:=by simp[h6]
   clear eB h6;go_wp2_with (refine(C3.out).mono ?_;rintro r w4 ⟨v4,rfl,hO,bA⟩);go_ret2;exact⟨_,by rw[hi.out];rfl,by rw[hi.out];exact hO.lower s3,dk.trans (bA.mono s3)⟩
  .have hi:=AA (na.out eB h6)
   have t6:((ss.length:Int)==6)=false:=by rw[beq_eq_false_iff_ne];omega
   clear eB h6;go_wp2_with fail;refine(C3.out).mono ?_;rintro r w4 ⟨v4,rfl,hO,bA⟩;have lv:=hO.below (AJ w4 (.cells #[.string x] 9));have CI:=AA (OO v4 ss x (w4.alloc (.cells #[.string x] 9)) lv (yL bA.size (AJ _ _).size) du (by omega) (yw _ _) (λg K=>by have:=(yB hO g K).2;omega));have fb:=bA.trans ((AJ w4 (.cells #[.string x] 9)).mono bA.size);clear hO lv bA;go_wp2_with (refine(CI.out).mono ?_;rintro r w6 ⟨v6,rfl,jm,kg⟩);go_ret2;exact⟨_,by rw[hi.out];rfl,by rw[hi.out];exact jm.lower s3,dk.trans ((fb.trans kg).mono s3)⟩
 .have hi:=AA (nd.out eB)
  clear eB;go_wp2_with (refine(C3.out).mono ?_;rintro r w4 ⟨v4,rfl,hO,bA⟩);go_ret2;exact⟨_,by rw[hi.out];rfl,by rw[hi.out];exact hO.lower s3,dk.trans (bA.mono s3)⟩
end Go.Proofs.YtaopbdankjkfpaaGreatDoor
namespace Go.Proofs.YtaopbdankjkfpaaGreatDoor
open Go.Proofs.Tryz Go.RowKit
theorem LZ.word{w:World}{a:Option Addr}{m:List (List Int)}(h:LZ w a m)(aq:Bq m=true){f i:Nat}(hf:f<12)(E:i<4):
 ∃b a6 b2 cb c2,a=some ⟨b,a6,none⟩/\b<w.heap.size/\w.cell? ⟨b,a6+f,none⟩=some (.slice (some ⟨b2,cb,none⟩) 4 c2)/\b2<w.heap.size/\w.cell? ⟨b2,cb+i,none⟩=some (.int .i64 (Au m f i)):=by
 obtain⟨hl,hr⟩:=Ah.1 aq;obtain⟨b,a6,u,rfl,ay,hc,ja⟩:=h f (by omega);have h4:=(A6.1 (hr f hf)).1;obtain⟨a2,c2,rfl,_,_,h2⟩:=ja.open;obtain⟨b2,cb,rfl,gj,fS⟩:=h2.cellAt (show i<(AH m f).length by omega);rw[h4] at hc;exact⟨b,a6,b2,cb,c2,rfl,ay,hc,gj,fS⟩
theorem Gg{m:List (List Int)}(aq:Bq m=true){f i:Nat}(hf:f<12)(E:i<4):0<=Au m f i/\Au m f i<=9999:=by obtain⟨hl,hr⟩:=Ah.1 aq;obtain⟨h4,hw⟩:=A6.1 (hr f hf);exact hw _ (Di (by omega))
def Lx(f a:Nat)(b:Bool):Value:=.agg #[.int .i64 f,.int .i64 ((a%4:Nat):Int),.bool b]
def Ez:Value:=.agg #[.int .i64 0,.int .i64 0,.bool false]
def IV(m:List (List Int))(root a:Nat):Value:=.tuple #[if(Bv m root a).1=0 then Lx (Bv m root a).2.1 a (Bv m root a).2.2 else Ez,.int .i64 (Bv m root a).1]
theorem Vr(v:Value)(m:List (List Int))(root a:Nat)(w:World)(h:Bf w v m)(aq:Bq m=true)(hr:root<12)(ha:a<64):
 Calls prog 66 #[v,.int .i64 root,.int .i64 a] w λe w'=>e=.returned (IV m root a)/\Below w.heap.size w w':=by
 obtain⟨q,c,rfl,hc,cw,H0⟩:=h.open;have hl:=(Ah.1 aq).1;unfold maxLen at cw;rw[hl] at hc ⊢;have hA:=AA (λW=>Pr a W ha);obtain⟨b,a6,b2,cb,c2,rfl,J,Hb,ad,D2⟩:=H0.word aq hr (show a/16<4 by omega);have D':=((AJ w (.cells #[.int .i64 0,.int .i64 0,.bool false] 98)).cell (p:=⟨b,a6+root,none⟩) J).trans Hb;have kE:=((AJ w (.cells #[.int .i64 0,.int .i64 0,.bool false] 98)).cell (p:=⟨b2,cb+a/16,none⟩) ad).trans D2;have jL:=Gg aq hr (show a/16<4 by omega);have E1:=AA (λW=>FL (Au m root (a/16)) W (by omega));have hB:=AJ w (.cells #[.int .i64 0,.int .i64 0,.bool false] 98);cases ds:Bn (Au m root (a/16))
 .have S:=AA (show IV m root a=.tuple #[Ez,.int .i64 1] by simp[IV,Bv,ds])
  have V1:=AA (Eg ds);clear H0 Hb D2 ds jL J ad;go_in;go_wp2_with (first|(go_at_call 130;refine(hA.out _).mono ?_;rintro e w' ⟨rfl,rfl⟩)|(go_at_call 121;refine(E1.out _).mono ?_;rintro e w' ⟨rfl,rfl⟩;rw[V1.out]));exact yC (v:=.tuple #[Ez,.int .i64 1]) (by simp[results,uD,go_sem,Ez]) rfl ⟨by rw[S.out],hB⟩
 .have ht:BM (Au m root (a/16))<12:=ET ds
  have V1:=AA (Ed ds);obtain⟨b',fZ,b3,jH,c3,e,eF,D3,dk,D4⟩:=H0.word aq ht (show a/4%4<4 by omega);cases e;have n5:=((AJ w (.cells #[.int .i64 0,.int .i64 0,.bool false] 98)).cell (p:=⟨b,a6+BM (Au m root (a/16)),none⟩) J).trans D3;have n4:=((AJ w (.cells #[.int .i64 0,.int .i64 0,.bool false] 98)).cell (p:=⟨b3,jH+a/4%4,none⟩) dk).trans D4;have ig:=Gg aq ht (show a/4%4<4 by omega);have E2:=AA (λW=>FL (Au m (BM (Au m root (a/16))) (a/4%4)) W (by omega));cases eZ:Bn (Au m (BM (Au m root (a/16))) (a/4%4))
  .have S:=AA (show IV m root a=.tuple #[Ez,.int .i64 2] by simp[IV,Bv,ds,eZ])
   have V2:=AA (Eg eZ);clear H0 Hb D2 D3 D4 ds eZ jL ig J ad dk eF;go_in;go_wp2_with fail;refine(hA.out _).mono ?_;rintro e w' ⟨rfl,rfl⟩;go_wp2_with fail;refine(E1.out _).mono ?_;rintro e w' ⟨rfl,rfl⟩;rw[V1.out];go_wp2_with (refine(E2.out _).mono ?_;rintro e w' ⟨rfl,rfl⟩;rw[V2.out]);exact yC (v:=.tuple #[Ez,.int .i64 2]) (by simp[results,uD,go_sem,Ez]) rfl ⟨by rw[S.out],hB⟩
  .have S:=AA (show IV m root a=.tuple #[.agg #[.int .i64 ((BM (Au m (BM (Au m root (a/16))) (a/4%4)):Nat):Int),.int .i64 ((a%4:Nat):Int),.bool (Kv (Au m root (a/16))&&Kv (Au m (BM (Au m root (a/16))) (a/4%4)))],.int .i64 0] by simp[IV,Bv,ds,eZ,Lx])
   have V2:=AA (Ed eZ);cases hx:Kv (Au m root (a/16))
   all_goals
    rw[hx] at V1 S;clear H0 Hb D2 D3 D4 ds eZ jL ig J ad dk eF hx;go_in;go_wp2_with fail;refine(hA.out _).mono ?_;rintro e w' ⟨rfl,rfl⟩;go_wp2_with fail;refine(E1.out _).mono ?_;rintro e w' ⟨rfl,rfl⟩;rw[V1.out];go_wp2_with fail;refine(E2.out _).mono ?_;rintro e w' ⟨rfl,rfl⟩;rw[V2.out];go_wp2_with fail
   .exact yC (v:=.tuple #[.agg #[.int .i64 ((BM (Au m (BM (Au m root (a/16))) (a/4%4)):Nat):Int),.int .i64 ((a%4:Nat):Int),.bool false],.int .i64 0]) (by simp[results,uD,go_sem]) rfl ⟨by rw[S.out,Bool.false_and],(yO _ _).alloc (yG _) _⟩
   .exact yC (v:=.tuple #[.agg #[.int .i64 ((BM (Au m (BM (Au m root (a/16))) (a/4%4)):Nat):Int),.int .i64 ((a%4:Nat):Int),.bool (Kv (Au m (BM (Au m root (a/16))) (a/4%4)))],.int .i64 0]) (by simp[results,uD,go_sem]) rfl ⟨by rw[S.out,Bool.true_and],(yO _ _).alloc (yG _) _⟩
theorem LZ.row4{w:World}{a:Option Addr}{m:List (List Int)}(h:LZ w a m)(aq:Bq m=true){f:Nat}(hf:f<12):
 ∃b a6 b2 cb c2,a=some ⟨b,a6,none⟩/\b<w.heap.size/\w.cell? ⟨b,a6+f,none⟩=some (.slice (some ⟨b2,cb,none⟩) 4 c2)/\b2<w.heap.size/\4<=c2/\∀i,i<4->w.cell? ⟨b2,cb+i,none⟩=some (.int .i64 (Au m f i)):=by
 obtain⟨hl,hr⟩:=Ah.1 aq;obtain⟨b,a6,u,rfl,ay,hc,ja⟩:=h f (by omega);have h4:=(A6.1 (hr f hf)).1;obtain⟨a2,c2,rfl,fS,_,h2⟩:=ja.open;obtain⟨b2,cb,rfl,gj,_⟩:=h2.cellAt (show 0<(AH m f).length by omega);rw[h4] at hc fS;refine⟨b,a6,b2,cb,c2,rfl,ay,hc,gj,fS,λi E=>?_⟩;obtain⟨b',fZ,e,_,bL⟩:=h2.cellAt (show i<(AH m f).length by omega);cases e;exact bL
def IE(m:List (List Int))(ns:List Nat):List Nat:=ns.flatMap λn=>named (AH m n)
theorem Xz{m:List (List Int)}{ns:List Nat}{k:Nat}(h:k<ns.length):IE m (ns.take (k+1))=IE m (ns.take k)++named (AH m (ns.getD k 0)):=by rw[DF (BD (d:=0) h)];simp[IE]
theorem Jw{j:Nat}(h:j<r.length):named (r.take (j+1))=named (r.take j)++(if Bn (r.getD j 0) then[BM (r.getD j 0)] else[]):=by
 rw[DF (BD (d:=0) h)];unfold named;rw[wF,xN]
 congr 1
 rw[vS,vo]
 split<;>simp_all
theorem Lh{m:List (List Int)}(aq:Bq m=true){ns:List Nat}(N:∀n∈ns,n<12):(IE m ns).length<=4*ns.length:=by
 induction ns with
 |nil=>simp[IE]
 |cons n ns ih=>have A:=ih (λx hx=>N x (List.mem_cons_of_mem _ hx));have H:=FG (r:=AH m n);have h3:=(A6.1 ((Ah.1 aq).2 n (N n (List.mem_cons_self ..)))).1;simp only[IE,List.flatMap_cons,yA,vY] at A ⊢;omega
theorem Li{m:List (List Int)}{ns:List Nat}{g:Nat}:g∈IE m ns↔∃n∈ns,g∈named (AH m n):=by simp[IE]
theorem YI{ns:List Nat}{k:Nat}(h:k<ns.length):ns.getD k 0∈ns:=Di h
theorem OT{lo e sz:Nat}{w:World}{xs:List Value}(h:w'.ownsRow lo e sz v n xs)(K:w.grownBy w' v.ownBlock)(au:lo<=w.heap.size):Below lo w w':=(yO lo w).grown K au (λk hk=>(yB h k hk).1)
theorem QF{lo e sz:Nat}{w:World}{xs:List Value}(h:w'.ownsRow lo e sz v n xs)(hv:v.ownBlock=u.ownBlock)(K:w.grownBy w' u.ownBlock)(au:lo<=w.heap.size):Below lo w w':=OT h (hv▸K) au
def ZD(m:List (List Int))(ns:List Nat)(w:World)(e:Ending)(w':World):Prop:=∃v' ts,e=.returned v'/\AG w.heap.size w' v' (A4 ts)/\(∀g,g∈ts↔g∈IE m ns)/\ts.length<=(IE m ns).length/\Below w.heap.size w w'
theorem Sy(v v2:Value)(m:List (List Int))(ns:List Nat)(w:World)(h:Bf w v m)(aq:Bq m=true)(H:Ax w v2 (A4 ns))(N:∀n∈ns,n<12)(hl:ns.length<=1000):
 Calls prog 125 #[v,v2] w (ZD m ns w):=by
 obtain⟨q,c,rfl,hc,cw,H0⟩:=h.open;obtain⟨q2,c2,rfl,fS,gu,H2⟩:=H.open;have cn:=(Ah.1 aq).1;have eR:=Lh aq N;unfold maxLen at cw gu;rw[cn] at hc ⊢;rw[Cn] at fS ⊢;have Hn:=AA N;have ep:=AA aq;have HR:=AA H0;have HI:=AA H2;clear h H N aq H0 H2 cn;go_in;go_wp2_with fail;go_loopw [5,15] (λo i wr=>∃k:Nat,k<=ns.length/\i=.int .i64 k/\AG w.heap.size wr o (A4 (IE m (ns.take k)))/\Below w.heap.size w wr) (λ_ i _=>ns.length - (intOf i).toNat)
 exact⟨0,yu _,rfl,xv _ _ _ _,yO _ _⟩
 obtain⟨k,hk,rfl,hO,al⟩:=hrel
 by_cases ay:k<ns.length
 .obtain⟨b,a6,rfl,J,D0⟩:=HI.out.cellAt (show k<(A4 ns).length by rw[Cn];exact ay)
  rw[Qg ay] at D0;have Hb:=(al.cell (p:=⟨b,a6+k,none⟩) J).trans D0;have gf:=Hn.out _ (YI ay);obtain⟨bm,dz,br,dy,cr,rfl,gD,M0,gW,j8,W0⟩:=HR.out.row4 ep.out gf;have M:=(al.cell (p:=⟨bm,dz+ns.getD k 0,none⟩) gD).trans M0;have HW:=AA W0;have fh:=AA (A6.1 ((Ah.1 ep.out).2 _ gf)).1;have AS:=AA (Xz (m:=m) ay);generalize hnk:ns.getD k 0=nk at*;have nV:=AA hnk;have jY:(IE m (ns.take k)).length<=4*k:=by
   have:=Lh ep.out (ns:=ns.take k) (λn N=>Hn.out n (List.mem_of_mem_take N));rw[yt] at this;omega
  clear D0 M0 W0 hnk;have HO:=AA hO;have HB:=AA al;clear hO;go_wp2_with fail;clear Hb M al;obtain⟨wo,rfl⟩:∃wo:World,wo=wr:=⟨_,rfl⟩
  go_loopw [5,24] (λo i wi=>∃j:Nat,j<=4/\i=.int .i64 j/\AG w.heap.size wi o (A4 (IE m (ns.take k)++named ((AH m nk).take j)))/\Below w.heap.size w wi) (λ_ i _=>4 - (intOf i).toNat)
  exact⟨0,by omega,rfl,by simpa[named] using HO.out,HB.out⟩
  obtain⟨j,hj,rfl,fu,bC⟩:=hrel
  by_cases dv:j<4
  .have W:=(bC.cell (p:=⟨br,dy+j,none⟩) gW).trans (HW.out j dv)
   have NT:=AA (Jw (r:=AH m nk) (j:=j) (by rw[fh.out];exact dv));have wb:=Gg ep.out gf dv;have CE:=AA (λW=>FL (Au m nk j) W (by omega));have jy:=AA fu;have a8:(IE m (ns.take k)++named ((AH m nk).take j)).length<=4*k+4:=by have:=FG (r:=(AH m nk).take j);rw[yt] at this;rw[yA];omega
   have eJ:=bC.size;clear fu;cases K:Bn (Au m nk j)
   .have vs:=AA (Eg K)
    have hi:=AA (show IE m (ns.take k)++named ((AH m nk).take (j+1))=IE m (ns.take k)++named ((AH m nk).take j) by rw[NT.out,show(AH m nk).getD j 0=Au m nk j from rfl,K];simp);clear K;go_wp2_with (go_at_call 121;refine(CE.out _).mono ?_;rintro e w' ⟨rfl,rfl⟩;rw[vs.out]);go_roundw;exact⟨j+1,by omega,by go_num,by rw[hi.out];exact jy.out,bC⟩;simp[intOf];omega
   .have vs:=AA (Ed K)
    have hi:=AA (show IE m (ns.take k)++named ((AH m nk).take (j+1))=(IE m (ns.take k)++named ((AH m nk).take j))++[BM (Au m nk j)] by rw[NT.out,show(AH m nk).getD j 0=Au m nk j from rfl,K];simp);clear K;generalize IE m (ns.take k)++named ((AH m nk).take j)=acc at*;have m9:=AA (λob=>(by have:=Bl jy.out (AJ wr ob);rwa [Cn] at this:(wr.alloc ob).ownsRow w.heap.size 3 1 u5 acc.length ((A4 acc).map (ym .i64))));go_wp2_with (first|(go_at_call 121;refine(CE.out _).mono ?_;rintro e w' ⟨rfl,rfl⟩;rw[vs.out])|(at_builtin;go_must (refine EX (lo:=w.heap.size) (v:=u5) (n:=acc.length) (xs:=(A4 acc).map (ym .i64)) (m:=1) (news:=[.int .i64 ((BM (Au m nk j):Nat):Int)]) rfl rfl 3 (.int .i64 0) 1 8 underlying29 Tryz.zT rfl (by decide) rfl (m9.out _) rfl (Rd.zN _ #[_] _ 1 1 _ rfl (by simp) (by simp[maxLen])) (by simp[xR]) (by unfold maxLen;omega) (by omega) (by simp;omega) ?_;intro o' w3 k1 k2 k3)));have call:AG w.heap.size w3 o' (A4 (acc++[BM (Au m nk j)])):=by unfold AG;rw[Cn,yA];simpa[A4] using k1
    rw[<-hi.out] at call;have RR:=AA call;clear k1 k2 call;go_roundw;exact⟨j+1,by omega,by go_num,RR.out,(bC.trans ((AJ _ _).mono bC.size)).trans k3⟩;simp[intOf];omega
  .obtain rfl:j=4:=by omega
   have hi:IE m (ns.take k)++named ((AH m nk).take 4)=IE m (ns.take (k+1)):=by rw[AS.out,xo (l:=AH m nk) (i:=4) (vd fh.out)]
   rw[hi] at fu;clear hi;go_wp2_with fail;go_roundw;exact⟨k+1,by omega,by go_num,fu,bC⟩;simp[intOf];omega
 .obtain rfl:k=ns.length:=by omega
  rw[xG] at hO;have CS:=AA (NI u5 (IE m ns) wr hO (by omega));clear hO;go_wp2_with fail;refine(CS.out).mono ?_;rintro e w1 ⟨rfl,ts,t1,t2,gF,ds⟩;have be:=al.trans (OT gF ds al.size);have mp:=be.size;have CC:=AA (LM u5 ts w1 gF (by omega));clear gF ds al;go_wp2_with (refine(CC.out).mono ?_;rintro e w2 ⟨v',rfl,jN,jE,s1,s2,iO,eZ⟩);go_ret;exact⟨_,jE,rfl,iO,λg=>(s2 g).trans (t2 g),by omega,be.trans (QF iO jN eZ mp)⟩
def Mp(m:List (List Int))(root:Int)(w:World)(e:Ending)(w':World):Prop:=∃v' ts,e=.returned v'/\AG w.heap.size w' v' (A4 ts)/\(∀g,g∈ts↔g∈Ba m root)/\ts.length<=100/\Below w.heap.size w w'
theorem Yo{m:List (List Int)}{g:Nat}:g∈Ba m (n:Int)↔g=n∨g∈IE m [n]∨g∈IE m (IE m [n]):=by
 rw[Dl];simp only[yq,Li,xF,exists_eq_left];constructor
 .rintro⟨_,h⟩;exact h
 .intro h;exact⟨by omega,h⟩
theorem V8{m:List (List Int)}{a b:List Nat}(h:∀g,g∈a↔g∈b)(g:Nat):g∈IE m a↔g∈IE m b:=by
 rw[Li,Li];exact exists_congr λn=>and_congr_left λ_=>h n
theorem Lw(w:World)(x:Int):AG w.heap.size (w.alloc (.cells #[.int .i64 x] 3)) (.slice (some ⟨w.heap.size,0,none⟩) 1 1) [x]:=World.ownsRow_lit (base:=w.heap.size) w #[.int .i64 x] 1 (yG _) (by simp[maxLen]) (by simp)
theorem VG(n:Nat):A4 [n]=[(n:Int)]:=rfl
theorem Zf(a b:List Nat):A4 (a++b)=A4 a++A4 b:=by simp[A4]
theorem NM{lo:Nat}{w:World}{a b:List Nat}(h:w.ownsRow lo 3 1 v (a.length+b.length) ((A4 a).map (ym .i64)++(A4 b).map (ym .i64))):AG lo w v (A4 (a++b)):=by unfold AG;rw[Cn,yA,Zf,xN];exact h
theorem PL(v:Value)(m:List (List Int))(n:Nat)(w:World)(h:Bf w v m)(aq:Bq m=true)(N:n<12):
 Calls prog 63 #[v,.int .i64 n] w (Mp m (n:Int) w):=by
 have fN:=Lh aq (ns:=[n]) (by simpa using N);have C1:=AA (λW v2 ns (hW:Below w.heap.size w W) (H:Ax W v2 (A4 ns)) (ms:∀n∈ns,n<12) (hl:ns.length<=1000)=>Sy v v2 m ns W (by obtain⟨V,a,b⟩:=h;exact Bf.below ⟨V,a,b⟩ hW) aq H ms hl);have fM:∀ns:List Nat,∀g∈IE m ns,g<12:=by intro ns g K;obtain⟨_,_,K⟩:=Li.1 K;exact Fj K
 have eR:∀ns:List Nat,(∀g∈ns,g<12)->(IE m ns).length<=4*ns.length:=λns h=>Lh aq h
 obtain⟨q,c,rfl,hc,cw,_⟩:=h.open;have nc:=AA fM;have nn:=AA eR;have i0:(0:Int)<=(n:Int):=by omega
 clear h aq hc cw fM eR;go_in;go_wp2_with fail;have b1:=AJ w (.cells #[.int .i64 n] 3);have b2:=IH w (.cells #[.int .i64 n] 3) (.cells #[.int .i64 n] 3);have O1:=AA ((Lw w (n:Int)).below (AJ _ (.cells #[.int .i64 n] 3)));have O2:=Lw (w.alloc (.cells #[.int .i64 n] 3)) (n:Int);rw[xK] at O2;refine(C1.out _ _ [n] b2 (by rw[VG];exact AG.rd O2) (by simpa using N) (by simp)).mono ?_;rintro e w1 ⟨v1,t1,rfl,P1,m1,l1,be⟩;have Q1:=AA (O1.out.below be);have B1:=b2.trans (be.mono b2.size);have s1:=B1.size;obtain⟨a1,c1,rfl,_,_,_⟩:=P1.rd.open;have kx:=AA (AG.rd P1);rw[Cn] at kx ⊢;clear be b1 b2 O2 P1 O1;have R1:=AA (show Rd w1 (.slice a1 t1.length c1) 1 t1.length ((A4 t1).map (ym .i64)) by have:=kx.out;unfold Ax at this;rwa [Cn] at this);have A:t1.length<=4:=by simp at fN;omega
 go_wp2_with (at_builtin;go_must (refine EX (lo:=w.heap.size) (v:=.slice (some ⟨w.heap.size,0,none⟩) 1 1) (n:=1) (xs:=[.int .i64 n]) (m:=t1.length) (news:=(A4 t1).map (ym .i64)) rfl rfl 3 (.int .i64 0) 1 8 underlying29 Tryz.zT rfl (by decide) rfl Q1.out rfl R1.out Lt (by unfold maxLen;omega) (by omega) (by omega) ?_;intro o2 w2 k1 k2 k3));have O3:=AA (NM (a:=[n]) k1);have B2:=B1.trans k3;have s2:=B2.size;clear k1 k2 k3 Q1 R1 kx B1;have b3:=B2.trans ((AJ w2 (.cells #[.int .i64 n] 3)).mono s2);have O4:=AA (O3.out.below (AJ w2 (.cells #[.int .i64 n] 3)));have CN:=AA (C1.out _ _ [n] b3 (by rw[VG];exact AG.rd (Lw w2 (n:Int))) (by simpa using N) (by simp));clear O3;go_wp2_with fail;refine(CN.out).mono ?_;rintro e w3 ⟨v3,t3,rfl,P3,m3,l3,dk⟩;have O5:=AA (O4.out.below dk);have B3:=b3.trans (dk.mono b3.size);have s3:=B3.size;have h3:t3.length<=4:=by simp at fN;omega
 have hC:∀g∈t3,g<12:=λg K=>nc.out _ g ((m3 g).1 K)
 have CM:=AA (C1.out _ v3 t3 B3 (AG.rd P3) hC (by omega));have h4:=nn.out t3 hC;have M3:=AA m3;have M1:=AA m1;clear dk b3 P3 O4 CN m3 m1;go_wp2_with fail;refine(CM.out).mono ?_;rintro e w4 ⟨v4,t4,rfl,P4,m4,l4,bA⟩;have O6:=AA (O5.out.below bA);have lH:=AA (show w4.ownsRow w.heap.size 3 1 o2 ([n]++t1).length ((A4 ([n]++t1)).map (ym .i64)) by have:=O6.out;unfold AG at this;rwa [Cn] at this);have B4:=B3.trans (bA.mono s3);have s4:=B4.size;have R4:=AA (show Rd w4 v4 1 t4.length ((A4 t4).map (ym .i64)) by have:=AG.rd P4;unfold Ax at this;rwa [Cn] at this);have M4:=AA m4;have nD:([n]++t1).length<=5:=by simp;omega
 clear bA P4 m4 O5;have bY:=AA (show ∀g,g∈(([n]++t1)++t4)↔g∈Ba m (n:Int) by intro g;rw[Yo,wM,wM,xF,M1.out,M4.out,V8 M3.out,or_assoc])
 generalize[n]++t1=acc at*;go_wp2_with (at_builtin;go_must (refine EX (lo:=w.heap.size) (v:=o2) (n:=acc.length) (xs:=(A4 acc).map (ym .i64)) (m:=t4.length) (news:=(A4 t4).map (ym .i64)) rfl rfl 3 (.int .i64 0) 1 8 underlying29 Tryz.zT rfl (by decide) rfl lH.out rfl R4.out Lt (by unfold maxLen;omega) (by omega) (by omega) ?_;intro o5 w5 k1 k2 k3));have O7:=NM k1;have B5:=B4.trans k3;have s5:=B5.size;have gp:(acc++t4).length<=21:=by rw[yA];omega
 have CS:=AA (NI o5 (acc++t4) w5 O7 (by omega));generalize acc++t4=fin at*;clear k1 k2 k3 O7 O6 lH R4 B4;go_wp2_with fail;refine(CS.out).mono ?_;rintro e w6 ⟨rfl,ts,u1,u2,gF,ds⟩;have B6:=B5.trans (OT gF ds s5);have s6:=B6.size;have CC:=AA (LM o5 ts w6 gF (by omega));clear gF ds B5;go_wp2_with (refine(CC.out).mono ?_;rintro e w7 ⟨v',rfl,jN,jE,y1,y2,iO,eZ⟩);go_ret;exact⟨_,jE,rfl,iO,λg=>((y2 g).trans (u2 g)).trans (bY.out g),by omega,B6.trans (QF iO jN eZ s6)⟩
theorem PM(v:Value)(m:List (List Int))(r:Int)(w:World)(h:Bf w v m)(hr:r<0):Calls prog 63 #[v,.int .i64 r] w (Mp m r w):=by
 obtain⟨q,c,rfl,_,_,_⟩:=h.open;have S:=AA (show ∀g,g∈([]:List Nat)↔g∈Ba m r from λg=>⟨(λh=>by cases h),(λh=>by have:=(Dl.1 h).1;omega)⟩);clear h;go_in;go_wp2_with fail;go_ret;exact⟨_,[],rfl,xv _ _ _ _,S.out,by decide,yO _ _⟩
theorem Pu(F:Nat)(eC:Array Value)(p:Int->Bool)(v:Value)(xs:List Int)(w:World)(h:Ax w v xs)
 (hF:∀args w,(callFunc F args).run prog w=.ok (.enter F args) w)(hf:∀x,x∈xs->∀W,Below w.heap.size w W->Calls prog F (#[.int .i64 x]++eC) W λe W'=>e=.returned (.bool (p x))/\Below W.heap.size W W'):
 Calls prog 180 #[v,.func (.func F) #[] eC] w λe w'=>e=.returned (.int .i64 (GP p xs))/\Below w.heap.size w w':=by
 obtain⟨a,c,rfl,hc,cw,H0⟩:=h.open;clear h;unfold maxLen at cw;have Hf:=AA hf;clear hf;go_in;go_wp2;go_loopw [8] (λi wr=>∃k:Nat,k<=xs.length/\i=.int .i64 k/\(∀(j:Nat) x,j<k->xs[j]?=some x->p x=false)/\Below w.heap.size w wr) (λi _=>xs.length - (intOf i).toNat)
 exact⟨0,yu _,rfl,λj x hj=>absurd hj (Nat.not_lt_zero _),yO _ _⟩
 obtain⟨k,hk,rfl,ik,al⟩:=hrel;have gH:=AA ik;clear ik
 by_cases ay:k<xs.length
 .have hx:xs[k]?=some (nth xs k):=Qh ay
  obtain⟨b,a6,rfl,fo,lT⟩:=H0.cellAt ay;have D0:=(al.cell (p:=⟨b,a6+k,none⟩) fo).trans lT;clear lT;have Hx:=AA hx;have Hc:=AA (Hf.out _ (yx hx) wr al);clear hx;cases hp:p (nth xs k)
  .have Hp:=AA hp;clear hp
   go_wp2_with (refine(Hc.out).mono ?_;rintro e w' ⟨rfl,ad⟩;rw[Hp.out]);go_roundw;exact⟨k+1,by omega,by go_num,Iu gH.out Hx.out Hp.out,al.trans (ad.mono al.size)⟩;simp[intOf];omega
  .have Hp:=AA hp;clear hp
   have gd:=AA (KY Hx.out gH.out Hp.out);go_wp2_with (refine(Hc.out).mono ?_;rintro e w' ⟨rfl,ad⟩;rw[Hp.out]);go_ret;exact⟨Cl gd.out.symm,al.trans (ad.mono al.size)⟩
 .have gd:=AA (Iz (p:=p) (xs:=xs) (λj x hx=>gH.out j x (by have:=(yE.1 hx).1;omega) hx))
  go_wp2;go_ret;exact⟨Cl gd.out.symm,al⟩
theorem J3(F:Nat)(eC:Array Value)(p:Int->Bool)(v:Value)(xs:List Int)(w:World)(h:Ax w v xs)
 (hF:∀args w,(callFunc F args).run prog w=.ok (.enter F args) w)(hf:∀x,x∈xs->∀W,Below w.heap.size w W->Calls prog F (#[.int .i64 x]++eC) W λe W'=>e=.returned (.bool (p x))/\Below W.heap.size W W'):
 Calls prog 123 #[v,.func (.func F) #[] eC] w λe w'=>e=.returned (.bool (xs.any p))/\Below w.heap.size w w':=by
 have hi:=AA (KZ (p:=p) (xs:=xs));have C:=AA (Pu F eC p v xs w h hF hf);clear h hf;go_in;go_wp2_with (refine(C.out).mono ?_;rintro e w' ⟨rfl,ad⟩);go_ret;exact⟨AI hi.out,ad⟩
theorem Tm(f:Nat)(v:Value)(ss:List ByteArray)(iv:Value)(Xy:List AV)(br bk gk:Nat)(w:World)(hr:w.cell? ⟨br,0,none⟩=some v)(hk:w.cell? ⟨bk,0,none⟩=some (.pointer (some ⟨gk,0,none⟩)))
 (E:w.cell? ⟨gk,1,none⟩=some iv)(hv:BT w v ss)(hI:BW w iv Xy)(hf:f<Xy.length):
 Calls prog 124 #[.int .i64 f,.pointer (some ⟨br,0,none⟩),.pointer (some ⟨bk,0,none⟩)] w λe w'=>e=.returned (.bool (!CQ ss (Sc Xy f).g))/\Below w.heap.size w w':=by
 obtain⟨a,c,rfl,hc,cw,H0⟩:=BG.open Av (by decide) hI;obtain⟨b,a6,rfl,J,D0,D1,D2⟩:=H0.Dq hf;have M:=Tk (w1:=w) (λW hW=>Pm v ss (Sc Xy f).g W (BG.below hv hW));obtain⟨av,cv,rfl,_,_⟩:=hv.shape;have k0:=yy hr;have k1:=yy hk;have k2:=yy E;have k3:=yy D1;have f0:(f:Int)<Xy.length:=by omega
 clear H0 hI hv D0 D1 D2;go_in;go_wp2_with fail;refine BV ?_
 repeat(go_big_quiet_step (exact M _ _))
 refine BU λwq bq=>?_
 go_wp2_with fail;go_ret;exact⟨rfl,bq⟩
theorem It(gk:Nat)(v v2 iv:Value)(ss:List ByteArray)(fs:List Nat)(Xy:List AV)(w:World)(E:w.cell? ⟨gk,1,none⟩=some iv)(hv:BT w v ss)(hI:BW w iv Xy)(H:Ax w v2 (A4 fs))(iB:∀f∈fs,f<Xy.length):
 Calls prog 62 #[.pointer (some ⟨gk,0,none⟩),v,v2] w λe w'=>e=.returned (.bool (BI Xy fs ss))/\Below w.heap.size w w':=by
 have b2:=IH w (.cells #[.pointer (some ⟨gk,0,none⟩)] 81) (.cells #[v] 64);have ku:(w.alloc (.cells #[.pointer (some ⟨gk,0,none⟩)] 81)).cell? ⟨w.heap.size,0,none⟩=some (.pointer (some ⟨gk,0,none⟩)):=yz _ _ 0 _ _ _ (yw _ _);have ck:((w.alloc (.cells #[.pointer (some ⟨gk,0,none⟩)] 81)).alloc (.cells #[v] 64)).cell? ⟨w.heap.size,0,none⟩=some (.pointer (some ⟨gk,0,none⟩)):=((AJ _ _).cell (yM _ _ ku)).trans ku;have cv:((w.alloc (.cells #[.pointer (some ⟨gk,0,none⟩)] 81)).alloc (.cells #[v] 64)).cell? ⟨w.heap.size+1,0,none⟩=some v:=by
  have:=yz _ _ 0 _ _ _ (yw (w.alloc (.cells #[.pointer (some ⟨gk,0,none⟩)] 81)) (.cells #[v] 64))
  rwa [xK] at this
 have gV:=yM w _ E;have S:=AA (show(!(A4 fs).any (λx=>!CQ ss (Sc Xy x.toNat).g))=BI Xy fs ss by rw[NL];unfold A4 BI;rw[List.all_map];rfl);have C:=AA (J3 124 #[.pointer (some ⟨w.heap.size+1,0,none⟩),.pointer (some ⟨w.heap.size,0,none⟩)] (λx=>!CQ ss (Sc Xy x.toNat).g) v2 (A4 fs) _ (Ax.below H b2) (λ_ _=>by kernel_rfl) (by intro x hx W hW;obtain⟨n,N,rfl⟩:=vZ.1 hx;have J:=b2.trans (hW.mono b2.size);exact Tm n v ss iv Xy _ _ gk W ((hW.cell (yM _ _ cv)).trans cv) ((hW.cell (yM _ _ ck)).trans ck) ((J.cell gV).trans E) (BG.below hv J) (BG.below hI J) (iB n N)))
 obtain⟨a,c,rfl,_,_,_⟩:=H.open;obtain⟨a',c',rfl,_,_⟩:=hv.shape;clear hv hI H E ku ck cv iB;go_in;go_wp2_with (refine(C.out).mono ?_;rintro e w' ⟨rfl,ad⟩);go_ret;exact⟨AI S.out,b2.trans (ad.mono b2.size)⟩
theorem TA{k:Int}(h:Bi k=true):VU k=k - 1:=by unfold VU;rw[if_pos h]
theorem WR{Xy:List AV}:Fp Xy f kind ss 0=true:=MN.2 (.inr ⟨rfl,rfl⟩)
theorem YL{Xy:List AV}{x:Int}(h0:x≠0)(h:Bn x=false):Fp Xy f kind ss x=false:=by simp[Fp,h,h0]
theorem Sp{Xy:List AV}{x:Int}(h:Bn x=true):Fp Xy f kind ss x=(decide (BM x≠f)&&decide ((Sc Xy (BM x)).k=kind - 1)&&CQ ss (Sc Xy (BM x)).g):=by simp[Fp,h]
theorem YK(x:Int)(f:Nat)(kind:Int)(v iv:Value)(ss:List ByteArray)(Xy:List AV)(bf bi bk br:Nat)(w:World)(hx:x<=9223372036854775807)(A:w.cell? ⟨bf,0,none⟩=some (.int .i64 f))(H:w.cell? ⟨bi,0,none⟩=some iv)(h3:w.cell? ⟨bk,0,none⟩=some (.int .i64 kind))(h4:w.cell? ⟨br,0,none⟩=some v)
 (hv:BT w v ss)(hI:BW w iv Xy)(hl:Xy.length=12)(hk:Bi kind=true):
 Calls prog 128 #[.int .i64 x,.pointer (some ⟨bf,0,none⟩),.pointer (some ⟨bi,0,none⟩),.pointer (some ⟨bk,0,none⟩),.pointer (some ⟨br,0,none⟩)] w λe w'=>e=.returned (.bool (!Fp Xy f kind ss x))/\Below w.heap.size w w':=by
 obtain⟨a,c,rfl,hc,cw,H0⟩:=BG.open Av (by decide) hI;have CE:=AA (λW=>FL x W hx);have k1:=yy A;have k2:=yy H;have k3:=yy h3;have k4:=yy h4;have cT:=Uo (w1:=w) (λW=>Lg kind W);rw[TA hk] at cT
 by_cases ie:x=0
 .subst ie
  have vs:=AA (Eg (x:=0) rfl);have S:=AA (show(!Fp Xy f kind ss 0)=false by rw[WR];rfl);clear H0 hI hv A H h3 h4 hk hc cw;go_in;go_wp2_with (go_at_call 121;refine(CE.out _).mono ?_;rintro e w' ⟨rfl,rfl⟩;rw[vs.out]);refine BV ?_
  repeat(go_big_quiet_step (exact cT _ _))
  refine BU λwq bq=>?_
  go_wp2_with fail;go_ret;exact⟨AI S.out.symm,bq⟩
 .have t0:(x !=0)=true:=by simp[ie]
  cases K:Bn x
  .have vs:=AA (Eg K)
   have S:=AA (show(!Fp Xy f kind ss x)=true by rw[YL ie K];rfl);clear H0 hI hv A H h3 h4 hk hc cw K ie;go_in;go_wp2_with (go_at_call 121;refine(CE.out _).mono ?_;rintro e w' ⟨rfl,rfl⟩;rw[vs.out]);refine BV ?_
   repeat(go_big_quiet_step (exact cT _ _))
   refine BU λwq bq=>?_
   go_wp2_with fail;go_ret;exact⟨AI S.out.symm,bq⟩
  .have hF:=ET K
   have vs:=AA (Ed K);have G:=AA (Sp (Xy:=Xy) (f:=f) (kind:=kind) (ss:=ss) K);obtain⟨b,a6,rfl,J,D0,D1,D2⟩:=H0.Dq (show BM x<Xy.length by omega);have d0:=yy D0;have d1:=yy D1;have M:=Tk (w1:=w) (λW hW=>Pm v ss (Sc Xy (BM x)).g W (BG.below hv hW));obtain⟨av,cv,rfl,_,_⟩:=hv.shape;have i1:((BM x:Nat):Int)<Xy.length:=by omega
   clear H0 hI hv A H h3 h4 hk hc cw D0 D1 D2 ie K;generalize BM x=o at*
   by_cases e1:o=f
   .have t1:((o:Int)==(f:Int))=true:=by simp[e1]
    have S:=AA (show(!Fp Xy f kind ss x)=true by rw[G.out];simp[e1]);clear e1;go_in;go_wp2_with (go_at_call 121;refine(CE.out _).mono ?_;rintro e w' ⟨rfl,rfl⟩;rw[vs.out]);refine BV ?_
    repeat(go_big_quiet_step (first|exact cT _ _|exact M _ _))
    refine BU λwq bq=>?_
    go_wp2_with fail;go_ret;exact⟨AI S.out.symm,bq⟩
   .have t1:((o:Int)==(f:Int))=false:=by simp;omega
    by_cases e2:(Sc Xy o).k=kind - 1
    focus
     have t2:((Sc Xy o).k !=kind - 1)=false:=by simp[e2]
     have S:=AA (show(!Fp Xy f kind ss x)=!CQ ss (Sc Xy o).g by rw[G.out];simp[e1,e2])
    rotate_left
    focus
     have t2:((Sc Xy o).k !=kind - 1)=true:=by simp[e2]
     have S:=AA (show(!Fp Xy f kind ss x)=true by rw[G.out];simp[e2])
    rotate_left
    all_goals
     clear e1 e2;go_in;go_wp2_with (go_at_call 121;refine(CE.out _).mono ?_;rintro e w' ⟨rfl,rfl⟩;rw[vs.out]);refine BV ?_
     repeat(go_big_quiet_step (first|exact cT _ _|exact M _ _))
     refine BU λwq bq=>?_
     go_wp2_with fail;go_ret;exact⟨AI S.out.symm,bq⟩
theorem VA(v iv rv:Value)(m:List (List Int))(Xy:List AV)(f:Nat)(kind:Int)(ss:List ByteArray)(w:World)(h:Bf w v m)(aq:Bq m=true)(hI:BW w iv Xy)(hl:Xy.length=12)(hf:f<12)(hk:Bi kind=true)(hv:BT w rv ss):
 Calls prog 65 #[v,iv,.int .i64 f,.int .i64 kind,rv] w λe w'=>e=.returned (.bool (IU m Xy f kind ss))/\Below w.heap.size w w':=by
 obtain⟨ai,ci,rfl,_,_⟩:=hI.shape;obtain⟨av,cv,rfl,_,_⟩:=hv.shape;have b4:=cJ w (.cells #[.slice ai Xy.length ci] 24) (.cells #[.int .i64 f] 3) (.cells #[.int .i64 kind] 3) (.cells #[.slice av ss.length cv] 64);have N0:=yw w (.cells #[.slice ai Xy.length ci] 24);have N1:=yw (w.alloc (.cells #[.slice ai Xy.length ci] 24)) (.cells #[.int .i64 f] 3);have N2:=yw ((w.alloc (.cells #[.slice ai Xy.length ci] 24)).alloc (.cells #[.int .i64 f] 3)) (.cells #[.int .i64 kind] 3);have N3:=yw (((w.alloc (.cells #[.slice ai Xy.length ci] 24)).alloc (.cells #[.int .i64 f] 3)).alloc (.cells #[.int .i64 kind] 3)) (.cells #[.slice av ss.length cv] 64);simp only[xK] at N1 N2 N3;have M2:=AB N2 (AJ _ (.cells #[.slice av ss.length cv] 64));have M1:=AB N1 (IH _ (.cells #[.int .i64 kind] 3) (.cells #[.slice av ss.length cv] 64));have M0:=AB N0 (ZM _ (.cells #[.int .i64 f] 3) (.cells #[.int .i64 kind] 3) (.cells #[.slice av ss.length cv] 64));obtain⟨q,c,rfl,hc,cw,H0⟩:=h.open;have cn:=(Ah.1 aq).1;obtain⟨bm,dz,br,dy,cr,rfl,gD,Hb,gW,j8,W0⟩:=H0.row4 aq hf;have D':=(b4.cell (p:=⟨bm,dz+f,none⟩) gD).trans Hb;have rd:=(Bf.open (Bf.below h b4));have ea:Ax ((((w.alloc (.cells #[.slice ai Xy.length ci] 24)).alloc (.cells #[.int .i64 f] 3)).alloc (.cells #[.int .i64 kind] 3)).alloc (.cells #[.slice av ss.length cv] 64)) (.slice (some ⟨br,dy,none⟩) 4 cr) (AH m f):=by obtain⟨b',fZ,u,e,_,ls,hr⟩:=H0 f (by omega);cases e;rw[Hb] at ls;cases ls;exact Ax.below hr b4
 have S:=AA (show(!(AH m f).any λx=>!Fp Xy f kind ss x)=IU m Xy f kind ss by rw[NL];rfl);have hw:∀x,x∈AH m f->x<=9999:=λx hx=>((A6.1 ((Ah.1 aq).2 f hf)).2 x hx).2
 have C:=AA (J3 128 #[.pointer (some ⟨w.heap.size+1,0,none⟩),.pointer (some ⟨w.heap.size,0,none⟩),.pointer (some ⟨w.heap.size+1+1,0,none⟩),.pointer (some ⟨w.heap.size+1+1+1,0,none⟩)] (λx=>!Fp Xy f kind ss x) _ (AH m f) _ ea (λ_ _=>by kernel_rfl) (by intro x hx W hW;have J:=b4.trans (hW.mono b4.size);exact YK x f kind _ _ ss Xy _ _ _ _ W (by have:=hw x hx;omega) (yz _ _ 0 _ _ _ (AB M1 hW)) (yz _ _ 0 _ _ _ (AB M0 hW)) (yz _ _ 0 _ _ _ (AB M2 hW)) (yz _ _ 0 _ _ _ (AB N3 hW)) (BG.below hv J) (BG.below hI J) hl hk))
 have fm:(f:Int)<m.length:=by omega
 clear hv hI h ea hw N0 N1 N2 N3 M0 M1 M2 W0 rd H0 Hb hl cn aq;go_in;go_wp2_with (refine(C.out).mono ?_;rintro e w' ⟨rfl,ad⟩);go_ret;exact⟨AI S.out,b4.trans (ad.mono b4.size)⟩
def Iw(m:List (List Int))(Xy:List AV)(t j g:Nat):Nat:=
 ((yN t).map λu=>if Bi (Sc Xy u).k then(named (AH m u)).count g else 0).sum+(named ((AH m t).take j)).count g
def G0(m:List (List Int))(Xy:List AV)(t j:Nat):List Int:=(yN 12).map λg=>(Iw m Xy t j g:Int)
section
variable {m:List (List Int)} {Xy:List AV} {t j g:Nat}
theorem Jq:(G0 m Xy t j).length=12:=by simp[G0]
theorem QJ(h:g<12):nth (G0 m Xy t j) g=Iw m Xy t j g:=by unfold G0 nth;rw[yg,xz,sU h];rfl
theorem Sg:G0 m Xy 0 0=yd 12 0:=by simp[G0,Iw,named,yN,yJ,yd]
theorem ah(hj:j<(AH m t).length)(h:Bn ((AH m t).getD j 0)=false):G0 m Xy t (j+1)=G0 m Xy t j:=by unfold G0 Iw;rw[Jw hj,h];simp
theorem ZR(hj:j<(AH m t).length)(h:Bn ((AH m t).getD j 0)=true):
 G0 m Xy t (j+1)=(G0 m Xy t j).set (BM ((AH m t).getD j 0)) (Iw m Xy t j (BM ((AH m t).getD j 0))+1):=by
 refine ML (by simp[G0]) λg K=>?_
 rw[Jq] at K;have hf:=ET h;rw[UL (by rw[Jq];exact hf),QJ K,QJ K];unfold Iw;rw[Jw hj,h,if_pos rfl,List.count_append]
 by_cases e:g=BM ((AH m t).getD j 0)
 .subst e;simp;omega
 .rw[if_neg e,List.count_singleton]
  have:(BM ((AH m t).getD j 0)==g)=false:=by simp;exact λh=>e h.symm
  rw[this];simp
theorem ZQ(hk:Bi (Sc Xy t).k=true)(hl:(AH m t).length=4):G0 m Xy t 4=G0 m Xy (t+1) 0:=by unfold G0 Iw;rw[xI (n:=t),xo (vd hl)];simp[hk,named]
theorem Sf(hk:Bi (Sc Xy t).k=false):G0 m Xy t 0=G0 m Xy (t+1) 0:=by unfold G0 Iw;rw[xI (n:=t)];simp[hk,named]
theorem Uu:G0 m Xy 12 0=(yN 12).map λg=>(countP m Xy g:Int):=by unfold G0 Iw countP;simp[named]
theorem QL(hm:Bq m=true)(ht:t<=12)(hj:j<=4):Iw m Xy t j g<=100:=by
 have A:((yN t).map λu=>if Bi (Sc Xy u).k then(named (AH m u)).count g else 0).sum<=4*t:=by
  clear hj
  induction t with
  |zero=>simp
  |succ t ih=>
   have:=ih (by omega);rw[xI,xN,List.sum_append];have H:(if Bi (Sc Xy t).k then(named (AH m t)).count g else 0)<=4:=by
    split
    .have h3:=vx (a:=g) (l:=named (AH m t))
     have h4:=FG (r:=AH m t);have h5:=(A6.1 ((Ah.1 hm).2 t (by omega))).1;omega
    .omega
   simp only[List.map_cons,List.map_nil,List.sum_cons,List.sum_nil];omega
 have h3:=vx (a:=g) (l:=named ((AH m t).take j));have h4:=FG (r:=(AH m t).take j);rw[yt] at h4;unfold Iw;omega
end
theorem Uy(v iv:Value)(m:List (List Int))(Xy:List AV)(w:World)(h:Bf w v m)(aq:Bq m=true)(hI:BW w iv Xy)(hl:Xy.length=12):
 Calls prog 59 #[v,iv] w λe w'=>∃v',e=.returned v'/\AG w.heap.size w' v' ((yN 12).map λg=>(countP m Xy g:Int))/\Below w.heap.size w w':=by
 obtain⟨q,c,rfl,hc,cw,H0⟩:=h.open;obtain⟨a2,c2,rfl,fS,gu,H2⟩:=BG.open Av (by decide) hI;have cn:=(Ah.1 aq).1;unfold maxLen at cw gu;rw[cn] at hc ⊢;rw[hl] at fS ⊢;have ep:=AA aq;have HR:=AA H0;have HI:=AA H2;have Hl:=AA hl;clear h aq H0 H2 cn hI hl;go_in;go_wp2_with (at_make;go_must (refine Pq (n:=12) rfl rfl 3 (.int .i64 0) 8 underlying29 Tryz.zT rfl rfl (by omega) (by unfold maxLen;omega) ?_;intro w1 fj al eJ));have lw:AG w.heap.size w1 (.slice (some ⟨w.heap.size,0,none⟩) 12 12) (G0 m Xy 0 0):=by unfold AG;rw[Jq,Sg];exact fj
 have ds:w.heap.size<=w.heap.size:=yG _;have kC:=AA al;clear fj al;go_loopw [16] (λi wr=>∃t:Nat,t<=12/\i=.int .i64 t/\AG w.heap.size wr (.slice (some ⟨w.heap.size,0,none⟩) 12 12) (G0 m Xy t 0)/\Below w.heap.size w wr) (λi _=>12 - (intOf i).toNat)
 exact⟨0,yu _,rfl,lw,kC.out⟩
 obtain⟨t,ht,rfl,hO,al⟩:=hrel;clear lw
 by_cases ay:t<12
 .obtain⟨b,a6,rfl,fo,D0,D1,D2⟩:=HI.out.Dq (show t<Xy.length by rw[Hl.out];exact ay)
  replace D0:=(al.cell (p:=⟨b,a6+t*3,none⟩) fo).trans D0;replace D1:=(al.cell (p:=⟨b,a6+t*3+1,none⟩) fo).trans D1;replace D2:=(al.cell (p:=⟨b,a6+t*3+2,none⟩) fo).trans D2;have hn:=yw wr (.cells #[.int .i64 (Sc Xy t).k,.string (Sc Xy t).g,.int .i64 (Sc Xy t).r] 91);have jh:=al.trans ((AJ wr (.cells #[.int .i64 (Sc Xy t).k,.string (Sc Xy t).g,.int .i64 (Sc Xy t).r] 91)).mono al.size);have HO:=AA (AG.below hO (AJ wr (.cells #[.int .i64 (Sc Xy t).k,.string (Sc Xy t).g,.int .i64 (Sc Xy t).r] 91)));have CT:=AA (λW=>Fq (Sc Xy t).k W);clear hO;obtain⟨bm,dz,br,dy,cr,rfl,gD,M0,gW,j8,W0⟩:=HR.out.row4 ep.out ay;have HW:=AA W0;have M:=(jh.cell (p:=⟨bm,dz+t,none⟩) gD).trans M0;have fh:=AA (A6.1 ((Ah.1 ep.out).2 _ ay)).1;clear W0 M0;cases hk:Bi (Sc Xy t).k
  .have S:=AA (Sf (m:=m) hk)
   have Z:=AA hk;clear hk;go_wp2_with (go_at_call 64;refine(CT.out _).mono ?_;rintro e w' ⟨rfl,rfl⟩;rw[Z.out]);go_roundw;exact⟨t+1,by omega,by go_num,by rw[<-S.out];exact HO.out,jh⟩;simp[intOf];omega
  .have S:=AA (ZQ (m:=m) hk fh.out)
   have Z:=AA hk;clear hk;go_wp2_with (go_at_call 64;refine(CT.out _).mono ?_;rintro e w' ⟨rfl,rfl⟩;rw[Z.out]);generalize wr.alloc _=wa at*;clear D0 D1 D2 M hn al;have HB:=AA jh;clear jh;go_loopw [30] (λi wi=>∃j:Nat,j<=4/\i=.int .i64 j/\AG w.heap.size wi (.slice (some ⟨w.heap.size,0,none⟩) 12 12) (G0 m Xy t j)/\Below w.heap.size w wi) (λi _=>4 - (intOf i).toNat)
   exact⟨0,by omega,rfl,HO.out,HB.out⟩
   obtain⟨j,hj,rfl,fu,bC⟩:=hrel
   by_cases dv:j<4
   .have W:=(bC.cell (p:=⟨br,dy+j,none⟩) gW).trans (HW.out j dv)
    have wb:=Gg ep.out ay dv;have CE:=AA (λW=>FL (Au m t j) W (by omega));cases K:Bn (Au m t j)
    .have vs:=AA (Eg K)
     have hi:=AA (ah (Xy:=Xy) (show j<(AH m t).length by rw[fh.out];exact dv) K);clear K;go_wp2_with (go_at_call 121;refine(CE.out _).mono ?_;rintro e w' ⟨rfl,rfl⟩;rw[vs.out]);go_roundw;exact⟨j+1,by omega,by go_num,by rw[hi.out];exact fu,bC⟩;simp[intOf];omega
    .have vs:=AA (Ed K)
     have hF:=ET K;have hi:=AA (ZR (Xy:=Xy) (show j<(AH m t).length by rw[fh.out];exact dv) K);have gv:=QL (Xy:=Xy) (g:=BM (Au m t j)) ep.out (Nat.le_of_lt ay) hj;have fg:wr.ownsRow w.heap.size 3 1 (.slice (some ⟨w.heap.size,0,none⟩) 12 12) 12 ((G0 m Xy t j).map (ym .i64)):=by have:=fu;unfold AG at this;rwa [Jq] at this
     have C:=(fg.cellAt (BM (Au m t j)) (by omega)).trans (Fv (xs:=G0 m Xy t j) (by rw[Jq];exact hF));rw[QJ hF] at C;have Fr:=fg.frozenAt (BM (Au m t j));have S2:=AA (fg.stored (BM (Au m t j)) (.int .i64 ((Iw m Xy t j (BM (Au m t j)):Int)+1)));have e0:(AH m t).getD j 0=Au m t j:=rfl;rw[e0] at hi;clear K e0 fg fu;generalize BM (Au m t j)=f at*;generalize Iw m Xy t j f=n at*;go_wp2_with (go_at_call 121;refine(CE.out _).mono ?_;rintro e w' ⟨rfl,rfl⟩;rw[vs.out]);go_roundw
     case rel=>refine⟨j+1,by omega,by go_num,?_,AM bC S2.out.2 ds bC.size⟩;rw[hi.out];unfold AG;rw[yi,Jq,vj];exact S2.out.1
     case measure=>simp[intOf];omega
   .obtain rfl:j=4:=by omega
    go_wp2_with fail;go_roundw;exact⟨t+1,by omega,by go_num,by rw[<-S.out];exact fu,bC⟩;simp[intOf];omega
 .obtain rfl:t=12:=by omega
  rw[Uu] at hO;go_wp2_with fail;go_ret;exact⟨_,rfl,hO,al⟩
theorem YF{α:Type}{cs:α->List Value}{sz:Nat}(hs:∀x,(cs x).length=sz){xs:List α}{k j:Nat}{x y:α}{u:Value}(hk:xs[k]?=some x)(hj:j<sz)(hy:cs y=(cs x).set j u):
 (CZ cs xs).set (k*sz+j) u=CZ cs (xs.set k y):=by
 have A:=U5 hs (yE.1 hk).1 y;rw[<-A];refine List.ext_getElem? λi=>?_
 obtain⟨ay,hx⟩:=yE.1 hk;have J:k*sz+sz<=xs.length*sz:=by rw[<-Nat.succ_mul];exact Nat.mul_le_mul_right _ ay
 rw[A,we,JA hs]
 by_cases E:i<xs.length*sz
 .have hz:0<sz:=by omega
  have jX:i/sz<xs.length:=Nat.div_lt_of_lt_mul (by rw[tq];exact E);have gh:=Nat.mod_lt i hz;have j7:i/sz*sz+i%sz=i:=by rw[tq];exact Nat.div_add_mod i sz
  have ha:(CZ cs xs)[i]?=(cs xs[i/sz])[i%sz]? :=by have:=Ph hs (yH jX) gh;rw[j7] at this;exact this
  have eF:(CZ cs (xs.set k y))[i]?=(cs ((xs.set k y)[i/sz]'(by rw[yi];exact jX)))[i%sz]? :=by have:=Ph hs (yH (l:=xs.set k y) (i:=i/sz) (by rw[yi];exact jX)) gh;rw[j7] at this;exact this
  rw[ha,eF,List.getElem_set]
  by_cases e:k=i/sz
  .subst e
   rw[if_pos rfl,hy,we,hx,hs]
   by_cases e2:j=i%sz
   .subst e2;rw[if_pos j7,if_pos (by omega),if_pos rfl,if_pos gh]
   .rw[if_neg (by omega),if_neg e2]
  .rw[if_neg e]
   have:¬k*sz+j=i:=by intro h;apply e;rw[<-h,tq,Nat.mul_add_div hz,Nat.div_eq_of_lt hj,xU]
   rw[if_neg this]
 .rw[tp (by rw[JA hs];omega),tp (by rw[JA hs,yi];omega),if_neg (by omega)]
section
variable {α:Type} {lo e sz:Nat} {cs:α->List Value} {w:World} {g ao k j:Nat} {xs:List α}
theorem AO.zI(hs:∀x,(cs x).length=sz)(h:AO lo e sz cs w (.slice (some ⟨g,0,none⟩) xs.length ao) xs){x y:α}{u:Value}(hk:xs[k]?=some x)(hj:j<sz)(hy:cs y=(cs x).set j u):
 AO lo e sz cs (w.setCell ⟨g,k*sz+j,none⟩ u) (.slice (some ⟨g,0,none⟩) xs.length ao) (xs.set k y)/\w.grownBy (w.setCell ⟨g,k*sz+j,none⟩ u) (some g):=by
 obtain⟨A,H⟩:=wm h (k*sz+j) u;rw[YF hs hk hj hy] at A;refine⟨?_,H⟩;unfold AO;rw[yi];exact A
end
theorem Ca{k:Nat}(h:k<l.length):l[k]?=some (Sc l k):=by simp[Sc,h]
theorem Hv{k:Nat}{f:AV->AV}:An l k f=l.set k (f (Sc l k)):=Ji
theorem Wz{Xy:List AV}{n:Int}{j:Nat}(hj:j<r.length):
 BK Xy (named (r.take (j+1))) n=if Bn (r.getD j 0) then An (BK Xy (named (r.take j)) n) (BM (r.getD j 0)) (Ic n) else BK Xy (named (r.take j)) n:=by
 rw[Jw hj];unfold BK;rw[vJ]
 split<;>simp
theorem KP(h:BO s=true):s.size<=4:=by unfold BO at h;simp only[yD,decide_eq_true_eq] at h;exact h.2
theorem IJ{x:AV}(h:DT x=true):x.g.size<=maxLen/\0<=x.r/\x.r<=50:=by
 unfold DT at h;simp only[xP,decide_eq_true_eq,yD,AZ] at h
 rcases h with rfl|⟨⟨_,A⟩,H⟩
 .exact⟨by simp[AV.zero,ByteArray.size],by simp[AV.zero],by simp[AV.zero]⟩
 .exact⟨yL (KP A) (by decide),H.1,H.2⟩
theorem TR(h:∀f,f<l.length->(Sc l f).g.size<=maxLen):Ib l:=by intro x hx;obtain⟨i,E,rfl⟩:=xl hx;have:=h i E;simpa[Sc,E] using this
theorem By(h:A8 l=true):Ib l:=TR λf hf=>(IJ ((A1.1 h).2 f (by have:=(A1.1 h).1;omega))).1
theorem KB{Xy:List AV}(h:A8 Xy=true){fs:List Nat}(iB:fs.length<=4){n:Int}(N:n=1∨n= -1){g:Nat}(K:g<12):
 -4<=(Sc (BK Xy fs n) g).r/\(Sc (BK Xy fs n) g).r<=54/\(Sc (BK Xy fs n) g).g.size<=maxLen:=by
 obtain⟨hl,H⟩:=A1.1 h;obtain⟨a,b,c⟩:=IJ (H g K);rw[Np (by omega)];have:=vx (a:=g) (l:=fs);refine⟨?_,?_,a⟩
 .show -4<=_+n*_
  rcases N with rfl|rfl<;>omega
 .show _+n*_<=54
  rcases N with rfl|rfl<;>omega
theorem TM(v iv:Value)(m:List (List Int))(Xy:List AV)(f:Nat)(n:Int)(w:World)(h:Bf w v m)(aq:Bq m=true)(hI:BW w iv Xy)(dr:A8 Xy=true)(hf:f<12)(N:n=1∨n= -1):
 Calls prog 189 #[v,iv,.int .i64 f,.int .i64 n] w λe w'=>∃v',e=.returned v'/\AO w.heap.size 91 3 At w' v' (BK Xy (named (AH m f)) n)/\Below w.heap.size w w':=by
 obtain⟨q,c,rfl,hc,cw,H0⟩:=h.open;have hl:=(A1.1 dr).1;have cn:=(Ah.1 aq).1;have CC:=AA (GN iv Xy w hI (by omega));obtain⟨ai,ci,rfl,_,_⟩:=hI.shape;have ep:=AA aq;have mX:=AA dr;have Hn:=AA N;have eL: -1<=n/\n<=1:=by omega
 obtain⟨bm,dz,br,dy,cr,rfl,gD,M0,gW,j8,W0⟩:=H0.row4 aq hf;have HW:=AA W0;have fh:=AA (A6.1 ((Ah.1 aq).2 _ hf)).1;have fm:(f:Int)<m.length:=by omega
 have Hl:=AA hl;clear h aq H0 W0 hI dr N cn hl;go_in;go_wp2_with fail;refine(CC.out).mono ?_;rintro e w1 ⟨v',rfl,hO,be⟩;obtain⟨g,ao,rfl,c1,c2,q1,q2,cq⟩:=hO.zX (by have:=Hl.out;omega);unfold maxLen at c2;have M:=(be.cell (p:=⟨bm,dz+f,none⟩) gD).trans M0;have kC:=AA be;have HO:=AA hO;clear hO be M0 cq;go_wp2_with fail;clear M;go_loopw [22] (λi wr=>∃j:Nat,j<=4/\i=.int .i64 j/\AO w.heap.size 91 3 At wr (.slice (some ⟨g,0,none⟩) Xy.length ao) (BK Xy (named ((AH m f).take j)) n)/\Below w.heap.size w wr) (λi _=>4 - (intOf i).toNat)
 exact⟨0,yu _,rfl,by simpa[named,BK] using HO.out,kC.out⟩
 obtain⟨j,hj,rfl,hO,bC⟩:=hrel
 by_cases dv:j<4
 .have W:=(bC.cell (p:=⟨br,dy+j,none⟩) gW).trans (HW.out j dv)
  have wb:=Gg ep.out hf dv;have CE:=AA (λW=>FL (Au m f j) W (by omega));have RT:=Wz (Xy:=Xy) (n:=n) (r:=AH m f) (j:=j) (by rw[fh.out];exact dv);rw[show(AH m f).getD j 0=Au m f j from rfl] at RT;cases K:Bn (Au m f j)
  .have vs:=AA (Eg K)
   rw[K] at RT;have hi:=AA RT;have jy:=AA hO;clear K RT hO;go_wp2_with (go_at_call 121;refine(CE.out _).mono ?_;rintro e w' ⟨rfl,rfl⟩;rw[vs.out]);go_roundw;exact⟨j+1,by omega,by go_num,by rw[hi.out];exact jy.out,bC⟩;simp[intOf];omega
  .have vs:=AA (Ed K)
   have hF:=ET K;rw[K,if_pos rfl] at RT;have iB:(named ((AH m f).take j)).length<=4:=by have:=FG (r:=(AH m f).take j);rw[yt] at this;omega
   obtain⟨r1,r2,_⟩:=KB mX.out iB Hn.out hF;have ec:(BK Xy (named ((AH m f).take j)) n).length=Xy.length:=Jk;rw[<-ec] at hO;generalize hX:BK Xy (named ((AH m f).take j)) n=X at*;generalize BM (Au m f j)=o at*;have k7:o<X.length:=by rw[ec,Hl.out];exact hF
   have nB:(o:Int)<Xy.length:=by rw[Hl.out];omega
   have mr:((o:Nat):Int)<=Xy.length:=by omega
   rw[Hv] at RT;obtain⟨_,_,d2⟩:=AO.Dq hO k7;have d2:=d2;have Fr:=xT hO (o*3+2);have S2:=AA (AO.zI Av hO (Ca k7) (j:=2) (by decide) (y:=Ic n (Sc X o)) (u:=.int .i64 ((Sc X o).r+n)) rfl);rw[ec] at S2;have hi:=AA RT;have nW:=AA ec;clear K RT hO ec hX;go_wp2_with (go_at_call 121;refine(CE.out _).mono ?_;rintro e w' ⟨rfl,rfl⟩;rw[vs.out]);go_roundw;exact⟨j+1,by omega,by go_num,by rw[hi.out];exact S2.out.1,AM bC S2.out.2 q1 bC.size⟩;simp[intOf];omega
 .obtain rfl:j=4:=by omega
  rw[xo (vd fh.out)] at hO;go_wp2_with fail;go_ret;exact⟨_,rfl,hO,bC⟩
theorem UR{m:List (List Int)}{Xy:List AV}:F7 m Xy f kind ss=
 if(Sc Xy f).k≠1∨(Sc Xy f).r≠0 then(Xy,1)
 else if IU m Xy f kind ss=false then(Xy,2)
 else if A8 (An (BK Xy (named (AH m f)) 1) f (DU kind)) then(An (BK Xy (named (AH m f)) 1) f (DU kind),0) else(Xy,1):=rfl
theorem Ny{m:List (List Int)}{Xy:List AV}:Cy m Xy f=
 if Bi (Sc Xy f).k=false∨(Sc Xy f).r≠0 then(Xy,1)
 else if A8 (An (BK Xy (named (AH m f)) (-1)) f (DU 1)) then(An (BK Xy (named (AH m f)) (-1)) f (DU 1),0) else(Xy,2):=rfl
theorem Qd{m:List (List Int)}(h:Bq m=true){f:Nat}(hf:f<12):(named (AH m f)).length<=4:=by have A:=FG (r:=AH m f);have H:=(A6.1 ((Ah.1 h).2 f hf)).1;omega
theorem MU{m:List (List Int)}{Xy:List AV}{n:Int}(hm:Bq m=true)(h:A8 Xy=true)(hf:f<12)(N:n=1∨n= -1):Ib (An (BK Xy (named (AH m f)) n) f (DU kind)):=by
 refine TR λg K=>?_
 rw[Cz,Jk,(A1.1 h).1] at K;have A:=(KB h (Qd hm hf) N K).2.2;rw[Fb]
 split
 .exact(KB h (Qd hm hf) N hf).2.2
 .exact A
def Mo(r:List AV×Int)(w:World)(e:Ending)(w':World):Prop:=∃v',e=.returned (.tuple #[v',.int .i64 r.2])/\AO w.heap.size 91 3 At w' v' r.1/\Below w.heap.size w w'
theorem Tl(v iv rv:Value)(m:List (List Int))(Xy:List AV)(f:Nat)(kind:Int)(ss:List ByteArray)(w:World)(h:Bf w v m)(aq:Bq m=true)(hI:BW w iv Xy)(dr:A8 Xy=true)(hf:f<12)(hk:Bi kind=true)(hv:BT w rv ss)(kU:DH ss)(hr:BS ss=true):
 Calls prog 148 #[v,iv,.int .i64 f,.int .i64 kind,rv] w (Mo (F7 m Xy f kind ss) w):=by
 have hl:=(A1.1 dr).1;have C1:=AA (λW (hW:Below w.heap.size w W)=>by have:=IX v m W (h.below hW);rw[aq] at this;exact this);have C2:=AA (λW (hW:Below w.heap.size w W)=>by have:=DV iv Xy W (BG.below hI hW) (By dr);rw[dr] at this;exact this);have C3:=AA (λW (_:Below w.heap.size w W)=>A3 (by have:=Dk (f:Int) W;rw[show Bh (f:Int) 0 11=true from AZ.2 (by omega)] at this;exact this));have C4:=AA (λW (_:Below w.heap.size w W)=>A3 (by have:=Fq kind W;rw[hk] at this;exact this));have C5:=AA (λW (hW:Below w.heap.size w W)=>by have:=Gh rv ss W (BG.below hv hW) kU;rw[hr] at this;exact this);have C6:=AA (λW (hW:Below w.heap.size w W)=>GN iv Xy W (BG.below hI hW) (by omega));have C7:=AA (λW (hW:Below w.heap.size w W)=>VA v iv rv m Xy f kind ss W (h.below hW) aq (BG.below hI hW) hl hf hk (BG.below hv hW));have C8:=AA (λW (hW:Below w.heap.size w W)=>TM v iv m Xy f 1 W (h.below hW) aq (BG.below hI hW) dr hf (.inl rfl));have SM:=AA (MU (kind:=kind) aq dr hf (.inl (rfl:(1:Int)=1)));obtain⟨ai,ci,rfl,ka,gx,H2⟩:=BG.open Av (by decide) hI;obtain⟨bi,bO,rfl,bC,D0,_,D2⟩:=H2.Dq (show f<Xy.length by omega);have fO:(f:Int)<Xy.length:=by omega
 have Hl:=AA hl;have J:=yO w.heap.size w;clear h aq hI dr hk hv kU hr hl H2;go_in;go_wp2_with fail;refine(C1.out _ J).mono ?_;rintro e w_ ⟨rfl,a5⟩;replace J:=J.trans (a5.mono J.size);clear a5;go_wp2_with fail;refine(C2.out _ J).mono ?_;rintro e w_ ⟨rfl,a5⟩;replace J:=J.trans (a5.mono J.size);clear a5;go_wp2_with fail;refine(C3.out _ J).mono ?_;rintro e w_ ⟨rfl,a5⟩;replace J:=J.trans (a5.mono J.size);clear a5;go_wp2_with fail;refine(C4.out _ J).mono ?_;rintro e w_ ⟨rfl,a5⟩;replace J:=J.trans (a5.mono J.size);clear a5;go_wp2_with fail;refine(C5.out _ J).mono ?_;rintro e w_ ⟨rfl,a5⟩;replace J:=J.trans (a5.mono J.size);clear a5;replace D0:=(J.cell (p:=⟨bi,bO+f*3,none⟩) bC).trans D0;replace D2:=(J.cell (p:=⟨bi,bO+f*3+2,none⟩) bC).trans D2
 by_cases e1:(Sc Xy f).k=1
 .by_cases e2:(Sc Xy f).r=0
  .have t1:((Sc Xy f).k !=1)=false:=by simp[e1]
   have t2:((Sc Xy f).r !=0)=false:=by simp[e2]
   have P:=AA (show F7 m Xy f kind ss=if IU m Xy f kind ss=false then(Xy,2)
    else if A8 (An (BK Xy (named (AH m f)) 1) f (DU kind)) then(An (BK Xy (named (AH m f)) 1) f (DU kind),0) else(Xy,1) by rw[UR,if_neg (by simp[e1,e2])])
   clear e1 e2;cases K:IU m Xy f kind ss
   .have P2:=AA (show F7 m Xy f kind ss=(Xy,2) by rw[P.out,K];rfl)
    have G:=AA K;clear K;go_wp2_with fail;refine(C7.out _ J).mono ?_;rintro e w_ ⟨rfl,a5⟩;rw[G.out];replace J:=J.trans (a5.mono J.size);clear a5;go_wp2_with (refine(C6.out _ J).mono ?_;rintro e w2 ⟨v',rfl,hO,ad⟩);go_ret2;exact⟨v',by rw[P2.out];rfl,by rw[P2.out];exact hO.lower J.size,J.trans (ad.mono J.size)⟩
   .have G:=AA K
    have P2:=AA (show F7 m Xy f kind ss=if A8 (An (BK Xy (named (AH m f)) 1) f (DU kind)) then(An (BK Xy (named (AH m f)) 1) f (DU kind),0) else(Xy,1) by rw[P.out,K];rfl);clear K;go_wp2_with fail;refine(C7.out _ J).mono ?_;rintro e w_ ⟨rfl,a5⟩;rw[G.out];replace J:=J.trans (a5.mono J.size);clear a5;clear D0 D2;go_wp2_with fail;refine(C8.out _ J).mono ?_;rintro e w2 ⟨v',rfl,hO,ad⟩;have ec:(BK Xy (named (AH m f)) 1).length=Xy.length:=Jk;rw[Hv] at P2 SM;generalize BK Xy (named (AH m f)) 1=X at*;have iD:f<X.length:=by rw[ec,Hl.out];exact hf
    obtain⟨g,ao,rfl,c1,c2,q1,q2,cq⟩:=hO.zX (by omega);unfold maxLen at c2;have q3:=yL J.size q1;have S0:=AO.zI Av hO (Ca iD) (j:=0) (by decide) (y:=DU kind (Sc X f)) (u:=.int .i64 kind) rfl;rw[xU] at S0;have S:=AA S0;clear S0;obtain⟨d0,_,_⟩:=AO.Dq hO iD;have Fr:=cq (f*3);have ft:=AM (J.trans (ad.mono J.size)) S.out.2 q3 (yL J.size ad.size);have j6:(f:Int)<X.length:=by omega
    have iN:=AA (S.out.1.lower J.size);clear hO ad J ec;go_wp2_with fail;generalize hw3:w2.setCell _ _=w3 at*;clear d0 Fr cq hw3;have iL:(X.set f (DU kind (Sc X f))).length=X.length:=yi ..;have C9:=DV (.slice (some ⟨g,0,none⟩) X.length ao) (X.set f (DU kind (Sc X f))) w3 iN.out.rd SM.out;cases hq:A8 (X.set f (DU kind (Sc X f)))
    .have P3:=AA (show F7 m Xy f kind ss=(Xy,1) by rw[P2.out,hq];rfl)
     rw[hq] at C9;have C:=AA C9;clear C9 hq iL;refine(C.out).mono ?_;rintro e w4 ⟨rfl,bA⟩;have J:=ft.trans (bA.mono ft.size);go_wp2_with (refine(C6.out _ J).mono ?_;rintro e w2 ⟨v',rfl,hO,ad⟩);go_ret2;exact⟨v',by rw[P3.out];rfl,by rw[P3.out];exact hO.lower J.size,J.trans (ad.mono J.size)⟩
    .have P3:=AA (show F7 m Xy f kind ss=(X.set f (DU kind (Sc X f)),0) by rw[P2.out,hq];rfl)
     rw[hq] at C9;have C:=AA C9;clear C9 hq iL;refine(C.out).mono ?_;rintro e w4 ⟨rfl,bA⟩;have J:=ft.trans (bA.mono ft.size);have kj:=AA (iN.out.below bA);go_wp2_with fail;go_ret2;exact⟨_,by rw[P3.out];rfl,by rw[P3.out];exact kj.out,J⟩
  .have t1:((Sc Xy f).k !=1)=false:=by simp[e1]
   have t2:((Sc Xy f).r !=0)=true:=by simp[e2]
   have P2:=AA (show F7 m Xy f kind ss=(Xy,1) by rw[UR,if_pos (.inr e2)]);clear e1 e2;go_wp2_with (refine(C6.out _ J).mono ?_;rintro e w2 ⟨v',rfl,hO,ad⟩);go_ret2;exact⟨v',by rw[P2.out];rfl,by rw[P2.out];exact hO.lower J.size,J.trans (ad.mono J.size)⟩
 .have t1:((Sc Xy f).k !=1)=true:=by simp[e1]
  have P2:=AA (show F7 m Xy f kind ss=(Xy,1) by rw[UR,if_pos (.inl e1)]);clear e1 D2;go_wp2_with (refine(C6.out _ J).mono ?_;rintro e w2 ⟨v',rfl,hO,ad⟩);go_ret2;exact⟨v',by rw[P2.out];rfl,by rw[P2.out];exact hO.lower J.size,J.trans (ad.mono J.size)⟩
theorem QD(v iv:Value)(m:List (List Int))(Xy:List AV)(f:Nat)(w:World)(h:Bf w v m)(aq:Bq m=true)(hI:BW w iv Xy)(dr:A8 Xy=true)(hf:f<12):
 Calls prog 150 #[v,iv,.int .i64 f] w (Mo (Cy m Xy f) w):=by
 have hl:=(A1.1 dr).1;have C1:=AA (λW (hW:Below w.heap.size w W)=>by have:=IX v m W (h.below hW);rw[aq] at this;exact this);have C2:=AA (λW (hW:Below w.heap.size w W)=>by have:=DV iv Xy W (BG.below hI hW) (By dr);rw[dr] at this;exact this);have C3:=AA (λW (_:Below w.heap.size w W)=>A3 (by have:=Dk (f:Int) W;rw[show Bh (f:Int) 0 11=true from AZ.2 (by omega)] at this;exact this));have C4:=AA (λW (_:Below w.heap.size w W)=>A3 (Fq (Sc Xy f).k W));have C6:=AA (λW (hW:Below w.heap.size w W)=>GN iv Xy W (BG.below hI hW) (by omega));have C8:=AA (λW (hW:Below w.heap.size w W)=>TM v iv m Xy f (-1) W (h.below hW) aq (BG.below hI hW) dr hf (.inr rfl));have SM:=AA (MU (kind:=1) aq dr hf (.inr (rfl:(-1:Int)= -1)));obtain⟨ai,ci,rfl,ka,gx,H2⟩:=BG.open Av (by decide) hI;obtain⟨bi,bO,rfl,bC,D0,_,D2⟩:=H2.Dq (show f<Xy.length by omega);have fO:(f:Int)<Xy.length:=by omega
 have Hl:=AA hl;have J:=yO w.heap.size w;clear h aq hI dr hl H2;go_in;go_wp2_with fail;refine(C1.out _ J).mono ?_;rintro e w_ ⟨rfl,a5⟩;replace J:=J.trans (a5.mono J.size);clear a5;go_wp2_with fail;refine(C2.out _ J).mono ?_;rintro e w_ ⟨rfl,a5⟩;replace J:=J.trans (a5.mono J.size);clear a5;go_wp2_with fail;refine(C3.out _ J).mono ?_;rintro e w_ ⟨rfl,a5⟩;replace J:=J.trans (a5.mono J.size);clear a5;replace D0:=(J.cell (p:=⟨bi,bO+f*3,none⟩) bC).trans D0;have kE:=D2;replace D2:=(J.cell (p:=⟨bi,bO+f*3+2,none⟩) bC).trans D2;cases e1:Bi (Sc Xy f).k
 .have P2:=AA (show Cy m Xy f=(Xy,1) by rw[Ny,if_pos (.inl e1)])
  have T:=AA e1;clear e1 D2;go_wp2_with fail;refine(C4.out _ J).mono ?_;rintro e w_ ⟨rfl,a5⟩;rw[T.out];replace J:=J.trans (a5.mono J.size);clear a5;go_wp2_with (refine(C6.out _ J).mono ?_;rintro e w2 ⟨v',rfl,hO,ad⟩);go_ret2;exact⟨v',by rw[P2.out];rfl,by rw[P2.out];exact hO.lower J.size,J.trans (ad.mono J.size)⟩
 .have T:=AA e1
  by_cases e2:(Sc Xy f).r=0
  .have t2:((Sc Xy f).r !=0)=false:=by simp[e2]
   have P2:=AA (show Cy m Xy f=if A8 (An (BK Xy (named (AH m f)) (-1)) f (DU 1)) then(An (BK Xy (named (AH m f)) (-1)) f (DU 1),0) else(Xy,2) by rw[Ny,if_neg (by simp[e1,e2])]);clear e1 e2;go_wp2_with fail;refine(C4.out _ J).mono ?_;rintro e w_ ⟨rfl,a5⟩;rw[T.out];replace J:=J.trans (a5.mono J.size);clear a5;replace D2:=(J.cell (p:=⟨bi,bO+f*3+2,none⟩) bC).trans kE;go_wp2_with fail;clear D0 D2;refine(C8.out _ J).mono ?_;rintro e w2 ⟨v',rfl,hO,ad⟩;have ec:(BK Xy (named (AH m f)) (-1)).length=Xy.length:=Jk;rw[Hv] at P2 SM;generalize BK Xy (named (AH m f)) (-1)=X at*;have iD:f<X.length:=by rw[ec,Hl.out];exact hf
   obtain⟨g,ao,rfl,c1,c2,q1,q2,cq⟩:=hO.zX (by omega);unfold maxLen at c2;have q3:=yL J.size q1;have S0:=AO.zI Av hO (Ca iD) (j:=0) (by decide) (y:=DU 1 (Sc X f)) (u:=.int .i64 1) rfl;rw[xU] at S0;have S:=AA S0;clear S0;obtain⟨d0,_,_⟩:=AO.Dq hO iD;have Fr:=cq (f*3);have ft:=AM (J.trans (ad.mono J.size)) S.out.2 q3 (yL J.size ad.size);have j6:(f:Int)<X.length:=by omega
   have iN:=AA (S.out.1.lower J.size);clear hO ad J ec;go_wp2_with fail;generalize hw3:w2.setCell _ _=w3 at*;clear d0 Fr cq hw3;have iL:(X.set f (DU 1 (Sc X f))).length=X.length:=yi ..;have C9:=DV (.slice (some ⟨g,0,none⟩) X.length ao) (X.set f (DU 1 (Sc X f))) w3 iN.out.rd SM.out;cases hq:A8 (X.set f (DU 1 (Sc X f)))
   .have P3:=AA (show Cy m Xy f=(Xy,2) by rw[P2.out,hq];rfl)
    rw[hq] at C9;have C:=AA C9;clear C9 hq iL;refine(C.out).mono ?_;rintro e w4 ⟨rfl,bA⟩;have J:=ft.trans (bA.mono ft.size);go_wp2_with (refine(C6.out _ J).mono ?_;rintro e w2 ⟨v',rfl,hO,ad⟩);go_ret2;exact⟨v',by rw[P3.out];rfl,by rw[P3.out];exact hO.lower J.size,J.trans (ad.mono J.size)⟩
   .have P3:=AA (show Cy m Xy f=(X.set f (DU 1 (Sc X f)),0) by rw[P2.out,hq];rfl)
    rw[hq] at C9;have C:=AA C9;clear C9 hq iL;refine(C.out).mono ?_;rintro e w4 ⟨rfl,bA⟩;have J:=ft.trans (bA.mono ft.size);have kj:=AA (iN.out.below bA);go_wp2_with fail;go_ret2;exact⟨_,by rw[P3.out];rfl,by rw[P3.out];exact kj.out,J⟩
  .have t2:((Sc Xy f).r !=0)=true:=by simp[e2]
   have P2:=AA (show Cy m Xy f=(Xy,1) by rw[Ny,if_pos (.inr e2)]);clear e1 e2;go_wp2_with fail;refine(C4.out _ J).mono ?_;rintro e w_ ⟨rfl,a5⟩;rw[T.out];replace J:=J.trans (a5.mono J.size);clear a5;replace D2:=(J.cell (p:=⟨bi,bO+f*3+2,none⟩) bC).trans kE;go_wp2_with (refine(C6.out _ J).mono ?_;rintro e w2 ⟨v',rfl,hO,ad⟩);go_ret2;exact⟨v',by rw[P2.out];rfl,by rw[P2.out];exact hO.lower J.size,J.trans (ad.mono J.size)⟩
theorem Tryz.zk:(prog.info? 29).map (λi=>(i.zero,i.size,i.bytes))=some (some (.slice none 0 0),1,24):=by kernel_rfl
theorem MA:29≠3:=by decide
theorem Kf{lo e sz B:Nat}{w:World}{xs:List Value}(h:w.ownsRow lo e sz v n xs)(hu:∀k,u.ownBlock=some k->w.heap.size<=k):GD v u:=by intro k hk mo;have A:=(h.lt k hk).2;have H:=hu k mo;omega
theorem Az.push{lo:Nat}{w w1 w2:World}{v':Value}{jB:List (List Int)}{x:List Int}
 (h:Az lo w v V jB)(J:Below w.heap.size w w1)(au:lo<=w.heap.size)(hu:AG w.heap.size w1 u x)
 (A:w2.ownsRow lo 29 1 v' (V.length+1) (CZ Gc V++[u]))(H:w1.grownBy w2 v.ownBlock):Az lo w2 v' (V++[u]) (jB++[x]):=by
 obtain⟨a1,a2,a3⟩:=h;have b8:=a1.below J;refine⟨?_,GE.snoc (a2.mono λy ys hy=>?_) ?_,DO.snoc a3 λy hy=>?_⟩
 .unfold AO
  rw[Bj,Ee,yA];exact A
 .have eI:=hy.below J
  exact Aw eI H (BJ eI b8 (Ne.symm MA)).ne
 .exact Aw (BZ hu au) H (BJ hu b8 (Ne.symm MA)).ne
 .obtain⟨i,E⟩:=xq hy
  obtain⟨ys,fH⟩:∃ys,jB[i]?=some ys:=⟨_,yH (by rw[<-a2.1];exact(yE.1 E).1)⟩
  exact Kf (B:=0) (a2.2 i y ys E fH) (λk hk=>(hu.lt k hk).1)
def OG(n:Nat):List (List Int):=yd n [0,0,0,0]
theorem YU(w:World):
 Calls prog 183 #[] w λe w'=>∃v V,e=.returned v/\Az w.heap.size w' v V (OG 12)/\Below w.heap.size w w':=by
 go_in;go_wp2_with fail;go_loopw [1,2] (λo i wr=>∃k:Nat,∃V:List Value,k<=12/\V.length=k/\i=.int .i64 k/\Az w.heap.size wr o V (OG k)/\Below w.heap.size w wr) (λ_ i _=>12 - (intOf i).toNat)
 exact⟨0,[],by omega,rfl,rfl,⟨Cu _ _ _,GE.nil,DO.nil⟩,AJ _ _⟩
 obtain⟨k,V,hk,hl,rfl,hO,al⟩:=hrel;have Hl:=AA hl;clear hl
 by_cases ay:k<12
 .have ny:V.length<=12:=by rw[Hl.out];omega
  go_wp2_with (first|(at_make;go_must (refine Pq (n:=4) rfl rfl 3 (.int .i64 0) 8 underlying29 Tryz.zT rfl rfl (by omega) (by unfold maxLen;omega) ?_;intro w2 fj bl eJ))|(at_builtin;go_must (refine Bm (lo:=w.heap.size) (n:=V.length) (xs:=CZ Gc V) (m:=1) (news:=[.slice (some ⟨wr.heap.size,0,none⟩) 4 4]) rfl rfl 29 (.slice none 0 0) 1 24 underlying23 Tryz.zk rfl (by decide) rfl ((hO.below bl).below (AJ _ _)).1 rfl (Rd.zN _ #[_] _ 1 1 _ (by simp) rfl (by simp[maxLen])) (by simp[xR]) (by unfold maxLen;omega) (by omega) (by have:=al.size;simp;omega) ?_;intro o' w3 g1 g2 g3 g4)));go_roundw
  case rel=>have hu:AG wr.heap.size w2 (.slice (some ⟨wr.heap.size,0,none⟩) 4 4) [0,0,0,0]:=fj;have ad:=bl.trans ((AJ w2 (.cells #[.slice (some ⟨wr.heap.size,0,none⟩) 4 4] 29)).mono bl.size);have hP:=hO.push ad al.size (hu.below (AJ _ _)) g1 g2;refine⟨k+1,V++[.slice (some ⟨wr.heap.size,0,none⟩) 4 4],by omega,by rw[yA,Hl.out];rfl,by go_num,?_,(al.trans (ad.mono al.size)).trans g4⟩;rw[show OG (k+1)=OG k++[[0,0,0,0]] by simp[OG,List.replicate_succ']];exact hP
  case measure=>simp[intOf];omega
 .obtain rfl:k=12:=by omega
  go_wp2_with fail;go_ret;exact⟨_,V,rfl,hO,al⟩
theorem Tryz.zj:(prog.info? 9).map (λi=>(i.zero,i.size,i.bytes))=some (some (.string ⟨#[]⟩),1,16):=by kernel_rfl
theorem Tryz.ze:(prog.info? 66).map (λi=>(i.zero,i.size,i.bytes))=some (some (.agg #[.slice none 0 0,.int .i64 0]),2,32):=by kernel_rfl
theorem Zu{ts:List ByteArray}:∀u∈CZ Ay ts,u.oneCell'=true:=by intro u hu;obtain⟨s,_,hs⟩:=wV.1 hu;simp[Ay] at hs;subst hs;rfl
theorem BG.keep{α:Type}{sz:Nat}{cs:α->List Value}{w:World}{xs:List α}(h:BG sz cs w v xs)(hk:∀k,k<w.heap.size->w'.heap[k]?=w.heap[k]?):BG sz cs w' v xs:=Rd.keep h hk
theorem DJ.push{lo lo':Nat}{w w1 w2:World}{v' r:Value}{ps:List (Value×Int)}{ts:List ByteArray}{n:Int}
 (h:DJ lo w v ps es)(J:Below w.heap.size w w1)(au:lo<=lo')(jW:w.heap.size<=lo')(hr:AO lo' 9 1 Ay w1 r ts)
 (A:w2.ownsRow lo 66 2 v' (ps.length+1) (CZ Eu ps++[r,.int .i64 n]))(H:w1.grownBy w2 v.ownBlock):DJ lo w2 v' (ps++[(r,n)]) (es++[⟨ts,n⟩]):=by
 obtain⟨a1,a2,a3⟩:=h;have b8:=a1.below J;have bX:9≠66:=by decide
 refine⟨?_,GE.snoc (a2.mono λy ys hy=>⟨?_,hy.2⟩) ⟨?_,rfl⟩,?_⟩
 .unfold AO
  rw[Bj,Ee,yA];exact A
 .have eI:=hy.1.below J
  exact Aw eI H (BJ eI b8 bX).ne
 .exact Aw (BZ hr au) H (BJ hr b8 bX).ne
 .rw[xN]
  refine DO.snoc a3 λy hy=>?_
  obtain⟨p,hp,rfl⟩:=vZ.1 hy;obtain⟨i,E⟩:=xq hp;obtain⟨e,he⟩:∃e,es[i]?=some e:=⟨_,yH (by rw[<-a2.1];exact(yE.1 E).1)⟩
  exact Kf (B:=0) (a2.2 i p e E he).1 (λk hk=>yL jW (hr.lt k hk).1)
def ap(lo lo' g:Nat)(jr u ev:Value)(b at_:Nat)(k:Int)(ts:List ByteArray)(ps:List (Value×Int))(es:List Em)(i:Nat)(v:Value)(w:World):Prop:=match i with
 |0|11=>v=.pointer (some ⟨g,2,none⟩)
 |1=>v=ev
 |2=>∃g2,v=.slice (some ⟨g2,0,none⟩) 0 0/\lo'<=g2/\w.heap[g2]?=some (.cells #[] 9 (0,0))
 |3=>v=jr
 |4=>v=.int .i64 k
 |5=>v=.pointer (some ⟨b,at_,none⟩)
 |6=>v=u
 |7=>AO lo' 9 1 Ay w v ts
 |8=>∃r,v=.agg #[r,.int .i64 (-1)]/\AO lo' 9 1 Ay w r ts
 |9=>∃r g9,v=.slice (some ⟨g9,0,none⟩) 1 1/\lo'<=g9/\w.heap[g9]?=some (.cells #[r,.int .i64 (-1)] 66 (0,0))/\AO lo' 9 1 Ay w r ts
 |10=>∃r,DJ lo w v (ps++[(r,-1)]) (es++[⟨ts,-1⟩])
 |_=>True
theorem Br{lo e sz:Nat}{w:World}{xs:List Value}{row:Option Nat}(h:w.ownsRow lo e sz v n xs)(K:w.grownBy w' row)(hr:∀k,row=some k->k<lo):w'.ownsRow lo e sz v n xs:=by
 refine Aw h K ?_;cases hv:v.ownBlock with
 |none=>exact .inl rfl
 |some k=>
  refine .inr λhe=>?_
  have A:=hr k he.symm;have H:=(h.lt k hv).1;omega
theorem GH{w:World}{lo g:Nat}{o:Obj}{row:Option Nat}(h:w.heap[g]?=some o)(hl:lo<=g)(K:w.grownBy w' row)(hr:∀k,row=some k->k<lo):w'.heap[g]?=some o:=
 (K.block g (Array.getElem?_eq_some_iff.1 h).1 (λe=>by have:=hr g e.symm;omega)).trans h
theorem MK{lo lo' g:Nat}{jr ev:Value}{at_:Nat}{k:Int}{ts:List ByteArray}{ps:List (Value×Int)}{i:Nat}{w:World}{row:Option Nat}
 (h:ap lo lo' g jr u ev b at_ k ts ps es i v w)(K:w.grownBy w' row)(hr:∀k,row=some k->k<lo')(E:i≠10∨row=none):ap lo lo' g jr u ev b at_ k ts ps es i v w':=by
 match i with
 |0|1|3|4|5|6=>exact h
 |2=>obtain⟨g2,h0,A,H⟩:=h;exact⟨g2,h0,A,GH H A K hr⟩
 |7=>exact Br h K hr
 |8=>obtain⟨r,h0,A⟩:=h;exact⟨r,h0,Br A K hr⟩
 |9=>obtain⟨r,g9,h0,A,H,h3⟩:=h;exact⟨r,g9,h0,A,GH H A K hr,Br h3 K hr⟩
 |10=>
  obtain⟨r,h0⟩:=h
  rcases E with E|E
  .exact absurd rfl E
  .subst E;exact⟨r,h0.below ⟨K.os,K.tape,K.output,K.size,λk hk=>K.block k hk (by simp)⟩⟩
 |11=>exact h
 |_+12=>trivial
theorem Xq{α:Type}(us V:List α)(u0 u:α):(us++u0::V).set us.length u=(us++[u])++V:=by simp
def GG(lo:Nat)(w:World)(v:Value)(us V:List Value)(m:List (List Int)):Prop:=AO lo 29 1 Gc w v (us++V)/\GE (AG lo w) us (m.take us.length)/\DO us
theorem GG.step{lo g ao:Nat}{w w1:World}{us:List Value}{u0:Value}{m:List (List Int)}(h:GG lo w (.slice (some ⟨g,0,none⟩) n ao) us (u0::V) m)(N:n=(us++u0::V).length)
 (J:Below w.heap.size w w1)(au:lo<=w.heap.size)(hu:AG w.heap.size w1 u r)(hr:m[us.length]?=some r):
 GG lo (w1.setCell ⟨g,us.length,none⟩ u) (.slice (some ⟨g,0,none⟩) n ao) (us++[u]) V m/\w1.grownBy (w1.setCell ⟨g,us.length,none⟩ u) (some g):=by
 obtain⟨a1,a2,a3⟩:=h;have b8:=a1.below J;subst N;have S:=AO.zI FI b8 (k:=us.length) (x:=u0) (by simp) (j:=0) (by decide) (y:=u) (u:=u) rfl;rw[wR,xU,Xq] at S;have bX:3≠29:=Ne.symm MA;refine⟨⟨?_,?_,DO.snoc a3 λy hy=>?_⟩,S.2⟩
 .have:=S.1
  rwa [show(us++u0::V).length=((us++[u])++V).length by simp] at this ⊢
 .rw[yA,xQ,DF hr]
  refine GE.snoc (a2.mono λy ys hy=>?_) ?_
  .have eI:=hy.below J
   exact Aw eI S.2 (BJ eI b8 bX).ne
  .exact Aw (BZ hu au) S.2 (BJ hu b8 bX).ne
 .obtain⟨i,E⟩:=xq hy
  obtain⟨ys,fH⟩:∃ys,(m.take us.length)[i]?=some ys:=⟨_,yH (by rw[<-a2.1];exact(yE.1 E).1)⟩
  exact Kf (B:=0) (a2.2 i y ys E fH) (λk hk=>(hu.lt k hk).1)
theorem GG.whole{lo:Nat}{w:World}{us:List Value}{m:List (List Int)}(h:GG lo w v us [] m)(hl:us.length=m.length):Az lo w v us m:=by obtain⟨a1,a2,a3⟩:=h;rw[se] at a1;rw[hl,xG] at a2;exact⟨a1,a2,a3⟩
def Gq(lo:Nat)(w:World)(v:Value)(qs ps:List (Value×Int))(es:List Em):Prop:=AO lo 66 2 Eu w v (qs++ps)/\GE (λp e=>AO lo 9 1 Ay w p.1 e.Tj/\p.2=e.root) qs (es.take qs.length)/\DO (qs.map (·.1))
theorem Gq.step{lo g ao:Nat}{w w1:World}{qs ps:List (Value×Int)}{p0:Value×Int}{e:Em}(h:Gq lo w (.slice (some ⟨g,0,none⟩) n ao) qs (p0::ps) es)(N:n=(qs++p0::ps).length)
 (J:Below w.heap.size w w1)(au:lo<=w.heap.size)(hu:AO w.heap.size 9 1 Ay w1 u e.Tj)(he:es[qs.length]?=some e)(hp:p0.2=e.root):
 Gq lo (w1.setCell ⟨g,qs.length*2,none⟩ u) (.slice (some ⟨g,0,none⟩) n ao) (qs++[(u,p0.2)]) ps es/\w1.grownBy (w1.setCell ⟨g,qs.length*2,none⟩ u) (some g):=by
 obtain⟨a1,a2,a3⟩:=h;have b8:=a1.below J;subst N;have S:=AO.zI F6 b8 (k:=qs.length) (x:=p0) (by simp) (j:=0) (by decide) (y:=(u,p0.2)) (u:=u) rfl;rw[xU,Xq] at S;have bX:9≠66:=by decide
 refine⟨⟨?_,?_,?_⟩,S.2⟩
 .have:=S.1
  rwa [show(qs++p0::ps).length=((qs++[(u,p0.2)])++ps).length by simp] at this ⊢
 .rw[yA,xQ,DF he]
  refine GE.snoc (a2.mono λy ys hy=>⟨?_,hy.2⟩) ⟨?_,hp⟩
  .have eI:=hy.1.below J
   exact Aw eI S.2 (BJ eI b8 bX).ne
  .exact Aw (BZ hu au) S.2 (BJ hu b8 bX).ne
 .rw[xN]
  refine DO.snoc a3 λy hy=>?_
  obtain⟨p,hp,rfl⟩:=vZ.1 hy;obtain⟨i,E⟩:=xq hp;obtain⟨e',he'⟩:∃e',(es.take qs.length)[i]?=some e':=⟨_,yH (by rw[<-a2.1];exact(yE.1 E).1)⟩
  exact Kf (B:=0) (a2.2 i p e' E he').1 (λk hk=>(hu.lt k hk).1)
theorem Gq.whole{lo:Nat}{w:World}{qs:List (Value×Int)}(h:Gq lo w v qs [] es)(hl:qs.length=es.length):DJ lo w v qs es:=by obtain⟨a1,a2,a3⟩:=h;rw[se] at a1;rw[hl,xG] at a2;exact⟨a1,a2,a3⟩
theorem UN(v:Value)(m:List (List Int))(w:World)(h:Bf w v m)(aq:Bq m=true):
 Calls prog 44 #[v] w λe w'=>∃v' V,e=.returned v'/\Az w.heap.size w' v' V m/\Below w.heap.size w w':=by
 obtain⟨V,A,H⟩:=h;have cn:=(Ah.1 aq).1;have ii:V.length=12:=by rw[H.1,cn]
 have CC:=AA (MY v V w A (by omega) (TC H));have CI:=AA (λk (hk:k<12) W (hW:Below w.heap.size w W)=>KJ (V.getD k (.bool false)) (AH m k) W (Ax.below (H.2 k _ _ (BD (by omega)) (by unfold AH;exact BD (by omega))) hW) (by have:=(A6.1 ((Ah.1 aq).2 k hk)).1;omega));have SH:=AA (λk (hk:k<12)=>(by obtain⟨a,c,e,_⟩:=(H.2 k _ _ (BD (d:=Value.bool false) (by omega)) (BD (d:=[]) (by omega))).open;exact⟨a,_,c,e⟩:∃a n c,V.getD k (.bool false)=.slice a n c));have iV:=AA ii;have lJ:=AA cn;obtain⟨ai,ci,rfl,_,_⟩:=A.shape;clear A H aq cn;rw[ii] at CC ⊢;clear ii;go_in;go_wp2_with fail;refine(CC.out).mono ?_;rintro e w1 ⟨v',rfl,hO,be⟩;obtain⟨g,ao,rfl,c1,c2,q1,q2,cq⟩:=hO.zX (by have:=iV.out;omega);unfold maxLen at c2;rw[iV.out] at hO c1 ⊢;have HO:=AA hO;have HB:=AA be;clear hO be cq;go_wp2_with fail;go_loopw [10] (λi wr=>∃us:List Value,us.length<=12/\i=.int .i64 us.length/\GG w.heap.size wr (.slice (some ⟨g,0,none⟩) 12 ao) us (V.drop us.length) m/\Below w.heap.size w wr) (λi _=>12 - (intOf i).toNat)
 exact⟨[],by simp,rfl,⟨HO.out,GE.nil,DO.nil⟩,HB.out⟩
 obtain⟨us,hk,rfl,hH,al⟩:=hrel
 by_cases ay:us.length<12
 .have fL:us.length<V.length:=by rw[iV.out];exact ay
  have ed:V.drop us.length=V.getD us.length (.bool false)::V.drop (us.length+1):=by
   rw[tK fL]
   congr 1
   simp[fL]
  rw[ed] at hH;have a8:(us++V.getD us.length (.bool false)::V.drop (us.length+1)).length=12:=by have:=iV.out;simp only[yA,vY,xm];omega
  have fv:=hH.1;rw[<-a8] at fv;have Hb:=AO.zK FI fv (k:=us.length) (x:=V.getD us.length (.bool false)) (by simp) 0 _ rfl;rw[wR,xU] at Hb;have C:=CI.out _ ay wr al;have hr:m[us.length]?=some (AH m us.length):=by unfold AH;exact BD (by rw[lJ.out];exact ay)
  have HH:=AA hH;have HR:=AA hr;have CH:=AA C;have gI:=AA a8;have cq:=xT fv us.length;have nU:(12:Int)<=ao:=by omega
  clear hH fv hr C ed a8;generalize hu0:V.getD us.length (.bool false)=u0 at*;obtain⟨a0,n0,c0,rfl⟩:∃a n c,u0=.slice a n c:=by have:=SH.out _ ay;rwa [hu0] at this
  go_wp2_with fail;refine(CH.out).mono ?_;rintro e w2 ⟨u,rfl,hu,ad⟩;have D2:=(ad.cell (p:=⟨g,us.length,none⟩) (yM wr _ Hb)).trans Hb;have mH:=(ad.frozen (p:=⟨g,us.length,none⟩) (yM wr _ Hb)).trans cq;have ST:=AA (GG.step HH.out gI.out.symm ad al.size hu HR.out);have nj:=AA (AM (al.trans (ad.mono al.size)) ST.out.2 q1 (yL al.size ad.size));obtain⟨a9,c9,rfl,_⟩:=hu.rd.open;clear Hb cq hu ad al;go_wp2_with fail;go_roundw
  case rel=>refine⟨us++[.slice a9 (AH m us.length).length c9],by rw[yA,xQ];omega,by rw[yA,xQ];go_num,?_,nj.out⟩;rw[yA,xQ];exact ST.out.1
  case measure=>simp[intOf];omega
 .have e12:us.length=12:=by omega
  rw[tz (by rw[e12,iV.out];exact yG _)] at hH;have call:=AA (hH.whole (by rw[e12,lJ.out]));clear hH;go_wp2_with fail;go_ret;exact⟨_,us,rfl,call.out,al⟩
def Jn(lo:Nat)(w:World)(v:Value)(k:AN)(ps:List (Value×Int)):Prop:=∃m i e c,v=.agg #[m,i,e,c]/\(∃V,Az lo w m V k.mem)/\AO lo 91 3 At w i k.Xy/\AO lo 66 2 Eu w e ps/\AO lo 96 4 AX w c k.V0
theorem Jn.below{lo:Nat}{w:World}{k:AN}{ps:List (Value×Int)}(h:Jn lo w v k ps)(J:Below w.heap.size w w'):Jn lo w' v k ps:=by obtain⟨m,i,e,c,h0,⟨V,A⟩,H,h3,h4⟩:=h;exact⟨m,i,e,c,h0,⟨V,A.below J⟩,H.below J,h3.below J,h4.below J⟩
def Kp(lo:Nat)(w:World)(v:Value):Prop:=∃g,v=.pointer (some ⟨g,0,none⟩)/\lo<=g/\w.heap[g]?=some (.cells #[.slice none 0 0,.slice none 0 0,.slice none 0 0,.slice none 0 0] 28 (0,0))
theorem Kp.below{lo:Nat}{w:World}(h:Kp lo w v)(J:Below w.heap.size w w'):Kp lo w' v:=by obtain⟨g,h0,A,H⟩:=h;exact⟨g,h0,A,AB H J⟩
def NH(w0:World)(g:Nat)(m i e c:Value)(k:AN)(qs ps:List (Value×Int))(wr:World):Prop:=
 wr.heap[g]?=some (.cells #[m,i,e,c] 28 (0,0))/\(∃V,Az w0.heap.size wr m V k.mem)/\AO w0.heap.size 91 3 At wr i k.Xy/\Gq w0.heap.size wr e qs ps k.V3/\AO w0.heap.size 96 4 AX wr c k.V0/\Below w0.heap.size w0 wr
theorem NH.step{w0:World}{g ao:Nat}{m i c:Value}{k:AN}{qs ps:List (Value×Int)}{p0:Value×Int}{w w1:World}{e:Em}(h:NH w0 g m i (.slice (some ⟨ge,0,none⟩) n ao) c k qs (p0::ps) w)(N:n=(qs++p0::ps).length)
 (J:Below w.heap.size w w1)(hu:AO w.heap.size 9 1 Ay w1 u e.Tj)(he:k.V3[qs.length]?=some e)(hp:p0.2=e.root):
 NH w0 g m i (.slice (some ⟨ge,0,none⟩) n ao) c k (qs++[(u,p0.2)]) ps (w1.setCell ⟨ge,qs.length*2,none⟩ u):=by
 obtain⟨hB,⟨V,A⟩,H,h3,h4,h5⟩:=h;have S:=Gq.step h3 N J h5.size hu he hp;have kn:=AB hB J;have fw:=h3.1.below J;obtain⟨eo,b6⟩:=A9 fw ge rfl;have au:=(yB fw ge rfl).1;refine⟨(S.2.block g (AW kn) λe=>?_).trans kn,⟨V,(A.below J).yW S.2 b6⟩,(H.below J).yW S.2 b6,S.1,(h4.below J).yW S.2 b6,(h5.trans (J.mono h5.size)).setCell au _⟩;cases e;rw[kn] at b6;simp at b6
def Pc(w:World)(k:AN)(e:Ending)(w':World):Prop:=∃m i ev c,e=.returned (.agg #[m,i,ev,c])/\Dh w.heap.size w' m i ev c k/\Below w.heap.size w w'
theorem QU{k:AN}(hk:DP k){j:Nat}(hj:j<3):(AF k.V3 j).Tj.length<=6:=by have h5:=hk.Tj j hj;unfold BS at h5;simp only[yD,decide_eq_true_eq] at h5;exact h5.2
theorem Po(m i e c:Value)(k:AN)(w:World)(h:Le w m i e c k)(hk:DP k):
 Calls prog 28 #[.agg #[m,i,e,c]] w (Pc w k):=by
 obtain⟨A,H,⟨ps,h3,fw⟩,h4⟩:=h;have du:ps.length=3:=by rw[fw.1,hk.zY]
 have gv:k.V0.length<=4:=by have:=hk.V0;simp only[Bd,yD,decide_eq_true_eq] at this;exact this.2
 have jg:=hk.zY;have N0:=yw w (.cells #[m,i,e,c] 28);have N1:=yw (w.alloc (.cells #[m,i,e,c] 28)) (.cells #[.slice none 0 0,.slice none 0 0,.slice none 0 0,.slice none 0 0] 28);replace N0:=AB N0 (AJ _ (.cells #[.slice none 0 0,.slice none 0 0,.slice none 0 0,.slice none 0 0] 28));have az:=IH w (.cells #[m,i,e,c] 28) (.cells #[.slice none 0 0,.slice none 0 0,.slice none 0 0,.slice none 0 0] 28);have i9:w.heap.size+2=((w.alloc (.cells #[m,i,e,c] 28)).alloc (.cells #[.slice none 0 0,.slice none 0 0,.slice none 0 0,.slice none 0 0] 28)).heap.size:=by simp
 simp only[xK] at N1;obtain⟨am,cm,rfl,_⟩:=A.open;obtain⟨ai,ci,rfl,_⟩:=H.shape;obtain⟨ae,ce,rfl,_⟩:=h3.shape;obtain⟨ac,cc,rfl,_⟩:=h4.shape;have g6:=AA du;have mY:=AA gv;have ky:=AA jg;clear du gv jg;go_in;go_wp2_with fail;have du:=g6.out;have gv:=mY.out;have jg:=ky.out;generalize hW0:(w.alloc _).alloc _=W0 at*;have C1:=AA (λW (hW:Below W0.heap.size W0 W)=>UN _ k.mem W ((A.below az).below hW) hk.mem);have C2:=AA (λW (hW:Below W0.heap.size W0 W)=>GN _ k.Xy W ((H.below az).below hW) (by rw[hk.len];omega));have C3:=AA (λW (hW:Below W0.heap.size W0 W)=>Te _ ps W ((h3.below az).below hW) (by omega) (Yh fw));have C4:=AA (λW (hW:Below W0.heap.size W0 W)=>JI _ k.V0 W ((h4.below az).below hW) (by omega));have C5:=AA (λj (hj:j<3) W (hW:Below w.heap.size w W)=>JJ (ps.getD j (.bool false,0)).1 (AF k.V3 j).Tj W (BG.below (fw.2 j _ _ (BD (by omega)) (by unfold AF;exact BD (by omega))).1 hW) (by have h6:=QU hk hj;omega));have C6:=AA (λj (hj:j<3)=>(fw.2 j (ps.getD j (.bool false,0)) (AF k.V3 j) (BD (by omega)) (by unfold AF;exact BD (by omega))).2);have C7:=AA (λj (hj:j<3)=>(by obtain⟨a,n,e,_⟩:=(fw.2 j (ps.getD j (.bool false,0)) (AF k.V3 j) (BD (by omega)) (by unfold AF;exact BD (by omega))).1.shape;exact⟨a,_,n,e⟩:∃a n c,(ps.getD j (.bool false,0)).1=.slice a n c));have Hk:=AA hk;have fn:w.heap.size<W0.heap.size:=by omega
 obtain⟨x0,x1,x2,x3⟩:=AE N0;clear A H h3 fw h4 hk hW0 du gv jg;refine A5 14 37 [.p w.heap.size 0,.v (.slice am k.mem.length cm),.z,.p w.heap.size 1,.v (.slice ai k.Xy.length ci),.z,.p w.heap.size 2,.v (.slice ae ps.length ce),.z,.p w.heap.size 3,.v (.slice ac k.V0.length cc),.z,.z,.z] (λix vv ww=>match ix with
  |2=>∃eH,Az W0.heap.size ww vv eH k.mem
  |5=>AO W0.heap.size 91 3 At ww vv k.Xy
  |8=>AO W0.heap.size 66 2 Eu ww vv ps
  |11=>AO W0.heap.size 96 4 AX ww vv k.V0
  |12=>Jn W0.heap.size ww vv k ps
  |13=>Kp W0.heap.size ww vv
  |_=>True) ?_ ?_ ?_
 .intro i E o L a wx D z O hg Z
  match i,E with
  |0,_|3,_|6,_|9,_=>exact sP L Z D z
  |1,_=>exact sL L Z D z (hl:=GQ (bc O fn x0))
  |2,_=>exact sC L Z D z (C1.out _ O) (by rintro e w_ ⟨v',eH,rfl,hO,ad⟩;exact⟨_,rfl,⟨eH,hO.lower O.size⟩,ad⟩)
  |4,_=>exact sL L Z D z (hl:=GV (bc O fn x1))
  |5,_=>exact sC L Z D z (C2.out _ O) (by rintro e w_ ⟨v',rfl,hO,ad⟩;exact⟨_,rfl,(hO.lower O.size),ad⟩)
  |7,_=>exact sL L Z D z (hl:=OZ (bc O fn x2))
  |8,_=>exact sC L Z D z (C3.out _ O) (by rintro e w_ ⟨v',rfl,hO,ad⟩;exact⟨_,rfl,(hO.lower O.size),ad⟩)
  |10,_=>exact sL L Z D z (hl:=Wk (bc O fn x3))
  |11,_=>exact sC L Z D z (C4.out _ O) (by rintro e w_ ⟨v',rfl,hO,ad⟩;exact⟨_,rfl,(hO.lower O.size),ad⟩)
  |12,_=>
   obtain rfl:=yQ L;have d2:∃eH,Az W0.heap.size wx (a.tmps[8]?.getD undef) eH k.mem:=BY z 2
   have d5:AO W0.heap.size 91 3 At wx (a.tmps[11]?.getD undef) k.Xy:=BY z 5;have d8:AO W0.heap.size 66 2 Eu wx (a.tmps[14]?.getD undef) ps:=BY z 8;have fA:AO W0.heap.size 96 4 AX wx (a.tmps[17]?.getD undef) k.V0:=BY z 11;clear z D;generalize e8:a.tmps[8]?.getD undef=m' at d2;generalize e11:a.tmps[11]?.getD undef=i' at d5;generalize e14:a.tmps[14]?.getD undef=e' at d8;generalize e17:a.tmps[17]?.getD undef=c' at fA;have W:Hid (Jn W0.heap.size wx (.agg #[m',i',e',c']) k ps):=AA ⟨m',i',e',c',rfl,d2,d5,d8,fA⟩;obtain⟨_,d2⟩:=d2;obtain⟨_,_,rfl,_,_⟩:=d2.1.rd.shape;obtain⟨_,_,rfl,_,_⟩:=d5.rd.shape;obtain⟨_,_,rfl,_,_⟩:=d8.rd.shape;obtain⟨_,_,rfl,_,_⟩:=fA.rd.shape;clear d2 d5 d8 fA;refine yP ?_;go_simp;exact Z.out _ _ W.out (yO _ _)
  |13,_=>obtain rfl:=yQ L;clear z D;refine yP ?_;go_simp;exact Z.out _ _ ⟨_,rfl,O.size,yw _ _⟩ (AJ _ _)
 .intro i E vv wz c6 a7 hz
  match i,E with
  |2,_=>exact(by obtain⟨eH,h'⟩:=hz;exact⟨eH,h'.below a7⟩)
  |5,_|8,_|11,_=>exact(AO.below hz a7)
  |12,_=>exact(Jn.below hz a7)
  |13,_=>exact(Kp.below hz a7)
  |0,_|1,_|3,_|4,_|6,_|7,_|9,_|10,_=>exact hz
 .intro V wx hR O
  have dp:Jn W0.heap.size wx (V 12) k ps:=Bg hR 12;have b9:Kp W0.heap.size wx (V 13):=Bg hR 13;obtain⟨g,b9,K,hB⟩:=b9;clear hR;simp only[Aj,Ag,yN,yJ,yK,yI,b9];simp;generalize V 12=z12 at dp ⊢;clear b9;obtain⟨m',i',e0,c',rfl,⟨eH,o1⟩,o2,o3,o4⟩:=dp;obtain⟨ge,dn,rfl,d1,d2,nO,nN,j5⟩:=o3.zX (by rw[g6.out];omega);rw[g6.out] at o3 d1 ⊢;unfold maxLen at d2;have bX:g≠w.heap.size+1:=by omega
  have bw:=Ao (Ao (Ao (Ak wx g 0 m') 1 i') 2 (.slice (some ⟨ge,0,none⟩) 3 dn)) 3 c';have St:NH W0 g m' i' (.slice (some ⟨ge,0,none⟩) 3 dn) c' k [] ps ((((wx.setCell ⟨g,0,none⟩ m').setCell ⟨g,1,none⟩ i').setCell ⟨g,2,none⟩ (.slice (some ⟨ge,0,none⟩) 3 dn)).setCell ⟨g,3,none⟩ c'):=
   ⟨Cw hB,⟨eH,o1.yW bw hB⟩,o2.yW bw hB,⟨o3.yW bw hB,GE.nil,DO.nil⟩,o4.yW bw hB,(((O.setCell K _).setCell K _).setCell K _).setCell K _⟩
  obtain⟨pa,pc,rfl,_,_⟩:=o1.1.rd.shape;obtain⟨qa,qc,rfl,_,_⟩:=o2.rd.shape;obtain⟨ra,rc,rfl,_,_⟩:=o4.rd.shape;obtain⟨b0,b1,b2,b3⟩:=AE hB;have cq:=AK hB;have nY:=AA N0;have nb:=AA N1;clear o1 o2 o3 o4 O hB bw x0 x1 x2 x3 j5 N0 N1;go_wp2_with fail;clear b0 b1 b2 b3 cq;go_loopw [22] (λi wr=>∃qs:List (Value×Int),qs.length<=3/\i=.int .i64 qs.length/\NH W0 g _ _ (.slice (some ⟨ge,0,none⟩) 3 dn) _ k qs (ps.drop qs.length) wr) (λi _=>3 - (intOf i).toNat)
  exact⟨[],by simp,rfl,St⟩
  clear St;obtain⟨qs,hq,rfl,St⟩:=hrel
  by_cases ay:qs.length<3
  .have fL:qs.length<ps.length:=by rw[g6.out];exact ay
   have ed:ps.drop qs.length=ps.getD qs.length (.bool false,0)::ps.drop (qs.length+1):=by
    rw[tK fL]
    congr 1
    simp[fL]
   rw[ed] at St;have a8:(qs++ps.getD qs.length (.bool false,0)::ps.drop (qs.length+1)).length=3:=by have:=g6.out;simp only[yA,vY,xm];omega
   have fv:=St.2.2.2.1.1;rw[<-a8] at fv;have Hb:=AO.zK F6 fv (k:=qs.length) (x:=ps.getD qs.length (.bool false,0)) (by simp);have D0:=Hb 0 _ rfl;have D1:=Hb 1 _ rfl;rw[xU] at D0;have fz:=xT fv;have ar:=az.trans (St.2.2.2.2.2.mono az.size);have C:=C5.out _ ay;have hp:=C6.out _ ay;obtain⟨a0,n0,c0,i9⟩:=C7.out _ ay;have he:k.V3[qs.length]?=some (AF k.V3 qs.length):=by unfold AF;exact BD (by rw[ky.out];exact ay)
   have y2:=(AE St.1).2.2.1;have gV:=AW St.1;have ex:=yM wr _ D0;have fC:=AA St;have gI:=AA a8;have He:=AA he;have Hp:=AA hp;clear St a8 he hp fv Hb ed;generalize ps.getD qs.length (.bool false,0)=p0 at*;obtain⟨u0,r0⟩:=p0;cases i9
   change wr.cell? _=some (xB a0 n0 c0) at D0
   change wr.cell? _=some (ym .i64 r0) at D1
   obtain⟨hn,fa⟩:=EH wr (.cells #[.slice a0 n0 c0,.int .i64 r0] 66);have c3:(3:Int)<=dn:=by omega
   go_wp2_with fail;generalize wr.alloc _=wa at*;have y5:=yz _ _ 0 _ _ _ hn;have gp:=AW hn;have HC:=AA (λW (hW:Below wa.heap.size wa W)=>C W ((ar.trans (fa.mono ar.size)).trans (hW.mono (ar.trans (fa.mono ar.size)).size)));replace y2:=(fa.cell (p:=⟨g,2,none⟩) gV).trans y2;replace D0:=(fa.cell (p:=⟨ge,qs.length*2,none⟩) ex).trans D0;have lz:=(fa.frozen (p:=⟨ge,qs.length*2,none⟩) ex).trans (fz _);replace gV:=yv gV fa.size;replace ex:=yv ex fa.size;clear C hn D1 fz;refine A5 8 37 [.p g 2,.v (.slice (some ⟨ge,0,none⟩) 3 dn),.i ((qs.length:Int)),.p wr.heap.size 0,.v (.slice a0 n0 c0),.z,.p ge (qs.length*2),.p ge (qs.length*2)] (λix vv ww=>match ix with
    |5=>AO wa.heap.size 9 1 Ay ww vv (AF k.V3 qs.length).Tj
    |_=>True) ?_ ?_ ?_
   .intro i E o L a wx D z O hg Z
    match i,E with
    |0,_|2,_|3,_|7,_=>exact sP L Z D z
    |1,_=>exact sL L Z D z (hl:=OZ (bc O gV y2))
    |4,_=>exact sL L Z D z (hl:=KN (bc O gp y5))
    |5,_=>exact sC L Z D z (HC.out _ O) (by rintro e w_ ⟨v',rfl,hO,ad⟩;exact⟨_,rfl,(hO.lower O.size),ad⟩)
    |6,_=>exact sI L Z D z (hr:=by clear z D Z;go_simp)
   .intro i E vv wz c6 a7 hz
    match i,E with
    |5,_=>exact(AO.below hz a7)
    |0,_|1,_|2,_|3,_|4,_|6,_|7,_=>exact hz
   .intro V wx hR O
    have q5:AO wa.heap.size 9 1 Ay wx (V 5) (AF k.V3 qs.length).Tj:=Bg hR 5;have q7:(V 7)=.pointer (some ⟨ge,qs.length*2,none⟩):=Bg hR 7;clear hR;simp only[Aj,Ag,yN,yJ,yK,yI,q7];simp;generalize V 5=z5 at q5 ⊢;clear q7;have ST:=AA (NH.step (p0:=(_,r0)) fC.out gI.out.symm (fa.trans (O.mono fa.size)) (q5.lower fa.size) He.out Hp.out);replace D0:=(O.cell (p:=⟨ge,qs.length*2,none⟩) ex).trans D0;replace lz:=(O.frozen (p:=⟨ge,qs.length*2,none⟩) ex).trans lz;obtain⟨_,_,rfl,_,_⟩:=q5.rd.shape;clear q5 O y2 y5;go_wp2_with fail;go_roundw;exact⟨qs++[(_,r0)],by rw[yA,xQ];omega,by rw[yA,xQ];go_num,by rw[yA,xQ];exact ST.out⟩;simp[intOf];omega
  .have e3:qs.length=3:=by omega
   rw[tz (by rw[e3,g6.out];exact yG _)] at St;obtain⟨hB,⟨lY,o1⟩,o2,o3,o4,al⟩:=St;have o5:=o3.whole (by rw[e3,ky.out]);have dt:=(al.block _ (by omega)).trans nb.out;have S:=AA (show ∀w',wr.grownBy w' (some (w.heap.size+1))->Pc w k (.returned (.agg #[_,_,(.slice (some ⟨ge,0,none⟩) 3 dn),_])) w' from λw' eO=>⟨_,_,_,_,rfl,⟨⟨lY,(o1.yW eO dt).lower az.size⟩,(o2.yW eO dt).lower az.size,⟨qs,(o5.yW eO dt).lower az.size⟩,(o4.yW eO dt).lower az.size⟩,(az.trans (al.mono az.size)).grown eO (az.trans (al.mono az.size)).size (λk hk=>by cases hk;omega)⟩)
   obtain⟨E0,E1,E2,E3⟩:=AE (Cw (m':=.slice pa eH.length pc) (i':=.slice qa k.Xy.length qc) (e':=.slice (some ⟨ge,0,none⟩) 3 dn) (c':=.slice ra k.V0.length rc) dt);have HE:=AA (yk E0 (yk E1 (yk E2 E3)));have bw:wr.grownBy ((((wr.setCell ⟨w.heap.size+1,0,none⟩ (.slice pa eH.length pc)).setCell ⟨w.heap.size+1,1,none⟩ (.slice qa k.Xy.length qc)).setCell ⟨w.heap.size+1,2,none⟩ (.slice (some ⟨ge,0,none⟩) 3 dn)).setCell ⟨w.heap.size+1,3,none⟩ (.slice ra k.V0.length rc)) (some (w.heap.size+1)):=Ao (Ao (Ao (Ak wr (w.heap.size+1) 0 _) 1 _) 2 _) 3 _;obtain⟨b0,b1,b2,b3⟩:=AE hB;obtain⟨c0,c1,c2,c3⟩:=AE dt;have cq:=AK dt;have jT:¬(qs.length:Int)<3:=by omega
   clear hB dt o1 o2 o3 o4 o5 E0 E1 E2 E3 e3;go_wp2_with fail;exact yC (v:=.agg #[_,_,_,_]) (by simp[results,Tryz.results28,go_sem,HE.out]) rfl (S.out _ bw)
theorem Tryz.infoInfo:(prog.info? 91).map (λi=>(i.zero,i.size,i.bytes))=some (some (.agg #[.int .i64 0,.string ⟨#[]⟩,.int .i64 0]),3,32):=by kernel_rfl
theorem YY:(madeCells (Value.agg #[.int .i64 0,.string ⟨#[]⟩,.int .i64 0]).cells (12*3)).toList=CZ At (yd 12 AV.zero):=by kernel_rfl
def bG(lo:Nat)(i:Nat)(v:Value)(w:World):Prop:=match i with
 |0=>∃V,Az lo w v V (OG 12)
 |1=>AO lo 91 3 At w v (yd 12 AV.zero)
 |2=>AO lo 66 2 Eu w v []
 |3=>AO lo 96 4 AX w v []
 |4=>∃m i e c,v=.agg #[m,i,e,c]/\(∃V,Az lo w m V (OG 12))/\AO lo 91 3 At w i (yd 12 AV.zero)/\AO lo 66 2 Eu w e []/\AO lo 96 4 AX w c []
 |5=>∃g,v=.pointer (some ⟨g,0,none⟩)/\lo<=g/\w.heap[g]?=some (.cells #[.slice none 0 0,.slice none 0 0,.slice none 0 0,.slice none 0 0] 28 (0,0))
 |_=>True
theorem Jx{lo i:Nat}{w:World}(h:bG lo i v w)(J:Below w.heap.size w w'):bG lo i v w':=by
 match i with
 |0=>obtain⟨V,h⟩:=h;exact⟨V,h.below J⟩
 |1|2|3=>exact AO.below h J
 |4=>obtain⟨m,i,e,c,h0,⟨V,A⟩,H,h3,h4⟩:=h;exact⟨m,i,e,c,h0,⟨V,A.below J⟩,H.below J,h3.below J,h4.below J⟩
 |5=>
  obtain⟨g,h0,A,H⟩:=h;have:g<w.heap.size:=by
   rcases Nat.lt_or_ge g w.heap.size with h|h
   .exact h
   .rw[Array.getElem?_eq_none h] at H;cases H
  exact⟨g,h0,A,(J.block g this).trans H⟩
 |_+6=>trivial
def Io(c7:List (List ByteArray)):List Em:=c7.map λts=>⟨ts,-1⟩
def Ng(c7:List (List ByteArray)):AN:=⟨OG 12,yd 12 AV.zero,Io c7,[]⟩
def dD(w:World)(b:Bool)(k:AN)(e:Ending)(w':World):Prop:=∃m i ev c,e=.returned (.tuple #[.agg #[m,i,ev,c],.bool b])/\Dh w.heap.size w' m i ev c k/\Below w.heap.size w w'
def ZE(w0:World)(lo g:Nat)(es:List Em)(wr:World):Prop:=
 ∃m i ev c V ps,wr.heap[g]?=some (.cells #[m,i,ev,c] 28 (0,0))/\lo<=g/\Az lo wr m V (OG 12)/\AO lo 91 3 At wr i (yd 12 AV.zero)/\DJ lo wr ev ps es/\AO lo 96 4 AX wr c []/\Below lo w0 wr
theorem Ld(v:Value)(c7:List (List ByteArray))(w:World)(h:MI w v c7)(h3:c7.length=3)(aq:∀ts∈c7,BS ts=true)(i8:∀ts∈c7,DH ts):
 Calls prog 136 #[v] w (dD w true (Ng c7)):=by
 obtain⟨V,A,H⟩:=h;obtain⟨a,cv,rfl,hc,cw,H0⟩:=BG.open FI (by decide) A;unfold maxLen at cw;have nx:V.length<=3:=by rw[H.1,h3];omega
 have ml:3<=V.length:=by rw[H.1,h3];omega
 have HB:=AA H;have H3:=AA h3;have ep:=AA aq;have mV:=AA i8;clear H h3 aq i8;go_in;go_wp2_with fail;have az:=AJ w (.cells #[.slice none 0 0,.slice none 0 0,.slice none 0 0,.slice none 0 0] 28);have ko:(w.alloc (.cells #[.slice none 0 0,.slice none 0 0,.slice none 0 0,.slice none 0 0] 28)).heap[w.heap.size]?=some (.cells #[.slice none 0 0,.slice none 0 0,.slice none 0 0,.slice none 0 0] 28 (0,0)):=yw w _;have i9:w.heap.size+1=(w.alloc (.cells #[.slice none 0 0,.slice none 0 0,.slice none 0 0,.slice none 0 0] 28)).heap.size:=by simp
 generalize w.alloc (.cells #[.slice none 0 0,.slice none 0 0,.slice none 0 0,.slice none 0 0] 28)=W0 at az ko i9;refine GM 6 mixed (by kernel_rfl) 41 rfl (by kernel_rfl) (bG W0.heap.size) (λ_ w'=>Below W0.heap.size W0 w') ?_ ?_ ?_
 .exact A0 (yO _ _) 1
 .intro i E o L a w1 D z ho HL O hg Z
  have eJ:=O.size;clear D HL
  match i,E with
  |0,_=>obtain rfl:=yQ L;clear z;refine yP ?_;go_simp;refine(YU _).mono ?_;rintro e w2 ⟨v,V,rfl,h3,h4⟩;exact Z.out _ _ ⟨V,h3.lower eJ⟩ (O.trans (h4.mono eJ)) (λj u _ _ _ h=>Jx h h4)
  |1,_=>obtain rfl:=yQ L;clear z;refine yP ?_;obtain⟨i0,it,ic,ib,ia⟩:=info_parts Tryz.infoInfo;obtain⟨w2,eu,h3,h4⟩:=run_make_full (P:=prog) w1 w1.heap.size 24 91 i0 _ 3 underlying24 it ic ib .i64 .i64 12 (by rw[ia];decide) (by decide) (yG _);have h5:=Below.zF h4;rw[YY] at h3;have kV:(Instr.makeSlice 24 (.int .i64 12) (.int .i64 12)).run prog w1=.ok (.slice (some ⟨w1.heap.size,0,none⟩) 12 12) w2:=eu;clear it ic ib ia eu;go_simp;exact Z.out _ _ (BZ h3 eJ) (O.trans (h5.mono eJ)) (λj u _ _ _ h=>Jx h h5)
  |2,_|3,_=>obtain rfl:=yQ L;clear z;refine yP ?_;go_simp;exact Z.out _ _ ((Cd _ _ _ _).lower eJ) (O.alloc eJ _) (λj u _ _ _ h=>Jx h (AJ _ _))
  |4,_=>
   obtain rfl:=yQ L;have d0:=BY z 0;have d1:=BY z 1;have d2:=BY z 2;have d3:=BY z 3;clear z
   change ∃V,Az _ _ (a.tmps[6]?.getD undef) _ _ at d0
   change AO _ _ _ _ _ (a.tmps[7]?.getD undef) _ at d1
   change AO _ _ _ _ _ (a.tmps[8]?.getD undef) _ at d2
   change AO _ _ _ _ _ (a.tmps[9]?.getD undef) _ at d3
   refine yP ?_;generalize e6:a.tmps[6]?.getD undef=m at d0;generalize e7:a.tmps[7]?.getD undef=i at d1;generalize e8:a.tmps[8]?.getD undef=e at d2;generalize e9:a.tmps[9]?.getD undef=c at d3;obtain⟨lZ,d0⟩:=d0;have W:=AA (show bG W0.heap.size 4 (.agg #[m,i,e,c]) w1 from⟨m,i,e,c,rfl,⟨lZ,d0⟩,d1,d2,d3⟩);obtain⟨_,_,rfl,_,_⟩:=d0.1.rd.shape;obtain⟨_,_,rfl,_,_⟩:=d1.rd.shape;obtain⟨_,_,rfl,_,_⟩:=d2.rd.shape;obtain⟨_,_,rfl,_,_⟩:=d3.rd.shape;clear d0 d1 d2 d3;go_simp;exact Z.out _ _ W.out O (λj u _ _ _ h=>h)
  |5,_=>obtain rfl:=yQ L;clear z;refine yP ?_;go_simp;exact Z.out _ _ ⟨_,rfl,eJ,yw _ _⟩ (O.alloc eJ _) (λj u _ _ _ h=>Jx h (AJ _ _))
 .intro xs w1 hR ho hL O
  obtain⟨m,i,e,c,h0,⟨rs,A⟩,H,h3,h4⟩:=Bg hR 4;obtain⟨g,h5,h6,h7⟩:=Bg hR 5;clear hR hL;simp only[Aj,Ag,yN,yJ,yK,yI,h0,h5];simp;generalize xs 0=y0;generalize xs 1=y1;generalize xs 2=y2;generalize xs 3=y3;have St:ZE W0 W0.heap.size g (Io (c7.take 0)) ((((w1.setCell ⟨g,0,none⟩ m).setCell ⟨g,1,none⟩ i).setCell ⟨g,2,none⟩ e).setCell ⟨g,3,none⟩ c):=by have bw:=Ao (Ao (Ao (Ak w1 g 0 m) 1 i) 2 e) 3 c;exact⟨m,i,e,c,rs,[],Cw h7,h6,A.yW bw h7,H.yW bw h7,⟨h3.yW bw h7,GE.nil,DO.nil⟩,h4.yW bw h7,(((O.setCell h6 _).setCell h6 _).setCell h6 _).setCell h6 _⟩
  obtain⟨_,_,rfl,_,_⟩:=A.1.rd.shape;obtain⟨_,_,rfl,_,_⟩:=H.rd.shape;obtain⟨_,_,rfl,_,_⟩:=h3.rd.shape;obtain⟨_,_,rfl,_,_⟩:=h4.rd.shape;obtain⟨c0,c1,c2,c3⟩:=AE h7;have cq:=AK h7;clear h0 A H h3 h4 h5 O h6 h7;go_wp2_with fail;clear c0 c1 c2 c3 cq;simp only[uz,wY];go_loopw [5] (λi wr=>∃k:Nat,k<=3/\i=.int .i64 k/\ZE W0 W0.heap.size g (Io (c7.take k)) wr) (λi _=>3 - (intOf i).toNat)
  exact⟨0,by omega,rfl,St⟩
  clear St;obtain⟨k,hk,rfl,m,iv,ev,c,rs,ps,hB,K,o1,o2,o3,o4,al⟩:=hrel
  by_cases ay:k<3
  .have fL:k<V.length:=by omega
   obtain⟨u,hu⟩:∃u,V[k]?=some u:=⟨_,yH fL⟩
   obtain⟨ts,hts⟩:∃ts,c7[k]?=some ts:=⟨_,yH (by rw[H3.out];exact ay)⟩
   have Ru:=HB.out.2 k u ts hu hts;have aq:=ep.out ts (yx hts);have i8:=mV.out ts (yx hts);obtain⟨b,a6,rfl,kd,bL⟩:=H0 k u hu;have Dw:w.cell? ⟨b,a6+k,none⟩=some u:=by simpa using bL 0 u rfl
   have ar:=az.trans (al.mono az.size);have Hb:wr.cell? ⟨b,a6+k,none⟩=some u:=(ar.cell (yM w _ Dw)).trans Dw;have lI:=AA hts;have Hu:=AA hu;clear hu hts Dw bL;go_wp2_with fail;refine(Gi u ts _ (BG.below Ru ar) i8).mono ?_;rintro e w2 ⟨rfl,ig⟩;rw[aq];have bl:Below wr.heap.size wr w2:=by obtain⟨n,rfl⟩:=ig;exact A0 (yO _ _) n
   clear ig aq;have ar:=ar.trans (bl.mono ar.size);have Hb:w2.cell? ⟨b,a6+k,none⟩=some u:=(bl.cell (yM wr _ Hb)).trans Hb;have fo:=yM w2 _ Hb;have km:=AB hB bl;have er:=o3.below bl;have o1:=o1.below bl;have o2:=o2.below bl;have o4:=o4.below bl;have al:=al.trans (bl.mono al.size);clear bl o3 hB;have nz:ts.length<=6:=by have:=ep.out ts (yx lI.out);simp only[BS,yD,decide_eq_true_eq] at this;exact this.2
   have nE:(k:Int)<V.length:=by omega
   go_wp2_with fail;have iE:ev.ownBlock≠some g:=λhe=>by obtain⟨eo,hc⟩:=A9 er.1 g he;rw[km] at hc;simp at hc
   have fP:=λk hk=>(er.1.lt k hk).2
   have eP:=λk hk=>(er.1.lt k hk).1
   have gG:∀w3,w2.grownBy w3 ev.ownBlock->w3.heap[g]?=some (.cells #[m,iv,ev,c] 28 (0,0)):=λw3 h=>(h.block g (AW km) (λe=>iE e.symm)).trans km
   have gE:∀w3,w2.grownBy w3 ev.ownBlock->∀k,k<w.heap.size->w3.heap[k]?=w2.heap[k]? :=λw3 h k hk=>h.block k (yv hk ar.size) (λe=>by have:=eP k e.symm;omega)
   have GS:=AA (λ(ho:Nat->Bool)(w3:World)(i:Nat)(h:w2.grownBy w3 ev.ownBlock/\(ho 10=false->Below w2.heap.size w2 w3))=>(⟨h.1,λkr=>h.2 (Dg kr)⟩:w2.grownBy w3 ev.ownBlock/\(Gn ho i 10=false->Below w2.heap.size w2 w3)));have GB:=AA (λ(ho:Nat->Bool)(w3 w4:World)(i:Nat)(h:w2.grownBy w3 ev.ownBlock/\(ho 10=false->Below w2.heap.size w2 w3))(J:Below w3.heap.size w3 w4)=>(⟨AP h.1 (Aa J _),λkr=>(h.2 (Dg kr)).trans (J.mono h.1.size)⟩:w2.grownBy w4 ev.ownBlock/\(Gn ho i 10=false->Below w2.heap.size w2 w4)));refine GM 12 mixed (by kernel_rfl) 41 rfl (by kernel_rfl) (ap W0.heap.size w2.heap.size g (.slice (some ⟨b,a6,none⟩) V.length cv) u ev b (a6+k) k ts ps (Io (c7.take k))) (λho w3=>w2.grownBy w3 ev.ownBlock/\(ho 10=false->Below w2.heap.size w2 w3)) ?_ ?_ ?_
   .exact⟨Aa (A0 (yO _ _) 1) _,λ_=>A0 (yO _ _) 1⟩
   .intro i E o L a w3 D z ho HL O hg Z
    match i,E with
    |0,_=>
     obtain rfl:=yQ L;have e4:a.tmps[4]?.getD undef=.pointer (some ⟨g,0,none⟩):=by rw[PV D 4];rfl
     clear z D;refine yP ?_;go_simp;exact Z.out _ _ rfl (GS.out _ _ _ O) (λj u _ _ _ h=>h)
    |1,_=>
     obtain rfl:=yQ L;have d0:=BY z 0
     change a.tmps[24]?.getD undef=.pointer (some ⟨g,2,none⟩) at d0
     clear z D;refine yP ?_;have cg:w3.cell? ⟨g,2,none⟩=some ev:=yz w3 g 2 _ _ _ (gG w3 O.1);go_simp;exact Z.out _ _ rfl (GS.out _ _ _ O) (λj u _ _ _ h=>h)
    |2,_=>obtain rfl:=yQ L;clear z D;refine yP ?_;go_simp;exact Z.out _ _ ⟨_,rfl,O.1.size,yw _ _⟩ (GB.out _ _ _ _ O (AJ _ _)) (λj u _ _ _ h=>MK h (Aa (AJ _ _) none) (λk hk=>by cases hk) (.inr rfl))
    |3,_=>
     obtain rfl:=yQ L;have e0:a.tmps[0]?.getD undef=.slice (some ⟨b,a6,none⟩) V.length cv:=by rw[PV D 0];rfl
     clear z D;refine yP ?_;go_simp;exact Z.out _ _ rfl (GS.out _ _ _ O) (λj u _ _ _ h=>h)
    |4,_=>
     obtain rfl:=yQ L;have e5:a.tmps[5]?.getD undef=.int .i64 k:=by rw[PV D 5];rfl
     clear z D;refine yP ?_;go_simp;exact Z.out _ _ rfl (GS.out _ _ _ O) (λj u _ _ _ h=>h)
    |5,_=>
     obtain rfl:=yQ L;have d3:=BY z 3
     change a.tmps[27]?.getD undef=.slice (some ⟨b,a6,none⟩) V.length cv at d3
     have d4:=BY z 4
     change a.tmps[28]?.getD undef=.int .i64 k at d4
     clear z D;refine yP ?_;go_simp;exact Z.out _ _ rfl (GS.out _ _ _ O) (λj u _ _ _ h=>h)
    |6,_=>
     obtain rfl:=yQ L;have d5:=BY z 5
     change a.tmps[29]?.getD undef=.pointer (some ⟨b,a6+k,none⟩) at d5
     clear z D;refine yP ?_;have cu:w3.cell? ⟨b,a6+k,none⟩=some u:=(World.cell?_of_block (gE w3 O.1 b kd)).trans Hb;go_simp;exact Z.out _ _ rfl (GS.out _ _ _ O) (λj u _ _ _ h=>h)
    |7,_=>
     obtain rfl:=yQ L;have d2:=BY z 2
     change ∃g2,a.tmps[26]?.getD undef=.slice (some ⟨g2,0,none⟩) 0 0/\_<=g2/\_ at d2
     have d6:=BY z 6
     change a.tmps[30]?.getD undef=u at d6
     clear z D;refine yP ?_;obtain⟨g2,d2,mQ,mP⟩:=d2;obtain⟨v7,w4,eu,r1,r2,r3⟩:=Dm (lo:=w2.heap.size) (w:=w3) (t:=64) (ty:=64) 9 _ 1 16 underlying64 Tryz.zj rfl (by decide) mP mQ (BG.keep Ru (λk hk=>(gE w3 O.1 k hk).trans (ar.block k hk))) Zu (by omega);refine Cq rfl (Bp d2) (Bp d6) eu ?_;exact Z.out _ _ r1 (GB.out _ _ _ _ O r2) (λj u _ _ _ h=>MK h (Aa r2 none) (λk hk=>by cases hk) (.inr rfl))
    |8,_=>
     obtain rfl:=yQ L;have d7:=BY z 7
     change AO _ _ _ _ _ (a.tmps[31]?.getD undef) _ at d7
     clear z D;refine yP ?_;generalize e31:a.tmps[31]?.getD undef=r at d7;have W:=AA (show ap W0.heap.size w2.heap.size g (.slice (some ⟨b,a6,none⟩) V.length cv) u ev b (a6+k) k ts ps (Io (List.take k c7)) 8 (.agg #[r,.int .i64 (-1)]) w3 from⟨r,rfl,d7⟩);obtain⟨_,_,rfl,_,_⟩:=d7.rd.shape;clear d7;go_simp;exact Z.out _ _ W.out (GS.out _ _ _ O) (λj u _ _ _ h=>h)
    |9,_=>
     obtain rfl:=yQ L;have d8:=BY z 8
     change ∃r,a.tmps[32]?.getD undef=.agg #[r,.int .i64 (-1)]/\_ at d8
     clear z D;refine yP ?_;obtain⟨r,d8,mO⟩:=d8;go_simp;exact Z.out _ _ ⟨r,_,rfl,O.1.size,yw _ _,AO.below mO (AJ _ _)⟩ (GB.out _ _ _ _ O (AJ _ _)) (λj u _ _ _ h=>MK h (Aa (AJ _ _) none) (λk hk=>by cases hk) (.inr rfl))
    |10,_=>
     obtain rfl:=yQ L;have d1:=BY z 1
     change a.tmps[25]?.getD undef=ev at d1
     have d9:=BY z 9
     change ∃r g9,a.tmps[33]?.getD undef=.slice (some ⟨g9,0,none⟩) 1 1/\_<=g9/\_/\_ at d9
     clear z D;refine yP ?_;obtain⟨r,g9,d9,nS,lB,lA⟩:=d9;have eG:=O.2 HL.out.1;have mc:=er;have er:=er.below eG;obtain⟨i0,it,ic,ib,ia⟩:=info_parts Tryz.ze;have du:ps.length<=3:=by rw[er.2.1.1];simp[Io];omega
     obtain⟨nq,w4,eu,r1,r2,_,r4⟩:=run_append_own_at (P:=prog) w3 W0.heap.size 25 25 66 i0 _ 2 32 underlying25 it ic ib ia rfl (by decide) ev ps.length (CZ Eu ps) er.1 ⟨g9,0,none⟩ 1 1 [r,.int .i64 (-1)] rfl (by
      intro j x hx
      match j,hx with
      |0,hx=>simp at hx;subst hx;exact yz w3 g9 0 _ _ _ lB
      |1,hx=>simp at hx;subst hx;exact yz w3 g9 1 _ _ _ lB) (by
      obtain⟨_,_,rfl,_,_⟩:=lA.rd.shape;simp[xR]) (by simp only[maxLen];omega) (by omega) (yL al.size eG.size)
     clear it ic ib ia;refine Cq rfl (Bp d1) (Bp d9) eu ?_;exact Z.out _ _ ⟨r,mc.push eG al.size (yG _) lA r1 r2⟩ ⟨AP O.1 r2,λh=>by simp[Gn] at h⟩ (λj x hj _ _ h=>MK h r2 fP (.inl hj))
    |11,_=>
     obtain rfl:=yQ L;have e4:a.tmps[4]?.getD undef=.pointer (some ⟨g,0,none⟩):=by rw[PV D 4];rfl
     clear z D;refine yP ?_;go_simp;exact Z.out _ _ rfl (GS.out _ _ _ O) (λj u _ _ _ h=>h)
   .intro xs w3 hR ho hL O
    obtain⟨r,o5⟩:=Bg hR 10;have kq:xs 11=.pointer (some ⟨g,2,none⟩):=Bg hR 11;have O:=O.1;clear hR hL;simp only[Aj,Ag,yN,yJ,yK,yI,kq];simp;generalize xs 0=z0;generalize xs 1=z1;generalize xs 2=z2;generalize xs 3=z3;generalize xs 4=z4;generalize xs 5=z5;generalize xs 6=z6;generalize xs 7=z7;generalize xs 8=z8;generalize xs 9=z9;generalize xs 10=ev' at o5;clear kq;have eG:=gG w3 O;have bw:=Ak w3 g 2 ev';have St:ZE W0 W0.heap.size g (Io (c7.take (k+1))) (w3.setCell ⟨g,2,none⟩ ev'):=by
     have e1:Io (c7.take (k+1))=Io (c7.take k)++[⟨ts,-1⟩]:=by rw[DF lI.out];simp[Io]
     rw[e1];refine⟨m,iv,ev',c,rs,_,?_,K,?_,?_,o5.yW bw eG,?_,?_⟩
     .have:=yF w3 g 2 _ 28 ev' eG
      simpa using this
     .exact Az.yW (o1.kept O er.1 (by decide) (by decide)) bw eG
     .exact AO.yW (Aw o2 O (BJ o2 er.1 (by decide)).ne) bw eG
     .exact AO.yW (Aw o4 O (BJ o4 er.1 (by decide)).ne) bw eG
     .exact(al.grown O al.size (λk hk=>eP k hk)).setCell K _
    obtain⟨_,_,rfl,_,_⟩:=o5.1.rd.shape;obtain⟨_,_,rfl,_,_⟩:=er.1.rd.shape;obtain⟨c0,c1,c2,c3⟩:=AE eG;have cq:=AK eG;simp only[yA,vY,wY,wK] at St;clear eG bw o5 o1 o2 er o4 gG gE GS GB iE fP eP;go_wp2_with fail;go_roundw;exact⟨k+1,by omega,by go_num,St⟩;simp[intOf];omega
  .obtain rfl:k=3:=by omega
   have e3:c7.take 3=c7:=xo (by rw[H3.out];omega);rw[e3] at o3;have fL:¬(3:Int)<V.length:=by omega
   have lc:((V.length:Int) !=3)=false:=by simp;omega
   have bX:g≠w.heap.size:=by omega
   have dt:wr.heap[w.heap.size]?=some (.cells #[.slice none 0 0,.slice none 0 0,.slice none 0 0,.slice none 0 0] 28 (0,0)):=(al.block _ (by omega)).trans ko;have S:=AA (show ∀w',wr.grownBy w' (some w.heap.size)->dD w true (Ng c7) (.returned (.tuple #[.agg #[m,iv,ev,c],.bool true])) w' from λw' eO=>⟨m,iv,ev,c,rfl,⟨⟨rs,(o1.yW eO dt).lower az.size⟩,(o2.yW eO dt).lower az.size,⟨ps,(o3.yW eO dt).lower az.size⟩,(o4.yW eO dt).lower az.size⟩,(az.trans (al.mono az.size)).grown eO (az.trans (al.mono az.size)).size (λk hk=>by cases hk;exact yG _)⟩)
   have bw:wr.grownBy ((((wr.setCell ⟨w.heap.size,0,none⟩ m).setCell ⟨w.heap.size,1,none⟩ iv).setCell ⟨w.heap.size,2,none⟩ ev).setCell ⟨w.heap.size,3,none⟩ c) (some w.heap.size):=Ao (Ao (Ao (Ak wr w.heap.size 0 m) 1 iv) 2 ev) 3 c;obtain⟨E0,E1,E2,E3⟩:=AE (Cw (m':=m) (i':=iv) (e':=ev) (c':=c) dt);have HE:=AA (yk E0 (yk E1 (yk E2 E3)));clear E0 E1 E2 E3;obtain⟨_,_,rfl,_,_⟩:=o1.1.rd.shape;obtain⟨_,_,rfl,_,_⟩:=o2.rd.shape;obtain⟨_,_,rfl,_,_⟩:=o3.1.rd.shape;obtain⟨_,_,rfl,_,_⟩:=o4.rd.shape;obtain⟨c0,c1,c2,c3⟩:=AE hB;obtain⟨d0,d1,d2,d3⟩:=AE dt;have cq:=AK dt;clear hB dt o1 o2 o3 o4;simp only[uz,wY] at HE S bw ⊢;go_wp2_with fail;exact yC (v:=.tuple #[.agg #[_,_,_,_],.bool true]) (by simp[results,Tryz.results136,go_sem,HE.out]) rfl (S.out _ bw)
theorem MR{α:Type}(cs:α->List Value)(lo e sz:Nat)(w:World):AO lo e sz cs w (.slice none 0 0) []:=xv _ _ _ _
theorem Dx{lo e sz g T:Nat}{w:World}{xs:List Value}{eo:Array Value}(h:w.ownsRow lo e sz v n xs)(hB:w.heap[g]?=some (.cells eo T (0,0)))(bX:e≠T):v.ownBlock≠some g:=λhe=>by obtain⟨c,hc⟩:=A9 h g he;rw[hB] at hc;simp at hc;exact bX hc.2.symm
def IT(lo:Nat)(w:World)(g:Nat)(m i e c:Value)(k:AN):Prop:=w.heap[g]?=some (.cells #[m,i,e,c] 28 (0,0))/\lo<=g/\Dh lo w m i e c k
theorem IT.below{lo g:Nat}{w:World}{m i e c:Value}{k:AN}(h:IT lo w g m i e c k)(J:Below w.heap.size w w'):IT lo w' g m i e c k:=⟨AB h.1 J,h.2.1,h.2.2.below J⟩
theorem IT.cells{lo g:Nat}{w:World}{m i e c:Value}{k:AN}(h:IT lo w g m i e c k):w.cell? ⟨g,0,none⟩=some m/\w.cell? ⟨g,1,none⟩=some i/\w.cell? ⟨g,2,none⟩=some e/\w.cell? ⟨g,3,none⟩=some c:=AE h.1
section
variable {lo g:Nat} {w w1:World} {m i e c:Value} {k:AN}
theorem Ku{T:Nat}{eo:Array Value}(hB:w.heap[g]?=some (.cells #[m,i,e,c] 28 (0,0)))(K:w.grownBy w1 (some b))(J:w.heap[b]?=some (.cells eo T (0,0)))(hT:28≠T):w1.heap[g]?=some (.cells #[m,i,e,c] 28 (0,0)):=by
 refine(K.block g (AW hB) λhe=>?_).trans hB;cases he;rw[hB] at J;simp at J;exact hT J.2
theorem IT.Xy(h:IT lo w g m i e c k)(au:lo<=w.heap.size)(J:Below w.heap.size w w1){i':Value}{xs:List AV}(H:AO w.heap.size 91 3 At w1 i' xs):IT lo (w1.setCell ⟨g,1,none⟩ i') g m i' e c {k with Xy:=xs}:=by obtain⟨hB,K,⟨V,o1⟩,o2,⟨ps,o3⟩,o4⟩:=h.below J;have bw:=Ak w1 g 1 i';refine⟨?_,K,⟨V,o1.yW bw hB⟩,(H.lower au).yW bw hB,⟨ps,o3.yW bw hB⟩,o4.yW bw hB⟩;have:=yF w1 g 1 _ 28 i' hB;simpa using this
theorem IT.V0(h:IT lo w g m i e c k)(au:lo<=w.heap.size)(J:Below w.heap.size w w1){c':Value}{xs:List Ad}(H:AO w.heap.size 96 4 AX w1 c' xs):IT lo (w1.setCell ⟨g,3,none⟩ c') g m i e c' {k with V0:=xs}:=by obtain⟨hB,K,⟨V,o1⟩,o2,⟨ps,o3⟩,o4⟩:=h.below J;have bw:=Ak w1 g 3 c';refine⟨?_,K,⟨V,o1.yW bw hB⟩,o2.yW bw hB,⟨ps,o3.yW bw hB⟩,(H.lower au).yW bw hB⟩;have:=yF w1 g 3 _ 28 c' hB;simpa using this
theorem IT.info{ao:Nat}(h:IT lo w g m (.slice (some ⟨gi,0,none⟩) n ao) e c k)(N:n=k.Xy.length){f j:Nat}{x y:AV}{u:Value}(hk:k.Xy[f]?=some x)(hj:j<3)(hy:At y=(At x).set j u):
 IT lo (w.setCell ⟨gi,f*3+j,none⟩ u) g m (.slice (some ⟨gi,0,none⟩) n ao) e c {k with Xy:=k.Xy.set f y}/\w.grownBy (w.setCell ⟨gi,f*3+j,none⟩ u) (some gi)/\lo<=gi:=by
 obtain⟨hB,K,⟨V,o1⟩,o2,⟨ps,o3⟩,o4⟩:=h;subst N;have S:=AO.zI Av o2 hk hj hy;obtain⟨eo,hc⟩:=A9 o2 gi rfl;exact⟨⟨Ku hB S.2 hc (by decide),K,⟨V,o1.yW S.2 hc⟩,S.1,⟨ps,o3.yW S.2 hc⟩,o4.yW S.2 hc⟩,S.2,(yB o2 gi rfl).1⟩
end
theorem Az.turn{lo:Nat}{w:World}{m:List (List Int)}(h:Az lo w v V m)(hf:f<m.length)(hu:V[f]?=some u)(hr:AG lo w' u r)(K:w.grownBy w' u.ownBlock):Az lo w' v V (m.set f r):=by
 obtain⟨a1,a2,a3⟩:=h;have hx:=a2.2 f u _ hu (yH hf);refine⟨Aw a1 K (BJ a1 hx MA).ne,⟨by rw[yi];exact a2.1,λj y ys hy fH=>?_⟩,a3⟩
 by_cases e:f=j
 .subst e
  rw[hu] at hy;cases hy;rw[xJ hf] at fH;cases fH;exact hr
 .rw[wE e] at fH
  exact Aw (a2.2 j y ys hy fH) K (a3 j f y u (λh=>e h.symm) hy hu).ne
theorem Az.row{lo:Nat}{w:World}{m:List (List Int)}(h:Az lo w v V m){f:Nat}(hf:f<m.length)(h0:0<(AH m f).length):
 ∃gw ao,V[f]?=some (.slice (some ⟨gw,0,none⟩) (AH m f).length ao)/\AG lo w (.slice (some ⟨gw,0,none⟩) (AH m f).length ao) (AH m f)/\lo<=gw/\gw<w.heap.size:=by
 obtain⟨a1,a2,a3⟩:=h;obtain⟨u,hu⟩:∃u,V[f]?=some u:=⟨_,yH (by rw[a2.1];exact hf)⟩
 have hx:=a2.2 f u (AH m f) hu (by unfold AH;exact BD hf);obtain⟨gw,ao,rfl,A,H⟩:=Jj hx h0;exact⟨gw,ao,hu,hx,A,H⟩
section
variable {lo g:Nat} {w w1:World} {m i e c:Value} {k:AN}
theorem IT.row(h:IT lo w g m i e c k){V:List Value}(hv:Az lo w m V k.mem){f gw n ao:Nat}{r:List Int}(hf:f<k.mem.length)(hu:V[f]?=some (.slice (some ⟨gw,0,none⟩) n ao))(hr:AG lo w1 (.slice (some ⟨gw,0,none⟩) n ao) r)(K:w.grownBy w1 (some gw)):
 IT lo w1 g m i e c {k with mem:=k.mem.set f r}:=by
 obtain⟨hB,lj,_,o2,⟨ps,o3⟩,o4⟩:=h;have hx:=hv.2.1.2 f _ _ hu (yH hf);obtain⟨eo,hc⟩:=A9 hx gw rfl;exact⟨Ku hB K hc (by decide),lj,⟨V,hv.turn hf hu hr K⟩,o2.yW K hc,⟨ps,o3.yW K hc⟩,o4.yW K hc⟩
theorem IT.root{ao:Nat}(h:IT lo w g m i (.slice (some ⟨ge,0,none⟩) n ao) c k)(N:n=k.V3.length){j:Nat}(hj:j<k.V3.length)(r:Int):
 IT lo (w.setCell ⟨ge,j*2+1,none⟩ (.int .i64 r)) g m i (.slice (some ⟨ge,0,none⟩) n ao) c {k with V3:=An k.V3 j (Dz r)}/\w.grownBy (w.setCell ⟨ge,j*2+1,none⟩ (.int .i64 r)) (some ge)/\lo<=ge:=by
 obtain⟨hB,K,⟨V,o1⟩,o2,⟨ps,a1,a2,a3⟩,o4⟩:=h;have du:ps.length=k.V3.length:=a2.1;rw[<-du] at N;subst N;have eY:j<ps.length:=by omega
 have S:=AO.zI F6 a1 (k:=j) (x:=ps[j]) (yH eY) (j:=1) (by decide) (y:=(ps[j].1,r)) (u:=.int .i64 r) rfl;obtain⟨eo,hc⟩:=A9 a1 ge rfl;refine⟨⟨Ku hB S.2 hc (by decide),K,⟨V,o1.yW S.2 hc⟩,o2.yW S.2 hc,⟨ps.set j (ps[j].1,r),?_,⟨?_,?_⟩,?_⟩,o4.yW S.2 hc⟩,S.2,(yB a1 ge rfl).1⟩
 .exact S.1
 .rw[yi,Cz];exact du
 .intro q p ev hp ey
  rw[Ji (d:=⟨[],0⟩)] at ey
  by_cases e:j=q
  .subst e
   rw[xJ eY] at hp;rw[xJ hj] at ey;cases hp;cases ey;have hx:=a2.2 j ps[j] (k.V3.getD j ⟨[],0⟩) (yH eY) (BD hj);exact⟨hx.1.yW S.2 hc,rfl⟩
  .rw[wE e] at hp ey
   have hx:=a2.2 q p ev hp ey;exact⟨hx.1.yW S.2 hc,hx.2⟩
 .rw[vj,show ps[j].1=(ps.map (·.1))[j]'(by simpa using eY) by simp,List.set_getElem_self]
  exact a3
theorem IT.Tj{ao:Nat}(h:IT lo w g m i (.slice (some ⟨ge,0,none⟩) n ao) c k)(N:n=k.V3.length)(au:lo<=w.heap.size)(J:Below w.heap.size w w1){j:Nat}(hj:j<k.V3.length){u:Value}{ss:List ByteArray}(hu:AO w.heap.size 9 1 Ay w1 u ss):
 IT lo (w1.setCell ⟨ge,j*2,none⟩ u) g m i (.slice (some ⟨ge,0,none⟩) n ao) c {k with V3:=An k.V3 j (BQ ss)}/\w1.grownBy (w1.setCell ⟨ge,j*2,none⟩ u) (some ge)/\lo<=ge:=by
 have h':=h.below J;obtain⟨ko,lj,_,_,⟨fE,b1,b2,b3⟩,_⟩:=h;obtain⟨hB,K,⟨V,o1⟩,o2,_,o4⟩:=h';have a1:=AO.below b1 J;have du:fE.length=k.V3.length:=b2.1;rw[<-du] at N;subst N;have eY:j<fE.length:=by omega
 have S:=AO.zI F6 a1 (k:=j) (x:=fE[j]) (yH eY) (j:=0) (by decide) (y:=(u,fE[j].2)) (u:=u) rfl;rw[xU] at S;obtain⟨eo,hc⟩:=A9 a1 ge rfl;have bX:9≠66:=by decide
 refine⟨⟨Ku hB S.2 hc (by decide),K,⟨V,o1.yW S.2 hc⟩,o2.yW S.2 hc,⟨fE.set j (u,fE[j].2),?_,⟨?_,?_⟩,?_⟩,o4.yW S.2 hc⟩,S.2,(yB a1 ge rfl).1⟩
 .exact S.1
 .rw[yi,Cz];exact du
 .intro q p ev hp ey
  rw[Ji (d:=⟨[],0⟩)] at ey
  by_cases e:j=q
  .subst e
   rw[xJ eY] at hp;rw[xJ hj] at ey;cases hp;cases ey;have hx:=b2.2 j fE[j] (k.V3.getD j ⟨[],0⟩) (yH eY) (BD hj);exact⟨(hu.lower au).yW S.2 hc bX,hx.2⟩
  .rw[wE e] at hp ey
   have hx:=b2.2 q p ev hp ey;exact⟨(hx.1.below J).yW S.2 hc bX,hx.2⟩
 .rw[vj]
  intro x y a b kQ ha eF;have yW:∀(q:Nat)(p:Value×Int),fE[q]?=some p->GD p.1 u:=λq p hq=>by
   obtain⟨ev,ey⟩:∃ev,k.V3[q]?=some ev:=⟨_,yH (by rw[<-du];exact(yE.1 hq).1)⟩
   exact Kf (B:=0) (b2.2 q p ev hq ey).1 (λk hk=>(hu.lt k hk).1)
  by_cases e1:j=x
  .subst e1
   rw[xJ (by simpa using eY)] at ha;cases ha;rw[wE kQ] at eF;rw[xz] at eF;obtain⟨p,hp,rfl⟩:=Option.map_eq_some_iff.1 eF;exact(yW y p hp).symm
  .rw[wE e1] at ha
   by_cases e2:j=y
   .subst e2
    rw[xJ (by simpa using eY)] at eF;cases eF;rw[xz] at ha;obtain⟨p,hp,rfl⟩:=Option.map_eq_some_iff.1 ha;exact yW x p hp
   .rw[wE e2] at eF
    exact b3 x y a b kQ ha eF
end
def Tb(w:World)(a:Option Addr)(es:List Em):Prop:=∀j,j<es.length->∃b a6 ua uc,a=some ⟨b,a6,none⟩/\b<w.heap.size/\w.cell? ⟨b,a6+j*2,none⟩=some (.slice ua (AF es j).Tj.length uc)/\w.cell? ⟨b,a6+j*2+1,none⟩=some (.int .i64 (AF es j).root)/\BT w (.slice ua (AF es j).Tj.length uc) (AF es j).Tj
theorem GO.open{w:World}(h:GO w v es):∃a ao,v=.slice a es.length ao/\es.length<=ao/\ao<=maxLen/\Tb w a es:=by
 obtain⟨ps,A,H⟩:=h;obtain⟨a,ao,rfl,hc,cw,h2⟩:=BG.open F6 (by decide) A;refine⟨a,ao,by rw[H.1],by rw[<-H.1];exact hc,cw,λj hj=>?_⟩;have hp:j<ps.length:=by rw[H.1];exact hj
 obtain⟨b,a6,rfl,ay,bL⟩:=h2 j _ (yH hp);have hr:=H.2 j _ (AF es j) (yH hp) (by unfold AF;exact BD hj);obtain⟨ua,uc,e,_,_⟩:=hr.1.shape;refine⟨b,a6,ua,uc,rfl,ay,?_,?_,?_⟩
 .have:=bL 0 _ rfl
  rw[e] at this;exact this
 .have:=bL 1 _ rfl
  rw[hr.2] at this;exact this
 .rw[<-e];exact hr.1
theorem Tb.below{w:World}{a:Option Addr}(h:Tb w a es)(J:Below w.heap.size w w'):Tb w' a es:=by intro j hj;obtain⟨b,a6,ua,uc,rfl,ay,h0,A,H⟩:=h j hj;exact⟨b,a6,ua,uc,rfl,yv ay J.size,(J.cell (p:=⟨b,a6+j*2,none⟩) ay).trans h0,(J.cell (p:=⟨b,a6+j*2+1,none⟩) ay).trans A,BG.below H J⟩
theorem FO{Xy:List AV}{a b:List Nat}(h:∀g,g∈a↔g∈b):BI Xy a ss=BI Xy b ss:=by
 unfold BI;rw[xi];simp only[yr];exact⟨λh2 g K=>h2 g ((h g).2 K),λh2 g K=>h2 g ((h g).1 K)⟩
section
variable {k:AN}
theorem Zj(h:Bq k.mem=false):Cr k=false:=by simp[Cr,h]
theorem WZ(h:A8 k.Xy=false):Cr k=false:=by simp[Cr,h]
theorem WY(h:Bd k.V0=false):Cr k=false:=by simp[Cr,h]
theorem YR(h:k.V3.length≠3):Cr k=false:=by simp[Cr,JL,h]
theorem NU{j:Nat}(hj:j<k.V3.length)(h:EI k (AF k.V3 j)=false):Cr k=false:=by have:k.V3.all (EI k)=false:=xh.2 ⟨AF k.V3 j,by unfold AF;exact yx (BD hj),by simp[h]⟩;simp[Cr,JL,this]
theorem Zk(hf:f<12)(h:Dp k f=false):Cr k=false:=by have:(yN 12).all (Dp k)=false:=xh.2 ⟨f,yj.2 hf,by simp[h]⟩;simp[Cr,this]
theorem VH(hf:f<12)(h:IB k f=false):Cr k=false:=by have:(yN 12).all (IB k)=false:=xh.2 ⟨f,yj.2 hf,by simp[h]⟩;simp[Cr,this]
theorem Wa{j:Nat}(hj:j<k.V0.length)(h:Cs k (AT k.V0 j)=false):Cr k=false:=by have:k.V0.all (Cs k)=false:=xh.2 ⟨AT k.V0 j,by unfold AT;exact yx (BD hj),by simp[h]⟩;simp[Cr,this]
theorem Zl(A:Bq k.mem=true)(H:A8 k.Xy=true)(h3:Bd k.V0=true)(h4:k.V3.length=3)(h5:∀j,j<3->EI k (AF k.V3 j)=true)
 (h6:∀f,f<12->Dp k f=true/\IB k f=true)(h7:∀j,j<k.V0.length->Cs k (AT k.V0 j)=true):Cr k=true:=by
 have a1:k.V3.all (EI k)=true:=yr.2 λx hx=>by
  obtain⟨j,hj,rfl⟩:=xl hx;have:=h5 j (by omega);unfold AF at this
  rwa [yg,yH hj] at this
 have a2:(yN 12).all (Dp k)=true:=yr.2 λf hf=>(h6 f (yj.1 hf)).1
 have a3:(yN 12).all (IB k)=true:=yr.2 λf hf=>(h6 f (yj.1 hf)).2
 have a4:k.V0.all (Cs k)=true:=yr.2 λx hx=>by
  obtain⟨j,hj,rfl⟩:=xl hx;have:=h7 j hj;unfold AT at this
  rwa [yg,yH hj] at this
 simp[Cr,JL,A,H,h3,h4,a1,a2,a3,a4]
def Ew(k:AN)(j:Nat):List Int:=(yN 12).map λg=>(countP k.mem k.Xy g:Int)+(Ei (k.V3.take j) g:Int)
theorem EF{j:Nat}:(Ew k j).length=12:=by simp[Ew]
theorem Ly{j g:Nat}(h:g<12):nth (Ew k j) g=(countP k.mem k.Xy g:Int)+(Ei (k.V3.take j) g:Int):=by unfold Ew nth;rw[yg,xz,sU h];rfl
theorem TI:Ew k 0=(yN 12).map λg=>(countP k.mem k.Xy g:Int):=by unfold Ew;rw[List.take_zero];simp[Ei]
theorem Q3{j g:Nat}(hj:j<k.V3.length):Ei (k.V3.take (j+1)) g=Ei (k.V3.take j) g+(if(AF k.V3 j).root=(g:Int) then 1 else 0):=by
 have h:k.V3[j]?=some (AF k.V3 j):=by unfold AF;exact BD hj
 rw[DF h];unfold Ei;rw[List.countP_append,List.countP_singleton];simp
theorem Xp{j:Nat}(hj:j<k.V3.length)(h:(AF k.V3 j).root<0):Ew k (j+1)=Ew k j:=by
 unfold Ew;refine List.map_congr_left λg _=>?_
 rw[Q3 hj,if_neg (by omega),xU]
theorem Vc{j r:Nat}(hj:j<k.V3.length)(h:(AF k.V3 j).root=(r:Int))(hr:r<12):Ew k (j+1)=(Ew k j).set r (nth (Ew k j) r+1):=by
 refine ML (by simp[Ew]) λg K=>?_
 rw[EF] at K;rw[UL (by rw[EF];exact hr),Ly K,Ly hr,Q3 hj,h]
 by_cases e:g=r
 .subst e;simp;omega
 .rw[if_neg e,Ly K,if_neg (by intro h;apply e;omega)];simp
theorem Qx(hm:Bq k.mem=true){j g:Nat}(he:k.V3.length=3)(K:g<12):0<=nth (Ew k j) g/\nth (Ew k j) g<=103:=by
 rw[Ly K];have A:countP k.mem k.Xy g<=100:=by have:=QL (Xy:=k.Xy) (g:=g) hm (yG 12) (yu 4);unfold Iw at this;unfold countP;omega
 have H:Ei (k.V3.take j) g<=3:=by
  have:=List.countP_le_length (p:=λe:Em=>decide (e.root=(g:Int))) (l:=k.V3.take j);rw[yt] at this;unfold Ei;omega
 omega
theorem Qw(he:k.V3.length=3){f:Nat}(hf:f<12):IB k f=decide ((Sc k.Xy f).r=nth (Ew k 3) f):=by rw[Ly hf,xo (by omega)];rfl
end
def Ey(lo:Nat)(m:List (List Int))(root:Int)(w:World)(v:Value):Prop:=∃ts,AG lo w v (A4 ts)/\∀g,g∈ts↔g∈Ba m root
theorem Ey.below{lo:Nat}{m:List (List Int)}{root:Int}{w:World}(h:Ey lo m root w v)(J:Below w.heap.size w w'):Ey lo m root w' v:=by obtain⟨ts,A,H⟩:=h;exact⟨ts,AG.below A J,H⟩
theorem zH{m:List (List Int)}{root:Int}(hr:root<12):∀g∈Ba m root,g<12:=by
 intro g K;obtain⟨h0,h⟩:=Dl.1 K;have N:∀t:Nat,∀x∈named (AH m t),x<12:=λt x hx=>by unfold named at hx;obtain⟨y,hy,rfl⟩:=vZ.1 hx;exact ET (wO.1 hy).2
 rcases h with rfl|h|⟨t,_,h⟩
 .omega
 .exact N _ _ h
 .exact N _ _ h
def AU.onCells(g:Nat)(c:AU):Array Value:= #[.pointer (some ⟨g,0,none⟩),.int .i64 c.k,.int .i64 c.e,.int .i64 c.a,.int .i64 c.b,.int .i64 c.c,.string c.nm]
def AU.on(g:Nat)(c:AU):Value:=.agg (c.onCells g)
theorem Ef{w:World}{g:Nat}{c:AU}{T:Nat}(h:w.heap[b]?=some (.cells (c.onCells g) T (0,0))):w.cell? ⟨b,0,none⟩=some (.pointer (some ⟨g,0,none⟩))/\w.cell? ⟨b,1,none⟩=some (.int .i64 c.k)/\w.cell? ⟨b,2,none⟩=some (.int .i64 c.e)/\w.cell? ⟨b,3,none⟩=some (.int .i64 c.a)/\w.cell? ⟨b,4,none⟩=some (.int .i64 c.b)/\w.cell? ⟨b,5,none⟩=some (.int .i64 c.c)/\w.cell? ⟨b,6,none⟩=some (.string c.nm):=
 ⟨yz _ _ 0 _ _ _ h,yz _ _ 1 _ _ _ h,yz _ _ 2 _ _ _ h,yz _ _ 3 _ _ _ h,yz _ _ 4 _ _ _ h,yz _ _ 5 _ _ _ h,yz _ _ 6 _ _ _ h⟩
theorem IT.env{lo g:Nat}{w:World}{m i e c:Value}{k:AN}(h:IT lo w g m i e c k){j:Nat}(hj:j<k.V3.length):
 ∃ge ao ua uc,e=.slice (some ⟨ge,0,none⟩) k.V3.length ao/\ge<w.heap.size/\w.cell? ⟨ge,j*2,none⟩=some (.slice ua (AF k.V3 j).Tj.length uc)/\w.cell? ⟨ge,j*2+1,none⟩=some (.int .i64 (AF k.V3 j).root)/\BT w (.slice ua (AF k.V3 j).Tj.length uc) (AF k.V3 j).Tj/\∀q,w.frozen? ⟨ge,q,none⟩=false:=by
 have hr:=h.2.2.rd.2.2.1;obtain⟨ps,o⟩:=h.2.2.2.2.1;have du:ps.length=k.V3.length:=o.2.1.1;obtain⟨ge,ao,rfl,_,ay⟩:=Jj o.1 (by omega);obtain⟨a,cp,hv,_,_,h2⟩:=GO.open hr;simp only[xS] at hv;obtain⟨rfl,_,rfl⟩:=hv;obtain⟨b,a6,ua,uc,mK,_,h0,A,H⟩:=h2 j hj;cases mK;rw[wK] at h0 A;exact⟨ge,ao,ua,uc,by rw[du],ay,h0,A,H,λq=>xT o.1 q⟩
theorem Xd(g ge n ao en:Nat)(c:AU)(w:World)(H:w.cell? ⟨g,2,none⟩=some (.slice (some ⟨ge,0,none⟩) n ao))(he:c.e=(en:Int))(N:en<n):
 Calls prog 145 #[c.on g] w λe w'=>e=.returned (.pointer (some ⟨ge,en*2,none⟩))/\Below w.heap.size w w':=by
 obtain⟨k,e,a,b,cc,nm⟩:=c;simp only at he;subst he;simp only[AU.on,AU.onCells];obtain⟨hn,J⟩:=EH w (.cells #[.pointer (some ⟨g,0,none⟩),.int .i64 k,.int .i64 en,.int .i64 a,.int .i64 b,.int .i64 cc,.string nm] 83);have x2:=(J.cell (p:=⟨g,2,none⟩) (yM w _ H)).trans H;have nC:(en:Int)<n:=by omega
 go_in;go_wp2_with fail;generalize w.alloc _=W0 at*;have y0:=yy (yz _ _ 0 _ _ _ hn);have y2:=yy (yz _ _ 2 _ _ _ hn);have k2:=yy x2;clear hn x2 H;refine BV ?_
 repeat(go_big_quiet_step (fail))
 refine BU λwq bq=>?_
 go_wp2_with fail;go_ret;exact⟨rfl,J.trans (bq.mono J.size)⟩
theorem VS{lo g:Nat}{w:World}{m i e c:Value}{k:AN}(h:IT lo w g m i e c k)(R:AU)(nm:ByteArray)(he:0<=R.e)(N:R.e<k.V3.length):
 Calls prog 97 #[R.on g,.string nm] w λr w'=>r=.returned (.bool (FF k R.e nm))/\Below w.heap.size w w':=by
 obtain⟨en,ca⟩:∃n:Nat,R.e=(n:Int):=⟨R.e.toNat,by omega⟩
 obtain⟨ge,ao,ua,uc,rfl,dw,D0,_,call,_⟩:=h.env (j:=en) (by omega);obtain⟨hn,J⟩:=EH w (.cells (R.onCells g) 83);have CE:=AA (λW (hW:Below w.heap.size w W)=>Xd g ge k.V3.length ao en R W ((hW.cell (p:=⟨g,2,none⟩) (AW h.1)).trans h.cells.2.2.1) ca (by omega));have CM:=AA (λW (hW:Below w.heap.size w W)=>Pm _ (AF k.V3 en).Tj nm W (BG.below call hW));have S:=AA (show CQ (AF k.V3 en).Tj nm=FF k R.e nm by unfold FF;rw[ca];rfl);have HD:=AA D0;clear h call D0 ca he N;obtain⟨k1,e1,a1,b1,c1,jI⟩:=R;simp only[AU.on,AU.onCells] at hn J CE ⊢;obtain⟨y0,y1,y2,y3,y4,y5,y6⟩:=Ef (c:=⟨k1,e1,a1,b1,c1,jI⟩) hn;go_in;go_wp2_with fail;refine(CE.out _ J).mono ?_;rintro e w2 ⟨rfl,ad⟩;replace ad:=J.trans (ad.mono J.size);have Hb:=(ad.cell (p:=⟨ge,en*2,none⟩) dw).trans HD.out;clear y0 y1 y2 y3 y4 y5 y6 hn J;go_wp2_with (refine(CM.out _ ad).mono ?_;rintro e w3 ⟨rfl,dk⟩);go_ret;exact⟨AI S.out,ad.trans (dk.mono ad.size)⟩
def Jp(xs:List AV)(b:Int):Prop:=∀f,f<xs.length-> -b<=(Sc xs f).r/\(Sc xs f).r<=b
theorem IT.Sc'{lo g:Nat}{w:World}{m i e c:Value}{k:AN}(h:IT lo w g m i e c k){f:Nat}(hf:f<k.Xy.length):
 ∃gi ao,i=.slice (some ⟨gi,0,none⟩) k.Xy.length ao/\gi<w.heap.size/\lo<=gi/\w.cell? ⟨gi,f*3,none⟩=some (.int .i64 (Sc k.Xy f).k)/\w.cell? ⟨gi,f*3+1,none⟩=some (.string (Sc k.Xy f).g)/\w.cell? ⟨gi,f*3+2,none⟩=some (.int .i64 (Sc k.Xy f).r)/\∀q,w.frozen? ⟨gi,q,none⟩=false:=by
 have o:=h.2.2.2.1;obtain⟨gi,ao,rfl,_,_,au,ay,cq⟩:=o.zX (by omega);obtain⟨d0,d1,d2⟩:=AO.Dq o hf;exact⟨gi,ao,rfl,ay,au,d0,d1,d2,cq⟩
theorem Rj(v:Value)(xs:List AV)(f:Nat)(w:World)(h:BW w v xs)(aq:A8 xs=true)(hf:f<12)(hk:(Sc xs f).k=1)(hr:(Sc xs f).r=0):
 Calls prog 146 #[v,.int .i64 f] w λe w'=>∃v',e=.returned (.tuple #[v',.bool true])/\AO w.heap.size 91 3 At w' v' (xs.set f AV.zero)/\Below w.heap.size w w':=by
 have hl:=(A1.1 aq).1;have C1:=AA (λW (hW:Below w.heap.size w W)=>by have:=DV v xs W (BG.below h hW) (By aq);rw[aq] at this;exact this);have C2:=AA (λW (_:Below w.heap.size w W)=>A3 (by have:=Dk (f:Int) W;rw[show Bh (f:Int) 0 11=true from AZ.2 (by omega)] at this;exact this));have C3:=AA (λW (hW:Below w.heap.size w W)=>GN v xs W (BG.below h hW) (by omega));obtain⟨ai,ci,rfl,ka,gx,H2⟩:=BG.open Av (by decide) h;obtain⟨bi,bO,rfl,bC,D0,_,D2⟩:=H2.Dq (show f<xs.length by omega);have fO:(f:Int)<xs.length:=by omega
 have t1:((Sc xs f).k !=1)=false:=by simp[hk]
 have t2:((Sc xs f).r !=0)=false:=by simp[hr]
 have Hl:=AA hl;have J:=yO w.heap.size w;clear h aq hk hr H2 hl;go_in;go_wp2_with fail;refine(C1.out _ J).mono ?_;rintro e w_ ⟨rfl,a5⟩;replace J:=J.trans (a5.mono J.size);clear a5;go_wp2_with fail;refine(C2.out _ J).mono ?_;rintro e w_ ⟨rfl,a5⟩;replace J:=J.trans (a5.mono J.size);clear a5;replace D0:=(J.cell (p:=⟨bi,bO+f*3,none⟩) bC).trans D0;replace D2:=(J.cell (p:=⟨bi,bO+f*3+2,none⟩) bC).trans D2;go_wp2_with fail;clear D0 D2;refine(C3.out _ J).mono ?_;rintro e w4 ⟨v',rfl,hO,bA⟩;obtain⟨q,ao,rfl,c1,c2,q1,q2,cq⟩:=hO.zX (by have:=Hl.out;omega);unfold maxLen at c2;have hS:=AA (AO.stored Av hO (show f<xs.length by have:=Hl.out;omega) AV.zero);obtain⟨d0,d1,d2⟩:=AO.Dq hO (show f<xs.length by have:=Hl.out;omega);have hB:=AA (AM (J.trans (bA.mono J.size)) hS.out.2 (yL J.size q1) (J.trans (bA.mono J.size)).size);have au:=J.size;clear hO bA J t1 t2;go_wp2_with fail;go_ret2;exact⟨_,rfl,hS.out.1.lower au,hB.out⟩
theorem Tf(v:Value)(xs:List AV)(f:Nat)(w:World)(h:BW w v xs)(aq:A8 xs=true)(hf:f<12)(hk:(Sc xs f).k=1)(hr:(Sc xs f).r≠0):
 Calls prog 146 #[v,.int .i64 f] w λe w'=>e=.returned (.tuple #[.slice none 0 0,.bool false])/\Below w.heap.size w w':=by
 have hl:=(A1.1 aq).1;have C1:=AA (λW (hW:Below w.heap.size w W)=>by have:=DV v xs W (BG.below h hW) (By aq);rw[aq] at this;exact this);have C2:=AA (λW (_:Below w.heap.size w W)=>A3 (by have:=Dk (f:Int) W;rw[show Bh (f:Int) 0 11=true from AZ.2 (by omega)] at this;exact this));obtain⟨ai,ci,rfl,ka,gx,H2⟩:=BG.open Av (by decide) h;obtain⟨bi,bO,rfl,bC,D0,_,D2⟩:=H2.Dq (show f<xs.length by omega);have fO:(f:Int)<xs.length:=by omega
 have t1:((Sc xs f).k !=1)=false:=by simp[hk]
 have t2:((Sc xs f).r !=0)=true:=by simp[hr]
 have J:=yO w.heap.size w;clear h aq hk hr H2 hl;go_in;go_wp2_with fail;refine(C1.out _ J).mono ?_;rintro e w_ ⟨rfl,a5⟩;replace J:=J.trans (a5.mono J.size);clear a5;go_wp2_with (refine(C2.out _ J).mono ?_;rintro e w_ ⟨rfl,a5⟩;replace J:=J.trans (a5.mono J.size);clear a5;replace D0:=(J.cell (p:=⟨bi,bO+f*3,none⟩) bC).trans D0;replace D2:=(J.cell (p:=⟨bi,bO+f*3+2,none⟩) bC).trans D2);go_ret2;exact⟨rfl,J⟩
def GF(lo g:Nat)(w:World)(res:Mq)(r:Ending)(w':World):Prop:=r=.returned (.tuple #[.int .i64 res.2.1,.int .i64 res.2.2])/\(res.2.2=0->∃m i e c,IT lo w' g m i e c res.1)/\Below lo w w'
def Ds(lo g:Nat)(w:World)(res:Mq)(r:Ending)(w':World):Prop:=r=.returned (.int .i64 res.2.2)/\(res.2.2=0->∃m i e c,IT lo w' g m i e c res.1)/\Below lo w w'
theorem GF.bad{lo g:Nat}{w:World}{k:AN}{n:Int}{res:Mq}(h:res=(k,0,n))(N:n≠0)(J:Below lo w w'):GF lo g w res (.returned (.tuple #[.int .i64 0,.int .i64 n])) w':=by subst h;exact⟨rfl,λh=>absurd h N,J⟩
theorem Ds.bad{lo g:Nat}{w:World}{k:AN}{n:Int}{res:Mq}(h:res=(k,0,n))(N:n≠0)(J:Below lo w w'):Ds lo g w res (.returned (.int .i64 n)) w':=by subst h;exact⟨rfl,λh=>absurd h N,J⟩
theorem Am{k:AN}(h:DP k):Bq k.mem=true/\A8 k.Xy=true/\Bd k.V0=true:=by have:=EZ.2 h;unfold Cr at this;simp only[yD] at this;exact⟨this.1.1.1.1.1.1,this.1.1.1.1.1.2,this.1.1.1.1.2⟩
theorem XF{lo g ao:Nat}{w:World}(h:AG lo w (.slice (some ⟨g,0,none⟩) 4 ao) r)(hl:r.length=4):
 ∃w',(∀ty,(tY #[29] ty #[.slice (some ⟨g,0,none⟩) 4 ao]).run prog w=.ok (.tuple #[]) w')/\AG lo w' (.slice (some ⟨g,0,none⟩) 4 ao) [0,0,0,0]/\w.grownBy w' (some g):=by
 have h4:w.ownsRow lo 3 1 (.slice (some ⟨g,0,none⟩) 4 ao) 4 (r.map (ym .i64)):=by have:=h;unfold AG at this;rwa [hl] at this
 have ez:(xY (ym .i64 0).cells 4).toList=[.int .i64 0,.int .i64 0,.int .i64 0,.int .i64 0]:=by kernel_rfl
 have hst:=run_storeCells_cells (P:=prog) g 0 (xY (ym .i64 0).cells 4).toList 0 w (by
  intro j hj;have nF:j<4:=by rw[ez] at hj;exact hj
  have:=xx h4 j (by omega);simp only[wK] at this ⊢;rw[this];simp;omega) (by intro j _;exact xT h4 _) (by
  intro u hu;rw[ez] at hu;have:u=.int .i64 0:=by simpa using hu
  subst this;rfl)
 simp only[xU] at hst;have e0:=Gt g 0 (xY (ym .i64 0).cells 4).toList 0 w;rw[xU] at e0;refine⟨w.setCells g 0 (xY (ym .i64 0).cells 4).toList,λty=>?_,?_,?_⟩
 .simp[tY,run_underlying underlying29,hst]
 .rw[e0]
  obtain⟨a1,_⟩:=El h4 0 0 (xY (ym .i64 0).cells 4).toList;have e:FW (r.map (ym .i64)) 0 0 (xY (ym .i64 0).cells 4).toList=[0,0,0,0].map (ym .i64):=by
   rw[ez]
   match r,hl with
   | [a,b,c,d],_=>rfl
  rw[e] at a1;exact a1
 .rw[e0]
  exact(El h4 0 0 (xY (ym .i64 0).cells 4).toList).2
theorem IT.zp{lo g:Nat}{w:World}{m i e c:Value}{k:AN}(h:IT lo w g m i e c k)(aq:Bq k.mem=true){f:Nat}(hf:f<12):
 ∃gm bs gw bp V,m=.slice (some ⟨gm,0,none⟩) 12 bs/\gm<w.heap.size/\gm≠g/\w.cell? ⟨gm,f,none⟩=some (.slice (some ⟨gw,0,none⟩) 4 bp)/\gw<w.heap.size/\lo<=gw/\gw≠g/\gw≠gm/\Az lo w m V k.mem/\V[f]?=some (.slice (some ⟨gw,0,none⟩) 4 bp)/\AG lo w (.slice (some ⟨gw,0,none⟩) 4 bp) (AH k.mem f):=by
 obtain⟨V,o⟩:=h.2.2.1;obtain⟨cn,hr⟩:=Ah.1 aq;have h4:=(A6.1 (hr f hf)).1;have ii:V.length=12:=by rw[o.2.1.1,cn]
 obtain⟨gm,bs,rfl,_,_,_,je,_⟩:=o.1.zX (by omega);obtain⟨gw,bp,hu,hx,au,ay⟩:=o.row (f:=f) (by omega) (by omega);rw[h4] at hu hx;have Hb:=AO.zK FI o.1 hu 0 _ rfl;rw[wR,xU] at Hb;have n1:gm≠g:=λe=>Dx o.1 h.1 (by decide) (by rw[e];rfl)
 have n2:gw≠g:=λe=>Dx hx h.1 (by decide) (by rw[e];rfl)
 have n3:gw≠gm:=λe=>by have:=BJ hx o.1 (Ne.symm MA) gw rfl;apply this;rw[e];rfl
 rw[ii] at*;exact⟨gm,bs,gw,bp,V,rfl,je,n1,Hb,ay,au,n2,n3,o,hu,hx⟩
theorem Y0{lo g:Nat}{w:World}{m i e c:Value}{k:AN}(h:IT lo w g m i e c k)(au:lo<=w.heap.size)(hK:DP k)(R:AU)(he:0<=R.e)(N:R.e<3)(eD:R.nm.size<=maxLen):
 Calls prog 96 #[R.on g] w (GF lo g w (JU k R)):=by
 obtain⟨hn,az⟩:=EH w (.cells (R.onCells g) 83);obtain⟨hm,E,hc⟩:=Am hK;have C1:=AA (λW (_:Below w.heap.size w W)=>DZ R.nm W eD);have C2:=AA (λW (hW:Below w.heap.size w W)=>VS (h.below hW) R R.nm he (by rw[hK.zY];exact N));have P:JU k R=if BO R.nm=false then(k,0,3) else if FF k R.e R.nm=false then(k,0,1) else if Ar k.Xy<0 then(k,0,4) else({k with Xy:=k.Xy.set (Ar k.Xy).toNat ⟨1,R.nm,0⟩,mem:=k.mem.set (Ar k.Xy).toNat [0,0,0,0]},Ar k.Xy,0):=rfl
 obtain⟨k1,e1,a1,b1,c1,nm⟩:=R;simp only[AU.on,AU.onCells] at hn az C1 C2 P eD ⊢;obtain⟨y0,y1,y2,y3,y4,y5,y6⟩:=Ef (c:=⟨k1,e1,a1,b1,c1,nm⟩) hn;have hl:=AW hn;have HN:=AA hn;have HP:=AA P;have Hm:=AA hm;have Hi:=AA E;have Z:=AA hK;have HI:=AA h;clear P hm E hc hK h hn y0 y1 y2 y3 y4 y5;go_in;go_wp2_with fail;generalize hW0:w.alloc _=W0 at*;clear hW0;cases e5:BO nm
 .have T:=AA e5
  have hi:=AA (show JU k ⟨k1,e1,a1,b1,c1,nm⟩=(k,0,3) by rw[HP.out,e5];rfl);clear e5 y6;refine(C1.out _ az).mono ?_;rintro r w1 ⟨rfl,be⟩;rw[T.out];have ar:=az.trans (be.mono az.size);go_wp2_with fail;go_ret2;exact GF.bad hi.out (by decide) (ar.mono au)
 .have T:=AA e5
  have c5:=AA (show JU k ⟨k1,e1,a1,b1,c1,nm⟩=_ by rw[HP.out,e5,if_neg (by decide)]);clear e5 y6;refine(C1.out _ az).mono ?_;rintro r w1 ⟨rfl,bB⟩;rw[T.out];have ar:=az.trans (bB.mono az.size);obtain⟨y0,y1,y2,y3,y4,y5,y6⟩:=Ef (c:=⟨k1,e1,a1,b1,c1,nm⟩) (AB HN.out bB);go_wp2_with fail;clear y0 y1 y2 y3 y4 y5 y6;cases e6:FF k e1 nm
  .have T6:=AA e6
   have hi:=AA (show JU k ⟨k1,e1,a1,b1,c1,nm⟩=(k,0,1) by rw[c5.out,e6];rfl);clear e6;refine(C2.out _ ar).mono ?_;rintro r w2 ⟨rfl,ad⟩;rw[T6.out];replace ar:=ar.trans (ad.mono ar.size);go_wp2_with fail;go_ret2;exact GF.bad hi.out (by decide) (ar.mono au)
  .have T6:=AA e6
   have dl:=AA (show JU k ⟨k1,e1,a1,b1,c1,nm⟩=_ by rw[c5.out,e6,if_neg (by decide)]);clear e6;refine(C2.out _ ar).mono ?_;rintro r W2 ⟨rfl,ad⟩;rw[T6.out];replace bB:=bB.trans (ad.mono bB.size);replace ar:=ar.trans (ad.mono ar.size);have H:=HI.out.below ar;have kk:=AA H;have jV:=yL au ar.size;obtain⟨y0,y1,y2,y3,y4,y5,y6⟩:=Ef (c:=⟨k1,e1,a1,b1,c1,nm⟩) (AB HN.out bB);have bK:=yv hl bB.size;have b5:=AW H.1;have iz:g≠w.heap.size:=Nat.ne_of_lt (AW HI.out.1);obtain⟨gi,bt,rfl,_,_,_,_,_,j4⟩:=H.Sc' (f:=0) (by have:=(A1.1 Hi.out).1;omega);have x1:=H.cells.2.1;have RI:BW W2 (.slice (some ⟨gi,0,none⟩) k.Xy.length bt) k.Xy:=H.2.2.2.1.rd;clear H ad y1 y2 y3 y4 y5 j4;go_wp2_with fail
   by_cases e7:Ar k.Xy<0
   .have hi:=AA (show JU k ⟨k1,e1,a1,b1,c1,nm⟩=(k,0,4) by rw[dl.out,if_pos e7])
    have C3:=AA (λW (hW:Below W2.heap.size W2 W)=>Pw _ k.Xy nm W (BG.below RI hW) (By Hi.out) eD Hi.out T.out e7);clear e7 RI;refine Ac 15 49 [.p w.heap.size 0,.p g 0,.p g 0,.p g 1,.s gi k.Xy.length bt,.p w.heap.size 1,.p w.heap.size 6,.t nm,.v (.tuple #[.slice none 0 0,.int .i64 0,.bool false]),.v (.tuple #[.slice none 0 0,.int .i64 0,.bool false]),.v (.slice none 0 0),.i 0,.b false,.v (.slice none 0 0),.i 0] (λ_ _ _=>True) ?_ ?_
    .intro i E o L a wx D z O hg Z
     match i,E with
     |0,_|2,_|3,_|5,_|6,_|9,_|10,_|11,_|12,_|13,_|14,_=>exact sP L Z D z
     |1,_=>exact sL L Z D z (hl:=Nd (bc O bK y0))
     |4,_=>exact sL L Z D z (hl:=GV (bc O b5 x1))
     |7,_=>exact sL L Z D z (hl:=YW (bc O bK y6))
     |8,_=>exact sD L Z D z (C3.out _ O)
     |_+15,hq=>omega
    .intro V wx hR O
     have dp:(V 12)=.bool false:=Bg hR 12;have b9:(V 13)=.slice none 0 0:=Bg hR 13;have ei:(V 14)=.int .i64 0:=Bg hR 14;clear hR;simp only[Aj,Ag,yN,yJ,yK,yI,dp,b9,ei];simp;clear dp b9 ei;replace ar:=ar.trans (O.mono ar.size);clear O y0 y6 x1;go_wp2_with fail;go_ret2;exact GF.bad hi.out (by decide) (ar.mono au)
   .obtain⟨f1,f2,f3⟩:=GZ e7
    obtain⟨f,hf⟩:∃f:Nat,Ar k.Xy=(f:Int):=⟨(Ar k.Xy).toNat,by omega⟩
    have hi:=AA (show JU k ⟨k1,e1,a1,b1,c1,nm⟩=({k with Xy:=k.Xy.set f ⟨1,nm,0⟩,mem:=k.mem.set f [0,0,0,0]},(f:Int),0) by rw[dl.out,if_neg e7,hf];rfl);have ff:=λW (hW:Below W2.heap.size W2 W)=>Px _ k.Xy nm W (BG.below RI hW) (By Hi.out) eD Hi.out T.out f3
    unfold RY at ff;rw[hf] at ff f1;simp only[yq] at ff f1;have C3:=AA ff;have cC:f<12:=by have:=(A1.1 Hi.out).1;omega
    clear e7 RI ff f2 f3 hf f1;refine A5 15 49 [.p w.heap.size 0,.p g 0,.p g 0,.p g 1,.s gi k.Xy.length bt,.p w.heap.size 1,.p w.heap.size 6,.t nm,.z,.z,.z,.i ((f:Int)),.b true,.z,.i ((f:Int))] (λix vv ww=>match ix with
     |8|9=>∃v',vv=.tuple #[v',.int .i64 f,.bool true]/\AO W2.heap.size 91 3 At ww v' (k.Xy.set f ⟨1,nm,0⟩)
     |10|13=>AO W2.heap.size 91 3 At ww vv (k.Xy.set f ⟨1,nm,0⟩)
     |_=>True) ?_ ?_ ?_
    .intro i E o L a wx D z O hg Z
     match i,E with
     |0,_|2,_|3,_|5,_|6,_|14,_=>exact sP L Z D z
     |1,_=>exact sL L Z D z (hl:=Nd (bc O bK y0))
     |4,_=>exact sL L Z D z (hl:=GV (bc O b5 x1))
     |7,_=>exact sL L Z D z (hl:=YW (bc O bK y6))
     |8,_=>exact sC L Z D z (C3.out _ O) (by rintro e w_ ⟨v',rfl,hO,ad⟩;exact⟨_,rfl,⟨_,rfl,hO.lower O.size⟩,ad⟩)
     |9,_=>
      obtain rfl:=yQ L;have d8:∃v',(a.tmps[29]?.getD undef)=.tuple #[v',.int .i64 f,.bool true]/\AO W2.heap.size 91 3 At wx v' (k.Xy.set f ⟨1,nm,0⟩):=BY z 8
      clear z D;obtain⟨v',d8,hO⟩:=d8;refine yP ?_;go_simp;exact Z.out _ _ ⟨_,rfl,hO⟩ (yO _ _)
     |10,_=>
      obtain rfl:=yQ L;have d9:∃v',(a.tmps[20]?.getD undef)=.tuple #[v',.int .i64 f,.bool true]/\AO W2.heap.size 91 3 At wx v' (k.Xy.set f ⟨1,nm,0⟩):=BY z 9
      clear z D;obtain⟨v',d9,hO⟩:=d9;refine yP ?_;go_simp;exact Z.out _ _ hO (yO _ _)
     |11,_=>
      obtain rfl:=yQ L;have d9:∃v',(a.tmps[20]?.getD undef)=.tuple #[v',.int .i64 f,.bool true]/\AO W2.heap.size 91 3 At wx v' (k.Xy.set f ⟨1,nm,0⟩):=BY z 9
      clear z D;obtain⟨v',d9,hO⟩:=d9;refine yP ?_;go_simp;exact Z.out _ _ rfl (yO _ _)
     |12,_=>
      obtain rfl:=yQ L;have d9:∃v',(a.tmps[20]?.getD undef)=.tuple #[v',.int .i64 f,.bool true]/\AO W2.heap.size 91 3 At wx v' (k.Xy.set f ⟨1,nm,0⟩):=BY z 9
      clear z D;obtain⟨v',d9,hO⟩:=d9;refine yP ?_;go_simp;exact Z.out _ _ rfl (yO _ _)
     |13,_=>obtain rfl:=yQ L;have mR:AO W2.heap.size 91 3 At wx (a.tmps[30]?.getD undef) (k.Xy.set f ⟨1,nm,0⟩):=BY z 10;clear z D;refine yP ?_;go_simp;exact Z.out _ _ mR (yO _ _)
     |_+15,hq=>omega
    .intro i E vv wz c6 a7 hz
     match i,E with
     |8,_|9,_=>exact(by obtain⟨v',h0,A⟩:=hz;exact⟨v',h0,AO.below A a7⟩)
     |10,_|13,_=>exact(AO.below hz a7)
     |0,_|1,_|2,_|3,_|4,_|5,_|6,_|7,_|11,_|12,_|14,_=>exact hz
     |_+15,hq=>omega
    .intro V wx hR O
     have dp:(V 12)=.bool true:=Bg hR 12;have b9:AO W2.heap.size 91 3 At wx (V 13) (k.Xy.set f ⟨1,nm,0⟩):=Bg hR 13;have ei:(V 14)=.int .i64 f:=Bg hR 14;clear hR;simp only[Aj,Ag,yN,yJ,yK,yI,dp,ei];simp;generalize V 13=z13 at b9 ⊢;clear dp ei;have h5:=kk.out.Xy jV O b9;have gy:=((ar.trans (O.mono ar.size)).mono au).setCell (p:=⟨g,1,none⟩) kk.out.2.1 z13;replace y0:=(O.cell (p:=⟨w.heap.size,0,none⟩) bK).trans y0;replace x1:=(O.cell (p:=⟨g,1,none⟩) b5).trans x1;have kp:=kk.out.below O;have x0:=kp.cells.1;have mG:=AK kp.1;obtain⟨gm,bs,gw,bp,V,rfl,je,n1,Hb,gU,la,n2,n3,o1,hu,hx⟩:=h5.zp (f:=f) Hm.out cC;have cn:=(Ah.1 Hm.out).1;have h4:=(A6.1 ((Ah.1 Hm.out).2 f cC)).1;have D2:=(Hh (o:=f) (Ak wx g 1 z13) (by simpa using je) (λe=>n1 (yQ e).symm)).symm.trans Hb;obtain⟨w6,gv,jm,j3⟩:=XF hx h4;have h6:=AA (h5.row o1 (by rw[cn];exact cC) hu jm j3);have kg:=AA (AM gy j3 la (yL au gy.size));have lp:(f:Int)<12:=by omega
     obtain⟨q1,q2,rfl,_,_⟩:=b9.rd.shape;simp only[yi] at gv;have mE:w.heap.size≠g:=λe=>iz e.symm
     clear h5 gy kp Hb hx o1 hu jm j3 h4 cn je gU la n2 n3 b9 O;go_wp2_with fail;go_ret2;exact⟨by rw[hi.out];rfl,λ_=>⟨_,_,_,_,by rw[hi.out];exact h6.out⟩,kg.out⟩
theorem Ej(h:BS ss=true):DH ss:=by
 intro s hs;obtain⟨j,hj,rfl⟩:=xl hs;unfold BS at h;simp only[yD,yr] at h;have A:=h.1 j (yj.2 hj);unfold Cv at A;simp only[yD] at A;have H:=KP A.1;have e:Cp ss j=ss[j]:=by simp[Cp,hj]
 rw[e] at H;exact yL H (by decide)
theorem WS{lo g:Nat}{w:World}{m i e c:Value}{k:AN}(h:IT lo w g m i e c k)(au:lo<=w.heap.size)(hK:DP k)(R:AU)(he:0<=R.e)(N:R.e<3)(eD:R.nm.size<=maxLen):
 Calls prog 100 #[R.on g] w (Ds lo g w (Fa k R)):=by
 obtain⟨hn,az⟩:=EH w (.cells (R.onCells g) 83);have C0:=AA (λW (_:Below w.heap.size w W)=>A3 (MO R.a W));have C1:=AA (λW (_:Below w.heap.size w W)=>DZ R.nm W eD);have C2:=AA (λW (hW:Below w.heap.size w W)=>VS (h.below hW) R R.nm he (by rw[hK.zY];exact N));have P:Fa k R=if Bh R.a 0 2=false∨BO R.nm=false then(k,0,3) else if FF k R.e R.nm=false then(k,0,1) else if(BR (AF k.V3 R.a.toNat).Tj R.nm).2=false then(k,0,4) else({k with V3:=An k.V3 R.a.toNat (BQ (BR (AF k.V3 R.a.toNat).Tj R.nm).1)},0,0):=rfl
 obtain⟨k1,e1,a1,b1,c1,nm⟩:=R;simp only[AU.on,AU.onCells] at hn az C0 C1 C2 P eD ⊢;obtain⟨y0,y1,y2,y3,y4,y5,y6⟩:=Ef (c:=⟨k1,e1,a1,b1,c1,nm⟩) hn;have hl:=AW hn;have HN:=AA hn;have HP:=AA P;have Z:=AA hK;have HI:=AA h;clear P hK h hn y0 y1 y2 y4 y5 y6;go_in;go_wp2_with fail;generalize hW0:w.alloc _=W0 at*;clear hW0;cases e4:Bh a1 0 2
 .have T:=AA e4
  have hi:=AA (show Fa k ⟨k1,e1,a1,b1,c1,nm⟩=(k,0,3) by rw[HP.out,if_pos (.inl e4)]);clear e4 y3;refine(C0.out _ az).mono ?_;rintro r w1 ⟨rfl,be⟩;rw[T.out];have ar:=az.trans (be.mono az.size);go_wp2_with fail;go_ret;exact Ds.bad hi.out (by decide) (ar.mono au)
 .have T0:=AA e4
  have ab:=AZ.1 e4;obtain⟨Y,rfl⟩:∃n:Nat,a1=(n:Int):=⟨a1.toNat,by omega⟩
  have bN:Y<3:=by omega
  clear e4 y3;refine(C0.out _ az).mono ?_;rintro r w1 ⟨rfl,bB⟩;rw[T0.out];have ar:=az.trans (bB.mono az.size);obtain⟨y0,y1,y2,y3,y4,y5,y6⟩:=Ef (c:=⟨k1,e1,(Y:Int),b1,c1,nm⟩) (AB HN.out bB);clear y0 y1 y2 y3 y4 y5;go_wp2_with fail;clear y6;cases e5:BO nm
  .have T:=AA e5
   have hi:=AA (show Fa k ⟨k1,e1,(Y:Int),b1,c1,nm⟩=(k,0,3) by rw[HP.out,if_pos (.inr e5)]);clear e5;refine(C1.out _ ar).mono ?_;rintro r w2 ⟨rfl,be⟩;rw[T.out];replace ar:=ar.trans (be.mono ar.size);go_wp2_with fail;go_ret;exact Ds.bad hi.out (by decide) (ar.mono au)
  .have T:=AA e5
   have c5:=AA (show Fa k ⟨k1,e1,(Y:Int),b1,c1,nm⟩=_ by rw[HP.out,if_neg (by rw[T0.out,e5];simp)]);clear e5;refine(C1.out _ ar).mono ?_;rintro r w2 ⟨rfl,be⟩;rw[T.out];replace bB:=bB.trans (be.mono bB.size);replace ar:=ar.trans (be.mono ar.size);obtain⟨y0,y1,y2,y3,y4,y5,y6⟩:=Ef (c:=⟨k1,e1,(Y:Int),b1,c1,nm⟩) (AB HN.out bB);clear be;go_wp2_with fail;clear y0 y1 y2 y3 y4 y5 y6;cases e6:FF k e1 nm
   .have T6:=AA e6
    have hi:=AA (show Fa k ⟨k1,e1,(Y:Int),b1,c1,nm⟩=(k,0,1) by rw[c5.out,e6];rfl);clear e6;refine(C2.out _ ar).mono ?_;rintro r w2 ⟨rfl,ad⟩;rw[T6.out];replace ar:=ar.trans (ad.mono ar.size);go_wp2_with fail;go_ret;exact Ds.bad hi.out (by decide) (ar.mono au)
   .have T6:=AA e6
    have dl:=AA (show Fa k ⟨k1,e1,(Y:Int),b1,c1,nm⟩=_ by rw[c5.out,e6,if_neg (by decide)]);clear e6;refine(C2.out _ ar).mono ?_;rintro r W2 ⟨rfl,ad⟩;rw[T6.out];replace bB:=bB.trans (ad.mono bB.size);replace ar:=ar.trans (ad.mono ar.size);have H:=HI.out.below ar;obtain⟨ge,ao,ua,uc,rfl,cz,D0,_,call,fz⟩:=H.env (j:=Y) (by rw[Z.out.zY];exact bN);have x2:=yy H.cells.2.2.1;obtain⟨y0,y1,y2,y3,y4,y5,y6⟩:=Ef (c:=⟨k1,e1,(Y:Int),b1,c1,nm⟩) (AB HN.out bB);replace y0:=yy y0;replace y3:=yy y3;have ki:(Y:Int)<k.V3.length:=by rw[Z.out.zY];omega
    have ee:=yv hl bB.size;have iz:ge≠w.heap.size:=by intro e';have h0:=(yB HI.out.2.2.2.2.1.choose_spec.1 ge rfl).2;omega
    clear y1 y2 y4 y5 ad;go_wp2_with fail;refine BV ?_
    repeat(go_big_quiet_step (fail))
    refine BU λwq bq=>?_
    clear x2 y0 y3;go_wp2_with fail;have gz:=ar.trans (bq.mono ar.size);have jn:=AA (H.below bq);replace y6:=(bq.cell (p:=⟨w.heap.size,6,none⟩) ee).trans y6;replace D0:=(bq.cell (p:=⟨ge,Y*2,none⟩) cz).trans D0;have fy:=(bq.frozen (p:=⟨ge,Y*2,none⟩) cz).trans (fz _);have bK:=yv ee bq.size;have dw:=yv cz bq.size;have gl:=yL au gz.size;have Rq:BT wq (.slice ua (AF k.V3 Y).Tj.length uc) (AF k.V3 Y).Tj:=BG.below call bq;have rk:=Z.out.Tj Y bN;have ff:=λW (hW:Below wq.heap.size wq W)=>Rn _ (AF k.V3 Y).Tj nm W (BG.below Rq hW) (Ej rk) eD rk T.out
    have fe:=AA (show Fa k ⟨k1,e1,(Y:Int),b1,c1,nm⟩=if(BR (AF k.V3 Y).Tj nm).2=false then(k,0,4) else({k with V3:=An k.V3 Y (BQ (BR (AF k.V3 Y).Tj nm).1)},0,0) from dl.out);unfold ZA at ff;obtain⟨ss,bb,hsb⟩:∃ss bb,BR (AF k.V3 Y).Tj nm=(ss,bb):=⟨_,_,rfl⟩
    simp only[hsb] at ff fe;have C3:=AA ff;clear ff call Rq rk hsb H fz bq cz ee;refine A5 12 52 [.p ge (Y*2),.p ge (Y*2),.p ge (Y*2),.v (.slice ua (AF k.V3 Y).Tj.length uc),.p w.heap.size 1,.p w.heap.size 6,.t nm,.z,.z,.z,.b bb,.z] (λix vv ww=>match ix with
     |7|8=>∃v',vv=.tuple #[v',.bool bb]/\AO wq.heap.size 9 1 Ay ww v' ss
     |9|11=>AO wq.heap.size 9 1 Ay ww vv ss
     |_=>True) ?_ ?_ ?_
    .intro i E o L a wx D z O hg Z
     match i,E with
     |0,_|1,_|2,_|4,_|5,_=>exact sP L Z D z
     |3,_=>exact sL L Z D z (hl:=KN (bc O dw D0))
     |6,_=>exact sL L Z D z (hl:=YW (bc O bK y6))
     |7,_=>exact sC L Z D z (C3.out _ O) (by rintro e w_ ⟨v',rfl,hO,ad⟩;exact⟨_,rfl,⟨_,rfl,hO.lower O.size⟩,ad⟩)
     |8,_=>
      obtain rfl:=yQ L;have d7:∃v',(a.tmps[43]?.getD undef)=.tuple #[v',.bool bb]/\AO wq.heap.size 9 1 Ay wx v' ss:=BY z 7
      clear z D;obtain⟨v',d7,hO⟩:=d7;refine yP ?_;go_simp;exact Z.out _ _ ⟨_,rfl,hO⟩ (yO _ _)
     |9,_=>
      obtain rfl:=yQ L;have d8:∃v',(a.tmps[35]?.getD undef)=.tuple #[v',.bool bb]/\AO wq.heap.size 9 1 Ay wx v' ss:=BY z 8
      clear z D;obtain⟨v',d8,hO⟩:=d8;refine yP ?_;go_simp;exact Z.out _ _ hO (yO _ _)
     |10,_=>
      obtain rfl:=yQ L;have d8:∃v',(a.tmps[35]?.getD undef)=.tuple #[v',.bool bb]/\AO wq.heap.size 9 1 Ay wx v' ss:=BY z 8
      clear z D;obtain⟨v',d8,hO⟩:=d8;refine yP ?_;go_simp;exact Z.out _ _ rfl (yO _ _)
     |11,_=>obtain rfl:=yQ L;have d9:AO wq.heap.size 9 1 Ay wx (a.tmps[44]?.getD undef) ss:=BY z 9;clear z D;refine yP ?_;go_simp;exact Z.out _ _ d9 (yO _ _)
    .intro i E vv wz c6 a7 hz
     match i,E with
     |7,_|8,_=>exact(by obtain⟨v',h0,A⟩:=hz;exact⟨v',h0,AO.below A a7⟩)
     |9,_|11,_=>exact(AO.below hz a7)
     |0,_|1,_|2,_|3,_|4,_|5,_|6,_|10,_=>exact hz
    .intro V wx hR O
     have eV:(V 10)=.bool bb:=Bg hR 10;have ej:AO wq.heap.size 9 1 Ay wx (V 11) ss:=Bg hR 11;clear hR;simp only[Aj,Ag,yN,yJ,yK,yI,eV];simp;generalize V 11=z11 at ej ⊢;clear eV;have eA:=gz.trans (O.mono gz.size);replace D0:=(O.cell (p:=⟨ge,Y*2,none⟩) dw).trans D0;replace fy:=(O.frozen (p:=⟨ge,Y*2,none⟩) dw).trans fy;cases bb
     .have hi:=AA (show Fa k ⟨k1,e1,(Y:Int),b1,c1,nm⟩=(k,0,4) by rw[fe.out];rfl)
      clear ej O D0 fy y6;go_wp2_with fail;go_ret;exact Ds.bad hi.out (by decide) (eA.mono au)
     .have hi:=AA (show Fa k ⟨k1,e1,(Y:Int),b1,c1,nm⟩=({k with V3:=An k.V3 Y (BQ ss)},0,0) by rw[fe.out];rfl)
      have S:=AA (jn.out.Tj rfl gl O (by rw[Z.out.zY];exact bN) ej);have kc:=AA (AM (eA.mono au) S.out.2.1 S.out.2.2 (yL au eA.size));obtain⟨_,_,rfl,_,_⟩:=ej.rd.shape;clear ej O y6;go_wp2_with fail;go_ret;exact⟨by rw[hi.out];rfl,λ_=>⟨_,_,_,_,by rw[hi.out];exact S.out.1⟩,kc.out⟩
theorem LG(v:Value)(m:List (List Int))(r:Int)(w:World)(h:Bf w v m)(aq:Bq m=true)(hr:r<12):Calls prog 63 #[v,.int .i64 r] w (Mp m r w):=by
 by_cases h0:r<0
 .exact PM v m r w h h0
 .obtain⟨n,rfl⟩:∃n:Nat,r=(n:Int):=⟨r.toNat,by omega⟩
  exact PL v m n w h aq (by omega)
theorem zL{k:AN}(h:DP k){j:Nat}(hj:j<3):(AF k.V3 j).root<12:=by have:=h.roots j hj;unfold Ab at this;omega
theorem Vd{lo g:Nat}{w:World}{m i e c:Value}{k:AN}(h:IT lo w g m i e c k)(au:lo<=w.heap.size)(hK:DP k)(R:AU)(he:0<=R.e)(N:R.e<3)(eD:R.nm.size<=maxLen):
 Calls prog 101 #[R.on g] w (Ds lo g w (EC k R)):=by
 obtain⟨hn,az⟩:=EH w (.cells (R.onCells g) 83);have C0:=AA (λW (_:Below w.heap.size w W)=>A3 (MO R.a W));have C1:=AA (λW (_:Below w.heap.size w W)=>DZ R.nm W eD);have C2:=AA (λW (hW:Below w.heap.size w W)=>VS (h.below hW) R R.nm he (by rw[hK.zY];exact N));have P:EC k R=if Bh R.a 0 2=false∨R.a=R.e∨BO R.nm=false then(k,0,3) else if FF k R.e R.nm=false then(k,0,1) else if BI k.Xy (Ba k.mem (AF k.V3 R.a.toNat).root) (Bc (AF k.V3 R.a.toNat).Tj R.nm)=false then(k,0,2) else({k with V3:=An k.V3 R.a.toNat (BQ (Bc (AF k.V3 R.a.toNat).Tj R.nm))},0,0):=rfl
 obtain⟨k1,e1,a1,b1,c1,nm⟩:=R;simp only[AU.on,AU.onCells] at hn az C0 C1 C2 P eD ⊢;obtain⟨y0,y1,y2,y3,y4,y5,y6⟩:=Ef (c:=⟨k1,e1,a1,b1,c1,nm⟩) hn;have hl:=AW hn;have HN:=AA hn;have HP:=AA P;have Z:=AA hK;have HI:=AA h;clear P hK h hn y0 y1 y2 y4 y5 y6;go_in;go_wp2_with fail;generalize hW0:w.alloc _=W0 at*;clear hW0;cases e4:Bh a1 0 2
 .have T:=AA e4
  have hi:=AA (show EC k ⟨k1,e1,a1,b1,c1,nm⟩=(k,0,3) by rw[HP.out,if_pos (.inl e4)]);clear e4 y3;refine(C0.out _ az).mono ?_;rintro r w1 ⟨rfl,be⟩;rw[T.out];have ar:=az.trans (be.mono az.size);go_wp2_with fail;go_ret;exact Ds.bad hi.out (by decide) (ar.mono au)
 .have T0:=AA e4
  have ab:=AZ.1 e4;obtain⟨Y,rfl⟩:∃n:Nat,a1=(n:Int):=⟨a1.toNat,by omega⟩
  have bN:Y<3:=by omega
  clear e4 y3;refine(C0.out _ az).mono ?_;rintro r w1 ⟨rfl,bB⟩;rw[T0.out];have ar:=az.trans (bB.mono az.size);obtain⟨y0,y1,y2,y3,y4,y5,y6⟩:=Ef (c:=⟨k1,e1,(Y:Int),b1,c1,nm⟩) (AB HN.out bB);clear y0 y1 y4 y5
  by_cases gY:(Y:Int)=e1
  .have hi:=AA (show EC k ⟨k1,e1,(Y:Int),b1,c1,nm⟩=(k,0,3) by rw[HP.out,if_pos (.inr (.inl gY))])
   have t3:((Y:Int)==e1)=true:=by simp[gY]
   clear gY y6;go_wp2_with fail;go_ret;exact Ds.bad hi.out (by decide) (ar.mono au)
  have t3:((Y:Int)==e1)=false:=by simp[gY]
  have bX:=AA gY;clear gY;go_wp2_with fail;clear y2 y3 y6 t3;cases e5:BO nm
  .have T:=AA e5
   have hi:=AA (show EC k ⟨k1,e1,(Y:Int),b1,c1,nm⟩=(k,0,3) by rw[HP.out,if_pos (.inr (.inr e5))]);clear e5;refine(C1.out _ ar).mono ?_;rintro r w2 ⟨rfl,be⟩;rw[T.out];replace ar:=ar.trans (be.mono ar.size);go_wp2_with fail;go_ret;exact Ds.bad hi.out (by decide) (ar.mono au)
  .have T:=AA e5
   have c5:=AA (show EC k ⟨k1,e1,(Y:Int),b1,c1,nm⟩=_ by rw[HP.out,if_neg (by rw[T0.out,e5];simpa using bX.out)]);clear e5;refine(C1.out _ ar).mono ?_;rintro r w2 ⟨rfl,be⟩;rw[T.out];replace bB:=bB.trans (be.mono bB.size);replace ar:=ar.trans (be.mono ar.size);obtain⟨y0,y1,y2,y3,y4,y5,y6⟩:=Ef (c:=⟨k1,e1,(Y:Int),b1,c1,nm⟩) (AB HN.out bB);clear be;go_wp2_with fail;clear y0 y1 y2 y3 y4 y5 y6;cases e6:FF k e1 nm
   .have T6:=AA e6
    have hi:=AA (show EC k ⟨k1,e1,(Y:Int),b1,c1,nm⟩=(k,0,1) by rw[c5.out,e6];rfl);clear e6;refine(C2.out _ ar).mono ?_;rintro r w2 ⟨rfl,ad⟩;rw[T6.out];replace ar:=ar.trans (ad.mono ar.size);go_wp2_with fail;go_ret;exact Ds.bad hi.out (by decide) (ar.mono au)
   .have T6:=AA e6
    have dl:=AA (show EC k ⟨k1,e1,(Y:Int),b1,c1,nm⟩=_ by rw[c5.out,e6,if_neg (by decide)]);clear e6;refine(C2.out _ ar).mono ?_;rintro r W2 ⟨rfl,ad⟩;rw[T6.out];replace bB:=bB.trans (ad.mono bB.size);replace ar:=ar.trans (ad.mono ar.size);have H:=HI.out.below ar;obtain⟨ge,ao,ua,uc,rfl,cz,D0,D1,call,fz⟩:=H.env (j:=Y) (by rw[Z.out.zY];exact bN);have x2:=yy H.cells.2.2.1;obtain⟨y0,y1,y2,y3,y4,y5,y6⟩:=Ef (c:=⟨k1,e1,(Y:Int),b1,c1,nm⟩) (AB HN.out bB);replace y0:=yy y0;replace y3:=yy y3;have ki:(Y:Int)<k.V3.length:=by rw[Z.out.zY];omega
    have ee:=yv hl bB.size;have iz:ge≠w.heap.size:=by intro e';have h0:=(yB HI.out.2.2.2.2.1.choose_spec.1 ge rfl).2;omega
    clear y1 y2 y4 y5 ad;go_wp2_with fail;refine BV ?_
    repeat(go_big_quiet_step (fail))
    refine BU λwq bq=>?_
    clear x2 y0 y3;go_wp2_with fail;have gz:=ar.trans (bq.mono ar.size);have jn:=AA (H.below bq);replace y6:=(bq.cell (p:=⟨w.heap.size,6,none⟩) ee).trans y6;replace D0:=(bq.cell (p:=⟨ge,Y*2,none⟩) cz).trans D0;replace D1:=(bq.cell (p:=⟨ge,Y*2+1,none⟩) cz).trans D1;have fy:=(bq.frozen (p:=⟨ge,Y*2,none⟩) cz).trans (fz _);have iH:=bB.trans (bq.mono bB.size);have bK:=yv ee bq.size;have dw:=yv cz bq.size;have gl:=yL au gz.size;have Rq:BT wq (.slice ua (AF k.V3 Y).Tj.length uc) (AF k.V3 Y).Tj:=BG.below call bq;have rk:=Z.out.Tj Y bN;have C3:=AA (λW (hW:Below wq.heap.size wq W)=>QA _ (AF k.V3 Y).Tj nm W (BG.below Rq hW) (Ej rk) eD rk T.out);have fe:=AA (show EC k ⟨k1,e1,(Y:Int),b1,c1,nm⟩=if BI k.Xy (Ba k.mem (AF k.V3 Y).root) (Bc (AF k.V3 Y).Tj nm)=false then(k,0,2) else({k with V3:=An k.V3 Y (BQ (Bc (AF k.V3 Y).Tj nm))},0,0) from dl.out);clear call Rq rk H fz bq cz ee;refine A5 8 70 [.p ge (Y*2),.p ge (Y*2),.p ge (Y*2),.v (.slice ua (AF k.V3 Y).Tj.length uc),.p w.heap.size 1,.p w.heap.size 6,.t nm,.z] (λix vv ww=>match ix with
     |7=>AO wq.heap.size 9 1 Ay ww vv (Bc (AF k.V3 Y).Tj nm)
     |_=>True) ?_ ?_ ?_
    .intro i E o L a wx D z O hg Z
     match i,E with
     |0,_|1,_|2,_|4,_|5,_=>exact sP L Z D z
     |3,_=>exact sL L Z D z (hl:=KN (bc O dw D0))
     |6,_=>exact sL L Z D z (hl:=YW (bc O bK y6))
     |7,_=>exact sC L Z D z (C3.out _ O) (by rintro e w_ ⟨v',rfl,hO,ad⟩;exact⟨_,rfl,(hO.lower O.size),ad⟩)
    .intro i E vv wz c6 a7 hz
     match i,E with
     |7,_=>exact(AO.below hz a7)
     |0,_|1,_|2,_|3,_|4,_|5,_|6,_=>exact hz
    .intro V wx hR O
     have q7:AO wq.heap.size 9 1 Ay wx (V 7) (Bc (AF k.V3 Y).Tj nm):=Bg hR 7;clear hR;simp only[Aj,Ag,yN,yJ,yK,yI];simp;generalize V 7=z7 at q7 ⊢;have eA:=gz.trans (O.mono gz.size);have ke:=iH.trans (O.mono iH.size);have gZ:=jn.out.below O;obtain⟨y0,_,_,_,_,_,_⟩:=Ef (c:=⟨k1,e1,(Y:Int),b1,c1,nm⟩) (AB HN.out ke);replace D0:=(O.cell (p:=⟨ge,Y*2,none⟩) dw).trans D0;replace D1:=(O.cell (p:=⟨ge,Y*2+1,none⟩) dw).trans D1;replace fy:=(O.frozen (p:=⟨ge,Y*2,none⟩) dw).trans fy;have gs:=yv dw O.size;have lc:=yv bK O.size;have iy:=AW gZ.1;have x0:=gZ.cells.1;have x1:=gZ.cells.2.1;have fl:=zL Z.out bN;have RM:Bf wx m k.mem:=gZ.2.2.rd.1;have fW:BW wx i k.Xy:=gZ.2.2.2.1.rd;have mM:=AA q7;have ly:=AA O;obtain⟨wy,rfl⟩:∃wy:World,wy=wx:=⟨_,rfl⟩
     have CX:=AA (λW (hW:Below wy.heap.size wy W)=>LG m k.mem _ W (RM.below hW) (Am Z.out).1 fl);have CA:=AA (λW (hW:Below wy.heap.size wy W) v2 ts (H:Ax W v2 (A4 ts)) (hm:∀g,g∈ts↔g∈Ba k.mem (AF k.V3 Y).root)=>by have:=It g _ v2 _ (Bc (AF k.V3 Y).Tj nm) ts k.Xy W ((hW.cell (p:=⟨g,1,none⟩) iy).trans x1) (BG.below q7.rd hW) (BG.below fW hW) H (λf hf=>by have:=zH fl f ((hm f).1 hf);have:=Z.out.len;omega);rw[FO hm] at this;exact this);generalize gX:BI k.Xy (Ba k.mem (AF k.V3 Y).root) (Bc (AF k.V3 Y).Tj nm)=bb at CA fe;have nZ:=AA gX;obtain⟨p1,p2,rfl,_,_⟩:=q7.rd.shape;clear gX RM fW q7 O gZ x1;go_wp2_with fail;refine A5 14 70 [.p w.heap.size 0,.p g 0,.v (.slice p1 (Bc (AF k.V3 Y).Tj nm).length p2),.p w.heap.size 0,.p g 0,.p g 0,.p g 0,.v m,.p ge (Y*2),.p ge (Y*2),.p ge (Y*2+1),.i ((AF k.V3 Y).root),.z,.b bb] (λix vv ww=>match ix with
      |12=>Ey wy.heap.size k.mem (AF k.V3 Y).root ww vv
      |_=>True) ?_ ?_ ?_
     .intro i E o L a wx D z O hg Z
      have dd:=bc O lc y0;have c8:=bc O iy x0;have dm:=bc O gs D1
      match i,E with
      |0,_|2,_|3,_|5,_|6,_|8,_|9,_|10,_=>exact sP L Z D z
      |1,_|4,_=>exact sL L Z D z (hl:=Nd ‹_›)
      |7,_=>exact sL L Z D z (hl:=GQ ‹_›)
      |11,_=>exact sL L Z D z (hl:=Fy ‹_›)
      |12,_=>exact sC L Z D z (CX.out _ O) (by rintro e w_ ⟨v',ts,rfl,hO,bY,_,ad⟩;exact⟨_,rfl,⟨ts,BZ hO O.size,bY⟩,ad⟩)
      |13,_=>clear dd c8 dm;obtain rfl:=yQ L;have d1:(a.tmps[52]?.getD undef)=.pointer (some ⟨g,0,none⟩):=BY z 1;have d2:(a.tmps[53]?.getD undef)=.slice p1 (Bc (AF k.V3 Y).Tj nm).length p2:=BY z 2;have fU:Ey wy.heap.size k.mem (AF k.V3 Y).root wx (a.tmps[63]?.getD undef):=BY z 12;clear z D;generalize e63:a.tmps[63]?.getD undef=v2 at fU;obtain⟨ts,hO,bY⟩:=fU;have kI:=CA.out wx O v2 ts (AG.rd hO) bY;refine yP ?_;go_simp;refine kI.mono ?_;rintro e w_ ⟨rfl,ad⟩;exact Z.out _ _ rfl ad
     .intro i E vv wz c6 a7 hz
      match i,E with
      |12,_=>exact(Ey.below hz a7)
      |0,_|1,_|2,_|3,_|4,_|5,_|6,_|7,_|8,_|9,_|10,_|11,_|13,_=>exact hz
     .intro V wx hR O
      have b9:(V 13)=.bool bb:=Bg hR 13;clear hR;simp only[Aj,Ag,yN,yJ,yK,yI,b9];simp;clear b9;have a7:=eA.trans (O.mono eA.size);cases bb
      .have hi:=AA (show EC k ⟨k1,e1,(Y:Int),b1,c1,nm⟩=(k,0,2) by rw[fe.out];rfl)
       clear O D0 D1 fy y0 x0;go_wp2_with fail;go_ret;exact Ds.bad hi.out (by decide) (a7.mono au)
      .have hi:=AA (show EC k ⟨k1,e1,(Y:Int),b1,c1,nm⟩=({k with V3:=An k.V3 Y (BQ (Bc (AF k.V3 Y).Tj nm))},0,0) by rw[fe.out];rfl)
       have S:=AA (jn.out.Tj rfl gl (ly.out.trans (O.mono ly.out.size)) (by rw[Z.out.zY];exact bN) (mM.out.below O));have kb:=AA (AM (a7.mono au) S.out.2.1 S.out.2.2 (yL au a7.size));replace D0:=(O.cell (p:=⟨ge,Y*2,none⟩) gs).trans D0;replace fy:=(O.frozen (p:=⟨ge,Y*2,none⟩) gs).trans fy;clear O D1 y0 x0;go_wp2_with fail;go_ret;exact⟨by rw[hi.out];rfl,λ_=>⟨_,_,_,_,by rw[hi.out];exact S.out.1⟩,kb.out⟩
theorem Ap{w w1:World}{g:Nat}{o:Obj}(h:w.heap[b]?=some o)(K:w.grownBy w1 (some g))(bX:g≠b):w1.heap[b]?=some o:=
 (K.block b (AW h) (λe=>bX (yQ e).symm)).trans h
theorem Bt{w:World}{g T T':Nat}{c c':Array Value}(h:w.heap[b]?=some (.cells c T (0,0)))(h':w.heap[g]?=some (.cells c' T' (0,0)))(hT:T≠T':=by decide):b≠g:=λe=>by subst e;rw[h] at h';simp at h';exact hT h'.2
def Y9(g:Nat)(w W:World):Prop:=∀b cu,b≠g->w.heap[b]?=some (.cells cu 28 (0,0))->W.heap[b]?=w.heap[b]?
theorem Y9.below{g:Nat}{w W W':World}(h:Y9 g w W)(J:Below W.heap.size W W'):Y9 g w W':=λb cu K hB=>(J.block b (AW ((h b cu K hB).trans hB))).trans (h b cu K hB)
theorem Y9.row{g q T:Nat}{w W W':World}{cu:Array Value}(h:Y9 g w W)(K:W.grownBy W' (some q))(hq:W.heap[q]?=some (.cells cu T (0,0)))(hT:T≠28):Y9 g w W':=λb kt iG hB=>
 have e:=(h b kt iG hB).trans hB
 (Ap e K (Bt hq e hT)).trans hB.symm
theorem Y9.own{g:Nat}{w W W':World}(h:Y9 g w W)(K:W.grownBy W' (some g)):Y9 g w W':=λb kt iG hB=>
 have e:=(h b kt iG hB).trans hB
 (Ap e K (λh=>iG h.symm)).trans hB.symm
structure Eb(T:Nat)(cs:Array Value)(R:List Nat)(lo g b0:Nat)(w W:World)(m i e c:Value)(k:AN):Prop where
 yT:IT lo W g m i e c k
 yV:W.heap[b0]?=some (.cells cs T (0,0))
 bel:Below lo w W
 lo:lo<=W.heap.size
 ty:28≠T/\91≠T/\66≠T/\3≠T/\29≠T
 kf:Y9 g w W
 rs:∀b∈R,g≠b/\W.heap[b]?=some (.cells #[.slice none 0 0,.slice none 0 0,.slice none 0 0,.slice none 0 0] 28 (0,0))
abbrev CS(lo g b0:Nat)(R:AU)(w W:World)(m i e c:Value)(k:AN):Prop:=Eb 83 (R.onCells g) [] lo g b0 w W m i e c k
theorem Eb.start{lo g:Nat}{w:World}{m i e c:Value}{k:AN}(h:IT lo w g m i e c k)(au:lo<=w.heap.size)(R:AU):CS lo g w.heap.size R w (w.alloc (.cells (R.onCells g) 83)) m i e c k:=
 ⟨h.below (AJ _ _),yw _ _,(AJ _ _).mono au,yL au (AJ _ _).size,by decide,Y9.below (λ_ _ _ _=>rfl) (AJ _ _),nofun⟩
theorem Eb.ys{lo g b0:Nat}{w W:World}{m i e c:Value}{k:AN}(h:CS lo g b0 R w W m i e c k):W.cell? ⟨b0,0,none⟩=some (.pointer (some ⟨g,0,none⟩))/\W.cell? ⟨b0,1,none⟩=some (.int .i64 R.k)/\W.cell? ⟨b0,2,none⟩=some (.int .i64 R.e)/\W.cell? ⟨b0,3,none⟩=some (.int .i64 R.a)/\W.cell? ⟨b0,4,none⟩=some (.int .i64 R.b)/\W.cell? ⟨b0,5,none⟩=some (.int .i64 R.c)/\W.cell? ⟨b0,6,none⟩=some (.string R.nm):=Ef h.yV
section
variable {T:Nat} {cs:Array Value} {call:List Nat} {lo g b0:Nat} {w W W':World} {m i e c:Value} {k:AN}
theorem Eb.below(h:Eb T cs call lo g b0 w W m i e c k)(J:Below W.heap.size W W'):Eb T cs call lo g b0 w W' m i e c k:=
 ⟨h.yT.below J,AB h.yV J,h.bel.trans (J.mono h.lo),yL h.lo J.size,h.ty,h.kf.below J,λb hr=>⟨(h.rs b hr).1,AB (h.rs b hr).2 J⟩⟩
theorem Eb.xs(h:Eb T cs call lo g b0 w W m i e c k):W.cell? ⟨g,0,none⟩=some m/\W.cell? ⟨g,1,none⟩=some i/\W.cell? ⟨g,2,none⟩=some e/\W.cell? ⟨g,3,none⟩=some c:=h.yT.cells
theorem Eb.lts(h:Eb T cs call lo g b0 w W m i e c k):b0<W.heap.size/\g<W.heap.size/\g≠b0/\b0≠g:=⟨AW h.yV,AW h.yT.1,Bt h.yT.1 h.yV h.ty.1,(Bt h.yT.1 h.yV h.ty.1).symm⟩
theorem Eb.zq(h:Eb T cs call lo g b0 w W m i e c k){lo' T' sz n:Nat}{v:Value}{xs:List Value}(o:W.ownsRow lo' T' sz v n xs){b:Nat}(J:v.ownBlock=some b)(A:T'≠28)(H:T'≠T):(b≠g/\g≠b)/\b≠b0/\b0≠b:=by obtain⟨eo,hc⟩:=A9 o b J;have a1:=Bt hc h.yT.1 A;have a2:=Bt hc h.yV H;exact⟨⟨a1,a1.symm⟩,a2,a2.symm⟩
theorem Eb.Xy(h:Eb T cs call lo g b0 w W m i e c k)(hl:0<k.Xy.length):∃gi ao,i=.slice (some ⟨gi,0,none⟩) k.Xy.length ao/\gi<W.heap.size/\lo<=gi/\((gi≠g/\g≠gi)/\gi≠b0/\b0≠gi)/\∀q,W.frozen? ⟨gi,q,none⟩=false:=by obtain⟨gi,ao,e1,A,H,_,_,_,hz⟩:=h.yT.Sc' hl;refine⟨gi,ao,e1,A,H,h.zq h.yT.2.2.2.1 (by rw[e1];rfl) (by decide) h.ty.2.1,hz⟩
theorem Eb.V3(h:Eb T cs call lo g b0 w W m i e c k)(hl:0<k.V3.length):∃ge ao,e=.slice (some ⟨ge,0,none⟩) k.V3.length ao/\ge<W.heap.size/\((ge≠g/\g≠ge)/\ge≠b0/\b0≠ge)/\∀q,W.frozen? ⟨ge,q,none⟩=false:=by obtain⟨ge,ao,_,_,e1,A,_,_,_,hz⟩:=h.yT.env hl;obtain⟨ps,o⟩:=h.yT.2.2.2.2.1;exact⟨ge,ao,e1,A,h.zq o.1 (by rw[e1];rfl) (by decide) h.ty.2.2.1,hz⟩
theorem Eb.infos_envs{n' ao fB:Nat}(h:Eb T cs call lo g b0 w W m (.slice (some ⟨gi,0,none⟩) n ao) (.slice (some ⟨ge,0,none⟩) n' fB) c k):gi≠ge/\ge≠gi:=by obtain⟨ps,o⟩:=h.yT.2.2.2.2.1;obtain⟨c1,A⟩:=A9 o.1 ge rfl;obtain⟨c2,H⟩:=A9 h.yT.2.2.2.1 gi rfl;have:=Bt H A;exact⟨this,this.symm⟩
theorem Eb.info{ao:Nat}(h:Eb T cs call lo g b0 w W m (.slice (some ⟨gi,0,none⟩) n ao) e c k)(N:n=k.Xy.length){f:Nat}(hf:f<k.Xy.length)(r:Int):
 Eb T cs call lo g b0 w (W.setCell ⟨gi,f*3+2,none⟩ (.int .i64 ((Sc k.Xy f).r+r))) m (.slice (some ⟨gi,0,none⟩) n ao) e c {k with Xy:=An k.Xy f (Ic r)}:=by
 have T:=h.yT.info N (Ca hf) (j:=2) (by decide) (y:=Ic r (Sc k.Xy f)) (u:=.int .i64 ((Sc k.Xy f).r+r)) rfl;rw[<-Hv] at T;obtain⟨c2,H⟩:=A9 h.yT.2.2.2.1 gi rfl;exact⟨T.1,Ap h.yV T.2.1 (Bt H h.yV h.ty.2.1),AM h.bel T.2.1 T.2.2 h.lo,yL h.lo T.2.1.size,h.ty,h.kf.row T.2.1 H (by decide),λb hr=>⟨(h.rs b hr).1,Ap (h.rs b hr).2 T.2.1 (Bt H (h.rs b hr).2 (by decide))⟩⟩
theorem Eb.root{ao:Nat}(h:Eb T cs call lo g b0 w W m i (.slice (some ⟨ge,0,none⟩) n ao) c k)(N:n=k.V3.length){j:Nat}(hj:j<k.V3.length)(r:Int):
 Eb T cs call lo g b0 w (W.setCell ⟨ge,j*2+1,none⟩ (.int .i64 r)) m i (.slice (some ⟨ge,0,none⟩) n ao) c {k with V3:=An k.V3 j (Dz r)}:=by
 have T:=h.yT.root N hj r;obtain⟨ps,o⟩:=h.yT.2.2.2.2.1;obtain⟨c2,H⟩:=A9 o.1 ge rfl;exact⟨T.1,Ap h.yV T.2.1 (Bt H h.yV h.ty.2.2.1),AM h.bel T.2.1 T.2.2 h.lo,yL h.lo T.2.1.size,h.ty,h.kf.row T.2.1 H (by decide),λb hr=>⟨(h.rs b hr).1,Ap (h.rs b hr).2 T.2.1 (Bt H (h.rs b hr).2 (by decide))⟩⟩
theorem Eb.V0(h:Eb T cs call lo g b0 w W m i e c k)(J:Below W.heap.size W W'){c':Value}{xs:List Ad}(H:AO W.heap.size 96 4 AX W' c' xs):Eb T cs call lo g b0 w (W'.setCell ⟨g,3,none⟩ c') m i e c' {k with V0:=xs}:=by
 have h':=h.below J;exact⟨h.yT.V0 h.lo J H,Ap h'.yV (Ak W' g 3 c') h.lts.2.2.1,h'.bel.setCell h.yT.2.1 _,by simpa using h'.lo,h.ty,h'.kf.own (Ak W' g 3 c'),λb hr=>⟨(h.rs b hr).1,Ap (h'.rs b hr).2 (Ak W' g 3 _) (h.rs b hr).1⟩⟩
theorem Eb.zz(h:Eb T cs call lo g b0 w W m i e c k)(J:Below W.heap.size W W'){i':Value}{xs:List AV}(H:AO W.heap.size 91 3 At W' i' xs):Eb T cs call lo g b0 w (W'.setCell ⟨g,1,none⟩ i') m i' e c {k with Xy:=xs}:=by
 have h':=h.below J;exact⟨h.yT.Xy h.lo J H,Ap h'.yV (Ak W' g 1 i') h.lts.2.2.1,h'.bel.setCell h.yT.2.1 _,by simpa using h'.lo,h.ty,h'.kf.own (Ak W' g 1 i'),λb hr=>⟨(h.rs b hr).1,Ap (h'.rs b hr).2 (Ak W' g 1 _) (h.rs b hr).1⟩⟩
theorem Eb.fzi{ao:Nat}(h:Eb T cs call lo g b0 w W m (.slice (some ⟨gi,0,none⟩) n ao) e c k)(q:Nat):W.frozen? ⟨gi,q,none⟩=false:=by obtain⟨eo,hc⟩:=A9 h.yT.2.2.2.1 gi rfl;exact AK hc q
theorem Eb.fze{ao:Nat}(h:Eb T cs call lo g b0 w W m i (.slice (some ⟨ge,0,none⟩) n ao) c k)(q:Nat):W.frozen? ⟨ge,q,none⟩=false:=by obtain⟨ps,o⟩:=h.yT.2.2.2.2.1;obtain⟨eo,hc⟩:=A9 o.1 ge rfl;exact AK hc q
theorem Eb.zh{ao:Nat}(h:Eb T cs call lo g b0 w W m i (.slice (some ⟨ge,0,none⟩) n ao) c k):ge<W.heap.size:=by obtain⟨ps,o⟩:=h.yT.2.2.2.2.1;exact(yB o.1 ge rfl).2
theorem Eb.zy{ao:Nat}(h:Eb T cs call lo g b0 w W m (.slice (some ⟨gi,0,none⟩) n ao) e c k):gi<W.heap.size:=(yB h.yT.2.2.2.1 gi rfl).2
theorem Eb.env{ao:Nat}(h:Eb T cs call lo g b0 w W m i (.slice (some ⟨ge,0,none⟩) n ao) c k){j:Nat}(hj:j<k.V3.length):
 ∃ua uc,W.cell? ⟨ge,j*2,none⟩=some (.slice ua (AF k.V3 j).Tj.length uc)/\W.cell? ⟨ge,j*2+1,none⟩=some (.int .i64 (AF k.V3 j).root)/\BT W (.slice ua (AF k.V3 j).Tj.length uc) (AF k.V3 j).Tj:=by
 obtain⟨nP,fB,ua,uc,e1,_,d0,d1,call,_⟩:=h.yT.env hj;cases e1;exact⟨ua,uc,d0,d1,call⟩
theorem Eb.Sc{ao:Nat}(h:Eb T cs call lo g b0 w W m (.slice (some ⟨gi,0,none⟩) n ao) e c k){f:Nat}(hf:f<k.Xy.length):
 W.cell? ⟨gi,f*3,none⟩=some (.int .i64 (Sc k.Xy f).k)/\W.cell? ⟨gi,f*3+1,none⟩=some (.string (Sc k.Xy f).g)/\W.cell? ⟨gi,f*3+2,none⟩=some (.int .i64 (Sc k.Xy f).r):=by
 obtain⟨nM,fB,e1,_,_,d0,d1,d2,_⟩:=h.yT.Sc' hf;cases e1;exact⟨d0,d1,d2⟩
theorem Eb.mems(h:Eb T cs call lo g b0 w W m i e c k)(aq:Bq k.mem=true):∃gm ao,m=.slice (some ⟨gm,0,none⟩) 12 ao/\gm<W.heap.size/\(gm≠g/\g≠gm)/\gm≠b0/\b0≠gm:=by obtain⟨gm,ao,_,_,_,e1,A,H,_⟩:=h.yT.zp aq (f:=0) (by omega);obtain⟨V,o⟩:=h.yT.2.2.1;exact⟨gm,ao,e1,A,h.zq o.1 (by rw[e1];rfl) (by decide) h.ty.2.2.2.2⟩
theorem Eb.mrow{gm ao:Nat}(h:Eb T cs call lo g b0 w W (.slice (some ⟨gm,0,none⟩) n ao) i e c k)(aq:Bq k.mem=true){f:Nat}(hf:f<12):
 ∃gw bp,W.cell? ⟨gm,f,none⟩=some (.slice (some ⟨gw,0,none⟩) 4 bp)/\gw<W.heap.size/\4<=bp/\(∀j,j<4->W.cell? ⟨gw,j,none⟩=some (.int .i64 (Au k.mem f j)))/\(∀q,W.frozen? ⟨gw,q,none⟩=false)/\((gw≠g/\g≠gw)/\gw≠b0/\b0≠gw)/\(gw≠gm/\gm≠gw)/\(∀b cu T,W.heap[b]?=some (.cells cu T (0,0))->T≠3->gw≠b)/\
  ∀j v,j<4->Eb T cs call lo g b0 w (W.setCell ⟨gw,j,none⟩ (.int .i64 v)) (.slice (some ⟨gm,0,none⟩) n ao) i e c {k with mem:=Ci k.mem f j v}:=by
 obtain⟨nL,fB,gw,bp,V,e1,_,_,hc,hl,au,A,H,o,hu,hx⟩:=h.yT.zp aq hf;cases e1;have h4:=(A6.1 ((Ah.1 aq).2 f hf)).1;have id:W.ownsRow lo 3 1 (.slice (some ⟨gw,0,none⟩) 4 bp) 4 ((AH k.mem f).map (ym .i64)):=by have:=hx;unfold AG at this;rwa [h4] at this
 have mJ:4<=bp:=by obtain⟨_,_,hv,fQ,_⟩:=Ax.open (AG.rd hx);simp only[xS] at hv;obtain⟨_,_,rfl⟩:=hv;omega
 obtain⟨eo,b6⟩:=A9 id gw rfl;refine⟨gw,bp,hc,hl,mJ,λj hj=>?_,λq=>xT id q,h.zq id rfl (by decide) h.ty.2.2.2.1,⟨H,H.symm⟩,λb cu T J hT=>Bt b6 J (Ne.symm hT),λj v hj=>?_⟩
 .have:=xx id j hj
  rw[this,xz];unfold Au;rw[BD (d:=0) (by omega)];rfl
 .have S:=wm id j (.int .i64 v)
  have hO:AG lo (W.setCell ⟨gw,j,none⟩ (.int .i64 v)) (.slice (some ⟨gw,0,none⟩) 4 bp) ((AH k.mem f).set j v):=by unfold AG;rw[yi,h4,vj];exact S.1
  have T:=h.yT.row o (by rw[(Ah.1 aq).1];exact hf) hu hO S.2;rw[<-Nt] at T;exact⟨T,Ap h.yV S.2 (Bt b6 h.yV h.ty.2.2.2.1),AM h.bel S.2 au h.lo,yL h.lo S.2.size,h.ty,h.kf.row S.2 b6 (by decide),λb hr=>⟨(h.rs b hr).1,Ap (h.rs b hr).2 S.2 (Bt b6 (h.rs b hr).2 (by decide))⟩⟩
end
def Xt(W:World)(lo g b0:Nat)(R:AU)(w:World)(m i e:Value)(k:AN)(b:Bool)(ww:World):Prop:=match b with
 |false=>Below W.heap.size W ww
 |true=>∃c',CS lo g b0 R w ww m i e c' k
theorem Xt.grow{W:World}{lo g b0:Nat}{w:World}{m i e:Value}{k:AN}{b:Bool}{ww c6:World}(h:Xt W lo g b0 R w m i e k b ww)(J:Below ww.heap.size ww c6):Xt W lo g b0 R w m i e k b c6:=by
 cases b
 .exact Below.trans h (J.mono h.size)
 .obtain⟨c',h⟩:=h
  exact⟨c',h.below J⟩
theorem Qo{α:Type}{lo e sz:Nat}{cs:α->List Value}{w:World}{xs:List α}{g j:Nat}(h:AO lo e sz cs w v xs)(K:g<lo):AO lo e sz cs (w.setCell ⟨g,j,none⟩ u) v xs:=
 AO.grown h (Ak w g j u) (by
  rcases hv:v.ownBlock with _|b
  .exact .inl rfl
  .refine .inr λe=>?_
   cases e;have:=(yB h g hv).1;omega)
theorem Fn{ho:Nat->Bool}{i j:Nat}(h:i≠j):Gn ho i j=ho j:=if_neg (λe=>h e.symm)
theorem GR{ho:Nat->Bool}{i:Nat}:Gn ho i i=true:=if_pos rfl
theorem Eb.callEnv{lo g b0:Nat}{w W:World}{m i c:Value}{k:AN}{ao en:Nat}(h:CS lo g b0 R w W m i (.slice (some ⟨ge,0,none⟩) n ao) c k)(he:R.e=(en:Int))(N:en<n)(W':World)(J:Below W.heap.size W W'):
 Calls prog 145 #[R.on g] W' λe w'=>e=.returned (.pointer (some ⟨ge,en*2,none⟩))/\Below W'.heap.size W' w':=Xd g ge n ao en R W' (h.below J).xs.2.2.1 he N
def Ip(fs:List Nat):List Nat:=(yN 12).filter λf=>fs.contains f
theorem L8{fs:List Nat}:f∈Ip fs↔f<12/\f∈fs:=by simp[Ip]
theorem L7{fs:List Nat}:(Ip fs).length<=12:=by
 have:=xL (λf=>fs.contains f) (yN 12);simpa[Ip] using this
def E9(m:List (List Int))(root:Nat):List Nat:=Ip (named (AH m root))
def JW(m:List (List Int))(root:Nat):List Nat:=Ip ((E9 m root).flatMap λt=>named (AH m t))
def Ev(m:List (List Int))(root:Int):List Nat:=if root<0 then[] else Ip (root.toNat::E9 m root.toNat++JW m root.toNat)
theorem JD{m:List (List Int)}{root:Nat}:f∈E9 m root↔f∈named (AH m root):=by
 unfold E9;rw[L8];exact⟨λh=>h.2,λh=>⟨Fj h,h⟩⟩
theorem U7{m:List (List Int)}{root:Nat}:f∈JW m root↔∃t,t∈named (AH m root)/\f∈named (AH m t):=by
 unfold JW;rw[L8,wV];constructor
 .rintro⟨_,t,ht,hf⟩
  exact⟨t,JD.1 ht,hf⟩
 .rintro⟨t,ht,hf⟩
  exact⟨Fj hf,t,JD.2 ht,hf⟩
theorem Gd{m:List (List Int)}{root:Int}(h:root<12)(f:Nat):f∈Ev m root↔f∈Ba m root:=by
 rw[Dl];unfold Ev
 by_cases h0:root<0
 .rw[if_pos h0]
  simp;omega
 .rw[if_neg h0,L8,List.cons_append,List.mem_cons,wM,JD,U7]
  constructor
  .rintro⟨_,h⟩
   exact⟨by omega,h⟩
  .rintro⟨_,h⟩
   refine⟨?_,h⟩
   rcases h with rfl|h|⟨t,_,h⟩
   .omega
   .exact Fj h
   .exact Fj h
def Rb(k:AN)(a e:Nat):Bool:=decide (Ab k e=(a:Int))||(decide (0<=Ab k e)&&(E9 k.mem (Ab k e).toNat).contains a)
def Uh(k:AN)(a:Nat):List Nat:=(yN 3).filter (Rb k a)
theorem Y4{k:AN}(h:DP k){a:Nat}(ha:Bi (A2 k a)=true):Uh k a=F9 k a:=by
 unfold Uh F9;refine List.filter_congr λe he=>?_
 have mI:=yj.1 he;rw[xi,vI]
 show _↔a∈Ba k.mem (Ab k e)
 rw[Dl];unfold Rb;simp only[xP,yD,decide_eq_true_eq,vI,JD];constructor
 .rintro(A|⟨h0,A⟩)
  .exact⟨by omega,.inl (by omega)⟩
  .exact⟨h0,.inr (.inl A)⟩
 .rintro⟨h0,A|A|⟨t,ht,A⟩⟩
  .exact .inl (by omega)
  .exact .inr ⟨h0,A⟩
  .have:=(h.zv mI h0 ht A).2
   rw[this] at ha;cases ha
def Kt(k:AN)(w:Int):List Nat:=if Bn w then BM w::(if(Sc k.Xy (BM w)).k=2 then named (AH k.mem (BM w)) else[]) else[]
theorem V9{k:AN}{w:Int}(h:Bn w=true->(Sc k.Xy (BM w)).k≠3):Kt k w=Da k w:=by
 unfold Kt Da;cases K:Bn w
 .rfl
 .have:=h K
  simp only[if_true]
  congr 1
  by_cases H:(Sc k.Xy (BM w)).k=2
  .rw[if_pos H,if_pos (by simp[Bi,H])]
  .rw[if_neg H,if_neg (by simp[Bi,H,this])]
theorem PD{Xy:List AV}{fs:List Nat}{n:Int}:An (BK Xy fs n) f (DU kind)=BK (An Xy f (DU kind)) fs n:=by
 induction fs generalizing Xy with
 |nil=>rfl
 |cons g fs ih=>
  show An (BK (An Xy g (Ic n)) fs n) f (DU kind)=BK (An (An Xy f (DU kind)) g (Ic n)) fs n
  rw[ih]
  congr 1
  simp only[Ji (d:=AV.zero),Ju]
  by_cases e:f=g
  .subst e
   rw[ug,ug]
   by_cases hl:f<Xy.length
   .rw[if_pos ⟨rfl,hl⟩,if_pos ⟨rfl,hl⟩]
    rfl
   .rw[tE (by omega),tE (by omega)]
  .rw[if_neg (λh=>e h.1),if_neg (λh=>e h.1.symm),List.set_comm _ _ (λh=>e h.symm)]
def OW(ss:List ByteArray)(s:ByteArray):Nat:=(ss.takeWhile λx=>!M8 x s).length
theorem Mk{α:Type}(p:α->Bool)(l:List α):l.take (l.takeWhile p).length=l.takeWhile p/\l.drop (l.takeWhile p).length=l.dropWhile p:=by
 induction l with
 |nil=>simp
 |cons x l ih=>
  by_cases h:p x=true
  .simp[h,ih.1,ih.2]
  .simp[h]
theorem ZI:QE ss s=ss.take (OW ss s)++s::ss.drop (OW ss s):=by unfold QE OW;rw[(Mk _ _).1,(Mk _ _).2]
theorem Ts{k:Nat}(hk:k<=ss.length)(A:∀j,j<k->M9 (Cp ss j) s=true)(H:k<ss.length->M9 (Cp ss k) s=false):OW ss s=k:=by
 unfold OW
 induction ss generalizing k with
 |nil=>simp at hk;subst hk;rfl
 |cons x ss ih=>
  cases k with
  |zero=>have:=H (by simp);have e:M9 x s=false:=this;rw[sT,if_neg (by simp[Mt,e])];rfl
  |succ k=>
   have e:M9 x s=true:=A 0 (by omega);rw[sT,if_pos (by simp[Mt,e]),vY]
   congr 1
   refine ih (by simpa using hk) (λj hj=>?_) (λmA=>?_)
   .exact A (j+1) (by omega)
   .exact H (by simpa using mA)
theorem Zq{a:ByteArray}:M9 a a=false:=by
 cases h:M9 a a
 .rfl
 .exact absurd (LA.1 h) (rW _)
theorem aa(h:BS ss=true):ss.any (λx=>decide (x=s))=(decide (OW ss s<ss.length)&&decide (Cp ss (OW ss s)=s)):=by
 obtain⟨_,hp,_⟩:=Eh.1 h;have hd:=xD (p:=λx=>!M8 x s) (l:=ss);rw[xi];simp only[yD,decide_eq_true_eq,List.any_eq_true];constructor
 .rintro⟨x,hx,rfl⟩
  obtain⟨j,hj,jZ⟩:=xl hx;have hc:OW ss x=j:=by
   refine Ts (Nat.le_of_lt hj) (λi E=>?_) (λ_=>?_)
   .have:=wP.1 hp i j (by omega) hj E
    unfold Cp;rw[yg,yH (by omega)];simpa[jZ] using this
   .unfold Cp
    rw[yg,yH hj];simpa[jZ] using Zq
  rw[hc];refine⟨hj,?_⟩;unfold Cp;rw[yg,yH hj];simpa using jZ
 .rintro⟨hl,hx⟩
  exact⟨_,yx (Gl hl),hx⟩
theorem Qe{g:Nat}:Du g 0=false:=by simp[Du,Bn]
theorem Sz{f:Int}(h0:0<=f)(A:f<=11)(g:Nat):Du g (Iy f)=decide (g=f.toNat):=by
 obtain⟨x,y,_⟩:=H5 h0 A;unfold Du;rw[x,y,Bool.true_and]
 by_cases e:f.toNat=g
 .simp[e]
 .have:¬g=f.toNat:=λh=>e h.symm
  simp[e,this]
theorem Ec.zr(h:Ec p){n i:Nat}(N:n<16)(hw:(AC p.Xx n).w=1)(E:i<4):(Be p.low i).toNat≠(AC p.Xx n).a.toNat:=λe=>by have A:=h.zV E;have H:=h.zS N hw;rw[e] at A;omega
theorem Ec.zg(h:Ec p){n:Nat}(N:n<16)(hw:(AC p.Xx n).w=1):(Ab p.Vw 0).toNat≠(AC p.Xx n).a.toNat:=λe=>by have A:=h.zL;have H:=h.zS N hw;rw[e] at A;omega
theorem Ec.zi(h:Ec p){i:Nat}(E:i<4):(Ab p.Vw 0).toNat≠(Be p.low i).toNat:=λe=>by have A:=h.zL;have H:=h.zV E;rw[e] at A;omega
theorem bP{m:Nat}(A:n/4=m/4)(H:n%4=m%4):n=m:=by omega
theorem Ec.tab_ne(h:Ec p){n m:Nat}(N:n<16)(hm:m<16)(bX:m≠n):¬((Be p.low (m/4)).toNat=(Be p.low (n/4)).toNat/\m%4=n%4):=λ⟨e1,e2⟩=>bX (bP (h.zf (by omega) (by omega) e1) e2)
theorem Ec.rowl(h:Ec p){f:Nat}(hf:f<12):(AH p.Vw.mem f).length=4:=h.k.row hf
theorem Ec.meml(h:Ec p):p.Vw.mem.length=12:=(Ah.1 h.k.mem).1
theorem II{k:AN}(h:DP k){kind a b c:Int}:DP (Ae k (Ai kind a b c)).1:=Ll h ⟨Int.le_refl 0,show(0:Int)<=2 by decide⟩
theorem Z1(h:Ec p){n:Nat}(N:n<16)(hw:(AC p.Xx n).w=1){g:Nat}:Sc (Ep p n).Vw.Xy g=if g=(AC p.Xx n).a.toNat then AV.zero else Sc p.Vw.Xy g:=by
 rw[Oc h N hw];have fk:=h.zS N hw;obtain⟨f1,f2,f3⟩:=h.zR N hw
 show Sc ((A7 (A7 p.Vw.Xy (Au p.Vw.mem (Be p.low (n/4)).toNat (n%4)) (-1)) 0 1).set _ AV.zero) g=_
 rw[Hj,Co,Co]
 by_cases e:g=(AC p.Xx n).a.toNat
 .rw[if_pos ⟨e,by rw[h.k.len];exact fk.1⟩,if_pos e]
 .rw[if_neg (λh=>e h.1),if_neg e,Fl (by rw[Co];exact h.k.len),Fl h.k.len]
  have e1:Du g (Au p.Vw.mem (Be p.low (n/4)).toNat (n%4))=false:=by
   rcases h.Xx n N with⟨a,_⟩|⟨_,b,c,_⟩|⟨a,_⟩
   .omega
   .have c':Au p.Vw.mem (Be p.low (n/4)).toNat (n%4)=Iy (AC p.Xx n).a:=c
    rw[c',Sz b.1 b.2];exact decide_eq_false e
   .omega
  rw[e1,Qe];simp[ER]
theorem cV(h:Ec p){n:Nat}(N:n<16)(hw:(AC p.Xx n).w=1){f i:Nat}:Au (Ep p n).Vw.mem f i=if f=(Be p.low (n/4)).toNat/\i=n%4 then 0 else Au p.Vw.mem f i:=by rw[Oc h N hw];have hl:=h.zV (i:=n/4) (by omega);exact RJ (by rw[h.meml];exact hl.1) (by rw[h.rowl hl.1];omega)
theorem Ql(h:Ec p){n:Nat}(N:n<16)(hw:(AC p.Xx n).w=1)(e:Nat):Ab (Ep p n).Vw e=Ab p.Vw e/\BB (Ep p n).Vw e=BB p.Vw e:=by rw[Oc h N hw];exact⟨rfl,rfl⟩
theorem LI{s:List (List Int)}{k j:Nat}(hk:k<s.length):AH (s.set k r) j=if j=k then r else AH s j:=by
 rw[Oh]
 by_cases e:j=k
 .rw[if_pos ⟨e,hk⟩,if_pos e]
 .rw[if_neg (λh=>e h.1),if_neg e]
theorem aw{Xy:List AV}(hf:f<Xy.length)(h:(Sc Xy f).k=0):0<=Ar Xy:=by unfold Ar;rw[if_pos (Ks.2 ⟨_,Di (d:=AV.zero) hf,by unfold Sc at h;simpa using h⟩)];omega
theorem UM(h:Ec p){n:Nat}(N:n<16)(hw:(AC p.Xx n).w=1):
 Ec (Ep p n)/\(∀a,a<64->EL (Ep p n) a=EL p a)/\As (Ep p n).Xx 1+1=As p.Xx 1/\0<=Ar (Ep p n).Vw.Xy:=by
 have df:=h.slot N (by omega);obtain⟨f1,f2,f3⟩:=h.zR N hw;have fk:=h.zS N hw;have eN:=λg=>Z1 h N hw (g:=g)
 have ek:=λf i=>cV h N hw (f:=f) (i:=i)
 have jc:(Ep p n).Xx=p.Xx.set n ⟨2,Bo p.swap,false⟩:=rfl;have kT:(Ep p n).swap=p.swap.set (Bo p.swap).toNat (AH p.Vw.mem (AC p.Xx n).a.toNat):=rfl;have jU:(Ep p n).low=p.low:=rfl;have il:∀m,AC (Ep p n).Xx m=if m=n then⟨2,Bo p.swap,false⟩ else AC p.Xx m:=λm=>by
  rw[jc,Ea]
  by_cases e:m=n
  .rw[if_pos ⟨e,by rw[h.zZ];exact N⟩,if_pos e]
  .rw[if_neg (λh=>e h.1),if_neg e]
 have eK:∀s,AH (Ep p n).swap s=if s=(Bo p.swap).toNat then AH p.Vw.mem (AC p.Xx n).a.toNat else AH p.swap s:=λs=>by rw[kT,LI (by rw[h.zO];exact df.2.1)]
 have el:D8 (AH p.Vw.mem (AC p.Xx n).a.toNat)=true:=(Ah.1 h.k.mem).2 _ fk.1;have fJ:AH p.Vw.mem (AC p.Xx n).a.toNat≠[]:=λe=>by have:=(A6.1 el).1;rw[e] at this;simp at this
 have gt:As (Ep p n).Xx 1+1=As p.Xx 1:=by
  have:=OV (l:=p.Xx) (n:=n) (y:=⟨2,Bo p.swap,false⟩) (w:=1) (by rw[h.zZ];exact N);rw[jc];have e1:ER (OY 1 (AC p.Xx n))=1:=by simp[OY,hw,ER]
  have e2:ER (OY 1 ⟨2,Bo p.swap,false⟩)=0:=by simp[OY,ER]
  omega
 have cl:∀g,g≠(AC p.Xx n).a.toNat->LU p.Vw.Xy g->LU (Ep p n).Vw.Xy g:=λg K hm=>by unfold LU;rw[eN g,if_neg K];exact hm
 have jS:=(Ql h N hw 0).1;have ip:DP (Ep p n).Vw:=II (II h.k);refine⟨⟨ip,?_,?_,?_,?_,?_,?_,?_,?_,?_,?_,?_,h.Il,h.UQ,?_⟩,?_,gt,?_⟩
 .rw[kT,yi];exact h.zO
 .intro s hs
  rw[eK s]
  by_cases e:s=(Bo p.swap).toNat
  .rw[if_pos e];exact .inr el
  .rw[if_neg e];exact h.zG s hs
 .rw[(Ql h N hw 0).2];exact h.may
 .intro e A H
  rw[(Ql h N hw e).2];exact h.alone e A H
 .rw[jS];exact h.root
 .exact h.zE
 .rw[jS];exact cl _ (h.zg N hw) h.yX
 .intro i E
  obtain⟨a,b,c,d⟩:=h.lows i E;refine⟨a,b,?_,cl _ (h.zr N hw E) d⟩;rw[jS,ek,if_neg (λe=>h.zi (i:=n/4) (by omega) e.1)];exact c
 .rw[jc,yi];exact h.zZ
 .intro s hs
  have A:=Nv (l:=p.Xx) (n:=n) (s:=s) (y:=⟨2,Bo p.swap,false⟩) (by rw[h.zZ];exact N);have e1:ER (DB s (AC p.Xx n))=0:=by simp[DB,hw,ER]
  have H:=h.slots s hs;rw[eK s,jc]
  by_cases e:s=(Bo p.swap).toNat
  .rw[if_pos e]
   have e2:ER (DB s ⟨2,Bo p.swap,false⟩)=1:=by
    have:Bo p.swap=(s:Int):=by omega
    simp[DB,this,ER]
   rw[if_neg (by rw[JY];exact fJ)];rw[e,df.2.2] at H;rw[<-e] at H;simp at H;omega
  .rw[if_neg e]
   have e2:ER (DB s ⟨2,Bo p.swap,false⟩)=0:=by
    have:¬Bo p.swap=(s:Int):=by omega
    simp[DB,this,ER]
   omega
 .intro m hm
  have jO:Bx (Ep p n) m=if m=n then 0 else Bx p m:=by
   unfold Bx;rw[jU,ek]
   by_cases e:m=n
   .subst e;rw[if_pos ⟨rfl,rfl⟩,if_pos rfl]
   .rw[if_neg (h.tab_ne N hm e),if_neg e]
  unfold Kr;rw[il m,jO]
  by_cases e:m=n
  .simp only[if_pos e]
   refine .inr (.inr ⟨by simp,⟨df.1,by have:=df.2.1;show Bo p.swap<=15;omega⟩,?_,by simp,by simp⟩);rw[eK,if_pos rfl];exact fJ
  .simp only[if_neg e]
   rcases h.Xx m hm with x|⟨x1,x2,x3,x4⟩|⟨x1,x2,x3,x4,x5⟩
   .exact .inl x
   .refine .inr (.inl ⟨x1,x2,x3,cl _ (λe'=>e (h.zm hm N x1 hw e')) x4⟩)
   .refine .inr (.inr ⟨x1,x2,?_,x4,x5⟩)
    rw[eK,if_neg]
    .exact x3
    .intro e'
     rw[e'] at x3;exact x3 df.2.2
 .have:=h.count
  show(As (Ep p n).Xx 1:Int)<=p.UQ
  omega
 .intro a ha
  unfold EL;rw[il (a/4)]
  by_cases e:a/4=n
  .subst e
   rw[if_pos rfl,if_neg (show ¬(2:Int)=1 by decide),if_pos (show(2:Int)=2 from rfl),if_pos hw];unfold Au;rw[eK,if_pos rfl]
  .rw[if_neg e]
   by_cases w1:(AC p.Xx (a/4)).w=1
   .rw[if_pos w1,if_pos w1,ek,if_neg (λe'=>h.zr (i:=n/4) (n:=a/4) (by omega) w1 (by omega) e'.1.symm)]
   .rw[if_neg w1,if_neg w1]
    by_cases w2:(AC p.Xx (a/4)).w=2
    .rw[if_pos w2,if_pos w2]
     unfold Au;rw[eK,if_neg]
     rcases h.Xx (a/4) (by omega) with⟨x,_⟩|⟨x,_⟩|⟨x1,x2,x3,x4,x5⟩
     .omega
     .omega
     .intro e'
      rw[e'] at x3;exact x3 df.2.2
    .rw[if_neg w2,if_neg w2]
 .have a8:(Ep p n).Vw.Xy.length=12:=ip.len
  exact aw (f:=(AC p.Xx n).a.toNat) (by rw[a8];exact fk.1) (by rw[eN,if_pos rfl];rfl)
theorem set4{x:List Int}(hx:x.length=4)(h:r.length=4):(((x.set 0 (r.getD 0 0)).set 1 (r.getD 1 0)).set 2 (r.getD 2 0)).set 3 (r.getD 3 0)=r:=by
 match x,hx,r,h with
 | [_,_,_,_],_,[a,b,c,d],_=>rfl
theorem TQ{m:List (List Int)}{i:Nat}{w:Int}:Ci m f i w=m.set f ((AH m f).set i w):=Nt
theorem Oi{m:List (List Int)}{i:Nat}{w:Int}(hf:f<m.length):Ci (m.set f r) f i w=m.set f (r.set i w):=by rw[TQ,LI hf,if_pos rfl,ug]
theorem aA{k:AN}(hm:CQ (BB k 0) gA=true){f:Int}(h0:0<=f)(A:f<=11)(hl:k.mem.length=12)(hk:A2 k f.toNat=1)(K:(Sc k.Xy f.toNat).g=gA)(kW:(AH k.mem f.toNat).length=4){ws:List Int}(hw:D8 ws=true):
 VY k f ws= {k with mem:=k.mem.set f.toNat ws}:=by
 obtain⟨mj,mi⟩:=A6.1 hw;have ok:∀i,i<4->EB (ws.getD i 0)=true:=λi E=>AZ.2 (mi _ (Di (by omega)))
 have hf:f.toNat<k.mem.length:=by rw[hl];omega
 have st:∀(k':AN)(i:Nat),k'.Xy=k.Xy->k'.V3=k.V3->i<4->(Ae k' (Ai 3 f (i:Nat) (ws.getD i 0))).1= {k' with mem:=Ci k'.mem f.toNat i (ws.getD i 0)}:=λk' i e1 e2 E=>by
  have mv:CQ (BB k' 0) gA=true:=by unfold BB;rw[e2];exact hm
  rw[Yl mv h0 A (by unfold A2;rw[e1];exact hk) (by rw[e1];exact K) E (ok i E)]
 have e:(yN 4)=[0,1,2,3]:=rfl;unfold VY;rw[e];simp only[yK,yI];rw[st k 0 rfl rfl (by omega)];rw[st {k with mem:=Ci k.mem f.toNat 0 (ws.getD 0 0)} 1 rfl rfl (by omega)];rw[st {k with mem:=Ci (Ci k.mem f.toNat 0 (ws.getD 0 0)) f.toNat 1 (ws.getD 1 0)} 2 rfl rfl (by omega)];rw[st {k with mem:=Ci (Ci (Ci k.mem f.toNat 0 (ws.getD 0 0)) f.toNat 1 (ws.getD 1 0)) f.toNat 2 (ws.getD 2 0)} 3 rfl rfl (by omega)]
 congr 1
 show Ci (Ci (Ci (Ci k.mem f.toNat 0 _) f.toNat 1 _) f.toNat 2 _) f.toNat 3 _=_
 rw[TQ (m:=k.mem),Oi hf,Oi hf,Oi hf,set4 kW mj]
def IK(k:AN)(f t b:Nat)(row:List Int):AN:=Im {k with Xy:=k.Xy.set f ⟨1,gA,0⟩,mem:=k.mem.set f row} t b (Iy f)
theorem WV(h:Ec p){n:Nat}(N:n<16)(hw:(AC p.Xx n).w≠1)(hf:0<=Ar p.Vw.Xy):
 Pi p n=({p with Vw:=IK p.Vw (Ar p.Vw.Xy).toNat (Be p.low (n/4)).toNat (n%4) (if(AC p.Xx n).w=2 then AH p.swap (AC p.Xx n).a.toNat else[0,0,0,0]),swap:=if(AC p.Xx n).w=2 then p.swap.set (AC p.Xx n).a.toNat [] else p.swap,Xx:=p.Xx.set n ⟨1,Ar p.Vw.Xy,true⟩},true)/\
 DP (IK p.Vw (Ar p.Vw.Xy).toNat (Be p.low (n/4)).toNat (n%4) (if(AC p.Xx n).w=2 then AH p.swap (AC p.Xx n).a.toNat else[0,0,0,0])):=by
 obtain⟨g1,g2,g3⟩:=GZ (Xy:=p.Vw.Xy) (by omega);have a8:=h.k.len;rw[a8] at g1;have hl:=h.lows (n/4) (by omega);have im:=h.zV (i:=n/4) (by omega);have cn:=h.meml;have bX:(Be p.low (n/4)).toNat≠(Ar p.Vw.Xy).toNat:=λe=>by have:=im.2;unfold A2 at this;rw[e,g2] at this;omega
 have e1:=Oj (k:=p.Vw) h.may hf (a:=0) (b:=0) (c:=0);have mz:DP (Ae p.Vw (Ai 1 0 0 0)).1:=II h.k;rw[e1] at mz;have ew:∀g,Sc (p.Vw.Xy.set (Ar p.Vw.Xy).toNat ⟨1,gA,0⟩) g=if g=(Ar p.Vw.Xy).toNat then⟨1,gA,0⟩ else Sc p.Vw.Xy g:=λg=>by
  rw[Hj,a8]
  by_cases e:g=(Ar p.Vw.Xy).toNat
  .rw[if_pos ⟨e,g1⟩,if_pos e]
  .rw[if_neg (λh=>e h.1),if_neg e]
 have e2:(if(AC p.Xx n).w=2 then VY {p.Vw with Xy:=p.Vw.Xy.set (Ar p.Vw.Xy).toNat ⟨1,gA,0⟩,mem:=p.Vw.mem.set (Ar p.Vw.Xy).toNat [0,0,0,0]} (Ar p.Vw.Xy) (AH p.swap (AC p.Xx n).a.toNat) else {p.Vw with Xy:=p.Vw.Xy.set (Ar p.Vw.Xy).toNat ⟨1,gA,0⟩,mem:=p.Vw.mem.set (Ar p.Vw.Xy).toNat [0,0,0,0]})=
  {p.Vw with Xy:=p.Vw.Xy.set (Ar p.Vw.Xy).toNat ⟨1,gA,0⟩,mem:=p.Vw.mem.set (Ar p.Vw.Xy).toNat (if(AC p.Xx n).w=2 then AH p.swap (AC p.Xx n).a.toNat else[0,0,0,0])}:=by
  by_cases w2:(AC p.Xx n).w=2
  .rw[if_pos w2,if_pos w2]
   have ea:D8 (AH p.swap (AC p.Xx n).a.toNat)=true:=by
    rcases h.Xx n N with⟨x,_⟩|⟨x,_⟩|⟨x1,x2,x3,x4,x5⟩
    .omega
    .omega
    .rcases h.zG (AC p.Xx n).a.toNat (by omega) with x|x
     .exact absurd x x3
     .exact x
   rw[aA (k:= {p.Vw with Xy:=p.Vw.Xy.set (Ar p.Vw.Xy).toNat ⟨1,gA,0⟩,mem:=p.Vw.mem.set (Ar p.Vw.Xy).toNat [0,0,0,0]}) h.may hf (by omega) (by show(p.Vw.mem.set _ _).length=12;rw[yi];exact cn) (by unfold A2;rw[ew,if_pos rfl]) (by rw[ew,if_pos rfl]) (by show(AH (p.Vw.mem.set _ _) _).length=4;rw[LI (by omega),if_pos rfl];rfl) ea]
   show AN.mk _ _ _ _=AN.mk _ _ _ _
   rw[ug]
  .rw[if_neg w2,if_neg w2]
 have ea:D8 (if(AC p.Xx n).w=2 then AH p.swap (AC p.Xx n).a.toNat else[0,0,0,0])=true:=by
  by_cases w2:(AC p.Xx n).w=2
  .rw[if_pos w2]
   rcases h.Xx n N with⟨x,_⟩|⟨x,_⟩|⟨x1,x2,x3,x4,x5⟩
   .omega
   .omega
   .rcases h.zG (AC p.Xx n).a.toNat (by omega) with x|x
    .exact absurd x x3
    .exact x
  .rw[if_neg w2];rfl
 generalize hR:(if(AC p.Xx n).w=2 then AH p.swap (AC p.Xx n).a.toNat else[0,0,0,0])=row at e2 ea ⊢;have lf:DP {p.Vw with Xy:=p.Vw.Xy.set (Ar p.Vw.Xy).toNat ⟨1,gA,0⟩,mem:=p.Vw.mem.set (Ar p.Vw.Xy).toNat row}:=by have:=DP.data h.k g1 (.inl g2) ea (x:=⟨1,gA,0⟩) (.inr ⟨by decide,by decide,by decide⟩) (.inr rfl) (by rw[DP.zD h.k g1 g2]) (.inr (DP.zD h.k g1 g2)) h.k.V0 h.k.trans;exact this
 have e3:=Vg lf h.may h.alone hl.1 hl.2.1 (by unfold A2;rw[ew,if_neg bX];exact im.2) (by rw[ew,if_neg bX];exact hl.2.2.2.1) (b:=n%4) (by omega) (w:=Iy (Ar p.Vw.Xy)) (.inr ⟨_,hf,by omega,rfl,by unfold A2;rw[ew,if_pos rfl],by rw[ew,if_pos rfl]⟩);have e4:((Ar p.Vw.Xy).toNat:Int)=Ar p.Vw.Xy:=by omega
 have ld:=II lf (kind:=6) (a:=Be p.low (n/4)) (b:=((n%4:Nat):Int)) (c:=Iy (Ar p.Vw.Xy));rw[e3] at ld;refine⟨?_,by unfold IK;rw[e4];exact ld⟩;unfold Pi;rw[e1];simp only;rw[if_neg (by simp),e2];unfold LH;rw[e3];unfold IK;rw[e4]
theorem Ec.tab_zero(h:Ec p){n:Nat}(N:n<16)(hw:(AC p.Xx n).w≠1):Bx p n=0:=by
 rcases h.Xx n N with⟨_,_,_,x⟩|⟨x,_⟩|⟨_,_,_,_,x⟩
 .exact x
 .exact absurd x hw
 .exact x
theorem Ty(h:Ec p){n:Nat}(N:n<16)(hw:(AC p.Xx n).w≠1)(hf:0<=Ar p.Vw.Xy)(hc:(As p.Xx 1:Int)+1<=p.UQ):
 Ec (Pi p n).1/\(Pi p n).2=true/\(∀a,a<64->EL (Pi p n).1 a=EL p a)/\As (Pi p n).1.Xx 1=As p.Xx 1+1/\(Pi p n).1.Xx=p.Xx.set n ⟨1,Ar p.Vw.Xy,true⟩:=by
 obtain⟨ew,ip⟩:=WV h N hw hf;obtain⟨g1,g2,g3⟩:=GZ (Xy:=p.Vw.Xy) (by omega);have a8:=h.k.len;rw[a8] at g1;generalize hR:(if(AC p.Xx n).w=2 then AH p.swap (AC p.Xx n).a.toNat else[0,0,0,0])=row at ew ip;generalize hS:(if(AC p.Xx n).w=2 then p.swap.set (AC p.Xx n).a.toNat [] else p.swap)=sw at ew;have cn:=h.meml;have hl:=h.lows (n/4) (by omega);have im:=h.zV (i:=n/4) (by omega);have jJ:∀g,A2 p.Vw g≠0->g≠(Ar p.Vw.Xy).toNat:=λg K e=>by unfold A2 at K;rw[e] at K;exact K g2
 have ij:(Ab p.Vw 0).toNat≠(Ar p.Vw.Xy).toNat:=jJ _ (by rw[h.zL.2];decide);have eM:∀i,i<4->(Be p.low i).toNat≠(Ar p.Vw.Xy).toNat:=λi E=>jJ _ (by rw[(h.zV E).2];decide)
 have iC:∀m,m<16->(AC p.Xx m).w=1->(AC p.Xx m).a.toNat≠(Ar p.Vw.Xy).toNat:=λm hm mt=>jJ _ (by rw[(h.zS hm mt).2];decide)
 have el:D8 row=true:=by
  rw[<-hR]
  by_cases w2:(AC p.Xx n).w=2
  .rw[if_pos w2]
   rcases h.Xx n N with⟨x,_⟩|⟨x,_⟩|⟨x1,x2,x3,x4,x5⟩
   .omega
   .omega
   .rcases h.zG (AC p.Xx n).a.toNat (by omega) with x|x
    .exact absurd x x3
    .exact x
  .rw[if_neg w2];rfl
 have kW:=(A6.1 el).1;have e0:Au (p.Vw.mem.set (Ar p.Vw.Xy).toNat row) (Be p.low (n/4)).toNat (n%4)=0:=by unfold Au;rw[LI (by omega),if_neg (eM _ (by omega))];exact h.tab_zero N hw
 have e4:((Ar p.Vw.Xy).toNat:Int)=Ar p.Vw.Xy:=by omega
 have ek:∀f i,Au (IK p.Vw (Ar p.Vw.Xy).toNat (Be p.low (n/4)).toNat (n%4) row).mem f i=if f=(Be p.low (n/4)).toNat/\i=n%4 then Iy (Ar p.Vw.Xy) else if f=(Ar p.Vw.Xy).toNat then row.getD i 0 else Au p.Vw.mem f i:=λf i=>by
  unfold IK Im
  show Au (Ci (p.Vw.mem.set (Ar p.Vw.Xy).toNat row) _ _ _) f i=_
  rw[RJ (by rw[yi,cn];exact im.1) (by rw[LI (by omega),if_neg (eM _ (by omega)),h.rowl im.1];omega),e4]
  congr 1
  unfold Au;rw[LI (by omega)]
  by_cases e:f=(Ar p.Vw.Xy).toNat
  .rw[if_pos e,if_pos e]
  .rw[if_neg e,if_neg e]
 have eN:∀g,Sc (IK p.Vw (Ar p.Vw.Xy).toNat (Be p.low (n/4)).toNat (n%4) row).Xy g=if g=(Ar p.Vw.Xy).toNat then⟨1,gA,1⟩ else Sc p.Vw.Xy g:=λg=>by
  unfold IK Im
  show Sc (A7 (A7 (p.Vw.Xy.set (Ar p.Vw.Xy).toNat ⟨1,gA,0⟩) (Au (p.Vw.mem.set (Ar p.Vw.Xy).toNat row) _ _) (-1)) (Iy _) 1) g=_
  rw[Fl (by rw[Co,yi];exact a8),Fl (by rw[yi];exact a8),e0,Qe,e4,Sz hf (by omega),Hj,a8]
  by_cases e:g=(Ar p.Vw.Xy).toNat
  .rw[if_pos ⟨e,g1⟩,if_pos e]
   simp[ER,e]
  .rw[if_neg (λh=>e h.1),if_neg e]
   simp[ER,e]
 have il:∀m,AC (p.Xx.set n ⟨1,Ar p.Vw.Xy,true⟩) m=if m=n then⟨1,Ar p.Vw.Xy,true⟩ else AC p.Xx m:=λm=>by
  rw[Ea]
  by_cases e:m=n
  .rw[if_pos ⟨e,by rw[h.zZ];exact N⟩,if_pos e]
  .rw[if_neg (λh=>e h.1),if_neg e]
 have gt:As (p.Xx.set n ⟨1,Ar p.Vw.Xy,true⟩) 1=As p.Xx 1+1:=by
  have:=OV (l:=p.Xx) (n:=n) (y:=⟨1,Ar p.Vw.Xy,true⟩) (w:=1) (by rw[h.zZ];exact N);have e1:ER (OY 1 (AC p.Xx n))=0:=by simp[OY,hw,ER]
  have e2:ER (OY 1 ⟨1,Ar p.Vw.Xy,true⟩)=1:=by simp[OY,ER]
  omega
 have cl:∀g,g≠(Ar p.Vw.Xy).toNat->LU p.Vw.Xy g->LU (IK p.Vw (Ar p.Vw.Xy).toNat (Be p.low (n/4)).toNat (n%4) row).Xy g:=λg K hm=>by unfold LU;rw[eN g,if_neg K];exact hm
 have mu:LU (IK p.Vw (Ar p.Vw.Xy).toNat (Be p.low (n/4)).toNat (n%4) row).Xy (Ar p.Vw.Xy).toNat:=by unfold LU;rw[eN,if_pos rfl];exact⟨rfl,rfl⟩
 have eK:∀s,AH sw s=if(AC p.Xx n).w=2/\s=(AC p.Xx n).a.toNat then[] else AH p.swap s:=λs=>by
  rw[<-hS]
  by_cases w2:(AC p.Xx n).w=2
  .rcases h.Xx n N with⟨x,_⟩|⟨x,_⟩|⟨x1,x2,x3,x4,x5⟩
   .omega
   .omega
   .rw[if_pos w2,LI (by rw[h.zO];omega)]
    by_cases e:s=(AC p.Xx n).a.toNat
    .rw[if_pos e,if_pos ⟨w2,e⟩]
    .rw[if_neg e,if_neg (λh=>e h.2)]
  .rw[if_neg w2,if_neg (λh=>w2 h.1)]
 have jQ:sw.length=16:=by
  rw[<-hS]
  split
  .rw[yi];exact h.zO
  .exact h.zO
 rw[ew];have eh:∀m,m<16->m≠n->(AC p.Xx m).w=2->¬((AC p.Xx n).w=2/\(AC p.Xx m).a.toNat=(AC p.Xx n).a.toNat):=by
  rintro m hm bX m2 ⟨n2,e⟩;have r1:0<=(AC p.Xx m).a/\(AC p.Xx m).a<=15:=by
   rcases h.Xx m hm with⟨x,_⟩|⟨x,_⟩|⟨x1,x2,x3,x4,x5⟩
   .omega
   .omega
   .exact x2
  have r2:0<=(AC p.Xx n).a/\(AC p.Xx n).a<=15:=by
   rcases h.Xx n N with⟨x,_⟩|⟨x,_⟩|⟨x1,x2,x3,x4,x5⟩
   .omega
   .omega
   .exact x2
  have hs:=h.slots (AC p.Xx n).a.toNat (by omega);have A:=Nv (l:=p.Xx) (n:=n) (s:=(AC p.Xx n).a.toNat) (y:=⟨0,0,false⟩) (by rw[h.zZ];exact N);have H:=Nv (l:=p.Xx.set n ⟨0,0,false⟩) (n:=m) (s:=(AC p.Xx n).a.toNat) (y:=⟨0,0,false⟩) (by rw[yi,h.zZ];exact hm);rw[Ea,if_neg (λh=>bX h.1)] at H;have b1:ER (DB (AC p.Xx n).a.toNat (AC p.Xx n))=1:=by
   have:(AC p.Xx n).a=(((AC p.Xx n).a.toNat:Nat):Int):=by omega
   unfold DB;rw[decide_eq_true n2,decide_eq_true this];rfl
  have b2:ER (DB (AC p.Xx n).a.toNat (AC p.Xx m))=1:=by
   have:(AC p.Xx m).a=(((AC p.Xx n).a.toNat:Nat):Int):=by omega
   unfold DB;rw[decide_eq_true m2,decide_eq_true this];rfl
  have b3:ER (DB (AC p.Xx n).a.toNat ⟨0,0,false⟩)=0:=by simp[DB,ER]
  split at hs<;>omega
 refine⟨⟨ip,jQ,?_,h.may,h.alone,h.root,h.zE,cl _ ij h.yX,?_,?_,?_,?_,h.Il,h.UQ,?_⟩,rfl,?_,gt,rfl⟩
 .intro s hs
  rw[eK s]
  split
  .exact .inl rfl
  .exact h.zG s hs
 .intro i E
  obtain⟨a,b,c,d⟩:=h.lows i E;refine⟨a,b,?_,cl _ (eM i E) d⟩
  show Au (IK p.Vw _ _ _ row).mem (Ab p.Vw 0).toNat i=_
  rw[ek,if_neg (λe=>h.zi (i:=n/4) (by omega) e.1),if_neg ij];exact c
 .show(p.Xx.set n _).length=16
  rw[yi];exact h.zZ
 .intro s hs
  have A:=Nv (l:=p.Xx) (n:=n) (s:=s) (y:=⟨1,Ar p.Vw.Xy,true⟩) (by rw[h.zZ];exact N);have e2:ER (DB s ⟨1,Ar p.Vw.Xy,true⟩)=0:=by simp[DB,ER]
  have H:=h.slots s hs
  show Ch (p.Xx.set n _) s=if(AH sw s).isEmpty then 0 else 1
  rw[eK s]
  by_cases e:(AC p.Xx n).w=2/\s=(AC p.Xx n).a.toNat
  .rw[if_pos e]
   have a0:0<=(AC p.Xx n).a/\AH p.swap (AC p.Xx n).a.toNat≠[]:=by
    rcases h.Xx n N with⟨x,_⟩|⟨x,_⟩|⟨x1,x2,x3,x4,x5⟩
    .omega
    .omega
    .exact⟨x2.1,x3⟩
   have e1:ER (DB s (AC p.Xx n))=1:=by
    have:(AC p.Xx n).a=(s:Int):=by omega
    unfold DB;rw[decide_eq_true e.1,decide_eq_true this];rfl
   rw[if_neg (by rw[JY,e.2];exact a0.2)] at H;simp;omega
  .rw[if_neg e]
   have e1:ER (DB s (AC p.Xx n))=0:=by
    unfold DB
    by_cases w2:(AC p.Xx n).w=2
    .have:¬(AC p.Xx n).a=(s:Int):=λh=>e ⟨w2,by omega⟩
     rw[decide_eq_false this];simp[ER]
    .rw[decide_eq_false w2];simp[ER]
   omega
 .intro m hm
  have jO:Bx {p with Vw:=IK p.Vw (Ar p.Vw.Xy).toNat (Be p.low (n/4)).toNat (n%4) row,swap:=sw,Xx:=p.Xx.set n ⟨1,Ar p.Vw.Xy,true⟩} m=if m=n then Iy (Ar p.Vw.Xy) else Bx p m:=by
   unfold Bx
   show Au (IK p.Vw _ _ _ row).mem (Be p.low (m/4)).toNat (m%4)=_
   rw[ek]
   by_cases e:m=n
   .subst e;rw[if_pos ⟨rfl,rfl⟩,if_pos rfl]
   .rw[if_neg (h.tab_ne N hm e),if_neg (eM _ (by omega)),if_neg e]
  unfold Kr;rw[jO]
  show(AC (p.Xx.set n _) m).w=0/\(AC (p.Xx.set n _) m).a=0/\(AC (p.Xx.set n _) m).u=false/\_∨(AC (p.Xx.set n _) m).w=1/\_/\_=Iy (AC (p.Xx.set n _) m).a/\LU _ (AC (p.Xx.set n _) m).a.toNat∨(AC (p.Xx.set n _) m).w=2/\_/\AH sw (AC (p.Xx.set n _) m).a.toNat≠[]/\(AC (p.Xx.set n _) m).u=false/\_
  rw[il m]
  by_cases e:m=n
  .simp only[if_pos e]
   exact .inr (.inl ⟨by simp,⟨hf,by show Ar p.Vw.Xy<=11;omega⟩,by simp,mu⟩)
  .simp only[if_neg e]
   rcases h.Xx m hm with x|⟨x1,x2,x3,x4⟩|⟨x1,x2,x3,x4,x5⟩
   .exact .inl x
   .exact .inr (.inl ⟨x1,x2,x3,cl _ (iC m hm x1) x4⟩)
   .refine .inr (.inr ⟨x1,x2,?_,x4,x5⟩)
    rw[eK,if_neg (eh m hm e x1)];exact x3
 .show(As (p.Xx.set n _) 1:Int)<=p.UQ
  omega
 .intro a ha
  unfold EL
  show(if(AC (p.Xx.set n _) (a/4)).w=1 then Au (IK p.Vw _ _ _ row).mem (AC (p.Xx.set n _) (a/4)).a.toNat (a%4) else if(AC (p.Xx.set n _) (a/4)).w=2 then Au sw (AC (p.Xx.set n _) (a/4)).a.toNat (a%4) else 0)=_
  rw[il (a/4)]
  by_cases e:a/4=n
  .subst e
   rw[if_pos rfl,if_pos (show(1:Int)=1 from rfl),ek,if_neg (λe'=>eM (a/4/4) (by omega) e'.1.symm),if_pos rfl,if_neg hw,<-hR]
   by_cases w2:(AC p.Xx (a/4)).w=2
   .rw[if_pos w2,if_pos w2];rfl
   .rw[if_neg w2,if_neg w2]
    have:a%4=0∨a%4=1∨a%4=2∨a%4=3:=by omega
    rcases this with h|h|h|h<;>rw[h]<;>rfl
  .rw[if_neg e]
   by_cases w1:(AC p.Xx (a/4)).w=1
   .rw[if_pos w1,if_pos w1,ek,if_neg (λe'=>h.zr (i:=n/4) (n:=a/4) (by omega) w1 (by omega) e'.1.symm),if_neg (iC _ (by omega) w1)]
   .rw[if_neg w1,if_neg w1]
    by_cases w2:(AC p.Xx (a/4)).w=2
    .rw[if_pos w2,if_pos w2]
     unfold Au;rw[eK,if_neg (eh _ (by omega) e w2)]
    .rw[if_neg w2,if_neg w2]
def yW(Il:Int)(i:Nat):Nat:=((i:Int) - Il).toNat+(if(i:Int)<Il then((i:Int)+16 - Il).toNat else 0)
theorem ZX{Il:Int}(h0:0<=Il):yW Il Il.toNat=0:=by
 unfold yW
 split<;>omega
theorem QN{Il:Int}(h0:0<=Il)(A:Il<=15){i:Nat}(E:i<16):yW Il i<16:=by
 unfold yW
 split<;>omega
theorem QO{Il:Int}(h0:0<=Il)(A:Il<=15){i:Nat}(E:i<16)(bX:Il.toNat≠i):yW (FQ Il) i+1=yW Il i:=by
 have e:FQ Il=if Il=15 then 0 else Il+1:=by
  unfold FQ
  split<;>omega
 rw[e];unfold yW
 split
 .subst_vars
  split<;>split<;>omega
 .split<;>split<;>omega
theorem U3{Il:Int}(h0:0<=Il)(A:Il<=15):yW (FQ Il) Il.toNat=15:=by
 have e:FQ Il=if Il=15 then 0 else Il+1:=by
  unfold FQ
  split<;>omega
 rw[e];unfold yW
 split
 .subst_vars
  split<;>omega
 .split<;>omega
theorem Ni{Il:Int}(h0:0<=Il)(A:Il<=15):0<=FQ Il/\FQ Il<=15:=by unfold FQ;omega
theorem J1{Xx:List Bs}{j i:Nat}:(AC (Xx.set j (PR (AC Xx j))) i).w=(AC Xx i).w/\(AC (Xx.set j (PR (AC Xx j))) i).a=(AC Xx i).a/\
 ((AC (Xx.set j (PR (AC Xx j))) i).u=true->(AC Xx i).u=true)/\(i≠j->AC (Xx.set j (PR (AC Xx j))) i=AC Xx i):=by
 rw[Ea]
 by_cases e:i=j/\j<Xx.length
 .rw[if_pos e]
  obtain⟨rfl,_⟩:=e;exact⟨rfl,rfl,(λh=>by cases h),λh=>absurd rfl h⟩
 .rw[if_neg e]
  exact⟨rfl,rfl,λh=>h,λ_=>rfl⟩
structure EA(a b:List Bs):Prop where
 len:b.length=a.length
 w:∀i,(AC b i).w=(AC a i).w
 at':∀i,(AC b i).a=(AC a i).a
 u:∀i,(AC b i).u=true->(AC a i).u=true
theorem EA.refl(a:List Bs):EA a a:=⟨rfl,λ_=>rfl,λ_=>rfl,λ_ h=>h⟩
theorem EA.step{a b:List Bs}{j:Nat}(h:EA (a.set j (PR (AC a j))) b):EA a b:=
 ⟨by rw[h.len,yi],λi=>(h.w i).trans J1.1,λi=>(h.at' i).trans J1.2.1,λi E=>J1.2.2.1 (h.u i E)⟩
theorem Iq:∀(n:Nat)(Xx:List Bs)(Il:Int),EA Xx (Ct n Xx Il).1
 |0,Xx,Il=>EA.refl _
 |n+1,Xx,Il=>by
  unfold Ct
  split
  .exact EA.refl _
  .exact(Iq n _ _).step
theorem KH:∀(n:Nat)(Xx:List Bs)(Il:Int),0<=Il->Il<=15->0<=(Ct n Xx Il).2.1/\(Ct n Xx Il).2.1<=15
 |0,Xx,Il,h0,A=>⟨h0,A⟩
 |n+1,Xx,Il,h0,A=>by
  have:=Ni h0 A;unfold Ct
  split
  .exact this
  .exact KH n _ _ this.1 this.2
theorem JF:∀(n:Nat)(Xx:List Bs)(Il:Int),0<=Il->Il<=15->Xx.length=16->∀i,i<16->(AC Xx i).w=1->
 ((AC Xx i).u=false/\yW Il i+1<=n)∨yW Il i+17<=n->∃m,(Ct n Xx Il).2.2=some m
 |0,Xx,Il,h0,A,hl,i,E,hw,h=>by omega
 |n+1,Xx,Il,h0,A,hl,i,E,hw,h=>by
  unfold Ct
  split
  .exact⟨_,rfl⟩
  .next cy=>
   have N:=Ni h0 A;have hu:=J1 (Xx:=Xx) (j:=Il.toNat) (i:=i);refine JF n _ _ N.1 N.2 (by rw[yi];exact hl) i E (hu.1.trans hw) ?_
   by_cases e:Il.toNat=i
   .subst e
    rw[U3 h0 A];left
    rcases h with⟨h,_⟩|h
    .exact absurd ⟨hw,h⟩ cy
    .refine⟨?_,by omega⟩
     rw[Ea,if_pos ⟨rfl,by omega⟩];rfl
   .have hf:=QO h0 A E e
    rw[hu.2.2.2 (λh=>e h.symm)]
    rcases h with⟨h,h'⟩|h
    .exact .inl ⟨h,by omega⟩
    .exact .inr (by omega)
theorem Jl:∀(n:Nat)(Xx:List Bs)(Il:Int),0<=Il->Il<=15->∀m,(Ct n Xx Il).2.2=some m->m<16/\(AC Xx m).w=1
 |0,Xx,Il,h0,A,m,h=>by cases h
 |n+1,Xx,Il,h0,A,m,h=>by
  unfold Ct at h
  split at h
  .next hy=>
   cases h;exact⟨by omega,hy.1⟩
  .have N:=Ni h0 A
   have:=Jl n _ _ N.1 N.2 m h;exact⟨this.1,J1.1.symm.trans this.2⟩
theorem OA:∀(n:Nat)(Xx:List Bs)(Il:Int),0<=Il->Il<=15->∀i,i<16->(AC Xx i).w=1->(AC Xx i).u=false->∀m,(Ct n Xx Il).2.2=some m->
 yW Il m<=yW Il i/\(AC Xx m).u=false
 |0,Xx,Il,h0,A,i,E,hw,hu,m,h=>by cases h
 |n+1,Xx,Il,h0,A,i,E,hw,hu,m,h=>by
  unfold Ct at h
  split at h
  .next hy=>
   cases h;rw[ZX h0];exact⟨yu _,hy.2⟩
  .next cy=>
   have N:=Ni h0 A;have e:Il.toNat≠i:=λe=>cy (by rw[e];exact⟨hw,hu⟩)
   have mn:=J1 (Xx:=Xx) (j:=Il.toNat) (i:=i);have lh:=mn.2.2.2 (λh=>e h.symm);have:=OA n _ _ N.1 N.2 i E (by rw[lh];exact hw) (by rw[lh];exact hu) m h;have hm:=Jl n _ _ N.1 N.2 m h;have hf:=QO h0 A E e;have fO:=QN h0 A E;have em:Il.toNat≠m:=λe'=>by subst e';rw[U3 h0 A] at this;omega
   have nG:=QO h0 A hm.1 em;refine⟨by omega,?_⟩;rw[<-J1.2.2.2 (λh=>em h.symm)];exact this.2
theorem Jg{Xx:List Bs}{w:Int}:0<As Xx w↔∃i,i<Xx.length/\(AC Xx i).w=w:=by
 unfold As;rw[List.countP_pos_iff];constructor
 .rintro⟨x,hx,h⟩
  obtain⟨i,E,rfl⟩:=IM (d:=⟨0,0,false⟩) hx;exact⟨i,E,of_decide_eq_true (p:=(AC Xx i).w=w) h⟩
 .rintro⟨i,E,h⟩
  refine⟨Xx.getD i ⟨0,0,false⟩,Di E,?_⟩;exact decide_eq_true (p:=(AC Xx i).w=w) h
theorem Ix{q:Bs->Bool}:∀{a b:List Bs},b.length=a.length->(∀i,q (AC b i)=q (AC a i))->b.countP q=a.countP q
 | [],[],_,_=>rfl
 |x::a,y::b,hl,h=>by
  rw[xA,xA,Ix (by simpa using hl) (λi=>by simpa[AC] using h (i+1))];have:=h 0;simp only[AC,List.getD_cons_zero] at this;rw[this]
theorem EA.count{a b:List Bs}(h:EA a b)(w:Int):As b w=As a w:=Ix h.len λi=>by unfold OY;rw[h.w i]
theorem EA.slots{a b:List Bs}(h:EA a b)(s:Nat):Ch b s=Ch a s:=Ix h.len λi=>by unfold DB;rw[h.w i,h.at' i]
theorem EA.word{b:List Bs}(h:EA p.Xx b)(Il:Int)(a:Nat):EL {p with Xx:=b,Il:=Il} a=EL p a:=by
 unfold EL
 show(if(AC b (a/4)).w=1 then _ else if(AC b (a/4)).w=2 then _ else _)=_
 rw[h.w,h.at']
theorem EA.ok{b:List Bs}(h:EA p.Xx b)(hp:Ec p){Il:Int}(h0:0<=Il)(A:Il<=15):Ec {p with Xx:=b,Il:=Il}:=by
 refine⟨hp.k,hp.zO,hp.zG,hp.may,hp.alone,hp.root,hp.zE,hp.yX,hp.lows,h.len.trans hp.zZ,λs hs=>(h.slots s).trans (hp.slots s hs),λn N=>?_,⟨h0,A⟩,hp.UQ,?_⟩
 .have e:Bx {p with Xx:=b,Il:=Il} n=Bx p n:=rfl
  unfold Kr;rw[e]
  show((AC b n).w=0/\(AC b n).a=0/\(AC b n).u=false/\_)∨((AC b n).w=1/\_/\_=Iy (AC b n).a/\LU _ (AC b n).a.toNat)∨((AC b n).w=2/\_/\AH p.swap (AC b n).a.toNat≠[]/\(AC b n).u=false/\_)
  rw[h.w,h.at'];have hu:=h.u n;have un:(AC p.Xx n).u=false->(AC b n).u=false:=λx=>by
   cases J:(AC b n).u
   .rfl
   .rw[hu J] at x;cases x
  rcases hp.Xx n N with⟨x1,x2,x3,x4⟩|x|⟨x1,x2,x3,x4,x5⟩
  .exact .inl ⟨x1,x2,un x3,x4⟩
  .exact .inr (.inl x)
  .exact .inr (.inr ⟨x1,x2,x3,un x4,x5⟩)
 .show(As b 1:Int)<=p.UQ
  rw[h.count];exact hp.count
theorem Ik{Xx:List Bs}{m:Nat}:(AC (Fg Xx n) m).w=(AC Xx m).w/\(AC (Fg Xx n) m).a=(AC Xx m).a/\(m≠n->(AC (Fg Xx n) m)=AC Xx m):=by
 unfold Fg;rw[Ea]
 by_cases e:m=n/\n<Xx.length
 .rw[if_pos e]
  obtain⟨rfl,_⟩:=e;exact⟨rfl,rfl,λh=>absurd rfl h⟩
 .rw[if_neg e]
  exact⟨rfl,rfl,λ_=>rfl⟩
theorem cj(h:Ec p){n:Nat}(N:n<16)(hw:(AC p.Xx n).w=1):Ec {p with Xx:=Fg p.Xx n}:=by
 have a8:(Fg p.Xx n).length=p.Xx.length:=by unfold Fg;rw[yi]
 refine⟨h.k,h.zO,h.zG,h.may,h.alone,h.root,h.zE,h.yX,h.lows,a8.trans h.zZ,λs hs=>?_,λm hm=>?_,h.Il,h.UQ,?_⟩
 .have:Ch (Fg p.Xx n) s=Ch p.Xx s:=Ix a8 λi=>by unfold DB;rw[Ik.1,Ik.2.1]
  rw[this];exact h.slots s hs
 .have e:Bx {p with Xx:=Fg p.Xx n} m=Bx p m:=rfl
  unfold Kr;rw[e]
  show((AC (Fg p.Xx n) m).w=0/\(AC (Fg p.Xx n) m).a=0/\(AC (Fg p.Xx n) m).u=false/\_)∨((AC (Fg p.Xx n) m).w=1/\_/\_=Iy (AC (Fg p.Xx n) m).a/\LU _ (AC (Fg p.Xx n) m).a.toNat)∨((AC (Fg p.Xx n) m).w=2/\_/\AH p.swap (AC (Fg p.Xx n) m).a.toNat≠[]/\(AC (Fg p.Xx n) m).u=false/\_)
  rw[Ik.1,Ik.2.1]
  rcases h.Xx m hm with⟨x1,x2,x3,x4⟩|x|⟨x1,x2,x3,x4,x5⟩
  .rw[Ik.2.2 (λe=>by subst e;omega)]
   exact .inl ⟨x1,x2,x3,x4⟩
  .exact .inr (.inl x)
  .rw[Ik.2.2 (λe=>by subst e;omega)]
   exact .inr (.inr ⟨x1,x2,x3,x4,x5⟩)
 .have:As (Fg p.Xx n) 1=As p.Xx 1:=Ix a8 λi=>by unfold OY;rw[Ik.1]
  show(As (Fg p.Xx n) 1:Int)<=p.UQ
  rw[this];exact h.count
structure aW(p q:AR)(n:Nat):Prop where
 ok:Ec q
 w:(AC q.Xx n).w=1
 u:(AC q.Xx n).u=true
 words:∀a,a<64->EL q a=EL p a
 UQ:q.UQ=p.UQ
 one:∃m,(m=n∨((AC p.Xx m).w=1/\(AC q.Xx m).w=2/\(Ar p.Vw.Xy<0∨(As p.Xx 1:Int)=p.UQ)))/\∀i,i<16->i≠n->i≠m->(AC q.Xx i).w=(AC p.Xx i).w/\(AC q.Xx i).a=(AC p.Xx i).a
 used:∀i,i<16->(AC p.Xx i).w=1->(AC p.Xx i).u=true->(AC q.Xx i).w=2->∀j,j<16->(AC p.Xx j).w=1->(AC p.Xx j).u=true
theorem Vk(h:Ec p){n:Nat}(N:n<16):(CJ p n).2=false↔(Ar p.Vw.Xy<0/\As p.Xx 1=0):=by
 by_cases hw:(AC p.Xx n).w=1
 .unfold CJ
  rw[if_pos hw];have:=Jg.2 ⟨n,by rw[h.zZ];exact N,hw⟩;constructor
  .intro x;cases x
  .intro x;omega
 .by_cases cy:Ar p.Vw.Xy<0/\As p.Xx 1=0
  .unfold CJ
   rw[if_neg hw,if_pos cy];exact⟨λ_=>cy,λ_=>rfl⟩
  .refine⟨λx=>?_,λx=>absurd x cy⟩
   exfalso;unfold CJ at x;rw[if_neg hw,if_neg cy] at x
   by_cases hf:Jt p=true
   .rw[if_pos hf] at x
    have hc:0<As p.Xx 1:=by
     rcases wC (As p.Xx 1) with h0|h0
     .exfalso
      unfold Jt at hf;simp only[xP,decide_eq_true_eq] at hf;have:=h.UQ
      rcases hf with hf|hf
      .exact cy ⟨hf,h0⟩
      .omega
     .exact h0
    obtain⟨i,E,j1⟩:=Jg.1 hc;rw[h.zZ] at E;obtain⟨m,hm⟩:=JF 32 p.Xx p.Il h.Il.1 h.Il.2 h.zZ i E j1 (.inr (by have:=QN h.Il.1 h.Il.2 E;omega));have hU:=Iq 32 p.Xx p.Il;have hH:=KH 32 p.Xx p.Il h.Il.1 h.Il.2;have hI:=Jl 32 p.Xx p.Il h.Il.1 h.Il.2 m hm
    revert x hU hH hI hm
    generalize Ct 32 p.Xx p.Il=r;obtain⟨pg,hd,o⟩:=r;intro x hm hU hH hI;cases hm;have h':=hU.ok h hH.1 hH.2;have L:=UM h' hI.1 ((hU.w m).trans hI.2);have jd:n≠m:=λe=>hw (by rw[e];exact hI.2)
    have jb:(AC (Ep {p with Xx:=pg,Il:=hd} m).Xx n).w≠1:=by
     show(AC (pg.set m _) n).w≠1
     rw[Ea,if_neg (λh=>jd h.1),hU.w];exact hw
    have j9:(As (Ep {p with Xx:=pg,Il:=hd} m).Xx 1:Int)+1<=(Ep {p with Xx:=pg,Il:=hd} m).UQ:=by
     have A:As (Ep {p with Xx:=pg,Il:=hd} m).Xx 1+1=As pg 1:=L.2.2.1;have H:As pg 1=As p.Xx 1:=hU.count 1;have h3:=h.count
     show _<=p.UQ
     omega
    have:=(Ty L.1 N jb L.2.2.2 j9).2.1;have x':(Pi (Ep {p with Xx:=pg,Il:=hd} m) n).2=false:=x;rw[this] at x';cases x'
   .rw[if_neg hf] at x
    unfold Jt at hf;simp only[xP,decide_eq_true_eq,not_or] at hf;have:=h.count;have:=(Ty h N hw (by omega) (by omega)).2.1;rw[this] at x;cases x
theorem Ij(h:Ec p){n:Nat}(N:n<16)(cy:(CJ p n).2=false):(CJ p n).1=p:=by
 have A:=(Vk h N).1 cy
 by_cases hw:(AC p.Xx n).w=1
 .unfold CJ at cy
  rw[if_pos hw] at cy;cases cy
 .unfold CJ
  rw[if_neg hw,if_pos A]
theorem Vj(h:Ec p){n:Nat}(hw:(AC p.Xx n).w=1):CJ p n=({p with Xx:=Fg p.Xx n},true):=by unfold CJ;rw[if_pos hw]
theorem Ra(h:Ec p){n:Nat}(N:n<16)(hy:(CJ p n).2=true):aW p (CJ p n).1 n:=by
 by_cases hw:(AC p.Xx n).w=1
 .rw[Vj h hw]
  refine⟨cj h N hw,Ik.1.trans hw,?_,λa _=>?_,rfl,⟨n,.inl rfl,λi _ _ _=>⟨Ik.1,Ik.2.1⟩⟩,λi _ E _ mB=>?_⟩
  .show(AC (Fg p.Xx n) n).u=true
   unfold Fg;rw[Ea,if_pos ⟨rfl,by rw[h.zZ];exact N⟩]
  .unfold EL
   show(if(AC (Fg p.Xx n) (a/4)).w=1 then _ else if(AC (Fg p.Xx n) (a/4)).w=2 then _ else _)=_
   rw[Ik.1,Ik.2.1]
  .have:(AC (Fg p.Xx n) i).w=2:=mB
   rw[Ik.1,E] at this;cases this
 .have cy:¬(Ar p.Vw.Xy<0/\As p.Xx 1=0):=λe=>by
   rw[(Vk h N).2 e] at hy;cases hy
  by_cases hf:Jt p=true
  .have lq:Ar p.Vw.Xy<0∨(As p.Xx 1:Int)=p.UQ:=by
    unfold Jt at hf;simpa using hf
   have hc:0<As p.Xx 1:=by
    rcases wC (As p.Xx 1) with h0|h0
    .exfalso
     have:=h.UQ
     rcases lq with hf|hf
     .exact cy ⟨hf,h0⟩
     .omega
    .exact h0
   obtain⟨i,E,j1⟩:=Jg.1 hc;rw[h.zZ] at E;obtain⟨m,hm⟩:=JF 32 p.Xx p.Il h.Il.1 h.Il.2 h.zZ i E j1 (.inr (by have:=QN h.Il.1 h.Il.2 E;omega));have hU:=Iq 32 p.Xx p.Il;have hH:=KH 32 p.Xx p.Il h.Il.1 h.Il.2;have hI:=Jl 32 p.Xx p.Il h.Il.1 h.Il.2 m hm;have kl:=λi A H h3=>OA 32 p.Xx p.Il h.Il.1 h.Il.2 i A H h3 m hm
   have e:CJ p n=Pi (Ep {p with Xx:=(Ct 32 p.Xx p.Il).1,Il:=(Ct 32 p.Xx p.Il).2.1} m) n:=by
    unfold CJ;rw[if_neg hw,if_neg cy,if_pos hf]
    revert hm
    generalize Ct 32 p.Xx p.Il=r;obtain⟨pg,hd,o⟩:=r;intro hm;cases hm;rfl
   rw[e];clear e hy
   revert hU hH
   generalize(Ct 32 p.Xx p.Il).1=pg;generalize(Ct 32 p.Xx p.Il).2.1=hd;intro hU hH;have h':=hU.ok h hH.1 hH.2;have L:=UM h' hI.1 ((hU.w m).trans hI.2);have jd:n≠m:=λe=>hw (by rw[e];exact hI.2)
   have kZ:∀j,AC (Ep {p with Xx:=pg,Il:=hd} m).Xx j=if j=m then⟨2,Bo p.swap,false⟩ else AC pg j:=λj=>by
    show AC (pg.set m _) j=_
    rw[Ea]
    by_cases e:j=m
    .rw[if_pos ⟨e,by rw[hU.len,h.zZ];exact hI.1⟩,if_pos e]
    .rw[if_neg (λh=>e h.1),if_neg e]
   have jb:(AC (Ep {p with Xx:=pg,Il:=hd} m).Xx n).w≠1:=by rw[kZ,if_neg jd,hU.w];exact hw
   have j9:(As (Ep {p with Xx:=pg,Il:=hd} m).Xx 1:Int)+1<=(Ep {p with Xx:=pg,Il:=hd} m).UQ:=by
    have A:As (Ep {p with Xx:=pg,Il:=hd} m).Xx 1+1=As pg 1:=L.2.2.1;have H:=hU.count 1;have h3:=h.count
    show _<=p.UQ
    omega
   obtain⟨i1,i2,i3,i4,i5⟩:=Ty L.1 N jb L.2.2.2 j9;have eX:∀j,AC (Pi (Ep {p with Xx:=pg,Il:=hd} m) n).1.Xx j=if j=n then⟨1,Ar (Ep {p with Xx:=pg,Il:=hd} m).Vw.Xy,true⟩ else if j=m then⟨2,Bo p.swap,false⟩ else AC pg j:=λj=>by
    rw[i5,Ea]
    by_cases e:j=n
    .rw[if_pos ⟨e,by rw[L.1.zZ];exact N⟩,if_pos e]
    .rw[if_neg (λh=>e h.1),if_neg e,kZ]
   refine⟨i1,?_,?_,λa ha=>?_,?_,⟨m,.inr ⟨hI.2,?_,lq⟩,λj hj A H=>?_⟩,λj hj j0 iq eE=>?_⟩
   .rw[eX,if_pos rfl]
   .rw[eX,if_pos rfl]
   .rw[i3 a ha,L.2.1 a ha,hU.word]
   .rw[(WV L.1 N jb L.2.2.2).1];rfl
   .rw[eX,if_neg (λe=>jd e.symm),if_pos rfl]
   .rw[eX,if_neg A,if_neg H]
    exact⟨hU.w j,hU.at' j⟩
   .rw[eX] at eE
    by_cases e1:j=n
    .rw[if_pos e1] at eE;cases eE
    .rw[if_neg e1] at eE
     by_cases e2:j=m
     .subst e2
      intro x hx mg;cases mh:(AC p.Xx x).u
      .rw[(kl x hx mg mh).2] at iq
       cases iq
      .rfl
     .rw[if_neg e2,hU.w,j0] at eE
      cases eE
  .have e:CJ p n=Pi p n:=by
    unfold CJ;rw[if_neg hw,if_neg cy,if_neg hf]
   rw[e];unfold Jt at hf;simp only[xP,decide_eq_true_eq,not_or] at hf;have:=h.count;have fQ:(As p.Xx 1:Int)+1<=p.UQ:=by omega
   have lm:0<=Ar p.Vw.Xy:=by omega
   obtain⟨i1,i2,i3,i4,i5⟩:=Ty h N hw lm fQ;have eX:∀j,AC (Pi p n).1.Xx j=if j=n then⟨1,Ar p.Vw.Xy,true⟩ else AC p.Xx j:=λj=>by
    rw[i5,Ea]
    by_cases e:j=n
    .rw[if_pos ⟨e,by rw[h.zZ];exact N⟩,if_pos e]
    .rw[if_neg (λh=>e h.1),if_neg e]
   refine⟨i1,?_,?_,i3,?_,⟨n,.inl rfl,λj hj A _=>?_⟩,λj hj j0 iq eE=>?_⟩
   .rw[eX,if_pos rfl]
   .rw[eX,if_pos rfl]
   .rw[(WV h N hw lm).1]
   .rw[eX,if_neg A];exact⟨rfl,rfl⟩
   .rw[eX] at eE
    by_cases e1:j=n
    .rw[if_pos e1] at eE;cases eE
    .rw[if_neg e1,j0] at eE
     cases eE
theorem Ec.walk(h:Ec p){a:Nat}(ha:a<64)(hw:(AC p.Xx (a/4)).w=1):Bv p.Vw.mem (Ab p.Vw 0).toNat a=(0,(AC p.Xx (a/4)).a.toNat,true):=by
 obtain⟨l0,l1,l2,_⟩:=h.lows (a/16) (by omega);obtain⟨x1,x2,x3⟩:=H5 l0 l1
 rcases h.Xx (a/4) (by omega) with⟨y,_⟩|⟨_,b,c,_⟩|⟨y,_⟩
 .omega
 .obtain⟨y1,y2,y3⟩:=H5 b.1 b.2
  have e1:a/4/4=a/16:=by omega
  have c':Au p.Vw.mem (Be p.low (a/16)).toNat (a/4%4)=Iy (AC p.Xx (a/4)).a:=by rw[<-e1];exact c
  unfold Bv;rw[l2,if_pos x1,x2,c',if_pos y1,y2,x3,y3];rfl
 .omega
theorem aO{k:AN}(hk:kind=10∨kind=11){a b:Int}:Ae k (Ai kind a b 0)=Nz k (Ai kind a b 0):=by
 unfold Ae;rw[if_neg (show ¬(Ai kind a b 0).k=1 by show ¬kind=1;omega),if_neg (by rw[show Bh (Ai kind a b 0).k 2 6=false from Tx.2 (by show kind<2∨6<kind;omega)];simp),if_neg (show ¬(Ai kind a b 0).k=7 by show ¬kind=7;omega),
  if_neg (show ¬(Ai kind a b 0).k=8 by show ¬kind=8;omega),if_neg (show ¬(Ai kind a b 0).k=9 by show ¬kind=9;omega),if_pos (show(Ai kind a b 0).k=10∨(Ai kind a b 0).k=11 from hk)]
def KG(c:List Ad)(e p:Int)(f:Nat)(w:Bool):List Ad:=if Gr c e p<0 then JN c ⟨e,p,f,w⟩ else c
theorem Xs{k:AN}{c:AU}:Nz k c=
 if Bh c.a 0 63=false∨(AF k.V3 c.e.toNat).root<0∨(c.k=11/\EB c.b=false) then(k,0,3)
 else if(Bv k.mem (AF k.V3 c.e.toNat).root.toNat c.a.toNat).1≠0 then(k,0,3)
 else if c.k=11/\(Bv k.mem (AF k.V3 c.e.toNat).root.toNat c.a.toNat).2.2=false then(k,0,1)
 else if c.k=11 then({k with mem:=Ci k.mem (Bv k.mem (AF k.V3 c.e.toNat).root.toNat c.a.toNat).2.1 (c.a%4).toNat c.b,V0:=KG k.V0 c.e (c.a/4) (Bv k.mem (AF k.V3 c.e.toNat).root.toNat c.a.toNat).2.1 (Bv k.mem (AF k.V3 c.e.toNat).root.toNat c.a.toNat).2.2},0,0)
 else({k with V0:=KG k.V0 c.e (c.a/4) (Bv k.mem (AF k.V3 c.e.toNat).root.toNat c.a.toNat).2.1 (Bv k.mem (AF k.V3 c.e.toNat).root.toNat c.a.toNat).2.2},Au k.mem (Bv k.mem (AF k.V3 c.e.toNat).root.toNat c.a.toNat).2.1 (c.a%4).toNat,0):=rfl
theorem YX(h:Ec p){a:Nat}(ha:a<64)(hw:(AC p.Xx (a/4)).w=1):
 Ae p.Vw (Ai 10 (a:Int) 0 0)=({p.Vw with V0:=KG p.Vw.V0 0 ((a/4:Nat):Int) (AC p.Xx (a/4)).a.toNat true},Au p.Vw.mem (AC p.Xx (a/4)).a.toNat (a%4),0):=by
 rw[aO (.inl rfl)];have jK:=h.walk ha hw;have hr:=h.root;unfold Nz;have e0:(AF p.Vw.V3 (Ai 10 (a:Int) 0 0).e.toNat).root=Ab p.Vw 0:=rfl;have e1:(Ai 10 (a:Int) 0 0).a.toNat=a:=rfl;have e2:(Ai 10 (a:Int) 0 0).a/4=((a/4:Nat):Int):=by show(a:Int)/4=_;omega
 have e3:((Ai 10 (a:Int) 0 0).a%4).toNat=a%4:=by show((a:Int)%4).toNat=_;omega
 simp only[e0,e1,e2,e3,jK];rw[if_neg,if_neg (by decide),if_neg,if_neg]
 .rfl
 .show ¬(10:Int)=11;decide
 .rintro⟨_,x⟩;cases x
 .rintro(x|x|⟨x,_⟩)
  .rw[show Bh (Ai 10 (a:Int) 0 0).a 0 63=true from AZ.2 ⟨by show(0:Int)<=(a:Int);omega,by show(a:Int)<=63;omega⟩] at x;cases x
  .omega
  .exact absurd (show(10:Int)=11 from x) (by decide)
theorem XO(h:Ec p){a:Nat}(ha:a<64)(hw:(AC p.Xx (a/4)).w=1){w:Int}(ek:EB w=true):
 Ae p.Vw (Ai 11 (a:Int) w 0)=({p.Vw with mem:=Ci p.Vw.mem (AC p.Xx (a/4)).a.toNat (a%4) w,V0:=KG p.Vw.V0 0 ((a/4:Nat):Int) (AC p.Xx (a/4)).a.toNat true},0,0):=by
 rw[aO (.inr rfl)];have jK:=h.walk ha hw;have hr:=h.root;unfold Nz;have e0:(AF p.Vw.V3 (Ai 11 (a:Int) w 0).e.toNat).root=Ab p.Vw 0:=rfl;have e1:(Ai 11 (a:Int) w 0).a.toNat=a:=rfl;have e2:(Ai 11 (a:Int) w 0).a/4=((a/4:Nat):Int):=by show(a:Int)/4=_;omega
 have e3:((Ai 11 (a:Int) w 0).a%4).toNat=a%4:=by show((a:Int)%4).toNat=_;omega
 simp only[e0,e1,e2,e3,jK];rw[if_neg,if_neg (by decide),if_neg,if_pos]
 .rfl
 .rfl
 .rintro⟨_,x⟩;cases x
 .rintro(x|x|⟨_,x⟩)
  .rw[show Bh (Ai 11 (a:Int) w 0).a 0 63=true from AZ.2 ⟨by show(0:Int)<=(a:Int);omega,by show(a:Int)<=63;omega⟩] at x;cases x
  .omega
  .rw[show EB (Ai 11 (a:Int) w 0).b=true from ek] at x;cases x
theorem Ec.V0(h:Ec p){c:List Ad}(hk:DP {p.Vw with V0:=c}):Ec {p with Vw:= {p.Vw with V0:=c}}:=
 ⟨hk,h.zO,h.zG,h.may,h.alone,h.root,h.zE,h.yX,h.lows,h.zZ,h.slots,λn N=>h.Xx n N,h.Il,h.UQ,h.count⟩
theorem bF(h:Ec p){a:Nat}(ha:a<64)(hy:(CJ p (a/4)).2=true):
 (LN p a).2.2=true/\(LN p a).2.1=EL p a/\Ec (LN p a).1/\∀b,b<64->EL (LN p a).1 b=EL p b:=by
 have T:=Ra h (n:=a/4) (by omega) hy;have hd:=YX T.ok ha T.w;have hk:=II (k:=(CJ p (a/4)).1.Vw) T.ok.k (kind:=10) (a:=(a:Int)) (b:=0) (c:=0);rw[hd] at hk;unfold LN;simp only[hy,if_true,hd];refine⟨trivial,?_,T.ok.V0 hk,λb J=>?_⟩
 .rw[<-T.words a ha]
  unfold EL;rw[if_pos T.w]
 .rw[<-T.words b J];rfl
theorem Xi(h:Ec p){a:Nat}(ha:a<64)(hy:(CJ p (a/4)).2=false):LN p a=(p,0,false):=by have:=Ij h (n:=a/4) (by omega) hy;unfold LN;simp[hy,this]
theorem Vh(h:Ec p){a:Nat}(ha:a<64){w:Int}(hy:(CJ p (a/4)).2=false):JP p a w=(p,false):=by have:=Ij h (n:=a/4) (by omega) hy;unfold JP;simp[hy,this]
theorem aZ(A:a/4=b/4)(H:a%4=b%4):a=b:=by omega
theorem Ec.put(h:Ec p){a:Nat}(ha:a<64)(hw:(AC p.Xx (a/4)).w=1){w:Int}{c:List Ad}(hk:DP {p.Vw with mem:=Ci p.Vw.mem (AC p.Xx (a/4)).a.toNat (a%4) w,V0:=c}):
 Ec {p with Vw:= {p.Vw with mem:=Ci p.Vw.mem (AC p.Xx (a/4)).a.toNat (a%4) w,V0:=c}}/\
 ∀b,b<64->EL {p with Vw:= {p.Vw with mem:=Ci p.Vw.mem (AC p.Xx (a/4)).a.toNat (a%4) w,V0:=c}} b=if b=a then w else EL p b:=by
 have fk:=h.zS (n:=a/4) (by omega) hw;have ji:∀f i,Au (Ci p.Vw.mem (AC p.Xx (a/4)).a.toNat (a%4) w) f i=if f=(AC p.Xx (a/4)).a.toNat/\i=a%4 then w else Au p.Vw.mem f i:=λf i=>RJ (by rw[h.meml];exact fk.1) (by rw[h.rowl fk.1];omega)
 refine⟨⟨hk,h.zO,h.zG,h.may,h.alone,h.root,h.zE,h.yX,λi E=>?_,h.zZ,h.slots,λn N=>?_,h.Il,h.UQ,h.count⟩,λb J=>?_⟩
 .obtain⟨x1,x2,x3,x4⟩:=h.lows i E
  refine⟨x1,x2,?_,x4⟩
  show Au (Ci p.Vw.mem _ _ w) (Ab p.Vw 0).toNat i=_
  rw[ji,if_neg (λe=>h.zg (n:=a/4) (by omega) hw e.1)];exact x3
 .have e:Bx {p with Vw:= {p.Vw with mem:=Ci p.Vw.mem (AC p.Xx (a/4)).a.toNat (a%4) w,V0:=c}} n=Bx p n:=by
   unfold Bx
   show Au (Ci p.Vw.mem _ _ w) (Be p.low (n/4)).toNat (n%4)=_
   rw[ji,if_neg (λe=>h.zr (n:=a/4) (i:=n/4) (by omega) hw (by omega) e.1)]
  have:=h.Xx n N;unfold Kr at this ⊢;rw[e];exact this
 .unfold EL
  show(if(AC p.Xx (b/4)).w=1 then Au (Ci p.Vw.mem _ _ w) (AC p.Xx (b/4)).a.toNat (b%4) else if(AC p.Xx (b/4)).w=2 then _ else _)=_
  by_cases e:b=a
  .subst e
   rw[if_pos hw,if_pos rfl,ji,if_pos ⟨rfl,rfl⟩]
  .rw[if_neg e]
   by_cases w1:(AC p.Xx (b/4)).w=1
   .rw[if_pos w1,if_pos w1,ji,if_neg]
    rintro⟨x,y⟩;exact e (aZ (h.zm (by omega) (by omega) w1 hw x) y)
   .rw[if_neg w1,if_neg w1]
theorem aK(h:Ec p){a:Nat}(ha:a<64){w:Int}(ek:EB w=true)(hy:(CJ p (a/4)).2=true):
 (JP p a w).2=true/\Ec (JP p a w).1/\(∀b,b<64->EL (JP p a w).1 b=if b=a then w else EL p b)/\(AC (JP p a w).1.Xx (a/4)).w=1:=by
 have T:=Ra h (n:=a/4) (by omega) hy;have hd:=XO T.ok ha T.w ek;have hk:=II (k:=(CJ p (a/4)).1.Vw) T.ok.k (kind:=11) (a:=(a:Int)) (b:=w) (c:=0);rw[hd] at hk;have P:=T.ok.put ha T.w (w:=w) hk;unfold JP;simp only[hy,if_true,hd];refine⟨trivial,P.1,λb J=>?_,T.w⟩;rw[<-T.words b J];exact P.2 b J
theorem Zp(h:Ec p){a:Nat}(ha:a<64):Ec (LN p a).1:=by
 cases hy:(CJ p (a/4)).2
 .rw[Xi h ha hy];exact h
 .exact(bF h ha hy).2.2.1
theorem TT(h:Ec p){a:Nat}(ha:a<64){w:Int}(ek:EB w=true):Ec (JP p a w).1:=by
 cases hy:(CJ p (a/4)).2
 .rw[Vh h ha hy];exact h
 .exact(aK h ha ek hy).2.1
theorem TY(h:Ec p){n:Nat}(N:n<16):Ec (CJ p n).1:=by
 cases hy:(CJ p n).2
 .rw[Ij h N hy];exact h
 .exact(Ra h N hy).ok
def Cb(k:AN)(c:AU)(kind:Int):Int:=
 if Bh c.a 0 11=false∨(Sc k.Xy c.a.toNat).k=0 then 3
 else if CQ (AF k.V3 c.e.toNat).Tj (Sc k.Xy c.a.toNat).g=false then 1
 else if(0<kind/\(Sc k.Xy c.a.toNat).k≠kind)∨(kind=0/\Bi (Sc k.Xy c.a.toNat).k=false) then 3
 else 0
theorem J7{k:AN}{c:AU}(A:2<=c.k)(H:c.k<=6):Ae k c=HZ k c:=by unfold Ae;rw[if_neg (by omega),if_pos (AZ.2 ⟨A,H⟩)]
theorem WA{k:AN}{c:AU}(h:c.k=2):Ae k c=if Cb k c 1=0 then(if(Sc k.Xy c.a.toNat).r≠0 then(k,0,2) else({k with Xy:=k.Xy.set c.a.toNat AV.zero},0,0)) else(k,0,Cb k c 1):=by
 rw[J7 (by omega) (by omega)];unfold HZ Cb Kb FF;rw[h]
 by_cases a1:Bh c.a 0 11=false∨(Sc k.Xy c.a.toNat).k=0
 .rw[if_pos a1,if_pos (by rcases a1 with a1|a1<;>simp[a1])];rfl
 .have b8:=not_or.1 a1
  rw[if_neg a1,if_neg (by simp[b8.1,b8.2])];cases CQ (AF k.V3 c.e.toNat).Tj (Sc k.Xy c.a.toNat).g
  .rfl
  .by_cases a2:(Sc k.Xy c.a.toNat).k=1
   .simp[a2]
   .simp[a2]
theorem WB{k:AN}{c:AU}(h:c.k=3):Ae k c=if Cb k c 1=0 then(if Bh c.b 0 3=false∨EB c.c=false then(k,0,3) else({k with mem:=Ci k.mem c.a.toNat c.b.toNat c.c},0,0)) else(k,0,Cb k c 1):=by
 rw[J7 (by omega) (by omega)];unfold HZ Cb Kg FF;rw[h]
 by_cases a1:Bh c.a 0 11=false∨(Sc k.Xy c.a.toNat).k=0
 .rw[if_pos a1,if_pos (by rcases a1 with a1|a1<;>simp[a1])];rfl
 .have b8:=not_or.1 a1
  rw[if_neg a1,if_neg (by simp[b8.1,b8.2])];cases CQ (AF k.V3 c.e.toNat).Tj (Sc k.Xy c.a.toNat).g
  .rfl
  .by_cases a2:(Sc k.Xy c.a.toNat).k=1
   .simp[a2]
   .simp[a2]
theorem X2{k:AN}{c:AU}(h:c.k=4∨c.k=5):Ae k c=if Bh c.a 0 11=false∨(Sc k.Xy c.a.toNat).k=0∨(c.k=4/\Bi c.b=false) then(k,0,3)
 else if FF k c.e (Sc k.Xy c.a.toNat).g=false then(k,0,1)
 else Do k (if c.k=4 then F7 k.mem k.Xy c.a.toNat c.b (AF k.V3 c.e.toNat).Tj else Cy k.mem k.Xy c.a.toNat):=by
 rw[J7 (by omega) (by omega)];unfold HZ
 rcases h with h|h<;>simp[h]
def aJ(k:AN)(c:AU):Mq:=
 if Bh c.b 0 3=false∨D6 k c=false then(k,0,3)
 else if(F9 k c.a.toNat).all (λe=>BI k.Xy (Da k c.c) (AF k.V3 e).Tj)=false then(k,0,1)
 else if Bn c.c=true/\FF k c.e (Sc k.Xy (BM c.c)).g=false then(k,0,1)
 else({k with mem:=Ci k.mem c.a.toNat c.b.toNat c.c,Xy:=A7 (A7 k.Xy (Au k.mem c.a.toNat c.b.toNat) (-1)) c.c 1,V0:=(F9 k c.a.toNat).foldl (λc e=>GI c (e:Nat)) k.V0},0,0)
theorem X3{k:AN}{c:AU}(h:c.k=6):Ae k c=if Cb k c 0=0 then aJ k c else(k,0,Cb k c 0):=by
 rw[J7 (by omega) (by omega)];unfold HZ Cb IF aJ FF;rw[h]
 by_cases a1:Bh c.a 0 11=false∨(Sc k.Xy c.a.toNat).k=0
 .rw[if_pos a1,if_pos (by rcases a1 with a1|a1<;>simp[a1])];rfl
 .have b8:=not_or.1 a1
  rw[if_neg a1,if_neg (by simp[b8.1,b8.2])];cases CQ (AF k.V3 c.e.toNat).Tj (Sc k.Xy c.a.toNat).g
  .rfl
  .cases a2:Bi (Sc k.Xy c.a.toNat).k<;>simp
theorem Js{k:AN}{c:AU}(h:Cb k c kind=0):Bh c.a 0 11=true/\(Sc k.Xy c.a.toNat).k≠0/\CQ (AF k.V3 c.e.toNat).Tj (Sc k.Xy c.a.toNat).g=true/\(0<kind->(Sc k.Xy c.a.toNat).k=kind)/\(kind=0->Bi (Sc k.Xy c.a.toNat).k=true):=by
 unfold Cb at h
 by_cases a1:Bh c.a 0 11=false∨(Sc k.Xy c.a.toNat).k=0
 .rw[if_pos a1] at h;cases h
 .rw[if_neg a1] at h
  have b8:=not_or.1 a1;cases hm:CQ (AF k.V3 c.e.toNat).Tj (Sc k.Xy c.a.toNat).g
  .rw[hm] at h;cases h
  .rw[hm,if_neg (by simp)] at h
   by_cases a2:(0<kind/\(Sc k.Xy c.a.toNat).k≠kind)∨(kind=0/\Bi (Sc k.Xy c.a.toNat).k=false)
   .rw[if_pos a2] at h;cases h
   .have lG:=not_or.1 a2
    refine⟨by simpa using b8.1,b8.2,rfl,λh0=>?_,λh0=>?_⟩
    .exact Classical.byContradiction λhx=>lG.1 ⟨h0,hx⟩
    .cases ht:Bi (Sc k.Xy c.a.toNat).k
     .exact absurd ⟨h0,ht⟩ lG.2
     .rfl
def Fm(Xy:List AV)(old:Int):List AV:=if 0<=old then An Xy old.toNat (Ic (-1)) else Xy
def Jz(Xy:List AV)(new:Int):List AV:=if 0<=new then An Xy new.toNat (Ic 1) else Xy
theorem Vf{k:AN}{c:AU}:LP k c=
 if c.a≠ -1/\(Bh c.a 0 11=false∨(Sc k.Xy c.a.toNat).k≠3) then(k,0,3)
 else if BI k.Xy (Ba k.mem c.a) (AF k.V3 c.e.toNat).Tj=false then(k,0,1)
 else({k with Xy:=Jz (Fm k.Xy (AF k.V3 c.e.toNat).root) c.a,V3:=An k.V3 c.e.toNat (Dz c.a),V0:=GI k.V0 c.e},0,0):=rfl
theorem WC{k:AN}{c:AU}(h:c.k=7):Ae k c=LP k c:=by unfold Ae;rw[if_neg (by omega),if_neg (by rw[h];decide),if_pos h]
theorem Us{k:AN}{c:AU}(h:c.k=8):Ae k c=Fa k c:=by unfold Ae;rw[if_neg (by omega),if_neg (by rw[h];decide),if_neg (by omega),if_pos h]
theorem Tp{k:AN}{c:AU}(h:c.k=9):Ae k c=EC k c:=by unfold Ae;rw[if_neg (by omega),if_neg (by rw[h];decide),if_neg (by omega),if_neg (by omega),if_pos h]
theorem X5{k:AN}{c:AU}(h:c.k=10∨c.k=11):Ae k c=Nz k c:=by unfold Ae;rw[if_neg (by omega),if_neg (by rcases h with h|h<;>rw[h]<;>decide),if_neg (by omega),if_neg (by omega),if_neg (by omega),if_pos h]
theorem Ur{k:AN}(h:DP k){e p:Nat}{j:Nat}(hj:j<k.V0.length)(hs:BN (e:Int) (p:Int) (AT k.V0 j)=true){a:Nat}(ha:a/4=p):
 ∃fr:Nat,fr<12/\AT k.V0 j=⟨(e:Int),(p:Int),(fr:Int),(AT k.V0 j).w⟩/\Bv k.mem (AF k.V3 e).root.toNat a=(0,fr,(AT k.V0 j).w):=by
 have hx:AT k.V0 j∈k.V0:=yx (BD hj);have ht:=h.trans _ hx;have hc:=(Ek.1 h.V0).1 _ hx;generalize AT k.V0 j=x at*;obtain⟨xe,xp,xf,xw⟩:=x;simp only[BN,yD,decide_eq_true_eq] at hs;obtain⟨rfl,rfl⟩:=hs;simp only[Bu,yD,AZ] at hc;obtain⟨_,h0,kq⟩:=hc;obtain⟨fr,rfl⟩:∃fr:Nat,xf=(fr:Int):=⟨xf.toNat,by omega⟩
 refine⟨fr,by omega,rfl,?_⟩;simp only[Cs,yD,decide_eq_true_eq,yq] at ht;have e1:Bv k.mem (AF k.V3 e).root.toNat a=Bv k.mem (AF k.V3 e).root.toNat (4*p):=by unfold Bv;rw[show 4*p/16=a/16 by omega,show 4*p/4%4=a/4%4 by omega]
 rw[e1];exact ht.2
theorem Yr{lo g:Nat}{w:World}{m i e c:Value}{k:AN}(h:IT lo w g m i e c k)(au:lo<=w.heap.size)(hK:DP k)(R:AU)(he:0<=R.e)(N:R.e<3):
 Calls prog 99 #[R.on g] w (Ds lo g w (LP k R)):=by
 obtain⟨hn,az⟩:=EH w (.cells (R.onCells g) 83);have S0:=Eb.start h au R;have C0:=AA (λW=>A3 (Dk R.a W));have fX:=Vf (k:=k) (c:=R);obtain⟨k1,e1,a1,b1,c1,nm⟩:=R;obtain⟨en,rfl⟩:∃n:Nat,e1=(n:Int):=⟨e1.toNat,by simp only at he;omega⟩
 have ca:en<3:=by simp only at N;omega
 simp only[AU.on,AU.onCells] at hn az C0 fX S0 ⊢;simp only[yq] at fX;replace fX:=AA fX;obtain⟨y0,y1,y2,y3,y4,y5,y6⟩:=Ef (c:=⟨k1,(en:Int),a1,b1,c1,nm⟩) hn;have hl:=AW hn;have HN:=AA hn;have Z:=AA hK;obtain⟨ge,ao,e9,_,⟨⟨gb,ga⟩,f9,f8⟩,_⟩:=S0.V3 (by rw[hK.zY];omega);rw[hK.zY] at e9;obtain⟨gi,bt,e8,_,_,⟨⟨f7,f6⟩,f5,f4⟩,_⟩:=S0.Xy (by rw[hK.len];omega);rw[hK.len] at e8;subst e8 e9;obtain⟨nv,nw⟩:=S0.infos_envs;have HI:=AA h;have kA:=AA S0;clear hK h hn y1 y2 y4 y5 y6 S0;obtain⟨bad,hbad⟩:∃b',decide (a1≠ -1/\(Bh a1 0 11=false∨(Sc k.Xy a1.toNat).k≠3))=b':=⟨_,rfl⟩
 have HB:=AA hbad;clear hbad;go_in;go_upto_region 2 with fail;generalize hW0:w.alloc _=W0 at*;clear hW0;go_cut [26] (λl8 wx=>l8=.bool bad/\CS lo g w.heap.size ⟨k1,(en:Int),a1,b1,c1,nm⟩ w wx m (.slice (some ⟨gi,0,none⟩) 12 bt) (.slice (some ⟨ge,0,none⟩) 3 ao) c k)
 case first=>
  by_cases e1:a1= -1
  .have t1:(a1 != -1)=false:=by simp[e1]
   have E1:=AA e1;clear e1;go_wp2_with fail;go_meet
   case rel=>exact⟨by rw[<-HB.out];simp[E1.out],kA.out⟩
  have t1:(a1 != -1)=true:=by simp[e1]
  have E1:=AA e1;clear e1;go_wp2_with fail;refine(C0.out W0).mono ?_;rintro r w1 ⟨rfl,be⟩;have S1:=AA (kA.out.below be);clear y0 be;cases e2:Bh a1 0 11
  .have E2:=AA e2
   clear e2;go_wp2_with fail;go_meet
   case rel=>exact⟨by rw[<-HB.out];simp[E1.out,E2.out],S1.out⟩
  have E2:=AA e2;have ab:=AZ.1 e2;obtain⟨Y,rfl⟩:∃n:Nat,a1=(n:Int):=⟨a1.toNat,by omega⟩
  have bN:Y<k.Xy.length:=by rw[Z.out.len];omega
  have iJ:(Y:Int)<12:=by omega
  obtain⟨y0,_,_,_,_,_,_⟩:=S1.out.ys;obtain⟨d0,_,_⟩:=S1.out.Sc bN;have x1:=S1.out.xs.2.1;clear e2 ab
  by_cases e3:(Sc k.Xy Y).k=3
  .have t3:((Sc k.Xy Y).k !=3)=false:=by simp[e3]
   have E3:=AA e3;clear e3;go_wp2_with fail;go_meet
   case rel=>exact⟨by rw[<-HB.out];simp[E1.out,E2.out,E3.out],S1.out⟩
  have t3:((Sc k.Xy Y).k !=3)=true:=by simp[e3]
  have E3:=AA e3;clear e3;go_wp2_with fail;go_meet
  case rel=>exact⟨by rw[<-HB.out];simp[E1.out,E2.out,E3.out],S1.out⟩
 case rest=>
 obtain⟨rfl,hS⟩:=hcut;obtain⟨W2,rfl⟩:∃W2,W2=wc:=⟨_,rfl⟩
 have HS:=AA hS;clear y0 hS kA;cases bad
 rotate_left
 .have hi:=AA (fX.out.trans (if_pos (of_decide_eq_true HB.out)))
  clear fX HB;go_wp2_with fail;go_ret;exact Ds.bad hi.out (by decide) HS.out.bel
 have eL:=of_decide_eq_false HB.out;have c5:=AA (fX.out.trans (if_neg eL));have ha: -1<=a1/\a1<12:=by
  by_cases e1:a1= -1
  .omega
  .cases e2:Bh a1 0 11
   .exact absurd ⟨e1,.inl e2⟩ eL
   .have:=AZ.1 e2;omega
 have Ha:=AA ha;clear fX HB eL ha;go_wp2_with fail;have dw:=HS.out.zh;obtain⟨y0,y1,y2,y3,y4,y5,y6⟩:=HS.out.ys;obtain⟨x0,x1,x2,_⟩:=HS.out.xs;obtain⟨bK,b5,h8,h9⟩:=HS.out.lts;obtain⟨ua,uc,D0,_,call⟩:=HS.out.env (j:=en) (by rw[Z.out.zY];exact ca);have CE:=AA (λW (hW:Below W2.heap.size W2 W)=>HS.out.callEnv (en:=en) rfl ca W hW);simp only[AU.on,AU.onCells] at CE;have RM:Bf W2 m k.mem:=HS.out.yT.2.2.rd.1;have fW:BW W2 (.slice (some ⟨gi,0,none⟩) 12 bt) k.Xy:=HS.out.yT.2.2.2.1.rd;have CX:=AA (λW (hW:Below W2.heap.size W2 W)=>LG m k.mem a1 W (RM.below hW) (Am Z.out).1 Ha.out.2);have CA:=AA (λW (hW:Below W2.heap.size W2 W) v2 ts (H:Ax W v2 (A4 ts)) (hm:∀g,g∈ts↔g∈Ba k.mem a1)=>by have:=It g _ v2 _ (AF k.V3 en).Tj ts k.Xy W ((hW.cell (p:=⟨g,1,none⟩) b5).trans x1) (BG.below call hW) (BG.below fW hW) H (λf hf=>by have:=zH Ha.out.2 f ((hm f).1 hf);have:=Z.out.len;omega);rw[FO hm] at this;exact this);have hp:=c5.out;generalize gX:BI k.Xy (Ba k.mem a1) (AF k.V3 en).Tj=bb at CA hp;have c5:=AA hp;clear gX RM fW call x1 x2 hp;refine A5 15 94 [.p w.heap.size 0,.p g 0,.a #[.pointer (some ⟨g,0,none⟩),.int .i64 k1,.int .i64 en,.int .i64 a1,.int .i64 b1,.int .i64 c1,.string nm],.p ge (en*2),.p ge (en*2),.p ge (en*2),.v (.slice ua (AF k.V3 en).Tj.length uc),.p w.heap.size 0,.p g 0,.p g 0,.p g 0,.v m,.i a1,.z,.b bb] (λix vv ww=>match ix with
  |13=>Ey W2.heap.size k.mem (a1) ww vv
  |_=>True) ?_ ?_ ?_
 .intro i E o L a wx D z O hg Z
  have dd:=bc O bK y0;have c8:=bc O bK y1;have dm:=bc O bK y2;have fG:=bc O bK y3;have fF:=bc O bK y4;have gR:=bc O bK y5;have gQ:=bc O bK y6;have gP:=bc O dw D0;have gO:=bc O b5 x0
  match i,E with
  |0,_|4,_|5,_|7,_|9,_|10,_|12,_=>exact sP L Z D z
  |1,_|8,_=>exact sL L Z D z (hl:=Nd ‹_›)
  |2,_=>exact sL L Z D z (hl:=dJ ‹_› ‹_› ‹_› ‹_› ‹_› ‹_› ‹_›)
  |3,_=>exact sD L Z D z (CE.out _ O)
  |6,_=>exact sL L Z D z (hl:=KN ‹_›)
  |11,_=>exact sL L Z D z (hl:=GQ ‹_›)
  |13,_=>exact sC L Z D z (CX.out _ O) (by rintro e w_ ⟨v',ts,rfl,hO,bY,_,ad⟩;exact⟨_,rfl,⟨ts,BZ hO O.size,bY⟩,ad⟩)
  |14,_=>clear dd c8 dm fG fF gR gQ gP gO;obtain rfl:=yQ L;have d1:(a.tmps[28]?.getD undef)=.pointer (some ⟨g,0,none⟩):=BY z 1;have d6:(a.tmps[33]?.getD undef)=.slice ua (AF k.V3 en).Tj.length uc:=BY z 6;have fT:Ey W2.heap.size k.mem (a1) wx (a.tmps[40]?.getD undef):=BY z 13;clear z D;generalize e40:a.tmps[40]?.getD undef=v2 at fT;obtain⟨ts,hO,bY⟩:=fT;have kI:=CA.out wx O v2 ts (AG.rd hO) bY;refine yP ?_;go_simp;refine kI.mono ?_;rintro e w_ ⟨rfl,ad⟩;exact Z.out _ _ rfl ad
  |_+15,hq=>omega
 .intro i E vv wz c6 a7 hz
  match i,E with
  |13,_=>exact(Ey.below hz a7)
  |0,_|1,_|2,_|3,_|4,_|5,_|6,_|7,_|8,_|9,_|10,_|11,_|12,_|14,_=>exact hz
  |_+15,hq=>omega
 .intro V wx hR O
  have ei:(V 14)=.bool bb:=Bg hR 14;clear hR;simp only[Aj,Ag,yN,yJ,yK,yI,ei];simp;clear ei;have S1:=AA (HS.out.below O);clear D0 y0 y1 y2 y3 y4 y5 y6 x0;cases bb
  .have hi:=AA (c5.out.trans (if_pos rfl))
   clear c5;go_wp2_with fail;go_ret;exact Ds.bad hi.out (by decide) S1.out.bel
  have dl:=AA (c5.out.trans (if_neg (by simp)));obtain⟨y0,y1,y2,y3,y4,y5,y6⟩:=S1.out.ys;clear c5;go_wp2_with fail;refine(CE.out _ O).mono ?_;rintro r w3 ⟨rfl,dk⟩;have S3:=AA (S1.out.below dk);obtain⟨_,_,_,D1,_⟩:=S3.out.env (j:=en) (by rw[Z.out.zY];exact ca);have hp:=dl.out;have fi:=zL Z.out ca;obtain⟨rt,hrt⟩:∃r,(AF k.V3 en).root=r:=⟨_,rfl⟩
  rw[hrt] at D1 hp fi;have dl:=AA hp;clear y0 y1 y2 y3 y4 y5 y6 O dk hp hrt CE CX CA;go_upto_if 49 with fail;clear D1;obtain⟨U,hU⟩:∃U,Fm k.Xy rt=U:=⟨_,rfl⟩
  have hp:=dl.out;rw[hU] at hp;have dl:=AA hp;have HU:=AA hU;clear hU hp;go_cut [] (λwx=>CS lo g w.heap.size ⟨k1,(en:Int),a1,b1,c1,nm⟩ w wx m (.slice (some ⟨gi,0,none⟩) 12 bt) (.slice (some ⟨ge,0,none⟩) 3 ao) c {k with Xy:=U})
  case first=>
   obtain⟨y0,_,_,_,_,_,_⟩:=S3.out.ys
   by_cases L:rt<0
   .have hu:U=k.Xy:=by rw[<-HU.out];unfold Fm;rw[if_neg (by omega)]
    subst hu;have t5:¬(0:Int)<=rt:=by omega
    clear L;go_wp2_with fail;go_meet;exact S3.out
   .obtain⟨rn,rfl⟩:∃n:Nat,rt=(n:Int):=⟨rt.toNat,by omega⟩
    have jR:rn<12:=by omega
    have hu:U=An k.Xy rn (Ic (-1)):=by rw[<-HU.out];unfold Fm;rw[if_pos (by omega),yq]
    subst hu;have t5:(0:Int)<=(rn:Int):=by omega
    have ja:(rn:Int)<12:=by omega
    obtain⟨_,_,d2⟩:=S3.out.Sc (f:=rn) (by rw[Z.out.len];exact jR);have rf:=Z.out.zb jR;have x1:=S3.out.xs.2.1;have Fr:=S3.out.fzi (rn*3+2);have S4:=AA (S3.out.info Z.out.len.symm (by rw[Z.out.len];exact jR) (-1));clear L fi;go_wp2_with fail;go_meet;exact S4.out
  case rest=>
  obtain⟨W4,rfl⟩:∃W4,W4=wc:=⟨_,rfl⟩
  have S4:=AA hcut;have kR:U.length=12/\∀f,f<12->0 - 1<=(Sc U f).r/\(Sc U f).r<=47:=by
   rw[<-HU.out];unfold Fm
   split
   .refine⟨by rw[Cz,Z.out.len],λf hf=>?_⟩
    have r1:=Z.out.zb hf;rw[Fb]
    split
    .next hx=>have r2:=Z.out.zb (show rt.toNat<12 by omega);show 0 - 1<=(Sc k.Xy _).r+ -1/\(Sc k.Xy _).r+ -1<=47;omega
    .omega
   .exact⟨Z.out.len,λf hf=>by have r1:=Z.out.zb hf;omega⟩
  have jw:=AA kR;have kH:=S4.out.callEnv (en:=en) rfl ca W4 (yO _ _);simp only[AU.on,AU.onCells] at kH;obtain⟨y0,y1,y2,y3,y4,y5,y6⟩:=S4.out.ys;clear hcut kR HU S3;go_wp2_with fail;clear y0 y1 y2 y3 y4 y5 y6;refine kH.mono ?_;rintro r4 w5 ⟨rfl,fb⟩;have S5:=AA (S4.out.below fb);obtain⟨_,_,_,D1,_⟩:=S5.out.env (j:=en) (by show en<k.V3.length;rw[Z.out.zY];exact ca);have Fe:=S5.out.fze (en*2+1);have S6:=AA (S5.out.root Z.out.zY.symm (by show en<k.V3.length;rw[Z.out.zY];exact ca) a1);clear kH fb;go_upto_if 68 with fail;clear D1 Fe;generalize w5.setCell _ _=w6 at*;obtain⟨vs,hV⟩:∃vs,Jz U a1=vs:=⟨_,rfl⟩
  have hp:=dl.out;rw[hV] at hp;have dl:=AA hp;have HV:=AA hV;clear hV hp S5 S4;go_cut [] (λwx=>CS lo g w.heap.size ⟨k1,(en:Int),a1,b1,c1,nm⟩ w wx m (.slice (some ⟨gi,0,none⟩) 12 bt) (.slice (some ⟨ge,0,none⟩) 3 ao) c {k with Xy:=vs,V3:=An k.V3 en (Dz a1)})
  case first=>
   obtain⟨y0,_,_,y3,_,_,_⟩:=S6.out.ys
   by_cases N:0<=a1
   .obtain⟨Y,rfl⟩:∃n:Nat,a1=(n:Int):=⟨a1.toNat,by omega⟩
    have hv:vs=An U Y (Ic 1):=by rw[<-HV.out];unfold Jz;rw[if_pos (by omega),yq]
    subst hv;have bN:Y<12:=by have:=Ha.out;omega
    have iJ:(Y:Int)<12:=by omega
    have x1:=S6.out.xs.2.1;obtain⟨_,_,d2⟩:=S6.out.Sc (f:=Y) (by show Y<U.length;rw[jw.out.1];exact bN);have Fr:=S6.out.fzi (Y*3+2);have nr:=jw.out.2 Y bN;have S7:=AA (S6.out.info (by show 12=U.length;exact jw.out.1.symm) (f:=Y) (by show Y<U.length;rw[jw.out.1];exact bN) 1);simp only at S7 d2;generalize hrv:(Sc U Y).r=rv at*;clear hrv;go_wp2_with fail;go_meet;exact S7.out
   .have hv:vs=U:=by rw[<-HV.out];unfold Jz;rw[if_neg N]
    subst hv;go_wp2_with fail;go_meet;exact S6.out
  case rest=>
  obtain⟨W7,rfl⟩:∃W7,W7=wc:=⟨_,rfl⟩
  have S7:=AA hcut;clear hcut S6 HV;obtain⟨y0,y1,y2,_,_,_,_⟩:=S7.out.ys;obtain⟨x0,_,_,x3⟩:=S7.out.xs;obtain⟨io,gr,h8,h9⟩:=S7.out.lts;have RC:DY W7 c k.V0:=S7.out.yT.2.2.2.2.2.rd;have CD:=AA (λW (hW:Below W7.heap.size W7 W)=>MX c k.V0 (en:Int) W (BG.below RC hW) (Am Z.out).2.2);clear RC x0 y1;go_wp2_with fail;refine A5 13 94 [.p w.heap.size 0,.p g 0,.p w.heap.size 0,.p g 0,.p g 0,.p g 3,.v c,.p w.heap.size 1,.p w.heap.size 2,.i ((en:Int)),.z,.p g 0,.p g 3] (λix vv ww=>match ix with
   |10=>AO W7.heap.size 96 4 AX ww vv (GI k.V0 (en:Int))
   |_=>True) ?_ ?_ ?_
  .intro i E o L a wx D z O hg Z
   have dd:=bc O io y0;have c8:=bc O gr x3;have dm:=bc O io y2
   match i,E with
   |0,_|2,_|4,_|5,_|7,_|8,_|11,_|12,_=>exact sP L Z D z
   |1,_|3,_=>exact sL L Z D z (hl:=Nd ‹_›)
   |6,_=>exact sL L Z D z (hl:=Wk ‹_›)
   |9,_=>exact sL L Z D z (hl:=Fy ‹_›)
   |10,_=>exact sC L Z D z (CD.out _ O) (by rintro e w_ ⟨v',rfl,hO,ad⟩;exact⟨_,rfl,(hO.lower O.size),ad⟩)
  .intro i E vv wz c6 a7 hz
   match i,E with
   |10,_=>exact(AO.below hz a7)
   |0,_|1,_|2,_|3,_|4,_|5,_|6,_|7,_|8,_|9,_|11,_|12,_=>exact hz
  .intro V wx hR O
   have q1:(V 1)=.pointer (some ⟨g,0,none⟩):=Bg hR 1;have eV:AO W7.heap.size 96 4 AX wx (V 10) (GI k.V0 (en:Int)):=Bg hR 10;have ej:(V 11)=.pointer (some ⟨g,0,none⟩):=Bg hR 11;have dp:(V 12)=.pointer (some ⟨g,3,none⟩):=Bg hR 12;clear hR;simp only[Aj,Ag,yN,yJ,yK,yI,q1,ej,dp];simp;generalize V 10=z10 at eV ⊢;clear q1 ej dp;have S8:=AA (S7.out.V0 O eV);have jp:=AK (S7.out.below O).yT.1;have kJ:=(S7.out.below O).xs.2.2.2;obtain⟨_,_,rfl,_,_⟩:=eV.rd.shape;clear eV O y0 y2 x3;go_wp2_with fail;go_ret;exact⟨by rw[dl.out];rfl,λ_=>⟨_,_,_,_,by rw[dl.out];exact S8.out.yT⟩,S8.out.bel⟩
theorem Of{W:World}{q T:Nat}{x y Hd a b c:Value}(h:w'.heap[q]?=some (.cells #[x,y,Hd] T (0,0)))(J:Below W.heap.size W w')(hq:W.heap.size<=q):
 (((w'.setCell ⟨q,0,none⟩ a).setCell ⟨q,1,none⟩ b).setCell ⟨q,2,none⟩ c).heap[q]?=some (.cells #[a,b,c] T (0,0))/\Below W.heap.size W (((w'.setCell ⟨q,0,none⟩ a).setCell ⟨q,1,none⟩ b).setCell ⟨q,2,none⟩ c):=by
 refine⟨?_,((J.setCell hq _).setCell hq _).setCell hq _⟩;have A:=yF w' q 0 _ T a h;have H:=yF _ q 1 _ T b A;have h3:=yF _ q 2 _ T c H;simpa using h3
def Fu(lo:Nat)(b:Bool)(v:Value)(w:World)(f a:Int)(t:Bool):Prop:=∃q,v=.pointer (some ⟨q,0,none⟩)/\lo<=q/\w.heap[q]?=some (.cells (if b then #[.int .i64 f,.int .i64 a,.bool t] else #[.int .i64 0,.int .i64 0,.bool false]) 98 (0,0))
theorem Fu.below{lo:Nat}{b:Bool}{w:World}{f a:Int}{t:Bool}(h:Fu lo b v w f a t)(J:Below w.heap.size w w'):Fu lo b v w' f a t:=by obtain⟨q,h0,A,H⟩:=h;exact⟨q,h0,A,AB H J⟩
theorem Fu.zero{lo q:Nat}{b:Bool}{w:World}{f a:Int}{t:Bool}(J:b=false)(hq:lo<=q)(hh:w.heap[q]?=some (.cells #[.int .i64 0,.int .i64 0,.bool false] 98 (0,0))):Fu lo b (.pointer (some ⟨q,0,none⟩)) w f a t:=⟨q,rfl,hq,by rw[J];exact hh⟩
theorem aN{lo g:Nat}{w:World}{m i e c:Value}{k:AN}(h:IT lo w g m i e c k)(au:lo<=w.heap.size)(hK:DP k)(R:AU)(he:0<=R.e)(N:R.e<3)(hk:R.k=10∨R.k=11):
 Calls prog 102 #[R.on g] w (GF lo g w (Nz k R)):=by
 have S0:=Eb.start h au R;have C0:=AA (λW=>A3 (KL R.a W));have C1:=AA (λW=>A3 (Mw R.b W));have P:=Xs (k:=k) (c:=R);obtain⟨k1,e1,a1,b1,c1,nm⟩:=R;obtain⟨en,rfl⟩:∃n:Nat,e1=(n:Int):=⟨e1.toNat,by simp only at he;omega⟩
 have ca:en<3:=by simp only at N;omega
 simp only[AU.on,AU.onCells] at C0 C1 S0 P hk ⊢;simp only[yq] at P;obtain⟨ge,ao,e9,_,⟨⟨gb,ga⟩,f9,f8⟩,_⟩:=S0.V3 (by rw[hK.zY];omega);rw[hK.zY] at e9;obtain⟨gi,bt,e8,_,_,⟨⟨f7,f6⟩,f5,f4⟩,_⟩:=S0.Xy (by rw[hK.len];omega);rw[hK.len] at e8;obtain⟨gm,bs,e7,_,⟨hZ,hY⟩,hQ,hN⟩:=S0.mems (Am hK).1;subst e7 e8 e9;obtain⟨y0,y1,y2,y3,y4,y5,y6⟩:=S0.ys;have Z:=AA hK;have HS:=AA S0;have CE:=AA (λW (hW:Below (w.alloc (.cells #[.pointer (some ⟨g,0,none⟩),.int .i64 k1,.int .i64 en,.int .i64 a1,.int .i64 b1,.int .i64 c1,.string nm] 83)).heap.size _ W)=>HS.out.callEnv (en:=en) rfl ca W hW);simp only[AU.on,AU.onCells] at CE;clear hK h S0 au he N hk;obtain⟨st,hst⟩:∃b',(k1==11)=b':=⟨_,rfl⟩
 go_in;have fC:=AA hst;have lL:=AA P;clear hst P;go_upto_region 1 with fail;generalize hW0:w.alloc _=W0 at*;clear hW0;go_cut [4] (λs4 wx=>s4=.bool st/\wx=W0)
 case first=>
  cases tk:(k1==11)
  all_goals
   have TK:=fC.out;rw[tk] at TK;subst TK;go_wp2_with fail;go_meet
   case rel=>exact⟨rfl,rfl⟩
 case rest=>
 obtain⟨rfl,rfl⟩:=hcut;obtain⟨W0,rfl⟩:∃W0,W0=wc:=⟨_,rfl⟩
 go_wp2_with fail;refine(CE.out _ (yO _ _)).mono ?_;rintro r W1 ⟨rfl,be⟩;have S1:=AA (HS.out.below be);clear y0 y1 y2 y3 y4 y5 y6;obtain⟨y0,y1,y2,y3,y4,y5,y6⟩:=S1.out.ys;obtain⟨_,_,_,D1,_⟩:=S1.out.env (j:=en) (by rw[Z.out.zY];exact ca);obtain⟨rt,hrt⟩:∃r,(AF k.V3 en).root=r:=⟨_,rfl⟩
 have P:=lL.out;rw[hrt] at P D1;have HR:=AA hrt;clear lL;have HP:=AA P;obtain⟨bad,hbad⟩:∃b',decide (Bh a1 0 63=false∨rt<0∨(k1=11/\EB b1=false))=b':=⟨_,rfl⟩
 have HB:=AA hbad;clear be P hrt hbad;go_upto_region 3 with fail;clear D1;go_cut [4,38] (λs4 l7 wx=>s4=.bool st/\l7=.bool bad/\CS lo g w.heap.size ⟨k1,(en:Int),a1,b1,c1,nm⟩ w wx (.slice (some ⟨gm,0,none⟩) 12 bs) (.slice (some ⟨gi,0,none⟩) 12 bt) (.slice (some ⟨ge,0,none⟩) 3 ao) c k)
 case first=>
  go_wp2_with fail;refine(C0.out W1).mono ?_;rintro r w1 ⟨rfl,be⟩;have S2:=AA (S1.out.below be);clear y0 y1 y2 y3 y4 y5 y6 be;obtain⟨y0,y1,y2,y3,y4,y5,y6⟩:=S2.out.ys;cases e1:Bh a1 0 63
  .have E1:=AA e1
   clear e1;go_wp2_with fail;go_meet
   case rel=>exact⟨rfl,by rw[<-HB.out];simp[E1.out],S2.out⟩
  have E1:=AA e1;clear e1
  by_cases h0:rt<0
  .have H0:=AA h0
   go_wp2_with fail;go_meet
   case rel=>exact⟨rfl,by rw[<-HB.out];simp[H0.out],S2.out⟩
  have H0:=AA h0;cases tk:st
  .have TK:=AA (show k1≠11 by have:=fC.out;rw[tk] at this;simpa using this)
   go_wp2_with fail;go_meet
   case rel=>exact⟨by rw[tk],by rw[<-HB.out];simp[E1.out,H0.out,TK.out],S2.out⟩
  have TK:=AA (show k1=11 by have:=fC.out;rw[tk] at this;simpa using this);go_wp2_with fail;refine(C1.out _).mono ?_;rintro r w2 ⟨rfl,ad⟩;have S3:=AA (S2.out.below ad);clear y0 y1 y2 y3 y4 y5 y6 ad;go_wp2_with fail;go_meet
  case rel=>exact⟨by rw[tk],by rw[<-HB.out];unfold EB;cases hw:Bh b1 0 9999<;>simp[E1.out,H0.out,TK.out,hw],S3.out⟩
 case rest=>
 obtain⟨rfl,rfl,hS⟩:=hcut;obtain⟨W5,rfl⟩:∃W5,W5=wc:=⟨_,rfl⟩
 have S5:=AA hS;clear y0 y1 y2 y3 y4 y5 y6 hS S1;cases bad
 rotate_left
 .have hi:=AA (HP.out.trans (if_pos (of_decide_eq_true HB.out)))
  clear HP HB;go_wp2_with fail;go_ret2;exact GF.bad hi.out (by decide) S5.out.bel
 go_wp2_with fail;have eL:=of_decide_eq_false HB.out;have eW:=HP.out.trans (if_neg eL);have ab:=AZ.1 (show Bh a1 0 63=true by cases e1:Bh a1 0 63;(· exact absurd (.inl e1) eL);(· rfl));obtain⟨Y,rfl⟩:∃n:Nat,a1=(n:Int):=⟨a1.toNat,by omega⟩
 have bN:Y<64:=by omega
 obtain⟨rn,rfl⟩:∃n:Nat,rt=(n:Int):=⟨rt.toNat,by have:¬rt<0:=λx=>eL (.inr (.inl x));omega⟩
 have fi:rn<12:=by have:=zL Z.out ca;rw[HR.out] at this;omega
 simp only[yq] at eW;clear HP HB eL ab;have fD:=λW (hW:Below W5.heap.size W5 W)=>Vr _ k.mem rn Y W (S5.out.yT.2.2.rd.1.below hW) (Am Z.out).1 fi bN
 have ef:=Z.out.zd (e:=en) (a:=Y) ca (by show(0:Int)<=(AF k.V3 en).root;rw[HR.out];omega);unfold IV Lx Ez at fD;unfold Ab at ef;rw[HR.out] at ef;simp only[yq] at ef;obtain⟨a4,ha4e⟩:∃n,n=Y%4:=⟨_,rfl⟩
 simp only[<-ha4e] at fD;have lF:a4<4:=by omega
 rw[show((Y:Int)%4).toNat=a4 by omega] at eW;clear ha4e;generalize hwp:Bv k.mem rn Y=x at*;obtain⟨cp,fp,wp⟩:=x;simp only at fD eW ef;obtain⟨y0,y1,y2,y3,y4,y5,y6⟩:=S5.out.ys;obtain⟨x0,_,_,_⟩:=S5.out.xs;obtain⟨gp,iw,h8,h9⟩:=S5.out.lts
 by_cases e7:cp=0
 rotate_left
 .have hi:=AA (eW.trans (if_pos e7))
  rw[if_neg e7] at fD;have CW:=AA fD;have nR:(cp !=0)=true:=by simp[e7]
  clear fD ef hwp e7 eW;refine Dn 16 121 (λix=>ix==14) [.p w.heap.size 0,.p g 0,.p g 0,.p g 0,.s gm 12 bs,.i ((rn:Int)),.p w.heap.size 1,.p w.heap.size 3,.i ((Y:Int)),.v (.tuple #[.agg #[.int .i64 0,.int .i64 0,.bool false],.int .i64 cp]),.v (.tuple #[.agg #[.int .i64 0,.int .i64 0,.bool false],.int .i64 cp]),.a #[.int .i64 0,.int .i64 0,.bool false],.i cp,.z,.z,.i cp] (λll ix vv ww=>match ix with
   |13=>Fu W5.heap.size (ll 14) vv ww (0) (0) false
   |_=>True) (λll ww=>Below W5.heap.size W5 ww) ?_ ?_ ?_ ?_ ?_ ?_
  .exact A0 (yO _ _) 1
  .intro j hj ll i vv wz c6 E hS iP lx a7 hz
   match j,hj with
   |13,_=>exact(Fu.below (by rw[Fn (by rintro rfl;cases hS)];exact hz) a7)
   |0,_|1,_|2,_|3,_|4,_|5,_|6,_|7,_|8,_|9,_|10,_|11,_|12,_|14,_|15,_=>exact hz
   |_+16,hq=>omega
  .intro ll i wz c6 E hS iP a7 K
   exact K.trans (a7.mono K.size)
  .intro i E hS o L a wx D ll z HL O hg Z
   have dd:=bc O gp y0;have c8:=bc O iw x0;have dm:=bc O gp y3
   match i,E,hS with
   |0,_,_|2,_,_|3,_,_|5,_,_|6,_,_|7,_,_|10,_,_|11,_,_|12,_,_|15,_,_=>exact WP L Z D z HL
   |1,_,_=>exact LY L Z D z HL (hl:=Nd ‹_›)
   |4,_,_=>exact LY L Z D z HL (hl:=GQ ‹_›)
   |8,_,_=>exact LY L Z D z HL (hl:=Fy ‹_›)
   |9,_,_=>exact de L Z D z HL (CW.out _ O)
   |14,_,hs=>cases hs
   |13,_,_=>clear dd c8 dm;obtain rfl:=yQ L;have jD:=Bb HL 14;clear z D;refine yP ?_;go_simp;exact Z.out _ _ (Fu.zero (by rw[Fn (by decide)];exact jD) O.size (yw _ _)) (AJ _ _)
   |_+16,hq,_=>omega
  .intro i E hS o L a wx D ll z HL O hg Z
   match i,E,hS with
   |0,_,hs|1,_,hs|2,_,hs|3,_,hs|4,_,hs|5,_,hs|6,_,hs|7,_,hs|8,_,hs|9,_,hs|10,_,hs|11,_,hs|12,_,hs|13,_,hs|15,_,hs=>cases hs
   |14,_,_=>
    obtain rfl:=yQ L;have fT:Fu W5.heap.size (ll 14) (a.tmps[6]?.getD undef) wx (0) (0) false:=Dc z HL 13;have fA:(a.tmps[50]?.getD undef)=.agg #[.int .i64 0,.int .i64 0,.bool false]:=Dc z HL 11;clear z D;obtain⟨q,ks,gT,b7⟩:=fT;rw[HL.out.1] at b7;replace b7:wx.heap[q]?=some (.cells #[.int .i64 0,.int .i64 0,.bool false] 98 (0,0)):=b7;have c0:=yz _ _ 0 _ _ _ b7;have mS:=yz _ _ 1 _ _ _ b7;have c2:=yz _ _ 2 _ _ _ b7;have fq:=AK b7;have Pl:=AA (Of (W:=W5) (a:=.int .i64 0) (b:=.int .i64 0) (c:=.bool false) b7 O gT);have kD:=AA ks;clear b7;refine yP ?_;go_simp;exact Z.out undef _ trivial Pl.out.2 (λj lg ir dv hu=>match j,ir with
     |0,_|1,_|2,_|3,_|4,_|5,_|6,_|7,_|8,_|9,_|10,_|11,_|12,_|14,_|15,_=>hu
     |13,_=>⟨q,kD.out,gT,by rw[GR];exact Pl.out.1⟩
     |_+16,hq=>absurd hq (by omega))
   |_+16,hq,_=>omega
  .intro V wx ll cF hR O
   have ej:(V 11)=.agg #[.int .i64 0,.int .i64 0,.bool false]:=Bg hR 11;have dp:(V 12)=.int .i64 cp:=Bg hR 12;have b9:Fu W5.heap.size (ll 14) (V 13) wx (0) (0) false:=Bg hR 13;have eU:(V 15)=.int .i64 cp:=Bg hR 15;clear hR;simp only[DQ,Bk,yN,yJ,yK,yI,ej,dp,eU];simp;generalize V 13=z13 at b9 ⊢;clear ej dp eU;have S6:=AA (S5.out.below O);clear x0 y0 y1 y2 y3 y4 y5 y6 O cF b9;go_wp2_with fail;go_ret2;exact GF.bad hi.out (by decide) S6.out.bel
 subst e7;simp only[if_true] at fD;have CW:=AA fD;have jt:=AA (ef rfl).1;have g7:=AA (eW.trans (if_neg (by simp)));clear fD ef hwp eW;refine Dn 16 121 (λix=>ix==14) [.p w.heap.size 0,.p g 0,.p g 0,.p g 0,.s gm 12 bs,.i ((rn:Int)),.p w.heap.size 1,.p w.heap.size 3,.i ((Y:Int)),.v (.tuple #[.agg #[.int .i64 fp,.int .i64 a4,.bool wp],.int .i64 0]),.v (.tuple #[.agg #[.int .i64 fp,.int .i64 a4,.bool wp],.int .i64 0]),.a #[.int .i64 fp,.int .i64 a4,.bool wp],.i 0,.z,.z,.i 0] (λll ix vv ww=>match ix with
  |13=>Fu W5.heap.size (ll 14) vv ww ((fp:Int)) ((a4:Int)) wp
  |_=>True) (λll ww=>Below W5.heap.size W5 ww) ?_ ?_ ?_ ?_ ?_ ?_
 .exact A0 (yO _ _) 1
 .intro j hj ll i vv wz c6 E hS iP lx a7 hz
  match j,hj with
  |13,_=>exact(Fu.below (by rw[Fn (by rintro rfl;cases hS)];exact hz) a7)
  |0,_|1,_|2,_|3,_|4,_|5,_|6,_|7,_|8,_|9,_|10,_|11,_|12,_|14,_|15,_=>exact hz
  |_+16,hq=>omega
 .intro ll i wz c6 E hS iP a7 K
  exact K.trans (a7.mono K.size)
 .intro i E hS o L a wx D ll z HL O hg Z
  have dd:=bc O gp y0;have c8:=bc O iw x0;have dm:=bc O gp y3
  match i,E,hS with
  |0,_,_|2,_,_|3,_,_|5,_,_|6,_,_|7,_,_|10,_,_|11,_,_|12,_,_|15,_,_=>exact WP L Z D z HL
  |1,_,_=>exact LY L Z D z HL (hl:=Nd ‹_›)
  |4,_,_=>exact LY L Z D z HL (hl:=GQ ‹_›)
  |8,_,_=>exact LY L Z D z HL (hl:=Fy ‹_›)
  |9,_,_=>exact de L Z D z HL (CW.out _ O)
  |14,_,hs=>cases hs
  |13,_,_=>clear dd c8 dm;obtain rfl:=yQ L;have jD:=Bb HL 14;clear z D;refine yP ?_;go_simp;exact Z.out _ _ (Fu.zero (by rw[Fn (by decide)];exact jD) O.size (yw _ _)) (AJ _ _)
  |_+16,hq,_=>omega
 .intro i E hS o L a wx D ll z HL O hg Z
  match i,E,hS with
  |0,_,hs|1,_,hs|2,_,hs|3,_,hs|4,_,hs|5,_,hs|6,_,hs|7,_,hs|8,_,hs|9,_,hs|10,_,hs|11,_,hs|12,_,hs|13,_,hs|15,_,hs=>cases hs
  |14,_,_=>
   obtain rfl:=yQ L;have fT:Fu W5.heap.size (ll 14) (a.tmps[6]?.getD undef) wx ((fp:Int)) ((a4:Int)) wp:=Dc z HL 13;have fA:(a.tmps[50]?.getD undef)=.agg #[.int .i64 fp,.int .i64 a4,.bool wp]:=Dc z HL 11;clear z D;obtain⟨q,ks,gT,b7⟩:=fT;rw[HL.out.1] at b7;replace b7:wx.heap[q]?=some (.cells #[.int .i64 0,.int .i64 0,.bool false] 98 (0,0)):=b7;have c0:=yz _ _ 0 _ _ _ b7;have mS:=yz _ _ 1 _ _ _ b7;have c2:=yz _ _ 2 _ _ _ b7;have fq:=AK b7;have Pl:=AA (Of (W:=W5) (a:=.int .i64 fp) (b:=.int .i64 a4) (c:=.bool wp) b7 O gT);have kD:=AA ks;clear b7;refine yP ?_;go_simp;exact Z.out undef _ trivial Pl.out.2 (λj lg ir dv hu=>match j,ir with
    |0,_|1,_|2,_|3,_|4,_|5,_|6,_|7,_|8,_|9,_|10,_|11,_|12,_|14,_|15,_=>hu
    |13,_=>⟨q,kD.out,gT,by rw[GR];exact Pl.out.1⟩
    |_+16,hq=>absurd hq (by omega))
  |_+16,hq,_=>omega
 .intro V wx ll cF hR O
  have ej:(V 11)=.agg #[.int .i64 fp,.int .i64 a4,.bool wp]:=Bg hR 11;have dp:(V 12)=.int .i64 0:=Bg hR 12;have b9:Fu W5.heap.size (ll 14) (V 13) wx ((fp:Int)) ((a4:Int)) wp:=Bg hR 13;have eU:(V 15)=.int .i64 0:=Bg hR 15;clear hR;simp only[DQ,Bk,yN,yJ,yK,yI,ej,dp,eU];simp;generalize V 13=z13 at b9 ⊢;clear ej dp eU;obtain⟨q,rfl,gT,b7⟩:=b9;rw[cF 14 (by decide)] at b7;replace b7:wx.heap[q]?=some (.cells #[.int .i64 fp,.int .i64 a4,.bool wp] 98 (0,0)):=b7;have S6:=AA (S5.out.below O);have jl:=AA b7;clear x0 y0 y1 y2 y3 y4 y5 y6 O cF;obtain⟨W6,rfl⟩:∃W6:World,W6=wx:=⟨_,rfl⟩
  have lV:=yz _ _ 2 _ _ _ b7;clear b7;go_upto_region 8 with fail;go_cut [4,55] (λs4 l6 wx=>s4=.bool st/\l6=.bool (st&&!wp)/\wx=W6)
  case first=>
   cases tk:st
   all_goals
    go_wp2_with fail;go_meet
    case rel=>exact⟨by rw[tk],by rw[tk];rfl,rfl⟩
  case rest=>
  obtain⟨rfl,rfl,rfl⟩:=hcut;obtain⟨W6,rfl⟩:∃w8,w8=wc:=⟨_,rfl⟩
  clear lV;cases ad:(st&&!wp)
  rotate_left
  .have hi:=AA (g7.out.trans (if_pos (by have:=fC.out;subst this;simpa using ad)))
   go_wp2_with fail;go_ret2;exact GF.bad hi.out (by decide) S6.out.bel
  have eW:=g7.out.trans (if_neg (by have:=fC.out;subst this;simpa using ad));have g7:=AA eW;clear eW ad;go_wp2_with fail;obtain⟨y0,_,_,y3,y4,_,_⟩:=S6.out.ys;obtain⟨x0,_,_,_⟩:=S6.out.xs;obtain⟨gw,bp,jA,gU,lr,Dj,fx,⟨⟨hM,hJ⟩,hE,hD⟩,_,_,_⟩:=S6.out.mrow (Am Z.out).1 (f:=fp) jt.out;have z0:=yy (yz _ _ 0 _ _ _ jl.out);have z1:=yy (yz _ _ 1 _ _ _ jl.out);replace y0:=yy y0;replace x0:=yy x0;have Dw:=yy jA;have cC:(fp:Int)<12:=by have:=jt.out;omega
  have nJ:(a4:Int)<4:=by omega
  have fo:=S6.out.lts.1;have HD:=AA Dj;clear Dj fx;refine BV ?_
  repeat(go_big_quiet_step (fail))
  refine BU λwq bq=>?_
  clear z0 z1 y0 x0 Dw;have S7:=AA (S6.out.below bq);have iM:=AA (AB jl.out bq);have Dv:=(bq.cell (p:=⟨gw,a4,none⟩) gU).trans (HD.out a4 lF);replace y3:=(bq.cell (p:=⟨w.heap.size,3,none⟩) fo).trans y3;replace y4:=(bq.cell (p:=⟨w.heap.size,4,none⟩) fo).trans y4;obtain⟨jo,fV,jz,_,_,_,iR,_,_,jj,js⟩:=S7.out.mrow (Am Z.out).1 (f:=fp) jt.out;have dq:=(bq.cell (p:=⟨gm,fp,none⟩) (yM _ _ jA)).trans jA;rw[dq] at jz;have jf:gw=jo:=by simp at jz;exact jz.1
  subst jf;have js:=AA js;have jj:=AA jj;obtain⟨W7,rfl⟩:∃W7:World,W7=wq:=⟨_,rfl⟩
  clear bq HD jz jA dq jl S6 gU;go_upto_if 77 with fail;go_cut [4,9] (λs4 s9 wx=>s4=.bool st/\∃M val,s9=.int .i64 val/\Nz k ⟨k1,(en:Int),(Y:Int),b1,c1,nm⟩=({k with mem:=M,V0:=KG k.V0 (en:Int) ((Y:Int)/4) fp wp},val,0)/\CS lo g w.heap.size ⟨k1,(en:Int),(Y:Int),b1,c1,nm⟩ w wx (.slice (some ⟨gm,0,none⟩) 12 bs) (.slice (some ⟨gi,0,none⟩) 12 bt) (.slice (some ⟨ge,0,none⟩) 3 ao) c {k with mem:=M}/\wx.heap[q]?=some (.cells #[.int .i64 fp,.int .i64 a4,.bool wp] 98 (0,0)))
  case first=>
   cases tk:st
   .have TK:=AA (show ¬k1=11 by have:=fC.out;rw[tk] at this;simpa using this)
    have SS:=AA S7.out;go_wp2_with fail;go_meet
    case rel=>exact⟨by rw[tk],k.mem,Au k.mem fp a4,rfl,g7.out.trans (if_neg TK.out),SS.out,iM.out⟩
   have TK:=AA (show k1=11 by have:=fC.out;rw[tk] at this;simpa using this);have mT:=AA (js.out a4 b1 lF);have mL:=AA (Ap iM.out (Ak W7 gw a4 (.int .i64 b1)) (jj.out q _ _ iM.out (by decide)));have nQ:=iR a4;go_wp2_with fail;go_meet
   case rel=>exact⟨by rw[tk],Ci k.mem fp a4 b1,0,rfl,g7.out.trans (if_pos TK.out),mT.out,mL.out⟩
  case rest=>
  obtain⟨rfl,M,val,rfl,k6,s7,n7⟩:=hcut;have jx:=AA k6;have S7:=AA s7;have iM:=AA n7;clear k6 s7 n7 g7 y3 y4 Dv iR js jj;obtain⟨W7,rfl⟩:∃W7:World,W7=wc:=⟨_,rfl⟩
  obtain⟨_,_,_,y3,_,_,_⟩:=S7.out.ys;have nH:(0:Int)<=(Y:Int):=by omega
  go_wp2_with fail;clear y3;obtain⟨y0,_,y2,y3,_,_,_⟩:=S7.out.ys;obtain⟨_,_,_,x3⟩:=S7.out.xs;obtain⟨io,gr,_,_⟩:=S7.out.lts;have RC:DY W7 c k.V0:=S7.out.yT.2.2.2.2.2.rd;have CF:=AA (λW (hW:Below W7.heap.size W7 W)=>QG c k.V0 (en:Int) ((Y:Int)/4) W (BG.below RC hW));clear RC;refine Ac 10 121 [.p w.heap.size 0,.p g 0,.p g 0,.p g 3,.v c,.p w.heap.size 1,.p w.heap.size 2,.i ((en:Int)),.i (((Y:Int)/4)),.i (Gr k.V0 (en:Int) ((Y:Int)/4))] (λ_ _ _=>True) ?_ ?_
  .intro i E o L a wx D z O hg Z
   match i,E with
   |0,_|2,_|3,_|5,_|6,_|8,_=>exact sP L Z D z
   |1,_=>exact sL L Z D z (hl:=Nd (bc O io y0))
   |4,_=>exact sL L Z D z (hl:=Wk (bc O gr x3))
   |7,_=>exact sL L Z D z (hl:=Fy (bc O io y2))
   |9,_=>exact sD L Z D z (CF.out _ O)
  .intro V wx hR O
   have q9:(V 9)=.int .i64 (Gr k.V0 (en:Int) ((Y:Int)/4)):=Bg hR 9;clear hR;simp only[Aj,Ag,yN,yJ,yK,yI,q9];simp;clear q9;have S8:=AA (S7.out.below O);have m7:=AA (O);clear y0 y2 y3 x3 O
   by_cases ln:Gr k.V0 (en:Int) ((Y:Int)/4)<0
   rotate_left
   .have HU:=AA (show KG k.V0 (en:Int) ((Y:Int)/4) fp wp=k.V0 by unfold KG;rw[if_neg ln])
    go_wp2_with fail;go_ret2;exact⟨by rw[jx.out]<;>rfl,λ_=>⟨_,_,_,_,by rw[jx.out,HU.out];exact S8.out.yT⟩,S8.out.bel⟩
   .have HU:=AA (show KG k.V0 (en:Int) ((Y:Int)/4) fp wp=JN k.V0 ⟨(en:Int),((Y:Int)/4),(fp:Int),wp⟩ by unfold KG;rw[if_pos ln])
    obtain⟨W8,rfl⟩:∃W8:World,W8=wx:=⟨_,rfl⟩
    have jk:=AB iM.out m7.out;obtain⟨y0,_,y2,y3,_,_,_⟩:=S8.out.ys;obtain⟨_,_,_,x3⟩:=S8.out.xs;obtain⟨lb,gq,h8,h9⟩:=S8.out.lts;have kY:=AW jk;have kN:=yz _ _ 0 _ _ _ jk;have kM:=yz _ _ 2 _ _ _ jk;have RC:DY W8 c k.V0:=S8.out.yT.2.2.2.2.2.rd;have lu:Bu ⟨(en:Int),((Y:Int)/4),(fp:Int),wp⟩=true:=by have:=jt.out;simp only[Bu,yD,AZ];omega
    have CP:=AA (λW (hW:Below W8.heap.size W8 W)=>Td c k.V0 ⟨(en:Int),((Y:Int)/4),(fp:Int),wp⟩ W (BG.below RC hW) (Am Z.out).2.2 lu);simp only[Ad.val] at CP;clear RC lu jk;go_wp2_with fail;refine Dn 23 121 (λix=>ix==22) [.p w.heap.size 0,.p g 0,.p w.heap.size 0,.p g 0,.p g 0,.p g 3,.v c,.p w.heap.size 1,.p w.heap.size 2,.i ((en:Int)),.i (((Y:Int)/4)),.p q 0,.i ((fp:Int)),.p q 2,.b wp,.a #[.int .i64 en,.int .i64 (((Y:Int)/4)),.int .i64 fp,.bool wp],.z,.z,.z,.b true,.p g 0,.p g 3,.z] (λll ix vv ww=>match ix with
     |16|17=>∃v',vv=.tuple #[v',.bool true]/\AO W8.heap.size 96 4 AX ww v' (JN k.V0 ⟨(en:Int),((Y:Int)/4),(fp:Int),wp⟩)
     |18=>AO W8.heap.size 96 4 AX ww vv (JN k.V0 ⟨(en:Int),((Y:Int)/4),(fp:Int),wp⟩)
     |_=>True) (λll ww=>Xt W8 lo g w.heap.size ⟨k1,(en:Int),(Y:Int),b1,c1,nm⟩ w (.slice (some ⟨gm,0,none⟩) 12 bs) (.slice (some ⟨gi,0,none⟩) 12 bt) (.slice (some ⟨ge,0,none⟩) 3 ao) {k with mem:=M,V0:=(JN k.V0 ⟨(en:Int),((Y:Int)/4),(fp:Int),wp⟩)} (ll 22) ww) ?_ ?_ ?_ ?_ ?_ ?_
    .exact A0 (yO _ _) 1
    .intro j hj ll i vv wz c6 E hS iP lx a7 hz
     match j,hj with
     |16,_|17,_=>exact(by obtain⟨v',h0,A⟩:=hz;exact⟨v',h0,AO.below A a7⟩)
     |18,_=>exact(AO.below hz a7)
     |0,_|1,_|2,_|3,_|4,_|5,_|6,_|7,_|8,_|9,_|10,_|11,_|12,_|13,_|14,_|15,_|19,_|20,_|21,_|22,_=>exact hz
     |_+23,hq=>omega
    .intro ll i wz c6 E hS iP a7 K
     show Xt _ _ _ _ _ _ _ _ _ _ (Gn ll i 22) _
     rw[Fn (by rintro rfl;cases hS)];exact Xt.grow K a7
    .intro i E hS o L a wx D ll z HL O hg Z
     match i,E,hS with
     |0,_,_|2,_,_|4,_,_|5,_,_|7,_,_|8,_,_|10,_,_|11,_,_|13,_,_|15,_,_|20,_,_|21,_,_=>exact WP L Z D z HL
     |1,_,_|3,_,_=>have dx:=Bb HL 22;rw[dx] at O;replace O:Below W8.heap.size W8 wx:=O;have dd:=bc O lb y0;exact LY L Z D z HL (hl:=Nd ‹_›)
     |6,_,_=>have dx:=Bb HL 22;rw[dx] at O;replace O:Below W8.heap.size W8 wx:=O;have c8:=bc O gq x3;exact LY L Z D z HL (hl:=Wk ‹_›)
     |9,_,_=>have dx:=Bb HL 22;rw[dx] at O;replace O:Below W8.heap.size W8 wx:=O;have dm:=bc O lb y2;exact LY L Z D z HL (hl:=Fy ‹_›)
     |12,_,_=>have dx:=Bb HL 22;rw[dx] at O;replace O:Below W8.heap.size W8 wx:=O;have fG:=bc O kY kN;exact LY L Z D z HL (hl:=Fy ‹_›)
     |14,_,_=>have dx:=Bb HL 22;rw[dx] at O;replace O:Below W8.heap.size W8 wx:=O;have fF:=bc O kY kM;exact LY L Z D z HL (hl:=dj ‹_›)
     |22,_,hs=>cases hs
     |16,_,_=>obtain rfl:=yQ L;have d6:(a.tmps[105]?.getD undef)=c:=Dc z HL 6;have nT:(a.tmps[114]?.getD undef)=.agg #[.int .i64 en,.int .i64 (((Y:Int)/4)),.int .i64 fp,.bool wp]:=Dc z HL 15;have dx:=Bb HL 22;rw[dx] at O;replace O:Below W8.heap.size W8 wx:=O;clear z D;refine yP ?_;go_simp;refine(CP.out _ O).mono ?_;rintro e w_ ⟨v',rfl,hO,ad⟩;exact Z.out _ _ ⟨_,rfl,hO.lower O.size⟩ ad
     |17,_,_=>
      obtain rfl:=yQ L;have lE:∃v',(a.tmps[115]?.getD undef)=.tuple #[v',.bool true]/\AO W8.heap.size 96 4 AX wx v' (JN k.V0 ⟨(en:Int),((Y:Int)/4),(fp:Int),wp⟩):=Dc z HL 16
      have dx:=Bb HL 22;rw[dx] at O;replace O:Below W8.heap.size W8 wx:=O;clear z D;obtain⟨v',lE,hO⟩:=lE;refine yP ?_;go_simp;exact Z.out _ _ ⟨_,rfl,hO⟩ (yO _ _)
     |18,_,_=>
      obtain rfl:=yQ L;have iT:∃v',(a.tmps[98]?.getD undef)=.tuple #[v',.bool true]/\AO W8.heap.size 96 4 AX wx v' (JN k.V0 ⟨(en:Int),((Y:Int)/4),(fp:Int),wp⟩):=Dc z HL 17
      have dx:=Bb HL 22;rw[dx] at O;replace O:Below W8.heap.size W8 wx:=O;clear z D;obtain⟨v',iT,hO⟩:=iT;refine yP ?_;go_simp;exact Z.out _ _ hO (yO _ _)
     |19,_,_=>
      obtain rfl:=yQ L;have iT:∃v',(a.tmps[98]?.getD undef)=.tuple #[v',.bool true]/\AO W8.heap.size 96 4 AX wx v' (JN k.V0 ⟨(en:Int),((Y:Int)/4),(fp:Int),wp⟩):=Dc z HL 17
      clear z D;obtain⟨v',iT,hO⟩:=iT;refine yP ?_;go_simp;exact Z.out _ _ rfl (yO _ _)
     |_+23,hq,_=>omega
    .intro i E hS o L a wx D ll z HL O hg Z
     match i,E,hS with
     |0,_,hs|1,_,hs|2,_,hs|3,_,hs|4,_,hs|5,_,hs|6,_,hs|7,_,hs|8,_,hs|9,_,hs|10,_,hs|11,_,hs|12,_,hs|13,_,hs|14,_,hs|15,_,hs|16,_,hs|17,_,hs|18,_,hs|19,_,hs|20,_,hs|21,_,hs=>cases hs
     |22,_,_=>
      obtain rfl:=yQ L;have lC:(a.tmps[119]?.getD undef)=.pointer (some ⟨g,3,none⟩):=Dc z HL 21;have jq:AO W8.heap.size 96 4 AX wx (a.tmps[116]?.getD undef) (JN k.V0 ⟨(en:Int),((Y:Int)/4),(fp:Int),wp⟩):=Dc z HL 18;clear z D;rw[HL.out.1] at O;replace O:Below W8.heap.size W8 wx:=O;have kJ:=(S8.out.below O).xs.2.2.2;have jp:=AK (S8.out.below O).yT.1;generalize e116:a.tmps[116]?.getD undef=v16 at jq;have S9:=AA (S8.out.V0 O jq);obtain⟨_,_,rfl,_,_⟩:=jq.rd.shape;clear jq;refine yP ?_;go_simp;exact Z.out undef _ trivial (by rw[GR];exact⟨_,S9.out⟩) (λj lg ir dv hu=>match j,ir with
       |0,_|1,_|2,_|3,_|4,_|5,_|6,_|7,_|8,_|9,_|10,_|11,_|12,_|13,_|14,_|15,_|19,_|20,_|21,_|22,_=>hu
       |16,_|17,_=>(by obtain⟨v',h0,A⟩:=hu;exact⟨v',h0,Qo A gq⟩)
       |18,_=>Qo hu gq
       |_+23,hq=>absurd hq (by omega))
     |_+23,hq,_=>omega
    .intro V wx ll cF hR O
     clear hR;simp only[DQ,Bk,yN,yJ,yK,yI];simp;rw[cF 22 (by decide)] at O;obtain⟨c',S9⟩:=O;have S9:=AA S9;clear cF y0 y2 y3 x3 kN kM;go_wp2_with fail;go_ret2;exact⟨by rw[jx.out]<;>rfl,λ_=>⟨_,_,_,_,by rw[jx.out,HU.out];exact S9.out.yT⟩,S9.out.bel⟩
def EV(k:AN)(a j:Nat):List Nat:=(yN j).filter λe=>(Ba k.mem (AF k.V3 e).root).contains a
theorem XW{k:AN}{j:Nat}(h:(Ba k.mem (AF k.V3 j).root).contains a=false):EV k a (j+1)=EV k a j:=by unfold EV;rw[xI,wF];simp only[vS,h,vo];simp
theorem Vn{k:AN}{j:Nat}(h:(Ba k.mem (AF k.V3 j).root).contains a=true):EV k a (j+1)=EV k a j++[j]:=by unfold EV;rw[xI,wF];simp only[vS,h,vo];simp
theorem MB{k:AN}{j:Nat}:(EV k a j).length<=j:=by unfold EV;exact yL (xL _ _) (by simp)
theorem XV{k:AN}{j e:Nat}(h:e∈EV k a j):e<j:=yj.1 (wO.1 h).1
theorem JE{k:AN}:EV k a 3=F9 k a:=rfl
theorem Ro{ts l:List Nat}(h:∀g,g∈ts↔g∈l):(A4 ts).contains (a:Int)=l.contains a:=by rw[xi,vI,vI,LB,h]
def HY(es:List Nat)(c:List Ad):List Ad:=es.foldl (λc e=>GI c (e:Nat)) c
theorem Sj{c:List Ad}(es:List Nat)(h:Bd c=true):Bd (HY es c)=true:=U0 h
theorem Os{es:List Nat}{c:List Ad}{j:Nat}(h:j<es.length):HY (es.take (j+1)) c=GI (HY (es.take j) c) ((es.getD j 0:Nat):Int):=by unfold HY;rw[DF (BD (d:=0) h),vJ];rfl
theorem bU{k:AN}{c:AU}:IF k c=
 if Bi (Sc k.Xy c.a.toNat).k=false∨Bh c.b 0 3=false∨D6 k c=false then(k,0,3)
 else if(F9 k c.a.toNat).all (λe=>BI k.Xy (Da k c.c) (AF k.V3 e).Tj)=false then(k,0,1)
 else if Bn c.c=true/\FF k c.e (Sc k.Xy (BM c.c)).g=false then(k,0,1)
 else({k with mem:=Ci k.mem c.a.toNat c.b.toNat c.c,Xy:=A7 (A7 k.Xy (Au k.mem c.a.toNat c.b.toNat) (-1)) c.c 1,V0:=HY (F9 k c.a.toNat) k.V0},0,0):=rfl
theorem M7{Xy:List AV}(h:A8 Xy=true):Jp Xy 50:=by
 intro f hf;have:=(A1.1 h).2 f (by rw[<-(A1.1 h).1];exact hf);unfold DT at this;simp only[xP,yD,decide_eq_true_eq,AZ] at this
 rcases this with h|h
 .rw[h];decide
 .omega
theorem Jp.refer{Xy:List AV}{b x n:Int}(h:Jp Xy b)(hl:Xy.length=12)(N:n=1∨n= -1):Jp (A7 Xy x n) (b+1):=by
 intro f hf;rw[Co] at hf;have:=h f hf;rw[Fl hl]
 show -(b+1)<=(Sc Xy f).r+n*((ER (Du f x):Nat):Int)/\(Sc Xy f).r+n*((ER (Du f x):Nat):Int)<=b+1
 unfold ER
 split<;>rcases N with rfl|rfl<;>omega
theorem Jp.mono{Xy:List AV}{b b':Int}(h:Jp Xy b)(J:b<=b'):Jp Xy b':=λf hf=>by have:=h f hf;omega
theorem Od{lo:Nat}{w:World}{xs:List Int}{g j:Nat}(h:AG lo w v xs)(K:g<lo):AG lo (w.setCell ⟨g,j,none⟩ u) v xs:=
 Aw h (Ak w g j u) (by
  rcases hv:v.ownBlock with _|b
  .exact .inl rfl
  .refine .inr λe=>?_
   cases e;have:=(yB h g hv).1;omega)
theorem Eb.refer{lo g b0:Nat}{w W:World}{m e c:Value}{k:AN}{ao:Nat}(h:CS lo g b0 R w W m (.slice (some ⟨gi,0,none⟩) 12 ao) e c k)(x n:Int)(hx:x<=9223372036854775807)(hl:k.Xy.length=12)(N:n=1∨n= -1)(hs:Jp k.Xy 1000):
 Calls prog 191 #[R.on g,.int .i64 x,.int .i64 n] W λr w'=>r=.returned (.tuple #[])/\CS lo g b0 R w w' m (.slice (some ⟨gi,0,none⟩) 12 ao) e c {k with Xy:=A7 k.Xy x n}/\W.grownBy w' (some gi):=by
 have kz:=AA (AJ W (.cells (R.onCells g) 83));obtain⟨hn,J⟩:=EH W (.cells (R.onCells g) 83);have A:=h.below J;have eL: -1<=n/\n<=1:=by omega
 have CE:=AA (λW=>FL x W hx);have kO:=A.zq A.yT.2.2.2.1 rfl (by decide) (by decide);obtain⟨eo,b6⟩:=A9 A.yT.2.2.2.1 gi rfl;have iz:gi≠W.heap.size:=by have:=h.zy;omega
 have iG:W.heap.size≠gi:=iz.symm;have jf:g≠W.heap.size:=by have:=h.lts.2.1;omega
 obtain⟨k1,e1,a1,b1,c1,jI⟩:=R;simp only[AU.on,AU.onCells] at hn J A kz ⊢;obtain⟨y0,y1,y2,y3,y4,y5,y6⟩:=Ef (c:=⟨k1,e1,a1,b1,c1,jI⟩) hn;cases K:Bn x
 .have vs:=AA (Eg K)
  have S:=AA (show A7 k.Xy x n=k.Xy by simp[A7,K]);have H1:=AA A;clear K h A hs N y0 y1 y2 y3 y4 y5 y6 hn hl kO b6;go_in;go_wp2_with (go_at_call 121;refine(CE.out _).mono ?_;rintro e w' ⟨rfl,rfl⟩;rw[vs.out]);go_returns;exact⟨rfl,by rw[S.out];exact H1.out,Aa kz.out _⟩
 .have hF:=ET K
  have vs:=AA (Ed K);have S:=AA (show A7 k.Xy x n=An k.Xy (BM x) (Ic n) by unfold A7;rw[K,if_pos rfl]);generalize BM x=f at*;have fO:f<k.Xy.length:=by omega
  obtain⟨s1,s2⟩:=hs f fO;obtain⟨_,_,d2⟩:=A.Sc fO;have T:=AA (A.info hl.symm fO n);have x1:=A.xs.2.1;have Fr:=A.fzi (f*3+2);have j6:(f:Int)<12:=by omega
  clear K h A hs N hn y1 y2 y3 y4 y5 y6 hl kO b6;go_in;go_wp2_with (go_at_call 121;refine(CE.out _).mono ?_;rintro e w' ⟨rfl,rfl⟩;rw[vs.out]);go_returns;exact⟨rfl,by rw[S.out];exact T.out,AP (Aa kz.out _) (Ak _ _ _ _)⟩
theorem aH{lo g:Nat}{w:World}{m i e c:Value}{k:AN}(h:IT lo w g m i e c k)(au:lo<=w.heap.size)(hK:DP k)(R:AU)(he:0<=R.e)(N:R.e<3)(ha:0<=R.a/\R.a<12)(fQ:R.c<=9223372036854775807):
 Calls prog 151 #[R.on g] w (Ds lo g w (IF k R)):=by
 have S0:=Eb.start h au R;have P:=bU (k:=k) (c:=R);obtain⟨k1,e1,a1,b1,c1,nm⟩:=R;obtain⟨en,rfl⟩:∃n:Nat,e1=(n:Int):=⟨e1.toNat,by simp only at he;omega⟩
 obtain⟨Y,rfl⟩:∃n:Nat,a1=(n:Int):=⟨a1.toNat,by simp only at ha;omega⟩
 have ca:en<3:=by simp only at N;omega
 have bN:Y<12:=by simp only at ha;omega
 simp only[AU.on,AU.onCells] at S0 P fQ ⊢;simp only[yq] at P;obtain⟨ge,ao,e9,_,⟨⟨gb,ga⟩,f9,f8⟩,_⟩:=S0.V3 (by rw[hK.zY];omega);rw[hK.zY] at e9;obtain⟨gi,bt,e8,_,_,⟨⟨f7,f6⟩,f5,f4⟩,_⟩:=S0.Xy (by rw[hK.len];omega);rw[hK.len] at e8;obtain⟨gm,bs,e7,_,⟨hZ,hY⟩,hQ,hN⟩:=S0.mems (Am hK).1;subst e7 e8 e9;obtain⟨y0,y1,y2,y3,y4,y5,y6⟩:=S0.ys;have Z:=AA hK;have HS:=AA S0;have HP:=AA P;have nI:(Y:Int)<12:=by omega
 have lU:=AA (λW=>FL c1 W fQ);replace y3:=yy y3;replace y4:=yy y4;replace y5:=yy y5;clear hK h S0 au he N P y0 y1 y2 y6 ha;go_in;go_wp2_with fail;generalize w.alloc _=W0 at*;refine BV ?_
 repeat(go_big_quiet_step (fail))
 refine BU λwq bq=>?_
 clear y3 y4 y5;have S2:=AA (HS.out.below bq);obtain⟨W2,rfl⟩:∃W2:World,W2=wq:=⟨_,rfl⟩
 clear bq;obtain⟨y0,_,_,_,_,_,_⟩:=S2.out.ys;obtain⟨x0,x1,_,_⟩:=S2.out.xs;obtain⟨d0,_,_⟩:=S2.out.Sc (f:=Y) (by rw[Z.out.len];exact bN);have cT:=Uo (w1:=W2) (λW=>Fq (Sc k.Xy Y).k W);have cP:=Uo (w1:=W2) (λW=>Ov b1 W);have cN:=Uo (w1:=W2) (λW=>Lg (Sc k.Xy Y).k W);cases K:Bn c1
 focus
  have vs:=AA (Eg K);have gJ:=AA K;have k8:Da k c1=[]:=by unfold Da;rw[K];rfl
  have mW:=AA k8;have fI:D6 k ⟨k1,(en:Int),(Y:Int),b1,c1,nm⟩=decide (c1=0):=by unfold D6;rw[K];rfl
  clear K k8;go_wp2_with (go_at_call 121;refine(lU.out _).mono ?_;rintro e w' ⟨rfl,rfl⟩;rw[vs.out]);clear x1 d0 y0 x0;cases ht:Bi (Sc k.Xy Y).k
  .rw[ht] at cT
   have hi:=AA (show IF k ⟨k1,(en:Int),(Y:Int),b1,c1,nm⟩=(k,0,3) by rw[HP.out,if_pos (.inl ht)]);refine BV ?_
   repeat(go_big_quiet_step (first|exact cT _ _|exact cP _ _|exact cN _ _))
   refine BU λwq bq=>?_
   go_wp2_with fail;go_ret;exact Ds.bad hi.out (by decide) (S2.out.below bq).bel
  rw[ht] at cT;cases J:Bh b1 0 3
  .rw[J] at cP
   have hi:=AA (show IF k ⟨k1,(en:Int),(Y:Int),b1,c1,nm⟩=(k,0,3) by rw[HP.out,if_pos (.inr (.inl J))]);refine BV ?_
   repeat(go_big_quiet_step (first|exact cT _ _|exact cP _ _|exact cN _ _))
   refine BU λwq bq=>?_
   go_wp2_with fail;go_ret;exact Ds.bad hi.out (by decide) (S2.out.below bq).bel
  rw[J] at cP
  by_cases h0:c1=0
  rotate_left
  .have t0:(c1 !=0)=true:=by simp[h0]
   have hi:=AA (show IF k ⟨k1,(en:Int),(Y:Int),b1,c1,nm⟩=(k,0,3) by rw[HP.out,if_pos (.inr (.inr (by rw[fI];simp[h0])))]);refine BV ?_
   repeat(go_big_quiet_step (first|exact cT _ _|exact cP _ _|exact cN _ _))
   refine BU λwq bq=>?_
   go_wp2_with fail;go_ret;exact Ds.bad hi.out (by decide) (S2.out.below bq).bel
  have t0:(c1 !=0)=false:=by simp[h0]
  have c5:=AA (show IF k ⟨k1,(en:Int),(Y:Int),b1,c1,nm⟩=_ by rw[HP.out,if_neg (by rintro(x|x|x);(· rw[ht] at x;cases x);(· rw[J] at x;cases x);(· rw[fI,h0] at x;cases x))]);obtain⟨bn,rfl⟩:∃n:Nat,b1=(n:Int):=⟨b1.toNat,by have:=(AZ.1 J).1;omega⟩
  have bA:bn<4:=by have:=(AZ.1 J).2;omega
  simp only[yq] at c5;have nX:=AA h0;clear fI ht J h0;refine BV ?_
  repeat(go_big_quiet_step (first|exact cT _ _|exact cP _ _|exact cN _ _))
  refine BU λwq bq=>?_
  clear cT cP cN t0;have S5:=AA (S2.out.below bq);obtain⟨W5,rfl⟩:∃W5:World,W5=wq:=⟨_,rfl⟩
  clear bq S2;have iU:=AA (xv W5 W5.heap.size 3 1);have iU:Hid (AG W5.heap.size W5 (.slice none 0 0) (A4 [])):=AA iU.out;obtain⟨ts,hts⟩:∃ts:List Nat,ts=[]:=⟨_,rfl⟩
  have Hm:=AA (show ∀g,g∈ts↔g∈Da k c1 by rw[hts,mW.out];exact λ_=>Iff.rfl);have Ht:=AA (show ∀g,g∈ts->g<12 by rw[hts];intro g K;cases K);rw[<-hts] at iU;clear hts
 rotate_left
 focus
  have hF:=ET K;have vs:=AA (Ed K);have gJ:=AA K;have fI:D6 k ⟨k1,(en:Int),(Y:Int),b1,c1,nm⟩=decide ((Sc k.Xy (BM c1)).k=(Sc k.Xy Y).k - 1):=by unfold D6;rw[K];rfl
  have h0:c1≠0:=by rintro rfl;cases K
  have t0:(c1 !=0)=true:=by simp[h0]
  have HN:=AA (show Da k c1=BM c1::(if Bi (Sc k.Xy (BM c1)).k then named (AH k.mem (BM c1)) else[]) by unfold Da;rw[K];rfl);clear K;obtain⟨f,hfe⟩:∃f,f=BM c1:=⟨_,rfl⟩
  have HF:=AA hfe.symm;rw[<-hfe] at vs HN fI hF;clear hfe;obtain⟨g0,_,_⟩:=S2.out.Sc (f:=f) (by rw[Z.out.len];exact hF);have j6:(f:Int)<12:=by omega
  go_wp2_with (go_at_call 121;refine(lU.out _).mono ?_;rintro e w' ⟨rfl,rfl⟩;rw[vs.out]);replace y0:=yy y0;replace x1:=yy x1;replace g0:=yy g0;clear d0 x0;cases ht:Bi (Sc k.Xy Y).k
  .rw[ht] at cT
   have hi:=AA (show IF k ⟨k1,(en:Int),(Y:Int),b1,c1,nm⟩=(k,0,3) by rw[HP.out,if_pos (.inl ht)]);refine BV ?_
   repeat(go_big_quiet_step (first|exact cT _ _|exact cP _ _|exact cN _ _))
   refine BU λwq bq=>?_
   go_wp2_with fail;go_ret;exact Ds.bad hi.out (by decide) (S2.out.below bq).bel
  rw[ht] at cT;rw[TA ht] at cN;cases J:Bh b1 0 3
  .rw[J] at cP
   have hi:=AA (show IF k ⟨k1,(en:Int),(Y:Int),b1,c1,nm⟩=(k,0,3) by rw[HP.out,if_pos (.inr (.inl J))]);refine BV ?_
   repeat(go_big_quiet_step (first|exact cT _ _|exact cP _ _|exact cN _ _))
   refine BU λwq bq=>?_
   go_wp2_with fail;go_ret;exact Ds.bad hi.out (by decide) (S2.out.below bq).bel
  rw[J] at cP
  by_cases h0:(Sc k.Xy f).k=(Sc k.Xy Y).k - 1
  rotate_left
  .have t2:((Sc k.Xy f).k !=(Sc k.Xy Y).k - 1)=true:=by simp[h0]
   have hi:=AA (show IF k ⟨k1,(en:Int),(Y:Int),b1,c1,nm⟩=(k,0,3) by rw[HP.out,if_pos (.inr (.inr (by rw[fI];exact decide_eq_false h0)))]);refine BV ?_
   repeat(go_big_quiet_step (first|exact cT _ _|exact cP _ _|exact cN _ _))
   refine BU λwq bq=>?_
   go_wp2_with fail;go_ret;exact Ds.bad hi.out (by decide) (S2.out.below bq).bel
  have t2:((Sc k.Xy f).k !=(Sc k.Xy Y).k - 1)=false:=by simp[h0]
  have c5:=AA (show IF k ⟨k1,(en:Int),(Y:Int),b1,c1,nm⟩=_ by rw[HP.out,if_neg (by rintro(x|x|x);(· rw[ht] at x;cases x);(· rw[J] at x;cases x);(· rw[fI,decide_eq_true h0] at x;cases x))]);obtain⟨bn,rfl⟩:∃n:Nat,b1=(n:Int):=⟨b1.toNat,by have:=(AZ.1 J).1;omega⟩
  have bA:bn<4:=by have:=(AZ.1 J).2;omega
  simp only[yq] at c5;have cC:=hF;clear fI ht J h0 hF;refine BV ?_
  repeat(go_big_quiet_step (first|exact cT _ _|exact cP _ _|exact cN _ _))
  refine BU λwq bq=>?_
  clear cT cP cN t0 t2 y0 x1 g0;have S3:=AA (S2.out.below bq);obtain⟨W3,rfl⟩:∃W3:World,W3=wq:=⟨_,rfl⟩
  clear bq S2;have kv:=AJ W3 (.cells #[.int .i64 f] 3);have O4:=AA (Lw W3 (f:Int));have S4:=AA (S3.out.below kv);have lS:=AA kv;clear kv;obtain⟨y0,_,_,_,_,_,_⟩:=S4.out.ys;obtain⟨x0,x1,_,_⟩:=S4.out.xs;obtain⟨g0,_,_⟩:=S4.out.Sc (f:=f) (by rw[Z.out.len];exact cC);have CT:=AA (λW=>Fq (Sc k.Xy f).k W);go_wp2_with fail;refine(CT.out _).mono ?_;rintro r w9 ⟨rfl,rfl⟩;generalize W3.alloc _=W4 at*;go_upto_if 83 with fail;go_cut [10] (λma wx=>∃ts b3,AG b3 wx ma (A4 ts)/\(∀g,g∈ts↔g∈Da k c1)/\(∀g,g∈ts->g<12)/\CS lo g w.heap.size ⟨k1,(en:Int),(Y:Int),(bn:Int),c1,nm⟩ w wx (.slice (some ⟨gm,0,none⟩) 12 bs) (.slice (some ⟨gi,0,none⟩) 12 bt) (.slice (some ⟨ge,0,none⟩) 3 ao) c k)
  case first=>
   cases jP:Bi (Sc k.Xy f).k
   .go_wp2_with fail
    go_meet
    case rel=>exact⟨[f],_,O4.out,by rw[HN.out,jP];exact λ_=>Iff.rfl,by intro g K;rw[xF] at K;omega,S4.out⟩
   .have RM:=S4.out.yT.2.2.rd.1
    have CN:=Sy _ (.slice (some ⟨W3.heap.size,0,none⟩) 1 1) k.mem [f] W4 RM (Am Z.out).1 (AG.rd O4.out) (by simpa using cC) (by simp);have iK:=Lh (Am Z.out).1 (ns:=[f]) (by simpa using cC);go_wp2_with fail;refine CN.mono ?_;rintro r w5 ⟨v5,t5,rfl,P5,m5,l5,fb⟩;have O5:=AA (show w5.ownsRow W3.heap.size 3 1 (.slice (some ⟨W3.heap.size,0,none⟩) 1 1) 1 ((A4 [f]).map (ym .i64)) from O4.out.below fb);have R5:=AA (show Rd w5 v5 1 t5.length ((A4 t5).map (ym .i64)) by have:=AG.rd P5;unfold Ax at this;rwa [Cn] at this);have mw:W3.heap.size<=w5.heap.size:=yL (by have:=(yB O4.out _ rfl);omega) fb.size;have g5:=AA (S4.out.below fb);have ni:=AA (lS.out.trans (fb.mono lS.out.size));have h5:t5.length<=4:=by simp at iK;omega
    have Hm:=AA (show ∀g,g∈[f]++t5↔g∈Da k c1 by intro g;rw[HN.out,jP,if_pos rfl,wM,xF,List.mem_cons,m5];simp[IE])
    have Ht:=AA (show ∀g,g∈[f]++t5->g<12 by
     intro g K;rw[wM,xF] at K
     rcases K with rfl|K
     .exact cC
     .obtain⟨_,_,K⟩:=Li.1 ((m5 g).1 K)
      exact Fj K)
    clear jP O4 S4 x0 x1 y0 g0 CT RM P5 m5 l5 fb iK CN;go_wp2_with (at_builtin;go_must (refine EX (lo:=W3.heap.size) (v:=.slice (some ⟨W3.heap.size,0,none⟩) 1 1) (n:=1) (xs:=(A4 [f]).map (ym .i64)) (m:=t5.length) (news:=(A4 t5).map (ym .i64)) rfl rfl 3 (.int .i64 0) 1 8 underlying29 Tryz.zT rfl (by decide) rfl O5.out rfl R5.out Lt (by unfold maxLen;omega) (by omega) (by omega) ?_;intro nu W5 i7 gS i6;have y0:=(Hh (o:=0) gS g5.out.lts.1 (Dx O5.out g5.out.yV (by decide))).trans g5.out.ys.1;have x2:=(Hh (o:=2) gS g5.out.lts.2.1 (Dx O5.out g5.out.yT.1 (by decide))).trans g5.out.xs.2.2.1));go_meet
    case rel=>exact⟨[f]++t5,_,NM (a:=[f]) (b:=t5) i7,Hm.out,Ht.out,S3.out.below (ni.out.trans i6)⟩
  case' rest=>
  obtain⟨ts,b3,kP,k9,kS,kK⟩:=hcut;have iU:=AA kP;have Hm:=AA k9;have Ht:=AA kS;have S5:=AA kK;obtain⟨W5,rfl⟩:∃W5:World,W5=wc:=⟨_,rfl⟩
  clear kP k9 kS kK O4 S4 x0 x1 y0 g0 CT
 all_goals
  obtain⟨y0,_,_,_,_,_,_⟩:=S5.out.ys;obtain⟨_,_,x2,_⟩:=S5.out.xs;go_wp2_with fail;clear y0 x2;go_loopw [11,99] (λl9 jG wr=>∃j:Nat,j<=3/\jG=.int .i64 j/\AG W5.heap.size wr l9 (A4 (EV k Y j))/\Below W5.heap.size W5 wr/\∀e,e∈EV k Y j->BI k.Xy (Da k c1) (AF k.V3 e).Tj=true) (λ_ jG _=>3 - (intOf jG).toNat)
  exact⟨0,yu _,rfl,xv _ _ _ _,yO _ _,λe he=>by cases he⟩
  obtain⟨j,hj,rfl,hO,al,cF⟩:=hrel;have eS:=AA cF;clear cF;have mx:=MB (k:=k) (a:=Y) (j:=j);have S6:=AA (S5.out.below al);have HO:=AA hO;have c4:=AA al;obtain⟨fd,fc,rfl,_,_,_⟩:=hO.rd.open;rw[Cn] at HO ⊢;clear hO al
  by_cases ay:j<3
  .obtain⟨ua,uc,kG,kF,R5⟩:=S5.out.env (j:=j) (by rw[Z.out.zY];exact ay)
   have D0:=(c4.out.cell (yM _ _ kG)).trans kG;have D1:=(c4.out.cell (yM _ _ kF)).trans kF;have call:=BG.below R5 c4.out;have m6:=AA R5;clear kG kF R5;obtain⟨NE,iI⟩:=EH wr (.cells #[.slice ua (AF k.V3 j).Tj.length uc,.int .i64 (AF k.V3 j).root] 66);have S7:=AA (S6.out.below iI);have jT:(j:Int)<3:=by omega
   obtain⟨y0,_,_,_,_,_,_⟩:=S7.out.ys;obtain⟨x0,x1,_,_⟩:=S7.out.xs;obtain⟨ec,bw,_,_⟩:=S7.out.lts;have fl:=zL Z.out ay;have RM:=Bf.below S6.out.yT.2.2.rd.1 iI;have fW:BW _ _ k.Xy:=S7.out.yT.2.2.2.1.rd;have R7:=BG.below call iI;have lP:=AA NE;have kX:=AW NE;have n0:=yz _ _ 0 _ _ _ NE;have n1:=yz _ _ 1 _ _ _ NE;have mZ:=AA iI;clear iI NE call;go_wp2_with fail;clear D0 D1;generalize wr.alloc _=W7 at*;obtain⟨qe,hqe⟩:∃q,q=wr.heap.size:=⟨_,rfl⟩
   rw[<-hqe] at lP kX n0 n1 ⊢;have CX:=AA (λW (hW:Below W7.heap.size W7 W)=>LG _ k.mem (AF k.V3 j).root W (RM.below hW) (Am Z.out).1 fl);have iQ:=mZ.out;obtain⟨bu,hbu⟩:∃b,(Ba k.mem (AF k.V3 j).root).contains Y=b:=⟨_,rfl⟩
   have jv:=AA hbu;clear hbu hqe;refine A5 10 188 [.p w.heap.size 0,.p g 0,.p g 0,.p g 0,.s gm 12 bs,.p qe 1,.i ((AF k.V3 j).root),.z,.i ((Y:Int)),.b bu] (λix vv ww=>match ix with
    |7=>Ey wr.heap.size k.mem (AF k.V3 j).root ww vv
    |_=>True) ?_ ?_ ?_
   .intro i E o L a wx D z O hg Z
    match i,E with
    |0,_|2,_|3,_|5,_|8,_=>exact sP L Z D z
    |1,_=>exact sL L Z D z (hl:=Nd (bc O ec y0))
    |4,_=>exact sL L Z D z (hl:=GQ (bc O bw x0))
    |6,_=>exact sL L Z D z (hl:=Fy (bc O kX n1))
    |7,_=>exact sC L Z D z (CX.out _ O) (by rintro e w_ ⟨v',jF,rfl,hO,bY,_,ad⟩;exact⟨_,rfl,⟨jF,BZ hO (yL iQ.size O.size),bY⟩,ad⟩)
    |9,_=>obtain rfl:=yQ L;have d7:Ey wr.heap.size k.mem (AF k.V3 j).root wx (a.tmps[111]?.getD undef):=BY z 7;have d8:(a.tmps[112]?.getD undef)=.int .i64 Y:=BY z 8;clear z D;generalize e111:a.tmps[111]?.getD undef=v2 at d7;obtain⟨jF,hO,bY⟩:=d7;have CC:=A3 (OL v2 jF (Y:Int) wx (AG.rd hO));rw[Ro bY,jv.out] at CC;refine yP ?_;go_simp;refine CC.mono ?_;rintro e w_ ⟨rfl,ad⟩;exact Z.out _ _ rfl ad
   .intro i E vv wz c6 a7 hz
    match i,E with
    |7,_=>exact(Ey.below hz a7)
    |0,_|1,_|2,_|3,_|4,_|5,_|6,_|8,_|9,_=>exact hz
   .intro V wx hR O
    have q9:(V 9)=.bool bu:=Bg hR 9;clear hR;simp only[Aj,Ag,yN,yJ,yK,yI,q9];simp;clear q9;have eA:=iQ.trans (O.mono iQ.size);cases bu
    .have HU:=AA (XW jv.out)
     have iW:=AA (HO.out.below eA);have ju:=AA (c4.out.trans (eA.mono c4.out.size));clear O eA y0 x0 x1 n0 n1 iQ RM fW R7;go_wp2_with fail;go_roundw;exact⟨j+1,by omega,by go_num,by rw[HU.out];exact iW.out,ju.out,by rw[HU.out];exact eS.out⟩;simp[intOf];omega
    .have HU:=AA (Vn jv.out)
     have iq:j∈F9 k Y:=by rw[<-JE];exact wO.2 ⟨yj.2 ay,jv.out⟩
     have iW:=HO.out.below eA;have ju:=AA (c4.out.trans (eA.mono c4.out.size));have b1:=AJ wx (.cells #[.int .i64 j] 3);have O1:=AA (show(wx.alloc (.cells #[.int .i64 j] 3)).ownsRow W5.heap.size 3 1 (.slice fd (EV k Y j).length fc) (EV k Y j).length ((A4 (EV k Y j)).map (ym .i64)) by have:=iW.below b1;unfold AG at this;rwa [Cn] at this);have L1:=AA (show Rd (wx.alloc (.cells #[.int .i64 j] 3)) (.slice (some ⟨wx.heap.size,0,none⟩) 1 1) 1 1 ((A4 [j]).map (ym .i64)) from AG.rd (Lw wx (j:Int)));have s5:=ju.out.size;have eL:=AA (show ∀b,(xB fd (EV k Y j).length fc).ownBlock=some b->W5.heap.size<=b from λb J=>(yB HO.out b J).1);have S8:=AA ((S7.out.below O).below b1);have gL:=AA (AB (AB lP.out O) b1);have Rx:=AA (BG.below (BG.below R7 O) b1);have nK:=AA iW;have nh:=AA (ju.out.trans (b1.mono s5));clear O eA y0 x0 x1 n0 n1 iQ RM fW R7 iW b1;go_wp2_with (at_builtin;go_must (refine EX (lo:=W5.heap.size) (v:=.slice fd (EV k Y j).length fc) (n:=(EV k Y j).length) (xs:=(A4 (EV k Y j)).map (ym .i64)) (m:=1) (news:=(A4 [j]).map (ym .i64)) rfl rfl 3 (.int .i64 0) 1 8 underlying29 Tryz.zT rfl (by decide) rfl O1.out rfl L1.out Lt (by unfold maxLen;omega) (by omega) (by simp;omega) ?_;intro nt W9 i7 gS i6;have y0:=(Hh (o:=0) gS S8.out.lts.1 (Dx O1.out S8.out.yV (by decide))).trans S8.out.ys.1;have n0:=(Hh (o:=0) gS (AW gL.out) (Dx O1.out gL.out (by decide))).trans (yz _ _ 0 _ _ _ gL.out)));have g8:=AA (nh.out.trans i6);have S9:=AA (S5.out.below g8.out);have O9:=AA (NM (a:=EV k Y j) (b:=[j]) i7);have iX:=It g _ _ _ (AF k.V3 j).Tj ts k.Xy W9 S9.out.xs.2.1 (BG.below m6.out g8.out) (BG.below S5.out.yT.2.2.2.1.rd g8.out) (Ax.below (AG.rd iU.out) g8.out) (λg K=>by rw[Z.out.len];exact Ht.out g K);rw[FO Hm.out] at iX;clear y0 n0 i7 gS i6 O1 L1;cases eR:BI k.Xy (Da k c1) (AF k.V3 j).Tj
     .have lK:=AA eR
      have hi:=AA (show IF k ⟨k1,(en:Int),(Y:Int),(bn:Int),c1,nm⟩=(k,0,1) by rw[c5.out,if_pos (xh.2 ⟨j,iq,by rw[eR];decide⟩)]);rw[eR] at iX;clear eR;refine iX.mono ?_;rintro r jC ⟨rfl,eQ⟩;go_wp2_with fail;go_ret;exact Ds.bad hi.out (by decide) (S9.out.below eQ).bel
     .have lK:=AA eR
      rw[eR] at iX;clear eR;refine iX.mono ?_;rintro r jC ⟨rfl,eQ⟩;have mU:=AA (O9.out.below eQ);have np:=AA (g8.out.trans (eQ.mono g8.out.size));clear eQ;go_wp2_with fail;go_roundw
      case rel=>exact⟨j+1,by omega,by go_num,by rw[HU.out];exact mU.out,np.out,λe he=>by
       rw[HU.out,wM,xF] at he
       rcases he with he|rfl
       .exact eS.out e he
       .exact lK.out⟩
      case measure=>simp[intOf];omega
  .obtain rfl:j=3:=by omega
   rw[JE] at HO eS ⊢;obtain⟨us,hus⟩:∃us,us=F9 k Y:=⟨_,rfl⟩
   have mm:us.length<=3:=by rw[hus,<-JE];exact MB
   rw[<-hus] at HO eS ⊢;have dl:=AA (show IF k ⟨k1,(en:Int),(Y:Int),(bn:Int),c1,nm⟩=_ by rw[c5.out,if_neg (by rw[Bool.not_eq_false,yr,<-hus];exact eS.out)]);rw[<-hus] at dl;clear hus mx;obtain⟨W6,rfl⟩:∃W6:World,W6=wr:=⟨_,rfl⟩
   go_wp2_with fail
   first
   |have CM:=Tk (w1:=W6) (λW hW=>VS (S6.out.below hW).yT ⟨k1,(en:Int),(Y:Int),(bn:Int),c1,nm⟩ (Sc k.Xy f).g (by simp) (by rw[Z.out.zY];simp only;omega))
    simp only[AU.on,AU.onCells] at CM;obtain⟨y0,y1,y2,y3,y4,y5,y6⟩:=S6.out.ys;replace y0:=yy y0;replace y1:=yy y1;replace y2:=yy y2;replace y3:=yy y3;replace y4:=yy y4;replace y5:=yy y5;replace y6:=yy y6;have x1:=yy S6.out.xs.2.1;have dg:=yy (S6.out.Sc (f:=f) (by rw[Z.out.len];exact cC)).2.1;cases gg:FF k (en:Int) (Sc k.Xy f).g
    .have lQ:=AA gg
     have hi:=AA (show IF k ⟨k1,(en:Int),(Y:Int),(bn:Int),c1,nm⟩=(k,0,1) by rw[dl.out,if_pos ⟨gJ.out,by rw[HF.out];exact gg⟩]);rw[gg] at CM;clear gg;refine BV ?_
     repeat(go_big_quiet_step (exact CM _ _))
     refine BU λwq bq=>?_
     clear y0 y1 y2 y3 y4 y5 y6 x1 dg;go_wp2_with fail;go_ret;exact Ds.bad hi.out (by decide) (S6.out.below bq).bel
    have lQ:=AA gg;rw[gg] at CM;clear gg;have fe:=AA (show IF k ⟨k1,(en:Int),(Y:Int),(bn:Int),c1,nm⟩=_ by rw[dl.out,if_neg (by rintro⟨_,x⟩;rw[HF.out,lQ.out] at x;cases x)]);refine BV ?_
    repeat(go_big_quiet_step (exact CM _ _))
    refine BU λwq bq=>?_
    clear y0 y1 y2 y3 y4 y5 y6 x1 dg CM
   |have fe:=AA (show IF k ⟨k1,(en:Int),(Y:Int),(bn:Int),c1,nm⟩=_ by rw[dl.out,if_neg (by rintro⟨x,_⟩;rw[gJ.out] at x;cases x)])
    refine BV ?_
    repeat(go_big_quiet_step (fail))
    refine BU λwq bq=>?_
   have S7:=AA (S6.out.below bq);obtain⟨W7,rfl⟩:∃W7:World,W7=wq:=⟨_,rfl⟩
   have lO:=AA (HO.out.below bq);have nA:=yL c4.out.size bq.size;obtain⟨y0,y1,y2,y3,y4,y5,y6⟩:=S7.out.ys;obtain⟨x0,_,_,_⟩:=S7.out.xs;obtain⟨gw,bp,Dw,gU,lr,Dj,fx,⟨⟨hM,hJ⟩,hE,hD⟩,_,hT,SW⟩:=S7.out.mrow (Am Z.out).1 (f:=Y) bN;have Dv:=Dj bn bA;have fz:=fx bn;have S8:=AA (SW bn c1 bA);have kh:(bn:Int)<4:=by omega
   have mq:=AA (Z.out.word (f:=Y) (i:=bn) bN bA);have mC:gw<W5.heap.size:=by obtain⟨jo,fV,gM,j2,_⟩:=S5.out.mrow (Am Z.out).1 (f:=Y) bN;have:=((c4.out.trans (bq.mono c4.out.size)).cell (yM _ _ gM)).trans gM;rw[Dw] at this;simp at this;rw[this.1];exact j2
   have lN:=AA (show AG W5.heap.size (W7.setCell ⟨gw,bn,none⟩ (.int .i64 c1)) (.slice fd us.length fc) (A4 us) from Aw lO.out (Ak _ _ _ _) (by
    rcases hv:(xB fd us.length fc).ownBlock with _|b
    .exact .inl rfl
    .refine .inr λe=>?_
     cases e;have:=(yB lO.out gw hv).1;omega))
   clear bq Dj fx SW hT;go_wp2_with fail;clear y0 y1 y2 y3 y4 y5 y6 x0 Dw Dv fz;generalize W7.setCell _ _=W8 at*;have CR:=S8.out.refer (Au k.mem Y bn) (-1) (by have:=mq.out.2;omega) Z.out.len (.inr rfl) ((M7 (Am Z.out).2.1).mono (by decide));simp only[AU.on,AU.onCells] at CR;refine CR.mono ?_;rintro r w9 ⟨rfl,S9,li⟩;have S9:=AA S9;have mD:=S5.out.zy;have lM:=AA (show AG W5.heap.size w9 (.slice fd us.length fc) (A4 us) from Aw lN.out li (by
    rcases hv:(xB fd us.length fc).ownBlock with _|b
    .exact .inl rfl
    .refine .inr λe=>?_
     cases e;have:=(yB lN.out gi hv).1;omega))
   clear li CR;obtain⟨y0,y1,y2,y3,y4,y5,y6⟩:=S9.out.ys;go_wp2_with fail;clear y0 y1 y2 y3 y4 y5 y6;have CR:=S9.out.refer c1 1 fQ (by simp only[Co];exact Z.out.len) (.inl rfl) (Jp.mono (Jp.refer (M7 (Am Z.out).2.1) Z.out.len (.inr rfl)) (by decide));simp only[AU.on,AU.onCells] at CR;refine CR.mono ?_;rintro r jC ⟨rfl,kw,iA⟩;have kw:=AA kw;have kB:=AA (show AG W5.heap.size jC (.slice fd us.length fc) (A4 us) from Aw lM.out iA (by
    rcases hv:(xB fd us.length fc).ownBlock with _|b
    .exact .inl rfl
    .refine .inr λe=>?_
     cases e;have:=(yB lM.out gi hv).1;omega))
   have mF:=S5.out.lts.2.1;clear iA CR;go_wp2_with fail;go_loopw [172] (λfY wr=>∃j:Nat,j<=us.length/\fY=.int .i64 j/\AG W5.heap.size wr (.slice fd us.length fc) (A4 us)/\∃c',CS lo g w.heap.size ⟨k1,(en:Int),(Y:Int),(bn:Int),c1,nm⟩ w wr (.slice (some ⟨gm,0,none⟩) 12 bs) (.slice (some ⟨gi,0,none⟩) 12 bt) (.slice (some ⟨ge,0,none⟩) 3 ao) c' {k with mem:=Ci k.mem Y bn c1,Xy:=A7 (A7 k.Xy (Au k.mem Y bn) (-1)) c1 1,V0:=HY (us.take j) k.V0}) (λfY _=>us.length - (intOf fY).toNat)
   exact⟨0,yu _,rfl,kB.out,c,kw.out⟩
   obtain⟨j,hj,rfl,hO,c',hS⟩:=hrel;have HOr:=AA hO;have S:=AA hS;clear hS
   by_cases ay:j<us.length
   .obtain⟨ax,cx,jM,_,_,H0⟩:=hO.rd.open
    rw[Cn] at jM;simp only[xS] at jM;obtain⟨rfl,_,rfl⟩:=jM;obtain⟨bx,mb,rfl,DX⟩:=H0.at (k:=j) (by rw[Cn];exact ay);rw[Qg ay] at DX;obtain⟨un,hun⟩:∃u,u=us.getD j 0:=⟨_,rfl⟩
    rw[<-hun] at DX;have m0:=AA hun;obtain⟨cc,hcc'⟩:∃cc,cc=HY (us.take j) k.V0:=⟨_,rfl⟩
    have lR:=AA hcc';clear hun;have dv:(j:Int)<us.length:=by omega
    obtain⟨y0,_,_,_,_,_,_⟩:=S.out.ys;obtain⟨_,_,_,x3⟩:=S.out.xs;obtain⟨ec,bw,h8,h9⟩:=S.out.lts;have RC:DY wr c' cc:=by rw[hcc'];exact S.out.yT.2.2.2.2.2.rd
    clear hcc';have CD:=AA (λW (hW:Below wr.heap.size wr W)=>MX c' cc (un:Int) W (BG.below RC hW) (by rw[lR.out];exact Sj _ (Am Z.out).2.2));clear RC H0 hO;go_wp2_with fail;clear DX;refine A5 11 188 [.p w.heap.size 0,.p g 0,.p w.heap.size 0,.p g 0,.p g 0,.p g 3,.v c',.i ((un:Int)),.z,.p g 0,.p g 3] (λix vv ww=>match ix with
     |8=>AO wr.heap.size 96 4 AX ww vv (GI cc (un:Int))
     |_=>True) ?_ ?_ ?_
    .intro i E o L a wx D z O hg Z
     have dd:=bc O ec y0;have c8:=bc O bw x3
     match i,E with
     |0,_|2,_|4,_|5,_|7,_|9,_|10,_=>exact sP L Z D z
     |1,_|3,_=>exact sL L Z D z (hl:=Nd ‹_›)
     |6,_=>exact sL L Z D z (hl:=Wk ‹_›)
     |8,_=>exact sC L Z D z (CD.out _ O) (by rintro e w_ ⟨v',rfl,hO,ad⟩;exact⟨_,rfl,(hO.lower O.size),ad⟩)
    .intro i E vv wz c6 a7 hz
     match i,E with
     |8,_=>exact(AO.below hz a7)
     |0,_|1,_|2,_|3,_|4,_|5,_|6,_|7,_|9,_|10,_=>exact hz
    .intro V wx hR O
     have q1:(V 1)=.pointer (some ⟨g,0,none⟩):=Bg hR 1;have q8:AO wr.heap.size 96 4 AX wx (V 8) (GI cc (un:Int)):=Bg hR 8;have q9:(V 9)=.pointer (some ⟨g,0,none⟩):=Bg hR 9;have eV:(V 10)=.pointer (some ⟨g,3,none⟩):=Bg hR 10;clear hR;simp only[Aj,Ag,yN,yJ,yK,yI,q1,q9,eV];simp;generalize V 8=z8 at q8 ⊢;clear q1 q9 eV;rw[lR.out,m0.out,<-Os ay] at q8;have S8:=AA (S.out.V0 O q8);have m8:=AA (Od (j:=3) (u:=z8) (AG.below HOr.out O) mF);have jp:=AK (S.out.below O).yT.1;have kJ:=(S.out.below O).xs.2.2.2;obtain⟨_,_,rfl,_,_⟩:=q8.rd.shape;clear q8 O y0 x3;go_wp2_with fail;go_roundw;exact⟨j+1,by omega,by go_num,m8.out,_,S8.out⟩;simp[intOf];omega
   .obtain rfl:j=us.length:=by omega
    rw[xG] at S;have HE:=AA (show IF k ⟨k1,(en:Int),(Y:Int),(bn:Int),c1,nm⟩=({k with mem:=Ci k.mem Y bn c1,Xy:=A7 (A7 k.Xy (Au k.mem Y bn) (-1)) c1 1,V0:=HY us k.V0},0,0) from fe.out);go_wp2_with fail;go_ret;exact⟨by rw[HE.out]<;>rfl,λ_=>⟨_,_,_,_,by rw[HE.out];exact S.out.yT⟩,S.out.bel⟩
def FE(k:AN)(c:AU):Mq:=
 if c.k=2 then Kb k c
 else if c.k=3 then Kg k c
 else if c.k=4 then Do k (F7 k.mem k.Xy c.a.toNat c.b (AF k.V3 c.e.toNat).Tj)
 else if c.k=5 then Do k (Cy k.mem k.Xy c.a.toNat)
 else IF k c
theorem Qq{n:Int}(h:n≠0):Gv n≠0:=by
 unfold Gv;rw[if_neg h]
 split<;>decide
theorem WM{lo g:Nat}{w:World}{m i e c:Value}{k:AN}(h:IT lo w g m i e c k)(au:lo<=w.heap.size)(hK:DP k)(R:AU)(he:0<=R.e)(N:R.e<3)(hk:2<=R.k/\R.k<=6)(ha:0<=R.a/\R.a<12)(jY:R.k=4->Bi R.b=true)(fQ:R.c<=9223372036854775807):
 Calls prog 98 #[R.on g] w (Ds lo g w (FE k R)):=by
 have S0:=Eb.start h au R;have P:FE k R=if R.k=2 then Kb k R else if R.k=3 then Kg k R else if R.k=4 then Do k (F7 k.mem k.Xy R.a.toNat R.b (AF k.V3 R.e.toNat).Tj) else if R.k=5 then Do k (Cy k.mem k.Xy R.a.toNat) else IF k R:=rfl
 have gN:=λ(W:World) (hW:Below (w.alloc (.cells (R.onCells g) 83)).heap.size (w.alloc (.cells (R.onCells g) 83)) W)=>aH (S0.below hW).yT (S0.below hW).lo hK R he N ha fQ
 obtain⟨k1,e1,a1,b1,c1,nm⟩:=R;obtain⟨en,rfl⟩:∃n:Nat,e1=(n:Int):=⟨e1.toNat,by simp only at he;omega⟩
 obtain⟨Y,rfl⟩:∃n:Nat,a1=(n:Int):=⟨a1.toNat,by simp only at ha;omega⟩
 have ca:en<3:=by simp only at N;omega
 have bN:Y<12:=by simp only at ha;omega
 simp only[AU.on,AU.onCells] at S0 P hk jY gN ⊢;simp only[yq] at P;obtain⟨ge,ao,e9,_,⟨⟨gb,ga⟩,f9,f8⟩,_⟩:=S0.V3 (by rw[hK.zY];omega);rw[hK.zY] at e9;obtain⟨gi,bt,e8,_,_,⟨⟨f7,f6⟩,f5,f4⟩,_⟩:=S0.Xy (by rw[hK.len];omega);rw[hK.len] at e8;obtain⟨gm,bs,e7,_,⟨hZ,hY⟩,hQ,hN⟩:=S0.mems (Am hK).1;subst e7 e8 e9;obtain⟨y0,y1,y2,y3,y4,y5,y6⟩:=S0.ys;obtain⟨x0,x1,x2,x3⟩:=S0.xs;obtain⟨d0,d1,d2⟩:=S0.Sc (f:=Y) (by rw[hK.len];exact bN);have iJ:(Y:Int)<12:=by omega
 obtain⟨bK,b5,h8,h9⟩:=S0.lts;have Z:=AA hK;have HS:=AA S0;clear hK h S0 au he N;obtain⟨me,md⟩:=hk;have k5:k1=2∨k1=3∨k1=4∨k1=5∨k1=6:=by omega
 clear me md
 rcases k5 with rfl|rfl|rfl|rfl|rfl
 .have HP:=AA (show FE k ⟨2,(en:Int),(Y:Int),b1,c1,nm⟩=Kb k ⟨2,(en:Int),(Y:Int),b1,c1,nm⟩ from P)
  have HG:=AA (show Kb k ⟨2,(en:Int),(Y:Int),b1,c1,nm⟩=if(Sc k.Xy Y).k≠1 then(k,0,3) else if(Sc k.Xy Y).r≠0 then(k,0,2) else({k with Xy:=k.Xy.set Y AV.zero},0,0) from rfl);clear P gN
  by_cases A:(Sc k.Xy Y).k=1
  .have t1:((Sc k.Xy Y).k==1)=true:=by simp[A]
   by_cases H:(Sc k.Xy Y).r=0
   .have hi:=AA (show FE k ⟨2,(en:Int),(Y:Int),b1,c1,nm⟩=({k with Xy:=k.Xy.set Y AV.zero},0,0) by rw[HP.out,HG.out,if_neg (by simp[A]),if_neg (by simp[H])])
    have H1:=AA A;have H2:=AA H;clear A H;go_in;go_wp2_with fail;generalize w.alloc _=W0 at*;have CG:=AA (Rj _ k.Xy Y W0 HS.out.yT.2.2.2.1.rd (Am Z.out).2.1 bN H1.out H2.out);refine CG.out.mono ?_;rintro r w1 ⟨v',rfl,hO,J⟩;have S2:=AA (HS.out.zz J hO);have fz:=AK (HS.out.below J).yT.1;have x1:=(HS.out.below J).xs.2.1;have y0:=(HS.out.below J).ys.1;obtain⟨_,_,rfl,_,_⟩:=hO.rd.shape;rw[yi] at S2;clear hO J;go_wp2_with fail;go_ret;exact⟨by rw[hi.out]<;>rfl,λ_=>⟨_,_,_,_,by rw[hi.out];exact S2.out.yT⟩,S2.out.bel⟩
   .have hi:=AA (show FE k ⟨2,(en:Int),(Y:Int),b1,c1,nm⟩=(k,0,2) by rw[HP.out,HG.out,if_neg (by simp[A]),if_pos H])
    have H1:=AA A;have H2:=AA H;clear A H;go_in;go_wp2_with fail;generalize w.alloc _=W0 at*;have CG:=AA (Tf _ k.Xy Y W0 HS.out.yT.2.2.2.1.rd (Am Z.out).2.1 bN H1.out H2.out);refine CG.out.mono ?_;rintro r w1 ⟨rfl,J⟩;have S2:=AA (HS.out.below J);go_wp2_with fail;go_ret;exact Ds.bad hi.out (by decide) S2.out.bel
  .have t1:((Sc k.Xy Y).k==1)=false:=by simp[A]
   have hi:=AA (show FE k ⟨2,(en:Int),(Y:Int),b1,c1,nm⟩=(k,0,3) by rw[HP.out,HG.out,if_pos A]);clear A;go_in;go_wp2_with fail;go_ret;exact Ds.bad hi.out (by decide) HS.out.bel
 .have HP:=AA (show FE k ⟨3,(en:Int),(Y:Int),b1,c1,nm⟩=Kg k ⟨3,(en:Int),(Y:Int),b1,c1,nm⟩ from P)
  have HG:=AA (show Kg k ⟨3,(en:Int),(Y:Int),b1,c1,nm⟩=if(Sc k.Xy Y).k≠1∨Bh b1 0 3=false∨EB c1=false then(k,0,3) else({k with mem:=Ci k.mem Y b1.toNat c1},0,0) from rfl);clear P gN;have C0:=AA (λW=>A3 (Ov b1 W));have C1:=AA (λW=>A3 (Mw c1 W))
  by_cases A:(Sc k.Xy Y).k=1
  .have t1:((Sc k.Xy Y).k==1)=true:=by simp[A]
   have H1:=AA A;clear A;go_in;go_wp2_with fail;generalize w.alloc _=W0 at*;cases H:Bh b1 0 3
   .have hi:=AA (show FE k ⟨3,(en:Int),(Y:Int),b1,c1,nm⟩=(k,0,3) by rw[HP.out,HG.out,if_pos (.inr (.inl H))])
    have T:=AA H;clear H;refine(C0.out _).mono ?_;rintro r w1 ⟨rfl,J⟩;rw[T.out];have S2:=AA (HS.out.below J);clear y0 y1 y2 y3 y4 y5 y6 x0 x1 x2 x3 d0 d1 d2;go_wp2_with fail;go_ret;exact Ds.bad hi.out (by decide) S2.out.bel
   .have T:=AA H
    have gX:=AZ.1 H;obtain⟨bn,rfl⟩:∃n:Nat,b1=(n:Int):=⟨b1.toNat,by omega⟩
    have bA:bn<4:=by omega
    clear H gX;refine(C0.out _).mono ?_;rintro r W1 ⟨rfl,J⟩;rw[T.out];have S1:=AA (HS.out.below J);clear y0 y1 y2 y3 y4 y5 y6 x0 x1 x2 x3 d0 d1 d2 J;obtain⟨y0,y1,y2,y3,y4,y5,y6⟩:=S1.out.ys;go_wp2_with fail;cases h3:Bh c1 0 9999
    .have hi:=AA (show FE k ⟨3,(en:Int),(Y:Int),(bn:Int),c1,nm⟩=(k,0,3) by rw[HP.out,HG.out,if_pos (.inr (.inr h3))])
     have T3:=AA h3;clear h3;refine(C1.out _).mono ?_;rintro r w1 ⟨rfl,J⟩;rw[T3.out];have S2:=AA (S1.out.below J);clear y0 y1 y2 y3 y4 y5 y6;go_wp2_with fail;go_ret;exact Ds.bad hi.out (by decide) S2.out.bel
    .have T3:=AA h3
     have hi:=AA (show FE k ⟨3,(en:Int),(Y:Int),(bn:Int),c1,nm⟩=({k with mem:=Ci k.mem Y bn c1},0,0) by rw[HP.out,HG.out,if_neg (by rintro(x|x|x);(· exact x H1.out);(· rw[T.out] at x;cases x);(· rw[show EB c1=true from h3] at x;cases x)),yq]);clear h3;refine(C1.out _).mono ?_;rintro r W2 ⟨rfl,J⟩;rw[T3.out];have S2:=AA (S1.out.below J);clear y0 y1 y2 y3 y4 y5 y6 J;obtain⟨y0,_,_,_,y4,y5,_⟩:=S2.out.ys;obtain⟨x0,_,_,_⟩:=S2.out.xs;obtain⟨bK,b5,_,_⟩:=S2.out.lts;obtain⟨gw,bp,Dw,gU,lr,Dj,fx,⟨⟨hM,hJ⟩,hE,hD⟩,_,_,_⟩:=S2.out.mrow (Am Z.out).1 (f:=Y) bN;have iu:=yM _ _ Dw;have kh:(bn:Int)<4:=by omega
     clear Dj fx;go_wp2_with fail;refine Ac 15 139 [.p w.heap.size 0,.p g 0,.p g 0,.p g 0,.s gm 12 bs,.i ((Y:Int)),.p gm Y,.s gw 4 bp,.p w.heap.size 1,.p w.heap.size 4,.i ((bn:Int)),.p w.heap.size 1,.p w.heap.size 5,.i c1,.p gw bn] (λ_ _ _=>True) ?_ ?_
     .intro i E o L a wx D z O hg Z
      have fG:=bc O bK y4;have fF:=bc O bK y5
      match i,E with
      |0,_|2,_|3,_|5,_|8,_|9,_|11,_|12,_=>exact sP L Z D z
      |1,_=>exact sL L Z D z (hl:=Nd (bc O bK y0))
      |4,_=>exact sL L Z D z (hl:=GQ (bc O b5 x0))
      |6,_|14,_=>exact sI L Z D z (hr:=by clear z D Z;go_simp)
      |7,_=>exact sL L Z D z (hl:=K9 (bc O iu Dw))
      |10,_|13,_=>exact sL L Z D z (hl:=Fy ‹_›)
      |_+15,hq=>omega
     .intro V wx hR O
      have b9:(V 13)=.int .i64 c1:=Bg hR 13;have ei:(V 14)=.pointer (some ⟨gw,bn,none⟩):=Bg hR 14;clear hR;simp only[Aj,Ag,yN,yJ,yK,yI,b9,ei];simp;clear b9 ei;have S3:=AA (S2.out.below O);obtain⟨jo,fV,gM,_,_,Dj,fx,_,_,_,SW⟩:=S3.out.mrow (Am Z.out).1 (f:=Y) bN;have dq:=(O.cell (p:=⟨gm,Y,none⟩) iu).trans Dw;rw[dq] at gM;have jf:gw=jo:=by simp at gM;exact gM.1
      subst jf;have Dv:=Dj bn bA;have fz:=fx bn;have S4:=AA (SW bn c1 bA);clear O y0 y4 y5 x0 Dw gM dq Dj fx SW;go_wp2_with fail;go_ret;exact⟨by rw[hi.out]<;>rfl,λ_=>⟨_,_,_,_,by rw[hi.out];exact S4.out.yT⟩,S4.out.bel⟩
  .have t1:((Sc k.Xy Y).k==1)=false:=by simp[A]
   have hi:=AA (show FE k ⟨3,(en:Int),(Y:Int),b1,c1,nm⟩=(k,0,3) by rw[HP.out,HG.out,if_pos (.inl A)]);clear A;go_in;go_wp2_with fail;go_ret;exact Ds.bad hi.out (by decide) HS.out.bel
 .have my:=jY rfl
  have HP:=AA (show FE k ⟨4,(en:Int),(Y:Int),b1,c1,nm⟩=Do k (F7 k.mem k.Xy Y b1 (AF k.V3 en).Tj) from P);obtain⟨xs,cd,hp⟩:∃xs cd,F7 k.mem k.Xy Y b1 (AF k.V3 en).Tj=(xs,cd):=⟨_,_,rfl⟩
  have gK:=AA hp;clear P gN hp
  by_cases A:(Sc k.Xy Y).k=1
  all_goals
   first
   |have t1:((Sc k.Xy Y).k==1)=true:=by simp[A]
   |have t1:((Sc k.Xy Y).k==1)=false:=by simp[A]
   clear A;go_in;go_wp2_with fail;generalize w.alloc _=W2 at*;have dw:=HS.out.zh;obtain⟨ua,uc,D0,D1,call⟩:=HS.out.env (j:=en) (by rw[Z.out.zY];exact ca);have CE:=AA (λW (hW:Below W2.heap.size W2 W)=>HS.out.callEnv (en:=en) rfl ca W hW);simp only[AU.on,AU.onCells] at CE;have eT:=λW (hW:Below W2.heap.size W2 W)=>Tl _ _ _ k.mem k.Xy Y b1 (AF k.V3 en).Tj W (Bf.below HS.out.yT.2.2.rd.1 hW) (Am Z.out).1 (BG.below HS.out.yT.2.2.2.1.rd hW) (Am Z.out).2.1 bN my (BG.below call hW) (Ej (Z.out.Tj en ca)) (Z.out.Tj en ca)
   rw[gK.out] at eT;unfold Mo at eT;simp only at eT;have CT:=AA eT;clear eT call D1;refine A5 24 139 [.p w.heap.size 0,.p g 0,.p g 0,.p g 0,.s gm 12 bs,.p w.heap.size 0,.p g 0,.p g 0,.p g 1,.s gi 12 bt,.i ((Y:Int)),.p w.heap.size 1,.p w.heap.size 4,.i b1,.a #[.pointer (some ⟨g,0,none⟩),.int .i64 4,.int .i64 en,.int .i64 Y,.int .i64 b1,.int .i64 c1,.string nm],.p ge (en*2),.p ge (en*2),.p ge (en*2),.v (.slice ua (AF k.V3 en).Tj.length uc),.z,.z,.z,.i cd,.z] (λix vv ww=>match ix with
    |19|20=>∃v',vv=.tuple #[v',.int .i64 cd]/\AO W2.heap.size 91 3 At ww v' xs
    |21|23=>AO W2.heap.size 91 3 At ww vv xs
    |_=>True) ?_ ?_ ?_
   .intro i E o L a wx D z O hg Z
    have dd:=bc O bK y0;have c8:=bc O b5 x0;have dm:=bc O b5 x1;have fG:=bc O bK y4;have fF:=bc O bK y1;have gR:=bc O bK y2;have gQ:=bc O bK y3;have gP:=bc O bK y5;have gO:=bc O bK y6;have iZ:=bc O dw D0
    match i,E with
    |0,_|2,_|3,_|5,_|7,_|8,_|10,_|11,_|12,_|16,_|17,_=>exact sP L Z D z
    |1,_|6,_=>exact sL L Z D z (hl:=Nd ‹_›)
    |4,_=>exact sL L Z D z (hl:=GQ ‹_›)
    |9,_=>exact sL L Z D z (hl:=GV ‹_›)
    |13,_=>exact sL L Z D z (hl:=Fy ‹_›)
    |14,_=>exact sL L Z D z (hl:=dJ ‹_› ‹_› ‹_› ‹_› ‹_› ‹_› ‹_›)
    |15,_=>exact sD L Z D z (CE.out _ O)
    |18,_=>exact sL L Z D z (hl:=KN ‹_›)
    |19,_=>exact sC L Z D z (CT.out _ O) (by rintro e w_ ⟨v',rfl,hO,ad⟩;exact⟨_,rfl,⟨_,rfl,hO.lower O.size⟩,ad⟩)
    |20,_=>
     clear dd c8 dm fG fF gR gQ gP gO iZ;obtain rfl:=yQ L;have lD:∃v',(a.tmps[105]?.getD undef)=.tuple #[v',.int .i64 cd]/\AO W2.heap.size 91 3 At wx v' xs:=BY z 19
     clear z D;obtain⟨v',lD,hO⟩:=lD;refine yP ?_;go_simp;exact Z.out _ _ ⟨_,rfl,hO⟩ (yO _ _)
    |21,_=>
     clear dd c8 dm fG fF gR gQ gP gO iZ;obtain rfl:=yQ L;have iS:∃v',(a.tmps[85]?.getD undef)=.tuple #[v',.int .i64 cd]/\AO W2.heap.size 91 3 At wx v' xs:=BY z 20
     clear z D;obtain⟨v',iS,hO⟩:=iS;refine yP ?_;go_simp;exact Z.out _ _ hO (yO _ _)
    |22,_=>
     clear dd c8 dm fG fF gR gQ gP gO iZ;obtain rfl:=yQ L;have iS:∃v',(a.tmps[85]?.getD undef)=.tuple #[v',.int .i64 cd]/\AO W2.heap.size 91 3 At wx v' xs:=BY z 20
     clear z D;obtain⟨v',iS,hO⟩:=iS;refine yP ?_;go_simp;exact Z.out _ _ rfl (yO _ _)
    |23,_=>clear dd c8 dm fG fF gR gQ gP gO iZ;obtain rfl:=yQ L;have lC:AO W2.heap.size 91 3 At wx (a.tmps[106]?.getD undef) xs:=BY z 21;clear z D;refine yP ?_;go_simp;exact Z.out _ _ lC (yO _ _)
    |_+24,hq=>omega
   .intro i E vv wz c6 a7 hz
    match i,E with
    |19,_|20,_=>exact(by obtain⟨v',h0,A⟩:=hz;exact⟨v',h0,AO.below A a7⟩)
    |21,_|23,_=>exact(AO.below hz a7)
    |0,_|1,_|2,_|3,_|4,_|5,_|6,_|7,_|8,_|9,_|10,_|11,_|12,_|13,_|14,_|15,_|16,_|17,_|18,_|22,_=>exact hz
    |_+24,hq=>omega
   .intro V wx hR O
    have kL:(V 22)=.int .i64 cd:=Bg hR 22;have iY:AO W2.heap.size 91 3 At wx (V 23) xs:=Bg hR 23;clear hR;simp only[Aj,Ag,yN,yJ,yK,yI,kL];simp;generalize V 23=z23 at iY ⊢;clear kL;have S3:=AA (HS.out.zz O iY);have jp:=AK (HS.out.below O).yT.1;have lX:=(HS.out.below O).xs.2.1;have lW:=(HS.out.below O).ys.1;have CC:=AA (λW=>PI cd W);obtain⟨_,_,rfl,_,_⟩:=iY.rd.shape;clear iY O y0 y1 y2 y3 y4 y5 y6 x0 x1 x2 x3 d0 d1 d2 D0;go_wp2_with (refine(CC.out _).mono ?_;rintro r w9 ⟨rfl,rfl⟩);go_ret
    by_cases h0:cd=0
    .subst h0
     have hi:FE k ⟨4,(en:Int),(Y:Int),b1,c1,nm⟩=({k with Xy:=xs},0,0):=by rw[HP.out,gK.out];rfl
     exact⟨by rw[hi]<;>rfl,λ_=>⟨_,_,_,_,by rw[hi];exact S3.out.yT⟩,S3.out.bel⟩
    .have hi:FE k ⟨4,(en:Int),(Y:Int),b1,c1,nm⟩=(k,0,Gv cd):=by
      rw[HP.out,gK.out];unfold Do;rw[if_neg h0]
     exact Ds.bad hi (Qq h0) S3.out.bel
 .have HP:=AA (show FE k ⟨5,(en:Int),(Y:Int),b1,c1,nm⟩=Do k (Cy k.mem k.Xy Y) from P)
  obtain⟨xs,cd,hp⟩:∃xs cd,Cy k.mem k.Xy Y=(xs,cd):=⟨_,_,rfl⟩
  have gK:=AA hp;clear P gN hp
  by_cases A:(Sc k.Xy Y).k=1
  all_goals
   first
   |have t1:((Sc k.Xy Y).k==1)=true:=by simp[A]
   |have t1:((Sc k.Xy Y).k==1)=false:=by simp[A]
   clear A;go_in;go_wp2_with fail;generalize w.alloc _=W2 at*;have dw:=HS.out.zh;obtain⟨ua,uc,D0,D1,call⟩:=HS.out.env (j:=en) (by rw[Z.out.zY];exact ca);have CE:=AA (λW (hW:Below W2.heap.size W2 W)=>HS.out.callEnv (en:=en) rfl ca W hW);simp only[AU.on,AU.onCells] at CE;have eT:=λW (hW:Below W2.heap.size W2 W)=>QD _ _ k.mem k.Xy Y W (Bf.below HS.out.yT.2.2.rd.1 hW) (Am Z.out).1 (BG.below HS.out.yT.2.2.2.1.rd hW) (Am Z.out).2.1 bN
   rw[gK.out] at eT;unfold Mo at eT;simp only at eT;have CT:=AA eT;clear eT call D1;refine A5 16 139 [.p w.heap.size 0,.p g 0,.p g 0,.p g 0,.s gm 12 bs,.p w.heap.size 0,.p g 0,.p g 0,.p g 1,.s gi 12 bt,.i ((Y:Int)),.z,.z,.z,.i cd,.z] (λix vv ww=>match ix with
    |11|12=>∃v',vv=.tuple #[v',.int .i64 cd]/\AO W2.heap.size 91 3 At ww v' xs
    |13|15=>AO W2.heap.size 91 3 At ww vv xs
    |_=>True) ?_ ?_ ?_
   .intro i E o L a wx D z O hg Z
    have dd:=bc O bK y0;have c8:=bc O b5 x0;have dm:=bc O b5 x1
    match i,E with
    |0,_|2,_|3,_|5,_|7,_|8,_|10,_=>exact sP L Z D z
    |1,_|6,_=>exact sL L Z D z (hl:=Nd ‹_›)
    |4,_=>exact sL L Z D z (hl:=GQ ‹_›)
    |9,_=>exact sL L Z D z (hl:=GV ‹_›)
    |11,_=>exact sC L Z D z (CT.out _ O) (by rintro e w_ ⟨v',rfl,hO,ad⟩;exact⟨_,rfl,⟨_,rfl,hO.lower O.size⟩,ad⟩)
    |12,_=>
     clear dd c8 dm;obtain rfl:=yQ L;have fA:∃v',(a.tmps[129]?.getD undef)=.tuple #[v',.int .i64 cd]/\AO W2.heap.size 91 3 At wx v' xs:=BY z 11
     clear z D;obtain⟨v',fA,hO⟩:=fA;refine yP ?_;go_simp;exact Z.out _ _ ⟨_,rfl,hO⟩ (yO _ _)
    |13,_=>
     clear dd c8 dm;obtain rfl:=yQ L;have fU:∃v',(a.tmps[117]?.getD undef)=.tuple #[v',.int .i64 cd]/\AO W2.heap.size 91 3 At wx v' xs:=BY z 12
     clear z D;obtain⟨v',fU,hO⟩:=fU;refine yP ?_;go_simp;exact Z.out _ _ hO (yO _ _)
    |14,_=>
     clear dd c8 dm;obtain rfl:=yQ L;have fU:∃v',(a.tmps[117]?.getD undef)=.tuple #[v',.int .i64 cd]/\AO W2.heap.size 91 3 At wx v' xs:=BY z 12
     clear z D;obtain⟨v',fU,hO⟩:=fU;refine yP ?_;go_simp;exact Z.out _ _ rfl (yO _ _)
    |15,_=>clear dd c8 dm;obtain rfl:=yQ L;have fT:AO W2.heap.size 91 3 At wx (a.tmps[130]?.getD undef) xs:=BY z 13;clear z D;refine yP ?_;go_simp;exact Z.out _ _ fT (yO _ _)
    |_+16,hq=>omega
   .intro i E vv wz c6 a7 hz
    match i,E with
    |11,_|12,_=>exact(by obtain⟨v',h0,A⟩:=hz;exact⟨v',h0,AO.below A a7⟩)
    |13,_|15,_=>exact(AO.below hz a7)
    |0,_|1,_|2,_|3,_|4,_|5,_|6,_|7,_|8,_|9,_|10,_|14,_=>exact hz
    |_+16,hq=>omega
   .intro V wx hR O
    have ei:(V 14)=.int .i64 cd:=Bg hR 14;have eU:AO W2.heap.size 91 3 At wx (V 15) xs:=Bg hR 15;clear hR;simp only[Aj,Ag,yN,yJ,yK,yI,ei];simp;generalize V 15=z15 at eU ⊢;clear ei;have S3:=AA (HS.out.zz O eU);have jp:=AK (HS.out.below O).yT.1;have lX:=(HS.out.below O).xs.2.1;have lW:=(HS.out.below O).ys.1;have CC:=AA (λW=>PI cd W);obtain⟨_,_,rfl,_,_⟩:=eU.rd.shape;clear eU O y0 y1 y2 y3 y4 y5 y6 x0 x1 x2 x3 d0 d1 d2 D0;go_wp2_with (refine(CC.out _).mono ?_;rintro r w9 ⟨rfl,rfl⟩);go_ret
    by_cases h0:cd=0
    .subst h0
     have hi:FE k ⟨5,(en:Int),(Y:Int),b1,c1,nm⟩=({k with Xy:=xs},0,0):=by rw[HP.out,gK.out];rfl
     exact⟨by rw[hi]<;>rfl,λ_=>⟨_,_,_,_,by rw[hi];exact S3.out.yT⟩,S3.out.bel⟩
    .have hi:FE k ⟨5,(en:Int),(Y:Int),b1,c1,nm⟩=(k,0,Gv cd):=by
      rw[HP.out,gK.out];unfold Do;rw[if_neg h0]
     exact Ds.bad hi (Qq h0) S3.out.bel
 .have HP:=AA (show FE k ⟨6,(en:Int),(Y:Int),b1,c1,nm⟩=IF k ⟨6,(en:Int),(Y:Int),b1,c1,nm⟩ from P)
  have ng:=AA gN;clear P gN d1 d2
  by_cases A:(Sc k.Xy Y).k=1
  all_goals
   first
   |have t1:((Sc k.Xy Y).k==1)=true:=by simp[A]
   |have t1:((Sc k.Xy Y).k==1)=false:=by simp[A]
   clear A;go_in;go_wp2_with fail;generalize w.alloc _=W0 at*;refine(ng.out W0 (yO _ _)).mono ?_;rintro r w1 ⟨rfl,mN,J⟩;go_wp2_with fail;go_ret;exact⟨by rw[HP.out]<;>rfl,λh=>by rw[HP.out] at h ⊢;exact mN h,(HS.out.bel).trans J⟩
end Go.Proofs.YtaopbdankjkfpaaGreatDoor
