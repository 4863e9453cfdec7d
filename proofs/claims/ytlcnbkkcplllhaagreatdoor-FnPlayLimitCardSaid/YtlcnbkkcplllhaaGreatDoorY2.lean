/-
  Packed:30 texts.
-/
import Derived.Test.YtlcnbkkcplllhaaGreatDoorY1
import Derived.Deep.DeepCutAuto
import Derived.Deep.CutBlock
set_option linter.unusedVariables false
set_option linter.unusedSimpArgs false
set_option maxHeartbeats 16000000
set_option maxRecDepth 100000
open Go Go.Proofs.YtlcnbkkcplllhaaGreatDoor
open And renaming intro->yj
open Bool renaming and_eq_true->yD,eq_iff_iff->wW,or_eq_true->xM
open Go.Builtin renaming clear_->tU,zeroCells->xX
open Go.Proofs.Tryz renaming results103->uO
open Go.RowKit.Below renaming refl->yN
open Go.Value renaming int->yl,oneCell'->xR,slice->xG
open Go.Value.slice renaming injEq->xQ
open Go.World renaming block_lt_of_cell?->yK,ownsRow_nil->xy,size_alloc->xz
open Go.World.ownsRow renaming cellAt->xO,frozenAt->xU,lt->yC,stored->wj
open Go renaming bodyPost_ret->yB,cell_of_row->yy,cell_regrown->yw,heap_alloc_new->yx,heap_setCell_same->yE
open Int renaming toNat_natCast->yq
open List renaming all_eq_false->xj,all_eq_true->yr,append_nil->rW,contains_iff_mem->vF,countP_cons->xt,count_le_length->vt,drop_eq_getElem_cons->tF,drop_eq_nil_of_le->tr,filter_append->wD,filter_cons->vN,filter_nil->vk,foldl_append->vG,foldl_cons->yJ,foldl_nil->yH,getD_eq_getElem?_getD->yg,getElem?_eq_getElem->yG,getElem?_eq_none->tf,getElem?_eq_some_iff->yA,getElem?_map->xq,getElem?_of_mem->xN,getElem?_range->sQ,getElem?_set->vW,getElem?_set_ne->wC,getElem?_set_self->xI,getElem_of_mem->wY,length_append->yz,length_cons->vT,length_drop->xh,length_filter_le->xv,length_nil->xi,length_replicate->uv,length_set->yh,length_singleton->xP,length_take->ym,lt_irrefl->rP,map_append->xK,map_set->vf,mem_append->wJ,mem_filter->wK,mem_flatMap->wR,mem_map->vU,mem_of_getElem?->yv,mem_range->yi,mem_singleton->xD,pairwise_iff_getElem->wL,range->yL,range_succ->xH,replicate->xW,set_eq_of_length_le->tA,set_set->ud,takeWhile->rO,takeWhile_append_dropWhile->xB,takeWhile_cons->sO,take_length->xE,take_of_length_le->xm
open List.range renaming loop->yI
open Nat renaming add_zero->xT,eq_zero_or_pos->wA,le_of_eq->uw,le_refl->yF,le_trans->yM,lt_of_lt_of_le->yu,mul_comm->tg,mul_one->wZ,zero_add->wT,zero_le->yt
open Go renaming World->Ω,Value->Φ,Calls->Ξ,undef->Θ
open Go.RowKit renaming Below->Γ
variable {ss:List ByteArray} {s x:ByteArray} {a b f ge gi n:Nat} {r:List Int} {w':Ω} {u v:Φ} {kind:Int} {l:List AX} {V:List Φ} {es:List Ez} {R:AT} {p:AP}
namespace Go.Proofs.YtlcnbkkcplllhaaGreatDoor
open Go.Proofs.Tryz
open Go.RowKit Go.Shelf
def dy(ss:List ByteArray)(x:ByteArray)(t:Nat):ByteArray:=if t<ss.length then Cw ss t else x
theorem Wo{k:Nat}(h:k<ss.length):ss[k]=Cw ss k:=by simp[Cw,h]
def EI(ss:List ByteArray)(x:ByteArray):Nat:=(ss.takeWhile λy=>!OM y x).length
theorem Lm:EI ss x<=ss.length:=(List.takeWhile_prefix _).length_le
theorem Sj (x:ByteArray):OP x x=false:=by
 cases h:OP x x
 .rfl
 have:=Lj.1 h
 exact absurd this (rP _)
variable{T ao b0 g j lo lo' q sz t:Nat}
theorem PA (h:t<EI ss x):OP (Cw ss t) x=true:=by
 have hm:Cw ss t∈ss.takeWhile λy=>!OM y x:=by
  have A:(ss.takeWhile λy=>!OM y x)[t]?=ss[t]? :=by
   rw[<-xB (p:=λy=>!OM y x) (l:=ss)];rw[xB]
   conv=>rhs;rw[<-xB (p:=λy=>!OM y x) (l:=ss)]
   rw[List.getElem?_append_left h]
  have hl:t<ss.length:=yu h Lm;rw[IB hl] at A;exact yv A
 simpa[Ny] using MW hm
theorem PB (hs:ss.Pairwise (λa b=>OP a b=true))(h:EI ss x<=t)(ht:t<ss.length):OP (Cw ss t) x=false:=by
 have hp:OP (Cw ss (EI ss x)) x=false:=by
  have ay:EI ss x<ss.length:=ω;have A:(ss.dropWhile λy=>!OM y x).head?=some (Cw ss (EI ss x)):=by
   have e:=xB (p:=λy=>!OM y x) (l:=ss);have H:(rO (λy=>!OM y x) ss++List.dropWhile (λy=>!OM y x) ss)[(rO (λy=>!OM y x) ss).length]?=some (Cw ss (EI ss x)):=by rw[e];exact IB ay
   rw[List.getElem?_append_right (yF _)] at H;simp only[Nat.sub_self] at H;rw[List.head?_eq_getElem?];exact H
  have h3:=List.head?_dropWhile_not (λy=>!OM y x) ss;rw[A] at h3;simpa[Ny] using h3
 by_cases e:t=EI ss x
 .rw[e];exact hp
 cases hx:OP (Cw ss t) x
 .rfl
 exfalso
 rw[wL] at hs;have h4:=hs (EI ss x) t ω ht ω;have e1:ss[EI ss x]' ω=Cw ss (EI ss x):=Wo _;have e2:ss[t]=Cw ss t:=by simp[Cw,ht]
 rw[e1,e2] at h4;rw[P8 h4 hx] at hp;cases hp
theorem WC (hs:ss.Pairwise (λa b=>OP a b=true)):Lib.bsGo (λt=>Op.bytesLess (dy ss x t).toList x.toList) ss.length 0 ss.length=EI ss x:=by
 refine Lib.bsGo_spec _ (EI ss x) (λt ht=>?_) (λt ht=>?_) _ _ _ ω ω Lm
 .have hl:t<ss.length:=yu ht Lm
  simp only[dy,hl,if_true];exact PA ht
 by_cases hl:t<ss.length
 .simp only[dy,hl,if_true]
  exact PB hs ht hl
 simp only[dy,hl,if_false]
 exact Sj x
theorem Yy (hs:ss.Pairwise (λa b=>OP a b=true)):(decide (EI ss x<ss.length/\dy ss x (EI ss x)=x))=ss.any (λy=>decide (y=x)):=by
 rw[wW,decide_eq_true_eq,LW];constructor
 .rintro⟨A,H⟩
  simp only[dy,A,if_true] at H;exact⟨_,yv (IB A),by simp[H]⟩
 rintro⟨y,hy,he⟩
 obtain rfl:y=x:=by simpa using he
 obtain⟨j,hj,rfl⟩:=It (d:=⟨#[]⟩) hy;have e:EI ss (ss.getD j ⟨#[]⟩)=j:=by
  rcases Nat.lt_trichotomy (EI ss (ss.getD j ⟨#[]⟩)) j with h|h|h
  .exfalso
   have A:=PB hs (yF _) (x:=ss.getD j ⟨#[]⟩) ω;rw[wL] at hs;have h4:=hs _ j ω hj h;have e1:ss[EI ss (ss.getD j ⟨#[]⟩)]' ω=Cw ss (EI ss (ss.getD j ⟨#[]⟩)):=Wo _;have e2:ss[j]=ss.getD j ⟨#[]⟩:=by simp[hj]
   rw[e1,e2,A] at h4;cases h4
  .exact h
  exfalso
  have:=PA h;rw[show Cw ss j=ss.getD j ⟨#[]⟩ from rfl,Sj] at this;cases this
 rw[e];exact⟨hj,by simp[dy,hj,Cw]⟩
theorem Wt:Cl ss (EI ss x) x=Rn ss x:=by
 have oB:∀h1 B:List ByteArray,h1++B=ss->ss.take h1.length=h1/\ss.drop h1.length=B:=by rintro h1 B rfl;simp
 obtain⟨k1,k2⟩:=oB _ _ (xB (p:=λy=>!OM y x) (l:=ss));unfold Cl Rn EI;rw[k1,k2]
theorem Pd (v:Φ)(ss:List ByteArray)(x:ByteArray)(w:Ω)(h:BY w v ss)(hs:BW ss=true):
 Ξ prog 225 #[v,.string x] w λe w'=>e=.returned (.tuple #[.int .i64 ((EI ss x:Nat):Int),.bool (ss.any λy=>decide (y=x))])/\Γ w w w':=by
 obtain⟨A,H,h3⟩:=Ev.1 hs;obtain⟨a,c,rfl,hc,cq,H0⟩:=BK.open Fi ψ h
 by_cases h0:ss.length=0
 .obtain rfl:ss=[]:=List.eq_nil_of_length_eq_zero h0
  refine(Any2.slices_BinarySearch_string_empty Tryz.lays2n26 a c x w).mono ?_;rintro e w' ⟨rfl,rfl⟩;exact⟨rfl,yN _ _⟩
 obtain⟨b,a6,rfl,_⟩:=H0.str (ω:0<ss.length)
 have bE:∀j,j<ss.length->w.cell? ⟨b,a6+j,none⟩=some (.string (dy ss x j)):=by intro j hj;obtain⟨b',jj,e,Hb⟩:=H0.str hj;cases e;simp only[dy,hj,if_true];exact Hb
 have kL:=Any2.slices_BinarySearch_string Tryz.lays2n26 b a6 ss.length c (dy ss x) x w ω bE;rw[WC H,Yy H] at kL;exact PC (kL.mono λe w' ⟨he,hq⟩=>⟨he,hq⟩)
def bh(w:Ω)(ss:List ByteArray)(x:ByteArray)(e:Ending)(w':Ω):Prop:=∃v',e=.returned (.tuple #[v',.bool (BV ss x).2])/\AQ w.heap.size 9 1 A0 w' v' (BV ss x).1/\Γ w w w'
theorem Tw (v:Φ)(ss:List ByteArray)(x:ByteArray)(w:Ω)(h:BY w v ss)(hs:DQ ss)(hx:x.size<=maxLen)(aq:BW ss=true)(hr:BR x=true):
 Ξ prog 186 #[v,.string x] w (bh w ss x):=by
 have hl:=(Ev.1 aq).2.2;have C1:=AA (by have:=H5 v ss w h hs;rw[aq] at this;exact this);have CX:=AA (λW=>by have:=Dp x W hx;rw[hr] at this;exact this);have CB:=AA (λW (hW:Γ w w W)=>Pd v ss x W (BK.below h hW) aq);have C2:=AA (λW (hW:Γ w w W)=>Jp v ss W (BK.below h hW) ω);obtain⟨a,c,rfl,hc,cq⟩:=h.shape;have f7:ss.any (λy=>decide (y=x))=true->BV ss x=(ss,true):=λh=>by unfold BV;rw[if_pos h]
 have nE:ss.any (λy=>decide (y=x))=false->ss.length=6->BV ss x=(ss,false):=λh h6=>by unfold BV;rw[if_neg (by simp[h]),if_pos h6]
 have cw:ss.any (λy=>decide (y=x))=false->ss.length≠6->BV ss x=(Cl ss (EI ss x) x,true):=λh h6=>by unfold BV;rw[if_neg (by simp[h]),if_neg h6,Wt]
 have pC:=AA f7;have pD:=AA nE;have pz:=AA cw;have er:=Lm (ss:=ss) (x:=x);clear h aq hs hx hr f7 nE cw;go_in;go_wp2_with fail;refine C1.mono ?_;rintro r w1 ⟨rfl,be⟩;go_wp2_with fail;refine(CX _).mono ?_;rintro r w2 ⟨rfl,ad⟩;replace ad:=be.trans (ad.mono be.size);clear be;go_wp2_with fail;refine(CB _ ad).mono ?_;rintro r w3 ⟨rfl,dr⟩;replace dr:=ad.trans (dr.mono ad.size);clear ad;have C3:=AA (C2 _ dr);have s3:=dr.size;cases gl:ss.any (λy=>decide (y=x))
 .by_cases h6:ss.length=6
  .have hi:=AA (pD gl h6)
   have t6:((ss.length:Int)==6)=true:=by simp[h6]
   clear gl h6;go_wp2_with (refine C3.mono ?_;rintro r w4 ⟨v4,rfl,hO,bA⟩);go_ret2;exact⟨_,by rw[hi.u];rfl,by rw[hi.u];exact hO.lower s3,dr.trans (bA.mono s3)⟩
  have hi:=AA (pz gl h6)
  have t6:((ss.length:Int)==6)=false:=by rw[beq_eq_false_iff_ne];omega
  clear gl h6;go_wp2_with fail;refine C3.mono ?_;rintro r w4 ⟨v4,rfl,hO,bA⟩;have nM:=hO.below (AJ w4 (.cells #[x] 9));have CI:=AA (Pm v4 ss x (w4.alloc (.cells #[x] 9)) nM (yM bA.size (AJ _ _).size) er ω (yx _ _) (λg K=>by have:=(yC hO g K).2;omega));have il:=bA.trans ((AJ w4 (.cells #[x] 9)).mono bA.size);clear hO nM bA;go_wp2_with (refine CI.mono ?_;rintro r w6 ⟨v6,rfl,lw,mw⟩);go_ret2;exact⟨_,by rw[hi.u];rfl,by rw[hi.u];exact lw.lower s3,dr.trans ((il.trans mw).mono s3)⟩
 have hi:=AA (pC gl)
 clear gl;go_wp2_with (refine C3.mono ?_;rintro r w4 ⟨v4,rfl,hO,bA⟩);go_ret2;exact⟨_,by rw[hi.u];rfl,by rw[hi.u];exact hO.lower s3,dr.trans (bA.mono s3)⟩
end Go.Proofs.YtlcnbkkcplllhaaGreatDoor
namespace Go.Proofs.YtlcnbkkcplllhaaGreatDoor
open Go.Proofs.Tryz Go.RowKit
variable{m:List (List Int)}
variable{W W' w w1 w2:Ω}
theorem L9.word{a:Option Addr}(h:L9 w a m)(aq:By m=true){f i:Nat}(hf:f<12)(E:i<4):
 ∃b a6 b2 ca c2,a=some ⟨b,a6,none⟩/\b<w.heap.size/\w.cell? ⟨b,a6+f,none⟩=some (.slice (some ⟨b2,ca,none⟩) 4 c2)/\b2<w.heap.size/\w.cell? ⟨b2,ca+i,none⟩=some (.int .i64 (Aw m f i)):=by
 obtain⟨hl,hr⟩:=Aj.1 aq;obtain⟨b,a6,u,rfl,ay,hc,lh⟩:=h f ω;have h4:=(BB.1 (hr f hf)).1;obtain⟨a2,c2,rfl,_,_,h2⟩:=lh.open;obtain⟨b2,ca,rfl,jw,jc⟩:=h2.cellAt (ω:i<(AK m f).length);rw[h4] at hc;exact⟨b,a6,b2,ca,c2,rfl,ay,hc,jw,jc⟩
theorem Hy (aq:By m=true){f i:Nat}(hf:f<12)(E:i<4):0<=Aw m f i/\Aw m f i<=9999:=by obtain⟨hl,hr⟩:=Aj.1 aq;obtain⟨h4,hw⟩:=BB.1 (hr f hf);exact hw _ (Di ω)
def Mb(f a:Nat)(b:Bool):Φ:=.agg #[f,.int .i64 ((a%4:Nat):Int),b]
def FW:Φ:=.agg #[θ,θ,υ]
def JC(m:List (List Int))(root a:Nat):Φ:=.tuple #[if(CU m root a).1=0 then Mb (CU m root a).2.1 a (CU m root a).2.2 else FW,.int .i64 (CU m root a).1]
theorem Xh (v:Φ)(m:List (List Int))(root a:Nat)(w:Ω)(h:Bl w v m)(aq:By m=true)(hr:root<12)(ha:a<64):
 Ξ prog 103 #[v,.int .i64 root,.int .i64 a] w λe w'=>e=.returned (JC m root a)/\Γ w w w':=by
 obtain⟨q,c,rfl,hc,cq,H0⟩:=h.open;have hl:=(Aj.1 aq).1;unfold maxLen at cq;rw[hl] at hc ⊢;have hA:=AA (λW=>RJ a W ha);obtain⟨b,a6,b2,ca,c2,rfl,J,Hb,ad,D2⟩:=H0.word aq hr (ω:a/16<4);have D':=((AJ w (.cells #[θ,θ,υ] 127)).cell (p:=⟨b,a6+root,none⟩) J).trans Hb;have mU:=((AJ w (.cells #[θ,θ,υ] 127)).cell (p:=⟨b2,ca+a/16,none⟩) ad).trans D2;have lV:=Hy aq hr (ω:a/16<4);have E1:=AA (λW=>Fk (Aw m root (a/16)) W ω);have hB:=AJ w (.cells #[θ,θ,υ] 127);cases ek:Bv (Aw m root (a/16))
 .have S:=AA (show JC m root a=.tuple #[FW,ϕ] by simp[JC,CU,ek])
  have V1:=AA (Et ek);clear H0 Hb D2 ek lV J ad;go_in;go_wp2_with (first|(go_at_call 167;refine(hA _).mono ?_;rintro e w' ⟨rfl,rfl⟩)|(go_at_call 158;refine(E1 _).mono ?_;rintro e w' ⟨rfl,rfl⟩;rw[V1.u]));exact yB (v:=.tuple #[FW,ϕ]) (by simp[results,uO,go_sem,FW]) rfl ⟨by rw[S.u],hB⟩
 have ht:BP (Aw m root (a/16))<12:=Ef ek
 have V1:=AA (En ek);obtain⟨b',jj,b3,lR,c3,e,gs,D3,dr,D4⟩:=H0.word aq ht (ω:a/4%4<4);cases e;have qr:=((AJ w (.cells #[θ,θ,υ] 127)).cell (p:=⟨b,a6+BP (Aw m root (a/16)),none⟩) J).trans D3;have qp:=((AJ w (.cells #[θ,θ,υ] 127)).cell (p:=⟨b3,lR+a/4%4,none⟩) dr).trans D4;have kr:=Hy aq ht (ω:a/4%4<4);have E2:=AA (λW=>Fk (Aw m (BP (Aw m root (a/16))) (a/4%4)) W ω);cases ij:Bv (Aw m (BP (Aw m root (a/16))) (a/4%4))
 .have S:=AA (show JC m root a=.tuple #[FW,.int .i64 2] by simp[JC,CU,ek,ij])
  have V2:=AA (Et ij);clear H0 Hb D2 D3 D4 ek ij lV kr J ad dr gs;go_in;go_wp2_with fail;refine(hA _).mono ?_;rintro e w' ⟨rfl,rfl⟩;go_wp2_with fail;refine(E1 _).mono ?_;rintro e w' ⟨rfl,rfl⟩;rw[V1.u];go_wp2_with (refine(E2 _).mono ?_;rintro e w' ⟨rfl,rfl⟩;rw[V2.u]);exact yB (v:=.tuple #[FW,.int .i64 2]) (by simp[results,uO,go_sem,FW]) rfl ⟨by rw[S.u],hB⟩
 have S:=AA (show JC m root a=.tuple #[.agg #[.int .i64 ((BP (Aw m (BP (Aw m root (a/16))) (a/4%4)):Nat):Int),.int .i64 ((a%4:Nat):Int),.bool (LZ (Aw m root (a/16))&&LZ (Aw m (BP (Aw m root (a/16))) (a/4%4)))],θ] by simp[JC,CU,ek,ij,Mb])
 have V2:=AA (En ij);cases hx:LZ (Aw m root (a/16))
 all_goals
  rw[hx] at V1 S;clear H0 Hb D2 D3 D4 ek ij lV kr J ad dr gs hx;go_in;go_wp2_with fail;refine(hA _).mono ?_;rintro e w' ⟨rfl,rfl⟩;go_wp2_with fail;refine(E1 _).mono ?_;rintro e w' ⟨rfl,rfl⟩;rw[V1.u];go_wp2_with fail;refine(E2 _).mono ?_;rintro e w' ⟨rfl,rfl⟩;rw[V2.u];go_wp2_with fail
 .exact yB (v:=.tuple #[.agg #[.int .i64 ((BP (Aw m (BP (Aw m root (a/16))) (a/4%4)):Nat):Int),.int .i64 ((a%4:Nat):Int),υ],θ]) (by simp[results,uO,go_sem]) rfl ⟨by rw[S.u,Bool.false_and],(yN _ _).alloc (yF _) _⟩
 exact yB (v:=.tuple #[.agg #[.int .i64 ((BP (Aw m (BP (Aw m root (a/16))) (a/4%4)):Nat):Int),.int .i64 ((a%4:Nat):Int),.bool (LZ (Aw m (BP (Aw m root (a/16))) (a/4%4)))],θ]) (by simp[results,uO,go_sem]) rfl ⟨by rw[S.u,Bool.true_and],(yN _ _).alloc (yF _) _⟩
theorem L9.row4{a:Option Addr}(h:L9 w a m)(aq:By m=true){f:Nat}(hf:f<12):
 ∃b a6 b2 ca c2,a=some ⟨b,a6,none⟩/\b<w.heap.size/\w.cell? ⟨b,a6+f,none⟩=some (.slice (some ⟨b2,ca,none⟩) 4 c2)/\b2<w.heap.size/\4<=c2/\∀i,i<4->w.cell? ⟨b2,ca+i,none⟩=some (.int .i64 (Aw m f i)):=by
 obtain⟨hl,hr⟩:=Aj.1 aq;obtain⟨b,a6,u,rfl,ay,hc,lh⟩:=h f ω;have h4:=(BB.1 (hr f hf)).1;obtain⟨a2,c2,rfl,jc,_,h2⟩:=lh.open;obtain⟨b2,ca,rfl,jw,_⟩:=h2.cellAt (ω:0<(AK m f).length);rw[h4] at hc jc;refine⟨b,a6,b2,ca,c2,rfl,ay,hc,jw,jc,λi E=>?_⟩;obtain⟨b',jj,e,_,bE⟩:=h2.cellAt (ω:i<(AK m f).length);cases e;exact bE
def Ij(m:List (List Int))(ns:List Nat):List Nat:=ns.flatMap λn=>named (AK m n)
variable{fs ns:List Nat}
theorem Zj{k:Nat}(h:k<ns.length):Ij m (ns.take (k+1))=Ij m (ns.take k)++named (AK m (ns.getD k 0)):=by rw[DA (A6 (d:=0) h)];simp[Ij]
variable{T ao b0 g j lo lo' q sz t:Nat}
theorem KV (h:j<r.length):named (r.take (j+1))=named (r.take j)++(if Bv (r.getD j 0) then[BP (r.getD j 0)] else[]):=by
 rw[DA (A6 (d:=0) h)];unfold named;rw[wD,xK]
 congr 1
 rw[vN,vk]
 split<;>simp_all
theorem MJ (aq:By m=true)(N:∀n∈ns,n<12):(Ij m ns).length<=4*ns.length:=by
 induction ns with
 |nil=>simp[Ij]
 |cons n ns ih=>have A:=ih (λx hx=>N x (List.mem_cons_of_mem _ hx));have H:=Fh (r:=AK m n);have h3:=(BB.1 ((Aj.1 aq).2 n (N n (List.mem_cons_self ..)))).1;simp only[Ij,List.flatMap_cons,yz,vT] at A ⊢;omega
theorem MK:g∈Ij m ns↔∃n∈ns,g∈named (AK m n):=by simp[Ij]
theorem Z7{k:Nat}(h:k<ns.length):ns.getD k 0∈ns:=Di h
theorem Ps{e:Nat}{xs:List Φ}(h:w'.ownsRow lo e sz v n xs)(K:w.grownBy w' v.ownBlock)(au:lo<=w.heap.size):Γ lo w w':=(yN lo w).grown K au (λk hk=>(yC h k hk).1)
theorem Ro{e:Nat}{xs:List Φ}(h:w'.ownsRow lo e sz v n xs)(hv:v.ownBlock=u.ownBlock)(K:w.grownBy w' u.ownBlock)(au:lo<=w.heap.size):Γ lo w w':=Ps h (hv▸K) au
def bv(m:List (List Int))(ns:List Nat)(w:Ω)(e:Ending)(w':Ω):Prop:=∃v' ts,e=.returned v'/\AE w w' v' (A5 ts)/\(∀g,g∈ts↔g∈Ij m ns)/\ts.length<=(Ij m ns).length/\Γ w w w'
theorem Up (v v2:Φ)(m:List (List Int))(ns:List Nat)(w:Ω)(h:Bl w v m)(aq:By m=true)(H:A1 w v2 (A5 ns))(N:∀n∈ns,n<12)(hl:ns.length<=1000):
 Ξ prog 162 #[v,v2] w (bv m ns w):=by
 obtain⟨q,c,rfl,hc,cq,H0⟩:=h.open;obtain⟨q2,c2,rfl,jc,jD,H2⟩:=H.open;have cl:=(Aj.1 aq).1;have h8:=MJ aq N;unfold maxLen at cq jD;rw[cl] at hc ⊢;rw[Cu] at jc ⊢;have Hn:=AA N;have f4:=AA aq;have HR:=AA H0;have HI:=AA H2;clear h H N aq H0 H2 cl;go_in;go_wp2_with fail;go_loopw [5,15] (λo i wr=>∃k:Nat,k<=ns.length/\i=.int .i64 k/\AE w wr o (A5 (Ij m (ns.take k)))/\Γ w w wr) (λ_ i _=>ns.length - (intOf i).toNat)
 exact⟨0,yt _,rfl,xy _ _ _ _,yN _ _⟩
 obtain⟨k,hk,rfl,hO,al⟩:=hrel
 by_cases ay:k<ns.length
 .obtain⟨b,a6,rfl,J,D0⟩:=HI.cellAt (show k<(A5 ns).length by rw[Cu];exact ay)
  rw[So ay] at D0;have Hb:=(al.cell (p:=⟨b,a6+k,none⟩) J).trans D0;have jt:=Hn _ (Z7 ay);obtain⟨bm,fb,br,fa,cr,rfl,jI,M0,j1,mp,W0⟩:=HR.row4 f4 jt;have M:=(al.cell (p:=⟨bm,fb+ns.getD k 0,none⟩) jI).trans M0;have HW:=AA W0;have it:=AA (BB.1 ((Aj.1 f4.u).2 _ jt)).1;have AS:=AA (Zj (m:=m) ay);generalize hnk:ns.getD k 0=nk at*;have qk:=AA hnk;have me:(Ij m (ns.take k)).length<=4*k:=by
   have:=MJ f4 (ns:=ns.take k) (λn N=>Hn n (List.mem_of_mem_take N));rw[ym] at this;omega
  clear D0 M0 W0 hnk;have HO:=AA hO;have HB:=AA al;clear hO;go_wp2_with fail;clear Hb M al;obtain⟨wo,rfl⟩:∃wo:Ω,wo=wr:=⟨_,rfl⟩
  go_loopw [5,24] (λo i wi=>∃j:Nat,j<=4/\i=.int .i64 j/\AE w wi o (A5 (Ij m (ns.take k)++named ((AK m nk).take j)))/\Γ w w wi) (λ_ i _=>4 - (intOf i).toNat)
  exact⟨0,ω,rfl,by simpa[named] using HO.u,HB.u⟩
  obtain⟨j,hj,rfl,iL,bC⟩:=hrel
  by_cases ex:j<4
  .have W:=(bC.cell (p:=⟨br,fa+j,none⟩) j1).trans (HW j ex)
   have NT:=AA (KV (r:=AK m nk) (j:=j) (by rw[it.u];exact ex));have wb:=Hy f4 jt ex;have CE:=AA (λW=>Fk (Aw m nk j) W ω);have lI:=AA iL;have a8:(Ij m (ns.take k)++named ((AK m nk).take j)).length<=4*k+4:=by have:=Fh (r:=(AK m nk).take j);rw[ym] at this;rw[yz];omega
   have g8:=bC.size;clear iL;cases K:Bv (Aw m nk j)
   .have vs:=AA (Et K)
    have hi:=AA (show Ij m (ns.take k)++named ((AK m nk).take (j+1))=Ij m (ns.take k)++named ((AK m nk).take j) by rw[NT.u,show(AK m nk).getD j 0=Aw m nk j from rfl,K];simp);clear K;go_wp2_with (go_at_call 158;refine(CE _).mono ?_;rintro e w' ⟨rfl,rfl⟩;rw[vs.u]);go_roundw;exact⟨j+1,ω,ξ,by rw[hi.u];exact lI.u,bC⟩;simp[intOf];omega
   have vs:=AA (En K)
   have hi:=AA (show Ij m (ns.take k)++named ((AK m nk).take (j+1))=(Ij m (ns.take k)++named ((AK m nk).take j))++[BP (Aw m nk j)] by rw[NT.u,show(AK m nk).getD j 0=Aw m nk j from rfl,K];simp);clear K;generalize Ij m (ns.take k)++named ((AK m nk).take j)=acc at*;have py:=AA (λob=>(by have:=A8 lI (AJ wr ob);rwa [Cu] at this:(wr.alloc ob).ownsRow w.heap.size 3 1 u5 acc.length ((A5 acc).map (yl .i64))));go_wp2_with (first|(go_at_call 158;refine(CE _).mono ?_;rintro e w' ⟨rfl,rfl⟩;rw[vs.u])|(at_builtin;go_must (refine Ek (lo:=w.heap.size) (v:=u5) (n:=acc.length) (xs:=(A5 acc).map (yl .i64)) (m:=1) (news:=[.int .i64 ((BP (Aw m nk j):Nat):Int)]) rfl rfl 3 (.int .i64 0) 1 8 underlying29 Tryz.zS rfl ψ rfl (py _) rfl (Rd.zM _ #[_] _ 1 1 _ rfl χ ζ) (by simp[xR]) μ ω η ?_;intro o' w3 k1 k2 k3)));have call:AE w w3 o' (A5 (acc++[BP (Aw m nk j)])):=by unfold AE;rw[Cu,yz];simpa[A5] using k1
   rw[<-hi.u] at call;have RR:=AA call;clear k1 k2 call;go_roundw;exact⟨j+1,ω,ξ,RR.u,(bC.trans ((AJ _ _).mono bC.size)).trans k3⟩;simp[intOf];omega
  obtain rfl:j=4:=ω;have hi:Ij m (ns.take k)++named ((AK m nk).take 4)=Ij m (ns.take (k+1)):=by rw[AS.u,xm (l:=AK m nk) (i:=4) (uw it.u)]
  rw[hi] at iL;clear hi;go_wp2;go_roundw;exact⟨k+1,ω,ξ,iL,bC⟩;simp[intOf];omega
 obtain rfl:k=ns.length:=ω;rw[xE] at hO;have CS:=AA (OY u5 (Ij m ns) wr hO ω);clear hO;go_wp2_with fail;refine CS.mono ?_;rintro e w1 ⟨rfl,ts,t1,t2,jK,ek⟩;have be:=al.trans (Ps jK ek al.size);have oK:=be.size;have CC:=AA (Lu u5 ts w1 jK ω);clear jK ek al;go_wp2_with (refine CC.mono ?_;rintro e w2 ⟨v',rfl,lX,lO,s1,s2,kU,ij⟩);go_ret;exact⟨_,lO,rfl,kU,λg=>(s2 g).trans (t2 g),ω,be.trans (Ro kU lX ij oK)⟩
def Nt(m:List (List Int))(root:Int)(w:Ω)(e:Ending)(w':Ω):Prop:=∃v' ts,e=.returned v'/\AE w w' v' (A5 ts)/\(∀g,g∈ts↔g∈Bg m root)/\ts.length<=100/\Γ w w w'
theorem ap:g∈Bg m (n:Int)↔g=n∨g∈Ij m [n]∨g∈Ij m (Ij m [n]):=by
 rw[Dz];simp only[yq,MK,xD,exists_eq_left];constructor
 .rintro⟨_,h⟩;exact h
 intro h;exact⟨ω,h⟩
theorem Xx{a b:List Nat}(h:∀g,g∈a↔g∈b)(g:Nat):g∈Ij m a↔g∈Ij m b:=by
 rw[MK,MK];exact exists_congr λn=>and_congr_left λ_=>h n
theorem Ma (w:Ω)(x:Int):AE w (w.alloc (.cells #[x] 3)) (.slice w 1 1) [x]:=World.ownsRow_lit (base:=w.heap.size) w #[.int .i64 x] 1 (yF _) ζ χ
theorem Wv (n:Nat):A5 [n]=[(n:Int)]:=rfl
theorem ct (a b:List Nat):A5 (a++b)=A5 a++A5 b:=by simp[A5]
theorem Oc{a b:List Nat}(h:w.ownsRow lo 3 1 v (a.length+b.length) ((A5 a).map (yl .i64)++(A5 b).map (yl .i64))):AE lo w v (A5 (a++b)):=by unfold AE;rw[Cu,yz,ct,xK];exact h
theorem Qj (v:Φ)(m:List (List Int))(n:Nat)(w:Ω)(h:Bl w v m)(aq:By m=true)(N:n<12):
 Ξ prog 100 #[v,.int .i64 n] w (Nt m (n:Int) w):=by
 have i8:=MJ aq (ns:=[n]) (by simpa using N);have C1:=AA (λW v2 ns (hW:Γ w w W) (H:A1 W v2 (A5 ns)) (oN:∀n∈ns,n<12) (hl:ns.length<=1000)=>Up v v2 m ns W (by obtain⟨V,a,b⟩:=h;exact Bl.below ⟨V,a,b⟩ hW) aq H oN hl);have i7:∀ns:List Nat,∀g∈Ij m ns,g<12:=by intro ns g K;obtain⟨_,_,K⟩:=MK.1 K;exact GI K
 have h8:∀ns:List Nat,(∀g∈ns,g<12)->(Ij m ns).length<=4*ns.length:=λns h=>MJ aq h
 obtain⟨q,c,rfl,hc,cq,_⟩:=h.open;have pB:=AA i7;have pI:=AA h8;have i0:(0:Int)<=(n:Int):=ω;clear h aq hc cq i7 h8;go_in;go_wp2_with fail;have b1:=AJ w (.cells #[n] 3);have b2:=IE w (.cells #[n] 3) (.cells #[n] 3);have O1:=AA ((Ma w (n:Int)).below (AJ _ (.cells #[n] 3)));have O2:=Ma (w.alloc (.cells #[n] 3)) (n:Int);rw[xz] at O2;refine(C1 _ _ [n] b2 (by rw[Wv];exact AE.rd O2) (by simpa using N) χ).mono ?_;rintro e w1 ⟨v1,t1,rfl,P1,m1,l1,be⟩;have Q1:=AA (O1.below be);have B1:=b2.trans (be.mono b2.size);have s1:=B1.size;obtain⟨a1,c1,rfl,_,_,_⟩:=P1.rd.open;have mN:=AA (AE.rd P1);rw[Cu] at mN ⊢;clear be b1 b2 O2 P1 O1;have R1:=AA (show Rd w1 (.slice a1 t1.length c1) 1 t1.length ((A5 t1).map (yl .i64)) by have:=mN.u;unfold A1 at this;rwa [Cu] at this);have A:t1.length<=4:=by simp at i8;omega
 go_wp2_with (at_builtin;go_must (refine Ek (lo:=w.heap.size) (v:=.slice w 1 1) (n:=1) (xs:=[.int .i64 n]) (m:=t1.length) (news:=(A5 t1).map (yl .i64)) rfl rfl 3 (.int .i64 0) 1 8 underlying29 Tryz.zS rfl ψ rfl Q1 rfl R1 MV μ ω ω ?_;intro o2 w2 k1 k2 k3));have O3:=AA (Oc (a:=[n]) k1);have B2:=B1.trans k3;have s2:=B2.size;clear k1 k2 k3 Q1 R1 mN B1;have b3:=B2.trans ((AJ w2 (.cells #[n] 3)).mono s2);have O4:=AA (O3.below (AJ w2 (.cells #[n] 3)));have CN:=AA (C1 _ _ [n] b3 (by rw[Wv];exact AE.rd (Ma w2 (n:Int))) (by simpa using N) χ);clear O3;go_wp2_with fail;refine CN.mono ?_;rintro e w3 ⟨v3,t3,rfl,P3,m3,l3,dr⟩;have O5:=AA (O4.below dr);have B3:=b3.trans (dr.mono b3.size);have s3:=B3.size;have h3:t3.length<=4:=by simp at i8;omega
 have ka:∀g∈t3,g<12:=λg K=>pB _ g ((m3 g).1 K)
 have CM:=AA (C1 _ v3 t3 B3 (AE.rd P3) ka ω);have h4:=pI t3 ka;have M3:=AA m3;have M1:=AA m1;clear dr b3 P3 O4 CN m3 m1;go_wp2_with fail;refine CM.mono ?_;rintro e w4 ⟨v4,t4,rfl,P4,m4,l4,bA⟩;have O6:=AA (O5.below bA);have nY:=AA (show w4.ownsRow w.heap.size 3 1 o2 ([n]++t1).length ((A5 ([n]++t1)).map (yl .i64)) by have:=O6.u;unfold AE at this;rwa [Cu] at this);have B4:=B3.trans (bA.mono s3);have s4:=B4.size;have R4:=AA (show Rd w4 v4 1 t4.length ((A5 t4).map (yl .i64)) by have:=AE.rd P4;unfold A1 at this;rwa [Cu] at this);have M4:=AA m4;have pW:([n]++t1).length<=5:=η;clear bA P4 m4 O5;have bX:=AA (show ∀g,g∈(([n]++t1)++t4)↔g∈Bg m (n:Int) by intro g;rw[ap,wJ,wJ,xD,M1.u,M4.u,Xx M3.u,or_assoc])
 generalize[n]++t1=acc at*;go_wp2_with (at_builtin;go_must (refine Ek (lo:=w.heap.size) (v:=o2) (n:=acc.length) (xs:=(A5 acc).map (yl .i64)) (m:=t4.length) (news:=(A5 t4).map (yl .i64)) rfl rfl 3 (.int .i64 0) 1 8 underlying29 Tryz.zS rfl ψ rfl nY rfl R4 MV μ ω ω ?_;intro o5 w5 k1 k2 k3));have O7:=Oc k1;have B5:=B4.trans k3;have s5:=B5.size;have jy:(acc++t4).length<=21:=by rw[yz];omega
 have CS:=AA (OY o5 (acc++t4) w5 O7 ω);generalize acc++t4=fin at*;clear k1 k2 k3 O7 O6 nY R4 B4;go_wp2_with fail;refine CS.mono ?_;rintro e w6 ⟨rfl,ts,u1,u2,jK,ek⟩;have B6:=B5.trans (Ps jK ek s5);have s6:=B6.size;have CC:=AA (Lu o5 ts w6 jK ω);clear jK ek B5;go_wp2_with (refine CC.mono ?_;rintro e w7 ⟨v',rfl,lX,lO,y1,y2,kU,ij⟩);go_ret;exact⟨_,lO,rfl,kU,λg=>((y2 g).trans (u2 g)).trans (bX g),ω,B6.trans (Ro kU lX ij s6)⟩
theorem Qk (v:Φ)(m:List (List Int))(r:Int)(w:Ω)(h:Bl w v m)(hr:r<0):Ξ prog 100 #[v,.int .i64 r] w (Nt m r w):=by
 obtain⟨q,c,rfl,_,_,_⟩:=h.open;have S:=AA (show ∀g,g∈([]:List Nat)↔g∈Bg m r from λg=>⟨(λh=>by cases h),(λh=>by have:=(Dz.1 h).1;omega)⟩);clear h;go_in;go_wp2;go_ret;exact⟨_,[],rfl,xy _ _ _ _,S.u,ψ,yN _ _⟩
theorem Ra (F:Nat)(gp:Array Φ)(p:Int->Bool)(v:Φ)(xs:List Int)(w:Ω)(h:A1 w v xs)
 (hF:∀args w,(callFunc F args).run prog w=.ok (.enter F args) w)(hf:∀x,x∈xs->∀W,Γ w.heap.size w W->Ξ prog F (#[.int .i64 x]++gp) W λe W'=>e=.returned (.bool (p x))/\Γ W.heap.size W W'):
 Ξ prog 215 #[v,.func (.func F) #[] gp] w λe w'=>e=.returned (.int .i64 (GV p xs))/\Γ w w w':=by
 obtain⟨a,c,rfl,hc,cq,H0⟩:=h.open;clear h;unfold maxLen at cq;have Hf:=AA hf;clear hf;go_in;go_wp2;go_loopw [8] (λi wr=>∃k:Nat,k<=xs.length/\i=.int .i64 k/\(∀(j:Nat) x,j<k->xs[j]?=some x->p x=false)/\Γ w w wr) (λi _=>xs.length - (intOf i).toNat)
 exact⟨0,yt _,rfl,λj x hj=>absurd hj (Nat.not_lt_zero _),yN _ _⟩
 obtain⟨k,hk,rfl,ku,al⟩:=hrel;have jM:=AA ku;clear ku
 by_cases ay:k<xs.length
 .have hx:xs[k]?=some (nth xs k):=Sp ay
  obtain⟨b,a6,rfl,iJ,oh⟩:=H0.cellAt ay;have D0:=(al.cell (p:=⟨b,a6+k,none⟩) iJ).trans oh;clear oh;have Hx:=AA hx;have Hc:=AA (Hf _ (yv hx) wr al);clear hx;cases hp:p (nth xs k)
  .have Hp:=AA hp;clear hp
   go_wp2_with (refine Hc.mono ?_;rintro e w' ⟨rfl,ad⟩;rw[Hp.u]);go_roundw;exact⟨k+1,ω,ξ,Ja jM Hx Hp.u,al.trans (ad.mono al.size)⟩;simp[intOf];omega
  have Hp:=AA hp;clear hp
  have js:=AA (Kx Hx jM Hp.u);go_wp2_with (refine Hc.mono ?_;rintro e w' ⟨rfl,ad⟩;rw[Hp.u]);go_ret;exact⟨Cy js.symm,al.trans (ad.mono al.size)⟩
 have js:=AA (Jd (p:=p) (xs:=xs) (λj x hx=>jM j x (by have:=(yA.1 hx).1;omega) hx))
 go_wp2;go_ret;exact⟨Cy js.symm,al⟩
theorem Kd (F:Nat)(gp:Array Φ)(p:Int->Bool)(v:Φ)(xs:List Int)(w:Ω)(h:A1 w v xs)
 (hF:∀args w,(callFunc F args).run prog w=.ok (.enter F args) w)(hf:∀x,x∈xs->∀W,Γ w.heap.size w W->Ξ prog F (#[.int .i64 x]++gp) W λe W'=>e=.returned (.bool (p x))/\Γ W.heap.size W W'):
 Ξ prog 160 #[v,.func (.func F) #[] gp] w λe w'=>e=.returned (.bool (xs.any p))/\Γ w w w':=by
 have hi:=AA (Ky (p:=p) (xs:=xs));have C:=AA (Ra F gp p v xs w h hF hf);clear h hf;go_in;go_wp2_with (refine C.mono ?_;rintro e w' ⟨rfl,ad⟩);go_ret;exact⟨AF hi.u,ad⟩
theorem VR (f:Nat)(v:Φ)(ss:List ByteArray)(iv:Φ)(Zh:List AX)(br bk gk:Nat)(w:Ω)(hr:w.cell? br=some v)(hk:w.cell? bk=some (.pointer gk))
 (E:w.cell? (gk,1)=some iv)(hv:BY w v ss)(hI:Bf w iv Zh)(hf:f<Zh.length):
 Ξ prog 161 #[.int .i64 f,.pointer br,.pointer bk] w λe w'=>e=.returned (.bool (!Cd ss (JR Zh f).g))/\Γ w w w':=by
 obtain⟨a,c,rfl,hc,cq,H0⟩:=BK.open Az ψ hI;obtain⟨b,a6,rfl,J,D0,D1,D2⟩:=H0.zZ hf;have M:=VP (w1:=w) (λW hW=>Q9 v ss (JR Zh f).g W (BK.below hv hW));obtain⟨av,cv,rfl,_,_⟩:=hv.shape;have k0:=yw hr;have k1:=yw hk;have k2:=yw E;have k3:=yw D1;have f0:(f:Int)<Zh.length:=ω;clear H0 hI hv D0 D1 D2;go_in;go_wp2_with fail;refine Ba ?_
 repeat(go_big_quiet_step (exact M _ _))
 refine BZ λwq bq=>?_
 go_wp2;go_ret;exact⟨rfl,bq⟩
theorem JZ (gk:Nat)(v v2 iv:Φ)(ss:List ByteArray)(fs:List Nat)(Zh:List AX)(w:Ω)(E:w.cell? (gk,1)=some iv)(hv:BY w v ss)(hI:Bf w iv Zh)(H:A1 w v2 (A5 fs))(kH:∀f∈fs,f<Zh.length):
 Ξ prog 99 #[.pointer gk,v,v2] w λe w'=>e=.returned (.bool (BM Zh fs ss))/\Γ w w w':=by
 have b2:=IE w (.cells #[.pointer gk] 95) (.cells #[v] 79);have mK:(w.alloc (.cells #[.pointer gk] 95)).cell? w=some (.pointer gk):=yy _ _ 0 _ _ _ (yx _ _);have ck:((w.alloc (.cells #[.pointer gk] 95)).alloc (.cells #[v] 79)).cell? w=some (.pointer gk):=((AJ _ _).cell (yK _ _ mK)).trans mK;have cv:((w.alloc (.cells #[.pointer gk] 95)).alloc (.cells #[v] 79)).cell? (w.heap.size+1,0)=some v:=by
  have:=yy _ _ 0 _ _ _ (yx (w.alloc (.cells #[.pointer gk] 95)) (.cells #[v] 79))
  rwa [xz] at this
 have j0:=yK w _ E;have S:=AA (show(!(A5 fs).any (λx=>!Cd ss (JR Zh x.toNat).g))=BM Zh fs ss by rw[Ob];unfold A5 BM;rw[List.all_map];rfl);have C:=AA (Kd 161 #[.pointer (some ⟨w.heap.size+1,0,none⟩),.pointer w] (λx=>!Cd ss (JR Zh x.toNat).g) v2 (A5 fs) _ (A1.below H b2) (λ_ _=>φ) (by intro x hx W hW;obtain⟨n,N,rfl⟩:=vU.1 hx;have J:=b2.trans (hW.mono b2.size);exact VR n v ss iv Zh _ _ gk W ((hW.cell (yK _ _ cv)).trans cv) ((hW.cell (yK _ _ ck)).trans ck) ((J.cell j0).trans E) (BK.below hv J) (BK.below hI J) (kH n N)))
 obtain⟨a,c,rfl,_,_,_⟩:=H.open;obtain⟨a',c',rfl,_,_⟩:=hv.shape;clear hv hI H E mK ck cv kH;go_in;go_wp2_with (refine C.mono ?_;rintro e w' ⟨rfl,ad⟩);go_ret;exact⟨AF S.u,b2.trans (ad.mono b2.size)⟩
theorem Ur{k:Int}(h:Bp k=true):XM k=k - 1:=by unfold XM;rw[if_pos h]
theorem YK{Zh:List AX}:GQ Zh f kind ss 0=true:=Mz.2 (.inr ⟨rfl,rfl⟩)
theorem aB{Zh:List AX}{x:Int}(h0:x≠0)(h:Bv x=false):GQ Zh f kind ss x=false:=by simp[GQ,h,h0]
theorem Uh{Zh:List AX}{x:Int}(h:Bv x=true):GQ Zh f kind ss x=(decide (BP x≠f)&&decide ((JR Zh (BP x)).k=kind - 1)&&Cd ss (JR Zh (BP x)).g):=by simp[GQ,h]
theorem aA (x:Int)(f:Nat)(kind:Int)(v iv:Φ)(ss:List ByteArray)(Zh:List AX)(bf bi bk br:Nat)(w:Ω)(hx:x<=9223372036854775807)(A:w.cell? bf=some (.int .i64 f))(H:w.cell? bi=some iv)(h3:w.cell? bk=some (.int .i64 kind))(h4:w.cell? br=some v)
 (hv:BY w v ss)(hI:Bf w iv Zh)(hl:Zh.length=12)(hk:Bp kind=true):
 Ξ prog 165 #[.int .i64 x,.pointer bf,.pointer bi,.pointer bk,.pointer br] w λe w'=>e=.returned (.bool (!GQ Zh f kind ss x))/\Γ w w w':=by
 obtain⟨a,c,rfl,hc,cq,H0⟩:=BK.open Az ψ hI;have CE:=AA (λW=>Fk x W hx);have k1:=yw A;have k2:=yw H;have k3:=yw h3;have k4:=yw h4;have cT:=WT (w1:=w) (λW=>MI kind W);rw[Ur hk] at cT
 by_cases kq:x=0
 .subst kq
  have vs:=AA (Et (x:=0) rfl);have S:=AA (show(!GQ Zh f kind ss 0)=false by rw[YK];rfl);clear H0 hI hv A H h3 h4 hk hc cq;go_in;go_wp2_with (go_at_call 158;refine(CE _).mono ?_;rintro e w' ⟨rfl,rfl⟩;rw[vs.u]);refine Ba ?_
  repeat(go_big_quiet_step (exact cT _ _))
  refine BZ λwq bq=>?_
  go_wp2;go_ret;exact⟨AF S.symm,bq⟩
 have t0:(x !=0)=true:=by simp[kq]
 cases K:Bv x
 .have vs:=AA (Et K)
  have S:=AA (show(!GQ Zh f kind ss x)=true by rw[aB kq K];rfl);clear H0 hI hv A H h3 h4 hk hc cq K kq;go_in;go_wp2_with (go_at_call 158;refine(CE _).mono ?_;rintro e w' ⟨rfl,rfl⟩;rw[vs.u]);refine Ba ?_
  repeat(go_big_quiet_step (exact cT _ _))
  refine BZ λwq bq=>?_
  go_wp2;go_ret;exact⟨AF S.symm,bq⟩
 have hF:=Ef K
 have vs:=AA (En K);have G:=AA (Uh (Zh:=Zh) (f:=f) (kind:=kind) (ss:=ss) K);obtain⟨b,a6,rfl,J,D0,D1,D2⟩:=H0.zZ (ω:BP x<Zh.length);have d0:=yw D0;have d1:=yw D1;have M:=VP (w1:=w) (λW hW=>Q9 v ss (JR Zh (BP x)).g W (BK.below hv hW));obtain⟨av,cv,rfl,_,_⟩:=hv.shape;have i1:((BP x:Nat):Int)<Zh.length:=ω;clear H0 hI hv A H h3 h4 hk hc cq D0 D1 D2 kq K;generalize BP x=o at*
 by_cases e1:o=f
 .have t1:((o:Int)==(f:Int))=true:=by simp[e1]
  have S:=AA (show(!GQ Zh f kind ss x)=true by rw[G.u];simp[e1]);clear e1;go_in;go_wp2_with (go_at_call 158;refine(CE _).mono ?_;rintro e w' ⟨rfl,rfl⟩;rw[vs.u]);refine Ba ?_
  repeat(go_big_quiet_step (first|exact cT _ _|exact M _ _))
  refine BZ λwq bq=>?_
  go_wp2;go_ret;exact⟨AF S.symm,bq⟩
 have t1:((o:Int)==(f:Int))=false:=η;by_cases e2:(JR Zh o).k=kind - 1
 focus
  have t2:((JR Zh o).k !=kind - 1)=false:=by simp[e2]
  have S:=AA (show(!GQ Zh f kind ss x)=!Cd ss (JR Zh o).g by rw[G.u];simp[e1,e2])
 rotate_left
 focus
  have t2:((JR Zh o).k !=kind - 1)=true:=by simp[e2]
  have S:=AA (show(!GQ Zh f kind ss x)=true by rw[G.u];simp[e2])
 rotate_left
 all_goals
  clear e1 e2;go_in;go_wp2_with (go_at_call 158;refine(CE _).mono ?_;rintro e w' ⟨rfl,rfl⟩;rw[vs.u]);refine Ba ?_
  repeat(go_big_quiet_step (first|exact cT _ _|exact M _ _))
  refine BZ λwq bq=>?_
  go_wp2;go_ret;exact⟨AF S.symm,bq⟩
theorem Wp (v iv rv:Φ)(m:List (List Int))(Zh:List AX)(f:Nat)(kind:Int)(ss:List ByteArray)(w:Ω)(h:Bl w v m)(aq:By m=true)(hI:Bf w iv Zh)(hl:Zh.length=12)(hf:f<12)(hk:Bp kind=true)(hv:BY w rv ss):
 Ξ prog 102 #[v,iv,.int .i64 f,.int .i64 kind,rv] w λe w'=>e=.returned (.bool (JB m Zh f kind ss))/\Γ w w w':=by
 obtain⟨ai,ci,rfl,_,_⟩:=hI.shape;obtain⟨av,cv,rfl,_,_⟩:=hv.shape;have b4:=fe w (.cells #[.slice ai Zh.length ci] 24) (.cells #[f] 3) (.cells #[kind] 3) (.cells #[.slice av ss.length cv] 79);have N0:=yx w (.cells #[.slice ai Zh.length ci] 24);have N1:=yx (w.alloc (.cells #[.slice ai Zh.length ci] 24)) (.cells #[f] 3);have N2:=yx ((w.alloc (.cells #[.slice ai Zh.length ci] 24)).alloc (.cells #[f] 3)) (.cells #[kind] 3);have N3:=yx (((w.alloc (.cells #[.slice ai Zh.length ci] 24)).alloc (.cells #[f] 3)).alloc (.cells #[kind] 3)) (.cells #[.slice av ss.length cv] 79);simp only[xz] at N1 N2 N3;have M2:=AB N2 (AJ _ (.cells #[.slice av ss.length cv] 79));have M1:=AB N1 (IE _ (.cells #[kind] 3) (.cells #[.slice av ss.length cv] 79));have M0:=AB N0 (cJ _ (.cells #[f] 3) (.cells #[kind] 3) (.cells #[.slice av ss.length cv] 79));obtain⟨q,c,rfl,hc,cq,H0⟩:=h.open;have cl:=(Aj.1 aq).1;obtain⟨bm,fb,br,fa,cr,rfl,jI,Hb,j1,mp,W0⟩:=H0.row4 aq hf;have D':=(b4.cell (p:=⟨bm,fb+f,none⟩) jI).trans Hb;have rd:=(Bl.open (Bl.below h b4));have fc:A1 ((((w.alloc (.cells #[.slice ai Zh.length ci] 24)).alloc (.cells #[f] 3)).alloc (.cells #[kind] 3)).alloc (.cells #[.slice av ss.length cv] 79)) (.slice (some ⟨br,fa,none⟩) 4 cr) (AK m f):=by obtain⟨b',jj,u,e,_,nK,hr⟩:=H0 f ω;cases e;rw[Hb] at nK;cases nK;exact A1.below hr b4
 have S:=AA (show(!(AK m f).any λx=>!GQ Zh f kind ss x)=JB m Zh f kind ss by rw[Ob];rfl);have hw:∀x,x∈AK m f->x<=9999:=λx hx=>((BB.1 ((Aj.1 aq).2 f hf)).2 x hx).2
 have C:=AA (Kd 165 #[.pointer (some ⟨w.heap.size+1,0,none⟩),.pointer w,.pointer (some ⟨w.heap.size+1+1,0,none⟩),.pointer (some ⟨w.heap.size+1+1+1,0,none⟩)] (λx=>!GQ Zh f kind ss x) _ (AK m f) _ fc (λ_ _=>φ) (by intro x hx W hW;have J:=b4.trans (hW.mono b4.size);exact aA x f kind _ _ ss Zh _ _ _ _ W (by have:=hw x hx;omega) (yy _ _ 0 _ _ _ (AB M1 hW)) (yy _ _ 0 _ _ _ (AB M0 hW)) (yy _ _ 0 _ _ _ (AB M2 hW)) (yy _ _ 0 _ _ _ (AB N3 hW)) (BK.below hv J) (BK.below hI J) hl hk))
 have fm:(f:Int)<m.length:=ω;clear hv hI h fc hw N0 N1 N2 N3 M0 M1 M2 W0 rd H0 Hb hl cl aq;go_in;go_wp2_with (refine C.mono ?_;rintro e w' ⟨rfl,ad⟩);go_ret;exact⟨AF S.u,b4.trans (ad.mono b4.size)⟩
def Jb(m:List (List Int))(Zh:List AX)(t j g:Nat):Nat:=
 ((yL t).map λu=>if Bp (JR Zh u).k then(named (AK m u)).count g else 0).sum+(named ((AK m t).take j)).count g
def IR(m:List (List Int))(Zh:List AX)(t j:Nat):List Int:=(yL 12).map λg=>(Jb m Zh t j g:Int)
section
variable {m:List (List Int)} {Zh:List AX} {t j g:Nat}
theorem KP:(IR m Zh t j).length=12:=by simp[IR]
theorem Rt(h:g<12):nth (IR m Zh t j) g=Jb m Zh t j g:=by unfold IR nth;rw[yg,xq,sQ h];rfl
theorem UY:IR m Zh 0 0=xW 12 0:=by simp[IR,Jb,named,yL,yI,xW]
theorem eO(hj:j<(AK m t).length)(h:Bv ((AK m t).getD j 0)=false):IR m Zh t (j+1)=IR m Zh t j:=by unfold IR Jb;rw[KV hj,h];simp
theorem cQ(hj:j<(AK m t).length)(h:Bv ((AK m t).getD j 0)=true):
 IR m Zh t (j+1)=(IR m Zh t j).set (BP ((AK m t).getD j 0)) (Jb m Zh t j (BP ((AK m t).getD j 0))+1):=by
 refine Mx (by simp[IR]) λg K=>?_
 rw[KP] at K;have hf:=Ef h;rw[Vt (by rw[KP];exact hf),Rt K,Rt K];unfold Jb;rw[KV hj,h,if_pos rfl,List.count_append]
 by_cases e:g=BP ((AK m t).getD j 0)
 .subst e;simp;omega
 rw[if_neg e,List.count_singleton]
 have:(BP ((AK m t).getD j 0)==g)=false:=by simp;exact λh=>e h.symm
 rw[this];simp
theorem cO(hk:Bp (JR Zh t).k=true)(hl:(AK m t).length=4):IR m Zh t 4=IR m Zh (t+1) 0:=by unfold IR Jb;rw[xH (n:=t),xm (uw hl)];simp[hk,named]
theorem UX(hk:Bp (JR Zh t).k=false):IR m Zh t 0=IR m Zh (t+1) 0:=by unfold IR Jb;rw[xH (n:=t)];simp[hk,named]
theorem WZ:IR m Zh 12 0=(yL 12).map λg=>(countP m Zh g:Int):=by unfold IR Jb countP;simp[named]
theorem Rv(hm:By m=true)(ht:t<=12)(hj:j<=4):Jb m Zh t j g<=100:=by
 have A:((yL t).map λu=>if Bp (JR Zh u).k then(named (AK m u)).count g else 0).sum<=4*t:=by
  clear hj
  induction t with
  |zero=>simp
  |succ t ih=>
   have:=ih ω;rw[xH,xK,List.sum_append];have H:(if Bp (JR Zh t).k then(named (AK m t)).count g else 0)<=4:=by
    split
    .have h3:=vt (a:=g) (l:=named (AK m t))
     have h4:=Fh (r:=AK m t);have h5:=(BB.1 ((Aj.1 hm).2 t ω)).1;omega
    omega
   simp only[List.map_cons,List.map_nil,List.sum_cons,List.sum_nil];omega
 have h3:=vt (a:=g) (l:=named ((AK m t).take j));have h4:=Fh (r:=(AK m t).take j);rw[ym] at h4;unfold Jb;omega
end
theorem Wd (v iv:Φ)(m:List (List Int))(Zh:List AX)(w:Ω)(h:Bl w v m)(aq:By m=true)(hI:Bf w iv Zh)(hl:Zh.length=12):
 Ξ prog 96 #[v,iv] w λe w'=>∃v',e=.returned v'/\AE w w' v' ((yL 12).map λg=>(countP m Zh g:Int))/\Γ w w w':=by
 obtain⟨q,c,rfl,hc,cq,H0⟩:=h.open;obtain⟨a2,c2,rfl,jc,jD,H2⟩:=BK.open Az ψ hI;have cl:=(Aj.1 aq).1;unfold maxLen at cq jD;rw[cl] at hc ⊢;rw[hl] at jc ⊢;have f4:=AA aq;have HR:=AA H0;have HI:=AA H2;have Hl:=AA hl;clear h aq H0 H2 cl hI hl;go_in;go_wp2_with (at_make;go_must (refine RH (n:=12) rfl rfl 3 (.int .i64 0) 8 underlying29 Tryz.zS rfl rfl ω μ ?_;intro w1 iw al g8));have nN:AE w w1 (.slice w 12 12) (IR m Zh 0 0):=by unfold AE;rw[KP,UY];exact iw
 have ek:w.heap.size<=w.heap.size:=yF _;have mS:=AA al;clear iw al;go_loopw [16] (λi wr=>∃t:Nat,t<=12/\i=.int .i64 t/\AE w wr (.slice w 12 12) (IR m Zh t 0)/\Γ w w wr) (λi _=>12 - (intOf i).toNat)
 exact⟨0,yt _,rfl,nN,mS.u⟩
 obtain⟨t,ht,rfl,hO,al⟩:=hrel;clear nN
 by_cases ay:t<12
 .obtain⟨b,a6,rfl,iJ,D0,D1,D2⟩:=HI.zZ (show t<Zh.length by rw[Hl.u];exact ay)
  replace D0:=(al.cell (p:=⟨b,a6+t*3,none⟩) iJ).trans D0;replace D1:=(al.cell (p:=⟨b,a6+t*3+1,none⟩) iJ).trans D1;replace D2:=(al.cell (p:=⟨b,a6+t*3+2,none⟩) iJ).trans D2;have hn:=yx wr (.cells #[.int .i64 (JR Zh t).k,.string (JR Zh t).g,.int .i64 (JR Zh t).r] 115);have lq:=al.trans ((AJ wr (.cells #[.int .i64 (JR Zh t).k,.string (JR Zh t).g,.int .i64 (JR Zh t).r] 115)).mono al.size);have HO:=AA (AE.below hO (AJ wr (.cells #[.int .i64 (JR Zh t).k,.string (JR Zh t).g,.int .i64 (JR Zh t).r] 115)));have CT:=AA (λW=>GR (JR Zh t).k W);clear hO;obtain⟨bm,fb,br,fa,cr,rfl,jI,M0,j1,mp,W0⟩:=HR.row4 f4 ay;have HW:=AA W0;have M:=(lq.cell (p:=⟨bm,fb+t,none⟩) jI).trans M0;have it:=AA (BB.1 ((Aj.1 f4.u).2 _ ay)).1;clear W0 M0;cases hk:Bp (JR Zh t).k
  .have S:=AA (UX (m:=m) hk)
   have Z:=AA hk;clear hk;go_wp2_with (go_at_call 101;refine(CT _).mono ?_;rintro e w' ⟨rfl,rfl⟩;rw[Z.u]);go_roundw;exact⟨t+1,ω,ξ,by rw[<-S.u];exact HO.u,lq⟩;simp[intOf];omega
  have S:=AA (cO (m:=m) hk it.u)
  have Z:=AA hk;clear hk;go_wp2_with (go_at_call 101;refine(CT _).mono ?_;rintro e w' ⟨rfl,rfl⟩;rw[Z.u]);generalize wr.alloc _=wa at*;clear D0 D1 D2 M hn al;have HB:=AA lq;clear lq;go_loopw [30] (λi wi=>∃j:Nat,j<=4/\i=.int .i64 j/\AE w wi (.slice w 12 12) (IR m Zh t j)/\Γ w w wi) (λi _=>4 - (intOf i).toNat)
  exact⟨0,ω,rfl,HO.u,HB.u⟩
  obtain⟨j,hj,rfl,iL,bC⟩:=hrel
  by_cases ex:j<4
  .have W:=(bC.cell (p:=⟨br,fa+j,none⟩) j1).trans (HW j ex)
   have wb:=Hy f4 ay ex;have CE:=AA (λW=>Fk (Aw m t j) W ω);cases K:Bv (Aw m t j)
   .have vs:=AA (Et K)
    have hi:=AA (eO (Zh:=Zh) (show j<(AK m t).length by rw[it.u];exact ex) K);clear K;go_wp2_with (go_at_call 158;refine(CE _).mono ?_;rintro e w' ⟨rfl,rfl⟩;rw[vs.u]);go_roundw;exact⟨j+1,ω,ξ,by rw[hi.u];exact iL,bC⟩;simp[intOf];omega
   have vs:=AA (En K)
   have hF:=Ef K;have hi:=AA (cQ (Zh:=Zh) (show j<(AK m t).length by rw[it.u];exact ex) K);have jE:=Rv (Zh:=Zh) (g:=BP (Aw m t j)) f4 (Nat.le_of_lt ay) hj;have ir:wr.ownsRow w.heap.size 3 1 (.slice w 12 12) 12 ((IR m Zh t j).map (yl .i64)):=by have:=iL;unfold AE at this;rwa [KP] at this
   have C:=(ir.cellAt (BP (Aw m t j)) ω).trans (GX (xs:=IR m Zh t j) (by rw[KP];exact hF));rw[Rt hF] at C;have Fr:=ir.frozenAt (BP (Aw m t j));have S2:=AA (ir.stored (BP (Aw m t j)) (.int .i64 ((Jb m Zh t j (BP (Aw m t j)):Int)+1)));have e0:(AK m t).getD j 0=Aw m t j:=rfl;rw[e0] at hi;clear K e0 ir iL;generalize BP (Aw m t j)=f at*;generalize Jb m Zh t j f=n at*;go_wp2_with (go_at_call 158;refine(CE _).mono ?_;rintro e w' ⟨rfl,rfl⟩;rw[vs.u]);go_roundw
   case rel=>refine⟨j+1,ω,ξ,?_,AM bC S2.2 ek bC.size⟩;rw[hi.u];unfold AE;rw[yh,KP,vf];exact S2.1
   case measure=>simp[intOf];omega
  obtain rfl:j=4:=ω;go_wp2;go_roundw;exact⟨t+1,ω,ξ,by rw[<-S.u];exact iL,bC⟩;simp[intOf];omega
 obtain rfl:t=12:=ω;rw[WZ] at hO;go_wp2;go_ret;exact⟨_,rfl,hO,al⟩
theorem Zz{α:Type}{cs:α->List Φ}(hs:∀x,(cs x).length=sz){xs:List α}{k:Nat}{x y:α}{u:Φ}(hk:xs[k]?=some x)(hj:j<sz)(hy:cs y=(cs x).set j u):
 (Ce cs xs).set (k*sz+j) u=Ce cs (xs.set k y):=by
 have A:=SL hs (yA.1 hk).1 y;rw[<-A];refine List.ext_getElem? λi=>?_
 obtain⟨ay,hx⟩:=yA.1 hk;have J:k*sz+sz<=xs.length*sz:=by rw[<-Nat.succ_mul];exact Nat.mul_le_mul_right _ ay
 rw[A,vW,Je hs]
 by_cases E:i<xs.length*sz
 .have hz:0<sz:=ω
  have md:i/sz<xs.length:=Nat.div_lt_of_lt_mul (by rw[tg];exact E);have jv:=Nat.mod_lt i hz;have mo:i/sz*sz+i%sz=i:=by rw[tg];exact Nat.div_add_mod i sz
  have ha:(Ce cs xs)[i]?=(cs xs[i/sz])[i%sz]? :=by have:=Q0 hs (yG md) jv;rw[mo] at this;exact this
  have gs:(Ce cs (xs.set k y))[i]?=(cs ((xs.set k y)[i/sz]'(by rw[yh];exact md)))[i%sz]? :=by have:=Q0 hs (yG (l:=xs.set k y) (i:=i/sz) (by rw[yh];exact md)) jv;rw[mo] at this;exact this
  rw[ha,gs,List.getElem_set]
  by_cases e:k=i/sz
  .subst e
   rw[if_pos rfl,hy,vW,hx,hs]
   by_cases e2:j=i%sz
   .subst e2;rw[if_pos mo,if_pos ω,if_pos rfl,if_pos jv]
   rw[if_neg ω,if_neg e2]
  rw[if_neg e]
  have:¬k*sz+j=i:=by intro h;apply e;rw[<-h,tg,Nat.mul_add_div hz,Nat.div_eq_of_lt hj,xT]
  rw[if_neg this]
 rw[tf (by rw[Je hs];omega),tf (by rw[Je hs,yh];omega),if_neg ω]
section
variable {α:Type} {lo e sz:Nat} {cs:α->List Φ} {w:Ω} {g ao k j:Nat} {xs:List α}
theorem AQ.zH(hs:∀x,(cs x).length=sz)(h:AQ lo e sz cs w (.slice g xs.length ao) xs){x y:α}{u:Φ}(hk:xs[k]?=some x)(hj:j<sz)(hy:cs y=(cs x).set j u):
 AQ lo e sz cs (w.setCell (g,k*sz+j) u) (.slice g xs.length ao) (xs.set k y)/\w.grownBy (w.setCell (g,k*sz+j) u) (some g):=by
 obtain⟨A,H⟩:=wj h (k*sz+j) u;rw[Zz hs hk hj hy] at A;refine⟨?_,H⟩;unfold AQ;rw[yh];exact A
end
theorem Cg{k:Nat}(h:k<l.length):l[k]?=some (JR l k):=by simp[JR,h]
theorem IX{k:Nat}{f:AX->AX}:Ao l k f=l.set k (f (JR l k)):=KF
theorem Yq{Zh:List AX}{n:Int}(hj:j<r.length):
 BO Zh (named (r.take (j+1))) n=if Bv (r.getD j 0) then Ao (BO Zh (named (r.take j)) n) (BP (r.getD j 0)) (JI n) else BO Zh (named (r.take j)) n:=by
 rw[KV hj];unfold BO;rw[vG]
 split<;>simp
theorem Ku (h:BR s=true):s.size<=4:=by unfold BR at h;simp only[yD,decide_eq_true_eq] at h;exact h.2
theorem Iq{x:AX}(h:Dk x=true):x.g.size<=maxLen/\0<=x.r/\x.r<=50:=by
 unfold Dk at h;simp only[xM,decide_eq_true_eq,yD,Aa] at h
 rcases h with rfl|⟨⟨_,A⟩,H⟩
 .exact⟨by simp[AX.zero,ByteArray.size],by simp[AX.zero],by simp[AX.zero]⟩
 exact⟨yM (Ku A) ψ,H.1,H.2⟩
theorem U7 (h:∀f,f<l.length->(JR l f).g.size<=maxLen):JH l:=by intro x hx;obtain⟨i,E,rfl⟩:=wY hx;have:=h i E;simpa[JR,E] using this
theorem Ca (h:BG l=true):JH l:=U7 λf hf=>(Iq ((A2.1 h).2 f (by have:=(A2.1 h).1;omega))).1
theorem Kl{Zh:List AX}(h:BG Zh=true)(kH:fs.length<=4){n:Int}(N:n=1∨n= -1)(K:g<12):
 -4<=(JR (BO Zh fs n) g).r/\(JR (BO Zh fs n) g).r<=54/\(JR (BO Zh fs n) g).g.size<=maxLen:=by
 obtain⟨hl,H⟩:=A2.1 h;obtain⟨a,b,c⟩:=Iq (H g K);rw[PF ω];have:=vt (a:=g) (l:=fs);refine⟨?_,?_,a⟩
 .show -4<=_+n*_
  rcases N with rfl|rfl<;>omega
 show _+n*_<=54
 rcases N with rfl|rfl<;>omega
theorem U3 (v iv:Φ)(m:List (List Int))(Zh:List AX)(f:Nat)(n:Int)(w:Ω)(h:Bl w v m)(aq:By m=true)(hI:Bf w iv Zh)(ej:BG Zh=true)(hf:f<12)(N:n=1∨n= -1):
 Ξ prog 220 #[v,iv,.int .i64 f,.int .i64 n] w λe w'=>∃v',e=.returned v'/\AQ w.heap.size 115 3 Av w' v' (BO Zh (named (AK m f)) n)/\Γ w w w':=by
 obtain⟨q,c,rfl,hc,cq,H0⟩:=h.open;have hl:=(A2.1 ej).1;have cl:=(Aj.1 aq).1;have CC:=AA (Gq iv Zh w hI ω);obtain⟨ai,ci,rfl,_,_⟩:=hI.shape;have f4:=AA aq;have pq:=AA ej;have Hn:=AA N;have hD: -1<=n/\n<=1:=ω;obtain⟨bm,fb,br,fa,cr,rfl,jI,M0,j1,mp,W0⟩:=H0.row4 aq hf;have HW:=AA W0;have it:=AA (BB.1 ((Aj.1 aq).2 _ hf)).1;have fm:(f:Int)<m.length:=ω;have Hl:=AA hl;clear h aq H0 W0 hI ej N cl hl;go_in;go_wp2_with fail;refine CC.mono ?_;rintro e w1 ⟨v',rfl,hO,be⟩;obtain⟨g,ao,rfl,c1,c2,q1,q2,cn⟩:=hO.zW (by have:=Hl.u;omega);unfold maxLen at c2;have M:=(be.cell (p:=⟨bm,fb+f,none⟩) jI).trans M0;have mS:=AA be;have HO:=AA hO;clear hO be M0 cn;go_wp2_with fail;clear M;go_loopw [22] (λi wr=>∃j:Nat,j<=4/\i=.int .i64 j/\AQ w.heap.size 115 3 Av wr (.slice g Zh.length ao) (BO Zh (named ((AK m f).take j)) n)/\Γ w w wr) (λi _=>4 - (intOf i).toNat)
 exact⟨0,yt _,rfl,by simpa[named,BO] using HO.u,mS.u⟩
 obtain⟨j,hj,rfl,hO,bC⟩:=hrel
 by_cases ex:j<4
 .have W:=(bC.cell (p:=⟨br,fa+j,none⟩) j1).trans (HW j ex)
  have wb:=Hy f4 hf ex;have CE:=AA (λW=>Fk (Aw m f j) W ω);have RT:=Yq (Zh:=Zh) (n:=n) (r:=AK m f) (j:=j) (by rw[it.u];exact ex);rw[show(AK m f).getD j 0=Aw m f j from rfl] at RT;cases K:Bv (Aw m f j)
  .have vs:=AA (Et K)
   rw[K] at RT;have hi:=AA RT;have lI:=AA hO;clear K RT hO;go_wp2_with (go_at_call 158;refine(CE _).mono ?_;rintro e w' ⟨rfl,rfl⟩;rw[vs.u]);go_roundw;exact⟨j+1,ω,ξ,by rw[hi.u];exact lI.u,bC⟩;simp[intOf];omega
  have vs:=AA (En K)
  have hF:=Ef K;rw[K,if_pos rfl] at RT;have kH:(named ((AK m f).take j)).length<=4:=by have:=Fh (r:=(AK m f).take j);rw[ym] at this;omega
  obtain⟨r1,r2,_⟩:=Kl pq kH Hn hF;have fd:(BO Zh (named ((AK m f).take j)) n).length=Zh.length:=KH;rw[<-fd] at hO;generalize hX:BO Zh (named ((AK m f).take j)) n=X at*;generalize BP (Aw m f j)=o at*;have nr:o<X.length:=by rw[fd,Hl.u];exact hF
  have pU:(o:Int)<Zh.length:=by rw[Hl.u];omega
  have oM:((o:Nat):Int)<=Zh.length:=ω;rw[IX] at RT;obtain⟨_,_,d2⟩:=AQ.zZ hO nr;have d2:=d2;have Fr:=xU hO (o*3+2);have S2:=AA (AQ.zH Az hO (Cg nr) (j:=2) ψ (y:=JI n (JR X o)) (u:=.int .i64 ((JR X o).r+n)) rfl);rw[fd] at S2;have hi:=AA RT;have ql:=AA fd;clear K RT hO fd hX;go_wp2_with (go_at_call 158;refine(CE _).mono ?_;rintro e w' ⟨rfl,rfl⟩;rw[vs.u]);go_roundw;exact⟨j+1,ω,ξ,by rw[hi.u];exact S2.1,AM bC S2.2 q1 bC.size⟩;simp[intOf];omega
 obtain rfl:j=4:=ω;rw[xm (uw it.u)] at hO;go_wp2;go_ret;exact⟨_,rfl,hO,bC⟩
theorem V3{Zh:List AX}:Gc m Zh f kind ss=
 if(JR Zh f).k≠1∨(JR Zh f).r≠0 then(Zh,1)
 else if JB m Zh f kind ss=false then(Zh,2)
 else if BG (Ao (BO Zh (named (AK m f)) 1) f (Dl kind)) then(Ao (BO Zh (named (AK m f)) 1) f (Dl kind),0) else(Zh,1):=rfl
theorem PR{Zh:List AX}:DH m Zh f=
 if Bp (JR Zh f).k=false∨(JR Zh f).r≠0 then(Zh,1)
 else if BG (Ao (BO Zh (named (AK m f)) (-1)) f (Dl 1)) then(Ao (BO Zh (named (AK m f)) (-1)) f (Dl 1),0) else(Zh,2):=rfl
theorem Sl (h:By m=true){f:Nat}(hf:f<12):(named (AK m f)).length<=4:=by have A:=Fh (r:=AK m f);have H:=(BB.1 ((Aj.1 h).2 f hf)).1;omega
theorem NH{Zh:List AX}{n:Int}(hm:By m=true)(h:BG Zh=true)(hf:f<12)(N:n=1∨n= -1):JH (Ao (BO Zh (named (AK m f)) n) f (Dl kind)):=by
 refine U7 λg K=>?_
 rw[DI,KH,(A2.1 h).1] at K;have A:=(Kl h (Sl hm hf) N K).2.2;rw[Fy]
 split
 .exact(Kl h (Sl hm hf) N hf).2.2
 exact A
def Nr(r:List AX×Int)(w:Ω)(e:Ending)(w':Ω):Prop:=∃v',e=.returned (.tuple #[v',r.2])/\AQ w.heap.size 115 3 Av w' v' r.1/\Γ w w w'
theorem VQ (v iv rv:Φ)(m:List (List Int))(Zh:List AX)(f:Nat)(kind:Int)(ss:List ByteArray)(w:Ω)(h:Bl w v m)(aq:By m=true)(hI:Bf w iv Zh)(ej:BG Zh=true)(hf:f<12)(hk:Bp kind=true)(hv:BY w rv ss)(ng:DQ ss)(hr:BW ss=true):
 Ξ prog 180 #[v,iv,.int .i64 f,.int .i64 kind,rv] w (Nr (Gc m Zh f kind ss) w):=by
 have hl:=(A2.1 ej).1;have C1:=AA (λW (hW:Γ w w W)=>by have:=JD v m W (h.below hW);rw[aq] at this;exact this);have C2:=AA (λW (hW:Γ w w W)=>by have:=Dn iv Zh W (BK.below hI hW) (Ca ej);rw[ej] at this;exact this);have C3:=AA (λW (_:Γ w w W)=>A4 (by have:=Dy (f:Int) W;rw[show Bj (f:Int) 0 11=true from Aa.2 ω] at this;exact this));have C4:=AA (λW (_:Γ w w W)=>A4 (by have:=GR kind W;rw[hk] at this;exact this));have C5:=AA (λW (hW:Γ w w W)=>by have:=H5 rv ss W (BK.below hv hW) ng;rw[hr] at this;exact this);have C6:=AA (λW (hW:Γ w w W)=>Gq iv Zh W (BK.below hI hW) ω);have C7:=AA (λW (hW:Γ w w W)=>Wp v iv rv m Zh f kind ss W (h.below hW) aq (BK.below hI hW) hl hf hk (BK.below hv hW));have C8:=AA (λW (hW:Γ w w W)=>U3 v iv m Zh f 1 W (h.below hW) aq (BK.below hI hW) ej hf (.inl rfl));have SM:=AA (NH (kind:=kind) aq ej hf (.inl (rfl:(1:Int)=1)));obtain⟨ai,ci,rfl,mr,jF,H2⟩:=BK.open Az ψ hI;obtain⟨bi,bL,rfl,bC,D0,_,D2⟩:=H2.zZ (ω:f<Zh.length);have i9:(f:Int)<Zh.length:=ω;have Hl:=AA hl;have J:=yN w w;clear h aq hI ej hk hv ng hr hl H2;go_in;go_wp2_with fail;refine(C1 _ J).mono ?_;rintro e w_ ⟨rfl,a5⟩;replace J:=J.trans (a5.mono J.size);clear a5;go_wp2_with fail;refine(C2 _ J).mono ?_;rintro e w_ ⟨rfl,a5⟩;replace J:=J.trans (a5.mono J.size);clear a5;go_wp2_with fail;refine(C3 _ J).mono ?_;rintro e w_ ⟨rfl,a5⟩;replace J:=J.trans (a5.mono J.size);clear a5;go_wp2_with fail;refine(C4 _ J).mono ?_;rintro e w_ ⟨rfl,a5⟩;replace J:=J.trans (a5.mono J.size);clear a5;go_wp2_with fail;refine(C5 _ J).mono ?_;rintro e w_ ⟨rfl,a5⟩;replace J:=J.trans (a5.mono J.size);clear a5;replace D0:=(J.cell (p:=⟨bi,bL+f*3,none⟩) bC).trans D0;replace D2:=(J.cell (p:=⟨bi,bL+f*3+2,none⟩) bC).trans D2
 by_cases e1:(JR Zh f).k=1
 .by_cases e2:(JR Zh f).r=0
  .have t1:((JR Zh f).k !=1)=false:=by simp[e1]
   have t2:((JR Zh f).r !=0)=false:=by simp[e2]
   have P:=AA (show Gc m Zh f kind ss=if JB m Zh f kind ss=false then(Zh,2)
    else if BG (Ao (BO Zh (named (AK m f)) 1) f (Dl kind)) then(Ao (BO Zh (named (AK m f)) 1) f (Dl kind),0) else(Zh,1) by rw[V3,if_neg (by simp[e1,e2])])
   clear e1 e2;cases K:JB m Zh f kind ss
   .have P2:=AA (show Gc m Zh f kind ss=(Zh,2) by rw[P.u,K];rfl)
    have G:=AA K;clear K;go_wp2_with fail;refine(C7 _ J).mono ?_;rintro e w_ ⟨rfl,a5⟩;rw[G.u];replace J:=J.trans (a5.mono J.size);clear a5;go_wp2_with (refine(C6 _ J).mono ?_;rintro e w2 ⟨v',rfl,hO,ad⟩);go_ret2;exact⟨v',by rw[P2.u];rfl,by rw[P2.u];exact hO.lower J.size,J.trans (ad.mono J.size)⟩
   have G:=AA K
   have P2:=AA (show Gc m Zh f kind ss=if BG (Ao (BO Zh (named (AK m f)) 1) f (Dl kind)) then(Ao (BO Zh (named (AK m f)) 1) f (Dl kind),0) else(Zh,1) by rw[P.u,K];rfl);clear K;go_wp2_with fail;refine(C7 _ J).mono ?_;rintro e w_ ⟨rfl,a5⟩;rw[G.u];replace J:=J.trans (a5.mono J.size);clear a5;clear D0 D2;go_wp2_with fail;refine(C8 _ J).mono ?_;rintro e w2 ⟨v',rfl,hO,ad⟩;have fd:(BO Zh (named (AK m f)) 1).length=Zh.length:=KH;rw[IX] at P2 SM;generalize BO Zh (named (AK m f)) 1=X at*;have kJ:f<X.length:=by rw[fd,Hl.u];exact hf
   obtain⟨g,ao,rfl,c1,c2,q1,q2,cn⟩:=hO.zW ω;unfold maxLen at c2;have q3:=yM J.size q1;have S0:=AQ.zH Az hO (Cg kJ) (j:=0) ψ (y:=Dl kind (JR X f)) (u:=.int .i64 kind) rfl;rw[xT] at S0;have S:=AA S0;clear S0;obtain⟨d0,_,_⟩:=AQ.zZ hO kJ;have Fr:=cn (f*3);have iK:=AM (J.trans (ad.mono J.size)) S.2 q3 (yM J.size ad.size);have mn:(f:Int)<X.length:=ω;have kT:=AA (S.1.lower J.size);clear hO ad J fd;go_wp2_with fail;generalize hw3:w2.setCell _ _=w3 at*;clear d0 Fr cn hw3;have kR:(X.set f (Dl kind (JR X f))).length=X.length:=yh ..;have C9:=Dn (.slice g X.length ao) (X.set f (Dl kind (JR X f))) w3 kT.rd SM.u;cases hq:BG (X.set f (Dl kind (JR X f)))
   .have P3:=AA (show Gc m Zh f kind ss=(Zh,1) by rw[P2.u,hq];rfl)
    rw[hq] at C9;have C:=AA C9;clear C9 hq kR;refine C.mono ?_;rintro e w4 ⟨rfl,bA⟩;have J:=iK.trans (bA.mono iK.size);go_wp2_with (refine(C6 _ J).mono ?_;rintro e w2 ⟨v',rfl,hO,ad⟩);go_ret2;exact⟨v',by rw[P3.u];rfl,by rw[P3.u];exact hO.lower J.size,J.trans (ad.mono J.size)⟩
   have P3:=AA (show Gc m Zh f kind ss=(X.set f (Dl kind (JR X f)),0) by rw[P2.u,hq];rfl)
   rw[hq] at C9;have C:=AA C9;clear C9 hq kR;refine C.mono ?_;rintro e w4 ⟨rfl,bA⟩;have J:=iK.trans (bA.mono iK.size);have mz:=AA (kT.below bA);go_wp2;go_ret2;exact⟨_,by rw[P3.u];rfl,by rw[P3.u];exact mz.u,J⟩
  have t1:((JR Zh f).k !=1)=false:=by simp[e1]
  have t2:((JR Zh f).r !=0)=true:=by simp[e2]
  have P2:=AA (show Gc m Zh f kind ss=(Zh,1) by rw[V3,if_pos (.inr e2)]);clear e1 e2;go_wp2_with (refine(C6 _ J).mono ?_;rintro e w2 ⟨v',rfl,hO,ad⟩);go_ret2;exact⟨v',by rw[P2.u];rfl,by rw[P2.u];exact hO.lower J.size,J.trans (ad.mono J.size)⟩
 have t1:((JR Zh f).k !=1)=true:=by simp[e1]
 have P2:=AA (show Gc m Zh f kind ss=(Zh,1) by rw[V3,if_pos (.inl e1)]);clear e1 D2;go_wp2_with (refine(C6 _ J).mono ?_;rintro e w2 ⟨v',rfl,hO,ad⟩);go_ret2;exact⟨v',by rw[P2.u];rfl,by rw[P2.u];exact hO.lower J.size,J.trans (ad.mono J.size)⟩
theorem Rm (v iv:Φ)(m:List (List Int))(Zh:List AX)(f:Nat)(w:Ω)(h:Bl w v m)(aq:By m=true)(hI:Bf w iv Zh)(ej:BG Zh=true)(hf:f<12):
 Ξ prog 182 #[v,iv,.int .i64 f] w (Nr (DH m Zh f) w):=by
 have hl:=(A2.1 ej).1;have C1:=AA (λW (hW:Γ w w W)=>by have:=JD v m W (h.below hW);rw[aq] at this;exact this);have C2:=AA (λW (hW:Γ w w W)=>by have:=Dn iv Zh W (BK.below hI hW) (Ca ej);rw[ej] at this;exact this);have C3:=AA (λW (_:Γ w w W)=>A4 (by have:=Dy (f:Int) W;rw[show Bj (f:Int) 0 11=true from Aa.2 ω] at this;exact this));have C4:=AA (λW (_:Γ w w W)=>A4 (GR (JR Zh f).k W));have C6:=AA (λW (hW:Γ w w W)=>Gq iv Zh W (BK.below hI hW) ω);have C8:=AA (λW (hW:Γ w w W)=>U3 v iv m Zh f (-1) W (h.below hW) aq (BK.below hI hW) ej hf (.inr rfl));have SM:=AA (NH (kind:=1) aq ej hf (.inr (rfl:(-1:Int)= -1)));obtain⟨ai,ci,rfl,mr,jF,H2⟩:=BK.open Az ψ hI;obtain⟨bi,bL,rfl,bC,D0,_,D2⟩:=H2.zZ (ω:f<Zh.length);have i9:(f:Int)<Zh.length:=ω;have Hl:=AA hl;have J:=yN w w;clear h aq hI ej hl H2;go_in;go_wp2_with fail;refine(C1 _ J).mono ?_;rintro e w_ ⟨rfl,a5⟩;replace J:=J.trans (a5.mono J.size);clear a5;go_wp2_with fail;refine(C2 _ J).mono ?_;rintro e w_ ⟨rfl,a5⟩;replace J:=J.trans (a5.mono J.size);clear a5;go_wp2_with fail;refine(C3 _ J).mono ?_;rintro e w_ ⟨rfl,a5⟩;replace J:=J.trans (a5.mono J.size);clear a5;replace D0:=(J.cell (p:=⟨bi,bL+f*3,none⟩) bC).trans D0;have mU:=D2;replace D2:=(J.cell (p:=⟨bi,bL+f*3+2,none⟩) bC).trans D2;cases e1:Bp (JR Zh f).k
 .have P2:=AA (show DH m Zh f=(Zh,1) by rw[PR,if_pos (.inl e1)])
  have T:=AA e1;clear e1 D2;go_wp2_with fail;refine(C4 _ J).mono ?_;rintro e w_ ⟨rfl,a5⟩;rw[T.u];replace J:=J.trans (a5.mono J.size);clear a5;go_wp2_with (refine(C6 _ J).mono ?_;rintro e w2 ⟨v',rfl,hO,ad⟩);go_ret2;exact⟨v',by rw[P2.u];rfl,by rw[P2.u];exact hO.lower J.size,J.trans (ad.mono J.size)⟩
 have T:=AA e1
 by_cases e2:(JR Zh f).r=0
 .have t2:((JR Zh f).r !=0)=false:=by simp[e2]
  have P2:=AA (show DH m Zh f=if BG (Ao (BO Zh (named (AK m f)) (-1)) f (Dl 1)) then(Ao (BO Zh (named (AK m f)) (-1)) f (Dl 1),0) else(Zh,2) by rw[PR,if_neg (by simp[e1,e2])]);clear e1 e2;go_wp2_with fail;refine(C4 _ J).mono ?_;rintro e w_ ⟨rfl,a5⟩;rw[T.u];replace J:=J.trans (a5.mono J.size);clear a5;replace D2:=(J.cell (p:=⟨bi,bL+f*3+2,none⟩) bC).trans mU;go_wp2_with fail;clear D0 D2;refine(C8 _ J).mono ?_;rintro e w2 ⟨v',rfl,hO,ad⟩;have fd:(BO Zh (named (AK m f)) (-1)).length=Zh.length:=KH;rw[IX] at P2 SM;generalize BO Zh (named (AK m f)) (-1)=X at*;have kJ:f<X.length:=by rw[fd,Hl.u];exact hf
  obtain⟨g,ao,rfl,c1,c2,q1,q2,cn⟩:=hO.zW ω;unfold maxLen at c2;have q3:=yM J.size q1;have S0:=AQ.zH Az hO (Cg kJ) (j:=0) ψ (y:=Dl 1 (JR X f)) (u:=.int .i64 1) rfl;rw[xT] at S0;have S:=AA S0;clear S0;obtain⟨d0,_,_⟩:=AQ.zZ hO kJ;have Fr:=cn (f*3);have iK:=AM (J.trans (ad.mono J.size)) S.2 q3 (yM J.size ad.size);have mn:(f:Int)<X.length:=ω;have kT:=AA (S.1.lower J.size);clear hO ad J fd;go_wp2_with fail;generalize hw3:w2.setCell _ _=w3 at*;clear d0 Fr cn hw3;have kR:(X.set f (Dl 1 (JR X f))).length=X.length:=yh ..;have C9:=Dn (.slice g X.length ao) (X.set f (Dl 1 (JR X f))) w3 kT.rd SM.u;cases hq:BG (X.set f (Dl 1 (JR X f)))
  .have P3:=AA (show DH m Zh f=(Zh,2) by rw[P2.u,hq];rfl)
   rw[hq] at C9;have C:=AA C9;clear C9 hq kR;refine C.mono ?_;rintro e w4 ⟨rfl,bA⟩;have J:=iK.trans (bA.mono iK.size);go_wp2_with (refine(C6 _ J).mono ?_;rintro e w2 ⟨v',rfl,hO,ad⟩);go_ret2;exact⟨v',by rw[P3.u];rfl,by rw[P3.u];exact hO.lower J.size,J.trans (ad.mono J.size)⟩
  have P3:=AA (show DH m Zh f=(X.set f (Dl 1 (JR X f)),0) by rw[P2.u,hq];rfl)
  rw[hq] at C9;have C:=AA C9;clear C9 hq kR;refine C.mono ?_;rintro e w4 ⟨rfl,bA⟩;have J:=iK.trans (bA.mono iK.size);have mz:=AA (kT.below bA);go_wp2;go_ret2;exact⟨_,by rw[P3.u];rfl,by rw[P3.u];exact mz.u,J⟩
 have t2:((JR Zh f).r !=0)=true:=by simp[e2]
 have P2:=AA (show DH m Zh f=(Zh,1) by rw[PR,if_pos (.inr e2)]);clear e1 e2;go_wp2_with fail;refine(C4 _ J).mono ?_;rintro e w_ ⟨rfl,a5⟩;rw[T.u];replace J:=J.trans (a5.mono J.size);clear a5;replace D2:=(J.cell (p:=⟨bi,bL+f*3+2,none⟩) bC).trans mU;go_wp2_with (refine(C6 _ J).mono ?_;rintro e w2 ⟨v',rfl,hO,ad⟩);go_ret2;exact⟨v',by rw[P2.u];rfl,by rw[P2.u];exact hO.lower J.size,J.trans (ad.mono J.size)⟩
theorem Tryz.zj:(prog.info? 29).map (λi=>(i.zero,i.size,i.bytes))=some (some (.slice none 0 0),1,24):=φ
theorem Ml:29≠3:=ψ
theorem LB{e B:Nat}{xs:List Φ}(h:w.ownsRow lo e sz v n xs)(hu:∀k,u.ownBlock=some k->w.heap.size<=k):GP v u:=by intro k hk oJ;have A:=(h.lt k hk).2;have H:=hu k oJ;omega
variable{c e i v':Φ}
theorem Ay.push{lL:List (List Int)}{x:List Int}
 (h:Ay lo w v V lL)(J:Γ w w w1)(au:lo<=w.heap.size)(hu:AE w w1 u x)
 (A:w2.ownsRow lo 29 1 v' (V.length+1) (Ce HJ V++[u]))(H:w1.grownBy w2 v.ownBlock):Ay lo w2 v' (V++[u]) (lL++[x]):=by
 obtain⟨a1,a2,a3⟩:=h;have b7:=a1.below J;refine⟨?_,Gj.snoc (a2.mono λy ys hy=>?_) ?_,Dh.snoc a3 λy hy=>?_⟩
 .unfold AQ
  rw[Bq,Eo,yz];exact A
 .have g7:=hy.below J
  exact Au g7 H (BI g7 b7 (Ne.symm Ml)).ne
 .exact Au (Bb hu au) H (BI hu b7 (Ne.symm Ml)).ne
 obtain⟨i,E⟩:=xN hy
 obtain⟨ys,iX⟩:∃ys,lL[i]?=some ys:=⟨_,yG (by rw[<-a2.1];exact(yA.1 E).1)⟩
 exact LB (B:=0) (a2.2 i y ys E iX) (λk hk=>(hu.lt k hk).1)
def Pb(n:Nat):List (List Int):=xW n [0,0,0,0]
theorem aK (w:Ω):
 Ξ prog 138 #[] w λe w'=>∃v V,e=.returned v/\Ay w w' v V (Pb 12)/\Γ w w w':=by
 go_in;go_wp2_with fail;go_loopw [1,2] (λo i wr=>∃k:Nat,∃V:List Φ,k<=12/\V.length=k/\i=.int .i64 k/\Ay w wr o V (Pb k)/\Γ w w wr) (λ_ i _=>12 - (intOf i).toNat)
 exact⟨0,[],ω,rfl,rfl,⟨Co _ _ _,Gj.nil,Dh.nil⟩,AJ _ _⟩
 obtain⟨k,V,hk,hl,rfl,hO,al⟩:=hrel;have Hl:=AA hl;clear hl
 by_cases ay:k<12
 .have pR:V.length<=12:=by rw[Hl.u];omega
  go_wp2_with (first|(at_make;go_must (refine RH (n:=4) rfl rfl 3 (.int .i64 0) 8 underlying29 Tryz.zS rfl rfl ω μ ?_;intro w2 iw bl g8))|(at_builtin;go_must (refine Bn (lo:=w.heap.size) (n:=V.length) (xs:=Ce HJ V) (m:=1) (news:=[.slice wr 4 4]) rfl rfl 29 (.slice none 0 0) 1 24 underlying23 Tryz.zj rfl ψ rfl ((hO.below bl).below (AJ _ _)).1 rfl (Rd.zM _ #[_] _ 1 1 _ χ rfl ζ) (by simp[xR]) μ ω (by have:=al.size;simp;omega) ?_;intro o' w3 g1 g2 g3 g4)));go_roundw
  case rel=>have hu:AE wr w2 (.slice wr 4 4) [0,0,0,0]:=iw;have ad:=bl.trans ((AJ w2 (.cells #[.slice wr 4 4] 29)).mono bl.size);have hP:=hO.push ad al.size (hu.below (AJ _ _)) g1 g2;refine⟨k+1,V++[.slice wr 4 4],ω,by rw[yz,Hl.u];rfl,ξ,?_,(al.trans (ad.mono al.size)).trans g4⟩;rw[show Pb (k+1)=Pb k++[[0,0,0,0]] by simp[Pb,List.replicate_succ']];exact hP
  case measure=>simp[intOf];omega
 obtain rfl:k=12:=ω;go_wp2;go_ret;exact⟨_,V,rfl,hO,al⟩
theorem Tryz.zi:(prog.info? 9).map (λi=>(i.zero,i.size,i.bytes))=some (some (.string ⟨#[]⟩),1,16):=φ
theorem Tryz.zd:(prog.info? 81).map (λi=>(i.zero,i.size,i.bytes))=some (some (.agg #[ι,θ]),2,32):=φ
variable{ts:List ByteArray}
theorem dP:∀u∈Ce A0 ts,u.oneCell'=true:=by intro u hu;obtain⟨s,_,hs⟩:=wR.1 hu;simp[A0] at hs;subst hs;rfl
theorem BK.keep{α:Type}{cs:α->List Φ}{xs:List α}(h:BK sz cs w v xs)(hk:∀k,k<w.heap.size->w'.heap[k]?=w.heap[k]?):BK sz cs w' v xs:=Rd.keep h hk
theorem Da.push{r:Φ}{ps:List (Φ×Int)}{n:Int}
 (h:Da lo w v ps es)(J:Γ w w w1)(au:lo<=lo')(mc:w.heap.size<=lo')(hr:AQ lo' 9 1 A0 w1 r ts)
 (A:w2.ownsRow lo 81 2 v' (ps.length+1) (Ce FM ps++[r,.int .i64 n]))(H:w1.grownBy w2 v.ownBlock):Da lo w2 v' (ps++[(r,n)]) (es++[⟨ts,n⟩]):=by
 obtain⟨a1,a2,a3⟩:=h;have b7:=a1.below J;have bP:9≠81:=ψ;refine⟨?_,Gj.snoc (a2.mono λy ys hy=>⟨?_,hy.2⟩) ⟨?_,rfl⟩,?_⟩
 .unfold AQ
  rw[Bq,Eo,yz];exact A
 .have g7:=hy.1.below J
  exact Au g7 H (BI g7 b7 bP).ne
 .exact Au (Bb hr au) H (BI hr b7 bP).ne
 rw[xK]
 refine Dh.snoc a3 λy hy=>?_
 obtain⟨p,hp,rfl⟩:=vU.1 hy;obtain⟨i,E⟩:=xN hp;obtain⟨e,he⟩:∃e,es[i]?=some e:=⟨_,yG (by rw[<-a2.1];exact(yA.1 E).1)⟩
 exact LB (B:=0) (a2.2 i p e E he).1 (λk hk=>yM mc (hr.lt k hk).1)
def eR(lo lo' g:Nat)(lB u ev:Φ)(b at_:Nat)(k:Int)(ts:List ByteArray)(ps:List (Φ×Int))(es:List Ez)(i:Nat)(v:Φ)(w:Ω):Prop:=match i with
 |0|11=>v=.pointer (some ⟨g,2,none⟩)
 |1=>v=ev
 |2=>∃g2,v=.slice (some ⟨g2,0,none⟩) 0 0/\lo'<=g2/\w.heap[g2]?=some (.cells #[] 9 (0,0))
 |3=>v=lB
 |4=>v=.int .i64 k
 |5=>v=.pointer (some ⟨b,at_,none⟩)
 |6=>v=u
 |7=>AQ lo' 9 1 A0 w v ts
 |8=>∃r,v=.agg #[r,.int .i64 (-1)]/\AQ lo' 9 1 A0 w r ts
 |9=>∃r g9,v=.slice (some ⟨g9,0,none⟩) 1 1/\lo'<=g9/\w.heap[g9]?=some (.cells #[r,.int .i64 (-1)] 81 (0,0))/\AQ lo' 9 1 A0 w r ts
 |10=>∃r,Da lo w v (ps++[(r,-1)]) (es++[⟨ts,-1⟩])
 |_=>True
theorem BU{e:Nat}{xs:List Φ}{row:Option Nat}(h:w.ownsRow lo e sz v n xs)(K:w.grownBy w' row)(hr:∀k,row=some k->k<lo):w'.ownsRow lo e sz v n xs:=by
 refine Au h K ?_;cases hv:v.ownBlock with
 |none=>exact .inl rfl
 |some k=>
  refine .inr λhe=>?_
  have A:=hr k he.symm;have H:=(h.lt k hv).1;omega
variable{o:Obj}
theorem FF{row:Option Nat}(h:w.heap[g]?=some o)(hl:lo<=g)(K:w.grownBy w' row)(hr:∀k,row=some k->k<lo):w'.heap[g]?=some o:=
 (K.block g (Array.getElem?_eq_some_iff.1 h).1 (λe=>by have:=hr g e.symm;omega)).trans h
theorem Mw{lB ev:Φ}{at_:Nat}{k:Int}{ps:List (Φ×Int)}{i:Nat}{row:Option Nat}
 (h:eR lo lo' g lB u ev b at_ k ts ps es i v w)(K:w.grownBy w' row)(hr:∀k,row=some k->k<lo')(E:i≠10∨row=none):eR lo lo' g lB u ev b at_ k ts ps es i v w':=by
 match i with
 |0|1|3|4|5|6=>exact h
 |2=>obtain⟨g2,h0,A,H⟩:=h;exact⟨g2,h0,A,FF H A K hr⟩
 |7=>exact BU h K hr
 |8=>obtain⟨r,h0,A⟩:=h;exact⟨r,h0,BU A K hr⟩
 |9=>obtain⟨r,g9,h0,A,H,h3⟩:=h;exact⟨r,g9,h0,A,FF H A K hr,BU h3 K hr⟩
 |10=>
  obtain⟨r,h0⟩:=h
  rcases E with E|E
  .exact absurd rfl E
  subst E;exact⟨r,h0.below ⟨K.os,K.tape,K.output,K.size,λk hk=>K.block k hk χ⟩⟩
 |11=>exact h
 |_+12=>trivial
theorem ZW{α:Type}(us V:List α)(u0 u:α):(us++u0::V).set us.length u=(us++[u])++V:=χ
def Gl(lo:Nat)(w:Ω)(v:Φ)(us V:List Φ)(m:List (List Int)):Prop:=AQ lo 29 1 HJ w v (us++V)/\Gj (AE lo w) us (m.take us.length)/\Dh us
variable{us:List Φ}
theorem Gl.step{u0:Φ}(h:Gl lo w (.slice g n ao) us (u0::V) m)(N:n=(us++u0::V).length)
 (J:Γ w w w1)(au:lo<=w.heap.size)(hu:AE w w1 u r)(hr:m[us.length]?=some r):
 Gl lo (w1.setCell (g,us.length) u) (.slice g n ao) (us++[u]) V m/\w1.grownBy (w1.setCell (g,us.length) u) (some g):=by
 obtain⟨a1,a2,a3⟩:=h;have b7:=a1.below J;subst N;have S:=AQ.zH Eh b7 (k:=us.length) (x:=u0) χ (j:=0) ψ (y:=u) (u:=u) rfl;rw[wZ,xT,ZW] at S;have bP:3≠29:=Ne.symm Ml;refine⟨⟨?_,?_,Dh.snoc a3 λy hy=>?_⟩,S.2⟩
 .have:=S.1
  rwa [(χ:(us++u0::V).length=((us++[u])++V).length)] at this ⊢
 .rw[yz,xP,DA hr]
  refine Gj.snoc (a2.mono λy ys hy=>?_) ?_
  .have g7:=hy.below J
   exact Au g7 S.2 (BI g7 b7 bP).ne
  exact Au (Bb hu au) S.2 (BI hu b7 bP).ne
 obtain⟨i,E⟩:=xN hy
 obtain⟨ys,iX⟩:∃ys,(m.take us.length)[i]?=some ys:=⟨_,yG (by rw[<-a2.1];exact(yA.1 E).1)⟩
 exact LB (B:=0) (a2.2 i y ys E iX) (λk hk=>(hu.lt k hk).1)
theorem Gl.whole (h:Gl lo w v us [] m)(hl:us.length=m.length):Ay lo w v us m:=by obtain⟨a1,a2,a3⟩:=h;rw[rW] at a1;rw[hl,xE] at a2;exact⟨a1,a2,a3⟩
def IF(lo:Nat)(w:Ω)(v:Φ)(qs ps:List (Φ×Int))(es:List Ez):Prop:=AQ lo 81 2 FM w v (qs++ps)/\Gj (λp e=>AQ lo 9 1 A0 w p.1 e.Pj/\p.2=e.root) qs (es.take qs.length)/\Dh (qs.map (·.1))
theorem IF.step{qs ps:List (Φ×Int)}{p0:Φ×Int}{e:Ez}(h:IF lo w (.slice g n ao) qs (p0::ps) es)(N:n=(qs++p0::ps).length)
 (J:Γ w w w1)(au:lo<=w.heap.size)(hu:AQ w.heap.size 9 1 A0 w1 u e.Pj)(he:es[qs.length]?=some e)(hp:p0.2=e.root):
 IF lo (w1.setCell (g,qs.length*2) u) (.slice g n ao) (qs++[(u,p0.2)]) ps es/\w1.grownBy (w1.setCell (g,qs.length*2) u) (some g):=by
 obtain⟨a1,a2,a3⟩:=h;have b7:=a1.below J;subst N;have S:=AQ.zH Gb b7 (k:=qs.length) (x:=p0) χ (j:=0) ψ (y:=(u,p0.2)) (u:=u) rfl;rw[xT,ZW] at S;have bP:9≠81:=ψ;refine⟨⟨?_,?_,?_⟩,S.2⟩
 .have:=S.1
  rwa [(χ:(qs++p0::ps).length=((qs++[(u,p0.2)])++ps).length)] at this ⊢
 .rw[yz,xP,DA he]
  refine Gj.snoc (a2.mono λy ys hy=>⟨?_,hy.2⟩) ⟨?_,hp⟩
  .have g7:=hy.1.below J
   exact Au g7 S.2 (BI g7 b7 bP).ne
  exact Au (Bb hu au) S.2 (BI hu b7 bP).ne
 rw[xK]
 refine Dh.snoc a3 λy hy=>?_
 obtain⟨p,hp,rfl⟩:=vU.1 hy;obtain⟨i,E⟩:=xN hp;obtain⟨e',he'⟩:∃e',(es.take qs.length)[i]?=some e':=⟨_,yG (by rw[<-a2.1];exact(yA.1 E).1)⟩
 exact LB (B:=0) (a2.2 i p e' E he').1 (λk hk=>(hu.lt k hk).1)
theorem IF.whole{qs:List (Φ×Int)}(h:IF lo w v qs [] es)(hl:qs.length=es.length):Da lo w v qs es:=by obtain⟨a1,a2,a3⟩:=h;rw[rW] at a1;rw[hl,xE] at a2;exact⟨a1,a2,a3⟩
theorem Vv (v:Φ)(m:List (List Int))(w:Ω)(h:Bl w v m)(aq:By m=true):
 Ξ prog 61 #[v] w λe w'=>∃v' V,e=.returned v'/\Ay w w' v' V m/\Γ w w w':=by
 obtain⟨V,A,H⟩:=h;have cl:=(Aj.1 aq).1;have ks:V.length=12:=by rw[H.1,cl]
 have CC:=AA (NU v V w A ω (Us H));have CI:=AA (λk (hk:k<12) W (hW:Γ w w W)=>JQ (V.getD k (.bool false)) (AK m k) W (A1.below (H.2 k _ _ (A6 ω) (by unfold AK;exact A6 ω)) hW) (by have:=(BB.1 ((Aj.1 aq).2 k hk)).1;omega));have SH:=AA (λk (hk:k<12)=>(by obtain⟨a,c,e,_⟩:=(H.2 k _ _ (A6 (d:=Value.bool false) ω) (A6 (d:=[]) ω)).open;exact⟨a,_,c,e⟩:∃a n c,V.getD k (.bool false)=.slice a n c));have k7:=AA ks;have n4:=AA cl;obtain⟨ai,ci,rfl,_,_⟩:=A.shape;clear A H aq cl;rw[ks] at CC ⊢;clear ks;go_in;go_wp2_with fail;refine CC.mono ?_;rintro e w1 ⟨v',rfl,hO,be⟩;obtain⟨g,ao,rfl,c1,c2,q1,q2,cn⟩:=hO.zW (by have:=k7.u;omega);unfold maxLen at c2;rw[k7.u] at hO c1 ⊢;have HO:=AA hO;have HB:=AA be;clear hO be cn;go_wp2_with fail;go_loopw [10] (λi wr=>∃us:List Φ,us.length<=12/\i=.int .i64 us.length/\Gl w wr (.slice g 12 ao) us (V.drop us.length) m/\Γ w w wr) (λi _=>12 - (intOf i).toNat)
 exact⟨[],χ,rfl,⟨HO.u,Gj.nil,Dh.nil⟩,HB.u⟩
 obtain⟨us,hk,rfl,hH,al⟩:=hrel
 by_cases ay:us.length<12
 .have i6:us.length<V.length:=by rw[k7.u];exact ay
  have ed:V.drop us.length=V.getD us.length (.bool false)::V.drop (us.length+1):=by
   rw[tF i6]
   congr 1
   simp[i6]
  rw[ed] at hH;have a8:(us++V.getD us.length (.bool false)::V.drop (us.length+1)).length=12:=by have:=k7.u;simp only[yz,vT,xh];omega
  have iM:=hH.1;rw[<-a8] at iM;have Hb:=AQ.zJ Eh iM (k:=us.length) (x:=V.getD us.length (.bool false)) χ 0 _ rfl;rw[wZ,xT] at Hb;have C:=CI _ ay wr al;have hr:m[us.length]?=some (AK m us.length):=by unfold AK;exact A6 (by rw[n4.u];exact ay)
  have HH:=AA hH;have HR:=AA hr;have CH:=AA C;have jN:=AA a8;have cn:=xU iM us.length;have qj:(12:Int)<=ao:=ω;clear hH iM hr C ed a8;generalize hu0:V.getD us.length (.bool false)=u0 at*;obtain⟨a0,n0,c0,rfl⟩:∃a n c,u0=.slice a n c:=by have:=SH _ ay;rwa [hu0] at this
  go_wp2_with fail;refine CH.mono ?_;rintro e w2 ⟨u,rfl,hu,ad⟩;have D2:=(ad.cell (p:=⟨g,us.length,none⟩) (yK wr _ Hb)).trans Hb;have o7:=(ad.frozen (p:=⟨g,us.length,none⟩) (yK wr _ Hb)).trans cn;have ST:=AA (Gl.step HH jN.symm ad al.size hu HR.u);have pH:=AA (AM (al.trans (ad.mono al.size)) ST.2 q1 (yM al.size ad.size));obtain⟨a9,c9,rfl,_⟩:=hu.rd.open;clear Hb cn hu ad al;go_wp2;go_roundw
  case rel=>refine⟨us++[.slice a9 (AK m us.length).length c9],by rw[yz,xP];omega,by rw[yz,xP];go_num,?_,pH.u⟩;rw[yz,xP];exact ST.1
  case measure=>simp[intOf];omega
 have e12:us.length=12:=ω;rw[tr (by rw[e12,k7.u];exact yF _)] at hH;have call:=AA (hH.whole (by rw[e12,n4.u]));clear hH;go_wp2;go_ret;exact⟨_,us,rfl,call.u,al⟩
def KK(lo:Nat)(w:Ω)(v:Φ)(k:AR)(ps:List (Φ×Int)):Prop:=∃m i e c,v=.agg #[m,i,e,c]/\(∃V,Ay lo w m V k.mem)/\AQ lo 115 3 Av w i k.Zh/\AQ lo 81 2 FM w e ps/\AQ lo 125 4 AY w c k.Xo
variable{k:AR}
theorem KK.below{ps:List (Φ×Int)}(h:KK lo w v k ps)(J:Γ w w w'):KK lo w' v k ps:=by obtain⟨m,i,e,c,h0,⟨V,A⟩,H,h3,h4⟩:=h;exact⟨m,i,e,c,h0,⟨V,A.below J⟩,H.below J,h3.below J,h4.below J⟩
def LS(lo:Nat)(w:Ω)(v:Φ):Prop:=∃g,v=.pointer (some ⟨g,0,none⟩)/\lo<=g/\w.heap[g]?=some (.cells #[ι,ι,ι,ι] 28 (0,0))
theorem LS.below (h:LS lo w v)(J:Γ w w w'):LS lo w' v:=by obtain⟨g,h0,A,H⟩:=h;exact⟨g,h0,A,AB H J⟩
def OV(w0:Ω)(g:Nat)(m i e c:Φ)(k:AR)(qs ps:List (Φ×Int))(wr:Ω):Prop:=
 wr.heap[g]?=some (.cells #[m,i,e,c] 28 (0,0))/\(∃V,Ay w0 wr m V k.mem)/\AQ w0.heap.size 115 3 Av wr i k.Zh/\IF w0 wr e qs ps k.Xr/\AQ w0.heap.size 125 4 AY wr c k.Xo/\Γ w0 w0 wr
theorem OV.step{w0:Ω}{m:Φ}{qs ps:List (Φ×Int)}{p0:Φ×Int}{e:Ez}(h:OV w0 g m i (.slice ge n ao) c k qs (p0::ps) w)(N:n=(qs++p0::ps).length)
 (J:Γ w w w1)(hu:AQ w.heap.size 9 1 A0 w1 u e.Pj)(he:k.Xr[qs.length]?=some e)(hp:p0.2=e.root):
 OV w0 g m i (.slice ge n ao) c k (qs++[(u,p0.2)]) ps (w1.setCell (ge,qs.length*2) u):=by
 obtain⟨hB,⟨V,A⟩,H,h3,h4,h5⟩:=h;have S:=IF.step h3 N J h5.size hu he hp;have mD:=AB hB J;have iN:=h3.1.below J;obtain⟨fy,b5⟩:=A7 iN ge rfl;have au:=(yC iN ge rfl).1;refine⟨(S.2.block g (AU mD) λe=>?_).trans mD,⟨V,(A.below J).yV S.2 b5⟩,(H.below J).yV S.2 b5,S.1,(h4.below J).yV S.2 b5,(h5.trans (J.mono h5.size)).setCell au _⟩;cases e;rw[mD] at b5;simp at b5
def Qy(w:Ω)(k:AR)(e:Ending)(w':Ω):Prop:=∃m i ev c,e=.returned (.agg #[m,i,ev,c])/\Du w w' m i ev c k/\Γ w w w'
theorem SU (hk:DZ k)(hj:j<3):(AH k.Xr j).Pj.length<=6:=by have h5:=hk.Pj j hj;unfold BW at h5;simp only[yD,decide_eq_true_eq] at h5;exact h5.2
theorem Vw (m i e c:Φ)(k:AR)(w:Ω)(h:Ns w m i e c k)(hk:DZ k):
 Ξ prog 60 #[.agg #[m,i,e,c]] w (Qy w k):=by
 obtain⟨A,H,⟨ps,h3,iN⟩,h4⟩:=h;have er:ps.length=3:=by rw[iN.1,hk.zX]
 have jE:k.Xo.length<=4:=by have:=hk.Xo;simp only[Bk,yD,decide_eq_true_eq] at this;exact this.2
 have lp:=hk.zX;have N0:=yx w (.cells #[m,i,e,c] 28);have N1:=yx (w.alloc (.cells #[m,i,e,c] 28)) (.cells #[ι,ι,ι,ι] 28);replace N0:=AB N0 (AJ _ (.cells #[ι,ι,ι,ι] 28));have az:=IE w (.cells #[m,i,e,c] 28) (.cells #[ι,ι,ι,ι] 28);have lg:w.heap.size+2=((w.alloc (.cells #[m,i,e,c] 28)).alloc (.cells #[ι,ι,ι,ι] 28)).heap.size:=χ;simp only[xz] at N1;obtain⟨am,cm,rfl,_⟩:=A.open;obtain⟨ai,ci,rfl,_⟩:=H.shape;obtain⟨ae,ce,rfl,_⟩:=h3.shape;obtain⟨ac,cc,rfl,_⟩:=h4.shape;have j7:=AA er;have pr:=AA jE;have mO:=AA lp;clear er jE lp;go_in;go_wp2_with fail;have er:=j7.u;have jE:=pr.u;have lp:=mO.u;generalize hW0:(w.alloc _).alloc _=W0 at*;have C1:=AA (λW (hW:Γ W0 W0 W)=>Vv _ k.mem W ((A.below az).below hW) hk.mem);have C2:=AA (λW (hW:Γ W0 W0 W)=>Gq _ k.Zh W ((H.below az).below hW) (by rw[hk.len];omega));have C3:=AA (λW (hW:Γ W0 W0 W)=>VG _ ps W ((h3.below az).below hW) ω (aY iN));have C4:=AA (λW (hW:Γ W0 W0 W)=>Jo _ k.Xo W ((h4.below az).below hW) ω);have C5:=AA (λj (hj:j<3) W (hW:Γ w w W)=>Jp (ps.getD j (.bool false,0)).1 (AH k.Xr j).Pj W (BK.below (iN.2 j _ _ (A6 ω) (by unfold AH;exact A6 ω)).1 hW) (by have h6:=SU hk hj;omega));have C6:=AA (λj (hj:j<3)=>(iN.2 j (ps.getD j (.bool false,0)) (AH k.Xr j) (A6 ω) (by unfold AH;exact A6 ω)).2);have C7:=AA (λj (hj:j<3)=>(by obtain⟨a,n,e,_⟩:=(iN.2 j (ps.getD j (.bool false,0)) (AH k.Xr j) (A6 ω) (by unfold AH;exact A6 ω)).1.shape;exact⟨a,_,n,e⟩:∃a n c,(ps.getD j (.bool false,0)).1=.slice a n c));have Hk:=AA hk;have iz:w.heap.size<W0.heap.size:=ω;obtain⟨x0,x1,x2,x3⟩:=AG N0;clear A H h3 iN h4 hk hW0 er jE lp;refine A9 14 37 [.p w.heap.size 0,.v (.slice am k.mem.length cm),.z,.p w.heap.size 1,.v (.slice ai k.Zh.length ci),.z,.p w.heap.size 2,.v (.slice ae ps.length ce),.z,.p w.heap.size 3,.v (.slice ac k.Xo.length cc),.z,.z,.z] (λix vv ww=>match ix with
  |2=>∃g6,Ay W0 ww vv g6 k.mem
  |5=>AQ W0.heap.size 115 3 Av ww vv k.Zh
  |8=>AQ W0.heap.size 81 2 FM ww vv ps
  |11=>AQ W0.heap.size 125 4 AY ww vv k.Xo
  |12=>KK W0 ww vv k ps
  |13=>LS W0 ww vv
  |_=>True) ?_ ?_ ?_
 .intro i E o L a wx D z O hg Z
  match i,E with
  |0,_|3,_|6,_|9,_=>exact sP L Z D z
  |1,_=>exact sL L Z D z (hl:=GZ (bc O iz x0))
  |2,_=>exact sC L Z D z (C1 _ O) (by rintro e w_ ⟨v',g6,rfl,hO,ad⟩;exact⟨_,rfl,⟨g6,hO.lower O.size⟩,ad⟩)
  |4,_=>exact sL L Z D z (hl:=Gt (bc O iz x1))
  |5,_=>exact sC L Z D z (C2 _ O) (by rintro e w_ ⟨v',rfl,hO,ad⟩;exact⟨_,rfl,(hO.lower O.size),ad⟩)
  |7,_=>exact sL L Z D z (hl:=P6 (bc O iz x2))
  |8,_=>exact sC L Z D z (C3 _ O) (by rintro e w_ ⟨v',rfl,hO,ad⟩;exact⟨_,rfl,(hO.lower O.size),ad⟩)
  |10,_=>exact sL L Z D z (hl:=Yb (bc O iz x3))
  |11,_=>exact sC L Z D z (C4 _ O) (by rintro e w_ ⟨v',rfl,hO,ad⟩;exact⟨_,rfl,(hO.lower O.size),ad⟩)
  |12,_=>
   obtain rfl:=yP L;have d2:∃g6,Ay W0 wx (a.tmps[8]?.getD Θ) g6 k.mem:=Bc z 2
   have d5:AQ W0.heap.size 115 3 Av wx (a.tmps[11]?.getD Θ) k.Zh:=Bc z 5;have d8:AQ W0.heap.size 81 2 FM wx (a.tmps[14]?.getD Θ) ps:=Bc z 8;have iQ:AQ W0.heap.size 125 4 AY wx (a.tmps[17]?.getD Θ) k.Xo:=Bc z 11;clear z D;generalize e8:a.tmps[8]?.getD Θ=m' at d2;generalize e11:a.tmps[11]?.getD Θ=i' at d5;generalize e14:a.tmps[14]?.getD Θ=e' at d8;generalize e17:a.tmps[17]?.getD Θ=c' at iQ;have W:eh (KK W0 wx (.agg #[m',i',e',c']) k ps):=AA ⟨m',i',e',c',rfl,d2,d5,d8,iQ⟩;obtain⟨_,d2⟩:=d2;obtain⟨_,_,rfl,_,_⟩:=d2.1.rd.shape;obtain⟨_,_,rfl,_,_⟩:=d5.rd.shape;obtain⟨_,_,rfl,_,_⟩:=d8.rd.shape;obtain⟨_,_,rfl,_,_⟩:=iQ.rd.shape;clear d2 d5 d8 iQ;refine yO ?_;go_simp;exact Z _ _ W (yN _ _)
  |13,_=>obtain rfl:=yP L;clear z D;refine yO ?_;go_simp;exact Z _ _ ⟨_,rfl,O.size,yx _ _⟩ (AJ _ _)
 .intro i E vv wz c5 a7 hz
  match i,E with
  |2,_=>exact(by obtain⟨g6,h'⟩:=hz;exact⟨g6,h'.below a7⟩)
  |5,_|8,_|11,_=>exact(AQ.below hz a7)
  |12,_=>exact(KK.below hz a7)
  |13,_=>exact(LS.below hz a7)
  |0,_|1,_|3,_|4,_|6,_|7,_|9,_|10,_=>exact hz
 intro V wx hR O
 have ef:KK W0 wx (V 12) k ps:=Bh hR 12;have b8:LS W0 wx (V 13):=Bh hR 13;obtain⟨g,b8,K,hB⟩:=b8;clear hR;simp only[Ai,Ae,yL,yI,yJ,yH,b8];simp;generalize V 12=z12 at ef ⊢;clear b8;obtain⟨m',i',e0,c',rfl,⟨g6,o1⟩,o2,o3,o4⟩:=ef;obtain⟨ge,ee,rfl,d1,d2,qb,p9,mm⟩:=o3.zW (by rw[j7.u];omega);rw[j7.u] at o3 d1 ⊢;unfold maxLen at d2;have bP:g≠w.heap.size+1:=ω;have bw:=As (As (As (Ak wx g 0 m') 1 i') 2 (.slice ge 3 ee)) 3 c';have St:OV W0 g m' i' (.slice ge 3 ee) c' k [] ps ((((wx.setCell g m').setCell (g,1) i').setCell (g,2) (.slice ge 3 ee)).setCell (g,3) c'):=
  ⟨DF hB,⟨g6,o1.yV bw hB⟩,o2.yV bw hB,⟨o3.yV bw hB,Gj.nil,Dh.nil⟩,o4.yV bw hB,(((O.setCell K _).setCell K _).setCell K _).setCell K _⟩
 obtain⟨pa,pc,rfl,_,_⟩:=o1.1.rd.shape;obtain⟨qa,qc,rfl,_,_⟩:=o2.rd.shape;obtain⟨ra,rc,rfl,_,_⟩:=o4.rd.shape;obtain⟨b0,b1,b2,b3⟩:=AG hB;have cn:=AI hB;have qn:=AA N0;have pA:=AA N1;clear o1 o2 o3 o4 O hB bw x0 x1 x2 x3 mm N0 N1;go_wp2_with fail;clear b0 b1 b2 b3 cn;go_loopw [22] (λi wr=>∃qs:List (Φ×Int),qs.length<=3/\i=.int .i64 qs.length/\OV W0 g _ _ (.slice ge 3 ee) _ k qs (ps.drop qs.length) wr) (λi _=>3 - (intOf i).toNat)
 exact⟨[],χ,rfl,St⟩
 clear St;obtain⟨qs,hq,rfl,St⟩:=hrel
 by_cases ay:qs.length<3
 .have i6:qs.length<ps.length:=by rw[j7.u];exact ay
  have ed:ps.drop qs.length=ps.getD qs.length (.bool false,0)::ps.drop (qs.length+1):=by
   rw[tF i6]
   congr 1
   simp[i6]
  rw[ed] at St;have a8:(qs++ps.getD qs.length (.bool false,0)::ps.drop (qs.length+1)).length=3:=by have:=j7.u;simp only[yz,vT,xh];omega
  have iM:=St.2.2.2.1.1;rw[<-a8] at iM;have Hb:=AQ.zJ Gb iM (k:=qs.length) (x:=ps.getD qs.length (.bool false,0)) χ;have D0:=Hb 0 _ rfl;have D1:=Hb 1 _ rfl;rw[xT] at D0;have fz:=xU iM;have ar:=az.trans (St.2.2.2.2.2.mono az.size);have C:=C5 _ ay;have hp:=C6 _ ay;obtain⟨a0,n0,c0,lg⟩:=C7 _ ay;have he:k.Xr[qs.length]?=some (AH k.Xr qs.length):=by unfold AH;exact A6 (by rw[mO.u];exact ay)
  have y2:=(AG St.1).2.2.1;have j0:=AU St.1;have f8:=yK wr _ D0;have iS:=AA St;have jN:=AA a8;have He:=AA he;have Hp:=AA hp;clear St a8 he hp iM Hb ed;generalize ps.getD qs.length (.bool false,0)=p0 at*;obtain⟨u0,r0⟩:=p0;cases lg
  change wr.cell? _=some (xG a0 n0 c0) at D0
  change wr.cell? _=some (yl .i64 r0) at D1
  obtain⟨hn,ik⟩:=EU wr (.cells #[.slice a0 n0 c0,r0] 81);have c3:(3:Int)<=ee:=ω;go_wp2_with fail;generalize wr.alloc _=wa at*;have y5:=yy _ _ 0 _ _ _ hn;have jy:=AU hn;have HC:=AA (λW (hW:Γ wa wa W)=>C W ((ar.trans (ik.mono ar.size)).trans (hW.mono (ar.trans (ik.mono ar.size)).size)));replace y2:=(ik.cell (p:=⟨g,2,none⟩) j0).trans y2;replace D0:=(ik.cell (p:=⟨ge,qs.length*2,none⟩) f8).trans D0;have nQ:=(ik.frozen (p:=⟨ge,qs.length*2,none⟩) f8).trans (fz _);replace j0:=yu j0 ik.size;replace f8:=yu f8 ik.size;clear C hn D1 fz;refine A9 8 37 [.p g 2,.v (.slice ge 3 ee),.i ((qs.length:Int)),.p wr.heap.size 0,.v (.slice a0 n0 c0),.z,.p ge (qs.length*2),.p ge (qs.length*2)] (λix vv ww=>match ix with
   |5=>AQ wa.heap.size 9 1 A0 ww vv (AH k.Xr qs.length).Pj
   |_=>True) ?_ ?_ ?_
  .intro i E o L a wx D z O hg Z
   match i,E with
   |0,_|2,_|3,_|7,_=>exact sP L Z D z
   |1,_=>exact sL L Z D z (hl:=P6 (bc O j0 y2))
   |4,_=>exact sL L Z D z (hl:=Kt (bc O jy y5))
   |5,_=>exact sC L Z D z (HC _ O) (by rintro e w_ ⟨v',rfl,hO,ad⟩;exact⟨_,rfl,(hO.lower O.size),ad⟩)
   |6,_=>exact sI L Z D z (hr:=by clear z D Z;go_simp)
  .intro i E vv wz c5 a7 hz
   match i,E with
   |5,_=>exact(AQ.below hz a7)
   |0,_|1,_|2,_|3,_|4,_|6,_|7,_=>exact hz
  intro V wx hR O
  have q5:AQ wa.heap.size 9 1 A0 wx (V 5) (AH k.Xr qs.length).Pj:=Bh hR 5;have q7:(V 7)=.pointer (some ⟨ge,qs.length*2,none⟩):=Bh hR 7;clear hR;simp only[Ai,Ae,yL,yI,yJ,yH,q7];simp;generalize V 5=z5 at q5 ⊢;clear q7;have ST:=AA (OV.step (p0:=(_,r0)) iS jN.symm (ik.trans (O.mono ik.size)) (q5.lower ik.size) He Hp.u);replace D0:=(O.cell (p:=⟨ge,qs.length*2,none⟩) f8).trans D0;replace nQ:=(O.frozen (p:=⟨ge,qs.length*2,none⟩) f8).trans nQ;obtain⟨_,_,rfl,_,_⟩:=q5.rd.shape;clear q5 O y2 y5;go_wp2;go_roundw;exact⟨qs++[(_,r0)],by rw[yz,xP];omega,by rw[yz,xP];go_num,by rw[yz,xP];exact ST.u⟩;simp[intOf];omega
 have e3:qs.length=3:=ω;rw[tr (by rw[e3,j7.u];exact yF _)] at St;obtain⟨hB,⟨oo,o1⟩,o2,o3,o4,al⟩:=St;have o5:=o3.whole (by rw[e3,mO.u]);have el:=(al.block _ ω).trans pA.u;have S:=AA (show ∀w',wr.grownBy w' (some (w.heap.size+1))->Qy w k (.returned (.agg #[_,_,(.slice ge 3 ee),_])) w' from λw' hN=>⟨_,_,_,_,rfl,⟨⟨oo,(o1.yV hN el).lower az.size⟩,(o2.yV hN el).lower az.size,⟨qs,(o5.yV hN el).lower az.size⟩,(o4.yV hN el).lower az.size⟩,(az.trans (al.mono az.size)).grown hN (az.trans (al.mono az.size)).size (λk hk=>by cases hk;omega)⟩)
 obtain⟨E0,E1,E2,E3⟩:=AG (DF (m':=.slice pa g6.length pc) (i':=.slice qa k.Zh.length qc) (e':=.slice ge 3 ee) (c':=.slice ra k.Xo.length rc) el);have HE:=AA (yj E0 (yj E1 (yj E2 E3)));have bw:wr.grownBy ((((wr.setCell (w.heap.size+1,0) (.slice pa g6.length pc)).setCell (w.heap.size+1,1) (.slice qa k.Zh.length qc)).setCell (w.heap.size+1,2) (.slice ge 3 ee)).setCell (w.heap.size+1,3) (.slice ra k.Xo.length rc)) (some (w.heap.size+1)):=As (As (As (Ak wr (w.heap.size+1) 0 _) 1 _) 2 _) 3 _;obtain⟨b0,b1,b2,b3⟩:=AG hB;obtain⟨c0,c1,c2,c3⟩:=AG el;have cn:=AI el;have l9:¬(qs.length:Int)<3:=ω;clear hB el o1 o2 o3 o4 o5 E0 E1 E2 E3 e3;go_wp2_with fail;exact yB (v:=.agg #[_,_,_,_]) (by simp[results,Tryz.results60,go_sem,HE.u]) rfl (S _ bw)
theorem Tryz.infoInfo:(prog.info? 115).map (λi=>(i.zero,i.size,i.bytes))=some (some (.agg #[θ,ϑ,θ]),3,32):=φ
theorem aP:(madeCells (Value.agg #[θ,ϑ,θ]).cells (12*3)).toList=Ce Av (xW 12 AX.zero):=φ
def eV(lo:Nat)(i:Nat)(v:Φ)(w:Ω):Prop:=match i with
 |0=>∃V,Ay lo w v V (Pb 12)
 |1=>AQ lo 115 3 Av w v (xW 12 AX.zero)
 |2=>AQ lo 81 2 FM w v []
 |3=>AQ lo 125 4 AY w v []
 |4=>∃m i e c,v=.agg #[m,i,e,c]/\(∃V,Ay lo w m V (Pb 12))/\AQ lo 115 3 Av w i (xW 12 AX.zero)/\AQ lo 81 2 FM w e []/\AQ lo 125 4 AY w c []
 |5=>∃g,v=.pointer (some ⟨g,0,none⟩)/\lo<=g/\w.heap[g]?=some (.cells #[ι,ι,ι,ι] 28 (0,0))
 |_=>True
theorem KW{i:Nat}(h:eV lo i v w)(J:Γ w w w'):eV lo i v w':=by
 match i with
 |0=>obtain⟨V,h⟩:=h;exact⟨V,h.below J⟩
 |1|2|3=>exact AQ.below h J
 |4=>obtain⟨m,i,e,c,h0,⟨V,A⟩,H,h3,h4⟩:=h;exact⟨m,i,e,c,h0,⟨V,A.below J⟩,H.below J,h3.below J,h4.below J⟩
 |5=>
  obtain⟨g,h0,A,H⟩:=h;have:g<w.heap.size:=by
   rcases Nat.lt_or_ge g w with h|h
   .exact h
   rw[Array.getElem?_eq_none h] at H;cases H
  exact⟨g,h0,A,(J.block g this).trans H⟩
 |_+6=>trivial
def JT(c6:List (List ByteArray)):List Ez:=c6.map λts=>⟨ts,-1⟩
def Ou(c6:List (List ByteArray)):AR:=⟨Pb 12,xW 12 AX.zero,JT c6,[]⟩
def gW(w:Ω)(b:Bool)(k:AR)(e:Ending)(w':Ω):Prop:=∃m i ev c,e=.returned (.tuple #[.agg #[m,i,ev,c],b])/\Du w w' m i ev c k/\Γ w w w'
def bz(w0:Ω)(lo g:Nat)(es:List Ez)(wr:Ω):Prop:=
 ∃m i ev c V ps,wr.heap[g]?=some (.cells #[m,i,ev,c] 28 (0,0))/\lo<=g/\Ay lo wr m V (Pb 12)/\AQ lo 115 3 Av wr i (xW 12 AX.zero)/\Da lo wr ev ps es/\AQ lo 125 4 AY wr c []/\Γ lo w0 wr
theorem KJ (v:Φ)(c6:List (List ByteArray))(w:Ω)(h:Mu w v c6)(h3:c6.length=3)(aq:∀ts∈c6,BW ts=true)(lf:∀ts∈c6,DQ ts):
 Ξ prog 71 #[v] w (gW w true (Ou c6)):=by
 obtain⟨V,A,H⟩:=h;obtain⟨a,cv,rfl,hc,cq,H0⟩:=BK.open Eh ψ A;unfold maxLen at cq;have pQ:V.length<=3:=by rw[H.1,h3];omega
 have oG:3<=V.length:=by rw[H.1,h3];omega
 have HB:=AA H;have H3:=AA h3;have f4:=AA aq;have po:=AA lf;clear H h3 aq lf;go_in;go_wp2_with fail;have az:=AJ w (.cells #[ι,ι,ι,ι] 28);have mE:(w.alloc (.cells #[ι,ι,ι,ι] 28)).heap[w.heap.size]?=some (.cells #[ι,ι,ι,ι] 28 (0,0)):=yx w _;have lg:w.heap.size+1=(w.alloc (.cells #[ι,ι,ι,ι] 28)).heap.size:=χ;generalize w.alloc (.cells #[ι,ι,ι,ι] 28)=W0 at az mE lg;refine Fj 6 mixed φ 41 rfl φ (eV W0.heap.size) (λ_ w'=>Γ W0 W0 w') ?_ ?_ ?_
 .exact Ap (yN _ _) 1
 .intro i E o L a w1 D z ho HL O hg Z
  have g8:=O.size;clear D HL
  match i,E with
  |0,_=>obtain rfl:=yP L;clear z;refine yO ?_;go_simp;refine(aK _).mono ?_;rintro e w2 ⟨v,V,rfl,h3,h4⟩;exact Z _ _ ⟨V,h3.lower g8⟩ (O.trans (h4.mono g8)) (λj u _ _ _ h=>KW h h4)
  |1,_=>obtain rfl:=yP L;clear z;refine yO ?_;obtain⟨i0,kB,ko,kn,km⟩:=info_parts Tryz.infoInfo;obtain⟨w2,f6,h3,h4⟩:=run_make_full (P:=prog) w1 w1.heap.size 24 115 i0 _ 3 underlying24 kB ko kn .i64 .i64 12 (by rw[km];decide) ψ (yF _);have h5:=Below.zE h4;rw[aP] at h3;have nh:(Instr.makeSlice 24 (.int .i64 12) (.int .i64 12)).run prog w1=.ok (.slice w1 12 12) w2:=f6;clear kB ko kn km f6;go_simp;exact Z _ _ (Bb h3 g8) (O.trans (h5.mono g8)) (λj u _ _ _ h=>KW h h5)
  |2,_|3,_=>obtain rfl:=yP L;clear z;refine yO ?_;go_simp;exact Z _ _ ((Ci _ _ _ _).lower g8) (O.alloc g8 _) (λj u _ _ _ h=>KW h (AJ _ _))
  |4,_=>
   obtain rfl:=yP L;have d0:=Bc z 0;have d1:=Bc z 1;have d2:=Bc z 2;have d3:=Bc z 3;clear z
   change ∃V,Ay _ _ (a.tmps[6]?.getD Θ) _ _ at d0
   change AQ _ _ _ _ _ (a.tmps[7]?.getD Θ) _ at d1
   change AQ _ _ _ _ _ (a.tmps[8]?.getD Θ) _ at d2
   change AQ _ _ _ _ _ (a.tmps[9]?.getD Θ) _ at d3
   refine yO ?_;generalize e6:a.tmps[6]?.getD Θ=m at d0;generalize e7:a.tmps[7]?.getD Θ=i at d1;generalize e8:a.tmps[8]?.getD Θ=e at d2;generalize e9:a.tmps[9]?.getD Θ=c at d3;obtain⟨op,d0⟩:=d0;have W:=AA (show eV W0.heap.size 4 (.agg #[m,i,e,c]) w1 from⟨m,i,e,c,rfl,⟨op,d0⟩,d1,d2,d3⟩);obtain⟨_,_,rfl,_,_⟩:=d0.1.rd.shape;obtain⟨_,_,rfl,_,_⟩:=d1.rd.shape;obtain⟨_,_,rfl,_,_⟩:=d2.rd.shape;obtain⟨_,_,rfl,_,_⟩:=d3.rd.shape;clear d0 d1 d2 d3;go_simp;exact Z _ _ W O (λj u _ _ _ h=>h)
  |5,_=>obtain rfl:=yP L;clear z;refine yO ?_;go_simp;exact Z _ _ ⟨_,rfl,g8,yx _ _⟩ (O.alloc g8 _) (λj u _ _ _ h=>KW h (AJ _ _))
 intro xs w1 hR ho hL O
 obtain⟨m,i,e,c,h0,⟨rs,A⟩,H,h3,h4⟩:=Bh hR 4;obtain⟨g,h5,h6,h7⟩:=Bh hR 5;clear hR hL;simp only[Ai,Ae,yL,yI,yJ,yH,h0,h5];simp;generalize xs 0=y0;generalize xs 1=y1;generalize xs 2=y2;generalize xs 3=y3;have St:bz W0 W0 g (JT (c6.take 0)) ((((w1.setCell g m).setCell (g,1) i).setCell (g,2) e).setCell (g,3) c):=by have bw:=As (As (As (Ak w1 g 0 m) 1 i) 2 e) 3 c;exact⟨m,i,e,c,rs,[],DF h7,h6,A.yV bw h7,H.yV bw h7,⟨h3.yV bw h7,Gj.nil,Dh.nil⟩,h4.yV bw h7,(((O.setCell h6 _).setCell h6 _).setCell h6 _).setCell h6 _⟩
 obtain⟨_,_,rfl,_,_⟩:=A.1.rd.shape;obtain⟨_,_,rfl,_,_⟩:=H.rd.shape;obtain⟨_,_,rfl,_,_⟩:=h3.rd.shape;obtain⟨_,_,rfl,_,_⟩:=h4.rd.shape;obtain⟨c0,c1,c2,c3⟩:=AG h7;have cn:=AI h7;clear h0 A H h3 h4 h5 O h6 h7;go_wp2_with fail;clear c0 c1 c2 c3 cn;simp only[uv,xi];go_loopw [5] (λi wr=>∃k:Nat,k<=3/\i=.int .i64 k/\bz W0 W0 g (JT (c6.take k)) wr) (λi _=>3 - (intOf i).toNat)
 exact⟨0,ω,rfl,St⟩
 clear St;obtain⟨k,hk,rfl,m,iv,ev,c,rs,ps,hB,K,o1,o2,o3,o4,al⟩:=hrel
 by_cases ay:k<3
 .have i6:k<V.length:=ω
  obtain⟨u,hu⟩:∃u,V[k]?=some u:=⟨_,yG i6⟩
  obtain⟨ts,hts⟩:∃ts,c6[k]?=some ts:=⟨_,yG (by rw[H3.u];exact ay)⟩
  have Ru:=HB.2 k u ts hu hts;have aq:=f4 ts (yv hts);have lf:=po ts (yv hts);obtain⟨b,a6,rfl,mu,bE⟩:=H0 k u hu;have Dw:w.cell? (b,a6+k)=some u:=by simpa using bE 0 u rfl
  have ar:=az.trans (al.mono az.size);have Hb:wr.cell? (b,a6+k)=some u:=(ar.cell (yK w _ Dw)).trans Dw;have nZ:=AA hts;have Hu:=AA hu;clear hu hts Dw bE;go_wp2_with fail;refine(H6 u ts _ (BK.below Ru ar) lf).mono ?_;rintro e w2 ⟨rfl,kr⟩;rw[aq];have bl:Γ wr wr w2:=by obtain⟨n,rfl⟩:=kr;exact Ap (yN _ _) n
  clear kr aq;have ar:=ar.trans (bl.mono ar.size);have Hb:w2.cell? (b,a6+k)=some u:=(bl.cell (yK wr _ Hb)).trans Hb;have iJ:=yK w2 _ Hb;have mC:=AB hB bl;have f5:=o3.below bl;have o1:=o1.below bl;have o2:=o2.below bl;have o4:=o4.below bl;have al:=al.trans (bl.mono al.size);clear bl o3 hB;have pS:ts.length<=6:=by have:=f4 ts (yv nZ.u);simp only[BW,yD,decide_eq_true_eq] at this;exact this.2
  have pX:(k:Int)<V.length:=ω;go_wp2_with fail;have kK:ev.ownBlock≠some g:=λhe=>by obtain⟨fy,hc⟩:=A7 f5.1 g he;rw[mC] at hc;simp at hc
  have ja:=λk hk=>(f5.1.lt k hk).2
  have hQ:=λk hk=>(f5.1.lt k hk).1
  have jL:∀w3,w2.grownBy w3 ev.ownBlock->w3.heap[g]?=some (.cells #[m,iv,ev,c] 28 (0,0)):=λw3 h=>(h.block g (AU mC) (λe=>kK e.symm)).trans mC
  have jJ:∀w3,w2.grownBy w3 ev.ownBlock->∀k,k<w.heap.size->w3.heap[k]?=w2.heap[k]? :=λw3 h k hk=>h.block k (yu hk ar.size) (λe=>by have:=hQ k e.symm;omega)
  have GS:=AA (λ(ho:Nat->Bool)(w3:Ω)(i:Nat)(h:w2.grownBy w3 ev.ownBlock/\(ho 10=false->Γ w2 w2 w3))=>(⟨h.1,λmH=>h.2 (Dm mH)⟩:w2.grownBy w3 ev.ownBlock/\(Hz ho i 10=false->Γ w2 w2 w3)));have GB:=AA (λ(ho:Nat->Bool)(w3 w4:Ω)(i:Nat)(h:w2.grownBy w3 ev.ownBlock/\(ho 10=false->Γ w2 w2 w3))(J:Γ w3.heap.size w3 w4)=>(⟨AO h.1 (AW J _),λmH=>(h.2 (Dm mH)).trans (J.mono h.1.size)⟩:w2.grownBy w4 ev.ownBlock/\(Hz ho i 10=false->Γ w2 w2 w4)));refine Fj 12 mixed φ 41 rfl φ (eR W0 w2.heap.size g (.slice (some ⟨b,a6,none⟩) V.length cv) u ev b (a6+k) k ts ps (JT (c6.take k))) (λho w3=>w2.grownBy w3 ev.ownBlock/\(ho 10=false->Γ w2 w2 w3)) ?_ ?_ ?_
  .exact⟨AW (Ap (yN _ _) 1) _,λ_=>Ap (yN _ _) 1⟩
  .intro i E o L a w3 D z ho HL O hg Z
   match i,E with
   |0,_=>
    obtain rfl:=yP L;have e4:a.tmps[4]?.getD Θ=.pointer g:=by rw[No D 4];rfl
    clear z D;refine yO ?_;go_simp;exact Z _ _ rfl (GS _ _ _ O) (λj u _ _ _ h=>h)
   |1,_=>
    obtain rfl:=yP L;have d0:=Bc z 0
    change a.tmps[24]?.getD Θ=.pointer (some ⟨g,2,none⟩) at d0
    clear z D;refine yO ?_;have cg:w3.cell? (g,2)=some ev:=yy w3 g 2 _ _ _ (jL w3 O.1);go_simp;exact Z _ _ rfl (GS _ _ _ O) (λj u _ _ _ h=>h)
   |2,_=>obtain rfl:=yP L;clear z D;refine yO ?_;go_simp;exact Z _ _ ⟨_,rfl,O.1.size,yx _ _⟩ (GB _ _ _ _ O (AJ _ _)) (λj u _ _ _ h=>Mw h (AW (AJ _ _) none) (λk hk=>by cases hk) (.inr rfl))
   |3,_=>
    obtain rfl:=yP L;have e0:a.tmps[0]?.getD Θ=.slice (some ⟨b,a6,none⟩) V.length cv:=by rw[No D 0];rfl
    clear z D;refine yO ?_;go_simp;exact Z _ _ rfl (GS _ _ _ O) (λj u _ _ _ h=>h)
   |4,_=>
    obtain rfl:=yP L;have e5:a.tmps[5]?.getD Θ=.int .i64 k:=by rw[No D 5];rfl
    clear z D;refine yO ?_;go_simp;exact Z _ _ rfl (GS _ _ _ O) (λj u _ _ _ h=>h)
   |5,_=>
    obtain rfl:=yP L;have d3:=Bc z 3
    change a.tmps[27]?.getD Θ=.slice (some ⟨b,a6,none⟩) V.length cv at d3
    have d4:=Bc z 4
    change a.tmps[28]?.getD Θ=.int .i64 k at d4
    clear z D;refine yO ?_;go_simp;exact Z _ _ rfl (GS _ _ _ O) (λj u _ _ _ h=>h)
   |6,_=>
    obtain rfl:=yP L;have d5:=Bc z 5
    change a.tmps[29]?.getD Θ=.pointer (some ⟨b,a6+k,none⟩) at d5
    clear z D;refine yO ?_;have cu:w3.cell? (b,a6+k)=some u:=(World.cell?_of_block (jJ w3 O.1 b mu)).trans Hb;go_simp;exact Z _ _ rfl (GS _ _ _ O) (λj u _ _ _ h=>h)
   |7,_=>
    obtain rfl:=yP L;have d2:=Bc z 2
    change ∃g2,a.tmps[26]?.getD Θ=.slice (some ⟨g2,0,none⟩) 0 0/\_<=g2/\_ at d2
    have d6:=Bc z 6
    change a.tmps[30]?.getD Θ=u at d6
    clear z D;refine yO ?_;obtain⟨g2,d2,pj,pi⟩:=d2;obtain⟨v7,w4,f6,r1,r2,r3⟩:=EA (lo:=w2.heap.size) (w:=w3) (t:=79) (ty:=79) 9 _ 1 16 underlying79 Tryz.zi rfl ψ pi pj (BK.keep Ru (λk hk=>(jJ w3 O.1 k hk).trans (ar.block k hk))) dP ω;refine Cc rfl (Br d2) (Br d6) f6 ?_;exact Z _ _ r1 (GB _ _ _ _ O r2) (λj u _ _ _ h=>Mw h (AW r2 none) (λk hk=>by cases hk) (.inr rfl))
   |8,_=>
    obtain rfl:=yP L;have d7:=Bc z 7
    change AQ _ _ _ _ _ (a.tmps[31]?.getD Θ) _ at d7
    clear z D;refine yO ?_;generalize e31:a.tmps[31]?.getD Θ=r at d7;have W:=AA (show eR W0 w2.heap.size g (.slice (some ⟨b,a6,none⟩) V.length cv) u ev b (a6+k) k ts ps (JT (List.take k c6)) 8 (.agg #[r,.int .i64 (-1)]) w3 from⟨r,rfl,d7⟩);obtain⟨_,_,rfl,_,_⟩:=d7.rd.shape;clear d7;go_simp;exact Z _ _ W (GS _ _ _ O) (λj u _ _ _ h=>h)
   |9,_=>
    obtain rfl:=yP L;have d8:=Bc z 8
    change ∃r,a.tmps[32]?.getD Θ=.agg #[r,.int .i64 (-1)]/\_ at d8
    clear z D;refine yO ?_;obtain⟨r,d8,ph⟩:=d8;go_simp;exact Z _ _ ⟨r,_,rfl,O.1.size,yx _ _,AQ.below ph (AJ _ _)⟩ (GB _ _ _ _ O (AJ _ _)) (λj u _ _ _ h=>Mw h (AW (AJ _ _) none) (λk hk=>by cases hk) (.inr rfl))
   |10,_=>
    obtain rfl:=yP L;have d1:=Bc z 1
    change a.tmps[25]?.getD Θ=ev at d1
    have d9:=Bc z 9
    change ∃r g9,a.tmps[33]?.getD Θ=.slice (some ⟨g9,0,none⟩) 1 1/\_<=g9/\_/\_ at d9
    clear z D;refine yO ?_;obtain⟨r,g9,d9,qh,nS,nR⟩:=d9;have g5:=O.2 HL.1;have oy:=f5;have f5:=f5.below g5;obtain⟨i0,kB,ko,kn,km⟩:=info_parts Tryz.zd;have er:ps.length<=3:=by rw[f5.2.1.1];simp[JT];omega
    obtain⟨pK,w4,f6,r1,r2,_,r4⟩:=run_append_own_at (P:=prog) w3 W0.heap.size 25 25 81 i0 _ 2 32 underlying25 kB ko kn km rfl ψ ev ps.length (Ce FM ps) f5.1 ⟨g9,0,none⟩ 1 1 [r,.int .i64 (-1)] rfl (by
     intro j x hx
     match j,hx with
     |0,hx=>simp at hx;subst hx;exact yy w3 g9 0 _ _ _ nS
     |1,hx=>simp at hx;subst hx;exact yy w3 g9 1 _ _ _ nS) (by
     obtain⟨_,_,rfl,_,_⟩:=nR.rd.shape;simp[xR]) (by simp only[maxLen];omega) ω (yM al.size g5.size)
    clear kB ko kn km;refine Cc rfl (Br d1) (Br d9) f6 ?_;exact Z _ _ ⟨r,oy.push g5 al.size (yF _) nR r1 r2⟩ ⟨AO O.1 r2,λh=>by simp[Hz] at h⟩ (λj x hj _ _ h=>Mw h r2 ja (.inl hj))
   |11,_=>
    obtain rfl:=yP L;have e4:a.tmps[4]?.getD Θ=.pointer g:=by rw[No D 4];rfl
    clear z D;refine yO ?_;go_simp;exact Z _ _ rfl (GS _ _ _ O) (λj u _ _ _ h=>h)
  intro xs w3 hR ho hL O
  obtain⟨r,o5⟩:=Bh hR 10;have mG:xs 11=.pointer (some ⟨g,2,none⟩):=Bh hR 11;have O:=O.1;clear hR hL;simp only[Ai,Ae,yL,yI,yJ,yH,mG];simp;generalize xs 0=z0;generalize xs 1=z1;generalize xs 2=z2;generalize xs 3=z3;generalize xs 4=z4;generalize xs 5=z5;generalize xs 6=z6;generalize xs 7=z7;generalize xs 8=z8;generalize xs 9=z9;generalize xs 10=ev' at o5;clear mG;have g5:=jL w3 O;have bw:=Ak w3 g 2 ev';have St:bz W0 W0 g (JT (c6.take (k+1))) (w3.setCell (g,2) ev'):=by
   have e1:JT (c6.take (k+1))=JT (c6.take k)++[⟨ts,-1⟩]:=by rw[DA nZ.u];simp[JT]
   rw[e1];refine⟨m,iv,ev',c,rs,_,?_,K,?_,?_,o5.yV bw g5,?_,?_⟩
   .have:=yE w3 g 2 _ 28 ev' g5
    simpa using this
   .exact Ay.yV (o1.kept O f5.1 ψ ψ) bw g5
   .exact AQ.yV (Au o2 O (BI o2 f5.1 ψ).ne) bw g5
   .exact AQ.yV (Au o4 O (BI o4 f5.1 ψ).ne) bw g5
   exact(al.grown O al.size (λk hk=>hQ k hk)).setCell K _
  obtain⟨_,_,rfl,_,_⟩:=o5.1.rd.shape;obtain⟨_,_,rfl,_,_⟩:=f5.1.rd.shape;obtain⟨c0,c1,c2,c3⟩:=AG g5;have cn:=AI g5;simp only[yz,vT,xi,wT] at St;clear g5 bw o5 o1 o2 f5 o4 jL jJ GS GB kK ja hQ;go_wp2;go_roundw;exact⟨k+1,ω,ξ,St⟩;simp[intOf];omega
 obtain rfl:k=3:=ω;have e3:c6.take 3=c6:=xm (by rw[H3.u];omega);rw[e3] at o3;have i6:¬(3:Int)<V.length:=ω;have nx:((V.length:Int) !=3)=false:=η;have bP:g≠w.heap.size:=ω;have el:wr.heap[w.heap.size]?=some (.cells #[ι,ι,ι,ι] 28 (0,0)):=(al.block _ ω).trans mE;have S:=AA (show ∀w',wr.grownBy w' (some w.heap.size)->gW w true (Ou c6) (.returned (.tuple #[.agg #[m,iv,ev,c],τ])) w' from λw' hN=>⟨m,iv,ev,c,rfl,⟨⟨rs,(o1.yV hN el).lower az.size⟩,(o2.yV hN el).lower az.size,⟨ps,(o3.yV hN el).lower az.size⟩,(o4.yV hN el).lower az.size⟩,(az.trans (al.mono az.size)).grown hN (az.trans (al.mono az.size)).size (λk hk=>by cases hk;exact yF _)⟩)
 have bw:wr.grownBy ((((wr.setCell w m).setCell (w,1) iv).setCell (w,2) ev).setCell (w,3) c) (some w.heap.size):=As (As (As (Ak wr w.heap.size 0 m) 1 iv) 2 ev) 3 c;obtain⟨E0,E1,E2,E3⟩:=AG (DF (m':=m) (i':=iv) (e':=ev) (c':=c) el);have HE:=AA (yj E0 (yj E1 (yj E2 E3)));clear E0 E1 E2 E3;obtain⟨_,_,rfl,_,_⟩:=o1.1.rd.shape;obtain⟨_,_,rfl,_,_⟩:=o2.rd.shape;obtain⟨_,_,rfl,_,_⟩:=o3.1.rd.shape;obtain⟨_,_,rfl,_,_⟩:=o4.rd.shape;obtain⟨c0,c1,c2,c3⟩:=AG hB;obtain⟨d0,d1,d2,d3⟩:=AG el;have cn:=AI el;clear hB el o1 o2 o3 o4;simp only[uv,xi] at HE S bw ⊢;go_wp2_with fail;exact yB (v:=.tuple #[.agg #[_,_,_,_],τ]) (by simp[results,Tryz.results71,go_sem,HE.u]) rfl (S _ bw)
theorem M9{α:Type}(cs:α->List Φ)(lo e sz:Nat)(w:Ω):AQ lo e sz cs w (.slice none 0 0) []:=xy _ _ _ _
theorem DD{e:Nat}{xs:List Φ}{fy:Array Φ}(h:w.ownsRow lo e sz v n xs)(hB:w.heap[g]?=some (.cells fy T (0,0)))(bP:e≠T):v.ownBlock≠some g:=λhe=>by obtain⟨c,hc⟩:=A7 h g he;rw[hB] at hc;simp at hc;exact bP hc.2.symm
def Iz(lo:Nat)(w:Ω)(g:Nat)(m i e c:Φ)(k:AR):Prop:=w.heap[g]?=some (.cells #[m,i,e,c] 28 (0,0))/\lo<=g/\Du lo w m i e c k
theorem Iz.below{m:Φ}(h:Iz lo w g m i e c k)(J:Γ w w w'):Iz lo w' g m i e c k:=⟨AB h.1 J,h.2.1,h.2.2.below J⟩
theorem Iz.cells{m:Φ}(h:Iz lo w g m i e c k):w.cell? g=some m/\w.cell? (g,1)=some i/\w.cell? (g,2)=some e/\w.cell? (g,3)=some c:=AG h.1
section
variable {lo g:Nat} {w w1:Ω} {m i e c:Φ} {k:AR}
theorem LY{T:Nat}{fy:Array Φ}(hB:w.heap[g]?=some (.cells #[m,i,e,c] 28 (0,0)))(K:w.grownBy w1 (some b))(J:w.heap[b]?=some (.cells fy T (0,0)))(hT:28≠T):w1.heap[g]?=some (.cells #[m,i,e,c] 28 (0,0)):=by
 refine(K.block g (AU hB) λhe=>?_).trans hB;cases he;rw[hB] at J;simp at J;exact hT J.2
theorem Iz.Zh(h:Iz lo w g m i e c k)(au:lo<=w.heap.size)(J:Γ w w w1){i':Φ}{xs:List AX}(H:AQ w.heap.size 115 3 Av w1 i' xs):Iz lo (w1.setCell (g,1) i') g m i' e c {k with Zh:=xs}:=by obtain⟨hB,K,⟨V,o1⟩,o2,⟨ps,o3⟩,o4⟩:=h.below J;have bw:=Ak w1 g 1 i';refine⟨?_,K,⟨V,o1.yV bw hB⟩,(H.lower au).yV bw hB,⟨ps,o3.yV bw hB⟩,o4.yV bw hB⟩;have:=yE w1 g 1 _ 28 i' hB;simpa using this
theorem Iz.Xo(h:Iz lo w g m i e c k)(au:lo<=w.heap.size)(J:Γ w w w1){c':Φ}{xs:List Ag}(H:AQ w.heap.size 125 4 AY w1 c' xs):Iz lo (w1.setCell (g,3) c') g m i e c' {k with Xo:=xs}:=by obtain⟨hB,K,⟨V,o1⟩,o2,⟨ps,o3⟩,o4⟩:=h.below J;have bw:=Ak w1 g 3 c';refine⟨?_,K,⟨V,o1.yV bw hB⟩,o2.yV bw hB,⟨ps,o3.yV bw hB⟩,(H.lower au).yV bw hB⟩;have:=yE w1 g 3 _ 28 c' hB;simpa using this
theorem Iz.info{ao:Nat}(h:Iz lo w g m (.slice gi n ao) e c k)(N:n=k.Zh.length){f j:Nat}{x y:AX}{u:Φ}(hk:k.Zh[f]?=some x)(hj:j<3)(hy:Av y=(Av x).set j u):
 Iz lo (w.setCell (gi,f*3+j) u) g m (.slice gi n ao) e c {k with Zh:=k.Zh.set f y}/\w.grownBy (w.setCell (gi,f*3+j) u) (some gi)/\lo<=gi:=by
 obtain⟨hB,K,⟨V,o1⟩,o2,⟨ps,o3⟩,o4⟩:=h;subst N;have S:=AQ.zH Az o2 hk hj hy;obtain⟨fy,hc⟩:=A7 o2 gi rfl;exact⟨⟨LY hB S.2 hc ψ,K,⟨V,o1.yV S.2 hc⟩,S.1,⟨ps,o3.yV S.2 hc⟩,o4.yV S.2 hc⟩,S.2,(yC o2 gi rfl).1⟩
end
theorem Ay.turn (h:Ay lo w v V m)(hf:f<m.length)(hu:V[f]?=some u)(hr:AE lo w' u r)(K:w.grownBy w' u.ownBlock):Ay lo w' v V (m.set f r):=by
 obtain⟨a1,a2,a3⟩:=h;have hx:=a2.2 f u _ hu (yG hf);refine⟨Au a1 K (BI a1 hx Ml).ne,⟨by rw[yh];exact a2.1,λj y ys hy iX=>?_⟩,a3⟩
 by_cases e:f=j
 .subst e
  rw[hu] at hy;cases hy;rw[xI hf] at iX;cases iX;exact hr
 rw[wC e] at iX
 exact Au (a2.2 j y ys hy iX) K (a3 j f y u (λh=>e h.symm) hy hu).ne
theorem Ay.row (h:Ay lo w v V m){f:Nat}(hf:f<m.length)(h0:0<(AK m f).length):
 ∃gw ao,V[f]?=some (.slice (some ⟨gw,0,none⟩) (AK m f).length ao)/\AE lo w (.slice (some ⟨gw,0,none⟩) (AK m f).length ao) (AK m f)/\lo<=gw/\gw<w.heap.size:=by
 obtain⟨a1,a2,a3⟩:=h;obtain⟨u,hu⟩:∃u,V[f]?=some u:=⟨_,yG (by rw[a2.1];exact hf)⟩
 have hx:=a2.2 f u (AK m f) hu (by unfold AK;exact A6 hf);obtain⟨gw,ao,rfl,A,H⟩:=JM hx h0;exact⟨gw,ao,hu,hx,A,H⟩
section
variable {lo g:Nat} {w w1:Ω} {m i e c:Φ} {k:AR}
theorem Iz.row(h:Iz lo w g m i e c k){V:List Φ}(hv:Ay lo w m V k.mem){f gw n ao:Nat}{r:List Int}(hf:f<k.mem.length)(hu:V[f]?=some (.slice gw n ao))(hr:AE lo w1 (.slice gw n ao) r)(K:w.grownBy w1 (some gw)):
 Iz lo w1 g m i e c {k with mem:=k.mem.set f r}:=by
 obtain⟨hB,nD,_,o2,⟨ps,o3⟩,o4⟩:=h;have hx:=hv.2.1.2 f _ _ hu (yG hf);obtain⟨fy,hc⟩:=A7 hx gw rfl;exact⟨LY hB K hc ψ,nD,⟨V,hv.turn hf hu hr K⟩,o2.yV K hc,⟨ps,o3.yV K hc⟩,o4.yV K hc⟩
theorem Iz.root{ao:Nat}(h:Iz lo w g m i (.slice ge n ao) c k)(N:n=k.Xr.length){j:Nat}(hj:j<k.Xr.length)(r:Int):
 Iz lo (w.setCell (ge,j*2+1) (.int .i64 r)) g m i (.slice ge n ao) c {k with Xr:=Ao k.Xr j (EJ r)}/\w.grownBy (w.setCell (ge,j*2+1) (.int .i64 r)) (some ge)/\lo<=ge:=by
 obtain⟨hB,K,⟨V,o1⟩,o2,⟨ps,a1,a2,a3⟩,o4⟩:=h;have er:ps.length=k.Xr.length:=a2.1;rw[<-er] at N;subst N;have ii:j<ps.length:=ω;have S:=AQ.zH Gb a1 (k:=j) (x:=ps[j]) (yG ii) (j:=1) ψ (y:=(ps[j].1,r)) (u:=.int .i64 r) rfl;obtain⟨fy,hc⟩:=A7 a1 ge rfl;refine⟨⟨LY hB S.2 hc ψ,K,⟨V,o1.yV S.2 hc⟩,o2.yV S.2 hc,⟨ps.set j (ps[j].1,r),?_,⟨?_,?_⟩,?_⟩,o4.yV S.2 hc⟩,S.2,(yC a1 ge rfl).1⟩
 .exact S.1
 .rw[yh,DI];exact er
 .intro q p ev hp gb
  rw[KF (d:=⟨[],0⟩)] at gb
  by_cases e:j=q
  .subst e
   rw[xI ii] at hp;rw[xI hj] at gb;cases hp;cases gb;have hx:=a2.2 j ps[j] (k.Xr.getD j ⟨[],0⟩) (yG ii) (A6 hj);exact⟨hx.1.yV S.2 hc,rfl⟩
  rw[wC e] at hp gb
  have hx:=a2.2 q p ev hp gb;exact⟨hx.1.yV S.2 hc,hx.2⟩
 rw[vf,(χ:ps[j].1=(ps.map (·.1))[j]'(by simpa using ii)),List.set_getElem_self]
 exact a3
theorem Iz.Pj{ao:Nat}(h:Iz lo w g m i (.slice ge n ao) c k)(N:n=k.Xr.length)(au:lo<=w.heap.size)(J:Γ w w w1){j:Nat}(hj:j<k.Xr.length){u:Φ}{ss:List ByteArray}(hu:AQ w.heap.size 9 1 A0 w1 u ss):
 Iz lo (w1.setCell (ge,j*2) u) g m i (.slice ge n ao) c {k with Xr:=Ao k.Xr j (BT ss)}/\w1.grownBy (w1.setCell (ge,j*2) u) (some ge)/\lo<=ge:=by
 have h':=h.below J;obtain⟨mE,nD,_,_,⟨iU,b1,b2,b3⟩,_⟩:=h;obtain⟨hB,K,⟨V,o1⟩,o2,_,o4⟩:=h';have a1:=AQ.below b1 J;have er:iU.length=k.Xr.length:=b2.1;rw[<-er] at N;subst N;have ii:j<iU.length:=ω;have S:=AQ.zH Gb a1 (k:=j) (x:=iU[j]) (yG ii) (j:=0) ψ (y:=(u,iU[j].2)) (u:=u) rfl;rw[xT] at S;obtain⟨fy,hc⟩:=A7 a1 ge rfl;have bP:9≠81:=ψ;refine⟨⟨LY hB S.2 hc ψ,K,⟨V,o1.yV S.2 hc⟩,o2.yV S.2 hc,⟨iU.set j (u,iU[j].2),?_,⟨?_,?_⟩,?_⟩,o4.yV S.2 hc⟩,S.2,(yC a1 ge rfl).1⟩
 .exact S.1
 .rw[yh,DI];exact er
 .intro q p ev hp gb
  rw[KF (d:=⟨[],0⟩)] at gb
  by_cases e:j=q
  .subst e
   rw[xI ii] at hp;rw[xI hj] at gb;cases hp;cases gb;have hx:=b2.2 j iU[j] (k.Xr.getD j ⟨[],0⟩) (yG ii) (A6 hj);exact⟨(hu.lower au).yV S.2 hc bP,hx.2⟩
  rw[wC e] at hp gb
  have hx:=b2.2 q p ev hp gb;exact⟨(hx.1.below J).yV S.2 hc bP,hx.2⟩
 rw[vf]
 intro x y a b nb ha gs;have yV:∀(q:Nat)(p:Φ×Int),iU[q]?=some p->GP p.1 u:=λq p hq=>by
  obtain⟨ev,gb⟩:∃ev,k.Xr[q]?=some ev:=⟨_,yG (by rw[<-er];exact(yA.1 hq).1)⟩
  exact LB (B:=0) (b2.2 q p ev hq gb).1 (λk hk=>(hu.lt k hk).1)
 by_cases e1:j=x
 .subst e1
  rw[xI (by simpa using ii)] at ha;cases ha;rw[wC nb] at gs;rw[xq] at gs;obtain⟨p,hp,rfl⟩:=Option.map_eq_some_iff.1 gs;exact(yV y p hp).symm
 rw[wC e1] at ha
 by_cases e2:j=y
 .subst e2
  rw[xI (by simpa using ii)] at gs;cases gs;rw[xq] at ha;obtain⟨p,hp,rfl⟩:=Option.map_eq_some_iff.1 ha;exact yV x p hp
 rw[wC e2] at gs
 exact b3 x y a b nb ha gs
end
def VD(w:Ω)(a:Option Addr)(es:List Ez):Prop:=∀j,j<es.length->∃b a6 ua uc,a=some ⟨b,a6,none⟩/\b<w.heap.size/\w.cell? ⟨b,a6+j*2,none⟩=some (.slice ua (AH es j).Pj.length uc)/\w.cell? ⟨b,a6+j*2+1,none⟩=some (.int .i64 (AH es j).root)/\BY w (.slice ua (AH es j).Pj.length uc) (AH es j).Pj
theorem Gr.open (h:Gr w v es):∃a ao,v=.slice a es.length ao/\es.length<=ao/\ao<=maxLen/\VD w a es:=by
 obtain⟨ps,A,H⟩:=h;obtain⟨a,ao,rfl,hc,cq,h2⟩:=BK.open Gb ψ A;refine⟨a,ao,by rw[H.1],by rw[<-H.1];exact hc,cq,λj hj=>?_⟩;have hp:j<ps.length:=by rw[H.1];exact hj
 obtain⟨b,a6,rfl,ay,bE⟩:=h2 j _ (yG hp);have hr:=H.2 j _ (AH es j) (yG hp) (by unfold AH;exact A6 hj);obtain⟨ua,uc,e,_,_⟩:=hr.1.shape;refine⟨b,a6,ua,uc,rfl,ay,?_,?_,?_⟩
 .have:=bE 0 _ rfl
  rw[e] at this;exact this
 .have:=bE 1 _ rfl
  rw[hr.2] at this;exact this
 rw[<-e];exact hr.1
theorem VD.below{a:Option Addr}(h:VD w a es)(J:Γ w w w'):VD w' a es:=by intro j hj;obtain⟨b,a6,ua,uc,rfl,ay,h0,A,H⟩:=h j hj;exact⟨b,a6,ua,uc,rfl,yu ay J.size,(J.cell (p:=⟨b,a6+j*2,none⟩) ay).trans h0,(J.cell (p:=⟨b,a6+j*2+1,none⟩) ay).trans A,BK.below H J⟩
theorem Fp{Zh:List AX}{a b:List Nat}(h:∀g,g∈a↔g∈b):BM Zh a ss=BM Zh b ss:=by
 unfold BM;rw[wW];simp only[yr];exact⟨λh2 g K=>h2 g ((h g).2 K),λh2 g K=>h2 g ((h g).1 K)⟩
section
variable {k:AR}
theorem dD(h:By k.mem=false):Cx k=false:=by simp[Cx,h]
theorem YS(h:BG k.Zh=false):Cx k=false:=by simp[Cx,h]
theorem YR(h:Bk k.Xo=false):Cx k=false:=by simp[Cx,h]
theorem aH(h:k.Xr.length≠3):Cx k=false:=by simp[Cx,Js,h]
theorem Oi{j:Nat}(hj:j<k.Xr.length)(h:EW k (AH k.Xr j)=false):Cx k=false:=by have:k.Xr.all (EW k)=false:=xj.2 ⟨AH k.Xr j,by unfold AH;exact yv (A6 hj),by simp[h]⟩;simp[Cx,Js,this]
theorem dE(hf:f<12)(h:EC k f=false):Cx k=false:=by have:(yL 12).all (EC k)=false:=xj.2 ⟨f,yi.2 hf,by simp[h]⟩;simp[Cx,this]
theorem Ww(hf:f<12)(h:If k f=false):Cx k=false:=by have:(yL 12).all (If k)=false:=xj.2 ⟨f,yi.2 hf,by simp[h]⟩;simp[Cx,this]
theorem YT{j:Nat}(hj:j<k.Xo.length)(h:Cz k (AV k.Xo j)=false):Cx k=false:=by have:k.Xo.all (Cz k)=false:=xj.2 ⟨AV k.Xo j,by unfold AV;exact yv (A6 hj),by simp[h]⟩;simp[Cx,this]
theorem dG(A:By k.mem=true)(H:BG k.Zh=true)(h3:Bk k.Xo=true)(h4:k.Xr.length=3)(h5:∀j,j<3->EW k (AH k.Xr j)=true)
 (h6:∀f,f<12->EC k f=true/\If k f=true)(h7:∀j,j<k.Xo.length->Cz k (AV k.Xo j)=true):Cx k=true:=by
 have a1:k.Xr.all (EW k)=true:=yr.2 λx hx=>by
  obtain⟨j,hj,rfl⟩:=wY hx;have:=h5 j ω;unfold AH at this
  rwa [yg,yG hj] at this
 have a2:(yL 12).all (EC k)=true:=yr.2 λf hf=>(h6 f (yi.1 hf)).1
 have a3:(yL 12).all (If k)=true:=yr.2 λf hf=>(h6 f (yi.1 hf)).2
 have a4:k.Xo.all (Cz k)=true:=yr.2 λx hx=>by
  obtain⟨j,hj,rfl⟩:=wY hx;have:=h7 j hj;unfold AV at this
  rwa [yg,yG hj] at this
 simp[Cx,Js,A,H,h3,h4,a1,a2,a3,a4]
def FO(k:AR)(j:Nat):List Int:=(yL 12).map λg=>(countP k.mem k.Zh g:Int)+(Ew (k.Xr.take j) g:Int)
theorem EV{j:Nat}:(FO k j).length=12:=by simp[FO]
theorem Mc{j g:Nat}(h:g<12):nth (FO k j) g=(countP k.mem k.Zh g:Int)+(Ew (k.Xr.take j) g:Int):=by unfold FO nth;rw[yg,xq,sQ h];rfl
theorem U1:FO k 0=(yL 12).map λg=>(countP k.mem k.Zh g:Int):=by unfold FO;rw[List.take_zero];simp[Ew]
theorem TP{j g:Nat}(hj:j<k.Xr.length):Ew (k.Xr.take (j+1)) g=Ew (k.Xr.take j) g+(if(AH k.Xr j).root=(g:Int) then 1 else 0):=by
 have h:k.Xr[j]?=some (AH k.Xr j):=by unfold AH;exact A6 hj
 rw[DA h];unfold Ew;rw[List.countP_append,List.countP_singleton];simp
theorem ZV{j:Nat}(hj:j<k.Xr.length)(h:(AH k.Xr j).root<0):FO k (j+1)=FO k j:=by
 unfold FO;refine List.map_congr_left λg _=>?_
 rw[TP hj,if_neg ω,xT]
theorem XU{j r:Nat}(hj:j<k.Xr.length)(h:(AH k.Xr j).root=(r:Int))(hr:r<12):FO k (j+1)=(FO k j).set r (nth (FO k j) r+1):=by
 refine Mx (by simp[FO]) λg K=>?_
 rw[EV] at K;rw[Vt (by rw[EV];exact hr),Mc K,Mc hr,TP hj,h]
 by_cases e:g=r
 .subst e;simp;omega
 rw[if_neg e,Mc K,if_neg (by intro h;apply e;omega)];simp
theorem TI(hm:By k.mem=true){j g:Nat}(he:k.Xr.length=3)(K:g<12):0<=nth (FO k j) g/\nth (FO k j) g<=103:=by
 rw[Mc K];have A:countP k.mem k.Zh g<=100:=by have:=Rv (Zh:=k.Zh) (g:=g) hm (yF 12) (yt 4);unfold Jb at this;unfold countP;omega
 have H:Ew (k.Xr.take j) g<=3:=by
  have:=List.countP_le_length (p:=λe:Ez=>decide (e.root=(g:Int))) (l:=k.Xr.take j);rw[ym] at this;unfold Ew;omega
 omega
theorem TH(he:k.Xr.length=3){f:Nat}(hf:f<12):If k f=decide ((JR k.Zh f).r=nth (FO k 3) f):=by rw[Mc hf,xm ω];rfl
end
def FV(lo:Nat)(m:List (List Int))(root:Int)(w:Ω)(v:Φ):Prop:=∃ts,AE lo w v (A5 ts)/\∀g,g∈ts↔g∈Bg m root
theorem FV.below{root:Int}(h:FV lo m root w v)(J:Γ w w w'):FV lo m root w' v:=by obtain⟨ts,A,H⟩:=h;exact⟨ts,AE.below A J,H⟩
theorem zG{root:Int}(hr:root<12):∀g∈Bg m root,g<12:=by
 intro g K;obtain⟨h0,h⟩:=Dz.1 K;have N:∀t:Nat,∀x∈named (AK m t),x<12:=λt x hx=>by unfold named at hx;obtain⟨y,hy,rfl⟩:=vU.1 hx;exact Ef (wK.1 hy).2
 rcases h with rfl|h|⟨t,_,h⟩
 .omega
 .exact N _ _ h
 exact N _ _ h
def AT.onCells(g:Nat)(c:AT):Array Φ:= #[.pointer g,.int .i64 c.k,.int .i64 c.e,.int .i64 c.a,.int .i64 c.b,.int .i64 c.c,.string c.nm]
def AT.on(g:Nat)(c:AT):Φ:=.agg (c.onCells g)
theorem Ep{c:AT}(h:w.heap[b]?=some (.cells (c.onCells g) T (0,0))):w.cell? b=some (.pointer g)/\w.cell? (b,1)=some (.int .i64 c.k)/\w.cell? (b,2)=some (.int .i64 c.e)/\w.cell? (b,3)=some (.int .i64 c.a)/\w.cell? (b,4)=some (.int .i64 c.b)/\w.cell? (b,5)=some (.int .i64 c.c)/\w.cell? (b,6)=some (.string c.nm):=
 ⟨yy _ _ 0 _ _ _ h,yy _ _ 1 _ _ _ h,yy _ _ 2 _ _ _ h,yy _ _ 3 _ _ _ h,yy _ _ 4 _ _ _ h,yy _ _ 5 _ _ _ h,yy _ _ 6 _ _ _ h⟩
theorem Iz.env{m:Φ}(h:Iz lo w g m i e c k)(hj:j<k.Xr.length):
 ∃ge ao ua uc,e=.slice (some ⟨ge,0,none⟩) k.Xr.length ao/\ge<w.heap.size/\w.cell? ⟨ge,j*2,none⟩=some (.slice ua (AH k.Xr j).Pj.length uc)/\w.cell? ⟨ge,j*2+1,none⟩=some (.int .i64 (AH k.Xr j).root)/\BY w (.slice ua (AH k.Xr j).Pj.length uc) (AH k.Xr j).Pj/\∀q,w.frozen? ⟨ge,q,none⟩=false:=by
 have hr:=h.2.2.rd.2.2.1;obtain⟨ps,o⟩:=h.2.2.2.2.1;have er:ps.length=k.Xr.length:=o.2.1.1;obtain⟨ge,ao,rfl,_,ay⟩:=JM o.1 ω;obtain⟨a,cp,hv,_,_,h2⟩:=Gr.open hr;simp only[xQ] at hv;obtain⟨rfl,_,rfl⟩:=hv;obtain⟨b,a6,ua,uc,pb,_,h0,A,H⟩:=h2 j hj;cases pb;rw[wT] at h0 A;exact⟨ge,ao,ua,uc,by rw[er],ay,h0,A,H,λq=>xU o.1 q⟩
theorem ZH (g ge n ao en:Nat)(c:AT)(w:Ω)(H:w.cell? (g,2)=some (.slice ge n ao))(he:c.e=(en:Int))(N:en<n):
 Ξ prog 177 #[c.on g] w λe w'=>e=.returned (.pointer (some ⟨ge,en*2,none⟩))/\Γ w w w':=by
 obtain⟨k,e,a,b,cc,nm⟩:=c;simp only at he;subst he;simp only[AT.on,AT.onCells];obtain⟨hn,J⟩:=EU w (.cells #[.pointer g,k,en,a,b,cc,nm] 97);have x2:=(J.cell (p:=⟨g,2,none⟩) (yK w _ H)).trans H;have pV:(en:Int)<n:=ω;go_in;go_wp2_with fail;generalize w.alloc _=W0 at*;have y0:=yw (yy _ _ 0 _ _ _ hn);have y2:=yw (yy _ _ 2 _ _ _ hn);have k2:=yw x2;clear hn x2 H;refine Ba ?_
 repeat(go_big_quiet_step (fail))
 refine BZ λwq bq=>?_
 go_wp2;go_ret;exact⟨rfl,J.trans (bq.mono J.size)⟩
theorem XJ{m:Φ}(h:Iz lo w g m i e c k)(R:AT)(nm:ByteArray)(he:0<=R.e)(N:R.e<k.Xr.length):
 Ξ prog 127 #[R.on g,.string nm] w λr w'=>r=.returned (.bool (Ff k R.e nm))/\Γ w w w':=by
 obtain⟨en,b9⟩:∃n:Nat,R.e=(n:Int):=⟨R.e.toNat,ω⟩
 obtain⟨ge,ao,ua,uc,rfl,eD,D0,_,call,_⟩:=h.env (j:=en) ω;obtain⟨hn,J⟩:=EU w (.cells (R.onCells g) 97);have CE:=AA (λW (hW:Γ w w W)=>ZH g ge k.Xr.length ao en R W ((hW.cell (p:=⟨g,2,none⟩) (AU h.1)).trans h.cells.2.2.1) b9 ω);have CM:=AA (λW (hW:Γ w w W)=>Q9 _ (AH k.Xr en).Pj nm W (BK.below call hW));have S:=AA (show Cd (AH k.Xr en).Pj nm=Ff k R.e nm by unfold Ff;rw[b9];rfl);have HD:=AA D0;clear h call D0 b9 he N;obtain⟨k1,e1,a1,b1,c1,lS⟩:=R;simp only[AT.on,AT.onCells] at hn J CE ⊢;obtain⟨y0,y1,y2,y3,y4,y5,y6⟩:=Ep (c:=⟨k1,e1,a1,b1,c1,lS⟩) hn;go_in;go_wp2_with fail;refine(CE _ J).mono ?_;rintro e w2 ⟨rfl,ad⟩;replace ad:=J.trans (ad.mono J.size);have Hb:=(ad.cell (p:=⟨ge,en*2,none⟩) eD).trans HD.u;clear y0 y1 y2 y3 y4 y5 y6 hn J;go_wp2_with (refine(CM _ ad).mono ?_;rintro e w3 ⟨rfl,dr⟩);go_ret;exact⟨AF S.u,ad.trans (dr.mono ad.size)⟩
def KL(xs:List AX)(b:Int):Prop:=∀f,f<xs.length-> -b<=(JR xs f).r/\(JR xs f).r<=b
theorem Iz.JR'{m:Φ}(h:Iz lo w g m i e c k){f:Nat}(hf:f<k.Zh.length):
 ∃gi ao,i=.slice (some ⟨gi,0,none⟩) k.Zh.length ao/\gi<w.heap.size/\lo<=gi/\w.cell? ⟨gi,f*3,none⟩=some (.int .i64 (JR k.Zh f).k)/\w.cell? ⟨gi,f*3+1,none⟩=some (.string (JR k.Zh f).g)/\w.cell? ⟨gi,f*3+2,none⟩=some (.int .i64 (JR k.Zh f).r)/\∀q,w.frozen? ⟨gi,q,none⟩=false:=by
 have o:=h.2.2.2.1;obtain⟨gi,ao,rfl,_,_,au,ay,cn⟩:=o.zW ω;obtain⟨d0,d1,d2⟩:=AQ.zZ o hf;exact⟨gi,ao,rfl,ay,au,d0,d1,d2,cn⟩
theorem Tq (v:Φ)(xs:List AX)(f:Nat)(w:Ω)(h:Bf w v xs)(aq:BG xs=true)(hf:f<12)(hk:(JR xs f).k=1)(hr:(JR xs f).r=0):
 Ξ prog 178 #[v,.int .i64 f] w λe w'=>∃v',e=.returned (.tuple #[v',τ])/\AQ w.heap.size 115 3 Av w' v' (xs.set f AX.zero)/\Γ w w w':=by
 have hl:=(A2.1 aq).1;have C1:=AA (λW (hW:Γ w w W)=>by have:=Dn v xs W (BK.below h hW) (Ca aq);rw[aq] at this;exact this);have C2:=AA (λW (_:Γ w w W)=>A4 (by have:=Dy (f:Int) W;rw[show Bj (f:Int) 0 11=true from Aa.2 ω] at this;exact this));have C3:=AA (λW (hW:Γ w w W)=>Gq v xs W (BK.below h hW) ω);obtain⟨ai,ci,rfl,mr,jF,H2⟩:=BK.open Az ψ h;obtain⟨bi,bL,rfl,bC,D0,_,D2⟩:=H2.zZ (ω:f<xs.length);have i9:(f:Int)<xs.length:=ω;have t1:((JR xs f).k !=1)=false:=by simp[hk]
 have t2:((JR xs f).r !=0)=false:=by simp[hr]
 have Hl:=AA hl;have J:=yN w w;clear h aq hk hr H2 hl;go_in;go_wp2_with fail;refine(C1 _ J).mono ?_;rintro e w_ ⟨rfl,a5⟩;replace J:=J.trans (a5.mono J.size);clear a5;go_wp2_with fail;refine(C2 _ J).mono ?_;rintro e w_ ⟨rfl,a5⟩;replace J:=J.trans (a5.mono J.size);clear a5;replace D0:=(J.cell (p:=⟨bi,bL+f*3,none⟩) bC).trans D0;replace D2:=(J.cell (p:=⟨bi,bL+f*3+2,none⟩) bC).trans D2;go_wp2_with fail;clear D0 D2;refine(C3 _ J).mono ?_;rintro e w4 ⟨v',rfl,hO,bA⟩;obtain⟨q,ao,rfl,c1,c2,q1,q2,cn⟩:=hO.zW (by have:=Hl.u;omega);unfold maxLen at c2;have hS:=AA (AQ.stored Az hO (show f<xs.length by have:=Hl.u;omega) AX.zero);obtain⟨d0,d1,d2⟩:=AQ.zZ hO (show f<xs.length by have:=Hl.u;omega);have hB:=AA (AM (J.trans (bA.mono J.size)) hS.2 (yM J.size q1) (J.trans (bA.mono J.size)).size);have au:=J.size;clear hO bA J t1 t2;go_wp2;go_ret2;exact⟨_,rfl,hS.1.lower au,hB.u⟩
theorem VH (v:Φ)(xs:List AX)(f:Nat)(w:Ω)(h:Bf w v xs)(aq:BG xs=true)(hf:f<12)(hk:(JR xs f).k=1)(hr:(JR xs f).r≠0):
 Ξ prog 178 #[v,.int .i64 f] w λe w'=>e=.returned (.tuple #[ι,υ])/\Γ w w w':=by
 have hl:=(A2.1 aq).1;have C1:=AA (λW (hW:Γ w w W)=>by have:=Dn v xs W (BK.below h hW) (Ca aq);rw[aq] at this;exact this);have C2:=AA (λW (_:Γ w w W)=>A4 (by have:=Dy (f:Int) W;rw[show Bj (f:Int) 0 11=true from Aa.2 ω] at this;exact this));obtain⟨ai,ci,rfl,mr,jF,H2⟩:=BK.open Az ψ h;obtain⟨bi,bL,rfl,bC,D0,_,D2⟩:=H2.zZ (ω:f<xs.length);have i9:(f:Int)<xs.length:=ω;have t1:((JR xs f).k !=1)=false:=by simp[hk]
 have t2:((JR xs f).r !=0)=true:=by simp[hr]
 have J:=yN w w;clear h aq hk hr H2 hl;go_in;go_wp2_with fail;refine(C1 _ J).mono ?_;rintro e w_ ⟨rfl,a5⟩;replace J:=J.trans (a5.mono J.size);clear a5;go_wp2_with (refine(C2 _ J).mono ?_;rintro e w_ ⟨rfl,a5⟩;replace J:=J.trans (a5.mono J.size);clear a5;replace D0:=(J.cell (p:=⟨bi,bL+f*3,none⟩) bC).trans D0;replace D2:=(J.cell (p:=⟨bi,bL+f*3+2,none⟩) bC).trans D2);go_ret2;exact⟨rfl,J⟩
def Gk(lo g:Nat)(w:Ω)(res:Nu)(r:Ending)(w':Ω):Prop:=r=.returned (.tuple #[res.2.1,res.2.2])/\(res.2.2=0->∃m i e c,Iz lo w' g m i e c res.1)/\Γ lo w w'
def ED(lo g:Nat)(w:Ω)(res:Nu)(r:Ending)(w':Ω):Prop:=r=.returned (.int .i64 res.2.2)/\(res.2.2=0->∃m i e c,Iz lo w' g m i e c res.1)/\Γ lo w w'
variable{res:Nu}
theorem Gk.bad{n:Int}(h:res=(k,0,n))(N:n≠0)(J:Γ lo w w'):Gk lo g w res (.returned (.tuple #[θ,n])) w':=by subst h;exact⟨rfl,λh=>absurd h N,J⟩
theorem ED.bad{n:Int}(h:res=(k,0,n))(N:n≠0)(J:Γ lo w w'):ED lo g w res (.returned (.int .i64 n)) w':=by subst h;exact⟨rfl,λh=>absurd h N,J⟩
theorem Aq (h:DZ k):By k.mem=true/\BG k.Zh=true/\Bk k.Xo=true:=by have:=FI.2 h;unfold Cx at this;simp only[yD] at this;exact⟨this.1.1.1.1.1.1,this.1.1.1.1.1.2,this.1.1.1.1.2⟩
theorem Yw (h:AE lo w (.slice g 4 ao) r)(hl:r.length=4):
 ∃w',(∀ty,(tU #[29] ty #[.slice g 4 ao]).run prog w=.ok (.tuple #[]) w')/\AE lo w' (.slice g 4 ao) [0,0,0,0]/\w.grownBy w' (some g):=by
 have h4:w.ownsRow lo 3 1 (.slice g 4 ao) 4 (r.map (yl .i64)):=by have:=h;unfold AE at this;rwa [hl] at this
 have ez:(xX (yl .i64 0).cells 4).toList=[.int .i64 0,.int .i64 0,.int .i64 0,.int .i64 0]:=φ;have hst:=run_storeCells_cells (P:=prog) g 0 (xX (yl .i64 0).cells 4).toList 0 w (by
  intro j hj;have pY:j<4:=by rw[ez] at hj;exact hj
  have:=xO h4 j ω;simp only[wT] at this ⊢;rw[this];simp;omega) (by intro j _;exact xU h4 _) (by
  intro u hu;rw[ez] at hu;have:u=.int .i64 0:=by simpa using hu
  subst this;rfl)
 simp only[xT] at hst;have e0:=IH g 0 (xX (yl .i64 0).cells 4).toList 0 w;rw[xT] at e0;refine⟨w.setCells g 0 (xX (yl .i64 0).cells 4).toList,λty=>?_,?_,?_⟩
 .simp[tU,run_underlying underlying29,hst]
 .rw[e0]
  obtain⟨a1,_⟩:=Eb h4 0 0 (xX (yl .i64 0).cells 4).toList;have e:FY (r.map (yl .i64)) 0 0 (xX (yl .i64 0).cells 4).toList=[0,0,0,0].map (yl .i64):=by
   rw[ez]
   match r,hl with
   | [a,b,c,d],_=>rfl
  rw[e] at a1;exact a1
 rw[e0]
 exact(Eb h4 0 0 (xX (yl .i64 0).cells 4).toList).2
theorem Iz.zo{m:Φ}(h:Iz lo w g m i e c k)(aq:By k.mem=true){f:Nat}(hf:f<12):
 ∃gm bs gw bp V,m=.slice (some ⟨gm,0,none⟩) 12 bs/\gm<w.heap.size/\gm≠g/\w.cell? ⟨gm,f,none⟩=some (.slice (some ⟨gw,0,none⟩) 4 bp)/\gw<w.heap.size/\lo<=gw/\gw≠g/\gw≠gm/\Ay lo w m V k.mem/\V[f]?=some (.slice (some ⟨gw,0,none⟩) 4 bp)/\AE lo w (.slice (some ⟨gw,0,none⟩) 4 bp) (AK k.mem f):=by
 obtain⟨V,o⟩:=h.2.2.1;obtain⟨cl,hr⟩:=Aj.1 aq;have h4:=(BB.1 (hr f hf)).1;have ks:V.length=12:=by rw[o.2.1.1,cl]
 obtain⟨gm,bs,rfl,_,_,_,lm,_⟩:=o.1.zW ω;obtain⟨gw,bp,hu,hx,au,ay⟩:=o.row (f:=f) ω ω;rw[h4] at hu hx;have Hb:=AQ.zJ Eh o.1 hu 0 _ rfl;rw[wZ,xT] at Hb;have n1:gm≠g:=λe=>DD o.1 h.1 ψ (by rw[e];rfl)
 have n2:gw≠g:=λe=>DD hx h.1 ψ (by rw[e];rfl)
 have n3:gw≠gm:=λe=>by have:=BI hx o.1 (Ne.symm Ml) gw rfl;apply this;rw[e];rfl
 rw[ks] at*;exact⟨gm,bs,gw,bp,V,rfl,lm,n1,Hb,ay,au,n2,n3,o,hu,hx⟩
theorem bR{m:Φ}(h:Iz lo w g m i e c k)(au:lo<=w.heap.size)(hK:DZ k)(R:AT)(he:0<=R.e)(N:R.e<3)(gq:R.nm.size<=maxLen):
 Ξ prog 126 #[R.on g] w (Gk lo g w (J0 k R)):=by
 obtain⟨hn,az⟩:=EU w (.cells (R.onCells g) 97);obtain⟨hm,E,hc⟩:=Aq hK;have C1:=AA (λW (_:Γ w w W)=>Dp R.nm W gq);have C2:=AA (λW (hW:Γ w w W)=>XJ (h.below hW) R R.nm he (by rw[hK.zX];exact N));have P:J0 k R=if BR R.nm=false then(k,0,3) else if Ff k R.e R.nm=false then(k,0,1) else if An k.Zh<0 then(k,0,4) else({k with Zh:=k.Zh.set (An k.Zh).toNat ⟨1,R.nm,0⟩,mem:=k.mem.set (An k.Zh).toNat [0,0,0,0]},An k.Zh,0):=rfl
 obtain⟨k1,e1,a1,b1,c1,nm⟩:=R;simp only[AT.on,AT.onCells] at hn az C1 C2 P gq ⊢;obtain⟨y0,y1,y2,y3,y4,y5,y6⟩:=Ep (c:=⟨k1,e1,a1,b1,c1,nm⟩) hn;have hl:=AU hn;have HN:=AA hn;have HP:=AA P;have Hm:=AA hm;have Hi:=AA E;have Z:=AA hK;have HI:=AA h;clear P hm E hc hK h hn y0 y1 y2 y3 y4 y5;go_in;go_wp2_with fail;generalize hW0:w.alloc _=W0 at*;clear hW0;cases e5:BR nm
 .have T:=AA e5
  have hi:=AA (show J0 k ⟨k1,e1,a1,b1,c1,nm⟩=(k,0,3) by rw[HP.u,e5];rfl);clear e5 y6;refine(C1 _ az).mono ?_;rintro r w1 ⟨rfl,be⟩;rw[T.u];have ar:=az.trans (be.mono az.size);go_wp2;go_ret2;exact Gk.bad hi ψ (ar.mono au)
 have T:=AA e5
 have c4:=AA (show J0 k ⟨k1,e1,a1,b1,c1,nm⟩=_ by rw[HP.u,e5,if_neg ψ]);clear e5 y6;refine(C1 _ az).mono ?_;rintro r w1 ⟨rfl,bB⟩;rw[T.u];have ar:=az.trans (bB.mono az.size);obtain⟨y0,y1,y2,y3,y4,y5,y6⟩:=Ep (c:=⟨k1,e1,a1,b1,c1,nm⟩) (AB HN bB);go_wp2_with fail;clear y0 y1 y2 y3 y4 y5 y6;cases e6:Ff k e1 nm
 .have T6:=AA e6
  have hi:=AA (show J0 k ⟨k1,e1,a1,b1,c1,nm⟩=(k,0,1) by rw[c4.u,e6];rfl);clear e6;refine(C2 _ ar).mono ?_;rintro r w2 ⟨rfl,ad⟩;rw[T6.u];replace ar:=ar.trans (ad.mono ar.size);go_wp2;go_ret2;exact Gk.bad hi ψ (ar.mono au)
 have T6:=AA e6
 have ea:=AA (show J0 k ⟨k1,e1,a1,b1,c1,nm⟩=_ by rw[c4.u,e6,if_neg ψ]);clear e6;refine(C2 _ ar).mono ?_;rintro r W2 ⟨rfl,ad⟩;rw[T6.u];replace bB:=bB.trans (ad.mono bB.size);replace ar:=ar.trans (ad.mono ar.size);have H:=HI.below ar;have mA:=AA H;have mb:=yM au ar.size;obtain⟨y0,y1,y2,y3,y4,y5,y6⟩:=Ep (c:=⟨k1,e1,a1,b1,c1,nm⟩) (AB HN bB);have bD:=yu hl bB.size;have bY:=AU H.1;have kF:g≠w.heap.size:=Nat.ne_of_lt (AU HI.1);obtain⟨gi,bt,rfl,_,_,_,_,_,ml⟩:=H.JR' (f:=0) (by have:=(A2.1 Hi.u).1;omega);have x1:=H.cells.2.1;have RI:Bf W2 (.slice gi k.Zh.length bt) k.Zh:=H.2.2.2.1.rd;clear H ad y1 y2 y3 y4 y5 ml;go_wp2_with fail
 by_cases e7:An k.Zh<0
 .have hi:=AA (show J0 k ⟨k1,e1,a1,b1,c1,nm⟩=(k,0,4) by rw[ea.u,if_pos e7])
  have C3:=AA (λW (hW:Γ W2 W2 W)=>Rb _ k.Zh nm W (BK.below RI hW) (Ca Hi.u) gq Hi T e7);clear e7 RI;refine Ac 15 49 [.p w.heap.size 0,.p g 0,.p g 0,.p g 1,.s gi k.Zh.length bt,.p w.heap.size 1,.p w.heap.size 6,.t nm,.v (.tuple #[ι,θ,υ]),.v (.tuple #[ι,θ,υ]),.v (.slice none 0 0),.i 0,.b false,.v (.slice none 0 0),.i 0] (λ_ _ _=>True) ?_ ?_
  .intro i E o L a wx D z O hg Z
   match i,E with
   |0,_|2,_|3,_|5,_|6,_|9,_|10,_|11,_|12,_|13,_|14,_=>exact sP L Z D z
   |1,_=>exact sL L Z D z (hl:=Oo (bc O bD y0))
   |4,_=>exact sL L Z D z (hl:=Gt (bc O bY x1))
   |7,_=>exact sL L Z D z (hl:=aM (bc O bD y6))
   |8,_=>exact sD L Z D z (C3 _ O)
   |_+15,hq=>omega
  intro V wx hR O
  have ef:(V 12)=.bool false:=Bh hR 12;have b8:(V 13)=.slice none 0 0:=Bh hR 13;have fo:(V 14)=.int .i64 0:=Bh hR 14;clear hR;simp only[Ai,Ae,yL,yI,yJ,yH,ef,b8,fo];simp;clear ef b8 fo;replace ar:=ar.trans (O.mono ar.size);clear O y0 y6 x1;go_wp2;go_ret2;exact Gk.bad hi ψ (ar.mono au)
 obtain⟨f1,f2,f3⟩:=GW e7
 obtain⟨f,hf⟩:∃f:Nat,An k.Zh=(f:Int):=⟨(An k.Zh).toNat,ω⟩
 have hi:=AA (show J0 k ⟨k1,e1,a1,b1,c1,nm⟩=({k with Zh:=k.Zh.set f ⟨1,nm,0⟩,mem:=k.mem.set f [0,0,0,0]},(f:Int),0) by rw[ea.u,if_neg e7,hf];rfl);have iq:=λW (hW:Γ W2 W2 W)=>Rc _ k.Zh nm W (BK.below RI hW) (Ca Hi.u) gq Hi T f3
 unfold Td at iq;rw[hf] at iq f1;simp only[yq] at iq f1;have C3:=AA iq;have cz:f<12:=by have:=(A2.1 Hi.u).1;omega
 clear e7 RI iq f2 f3 hf f1;refine A9 15 49 [.p w.heap.size 0,.p g 0,.p g 0,.p g 1,.s gi k.Zh.length bt,.p w.heap.size 1,.p w.heap.size 6,.t nm,.z,.z,.z,.i ((f:Int)),.b true,.z,.i ((f:Int))] (λix vv ww=>match ix with
  |8|9=>∃v',vv=.tuple #[v',f,τ]/\AQ W2.heap.size 115 3 Av ww v' (k.Zh.set f ⟨1,nm,0⟩)
  |10|13=>AQ W2.heap.size 115 3 Av ww vv (k.Zh.set f ⟨1,nm,0⟩)
  |_=>True) ?_ ?_ ?_
 .intro i E o L a wx D z O hg Z
  match i,E with
  |0,_|2,_|3,_|5,_|6,_|14,_=>exact sP L Z D z
  |1,_=>exact sL L Z D z (hl:=Oo (bc O bD y0))
  |4,_=>exact sL L Z D z (hl:=Gt (bc O bY x1))
  |7,_=>exact sL L Z D z (hl:=aM (bc O bD y6))
  |8,_=>exact sC L Z D z (C3 _ O) (by rintro e w_ ⟨v',rfl,hO,ad⟩;exact⟨_,rfl,⟨_,rfl,hO.lower O.size⟩,ad⟩)
  |9,_=>
   obtain rfl:=yP L;have d8:∃v',(a.tmps[29]?.getD Θ)=.tuple #[v',f,τ]/\AQ W2.heap.size 115 3 Av wx v' (k.Zh.set f ⟨1,nm,0⟩):=Bc z 8
   clear z D;obtain⟨v',d8,hO⟩:=d8;refine yO ?_;go_simp;exact Z _ _ ⟨_,rfl,hO⟩ (yN _ _)
  |10,_=>
   obtain rfl:=yP L;have d9:∃v',(a.tmps[20]?.getD Θ)=.tuple #[v',f,τ]/\AQ W2.heap.size 115 3 Av wx v' (k.Zh.set f ⟨1,nm,0⟩):=Bc z 9
   clear z D;obtain⟨v',d9,hO⟩:=d9;refine yO ?_;go_simp;exact Z _ _ hO (yN _ _)
  |11,_=>
   obtain rfl:=yP L;have d9:∃v',(a.tmps[20]?.getD Θ)=.tuple #[v',f,τ]/\AQ W2.heap.size 115 3 Av wx v' (k.Zh.set f ⟨1,nm,0⟩):=Bc z 9
   clear z D;obtain⟨v',d9,hO⟩:=d9;refine yO ?_;go_simp;exact Z _ _ rfl (yN _ _)
  |12,_=>
   obtain rfl:=yP L;have d9:∃v',(a.tmps[20]?.getD Θ)=.tuple #[v',f,τ]/\AQ W2.heap.size 115 3 Av wx v' (k.Zh.set f ⟨1,nm,0⟩):=Bc z 9
   clear z D;obtain⟨v',d9,hO⟩:=d9;refine yO ?_;go_simp;exact Z _ _ rfl (yN _ _)
  |13,_=>obtain rfl:=yP L;have pk:AQ W2.heap.size 115 3 Av wx (a.tmps[30]?.getD Θ) (k.Zh.set f ⟨1,nm,0⟩):=Bc z 10;clear z D;refine yO ?_;go_simp;exact Z _ _ pk (yN _ _)
  |_+15,hq=>omega
 .intro i E vv wz c5 a7 hz
  match i,E with
  |8,_|9,_=>exact(by obtain⟨v',h0,A⟩:=hz;exact⟨v',h0,AQ.below A a7⟩)
  |10,_|13,_=>exact(AQ.below hz a7)
  |0,_|1,_|2,_|3,_|4,_|5,_|6,_|7,_|11,_|12,_|14,_=>exact hz
  |_+15,hq=>omega
 intro V wx hR O
 have ef:(V 12)=.bool true:=Bh hR 12;have b8:AQ W2.heap.size 115 3 Av wx (V 13) (k.Zh.set f ⟨1,nm,0⟩):=Bh hR 13;have fo:(V 14)=.int .i64 f:=Bh hR 14;clear hR;simp only[Ai,Ae,yL,yI,yJ,yH,ef,fo];simp;generalize V 13=z13 at b8 ⊢;clear ef fo;have h5:=mA.Zh mb O b8;have jG:=((ar.trans (O.mono ar.size)).mono au).setCell (p:=⟨g,1,none⟩) mA.2.1 z13;replace y0:=(O.cell (p:=⟨w,0,none⟩) bD).trans y0;replace x1:=(O.cell (p:=⟨g,1,none⟩) bY).trans x1;have mF:=mA.below O;have x0:=mF.cells.1;have o6:=AI mF.1;obtain⟨gm,bs,gw,bp,V,rfl,lm,n1,Hb,jZ,nv,n2,n3,o1,hu,hx⟩:=h5.zo (f:=f) Hm cz;have cl:=(Aj.1 Hm.u).1;have h4:=(BB.1 ((Aj.1 Hm.u).2 f cz)).1;have D2:=(Bt (o:=f) (Ak wx g 1 z13) (by simpa using lm) (λe=>n1 (yP e).symm)).symm.trans Hb;obtain⟨w6,jE,lw,mj⟩:=Yw hx h4;have h6:=AA (h5.row o1 (by rw[cl];exact cz) hu lw mj);have mw:=AA (AM jG mj nv (yM au jG.size));have nH:(f:Int)<12:=ω;obtain⟨q1,q2,rfl,_,_⟩:=b8.rd.shape;simp only[yh] at jE;have oZ:w.heap.size≠g:=λe=>kF e.symm
 clear h5 jG mF Hb hx o1 hu lw mj h4 cl lm jZ nv n2 n3 b8 O;go_wp2;go_ret2;exact⟨by rw[hi.u];rfl,λ_=>⟨_,_,_,_,by rw[hi.u];exact h6.u⟩,mw.u⟩
theorem Ex (h:BW ss=true):DQ ss:=by
 intro s hs;obtain⟨j,hj,rfl⟩:=wY hs;unfold BW at h;simp only[yD,yr] at h;have A:=h.1 j (yi.2 hj);unfold DB at A;simp only[yD] at A;have H:=Ku A.1;have e:Cw ss j=ss[j]:=by simp[Cw,hj]
 rw[e] at H;exact yM H ψ
theorem YL{m:Φ}(h:Iz lo w g m i e c k)(au:lo<=w.heap.size)(hK:DZ k)(R:AT)(he:0<=R.e)(N:R.e<3)(gq:R.nm.size<=maxLen):
 Ξ prog 130 #[R.on g] w (ED lo g w (Fx k R)):=by
 obtain⟨hn,az⟩:=EU w (.cells (R.onCells g) 97);have C0:=AA (λW (_:Γ w w W)=>A4 (Py R.a W));have C1:=AA (λW (_:Γ w w W)=>Dp R.nm W gq);have C2:=AA (λW (hW:Γ w w W)=>XJ (h.below hW) R R.nm he (by rw[hK.zX];exact N));have P:Fx k R=if Bj R.a 0 2=false∨BR R.nm=false then(k,0,3) else if Ff k R.e R.nm=false then(k,0,1) else if(BV (AH k.Xr R.a.toNat).Pj R.nm).2=false then(k,0,4) else({k with Xr:=Ao k.Xr R.a.toNat (BT (BV (AH k.Xr R.a.toNat).Pj R.nm).1)},0,0):=rfl
 obtain⟨k1,e1,a1,b1,c1,nm⟩:=R;simp only[AT.on,AT.onCells] at hn az C0 C1 C2 P gq ⊢;obtain⟨y0,y1,y2,y3,y4,y5,y6⟩:=Ep (c:=⟨k1,e1,a1,b1,c1,nm⟩) hn;have hl:=AU hn;have HN:=AA hn;have HP:=AA P;have Z:=AA hK;have HI:=AA h;clear P hK h hn y0 y1 y2 y4 y5 y6;go_in;go_wp2_with fail;generalize hW0:w.alloc _=W0 at*;clear hW0;cases e4:Bj a1 0 2
 .have T:=AA e4
  have hi:=AA (show Fx k ⟨k1,e1,a1,b1,c1,nm⟩=(k,0,3) by rw[HP.u,if_pos (.inl e4)]);clear e4 y3;refine(C0 _ az).mono ?_;rintro r w1 ⟨rfl,be⟩;rw[T.u];have ar:=az.trans (be.mono az.size);go_wp2;go_ret;exact ED.bad hi ψ (ar.mono au)
 have T0:=AA e4
 have ab:=Aa.1 e4;obtain⟨Y,rfl⟩:∃n:Nat,a1=(n:Int):=⟨a1.toNat,ω⟩
 have bK:Y<3:=ω;clear e4 y3;refine(C0 _ az).mono ?_;rintro r w1 ⟨rfl,bB⟩;rw[T0.u];have ar:=az.trans (bB.mono az.size);obtain⟨y0,y1,y2,y3,y4,y5,y6⟩:=Ep (c:=⟨k1,e1,(Y:Int),b1,c1,nm⟩) (AB HN bB);clear y0 y1 y2 y3 y4 y5;go_wp2_with fail;clear y6;cases e5:BR nm
 .have T:=AA e5
  have hi:=AA (show Fx k ⟨k1,e1,(Y:Int),b1,c1,nm⟩=(k,0,3) by rw[HP.u,if_pos (.inr e5)]);clear e5;refine(C1 _ ar).mono ?_;rintro r w2 ⟨rfl,be⟩;rw[T.u];replace ar:=ar.trans (be.mono ar.size);go_wp2;go_ret;exact ED.bad hi ψ (ar.mono au)
 have T:=AA e5
 have c4:=AA (show Fx k ⟨k1,e1,(Y:Int),b1,c1,nm⟩=_ by rw[HP.u,if_neg (by rw[T0.u,e5];simp)]);clear e5;refine(C1 _ ar).mono ?_;rintro r w2 ⟨rfl,be⟩;rw[T.u];replace bB:=bB.trans (be.mono bB.size);replace ar:=ar.trans (be.mono ar.size);obtain⟨y0,y1,y2,y3,y4,y5,y6⟩:=Ep (c:=⟨k1,e1,(Y:Int),b1,c1,nm⟩) (AB HN bB);clear be;go_wp2_with fail;clear y0 y1 y2 y3 y4 y5 y6;cases e6:Ff k e1 nm
 .have T6:=AA e6
  have hi:=AA (show Fx k ⟨k1,e1,(Y:Int),b1,c1,nm⟩=(k,0,1) by rw[c4.u,e6];rfl);clear e6;refine(C2 _ ar).mono ?_;rintro r w2 ⟨rfl,ad⟩;rw[T6.u];replace ar:=ar.trans (ad.mono ar.size);go_wp2;go_ret;exact ED.bad hi ψ (ar.mono au)
 have T6:=AA e6
 have ea:=AA (show Fx k ⟨k1,e1,(Y:Int),b1,c1,nm⟩=_ by rw[c4.u,e6,if_neg ψ]);clear e6;refine(C2 _ ar).mono ?_;rintro r W2 ⟨rfl,ad⟩;rw[T6.u];replace bB:=bB.trans (ad.mono bB.size);replace ar:=ar.trans (ad.mono ar.size);have H:=HI.below ar;obtain⟨ge,ao,ua,uc,rfl,cy,D0,_,call,fz⟩:=H.env (j:=Y) (by rw[Z.zX];exact bK);have x2:=yw H.cells.2.2.1;obtain⟨y0,y1,y2,y3,y4,y5,y6⟩:=Ep (c:=⟨k1,e1,(Y:Int),b1,c1,nm⟩) (AB HN bB);replace y0:=yw y0;replace y3:=yw y3;have my:(Y:Int)<k.Xr.length:=by rw[Z.zX];omega
 have fg:=yu hl bB.size;have kF:ge≠w.heap.size:=by intro e';have h0:=(yC HI.2.2.2.2.1.choose_spec.1 ge rfl).2;omega
 clear y1 y2 y4 y5 ad;go_wp2_with fail;refine Ba ?_
 repeat(go_big_quiet_step (fail))
 refine BZ λwq bq=>?_
 clear x2 y0 y3;go_wp2_with fail;have jH:=ar.trans (bq.mono ar.size);have lx:=AA (H.below bq);replace y6:=(bq.cell (p:=⟨w,6,none⟩) fg).trans y6;replace D0:=(bq.cell (p:=⟨ge,Y*2,none⟩) cy).trans D0;have iP:=(bq.frozen (p:=⟨ge,Y*2,none⟩) cy).trans (fz _);have bD:=yu fg bq.size;have eD:=yu cy bq.size;have jx:=yM au jH.size;have Rq:BY wq (.slice ua (AH k.Xr Y).Pj.length uc) (AH k.Xr Y).Pj:=BK.below call bq;have rk:=Z.Pj Y bK;have iq:=λW (hW:Γ wq wq W)=>Tw _ (AH k.Xr Y).Pj nm W (BK.below Rq hW) (Ex rk) gq rk T.u
 have ip:=AA (show Fx k ⟨k1,e1,(Y:Int),b1,c1,nm⟩=if(BV (AH k.Xr Y).Pj nm).2=false then(k,0,4) else({k with Xr:=Ao k.Xr Y (BT (BV (AH k.Xr Y).Pj nm).1)},0,0) from ea.u);unfold bh at iq;obtain⟨ss,bb,hsb⟩:∃ss bb,BV (AH k.Xr Y).Pj nm=(ss,bb):=⟨_,_,rfl⟩
 simp only[hsb] at iq ip;have C3:=AA iq;clear iq call Rq rk hsb H fz bq cy fg;refine A9 12 52 [.p ge (Y*2),.p ge (Y*2),.p ge (Y*2),.v (.slice ua (AH k.Xr Y).Pj.length uc),.p w.heap.size 1,.p w.heap.size 6,.t nm,.z,.z,.z,.b bb,.z] (λix vv ww=>match ix with
  |7|8=>∃v',vv=.tuple #[v',bb]/\AQ wq.heap.size 9 1 A0 ww v' ss
  |9|11=>AQ wq.heap.size 9 1 A0 ww vv ss
  |_=>True) ?_ ?_ ?_
 .intro i E o L a wx D z O hg Z
  match i,E with
  |0,_|1,_|2,_|4,_|5,_=>exact sP L Z D z
  |3,_=>exact sL L Z D z (hl:=Kt (bc O eD D0))
  |6,_=>exact sL L Z D z (hl:=aM (bc O bD y6))
  |7,_=>exact sC L Z D z (C3 _ O) (by rintro e w_ ⟨v',rfl,hO,ad⟩;exact⟨_,rfl,⟨_,rfl,hO.lower O.size⟩,ad⟩)
  |8,_=>
   obtain rfl:=yP L;have d7:∃v',(a.tmps[43]?.getD Θ)=.tuple #[v',bb]/\AQ wq.heap.size 9 1 A0 wx v' ss:=Bc z 7
   clear z D;obtain⟨v',d7,hO⟩:=d7;refine yO ?_;go_simp;exact Z _ _ ⟨_,rfl,hO⟩ (yN _ _)
  |9,_=>
   obtain rfl:=yP L;have d8:∃v',(a.tmps[35]?.getD Θ)=.tuple #[v',bb]/\AQ wq.heap.size 9 1 A0 wx v' ss:=Bc z 8
   clear z D;obtain⟨v',d8,hO⟩:=d8;refine yO ?_;go_simp;exact Z _ _ hO (yN _ _)
  |10,_=>
   obtain rfl:=yP L;have d8:∃v',(a.tmps[35]?.getD Θ)=.tuple #[v',bb]/\AQ wq.heap.size 9 1 A0 wx v' ss:=Bc z 8
   clear z D;obtain⟨v',d8,hO⟩:=d8;refine yO ?_;go_simp;exact Z _ _ rfl (yN _ _)
  |11,_=>obtain rfl:=yP L;have d9:AQ wq.heap.size 9 1 A0 wx (a.tmps[44]?.getD Θ) ss:=Bc z 9;clear z D;refine yO ?_;go_simp;exact Z _ _ d9 (yN _ _)
 .intro i E vv wz c5 a7 hz
  match i,E with
  |7,_|8,_=>exact(by obtain⟨v',h0,A⟩:=hz;exact⟨v',h0,AQ.below A a7⟩)
  |9,_|11,_=>exact(AQ.below hz a7)
  |0,_|1,_|2,_|3,_|4,_|5,_|6,_|10,_=>exact hz
 intro V wx hR O
 have id:(V 10)=.bool bb:=Bh hR 10;have ft:AQ wq.heap.size 9 1 A0 wx (V 11) ss:=Bh hR 11;clear hR;simp only[Ai,Ae,yL,yI,yJ,yH,id];simp;generalize V 11=z11 at ft ⊢;clear id;have gd:=jH.trans (O.mono jH.size);replace D0:=(O.cell (p:=⟨ge,Y*2,none⟩) eD).trans D0;replace iP:=(O.frozen (p:=⟨ge,Y*2,none⟩) eD).trans iP;cases bb
 .have hi:=AA (show Fx k ⟨k1,e1,(Y:Int),b1,c1,nm⟩=(k,0,4) by rw[ip.u];rfl)
  clear ft O D0 iP y6;go_wp2;go_ret;exact ED.bad hi ψ (gd.mono au)
 have hi:=AA (show Fx k ⟨k1,e1,(Y:Int),b1,c1,nm⟩=({k with Xr:=Ao k.Xr Y (BT ss)},0,0) by rw[ip.u];rfl)
 have S:=AA (lx.Pj rfl jx O (by rw[Z.zX];exact bK) ft);have mt:=AA (AM (gd.mono au) S.2.1 S.2.2 (yM au gd.size));obtain⟨_,_,rfl,_,_⟩:=ft.rd.shape;clear ft O y6;go_wp2;go_ret;exact⟨by rw[hi.u];rfl,λ_=>⟨_,_,_,_,by rw[hi.u];exact S.1⟩,mt.u⟩
theorem Lq (v:Φ)(m:List (List Int))(r:Int)(w:Ω)(h:Bl w v m)(aq:By m=true)(hr:r<12):Ξ prog 100 #[v,.int .i64 r] w (Nt m r w):=by
 by_cases h0:r<0
 .exact Qk v m r w h h0
 obtain⟨n,rfl⟩:∃n:Nat,r=(n:Int):=⟨r.toNat,ω⟩
 exact Qj v m n w h aq ω
theorem zK (h:DZ k)(hj:j<3):(AH k.Xr j).root<12:=by have:=h.roots j hj;unfold Ab at this;omega
theorem XV{m:Φ}(h:Iz lo w g m i e c k)(au:lo<=w.heap.size)(hK:DZ k)(R:AT)(he:0<=R.e)(N:R.e<3)(gq:R.nm.size<=maxLen):
 Ξ prog 131 #[R.on g] w (ED lo g w (ER k R)):=by
 obtain⟨hn,az⟩:=EU w (.cells (R.onCells g) 97);have C0:=AA (λW (_:Γ w w W)=>A4 (Py R.a W));have C1:=AA (λW (_:Γ w w W)=>Dp R.nm W gq);have C2:=AA (λW (hW:Γ w w W)=>XJ (h.below hW) R R.nm he (by rw[hK.zX];exact N));have P:ER k R=if Bj R.a 0 2=false∨R.a=R.e∨BR R.nm=false then(k,0,3) else if Ff k R.e R.nm=false then(k,0,1) else if BM k.Zh (Bg k.mem (AH k.Xr R.a.toNat).root) (Bi (AH k.Xr R.a.toNat).Pj R.nm)=false then(k,0,2) else({k with Xr:=Ao k.Xr R.a.toNat (BT (Bi (AH k.Xr R.a.toNat).Pj R.nm))},0,0):=rfl
 obtain⟨k1,e1,a1,b1,c1,nm⟩:=R;simp only[AT.on,AT.onCells] at hn az C0 C1 C2 P gq ⊢;obtain⟨y0,y1,y2,y3,y4,y5,y6⟩:=Ep (c:=⟨k1,e1,a1,b1,c1,nm⟩) hn;have hl:=AU hn;have HN:=AA hn;have HP:=AA P;have Z:=AA hK;have HI:=AA h;clear P hK h hn y0 y1 y2 y4 y5 y6;go_in;go_wp2_with fail;generalize hW0:w.alloc _=W0 at*;clear hW0;cases e4:Bj a1 0 2
 .have T:=AA e4
  have hi:=AA (show ER k ⟨k1,e1,a1,b1,c1,nm⟩=(k,0,3) by rw[HP.u,if_pos (.inl e4)]);clear e4 y3;refine(C0 _ az).mono ?_;rintro r w1 ⟨rfl,be⟩;rw[T.u];have ar:=az.trans (be.mono az.size);go_wp2;go_ret;exact ED.bad hi ψ (ar.mono au)
 have T0:=AA e4
 have ab:=Aa.1 e4;obtain⟨Y,rfl⟩:∃n:Nat,a1=(n:Int):=⟨a1.toNat,ω⟩
 have bK:Y<3:=ω;clear e4 y3;refine(C0 _ az).mono ?_;rintro r w1 ⟨rfl,bB⟩;rw[T0.u];have ar:=az.trans (bB.mono az.size);obtain⟨y0,y1,y2,y3,y4,y5,y6⟩:=Ep (c:=⟨k1,e1,(Y:Int),b1,c1,nm⟩) (AB HN bB);clear y0 y1 y4 y5
 by_cases j3:(Y:Int)=e1
 .have hi:=AA (show ER k ⟨k1,e1,(Y:Int),b1,c1,nm⟩=(k,0,3) by rw[HP.u,if_pos (.inr (.inl j3))])
  have t3:((Y:Int)==e1)=true:=by simp[j3]
  clear j3 y6;go_wp2;go_ret;exact ED.bad hi ψ (ar.mono au)
 have t3:((Y:Int)==e1)=false:=by simp[j3]
 have bP:=AA j3;clear j3;go_wp2_with fail;clear y2 y3 y6 t3;cases e5:BR nm
 .have T:=AA e5
  have hi:=AA (show ER k ⟨k1,e1,(Y:Int),b1,c1,nm⟩=(k,0,3) by rw[HP.u,if_pos (.inr (.inr e5))]);clear e5;refine(C1 _ ar).mono ?_;rintro r w2 ⟨rfl,be⟩;rw[T.u];replace ar:=ar.trans (be.mono ar.size);go_wp2;go_ret;exact ED.bad hi ψ (ar.mono au)
 have T:=AA e5
 have c4:=AA (show ER k ⟨k1,e1,(Y:Int),b1,c1,nm⟩=_ by rw[HP.u,if_neg (by rw[T0.u,e5];simpa using bP.u)]);clear e5;refine(C1 _ ar).mono ?_;rintro r w2 ⟨rfl,be⟩;rw[T.u];replace bB:=bB.trans (be.mono bB.size);replace ar:=ar.trans (be.mono ar.size);obtain⟨y0,y1,y2,y3,y4,y5,y6⟩:=Ep (c:=⟨k1,e1,(Y:Int),b1,c1,nm⟩) (AB HN bB);clear be;go_wp2_with fail;clear y0 y1 y2 y3 y4 y5 y6;cases e6:Ff k e1 nm
 .have T6:=AA e6
  have hi:=AA (show ER k ⟨k1,e1,(Y:Int),b1,c1,nm⟩=(k,0,1) by rw[c4.u,e6];rfl);clear e6;refine(C2 _ ar).mono ?_;rintro r w2 ⟨rfl,ad⟩;rw[T6.u];replace ar:=ar.trans (ad.mono ar.size);go_wp2;go_ret;exact ED.bad hi ψ (ar.mono au)
 have T6:=AA e6
 have ea:=AA (show ER k ⟨k1,e1,(Y:Int),b1,c1,nm⟩=_ by rw[c4.u,e6,if_neg ψ]);clear e6;refine(C2 _ ar).mono ?_;rintro r W2 ⟨rfl,ad⟩;rw[T6.u];replace bB:=bB.trans (ad.mono bB.size);replace ar:=ar.trans (ad.mono ar.size);have H:=HI.below ar;obtain⟨ge,ao,ua,uc,rfl,cy,D0,D1,call,fz⟩:=H.env (j:=Y) (by rw[Z.zX];exact bK);have x2:=yw H.cells.2.2.1;obtain⟨y0,y1,y2,y3,y4,y5,y6⟩:=Ep (c:=⟨k1,e1,(Y:Int),b1,c1,nm⟩) (AB HN bB);replace y0:=yw y0;replace y3:=yw y3;have my:(Y:Int)<k.Xr.length:=by rw[Z.zX];omega
 have fg:=yu hl bB.size;have kF:ge≠w.heap.size:=by intro e';have h0:=(yC HI.2.2.2.2.1.choose_spec.1 ge rfl).2;omega
 clear y1 y2 y4 y5 ad;go_wp2_with fail;refine Ba ?_
 repeat(go_big_quiet_step (fail))
 refine BZ λwq bq=>?_
 clear x2 y0 y3;go_wp2_with fail;have jH:=ar.trans (bq.mono ar.size);have lx:=AA (H.below bq);replace y6:=(bq.cell (p:=⟨w,6,none⟩) fg).trans y6;replace D0:=(bq.cell (p:=⟨ge,Y*2,none⟩) cy).trans D0;replace D1:=(bq.cell (p:=⟨ge,Y*2+1,none⟩) cy).trans D1;have iP:=(bq.frozen (p:=⟨ge,Y*2,none⟩) cy).trans (fz _);have kN:=bB.trans (bq.mono bB.size);have bD:=yu fg bq.size;have eD:=yu cy bq.size;have jx:=yM au jH.size;have Rq:BY wq (.slice ua (AH k.Xr Y).Pj.length uc) (AH k.Xr Y).Pj:=BK.below call bq;have rk:=Z.Pj Y bK;have C3:=AA (λW (hW:Γ wq wq W)=>Ri _ (AH k.Xr Y).Pj nm W (BK.below Rq hW) (Ex rk) gq rk T.u);have ip:=AA (show ER k ⟨k1,e1,(Y:Int),b1,c1,nm⟩=if BM k.Zh (Bg k.mem (AH k.Xr Y).root) (Bi (AH k.Xr Y).Pj nm)=false then(k,0,2) else({k with Xr:=Ao k.Xr Y (BT (Bi (AH k.Xr Y).Pj nm))},0,0) from ea.u);clear call Rq rk H fz bq cy fg;refine A9 8 70 [.p ge (Y*2),.p ge (Y*2),.p ge (Y*2),.v (.slice ua (AH k.Xr Y).Pj.length uc),.p w.heap.size 1,.p w.heap.size 6,.t nm,.z] (λix vv ww=>match ix with
  |7=>AQ wq.heap.size 9 1 A0 ww vv (Bi (AH k.Xr Y).Pj nm)
  |_=>True) ?_ ?_ ?_
 .intro i E o L a wx D z O hg Z
  match i,E with
  |0,_|1,_|2,_|4,_|5,_=>exact sP L Z D z
  |3,_=>exact sL L Z D z (hl:=Kt (bc O eD D0))
  |6,_=>exact sL L Z D z (hl:=aM (bc O bD y6))
  |7,_=>exact sC L Z D z (C3 _ O) (by rintro e w_ ⟨v',rfl,hO,ad⟩;exact⟨_,rfl,(hO.lower O.size),ad⟩)
 .intro i E vv wz c5 a7 hz
  match i,E with
  |7,_=>exact(AQ.below hz a7)
  |0,_|1,_|2,_|3,_|4,_|5,_|6,_=>exact hz
 intro V wx hR O
 have q7:AQ wq.heap.size 9 1 A0 wx (V 7) (Bi (AH k.Xr Y).Pj nm):=Bh hR 7;clear hR;simp only[Ai,Ae,yL,yI,yJ,yH];simp;generalize V 7=z7 at q7 ⊢;have gd:=jH.trans (O.mono jH.size);have mv:=kN.trans (O.mono kN.size);have j4:=lx.below O;obtain⟨y0,_,_,_,_,_,_⟩:=Ep (c:=⟨k1,e1,(Y:Int),b1,c1,nm⟩) (AB HN mv);replace D0:=(O.cell (p:=⟨ge,Y*2,none⟩) eD).trans D0;replace D1:=(O.cell (p:=⟨ge,Y*2+1,none⟩) eD).trans D1;replace iP:=(O.frozen (p:=⟨ge,Y*2,none⟩) eD).trans iP;have jB:=yu eD O.size;have nx:=yu bD O.size;have kE:=AU j4.1;have x0:=j4.cells.1;have x1:=j4.cells.2.1;have iy:=zK Z bK;have RM:Bl wx m k.mem:=j4.2.2.rd.1;have jg:Bf wx i k.Zh:=j4.2.2.2.1.rd;have pe:=AA q7;have nP:=AA O;obtain⟨wy,rfl⟩:∃wy:Ω,wy=wx:=⟨_,rfl⟩
 have CX:=AA (λW (hW:Γ wy wy W)=>Lq m k.mem _ W (RM.below hW) (Aq Z.u).1 iy);have CA:=AA (λW (hW:Γ wy wy W) v2 ts (H:A1 W v2 (A5 ts)) (hm:∀g,g∈ts↔g∈Bg k.mem (AH k.Xr Y).root)=>by have:=JZ g _ v2 _ (Bi (AH k.Xr Y).Pj nm) ts k.Zh W ((hW.cell (p:=⟨g,1,none⟩) kE).trans x1) (BK.below q7.rd hW) (BK.below jg hW) H (λf hf=>by have:=zG iy f ((hm f).1 hf);have:=Z.len;omega);rw[Fp hm] at this;exact this);generalize j2:BM k.Zh (Bg k.mem (AH k.Xr Y).root) (Bi (AH k.Xr Y).Pj nm)=bb at CA ip;have qo:=AA j2;obtain⟨p1,p2,rfl,_,_⟩:=q7.rd.shape;clear j2 RM jg q7 O j4 x1;go_wp2_with fail;refine A9 14 70 [.p w.heap.size 0,.p g 0,.v (.slice p1 (Bi (AH k.Xr Y).Pj nm).length p2),.p w.heap.size 0,.p g 0,.p g 0,.p g 0,.v m,.p ge (Y*2),.p ge (Y*2),.p ge (Y*2+1),.i ((AH k.Xr Y).root),.z,.b bb] (λix vv ww=>match ix with
  |12=>FV wy k.mem (AH k.Xr Y).root ww vv
  |_=>True) ?_ ?_ ?_
 .intro i E o L a wx D z O hg Z
  have c8:=bc O nx y0;have c7:=bc O kE x0;have ec:=bc O jB D1
  match i,E with
  |0,_|2,_|3,_|5,_|6,_|8,_|9,_|10,_=>exact sP L Z D z
  |1,_|4,_=>exact sL L Z D z (hl:=Oo ‹_›)
  |7,_=>exact sL L Z D z (hl:=GZ ‹_›)
  |11,_=>exact sL L Z D z (hl:=GO ‹_›)
  |12,_=>exact sC L Z D z (CX _ O) (by rintro e w_ ⟨v',ts,rfl,hO,bX,_,ad⟩;exact⟨_,rfl,⟨ts,Bb hO O.size,bX⟩,ad⟩)
  |13,_=>clear c8 c7 ec;obtain rfl:=yP L;have d1:(a.tmps[52]?.getD Θ)=.pointer g:=Bc z 1;have d2:(a.tmps[53]?.getD Θ)=.slice p1 (Bi (AH k.Xr Y).Pj nm).length p2:=Bc z 2;have je:FV wy k.mem (AH k.Xr Y).root wx (a.tmps[63]?.getD Θ):=Bc z 12;clear z D;generalize e63:a.tmps[63]?.getD Θ=v2 at je;obtain⟨ts,hO,bX⟩:=je;have mY:=CA wx O v2 ts (AE.rd hO) bX;refine yO ?_;go_simp;refine mY.mono ?_;rintro e w_ ⟨rfl,ad⟩;exact Z _ _ rfl ad
 .intro i E vv wz c5 a7 hz
  match i,E with
  |12,_=>exact(FV.below hz a7)
  |0,_|1,_|2,_|3,_|4,_|5,_|6,_|7,_|8,_|9,_|10,_|11,_|13,_=>exact hz
 intro V wx hR O
 have b8:(V 13)=.bool bb:=Bh hR 13;clear hR;simp only[Ai,Ae,yL,yI,yJ,yH,b8];simp;clear b8;have a7:=gd.trans (O.mono gd.size);cases bb
 .have hi:=AA (show ER k ⟨k1,e1,(Y:Int),b1,c1,nm⟩=(k,0,2) by rw[ip.u];rfl)
  clear O D0 D1 iP y0 x0;go_wp2;go_ret;exact ED.bad hi ψ (a7.mono au)
 have hi:=AA (show ER k ⟨k1,e1,(Y:Int),b1,c1,nm⟩=({k with Xr:=Ao k.Xr Y (BT (Bi (AH k.Xr Y).Pj nm))},0,0) by rw[ip.u];rfl)
 have S:=AA (lx.Pj rfl jx (nP.trans (O.mono nP.size)) (by rw[Z.zX];exact bK) (pe.below O));have ms:=AA (AM (a7.mono au) S.2.1 S.2.2 (yM au a7.size));replace D0:=(O.cell (p:=⟨ge,Y*2,none⟩) jB).trans D0;replace iP:=(O.frozen (p:=⟨ge,Y*2,none⟩) jB).trans iP;clear O D1 y0 x0;go_wp2;go_ret;exact⟨by rw[hi.u];rfl,λ_=>⟨_,_,_,_,by rw[hi.u];exact S.1⟩,ms.u⟩
theorem At (h:w.heap[b]?=some o)(K:w.grownBy w1 (some g))(bP:g≠b):w1.heap[b]?=some o:=
 (K.block b (AU h) (λe=>bP (yP e).symm)).trans h
theorem Bz{T':Nat}{c c':Array Φ}(h:w.heap[b]?=some (.cells c T (0,0)))(h':w.heap[g]?=some (.cells c' T' (0,0)))(hT:T≠T':=by decide):b≠g:=λe=>by subst e;rw[h] at h';simp at h';exact hT h'.2
def bg(g:Nat)(w W:Ω):Prop:=∀b cu,b≠g->w.heap[b]?=some (.cells cu 28 (0,0))->W.heap[b]?=w.heap[b]?
theorem bg.below (h:bg g w W)(J:Γ W W W'):bg g w W':=λb cu K hB=>(J.block b (AU ((h b cu K hB).trans hB))).trans (h b cu K hB)
theorem bg.row{cu:Array Φ}(h:bg g w W)(K:W.grownBy W' (some q))(hq:W.heap[q]?=some (.cells cu T (0,0)))(hT:T≠28):bg g w W':=λb mJ kM hB=>
 have e:=(h b mJ kM hB).trans hB
 (At e K (Bz hq e hT)).trans hB.symm
theorem bg.own (h:bg g w W)(K:W.grownBy W' (some g)):bg g w W':=λb mJ kM hB=>
 have e:=(h b mJ kM hB).trans hB
 (At e K (λh=>kM h.symm)).trans hB.symm
structure Em(T:Nat)(cs:Array Φ)(R:List Nat)(lo g b0:Nat)(w W:Ω)(m i e c:Φ)(k:AR):Prop where
 yS:Iz lo W g m i e c k
 yU:W.heap[b0]?=some (.cells cs T (0,0))
 bel:Γ lo w W
 lo:lo<=W.heap.size
 ty:28≠T/\115≠T/\81≠T/\3≠T/\29≠T
 kf:bg g w W
 rs:∀b∈R,g≠b/\W.heap[b]?=some (.cells #[ι,ι,ι,ι] 28 (0,0))
abbrev CS(lo g b0:Nat)(R:AT)(w W:Ω)(m i e c:Φ)(k:AR):Prop:=Em 97 (R.onCells g) [] lo g b0 w W m i e c k
theorem Em.start{m:Φ}(h:Iz lo w g m i e c k)(au:lo<=w.heap.size)(R:AT):CS lo g w R w (w.alloc (.cells (R.onCells g) 97)) m i e c k:=
 ⟨h.below (AJ _ _),yx _ _,(AJ _ _).mono au,yM au (AJ _ _).size,ψ,bg.below (λ_ _ _ _=>rfl) (AJ _ _),nofun⟩
theorem Em.ys{m:Φ}(h:CS lo g b0 R w W m i e c k):W.cell? b0=some (.pointer g)/\W.cell? (b0,1)=some (.int .i64 R.k)/\W.cell? (b0,2)=some (.int .i64 R.e)/\W.cell? (b0,3)=some (.int .i64 R.a)/\W.cell? (b0,4)=some (.int .i64 R.b)/\W.cell? (b0,5)=some (.int .i64 R.c)/\W.cell? (b0,6)=some (.string R.nm):=Ep h.yU
section
variable {T:Nat} {cs:Array Φ} {call:List Nat} {lo g b0:Nat} {w W W':Ω} {m i e c:Φ} {k:AR}
theorem Em.below(h:Em T cs call lo g b0 w W m i e c k)(J:Γ W W W'):Em T cs call lo g b0 w W' m i e c k:=
 ⟨h.yS.below J,AB h.yU J,h.bel.trans (J.mono h.lo),yM h.lo J.size,h.ty,h.kf.below J,λb hr=>⟨(h.rs b hr).1,AB (h.rs b hr).2 J⟩⟩
theorem Em.xs(h:Em T cs call lo g b0 w W m i e c k):W.cell? g=some m/\W.cell? (g,1)=some i/\W.cell? (g,2)=some e/\W.cell? (g,3)=some c:=h.yS.cells
theorem Em.lts(h:Em T cs call lo g b0 w W m i e c k):b0<W.heap.size/\g<W.heap.size/\g≠b0/\b0≠g:=⟨AU h.yU,AU h.yS.1,Bz h.yS.1 h.yU h.ty.1,(Bz h.yS.1 h.yU h.ty.1).symm⟩
theorem Em.zp(h:Em T cs call lo g b0 w W m i e c k){lo' T' sz n:Nat}{v:Φ}{xs:List Φ}(o:W.ownsRow lo' T' sz v n xs){b:Nat}(J:v.ownBlock=some b)(A:T'≠28)(H:T'≠T):(b≠g/\g≠b)/\b≠b0/\b0≠b:=by obtain⟨fy,hc⟩:=A7 o b J;have a1:=Bz hc h.yS.1 A;have a2:=Bz hc h.yU H;exact⟨⟨a1,a1.symm⟩,a2,a2.symm⟩
theorem Em.Zh(h:Em T cs call lo g b0 w W m i e c k)(hl:0<k.Zh.length):∃gi ao,i=.slice (some ⟨gi,0,none⟩) k.Zh.length ao/\gi<W.heap.size/\lo<=gi/\((gi≠g/\g≠gi)/\gi≠b0/\b0≠gi)/\∀q,W.frozen? ⟨gi,q,none⟩=false:=by obtain⟨gi,ao,e1,A,H,_,_,_,hz⟩:=h.yS.JR' hl;refine⟨gi,ao,e1,A,H,h.zp h.yS.2.2.2.1 (by rw[e1];rfl) ψ h.ty.2.1,hz⟩
theorem Em.Xr(h:Em T cs call lo g b0 w W m i e c k)(hl:0<k.Xr.length):∃ge ao,e=.slice (some ⟨ge,0,none⟩) k.Xr.length ao/\ge<W.heap.size/\((ge≠g/\g≠ge)/\ge≠b0/\b0≠ge)/\∀q,W.frozen? ⟨ge,q,none⟩=false:=by obtain⟨ge,ao,_,_,e1,A,_,_,_,hz⟩:=h.yS.env hl;obtain⟨ps,o⟩:=h.yS.2.2.2.2.1;exact⟨ge,ao,e1,A,h.zp o.1 (by rw[e1];rfl) ψ h.ty.2.2.1,hz⟩
theorem Em.infos_envs{n' ao iR:Nat}(h:Em T cs call lo g b0 w W m (.slice gi n ao) (.slice ge n' iR) c k):gi≠ge/\ge≠gi:=by obtain⟨ps,o⟩:=h.yS.2.2.2.2.1;obtain⟨c1,A⟩:=A7 o.1 ge rfl;obtain⟨c2,H⟩:=A7 h.yS.2.2.2.1 gi rfl;have:=Bz H A;exact⟨this,this.symm⟩
theorem Em.info{ao:Nat}(h:Em T cs call lo g b0 w W m (.slice gi n ao) e c k)(N:n=k.Zh.length){f:Nat}(hf:f<k.Zh.length)(r:Int):
 Em T cs call lo g b0 w (W.setCell (gi,f*3+2) (.int .i64 ((JR k.Zh f).r+r))) m (.slice gi n ao) e c {k with Zh:=Ao k.Zh f (JI r)}:=by
 have T:=h.yS.info N (Cg hf) (j:=2) ψ (y:=JI r (JR k.Zh f)) (u:=.int .i64 ((JR k.Zh f).r+r)) rfl;rw[<-IX] at T;obtain⟨c2,H⟩:=A7 h.yS.2.2.2.1 gi rfl;exact⟨T.1,At h.yU T.2.1 (Bz H h.yU h.ty.2.1),AM h.bel T.2.1 T.2.2 h.lo,yM h.lo T.2.1.size,h.ty,h.kf.row T.2.1 H ψ,λb hr=>⟨(h.rs b hr).1,At (h.rs b hr).2 T.2.1 (Bz H (h.rs b hr).2 ψ)⟩⟩
theorem Em.root{ao:Nat}(h:Em T cs call lo g b0 w W m i (.slice ge n ao) c k)(N:n=k.Xr.length){j:Nat}(hj:j<k.Xr.length)(r:Int):
 Em T cs call lo g b0 w (W.setCell (ge,j*2+1) (.int .i64 r)) m i (.slice ge n ao) c {k with Xr:=Ao k.Xr j (EJ r)}:=by
 have T:=h.yS.root N hj r;obtain⟨ps,o⟩:=h.yS.2.2.2.2.1;obtain⟨c2,H⟩:=A7 o.1 ge rfl;exact⟨T.1,At h.yU T.2.1 (Bz H h.yU h.ty.2.2.1),AM h.bel T.2.1 T.2.2 h.lo,yM h.lo T.2.1.size,h.ty,h.kf.row T.2.1 H ψ,λb hr=>⟨(h.rs b hr).1,At (h.rs b hr).2 T.2.1 (Bz H (h.rs b hr).2 ψ)⟩⟩
theorem Em.Xo(h:Em T cs call lo g b0 w W m i e c k)(J:Γ W W W'){c':Φ}{xs:List Ag}(H:AQ W.heap.size 125 4 AY W' c' xs):Em T cs call lo g b0 w (W'.setCell (g,3) c') m i e c' {k with Xo:=xs}:=by
 have h':=h.below J;exact⟨h.yS.Xo h.lo J H,At h'.yU (Ak W' g 3 c') h.lts.2.2.1,h'.bel.setCell h.yS.2.1 _,by simpa using h'.lo,h.ty,h'.kf.own (Ak W' g 3 c'),λb hr=>⟨(h.rs b hr).1,At (h'.rs b hr).2 (Ak W' g 3 _) (h.rs b hr).1⟩⟩
theorem Em.zy(h:Em T cs call lo g b0 w W m i e c k)(J:Γ W W W'){i':Φ}{xs:List AX}(H:AQ W.heap.size 115 3 Av W' i' xs):Em T cs call lo g b0 w (W'.setCell (g,1) i') m i' e c {k with Zh:=xs}:=by
 have h':=h.below J;exact⟨h.yS.Zh h.lo J H,At h'.yU (Ak W' g 1 i') h.lts.2.2.1,h'.bel.setCell h.yS.2.1 _,by simpa using h'.lo,h.ty,h'.kf.own (Ak W' g 1 i'),λb hr=>⟨(h.rs b hr).1,At (h'.rs b hr).2 (Ak W' g 1 _) (h.rs b hr).1⟩⟩
theorem Em.fzi{ao:Nat}(h:Em T cs call lo g b0 w W m (.slice gi n ao) e c k)(q:Nat):W.frozen? (gi,q)=false:=by obtain⟨fy,hc⟩:=A7 h.yS.2.2.2.1 gi rfl;exact AI hc q
theorem Em.fze{ao:Nat}(h:Em T cs call lo g b0 w W m i (.slice ge n ao) c k)(q:Nat):W.frozen? (ge,q)=false:=by obtain⟨ps,o⟩:=h.yS.2.2.2.2.1;obtain⟨fy,hc⟩:=A7 o.1 ge rfl;exact AI hc q
theorem Em.zg{ao:Nat}(h:Em T cs call lo g b0 w W m i (.slice ge n ao) c k):ge<W.heap.size:=by obtain⟨ps,o⟩:=h.yS.2.2.2.2.1;exact(yC o.1 ge rfl).2
theorem Em.zx{ao:Nat}(h:Em T cs call lo g b0 w W m (.slice gi n ao) e c k):gi<W.heap.size:=(yC h.yS.2.2.2.1 gi rfl).2
theorem Em.env{ao:Nat}(h:Em T cs call lo g b0 w W m i (.slice ge n ao) c k){j:Nat}(hj:j<k.Xr.length):
 ∃ua uc,W.cell? (ge,j*2)=some (.slice ua (AH k.Xr j).Pj.length uc)/\W.cell? (ge,j*2+1)=some (.int .i64 (AH k.Xr j).root)/\BY W (.slice ua (AH k.Xr j).Pj.length uc) (AH k.Xr j).Pj:=by
 obtain⟨qd,iR,ua,uc,e1,_,d0,d1,call,_⟩:=h.yS.env hj;cases e1;exact⟨ua,uc,d0,d1,call⟩
theorem Em.JR{ao:Nat}(h:Em T cs call lo g b0 w W m (.slice gi n ao) e c k){f:Nat}(hf:f<k.Zh.length):
 W.cell? (gi,f*3)=some (.int .i64 (JR k.Zh f).k)/\W.cell? (gi,f*3+1)=some (.string (JR k.Zh f).g)/\W.cell? (gi,f*3+2)=some (.int .i64 (JR k.Zh f).r):=by
 obtain⟨p8,iR,e1,_,_,d0,d1,d2,_⟩:=h.yS.JR' hf;cases e1;exact⟨d0,d1,d2⟩
theorem Em.mems(h:Em T cs call lo g b0 w W m i e c k)(aq:By k.mem=true):∃gm ao,m=.slice (some ⟨gm,0,none⟩) 12 ao/\gm<W.heap.size/\(gm≠g/\g≠gm)/\gm≠b0/\b0≠gm:=by obtain⟨gm,ao,_,_,_,e1,A,H,_⟩:=h.yS.zo aq (f:=0) ω;obtain⟨V,o⟩:=h.yS.2.2.1;exact⟨gm,ao,e1,A,h.zp o.1 (by rw[e1];rfl) ψ h.ty.2.2.2.2⟩
theorem Em.mrow{gm ao:Nat}(h:Em T cs call lo g b0 w W (.slice gm n ao) i e c k)(aq:By k.mem=true){f:Nat}(hf:f<12):
 ∃gw bp,W.cell? (gm,f)=some (.slice (some ⟨gw,0,none⟩) 4 bp)/\gw<W.heap.size/\4<=bp/\(∀j,j<4->W.cell? ⟨gw,j,none⟩=some (.int .i64 (Aw k.mem f j)))/\(∀q,W.frozen? ⟨gw,q,none⟩=false)/\((gw≠g/\g≠gw)/\gw≠b0/\b0≠gw)/\(gw≠gm/\gm≠gw)/\(∀b cu T,W.heap[b]?=some (.cells cu T (0,0))->T≠3->gw≠b)/\
  ∀j v,j<4->Em T cs call lo g b0 w (W.setCell ⟨gw,j,none⟩ (.int .i64 v)) (.slice gm n ao) i e c {k with mem:=Cn k.mem f j v}:=by
 obtain⟨p7,iR,gw,bp,V,e1,_,_,hc,hl,au,A,H,o,hu,hx⟩:=h.yS.zo aq hf;cases e1;have h4:=(BB.1 ((Aj.1 aq).2 f hf)).1;have kp:W.ownsRow lo 3 1 (.slice gw 4 bp) 4 ((AK k.mem f).map (yl .i64)):=by have:=hx;unfold AE at this;rwa [h4] at this
 have o9:4<=bp:=by obtain⟨_,_,hv,jb,_⟩:=A1.open (AE.rd hx);simp only[xQ] at hv;obtain⟨_,_,rfl⟩:=hv;omega
 obtain⟨fy,b5⟩:=A7 kp gw rfl;refine⟨gw,bp,hc,hl,o9,λj hj=>?_,λq=>xU kp q,h.zp kp rfl ψ h.ty.2.2.2.1,⟨H,H.symm⟩,λb cu T J hT=>Bz b5 J (Ne.symm hT),λj v hj=>?_⟩
 .have:=xO kp j hj
  rw[this,xq];unfold Aw;rw[A6 (d:=0) ω];rfl
 have S:=wj kp j (.int .i64 v)
 have hO:AE lo (W.setCell (gw,j) (.int .i64 v)) (.slice gw 4 bp) ((AK k.mem f).set j v):=by unfold AE;rw[yh,h4,vf];exact S.1
 have T:=h.yS.row o (by rw[(Aj.1 aq).1];exact hf) hu hO S.2;rw[<-PJ] at T;exact⟨T,At h.yU S.2 (Bz b5 h.yU h.ty.2.2.2.1),AM h.bel S.2 au h.lo,yM h.lo S.2.size,h.ty,h.kf.row S.2 b5 ψ,λb hr=>⟨(h.rs b hr).1,At (h.rs b hr).2 S.2 (Bz b5 (h.rs b hr).2 ψ)⟩⟩
end
def Zd(W:Ω)(lo g b0:Nat)(R:AT)(w:Ω)(m i e:Φ)(k:AR)(b:Bool)(ww:Ω):Prop:=match b with
 |false=>Γ W W ww
 |true=>∃c',CS lo g b0 R w ww m i e c' k
theorem Zd.grow{m:Φ}{b:Bool}{ww c5:Ω}(h:Zd W lo g b0 R w m i e k b ww)(J:Γ ww ww c5):Zd W lo g b0 R w m i e k b c5:=by
 cases b
 .exact Below.trans h (J.mono h.size)
 obtain⟨c',h⟩:=h
 exact⟨c',h.below J⟩
theorem Sw{α:Type}{e:Nat}{cs:α->List Φ}{xs:List α}(h:AQ lo e sz cs w v xs)(K:g<lo):AQ lo e sz cs (w.setCell (g,j) u) v xs:=
 AQ.grown h (Ak w g j u) (by
  rcases hv:v.ownBlock with _|b
  .exact .inl rfl
  refine .inr λe=>?_
  cases e;have:=(yC h g hv).1;omega)
theorem Fg{ho:Nat->Bool}{i:Nat}(h:i≠j):Hz ho i j=ho j:=if_neg (λe=>h e.symm)
theorem Gh{ho:Nat->Bool}{i:Nat}:Hz ho i i=true:=if_pos rfl
theorem Em.callEnv{m:Φ}{en:Nat}(h:CS lo g b0 R w W m i (.slice ge n ao) c k)(he:R.e=(en:Int))(N:en<n)(W':Ω)(J:Γ W W W'):
 Ξ prog 177 #[R.on g] W' λe w'=>e=.returned (.pointer (some ⟨ge,en*2,none⟩))/\Γ W' W' w':=ZH g ge n ao en R W' (h.below J).xs.2.2.1 he N
def JV(fs:List Nat):List Nat:=(yL 12).filter λf=>fs.contains f
theorem Mi:f∈JV fs↔f<12/\f∈fs:=by simp[JV]
theorem Mh:(JV fs).length<=12:=by
 have:=xv (λf=>fs.contains f) (yL 12);simpa[JV] using this
def Fa(m:List (List Int))(root:Nat):List Nat:=JV (named (AK m root))
def J3(m:List (List Int))(root:Nat):List Nat:=JV ((Fa m root).flatMap λt=>named (AK m t))
def FN(m:List (List Int))(root:Int):List Nat:=if root<0 then[] else JV (root.toNat::Fa m root.toNat++J3 m root.toNat)
theorem Jj{root:Nat}:f∈Fa m root↔f∈named (AK m root):=by
 unfold Fa;rw[Mi];exact⟨λh=>h.2,λh=>⟨GI h,h⟩⟩
theorem Wm{root:Nat}:f∈J3 m root↔∃t,t∈named (AK m root)/\f∈named (AK m t):=by
 unfold J3;rw[Mi,wR];constructor
 .rintro⟨_,t,ht,hf⟩
  exact⟨t,Jj.1 ht,hf⟩
 rintro⟨t,ht,hf⟩
 exact⟨GI hf,t,Jj.2 ht,hf⟩
theorem HZ{root:Int}(h:root<12)(f:Nat):f∈FN m root↔f∈Bg m root:=by
 rw[Dz];unfold FN
 by_cases h0:root<0
 .rw[if_pos h0]
  simp;omega
 rw[if_neg h0,Mi,List.cons_append,List.mem_cons,wJ,Jj,Wm]
 constructor
 .rintro⟨_,h⟩
  exact⟨ω,h⟩
 rintro⟨_,h⟩
 refine⟨?_,h⟩
 rcases h with rfl|h|⟨t,_,h⟩
 .omega
 .exact GI h
 exact GI h
def Tj(k:AR)(a e:Nat):Bool:=decide (Ab k e=(a:Int))||(decide (0<=Ab k e)&&(Fa k.mem (Ab k e).toNat).contains a)
def WN(k:AR)(a:Nat):List Nat:=(yL 3).filter (Tj k a)
theorem bV (h:DZ k){a:Nat}(ha:Bp (A3 k a)=true):WN k a=Gi k a:=by
 unfold WN Gi;refine List.filter_congr λe he=>?_
 have o8:=yi.1 he;rw[wW,vF]
 show _↔a∈Bg k.mem (Ab k e)
 rw[Dz];unfold Tj;simp only[xM,yD,decide_eq_true_eq,vF,Jj];constructor
 .rintro(A|⟨h0,A⟩)
  .exact⟨ω,.inl ω⟩
  exact⟨h0,.inr (.inl A)⟩
 rintro⟨h0,A|A|⟨t,ht,A⟩⟩
 .exact .inl ω
 .exact .inr ⟨h0,A⟩
 have:=(h.zu o8 h0 ht A).2
 rw[this] at ha;cases ha
def LX(k:AR)(w:Int):List Nat:=if Bv w then BP w::(if(JR k.Zh (BP w)).k=2 then named (AK k.mem (BP w)) else[]) else[]
theorem Xz{w:Int}(h:Bv w=true->(JR k.Zh (BP w)).k≠3):LX k w=Ds k w:=by
 unfold LX Ds;cases K:Bv w
 .rfl
 have:=h K
 simp only[if_true]
 congr 1
 by_cases H:(JR k.Zh (BP w)).k=2
 .rw[if_pos H,if_pos (by simp[Bp,H])]
 rw[if_neg H,if_neg (by simp[Bp,H,this])]
theorem QZ{Zh:List AX}{n:Int}:Ao (BO Zh fs n) f (Dl kind)=BO (Ao Zh f (Dl kind)) fs n:=by
 induction fs generalizing Zh with
 |nil=>rfl
 |cons g fs ih=>
  show Ao (BO (Ao Zh g (JI n)) fs n) f (Dl kind)=BO (Ao (Ao Zh f (Dl kind)) g (JI n)) fs n
  rw[ih]
  congr 1
  simp only[KF (d:=AX.zero),KR]
  by_cases e:f=g
  .subst e
   rw[ud,ud]
   by_cases hl:f<Zh.length
   .rw[if_pos ⟨rfl,hl⟩,if_pos ⟨rfl,hl⟩]
    rfl
   rw[tA ω,tA ω]
  rw[if_neg (λh=>e h.1),if_neg (λh=>e h.1.symm),List.set_comm _ _ (λh=>e h.symm)]
def Pw(ss:List ByteArray)(s:ByteArray):Nat:=(ss.takeWhile λx=>!OM x s).length
theorem Nk{α:Type}(p:α->Bool)(l:List α):l.take (l.takeWhile p).length=l.takeWhile p/\l.drop (l.takeWhile p).length=l.dropWhile p:=by
 induction l with
 |nil=>simp
 |cons x l ih=>
  by_cases h:p x=true
  .simp[h,ih.1,ih.2]
  simp[h]
theorem cE:Rn ss s=ss.take (Pw ss s)++s::ss.drop (Pw ss s):=by unfold Rn Pw;rw[(Nk _ _).1,(Nk _ _).2]
theorem VX{k:Nat}(hk:k<=ss.length)(A:∀j,j<k->OP (Cw ss j) s=true)(H:k<ss.length->OP (Cw ss k) s=false):Pw ss s=k:=by
 unfold Pw
 induction ss generalizing k with
 |nil=>simp at hk;subst hk;rfl
 |cons x ss ih=>
  cases k with
  |zero=>have:=H χ;have e:OP x s=false:=this;rw[sO,if_neg (by simp[Ny,e])];rfl
  |succ k=>
   have e:OP x s=true:=A 0 ω;rw[sO,if_pos (by simp[Ny,e]),vT]
   congr 1
   refine ih (by simpa using hk) (λj hj=>?_) (λoV=>?_)
   .exact A (j+1) ω
   exact H (by simpa using oV)
theorem dI{a:ByteArray}:OP a a=false:=by
 cases h:OP a a
 .rfl
 exact absurd (Lj.1 h) (rP _)
theorem eK (h:BW ss=true):ss.any (λx=>decide (x=s))=(decide (Pw ss s<ss.length)&&decide (Cw ss (Pw ss s)=s)):=by
 obtain⟨_,hp,_⟩:=Ev.1 h;have hd:=xB (p:=λx=>!OM x s) (l:=ss);rw[wW];simp only[yD,decide_eq_true_eq,List.any_eq_true];constructor
 .rintro⟨x,hx,rfl⟩
  obtain⟨j,hj,mf⟩:=wY hx;have hc:Pw ss x=j:=by
   refine VX (Nat.le_of_lt hj) (λi E=>?_) (λ_=>?_)
   .have:=wL.1 hp i j ω hj E
    unfold Cw;rw[yg,yG ω];simpa[mf] using this
   unfold Cw
   rw[yg,yG hj];simpa[mf] using dI
  rw[hc];refine⟨hj,?_⟩;unfold Cw;rw[yg,yG hj];simpa using mf
 rintro⟨hl,hx⟩
 exact⟨_,yv (IB hl),hx⟩
theorem Sn:EG g 0=false:=by simp[EG,Bv]
theorem Uq{f:Int}(h0:0<=f)(A:f<=11)(g:Nat):EG g (Ip f)=decide (g=f.toNat):=by
 obtain⟨x,y,_⟩:=IZ h0 A;unfold EG;rw[x,y,Bool.true_and]
 by_cases e:f.toNat=g
 .simp[e]
 have:¬g=f.toNat:=λh=>e h.symm
 simp[e,this]
theorem Dd.zq (h:Dd p){n i:Nat}(N:n<16)(hw:(AD p.Xs n).w=1)(E:i<4):(Bd p.low i).toNat≠(AD p.Xs n).a.toNat:=λe=>by have A:=h.zU E;have H:=h.zR N hw;rw[e] at A;omega
theorem Dd.zf (h:Dd p){n:Nat}(N:n<16)(hw:(AD p.Xs n).w=1):(Ab p.V0 0).toNat≠(AD p.Xs n).a.toNat:=λe=>by have A:=h.zK;have H:=h.zR N hw;rw[e] at A;omega
theorem Dd.zh (h:Dd p){i:Nat}(E:i<4):(Ab p.V0 0).toNat≠(Bd p.low i).toNat:=λe=>by have A:=h.zK;have H:=h.zU E;rw[e] at A;omega
theorem eo{m:Nat}(A:n/4=m/4)(H:n%4=m%4):n=m:=ω
theorem Dd.tab_ne (h:Dd p){n m:Nat}(N:n<16)(hm:m<16)(bP:m≠n):¬((Bd p.low (m/4)).toNat=(Bd p.low (n/4)).toNat/\m%4=n%4):=λ⟨e1,e2⟩=>bP (eo (h.ze ω ω e1) e2)
theorem Dd.rowl (h:Dd p){f:Nat}(hf:f<12):(AK p.V0.mem f).length=4:=h.k.row hf
theorem Dd.meml (h:Dd p):p.V0.mem.length=12:=(Aj.1 h.k.mem).1
theorem GG (h:DZ k){kind a b c:Int}:DZ (Ad k (Ah kind a b c)).1:=Od h ⟨Int.le_refl 0,(ψ:(0:Int)<=2)⟩
theorem dX (h:Dd p){n:Nat}(N:n<16)(hw:(AD p.Xs n).w=1):JR (Er p n).V0.Zh g=if g=(AD p.Xs n).a.toNat then AX.zero else JR p.V0.Zh g:=by
 rw[QB h N hw];have fk:=h.zR N hw;obtain⟨f1,f2,f3⟩:=h.zQ N hw
 show JR ((BD (BD p.V0.Zh (Aw p.V0.mem (Bd p.low (n/4)).toNat (n%4)) (-1)) 0 1).set _ AX.zero) g=_
 rw[IW,Cv,Cv]
 by_cases e:g=(AD p.Xs n).a.toNat
 .rw[if_pos ⟨e,by rw[h.k.len];exact fk.1⟩,if_pos e]
 rw[if_neg (λh=>e h.1),if_neg e,GL (by rw[Cv];exact h.k.len),GL h.k.len]
 have e1:EG g (Aw p.V0.mem (Bd p.low (n/4)).toNat (n%4))=false:=by
  rcases h.Xs n N with⟨a,_⟩|⟨_,b,c,_⟩|⟨a,_⟩
  .omega
  .have c':Aw p.V0.mem (Bd p.low (n/4)).toNat (n%4)=Ip (AD p.Xs n).a:=c
   rw[c',Uq b.1 b.2];exact decide_eq_false e
  omega
 rw[e1,Sn];simp[Ee]
theorem gH (h:Dd p){n:Nat}(N:n<16)(hw:(AD p.Xs n).w=1){f i:Nat}:Aw (Er p n).V0.mem f i=if f=(Bd p.low (n/4)).toNat/\i=n%4 then 0 else Aw p.V0.mem f i:=by rw[QB h N hw];have hl:=h.zU (i:=n/4) ω;exact TY (by rw[h.meml];exact hl.1) (by rw[h.rowl hl.1];omega)
theorem Ss (h:Dd p){n:Nat}(N:n<16)(hw:(AD p.Xs n).w=1)(e:Nat):Ab (Er p n).V0 e=Ab p.V0 e/\BJ (Er p n).V0 e=BJ p.V0 e:=by rw[QB h N hw];exact⟨rfl,rfl⟩
theorem Lr{s:List (List Int)}{k:Nat}(hk:k<s.length):AK (s.set k r) j=if j=k then r else AK s j:=by
 rw[QG]
 by_cases e:j=k
 .rw[if_pos ⟨e,hk⟩,if_pos e]
 rw[if_neg (λh=>e h.1),if_neg e]
theorem eS{Zh:List AX}(hf:f<Zh.length)(h:(JR Zh f).k=0):0<=An Zh:=by unfold An;rw[if_pos (LW.2 ⟨_,Di (d:=AX.zero) hf,by unfold JR at h;simpa using h⟩)];omega
theorem Vu (h:Dd p){n:Nat}(N:n<16)(hw:(AD p.Xs n).w=1):
 Dd (Er p n)/\(∀a,a<64->Fu (Er p n) a=Fu p a)/\Al (Er p n).Xs 1+1=Al p.Xs 1/\0<=An (Er p n).V0.Zh:=by
 have df:=h.slot N ω;obtain⟨f1,f2,f3⟩:=h.zQ N hw;have fk:=h.zR N hw;have hM:=λg=>dX h N hw (g:=g)
 have fv:=λf i=>gH h N hw (f:=f) (i:=i)
 have lj:(Er p n).Xs=p.Xs.set n ⟨2,Bs p.swap,false⟩:=rfl;have nf:(Er p n).swap=p.swap.set (Bs p.swap).toNat (AK p.V0.mem (AD p.Xs n).a.toNat):=rfl;have ma:(Er p n).low=p.low:=rfl;have kv:∀m,AD (Er p n).Xs m=if m=n then⟨2,Bs p.swap,false⟩ else AD p.Xs m:=λm=>by
  rw[lj,EH]
  by_cases e:m=n
  .rw[if_pos ⟨e,by rw[h.zY];exact N⟩,if_pos e]
  rw[if_neg (λh=>e h.1),if_neg e]
 have hC:∀s,AK (Er p n).swap s=if s=(Bs p.swap).toNat then AK p.V0.mem (AD p.Xs n).a.toNat else AK p.swap s:=λs=>by rw[nf,Lr (by rw[h.zN];exact df.2.1)]
 have fx:EP (AK p.V0.mem (AD p.Xs n).a.toNat)=true:=(Aj.1 h.k.mem).2 _ fk.1;have iZ:AK p.V0.mem (AD p.Xs n).a.toNat≠[]:=λe=>by have:=(BB.1 fx).1;rw[e] at this;simp at this
 have jC:Al (Er p n).Xs 1+1=Al p.Xs 1:=by
  have:=Pu (l:=p.Xs) (n:=n) (y:=⟨2,Bs p.swap,false⟩) (w:=1) (by rw[h.zY];exact N);rw[lj];have e1:Ee (Pz 1 (AD p.Xs n))=1:=by simp[Pz,hw,Ee]
  have e2:Ee (Pz 1 ⟨2,Bs p.swap,false⟩)=0:=by simp[Pz,Ee]
  omega
 have cb:∀g,g≠(AD p.Xs n).a.toNat->L5 p.V0.Zh g->L5 (Er p n).V0.Zh g:=λg K hm=>by unfold L5;rw[hM g,if_neg K];exact hm
 have l8:=(Ss h N hw 0).1;have ky:DZ (Er p n).V0:=GG (GG h.k);refine⟨⟨ky,?_,?_,?_,?_,?_,?_,?_,?_,?_,?_,?_,h.FU,h.VO,?_⟩,?_,jC,?_⟩
 .rw[nf,yh];exact h.zN
 .intro s hs
  rw[hC s]
  by_cases e:s=(Bs p.swap).toNat
  .rw[if_pos e];exact .inr fx
  rw[if_neg e];exact h.zF s hs
 .rw[(Ss h N hw 0).2];exact h.may
 .intro e A H
  rw[(Ss h N hw e).2];exact h.alone e A H
 .rw[l8];exact h.root
 .exact h.zD
 .rw[l8];exact cb _ (h.zf N hw) h.yW
 .intro i E
  obtain⟨a,b,c,d⟩:=h.lows i E;refine⟨a,b,?_,cb _ (h.zq N hw E) d⟩;rw[l8,fv,if_neg (λe=>h.zh (i:=n/4) ω e.1)];exact c
 .rw[lj,yh];exact h.zY
 .intro s hs
  have A:=PL (l:=p.Xs) (n:=n) (s:=s) (y:=⟨2,Bs p.swap,false⟩) (by rw[h.zY];exact N);have e1:Ee (DK s (AD p.Xs n))=0:=by simp[DK,hw,Ee]
  have H:=h.slots s hs;rw[hC s,lj]
  by_cases e:s=(Bs p.swap).toNat
  .rw[if_pos e]
   have e2:Ee (DK s ⟨2,Bs p.swap,false⟩)=1:=by
    have:Bs p.swap=(s:Int):=ω;simp[DK,this,Ee]
   rw[if_neg (by rw[J5];exact iZ)];rw[e,df.2.2] at H;rw[<-e] at H;simp at H;omega
  rw[if_neg e]
  have e2:Ee (DK s ⟨2,Bs p.swap,false⟩)=0:=by
   have:¬Bs p.swap=(s:Int):=ω;simp[DK,this,Ee]
  omega
 .intro m hm
  have lY:CZ (Er p n) m=if m=n then 0 else CZ p m:=by
   unfold CZ;rw[ma,fv]
   by_cases e:m=n
   .subst e;rw[if_pos ⟨rfl,rfl⟩,if_pos rfl]
   rw[if_neg (h.tab_ne N hm e),if_neg e]
  unfold LV;rw[kv m,lY]
  by_cases e:m=n
  .simp only[if_pos e]
   refine .inr (.inr ⟨χ,⟨df.1,by have:=df.2.1;show Bs p.swap<=15;omega⟩,?_,χ,χ⟩);rw[hC,if_pos rfl];exact iZ
  simp only[if_neg e]
  rcases h.Xs m hm with x|⟨x1,x2,x3,x4⟩|⟨x1,x2,x3,x4,x5⟩
  .exact .inl x
  .refine .inr (.inl ⟨x1,x2,x3,cb _ (λe'=>e (h.zl hm N x1 hw e')) x4⟩)
  refine .inr (.inr ⟨x1,x2,?_,x4,x5⟩)
  rw[hC,if_neg]
  .exact x3
  intro e'
  rw[e'] at x3;exact x3 df.2.2
 .have:=h.count
  show(Al (Er p n).Xs 1:Int)<=p.VO
  omega
 .intro a ha
  unfold Fu;rw[kv (a/4)]
  by_cases e:a/4=n
  .subst e
   rw[if_pos rfl,if_neg (ψ:¬(2:Int)=1),if_pos (show(2:Int)=2 from rfl),if_pos hw];unfold Aw;rw[hC,if_pos rfl]
  rw[if_neg e]
  by_cases w1:(AD p.Xs (a/4)).w=1
  .rw[if_pos w1,if_pos w1,fv,if_neg (λe'=>h.zq (i:=n/4) (n:=a/4) ω w1 ω e'.1.symm)]
  rw[if_neg w1,if_neg w1]
  by_cases w2:(AD p.Xs (a/4)).w=2
  .rw[if_pos w2,if_pos w2]
   unfold Aw;rw[hC,if_neg]
   rcases h.Xs (a/4) ω with⟨x,_⟩|⟨x,_⟩|⟨x1,x2,x3,x4,x5⟩
   .omega
   .omega
   intro e'
   rw[e'] at x3;exact x3 df.2.2
  rw[if_neg w2,if_neg w2]
 have a8:(Er p n).V0.Zh.length=12:=ky.len
 exact eS (f:=(AD p.Xs n).a.toNat) (by rw[a8];exact fk.1) (by rw[hM,if_pos rfl];rfl)
theorem set4{x:List Int}(hx:x.length=4)(h:r.length=4):(((x.set 0 (r.getD 0 0)).set 1 (r.getD 1 0)).set 2 (r.getD 2 0)).set 3 (r.getD 3 0)=r:=by
 match x,hx,r,h with
 | [_,_,_,_],_,[a,b,c,d],_=>rfl
theorem U6{i:Nat}{w:Int}:Cn m f i w=m.set f ((AK m f).set i w):=PJ
theorem QH{i:Nat}{w:Int}(hf:f<m.length):Cn (m.set f r) f i w=m.set f (r.set i w):=by rw[U6,Lr hf,if_pos rfl,ud]
theorem db (hm:Cd (BJ k 0) gA=true){f:Int}(h0:0<=f)(A:f<=11)(hl:k.mem.length=12)(hk:A3 k f.toNat=1)(K:(JR k.Zh f.toNat).g=gA)(ni:(AK k.mem f.toNat).length=4){ws:List Int}(hw:EP ws=true):
 XR k f ws= {k with mem:=k.mem.set f.toNat ws}:=by
 obtain⟨oF,oE⟩:=BB.1 hw;have ok:∀i,i<4->Dx (ws.getD i 0)=true:=λi E=>Aa.2 (oE _ (Di ω))
 have hf:f.toNat<k.mem.length:=by rw[hl];omega
 have st:∀(k':AR)(i:Nat),k'.Zh=k.Zh->k'.Xr=k.Xr->i<4->(Ad k' (Ah 3 f (i:Nat) (ws.getD i 0))).1= {k' with mem:=Cn k'.mem f.toNat i (ws.getD i 0)}:=λk' i e1 e2 E=>by
  have oQ:Cd (BJ k' 0) gA=true:=by unfold BJ;rw[e2];exact hm
  rw[ah oQ h0 A (by unfold A3;rw[e1];exact hk) (by rw[e1];exact K) E (ok i E)]
 have e:(yL 4)=[0,1,2,3]:=rfl;unfold XR;rw[e];simp only[yJ,yH];rw[st k 0 rfl rfl ω];rw[st {k with mem:=Cn k.mem f.toNat 0 (ws.getD 0 0)} 1 rfl rfl ω];rw[st {k with mem:=Cn (Cn k.mem f.toNat 0 (ws.getD 0 0)) f.toNat 1 (ws.getD 1 0)} 2 rfl rfl ω];rw[st {k with mem:=Cn (Cn (Cn k.mem f.toNat 0 (ws.getD 0 0)) f.toNat 1 (ws.getD 1 0)) f.toNat 2 (ws.getD 2 0)} 3 rfl rfl ω]
 congr 1
 show Cn (Cn (Cn (Cn k.mem f.toNat 0 _) f.toNat 1 _) f.toNat 2 _) f.toNat 3 _=_
 rw[U6 (m:=k.mem),QH hf,QH hf,QH hf,set4 ni oF]
def Ir(k:AR)(f t b:Nat)(row:List Int):AR:=JS {k with Zh:=k.Zh.set f ⟨1,gA,0⟩,mem:=k.mem.set f row} t b (Ip f)
theorem YO (h:Dd p){n:Nat}(N:n<16)(hw:(AD p.Xs n).w≠1)(hf:0<=An p.V0.Zh):
 Qv p n=({p with V0:=Ir p.V0 (An p.V0.Zh).toNat (Bd p.low (n/4)).toNat (n%4) (if(AD p.Xs n).w=2 then AK p.swap (AD p.Xs n).a.toNat else[0,0,0,0]),swap:=if(AD p.Xs n).w=2 then p.swap.set (AD p.Xs n).a.toNat [] else p.swap,Xs:=p.Xs.set n ⟨1,An p.V0.Zh,true⟩},true)/\
 DZ (Ir p.V0 (An p.V0.Zh).toNat (Bd p.low (n/4)).toNat (n%4) (if(AD p.Xs n).w=2 then AK p.swap (AD p.Xs n).a.toNat else[0,0,0,0])):=by
 obtain⟨g1,g2,g3⟩:=GW (Zh:=p.V0.Zh) ω;have a8:=h.k.len;rw[a8] at g1;have hl:=h.lows (n/4) ω;have kw:=h.zU (i:=n/4) ω;have cl:=h.meml;have bP:(Bd p.low (n/4)).toNat≠(An p.V0.Zh).toNat:=λe=>by have:=kw.2;unfold A3 at this;rw[e,g2] at this;omega
 have e1:=NL (k:=p.V0) h.may hf (a:=0) (b:=0) (c:=0);have oU:DZ (Ad p.V0 (Ah 1 0 0 0)).1:=GG h.k;rw[e1] at oU;have f7:∀g,JR (p.V0.Zh.set (An p.V0.Zh).toNat ⟨1,gA,0⟩) g=if g=(An p.V0.Zh).toNat then⟨1,gA,0⟩ else JR p.V0.Zh g:=λg=>by
  rw[IW,a8]
  by_cases e:g=(An p.V0.Zh).toNat
  .rw[if_pos ⟨e,g1⟩,if_pos e]
  rw[if_neg (λh=>e h.1),if_neg e]
 have e2:(if(AD p.Xs n).w=2 then XR {p.V0 with Zh:=p.V0.Zh.set (An p.V0.Zh).toNat ⟨1,gA,0⟩,mem:=p.V0.mem.set (An p.V0.Zh).toNat [0,0,0,0]} (An p.V0.Zh) (AK p.swap (AD p.Xs n).a.toNat) else {p.V0 with Zh:=p.V0.Zh.set (An p.V0.Zh).toNat ⟨1,gA,0⟩,mem:=p.V0.mem.set (An p.V0.Zh).toNat [0,0,0,0]})=
  {p.V0 with Zh:=p.V0.Zh.set (An p.V0.Zh).toNat ⟨1,gA,0⟩,mem:=p.V0.mem.set (An p.V0.Zh).toNat (if(AD p.Xs n).w=2 then AK p.swap (AD p.Xs n).a.toNat else[0,0,0,0])}:=by
  by_cases w2:(AD p.Xs n).w=2
  .rw[if_pos w2,if_pos w2]
   have fc:EP (AK p.swap (AD p.Xs n).a.toNat)=true:=by
    rcases h.Xs n N with⟨x,_⟩|⟨x,_⟩|⟨x1,x2,x3,x4,x5⟩
    .omega
    .omega
    rcases h.zF (AD p.Xs n).a.toNat ω with x|x
    .exact absurd x x3
    exact x
   rw[db (k:= {p.V0 with Zh:=p.V0.Zh.set (An p.V0.Zh).toNat ⟨1,gA,0⟩,mem:=p.V0.mem.set (An p.V0.Zh).toNat [0,0,0,0]}) h.may hf ω (by show(p.V0.mem.set _ _).length=12;rw[yh];exact cl) (by unfold A3;rw[f7,if_pos rfl]) (by rw[f7,if_pos rfl]) (by show(AK (p.V0.mem.set _ _) _).length=4;rw[Lr ω,if_pos rfl];rfl) fc]
   show AR.mk _ _ _ _=AR.mk _ _ _ _
   rw[ud]
  rw[if_neg w2,if_neg w2]
 have fc:EP (if(AD p.Xs n).w=2 then AK p.swap (AD p.Xs n).a.toNat else[0,0,0,0])=true:=by
  by_cases w2:(AD p.Xs n).w=2
  .rw[if_pos w2]
   rcases h.Xs n N with⟨x,_⟩|⟨x,_⟩|⟨x1,x2,x3,x4,x5⟩
   .omega
   .omega
   rcases h.zF (AD p.Xs n).a.toNat ω with x|x
   .exact absurd x x3
   exact x
  rw[if_neg w2];rfl
 generalize hR:(if(AD p.Xs n).w=2 then AK p.swap (AD p.Xs n).a.toNat else[0,0,0,0])=row at e2 fc ⊢;have nz:DZ {p.V0 with Zh:=p.V0.Zh.set (An p.V0.Zh).toNat ⟨1,gA,0⟩,mem:=p.V0.mem.set (An p.V0.Zh).toNat row}:=by have:=DZ.data h.k g1 (.inl g2) fc (x:=⟨1,gA,0⟩) (.inr ⟨ψ,ψ,ψ⟩) (.inr rfl) (by rw[DZ.zC h.k g1 g2]) (.inr (DZ.zC h.k g1 g2)) h.k.Xo h.k.trans;exact this
 have e3:=XY nz h.may h.alone hl.1 hl.2.1 (by unfold A3;rw[f7,if_neg bP];exact kw.2) (by rw[f7,if_neg bP];exact hl.2.2.2.1) (b:=n%4) ω (w:=Ip (An p.V0.Zh)) (.inr ⟨_,hf,ω,rfl,by unfold A3;rw[f7,if_pos rfl],by rw[f7,if_pos rfl]⟩);have e4:((An p.V0.Zh).toNat:Int)=An p.V0.Zh:=ω;have ny:=GG nz (kind:=6) (a:=Bd p.low (n/4)) (b:=((n%4:Nat):Int)) (c:=Ip (An p.V0.Zh));rw[e3] at ny;refine⟨?_,by unfold Ir;rw[e4];exact ny⟩;unfold Qv;rw[e1];simp only;rw[if_neg χ,e2];unfold JU;rw[e3];unfold Ir;rw[e4]
theorem Dd.tab_zero (h:Dd p){n:Nat}(N:n<16)(hw:(AD p.Xs n).w≠1):CZ p n=0:=by
 rcases h.Xs n N with⟨_,_,_,x⟩|⟨x,_⟩|⟨_,_,_,_,x⟩
 .exact x
 .exact absurd x hw
 exact x
theorem Ve (h:Dd p){n:Nat}(N:n<16)(hw:(AD p.Xs n).w≠1)(hf:0<=An p.V0.Zh)(hc:(Al p.Xs 1:Int)+1<=p.VO):
 Dd (Qv p n).1/\(Qv p n).2=true/\(∀a,a<64->Fu (Qv p n).1 a=Fu p a)/\Al (Qv p n).1.Xs 1=Al p.Xs 1+1/\(Qv p n).1.Xs=p.Xs.set n ⟨1,An p.V0.Zh,true⟩:=by
 obtain⟨f7,ky⟩:=YO h N hw hf;obtain⟨g1,g2,g3⟩:=GW (Zh:=p.V0.Zh) ω;have a8:=h.k.len;rw[a8] at g1;generalize hR:(if(AD p.Xs n).w=2 then AK p.swap (AD p.Xs n).a.toNat else[0,0,0,0])=row at f7 ky;generalize hS:(if(AD p.Xs n).w=2 then p.swap.set (AD p.Xs n).a.toNat [] else p.swap)=sw at f7;have cl:=h.meml;have hl:=h.lows (n/4) ω;have kw:=h.zU (i:=n/4) ω;have lT:∀g,A3 p.V0 g≠0->g≠(An p.V0.Zh).toNat:=λg K e=>by unfold A3 at K;rw[e] at K;exact K g2
 have kt:(Ab p.V0 0).toNat≠(An p.V0.Zh).toNat:=lT _ (by rw[h.zK.2];decide);have hE:∀i,i<4->(Bd p.low i).toNat≠(An p.V0.Zh).toNat:=λi E=>lT _ (by rw[(h.zU E).2];decide)
 have kI:∀m,m<16->(AD p.Xs m).w=1->(AD p.Xs m).a.toNat≠(An p.V0.Zh).toNat:=λm hm oO=>lT _ (by rw[(h.zR hm oO).2];decide)
 have fx:EP row=true:=by
  rw[<-hR]
  by_cases w2:(AD p.Xs n).w=2
  .rw[if_pos w2]
   rcases h.Xs n N with⟨x,_⟩|⟨x,_⟩|⟨x1,x2,x3,x4,x5⟩
   .omega
   .omega
   rcases h.zF (AD p.Xs n).a.toNat ω with x|x
   .exact absurd x x3
   exact x
  rw[if_neg w2];rfl
 have ni:=(BB.1 fx).1;have e0:Aw (p.V0.mem.set (An p.V0.Zh).toNat row) (Bd p.low (n/4)).toNat (n%4)=0:=by unfold Aw;rw[Lr ω,if_neg (hE _ ω)];exact h.tab_zero N hw
 have e4:((An p.V0.Zh).toNat:Int)=An p.V0.Zh:=ω;have fv:∀f i,Aw (Ir p.V0 (An p.V0.Zh).toNat (Bd p.low (n/4)).toNat (n%4) row).mem f i=if f=(Bd p.low (n/4)).toNat/\i=n%4 then Ip (An p.V0.Zh) else if f=(An p.V0.Zh).toNat then row.getD i 0 else Aw p.V0.mem f i:=λf i=>by
  unfold Ir JS
  show Aw (Cn (p.V0.mem.set (An p.V0.Zh).toNat row) _ _ _) f i=_
  rw[TY (by rw[yh,cl];exact kw.1) (by rw[Lr ω,if_neg (hE _ ω),h.rowl kw.1];omega),e4]
  congr 1
  unfold Aw;rw[Lr ω]
  by_cases e:f=(An p.V0.Zh).toNat
  .rw[if_pos e,if_pos e]
  rw[if_neg e,if_neg e]
 have hM:∀g,JR (Ir p.V0 (An p.V0.Zh).toNat (Bd p.low (n/4)).toNat (n%4) row).Zh g=if g=(An p.V0.Zh).toNat then⟨1,gA,1⟩ else JR p.V0.Zh g:=λg=>by
  unfold Ir JS
  show JR (BD (BD (p.V0.Zh.set (An p.V0.Zh).toNat ⟨1,gA,0⟩) (Aw (p.V0.mem.set (An p.V0.Zh).toNat row) _ _) (-1)) (Ip _) 1) g=_
  rw[GL (by rw[Cv,yh];exact a8),GL (by rw[yh];exact a8),e0,Sn,e4,Uq hf ω,IW,a8]
  by_cases e:g=(An p.V0.Zh).toNat
  .rw[if_pos ⟨e,g1⟩,if_pos e]
   simp[Ee,e]
  rw[if_neg (λh=>e h.1),if_neg e]
  simp[Ee,e]
 have kv:∀m,AD (p.Xs.set n ⟨1,An p.V0.Zh,true⟩) m=if m=n then⟨1,An p.V0.Zh,true⟩ else AD p.Xs m:=λm=>by
  rw[EH]
  by_cases e:m=n
  .rw[if_pos ⟨e,by rw[h.zY];exact N⟩,if_pos e]
  rw[if_neg (λh=>e h.1),if_neg e]
 have jC:Al (p.Xs.set n ⟨1,An p.V0.Zh,true⟩) 1=Al p.Xs 1+1:=by
  have:=Pu (l:=p.Xs) (n:=n) (y:=⟨1,An p.V0.Zh,true⟩) (w:=1) (by rw[h.zY];exact N);have e1:Ee (Pz 1 (AD p.Xs n))=0:=by simp[Pz,hw,Ee]
  have e2:Ee (Pz 1 ⟨1,An p.V0.Zh,true⟩)=1:=by simp[Pz,Ee]
  omega
 have cb:∀g,g≠(An p.V0.Zh).toNat->L5 p.V0.Zh g->L5 (Ir p.V0 (An p.V0.Zh).toNat (Bd p.low (n/4)).toNat (n%4) row).Zh g:=λg K hm=>by unfold L5;rw[hM g,if_neg K];exact hm
 have oP:L5 (Ir p.V0 (An p.V0.Zh).toNat (Bd p.low (n/4)).toNat (n%4) row).Zh (An p.V0.Zh).toNat:=by unfold L5;rw[hM,if_pos rfl];exact⟨rfl,rfl⟩
 have hC:∀s,AK sw s=if(AD p.Xs n).w=2/\s=(AD p.Xs n).a.toNat then[] else AK p.swap s:=λs=>by
  rw[<-hS]
  by_cases w2:(AD p.Xs n).w=2
  .rcases h.Xs n N with⟨x,_⟩|⟨x,_⟩|⟨x1,x2,x3,x4,x5⟩
   .omega
   .omega
   rw[if_pos w2,Lr (by rw[h.zN];omega)]
   by_cases e:s=(AD p.Xs n).a.toNat
   .rw[if_pos e,if_pos ⟨w2,e⟩]
   rw[if_neg e,if_neg (λh=>e h.2)]
  rw[if_neg w2,if_neg (λh=>w2 h.1)]
 have l6:sw.length=16:=by
  rw[<-hS]
  split
  .rw[yh];exact h.zN
  exact h.zN
 rw[f7];have fn:∀m,m<16->m≠n->(AD p.Xs m).w=2->¬((AD p.Xs n).w=2/\(AD p.Xs m).a.toNat=(AD p.Xs n).a.toNat):=by
  rintro m hm bP m2 ⟨n2,e⟩;have r1:0<=(AD p.Xs m).a/\(AD p.Xs m).a<=15:=by
   rcases h.Xs m hm with⟨x,_⟩|⟨x,_⟩|⟨x1,x2,x3,x4,x5⟩
   .omega
   .omega
   exact x2
  have r2:0<=(AD p.Xs n).a/\(AD p.Xs n).a<=15:=by
   rcases h.Xs n N with⟨x,_⟩|⟨x,_⟩|⟨x1,x2,x3,x4,x5⟩
   .omega
   .omega
   exact x2
  have hs:=h.slots (AD p.Xs n).a.toNat ω;have A:=PL (l:=p.Xs) (n:=n) (s:=(AD p.Xs n).a.toNat) (y:=⟨0,0,false⟩) (by rw[h.zY];exact N);have H:=PL (l:=p.Xs.set n ⟨0,0,false⟩) (n:=m) (s:=(AD p.Xs n).a.toNat) (y:=⟨0,0,false⟩) (by rw[yh,h.zY];exact hm);rw[EH,if_neg (λh=>bP h.1)] at H;have b1:Ee (DK (AD p.Xs n).a.toNat (AD p.Xs n))=1:=by
   have:(AD p.Xs n).a=(((AD p.Xs n).a.toNat:Nat):Int):=ω;unfold DK;rw[decide_eq_true n2,decide_eq_true this];rfl
  have b2:Ee (DK (AD p.Xs n).a.toNat (AD p.Xs m))=1:=by
   have:(AD p.Xs m).a=(((AD p.Xs n).a.toNat:Nat):Int):=ω;unfold DK;rw[decide_eq_true m2,decide_eq_true this];rfl
  have b3:Ee (DK (AD p.Xs n).a.toNat ⟨0,0,false⟩)=0:=by simp[DK,Ee]
  split at hs<;>omega
 refine⟨⟨ky,l6,?_,h.may,h.alone,h.root,h.zD,cb _ kt h.yW,?_,?_,?_,?_,h.FU,h.VO,?_⟩,rfl,?_,jC,rfl⟩
 .intro s hs
  rw[hC s]
  split
  .exact .inl rfl
  exact h.zF s hs
 .intro i E
  obtain⟨a,b,c,d⟩:=h.lows i E;refine⟨a,b,?_,cb _ (hE i E) d⟩
  show Aw (Ir p.V0 _ _ _ row).mem (Ab p.V0 0).toNat i=_
  rw[fv,if_neg (λe=>h.zh (i:=n/4) ω e.1),if_neg kt];exact c
 .show(p.Xs.set n _).length=16
  rw[yh];exact h.zY
 .intro s hs
  have A:=PL (l:=p.Xs) (n:=n) (s:=s) (y:=⟨1,An p.V0.Zh,true⟩) (by rw[h.zY];exact N);have e2:Ee (DK s ⟨1,An p.V0.Zh,true⟩)=0:=by simp[DK,Ee]
  have H:=h.slots s hs
  show Cm (p.Xs.set n _) s=if(AK sw s).isEmpty then 0 else 1
  rw[hC s]
  by_cases e:(AD p.Xs n).w=2/\s=(AD p.Xs n).a.toNat
  .rw[if_pos e]
   have a0:0<=(AD p.Xs n).a/\AK p.swap (AD p.Xs n).a.toNat≠[]:=by
    rcases h.Xs n N with⟨x,_⟩|⟨x,_⟩|⟨x1,x2,x3,x4,x5⟩
    .omega
    .omega
    exact⟨x2.1,x3⟩
   have e1:Ee (DK s (AD p.Xs n))=1:=by
    have:(AD p.Xs n).a=(s:Int):=ω;unfold DK;rw[decide_eq_true e.1,decide_eq_true this];rfl
   rw[if_neg (by rw[J5,e.2];exact a0.2)] at H;simp;omega
  rw[if_neg e]
  have e1:Ee (DK s (AD p.Xs n))=0:=by
   unfold DK
   by_cases w2:(AD p.Xs n).w=2
   .have:¬(AD p.Xs n).a=(s:Int):=λh=>e ⟨w2,ω⟩
    rw[decide_eq_false this];simp[Ee]
   rw[decide_eq_false w2];simp[Ee]
  omega
 .intro m hm
  have lY:CZ {p with V0:=Ir p.V0 (An p.V0.Zh).toNat (Bd p.low (n/4)).toNat (n%4) row,swap:=sw,Xs:=p.Xs.set n ⟨1,An p.V0.Zh,true⟩} m=if m=n then Ip (An p.V0.Zh) else CZ p m:=by
   unfold CZ
   show Aw (Ir p.V0 _ _ _ row).mem (Bd p.low (m/4)).toNat (m%4)=_
   rw[fv]
   by_cases e:m=n
   .subst e;rw[if_pos ⟨rfl,rfl⟩,if_pos rfl]
   rw[if_neg (h.tab_ne N hm e),if_neg (hE _ ω),if_neg e]
  unfold LV;rw[lY]
  show(AD (p.Xs.set n _) m).w=0/\(AD (p.Xs.set n _) m).a=0/\(AD (p.Xs.set n _) m).u=false/\_∨(AD (p.Xs.set n _) m).w=1/\_/\_=Ip (AD (p.Xs.set n _) m).a/\L5 _ (AD (p.Xs.set n _) m).a.toNat∨(AD (p.Xs.set n _) m).w=2/\_/\AK sw (AD (p.Xs.set n _) m).a.toNat≠[]/\(AD (p.Xs.set n _) m).u=false/\_
  rw[kv m]
  by_cases e:m=n
  .simp only[if_pos e]
   exact .inr (.inl ⟨χ,⟨hf,by show An p.V0.Zh<=11;omega⟩,χ,oP⟩)
  simp only[if_neg e]
  rcases h.Xs m hm with x|⟨x1,x2,x3,x4⟩|⟨x1,x2,x3,x4,x5⟩
  .exact .inl x
  .exact .inr (.inl ⟨x1,x2,x3,cb _ (kI m hm x1) x4⟩)
  refine .inr (.inr ⟨x1,x2,?_,x4,x5⟩)
  rw[hC,if_neg (fn m hm e x1)];exact x3
 .show(Al (p.Xs.set n _) 1:Int)<=p.VO
  omega
 intro a ha
 unfold Fu
 show(if(AD (p.Xs.set n _) (a/4)).w=1 then Aw (Ir p.V0 _ _ _ row).mem (AD (p.Xs.set n _) (a/4)).a.toNat (a%4) else if(AD (p.Xs.set n _) (a/4)).w=2 then Aw sw (AD (p.Xs.set n _) (a/4)).a.toNat (a%4) else 0)=_
 rw[kv (a/4)]
 by_cases e:a/4=n
 .subst e
  rw[if_pos rfl,if_pos (show(1:Int)=1 from rfl),fv,if_neg (λe'=>hE (a/4/4) ω e'.1.symm),if_pos rfl,if_neg hw,<-hR]
  by_cases w2:(AD p.Xs (a/4)).w=2
  .rw[if_pos w2,if_pos w2];rfl
  rw[if_neg w2,if_neg w2]
  have:a%4=0∨a%4=1∨a%4=2∨a%4=3:=ω;rcases this with h|h|h|h<;>rw[h]<;>rfl
 rw[if_neg e]
 by_cases w1:(AD p.Xs (a/4)).w=1
 .rw[if_pos w1,if_pos w1,fv,if_neg (λe'=>h.zq (i:=n/4) (n:=a/4) ω w1 ω e'.1.symm),if_neg (kI _ ω w1)]
 rw[if_neg w1,if_neg w1]
 by_cases w2:(AD p.Xs (a/4)).w=2
 .rw[if_pos w2,if_pos w2]
  unfold Aw;rw[hC,if_neg (fn _ ω e w2)]
 rw[if_neg w2,if_neg w2]
def yV(FU:Int)(i:Nat):Nat:=((i:Int) - FU).toNat+(if(i:Int)<FU then((i:Int)+16 - FU).toNat else 0)
variable{FU:Int}
theorem Wj (h0:0<=FU):yV FU FU.toNat=0:=by
 unfold yV
 split<;>omega
theorem Rz (h0:0<=FU)(A:FU<=15){i:Nat}(E:i<16):yV FU i<16:=by
 unfold yV
 split<;>omega
theorem Og (h0:0<=FU)(A:FU<=15){i:Nat}(E:i<16)(bP:FU.toNat≠i):yV (FJ FU) i+1=yV FU i:=by
 have e:FJ FU=if FU=15 then 0 else FU+1:=by
  unfold FJ
  split<;>omega
 rw[e];unfold yV
 split
 .subst_vars
  split<;>split<;>omega
 split<;>split<;>omega
theorem Ry (h0:0<=FU)(A:FU<=15):yV (FJ FU) FU.toNat=15:=by
 have e:FJ FU=if FU=15 then 0 else FU+1:=by
  unfold FJ
  split<;>omega
 rw[e];unfold yV
 split
 .subst_vars
  split<;>omega
 split<;>omega
theorem M7 (h0:0<=FU)(A:FU<=15):0<=FJ FU/\FJ FU<=15:=by unfold FJ;omega
variable{Xs:List Bx}
theorem Kb{i:Nat}:(AD (Xs.set j (PT (AD Xs j))) i).w=(AD Xs i).w/\(AD (Xs.set j (PT (AD Xs j))) i).a=(AD Xs i).a/\
 ((AD (Xs.set j (PT (AD Xs j))) i).u=true->(AD Xs i).u=true)/\(i≠j->AD (Xs.set j (PT (AD Xs j))) i=AD Xs i):=by
 rw[EH]
 by_cases e:i=j/\j<Xs.length
 .rw[if_pos e]
  obtain⟨rfl,_⟩:=e;exact⟨rfl,rfl,(λh=>by cases h),λh=>absurd rfl h⟩
 rw[if_neg e]
 exact⟨rfl,rfl,λh=>h,λ_=>rfl⟩
structure DY(a b:List Bx):Prop where
 len:b.length=a.length
 w:∀i,(AD b i).w=(AD a i).w
 at':∀i,(AD b i).a=(AD a i).a
 u:∀i,(AD b i).u=true->(AD a i).u=true
theorem DY.refl (a:List Bx):DY a a:=⟨rfl,λ_=>rfl,λ_=>rfl,λ_ h=>h⟩
theorem DY.step{a b:List Bx}(h:DY (a.set j (PT (AD a j))) b):DY a b:=
 ⟨by rw[h.len,yh],λi=>(h.w i).trans Kb.1,λi=>(h.at' i).trans Kb.2.1,λi E=>Kb.2.2.1 (h.u i E)⟩
theorem JW:∀(n:Nat)(Xs:List Bx)(FU:Int),DY Xs (Cq n Xs FU).1
 |0,Xs,FU=>DY.refl _
 |n+1,Xs,FU=>by
  unfold Cq
  split
  .exact DY.refl _
  exact(JW n _ _).step
theorem Kq:∀(n:Nat)(Xs:List Bx)(FU:Int),0<=FU->FU<=15->0<=(Cq n Xs FU).2.1/\(Cq n Xs FU).2.1<=15
 |0,Xs,FU,h0,A=>⟨h0,A⟩
 |n+1,Xs,FU,h0,A=>by
  have:=M7 h0 A;unfold Cq
  split
  .exact this
  exact Kq n _ _ this.1 this.2
theorem Jl:∀(n:Nat)(Xs:List Bx)(FU:Int),0<=FU->FU<=15->Xs.length=16->∀i,i<16->(AD Xs i).w=1->
 ((AD Xs i).u=false/\yV FU i+1<=n)∨yV FU i+17<=n->∃m,(Cq n Xs FU).2.2=some m
 |0,Xs,FU,h0,A,hl,i,E,hw,h=>ω
 |n+1,Xs,FU,h0,A,hl,i,E,hw,h=>by
  unfold Cq
  split
  .exact⟨_,rfl⟩
  next cw=>
  have N:=M7 h0 A;have hu:=Kb (Xs:=Xs) (j:=FU.toNat) (i:=i);refine Jl n _ _ N.1 N.2 (by rw[yh];exact hl) i E (hu.1.trans hw) ?_
  by_cases e:FU.toNat=i
  .subst e
   rw[Ry h0 A];left
   rcases h with⟨h,_⟩|h
   .exact absurd ⟨hw,h⟩ cw
   refine⟨?_,ω⟩
   rw[EH,if_pos ⟨rfl,ω⟩];rfl
  have hf:=Og h0 A E e
  rw[hu.2.2.2 (λh=>e h.symm)]
  rcases h with⟨h,h'⟩|h
  .exact .inl ⟨h,ω⟩
  exact .inr ω
theorem Ii:∀(n:Nat)(Xs:List Bx)(FU:Int),0<=FU->FU<=15->∀m,(Cq n Xs FU).2.2=some m->m<16/\(AD Xs m).w=1
 |0,Xs,FU,h0,A,m,h=>by cases h
 |n+1,Xs,FU,h0,A,m,h=>by
  unfold Cq at h
  split at h
  .next hy=>
   cases h;exact⟨ω,hy.1⟩
  have N:=M7 h0 A
  have:=Ii n _ _ N.1 N.2 m h;exact⟨this.1,Kb.1.symm.trans this.2⟩
theorem PW:∀(n:Nat)(Xs:List Bx)(FU:Int),0<=FU->FU<=15->∀i,i<16->(AD Xs i).w=1->(AD Xs i).u=false->∀m,(Cq n Xs FU).2.2=some m->
 yV FU m<=yV FU i/\(AD Xs m).u=false
 |0,Xs,FU,h0,A,i,E,hw,hu,m,h=>by cases h
 |n+1,Xs,FU,h0,A,i,E,hw,hu,m,h=>by
  unfold Cq at h
  split at h
  .next hy=>
   cases h;rw[Wj h0];exact⟨yt _,hy.2⟩
  next cw=>
  have N:=M7 h0 A;have e:FU.toNat≠i:=λe=>cw (by rw[e];exact⟨hw,hu⟩)
  have oI:=Kb (Xs:=Xs) (j:=FU.toNat) (i:=i);have nB:=oI.2.2.2 (λh=>e h.symm);have:=PW n _ _ N.1 N.2 i E (by rw[nB];exact hw) (by rw[nB];exact hu) m h;have hm:=Ii n _ _ N.1 N.2 m h;have hf:=Og h0 A E e;have i9:=Rz h0 A E;have em:FU.toNat≠m:=λe'=>by subst e';rw[Ry h0 A] at this;omega
  have pZ:=Og h0 A hm.1 em;refine⟨ω,?_⟩;rw[<-Kb.2.2.2 (λh=>em h.symm)];exact this.2
theorem JJ{w:Int}:0<Al Xs w↔∃i,i<Xs.length/\(AD Xs i).w=w:=by
 unfold Al;rw[List.countP_pos_iff];constructor
 .rintro⟨x,hx,h⟩
  obtain⟨i,E,rfl⟩:=It (d:=⟨0,0,false⟩) hx;exact⟨i,E,of_decide_eq_true (p:=(AD Xs i).w=w) h⟩
 rintro⟨i,E,h⟩
 refine⟨Xs.getD i ⟨0,0,false⟩,Di E,?_⟩;exact decide_eq_true (p:=(AD Xs i).w=w) h
theorem Jc{q:Bx->Bool}:∀{a b:List Bx},b.length=a.length->(∀i,q (AD b i)=q (AD a i))->b.countP q=a.countP q
 | [],[],_,_=>rfl
 |x::a,y::b,hl,h=>by
  rw[xt,xt,Jc (by simpa using hl) (λi=>by simpa[AD] using h (i+1))];have:=h 0;simp only[AD,List.getD_cons_zero] at this;rw[this]
theorem DY.count{a b:List Bx}(h:DY a b)(w:Int):Al b w=Al a w:=Jc h.len λi=>by unfold Pz;rw[h.w i]
theorem DY.slots{a b:List Bx}(h:DY a b)(s:Nat):Cm b s=Cm a s:=Jc h.len λi=>by unfold DK;rw[h.w i,h.at' i]
theorem DY.word{b:List Bx}(h:DY p.Xs b)(FU:Int)(a:Nat):Fu {p with Xs:=b,FU:=FU} a=Fu p a:=by
 unfold Fu
 show(if(AD b (a/4)).w=1 then _ else if(AD b (a/4)).w=2 then _ else _)=_
 rw[h.w,h.at']
theorem DY.ok{b:List Bx}(h:DY p.Xs b)(hp:Dd p)(h0:0<=FU)(A:FU<=15):Dd {p with Xs:=b,FU:=FU}:=by
 refine⟨hp.k,hp.zN,hp.zF,hp.may,hp.alone,hp.root,hp.zD,hp.yW,hp.lows,h.len.trans hp.zY,λs hs=>(h.slots s).trans (hp.slots s hs),λn N=>?_,⟨h0,A⟩,hp.VO,?_⟩
 .have e:CZ {p with Xs:=b,FU:=FU} n=CZ p n:=rfl
  unfold LV;rw[e]
  show((AD b n).w=0/\(AD b n).a=0/\(AD b n).u=false/\_)∨((AD b n).w=1/\_/\_=Ip (AD b n).a/\L5 _ (AD b n).a.toNat)∨((AD b n).w=2/\_/\AK p.swap (AD b n).a.toNat≠[]/\(AD b n).u=false/\_)
  rw[h.w,h.at'];have hu:=h.u n;have un:(AD p.Xs n).u=false->(AD b n).u=false:=λx=>by
   cases J:(AD b n).u
   .rfl
   rw[hu J] at x;cases x
  rcases hp.Xs n N with⟨x1,x2,x3,x4⟩|x|⟨x1,x2,x3,x4,x5⟩
  .exact .inl ⟨x1,x2,un x3,x4⟩
  .exact .inr (.inl x)
  exact .inr (.inr ⟨x1,x2,x3,un x4,x5⟩)
 show(Al b 1:Int)<=p.VO
 rw[h.count];exact hp.count
theorem JP{m:Nat}:(AD (GD Xs n) m).w=(AD Xs m).w/\(AD (GD Xs n) m).a=(AD Xs m).a/\(m≠n->(AD (GD Xs n) m)=AD Xs m):=by
 unfold GD;rw[EH]
 by_cases e:m=n/\n<Xs.length
 .rw[if_pos e]
  obtain⟨rfl,_⟩:=e;exact⟨rfl,rfl,λh=>absurd rfl h⟩
 rw[if_neg e]
 exact⟨rfl,rfl,λ_=>rfl⟩
theorem gO (h:Dd p){n:Nat}(N:n<16)(hw:(AD p.Xs n).w=1):Dd {p with Xs:=GD p.Xs n}:=by
 have a8:(GD p.Xs n).length=p.Xs.length:=by unfold GD;rw[yh]
 refine⟨h.k,h.zN,h.zF,h.may,h.alone,h.root,h.zD,h.yW,h.lows,a8.trans h.zY,λs hs=>?_,λm hm=>?_,h.FU,h.VO,?_⟩
 .have:Cm (GD p.Xs n) s=Cm p.Xs s:=Jc a8 λi=>by unfold DK;rw[JP.1,JP.2.1]
  rw[this];exact h.slots s hs
 .have e:CZ {p with Xs:=GD p.Xs n} m=CZ p m:=rfl
  unfold LV;rw[e]
  show((AD (GD p.Xs n) m).w=0/\(AD (GD p.Xs n) m).a=0/\(AD (GD p.Xs n) m).u=false/\_)∨((AD (GD p.Xs n) m).w=1/\_/\_=Ip (AD (GD p.Xs n) m).a/\L5 _ (AD (GD p.Xs n) m).a.toNat)∨((AD (GD p.Xs n) m).w=2/\_/\AK p.swap (AD (GD p.Xs n) m).a.toNat≠[]/\(AD (GD p.Xs n) m).u=false/\_)
  rw[JP.1,JP.2.1]
  rcases h.Xs m hm with⟨x1,x2,x3,x4⟩|x|⟨x1,x2,x3,x4,x5⟩
  .rw[JP.2.2 (λe=>by subst e;omega)]
   exact .inl ⟨x1,x2,x3,x4⟩
  .exact .inr (.inl x)
  rw[JP.2.2 (λe=>by subst e;omega)]
  exact .inr (.inr ⟨x1,x2,x3,x4,x5⟩)
 have:Al (GD p.Xs n) 1=Al p.Xs 1:=Jc a8 λi=>by unfold Pz;rw[JP.1]
 show(Al (GD p.Xs n) 1:Int)<=p.VO
 rw[this];exact h.count
structure eF(p q:AP)(n:Nat):Prop where
 ok:Dd q
 w:(AD q.Xs n).w=1
 u:(AD q.Xs n).u=true
 words:∀a,a<64->Fu q a=Fu p a
 VO:q.VO=p.VO
 one:∃m,(m=n∨((AD p.Xs m).w=1/\(AD q.Xs m).w=2/\(An p.V0.Zh<0∨(Al p.Xs 1:Int)=p.VO)))/\∀i,i<16->i≠n->i≠m->(AD q.Xs i).w=(AD p.Xs i).w/\(AD q.Xs i).a=(AD p.Xs i).a
 used:∀i,i<16->(AD p.Xs i).w=1->(AD p.Xs i).u=true->(AD q.Xs i).w=2->∀j,j<16->(AD p.Xs j).w=1->(AD p.Xs j).u=true
theorem Mk (h:Dd p){n:Nat}(N:n<16):(Bm p n).2=false↔(An p.V0.Zh<0/\Al p.Xs 1=0):=by
 by_cases hw:(AD p.Xs n).w=1
 .unfold Bm
  rw[if_pos hw];have:=JJ.2 ⟨n,by rw[h.zY];exact N,hw⟩;constructor
  .intro x;cases x
  intro x;omega
 by_cases cw:An p.V0.Zh<0/\Al p.Xs 1=0
 .unfold Bm
  rw[if_neg hw,if_pos cw];exact⟨λ_=>cw,λ_=>rfl⟩
 refine⟨λx=>?_,λx=>absurd x cw⟩
 exfalso;unfold Bm at x;rw[if_neg hw,if_neg cw] at x
 by_cases hf:Jf p=true
 .rw[if_pos hf] at x
  have hc:0<Al p.Xs 1:=by
   rcases wA (Al p.Xs 1) with h0|h0
   .exfalso
    unfold Jf at hf;simp only[xM,decide_eq_true_eq] at hf;have:=h.VO
    rcases hf with hf|hf
    .exact cw ⟨hf,h0⟩
    omega
   exact h0
  obtain⟨i,E,mh⟩:=JJ.1 hc;rw[h.zY] at E;obtain⟨m,hm⟩:=Jl 32 p.Xs p.FU h.FU.1 h.FU.2 h.zY i E mh (.inr (by have:=Rz h.FU.1 h.FU.2 E;omega));have hU:=JW 32 p.Xs p.FU;have hH:=Kq 32 p.Xs p.FU h.FU.1 h.FU.2;have hI:=Ii 32 p.Xs p.FU h.FU.1 h.FU.2 m hm
  revert x hU hH hI hm
  generalize Cq 32 p.Xs p.FU=r;obtain⟨pg,hd,o⟩:=r;intro x hm hU hH hI;cases hm;have h':=hU.ok h hH.1 hH.2;have L:=Vu h' hI.1 ((hU.w m).trans hI.2);have lk:n≠m:=λe=>hw (by rw[e];exact hI.2)
  have li:(AD (Er {p with Xs:=pg,FU:=hd} m).Xs n).w≠1:=by
   show(AD (pg.set m _) n).w≠1
   rw[EH,if_neg (λh=>lk h.1),hU.w];exact hw
  have mq:(Al (Er {p with Xs:=pg,FU:=hd} m).Xs 1:Int)+1<=(Er {p with Xs:=pg,FU:=hd} m).VO:=by
   have A:Al (Er {p with Xs:=pg,FU:=hd} m).Xs 1+1=Al pg 1:=L.2.2.1;have H:Al pg 1=Al p.Xs 1:=hU.count 1;have h3:=h.count
   show _<=p.VO
   omega
  have:=(Ve L.1 N li L.2.2.2 mq).2.1;have x':(Qv (Er {p with Xs:=pg,FU:=hd} m) n).2=false:=x;rw[this] at x';cases x'
 rw[if_neg hf] at x
 unfold Jf at hf;simp only[xM,decide_eq_true_eq,not_or] at hf;have:=h.count;have:=(Ve h N hw ω ω).2.1;rw[this] at x;cases x
theorem Gg (h:Dd p){n:Nat}(N:n<16)(cw:(Bm p n).2=false):(Bm p n).1=p:=by
 have A:=(Mk h N).1 cw
 by_cases hw:(AD p.Xs n).w=1
 .unfold Bm at cw
  rw[if_pos hw] at cw;cases cw
 unfold Bm
 rw[if_neg hw,if_pos A]
theorem Th (h:Dd p){n:Nat}(hw:(AD p.Xs n).w=1):Bm p n=({p with Xs:=GD p.Xs n},true):=by unfold Bm;rw[if_pos hw]
theorem PQ (h:Dd p){n:Nat}(N:n<16)(hy:(Bm p n).2=true):eF p (Bm p n).1 n:=by
 by_cases hw:(AD p.Xs n).w=1
 .rw[Th h hw]
  refine⟨gO h N hw,JP.1.trans hw,?_,λa _=>?_,rfl,⟨n,.inl rfl,λi _ _ _=>⟨JP.1,JP.2.1⟩⟩,λi _ E _ oW=>?_⟩
  .show(AD (GD p.Xs n) n).u=true
   unfold GD;rw[EH,if_pos ⟨rfl,by rw[h.zY];exact N⟩]
  .unfold Fu
   show(if(AD (GD p.Xs n) (a/4)).w=1 then _ else if(AD (GD p.Xs n) (a/4)).w=2 then _ else _)=_
   rw[JP.1,JP.2.1]
  have:(AD (GD p.Xs n) i).w=2:=oW
  rw[JP.1,E] at this;cases this
 have cw:¬(An p.V0.Zh<0/\Al p.Xs 1=0):=λe=>by
  rw[(Mk h N).2 e] at hy;cases hy
 by_cases hf:Jf p=true
 .have nI:An p.V0.Zh<0∨(Al p.Xs 1:Int)=p.VO:=by
   unfold Jf at hf;simpa using hf
  have hc:0<Al p.Xs 1:=by
   rcases wA (Al p.Xs 1) with h0|h0
   .exfalso
    have:=h.VO
    rcases nI with hf|hf
    .exact cw ⟨hf,h0⟩
    omega
   exact h0
  obtain⟨i,E,mh⟩:=JJ.1 hc;rw[h.zY] at E;obtain⟨m,hm⟩:=Jl 32 p.Xs p.FU h.FU.1 h.FU.2 h.zY i E mh (.inr (by have:=Rz h.FU.1 h.FU.2 E;omega));have hU:=JW 32 p.Xs p.FU;have hH:=Kq 32 p.Xs p.FU h.FU.1 h.FU.2;have hI:=Ii 32 p.Xs p.FU h.FU.1 h.FU.2 m hm;have mB:=λi A H h3=>PW 32 p.Xs p.FU h.FU.1 h.FU.2 i A H h3 m hm
  have e:Bm p n=Qv (Er {p with Xs:=(Cq 32 p.Xs p.FU).1,FU:=(Cq 32 p.Xs p.FU).2.1} m) n:=by
   unfold Bm;rw[if_neg hw,if_neg cw,if_pos hf]
   revert hm
   generalize Cq 32 p.Xs p.FU=r;obtain⟨pg,hd,o⟩:=r;intro hm;cases hm;rfl
  rw[e];clear e hy
  revert hU hH
  generalize(Cq 32 p.Xs p.FU).1=pg;generalize(Cq 32 p.Xs p.FU).2.1=hd;intro hU hH;have h':=hU.ok h hH.1 hH.2;have L:=Vu h' hI.1 ((hU.w m).trans hI.2);have lk:n≠m:=λe=>hw (by rw[e];exact hI.2)
  have np:∀j,AD (Er {p with Xs:=pg,FU:=hd} m).Xs j=if j=m then⟨2,Bs p.swap,false⟩ else AD pg j:=λj=>by
   show AD (pg.set m _) j=_
   rw[EH]
   by_cases e:j=m
   .rw[if_pos ⟨e,by rw[hU.len,h.zY];exact hI.1⟩,if_pos e]
   rw[if_neg (λh=>e h.1),if_neg e]
  have li:(AD (Er {p with Xs:=pg,FU:=hd} m).Xs n).w≠1:=by rw[np,if_neg lk,hU.w];exact hw
  have mq:(Al (Er {p with Xs:=pg,FU:=hd} m).Xs 1:Int)+1<=(Er {p with Xs:=pg,FU:=hd} m).VO:=by
   have A:Al (Er {p with Xs:=pg,FU:=hd} m).Xs 1+1=Al pg 1:=L.2.2.1;have H:=hU.count 1;have h3:=h.count
   show _<=p.VO
   omega
  obtain⟨i1,i2,i3,i4,i5⟩:=Ve L.1 N li L.2.2.2 mq;have ig:∀j,AD (Qv (Er {p with Xs:=pg,FU:=hd} m) n).1.Xs j=if j=n then⟨1,An (Er {p with Xs:=pg,FU:=hd} m).V0.Zh,true⟩ else if j=m then⟨2,Bs p.swap,false⟩ else AD pg j:=λj=>by
   rw[i5,EH]
   by_cases e:j=n
   .rw[if_pos ⟨e,by rw[L.1.zY];exact N⟩,if_pos e]
   rw[if_neg (λh=>e h.1),if_neg e,np]
  refine⟨i1,?_,?_,λa ha=>?_,?_,⟨m,.inr ⟨hI.2,?_,nI⟩,λj hj A H=>?_⟩,λj hj mg kz gr=>?_⟩
  .rw[ig,if_pos rfl]
  .rw[ig,if_pos rfl]
  .rw[i3 a ha,L.2.1 a ha,hU.word]
  .rw[(YO L.1 N li L.2.2.2).1];rfl
  .rw[ig,if_neg (λe=>lk e.symm),if_pos rfl]
  .rw[ig,if_neg A,if_neg H]
   exact⟨hU.w j,hU.at' j⟩
  rw[ig] at gr
  by_cases e1:j=n
  .rw[if_pos e1] at gr;cases gr
  rw[if_neg e1] at gr
  by_cases e2:j=m
  .subst e2
   intro x hx oC;cases oD:(AD p.Xs x).u
   .rw[(mB x hx oC oD).2] at kz
    cases kz
   rfl
  rw[if_neg e2,hU.w,mg] at gr
  cases gr
 have e:Bm p n=Qv p n:=by
  unfold Bm;rw[if_neg hw,if_neg cw,if_neg hf]
 rw[e];unfold Jf at hf;simp only[xM,decide_eq_true_eq,not_or] at hf;have:=h.count;have jb:(Al p.Xs 1:Int)+1<=p.VO:=ω;have nF:0<=An p.V0.Zh:=ω;obtain⟨i1,i2,i3,i4,i5⟩:=Ve h N hw nF jb;have ig:∀j,AD (Qv p n).1.Xs j=if j=n then⟨1,An p.V0.Zh,true⟩ else AD p.Xs j:=λj=>by
  rw[i5,EH]
  by_cases e:j=n
  .rw[if_pos ⟨e,by rw[h.zY];exact N⟩,if_pos e]
  rw[if_neg (λh=>e h.1),if_neg e]
 refine⟨i1,?_,?_,i3,?_,⟨n,.inl rfl,λj hj A _=>?_⟩,λj hj mg kz gr=>?_⟩
 .rw[ig,if_pos rfl]
 .rw[ig,if_pos rfl]
 .rw[(YO h N hw nF).1]
 .rw[ig,if_neg A];exact⟨rfl,rfl⟩
 rw[ig] at gr
 by_cases e1:j=n
 .rw[if_pos e1] at gr;cases gr
 rw[if_neg e1,mg] at gr
 cases gr
theorem Dd.walk (h:Dd p){a:Nat}(ha:a<64)(hw:(AD p.Xs (a/4)).w=1):CU p.V0.mem (Ab p.V0 0).toNat a=(0,(AD p.Xs (a/4)).a.toNat,true):=by
 obtain⟨l0,l1,l2,_⟩:=h.lows (a/16) ω;obtain⟨x1,x2,x3⟩:=IZ l0 l1
 rcases h.Xs (a/4) ω with⟨y,_⟩|⟨_,b,c,_⟩|⟨y,_⟩
 .omega
 .obtain⟨y1,y2,y3⟩:=IZ b.1 b.2
  have e1:a/4/4=a/16:=ω;have c':Aw p.V0.mem (Bd p.low (a/16)).toNat (a/4%4)=Ip (AD p.Xs (a/4)).a:=by rw[<-e1];exact c
  unfold CU;rw[l2,if_pos x1,x2,c',if_pos y1,y2,x3,y3];rfl
 omega
theorem du (hk:kind=10∨kind=11){a b:Int}:Ad k (Ah kind a b 0)=PV k (Ah kind a b 0):=by
 unfold Ad;rw[if_neg (show ¬(Ah kind a b 0).k=1 by show ¬kind=1;omega),if_neg (by rw[show Bj (Ah kind a b 0).k 2 6=false from Vd.2 (by show kind<2∨6<kind;omega)];simp),if_neg (show ¬(Ah kind a b 0).k=7 by show ¬kind=7;omega),
  if_neg (show ¬(Ah kind a b 0).k=8 by show ¬kind=8;omega),if_neg (show ¬(Ah kind a b 0).k=9 by show ¬kind=9;omega),if_pos (show(Ah kind a b 0).k=10∨(Ah kind a b 0).k=11 from hk)]
def Kp(c:List Ag)(e p:Int)(f:Nat)(w:Bool):List Ag:=if IG c e p<0 then Ju c ⟨e,p,f,w⟩ else c
theorem Zc{c:AT}:PV k c=
 if Bj c.a 0 63=false∨(AH k.Xr c.e.toNat).root<0∨(c.k=11/\Dx c.b=false) then(k,0,3)
 else if(CU k.mem (AH k.Xr c.e.toNat).root.toNat c.a.toNat).1≠0 then(k,0,3)
 else if c.k=11/\(CU k.mem (AH k.Xr c.e.toNat).root.toNat c.a.toNat).2.2=false then(k,0,1)
 else if c.k=11 then({k with mem:=Cn k.mem (CU k.mem (AH k.Xr c.e.toNat).root.toNat c.a.toNat).2.1 (c.a%4).toNat c.b,Xo:=Kp k.Xo c.e (c.a/4) (CU k.mem (AH k.Xr c.e.toNat).root.toNat c.a.toNat).2.1 (CU k.mem (AH k.Xr c.e.toNat).root.toNat c.a.toNat).2.2},0,0)
 else({k with Xo:=Kp k.Xo c.e (c.a/4) (CU k.mem (AH k.Xr c.e.toNat).root.toNat c.a.toNat).2.1 (CU k.mem (AH k.Xr c.e.toNat).root.toNat c.a.toNat).2.2},Aw k.mem (CU k.mem (AH k.Xr c.e.toNat).root.toNat c.a.toNat).2.1 (c.a%4).toNat,0):=rfl
theorem aO (h:Dd p){a:Nat}(ha:a<64)(hw:(AD p.Xs (a/4)).w=1):
 Ad p.V0 (Ah 10 (a:Int) 0 0)=({p.V0 with Xo:=Kp p.V0.Xo 0 ((a/4:Nat):Int) (AD p.Xs (a/4)).a.toNat true},Aw p.V0.mem (AD p.Xs (a/4)).a.toNat (a%4),0):=by
 rw[du (.inl rfl)];have lU:=h.walk ha hw;have hr:=h.root;unfold PV;have e0:(AH p.V0.Xr (Ah 10 (a:Int) 0 0).e.toNat).root=Ab p.V0 0:=rfl;have e1:(Ah 10 (a:Int) 0 0).a.toNat=a:=rfl;have e2:(Ah 10 (a:Int) 0 0).a/4=((a/4:Nat):Int):=by show(a:Int)/4=_;omega
 have e3:((Ah 10 (a:Int) 0 0).a%4).toNat=a%4:=by show((a:Int)%4).toNat=_;omega
 simp only[e0,e1,e2,e3,lU];rw[if_neg,if_neg ψ,if_neg,if_neg]
 .rfl
 .show ¬(10:Int)=11;decide
 .rintro⟨_,x⟩;cases x
 rintro(x|x|⟨x,_⟩)
 .rw[show Bj (Ah 10 (a:Int) 0 0).a 0 63=true from Aa.2 ⟨by show(0:Int)<=(a:Int);omega,by show(a:Int)<=63;omega⟩] at x;cases x
 .omega
 exact absurd (show(10:Int)=11 from x) ψ
theorem Y6 (h:Dd p){a:Nat}(ha:a<64)(hw:(AD p.Xs (a/4)).w=1){w:Int}(fv:Dx w=true):
 Ad p.V0 (Ah 11 (a:Int) w 0)=({p.V0 with mem:=Cn p.V0.mem (AD p.Xs (a/4)).a.toNat (a%4) w,Xo:=Kp p.V0.Xo 0 ((a/4:Nat):Int) (AD p.Xs (a/4)).a.toNat true},0,0):=by
 rw[du (.inr rfl)];have lU:=h.walk ha hw;have hr:=h.root;unfold PV;have e0:(AH p.V0.Xr (Ah 11 (a:Int) w 0).e.toNat).root=Ab p.V0 0:=rfl;have e1:(Ah 11 (a:Int) w 0).a.toNat=a:=rfl;have e2:(Ah 11 (a:Int) w 0).a/4=((a/4:Nat):Int):=by show(a:Int)/4=_;omega
 have e3:((Ah 11 (a:Int) w 0).a%4).toNat=a%4:=by show((a:Int)%4).toNat=_;omega
 simp only[e0,e1,e2,e3,lU];rw[if_neg,if_neg ψ,if_neg,if_pos]
 .rfl
 .rfl
 .rintro⟨_,x⟩;cases x
 rintro(x|x|⟨_,x⟩)
 .rw[show Bj (Ah 11 (a:Int) w 0).a 0 63=true from Aa.2 ⟨by show(0:Int)<=(a:Int);omega,by show(a:Int)<=63;omega⟩] at x;cases x
 .omega
 rw[show Dx (Ah 11 (a:Int) w 0).b=true from fv] at x;cases x
theorem Dd.Xo (h:Dd p){c:List Ag}(hk:DZ {p.V0 with Xo:=c}):Dd {p with V0:= {p.V0 with Xo:=c}}:=
 ⟨hk,h.zN,h.zF,h.may,h.alone,h.root,h.zD,h.yW,h.lows,h.zY,h.slots,λn N=>h.Xs n N,h.FU,h.VO,h.count⟩
theorem Q8 (h:Dd p){a:Nat}(ha:a<64)(hy:(Bm p (a/4)).2=true):
 (GC p a).2.2=true/\(GC p a).2.1=Fu p a/\Dd (GC p a).1/\∀b,b<64->Fu (GC p a).1 b=Fu p b:=by
 have T:=PQ h (n:=a/4) ω hy;have hd:=aO T.ok ha T.w;have hk:=GG (k:=(Bm p (a/4)).1.V0) T.ok.k (kind:=10) (a:=(a:Int)) (b:=0) (c:=0);rw[hd] at hk;unfold GC;simp only[hy,if_true,hd];refine⟨trivial,?_,T.ok.Xo hk,λb J=>?_⟩
 .rw[<-T.words a ha]
  unfold Fu;rw[if_pos T.w]
 rw[<-T.words b J];rfl
theorem Ot (h:Dd p){a:Nat}(ha:a<64)(hy:(Bm p (a/4)).2=false):GC p a=(p,0,false):=by have:=Gg h (n:=a/4) ω hy;unfold GC;simp[hy,this]
theorem PM (h:Dd p){a:Nat}(ha:a<64){w:Int}(hy:(Bm p (a/4)).2=false):Gf p a w=(p,false):=by have:=Gg h (n:=a/4) ω hy;unfold Gf;simp[hy,this]
theorem eI (A:a/4=b/4)(H:a%4=b%4):a=b:=ω
theorem Dd.put (h:Dd p){a:Nat}(ha:a<64)(hw:(AD p.Xs (a/4)).w=1){w:Int}{c:List Ag}(hk:DZ {p.V0 with mem:=Cn p.V0.mem (AD p.Xs (a/4)).a.toNat (a%4) w,Xo:=c}):
 Dd {p with V0:= {p.V0 with mem:=Cn p.V0.mem (AD p.Xs (a/4)).a.toNat (a%4) w,Xo:=c}}/\
 ∀b,b<64->Fu {p with V0:= {p.V0 with mem:=Cn p.V0.mem (AD p.Xs (a/4)).a.toNat (a%4) w,Xo:=c}} b=if b=a then w else Fu p b:=by
 have fk:=h.zR (n:=a/4) ω hw;have lr:∀f i,Aw (Cn p.V0.mem (AD p.Xs (a/4)).a.toNat (a%4) w) f i=if f=(AD p.Xs (a/4)).a.toNat/\i=a%4 then w else Aw p.V0.mem f i:=λf i=>TY (by rw[h.meml];exact fk.1) (by rw[h.rowl fk.1];omega)
 refine⟨⟨hk,h.zN,h.zF,h.may,h.alone,h.root,h.zD,h.yW,λi E=>?_,h.zY,h.slots,λn N=>?_,h.FU,h.VO,h.count⟩,λb J=>?_⟩
 .obtain⟨x1,x2,x3,x4⟩:=h.lows i E
  refine⟨x1,x2,?_,x4⟩
  show Aw (Cn p.V0.mem _ _ w) (Ab p.V0 0).toNat i=_
  rw[lr,if_neg (λe=>h.zf (n:=a/4) ω hw e.1)];exact x3
 .have e:CZ {p with V0:= {p.V0 with mem:=Cn p.V0.mem (AD p.Xs (a/4)).a.toNat (a%4) w,Xo:=c}} n=CZ p n:=by
   unfold CZ
   show Aw (Cn p.V0.mem _ _ w) (Bd p.low (n/4)).toNat (n%4)=_
   rw[lr,if_neg (λe=>h.zq (n:=a/4) (i:=n/4) ω hw ω e.1)]
  have:=h.Xs n N;unfold LV at this ⊢;rw[e];exact this
 unfold Fu
 show(if(AD p.Xs (b/4)).w=1 then Aw (Cn p.V0.mem _ _ w) (AD p.Xs (b/4)).a.toNat (b%4) else if(AD p.Xs (b/4)).w=2 then _ else _)=_
 by_cases e:b=a
 .subst e
  rw[if_pos hw,if_pos rfl,lr,if_pos ⟨rfl,rfl⟩]
 rw[if_neg e]
 by_cases w1:(AD p.Xs (b/4)).w=1
 .rw[if_pos w1,if_pos w1,lr,if_neg]
  rintro⟨x,y⟩;exact e (eI (h.zl ω ω w1 hw x) y)
 rw[if_neg w1,if_neg w1]
theorem Tb (h:Dd p){a:Nat}(ha:a<64){w:Int}(fv:Dx w=true)(hy:(Bm p (a/4)).2=true):
 (Gf p a w).2=true/\Dd (Gf p a w).1/\(∀b,b<64->Fu (Gf p a w).1 b=if b=a then w else Fu p b)/\(AD (Gf p a w).1.Xs (a/4)).w=1:=by
 have T:=PQ h (n:=a/4) ω hy;have hd:=Y6 T.ok ha T.w fv;have hk:=GG (k:=(Bm p (a/4)).1.V0) T.ok.k (kind:=11) (a:=(a:Int)) (b:=w) (c:=0);rw[hd] at hk;have P:=T.ok.put ha T.w (w:=w) hk;unfold Gf;simp only[hy,if_true,hd];refine⟨trivial,P.1,λb J=>?_,T.w⟩;rw[<-T.words b J];exact P.2 b J
theorem Si (h:Dd p){a:Nat}(ha:a<64):Dd (GC p a).1:=by
 cases hy:(Bm p (a/4)).2
 .rw[Ot h ha hy];exact h
 exact(Q8 h ha hy).2.2.1
theorem NI (h:Dd p){a:Nat}(ha:a<64){w:Int}(fv:Dx w=true):Dd (Gf p a w).1:=by
 cases hy:(Bm p (a/4)).2
 .rw[PM h ha hy];exact h
 exact(Tb h ha fv hy).2.1
theorem LJ (h:Dd p){n:Nat}(N:n<16):Dd (Bm p n).1:=by
 cases hy:(Bm p n).2
 .rw[Gg h N hy];exact h
 exact(PQ h N hy).ok
def Ch(k:AR)(c:AT)(kind:Int):Int:=
 if Bj c.a 0 11=false∨(JR k.Zh c.a.toNat).k=0 then 3
 else if Cd (AH k.Xr c.e.toNat).Pj (JR k.Zh c.a.toNat).g=false then 1
 else if(0<kind/\(JR k.Zh c.a.toNat).k≠kind)∨(kind=0/\Bp (JR k.Zh c.a.toNat).k=false) then 3
 else 0
theorem Kh{c:AT}(A:2<=c.k)(H:c.k<=6):Ad k c=IV k c:=by unfold Ad;rw[if_neg ω,if_pos (Aa.2 ⟨A,H⟩)]
theorem X0{c:AT}(h:c.k=2):Ad k c=if Ch k c 1=0 then(if(JR k.Zh c.a.toNat).r≠0 then(k,0,2) else({k with Zh:=k.Zh.set c.a.toNat AX.zero},0,0)) else(k,0,Ch k c 1):=by
 rw[Kh ω ω];unfold IV Ch K4 Ff;rw[h]
 by_cases a1:Bj c.a 0 11=false∨(JR k.Zh c.a.toNat).k=0
 .rw[if_pos a1,if_pos (by rcases a1 with a1|a1<;>simp[a1])];rfl
 have b7:=not_or.1 a1
 rw[if_neg a1,if_neg (by simp[b7.1,b7.2])];cases Cd (AH k.Xr c.e.toNat).Pj (JR k.Zh c.a.toNat).g
 .rfl
 by_cases a2:(JR k.Zh c.a.toNat).k=1
 .simp[a2]
 simp[a2]
theorem X1{c:AT}(h:c.k=3):Ad k c=if Ch k c 1=0 then(if Bj c.b 0 3=false∨Dx c.c=false then(k,0,3) else({k with mem:=Cn k.mem c.a.toNat c.b.toNat c.c},0,0)) else(k,0,Ch k c 1):=by
 rw[Kh ω ω];unfold IV Ch LE Ff;rw[h]
 by_cases a1:Bj c.a 0 11=false∨(JR k.Zh c.a.toNat).k=0
 .rw[if_pos a1,if_pos (by rcases a1 with a1|a1<;>simp[a1])];rfl
 have b7:=not_or.1 a1
 rw[if_neg a1,if_neg (by simp[b7.1,b7.2])];cases Cd (AH k.Xr c.e.toNat).Pj (JR k.Zh c.a.toNat).g
 .rfl
 by_cases a2:(JR k.Zh c.a.toNat).k=1
 .simp[a2]
 simp[a2]
theorem Zo{c:AT}(h:c.k=4∨c.k=5):Ad k c=if Bj c.a 0 11=false∨(JR k.Zh c.a.toNat).k=0∨(c.k=4/\Bp c.b=false) then(k,0,3)
 else if Ff k c.e (JR k.Zh c.a.toNat).g=false then(k,0,1)
 else EB k (if c.k=4 then Gc k.mem k.Zh c.a.toNat c.b (AH k.Xr c.e.toNat).Pj else DH k.mem k.Zh c.a.toNat):=by
 rw[Kh ω ω];unfold IV
 rcases h with h|h<;>simp[h]
def dm(k:AR)(c:AT):Nu:=
 if Bj c.b 0 3=false∨EN k c=false then(k,0,3)
 else if(Gi k c.a.toNat).all (λe=>BM k.Zh (Ds k c.c) (AH k.Xr e).Pj)=false then(k,0,1)
 else if Bv c.c=true/\Ff k c.e (JR k.Zh (BP c.c)).g=false then(k,0,1)
 else({k with mem:=Cn k.mem c.a.toNat c.b.toNat c.c,Zh:=BD (BD k.Zh (Aw k.mem c.a.toNat c.b.toNat) (-1)) c.c 1,Xo:=(Gi k c.a.toNat).foldl (λc e=>Gm c (e:Nat)) k.Xo},0,0)
theorem Zp{c:AT}(h:c.k=6):Ad k c=if Ch k c 0=0 then dm k c else(k,0,Ch k c 0):=by
 rw[Kh ω ω];unfold IV Ch Ik dm Ff;rw[h]
 by_cases a1:Bj c.a 0 11=false∨(JR k.Zh c.a.toNat).k=0
 .rw[if_pos a1,if_pos (by rcases a1 with a1|a1<;>simp[a1])];rfl
 have b7:=not_or.1 a1
 rw[if_neg a1,if_neg (by simp[b7.1,b7.2])];cases Cd (AH k.Xr c.e.toNat).Pj (JR k.Zh c.a.toNat).g
 .rfl
 cases a2:Bp (JR k.Zh c.a.toNat).k<;>simp
theorem KQ{c:AT}(h:Ch k c kind=0):Bj c.a 0 11=true/\(JR k.Zh c.a.toNat).k≠0/\Cd (AH k.Xr c.e.toNat).Pj (JR k.Zh c.a.toNat).g=true/\(0<kind->(JR k.Zh c.a.toNat).k=kind)/\(kind=0->Bp (JR k.Zh c.a.toNat).k=true):=by
 unfold Ch at h
 by_cases a1:Bj c.a 0 11=false∨(JR k.Zh c.a.toNat).k=0
 .rw[if_pos a1] at h;cases h
 rw[if_neg a1] at h
 have b7:=not_or.1 a1;cases hm:Cd (AH k.Xr c.e.toNat).Pj (JR k.Zh c.a.toNat).g
 .rw[hm] at h;cases h
 rw[hm,if_neg χ] at h
 by_cases a2:(0<kind/\(JR k.Zh c.a.toNat).k≠kind)∨(kind=0/\Bp (JR k.Zh c.a.toNat).k=false)
 .rw[if_pos a2] at h;cases h
 have nX:=not_or.1 a2
 refine⟨by simpa using b7.1,b7.2,rfl,λh0=>?_,λh0=>?_⟩
 .exact Classical.byContradiction λhx=>nX.1 ⟨h0,hx⟩
 cases ht:Bp (JR k.Zh c.a.toNat).k
 .exact absurd ⟨h0,ht⟩ nX.2
 rfl
def GM(Zh:List AX)(old:Int):List AX:=if 0<=old then Ao Zh old.toNat (JI (-1)) else Zh
def KY(Zh:List AX)(new:Int):List AX:=if 0<=new then Ao Zh new.toNat (JI 1) else Zh
theorem XX{c:AT}:Ly k c=
 if c.a≠ -1/\(Bj c.a 0 11=false∨(JR k.Zh c.a.toNat).k≠3) then(k,0,3)
 else if BM k.Zh (Bg k.mem c.a) (AH k.Xr c.e.toNat).Pj=false then(k,0,1)
 else({k with Zh:=KY (GM k.Zh (AH k.Xr c.e.toNat).root) c.a,Xr:=Ao k.Xr c.e.toNat (EJ c.a),Xo:=Gm k.Xo c.e},0,0):=rfl
theorem X2{c:AT}(h:c.k=7):Ad k c=Ly k c:=by unfold Ad;rw[if_neg ω,if_neg (by rw[h];decide),if_pos h]
theorem WX{c:AT}(h:c.k=8):Ad k c=Fx k c:=by unfold Ad;rw[if_neg ω,if_neg (by rw[h];decide),if_neg ω,if_pos h]
theorem VU{c:AT}(h:c.k=9):Ad k c=ER k c:=by unfold Ad;rw[if_neg ω,if_neg (by rw[h];decide),if_neg ω,if_neg ω,if_pos h]
theorem Zq{c:AT}(h:c.k=10∨c.k=11):Ad k c=PV k c:=by unfold Ad;rw[if_neg ω,if_neg (by rcases h with h|h<;>rw[h]<;>decide),if_neg ω,if_neg ω,if_neg ω,if_pos h]
theorem WW (h:DZ k){e p:Nat}(hj:j<k.Xo.length)(hs:BQ (e:Int) (p:Int) (AV k.Xo j)=true){a:Nat}(ha:a/4=p):
 ∃fr:Nat,fr<12/\AV k.Xo j=⟨(e:Int),(p:Int),(fr:Int),(AV k.Xo j).w⟩/\CU k.mem (AH k.Xr e).root.toNat a=(0,fr,(AV k.Xo j).w):=by
 have hx:AV k.Xo j∈k.Xo:=yv (A6 hj);have ht:=h.trans _ hx;have hc:=(Ey.1 h.Xo).1 _ hx;generalize AV k.Xo j=x at*;obtain⟨xe,xp,xf,xw⟩:=x;simp only[BQ,yD,decide_eq_true_eq] at hs;obtain⟨rfl,rfl⟩:=hs;simp only[CQ,yD,Aa] at hc;obtain⟨_,h0,mG⟩:=hc;obtain⟨fr,rfl⟩:∃fr:Nat,xf=(fr:Int):=⟨xf.toNat,ω⟩
 refine⟨fr,ω,rfl,?_⟩;simp only[Cz,yD,decide_eq_true_eq,yq] at ht;have e1:CU k.mem (AH k.Xr e).root.toNat a=CU k.mem (AH k.Xr e).root.toNat (4*p):=by unfold CU;rw[(ω:4*p/16=a/16),(ω:4*p/4%4=a/4%4)]
 rw[e1];exact ht.2
theorem bG{m:Φ}(h:Iz lo w g m i e c k)(au:lo<=w.heap.size)(hK:DZ k)(R:AT)(he:0<=R.e)(N:R.e<3):
 Ξ prog 129 #[R.on g] w (ED lo g w (Ly k R)):=by
 obtain⟨hn,az⟩:=EU w (.cells (R.onCells g) 97);have S0:=Em.start h au R;have C0:=AA (λW=>A4 (Dy R.a W));have jh:=XX (k:=k) (c:=R);obtain⟨k1,e1,a1,b1,c1,nm⟩:=R;obtain⟨en,rfl⟩:∃n:Nat,e1=(n:Int):=⟨e1.toNat,by simp only at he;omega⟩
 have b9:en<3:=by simp only at N;omega
 simp only[AT.on,AT.onCells] at hn az C0 jh S0 ⊢;simp only[yq] at jh;replace jh:=AA jh;obtain⟨y0,y1,y2,y3,y4,y5,y6⟩:=Ep (c:=⟨k1,(en:Int),a1,b1,c1,nm⟩) hn;have hl:=AU hn;have HN:=AA hn;have Z:=AA hK;obtain⟨ge,ao,e9,_,⟨⟨jr,jq⟩,jp,jo⟩,_⟩:=S0.Xr (by rw[hK.zX];omega);rw[hK.zX] at e9;obtain⟨gi,bt,e8,_,_,⟨⟨jn,jm⟩,jl,jk⟩,_⟩:=S0.Zh (by rw[hK.len];omega);rw[hK.len] at e8;subst e8 e9;obtain⟨pO,pP⟩:=S0.infos_envs;have HI:=AA h;have mQ:=AA S0;clear hK h hn y1 y2 y4 y5 y6 S0;obtain⟨bad,hbad⟩:∃b',decide (a1≠ -1/\(Bj a1 0 11=false∨(JR k.Zh a1.toNat).k≠3))=b':=⟨_,rfl⟩
 have HB:=AA hbad;clear hbad;go_in;go_upto_region 2 with fail;generalize hW0:w.alloc _=W0 at*;clear hW0;go_cut [26] (λou wx=>ou=.bool bad/\CS lo g w ⟨k1,(en:Int),a1,b1,c1,nm⟩ w wx m (.slice gi 12 bt) (.slice ge 3 ao) c k)
 case first=>
  by_cases e1:a1= -1
  .have t1:(a1 != -1)=false:=by simp[e1]
   have E1:=AA e1;clear e1;go_wp2_with fail;go_meet
   case rel=>exact⟨by rw[<-HB.u];simp[E1.u],mQ.u⟩
  have t1:(a1 != -1)=true:=by simp[e1]
  have E1:=AA e1;clear e1;go_wp2_with fail;refine(C0 W0).mono ?_;rintro r w1 ⟨rfl,be⟩;have S1:=AA (mQ.below be);clear y0 be;cases e2:Bj a1 0 11
  .have E2:=AA e2
   clear e2;go_wp2_with fail;go_meet
   case rel=>exact⟨by rw[<-HB.u];simp[E1.u,E2.u],S1.u⟩
  have E2:=AA e2;have ab:=Aa.1 e2;obtain⟨Y,rfl⟩:∃n:Nat,a1=(n:Int):=⟨a1.toNat,ω⟩
  have bK:Y<k.Zh.length:=by rw[Z.len];omega
  have kP:(Y:Int)<12:=ω;obtain⟨y0,_,_,_,_,_,_⟩:=S1.ys;obtain⟨d0,_,_⟩:=S1.JR bK;have x1:=S1.xs.2.1;clear e2 ab
  by_cases e3:(JR k.Zh Y).k=3
  .have t3:((JR k.Zh Y).k !=3)=false:=by simp[e3]
   have E3:=AA e3;clear e3;go_wp2_with fail;go_meet
   case rel=>exact⟨by rw[<-HB.u];simp[E1.u,E2.u,E3.u],S1.u⟩
  have t3:((JR k.Zh Y).k !=3)=true:=by simp[e3]
  have E3:=AA e3;clear e3;go_wp2_with fail;go_meet
  case rel=>exact⟨by rw[<-HB.u];simp[E1.u,E2.u,E3.u],S1.u⟩
 case rest=>
 obtain⟨rfl,hS⟩:=hcut;obtain⟨W2,rfl⟩:∃W2,W2=wc:=⟨_,rfl⟩
 have HS:=AA hS;clear y0 hS mQ;cases bad
 rotate_left
 .have hi:=AA (jh.trans (if_pos (of_decide_eq_true HB.u)))
  clear jh HB;go_wp2;go_ret;exact ED.bad hi ψ HS.bel
 have hD:=of_decide_eq_false HB.u;have c4:=AA (jh.trans (if_neg hD));have ha: -1<=a1/\a1<12:=by
  by_cases e1:a1= -1
  .omega
  cases e2:Bj a1 0 11
  .exact absurd ⟨e1,.inl e2⟩ hD
  have:=Aa.1 e2;omega
 have Ha:=AA ha;clear jh HB hD ha;go_wp2_with fail;have eD:=HS.zg;obtain⟨y0,y1,y2,y3,y4,y5,y6⟩:=HS.ys;obtain⟨x0,x1,x2,_⟩:=HS.xs;obtain⟨bD,bY,kk,kl⟩:=HS.lts;obtain⟨ua,uc,D0,_,call⟩:=HS.env (j:=en) (by rw[Z.zX];exact b9);have CE:=AA (λW (hW:Γ W2 W2 W)=>HS.callEnv (en:=en) rfl b9 W hW);simp only[AT.on,AT.onCells] at CE;have RM:Bl W2 m k.mem:=HS.yS.2.2.rd.1;have jg:Bf W2 (.slice gi 12 bt) k.Zh:=HS.yS.2.2.2.1.rd;have CX:=AA (λW (hW:Γ W2 W2 W)=>Lq m k.mem a1 W (RM.below hW) (Aq Z.u).1 Ha.2);have CA:=AA (λW (hW:Γ W2 W2 W) v2 ts (H:A1 W v2 (A5 ts)) (hm:∀g,g∈ts↔g∈Bg k.mem a1)=>by have:=JZ g _ v2 _ (AH k.Xr en).Pj ts k.Zh W ((hW.cell (p:=⟨g,1,none⟩) bY).trans x1) (BK.below call hW) (BK.below jg hW) H (λf hf=>by have:=zG Ha.2 f ((hm f).1 hf);have:=Z.len;omega);rw[Fp hm] at this;exact this);have hp:=c4.u;generalize j2:BM k.Zh (Bg k.mem a1) (AH k.Xr en).Pj=bb at CA hp;have c4:=AA hp;clear j2 RM jg call x1 x2 hp;refine A9 15 94 [.p w.heap.size 0,.p g 0,.a #[.pointer (some ⟨g,0,none⟩),.int .i64 k1,.int .i64 en,.int .i64 a1,.int .i64 b1,.int .i64 c1,.string nm],.p ge (en*2),.p ge (en*2),.p ge (en*2),.v (.slice ua (AH k.Xr en).Pj.length uc),.p w.heap.size 0,.p g 0,.p g 0,.p g 0,.v m,.i a1,.z,.b bb] (λix vv ww=>match ix with
  |13=>FV W2 k.mem (a1) ww vv
  |_=>True) ?_ ?_ ?_
 .intro i E o L a wx D z O hg Z
  have c8:=bc O bD y0;have c7:=bc O bD y1;have ec:=bc O bD y2;have iW:=bc O bD y3;have iV:=bc O bD y4;have jW:=bc O bD y5;have jV:=bc O bD y6;have jU:=bc O eD D0;have jT:=bc O bY x0
  match i,E with
  |0,_|4,_|5,_|7,_|9,_|10,_|12,_=>exact sP L Z D z
  |1,_|8,_=>exact sL L Z D z (hl:=Oo ‹_›)
  |2,_=>exact sL L Z D z (hl:=gZ ‹_› ‹_› ‹_› ‹_› ‹_› ‹_› ‹_›)
  |3,_=>exact sD L Z D z (CE _ O)
  |6,_=>exact sL L Z D z (hl:=Kt ‹_›)
  |11,_=>exact sL L Z D z (hl:=GZ ‹_›)
  |13,_=>exact sC L Z D z (CX _ O) (by rintro e w_ ⟨v',ts,rfl,hO,bX,_,ad⟩;exact⟨_,rfl,⟨ts,Bb hO O.size,bX⟩,ad⟩)
  |14,_=>clear c8 c7 ec iW iV jW jV jU jT;obtain rfl:=yP L;have d1:(a.tmps[28]?.getD Θ)=.pointer g:=Bc z 1;have d6:(a.tmps[33]?.getD Θ)=.slice ua (AH k.Xr en).Pj.length uc:=Bc z 6;have jd:FV W2 k.mem (a1) wx (a.tmps[40]?.getD Θ):=Bc z 13;clear z D;generalize e40:a.tmps[40]?.getD Θ=v2 at jd;obtain⟨ts,hO,bX⟩:=jd;have mY:=CA wx O v2 ts (AE.rd hO) bX;refine yO ?_;go_simp;refine mY.mono ?_;rintro e w_ ⟨rfl,ad⟩;exact Z _ _ rfl ad
  |_+15,hq=>omega
 .intro i E vv wz c5 a7 hz
  match i,E with
  |13,_=>exact(FV.below hz a7)
  |0,_|1,_|2,_|3,_|4,_|5,_|6,_|7,_|8,_|9,_|10,_|11,_|12,_|14,_=>exact hz
  |_+15,hq=>omega
 intro V wx hR O
 have fo:(V 14)=.bool bb:=Bh hR 14;clear hR;simp only[Ai,Ae,yL,yI,yJ,yH,fo];simp;clear fo;have S1:=AA (HS.below O);clear D0 y0 y1 y2 y3 y4 y5 y6 x0;cases bb
 .have hi:=AA (c4.trans (if_pos rfl))
  clear c4;go_wp2;go_ret;exact ED.bad hi ψ S1.bel
 have ea:=AA (c4.trans (if_neg χ));obtain⟨y0,y1,y2,y3,y4,y5,y6⟩:=S1.ys;clear c4;go_wp2_with fail;refine(CE _ O).mono ?_;rintro r w3 ⟨rfl,dr⟩;have S3:=AA (S1.below dr);obtain⟨_,_,_,D1,_⟩:=S3.env (j:=en) (by rw[Z.zX];exact b9);have hp:=ea.u;have iu:=zK Z b9;obtain⟨rt,hrt⟩:∃r,(AH k.Xr en).root=r:=⟨_,rfl⟩
 rw[hrt] at D1 hp iu;have ea:=AA hp;clear y0 y1 y2 y3 y4 y5 y6 O dr hp hrt CE CX CA;go_upto_if 49 with fail;clear D1;obtain⟨U,hU⟩:∃U,GM k.Zh rt=U:=⟨_,rfl⟩
 have hp:=ea.u;rw[hU] at hp;have ea:=AA hp;have HU:=AA hU;clear hU hp;go_cut [] (λwx=>CS lo g w ⟨k1,(en:Int),a1,b1,c1,nm⟩ w wx m (.slice gi 12 bt) (.slice ge 3 ao) c {k with Zh:=U})
 case first=>
  obtain⟨y0,_,_,_,_,_,_⟩:=S3.ys
  by_cases L:rt<0
  .have hu:U=k.Zh:=by rw[<-HU.u];unfold GM;rw[if_neg ω]
   subst hu;have t5:¬(0:Int)<=rt:=ω;clear L;go_wp2_with fail;go_meet;exact S3.u
  obtain⟨rn,rfl⟩:∃n:Nat,rt=(n:Int):=⟨rt.toNat,ω⟩
  have l7:rn<12:=ω;have hu:U=Ao k.Zh rn (JI (-1)):=by rw[<-HU.u];unfold GM;rw[if_pos ω,yq]
  subst hu;have t5:(0:Int)<=(rn:Int):=ω;have lh:(rn:Int)<12:=ω;obtain⟨_,_,d2⟩:=S3.JR (f:=rn) (by rw[Z.len];exact l7);have rf:=Z.yZ l7;have x1:=S3.xs.2.1;have Fr:=S3.fzi (rn*3+2);have S4:=AA (S3.info Z.len.symm (by rw[Z.len];exact l7) (-1));clear L iu;go_wp2_with fail;go_meet;exact S4.u
 case rest=>
 obtain⟨W4,rfl⟩:∃W4,W4=wc:=⟨_,rfl⟩
 have S4:=AA hcut;have nc:U.length=12/\∀f,f<12->0 - 1<=(JR U f).r/\(JR U f).r<=47:=by
  rw[<-HU.u];unfold GM
  split
  .refine⟨by rw[DI,Z.len],λf hf=>?_⟩
   have r1:=Z.yZ hf;rw[Fy]
   split
   .next hx=>have r2:=Z.yZ (ω:rt.toNat<12);show 0 - 1<=(JR k.Zh _).r+ -1/\(JR k.Zh _).r+ -1<=47;omega
   omega
  exact⟨Z.len,λf hf=>by have r1:=Z.yZ hf;omega⟩
 have lG:=AA nc;have mX:=S4.callEnv (en:=en) rfl b9 W4 (yN _ _);simp only[AT.on,AT.onCells] at mX;obtain⟨y0,y1,y2,y3,y4,y5,y6⟩:=S4.ys;clear hcut nc HU S3;go_wp2_with fail;clear y0 y1 y2 y3 y4 y5 y6;refine mX.mono ?_;rintro r4 w5 ⟨rfl,il⟩;have S5:=AA (S4.below il);obtain⟨_,_,_,D1,_⟩:=S5.env (j:=en) (by show en<k.Xr.length;rw[Z.zX];exact b9);have Fe:=S5.fze (en*2+1);have S6:=AA (S5.root Z.zX.symm (by show en<k.Xr.length;rw[Z.zX];exact b9) a1);clear mX il;go_upto_if 68 with fail;clear D1 Fe;generalize w5.setCell _ _=w6 at*;obtain⟨vs,hV⟩:∃vs,KY U a1=vs:=⟨_,rfl⟩
 have hp:=ea.u;rw[hV] at hp;have ea:=AA hp;have HV:=AA hV;clear hV hp S5 S4;go_cut [] (λwx=>CS lo g w ⟨k1,(en:Int),a1,b1,c1,nm⟩ w wx m (.slice gi 12 bt) (.slice ge 3 ao) c {k with Zh:=vs,Xr:=Ao k.Xr en (EJ a1)})
 case first=>
  obtain⟨y0,_,_,y3,_,_,_⟩:=S6.ys
  by_cases N:0<=a1
  .obtain⟨Y,rfl⟩:∃n:Nat,a1=(n:Int):=⟨a1.toNat,ω⟩
   have hv:vs=Ao U Y (JI 1):=by rw[<-HV.u];unfold KY;rw[if_pos ω,yq]
   subst hv;have bK:Y<12:=by have:=Ha.u;omega
   have kP:(Y:Int)<12:=ω;have x1:=S6.xs.2.1;obtain⟨_,_,d2⟩:=S6.JR (f:=Y) (by show Y<U.length;rw[lG.1];exact bK);have Fr:=S6.fzi (Y*3+2);have pL:=lG.2 Y bK;have S7:=AA (S6.info (by show 12=U.length;exact lG.1.symm) (f:=Y) (by show Y<U.length;rw[lG.1];exact bK) 1);simp only at S7 d2;generalize hrv:(JR U Y).r=rv at*;clear hrv;go_wp2_with fail;go_meet;exact S7.u
  have hv:vs=U:=by rw[<-HV.u];unfold KY;rw[if_neg N]
  subst hv;go_wp2_with fail;go_meet;exact S6.u
 case rest=>
 obtain⟨W7,rfl⟩:∃W7,W7=wc:=⟨_,rfl⟩
 have S7:=AA hcut;clear hcut S6 HV;obtain⟨y0,y1,y2,_,_,_,_⟩:=S7.ys;obtain⟨x0,_,_,x3⟩:=S7.xs;obtain⟨kx,jA,kk,kl⟩:=S7.lts;have RC:Do W7 c k.Xo:=S7.yS.2.2.2.2.2.rd;have CD:=AA (λW (hW:Γ W7 W7 W)=>NR c k.Xo (en:Int) W (BK.below RC hW) (Aq Z.u).2.2);clear RC x0 y1;go_wp2_with fail;refine A9 13 94 [.p w.heap.size 0,.p g 0,.p w.heap.size 0,.p g 0,.p g 0,.p g 3,.v c,.p w.heap.size 1,.p w.heap.size 2,.i ((en:Int)),.z,.p g 0,.p g 3] (λix vv ww=>match ix with
  |10=>AQ W7.heap.size 125 4 AY ww vv (Gm k.Xo (en:Int))
  |_=>True) ?_ ?_ ?_
 .intro i E o L a wx D z O hg Z
  have c8:=bc O kx y0;have c7:=bc O jA x3;have ec:=bc O kx y2
  match i,E with
  |0,_|2,_|4,_|5,_|7,_|8,_|11,_|12,_=>exact sP L Z D z
  |1,_|3,_=>exact sL L Z D z (hl:=Oo ‹_›)
  |6,_=>exact sL L Z D z (hl:=Yb ‹_›)
  |9,_=>exact sL L Z D z (hl:=GO ‹_›)
  |10,_=>exact sC L Z D z (CD _ O) (by rintro e w_ ⟨v',rfl,hO,ad⟩;exact⟨_,rfl,(hO.lower O.size),ad⟩)
 .intro i E vv wz c5 a7 hz
  match i,E with
  |10,_=>exact(AQ.below hz a7)
  |0,_|1,_|2,_|3,_|4,_|5,_|6,_|7,_|8,_|9,_|11,_|12,_=>exact hz
 intro V wx hR O
 have q1:(V 1)=.pointer g:=Bh hR 1;have id:AQ W7.heap.size 125 4 AY wx (V 10) (Gm k.Xo (en:Int)):=Bh hR 10;have ft:(V 11)=.pointer g:=Bh hR 11;have ef:(V 12)=.pointer (some ⟨g,3,none⟩):=Bh hR 12;clear hR;simp only[Ai,Ae,yL,yI,yJ,yH,q1,ft,ef];simp;generalize V 10=z10 at id ⊢;clear q1 ft ef;have S8:=AA (S7.Xo O id);have lz:=AI (S7.below O).yS.1;have mZ:=(S7.below O).xs.2.2.2;obtain⟨_,_,rfl,_,_⟩:=id.rd.shape;clear id O y0 y2 x3;go_wp2;go_ret;exact⟨by rw[ea.u];rfl,λ_=>⟨_,_,_,_,by rw[ea.u];exact S8.yS⟩,S8.bel⟩
theorem QD{x y Hd a b:Φ}(h:w'.heap[q]?=some (.cells #[x,y,Hd] T (0,0)))(J:Γ W W w')(hq:W.heap.size<=q):
 (((w'.setCell q a).setCell (q,1) b).setCell (q,2) c).heap[q]?=some (.cells #[a,b,c] T (0,0))/\Γ W W (((w'.setCell q a).setCell (q,1) b).setCell (q,2) c):=by
 refine⟨?_,((J.setCell hq _).setCell hq _).setCell hq _⟩;have A:=yE w' q 0 _ T a h;have H:=yE _ q 1 _ T b A;have h3:=yE _ q 2 _ T c H;simpa using h3
def GU(lo:Nat)(b:Bool)(v:Φ)(w:Ω)(f a:Int)(t:Bool):Prop:=∃q,v=.pointer (some ⟨q,0,none⟩)/\lo<=q/\w.heap[q]?=some (.cells (if b then #[.int .i64 f,.int .i64 a,.bool t] else #[.int .i64 0,.int .i64 0,.bool false]) 127 (0,0))
theorem GU.below{b:Bool}{f a:Int}{t:Bool}(h:GU lo b v w f a t)(J:Γ w w w'):GU lo b v w' f a t:=by obtain⟨q,h0,A,H⟩:=h;exact⟨q,h0,A,AB H J⟩
theorem GU.zero{b:Bool}{f a:Int}{t:Bool}(J:b=false)(hq:lo<=q)(hh:w.heap[q]?=some (.cells #[θ,θ,υ] 127 (0,0))):GU lo b (.pointer q) w f a t:=⟨q,rfl,hq,by rw[J];exact hh⟩
theorem dt{m:Φ}(h:Iz lo w g m i e c k)(au:lo<=w.heap.size)(hK:DZ k)(R:AT)(he:0<=R.e)(N:R.e<3)(hk:R.k=10∨R.k=11):
 Ξ prog 132 #[R.on g] w (Gk lo g w (PV k R)):=by
 have S0:=Em.start h au R;have C0:=AA (λW=>A4 (EY R.a W));have C1:=AA (λW=>A4 (Gy R.b W));have P:=Zc (k:=k) (c:=R);obtain⟨k1,e1,a1,b1,c1,nm⟩:=R;obtain⟨en,rfl⟩:∃n:Nat,e1=(n:Int):=⟨e1.toNat,by simp only at he;omega⟩
 have b9:en<3:=by simp only at N;omega
 simp only[AT.on,AT.onCells] at C0 C1 S0 P hk ⊢;simp only[yq] at P;obtain⟨ge,ao,e9,_,⟨⟨jr,jq⟩,jp,jo⟩,_⟩:=S0.Xr (by rw[hK.zX];omega);rw[hK.zX] at e9;obtain⟨gi,bt,e8,_,_,⟨⟨jn,jm⟩,jl,jk⟩,_⟩:=S0.Zh (by rw[hK.len];omega);rw[hK.len] at e8;obtain⟨gm,bs,e7,_,⟨kj,ki⟩,kh,kg⟩:=S0.mems (Aq hK).1;subst e7 e8 e9;obtain⟨y0,y1,y2,y3,y4,y5,y6⟩:=S0.ys;have Z:=AA hK;have HS:=AA S0;have CE:=AA (λW (hW:Γ (w.alloc (.cells #[.pointer g,k1,en,a1,b1,c1,nm] 97)).heap.size _ W)=>HS.callEnv (en:=en) rfl b9 W hW);simp only[AT.on,AT.onCells] at CE;clear hK h S0 au he N hk;obtain⟨st,hst⟩:∃b',(k1==11)=b':=⟨_,rfl⟩
 go_in;have iS:=AA hst;have n6:=AA P;clear hst P;go_upto_region 1 with fail;generalize hW0:w.alloc _=W0 at*;clear hW0;go_cut [4] (λs4 wx=>s4=.bool st/\wx=W0)
 case first=>
  cases tk:(k1==11)
  all_goals
   have TK:=iS.u;rw[tk] at TK;subst TK;go_wp2_with fail;go_meet
   case rel=>exact⟨rfl,rfl⟩
 case rest=>
 obtain⟨rfl,rfl⟩:=hcut;obtain⟨W0,rfl⟩:∃W0,W0=wc:=⟨_,rfl⟩
 go_wp2_with fail;refine(CE _ (yN _ _)).mono ?_;rintro r W1 ⟨rfl,be⟩;have S1:=AA (HS.below be);clear y0 y1 y2 y3 y4 y5 y6;obtain⟨y0,y1,y2,y3,y4,y5,y6⟩:=S1.ys;obtain⟨_,_,_,D1,_⟩:=S1.env (j:=en) (by rw[Z.zX];exact b9);obtain⟨rt,hrt⟩:∃r,(AH k.Xr en).root=r:=⟨_,rfl⟩
 have P:=n6.u;rw[hrt] at P D1;have HR:=AA hrt;clear n6;have HP:=AA P;obtain⟨bad,hbad⟩:∃b',decide (Bj a1 0 63=false∨rt<0∨(k1=11/\Dx b1=false))=b':=⟨_,rfl⟩
 have HB:=AA hbad;clear be P hrt hbad;go_upto_region 3 with fail;clear D1;go_cut [4,38] (λs4 ot wx=>s4=.bool st/\ot=.bool bad/\CS lo g w ⟨k1,(en:Int),a1,b1,c1,nm⟩ w wx (.slice gm 12 bs) (.slice gi 12 bt) (.slice ge 3 ao) c k)
 case first=>
  go_wp2_with fail;refine(C0 W1).mono ?_;rintro r w1 ⟨rfl,be⟩;have S2:=AA (S1.below be);clear y0 y1 y2 y3 y4 y5 y6 be;obtain⟨y0,y1,y2,y3,y4,y5,y6⟩:=S2.ys;cases e1:Bj a1 0 63
  .have E1:=AA e1
   clear e1;go_wp2_with fail;go_meet
   case rel=>exact⟨rfl,by rw[<-HB.u];simp[E1.u],S2.u⟩
  have E1:=AA e1;clear e1
  by_cases h0:rt<0
  .have H0:=AA h0
   go_wp2_with fail;go_meet
   case rel=>exact⟨rfl,by rw[<-HB.u];simp[H0.u],S2.u⟩
  have H0:=AA h0;cases tk:st
  .have TK:=AA (show k1≠11 by have:=iS.u;rw[tk] at this;simpa using this)
   go_wp2_with fail;go_meet
   case rel=>exact⟨by rw[tk],by rw[<-HB.u];simp[E1.u,H0.u,TK.u],S2.u⟩
  have TK:=AA (show k1=11 by have:=iS.u;rw[tk] at this;simpa using this);go_wp2_with fail;refine(C1 _).mono ?_;rintro r w2 ⟨rfl,ad⟩;have S3:=AA (S2.below ad);clear y0 y1 y2 y3 y4 y5 y6 ad;go_wp2_with fail;go_meet
  case rel=>exact⟨by rw[tk],by rw[<-HB.u];unfold Dx;cases hw:Bj b1 0 9999<;>simp[E1.u,H0.u,TK.u,hw],S3.u⟩
 case rest=>
 obtain⟨rfl,rfl,hS⟩:=hcut;obtain⟨W5,rfl⟩:∃W5,W5=wc:=⟨_,rfl⟩
 have S5:=AA hS;clear y0 y1 y2 y3 y4 y5 y6 hS S1;cases bad
 rotate_left
 .have hi:=AA (HP.trans (if_pos (of_decide_eq_true HB.u)))
  clear HP HB;go_wp2;go_ret2;exact Gk.bad hi ψ S5.bel
 go_wp2_with fail;have hD:=of_decide_eq_false HB.u;have ie:=HP.trans (if_neg hD);have ab:=Aa.1 (show Bj a1 0 63=true by cases e1:Bj a1 0 63;(· exact absurd (.inl e1) hD);(· rfl));obtain⟨Y,rfl⟩:∃n:Nat,a1=(n:Int):=⟨a1.toNat,ω⟩
 have bK:Y<64:=ω;obtain⟨rn,rfl⟩:∃n:Nat,rt=(n:Int):=⟨rt.toNat,by have:¬rt<0:=λx=>hD (.inr (.inl x));omega⟩
 have iu:rn<12:=by have:=zK Z b9;rw[HR.u] at this;omega
 simp only[yq] at ie;clear HP HB hD ab;have iT:=λW (hW:Γ W5 W5 W)=>Xh _ k.mem rn Y W (S5.yS.2.2.rd.1.below hW) (Aq Z.u).1 iu bK
 have fl:=Z.zb (e:=en) (a:=Y) b9 (by show(0:Int)<=(AH k.Xr en).root;rw[HR.u];omega);unfold JC Mb FW at iT;unfold Ab at fl;rw[HR.u] at fl;simp only[yq] at fl;obtain⟨a4,ha4e⟩:∃n,n=Y%4:=⟨_,rfl⟩
 simp only[<-ha4e] at iT;have nW:a4<4:=ω;rw[(ω:((Y:Int)%4).toNat=a4)] at ie;clear ha4e;generalize hwp:CU k.mem rn Y=x at*;obtain⟨cp,fp,wp⟩:=x;simp only at iT ie fl;obtain⟨y0,y1,y2,y3,y4,y5,y6⟩:=S5.ys;obtain⟨x0,_,_,_⟩:=S5.xs;obtain⟨jy,kD,kk,kl⟩:=S5.lts
 by_cases e7:cp=0
 rotate_left
 .have hi:=AA (ie.trans (if_pos e7))
  rw[if_neg e7] at iT;have CW:=AA iT;have qg:(cp !=0)=true:=by simp[e7]
  clear iT fl hwp e7 ie;refine Db 16 121 (λix=>ix==14) [.p w.heap.size 0,.p g 0,.p g 0,.p g 0,.s gm 12 bs,.i ((rn:Int)),.p w.heap.size 1,.p w.heap.size 3,.i ((Y:Int)),.v (.tuple #[.agg #[θ,θ,υ],cp]),.v (.tuple #[.agg #[θ,θ,υ],cp]),.a #[.int .i64 0,.int .i64 0,.bool false],.i cp,.z,.z,.i cp] (λll ix vv ww=>match ix with
   |13=>GU W5 (ll 14) vv ww (0) (0) false
   |_=>True) (λll ww=>Γ W5 W5 ww) ?_ ?_ ?_ ?_ ?_ ?_
  .exact Ap (yN _ _) 1
  .intro j hj ll i vv wz c5 E hS kV nO a7 hz
   match j,hj with
   |13,_=>exact(GU.below (by rw[Fg (by rintro rfl;cases hS)];exact hz) a7)
   |0,_|1,_|2,_|3,_|4,_|5,_|6,_|7,_|8,_|9,_|10,_|11,_|12,_|14,_|15,_=>exact hz
   |_+16,hq=>omega
  .intro ll i wz c5 E hS kV a7 K
   exact K.trans (a7.mono K.size)
  .intro i E hS o L a wx D ll z HL O hg Z
   have c8:=bc O jy y0;have c7:=bc O kD x0;have ec:=bc O jy y3
   match i,E,hS with
   |0,_,_|2,_,_|3,_,_|5,_,_|6,_,_|7,_,_|10,_,_|11,_,_|12,_,_|15,_,_=>exact Xn L Z D z HL
   |1,_,_=>exact Lb L Z D z HL (hl:=Oo ‹_›)
   |4,_,_=>exact Lb L Z D z HL (hl:=GZ ‹_›)
   |8,_,_=>exact Lb L Z D z HL (hl:=GO ‹_›)
   |9,_,_=>exact iF L Z D z HL (CW _ O)
   |14,_,hs=>cases hs
   |13,_,_=>clear c8 c7 ec;obtain rfl:=yP L;have lN:=Be HL 14;clear z D;refine yO ?_;go_simp;exact Z _ _ (GU.zero (by rw[Fg ψ];exact lN) O.size (yx _ _)) (AJ _ _)
   |_+16,hq,_=>omega
  .intro i E hS o L a wx D ll z HL O hg Z
   match i,E,hS with
   |0,_,hs|1,_,hs|2,_,hs|3,_,hs|4,_,hs|5,_,hs|6,_,hs|7,_,hs|8,_,hs|9,_,hs|10,_,hs|11,_,hs|12,_,hs|13,_,hs|15,_,hs=>cases hs
   |14,_,_=>
    obtain rfl:=yP L;have jd:GU W5 (ll 14) (a.tmps[6]?.getD Θ) wx (0) (0) false:=Dc z HL 13;have iQ:(a.tmps[50]?.getD Θ)=.agg #[θ,θ,υ]:=Dc z HL 11;clear z D;obtain⟨q,mI,jY,b6⟩:=jd;rw[HL.1] at b6;replace b6:wx.heap[q]?=some (.cells #[θ,θ,υ] 127 (0,0)):=b6;have c0:=yy _ _ 0 _ _ _ b6;have pl:=yy _ _ 1 _ _ _ b6;have c2:=yy _ _ 2 _ _ _ b6;have fq:=AI b6;have Pl:=AA (QD (W:=W5) (a:=.int .i64 0) (b:=.int .i64 0) (c:=.bool false) b6 O jY);have mT:=AA mI;clear b6;refine yO ?_;go_simp;exact Z Θ _ trivial Pl.2 (λj nA kA ex hu=>match j,kA with
     |0,_|1,_|2,_|3,_|4,_|5,_|6,_|7,_|8,_|9,_|10,_|11,_|12,_|14,_|15,_=>hu
     |13,_=>⟨q,mT.u,jY,by rw[Gh];exact Pl.1⟩
     |_+16,hq=>absurd hq ω)
   |_+16,hq,_=>omega
  intro V wx ll cC hR O
  have ft:(V 11)=.agg #[θ,θ,υ]:=Bh hR 11;have ef:(V 12)=.int .i64 cp:=Bh hR 12;have b8:GU W5 (ll 14) (V 13) wx (0) (0) false:=Bh hR 13;have ic:(V 15)=.int .i64 cp:=Bh hR 15;clear hR;simp only[DV,Bo,yL,yI,yJ,yH,ft,ef,ic];simp;generalize V 13=z13 at b8 ⊢;clear ft ef ic;have S6:=AA (S5.below O);clear x0 y0 y1 y2 y3 y4 y5 y6 O cC b8;go_wp2;go_ret2;exact Gk.bad hi ψ S6.bel
 subst e7;simp only[if_true] at iT;have CW:=AA iT;have lD:=AA (fl rfl).1;have j8:=AA (ie.trans (if_neg χ));clear iT fl hwp ie;refine Db 16 121 (λix=>ix==14) [.p w.heap.size 0,.p g 0,.p g 0,.p g 0,.s gm 12 bs,.i ((rn:Int)),.p w.heap.size 1,.p w.heap.size 3,.i ((Y:Int)),.v (.tuple #[.agg #[fp,a4,wp],θ]),.v (.tuple #[.agg #[fp,a4,wp],θ]),.a #[.int .i64 fp,.int .i64 a4,.bool wp],.i 0,.z,.z,.i 0] (λll ix vv ww=>match ix with
  |13=>GU W5 (ll 14) vv ww ((fp:Int)) ((a4:Int)) wp
  |_=>True) (λll ww=>Γ W5 W5 ww) ?_ ?_ ?_ ?_ ?_ ?_
 .exact Ap (yN _ _) 1
 .intro j hj ll i vv wz c5 E hS kV nO a7 hz
  match j,hj with
  |13,_=>exact(GU.below (by rw[Fg (by rintro rfl;cases hS)];exact hz) a7)
  |0,_|1,_|2,_|3,_|4,_|5,_|6,_|7,_|8,_|9,_|10,_|11,_|12,_|14,_|15,_=>exact hz
  |_+16,hq=>omega
 .intro ll i wz c5 E hS kV a7 K
  exact K.trans (a7.mono K.size)
 .intro i E hS o L a wx D ll z HL O hg Z
  have c8:=bc O jy y0;have c7:=bc O kD x0;have ec:=bc O jy y3
  match i,E,hS with
  |0,_,_|2,_,_|3,_,_|5,_,_|6,_,_|7,_,_|10,_,_|11,_,_|12,_,_|15,_,_=>exact Xn L Z D z HL
  |1,_,_=>exact Lb L Z D z HL (hl:=Oo ‹_›)
  |4,_,_=>exact Lb L Z D z HL (hl:=GZ ‹_›)
  |8,_,_=>exact Lb L Z D z HL (hl:=GO ‹_›)
  |9,_,_=>exact iF L Z D z HL (CW _ O)
  |14,_,hs=>cases hs
  |13,_,_=>clear c8 c7 ec;obtain rfl:=yP L;have lN:=Be HL 14;clear z D;refine yO ?_;go_simp;exact Z _ _ (GU.zero (by rw[Fg ψ];exact lN) O.size (yx _ _)) (AJ _ _)
  |_+16,hq,_=>omega
 .intro i E hS o L a wx D ll z HL O hg Z
  match i,E,hS with
  |0,_,hs|1,_,hs|2,_,hs|3,_,hs|4,_,hs|5,_,hs|6,_,hs|7,_,hs|8,_,hs|9,_,hs|10,_,hs|11,_,hs|12,_,hs|13,_,hs|15,_,hs=>cases hs
  |14,_,_=>
   obtain rfl:=yP L;have jd:GU W5 (ll 14) (a.tmps[6]?.getD Θ) wx ((fp:Int)) ((a4:Int)) wp:=Dc z HL 13;have iQ:(a.tmps[50]?.getD Θ)=.agg #[fp,a4,wp]:=Dc z HL 11;clear z D;obtain⟨q,mI,jY,b6⟩:=jd;rw[HL.1] at b6;replace b6:wx.heap[q]?=some (.cells #[θ,θ,υ] 127 (0,0)):=b6;have c0:=yy _ _ 0 _ _ _ b6;have pl:=yy _ _ 1 _ _ _ b6;have c2:=yy _ _ 2 _ _ _ b6;have fq:=AI b6;have Pl:=AA (QD (W:=W5) (a:=.int .i64 fp) (b:=.int .i64 a4) (c:=.bool wp) b6 O jY);have mT:=AA mI;clear b6;refine yO ?_;go_simp;exact Z Θ _ trivial Pl.2 (λj nA kA ex hu=>match j,kA with
    |0,_|1,_|2,_|3,_|4,_|5,_|6,_|7,_|8,_|9,_|10,_|11,_|12,_|14,_|15,_=>hu
    |13,_=>⟨q,mT.u,jY,by rw[Gh];exact Pl.1⟩
    |_+16,hq=>absurd hq ω)
  |_+16,hq,_=>omega
 intro V wx ll cC hR O
 have ft:(V 11)=.agg #[fp,a4,wp]:=Bh hR 11;have ef:(V 12)=.int .i64 0:=Bh hR 12;have b8:GU W5 (ll 14) (V 13) wx ((fp:Int)) ((a4:Int)) wp:=Bh hR 13;have ic:(V 15)=.int .i64 0:=Bh hR 15;clear hR;simp only[DV,Bo,yL,yI,yJ,yH,ft,ef,ic];simp;generalize V 13=z13 at b8 ⊢;clear ft ef ic;obtain⟨q,rfl,jY,b6⟩:=b8;rw[cC 14 ψ] at b6;replace b6:wx.heap[q]?=some (.cells #[fp,a4,wp] 127 (0,0)):=b6;have S6:=AA (S5.below O);have lv:=AA b6;clear x0 y0 y1 y2 y3 y4 y5 y6 O cC;obtain⟨W6,rfl⟩:∃W6:Ω,W6=wx:=⟨_,rfl⟩
 have oj:=yy _ _ 2 _ _ _ b6;clear b6;go_upto_region 8 with fail;go_cut [4,55] (λs4 oq wx=>s4=.bool st/\oq=.bool (st&&!wp)/\wx=W6)
 case first=>
  cases tk:st
  all_goals
   go_wp2_with fail;go_meet
   case rel=>exact⟨by rw[tk],by rw[tk];rfl,rfl⟩
 case rest=>
 obtain⟨rfl,rfl,rfl⟩:=hcut;obtain⟨W6,rfl⟩:∃w8,w8=wc:=⟨_,rfl⟩
 clear oj;cases ad:(st&&!wp)
 rotate_left
 .have hi:=AA (j8.trans (if_pos (by have:=iS.u;subst this;simpa using ad)))
  go_wp2;go_ret2;exact Gk.bad hi ψ S6.bel
 have ie:=j8.trans (if_neg (by have:=iS.u;subst this;simpa using ad));have j8:=AA ie;clear ie ad;go_wp2_with fail;obtain⟨y0,_,_,y3,y4,_,_⟩:=S6.ys;obtain⟨x0,_,_,_⟩:=S6.xs;obtain⟨gw,bp,lK,jZ,nJ,Dj,iO,⟨⟨ke,kd⟩,kc,kb⟩,_,_,_⟩:=S6.mrow (Aq Z.u).1 (f:=fp) lD.u;have z0:=yw (yy _ _ 0 _ _ _ lv.u);have z1:=yw (yy _ _ 1 _ _ _ lv.u);replace y0:=yw y0;replace x0:=yw x0;have Dw:=yw lK;have cz:(fp:Int)<12:=by have:=lD.u;omega
 have p5:(a4:Int)<4:=ω;have iJ:=S6.lts.1;have HD:=AA Dj;clear Dj iO;refine Ba ?_
 repeat(go_big_quiet_step (fail))
 refine BZ λwq bq=>?_
 clear z0 z1 y0 x0 Dw;have S7:=AA (S6.below bq);have kS:=AA (AB lv bq);have Dv:=(bq.cell (p:=⟨gw,a4,none⟩) jZ).trans (HD a4 nW);replace y3:=(bq.cell (p:=⟨w,3,none⟩) iJ).trans y3;replace y4:=(bq.cell (p:=⟨w,4,none⟩) iJ).trans y4;obtain⟨ly,jf,lJ,_,_,_,kX,_,_,ls,lC⟩:=S7.mrow (Aq Z.u).1 (f:=fp) lD.u;have ei:=(bq.cell (p:=⟨gm,fp,none⟩) (yK _ _ lK)).trans lK;rw[ei] at lJ;have ln:gw=ly:=by simp at lJ;exact lJ.1
 subst ln;have lC:=AA lC;have ls:=AA ls;obtain⟨W7,rfl⟩:∃W7:Ω,W7=wq:=⟨_,rfl⟩
 clear bq HD lJ lK ei lv S6 jZ;go_upto_if 77 with fail;go_cut [4,9] (λs4 s9 wx=>s4=.bool st/\∃M val,s9=.int .i64 val/\PV k ⟨k1,(en:Int),(Y:Int),b1,c1,nm⟩=({k with mem:=M,Xo:=Kp k.Xo (en:Int) ((Y:Int)/4) fp wp},val,0)/\CS lo g w ⟨k1,(en:Int),(Y:Int),b1,c1,nm⟩ w wx (.slice gm 12 bs) (.slice gi 12 bt) (.slice ge 3 ao) c {k with mem:=M}/\wx.heap[q]?=some (.cells #[fp,a4,wp] 127 (0,0)))
 case first=>
  cases tk:st
  .have TK:=AA (show ¬k1=11 by have:=iS.u;rw[tk] at this;simpa using this)
   have SS:=AA S7.u;go_wp2_with fail;go_meet
   case rel=>exact⟨by rw[tk],k.mem,Aw k.mem fp a4,rfl,j8.trans (if_neg TK.u),SS.u,kS.u⟩
  have TK:=AA (show k1=11 by have:=iS.u;rw[tk] at this;simpa using this);have pm:=AA (lC a4 b1 nW);have pd:=AA (At kS (Ak W7 gw a4 (.int .i64 b1)) (ls q _ _ kS ψ));have qf:=kX a4;go_wp2_with fail;go_meet
  case rel=>exact⟨by rw[tk],Cn k.mem fp a4 b1,0,rfl,j8.trans (if_pos TK.u),pm.u,pd.u⟩
 case rest=>
 obtain⟨rfl,M,val,rfl,nq,s7,n7⟩:=hcut;have lH:=AA nq;have S7:=AA s7;have kS:=AA n7;clear nq s7 n7 j8 y3 y4 Dv kX lC ls;obtain⟨W7,rfl⟩:∃W7:Ω,W7=wc:=⟨_,rfl⟩
 obtain⟨_,_,_,y3,_,_,_⟩:=S7.ys;have p3:(0:Int)<=(Y:Int):=ω;go_wp2_with fail;clear y3;obtain⟨y0,_,y2,y3,_,_,_⟩:=S7.ys;obtain⟨_,_,_,x3⟩:=S7.xs;obtain⟨kx,jA,_,_⟩:=S7.lts;have RC:Do W7 c k.Xo:=S7.yS.2.2.2.2.2.rd;have CF:=AA (λW (hW:Γ W7 W7 W)=>Rp c k.Xo (en:Int) ((Y:Int)/4) W (BK.below RC hW));clear RC;refine Ac 10 121 [.p w.heap.size 0,.p g 0,.p g 0,.p g 3,.v c,.p w.heap.size 1,.p w.heap.size 2,.i ((en:Int)),.i (((Y:Int)/4)),.i (IG k.Xo (en:Int) ((Y:Int)/4))] (λ_ _ _=>True) ?_ ?_
 .intro i E o L a wx D z O hg Z
  match i,E with
  |0,_|2,_|3,_|5,_|6,_|8,_=>exact sP L Z D z
  |1,_=>exact sL L Z D z (hl:=Oo (bc O kx y0))
  |4,_=>exact sL L Z D z (hl:=Yb (bc O jA x3))
  |7,_=>exact sL L Z D z (hl:=GO (bc O kx y2))
  |9,_=>exact sD L Z D z (CF _ O)
 intro V wx hR O
 have q9:(V 9)=.int .i64 (IG k.Xo (en:Int) ((Y:Int)/4)):=Bh hR 9;clear hR;simp only[Ai,Ae,yL,yI,yJ,yH,q9];simp;clear q9;have S8:=AA (S7.below O);have pw:=AA (O);clear y0 y2 y3 x3 O
 by_cases nG:IG k.Xo (en:Int) ((Y:Int)/4)<0
 rotate_left
 .have HU:=AA (show Kp k.Xo (en:Int) ((Y:Int)/4) fp wp=k.Xo by unfold Kp;rw[if_neg nG])
  go_wp2;go_ret2;exact⟨by rw[lH.u]<;>rfl,λ_=>⟨_,_,_,_,by rw[lH.u,HU.u];exact S8.yS⟩,S8.bel⟩
 have HU:=AA (show Kp k.Xo (en:Int) ((Y:Int)/4) fp wp=Ju k.Xo ⟨(en:Int),((Y:Int)/4),(fp:Int),wp⟩ by unfold Kp;rw[if_pos nG])
 obtain⟨W8,rfl⟩:∃W8:Ω,W8=wx:=⟨_,rfl⟩
 have lu:=AB kS pw.u;obtain⟨y0,_,y2,y3,_,_,_⟩:=S8.ys;obtain⟨_,_,_,x3⟩:=S8.xs;obtain⟨nw,jz,kk,kl⟩:=S8.lts;have nn:=AU lu;have m8:=yy _ _ 0 _ _ _ lu;have m7:=yy _ _ 2 _ _ _ lu;have RC:Do W8 c k.Xo:=S8.yS.2.2.2.2.2.rd;have nL:CQ ⟨(en:Int),((Y:Int)/4),(fp:Int),wp⟩=true:=by have:=lD.u;simp only[CQ,yD,Aa];omega
 have CP:=AA (λW (hW:Γ W8 W8 W)=>VF c k.Xo ⟨(en:Int),((Y:Int)/4),(fp:Int),wp⟩ W (BK.below RC hW) (Aq Z.u).2.2 nL);simp only[Ag.val] at CP;clear RC nL lu;go_wp2_with fail;refine Db 23 121 (λix=>ix==22) [.p w.heap.size 0,.p g 0,.p w.heap.size 0,.p g 0,.p g 0,.p g 3,.v c,.p w.heap.size 1,.p w.heap.size 2,.i ((en:Int)),.i (((Y:Int)/4)),.p q 0,.i ((fp:Int)),.p q 2,.b wp,.a #[.int .i64 en,.int .i64 (((Y:Int)/4)),.int .i64 fp,.bool wp],.z,.z,.z,.b true,.p g 0,.p g 3,.z] (λll ix vv ww=>match ix with
  |16|17=>∃v',vv=.tuple #[v',τ]/\AQ W8.heap.size 125 4 AY ww v' (Ju k.Xo ⟨(en:Int),((Y:Int)/4),(fp:Int),wp⟩)
  |18=>AQ W8.heap.size 125 4 AY ww vv (Ju k.Xo ⟨(en:Int),((Y:Int)/4),(fp:Int),wp⟩)
  |_=>True) (λll ww=>Zd W8 lo g w ⟨k1,(en:Int),(Y:Int),b1,c1,nm⟩ w (.slice gm 12 bs) (.slice gi 12 bt) (.slice ge 3 ao) {k with mem:=M,Xo:=(Ju k.Xo ⟨(en:Int),((Y:Int)/4),(fp:Int),wp⟩)} (ll 22) ww) ?_ ?_ ?_ ?_ ?_ ?_
 .exact Ap (yN _ _) 1
 .intro j hj ll i vv wz c5 E hS kV nO a7 hz
  match j,hj with
  |16,_|17,_=>exact(by obtain⟨v',h0,A⟩:=hz;exact⟨v',h0,AQ.below A a7⟩)
  |18,_=>exact(AQ.below hz a7)
  |0,_|1,_|2,_|3,_|4,_|5,_|6,_|7,_|8,_|9,_|10,_|11,_|12,_|13,_|14,_|15,_|19,_|20,_|21,_|22,_=>exact hz
  |_+23,hq=>omega
 .intro ll i wz c5 E hS kV a7 K
  show Zd _ _ _ _ _ _ _ _ _ _ (Hz ll i 22) _
  rw[Fg (by rintro rfl;cases hS)];exact Zd.grow K a7
 .intro i E hS o L a wx D ll z HL O hg Z
  match i,E,hS with
  |0,_,_|2,_,_|4,_,_|5,_,_|7,_,_|8,_,_|10,_,_|11,_,_|13,_,_|15,_,_|20,_,_|21,_,_=>exact Xn L Z D z HL
  |1,_,_|3,_,_=>have eL:=Be HL 22;rw[eL] at O;replace O:Γ W8 W8 wx:=O;have c8:=bc O nw y0;exact Lb L Z D z HL (hl:=Oo ‹_›)
  |6,_,_=>have eL:=Be HL 22;rw[eL] at O;replace O:Γ W8 W8 wx:=O;have c7:=bc O jz x3;exact Lb L Z D z HL (hl:=Yb ‹_›)
  |9,_,_=>have eL:=Be HL 22;rw[eL] at O;replace O:Γ W8 W8 wx:=O;have ec:=bc O nw y2;exact Lb L Z D z HL (hl:=GO ‹_›)
  |12,_,_=>have eL:=Be HL 22;rw[eL] at O;replace O:Γ W8 W8 wx:=O;have iW:=bc O nn m8;exact Lb L Z D z HL (hl:=GO ‹_›)
  |14,_,_=>have eL:=Be HL 22;rw[eL] at O;replace O:Γ W8 W8 wx:=O;have iV:=bc O nn m7;exact Lb L Z D z HL (hl:=iI ‹_›)
  |22,_,hs=>cases hs
  |16,_,_=>obtain rfl:=yP L;have d6:(a.tmps[105]?.getD Θ)=c:=Dc z HL 6;have qi:(a.tmps[114]?.getD Θ)=.agg #[en,.int .i64 (((Y:Int)/4)),fp,wp]:=Dc z HL 15;have eL:=Be HL 22;rw[eL] at O;replace O:Γ W8 W8 wx:=O;clear z D;refine yO ?_;go_simp;refine(CP _ O).mono ?_;rintro e w_ ⟨v',rfl,hO,ad⟩;exact Z _ _ ⟨_,rfl,hO.lower O.size⟩ ad
  |17,_,_=>
   obtain rfl:=yP L;have nV:∃v',(a.tmps[115]?.getD Θ)=.tuple #[v',τ]/\AQ W8.heap.size 125 4 AY wx v' (Ju k.Xo ⟨(en:Int),((Y:Int)/4),(fp:Int),wp⟩):=Dc z HL 16
   have eL:=Be HL 22;rw[eL] at O;replace O:Γ W8 W8 wx:=O;clear z D;obtain⟨v',nV,hO⟩:=nV;refine yO ?_;go_simp;exact Z _ _ ⟨_,rfl,hO⟩ (yN _ _)
  |18,_,_=>
   obtain rfl:=yP L;have kZ:∃v',(a.tmps[98]?.getD Θ)=.tuple #[v',τ]/\AQ W8.heap.size 125 4 AY wx v' (Ju k.Xo ⟨(en:Int),((Y:Int)/4),(fp:Int),wp⟩):=Dc z HL 17
   have eL:=Be HL 22;rw[eL] at O;replace O:Γ W8 W8 wx:=O;clear z D;obtain⟨v',kZ,hO⟩:=kZ;refine yO ?_;go_simp;exact Z _ _ hO (yN _ _)
  |19,_,_=>
   obtain rfl:=yP L;have kZ:∃v',(a.tmps[98]?.getD Θ)=.tuple #[v',τ]/\AQ W8.heap.size 125 4 AY wx v' (Ju k.Xo ⟨(en:Int),((Y:Int)/4),(fp:Int),wp⟩):=Dc z HL 17
   clear z D;obtain⟨v',kZ,hO⟩:=kZ;refine yO ?_;go_simp;exact Z _ _ rfl (yN _ _)
  |_+23,hq,_=>omega
 .intro i E hS o L a wx D ll z HL O hg Z
  match i,E,hS with
  |0,_,hs|1,_,hs|2,_,hs|3,_,hs|4,_,hs|5,_,hs|6,_,hs|7,_,hs|8,_,hs|9,_,hs|10,_,hs|11,_,hs|12,_,hs|13,_,hs|14,_,hs|15,_,hs|16,_,hs|17,_,hs|18,_,hs|19,_,hs|20,_,hs|21,_,hs=>cases hs
  |22,_,_=>
   obtain rfl:=yP L;have nT:(a.tmps[119]?.getD Θ)=.pointer (some ⟨g,3,none⟩):=Dc z HL 21;have lA:AQ W8.heap.size 125 4 AY wx (a.tmps[116]?.getD Θ) (Ju k.Xo ⟨(en:Int),((Y:Int)/4),(fp:Int),wp⟩):=Dc z HL 18;clear z D;rw[HL.1] at O;replace O:Γ W8 W8 wx:=O;have mZ:=(S8.below O).xs.2.2.2;have lz:=AI (S8.below O).yS.1;generalize e116:a.tmps[116]?.getD Θ=v16 at lA;have S9:=AA (S8.Xo O lA);obtain⟨_,_,rfl,_,_⟩:=lA.rd.shape;clear lA;refine yO ?_;go_simp;exact Z Θ _ trivial (by rw[Gh];exact⟨_,S9.u⟩) (λj nA kA ex hu=>match j,kA with
    |0,_|1,_|2,_|3,_|4,_|5,_|6,_|7,_|8,_|9,_|10,_|11,_|12,_|13,_|14,_|15,_|19,_|20,_|21,_|22,_=>hu
    |16,_|17,_=>(by obtain⟨v',h0,A⟩:=hu;exact⟨v',h0,Sw A jz⟩)
    |18,_=>Sw hu jz
    |_+23,hq=>absurd hq ω)
  |_+23,hq,_=>omega
 intro V wx ll cC hR O
 clear hR;simp only[DV,Bo,yL,yI,yJ,yH];simp;rw[cC 22 ψ] at O;obtain⟨c',S9⟩:=O;have S9:=AA S9;clear cC y0 y2 y3 x3 m8 m7;go_wp2;go_ret2;exact⟨by rw[lH.u]<;>rfl,λ_=>⟨_,_,_,_,by rw[lH.u,HU.u];exact S9.yS⟩,S9.bel⟩
def Ei(k:AR)(a j:Nat):List Nat:=(yL j).filter λe=>(Bg k.mem (AH k.Xr e).root).contains a
theorem ZB (h:(Bg k.mem (AH k.Xr j).root).contains a=false):Ei k a (j+1)=Ei k a j:=by unfold Ei;rw[xH,wD];simp only[vN,h,vk];simp
theorem Xe (h:(Bg k.mem (AH k.Xr j).root).contains a=true):Ei k a (j+1)=Ei k a j++[j]:=by unfold Ei;rw[xH,wD];simp only[vN,h,vk];simp
theorem Mm:(Ei k a j).length<=j:=by unfold Ei;exact yM (xv _ _) χ
theorem ZA{e:Nat}(h:e∈Ei k a j):e<j:=yi.1 (wK.1 h).1
theorem Jk:Ei k a 3=Gi k a:=rfl
theorem Tx{ts l:List Nat}(h:∀g,g∈ts↔g∈l):(A5 ts).contains (a:Int)=l.contains a:=by rw[wW,vF,vF,Lk,h]
def IT(es:List Nat)(c:List Ag):List Ag:=es.foldl (λc e=>Gm c (e:Nat)) c
theorem Ub{c:List Ag}(es:List Nat)(h:Bk c=true):Bk (IT es c)=true:=Wf h
theorem QO{es:List Nat}{c:List Ag}(h:j<es.length):IT (es.take (j+1)) c=Gm (IT (es.take j) c) ((es.getD j 0:Nat):Int):=by unfold IT;rw[DA (A6 (d:=0) h),vG];rfl
theorem ey{c:AT}:Ik k c=
 if Bp (JR k.Zh c.a.toNat).k=false∨Bj c.b 0 3=false∨EN k c=false then(k,0,3)
 else if(Gi k c.a.toNat).all (λe=>BM k.Zh (Ds k c.c) (AH k.Xr e).Pj)=false then(k,0,1)
 else if Bv c.c=true/\Ff k c.e (JR k.Zh (BP c.c)).g=false then(k,0,1)
 else({k with mem:=Cn k.mem c.a.toNat c.b.toNat c.c,Zh:=BD (BD k.Zh (Aw k.mem c.a.toNat c.b.toNat) (-1)) c.c 1,Xo:=IT (Gi k c.a.toNat) k.Xo},0,0):=rfl
theorem OK{Zh:List AX}(h:BG Zh=true):KL Zh 50:=by
 intro f hf;have:=(A2.1 h).2 f (by rw[<-(A2.1 h).1];exact hf);unfold Dk at this;simp only[xM,yD,decide_eq_true_eq,Aa] at this
 rcases this with h|h
 .rw[h];decide
 omega
theorem KL.refer{Zh:List AX}{b x n:Int}(h:KL Zh b)(hl:Zh.length=12)(N:n=1∨n= -1):KL (BD Zh x n) (b+1):=by
 intro f hf;rw[Cv] at hf;have:=h f hf;rw[GL hl]
 show -(b+1)<=(JR Zh f).r+n*((Ee (EG f x):Nat):Int)/\(JR Zh f).r+n*((Ee (EG f x):Nat):Int)<=b+1
 unfold Ee
 split<;>rcases N with rfl|rfl<;>omega
theorem KL.mono{Zh:List AX}{b b':Int}(h:KL Zh b)(J:b<=b'):KL Zh b':=λf hf=>by have:=h f hf;omega
theorem QC{xs:List Int}(h:AE lo w v xs)(K:g<lo):AE lo (w.setCell (g,j) u) v xs:=
 Au h (Ak w g j u) (by
  rcases hv:v.ownBlock with _|b
  .exact .inl rfl
  refine .inr λe=>?_
  cases e;have:=(yC h g hv).1;omega)
theorem Em.refer{m:Φ}(h:CS lo g b0 R w W m (.slice gi 12 ao) e c k)(x n:Int)(hx:x<=9223372036854775807)(hl:k.Zh.length=12)(N:n=1∨n= -1)(hs:KL k.Zh 1000):
 Ξ prog 222 #[R.on g,.int .i64 x,.int .i64 n] W λr w'=>r=.returned (.tuple #[])/\CS lo g b0 R w w' m (.slice gi 12 ao) e c {k with Zh:=BD k.Zh x n}/\W.grownBy w' (some gi):=by
 have mP:=AA (AJ W (.cells (R.onCells g) 97));obtain⟨hn,J⟩:=EU W (.cells (R.onCells g) 97);have A:=h.below J;have hD: -1<=n/\n<=1:=ω;have CE:=AA (λW=>Fk x W hx);have m9:=A.zp A.yS.2.2.2.1 rfl ψ ψ;obtain⟨fy,b5⟩:=A7 A.yS.2.2.2.1 gi rfl;have kF:gi≠W.heap.size:=by have:=h.zx;omega
 have kM:W.heap.size≠gi:=kF.symm;have ln:g≠W.heap.size:=by have:=h.lts.2.1;omega
 obtain⟨k1,e1,a1,b1,c1,lS⟩:=R;simp only[AT.on,AT.onCells] at hn J A mP ⊢;obtain⟨y0,y1,y2,y3,y4,y5,y6⟩:=Ep (c:=⟨k1,e1,a1,b1,c1,lS⟩) hn;cases K:Bv x
 .have vs:=AA (Et K)
  have S:=AA (show BD k.Zh x n=k.Zh by simp[BD,K]);have H1:=AA A;clear K h A hs N y0 y1 y2 y3 y4 y5 y6 hn hl m9 b5;go_in;go_wp2_with (go_at_call 158;refine(CE _).mono ?_;rintro e w' ⟨rfl,rfl⟩;rw[vs.u]);go_returns;exact⟨rfl,by rw[S.u];exact H1.u,AW mP _⟩
 have hF:=Ef K
 have vs:=AA (En K);have S:=AA (show BD k.Zh x n=Ao k.Zh (BP x) (JI n) by unfold BD;rw[K,if_pos rfl]);generalize BP x=f at*;have i9:f<k.Zh.length:=ω;obtain⟨s1,s2⟩:=hs f i9;obtain⟨_,_,d2⟩:=A.JR i9;have T:=AA (A.info hl.symm i9 n);have x1:=A.xs.2.1;have Fr:=A.fzi (f*3+2);have mn:(f:Int)<12:=ω;clear K h A hs N hn y1 y2 y3 y4 y5 y6 hl m9 b5;go_in;go_wp2_with (go_at_call 158;refine(CE _).mono ?_;rintro e w' ⟨rfl,rfl⟩;rw[vs.u]);go_returns;exact⟨rfl,by rw[S.u];exact T.u,AO (AW mP _) (Ak _ _ _ _)⟩
theorem dk{m:Φ}(h:Iz lo w g m i e c k)(au:lo<=w.heap.size)(hK:DZ k)(R:AT)(he:0<=R.e)(N:R.e<3)(ha:0<=R.a/\R.a<12)(jb:R.c<=9223372036854775807):
 Ξ prog 183 #[R.on g] w (ED lo g w (Ik k R)):=by
 have S0:=Em.start h au R;have P:=ey (k:=k) (c:=R);obtain⟨k1,e1,a1,b1,c1,nm⟩:=R;obtain⟨en,rfl⟩:∃n:Nat,e1=(n:Int):=⟨e1.toNat,by simp only at he;omega⟩
 obtain⟨Y,rfl⟩:∃n:Nat,a1=(n:Int):=⟨a1.toNat,by simp only at ha;omega⟩
 have b9:en<3:=by simp only at N;omega
 have bK:Y<12:=by simp only at ha;omega
 simp only[AT.on,AT.onCells] at S0 P jb ⊢;simp only[yq] at P;obtain⟨ge,ao,e9,_,⟨⟨jr,jq⟩,jp,jo⟩,_⟩:=S0.Xr (by rw[hK.zX];omega);rw[hK.zX] at e9;obtain⟨gi,bt,e8,_,_,⟨⟨jn,jm⟩,jl,jk⟩,_⟩:=S0.Zh (by rw[hK.len];omega);rw[hK.len] at e8;obtain⟨gm,bs,e7,_,⟨kj,ki⟩,kh,kg⟩:=S0.mems (Aq hK).1;subst e7 e8 e9;obtain⟨y0,y1,y2,y3,y4,y5,y6⟩:=S0.ys;have Z:=AA hK;have HS:=AA S0;have HP:=AA P;have p4:(Y:Int)<12:=ω;have oi:=AA (λW=>Fk c1 W jb);replace y3:=yw y3;replace y4:=yw y4;replace y5:=yw y5;clear hK h S0 au he N P y0 y1 y2 y6 ha;go_in;go_wp2_with fail;generalize w.alloc _=W0 at*;refine Ba ?_
 repeat(go_big_quiet_step (fail))
 refine BZ λwq bq=>?_
 clear y3 y4 y5;have S2:=AA (HS.below bq);obtain⟨W2,rfl⟩:∃W2:Ω,W2=wq:=⟨_,rfl⟩
 clear bq;obtain⟨y0,_,_,_,_,_,_⟩:=S2.ys;obtain⟨x0,x1,_,_⟩:=S2.xs;obtain⟨d0,_,_⟩:=S2.JR (f:=Y) (by rw[Z.len];exact bK);have cT:=WT (w1:=W2) (λW=>GR (JR k.Zh Y).k W);have cP:=WT (w1:=W2) (λW=>QQ b1 W);have cN:=WT (w1:=W2) (λW=>MI (JR k.Zh Y).k W);cases K:Bv c1
 focus
  have vs:=AA (Et K);have jO:=AA K;have nt:Ds k c1=[]:=by unfold Ds;rw[K];rfl
  have pp:=AA nt;have iY:EN k ⟨k1,(en:Int),(Y:Int),b1,c1,nm⟩=decide (c1=0):=by unfold EN;rw[K];rfl
  clear K nt;go_wp2_with (go_at_call 158;refine(oi _).mono ?_;rintro e w' ⟨rfl,rfl⟩;rw[vs.u]);clear x1 d0 y0 x0;cases ht:Bp (JR k.Zh Y).k
  .rw[ht] at cT
   have hi:=AA (show Ik k ⟨k1,(en:Int),(Y:Int),b1,c1,nm⟩=(k,0,3) by rw[HP.u,if_pos (.inl ht)]);refine Ba ?_
   repeat(go_big_quiet_step (first|exact cT _ _|exact cP _ _|exact cN _ _))
   refine BZ λwq bq=>?_
   go_wp2;go_ret;exact ED.bad hi ψ (S2.below bq).bel
  rw[ht] at cT;cases J:Bj b1 0 3
  .rw[J] at cP
   have hi:=AA (show Ik k ⟨k1,(en:Int),(Y:Int),b1,c1,nm⟩=(k,0,3) by rw[HP.u,if_pos (.inr (.inl J))]);refine Ba ?_
   repeat(go_big_quiet_step (first|exact cT _ _|exact cP _ _|exact cN _ _))
   refine BZ λwq bq=>?_
   go_wp2;go_ret;exact ED.bad hi ψ (S2.below bq).bel
  rw[J] at cP
  by_cases h0:c1=0
  rotate_left
  .have t0:(c1 !=0)=true:=by simp[h0]
   have hi:=AA (show Ik k ⟨k1,(en:Int),(Y:Int),b1,c1,nm⟩=(k,0,3) by rw[HP.u,if_pos (.inr (.inr (by rw[iY];simp[h0])))]);refine Ba ?_
   repeat(go_big_quiet_step (first|exact cT _ _|exact cP _ _|exact cN _ _))
   refine BZ λwq bq=>?_
   go_wp2;go_ret;exact ED.bad hi ψ (S2.below bq).bel
  have t0:(c1 !=0)=false:=by simp[h0]
  have c4:=AA (show Ik k ⟨k1,(en:Int),(Y:Int),b1,c1,nm⟩=_ by rw[HP.u,if_neg (by rintro(x|x|x);(· rw[ht] at x;cases x);(· rw[J] at x;cases x);(· rw[iY,h0] at x;cases x))]);obtain⟨bn,rfl⟩:∃n:Nat,b1=(n:Int):=⟨b1.toNat,by have:=(Aa.1 J).1;omega⟩
  have bA:bn<4:=by have:=(Aa.1 J).2;omega
  simp only[yq] at c4;have qm:=AA h0;clear iY ht J h0;refine Ba ?_
  repeat(go_big_quiet_step (first|exact cT _ _|exact cP _ _|exact cN _ _))
  refine BZ λwq bq=>?_
  clear cT cP cN t0;have S5:=AA (S2.below bq);obtain⟨W5,rfl⟩:∃W5:Ω,W5=wq:=⟨_,rfl⟩
  clear bq S2;have k6:=AA (xy W5 W5.heap.size 3 1);have k6:eh (AE W5 W5 (.slice none 0 0) (A5 [])):=AA k6.u;obtain⟨ts,hts⟩:∃ts:List Nat,ts=[]:=⟨_,rfl⟩
  have Hm:=AA (show ∀g,g∈ts↔g∈Ds k c1 by rw[hts,pp.u];exact λ_=>Iff.rfl);have Ht:=AA (show ∀g,g∈ts->g<12 by rw[hts];intro g K;cases K);rw[<-hts] at k6;clear hts
 rotate_left
 focus
  have hF:=Ef K;have vs:=AA (En K);have jO:=AA K;have iY:EN k ⟨k1,(en:Int),(Y:Int),b1,c1,nm⟩=decide ((JR k.Zh (BP c1)).k=(JR k.Zh Y).k - 1):=by unfold EN;rw[K];rfl
  have h0:c1≠0:=by rintro rfl;cases K
  have t0:(c1 !=0)=true:=by simp[h0]
  have HN:=AA (show Ds k c1=BP c1::(if Bp (JR k.Zh (BP c1)).k then named (AK k.mem (BP c1)) else[]) by unfold Ds;rw[K];rfl);clear K;obtain⟨f,hfe⟩:∃f,f=BP c1:=⟨_,rfl⟩
  have HF:=AA hfe.symm;rw[<-hfe] at vs HN iY hF;clear hfe;obtain⟨j5,_,_⟩:=S2.JR (f:=f) (by rw[Z.len];exact hF);have mn:(f:Int)<12:=ω;go_wp2_with (go_at_call 158;refine(oi _).mono ?_;rintro e w' ⟨rfl,rfl⟩;rw[vs.u]);replace y0:=yw y0;replace x1:=yw x1;replace j5:=yw j5;clear d0 x0;cases ht:Bp (JR k.Zh Y).k
  .rw[ht] at cT
   have hi:=AA (show Ik k ⟨k1,(en:Int),(Y:Int),b1,c1,nm⟩=(k,0,3) by rw[HP.u,if_pos (.inl ht)]);refine Ba ?_
   repeat(go_big_quiet_step (first|exact cT _ _|exact cP _ _|exact cN _ _))
   refine BZ λwq bq=>?_
   go_wp2;go_ret;exact ED.bad hi ψ (S2.below bq).bel
  rw[ht] at cT;rw[Ur ht] at cN;cases J:Bj b1 0 3
  .rw[J] at cP
   have hi:=AA (show Ik k ⟨k1,(en:Int),(Y:Int),b1,c1,nm⟩=(k,0,3) by rw[HP.u,if_pos (.inr (.inl J))]);refine Ba ?_
   repeat(go_big_quiet_step (first|exact cT _ _|exact cP _ _|exact cN _ _))
   refine BZ λwq bq=>?_
   go_wp2;go_ret;exact ED.bad hi ψ (S2.below bq).bel
  rw[J] at cP
  by_cases h0:(JR k.Zh f).k=(JR k.Zh Y).k - 1
  rotate_left
  .have t2:((JR k.Zh f).k !=(JR k.Zh Y).k - 1)=true:=by simp[h0]
   have hi:=AA (show Ik k ⟨k1,(en:Int),(Y:Int),b1,c1,nm⟩=(k,0,3) by rw[HP.u,if_pos (.inr (.inr (by rw[iY];exact decide_eq_false h0)))]);refine Ba ?_
   repeat(go_big_quiet_step (first|exact cT _ _|exact cP _ _|exact cN _ _))
   refine BZ λwq bq=>?_
   go_wp2;go_ret;exact ED.bad hi ψ (S2.below bq).bel
  have t2:((JR k.Zh f).k !=(JR k.Zh Y).k - 1)=false:=by simp[h0]
  have c4:=AA (show Ik k ⟨k1,(en:Int),(Y:Int),b1,c1,nm⟩=_ by rw[HP.u,if_neg (by rintro(x|x|x);(· rw[ht] at x;cases x);(· rw[J] at x;cases x);(· rw[iY,decide_eq_true h0] at x;cases x))]);obtain⟨bn,rfl⟩:∃n:Nat,b1=(n:Int):=⟨b1.toNat,by have:=(Aa.1 J).1;omega⟩
  have bA:bn<4:=by have:=(Aa.1 J).2;omega
  simp only[yq] at c4;have cz:=hF;clear iY ht J h0 hF;refine Ba ?_
  repeat(go_big_quiet_step (first|exact cT _ _|exact cP _ _|exact cN _ _))
  refine BZ λwq bq=>?_
  clear cT cP cN t0 t2 y0 x1 j5;have S3:=AA (S2.below bq);obtain⟨W3,rfl⟩:∃W3:Ω,W3=wq:=⟨_,rfl⟩
  clear bq S2;have mL:=AJ W3 (.cells #[f] 3);have O4:=AA (Ma W3 (f:Int));have S4:=AA (S3.below mL);have og:=AA mL;clear mL;obtain⟨y0,_,_,_,_,_,_⟩:=S4.ys;obtain⟨x0,x1,_,_⟩:=S4.xs;obtain⟨j5,_,_⟩:=S4.JR (f:=f) (by rw[Z.len];exact cz);have CT:=AA (λW=>GR (JR k.Zh f).k W);go_wp2_with fail;refine(CT _).mono ?_;rintro r w9 ⟨rfl,rfl⟩;generalize W3.alloc _=W4 at*;go_upto_if 83 with fail;go_cut [10] (λow wx=>∃ts b3,AE b3 wx ow (A5 ts)/\(∀g,g∈ts↔g∈Ds k c1)/\(∀g,g∈ts->g<12)/\CS lo g w ⟨k1,(en:Int),(Y:Int),(bn:Int),c1,nm⟩ w wx (.slice gm 12 bs) (.slice gi 12 bt) (.slice ge 3 ao) c k)
  case first=>
   cases lZ:Bp (JR k.Zh f).k
   .go_wp2_with fail
    go_meet
    case rel=>exact⟨[f],_,O4.u,by rw[HN.u,lZ];exact λ_=>Iff.rfl,by intro g K;rw[xD] at K;omega,S4.u⟩
   have RM:=S4.yS.2.2.rd.1
   have CN:=Up _ (.slice W3 1 1) k.mem [f] W4 RM (Aq Z.u).1 (AE.rd O4.u) (by simpa using cz) χ;have kQ:=MJ (Aq Z.u).1 (ns:=[f]) (by simpa using cz);go_wp2_with fail;refine CN.mono ?_;rintro r w5 ⟨v5,t5,rfl,P5,m5,l5,il⟩;have O5:=AA (show w5.ownsRow W3.heap.size 3 1 (.slice W3 1 1) 1 ((A5 [f]).map (yl .i64)) from O4.below il);have R5:=AA (show Rd w5 v5 1 t5.length ((A5 t5).map (yl .i64)) by have:=AE.rd P5;unfold A1 at this;rwa [Cu] at this);have oR:W3.heap.size<=w5.heap.size:=yM (by have:=(yC O4 _ rfl);omega) il.size;have j6:=AA (S4.below il);have pG:=AA (og.trans (il.mono og.size));have h5:t5.length<=4:=by simp at kQ;omega
   have Hm:=AA (show ∀g,g∈[f]++t5↔g∈Ds k c1 by intro g;rw[HN.u,lZ,if_pos rfl,wJ,xD,List.mem_cons,m5];simp[Ij])
   have Ht:=AA (show ∀g,g∈[f]++t5->g<12 by
    intro g K;rw[wJ,xD] at K
    rcases K with rfl|K
    .exact cz
    obtain⟨_,_,K⟩:=MK.1 ((m5 g).1 K)
    exact GI K)
   clear lZ O4 S4 x0 x1 y0 j5 CT RM P5 m5 l5 il kQ CN;go_wp2_with (at_builtin;go_must (refine Ek (lo:=W3.heap.size) (v:=.slice W3 1 1) (n:=1) (xs:=(A5 [f]).map (yl .i64)) (m:=t5.length) (news:=(A5 t5).map (yl .i64)) rfl rfl 3 (.int .i64 0) 1 8 underlying29 Tryz.zS rfl ψ rfl O5 rfl R5 MV μ ω ω ?_;intro pN W5 ld jX lc;have y0:=(Bt (o:=0) jX j6.lts.1 (DD O5 j6.yU ψ)).trans j6.ys.1;have x2:=(Bt (o:=2) jX j6.lts.2.1 (DD O5 j6.yS.1 ψ)).trans j6.xs.2.2.1));go_meet
   case rel=>exact⟨[f]++t5,_,Oc (a:=[f]) (b:=t5) ld,Hm.u,Ht.u,S3.below (pG.trans lc)⟩
  case' rest=>
  obtain⟨ts,b3,na,nu,nd,m0⟩:=hcut;have k6:=AA na;have Hm:=AA nu;have Ht:=AA nd;have S5:=AA m0;obtain⟨W5,rfl⟩:∃W5:Ω,W5=wc:=⟨_,rfl⟩
  clear na nu nd m0 O4 S4 x0 x1 y0 j5 CT
 all_goals
  obtain⟨y0,_,_,_,_,_,_⟩:=S5.ys;obtain⟨_,_,x2,_⟩:=S5.xs;go_wp2_with fail;clear y0 x2;go_loopw [11,99] (λov lQ wr=>∃j:Nat,j<=3/\lQ=.int .i64 j/\AE W5 wr ov (A5 (Ei k Y j))/\Γ W5 W5 wr/\∀e,e∈Ei k Y j->BM k.Zh (Ds k c1) (AH k.Xr e).Pj=true) (λ_ lQ _=>3 - (intOf lQ).toNat)
  exact⟨0,yt _,rfl,xy _ _ _ _,yN _ _,λe he=>by cases he⟩
  obtain⟨j,hj,rfl,hO,al,cC⟩:=hrel;have h9:=AA cC;clear cC;have oS:=Mm (k:=k) (a:=Y) (j:=j);have S6:=AA (S5.below al);have HO:=AA hO;have cF:=AA al;obtain⟨io,im,rfl,_,_,_⟩:=hO.rd.open;rw[Cu] at HO ⊢;clear hO al
  by_cases ay:j<3
  .obtain⟨ua,uc,mW,mV,R5⟩:=S5.env (j:=j) (by rw[Z.zX];exact ay)
   have D0:=(cF.cell (yK _ _ mW)).trans mW;have D1:=(cF.cell (yK _ _ mV)).trans mV;have call:=BK.below R5 cF.u;have pv:=AA R5;clear mW mV R5;obtain⟨NE,kO⟩:=EU wr (.cells #[.slice ua (AH k.Xr j).Pj.length uc,.int .i64 (AH k.Xr j).root] 81);have S7:=AA (S6.below kO);have l9:(j:Int)<3:=ω;obtain⟨y0,_,_,_,_,_,_⟩:=S7.ys;obtain⟨x0,x1,_,_⟩:=S7.xs;obtain⟨fd,bw,_,_⟩:=S7.lts;have iy:=zK Z ay;have RM:=Bl.below S6.yS.2.2.rd.1 kO;have jg:Bf _ _ k.Zh:=S7.yS.2.2.2.1.rd;have R7:=BK.below call kO;have oc:=AA NE;have nj:=AU NE;have n0:=yy _ _ 0 _ _ _ NE;have n1:=yy _ _ 1 _ _ _ NE;have pt:=AA kO;clear kO NE call;go_wp2_with fail;clear D0 D1;generalize wr.alloc _=W7 at*;obtain⟨qe,hqe⟩:∃q,q=wr.heap.size:=⟨_,rfl⟩
   rw[<-hqe] at oc nj n0 n1 ⊢;have CX:=AA (λW (hW:Γ W7 W7 W)=>Lq _ k.mem (AH k.Xr j).root W (RM.below hW) (Aq Z.u).1 iy);have kW:=pt.u;obtain⟨bu,hbu⟩:∃b,(Bg k.mem (AH k.Xr j).root).contains Y=b:=⟨_,rfl⟩
   have lF:=AA hbu;clear hbu hqe;refine A9 10 188 [.p w.heap.size 0,.p g 0,.p g 0,.p g 0,.s gm 12 bs,.p qe 1,.i ((AH k.Xr j).root),.z,.i ((Y:Int)),.b bu] (λix vv ww=>match ix with
    |7=>FV wr k.mem (AH k.Xr j).root ww vv
    |_=>True) ?_ ?_ ?_
   .intro i E o L a wx D z O hg Z
    match i,E with
    |0,_|2,_|3,_|5,_|8,_=>exact sP L Z D z
    |1,_=>exact sL L Z D z (hl:=Oo (bc O fd y0))
    |4,_=>exact sL L Z D z (hl:=GZ (bc O bw x0))
    |6,_=>exact sL L Z D z (hl:=GO (bc O nj n1))
    |7,_=>exact sC L Z D z (CX _ O) (by rintro e w_ ⟨v',lP,rfl,hO,bX,_,ad⟩;exact⟨_,rfl,⟨lP,Bb hO (yM kW.size O.size),bX⟩,ad⟩)
    |9,_=>obtain rfl:=yP L;have d7:FV wr k.mem (AH k.Xr j).root wx (a.tmps[111]?.getD Θ):=Bc z 7;have d8:(a.tmps[112]?.getD Θ)=.int .i64 Y:=Bc z 8;clear z D;generalize e111:a.tmps[111]?.getD Θ=v2 at d7;obtain⟨lP,hO,bX⟩:=d7;have CC:=A4 (Ph v2 lP (Y:Int) wx (AE.rd hO));rw[Tx bX,lF.u] at CC;refine yO ?_;go_simp;refine CC.mono ?_;rintro e w_ ⟨rfl,ad⟩;exact Z _ _ rfl ad
   .intro i E vv wz c5 a7 hz
    match i,E with
    |7,_=>exact(FV.below hz a7)
    |0,_|1,_|2,_|3,_|4,_|5,_|6,_|8,_|9,_=>exact hz
   intro V wx hR O
   have q9:(V 9)=.bool bu:=Bh hR 9;clear hR;simp only[Ai,Ae,yL,yI,yJ,yH,q9];simp;clear q9;have gd:=kW.trans (O.mono kW.size);cases bu
   .have HU:=AA (ZB lF.u)
    have k8:=AA (HO.below gd);have lE:=AA (cF.trans (gd.mono cF.size));clear O gd y0 x0 x1 n0 n1 kW RM jg R7;go_wp2;go_roundw;exact⟨j+1,ω,ξ,by rw[HU.u];exact k8.u,lE.u,by rw[HU.u];exact h9.u⟩;simp[intOf];omega
   have HU:=AA (Xe lF.u)
   have kz:j∈Gi k Y:=by rw[<-Jk];exact wK.2 ⟨yi.2 ay,lF.u⟩
   have k8:=HO.below gd;have lE:=AA (cF.trans (gd.mono cF.size));have b1:=AJ wx (.cells #[j] 3);have O1:=AA (show(wx.alloc (.cells #[j] 3)).ownsRow W5.heap.size 3 1 (.slice io (Ei k Y j).length im) (Ei k Y j).length ((A5 (Ei k Y j)).map (yl .i64)) by have:=k8.below b1;unfold AE at this;rwa [Cu] at this);have L1:=AA (show Rd (wx.alloc (.cells #[j] 3)) (.slice wx 1 1) 1 1 ((A5 [j]).map (yl .i64)) from AE.rd (Ma wx (j:Int)));have s5:=lE.size;have hD:=AA (show ∀b,(xG io (Ei k Y j).length im).ownBlock=some b->W5.heap.size<=b from λb J=>(yC HO b J).1);have S8:=AA ((S7.below O).below b1);have jQ:=AA (AB (AB oc O) b1);have Rx:=AA (BK.below (BK.below R7 O) b1);have p6:=AA k8;have pF:=AA (lE.trans (b1.mono s5));clear O gd y0 x0 x1 n0 n1 kW RM jg R7 k8 b1;go_wp2_with (at_builtin;go_must (refine Ek (lo:=W5.heap.size) (v:=.slice io (Ei k Y j).length im) (n:=(Ei k Y j).length) (xs:=(A5 (Ei k Y j)).map (yl .i64)) (m:=1) (news:=(A5 [j]).map (yl .i64)) rfl rfl 3 (.int .i64 0) 1 8 underlying29 Tryz.zS rfl ψ rfl O1 rfl L1 MV μ ω η ?_;intro pM W9 ld jX lc;have y0:=(Bt (o:=0) jX S8.lts.1 (DD O1 S8.yU ψ)).trans S8.ys.1;have n0:=(Bt (o:=0) jX (AU jQ.u) (DD O1 jQ ψ)).trans (yy _ _ 0 _ _ _ jQ.u)));have j9:=AA (pF.trans lc);have S9:=AA (S5.below j9.u);have O9:=AA (Oc (a:=Ei k Y j) (b:=[j]) ld);have k9:=JZ g _ _ _ (AH k.Xr j).Pj ts k.Zh W9 S9.xs.2.1 (BK.below pv j9.u) (BK.below S5.yS.2.2.2.1.rd j9.u) (A1.below (AE.rd k6.u) j9.u) (λg K=>by rw[Z.len];exact Ht g K);rw[Fp Hm.u] at k9;clear y0 n0 ld jX lc O1 L1;cases h8:BM k.Zh (Ds k c1) (AH k.Xr j).Pj
   .have n5:=AA h8
    have hi:=AA (show Ik k ⟨k1,(en:Int),(Y:Int),(bn:Int),c1,nm⟩=(k,0,1) by rw[c4.u,if_pos (xj.2 ⟨j,kz,by rw[h8];decide⟩)]);rw[h8] at k9;clear h8;refine k9.mono ?_;rintro r lM ⟨rfl,hY⟩;go_wp2;go_ret;exact ED.bad hi ψ (S9.below hY).bel
   have n5:=AA h8
   rw[h8] at k9;clear h8;refine k9.mono ?_;rintro r lM ⟨rfl,hY⟩;have pn:=AA (O9.below hY);have pJ:=AA (j9.trans (hY.mono j9.size));clear hY;go_wp2;go_roundw
   case rel=>exact⟨j+1,ω,ξ,by rw[HU.u];exact pn.u,pJ.u,λe he=>by
    rw[HU.u,wJ,xD] at he
    rcases he with he|rfl
    .exact h9 e he
    exact n5.u⟩
   case measure=>simp[intOf];omega
  obtain rfl:j=3:=ω;rw[Jk] at HO h9 ⊢;obtain⟨us,hus⟩:∃us,us=Gi k Y:=⟨_,rfl⟩
  have oH:us.length<=3:=by rw[hus,<-Jk];exact Mm
  rw[<-hus] at HO h9 ⊢;have ea:=AA (show Ik k ⟨k1,(en:Int),(Y:Int),(bn:Int),c1,nm⟩=_ by rw[c4.u,if_neg (by rw[Bool.not_eq_false,yr,<-hus];exact h9.u)]);rw[<-hus] at ea;clear hus oS;obtain⟨W6,rfl⟩:∃W6:Ω,W6=wr:=⟨_,rfl⟩
  go_wp2_with fail
  first
  |have CM:=VP (w1:=W6) (λW hW=>XJ (S6.below hW).yS ⟨k1,(en:Int),(Y:Int),(bn:Int),c1,nm⟩ (JR k.Zh f).g χ (by rw[Z.zX];simp only;omega))
   simp only[AT.on,AT.onCells] at CM;obtain⟨y0,y1,y2,y3,y4,y5,y6⟩:=S6.ys;replace y0:=yw y0;replace y1:=yw y1;replace y2:=yw y2;replace y3:=yw y3;replace y4:=yw y4;replace y5:=yw y5;replace y6:=yw y6;have x1:=yw S6.xs.2.1;have dg:=yw (S6.JR (f:=f) (by rw[Z.len];exact cz)).2.1;cases ju:Ff k (en:Int) (JR k.Zh f).g
   .have od:=AA ju
    have hi:=AA (show Ik k ⟨k1,(en:Int),(Y:Int),(bn:Int),c1,nm⟩=(k,0,1) by rw[ea.u,if_pos ⟨jO.u,by rw[HF.u];exact ju⟩]);rw[ju] at CM;clear ju;refine Ba ?_
    repeat(go_big_quiet_step (exact CM _ _))
    refine BZ λwq bq=>?_
    clear y0 y1 y2 y3 y4 y5 y6 x1 dg;go_wp2;go_ret;exact ED.bad hi ψ (S6.below bq).bel
   have od:=AA ju;rw[ju] at CM;clear ju;have ip:=AA (show Ik k ⟨k1,(en:Int),(Y:Int),(bn:Int),c1,nm⟩=_ by rw[ea.u,if_neg (by rintro⟨_,x⟩;rw[HF.u,od.u] at x;cases x)]);refine Ba ?_
   repeat(go_big_quiet_step (exact CM _ _))
   refine BZ λwq bq=>?_
   clear y0 y1 y2 y3 y4 y5 y6 x1 dg CM
  |have ip:=AA (show Ik k ⟨k1,(en:Int),(Y:Int),(bn:Int),c1,nm⟩=_ by rw[ea.u,if_neg (by rintro⟨x,_⟩;rw[jO.u] at x;cases x)])
   refine Ba ?_
   repeat(go_big_quiet_step (fail))
   refine BZ λwq bq=>?_
  have S7:=AA (S6.below bq);obtain⟨W7,rfl⟩:∃W7:Ω,W7=wq:=⟨_,rfl⟩
  have oa:=AA (HO.below bq);have pT:=yM cF.size bq.size;obtain⟨y0,y1,y2,y3,y4,y5,y6⟩:=S7.ys;obtain⟨x0,_,_,_⟩:=S7.xs;obtain⟨gw,bp,Dw,jZ,nJ,Dj,iO,⟨⟨ke,kd⟩,kc,kb⟩,_,hT,SW⟩:=S7.mrow (Aq Z.u).1 (f:=Y) bK;have Dv:=Dj bn bA;have fz:=iO bn;have S8:=AA (SW bn c1 bA);have mx:(bn:Int)<4:=ω;have oL:=AA (Z.word (f:=Y) (i:=bn) bK bA);have oX:gw<W5.heap.size:=by obtain⟨ly,jf,jR,mi,_⟩:=S5.mrow (Aq Z.u).1 (f:=Y) bK;have:=((cF.trans (bq.mono cF.size)).cell (yK _ _ jR)).trans jR;rw[Dw] at this;simp at this;rw[this.1];exact mi
  have n9:=AA (show AE W5 (W7.setCell (gw,bn) (.int .i64 c1)) (.slice io us.length im) (A5 us) from Au oa (Ak _ _ _ _) (by
   rcases hv:(xG io us.length im).ownBlock with _|b
   .exact .inl rfl
   refine .inr λe=>?_
   cases e;have:=(yC oa gw hv).1;omega))
  clear bq Dj iO SW hT;go_wp2_with fail;clear y0 y1 y2 y3 y4 y5 y6 x0 Dw Dv fz;generalize W7.setCell _ _=W8 at*;have CR:=S8.refer (Aw k.mem Y bn) (-1) (by have:=oL.2;omega) Z.len (.inr rfl) ((OK (Aq Z.u).2.1).mono ψ);simp only[AT.on,AT.onCells] at CR;refine CR.mono ?_;rintro r w9 ⟨rfl,S9,nC⟩;have S9:=AA S9;have oY:=S5.zx;have n8:=AA (show AE W5 w9 (.slice io us.length im) (A5 us) from Au n9 nC (by
   rcases hv:(xG io us.length im).ownBlock with _|b
   .exact .inl rfl
   refine .inr λe=>?_
   cases e;have:=(yC n9 gi hv).1;omega))
  clear nC CR;obtain⟨y0,y1,y2,y3,y4,y5,y6⟩:=S9.ys;go_wp2_with fail;clear y0 y1 y2 y3 y4 y5 y6;have CR:=S9.refer c1 1 jb (by simp only[Cv];exact Z.len) (.inl rfl) (KL.mono (KL.refer (OK (Aq Z.u).2.1) Z.len (.inr rfl)) ψ);simp only[AT.on,AT.onCells] at CR;refine CR.mono ?_;rintro r lM ⟨rfl,mM,kG⟩;have mM:=AA mM;have mR:=AA (show AE W5 lM (.slice io us.length im) (A5 us) from Au n8 kG (by
   rcases hv:(xG io us.length im).ownBlock with _|b
   .exact .inl rfl
   refine .inr λe=>?_
   cases e;have:=(yC n8 gi hv).1;omega))
  have o0:=S5.lts.2.1;clear kG CR;go_wp2_with fail;go_loopw [172] (λji wr=>∃j:Nat,j<=us.length/\ji=.int .i64 j/\AE W5 wr (.slice io us.length im) (A5 us)/\∃c',CS lo g w ⟨k1,(en:Int),(Y:Int),(bn:Int),c1,nm⟩ w wr (.slice gm 12 bs) (.slice gi 12 bt) (.slice ge 3 ao) c' {k with mem:=Cn k.mem Y bn c1,Zh:=BD (BD k.Zh (Aw k.mem Y bn) (-1)) c1 1,Xo:=IT (us.take j) k.Xo}) (λji _=>us.length - (intOf ji).toNat)
  exact⟨0,yt _,rfl,mR.u,c,mM.u⟩
  obtain⟨j,hj,rfl,hO,c',hS⟩:=hrel;have HOr:=AA hO;have S:=AA hS;clear hS
  by_cases ay:j<us.length
  .obtain⟨ax,cx,lW,_,_,H0⟩:=hO.rd.open
   rw[Cu] at lW;simp only[xQ] at lW;obtain⟨rfl,_,rfl⟩:=lW;obtain⟨bx,ox,rfl,DX⟩:=H0.at (k:=j) (by rw[Cu];exact ay);rw[So ay] at DX;obtain⟨un,hun⟩:∃u,u=us.getD j 0:=⟨_,rfl⟩
   rw[<-hun] at DX;have pu:=AA hun;obtain⟨cc,hcc'⟩:∃cc,cc=IT (us.take j) k.Xo:=⟨_,rfl⟩
   have oe:=AA hcc';clear hun;have ex:(j:Int)<us.length:=ω;obtain⟨y0,_,_,_,_,_,_⟩:=S.ys;obtain⟨_,_,_,x3⟩:=S.xs;obtain⟨fd,bw,kk,kl⟩:=S.lts;have RC:Do wr c' cc:=by rw[hcc'];exact S.yS.2.2.2.2.2.rd
   clear hcc';have CD:=AA (λW (hW:Γ wr wr W)=>NR c' cc (un:Int) W (BK.below RC hW) (by rw[oe.u];exact Ub _ (Aq Z.u).2.2));clear RC H0 hO;go_wp2_with fail;clear DX;refine A9 11 188 [.p w.heap.size 0,.p g 0,.p w.heap.size 0,.p g 0,.p g 0,.p g 3,.v c',.i ((un:Int)),.z,.p g 0,.p g 3] (λix vv ww=>match ix with
    |8=>AQ wr.heap.size 125 4 AY ww vv (Gm cc (un:Int))
    |_=>True) ?_ ?_ ?_
   .intro i E o L a wx D z O hg Z
    have c8:=bc O fd y0;have c7:=bc O bw x3
    match i,E with
    |0,_|2,_|4,_|5,_|7,_|9,_|10,_=>exact sP L Z D z
    |1,_|3,_=>exact sL L Z D z (hl:=Oo ‹_›)
    |6,_=>exact sL L Z D z (hl:=Yb ‹_›)
    |8,_=>exact sC L Z D z (CD _ O) (by rintro e w_ ⟨v',rfl,hO,ad⟩;exact⟨_,rfl,(hO.lower O.size),ad⟩)
   .intro i E vv wz c5 a7 hz
    match i,E with
    |8,_=>exact(AQ.below hz a7)
    |0,_|1,_|2,_|3,_|4,_|5,_|6,_|7,_|9,_|10,_=>exact hz
   intro V wx hR O
   have q1:(V 1)=.pointer g:=Bh hR 1;have q8:AQ wr.heap.size 125 4 AY wx (V 8) (Gm cc (un:Int)):=Bh hR 8;have q9:(V 9)=.pointer g:=Bh hR 9;have id:(V 10)=.pointer (some ⟨g,3,none⟩):=Bh hR 10;clear hR;simp only[Ai,Ae,yL,yI,yJ,yH,q1,q9,id];simp;generalize V 8=z8 at q8 ⊢;clear q1 q9 id;rw[oe.u,pu.u,<-QO ay] at q8;have S8:=AA (S.Xo O q8);have px:=AA (QC (j:=3) (u:=z8) (AE.below HOr O) o0);have lz:=AI (S.below O).yS.1;have mZ:=(S.below O).xs.2.2.2;obtain⟨_,_,rfl,_,_⟩:=q8.rd.shape;clear q8 O y0 x3;go_wp2;go_roundw;exact⟨j+1,ω,ξ,px.u,_,S8.u⟩;simp[intOf];omega
  obtain rfl:j=us.length:=ω;rw[xE] at S;have HE:=AA (show Ik k ⟨k1,(en:Int),(Y:Int),(bn:Int),c1,nm⟩=({k with mem:=Cn k.mem Y bn c1,Zh:=BD (BD k.Zh (Aw k.mem Y bn) (-1)) c1 1,Xo:=IT us k.Xo},0,0) from ip.u);go_wp2;go_ret;exact⟨by rw[HE.u]<;>rfl,λ_=>⟨_,_,_,_,by rw[HE.u];exact S.yS⟩,S.bel⟩
def Fd(k:AR)(c:AT):Nu:=
 if c.k=2 then K4 k c
 else if c.k=3 then LE k c
 else if c.k=4 then EB k (Gc k.mem k.Zh c.a.toNat c.b (AH k.Xr c.e.toNat).Pj)
 else if c.k=5 then EB k (DH k.mem k.Zh c.a.toNat)
 else Ik k c
theorem Sz{n:Int}(h:n≠0):IJ n≠0:=by
 unfold IJ;rw[if_neg h]
 split<;>decide
theorem YG{m:Φ}(h:Iz lo w g m i e c k)(au:lo<=w.heap.size)(hK:DZ k)(R:AT)(he:0<=R.e)(N:R.e<3)(hk:2<=R.k/\R.k<=6)(ha:0<=R.a/\R.a<12)(me:R.k=4->Bp R.b=true)(jb:R.c<=9223372036854775807):
 Ξ prog 128 #[R.on g] w (ED lo g w (Fd k R)):=by
 have S0:=Em.start h au R;have P:Fd k R=if R.k=2 then K4 k R else if R.k=3 then LE k R else if R.k=4 then EB k (Gc k.mem k.Zh R.a.toNat R.b (AH k.Xr R.e.toNat).Pj) else if R.k=5 then EB k (DH k.mem k.Zh R.a.toNat) else Ik k R:=rfl
 have jS:=λ(W:Ω) (hW:Γ (w.alloc (.cells (R.onCells g) 97)).heap.size (w.alloc (.cells (R.onCells g) 97)) W)=>dk (S0.below hW).yS (S0.below hW).lo hK R he N ha jb
 obtain⟨k1,e1,a1,b1,c1,nm⟩:=R;obtain⟨en,rfl⟩:∃n:Nat,e1=(n:Int):=⟨e1.toNat,by simp only at he;omega⟩
 obtain⟨Y,rfl⟩:∃n:Nat,a1=(n:Int):=⟨a1.toNat,by simp only at ha;omega⟩
 have b9:en<3:=by simp only at N;omega
 have bK:Y<12:=by simp only at ha;omega
 simp only[AT.on,AT.onCells] at S0 P hk me jS ⊢;simp only[yq] at P;obtain⟨ge,ao,e9,_,⟨⟨jr,jq⟩,jp,jo⟩,_⟩:=S0.Xr (by rw[hK.zX];omega);rw[hK.zX] at e9;obtain⟨gi,bt,e8,_,_,⟨⟨jn,jm⟩,jl,jk⟩,_⟩:=S0.Zh (by rw[hK.len];omega);rw[hK.len] at e8;obtain⟨gm,bs,e7,_,⟨kj,ki⟩,kh,kg⟩:=S0.mems (Aq hK).1;subst e7 e8 e9;obtain⟨y0,y1,y2,y3,y4,y5,y6⟩:=S0.ys;obtain⟨x0,x1,x2,x3⟩:=S0.xs;obtain⟨d0,d1,d2⟩:=S0.JR (f:=Y) (by rw[hK.len];exact bK);have kP:(Y:Int)<12:=ω;obtain⟨bD,bY,kk,kl⟩:=S0.lts;have Z:=AA hK;have HS:=AA S0;clear hK h S0 au he N;obtain⟨oA,oz⟩:=hk;have k5:k1=2∨k1=3∨k1=4∨k1=5∨k1=6:=ω;clear oA oz
 rcases k5 with rfl|rfl|rfl|rfl|rfl
 .have HP:=AA (show Fd k ⟨2,(en:Int),(Y:Int),b1,c1,nm⟩=K4 k ⟨2,(en:Int),(Y:Int),b1,c1,nm⟩ from P)
  have HG:=AA (show K4 k ⟨2,(en:Int),(Y:Int),b1,c1,nm⟩=if(JR k.Zh Y).k≠1 then(k,0,3) else if(JR k.Zh Y).r≠0 then(k,0,2) else({k with Zh:=k.Zh.set Y AX.zero},0,0) from rfl);clear P jS
  by_cases A:(JR k.Zh Y).k=1
  .have t1:((JR k.Zh Y).k==1)=true:=by simp[A]
   by_cases H:(JR k.Zh Y).r=0
   .have hi:=AA (show Fd k ⟨2,(en:Int),(Y:Int),b1,c1,nm⟩=({k with Zh:=k.Zh.set Y AX.zero},0,0) by rw[HP.u,HG.u,if_neg (by simp[A]),if_neg (by simp[H])])
    have H1:=AA A;have H2:=AA H;clear A H;go_in;go_wp2_with fail;generalize w.alloc _=W0 at*;have CG:=AA (Tq _ k.Zh Y W0 HS.yS.2.2.2.1.rd (Aq Z.u).2.1 bK H1 H2.u);refine CG.mono ?_;rintro r w1 ⟨v',rfl,hO,J⟩;have S2:=AA (HS.zy J hO);have fz:=AI (HS.below J).yS.1;have x1:=(HS.below J).xs.2.1;have y0:=(HS.below J).ys.1;obtain⟨_,_,rfl,_,_⟩:=hO.rd.shape;rw[yh] at S2;clear hO J;go_wp2;go_ret;exact⟨by rw[hi.u]<;>rfl,λ_=>⟨_,_,_,_,by rw[hi.u];exact S2.yS⟩,S2.bel⟩
   have hi:=AA (show Fd k ⟨2,(en:Int),(Y:Int),b1,c1,nm⟩=(k,0,2) by rw[HP.u,HG.u,if_neg (by simp[A]),if_pos H])
   have H1:=AA A;have H2:=AA H;clear A H;go_in;go_wp2_with fail;generalize w.alloc _=W0 at*;have CG:=AA (VH _ k.Zh Y W0 HS.yS.2.2.2.1.rd (Aq Z.u).2.1 bK H1 H2.u);refine CG.mono ?_;rintro r w1 ⟨rfl,J⟩;have S2:=AA (HS.below J);go_wp2;go_ret;exact ED.bad hi ψ S2.bel
  have t1:((JR k.Zh Y).k==1)=false:=by simp[A]
  have hi:=AA (show Fd k ⟨2,(en:Int),(Y:Int),b1,c1,nm⟩=(k,0,3) by rw[HP.u,HG.u,if_pos A]);clear A;go_in;go_wp2;go_ret;exact ED.bad hi ψ HS.bel
 .have HP:=AA (show Fd k ⟨3,(en:Int),(Y:Int),b1,c1,nm⟩=LE k ⟨3,(en:Int),(Y:Int),b1,c1,nm⟩ from P)
  have HG:=AA (show LE k ⟨3,(en:Int),(Y:Int),b1,c1,nm⟩=if(JR k.Zh Y).k≠1∨Bj b1 0 3=false∨Dx c1=false then(k,0,3) else({k with mem:=Cn k.mem Y b1.toNat c1},0,0) from rfl);clear P jS;have C0:=AA (λW=>A4 (QQ b1 W));have C1:=AA (λW=>A4 (Gy c1 W))
  by_cases A:(JR k.Zh Y).k=1
  .have t1:((JR k.Zh Y).k==1)=true:=by simp[A]
   have H1:=AA A;clear A;go_in;go_wp2_with fail;generalize w.alloc _=W0 at*;cases H:Bj b1 0 3
   .have hi:=AA (show Fd k ⟨3,(en:Int),(Y:Int),b1,c1,nm⟩=(k,0,3) by rw[HP.u,HG.u,if_pos (.inr (.inl H))])
    have T:=AA H;clear H;refine(C0 _).mono ?_;rintro r w1 ⟨rfl,J⟩;rw[T.u];have S2:=AA (HS.below J);clear y0 y1 y2 y3 y4 y5 y6 x0 x1 x2 x3 d0 d1 d2;go_wp2;go_ret;exact ED.bad hi ψ S2.bel
   have T:=AA H
   have j2:=Aa.1 H;obtain⟨bn,rfl⟩:∃n:Nat,b1=(n:Int):=⟨b1.toNat,ω⟩
   have bA:bn<4:=ω;clear H j2;refine(C0 _).mono ?_;rintro r W1 ⟨rfl,J⟩;rw[T.u];have S1:=AA (HS.below J);clear y0 y1 y2 y3 y4 y5 y6 x0 x1 x2 x3 d0 d1 d2 J;obtain⟨y0,y1,y2,y3,y4,y5,y6⟩:=S1.ys;go_wp2_with fail;cases h3:Bj c1 0 9999
   .have hi:=AA (show Fd k ⟨3,(en:Int),(Y:Int),(bn:Int),c1,nm⟩=(k,0,3) by rw[HP.u,HG.u,if_pos (.inr (.inr h3))])
    have T3:=AA h3;clear h3;refine(C1 _).mono ?_;rintro r w1 ⟨rfl,J⟩;rw[T3.u];have S2:=AA (S1.below J);clear y0 y1 y2 y3 y4 y5 y6;go_wp2;go_ret;exact ED.bad hi ψ S2.bel
   have T3:=AA h3
   have hi:=AA (show Fd k ⟨3,(en:Int),(Y:Int),(bn:Int),c1,nm⟩=({k with mem:=Cn k.mem Y bn c1},0,0) by rw[HP.u,HG.u,if_neg (by rintro(x|x|x);(· exact x H1.u);(· rw[T.u] at x;cases x);(· rw[show Dx c1=true from h3] at x;cases x)),yq]);clear h3;refine(C1 _).mono ?_;rintro r W2 ⟨rfl,J⟩;rw[T3.u];have S2:=AA (S1.below J);clear y0 y1 y2 y3 y4 y5 y6 J;obtain⟨y0,_,_,_,y4,y5,_⟩:=S2.ys;obtain⟨x0,_,_,_⟩:=S2.xs;obtain⟨bD,bY,_,_⟩:=S2.lts;obtain⟨gw,bp,Dw,jZ,nJ,Dj,iO,⟨⟨ke,kd⟩,kc,kb⟩,_,_,_⟩:=S2.mrow (Aq Z.u).1 (f:=Y) bK;have kC:=yK _ _ Dw;have mx:(bn:Int)<4:=ω;clear Dj iO;go_wp2_with fail;refine Ac 15 139 [.p w.heap.size 0,.p g 0,.p g 0,.p g 0,.s gm 12 bs,.i ((Y:Int)),.p gm Y,.s gw 4 bp,.p w.heap.size 1,.p w.heap.size 4,.i ((bn:Int)),.p w.heap.size 1,.p w.heap.size 5,.i c1,.p gw bn] (λ_ _ _=>True) ?_ ?_
   .intro i E o L a wx D z O hg Z
    have iW:=bc O bD y4;have iV:=bc O bD y5
    match i,E with
    |0,_|2,_|3,_|5,_|8,_|9,_|11,_|12,_=>exact sP L Z D z
    |1,_=>exact sL L Z D z (hl:=Oo (bc O bD y0))
    |4,_=>exact sL L Z D z (hl:=GZ (bc O bY x0))
    |6,_|14,_=>exact sI L Z D z (hr:=by clear z D Z;go_simp)
    |7,_=>exact sL L Z D z (hl:=K5 (bc O kC Dw))
    |10,_|13,_=>exact sL L Z D z (hl:=GO ‹_›)
    |_+15,hq=>omega
   intro V wx hR O
   have b8:(V 13)=.int .i64 c1:=Bh hR 13;have fo:(V 14)=.pointer (some ⟨gw,bn,none⟩):=Bh hR 14;clear hR;simp only[Ai,Ae,yL,yI,yJ,yH,b8,fo];simp;clear b8 fo;have S3:=AA (S2.below O);obtain⟨ly,jf,jR,_,_,Dj,iO,_,_,_,SW⟩:=S3.mrow (Aq Z.u).1 (f:=Y) bK;have ei:=(O.cell (p:=⟨gm,Y,none⟩) kC).trans Dw;rw[ei] at jR;have ln:gw=ly:=by simp at jR;exact jR.1
   subst ln;have Dv:=Dj bn bA;have fz:=iO bn;have S4:=AA (SW bn c1 bA);clear O y0 y4 y5 x0 Dw jR ei Dj iO SW;go_wp2;go_ret;exact⟨by rw[hi.u]<;>rfl,λ_=>⟨_,_,_,_,by rw[hi.u];exact S4.yS⟩,S4.bel⟩
  have t1:((JR k.Zh Y).k==1)=false:=by simp[A]
  have hi:=AA (show Fd k ⟨3,(en:Int),(Y:Int),b1,c1,nm⟩=(k,0,3) by rw[HP.u,HG.u,if_pos (.inl A)]);clear A;go_in;go_wp2;go_ret;exact ED.bad hi ψ HS.bel
 .have oT:=me rfl
  have HP:=AA (show Fd k ⟨4,(en:Int),(Y:Int),b1,c1,nm⟩=EB k (Gc k.mem k.Zh Y b1 (AH k.Xr en).Pj) from P);obtain⟨xs,cd,hp⟩:∃xs cd,Gc k.mem k.Zh Y b1 (AH k.Xr en).Pj=(xs,cd):=⟨_,_,rfl⟩
  have jP:=AA hp;clear P jS hp
  by_cases A:(JR k.Zh Y).k=1
  all_goals
   first
   |have t1:((JR k.Zh Y).k==1)=true:=by simp[A]
   |have t1:((JR k.Zh Y).k==1)=false:=by simp[A]
   clear A;go_in;go_wp2_with fail;generalize w.alloc _=W2 at*;have eD:=HS.zg;obtain⟨ua,uc,D0,D1,call⟩:=HS.env (j:=en) (by rw[Z.zX];exact b9);have CE:=AA (λW (hW:Γ W2 W2 W)=>HS.callEnv (en:=en) rfl b9 W hW);simp only[AT.on,AT.onCells] at CE;have ia:=λW (hW:Γ W2 W2 W)=>VQ _ _ _ k.mem k.Zh Y b1 (AH k.Xr en).Pj W (Bl.below HS.yS.2.2.rd.1 hW) (Aq Z.u).1 (BK.below HS.yS.2.2.2.1.rd hW) (Aq Z.u).2.1 bK oT (BK.below call hW) (Ex (Z.Pj en b9)) (Z.Pj en b9)
   rw[jP.u] at ia;unfold Nr at ia;simp only at ia;have CT:=AA ia;clear ia call D1;refine A9 24 139 [.p w.heap.size 0,.p g 0,.p g 0,.p g 0,.s gm 12 bs,.p w.heap.size 0,.p g 0,.p g 0,.p g 1,.s gi 12 bt,.i ((Y:Int)),.p w.heap.size 1,.p w.heap.size 4,.i b1,.a #[.pointer g,.int .i64 4,.int .i64 en,.int .i64 Y,.int .i64 b1,.int .i64 c1,.string nm],.p ge (en*2),.p ge (en*2),.p ge (en*2),.v (.slice ua (AH k.Xr en).Pj.length uc),.z,.z,.z,.i cd,.z] (λix vv ww=>match ix with
    |19|20=>∃v',vv=.tuple #[v',cd]/\AQ W2.heap.size 115 3 Av ww v' xs
    |21|23=>AQ W2.heap.size 115 3 Av ww vv xs
    |_=>True) ?_ ?_ ?_
   .intro i E o L a wx D z O hg Z
    have c8:=bc O bD y0;have c7:=bc O bY x0;have ec:=bc O bY x1;have iW:=bc O bD y4;have iV:=bc O bD y1;have jW:=bc O bD y2;have jV:=bc O bD y3;have jU:=bc O bD y5;have jT:=bc O bD y6;have lb:=bc O eD D0
    match i,E with
    |0,_|2,_|3,_|5,_|7,_|8,_|10,_|11,_|12,_|16,_|17,_=>exact sP L Z D z
    |1,_|6,_=>exact sL L Z D z (hl:=Oo ‹_›)
    |4,_=>exact sL L Z D z (hl:=GZ ‹_›)
    |9,_=>exact sL L Z D z (hl:=Gt ‹_›)
    |13,_=>exact sL L Z D z (hl:=GO ‹_›)
    |14,_=>exact sL L Z D z (hl:=gZ ‹_› ‹_› ‹_› ‹_› ‹_› ‹_› ‹_›)
    |15,_=>exact sD L Z D z (CE _ O)
    |18,_=>exact sL L Z D z (hl:=Kt ‹_›)
    |19,_=>exact sC L Z D z (CT _ O) (by rintro e w_ ⟨v',rfl,hO,ad⟩;exact⟨_,rfl,⟨_,rfl,hO.lower O.size⟩,ad⟩)
    |20,_=>
     clear c8 c7 ec iW iV jW jV jU jT lb;obtain rfl:=yP L;have nU:∃v',(a.tmps[105]?.getD Θ)=.tuple #[v',cd]/\AQ W2.heap.size 115 3 Av wx v' xs:=Bc z 19
     clear z D;obtain⟨v',nU,hO⟩:=nU;refine yO ?_;go_simp;exact Z _ _ ⟨_,rfl,hO⟩ (yN _ _)
    |21,_=>
     clear c8 c7 ec iW iV jW jV jU jT lb;obtain rfl:=yP L;have kY:∃v',(a.tmps[85]?.getD Θ)=.tuple #[v',cd]/\AQ W2.heap.size 115 3 Av wx v' xs:=Bc z 20
     clear z D;obtain⟨v',kY,hO⟩:=kY;refine yO ?_;go_simp;exact Z _ _ hO (yN _ _)
    |22,_=>
     clear c8 c7 ec iW iV jW jV jU jT lb;obtain rfl:=yP L;have kY:∃v',(a.tmps[85]?.getD Θ)=.tuple #[v',cd]/\AQ W2.heap.size 115 3 Av wx v' xs:=Bc z 20
     clear z D;obtain⟨v',kY,hO⟩:=kY;refine yO ?_;go_simp;exact Z _ _ rfl (yN _ _)
    |23,_=>clear c8 c7 ec iW iV jW jV jU jT lb;obtain rfl:=yP L;have nT:AQ W2.heap.size 115 3 Av wx (a.tmps[106]?.getD Θ) xs:=Bc z 21;clear z D;refine yO ?_;go_simp;exact Z _ _ nT (yN _ _)
    |_+24,hq=>omega
   .intro i E vv wz c5 a7 hz
    match i,E with
    |19,_|20,_=>exact(by obtain⟨v',h0,A⟩:=hz;exact⟨v',h0,AQ.below A a7⟩)
    |21,_|23,_=>exact(AQ.below hz a7)
    |0,_|1,_|2,_|3,_|4,_|5,_|6,_|7,_|8,_|9,_|10,_|11,_|12,_|13,_|14,_|15,_|16,_|17,_|18,_|22,_=>exact hz
    |_+24,hq=>omega
   intro V wx hR O
   have m6:(V 22)=.int .i64 cd:=Bh hR 22;have la:AQ W2.heap.size 115 3 Av wx (V 23) xs:=Bh hR 23;clear hR;simp only[Ai,Ae,yL,yI,yJ,yH,m6];simp;generalize V 23=z23 at la ⊢;clear m6;have S3:=AA (HS.zy O la);have lz:=AI (HS.below O).yS.1;have om:=(HS.below O).xs.2.1;have ol:=(HS.below O).ys.1;have CC:=AA (λW=>Qe cd W);obtain⟨_,_,rfl,_,_⟩:=la.rd.shape;clear la O y0 y1 y2 y3 y4 y5 y6 x0 x1 x2 x3 d0 d1 d2 D0;go_wp2_with (refine(CC _).mono ?_;rintro r w9 ⟨rfl,rfl⟩);go_ret
   by_cases h0:cd=0
   .subst h0
    have hi:Fd k ⟨4,(en:Int),(Y:Int),b1,c1,nm⟩=({k with Zh:=xs},0,0):=by rw[HP.u,jP.u];rfl
    exact⟨by rw[hi]<;>rfl,λ_=>⟨_,_,_,_,by rw[hi];exact S3.yS⟩,S3.bel⟩
   have hi:Fd k ⟨4,(en:Int),(Y:Int),b1,c1,nm⟩=(k,0,IJ cd):=by
    rw[HP.u,jP.u];unfold EB;rw[if_neg h0]
   exact ED.bad hi (Sz h0) S3.bel
 .have HP:=AA (show Fd k ⟨5,(en:Int),(Y:Int),b1,c1,nm⟩=EB k (DH k.mem k.Zh Y) from P)
  obtain⟨xs,cd,hp⟩:∃xs cd,DH k.mem k.Zh Y=(xs,cd):=⟨_,_,rfl⟩
  have jP:=AA hp;clear P jS hp
  by_cases A:(JR k.Zh Y).k=1
  all_goals
   first
   |have t1:((JR k.Zh Y).k==1)=true:=by simp[A]
   |have t1:((JR k.Zh Y).k==1)=false:=by simp[A]
   clear A;go_in;go_wp2_with fail;generalize w.alloc _=W2 at*;have eD:=HS.zg;obtain⟨ua,uc,D0,D1,call⟩:=HS.env (j:=en) (by rw[Z.zX];exact b9);have CE:=AA (λW (hW:Γ W2 W2 W)=>HS.callEnv (en:=en) rfl b9 W hW);simp only[AT.on,AT.onCells] at CE;have ia:=λW (hW:Γ W2 W2 W)=>Rm _ _ k.mem k.Zh Y W (Bl.below HS.yS.2.2.rd.1 hW) (Aq Z.u).1 (BK.below HS.yS.2.2.2.1.rd hW) (Aq Z.u).2.1 bK
   rw[jP.u] at ia;unfold Nr at ia;simp only at ia;have CT:=AA ia;clear ia call D1;refine A9 16 139 [.p w.heap.size 0,.p g 0,.p g 0,.p g 0,.s gm 12 bs,.p w.heap.size 0,.p g 0,.p g 0,.p g 1,.s gi 12 bt,.i ((Y:Int)),.z,.z,.z,.i cd,.z] (λix vv ww=>match ix with
    |11|12=>∃v',vv=.tuple #[v',cd]/\AQ W2.heap.size 115 3 Av ww v' xs
    |13|15=>AQ W2.heap.size 115 3 Av ww vv xs
    |_=>True) ?_ ?_ ?_
   .intro i E o L a wx D z O hg Z
    have c8:=bc O bD y0;have c7:=bc O bY x0;have ec:=bc O bY x1
    match i,E with
    |0,_|2,_|3,_|5,_|7,_|8,_|10,_=>exact sP L Z D z
    |1,_|6,_=>exact sL L Z D z (hl:=Oo ‹_›)
    |4,_=>exact sL L Z D z (hl:=GZ ‹_›)
    |9,_=>exact sL L Z D z (hl:=Gt ‹_›)
    |11,_=>exact sC L Z D z (CT _ O) (by rintro e w_ ⟨v',rfl,hO,ad⟩;exact⟨_,rfl,⟨_,rfl,hO.lower O.size⟩,ad⟩)
    |12,_=>
     clear c8 c7 ec;obtain rfl:=yP L;have iQ:∃v',(a.tmps[129]?.getD Θ)=.tuple #[v',cd]/\AQ W2.heap.size 115 3 Av wx v' xs:=Bc z 11
     clear z D;obtain⟨v',iQ,hO⟩:=iQ;refine yO ?_;go_simp;exact Z _ _ ⟨_,rfl,hO⟩ (yN _ _)
    |13,_=>
     clear c8 c7 ec;obtain rfl:=yP L;have je:∃v',(a.tmps[117]?.getD Θ)=.tuple #[v',cd]/\AQ W2.heap.size 115 3 Av wx v' xs:=Bc z 12
     clear z D;obtain⟨v',je,hO⟩:=je;refine yO ?_;go_simp;exact Z _ _ hO (yN _ _)
    |14,_=>
     clear c8 c7 ec;obtain rfl:=yP L;have je:∃v',(a.tmps[117]?.getD Θ)=.tuple #[v',cd]/\AQ W2.heap.size 115 3 Av wx v' xs:=Bc z 12
     clear z D;obtain⟨v',je,hO⟩:=je;refine yO ?_;go_simp;exact Z _ _ rfl (yN _ _)
    |15,_=>clear c8 c7 ec;obtain rfl:=yP L;have jd:AQ W2.heap.size 115 3 Av wx (a.tmps[130]?.getD Θ) xs:=Bc z 13;clear z D;refine yO ?_;go_simp;exact Z _ _ jd (yN _ _)
    |_+16,hq=>omega
   .intro i E vv wz c5 a7 hz
    match i,E with
    |11,_|12,_=>exact(by obtain⟨v',h0,A⟩:=hz;exact⟨v',h0,AQ.below A a7⟩)
    |13,_|15,_=>exact(AQ.below hz a7)
    |0,_|1,_|2,_|3,_|4,_|5,_|6,_|7,_|8,_|9,_|10,_|14,_=>exact hz
    |_+16,hq=>omega
   intro V wx hR O
   have fo:(V 14)=.int .i64 cd:=Bh hR 14;have ic:AQ W2.heap.size 115 3 Av wx (V 15) xs:=Bh hR 15;clear hR;simp only[Ai,Ae,yL,yI,yJ,yH,fo];simp;generalize V 15=z15 at ic ⊢;clear fo;have S3:=AA (HS.zy O ic);have lz:=AI (HS.below O).yS.1;have om:=(HS.below O).xs.2.1;have ol:=(HS.below O).ys.1;have CC:=AA (λW=>Qe cd W);obtain⟨_,_,rfl,_,_⟩:=ic.rd.shape;clear ic O y0 y1 y2 y3 y4 y5 y6 x0 x1 x2 x3 d0 d1 d2 D0;go_wp2_with (refine(CC _).mono ?_;rintro r w9 ⟨rfl,rfl⟩);go_ret
   by_cases h0:cd=0
   .subst h0
    have hi:Fd k ⟨5,(en:Int),(Y:Int),b1,c1,nm⟩=({k with Zh:=xs},0,0):=by rw[HP.u,jP.u];rfl
    exact⟨by rw[hi]<;>rfl,λ_=>⟨_,_,_,_,by rw[hi];exact S3.yS⟩,S3.bel⟩
   have hi:Fd k ⟨5,(en:Int),(Y:Int),b1,c1,nm⟩=(k,0,IJ cd):=by
    rw[HP.u,jP.u];unfold EB;rw[if_neg h0]
   exact ED.bad hi (Sz h0) S3.bel
 have HP:=AA (show Fd k ⟨6,(en:Int),(Y:Int),b1,c1,nm⟩=Ik k ⟨6,(en:Int),(Y:Int),b1,c1,nm⟩ from P)
 have pE:=AA jS;clear P jS d1 d2
 by_cases A:(JR k.Zh Y).k=1
 all_goals
  first
  |have t1:((JR k.Zh Y).k==1)=true:=by simp[A]
  |have t1:((JR k.Zh Y).k==1)=false:=by simp[A]
  clear A;go_in;go_wp2_with fail;generalize w.alloc _=W0 at*;refine(pE W0 (yN _ _)).mono ?_;rintro r w1 ⟨rfl,pf,J⟩;go_wp2;go_ret;exact⟨by rw[HP.u]<;>rfl,λh=>by rw[HP.u] at h ⊢;exact pf h,(HS.bel).trans J⟩
end Go.Proofs.YtlcnbkkcplllhaaGreatDoor
