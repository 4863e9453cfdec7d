/-
  Packed:37 texts.
-/
import Derived.Test.YtlcnbkkcplllhaaGreatDoorY1
import Derived.Shelf.Spec.SlicesInsertGrow
import Derived.Shelf.Spec.SearchS
set_option linter.unusedVariables false
set_option linter.unusedSimpArgs false
set_option maxHeartbeats 16000000
set_option maxRecDepth 100000
open Go Go.Proofs.YtlcnbkkcplllhaaGreatDoor
open And renaming intro->yj
open _root_.Array renaming toList_append->uz
open Bool renaming and_eq_true->yC,eq_iff_iff->wL,or_eq_true->xL
open Go.Builtin renaming clear_->tV,zeroCells->xX
open Go.Proofs.Tryz renaming results103->uR
open Go.RowKit.Below renaming refl->yN
open Go.Value renaming int->yl,oneCell'->xR,slice->xv,string->xW
open Go.Value.slice renaming injEq->xQ
open Go.World renaming block_lt_of_cell?->yK,ownsRow_nil->xo,size_alloc->xt
open Go.World.ownsRow renaming cellAt->xN,frozenAt->xV,lt->yE,stored->vw
open Go renaming bodyPost_ret->yB,cell_of_row->yx,cell_regrown->yv,heap_alloc_new->yy,heap_setCell_same->yA
open Int renaming toNat_natCast->yq
open List renaming all_eq_false->wZ,all_eq_true->ym,append_assoc->sr,append_nil->tR,count_append->sq,count_le_length->vX,count_singleton->sY,drop_eq_getElem_cons->tE,drop_eq_nil_of_le->tr,eq_nil_of_length_eq_zero->xY,filter_append->wE,filter_cons->vP,filter_nil->vo,findIdx_eq->tH,foldl_append->tU,foldl_cons->yJ,foldl_nil->yH,getD_eq_getElem?_getD->yd,getElem?_eq_getElem->yG,getElem?_eq_none->uK,getElem?_eq_some_iff->yD,getElem?_map->xq,getElem?_of_mem->xO,getElem?_range->ur,getElem?_set->vE,getElem?_set_ne->wD,getElem?_set_self->xF,getElem_of_mem->xl,length_append->yz,length_cons->vV,length_drop->xC,length_filter_le->xG,length_nil->xi,length_replicate->uy,length_set->yi,length_singleton->xP,length_take->yr,map_append->xM,map_set->uT,mem_append->wI,mem_flatMap->wY,mem_map->wj,mem_of_getElem?->yw,mem_range->yh,mem_singleton->xy,pairwise_iff_getElem->wO,range->yL,range_succ->xj,replicate->xZ,replicate_succ'->sW,sum_append->wW,takeWhile->rQ,takeWhile_append_dropWhile->xB,take_append_drop->wG,take_left'->uF,take_length->xD,take_of_length_le->xz,take_take->uo
open List.range renaming loop->yI
open Nat renaming add_assoc->tz,add_zero->xT,le_of_eq->ve,le_refl->yF,le_succ->we,le_trans->yM,lt_of_lt_of_le->yt,lt_or_ge->uC,min_eq_left->uY,mul_comm->tg,mul_le_mul_right->wT,mul_one->wX,not_lt_zero->xU,zero_add->wK,zero_le->yu
open Go renaming World->Ω,Value->Φ,Calls->Ξ,undef->Θ
open Go.RowKit renaming Below->Γ
variable {b f ge gi n:Nat} {ss:List ByteArray} {x:ByteArray} {a fs:List Nat} {r:List Int} {O:Ω} {u v:Φ} {kind:Int} {l:List AW} {K:List Φ} {es:List FF}
namespace Go.Proofs.YtlcnbkkcplllhaaGreatDoor
open Go.Proofs.Tryz
open Go.RowKit
theorem Gy (v:Φ)(ss:List ByteArray)(w:Ω)(h:BZ w v ss)(hs:Db ss):Ξ prog 97 #[v] w λe O=>e=.returned (.bool (BY ss))/\Γ w w O:=by
 obtain⟨a,c,rfl,hc,bw,H0⟩:=BN.open Fj ψ h;unfold maxLen at bw;have Hs:=AA hs;clear hs h;go_in;go_wp2_with fail;go_loopw [7] (λi wr=>∃k:Nat,k<=ss.length/\i=.int .i64 k/\(∀j,j<k->DO ss j=true)/\Γ w w wr) (λi _=>ss.length - (intOf i).toNat)
 exact⟨0,yu _,rfl,λj hj=>absurd hj (xU _),yN _ _⟩
 obtain⟨k,L,rfl,au,ad⟩:=hrel;have be:=AA au;clear au
 by_cases ar:k<ss.length
 .obtain⟨b,a7,rfl,D0⟩:=H0.str ar
  have bC:=yK w _ D0;have ho:=(ad.cell (p:=⟨b,a7+k,none⟩) bC).trans D0;have C:=AA (λW=>Dt (Cz ss k) W (Hs.nth ar));cases aq:BT (Cz ss k)
  .have S:=AA (J2 ar (by simp[DO,aq]))
   have cP:=AA aq;clear aq D0;go_wp2_with (refine(C _).mono ?_;rintro e w2 ⟨rfl,J⟩;rw[cP.u]);go_ret;exact⟨AF S.symm,ad.trans (J.mono ad.size)⟩
  by_cases i3:k=0
  .have Ok:=AA (show DO ss k=true by simp[DO,aq];exact .inl i3)
   have cP:=AA aq;have t0:¬(0:Int)<k:=ω;clear aq D0 i3;go_wp2_with fail;refine(C _).mono ?_;rintro e w2 ⟨rfl,J⟩;rw[cP.u];go_wp2;go_roundw;exact⟨k+1,ω,ξ,Am be Ok.u,ad.trans (J.mono ad.size)⟩;simp[intOf];omega
  obtain⟨b',f5,jB,E0⟩:=H0.str (ω:k - 1<ss.length)
  obtain⟨rfl,rfl⟩:b=b'/\a7=f5:=by simpa using jB
  have hW:=(ad.cell (p:=⟨b,a7+(k - 1),none⟩) bC).trans E0;have t0:(0:Int)<k:=ω;have s1:((k:Int) - 1).toNat=k - 1:=ω;have s3:(1:Int)<=k:=ω;have cP:=AA aq;clear D0 E0 jB;cases eL:OD (Cz ss (k - 1)) (Cz ss k)
  .have Ok:=AA (show DO ss k=true by simp[DO,aq,eL])
   have hL:Op.bytesLess (Cz ss (k - 1)).toList (Cz ss k).toList=true:=by simpa[OD] using eL
   have EE:=AA hW;clear aq eL;go_wp2_with fail;refine(C _).mono ?_;rintro e w2 ⟨rfl,J⟩;rw[cP.u];have E2:=(J.cell (yK _ _ EE.u)).trans EE.u;clear hW;go_wp2;go_roundw;exact⟨k+1,ω,ξ,Am be Ok.u,ad.trans (J.mono ad.size)⟩;simp[intOf];omega
  have S:=AA (J2 ar (by simp[DO,aq,eL,i3]))
  have hL:Op.bytesLess (Cz ss (k - 1)).toList (Cz ss k).toList=false:=by simpa[OD] using eL
  have EE:=AA hW;clear aq eL;go_wp2_with (refine(C _).mono ?_;rintro e w2 ⟨rfl,J⟩;rw[cP.u];have E2:=(J.cell (yK _ _ EE.u)).trans EE.u;clear hW);go_ret;exact⟨AF S.symm,ad.trans (J.mono ad.size)⟩
 have S:=AA (Nb (ss:=ss) (λj hj=>be j ω))
 go_wp2;go_ret;exact⟨AF S.symm,ad⟩
theorem Qf (s g:ByteArray)(b:Nat)(w:Ω)(h:w.cell? b=some (.string g)):Ξ prog 228 #[.string s,.pointer b] w λe O=>e=.returned (.bool (L3 g s))/\Γ w w O:=by go_in;go_wp2_with (refine(NL _ _ _).mono ?_;rintro e O ⟨rfl,rfl⟩);go_ret;exact⟨rfl,yN _ _⟩
theorem RH (v:Φ)(ss:List ByteArray)(g:ByteArray)(w:Ω)(h:BZ w v ss)(hs:Db ss)(N:g.size<=maxLen)(aq:BY ss=true)(hr:BT g=true):Ξ prog 187 #[v,.string g] w λr O=>∃v',r=.returned v'/\AP w.heap.size 9 1 A0 O v' (Bk ss g)/\Γ w w O:=by
 have hl:=(Ew.1 aq).2.2;have b1:=AG w (.cells #[g] 9);have ce:(w.alloc (.cells #[g] 9)).cell? w=some (.string g):=yx _ _ 0 _ _ _ (yy _ _);have ar:w.heap.size<(w.alloc (.cells #[g] 9)).heap.size:=χ;have C1:=AA (by have:=Gy v ss _ (BN.below h b1) hs;rw[aq] at this;exact this);have CX:=AA (λW=>by have:=Dt g W N;rw[hr] at this;exact this);have C2:=AA (λW (E:Γ w w W)=>Jk v ss W (BN.below h E) ω);obtain⟨a,c,rfl,hc,bw⟩:=h.shape;clear h aq hs N hr;go_in;go_wp2_with fail;refine C1.mono ?_;rintro r w1 ⟨rfl,bx⟩;replace ce:=(bx.cell (yK _ _ ce)).trans ce;have al:=b1.trans (bx.mono b1.size);replace ar:w.heap.size<w1.heap.size:=yt ar bx.size;clear bx b1;have CE:=AA ce;go_wp2_with fail;refine(CX _).mono ?_;rintro r w2 ⟨rfl,cd⟩;have nB:=AA ((cd.cell (p:=⟨w,0,none⟩) ar).trans CE.u);replace ar:w.heap.size<w2.heap.size:=yt ar cd.size;replace al:=al.trans (cd.mono al.size);clear cd ce CE;go_wp2_with fail;refine(C2 _ al).mono ?_;rintro r w3 ⟨v',rfl,R,cb⟩;have lU:=(cb.cell (p:=⟨w,0,none⟩) ar).trans nB.u;have C3:=AA (L8 228 #[.pointer w] (λs=>L3 g s) v' ss w3 R cb.size (λ_ _=>φ)
  (λx _ W E=>Qf x g _ W ((E.cell (p:=⟨w,0,none⟩) ar).trans lU)))
 have kO:=al.trans (cb.mono al.size);have jT:=al.size;clear R cb lU;go_wp2_with (refine C3.mono ?_;rintro r w4 ⟨v4,rfl,jF,jD⟩);go_ret;exact⟨_,rfl,jF.lower jT,kO.trans (jD.mono jT)⟩
end Go.Proofs.YtlcnbkkcplllhaaGreatDoor
namespace Go.Proofs.YtlcnbkkcplllhaaGreatDoor
open Go.Proofs.Tryz Go.RowKit Go.Shelf
variable{cs us zs:List Φ}
variable{T a6 b0 g j k lo lo' q sz t:Nat}
variable{W W' w w1 w2:Ω}
theorem Mv{e:Nat}(h:w.ownsRow lo e 1 (.slice g n a6) n cs):∀(j:Nat) v,cs[j]?=some v->w.cell? (g,0+j)=some v:=by intro j v hj;have hl:=h.1;have:=(yD.1 hj).1;rw[wK,xN h j ω,hj]
theorem Z7{e:Nat}(h:w.ownsRow lo e 1 (.slice g n a6) n cs):∃c8,w.heap[g]?=some (.cells c8 e (0,0))/\n<=a6/\a6<=maxLen/\c8.size=a6:=by
 rcases h.2 with⟨h0,_⟩|⟨g',g8,c8,hv,J,N,hnc,bw,lI,htake⟩
 .cases h0
 cases hv
 exact⟨c8,N,hnc,bw,ω⟩
theorem Kl (h2 B us:List Φ)(h:us.length<=B.length):Fa (h2++B) h2.length 0 us=h2++us++B.drop us.length:=by
 have e:h2++B=h2++B.take us.length++B.drop us.length:=by rw[sr,wG]
 rw[e,Ma h2 (B.take us.length) (B.drop us.length) us 0 (by rw[yr];omega) h2.length ω]
theorem Uc (ss:List ByteArray):∀u∈ss.map xW,u.oneCell'=true:=by intro u hu;obtain⟨s,_,rfl⟩:=wj.1 hu;rfl
theorem FI (ss:List ByteArray):Cb A0 ss=ss.map xW:=by
 induction ss with
 |nil=>rfl
 |cons s ss ih=>rw[IU,ih];rfl
def Cp(ss:List ByteArray)(k:Nat)(x:ByteArray):List ByteArray:=ss.take k++x::ss.drop k
theorem Jy (L:k<=ss.length):(Cp ss k x).length=ss.length+1:=by simp[Cp];omega
theorem Zj{x:Φ}(hz:zs.length=n+1)(hc:cs.length=n)(L:k<=n)(ht:zs.take k=cs.take k):Fa (Fa zs k 0 [x]) (k+1) 0 (cs.drop k)=cs.take k++x::cs.drop k:=by
 have hA:(cs.take k).length=k:=by rw[yr];omega
 have e:zs=cs.take k++zs.drop k:=by rw[<-ht,wG]
 have H:Fa zs k 0 [x]=cs.take k++[x]++(zs.drop k).drop 1:=by have:=Kl (cs.take k) (zs.drop k) [x] η;rw[<-e,hA] at this;exact this
 rw[H];have:=Kl (cs.take k++[x]) ((zs.drop k).drop 1) (cs.drop k) η;rw[yz,hA] at this;rw[show[x].length=1 from rfl] at this;rw[this];have A:((zs.drop k).drop 1).drop (cs.drop k).length=[]:=xY η;rw[A];simp
theorem Zk{x:Φ}(hz:zs.length=n+1)(hc:cs.length=n)(L:k<=n)(ht:zs.take k=cs.take k):Fa (Fa zs (k+1) 0 (cs.drop k)) k 0 [x]=cs.take k++x::cs.drop k:=by
 have hA:(cs.take k).length=k:=by rw[yr];omega
 have hB:(zs.take (k+1)).length=k+1:=by rw[yr];omega
 have H:Fa zs (k+1) 0 (cs.drop k)=zs.take (k+1)++cs.drop k:=by have:=Kl (zs.take (k+1)) (zs.drop (k+1)) (cs.drop k) η;rw[wG,hB] at this;rw[this];have A:(zs.drop (k+1)).drop (cs.drop k).length=[]:=xY η;rw[A,tR]
 rw[H];obtain⟨b,J⟩:∃b,zs.take (k+1)=cs.take k++[b]:=⟨zs[k],by rw[<-ht];exact List.take_succ_eq_append_getElem ω⟩
 rw[J];have:=Ma (cs.take k) [b] (cs.drop k) [x] 0 rfl k ω;rw[this];simp
theorem Vc{e C:Nat}{arr:Array Φ}(hs:arr.size=C)(hn:n<=C)(hm:C<=maxLen)(bs:lo<=w.heap.size):(w.alloc (.cells arr e)).ownsRow lo e 1 (.slice w n C) n (arr.toList.take n):=
 ⟨by rw[yr,Array.length_toList];omega,.inr ⟨w,C,arr,rfl,bs,yy _ _,hn,hm,ω,by rw[wX]⟩⟩
theorem dz (w:Ω)(g o:Nat)(us:List Φ):w.setCells g o us=IE w g o 0 us:=by rw[<-H7,xT]
theorem PR{vb:Nat}(v:Φ)(ss:List ByteArray)(x:ByteArray)(w:Ω)(h:AP lo 9 1 A0 w v ss)(bs:lo<=w.heap.size)(L:k<=ss.length)(hl:ss.length<=1000)
 (hN:w.heap[vb]?=some (.cells #[x] 9 (0,0)))(dr:∀g,v.ownBlock=some g->vb≠g):
 Ξ prog 226 #[v,.int .i64 k,.slice vb 1 1] w λe O=>∃v',e=.returned v'/\AP lo 9 1 A0 O v' (Cp ss k x)/\Γ lo w O:=by
 have jR:∀(j:Nat) v,[xW x][j]?=some v->w.cell? (vb,0+j)=some v:=by
  intro j v hj
  match j,hj with
  |0,hj=>simp at hj;subst hj;exact yx w vb 0 _ _ _ hN
 have j4:∀v∈[xW x],v.oneCell'=true:=by simp[xR]
 obtain⟨a,c,hv,hc,bw⟩:=h.rd.shape
 by_cases gU:ss.length+1<=c
 .
  have hx:∃g,v=.slice (some ⟨g,0,none⟩) ss.length c/\lo<=g:=by
   rcases h.2 with⟨h0,_⟩|⟨g,a6,c8,h0,J,_⟩
   .rw[hv] at h0;simp only[xQ] at h0;omega
   rw[hv] at h0;cases h0;exact⟨g,hv,J⟩
  obtain⟨g,rfl,N⟩:=hx;have R:w.ownsRow lo 9 1 (.slice g ss.length c) ss.length (ss.map xW):=by have:=h;unfold AP at this;rwa [FI] at this
  obtain⟨ys,gy,hJ⟩:=Sh R (ω:ss.length<=ss.length+1) gU;have lm:=hJ.1;rw[wX] at gy lm;obtain⟨c8,b9,_,_,lI⟩:=Z7 R;have jo:vb≠g:=dr g rfl;have ls:∀j,j<ss.length+1->(w.cell? ⟨g,0+j,none⟩).isSome=true:=by intro j hj;rw[Mv hJ j _ (yG (ω:j<ys.length))];rfl
  have bY:∀j,w.frozen? ⟨g,0+j,none⟩=false:=λj=>xV R _
  by_cases kq:k=ss.length
  .subst kq
   refine(Any2.slices_Insert_string_end_room Tryz.lays2n22 g 0 ss.length c vb 0 1 1 [.string x] w ψ gU (by unfold maxLen at bw;omega) rfl (λj hj=>by have:=ls (ss.length+j) ω;simpa[tz] using this) (λj _=>by have:=bY (ss.length+j);simpa[tz] using this) jR j4).mono ?_;rintro e O ⟨rfl,rfl⟩;obtain⟨r1,r2⟩:=Ee hJ ss.length 0 [.string x];rw[show w.setCells g (0+ss.length) [.string x]=IE w g ss.length 0 [.string x] by rw[wK,<-H7,xT]];refine⟨_,rfl,?_,AM (yN _ _) r2 N bs⟩;have e1:Fa ys ss.length 0 [.string x]=(Cp ss ss.length x).map xW:=by
    have e2:ys=ss.map xW++ys.drop ss.length:=by rw[<-gy,wG]
    have:=Kl (ss.map xW) (ys.drop ss.length) [.string x] η;rw[<-e2,List.length_map] at this;rw[this];have:(ys.drop ss.length).drop 1=[]:=xY η;simp[Cp,this]
   unfold AP;rw[Jy (yF _),FI,<-e1];exact r1
  have kr:k<ss.length:=ω;refine(Any2.slices_Insert_string_shift Tryz.lays2n22 g 0 ss.length c k vb 0 1 1 (ss.map xW) [.string x] w kr ψ gU (by unfold maxLen at bw;omega) jo χ rfl (Mv R) ls (λj _=>bY j) jR (Uc ss) j4
   9 9 1 c (by simp[World.shape?,hN]) (by simp[World.shape?,b9,lI]) ω (AK hN 0) (AK hN 1)).mono ?_
  rintro e O ⟨rfl,rfl⟩;have jX:Γ w w w.drew:=Ai (yN _ _) 1;have mJ:=BC hJ jX;obtain⟨r1,r2⟩:=Ee mJ (k+1) 0 ((ss.map xW).drop k);obtain⟨r3,r4⟩:=Ee r1 k 0 [.string x];rw[dz,dz,wK,wK];refine⟨_,rfl,?_,AM (AM (jX.mono bs) r2 N (yM bs jX.size)) r4 N (yM (yM bs jX.size) r2.size)⟩;rw[Zk (n:=ss.length) lm χ L (by rw[<-gy,uo,uY L])] at r3;unfold AP;rw[Jy L,FI];simpa[Cp,List.map_take,List.map_drop] using r3
 .have hE:∀a',a=some a'->∀(j:Nat) v,(ss.map xW)[j]?=some v->w.cell? (a'.add j)=some v:=by
   rintro a' rfl j v hj
   rcases h.2 with⟨h0,_⟩|⟨g,a6,c8,h0,J,_⟩
   .rw[hv] at h0;cases h0
   rw[hv] at h0
   cases h0;have R:=h;unfold AP at R;rw[hv,FI] at R;have:=Mv R j v hj;rw[wK] at this;rw[<-this];unfold Addr.add
   split<;>simp_all
  have lP:=grownCap_ge w (ss.length+1) c 9;have lO:=grownCap_le_maxLen w (ss.length+1) c 9 μ;rw[hv]
  by_cases kq:k=ss.length
  .subst kq
   refine(Any2.slices_Insert_string_end_grow Tryz.lays2n22 a ss.length c vb 0 1 1 (ss.map xW) [.string x] w ψ hc ω ω χ rfl (by rintro rfl;obtain⟨a',c',lr,_,_,_,jr,_⟩:=h.rd;rw[hv] at lr;cases lr;have:=jr rfl;omega) hE jR j4).mono ?_
   rintro e O ⟨rfl,rfl⟩;refine⟨_,rfl,?_,((Ai (yN _ _) 1:Γ lo w (w.drewN 1))).alloc bs _⟩;have:=Vc (lo:=lo) (e:=9) (n:=ss.length+1) (C:=grownCap w (ss.length+1) c 9) (w:=w.drew) (arr:=(ss.map xW++[xW x]).toArray++xX (xW ⟨#[]⟩).cells (grownCap w (ss.length+1) c 9 - (ss.length+1))) (by simp[xX,Value.cells];omega) lP lO bs;have e1:((ss.map xW++[xW x]).toArray++xX (xW ⟨#[]⟩).cells (grownCap w (ss.length+1) c 9 - (ss.length+1))).toList.take (ss.length+1)=(Cp ss ss.length x).map xW:=by rw[uz,uF χ];simp[Cp]
   rw[e1] at this;unfold AP;rw[Jy (yF _),FI];exact this
  have kr:k<ss.length:=ω;obtain⟨g,rfl,hcg⟩:∃g,a=some ⟨g,0,none⟩/\True:=by
   rcases h.2 with⟨h0,_⟩|⟨g,a6,c8,h0,J,_⟩
   .rw[hv] at h0;simp only[xQ] at h0;omega
   rw[hv] at h0;cases h0;exact⟨g,rfl,trivial⟩
  have R:w.ownsRow lo 9 1 (.slice g ss.length c) ss.length (ss.map xW):=by have:=h;unfold AP at this;rw[hv,FI] at this;exact this
  have gZ:=Any2.slices_Insert_string_grow Tryz.lays2n22 g 0 ss.length c k vb 0 1 1 (ss.map xW) [.string x] w kr ψ hc ω ω χ rfl (Mv R) jR (Uc ss) j4
  change Ξ prog 226 _ _ (λe O=>e=.returned (.slice w (ss.length+1) (grownCap w (ss.length+1) c 9))/\O=(((w.alloc (.cells (((ss.map xW).take k).toArray++xX (xW ⟨#[]⟩).cells (ss.length+1 - k)++xX (xW ⟨#[]⟩).cells (grownCap w (ss.length+1) c 9 - (ss.length+1))) 9)).drew.setCells w.heap.size k [xW x]).drew).setCells w.heap.size (k+1) ((ss.map xW).drop k)) at gZ
  refine gZ.mono ?_;rintro e O ⟨rfl,rfl⟩;have j2:=Vc (lo:=lo) (e:=9) (n:=ss.length+1) (C:=grownCap w (ss.length+1) c 9) (w:=w) (arr:=((ss.map xW).take k).toArray++xX (xW ⟨#[]⟩).cells (ss.length+1 - k)++xX (xW ⟨#[]⟩).cells (grownCap w (ss.length+1) c 9 - (ss.length+1))) (by simp[xX,Value.cells];omega) lP lO bs;have ir:Γ lo w (w.alloc (.cells (((ss.map xW).take k).toArray++xX (xW ⟨#[]⟩).cells (ss.length+1 - k)++xX (xW ⟨#[]⟩).cells (grownCap w (ss.length+1) c 9 - (ss.length+1))) 9)):=(yN lo w).alloc bs _;have hT:(((ss.map xW).take k).toArray++xX (xW ⟨#[]⟩).cells (ss.length+1 - k)++xX (xW ⟨#[]⟩).cells (grownCap w (ss.length+1) c 9 - (ss.length+1))).toList.take k=(ss.map xW).take k:=by rw[uz,uz,sr,uF η]
  generalize(((ss.map xW).take k).toArray++xX (xW ⟨#[]⟩).cells (ss.length+1 - k)++xX (xW ⟨#[]⟩).cells (grownCap w (ss.length+1) c 9 - (ss.length+1)))=arr at j2 ir hT ⊢;generalize hwa:w.alloc (.cells arr 9)=wa at j2 ir ⊢;have kE:Γ wa wa wa.drew:=Ai (yN _ _) 1;obtain⟨r1,r2⟩:=Ee (BC j2 kE) k 0 [.string x];have kD:Γ (IE wa.drew w k 0 [.string x]).heap.size (IE wa.drew w k 0 [.string x]) (IE wa.drew w k 0 [.string x]).drew:=Ai (yN _ _) 1;obtain⟨r3,r4⟩:=Ee (BC r1 kD) (k+1) 0 ((ss.map xW).drop k);rw[dz,dz];have s0:lo<=wa.heap.size:=yM bs ir.size;have b1:=AM (ir.trans (kE.mono s0)) r2 bs (yM s0 kE.size);have s1:lo<=(IE wa.drew w k 0 [.string x]).heap.size:=yM bs b1.size;refine⟨_,rfl,?_,AM (b1.trans (kD.mono s1)) r4 bs (yM s1 kD.size)⟩;have mh:=j2.1;rw[Zj (n:=ss.length) (by simpa using mh) χ L (by rw[uo,uY ω];exact hT)] at r3;unfold AP;rw[Jy L,FI];simpa[Cp,List.map_take,List.map_drop] using r3
def dQ(ss:List ByteArray)(x:ByteArray)(t:Nat):ByteArray:=if t<ss.length then Cz ss t else x
theorem WV (h:k<ss.length):ss[k]=Cz ss k:=by simp[Cz,h]
def ER(ss:List ByteArray)(x:ByteArray):Nat:=(ss.takeWhile λy=>!OD y x).length
theorem Li:ER ss x<=ss.length:=(List.takeWhile_prefix _).length_le
theorem SP (x:ByteArray):OE x x=false:=by
 cases h:OE x x
 .rfl
 have:=Lf.1 h
 exact absurd this (List.lt_irrefl _)
theorem Ol (h:t<ER ss x):OE (Cz ss t) x=true:=by
 have hm:Cz ss t∈ss.takeWhile λy=>!OD y x:=by
  have H:(ss.takeWhile λy=>!OD y x)[t]?=ss[t]? :=by
   rw[<-xB (p:=λy=>!OD y x) (l:=ss)];rw[xB]
   conv=>rhs;rw[<-xB (p:=λy=>!OD y x) (l:=ss)]
   rw[List.getElem?_append_left h]
  have hl:t<ss.length:=yt h Li;rw[HY hl] at H;exact yw H
 simpa[Np] using MQ hm
theorem Om (hs:ss.Pairwise (λa b=>OE a b=true))(h:ER ss x<=t)(ht:t<ss.length):OE (Cz ss t) x=false:=by
 have hp:OE (Cz ss (ER ss x)) x=false:=by
  have ar:ER ss x<ss.length:=ω;have H:(ss.dropWhile λy=>!OD y x).head?=some (Cz ss (ER ss x)):=by
   have e:=xB (p:=λy=>!OD y x) (l:=ss);have A:(rQ (λy=>!OD y x) ss++List.dropWhile (λy=>!OD y x) ss)[(rQ (λy=>!OD y x) ss).length]?=some (Cz ss (ER ss x)):=by rw[e];exact HY ar
   rw[List.getElem?_append_right (yF _)] at A;simp only[Nat.sub_self] at A;rw[List.head?_eq_getElem?];exact A
  have h3:=List.head?_dropWhile_not (λy=>!OD y x) ss;rw[H] at h3;simpa[Np] using h3
 by_cases e:t=ER ss x
 .rw[e];exact hp
 cases hx:OE (Cz ss t) x
 .rfl
 exfalso
 rw[wO] at hs;have h4:=hs (ER ss x) t ω ht ω;have e1:ss[ER ss x]' ω=Cz ss (ER ss x):=WV _;have e2:ss[t]=Cz ss t:=by simp[Cz,ht]
 rw[e1,e2] at h4;rw[Pm h4 hx] at hp;cases hp
theorem Vo (hs:ss.Pairwise (λa b=>OE a b=true)):Lib.bsGo (λt=>Op.bytesLess (dQ ss x t).toList x.toList) ss.length 0 ss.length=ER ss x:=by
 refine Lib.bsGo_spec _ (ER ss x) (λt ht=>?_) (λt ht=>?_) _ _ _ ω ω Li
 .have hl:t<ss.length:=yt ht Li
  simp only[dQ,hl,if_true];exact Ol ht
 by_cases hl:t<ss.length
 .simp only[dQ,hl,if_true]
  exact Om hs ht hl
 simp only[dQ,hl,if_false]
 exact SP x
theorem Yb (hs:ss.Pairwise (λa b=>OE a b=true)):(decide (ER ss x<ss.length/\dQ ss x (ER ss x)=x))=ss.any (λy=>decide (y=x)):=by
 rw[wL,decide_eq_true_eq,LU];constructor
 .rintro⟨H,A⟩
  simp only[dQ,H,if_true] at A;exact⟨_,yw (HY H),by simp[A]⟩
 rintro⟨y,hy,he⟩
 obtain rfl:y=x:=by simpa using he
 obtain⟨j,hj,rfl⟩:=Im (d:=⟨#[]⟩) hy;have e:ER ss (ss.getD j ⟨#[]⟩)=j:=by
  rcases Nat.lt_trichotomy (ER ss (ss.getD j ⟨#[]⟩)) j with h|h|h
  .exfalso
   have H:=Om hs (yF _) (x:=ss.getD j ⟨#[]⟩) ω;rw[wO] at hs;have h4:=hs _ j ω hj h;have e1:ss[ER ss (ss.getD j ⟨#[]⟩)]' ω=Cz ss (ER ss (ss.getD j ⟨#[]⟩)):=WV _;have e2:ss[j]=ss.getD j ⟨#[]⟩:=by simp[hj]
   rw[e1,e2,H] at h4;cases h4
  .exact h
  exfalso
  have:=Ol h;rw[show Cz ss j=ss.getD j ⟨#[]⟩ from rfl,SP] at this;cases this
 rw[e];exact⟨hj,by simp[dQ,hj,Cz]⟩
theorem Wa:Cp ss (ER ss x) x=Rb ss x:=by
 have mf:∀h2 B:List ByteArray,h2++B=ss->ss.take h2.length=h2/\ss.drop h2.length=B:=by rintro h2 B rfl;simp
 obtain⟨k1,k2⟩:=mf _ _ (xB (p:=λy=>!OD y x) (l:=ss));unfold Cp Rb ER;rw[k1,k2]
theorem PJ (v:Φ)(ss:List ByteArray)(x:ByteArray)(w:Ω)(h:BZ w v ss)(hs:BY ss=true):
 Ξ prog 225 #[v,.string x] w λe O=>e=.returned (.tuple #[.int .i64 ((ER ss x:Nat):Int),.bool (ss.any λy=>decide (y=x))])/\Γ w w O:=by
 obtain⟨H,A,h3⟩:=Ew.1 hs;obtain⟨a,c,rfl,hc,bw,H0⟩:=BN.open Fj ψ h
 by_cases h0:ss.length=0
 .obtain rfl:ss=[]:=xY h0
  refine(Any2.slices_BinarySearch_string_empty Tryz.lays2n26 a c x w).mono ?_;rintro e O ⟨rfl,rfl⟩;exact⟨rfl,yN _ _⟩
 obtain⟨b,a7,rfl,_⟩:=H0.str (ω:0<ss.length)
 have b5:∀j,j<ss.length->w.cell? ⟨b,a7+j,none⟩=some (.string (dQ ss x j)):=by intro j hj;obtain⟨b',f5,e,ho⟩:=H0.str hj;cases e;simp only[dQ,hj,if_true];exact ho
 have gZ:=Any2.slices_BinarySearch_string Tryz.lays2n26 b a7 ss.length c (dQ ss x) x w ω b5;rw[Vo A,Yb A] at gZ;exact On (gZ.mono λe O ⟨he,hq⟩=>⟨he,hq⟩)
def aa(w:Ω)(ss:List ByteArray)(x:ByteArray)(e:Ending)(O:Ω):Prop:=∃v',e=.returned (.tuple #[v',.bool (BW ss x).2])/\AP w.heap.size 9 1 A0 O v' (BW ss x).1/\Γ w w O
theorem Tg (v:Φ)(ss:List ByteArray)(x:ByteArray)(w:Ω)(h:BZ w v ss)(hs:Db ss)(hx:x.size<=maxLen)(aq:BY ss=true)(hr:BT x=true):
 Ξ prog 186 #[v,.string x] w (aa w ss x):=by
 have hl:=(Ew.1 aq).2.2;have C1:=AA (by have:=Gy v ss w h hs;rw[aq] at this;exact this);have CX:=AA (λW=>by have:=Dt x W hx;rw[hr] at this;exact this);have CB:=AA (λW (E:Γ w w W)=>PJ v ss x W (BN.below h E) aq);have C2:=AA (λW (E:Γ w w W)=>Jk v ss W (BN.below h E) ω);obtain⟨a,c,rfl,hc,bw⟩:=h.shape;have lA:ss.any (λy=>decide (y=x))=true->BW ss x=(ss,true):=λh=>by unfold BW;rw[if_pos h]
 have lD:ss.any (λy=>decide (y=x))=false->ss.length=6->BW ss x=(ss,false):=λh h6=>by unfold BW;rw[if_neg (by simp[h]),if_pos h6]
 have lx:ss.any (λy=>decide (y=x))=false->ss.length≠6->BW ss x=(Cp ss (ER ss x) x,true):=λh h6=>by unfold BW;rw[if_neg (by simp[h]),if_neg h6,Wa]
 have nn:=AA lA;have nt:=AA lD;have ng:=AA lx;have fp:=Li (ss:=ss) (x:=x);clear h aq hs hx hr lA lD lx;go_in;go_wp2_with fail;refine C1.mono ?_;rintro r w1 ⟨rfl,bx⟩;go_wp2_with fail;refine(CX _).mono ?_;rintro r w2 ⟨rfl,al⟩;replace al:=bx.trans (al.mono bx.size);clear bx;go_wp2_with fail;refine(CB _ al).mono ?_;rintro r w3 ⟨rfl,cd⟩;replace cd:=al.trans (cd.mono al.size);clear al;have C3:=AA (C2 _ cd);have s3:=cd.size;cases gr:ss.any (λy=>decide (y=x))
 .by_cases h6:ss.length=6
  .have hW:=AA (nt gr h6)
   have t6:((ss.length:Int)==6)=true:=by simp[h6]
   clear gr h6;go_wp2_with (refine C3.mono ?_;rintro r w4 ⟨v4,rfl,R,cb⟩);go_ret2;exact⟨_,by rw[hW.u];rfl,by rw[hW.u];exact R.lower s3,cd.trans (cb.mono s3)⟩
  have hW:=AA (ng gr h6)
  have t6:((ss.length:Int)==6)=false:=by rw[beq_eq_false_iff_ne];omega
  clear gr h6;go_wp2_with fail;refine C3.mono ?_;rintro r w4 ⟨v4,rfl,R,cb⟩;have lM:=R.below (AG w4 (.cells #[x] 9));have CI:=AA (PR v4 ss x (w4.alloc (.cells #[x] 9)) lM (yM cb.size (AG _ _).size) fp ω (yy _ _) (λg N=>by have:=(yE R g N).2;omega));have kO:=cb.trans ((AG w4 (.cells #[x] 9)).mono cb.size);clear R lM cb;go_wp2_with (refine CI.mono ?_;rintro r w6 ⟨v6,rfl,j0,jD⟩);go_ret2;exact⟨_,by rw[hW.u];rfl,by rw[hW.u];exact j0.lower s3,cd.trans ((kO.trans jD).mono s3)⟩
 have hW:=AA (nn gr)
 clear gr;go_wp2_with (refine C3.mono ?_;rintro r w4 ⟨v4,rfl,R,cb⟩);go_ret2;exact⟨_,by rw[hW.u];rfl,by rw[hW.u];exact R.lower s3,cd.trans (cb.mono s3)⟩
end Go.Proofs.YtlcnbkkcplllhaaGreatDoor
namespace Go.Proofs.YtlcnbkkcplllhaaGreatDoor
open Go.Proofs.Tryz Go.RowKit
variable{m:List (List Int)}
variable{W W' w w1 w2:Ω}
theorem L5.word{a:Option Addr}(h:L5 w a m)(aq:CJ m=true){f i:Nat}(hf:f<12)(hi:i<4):
 ∃b a7 b2 cC c2,a=some ⟨b,a7,none⟩/\b<w.heap.size/\w.cell? ⟨b,a7+f,none⟩=some (.slice (some ⟨b2,cC,none⟩) 4 c2)/\b2<w.heap.size/\w.cell? ⟨b2,cC+i,none⟩=some (.int .i64 (Aw m f i)):=by
 obtain⟨hl,hr⟩:=Ak.1 aq;obtain⟨b,a7,u,rfl,ar,hc,jU⟩:=h f ω;have h4:=(BG.1 (hr f hf)).1;obtain⟨a2,c2,rfl,_,_,h1⟩:=jU.open;obtain⟨b2,cC,rfl,iz,gz⟩:=h1.cellAt (ω:i<(AJ m f).length);rw[h4] at hc;exact⟨b,a7,b2,cC,c2,rfl,ar,hc,iz,gz⟩
theorem Gx (aq:CJ m=true){f i:Nat}(hf:f<12)(hi:i<4):0<=Aw m f i/\Aw m f i<=9999:=by obtain⟨hl,hr⟩:=Ak.1 aq;obtain⟨h4,hw⟩:=BG.1 (hr f hf);exact hw _ (Dl ω)
def MU(f a:Nat)(b:Bool):Φ:=.agg #[f,.int .i64 ((a%4:Nat):Int),b]
def FY:Φ:=.agg #[θ,θ,υ]
def Ix(m:List (List Int))(root a:Nat):Φ:=.tuple #[if(Cd m root a).1=0 then MU (Cd m root a).2.1 a (Cd m root a).2.2 else FY,.int .i64 (Cd m root a).1]
theorem XP (v:Φ)(m:List (List Int))(root a:Nat)(w:Ω)(h:Bn w v m)(aq:CJ m=true)(hr:root<12)(ha:a<64):
 Ξ prog 103 #[v,.int .i64 root,.int .i64 a] w λe O=>e=.returned (Ix m root a)/\Γ w w O:=by
 obtain⟨q,c,rfl,hc,bw,H0⟩:=h.open;have hl:=(Ak.1 aq).1;unfold maxLen at bw;rw[hl] at hc ⊢;have hA:=AA (λW=>Qw a W ha);obtain⟨b,a7,b2,cC,c2,rfl,J,ho,al,D2⟩:=H0.word aq hr (ω:a/16<4);have D':=((AG w (.cells #[θ,θ,υ] 127)).cell (p:=⟨b,a7+root,none⟩) J).trans ho;have lj:=((AG w (.cells #[θ,θ,υ] 127)).cell (p:=⟨b2,cC+a/16,none⟩) al).trans D2;have kk:=Gx aq hr (ω:a/16<4);have E1:=AA (λW=>Fl (Aw m root (a/16)) W ω);have hB:=AG w (.cells #[θ,θ,υ] 127);cases ei:Bx (Aw m root (a/16))
 .have S:=AA (show Ix m root a=.tuple #[FY,ϕ] by simp[Ix,Cd,ei])
  have V1:=AA (Ev ei);clear H0 ho D2 ei kk J al;go_in;go_wp2_with (first|(go_at_call 167;refine(hA _).mono ?_;rintro e O ⟨rfl,rfl⟩)|(go_at_call 158;refine(E1 _).mono ?_;rintro e O ⟨rfl,rfl⟩;rw[V1.u]));exact yB (v:=.tuple #[FY,ϕ]) (by simp[results,uR,go_sem,FY]) rfl ⟨by rw[S.u],hB⟩
 have ht:BQ (Aw m root (a/16))<12:=Eh ei
 have V1:=AA (Er ei);obtain⟨b',f5,b3,ki,c3,e,gg,D3,cd,D4⟩:=H0.word aq ht (ω:a/4%4<4);cases e;have om:=((AG w (.cells #[θ,θ,υ] 127)).cell (p:=⟨b,a7+BQ (Aw m root (a/16)),none⟩) J).trans D3;have ol:=((AG w (.cells #[θ,θ,υ] 127)).cell (p:=⟨b3,ki+a/4%4,none⟩) cd).trans D4;have jm:=Gx aq ht (ω:a/4%4<4);have E2:=AA (λW=>Fl (Aw m (BQ (Aw m root (a/16))) (a/4%4)) W ω);cases hD:Bx (Aw m (BQ (Aw m root (a/16))) (a/4%4))
 .have S:=AA (show Ix m root a=.tuple #[FY,.int .i64 2] by simp[Ix,Cd,ei,hD])
  have V2:=AA (Ev hD);clear H0 ho D2 D3 D4 ei hD kk jm J al cd gg;go_in;go_wp2_with fail;refine(hA _).mono ?_;rintro e O ⟨rfl,rfl⟩;go_wp2_with fail;refine(E1 _).mono ?_;rintro e O ⟨rfl,rfl⟩;rw[V1.u];go_wp2_with (refine(E2 _).mono ?_;rintro e O ⟨rfl,rfl⟩;rw[V2.u]);exact yB (v:=.tuple #[FY,.int .i64 2]) (by simp[results,uR,go_sem,FY]) rfl ⟨by rw[S.u],hB⟩
 have S:=AA (show Ix m root a=.tuple #[.agg #[.int .i64 ((BQ (Aw m (BQ (Aw m root (a/16))) (a/4%4)):Nat):Int),.int .i64 ((a%4:Nat):Int),.bool (LY (Aw m root (a/16))&&LY (Aw m (BQ (Aw m root (a/16))) (a/4%4)))],θ] by simp[Ix,Cd,ei,hD,MU])
 have V2:=AA (Er hD);cases hx:LY (Aw m root (a/16))
 all_goals
  rw[hx] at V1 S;clear H0 ho D2 D3 D4 ei hD kk jm J al cd gg hx;go_in;go_wp2_with fail;refine(hA _).mono ?_;rintro e O ⟨rfl,rfl⟩;go_wp2_with fail;refine(E1 _).mono ?_;rintro e O ⟨rfl,rfl⟩;rw[V1.u];go_wp2_with fail;refine(E2 _).mono ?_;rintro e O ⟨rfl,rfl⟩;rw[V2.u];go_wp2_with fail
 .exact yB (v:=.tuple #[.agg #[.int .i64 ((BQ (Aw m (BQ (Aw m root (a/16))) (a/4%4)):Nat):Int),.int .i64 ((a%4:Nat):Int),υ],θ]) (by simp[results,uR,go_sem]) rfl ⟨by rw[S.u,Bool.false_and],(yN _ _).alloc (yF _) _⟩
 exact yB (v:=.tuple #[.agg #[.int .i64 ((BQ (Aw m (BQ (Aw m root (a/16))) (a/4%4)):Nat):Int),.int .i64 ((a%4:Nat):Int),.bool (LY (Aw m (BQ (Aw m root (a/16))) (a/4%4)))],θ]) (by simp[results,uR,go_sem]) rfl ⟨by rw[S.u,Bool.true_and],(yN _ _).alloc (yF _) _⟩
theorem L5.row4{a:Option Addr}(h:L5 w a m)(aq:CJ m=true){f:Nat}(hf:f<12):
 ∃b a7 b2 cC c2,a=some ⟨b,a7,none⟩/\b<w.heap.size/\w.cell? ⟨b,a7+f,none⟩=some (.slice (some ⟨b2,cC,none⟩) 4 c2)/\b2<w.heap.size/\4<=c2/\∀i,i<4->w.cell? ⟨b2,cC+i,none⟩=some (.int .i64 (Aw m f i)):=by
 obtain⟨hl,hr⟩:=Ak.1 aq;obtain⟨b,a7,u,rfl,ar,hc,jU⟩:=h f ω;have h4:=(BG.1 (hr f hf)).1;obtain⟨a2,c2,rfl,gz,_,h1⟩:=jU.open;obtain⟨b2,cC,rfl,iz,_⟩:=h1.cellAt (ω:0<(AJ m f).length);rw[h4] at hc gz;refine⟨b,a7,b2,cC,c2,rfl,ar,hc,iz,gz,λi hi=>?_⟩;obtain⟨b',f5,e,_,b5⟩:=h1.cellAt (ω:i<(AJ m f).length);cases e;exact b5
def Ie(m:List (List Int))(ns:List Nat):List Nat:=ns.flatMap λn=>named (AJ m n)
variable{ns:List Nat}
variable{T a6 b0 g j k lo lo' q sz t:Nat}
theorem ZL (h:k<ns.length):Ie m (ns.take (k+1))=Ie m (ns.take k)++named (AJ m (ns.getD k 0)):=by rw[DQ (A9 (d:=0) h)];simp[Ie]
theorem KR (h:j<r.length):named (r.take (j+1))=named (r.take j)++(if Bx (r.getD j 0) then[BQ (r.getD j 0)] else[]):=by
 rw[DQ (A9 (d:=0) h)];unfold named;rw[wE,xM]
 congr 1
 rw[vP,vo]
 split<;>simp_all
theorem ME (aq:CJ m=true)(hn:∀n∈ns,n<12):(Ie m ns).length<=4*ns.length:=by
 induction ns with
 |nil=>simp[Ie]
 |cons n ns ih=>have H:=ih (λx hx=>hn x (List.mem_cons_of_mem _ hx));have A:=Fi (r:=AJ m n);have h3:=(BG.1 ((Ak.1 aq).2 n (hn n (List.mem_cons_self ..)))).1;simp only[Ie,List.flatMap_cons,yz,vV] at H ⊢;omega
theorem MF:g∈Ie m ns↔∃n∈ns,g∈named (AJ m n):=by simp[Ie]
theorem Zc (h:k<ns.length):ns.getD k 0∈ns:=Dl h
theorem PZ{e:Nat}{xs:List Φ}(h:O.ownsRow lo e sz v n xs)(N:w.grownBy O v.ownBlock)(bs:lo<=w.heap.size):Γ lo w O:=(yN lo w).grown N bs (λk L=>(yE h k L).1)
theorem Rc{e:Nat}{xs:List Φ}(h:O.ownsRow lo e sz v n xs)(hv:v.ownBlock=u.ownBlock)(N:w.grownBy O u.ownBlock)(bs:lo<=w.heap.size):Γ lo w O:=PZ h (hv▸N) bs
def ah(m:List (List Int))(ns:List Nat)(w:Ω)(e:Ending)(O:Ω):Prop:=∃v' ts,e=.returned v'/\AE w O v' (A8 ts)/\(∀g,g∈ts↔g∈Ie m ns)/\ts.length<=(Ie m ns).length/\Γ w w O
theorem UY (v v2:Φ)(m:List (List Int))(ns:List Nat)(w:Ω)(h:Bn w v m)(aq:CJ m=true)(A:A3 w v2 (A8 ns))(hn:∀n∈ns,n<12)(hl:ns.length<=1000):
 Ξ prog 162 #[v,v2] w (ah m ns w):=by
 obtain⟨q,c,rfl,hc,bw,H0⟩:=h.open;obtain⟨q2,c2,rfl,gz,f8,H2⟩:=A.open;have b7:=(Ak.1 aq).1;have kQ:=ME aq hn;unfold maxLen at bw f8;rw[b7] at hc ⊢;rw[Cx] at gz ⊢;have Hn:=AA hn;have cP:=AA aq;have HR:=AA H0;have HI:=AA H2;clear h A hn aq H0 H2 b7;go_in;go_wp2_with fail;go_loopw [5,15] (λo i wr=>∃k:Nat,k<=ns.length/\i=.int .i64 k/\AE w wr o (A8 (Ie m (ns.take k)))/\Γ w w wr) (λ_ i _=>ns.length - (intOf i).toNat)
 exact⟨0,yu _,rfl,xo _ _ _ _,yN _ _⟩
 obtain⟨k,L,rfl,R,ad⟩:=hrel
 by_cases ar:k<ns.length
 .obtain⟨b,a7,rfl,J,D0⟩:=HI.cellAt (show k<(A8 ns).length by rw[Cx];exact ar)
  rw[SY ar] at D0;have ho:=(ad.cell (p:=⟨b,a7+k,none⟩) J).trans D0;have iw:=Hn _ (Zc ar);obtain⟨bm,dg,br,f4,cr,rfl,g0,M0,i5,kF,W0⟩:=HR.row4 cP iw;have M:=(ad.cell (p:=⟨bm,dg+ns.getD k 0,none⟩) g0).trans M0;have HW:=AA W0;have fk:=AA (BG.1 ((Ak.1 cP.u).2 _ iw)).1;have AS:=AA (ZL (m:=m) ar);generalize hnk:ns.getD k 0=nk at*;have og:=AA hnk;have nQ:(Ie m (ns.take k)).length<=4*k:=by
   have:=ME cP (ns:=ns.take k) (λn hn=>Hn n (List.mem_of_mem_take hn));rw[yr] at this;omega
  clear D0 M0 W0 hnk;have HO:=AA R;have HB:=AA ad;clear R;go_wp2_with fail;clear ho M ad;obtain⟨wo,rfl⟩:∃wo:Ω,wo=wr:=⟨_,rfl⟩
  go_loopw [5,24] (λo i wi=>∃j:Nat,j<=4/\i=.int .i64 j/\AE w wi o (A8 (Ie m (ns.take k)++named ((AJ m nk).take j)))/\Γ w w wi) (λ_ i _=>4 - (intOf i).toNat)
  exact⟨0,ω,rfl,by simpa[named] using HO.u,HB.u⟩
  obtain⟨j,hj,rfl,gs,bB⟩:=hrel
  by_cases ft:j<4
  .have W:=(bB.cell (p:=⟨br,f4+j,none⟩) i5).trans (HW j ft)
   have NT:=AA (KR (r:=AJ m nk) (j:=j) (by rw[fk.u];exact ft));have wb:=Gx cP iw ft;have CE:=AA (λW=>Fl (Aw m nk j) W ω);have j9:=AA gs;have fl:(Ie m (ns.take k)++named ((AJ m nk).take j)).length<=4*k+4:=by have:=Fi (r:=(AJ m nk).take j);rw[yr] at this;rw[yz];omega
   have gb:=bB.size;clear gs;cases N:Bx (Aw m nk j)
   .have HK:=AA (Ev N)
    have hW:=AA (show Ie m (ns.take k)++named ((AJ m nk).take (j+1))=Ie m (ns.take k)++named ((AJ m nk).take j) by rw[NT.u,show(AJ m nk).getD j 0=Aw m nk j from rfl,N];simp);clear N;go_wp2_with (go_at_call 158;refine(CE _).mono ?_;rintro e O ⟨rfl,rfl⟩;rw[HK.u]);go_roundw;exact⟨j+1,ω,ξ,by rw[hW.u];exact j9.u,bB⟩;simp[intOf];omega
   have HK:=AA (Er N)
   have hW:=AA (show Ie m (ns.take k)++named ((AJ m nk).take (j+1))=(Ie m (ns.take k)++named ((AJ m nk).take j))++[BQ (Aw m nk j)] by rw[NT.u,show(AJ m nk).getD j 0=Aw m nk j from rfl,N];simp);clear N;generalize Ie m (ns.take k)++named ((AJ m nk).take j)=acc at*;have jP:=AA (λob=>(by have:=BC j9 (AG wr ob);rwa [Cx] at this:(wr.alloc ob).ownsRow w.heap.size 3 1 u5 acc.length ((A8 acc).map (yl .i64))));go_wp2_with (first|(go_at_call 158;refine(CE _).mono ?_;rintro e O ⟨rfl,rfl⟩;rw[HK.u])|(at_builtin;go_must (refine Em (lo:=w.heap.size) (v:=u5) (n:=acc.length) (xs:=(A8 acc).map (yl .i64)) (m:=1) (news:=[.int .i64 ((BQ (Aw m nk j):Nat):Int)]) rfl rfl 3 (.int .i64 0) 1 8 underlying29 Tryz.zS rfl ψ rfl (jP _) rfl (Rd.zM _ #[_] _ 1 1 _ rfl χ ζ) (by simp[xR]) μ ω η ?_;intro o' w3 k1 k2 k3)));have hO:AE w w3 o' (A8 (acc++[BQ (Aw m nk j)])):=by unfold AE;rw[Cx,yz];simpa[A8] using k1
   rw[<-hW.u] at hO;have RR:=AA hO;clear k1 k2 hO;go_roundw;exact⟨j+1,ω,ξ,RR.u,(bB.trans ((AG _ _).mono bB.size)).trans k3⟩;simp[intOf];omega
  obtain rfl:j=4:=ω;have hW:Ie m (ns.take k)++named ((AJ m nk).take 4)=Ie m (ns.take (k+1)):=by rw[AS.u,xz (l:=AJ m nk) (i:=4) (ve fk.u)]
  rw[hW] at gs;clear hW;go_wp2;go_roundw;exact⟨k+1,ω,ξ,gs,bB⟩;simp[intOf];omega
 obtain rfl:k=ns.length:=ω;rw[xD] at R;have CS:=AA (OL u5 (Ie m ns) wr R ω);clear R;go_wp2_with fail;refine CS.mono ?_;rintro e w1 ⟨rfl,ts,t1,t2,iN,ei⟩;have bx:=ad.trans (PZ iN ei ad.size);have jT:=bx.size;have CC:=AA (Lq u5 ts w1 iN ω);clear iN ei ad;go_wp2_with (refine CC.mono ?_;rintro e w2 ⟨v',rfl,jo,kh,s1,s2,hJ,hD⟩);go_ret;exact⟨_,kh,rfl,hJ,λg=>(s2 g).trans (t2 g),ω,bx.trans (Rc hJ jo hD jT)⟩
def Nl(m:List (List Int))(root:Int)(w:Ω)(e:Ending)(O:Ω):Prop:=∃v' ts,e=.returned v'/\AE w O v' (A8 ts)/\(∀g,g∈ts↔g∈Bi m root)/\ts.length<=100/\Γ w w O
theorem aF:g∈Bi m (n:Int)↔g=n∨g∈Ie m [n]∨g∈Ie m (Ie m [n]):=by
 rw[EC];simp only[yq,MF,xy,exists_eq_left];constructor
 .rintro⟨_,h⟩;exact h
 intro h;exact⟨ω,h⟩
theorem Xc{b:List Nat}(h:∀g,g∈a↔g∈b)(g:Nat):g∈Ie m a↔g∈Ie m b:=by
 rw[MF,MF];exact exists_congr λn=>and_congr_left λ_=>h n
theorem MS (w:Ω)(x:Int):AE w (w.alloc (.cells #[x] 3)) (.slice w 1 1) [x]:=World.ownsRow_lit (base:=w.heap.size) w #[.int .i64 x] 1 (yF _) ζ χ
theorem Wc (n:Nat):A8 [n]=[(n:Int)]:=rfl
theorem bo (a b:List Nat):A8 (a++b)=A8 a++A8 b:=by simp[A8]
theorem OQ{b:List Nat}(h:w.ownsRow lo 3 1 v (a.length+b.length) ((A8 a).map (yl .i64)++(A8 b).map (yl .i64))):AE lo w v (A8 (a++b)):=by unfold AE;rw[Cx,yz,bo,xM];exact h
theorem QV (v:Φ)(m:List (List Int))(n:Nat)(w:Ω)(h:Bn w v m)(aq:CJ m=true)(hn:n<12):
 Ξ prog 100 #[v,.int .i64 n] w (Nl m (n:Int) w):=by
 have im:=ME aq (ns:=[n]) (by simpa using hn);have C1:=AA (λW v2 ns (E:Γ w w W) (A:A3 W v2 (A8 ns)) (jV:∀n∈ns,n<12) (hl:ns.length<=1000)=>UY v v2 m ns W (by obtain⟨K,a,b⟩:=h;exact Bn.below ⟨K,a,b⟩ E) aq A jV hl);have il:∀ns:List Nat,∀g∈Ie m ns,g<12:=by intro ns g N;obtain⟨_,_,N⟩:=MF.1 N;exact F9 N
 have kQ:∀ns:List Nat,(∀g∈ns,g<12)->(Ie m ns).length<=4*ns.length:=λns h=>ME aq h
 obtain⟨q,c,rfl,hc,bw,_⟩:=h.open;have ni:=AA il;have nv:=AA kQ;have i0:(0:Int)<=(n:Int):=ω;clear h aq hc bw il kQ;go_in;go_wp2_with fail;have b1:=AG w (.cells #[n] 3);have b2:=Hv w (.cells #[n] 3) (.cells #[n] 3);have O1:=AA ((MS w (n:Int)).below (AG _ (.cells #[n] 3)));have O2:=MS (w.alloc (.cells #[n] 3)) (n:Int);rw[xt] at O2;refine(C1 _ _ [n] b2 (by rw[Wc];exact AE.rd O2) (by simpa using hn) χ).mono ?_;rintro e w1 ⟨v1,t1,rfl,P1,m1,l1,bx⟩;have Q1:=AA (O1.below bx);have B1:=b2.trans (bx.mono b2.size);have s1:=B1.size;obtain⟨a1,c1,rfl,_,_,_⟩:=P1.rd.open;have k7:=AA (AE.rd P1);rw[Cx] at k7 ⊢;clear bx b1 b2 O2 P1 O1;have R1:=AA (show Rd w1 (.slice a1 t1.length c1) 1 t1.length ((A8 t1).map (yl .i64)) by have:=k7.u;unfold A3 at this;rwa [Cx] at this);have H:t1.length<=4:=by simp at im;omega
 go_wp2_with (at_builtin;go_must (refine Em (lo:=w.heap.size) (v:=.slice w 1 1) (n:=1) (xs:=[.int .i64 n]) (m:=t1.length) (news:=(A8 t1).map (yl .i64)) rfl rfl 3 (.int .i64 0) 1 8 underlying29 Tryz.zS rfl ψ rfl Q1 rfl R1 MP μ ω ω ?_;intro o2 w2 k1 k2 k3));have O3:=AA (OQ (a:=[n]) k1);have B2:=B1.trans k3;have s2:=B2.size;clear k1 k2 k3 Q1 R1 k7 B1;have b3:=B2.trans ((AG w2 (.cells #[n] 3)).mono s2);have O4:=AA (O3.below (AG w2 (.cells #[n] 3)));have CN:=AA (C1 _ _ [n] b3 (by rw[Wc];exact AE.rd (MS w2 (n:Int))) (by simpa using hn) χ);clear O3;go_wp2_with fail;refine CN.mono ?_;rintro e w3 ⟨v3,t3,rfl,P3,m3,l3,cd⟩;have O5:=AA (O4.below cd);have B3:=b3.trans (cd.mono b3.size);have s3:=B3.size;have h3:t3.length<=4:=by simp at im;omega
 have jf:∀g∈t3,g<12:=λg N=>ni _ g ((m3 g).1 N)
 have CM:=AA (C1 _ v3 t3 B3 (AE.rd P3) jf ω);have h4:=nv t3 jf;have M3:=AA m3;have M1:=AA m1;clear cd b3 P3 O4 CN m3 m1;go_wp2_with fail;refine CM.mono ?_;rintro e w4 ⟨v4,t4,rfl,P4,m4,l4,cb⟩;have O6:=AA (O5.below cb);have lW:=AA (show w4.ownsRow w.heap.size 3 1 o2 ([n]++t1).length ((A8 ([n]++t1)).map (yl .i64)) by have:=O6.u;unfold AE at this;rwa [Cx] at this);have B4:=B3.trans (cb.mono s3);have s4:=B4.size;have R4:=AA (show Rd w4 v4 1 t4.length ((A8 t4).map (yl .i64)) by have:=AE.rd P4;unfold A3 at this;rwa [Cx] at this);have M4:=AA m4;have nN:([n]++t1).length<=5:=η;clear cb P4 m4 O5;have ef:=AA (show ∀g,g∈(([n]++t1)++t4)↔g∈Bi m (n:Int) by intro g;rw[aF,wI,wI,xy,M1.u,M4.u,Xc M3.u,or_assoc])
 generalize[n]++t1=acc at*;go_wp2_with (at_builtin;go_must (refine Em (lo:=w.heap.size) (v:=o2) (n:=acc.length) (xs:=(A8 acc).map (yl .i64)) (m:=t4.length) (news:=(A8 t4).map (yl .i64)) rfl rfl 3 (.int .i64 0) 1 8 underlying29 Tryz.zS rfl ψ rfl lW rfl R4 MP μ ω ω ?_;intro o5 w5 k1 k2 k3));have O7:=OQ k1;have B5:=B4.trans k3;have s5:=B5.size;have ly:(acc++t4).length<=21:=by rw[yz];omega
 have CS:=AA (OL o5 (acc++t4) w5 O7 ω);generalize acc++t4=fin at*;clear k1 k2 k3 O7 O6 lW R4 B4;go_wp2_with fail;refine CS.mono ?_;rintro e w6 ⟨rfl,ts,u1,u2,iN,ei⟩;have B6:=B5.trans (PZ iN ei s5);have s6:=B6.size;have CC:=AA (Lq o5 ts w6 iN ω);clear iN ei B5;go_wp2_with (refine CC.mono ?_;rintro e w7 ⟨v',rfl,jo,kh,y1,y2,hJ,hD⟩);go_ret;exact⟨_,kh,rfl,hJ,λg=>((y2 g).trans (u2 g)).trans (ef g),ω,B6.trans (Rc hJ jo hD s6)⟩
theorem QW (v:Φ)(m:List (List Int))(r:Int)(w:Ω)(h:Bn w v m)(hr:r<0):Ξ prog 100 #[v,.int .i64 r] w (Nl m r w):=by
 obtain⟨q,c,rfl,_,_,_⟩:=h.open;have S:=AA (show ∀g,g∈([]:List Nat)↔g∈Bi m r from λg=>⟨(λh=>by cases h),(λh=>by have:=(EC.1 h).1;omega)⟩);clear h;go_in;go_wp2;go_ret;exact⟨_,[],rfl,xo _ _ _ _,S.u,ψ,yN _ _⟩
theorem Qz (F:Nat)(gt:Array Φ)(p:Int->Bool)(v:Φ)(xs:List Int)(w:Ω)(h:A3 w v xs)
 (hF:∀args w,(callFunc F args).run prog w=.ok (.enter F args) w)(hf:∀x,x∈xs->∀W,Γ w.heap.size w W->Ξ prog F (#[.int .i64 x]++gt) W λe W'=>e=.returned (.bool (p x))/\Γ W.heap.size W W'):
 Ξ prog 215 #[v,.func (.func F) #[] gt] w λe O=>e=.returned (.int .i64 (GN p xs))/\Γ w w O:=by
 obtain⟨a,c,rfl,hc,bw,H0⟩:=h.open;clear h;unfold maxLen at bw;have Hf:=AA hf;clear hf;go_in;go_wp2;go_loopw [8] (λi wr=>∃k:Nat,k<=xs.length/\i=.int .i64 k/\(∀(j:Nat) x,j<k->xs[j]?=some x->p x=false)/\Γ w w wr) (λi _=>xs.length - (intOf i).toNat)
 exact⟨0,yu _,rfl,λj x hj=>absurd hj (xU _),yN _ _⟩
 obtain⟨k,L,rfl,au,ad⟩:=hrel;have be:=AA au;clear au
 by_cases ar:k<xs.length
 .have hx:xs[k]?=some (nth xs k):=SZ ar
  obtain⟨b,a7,rfl,bC,l9⟩:=H0.cellAt ar;have D0:=(ad.cell (p:=⟨b,a7+k,none⟩) bC).trans l9;clear l9;have Hx:=AA hx;have Hc:=AA (Hf _ (yw hx) wr ad);clear hx;cases hp:p (nth xs k)
  .have Hp:=AA hp;clear hp
   go_wp2_with (refine Hc.mono ?_;rintro e O ⟨rfl,al⟩;rw[Hp.u]);go_roundw;exact⟨k+1,ω,ξ,JU be Hx Hp.u,ad.trans (al.mono ad.size)⟩;simp[intOf];omega
  have Hp:=AA hp;clear hp
  have iu:=AA (Kx Hx be Hp.u);go_wp2_with (refine Hc.mono ?_;rintro e O ⟨rfl,al⟩;rw[Hp.u]);go_ret;exact⟨DI iu.symm,ad.trans (al.mono ad.size)⟩
 have iu:=AA (JX (p:=p) (xs:=xs) (λj x hx=>be j x (by have:=(yD.1 hx).1;omega) hx))
 go_wp2;go_ret;exact⟨DI iu.symm,ad⟩
theorem KZ (F:Nat)(gt:Array Φ)(p:Int->Bool)(v:Φ)(xs:List Int)(w:Ω)(h:A3 w v xs)
 (hF:∀args w,(callFunc F args).run prog w=.ok (.enter F args) w)(hf:∀x,x∈xs->∀W,Γ w.heap.size w W->Ξ prog F (#[.int .i64 x]++gt) W λe W'=>e=.returned (.bool (p x))/\Γ W.heap.size W W'):
 Ξ prog 160 #[v,.func (.func F) #[] gt] w λe O=>e=.returned (.bool (xs.any p))/\Γ w w O:=by
 have hW:=AA (Ky (p:=p) (xs:=xs));have C:=AA (Qz F gt p v xs w h hF hf);clear h hf;go_in;go_wp2_with (refine C.mono ?_;rintro e O ⟨rfl,al⟩);go_ret;exact⟨AF hW.u,al⟩
theorem U7 (f:Nat)(v:Φ)(ss:List ByteArray)(iv:Φ)(ZJ:List AW)(br bk gk:Nat)(w:Ω)(hr:w.cell? br=some v)(L:w.cell? bk=some (.pointer gk))
 (hi:w.cell? (gk,1)=some iv)(hv:BZ w v ss)(hI:Bh w iv ZJ)(hf:f<ZJ.length):
 Ξ prog 161 #[.int .i64 f,.pointer br,.pointer bk] w λe O=>e=.returned (.bool (!Ci ss (JK ZJ f).g))/\Γ w w O:=by
 obtain⟨a,c,rfl,hc,bw,H0⟩:=BN.open Az ψ hI;obtain⟨b,a7,rfl,J,D0,D1,D2⟩:=H0.zZ hf;have M:=U5 (w1:=w) (λW E=>Qp v ss (JK ZJ f).g W (BN.below hv E));obtain⟨av,cv,rfl,_,_⟩:=hv.shape;have k0:=yv hr;have k1:=yv L;have k2:=yv hi;have k3:=yv D1;have f0:(f:Int)<ZJ.length:=ω;clear H0 hI hv D0 D1 D2;go_in;go_wp2_with fail;refine Bb ?_
 repeat(go_big_quiet_step (exact M _ _))
 refine Ba λwq bq=>?_
 go_wp2;go_ret;exact⟨rfl,bq⟩
theorem JT (gk:Nat)(v v2 iv:Φ)(ss:List ByteArray)(fs:List Nat)(ZJ:List AW)(w:Ω)(hi:w.cell? (gk,1)=some iv)(hv:BZ w v ss)(hI:Bh w iv ZJ)(A:A3 w v2 (A8 fs))(jx:∀f∈fs,f<ZJ.length):
 Ξ prog 99 #[.pointer gk,v,v2] w λe O=>e=.returned (.bool (BO ZJ fs ss))/\Γ w w O:=by
 have b2:=Hv w (.cells #[.pointer gk] 95) (.cells #[v] 79);have kZ:(w.alloc (.cells #[.pointer gk] 95)).cell? w=some (.pointer gk):=yx _ _ 0 _ _ _ (yy _ _);have ck:((w.alloc (.cells #[.pointer gk] 95)).alloc (.cells #[v] 79)).cell? w=some (.pointer gk):=((AG _ _).cell (yK _ _ kZ)).trans kZ;have cv:((w.alloc (.cells #[.pointer gk] 95)).alloc (.cells #[v] 79)).cell? (w.heap.size+1,0)=some v:=by
  have:=yx _ _ 0 _ _ _ (yy (w.alloc (.cells #[.pointer gk] 95)) (.cells #[v] 79))
  rwa [xt] at this
 have iD:=yK w _ hi;have S:=AA (show(!(A8 fs).any (λx=>!Ci ss (JK ZJ x.toNat).g))=BO ZJ fs ss by rw[OP];unfold A8 BO;rw[List.all_map];rfl);have C:=AA (KZ 161 #[.pointer (some ⟨w.heap.size+1,0,none⟩),.pointer w] (λx=>!Ci ss (JK ZJ x.toNat).g) v2 (A8 fs) _ (A3.below A b2) (λ_ _=>φ) (by intro x hx W E;obtain⟨n,hn,rfl⟩:=wj.1 hx;have J:=b2.trans (E.mono b2.size);exact U7 n v ss iv ZJ _ _ gk W ((E.cell (yK _ _ cv)).trans cv) ((E.cell (yK _ _ ck)).trans ck) ((J.cell iD).trans hi) (BN.below hv J) (BN.below hI J) (jx n hn)))
 obtain⟨a,c,rfl,_,_,_⟩:=A.open;obtain⟨a',c',rfl,_,_⟩:=hv.shape;clear hv hI A hi kZ ck cv jx;go_in;go_wp2_with (refine C.mono ?_;rintro e O ⟨rfl,al⟩);go_ret;exact⟨AF S.u,b2.trans (al.mono b2.size)⟩
theorem Ua{k:Int}(h:Bp k=true):Wt k=k - 1:=by unfold Wt;rw[if_pos h]
theorem Xu{ZJ:List AW}:GI ZJ f kind ss 0=true:=Mr.2 (.inr ⟨rfl,rfl⟩)
theorem Zf{ZJ:List AW}{x:Int}(h0:x≠0)(h:Bx x=false):GI ZJ f kind ss x=false:=by simp[GI,h,h0]
theorem UP{ZJ:List AW}{x:Int}(h:Bx x=true):GI ZJ f kind ss x=(decide (BQ x≠f)&&decide ((JK ZJ (BQ x)).k=kind - 1)&&Ci ss (JK ZJ (BQ x)).g):=by simp[GI,h]
theorem Ze (x:Int)(f:Nat)(kind:Int)(v iv:Φ)(ss:List ByteArray)(ZJ:List AW)(bf bi bk br:Nat)(w:Ω)(hx:x<=9223372036854775807)(H:w.cell? bf=some (.int .i64 f))(A:w.cell? bi=some iv)(h3:w.cell? bk=some (.int .i64 kind))(h4:w.cell? br=some v)
 (hv:BZ w v ss)(hI:Bh w iv ZJ)(hl:ZJ.length=12)(L:Bp kind=true):
 Ξ prog 165 #[.int .i64 x,.pointer bf,.pointer bi,.pointer bk,.pointer br] w λe O=>e=.returned (.bool (!GI ZJ f kind ss x))/\Γ w w O:=by
 obtain⟨a,c,rfl,hc,bw,H0⟩:=BN.open Az ψ hI;have CE:=AA (λW=>Fl x W hx);have k1:=yv H;have k2:=yv A;have k3:=yv h3;have k4:=yv h4;have cT:=V8 (w1:=w) (λW=>MD kind W);rw[Ua L] at cT
 by_cases jl:x=0
 .subst jl
  have HK:=AA (Ev (x:=0) rfl);have S:=AA (show(!GI ZJ f kind ss 0)=false by rw[Xu];rfl);clear H0 hI hv H A h3 h4 L hc bw;go_in;go_wp2_with (go_at_call 158;refine(CE _).mono ?_;rintro e O ⟨rfl,rfl⟩;rw[HK.u]);refine Bb ?_
  repeat(go_big_quiet_step (exact cT _ _))
  refine Ba λwq bq=>?_
  go_wp2;go_ret;exact⟨AF S.symm,bq⟩
 have t0:(x !=0)=true:=by simp[jl]
 cases N:Bx x
 .have HK:=AA (Ev N)
  have S:=AA (show(!GI ZJ f kind ss x)=true by rw[Zf jl N];rfl);clear H0 hI hv H A h3 h4 L hc bw N jl;go_in;go_wp2_with (go_at_call 158;refine(CE _).mono ?_;rintro e O ⟨rfl,rfl⟩;rw[HK.u]);refine Bb ?_
  repeat(go_big_quiet_step (exact cT _ _))
  refine Ba λwq bq=>?_
  go_wp2;go_ret;exact⟨AF S.symm,bq⟩
 have hF:=Eh N
 have HK:=AA (Er N);have G:=AA (UP (ZJ:=ZJ) (f:=f) (kind:=kind) (ss:=ss) N);obtain⟨b,a7,rfl,J,D0,D1,D2⟩:=H0.zZ (ω:BQ x<ZJ.length);have d0:=yv D0;have d1:=yv D1;have M:=U5 (w1:=w) (λW E=>Qp v ss (JK ZJ (BQ x)).g W (BN.below hv E));obtain⟨av,cv,rfl,_,_⟩:=hv.shape;have i1:((BQ x:Nat):Int)<ZJ.length:=ω;clear H0 hI hv H A h3 h4 L hc bw D0 D1 D2 jl N;generalize BQ x=o at*
 by_cases e1:o=f
 .have t1:((o:Int)==(f:Int))=true:=by simp[e1]
  have S:=AA (show(!GI ZJ f kind ss x)=true by rw[G.u];simp[e1]);clear e1;go_in;go_wp2_with (go_at_call 158;refine(CE _).mono ?_;rintro e O ⟨rfl,rfl⟩;rw[HK.u]);refine Bb ?_
  repeat(go_big_quiet_step (first|exact cT _ _|exact M _ _))
  refine Ba λwq bq=>?_
  go_wp2;go_ret;exact⟨AF S.symm,bq⟩
 have t1:((o:Int)==(f:Int))=false:=η;by_cases e2:(JK ZJ o).k=kind - 1
 focus
  have t2:((JK ZJ o).k !=kind - 1)=false:=by simp[e2]
  have S:=AA (show(!GI ZJ f kind ss x)=!Ci ss (JK ZJ o).g by rw[G.u];simp[e1,e2])
 rotate_left
 focus
  have t2:((JK ZJ o).k !=kind - 1)=true:=by simp[e2]
  have S:=AA (show(!GI ZJ f kind ss x)=true by rw[G.u];simp[e2])
 rotate_left
 all_goals
  clear e1 e2;go_in;go_wp2_with (go_at_call 158;refine(CE _).mono ?_;rintro e O ⟨rfl,rfl⟩;rw[HK.u]);refine Bb ?_
  repeat(go_big_quiet_step (first|exact cT _ _|exact M _ _))
  refine Ba λwq bq=>?_
  go_wp2;go_ret;exact⟨AF S.symm,bq⟩
theorem WW (v iv rv:Φ)(m:List (List Int))(ZJ:List AW)(f:Nat)(kind:Int)(ss:List ByteArray)(w:Ω)(h:Bn w v m)(aq:CJ m=true)(hI:Bh w iv ZJ)(hl:ZJ.length=12)(hf:f<12)(L:Bp kind=true)(hv:BZ w rv ss):
 Ξ prog 102 #[v,iv,.int .i64 f,.int .i64 kind,rv] w λe O=>e=.returned (.bool (Iw m ZJ f kind ss))/\Γ w w O:=by
 obtain⟨ai,ci,rfl,_,_⟩:=hI.shape;obtain⟨av,cv,rfl,_,_⟩:=hv.shape;have b4:=eh w (.cells #[.slice ai ZJ.length ci] 24) (.cells #[f] 3) (.cells #[kind] 3) (.cells #[.slice av ss.length cv] 79);have N0:=yy w (.cells #[.slice ai ZJ.length ci] 24);have N1:=yy (w.alloc (.cells #[.slice ai ZJ.length ci] 24)) (.cells #[f] 3);have N2:=yy ((w.alloc (.cells #[.slice ai ZJ.length ci] 24)).alloc (.cells #[f] 3)) (.cells #[kind] 3);have N3:=yy (((w.alloc (.cells #[.slice ai ZJ.length ci] 24)).alloc (.cells #[f] 3)).alloc (.cells #[kind] 3)) (.cells #[.slice av ss.length cv] 79);simp only[xt] at N1 N2 N3;have M2:=AB N2 (AG _ (.cells #[.slice av ss.length cv] 79));have M1:=AB N1 (Hv _ (.cells #[kind] 3) (.cells #[.slice av ss.length cv] 79));have M0:=AB N0 (bJ _ (.cells #[f] 3) (.cells #[kind] 3) (.cells #[.slice av ss.length cv] 79));obtain⟨q,c,rfl,hc,bw,H0⟩:=h.open;have b7:=(Ak.1 aq).1;obtain⟨bm,dg,br,f4,cr,rfl,g0,ho,i5,kF,W0⟩:=H0.row4 aq hf;have D':=(b4.cell (p:=⟨bm,dg+f,none⟩) g0).trans ho;have rd:=(Bn.open (Bn.below h b4));have gT:A3 ((((w.alloc (.cells #[.slice ai ZJ.length ci] 24)).alloc (.cells #[f] 3)).alloc (.cells #[kind] 3)).alloc (.cells #[.slice av ss.length cv] 79)) (.slice (some ⟨br,f4,none⟩) 4 cr) (AJ m f):=by obtain⟨b',f5,u,e,_,lH,hr⟩:=H0 f ω;cases e;rw[ho] at lH;cases lH;exact A3.below hr b4
 have S:=AA (show(!(AJ m f).any λx=>!GI ZJ f kind ss x)=Iw m ZJ f kind ss by rw[OP];rfl);have hw:∀x,x∈AJ m f->x<=9999:=λx hx=>((BG.1 ((Ak.1 aq).2 f hf)).2 x hx).2
 have C:=AA (KZ 165 #[.pointer (some ⟨w.heap.size+1,0,none⟩),.pointer w,.pointer (some ⟨w.heap.size+1+1,0,none⟩),.pointer (some ⟨w.heap.size+1+1+1,0,none⟩)] (λx=>!GI ZJ f kind ss x) _ (AJ m f) _ gT (λ_ _=>φ) (by intro x hx W E;have J:=b4.trans (E.mono b4.size);exact Ze x f kind _ _ ss ZJ _ _ _ _ W (by have:=hw x hx;omega) (yx _ _ 0 _ _ _ (AB M1 E)) (yx _ _ 0 _ _ _ (AB M0 E)) (yx _ _ 0 _ _ _ (AB M2 E)) (yx _ _ 0 _ _ _ (AB N3 E)) (BN.below hv J) (BN.below hI J) hl L))
 have fm:(f:Int)<m.length:=ω;clear hv hI h gT hw N0 N1 N2 N3 M0 M1 M2 W0 rd H0 ho hl b7 aq;go_in;go_wp2_with (refine C.mono ?_;rintro e O ⟨rfl,al⟩);go_ret;exact⟨AF S.u,b4.trans (al.mono b4.size)⟩
def JV(m:List (List Int))(ZJ:List AW)(t j g:Nat):Nat:=
 ((yL t).map λu=>if Bp (JK ZJ u).k then(named (AJ m u)).count g else 0).sum+(named ((AJ m t).take j)).count g
def IJ(m:List (List Int))(ZJ:List AW)(t j:Nat):List Int:=(yL 12).map λg=>(JV m ZJ t j g:Int)
section
variable {m:List (List Int)} {ZJ:List AW} {t j g:Nat}
theorem KM:(IJ m ZJ t j).length=12:=by simp[IJ]
theorem Rh(h:g<12):nth (IJ m ZJ t j) g=JV m ZJ t j g:=by unfold IJ nth;rw[yd,xq,ur h];rfl
theorem UH:IJ m ZJ 0 0=xZ 12 0:=by simp[IJ,JV,named,yL,yI,xZ]
theorem de(hj:j<(AJ m t).length)(h:Bx ((AJ m t).getD j 0)=false):IJ m ZJ t (j+1)=IJ m ZJ t j:=by unfold IJ JV;rw[KR hj,h];simp
theorem bQ(hj:j<(AJ m t).length)(h:Bx ((AJ m t).getD j 0)=true):
 IJ m ZJ t (j+1)=(IJ m ZJ t j).set (BQ ((AJ m t).getD j 0)) (JV m ZJ t j (BQ ((AJ m t).getD j 0))+1):=by
 refine Mp (by simp[IJ]) λg N=>?_
 rw[KM] at N;have hf:=Eh h;rw[VY (by rw[KM];exact hf),Rh N,Rh N];unfold JV;rw[KR hj,h,if_pos rfl,sq]
 by_cases e:g=BQ ((AJ m t).getD j 0)
 .subst e;simp;omega
 rw[if_neg e,sY]
 have:(BQ ((AJ m t).getD j 0)==g)=false:=by simp;exact λh=>e h.symm
 rw[this];simp
theorem bO(L:Bp (JK ZJ t).k=true)(hl:(AJ m t).length=4):IJ m ZJ t 4=IJ m ZJ (t+1) 0:=by unfold IJ JV;rw[xj (n:=t),xz (ve hl)];simp[L,named]
theorem UG(L:Bp (JK ZJ t).k=false):IJ m ZJ t 0=IJ m ZJ (t+1) 0:=by unfold IJ JV;rw[xj (n:=t)];simp[L,named]
theorem WG:IJ m ZJ 12 0=(yL 12).map λg=>(countP m ZJ g:Int):=by unfold IJ JV countP;simp[named]
theorem Ri(hm:CJ m=true)(ht:t<=12)(hj:j<=4):JV m ZJ t j g<=100:=by
 have H:((yL t).map λu=>if Bp (JK ZJ u).k then(named (AJ m u)).count g else 0).sum<=4*t:=by
  clear hj
  induction t with
  |zero=>simp
  |succ t ih=>
   have:=ih ω;rw[xj,xM,wW];have A:(if Bp (JK ZJ t).k then(named (AJ m t)).count g else 0)<=4:=by
    split
    .have h3:=vX (a:=g) (l:=named (AJ m t))
     have h4:=Fi (r:=AJ m t);have h5:=(BG.1 ((Ak.1 hm).2 t ω)).1;omega
    omega
   simp only[List.map_cons,List.map_nil,List.sum_cons,List.sum_nil];omega
 have h3:=vX (a:=g) (l:=named ((AJ m t).take j));have h4:=Fi (r:=(AJ m t).take j);rw[yr] at h4;unfold JV;omega
end
theorem WK (v iv:Φ)(m:List (List Int))(ZJ:List AW)(w:Ω)(h:Bn w v m)(aq:CJ m=true)(hI:Bh w iv ZJ)(hl:ZJ.length=12):
 Ξ prog 96 #[v,iv] w λe O=>∃v',e=.returned v'/\AE w O v' ((yL 12).map λg=>(countP m ZJ g:Int))/\Γ w w O:=by
 obtain⟨q,c,rfl,hc,bw,H0⟩:=h.open;obtain⟨a2,c2,rfl,gz,f8,H2⟩:=BN.open Az ψ hI;have b7:=(Ak.1 aq).1;unfold maxLen at bw f8;rw[b7] at hc ⊢;rw[hl] at gz ⊢;have cP:=AA aq;have HR:=AA H0;have HI:=AA H2;have Hl:=AA hl;clear h aq H0 H2 b7 hI hl;go_in;go_wp2_with (at_make;go_must (refine Qv (n:=12) rfl rfl 3 (.int .i64 0) 8 underlying29 Tryz.zS rfl rfl ω μ ?_;intro w1 a5 ad gb));have jG:AE w w1 (.slice w 12 12) (IJ m ZJ 0 0):=by unfold AE;rw[KM,UH];exact a5
 have ei:w.heap.size<=w.heap.size:=yF _;have jQ:=AA ad;clear a5 ad;go_loopw [16] (λi wr=>∃t:Nat,t<=12/\i=.int .i64 t/\AE w wr (.slice w 12 12) (IJ m ZJ t 0)/\Γ w w wr) (λi _=>12 - (intOf i).toNat)
 exact⟨0,yu _,rfl,jG,jQ.u⟩
 obtain⟨t,ht,rfl,R,ad⟩:=hrel;clear jG
 by_cases ar:t<12
 .obtain⟨b,a7,rfl,bC,D0,D1,D2⟩:=HI.zZ (show t<ZJ.length by rw[Hl.u];exact ar)
  replace D0:=(ad.cell (p:=⟨b,a7+t*3,none⟩) bC).trans D0;replace D1:=(ad.cell (p:=⟨b,a7+t*3+1,none⟩) bC).trans D1;replace D2:=(ad.cell (p:=⟨b,a7+t*3+2,none⟩) bC).trans D2;have hg:=yy wr (.cells #[.int .i64 (JK ZJ t).k,.string (JK ZJ t).g,.int .i64 (JK ZJ t).r] 115);have jY:=ad.trans ((AG wr (.cells #[.int .i64 (JK ZJ t).k,.string (JK ZJ t).g,.int .i64 (JK ZJ t).r] 115)).mono ad.size);have HO:=AA (AE.below R (AG wr (.cells #[.int .i64 (JK ZJ t).k,.string (JK ZJ t).g,.int .i64 (JK ZJ t).r] 115)));have CT:=AA (λW=>GJ (JK ZJ t).k W);clear R;obtain⟨bm,dg,br,f4,cr,rfl,g0,M0,i5,kF,W0⟩:=HR.row4 cP ar;have HW:=AA W0;have M:=(jY.cell (p:=⟨bm,dg+t,none⟩) g0).trans M0;have fk:=AA (BG.1 ((Ak.1 cP.u).2 _ ar)).1;clear W0 M0;cases L:Bp (JK ZJ t).k
  .have S:=AA (UG (m:=m) L)
   have V:=AA L;clear L;go_wp2_with (go_at_call 101;refine(CT _).mono ?_;rintro e O ⟨rfl,rfl⟩;rw[V.u]);go_roundw;exact⟨t+1,ω,ξ,by rw[<-S.u];exact HO.u,jY⟩;simp[intOf];omega
  have S:=AA (bO (m:=m) L fk.u)
  have V:=AA L;clear L;go_wp2_with (go_at_call 101;refine(CT _).mono ?_;rintro e O ⟨rfl,rfl⟩;rw[V.u]);generalize wr.alloc _=wa at*;clear D0 D1 D2 M hg ad;have HB:=AA jY;clear jY;go_loopw [30] (λi wi=>∃j:Nat,j<=4/\i=.int .i64 j/\AE w wi (.slice w 12 12) (IJ m ZJ t j)/\Γ w w wi) (λi _=>4 - (intOf i).toNat)
  exact⟨0,ω,rfl,HO.u,HB.u⟩
  obtain⟨j,hj,rfl,gs,bB⟩:=hrel
  by_cases ft:j<4
  .have W:=(bB.cell (p:=⟨br,f4+j,none⟩) i5).trans (HW j ft)
   have wb:=Gx cP ar ft;have CE:=AA (λW=>Fl (Aw m t j) W ω);cases N:Bx (Aw m t j)
   .have HK:=AA (Ev N)
    have hW:=AA (de (ZJ:=ZJ) (show j<(AJ m t).length by rw[fk.u];exact ft) N);clear N;go_wp2_with (go_at_call 158;refine(CE _).mono ?_;rintro e O ⟨rfl,rfl⟩;rw[HK.u]);go_roundw;exact⟨j+1,ω,ξ,by rw[hW.u];exact gs,bB⟩;simp[intOf];omega
   have HK:=AA (Er N)
   have hF:=Eh N;have hW:=AA (bQ (ZJ:=ZJ) (show j<(AJ m t).length by rw[fk.u];exact ft) N);have hE:=Ri (ZJ:=ZJ) (g:=BQ (Aw m t j)) cP (Nat.le_of_lt ar) hj;have fb:wr.ownsRow w.heap.size 3 1 (.slice w 12 12) 12 ((IJ m ZJ t j).map (yl .i64)):=by have:=gs;unfold AE at this;rwa [KM] at this
   have C:=(fb.cellAt (BQ (Aw m t j)) ω).trans (GP (xs:=IJ m ZJ t j) (by rw[KM];exact hF));rw[Rh hF] at C;have Fr:=fb.frozenAt (BQ (Aw m t j));have S2:=AA (fb.stored (BQ (Aw m t j)) (.int .i64 ((JV m ZJ t j (BQ (Aw m t j)):Int)+1)));have e0:(AJ m t).getD j 0=Aw m t j:=rfl;rw[e0] at hW;clear N e0 fb gs;generalize BQ (Aw m t j)=f at*;generalize JV m ZJ t j f=n at*;go_wp2_with (go_at_call 158;refine(CE _).mono ?_;rintro e O ⟨rfl,rfl⟩;rw[HK.u]);go_roundw
   case rel=>refine⟨j+1,ω,ξ,?_,AM bB S2.2 ei bB.size⟩;rw[hW.u];unfold AE;rw[yi,KM,uT];exact S2.1
   case measure=>simp[intOf];omega
  obtain rfl:j=4:=ω;go_wp2;go_roundw;exact⟨t+1,ω,ξ,by rw[<-S.u];exact gs,bB⟩;simp[intOf];omega
 obtain rfl:t=12:=ω;rw[WG] at R;go_wp2;go_ret;exact⟨_,rfl,R,ad⟩
theorem ZZ{α:Type}{cs:α->List Φ}(hs:∀x,(cs x).length=sz){xs:List α}{x y:α}{u:Φ}(L:xs[k]?=some x)(hj:j<sz)(hy:cs y=(cs x).set j u):
 (Cb cs xs).set (k*sz+j) u=Cb cs (xs.set k y):=by
 have H:=Ro hs (yD.1 L).1 y;rw[<-H];refine List.ext_getElem? λi=>?_
 obtain⟨ar,hx⟩:=yD.1 L;have J:k*sz+sz<=xs.length*sz:=by rw[<-Nat.succ_mul];exact wT _ ar
 rw[H,vE,JY hs]
 by_cases hi:i<xs.length*sz
 .have hz:0<sz:=ω
  have ks:i/sz<xs.length:=Nat.div_lt_of_lt_mul (by rw[tg];exact hi);have iy:=Nat.mod_lt i hz;have kC:i/sz*sz+i%sz=i:=by rw[tg];exact Nat.div_add_mod i sz
  have ha:(Cb cs xs)[i]?=(cs xs[i/sz])[i%sz]? :=by have:=Qn hs (yG ks) iy;rw[kC] at this;exact this
  have gg:(Cb cs (xs.set k y))[i]?=(cs ((xs.set k y)[i/sz]'(by rw[yi];exact ks)))[i%sz]? :=by have:=Qn hs (yG (l:=xs.set k y) (i:=i/sz) (by rw[yi];exact ks)) iy;rw[kC] at this;exact this
  rw[ha,gg,List.getElem_set]
  by_cases e:k=i/sz
  .subst e
   rw[if_pos rfl,hy,vE,hx,hs]
   by_cases e2:j=i%sz
   .subst e2;rw[if_pos kC,if_pos ω,if_pos rfl,if_pos iy]
   rw[if_neg ω,if_neg e2]
  rw[if_neg e]
  have:¬k*sz+j=i:=by intro h;apply e;rw[<-h,tg,Nat.mul_add_div hz,Nat.div_eq_of_lt hj,xT]
  rw[if_neg this]
 rw[uK (by rw[JY hs];omega),uK (by rw[JY hs,yi];omega),if_neg ω]
section
variable {α:Type} {lo e sz:Nat} {cs:α->List Φ} {w:Ω} {g a6 k j:Nat} {xs:List α}
theorem AP.zH(hs:∀x,(cs x).length=sz)(h:AP lo e sz cs w (.slice g xs.length a6) xs){x y:α}{u:Φ}(L:xs[k]?=some x)(hj:j<sz)(hy:cs y=(cs x).set j u):
 AP lo e sz cs (w.setCell (g,k*sz+j) u) (.slice g xs.length a6) (xs.set k y)/\w.grownBy (w.setCell (g,k*sz+j) u) (some g):=by
 obtain⟨H,A⟩:=vw h (k*sz+j) u;rw[ZZ hs L hj hy] at H;refine⟨?_,A⟩;unfold AP;rw[yi];exact H
end
theorem Cj (h:k<l.length):l[k]?=some (JK l k):=by simp[JK,h]
theorem IQ{f:AW->AW}:An l k f=l.set k (f (JK l k)):=J8
theorem YT{ZJ:List AW}{n:Int}(hj:j<r.length):
 BP ZJ (named (r.take (j+1))) n=if Bx (r.getD j 0) then An (BP ZJ (named (r.take j)) n) (BQ (r.getD j 0)) (JD n) else BP ZJ (named (r.take j)) n:=by
 rw[KR hj];unfold BP;rw[tU]
 split<;>simp
theorem Ku{s:ByteArray}(h:BT s=true):s.size<=4:=by unfold BT at h;simp only[yC,decide_eq_true_eq] at h;exact h.2
theorem Ij{x:AW}(h:Dm x=true):x.g.size<=maxLen/\0<=x.r/\x.r<=50:=by
 unfold Dm at h;simp only[xL,decide_eq_true_eq,yC,Aa] at h
 rcases h with rfl|⟨⟨_,H⟩,A⟩
 .exact⟨by simp[AW.zero,ByteArray.size],by simp[AW.zero],by simp[AW.zero]⟩
 exact⟨yM (Ku H) ψ,A.1,A.2⟩
theorem Uo (h:∀f,f<l.length->(JK l f).g.size<=maxLen):JC l:=by intro x hx;obtain⟨i,hi,rfl⟩:=xl hx;have:=h i hi;simpa[JK,hi] using this
theorem Cg (h:BJ l=true):JC l:=Uo λf hf=>(Ij ((A4.1 h).2 f (by have:=(A4.1 h).1;omega))).1
theorem Kj{ZJ:List AW}(h:BJ ZJ=true){fs:List Nat}(jx:fs.length<=4){n:Int}(hn:n=1∨n= -1)(N:g<12):
 -4<=(JK (BP ZJ fs n) g).r/\(JK (BP ZJ fs n) g).r<=54/\(JK (BP ZJ fs n) g).g.size<=maxLen:=by
 obtain⟨hl,A⟩:=A4.1 h;obtain⟨a,b,c⟩:=Ij (A g N);rw[Oq ω];have:=vX (a:=g) (l:=fs);refine⟨?_,?_,a⟩
 .show -4<=_+n*_
  rcases hn with rfl|rfl<;>omega
 show _+n*_<=54
 rcases hn with rfl|rfl<;>omega
theorem Uk (v iv:Φ)(m:List (List Int))(ZJ:List AW)(f:Nat)(n:Int)(w:Ω)(h:Bn w v m)(aq:CJ m=true)(hI:Bh w iv ZJ)(bE:BJ ZJ=true)(hf:f<12)(hn:n=1∨n= -1):
 Ξ prog 220 #[v,iv,.int .i64 f,.int .i64 n] w λe O=>∃v',e=.returned v'/\AP w.heap.size 115 3 Au O v' (BP ZJ (named (AJ m f)) n)/\Γ w w O:=by
 obtain⟨q,c,rfl,hc,bw,H0⟩:=h.open;have hl:=(A4.1 bE).1;have b7:=(Ak.1 aq).1;have CC:=AA (Ge iv ZJ w hI ω);obtain⟨ai,ci,rfl,_,_⟩:=hI.shape;have cP:=AA aq;have ld:=AA bE;have Hn:=AA hn;have mm: -1<=n/\n<=1:=ω;obtain⟨bm,dg,br,f4,cr,rfl,g0,M0,i5,kF,W0⟩:=H0.row4 aq hf;have HW:=AA W0;have fk:=AA (BG.1 ((Ak.1 aq).2 _ hf)).1;have fm:(f:Int)<m.length:=ω;have Hl:=AA hl;clear h aq H0 W0 hI bE hn b7 hl;go_in;go_wp2_with fail;refine CC.mono ?_;rintro e w1 ⟨v',rfl,R,bx⟩;obtain⟨g,a6,rfl,c1,c2,q1,q2,bY⟩:=R.zW (by have:=Hl.u;omega);unfold maxLen at c2;have M:=(bx.cell (p:=⟨bm,dg+f,none⟩) g0).trans M0;have jQ:=AA bx;have HO:=AA R;clear R bx M0 bY;go_wp2_with fail;clear M;go_loopw [22] (λi wr=>∃j:Nat,j<=4/\i=.int .i64 j/\AP w.heap.size 115 3 Au wr (.slice g ZJ.length a6) (BP ZJ (named ((AJ m f).take j)) n)/\Γ w w wr) (λi _=>4 - (intOf i).toNat)
 exact⟨0,yu _,rfl,by simpa[named,BP] using HO.u,jQ.u⟩
 obtain⟨j,hj,rfl,R,bB⟩:=hrel
 by_cases ft:j<4
 .have W:=(bB.cell (p:=⟨br,f4+j,none⟩) i5).trans (HW j ft)
  have wb:=Gx cP hf ft;have CE:=AA (λW=>Fl (Aw m f j) W ω);have RT:=YT (ZJ:=ZJ) (n:=n) (r:=AJ m f) (j:=j) (by rw[fk.u];exact ft);rw[show(AJ m f).getD j 0=Aw m f j from rfl] at RT;cases N:Bx (Aw m f j)
  .have HK:=AA (Ev N)
   rw[N] at RT;have hW:=AA RT;have j9:=AA R;clear N RT R;go_wp2_with (go_at_call 158;refine(CE _).mono ?_;rintro e O ⟨rfl,rfl⟩;rw[HK.u]);go_roundw;exact⟨j+1,ω,ξ,by rw[hW.u];exact j9.u,bB⟩;simp[intOf];omega
  have HK:=AA (Er N)
  have hF:=Eh N;rw[N,if_pos rfl] at RT;have jx:(named ((AJ m f).take j)).length<=4:=by have:=Fi (r:=(AJ m f).take j);rw[yr] at this;omega
  obtain⟨r1,r2,_⟩:=Kj ld jx Hn hF;have gW:(BP ZJ (named ((AJ m f).take j)) n).length=ZJ.length:=KB;rw[<-gW] at R;generalize hX:BP ZJ (named ((AJ m f).take j)) n=X at*;generalize BQ (Aw m f j)=o at*;have i2:o<X.length:=by rw[gW,Hl.u];exact hF
  have nK:(o:Int)<ZJ.length:=by rw[Hl.u];omega
  have mk:((o:Nat):Int)<=ZJ.length:=ω;rw[IQ] at RT;obtain⟨_,_,d2⟩:=AP.zZ R i2;have d2:=d2;have Fr:=xV R (o*3+2);have S2:=AA (AP.zH Az R (Cj i2) (j:=2) ψ (y:=JD n (JK X o)) (u:=.int .i64 ((JK X o).r+n)) rfl);rw[gW] at S2;have hW:=AA RT;have oh:=AA gW;clear N RT R gW hX;go_wp2_with (go_at_call 158;refine(CE _).mono ?_;rintro e O ⟨rfl,rfl⟩;rw[HK.u]);go_roundw;exact⟨j+1,ω,ξ,by rw[hW.u];exact S2.1,AM bB S2.2 q1 bB.size⟩;simp[intOf];omega
 obtain rfl:j=4:=ω;rw[xz (ve fk.u)] at R;go_wp2;go_ret;exact⟨_,rfl,R,bB⟩
theorem Vf{ZJ:List AW}:GV m ZJ f kind ss=
 if(JK ZJ f).k≠1∨(JK ZJ f).r≠0 then(ZJ,1)
 else if Iw m ZJ f kind ss=false then(ZJ,2)
 else if BJ (An (BP ZJ (named (AJ m f)) 1) f (Dn kind)) then(An (BP ZJ (named (AJ m f)) 1) f (Dn kind),0) else(ZJ,1):=rfl
theorem Oy{ZJ:List AW}:DT m ZJ f=
 if Bp (JK ZJ f).k=false∨(JK ZJ f).r≠0 then(ZJ,1)
 else if BJ (An (BP ZJ (named (AJ m f)) (-1)) f (Dn 1)) then(An (BP ZJ (named (AJ m f)) (-1)) f (Dn 1),0) else(ZJ,2):=rfl
theorem SU (h:CJ m=true){f:Nat}(hf:f<12):(named (AJ m f)).length<=4:=by have H:=Fi (r:=AJ m f);have A:=(BG.1 ((Ak.1 h).2 f hf)).1;omega
theorem M8{ZJ:List AW}{n:Int}(hm:CJ m=true)(h:BJ ZJ=true)(hf:f<12)(hn:n=1∨n= -1):JC (An (BP ZJ (named (AJ m f)) n) f (Dn kind)):=by
 refine Uo λg N=>?_
 rw[DU,KB,(A4.1 h).1] at N;have H:=(Kj h (SU hm hf) hn N).2.2;rw[Fu]
 split
 .exact(Kj h (SU hm hf) hn hf).2.2
 exact H
def Nj(r:List AW×Int)(w:Ω)(e:Ending)(O:Ω):Prop:=∃v',e=.returned (.tuple #[v',r.2])/\AP w.heap.size 115 3 Au O v' r.1/\Γ w w O
theorem U6 (v iv rv:Φ)(m:List (List Int))(ZJ:List AW)(f:Nat)(kind:Int)(ss:List ByteArray)(w:Ω)(h:Bn w v m)(aq:CJ m=true)(hI:Bh w iv ZJ)(bE:BJ ZJ=true)(hf:f<12)(L:Bp kind=true)(hv:BZ w rv ss)(iZ:Db ss)(hr:BY ss=true):
 Ξ prog 180 #[v,iv,.int .i64 f,.int .i64 kind,rv] w (Nj (GV m ZJ f kind ss) w):=by
 have hl:=(A4.1 bE).1;have C1:=AA (λW (E:Γ w w W)=>by have:=Iy v m W (h.below E);rw[aq] at this;exact this);have C2:=AA (λW (E:Γ w w W)=>by have:=Dp iv ZJ W (BN.below hI E) (Cg bE);rw[bE] at this;exact this);have C3:=AA (λW (_:Γ w w W)=>A7 (by have:=EA (f:Int) W;rw[show Bo (f:Int) 0 11=true from Aa.2 ω] at this;exact this));have C4:=AA (λW (_:Γ w w W)=>A7 (by have:=GJ kind W;rw[L] at this;exact this));have C5:=AA (λW (E:Γ w w W)=>by have:=Gy rv ss W (BN.below hv E) iZ;rw[hr] at this;exact this);have C6:=AA (λW (E:Γ w w W)=>Ge iv ZJ W (BN.below hI E) ω);have C7:=AA (λW (E:Γ w w W)=>WW v iv rv m ZJ f kind ss W (h.below E) aq (BN.below hI E) hl hf L (BN.below hv E));have C8:=AA (λW (E:Γ w w W)=>Uk v iv m ZJ f 1 W (h.below E) aq (BN.below hI E) bE hf (.inl rfl));have SM:=AA (M8 (kind:=kind) aq bE hf (.inl (rfl:(1:Int)=1)));obtain⟨ai,ci,rfl,iG,ga,H2⟩:=BN.open Az ψ hI;obtain⟨bi,a8,rfl,bB,D0,_,D2⟩:=H2.zZ (ω:f<ZJ.length);have fn:(f:Int)<ZJ.length:=ω;have Hl:=AA hl;have J:=yN w w;clear h aq hI bE L hv iZ hr hl H2;go_in;go_wp2_with fail;refine(C1 _ J).mono ?_;rintro e w_ ⟨rfl,bu⟩;replace J:=J.trans (bu.mono J.size);clear bu;go_wp2_with fail;refine(C2 _ J).mono ?_;rintro e w_ ⟨rfl,bu⟩;replace J:=J.trans (bu.mono J.size);clear bu;go_wp2_with fail;refine(C3 _ J).mono ?_;rintro e w_ ⟨rfl,bu⟩;replace J:=J.trans (bu.mono J.size);clear bu;go_wp2_with fail;refine(C4 _ J).mono ?_;rintro e w_ ⟨rfl,bu⟩;replace J:=J.trans (bu.mono J.size);clear bu;go_wp2_with fail;refine(C5 _ J).mono ?_;rintro e w_ ⟨rfl,bu⟩;replace J:=J.trans (bu.mono J.size);clear bu;replace D0:=(J.cell (p:=⟨bi,a8+f*3,none⟩) bB).trans D0;replace D2:=(J.cell (p:=⟨bi,a8+f*3+2,none⟩) bB).trans D2
 by_cases e1:(JK ZJ f).k=1
 .by_cases e2:(JK ZJ f).r=0
  .have t1:((JK ZJ f).k !=1)=false:=by simp[e1]
   have t2:((JK ZJ f).r !=0)=false:=by simp[e2]
   have P:=AA (show GV m ZJ f kind ss=if Iw m ZJ f kind ss=false then(ZJ,2)
    else if BJ (An (BP ZJ (named (AJ m f)) 1) f (Dn kind)) then(An (BP ZJ (named (AJ m f)) 1) f (Dn kind),0) else(ZJ,1) by rw[Vf,if_neg (by simp[e1,e2])])
   clear e1 e2;cases N:Iw m ZJ f kind ss
   .have P2:=AA (show GV m ZJ f kind ss=(ZJ,2) by rw[P.u,N];rfl)
    have G:=AA N;clear N;go_wp2_with fail;refine(C7 _ J).mono ?_;rintro e w_ ⟨rfl,bu⟩;rw[G.u];replace J:=J.trans (bu.mono J.size);clear bu;go_wp2_with (refine(C6 _ J).mono ?_;rintro e w2 ⟨v',rfl,R,al⟩);go_ret2;exact⟨v',by rw[P2.u];rfl,by rw[P2.u];exact R.lower J.size,J.trans (al.mono J.size)⟩
   have G:=AA N
   have P2:=AA (show GV m ZJ f kind ss=if BJ (An (BP ZJ (named (AJ m f)) 1) f (Dn kind)) then(An (BP ZJ (named (AJ m f)) 1) f (Dn kind),0) else(ZJ,1) by rw[P.u,N];rfl);clear N;go_wp2_with fail;refine(C7 _ J).mono ?_;rintro e w_ ⟨rfl,bu⟩;rw[G.u];replace J:=J.trans (bu.mono J.size);clear bu;clear D0 D2;go_wp2_with fail;refine(C8 _ J).mono ?_;rintro e w2 ⟨v',rfl,R,al⟩;have gW:(BP ZJ (named (AJ m f)) 1).length=ZJ.length:=KB;rw[IQ] at P2 SM;generalize BP ZJ (named (AJ m f)) 1=X at*;have jy:f<X.length:=by rw[gW,Hl.u];exact hf
   obtain⟨g,a6,rfl,c1,c2,q1,q2,bY⟩:=R.zW ω;unfold maxLen at c2;have q3:=yM J.size q1;have S0:=AP.zH Az R (Cj jy) (j:=0) ψ (y:=Dn kind (JK X f)) (u:=.int .i64 kind) rfl;rw[xT] at S0;have S:=AA S0;clear S0;obtain⟨d0,_,_⟩:=AP.zZ R jy;have Fr:=bY (f*3);have hZ:=AM (J.trans (al.mono J.size)) S.2 q3 (yM J.size al.size);have kB:(f:Int)<X.length:=ω;have jE:=AA (S.1.lower J.size);clear R al J gW;go_wp2_with fail;generalize hw3:w2.setCell _ _=w3 at*;clear d0 Fr bY hw3;have h8:(X.set f (Dn kind (JK X f))).length=X.length:=yi ..;have C9:=Dp (.slice g X.length a6) (X.set f (Dn kind (JK X f))) w3 jE.rd SM.u;cases hq:BJ (X.set f (Dn kind (JK X f)))
   .have P3:=AA (show GV m ZJ f kind ss=(ZJ,1) by rw[P2.u,hq];rfl)
    rw[hq] at C9;have C:=AA C9;clear C9 hq h8;refine C.mono ?_;rintro e w4 ⟨rfl,cb⟩;have J:=hZ.trans (cb.mono hZ.size);go_wp2_with (refine(C6 _ J).mono ?_;rintro e w2 ⟨v',rfl,R,al⟩);go_ret2;exact⟨v',by rw[P3.u];rfl,by rw[P3.u];exact R.lower J.size,J.trans (al.mono J.size)⟩
   have P3:=AA (show GV m ZJ f kind ss=(X.set f (Dn kind (JK X f)),0) by rw[P2.u,hq];rfl)
   rw[hq] at C9;have C:=AA C9;clear C9 hq h8;refine C.mono ?_;rintro e w4 ⟨rfl,cb⟩;have J:=hZ.trans (cb.mono hZ.size);have jF:=AA (jE.below cb);go_wp2;go_ret2;exact⟨_,by rw[P3.u];rfl,by rw[P3.u];exact jF.u,J⟩
  have t1:((JK ZJ f).k !=1)=false:=by simp[e1]
  have t2:((JK ZJ f).r !=0)=true:=by simp[e2]
  have P2:=AA (show GV m ZJ f kind ss=(ZJ,1) by rw[Vf,if_pos (.inr e2)]);clear e1 e2;go_wp2_with (refine(C6 _ J).mono ?_;rintro e w2 ⟨v',rfl,R,al⟩);go_ret2;exact⟨v',by rw[P2.u];rfl,by rw[P2.u];exact R.lower J.size,J.trans (al.mono J.size)⟩
 have t1:((JK ZJ f).k !=1)=true:=by simp[e1]
 have P2:=AA (show GV m ZJ f kind ss=(ZJ,1) by rw[Vf,if_pos (.inl e1)]);clear e1 D2;go_wp2_with (refine(C6 _ J).mono ?_;rintro e w2 ⟨v',rfl,R,al⟩);go_ret2;exact⟨v',by rw[P2.u];rfl,by rw[P2.u];exact R.lower J.size,J.trans (al.mono J.size)⟩
theorem Ra (v iv:Φ)(m:List (List Int))(ZJ:List AW)(f:Nat)(w:Ω)(h:Bn w v m)(aq:CJ m=true)(hI:Bh w iv ZJ)(bE:BJ ZJ=true)(hf:f<12):
 Ξ prog 182 #[v,iv,.int .i64 f] w (Nj (DT m ZJ f) w):=by
 have hl:=(A4.1 bE).1;have C1:=AA (λW (E:Γ w w W)=>by have:=Iy v m W (h.below E);rw[aq] at this;exact this);have C2:=AA (λW (E:Γ w w W)=>by have:=Dp iv ZJ W (BN.below hI E) (Cg bE);rw[bE] at this;exact this);have C3:=AA (λW (_:Γ w w W)=>A7 (by have:=EA (f:Int) W;rw[show Bo (f:Int) 0 11=true from Aa.2 ω] at this;exact this));have C4:=AA (λW (_:Γ w w W)=>A7 (GJ (JK ZJ f).k W));have C6:=AA (λW (E:Γ w w W)=>Ge iv ZJ W (BN.below hI E) ω);have C8:=AA (λW (E:Γ w w W)=>Uk v iv m ZJ f (-1) W (h.below E) aq (BN.below hI E) bE hf (.inr rfl));have SM:=AA (M8 (kind:=1) aq bE hf (.inr (rfl:(-1:Int)= -1)));obtain⟨ai,ci,rfl,iG,ga,H2⟩:=BN.open Az ψ hI;obtain⟨bi,a8,rfl,bB,D0,_,D2⟩:=H2.zZ (ω:f<ZJ.length);have fn:(f:Int)<ZJ.length:=ω;have Hl:=AA hl;have J:=yN w w;clear h aq hI bE hl H2;go_in;go_wp2_with fail;refine(C1 _ J).mono ?_;rintro e w_ ⟨rfl,bu⟩;replace J:=J.trans (bu.mono J.size);clear bu;go_wp2_with fail;refine(C2 _ J).mono ?_;rintro e w_ ⟨rfl,bu⟩;replace J:=J.trans (bu.mono J.size);clear bu;go_wp2_with fail;refine(C3 _ J).mono ?_;rintro e w_ ⟨rfl,bu⟩;replace J:=J.trans (bu.mono J.size);clear bu;replace D0:=(J.cell (p:=⟨bi,a8+f*3,none⟩) bB).trans D0;have lj:=D2;replace D2:=(J.cell (p:=⟨bi,a8+f*3+2,none⟩) bB).trans D2;cases e1:Bp (JK ZJ f).k
 .have P2:=AA (show DT m ZJ f=(ZJ,1) by rw[Oy,if_pos (.inl e1)])
  have T:=AA e1;clear e1 D2;go_wp2_with fail;refine(C4 _ J).mono ?_;rintro e w_ ⟨rfl,bu⟩;rw[T.u];replace J:=J.trans (bu.mono J.size);clear bu;go_wp2_with (refine(C6 _ J).mono ?_;rintro e w2 ⟨v',rfl,R,al⟩);go_ret2;exact⟨v',by rw[P2.u];rfl,by rw[P2.u];exact R.lower J.size,J.trans (al.mono J.size)⟩
 have T:=AA e1
 by_cases e2:(JK ZJ f).r=0
 .have t2:((JK ZJ f).r !=0)=false:=by simp[e2]
  have P2:=AA (show DT m ZJ f=if BJ (An (BP ZJ (named (AJ m f)) (-1)) f (Dn 1)) then(An (BP ZJ (named (AJ m f)) (-1)) f (Dn 1),0) else(ZJ,2) by rw[Oy,if_neg (by simp[e1,e2])]);clear e1 e2;go_wp2_with fail;refine(C4 _ J).mono ?_;rintro e w_ ⟨rfl,bu⟩;rw[T.u];replace J:=J.trans (bu.mono J.size);clear bu;replace D2:=(J.cell (p:=⟨bi,a8+f*3+2,none⟩) bB).trans lj;go_wp2_with fail;clear D0 D2;refine(C8 _ J).mono ?_;rintro e w2 ⟨v',rfl,R,al⟩;have gW:(BP ZJ (named (AJ m f)) (-1)).length=ZJ.length:=KB;rw[IQ] at P2 SM;generalize BP ZJ (named (AJ m f)) (-1)=X at*;have jy:f<X.length:=by rw[gW,Hl.u];exact hf
  obtain⟨g,a6,rfl,c1,c2,q1,q2,bY⟩:=R.zW ω;unfold maxLen at c2;have q3:=yM J.size q1;have S0:=AP.zH Az R (Cj jy) (j:=0) ψ (y:=Dn 1 (JK X f)) (u:=.int .i64 1) rfl;rw[xT] at S0;have S:=AA S0;clear S0;obtain⟨d0,_,_⟩:=AP.zZ R jy;have Fr:=bY (f*3);have hZ:=AM (J.trans (al.mono J.size)) S.2 q3 (yM J.size al.size);have kB:(f:Int)<X.length:=ω;have jE:=AA (S.1.lower J.size);clear R al J gW;go_wp2_with fail;generalize hw3:w2.setCell _ _=w3 at*;clear d0 Fr bY hw3;have h8:(X.set f (Dn 1 (JK X f))).length=X.length:=yi ..;have C9:=Dp (.slice g X.length a6) (X.set f (Dn 1 (JK X f))) w3 jE.rd SM.u;cases hq:BJ (X.set f (Dn 1 (JK X f)))
  .have P3:=AA (show DT m ZJ f=(ZJ,2) by rw[P2.u,hq];rfl)
   rw[hq] at C9;have C:=AA C9;clear C9 hq h8;refine C.mono ?_;rintro e w4 ⟨rfl,cb⟩;have J:=hZ.trans (cb.mono hZ.size);go_wp2_with (refine(C6 _ J).mono ?_;rintro e w2 ⟨v',rfl,R,al⟩);go_ret2;exact⟨v',by rw[P3.u];rfl,by rw[P3.u];exact R.lower J.size,J.trans (al.mono J.size)⟩
  have P3:=AA (show DT m ZJ f=(X.set f (Dn 1 (JK X f)),0) by rw[P2.u,hq];rfl)
  rw[hq] at C9;have C:=AA C9;clear C9 hq h8;refine C.mono ?_;rintro e w4 ⟨rfl,cb⟩;have J:=hZ.trans (cb.mono hZ.size);have jF:=AA (jE.below cb);go_wp2;go_ret2;exact⟨_,by rw[P3.u];rfl,by rw[P3.u];exact jF.u,J⟩
 have t2:((JK ZJ f).r !=0)=true:=by simp[e2]
 have P2:=AA (show DT m ZJ f=(ZJ,1) by rw[Oy,if_pos (.inr e2)]);clear e1 e2;go_wp2_with fail;refine(C4 _ J).mono ?_;rintro e w_ ⟨rfl,bu⟩;rw[T.u];replace J:=J.trans (bu.mono J.size);clear bu;replace D2:=(J.cell (p:=⟨bi,a8+f*3+2,none⟩) bB).trans lj;go_wp2_with (refine(C6 _ J).mono ?_;rintro e w2 ⟨v',rfl,R,al⟩);go_ret2;exact⟨v',by rw[P2.u];rfl,by rw[P2.u];exact R.lower J.size,J.trans (al.mono J.size)⟩
theorem Tryz.zj:(prog.info? 29).map (λi=>(i.zero,i.size,i.bytes))=some (some (.slice none 0 0),1,24):=φ
theorem Me:29≠3:=ψ
theorem LC{e B:Nat}{xs:List Φ}(h:w.ownsRow lo e sz v n xs)(hu:∀k,u.ownBlock=some k->w.heap.size<=k):GH v u:=by intro k L mj;have H:=(h.lt k L).2;have A:=hu k mj;omega
variable{c e i v':Φ}
theorem Ay.push{kc:List (List Int)}{x:List Int}
 (h:Ay lo w v K kc)(J:Γ w w w1)(bs:lo<=w.heap.size)(hu:AE w w1 u x)
 (H:w2.ownsRow lo 29 1 v' (K.length+1) (Cb Gs K++[u]))(A:w1.grownBy w2 v.ownBlock):Ay lo w2 v' (K++[u]) (kc++[x]):=by
 obtain⟨a1,a2,a3⟩:=h;have gv:=a1.below J;refine⟨?_,GY.snoc (a2.mono λy ys hy=>?_) ?_,Dk.snoc a3 λy hy=>?_⟩
 .unfold AP
  rw[Bq,Es,yz];exact H
 .have gS:=hy.below J
  exact Av gS A (BK gS gv (Ne.symm Me)).ne
 .exact Av (BS hu bs) A (BK hu gv (Ne.symm Me)).ne
 obtain⟨i,hi⟩:=xO hy
 obtain⟨ys,gy⟩:∃ys,kc[i]?=some ys:=⟨_,yG (by rw[<-a2.1];exact(yD.1 hi).1)⟩
 exact LC (B:=0) (a2.2 i y ys hi gy) (λk L=>(hu.lt k L).1)
def PI(n:Nat):List (List Int):=xZ n [0,0,0,0]
theorem Zo (w:Ω):
 Ξ prog 138 #[] w λe O=>∃v K,e=.returned v/\Ay w O v K (PI 12)/\Γ w w O:=by
 go_in;go_wp2_with fail;go_loopw [1,2] (λo i wr=>∃k:Nat,∃K:List Φ,k<=12/\K.length=k/\i=.int .i64 k/\Ay w wr o K (PI k)/\Γ w w wr) (λ_ i _=>12 - (intOf i).toNat)
 exact⟨0,[],ω,rfl,rfl,⟨CU _ _ _,GY.nil,Dk.nil⟩,AG _ _⟩
 obtain⟨k,K,L,hl,rfl,R,ad⟩:=hrel;have Hl:=AA hl;clear hl
 by_cases ar:k<12
 .have lq:K.length<=12:=by rw[Hl.u];omega
  go_wp2_with (first|(at_make;go_must (refine Qv (n:=4) rfl rfl 3 (.int .i64 0) 8 underlying29 Tryz.zS rfl rfl ω μ ?_;intro w2 a5 bP gb))|(at_builtin;go_must (refine Bm (lo:=w.heap.size) (n:=K.length) (xs:=Cb Gs K) (m:=1) (news:=[.slice wr 4 4]) rfl rfl 29 (.slice none 0 0) 1 24 underlying23 Tryz.zj rfl ψ rfl ((R.below bP).below (AG _ _)).1 rfl (Rd.zM _ #[_] _ 1 1 _ χ rfl ζ) (by simp[xR]) μ ω (by have:=ad.size;simp;omega) ?_;intro o' w3 g1 g2 g3 g4)));go_roundw
  case rel=>have hu:AE wr w2 (.slice wr 4 4) [0,0,0,0]:=a5;have al:=bP.trans ((AG w2 (.cells #[.slice wr 4 4] 29)).mono bP.size);have hP:=R.push al ad.size (hu.below (AG _ _)) g1 g2;refine⟨k+1,K++[.slice wr 4 4],ω,by rw[yz,Hl.u];rfl,ξ,?_,(ad.trans (al.mono ad.size)).trans g4⟩;rw[show PI (k+1)=PI k++[[0,0,0,0]] by simp[PI,sW]];exact hP
  case measure=>simp[intOf];omega
 obtain rfl:k=12:=ω;go_wp2;go_ret;exact⟨_,K,rfl,R,ad⟩
theorem Tryz.zi:(prog.info? 9).map (λi=>(i.zero,i.size,i.bytes))=some (some (.string ⟨#[]⟩),1,16):=φ
theorem Tryz.zd:(prog.info? 81).map (λi=>(i.zero,i.size,i.bytes))=some (some (.agg #[ι,θ]),2,32):=φ
variable{ts:List ByteArray}
theorem cL:∀u∈Cb A0 ts,u.oneCell'=true:=by intro u hu;obtain⟨s,_,hs⟩:=wY.1 hu;simp[A0] at hs;subst hs;rfl
theorem BN.keep{α:Type}{cs:α->List Φ}{xs:List α}(h:BN sz cs w v xs)(L:∀k,k<w.heap.size->O.heap[k]?=w.heap[k]?):BN sz cs O v xs:=Rd.keep h L
theorem Dh.push{r:Φ}{ps:List (Φ×Int)}{n:Int}
 (h:Dh lo w v ps es)(J:Γ w w w1)(bs:lo<=lo')(ko:w.heap.size<=lo')(hr:AP lo' 9 1 A0 w1 r ts)
 (H:w2.ownsRow lo 81 2 v' (ps.length+1) (Cb FR ps++[r,.int .i64 n]))(A:w1.grownBy w2 v.ownBlock):Dh lo w2 v' (ps++[(r,n)]) (es++[⟨ts,n⟩]):=by
 obtain⟨a1,a2,a3⟩:=h;have gv:=a1.below J;have dr:9≠81:=ψ;refine⟨?_,GY.snoc (a2.mono λy ys hy=>⟨?_,hy.2⟩) ⟨?_,rfl⟩,?_⟩
 .unfold AP
  rw[Bq,Es,yz];exact H
 .have gS:=hy.1.below J
  exact Av gS A (BK gS gv dr).ne
 .exact Av (BS hr bs) A (BK hr gv dr).ne
 rw[xM]
 refine Dk.snoc a3 λy hy=>?_
 obtain⟨p,hp,rfl⟩:=wj.1 hy;obtain⟨i,hi⟩:=xO hp;obtain⟨e,he⟩:∃e,es[i]?=some e:=⟨_,yG (by rw[<-a2.1];exact(yD.1 hi).1)⟩
 exact LC (B:=0) (a2.2 i p e hi he).1 (λk L=>yM ko (hr.lt k L).1)
def dj(lo lo' g:Nat)(j5 u ev:Φ)(b at_:Nat)(k:Int)(ts:List ByteArray)(ps:List (Φ×Int))(es:List FF)(i:Nat)(v:Φ)(w:Ω):Prop:=match i with
 |0|11=>v=.pointer (some ⟨g,2,none⟩)
 |1=>v=ev
 |2=>∃g2,v=.slice (some ⟨g2,0,none⟩) 0 0/\lo'<=g2/\w.heap[g2]?=some (.cells #[] 9 (0,0))
 |3=>v=j5
 |4=>v=.int .i64 k
 |5=>v=.pointer (some ⟨b,at_,none⟩)
 |6=>v=u
 |7=>AP lo' 9 1 A0 w v ts
 |8=>∃r,v=.agg #[r,.int .i64 (-1)]/\AP lo' 9 1 A0 w r ts
 |9=>∃r g9,v=.slice (some ⟨g9,0,none⟩) 1 1/\lo'<=g9/\w.heap[g9]?=some (.cells #[r,.int .i64 (-1)] 81 (0,0))/\AP lo' 9 1 A0 w r ts
 |10=>∃r,Dh lo w v (ps++[(r,-1)]) (es++[⟨ts,-1⟩])
 |_=>True
theorem Bc{e:Nat}{xs:List Φ}{row:Option Nat}(h:w.ownsRow lo e sz v n xs)(N:w.grownBy O row)(hr:∀k,row=some k->k<lo):O.ownsRow lo e sz v n xs:=by
 refine Av h N ?_;cases hv:v.ownBlock with
 |none=>exact .inl rfl
 |some k=>
  refine .inr λhe=>?_
  have H:=hr k he.symm;have A:=(h.lt k hv).1;omega
variable{o:Obj}
theorem FL{row:Option Nat}(h:w.heap[g]?=some o)(hl:lo<=g)(N:w.grownBy O row)(hr:∀k,row=some k->k<lo):O.heap[g]?=some o:=
 (N.block g (Array.getElem?_eq_some_iff.1 h).1 (λe=>by have:=hr g e.symm;omega)).trans h
theorem Mo{j5 ev:Φ}{at_:Nat}{k:Int}{ps:List (Φ×Int)}{i:Nat}{row:Option Nat}
 (h:dj lo lo' g j5 u ev b at_ k ts ps es i v w)(N:w.grownBy O row)(hr:∀k,row=some k->k<lo')(hi:i≠10∨row=none):dj lo lo' g j5 u ev b at_ k ts ps es i v O:=by
 match i with
 |0|1|3|4|5|6=>exact h
 |2=>obtain⟨g2,h0,H,A⟩:=h;exact⟨g2,h0,H,FL A H N hr⟩
 |7=>exact Bc h N hr
 |8=>obtain⟨r,h0,H⟩:=h;exact⟨r,h0,Bc H N hr⟩
 |9=>obtain⟨r,g9,h0,H,A,h3⟩:=h;exact⟨r,g9,h0,H,FL A H N hr,Bc h3 N hr⟩
 |10=>
  obtain⟨r,h0⟩:=h
  rcases hi with hi|hi
  .exact absurd rfl hi
  subst hi;exact⟨r,h0.below ⟨N.os,N.tape,N.output,N.size,λk L=>N.block k L χ⟩⟩
 |11=>exact h
 |_+12=>trivial
theorem Y8{α:Type}(us K:List α)(u0 u:α):(us++u0::K).set us.length u=(us++[u])++K:=χ
def Ga(lo:Nat)(w:Ω)(v:Φ)(us K:List Φ)(m:List (List Int)):Prop:=AP lo 29 1 Gs w v (us++K)/\GY (AE lo w) us (m.take us.length)/\Dk us
variable{cs us zs:List Φ}
theorem Ga.step{u0:Φ}(h:Ga lo w (.slice g n a6) us (u0::K) m)(hn:n=(us++u0::K).length)
 (J:Γ w w w1)(bs:lo<=w.heap.size)(hu:AE w w1 u r)(hr:m[us.length]?=some r):
 Ga lo (w1.setCell (g,us.length) u) (.slice g n a6) (us++[u]) K m/\w1.grownBy (w1.setCell (g,us.length) u) (some g):=by
 obtain⟨a1,a2,a3⟩:=h;have gv:=a1.below J;subst hn;have S:=AP.zH Ej gv (k:=us.length) (x:=u0) χ (j:=0) ψ (y:=u) (u:=u) rfl;rw[wX,xT,Y8] at S;have dr:3≠29:=Ne.symm Me;refine⟨⟨?_,?_,Dk.snoc a3 λy hy=>?_⟩,S.2⟩
 .have:=S.1
  rwa [(χ:(us++u0::K).length=((us++[u])++K).length)] at this ⊢
 .rw[yz,xP,DQ hr]
  refine GY.snoc (a2.mono λy ys hy=>?_) ?_
  .have gS:=hy.below J
   exact Av gS S.2 (BK gS gv dr).ne
  exact Av (BS hu bs) S.2 (BK hu gv dr).ne
 obtain⟨i,hi⟩:=xO hy
 obtain⟨ys,gy⟩:∃ys,(m.take us.length)[i]?=some ys:=⟨_,yG (by rw[<-a2.1];exact(yD.1 hi).1)⟩
 exact LC (B:=0) (a2.2 i y ys hi gy) (λk L=>(hu.lt k L).1)
theorem Ga.whole (h:Ga lo w v us [] m)(hl:us.length=m.length):Ay lo w v us m:=by obtain⟨a1,a2,a3⟩:=h;rw[tR] at a1;rw[hl,xD] at a2;exact⟨a1,a2,a3⟩
def Hy(lo:Nat)(w:Ω)(v:Φ)(qs ps:List (Φ×Int))(es:List FF):Prop:=AP lo 81 2 FR w v (qs++ps)/\GY (λp e=>AP lo 9 1 A0 w p.1 e.PQ/\p.2=e.root) qs (es.take qs.length)/\Dk (qs.map (·.1))
theorem Hy.step{qs ps:List (Φ×Int)}{p0:Φ×Int}{e:FF}(h:Hy lo w (.slice g n a6) qs (p0::ps) es)(hn:n=(qs++p0::ps).length)
 (J:Γ w w w1)(bs:lo<=w.heap.size)(hu:AP w.heap.size 9 1 A0 w1 u e.PQ)(he:es[qs.length]?=some e)(hp:p0.2=e.root):
 Hy lo (w1.setCell (g,qs.length*2) u) (.slice g n a6) (qs++[(u,p0.2)]) ps es/\w1.grownBy (w1.setCell (g,qs.length*2) u) (some g):=by
 obtain⟨a1,a2,a3⟩:=h;have gv:=a1.below J;subst hn;have S:=AP.zH GU gv (k:=qs.length) (x:=p0) χ (j:=0) ψ (y:=(u,p0.2)) (u:=u) rfl;rw[xT,Y8] at S;have dr:9≠81:=ψ;refine⟨⟨?_,?_,?_⟩,S.2⟩
 .have:=S.1
  rwa [(χ:(qs++p0::ps).length=((qs++[(u,p0.2)])++ps).length)] at this ⊢
 .rw[yz,xP,DQ he]
  refine GY.snoc (a2.mono λy ys hy=>⟨?_,hy.2⟩) ⟨?_,hp⟩
  .have gS:=hy.1.below J
   exact Av gS S.2 (BK gS gv dr).ne
  exact Av (BS hu bs) S.2 (BK hu gv dr).ne
 rw[xM]
 refine Dk.snoc a3 λy hy=>?_
 obtain⟨p,hp,rfl⟩:=wj.1 hy;obtain⟨i,hi⟩:=xO hp;obtain⟨e',he'⟩:∃e',(es.take qs.length)[i]?=some e':=⟨_,yG (by rw[<-a2.1];exact(yD.1 hi).1)⟩
 exact LC (B:=0) (a2.2 i p e' hi he').1 (λk L=>(hu.lt k L).1)
theorem Hy.whole{qs:List (Φ×Int)}(h:Hy lo w v qs [] es)(hl:qs.length=es.length):Dh lo w v qs es:=by obtain⟨a1,a2,a3⟩:=h;rw[tR] at a1;rw[hl,xD] at a2;exact⟨a1,a2,a3⟩
theorem Va (v:Φ)(m:List (List Int))(w:Ω)(h:Bn w v m)(aq:CJ m=true):
 Ξ prog 61 #[v] w λe O=>∃v' K,e=.returned v'/\Ay w O v' K m/\Γ w w O:=by
 obtain⟨K,H,A⟩:=h;have b7:=(Ak.1 aq).1;have jn:K.length=12:=by rw[A.1,b7]
 have CC:=AA (NJ v K w H ω (Ub A));have CI:=AA (λk (L:k<12) W (E:Γ w w W)=>JJ (K.getD k (.bool false)) (AJ m k) W (A3.below (A.2 k _ _ (A9 ω) (by unfold AJ;exact A9 ω)) E) (by have:=(BG.1 ((Ak.1 aq).2 k L)).1;omega));have SH:=AA (λk (L:k<12)=>(by obtain⟨a,c,e,_⟩:=(A.2 k _ _ (A9 (d:=Value.bool false) ω) (A9 (d:=[]) ω)).open;exact⟨a,_,c,e⟩:∃a n c,K.getD k (.bool false)=.slice a n c));have jK:=AA jn;have l0:=AA b7;obtain⟨ai,ci,rfl,_,_⟩:=H.shape;clear H A aq b7;rw[jn] at CC ⊢;clear jn;go_in;go_wp2_with fail;refine CC.mono ?_;rintro e w1 ⟨v',rfl,R,bx⟩;obtain⟨g,a6,rfl,c1,c2,q1,q2,bY⟩:=R.zW (by have:=jK.u;omega);unfold maxLen at c2;rw[jK.u] at R c1 ⊢;have HO:=AA R;have HB:=AA bx;clear R bx bY;go_wp2_with fail;go_loopw [10] (λi wr=>∃us:List Φ,us.length<=12/\i=.int .i64 us.length/\Ga w wr (.slice g 12 a6) us (K.drop us.length) m/\Γ w w wr) (λi _=>12 - (intOf i).toNat)
 exact⟨[],χ,rfl,⟨HO.u,GY.nil,Dk.nil⟩,HB.u⟩
 obtain⟨us,L,rfl,hH,ad⟩:=hrel
 by_cases ar:us.length<12
 .have ik:us.length<K.length:=by rw[jK.u];exact ar
  have ed:K.drop us.length=K.getD us.length (.bool false)::K.drop (us.length+1):=by
   rw[tE ik]
   congr 1
   simp[ik]
  rw[ed] at hH;have fl:(us++K.getD us.length (.bool false)::K.drop (us.length+1)).length=12:=by have:=jK.u;simp only[yz,vV,xC];omega
  have h9:=hH.1;rw[<-fl] at h9;have ho:=AP.zJ Ej h9 (k:=us.length) (x:=K.getD us.length (.bool false)) χ 0 _ rfl;rw[wX,xT] at ho;have C:=CI _ ar wr ad;have hr:m[us.length]?=some (AJ m us.length):=by unfold AJ;exact A9 (by rw[l0.u];exact ar)
  have HH:=AA hH;have HR:=AA hr;have CH:=AA C;have iT:=AA fl;have bY:=xV h9 us.length;have od:(12:Int)<=a6:=ω;clear hH h9 hr C ed fl;generalize hu0:K.getD us.length (.bool false)=u0 at*;obtain⟨a0,n0,c0,rfl⟩:∃a n c,u0=.slice a n c:=by have:=SH _ ar;rwa [hu0] at this
  go_wp2_with fail;refine CH.mono ?_;rintro e w2 ⟨u,rfl,hu,al⟩;have D2:=(al.cell (p:=⟨g,us.length,none⟩) (yK wr _ ho)).trans ho;have my:=(al.frozen (p:=⟨g,us.length,none⟩) (yK wr _ ho)).trans bY;have ST:=AA (Ga.step HH iT.symm al ad.size hu HR.u);have li:=AA (AM (ad.trans (al.mono ad.size)) ST.2 q1 (yM ad.size al.size));obtain⟨a9,c9,rfl,_⟩:=hu.rd.open;clear ho bY hu al ad;go_wp2;go_roundw
  case rel=>refine⟨us++[.slice a9 (AJ m us.length).length c9],by rw[yz,xP];omega,by rw[yz,xP];go_num,?_,li.u⟩;rw[yz,xP];exact ST.1
  case measure=>simp[intOf];omega
 have e12:us.length=12:=ω;rw[tr (by rw[e12,jK.u];exact yF _)] at hH;have hO:=AA (hH.whole (by rw[e12,l0.u]));clear hH;go_wp2;go_ret;exact⟨_,us,rfl,hO.u,ad⟩
def KF(lo:Nat)(w:Ω)(v:Φ)(k:AQ)(ps:List (Φ×Int)):Prop:=∃m i e c,v=.agg #[m,i,e,c]/\(∃K,Ay lo w m K k.mem)/\AP lo 115 3 Au w i k.ZJ/\AP lo 81 2 FR w e ps/\AP lo 125 4 AZ w c k.XU
theorem KF.below{k:AQ}{ps:List (Φ×Int)}(h:KF lo w v k ps)(J:Γ w w O):KF lo O v k ps:=by obtain⟨m,i,e,c,h0,⟨K,H⟩,A,h3,h4⟩:=h;exact⟨m,i,e,c,h0,⟨K,H.below J⟩,A.below J,h3.below J,h4.below J⟩
def LP(lo:Nat)(w:Ω)(v:Φ):Prop:=∃g,v=.pointer (some ⟨g,0,none⟩)/\lo<=g/\w.heap[g]?=some (.cells #[ι,ι,ι,ι] 28 (0,0))
theorem LP.below (h:LP lo w v)(J:Γ w w O):LP lo O v:=by obtain⟨g,h0,H,A⟩:=h;exact⟨g,h0,H,AB A J⟩
def OK(w0:Ω)(g:Nat)(m i e c:Φ)(k:AQ)(qs ps:List (Φ×Int))(wr:Ω):Prop:=
 wr.heap[g]?=some (.cells #[m,i,e,c] 28 (0,0))/\(∃K,Ay w0 wr m K k.mem)/\AP w0.heap.size 115 3 Au wr i k.ZJ/\Hy w0 wr e qs ps k.XX/\AP w0.heap.size 125 4 AZ wr c k.XU/\Γ w0 w0 wr
theorem OK.step{w0:Ω}{m:Φ}{k:AQ}{qs ps:List (Φ×Int)}{p0:Φ×Int}{e:FF}(h:OK w0 g m i (.slice ge n a6) c k qs (p0::ps) w)(hn:n=(qs++p0::ps).length)
 (J:Γ w w w1)(hu:AP w.heap.size 9 1 A0 w1 u e.PQ)(he:k.XX[qs.length]?=some e)(hp:p0.2=e.root):
 OK w0 g m i (.slice ge n a6) c k (qs++[(u,p0.2)]) ps (w1.setCell (ge,qs.length*2) u):=by
 obtain⟨hB,⟨K,H⟩,A,h3,h4,h5⟩:=h;have S:=Hy.step h3 hn J h5.size hu he hp;have kT:=AB hB J;have ia:=h3.1.below J;obtain⟨c8,b9⟩:=BB ia ge rfl;have bs:=(yE ia ge rfl).1;refine⟨(S.2.block g (AY kT) λe=>?_).trans kT,⟨K,(H.below J).yV S.2 b9⟩,(A.below J).yV S.2 b9,S.1,(h4.below J).yV S.2 b9,(h5.trans (J.mono h5.size)).setCell bs _⟩;cases e;rw[kT] at b9;simp at b9
def Qk(w:Ω)(k:AQ)(e:Ending)(O:Ω):Prop:=∃m i ev c,e=.returned (.agg #[m,i,ev,c])/\Dy w O m i ev c k/\Γ w w O
theorem Rv{k:AQ}(L:Dg k)(hj:j<3):(AI k.XX j).PQ.length<=6:=by have h5:=L.PQ j hj;unfold BY at h5;simp only[yC,decide_eq_true_eq] at h5;exact h5.2
theorem Vb (m i e c:Φ)(k:AQ)(w:Ω)(h:Nk w m i e c k)(L:Dg k):
 Ξ prog 60 #[.agg #[m,i,e,c]] w (Qk w k):=by
 obtain⟨H,A,⟨ps,h3,ia⟩,h4⟩:=h;have fp:ps.length=3:=by rw[ia.1,L.zX]
 have hE:k.XU.length<=4:=by have:=L.XU;simp only[Bl,yC,decide_eq_true_eq] at this;exact this.2
 have jA:=L.zX;have N0:=yy w (.cells #[m,i,e,c] 28);have N1:=yy (w.alloc (.cells #[m,i,e,c] 28)) (.cells #[ι,ι,ι,ι] 28);replace N0:=AB N0 (AG _ (.cells #[ι,ι,ι,ι] 28));have bp:=Hv w (.cells #[m,i,e,c] 28) (.cells #[ι,ι,ι,ι] 28);have ij:w.heap.size+2=((w.alloc (.cells #[m,i,e,c] 28)).alloc (.cells #[ι,ι,ι,ι] 28)).heap.size:=χ;simp only[xt] at N1;obtain⟨am,cm,rfl,_⟩:=H.open;obtain⟨ai,ci,rfl,_⟩:=A.shape;obtain⟨ae,ce,rfl,_⟩:=h3.shape;obtain⟨ac,cc,rfl,_⟩:=h4.shape;have ja:=AA fp;have m6:=AA hE;have lf:=AA jA;clear fp hE jA;go_in;go_wp2_with fail;have fp:=ja.u;have hE:=m6.u;have jA:=lf.u;generalize hW0:(w.alloc _).alloc _=W0 at*;have C1:=AA (λW (E:Γ W0 W0 W)=>Va _ k.mem W ((H.below bp).below E) L.mem);have C2:=AA (λW (E:Γ W0 W0 W)=>Ge _ k.ZJ W ((A.below bp).below E) (by rw[L.len];omega));have C3:=AA (λW (E:Γ W0 W0 W)=>Uy _ ps W ((h3.below bp).below E) ω (Z1 ia));have C4:=AA (λW (E:Γ W0 W0 W)=>Jj _ k.XU W ((h4.below bp).below E) ω);have C5:=AA (λj (hj:j<3) W (E:Γ w w W)=>Jk (ps.getD j (.bool false,0)).1 (AI k.XX j).PQ W (BN.below (ia.2 j _ _ (A9 ω) (by unfold AI;exact A9 ω)).1 E) (by have h6:=Rv L hj;omega));have C6:=AA (λj (hj:j<3)=>(ia.2 j (ps.getD j (.bool false,0)) (AI k.XX j) (A9 ω) (by unfold AI;exact A9 ω)).2);have C7:=AA (λj (hj:j<3)=>(by obtain⟨a,n,e,_⟩:=(ia.2 j (ps.getD j (.bool false,0)) (AI k.XX j) (A9 ω) (by unfold AI;exact A9 ω)).1.shape;exact⟨a,_,n,e⟩:∃a n c,(ps.getD j (.bool false,0)).1=.slice a n c));have Hk:=AA L;have gV:w.heap.size<W0.heap.size:=ω;obtain⟨x0,x1,x2,x3⟩:=AH N0;clear H A h3 ia h4 L hW0 fp hE jA;refine BD 14 37 [.p w.heap.size 0,.v (.slice am k.mem.length cm),.z,.p w.heap.size 1,.v (.slice ai k.ZJ.length ci),.z,.p w.heap.size 2,.v (.slice ae ps.length ce),.z,.p w.heap.size 3,.v (.slice ac k.XU.length cc),.z,.z,.z] (λix vv ww=>match ix with
  |2=>∃gN,Ay W0 ww vv gN k.mem
  |5=>AP W0.heap.size 115 3 Au ww vv k.ZJ
  |8=>AP W0.heap.size 81 2 FR ww vv ps
  |11=>AP W0.heap.size 125 4 AZ ww vv k.XU
  |12=>KF W0 ww vv k ps
  |13=>LP W0 ww vv
  |_=>True) ?_ ?_ ?_
 .intro i hi o D a wx z Z Y vs V
  match i,hi with
  |0,_|3,_|6,_|9,_=>exact sP D V z Z
  |1,_=>exact sL D V z Z (hl:=GR (bc Y gV x0))
  |2,_=>exact sC D V z Z (C1 _ Y) (by rintro e w_ ⟨v',gN,rfl,R,al⟩;exact⟨_,rfl,⟨gN,R.lower Y.size⟩,al⟩)
  |4,_=>exact sL D V z Z (hl:=Gi (bc Y gV x1))
  |5,_=>exact sC D V z Z (C2 _ Y) (by rintro e w_ ⟨v',rfl,R,al⟩;exact⟨_,rfl,(R.lower Y.size),al⟩)
  |7,_=>exact sL D V z Z (hl:=Ph (bc Y gV x2))
  |8,_=>exact sC D V z Z (C3 _ Y) (by rintro e w_ ⟨v',rfl,R,al⟩;exact⟨_,rfl,(R.lower Y.size),al⟩)
  |10,_=>exact sL D V z Z (hl:=YF (bc Y gV x3))
  |11,_=>exact sC D V z Z (C4 _ Y) (by rintro e w_ ⟨v',rfl,R,al⟩;exact⟨_,rfl,(R.lower Y.size),al⟩)
  |12,_=>
   obtain rfl:=yP D;have d2:∃gN,Ay W0 wx (a.tmps[8]?.getD Θ) gN k.mem:=Bd Z 2
   have d5:AP W0.heap.size 115 3 Au wx (a.tmps[11]?.getD Θ) k.ZJ:=Bd Z 5;have d8:AP W0.heap.size 81 2 FR wx (a.tmps[14]?.getD Θ) ps:=Bd Z 8;have iR:AP W0.heap.size 125 4 AZ wx (a.tmps[17]?.getD Θ) k.XU:=Bd Z 11;clear Z z;generalize e8:a.tmps[8]?.getD Θ=m' at d2;generalize e11:a.tmps[11]?.getD Θ=i' at d5;generalize e14:a.tmps[14]?.getD Θ=e' at d8;generalize e17:a.tmps[17]?.getD Θ=c' at iR;have W:dv (KF W0 wx (.agg #[m',i',e',c']) k ps):=AA ⟨m',i',e',c',rfl,d2,d5,d8,iR⟩;obtain⟨_,d2⟩:=d2;obtain⟨_,_,rfl,_,_⟩:=d2.1.rd.shape;obtain⟨_,_,rfl,_,_⟩:=d5.rd.shape;obtain⟨_,_,rfl,_,_⟩:=d8.rd.shape;obtain⟨_,_,rfl,_,_⟩:=iR.rd.shape;clear d2 d5 d8 iR;refine yO ?_;go_simp;exact V _ _ W (yN _ _)
  |13,_=>obtain rfl:=yP D;clear Z z;refine yO ?_;go_simp;exact V _ _ ⟨_,rfl,Y.size,yy _ _⟩ (AG _ _)
 .intro i hi vv wz gM cF hz
  match i,hi with
  |2,_=>exact(by obtain⟨gN,h'⟩:=hz;exact⟨gN,h'.below cF⟩)
  |5,_|8,_|11,_=>exact(AP.below hz cF)
  |12,_=>exact(KF.below hz cF)
  |13,_=>exact(LP.below hz cF)
  |0,_|1,_|3,_|4,_|6,_|7,_|9,_|10,_=>exact hz
 intro K wx hR Y
 have gQ:KF W0 wx (K 12) k ps:=Be hR 12;have fy:LP W0 wx (K 13):=Be hR 13;obtain⟨g,fy,N,hB⟩:=fy;clear hR;simp only[Aj,Ae,yL,yI,yJ,yH,fy];simp;generalize K 12=z12 at gQ ⊢;clear fy;obtain⟨m',i',e0,c',rfl,⟨gN,o1⟩,o2,o3,o4⟩:=gQ;obtain⟨ge,em,rfl,d1,d2,n7,n6,kA⟩:=o3.zW (by rw[ja.u];omega);rw[ja.u] at o3 d1 ⊢;unfold maxLen at d2;have dr:g≠w.heap.size+1:=ω;have b8:=Ar (Ar (Ar (At wx g 0 m') 1 i') 2 (.slice ge 3 em)) 3 c';have St:OK W0 g m' i' (.slice ge 3 em) c' k [] ps ((((wx.setCell g m').setCell (g,1) i').setCell (g,2) (.slice ge 3 em)).setCell (g,3) c'):=
  ⟨DP hB,⟨gN,o1.yV b8 hB⟩,o2.yV b8 hB,⟨o3.yV b8 hB,GY.nil,Dk.nil⟩,o4.yV b8 hB,(((Y.setCell N _).setCell N _).setCell N _).setCell N _⟩
 obtain⟨pa,pc,rfl,_,_⟩:=o1.1.rd.shape;obtain⟨qa,qc,rfl,_,_⟩:=o2.rd.shape;obtain⟨ra,rc,rfl,_,_⟩:=o4.rd.shape;obtain⟨b0,b1,b2,b3⟩:=AH hB;have bY:=AK hB;have l6:=AA N0;have nh:=AA N1;clear o1 o2 o3 o4 Y hB b8 x0 x1 x2 x3 kA N0 N1;go_wp2_with fail;clear b0 b1 b2 b3 bY;go_loopw [22] (λi wr=>∃qs:List (Φ×Int),qs.length<=3/\i=.int .i64 qs.length/\OK W0 g _ _ (.slice ge 3 em) _ k qs (ps.drop qs.length) wr) (λi _=>3 - (intOf i).toNat)
 exact⟨[],χ,rfl,St⟩
 clear St;obtain⟨qs,hq,rfl,St⟩:=hrel
 by_cases ar:qs.length<3
 .have ik:qs.length<ps.length:=by rw[ja.u];exact ar
  have ed:ps.drop qs.length=ps.getD qs.length (.bool false,0)::ps.drop (qs.length+1):=by
   rw[tE ik]
   congr 1
   simp[ik]
  rw[ed] at St;have fl:(qs++ps.getD qs.length (.bool false,0)::ps.drop (qs.length+1)).length=3:=by have:=ja.u;simp only[yz,vV,xC];omega
  have h9:=St.2.2.2.1.1;rw[<-fl] at h9;have ho:=AP.zJ GU h9 (k:=qs.length) (x:=ps.getD qs.length (.bool false,0)) χ;have D0:=ho 0 _ rfl;have D1:=ho 1 _ rfl;rw[xT] at D0;have fz:=xV h9;have bl:=bp.trans (St.2.2.2.2.2.mono bp.size);have C:=C5 _ ar;have hp:=C6 _ ar;obtain⟨a0,n0,c0,ij⟩:=C7 _ ar;have he:k.XX[qs.length]?=some (AI k.XX qs.length):=by unfold AI;exact A9 (by rw[lf.u];exact ar)
  have y2:=(AH St.1).2.2.1;have iD:=AY St.1;have gp:=yK wr _ D0;have na:=AA St;have iT:=AA fl;have He:=AA he;have Hp:=AA hp;clear St fl he hp h9 ho ed;generalize ps.getD qs.length (.bool false,0)=p0 at*;obtain⟨u0,r0⟩:=p0;cases ij
  change wr.cell? _=some (xv a0 n0 c0) at D0
  change wr.cell? _=some (yl .i64 r0) at D1
  obtain⟨hg,gK⟩:=Ec wr (.cells #[.slice a0 n0 c0,r0] 81);have c3:(3:Int)<=em:=ω;go_wp2_with fail;generalize wr.alloc _=wa at*;have y5:=yx _ _ 0 _ _ _ hg;have ly:=AY hg;have HC:=AA (λW (E:Γ wa wa W)=>C W ((bl.trans (gK.mono bl.size)).trans (E.mono (bl.trans (gK.mono bl.size)).size)));replace y2:=(gK.cell (p:=⟨g,2,none⟩) iD).trans y2;replace D0:=(gK.cell (p:=⟨ge,qs.length*2,none⟩) gp).trans D0;have lQ:=(gK.frozen (p:=⟨ge,qs.length*2,none⟩) gp).trans (fz _);replace iD:=yt iD gK.size;replace gp:=yt gp gK.size;clear C hg D1 fz;refine BD 8 37 [.p g 2,.v (.slice ge 3 em),.i ((qs.length:Int)),.p wr.heap.size 0,.v (.slice a0 n0 c0),.z,.p ge (qs.length*2),.p ge (qs.length*2)] (λix vv ww=>match ix with
   |5=>AP wa.heap.size 9 1 A0 ww vv (AI k.XX qs.length).PQ
   |_=>True) ?_ ?_ ?_
  .intro i hi o D a wx z Z Y vs V
   match i,hi with
   |0,_|2,_|3,_|7,_=>exact sP D V z Z
   |1,_=>exact sL D V z Z (hl:=Ph (bc Y iD y2))
   |4,_=>exact sL D V z Z (hl:=Kt (bc Y ly y5))
   |5,_=>exact sC D V z Z (HC _ Y) (by rintro e w_ ⟨v',rfl,R,al⟩;exact⟨_,rfl,(R.lower Y.size),al⟩)
   |6,_=>exact sI D V z Z (hr:=by clear Z z V;go_simp)
  .intro i hi vv wz gM cF hz
   match i,hi with
   |5,_=>exact(AP.below hz cF)
   |0,_|1,_|2,_|3,_|4,_|6,_|7,_=>exact hz
  intro K wx hR Y
  have q5:AP wa.heap.size 9 1 A0 wx (K 5) (AI k.XX qs.length).PQ:=Be hR 5;have q7:(K 7)=.pointer (some ⟨ge,qs.length*2,none⟩):=Be hR 7;clear hR;simp only[Aj,Ae,yL,yI,yJ,yH,q7];simp;generalize K 5=z5 at q5 ⊢;clear q7;have ST:=AA (OK.step (p0:=(_,r0)) na iT.symm (gK.trans (Y.mono gK.size)) (q5.lower gK.size) He Hp.u);replace D0:=(Y.cell (p:=⟨ge,qs.length*2,none⟩) gp).trans D0;replace lQ:=(Y.frozen (p:=⟨ge,qs.length*2,none⟩) gp).trans lQ;obtain⟨_,_,rfl,_,_⟩:=q5.rd.shape;clear q5 Y y2 y5;go_wp2;go_roundw;exact⟨qs++[(_,r0)],by rw[yz,xP];omega,by rw[yz,xP];go_num,by rw[yz,xP];exact ST.u⟩;simp[intOf];omega
 have e3:qs.length=3:=ω;rw[tr (by rw[e3,ja.u];exact yF _)] at St;obtain⟨hB,⟨ma,o1⟩,o2,o3,o4,ad⟩:=St;have o5:=o3.whole (by rw[e3,lf.u]);have fo:=(ad.block _ ω).trans nh.u;have S:=AA (show ∀O,wr.grownBy O (some (w.heap.size+1))->Qk w k (.returned (.agg #[_,_,(.slice ge 3 em),_])) O from λO gX=>⟨_,_,_,_,rfl,⟨⟨ma,(o1.yV gX fo).lower bp.size⟩,(o2.yV gX fo).lower bp.size,⟨qs,(o5.yV gX fo).lower bp.size⟩,(o4.yV gX fo).lower bp.size⟩,(bp.trans (ad.mono bp.size)).grown gX (bp.trans (ad.mono bp.size)).size (λk L=>by cases L;omega)⟩)
 obtain⟨E0,E1,E2,E3⟩:=AH (DP (m':=.slice pa gN.length pc) (i':=.slice qa k.ZJ.length qc) (e':=.slice ge 3 em) (c':=.slice ra k.XU.length rc) fo);have HE:=AA (yj E0 (yj E1 (yj E2 E3)));have b8:wr.grownBy ((((wr.setCell (w.heap.size+1,0) (.slice pa gN.length pc)).setCell (w.heap.size+1,1) (.slice qa k.ZJ.length qc)).setCell (w.heap.size+1,2) (.slice ge 3 em)).setCell (w.heap.size+1,3) (.slice ra k.XU.length rc)) (some (w.heap.size+1)):=Ar (Ar (Ar (At wr (w.heap.size+1) 0 _) 1 _) 2 _) 3 _;obtain⟨b0,b1,b2,b3⟩:=AH hB;obtain⟨c0,c1,c2,c3⟩:=AH fo;have bY:=AK fo;have mo:¬(qs.length:Int)<3:=ω;clear hB fo o1 o2 o3 o4 o5 E0 E1 E2 E3 e3;go_wp2_with fail;exact yB (v:=.agg #[_,_,_,_]) (by simp[results,Tryz.results60,go_sem,HE.u]) rfl (S _ b8)
theorem Tryz.infoInfo:(prog.info? 115).map (λi=>(i.zero,i.size,i.bytes))=some (some (.agg #[θ,ϑ,θ]),3,32):=φ
theorem Zs:(madeCells (Value.agg #[θ,ϑ,θ]).cells (12*3)).toList=Cb Au (xZ 12 AW.zero):=φ
def dp(lo:Nat)(i:Nat)(v:Φ)(w:Ω):Prop:=match i with
 |0=>∃K,Ay lo w v K (PI 12)
 |1=>AP lo 115 3 Au w v (xZ 12 AW.zero)
 |2=>AP lo 81 2 FR w v []
 |3=>AP lo 125 4 AZ w v []
 |4=>∃m i e c,v=.agg #[m,i,e,c]/\(∃K,Ay lo w m K (PI 12))/\AP lo 115 3 Au w i (xZ 12 AW.zero)/\AP lo 81 2 FR w e []/\AP lo 125 4 AZ w c []
 |5=>∃g,v=.pointer (some ⟨g,0,none⟩)/\lo<=g/\w.heap[g]?=some (.cells #[ι,ι,ι,ι] 28 (0,0))
 |_=>True
theorem KS{i:Nat}(h:dp lo i v w)(J:Γ w w O):dp lo i v O:=by
 match i with
 |0=>obtain⟨K,h⟩:=h;exact⟨K,h.below J⟩
 |1|2|3=>exact AP.below h J
 |4=>obtain⟨m,i,e,c,h0,⟨K,H⟩,A,h3,h4⟩:=h;exact⟨m,i,e,c,h0,⟨K,H.below J⟩,A.below J,h3.below J,h4.below J⟩
 |5=>
  obtain⟨g,h0,H,A⟩:=h;have:g<w.heap.size:=by
   rcases uC g w with h|h
   .exact h
   rw[Array.getElem?_eq_none h] at A;cases A
  exact⟨g,h0,H,(J.block g this).trans A⟩
 |_+6=>trivial
def JM(ec:List (List ByteArray)):List FF:=ec.map λts=>⟨ts,-1⟩
def Oh(ec:List (List ByteArray)):AQ:=⟨PI 12,xZ 12 AW.zero,JM ec,[]⟩
def fU(w:Ω)(b:Bool)(k:AQ)(e:Ending)(O:Ω):Prop:=∃m i ev c,e=.returned (.tuple #[.agg #[m,i,ev,c],b])/\Dy w O m i ev c k/\Γ w w O
def aj(w0:Ω)(lo g:Nat)(es:List FF)(wr:Ω):Prop:=
 ∃m i ev c K ps,wr.heap[g]?=some (.cells #[m,i,ev,c] 28 (0,0))/\lo<=g/\Ay lo wr m K (PI 12)/\AP lo 115 3 Au wr i (xZ 12 AW.zero)/\Dh lo wr ev ps es/\AP lo 125 4 AZ wr c []/\Γ lo w0 wr
theorem KE (v:Φ)(ec:List (List ByteArray))(w:Ω)(h:Mm w v ec)(h3:ec.length=3)(aq:∀ts∈ec,BY ts=true)(jS:∀ts∈ec,Db ts):
 Ξ prog 71 #[v] w (fU w true (Oh ec)):=by
 obtain⟨K,H,A⟩:=h;obtain⟨a,cv,rfl,hc,bw,H0⟩:=BN.open Ej ψ H;unfold maxLen at bw;have nG:K.length<=3:=by rw[A.1,h3];omega
 have mi:3<=K.length:=by rw[A.1,h3];omega
 have HB:=AA A;have H3:=AA h3;have cP:=AA aq;have mY:=AA jS;clear A h3 aq jS;go_in;go_wp2_with fail;have bp:=AG w (.cells #[ι,ι,ι,ι] 28);have ir:(w.alloc (.cells #[ι,ι,ι,ι] 28)).heap[w.heap.size]?=some (.cells #[ι,ι,ι,ι] 28 (0,0)):=yy w _;have ij:w.heap.size+1=(w.alloc (.cells #[ι,ι,ι,ι] 28)).heap.size:=χ;generalize w.alloc (.cells #[ι,ι,ι,ι] 28)=W0 at bp ir ij;refine Fk 6 mixed φ 41 rfl φ (dp W0.heap.size) (λ_ O=>Γ W0 W0 O) ?_ ?_ ?_
 .exact Ai (yN _ _) 1
 .intro i hi o D a w1 z Z hk HL Y vs V
  have gb:=Y.size;clear z HL
  match i,hi with
  |0,_=>obtain rfl:=yP D;clear Z;refine yO ?_;go_simp;refine(Zo _).mono ?_;rintro e w2 ⟨v,K,rfl,h3,h4⟩;exact V _ _ ⟨K,h3.lower gb⟩ (Y.trans (h4.mono gb)) (λj u _ _ _ h=>KS h h4)
  |1,_=>obtain rfl:=yP D;clear Z;refine yO ?_;obtain⟨i0,jv,jj,ji,jh⟩:=info_parts Tryz.infoInfo;obtain⟨w2,fg,h3,h4⟩:=run_make_full (P:=prog) w1 w1.heap.size 24 115 i0 _ 3 underlying24 jv jj ji .i64 .i64 12 (by rw[jh];decide) ψ (yF _);have h5:=Below.zE h4;rw[Zs] at h3;have lu:(Instr.makeSlice 24 (.int .i64 12) (.int .i64 12)).run prog w1=.ok (.slice w1 12 12) w2:=fg;clear jv jj ji jh fg;go_simp;exact V _ _ (BS h3 gb) (Y.trans (h5.mono gb)) (λj u _ _ _ h=>KS h h5)
  |2,_|3,_=>obtain rfl:=yP D;clear Z;refine yO ?_;go_simp;exact V _ _ ((Cn _ _ _ _).lower gb) (Y.alloc gb _) (λj u _ _ _ h=>KS h (AG _ _))
  |4,_=>
   obtain rfl:=yP D;have d0:=Bd Z 0;have d1:=Bd Z 1;have d2:=Bd Z 2;have d3:=Bd Z 3;clear Z
   change ∃K,Ay _ _ (a.tmps[6]?.getD Θ) _ _ at d0
   change AP _ _ _ _ _ (a.tmps[7]?.getD Θ) _ at d1
   change AP _ _ _ _ _ (a.tmps[8]?.getD Θ) _ at d2
   change AP _ _ _ _ _ (a.tmps[9]?.getD Θ) _ at d3
   refine yO ?_;generalize e6:a.tmps[6]?.getD Θ=m at d0;generalize e7:a.tmps[7]?.getD Θ=i at d1;generalize e8:a.tmps[8]?.getD Θ=e at d2;generalize e9:a.tmps[9]?.getD Θ=c at d3;obtain⟨mc,d0⟩:=d0;have W:=AA (show dp W0.heap.size 4 (.agg #[m,i,e,c]) w1 from⟨m,i,e,c,rfl,⟨mc,d0⟩,d1,d2,d3⟩);obtain⟨_,_,rfl,_,_⟩:=d0.1.rd.shape;obtain⟨_,_,rfl,_,_⟩:=d1.rd.shape;obtain⟨_,_,rfl,_,_⟩:=d2.rd.shape;obtain⟨_,_,rfl,_,_⟩:=d3.rd.shape;clear d0 d1 d2 d3;go_simp;exact V _ _ W Y (λj u _ _ _ h=>h)
  |5,_=>obtain rfl:=yP D;clear Z;refine yO ?_;go_simp;exact V _ _ ⟨_,rfl,gb,yy _ _⟩ (Y.alloc gb _) (λj u _ _ _ h=>KS h (AG _ _))
 intro xs w1 hR hk hL Y
 obtain⟨m,i,e,c,h0,⟨rs,H⟩,A,h3,h4⟩:=Be hR 4;obtain⟨g,h5,h6,h7⟩:=Be hR 5;clear hR hL;simp only[Aj,Ae,yL,yI,yJ,yH,h0,h5];simp;generalize xs 0=y0;generalize xs 1=y1;generalize xs 2=y2;generalize xs 3=y3;have St:aj W0 W0 g (JM (ec.take 0)) ((((w1.setCell g m).setCell (g,1) i).setCell (g,2) e).setCell (g,3) c):=by have b8:=Ar (Ar (Ar (At w1 g 0 m) 1 i) 2 e) 3 c;exact⟨m,i,e,c,rs,[],DP h7,h6,H.yV b8 h7,A.yV b8 h7,⟨h3.yV b8 h7,GY.nil,Dk.nil⟩,h4.yV b8 h7,(((Y.setCell h6 _).setCell h6 _).setCell h6 _).setCell h6 _⟩
 obtain⟨_,_,rfl,_,_⟩:=H.1.rd.shape;obtain⟨_,_,rfl,_,_⟩:=A.rd.shape;obtain⟨_,_,rfl,_,_⟩:=h3.rd.shape;obtain⟨_,_,rfl,_,_⟩:=h4.rd.shape;obtain⟨c0,c1,c2,c3⟩:=AH h7;have bY:=AK h7;clear h0 H A h3 h4 h5 Y h6 h7;go_wp2_with fail;clear c0 c1 c2 c3 bY;simp only[uy,xi];go_loopw [5] (λi wr=>∃k:Nat,k<=3/\i=.int .i64 k/\aj W0 W0 g (JM (ec.take k)) wr) (λi _=>3 - (intOf i).toNat)
 exact⟨0,ω,rfl,St⟩
 clear St;obtain⟨k,L,rfl,m,iv,ev,c,rs,ps,hB,N,o1,o2,o3,o4,ad⟩:=hrel
 by_cases ar:k<3
 .have ik:k<K.length:=ω
  obtain⟨u,hu⟩:∃u,K[k]?=some u:=⟨_,yG ik⟩
  obtain⟨ts,hts⟩:∃ts,ec[k]?=some ts:=⟨_,yG (by rw[H3.u];exact ar)⟩
  have Ru:=HB.2 k u ts hu hts;have aq:=cP ts (yw hts);have jS:=mY ts (yw hts);obtain⟨b,a7,rfl,iK,b5⟩:=H0 k u hu;have Dw:w.cell? (b,a7+k)=some u:=by simpa using b5 0 u rfl
  have bl:=bp.trans (ad.mono bp.size);have ho:wr.cell? (b,a7+k)=some u:=(bl.cell (yK w _ Dw)).trans Dw;have lX:=AA hts;have Hu:=AA hu;clear hu hts Dw b5;go_wp2_with fail;refine(Gz u ts _ (BN.below Ru bl) jS).mono ?_;rintro e w2 ⟨rfl,jm⟩;rw[aq];have bP:Γ wr wr w2:=by obtain⟨n,rfl⟩:=jm;exact Ai (yN _ _) n
  clear jm aq;have bl:=bl.trans (bP.mono bl.size);have ho:w2.cell? (b,a7+k)=some u:=(bP.cell (yK wr _ ho)).trans ho;have bC:=yK w2 _ ho;have kS:=AB hB bP;have gl:=o3.below bP;have o1:=o1.below bP;have o2:=o2.below bP;have o4:=o4.below bP;have ad:=ad.trans (bP.mono ad.size);clear bP o3 hB;have nH:ts.length<=6:=by have:=cP ts (yw lX.u);simp only[BY,yC,decide_eq_true_eq] at this;exact this.2
  have nO:(k:Int)<K.length:=ω;go_wp2_with fail;have jz:ev.ownBlock≠some g:=λhe=>by obtain⟨c8,hc⟩:=BB gl.1 g he;rw[kS] at hc;simp at hc
  have ip:=λk L=>(gl.1.lt k L).2
  have gY:=λk L=>(gl.1.lt k L).1
  have iP:∀w3,w2.grownBy w3 ev.ownBlock->w3.heap[g]?=some (.cells #[m,iv,ev,c] 28 (0,0)):=λw3 h=>(h.block g (AY kS) (λe=>jz e.symm)).trans kS
  have iM:∀w3,w2.grownBy w3 ev.ownBlock->∀k,k<w.heap.size->w3.heap[k]?=w2.heap[k]? :=λw3 h k L=>h.block k (yt L bl.size) (λe=>by have:=gY k e.symm;omega)
  have GS:=AA (λ(hk:Nat->Bool)(w3:Ω)(i:Nat)(h:w2.grownBy w3 ev.ownBlock/\(hk 10=false->Γ w2 w2 w3))=>(⟨h.1,λkW=>h.2 (Do kW)⟩:w2.grownBy w3 ev.ownBlock/\(Hh hk i 10=false->Γ w2 w2 w3)));have GB:=AA (λ(hk:Nat->Bool)(w3 w4:Ω)(i:Nat)(h:w2.grownBy w3 ev.ownBlock/\(hk 10=false->Γ w2 w2 w3))(J:Γ w3.heap.size w3 w4)=>(⟨AO h.1 (AX J _),λkW=>(h.2 (Do kW)).trans (J.mono h.1.size)⟩:w2.grownBy w4 ev.ownBlock/\(Hh hk i 10=false->Γ w2 w2 w4)));refine Fk 12 mixed φ 41 rfl φ (dj W0 w2.heap.size g (.slice (some ⟨b,a7,none⟩) K.length cv) u ev b (a7+k) k ts ps (JM (ec.take k))) (λhk w3=>w2.grownBy w3 ev.ownBlock/\(hk 10=false->Γ w2 w2 w3)) ?_ ?_ ?_
  .exact⟨AX (Ai (yN _ _) 1) _,λ_=>Ai (yN _ _) 1⟩
  .intro i hi o D a w3 z Z hk HL Y vs V
   match i,hi with
   |0,_=>
    obtain rfl:=yP D;have e4:a.tmps[4]?.getD Θ=.pointer g:=by rw[OF z 4];rfl
    clear Z z;refine yO ?_;go_simp;exact V _ _ rfl (GS _ _ _ Y) (λj u _ _ _ h=>h)
   |1,_=>
    obtain rfl:=yP D;have d0:=Bd Z 0
    change a.tmps[24]?.getD Θ=.pointer (some ⟨g,2,none⟩) at d0
    clear Z z;refine yO ?_;have cg:w3.cell? (g,2)=some ev:=yx w3 g 2 _ _ _ (iP w3 Y.1);go_simp;exact V _ _ rfl (GS _ _ _ Y) (λj u _ _ _ h=>h)
   |2,_=>obtain rfl:=yP D;clear Z z;refine yO ?_;go_simp;exact V _ _ ⟨_,rfl,Y.1.size,yy _ _⟩ (GB _ _ _ _ Y (AG _ _)) (λj u _ _ _ h=>Mo h (AX (AG _ _) none) (λk L=>by cases L) (.inr rfl))
   |3,_=>
    obtain rfl:=yP D;have e0:a.tmps[0]?.getD Θ=.slice (some ⟨b,a7,none⟩) K.length cv:=by rw[OF z 0];rfl
    clear Z z;refine yO ?_;go_simp;exact V _ _ rfl (GS _ _ _ Y) (λj u _ _ _ h=>h)
   |4,_=>
    obtain rfl:=yP D;have e5:a.tmps[5]?.getD Θ=.int .i64 k:=by rw[OF z 5];rfl
    clear Z z;refine yO ?_;go_simp;exact V _ _ rfl (GS _ _ _ Y) (λj u _ _ _ h=>h)
   |5,_=>
    obtain rfl:=yP D;have d3:=Bd Z 3
    change a.tmps[27]?.getD Θ=.slice (some ⟨b,a7,none⟩) K.length cv at d3
    have d4:=Bd Z 4
    change a.tmps[28]?.getD Θ=.int .i64 k at d4
    clear Z z;refine yO ?_;go_simp;exact V _ _ rfl (GS _ _ _ Y) (λj u _ _ _ h=>h)
   |6,_=>
    obtain rfl:=yP D;have d5:=Bd Z 5
    change a.tmps[29]?.getD Θ=.pointer (some ⟨b,a7+k,none⟩) at d5
    clear Z z;refine yO ?_;have cu:w3.cell? (b,a7+k)=some u:=(World.cell?_of_block (iM w3 Y.1 b iK)).trans ho;go_simp;exact V _ _ rfl (GS _ _ _ Y) (λj u _ _ _ h=>h)
   |7,_=>
    obtain rfl:=yP D;have d2:=Bd Z 2
    change ∃g2,a.tmps[26]?.getD Θ=.slice (some ⟨g2,0,none⟩) 0 0/\_<=g2/\_ at d2
    have d6:=Bd Z 6
    change a.tmps[30]?.getD Θ=u at d6
    clear Z z;refine yO ?_;obtain⟨g2,d2,mP,mO⟩:=d2;obtain⟨v7,w4,fg,r1,r2,r3⟩:=ED (lo:=w2.heap.size) (w:=w3) (t:=79) (ty:=79) 9 _ 1 16 underlying79 Tryz.zi rfl ψ mO mP (BN.keep Ru (λk L=>(iM w3 Y.1 k L).trans (bl.block k L))) cL ω;refine Bv rfl (Bs d2) (Bs d6) fg ?_;exact V _ _ r1 (GB _ _ _ _ Y r2) (λj u _ _ _ h=>Mo h (AX r2 none) (λk L=>by cases L) (.inr rfl))
   |8,_=>
    obtain rfl:=yP D;have d7:=Bd Z 7
    change AP _ _ _ _ _ (a.tmps[31]?.getD Θ) _ at d7
    clear Z z;refine yO ?_;generalize e31:a.tmps[31]?.getD Θ=r at d7;have W:=AA (show dj W0 w2.heap.size g (.slice (some ⟨b,a7,none⟩) K.length cv) u ev b (a7+k) k ts ps (JM (List.take k ec)) 8 (.agg #[r,.int .i64 (-1)]) w3 from⟨r,rfl,d7⟩);obtain⟨_,_,rfl,_,_⟩:=d7.rd.shape;clear d7;go_simp;exact V _ _ W (GS _ _ _ Y) (λj u _ _ _ h=>h)
   |9,_=>
    obtain rfl:=yP D;have d8:=Bd Z 8
    change ∃r,a.tmps[32]?.getD Θ=.agg #[r,.int .i64 (-1)]/\_ at d8
    clear Z z;refine yO ?_;obtain⟨r,d8,mN⟩:=d8;go_simp;exact V _ _ ⟨r,_,rfl,Y.1.size,yy _ _,AP.below mN (AG _ _)⟩ (GB _ _ _ _ Y (AG _ _)) (λj u _ _ _ h=>Mo h (AX (AG _ _) none) (λk L=>by cases L) (.inr rfl))
   |10,_=>
    obtain rfl:=yP D;have d1:=Bd Z 1
    change a.tmps[25]?.getD Θ=ev at d1
    have d9:=Bd Z 9
    change ∃r g9,a.tmps[33]?.getD Θ=.slice (some ⟨g9,0,none⟩) 1 1/\_<=g9/\_/\_ at d9
    clear Z z;refine yO ?_;obtain⟨r,g9,d9,n9,lS,lR⟩:=d9;have gL:=Y.2 HL.1;have md:=gl;have gl:=gl.below gL;obtain⟨i0,jv,jj,ji,jh⟩:=info_parts Tryz.zd;have fp:ps.length<=3:=by rw[gl.2.1.1];simp[JM];omega
    obtain⟨nE,w4,fg,r1,r2,_,r4⟩:=run_append_own_at (P:=prog) w3 W0.heap.size 25 25 81 i0 _ 2 32 underlying25 jv jj ji jh rfl ψ ev ps.length (Cb FR ps) gl.1 ⟨g9,0,none⟩ 1 1 [r,.int .i64 (-1)] rfl (by
     intro j x hx
     match j,hx with
     |0,hx=>simp at hx;subst hx;exact yx w3 g9 0 _ _ _ lS
     |1,hx=>simp at hx;subst hx;exact yx w3 g9 1 _ _ _ lS) (by
     obtain⟨_,_,rfl,_,_⟩:=lR.rd.shape;simp[xR]) (by simp only[maxLen];omega) ω (yM ad.size gL.size)
    clear jv jj ji jh;refine Bv rfl (Bs d1) (Bs d9) fg ?_;exact V _ _ ⟨r,md.push gL ad.size (yF _) lR r1 r2⟩ ⟨AO Y.1 r2,λh=>by simp[Hh] at h⟩ (λj x hj _ _ h=>Mo h r2 ip (.inl hj))
   |11,_=>
    obtain rfl:=yP D;have e4:a.tmps[4]?.getD Θ=.pointer g:=by rw[OF z 4];rfl
    clear Z z;refine yO ?_;go_simp;exact V _ _ rfl (GS _ _ _ Y) (λj u _ _ _ h=>h)
  intro xs w3 hR hk hL Y
  obtain⟨r,o5⟩:=Be hR 10;have kV:xs 11=.pointer (some ⟨g,2,none⟩):=Be hR 11;have Y:=Y.1;clear hR hL;simp only[Aj,Ae,yL,yI,yJ,yH,kV];simp;generalize xs 0=z0;generalize xs 1=z1;generalize xs 2=z2;generalize xs 3=z3;generalize xs 4=z4;generalize xs 5=z5;generalize xs 6=z6;generalize xs 7=z7;generalize xs 8=z8;generalize xs 9=z9;generalize xs 10=ev' at o5;clear kV;have gL:=iP w3 Y;have b8:=At w3 g 2 ev';have St:aj W0 W0 g (JM (ec.take (k+1))) (w3.setCell (g,2) ev'):=by
   have e1:JM (ec.take (k+1))=JM (ec.take k)++[⟨ts,-1⟩]:=by rw[DQ lX.u];simp[JM]
   rw[e1];refine⟨m,iv,ev',c,rs,_,?_,N,?_,?_,o5.yV b8 gL,?_,?_⟩
   .have:=yA w3 g 2 _ 28 ev' gL
    simpa using this
   .exact Ay.yV (o1.kept Y gl.1 ψ ψ) b8 gL
   .exact AP.yV (Av o2 Y (BK o2 gl.1 ψ).ne) b8 gL
   .exact AP.yV (Av o4 Y (BK o4 gl.1 ψ).ne) b8 gL
   exact(ad.grown Y ad.size (λk L=>gY k L)).setCell N _
  obtain⟨_,_,rfl,_,_⟩:=o5.1.rd.shape;obtain⟨_,_,rfl,_,_⟩:=gl.1.rd.shape;obtain⟨c0,c1,c2,c3⟩:=AH gL;have bY:=AK gL;simp only[yz,vV,xi,wK] at St;clear gL b8 o5 o1 o2 gl o4 iP iM GS GB jz ip gY;go_wp2;go_roundw;exact⟨k+1,ω,ξ,St⟩;simp[intOf];omega
 obtain rfl:k=3:=ω;have e3:ec.take 3=ec:=xz (by rw[H3.u];omega);rw[e3] at o3;have ik:¬(3:Int)<K.length:=ω;have lz:((K.length:Int) !=3)=false:=η;have dr:g≠w.heap.size:=ω;have fo:wr.heap[w.heap.size]?=some (.cells #[ι,ι,ι,ι] 28 (0,0)):=(ad.block _ ω).trans ir;have S:=AA (show ∀O,wr.grownBy O (some w.heap.size)->fU w true (Oh ec) (.returned (.tuple #[.agg #[m,iv,ev,c],τ])) O from λO gX=>⟨m,iv,ev,c,rfl,⟨⟨rs,(o1.yV gX fo).lower bp.size⟩,(o2.yV gX fo).lower bp.size,⟨ps,(o3.yV gX fo).lower bp.size⟩,(o4.yV gX fo).lower bp.size⟩,(bp.trans (ad.mono bp.size)).grown gX (bp.trans (ad.mono bp.size)).size (λk L=>by cases L;exact yF _)⟩)
 have b8:wr.grownBy ((((wr.setCell w m).setCell (w,1) iv).setCell (w,2) ev).setCell (w,3) c) (some w.heap.size):=Ar (Ar (Ar (At wr w.heap.size 0 m) 1 iv) 2 ev) 3 c;obtain⟨E0,E1,E2,E3⟩:=AH (DP (m':=m) (i':=iv) (e':=ev) (c':=c) fo);have HE:=AA (yj E0 (yj E1 (yj E2 E3)));clear E0 E1 E2 E3;obtain⟨_,_,rfl,_,_⟩:=o1.1.rd.shape;obtain⟨_,_,rfl,_,_⟩:=o2.rd.shape;obtain⟨_,_,rfl,_,_⟩:=o3.1.rd.shape;obtain⟨_,_,rfl,_,_⟩:=o4.rd.shape;obtain⟨c0,c1,c2,c3⟩:=AH hB;obtain⟨d0,d1,d2,d3⟩:=AH fo;have bY:=AK fo;clear hB fo o1 o2 o3 o4;simp only[uy,xi] at HE S b8 ⊢;go_wp2_with fail;exact yB (v:=.tuple #[.agg #[_,_,_,_],τ]) (by simp[results,Tryz.results71,go_sem,HE.u]) rfl (S _ b8)
theorem Mw{α:Type}(cs:α->List Φ)(lo e sz:Nat)(w:Ω):AP lo e sz cs w (.slice none 0 0) []:=xo _ _ _ _
theorem DH{e:Nat}{xs:List Φ}{c8:Array Φ}(h:w.ownsRow lo e sz v n xs)(hB:w.heap[g]?=some (.cells c8 T (0,0)))(dr:e≠T):v.ownBlock≠some g:=λhe=>by obtain⟨c,hc⟩:=BB h g he;rw[hB] at hc;simp at hc;exact dr hc.2.symm
def Iv(lo:Nat)(w:Ω)(g:Nat)(m i e c:Φ)(k:AQ):Prop:=w.heap[g]?=some (.cells #[m,i,e,c] 28 (0,0))/\lo<=g/\Dy lo w m i e c k
theorem Iv.below{m:Φ}{k:AQ}(h:Iv lo w g m i e c k)(J:Γ w w O):Iv lo O g m i e c k:=⟨AB h.1 J,h.2.1,h.2.2.below J⟩
theorem Iv.cells{m:Φ}{k:AQ}(h:Iv lo w g m i e c k):w.cell? g=some m/\w.cell? (g,1)=some i/\w.cell? (g,2)=some e/\w.cell? (g,3)=some c:=AH h.1
section
variable {lo g:Nat} {w w1:Ω} {m i e c:Φ} {k:AQ}
theorem LX{T:Nat}{c8:Array Φ}(hB:w.heap[g]?=some (.cells #[m,i,e,c] 28 (0,0)))(N:w.grownBy w1 (some b))(J:w.heap[b]?=some (.cells c8 T (0,0)))(hT:28≠T):w1.heap[g]?=some (.cells #[m,i,e,c] 28 (0,0)):=by
 refine(N.block g (AY hB) λhe=>?_).trans hB;cases he;rw[hB] at J;simp at J;exact hT J.2
theorem Iv.ZJ(h:Iv lo w g m i e c k)(bs:lo<=w.heap.size)(J:Γ w w w1){i':Φ}{xs:List AW}(A:AP w.heap.size 115 3 Au w1 i' xs):Iv lo (w1.setCell (g,1) i') g m i' e c {k with ZJ:=xs}:=by obtain⟨hB,N,⟨K,o1⟩,o2,⟨ps,o3⟩,o4⟩:=h.below J;have b8:=At w1 g 1 i';refine⟨?_,N,⟨K,o1.yV b8 hB⟩,(A.lower bs).yV b8 hB,⟨ps,o3.yV b8 hB⟩,o4.yV b8 hB⟩;have:=yA w1 g 1 _ 28 i' hB;simpa using this
theorem Iv.XU(h:Iv lo w g m i e c k)(bs:lo<=w.heap.size)(J:Γ w w w1){c':Φ}{xs:List Ag}(A:AP w.heap.size 125 4 AZ w1 c' xs):Iv lo (w1.setCell (g,3) c') g m i e c' {k with XU:=xs}:=by obtain⟨hB,N,⟨K,o1⟩,o2,⟨ps,o3⟩,o4⟩:=h.below J;have b8:=At w1 g 3 c';refine⟨?_,N,⟨K,o1.yV b8 hB⟩,o2.yV b8 hB,⟨ps,o3.yV b8 hB⟩,(A.lower bs).yV b8 hB⟩;have:=yA w1 g 3 _ 28 c' hB;simpa using this
theorem Iv.info{a6:Nat}(h:Iv lo w g m (.slice gi n a6) e c k)(hn:n=k.ZJ.length){f j:Nat}{x y:AW}{u:Φ}(L:k.ZJ[f]?=some x)(hj:j<3)(hy:Au y=(Au x).set j u):
 Iv lo (w.setCell (gi,f*3+j) u) g m (.slice gi n a6) e c {k with ZJ:=k.ZJ.set f y}/\w.grownBy (w.setCell (gi,f*3+j) u) (some gi)/\lo<=gi:=by
 obtain⟨hB,N,⟨K,o1⟩,o2,⟨ps,o3⟩,o4⟩:=h;subst hn;have S:=AP.zH Az o2 L hj hy;obtain⟨c8,hc⟩:=BB o2 gi rfl;exact⟨⟨LX hB S.2 hc ψ,N,⟨K,o1.yV S.2 hc⟩,S.1,⟨ps,o3.yV S.2 hc⟩,o4.yV S.2 hc⟩,S.2,(yE o2 gi rfl).1⟩
end
theorem Ay.turn (h:Ay lo w v K m)(hf:f<m.length)(hu:K[f]?=some u)(hr:AE lo O u r)(N:w.grownBy O u.ownBlock):Ay lo O v K (m.set f r):=by
 obtain⟨a1,a2,a3⟩:=h;have hx:=a2.2 f u _ hu (yG hf);refine⟨Av a1 N (BK a1 hx Me).ne,⟨by rw[yi];exact a2.1,λj y ys hy gy=>?_⟩,a3⟩
 by_cases e:f=j
 .subst e
  rw[hu] at hy;cases hy;rw[xF hf] at gy;cases gy;exact hr
 rw[wD e] at gy
 exact Av (a2.2 j y ys hy gy) N (a3 j f y u (λh=>e h.symm) hy hu).ne
theorem Ay.row (h:Ay lo w v K m){f:Nat}(hf:f<m.length)(h0:0<(AJ m f).length):
 ∃gw a6,K[f]?=some (.slice (some ⟨gw,0,none⟩) (AJ m f).length a6)/\AE lo w (.slice (some ⟨gw,0,none⟩) (AJ m f).length a6) (AJ m f)/\lo<=gw/\gw<w.heap.size:=by
 obtain⟨a1,a2,a3⟩:=h;obtain⟨u,hu⟩:∃u,K[f]?=some u:=⟨_,yG (by rw[a2.1];exact hf)⟩
 have hx:=a2.2 f u (AJ m f) hu (by unfold AJ;exact A9 hf);obtain⟨gw,a6,rfl,H,A⟩:=JG hx h0;exact⟨gw,a6,hu,hx,H,A⟩
section
variable {lo g:Nat} {w w1:Ω} {m i e c:Φ} {k:AQ}
theorem Iv.row(h:Iv lo w g m i e c k){K:List Φ}(hv:Ay lo w m K k.mem){f gw n a6:Nat}{r:List Int}(hf:f<k.mem.length)(hu:K[f]?=some (.slice gw n a6))(hr:AE lo w1 (.slice gw n a6) r)(N:w.grownBy w1 (some gw)):
 Iv lo w1 g m i e c {k with mem:=k.mem.set f r}:=by
 obtain⟨hB,io,_,o2,⟨ps,o3⟩,o4⟩:=h;have hx:=hv.2.1.2 f _ _ hu (yG hf);obtain⟨c8,hc⟩:=BB hx gw rfl;exact⟨LX hB N hc ψ,io,⟨K,hv.turn hf hu hr N⟩,o2.yV N hc,⟨ps,o3.yV N hc⟩,o4.yV N hc⟩
theorem Iv.root{a6:Nat}(h:Iv lo w g m i (.slice ge n a6) c k)(hn:n=k.XX.length){j:Nat}(hj:j<k.XX.length)(r:Int):
 Iv lo (w.setCell (ge,j*2+1) (.int .i64 r)) g m i (.slice ge n a6) c {k with XX:=An k.XX j (ET r)}/\w.grownBy (w.setCell (ge,j*2+1) (.int .i64 r)) (some ge)/\lo<=ge:=by
 obtain⟨hB,N,⟨K,o1⟩,o2,⟨ps,a1,a2,a3⟩,o4⟩:=h;have fp:ps.length=k.XX.length:=a2.1;rw[<-fp] at hn;subst hn;have hC:j<ps.length:=ω;have S:=AP.zH GU a1 (k:=j) (x:=ps[j]) (yG hC) (j:=1) ψ (y:=(ps[j].1,r)) (u:=.int .i64 r) rfl;obtain⟨c8,hc⟩:=BB a1 ge rfl;refine⟨⟨LX hB S.2 hc ψ,N,⟨K,o1.yV S.2 hc⟩,o2.yV S.2 hc,⟨ps.set j (ps[j].1,r),?_,⟨?_,?_⟩,?_⟩,o4.yV S.2 hc⟩,S.2,(yE a1 ge rfl).1⟩
 .exact S.1
 .rw[yi,DU];exact fp
 .intro q p ev hp gq
  rw[J8 (d:=⟨[],0⟩)] at gq
  by_cases e:j=q
  .subst e
   rw[xF hC] at hp;rw[xF hj] at gq;cases hp;cases gq;have hx:=a2.2 j ps[j] (k.XX.getD j ⟨[],0⟩) (yG hC) (A9 hj);exact⟨hx.1.yV S.2 hc,rfl⟩
  rw[wD e] at hp gq
  have hx:=a2.2 q p ev hp gq;exact⟨hx.1.yV S.2 hc,hx.2⟩
 rw[uT,(χ:ps[j].1=(ps.map (·.1))[j]'(by simpa using hC)),List.set_getElem_self]
 exact a3
theorem Iv.PQ{a6:Nat}(h:Iv lo w g m i (.slice ge n a6) c k)(hn:n=k.XX.length)(bs:lo<=w.heap.size)(J:Γ w w w1){j:Nat}(hj:j<k.XX.length){u:Φ}{ss:List ByteArray}(hu:AP w.heap.size 9 1 A0 w1 u ss):
 Iv lo (w1.setCell (ge,j*2) u) g m i (.slice ge n a6) c {k with XX:=An k.XX j (BV ss)}/\w1.grownBy (w1.setCell (ge,j*2) u) (some ge)/\lo<=ge:=by
 have h':=h.below J;obtain⟨ir,io,_,_,⟨ig,b1,b2,b3⟩,_⟩:=h;obtain⟨hB,N,⟨K,o1⟩,o2,_,o4⟩:=h';have a1:=AP.below b1 J;have fp:ig.length=k.XX.length:=b2.1;rw[<-fp] at hn;subst hn;have hC:j<ig.length:=ω;have S:=AP.zH GU a1 (k:=j) (x:=ig[j]) (yG hC) (j:=0) ψ (y:=(u,ig[j].2)) (u:=u) rfl;rw[xT] at S;obtain⟨c8,hc⟩:=BB a1 ge rfl;have dr:9≠81:=ψ;refine⟨⟨LX hB S.2 hc ψ,N,⟨K,o1.yV S.2 hc⟩,o2.yV S.2 hc,⟨ig.set j (u,ig[j].2),?_,⟨?_,?_⟩,?_⟩,o4.yV S.2 hc⟩,S.2,(yE a1 ge rfl).1⟩
 .exact S.1
 .rw[yi,DU];exact fp
 .intro q p ev hp gq
  rw[J8 (d:=⟨[],0⟩)] at gq
  by_cases e:j=q
  .subst e
   rw[xF hC] at hp;rw[xF hj] at gq;cases hp;cases gq;have hx:=b2.2 j ig[j] (k.XX.getD j ⟨[],0⟩) (yG hC) (A9 hj);exact⟨(hu.lower bs).yV S.2 hc dr,hx.2⟩
  rw[wD e] at hp gq
  have hx:=b2.2 q p ev hp gq;exact⟨(hx.1.below J).yV S.2 hc dr,hx.2⟩
 rw[uT]
 intro x y a b ln ha gg;have yV:∀(q:Nat)(p:Φ×Int),ig[q]?=some p->GH p.1 u:=λq p hq=>by
  obtain⟨ev,gq⟩:∃ev,k.XX[q]?=some ev:=⟨_,yG (by rw[<-fp];exact(yD.1 hq).1)⟩
  exact LC (B:=0) (b2.2 q p ev hq gq).1 (λk L=>(hu.lt k L).1)
 by_cases e1:j=x
 .subst e1
  rw[xF (by simpa using hC)] at ha;cases ha;rw[wD ln] at gg;rw[xq] at gg;obtain⟨p,hp,rfl⟩:=Option.map_eq_some_iff.1 gg;exact(yV y p hp).symm
 rw[wD e1] at ha
 by_cases e2:j=y
 .subst e2
  rw[xF (by simpa using hC)] at gg;cases gg;rw[xq] at ha;obtain⟨p,hp,rfl⟩:=Option.map_eq_some_iff.1 ha;exact yV x p hp
 rw[wD e2] at gg
 exact b3 x y a b ln ha gg
end
def Uv(w:Ω)(a:Option Addr)(es:List FF):Prop:=∀j,j<es.length->∃b a7 ua uc,a=some ⟨b,a7,none⟩/\b<w.heap.size/\w.cell? ⟨b,a7+j*2,none⟩=some (.slice ua (AI es j).PQ.length uc)/\w.cell? ⟨b,a7+j*2+1,none⟩=some (.int .i64 (AI es j).root)/\BZ w (.slice ua (AI es j).PQ.length uc) (AI es j).PQ
theorem Gf.open (h:Gf w v es):∃a a6,v=.slice a es.length a6/\es.length<=a6/\a6<=maxLen/\Uv w a es:=by
 obtain⟨ps,H,A⟩:=h;obtain⟨a,a6,rfl,hc,bw,h1⟩:=BN.open GU ψ H;refine⟨a,a6,by rw[A.1],by rw[<-A.1];exact hc,bw,λj hj=>?_⟩;have hp:j<ps.length:=by rw[A.1];exact hj
 obtain⟨b,a7,rfl,ar,b5⟩:=h1 j _ (yG hp);have hr:=A.2 j _ (AI es j) (yG hp) (by unfold AI;exact A9 hj);obtain⟨ua,uc,e,_,_⟩:=hr.1.shape;refine⟨b,a7,ua,uc,rfl,ar,?_,?_,?_⟩
 .have:=b5 0 _ rfl
  rw[e] at this;exact this
 .have:=b5 1 _ rfl
  rw[hr.2] at this;exact this
 rw[<-e];exact hr.1
theorem Uv.below{a:Option Addr}(h:Uv w a es)(J:Γ w w O):Uv O a es:=by intro j hj;obtain⟨b,a7,ua,uc,rfl,ar,h0,H,A⟩:=h j hj;exact⟨b,a7,ua,uc,rfl,yt ar J.size,(J.cell (p:=⟨b,a7+j*2,none⟩) ar).trans h0,(J.cell (p:=⟨b,a7+j*2+1,none⟩) ar).trans H,BN.below A J⟩
theorem Fo{ZJ:List AW}{b:List Nat}(h:∀g,g∈a↔g∈b):BO ZJ a ss=BO ZJ b ss:=by
 unfold BO;rw[wL];simp only[ym];exact⟨λh1 g N=>h1 g ((h g).2 N),λh1 g N=>h1 g ((h g).1 N)⟩
section
variable {k:AQ}
theorem cB(h:CJ k.mem=false):DG k=false:=by simp[DG,h]
theorem X2(h:BJ k.ZJ=false):DG k=false:=by simp[DG,h]
theorem X1(h:Bl k.XU=false):DG k=false:=by simp[DG,h]
theorem Zl(h:k.XX.length≠3):DG k=false:=by simp[DG,Jm,h]
theorem OY{j:Nat}(hj:j<k.XX.length)(h:Ea k (AI k.XX j)=false):DG k=false:=by have:k.XX.all (Ea k)=false:=wZ.2 ⟨AI k.XX j,by unfold AI;exact yw (A9 hj),by simp[h]⟩;simp[DG,Jm,this]
theorem cD(hf:f<12)(h:EH k f=false):DG k=false:=by have:(yL 12).all (EH k)=false:=wZ.2 ⟨f,yh.2 hf,by simp[h]⟩;simp[DG,this]
theorem Wd(hf:f<12)(h:IY k f=false):DG k=false:=by have:(yL 12).all (IY k)=false:=wZ.2 ⟨f,yh.2 hf,by simp[h]⟩;simp[DG,this]
theorem X3{j:Nat}(hj:j<k.XU.length)(h:DJ k (AU k.XU j)=false):DG k=false:=by have:k.XU.all (DJ k)=false:=wZ.2 ⟨AU k.XU j,by unfold AU;exact yw (A9 hj),by simp[h]⟩;simp[DG,this]
theorem cE(H:CJ k.mem=true)(A:BJ k.ZJ=true)(h3:Bl k.XU=true)(h4:k.XX.length=3)(h5:∀j,j<3->Ea k (AI k.XX j)=true)
 (h6:∀f,f<12->EH k f=true/\IY k f=true)(h7:∀j,j<k.XU.length->DJ k (AU k.XU j)=true):DG k=true:=by
 have a1:k.XX.all (Ea k)=true:=ym.2 λx hx=>by
  obtain⟨j,hj,rfl⟩:=xl hx;have:=h5 j ω;unfold AI at this
  rwa [yd,yG hj] at this
 have a2:(yL 12).all (EH k)=true:=ym.2 λf hf=>(h6 f (yh.1 hf)).1
 have a3:(yL 12).all (IY k)=true:=ym.2 λf hf=>(h6 f (yh.1 hf)).2
 have a4:k.XU.all (DJ k)=true:=ym.2 λx hx=>by
  obtain⟨j,hj,rfl⟩:=xl hx;have:=h7 j hj;unfold AU at this
  rwa [yd,yG hj] at this
 simp[DG,Jm,H,A,h3,h4,a1,a2,a3,a4]
def FU(k:AQ)(j:Nat):List Int:=(yL 12).map λg=>(countP k.mem k.ZJ g:Int)+(Ex (k.XX.take j) g:Int)
theorem EZ{j:Nat}:(FU k j).length=12:=by simp[FU]
theorem MW{j g:Nat}(h:g<12):nth (FU k j) g=(countP k.mem k.ZJ g:Int)+(Ex (k.XX.take j) g:Int):=by unfold FU nth;rw[yd,xq,ur h];rfl
theorem Ui:FU k 0=(yL 12).map λg=>(countP k.mem k.ZJ g:Int):=by unfold FU;rw[List.take_zero];simp[Ex]
theorem Sx{j g:Nat}(hj:j<k.XX.length):Ex (k.XX.take (j+1)) g=Ex (k.XX.take j) g+(if(AI k.XX j).root=(g:Int) then 1 else 0):=by
 have h:k.XX[j]?=some (AI k.XX j):=by unfold AI;exact A9 hj
 rw[DQ h];unfold Ex;rw[List.countP_append,List.countP_singleton];simp
theorem Y7{j:Nat}(hj:j<k.XX.length)(h:(AI k.XX j).root<0):FU k (j+1)=FU k j:=by
 unfold FU;refine List.map_congr_left λg _=>?_
 rw[Sx hj,if_neg ω,xT]
theorem XB{j r:Nat}(hj:j<k.XX.length)(h:(AI k.XX j).root=(r:Int))(hr:r<12):FU k (j+1)=(FU k j).set r (nth (FU k j) r+1):=by
 refine Mp (by simp[FU]) λg N=>?_
 rw[EZ] at N;rw[VY (by rw[EZ];exact hr),MW N,MW hr,Sx hj,h]
 by_cases e:g=r
 .subst e;simp;omega
 rw[if_neg e,MW N,if_neg (by intro h;apply e;omega)];simp
theorem Ss(hm:CJ k.mem=true){j g:Nat}(he:k.XX.length=3)(N:g<12):0<=nth (FU k j) g/\nth (FU k j) g<=103:=by
 rw[MW N];have H:countP k.mem k.ZJ g<=100:=by have:=Ri (ZJ:=k.ZJ) (g:=g) hm (yF 12) (yu 4);unfold JV at this;unfold countP;omega
 have A:Ex (k.XX.take j) g<=3:=by
  have:=List.countP_le_length (p:=λe:FF=>decide (e.root=(g:Int))) (l:=k.XX.take j);rw[yr] at this;unfold Ex;omega
 omega
theorem Sr(he:k.XX.length=3){f:Nat}(hf:f<12):IY k f=decide ((JK k.ZJ f).r=nth (FU k 3) f):=by rw[MW hf,xz ω];rfl
end
def FW(lo:Nat)(m:List (List Int))(root:Int)(w:Ω)(v:Φ):Prop:=∃ts,AE lo w v (A8 ts)/\∀g,g∈ts↔g∈Bi m root
theorem FW.below{root:Int}(h:FW lo m root w v)(J:Γ w w O):FW lo m root O v:=by obtain⟨ts,H,A⟩:=h;exact⟨ts,AE.below H J,A⟩
theorem zG{root:Int}(hr:root<12):∀g∈Bi m root,g<12:=by
 intro g N;obtain⟨h0,h⟩:=EC.1 N;have hn:∀t:Nat,∀x∈named (AJ m t),x<12:=λt x hx=>by unfold named at hx;obtain⟨y,hy,rfl⟩:=wj.1 hx;exact Eh (List.mem_filter.1 hy).2
 rcases h with rfl|h|⟨t,_,h⟩
 .omega
 .exact hn _ _ h
 exact hn _ _ h
def AV.onCells(g:Nat)(c:AV):Array Φ:= #[.pointer g,.int .i64 c.k,.int .i64 c.e,.int .i64 c.a,.int .i64 c.b,.int .i64 c.c,.string c.nm]
def AV.on(g:Nat)(c:AV):Φ:=.agg (c.onCells g)
theorem Et{c:AV}(h:w.heap[b]?=some (.cells (c.onCells g) T (0,0))):w.cell? b=some (.pointer g)/\w.cell? (b,1)=some (.int .i64 c.k)/\w.cell? (b,2)=some (.int .i64 c.e)/\w.cell? (b,3)=some (.int .i64 c.a)/\w.cell? (b,4)=some (.int .i64 c.b)/\w.cell? (b,5)=some (.int .i64 c.c)/\w.cell? (b,6)=some (.string c.nm):=
 ⟨yx _ _ 0 _ _ _ h,yx _ _ 1 _ _ _ h,yx _ _ 2 _ _ _ h,yx _ _ 3 _ _ _ h,yx _ _ 4 _ _ _ h,yx _ _ 5 _ _ _ h,yx _ _ 6 _ _ _ h⟩
theorem Iv.env{m:Φ}{k:AQ}(h:Iv lo w g m i e c k)(hj:j<k.XX.length):
 ∃ge a6 ua uc,e=.slice (some ⟨ge,0,none⟩) k.XX.length a6/\ge<w.heap.size/\w.cell? ⟨ge,j*2,none⟩=some (.slice ua (AI k.XX j).PQ.length uc)/\w.cell? ⟨ge,j*2+1,none⟩=some (.int .i64 (AI k.XX j).root)/\BZ w (.slice ua (AI k.XX j).PQ.length uc) (AI k.XX j).PQ/\∀q,w.frozen? ⟨ge,q,none⟩=false:=by
 have hr:=h.2.2.rd.2.2.1;obtain⟨ps,o⟩:=h.2.2.2.2.1;have fp:ps.length=k.XX.length:=o.2.1.1;obtain⟨ge,a6,rfl,_,ar⟩:=JG o.1 ω;obtain⟨a,cp,hv,_,_,h1⟩:=Gf.open hr;simp only[xQ] at hv;obtain⟨rfl,_,rfl⟩:=hv;obtain⟨b,a7,ua,uc,mG,_,h0,H,A⟩:=h1 j hj;cases mG;rw[wK] at h0 H;exact⟨ge,a6,ua,uc,by rw[fp],ar,h0,H,A,λq=>xV o.1 q⟩
theorem Yu (g ge n a6 en:Nat)(c:AV)(w:Ω)(A:w.cell? (g,2)=some (.slice ge n a6))(he:c.e=(en:Int))(hn:en<n):
 Ξ prog 177 #[c.on g] w λe O=>e=.returned (.pointer (some ⟨ge,en*2,none⟩))/\Γ w w O:=by
 obtain⟨k,e,a,b,cc,nm⟩:=c;simp only at he;subst he;simp only[AV.on,AV.onCells];obtain⟨hg,J⟩:=Ec w (.cells #[.pointer g,k,en,a,b,cc,nm] 97);have x2:=(J.cell (p:=⟨g,2,none⟩) (yK w _ A)).trans A;have nL:(en:Int)<n:=ω;go_in;go_wp2_with fail;generalize w.alloc _=W0 at*;have y0:=yv (yx _ _ 0 _ _ _ hg);have y2:=yv (yx _ _ 2 _ _ _ hg);have k2:=yv x2;clear hg x2 A;refine Bb ?_
 repeat(go_big_quiet_step (fail))
 refine Ba λwq bq=>?_
 go_wp2;go_ret;exact⟨rfl,J.trans (bq.mono J.size)⟩
theorem Wq{m:Φ}{k:AQ}(h:Iv lo w g m i e c k)(call:AV)(nm:ByteArray)(he:0<=call.e)(hn:call.e<k.XX.length):
 Ξ prog 127 #[call.on g,.string nm] w λr O=>r=.returned (.bool (Fg k call.e nm))/\Γ w w O:=by
 obtain⟨en,i4⟩:∃n:Nat,call.e=(n:Int):=⟨call.e.toNat,ω⟩
 obtain⟨ge,a6,ua,uc,rfl,eL,D0,_,hO,_⟩:=h.env (j:=en) ω;obtain⟨hg,J⟩:=Ec w (.cells (call.onCells g) 97);have CE:=AA (λW (E:Γ w w W)=>Yu g ge k.XX.length a6 en call W ((E.cell (p:=⟨g,2,none⟩) (AY h.1)).trans h.cells.2.2.1) i4 ω);have CM:=AA (λW (E:Γ w w W)=>Qp _ (AI k.XX en).PQ nm W (BN.below hO E));have S:=AA (show Ci (AI k.XX en).PQ nm=Fg k call.e nm by unfold Fg;rw[i4];rfl);have HD:=AA D0;clear h hO D0 i4 he hn;obtain⟨k1,e1,a1,b1,c1,me⟩:=call;simp only[AV.on,AV.onCells] at hg J CE ⊢;obtain⟨y0,y1,y2,y3,y4,y5,y6⟩:=Et (c:=⟨k1,e1,a1,b1,c1,me⟩) hg;go_in;go_wp2_with fail;refine(CE _ J).mono ?_;rintro e w2 ⟨rfl,al⟩;replace al:=J.trans (al.mono J.size);have ho:=(al.cell (p:=⟨ge,en*2,none⟩) eL).trans HD.u;clear y0 y1 y2 y3 y4 y5 y6 hg J;go_wp2_with (refine(CM _ al).mono ?_;rintro e w3 ⟨rfl,cd⟩);go_ret;exact⟨AF S.u,al.trans (cd.mono al.size)⟩
def KI(xs:List AW)(b:Int):Prop:=∀f,f<xs.length-> -b<=(JK xs f).r/\(JK xs f).r<=b
theorem Iv.JK'{m:Φ}{k:AQ}(h:Iv lo w g m i e c k){f:Nat}(hf:f<k.ZJ.length):
 ∃gi a6,i=.slice (some ⟨gi,0,none⟩) k.ZJ.length a6/\gi<w.heap.size/\lo<=gi/\w.cell? ⟨gi,f*3,none⟩=some (.int .i64 (JK k.ZJ f).k)/\w.cell? ⟨gi,f*3+1,none⟩=some (.string (JK k.ZJ f).g)/\w.cell? ⟨gi,f*3+2,none⟩=some (.int .i64 (JK k.ZJ f).r)/\∀q,w.frozen? ⟨gi,q,none⟩=false:=by
 have o:=h.2.2.2.1;obtain⟨gi,a6,rfl,_,_,bs,ar,bY⟩:=o.zW ω;obtain⟨d0,d1,d2⟩:=AP.zZ o hf;exact⟨gi,a6,rfl,ar,bs,d0,d1,d2,bY⟩
theorem Td (v:Φ)(xs:List AW)(f:Nat)(w:Ω)(h:Bh w v xs)(aq:BJ xs=true)(hf:f<12)(L:(JK xs f).k=1)(hr:(JK xs f).r=0):
 Ξ prog 178 #[v,.int .i64 f] w λe O=>∃v',e=.returned (.tuple #[v',τ])/\AP w.heap.size 115 3 Au O v' (xs.set f AW.zero)/\Γ w w O:=by
 have hl:=(A4.1 aq).1;have C1:=AA (λW (E:Γ w w W)=>by have:=Dp v xs W (BN.below h E) (Cg aq);rw[aq] at this;exact this);have C2:=AA (λW (_:Γ w w W)=>A7 (by have:=EA (f:Int) W;rw[show Bo (f:Int) 0 11=true from Aa.2 ω] at this;exact this));have C3:=AA (λW (E:Γ w w W)=>Ge v xs W (BN.below h E) ω);obtain⟨ai,ci,rfl,iG,ga,H2⟩:=BN.open Az ψ h;obtain⟨bi,a8,rfl,bB,D0,_,D2⟩:=H2.zZ (ω:f<xs.length);have fn:(f:Int)<xs.length:=ω;have t1:((JK xs f).k !=1)=false:=by simp[L]
 have t2:((JK xs f).r !=0)=false:=by simp[hr]
 have Hl:=AA hl;have J:=yN w w;clear h aq L hr H2 hl;go_in;go_wp2_with fail;refine(C1 _ J).mono ?_;rintro e w_ ⟨rfl,bu⟩;replace J:=J.trans (bu.mono J.size);clear bu;go_wp2_with fail;refine(C2 _ J).mono ?_;rintro e w_ ⟨rfl,bu⟩;replace J:=J.trans (bu.mono J.size);clear bu;replace D0:=(J.cell (p:=⟨bi,a8+f*3,none⟩) bB).trans D0;replace D2:=(J.cell (p:=⟨bi,a8+f*3+2,none⟩) bB).trans D2;go_wp2_with fail;clear D0 D2;refine(C3 _ J).mono ?_;rintro e w4 ⟨v',rfl,R,cb⟩;obtain⟨q,a6,rfl,c1,c2,q1,q2,bY⟩:=R.zW (by have:=Hl.u;omega);unfold maxLen at c2;have hS:=AA (AP.stored Az R (show f<xs.length by have:=Hl.u;omega) AW.zero);obtain⟨d0,d1,d2⟩:=AP.zZ R (show f<xs.length by have:=Hl.u;omega);have hB:=AA (AM (J.trans (cb.mono J.size)) hS.2 (yM J.size q1) (J.trans (cb.mono J.size)).size);have bs:=J.size;clear R cb J t1 t2;go_wp2;go_ret2;exact⟨_,rfl,hS.1.lower bs,hB.u⟩
theorem Uz (v:Φ)(xs:List AW)(f:Nat)(w:Ω)(h:Bh w v xs)(aq:BJ xs=true)(hf:f<12)(L:(JK xs f).k=1)(hr:(JK xs f).r≠0):
 Ξ prog 178 #[v,.int .i64 f] w λe O=>e=.returned (.tuple #[ι,υ])/\Γ w w O:=by
 have hl:=(A4.1 aq).1;have C1:=AA (λW (E:Γ w w W)=>by have:=Dp v xs W (BN.below h E) (Cg aq);rw[aq] at this;exact this);have C2:=AA (λW (_:Γ w w W)=>A7 (by have:=EA (f:Int) W;rw[show Bo (f:Int) 0 11=true from Aa.2 ω] at this;exact this));obtain⟨ai,ci,rfl,iG,ga,H2⟩:=BN.open Az ψ h;obtain⟨bi,a8,rfl,bB,D0,_,D2⟩:=H2.zZ (ω:f<xs.length);have fn:(f:Int)<xs.length:=ω;have t1:((JK xs f).k !=1)=false:=by simp[L]
 have t2:((JK xs f).r !=0)=true:=by simp[hr]
 have J:=yN w w;clear h aq L hr H2 hl;go_in;go_wp2_with fail;refine(C1 _ J).mono ?_;rintro e w_ ⟨rfl,bu⟩;replace J:=J.trans (bu.mono J.size);clear bu;go_wp2_with (refine(C2 _ J).mono ?_;rintro e w_ ⟨rfl,bu⟩;replace J:=J.trans (bu.mono J.size);clear bu;replace D0:=(J.cell (p:=⟨bi,a8+f*3,none⟩) bB).trans D0;replace D2:=(J.cell (p:=⟨bi,a8+f*3+2,none⟩) bB).trans D2);go_ret2;exact⟨rfl,J⟩
def GZ(lo g:Nat)(w:Ω)(res:Nm)(r:Ending)(O:Ω):Prop:=r=.returned (.tuple #[res.2.1,res.2.2])/\(res.2.2=0->∃m i e c,Iv lo O g m i e c res.1)/\Γ lo w O
def EL(lo g:Nat)(w:Ω)(res:Nm)(r:Ending)(O:Ω):Prop:=r=.returned (.int .i64 res.2.2)/\(res.2.2=0->∃m i e c,Iv lo O g m i e c res.1)/\Γ lo w O
variable{res:Nm}
theorem GZ.bad{k:AQ}{n:Int}(h:res=(k,0,n))(hn:n≠0)(J:Γ lo w O):GZ lo g w res (.returned (.tuple #[θ,n])) O:=by subst h;exact⟨rfl,λh=>absurd h hn,J⟩
theorem EL.bad{k:AQ}{n:Int}(h:res=(k,0,n))(hn:n≠0)(J:Γ lo w O):EL lo g w res (.returned (.int .i64 n)) O:=by subst h;exact⟨rfl,λh=>absurd h hn,J⟩
theorem Ap{k:AQ}(h:Dg k):CJ k.mem=true/\BJ k.ZJ=true/\Bl k.XU=true:=by have:=FN.2 h;unfold DG at this;simp only[yC] at this;exact⟨this.1.1.1.1.1.1,this.1.1.1.1.1.2,this.1.1.1.1.2⟩
theorem YZ (h:AE lo w (.slice g 4 a6) r)(hl:r.length=4):
 ∃O,(∀ty,(tV #[29] ty #[.slice g 4 a6]).run prog w=.ok (.tuple #[]) O)/\AE lo O (.slice g 4 a6) [0,0,0,0]/\w.grownBy O (some g):=by
 have h4:w.ownsRow lo 3 1 (.slice g 4 a6) 4 (r.map (yl .i64)):=by have:=h;unfold AE at this;rwa [hl] at this
 have ez:(xX (yl .i64 0).cells 4).toList=[.int .i64 0,.int .i64 0,.int .i64 0,.int .i64 0]:=φ;have hst:=run_storeCells_cells (P:=prog) g 0 (xX (yl .i64 0).cells 4).toList 0 w (by
  intro j hj;have nR:j<4:=by rw[ez] at hj;exact hj
  have:=xN h4 j ω;simp only[wK] at this ⊢;rw[this];simp;omega) (by intro j _;exact xV h4 _) (by
  intro u hu;rw[ez] at hu;have:u=.int .i64 0:=by simpa using hu
  subst this;rfl)
 simp only[xT] at hst;have e0:=H7 g 0 (xX (yl .i64 0).cells 4).toList 0 w;rw[xT] at e0;refine⟨w.setCells g 0 (xX (yl .i64 0).cells 4).toList,λty=>?_,?_,?_⟩
 .simp[tV,run_underlying underlying29,hst]
 .rw[e0]
  obtain⟨a1,_⟩:=Ee h4 0 0 (xX (yl .i64 0).cells 4).toList;have e:Fa (r.map (yl .i64)) 0 0 (xX (yl .i64 0).cells 4).toList=[0,0,0,0].map (yl .i64):=by
   rw[ez]
   match r,hl with
   | [a,b,c,d],_=>rfl
  rw[e] at a1;exact a1
 rw[e0]
 exact(Ee h4 0 0 (xX (yl .i64 0).cells 4).toList).2
theorem Iv.zo{m:Φ}{k:AQ}(h:Iv lo w g m i e c k)(aq:CJ k.mem=true){f:Nat}(hf:f<12):
 ∃gm ic gw cq K,m=.slice (some ⟨gm,0,none⟩) 12 ic/\gm<w.heap.size/\gm≠g/\w.cell? ⟨gm,f,none⟩=some (.slice (some ⟨gw,0,none⟩) 4 cq)/\gw<w.heap.size/\lo<=gw/\gw≠g/\gw≠gm/\Ay lo w m K k.mem/\K[f]?=some (.slice (some ⟨gw,0,none⟩) 4 cq)/\AE lo w (.slice (some ⟨gw,0,none⟩) 4 cq) (AJ k.mem f):=by
 obtain⟨K,o⟩:=h.2.2.1;obtain⟨b7,hr⟩:=Ak.1 aq;have h4:=(BG.1 (hr f hf)).1;have jn:K.length=12:=by rw[o.2.1.1,b7]
 obtain⟨gm,ic,rfl,_,_,_,iB,_⟩:=o.1.zW ω;obtain⟨gw,cq,hu,hx,bs,ar⟩:=o.row (f:=f) ω ω;rw[h4] at hu hx;have ho:=AP.zJ Ej o.1 hu 0 _ rfl;rw[wX,xT] at ho;have n1:gm≠g:=λe=>DH o.1 h.1 ψ (by rw[e];rfl)
 have n2:gw≠g:=λe=>DH hx h.1 ψ (by rw[e];rfl)
 have n3:gw≠gm:=λe=>by have:=BK hx o.1 (Ne.symm Me) gw rfl;apply this;rw[e];rfl
 rw[jn] at*;exact⟨gm,ic,gw,cq,K,rfl,iB,n1,ho,ar,bs,n2,n3,o,hu,hx⟩
theorem aQ{m:Φ}{k:AQ}(h:Iv lo w g m i e c k)(bs:lo<=w.heap.size)(hK:Dg k)(call:AV)(he:0<=call.e)(hn:call.e<3)(eD:call.nm.size<=maxLen):
 Ξ prog 126 #[call.on g] w (GZ lo g w (Ju k call)):=by
 obtain⟨hg,bp⟩:=Ec w (.cells (call.onCells g) 97);obtain⟨hm,hi,hc⟩:=Ap hK;have C1:=AA (λW (_:Γ w w W)=>Dt call.nm W eD);have C2:=AA (λW (E:Γ w w W)=>Wq (h.below E) call call.nm he (by rw[hK.zX];exact hn));have P:Ju k call=if BT call.nm=false then(k,0,3) else if Fg k call.e call.nm=false then(k,0,1) else if Ao k.ZJ<0 then(k,0,4) else({k with ZJ:=k.ZJ.set (Ao k.ZJ).toNat ⟨1,call.nm,0⟩,mem:=k.mem.set (Ao k.ZJ).toNat [0,0,0,0]},Ao k.ZJ,0):=rfl
 obtain⟨k1,e1,a1,b1,c1,nm⟩:=call;simp only[AV.on,AV.onCells] at hg bp C1 C2 P eD ⊢;obtain⟨y0,y1,y2,y3,y4,y5,y6⟩:=Et (c:=⟨k1,e1,a1,b1,c1,nm⟩) hg;have hl:=AY hg;have HN:=AA hg;have HP:=AA P;have Hm:=AA hm;have Hi:=AA hi;have V:=AA hK;have HI:=AA h;clear P hm hi hc hK h hg y0 y1 y2 y3 y4 y5;go_in;go_wp2_with fail;generalize hW0:w.alloc _=W0 at*;clear hW0;cases e5:BT nm
 .have T:=AA e5
  have hW:=AA (show Ju k ⟨k1,e1,a1,b1,c1,nm⟩=(k,0,3) by rw[HP.u,e5];rfl);clear e5 y6;refine(C1 _ bp).mono ?_;rintro r w1 ⟨rfl,bx⟩;rw[T.u];have bl:=bp.trans (bx.mono bp.size);go_wp2;go_ret2;exact GZ.bad hW ψ (bl.mono bs)
 have T:=AA e5
 have it:=AA (show Ju k ⟨k1,e1,a1,b1,c1,nm⟩=_ by rw[HP.u,e5,if_neg ψ]);clear e5 y6;refine(C1 _ bp).mono ?_;rintro r w1 ⟨rfl,b6⟩;rw[T.u];have bl:=bp.trans (b6.mono bp.size);obtain⟨y0,y1,y2,y3,y4,y5,y6⟩:=Et (c:=⟨k1,e1,a1,b1,c1,nm⟩) (AB HN b6);go_wp2_with fail;clear y0 y1 y2 y3 y4 y5 y6;cases e6:Fg k e1 nm
 .have T6:=AA e6
  have hW:=AA (show Ju k ⟨k1,e1,a1,b1,c1,nm⟩=(k,0,1) by rw[it.u,e6];rfl);clear e6;refine(C2 _ bl).mono ?_;rintro r w2 ⟨rfl,al⟩;rw[T6.u];replace bl:=bl.trans (al.mono bl.size);go_wp2;go_ret2;exact GZ.bad hW ψ (bl.mono bs)
 have T6:=AA e6
 have jc:=AA (show Ju k ⟨k1,e1,a1,b1,c1,nm⟩=_ by rw[it.u,e6,if_neg ψ]);clear e6;refine(C2 _ bl).mono ?_;rintro r W2 ⟨rfl,al⟩;rw[T6.u];replace b6:=b6.trans (al.mono b6.size);replace bl:=bl.trans (al.mono bl.size);have A:=HI.below bl;have kR:=AA A;have kn:=yM bs bl.size;obtain⟨y0,y1,y2,y3,y4,y5,y6⟩:=Et (c:=⟨k1,e1,a1,b1,c1,nm⟩) (AB HN b6);have fq:=yt hl b6.size;have iC:=AY A.1;have kx:g≠w.heap.size:=Nat.ne_of_lt (AY HI.1);obtain⟨gi,iS,rfl,_,_,_,_,_,kz⟩:=A.JK' (f:=0) (by have:=(A4.1 Hi.u).1;omega);have x1:=A.cells.2.1;have RI:Bh W2 (.slice gi k.ZJ.length iS) k.ZJ:=A.2.2.2.1.rd;clear A al y1 y2 y3 y4 y5 kz;go_wp2_with fail
 by_cases e7:Ao k.ZJ<0
 .have hW:=AA (show Ju k ⟨k1,e1,a1,b1,c1,nm⟩=(k,0,4) by rw[jc.u,if_pos e7])
  have C3:=AA (λW (E:Γ W2 W2 W)=>Q0 _ k.ZJ nm W (BN.below RI E) (Cg Hi.u) eD Hi T e7);clear e7 RI;refine Ac 15 49 [.p w.heap.size 0,.p g 0,.p g 0,.p g 1,.s gi k.ZJ.length iS,.p w.heap.size 1,.p w.heap.size 6,.t nm,.v (.tuple #[ι,θ,υ]),.v (.tuple #[ι,θ,υ]),.v (.slice none 0 0),.i 0,.b false,.v (.slice none 0 0),.i 0] (λ_ _ _=>True) ?_ ?_
  .intro i hi o D a wx z Z Y vs V
   match i,hi with
   |0,_|2,_|3,_|5,_|6,_|9,_|10,_|11,_|12,_|13,_|14,_=>exact sP D V z Z
   |1,_=>exact sL D V z Z (hl:=Of (bc Y fq y0))
   |4,_=>exact sL D V z Z (hl:=Gi (bc Y iC x1))
   |7,_=>exact sL D V z Z (hl:=Zq (bc Y fq y6))
   |8,_=>exact sD D V z Z (C3 _ Y)
   |_+15,hq=>omega
  intro K wx hR Y
  have gQ:(K 12)=.bool false:=Be hR 12;have fy:(K 13)=.slice none 0 0:=Be hR 13;have ie:(K 14)=.int .i64 0:=Be hR 14;clear hR;simp only[Aj,Ae,yL,yI,yJ,yH,gQ,fy,ie];simp;clear gQ fy ie;replace bl:=bl.trans (Y.mono bl.size);clear Y y0 y6 x1;go_wp2;go_ret2;exact GZ.bad hW ψ (bl.mono bs)
 obtain⟨f1,f2,f3⟩:=GO e7
 obtain⟨f,hf⟩:∃f:Nat,Ao k.ZJ=(f:Int):=⟨(Ao k.ZJ).toNat,ω⟩
 have hW:=AA (show Ju k ⟨k1,e1,a1,b1,c1,nm⟩=({k with ZJ:=k.ZJ.set f ⟨1,nm,0⟩,mem:=k.mem.set f [0,0,0,0]},(f:Int),0) by rw[jc.u,if_neg e7,hf];rfl);have hQ:=λW (E:Γ W2 W2 W)=>Q3 _ k.ZJ nm W (BN.below RI E) (Cg Hi.u) eD Hi T f3
 unfold TJ at hQ;rw[hf] at hQ f1;simp only[yq] at hQ f1;have C3:=AA hQ;have iF:f<12:=by have:=(A4.1 Hi.u).1;omega
 clear e7 RI hQ f2 f3 hf f1;refine BD 15 49 [.p w.heap.size 0,.p g 0,.p g 0,.p g 1,.s gi k.ZJ.length iS,.p w.heap.size 1,.p w.heap.size 6,.t nm,.z,.z,.z,.i ((f:Int)),.b true,.z,.i ((f:Int))] (λix vv ww=>match ix with
  |8|9=>∃v',vv=.tuple #[v',f,τ]/\AP W2.heap.size 115 3 Au ww v' (k.ZJ.set f ⟨1,nm,0⟩)
  |10|13=>AP W2.heap.size 115 3 Au ww vv (k.ZJ.set f ⟨1,nm,0⟩)
  |_=>True) ?_ ?_ ?_
 .intro i hi o D a wx z Z Y vs V
  match i,hi with
  |0,_|2,_|3,_|5,_|6,_|14,_=>exact sP D V z Z
  |1,_=>exact sL D V z Z (hl:=Of (bc Y fq y0))
  |4,_=>exact sL D V z Z (hl:=Gi (bc Y iC x1))
  |7,_=>exact sL D V z Z (hl:=Zq (bc Y fq y6))
  |8,_=>exact sC D V z Z (C3 _ Y) (by rintro e w_ ⟨v',rfl,R,al⟩;exact⟨_,rfl,⟨_,rfl,R.lower Y.size⟩,al⟩)
  |9,_=>
   obtain rfl:=yP D;have d8:∃v',(a.tmps[29]?.getD Θ)=.tuple #[v',f,τ]/\AP W2.heap.size 115 3 Au wx v' (k.ZJ.set f ⟨1,nm,0⟩):=Bd Z 8
   clear Z z;obtain⟨v',d8,R⟩:=d8;refine yO ?_;go_simp;exact V _ _ ⟨_,rfl,R⟩ (yN _ _)
  |10,_=>
   obtain rfl:=yP D;have d9:∃v',(a.tmps[20]?.getD Θ)=.tuple #[v',f,τ]/\AP W2.heap.size 115 3 Au wx v' (k.ZJ.set f ⟨1,nm,0⟩):=Bd Z 9
   clear Z z;obtain⟨v',d9,R⟩:=d9;refine yO ?_;go_simp;exact V _ _ R (yN _ _)
  |11,_=>
   obtain rfl:=yP D;have d9:∃v',(a.tmps[20]?.getD Θ)=.tuple #[v',f,τ]/\AP W2.heap.size 115 3 Au wx v' (k.ZJ.set f ⟨1,nm,0⟩):=Bd Z 9
   clear Z z;obtain⟨v',d9,R⟩:=d9;refine yO ?_;go_simp;exact V _ _ rfl (yN _ _)
  |12,_=>
   obtain rfl:=yP D;have d9:∃v',(a.tmps[20]?.getD Θ)=.tuple #[v',f,τ]/\AP W2.heap.size 115 3 Au wx v' (k.ZJ.set f ⟨1,nm,0⟩):=Bd Z 9
   clear Z z;obtain⟨v',d9,R⟩:=d9;refine yO ?_;go_simp;exact V _ _ rfl (yN _ _)
  |13,_=>obtain rfl:=yP D;have mR:AP W2.heap.size 115 3 Au wx (a.tmps[30]?.getD Θ) (k.ZJ.set f ⟨1,nm,0⟩):=Bd Z 10;clear Z z;refine yO ?_;go_simp;exact V _ _ mR (yN _ _)
  |_+15,hq=>omega
 .intro i hi vv wz gM cF hz
  match i,hi with
  |8,_|9,_=>exact(by obtain⟨v',h0,H⟩:=hz;exact⟨v',h0,AP.below H cF⟩)
  |10,_|13,_=>exact(AP.below hz cF)
  |0,_|1,_|2,_|3,_|4,_|5,_|6,_|7,_|11,_|12,_|14,_=>exact hz
  |_+15,hq=>omega
 intro K wx hR Y
 have gQ:(K 12)=.bool true:=Be hR 12;have fy:AP W2.heap.size 115 3 Au wx (K 13) (k.ZJ.set f ⟨1,nm,0⟩):=Be hR 13;have ie:(K 14)=.int .i64 f:=Be hR 14;clear hR;simp only[Aj,Ae,yL,yI,yJ,yH,gQ,ie];simp;generalize K 13=z13 at fy ⊢;clear gQ ie;have h5:=kR.ZJ kn Y fy;have iI:=((bl.trans (Y.mono bl.size)).mono bs).setCell (p:=⟨g,1,none⟩) kR.2.1 z13;replace y0:=(Y.cell (p:=⟨w,0,none⟩) fq).trans y0;replace x1:=(Y.cell (p:=⟨g,1,none⟩) iC).trans x1;have kU:=kR.below Y;have x0:=kU.cells.1;have mx:=AK kU.1;obtain⟨gm,ic,gw,cq,K,rfl,iB,n1,ho,ms,km,n2,n3,o1,hu,hx⟩:=h5.zo (f:=f) Hm iF;have b7:=(Ak.1 Hm.u).1;have h4:=(BG.1 ((Ak.1 Hm.u).2 f iF)).1;have D2:=(Bu (o:=f) (At wx g 1 z13) (by simpa using iB) (λe=>n1 (yP e).symm)).symm.trans ho;obtain⟨w6,hE,j0,ky⟩:=YZ hx h4;have h6:=AA (h5.row o1 (by rw[b7];exact iF) hu j0 ky);have jD:=AA (AM iI ky km (yM bs iI.size));have lF:(f:Int)<12:=ω;obtain⟨q1,q2,rfl,_,_⟩:=fy.rd.shape;simp only[yi] at hE;have mu:w.heap.size≠g:=λe=>kx e.symm
 clear h5 iI kU ho hx o1 hu j0 ky h4 b7 iB ms km n2 n3 fy Y;go_wp2;go_ret2;exact⟨by rw[hW.u];rfl,λ_=>⟨_,_,_,_,by rw[hW.u];exact h6.u⟩,jD.u⟩
theorem As (h:w.heap[b]?=some o)(N:w.grownBy w1 (some g))(dr:g≠b):w1.heap[b]?=some o:=
 (N.block b (AY h) (λe=>dr (yP e).symm)).trans h
theorem Ca{T':Nat}{c c':Array Φ}(h:w.heap[b]?=some (.cells c T (0,0)))(h':w.heap[g]?=some (.cells c' T' (0,0)))(hT:T≠T':=by decide):b≠g:=λe=>by subst e;rw[h] at h';simp at h';exact hT h'.2
def aZ(g:Nat)(w W:Ω):Prop:=∀b cu,b≠g->w.heap[b]?=some (.cells cu 28 (0,0))->W.heap[b]?=w.heap[b]?
theorem aZ.below (h:aZ g w W)(J:Γ W W W'):aZ g w W':=λb cu N hB=>(J.block b (AY ((h b cu N hB).trans hB))).trans (h b cu N hB)
theorem aZ.row{cu:Array Φ}(h:aZ g w W)(N:W.grownBy W' (some q))(hq:W.heap[q]?=some (.cells cu T (0,0)))(hT:T≠28):aZ g w W':=λb kY iL hB=>
 have e:=(h b kY iL hB).trans hB
 (As e N (Ca hq e hT)).trans hB.symm
theorem aZ.own (h:aZ g w W)(N:W.grownBy W' (some g)):aZ g w W':=λb kY iL hB=>
 have e:=(h b kY iL hB).trans hB
 (As e N (λh=>iL h.symm)).trans hB.symm
structure Ep(T:Nat)(cs:Array Φ)(R:List Nat)(lo g b0:Nat)(w W:Ω)(m i e c:Φ)(k:AQ):Prop where
 yS:Iv lo W g m i e c k
 yU:W.heap[b0]?=some (.cells cs T (0,0))
 bel:Γ lo w W
 lo:lo<=W.heap.size
 ty:28≠T/\115≠T/\81≠T/\3≠T/\29≠T
 kf:aZ g w W
 rs:∀b∈R,g≠b/\W.heap[b]?=some (.cells #[ι,ι,ι,ι] 28 (0,0))
abbrev CS(lo g b0:Nat)(call:AV)(w W:Ω)(m i e c:Φ)(k:AQ):Prop:=Ep 97 (call.onCells g) [] lo g b0 w W m i e c k
theorem Ep.start{m:Φ}{k:AQ}(h:Iv lo w g m i e c k)(bs:lo<=w.heap.size)(call:AV):CS lo g w call w (w.alloc (.cells (call.onCells g) 97)) m i e c k:=
 ⟨h.below (AG _ _),yy _ _,(AG _ _).mono bs,yM bs (AG _ _).size,ψ,aZ.below (λ_ _ _ _=>rfl) (AG _ _),nofun⟩
variable{call:AV}
theorem Ep.ys{m:Φ}{k:AQ}(h:CS lo g b0 call w W m i e c k):W.cell? b0=some (.pointer g)/\W.cell? (b0,1)=some (.int .i64 call.k)/\W.cell? (b0,2)=some (.int .i64 call.e)/\W.cell? (b0,3)=some (.int .i64 call.a)/\W.cell? (b0,4)=some (.int .i64 call.b)/\W.cell? (b0,5)=some (.int .i64 call.c)/\W.cell? (b0,6)=some (.string call.nm):=Et h.yU
section
variable {T:Nat} {cs:Array Φ} {hO:List Nat} {lo g b0:Nat} {w W W':Ω} {m i e c:Φ} {k:AQ}
theorem Ep.below(h:Ep T cs hO lo g b0 w W m i e c k)(J:Γ W W W'):Ep T cs hO lo g b0 w W' m i e c k:=
 ⟨h.yS.below J,AB h.yU J,h.bel.trans (J.mono h.lo),yM h.lo J.size,h.ty,h.kf.below J,λb hr=>⟨(h.rs b hr).1,AB (h.rs b hr).2 J⟩⟩
theorem Ep.xs(h:Ep T cs hO lo g b0 w W m i e c k):W.cell? g=some m/\W.cell? (g,1)=some i/\W.cell? (g,2)=some e/\W.cell? (g,3)=some c:=h.yS.cells
theorem Ep.lts(h:Ep T cs hO lo g b0 w W m i e c k):b0<W.heap.size/\g<W.heap.size/\g≠b0/\b0≠g:=⟨AY h.yU,AY h.yS.1,Ca h.yS.1 h.yU h.ty.1,(Ca h.yS.1 h.yU h.ty.1).symm⟩
theorem Ep.zp(h:Ep T cs hO lo g b0 w W m i e c k){lo' T' sz n:Nat}{v:Φ}{xs:List Φ}(o:W.ownsRow lo' T' sz v n xs){b:Nat}(J:v.ownBlock=some b)(H:T'≠28)(A:T'≠T):(b≠g/\g≠b)/\b≠b0/\b0≠b:=by obtain⟨c8,hc⟩:=BB o b J;have a1:=Ca hc h.yS.1 H;have a2:=Ca hc h.yU A;exact⟨⟨a1,a1.symm⟩,a2,a2.symm⟩
theorem Ep.ZJ(h:Ep T cs hO lo g b0 w W m i e c k)(hl:0<k.ZJ.length):∃gi a6,i=.slice (some ⟨gi,0,none⟩) k.ZJ.length a6/\gi<W.heap.size/\lo<=gi/\((gi≠g/\g≠gi)/\gi≠b0/\b0≠gi)/\∀q,W.frozen? ⟨gi,q,none⟩=false:=by obtain⟨gi,a6,e1,H,A,_,_,_,hz⟩:=h.yS.JK' hl;refine⟨gi,a6,e1,H,A,h.zp h.yS.2.2.2.1 (by rw[e1];rfl) ψ h.ty.2.1,hz⟩
theorem Ep.XX(h:Ep T cs hO lo g b0 w W m i e c k)(hl:0<k.XX.length):∃ge a6,e=.slice (some ⟨ge,0,none⟩) k.XX.length a6/\ge<W.heap.size/\((ge≠g/\g≠ge)/\ge≠b0/\b0≠ge)/\∀q,W.frozen? ⟨ge,q,none⟩=false:=by obtain⟨ge,a6,_,_,e1,H,_,_,_,hz⟩:=h.yS.env hl;obtain⟨ps,o⟩:=h.yS.2.2.2.2.1;exact⟨ge,a6,e1,H,h.zp o.1 (by rw[e1];rfl) ψ h.ty.2.2.1,hz⟩
theorem Ep.infos_envs{n' a6 g8:Nat}(h:Ep T cs hO lo g b0 w W m (.slice gi n a6) (.slice ge n' g8) c k):gi≠ge/\ge≠gi:=by obtain⟨ps,o⟩:=h.yS.2.2.2.2.1;obtain⟨c1,H⟩:=BB o.1 ge rfl;obtain⟨c2,A⟩:=BB h.yS.2.2.2.1 gi rfl;have:=Ca A H;exact⟨this,this.symm⟩
theorem Ep.info{a6:Nat}(h:Ep T cs hO lo g b0 w W m (.slice gi n a6) e c k)(hn:n=k.ZJ.length){f:Nat}(hf:f<k.ZJ.length)(r:Int):
 Ep T cs hO lo g b0 w (W.setCell (gi,f*3+2) (.int .i64 ((JK k.ZJ f).r+r))) m (.slice gi n a6) e c {k with ZJ:=An k.ZJ f (JD r)}:=by
 have T:=h.yS.info hn (Cj hf) (j:=2) ψ (y:=JD r (JK k.ZJ f)) (u:=.int .i64 ((JK k.ZJ f).r+r)) rfl;rw[<-IQ] at T;obtain⟨c2,A⟩:=BB h.yS.2.2.2.1 gi rfl;exact⟨T.1,As h.yU T.2.1 (Ca A h.yU h.ty.2.1),AM h.bel T.2.1 T.2.2 h.lo,yM h.lo T.2.1.size,h.ty,h.kf.row T.2.1 A ψ,λb hr=>⟨(h.rs b hr).1,As (h.rs b hr).2 T.2.1 (Ca A (h.rs b hr).2 ψ)⟩⟩
theorem Ep.root{a6:Nat}(h:Ep T cs hO lo g b0 w W m i (.slice ge n a6) c k)(hn:n=k.XX.length){j:Nat}(hj:j<k.XX.length)(r:Int):
 Ep T cs hO lo g b0 w (W.setCell (ge,j*2+1) (.int .i64 r)) m i (.slice ge n a6) c {k with XX:=An k.XX j (ET r)}:=by
 have T:=h.yS.root hn hj r;obtain⟨ps,o⟩:=h.yS.2.2.2.2.1;obtain⟨c2,A⟩:=BB o.1 ge rfl;exact⟨T.1,As h.yU T.2.1 (Ca A h.yU h.ty.2.2.1),AM h.bel T.2.1 T.2.2 h.lo,yM h.lo T.2.1.size,h.ty,h.kf.row T.2.1 A ψ,λb hr=>⟨(h.rs b hr).1,As (h.rs b hr).2 T.2.1 (Ca A (h.rs b hr).2 ψ)⟩⟩
theorem Ep.XU(h:Ep T cs hO lo g b0 w W m i e c k)(J:Γ W W W'){c':Φ}{xs:List Ag}(A:AP W.heap.size 125 4 AZ W' c' xs):Ep T cs hO lo g b0 w (W'.setCell (g,3) c') m i e c' {k with XU:=xs}:=by
 have h':=h.below J;exact⟨h.yS.XU h.lo J A,As h'.yU (At W' g 3 c') h.lts.2.2.1,h'.bel.setCell h.yS.2.1 _,by simpa using h'.lo,h.ty,h'.kf.own (At W' g 3 c'),λb hr=>⟨(h.rs b hr).1,As (h'.rs b hr).2 (At W' g 3 _) (h.rs b hr).1⟩⟩
theorem Ep.zy(h:Ep T cs hO lo g b0 w W m i e c k)(J:Γ W W W'){i':Φ}{xs:List AW}(A:AP W.heap.size 115 3 Au W' i' xs):Ep T cs hO lo g b0 w (W'.setCell (g,1) i') m i' e c {k with ZJ:=xs}:=by
 have h':=h.below J;exact⟨h.yS.ZJ h.lo J A,As h'.yU (At W' g 1 i') h.lts.2.2.1,h'.bel.setCell h.yS.2.1 _,by simpa using h'.lo,h.ty,h'.kf.own (At W' g 1 i'),λb hr=>⟨(h.rs b hr).1,As (h'.rs b hr).2 (At W' g 1 _) (h.rs b hr).1⟩⟩
theorem Ep.fzi{a6:Nat}(h:Ep T cs hO lo g b0 w W m (.slice gi n a6) e c k)(q:Nat):W.frozen? (gi,q)=false:=by obtain⟨c8,hc⟩:=BB h.yS.2.2.2.1 gi rfl;exact AK hc q
theorem Ep.fze{a6:Nat}(h:Ep T cs hO lo g b0 w W m i (.slice ge n a6) c k)(q:Nat):W.frozen? (ge,q)=false:=by obtain⟨ps,o⟩:=h.yS.2.2.2.2.1;obtain⟨c8,hc⟩:=BB o.1 ge rfl;exact AK hc q
theorem Ep.zg{a6:Nat}(h:Ep T cs hO lo g b0 w W m i (.slice ge n a6) c k):ge<W.heap.size:=by obtain⟨ps,o⟩:=h.yS.2.2.2.2.1;exact(yE o.1 ge rfl).2
theorem Ep.zx{a6:Nat}(h:Ep T cs hO lo g b0 w W m (.slice gi n a6) e c k):gi<W.heap.size:=(yE h.yS.2.2.2.1 gi rfl).2
theorem Ep.env{a6:Nat}(h:Ep T cs hO lo g b0 w W m i (.slice ge n a6) c k){j:Nat}(hj:j<k.XX.length):
 ∃ua uc,W.cell? (ge,j*2)=some (.slice ua (AI k.XX j).PQ.length uc)/\W.cell? (ge,j*2+1)=some (.int .i64 (AI k.XX j).root)/\BZ W (.slice ua (AI k.XX j).PQ.length uc) (AI k.XX j).PQ:=by
 obtain⟨n8,g8,ua,uc,e1,_,d0,d1,hO,_⟩:=h.yS.env hj;cases e1;exact⟨ua,uc,d0,d1,hO⟩
theorem Ep.JK{a6:Nat}(h:Ep T cs hO lo g b0 w W m (.slice gi n a6) e c k){f:Nat}(hf:f<k.ZJ.length):
 W.cell? (gi,f*3)=some (.int .i64 (JK k.ZJ f).k)/\W.cell? (gi,f*3+1)=some (.string (JK k.ZJ f).g)/\W.cell? (gi,f*3+2)=some (.int .i64 (JK k.ZJ f).r):=by
 obtain⟨n5,g8,e1,_,_,d0,d1,d2,_⟩:=h.yS.JK' hf;cases e1;exact⟨d0,d1,d2⟩
theorem Ep.mems(h:Ep T cs hO lo g b0 w W m i e c k)(aq:CJ k.mem=true):∃gm a6,m=.slice (some ⟨gm,0,none⟩) 12 a6/\gm<W.heap.size/\(gm≠g/\g≠gm)/\gm≠b0/\b0≠gm:=by obtain⟨gm,a6,_,_,_,e1,H,A,_⟩:=h.yS.zo aq (f:=0) ω;obtain⟨K,o⟩:=h.yS.2.2.1;exact⟨gm,a6,e1,H,h.zp o.1 (by rw[e1];rfl) ψ h.ty.2.2.2.2⟩
theorem Ep.mrow{gm a6:Nat}(h:Ep T cs hO lo g b0 w W (.slice gm n a6) i e c k)(aq:CJ k.mem=true){f:Nat}(hf:f<12):
 ∃gw cq,W.cell? (gm,f)=some (.slice (some ⟨gw,0,none⟩) 4 cq)/\gw<W.heap.size/\4<=cq/\(∀j,j<4->W.cell? ⟨gw,j,none⟩=some (.int .i64 (Aw k.mem f j)))/\(∀q,W.frozen? ⟨gw,q,none⟩=false)/\((gw≠g/\g≠gw)/\gw≠b0/\b0≠gw)/\(gw≠gm/\gm≠gw)/\(∀b cu T,W.heap[b]?=some (.cells cu T (0,0))->T≠3->gw≠b)/\
  ∀j v,j<4->Ep T cs hO lo g b0 w (W.setCell ⟨gw,j,none⟩ (.int .i64 v)) (.slice gm n a6) i e c {k with mem:=Cs k.mem f j v}:=by
 obtain⟨nZ,g8,gw,cq,K,e1,_,_,hc,hl,bs,H,A,o,hu,hx⟩:=h.yS.zo aq hf;cases e1;have h4:=(BG.1 ((Ak.1 aq).2 f hf)).1;have jk:W.ownsRow lo 3 1 (.slice gw 4 cq) 4 ((AJ k.mem f).map (yl .i64)):=by have:=hx;unfold AE at this;rwa [h4] at this
 have kI:4<=cq:=by obtain⟨_,_,hv,nV,_⟩:=A3.open (AE.rd hx);simp only[xQ] at hv;obtain⟨_,_,rfl⟩:=hv;omega
 obtain⟨c8,b9⟩:=BB jk gw rfl;refine⟨gw,cq,hc,hl,kI,λj hj=>?_,λq=>xV jk q,h.zp jk rfl ψ h.ty.2.2.2.1,⟨A,A.symm⟩,λb cu T J hT=>Ca b9 J (Ne.symm hT),λj v hj=>?_⟩
 .have:=xN jk j hj
  rw[this,xq];unfold Aw;rw[A9 (d:=0) ω];rfl
 have S:=vw jk j (.int .i64 v)
 have R:AE lo (W.setCell (gw,j) (.int .i64 v)) (.slice gw 4 cq) ((AJ k.mem f).set j v):=by unfold AE;rw[yi,h4,uT];exact S.1
 have T:=h.yS.row o (by rw[(Ak.1 aq).1];exact hf) hu R S.2;rw[<-Ou] at T;exact⟨T,As h.yU S.2 (Ca b9 h.yU h.ty.2.2.2.1),AM h.bel S.2 bs h.lo,yM h.lo S.2.size,h.ty,h.kf.row S.2 b9 ψ,λb hr=>⟨(h.rs b hr).1,As (h.rs b hr).2 S.2 (Ca b9 (h.rs b hr).2 ψ)⟩⟩
end
def ZF(W:Ω)(lo g b0:Nat)(call:AV)(w:Ω)(m i e:Φ)(k:AQ)(b:Bool)(ww:Ω):Prop:=match b with
 |false=>Γ W W ww
 |true=>∃c',CS lo g b0 call w ww m i e c' k
theorem ZF.grow{m:Φ}{k:AQ}{b:Bool}{ww gM:Ω}(h:ZF W lo g b0 call w m i e k b ww)(J:Γ ww ww gM):ZF W lo g b0 call w m i e k b gM:=by
 cases b
 .exact Below.trans h (J.mono h.size)
 obtain⟨c',h⟩:=h
 exact⟨c',h.below J⟩
theorem Si{α:Type}{e:Nat}{cs:α->List Φ}{xs:List α}(h:AP lo e sz cs w v xs)(N:g<lo):AP lo e sz cs (w.setCell (g,j) u) v xs:=
 AP.grown h (At w g j u) (by
  rcases hv:v.ownBlock with _|b
  .exact .inl rfl
  refine .inr λe=>?_
  cases e;have:=(yE h g hv).1;omega)
theorem E9{hk:Nat->Bool}{i:Nat}(h:i≠j):Hh hk i j=hk j:=if_neg (λe=>h e.symm)
theorem Fh{hk:Nat->Bool}{i:Nat}:Hh hk i i=true:=if_pos rfl
theorem Ep.callEnv{m:Φ}{k:AQ}{en:Nat}(h:CS lo g b0 call w W m i (.slice ge n a6) c k)(he:call.e=(en:Int))(hn:en<n)(W':Ω)(J:Γ W W W'):
 Ξ prog 177 #[call.on g] W' λe O=>e=.returned (.pointer (some ⟨ge,en*2,none⟩))/\Γ W' W' O:=Yu g ge n a6 en call W' (h.below J).xs.2.2.1 he hn
theorem Dx (v:Φ)(xs:List AW)(w:Ω)(h:Bh w v xs)(hs:JC xs):Ξ prog 82 #[v] w λe O=>e=.returned (.bool (BJ xs))/\Γ w w O:=by
 obtain⟨a,c,rfl,hc,bw,h1⟩:=BN.open Az ψ h;unfold maxLen at bw;have HH:=AA h1;have HS:=AA hs;clear h h1 hs;go_in;go_wp2_with fail;go_loopw [3] (λix wr=>∃k:Nat,k<=xs.length/\ix=.int .i64 k/\(∀j,j<k->Dm (JK xs j)=true)/\Γ w w wr) (λix _=>xs.length - (intOf ix).toNat)
 exact⟨0,yu _,rfl,λj hj=>absurd hj (xU _),yN _ _⟩
 obtain⟨k,L,rfl,au,J⟩:=hrel;have be:=AA au;clear au
 by_cases ar:k<xs.length
 .have bX:(k:Int)<(xs.length:Int):=ω
  obtain⟨b,a7,rfl,bC,D0,D1,D2⟩:=(HH.below J).zZ ar;have C:=Wf (JK xs k) wr (HS _ (yw (Cj ar)));simp only[AW.val] at C;have HC:=AA C;clear C;cases hp:Dm (JK xs k)
  .have S:=AA (show BJ xs=false by unfold BJ;rw[Jl (Cj ar) hp];rfl)
   have Hp:=AA hp;clear hp;go_wp2_with (refine HC.mono ?_;rintro e w2 ⟨rfl,b2⟩;rw[Hp.u]);go_ret;exact⟨AF S.symm,J.trans (b2.mono J.size)⟩
  have Hp:=AA hp
  clear hp;go_wp2_with fail;refine HC.mono ?_;rintro e w2 ⟨rfl,b2⟩;rw[Hp.u];go_wp2;go_roundw;exact⟨k+1,ω,ξ,Am be Hp.u,J.trans (b2.mono J.size)⟩;simp[intOf];omega
 have ek:k=xs.length:=ω;have au:=be.u;rw[ek] at au;have S:=AA (show BJ xs=((xs.length:Int)==12) by unfold BJ;rw[Kd (λk L=>Cj L) au];by_cases h4:xs.length=12<;>simp[h4]<;>omega);clear be au;go_wp2;go_ret;exact⟨AF S.symm,J⟩
theorem bZ{xs:List AW}(L:k<xs.length)(h:∀j,j<k->decide ((JK xs j).k=0)=false)(hp:decide ((JK xs k).k=0)=true):Ao xs=(k:Int):=by
 have g:∀j (hj:j<xs.length),xs[j]=JK xs j:=λj hj=>by have:=Cj hj;rw[yG hj] at this;exact yP this
 unfold Ao;rw[if_pos (PY (Cj L) hp)];have:xs.findIdx (λx=>decide (x.k=0))=k:=by
  rw[tH L];exact⟨by rw[g k L];exact hp,λj hj=>by rw[g j ω];exact h j hj⟩
 rw[this]
theorem Zb{xs:List AW}(h:∀j,j<xs.length->decide ((JK xs j).k=0)=false):Ao xs= -1:=by
 unfold Ao;rw[if_neg];rw[MG (λk L=>Cj L) h];simp
theorem QD (v:Φ)(xs:List AW)(w:Ω)(h:Bh w v xs):Ξ prog 232 #[v] w λe O=>e=.returned (.int .i64 (Ao xs))/\Γ w w O:=by
 obtain⟨a,c,rfl,hc,bw,h1⟩:=BN.open Az ψ h;unfold maxLen at bw;have HH:=AA h1;clear h h1;go_in;go_wp2_with fail;go_loopw [3] (λix wr=>∃k:Nat,k<=xs.length/\ix=.int .i64 k/\(∀j,j<k->decide ((JK xs j).k=0)=false)/\Γ w w wr) (λix _=>xs.length - (intOf ix).toNat)
 exact⟨0,yu _,rfl,λj hj=>absurd hj (xU _),yN _ _⟩
 obtain⟨k,L,rfl,au,J⟩:=hrel;have be:=AA au;clear au
 by_cases ar:k<xs.length
 .have bX:(k:Int)<(xs.length:Int):=ω
  obtain⟨b,a7,rfl,bC,D0,D1,D2⟩:=(HH.below J).zZ ar;cases hp:decide ((JK xs k).k=0)
  .have t0:((JK xs k).k==0)=false:=by simpa using hp
   have Hp:=AA hp;clear hp;go_wp2;go_roundw;exact⟨k+1,ω,ξ,Am be Hp.u,J⟩;simp[intOf];omega
  have t0:((JK xs k).k==0)=true:=by simpa using hp
  have S:=AA (bZ ar be hp);have Hp:=AA hp;clear hp;go_wp2;go_ret;exact⟨DI S.symm,J⟩
 have ek:k=xs.length:=ω;have au:=be.u;rw[ek] at au;have S:=AA (Zb au);clear be au;go_wp2;go_ret;exact⟨DI S.symm,J⟩
theorem UR (v:Φ)(xs:List Int)(n:Int)(w:Ω)(h:A3 w v xs):Ξ prog 244 #[v,.int .i64 n] w λe O=>e=.returned (.bool (xs.any λx=>decide (x=n)))/\Γ w w O:=by
 obtain⟨a,c,rfl,hc,bw,h1⟩:=h.open;unfold maxLen at bw;have HH:=AA h1;clear h h1;go_in;go_wp2_with fail;go_loopw [5] (λix wr=>∃k:Nat,k<=xs.length/\ix=.int .i64 k/\(∀j,j<k->decide (nth xs j=n)=false)/\Γ w w wr) (λix _=>xs.length - (intOf ix).toNat)
 exact⟨0,yu _,rfl,λj hj=>absurd hj (xU _),yN _ _⟩
 obtain⟨k,L,rfl,au,J⟩:=hrel;have be:=AA au;clear au
 by_cases ar:k<xs.length
 .have bX:(k:Int)<(xs.length:Int):=ω
  obtain⟨b,a7,rfl,ho⟩:=(HH.below J).at ar;cases hp:decide (nth xs k=n)
  .have t0:(nth xs k==n)=false:=by simpa using hp
   have Hp:=AA hp;clear hp;go_wp2;go_roundw;exact⟨k+1,ω,ξ,Am be Hp.u,J⟩;simp[intOf];omega
  have t0:(nth xs k==n)=true:=by simpa using hp
  have S:=AA (PY (p:=λx=>decide (x=n)) (Qq ar) hp);have Hp:=AA hp;clear hp;go_wp2;go_ret;exact⟨AF S.symm,J⟩
 have ek:k=xs.length:=ω;have au:=be.u;rw[ek] at au;have S:=AA (MG (p:=λx=>decide (x=n)) (λk L=>Qq L) au);clear be au;go_wp2;go_ret;exact⟨AF S.symm,J⟩
theorem Lb (v:Φ)(ss:List ByteArray)(g:ByteArray)(w:Ω)(h:BZ w v ss)(hs:Db ss)(N:g.size<=maxLen):Ξ prog 89 #[v,.string g] w λe O=>e=.returned (.bool (Ci ss g))/\Γ w w O:=by
 obtain⟨a,c,rfl,hc,bw,h1⟩:=BN.open Fj ψ h;unfold maxLen at bw;have HH:=AA h1;have HS:=AA (yj hs N);clear h h1 hs N;go_in;go_wp2_with fail;go_loopw [5] (λix wr=>∃k:Nat,k<=ss.length/\ix=.int .i64 k/\(∀j,j<k->L3 (Cz ss j) g=false)/\Γ w w wr) (λix _=>ss.length - (intOf ix).toNat)
 exact⟨0,yu _,rfl,λj hj=>absurd hj (xU _),yN _ _⟩
 obtain⟨k,L,rfl,au,J⟩:=hrel;have be:=AA au;clear au
 by_cases ar:k<ss.length
 .have bX:(k:Int)<(ss.length:Int):=ω
  obtain⟨b,a7,rfl,ho⟩:=(HH.below J).str ar;have C:=AA (NU (Cz ss k) g wr (HS.1 _ (yw (HY ar))) HS.2);cases hp:L3 (Cz ss k) g
  .have Hp:=AA hp
   clear hp;go_wp2_with fail;refine C.mono ?_;rintro e w2 ⟨rfl,rfl⟩;rw[Hp.u];go_wp2;go_roundw;exact⟨k+1,ω,ξ,Am be Hp.u,J⟩;simp[intOf];omega
  have S:=AA (show Ci ss g=true from PY (p:=λs=>L3 s g) (HY ar) hp)
  have Hp:=AA hp;clear hp;go_wp2_with (refine C.mono ?_;rintro e w2 ⟨rfl,rfl⟩;rw[Hp.u]);go_ret;exact⟨AF S.symm,J⟩
 have ek:k=ss.length:=ω;have au:=be.u;rw[ek] at au;have S:=AA (show Ci ss g=false from MG (p:=λs=>L3 s g) (λk L=>HY L) au);clear be au;go_wp2;go_ret;exact⟨AF S.symm,J⟩
def Iu(fs:List Nat)(k:Nat):Nat:=fs.getD k 0
theorem Gn (h:k<fs.length):fs[k]?=some (Iu fs k):=by unfold Iu;exact A9 h
theorem Qo:nth (A8 fs) k=(Iu fs k:Int):=by unfold nth A8 Iu;simp only[yd,xq];cases fs[k]? <;>rfl
theorem Cu:(A8 fs).length=fs.length:=by simp[A8]
theorem Gr (v1 v2 v3:Φ)(xs:List AW)(fs:List Nat)(ss:List ByteArray)(w:Ω)(H:Bh w v1 xs)(A:A3 w v2 (A8 fs))(h3:BZ w v3 ss)(hf:∀f∈fs,f<xs.length)(hI:JC xs)(hs:Db ss):
 Ξ prog 145 #[v1,v2,v3] w λe O=>e=.returned (.bool (BO xs fs ss))/\Γ w w O:=by
 obtain⟨a1,c1,rfl,lJ,kH,H1⟩:=BN.open Az ψ H;obtain⟨a2,c2,rfl,gz,f8,H2⟩:=A.open;rw[Cu] at gz ⊢;unfold maxLen at kH f8;have CM:=AA (λW (E:Γ w w W) (g:ByteArray) (N:g.size<=maxLen)=>Lb v3 ss g W (BN.below h3 E) hs N);have nr:=AA H1;have nq:=AA H2;have HF:=AA (yj hf hI);obtain⟨a3,c3,rfl,nW,mB⟩:=h3.shape;clear H A h3 H1 H2 hf hI hs;go_in;go_wp2_with fail;go_loopw [7] (λix wr=>∃k:Nat,k<=fs.length/\ix=.int .i64 k/\(∀j,j<k->Ci ss (JK xs (Iu fs j)).g=true)/\Γ w w wr) (λix _=>fs.length - (intOf ix).toNat)
 exact⟨0,yu _,rfl,λj hj=>absurd hj (xU _),yN _ _⟩
 obtain⟨k,L,rfl,au,J⟩:=hrel;have be:=AA au;clear au
 by_cases ar:k<fs.length
 .have bX:(k:Int)<(fs.length:Int):=ω
  obtain⟨b2,cC,rfl,ho⟩:=(nq.below J).at (k:=k) (by rw[Cu];exact ar);rw[Qo] at ho;have fn:=HF.1 _ (yw (Gn ar));obtain⟨b,a7,rfl,bC,D0,D1,D2⟩:=(nr.below J).zZ fn;have kB:(Iu fs k:Int)<xs.length:=ω;have C:=AA (CM wr J (JK xs (Iu fs k)).g (HF.2 _ (yw (Cj fn))));cases hp:Ci ss (JK xs (Iu fs k)).g
  .have S:=AA (show BO xs fs ss=false from Jl (p:=λf=>Ci ss (JK xs f).g) (Gn ar) hp)
   have Hp:=AA hp;clear hp;go_wp2_with (refine C.mono ?_;rintro e w2 ⟨rfl,b2⟩;rw[Hp.u]);go_ret;exact⟨AF S.symm,J.trans (b2.mono J.size)⟩
  have Hp:=AA hp
  clear hp;go_wp2_with fail;refine C.mono ?_;rintro e w2 ⟨rfl,b2⟩;rw[Hp.u];go_wp2;go_roundw;exact⟨k+1,ω,ξ,Am be Hp.u,J.trans (b2.mono J.size)⟩;simp[intOf];omega
 have ek:k=fs.length:=ω;have au:=be.u;rw[ek] at au;have S:=AA (show BO xs fs ss=true from Kd (p:=λf=>Ci ss (JK xs f).g) (λk L=>Gn L) au);clear be au;go_wp2;go_ret;exact⟨AF S.symm,J⟩
theorem Wb{b:List Nat}:A8 (a++b)=A8 a++A8 b:=by simp[A8]
theorem Jc{ys zs:List Nat}(h:w.ownsRow lo 3 1 v (ys.length+zs.length) ((A8 ys).map (yl .i64)++(A8 zs).map (yl .i64))):AE lo w v (A8 (ys++zs)):=by unfold AE;rw[Wb,xM,yz,Cu,Cu];exact h
theorem MR (xs:List Int):∀u∈xs.map (yl .i64),u.oneCell'=true:=by intro u hu;obtain⟨x,_,rfl⟩:=wj.1 hu;rfl
theorem GD (w:Ω):AE w (w.alloc (.cells #[] 3)) (.slice w 0 0) (A8 []):=CU w 3 1
theorem Jb (v:Φ)(r:List Int)(w:Ω)(h:A3 w v r)(hl:r.length<=100)(hx:∀k,k<r.length->nth r k<=9223372036854775807):Ξ prog 210 #[v] w λe O=>∃v',e=.returned v'/\AE w O v' (A8 (named r))/\Γ w w O:=by
 obtain⟨a,c,rfl,hc,bw,h1⟩:=h.open;unfold maxLen at bw;have HH:=AA h1;have HX:=AA hx;have bA:=AG w (.cells #[] 3);have o1:=GD w;clear h h1 hx;go_in;go_wp2_with fail;generalize w.alloc (.cells #[] 3)=wa at o1 bA ⊢;generalize(xv (some ⟨w,0,none⟩) 0 0)=o at o1 ⊢;go_loopw [3,4,5,6,7] (λo ix _ _ _ wr=>∃k:Nat,k<=r.length/\ix=.int .i64 k/\AE w wr o (A8 (named (r.take k)))/\Γ w w wr) (λ_ ix _ _ _ _=>r.length - (intOf ix).toNat)
 exact⟨0,yu _,rfl,o1,bA⟩
 clear o1 bA;obtain⟨k,L,rfl,a5,J⟩:=hrel
 by_cases ar:k<r.length
 .have bX:(k:Int)<(r.length:Int):=ω
  obtain⟨b,a7,rfl,ho⟩:=(HH.below J).at ar;have lp:=HX k ar;have Nx:=AA (KR ar);have f6:(named (r.take k)).length<=100:=by have:=Fi (r:=r.take k);rw[yr] at this;omega
  change (dv (named (r.take (k+1))=named (r.take k)++(if Bx (nth r k) then[BQ (nth r k)] else[]))) at Nx
  generalize named (r.take k)=ys at a5 Nx f6;generalize nth r k=x at ho Nx lp;have bK:=AA a5;obtain⟨_,_,rfl,_⟩:=(AE.rd a5).open;clear a5;go_wp2_with fail;refine(Da x _ lp).mono ?_;rintro e w2 ⟨rfl,rfl⟩;cases N:Bx x
  .rw[Ev N]
   have cl:=AA (show named (r.take (k+1))=ys by rw[Nx.u,N];simp);clear N Nx;go_wp2;go_roundw;exact⟨k+1,ω,ξ,by rw[cl.u];exact bK.u,J⟩;simp[intOf];omega
  rw[Er N]
  have cl:=AA (show named (r.take (k+1))=ys++[BQ x] by rw[Nx.u,N];simp);generalize BQ x=f at cl;clear N Nx;rw[Cu];go_wp2_with (at_builtin;go_must (refine Bm (lo:=w.heap.size) (n:=ys.length) (xs:=(A8 ys).map (yl .i64)) (m:=1) (news:=[.int .i64 f]) rfl rfl 3 (.int .i64 0) 1 8 underlying29 Tryz.zS rfl ψ rfl (by have:=AE.below bK (AG wr (.cells #[f] 3));unfold AE at this;rw[Cu] at this;exact this) rfl (Rd.zM _ #[_] _ 1 1 _ χ rfl ζ) (by simp[xR]) μ ω (by have:=J.size;simp;omega) ?_;intro o' w9 k1 k2 k3 k4));go_roundw;exact⟨k+1,ω,ξ,by rw[cl.u];exact Jc (zs:=[f]) k1,(J.alloc J.size _).trans k4⟩;simp[intOf];omega
 obtain rfl:k=r.length:=ω;rw[xD] at a5;go_wp2;go_ret;exact⟨_,rfl,a5,J⟩
theorem Lh{ys:List Nat}(h:AE lo w v (A8 ys))(J:Γ w w O):O.ownsRow lo 3 1 v ys.length ((A8 ys).map (yl .i64)):=by
 have:=AE.below h J;unfold AE at this
 rwa [Cu] at this
theorem FM{ys:List Nat}(h:AE lo w v (A8 ys)):∃a c,v=.slice a ys.length c/\ys.length<=c:=by obtain⟨a,c,e,hc,_⟩:=(AE.rd h).open;rw[Cu] at e hc;exact⟨a,c,e,hc⟩
def Ir(fs:List Nat)(k:Nat):List Nat:=(yL k).filter λf=>fs.contains f
theorem UB:Ir fs (k+1)=Ir fs k++(if fs.contains k then[k] else[]):=by
 unfold Ir;rw[xj,wE]
 congr 1
 simp only[vP,vo]
theorem Vu:(Ir fs k).length<=k:=by
 have:=xG (λf=>fs.contains f) (yL k);simpa[Ir] using this
theorem WY:((A8 fs).any λx=>decide (x=(k:Int)))=fs.contains k:=by
 rw[wL,List.contains_iff_mem];simp[A8];constructor
 .rintro⟨x,hx,e⟩
  obtain rfl:x=k:=ω;exact hx
 intro h
 exact⟨k,h,rfl⟩
theorem Ld (v:Φ)(fs:List Nat)(w:Ω)(h:A3 w v (A8 fs)):Ξ prog 207 #[v] w λe O=>∃v',e=.returned v'/\AE w O v' (A8 (JO fs))/\Γ w w O:=by
 have C:=AA (λ(k:Nat) W (E:Γ w w W)=>UR v (A8 fs) (k:Int) W (A3.below h E));have bA:=AG w (.cells #[] 3);have o1:=GD w;clear h;go_in;go_wp2_with fail;generalize w.alloc (.cells #[] 3)=wa at o1 bA ⊢;generalize(xv (some ⟨w,0,none⟩) 0 0)=o at o1 ⊢;go_loopw [3,4] (λo ix wr=>∃k:Nat,k<=12/\ix=.int .i64 k/\AE w wr o (A8 (Ir fs k))/\Γ w w wr) (λ_ ix _=>12 - (intOf ix).toNat)
 exact⟨0,yu _,rfl,o1,bA⟩
 clear o1 bA;obtain⟨k,L,rfl,a5,J⟩:=hrel
 by_cases ar:k<12
 .have bX:(k:Int)<12:=ω
  have Nx:=AA (UB (fs:=fs) (k:=k));have f6:=Vu (fs:=fs) (k:=k);generalize Ir fs k=ys at a5 Nx f6;have Ck:=C k wr J;rw[WY] at Ck;have HC:=AA Ck;have bK:=AA a5;obtain⟨_,_,rfl,_⟩:=FM a5;clear a5 Ck;go_wp2_with fail;refine HC.mono ?_;rintro e w2 ⟨rfl,b2⟩;have al:=J.trans (b2.mono J.size);have ee:=AA (bK.below b2);cases N:fs.contains k
  .have cl:=AA (show Ir fs (k+1)=ys by rw[Nx.u,N];simp)
   clear N Nx;go_wp2;go_roundw;exact⟨k+1,ω,ξ,by rw[cl.u];exact ee.u,al⟩;simp[intOf];omega
  have cl:=AA (show Ir fs (k+1)=ys++[k] by rw[Nx.u,N];simp)
  clear N Nx;go_wp2_with (at_builtin;go_must (refine Bm (lo:=w.heap.size) (n:=ys.length) (xs:=(A8 ys).map (yl .i64)) (m:=1) (news:=[.int .i64 k]) rfl rfl 3 (.int .i64 0) 1 8 underlying29 Tryz.zS rfl ψ rfl (Lh ee (AG _ (.cells #[k] 3))) rfl (Rd.zM _ #[_] _ 1 1 _ χ rfl ζ) (by simp[xR]) μ ω (by have:=al.size;simp;omega) ?_;intro o' w9 k1 k2 k3 k4));go_roundw;exact⟨k+1,ω,ξ,by rw[cl.u];exact Jc (zs:=[k]) k1,(al.alloc al.size _).trans k4⟩;simp[intOf];omega
 obtain rfl:k=12:=ω;rw[show((12:Nat):Int)=12 from rfl];go_wp2;go_ret;exact⟨_,rfl,a5,J⟩
theorem Mg (hm:CJ m=true){f:Nat}(hf:f<12):∀k,k<(AJ m f).length->nth (AJ m f) k<=9223372036854775807:=λk L=>by obtain⟨h4,hw⟩:=BG.1 ((Ak.1 hm).2 f hf);have:=(hw _ (Dl (d:=0) L)).2;unfold nth;omega
theorem Le (v:Φ)(m:List (List Int))(root:Nat)(w:Ω)(h:Bn w v m)(hm:CJ m=true)(hr:root<12):Ξ prog 206 #[v,.int .i64 root] w λe O=>∃v',e=.returned v'/\AE w O v' (A8 (Fb m root))/\Γ w w O:=by
 obtain⟨a,c,rfl,hc,bw,h1⟩:=h.open;have b7:=(Ak.1 hm).1;have fk:=(BG.1 ((Ak.1 hm).2 root hr)).1;obtain⟨b,a7,u,rfl,bC,ho,hR⟩:=h1 root ω;have C:=AA (Jb u (AJ m root) w hR ω (Mg hm hr));have jU:(root:Int)<12:=ω;rw[b7];obtain⟨_,_,rfl,_⟩:=hR.open;unfold Fb;clear h h1 hR hm b7 hc bw fk;go_in;go_wp2_with fail;refine C.mono ?_;rintro e w1 ⟨v1,rfl,o1,b1⟩;have C2:=AA (Ld v1 _ w1 (AE.rd o1));have c5:=AA b1;clear o1 b1 C;go_wp2_with (refine C2.mono ?_;rintro e w2 ⟨v2,rfl,o2,b2⟩;have lb:=AA (Nw o2 c5.size);have gh:=AA (c5.trans (b2.mono c5.size));clear o2 b2 C2);go_ret;exact⟨_,rfl,lb.u,gh.u⟩
def Gc(m:List (List Int))(ts:List Nat)(k:Nat):List Nat:=(ts.take k).flatMap λt=>named (AJ m t)
theorem NQ{ts:List Nat}(h:k<ts.length):Gc m ts (k+1)=Gc m ts k++named (AJ m (Iu ts k)):=by unfold Gc;rw[DQ (Gn h),List.flatMap_append];simp
theorem VG{ts:List Nat}(hl:∀t∈ts,(AJ m t).length=4):(Gc m ts k).length<=4*k:=by
 induction k with
 |zero=>simp[Gc]
 |succ k ih=>
  by_cases h:k<ts.length
  .rw[NQ h,yz]
   have H:=Fi (r:=AJ m (Iu ts k));have A:=hl _ (yw (Gn h));omega
  have:Gc m ts (k+1)=Gc m ts k:=by unfold Gc;rw[xz ω,xz ω]
  rw[this];omega
theorem VS (v:Φ)(m:List (List Int))(root:Nat)(w:Ω)(h:Bn w v m)(hm:CJ m=true)(hr:root<12):Ξ prog 208 #[v,.int .i64 root] w λe O=>∃v',e=.returned v'/\AE w O v' (A8 (Jx m root))/\Γ w w O:=by
 have bA:=AG w (.cells #[] 3);have o1:=GD w;have C:=AA (Le v m root _ (h.below bA) hm hr);obtain⟨a,c,rfl,hc,bw,h1⟩:=h.open;have b7:=(Ak.1 hm).1;have hT:∀t∈Fb m root,t<12:=λt ht=>F9 (Je.1 ht)
 have gT:∀t∈Fb m root,(AJ m t).length=4:=λt ht=>(BG.1 ((Ak.1 hm).2 t (hT t ht))).1
 have ju:(Fb m root).length<=12:=Mb;have FS:Jx m root=JO (Gc m (Fb m root) (Fb m root).length):=by unfold Jx Gc;rw[xD]
 rw[FS];have HH:=AA h1;have HT:=AA (yj hT gT);have Hm:=AA hm;rw[b7] at C ⊢;generalize Fb m root=ts at*;clear h h1 hm hT gT FS hc bw;go_in;go_wp2_with fail;generalize w.alloc (.cells #[] 3)=wa at o1 bA C ⊢;refine C.mono ?_;rintro e w1 ⟨v1,rfl,t1,b1⟩;have bx:=bA.trans (b1.mono bA.size);have o2:=AE.below o1 b1;obtain⟨a1,c1,rfl,lJ⟩:=FM t1;have m9:=AA t1;have c5:=AA bx;have i6:GH (.slice w 0 0) (.slice a1 ts.length c1):=λb J gg=>by have H:=(yE t1 b gg).1;have A:=(yE o1 b J).2;omega
 clear C o1 bA t1 b1 bx;go_wp2_with fail;generalize(xv (some ⟨w,0,none⟩) 0 0)=o at o2 i6 ⊢;go_loopw [5,7] (λo ix wr=>∃k:Nat,k<=ts.length/\ix=.int .i64 k/\AE w wr o (A8 (Gc m ts k))/\Γ w w wr/\AE wa wr (.slice a1 ts.length c1) (A8 ts)/\GH o (.slice a1 ts.length c1)) (λ_ ix _=>ts.length - (intOf ix).toNat)
 exact⟨0,yu _,rfl,o2,c5.u,m9.u,i6⟩
 clear o2 i6;obtain⟨k,L,rfl,a5,J,kl,i6⟩:=hrel
 by_cases ar:k<ts.length
 .have bX:(k:Int)<(ts.length:Int):=ω
  obtain⟨_,_,e1,_,_,H1⟩:=(AE.rd kl).open;simp only[xQ] at e1;obtain⟨rfl,e2,rfl⟩:=e1;clear e2;obtain⟨b1,gR,rfl,D1⟩:=H1.at (k:=k) (by rw[Cu];exact ar);rw[Qo] at D1;clear H1;have ef:=yw (Gn ar);have hf:=HT.1 _ ef;have lv:=HT.2 _ ef;obtain⟨b,a7,u,rfl,bC,ho,hR⟩:=(HH.below J) (Iu ts k) ω;have CN:=AA (Jb u (AJ m (Iu ts k)) wr hR ω (Mg Hm hf));have kB:(Iu ts k:Int)<12:=ω;have Nx:=AA (NQ (m:=m) ar);have f6:=VG (k:=k) HT.2;have eD:=Fi (r:=AJ m (Iu ts k));rw[lv] at eD;obtain⟨_,_,rfl,_⟩:=hR.open;generalize Gc m ts k=ys at a5 Nx f6;generalize named (AJ m (Iu ts k))=zs at CN Nx eD;generalize Iu ts k=f at*;have bK:=AA a5;obtain⟨_,_,rfl,_⟩:=FM a5;have Ht:=AA (yj kl i6);clear a5 hR ef lv kl i6;go_wp2_with fail;refine CN.mono ?_;rintro e w2 ⟨v2,rfl,o2,b2⟩;have gh:=AA (J.trans (b2.mono J.size));have j7:=AA (yj (AE.below Ht.1 b2) Ht.2);have ee:=AA (bK.below b2);have lK:=AE.rd o2;obtain⟨az,cz,rfl,lG⟩:=FM o2;have jb:=AA lK;clear o2 b2 lK ho D1;go_wp2_with (at_builtin;go_must (refine Bm (lo:=w.heap.size) (n:=ys.length) (xs:=(A8 ys).map (yl .i64)) (m:=zs.length) (news:=(A8 zs).map (yl .i64)) rfl rfl 3 (.int .i64 0) 1 8 underlying29 Tryz.zS rfl ψ rfl (Lh ee (yN _ _)) rfl (by have:=jb.u;unfold A3 at this;rw[Cu] at this;exact this) (MR _) μ ω (by have:=gh.size;omega) ?_;intro o' w9 k1 k2 k3 k4));go_roundw;exact⟨k+1,ω,ξ,by rw[Nx.u];exact Jc k1,gh.trans k4,Av j7.1 k2 j7.2.symm.ne,j7.2.grown k3 (λb J=>(yE j7.1 b J).2)⟩;simp[intOf];omega
 obtain rfl:k=ts.length:=ω;have C2:=AA (Ld _ _ wr (AE.rd a5));obtain⟨_,_,rfl,_⟩:=FM a5;have z:=AA J;clear a5 J;go_wp2_with (refine C2.mono ?_;rintro e w2 ⟨v2,rfl,o2,b2⟩;have lb:=AA (Nw o2 z.size);have gh:=AA (z.trans (b2.mono z.size));clear o2 b2 C2);go_ret;exact⟨_,rfl,lb.u,gh.u⟩
theorem Y1 (w:Ω)(n:Nat):AE w (w.alloc (.cells #[n] 3)) (.slice w 1 1) (A8 [n]):=Vc (n:=1) (C:=1) rfl (yF _) ψ (yF _)
theorem J0 (v:Φ)(m:List (List Int))(root:Int)(w:Ω)(h:Bn w v m)(hm:CJ m=true)(hr:root<12):Ξ prog 146 #[v,.int .i64 root] w λe O=>∃v',e=.returned v'/\AE w O v' (A8 (FT m root))/\Γ w w O:=by
 by_cases hn:root<0
 .have hW:FT m root=[]:=by unfold FT;rw[if_pos hn]
  have o1:=GD w;rw[hW];go_in;go_wp2;go_ret;exact⟨_,rfl,o1,AG _ _⟩
 obtain⟨r,rfl⟩:∃r:Nat,root=(r:Int):=⟨root.toNat,ω⟩
 have hW:FT m (r:Int)=JO (([r]++Fb m r)++Jx m r):=by unfold FT;rw[if_neg hn,yq];rfl
 have jq:r<12:=ω;rw[hW];have b0:=AG w (.cells #[r] 3);have o0:=Y1 w r;have CT:=AA (λW (E:Γ w w W)=>Le v m r W (h.below E) hm jq);have CF:=AA (λW (E:Γ w w W)=>VS v m r W (h.below E) hm jq);have ht:(Fb m r).length<=12:=Mb;have hf:(Jx m r).length<=12:=Mb;obtain⟨a,c,rfl,hc,bw,_⟩:=h.open;generalize Fb m r=ts at*;generalize Jx m r=fs at*;clear h hm hW hc bw;go_in;go_wp2_with fail;generalize w.alloc _=wa at o0 b0 ⊢;refine(CT wa b0).mono ?_;rintro e w1 ⟨v1,rfl,o1,b1⟩;have O0:=AE.below o0 b1;have bx:=b0.trans (b1.mono b0.size);have jb:=AA (AE.rd o1);have km:w.heap.size<=w1.heap.size:=bx.size;have c5:=AA bx;obtain⟨az,cz,rfl,lG⟩:=FM o1;clear o0 b0 o1 b1 bx;have nD:A8 [r]=A8 ([r]:List Nat):=rfl;go_wp2_with (at_builtin;go_must (refine Bm (lo:=w.heap.size) (n:=1) (xs:=(A8 [r]).map (yl .i64)) (m:=ts.length) (news:=(A8 ts).map (yl .i64)) rfl rfl 3 (.int .i64 0) 1 8 underlying29 Tryz.zS rfl ψ rfl (Lh O0 (yN _ _)) rfl (by have:=jb.u;unfold A3 at this;rw[Cu] at this;exact this) (MR _) μ ω ω ?_;intro o' w9 k1 k2 k3 k4));have ca:=c5.trans k4;refine(CF w9 ca).mono ?_;rintro e w2 ⟨v2,rfl,o2,b2⟩;have O9:=Jc (ys:=[r]) (zs:=ts) k1;have O2:=AE.below O9 b2;have gh:=AA (ca.trans (b2.mono ca.size));have lg:=AA (AE.rd o2);obtain⟨ay,cy,rfl,nT⟩:=FM o2;obtain⟨ax,cx,rfl,nU⟩:=FM O2;clear O0 jb k1 k2 k3 k4 ca O9 o2 b2;go_wp2_with (at_builtin;go_must (refine Bm (lo:=w.heap.size) (n:=([r]++ts).length) (xs:=(A8 ([r]++ts)).map (yl .i64)) (m:=fs.length) (news:=(A8 fs).map (yl .i64)) rfl rfl 3 (.int .i64 0) 1 8 underlying29 Tryz.zS rfl ψ rfl (Lh O2 (yN _ _)) rfl (by have:=lg.u;unfold A3 at this;rw[Cu] at this;exact this) (MR _) (by simp only[yz,xP];unfold maxLen;omega) (by simp only[yz,xP];omega) (by have:=gh.size;omega) ?_;intro o8 w8 k1 k2 k3 k4));have jZ:=gh.trans k4;have O8:=Jc k1;refine(Ld o8 _ w8 (AE.rd O8)).mono ?_;rintro e w3 ⟨v3,rfl,o3,b3⟩;have m0:=AA (Nw o3 jZ.size);have m7:=AA (jZ.trans (b3.mono jZ.size));clear O8 jZ k1 k2 k3 k4 o3 b3 O2;go_wp2;go_ret;exact⟨_,rfl,m0.u,m7.u⟩
theorem LF (w:Ω)(a b:Obj):((w.alloc a).alloc b).heap[w.heap.size]?=some a/\((w.alloc a).alloc b).heap[w.heap.size+1]?=some b/\Γ w w ((w.alloc a).alloc b)/\((w.alloc a).alloc b).heap.size=w.heap.size+2:=by have H:=yy w a;have A:=yy (w.alloc a) b;have h4:=AB H (AG _ b);simp only[xt] at A;exact⟨h4,A,Hv w a b,χ⟩
def IA(k:AQ)(a n:Nat):List Nat:=(yL n).filter (TT k a)
theorem UD{k:AQ}{a:Nat}:IA k a (n+1)=IA k a n++(if TT k a n then[n] else[]):=by
 unfold IA;rw[xj,wE]
 congr 1
 simp only[vP,vo]
theorem V3{k:AQ}{a:Nat}:(IA k a n).length<=n:=by have:=xG (TT k a) (yL n);simpa[IA] using this
theorem VP (mv iv ev cv:Φ)(k:AQ)(a:Nat)(w:Ω)(h:Nk w mv iv ev cv k)(L:Dg k):Ξ prog 239 #[.agg #[mv,iv,ev,cv],.int .i64 a] w λe O=>∃v',e=.returned v'/\AE w O v' (A8 (V0 k a))/\Γ w w O:=by
 obtain⟨N0,N1,bp,ij⟩:=LF w (.cells #[mv,iv,ev,cv] 28) (.cells #[] 3);have o1:AE w ((w.alloc (.cells #[mv,iv,ev,cv] 28)).alloc (.cells #[] 3)) (.slice (some ⟨w.heap.size+1,0,none⟩) 0 0) (A8 []):=by have:=GD (w.alloc (.cells #[mv,iv,ev,cv] 28));simp only[xt] at this;exact Nw this (we _)
 have CT:=AA (λ(r:Nat)(hr:r<12) W (E:Γ w w W)=>Le mv k.mem r W (h.1.below E) L.mem hr);obtain⟨ae,ce,rfl,mD,mA,HE⟩:=h.2.2.1.open;rw[L.zX] at mD N0 o1 bp ⊢;have HR:=AA L.roots;have np:=AA HE;have jM:=AA L.zX;have US:V0 k a=IA k a 3:=rfl;rw[US];clear h L HE US ij N1;go_in;go_wp2_with fail;generalize(w.alloc _).alloc _=wa at o1 bp N0 ⊢;have l6:=AA N0;clear N0;generalize(xv (some ⟨w.heap.size+1,0,none⟩) 0 0)=o at o1 ⊢;go_loopw [5,6,7] (λo ix _ wr=>∃n:Nat,n<=3/\ix=.int .i64 n/\AE w wr o (A8 (IA k a n))/\Γ w w wr/\wr.heap[w.heap.size]?=some (.cells #[mv,iv,.slice ae 3 ce,cv] 28 (0,0))) (λ_ ix _ _=>3 - (intOf ix).toNat)
 exact⟨0,yu _,rfl,o1,bp,l6.u⟩
 clear o1 bp;obtain⟨n,hn,rfl,a5,J,hN⟩:=hrel;obtain⟨x0,_,x2,_⟩:=AH hN
 by_cases ar:n<3
 .have bX:(n:Int)<3:=ω
  obtain⟨b,a7,ua,uc,rfl,bC,D0,D1,_⟩:=(np.below J) n (by rw[jM.u];exact ar);have gd:=HR n ar;have Nx:=AA (UD (k:=k) (a:=a) (n:=n));have f6:=V3 (k:=k) (a:=a) (n:=n);have UE:TT k a n=(decide ((AI k.XX n).root=(a:Int))||(decide (0<=(AI k.XX n).root)&&(Fb k.mem (AI k.XX n).root.toNat).contains a)):=rfl
  change (AI k.XX n).root= -1∨(0<=(AI k.XX n).root/\(AI k.XX n).root<=11/\_) at gd
  generalize IA k a n=ys at a5 Nx f6;generalize TT k a n=ub at Nx UE;generalize(AI k.XX n).root=rt at D1 gd UE;have bK:=AA a5;have HN:=AA hN;obtain⟨_,_,rfl,_⟩:=FM a5;clear a5 hN D0;have i9:dv (ub=true->IA k a (n+1)=ys++[n]):=AA λe=>by rw[Nx.u,e];simp
  have NO:dv (ub=false->IA k a (n+1)=ys):=AA λe=>by rw[Nx.u,e];simp
  clear Nx
  by_cases e1:rt=(a:Int)
  .have t1:(rt==(a:Int))=true:=by simp[e1]
   have cl:=AA (i9 (by rw[UE];simp[e1]));clear i9 NO UE e1 gd;go_wp2_with (at_builtin;go_must (refine Bm (lo:=w.heap.size) (n:=ys.length) (xs:=(A8 ys).map (yl .i64)) (m:=1) (news:=[.int .i64 n]) rfl rfl 3 (.int .i64 0) 1 8 underlying29 Tryz.zS rfl ψ rfl (Lh bK (AG _ (.cells #[n] 3))) rfl (Rd.zM _ #[_] _ 1 1 _ χ rfl ζ) (by simp[xR]) μ ω (by have:=J.size;simp;omega) ?_;intro o' w9 k1 k2 k3 k4));go_roundw;exact⟨n+1,ω,ξ,by rw[cl.u];exact Jc (zs:=[n]) k1,(J.alloc J.size _).trans k4,(k2.block w (by have:=AY HN.u;simp;omega) (λe=>DH bK HN ψ e.symm)).trans (AB HN (AG _ _))⟩;simp[intOf];omega
  have t1:(rt==(a:Int))=false:=by simp[e1]
  rcases gd with rfl|⟨h0,kV,_⟩
  .have cl:=AA (NO (by rw[UE];simp[e1]))
   clear i9 NO UE e1;go_wp2;go_roundw;exact⟨n+1,ω,ξ,by rw[cl.u];exact bK.u,J,HN.u⟩;simp[intOf];omega
  obtain⟨r,rfl⟩:∃r:Nat,rt=(r:Int):=⟨rt.toNat,ω⟩
  have C:=AA (CT r ω wr J);rw[yq] at UE;go_wp2_with fail;refine C.mono ?_;rintro e w2 ⟨v2,rfl,o2,b2⟩;have CH:=UR v2 _ (a:Int) w2 (AE.rd o2);rw[WY] at CH;generalize(Fb k.mem r).contains a=bt at UE CH;have nu:=AA CH;have al:=J.trans (b2.mono J.size);have ee:=AA (bK.below b2);have lh:=AA (AB HN b2);clear CH o2 b2 C x0 x2 D1;go_wp2_with fail;refine nu.mono ?_;rintro e w3 ⟨rfl,b3⟩;have cd:=al.trans (b3.mono al.size);have hd:=AA (ee.below b3);have kb:=AA (AB lh b3);clear b3 al;cases bt
  .have cl:=AA (NO (by rw[UE];simp[e1]))
   clear i9 NO UE e1;go_wp2;go_roundw;exact⟨n+1,ω,ξ,by rw[cl.u];exact hd.u,cd,kb.u⟩;simp[intOf];omega
  have cl:=AA (i9 (by rw[UE];simp))
  clear i9 NO UE e1;go_wp2_with (at_builtin;go_must (refine Bm (lo:=w.heap.size) (n:=ys.length) (xs:=(A8 ys).map (yl .i64)) (m:=1) (news:=[.int .i64 n]) rfl rfl 3 (.int .i64 0) 1 8 underlying29 Tryz.zS rfl ψ rfl (Lh hd (AG _ (.cells #[n] 3))) rfl (Rd.zM _ #[_] _ 1 1 _ χ rfl ζ) (by simp[xR]) μ ω (by have:=cd.size;simp;omega) ?_;intro o' w9 k1 k2 k3 k4));go_roundw;exact⟨n+1,ω,ξ,by rw[cl.u];exact Jc (zs:=[n]) k1,(cd.alloc cd.size _).trans k4,(k2.block w (by have:=AY kb.u;simp;omega) (λe=>DH hd kb ψ e.symm)).trans (AB kb (AG _ _))⟩;simp[intOf];omega
 obtain rfl:n=3:=ω;rw[show((3:Nat):Int)=3 from rfl];go_wp2;go_ret;exact⟨_,rfl,a5,J⟩
theorem Fp{l:List Ag}(h:k<l.length):l[k]?=some (AU l k):=by simp[AU,h]
theorem MK{α:Type}{p:α->Bool}{l:List α}{x:α}(h:l[k]?=some x):(l.take (k+1)).filter p=(l.take k).filter p++(if p x then[x] else[]):=by
 rw[DQ h,wE]
 congr 1
 simp only[vP,vo]
theorem Jn{α:Type}{p:α->Bool}{l:List α}:((l.take k).filter p).length<=l.length:=yM (xG _ _) (by rw[yr];omega)
theorem Rz (v:Φ)(c:List Ag)(e:Int)(w:Ω)(h:Ds w v c)(hl:c.length<=100):Ξ prog 240 #[v,.int .i64 e] w λr O=>∃v',r=.returned v'/\AP w.heap.size 125 4 AZ O v' (Gb c e)/\Γ w w O:=by
 obtain⟨a,cp,rfl,hc,bw,h1⟩:=BN.open Co ψ h;unfold maxLen at bw;have HH:=AA h1;have bA:=AG w (.cells #[] 125);have o1:=Cn AZ w 125 4;clear h h1;go_in;go_wp2_with fail;generalize w.alloc (.cells #[] 125)=wa at o1 bA ⊢;generalize(xv (some ⟨w,0,none⟩) 0 0)=o at o1 ⊢;go_loopw [5,6] (λo ix wr=>∃k:Nat,k<=c.length/\ix=.int .i64 k/\AP w.heap.size 125 4 AZ wr o ((c.take k).filter (λy=>decide (y.e≠e)))/\Γ w w wr) (λ_ ix _=>c.length - (intOf ix).toNat)
 exact⟨0,yu _,rfl,o1,bA⟩
 clear o1 bA;obtain⟨k,L,rfl,a5,J⟩:=hrel
 by_cases ar:k<c.length
 .have bX:(k:Int)<(c.length:Int):=ω
  obtain⟨b,a7,rfl,bC,D0,D1,D2,D3⟩:=(HH.below J).zV ar;have Nx:=AA (MK (p:=λy=>decide (y.e≠e)) (Fp ar));have f6:=Jn (p:=λy=>decide (y.e≠e)) (l:=c) (k:=k);generalize AU c k=x at D0 D1 D2 D3 Nx;generalize(c.take k).filter (λy=>decide (y.e≠e))=ys at a5 Nx f6;have bK:=AA a5;obtain⟨_,_,rfl,_⟩:=a5.rd.shape;clear a5;cases hp:decide (x.e≠e)
  .have t0:(x.e !=e)=false:=by simpa using hp
   have cl:=AA (show(c.take (k+1)).filter (λy=>decide (y.e≠e))=ys by rw[Nx.u,hp];simp);have Hp:=AA hp;clear hp Nx;go_wp2;go_roundw;exact⟨k+1,ω,ξ,by rw[cl.u];exact bK.u,J⟩;simp[intOf];omega
  have t0:(x.e !=e)=true:=by simpa using hp
  have cl:=AA (show(c.take (k+1)).filter (λy=>decide (y.e≠e))=ys++[x] by rw[Nx.u,hp];simp);have Hp:=AA hp;clear hp Nx;go_wp2_with (at_builtin;go_must (refine Bm (lo:=w.heap.size) (n:=ys.length) (xs:=Cb AZ ys) (m:=1) (news:=[.int .i64 x.e,.int .i64 x.p,.int .i64 x.f,.bool x.w]) rfl rfl 125 (.agg #[θ,θ,θ,υ]) 4 32 underlying26 Tryz.zP rfl ψ rfl (BC (bK.u) (AG _ _)) rfl (Rd.zM _ #[.int .i64 x.e,.int .i64 x.p,.int .i64 x.f,.bool x.w] _ 4 1 _ rfl χ ζ) (by simp[xR]) μ ω (by have:=(J).size;simp;omega) ?_;intro o' w9 k1 k2 k3 k4));go_roundw;exact⟨k+1,ω,ξ,by rw[cl.u];unfold AP;rw[Bq,Es,yz];exact k1,((J).alloc (J).size _).trans k4⟩;simp[intOf];omega
 obtain rfl:k=c.length:=ω;rw[xD] at a5;go_wp2;go_ret;exact⟨_,rfl,a5,J⟩
variable{p:Int}
theorem bV{c:List Ag}{e:Int}(L:k<c.length)(h:∀j,j<k->BR e p (AU c j)=false)(hp:BR e p (AU c k)=true):H5 c e p=(k:Int):=by
 have g:∀j (hj:j<c.length),c[j]=AU c j:=λj hj=>by have:=Fp hj;rw[yG hj] at this;exact yP this
 unfold H5;rw[if_pos (PY (Fp L) hp)];have:c.findIdx (BR e p)=k:=by
  rw[tH L];exact⟨by rw[g k L];exact hp,λj hj=>by rw[g j ω];exact h j hj⟩
 rw[this]
theorem ZW{c:List Ag}{e:Int}(h:∀j,j<c.length->BR e p (AU c j)=false):H5 c e p= -1:=by
 unfold H5;rw[if_neg];rw[MG (λk L=>Fp L) h];simp
theorem SG (v:Φ)(c:List Ag)(e p:Int)(w:Ω)(h:Ds w v c):Ξ prog 144 #[v,.int .i64 e,.int .i64 p] w λr O=>r=.returned (.int .i64 (H5 c e p))/\Γ w w O:=by
 obtain⟨a,cp,rfl,hc,bw,h1⟩:=BN.open Co ψ h;unfold maxLen at bw;have HH:=AA h1;clear h h1;go_in;go_wp2_with fail;go_loopw [7] (λix wr=>∃k:Nat,k<=c.length/\ix=.int .i64 k/\(∀j,j<k->BR e p (AU c j)=false)/\Γ w w wr) (λix _=>c.length - (intOf ix).toNat)
 exact⟨0,yu _,rfl,λj hj=>absurd hj (xU _),yN _ _⟩
 obtain⟨k,L,rfl,au,J⟩:=hrel;have be:=AA au;clear au
 by_cases ar:k<c.length
 .have bX:(k:Int)<(c.length:Int):=ω
  obtain⟨b,a7,rfl,bC,D0,D1,D2,D3⟩:=(HH.below J).zV ar;have SE:BR e p (AU c k)=(decide ((AU c k).e=e)&&decide ((AU c k).p=p)):=rfl;have FA:=AA (λhp=>bV (e:=e) (p:=p) ar be hp);have NE:=AA (λhp=>Am be (show BR e p (AU c k)=false from hp));rw[SE] at FA NE;clear SE;generalize AU c k=x at D0 D1 D2 D3 FA NE
  by_cases H:x.e=e
  .have t1:(x.e==e)=true:=by simp[H]
   by_cases A:x.p=p
   .have t2:(x.p==p)=true:=by simp[A]
    have S:=AA (FA (by simp[H,A]));clear FA NE H A;go_wp2;go_ret;exact⟨DI S.symm,J⟩
   have t2:(x.p==p)=false:=by simp[A]
   have hg:=AA (NE (by simp[A]));clear FA NE H A;go_wp2;go_roundw;exact⟨k+1,ω,ξ,hg.u,J⟩;simp[intOf];omega
  have t1:(x.e==e)=false:=by simp[H]
  have hg:=AA (NE (by simp[H]));clear FA NE H;go_wp2;go_roundw;exact⟨k+1,ω,ξ,hg.u,J⟩;simp[intOf];omega
 obtain rfl:k=c.length:=ω;have S:=AA (ZW be.u);go_wp2;go_ret;exact⟨DI S.symm,J⟩
theorem Z0 (h:k<ss.length):ss[k]?=some (Cz ss k):=HY h
theorem We (v:Φ)(ss:List ByteArray)(s:ByteArray)(w:Ω)(h:BZ w v ss)(hs:Db ss)(hz:s.size<=maxLen)(hl:ss.length<=100):Ξ prog 241 #[v,.string s] w λr O=>∃v',r=.returned v'/\AP w.heap.size 9 1 A0 O v' (Bk ss s)/\Γ w w O:=by
 obtain⟨a,cp,rfl,hc,bw,h1⟩:=BN.open Fj ψ h;unfold maxLen at bw;have HH:=AA h1;have HS:=AA (yj hs hz);have bA:=AG w (.cells #[] 9);have o1:=Cn A0 w 9 1;clear h h1 hs hz;go_in;go_wp2_with fail;generalize w.alloc (.cells #[] 9)=wa at o1 bA ⊢;generalize(xv (some ⟨w,0,none⟩) 0 0)=o at o1 ⊢;go_loopw [5,6] (λo ix wr=>∃k:Nat,k<=ss.length/\ix=.int .i64 k/\AP w.heap.size 9 1 A0 wr o ((ss.take k).filter (λr=>!L3 s r))/\Γ w w wr) (λ_ ix _=>ss.length - (intOf ix).toNat)
 exact⟨0,yu _,rfl,o1,bA⟩
 clear o1 bA;obtain⟨k,L,rfl,a5,J⟩:=hrel
 by_cases ar:k<ss.length
 .have bX:(k:Int)<(ss.length:Int):=ω
  obtain⟨b,a7,rfl,ho⟩:=(HH.below J).str ar;have C:=AA (NU s (Cz ss k) wr HS.2 (HS.1 _ (yw (HY ar))));have Nx:=AA (MK (p:=λr=>!L3 s r) (Z0 ar));have f6:=Jn (p:=λr=>!L3 s r) (l:=ss) (k:=k);generalize Cz ss k=x at ho Nx C;generalize(ss.take k).filter (λr=>!L3 s r)=ys at a5 Nx f6;have bK:=AA a5;obtain⟨_,_,rfl,_⟩:=a5.rd.shape;clear a5;cases hp:!L3 s x
  .have cl:=AA (show(ss.take (k+1)).filter (λr=>!L3 s r)=ys by rw[Nx.u,hp];simp)
   have Hp:=AA hp;clear hp Nx;go_wp2_with fail;refine C.mono ?_;rintro e w2 ⟨rfl,rfl⟩;rw[show L3 s x=!false by rw[<-Hp.u];simp];go_wp2;go_roundw;exact⟨k+1,ω,ξ,by rw[cl.u];exact bK.u,J⟩;simp[intOf];omega
  have cl:=AA (show(ss.take (k+1)).filter (λr=>!L3 s r)=ys++[x] by rw[Nx.u,hp];simp)
  have Hp:=AA hp;clear hp Nx;go_wp2_with fail;refine C.mono ?_;rintro e w2 ⟨rfl,rfl⟩;rw[show L3 s x=!true by rw[<-Hp.u];simp];go_wp2_with (at_builtin;go_must (refine Bm (lo:=w.heap.size) (n:=ys.length) (xs:=Cb A0 ys) (m:=1) (news:=[.string x]) rfl rfl 9 (.string ⟨#[]⟩) 1 16 underlying79 Tryz.zT rfl ψ rfl (BC (bK.u) (AG _ _)) rfl (Rd.zM _ #[.string x] _ 1 1 _ rfl χ ζ) (by simp[xR]) μ ω (by have:=(J).size;simp;omega) ?_;intro o' w9 k1 k2 k3 k4));go_roundw;exact⟨k+1,ω,ξ,by rw[cl.u];unfold AP;rw[Bq,Es,yz];exact k1,((J).alloc (J).size _).trans k4⟩;simp[intOf];omega
 obtain rfl:k=ss.length:=ω;rw[xD] at a5;go_wp2;go_ret;exact⟨_,rfl,a5,J⟩
variable{ops:Array Oper}
variable{rest:List Oper}
variable{s:Operand}
theorem GG{α:Type}{cs:α->List Φ}{o:Oper}{a:Act}{Q:Exit->Act->Ω->Prop}{x:Operand}{t:TypeId}
 (kw:o.guard=none)(D:o.op=.call {callee:=.builtin .append,args:= #[s,x],argTypes:= #[t,t]})
 (e:TypeId)(Hb:Φ)(sz bytes:Nat)(ht:prog.underlying t=some (.slice e))(hi:(prog.info? e).map (λi=>(i.zero,i.size,i.bytes))=some (some Hb,sz,bytes))
 (mg:Hb.cells.size=sz)(gb:0<sz){v u:Φ}{xs:List α}(hs:a.eval s=v)(a5:AP lo e sz cs w v ([]:List α))
 (hx:a.eval x=u)(hr:BN sz cs w u xs)(H:∀u∈Cb cs xs,u.oneCell'=true)(mL:xs.length<=1048576)(iH:bytes<=1048576)(bs:lo<=w.heap.size)
 (hK:∀v' O,AP lo e sz cs O v' xs->Γ lo w O->wpList prog ops Q rest (a.put o.dst v') O):wpList prog ops Q (o::rest) a w:=by
 refine Bm kw D e Hb sz bytes ht hi mg gb hs a5 hx hr H ?_ ?_ bs λv' O k1 _ _ k4=>hK v' O ?_ k4
 .unfold maxLen;simp only[xi];omega
 .simp only[xi]
  have H:=wT bytes (ω:0+xs.length<=1048576);have A:=Nat.mul_le_mul_left 1048576 iH;omega
 unfold AP
 have:([]:List α).length+xs.length=xs.length:=χ;rw[this] at k1;exact k1
theorem Fx (xs:List AW):∀u∈Cb Au xs,u.oneCell'=true:=by
 intro u hu;obtain⟨s,_,hs⟩:=wY.1 hu;simp[Au] at hs
 rcases hs with rfl|rfl|rfl<;>rfl
theorem Ki (xs:List Ag):∀u∈Cb AZ xs,u.oneCell'=true:=by
 intro u hu;obtain⟨s,_,hs⟩:=wY.1 hu;simp[AZ] at hs
 rcases hs with rfl|rfl|rfl|rfl<;>rfl
theorem IX (xs:List ByteArray):∀u∈Cb A0 xs,u.oneCell'=true:=by
 intro u hu;obtain⟨s,_,hs⟩:=wY.1 hu;simp[A0] at hs
 rcases hs with rfl<;>rfl
theorem cG (v:Φ)(m:List (List Int))(f:Nat)(w:Ω)(h:Bn w v m)(hm:CJ m=true)(hf:f<12):Ξ prog 290 #[v,.int .i64 f] w λe O=>e=.returned (.bool true)/\Γ w w O:=by have C:=JH v m w h;rw[hm] at C;have HC:=AA C;have hW:Bo (f:Int) 0 11=true:=Aa.2 ω;have HE:=AA hW;clear C h hm hW;go_in;go_wp2_with fail;refine HC.mono ?_;rintro e w1 ⟨rfl,b1⟩;go_wp2_with fail;refine(Ed _ _).mono ?_;rintro e w2 ⟨rfl,rfl⟩;rw[HE.u];go_wp2;go_ret;exact⟨rfl,b1⟩
theorem QE (v iv:Φ)(m:List (List Int))(xs:List AW)(f:Nat)(w:Ω)(h:Bn w v m)(hm:CJ m=true)(hI:Bh w iv xs)(bE:BJ xs=true)(hf:f<12):Ξ prog 283 #[v,iv,.int .i64 f] w λe O=>e=.returned (.bool true)/\Γ w w O:=by
 have C1:=AA (cG v m f w h hm hf);have C2:=AA (λW (E:Γ w w W)=>by have:=Dx iv xs W (BN.below hI E) (Cg bE);rw[bE] at this;exact this);clear h hm hI bE;go_in;go_wp2_with fail;refine C1.mono ?_;rintro e w1 ⟨rfl,b1⟩;go_wp2_with (refine(C2 _ b1).mono ?_;rintro e w2 ⟨rfl,b2⟩);go_ret;exact⟨rfl,b1.trans (b2.mono b1.size)⟩
theorem TA (v:Φ)(xs:List AW)(g:ByteArray)(f:Nat)(w:Ω)(h:Bh w v xs)(aq:BJ xs=true)(N:BT g=true)(lE:Ao xs=(f:Int))(hf:f<12):
 Ξ prog 233 #[v,.string g] w λe O=>∃v',e=.returned (.tuple #[v',f,τ])/\AP w.heap.size 115 3 Au O v' (xs.set f ⟨1,g,0⟩)/\Γ w w O:=by
 have hl:=(A4.1 aq).1;have c0:=QD v xs w h;rw[lE] at c0;have C0:=AA c0;have mw:=Ku N;have iB:g.size<=maxLen:=μ;have C1:=AA (λW (E:Γ w w W)=>by have:=Dx v xs W (BN.below h E) (Cg aq);rw[aq] at this;exact this);have C2:=AA (λW=>by have:=En g W iB;rw[N] at this;exact this);have HR:=AA (λW (E:Γ w w W)=>BN.below h E);obtain⟨a,c,rfl,hc,bw⟩:=h.shape;have Hl:=AA hl;have ju:xs.length<=12:=ω;clear h aq N lE c0 iB mw hl;go_in;go_wp2_with fail;refine C0.mono ?_;rintro e w0 ⟨rfl,b0⟩;go_wp2_with fail;refine(C1 _ b0).mono ?_;rintro e w1 ⟨rfl,b1⟩;have bx:=b0.trans (b1.mono b0.size);go_wp2_with fail;refine(C2 _).mono ?_;rintro e w1 ⟨rfl,rfl⟩;have c5:=AA bx;go_wp2_with (at_builtin;go_must (refine GG (cs:=Au) rfl rfl 115 (.agg #[θ,ϑ,θ]) 3 32 underlying24 Tryz.zO rfl ψ rfl (Cn Au _ _ _) rfl (HR _ (bx.trans ((AG _ _).mono bx.size))) (Fx _) ω ψ χ ?_;intro v' w9 R ca));have al:=(c5.trans ((AG _ _).mono c5.size)).trans (ca.mono c5.size);obtain⟨q,a6,rfl,c1,c2,q1,q2,bY⟩:=R.zW (by have:=Hl.u;omega);have hS:=AA (AP.stored Az R (show f<xs.length by have:=Hl.u;omega) ⟨1,g,0⟩);obtain⟨d0,d1,d2⟩:=AP.zZ R (show f<xs.length by have:=Hl.u;omega);have hB:=AA (AM al hS.2 (yM c5.size q1) al.size);have bs:=c5.size;have fn:(f:Int)<xs.length:=by have:=Hl.u;omega
 unfold maxLen at c2;have js:¬(f:Int)<0:=ω;clear R ca bx b0 b1 al ju;go_wp2_with fail;go_ret3;exact⟨_,rfl,hS.1.lower bs,hB.u⟩
theorem Sz (v:Φ)(xs:List AW)(f:Nat)(w:Ω)(h:Bh w v xs)(aq:BJ xs=true)(hf:f<12)(L:(JK xs f).k=1)(hr:(JK xs f).r=0):
 Ξ prog 235 #[v,.int .i64 f] w λe O=>∃v',e=.returned (.tuple #[v',τ])/\AP w.heap.size 115 3 Au O v' (xs.set f AW.zero)/\Γ w w O:=by
 have hl:=(A4.1 aq).1;have C1:=AA (λW (E:Γ w w W)=>by have:=Dx v xs W (BN.below h E) (Cg aq);rw[aq] at this;exact this);have HE:=AA (show Bo (f:Int) 0 11=true from Aa.2 ω);have HR:=AA (λW (E:Γ w w W)=>BN.below h E);obtain⟨ai,ci,rfl,iG,ga,H2⟩:=BN.open Az ψ h;obtain⟨bi,a8,rfl,bB,D0,_,D2⟩:=H2.zZ (ω:f<xs.length);have fn:(f:Int)<xs.length:=ω;have t1:((JK xs f).k !=1)=false:=by simp[L]
 have t2:¬0<(JK xs f).r:=ω;have Hl:=AA hl;have J:=yN w w;clear h aq L hr H2 hl;go_in;go_wp2_with fail;refine(C1 _ J).mono ?_;rintro e w_ ⟨rfl,bu⟩;replace J:=J.trans (bu.mono J.size);clear bu;go_wp2_with fail;refine(Ed _ _).mono ?_;rintro e w2 ⟨rfl,rfl⟩;rw[HE.u];replace D0:=(J.cell (p:=⟨bi,a8+f*3,none⟩) bB).trans D0;replace D2:=(J.cell (p:=⟨bi,a8+f*3+2,none⟩) bB).trans D2;have c5:=AA J;go_wp2_with (at_builtin;go_must (refine GG (cs:=Au) rfl rfl 115 (.agg #[θ,ϑ,θ]) 3 32 underlying24 Tryz.zO rfl ψ rfl (Cn Au _ _ _) rfl (HR _ (c5.trans ((AG _ _).mono c5.size))) (Fx _) (by have:=Hl.u;omega) ψ χ ?_;intro v' w9 R ca));have al:=(c5.trans ((AG _ _).mono c5.size)).trans (ca.mono c5.size);obtain⟨q,a6,rfl,c1,c2,q1,q2,bY⟩:=R.zW (by have:=Hl.u;omega);have hS:=AA (AP.stored Az R (show f<xs.length by have:=Hl.u;omega) AW.zero);obtain⟨d0,d1,d2⟩:=AP.zZ R (show f<xs.length by have:=Hl.u;omega);have hB:=AA (AM al hS.2 (yM c5.size q1) al.size);have bs:=c5.size;unfold maxLen at c2;have js:¬(f:Int)<0:=ω;clear R ca al J D0 D2;go_wp2;go_ret2;exact⟨_,rfl,hS.1.lower bs,hB.u⟩
theorem Tu (v:Φ)(xs:List AW)(f:Nat)(w:Ω)(h:Bh w v xs)(aq:BJ xs=true)(hf:f<12)(L:(JK xs f).k=1)(hr:(JK xs f).r≠0):
 Ξ prog 235 #[v,.int .i64 f] w λe O=>∃v',e=.returned (.tuple #[v',υ])/\Γ w w O:=by
 have hl:=(A4.1 aq).1;have hY:=(Ij ((A4.1 aq).2 f hf)).2.1;have C1:=AA (λW (E:Γ w w W)=>by have:=Dx v xs W (BN.below h E) (Cg aq);rw[aq] at this;exact this);have HE:=AA (show Bo (f:Int) 0 11=true from Aa.2 ω);obtain⟨ai,ci,rfl,iG,ga,H2⟩:=BN.open Az ψ h;obtain⟨bi,a8,rfl,bB,D0,_,D2⟩:=H2.zZ (ω:f<xs.length);have fn:(f:Int)<xs.length:=ω;have t1:((JK xs f).k !=1)=false:=by simp[L]
 have t2:0<(JK xs f).r:=ω;have J:=yN w w;clear h aq L hr H2 hl hY;go_in;go_wp2_with fail;refine(C1 _ J).mono ?_;rintro e w_ ⟨rfl,bu⟩;replace J:=J.trans (bu.mono J.size);clear bu;go_wp2_with (refine(Ed _ _).mono ?_;rintro e w2 ⟨rfl,rfl⟩;rw[HE.u];replace D0:=(J.cell (p:=⟨bi,a8+f*3,none⟩) bB).trans D0;replace D2:=(J.cell (p:=⟨bi,a8+f*3+2,none⟩) bB).trans D2);go_ret2;exact⟨_,rfl,J.alloc J.size _⟩
theorem VN (v rv:Φ)(xs:List AW)(f:Nat)(x kind:Int)(ss:List ByteArray)(w:Ω)(h:Bh w v xs)(hl:xs.length=12)(hI:JC xs)(hv:BZ w rv ss)(hs:Db ss)(hx:x<=9223372036854775807)(L:2<=kind/\kind<=3):
 Ξ prog 209 #[v,.int .i64 f,.int .i64 x,.int .i64 kind,rv] w λe O=>e=.returned (.bool (GI xs f kind ss x))/\Γ w w O:=by
 cases N:Bx x
 .have HK:=AA (Ev N)
  have G:=AA (show GI xs f kind ss x=(x==0) by simp only[GI,N];rw[wL];simp);obtain⟨_,_,rfl,_⟩:=h.shape;obtain⟨_,_,rfl,_⟩:=hv.shape;clear N h hl hI hv hs;go_in;go_wp2_with (go_at_call 211;refine(Da _ _ hx).mono ?_;rintro e O ⟨rfl,rfl⟩;rw[HK.u]);go_ret;exact⟨AF G.symm,yN _ _⟩
 have HK:=AA (Er N)
 have hF:=Eh N;have G:=UP (ZJ:=xs) (f:=f) (kind:=kind) (ss:=ss) N;have kj:BQ x<xs.length:=ω;have HC:=AA (Lb rv ss (JK xs (BQ x)).g w hv hs (hI _ (yw (Cj kj))));obtain⟨a,c,rfl,_,_,h1⟩:=BN.open Az ψ h;obtain⟨b,a7,rfl,bC,D0,D1,_⟩:=h1.zZ kj;obtain⟨_,_,rfl,_⟩:=hv.shape;generalize BQ x=o at*;generalize Ci ss (JK xs o).g=mb at HC G;have lw:(o:Int)<xs.length:=ω;clear N h hl hI hv hs h1 kj hF
 by_cases e1:o=f
 .have t1:((o:Int) !=(f:Int))=false:=by simp[e1]
  have hO:=AA (show GI xs f kind ss x=false by rw[G];simp[e1]);clear G e1;go_in;go_wp2_with (go_at_call 211;refine(Da _ _ hx).mono ?_;rintro e O ⟨rfl,rfl⟩;rw[HK.u]);go_ret;exact⟨AF hO.symm,yN _ _⟩
 have t1:((o:Int) !=(f:Int))=true:=η;by_cases e2:(JK xs o).k=kind - 1
 .have t2:((JK xs o).k==kind - 1)=true:=by simp[e2]
  have hO:=AA (show GI xs f kind ss x=mb by rw[G];simp[e1,e2]);clear G e1 e2;go_in;go_wp2_with (go_at_call 211;refine(Da _ _ hx).mono ?_;rintro e O ⟨rfl,rfl⟩;rw[HK.u]);refine HC.mono ?_;rintro e w2 ⟨rfl,b2⟩;go_wp2;go_ret;exact⟨AF hO.symm,b2⟩
 have t2:((JK xs o).k==kind - 1)=false:=by simp[e2]
 have hO:=AA (show GI xs f kind ss x=false by rw[G];simp[e2]);clear G e1 e2;go_in;go_wp2_with (go_at_call 211;refine(Da _ _ hx).mono ?_;rintro e O ⟨rfl,rfl⟩;rw[HK.u]);go_ret;exact⟨AF hO.symm,yN _ _⟩
theorem Yq (hm:CJ m=true){f:Nat}(hf:f<12)(L:k<4):(AJ m f)[k]?=some (Aw m f k):=by have:=(BG.1 ((Ak.1 hm).2 f hf)).1;unfold Aw;exact A9 ω
theorem fN (hm:CJ m=true){f:Nat}(hf:f<12)(L:k<4):Aw m f k<=9223372036854775807:=by obtain⟨h4,hw⟩:=BG.1 ((Ak.1 hm).2 f hf);have:=(hw _ (yw (Yq hm hf L))).2;omega
theorem UQ (v iv rv:Φ)(m:List (List Int))(xs:List AW)(f:Nat)(kind:Int)(ss:List ByteArray)(w:Ω)(h:Bn w v m)(hm:CJ m=true)(hI:Bh w iv xs)(hl:xs.length=12)(jp:JC xs)(hf:f<12)(L:Bp kind=true)(hv:BZ w rv ss)(hs:Db ss):
 Ξ prog 148 #[v,iv,.int .i64 f,.int .i64 kind,rv] w λe O=>e=.returned (.bool (Iw m xs f kind ss))/\Γ w w O:=by
 have kt:2<=kind/\kind<=3:=by simp only[Bp,xL,decide_eq_true_eq] at L;omega
 have CE:=AA (λ(x:Int)(hx:x<=9223372036854775807) W (E:Γ w w W)=>VN iv rv xs f x kind ss W (BN.below hI E) hl jp (BN.below hv E) hs hx kt);have Hm:=AA hm;have lY:=AA (BG.1 ((Ak.1 hm).2 f hf)).1;have b7:=(Ak.1 hm).1;obtain⟨a,c,rfl,_,_,h1⟩:=h.open;obtain⟨_,_,rfl,_⟩:=hI.shape;obtain⟨_,_,rfl,_⟩:=hv.shape;have HH:=AA h1;have fn:(f:Int)<m.length:=ω;clear h hm hI hl jp L hv hs kt b7 h1;go_in;go_wp2_with fail;go_loopw [11] (λix wr=>∃k:Nat,k<=4/\ix=.int .i64 k/\(∀j,j<k->GI xs f kind ss (Aw m f j)=true)/\Γ w w wr) (λix _=>4 - (intOf ix).toNat)
 exact⟨0,yu _,rfl,λj hj=>absurd hj (xU _),yN _ _⟩
 obtain⟨k,L,rfl,au,J⟩:=hrel;have be:=AA au;clear au
 by_cases ar:k<4
 .have bX:(k:Int)<(4:Int):=ω
  obtain⟨b,a7,b2,cC,c2,rfl,bC,ho,mE,kI,W0⟩:=(HH.below J).row4 Hm hf;have D2:=W0 k ar;have C:=AA (CE (Aw m f k) (fN Hm hf ar) wr J);clear W0;cases hp:GI xs f kind ss (Aw m f k)
  .have S:=AA (show Iw m xs f kind ss=false from Jl (Yq Hm hf ar) hp)
   have Hp:=AA hp;clear hp;go_wp2_with (refine C.mono ?_;rintro e w2 ⟨rfl,b2⟩;rw[Hp.u]);go_ret;exact⟨AF S.symm,J.trans (b2.mono J.size)⟩
  have Hp:=AA hp
  clear hp;go_wp2_with fail;refine C.mono ?_;rintro e w2 ⟨rfl,b2⟩;rw[Hp.u];go_wp2;go_roundw;exact⟨k+1,ω,ξ,Am be Hp.u,J.trans (b2.mono J.size)⟩;simp[intOf];omega
 have ek:k=4:=ω;have au:=be.u;rw[ek] at au;have S:=AA (show Iw m xs f kind ss=true from Kd (f:=Aw m f) (λk L=>Yq Hm hf (by have:=lY.u;omega)) (λj hj=>au j (by have:=lY.u;omega)));clear be au;go_wp2;go_ret;exact⟨AF S.symm,J⟩
theorem YS{ZJ:List AW}{n:Int}(hj:j<fs.length):BP ZJ (fs.take (j+1)) n=(BP ZJ (fs.take j) n).set (Iu fs j) (JD n (JK (BP ZJ (fs.take j) n) (Iu fs j))):=by unfold BP;rw[DQ (Gn hj),tU];exact IQ
theorem G0{p:Nat->Bool}(L:k<n)(h:p k=false):(yL n).all p=false:=by rw[wZ];exact⟨k,yh.2 L,by rw[h];decide⟩
theorem Oc (x:Ag)(w:Ω):Ξ prog 143 #[.agg #[x.e,x.p,x.f,x.w]] w λe O=>e=.returned (.bool (Cc x))/\Γ w w O:=by
 obtain⟨N0,bp⟩:=Ec w (.cells #[x.e,x.p,x.f,x.w] 125);obtain⟨x0,x1,x2,_⟩:=AH N0;have hW:Cc x=(Bo x.e 0 2&&Bo x.p 0 15&&Bo x.f 0 11):=rfl;have HE:=AA hW;clear hW N0;go_in;go_wp2_with fail;generalize w.alloc _=W0 at*;refine(J7 _ _).mono ?_;rintro r w1 ⟨rfl,rfl⟩;cases H:Bo x.e 0 2
 .have S:=AA (show Cc x=false by rw[HE.u,H];rfl)
  clear H;go_wp2;go_ret;exact⟨AF S.symm,bp⟩
 rw[H] at HE
 clear H;go_wp2_with fail;refine(DF _ _ _ _).mono ?_;rintro r w1 ⟨rfl,rfl⟩;cases A:Bo x.p 0 15
 .have S:=AA (show Cc x=false by rw[HE.u,A];rfl)
  clear A;go_wp2;go_ret;exact⟨AF S.symm,bp⟩
 rw[A] at HE
 have S:=AA (show Cc x=Bo x.f 0 11 by rw[HE.u];simp);clear A;go_wp2_with (refine(Ed _ _).mono ?_;rintro r w1 ⟨rfl,rfl⟩);go_ret;exact⟨AF S.symm,bp⟩
theorem aO{c:List Ag}(L:k<c.length):DV c k=(Cc (AU c k)&&!decide (H5 c (AU c k).e (AU c k).p<(k:Int))):=by
 unfold DV
 congr 1
 congr 1
 have ii:BR (AU c k).e (AU c k).p (AU c k)=true:=by simp[BR]
 rw[wL,decide_eq_true_eq,List.any_eq_true];unfold H5;rw[if_pos (PY (Fp L) ii)];have fn:c.findIdx (BR (AU c k).e (AU c k).p)<c.length:=List.findIdx_lt_length.2 ⟨_,yw (Fp L),ii⟩;constructor
 .rintro⟨x,hx,hp⟩
  obtain⟨j,hj⟩:=xO hx;have mr:j<k:=by have:=(yD.1 hj).1;rw[yr] at this;omega
  rw[List.getElem?_take,if_pos mr] at hj;have:c.findIdx (BR (AU c k).e (AU c k).p)<=j:=by
   rcases uC j (c.findIdx (BR (AU c k).e (AU c k).p)) with h|h
   .have hn:=List.not_of_lt_findIdx h
    have e:c[j]' ω=x:=by have A:=yG (l:=c) (i:=j) ω;rw[A] at hj;exact yP hj
    rw[e] at hn;rw[hp] at hn;cases hn
   exact h
  omega
 intro h
 refine⟨c[c.findIdx (BR (AU c k).e (AU c k).p)],?_,List.findIdx_getElem⟩;rw[List.mem_take_iff_getElem];exact⟨_,ω,rfl⟩
theorem Jp (v:Φ)(c:List Ag)(w:Ω)(h:Ds w v c):Ξ prog 83 #[v] w λe O=>e=.returned (.bool (Bl c))/\Γ w w O:=by
 have HV:=AA h;obtain⟨a,cp,rfl,hc,bw,h1⟩:=BN.open Co ψ h;unfold maxLen at bw;have HH:=AA h1;clear h h1;go_in;go_wp2_with fail;go_loopw [3] (λix wr=>∃k:Nat,k<=c.length/\ix=.int .i64 k/\(∀j,j<k->DV c j=true)/\Γ w w wr) (λix _=>c.length - (intOf ix).toNat)
 exact⟨0,yu _,rfl,λj hj=>absurd hj (xU _),yN _ _⟩
 obtain⟨k,L,rfl,au,J⟩:=hrel;have be:=AA au;clear au
 by_cases ar:k<c.length
 .have bX:(k:Int)<(c.length:Int):=ω
  have m8:=AA (BN.below HV J);obtain⟨b,a7,rfl,iK,D0,D1,D2,D3⟩:=(HH.below J).zV ar;have bC:=yK _ _ D0;have SF:=aO ar;have je:=λW (E:Γ wr wr W)=>Oc (AU c k) W
  have CF:=AA (λW (E:Γ wr wr W)=>SG _ c (AU c k).e (AU c k).p W (BN.below m8 E));generalize H5 c (AU c k).e (AU c k).p=fd at SF CF;clear iK;cases H:Cc (AU c k)
  .rw[H] at je
   have CA:=AA je;rw[H] at SF;clear je H;have g5:DV c k=false:=by rw[SF];rfl
   clear SF;have S:=AA (show Bl c=false by unfold Bl;rw[G0 ar g5];rfl);go_wp2_with fail;refine Ac 21 35 [.v (.slice (some ⟨b,a7,none⟩) c.length cp),.i ((k:Int)),.p b (a7+k*4),.a #[.int .i64 ((AU c k).e),.int .i64 ((AU c k).p),.int .i64 ((AU c k).f),.bool (AU c k).w],.b false,.b true,.b true,.u,.u,.u,.u,.u,.u,.u,.u,.u,.u,.u,.u,.u,.u] (λ_ _ _=>True) ?_ ?_
   .intro i hi o D a wx z Z Y vs V
    match i,hi with
    |0,_|1,_|5,_|6,_=>exact sP D V z Z
    |2,_=>exact sI D V z Z (hr:=by clear Z z V;go_simp)
    |3,_=>exact sL D V z Z (hl:=Wn (bc Y bC D0) (bc Y bC D1) (bc Y bC D2) (bc Y bC D3))
    |4,_=>exact sD D V z Z (CA _ Y)
    |7,_|8,_|9,_|10,_|11,_|12,_|13,_|14,_|15,_|16,_|17,_|18,_|19,_|20,_=>exact sB D V Z
    |_+21,hq=>omega
   intro K wx hR Y
   have q6:(K 6)=.bool true:=Be hR 6;clear hR;simp only[Aj,Ae,yL,yI,yJ,yH,q6];simp;clear q6;have g6:=J.trans (Y.mono J.size);clear Y D0 D1 D2 D3;go_wp2;go_ret;exact⟨AF S.symm,g6⟩
  rw[H] at je
  have CA:=AA je;rw[H] at SF;clear je H
  by_cases A:fd<(k:Int)
  .have g5:DV c k=false:=by rw[SF];simp[A]
   clear SF;have S:=AA (show Bl c=false by unfold Bl;rw[G0 ar g5];rfl);go_wp2_with fail;refine Ac 21 35 [.v (.slice (some ⟨b,a7,none⟩) c.length cp),.i ((k:Int)),.p b (a7+k*4),.a #[.int .i64 ((AU c k).e),.int .i64 ((AU c k).p),.int .i64 ((AU c k).f),.bool (AU c k).w],.b true,.b false,.b false,.v (.slice (some ⟨b,a7,none⟩) c.length cp),.v (.slice (some ⟨b,a7,none⟩) c.length cp),.i ((k:Int)),.p b (a7+k*4),.p b (a7+k*4),.i ((AU c k).e),.v (.slice (some ⟨b,a7,none⟩) c.length cp),.i ((k:Int)),.p b (a7+k*4),.p b (a7+k*4+1),.i ((AU c k).p),.i fd,.i ((k:Int)),.b true] (λ_ _ _=>True) ?_ ?_
   .intro i hi o D a wx z Z Y vs V
    have c7:=bc Y bC D0;have c6:=bc Y bC D1;have fc:=bc Y bC D2;have hV:=bc Y bC D3
    match i,hi with
    |0,_|1,_|5,_|6,_|7,_|8,_|9,_|11,_|13,_|14,_|16,_|19,_=>exact sP D V z Z
    |2,_|10,_|15,_=>exact sI D V z Z (hr:=by clear Z z V;go_simp)
    |3,_=>exact sL D V z Z (hl:=Wn ‹_› ‹_› ‹_› ‹_›)
    |4,_=>exact sD D V z Z (CA _ Y)
    |12,_|17,_=>exact sL D V z Z (hl:=F7 ‹_›)
    |18,_=>exact sD D V z Z (CF _ Y)
    |20,_=>clear c7 c6 fc hV;obtain rfl:=yP D;have kX:(a.tmps[28]?.getD Θ)=.int .i64 fd:=Bd Z 18;have iQ:(a.tmps[29]?.getD Θ)=.int .i64 k:=Bd Z 19;have d6:(a.tmps[16]?.getD Θ)=.bool false:=Bd Z 6;clear Z z;refine AT.yes rfl rfl d6 ?_;go_simp;exact V _ _ rfl (yN _ _)
    |_+21,hq=>omega
   intro K wx hR Y
   have q6:(K 6)=.bool false:=Be hR 6;have gO:(K 20)=.bool true:=Be hR 20;clear hR;simp only[Aj,Ae,yL,yI,yJ,yH,q6,gO];simp;clear q6 gO;have g6:=J.trans (Y.mono J.size);clear Y D0 D1 D2 D3;go_wp2;go_ret;exact⟨AF S.symm,g6⟩
  have aq:DV c k=true:=by rw[SF];simp[A]
  clear SF;have S:=AA (aq);go_wp2_with fail;refine Ac 21 35 [.v (.slice (some ⟨b,a7,none⟩) c.length cp),.i ((k:Int)),.p b (a7+k*4),.a #[.int .i64 ((AU c k).e),.int .i64 ((AU c k).p),.int .i64 ((AU c k).f),.bool (AU c k).w],.b true,.b false,.b false,.v (.slice (some ⟨b,a7,none⟩) c.length cp),.v (.slice (some ⟨b,a7,none⟩) c.length cp),.i ((k:Int)),.p b (a7+k*4),.p b (a7+k*4),.i ((AU c k).e),.v (.slice (some ⟨b,a7,none⟩) c.length cp),.i ((k:Int)),.p b (a7+k*4),.p b (a7+k*4+1),.i ((AU c k).p),.i fd,.i ((k:Int)),.b false] (λ_ _ _=>True) ?_ ?_
  .intro i hi o D a wx z Z Y vs V
   have c7:=bc Y bC D0;have c6:=bc Y bC D1;have fc:=bc Y bC D2;have hV:=bc Y bC D3
   match i,hi with
   |0,_|1,_|5,_|6,_|7,_|8,_|9,_|11,_|13,_|14,_|16,_|19,_=>exact sP D V z Z
   |2,_|10,_|15,_=>exact sI D V z Z (hr:=by clear Z z V;go_simp)
   |3,_=>exact sL D V z Z (hl:=Wn ‹_› ‹_› ‹_› ‹_›)
   |4,_=>exact sD D V z Z (CA _ Y)
   |12,_|17,_=>exact sL D V z Z (hl:=F7 ‹_›)
   |18,_=>exact sD D V z Z (CF _ Y)
   |20,_=>clear c7 c6 fc hV;obtain rfl:=yP D;have kX:(a.tmps[28]?.getD Θ)=.int .i64 fd:=Bd Z 18;have iQ:(a.tmps[29]?.getD Θ)=.int .i64 k:=Bd Z 19;have d6:(a.tmps[16]?.getD Θ)=.bool false:=Bd Z 6;clear Z z;refine AT.yes rfl rfl d6 ?_;go_simp;exact V _ _ (congrArg Value.bool (decide_eq_false ω)) (yN _ _)
   |_+21,hq=>omega
  intro K wx hR Y
  have q6:(K 6)=.bool false:=Be hR 6;have gO:(K 20)=.bool false:=Be hR 20;clear hR;simp only[Aj,Ae,yL,yI,yJ,yH,q6,gO];simp;clear q6 gO;have g6:=J.trans (Y.mono J.size);clear Y D0 D1 D2 D3;go_wp2;go_roundw;exact⟨k+1,ω,ξ,Am be S.u,g6⟩;simp[intOf];omega
 have ek:k=c.length:=ω;have au:=be.u;rw[ek] at au;have S:=AA (show Bl c=decide ((c.length:Int)<=4) by
  unfold Bl;have:(yL c.length).all (DV c)=true:=ym.2 λj hj=>au j (yh.1 hj)
  rw[this,Bool.true_and]
  by_cases h:c.length<=4
  .rw[decide_eq_true h,decide_eq_true (ω:(c.length:Int)<=4)]
  rw[decide_eq_false h,decide_eq_false (ω:¬(c.length:Int)<=4)])
 clear be au;go_wp2;go_ret;exact⟨AF S.symm,J⟩
theorem NV (m i e c:Φ)(k:AQ)(w:Ω)(h:Bn w m k.mem)(hm:CJ k.mem=true)(hI:Bh w i k.ZJ)(bE:BJ k.ZJ=true):
 Ξ prog 85 #[.agg #[m,i,e,c]] w λr O=>r=.returned (.bool ((yL 12).all (EH k)))/\Γ w w O:=by
 obtain⟨N0,bp⟩:=Ec w (.cells #[m,i,e,c] 28);replace h:=h.below bp;replace hI:=BN.below hI bp;obtain⟨am,cm,rfl,_⟩:=h.open;obtain⟨ai,ci,rfl,_,_,l7⟩:=BN.open Az ψ hI;have lB:=(A4.1 bE).1;have jp:=Cg bE;generalize eD:k.mem.length=nm at*;have Hl:=AA lB;have oe:=AA eD;clear lB eD;go_in;go_wp2_with fail;generalize w.alloc _=W0 at*;have HN:=AA N0;have HH:=AA l7;have HR:=AA h;have HI:=AA hI;have Hm:=AA hm;have Hs:=AA jp;have mp:=AY N0;clear h hI hm bE jp N0 l7;go_loopw [3] (λix wr=>∃f:Nat,f<=12/\ix=.int .i64 f/\(∀j,j<f->EH k j=true)/\Γ W0 W0 wr) (λix _=>12 - (intOf ix).toNat)
 exact⟨0,yu _,rfl,λj hj=>absurd hj (xU _),yN _ _⟩
 obtain⟨f,hf,rfl,au,J⟩:=hrel;have be:=AA au;clear au
 by_cases ar:f<12
 .have bX:(f:Int)<12:=ω
  have fn:(f:Int)<k.ZJ.length:=by have:=Hl.u;omega
  obtain⟨x0,x1,_,_⟩:=AH (AB HN J);have io:w.heap.size<wr.heap.size:=yt mp J.size;obtain⟨bi,a8,rfl,kM,D0,_,_⟩:=(HH.below J).zZ (show f<k.ZJ.length by have:=Hl.u;omega);have bB:=yK _ _ D0;have iW:=λW (E:Γ wr wr W)=>A7 (GQ (JK k.ZJ f).k W)
  have TO:EH k f=(!Bp (JK k.ZJ f).k||Iw k.mem k.ZJ f (JK k.ZJ f).k [⟨#[]⟩]):=rfl;clear kM;cases H:Bp (JK k.ZJ f).k
  .rw[H] at iW TO
   have CT:=AA iW;have aq:EH k f=true:=by rw[TO];rfl
   clear iW TO H;have S:=AA (aq);go_wp2_with fail;refine Ac 21 31 [.p w.heap.size 1,.v (.slice (some ⟨bi,a8,none⟩) k.ZJ.length ci),.i ((f:Int)),.p bi (a8+f*3),.p bi (a8+f*3),.i ((JK k.ZJ f).k),.b false,.b false,.u,.u,.u,.u,.u,.u,.u,.u,.u,.u,.u,.u,.u] (λ_ _ _=>True) ?_ ?_
   .intro i hi o D a wx z Z Y vs V
    match i,hi with
    |0,_|2,_|4,_|7,_=>exact sP D V z Z
    |1,_=>exact sL D V z Z (hl:=Gi (bc Y io x1))
    |3,_=>exact sI D V z Z (hr:=by clear Z z V;go_simp)
    |5,_=>exact sL D V z Z (hl:=F7 (bc Y bB D0))
    |6,_=>exact sD D V z Z (CT _ Y)
    |8,_|9,_|10,_|11,_|12,_|13,_|14,_|15,_|16,_|17,_|18,_|19,_|20,_=>exact sB D V Z
    |_+21,hq=>omega
   intro K wx hR Y
   have q7:(K 7)=.bool false:=Be hR 7;clear hR;simp only[Aj,Ae,yL,yI,yJ,yH,q7];simp;clear q7;have g6:=J.trans (Y.mono J.size);clear Y D0 x0 x1;go_wp2;go_roundw;exact⟨f+1,ω,ξ,Am be S.u,g6⟩;simp[intOf];omega
  have jd:=λW (E:Γ wr wr W) v2 (A:BZ W v2 [⟨#[]⟩])=>UQ _ _ v2 k.mem k.ZJ f (JK k.ZJ f).k [⟨#[]⟩] W ((HR.below J).below E) Hm (BN.below (BN.below HI J) E) Hl Hs ar H A (λs hs=>by rw[xy] at hs;subst hs;exact yu _)
  rw[H] at iW TO;have CT:=AA iW;cases A:Iw k.mem k.ZJ f (JK k.ZJ f).k [⟨#[]⟩]
  .rw[A] at jd TO
   have CG:=AA jd;have g5:EH k f=false:=by rw[TO];rfl
   clear iW TO H A jd;have S:=AA (show(yL 12).all (EH k)=false from G0 ar g5);go_wp2_with fail;refine BD 21 31 [.p w.heap.size 1,.v (.slice (some ⟨bi,a8,none⟩) k.ZJ.length ci),.i ((f:Int)),.p bi (a8+f*3),.p bi (a8+f*3),.i ((JK k.ZJ f).k),.b true,.b true,.p w.heap.size 0,.v (.slice am nm cm),.p w.heap.size 1,.v (.slice (some ⟨bi,a8,none⟩) k.ZJ.length ci),.i ((f:Int)),.p w.heap.size 1,.v (.slice (some ⟨bi,a8,none⟩) k.ZJ.length ci),.i ((f:Int)),.p bi (a8+f*3),.p bi (a8+f*3),.i ((JK k.ZJ f).k),.z,.b false] (λix vv ww=>match ix with
    |19=>BZ ww vv [⟨#[]⟩]
    |_=>True) ?_ ?_ ?_
   .intro i hi o D a wx z Z Y vs V
    have c7:=bc Y io x1;have c6:=bc Y bB D0;have fc:=bc Y io x0
    match i,hi with
    |0,_|2,_|4,_|7,_|8,_|10,_|12,_|13,_|15,_|17,_=>exact sP D V z Z
    |1,_|11,_|14,_=>exact sL D V z Z (hl:=Gi ‹_›)
    |3,_|16,_=>exact sI D V z Z (hr:=by clear Z z V;go_simp)
    |5,_|18,_=>exact sL D V z Z (hl:=F7 ‹_›)
    |6,_=>exact sD D V z Z (CT _ Y)
    |9,_=>exact sL D V z Z (hl:=GR ‹_›)
    |19,_=>clear c7 c6 fc;obtain rfl:=yP D;have d7:(a.tmps[15]?.getD Θ)=.bool true:=Bd Z 7;clear Z z;refine AT.yes rfl rfl d7 ?_;go_simp;exact V _ _ (Rd.news _ #[.string ⟨#[]⟩] _ 1 1 rfl ζ) (AG _ _)
    |20,_=>clear c7 c6 fc;obtain rfl:=yP D;have d9:(a.tmps[17]?.getD Θ)=.slice am nm cm:=Bd Z 9;have iR:(a.tmps[19]?.getD Θ)=.slice (some ⟨bi,a8,none⟩) k.ZJ.length ci:=Bd Z 11;have jH:(a.tmps[20]?.getD Θ)=.int .i64 f:=Bd Z 12;have kX:(a.tmps[26]?.getD Θ)=.int .i64 ((JK k.ZJ f).k):=Bd Z 18;have iQ:BZ wx (a.tmps[27]?.getD Θ) [⟨#[]⟩]:=Bd Z 19;have d7:(a.tmps[15]?.getD Θ)=.bool true:=Bd Z 7;clear Z z;generalize e27:a.tmps[27]?.getD Θ=v2 at iQ;have lk:=CG wx Y v2 iQ;refine AT.yes rfl rfl d7 ?_;go_simp;refine lk.mono ?_;rintro e w_ ⟨rfl,al⟩;exact V _ _ rfl al
    |_+21,hq=>omega
   .intro i hi vv wz gM cF hz
    match i,hi with
    |19,_=>exact(BN.below hz cF)
    |0,_|1,_|2,_|3,_|4,_|5,_|6,_|7,_|8,_|9,_|10,_|11,_|12,_|13,_|14,_|15,_|16,_|17,_|18,_|20,_=>exact hz
    |_+21,hq=>omega
   intro K wx hR Y
   have q7:(K 7)=.bool true:=Be hR 7;have gO:(K 20)=.bool false:=Be hR 20;clear hR;simp only[Aj,Ae,yL,yI,yJ,yH,q7,gO];simp;clear q7 gO;have g6:=J.trans (Y.mono J.size);clear Y D0 x0 x1;go_wp2;go_ret;exact⟨AF S.symm,bp.trans (g6.mono bp.size)⟩
  rw[A] at jd TO
  have CG:=AA jd;have aq:EH k f=true:=by rw[TO];rfl
  clear iW TO H A jd;have S:=AA (aq);go_wp2_with fail;refine BD 21 31 [.p w.heap.size 1,.v (.slice (some ⟨bi,a8,none⟩) k.ZJ.length ci),.i ((f:Int)),.p bi (a8+f*3),.p bi (a8+f*3),.i ((JK k.ZJ f).k),.b true,.b true,.p w.heap.size 0,.v (.slice am nm cm),.p w.heap.size 1,.v (.slice (some ⟨bi,a8,none⟩) k.ZJ.length ci),.i ((f:Int)),.p w.heap.size 1,.v (.slice (some ⟨bi,a8,none⟩) k.ZJ.length ci),.i ((f:Int)),.p bi (a8+f*3),.p bi (a8+f*3),.i ((JK k.ZJ f).k),.z,.b true] (λix vv ww=>match ix with
   |19=>BZ ww vv [⟨#[]⟩]
   |_=>True) ?_ ?_ ?_
  .intro i hi o D a wx z Z Y vs V
   have c7:=bc Y io x1;have c6:=bc Y bB D0;have fc:=bc Y io x0
   match i,hi with
   |0,_|2,_|4,_|7,_|8,_|10,_|12,_|13,_|15,_|17,_=>exact sP D V z Z
   |1,_|11,_|14,_=>exact sL D V z Z (hl:=Gi ‹_›)
   |3,_|16,_=>exact sI D V z Z (hr:=by clear Z z V;go_simp)
   |5,_|18,_=>exact sL D V z Z (hl:=F7 ‹_›)
   |6,_=>exact sD D V z Z (CT _ Y)
   |9,_=>exact sL D V z Z (hl:=GR ‹_›)
   |19,_=>clear c7 c6 fc;obtain rfl:=yP D;have d7:(a.tmps[15]?.getD Θ)=.bool true:=Bd Z 7;clear Z z;refine AT.yes rfl rfl d7 ?_;go_simp;exact V _ _ (Rd.news _ #[.string ⟨#[]⟩] _ 1 1 rfl ζ) (AG _ _)
   |20,_=>clear c7 c6 fc;obtain rfl:=yP D;have d9:(a.tmps[17]?.getD Θ)=.slice am nm cm:=Bd Z 9;have iR:(a.tmps[19]?.getD Θ)=.slice (some ⟨bi,a8,none⟩) k.ZJ.length ci:=Bd Z 11;have jH:(a.tmps[20]?.getD Θ)=.int .i64 f:=Bd Z 12;have kX:(a.tmps[26]?.getD Θ)=.int .i64 ((JK k.ZJ f).k):=Bd Z 18;have iQ:BZ wx (a.tmps[27]?.getD Θ) [⟨#[]⟩]:=Bd Z 19;have d7:(a.tmps[15]?.getD Θ)=.bool true:=Bd Z 7;clear Z z;generalize e27:a.tmps[27]?.getD Θ=v2 at iQ;have lk:=CG wx Y v2 iQ;refine AT.yes rfl rfl d7 ?_;go_simp;refine lk.mono ?_;rintro e w_ ⟨rfl,al⟩;exact V _ _ rfl al
   |_+21,hq=>omega
  .intro i hi vv wz gM cF hz
   match i,hi with
   |19,_=>exact(BN.below hz cF)
   |0,_|1,_|2,_|3,_|4,_|5,_|6,_|7,_|8,_|9,_|10,_|11,_|12,_|13,_|14,_|15,_|16,_|17,_|18,_|20,_=>exact hz
   |_+21,hq=>omega
  intro K wx hR Y
  have q7:(K 7)=.bool true:=Be hR 7;have gO:(K 20)=.bool true:=Be hR 20;clear hR;simp only[Aj,Ae,yL,yI,yJ,yH,q7,gO];simp;clear q7 gO;have g6:=J.trans (Y.mono J.size);clear Y D0 x0 x1;go_wp2;go_roundw;exact⟨f+1,ω,ξ,Am be S.u,g6⟩;simp[intOf];omega
 have ek:f=12:=ω;have au:=be.u;rw[ek] at au;have S:=AA (show(yL 12).all (EH k)=true from ym.2 λj hj=>au j (yh.1 hj));clear be au;go_wp2;go_ret;exact⟨AF S.symm,bp.trans (J.mono bp.size)⟩
def dd(m:List (List Int))(ZJ:List AW)(t i g:Nat):Nat:=
 ((yL t).map λu=>if Bp (JK ZJ u).k then(named (AJ m u)).count g else 0).sum+((named (AJ m t)).take i).count g
def Xi(m:List (List Int))(ZJ:List AW)(t i:Nat):List Int:=(yL 12).map λg=>(dd m ZJ t i g:Int)
section
variable {m:List (List Int)} {ZJ:List AW} {t i g:Nat}
theorem OS:(Xi m ZJ t i).length=12:=by simp[Xi]
theorem VB(h:g<12):nth (Xi m ZJ t i) g=dd m ZJ t i g:=by unfold Xi nth;rw[yd,xq,ur h];rfl
theorem bN:Xi m ZJ t 0=IJ m ZJ t 0:=by simp[Xi,dd,IJ,JV,named]
theorem bM(hi:i<(named (AJ m t)).length):Xi m ZJ t (i+1)=(Xi m ZJ t i).set (Iu (named (AJ m t)) i) (dd m ZJ t i (Iu (named (AJ m t)) i)+1):=by
 have hf:Iu (named (AJ m t)) i<12:=F9 (yw (Gn hi));refine Mp (by simp[Xi]) λg N=>?_
 rw[OS] at N;rw[VY (by rw[OS];exact hf),VB N,VB N];unfold dd;rw[DQ (Gn hi),sq]
 by_cases e:g=Iu (named (AJ m t)) i
 .subst e;simp;omega
 rw[if_neg e,sY]
 have:(Iu (named (AJ m t)) i==g)=false:=by simp;exact λh=>e h.symm
 rw[this];simp
theorem dc(L:Bp (JK ZJ t).k=true):Xi m ZJ t (named (AJ m t)).length=IJ m ZJ (t+1) 0:=by unfold Xi dd IJ JV;rw[xj (n:=t),xD];simp[L,named]
theorem eo(hm:CJ m=true)(ht:t<=12):dd m ZJ t i g<=100:=by
 have H:=Ri (ZJ:=ZJ) (g:=g) (j:=0) hm ht ω;have A:((named (AJ m t)).take i).count g<=4:=by
  have h3:=vX (a:=g) (l:=(named (AJ m t)).take i);have h4:=Fi (r:=AJ m t);rw[yr] at h3;have h5:(AJ m t).length<=4:=by
   rcases uC t 12 with h|h
   .exact ve (BG.1 ((Ak.1 hm).2 t h)).1
   have:AJ m t=[]:=by unfold AJ;rw[yd,uK (by have:=(Ak.1 hm).1;omega)];rfl
   rw[this];simp
  omega
 unfold JV at H;unfold dd;simp[named] at H;have:((yL t).map λu=>if Bp (JK ZJ u).k then(named (AJ m u)).count g else 0).sum<=4*t:=by
  clear H A
  induction t with
  |zero=>simp
  |succ t ih=>
   have:=ih ω;rw[xj,xM,wW];have A:(if Bp (JK ZJ t).k then(named (AJ m t)).count g else 0)<=4:=by
    split
    .have h3:=vX (a:=g) (l:=named (AJ m t))
     have h4:=Fi (r:=AJ m t);have h5:=(BG.1 ((Ak.1 hm).2 t ω)).1;omega
    omega
   simp only[List.map_cons,List.map_nil,List.sum_cons,List.sum_nil];omega
 omega
end
theorem VM (v iv:Φ)(m:List (List Int))(ZJ:List AW)(w:Ω)(h:Bn w v m)(aq:CJ m=true)(hI:Bh w iv ZJ)(hl:ZJ.length=12):
 Ξ prog 149 #[v,iv] w λe O=>∃v',e=.returned v'/\AE w O v' ((yL 12).map λg=>(countP m ZJ g:Int))/\Γ w w O:=by
 obtain⟨q,c,rfl,hc,bw,H0⟩:=h.open;obtain⟨a2,c2,rfl,gz,f8,H2⟩:=BN.open Az ψ hI;have b7:=(Ak.1 aq).1;unfold maxLen at bw f8;rw[b7] at hc ⊢;rw[hl] at gz ⊢;have cP:=AA aq;have HR:=AA H0;have HI:=AA H2;have Hl:=AA hl;clear h aq H0 H2 b7 hI hl;go_in;go_wp2_with (at_make;go_must (refine Qv (n:=12) rfl rfl 3 (.int .i64 0) 8 underlying29 Tryz.zS rfl rfl ω μ ?_;intro w1 a5 ad gb));have jG:AE w w1 (.slice w 12 12) (IJ m ZJ 0 0):=by unfold AE;rw[KM,UH];exact a5
 have ei:w.heap.size<=w.heap.size:=yF _;have jQ:=AA ad;clear a5 ad;go_loopw [6,7,8] (λi s7 s8 wr=>∃t:Nat,t<=12/\i=.int .i64 t/\AE w wr (.slice w 12 12) (IJ m ZJ t 0)/\Γ w w wr) (λi _ _ _=>12 - (intOf i).toNat)
 exact⟨0,yu _,rfl,jG,jQ.u⟩
 obtain⟨t,ht,rfl,R,ad⟩:=hrel;clear jG
 by_cases ar:t<12
 .have bX:(t:Int)<12:=ω
  obtain⟨bm,dg,u,rfl,g0,M0,hr⟩:=HR t (by rw[(Ak.1 cP.u).1];exact ar);have M:=(ad.cell (p:=⟨bm,dg+t,none⟩) g0).trans M0;have fk:=(BG.1 ((Ak.1 cP.u).2 _ ar)).1;have CN:=Jb _ (AJ m t) wr (A3.below hr ad) ω (Mg cP ar);have HO:=AA R;have z:=AA ad;have iD:=(yE HO w rfl).2;obtain⟨wo,rfl⟩:∃wo:Ω,wo=wr:=⟨_,rfl⟩
  clear M0 hr R;go_wp2_with fail;refine CN.mono ?_;rintro e w2 ⟨v2,rfl,O2,b2⟩;have al:=z.trans (b2.mono z.size);have f6:=SU cP ar;obtain⟨an,jI,rfl,kG,mC,HN⟩:=O2.rd.open;rw[Cu] at kG ⊢;have jP:=AA (AE.below HO b2);have ON:=AA O2;clear CN O2 ad M;cases L:Bp (JK ZJ t).k
  .have S:=AA (UG (m:=m) L)
   have V:=AA L;obtain⟨bi,a8,rfl,bB,D0,_,_⟩:=(HI.below al).zZ (show t<ZJ.length by rw[Hl.u];exact ar);clear L;go_wp2_with fail;go_loopw [8] (λs8 wi=>s8=.int .i64 0/\w2=wi) (λ_ _=>0)
   exact⟨rfl,rfl⟩
   obtain⟨rfl,rfl⟩:=hrel
   by_cases h0:0<(named (AJ m t)).length
   focus
    have mM:(0:Int)<(named (AJ m t)).length:=ω;go_wp2_with (go_at_call 147;refine(GQ _ _).mono ?_;rintro e O ⟨rfl,rfl⟩;rw[V.u])
   rotate_left
   focus
    have mM:¬(0:Int)<(named (AJ m t)).length:=ω;go_wp2_with fail
   rotate_left
   all_goals
    go_roundw;exact⟨t+1,ω,ξ,by rw[<-S.u];exact jP.u,al⟩;simp[intOf];omega
  have S:=AA (dc (m:=m) L)
  have V:=AA L;have oi:=AA HN;have nb:dv (AE w w2 (.slice w 12 12) (Xi m ZJ t 0)):=AA (by rw[bN];exact jP.u);have li:=AA al;generalize jV:(named (AJ m t)).length=nl at*;have jL:=AA jV;clear L al jP HO HN jV;go_wp2_with fail;go_loopw [8] (λs8 wi=>∃j:Nat,j<=nl/\s8=.int .i64 j/\AE w wi (.slice w 12 12) (Xi m ZJ t j)/\AE wo wi (.slice an nl jI) (A8 (named (AJ m t)))/\Γ w w wi) (λs8 _=>nl - (intOf s8).toNat)
  exact⟨0,yu _,rfl,nb.u,by have:=ON.u;rwa [Cu,jL.u] at this,li.u⟩
  obtain⟨j,hj,rfl,gs,j1,bB⟩:=hrel;obtain⟨bi,a8,rfl,mF,D0,_,_⟩:=(HI.below bB).zZ (show t<ZJ.length by rw[Hl.u];exact ar)
  by_cases ft:j<nl
  .have mq:(j:Int)<(nl:Int):=ω
   obtain⟨bn,gj,e1,DN⟩:=(show Jh wr an (A8 (named (AJ m t))) from by obtain⟨x1,x2,ex,_,_,hx⟩:=j1.rd.open;rw[Cu,jL.u] at ex;simp only[xQ] at ex;obtain⟨rfl,_,rfl⟩:=ex;exact hx).at (k:=j) (by rw[Cu,jL.u];exact ft)
   subst e1;rw[Qo] at DN;have hW:=AA (bM (ZJ:=ZJ) (show j<(named (AJ m t)).length by rw[jL.u];exact ft));have hF:Iu (named (AJ m t)) j<12:=F9 (yw (Gn (by rw[jL.u];exact ft)));have hE:=eo (ZJ:=ZJ) (i:=j) (g:=Iu (named (AJ m t)) j) cP (Nat.le_of_lt ar);have fb:wr.ownsRow w.heap.size 3 1 (.slice w 12 12) 12 ((Xi m ZJ t j).map (yl .i64)):=by have:=gs;unfold AE at this;rwa [OS] at this
   have DC:=(fb.cellAt (Iu (named (AJ m t)) j) ω).trans (GP (xs:=Xi m ZJ t j) (by rw[OS];exact hF));rw[VB hF] at DC;have kv:∀b,(xv (some ⟨bn,gj,none⟩) nl jI).ownBlock=some b->b≠w.heap.size:=λb J=>by have:=(yE j1 b J).1;omega
   have jO:=AA fb;have nf:=AA j1;generalize Iu (named (AJ m t)) j=fr at*;generalize dd m ZJ t j fr=cn at*;have mz:(fr:Int)<12:=ω;have gK:=yK _ _ DN;have lC:=yK _ _ DC;obtain⟨nc,hnc⟩:∃nc:Int,(cn:Int)+1=nc:=⟨_,rfl⟩
   have lZ:=AA hnc;have l2:=AA bB;clear fb gs j1 hnc bB;go_wp2_with (go_at_call 147;refine(GQ _ _).mono ?_;rintro e O ⟨rfl,rfl⟩;rw[V.u]);refine Ac 13 48 [.s w.heap.size 12 12,.v (.slice (some ⟨bn,gj,none⟩) nl jI),.i ((j:Int)),.p bn (gj+j),.i ((fr:Int)),.s w.heap.size 12 12,.v (.slice (some ⟨bn,gj,none⟩) nl jI),.i ((j:Int)),.p bn (gj+j),.i ((fr:Int)),.p w.heap.size fr,.i ((cn:Int)),.i nc] (λ_ _ _=>True) ?_ ?_
   .intro i hi o D a wx z Z Y vs V
    have c7:=bc Y gK DN;have c6:=bc Y lC DC
    match i,hi with
    |0,_|1,_|2,_|5,_|6,_|7,_=>exact sP D V z Z
    |3,_|8,_|10,_=>exact sI D V z Z (hr:=by clear Z z V;go_simp)
    |4,_|9,_|11,_=>exact sL D V z Z (hl:=F7 ‹_›)
    |12,_=>clear c7 c6;obtain rfl:=yP D;have iR:(a.tmps[44]?.getD Θ)=.int .i64 cn:=Bd Z 11;clear Z z;refine yO ?_;go_simp;exact V _ _ (by show yl .i64 (IntKind.i64.wrap ((cn:Int)+1))=.int .i64 nc;rw[IntWalk.i64_in _ ω,lZ.u]) (yN _ _)
   intro K wx hR Y
   have q0:(K 0)=.slice w 12 12:=Be hR 0;have q4:(K 4)=.int .i64 fr:=Be hR 4;have gQ:(K 12)=.int .i64 nc:=Be hR 12;clear hR;simp only[Aj,Ae,yL,yI,yJ,yH,q0,q4,gQ];simp;clear q0 q4 gQ;have O3:=BC jO Y;have Fr:=O3.frozenAt fr;have C2:=(Y.cell (p:=⟨w,fr,none⟩) lC).trans DC;have S2:=AA (O3.stored fr (.int .i64 nc));have l5:=AE.below nf Y;have lh:=AA (Av l5 (At wx w fr (.int .i64 nc)) (by
    rcases hv:(xv (some ⟨bn,gj,none⟩) nl jI).ownBlock with _|b
    .exact .inl rfl
    exact .inr λe=>kv b hv (yP e)))
   have l8:=AA (l2.trans (Y.mono l2.size));clear D0 DN DC Y O3 l5;go_wp2;go_roundw
   case rel=>refine⟨j+1,ω,ξ,?_,lh.u,AM l8 S2.2 ei l8.size⟩;rw[hW.u,lZ.u];unfold AE;rw[yi,OS,uT];exact S2.1
   case measure=>simp[intOf];omega
  obtain rfl:j=nl:=ω;go_wp2;go_roundw;exact⟨t+1,ω,ξ,by rw[<-S.u];exact gs,bB⟩;simp[intOf];omega
 obtain rfl:t=12:=ω;rw[WG] at R;go_wp2;go_ret;exact⟨_,rfl,R,ad⟩
theorem Rw (v iv:Φ)(m:List (List Int))(xs:List AW)(f:Nat)(n:Int)(w:Ω)(h:Bn w v m)(hm:CJ m=true)(hI:Bh w iv xs)(bE:BJ xs=true)(hf:f<12)(hn:n=1∨n= -1):
 Ξ prog 284 #[v,iv,.int .i64 f,.int .i64 n] w λe O=>∃v',e=.returned v'/\AP w.heap.size 115 3 Au O v' (BP xs (named (AJ m f)) n)/\Γ w w O:=by
 have Hl:=AA (A4.1 bE).1;have b7:=(Ak.1 hm).1;have HR:=AA (λW (E:Γ w w W)=>BN.below hI E);have la:=AA (λW (E:Γ w w W)=>h.below E);have fk:=(BG.1 ((Ak.1 hm).2 f hf)).1;have CN:=AA (λu W hu=>Jb u (AJ m f) W hu ω (Mg hm hf));have h4:=SU hm hf;have nw:=AA (λg (N:g∈named (AJ m f))=>F9 N);have ld:=AA bE;have Hn:=AA hn;have mm: -1<=n/\n<=1:=ω;obtain⟨am,cm,rfl,_,_,_⟩:=h.open;obtain⟨ai,ci,rfl,_,_⟩:=hI.shape;have nS:(f:Int)<m.length:=ω;have fn:f<m.length:=ω;generalize named (AJ m f)=fs at*;clear h hm hI bE hn fk b7;go_in;go_wp2_with (at_builtin;go_must (refine GG (cs:=Au) rfl rfl 115 (.agg #[θ,ϑ,θ]) 3 32 underlying24 Tryz.zO rfl ψ rfl (Cn Au _ _ _) rfl (HR _ (AG _ _)) (Fx _) (by have:=Hl.u;omega) ψ χ ?_;intro v' w9 R ca));have bx:=(AG w _).trans ca;obtain⟨q,a6,rfl,c1,c2,q1,q2,bY⟩:=R.zW (by have:=Hl.u;omega);unfold maxLen at c2;have HO:=AA R;have c5:=AA bx;obtain⟨a9,c9,e9,_,_,H9⟩:=(la _ bx).open;simp only[xQ] at e9;obtain⟨rfl,_,rfl⟩:=e9;obtain⟨b,a7,u,rfl,bC,ho,hR⟩:=H9 f fn;have C:=AA (CN u w9 hR);obtain⟨_,_,rfl,_⟩:=hR.open;have js:¬(f:Int)<0:=ω;clear R ca bx H9 hR CN bY;go_wp2_with fail;refine C.mono ?_;rintro e w1 ⟨v1,rfl,o1,b1⟩;obtain⟨a1,k5,rfl,lJ⟩:=FM o1;have nd:=AA (HO.below b1);have m2:=AA o1;have mX:=AA (c5.trans (b1.mono c5.size));clear o1 b1 C ho;go_wp2_with fail;go_loopw [11] (λix wr=>∃k:Nat,k<=fs.length/\ix=.int .i64 k/\AP w.heap.size 115 3 Au wr (.slice q xs.length a6) (BP xs (fs.take k) n)/\AE w9 wr (.slice a1 fs.length k5) (A8 fs)/\Γ w w wr) (λix _=>fs.length - (intOf ix).toNat)
 exact⟨0,yu _,rfl,by simpa[BP] using nd.u,m2.u,mX.u⟩
 obtain⟨k,L,rfl,R,o1,J⟩:=hrel
 by_cases ar:k<fs.length
 .have bX:(k:Int)<(fs.length:Int):=ω
  obtain⟨a2,oc,e2,_,_,H1⟩:=(AE.rd o1).open;simp only[xQ] at e2;obtain⟨rfl,e2,rfl⟩:=e2;clear e2;obtain⟨b1,gR,rfl,ho⟩:=H1.at (k:=k) (by rw[Cu];exact ar);rw[Qo] at ho;have kp:=(yE o1 b1 rfl).2;have D:=nw _ (yw (Gn ar));have RN:=YS (ZJ:=xs) (n:=n) ar;obtain⟨r1,r2,_⟩:=Kj ld (fs:=fs.take k) (by rw[yr];omega) Hn D;have jW:(BP xs (fs.take k) n).length=xs.length:=KB;rw[<-jW] at R;generalize BP xs (fs.take k) n=X at*;generalize Iu fs k=o at*;have i2:o<X.length:=by rw[jW,Hl.u];exact D
  have lw:(o:Int)<xs.length:=by rw[Hl.u];omega
  have ml:¬(o:Int)<0:=ω;obtain⟨_,_,d2⟩:=AP.zZ R i2;have hq:=(yE R q rfl).2;have ka:=AA R;have mZ:=AA (Cj i2);have m5:=AA jW;have lc:=AA o1;have hW:=AA RN;have z:=AA J;clear RN R o1 J H1 jW i2;go_wp2_with fail;refine Ac 17 44 [.s q xs.length a6,.v (.slice (some ⟨b1,gR,none⟩) fs.length k5),.i ((k:Int)),.p b1 (gR+k),.i ((o:Int)),.s q xs.length a6,.v (.slice (some ⟨b1,gR,none⟩) fs.length k5),.i ((k:Int)),.p b1 (gR+k),.i ((o:Int)),.p q (o*3),.p q (o*3+2),.i ((JK X o).r),.i n,.i ((JK X o).r+n),.p q (o*3),.p q (o*3+2)] (λ_ _ _=>True) ?_ ?_
  .intro i hi o D a wx z Z Y vs V
   have c7:=bc Y kp ho;have c6:=bc Y hq d2
   match i,hi with
   |0,_|1,_|2,_|5,_|6,_|7,_|11,_|13,_|16,_=>exact sP D V z Z
   |3,_|8,_|10,_|15,_=>exact sI D V z Z (hr:=by clear Z z V;go_simp)
   |4,_|9,_|12,_=>exact sL D V z Z (hl:=F7 ‹_›)
   |14,_=>clear c7 c6;obtain rfl:=yP D;have jH:(a.tmps[38]?.getD Θ)=.int .i64 ((JK X o).r):=Bd Z 12;have lT:(a.tmps[39]?.getD Θ)=.int .i64 n:=Bd Z 13;clear Z z;refine yO ?_;go_simp;exact V _ _ (by show yl .i64 (IntKind.i64.wrap _)=_;rw[IntWalk.i64_in _ ω]) (yN _ _)
   |_+17,hq=>omega
  intro K wx hR Y
  have ie:(K 14)=.int .i64 ((JK X o).r+n):=Be hR 14;have gP:(K 16)=.pointer (some ⟨q,o*3+2,none⟩):=Be hR 16;clear hR;simp only[Aj,Ae,yL,yI,yJ,yH,ie,gP];simp;clear ie gP;have j6:=AA (AP.zH Az (ka.below Y) mZ (j:=2) ψ (y:=JD n (JK X o)) (u:=.int .i64 ((JK X o).r+n)) rfl);have iL:=AA (z.trans (Y.mono z.size));have Fw:wx.frozen? (q,o*3+2)=false:=xV (ka.below Y) (o*3+2);obtain⟨c8,b9⟩:=BB (ka.below Y) q rfl;have N2:=AA (DY (lc.below Y) j6.2 b9);have nI:q<wx.heap.size:=(yE (ka.below Y) q rfl).2;rw[m5.u] at j6;have oa:=(Y.cell (p:=⟨q,o*3+2,none⟩) hq).trans d2;clear Y b9 d2 ho;go_wp2;go_roundw;exact⟨k+1,ω,ξ,by rw[hW.u];exact j6.1,N2.u,AM iL j6.2 q1 iL.size⟩;simp[intOf];omega
 obtain rfl:k=fs.length:=ω;rw[xD] at R;go_wp2;go_ret;exact⟨_,rfl,R,J⟩
theorem Rr{xs:List AW}(h:BJ xs=true)(hf:f<12)(i3:(JK xs f).k≠0)(L:1<=kind/\kind<=3):BJ (An xs f (Dn kind))=true:=by
 obtain⟨hl,A⟩:=A4.1 h;refine A4.2 ⟨by rw[DU];exact hl,λg N=>?_⟩;rw[Fu]
 split
 .have:=A f hf
  rw[Ny i3] at this;rw[Ny (x:=Dn kind _) (by show kind≠0;omega)]
  show(Bo kind 1 3&&BT (JK xs f).g&&Bo (JK xs f).r 0 50)=true
  simp only[yC] at this ⊢;exact⟨⟨Aa.2 L,this.1.2⟩,this.2⟩
 exact A g N
theorem Tw (v iv rv:Φ)(m:List (List Int))(xs:List AW)(f:Nat)(kind:Int)(ss:List ByteArray)(w:Ω)(h:Bn w v m)(aq:CJ m=true)(hI:Bh w iv xs)(bE:BJ xs=true)(hf:f<12)(L:Bp kind=true)(hv:BZ w rv ss)(iZ:Db ss)(hr:BY ss=true):
 Ξ prog 268 #[v,iv,.int .i64 f,.int .i64 kind,rv] w (Nj (GV m xs f kind ss) w):=by
 have hl:=(A4.1 bE).1;have kt:2<=kind/\kind<=3:=by simp only[Bp,xL,decide_eq_true_eq] at L;omega
 have hY:=(Ij ((A4.1 bE).2 f hf)).2.1;have C1:=AA (λW (E:Γ w w W)=>QE v iv m xs f W (h.below E) aq (BN.below hI E) bE hf);have C3:=AA (λW (_:Γ w w W)=>A7 (by have:=GQ kind W;rw[L] at this;exact this));have C4:=AA (λW (E:Γ w w W)=>by have:=Gz rv ss W (BN.below hv E) iZ;rw[hr] at this;exact this);have C7:=AA (λW (E:Γ w w W)=>UQ v iv rv m xs f kind ss W (h.below E) aq (BN.below hI E) hl (Cg bE) hf L (BN.below hv E) iZ);have HR:=AA (λW (E:Γ w w W)=>BN.below hI E);have SM:=AA (M8 (kind:=kind) aq bE hf (.inl (rfl:(1:Int)=1)));have PN:=AA (Vf (m:=m) (ZJ:=xs) (f:=f) (kind:=kind) (ss:=ss));have cw:=AA (λ(ku:(JK xs f).k=1) W (E:Γ w w W) u (hu:Bh W u (An xs f (Dn kind)))=>Rw v u m (An xs f (Dn kind)) f 1 W (h.below E) aq hu (Rr bE hf ω ω) hf (.inl rfl));obtain⟨ai,ci,rfl,iG,ga,H2⟩:=BN.open Az ψ hI;obtain⟨bi,a8,rfl,bB,D0,_,D2⟩:=H2.zZ (ω:f<xs.length);obtain⟨_,_,rfl,_⟩:=h.open;obtain⟨_,_,rfl,_⟩:=hv.shape;have fn:(f:Int)<xs.length:=ω;have Hl:=AA hl;have J:=yN w w;clear h aq hI bE L hv iZ hr hl H2;go_in;go_wp2_with fail;refine(C1 _ J).mono ?_;rintro e w_ ⟨rfl,bu⟩;replace J:=J.trans (bu.mono J.size);clear bu;go_wp2_with fail;refine(C3 _ J).mono ?_;rintro e w_ ⟨rfl,bu⟩;replace J:=J.trans (bu.mono J.size);clear bu;go_wp2_with fail;refine(C4 _ J).mono ?_;rintro e w4 ⟨rfl,n4,rfl⟩;replace J:=J.trans (Ai (yN _ _) n4|>.mono J.size);have z:=AA J
 by_cases e1:(JK xs f).k=1
 .by_cases e2:(JK xs f).r=0
  .have t1:((JK xs f).k !=1)=false:=by simp[e1]
   have t2:¬0<(JK xs f).r:=ω;have P:=AA (show GV m xs f kind ss=if Iw m xs f kind ss=false then(xs,2)
    else if BJ (An (BP xs (named (AJ m f)) 1) f (Dn kind)) then(An (BP xs (named (AJ m f)) 1) f (Dn kind),0) else(xs,1) by rw[PN.u,if_neg (by simp[e1,e2])])
   have iX:=AA (cw e1);clear e1 e2 cw PN hY;go_wp2_with (at_builtin;go_must (refine GG (cs:=Au) rfl rfl 115 (.agg #[θ,ϑ,θ]) 3 32 underlying24 Tryz.zO rfl ψ rfl (Cn Au _ _ _) rfl (HR _ (z.trans ((AG _ _).mono z.size))) (Fx _) (by have:=Hl.u;omega) ψ χ ?_;intro v' w9 R ca;have fa:=AA ((z.trans ((AG _ _).mono z.size)).trans (ca.mono z.size));replace D0:=(fa.cell (p:=⟨bi,a8+f*3,none⟩) bB).trans D0;replace D2:=(fa.cell (p:=⟨bi,a8+f*3+2,none⟩) bB).trans D2;clear ca));refine(C7 _ fa.u).mono ?_;rintro e iY ⟨rfl,k6⟩;replace R:=AP.below R k6;have gx:=AA (fa.trans (k6.mono fa.size));clear k6 D0 D2;cases N:Iw m xs f kind ss
   .have P2:=AA (show GV m xs f kind ss=(xs,2) by rw[P.u,N];rfl)
    clear N;have HO:=AA R;clear R;go_wp2;go_ret2;exact⟨_,by rw[P2.u];rfl,by rw[P2.u];exact HO.lower z.size,gx.u⟩
   have P2:=AA (show GV m xs f kind ss=if BJ (An (BP xs (named (AJ m f)) 1) f (Dn kind)) then(An (BP xs (named (AJ m f)) 1) f (Dn kind),0) else(xs,1) by rw[P.u,N];rfl)
   clear N;obtain⟨q,a6,rfl,c1,c2,q1,q2,bY⟩:=R.zW (by have:=Hl.u;omega);unfold maxLen at c2;obtain⟨d0,_,_⟩:=AP.zZ R (show f<xs.length by have:=Hl.u;omega);have Fr:=bY (f*3);have S0:=AP.zH Az R (Cj (show f<xs.length by have:=Hl.u;omega)) (j:=0) ψ (y:=Dn kind (JK xs f)) (u:=.int .i64 kind) rfl;rw[xT] at S0;have cN:=AM gx S0.2 (yM z.size q1) gx.size;rw[<-IQ (f:=Dn kind)] at S0;have S:=AA (AP.lower S0.1 z.size);have js:¬(f:Int)<0:=ω;clear S0 R bY;go_wp2_with fail;generalize hwN:iY.setCell _ _=wN at*;clear d0 Fr hwN q2;have h8:(An xs f (Dn kind)).length=xs.length:=DU;have CA:=iX wN cN (.slice q xs.length a6) (AP.rd S.u);clear h8;refine CA.mono ?_;rintro e ke ⟨kg,rfl,hU,jJ⟩;rw[<-QM] at hU;have el:=cN.trans (jJ.mono cN.size);have k9:=AA (AP.lower hU cN.size);have id:=AP.rd hU;clear hU jJ S;generalize hM:An (BP xs (named (AJ m f)) 1) f (Dn kind)=M at*;have C9:=Dx kg M ke id SM.u;obtain⟨mW,mV,rfl,_,_⟩:=id.shape;cases hq:BJ M
   .have P3:=AA (show GV m xs f kind ss=(xs,1) by rw[P2.u,hq];rfl)
    rw[hq] at C9;have C:=AA C9;have df:=AA el;clear C9 hq id el cN;go_wp2_with fail;refine C.mono ?_;rintro e kd ⟨rfl,gu⟩;have ej:=df.trans (gu.mono df.size);have c4:=AA ej;clear gu ej c1 c2;go_wp2_with (at_builtin;go_must (refine GG (cs:=Au) rfl rfl 115 (.agg #[θ,ϑ,θ]) 3 32 underlying24 Tryz.zO rfl ψ rfl (Cn Au _ _ _) rfl (HR _ (c4.trans ((AG _ _).mono c4.size))) (Fx _) (by have:=Hl.u;omega) ψ χ ?_;intro v' w9 R ca));have g7:=(c4.trans ((AG _ _).mono c4.size)).trans (ca.mono c4.size);have HO:=AA (R.lower c4.size);have iV:=AA g7;clear R ca g7;go_wp2;go_ret2;exact⟨_,by rw[P3.u];rfl,by rw[P3.u];exact HO.u,iV.u⟩
   have P3:=AA (show GV m xs f kind ss=(M,0) by rw[P2.u,hq];rfl)
   rw[hq] at C9;have C:=AA C9;have df:=AA el;clear C9 hq id el cN;go_wp2_with (refine C.mono ?_;rintro e kd ⟨rfl,gu⟩;have ej:=df.trans (gu.mono df.size);have k8:=AA (k9.below gu);clear gu c1 c2);go_ret2;exact⟨_,by rw[P3.u];rfl,by rw[P3.u];exact k8.u,ej⟩
  have t1:((JK xs f).k !=1)=false:=by simp[e1]
  have t2:0<(JK xs f).r:=ω;have P2:=AA (show GV m xs f kind ss=(xs,1) by rw[PN.u,if_pos (.inr e2)]);clear e1 e2 cw PN hY;go_wp2_with (at_builtin;go_must (refine GG (cs:=Au) rfl rfl 115 (.agg #[θ,ϑ,θ]) 3 32 underlying24 Tryz.zO rfl ψ rfl (Cn Au _ _ _) rfl (HR _ (z.trans ((AG _ _).mono z.size))) (Fx _) (by have:=Hl.u;omega) ψ χ ?_;intro v' w9 R ca;have fa:=AA ((z.trans ((AG _ _).mono z.size)).trans (ca.mono z.size));replace D0:=(fa.cell (p:=⟨bi,a8+f*3,none⟩) bB).trans D0;replace D2:=(fa.cell (p:=⟨bi,a8+f*3+2,none⟩) bB).trans D2;clear ca));go_ret2;exact⟨_,by rw[P2.u];rfl,by rw[P2.u];exact R.lower z.size,fa.u⟩
 have t1:((JK xs f).k !=1)=true:=by simp[e1]
 have P2:=AA (show GV m xs f kind ss=(xs,1) by rw[PN.u,if_pos (.inl e1)]);clear e1 cw PN hY;go_wp2_with (at_builtin;go_must (refine GG (cs:=Au) rfl rfl 115 (.agg #[θ,ϑ,θ]) 3 32 underlying24 Tryz.zO rfl ψ rfl (Cn Au _ _ _) rfl (HR _ (z.trans ((AG _ _).mono z.size))) (Fx _) (by have:=Hl.u;omega) ψ χ ?_;intro v' w9 R ca;have fa:=AA ((z.trans ((AG _ _).mono z.size)).trans (ca.mono z.size));replace D0:=(fa.cell (p:=⟨bi,a8+f*3,none⟩) bB).trans D0;clear ca));go_ret2;exact⟨_,by rw[P2.u];rfl,by rw[P2.u];exact R.lower z.size,fa.u⟩
theorem Qj (v iv:Φ)(m:List (List Int))(xs:List AW)(f:Nat)(w:Ω)(h:Bn w v m)(aq:CJ m=true)(hI:Bh w iv xs)(bE:BJ xs=true)(hf:f<12):
 Ξ prog 269 #[v,iv,.int .i64 f] w (Nj (DT m xs f) w):=by
 have hl:=(A4.1 bE).1;have hY:=(Ij ((A4.1 bE).2 f hf)).2.1;have C1:=AA (λW (E:Γ w w W)=>QE v iv m xs f W (h.below E) aq (BN.below hI E) bE hf);have HR:=AA (λW (E:Γ w w W)=>BN.below hI E);have SM:=AA (M8 (kind:=1) aq bE hf (.inr (rfl:(-1:Int)= -1)));have PN:=AA (Oy (m:=m) (ZJ:=xs) (f:=f));have cw:=AA (λ(ku:Bp (JK xs f).k=true) W (E:Γ w w W) u (hu:Bh W u (An xs f (Dn 1)))=>Rw v u m (An xs f (Dn 1)) f (-1) W (h.below E) aq hu (Rr bE hf (by intro e;rw[e] at ku;cases ku) ω) hf (.inr rfl));obtain⟨ai,ci,rfl,iG,ga,H2⟩:=BN.open Az ψ hI;obtain⟨bi,a8,rfl,bB,D0,_,D2⟩:=H2.zZ (ω:f<xs.length);obtain⟨_,_,rfl,_⟩:=h.open;have fn:(f:Int)<xs.length:=ω;have Hl:=AA hl;have J:=yN w w;have CK:=AA (λW=>GQ (JK xs f).k W);clear h aq hI bE hl H2;go_in;go_wp2_with fail;refine(C1 _ J).mono ?_;rintro e w_ ⟨rfl,bu⟩;replace J:=J.trans (bu.mono J.size);clear bu;have z:=AA J;clear J;go_wp2_with (at_builtin;go_must (refine GG (cs:=Au) rfl rfl 115 (.agg #[θ,ϑ,θ]) 3 32 underlying24 Tryz.zO rfl ψ rfl (Cn Au _ _ _) rfl (HR _ (z.trans ((AG _ _).mono z.size))) (Fx _) (by have:=Hl.u;omega) ψ χ ?_;intro v' w9 R ca;have fa:=AA ((z.trans ((AG _ _).mono z.size)).trans (ca.mono z.size));replace D0:=(fa.cell (p:=⟨bi,a8+f*3,none⟩) bB).trans D0;replace D2:=(fa.cell (p:=⟨bi,a8+f*3+2,none⟩) bB).trans D2;clear ca));have gx:=fa;refine(CK _).mono ?_;rintro e iY ⟨rfl,rfl⟩;cases e1:Bp (JK xs f).k
 .have P2:=AA (show DT m xs f=(xs,1) by rw[PN.u,if_pos (.inl e1)])
  clear e1 cw PN hY;have HO:=AA R;clear R;go_wp2;go_ret2;exact⟨_,by rw[P2.u];rfl,by rw[P2.u];exact HO.lower z.size,fa.u⟩
 by_cases e2:(JK xs f).r=0
 .have t2:¬0<(JK xs f).r:=ω
  have P2:=AA (show DT m xs f=if BJ (An (BP xs (named (AJ m f)) (-1)) f (Dn 1)) then(An (BP xs (named (AJ m f)) (-1)) f (Dn 1),0) else(xs,2) by rw[PN.u,if_neg (by simp[e1,e2])]);have iX:=AA (cw e1);clear e1 e2 cw PN hY;obtain⟨iY,rfl⟩:∃iY:Ω,iY=w9:=⟨_,rfl⟩
  obtain⟨q,a6,rfl,c1,c2,q1,q2,bY⟩:=R.zW (by have:=Hl.u;omega);unfold maxLen at c2;obtain⟨d0,_,_⟩:=AP.zZ R (show f<xs.length by have:=Hl.u;omega);have Fr:=bY (f*3);have S0:=AP.zH Az R (Cj (show f<xs.length by have:=Hl.u;omega)) (j:=0) ψ (y:=Dn 1 (JK xs f)) (u:=.int .i64 1) rfl;rw[xT] at S0;have cN:=AM gx S0.2 (yM z.size q1) gx.size;rw[<-IQ (f:=Dn 1)] at S0;have S:=AA (AP.lower S0.1 z.size);have js:¬(f:Int)<0:=ω;clear S0 R bY;go_wp2_with fail;generalize hwN:iY.setCell _ _=wN at*;clear d0 Fr hwN q2;have h8:(An xs f (Dn 1)).length=xs.length:=DU;have CA:=iX wN cN (.slice q xs.length a6) (AP.rd S.u);clear h8;refine CA.mono ?_;rintro e ke ⟨kg,rfl,hU,jJ⟩;rw[<-QM] at hU;have el:=cN.trans (jJ.mono cN.size);have k9:=AA (AP.lower hU cN.size);have id:=AP.rd hU;clear hU jJ S;generalize hM:An (BP xs (named (AJ m f)) (-1)) f (Dn 1)=M at*;have C9:=Dx kg M ke id SM.u;obtain⟨mW,mV,rfl,_,_⟩:=id.shape;cases hq:BJ M
  .have P3:=AA (show DT m xs f=(xs,2) by rw[P2.u,hq];rfl)
   rw[hq] at C9;have C:=AA C9;have df:=AA el;clear C9 hq id el cN;go_wp2_with fail;refine C.mono ?_;rintro e kd ⟨rfl,gu⟩;have ej:=df.trans (gu.mono df.size);have c4:=AA ej;clear gu ej c1 c2;go_wp2_with (at_builtin;go_must (refine GG (cs:=Au) rfl rfl 115 (.agg #[θ,ϑ,θ]) 3 32 underlying24 Tryz.zO rfl ψ rfl (Cn Au _ _ _) rfl (HR _ (c4.trans ((AG _ _).mono c4.size))) (Fx _) (by have:=Hl.u;omega) ψ χ ?_;intro v' w9 R ca));have g7:=(c4.trans ((AG _ _).mono c4.size)).trans (ca.mono c4.size);have HO:=AA (R.lower c4.size);have iV:=AA g7;clear R ca g7;go_wp2;go_ret2;exact⟨_,by rw[P3.u];rfl,by rw[P3.u];exact HO.u,iV.u⟩
  have P3:=AA (show DT m xs f=(M,0) by rw[P2.u,hq];rfl)
  rw[hq] at C9;have C:=AA C9;have df:=AA el;clear C9 hq id el cN;go_wp2_with (refine C.mono ?_;rintro e kd ⟨rfl,gu⟩;have ej:=df.trans (gu.mono df.size);have k8:=AA (k9.below gu);clear gu c1 c2);go_ret2;exact⟨_,by rw[P3.u];rfl,by rw[P3.u];exact k8.u,ej⟩
 have t2:0<(JK xs f).r:=ω;have P2:=AA (show DT m xs f=(xs,1) by rw[PN.u,if_pos (.inr e2)]);clear e1 e2 cw PN hY;have HO:=AA R;clear R;go_wp2;go_ret2;exact⟨_,by rw[P2.u];rfl,by rw[P2.u];exact HO.lower z.size,fa.u⟩
theorem Ez (h:BY ss=true):Db ss:=by
 intro s hs;obtain⟨j,hj,rfl⟩:=xl hs;unfold BY at h;simp only[yC,ym] at h;have H:=h.1 j (yh.2 hj);unfold DO at H;simp only[yC] at H;have A:=Ku H.1;have e:Cz ss j=ss[j]:=by simp[Cz,hj]
 rw[e] at A;exact yM A ψ
theorem Xv{m:Φ}{k:AQ}(h:Iv lo w g m i e c k)(bs:lo<=w.heap.size)(hK:Dg k)(call:AV)(he:0<=call.e)(hn:call.e<3)(eD:call.nm.size<=maxLen):
 Ξ prog 130 #[call.on g] w (EL lo g w (Ft k call)):=by
 obtain⟨hg,bp⟩:=Ec w (.cells (call.onCells g) 97);have C0:=AA (λW (_:Γ w w W)=>A7 (Pe call.a W));have C1:=AA (λW (_:Γ w w W)=>Dt call.nm W eD);have C2:=AA (λW (E:Γ w w W)=>Wq (h.below E) call call.nm he (by rw[hK.zX];exact hn));have P:Ft k call=if Bo call.a 0 2=false∨BT call.nm=false then(k,0,3) else if Fg k call.e call.nm=false then(k,0,1) else if(BW (AI k.XX call.a.toNat).PQ call.nm).2=false then(k,0,4) else({k with XX:=An k.XX call.a.toNat (BV (BW (AI k.XX call.a.toNat).PQ call.nm).1)},0,0):=rfl
 obtain⟨k1,e1,a1,b1,c1,nm⟩:=call;simp only[AV.on,AV.onCells] at hg bp C0 C1 C2 P eD ⊢;obtain⟨y0,y1,y2,y3,y4,y5,y6⟩:=Et (c:=⟨k1,e1,a1,b1,c1,nm⟩) hg;have hl:=AY hg;have HN:=AA hg;have HP:=AA P;have V:=AA hK;have HI:=AA h;clear P hK h hg y0 y1 y2 y4 y5 y6;go_in;go_wp2_with fail;generalize hW0:w.alloc _=W0 at*;clear hW0;cases e4:Bo a1 0 2
 .have T:=AA e4
  have hW:=AA (show Ft k ⟨k1,e1,a1,b1,c1,nm⟩=(k,0,3) by rw[HP.u,if_pos (.inl e4)]);clear e4 y3;refine(C0 _ bp).mono ?_;rintro r w1 ⟨rfl,bx⟩;rw[T.u];have bl:=bp.trans (bx.mono bp.size);go_wp2;go_ret;exact EL.bad hW ψ (bl.mono bs)
 have T0:=AA e4
 have ab:=Aa.1 e4;obtain⟨an,rfl⟩:∃n:Nat,a1=(n:Int):=⟨a1.toNat,ω⟩
 have iq:an<3:=ω;clear e4 y3;refine(C0 _ bp).mono ?_;rintro r w1 ⟨rfl,b6⟩;rw[T0.u];have bl:=bp.trans (b6.mono bp.size);obtain⟨y0,y1,y2,y3,y4,y5,y6⟩:=Et (c:=⟨k1,e1,(an:Int),b1,c1,nm⟩) (AB HN b6);clear y0 y1 y2 y3 y4 y5;go_wp2_with fail;clear y6;cases e5:BT nm
 .have T:=AA e5
  have hW:=AA (show Ft k ⟨k1,e1,(an:Int),b1,c1,nm⟩=(k,0,3) by rw[HP.u,if_pos (.inr e5)]);clear e5;refine(C1 _ bl).mono ?_;rintro r w2 ⟨rfl,bx⟩;rw[T.u];replace bl:=bl.trans (bx.mono bl.size);go_wp2;go_ret;exact EL.bad hW ψ (bl.mono bs)
 have T:=AA e5
 have it:=AA (show Ft k ⟨k1,e1,(an:Int),b1,c1,nm⟩=_ by rw[HP.u,if_neg (by rw[T0.u,e5];simp)]);clear e5;refine(C1 _ bl).mono ?_;rintro r w2 ⟨rfl,bx⟩;rw[T.u];replace b6:=b6.trans (bx.mono b6.size);replace bl:=bl.trans (bx.mono bl.size);obtain⟨y0,y1,y2,y3,y4,y5,y6⟩:=Et (c:=⟨k1,e1,(an:Int),b1,c1,nm⟩) (AB HN b6);clear bx;go_wp2_with fail;clear y0 y1 y2 y3 y4 y5 y6;cases e6:Fg k e1 nm
 .have T6:=AA e6
  have hW:=AA (show Ft k ⟨k1,e1,(an:Int),b1,c1,nm⟩=(k,0,1) by rw[it.u,e6];rfl);clear e6;refine(C2 _ bl).mono ?_;rintro r w2 ⟨rfl,al⟩;rw[T6.u];replace bl:=bl.trans (al.mono bl.size);go_wp2;go_ret;exact EL.bad hW ψ (bl.mono bs)
 have T6:=AA e6
 have jc:=AA (show Ft k ⟨k1,e1,(an:Int),b1,c1,nm⟩=_ by rw[it.u,e6,if_neg ψ]);clear e6;refine(C2 _ bl).mono ?_;rintro r W2 ⟨rfl,al⟩;rw[T6.u];replace b6:=b6.trans (al.mono b6.size);replace bl:=bl.trans (al.mono bl.size);have A:=HI.below bl;obtain⟨ge,a6,ua,uc,rfl,ea,D0,_,hO,fz⟩:=A.env (j:=an) (by rw[V.zX];exact iq);have x2:=yv A.cells.2.2.1;obtain⟨y0,y1,y2,y3,y4,y5,y6⟩:=Et (c:=⟨k1,e1,(an:Int),b1,c1,nm⟩) (AB HN b6);replace y0:=yv y0;replace y3:=yv y3;have kP:(an:Int)<k.XX.length:=by rw[V.zX];omega
 have f7:=yt hl b6.size;have kx:ge≠w.heap.size:=by intro e';have h0:=(yE HI.2.2.2.2.1.choose_spec.1 ge rfl).2;omega
 clear y1 y2 y4 y5 al;go_wp2_with fail;refine Bb ?_
 repeat(go_big_quiet_step (fail))
 refine Ba λwq bq=>?_
 clear x2 y0 y3;go_wp2_with fail;have iJ:=bl.trans (bq.mono bl.size);have j3:=AA (A.below bq);replace y6:=(bq.cell (p:=⟨w,6,none⟩) f7).trans y6;replace D0:=(bq.cell (p:=⟨ge,an*2,none⟩) ea).trans D0;have ib:=(bq.frozen (p:=⟨ge,an*2,none⟩) ea).trans (fz _);have fq:=yt f7 bq.size;have eL:=yt ea bq.size;have iA:=yM bs iJ.size;have Rq:BZ wq (.slice ua (AI k.XX an).PQ.length uc) (AI k.XX an).PQ:=BN.below hO bq;have rk:=V.PQ an iq;have hQ:=λW (E:Γ wq wq W)=>Tg _ (AI k.XX an).PQ nm W (BN.below Rq E) (Ez rk) eD rk T.u
 have iU:=AA (show Ft k ⟨k1,e1,(an:Int),b1,c1,nm⟩=if(BW (AI k.XX an).PQ nm).2=false then(k,0,4) else({k with XX:=An k.XX an (BV (BW (AI k.XX an).PQ nm).1)},0,0) from jc.u);unfold aa at hQ;obtain⟨ss,bb,hsb⟩:∃ss bb,BW (AI k.XX an).PQ nm=(ss,bb):=⟨_,_,rfl⟩
 simp only[hsb] at hQ iU;have C3:=AA hQ;clear hQ hO Rq rk hsb A fz bq ea f7;refine BD 12 52 [.p ge (an*2),.p ge (an*2),.p ge (an*2),.v (.slice ua (AI k.XX an).PQ.length uc),.p w.heap.size 1,.p w.heap.size 6,.t nm,.z,.z,.z,.b bb,.z] (λix vv ww=>match ix with
  |7|8=>∃v',vv=.tuple #[v',bb]/\AP wq.heap.size 9 1 A0 ww v' ss
  |9|11=>AP wq.heap.size 9 1 A0 ww vv ss
  |_=>True) ?_ ?_ ?_
 .intro i hi o D a wx z Z Y vs V
  match i,hi with
  |0,_|1,_|2,_|4,_|5,_=>exact sP D V z Z
  |3,_=>exact sL D V z Z (hl:=Kt (bc Y eL D0))
  |6,_=>exact sL D V z Z (hl:=Zq (bc Y fq y6))
  |7,_=>exact sC D V z Z (C3 _ Y) (by rintro e w_ ⟨v',rfl,R,al⟩;exact⟨_,rfl,⟨_,rfl,R.lower Y.size⟩,al⟩)
  |8,_=>
   obtain rfl:=yP D;have d7:∃v',(a.tmps[43]?.getD Θ)=.tuple #[v',bb]/\AP wq.heap.size 9 1 A0 wx v' ss:=Bd Z 7
   clear Z z;obtain⟨v',d7,R⟩:=d7;refine yO ?_;go_simp;exact V _ _ ⟨_,rfl,R⟩ (yN _ _)
  |9,_=>
   obtain rfl:=yP D;have d8:∃v',(a.tmps[35]?.getD Θ)=.tuple #[v',bb]/\AP wq.heap.size 9 1 A0 wx v' ss:=Bd Z 8
   clear Z z;obtain⟨v',d8,R⟩:=d8;refine yO ?_;go_simp;exact V _ _ R (yN _ _)
  |10,_=>
   obtain rfl:=yP D;have d8:∃v',(a.tmps[35]?.getD Θ)=.tuple #[v',bb]/\AP wq.heap.size 9 1 A0 wx v' ss:=Bd Z 8
   clear Z z;obtain⟨v',d8,R⟩:=d8;refine yO ?_;go_simp;exact V _ _ rfl (yN _ _)
  |11,_=>obtain rfl:=yP D;have d9:AP wq.heap.size 9 1 A0 wx (a.tmps[44]?.getD Θ) ss:=Bd Z 9;clear Z z;refine yO ?_;go_simp;exact V _ _ d9 (yN _ _)
 .intro i hi vv wz gM cF hz
  match i,hi with
  |7,_|8,_=>exact(by obtain⟨v',h0,H⟩:=hz;exact⟨v',h0,AP.below H cF⟩)
  |9,_|11,_=>exact(AP.below hz cF)
  |0,_|1,_|2,_|3,_|4,_|5,_|6,_|10,_=>exact hz
 intro K wx hR Y
 have ll:(K 10)=.bool bb:=Be hR 10;have jg:AP wq.heap.size 9 1 A0 wx (K 11) ss:=Be hR 11;clear hR;simp only[Aj,Ae,yL,yI,yJ,yH,ll];simp;generalize K 11=z11 at jg ⊢;clear ll;have fv:=iJ.trans (Y.mono iJ.size);replace D0:=(Y.cell (p:=⟨ge,an*2,none⟩) eL).trans D0;replace ib:=(Y.frozen (p:=⟨ge,an*2,none⟩) eL).trans ib;cases bb
 .have hW:=AA (show Ft k ⟨k1,e1,(an:Int),b1,c1,nm⟩=(k,0,4) by rw[iU.u];rfl)
  clear jg Y D0 ib y6;go_wp2;go_ret;exact EL.bad hW ψ (fv.mono bs)
 have hW:=AA (show Ft k ⟨k1,e1,(an:Int),b1,c1,nm⟩=({k with XX:=An k.XX an (BV ss)},0,0) by rw[iU.u];rfl)
 have S:=AA (j3.PQ rfl iA Y (by rw[V.zX];exact iq) jg);have kK:=AA (AM (fv.mono bs) S.2.1 S.2.2 (yM bs fv.size));obtain⟨_,_,rfl,_,_⟩:=jg.rd.shape;clear jg Y y6;go_wp2;go_ret;exact⟨by rw[hW.u];rfl,λ_=>⟨_,_,_,_,by rw[hW.u];exact S.1⟩,kK.u⟩
theorem Lm (v:Φ)(m:List (List Int))(r:Int)(w:Ω)(h:Bn w v m)(aq:CJ m=true)(hr:r<12):Ξ prog 100 #[v,.int .i64 r] w (Nl m r w):=by
 by_cases h0:r<0
 .exact QW v m r w h h0
 obtain⟨n,rfl⟩:∃n:Nat,r=(n:Int):=⟨r.toNat,ω⟩
 exact QV v m n w h aq ω
theorem zK{k:AQ}(h:Dg k)(hj:j<3):(AI k.XX j).root<12:=by have:=h.roots j hj;unfold Ab at this;omega
theorem XC{m:Φ}{k:AQ}(h:Iv lo w g m i e c k)(bs:lo<=w.heap.size)(hK:Dg k)(call:AV)(he:0<=call.e)(hn:call.e<3)(eD:call.nm.size<=maxLen):
 Ξ prog 131 #[call.on g] w (EL lo g w (EX k call)):=by
 obtain⟨hg,bp⟩:=Ec w (.cells (call.onCells g) 97);have C0:=AA (λW (_:Γ w w W)=>A7 (Pe call.a W));have C1:=AA (λW (_:Γ w w W)=>Dt call.nm W eD);have C2:=AA (λW (E:Γ w w W)=>Wq (h.below E) call call.nm he (by rw[hK.zX];exact hn));have P:EX k call=if Bo call.a 0 2=false∨call.a=call.e∨BT call.nm=false then(k,0,3) else if Fg k call.e call.nm=false then(k,0,1) else if BO k.ZJ (Bi k.mem (AI k.XX call.a.toNat).root) (Bk (AI k.XX call.a.toNat).PQ call.nm)=false then(k,0,2) else({k with XX:=An k.XX call.a.toNat (BV (Bk (AI k.XX call.a.toNat).PQ call.nm))},0,0):=rfl
 obtain⟨k1,e1,a1,b1,c1,nm⟩:=call;simp only[AV.on,AV.onCells] at hg bp C0 C1 C2 P eD ⊢;obtain⟨y0,y1,y2,y3,y4,y5,y6⟩:=Et (c:=⟨k1,e1,a1,b1,c1,nm⟩) hg;have hl:=AY hg;have HN:=AA hg;have HP:=AA P;have V:=AA hK;have HI:=AA h;clear P hK h hg y0 y1 y2 y4 y5 y6;go_in;go_wp2_with fail;generalize hW0:w.alloc _=W0 at*;clear hW0;cases e4:Bo a1 0 2
 .have T:=AA e4
  have hW:=AA (show EX k ⟨k1,e1,a1,b1,c1,nm⟩=(k,0,3) by rw[HP.u,if_pos (.inl e4)]);clear e4 y3;refine(C0 _ bp).mono ?_;rintro r w1 ⟨rfl,bx⟩;rw[T.u];have bl:=bp.trans (bx.mono bp.size);go_wp2;go_ret;exact EL.bad hW ψ (bl.mono bs)
 have T0:=AA e4
 have ab:=Aa.1 e4;obtain⟨an,rfl⟩:∃n:Nat,a1=(n:Int):=⟨a1.toNat,ω⟩
 have iq:an<3:=ω;clear e4 y3;refine(C0 _ bp).mono ?_;rintro r w1 ⟨rfl,b6⟩;rw[T0.u];have bl:=bp.trans (b6.mono bp.size);obtain⟨y0,y1,y2,y3,y4,y5,y6⟩:=Et (c:=⟨k1,e1,(an:Int),b1,c1,nm⟩) (AB HN b6);clear y0 y1 y4 y5
 by_cases i7:(an:Int)=e1
 .have hW:=AA (show EX k ⟨k1,e1,(an:Int),b1,c1,nm⟩=(k,0,3) by rw[HP.u,if_pos (.inr (.inl i7))])
  have t3:((an:Int)==e1)=true:=by simp[i7]
  clear i7 y6;go_wp2;go_ret;exact EL.bad hW ψ (bl.mono bs)
 have t3:((an:Int)==e1)=false:=by simp[i7]
 have dr:=AA i7;clear i7;go_wp2_with fail;clear y2 y3 y6 t3;cases e5:BT nm
 .have T:=AA e5
  have hW:=AA (show EX k ⟨k1,e1,(an:Int),b1,c1,nm⟩=(k,0,3) by rw[HP.u,if_pos (.inr (.inr e5))]);clear e5;refine(C1 _ bl).mono ?_;rintro r w2 ⟨rfl,bx⟩;rw[T.u];replace bl:=bl.trans (bx.mono bl.size);go_wp2;go_ret;exact EL.bad hW ψ (bl.mono bs)
 have T:=AA e5
 have it:=AA (show EX k ⟨k1,e1,(an:Int),b1,c1,nm⟩=_ by rw[HP.u,if_neg (by rw[T0.u,e5];simpa using dr.u)]);clear e5;refine(C1 _ bl).mono ?_;rintro r w2 ⟨rfl,bx⟩;rw[T.u];replace b6:=b6.trans (bx.mono b6.size);replace bl:=bl.trans (bx.mono bl.size);obtain⟨y0,y1,y2,y3,y4,y5,y6⟩:=Et (c:=⟨k1,e1,(an:Int),b1,c1,nm⟩) (AB HN b6);clear bx;go_wp2_with fail;clear y0 y1 y2 y3 y4 y5 y6;cases e6:Fg k e1 nm
 .have T6:=AA e6
  have hW:=AA (show EX k ⟨k1,e1,(an:Int),b1,c1,nm⟩=(k,0,1) by rw[it.u,e6];rfl);clear e6;refine(C2 _ bl).mono ?_;rintro r w2 ⟨rfl,al⟩;rw[T6.u];replace bl:=bl.trans (al.mono bl.size);go_wp2;go_ret;exact EL.bad hW ψ (bl.mono bs)
 have T6:=AA e6
 have jc:=AA (show EX k ⟨k1,e1,(an:Int),b1,c1,nm⟩=_ by rw[it.u,e6,if_neg ψ]);clear e6;refine(C2 _ bl).mono ?_;rintro r W2 ⟨rfl,al⟩;rw[T6.u];replace b6:=b6.trans (al.mono b6.size);replace bl:=bl.trans (al.mono bl.size);have A:=HI.below bl;obtain⟨ge,a6,ua,uc,rfl,ea,D0,D1,hO,fz⟩:=A.env (j:=an) (by rw[V.zX];exact iq);have x2:=yv A.cells.2.2.1;obtain⟨y0,y1,y2,y3,y4,y5,y6⟩:=Et (c:=⟨k1,e1,(an:Int),b1,c1,nm⟩) (AB HN b6);replace y0:=yv y0;replace y3:=yv y3;have kP:(an:Int)<k.XX.length:=by rw[V.zX];omega
 have f7:=yt hl b6.size;have kx:ge≠w.heap.size:=by intro e';have h0:=(yE HI.2.2.2.2.1.choose_spec.1 ge rfl).2;omega
 clear y1 y2 y4 y5 al;go_wp2_with fail;refine Bb ?_
 repeat(go_big_quiet_step (fail))
 refine Ba λwq bq=>?_
 clear x2 y0 y3;go_wp2_with fail;have iJ:=bl.trans (bq.mono bl.size);have j3:=AA (A.below bq);replace y6:=(bq.cell (p:=⟨w,6,none⟩) f7).trans y6;replace D0:=(bq.cell (p:=⟨ge,an*2,none⟩) ea).trans D0;replace D1:=(bq.cell (p:=⟨ge,an*2+1,none⟩) ea).trans D1;have ib:=(bq.frozen (p:=⟨ge,an*2,none⟩) ea).trans (fz _);have jC:=b6.trans (bq.mono b6.size);have fq:=yt f7 bq.size;have eL:=yt ea bq.size;have iA:=yM bs iJ.size;have Rq:BZ wq (.slice ua (AI k.XX an).PQ.length uc) (AI k.XX an).PQ:=BN.below hO bq;have rk:=V.PQ an iq;have C3:=AA (λW (E:Γ wq wq W)=>RH _ (AI k.XX an).PQ nm W (BN.below Rq E) (Ez rk) eD rk T.u);have iU:=AA (show EX k ⟨k1,e1,(an:Int),b1,c1,nm⟩=if BO k.ZJ (Bi k.mem (AI k.XX an).root) (Bk (AI k.XX an).PQ nm)=false then(k,0,2) else({k with XX:=An k.XX an (BV (Bk (AI k.XX an).PQ nm))},0,0) from jc.u);clear hO Rq rk A fz bq ea f7;refine BD 8 70 [.p ge (an*2),.p ge (an*2),.p ge (an*2),.v (.slice ua (AI k.XX an).PQ.length uc),.p w.heap.size 1,.p w.heap.size 6,.t nm,.z] (λix vv ww=>match ix with
  |7=>AP wq.heap.size 9 1 A0 ww vv (Bk (AI k.XX an).PQ nm)
  |_=>True) ?_ ?_ ?_
 .intro i hi o D a wx z Z Y vs V
  match i,hi with
  |0,_|1,_|2,_|4,_|5,_=>exact sP D V z Z
  |3,_=>exact sL D V z Z (hl:=Kt (bc Y eL D0))
  |6,_=>exact sL D V z Z (hl:=Zq (bc Y fq y6))
  |7,_=>exact sC D V z Z (C3 _ Y) (by rintro e w_ ⟨v',rfl,R,al⟩;exact⟨_,rfl,(R.lower Y.size),al⟩)
 .intro i hi vv wz gM cF hz
  match i,hi with
  |7,_=>exact(AP.below hz cF)
  |0,_|1,_|2,_|3,_|4,_|5,_|6,_=>exact hz
 intro K wx hR Y
 have q7:AP wq.heap.size 9 1 A0 wx (K 7) (Bk (AI k.XX an).PQ nm):=Be hR 7;clear hR;simp only[Aj,Ae,yL,yI,yJ,yH];simp;generalize K 7=z7 at q7 ⊢;have fv:=iJ.trans (Y.mono iJ.size);have kN:=jC.trans (Y.mono jC.size);have i8:=j3.below Y;obtain⟨y0,_,_,_,_,_,_⟩:=Et (c:=⟨k1,e1,(an:Int),b1,c1,nm⟩) (AB HN kN);replace D0:=(Y.cell (p:=⟨ge,an*2,none⟩) eL).trans D0;replace D1:=(Y.cell (p:=⟨ge,an*2+1,none⟩) eL).trans D1;replace ib:=(Y.frozen (p:=⟨ge,an*2,none⟩) eL).trans ib;have iE:=yt eL Y.size;have lz:=yt fq Y.size;have jw:=AY i8.1;have x0:=i8.cells.1;have x1:=i8.cells.2.1;have jt:=zK V iq;have RM:Bn wx m k.mem:=i8.2.2.rd.1;have lV:Bh wx i k.ZJ:=i8.2.2.2.1.rd;have mI:=AA q7;have lN:=AA Y;obtain⟨wy,rfl⟩:∃wy:Ω,wy=wx:=⟨_,rfl⟩
 have CX:=AA (λW (E:Γ wy wy W)=>Lm m k.mem _ W (RM.below E) (Ap V.u).1 jt);have CA:=AA (λW (E:Γ wy wy W) v2 ts (A:A3 W v2 (A8 ts)) (hm:∀g,g∈ts↔g∈Bi k.mem (AI k.XX an).root)=>by have:=JT g _ v2 _ (Bk (AI k.XX an).PQ nm) ts k.ZJ W ((E.cell (p:=⟨g,1,none⟩) jw).trans x1) (BN.below q7.rd E) (BN.below lV E) A (λf hf=>by have:=zG jt f ((hm f).1 hf);have:=V.len;omega);rw[Fo hm] at this;exact this);generalize jB:BO k.ZJ (Bi k.mem (AI k.XX an).root) (Bk (AI k.XX an).PQ nm)=bb at CA iU;have oj:=AA jB;obtain⟨p1,p2,rfl,_,_⟩:=q7.rd.shape;clear jB RM lV q7 Y i8 x1;go_wp2_with fail;refine BD 14 70 [.p w.heap.size 0,.p g 0,.v (.slice p1 (Bk (AI k.XX an).PQ nm).length p2),.p w.heap.size 0,.p g 0,.p g 0,.p g 0,.v m,.p ge (an*2),.p ge (an*2),.p ge (an*2+1),.i ((AI k.XX an).root),.z,.b bb] (λix vv ww=>match ix with
  |12=>FW wy k.mem (AI k.XX an).root ww vv
  |_=>True) ?_ ?_ ?_
 .intro i hi o D a wx z Z Y vs V
  have c7:=bc Y lz y0;have c6:=bc Y jw x0;have fc:=bc Y iE D1
  match i,hi with
  |0,_|2,_|3,_|5,_|6,_|8,_|9,_|10,_=>exact sP D V z Z
  |1,_|4,_=>exact sL D V z Z (hl:=Of ‹_›)
  |7,_=>exact sL D V z Z (hl:=GR ‹_›)
  |11,_=>exact sL D V z Z (hl:=F7 ‹_›)
  |12,_=>exact sC D V z Z (CX _ Y) (by rintro e w_ ⟨v',ts,rfl,R,ef,_,al⟩;exact⟨_,rfl,⟨ts,BS R Y.size,ef⟩,al⟩)
  |13,_=>clear c7 c6 fc;obtain rfl:=yP D;have d1:(a.tmps[52]?.getD Θ)=.pointer g:=Bd Z 1;have d2:(a.tmps[53]?.getD Θ)=.slice p1 (Bk (AI k.XX an).PQ nm).length p2:=Bd Z 2;have jH:FW wy k.mem (AI k.XX an).root wx (a.tmps[63]?.getD Θ):=Bd Z 12;clear Z z;generalize e63:a.tmps[63]?.getD Θ=v2 at jH;obtain⟨ts,R,ef⟩:=jH;have nC:=CA wx Y v2 ts (AE.rd R) ef;refine yO ?_;go_simp;refine nC.mono ?_;rintro e w_ ⟨rfl,al⟩;exact V _ _ rfl al
 .intro i hi vv wz gM cF hz
  match i,hi with
  |12,_=>exact(FW.below hz cF)
  |0,_|1,_|2,_|3,_|4,_|5,_|6,_|7,_|8,_|9,_|10,_|11,_|13,_=>exact hz
 intro K wx hR Y
 have fy:(K 13)=.bool bb:=Be hR 13;clear hR;simp only[Aj,Ae,yL,yI,yJ,yH,fy];simp;clear fy;have cF:=fv.trans (Y.mono fv.size);cases bb
 .have hW:=AA (show EX k ⟨k1,e1,(an:Int),b1,c1,nm⟩=(k,0,2) by rw[iU.u];rfl)
  clear Y D0 D1 ib y0 x0;go_wp2;go_ret;exact EL.bad hW ψ (cF.mono bs)
 have hW:=AA (show EX k ⟨k1,e1,(an:Int),b1,c1,nm⟩=({k with XX:=An k.XX an (BV (Bk (AI k.XX an).PQ nm))},0,0) by rw[iU.u];rfl)
 have S:=AA (j3.PQ rfl iA (lN.trans (Y.mono lN.size)) (by rw[V.zX];exact iq) (mI.below Y));have kJ:=AA (AM (cF.mono bs) S.2.1 S.2.2 (yM bs cF.size));replace D0:=(Y.cell (p:=⟨ge,an*2,none⟩) iE).trans D0;replace ib:=(Y.frozen (p:=⟨ge,an*2,none⟩) iE).trans ib;clear Y D1 y0 x0;go_wp2;go_ret;exact⟨by rw[hW.u];rfl,λ_=>⟨_,_,_,_,by rw[hW.u];exact S.1⟩,kJ.u⟩
theorem JF{k:AQ}(h:Dg k)(hj:j<3):Db (AI k.XX j).PQ:=Ez (h.PQ j hj)
theorem KQ (m i e c:Φ)(k:AQ)(en:Nat)(g:ByteArray)(w:Ω)(h:Gf w e k.XX)(L:Dg k)(i4:en<3)(N:g.size<=maxLen):
 Ξ prog 231 #[.agg #[m,i,e,c],.int .i64 en,.string g] w λr O=>r=.returned (.bool (Ci (AI k.XX en).PQ g))/\Γ w w O:=by
 obtain⟨N0,bp⟩:=Ec w (.cells #[m,i,e,c] 28);obtain⟨a,cp,rfl,hc,bw,h1⟩:=(h.below bp).open;obtain⟨b,a7,ua,uc,rfl,bC,D0,_,hR⟩:=h1 en (by rw[L.zX];exact i4);have C:=AA (Lb _ _ g _ hR (JF L i4) N);have jA:(en:Int)<k.XX.length:=by rw[L.zX];omega
 obtain⟨_,_,x2,_⟩:=AH N0;have js:¬(en:Int)<0:=ω;clear h L h1 hR N0;go_in;go_wp2_with fail;generalize w.alloc _=W0 at*;refine C.mono ?_;rintro e w1 ⟨rfl,b1⟩;go_wp2;go_ret;exact⟨rfl,bp.trans (b1.mono bp.size)⟩
theorem Tk (m i e c:Φ)(k:AQ)(x:Int)(w:Ω)(h:Bn w m k.mem)(hi:Bh w i k.ZJ)(hm:CJ k.mem=true)(hl:k.ZJ.length=12)(hx:x<=9223372036854775807):
 Ξ prog 238 #[.agg #[m,i,e,c],.int .i64 x] w λr O=>∃v',r=.returned v'/\AE w O v' (A8 (LV k x))/\Γ w w O:=by
 obtain⟨N0,bp⟩:=Ec w (.cells #[m,i,e,c] 28);obtain⟨x0,x1,_,_⟩:=AH N0;have gV:=AY N0;cases N:Bx x
 .have HK:=AA (Ev N)
  have hW:LV k x=[]:=by unfold LV;rw[N];rfl
  rw[hW];have o1:=GD (w.alloc (.cells #[m,i,e,c] 28));simp only[xt] at o1;clear N hW;go_in;go_wp2_with (go_at_call 211;refine(Da _ _ hx).mono ?_;rintro e O ⟨rfl,rfl⟩;rw[HK.u]);go_ret;exact⟨_,rfl,Nw o1 (we _),bp.alloc bp.size _⟩
 have HK:=AA (Er N)
 have hF:=Eh N;have BE:LV k x=BQ x::(if(JK k.ZJ (BQ x)).k=2 then named (AJ k.mem (BQ x)) else[]):=by unfold LV;rw[N,if_pos rfl]
 rw[BE];generalize BQ x=o at*;obtain⟨ai,ci,rfl,_,_,HI⟩:=BN.open Az ψ (BN.below hi bp);obtain⟨bi,a8,rfl,bB,D0,_,_⟩:=HI.zZ (ω:o<k.ZJ.length);have lw:(o:Int)<k.ZJ.length:=ω;have ml:¬(o:Int)<0:=ω;have o1:=Y1 (w.alloc (.cells #[m,.slice (some ⟨bi,a8,none⟩) k.ZJ.length ci,e,c] 28)) o;clear N BE HI hi
 by_cases A:(JK k.ZJ o).k=2
 .have t2:((JK k.ZJ o).k !=2)=false:=by simp[A]
  rw[if_pos A];have b7:=(Ak.1 hm).1;obtain⟨am,cm,rfl,_,_,HM⟩:=(h.below bp).open;obtain⟨bm,dg,u,rfl,g0,DM,hR⟩:=HM o ω;have nJ:(o:Int)<k.mem.length:=ω;have fk:=(BG.1 ((Ak.1 hm).2 o hF)).1;have CN:=AA (λW (E:Γ _ _ W)=>Jb u (AJ k.mem o) W (A3.below hR E) ω (Mg hm hF));have f6:=SU hm hF;obtain⟨_,_,rfl,_⟩:=hR.open;generalize named (AJ k.mem o)=ns at*;simp only[xt] at o1;have kL:=g0;simp only[xt] at kL;clear A h hm hl HM hR b7 fk N0;go_in;go_wp2_with (go_at_call 211;refine(Da _ _ hx).mono ?_;rintro e O ⟨rfl,rfl⟩;rw[HK.u]);generalize w.alloc _=W0 at*;have C:=AA (CN _ (AG W0 (.cells #[o] 3)));refine C.mono ?_;rintro r w1 ⟨v1,rfl,n1,b1⟩;have O1:=AA (AE.below o1 b1);have bl:=(AG W0 (.cells #[o] 3)).trans (b1.mono (AG W0 (.cells #[o] 3)).size);have nF:=bl.size;have bx:=bp.trans (bl.mono bp.size);have jb:=AA (AE.rd n1);have c5:=AA bx;obtain⟨az,cz,rfl,lG⟩:=FM n1;clear o1 n1 b1 bx bl CN C x0 x1 D0 DM;go_wp2_with (at_builtin;go_must (refine Bm (lo:=w.heap.size+1) (n:=1) (xs:=(A8 [o]).map (yl .i64)) (m:=ns.length) (news:=(A8 ns).map (yl .i64)) rfl rfl 3 (.int .i64 0) 1 8 underlying29 Tryz.zS rfl ψ rfl (Lh O1 (yN _ _)) rfl (by have:=jb.u;unfold A3 at this;rw[Cu] at this;exact this) (MR _) μ ω ω ?_;intro o' w9 k1 k2 k3 k4));go_ret;exact⟨_,rfl,Nw (Jc (ys:=[o]) (zs:=ns) k1) (we _),c5.trans (k4.mono (we _))⟩
 have t2:((JK k.ZJ o).k !=2)=true:=by simp[A]
 rw[if_neg A];simp only[xt] at o1;obtain⟨_,_,rfl,_⟩:=h.open;clear A h hm hl N0;go_in;go_wp2_with (go_at_call 211;refine(Da _ _ hx).mono ?_;rintro e O ⟨rfl,rfl⟩;rw[HK.u]);go_ret;exact⟨_,rfl,Nw o1 (we _),bp.alloc bp.size _⟩
theorem PF{o:Oper}{a:Act}{Q:Exit->Act->Ω->Prop}{x:Operand}{t:TypeId}
 (kw:o.guard=none)(D:o.op=.call {callee:=.builtin .append,args:= #[s,x],argTypes:= #[t,t]})
 (ht:prog.underlying t=some (.slice 3)){v u:Φ}{xs:List Int}(hs:a.eval s=v)(a5:AE lo w v [])
 (hx:a.eval x=u)(hr:A3 w u xs)(mL:xs.length<=1048576)(bs:lo<=w.heap.size)
 (hK:∀v' O,AE lo O v' xs->Γ lo w O->wpList prog ops Q rest (a.put o.dst v') O):wpList prog ops Q (o::rest) a w:=by
 refine Bm (n:=0) (xs:=[]) (m:=xs.length) (news:=xs.map (yl .i64)) kw D 3 (.int .i64 0) 1 8 ht Tryz.zS rfl ψ hs a5 hx hr (MR _) ?_ ?_ bs λv' O k1 _ _ k4=>hK v' O ?_ k4
 .unfold maxLen;omega
 .omega
 unfold AE
 rw[wK] at k1;exact k1
theorem Ns (v:Φ)(m:List (List Int))(w:Ω)(h:Bn w v m)(hl:m.length<=100)(hr:∀f,f<m.length->(AJ m f).length<=100):
 Ξ prog 77 #[v] w λe O=>∃v' K,e=.returned v'/\Ay w O v' K m/\Γ w w O:=by
 obtain⟨a,c,rfl,hc,bw,h1⟩:=h.open;unfold maxLen at bw;have HH:=AA h1;have HR:=AA hr;clear h h1 hr;go_in;go_wp2_with fail;go_loopw [3,4] (λo i wr=>∃k:Nat,∃K:List Φ,k<=m.length/\K.length=k/\i=.int .i64 k/\Ay w wr o K (m.take k)/\Γ w w wr) (λ_ i _=>m.length - (intOf i).toNat)
 exact⟨0,[],ω,rfl,rfl,⟨CU _ _ _,GY.nil,Dk.nil⟩,AG _ _⟩
 obtain⟨k,K,L,fq,rfl,R,ad⟩:=hrel;have Hl:=AA fq;clear fq
 by_cases ar:k<m.length
 .have bX:(k:Int)<(m.length:Int):=ω
  have lq:K.length<=100:=by rw[Hl.u];omega
  have fk:=HR k ar;have TK:=AA (DQ (Kk ar));obtain⟨b,a7,u,rfl,bC,ho,hR⟩:=(HH.below ad) k ar;generalize AJ m k=r at*;have mH:=AA (A3.below hR (AG wr (.cells #[] 3)));obtain⟨_,_,rfl,_⟩:=hR.open;have HO:=AA R;have er:=AA ad;obtain⟨_,_,rfl,_⟩:=R.1.rd.shape;clear hR R ad;go_wp2_with (first|(at_builtin;refine PF rfl rfl underlying29 rfl (GD wr) rfl mH ω (AG wr (.cells #[] 3)).size ?_;intro u' w2 hu al;have gh:=AA ((AG wr (.cells #[] 3)).trans al);have Hu:=AA hu;obtain⟨ua,uc,rfl,_⟩:=(AE.rd hu).open;clear hu al)|(at_builtin;go_must (refine Bm (lo:=w.heap.size) (n:=K.length) (xs:=Cb Gs K) (m:=1) rfl rfl 29 (.slice none 0 0) 1 24 underlying23 Tryz.zj rfl ψ rfl ((HO.below gh.u).below (AG _ _)).1 rfl (Rd.zM _ #[_] _ 1 1 _ χ rfl ζ) (by simp[xR]) μ ω (by have H:=er.size;have A:=gh.size;simp;omega) ?_;intro o' w3 g1 g2 g3 g4)));go_roundw
  case rel=>have al:=gh.trans ((AG w2 (.cells #[.slice ua r.length uc] 29)).mono gh.size);have hP:=HO.push al er.size (Hu.below (AG _ _)) g1 g2;exact⟨k+1,K++[.slice ua r.length uc],ω,by rw[yz,Hl.u];rfl,ξ,by rw[TK.u];exact hP,(er.trans (al.mono er.size)).trans g4⟩
  case measure=>simp[intOf];omega
 obtain rfl:k=m.length:=ω;rw[xD] at R;go_wp2;go_ret;exact⟨_,K,rfl,R,ad⟩
theorem YA (w:Ω):Ξ prog 172 #[] w λe O=>∃v K,e=.returned v/\Ay w O v K (xZ 16 [])/\Γ w w O:=by
 go_in;go_wp2_with fail;go_loopw [1,2] (λo i wr=>∃k:Nat,∃K:List Φ,k<=16/\K.length=k/\i=.int .i64 k/\Ay w wr o K (xZ k [])/\Γ w w wr) (λ_ i _=>16 - (intOf i).toNat)
 exact⟨0,[],ω,rfl,rfl,⟨CU _ _ _,GY.nil,Dk.nil⟩,AG _ _⟩
 obtain⟨k,K,L,fq,rfl,R,ad⟩:=hrel;have Hl:=AA fq;clear fq
 by_cases ar:k<16
 .have lq:K.length<=16:=by rw[Hl.u];omega
  have al:=(AG wr (.cells #[] 3));have HO:=AA R;have er:=AA ad;obtain⟨_,_,rfl,_⟩:=R.1.rd.shape;clear R ad;go_wp2_with (at_builtin;go_must (refine Bm (lo:=w.heap.size) (n:=K.length) (xs:=Cb Gs K) (m:=1) (news:=[.slice wr 0 0]) rfl rfl 29 (.slice none 0 0) 1 24 underlying23 Tryz.zj rfl ψ rfl ((HO.below al).below (AG _ _)).1 rfl (Rd.zM _ #[_] _ 1 1 _ χ rfl ζ) (by simp[xR]) μ ω (by have H:=er.size;have A:=al.size;simp;omega) ?_;intro o' w3 g1 g2 g3 g4));go_roundw
  case rel=>have cd:=al.trans ((AG (wr.alloc (.cells #[] 3)) (.cells #[.slice wr 0 0] 29)).mono al.size);have hu:AE wr (wr.alloc (.cells #[] 3)) (.slice wr 0 0) []:=GD wr;have hP:=HO.push cd er.size (hu.below (AG _ _)) g1 g2;exact⟨k+1,K++[.slice wr 0 0],ω,by rw[yz,Hl.u];rfl,ξ,by rw[sW];exact hP,(er.trans (cd.mono er.size)).trans g4⟩
  case measure=>simp[intOf];omega
 obtain rfl:k=16:=ω;go_wp2;go_ret;exact⟨_,K,rfl,R,ad⟩
theorem Y6{a b d:Φ}(h:w.heap[g]?=some (.cells #[a,b,c,d] T (0,0))):Rd w (.slice g 1 1) 4 1 [a,b,c,d]:=by
 obtain⟨h0,H,A,h3⟩:=AH h;refine⟨_,_,rfl,yF _,ζ,rfl,nofun,λ_=>⟨g,0,rfl,λj hj=>?_⟩⟩;rw[wK]
 match j,hj with
 |0,_=>exact h0
 |1,_=>exact H
 |2,_=>exact A
 |3,_=>exact h3
 |_+4,hj=>exact absurd hj ω
theorem fH{a7 c:Nat}{xs:List Φ}(h:Rd w (.slice (some ⟨b,a7,none⟩) n c) sz n xs)(L:k<=n):Rd w (.slice (some ⟨b,a7+k*sz,none⟩) (n - k) (c - k)) sz (n - k) (xs.drop (k*sz)):=by
 obtain⟨ao,c',hv,nM,bw,hl,jr,hc⟩:=h;simp only[xQ,true_and] at hv;obtain⟨rfl,rfl⟩:=hv;have nP:k*sz+(n - k)*sz=n*sz:=by rw[<-Nat.add_mul];congr 1;omega
 refine⟨_,_,rfl,ω,ω,by rw[xC];omega,(by intro e;cases e),λi3=>?_⟩;obtain⟨b',f5,e,b5⟩:=hc ω;obtain⟨rfl,rfl⟩:b=b'/\a7=f5:=by simpa using e
 refine⟨_,_,rfl,λj hj=>?_⟩;rw[tz,b5 (k*sz+j) ω,List.getElem?_drop]
theorem cZ{F:List Ag}(h:BN 4 AZ w (.slice q F.length a6) F)(H:1<=F.length):BN 4 AZ w (.slice (some ⟨q,4,none⟩) (F.length - 1) (a6 - 1)) (F.drop 1):=by
 have r:=fH h (k:=1) H;cases F with
 |nil=>simp at H
 |cons y F=>exact r
theorem UT (v:Φ)(c:List Ag)(x:Ag)(w:Ω)(h:Ds w v c)(hl:c.length<=4):
 Ξ prog 218 #[v,.agg #[x.e,x.p,x.f,x.w]] w λr O=>∃v',r=.returned v'/\AP w.heap.size 125 4 AZ O v' (Jo c x)/\Γ w w O:=by
 obtain⟨a,cp,rfl,hc,bw,h1⟩:=BN.open Co ψ h;have kI:c.length<=1000:=ω;unfold maxLen at bw;have HH:=AA h1;obtain⟨N0,N1,bp,ij⟩:=LF w (.cells #[x.e,x.p,x.f,x.w] 125) (.cells #[] 125);have o1:AP (w.heap.size+1) 125 4 AZ ((w.alloc (.cells #[x.e,x.p,x.f,x.w] 125)).alloc (.cells #[] 125)) (.slice (some ⟨w.heap.size+1,0,none⟩) 0 0) []:=by have:=Cn AZ (w.alloc (.cells #[x.e,x.p,x.f,x.w] 125)) 125 4;simp only[xt] at this;exact this
 have nj:=AA hl;have PE:Jo c x=(if(c.filter λy=>!BR x.e x.p y).length=4 then(c.filter λy=>!BR x.e x.p y).drop 1 else c.filter λy=>!BR x.e x.p y)++[x]:=rfl;have j8:=AA PE;clear h h1 hl PE ij N1;go_in;go_wp2_with fail;generalize(w.alloc _).alloc _=wa at o1 bp N0 ⊢;generalize(xv (some ⟨w.heap.size+1,0,none⟩) 0 0)=o at o1 ⊢;go_loopw [5,6] (λo ix wr=>∃k:Nat,k<=c.length/\ix=.int .i64 k/\AP (w.heap.size+1) 125 4 AZ wr o ((c.take k).filter λy=>!BR x.e x.p y)/\Γ w w wr/\wr.heap[w.heap.size]?=some (.cells #[x.e,x.p,x.f,x.w] 125 (0,0))) (λ_ ix _=>c.length - (intOf ix).toNat)
 exact⟨0,yu _,rfl,o1,bp,N0⟩
 clear o1 bp N0;obtain⟨k,L,rfl,a5,J,hN⟩:=hrel
 by_cases ar:k<c.length
 .have bX:(k:Int)<(c.length:Int):=ω
  obtain⟨b,a7,rfl,bC,D0,D1,D2,D3⟩:=(HH.below J).zV ar;have Nx:=AA (MK (p:=λy=>!BR x.e x.p y) (Fp ar));have f6:=Jn (p:=λy=>!BR x.e x.p y) (l:=c) (k:=k);generalize AU c k=y at D0 D1 D2 D3 Nx;generalize(c.take k).filter (λy=>!BR x.e x.p y)=ys at a5 Nx f6;obtain⟨x0,x1,x2,x3⟩:=AH hN;have hh:=AY hN;have bK:=AA a5;have z:=AA J;have HN:=AA hN;obtain⟨_,_,rfl,_⟩:=a5.rd.shape;clear a5 J hN
  by_cases e1:y.e=x.e
  .by_cases e2:y.p=x.p
   .skip
    have t1:(y.e !=x.e)=false:=by simp[e1]
    have t2:(y.p !=x.p)=false:=by simp[e2]
    have cl:=AA (show(c.take (k+1)).filter (λy=>!BR x.e x.p y)=ys by rw[Nx.u];simp[BR,e1,e2]);clear Nx e1 e2;go_wp2_with fail;refine Ac 17 50 [.v (.slice (some ⟨b,a7,none⟩) c.length cp),.i ((k:Int)),.p b (a7+k*4),.p b (a7+k*4),.i (y.e),.p w.heap.size 0,.i (x.e),.b false,.b false,.v (.slice (some ⟨b,a7,none⟩) c.length cp),.i ((k:Int)),.p b (a7+k*4),.p b (a7+k*4+1),.i (y.p),.p w.heap.size 1,.i (x.p),.b false] (λ_ _ _=>True) ?_ ?_
    .intro i hi o D a wx z Z Y vs V
     have c7:=bc Y bC D0;have c6:=bc Y hh x0;have fc:=bc Y bC D1;have hV:=bc Y hh x1
     match i,hi with
     |0,_|1,_|3,_|5,_|8,_|9,_|10,_|12,_|14,_=>exact sP D V z Z
     |2,_|11,_=>exact sI D V z Z (hr:=by clear Z z V;go_simp)
     |4,_|6,_|13,_|15,_=>exact sL D V z Z (hl:=F7 ‹_›)
     |7,_=>clear c7 c6 fc hV;obtain rfl:=yP D;have d4:(a.tmps[18]?.getD Θ)=.int .i64 (y.e):=Bd Z 4;have d6:(a.tmps[20]?.getD Θ)=.int .i64 (x.e):=Bd Z 6;clear Z z;refine yO ?_;go_simp;exact V _ _ rfl (yN _ _)
     |16,_=>clear c7 c6 fc hV;obtain rfl:=yP D;have lT:(a.tmps[27]?.getD Θ)=.int .i64 (y.p):=Bd Z 13;have mQ:(a.tmps[29]?.getD Θ)=.int .i64 (x.p):=Bd Z 15;have d8:(a.tmps[22]?.getD Θ)=.bool false:=Bd Z 8;clear Z z;refine AT.yes rfl rfl d8 ?_;go_simp;exact V _ _ rfl (yN _ _)
     |_+17,hq=>omega
    intro K wx hR Y
    have q8:(K 8)=.bool false:=Be hR 8;have gP:(K 16)=.bool false:=Be hR 16;clear hR;simp only[Aj,Ae,yL,yI,yJ,yH,q8,gP];simp;clear q8 gP;go_wp2;go_roundw;exact⟨k+1,ω,ξ,by rw[cl.u];exact AP.below bK Y,z.trans (Y.mono z.size),AB HN Y⟩;simp[intOf];omega
   skip
   have t1:(y.e !=x.e)=false:=by simp[e1]
   have t2:(y.p !=x.p)=true:=by simp[e2]
   have cl:=AA (show(c.take (k+1)).filter (λy=>!BR x.e x.p y)=ys++[y] by rw[Nx.u];simp[BR,e1,e2]);clear Nx e1 e2;go_wp2_with fail;refine Ac 17 50 [.v (.slice (some ⟨b,a7,none⟩) c.length cp),.i ((k:Int)),.p b (a7+k*4),.p b (a7+k*4),.i (y.e),.p w.heap.size 0,.i (x.e),.b false,.b false,.v (.slice (some ⟨b,a7,none⟩) c.length cp),.i ((k:Int)),.p b (a7+k*4),.p b (a7+k*4+1),.i (y.p),.p w.heap.size 1,.i (x.p),.b true] (λ_ _ _=>True) ?_ ?_
   .intro i hi o D a wx z Z Y vs V
    have c7:=bc Y bC D0;have c6:=bc Y hh x0;have fc:=bc Y bC D1;have hV:=bc Y hh x1
    match i,hi with
    |0,_|1,_|3,_|5,_|8,_|9,_|10,_|12,_|14,_=>exact sP D V z Z
    |2,_|11,_=>exact sI D V z Z (hr:=by clear Z z V;go_simp)
    |4,_|6,_|13,_|15,_=>exact sL D V z Z (hl:=F7 ‹_›)
    |7,_=>clear c7 c6 fc hV;obtain rfl:=yP D;have d4:(a.tmps[18]?.getD Θ)=.int .i64 (y.e):=Bd Z 4;have d6:(a.tmps[20]?.getD Θ)=.int .i64 (x.e):=Bd Z 6;clear Z z;refine yO ?_;go_simp;exact V _ _ rfl (yN _ _)
    |16,_=>clear c7 c6 fc hV;obtain rfl:=yP D;have lT:(a.tmps[27]?.getD Θ)=.int .i64 (y.p):=Bd Z 13;have mQ:(a.tmps[29]?.getD Θ)=.int .i64 (x.p):=Bd Z 15;have d8:(a.tmps[22]?.getD Θ)=.bool false:=Bd Z 8;clear Z z;refine AT.yes rfl rfl d8 ?_;go_simp;exact V _ _ rfl (yN _ _)
    |_+17,hq=>omega
   intro K wx hR Y
   have q8:(K 8)=.bool false:=Be hR 8;have gP:(K 16)=.bool true:=Be hR 16;clear hR;simp only[Aj,Ae,yL,yI,yJ,yH,q8,gP];simp;clear q8 gP;have nA:=(Y.cell (p:=⟨b,a7+k*4,none⟩) bC).trans D0;have nz:=(Y.cell (p:=⟨b,a7+k*4+1,none⟩) bC).trans D1;have ny:=(Y.cell (p:=⟨b,a7+k*4+2,none⟩) bC).trans D2;have nx:=(Y.cell (p:=⟨b,a7+k*4+3,none⟩) bC).trans D3;have fv:=z.trans (Y.mono z.size);have jN:=AA (AP.below bK Y);have iO:=AB HN Y;clear D0 D1 D2 D3;go_wp2_with (at_builtin;go_must (refine Bm (lo:=w.heap.size+1) (n:=ys.length) (xs:=Cb AZ ys) (m:=1) (news:=[.int .i64 y.e,.int .i64 y.p,.int .i64 y.f,.bool y.w]) rfl rfl 125 (.agg #[θ,θ,θ,υ]) 4 32 underlying26 Tryz.zP rfl ψ rfl (BC jN (AG _ _)) rfl (Rd.zM _ #[.int .i64 y.e,.int .i64 y.p,.int .i64 y.f,.bool y.w] _ 4 1 _ rfl χ ζ) (by simp[xR]) μ ω (by have:=fv.size;have:=AY iO;simp;omega) ?_;intro o' w9 k1 k2 k3 k4));go_roundw;exact⟨k+1,ω,ξ,by rw[cl.u];unfold AP;rw[Bq,Es,yz];exact k1,(fv.alloc fv.size _).trans (k4.mono (we _)),(k2.block w (by have:=AY iO;simp;omega) (λe=>by have:=(jN.lt _ e.symm).1;omega)).trans (AB iO (AG _ _))⟩;simp[intOf];omega
  skip
  have t1:(y.e !=x.e)=true:=by simp[e1]
  have cl:=AA (show(c.take (k+1)).filter (λy=>!BR x.e x.p y)=ys++[y] by rw[Nx.u];simp[BR,e1]);clear Nx e1;go_wp2_with fail;refine Ac 17 50 [.v (.slice (some ⟨b,a7,none⟩) c.length cp),.i ((k:Int)),.p b (a7+k*4),.p b (a7+k*4),.i (y.e),.p w.heap.size 0,.i (x.e),.b true,.b true,.u,.u,.u,.u,.u,.u,.u,.u] (λ_ _ _=>True) ?_ ?_
  .intro i hi o D a wx z Z Y vs V
   have c7:=bc Y bC D0;have c6:=bc Y hh x0
   match i,hi with
   |0,_|1,_|3,_|5,_|8,_=>exact sP D V z Z
   |2,_=>exact sI D V z Z (hr:=by clear Z z V;go_simp)
   |4,_|6,_=>exact sL D V z Z (hl:=F7 ‹_›)
   |9,_|10,_|11,_|12,_|13,_|14,_|15,_|16,_=>exact sB D V Z
   |7,_=>clear c7 c6;obtain rfl:=yP D;have d4:(a.tmps[18]?.getD Θ)=.int .i64 (y.e):=Bd Z 4;have d6:(a.tmps[20]?.getD Θ)=.int .i64 (x.e):=Bd Z 6;clear Z z;refine yO ?_;go_simp;exact V _ _ rfl (yN _ _)
   |_+17,hq=>omega
  intro K wx hR Y
  have q8:(K 8)=.bool true:=Be hR 8;have gP:(K 16)=Θ:=Be hR 16;clear hR;simp only[Aj,Ae,yL,yI,yJ,yH,q8,gP];simp;clear q8 gP;have nA:=(Y.cell (p:=⟨b,a7+k*4,none⟩) bC).trans D0;have nz:=(Y.cell (p:=⟨b,a7+k*4+1,none⟩) bC).trans D1;have ny:=(Y.cell (p:=⟨b,a7+k*4+2,none⟩) bC).trans D2;have nx:=(Y.cell (p:=⟨b,a7+k*4+3,none⟩) bC).trans D3;have fv:=z.trans (Y.mono z.size);have jN:=AA (AP.below bK Y);have iO:=AB HN Y;clear D0 D1 D2 D3;go_wp2_with (at_builtin;go_must (refine Bm (lo:=w.heap.size+1) (n:=ys.length) (xs:=Cb AZ ys) (m:=1) (news:=[.int .i64 y.e,.int .i64 y.p,.int .i64 y.f,.bool y.w]) rfl rfl 125 (.agg #[θ,θ,θ,υ]) 4 32 underlying26 Tryz.zP rfl ψ rfl (BC jN (AG _ _)) rfl (Rd.zM _ #[.int .i64 y.e,.int .i64 y.p,.int .i64 y.f,.bool y.w] _ 4 1 _ rfl χ ζ) (by simp[xR]) μ ω (by have:=fv.size;have:=AY iO;simp;omega) ?_;intro o' w9 k1 k2 k3 k4));go_roundw;exact⟨k+1,ω,ξ,by rw[cl.u];unfold AP;rw[Bq,Es,yz];exact k1,(fv.alloc fv.size _).trans (k4.mono (we _)),(k2.block w (by have:=AY iO;simp;omega) (λe=>by have:=(jN.lt _ e.symm).1;omega)).trans (AB iO (AG _ _))⟩;simp[intOf];omega
 obtain rfl:k=c.length:=ω;rw[xD] at a5;have fn:(c.filter λy=>!BR x.e x.p y).length<=c.length:=xG ..;have lL:=j8.u;generalize(c.filter λy=>!BR x.e x.p y)=F at*;have j8:=AA lL;clear lL;have nX:F.length<=4:=by have:=nj.u;omega
 obtain⟨x0,x1,x2,x3⟩:=AH hN;have hh:=AY hN;have HO:=AA a5
 by_cases h4:F.length=4
 focus
  have P:=AA (show Jo c x=F.drop 1++[x] by rw[j8.u,if_pos h4])
  obtain⟨q,a6,rfl,c1,c2,q1,q2,bY⟩:=a5.zW ω;unfold maxLen at c2;have nY:(4:Int)<=F.length:=ω;have H4:=AA h4;clear h4 a5;go_wp2_with fail;have RG:=AA (cZ (AP.rd HO.u) (by have:=H4.u;omega));have mK:(F.drop 1).length<=3:=by rw[xC];have:=H4.u;omega
  generalize F.drop 1=G at*;generalize(xv (some ⟨q,4,none⟩) (F.length - 1) (a6 - 1))=u5 at RG ⊢;clear HO
 rotate_left
 focus
  have P:=AA (show Jo c x=F++[x] by rw[j8.u,if_neg h4])
  obtain⟨_,_,e5,_,_⟩:=a5.rd.shape;have mn:¬(4:Int)<=F.length:=ω;have RG:=AA a5.rd;have mK:F.length<=3:=ω;clear h4 HO;cases e5;clear a5;go_wp2_with fail;generalize F=G at*;generalize(xv _ G.length _)=u5 at RG ⊢
 rotate_left
 all_goals
  refine BD 5 50 [.z,.v u5,.z,.a #[.int .i64 (x.e),.int .i64 (x.p),.int .i64 (x.f),.bool (x.w)],.z] (λix vv ww=>match ix with
   |0=>∃g,vv=.slice (some ⟨g,0,none⟩) 0 0/\wr.heap.size<=g/\ww.heap[g]?=some (.cells #[] 125 (0,0))
   |2=>AP wr.heap.size 125 4 AZ ww vv G
   |4=>∃g,vv=.slice (some ⟨g,0,none⟩) 1 1/\wr.heap.size<=g/\ww.heap[g]?=some (.cells #[x.e,x.p,x.f,x.w] 125 (0,0))
   |_=>True) ?_ ?_ ?_
  .intro i hi o D a wx z Z Y vs V
   match i,hi with
   |1,_=>exact sP D V z Z
   |3,_=>exact sL D V z Z (hl:=Wn (bc Y hh x0) (bc Y hh x1) (bc Y hh x2) (bc Y hh x3))
   |0,_=>obtain rfl:=yP D;clear Z z;refine yO ?_;go_simp;exact V _ _ ⟨_,rfl,Y.size,yy _ _⟩ (AG _ _)
   |2,_=>
    obtain rfl:=yP D;have d0:∃g,(a.tmps[44]?.getD Θ)=.slice (some ⟨g,0,none⟩) 0 0/\wr.heap.size<=g/\wx.heap[g]?=some (.cells #[] 125 (0,0)):=Bd Z 0
    have d1:(a.tmps[45]?.getD Θ)=u5:=Bd Z 1;clear Z z;refine yO ?_;obtain⟨g,mU,mT,mS⟩:=d0;obtain⟨v7,w4,fg,r1,r2,_⟩:=ED (lo:=wr.heap.size) (w:=wx) (t:=26) (ty:=26) 125 _ 4 32 underlying26 Tryz.zP rfl ψ mS mT (BN.below RG Y) (Ki _) ω;refine Bv rfl (Bs mU) (Bs d1) fg ?_;exact V _ _ r1 r2
   |4,_=>obtain rfl:=yP D;have d3:(a.tmps[47]?.getD Θ)=.agg #[.int .i64 (x.e),.int .i64 (x.p),.int .i64 (x.f),.bool (x.w)]:=Bd Z 3;clear Z z;refine yO ?_;go_simp;exact V _ _ ⟨_,rfl,Y.size,yy _ _⟩ (AG _ _)
  .intro i hi vv wz gM cF hz
   match i,hi with
   |0,_|4,_=>exact(by obtain⟨g,h0,H,A⟩:=hz;exact⟨g,h0,H,AB A cF⟩)
   |2,_=>exact(AP.below hz cF)
   |1,_|3,_=>exact hz
  intro K wx hR Y
  have q2:AP wr.heap.size 125 4 AZ wx (K 2) G:=Be hR 2;have q4:∃g,(K 4)=.slice (some ⟨g,0,none⟩) 1 1/\wr.heap.size<=g/\wx.heap[g]?=some (.cells #[x.e,x.p,x.f,x.w] 125 (0,0)):=Be hR 4
  clear hR;simp only[Aj,Ae,yL,yI,yJ,yH];simp;generalize K 2=z2 at q2 ⊢;generalize K 4=z4 at q4 ⊢;obtain⟨g4,rfl,_,q4⟩:=q4;have Q2:=AA q2;have Q4:=AA (Y6 q4);have fv:=J.trans (Y.mono J.size);have mt:=Y.size;obtain⟨_,_,rfl,_⟩:=q2.rd.shape;clear q2 q4 x0 x1 x2 x3;go_wp2_with (at_builtin;go_must (refine Bm (lo:=wr.heap.size) (n:=G.length) (xs:=Cb AZ G) (m:=1) (news:=[.int .i64 x.e,.int .i64 x.p,.int .i64 x.f,.bool x.w]) rfl rfl 125 (.agg #[θ,θ,θ,υ]) 4 32 underlying26 Tryz.zP rfl ψ rfl Q2 rfl Q4 (by simp[xR]) μ ω mt ?_;intro o' w9 k1 k2 k3 k4));go_ret;exact⟨_,rfl,by rw[P.u];unfold AP;rw[Bq,Es,yz];exact BS k1 J.size,fv.trans (k4.mono J.size)⟩
end Go.Proofs.YtlcnbkkcplllhaaGreatDoor
