/-
  Packed:23 texts.
-/
import Derived.Test.YtpdjjjdkhedibaaGreatDoorY1
import Derived.ArgAppend
import Derived.Test.YtpdjjjdkhedibaaGreatDoorY2
import Derived.StillTailTactics
import Derived.Ground.NamesProg
import Derived.Ground.Names2Prog
import Derived.Shelf.Slices.CompactI
import Derived.Shelf.Slices.Turned
import Derived.Shelf.Sort.Plain
import Derived.Shelf.Spec.SearchS
import Derived.Shelf.Spec.SlicesInsertGrow
import Derived.Shelf.Strings.Prefix
import Derived.Shelf.Strings.SlTrimAscii
import Derived.Test.YtpdjjjdkhedibaaGreatDoorProg
import Derived.Sort.OwnSortedInts
import Derived.Shelf.Slices.In.SortNone
set_option linter.unusedVariables false
set_option linter.unusedSimpArgs false
set_option maxHeartbeats 16000000
set_option maxRecDepth 100000
open Go Go.Proofs.YtpdjjjdkhedibaaGreatDoor
open _root_.Array renaming getElem?_eq_some_iff->wO
open Go.Builtin renaming append_->uE,lenOf->sZ
open Go.Lib renaming compact->xi,compactUpTo->uu,run_eql_slice_nil->wQ,toList_data->xz,trimS->uQ
open Go.Proofs.Tryz renaming isAgg0->uA,isAgg29->tV,isAgg3->uX,isAgg4->uW,isAgg9->tK,results104->vl,sizeOf0->uJ,sizeOf174->sM,sizeOf29->uf,sizeOf3->vq,sizeOf4->vp,sizeOf9->tW,zeroValue0->vm,zeroValue174->tg,zeroValue29->uC,zeroValue3->vV,zeroValue4->vU,zeroValue5->sV,zeroValue9->ux
open Go.RowKit.Below renaming refl->yD
open Go.Shelf renaming Ren->vB
open Go.Value renaming int->yf,oneCell'->xD,ownBlock->uP
open Go.World renaming block_lt_of_cell?->yA,ownsRow_nil->xm,size_alloc->xv
open Go renaming bodyPost_ret->yk,cell_of_row->yi,cell_regrown->xY,heap_alloc_new->yv
open List renaming all_eq_true->yd,count_le_length->vN,dropWhile_cons->tF,eq_nil_of_length_eq_zero->xO,getElem?_eq_getElem->yu,getElem?_eq_none->tO,getElem?_eq_some_iff->yr,getElem?_of_mem->xj,getElem?_set->we,getElem_of_mem->wP,length_append->yj,length_map->ui,length_nil->wW,length_set->xS,length_take->xT,map_append->xE,mem_append->wC,mem_cons_of_mem->tJ,mem_cons_self->vz,mem_flatMap->wV,mem_map->uI,mem_range->xU,mem_reverse->vy,mem_singleton->xx,range->yC,range_succ->wZ,replicate->xV,take_length->xt,take_of_length_le->wD
open Nat renaming le_refl->yt,le_trans->yB,mul_comm->tP,mul_le_mul_right->vE,mul_one->wl,not_lt_zero->xP,zero_le->yh
variable {ns:List Nat} {u v:Value} {f n:Nat} {l:List AU} {w':World} {kind:Int} {ss:List ByteArray}
namespace Go.Proofs.YtpdjjjdkhedibaaGreatDoor
open Go.Proofs.Tryz
open Go.RowKit
theorem DZ{lo:Nat}{w:World}{t ty:TypeId}(e:TypeId)(z:Value)(sz bytes:Nat)(ht:prog.underlying t=some (.slice e))(hi:(prog.info? e).map (λi=>(i.zero,i.size,i.bytes))=some (some z,sz,bytes))
 (dx:z.cells.size=sz)(cO:0<sz){g:Nat}(hb:w.heap[g]?=some (.cells #[] e (0,0)))(bx:lo<=g){u:Value}{m:Nat}{news:List Value}(hr:Rd w u sz m news)(h1:∀u∈news,u.oneCell'=true)
 (cu:m*bytes<=140737488355328):∃v' w',(uE #[t,t] ty #[.slice (some ⟨g,0,none⟩) 0 0,u]).run prog w=.ok v' w'/\w'.ownsRow lo e sz v' m news/\Below w.heap.size w w'/\(∀k,v'.ownBlock=some k->k=g∨w.heap.size<=k):=by
 obtain⟨i0,da,dA,dz,dy⟩:=info_parts hi;obtain⟨ao,c,rfl,dQ,ae,hl,am,hc⟩:=hr;have dl:g<w.heap.size:=(wO.1 hb).1;have ar:∀l,l<=g->w.ownsRow l e sz (.slice (some ⟨g,0,none⟩) 0 0) 0 []:=λl hl=>⟨by simp,.inr ⟨g,0,#[],rfl,hl,hb,yt _,by simp[maxLen],by simp,by simp⟩⟩
 rcases Nat.eq_zero_or_pos m with rfl|hm
 .have cK:news=[]:=xO (by simpa using hl)
  subst cK;cases ao with
  |none=>have bz:=am rfl;subst bz;exact⟨_,w,by simp[uE,run_underlying ht,sizeOf,typeInfo,da,sZ,Builtin.firstCells,storeCells],ar lo bx,yD _ _,λk hk=>by simp[uP] at hk;exact .inl hk.symm⟩
  |some a=>have hf:=run_firstCells_some (P:=prog) w i0.size 0 a 0 c [] (by simp) (by simp);exact⟨_,w,by simp[uE,run_underlying ht,sizeOf,typeInfo,da,sZ,hf,storeCells],ar lo bx,yD _ _,λk hk=>by simp[uP] at hk;exact .inl hk.symm⟩
 .obtain⟨b,aq,rfl,a6⟩:=hc hm
  obtain⟨v',w',c0,r1,r2⟩:=run_append_arg_grows (P:=prog) w t ty e i0 z sz bytes ht da dA dz dy dx cO ⟨g,0,none⟩ 0 0 [] (by simp) (by simp) ⟨b,aq,none⟩ m c news hl (by
   intro j u hu;have hj:j<news.length:=(yr.1 hu).1;have de:(⟨b,aq,none⟩:Addr).add j=⟨b,aq+j,none⟩:=by unfold Addr.add;split<;>simp_all
   rw[de,a6 j (by omega),hu]) (by omega) (by omega) (by rw[Nat.zero_add];exact cu)
  have hB:=Below.zu r2;have di:w'.ownsRow w.heap.size e sz v' m news:=by simpa using r1
  exact⟨v',w',c0,BO di (by omega),hB,λk hk=> .inr (di.lt k hk).1⟩
theorem SL{w:World}{vs:List Value}{m:List (List Int)}(h:Fh (Aw w) vs m):∀u∈Ci GC vs,u.oneCell'=true:=by
 intro u hu;obtain⟨x,hx,hs⟩:=wV.1 hu;simp[GC] at hs;subst hs;obtain⟨i,hi⟩:=xj hx;obtain⟨r,hr⟩:∃r,m[i]?=some r:=⟨_,yu (by rw[<-h.1];exact(yr.1 hi).1)⟩
 obtain⟨a,c,rfl,_⟩:=(h.2 i _ r hi hr).open;rfl
theorem Xl{w:World}{ps:List (Value×Int)}{es:List EU}(h:Fh (λp e=>BR w p.1 e.zT/\p.2=e.root) ps es):∀u∈Ci Ec ps,u.oneCell'=true:=by
 intro u hu;obtain⟨x,hx,hs⟩:=wV.1 hu;obtain⟨i,hi⟩:=xj hx;obtain⟨r,hr⟩:∃r,es[i]?=some r:=⟨_,yu (by rw[<-h.1];exact(yr.1 hi).1)⟩
 obtain⟨a,c,e,_⟩:=BD.shape (h.2 i _ r hi hr).1;simp[Ec] at hs
 rcases hs with rfl|rfl
 .rw[e];rfl
 .rfl
theorem Tryz.zE:(prog.info? 92).map (λi=>(i.zero,i.size,i.bytes))=some (some (.agg #[.int .i64 0,.string ⟨#[]⟩,.int .i64 0]),3,32):=by kernel_rfl
theorem Jt(v:Value)(xs:List AU)(w:World)(h:BD 3 A2 w v xs)(hs:xs.length<=1048576):
 Calls prog 117 #[v] w λe w'=>∃v',e=.returned v'/\AQ w.heap.size 92 3 A2 w' v' xs/\Below w.heap.size w w':=by
 have au:∀u∈Ci A2 xs,u.oneCell'=true:=by
  intro u hu;obtain⟨s,_,hs⟩:=wV.1 hu;simp[A2] at hs
  rcases hs with rfl|rfl|rfl<;>rfl
 have h':=h;obtain⟨a,c,rfl,bw,ae,hl,am,hc⟩:=h';have hq:=λw=>wQ (P:=prog) w 24 92 a xs.length c 0 0 underlying24
 have a7:=AA au;clear au;cases a with
 |none=>have bz:=am rfl;subst bz;have h0:xs=[]:=xO (by omega);subst h0;simp only[wW] at hq;go_in;go_wp2;go_ret;exact⟨_,rfl,xm _ _ _ _,yD _ _⟩
 |some ad=>clear hc am;have bb:(Ci A2 xs).length=xs.length*3:=hl;have Hl:=AA bb;clear hl bb;go_in;go_wp2_with (refine El (lo:=w.heap.size) (v:=.slice (some ⟨w.heap.size,0,none⟩) 0 0) (n:=0) (xs:=[]) (m:=xs.length) (news:=Ci A2 xs) rfl rfl 92 (.agg #[.int .i64 0,.string ⟨#[]⟩,.int .i64 0]) 3 32 underlying24 Tryz.zE rfl (by decide) rfl (Cp _ _ _) rfl (Rd.alloc h _) a7.out (by unfold maxLen;omega) (by omega) (by simp) ?_;intro v' w' ar _ ab);go_ret;refine⟨_,rfl,by simpa[AQ] using ar,((yD _ _).alloc (yt _) _).trans ab⟩
theorem Tryz.infoEnvK:(prog.info? 74).map (λi=>(i.zero,i.size,i.bytes))=some (some (.agg #[.slice none 0 0,.int .i64 0]),2,32):=by kernel_rfl
theorem Sl(v:Value)(xs:List (Value×Int))(w:World)(h:BD 2 Ec w v xs)(hs:xs.length<=1048576)(au:∀u∈Ci Ec xs,u.oneCell'=true):
 Calls prog 118 #[v] w λe w'=>∃v',e=.returned v'/\AQ w.heap.size 74 2 Ec w' v' xs/\Below w.heap.size w w':=by
 have h':=h;obtain⟨a,c,rfl,bw,ae,hl,am,hc⟩:=h';have hq:=λw=>wQ (P:=prog) w 25 74 a xs.length c 0 0 underlying25
 have a7:=AA au;clear au;cases a with
 |none=>have bz:=am rfl;subst bz;have h0:xs=[]:=xO (by omega);subst h0;simp only[wW] at hq;go_in;go_wp2;go_ret;exact⟨_,rfl,xm _ _ _ _,yD _ _⟩
 |some ad=>clear hc am;have bb:(Ci Ec xs).length=xs.length*2:=hl;have Hl:=AA bb;clear hl bb;go_in;go_wp2_with (refine El (lo:=w.heap.size) (v:=.slice (some ⟨w.heap.size,0,none⟩) 0 0) (n:=0) (xs:=[]) (m:=xs.length) (news:=Ci Ec xs) rfl rfl 74 (.agg #[.slice none 0 0,.int .i64 0]) 2 32 underlying25 Tryz.infoEnvK rfl (by decide) rfl (Cp _ _ _) rfl (Rd.alloc h _) a7.out (by unfold maxLen;omega) (by omega) (by simp) ?_;intro v' w' ar _ ab);go_ret;refine⟨_,rfl,by simpa[AQ] using ar,((yD _ _).alloc (yt _) _).trans ab⟩
theorem Tryz.zF:(prog.info? 112).map (λi=>(i.zero,i.size,i.bytes))=some (some (.agg #[.int .i64 0,.int .i64 0,.int .i64 0,.bool false]),4,32):=by kernel_rfl
theorem Kj(v:Value)(xs:List Al)(w:World)(h:BD 4 Ag w v xs)(hs:xs.length<=1048576):
 Calls prog 119 #[v] w λe w'=>∃v',e=.returned v'/\AQ w.heap.size 112 4 Ag w' v' xs/\Below w.heap.size w w':=by
 have au:∀u∈Ci Ag xs,u.oneCell'=true:=by
  intro u hu;obtain⟨s,_,hs⟩:=wV.1 hu;simp[Ag] at hs
  rcases hs with rfl|rfl|rfl|rfl<;>rfl
 have h':=h;obtain⟨a,c,rfl,bw,ae,hl,am,hc⟩:=h';have hq:=λw=>wQ (P:=prog) w 26 112 a xs.length c 0 0 underlying26
 have a7:=AA au;clear au;cases a with
 |none=>have bz:=am rfl;subst bz;have h0:xs=[]:=xO (by omega);subst h0;simp only[wW] at hq;go_in;go_wp2;go_ret;exact⟨_,rfl,xm _ _ _ _,yD _ _⟩
 |some ad=>clear hc am;have bb:(Ci Ag xs).length=xs.length*4:=hl;have Hl:=AA bb;clear hl bb;go_in;go_wp2_with (refine El (lo:=w.heap.size) (v:=.slice (some ⟨w.heap.size,0,none⟩) 0 0) (n:=0) (xs:=[]) (m:=xs.length) (news:=Ci Ag xs) rfl rfl 112 (.agg #[.int .i64 0,.int .i64 0,.int .i64 0,.bool false]) 4 32 underlying26 Tryz.zF rfl (by decide) rfl (Cp _ _ _) rfl (Rd.alloc h _) a7.out (by unfold maxLen;omega) (by omega) (by simp) ?_;intro v' w' ar _ ab);go_ret;refine⟨_,rfl,by simpa[AQ] using ar,((yD _ _).alloc (yt _) _).trans ab⟩
def Cw(x:Bk):List Value:=[.int .i64 x.w,.int .i64 x.a,.bool x.u]
theorem DT(x:Bk):(Cw x).length=3:=rfl
theorem Tryz.zj:(prog.info? 43).map (λi=>(i.zero,i.size,i.bytes))=some (some (.agg #[.int .i64 0,.int .i64 0,.bool false]),3,24):=by kernel_rfl
theorem Qi(v:Value)(xs:List Bk)(w:World)(h:BD 3 Cw w v xs)(hs:xs.length<=1048576):
 Calls prog 66 #[v] w λe w'=>∃v',e=.returned v'/\AQ w.heap.size 43 3 Cw w' v' xs/\Below w.heap.size w w':=by
 have au:∀u∈Ci Cw xs,u.oneCell'=true:=by
  intro u hu;obtain⟨s,_,hs⟩:=wV.1 hu;simp[Cw] at hs
  rcases hs with rfl|rfl|rfl<;>rfl
 have h':=h;obtain⟨a,c,rfl,bw,ae,hl,am,hc⟩:=h';have hq:=λw=>wQ (P:=prog) w 30 43 a xs.length c 0 0 underlying30
 have a7:=AA au;clear au;cases a with
 |none=>have bz:=am rfl;subst bz;have h0:xs=[]:=xO (by omega);subst h0;simp only[wW] at hq;go_in;go_wp2;go_ret;exact⟨_,rfl,xm _ _ _ _,yD _ _⟩
 |some ad=>clear hc am;have bb:(Ci Cw xs).length=xs.length*3:=hl;have Hl:=AA bb;clear hl bb;go_in;go_wp2_with (refine El (lo:=w.heap.size) (v:=.slice (some ⟨w.heap.size,0,none⟩) 0 0) (n:=0) (xs:=[]) (m:=xs.length) (news:=Ci Cw xs) rfl rfl 43 (.agg #[.int .i64 0,.int .i64 0,.bool false]) 3 24 underlying30 Tryz.zj rfl (by decide) rfl (Cp _ _ _) rfl (Rd.alloc h _) a7.out (by unfold maxLen;omega) (by omega) (by simp) ?_;intro v' w' ar _ ab);go_ret;refine⟨_,rfl,by simpa[AQ] using ar,((yD _ _).alloc (yt _) _).trans ab⟩
theorem Tryz.zJ:(prog.info? 9).map (λi=>(i.zero,i.size,i.bytes))=some (some (.string ⟨#[]⟩),1,16):=by kernel_rfl
theorem Oe(v:Value)(xs:List ByteArray)(w:World)(h:BD 1 BB w v xs)(hs:xs.length<=1048576):
 Calls prog 120 #[v] w λe w'=>∃v',e=.returned v'/\AQ w.heap.size 9 1 BB w' v' xs/\Below w.heap.size w w':=by
 have au:∀u∈Ci BB xs,u.oneCell'=true:=by intro u hu;obtain⟨s,_,hs⟩:=wV.1 hu;simp[BB] at hs;subst hs;rfl
 have h':=h;obtain⟨a,c,rfl,bw,ae,hl,am,hc⟩:=h';have hq:=λw=>wQ (P:=prog) w 72 9 a xs.length c 0 0 underlying72
 have a7:=AA au;clear au;cases a with
 |none=>have bz:=am rfl;subst bz;have h0:xs=[]:=xO (by omega);subst h0;simp only[wW] at hq;go_in;go_wp2;go_ret;exact⟨_,rfl,xm _ _ _ _,yD _ _⟩
 |some ad=>clear hc am;have bb:(Ci BB xs).length=xs.length*1:=hl;have Hl:=AA bb;clear hl bb;go_in;go_wp2_with (refine El (lo:=w.heap.size) (v:=.slice (some ⟨w.heap.size,0,none⟩) 0 0) (n:=0) (xs:=[]) (m:=xs.length) (news:=Ci BB xs) rfl rfl 9 (.string ⟨#[]⟩) 1 16 underlying72 Tryz.zJ rfl (by decide) rfl (Cp _ _ _) rfl (Rd.alloc h _) a7.out (by unfold maxLen;omega) (by omega) (by simp) ?_;intro v' w' ar _ ab);go_ret;refine⟨_,rfl,by simpa[AQ] using ar,((yD _ _).alloc (yt _) _).trans ab⟩
theorem Tryz.infoRowsK:(prog.info? 29).map (λi=>(i.zero,i.size,i.bytes))=some (some (.slice none 0 0),1,24):=by kernel_rfl
theorem L6(v:Value)(xs:List Value)(w:World)(h:BD 1 GC w v xs)(hs:xs.length<=1048576)(au:∀u∈Ci GC xs,u.oneCell'=true):
 Calls prog 121 #[v] w λe w'=>∃v',e=.returned v'/\AQ w.heap.size 29 1 GC w' v' xs/\Below w.heap.size w w':=by
 have h':=h;obtain⟨a,c,rfl,bw,ae,hl,am,hc⟩:=h';have hq:=λw=>wQ (P:=prog) w 23 29 a xs.length c 0 0 underlying23
 have a7:=AA au;clear au;cases a with
 |none=>have bz:=am rfl;subst bz;have h0:xs=[]:=xO (by omega);subst h0;simp only[wW] at hq;go_in;go_wp2;go_ret;exact⟨_,rfl,xm _ _ _ _,yD _ _⟩
 |some ad=>clear hc am;have bb:(Ci GC xs).length=xs.length*1:=hl;have Hl:=AA bb;clear hl bb;go_in;go_wp2_with (refine El (lo:=w.heap.size) (v:=.slice (some ⟨w.heap.size,0,none⟩) 0 0) (n:=0) (xs:=[]) (m:=xs.length) (news:=Ci GC xs) rfl rfl 29 (.slice none 0 0) 1 24 underlying23 Tryz.infoRowsK rfl (by decide) rfl (Cp _ _ _) rfl (Rd.alloc h _) a7.out (by unfold maxLen;omega) (by omega) (by simp) ?_;intro v' w' ar _ ab);go_ret;refine⟨_,rfl,by simpa[AQ] using ar,((yD _ _).alloc (yt _) _).trans ab⟩
end Go.Proofs.YtpdjjjdkhedibaaGreatDoor
namespace Go.Proofs
open Go.Shelf
def Tryz.lays189_ren:vB:=⟨fun|189=>155|125=>203|257=>202|128=>248|129=>249|294=>239|295=>240|296=>241|297=>242|298=>243|299=>244|216=>245|300=>246|301=>247|328=>267|329=>268|330=>269|331=>270|332=>271|215=>272|343=>283|n=>n,fun|28=>29|3=>3|46=>174|0=>0|51=>210|53=>212|4=>4|183=>203|182=>202|131=>97|5=>5|9=>9|218=>223|222=>186|228=>232|229=>123|n=>n,fun|n=>n⟩
theorem Tryz.lays189:Go.Proofs.Lays.n189 prog Tryz.lays189_ren:= {
 mixed:=by kernel_rfl
 f125:=func203.trans (congrArg some (by kernel_rfl))
 f128:=func248.trans (congrArg some (by kernel_rfl))
 f129:=func249.trans (congrArg some (by kernel_rfl))
 f189:=func155.trans (congrArg some (by kernel_rfl))
 f215:=func272.trans (congrArg some (by kernel_rfl))
 f216:=func245.trans (congrArg some (by kernel_rfl))
 f257:=func202.trans (congrArg some (by kernel_rfl))
 f294:=func239.trans (congrArg some (by kernel_rfl))
 f295:=func240.trans (congrArg some (by kernel_rfl))
 f296:=func241.trans (congrArg some (by kernel_rfl))
 f297:=func242.trans (congrArg some (by kernel_rfl))
 f298:=func243.trans (congrArg some (by kernel_rfl))
 f299:=func244.trans (congrArg some (by kernel_rfl))
 f300:=func246.trans (congrArg some (by kernel_rfl))
 f301:=func247.trans (congrArg some (by kernel_rfl))
 f328:=func267.trans (congrArg some (by kernel_rfl))
 f329:=func268.trans (congrArg some (by kernel_rfl))
 f330:=func269.trans (congrArg some (by kernel_rfl))
 f331:=func270.trans (congrArg some (by kernel_rfl))
 f332:=func271.trans (congrArg some (by kernel_rfl))
 f343:=func283.trans (congrArg some (by kernel_rfl))
 t0:=underlying0
 a0:=uA
 z0:=uJ
 v0:=vm
 t3:=underlying3
 a3:=uX
 z3:=vq
 v3:=vV
 t4:=underlying4
 a4:=uW
 z4:=vp
 v4:=vU
 t5:=underlying5
 a5:=Tryz.isAgg5
 z5:=Tryz.sizeOf5
 v5:=sV
 t9:=underlying9
 a9:=tK
 z9:=tW
 v9:=ux
 t28:=underlying29
 a28:=tV
 z28:=uf
 v28:=uC
 t46:=underlying174
 a46:=Tryz.isAgg174
 z46:=sM
 v46:=tg
 t51:=underlying210
 a51:=Tryz.isAgg210
 z51:=Tryz.sizeOf210
 v51:=Tryz.zeroValue210
 t53:=underlying212
 a53:=Tryz.isAgg212
 z53:=Tryz.sizeOf212
 v53:=Tryz.zeroValue212
 t131:=underlying97
 a131:=Tryz.isAgg97
 z131:=Tryz.sizeOf97
 v131:=Tryz.zeroValue97
 t182:=underlying202
 a182:=Tryz.isAgg202
 z182:=Tryz.sizeOf202
 v182:=Tryz.zeroValue202
 t183:=underlying203
 a183:=Tryz.isAgg203
 z183:=Tryz.sizeOf203
 v183:=Tryz.zeroValue203
 t218:=underlying223
 a218:=Tryz.isAgg223
 z218:=Tryz.sizeOf223
 v218:=Tryz.zeroValue223
 t222:=underlying186
 a222:=Tryz.isAgg186
 z222:=Tryz.sizeOf186
 v222:=Tryz.zeroValue186
 t228:=underlying232
 a228:=Tryz.isAgg232
 z228:=Tryz.sizeOf232
 v228:=Tryz.zeroValue232
 t229:=underlying123
 a229:=Tryz.isAgg123
 z229:=Tryz.sizeOf123
 v229:=Tryz.zeroValue123}
def Tryz.lays2n20_ren:vB:=⟨fun|20=>156|n=>n,fun|22=>29|3=>3|4=>4|0=>0|n=>n,fun|n=>n⟩
theorem Tryz.lays2n20:Go.Proofs.Lays2.n20 prog Tryz.lays2n20_ren:= {
 mixed:=by kernel_rfl
 f20:=func156.trans (congrArg some (by kernel_rfl))
 t0:=underlying0
 a0:=uA
 z0:=uJ
 v0:=vm
 t3:=underlying3
 a3:=uX
 z3:=vq
 v3:=vV
 t4:=underlying4
 a4:=uW
 z4:=vp
 v4:=vU
 t22:=underlying29
 a22:=tV
 z22:=uf
 v22:=uC
 i3:=by kernel_rfl}
def Tryz.lays107_ren:vB:=⟨fun|107=>251|108=>273|n=>n,fun|28=>29|3=>3|4=>4|0=>0|n=>n,fun|n=>n⟩
theorem Tryz.lays107:Go.Proofs.Lays.n107 prog Tryz.lays107_ren:= {
 mixed:=by kernel_rfl
 f107:=func251.trans (congrArg some (by kernel_rfl))
 f108:=func273.trans (congrArg some (by kernel_rfl))
 t0:=underlying0
 a0:=uA
 z0:=uJ
 v0:=vm
 t3:=underlying3
 a3:=uX
 z3:=vq
 v3:=vV
 t4:=underlying4
 a4:=uW
 z4:=vp
 v4:=vU
 t28:=underlying29
 a28:=tV
 z28:=uf
 v28:=uC}
def Tryz.lays160_ren:vB:=⟨fun|160=>200|232=>233|231=>232|227=>234|234=>236|233=>235|236=>238|235=>237|228=>263|271=>266|151=>265|197=>264|120=>282|152=>281|260=>280|137=>287|119=>288|224=>289|225=>290|217=>292|266=>293|n=>n,fun|9=>9|4=>4|3=>3|5=>5|117=>197|116=>196|0=>0|124=>200|21=>21|105=>220|46=>174|119=>235|139=>238|138=>237|n=>n,fun|3=>0|4=>1|n=>n⟩
theorem Tryz.lays160:Go.Proofs.Lays.n160 prog Tryz.lays160_ren:= {
 mixed:=by kernel_rfl
 f119:=func288.trans (congrArg some (by kernel_rfl))
 f120:=func282.trans (congrArg some (by kernel_rfl))
 f137:=func287.trans (congrArg some (by kernel_rfl))
 f151:=func265.trans (congrArg some (by kernel_rfl))
 f152:=func281.trans (congrArg some (by kernel_rfl))
 f160:=func200.trans (congrArg some (by kernel_rfl))
 f197:=func264.trans (congrArg some (by kernel_rfl))
 f217:=func292.trans (congrArg some (by kernel_rfl))
 f224:=func289.trans (congrArg some (by kernel_rfl))
 f225:=func290.trans (congrArg some (by kernel_rfl))
 f227:=func234.trans (congrArg some (by kernel_rfl))
 f228:=func263.trans (congrArg some (by kernel_rfl))
 f231:=func232.trans (congrArg some (by kernel_rfl))
 f232:=func233.trans (congrArg some (by kernel_rfl))
 f233:=func235.trans (congrArg some (by kernel_rfl))
 f234:=func236.trans (congrArg some (by kernel_rfl))
 f235:=func237.trans (congrArg some (by kernel_rfl))
 f236:=func238.trans (congrArg some (by kernel_rfl))
 f260:=func280.trans (congrArg some (by kernel_rfl))
 f266:=func293.trans (congrArg some (by kernel_rfl))
 f271:=func266.trans (congrArg some (by kernel_rfl))
 t0:=underlying0
 a0:=uA
 z0:=uJ
 v0:=vm
 t3:=underlying3
 a3:=uX
 z3:=vq
 v3:=vV
 t4:=underlying4
 a4:=uW
 z4:=vp
 v4:=vU
 t5:=underlying5
 a5:=Tryz.isAgg5
 z5:=Tryz.sizeOf5
 v5:=sV
 t9:=underlying9
 a9:=tK
 z9:=tW
 v9:=ux
 t21:=underlying21
 a21:=Tryz.isAgg21
 z21:=Tryz.sizeOf21
 v21:=Tryz.zeroValue21
 t46:=underlying174
 a46:=Tryz.isAgg174
 z46:=sM
 v46:=tg
 t105:=underlying220
 a105:=Tryz.isAgg220
 z105:=Tryz.sizeOf220
 v105:=Tryz.zeroValue220
 t116:=underlying196
 a116:=Tryz.isAgg196
 z116:=Tryz.sizeOf196
 t117:=underlying197
 a117:=Tryz.isAgg197
 z117:=Tryz.sizeOf197
 v117:=Tryz.zeroValue197
 t119:=underlying235
 a119:=Tryz.isAgg235
 z119:=Tryz.sizeOf235
 t124:=underlying200
 a124:=Tryz.isAgg200
 z124:=Tryz.sizeOf200
 v124:=Tryz.zeroValue200
 t138:=underlying237
 a138:=Tryz.isAgg237
 z138:=Tryz.sizeOf237
 v138:=Tryz.zeroValue237
 t139:=underlying238
 a139:=Tryz.isAgg238
 z139:=Tryz.sizeOf238
 v139:=Tryz.zeroValue238
 g3:=by kernel_rfl
 g4:=by kernel_rfl}
def Tryz.lays99_ren:vB:=⟨fun|99=>111|206=>163|n=>n,fun|9=>9|4=>4|3=>3|n=>n,fun|n=>n⟩
theorem Tryz.lays99:Go.Proofs.Lays.n99 prog Tryz.lays99_ren:= {
 mixed:=by kernel_rfl
 f99:=func111.trans (congrArg some (by kernel_rfl))
 f206:=func163.trans (congrArg some (by kernel_rfl))
 t3:=underlying3
 a3:=uX
 z3:=vq
 v3:=vV
 t4:=underlying4
 a4:=uW
 z4:=vp
 v4:=vU
 t9:=underlying9
 a9:=tK
 z9:=tW
 v9:=ux}
end Go.Proofs
namespace Go.Proofs.YtpdjjjdkhedibaaGreatDoor
open Go.Proofs.Tryz
open Go.RowKit Go.Shelf
theorem RZ(l cs:List UInt8):Lib.trimLeftS l cs=[]↔∀b∈l,cs.contains b=true:=by
 unfold Lib.trimLeftS
 induction l with
 |nil=>simp
 |cons x l ih=>
  rw[tF]
  by_cases hx:cs.contains x=true
  .rw[if_pos hx,ih]
   constructor
   .intro h b hb
    rcases List.mem_cons.1 hb with e|e
    .subst e;exact hx
    .exact h b e
   .intro h b hb
    exact h b (tJ _ hb)
  .rw[if_neg hx]
   constructor
   .intro h;cases h
   .intro h;exact absurd (h x vz) hx
theorem ZP(l cs:List UInt8):uQ l cs=[]↔∀b∈l,cs.contains b=true:=by
 unfold uQ;rw[RZ];unfold Lib.trimRightS;constructor
 .intro h b hb
  by_cases hc:cs.contains b=true
  .exact hc
  .refine h b ?_
   have h2:b∈l.reverse:=vy.2 hb;have:∀l':List UInt8,b∈l'->b∈l'.dropWhile (cs.contains ·):=by
    intro l'
    induction l' with
    |nil=>intro h;exact h
    |cons x l' ih=>
     intro h;rw[tF]
     split
     .next hx=>
      rcases List.mem_cons.1 h with e|e
      .subst e;exact absurd hx hc
      .exact ih e
     .exact h
   exact vy.2 (this _ h2)
 .intro h b hb
  exact h b (vy.1 ((List.dropWhile_sublist _).subset (vy.1 hb)))
theorem Pm(c:UInt8):([97,98,99]:List UInt8).contains c=FI c:=by
 have h:∀n:Fin 256,([97,98,99]:List UInt8).contains ⟨⟨n⟩⟩=FI ⟨⟨n⟩⟩:=by decide+kernel
 exact h c.toBitVec.toFin
theorem Ti(s:ByteArray)(h:s.size<=4):(Value.string ⟨(uQ s.data.toList [97,98,99]).toArray⟩=.string ⟨#[]⟩)↔BP s=true:=by
 have e:BP s=s.data.toList.all FI:=by simp[BP,h]
 rw[e,yd];have t:=ZP s.data.toList [97,98,99];constructor
 .intro hv b hb
  have:uQ s.data.toList [97,98,99]=[]:=by simp only[Value.string.injEq,ByteArray.mk.injEq] at hv;have:=congrArg Array.toList hv;simpa using this
  rw[<-Pm];exact t.1 this b hb
 .intro ha
  rw[t.2 (λb hb=>by rw[Pm];exact ha b hb)]
theorem isEmpty_iff(r:ByteArray):r.toList.isEmpty=true↔r=⟨#[]⟩:=by rw[xz,List.isEmpty_iff];obtain⟨⟨l⟩⟩:=r;simp
theorem Fj(s:ByteArray)(w:World)(hs:s.size<=maxLen):
 Calls prog 151 #[.string s] w λe w'=>e=.returned (.bool (BP s))/\Below w.heap.size w w':=by
 unfold maxLen at hs
 by_cases h4:s.size<=4
 .have cq:=Any.strings_Trim_laid Tryz.lays160 (by kernel_rfl) s ⟨#[97,98,99]⟩ w (by omega) (by decide) (ascii_of_all (by decide))
  change Calls prog 200 _ _ (λe w'=>e=.returned (.string ⟨(uQ s.data.toList [97,98,99]).toArray⟩)/\Below w.heap.size w w') at cq
  have R:=AA (Ti s h4);have i4:(s.size:Int)<=4:=by omega
  generalize(⟨(uQ s.data.toList [97,98,99]).toArray⟩:ByteArray)=r at cq R;go_in;go_wp2_with fail;refine cq.mono ?_;rintro e w1 ⟨rfl,hb⟩;have S:Hid (r.toList.isEmpty=BP s):=AA (by rw[Bool.eq_iff_iff,<-R.out,isEmpty_iff];simp)
  go_wp2_with fail;go_ret;exact⟨AI S.out,hb⟩
 .have S:=AA (show BP s=false by simp[BP,h4])
  have i4:¬(s.size:Int)<=4:=by omega
  go_in;go_wp2_with fail;go_ret;exact⟨AI S.out.symm,yD _ _⟩
end Go.Proofs.YtpdjjjdkhedibaaGreatDoor
namespace Go.Proofs.YtpdjjjdkhedibaaGreatDoor
open Go.Proofs.Tryz Go.RowKit Go.Shelf Go.Sort
def A0(ns:List Nat):List Int:=ns.map λn:Nat=>(n:Int)
theorem Cd(ns:List Nat):(A0 ns).length=ns.length:=by simp[A0]
theorem Ps{k:Nat}(h:k<ns.length):nth (A0 ns) k=((ns.getD k 0:Nat):Int):=by simp[nth,A0,h]
theorem KX{g:Nat}:(g:Int)∈A0 ns↔g∈ns:=by
 simp only[A0,uI];constructor
 .rintro⟨a,h,e⟩
  have:a=g:=by omega
  subst this;exact h
 .exact λh=>⟨g,h,rfl⟩
theorem SN{lo e:Nat}{w:World}{xs:List Value}(h:w.ownsRow lo e 1 v n xs)(hn:0<n):∃g bn ca,v=.slice (some ⟨g,0,none⟩) n bn/\lo<=g/\w.heap[g]?=some (.cells ca e (0,0))/\n<=bn/\bn<=maxLen/\ca.size=bn*1/\ca.toList.take (n*1)=xs:=by
 rcases h.2 with⟨rfl,rfl⟩|⟨g,bn,ca,rfl,hb,hg,bw,ae,co,htake⟩
 .have:=h.1;simp at this;omega
 .exact⟨g,bn,ca,rfl,hb,hg,bw,ae,co,htake⟩
theorem Me{lo:Nat}(v:Value)(ns:List Nat)(w:World)(h:AF lo w v (A0 ns))(hs:ns.length<=1048576):
 Calls prog 155 #[v] w λe w'=>e=.returned (.tuple #[])/\∃ts:List Nat,ts.length=ns.length/\(∀g,g∈ts↔g∈ns)/\AF lo w' v (A0 ts)/\w.grownBy w' v.ownBlock:=by
 by_cases h0:ns.length=0
 .obtain rfl:ns=[]:=xO h0
  obtain⟨a,c,rfl,_⟩:=h.rd.open;refine(Any.slices_Sort_int_none Tryz.lays189 a c w).mono ?_;rintro e w' ⟨rfl,rfl⟩;exact⟨rfl,[],rfl,λ_=>Iff.rfl,h,⟨rfl,rfl,rfl,yt _,λ_ _ _=>rfl⟩⟩
 .obtain⟨g,bn,ca,rfl,hg,hb,bw,ae,co,ht⟩:=SN h (by rw[Cd];omega)
  have hH:=holds_of_blockI (ss:=A0 ns) hb (by simpa using ht);have hl:(ns.mergeSort λx y=>decide (x<=y)).length=ns.length:=List.length_mergeSort _;have e1:(A0 ns).mergeSort (λx y=>decide (x<=y))=A0 (ns.mergeSort λx y=>decide (x<=y)):=by unfold A0;rw[List.map_mergeSort];intro a _ b _;simp
  refine(Any.slices_Sort_int Tryz.lays189 g 0 bn (A0 ns) w hH (wO.1 hb).1 (by rw[Cd];omega)).mono ?_;rintro e w' ⟨rfl,nn,os,rfl⟩;rw[e1];refine⟨rfl,_,hl,λg=>List.mem_mergeSort,?_,grownBy_sortedI _⟩;have:=ownsRow_sortedI (n:=nn) (os:=os) (ss:=A0 ns) (ts:=A0 (ns.mergeSort λx y=>decide (x<=y))) (by rw[Cd,Cd];exact hl) hg hb bw ae co;have el:(A0 (ns.mergeSort λx y=>decide (x<=y))).length=(A0 ns).length:=by rw[Cd,Cd];exact hl
  unfold AF;rw[el];exact this
theorem UJ(d:Array Int):∀m,m<=d.size->∀x,x∈uu d m↔∃j,j<m/\d[j]! =x:=by
 intro m
 induction m with
 |zero=>intro _ x;simp[uu]
 |succ m ih=>
  intro hm x;rw[Lib.compactUpTo_succ,wC,ih (by omega)];cases hk:Lib.keeps d m
  .have dG:m≠0/\d[m]! =d[m - 1]! :=by
    unfold Lib.keeps at hk;simp at hk;exact⟨by omega,hk.2⟩
   constructor
   .rintro(⟨j,hj,h⟩|h)
    .exact⟨j,by omega,h⟩
    .simp at h
   .rintro⟨j,hj,h⟩
    by_cases e:j=m
    .subst e;exact .inl ⟨j - 1,by omega,by rw[<-dG.2];exact h⟩
    .exact .inl ⟨j,by omega,h⟩
  .constructor
   .rintro(⟨j,hj,h⟩|h)
    .exact⟨j,by omega,h⟩
    .simp at h;exact⟨m,by omega,h.symm⟩
   .rintro⟨j,hj,h⟩
    by_cases e:j=m
    .subst e;exact .inr (by simp[h])
    .exact .inl ⟨j,by omega,h⟩
theorem Mk(zs:List Int)(x:Int):x∈xi zs↔x∈zs:=by
 unfold xi;rw[UJ _ _ (by simp)];constructor
 .rintro⟨j,hj,rfl⟩
  simp[hj]
 .intro h
  obtain⟨j,hj,rfl⟩:=wP h;exact⟨j,hj,by simp[hj]⟩
theorem VY(zs:List Int):(xi zs).length<=zs.length:=by unfold xi uu;rw[ui];exact yB (List.length_filter_le _ _) (by simp)
theorem Wi{zs:List Int}(h:∀z∈zs,0<=z):A0 (zs.map Int.toNat)=zs:=by
 unfold A0;rw[List.map_map]
 conv=>rhs;rw[<-List.map_id zs]
 exact List.map_congr_left λz hz=>by have:=h z hz;simp;omega
theorem WA{lo e k:Nat}{w:World}{g bn:Nat}{xs:List Value}(h:w.ownsRow lo e 1 (.slice (some ⟨g,0,none⟩) n bn) n xs)(hk:k<=n):w.ownsRow lo e 1 (.slice (some ⟨g,0,none⟩) k bn) k (xs.take k):=by
 rcases h.2 with⟨h0,_⟩|⟨g',cap',ca,hv,hb,hg,bw,ae,co,htake⟩
 .cases h0
 .cases hv
  refine⟨by have:=h.1;simp at this;simp[this];omega,.inr ⟨g,bn,ca,rfl,hb,hg,by omega,ae,co,?_⟩⟩;rw[<-htake,List.take_take,wl,wl,Nat.min_eq_left hk]
theorem Kk{lo:Nat}(v:Value)(ns:List Nat)(w:World)(h:AF lo w v (A0 ns))(hs:ns.length<=1048576):
 Calls prog 156 #[v] w λe w'=>∃v',e=.returned v'/\v'.ownBlock=v.ownBlock/\∃ts:List Nat,ts.length<=ns.length/\(∀g,g∈ts↔g∈ns)/\AF lo w' v' (A0 ts)/\w.grownBy w' v.ownBlock:=by
 by_cases h0:ns.length=0
 .obtain rfl:ns=[]:=xO h0
  obtain⟨a,c,rfl,_⟩:=h.rd.open;refine(Any.slices_Compact_int_empty Tryz.lays2n20 a c w).mono ?_;rintro e w' ⟨rfl,rfl⟩;exact⟨_,rfl,rfl,[],yt _,λ_=>Iff.rfl,h,⟨rfl,rfl,rfl,yt _,λ_ _ _=>rfl⟩⟩
 .obtain⟨g,bn,ca,rfl,hg,hb,bw,ae,co,ht⟩:=SN h (by rw[Cd];omega)
  have hH:=holds_of_blockI (ss:=A0 ns) hb (by simpa using ht);have cJ:∀z∈xi (A0 ns),0<=z:=by intro z hz;rw[Mk] at hz;obtain⟨n,_,rfl⟩:=uI.1 hz;omega
  refine(Any.slices_Compact_int Tryz.lays2n20 g 0 bn (A0 ns) w hH (by rw[Cd];omega) bw).mono ?_;rintro e w' ⟨rfl,nn,rfl⟩;have c7:=VY (A0 ns);have hO:=ownsRow_sortedI (n:=nn) (os:= #[]) (ss:=A0 ns) (ts:=xi (A0 ns)++xV ((A0 ns).length - (xi (A0 ns)).length) 0) (by simp;omega) hg hb bw ae co;have hG:=grownBy_sortedI (w:=w) (g:=g) (n:=nn) (os:= #[]) (xi (A0 ns)++xV ((A0 ns).length - (xi (A0 ns)).length) 0).toArray;rw[grow_empty] at hO hG;refine⟨_,rfl,rfl,(xi (A0 ns)).map Int.toNat,by rw[ui];rw[Cd] at c7;exact c7,λg=>?_,?_,hG⟩
  .rw[<-KX,Wi cJ,Mk,KX]
  .rw[Wi cJ]
   have hP:=WA hO c7;unfold AF;have e:((xi (A0 ns)++xV ((A0 ns).length - (xi (A0 ns)).length) 0).map (yf .i64)).take (xi (A0 ns)).length=(xi (A0 ns)).map (yf .i64):=by rw[xE,List.take_left' (by simp)]
   rw[e] at hP;exact hP
theorem NX(v:Value)(ns:List Nat)(x:Int)(w:World)(h:Aw w v (A0 ns)):
 Calls prog 251 #[v,.int .i64 x] w λe w'=>e=.returned (.bool ((A0 ns).contains x))/\w=w':=by
 obtain⟨a,c,rfl,hc,ae,H0⟩:=h.open;unfold maxLen at ae
 by_cases h0:ns.length=0
 .obtain rfl:ns=[]:=xO h0
  refine(Any.slices_Contains_int_empty Tryz.lays107 a c x w).mono ?_;rintro e w' ⟨rfl,rfl⟩;exact⟨rfl,rfl⟩
 .obtain⟨b,aq,rfl,a6⟩:=H0 0 (by rw[Cd];omega)
  refine(Any.slices_Contains_int Tryz.lays107 b aq (A0 ns).length c (A0 ns) x w (yt _) (by omega) (λj hj=>a6 j hj)).mono ?_;rintro e w' ⟨rfl,rfl⟩;rw[xt];exact⟨rfl,rfl⟩
theorem Qj(s p:ByteArray)(w:World):Calls prog 111 #[.string s,.string p] w λe w'=>e=.returned (.bool (LC p s))/\w=w':=by refine(Any.strings_HasPrefix Tryz.lays99 s p w).mono ?_;rintro e w' ⟨rfl,rfl⟩;exact⟨rfl,rfl⟩
end Go.Proofs.YtpdjjjdkhedibaaGreatDoor
namespace Go.Proofs.YtpdjjjdkhedibaaGreatDoor
open Go.Proofs.Tryz Go.RowKit
theorem Oc(r:List Int):Kh r=Di r:=by
 unfold Kh Di;rw[Bool.and_comm]
 congr 1
theorem Mg{α:Type}{p:α->Bool}{l:List α}:(!l.any λx=>!p x)=l.all p:=by simp[List.all_eq_not_any_not]
theorem Na(u:Value)(r:List Int)(w:World)(h:Aw w u r):Calls prog 147 #[u] w λe w'=>e=.returned (.bool (!Di r))/\Below w.heap.size w w':=by have C:=AA (OL u r w h);clear h;go_in;go_wp2_with (refine(C.out).mono ?_;rintro e w' ⟨rfl,rfl⟩;rw[Oc]);go_ret;exact⟨rfl,yD _ _⟩
theorem Nb(v:Value)(m:List (List Int))(w:World)(h:Bf w v m):Calls prog 95 #[v] w λe w'=>e=.returned (.bool (Bs m))/\Below w.heap.size w w':=by
 have C:=AA (IV 147 #[] (λr=>!Di r) v m w h (λ_ _=>by kernel_rfl) (λu r _ W _ hr=>Na u r W hr));obtain⟨a,c,rfl,hc,ae,_⟩:=h.open;clear h;unfold maxLen at ae
 by_cases h4:m.length=12
 .have S:=AA (show(!m.any λr=>!Di r)=Bs m by rw[Mg];simp[Bs,h4])
  have hb:((m.length:Int)==12)=true:=by simp[h4]
  clear h4;go_in;go_wp2_with (refine(C.out).mono ?_;rintro e w' ⟨rfl,al⟩);go_ret;exact⟨AI S.out,al⟩
 .have S:=AA (show Bs m=false by simp[Bs,h4])
  have hb:((m.length:Int)==12)=false:=by simp;omega
  clear h4;go_in;go_wp2_with fail;go_ret;exact⟨AI S.out.symm,yD _ _⟩
def JG(r:List Int):Bool:=r.isEmpty||Di r
theorem Tp{r:List Int}(h:0<r.length):JG r=Di r:=by cases r with|nil=>simp at h|cons=>simp[JG]
theorem To{r:List Int}(h:¬0<r.length):JG r=true:=by cases r with|nil=>simp[JG]|cons=>simp at h
theorem PJ(u:Value)(r:List Int)(w:World)(h:Aw w u r):Calls prog 106 #[u] w λe w'=>e=.returned (.bool (!JG r))/\Below w.heap.size w w':=by
 have C:=AA (OL u r w h);obtain⟨a,c,rfl,hc,ae,_⟩:=h.open;clear h;unfold maxLen at ae
 by_cases h0:0<r.length
 .have S:=AA (show(!JG r)=!Di r by rw[Tp h0])
  have hb:(0:Int)<(r.length:Int):=by omega
  go_in;go_wp2_with (refine(C.out).mono ?_;rintro e w' ⟨rfl,rfl⟩;rw[Oc]);go_ret;exact⟨AI S.out.symm,yD _ _⟩
 .have S:=AA (show(!JG r)=false by rw[To h0];rfl)
  have hb:¬(0:Int)<(r.length:Int):=by omega
  go_in;go_wp2_with fail;go_ret;exact⟨AI S.out.symm,yD _ _⟩
theorem PK(v:Value)(m:List (List Int))(w:World)(h:Bf w v m):Calls prog 52 #[v] w λe w'=>e=.returned (.bool (FE m))/\Below w.heap.size w w':=by
 have C:=AA (IV 106 #[] (λr=>!JG r) v m w h (λ_ _=>by kernel_rfl) (λu r _ W _ hr=>PJ u r W hr));obtain⟨a,c,rfl,hc,ae,_⟩:=h.open;clear h;unfold maxLen at ae
 by_cases h4:m.length=16
 .have S:=AA (show(!m.any λr=>!JG r)=FE m by rw[Mg];simp[FE,h4];rfl)
  have hb:((m.length:Int)==16)=true:=by simp[h4]
  clear h4;go_in;go_wp2_with (refine(C.out).mono ?_;rintro e w' ⟨rfl,al⟩);go_ret;exact⟨AI S.out,al⟩
 .have S:=AA (show FE m=false by simp[FE,h4])
  have hb:((m.length:Int)==16)=false:=by simp;omega
  clear h4;go_in;go_wp2_with fail;go_ret;exact⟨AI S.out.symm,yD _ _⟩
def IF(xs:List AU):Prop:=∀x∈xs,x.g.size<=maxLen
def YG(x:AU):Bool:=Be x.k 1 3&&BP x.g&&Be x.r 0 50
theorem UY:DI AU.zero=true:=by simp[DI]
theorem MP{x:AU}(h:x≠AU.zero):DI x=YG x:=by simp[DI,h,YG]
theorem Vo(x:AU)(w:World)(hs:x.g.size<=maxLen):Calls prog 115 #[x.val] w λe w'=>e=.returned (.bool (DI x))/\Below w.heap.size w w':=by
 obtain⟨k,g,r⟩:=x;simp only[AU.val];simp only at hs;have C:=AA (λW=>Fj g W hs);clear hs;have dw:∀(b:Bool),b=false->DI ⟨k,g,r⟩=DI ⟨k,g,r⟩:=λ_ _=>rfl
 clear dw;have CW:=AA (λn lo hi W=>Dt n lo hi W)
 by_cases hk:k=0
 .subst hk
  by_cases hg:g.toList=[]
  .by_cases hr:r=0
   .have S:=AA (show DI ⟨0,g,r⟩=true by
     have:g=⟨#[]⟩:=by rw[xz] at hg;cases g;simp at hg;rw[hg]
     rw[hr,this];exact UY)
    go_in;go_wp2_with fail;go_ret;exact⟨AI S.out.symm,AE _ _⟩
   .have S:=AA (show DI ⟨0,g,r⟩=false by rw[MP (by intro e;simp[AU.zero] at e;exact hr e.2)];simp[YG,Be])
    have H:=AA (show Be 0 1 3=false from rfl);go_in;go_wp2_with (refine(CW.out _ _ _ _).mono ?_;rintro e w' ⟨rfl,rfl⟩;rw[H.out]);go_ret;exact⟨AI S.out.symm,AE _ _⟩
  .have S:=AA (show DI ⟨0,g,r⟩=false by rw[MP (by intro e;simp[AU.zero] at e;exact hg (by rw[e.1,xz]))];simp[YG,Be])
   have H:=AA (show Be 0 1 3=false from rfl);go_in;go_wp2_with (refine(CW.out _ _ _ _).mono ?_;rintro e w' ⟨rfl,rfl⟩;rw[H.out]);go_ret;exact⟨AI S.out.symm,AE _ _⟩
 .have S:=AA (show DI ⟨k,g,r⟩=YG ⟨k,g,r⟩ from MP (by intro e;simp[AU.zero] at e;exact hk e.1))
  cases h1:Be k 1 3
  .have T:=AA (show YG ⟨k,g,r⟩=false by simp[YG,h1])
   have H:=AA h1;clear h1;go_in;go_wp2_with (refine(CW.out _ _ _ _).mono ?_;rintro e w' ⟨rfl,rfl⟩;rw[H.out]);go_ret;exact⟨AI (S.out.trans T.out).symm,AE _ _⟩
  .cases h2:BP g
   .have T:=AA (show YG ⟨k,g,r⟩=false by simp[YG,h2])
    have H:=AA h1;clear h1;have H2:=AA h2;clear h2;go_in;go_wp2_with (first|(refine(CW.out _ _ _ _).mono ?_;rintro e w' ⟨rfl,rfl⟩;rw[H.out])|(refine(C.out _).mono ?_;rintro e w' ⟨rfl,hb⟩;rw[H2.out]));go_ret;exact⟨AI (S.out.trans T.out).symm,(AE _ _).trans (hb.mono (AE _ _).size)⟩
   .have T:=AA (show YG ⟨k,g,r⟩=Be r 0 50 by simp[YG,h1,h2])
    have H:=AA h1;clear h1;have H2:=AA h2;clear h2;go_in;go_wp2_with fail;refine(CW.out _ _ _ _).mono ?_;rintro e w' ⟨rfl,rfl⟩;rw[H.out];go_wp2_with fail;refine(C.out _).mono ?_;rintro e w' ⟨rfl,hb⟩;rw[H2.out];have hz:w.heap.size<w'.heap.size:=by have:=hb.size;simp at this;omega
    obtain⟨hc,hf⟩:=aH hb;go_wp2_with fail;refine(CW.out _ _ _ _).mono ?_;rintro e w' ⟨rfl,rfl⟩;go_wp2_with fail;go_ret;exact⟨AI (S.out.trans T.out).symm,(AE _ _).trans (hb.mono (AE _ _).size)⟩
theorem Of(x:AU)(w:World)(hs:x.g.size<=maxLen):Calls prog 114 #[x.val] w λe w'=>e=.returned (.bool (!DI x))/\Below w.heap.size w w':=by
 have C:=AA (λW=>Vo x W hs);obtain⟨k,g,r⟩:=x;simp only[AU.val] at C ⊢;go_in;go_wp2_with (refine(C.out _).mono ?_;rintro e w' ⟨rfl,hb⟩);go_ret;exact⟨rfl,(AE _ _).trans (hb.mono (AE _ _).size)⟩
theorem Ek(v:Value)(xs:List AU)(w:World)(h:BS w v xs)(hs:IF xs):Calls prog 58 #[v] w λe w'=>e=.returned (.bool (BI xs))/\Below w.heap.size w w':=by
 have C:=AA (Ku 114 #[] (λx=>!DI x) v xs w h (λ_ _=>by kernel_rfl) (λx hx W _=>Of x W (hs x hx)));obtain⟨a,c,rfl,hc,ae⟩:=h.shape;clear h hs;unfold maxLen at ae
 by_cases h4:xs.length=12
 .have S:=AA (show(!xs.any λx=>!DI x)=BI xs by rw[Mg];simp[BI,h4])
  have hb:((xs.length:Int)==12)=true:=by simp[h4]
  clear h4;go_in;go_wp2_with (refine(C.out).mono ?_;rintro e w' ⟨rfl,al⟩);go_ret;exact⟨AI S.out,al⟩
 .have S:=AA (show BI xs=false by simp[BI,h4])
  have hb:((xs.length:Int)==12)=false:=by simp;omega
  clear h4;go_in;go_wp2_with fail;go_ret;exact⟨AI S.out.symm,yD _ _⟩
theorem PY(x:AU)(w:World):Calls prog 136 #[x.val] w λe w'=>e=.returned (.bool (decide (x.k=0)))/\Below w.heap.size w w':=by obtain⟨k,g,r⟩:=x;simp only[AU.val];have S:=AA (show(k==0)=decide (k=0) by cases h:(k==0)<;>simp_all);go_in;go_wp2_with fail;go_ret;exact⟨AI S.out,AE _ _⟩
theorem Jv(v:Value)(xs:List AU)(w:World)(h:BS w v xs):Calls prog 83 #[v] w λe w'=>e=.returned (.int .i64 (Am xs))/\Below w.heap.size w w':=by
 have C:=AA (Ji 136 #[] (λx=>decide (x.k=0)) v xs w h (λ_ _=>by kernel_rfl) (λx _ W _=>PY x W));obtain⟨a,c,rfl,hc,ae⟩:=h.shape;clear h;go_in;go_wp2_with (refine(C.out).mono ?_;rintro e w' ⟨rfl,al⟩);go_ret;exact⟨rfl,al⟩
theorem Yy(s g:ByteArray)(b:Nat)(w:World)(h:w.cell? ⟨b,0,none⟩=some (.string g)):Calls prog 110 #[.string s,.pointer (some ⟨b,0,none⟩)] w λe w'=>e=.returned (.bool (LC s g))/\Below w.heap.size w w':=by go_in;go_wp2_with (refine(Qj _ _ _).mono ?_;rintro e w' ⟨rfl,rfl⟩);go_ret;exact⟨rfl,yD _ _⟩
theorem Ot(v:Value)(ss:List ByteArray)(g:ByteArray)(w:World)(h:BR w v ss):Calls prog 54 #[v,.string g] w λe w'=>e=.returned (.bool (Bv ss g))/\Below w.heap.size w w':=by
 have b1:=AE w (.cells #[.string g] 9);have cg:(w.alloc (.cells #[.string g] 9)).cell? ⟨w.heap.size,0,none⟩=some (.string g):=yi _ _ 0 _ _ _ (yv _ _);have C:=AA (KJ 110 #[.pointer (some ⟨w.heap.size,0,none⟩)] (λs=>LC s g) v ss _ (BD.below h b1) (λ_ _=>by kernel_rfl) (λs _ W hW=>Yy s g _ W ((hW.cell (yA _ _ cg)).trans cg)));obtain⟨a,c,rfl,hc,ae⟩:=h.shape;clear h cg;go_in;go_wp2_with (refine(C.out).mono ?_;rintro e w' ⟨rfl,al⟩);go_ret;exact⟨rfl,b1.trans (al.mono b1.size)⟩
def QS(xs:List AU)(g:ByteArray):List AU:=xs.set (Am xs).toNat ⟨1,g,0⟩
theorem PB(v:Value)(xs:List AU)(g:ByteArray)(w:World)(h:BS w v xs)(hs:IF xs)(hg:g.size<=maxLen)(ac:BI xs=true)(hr:BP g=true)(hf:Am xs<0):
 Calls prog 204 #[v,.string g] w λe w'=>e=.returned (.tuple #[.slice none 0 0,.int .i64 0,.bool false])/\Below w.heap.size w w':=by
 have C1:=AA (λW (hW:Below w.heap.size w W)=>Ek v xs W (BD.below h hW) hs);have C2:=AA (λW=>Fj g W hg);have C3:=AA (λW (hW:Below w.heap.size w W)=>Jv v xs W (BD.below h hW));have Ok:=AA ac;have Hr:=AA hr;clear ac hr h hs hg;go_in;go_wp2_with fail;refine(C1.out _ (yD _ _)).mono ?_;rintro e w1 ⟨rfl,bl⟩;rw[Ok.out];go_wp2_with fail;refine(C2.out _).mono ?_;rintro e w2 ⟨rfl,al⟩;rw[Hr.out];replace al:=bl.trans (al.mono bl.size);clear bl;go_wp2_with fail;refine(C3.out _ al).mono ?_;rintro e w3 ⟨rfl,ay⟩;replace ay:=al.trans (ay.mono al.size);clear al;go_wp2_with fail;go_ret3;exact⟨rfl,ay⟩
theorem PC(v:Value)(xs:List AU)(g:ByteArray)(w:World)(h:BS w v xs)(hs:IF xs)(hg:g.size<=maxLen)(ac:BI xs=true)(hr:BP g=true)(hf:0<=Am xs):
 Calls prog 204 #[v,.string g] w λe w'=>∃v',e=.returned (.tuple #[v',.int .i64 (Am xs),.bool true])/\AQ w.heap.size 92 3 A2 w' v' (QS xs g)/\Below w.heap.size w w':=by
 have C1:=AA (λW (hW:Below w.heap.size w W)=>Ek v xs W (BD.below h hW) hs);have C2:=AA (λW=>Fj g W hg);have C3:=AA (λW (hW:Below w.heap.size w W)=>Jv v xs W (BD.below h hW));have hl:xs.length=12:=(Az.1 ac).1;have C4:=AA (λW (hW:Below w.heap.size w W)=>Jt v xs W (BD.below h hW) (by omega));have Ok:=AA ac;have Hr:=AA hr;have dm:(Am xs).toNat<xs.length:=(FU (by omega)).1;have Hl:=AA hl;clear ac hr h hs hg hl;go_in;go_wp2_with fail;refine(C1.out _ (yD _ _)).mono ?_;rintro e w1 ⟨rfl,bl⟩;rw[Ok.out];go_wp2_with fail;refine(C2.out _).mono ?_;rintro e w2 ⟨rfl,al⟩;rw[Hr.out];replace al:=bl.trans (al.mono bl.size);clear bl;go_wp2_with fail;refine(C3.out _ al).mono ?_;rintro e w3 ⟨rfl,ay⟩;replace ay:=al.trans (ay.mono al.size);clear al;go_wp2_with fail;refine(C4.out _ ay).mono ?_;rintro e w4 ⟨v',rfl,hO,b8⟩;obtain⟨q,bn,rfl,c1,c2,q1,q2,dX⟩:=hO.zM (by omega);unfold maxLen at c2;have hS:=AA (AQ.stored Ay hO dm ⟨1,g,0⟩);obtain⟨d0,d1,d2⟩:=AQ.zP hO dm;have hB:=AA (AM (ay.trans (b8.mono ay.size)) hS.out.2 (yB ay.size q1) (ay.trans (b8.mono ay.size)).size);have bx:=ay.size;clear hO b8 ay;have dY:Am xs<xs.length:=by omega
 go_wp2_with fail;go_ret3;exact⟨_,rfl,hS.out.1.lower bx,hB.out⟩
theorem We(a b:Int):(a==b)=decide (a=b):=by cases h:(a==b)<;>simp_all
theorem Mn(x:Al)(w:World):Calls prog 148 #[x.val] w λe w'=>e=.returned (.bool (CU x))/\Below w.heap.size w w':=by
 obtain⟨e,p,f,b⟩:=x;simp only[Al.val];have C1:=AA (λW=>XV e W);have C2:=AA (λW=>MR p W);have C3:=AA (λW=>Es f W);cases h1:Be e 0 2
 .have S:=AA (show CU ⟨e,p,f,b⟩=false by simp[CU,h1])
  have H1:=AA h1;clear h1;go_in;go_wp2_with (refine(C1.out _).mono ?_;rintro e w' ⟨rfl,rfl⟩;rw[H1.out]);go_ret;exact⟨AI S.out.symm,AE _ _⟩
 .cases h2:Be p 0 15
  .have S:=AA (show CU ⟨e,p,f,b⟩=false by simp[CU,h2])
   have H1:=AA h1;clear h1;have H2:=AA h2;clear h2;go_in;go_wp2_with (first|(go_at_call 197;refine(C1.out _).mono ?_;rintro e w' ⟨rfl,rfl⟩;rw[H1.out])|(go_at_call 44;refine(C2.out _).mono ?_;rintro e w' ⟨rfl,rfl⟩;rw[H2.out]));go_ret;exact⟨AI S.out.symm,AE _ _⟩
  .have S:=AA (show CU ⟨e,p,f,b⟩=Be f 0 11 by simp[CU,h1,h2])
   have H1:=AA h1;clear h1;have H2:=AA h2;clear h2;go_in;go_wp2_with (first|(go_at_call 197;refine(C1.out _).mono ?_;rintro e w' ⟨rfl,rfl⟩;rw[H1.out])|(go_at_call 44;refine(C2.out _).mono ?_;rintro e w' ⟨rfl,rfl⟩;rw[H2.out])|(go_at_call 99;refine(C3.out _).mono ?_;rintro e w' ⟨rfl,rfl⟩));go_ret;exact⟨AI S.out.symm,AE _ _⟩
theorem UD(x:Al)(e p:Int)(be bp:Nat)(w:World)(h1:w.cell? ⟨be,0,none⟩=some (.int .i64 e))(h2:w.cell? ⟨bp,0,none⟩=some (.int .i64 p)):Calls prog 199 #[x.val,.pointer (some ⟨be,0,none⟩),.pointer (some ⟨bp,0,none⟩)] w λr w'=>r=.returned (.bool (Bj e p x))/\Below w.heap.size w w':=by
 obtain⟨xe,xp,xf,xb⟩:=x;simp only[Al.val];have b1:=yA w _ h1;have b2:=yA w _ h2;have n1:¬be=w.heap.size:=by have:be<w.heap.size:=b1;omega
 have n2:¬bp=w.heap.size:=by have:bp<w.heap.size:=b2;omega
 by_cases he:xe=e
 .have S:=AA (show Bj e p ⟨xe,xp,xf,xb⟩=(xp==p) by simp[Bj,he,We])
  have t:(xe==e)=true:=by simp[he]
  clear he;go_in;go_wp2_with fail;go_ret;exact⟨AI S.out.symm,AE _ _⟩
 .have S:=AA (show Bj e p ⟨xe,xp,xf,xb⟩=false by simp[Bj,he])
  have t:(xe==e)=false:=by simp[he]
  clear he;go_in;go_wp2_with fail;go_ret;exact⟨AI S.out.symm,AE _ _⟩
theorem VR(v:Value)(xs:List Al)(e p:Int)(w:World)(h:Dz w v xs):Calls prog 149 #[v,.int .i64 e,.int .i64 p] w λr w'=>r=.returned (.int .i64 (IB xs e p))/\Below w.heap.size w w':=by
 have b2:=HJ w (.cells #[.int .i64 e] 3) (.cells #[.int .i64 p] 3);have dg:(w.alloc (.cells #[.int .i64 e] 3)).cell? ⟨w.heap.size,0,none⟩=some (.int .i64 e):=yi _ _ 0 _ _ _ (yv _ _);have ce:((w.alloc (.cells #[.int .i64 e] 3)).alloc (.cells #[.int .i64 p] 3)).cell? ⟨w.heap.size,0,none⟩=some (.int .i64 e):=((AE _ _).cell (yA _ _ dg)).trans dg;have cp:((w.alloc (.cells #[.int .i64 e] 3)).alloc (.cells #[.int .i64 p] 3)).cell? ⟨w.heap.size+1,0,none⟩=some (.int .i64 p):=by
  have:=yi _ _ 0 _ _ _ (yv (w.alloc (.cells #[.int .i64 e] 3)) (.cells #[.int .i64 p] 3))
  rwa [xv] at this
 have C:=AA (Iv 199 #[.pointer (some ⟨w.heap.size,0,none⟩),.pointer (some ⟨w.heap.size+1,0,none⟩)] (Bj e p) v xs _ (BD.below h b2) (λ_ _=>by kernel_rfl)
  (λx _ W hW=>UD x e p _ _ W ((hW.cell (yA _ _ ce)).trans ce) ((hW.cell (yA _ _ cp)).trans cp)))
 obtain⟨a,c,rfl,hc,ae⟩:=h.shape;clear h dg ce cp;go_in;go_wp2_with (refine(C.out).mono ?_;rintro e w' ⟨rfl,al⟩);go_ret;exact⟨rfl,b2.trans (al.mono b2.size)⟩
theorem Dz.take{w:World}{a:Option Addr}{c k:Nat}{xs:List Al}(h:Dz w (.slice a xs.length c) xs)(hk:k<=xs.length):Dz w (.slice a k c) (xs.take k):=by
 obtain⟨a',c',hv,bw,ae,hl,am,hc⟩:=h;cases hv;have bb:(Ci Ag (xs.take k)).length=k*4:=by rw[J3 Ch,xT];congr 1;omega
 have dE:k*4<=xs.length*4:=vE _ hk;unfold Dz BD;rw[show(xs.take k).length=k by rw[xT];omega];refine⟨a,c,rfl,by omega,ae,bb,am,λhn=>?_⟩;obtain⟨b,aq,rfl,a6⟩:=hc (by omega);refine⟨b,aq,rfl,λj hj=>?_⟩;rw[a6 j (by omega)];have e:Ci Ag xs=Ci Ag (xs.take k)++Ci Ag (xs.drop k):=by rw[<-Bm,List.take_append_drop]
 rw[e,List.getElem?_append_left (by omega)]
theorem XK{xs:List Al}{e p:Int}:decide (0<=IB xs e p)=xs.any (Bj e p):=J2
theorem OF{xs:List Al}{k:Nat}(h:k<xs.length)(hc:Ct xs k=false):BT xs=false:=by have:(yC xs.length).all (Ct xs)=false:=List.all_eq_false.2 ⟨k,xU.2 h,by simp[hc]⟩;simp[BT,this]
theorem Ss{xs:List Al}(h:∀k,k<xs.length->Ct xs k=true)(hl:xs.length<=4):BT xs=true:=by
 have:(yC xs.length).all (Ct xs)=true:=yd.2 λk hk=>h k (xU.1 hk)
 simp[BT,this,hl]
theorem Ki(v:Value)(xs:List Al)(w:World)(h:Dz w v xs):Calls prog 96 #[v] w λe w'=>e=.returned (.bool (BT xs))/\Below w.heap.size w w':=by
 have H:=AA h;obtain⟨a,c,rfl,hc,ae,H0⟩:=BD.open Ch (by decide) h;clear h;unfold maxLen at ae
 by_cases h4:xs.length<=4
 .have hb:¬(4:Int)<xs.length:=by omega
  go_in;go_wp2_with fail;go_loopw [10] (λi wr=>∃k:Nat,k<=xs.length/\i=.int .i64 k/\(∀j,j<k->Ct xs j=true)/\Below w.heap.size w wr) (λi _=>xs.length - (intOf i).toNat)
  case atStart=>exact⟨0,yh _,rfl,λj hj=>absurd hj (xP _),yD _ _⟩
  case round=>
   obtain⟨k,hk,rfl,bs,ab⟩:=hrel;have a8:=AA bs;clear bs
   by_cases ax:k<xs.length
   .obtain⟨b,aq,rfl,bA,D0,D1,D2,D3⟩:=H0.zL ax
    replace D0:=(ab.cell (p:=⟨b,aq+k*4,none⟩) bA).trans D0;replace D1:=(ab.cell (p:=⟨b,aq+k*4+1,none⟩) bA).trans D1;replace D2:=(ab.cell (p:=⟨b,aq+k*4+2,none⟩) bA).trans D2;replace D3:=(ab.cell (p:=⟨b,aq+k*4+3,none⟩) bA).trans D3;clear H0;have N:=yv wr (.cells #[.int .i64 (AT xs k).e,.int .i64 (AT xs k).p,.int .i64 (AT xs k).f,.bool (AT xs k).w] 112);have bK:=ab.trans ((AE wr (.cells #[.int .i64 (AT xs k).e,.int .i64 (AT xs k).p,.int .i64 (AT xs k).f,.bool (AT xs k).w] 112)).mono ab.size);have dW:(k:Int)<=xs.length:=by omega
    have dU:(k:Int)<=c:=by omega
    go_wp2_with fail;generalize wr.alloc _=wa at N bK;clear D0 D1 D2 D3 ab;obtain⟨n0,n1,n2,n3⟩:=AG N;have k0:=xY n0;have k1:=xY n1;have k2:=xY n2;have k3:=xY n3;clear n0 n1 n2 n3;have HB:=AA bK;have cF:=UB (w1:=wa) (λW hW=>VR _ (xs.take k) (AT xs k).e (AT xs k).p W (Dz.take (BD.below H.out (bK.trans (hW.mono bK.size))) hk));cases h1:CU (AT xs k)
    .have S:=AA (OF ax (by simp[Ct,h1]))
     have cC:=UB (w1:=wa) (λW _=>by have:=Mn (AT xs k) W;rw[h1] at this;exact this);clear h1 N bK;refine Bo ?_
     repeat(go_big_quiet_step (first|exact cC _ _|exact cF _ _))
     refine Bn λwq bq=>?_
     go_wp2_with fail;go_ret;exact⟨AI S.out.symm,HB.out.trans (bq.mono HB.out.size)⟩
    .have cC:=UB (w1:=wa) (λW _=>by have:=Mn (AT xs k) W;rw[h1] at this;exact this)
     have E:=XK (xs:=xs.take k) (e:=(AT xs k).e) (p:=(AT xs k).p);cases h2:(xs.take k).any (Bj (AT xs k).e (AT xs k).p)
     .have S:=AA (show Ct xs k=true by simp only[Ct,h1,h2];rfl)
      rw[h2] at E;clear h1 h2 N bK;refine Bo ?_
      repeat(go_big_quiet_step (first|exact cC _ _|exact cF _ _))
      refine Bn λwq bq=>?_
      go_wp2_with fail;go_roundw
      case rel=>exact⟨k+1,by omega,by go_num,Ak a8.out S.out,HB.out.trans (bq.mono HB.out.size)⟩
      case measure=>simp[intOf];omega
     .have S:=AA (OF ax (by simp only[Ct,h1,h2];rfl))
      rw[h2] at E;clear h1 h2 N bK;refine Bo ?_
      repeat(go_big_quiet_step (first|exact cC _ _|exact cF _ _))
      refine Bn λwq bq=>?_
      go_wp2_with fail;go_ret;exact⟨AI S.out.symm,HB.out.trans (bq.mono HB.out.size)⟩
   .have S:=AA (Ss (xs:=xs) (λj hj=>a8.out j (by omega)) h4)
    go_wp2_with fail;go_ret;exact⟨AI S.out.symm,ab⟩
 .have S:=AA (show BT xs=false by simp[BT,h4])
  have hb:(4:Int)<xs.length:=by omega
  go_in;go_wp2_with fail;go_ret;exact⟨AI S.out.symm,yD _ _⟩
theorem YX{xs:List Al}{e:Int}:(xs.filter λx=>!decide (x.e=e))=Fz xs e:=by
 unfold Fz
 congr 1
 funext x
 simp
theorem Oz(x:Al)(e:Int)(be:Nat)(w:World)(h1:w.cell? ⟨be,0,none⟩=some (.int .i64 e)):Calls prog 254 #[x.val,.pointer (some ⟨be,0,none⟩)] w λr w'=>r=.returned (.bool (decide (x.e=e)))/\Below w.heap.size w w':=by
 obtain⟨xe,xp,xf,xb⟩:=x;simp only[Al.val];have b1:=yA w _ h1;have n1:¬be=w.heap.size:=by have:be<w.heap.size:=b1;omega
 have S:=AA (We xe e);go_in;go_wp2_with fail;go_ret;exact⟨AI S.out,AE _ _⟩
theorem Qh(v:Value)(xs:List Al)(e:Int)(w:World)(h:Dz w v xs)(ac:BT xs=true):Calls prog 212 #[v,.int .i64 e] w λr w'=>∃v',r=.returned v'/\AQ w.heap.size 112 4 Ag w' v' (Fz xs e)/\Below w.heap.size w w':=by
 have hl:=(Ep.1 ac).2.2;have b1:=AE w (.cells #[.int .i64 e] 3);have ce:(w.alloc (.cells #[.int .i64 e] 3)).cell? ⟨w.heap.size,0,none⟩=some (.int .i64 e):=yi _ _ 0 _ _ _ (yv _ _);have ax:w.heap.size<(w.alloc (.cells #[.int .i64 e] 3)).heap.size:=by simp
 have C1:=AA (by have:=Ki v xs _ (BD.below h b1);rw[ac] at this;exact this);have C2:=AA (λW (hW:Below w.heap.size w W)=>Kj v xs W (BD.below h hW) (by omega));obtain⟨a,c,rfl,hc,ae⟩:=h.shape;clear h ac;go_in;go_wp2_with fail;refine(C1.out).mono ?_;rintro r w1 ⟨rfl,bl⟩;replace ce:=(bl.cell (yA _ _ ce)).trans ce;have al:=b1.trans (bl.mono b1.size);replace ax:w.heap.size<w1.heap.size:=Nat.lt_of_lt_of_le ax bl.size;clear bl b1;have CE:=AA ce;clear ce;go_wp2_with fail;refine(C2.out _ al).mono ?_;rintro r w2 ⟨v',rfl,hO,ay⟩;have ds:=(ay.cell (p:=⟨w.heap.size,0,none⟩) ax).trans CE.out;have C3:=AA (Kv 254 #[.pointer (some ⟨w.heap.size,0,none⟩)] (λx=>decide (x.e=e)) v' xs w2 hO ay.size (λ_ _=>by kernel_rfl)
  (λx _ W hW=>Oz x e _ W ((hW.cell (p:=⟨w.heap.size,0,none⟩) ax).trans ds)))
 have b8:=al.trans (ay.mono al.size);have cP:=al.size;clear hO ay ds;go_wp2_with fail;refine(C3.out).mono ?_;rintro r w3 ⟨v3,rfl,dI,dH⟩;go_wp2_with fail;go_ret;refine⟨_,rfl,?_,b8.trans (dH.mono cP)⟩;rw[<-YX];exact dI.lower cP
theorem Nc(v:Value)(ss:List ByteArray)(w:World)(h:BR w v ss)(hs:DQ ss):Calls prog 98 #[v] w λe w'=>e=.returned (.bool (BQ ss))/\Below w.heap.size w w':=by
 obtain⟨a,c,rfl,hc,ae,H0⟩:=BD.open Gv (by decide) h;unfold maxLen at ae;have Hs:=AA hs;clear hs h;go_in;go_wp2_with fail;go_loopw [7] (λi wr=>∃k:Nat,k<=ss.length/\i=.int .i64 k/\(∀j,j<k->Cq ss j=true)/\Below w.heap.size w wr) (λi _=>ss.length - (intOf i).toNat)
 case atStart=>exact⟨0,yh _,rfl,λj hj=>absurd hj (xP _),yD _ _⟩
 case round=>
  obtain⟨k,hk,rfl,bs,ab⟩:=hrel;have a8:=AA bs;clear bs
  by_cases ax:k<ss.length
  .obtain⟨b,aq,rfl,D0⟩:=H0.str ax
   have bA:=yA w _ D0;have D:=(ab.cell (p:=⟨b,aq+k,none⟩) bA).trans D0;have C:=AA (λW=>Fj (Db ss k) W (Hs.out.nth ax));cases ac:BP (Db ss k)
   .have S:=AA (JE ax (by simp[Cq,ac]))
    have bu:=AA ac;clear ac D0;go_wp2_with fail;refine(C.out _).mono ?_;rintro e w2 ⟨rfl,hb⟩;rw[bu.out];go_wp2_with fail;go_ret;exact⟨AI S.out.symm,ab.trans (hb.mono ab.size)⟩
   .by_cases c9:k=0
    .have Ok:=AA (show Cq ss k=true by simp[Cq,ac];exact .inl c9)
     have bu:=AA ac;have t0:¬(0:Int)<k:=by omega
     clear ac D0 c9;go_wp2_with fail;refine(C.out _).mono ?_;rintro e w2 ⟨rfl,hb⟩;rw[bu.out];go_wp2_with fail;go_roundw
     case rel=>exact⟨k+1,by omega,by go_num,Ak a8.out Ok.out,ab.trans (hb.mono ab.size)⟩
     case measure=>simp[intOf];omega
    .obtain⟨b',b7,dq,E0⟩:=H0.str (show k - 1<ss.length by omega)
     obtain⟨rfl,rfl⟩:b=b'/\aq=b7:=by simpa using dq
     have E:=(ab.cell (p:=⟨b,aq+(k - 1),none⟩) bA).trans E0;have t0:(0:Int)<k:=by omega
     have s1:((k:Int) - 1).toNat=k - 1:=by omega
     have s3:(1:Int)<=k:=by omega
     have bu:=AA ac;clear D0 E0 dq;cases cy:Ty (Db ss (k - 1)) (Db ss k)
     .have Ok:=AA (show Cq ss k=true by simp[Cq,ac,cy])
      have hL:Op.bytesLess (Db ss (k - 1)).toList (Db ss k).toList=true:=by simpa[Ty] using cy
      have EE:=AA E;clear ac cy;go_wp2_with fail;refine(C.out _).mono ?_;rintro e w2 ⟨rfl,hb⟩;rw[bu.out];have E2:=(hb.cell (yA _ _ EE.out)).trans EE.out;clear E;go_wp2_with fail;go_roundw
      case rel=>exact⟨k+1,by omega,by go_num,Ak a8.out Ok.out,ab.trans (hb.mono ab.size)⟩
      case measure=>simp[intOf];omega
     .have S:=AA (JE ax (by simp[Cq,ac,cy,c9]))
      have hL:Op.bytesLess (Db ss (k - 1)).toList (Db ss k).toList=false:=by simpa[Ty] using cy
      have EE:=AA E;clear ac cy;go_wp2_with fail;refine(C.out _).mono ?_;rintro e w2 ⟨rfl,hb⟩;rw[bu.out];have E2:=(hb.cell (yA _ _ EE.out)).trans EE.out;clear E;go_wp2_with fail;go_ret;exact⟨AI S.out.symm,ab.trans (hb.mono ab.size)⟩
  .have S:=AA (MF (ss:=ss) (λj hj=>a8.out j (by omega)))
   go_wp2_with fail;go_ret;exact⟨AI S.out.symm,ab⟩
end Go.Proofs.YtpdjjjdkhedibaaGreatDoor
namespace Go.Proofs.YtpdjjjdkhedibaaGreatDoor
open Go.Proofs.Tryz Go.RowKit Go.Shelf
theorem JK(ss:List ByteArray):Ci BB ss=ss.map Value.string:=by
 induction ss with
 |nil=>rfl
 |cons s ss ih=>rw[IG,ih];rfl
def D5(ss:List ByteArray)(k:Nat)(x:ByteArray):List ByteArray:=ss.take k++x::ss.drop k
theorem Zw{lo e C:Nat}{w:World}{cS:Array Value}(hs:cS.size=C)(hn:n<=C)(hm:C<=maxLen)(bx:lo<=w.heap.size):(w.alloc (.cells cS e)).ownsRow lo e 1 (.slice (some ⟨w.heap.size,0,none⟩) n C) n (cS.toList.take n):=
 ⟨by rw[xT,Array.length_toList];omega,.inr ⟨w.heap.size,C,cS,rfl,bx,yv _ _,hn,hm,by omega,by rw[wl]⟩⟩
end Go.Proofs.YtpdjjjdkhedibaaGreatDoor
namespace Go.Proofs.YtpdjjjdkhedibaaGreatDoor
open Go.Proofs.Tryz Go.RowKit
theorem Ks.word{w:World}{a:Option Addr}{m:List (List Int)}(h:Ks w a m)(ac:Bs m=true){f i:Nat}(hf:f<12)(hi:i<4):
 ∃b aq b2 az c2,a=some ⟨b,aq,none⟩/\b<w.heap.size/\w.cell? ⟨b,aq+f,none⟩=some (.slice (some ⟨b2,az,none⟩) 4 c2)/\b2<w.heap.size/\w.cell? ⟨b2,az+i,none⟩=some (.int .i64 (Ar m f i)):=by
 obtain⟨hl,hr⟩:=Ai.1 ac;obtain⟨b,aq,u,rfl,ax,hc,c4⟩:=h f (by omega);have h4:=(A3.1 (hr f hf)).1;obtain⟨a2,c2,rfl,_,_,H⟩:=c4.open;obtain⟨b2,az,rfl,cn,cf⟩:=H.cellAt (show i<(AH m f).length by omega);rw[h4] at hc;exact⟨b,aq,b2,az,c2,rfl,ax,hc,cn,cf⟩
theorem Gx{m:List (List Int)}(ac:Bs m=true){f i:Nat}(hf:f<12)(hi:i<4):0<=Ar m f i/\Ar m f i<=9999:=by obtain⟨hl,hr⟩:=Ai.1 ac;obtain⟨h4,hw⟩:=A3.1 (hr f hf);exact hw _ (DH (by omega))
def MW(f a:Nat)(b:Bool):Value:=.agg #[.int .i64 f,.int .i64 ((a%4:Nat):Int),.bool b]
def Et:Value:=.agg #[.int .i64 0,.int .i64 0,.bool false]
def Il(m:List (List Int))(root a:Nat):Value:=.tuple #[if(Bu m root a).1=0 then MW (Bu m root a).2.1 a (Bu m root a).2.2 else Et,.int .i64 (Bu m root a).1]
theorem ZT(v:Value)(m:List (List Int))(root a:Nat)(w:World)(h:Bf w v m)(ac:Bs m=true)(hr:root<12)(ha:a<64):
 Calls prog 104 #[v,.int .i64 root,.int .i64 a] w λe w'=>e=.returned (Il m root a)/\Below w.heap.size w w':=by
 obtain⟨q,c,rfl,hc,ae,H0⟩:=h.open;have hl:=(Ai.1 ac).1;unfold maxLen at ae;rw[hl] at hc ⊢;have hA:=AA (λW=>Ox a W ha);obtain⟨b,aq,b2,az,c2,rfl,hb,D,al,D2⟩:=H0.word ac hr (show a/16<4 by omega);have D':=((AE w (.cells #[.int .i64 0,.int .i64 0,.bool false] 114)).cell (p:=⟨b,aq+root,none⟩) hb).trans D;have d6:=((AE w (.cells #[.int .i64 0,.int .i64 0,.bool false] 114)).cell (p:=⟨b2,az+a/16,none⟩) al).trans D2;have cY:=Gx ac hr (show a/16<4 by omega);have E1:=AA (λW=>FT (Ar m root (a/16)) W (by omega));have hB:=AE w (.cells #[.int .i64 0,.int .i64 0,.bool false] 114);cases bt:Bh (Ar m root (a/16))
 .have S:=AA (show Il m root a=.tuple #[Et,.int .i64 1] by simp[Il,Bu,bt])
  have V1:=AA (Eg bt);clear H0 D D2 bt cY hb al;go_in;go_wp2_with (first|(go_at_call 159;refine(hA.out _).mono ?_;rintro e w' ⟨rfl,rfl⟩)|(go_at_call 150;refine(E1.out _).mono ?_;rintro e w' ⟨rfl,rfl⟩;rw[V1.out]));exact yk (v:=.tuple #[Et,.int .i64 1]) (by simp[results,vl,go_sem,Et]) rfl ⟨by rw[S.out],hB⟩
 .have ht:A9 (Ar m root (a/16))<12:=EP bt
  have V1:=AA (EX bt);obtain⟨b',b7,b3,cX,c3,e,cR,D3,ay,D4⟩:=H0.word ac ht (show a/4%4<4 by omega);cases e;have d5:=((AE w (.cells #[.int .i64 0,.int .i64 0,.bool false] 114)).cell (p:=⟨b,aq+A9 (Ar m root (a/16)),none⟩) hb).trans D3;have d4:=((AE w (.cells #[.int .i64 0,.int .i64 0,.bool false] 114)).cell (p:=⟨b3,cX+a/4%4,none⟩) ay).trans D4;have dj:=Gx ac ht (show a/4%4<4 by omega);have E2:=AA (λW=>FT (Ar m (A9 (Ar m root (a/16))) (a/4%4)) W (by omega));cases b5:Bh (Ar m (A9 (Ar m root (a/16))) (a/4%4))
  .have S:=AA (show Il m root a=.tuple #[Et,.int .i64 2] by simp[Il,Bu,bt,b5])
   have V2:=AA (Eg b5);clear H0 D D2 D3 D4 bt b5 cY dj hb al ay cR;go_in;go_wp2_with fail;refine(hA.out _).mono ?_;rintro e w' ⟨rfl,rfl⟩;go_wp2_with fail;refine(E1.out _).mono ?_;rintro e w' ⟨rfl,rfl⟩;rw[V1.out];go_wp2_with fail;refine(E2.out _).mono ?_;rintro e w' ⟨rfl,rfl⟩;rw[V2.out];go_wp2_with fail;exact yk (v:=.tuple #[Et,.int .i64 2]) (by simp[results,vl,go_sem,Et]) rfl ⟨by rw[S.out],hB⟩
  .have S:=AA (show Il m root a=.tuple #[.agg #[.int .i64 ((A9 (Ar m (A9 (Ar m root (a/16))) (a/4%4)):Nat):Int),.int .i64 ((a%4:Nat):Int),.bool (KQ (Ar m root (a/16))&&KQ (Ar m (A9 (Ar m root (a/16))) (a/4%4)))],.int .i64 0] by simp[Il,Bu,bt,b5,MW])
   have V2:=AA (EX b5);cases hx:KQ (Ar m root (a/16))
   all_goals
    rw[hx] at V1 S;clear H0 D D2 D3 D4 bt b5 cY dj hb al ay cR hx;go_in;go_wp2_with fail;refine(hA.out _).mono ?_;rintro e w' ⟨rfl,rfl⟩;go_wp2_with fail;refine(E1.out _).mono ?_;rintro e w' ⟨rfl,rfl⟩;rw[V1.out];go_wp2_with fail;refine(E2.out _).mono ?_;rintro e w' ⟨rfl,rfl⟩;rw[V2.out];go_wp2_with fail
   .exact yk (v:=.tuple #[.agg #[.int .i64 ((A9 (Ar m (A9 (Ar m root (a/16))) (a/4%4)):Nat):Int),.int .i64 ((a%4:Nat):Int),.bool false],.int .i64 0]) (by simp[results,vl,go_sem]) rfl ⟨by rw[S.out,Bool.false_and],(yD _ _).alloc (yt _) _⟩
   .exact yk (v:=.tuple #[.agg #[.int .i64 ((A9 (Ar m (A9 (Ar m root (a/16))) (a/4%4)):Nat):Int),.int .i64 ((a%4:Nat):Int),.bool (KQ (Ar m (A9 (Ar m root (a/16))) (a/4%4)))],.int .i64 0]) (by simp[results,vl,go_sem]) rfl ⟨by rw[S.out,Bool.true_and],(yD _ _).alloc (yt _) _⟩
theorem Ks.row4{w:World}{a:Option Addr}{m:List (List Int)}(h:Ks w a m)(ac:Bs m=true){f:Nat}(hf:f<12):
 ∃b aq b2 az c2,a=some ⟨b,aq,none⟩/\b<w.heap.size/\w.cell? ⟨b,aq+f,none⟩=some (.slice (some ⟨b2,az,none⟩) 4 c2)/\b2<w.heap.size/\4<=c2/\∀i,i<4->w.cell? ⟨b2,az+i,none⟩=some (.int .i64 (Ar m f i)):=by
 obtain⟨hl,hr⟩:=Ai.1 ac;obtain⟨b,aq,u,rfl,ax,hc,c4⟩:=h f (by omega);have h4:=(A3.1 (hr f hf)).1;obtain⟨a2,c2,rfl,cf,_,H⟩:=c4.open;obtain⟨b2,az,rfl,cn,_⟩:=H.cellAt (show 0<(AH m f).length by omega);rw[h4] at hc cf;refine⟨b,aq,b2,az,c2,rfl,ax,hc,cn,cf,λi hi=>?_⟩;obtain⟨b',b7,e,_,a6⟩:=H.cellAt (show i<(AH m f).length by omega);cases e;exact a6
def Gy(m:List (List Int))(ns:List Nat):List Nat:=ns.flatMap λn=>named (AH m n)
theorem Wz{m:List (List Int)}{k:Nat}(h:k<ns.length):Gy m (ns.take (k+1))=Gy m (ns.take k)++named (AH m (ns.getD k 0)):=by rw[Cx (A1 (d:=0) h)];simp[Gy]
theorem KZ{r:List Int}{j:Nat}(h:j<r.length):named (r.take (j+1))=named (r.take j)++(if Bh (r.getD j 0) then[A9 (r.getD j 0)] else[]):=by
 rw[Cx (A1 (d:=0) h)];unfold named;rw[List.filter_append,xE]
 congr 1
 rw[List.filter_cons,List.filter_nil]
 split<;>simp_all
theorem K4{m:List (List Int)}(ac:Bs m=true){ns:List Nat}(hn:∀n∈ns,n<12):(Gy m ns).length<=4*ns.length:=by
 induction ns with
 |nil=>simp[Gy]
 |cons n ns ih=>have h1:=ih (λx hx=>hn x (tJ _ hx));have h2:=FJ (r:=AH m n);have h3:=(A3.1 ((Ai.1 ac).2 n (hn n (vz ..)))).1;simp only[Gy,List.flatMap_cons,yj,List.length_cons] at h1 ⊢;omega
theorem K5{m:List (List Int)}{ns:List Nat}{g:Nat}:g∈Gy m ns↔∃n∈ns,g∈named (AH m n):=by simp[Gy]
theorem XO{k:Nat}(h:k<ns.length):ns.getD k 0∈ns:=DH h
theorem Nh{lo e sz:Nat}{w:World}{xs:List Value}(h:w'.ownsRow lo e sz v n xs)(hg:w.grownBy w' v.ownBlock)(bx:lo<=w.heap.size):Below lo w w':=(yD lo w).grown hg bx (λk hk=>(World.ownsRow.lt h k hk).1)
theorem PL{lo e sz:Nat}{w:World}{xs:List Value}(h:w'.ownsRow lo e sz v n xs)(hv:v.ownBlock=u.ownBlock)(hg:w.grownBy w' u.ownBlock)(bx:lo<=w.heap.size):Below lo w w':=Nh h (hv▸hg) bx
def YI(m:List (List Int))(ns:List Nat)(w:World)(e:Ending)(w':World):Prop:=∃v' ts,e=.returned v'/\AF w.heap.size w' v' (A0 ts)/\(∀g,g∈ts↔g∈Gy m ns)/\ts.length<=(Gy m ns).length/\Below w.heap.size w w'
theorem SG(v v2:Value)(m:List (List Int))(ns:List Nat)(w:World)(h:Bf w v m)(ac:Bs m=true)(h2:Aw w v2 (A0 ns))(hn:∀n∈ns,n<12)(hl:ns.length<=1000):
 Calls prog 154 #[v,v2] w (YI m ns w):=by
 obtain⟨q,c,rfl,hc,ae,H0⟩:=h.open;obtain⟨q2,c2,rfl,cf,ct,H2⟩:=h2.open;have cm:=(Ai.1 ac).1;have dd:=K4 ac hn;unfold maxLen at ae ct;rw[cm] at hc ⊢;rw[Cd] at cf ⊢;have Hn:=AA hn;have bu:=AA ac;have HR:=AA H0;have HI:=AA H2;clear h h2 hn ac H0 H2 cm;go_in;go_wp2_with fail;go_loopw [5,15] (λo i wr=>∃k:Nat,k<=ns.length/\i=.int .i64 k/\AF w.heap.size wr o (A0 (Gy m (ns.take k)))/\Below w.heap.size w wr) (λ_ i _=>ns.length - (intOf i).toNat)
 case atStart=>exact⟨0,yh _,rfl,xm _ _ _ _,yD _ _⟩
 case round=>
  obtain⟨k,hk,rfl,hO,ab⟩:=hrel
  by_cases ax:k<ns.length
  .obtain⟨b,aq,rfl,hb,D0⟩:=HI.out.cellAt (show k<(A0 ns).length by rw[Cd];exact ax)
   rw[Ps ax] at D0;have D:=(ab.cell (p:=⟨b,aq+k,none⟩) hb).trans D0;have cj:=Hn.out _ (XO ax);obtain⟨bm,bY,br,bN,cr,rfl,cL,M0,cQ,dp,W0⟩:=HR.out.row4 bu.out cj;have M:=(ab.cell (p:=⟨bm,bY+ns.getD k 0,none⟩) cL).trans M0;have HW:=AA W0;have cx:=AA (A3.1 ((Ai.1 bu.out).2 _ cj)).1;have AS:=AA (Wz (m:=m) ax);generalize hnk:ns.getD k 0=nk at*;have d3:=AA hnk;have dE:(Gy m (ns.take k)).length<=4*k:=by
    have:=K4 bu.out (ns:=ns.take k) (λn hn=>Hn.out n (List.mem_of_mem_take hn));rw[xT] at this;omega
   clear D0 M0 W0 hnk;have HO:=AA hO;have HB:=AA ab;clear hO;go_wp2_with fail;clear D M ab;obtain⟨wo,rfl⟩:∃wo:World,wo=wr:=⟨_,rfl⟩
   go_loopw [5,24] (λo i wi=>∃j:Nat,j<=4/\i=.int .i64 j/\AF w.heap.size wi o (A0 (Gy m (ns.take k)++named ((AH m nk).take j)))/\Below w.heap.size w wi) (λ_ i _=>4 - (intOf i).toNat)
   case atStart=>exact⟨0,by omega,rfl,by simpa[named] using HO.out,HB.out⟩
   case round=>
    obtain⟨j,hj,rfl,b9,bC⟩:=hrel
    by_cases cd:j<4
    .have W:=(bC.cell (p:=⟨br,bN+j,none⟩) cQ).trans (HW.out j cd)
     have NT:=AA (KZ (r:=AH m nk) (j:=j) (by rw[cx.out];exact cd));have wb:=Gx bu.out cj cd;have CE:=AA (λW=>FT (Ar m nk j) W (by omega));have du:=AA b9;have dD:(Gy m (ns.take k)++named ((AH m nk).take j)).length<=4*k+4:=by have:=FJ (r:=(AH m nk).take j);rw[xT] at this;rw[yj];omega
     have cO:=bC.size;clear b9;cases hg:Bh (Ar m nk j)
     .have V:=AA (Eg hg)
      have E:=AA (show Gy m (ns.take k)++named ((AH m nk).take (j+1))=Gy m (ns.take k)++named ((AH m nk).take j) by rw[NT.out,show(AH m nk).getD j 0=Ar m nk j from rfl,hg];simp);clear hg;go_wp2_with (go_at_call 150;refine(CE.out _).mono ?_;rintro e w' ⟨rfl,rfl⟩;rw[V.out]);go_roundw
      case rel=>exact⟨j+1,by omega,by go_num,by rw[E.out];exact du.out,bC⟩
      case measure=>simp[intOf];omega
     .have V:=AA (EX hg)
      have E:=AA (show Gy m (ns.take k)++named ((AH m nk).take (j+1))=(Gy m (ns.take k)++named ((AH m nk).take j))++[A9 (Ar m nk j)] by rw[NT.out,show(AH m nk).getD j 0=Ar m nk j from rfl,hg];simp);clear hg;generalize Gy m (ns.take k)++named ((AH m nk).take j)=acc at*;have dJ:=AA (λob=>(by have:=Co du.out (AE wr ob);rwa [Cd] at this:(wr.alloc ob).ownsRow w.heap.size 3 1 u5 acc.length ((A0 acc).map (yf .i64))));go_wp2_with (first|(go_at_call 150;refine(CE.out _).mono ?_;rintro e w' ⟨rfl,rfl⟩;rw[V.out])|(at_builtin;go_must (refine El (lo:=w.heap.size) (v:=u5) (n:=acc.length) (xs:=(A0 acc).map (yf .i64)) (m:=1) (news:=[.int .i64 ((A9 (Ar m nk j):Nat):Int)]) rfl rfl 3 (.int .i64 0) 1 8 underlying29 Tryz.zI rfl (by decide) rfl (dJ.out _) rfl (Rd.zC _ #[_] _ 1 1 _ rfl (by simp) (by simp[maxLen])) (by simp[xD]) (by unfold maxLen;omega) (by omega) (by simp;omega) ?_;intro o' w3 k1 k2 k3)));have R:AF w.heap.size w3 o' (A0 (acc++[A9 (Ar m nk j)])):=by unfold AF;rw[Cd,yj];simpa[A0] using k1
      rw[<-E.out] at R;have RR:=AA R;clear k1 k2 R;go_roundw
      case rel=>exact⟨j+1,by omega,by go_num,RR.out,(bC.trans ((AE _ _).mono bC.size)).trans k3⟩
      case measure=>simp[intOf];omega
    .obtain rfl:j=4:=by omega
     have E:Gy m (ns.take k)++named ((AH m nk).take 4)=Gy m (ns.take (k+1)):=by rw[AS.out,wD (l:=AH m nk) (i:=4) (Nat.le_of_eq cx.out)]
     rw[E] at b9;clear E;go_wp2_with fail;go_roundw
     case rel=>exact⟨k+1,by omega,by go_num,b9,bC⟩
     case measure=>simp[intOf];omega
  .obtain rfl:k=ns.length:=by omega
   rw[xt] at hO;have CS:=AA (Me u5 (Gy m ns) wr hO (by omega));clear hO;go_wp2_with fail;refine(CS.out).mono ?_;rintro e w1 ⟨rfl,ts,t1,t2,cw,bt⟩;have bl:=ab.trans (Nh cw bt ab.size);have cP:=bl.size;have CC:=AA (Kk u5 ts w1 cw (by omega));clear cw bt ab;go_wp2_with fail;refine(CC.out).mono ?_;rintro e w2 ⟨v',rfl,cZ,cW,s1,s2,cM,b5⟩;go_wp2_with fail;go_ret;exact⟨_,cW,rfl,cM,λg=>(s2 g).trans (t2 g),by omega,bl.trans (PL cM cZ b5 cP)⟩
def MK(m:List (List Int))(root:Int)(w:World)(e:Ending)(w':World):Prop:=∃v' ts,e=.returned v'/\AF w.heap.size w' v' (A0 ts)/\(∀g,g∈ts↔g∈BZ m root)/\ts.length<=100/\Below w.heap.size w w'
theorem Xs{m:List (List Int)}{g:Nat}:g∈BZ m (n:Int)↔g=n∨g∈Gy m [n]∨g∈Gy m (Gy m [n]):=by
 rw[DY];simp only[Int.toNat_natCast,K5,xx,exists_eq_left];constructor
 .rintro⟨_,h⟩;exact h
 .intro h;exact⟨by omega,h⟩
theorem VP{m:List (List Int)}{a b:List Nat}(h:∀g,g∈a↔g∈b)(g:Nat):g∈Gy m a↔g∈Gy m b:=by
 rw[K5,K5];exact exists_congr λn=>and_congr_left λ_=>h n
theorem LR(w:World)(x:Int):AF w.heap.size (w.alloc (.cells #[.int .i64 x] 3)) (.slice (some ⟨w.heap.size,0,none⟩) 1 1) [x]:=World.ownsRow_lit (base:=w.heap.size) w #[.int .i64 x] 1 (yt _) (by simp[maxLen]) (by simp)
theorem Ua(n:Nat):A0 [n]=[(n:Int)]:=rfl
theorem Yl(a b:List Nat):A0 (a++b)=A0 a++A0 b:=by simp[A0]
theorem Mh{lo:Nat}{w:World}{a b:List Nat}(h:w.ownsRow lo 3 1 v (a.length+b.length) ((A0 a).map (yf .i64)++(A0 b).map (yf .i64))):AF lo w v (A0 (a++b)):=by unfold AF;rw[Cd,yj,Yl,xE];exact h
theorem OY(v:Value)(m:List (List Int))(n:Nat)(w:World)(h:Bf w v m)(ac:Bs m=true)(hn:n<12):
 Calls prog 101 #[v,.int .i64 n] w (MK m (n:Int) w):=by
 have cc:=K4 ac (ns:=[n]) (by simpa using hn);have C1:=AA (λW v2 ns (hW:Below w.heap.size w W) (h2:Aw W v2 (A0 ns)) (dC:∀n∈ns,n<12) (hl:ns.length<=1000)=>SG v v2 m ns W (by obtain⟨vs,a,b⟩:=h;exact Bf.below ⟨vs,a,b⟩ hW) ac h2 dC hl);have cb:∀ns:List Nat,∀g∈Gy m ns,g<12:=by intro ns g hg;obtain⟨_,_,hg⟩:=K5.1 hg;exact FL hg
 have dd:∀ns:List Nat,(∀g∈ns,g<12)->(Gy m ns).length<=4*ns.length:=λns h=>K4 ac h
 obtain⟨q,c,rfl,hc,ae,_⟩:=h.open;have dM:=AA cb;have dO:=AA dd;have i0:(0:Int)<=(n:Int):=by omega
 clear h ac hc ae cb dd;go_in;go_wp2_with fail;have b1:=AE w (.cells #[.int .i64 n] 3);have b2:=HJ w (.cells #[.int .i64 n] 3) (.cells #[.int .i64 n] 3);have O1:=AA ((LR w (n:Int)).below (AE _ (.cells #[.int .i64 n] 3)));have O2:=LR (w.alloc (.cells #[.int .i64 n] 3)) (n:Int);rw[xv] at O2;refine(C1.out _ _ [n] b2 (by rw[Ua];exact AF.rd O2) (by simpa using hn) (by simp)).mono ?_;rintro e w1 ⟨v1,t1,rfl,P1,m1,l1,bl⟩;have Q1:=AA (O1.out.below bl);have B1:=b2.trans (bl.mono b2.size);have s1:=B1.size;obtain⟨a1,c1,rfl,_,_,_⟩:=P1.rd.open;have dh:=AA (AF.rd P1);rw[Cd] at dh ⊢;clear bl b1 b2 O2 P1 O1;have R1:=AA (show Rd w1 (.slice a1 t1.length c1) 1 t1.length ((A0 t1).map (yf .i64)) by have:=dh.out;unfold Aw at this;rwa [Cd] at this);have h1:t1.length<=4:=by simp at cc;omega
 go_wp2_with (at_builtin;go_must (refine El (lo:=w.heap.size) (v:=.slice (some ⟨w.heap.size,0,none⟩) 1 1) (n:=1) (xs:=[.int .i64 n]) (m:=t1.length) (news:=(A0 t1).map (yf .i64)) rfl rfl 3 (.int .i64 0) 1 8 underlying29 Tryz.zI rfl (by decide) rfl Q1.out rfl R1.out LP (by unfold maxLen;omega) (by omega) (by omega) ?_;intro o2 w2 k1 k2 k3));have O3:=AA (Mh (a:=[n]) k1);have B2:=B1.trans k3;have s2:=B2.size;clear k1 k2 k3 Q1 R1 dh B1;have b3:=B2.trans ((AE w2 (.cells #[.int .i64 n] 3)).mono s2);have O4:=AA (O3.out.below (AE w2 (.cells #[.int .i64 n] 3)));have CN:=AA (C1.out _ _ [n] b3 (by rw[Ua];exact AF.rd (LR w2 (n:Int))) (by simpa using hn) (by simp));clear O3;go_wp2_with fail;refine(CN.out).mono ?_;rintro e w3 ⟨v3,t3,rfl,P3,m3,l3,ay⟩;have O5:=AA (O4.out.below ay);have B3:=b3.trans (ay.mono b3.size);have s3:=B3.size;have h3:t3.length<=4:=by simp at cc;omega
 have cz:∀g∈t3,g<12:=λg hg=>dM.out _ g ((m3 g).1 hg)
 have CM:=AA (C1.out _ v3 t3 B3 (AF.rd P3) cz (by omega));have h4:=dO.out t3 cz;have M3:=AA m3;have M1:=AA m1;clear ay b3 P3 O4 CN m3 m1;go_wp2_with fail;refine(CM.out).mono ?_;rintro e w4 ⟨v4,t4,rfl,P4,m4,l4,b8⟩;have O6:=AA (O5.out.below b8);have dt:=AA (show w4.ownsRow w.heap.size 3 1 o2 ([n]++t1).length ((A0 ([n]++t1)).map (yf .i64)) by have:=O6.out;unfold AF at this;rwa [Cd] at this);have B4:=B3.trans (b8.mono s3);have s4:=B4.size;have R4:=AA (show Rd w4 v4 1 t4.length ((A0 t4).map (yf .i64)) by have:=AF.rd P4;unfold Aw at this;rwa [Cd] at this);have M4:=AA m4;have dT:([n]++t1).length<=5:=by simp;omega
 clear b8 P4 m4 O5;have c5:=AA (show ∀g,g∈(([n]++t1)++t4)↔g∈BZ m (n:Int) by intro g;rw[Xs,wC,wC,xx,M1.out,M4.out,VP M3.out,or_assoc])
 generalize[n]++t1=acc at*;go_wp2_with (at_builtin;go_must (refine El (lo:=w.heap.size) (v:=o2) (n:=acc.length) (xs:=(A0 acc).map (yf .i64)) (m:=t4.length) (news:=(A0 t4).map (yf .i64)) rfl rfl 3 (.int .i64 0) 1 8 underlying29 Tryz.zI rfl (by decide) rfl dt.out rfl R4.out LP (by unfold maxLen;omega) (by omega) (by omega) ?_;intro o5 w5 k1 k2 k3));have O7:=Mh k1;have B5:=B4.trans k3;have s5:=B5.size;have dS:(acc++t4).length<=21:=by rw[yj];omega
 have CS:=AA (Me o5 (acc++t4) w5 O7 (by omega));generalize acc++t4=fin at*;clear k1 k2 k3 O7 O6 dt R4 B4;go_wp2_with fail;refine(CS.out).mono ?_;rintro e w6 ⟨rfl,ts,u1,u2,cw,bt⟩;have B6:=B5.trans (Nh cw bt s5);have s6:=B6.size;have CC:=AA (Kk o5 ts w6 cw (by omega));clear cw bt B5;go_wp2_with fail;refine(CC.out).mono ?_;rintro e w7 ⟨v',rfl,cZ,cW,y1,y2,cM,b5⟩;go_wp2_with fail;go_ret;exact⟨_,cW,rfl,cM,λg=>((y2 g).trans (u2 g)).trans (c5.out g),by omega,B6.trans (PL cM cZ b5 s6)⟩
theorem OZ(v:Value)(m:List (List Int))(r:Int)(w:World)(h:Bf w v m)(hr:r<0):Calls prog 101 #[v,.int .i64 r] w (MK m r w):=by
 obtain⟨q,c,rfl,_,_,_⟩:=h.open;have S:=AA (show ∀g,g∈([]:List Nat)↔g∈BZ m r from λg=>⟨(λh=>by cases h),(λh=>by have:=(DY.1 h).1;omega)⟩);clear h;go_in;go_wp2_with fail;go_ret;exact⟨_,[],rfl,xm _ _ _ _,S.out,by decide,yD _ _⟩
theorem PA(F:Nat)(bB:Array Value)(p:Int->Bool)(v:Value)(xs:List Int)(w:World)(h:Aw w v xs)
 (hF:∀args w,(callFunc F args).run prog w=.ok (.enter F args) w)(hf:∀x,x∈xs->∀W,Below w.heap.size w W->Calls prog F (#[.int .i64 x]++bB) W λe W'=>e=.returned (.bool (p x))/\Below W.heap.size W W'):
 Calls prog 201 #[v,.func (.func F) #[] bB] w λe w'=>e=.returned (.int .i64 (Fs p xs))/\Below w.heap.size w w':=by
 obtain⟨a,c,rfl,hc,ae,H0⟩:=h.open;clear h;unfold maxLen at ae;have Hf:=AA hf;clear hf;go_in;go_wp2;go_loopw [8] (λi wr=>∃k:Nat,k<=xs.length/\i=.int .i64 k/\(∀(j:Nat) x,j<k->xs[j]?=some x->p x=false)/\Below w.heap.size w wr) (λi _=>xs.length - (intOf i).toNat)
 case atStart=>exact⟨0,yh _,rfl,λj x hj=>absurd hj (xP _),yD _ _⟩
 case round=>
  obtain⟨k,hk,rfl,bs,ab⟩:=hrel;have a8:=AA bs;clear bs
  by_cases ax:k<xs.length
  .have hx:xs[k]?=some (nth xs k):=Pu ax
   obtain⟨b,aq,rfl,bA,dv⟩:=H0.cellAt ax;have D0:=(ab.cell (p:=⟨b,aq+k,none⟩) bA).trans dv;clear dv;have Hx:=AA hx;have Hc:=AA (Hf.out _ (List.mem_of_getElem? hx) wr ab);clear hx;cases hp:p (nth xs k)
   .have Hp:=AA hp;clear hp
    go_wp2_with (refine(Hc.out).mono ?_;rintro e w' ⟨rfl,al⟩;rw[Hp.out]);go_roundw
    case rel=>exact⟨k+1,by omega,by go_num,IX a8.out Hx.out Hp.out,ab.trans (al.mono ab.size)⟩
    case measure=>simp[intOf];omega
   .have Hp:=AA hp;clear hp
    have ch:=AA (J1 Hx.out a8.out Hp.out);go_wp2_with (refine(Hc.out).mono ?_;rintro e w' ⟨rfl,al⟩;rw[Hp.out]);go_ret;exact⟨Cb ch.out.symm,ab.trans (al.mono ab.size)⟩
  .have ch:=AA (Ia (p:=p) (xs:=xs) (λj x hx=>a8.out j x (by have:=(yr.1 hx).1;omega) hx))
   go_wp2;go_ret;exact⟨Cb ch.out.symm,ab⟩
theorem Jf(F:Nat)(bB:Array Value)(p:Int->Bool)(v:Value)(xs:List Int)(w:World)(h:Aw w v xs)
 (hF:∀args w,(callFunc F args).run prog w=.ok (.enter F args) w)(hf:∀x,x∈xs->∀W,Below w.heap.size w W->Calls prog F (#[.int .i64 x]++bB) W λe W'=>e=.returned (.bool (p x))/\Below W.heap.size W W'):
 Calls prog 152 #[v,.func (.func F) #[] bB] w λe w'=>e=.returned (.bool (xs.any p))/\Below w.heap.size w w':=by
 have E:=AA (J2 (p:=p) (xs:=xs));have C:=AA (PA F bB p v xs w h hF hf);clear h hf;go_in;go_wp2_with (refine(C.out).mono ?_;rintro e w' ⟨rfl,al⟩);go_ret;exact⟨AI E.out,al⟩
theorem Sr(f:Nat)(v:Value)(ss:List ByteArray)(iv:Value)(zZ:List AU)(br bk gk:Nat)(w:World)(hr:w.cell? ⟨br,0,none⟩=some v)(hk:w.cell? ⟨bk,0,none⟩=some (.pointer (some ⟨gk,0,none⟩)))
 (hi:w.cell? ⟨gk,1,none⟩=some iv)(hv:BR w v ss)(hI:BS w iv zZ)(hf:f<zZ.length):
 Calls prog 153 #[.int .i64 f,.pointer (some ⟨br,0,none⟩),.pointer (some ⟨bk,0,none⟩)] w λe w'=>e=.returned (.bool (!Bv ss (zS zZ f).g))/\Below w.heap.size w w':=by
 obtain⟨a,c,rfl,hc,ae,H0⟩:=BD.open Ay (by decide) hI;obtain⟨b,aq,rfl,hb,D0,D1,D2⟩:=H0.zP hf;have M:=UB (w1:=w) (λW hW=>Ot v ss (zS zZ f).g W (BD.below hv hW));obtain⟨av,cv,rfl,_,_⟩:=hv.shape;have k0:=xY hr;have k1:=xY hk;have k2:=xY hi;have k3:=xY D1;have f0:(f:Int)<zZ.length:=by omega
 clear H0 hI hv D0 D1 D2;go_in;go_wp2_with fail;refine Bo ?_
 repeat(go_big_quiet_step (exact M _ _))
 refine Bn λwq bq=>?_
 go_wp2_with fail;go_ret;exact⟨rfl,bq⟩
theorem K9(gk:Nat)(v v2 iv:Value)(ss:List ByteArray)(fs:List Nat)(zZ:List AU)(w:World)(hi:w.cell? ⟨gk,1,none⟩=some iv)(hv:BR w v ss)(hI:BS w iv zZ)(h2:Aw w v2 (A0 fs))(db:∀f∈fs,f<zZ.length):
 Calls prog 100 #[.pointer (some ⟨gk,0,none⟩),v,v2] w λe w'=>e=.returned (.bool (BG zZ fs ss))/\Below w.heap.size w w':=by
 have b2:=HJ w (.cells #[.pointer (some ⟨gk,0,none⟩)] 124) (.cells #[v] 72);have df:(w.alloc (.cells #[.pointer (some ⟨gk,0,none⟩)] 124)).cell? ⟨w.heap.size,0,none⟩=some (.pointer (some ⟨gk,0,none⟩)):=yi _ _ 0 _ _ _ (yv _ _);have ck:((w.alloc (.cells #[.pointer (some ⟨gk,0,none⟩)] 124)).alloc (.cells #[v] 72)).cell? ⟨w.heap.size,0,none⟩=some (.pointer (some ⟨gk,0,none⟩)):=((AE _ _).cell (yA _ _ df)).trans df;have cv:((w.alloc (.cells #[.pointer (some ⟨gk,0,none⟩)] 124)).alloc (.cells #[v] 72)).cell? ⟨w.heap.size+1,0,none⟩=some v:=by
  have:=yi _ _ 0 _ _ _ (yv (w.alloc (.cells #[.pointer (some ⟨gk,0,none⟩)] 124)) (.cells #[v] 72))
  rwa [xv] at this
 have dl:=yA w _ hi;have S:=AA (show(!(A0 fs).any (λx=>!Bv ss (zS zZ x.toNat).g))=BG zZ fs ss by rw[Mg];unfold A0 BG;rw[List.all_map];rfl);have C:=AA (Jf 153 #[.pointer (some ⟨w.heap.size+1,0,none⟩),.pointer (some ⟨w.heap.size,0,none⟩)] (λx=>!Bv ss (zS zZ x.toNat).g) v2 (A0 fs) _ (Aw.below h2 b2) (λ_ _=>by kernel_rfl) (by intro x hx W hW;obtain⟨n,hn,rfl⟩:=uI.1 hx;have hb:=b2.trans (hW.mono b2.size);exact Sr n v ss iv zZ _ _ gk W ((hW.cell (yA _ _ cv)).trans cv) ((hW.cell (yA _ _ ck)).trans ck) ((hb.cell dl).trans hi) (BD.below hv hb) (BD.below hI hb) (db n hn)))
 obtain⟨a,c,rfl,_,_,_⟩:=h2.open;obtain⟨a',c',rfl,_,_⟩:=hv.shape;clear hv hI h2 hi df ck cv db;go_in;go_wp2_with (refine(C.out).mono ?_;rintro e w' ⟨rfl,al⟩);go_ret;exact⟨AI S.out,b2.trans (al.mono b2.size)⟩
theorem SJ{k:Int}(h:Bd k=true):Uq k=k - 1:=by unfold Uq;rw[if_pos h]
theorem Vj{zZ:List AU}:FQ zZ f kind ss 0=true:=Lo.2 (.inr ⟨rfl,rfl⟩)
theorem XR{zZ:List AU}{x:Int}(h0:x≠0)(h:Bh x=false):FQ zZ f kind ss x=false:=by simp[FQ,h,h0]
theorem Rp{zZ:List AU}{x:Int}(h:Bh x=true):FQ zZ f kind ss x=(decide (A9 x≠f)&&decide ((zS zZ (A9 x)).k=kind - 1)&&Bv ss (zS zZ (A9 x)).g):=by simp[FQ,h]
theorem XQ(x:Int)(f:Nat)(kind:Int)(v iv:Value)(ss:List ByteArray)(zZ:List AU)(bf bi bk br:Nat)(w:World)(hx:x<=9223372036854775807)(h1:w.cell? ⟨bf,0,none⟩=some (.int .i64 f))(h2:w.cell? ⟨bi,0,none⟩=some iv)(h3:w.cell? ⟨bk,0,none⟩=some (.int .i64 kind))(h4:w.cell? ⟨br,0,none⟩=some v)
 (hv:BR w v ss)(hI:BS w iv zZ)(hl:zZ.length=12)(hk:Bd kind=true):
 Calls prog 157 #[.int .i64 x,.pointer (some ⟨bf,0,none⟩),.pointer (some ⟨bi,0,none⟩),.pointer (some ⟨bk,0,none⟩),.pointer (some ⟨br,0,none⟩)] w λe w'=>e=.returned (.bool (!FQ zZ f kind ss x))/\Below w.heap.size w w':=by
 obtain⟨a,c,rfl,hc,ae,H0⟩:=BD.open Ay (by decide) hI;have CE:=AA (λW=>FT x W hx);have k1:=xY h1;have k2:=xY h2;have k3:=xY h3;have k4:=xY h4;have cT:=Wy (w1:=w) (λW=>Kz kind W);rw[SJ hk] at cT
 by_cases cH:x=0
 .subst cH
  have V:=AA (Eg (x:=0) rfl);have S:=AA (show(!FQ zZ f kind ss 0)=false by rw[Vj];rfl);clear H0 hI hv h1 h2 h3 h4 hk hc ae;go_in;go_wp2_with (go_at_call 150;refine(CE.out _).mono ?_;rintro e w' ⟨rfl,rfl⟩;rw[V.out]);refine Bo ?_
  repeat(go_big_quiet_step (exact cT _ _))
  refine Bn λwq bq=>?_
  go_wp2_with fail;go_ret;exact⟨AI S.out.symm,bq⟩
 .have t0:(x !=0)=true:=by simp[cH]
  cases hg:Bh x
  .have V:=AA (Eg hg)
   have S:=AA (show(!FQ zZ f kind ss x)=true by rw[XR cH hg];rfl);clear H0 hI hv h1 h2 h3 h4 hk hc ae hg cH;go_in;go_wp2_with (go_at_call 150;refine(CE.out _).mono ?_;rintro e w' ⟨rfl,rfl⟩;rw[V.out]);refine Bo ?_
   repeat(go_big_quiet_step (exact cT _ _))
   refine Bn λwq bq=>?_
   go_wp2_with fail;go_ret;exact⟨AI S.out.symm,bq⟩
  .have hF:=EP hg
   have V:=AA (EX hg);have G:=AA (Rp (zZ:=zZ) (f:=f) (kind:=kind) (ss:=ss) hg);obtain⟨b,aq,rfl,hb,D0,D1,D2⟩:=H0.zP (show A9 x<zZ.length by omega);have d0:=xY D0;have d1:=xY D1;have M:=UB (w1:=w) (λW hW=>Ot v ss (zS zZ (A9 x)).g W (BD.below hv hW));obtain⟨av,cv,rfl,_,_⟩:=hv.shape;have i1:((A9 x:Nat):Int)<zZ.length:=by omega
   clear H0 hI hv h1 h2 h3 h4 hk hc ae D0 D1 D2 cH hg;generalize A9 x=o at*
   by_cases e1:o=f
   .have t1:((o:Int)==(f:Int))=true:=by simp[e1]
    have S:=AA (show(!FQ zZ f kind ss x)=true by rw[G.out];simp[e1]);clear e1;go_in;go_wp2_with (go_at_call 150;refine(CE.out _).mono ?_;rintro e w' ⟨rfl,rfl⟩;rw[V.out]);refine Bo ?_
    repeat(go_big_quiet_step (first|exact cT _ _|exact M _ _))
    refine Bn λwq bq=>?_
    go_wp2_with fail;go_ret;exact⟨AI S.out.symm,bq⟩
   .have t1:((o:Int)==(f:Int))=false:=by simp;omega
    by_cases e2:(zS zZ o).k=kind - 1
    focus
     have t2:((zS zZ o).k !=kind - 1)=false:=by simp[e2]
     have S:=AA (show(!FQ zZ f kind ss x)=!Bv ss (zS zZ o).g by rw[G.out];simp[e1,e2])
    rotate_left
    focus
     have t2:((zS zZ o).k !=kind - 1)=true:=by simp[e2]
     have S:=AA (show(!FQ zZ f kind ss x)=true by rw[G.out];simp[e2])
    rotate_left
    all_goals
     clear e1 e2;go_in;go_wp2_with (go_at_call 150;refine(CE.out _).mono ?_;rintro e w' ⟨rfl,rfl⟩;rw[V.out]);refine Bo ?_
     repeat(go_big_quiet_step (first|exact cT _ _|exact M _ _))
     refine Bn λwq bq=>?_
     go_wp2_with fail;go_ret;exact⟨AI S.out.symm,bq⟩
theorem Yg(v iv rv:Value)(m:List (List Int))(zZ:List AU)(f:Nat)(kind:Int)(ss:List ByteArray)(w:World)(h:Bf w v m)(ac:Bs m=true)(hI:BS w iv zZ)(hl:zZ.length=12)(hf:f<12)(hk:Bd kind=true)(hv:BR w rv ss):
 Calls prog 103 #[v,iv,.int .i64 f,.int .i64 kind,rv] w λe w'=>e=.returned (.bool (Iw m zZ f kind ss))/\Below w.heap.size w w':=by
 obtain⟨ai,ci,rfl,_,_⟩:=hI.shape;obtain⟨av,cv,rfl,_,_⟩:=hv.shape;have b4:=aS w (.cells #[.slice ai zZ.length ci] 24) (.cells #[.int .i64 f] 3) (.cells #[.int .i64 kind] 3) (.cells #[.slice av ss.length cv] 72);have N0:=yv w (.cells #[.slice ai zZ.length ci] 24);have N1:=yv (w.alloc (.cells #[.slice ai zZ.length ci] 24)) (.cells #[.int .i64 f] 3);have N2:=yv ((w.alloc (.cells #[.slice ai zZ.length ci] 24)).alloc (.cells #[.int .i64 f] 3)) (.cells #[.int .i64 kind] 3);have N3:=yv (((w.alloc (.cells #[.slice ai zZ.length ci] 24)).alloc (.cells #[.int .i64 f] 3)).alloc (.cells #[.int .i64 kind] 3)) (.cells #[.slice av ss.length cv] 72);simp only[xv] at N1 N2 N3;have M2:=AC N2 (AE _ (.cells #[.slice av ss.length cv] 72));have M1:=AC N1 (HJ _ (.cells #[.int .i64 kind] 3) (.cells #[.slice av ss.length cv] 72));have M0:=AC N0 (YQ _ (.cells #[.int .i64 f] 3) (.cells #[.int .i64 kind] 3) (.cells #[.slice av ss.length cv] 72));obtain⟨q,c,rfl,hc,ae,H0⟩:=h.open;have cm:=(Ai.1 ac).1;obtain⟨bm,bY,br,bN,cr,rfl,cL,D,cQ,dp,W0⟩:=H0.row4 ac hf;have D':=(b4.cell (p:=⟨bm,bY+f,none⟩) cL).trans D;have rd:=(Bf.open (Bf.below h b4));have cI:Aw ((((w.alloc (.cells #[.slice ai zZ.length ci] 24)).alloc (.cells #[.int .i64 f] 3)).alloc (.cells #[.int .i64 kind] 3)).alloc (.cells #[.slice av ss.length cv] 72)) (.slice (some ⟨br,bN,none⟩) 4 cr) (AH m f):=by obtain⟨b',b7,u,e,_,dn,hr⟩:=H0 f (by omega);cases e;rw[D] at dn;cases dn;exact Aw.below hr b4
 have S:=AA (show(!(AH m f).any λx=>!FQ zZ f kind ss x)=Iw m zZ f kind ss by rw[Mg];rfl);have hw:∀x,x∈AH m f->x<=9999:=λx hx=>((A3.1 ((Ai.1 ac).2 f hf)).2 x hx).2
 have C:=AA (Jf 157 #[.pointer (some ⟨w.heap.size+1,0,none⟩),.pointer (some ⟨w.heap.size,0,none⟩),.pointer (some ⟨w.heap.size+1+1,0,none⟩),.pointer (some ⟨w.heap.size+1+1+1,0,none⟩)] (λx=>!FQ zZ f kind ss x) _ (AH m f) _ cI (λ_ _=>by kernel_rfl) (by intro x hx W hW;have hb:=b4.trans (hW.mono b4.size);exact XQ x f kind _ _ ss zZ _ _ _ _ W (by have:=hw x hx;omega) (yi _ _ 0 _ _ _ (AC M1 hW)) (yi _ _ 0 _ _ _ (AC M0 hW)) (yi _ _ 0 _ _ _ (AC M2 hW)) (yi _ _ 0 _ _ _ (AC N3 hW)) (BD.below hv hb) (BD.below hI hb) hl hk))
 have fm:(f:Int)<m.length:=by omega
 clear hv hI h cI hw N0 N1 N2 N3 M0 M1 M2 W0 rd H0 D hl cm ac;go_in;go_wp2_with (refine(C.out).mono ?_;rintro e w' ⟨rfl,al⟩);go_ret;exact⟨AI S.out,b4.trans (al.mono b4.size)⟩
def IY(m:List (List Int))(zZ:List AU)(t j g:Nat):Nat:=
 ((yC t).map λu=>if Bd (zS zZ u).k then(named (AH m u)).count g else 0).sum+(named ((AH m t).take j)).count g
def Gd(m:List (List Int))(zZ:List AU)(t j:Nat):List Int:=(yC 12).map λg=>(IY m zZ t j g:Int)
section
variable {m:List (List Int)} {zZ:List AU} {t j g:Nat}
theorem JV:(Gd m zZ t j).length=12:=by simp[Gd]
theorem PR(h:g<12):nth (Gd m zZ t j) g=IY m zZ t j g:=by unfold Gd nth;rw[List.getD_eq_getElem?_getD,List.getElem?_map,List.getElem?_range h];rfl
theorem Rf:Gd m zZ 0 0=xV 12 0:=by simp[Gd,IY,named,yC,List.range.loop,xV]
theorem Zi(hj:j<(AH m t).length)(h:Bh ((AH m t).getD j 0)=false):Gd m zZ t (j+1)=Gd m zZ t j:=by unfold Gd IY;rw[KZ hj,h];simp
theorem YV(hj:j<(AH m t).length)(h:Bh ((AH m t).getD j 0)=true):
 Gd m zZ t (j+1)=(Gd m zZ t j).set (A9 ((AH m t).getD j 0)) (IY m zZ t j (A9 ((AH m t).getD j 0))+1):=by
 refine Lm (by simp[Gd]) λg hg=>?_
 rw[JV] at hg;have hf:=EP h;rw[TW (by rw[JV];exact hf),PR hg,PR hg];unfold IY;rw[KZ hj,h,if_pos rfl,List.count_append]
 by_cases e:g=A9 ((AH m t).getD j 0)
 .subst e;simp;omega
 .rw[if_neg e,List.count_singleton]
  have:(A9 ((AH m t).getD j 0)==g)=false:=by simp;exact λh=>e h.symm
  rw[this];simp
theorem YU(hk:Bd (zS zZ t).k=true)(hl:(AH m t).length=4):Gd m zZ t 4=Gd m zZ (t+1) 0:=by unfold Gd IY;rw[wZ (n:=t),wD (Nat.le_of_eq hl)];simp[hk,named]
theorem Re(hk:Bd (zS zZ t).k=false):Gd m zZ t 0=Gd m zZ (t+1) 0:=by unfold Gd IY;rw[wZ (n:=t)];simp[hk,named]
theorem UI:Gd m zZ 12 0=(yC 12).map λg=>(countP m zZ g:Int):=by unfold Gd IY countP;simp[named]
theorem PT(hm:Bs m=true)(ht:t<=12)(hj:j<=4):IY m zZ t j g<=100:=by
 have h1:((yC t).map λu=>if Bd (zS zZ u).k then(named (AH m u)).count g else 0).sum<=4*t:=by
  clear hj
  induction t with
  |zero=>simp
  |succ t ih=>
   have:=ih (by omega);rw[wZ,xE,List.sum_append];have h2:(if Bd (zS zZ t).k then(named (AH m t)).count g else 0)<=4:=by
    split
    .have h3:=vN (a:=g) (l:=named (AH m t))
     have h4:=FJ (r:=AH m t);have h5:=(A3.1 ((Ai.1 hm).2 t (by omega))).1;omega
    .omega
   simp only[List.map_cons,List.map_nil,List.sum_cons,List.sum_nil];omega
 have h3:=vN (a:=g) (l:=named ((AH m t).take j));have h4:=FJ (r:=(AH m t).take j);rw[xT] at h4;unfold IY;omega
end
theorem UL(v iv:Value)(m:List (List Int))(zZ:List AU)(w:World)(h:Bf w v m)(ac:Bs m=true)(hI:BS w iv zZ)(hl:zZ.length=12):
 Calls prog 97 #[v,iv] w λe w'=>∃v',e=.returned v'/\AF w.heap.size w' v' ((yC 12).map λg=>(countP m zZ g:Int))/\Below w.heap.size w w':=by
 obtain⟨q,c,rfl,hc,ae,H0⟩:=h.open;obtain⟨a2,c2,rfl,cf,ct,H2⟩:=BD.open Ay (by decide) hI;have cm:=(Ai.1 ac).1;unfold maxLen at ae ct;rw[cm] at hc ⊢;rw[hl] at cf ⊢;have bu:=AA ac;have HR:=AA H0;have HI:=AA H2;have Hl:=AA hl;clear h ac H0 H2 cm hI hl;go_in;go_wp2_with (at_make;go_must (refine Ow (n:=12) rfl rfl 3 (.int .i64 0) 8 underlying29 Tryz.zI rfl rfl (by omega) (by unfold maxLen;omega) ?_;intro w1 ar ab cO));have dr:AF w.heap.size w1 (.slice (some ⟨w.heap.size,0,none⟩) 12 12) (Gd m zZ 0 0):=by unfold AF;rw[JV,Rf];exact ar
 have bt:w.heap.size<=w.heap.size:=yt _;have dN:=AA ab;clear ar ab;go_loopw [16] (λi wr=>∃t:Nat,t<=12/\i=.int .i64 t/\AF w.heap.size wr (.slice (some ⟨w.heap.size,0,none⟩) 12 12) (Gd m zZ t 0)/\Below w.heap.size w wr) (λi _=>12 - (intOf i).toNat)
 case atStart=>exact⟨0,yh _,rfl,dr,dN.out⟩
 case round=>
  obtain⟨t,ht,rfl,hO,ab⟩:=hrel;clear dr
  by_cases ax:t<12
  .obtain⟨b,aq,rfl,bA,D0,D1,D2⟩:=HI.out.zP (show t<zZ.length by rw[Hl.out];exact ax)
   replace D0:=(ab.cell (p:=⟨b,aq+t*3,none⟩) bA).trans D0;replace D1:=(ab.cell (p:=⟨b,aq+t*3+1,none⟩) bA).trans D1;replace D2:=(ab.cell (p:=⟨b,aq+t*3+2,none⟩) bA).trans D2;have N:=yv wr (.cells #[.int .i64 (zS zZ t).k,.string (zS zZ t).g,.int .i64 (zS zZ t).r] 92);have bK:=ab.trans ((AE wr (.cells #[.int .i64 (zS zZ t).k,.string (zS zZ t).g,.int .i64 (zS zZ t).r] 92)).mono ab.size);have HO:=AA (AF.below hO (AE wr (.cells #[.int .i64 (zS zZ t).k,.string (zS zZ t).g,.int .i64 (zS zZ t).r] 92)));have CT:=AA (λW=>Ic (zS zZ t).k W);clear hO;obtain⟨bm,bY,br,bN,cr,rfl,cL,M0,cQ,dp,W0⟩:=HR.out.row4 bu.out ax;have HW:=AA W0;have M:=(bK.cell (p:=⟨bm,bY+t,none⟩) cL).trans M0;have cx:=AA (A3.1 ((Ai.1 bu.out).2 _ ax)).1;clear W0 M0;cases hk:Bd (zS zZ t).k
   .have S:=AA (Re (m:=m) hk)
    have HK:=AA hk;clear hk;go_wp2_with (go_at_call 102;refine(CT.out _).mono ?_;rintro e w' ⟨rfl,rfl⟩;rw[HK.out]);go_roundw
    case rel=>exact⟨t+1,by omega,by go_num,by rw[<-S.out];exact HO.out,bK⟩
    case measure=>simp[intOf];omega
   .have S:=AA (YU (m:=m) hk cx.out)
    have HK:=AA hk;clear hk;go_wp2_with (go_at_call 102;refine(CT.out _).mono ?_;rintro e w' ⟨rfl,rfl⟩;rw[HK.out]);generalize wr.alloc _=wa at*;clear D0 D1 D2 M N ab;have HB:=AA bK;clear bK;go_loopw [30] (λi wi=>∃j:Nat,j<=4/\i=.int .i64 j/\AF w.heap.size wi (.slice (some ⟨w.heap.size,0,none⟩) 12 12) (Gd m zZ t j)/\Below w.heap.size w wi) (λi _=>4 - (intOf i).toNat)
    case atStart=>exact⟨0,by omega,rfl,HO.out,HB.out⟩
    case round=>
     obtain⟨j,hj,rfl,b9,bC⟩:=hrel
     by_cases cd:j<4
     .have W:=(bC.cell (p:=⟨br,bN+j,none⟩) cQ).trans (HW.out j cd)
      have wb:=Gx bu.out ax cd;have CE:=AA (λW=>FT (Ar m t j) W (by omega));cases hg:Bh (Ar m t j)
      .have V:=AA (Eg hg)
       have E:=AA (Zi (zZ:=zZ) (show j<(AH m t).length by rw[cx.out];exact cd) hg);clear hg;go_wp2_with (go_at_call 150;refine(CE.out _).mono ?_;rintro e w' ⟨rfl,rfl⟩;rw[V.out]);go_roundw
       case rel=>exact⟨j+1,by omega,by go_num,by rw[E.out];exact b9,bC⟩
       case measure=>simp[intOf];omega
      .have V:=AA (EX hg)
       have hF:=EP hg;have E:=AA (YV (zZ:=zZ) (show j<(AH m t).length by rw[cx.out];exact cd) hg);have dZ:=PT (zZ:=zZ) (g:=A9 (Ar m t j)) bu.out (Nat.le_of_lt ax) hj;have b6:wr.ownsRow w.heap.size 3 1 (.slice (some ⟨w.heap.size,0,none⟩) 12 12) 12 ((Gd m zZ t j).map (yf .i64)):=by have:=b9;unfold AF at this;rwa [JV] at this
       have C:=(b6.cellAt (A9 (Ar m t j)) (by omega)).trans (FV (xs:=Gd m zZ t j) (by rw[JV];exact hF));rw[PR hF] at C;have Fr:=b6.frozenAt (A9 (Ar m t j));have S2:=AA (b6.stored (A9 (Ar m t j)) (.int .i64 ((IY m zZ t j (A9 (Ar m t j)):Int)+1)));have e0:(AH m t).getD j 0=Ar m t j:=rfl;rw[e0] at E;clear hg e0 b6 b9;generalize A9 (Ar m t j)=f at*;generalize IY m zZ t j f=n at*;go_wp2_with (go_at_call 150;refine(CE.out _).mono ?_;rintro e w' ⟨rfl,rfl⟩;rw[V.out]);go_roundw
       case rel=>refine⟨j+1,by omega,by go_num,?_,AM bC S2.out.2 bt bC.size⟩;rw[E.out];unfold AF;rw[xS,JV,List.map_set];exact S2.out.1
       case measure=>simp[intOf];omega
     .obtain rfl:j=4:=by omega
      go_wp2_with fail;go_roundw
      case rel=>exact⟨t+1,by omega,by go_num,by rw[<-S.out];exact b9,bC⟩
      case measure=>simp[intOf];omega
  .obtain rfl:t=12:=by omega
   rw[UI] at hO;go_wp2_with fail;go_ret;exact⟨_,rfl,hO,ab⟩
theorem XL{α:Type}{cs:α->List Value}{sz:Nat}(hs:∀x,(cs x).length=sz){xs:List α}{k j:Nat}{x y:α}{u:Value}(hk:xs[k]?=some x)(hj:j<sz)(hy:cs y=(cs x).set j u):
 (Ci cs xs).set (k*sz+j) u=Ci cs (xs.set k y):=by
 have h1:=UT hs (yr.1 hk).1 y;rw[<-h1];refine List.ext_getElem? λi=>?_
 obtain⟨ax,hx⟩:=yr.1 hk;have hb:k*sz+sz<=xs.length*sz:=by rw[<-Nat.succ_mul];exact vE _ ax
 rw[h1,we,J3 hs]
 by_cases hi:i<xs.length*sz
 .have hz:0<sz:=by omega
  have c8:i/sz<xs.length:=Nat.div_lt_of_lt_mul (by rw[tP];exact hi);have cl:=Nat.mod_lt i hz;have dc:i/sz*sz+i%sz=i:=by rw[tP];exact Nat.div_add_mod i sz
  have ha:(Ci cs xs)[i]?=(cs xs[i/sz])[i%sz]? :=by have:=Oq hs (yu c8) cl;rw[dc] at this;exact this
  have cR:(Ci cs (xs.set k y))[i]?=(cs ((xs.set k y)[i/sz]'(by rw[xS];exact c8)))[i%sz]? :=by have:=Oq hs (yu (l:=xs.set k y) (i:=i/sz) (by rw[xS];exact c8)) cl;rw[dc] at this;exact this
  rw[ha,cR,List.getElem_set]
  by_cases e:k=i/sz
  .subst e
   rw[if_pos rfl,hy,we,hx,hs]
   by_cases e2:j=i%sz
   .subst e2;rw[if_pos dc,if_pos (by omega),if_pos rfl,if_pos cl]
   .rw[if_neg (by omega),if_neg e2]
  .rw[if_neg e]
   have:¬k*sz+j=i:=by intro h;apply e;rw[<-h,tP,Nat.mul_add_div hz,Nat.div_eq_of_lt hj,Nat.add_zero]
   rw[if_neg this]
 .rw[tO (by rw[J3 hs];omega),tO (by rw[J3 hs,xS];omega),if_neg (by omega)]
section
variable {α:Type} {lo e sz:Nat} {cs:α->List Value} {w:World} {g bn k j:Nat} {xs:List α}
theorem AQ.zx(hs:∀x,(cs x).length=sz)(h:AQ lo e sz cs w (.slice (some ⟨g,0,none⟩) xs.length bn) xs){x y:α}{u:Value}(hk:xs[k]?=some x)(hj:j<sz)(hy:cs y=(cs x).set j u):
 AQ lo e sz cs (w.setCell ⟨g,k*sz+j,none⟩ u) (.slice (some ⟨g,0,none⟩) xs.length bn) (xs.set k y)/\w.grownBy (w.setCell ⟨g,k*sz+j,none⟩ u) (some g):=by
 obtain⟨h1,h2⟩:=World.ownsRow.stored h (k*sz+j) u;rw[XL hs hk hj hy] at h1;refine⟨?_,h2⟩;unfold AQ;rw[xS];exact h1
end
theorem Cj{k:Nat}(h:k<l.length):l[k]?=some (zS l k):=by simp[zS,h]
theorem KY{k:Nat}{f:AU->AU}:As l k f=l.set k (f (zS l k)):=JM
theorem Jx{s:ByteArray}(h:BP s=true):s.size<=4:=by unfold BP at h;simp only[Bool.and_eq_true,decide_eq_true_eq] at h;exact h.2
theorem Hj{x:AU}(h:DI x=true):x.g.size<=maxLen/\0<=x.r/\x.r<=50:=by
 unfold DI at h;simp only[Bool.or_eq_true,decide_eq_true_eq,Bool.and_eq_true,Ab] at h
 rcases h with rfl|⟨⟨_,h1⟩,h2⟩
 .exact⟨by simp[AU.zero,ByteArray.size],by simp[AU.zero],by simp[AU.zero]⟩
 .exact⟨yB (Jx h1) (by decide),h2.1,h2.2⟩
theorem Sa(h:∀f,f<l.length->(zS l f).g.size<=maxLen):IF l:=by intro x hx;obtain⟨i,hi,rfl⟩:=wP hx;have:=h i hi;simpa[zS,hi] using this
theorem CJ(h:BI l=true):IF l:=Sa λf hf=>(Hj ((Az.1 h).2 f (by have:=(Az.1 h).1;omega))).1
theorem LT{zZ:List AU}(h:BI zZ=true){fs:List Nat}(db:fs.length<=4){n:Int}(hn:n=1∨n= -1){g:Nat}(hg:g<12):
 -4<=(zS (Bi zZ fs n) g).r/\(zS (Bi zZ fs n) g).r<=54/\(zS (Bi zZ fs n) g).g.size<=maxLen:=by
 obtain⟨hl,h2⟩:=Az.1 h;obtain⟨a,b,c⟩:=Hj (h2 g hg);rw[M5 (by omega)];have:=vN (a:=g) (l:=fs);refine⟨?_,?_,a⟩
 .show -4<=_+n*_
  rcases hn with rfl|rfl<;>omega
 .show _+n*_<=54
  rcases hn with rfl|rfl<;>omega
theorem ag{m:List (List Int)}{zZ:List AU}:Hy m zZ f kind ss=
 if(zS zZ f).k≠1∨(zS zZ f).r≠0 then(zZ,1)
 else if Iw m zZ f kind ss=false then(zZ,2)
 else if BI (As (Bi zZ (named (AH m f)) 1) f (ER kind)) then(As (Bi zZ (named (AH m f)) 1) f (ER kind),0) else(zZ,1):=rfl
theorem ZQ{m:List (List Int)}{zZ:List AU}:Dm m zZ f=
 if Bd (zS zZ f).k=false∨(zS zZ f).r≠0 then(zZ,1)
 else if BI (As (Bi zZ (named (AH m f)) (-1)) f (ER 1)) then(As (Bi zZ (named (AH m f)) (-1)) f (ER 1),0) else(zZ,2):=rfl
theorem Pp{m:List (List Int)}(h:Bs m=true){f:Nat}(hf:f<12):(named (AH m f)).length<=4:=by have h1:=FJ (r:=AH m f);have h2:=(A3.1 ((Ai.1 h).2 f hf)).1;omega
theorem Sb{m:List (List Int)}{zZ:List AU}{n:Int}(hm:Bs m=true)(h:BI zZ=true)(hf:f<12)(hn:n=1∨n= -1):IF (As (Bi zZ (named (AH m f)) n) f (ER kind)):=by
 refine Sa λg hg=>?_
 rw[Cz,Nu,(Az.1 h).1] at hg;have h1:=(LT h (Pp hm hf) hn hg).2.2;rw[FW]
 split
 .exact(LT h (Pp hm hf) hn hf).2.2
 .exact h1
def VN(r:List AU×Int)(w:World)(e:Ending)(w':World):Prop:=∃v',e=.returned (.tuple #[v',.int .i64 r.2])/\AQ w.heap.size 92 3 A2 w' v' r.1/\Below w.heap.size w w'
theorem Tryz.yX:(prog.info? 29).map (λi=>(i.zero,i.size,i.bytes))=some (some (.slice none 0 0),1,24):=by kernel_rfl
theorem La:29≠3:=by decide
theorem J9{lo e sz B:Nat}{w:World}{xs:List Value}(h:w.ownsRow lo e sz v n xs)(hu:∀k,u.ownBlock=some k->w.heap.size<=k):Fg v u:=by intro k hk dB;have h1:=(h.lt k hk).2;have h2:=hu k dB;omega
theorem Au.push{lo:Nat}{w w1 w2:World}{v':Value}{vs:List Value}{cV:List (List Int)}{x:List Int}
 (h:Au lo w v vs cV)(hb:Below w.heap.size w w1)(bx:lo<=w.heap.size)(hu:AF w.heap.size w1 u x)
 (h1:w2.ownsRow lo 29 1 v' (vs.length+1) (Ci GC vs++[u]))(h2:w1.grownBy w2 v.ownBlock):Au lo w2 v' (vs++[u]) (cV++[x]):=by
 obtain⟨a1,a2,a3⟩:=h;have cN:=a1.below hb;refine⟨?_,Fh.snoc (a2.mono λy ys hy=>?_) ?_,DG.snoc a3 λy hy=>?_⟩
 .unfold AQ
  rw[Bm,Er,yj];exact h1
 .have cG:=hy.below hb
  exact Av cG h2 (A7 cG cN (Ne.symm La)).ne
 .exact Av (BO hu bx) h2 (A7 hu cN (Ne.symm La)).ne
 .obtain⟨i,hi⟩:=xj hy
  obtain⟨ys,hys⟩:∃ys,cV[i]?=some ys:=⟨_,yu (by rw[<-a2.1];exact(yr.1 hi).1)⟩
  exact J9 (B:=0) (a2.2 i y ys hi hys) (λk hk=>(hu.lt k hk).1)
def NR(n:Nat):List (List Int):=xV n [0,0,0,0]
theorem XZ(w:World):
 Calls prog 229 #[] w λe w'=>∃v vs,e=.returned v/\Au w.heap.size w' v vs (NR 12)/\Below w.heap.size w w':=by
 go_in;go_wp2_with fail;go_loopw [1,2] (λo i wr=>∃k:Nat,∃vs:List Value,k<=12/\vs.length=k/\i=.int .i64 k/\Au w.heap.size wr o vs (NR k)/\Below w.heap.size w wr) (λ_ i _=>12 - (intOf i).toNat)
 case atStart=>exact⟨0,[],by omega,rfl,rfl,⟨Cp _ _ _,Fh.nil,DG.nil⟩,AE _ _⟩
 case round=>
  obtain⟨k,vs,hk,hl,rfl,hO,ab⟩:=hrel;have Hl:=AA hl;clear hl
  by_cases ax:k<12
  .have dP:vs.length<=12:=by rw[Hl.out];omega
   go_wp2_with (first|(at_make;go_must (refine Ow (n:=4) rfl rfl 3 (.int .i64 0) 8 underlying29 Tryz.zI rfl rfl (by omega) (by unfold maxLen;omega) ?_;intro w2 ar b0 cO))|(at_builtin;go_must (refine Bc (lo:=w.heap.size) (n:=vs.length) (xs:=Ci GC vs) (m:=1) (news:=[.slice (some ⟨wr.heap.size,0,none⟩) 4 4]) rfl rfl 29 (.slice none 0 0) 1 24 underlying23 Tryz.yX rfl (by decide) rfl ((hO.below b0).below (AE _ _)).1 rfl (Rd.zC _ #[_] _ 1 1 _ (by simp) rfl (by simp[maxLen])) (by simp[xD]) (by unfold maxLen;omega) (by omega) (by have:=ab.size;simp;omega) ?_;intro o' w3 g1 g2 g3 g4)));go_roundw
   case rel=>have hu:AF wr.heap.size w2 (.slice (some ⟨wr.heap.size,0,none⟩) 4 4) [0,0,0,0]:=ar;have al:=b0.trans ((AE w2 (.cells #[.slice (some ⟨wr.heap.size,0,none⟩) 4 4] 29)).mono b0.size);have hP:=hO.push al ab.size (hu.below (AE _ _)) g1 g2;refine⟨k+1,vs++[.slice (some ⟨wr.heap.size,0,none⟩) 4 4],by omega,by rw[yj,Hl.out];rfl,by go_num,?_,(ab.trans (al.mono ab.size)).trans g4⟩;rw[show NR (k+1)=NR k++[[0,0,0,0]] by simp[NR,List.replicate_succ']];exact hP
   case measure=>simp[intOf];omega
  .obtain rfl:k=12:=by omega
   go_wp2_with fail;go_ret;exact⟨_,vs,rfl,hO,ab⟩
theorem Tryz.yW:(prog.info? 9).map (λi=>(i.zero,i.size,i.bytes))=some (some (.string ⟨#[]⟩),1,16):=by kernel_rfl
theorem Tryz.yR:(prog.info? 74).map (λi=>(i.zero,i.size,i.bytes))=some (some (.agg #[.slice none 0 0,.int .i64 0]),2,32):=by kernel_rfl
theorem Y2{ts:List ByteArray}:∀u∈Ci BB ts,u.oneCell'=true:=by intro u hu;obtain⟨s,_,hs⟩:=wV.1 hu;simp[BB] at hs;subst hs;rfl
theorem BD.keep{α:Type}{sz:Nat}{cs:α->List Value}{w:World}{xs:List α}(h:BD sz cs w v xs)(hk:∀k,k<w.heap.size->w'.heap[k]?=w.heap[k]?):BD sz cs w' v xs:=Rd.keep h hk
theorem DA.push{lo lo':Nat}{w w1 w2:World}{v' r:Value}{ps:List (Value×Int)}{es:List EU}{ts:List ByteArray}{n:Int}
 (h:DA lo w v ps es)(hb:Below w.heap.size w w1)(bx:lo<=lo')(c6:w.heap.size<=lo')(hr:AQ lo' 9 1 BB w1 r ts)
 (h1:w2.ownsRow lo 74 2 v' (ps.length+1) (Ci Ec ps++[r,.int .i64 n]))(h2:w1.grownBy w2 v.ownBlock):DA lo w2 v' (ps++[(r,n)]) (es++[⟨ts,n⟩]):=by
 obtain⟨a1,a2,a3⟩:=h;have cN:=a1.below hb;have dk:9≠74:=by decide
 refine⟨?_,Fh.snoc (a2.mono λy ys hy=>⟨?_,hy.2⟩) ⟨?_,rfl⟩,?_⟩
 .unfold AQ
  rw[Bm,Er,yj];exact h1
 .have cG:=hy.1.below hb
  exact Av cG h2 (A7 cG cN dk).ne
 .exact Av (BO hr bx) h2 (A7 hr cN dk).ne
 .rw[xE]
  refine DG.snoc a3 λy hy=>?_
  obtain⟨p,hp,rfl⟩:=uI.1 hy;obtain⟨i,hi⟩:=xj hp;obtain⟨e,he⟩:∃e,es[i]?=some e:=⟨_,yu (by rw[<-a2.1];exact(yr.1 hi).1)⟩
  exact J9 (B:=0) (a2.2 i p e hi he).1 (λk hk=>yB c6 (hr.lt k hk).1)
def Zl(lo lo' g:Nat)(cU u ev:Value)(b at_:Nat)(k:Int)(ts:List ByteArray)(ps:List (Value×Int))(es:List EU)(i:Nat)(v:Value)(w:World):Prop:=match i with
 |0|11=>v=.pointer (some ⟨g,2,none⟩)
 |1=>v=ev
 |2=>∃g2,v=.slice (some ⟨g2,0,none⟩) 0 0/\lo'<=g2/\w.heap[g2]?=some (.cells #[] 9 (0,0))
 |3=>v=cU
 |4=>v=.int .i64 k
 |5=>v=.pointer (some ⟨b,at_,none⟩)
 |6=>v=u
 |7=>AQ lo' 9 1 BB w v ts
 |8=>∃r,v=.agg #[r,.int .i64 (-1)]/\AQ lo' 9 1 BB w r ts
 |9=>∃r g9,v=.slice (some ⟨g9,0,none⟩) 1 1/\lo'<=g9/\w.heap[g9]?=some (.cells #[r,.int .i64 (-1)] 74 (0,0))/\AQ lo' 9 1 BB w r ts
 |10=>∃r,DA lo w v (ps++[(r,-1)]) (es++[⟨ts,-1⟩])
 |_=>True
theorem Bq{lo e sz:Nat}{w:World}{xs:List Value}{row:Option Nat}(h:w.ownsRow lo e sz v n xs)(hg:w.grownBy w' row)(hr:∀k,row=some k->k<lo):w'.ownsRow lo e sz v n xs:=by
 refine Av h hg ?_;cases hv:v.ownBlock with
 |none=>exact .inl rfl
 |some k=>
  refine .inr λhe=>?_
  have h1:=hr k he.symm;have h2:=(h.lt k hv).1;omega
theorem Fk{w:World}{lo g:Nat}{o:Obj}{row:Option Nat}(h:w.heap[g]?=some o)(hl:lo<=g)(hg:w.grownBy w' row)(hr:∀k,row=some k->k<lo):w'.heap[g]?=some o:=
 (hg.block g (wO.1 h).1 (λe=>by have:=hr g e.symm;omega)).trans h
theorem Ll{lo lo' g:Nat}{cU ev:Value}{b at_:Nat}{k:Int}{ts:List ByteArray}{ps:List (Value×Int)}{es:List EU}{i:Nat}{w:World}{row:Option Nat}
 (h:Zl lo lo' g cU u ev b at_ k ts ps es i v w)(hg:w.grownBy w' row)(hr:∀k,row=some k->k<lo')(hi:i≠10∨row=none):Zl lo lo' g cU u ev b at_ k ts ps es i v w':=by
 match i with
 |0|1|3|4|5|6=>exact h
 |2=>obtain⟨g2,h0,h1,h2⟩:=h;exact⟨g2,h0,h1,Fk h2 h1 hg hr⟩
 |7=>exact Bq h hg hr
 |8=>obtain⟨r,h0,h1⟩:=h;exact⟨r,h0,Bq h1 hg hr⟩
 |9=>obtain⟨r,g9,h0,h1,h2,h3⟩:=h;exact⟨r,g9,h0,h1,Fk h2 h1 hg hr,Bq h3 hg hr⟩
 |10=>
  obtain⟨r,h0⟩:=h
  rcases hi with hi|hi
  .exact absurd rfl hi
  .subst hi;exact⟨r,h0.below ⟨hg.os,hg.tape,hg.output,hg.size,λk hk=>hg.block k hk (by simp)⟩⟩
 |11=>exact h
 |_+12=>trivial
end Go.Proofs.YtpdjjjdkhedibaaGreatDoor
